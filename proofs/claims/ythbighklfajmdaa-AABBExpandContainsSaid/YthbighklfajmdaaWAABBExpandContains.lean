/- The walk of caromlaw05.AABBExpandContains. -/
import Derived.Test.YthbighklfajmdaaK10
namespace Go.Proofs.Ythbighklfajmdaa
open Go.RowKit Fx Vx Bx Ev
set_option linter.unusedVariables false
set_option linter.unusedSimpArgs false

theorem sat_mono {x y : Int} (h : x ≤ y) : sat x ≤ sat y := by unfold sat; split <;> split <;> (try split) <;> (try split) <;> omega
theorem sat_z : sat 0 = 0 := by decide
theorem halfP_mono {a b c d e f g h : Int} (hc : containsB a b c d e f g h = true) : halfP e f g h ≤ halfP a b c d := by
  simp only [containsB, inB, Bool.and_eq_true, decide_eq_true_eq] at hc
  obtain ⟨⟨v1, v2⟩, ⟨⟨h1, h2⟩, h3⟩, h4⟩ := hc
  simp only [halfP, v1, v2, if_true]
  have m1 := sat_mono h1; have m2 := sat_mono h2; have m3 := sat_mono h3; have m4 := sat_mono h4
  unfold add sub
  have k1 := sat_mono (show sat g - sat e ≤ sat c - sat a by omega)
  have k2 := sat_mono (show sat h - sat f ≤ sat d - sat b by omega)
  have k3 := sat_mono k1
  have k4 := sat_mono k2
  exact sat_mono (by omega)
theorem grow_up {a b c d m : Int} (hv : validB a b c d = true) (hm : 0 ≤ m) : grownB a b c d m = true ∧ inB (sub a m) (sub b m) (add c m) (add d m) a b c d = true := by
  simp only [validB, satB, Bool.and_eq_true, decide_eq_true_eq, beq_iff_eq] at hv
  obtain ⟨⟨⟨h1, h2⟩, h3, h4⟩, h5, h6⟩ := hv
  have hs := sat_mono hm
  rw [sat_z] at hs
  have k1 : sub a m ≤ a := by { unfold sub; rw [h3]; have := sat_mono (show a - sat m ≤ a by omega); omega }
  have k2 : sub b m ≤ b := by { unfold sub; rw [h4]; have := sat_mono (show b - sat m ≤ b by omega); omega }
  have k3 : c ≤ add c m := by { unfold add; rw [h5]; have := sat_mono (show c ≤ c + sat m by omega); omega }
  have k4 : d ≤ add d m := by { unfold add; rw [h6]; have := sat_mono (show d ≤ d + sat m by omega); omega }
  refine ⟨?_, by simp only [inB, Bool.and_eq_true, decide_eq_true_eq]; omega⟩
  simp only [grownB, validB, satB, Bool.and_eq_true, decide_eq_true_eq, beq_iff_eq]
  exact ⟨⟨⟨by omega, by omega⟩, sat_sat _, sat_sat _⟩, sat_sat _, sat_sat _⟩
theorem grow_down {a b c d m : Int} (hv : validB a b c d = true) (hm : ¬ 0 ≤ m) : inB a b c d (sub a m) (sub b m) (add c m) (add d m) = true := by
  simp only [validB, satB, Bool.and_eq_true, decide_eq_true_eq, beq_iff_eq] at hv
  obtain ⟨⟨⟨h1, h2⟩, h3, h4⟩, h5, h6⟩ := hv
  have hs := sat_mono (show m ≤ 0 by omega)
  rw [sat_z] at hs
  have k1 : a ≤ sub a m := by { unfold sub; rw [h3]; have := sat_mono (show a ≤ a - sat m by omega); omega }
  have k2 : b ≤ sub b m := by { unfold sub; rw [h4]; have := sat_mono (show b ≤ b - sat m by omega); omega }
  have k3 : add c m ≤ c := by { unfold add; rw [h5]; have := sat_mono (show c + sat m ≤ c by omega); omega }
  have k4 : add d m ≤ d := by { unfold add; rw [h6]; have := sat_mono (show d + sat m ≤ d by omega); omega }
  simp only [inB, Bool.and_eq_true, decide_eq_true_eq]; omega
theorem exp_up {a b c d m : Int} (hv : validB a b c d = true) (hm : 0 ≤ m) : containsB (exq (validB a b c d && grownB a b c d m) (sub a m)) (exq (validB a b c d && grownB a b c d m) (sub b m)) (exq (validB a b c d && grownB a b c d m) (add c m)) (exq (validB a b c d && grownB a b c d m) (add d m)) a b c d = true := by
  obtain ⟨g, i⟩ := grow_up hv hm
  have g2 := g
  unfold grownB at g2
  simp only [hv, g, Bool.and_true, exq, if_true, containsB, g2, i]
theorem exp_down {a b c d m : Int} (hv : validB a b c d = true) (hm : ¬ 0 ≤ m) (hg : grownB a b c d m = true) : containsB a b c d (exq (validB a b c d && grownB a b c d m) (sub a m)) (exq (validB a b c d && grownB a b c d m) (sub b m)) (exq (validB a b c d && grownB a b c d m) (add c m)) (exq (validB a b c d && grownB a b c d m) (add d m)) = true := by
  have i := grow_down hv hm
  have g2 := hg
  unfold grownB at g2
  simp only [hv, hg, Bool.and_true, exq, if_true, containsB, g2, i]
theorem exp_none {a b c d m x : Int} (h : (validB a b c d && grownB a b c d m) = false) : exq (validB a b c d && grownB a b c d m) x = 0 := by simp [exq, h]

def c_law_AABBExpandContains : Con := ⟨9, pureRun [4, 0] (fun _ => []) fun _ => .bool true⟩
set_option maxRecDepth 100000 in
set_option maxHeartbeats 4000000 in
theorem con_law_AABBExpandContains : c_law_AABBExpandContains.Ok Try.prog := by
  refine con_pure (C := [c_aabb_Expand, c_aabb_Valid, c_aabb_Contains, c_aabb_HalfPerimeter, c_law05_example]) (pl := [(5, [0, 1, 2, 3, 4, 5, 6, 7, 8, 9, 10, 11, 12, 13], [0, 0, 3, 7, 15, 31, 15, 127, 255, 511, 1023, 2047, 4095, 8191]), (6, [0, 1, 2, 3, 4, 5, 6, 7, 8, 9, 10, 11, 12, 13, 14, 15, 16, 17, 18], [0, 0, 3, 7, 15, 15, 63, 127, 255, 511, 255, 2047, 4095, 8191, 16383, 32767, 65535, 131071, 262143])]) Try.func9 rfl (by kernel_rfl) T_ok (Cons.cons con_aabb_Expand (Cons.cons con_aabb_Valid (Cons.cons con_aabb_Contains (Cons.cons con_aabb_HalfPerimeter (Cons.cons con_law05_example (Cons.nil _)))))) mixed (by kernel_rfl) _ _ _ (fun l hl hpre => ?_)
  match l, hl with
  | [a1, a2, a3, a4, m], _ =>
    repeat' (first | (with_reducible refine And.intro ?_ ?_) | (with_reducible intro h) | ((fail_if_success (with_reducible refine Leaf.mk ?_)); (fail_if_success (with_reducible refine VC.mk ?_)); (fail_if_success (with_reducible refine Goes.mk ?_)); (fail_if_success (with_reducible refine Again.mk ?_)); (fail_if_success (with_reducible refine Rounds.mk ?_)); (fail_if_success (with_reducible show False)); (fail_if_success (with_reducible show True)); conv => whnf))
    all_goals try first | exact trivial | (refine Leaf.mk ?_; simp_all; done)
    all_goals (
      refine Leaf.mk ?_
      exfalso
      cases hv : validB a1 a2 a3 a4
      · have e := fun x => @exp_none a1 a2 a3 a4 m x (by rw [hv]; rfl)
        simp_all
      · by_cases hm : 0 ≤ m
        · have e1 := exp_up hv hm
          have e2 := halfP_mono e1
          simp_all
          try omega
        · cases hg : grownB a1 a2 a3 a4 m
          · have e := fun x => @exp_none a1 a2 a3 a4 m x (by rw [hv, hg]; rfl)
            simp_all
          · have e1 := exp_down hv hm hg
            have e2 := halfP_mono e1
            simp_all
            try omega)

theorem walk_AABBExpandContains (a1 a2 a3 a4 m : Int) (w : World) :
    Calls Try.prog 9 #[.agg #[.int .i64 a1, .int .i64 a2, .int .i64 a3, .int .i64 a4], .int .i64 m] w fun e w' => e = .returned (.bool true) ∧ Below w.heap.size w w' :=
  calls_con con_law_AABBExpandContains [.agg [.int .i64 a1, .int .i64 a2, .int .i64 a3, .int .i64 a4], .int .i64 m] [a1, a2, a3, a4, m] [.agg #[.int .i64 a1, .int .i64 a2, .int .i64 a3, .int .i64 a4], .int .i64 m] rfl (fun p hp => by cases hp) ⟨⟨_, rfl, rfl, rfl, rfl, rfl, trivial⟩, rfl, trivial⟩ rfl w
end Go.Proofs.Ythbighklfajmdaa
