/- Plain facts on segments. -/
import Derived.Test.YtohjifnkajhhnaaGreatS1
namespace Go.Proofs.YtohjifnkajhhnaaGreat
open Go.RowKit Fx Vx Bx Ev
set_option linter.unusedVariables false
set_option linter.unusedSimpArgs false

theorem ratio_bd (n d : Int) : 0 ≤ ratio n d ∧ ratio n d ≤ 65536 := by
  unfold ratio
  split
  · omega
  split
  · omega
  split
  · have h0 := rd_nonneg (n := n * 65536) d (by omega)
    have h := (rd_err (n := n * 65536) (d := d) (by omega) (by omega) (by omega) (by omega)).2
    refine ⟨h0, ?_⟩
    by_cases hc : rd (n * 65536) d ≤ 65536
    · exact hc
    · have := Int.mul_le_mul_of_nonneg_right (show 65537 ≤ rd (n * 65536) d by omega) (show 0 ≤ d by omega)
      omega
  · have h0 := rd_nonneg (n := n) (rd d 65536) (by omega)
    omega
theorem cpT_bd (a b c d p q : Int) : 0 ≤ cpT a b c d p q ∧ cpT a b c d p q ≤ 65536 := ratio_bd _ _
theorem mul_scale {s t : Int} (h0 : 0 ≤ s) (h1 : s ≤ 536870911) (h2 : 0 ≤ t) (h3 : t ≤ 65536) : 0 ≤ mul s t ∧ mul s t ≤ s := by
  have e1 : sat s = s := sat_id (by omega) h1
  have e2 : sat t = t := sat_id (by omega) (by omega)
  unfold mul
  rw [e1, e2]
  have p0 : 0 ≤ s * t := Int.mul_nonneg h0 h2
  have p1 : s * t ≤ s * 65536 := Int.mul_le_mul_of_nonneg_left h3 h0
  have q0 := rd_nonneg (n := s * t) 65536 p0
  have q1 := (rd_err (n := s * t) (d := 65536) (by omega) (by omega) (by omega) (by omega)).2
  have q2 : rd (s * t) 65536 ≤ s := by omega
  rw [sat_id (by omega) (by omega)]
  exact ⟨q0, q2⟩
theorem mul_negl (s t : Int) : mul (-s) t = -mul s t := by
  unfold mul
  rw [sat_neg, Int.neg_mul, rd_neg, sat_neg]
theorem lerp_between (a c : Int) {t : Int} (h2 : 0 ≤ t) (h3 : t ≤ 65536) : min (sat a) (sat c) ≤ lerp a c t ∧ lerp a c t ≤ max (sat a) (sat c) := by
  have ba := sat_bd a
  have bc := sat_bd c
  unfold lerp add
  by_cases h : sat a ≤ sat c
  · have e : sub c a = min (sat c - sat a) 536870911 := by unfold sub; generalize sat c = x at *; generalize sat a = y at *; unfold sat; split <;> (try split) <;> omega
    have m := mul_scale (s := sub c a) (by omega) (by omega) h2 h3
    rw [sat_id (x := mul (sub c a) t) (by omega) (by omega), sat_id (x := sat a + mul (sub c a) t) (by omega) (by omega)]
    omega
  · have e : sub a c = min (sat a - sat c) 536870911 := by unfold sub; generalize sat c = x at *; generalize sat a = y at *; unfold sat; split <;> (try split) <;> omega
    have m := mul_scale (s := sub a c) (by omega) (by omega) h2 h3
    have e2 : mul (sub c a) t = -mul (sub a c) t := by rw [sub_anti c a, mul_negl]
    rw [e2]
    rw [sat_id (x := -mul (sub a c) t) (by omega) (by omega), sat_id (x := sat a + -mul (sub a c) t) (by omega) (by omega)]
    omega
theorem cpX_between (a c : Int) {t : Int} (h2 : 0 ≤ t) (h3 : t ≤ 65536) : min (sat a) (sat c) ≤ cpX t a c ∧ cpX t a c ≤ max (sat a) (sat c) := by
  unfold cpX
  split
  · omega
  split
  · omega
  · exact lerp_between a c h2 h3

theorem orient_swap' (a b c d e f : Int) : orient c d a b e f = - orient a b c d e f := by
  have e1 : orientN c d a b e f = - orientN a b c d e f := by
    unfold orientN
    generalize sat a = a; generalize sat b = b; generalize sat c = c; generalize sat d = d; generalize sat e = e; generalize sat f = f
    have p1 : (a - c) * (f - d) = a * f - a * d - c * f + c * d := by simp only [Int.sub_mul, Int.mul_sub]; omega
    have p2 : (b - d) * (e - c) = b * e - b * c - d * e + d * c := by simp only [Int.sub_mul, Int.mul_sub]; omega
    have p3 : (c - a) * (f - b) = c * f - c * b - a * f + a * b := by simp only [Int.sub_mul, Int.mul_sub]; omega
    have p4 : (d - b) * (e - a) = d * e - d * a - b * e + b * a := by simp only [Int.sub_mul, Int.mul_sub]; omega
    rw [p1, p2, p3, p4, Int.mul_comm d c, Int.mul_comm b c, Int.mul_comm d a, Int.mul_comm b a]
    omega
  have h1 := orient_minmax c d a b e f
  have h2 := orient_minmax a b c d e f
  omega
theorem orient_same (x y e f : Int) : orient x y x y e f = 0 := by
  have := (orient_minmax x y x y e f).2.2
  apply this
  simp [orientN]
theorem orient_a (a b c d : Int) : orient a b c d a b = 0 := by
  have := (orient_minmax a b c d a b).2.2
  apply this
  simp [orientN]
theorem orient_b (a b c d : Int) : orient a b c d c d = 0 := by
  have := (orient_minmax a b c d c d).2.2
  apply this
  simp only [orientN]
  rw [Int.mul_comm]; omega
theorem box_valid (x z y w : Int) : validB (min (sat x) (sat z)) (min (sat y) (sat w)) (max (sat x) (sat z)) (max (sat y) (sat w)) = true := by
  have m1 : ∀ p q : Int, sat (min (sat p) (sat q)) = min (sat p) (sat q) := by { intro p q; have := sat_bd p; have := sat_bd q; exact sat_id (by omega) (by omega) }
  have m2 : ∀ p q : Int, sat (max (sat p) (sat q)) = max (sat p) (sat q) := by { intro p q; have := sat_bd p; have := sat_bd q; exact sat_id (by omega) (by omega) }
  simp only [validB, satB, m1, m2, beq_self_eq_true, Bool.and_true, Bool.and_eq_true, decide_eq_true_eq]
  omega
theorem isec_iff (a b c d e f g h : Int) : isecB a b c d e f g h = true ↔ (orient a b c d e f * orient a b c d g h ≤ 0 ∧ orient e f g h a b * orient e f g h c d ≤ 0 ∧
    min (sat a) (sat c) ≤ max (sat e) (sat g) ∧ min (sat e) (sat g) ≤ max (sat a) (sat c) ∧ min (sat b) (sat d) ≤ max (sat f) (sat h) ∧ min (sat f) (sat h) ≤ max (sat b) (sat d)) := by
  simp only [isecB, overlapsB, loP, hiP, List.foldl, List.getD_cons_zero, List.getD_cons_succ, box_valid, Bool.true_and, overB, Bool.and_eq_true, decide_eq_true_eq, and_assoc]
theorem isec_comm (a b c d e f g h : Int) : isecB e f g h a b c d = isecB a b c d e f g h := by
  rw [Bool.eq_iff_iff, isec_iff, isec_iff]
  omega
theorem isec_revA (a b c d e f g h : Int) : isecB c d a b e f g h = isecB a b c d e f g h := by
  rw [Bool.eq_iff_iff, isec_iff, isec_iff, orient_swap' a b c d e f, orient_swap' a b c d g h, Int.neg_mul_neg, Int.mul_comm (orient e f g h c d)]
  omega
theorem isec_revB (a b c d e f g h : Int) : isecB a b c d g h e f = isecB a b c d e f g h := by
  rw [isec_comm, isec_revA, isec_comm]
theorem isec_share (a b c d e f : Int) : isecB a b c d a b e f = true := by
  rw [isec_iff, orient_a, orient_a]
  omega
theorem isec_share2 (a b c d e f : Int) : isecB a b c d c d e f = true := by
  rw [isec_iff, orient_b, orient_a]
  omega

theorem d2_sym (p q r s : Int) : d2 [p, q, r, s] = d2 [r, s, p, q] := by
  simp only [d2, List.getD_cons_zero, List.getD_cons_succ, dist2]
  generalize sat p = a; generalize sat q = b; generalize sat r = c; generalize sat s = d
  have e1 : (c - a) * (c - a) = (a - c) * (a - c) := by rw [show a - c = -(c - a) by omega, Int.neg_mul_neg]
  have e2 : (d - b) * (d - b) = (b - d) * (b - d) := by rw [show b - d = -(d - b) by omega, Int.neg_mul_neg]
  rw [e1, e2]
theorem d2_nearer (p q : List Int) : d2 (nearer p q) = min (d2 p) (d2 q) := by
  unfold nearer
  split <;> omega
theorem sdist_comm (a b c d e f g h : Int) : sdist e f g h a b c d = sdist a b c d e f g h := by
  unfold sdist
  rw [isec_comm]
  split
  · rfl
  · rename_i hi
    congr 2
    have hi' : ¬ isecB e f g h a b c d = true := by rw [isec_comm]; exact hi
    unfold clos
    rw [if_neg hi, if_neg hi']
    simp only [d2_nearer]
    have e1 : d2 (candA a b e f g h) = d2 (candC e f g h a b) := d2_sym _ _ _ _
    have e2 : d2 (candA c d e f g h) = d2 (candC e f g h c d) := d2_sym _ _ _ _
    have e3 : d2 (candA e f a b c d) = d2 (candC a b c d e f) := d2_sym _ _ _ _
    have e4 : d2 (candA g h a b c d) = d2 (candC a b c d g h) := d2_sym _ _ _ _
    rw [e1, e2, e3, e4]
    omega
theorem sdist_bd (a b c d e f g h : Int) : 0 ≤ sdist a b c d e f g h ∧ sdist a b c d e f g h ≤ 536870911 := by
  unfold sdist
  split
  · omega
  · have := isq_nonneg (d2 (clos a b c d e f g h))
    refine ⟨?_, sat_hi _⟩
    unfold sat; split <;> (try split) <;> omega
theorem sdist_isec {a b c d e f g h : Int} (hi : isecB a b c d e f g h = true) : sdist a b c d e f g h = 0 := by
  unfold sdist; rw [if_pos hi]

theorem cpT_same (a b p q : Int) : cpT a b a b p q = 0 := by
  simp [cpT, dist2, ratio]
theorem cpX_zero (a c : Int) : cpX 0 a c = sat a := by simp [cpX]
theorem in_box {x z y w p q : Int} (h1 : min (sat x) (sat z) ≤ p) (h2 : p ≤ max (sat x) (sat z)) (h3 : min (sat y) (sat w) ≤ q) (h4 : q ≤ max (sat y) (sat w)) : hasB (loP 0 [[x, y], [z, w]]) (loP 1 [[x, y], [z, w]]) (hiP 0 [[x, y], [z, w]]) (hiP 1 [[x, y], [z, w]]) p q = true := by
  have b1 := sat_bd x; have b2 := sat_bd z; have b3 := sat_bd y; have b4 := sat_bd w
  have e1 : sat p = p := sat_id (by omega) (by omega)
  have e2 : sat q = q := sat_id (by omega) (by omega)
  simp only [hasB, loP, hiP, List.foldl, List.getD_cons_zero, List.getD_cons_succ, box_valid, Bool.true_and, e1, e2, Bool.and_eq_true, decide_eq_true_eq]
  omega
end Go.Proofs.YtohjifnkajhhnaaGreat
