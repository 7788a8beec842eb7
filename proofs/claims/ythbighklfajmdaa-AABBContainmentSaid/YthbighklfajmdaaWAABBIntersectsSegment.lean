/- The walk of caromlaw05.AABBIntersectsSegment. -/
import Derived.Test.YthbighklfajmdaaK10
namespace Go.Proofs.Ythbighklfajmdaa
open Go.RowKit Fx Vx Bx Ev
set_option linter.unusedVariables false
set_option linter.unusedSimpArgs false

theorem cnt_eq {s o : Int} (h : o = s) : cnt s o = 1 := by simp [cnt, h]
theorem cnt_ne {s o : Int} (h : o ≠ s) : cnt s o = 0 := by simp [cnt, h]
theorem cnt_bd (s o : Int) : 0 ≤ cnt s o ∧ cnt s o ≤ 1 := by unfold cnt; split <;> omega
theorem sideN4 (s x y z u a b c d : Int) : sideN s x y z u (corn a b c d) 4 = cnt s (orient x y z u a b) + cnt s (orient x y z u c b) + cnt s (orient x y z u c d) + cnt s (orient x y z u a d) := by
  show 0 + cnt s (orient x y z u a b) + cnt s (orient x y z u c b) + cnt s (orient x y z u c d) + cnt s (orient x y z u a d) = _
  omega
theorem sideN4_lt (s x y z u a b c d : Int) : (sideN s x y z u (corn a b c d) 4 < 4) ↔ (orient x y z u a b ≠ s ∨ orient x y z u c b ≠ s ∨ orient x y z u c d ≠ s ∨ orient x y z u a d ≠ s) := by
  rw [sideN4]
  unfold cnt
  by_cases h1 : orient x y z u a b = s <;> by_cases h2 : orient x y z u c b = s <;> by_cases h3 : orient x y z u c d = s <;> by_cases h4 : orient x y z u a d = s <;> simp [h1, h2, h3, h4]
theorem orient_swap (a b c d e f : Int) : orient c d a b e f = - orient a b c d e f := by
  have e1 : orientN c d a b e f = - orientN a b c d e f := by
    unfold orientN
    generalize sat a = a; generalize sat b = b; generalize sat c = c; generalize sat d = d; generalize sat e = e; generalize sat f = f
    have p1 : (a - c) * (f - d) = a * f - a * d - c * f + c * d := by simp only [Int.sub_mul, Int.mul_sub]; omega
    have p2 : (b - d) * (e - c) = b * e - b * c - d * e + d * c := by simp only [Int.sub_mul, Int.mul_sub]; omega
    have p3 : (c - a) * (f - b) = c * f - c * b - a * f + a * b := by simp only [Int.sub_mul, Int.mul_sub]; omega
    have p4 : (d - b) * (e - a) = d * e - d * a - b * e + b * a := by simp only [Int.sub_mul, Int.mul_sub]; omega
    rw [p1, p2, p3, p4, Int.mul_comm d c, Int.mul_comm b c, Int.mul_comm d a, Int.mul_comm b a]
    omega
  have h1 := orient_minmax c d a b e f
  have h2 := orient_minmax a b c d e f
  omega
theorem iseg_swap (a b c d x y z u : Int) : isegB a b c d z u x y = isegB a b c d x y z u := by
  have e1 : decide (sideN 1 z u x y (corn a b c d) 4 < 4) = decide (sideN (-1) x y z u (corn a b c d) 4 < 4) := by
    rw [decide_eq_decide, sideN4_lt, sideN4_lt]
    simp only [orient_swap x y z u]
    omega
  have e2 : decide (sideN (-1) z u x y (corn a b c d) 4 < 4) = decide (sideN 1 x y z u (corn a b c d) 4 < 4) := by
    rw [decide_eq_decide, sideN4_lt, sideN4_lt]
    simp only [orient_swap x y z u]
    omega
  simp only [isegB, e1, e2, Int.min_comm (sat z), Int.min_comm (sat u), Int.max_comm (sat z), Int.max_comm (sat u)]
  rw [Bool.and_comm (decide (sideN (-1) x y z u (corn a b c d) 4 < 4))]
theorem orient_self (x y e f : Int) : orient x y x y e f = 0 := by
  have := (orient_minmax x y x y e f).2.2
  apply this
  simp [orientN]
theorem iseg_self (a b c d x y : Int) : isegB a b c d x y x y = hasB a b c d x y := by
  have e1 : decide (sideN 1 x y x y (corn a b c d) 4 < 4) = true := by
    rw [decide_eq_true_eq, sideN4_lt]
    simp only [orient_self]; omega
  have e2 : decide (sideN (-1) x y x y (corn a b c d) 4 < 4) = true := by
    rw [decide_eq_true_eq, sideN4_lt]
    simp only [orient_self]; omega
  simp only [isegB, e1, e2, Bool.and_true, Int.min_self, Int.max_self, hasB, overB]
/-- A box that holds the one end: the line leaves no side of it empty. -/
theorem side_from {a b c d x y z u : Int} (h : hasB a b c d x y = true) : (sideN 1 x y z u (corn a b c d) 4 < 4) ∧ (sideN (-1) x y z u (corn a b c d) 4 < 4) := by
  simp only [hasB, validB, satB, Bool.and_eq_true, decide_eq_true_eq, beq_iff_eq] at h
  obtain ⟨⟨⟨⟨h1, h2⟩, h3, h4⟩, h5, h6⟩, ⟨⟨h7, h8⟩, h9⟩, h10⟩ := h
  have key : ∀ p q, (sat p = a ∨ sat p = c) → (sat q = b ∨ sat q = d) → True := fun _ _ _ _ => trivial
  have f : ∀ p q, sat p = p → sat q = q → orientN x y z u p q = (sat z - sat x) * (q - sat y) - (sat u - sat y) * (p - sat x) := fun p q hp hq => by simp only [orientN, hp, hq]
  have m := fun p q => orient_minmax x y z u p q
  have pos : ∀ {s t : Int}, 0 ≤ s → 0 ≤ t → 0 ≤ s * t := Int.mul_nonneg
  have k1 := f a b h3 h4; have k2 := f c b h5 h4; have k3 := f c d h5 h6; have k4 := f a d h3 h6
  have m1 := m a b; have m2 := m c b; have m3 := m c d; have m4 := m a d
  rw [sideN4_lt, sideN4_lt]
  generalize orientN x y z u a b = n1 at *
  generalize orientN x y z u c b = n2 at *
  generalize orientN x y z u c d = n3 at *
  generalize orientN x y z u a d = n4 at *
  generalize sat x = X at *; generalize sat y = Y at *; generalize sat z - X = D at *; generalize sat u - Y = E at *
  have sgn : ∀ (D t : Int), (0 ≤ D ∧ 0 ≤ t) ∨ (D ≤ 0 ∧ t ≤ 0) → 0 ≤ D * t := fun D t h => by
    rcases h with ⟨p, q⟩ | ⟨p, q⟩
    · exact Int.mul_nonneg p q
    · exact Int.mul_nonneg_of_nonpos_of_nonpos p q
  have sgn2 : ∀ (D t : Int), (0 ≤ D ∧ t ≤ 0) ∨ (D ≤ 0 ∧ 0 ≤ t) → D * t ≤ 0 := fun D t h => by
    rcases h with ⟨p, q⟩ | ⟨p, q⟩
    · exact Int.mul_nonpos_of_nonneg_of_nonpos p q
    · exact Int.mul_nonpos_of_nonpos_of_nonneg p q
  rcases Int.le_total 0 D with p | p <;> rcases Int.le_total 0 E with q | q
  · have a1 := sgn2 D (b - Y) (Or.inl ⟨p, by omega⟩); have a2 := sgn D (d - Y) (Or.inl ⟨p, by omega⟩); have a3 := sgn2 E (a - X) (Or.inl ⟨q, by omega⟩); have a4 := sgn E (c - X) (Or.inl ⟨q, by omega⟩)
    omega
  · have a1 := sgn2 D (b - Y) (Or.inl ⟨p, by omega⟩); have a2 := sgn D (d - Y) (Or.inl ⟨p, by omega⟩); have a3 := sgn E (a - X) (Or.inr ⟨q, by omega⟩); have a4 := sgn2 E (c - X) (Or.inr ⟨q, by omega⟩)
    omega
  · have a1 := sgn D (b - Y) (Or.inr ⟨p, by omega⟩); have a2 := sgn2 D (d - Y) (Or.inr ⟨p, by omega⟩); have a3 := sgn2 E (a - X) (Or.inl ⟨q, by omega⟩); have a4 := sgn E (c - X) (Or.inl ⟨q, by omega⟩)
    omega
  · have a1 := sgn D (b - Y) (Or.inr ⟨p, by omega⟩); have a2 := sgn2 D (d - Y) (Or.inr ⟨p, by omega⟩); have a3 := sgn E (a - X) (Or.inr ⟨q, by omega⟩); have a4 := sgn2 E (c - X) (Or.inr ⟨q, by omega⟩)
    omega
theorem iseg_from {a b c d x y z u : Int} (h : hasB a b c d x y = true) : isegB a b c d x y z u = true := by
  obtain ⟨s1, s2⟩ := side_from (z := z) (u := u) h
  simp only [hasB, Bool.and_eq_true, decide_eq_true_eq] at h
  obtain ⟨hv, ⟨⟨h7, h8⟩, h9⟩, h10⟩ := h
  simp only [isegB, overB, hv, s1, s2, decide_true, Bool.and_true, Bool.true_and, Bool.and_eq_true, decide_eq_true_eq]
  omega
theorem iseg_to {a b c d x y z u : Int} (h : hasB a b c d z u = true) : isegB a b c d x y z u = true := by rw [← iseg_swap]; exact iseg_from h

def c_law_AABBIntersectsSegment : Con := ⟨6, pureRun [4, 2, 2] (fun _ => []) fun _ => .bool true⟩
set_option maxRecDepth 100000 in
set_option maxHeartbeats 4000000 in
theorem con_law_AABBIntersectsSegment : c_law_AABBIntersectsSegment.Ok Try.prog := by
  refine con_pure (C := [c_aabb_IntersectsSegment, c_ref05_IntersectsSegment, c_aabb_ContainsPoint, c_law05_example]) (pl := [(4, [0, 1, 2, 3, 4, 5, 6, 7, 8, 9, 10, 11, 12, 13, 14, 15, 16, 17, 18, 19, 20, 21, 22, 23, 24, 25, 26], [0, 1, 3, 3, 15, 31, 63, 127, 127, 511, 1023, 2047, 4095, 8191, 16383, 16383, 16383, 131071, 16383, 16383, 1048575, 2097151, 4194303, 8388607, 16777215, 33554431, 67108863])]) Try.func6 rfl (by kernel_rfl) T_ok (Cons.cons con_aabb_IntersectsSegment (Cons.cons con_ref05_IntersectsSegment (Cons.cons con_aabb_ContainsPoint (Cons.cons con_law05_example (Cons.nil _))))) mixed (by kernel_rfl) _ _ _ (fun l hl hpre => ?_)
  match l, hl with
  | [a1, a2, a3, a4, x, y, z, u], _ =>
    repeat' (first | (with_reducible refine And.intro ?_ ?_) | (with_reducible intro h) | ((fail_if_success (with_reducible refine Leaf.mk ?_)); (fail_if_success (with_reducible refine VC.mk ?_)); (fail_if_success (with_reducible refine Goes.mk ?_)); (fail_if_success (with_reducible refine Again.mk ?_)); (fail_if_success (with_reducible refine Rounds.mk ?_)); (fail_if_success (with_reducible show False)); (fail_if_success (with_reducible show True)); conv => whnf))
    all_goals try first | exact trivial | (refine Leaf.mk ?_; simp_all; done)
    all_goals (
      have q1 := iseg_swap a1 a2 a3 a4 x y z u
      have q2 := iseg_self a1 a2 a3 a4 x y
      have q3 := @iseg_from a1 a2 a3 a4 x y z u
      have q4 := @iseg_to a1 a2 a3 a4 x y z u
      refine Leaf.mk ?_
      simp_all)

theorem walk_AABBIntersectsSegment (a1 a2 a3 a4 x y z u : Int) (w : World) :
    Calls Try.prog 6 #[.agg #[.int .i64 a1, .int .i64 a2, .int .i64 a3, .int .i64 a4], .agg #[.int .i64 x, .int .i64 y], .agg #[.int .i64 z, .int .i64 u]] w fun e w' => e = .returned (.bool true) ∧ Below w.heap.size w w' :=
  calls_con con_law_AABBIntersectsSegment [.agg [.int .i64 a1, .int .i64 a2, .int .i64 a3, .int .i64 a4], .agg [.int .i64 x, .int .i64 y], .agg [.int .i64 z, .int .i64 u]] [a1, a2, a3, a4, x, y, z, u] [.agg #[.int .i64 a1, .int .i64 a2, .int .i64 a3, .int .i64 a4], .agg #[.int .i64 x, .int .i64 y], .agg #[.int .i64 z, .int .i64 u]] rfl (fun p hp => by cases hp) ⟨⟨_, rfl, rfl, rfl, rfl, rfl, trivial⟩, ⟨_, rfl, rfl, rfl, trivial⟩, ⟨_, rfl, rfl, rfl, trivial⟩, trivial⟩ rfl w
end Go.Proofs.Ythbighklfajmdaa
