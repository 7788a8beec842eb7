/- The walk of caromlaw05.AABBContainment. -/
import Derived.Test.YthbighklfajmdaaWAABBIntersectsSegment
namespace Go.Proofs.Ythbighklfajmdaa
open Go.RowKit Fx Vx Bx Ev
set_option linter.unusedVariables false
set_option linter.unusedSimpArgs false

theorem cont_trans {a b c d e f g h i j k l : Int} (p : containsB a b c d e f g h = true) (q : containsB e f g h i j k l = true) : containsB a b c d i j k l = true := by
  simp only [containsB, inB, Bool.and_eq_true, decide_eq_true_eq] at *
  exact ⟨⟨p.1.1, q.1.2⟩, by omega⟩
theorem cont_over {a b c d e f g h i j k l : Int} (p : containsB a b c d e f g h = true) (q : overlapsB e f g h i j k l = true) : overlapsB a b c d i j k l = true := by
  simp only [containsB, overlapsB, overB, inB, Bool.and_eq_true, decide_eq_true_eq] at *
  exact ⟨⟨p.1.1, q.1.2⟩, by omega⟩
theorem cont_has {a b c d e f g h x y : Int} (p : containsB a b c d e f g h = true) (q : hasB e f g h x y = true) : hasB a b c d x y = true := by
  simp only [containsB, hasB, inB, Bool.and_eq_true, decide_eq_true_eq] at *
  exact ⟨p.1.1, by omega⟩
theorem un_a {a b c d e f g h : Int} (p : validB a b c d = true) : containsB (uni (validB a b c d) (validB e f g h) (min a e) a e) (uni (validB a b c d) (validB e f g h) (min b f) b f) (uni (validB a b c d) (validB e f g h) (max c g) c g) (uni (validB a b c d) (validB e f g h) (max d h) d h) a b c d = true := by
  cases q : validB e f g h
  · simp only [p, uni, if_true, Bool.false_eq_true, if_false, containsB, inB, Int.le_refl, decide_true, Bool.and_true]
  · have e1 : validB (min a e) (min b f) (max c g) (max d h) = true := by
      simp only [validB, satB, Bool.and_eq_true, decide_eq_true_eq, beq_iff_eq] at *
      have m : ∀ x y : Int, sat x = x → sat y = y → sat (min x y) = min x y ∧ sat (max x y) = max x y := fun x y h1 h2 => by
        rcases Int.le_total x y with k | k
        · rw [Int.min_eq_left k, Int.max_eq_right k]; exact ⟨h1, h2⟩
        · rw [Int.min_eq_right k, Int.max_eq_left k]; exact ⟨h2, h1⟩
      exact ⟨⟨⟨by omega, by omega⟩, (m _ _ p.1.2.1 q.1.2.1).1, (m _ _ p.1.2.2 q.1.2.2).1⟩, (m _ _ p.2.1 q.2.1).2, (m _ _ p.2.2 q.2.2).2⟩
    simp only [p, q, uni, if_true, containsB, e1, inB, Bool.true_and, Bool.and_eq_true, decide_eq_true_eq]
    omega
theorem un_b {a b c d e f g h : Int} (p : validB e f g h = true) : containsB (uni (validB a b c d) (validB e f g h) (min a e) a e) (uni (validB a b c d) (validB e f g h) (min b f) b f) (uni (validB a b c d) (validB e f g h) (max c g) c g) (uni (validB a b c d) (validB e f g h) (max d h) d h) e f g h = true := by
  cases q : validB a b c d
  · simp only [p, uni, if_true, Bool.false_eq_true, if_false, containsB, inB, Int.le_refl, decide_true, Bool.and_true]
  · have := un_a (a := e) (b := f) (c := g) (d := h) (e := a) (f := b) (g := c) (h := d) p
    simp only [p, q, uni, if_true] at *
    rw [Int.min_comm a e, Int.min_comm b f, Int.max_comm c g, Int.max_comm d h]
    exact this
theorem un_eq {a b c d e f g h : Int} (p : containsB a b c d e f g h = true) : uni (validB a b c d) (validB e f g h) (min a e) a e = a ∧ uni (validB a b c d) (validB e f g h) (min b f) b f = b ∧ uni (validB a b c d) (validB e f g h) (max c g) c g = c ∧ uni (validB a b c d) (validB e f g h) (max d h) d h = d := by
  simp only [containsB, inB, Bool.and_eq_true, decide_eq_true_eq] at p
  obtain ⟨⟨p1, p2⟩, p3⟩ := p
  simp only [p1, p2, uni, if_true]
  omega
theorem mul_mono {D x y : Int} (h : (0 ≤ D ∧ x ≤ y) ∨ (D ≤ 0 ∧ y ≤ x)) : D * x ≤ D * y := by
  rcases h with ⟨p, q⟩ | ⟨p, q⟩
  · exact Int.mul_le_mul_of_nonneg_left q p
  · exact Int.mul_le_mul_of_nonpos_left p q
/-- The corner of a greater box that lies lower. -/
theorem corner_low {D E X Y a b c d e f : Int} (h1 : a ≤ e) (h2 : e ≤ c) (h3 : b ≤ f) (h4 : f ≤ d) :
    (D * (b - Y) - E * (a - X) ≤ D * (f - Y) - E * (e - X)) ∨ (D * (b - Y) - E * (c - X) ≤ D * (f - Y) - E * (e - X)) ∨ (D * (d - Y) - E * (c - X) ≤ D * (f - Y) - E * (e - X)) ∨ (D * (d - Y) - E * (a - X) ≤ D * (f - Y) - E * (e - X)) := by
  rcases Int.le_total 0 D with p | p <;> rcases Int.le_total 0 E with q | q
  · have a1 := mul_mono (D := D) (x := b - Y) (y := f - Y) (Or.inl ⟨p, by omega⟩); have a2 := mul_mono (D := E) (x := e - X) (y := c - X) (Or.inl ⟨q, by omega⟩); omega
  · have a1 := mul_mono (D := D) (x := b - Y) (y := f - Y) (Or.inl ⟨p, by omega⟩); have a2 := mul_mono (D := E) (x := e - X) (y := a - X) (Or.inr ⟨q, by omega⟩); omega
  · have a1 := mul_mono (D := D) (x := d - Y) (y := f - Y) (Or.inr ⟨p, by omega⟩); have a2 := mul_mono (D := E) (x := e - X) (y := c - X) (Or.inl ⟨q, by omega⟩); omega
  · have a1 := mul_mono (D := D) (x := d - Y) (y := f - Y) (Or.inr ⟨p, by omega⟩); have a2 := mul_mono (D := E) (x := e - X) (y := a - X) (Or.inr ⟨q, by omega⟩); omega
theorem corner_high {D E X Y a b c d e f : Int} (h1 : a ≤ e) (h2 : e ≤ c) (h3 : b ≤ f) (h4 : f ≤ d) :
    (D * (f - Y) - E * (e - X) ≤ D * (b - Y) - E * (a - X)) ∨ (D * (f - Y) - E * (e - X) ≤ D * (b - Y) - E * (c - X)) ∨ (D * (f - Y) - E * (e - X) ≤ D * (d - Y) - E * (c - X)) ∨ (D * (f - Y) - E * (e - X) ≤ D * (d - Y) - E * (a - X)) := by
  have := corner_low (D := -D) (E := -E) (X := X) (Y := Y) h1 h2 h3 h4
  simp only [Int.neg_mul] at this
  omega
theorem side_mono {a b c d e f g h x y z u : Int} (p : containsB a b c d e f g h = true) : ((sideN 1 x y z u (corn e f g h) 4 < 4) → (sideN 1 x y z u (corn a b c d) 4 < 4)) ∧ ((sideN (-1) x y z u (corn e f g h) 4 < 4) → (sideN (-1) x y z u (corn a b c d) 4 < 4)) := by
  simp only [containsB, validB, satB, inB, Bool.and_eq_true, decide_eq_true_eq, beq_iff_eq] at p
  obtain ⟨⟨⟨⟨⟨h1, h2⟩, h3, h4⟩, h5, h6⟩, ⟨⟨⟨i1, i2⟩, i3, i4⟩, i5, i6⟩⟩, ⟨⟨h7, h8⟩, h9⟩, h10⟩ := p
  have f' : ∀ p q, sat p = p → sat q = q → orientN x y z u p q = (sat z - sat x) * (q - sat y) - (sat u - sat y) * (p - sat x) := fun p q hp hq => by simp only [orientN, hp, hq]
  have m := fun p q => orient_minmax x y z u p q
  have low := fun p q (k1 : a ≤ p) (k2 : p ≤ c) (k3 : b ≤ q) (k4 : q ≤ d) => corner_low (D := sat z - sat x) (E := sat u - sat y) (X := sat x) (Y := sat y) k1 k2 k3 k4
  have hig := fun p q (k1 : a ≤ p) (k2 : p ≤ c) (k3 : b ≤ q) (k4 : q ≤ d) => corner_high (D := sat z - sat x) (E := sat u - sat y) (X := sat x) (Y := sat y) k1 k2 k3 k4
  rw [sideN4_lt, sideN4_lt, sideN4_lt, sideN4_lt]
  have l1 := low e f (by omega) (by omega) (by omega) (by omega); have l2 := low g f (by omega) (by omega) (by omega) (by omega); have l3 := low g h (by omega) (by omega) (by omega) (by omega); have l4 := low e h (by omega) (by omega) (by omega) (by omega)
  have g1 := hig e f (by omega) (by omega) (by omega) (by omega); have g2 := hig g f (by omega) (by omega) (by omega) (by omega); have g3 := hig g h (by omega) (by omega) (by omega) (by omega); have g4 := hig e h (by omega) (by omega) (by omega) (by omega)
  rw [← f' e f i3 i4, ← f' a b h3 h4, ← f' c b h5 h4, ← f' c d h5 h6, ← f' a d h3 h6] at l1 g1
  rw [← f' g f i5 i4, ← f' a b h3 h4, ← f' c b h5 h4, ← f' c d h5 h6, ← f' a d h3 h6] at l2 g2
  rw [← f' g h i5 i6, ← f' a b h3 h4, ← f' c b h5 h4, ← f' c d h5 h6, ← f' a d h3 h6] at l3 g3
  rw [← f' e h i3 i6, ← f' a b h3 h4, ← f' c b h5 h4, ← f' c d h5 h6, ← f' a d h3 h6] at l4 g4
  have m1 := m a b; have m2 := m c b; have m3 := m c d; have m4 := m a d
  have n1 := m e f; have n2 := m g f; have n3 := m g h; have n4 := m e h
  have pos : ∀ {n o : Int}, ((0 < n → o = 1) ∧ (n < 0 → o = -1) ∧ (n = 0 → o = 0)) → ((o ≠ 1 ↔ n ≤ 0) ∧ (o ≠ -1 ↔ 0 ≤ n)) := fun {n o} k => by
    obtain ⟨k1, k2, k3⟩ := k
    rcases Int.lt_trichotomy n 0 with q | q | q
    · have := k2 q; omega
    · have := k3 q; omega
    · have := k1 q; omega
  rw [(pos m1).1, (pos m2).1, (pos m3).1, (pos m4).1, (pos n1).1, (pos n2).1, (pos n3).1, (pos n4).1, (pos m1).2, (pos m2).2, (pos m3).2, (pos m4).2, (pos n1).2, (pos n2).2, (pos n3).2, (pos n4).2]
  clear m1 m2 m3 m4 n1 n2 n3 n4 m pos low hig f'
  constructor
  · rintro (k | k | k | k)
    · rcases l1 with l | l | l | l
      · exact Or.inl (by omega)
      · exact Or.inr (Or.inl (by omega))
      · exact Or.inr (Or.inr (Or.inl (by omega)))
      · exact Or.inr (Or.inr (Or.inr (by omega)))
    · rcases l2 with l | l | l | l
      · exact Or.inl (by omega)
      · exact Or.inr (Or.inl (by omega))
      · exact Or.inr (Or.inr (Or.inl (by omega)))
      · exact Or.inr (Or.inr (Or.inr (by omega)))
    · rcases l3 with l | l | l | l
      · exact Or.inl (by omega)
      · exact Or.inr (Or.inl (by omega))
      · exact Or.inr (Or.inr (Or.inl (by omega)))
      · exact Or.inr (Or.inr (Or.inr (by omega)))
    · rcases l4 with l | l | l | l
      · exact Or.inl (by omega)
      · exact Or.inr (Or.inl (by omega))
      · exact Or.inr (Or.inr (Or.inl (by omega)))
      · exact Or.inr (Or.inr (Or.inr (by omega)))
  · rintro (k | k | k | k)
    · rcases g1 with l | l | l | l
      · exact Or.inl (by omega)
      · exact Or.inr (Or.inl (by omega))
      · exact Or.inr (Or.inr (Or.inl (by omega)))
      · exact Or.inr (Or.inr (Or.inr (by omega)))
    · rcases g2 with l | l | l | l
      · exact Or.inl (by omega)
      · exact Or.inr (Or.inl (by omega))
      · exact Or.inr (Or.inr (Or.inl (by omega)))
      · exact Or.inr (Or.inr (Or.inr (by omega)))
    · rcases g3 with l | l | l | l
      · exact Or.inl (by omega)
      · exact Or.inr (Or.inl (by omega))
      · exact Or.inr (Or.inr (Or.inl (by omega)))
      · exact Or.inr (Or.inr (Or.inr (by omega)))
    · rcases g4 with l | l | l | l
      · exact Or.inl (by omega)
      · exact Or.inr (Or.inl (by omega))
      · exact Or.inr (Or.inr (Or.inl (by omega)))
      · exact Or.inr (Or.inr (Or.inr (by omega)))
theorem cont_iseg {a b c d e f g h x y z u : Int} (p : containsB a b c d e f g h = true) (q : isegB e f g h x y z u = true) : isegB a b c d x y z u = true := by
  obtain ⟨s1, s2⟩ := side_mono (x := x) (y := y) (z := z) (u := u) p
  simp only [containsB, isegB, overB, inB, Bool.and_eq_true, decide_eq_true_eq] at *
  exact ⟨⟨p.1.1, by omega⟩, s1 q.2.1, s2 q.2.2⟩
theorem over_valid {a b c d e f g h : Int} (p : overlapsB a b c d e f g h = true) : validB a b c d = true := by simp only [overlapsB, Bool.and_eq_true] at p; exact p.1.1
theorem has_valid {a b c d x y : Int} (p : hasB a b c d x y = true) : validB a b c d = true := by simp only [hasB, Bool.and_eq_true] at p; exact p.1
theorem iseg_valid {a b c d x y z u : Int} (p : isegB a b c d x y z u = true) : validB a b c d = true := by simp only [isegB, Bool.and_eq_true] at p; exact p.1.1
theorem cont_valid {a b c d e f g h : Int} (p : containsB a b c d e f g h = true) : validB a b c d = true ∧ validB e f g h = true := by simp only [containsB, Bool.and_eq_true] at p; exact p.1

def c_law_AABBContainment : Con := ⟨10, pureRun [4, 4, 4, 4] (fun _ => []) fun _ => .bool true⟩
set_option maxRecDepth 100000 in
set_option maxHeartbeats 4000000 in
theorem con_law_AABBContainment : c_law_AABBContainment.Ok Try.prog := by
  refine con_pure (C := [c_aabb_Union, c_aabb_Valid, c_aabb_Contains, c_aabb_Overlaps, c_aabb_ContainsPoint, c_aabb_IntersectsSegment, c_law05_example]) (pl := []) Try.func10 rfl (by kernel_rfl) T_ok (Cons.cons con_aabb_Union (Cons.cons con_aabb_Valid (Cons.cons con_aabb_Contains (Cons.cons con_aabb_Overlaps (Cons.cons con_aabb_ContainsPoint (Cons.cons con_aabb_IntersectsSegment (Cons.cons con_law05_example (Cons.nil _)))))))) mixed (by kernel_rfl) _ _ _ (fun l hl hpre => ?_)
  match l, hl with
  | [a1, a2, a3, a4, b1, b2, b3, b4, c1, c2, c3, c4, x, y, z, u], _ =>
    have f1 : validB a1 a2 a3 a4 = true → containsB (uni (validB a1 a2 a3 a4) (validB b1 b2 b3 b4) (min a1 b1) a1 b1) (uni (validB a1 a2 a3 a4) (validB b1 b2 b3 b4) (min a2 b2) a2 b2) (uni (validB a1 a2 a3 a4) (validB b1 b2 b3 b4) (max a3 b3) a3 b3) (uni (validB a1 a2 a3 a4) (validB b1 b2 b3 b4) (max a4 b4) a4 b4) a1 a2 a3 a4 = true := un_a
    have f2 : validB b1 b2 b3 b4 = true → containsB (uni (validB a1 a2 a3 a4) (validB b1 b2 b3 b4) (min a1 b1) a1 b1) (uni (validB a1 a2 a3 a4) (validB b1 b2 b3 b4) (min a2 b2) a2 b2) (uni (validB a1 a2 a3 a4) (validB b1 b2 b3 b4) (max a3 b3) a3 b3) (uni (validB a1 a2 a3 a4) (validB b1 b2 b3 b4) (max a4 b4) a4 b4) b1 b2 b3 b4 = true := un_b
    have f3 : overlapsB b1 b2 b3 b4 c1 c2 c3 c4 = true → overlapsB (uni (validB a1 a2 a3 a4) (validB b1 b2 b3 b4) (min a1 b1) a1 b1) (uni (validB a1 a2 a3 a4) (validB b1 b2 b3 b4) (min a2 b2) a2 b2) (uni (validB a1 a2 a3 a4) (validB b1 b2 b3 b4) (max a3 b3) a3 b3) (uni (validB a1 a2 a3 a4) (validB b1 b2 b3 b4) (max a4 b4) a4 b4) c1 c2 c3 c4 = true := fun k => cont_over (f2 (over_valid k)) k
    have f4 : hasB b1 b2 b3 b4 x y = true → hasB (uni (validB a1 a2 a3 a4) (validB b1 b2 b3 b4) (min a1 b1) a1 b1) (uni (validB a1 a2 a3 a4) (validB b1 b2 b3 b4) (min a2 b2) a2 b2) (uni (validB a1 a2 a3 a4) (validB b1 b2 b3 b4) (max a3 b3) a3 b3) (uni (validB a1 a2 a3 a4) (validB b1 b2 b3 b4) (max a4 b4) a4 b4) x y = true := fun k => cont_has (f2 (has_valid k)) k
    have f5 : isegB b1 b2 b3 b4 x y z u = true → isegB (uni (validB a1 a2 a3 a4) (validB b1 b2 b3 b4) (min a1 b1) a1 b1) (uni (validB a1 a2 a3 a4) (validB b1 b2 b3 b4) (min a2 b2) a2 b2) (uni (validB a1 a2 a3 a4) (validB b1 b2 b3 b4) (max a3 b3) a3 b3) (uni (validB a1 a2 a3 a4) (validB b1 b2 b3 b4) (max a4 b4) a4 b4) x y z u = true := fun k => cont_iseg (f2 (iseg_valid k)) k
    have f6 : containsB a1 a2 a3 a4 b1 b2 b3 b4 = true → overlapsB b1 b2 b3 b4 c1 c2 c3 c4 = true → overlapsB a1 a2 a3 a4 c1 c2 c3 c4 = true := cont_over
    have f7 : containsB a1 a2 a3 a4 b1 b2 b3 b4 = true → containsB b1 b2 b3 b4 c1 c2 c3 c4 = true → containsB a1 a2 a3 a4 c1 c2 c3 c4 = true := cont_trans
    have f8 : containsB a1 a2 a3 a4 b1 b2 b3 b4 = true → validB a1 a2 a3 a4 = true ∧ validB b1 b2 b3 b4 = true := cont_valid
    have f9 := @un_eq a1 a2 a3 a4 b1 b2 b3 b4
    repeat' (first | (with_reducible refine And.intro ?_ ?_) | (with_reducible intro h) | ((fail_if_success (with_reducible refine Leaf.mk ?_)); (fail_if_success (with_reducible refine VC.mk ?_)); (fail_if_success (with_reducible refine Goes.mk ?_)); (fail_if_success (with_reducible refine Again.mk ?_)); (fail_if_success (with_reducible refine Rounds.mk ?_)); (fail_if_success (with_reducible show False)); (fail_if_success (with_reducible show True)); conv => whnf))
    all_goals try first | exact trivial | exact ⟨rfl⟩
    all_goals (
      refine Leaf.mk ?_
      simp_all)

theorem walk_AABBContainment (a1 a2 a3 a4 b1 b2 b3 b4 c1 c2 c3 c4 x y z u : Int) (w : World) :
    Calls Try.prog 10 #[.agg #[.int .i64 a1, .int .i64 a2, .int .i64 a3, .int .i64 a4], .agg #[.int .i64 b1, .int .i64 b2, .int .i64 b3, .int .i64 b4], .agg #[.int .i64 c1, .int .i64 c2, .int .i64 c3, .int .i64 c4], .agg #[.int .i64 x, .int .i64 y, .int .i64 z, .int .i64 u]] w fun e w' => e = .returned (.bool true) ∧ Below w.heap.size w w' :=
  calls_con con_law_AABBContainment [.agg [.int .i64 a1, .int .i64 a2, .int .i64 a3, .int .i64 a4], .agg [.int .i64 b1, .int .i64 b2, .int .i64 b3, .int .i64 b4], .agg [.int .i64 c1, .int .i64 c2, .int .i64 c3, .int .i64 c4], .agg [.int .i64 x, .int .i64 y, .int .i64 z, .int .i64 u]] [a1, a2, a3, a4, b1, b2, b3, b4, c1, c2, c3, c4, x, y, z, u] [.agg #[.int .i64 a1, .int .i64 a2, .int .i64 a3, .int .i64 a4], .agg #[.int .i64 b1, .int .i64 b2, .int .i64 b3, .int .i64 b4], .agg #[.int .i64 c1, .int .i64 c2, .int .i64 c3, .int .i64 c4], .agg #[.int .i64 x, .int .i64 y, .int .i64 z, .int .i64 u]] rfl (fun p hp => by cases hp) ⟨⟨_, rfl, rfl, rfl, rfl, rfl, trivial⟩, ⟨_, rfl, rfl, rfl, rfl, rfl, trivial⟩, ⟨_, rfl, rfl, rfl, rfl, rfl, trivial⟩, ⟨_, rfl, rfl, rfl, rfl, rfl, trivial⟩, trivial⟩ rfl w
end Go.Proofs.Ythbighklfajmdaa
