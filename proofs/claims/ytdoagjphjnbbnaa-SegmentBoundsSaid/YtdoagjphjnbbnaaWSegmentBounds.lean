/- The walk of caromlaw10.SegmentBounds. -/
import Derived.Test.YtdoagjphjnbbnaaS3
namespace Go.Proofs.Ytdoagjphjnbbnaa
open Go.RowKit Fx Vx Bx Ev
set_option linter.unusedVariables false
set_option linter.unusedSimpArgs false

def InS (i j : Nat) (a b c d : Int) (l : List Int) : Prop := min (sat a) (sat c) ≤ l.getD i 0 ∧ l.getD i 0 ≤ max (sat a) (sat c) ∧ min (sat b) (sat d) ≤ l.getD j 0 ∧ l.getD j 0 ≤ max (sat b) (sat d)
theorem inS_nearer {i j : Nat} {a b c d : Int} {p q : List Int} (h1 : InS i j a b c d p) (h2 : InS i j a b c d q) : InS i j a b c d (nearer p q) := by
  unfold nearer; split
  · exact h2
  · exact h1
theorem clos_A (a b c d e f g h : Int) : InS 0 1 a b c d (clos a b c d e f g h) := by
  unfold clos
  split
  · have t := ratio_bd (lineD (sat e) (sat f) (sat g) (sat h) (sat a) (sat b)) (lineD (sat e) (sat f) (sat g) (sat h) (sat a) (sat b) + lineD (sat e) (sat f) (sat g) (sat h) (sat c) (sat d))
    have h1 := lerp_between a c t.1 t.2
    have h2 := lerp_between b d t.1 t.2
    exact ⟨h1.1, h1.2, h2.1, h2.2⟩
  · have t1 := cpT_bd a b c d e f
    have t2 := cpT_bd a b c d g h
    refine inS_nearer (inS_nearer (inS_nearer ?_ ?_) ?_) ?_
    · simp only [InS, candA, List.getD_cons_zero, List.getD_cons_succ]; omega
    · simp only [InS, candA, List.getD_cons_zero, List.getD_cons_succ]; omega
    · have h1 := cpX_between a c t1.1 t1.2
      have h2 := cpX_between b d t1.1 t1.2
      simp only [InS, candC, List.getD_cons_zero, List.getD_cons_succ]; omega
    · have h1 := cpX_between a c t2.1 t2.2
      have h2 := cpX_between b d t2.1 t2.2
      simp only [InS, candC, List.getD_cons_zero, List.getD_cons_succ]; omega
theorem clos_C {a b c d e f g h : Int} (hi : isecB a b c d e f g h = false) : InS 2 3 e f g h (clos a b c d e f g h) := by
  unfold clos
  rw [if_neg (by simp [hi])]
  have t1 := cpT_bd e f g h a b
  have t2 := cpT_bd e f g h c d
  refine inS_nearer (inS_nearer (inS_nearer ?_ ?_) ?_) ?_
  · have h1 := cpX_between e g t1.1 t1.2
    have h2 := cpX_between f h t1.1 t1.2
    simp only [InS, candA, List.getD_cons_zero, List.getD_cons_succ]; omega
  · have h1 := cpX_between e g t2.1 t2.2
    have h2 := cpX_between f h t2.1 t2.2
    simp only [InS, candA, List.getD_cons_zero, List.getD_cons_succ]; omega
  · simp only [InS, candC, List.getD_cons_zero, List.getD_cons_succ]; omega
  · simp only [InS, candC, List.getD_cons_zero, List.getD_cons_succ]; omega
theorem in_box' {i j : Nat} {a b c d : Int} {l : List Int} (h : InS i j a b c d l) : hasB (loP 0 [[a, b], [c, d]]) (loP 1 [[a, b], [c, d]]) (hiP 0 [[a, b], [c, d]]) (hiP 1 [[a, b], [c, d]]) (l.getD i 0) (l.getD j 0) = true := in_box h.1 h.2.1 h.2.2.1 h.2.2.2

def c_law_SegmentBounds : Con := ⟨13, pureRun [2, 2, 2, 2] (fun _ => []) fun _ => .bool true⟩
set_option maxRecDepth 100000 in
set_option maxHeartbeats 4000000 in
theorem con_law_SegmentBounds : c_law_SegmentBounds.Ok Try.prog := by
  refine con_pure (C := [c_aabb_FromPoints, c_segment_ClosestPoints, c_segment_ClosestPoint, c_fixed_Saturate, c_segment_Intersects, c_aabb_ContainsPoint, c_law10_example]) (pl := [(6, [0, 1, 2, 3, 4, 5, 6, 7, 8], [0, 1, 3, 0, 8, 31, 63, 0, 255])]) Try.func13 rfl (by kernel_rfl) T_ok (Cons.cons con_aabb_FromPoints (Cons.cons con_segment_ClosestPoints (Cons.cons con_segment_ClosestPoint (Cons.cons con_fixed_Saturate (Cons.cons con_segment_Intersects (Cons.cons con_aabb_ContainsPoint (Cons.cons con_law10_example (Cons.nil _)))))))) mixed (by kernel_rfl) _ _ _ (fun l hl hpre => ?_)
  match l, hl with
  | [a, b, c, d, e, f, g, k], _ =>
    repeat' (first | (with_reducible refine And.intro ?_ ?_) | (with_reducible intro h) | ((fail_if_success (with_reducible refine Leaf.mk ?_)); (fail_if_success (with_reducible refine VC.mk ?_)); (fail_if_success (with_reducible refine Goes.mk ?_)); (fail_if_success (with_reducible refine Again.mk ?_)); (fail_if_success (with_reducible refine Rounds.mk ?_)); (fail_if_success (with_reducible show False)); (fail_if_success (with_reducible show True)); conv => whnf))
    all_goals try first | exact trivial | exact ⟨rfl⟩ | (refine VC.mk ?_; first | trivial | decide | (simp; done))
    all_goals (
      have t1 := tk2 [[a, b], [c, d]] rfl
      have t2 := tk2 [[e, f], [g, k]] rfl
      have e1 := in_box' (clos_A a b c d e f g k)
      have e2 := fun hi => in_box' (@clos_C a b c d e f g k hi)
      have t := cpT_bd a b c d e f
      have h1 := cpX_between a c t.1 t.2
      have h2 := cpX_between b d t.1 t.2
      have e3 := in_box (x := a) (z := c) (y := b) (w := d) h1.1 h1.2 h2.1 h2.2
      have e4 := cpT_same a b e f
      have e5 := cpX_zero a a
      have e6 := cpX_zero b b
      refine Leaf.mk ?_
      simp only [t1, t2] at *
      clear t1 t2 t h1 h2
      simp_all)

theorem walk_SegmentBounds (a b c d e f g k : Int) (w : World) :
    Calls Try.prog 13 #[.agg #[.int .i64 a, .int .i64 b], .agg #[.int .i64 c, .int .i64 d], .agg #[.int .i64 e, .int .i64 f], .agg #[.int .i64 g, .int .i64 k]] w fun e w' => e = .returned (.bool true) ∧ Below w.heap.size w w' :=
  calls_con con_law_SegmentBounds [.agg [.int .i64 a, .int .i64 b], .agg [.int .i64 c, .int .i64 d], .agg [.int .i64 e, .int .i64 f], .agg [.int .i64 g, .int .i64 k]] [a, b, c, d, e, f, g, k] [.agg #[.int .i64 a, .int .i64 b], .agg #[.int .i64 c, .int .i64 d], .agg #[.int .i64 e, .int .i64 f], .agg #[.int .i64 g, .int .i64 k]] rfl (fun p hp => by cases hp) ⟨⟨_, rfl, rfl, rfl, trivial⟩, ⟨_, rfl, rfl, rfl, trivial⟩, ⟨_, rfl, rfl, rfl, trivial⟩, ⟨_, rfl, rfl, rfl, trivial⟩, trivial⟩ rfl w
end Go.Proofs.Ytdoagjphjnbbnaa
