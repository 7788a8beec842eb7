/- The walk of caromlaw05.AABBOverlap. -/
import Derived.Test.YthbighklfajmdaaK10
namespace Go.Proofs.Ythbighklfajmdaa
open Go.RowKit Fx Vx Bx Ev
set_option linter.unusedVariables false
set_option linter.unusedSimpArgs false

theorem ov_comm (a b c d e f g h : Int) : overlapsB e f g h a b c d = overlapsB a b c d e f g h := by
  simp only [overlapsB, overB]
  cases validB a b c d <;> cases validB e f g h <;> simp only [Bool.true_and, Bool.false_and, Bool.and_false, Bool.and_true]
  rw [Bool.eq_iff_iff]
  simp only [Bool.and_eq_true, decide_eq_true_eq]
  omega
theorem ov_self (a b c d : Int) : overlapsB a b c d a b c d = validB a b c d := by
  simp only [overlapsB, overB, validB]
  rw [Bool.eq_iff_iff]
  simp only [Bool.and_eq_true, decide_eq_true_eq]
  constructor
  · intro h; exact h.1.1
  · intro h; exact ⟨⟨h, h⟩, ⟨⟨h.1.1.1, h.1.1.1⟩, h.1.1.2⟩, h.1.1.2⟩
theorem ov_point (a b c d e f g h : Int) : overlapsB a b c d e f g h = (validB a b c d && validB e f g h && hasB a b c d (max a e) (max b f) && hasB e f g h (max a e) (max b f)) := by
  cases h1 : validB a b c d
  · simp only [overlapsB, h1, Bool.false_and]
  cases h2 : validB e f g h
  · simp only [overlapsB, h1, h2, Bool.false_and, Bool.true_and]
  simp only [overlapsB, hasB, overB, h1, h2, Bool.true_and]
  simp only [validB, satB, Bool.and_eq_true, decide_eq_true_eq, beq_iff_eq] at h1 h2
  have m1 : sat (max a e) = max a e := by { rcases Int.le_total a e with q | q <;> (simp only [Int.max_eq_right q, Int.max_eq_left q]; omega) }
  have m2 : sat (max b f) = max b f := by { rcases Int.le_total b f with q | q <;> (simp only [Int.max_eq_right q, Int.max_eq_left q]; omega) }
  rw [m1, m2]
  rw [Bool.eq_iff_iff]
  simp only [Bool.and_eq_true, decide_eq_true_eq]
  omega

def c_law_AABBOverlap : Con := ⟨7, pureRun [4, 4] (fun _ => []) fun _ => .bool true⟩
set_option maxRecDepth 100000 in
set_option maxHeartbeats 4000000 in
theorem con_law_AABBOverlap : c_law_AABBOverlap.Ok Try.prog := by
  refine con_pure (C := [c_aabb_Valid, c_aabb_Overlaps, c_aabb_ContainsPoint, c_law05_example]) (pl := [(3, [0, 1, 2, 3, 4, 5, 6, 7, 8, 9, 10, 11, 12, 13, 14, 15, 16, 17, 18, 19, 20, 21, 22, 23, 24, 25, 26, 27, 28, 29, 30, 31, 32, 33, 34, 35], [0, 0, 3, 0, 15, 31, 31, 127, 255, 511, 1023, 1023, 4095, 8191, 16383, 32767, 65535, 65535, 262143, 65535, 65535, 2097151, 4194303, 8388607, 16777215, 33554431, 33554431, 134217727, 33554431, 536870911, 1073741823, 2147483647, 4294967295, 8589934591, 17179869183, 34359738367])]) Try.func7 rfl (by kernel_rfl) T_ok (Cons.cons con_aabb_Valid (Cons.cons con_aabb_Overlaps (Cons.cons con_aabb_ContainsPoint (Cons.cons con_law05_example (Cons.nil _))))) mixed (by kernel_rfl) _ _ _ (fun l hl hpre => ?_)
  match l, hl with
  | [a1, a2, a3, a4, b1, b2, b3, b4], _ =>
    repeat' (first | (with_reducible refine And.intro ?_ ?_) | (with_reducible intro h) | ((fail_if_success (with_reducible refine Leaf.mk ?_)); (fail_if_success (with_reducible refine VC.mk ?_)); (fail_if_success (with_reducible refine Goes.mk ?_)); (fail_if_success (with_reducible refine Again.mk ?_)); (fail_if_success (with_reducible refine Rounds.mk ?_)); (fail_if_success (with_reducible show False)); (fail_if_success (with_reducible show True)); conv => whnf))
    all_goals try first | exact trivial | (refine Leaf.mk ?_; simp_all; done)
    all_goals (
      have q1 := ov_comm a1 a2 a3 a4 b1 b2 b3 b4
      have q2 := ov_self a1 a2 a3 a4
      have q3 := ov_point a1 a2 a3 a4 b1 b2 b3 b4
      refine Leaf.mk ?_
      simp_all)

theorem walk_AABBOverlap (a1 a2 a3 a4 b1 b2 b3 b4 : Int) (w : World) :
    Calls Try.prog 7 #[.agg #[.int .i64 a1, .int .i64 a2, .int .i64 a3, .int .i64 a4], .agg #[.int .i64 b1, .int .i64 b2, .int .i64 b3, .int .i64 b4]] w fun e w' => e = .returned (.bool true) ∧ Below w.heap.size w w' :=
  calls_con con_law_AABBOverlap [.agg [.int .i64 a1, .int .i64 a2, .int .i64 a3, .int .i64 a4], .agg [.int .i64 b1, .int .i64 b2, .int .i64 b3, .int .i64 b4]] [a1, a2, a3, a4, b1, b2, b3, b4] [.agg #[.int .i64 a1, .int .i64 a2, .int .i64 a3, .int .i64 a4], .agg #[.int .i64 b1, .int .i64 b2, .int .i64 b3, .int .i64 b4]] rfl (fun p hp => by cases hp) ⟨⟨_, rfl, rfl, rfl, rfl, rfl, trivial⟩, ⟨_, rfl, rfl, rfl, rfl, rfl, trivial⟩, trivial⟩ rfl w
end Go.Proofs.Ythbighklfajmdaa
