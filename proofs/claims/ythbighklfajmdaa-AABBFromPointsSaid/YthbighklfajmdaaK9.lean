/- Contracts of packages aabb and caromref05: segments. -/
import Derived.Test.YthbighklfajmdaaK8
namespace Go.Proofs.Ythbighklfajmdaa
open Go.RowKit Fx Vx Bx Ev
set_option linter.unusedVariables false
set_option linter.unusedSimpArgs false

def cnt (s o : Int) : Int := if o = s then 1 else 0
def corn (a b c d : Int) : List (List Int) := [[a, b], [c, b], [c, d], [a, d]]
def sideN (s x y z w : Int) (cs : List (List Int)) : Nat → Int
  | 0 => 0
  | n + 1 => sideN s x y z w cs n + cnt s (orient x y z w (at2 cs n 0) (at2 cs n 1))
theorem sideN_bd (s x y z w : Int) (cs : List (List Int)) : ∀ n : Nat, 0 ≤ sideN s x y z w cs n ∧ sideN s x y z w cs n ≤ n
  | 0 => ⟨Int.le_refl _, Int.le_refl _⟩
  | n + 1 => by
    have := sideN_bd s x y z w cs n
    simp only [sideN, cnt]
    split <;> omega
def isegB (a b c d x y z w : Int) : Bool := validB a b c d && overB a b c d (min (sat x) (sat z)) (min (sat y) (sat w)) (max (sat x) (sat z)) (max (sat y) (sat w)) && (decide (sideN 1 x y z w (corn a b c d) 4 < 4) && decide (sideN (-1) x y z w (corn a b c d) 4 < 4))
theorem sat_sat' (a : Int) : sat (sat a) = sat a := by simp only [sat]; omega
theorem orient_sat (a b c d e f : Int) : orient (sat a) (sat b) (sat c) (sat d) e f = orient a b c d e f := by simp only [orient, orientN, sat_sat']

def c_aabb_IntersectsSegment : Con := ⟨20, pureRun [4, 2, 2] (fun _ => []) fun | [a, b, c, d, x, y, z, w] => .bool (isegB a b c d x y z w) | _ => .any⟩
set_option maxRecDepth 100000 in
set_option maxHeartbeats 1000000 in
theorem con_aabb_IntersectsSegment : c_aabb_IntersectsSegment.Ok Try.prog := by
  refine con_pure (C := [c_aabb_Valid, c_aabb_saturate, c_aabb_overlaps, c_aabb_lower, c_aabb_upper, c_vec2_Orientation]) (pl := [(3, [0, 1, 2, 3, 4, 5], [0, 1, 0, 7, 15, 31]), (4, [0, 1, 2, 3, 4, 5, 6, 7, 8, 9], [0, 0, 0, 6, 0, 0, 62, 126, 255, 511])]) Try.func20 rfl (by kernel_rfl) T_ok (Cons.cons con_aabb_Valid (Cons.cons con_aabb_saturate (Cons.cons con_aabb_overlaps (Cons.cons con_aabb_lower (Cons.cons con_aabb_upper (Cons.cons con_vec2_Orientation (Cons.nil _))))))) mixed (by kernel_rfl) _ _ _ (fun l hl hpre => ?_)
  match l, hl with
  | [a, b, c, d, x, y, z, w], _ =>
    repeat' (first | (with_reducible refine And.intro ?_ ?_) | (with_reducible intro h) | ((fail_if_success (with_reducible refine Leaf.mk ?_)); (fail_if_success (with_reducible refine VC.mk ?_)); (fail_if_success (with_reducible refine Goes.mk ?_)); (fail_if_success (with_reducible refine Again.mk ?_)); (fail_if_success (with_reducible refine Rounds.mk ?_)); (fail_if_success (with_reducible show False)); (fail_if_success (with_reducible show True)); conv => whnf))
    all_goals try first | exact trivial | (refine Leaf.mk ?_; first | rfl | (simp only [isegB, *]; done) | (simp [isegB, *]; done) | (simp_all [isegB]; done))
    refine goes_inv (X := Nat) (pl := [(3, [0, 1, 2, 3, 4, 5], [0, 1, 0, 7, 15, 31]), (4, [0, 1, 2, 3, 4, 5, 6, 7, 8, 9], [0, 0, 0, 6, 0, 0, 62, 126, 255, 511])]) T_ok (Cons.cons con_aabb_Valid (Cons.cons con_aabb_saturate (Cons.cons con_aabb_overlaps (Cons.cons con_aabb_lower (Cons.cons con_aabb_upper (Cons.cons con_vec2_Orientation (Cons.nil _))))))) mixed (by kernel_rfl)
      (fun i => (.any :: .any :: .any :: .any :: .ptr 1 0 :: .ptr 2 0 :: .any :: .int .i64 (sideN (1) x y z w (corn a b c d) i) :: .int .i64 (sideN (-1) x y z w (corn a b c d) i) :: .any :: .any :: .any :: .any :: .any :: .any :: .any :: .any :: .any :: .any :: .any :: .any :: .any :: .any :: .any :: .any :: .any :: .any :: .any :: .any :: .any :: .any :: .any :: .any :: .any :: .any :: .any :: .any :: .any :: .any :: .any :: .any :: .any :: .any :: .any :: .any :: .any :: .sl 3 2 0 4 :: .int .i64 4 :: .int .i64 (i : Int) :: .any :: .any :: .any :: .any :: .any :: .any :: .any :: .any :: .any :: .any :: .any :: .any :: .any :: .any :: .any :: .any :: .any :: .any :: .any :: .any :: .any :: .any :: [],
        [.dead, .cells [.int .i64 (sat x), .int .i64 (sat y)], .cells [.int .i64 (sat z), .int .i64 (sat w)], .arr false true 2 (corn a b c d)]))
      (fun i => i ≤ 4) (fun i => 4 - i) 0 [0, 1, 2, 3] (Nat.zero_le 4) ?_ ?_ ?_
    · repeat' (first | (with_reducible refine And.intro ?_ ?_) | (with_reducible intro h) | ((fail_if_success (with_reducible refine Leaf.mk ?_)); (fail_if_success (with_reducible refine VC.mk ?_)); (fail_if_success (with_reducible refine Goes.mk ?_)); (fail_if_success (with_reducible refine Again.mk ?_)); (fail_if_success (with_reducible refine Rounds.mk ?_)); (fail_if_success (with_reducible show False)); (fail_if_success (with_reducible show True)); conv => whnf))
      all_goals first | exact trivial | (refine Leaf.mk ?_; first | rfl | exact ⟨rfl, rfl⟩)
    · repeat' (first | (with_reducible refine And.intro ?_ ?_) | (with_reducible intro h) | ((fail_if_success (with_reducible refine Leaf.mk ?_)); (fail_if_success (with_reducible refine VC.mk ?_)); (fail_if_success (with_reducible refine Goes.mk ?_)); (fail_if_success (with_reducible refine Again.mk ?_)); (fail_if_success (with_reducible refine Rounds.mk ?_)); (fail_if_success (with_reducible show False)); (fail_if_success (with_reducible show True)); conv => whnf))
      all_goals first | exact trivial | (refine Leaf.mk ?_; first | rfl | exact ⟨rfl, rfl⟩)
    · intro i hi
      have b1 := sideN_bd 1 x y z w (corn a b c d) i
      have b2 := sideN_bd (-1) x y z w (corn a b c d) i
      repeat' (first | (with_reducible refine And.intro ?_ ?_) | (with_reducible intro h) | ((fail_if_success (with_reducible refine Leaf.mk ?_)); (fail_if_success (with_reducible refine VC.mk ?_)); (fail_if_success (with_reducible refine Goes.mk ?_)); (fail_if_success (with_reducible refine Again.mk ?_)); (fail_if_success (with_reducible refine Rounds.mk ?_)); (fail_if_success (with_reducible show False)); (fail_if_success (with_reducible show True)); conv => whnf))
      all_goals try first | exact trivial | (refine VC.mk ?_; simp only [InR, decide_eq_true_eq, decide_eq_false_iff_not, corn, List.length] at *; omega) | (refine VC.mk ?_; rfl)
      all_goals first
        | (refine Leaf.mk ?_
           obtain rfl : i = 4 := by { simp only [decide_eq_true_eq, decide_eq_false_iff_not] at *; omega }
           simp_all [isegB]
           try omega)
        | (have hlt : i < 4 := by { simp only [decide_eq_true_eq, decide_eq_false_iff_not] at *; omega }
           have e1 : 0 + ((i : Int)).toNat = i := by omega
           simp only [e1, orient_sat, decide_eq_true_eq, decide_eq_false_iff_not] at *
           refine Again.mk ⟨i + 1, [0, 1, 2, 3], hlt, by omega, ?_, ?_⟩
           · repeat' (first | (with_reducible refine And.intro ?_ ?_) | (with_reducible intro h) | ((fail_if_success (with_reducible refine Leaf.mk ?_)); (fail_if_success (with_reducible refine VC.mk ?_)); (fail_if_success (with_reducible refine Goes.mk ?_)); (fail_if_success (with_reducible refine Again.mk ?_)); (fail_if_success (with_reducible refine Rounds.mk ?_)); (fail_if_success (with_reducible show False)); (fail_if_success (with_reducible show True)); conv => whnf))
             all_goals try first | exact trivial | (refine Leaf.mk ?_; first | rfl | exact ⟨rfl, rfl⟩ | (exfalso; omega) | (simp only [sideN, cnt, *]; rfl) | (simp only [sideN, cnt, *]; simp))
           · repeat' (first | (with_reducible refine And.intro ?_ ?_) | (with_reducible intro h) | ((fail_if_success (with_reducible refine Leaf.mk ?_)); (fail_if_success (with_reducible refine VC.mk ?_)); (fail_if_success (with_reducible refine Goes.mk ?_)); (fail_if_success (with_reducible refine Again.mk ?_)); (fail_if_success (with_reducible refine Rounds.mk ?_)); (fail_if_success (with_reducible show False)); (fail_if_success (with_reducible show True)); conv => whnf))
             all_goals try first | exact trivial | (refine Leaf.mk ?_; first | rfl | exact ⟨rfl, rfl⟩))

theorem seg_box (a b c d x y z w : Int) : overlapsB a b c d (loP 0 [[x, y], [z, w]]) (loP 1 [[x, y], [z, w]]) (hiP 0 [[x, y], [z, w]]) (hiP 1 [[x, y], [z, w]]) = (validB a b c d && overB a b c d (min (sat x) (sat z)) (min (sat y) (sat w)) (max (sat x) (sat z)) (max (sat y) (sat w))) := by
  have hv : validB (min (sat x) (sat z)) (min (sat y) (sat w)) (max (sat x) (sat z)) (max (sat y) (sat w)) = true := by
    have m1 : ∀ p q : Int, sat (min (sat p) (sat q)) = min (sat p) (sat q) := by { intro p q; simp only [sat]; omega }
    have m2 : ∀ p q : Int, sat (max (sat p) (sat q)) = max (sat p) (sat q) := by { intro p q; simp only [sat]; omega }
    simp only [validB, satB, m1, m2, beq_self_eq_true, Bool.and_true, Bool.and_eq_true, decide_eq_true_eq]
    omega
  simp only [overlapsB, loP, hiP, List.foldl, List.getD_cons_zero, List.getD_cons_succ, hv, Bool.and_true]

def c_ref05_IntersectsSegment : Con := ⟨21, pureRun [4, 2, 2] (fun _ => []) fun | [a, b, c, d, x, y, z, w] => .bool (isegB a b c d x y z w) | _ => .any⟩
set_option maxRecDepth 100000 in
set_option maxHeartbeats 1000000 in
theorem con_ref05_IntersectsSegment : c_ref05_IntersectsSegment.Ok Try.prog := by
  refine con_pure (C := [c_ref05_FromPoints, c_ref05_Overlaps, c_ref03_Orientation]) (pl := [(9, [0, 1, 2, 3, 4, 5, 6, 7], [0, 0, 0, 0, 12, 28, 63, 127])]) Try.func21 rfl (by kernel_rfl) T_ok (Cons.cons con_ref05_FromPoints (Cons.cons con_ref05_Overlaps (Cons.cons con_ref03_Orientation (Cons.nil _)))) mixed (by kernel_rfl) _ _ _ (fun l hl hpre => ?_)
  match l, hl with
  | [a, b, c, d, x, y, z, w], _ =>
    repeat' (first | (with_reducible refine And.intro ?_ ?_) | (with_reducible intro h) | ((fail_if_success (with_reducible refine Leaf.mk ?_)); (fail_if_success (with_reducible refine VC.mk ?_)); (fail_if_success (with_reducible refine Goes.mk ?_)); (fail_if_success (with_reducible refine Again.mk ?_)); (fail_if_success (with_reducible refine Rounds.mk ?_)); (fail_if_success (with_reducible show False)); (fail_if_success (with_reducible show True)); conv => whnf))
    all_goals try first | exact trivial | (refine VC.mk ?_; simp; done) | (refine Leaf.mk ?_; have tk : List.take 2 (List.drop 0 [[x, y], [z, w]]) = [[x, y], [z, w]] := rfl; simp only [tk, seg_box] at *; cases hv : validB a b c d <;> cases ho : overB a b c d (min (sat x) (sat z)) (min (sat y) (sat w)) (max (sat x) (sat z)) (max (sat y) (sat w)) <;> simp_all [isegB]; done)
    refine goes_inv (X := Nat) (pl := [(9, [0, 1, 2, 3, 4, 5, 6, 7], [0, 0, 0, 0, 12, 28, 63, 127])]) T_ok (Cons.cons con_ref05_FromPoints (Cons.cons con_ref05_Overlaps (Cons.cons con_ref03_Orientation (Cons.nil _)))) mixed (by kernel_rfl)
      (fun i => (.any :: .any :: .any :: .any :: .ptr 1 0 :: .ptr 2 0 :: .any :: .any :: .any :: .sl 5 2 0 4 :: .int .i64 (sideN (1) x y z w (corn a b c d) i) :: .int .i64 (sideN (-1) x y z w (corn a b c d) i) :: .int .i64 (i : Int) :: .any :: .any :: .any :: .any :: .any :: .any :: .any :: .any :: .any :: .any :: .any :: .any :: .any :: .any :: .any :: .any :: .any :: .any :: .any :: .any :: .any :: .any :: .any :: .any :: .any :: .any :: .any :: .any :: .any :: .any :: .any :: .any :: .any :: .any :: .any :: .any :: .any :: .any :: .any :: .any :: .any :: .any :: .any :: .any :: .any :: .any :: .any :: .any :: .any :: .any :: .any :: .any :: .any :: .any :: .any :: .any :: [],
        [.dead, .cells [.int .i64 x, .int .i64 y], .cells [.int .i64 z, .int .i64 w], .dead, .dead, .arr false true 2 (corn a b c d)]))
      (fun i => i ≤ 4) (fun i => 4 - i) 0 [0, 1, 2, 3, 4, 5] (Nat.zero_le 4) ?_ ?_ ?_
    · repeat' (first | (with_reducible refine And.intro ?_ ?_) | (with_reducible intro h) | ((fail_if_success (with_reducible refine Leaf.mk ?_)); (fail_if_success (with_reducible refine VC.mk ?_)); (fail_if_success (with_reducible refine Goes.mk ?_)); (fail_if_success (with_reducible refine Again.mk ?_)); (fail_if_success (with_reducible refine Rounds.mk ?_)); (fail_if_success (with_reducible show False)); (fail_if_success (with_reducible show True)); conv => whnf))
      all_goals first | exact trivial | (refine Leaf.mk ?_; first | rfl | exact ⟨rfl, rfl⟩)
    · repeat' (first | (with_reducible refine And.intro ?_ ?_) | (with_reducible intro h) | ((fail_if_success (with_reducible refine Leaf.mk ?_)); (fail_if_success (with_reducible refine VC.mk ?_)); (fail_if_success (with_reducible refine Goes.mk ?_)); (fail_if_success (with_reducible refine Again.mk ?_)); (fail_if_success (with_reducible refine Rounds.mk ?_)); (fail_if_success (with_reducible show False)); (fail_if_success (with_reducible show True)); conv => whnf))
      all_goals first | exact trivial | (refine Leaf.mk ?_; first | rfl | exact ⟨rfl, rfl⟩)
    · intro i hi
      have b1 := sideN_bd 1 x y z w (corn a b c d) i
      have b2 := sideN_bd (-1) x y z w (corn a b c d) i
      repeat' (first | (with_reducible refine And.intro ?_ ?_) | (with_reducible intro h) | ((fail_if_success (with_reducible refine Leaf.mk ?_)); (fail_if_success (with_reducible refine VC.mk ?_)); (fail_if_success (with_reducible refine Goes.mk ?_)); (fail_if_success (with_reducible refine Again.mk ?_)); (fail_if_success (with_reducible refine Rounds.mk ?_)); (fail_if_success (with_reducible show False)); (fail_if_success (with_reducible show True)); conv => whnf))
      all_goals try first | exact trivial | (refine VC.mk ?_; simp only [InR, decide_eq_true_eq, decide_eq_false_iff_not, corn, List.length] at *; omega) | (refine VC.mk ?_; rfl)
      all_goals first
        | (refine Leaf.mk ?_
           obtain rfl : i = 4 := by { simp only [decide_eq_true_eq, decide_eq_false_iff_not] at *; omega }
           have tk : List.take 2 (List.drop 0 [[x, y], [z, w]]) = [[x, y], [z, w]] := rfl
           simp only [tk, seg_box] at *
           simp_all [isegB]
           try omega)
        | (have hlt : i < 4 := by { simp only [decide_eq_true_eq, decide_eq_false_iff_not] at *; omega }
           have e1 : 0 + ((i : Int)).toNat = i := by omega
           simp only [e1, orient_sat, decide_eq_true_eq, decide_eq_false_iff_not] at *
           refine Again.mk ⟨i + 1, [0, 1, 2, 3, 4, 5], hlt, by omega, ?_, ?_⟩
           · repeat' (first | (with_reducible refine And.intro ?_ ?_) | (with_reducible intro h) | ((fail_if_success (with_reducible refine Leaf.mk ?_)); (fail_if_success (with_reducible refine VC.mk ?_)); (fail_if_success (with_reducible refine Goes.mk ?_)); (fail_if_success (with_reducible refine Again.mk ?_)); (fail_if_success (with_reducible refine Rounds.mk ?_)); (fail_if_success (with_reducible show False)); (fail_if_success (with_reducible show True)); conv => whnf))
             all_goals try first | exact trivial | (refine Leaf.mk ?_; first | rfl | exact ⟨rfl, rfl⟩ | (exfalso; omega) | (simp only [sideN, cnt, *]; rfl) | (simp only [sideN, cnt, *]; simp))
           · repeat' (first | (with_reducible refine And.intro ?_ ?_) | (with_reducible intro h) | ((fail_if_success (with_reducible refine Leaf.mk ?_)); (fail_if_success (with_reducible refine VC.mk ?_)); (fail_if_success (with_reducible refine Goes.mk ?_)); (fail_if_success (with_reducible refine Again.mk ?_)); (fail_if_success (with_reducible refine Rounds.mk ?_)); (fail_if_success (with_reducible show False)); (fail_if_success (with_reducible show True)); conv => whnf))
             all_goals try first | exact trivial | (refine Leaf.mk ?_; first | rfl | exact ⟨rfl, rfl⟩))
end Go.Proofs.Ythbighklfajmdaa
