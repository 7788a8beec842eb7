/- Contracts of chapter 1, out of its walks. Contracts of package vec2 and of caromref03. Contracts of packages aabb and caromref05: what only computes. Contracts of packages aabb and caromref05: boxes of points. Contracts of package caromref05: boxes of points. Contracts of packages aabb and caromref05: unions and segments. Contracts of packages aabb and caromref05: segments. -/
import Derived.Test.YtkfaflhhkmkdjaaEF
import Derived.Test.YtkfaflhhkmkdjaaTab
import Derived.Test.YtkfaflhhkmkdjaaFv
import Derived.Test.YtkfaflhhkmkdjaaVx
import Derived.Test.YtkfaflhhkmkdjaaBx
namespace Go.Proofs.Ytkfaflhhkmkdjaa
open Go.RowKit Fx Ev
def c_fixed_Saturate : Con := ⟨55, pureRun [0] (fun _ => []) fun | [a0] => .int .i64 (sat a0) | _ => .any⟩
theorem con_fixed_Saturate : c_fixed_Saturate.Ok Try.prog :=
  con_calls Try.func55 (by kernel_rfl) (by kernel_rfl) _ _ _ fun l vs hl hv _ w => match l, hl with
    | [a0], _ => by cases hv; exact (fixed_Saturate a0 w).mono fun e w' ⟨he, hw⟩ => ⟨_, he, fun _ => rfl, quiet_b hw⟩
def c_fixed_Add : Con := ⟨73, pureRun [0, 0] (fun _ => []) fun | [a0, a1] => .int .i64 (add a0 a1) | _ => .any⟩
theorem con_fixed_Add : c_fixed_Add.Ok Try.prog :=
  con_calls Try.func73 (by kernel_rfl) (by kernel_rfl) _ _ _ fun l vs hl hv _ w => match l, hl with
    | [a0, a1], _ => by cases hv; exact (fixed_Add a0 a1 w).mono fun e w' ⟨he, hw⟩ => ⟨_, he, fun _ => rfl, quiet_b hw⟩
def c_fixed_Sub : Con := ⟨74, pureRun [0, 0] (fun _ => []) fun | [a0, a1] => .int .i64 (sub a0 a1) | _ => .any⟩
theorem con_fixed_Sub : c_fixed_Sub.Ok Try.prog :=
  con_calls Try.func74 (by kernel_rfl) (by kernel_rfl) _ _ _ fun l vs hl hv _ w => match l, hl with
    | [a0, a1], _ => by cases hv; exact (fixed_Sub a0 a1 w).mono fun e w' ⟨he, hw⟩ => ⟨_, he, fun _ => rfl, quiet_b hw⟩
end Go.Proofs.Ytkfaflhhkmkdjaa

namespace Go.Proofs.Ytkfaflhhkmkdjaa
open Go.RowKit Fx Vx Ev
set_option linter.unusedVariables false
set_option linter.unusedSimpArgs false

end Go.Proofs.Ytkfaflhhkmkdjaa

namespace Go.Proofs.Ytkfaflhhkmkdjaa
open Go.RowKit Fx Vx Bx Ev
set_option linter.unusedVariables false
set_option linter.unusedSimpArgs false

def c_aabb_saturated : Con := ⟨37, pureRun [2] (fun _ => []) fun | [a, b] => .bool (satB a b) | _ => .any⟩
set_option maxRecDepth 100000 in
set_option maxHeartbeats 1000000 in
theorem con_aabb_saturated : c_aabb_saturated.Ok Try.prog := by
  refine con_pure (C := [c_fixed_Saturate]) (pl := [(1, [0, 1, 2, 3, 4, 5, 6, 7, 8, 9, 10, 11, 12, 13, 14], [0, 1, 3, 0, 8, 31, 63, 127, 255, 511, 127, 1151, 4095, 8191, 16383])]) Try.func37 rfl (by kernel_rfl) T_ok (Cons.cons con_fixed_Saturate (Cons.nil _)) mixed (by kernel_rfl) _ _ _ (fun l hl hpre => ?_)
  match l, hl with
  | [a, b], _ =>
    repeat' (first | (with_reducible refine And.intro ?_ ?_) | (with_reducible intro h) | ((fail_if_success (with_reducible refine Leaf.mk ?_)); (fail_if_success (with_reducible refine VC.mk ?_)); (fail_if_success (with_reducible refine Goes.mk ?_)); (fail_if_success (with_reducible refine Again.mk ?_)); (fail_if_success (with_reducible refine Rounds.mk ?_)); (fail_if_success (with_reducible show False)); (fail_if_success (with_reducible show True)); conv => whnf))
    all_goals (refine Leaf.mk ?_; simp only [decide_eq_true_eq, decide_eq_false_iff_not] at *; simp [satB, *]; try first | rfl | omega)
def c_aabb_lower : Con := ⟨75, pureRun [2, 2] (fun _ => []) fun | [a, b, c, d] => .agg [.int .i64 (min a c), .int .i64 (min b d)] | _ => .any⟩
set_option maxRecDepth 100000 in
set_option maxHeartbeats 1000000 in
theorem con_aabb_lower : c_aabb_lower.Ok Try.prog := by
  refine con_pure (C := []) (pl := []) Try.func75 rfl (by kernel_rfl) T_ok (Cons.nil _) mixed (by kernel_rfl) _ _ _ (fun l hl hpre => ?_)
  match l, hl with
  | [a, b, c, d], _ =>
    repeat' (first | (with_reducible refine And.intro ?_ ?_) | (with_reducible intro h) | ((fail_if_success (with_reducible refine Leaf.mk ?_)); (fail_if_success (with_reducible refine VC.mk ?_)); (fail_if_success (with_reducible refine Goes.mk ?_)); (fail_if_success (with_reducible refine Again.mk ?_)); (fail_if_success (with_reducible refine Rounds.mk ?_)); (fail_if_success (with_reducible show False)); (fail_if_success (with_reducible show True)); conv => whnf))
    all_goals first | (refine VC.mk ?_; simp only [InR]; omega) | exact ⟨rfl⟩
def c_aabb_upper : Con := ⟨76, pureRun [2, 2] (fun _ => []) fun | [a, b, c, d] => .agg [.int .i64 (max a c), .int .i64 (max b d)] | _ => .any⟩
set_option maxRecDepth 100000 in
set_option maxHeartbeats 1000000 in
theorem con_aabb_upper : c_aabb_upper.Ok Try.prog := by
  refine con_pure (C := []) (pl := []) Try.func76 rfl (by kernel_rfl) T_ok (Cons.nil _) mixed (by kernel_rfl) _ _ _ (fun l hl hpre => ?_)
  match l, hl with
  | [a, b, c, d], _ =>
    repeat' (first | (with_reducible refine And.intro ?_ ?_) | (with_reducible intro h) | ((fail_if_success (with_reducible refine Leaf.mk ?_)); (fail_if_success (with_reducible refine VC.mk ?_)); (fail_if_success (with_reducible refine Goes.mk ?_)); (fail_if_success (with_reducible refine Again.mk ?_)); (fail_if_success (with_reducible refine Rounds.mk ?_)); (fail_if_success (with_reducible show False)); (fail_if_success (with_reducible show True)); conv => whnf))
    all_goals first | (refine VC.mk ?_; simp only [InR]; omega) | exact ⟨rfl⟩
def c_aabb_Valid : Con := ⟨23, pureRun [4] (fun _ => []) fun | [a, b, c, d] => .bool (validB a b c d) | _ => .any⟩
set_option maxRecDepth 100000 in
set_option maxHeartbeats 1000000 in
theorem con_aabb_Valid : c_aabb_Valid.Ok Try.prog := by
  refine con_pure (C := [c_aabb_saturated]) (pl := []) Try.func23 rfl (by kernel_rfl) T_ok (Cons.cons con_aabb_saturated (Cons.nil _)) mixed (by kernel_rfl) _ _ _ (fun l hl hpre => ?_)
  match l, hl with
  | [a, b, c, d], _ =>
    repeat' (first | (with_reducible refine And.intro ?_ ?_) | (with_reducible intro h) | ((fail_if_success (with_reducible refine Leaf.mk ?_)); (fail_if_success (with_reducible refine VC.mk ?_)); (fail_if_success (with_reducible refine Goes.mk ?_)); (fail_if_success (with_reducible refine Again.mk ?_)); (fail_if_success (with_reducible refine Rounds.mk ?_)); (fail_if_success (with_reducible show False)); (fail_if_success (with_reducible show True)); conv => whnf))
    all_goals (refine Leaf.mk ?_; first | rfl | (simp only [validB, Bool.and_true, Bool.true_and, Bool.and_false, Bool.false_and, *]; done) | (simp [validB, *]; done) | (simp_all [validB]; done))
def c_aabb_overlaps : Con := ⟨24, pureRun [4, 4] (fun _ => []) fun | [a, b, c, d, e, f, g, h] => .bool (overB a b c d e f g h) | _ => .any⟩
set_option maxRecDepth 100000 in
set_option maxHeartbeats 1000000 in
theorem con_aabb_overlaps : c_aabb_overlaps.Ok Try.prog := by
  refine con_pure (C := []) (pl := []) Try.func24 rfl (by kernel_rfl) T_ok (Cons.nil _) mixed (by kernel_rfl) _ _ _ (fun l hl hpre => ?_)
  match l, hl with
  | [a, b, c, d, e, f, g, h], _ =>
    repeat' (first | (with_reducible refine And.intro ?_ ?_) | (with_reducible intro h) | ((fail_if_success (with_reducible refine Leaf.mk ?_)); (fail_if_success (with_reducible refine VC.mk ?_)); (fail_if_success (with_reducible refine Goes.mk ?_)); (fail_if_success (with_reducible refine Again.mk ?_)); (fail_if_success (with_reducible refine Rounds.mk ?_)); (fail_if_success (with_reducible show False)); (fail_if_success (with_reducible show True)); conv => whnf))
    all_goals (refine Leaf.mk ?_; first | rfl | (simp only [overB, Bool.and_true, Bool.true_and, Bool.and_false, Bool.false_and, *]; done) | (simp [overB, *]; done) | (simp_all [overB]; done))
def c_aabb_Overlaps : Con := ⟨11, pureRun [4, 4] (fun _ => []) fun | [a, b, c, d, e, f, g, h] => .bool (overlapsB a b c d e f g h) | _ => .any⟩
set_option maxRecDepth 100000 in
set_option maxHeartbeats 1000000 in
theorem con_aabb_Overlaps : c_aabb_Overlaps.Ok Try.prog := by
  refine con_pure (C := [c_aabb_Valid, c_aabb_overlaps]) (pl := []) Try.func11 rfl (by kernel_rfl) T_ok (Cons.cons con_aabb_Valid (Cons.cons con_aabb_overlaps (Cons.nil _))) mixed (by kernel_rfl) _ _ _ (fun l hl hpre => ?_)
  match l, hl with
  | [a, b, c, d, e, f, g, h], _ =>
    repeat' (first | (with_reducible refine And.intro ?_ ?_) | (with_reducible intro h) | ((fail_if_success (with_reducible refine Leaf.mk ?_)); (fail_if_success (with_reducible refine VC.mk ?_)); (fail_if_success (with_reducible refine Goes.mk ?_)); (fail_if_success (with_reducible refine Again.mk ?_)); (fail_if_success (with_reducible refine Rounds.mk ?_)); (fail_if_success (with_reducible show False)); (fail_if_success (with_reducible show True)); conv => whnf))
    all_goals (refine Leaf.mk ?_; first | rfl | (simp only [overlapsB, Bool.and_true, Bool.true_and, Bool.and_false, Bool.false_and, *]; done) | (simp [overlapsB, *]; done) | (simp_all [overlapsB]; done))
def c_aabb_Union : Con := ⟨57, pureRun [4, 4] (fun _ => []) fun | [a, b, c, d, e, f, g, h] => .agg [.int .i64 (uni (validB a b c d) (validB e f g h) (min a e) a e), .int .i64 (uni (validB a b c d) (validB e f g h) (min b f) b f), .int .i64 (uni (validB a b c d) (validB e f g h) (max c g) c g), .int .i64 (uni (validB a b c d) (validB e f g h) (max d h) d h)] | _ => .any⟩
set_option maxRecDepth 100000 in
set_option maxHeartbeats 1000000 in
theorem con_aabb_Union : c_aabb_Union.Ok Try.prog := by
  refine con_pure (C := [c_aabb_Valid, c_aabb_lower, c_aabb_upper]) (pl := [(2, [0, 1, 2, 3, 4, 5, 6, 7, 8, 9, 10, 11], [0, 1, 0, 4, 15, 0, 32, 0, 128, 511, 1023, 2047])]) Try.func57 rfl (by kernel_rfl) T_ok (Cons.cons con_aabb_Valid (Cons.cons con_aabb_lower (Cons.cons con_aabb_upper (Cons.nil _)))) mixed (by kernel_rfl) _ _ _ (fun l hl hpre => ?_)
  match l, hl with
  | [a, b, c, d, e, f, g, h], _ =>
    repeat' (first | (with_reducible refine And.intro ?_ ?_) | (with_reducible intro h) | ((fail_if_success (with_reducible refine Leaf.mk ?_)); (fail_if_success (with_reducible refine VC.mk ?_)); (fail_if_success (with_reducible refine Goes.mk ?_)); (fail_if_success (with_reducible refine Again.mk ?_)); (fail_if_success (with_reducible refine Rounds.mk ?_)); (fail_if_success (with_reducible show False)); (fail_if_success (with_reducible show True)); conv => whnf))
    all_goals (refine Leaf.mk ?_; first | rfl | (simp only [uni, Bool.and_true, Bool.true_and, Bool.and_false, Bool.false_and, *]; done) | (simp [uni, *]; done) | (simp_all [uni]; done))
def c_aabb_HalfPerimeter : Con := ⟨56, pureRun [4] (fun _ => []) fun | [a, b, c, d] => .int .i64 (halfP a b c d) | _ => .any⟩
set_option maxRecDepth 100000 in
set_option maxHeartbeats 1000000 in
theorem con_aabb_HalfPerimeter : c_aabb_HalfPerimeter.Ok Try.prog := by
  refine con_pure (C := [c_aabb_Valid, c_fixed_Sub, c_fixed_Add]) (pl := [(3, [0, 1, 2, 3, 4, 5, 6, 7, 8, 9, 10, 11, 12, 13, 14, 15], [0, 1, 3, 0, 8, 24, 63, 0, 128, 384, 0, 1024, 3072, 8191, 16383, 32767])]) Try.func56 rfl (by kernel_rfl) T_ok (Cons.cons con_aabb_Valid (Cons.cons con_fixed_Sub (Cons.cons con_fixed_Add (Cons.nil _)))) mixed (by kernel_rfl) _ _ _ (fun l hl hpre => ?_)
  match l, hl with
  | [a, b, c, d], _ =>
    repeat' (first | (with_reducible refine And.intro ?_ ?_) | (with_reducible intro h) | ((fail_if_success (with_reducible refine Leaf.mk ?_)); (fail_if_success (with_reducible refine VC.mk ?_)); (fail_if_success (with_reducible refine Goes.mk ?_)); (fail_if_success (with_reducible refine Again.mk ?_)); (fail_if_success (with_reducible refine Rounds.mk ?_)); (fail_if_success (with_reducible show False)); (fail_if_success (with_reducible show True)); conv => whnf))
    all_goals (refine Leaf.mk ?_; first | rfl | (simp only [halfP, Bool.and_true, Bool.true_and, Bool.and_false, Bool.false_and, *]; done) | (simp [halfP, *]; done) | (simp_all [halfP]; done))
end Go.Proofs.Ytkfaflhhkmkdjaa

namespace Go.Proofs.Ytkfaflhhkmkdjaa
open Go.RowKit Fx Vx Bx Ev
set_option linter.unusedVariables false
set_option linter.unusedSimpArgs false

def loP (j : Nat) (xs : List (List Int)) : Int := match xs with
  | [] => 0
  | x :: r => r.foldl (fun a p => min a (sat (p.getD j 0))) (sat (x.getD j 0))
def hiP (j : Nat) (xs : List (List Int)) : Int := match xs with
  | [] => 0
  | x :: r => r.foldl (fun a p => max a (sat (p.getD j 0))) (sat (x.getD j 0))
theorem take_at2 {xs : List (List Int)} {n : Nat} (h : n < xs.length) : ∃ p, xs.take (n + 1) = xs.take n ++ [p] ∧ ∀ j, at2 xs n j = p.getD j 0 := by
  refine ⟨xs[n], by rw [List.take_succ_eq_append_getElem h], fun j => ?_⟩
  simp [at2, h]
theorem loP_take {j n : Nat} {xs : List (List Int)} (h0 : 0 < n) (h : n < xs.length) : loP j (xs.take (n + 1)) = min (loP j (xs.take n)) (sat (at2 xs n j)) := by
  obtain ⟨p, hp, hj⟩ := take_at2 h
  rw [hp, hj]
  cases xs with
  | nil => simp at h
  | cons x r =>
    obtain ⟨k, rfl⟩ : ∃ k, n = k + 1 := ⟨n - 1, by omega⟩
    simp [loP, List.foldl_append]
theorem hiP_take {j n : Nat} {xs : List (List Int)} (h0 : 0 < n) (h : n < xs.length) : hiP j (xs.take (n + 1)) = max (hiP j (xs.take n)) (sat (at2 xs n j)) := by
  obtain ⟨p, hp, hj⟩ := take_at2 h
  rw [hp, hj]
  cases xs with
  | nil => simp at h
  | cons x r =>
    obtain ⟨k, rfl⟩ : ∃ k, n = k + 1 := ⟨n - 1, by omega⟩
    simp [hiP, List.foldl_append]
theorem loP_one {j : Nat} {xs : List (List Int)} (h : 0 < xs.length) : loP j (xs.take 1) = sat (at2 xs 0 j) := by
  cases xs with
  | nil => simp at h
  | cons x r => simp [loP, at2]
theorem hiP_one {j : Nat} {xs : List (List Int)} (h : 0 < xs.length) : hiP j (xs.take 1) = sat (at2 xs 0 j) := by
  cases xs with
  | nil => simp at h
  | cons x r => simp [hiP, at2]

end Go.Proofs.Ytkfaflhhkmkdjaa

namespace Go.Proofs.Ytkfaflhhkmkdjaa
open Go.RowKit Fx Vx Bx Ev
set_option linter.unusedVariables false
set_option linter.unusedSimpArgs false

end Go.Proofs.Ytkfaflhhkmkdjaa

namespace Go.Proofs.Ytkfaflhhkmkdjaa
open Go.RowKit Fx Vx Bx Ev
set_option linter.unusedVariables false
set_option linter.unusedSimpArgs false

theorem fp4 {a b c d e f g h : Int} (h1 : validB a b c d = true) (h2 : validB e f g h = true) :
    loP 0 [[a, b], [c, d], [e, f], [g, h]] = min a e ∧ loP 1 [[a, b], [c, d], [e, f], [g, h]] = min b f ∧ hiP 0 [[a, b], [c, d], [e, f], [g, h]] = max c g ∧ hiP 1 [[a, b], [c, d], [e, f], [g, h]] = max d h := by
  simp only [validB, satB, Bool.and_eq_true, decide_eq_true_eq, beq_iff_eq] at h1 h2
  obtain ⟨⟨⟨p1, p2⟩, p3, p4⟩, p5, p6⟩ := h1
  obtain ⟨⟨⟨q1, q2⟩, q3, q4⟩, q5, q6⟩ := h2
  refine ⟨?_, ?_, ?_, ?_⟩ <;> (simp only [loP, hiP, List.foldl, List.getD_cons_zero, List.getD_cons_succ, p3, p4, p5, p6, q3, q4, q5, q6]; omega)

end Go.Proofs.Ytkfaflhhkmkdjaa

namespace Go.Proofs.Ytkfaflhhkmkdjaa
open Go.RowKit Fx Vx Bx Ev
set_option linter.unusedVariables false
set_option linter.unusedSimpArgs false

def cnt (s o : Int) : Int := if o = s then 1 else 0
def corn (a b c d : Int) : List (List Int) := [[a, b], [c, b], [c, d], [a, d]]
def sideN (s x y z w : Int) (cs : List (List Int)) : Nat → Int
  | 0 => 0
  | n + 1 => sideN s x y z w cs n + cnt s (orient x y z w (at2 cs n 0) (at2 cs n 1))
theorem sideN_bd (s x y z w : Int) (cs : List (List Int)) : ∀ n : Nat, 0 ≤ sideN s x y z w cs n ∧ sideN s x y z w cs n ≤ n
  | 0 => ⟨Int.le_refl _, Int.le_refl _⟩
  | n + 1 => by
    have := sideN_bd s x y z w cs n
    simp only [sideN, cnt]
    split <;> omega
def isegB (a b c d x y z w : Int) : Bool := validB a b c d && overB a b c d (min (sat x) (sat z)) (min (sat y) (sat w)) (max (sat x) (sat z)) (max (sat y) (sat w)) && (decide (sideN 1 x y z w (corn a b c d) 4 < 4) && decide (sideN (-1) x y z w (corn a b c d) 4 < 4))
theorem sat_sat' (a : Int) : sat (sat a) = sat a := by simp only [sat]; omega
theorem orient_sat (a b c d e f : Int) : orient (sat a) (sat b) (sat c) (sat d) e f = orient a b c d e f := by simp only [orient, orientN, sat_sat']

theorem seg_box (a b c d x y z w : Int) : overlapsB a b c d (loP 0 [[x, y], [z, w]]) (loP 1 [[x, y], [z, w]]) (hiP 0 [[x, y], [z, w]]) (hiP 1 [[x, y], [z, w]]) = (validB a b c d && overB a b c d (min (sat x) (sat z)) (min (sat y) (sat w)) (max (sat x) (sat z)) (max (sat y) (sat w))) := by
  have hv : validB (min (sat x) (sat z)) (min (sat y) (sat w)) (max (sat x) (sat z)) (max (sat y) (sat w)) = true := by
    have m1 : ∀ p q : Int, sat (min (sat p) (sat q)) = min (sat p) (sat q) := by { intro p q; simp only [sat]; omega }
    have m2 : ∀ p q : Int, sat (max (sat p) (sat q)) = max (sat p) (sat q) := by { intro p q; simp only [sat]; omega }
    simp only [validB, satB, m1, m2, beq_self_eq_true, Bool.and_true, Bool.and_eq_true, decide_eq_true_eq]
    omega
  simp only [overlapsB, loP, hiP, List.foldl, List.getD_cons_zero, List.getD_cons_succ, hv, Bool.and_true]

end Go.Proofs.Ytkfaflhhkmkdjaa
