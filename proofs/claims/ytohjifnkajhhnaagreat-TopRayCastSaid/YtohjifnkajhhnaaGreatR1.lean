/- Contracts of packages angle and transform, and of small tests. -/
import Derived.Test.YtohjifnkajhhnaaGreatKA
import Derived.Test.YtohjifnkajhhnaaGreatS2
import Derived.Test.YtohjifnkajhhnaaGreatSA
namespace Go.Proofs.YtohjifnkajhhnaaGreat
open Go.RowKit Fx Vx Bx Ev
set_option linter.unusedVariables false
set_option linter.unusedSimpArgs false
def nrmA (a : Int) : Int := if 205888 ≤ a.tmod 411776 then a.tmod 411776 - 411776 else if a.tmod 411776 < -205888 then a.tmod 411776 + 411776 else a.tmod 411776
def absI (a : Int) : Int := if a < 0 then -a else a
theorem nrmA_bd (a : Int) : -205888 ≤ nrmA a ∧ nrmA a < 205888 := by
  have h1 : a.tmod 411776 < 411776 := Int.tmod_lt_of_pos _ (by decide)
  have h2 : -411776 < a.tmod 411776 := Int.lt_tmod_of_pos _ (by decide)
  unfold nrmA; split
  · omega
  · split <;> omega
theorem absI_bd {a n : Int} (h1 : -n ≤ a) (h2 : a ≤ n) : 0 ≤ absI a ∧ absI a ≤ n := by unfold absI; split <;> omega
def fold (x : Int) : Int := if 102944 < x then 205888 - x else x
/-- The sine of z right angles. -/
def sinZ (z : Int) : Int := mul z (sub 102873 (mul (mul z z) (sub 41906 (mul (mul z z) 4569))))
def sinA (a : Int) : Int := if nrmA a < 0 then -sinZ (dv (fold (absI (nrmA a))) 102944) else sinZ (dv (fold (absI (nrmA a))) 102944)
def cosA (a : Int) : Int := sinA (102944 - absI (nrmA a))
theorem sinZ_bd (z : Int) : -536870911 ≤ sinZ z ∧ sinZ z ≤ 536870911 := ⟨mul_lo _ _, mul_hi _ _⟩
theorem sinA_bd (a : Int) : -536870911 ≤ sinA a ∧ sinA a ≤ 536870911 := by
  have := sinZ_bd (dv (fold (absI (nrmA a))) 102944)
  unfold sinA; split <;> omega
def rotL (a : Int) : Int := isq (cosA a * cosA a + sinA a * sinA a)
def rotC (a : Int) : Int := dv (cosA a) (rotL a)
def rotS (a : Int) : Int := dv (sinA a) (rotL a)
def turnX (c s x y : Int) : Int := sat (rd (sat c * sat x - sat s * sat y) 65536)
def turnY (c s x y : Int) : Int := sat (rd (sat s * sat x + sat c * sat y) 65536)
def appX (px py a x y : Int) : Int := add (turnX (rotC a) (rotS a) x y) px
def appY (px py a x y : Int) : Int := add (turnY (rotC a) (rotS a) x y) py
def inB (x l h : Int) : Bool := decide (l ≤ x) && decide (x ≤ h)
theorem inB_yes {x l h : Int} (a : l ≤ x) (b : x ≤ h) : inB x l h = true := by simp [inB, a, b]
theorem inB_no {x l h : Int} (a : ¬ (l ≤ x ∧ x ≤ h)) : inB x l h = false := by
  cases e : inB x l h
  · rfl
  · simp only [inB, Bool.and_eq_true, decide_eq_true_eq] at e; exact absurd e a
def c_vec2_Rotate : Con := ⟨90, pureRun [2, 2] (fun _ => []) fun | [c, s, x, y] => .agg [.int .i64 (turnX c s x y), .int .i64 (turnY c s x y)] | _ => .any⟩
set_option maxRecDepth 100000 in
set_option maxHeartbeats 1000000 in
theorem con_vec2_Rotate : c_vec2_Rotate.Ok Tryz.prog := by
  refine con_pure (C := [c_vec2_saturate, c_vec2_product, c_fixed_Saturate]) (pl := [(1, [0, 1, 2, 3, 4, 5, 6, 7, 8, 9, 10], [0, 1, 3, 0, 8, 31, 0, 127, 255, 511, 1023]), (2, [0, 1, 2, 3, 4, 5, 6, 7, 8, 9, 10, 11, 12, 13, 14, 15, 16, 17, 18, 19, 20, 21], [0, 0, 2, 7, 0, 0, 32, 112, 255, 511, 0, 0, 2048, 7168, 0, 0, 32768, 114688, 261120, 524287, 1048575, 2097151])]) Tryz.func90 rfl (by kernel_rfl) T_ok (Cons.cons con_vec2_saturate (Cons.cons con_vec2_product (Cons.cons con_fixed_Saturate (Cons.nil _)))) mixed (by kernel_rfl) _ _ _ (fun l hl hpre => ?_)
  match l, hl with
  | [c, s, x, y], _ =>
    repeat' (first | (with_reducible refine And.intro ?_ ?_) | (with_reducible intro h) | ((fail_if_success (with_reducible refine Leaf.mk ?_)); (fail_if_success (with_reducible refine VC.mk ?_)); (fail_if_success (with_reducible refine Goes.mk ?_)); (fail_if_success (with_reducible refine Again.mk ?_)); (fail_if_success (with_reducible refine Rounds.mk ?_)); (fail_if_success (with_reducible show False)); (fail_if_success (with_reducible show True)); conv => whnf))
    all_goals try with_reducible exact trivial
    all_goals try (refine VC.mk ?_; have m1 := satmul_bd c x; have m2 := satmul_bd s y; have m3 := satmul_bd s x; have m4 := satmul_bd c y; first | exact trivial | omega | (simp only [InR]; omega))
    all_goals (refine Leaf.mk ?_; first | rfl | exact ⟨rfl, rfl⟩ | (simp [turnX, turnY]; done))
def c_angle_Normalize : Con := ⟨142, pureRun [0] (fun _ => []) fun | [a] => .int .i64 (nrmA a) | _ => .any⟩
set_option maxRecDepth 100000 in
set_option maxHeartbeats 1000000 in
theorem con_angle_Normalize : c_angle_Normalize.Ok Tryz.prog := by
  refine con_pure (C := []) (pl := []) Tryz.func142 rfl (by kernel_rfl) T_ok (Cons.nil _) mixed (by kernel_rfl) _ _ _ (fun l hl hpre => ?_)
  match l, hl with
  | [a], _ =>
    have h1 : a.tmod 411776 < 411776 := Int.tmod_lt_of_pos _ (by decide)
    have h2 : -411776 < a.tmod 411776 := Int.lt_tmod_of_pos _ (by decide)
    repeat' (first | (with_reducible refine And.intro ?_ ?_) | (with_reducible intro h) | ((fail_if_success (with_reducible refine Leaf.mk ?_)); (fail_if_success (with_reducible refine VC.mk ?_)); (fail_if_success (with_reducible refine Goes.mk ?_)); (fail_if_success (with_reducible refine Again.mk ?_)); (fail_if_success (with_reducible refine Rounds.mk ?_)); (fail_if_success (with_reducible show False)); (fail_if_success (with_reducible show True)); conv => whnf))
    all_goals try with_reducible exact trivial
    all_goals try (simp only [decide_eq_true_eq, decide_eq_false_iff_not] at *)
    all_goals try (refine VC.mk ?_; first | exact trivial | omega | (simp only [InR]; omega))
    all_goals (refine Leaf.mk ?_; unfold nrmA; repeat' split; all_goals omega)
def c_angle_abs : Con := ⟨141, pureRun [0] (fun | [a] => [-9000000000000000000 ≤ a, a ≤ 9000000000000000000] | _ => [False]) fun | [a] => .int .i64 (absI a) | _ => .any⟩
set_option maxRecDepth 100000 in
set_option maxHeartbeats 1000000 in
theorem con_angle_abs : c_angle_abs.Ok Tryz.prog := by
  refine con_pure (C := []) (pl := []) Tryz.func141 rfl (by kernel_rfl) T_ok (Cons.nil _) mixed (by kernel_rfl) _ _ _ (fun l hl hpre => ?_)
  match l, hl with
  | [a], _ =>
    have g0 : -9000000000000000000 ≤ a := hpre _ (List.Mem.head _)
    have g1 : a ≤ 9000000000000000000 := hpre _ (List.Mem.tail _ (List.Mem.head _))
    repeat' (first | (with_reducible refine And.intro ?_ ?_) | (with_reducible intro h) | ((fail_if_success (with_reducible refine Leaf.mk ?_)); (fail_if_success (with_reducible refine VC.mk ?_)); (fail_if_success (with_reducible refine Goes.mk ?_)); (fail_if_success (with_reducible refine Again.mk ?_)); (fail_if_success (with_reducible refine Rounds.mk ?_)); (fail_if_success (with_reducible show False)); (fail_if_success (with_reducible show True)); conv => whnf))
    all_goals try with_reducible exact trivial
    all_goals try (simp only [decide_eq_true_eq, decide_eq_false_iff_not] at *)
    all_goals try (refine VC.mk ?_; first | exact trivial | omega | (simp only [InR]; omega))
    all_goals (refine Leaf.mk ?_; unfold absI; repeat' split; all_goals omega)
def c_angle_Sin : Con := ⟨127, pureRun [0] (fun _ => []) fun | [a] => .int .i64 (sinA a) | _ => .any⟩
set_option maxRecDepth 100000 in
set_option maxHeartbeats 1000000 in
theorem con_angle_Sin : c_angle_Sin.Ok Tryz.prog := by
  refine con_pure (C := [c_fixed_Div, c_fixed_Mul, c_fixed_Sub, c_angle_Normalize, c_angle_abs]) (pl := []) Tryz.func127 rfl (by kernel_rfl) T_ok (Cons.cons con_fixed_Div (Cons.cons con_fixed_Mul (Cons.cons con_fixed_Sub (Cons.cons con_angle_Normalize (Cons.cons con_angle_abs (Cons.nil _)))))) mixed (by kernel_rfl) _ _ _ (fun l hl hpre => ?_)
  match l, hl with
  | [a], _ =>
    have n1 := nrmA_bd a
    have n2 := absI_bd (a := nrmA a) (n := 205888) (by omega) (by omega)
    have n3 := sinZ_bd (dv (fold (absI (nrmA a))) 102944)
    repeat' (first | (with_reducible refine And.intro ?_ ?_) | (with_reducible intro h) | ((fail_if_success (with_reducible refine Leaf.mk ?_)); (fail_if_success (with_reducible refine VC.mk ?_)); (fail_if_success (with_reducible refine Goes.mk ?_)); (fail_if_success (with_reducible refine Again.mk ?_)); (fail_if_success (with_reducible refine Rounds.mk ?_)); (fail_if_success (with_reducible show False)); (fail_if_success (with_reducible show True)); conv => whnf))
    all_goals try with_reducible exact trivial
    all_goals try (simp only [decide_eq_true_eq, decide_eq_false_iff_not] at *)
    all_goals try (have e : fold (absI (nrmA a)) = 205888 - absI (nrmA a) := by unfold fold; rw [if_pos (by omega)])
    all_goals try (have e : fold (absI (nrmA a)) = absI (nrmA a) := by unfold fold; rw [if_neg (by omega)])
    all_goals try rw [e] at n3
    all_goals try (refine VC.mk ?_; first | exact trivial | omega | (simp only [InR]; omega) | (unfold sinZ at n3; simp only [InR]; omega))
    all_goals (refine Leaf.mk ?_; unfold sinA; rw [e]; first | (rw [if_pos (by omega)]; rfl) | (rw [if_neg (by omega)]; rfl))
def c_angle_Cos : Con := ⟨126, pureRun [0] (fun _ => []) fun | [a] => .int .i64 (cosA a) | _ => .any⟩
set_option maxRecDepth 100000 in
set_option maxHeartbeats 1000000 in
theorem con_angle_Cos : c_angle_Cos.Ok Tryz.prog := by
  refine con_pure (C := [c_angle_Normalize, c_angle_abs, c_angle_Sin]) (pl := []) Tryz.func126 rfl (by kernel_rfl) T_ok (Cons.cons con_angle_Normalize (Cons.cons con_angle_abs (Cons.cons con_angle_Sin (Cons.nil _)))) mixed (by kernel_rfl) _ _ _ (fun l hl hpre => ?_)
  match l, hl with
  | [a], _ =>
    have n1 := nrmA_bd a
    have n2 := absI_bd (a := nrmA a) (n := 205888) (by omega) (by omega)
    repeat' (first | (with_reducible refine And.intro ?_ ?_) | (with_reducible intro h) | ((fail_if_success (with_reducible refine Leaf.mk ?_)); (fail_if_success (with_reducible refine VC.mk ?_)); (fail_if_success (with_reducible refine Goes.mk ?_)); (fail_if_success (with_reducible refine Again.mk ?_)); (fail_if_success (with_reducible refine Rounds.mk ?_)); (fail_if_success (with_reducible show False)); (fail_if_success (with_reducible show True)); conv => whnf))
    all_goals try with_reducible exact trivial
    all_goals try (refine VC.mk ?_; first | exact trivial | omega | (simp only [InR]; omega))
    all_goals (refine Leaf.mk ?_; rfl)
def c_angle_Rot : Con := ⟨91, pureRun [0] (fun _ => []) fun | [a] => .agg [.int .i64 (rotC a), .int .i64 (rotS a)] | _ => .any⟩
set_option maxRecDepth 100000 in
set_option maxHeartbeats 1000000 in
theorem con_angle_Rot : c_angle_Rot.Ok Tryz.prog := by
  refine con_pure (C := [c_fixed_Div, c_fixed_Isqrt, c_angle_Sin, c_angle_Cos]) (pl := []) Tryz.func91 rfl (by kernel_rfl) T_ok (Cons.cons con_fixed_Div (Cons.cons con_fixed_Isqrt (Cons.cons con_angle_Sin (Cons.cons con_angle_Cos (Cons.nil _))))) mixed (by kernel_rfl) _ _ _ (fun l hl hpre => ?_)
  match l, hl with
  | [a], _ =>
    have n1 : -536870911 ≤ cosA a ∧ cosA a ≤ 536870911 := sinA_bd _
    have n2 := sinA_bd a
    have m1 := mul_bd (A := 536870911) n1.1 n1.2 n1.1 n1.2
    have m2 := mul_bd (A := 536870911) n2.1 n2.2 n2.1 n2.2
    repeat' (first | (with_reducible refine And.intro ?_ ?_) | (with_reducible intro h) | ((fail_if_success (with_reducible refine Leaf.mk ?_)); (fail_if_success (with_reducible refine VC.mk ?_)); (fail_if_success (with_reducible refine Goes.mk ?_)); (fail_if_success (with_reducible refine Again.mk ?_)); (fail_if_success (with_reducible refine Rounds.mk ?_)); (fail_if_success (with_reducible show False)); (fail_if_success (with_reducible show True)); conv => whnf))
    all_goals try with_reducible exact trivial
    all_goals try (refine VC.mk ?_; first | exact trivial | omega | (simp only [InR]; omega))
    all_goals (refine Leaf.mk ?_; first | rfl | exact ⟨rfl, rfl⟩)
def c_transform_Apply : Con := ⟨43, pureRun [3, 2] (fun _ => []) fun | [px, py, a, x, y] => .agg [.int .i64 (appX px py a x y), .int .i64 (appY px py a x y)] | _ => .any⟩
set_option maxRecDepth 100000 in
set_option maxHeartbeats 1000000 in
theorem con_transform_Apply : c_transform_Apply.Ok Tryz.prog := by
  refine con_pure (C := [c_vec2_Add, c_vec2_Rotate, c_angle_Rot]) (pl := [(1, [0, 1, 2, 3, 4, 5, 6, 7, 8], [0, 1, 3, 0, 15, 0, 32, 127, 255])]) Tryz.func43 rfl (by kernel_rfl) T_ok (Cons.cons con_vec2_Add (Cons.cons con_vec2_Rotate (Cons.cons con_angle_Rot (Cons.nil _)))) mixed (by kernel_rfl) _ _ _ (fun l hl hpre => ?_)
  match l, hl with
  | [px, py, a, x, y], _ =>
    repeat' (first | (with_reducible refine And.intro ?_ ?_) | (with_reducible intro h) | ((fail_if_success (with_reducible refine Leaf.mk ?_)); (fail_if_success (with_reducible refine VC.mk ?_)); (fail_if_success (with_reducible refine Goes.mk ?_)); (fail_if_success (with_reducible refine Again.mk ?_)); (fail_if_success (with_reducible refine Rounds.mk ?_)); (fail_if_success (with_reducible show False)); (fail_if_success (with_reducible show True)); conv => whnf))
    all_goals try with_reducible exact trivial
    all_goals try (refine VC.mk ?_; first | exact trivial | omega | (simp only [InR]; omega))
    all_goals (refine Leaf.mk ?_; first | rfl | exact ⟨rfl, rfl⟩)
def c_world_in : Con := ⟨15, pureRun [0, 0, 0] (fun _ => []) fun | [x, l, h] => .bool (inB x l h) | _ => .any⟩
set_option maxRecDepth 100000 in
set_option maxHeartbeats 1000000 in
theorem con_world_in : c_world_in.Ok Tryz.prog := by
  refine con_pure (C := []) (pl := []) Tryz.func15 rfl (by kernel_rfl) T_ok (Cons.nil _) mixed (by kernel_rfl) _ _ _ (fun l hl hpre => ?_)
  match l, hl with
  | [x, l, h], _ =>
    repeat' (first | (with_reducible refine And.intro ?_ ?_) | (with_reducible intro h) | ((fail_if_success (with_reducible refine Leaf.mk ?_)); (fail_if_success (with_reducible refine VC.mk ?_)); (fail_if_success (with_reducible refine Goes.mk ?_)); (fail_if_success (with_reducible refine Again.mk ?_)); (fail_if_success (with_reducible refine Rounds.mk ?_)); (fail_if_success (with_reducible show False)); (fail_if_success (with_reducible show True)); conv => whnf))
    all_goals try with_reducible exact trivial
    all_goals try (simp only [decide_eq_true_eq, decide_eq_false_iff_not] at *)
    all_goals try (refine VC.mk ?_; first | exact trivial | omega | (simp only [InR]; omega))
    all_goals (refine Leaf.mk ?_; first | rfl | (symm; exact inB_no (by omega)) | (symm; exact inB_yes (by omega) (by omega)) | (simp [inB, *]; done) | (simp [inB, *]; omega) | (simp_all [inB]; done))
def c_body_within : Con := ⟨113, pureRun [0, 0, 0] (fun _ => []) fun | [x, l, h] => .bool (inB x l h) | _ => .any⟩
set_option maxRecDepth 100000 in
set_option maxHeartbeats 1000000 in
theorem con_body_within : c_body_within.Ok Tryz.prog := by
  refine con_pure (C := []) (pl := []) Tryz.func113 rfl (by kernel_rfl) T_ok (Cons.nil _) mixed (by kernel_rfl) _ _ _ (fun l hl hpre => ?_)
  match l, hl with
  | [x, l, h], _ =>
    repeat' (first | (with_reducible refine And.intro ?_ ?_) | (with_reducible intro h) | ((fail_if_success (with_reducible refine Leaf.mk ?_)); (fail_if_success (with_reducible refine VC.mk ?_)); (fail_if_success (with_reducible refine Goes.mk ?_)); (fail_if_success (with_reducible refine Again.mk ?_)); (fail_if_success (with_reducible refine Rounds.mk ?_)); (fail_if_success (with_reducible show False)); (fail_if_success (with_reducible show True)); conv => whnf))
    all_goals try with_reducible exact trivial
    all_goals try (simp only [decide_eq_true_eq, decide_eq_false_iff_not] at *)
    all_goals try (refine VC.mk ?_; first | exact trivial | omega | (simp only [InR]; omega))
    all_goals (refine Leaf.mk ?_; first | rfl | (symm; exact inB_no (by omega)) | (symm; exact inB_yes (by omega) (by omega)) | (simp [inB, *]; done) | (simp [inB, *]; omega) | (simp_all [inB]; done))
def c_joint_inRange : Con := ⟨117, pureRun [0, 0, 0] (fun _ => []) fun | [x, l, h] => .bool (inB x l h) | _ => .any⟩
set_option maxRecDepth 100000 in
set_option maxHeartbeats 1000000 in
theorem con_joint_inRange : c_joint_inRange.Ok Tryz.prog := by
  refine con_pure (C := []) (pl := []) Tryz.func117 rfl (by kernel_rfl) T_ok (Cons.nil _) mixed (by kernel_rfl) _ _ _ (fun l hl hpre => ?_)
  match l, hl with
  | [x, l, h], _ =>
    repeat' (first | (with_reducible refine And.intro ?_ ?_) | (with_reducible intro h) | ((fail_if_success (with_reducible refine Leaf.mk ?_)); (fail_if_success (with_reducible refine VC.mk ?_)); (fail_if_success (with_reducible refine Goes.mk ?_)); (fail_if_success (with_reducible refine Again.mk ?_)); (fail_if_success (with_reducible refine Rounds.mk ?_)); (fail_if_success (with_reducible show False)); (fail_if_success (with_reducible show True)); conv => whnf))
    all_goals try with_reducible exact trivial
    all_goals try (simp only [decide_eq_true_eq, decide_eq_false_iff_not] at *)
    all_goals try (refine VC.mk ?_; first | exact trivial | omega | (simp only [InR]; omega))
    all_goals (refine Leaf.mk ?_; first | rfl | (symm; exact inB_no (by omega)) | (symm; exact inB_yes (by omega) (by omega)) | (simp [inB, *]; done) | (simp [inB, *]; omega) | (simp_all [inB]; done))
def c_transform_inWorld : Con := ⟨138, pureRun [0] (fun _ => []) fun | [x] => .bool (inB x (-268435456) 268435456) | _ => .any⟩
set_option maxRecDepth 100000 in
set_option maxHeartbeats 1000000 in
theorem con_transform_inWorld : c_transform_inWorld.Ok Tryz.prog := by
  refine con_pure (C := []) (pl := []) Tryz.func138 rfl (by kernel_rfl) T_ok (Cons.nil _) mixed (by kernel_rfl) _ _ _ (fun l hl hpre => ?_)
  match l, hl with
  | [x], _ =>
    repeat' (first | (with_reducible refine And.intro ?_ ?_) | (with_reducible intro h) | ((fail_if_success (with_reducible refine Leaf.mk ?_)); (fail_if_success (with_reducible refine VC.mk ?_)); (fail_if_success (with_reducible refine Goes.mk ?_)); (fail_if_success (with_reducible refine Again.mk ?_)); (fail_if_success (with_reducible refine Rounds.mk ?_)); (fail_if_success (with_reducible show False)); (fail_if_success (with_reducible show True)); conv => whnf))
    all_goals try with_reducible exact trivial
    all_goals try (simp only [decide_eq_true_eq, decide_eq_false_iff_not] at *)
    all_goals try (refine VC.mk ?_; first | exact trivial | omega | (simp only [InR]; omega))
    all_goals (refine Leaf.mk ?_; first | rfl | (symm; exact inB_no (by omega)) | (symm; exact inB_yes (by omega) (by omega)) | (simp [inB, *]; done) | (simp [inB, *]; omega) | (simp_all [inB]; done))
def trB (px py a : Int) : Bool := inB px (-268435456) 268435456 && (inB py (-268435456) 268435456 && inB a (-205888) 205887)
def boxB (x y n : Int) : Bool := inB x (-n) n && inB y (-n) n
def c_transform_Valid : Con := ⟨114, pureRun [3] (fun _ => []) fun | [px, py, a] => .bool (trB px py a) | _ => .any⟩
set_option maxRecDepth 100000 in
set_option maxHeartbeats 1000000 in
theorem con_transform_Valid : c_transform_Valid.Ok Tryz.prog := by
  refine con_pure (C := [c_transform_inWorld]) (pl := []) Tryz.func114 rfl (by kernel_rfl) T_ok (Cons.cons con_transform_inWorld (Cons.nil _)) mixed (by kernel_rfl) _ _ _ (fun l hl hpre => ?_)
  match l, hl with
  | [px, py, a], _ =>
    repeat' (first | (with_reducible refine And.intro ?_ ?_) | (with_reducible intro h) | ((fail_if_success (with_reducible refine Leaf.mk ?_)); (fail_if_success (with_reducible refine VC.mk ?_)); (fail_if_success (with_reducible refine Goes.mk ?_)); (fail_if_success (with_reducible refine Again.mk ?_)); (fail_if_success (with_reducible refine Rounds.mk ?_)); (fail_if_success (with_reducible show False)); (fail_if_success (with_reducible show True)); conv => whnf))
    all_goals try with_reducible exact trivial
    all_goals try (simp only [decide_eq_true_eq, decide_eq_false_iff_not] at *)
    all_goals try (refine VC.mk ?_; first | exact trivial | omega | (simp only [InR]; omega))
    all_goals try (have e : inB a (-205888) 205887 = false := inB_no (by omega))
    all_goals try (have e : decide (a < 205888) = decide (a ≤ 205887) := by apply decide_eq_decide.2; omega)
    all_goals (refine Leaf.mk ?_; first | rfl | (simp [trB, *]; done) | (simp_all [trB, inB]; done))
def c_body_bounded : Con := ⟨112, pureRun [2, 0] (fun | [x, y, n] => [-9000000000000000000 ≤ n, n ≤ 9000000000000000000] | _ => [False]) fun | [x, y, n] => .bool (boxB x y n) | _ => .any⟩
set_option maxRecDepth 100000 in
set_option maxHeartbeats 1000000 in
theorem con_body_bounded : c_body_bounded.Ok Tryz.prog := by
  refine con_pure (C := [c_body_within]) (pl := []) Tryz.func112 rfl (by kernel_rfl) T_ok (Cons.cons con_body_within (Cons.nil _)) mixed (by kernel_rfl) _ _ _ (fun l hl hpre => ?_)
  match l, hl with
  | [x, y, n], _ =>
    have g0 : -9000000000000000000 ≤ n := hpre _ (List.Mem.head _)
    have g1 : n ≤ 9000000000000000000 := hpre _ (List.Mem.tail _ (List.Mem.head _))
    repeat' (first | (with_reducible refine And.intro ?_ ?_) | (with_reducible intro h) | ((fail_if_success (with_reducible refine Leaf.mk ?_)); (fail_if_success (with_reducible refine VC.mk ?_)); (fail_if_success (with_reducible refine Goes.mk ?_)); (fail_if_success (with_reducible refine Again.mk ?_)); (fail_if_success (with_reducible refine Rounds.mk ?_)); (fail_if_success (with_reducible show False)); (fail_if_success (with_reducible show True)); conv => whnf))
    all_goals try with_reducible exact trivial
    all_goals try (simp only [decide_eq_true_eq, decide_eq_false_iff_not] at *)
    all_goals try (refine VC.mk ?_; first | exact trivial | omega | (simp only [InR]; omega))
    all_goals (refine Leaf.mk ?_; first | rfl | (simp [boxB, *]; done) | (simp_all [boxB]; done))
def c_joint_pointInRange : Con := ⟨118, pureRun [2, 0] (fun | [x, y, n] => [-9000000000000000000 ≤ n, n ≤ 9000000000000000000] | _ => [False]) fun | [x, y, n] => .bool (boxB x y n) | _ => .any⟩
set_option maxRecDepth 100000 in
set_option maxHeartbeats 1000000 in
theorem con_joint_pointInRange : c_joint_pointInRange.Ok Tryz.prog := by
  refine con_pure (C := [c_joint_inRange]) (pl := []) Tryz.func118 rfl (by kernel_rfl) T_ok (Cons.cons con_joint_inRange (Cons.nil _)) mixed (by kernel_rfl) _ _ _ (fun l hl hpre => ?_)
  match l, hl with
  | [x, y, n], _ =>
    have g0 : -9000000000000000000 ≤ n := hpre _ (List.Mem.head _)
    have g1 : n ≤ 9000000000000000000 := hpre _ (List.Mem.tail _ (List.Mem.head _))
    repeat' (first | (with_reducible refine And.intro ?_ ?_) | (with_reducible intro h) | ((fail_if_success (with_reducible refine Leaf.mk ?_)); (fail_if_success (with_reducible refine VC.mk ?_)); (fail_if_success (with_reducible refine Goes.mk ?_)); (fail_if_success (with_reducible refine Again.mk ?_)); (fail_if_success (with_reducible refine Rounds.mk ?_)); (fail_if_success (with_reducible show False)); (fail_if_success (with_reducible show True)); conv => whnf))
    all_goals try with_reducible exact trivial
    all_goals try (simp only [decide_eq_true_eq, decide_eq_false_iff_not] at *)
    all_goals try (refine VC.mk ?_; first | exact trivial | omega | (simp only [InR]; omega))
    all_goals (refine Leaf.mk ?_; first | rfl | (simp [boxB, *]; done) | (simp_all [boxB]; done))
def outB (n : Int) : Bool := decide (n < -1048576) || decide (1048576 < n)
def limL (k : Int) : Int := if k = 1 then 0 else if k = 2 then -205888 else -268435456
def limH (k : Int) : Int := if k = 1 then 268435456 else if k = 2 then 205888 else 268435456
def keyC (a b c d e f g h : Int) : Int := orK [[cmpI a e], [cmpI b f], [cmpI c g], [cmpI d h]] 4
def hitC (a b c e f g : Int) : Int := orK [[cmpI c g], [cmpI a e], [cmpI b f]] 3
def c_shape_outOfRange : Con := ⟨86, pureRun [0] (fun _ => []) fun | [n] => .bool (outB n) | _ => .any⟩
set_option maxRecDepth 100000 in
set_option maxHeartbeats 1000000 in
theorem con_shape_outOfRange : c_shape_outOfRange.Ok Tryz.prog := by
  refine con_pure (C := []) (pl := []) Tryz.func86 rfl (by kernel_rfl) T_ok (Cons.nil _) mixed (by kernel_rfl) _ _ _ (fun l hl hpre => ?_)
  match l, hl with
  | [n], _ =>
    repeat' (first | (with_reducible refine And.intro ?_ ?_) | (with_reducible intro h) | ((fail_if_success (with_reducible refine Leaf.mk ?_)); (fail_if_success (with_reducible refine VC.mk ?_)); (fail_if_success (with_reducible refine Goes.mk ?_)); (fail_if_success (with_reducible refine Again.mk ?_)); (fail_if_success (with_reducible refine Rounds.mk ?_)); (fail_if_success (with_reducible show False)); (fail_if_success (with_reducible show True)); conv => whnf))
    all_goals try with_reducible exact trivial
    all_goals try (simp only [decide_eq_true_eq, decide_eq_false_iff_not] at *)
    all_goals try (refine VC.mk ?_; first | exact trivial | omega | (simp only [InR]; omega))
    all_goals (refine Leaf.mk ?_; first | rfl | (simp [outB, *]; done) | (simp_all [outB]; done))
def c_joint_limitRange : Con := ⟨116, pureRun [0] (fun _ => []) fun | [k] => .tup [.int .i64 (limL k), .int .i64 (limH k)] | _ => .any⟩
set_option maxRecDepth 100000 in
set_option maxHeartbeats 1000000 in
theorem con_joint_limitRange : c_joint_limitRange.Ok Tryz.prog := by
  refine con_pure (C := []) (pl := []) Tryz.func116 rfl (by kernel_rfl) T_ok (Cons.nil _) mixed (by kernel_rfl) _ _ _ (fun l hl hpre => ?_)
  match l, hl with
  | [k], _ =>
    repeat' (first | (with_reducible refine And.intro ?_ ?_) | (with_reducible intro h) | ((fail_if_success (with_reducible refine Leaf.mk ?_)); (fail_if_success (with_reducible refine VC.mk ?_)); (fail_if_success (with_reducible refine Goes.mk ?_)); (fail_if_success (with_reducible refine Again.mk ?_)); (fail_if_success (with_reducible refine Rounds.mk ?_)); (fail_if_success (with_reducible show False)); (fail_if_success (with_reducible show True)); conv => whnf))
    all_goals try with_reducible exact trivial
    all_goals try (simp only [decide_eq_true_eq, decide_eq_false_iff_not] at *)
    all_goals (refine Leaf.mk ?_; first | rfl | (simp [limL, limH, *]; done))
def c_broadphase_compare : Con := ⟨122, pureRun [4, 4] (fun _ => []) fun | [a, b, c, d, e, f, g, h] => .int .i64 (keyC a b c d e f g h) | _ => .any⟩
set_option maxRecDepth 100000 in
set_option maxHeartbeats 1000000 in
theorem con_broadphase_compare : c_broadphase_compare.Ok Tryz.prog := by
  refine con_pure (C := [c_cmp_Compare, c_cmp_Or]) (pl := [(1, [0, 1, 2, 3, 4, 5, 6, 7, 8, 9, 10, 11, 12, 13, 14, 15, 16, 17, 18, 19, 20, 21, 22], [0, 1, 0, 4, 15, 0, 32, 0, 128, 511, 0, 1024, 0, 4096, 16383, 0, 32768, 0, 131072, 524287, 1048575, 2097151, 4194303])]) Tryz.func122 rfl (by kernel_rfl) T_ok (Cons.cons con_cmp_Compare (Cons.cons con_cmp_Or (Cons.nil _))) mixed (by kernel_rfl) _ _ _ (fun l hl hpre => ?_)
  match l, hl with
  | [a, b, c, d, e, f, g, h], _ =>
    repeat' (first | (with_reducible refine And.intro ?_ ?_) | (with_reducible intro h) | ((fail_if_success (with_reducible refine Leaf.mk ?_)); (fail_if_success (with_reducible refine VC.mk ?_)); (fail_if_success (with_reducible refine Goes.mk ?_)); (fail_if_success (with_reducible refine Again.mk ?_)); (fail_if_success (with_reducible refine Rounds.mk ?_)); (fail_if_success (with_reducible show False)); (fail_if_success (with_reducible show True)); conv => whnf))
    all_goals try first | exact trivial | (refine VC.mk ?_; first | exact trivial | decide | (simp; done)) | (refine Leaf.mk ?_; first | rfl | (simp; done))
def c_broadphase_Less : Con := ⟨80, pureRun [4, 4] (fun _ => []) fun | [a, b, c, d, e, f, g, h] => .bool (decide (keyC a b c d e f g h < 0)) | _ => .any⟩
set_option maxRecDepth 100000 in
set_option maxHeartbeats 1000000 in
theorem con_broadphase_Less : c_broadphase_Less.Ok Tryz.prog := by
  refine con_pure (C := [c_broadphase_compare]) (pl := []) Tryz.func80 rfl (by kernel_rfl) T_ok (Cons.cons con_broadphase_compare (Cons.nil _)) mixed (by kernel_rfl) _ _ _ (fun l hl hpre => ?_)
  match l, hl with
  | [a, b, c, d, e, f, g, h], _ =>
    repeat' (first | (with_reducible refine And.intro ?_ ?_) | (with_reducible intro h) | ((fail_if_success (with_reducible refine Leaf.mk ?_)); (fail_if_success (with_reducible refine VC.mk ?_)); (fail_if_success (with_reducible refine Goes.mk ?_)); (fail_if_success (with_reducible refine Again.mk ?_)); (fail_if_success (with_reducible refine Rounds.mk ?_)); (fail_if_success (with_reducible show False)); (fail_if_success (with_reducible show True)); conv => whnf))
    all_goals try first | exact trivial | (refine VC.mk ?_; first | exact trivial | decide | (simp; done)) | (refine Leaf.mk ?_; first | rfl | (simp; done))
def c_query_compare : Con := ⟨24, pureRun [7, 7] (fun _ => []) fun | [a, b, c, d1, d2, d3, d4, e, f, g, h1, h2, h3, h4] => .int .i64 (hitC a b c e f g) | _ => .any⟩
set_option maxRecDepth 100000 in
set_option maxHeartbeats 1000000 in
theorem con_query_compare : c_query_compare.Ok Tryz.prog := by
  refine con_pure (C := [c_cmp_Compare, c_cmp_Or]) (pl := [(1, [0, 1, 2, 3, 4, 5, 6, 7, 8, 9, 10, 11, 12, 13, 14, 15, 16, 17], [0, 1, 0, 4, 15, 0, 32, 0, 128, 511, 0, 1024, 0, 4096, 16383, 32767, 65535, 131071])]) Tryz.func24 rfl (by kernel_rfl) T_ok (Cons.cons con_cmp_Compare (Cons.cons con_cmp_Or (Cons.nil _))) mixed (by kernel_rfl) _ _ _ (fun l hl hpre => ?_)
  match l, hl with
  | [a, b, c, d1, d2, d3, d4, e, f, g, h1, h2, h3, h4], _ =>
    repeat' (first | (with_reducible refine And.intro ?_ ?_) | (with_reducible intro h) | ((fail_if_success (with_reducible refine Leaf.mk ?_)); (fail_if_success (with_reducible refine VC.mk ?_)); (fail_if_success (with_reducible refine Goes.mk ?_)); (fail_if_success (with_reducible refine Again.mk ?_)); (fail_if_success (with_reducible refine Rounds.mk ?_)); (fail_if_success (with_reducible show False)); (fail_if_success (with_reducible show True)); conv => whnf))
    all_goals try first | exact trivial | (refine VC.mk ?_; first | exact trivial | decide | (simp; done)) | (refine Leaf.mk ?_; first | rfl | (simp; done))
def c_query_Less : Con := ⟨10, pureRun [7, 7] (fun _ => []) fun | [a, b, c, d1, d2, d3, d4, e, f, g, h1, h2, h3, h4] => .bool (decide (hitC a b c e f g < 0)) | _ => .any⟩
set_option maxRecDepth 100000 in
set_option maxHeartbeats 1000000 in
theorem con_query_Less : c_query_Less.Ok Tryz.prog := by
  refine con_pure (C := [c_query_compare]) (pl := []) Tryz.func10 rfl (by kernel_rfl) T_ok (Cons.cons con_query_compare (Cons.nil _)) mixed (by kernel_rfl) _ _ _ (fun l hl hpre => ?_)
  match l, hl with
  | [a, b, c, d1, d2, d3, d4, e, f, g, h1, h2, h3, h4], _ =>
    repeat' (first | (with_reducible refine And.intro ?_ ?_) | (with_reducible intro h) | ((fail_if_success (with_reducible refine Leaf.mk ?_)); (fail_if_success (with_reducible refine VC.mk ?_)); (fail_if_success (with_reducible refine Goes.mk ?_)); (fail_if_success (with_reducible refine Again.mk ?_)); (fail_if_success (with_reducible refine Rounds.mk ?_)); (fail_if_success (with_reducible show False)); (fail_if_success (with_reducible show True)); conv => whnf))
    all_goals try first | exact trivial | (refine VC.mk ?_; first | exact trivial | decide | (simp; done)) | (refine Leaf.mk ?_; first | rfl | (simp; done))
def c_raycast_saturate : Con := ⟨44, pureRun [2] (fun _ => []) fun | [a, b] => .agg [.int .i64 (sat a), .int .i64 (sat b)] | _ => .any⟩
set_option maxRecDepth 100000 in
set_option maxHeartbeats 1000000 in
theorem con_raycast_saturate : c_raycast_saturate.Ok Tryz.prog := by
  refine con_pure (C := [c_fixed_Saturate]) (pl := [(1, [0, 1, 2, 3, 4, 5, 6, 7], [0, 1, 3, 0, 8, 31, 63, 127])]) Tryz.func44 rfl (by kernel_rfl) T_ok (Cons.cons con_fixed_Saturate (Cons.nil _)) mixed (by kernel_rfl) _ _ _ (fun l hl hpre => ?_)
  match l, hl with
  | [a, b], _ =>
    repeat' (first | (with_reducible refine And.intro ?_ ?_) | (with_reducible intro h) | ((fail_if_success (with_reducible refine Leaf.mk ?_)); (fail_if_success (with_reducible refine VC.mk ?_)); (fail_if_success (with_reducible refine Goes.mk ?_)); (fail_if_success (with_reducible refine Again.mk ?_)); (fail_if_success (with_reducible refine Rounds.mk ?_)); (fail_if_success (with_reducible show False)); (fail_if_success (with_reducible show True)); conv => whnf))
    all_goals try first | exact trivial | (refine VC.mk ?_; first | exact trivial | decide | (simp; done)) | (refine Leaf.mk ?_; first | rfl | (simp; done))

end Go.Proofs.YtohjifnkajhhnaaGreat
