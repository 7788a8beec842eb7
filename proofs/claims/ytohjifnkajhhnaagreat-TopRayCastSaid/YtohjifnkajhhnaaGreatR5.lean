/- Contracts of package shape, continued; raycast.Cast. -/
import Derived.Test.YtohjifnkajhhnaaGreatR4
import Derived.Test.YtohjifnkajhhnaaGreatR2
namespace Go.Proofs.YtohjifnkajhhnaaGreat
open Go.RowKit Fx Vx Bx Ev
set_option linter.unusedVariables false
set_option linter.unusedSimpArgs false

def vtx (px py a : Int) (D : DT) (i : Nat) : List Int := [appX px py a (D.ci i 0) (D.ci i 1), appY px py a (D.ci i 0) (D.ci i 1)]
def vtxR (px py a : Int) (D : DT) (k : Nat) : List (List Int) := (List.range k).map (vtx px py a D)
/-- The corners of a shape in the world; none where it is not valid. -/
def shR (k r : Int) (D : DT) (px py a : Int) : List (List Int) := if shV k r D = 0 then vtxR px py a D D.n else []
theorem vtxR_len (px py a : Int) (D : DT) (k : Nat) : (vtxR px py a D k).length = k := by simp [vtxR]
theorem vtxR_succ (px py a : Int) (D : DT) (k : Nat) : vtxR px py a D (k + 1) = vtxR px py a D k ++ [vtx px py a D k] := by simp [vtxR, List.range_succ]
theorem shR_no {k r : Int} {D : DT} {px py a : Int} (h : shV k r D ≠ 0) : shR k r D px py a = [] := if_neg h
theorem shR_yes {k r : Int} {D : DT} {px py a : Int} (h : shV k r D = 0) : shR k r D px py a = vtxR px py a D D.n := if_pos h
def c_shape_Vertices : Con := ⟨19, dpRun [.st shapeC, .st [I64, I64, I64]] (fun | [a0, a1, a2, a3, a4, a5] => [] | _ => [False]) fun
  | [a0, a1, a2, a3, a4, a5] => [.rows (decide (shV a0.i a1.i a2.D ≠ 0)) 2 (shR a0.i a1.i a2.D a3.i a4.i a5.i)]
  | _ => []⟩
set_option maxRecDepth 100000 in
set_option maxHeartbeats 4000000 in
theorem con_shape_Vertices : c_shape_Vertices.Ok Tryz.prog := by
  refine con_dp (C := [c_shape_Validate, c_transform_Apply]) (pl := []) Tryz.func19 rfl (by kernel_rfl) T_ok (Cons.cons con_shape_Validate (Cons.cons con_transform_Apply (Cons.nil _))) mixed (by kernel_rfl) _ _ _ (fun l ps hl hps hpre => ?_)
  match l, hl, ps, hps with
  | [a0, a1, a2, a3, a4, a5], zl, [], zp =>
    clear zl zp
    clear hpre
    repeat' (first | (with_reducible refine And.intro ?_ ?_) | (with_reducible intro h) | ((fail_if_success (with_reducible refine Leaf.mk ?_)); (fail_if_success (with_reducible refine VC.mk ?_)); (fail_if_success (with_reducible refine Goes.mk ?_)); (fail_if_success (with_reducible refine Again.mk ?_)); (fail_if_success (with_reducible refine Rounds.mk ?_)); (fail_if_success (with_reducible show False)); (fail_if_success (with_reducible show True)); conv => whnf))
    all_goals try with_reducible exact trivial
    all_goals try (simp only [decide_eq_true_eq, decide_eq_false_iff_not, Bool.not_eq_true', Bool.not_eq_false'] at *)
    all_goals try (refine VC.mk ?_; first | exact trivial | assumption | (simp only [InR]; omega))
    all_goals try (refine Leaf.mk ?_; first | omega | exact decide_eq_true ‹_› | (symm; exact decide_eq_true ‹_›) | exact (shR_no ‹_›).symm | exact shR_no ‹_›)
    have hv : shV a0.i a1.i a2.D = 0 := by omega
    obtain ⟨_, _, hc⟩ := shV_le hv
    have hb := cntB_le hc
    refine goes_inv (X := Nat) (pl := []) T_ok (Cons.cons con_shape_Validate (Cons.cons con_transform_Apply (Cons.nil _))) mixed (by kernel_rfl)
      (fun k => (.any :: .any :: .any :: .ptr 1 0 :: .any :: .osl (decide (k = 0)) 2 2 k :: .any :: .any :: .any :: .any :: .any :: .any :: .ds a2.nl vecC a2.D :: .int .i64 (a2.D.n : Int) :: .int .i64 (k : Int) :: .any :: .any :: .any :: .any :: .any :: .any :: .any :: .any :: .any :: .any :: .any :: [], [.cells [.int .i64 a0.i, .int .i64 a1.i, .ds a2.nl vecC a2.D], .cells [.int .i64 a3.i, .int .i64 a4.i, .int .i64 a5.i], .arr true (!decide (k = 0)) 2 (vtxR a3.i a4.i a5.i a2.D k)]))
      (fun k => k ≤ a2.D.n) (fun k => a2.D.n - k) 0 [0, 1, 2] (Nat.zero_le _) ?_ ?_ ?_
    · repeat' (first | (with_reducible refine And.intro ?_ ?_) | (with_reducible intro h) | ((fail_if_success (with_reducible refine Leaf.mk ?_)); (fail_if_success (with_reducible refine VC.mk ?_)); (fail_if_success (with_reducible refine Goes.mk ?_)); (fail_if_success (with_reducible refine Again.mk ?_)); (fail_if_success (with_reducible refine Rounds.mk ?_)); (fail_if_success (with_reducible show False)); (fail_if_success (with_reducible show True)); conv => whnf))
      all_goals first | exact trivial | (refine Leaf.mk ?_; first | rfl | exact ⟨rfl, rfl⟩ | (simp; done))
    · repeat' (first | (with_reducible refine And.intro ?_ ?_) | (with_reducible intro h) | ((fail_if_success (with_reducible refine Leaf.mk ?_)); (fail_if_success (with_reducible refine VC.mk ?_)); (fail_if_success (with_reducible refine Goes.mk ?_)); (fail_if_success (with_reducible refine Again.mk ?_)); (fail_if_success (with_reducible refine Rounds.mk ?_)); (fail_if_success (with_reducible show False)); (fail_if_success (with_reducible show True)); conv => whnf))
      all_goals first | exact trivial | (refine Leaf.mk ?_; first | rfl | exact ⟨rfl, rfl⟩ | (simp; done))
    · intro k hx
      rcases Nat.lt_or_ge k a2.D.n with hk | hk
      · have hd : decide ((k : Int) < (a2.D.n : Int)) = true := by simp; omega
        repeat' (first | (with_reducible refine And.intro ?_ ?_) | (with_reducible intro h; try with_reducible first | exact (bcS hd h).elim) | ((fail_if_success (with_reducible refine Leaf.mk ?_)); (fail_if_success (with_reducible refine VC.mk ?_)); (fail_if_success (with_reducible refine Goes.mk ?_)); (fail_if_success (with_reducible refine Again.mk ?_)); (fail_if_success (with_reducible refine Rounds.mk ?_)); (fail_if_success (with_reducible show False)); (fail_if_success (with_reducible show True)); conv => whnf))
        all_goals try simp only [Int.toNat_natCast] at *
        all_goals try with_reducible exact trivial
        all_goals try (refine VC.mk ?_; (try simp only [vtxR_len, InR] at *); first | exact trivial | omega | (simp; done) | (refine ⟨?_, by simp⟩; intro; simp; omega) | (intro; simp; omega) | (simp [vtxR]; done) | (simp; omega))
        all_goals try (refine Again.mk ⟨k + 1, [0, 1, 5], (by show k + 1 ≤ a2.D.n; omega), (by show a2.D.n - (k + 1) < a2.D.n - k; omega), ?_, ?_⟩ <;> (repeat' (first | (with_reducible refine And.intro ?_ ?_) | (with_reducible intro h) | ((fail_if_success (with_reducible refine Leaf.mk ?_)); (fail_if_success (with_reducible refine VC.mk ?_)); (fail_if_success (with_reducible refine Goes.mk ?_)); (fail_if_success (with_reducible refine Again.mk ?_)); (fail_if_success (with_reducible refine Rounds.mk ?_)); (fail_if_success (with_reducible show False)); (fail_if_success (with_reducible show True)); conv => whnf))) <;> first | exact trivial | (refine Leaf.mk ?_; first | rfl | (simp; done) | (refine ⟨by simp, ?_⟩; rw [vtxR_succ, List.take_of_length_le (by rw [vtxR_len]; omega)]; rfl)))
      · obtain rfl : k = a2.D.n := by omega
        have hd : decide ((a2.D.n : Int) < (a2.D.n : Int)) = false := by simp
        repeat' (first | (with_reducible refine And.intro ?_ ?_) | (with_reducible intro h; try with_reducible first | exact (bcS h hd).elim) | ((fail_if_success (with_reducible refine Leaf.mk ?_)); (fail_if_success (with_reducible refine VC.mk ?_)); (fail_if_success (with_reducible refine Goes.mk ?_)); (fail_if_success (with_reducible refine Again.mk ?_)); (fail_if_success (with_reducible refine Rounds.mk ?_)); (fail_if_success (with_reducible show False)); (fail_if_success (with_reducible show True)); conv => whnf))
        all_goals try simp only [Int.toNat_natCast] at *
        all_goals try with_reducible exact trivial
        all_goals try (refine VC.mk ?_; (try simp only [vtxR_len, InR] at *); first | exact trivial | omega | (simp; done) | (refine ⟨?_, by simp⟩; intro; simp; omega) | (intro; simp; omega) | (intro _; simp; omega))
        all_goals try (refine Leaf.mk ?_; first | rfl | exact (by rw [hv]; simp; omega) | (rw [shR_yes hv, List.take_of_length_le (by rw [vtxR_len]; omega)]; done))

/-- Whether a point lies in a shape with these corners. -/
def inP (r : Int) (xs : List (List Int)) (x y : Int) : Bool :=
  if xs.length = 0 then false
  else if xs.length = 1 then decide (len (sub x (at2 xs 0 0)) (sub y (at2 xs 0 1)) ≤ r)
  else if xs.length = 2 then decide (sdist x y x y (at2 xs 0 0) (at2 xs 0 1) (at2 xs 1 0) (at2 xs 1 1) ≤ r)
  else decide (insX xs x y xs.length)
def shIn (k r : Int) (D : DT) (px py a x y : Int) : Bool := inP r (shR k r D px py a) x y
theorem shR_len {k r : Int} {D : DT} {px py a : Int} : (shR k r D px py a).length = if shV k r D = 0 then D.n else 0 := by
  unfold shR; split
  · rw [vtxR_len]
  · rfl
theorem shR_nil {k r : Int} {D : DT} {px py a : Int} : (decide (shV k r D ≠ 0) = true ↔ (shR k r D px py a).length = 0) ∧ (shR k r D px py a).length ≤ 8 := by
  rw [shR_len]
  by_cases h : shV k r D = 0
  · obtain ⟨_, _, hc⟩ := shV_le h
    have := cntB_le hc
    rw [if_pos h]
    simp [h]; omega
  · rw [if_neg h]; simp [h]
def c_shape_ContainsPoint : Con := ⟨11, dpRun [.st shapeC, .st [I64, I64, I64], .st vecC] (fun | [a0, a1, a2, a3, a4, a5, x, y] => [] | _ => [False]) fun
  | [a0, a1, a2, a3, a4, a5, x, y] => [.val (.bool (shIn a0.i a1.i a2.D a3.i a4.i a5.i x.i y.i))]
  | _ => []⟩
set_option maxRecDepth 100000 in
set_option maxHeartbeats 4000000 in
theorem con_shape_ContainsPoint : c_shape_ContainsPoint.Ok Tryz.prog := by
  refine con_dp (C := [c_shape_Vertices, c_vec2_Sub, c_vec2_Length, c_segment_Distance, c_vec2_Orientation]) (pl := [(6, [0, 1, 2, 3, 4, 5, 6, 7, 8, 9], [0, 0, 2, 6, 15, 31, 0, 64, 255, 511]), (8, [0, 1, 2, 3, 4, 5, 6, 7, 8, 9, 10, 11, 12], [0, 0, 0, 4, 12, 0, 32, 96, 255, 0, 512, 2047, 4095]), (12, [0, 1, 2, 3, 4, 5, 6, 7, 8, 9, 10, 11], [0, 0, 0, 4, 0, 16, 60, 126, 254, 0, 1023, 2047])]) Tryz.func11 rfl (by kernel_rfl) T_ok (Cons.cons con_shape_Vertices (Cons.cons con_vec2_Sub (Cons.cons con_vec2_Length (Cons.cons con_segment_Distance (Cons.cons con_vec2_Orientation (Cons.nil _)))))) mixed (by kernel_rfl) _ _ _ (fun l ps hl hps hpre => ?_)
  match l, hl, ps, hps with
  | [a0, a1, a2, a3, a4, a5, x, y], zl, [], zp =>
    clear zl zp
    clear hpre
    obtain ⟨n1, n2⟩ := shR_nil (k := a0.i) (r := a1.i) (D := a2.D) (px := a3.i) (py := a4.i) (a := a5.i)
    repeat' (first | (with_reducible refine And.intro ?_ ?_) | (with_reducible intro h) | ((fail_if_success (with_reducible refine Leaf.mk ?_)); (fail_if_success (with_reducible refine VC.mk ?_)); (fail_if_success (with_reducible refine Goes.mk ?_)); (fail_if_success (with_reducible refine Again.mk ?_)); (fail_if_success (with_reducible refine Rounds.mk ?_)); (fail_if_success (with_reducible show False)); (fail_if_success (with_reducible show True)); conv => whnf))
    all_goals try with_reducible exact trivial
    all_goals try (simp only [decide_eq_true_eq, decide_eq_false_iff_not, Bool.not_eq_true', Bool.not_eq_false'] at *)
    all_goals try (refine VC.mk ?_; first | exact trivial | omega | (intro hh; have := n1.1 hh; omega))
    all_goals try (refine Leaf.mk ?_; unfold shIn inP; first | (rw [if_pos (by omega)]; done) | (rw [if_neg (by omega), if_pos (by omega)]; done) | (rw [if_neg (by omega), if_neg (by omega), if_pos (by omega)]; done))
    have hS : 3 ≤ (shR a0.i a1.i a2.D a3.i a4.i a5.i).length := by omega
    have hv : ¬ shV a0.i a1.i a2.D ≠ 0 := fun hh => by have := n1.1 hh; omega
    have hw : decide (shV a0.i a1.i a2.D ≠ 0) = false := decide_eq_false hv
    refine goes_inv (X := Nat) (pl := [(6, [0, 1, 2, 3, 4, 5, 6, 7, 8, 9], [0, 0, 2, 6, 15, 31, 0, 64, 255, 511]), (8, [0, 1, 2, 3, 4, 5, 6, 7, 8, 9, 10, 11, 12], [0, 0, 0, 4, 12, 0, 32, 96, 255, 0, 512, 2047, 4095]), (12, [0, 1, 2, 3, 4, 5, 6, 7, 8, 9, 10, 11], [0, 0, 0, 4, 0, 16, 60, 126, 254, 0, 1023, 2047])]) T_ok (Cons.cons con_shape_Vertices (Cons.cons con_vec2_Sub (Cons.cons con_vec2_Length (Cons.cons con_segment_Distance (Cons.cons con_vec2_Orientation (Cons.nil _)))))) mixed (by kernel_rfl)
      (fun k => (.any :: .any :: .any :: .any :: .any :: .ptr 2 0 :: .any :: .osl (decide (shV a0.i a1.i a2.D ≠ 0)) 3 2 (shR a0.i a1.i a2.D a3.i a4.i a5.i).length :: .any :: .any :: .any :: .any :: .any :: .any :: .any :: .any :: .any :: .any :: .any :: .any :: .any :: .any :: .any :: .any :: .any :: .any :: .any :: .any :: .any :: .any :: .any :: .any :: .any :: .any :: .any :: .any :: .any :: .any :: .any :: .any :: .any :: .any :: .osl (decide (shV a0.i a1.i a2.D ≠ 0)) 3 2 (shR a0.i a1.i a2.D a3.i a4.i a5.i).length :: .int .i64 ((shR a0.i a1.i a2.D a3.i a4.i a5.i).length : Int) :: .int .i64 (k : Int) :: .any :: .any :: .any :: .any :: .any :: .any :: .any :: .any :: .any :: .any :: .any :: .any :: .any :: .any :: .any :: .any :: .any :: [], [.cells [.int .i64 a0.i, .int .i64 a1.i, .ds a2.nl vecC a2.D], .cells [.int .i64 a3.i, .int .i64 a4.i, .int .i64 a5.i], .cells [.int .i64 x.i, .int .i64 y.i], .arr true (!decide (shV a0.i a1.i a2.D ≠ 0)) 2 (shR a0.i a1.i a2.D a3.i a4.i a5.i)]))
      (fun k => k ≤ (shR a0.i a1.i a2.D a3.i a4.i a5.i).length ∧ insX (shR a0.i a1.i a2.D a3.i a4.i a5.i) x.i y.i k) (fun k => (shR a0.i a1.i a2.D a3.i a4.i a5.i).length - k) 0 [0, 1, 2, 3] ⟨Nat.zero_le _, fun i hi => absurd hi (Nat.not_lt_zero _)⟩ ?_ ?_ ?_
    · repeat' (first | (with_reducible refine And.intro ?_ ?_) | (with_reducible intro h) | ((fail_if_success (with_reducible refine Leaf.mk ?_)); (fail_if_success (with_reducible refine VC.mk ?_)); (fail_if_success (with_reducible refine Goes.mk ?_)); (fail_if_success (with_reducible refine Again.mk ?_)); (fail_if_success (with_reducible refine Rounds.mk ?_)); (fail_if_success (with_reducible show False)); (fail_if_success (with_reducible show True)); conv => whnf))
      all_goals first | exact trivial | (refine Leaf.mk ?_; first | rfl | exact ⟨rfl, rfl⟩ | (simp; done))
    · repeat' (first | (with_reducible refine And.intro ?_ ?_) | (with_reducible intro h) | ((fail_if_success (with_reducible refine Leaf.mk ?_)); (fail_if_success (with_reducible refine VC.mk ?_)); (fail_if_success (with_reducible refine Goes.mk ?_)); (fail_if_success (with_reducible refine Again.mk ?_)); (fail_if_success (with_reducible refine Rounds.mk ?_)); (fail_if_success (with_reducible show False)); (fail_if_success (with_reducible show True)); conv => whnf))
      all_goals first | exact trivial | (refine Leaf.mk ?_; first | rfl | exact ⟨rfl, rfl⟩ | (simp; done))
    · intro k hx
      obtain ⟨x1, x2⟩ := hx
      rcases Nat.lt_or_ge k (shR a0.i a1.i a2.D a3.i a4.i a5.i).length with hk | hk
      · have hd : decide ((k : Int) < ((shR a0.i a1.i a2.D a3.i a4.i a5.i).length : Int)) = true := by simp; omega
        have tb := tmod_bd (i := (k : Int) + 1) (n := (shR a0.i a1.i a2.D a3.i a4.i a5.i).length) (by omega) (by omega)
        repeat' (first | (with_reducible refine And.intro ?_ ?_) | (with_reducible intro h; try with_reducible first | exact (bcS hd h).elim) | ((fail_if_success (with_reducible refine Leaf.mk ?_)); (fail_if_success (with_reducible refine VC.mk ?_)); (fail_if_success (with_reducible refine Goes.mk ?_)); (fail_if_success (with_reducible refine Again.mk ?_)); (fail_if_success (with_reducible refine Rounds.mk ?_)); (fail_if_success (with_reducible show False)); (fail_if_success (with_reducible show True)); conv => whnf))
        all_goals try simp only [Int.toNat_natCast, tmN, Nat.zero_add] at *
        all_goals try (simp only [decide_eq_true_eq, decide_eq_false_iff_not, Bool.not_eq_true', Bool.not_eq_false'] at *)
        all_goals try with_reducible exact trivial
        all_goals try (refine VC.mk ?_; (try simp only [InR] at *); first | exact trivial | omega | assumption | (simp; done) | exact Nat.mod_lt _ (by omega))
        all_goals first
          | (refine Leaf.mk ?_; unfold shIn inP; rw [if_neg (by omega), if_neg (by omega), if_neg (by omega)]; exact (decide_eq_false (fun hh => hh k hk (orient_neg.1 (by omega)))).symm)
          | (refine Again.mk ⟨k + 1, [0, 1, 2, 3], ⟨by omega, x2.succ (fun hh => by have := orient_neg.2 hh; omega)⟩, (by show (shR a0.i a1.i a2.D a3.i a4.i a5.i).length - (k + 1) < (shR a0.i a1.i a2.D a3.i a4.i a5.i).length - k; omega), ?_, ?_⟩ <;> (repeat' (first | (with_reducible refine And.intro ?_ ?_) | (with_reducible intro h) | ((fail_if_success (with_reducible refine Leaf.mk ?_)); (fail_if_success (with_reducible refine VC.mk ?_)); (fail_if_success (with_reducible refine Goes.mk ?_)); (fail_if_success (with_reducible refine Again.mk ?_)); (fail_if_success (with_reducible refine Rounds.mk ?_)); (fail_if_success (with_reducible show False)); (fail_if_success (with_reducible show True)); conv => whnf))) <;> first | exact trivial | (refine Leaf.mk ?_; first | rfl | exact ⟨rfl, rfl⟩ | (simp; done)))
          | skip
      · obtain rfl : k = (shR a0.i a1.i a2.D a3.i a4.i a5.i).length := by omega
        have hd : decide (((shR a0.i a1.i a2.D a3.i a4.i a5.i).length : Int) < ((shR a0.i a1.i a2.D a3.i a4.i a5.i).length : Int)) = false := by simp
        repeat' (first | (with_reducible refine And.intro ?_ ?_) | (with_reducible intro h; try with_reducible first | exact (bcS h hd).elim) | ((fail_if_success (with_reducible refine Leaf.mk ?_)); (fail_if_success (with_reducible refine VC.mk ?_)); (fail_if_success (with_reducible refine Goes.mk ?_)); (fail_if_success (with_reducible refine Again.mk ?_)); (fail_if_success (with_reducible refine Rounds.mk ?_)); (fail_if_success (with_reducible show False)); (fail_if_success (with_reducible show True)); conv => whnf))
        all_goals try simp only [Int.toNat_natCast] at *
        all_goals try with_reducible exact trivial
        all_goals (refine Leaf.mk ?_; unfold shIn inP; rw [if_neg (by omega), if_neg (by omega), if_neg (by omega)]; first | (exact (decide_eq_true x2).symm))

/-- A ray against a shape. -/
def castH (k r : Int) (D : DT) (px py a fx fy tx ty : Int) : Hit :=
  if shV k r D ≠ 0 then ⟨false, 0, 0, 0⟩
  else if shIn k r D px py a fx fy then ⟨true, 0, 0, 0⟩
  else if k = 1 then ccHit (at2 (shR k r D px py a) 0 0) (at2 (shR k r D px py a) 0 1) r fx fy tx ty
  else if k = 2 then csHit (at2 (shR k r D px py a) 0 0) (at2 (shR k r D px py a) 0 1) (at2 (shR k r D px py a) 1 0) (at2 (shR k r D px py a) 1 1) r fx fy tx ty
  else pgHit' (shR k r D px py a) fx fy tx ty
section
variable {k r : Int} {D : DT} {px py a fx fy tx ty : Int}
theorem castH_0 (h : shV k r D ≠ 0) : castH k r D px py a fx fy tx ty = ⟨false, 0, 0, 0⟩ := if_pos h
theorem castH_1 (h : ¬ shV k r D ≠ 0) (h1 : shIn k r D px py a fx fy = true) : castH k r D px py a fx fy tx ty = ⟨true, 0, 0, 0⟩ := by unfold castH; rw [if_neg h, if_pos h1]
theorem castH_2 (h : ¬ shV k r D ≠ 0) (h1 : shIn k r D px py a fx fy = false) (h2 : k = 1) : castH k r D px py a fx fy tx ty = ccHit (at2 (shR k r D px py a) 0 0) (at2 (shR k r D px py a) 0 1) r fx fy tx ty := by unfold castH; rw [if_neg h, if_neg (by rw [h1]; exact Bool.false_ne_true), if_pos h2]
theorem castH_3 (h : ¬ shV k r D ≠ 0) (h1 : shIn k r D px py a fx fy = false) (h2 : k = 2) : castH k r D px py a fx fy tx ty = csHit (at2 (shR k r D px py a) 0 0) (at2 (shR k r D px py a) 0 1) (at2 (shR k r D px py a) 1 0) (at2 (shR k r D px py a) 1 1) r fx fy tx ty := by unfold castH; rw [if_neg h, if_neg (by rw [h1]; exact Bool.false_ne_true), if_neg (by omega), if_pos h2]
theorem castH_4 (h : ¬ shV k r D ≠ 0) (h1 : shIn k r D px py a fx fy = false) (h2 : ¬ k = 1) (h3 : ¬ k = 2) : castH k r D px py a fx fy tx ty = pgHit' (shR k r D px py a) fx fy tx ty := by unfold castH; rw [if_neg h, if_neg (by rw [h1]; exact Bool.false_ne_true), if_neg h2, if_neg h3]
/-- How many corners: by the kind. -/
theorem shR_cnt : (shR k r D px py a).length ≤ 8 ∧ ((shR k r D px py a).length = 0 → shV k r D ≠ 0) ∧ (shV k r D ≠ 0 → (shR k r D px py a).length = 0) ∧ (¬ shV k r D ≠ 0 → k = 2 → (shR k r D px py a).length = 2) := by
  rw [shR_len]
  by_cases h : shV k r D = 0
  · obtain ⟨_, _, hc⟩ := shV_le h
    have := cntB_le hc
    rw [if_pos h]
    exact ⟨by omega, fun e => by omega, fun e => absurd h e, fun _ e => by omega⟩
  · rw [if_neg h]; exact ⟨by omega, fun _ => h, fun _ => rfl, fun e => absurd h e⟩
end
def c_raycast_Cast : Con := ⟨8, dpRun [.st shapeC, .st [I64, I64, I64], .st vecC, .st vecC] (fun | [k, r, D, px, py, a, fx, fy, tx, ty] => [] | _ => [False]) fun
  | [k, r, D, px, py, a, fx, fy, tx, ty] => [.val (.int .i64 (castH k.i r.i D.D px.i py.i a.i fx.i fy.i tx.i ty.i).t), .val (.agg [.int .i64 (castH k.i r.i D.D px.i py.i a.i fx.i fy.i tx.i ty.i).nx, .int .i64 (castH k.i r.i D.D px.i py.i a.i fx.i fy.i tx.i ty.i).ny]), .val (.bool (castH k.i r.i D.D px.i py.i a.i fx.i fy.i tx.i ty.i).ok)]
  | _ => []⟩
set_option maxRecDepth 100000 in
set_option maxHeartbeats 4000000 in
theorem con_raycast_Cast : c_raycast_Cast.Ok Tryz.prog := by
  refine con_dp (C := [c_shape_Vertices, c_shape_ContainsPoint, c_raycast_CastCircle, c_raycast_castCapsule, c_raycast_CastPolygon]) (pl := [(8, [0, 1, 2, 3, 4, 5, 6, 7, 8, 9, 10, 11, 12, 13], [0, 1, 3, 0, 8, 0, 0, 127, 255, 255, 255, 2047, 4095, 8191]), (10, [0, 1, 2, 3, 4, 5, 6, 7, 8, 9, 10, 11, 12, 13, 14, 15, 16], [0, 1, 3, 0, 8, 24, 0, 64, 0, 0, 1023, 2047, 2047, 2047, 16383, 32767, 65535])]) Tryz.func8 rfl (by kernel_rfl) T_ok (Cons.cons con_shape_Vertices (Cons.cons con_shape_ContainsPoint (Cons.cons con_raycast_CastCircle (Cons.cons con_raycast_castCapsule (Cons.cons con_raycast_CastPolygon (Cons.nil _)))))) mixed (by kernel_rfl) _ _ _ (fun l ps hl hps hpre => ?_)
  match l, hl, ps, hps with
  | [k, r, D, px, py, a, fx, fy, tx, ty], zl, [], zp =>
    clear zl zp
    clear hpre
    obtain ⟨n1, n2, n3, n4⟩ := shR_cnt (k := k.i) (r := r.i) (D := D.D) (px := px.i) (py := py.i) (a := a.i)
    repeat' (first | (with_reducible refine And.intro ?_ ?_) | (with_reducible intro h) | ((fail_if_success (with_reducible refine Leaf.mk ?_)); (fail_if_success (with_reducible refine VC.mk ?_)); (fail_if_success (with_reducible refine Goes.mk ?_)); (fail_if_success (with_reducible refine Again.mk ?_)); (fail_if_success (with_reducible refine Rounds.mk ?_)); (fail_if_success (with_reducible show False)); (fail_if_success (with_reducible show True)); conv => whnf))
    all_goals try with_reducible exact trivial
    all_goals try (simp only [decide_eq_true_eq, decide_eq_false_iff_not, Bool.not_eq_true', Bool.not_eq_false'] at *)
    all_goals try (refine VC.mk ?_; first | exact trivial | omega | (intro hh; have := n3 hh; omega) | exact ⟨by simp; omega, by simp⟩ | (simp; omega))
    all_goals try simp only [Nat.zero_add, List.take_length] at *
    all_goals try (have hv : ¬ shV k.i r.i D.D ≠ 0 := fun hh => by have := n3 hh; omega)
    all_goals try (have hv : shV k.i r.i D.D ≠ 0 := n2 (by omega))
    all_goals try (refine Leaf.mk ?_; first | (rw [castH_0 hv]; done) | (rw [castH_1 hv (by assumption)]; done) | (rw [castH_2 hv (by assumption) (by assumption)] <;> rfl) | (rw [castH_3 hv (by assumption) (by assumption)] <;> rfl) | (rw [castH_4 hv (by assumption) (by assumption) (by assumption)] <;> rfl))

end Go.Proofs.YtohjifnkajhhnaaGreat
