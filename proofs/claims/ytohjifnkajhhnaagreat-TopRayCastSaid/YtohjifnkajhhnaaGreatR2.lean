/- Contracts of package raycast. -/
import Derived.Test.YtohjifnkajhhnaaGreatR1
import Derived.Test.YtohjifnkajhhnaaGreatT1
namespace Go.Proofs.YtohjifnkajhhnaaGreat
open Go.RowKit Fx Vx Bx Ev
set_option linter.unusedVariables false
set_option linter.unusedSimpArgs false
/-- A ray against a circle. -/
def ccX (f t : Int) : Int := sub (sat t) (sat f)
def ccL (fx fy tx ty : Int) : Int := len (ccX fx tx) (ccX fy ty)
def ccU (fx fy tx ty d : Int) : Int := norm (ccX fx tx) (ccX fy ty) d
def ccH (cx cy fx fy tx ty : Int) : Int := cross (ccU fx fy tx ty (ccX fx tx)) (ccU fx fy tx ty (ccX fy ty)) (sub cx (sat fx)) (sub cy (sat fy))
def ccE (cx cy r fx fy tx ty : Int) : Int := sub (dot (sub cx (sat fx)) (sub cy (sat fy)) (ccU fx fy tx ty (ccX fx tx)) (ccU fx fy tx ty (ccX fy ty))) (isq (r * r - ccH cx cy fx fy tx ty * ccH cx cy fx fy tx ty))
def ccOk (cx cy r fx fy tx ty : Int) : Bool := decide (ccL fx fy tx ty ≠ 0 ∧ 0 ≤ r ∧ r ≤ 536870911 ∧ ccH cx cy fx fy tx ty ≤ r ∧ -ccH cx cy fx fy tx ty ≤ r ∧ 0 ≤ ccE cx cy r fx fy tx ty ∧ ccE cx cy r fx fy tx ty ≤ ccL fx fy tx ty)
def ccT (cx cy r fx fy tx ty : Int) : Int := if ccOk cx cy r fx fy tx ty then ratio (ccE cx cy r fx fy tx ty) (ccL fx fy tx ty) else 0
def ccP (cx r fx tx t : Int) : Int := sub (lerp (sat fx) (sat tx) t) cx
def ccN (cx cy r fx fy tx ty : Int) (d : Bool) : Int := if ccOk cx cy r fx fy tx ty then norm (ccP cx r fx tx (ccT cx cy r fx fy tx ty)) (ccP cy r fy ty (ccT cx cy r fx fy tx ty)) (if d then ccP cy r fy ty (ccT cx cy r fx fy tx ty) else ccP cx r fx tx (ccT cx cy r fx fy tx ty)) else 0
section
variable {cx cy r fx fy tx ty : Int}
theorem ccT_no (e : ccOk cx cy r fx fy tx ty = false) : ccT cx cy r fx fy tx ty = 0 := by unfold ccT; rw [e]; rfl
theorem ccN_no {d : Bool} (e : ccOk cx cy r fx fy tx ty = false) : ccN cx cy r fx fy tx ty d = 0 := by unfold ccN; rw [e]; rfl
theorem ccT_yes (e : ccOk cx cy r fx fy tx ty = true) : ccT cx cy r fx fy tx ty = ratio (ccE cx cy r fx fy tx ty) (ccL fx fy tx ty) := by unfold ccT; rw [if_pos e]
theorem ccNf_yes (e : ccOk cx cy r fx fy tx ty = true) : ccN cx cy r fx fy tx ty false = norm (ccP cx r fx tx (ratio (ccE cx cy r fx fy tx ty) (ccL fx fy tx ty))) (ccP cy r fy ty (ratio (ccE cx cy r fx fy tx ty) (ccL fx fy tx ty))) (ccP cx r fx tx (ratio (ccE cx cy r fx fy tx ty) (ccL fx fy tx ty))) := by unfold ccN; rw [if_pos e, ccT_yes e, if_neg Bool.false_ne_true]
theorem ccNt_yes (e : ccOk cx cy r fx fy tx ty = true) : ccN cx cy r fx fy tx ty true = norm (ccP cx r fx tx (ratio (ccE cx cy r fx fy tx ty) (ccL fx fy tx ty))) (ccP cy r fy ty (ratio (ccE cx cy r fx fy tx ty) (ccL fx fy tx ty))) (ccP cy r fy ty (ratio (ccE cx cy r fx fy tx ty) (ccL fx fy tx ty))) := by unfold ccN; rw [if_pos e, ccT_yes e, if_pos rfl]
end
theorem cross_bd (a b c d : Int) : -536870911 ≤ cross a b c d ∧ cross a b c d ≤ 536870911 := ⟨sat_lo _, sat_hi _⟩
def c_raycast_CastCircle : Con := ⟨20, pureRun [2, 0, 2, 2] (fun _ => []) fun | [cx, cy, r, fx, fy, tx, ty] => .tup [.int .i64 (ccT cx cy r fx fy tx ty), .agg [.int .i64 (ccN cx cy r fx fy tx ty false), .int .i64 (ccN cx cy r fx fy tx ty true)], .bool (ccOk cx cy r fx fy tx ty)] | _ => .any⟩
set_option maxRecDepth 100000 in
set_option maxHeartbeats 1000000 in
theorem con_raycast_CastCircle : c_raycast_CastCircle.Ok Tryz.prog := by
  refine con_pure (C := [c_raycast_saturate, c_vec2_Sub, c_vec2_Length, c_vec2_Normalize, c_vec2_Cross, c_fixed_Sub, c_vec2_Dot, c_fixed_Isqrt, c_fixed_Ratio, c_vec2_Lerp]) (pl := [(1, [0, 1, 2, 3, 4, 5], [0, 1, 0, 7, 15, 31]), (3, [0, 1, 2, 3, 4, 5, 6], [0, 1, 0, 7, 0, 31, 63]), (12, [0, 1, 2, 3, 4, 5, 6, 7, 8, 9, 10], [0, 0, 0, 0, 14, 0, 62, 126, 255, 511, 1023])]) Tryz.func20 rfl (by kernel_rfl) T_ok (Cons.cons con_raycast_saturate (Cons.cons con_vec2_Sub (Cons.cons con_vec2_Length (Cons.cons con_vec2_Normalize (Cons.cons con_vec2_Cross (Cons.cons con_fixed_Sub (Cons.cons con_vec2_Dot (Cons.cons con_fixed_Isqrt (Cons.cons con_fixed_Ratio (Cons.cons con_vec2_Lerp (Cons.nil _))))))))))) mixed (by kernel_rfl) _ _ _ (fun l hl hpre => ?_)
  match l, hl with
  | [cx, cy, r, fx, fy, tx, ty], _ =>
    have n1 := cross_bd (ccU fx fy tx ty (ccX fx tx)) (ccU fx fy tx ty (ccX fy ty)) (sub cx (sat fx)) (sub cy (sat fy))
    have m0 := mul_bd (A := 536870911) n1.1 n1.2 n1.1 n1.2
    simp only [ccU, ccX] at n1 m0
    repeat' (first | (with_reducible refine And.intro ?_ ?_) | (with_reducible intro h) | ((fail_if_success (with_reducible refine Leaf.mk ?_)); (fail_if_success (with_reducible refine VC.mk ?_)); (fail_if_success (with_reducible refine Goes.mk ?_)); (fail_if_success (with_reducible refine Again.mk ?_)); (fail_if_success (with_reducible refine Rounds.mk ?_)); (fail_if_success (with_reducible show False)); (fail_if_success (with_reducible show True)); conv => whnf))
    all_goals try with_reducible exact trivial
    all_goals try (simp only [decide_eq_true_eq, decide_eq_false_iff_not] at *)
    all_goals try (refine VC.mk ?_; first | exact trivial | omega | (simp only [InR]; omega) | (have m1 := mul_bd (A := 536870911) (x := r) (y := r) (by omega) (by omega) (by omega) (by omega); simp only [InR]; omega))
    all_goals (refine Leaf.mk ?_; first
      | (have e : ccOk cx cy r fx fy tx ty = false := decide_eq_false (by simp only [ccE, ccH, ccL, ccU, ccX]; omega); first | exact e.symm | exact (ccT_no e).symm | exact (ccN_no e).symm)
      | (have e : ccOk cx cy r fx fy tx ty = true := decide_eq_true (by simp only [ccE, ccH, ccL, ccU, ccX]; omega); first | exact e.symm | (rw [ccT_yes e]; simp only [ccE, ccH, ccL, ccU, ccX]; done) | (rw [ccNf_yes e]; simp only [ccP, ccE, ccH, ccL, ccU, ccX]; done) | (rw [ccNt_yes e]; simp only [ccP, ccE, ccH, ccL, ccU, ccX]; done)))

/-- A ray against a convex polygon. -/
def pgX (xs : List (List Int)) (fx fy : Int) (i : Nat) : Int := dot (enX xs i) (enY xs i) (sub (at2 xs i 0) (sat fx)) (sub (at2 xs i 1) (sat fy))
def pgY (xs : List (List Int)) (fx fy tx ty : Int) (i : Nat) : Int := dot (enX xs i) (enY xs i) (ccX fx tx) (ccX fy ty)
def pgHit (xs : List (List Int)) (fx fy tx ty : Int) (n : Nat) : Prop := ∀ i, i < n → ¬ (pgY xs fx fy tx ty i = 0 ∧ pgX xs fx fy i < 0)
instance (xs : List (List Int)) (fx fy tx ty : Int) (n : Nat) : Decidable (pgHit xs fx fy tx ty n) := by unfold pgHit; infer_instance
theorem pgHit.succ {xs : List (List Int)} {fx fy tx ty : Int} {n : Nat} (h : pgHit xs fx fy tx ty n) (k : ¬ (pgY xs fx fy tx ty n = 0 ∧ pgX xs fx fy n < 0)) : pgHit xs fx fy tx ty (n + 1) := fun i hi => by
  rcases Nat.lt_or_ge i n with e | e
  · exact h i e
  · obtain rfl : i = n := by omega
    exact k
/-- The edge of entry and its fraction. -/
def pgE (xs : List (List Int)) (fx fy tx ty : Int) : Nat → Int × Int
  | 0 => (-1, 0)
  | k + 1 => if pgY xs fx fy tx ty k < 0 ∧ ((pgE xs fx fy tx ty k).1 < 0 ∨ (pgE xs fx fy tx ty k).2 < dv (pgX xs fx fy k) (pgY xs fx fy tx ty k)) then ((k : Int), dv (pgX xs fx fy k) (pgY xs fx fy tx ty k)) else pgE xs fx fy tx ty k
/-- Whether it leaves, and the fraction. -/
def pgL (xs : List (List Int)) (fx fy tx ty : Int) : Nat → Bool × Int
  | 0 => (false, 0)
  | k + 1 => if 0 < pgY xs fx fy tx ty k ∧ ((pgL xs fx fy tx ty k).1 = false ∨ dv (pgX xs fx fy k) (pgY xs fx fy tx ty k) < (pgL xs fx fy tx ty k).2) then (true, dv (pgX xs fx fy k) (pgY xs fx fy tx ty k)) else pgL xs fx fy tx ty k
def pgOk (xs : List (List Int)) (fx fy tx ty : Int) : Bool := decide (1 < xs.length ∧ pgHit xs fx fy tx ty xs.length ∧ 0 ≤ (pgE xs fx fy tx ty xs.length).1 ∧ 0 ≤ (pgE xs fx fy tx ty xs.length).2 ∧ (pgE xs fx fy tx ty xs.length).2 ≤ 65536 ∧ ¬ ((pgL xs fx fy tx ty xs.length).1 = true ∧ (pgL xs fx fy tx ty xs.length).2 < (pgE xs fx fy tx ty xs.length).2))
def pgT (xs : List (List Int)) (fx fy tx ty : Int) : Int := if pgOk xs fx fy tx ty then (pgE xs fx fy tx ty xs.length).2 else 0
def pgN (xs : List (List Int)) (fx fy tx ty : Int) (d : Bool) : Int := if pgOk xs fx fy tx ty then (if d then enY xs (pgE xs fx fy tx ty xs.length).1 else enX xs (pgE xs fx fy tx ty xs.length).1) else 0
section
variable {xs : List (List Int)} {fx fy tx ty : Int}
theorem pgT_no (e : pgOk xs fx fy tx ty = false) : pgT xs fx fy tx ty = 0 := by unfold pgT; rw [e]; rfl
theorem pgN_no {d : Bool} (e : pgOk xs fx fy tx ty = false) : pgN xs fx fy tx ty d = 0 := by unfold pgN; rw [e]; rfl
theorem pgT_yes (e : pgOk xs fx fy tx ty = true) : pgT xs fx fy tx ty = (pgE xs fx fy tx ty xs.length).2 := by unfold pgT; rw [if_pos e]
theorem pgNf_yes (e : pgOk xs fx fy tx ty = true) : pgN xs fx fy tx ty false = enX xs (pgE xs fx fy tx ty xs.length).1 := by unfold pgN; rw [if_pos e, if_neg Bool.false_ne_true]
theorem pgNt_yes (e : pgOk xs fx fy tx ty = true) : pgN xs fx fy tx ty true = enY xs (pgE xs fx fy tx ty xs.length).1 := by unfold pgN; rw [if_pos e, if_pos rfl]
theorem pgE_yes {k : Nat} (h1 : pgY xs fx fy tx ty k < 0) (h2 : (pgE xs fx fy tx ty k).1 < 0 ∨ (pgE xs fx fy tx ty k).2 < dv (pgX xs fx fy k) (pgY xs fx fy tx ty k)) : pgE xs fx fy tx ty (k + 1) = ((k : Int), dv (pgX xs fx fy k) (pgY xs fx fy tx ty k)) := by rw [pgE, if_pos ⟨h1, h2⟩]
theorem pgE_no {k : Nat} (h : ¬ (pgY xs fx fy tx ty k < 0 ∧ ((pgE xs fx fy tx ty k).1 < 0 ∨ (pgE xs fx fy tx ty k).2 < dv (pgX xs fx fy k) (pgY xs fx fy tx ty k)))) : pgE xs fx fy tx ty (k + 1) = pgE xs fx fy tx ty k := by rw [pgE, if_neg h]
theorem pgL_yes {k : Nat} (h1 : 0 < pgY xs fx fy tx ty k) (h2 : (pgL xs fx fy tx ty k).1 = false ∨ dv (pgX xs fx fy k) (pgY xs fx fy tx ty k) < (pgL xs fx fy tx ty k).2) : pgL xs fx fy tx ty (k + 1) = (true, dv (pgX xs fx fy k) (pgY xs fx fy tx ty k)) := by rw [pgL, if_pos ⟨h1, h2⟩]
theorem pgL_no {k : Nat} (h : ¬ (0 < pgY xs fx fy tx ty k ∧ ((pgL xs fx fy tx ty k).1 = false ∨ dv (pgX xs fx fy k) (pgY xs fx fy tx ty k) < (pgL xs fx fy tx ty k).2))) : pgL xs fx fy tx ty (k + 1) = pgL xs fx fy tx ty k := by rw [pgL, if_neg h]
end
def c_raycast_CastPolygon : Con := ⟨22, rowRun [.rows 2, .num 2, .num 2] (fun l R => match l, R with | [fx, fy, tx, ty], [xs] => [xs.length ≤ 100000] | _, _ => [False]) fun l R => match l, R with
  | [fx, fy, tx, ty], [xs] => .tup [.int .i64 (pgT xs fx fy tx ty), .agg [.int .i64 (pgN xs fx fy tx ty false), .int .i64 (pgN xs fx fy tx ty true)], .bool (pgOk xs fx fy tx ty)]
  | _, _ => .any⟩
set_option maxRecDepth 100000 in
set_option maxHeartbeats 2000000 in
theorem con_raycast_CastPolygon : c_raycast_CastPolygon.Ok Tryz.prog := by
  refine con_rows (C := [c_raycast_saturate, c_vec2_Sub, c_sat_EdgeNormal, c_vec2_Dot, c_fixed_Div]) (pl := [(1, [0, 1, 2, 3, 4, 5], [0, 1, 0, 7, 15, 31]), (10, [0, 1, 2, 3, 4, 5, 6, 7, 8, 9, 10, 11, 12], [0, 0, 0, 6, 14, 0, 62, 127, 0, 0, 1023, 2047, 4095])]) Tryz.func22 rfl (by kernel_rfl) T_ok (Cons.cons con_raycast_saturate (Cons.cons con_vec2_Sub (Cons.cons con_sat_EdgeNormal (Cons.cons con_vec2_Dot (Cons.cons con_fixed_Div (Cons.nil _)))))) mixed (by kernel_rfl) _ _ _ (fun l R hl hR hn hpre => ?_)
  match l, hl, R, hR with
  | [fx, fy, tx, ty], zl, [(true, xs)], zr =>
    clear zl zr
    obtain rfl : xs = [] := hn _ (List.Mem.head _) rfl
    have hp0 := hpre _ (List.Mem.head _); try dsimp only at hp0
    skip
    repeat' (first | (with_reducible refine And.intro ?_ ?_) | (with_reducible intro h) | ((fail_if_success (with_reducible refine Leaf.mk ?_)); (fail_if_success (with_reducible refine VC.mk ?_)); (fail_if_success (with_reducible refine Goes.mk ?_)); (fail_if_success (with_reducible refine Again.mk ?_)); (fail_if_success (with_reducible refine Rounds.mk ?_)); (fail_if_success (with_reducible show False)); (fail_if_success (with_reducible show True)); conv => whnf))
    all_goals try exact trivial
    all_goals try refine goes_rounds 1 ?_
    all_goals try (refine rounds_one (pl := [(1, [0, 1, 2, 3, 4, 5], [0, 1, 0, 7, 15, 31]), (10, [0, 1, 2, 3, 4, 5, 6, 7, 8, 9, 10, 11, 12], [0, 0, 0, 6, 14, 0, 62, 127, 0, 0, 1023, 2047, 4095])]) T_ok (Cons.cons con_raycast_saturate (Cons.cons con_vec2_Sub (Cons.cons con_sat_EdgeNormal (Cons.cons con_vec2_Dot (Cons.cons con_fixed_Div (Cons.nil _)))))) mixed (by kernel_rfl) ?_; repeat' (first | (with_reducible refine And.intro ?_ ?_) | (with_reducible intro h) | ((fail_if_success (with_reducible refine Leaf.mk ?_)); (fail_if_success (with_reducible refine VC.mk ?_)); (fail_if_success (with_reducible refine Goes.mk ?_)); (fail_if_success (with_reducible refine Again.mk ?_)); (fail_if_success (with_reducible refine Rounds.mk ?_)); (fail_if_success (with_reducible show False)); (fail_if_success (with_reducible show True)); conv => whnf)))
    all_goals try with_reducible exact trivial
    all_goals try (refine VC.mk ?_; first | exact trivial | omega)
    all_goals try (refine Leaf.mk ?_; first | rfl | exact (pgT_no (by simp [pgOk])).symm | exact (pgN_no (by simp [pgOk])).symm | (simp [pgOk]; done))
  | [fx, fy, tx, ty], zl, [(false, xs)], zr =>
    clear zl zr
    have hp0 := hpre _ (List.Mem.head _); try dsimp only at hp0
    skip
    repeat' (first | (with_reducible refine And.intro ?_ ?_) | (with_reducible intro h) | ((fail_if_success (with_reducible refine Leaf.mk ?_)); (fail_if_success (with_reducible refine VC.mk ?_)); (fail_if_success (with_reducible refine Goes.mk ?_)); (fail_if_success (with_reducible refine Again.mk ?_)); (fail_if_success (with_reducible refine Rounds.mk ?_)); (fail_if_success (with_reducible show False)); (fail_if_success (with_reducible show True)); conv => whnf))
    all_goals try exact trivial
    refine goes_inv (X := Nat) (pl := [(1, [0, 1, 2, 3, 4, 5], [0, 1, 0, 7, 15, 31]), (10, [0, 1, 2, 3, 4, 5, 6, 7, 8, 9, 10, 11, 12], [0, 0, 0, 6, 14, 0, 62, 127, 0, 0, 1023, 2047, 4095])]) T_ok (Cons.cons con_raycast_saturate (Cons.cons con_vec2_Sub (Cons.cons con_sat_EdgeNormal (Cons.cons con_vec2_Dot (Cons.cons con_fixed_Div (Cons.nil _)))))) mixed (by kernel_rfl)
      (fun k => (.sl 0 2 0 xs.length :: .any :: .any :: .any :: .ptr 1 0 :: .any :: .any :: .ptr 3 0 :: .any :: .ptr 4 0 :: .int .i64 (pgE xs fx fy tx ty k).2 :: .int .i64 (pgL xs fx fy tx ty k).2 :: .int .i64 (pgE xs fx fy tx ty k).1 :: .bool (pgL xs fx fy tx ty k).1 :: .bool (decide (1 < (xs.length : Int))) :: .any :: .any :: .any :: .any :: .any :: .any :: .any :: .any :: .any :: .any :: .any :: .any :: .any :: .any :: .any :: .any :: .any :: .int .i64 (xs.length : Int) :: .int .i64 (k : Int) :: .any :: .any :: .any :: .any :: .any :: .any :: .any :: .any :: .any :: .any :: .any :: .any :: .any :: .any :: .any :: .any :: .any :: .any :: .any :: .any :: .any :: .any :: .any :: .any :: .any :: .any :: .any :: .any :: .any :: .any :: .any :: .any :: .any :: .any :: .any :: .any :: .any :: .any :: .any :: .any :: .any :: .any :: .any :: .any :: .any :: .any :: .any :: .any :: .any :: .any :: .any :: .any :: .any :: .any :: .any :: .any :: .any :: .any :: .any :: .any :: .any :: .any :: .any :: .any :: .any :: .any :: .any :: .any :: .any :: .any :: .any :: .any :: .any :: .any :: .any :: .any :: .any :: .any :: .any :: .any :: [], [.arr false true 2 xs, .cells [.int .i64 (sat fx), .int .i64 (sat fy)], .cells [.int .i64 (sat tx), .int .i64 (sat ty)], .cells [.lit .i64 0, .lit .i64 0], .cells [.int .i64 (sub (sat tx) (sat fx)), .int .i64 (sub (sat ty) (sat fy))]]))
      (fun k => k ≤ xs.length ∧ pgHit xs fx fy tx ty k) (fun k => xs.length - k) 0 [0, 1, 2, 3, 4] ⟨Nat.zero_le _, fun i hi => absurd hi (Nat.not_lt_zero _)⟩ ?_ ?_ ?_
    · repeat' (first | (with_reducible refine And.intro ?_ ?_) | (with_reducible intro h) | ((fail_if_success (with_reducible refine Leaf.mk ?_)); (fail_if_success (with_reducible refine VC.mk ?_)); (fail_if_success (with_reducible refine Goes.mk ?_)); (fail_if_success (with_reducible refine Again.mk ?_)); (fail_if_success (with_reducible refine Rounds.mk ?_)); (fail_if_success (with_reducible show False)); (fail_if_success (with_reducible show True)); conv => whnf))
      all_goals first | exact trivial | (refine Leaf.mk ?_; first | rfl | exact ⟨rfl, rfl⟩ | (simp; done))
    · repeat' (first | (with_reducible refine And.intro ?_ ?_) | (with_reducible intro h) | ((fail_if_success (with_reducible refine Leaf.mk ?_)); (fail_if_success (with_reducible refine VC.mk ?_)); (fail_if_success (with_reducible refine Goes.mk ?_)); (fail_if_success (with_reducible refine Again.mk ?_)); (fail_if_success (with_reducible refine Rounds.mk ?_)); (fail_if_success (with_reducible show False)); (fail_if_success (with_reducible show True)); conv => whnf))
      all_goals first | exact trivial | (refine Leaf.mk ?_; first | rfl | exact ⟨rfl, rfl⟩ | (simp; done))
    · intro k hx
      obtain ⟨x1, x2⟩ := hx
      rcases Nat.lt_or_ge k xs.length with hk | hk
      · have hd : decide ((k : Int) < (xs.length : Int)) = true := by simp; omega
        repeat' (first | (with_reducible refine And.intro ?_ ?_) | (with_reducible intro h; try with_reducible first | exact (bcS hd h).elim) | ((fail_if_success (with_reducible refine Leaf.mk ?_)); (fail_if_success (with_reducible refine VC.mk ?_)); (fail_if_success (with_reducible refine Goes.mk ?_)); (fail_if_success (with_reducible refine Again.mk ?_)); (fail_if_success (with_reducible refine Rounds.mk ?_)); (fail_if_success (with_reducible show False)); (fail_if_success (with_reducible show True)); conv => whnf))
        all_goals try simp only [Nat.zero_add, tkA, Int.toNat_natCast] at *
        all_goals try simp only [decide_eq_true_eq, decide_eq_false_iff_not, Bool.not_eq_true', Bool.not_eq_false'] at *
        all_goals try with_reducible exact trivial
        all_goals try (refine VC.mk ?_; first | exact trivial | exact ⟨trivial, Nat.le_refl _⟩ | omega | (simp only [InR]; omega))
        all_goals try (refine Leaf.mk ?_; first
          | (have e : pgOk xs fx fy tx ty = false := decide_eq_false (by first | (intro h; omega) | (intro h; exact absurd h.2.1 (fun hh => hh _ ‹_› ⟨by simp only [pgY, ccX]; omega, by simp only [pgX]; omega⟩)) | (intro h; exact h.2.2.2.2.2 ⟨by assumption, by omega⟩)); first | exact e.symm | exact (pgT_no e).symm | exact (pgN_no e).symm)
          | (have e : pgOk xs fx fy tx ty = true := decide_eq_true ⟨by omega, by assumption, by omega, by omega, by omega, by first | (intro h; omega) | (intro h; simp_all; done)⟩; first | exact e.symm | exact (pgT_yes e).symm | exact (pgNf_yes e).symm | exact (pgNt_yes e).symm))
        all_goals try (refine Again.mk ⟨k + 1, [0, 1, 2, 3, 4], ⟨by omega, x2.succ (by simp only [pgX, pgY, ccX]; omega)⟩, (by show xs.length - (k + 1) < xs.length - k; omega), ?_, ?_⟩ <;> (repeat' (first | (with_reducible refine And.intro ?_ ?_) | (with_reducible intro h) | ((fail_if_success (with_reducible refine Leaf.mk ?_)); (fail_if_success (with_reducible refine VC.mk ?_)); (fail_if_success (with_reducible refine Goes.mk ?_)); (fail_if_success (with_reducible refine Again.mk ?_)); (fail_if_success (with_reducible refine Rounds.mk ?_)); (fail_if_success (with_reducible show False)); (fail_if_success (with_reducible show True)); conv => whnf))) <;> first | exact trivial | (refine Leaf.mk ?_; first
          | rfl
          | (rw [pgE_yes (by simp only [pgY, ccX]; omega) (by simp only [pgX, pgY, ccX]; first | (left; omega) | (right; omega))]; done)
          | (rw [pgE_yes (by simp only [pgY, ccX]; omega) (by simp only [pgX, pgY, ccX]; first | (left; omega) | (right; omega))]; simp only [pgX, pgY, ccX]; done)
          | (rw [pgE_no (by simp only [pgX, pgY, ccX]; omega)]; done)
          | (rw [pgL_yes (by simp only [pgY, ccX]; omega) (by simp only [pgX, pgY, ccX]; first | (left; assumption) | (right; omega))]; done)
          | (rw [pgL_yes (by simp only [pgY, ccX]; omega) (by simp only [pgX, pgY, ccX]; first | (left; assumption) | (right; omega))]; simp only [pgX, pgY, ccX]; done)
          | (rw [pgL_no (by simp only [pgX, pgY, ccX]; rintro ⟨h1, h2 | h2⟩ <;> first | omega | (simp_all; done))]; done)
          | exact ⟨rfl, rfl⟩ | exact ⟨rfl, rfl, rfl⟩ | (simp; done)))
      · obtain rfl : k = xs.length := by omega
        have hd : decide ((xs.length : Int) < (xs.length : Int)) = false := by simp
        repeat' (first | (with_reducible refine And.intro ?_ ?_) | (with_reducible intro h; try with_reducible first | exact (bcS h hd).elim) | ((fail_if_success (with_reducible refine Leaf.mk ?_)); (fail_if_success (with_reducible refine VC.mk ?_)); (fail_if_success (with_reducible refine Goes.mk ?_)); (fail_if_success (with_reducible refine Again.mk ?_)); (fail_if_success (with_reducible refine Rounds.mk ?_)); (fail_if_success (with_reducible show False)); (fail_if_success (with_reducible show True)); conv => whnf))
        all_goals try simp only [Nat.zero_add, tkA, Int.toNat_natCast] at *
        all_goals try simp only [decide_eq_true_eq, decide_eq_false_iff_not, Bool.not_eq_true', Bool.not_eq_false'] at *
        all_goals try with_reducible exact trivial
        all_goals try (refine VC.mk ?_; first | exact trivial | exact ⟨trivial, Nat.le_refl _⟩ | omega | (simp only [InR]; omega))
        all_goals try (refine Leaf.mk ?_; first
          | (have e : pgOk xs fx fy tx ty = false := decide_eq_false (by first | (intro h; omega) | (intro h; exact absurd h.2.1 (fun hh => hh _ ‹_› ⟨by simp only [pgY, ccX]; omega, by simp only [pgX]; omega⟩)) | (intro h; exact h.2.2.2.2.2 ⟨by assumption, by omega⟩)); first | exact e.symm | exact (pgT_no e).symm | exact (pgN_no e).symm)
          | (have e : pgOk xs fx fy tx ty = true := decide_eq_true ⟨by omega, by assumption, by omega, by omega, by omega, by first | (intro h; omega) | (intro h; simp_all; done)⟩; first | exact e.symm | exact (pgT_yes e).symm | exact (pgNf_yes e).symm | exact (pgNt_yes e).symm))

/-- A ray against a capsule. -/
def csW (px py qx qy r : Int) (d : Bool) : Int := mul (if d then sat (norm (sub qx px) (sub qy py) (sub qx px)) else -sat (norm (sub qx px) (sub qy py) (sub qy py))) r
def csS (px py qx qy r : Int) : List (List Int) := [[sub px (csW px py qx qy r false), sub py (csW px py qx qy r true)], [sub qx (csW px py qx qy r false), sub qy (csW px py qx qy r true)], [add qx (csW px py qx qy r false), add qy (csW px py qx qy r true)], [add px (csW px py qx qy r false), add py (csW px py qx qy r true)]]
/-- A hit: is it one, its fraction and its normal. The second is taken where it comes before. -/
structure Hit where
  ok : Bool
  t : Int
  nx : Int
  ny : Int
def Hit.or (a b : Hit) : Hit := if b.ok = true ∧ (a.ok = false ∨ b.t < a.t) then b else a
theorem Hit.or_yes {a b : Hit} (h1 : b.ok = true) (h2 : a.ok = false ∨ b.t < a.t) : a.or b = b := if_pos ⟨h1, h2⟩
theorem Hit.or_no {a b : Hit} (h : ¬ (b.ok = true ∧ (a.ok = false ∨ b.t < a.t))) : a.or b = a := if_neg h
def ccHit (cx cy r fx fy tx ty : Int) : Hit := ⟨ccOk cx cy r fx fy tx ty, ccT cx cy r fx fy tx ty, ccN cx cy r fx fy tx ty false, ccN cx cy r fx fy tx ty true⟩
def pgHit' (xs : List (List Int)) (fx fy tx ty : Int) : Hit := ⟨pgOk xs fx fy tx ty, pgT xs fx fy tx ty, pgN xs fx fy tx ty false, pgN xs fx fy tx ty true⟩
def csHit (px py qx qy r fx fy tx ty : Int) : Hit := ((ccHit px py r fx fy tx ty).or (ccHit qx qy r fx fy tx ty)).or (pgHit' (csS px py qx qy r) fx fy tx ty)
section
variable {px py qx qy r fx fy tx ty : Int}
theorem csS_eq : csS px py qx qy r = [[sub px (mul (-sat (norm (sub qx px) (sub qy py) (sub qy py))) r), sub py (mul (sat (norm (sub qx px) (sub qy py) (sub qx px))) r)], [sub qx (mul (-sat (norm (sub qx px) (sub qy py) (sub qy py))) r), sub qy (mul (sat (norm (sub qx px) (sub qy py) (sub qx px))) r)], [add qx (mul (-sat (norm (sub qx px) (sub qy py) (sub qy py))) r), add qy (mul (sat (norm (sub qx px) (sub qy py) (sub qx px))) r)], [add px (mul (-sat (norm (sub qx px) (sub qy py) (sub qy py))) r), add py (mul (sat (norm (sub qx px) (sub qy py) (sub qx px))) r)]] := by unfold csS csW; simp only [if_true, Bool.false_eq_true, if_false]
theorem csHit_1 (h1 : ccOk qx qy r fx fy tx ty = true) (h2 : ccOk px py r fx fy tx ty = false ∨ ccT qx qy r fx fy tx ty < ccT px py r fx fy tx ty) (h3 : pgOk (csS px py qx qy r) fx fy tx ty = true) (h4 : ccOk qx qy r fx fy tx ty = false ∨ pgT (csS px py qx qy r) fx fy tx ty < ccT qx qy r fx fy tx ty) : csHit px py qx qy r fx fy tx ty = pgHit' (csS px py qx qy r) fx fy tx ty := by
  have e1 : (ccHit px py r fx fy tx ty).or (ccHit qx qy r fx fy tx ty) = ccHit qx qy r fx fy tx ty := by unfold ccHit Hit.or; dsimp only; rw [if_pos ⟨h1, h2⟩]
  unfold csHit; rw [e1]; unfold ccHit pgHit' Hit.or; dsimp only; rw [if_pos ⟨h3, h4⟩]
theorem csHit_2 (h1 : ccOk qx qy r fx fy tx ty = true) (h2 : ccOk px py r fx fy tx ty = false ∨ ccT qx qy r fx fy tx ty < ccT px py r fx fy tx ty) (h3 : ¬ (pgOk (csS px py qx qy r) fx fy tx ty = true ∧ (ccOk qx qy r fx fy tx ty = false ∨ pgT (csS px py qx qy r) fx fy tx ty < ccT qx qy r fx fy tx ty))) : csHit px py qx qy r fx fy tx ty = ccHit qx qy r fx fy tx ty := by
  have e1 : (ccHit px py r fx fy tx ty).or (ccHit qx qy r fx fy tx ty) = ccHit qx qy r fx fy tx ty := by unfold ccHit Hit.or; dsimp only; rw [if_pos ⟨h1, h2⟩]
  unfold csHit; rw [e1]; unfold ccHit pgHit' Hit.or; dsimp only; rw [if_neg h3]
theorem csHit_3 (h1 : ¬ (ccOk qx qy r fx fy tx ty = true ∧ (ccOk px py r fx fy tx ty = false ∨ ccT qx qy r fx fy tx ty < ccT px py r fx fy tx ty))) (h3 : pgOk (csS px py qx qy r) fx fy tx ty = true) (h4 : ccOk px py r fx fy tx ty = false ∨ pgT (csS px py qx qy r) fx fy tx ty < ccT px py r fx fy tx ty) : csHit px py qx qy r fx fy tx ty = pgHit' (csS px py qx qy r) fx fy tx ty := by
  have e1 : (ccHit px py r fx fy tx ty).or (ccHit qx qy r fx fy tx ty) = ccHit px py r fx fy tx ty := by unfold ccHit Hit.or; dsimp only; rw [if_neg h1]
  unfold csHit; rw [e1]; unfold ccHit pgHit' Hit.or; dsimp only; rw [if_pos ⟨h3, h4⟩]
theorem csHit_4 (h1 : ¬ (ccOk qx qy r fx fy tx ty = true ∧ (ccOk px py r fx fy tx ty = false ∨ ccT qx qy r fx fy tx ty < ccT px py r fx fy tx ty))) (h3 : ¬ (pgOk (csS px py qx qy r) fx fy tx ty = true ∧ (ccOk px py r fx fy tx ty = false ∨ pgT (csS px py qx qy r) fx fy tx ty < ccT px py r fx fy tx ty))) : csHit px py qx qy r fx fy tx ty = ccHit px py r fx fy tx ty := by
  have e1 : (ccHit px py r fx fy tx ty).or (ccHit qx qy r fx fy tx ty) = ccHit px py r fx fy tx ty := by unfold ccHit Hit.or; dsimp only; rw [if_neg h1]
  unfold csHit; rw [e1]; unfold ccHit pgHit' Hit.or; dsimp only; rw [if_neg h3]
theorem orF {a b : Bool} {x y : Int} (h : b = false) : ¬ (b = true ∧ (a = false ∨ x < y)) := fun k => by rw [h] at k; cases k.1
theorem orG {a b : Bool} {x y : Int} (h : a = true) (h2 : ¬ x < y) : ¬ (b = true ∧ (a = false ∨ x < y)) := fun k => by
  rcases k.2 with e | e
  · rw [h] at e; cases e
  · exact h2 e
end
def c_raycast_castCapsule : Con := ⟨21, genRun [.num 2, .num 2, .num 0, .num 2, .num 2] (fun l R => match l, R with | [px, py, qx, qy, r, fx, fy, tx, ty], [] => [] | _, _ => [False]) fun l R => match l, R with
  | [px, py, qx, qy, r, fx, fy, tx, ty], [] => [.val (.int .i64 (csHit px py qx qy r fx fy tx ty).t), .val (.agg [.int .i64 (csHit px py qx qy r fx fy tx ty).nx, .int .i64 (csHit px py qx qy r fx fy tx ty).ny]), .val (.bool (csHit px py qx qy r fx fy tx ty).ok)]
  | _, _ => []⟩
set_option maxRecDepth 100000 in
set_option maxHeartbeats 4000000 in
theorem con_raycast_castCapsule : c_raycast_castCapsule.Ok Tryz.prog := by
  refine con_gen (C := [c_vec2_Sub, c_vec2_Normalize, c_vec2_Perp, c_vec2_Scale, c_vec2_Add, c_raycast_CastCircle, c_raycast_CastPolygon]) (pl := [(5, [0, 1, 2, 3, 4, 5], [0, 0, 0, 1, 11, 31]), (6, [0, 1, 2, 3, 4, 5, 6, 7, 8, 9, 10, 11, 12, 13], [0, 0, 3, 0, 0, 31, 0, 0, 255, 0, 0, 2047, 4095, 8191]), (9, [0, 1, 2, 3, 4, 5], [0, 0, 0, 1, 11, 31]), (10, [0, 1, 2, 3, 4, 5], [0, 0, 0, 1, 11, 31])]) Tryz.func21 rfl (by kernel_rfl) T_ok (Cons.cons con_vec2_Sub (Cons.cons con_vec2_Normalize (Cons.cons con_vec2_Perp (Cons.cons con_vec2_Scale (Cons.cons con_vec2_Add (Cons.cons con_raycast_CastCircle (Cons.cons con_raycast_CastPolygon (Cons.nil _)))))))) mixed (by kernel_rfl) _ _ _ (fun l R hl hR hn hpre => ?_)
  match l, hl, R, hR with
  | [px, py, qx, qy, r, fx, fy, tx, ty], zl, [], zr =>
    clear zl zr
    repeat' (first | (with_reducible refine And.intro ?_ ?_) | (with_reducible intro h) | ((fail_if_success (with_reducible refine Leaf.mk ?_)); (fail_if_success (with_reducible refine VC.mk ?_)); (fail_if_success (with_reducible refine Goes.mk ?_)); (fail_if_success (with_reducible refine Again.mk ?_)); (fail_if_success (with_reducible refine Rounds.mk ?_)); (fail_if_success (with_reducible show False)); (fail_if_success (with_reducible show True)); conv => whnf))
    all_goals try with_reducible exact trivial
    all_goals simp only [List.drop_zero, Nat.reduceAdd, List.take_succ_cons, List.take_zero] at *
    all_goals try simp only [decide_eq_true_eq, decide_eq_false_iff_not, Bool.not_eq_true', Bool.not_eq_false'] at *
    all_goals try (refine VC.mk ?_; first | exact trivial | (simp; done))
    all_goals simp only [← csS_eq] at *
    all_goals (refine Leaf.mk ?_; first
      | (rw [csHit_1 (by with_reducible assumption) (by with_reducible first | exact Or.inl ‹_› | exact Or.inr ‹_›) (by with_reducible assumption) (by with_reducible first | exact Or.inl ‹_› | exact Or.inr ‹_›)]; rfl)
      | (rw [csHit_2 (by with_reducible assumption) (by with_reducible first | exact Or.inl ‹_› | exact Or.inr ‹_›) (by with_reducible first | exact orF ‹_› | exact orG ‹_› ‹_›)]; rfl)
      | (rw [csHit_3 (by with_reducible first | exact orF ‹_› | exact orG ‹_› ‹_›) (by with_reducible assumption) (by with_reducible first | exact Or.inl ‹_› | exact Or.inr ‹_›)]; rfl)
      | (rw [csHit_4 (by with_reducible first | exact orF ‹_› | exact orG ‹_› ‹_›) (by with_reducible first | exact orF ‹_› | exact orG ‹_› ‹_›)]; rfl))

end Go.Proofs.YtohjifnkajhhnaaGreat
