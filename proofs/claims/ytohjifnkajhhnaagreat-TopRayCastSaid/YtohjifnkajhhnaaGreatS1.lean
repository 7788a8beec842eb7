/- Contracts of package segment and of caromref10. -/
import Derived.Test.YtohjifnkajhhnaaGreatKA
namespace Go.Proofs.YtohjifnkajhhnaaGreat
open Go.RowKit Fx Vx Bx Ev
set_option linter.unusedVariables false
set_option linter.unusedSimpArgs false


/-- The parameter, and a coordinate, of the closest point. -/
def cpN (a b c d p q : Int) : Int := (sat p - sat a) * (sat c - sat a) + (sat q - sat b) * (sat d - sat b)
def cpT (a b c d p q : Int) : Int := ratio (cpN a b c d p q) (dist2 a b c d)
def cpX (t a c : Int) : Int := if t = 0 then sat a else if t = 65536 then sat c else lerp a c t
theorem dist2_sat (a b c d : Int) : dist2 (sat a) (sat b) (sat c) (sat d) = dist2 a b c d := by simp only [dist2, sat_sat]
theorem lerp_sat (a c t : Int) : lerp (sat a) (sat c) t = lerp a c t := by simp only [lerp, add, sub, sat_sat]
theorem orient_sat (a b c d e f : Int) : orient (sat a) (sat b) (sat c) (sat d) (sat e) (sat f) = orient a b c d e f := by simp only [orient, orientN, sat_sat]
theorem cpT_sat (a b c d p q : Int) : cpT (sat a) (sat b) (sat c) (sat d) (sat p) (sat q) = cpT a b c d p q := by simp only [cpT, cpN, dist2_sat, sat_sat]
theorem cpX_sat (t a c : Int) : cpX t (sat a) (sat c) = cpX t a c := by simp only [cpX, lerp_sat, sat_sat]
theorem orient_bd (a b c d e f : Int) : -1 ≤ orient a b c d e f ∧ orient a b c d e f ≤ 1 := by unfold orient sign; split <;> (try split) <;> omega
theorem oo_bd (a b c d e f g h i j k l : Int) : -1 ≤ orient a b c d e f * orient g h i j k l ∧ orient a b c d e f * orient g h i j k l ≤ 1 := by
  have := orient_bd a b c d e f
  have := orient_bd g h i j k l
  exact mul_bd (A := 1) (by omega) (by omega) (by omega) (by omega)
def isecB (a b c d e f g h : Int) : Bool := decide (orient a b c d e f * orient a b c d g h ≤ 0) && decide (orient e f g h a b * orient e f g h c d ≤ 0) && overlapsB (loP 0 [[a, b], [c, d]]) (loP 1 [[a, b], [c, d]]) (hiP 0 [[a, b], [c, d]]) (hiP 1 [[a, b], [c, d]]) (loP 0 [[e, f], [g, h]]) (loP 1 [[e, f], [g, h]]) (hiP 0 [[e, f], [g, h]]) (hiP 1 [[e, f], [g, h]])
theorem isecB_sat (a b c d e f g h : Int) : isecB (sat a) (sat b) (sat c) (sat d) (sat e) (sat f) (sat g) (sat h) = isecB a b c d e f g h := by
  simp only [isecB, orient_sat, loP, hiP, List.foldl, List.getD_cons_zero, List.getD_cons_succ, sat_sat]
theorem tk2 (xs : List (List Int)) (h : xs.length = 2) : List.take 2 (List.drop 0 xs) = xs := by rw [List.drop_zero, List.take_of_length_le (by omega)]
/-- The distance of p from the line cd, scaled. -/
def lineK (c d e f p q : Int) : Int := (e - c) * (q - d) - (f - d) * (p - c)
def lineD (c d e f p q : Int) : Int := max (lineK c d e f p q) (-lineK c d e f p q)
def d2 (l : List Int) : Int := dist2 (l.getD 0 0) (l.getD 1 0) (l.getD 2 0) (l.getD 3 0)
def nearer (p q : List Int) : List Int := if d2 q < d2 p then q else p
def isecT (a b c d e f g h : Int) : Int := ratio (lineD (sat e) (sat f) (sat g) (sat h) (sat a) (sat b)) (lineD (sat e) (sat f) (sat g) (sat h) (sat a) (sat b) + lineD (sat e) (sat f) (sat g) (sat h) (sat c) (sat d))
def candA (a b e f g h : Int) : List Int := [sat a, sat b, cpX (cpT e f g h a b) e g, cpX (cpT e f g h a b) f h]
def candC (a b c d e f : Int) : List Int := [cpX (cpT a b c d e f) a c, cpX (cpT a b c d e f) b d, sat e, sat f]
def cands (a b c d e f g h : Int) : List (List Int) := [candA c d e f g h, candC a b c d e f, candC a b c d g h]
def clos (a b c d e f g h : Int) : List Int :=
  if isecB a b c d e f g h then [lerp a c (isecT a b c d e f g h), lerp b d (isecT a b c d e f g h), lerp a c (isecT a b c d e f g h), lerp b d (isecT a b c d e f g h)]
  else nearer (nearer (nearer (candA a b e f g h) (candA c d e f g h)) (candC a b c d e f)) (candC a b c d g h)
def sdist (a b c d e f g h : Int) : Int := if isecB a b c d e f g h then 0 else sat (isq (d2 (clos a b c d e f g h)))
theorem lineK_bd {c d e f p q : Int} (h1 : sat c = c) (h2 : sat d = d) (h3 : sat e = e) (h4 : sat f = f) (h5 : sat p = p) (h6 : sat q = q) : -1152921500311879684 ≤ (e - c) * (q - d) ∧ (e - c) * (q - d) ≤ 1152921500311879684 ∧ -1152921500311879684 ≤ (f - d) * (p - c) ∧ (f - d) * (p - c) ≤ 1152921500311879684 ∧ -2305843000623759368 ≤ lineK c d e f p q ∧ lineK c d e f p q ≤ 2305843000623759368 := by
  have k1 := dif_bd c e d q
  have k2 := dif_bd d f c p
  rw [h1, h2, h3, h6] at k1
  rw [h1, h2, h4, h5] at k2
  unfold lineK
  omega
theorem lineD_bd {c d e f p q : Int} (h1 : sat c = c) (h2 : sat d = d) (h3 : sat e = e) (h4 : sat f = f) (h5 : sat p = p) (h6 : sat q = q) : 0 ≤ lineD c d e f p q ∧ lineD c d e f p q ≤ 2305843000623759368 := by
  have := lineK_bd h1 h2 h3 h4 h5 h6
  unfold lineD
  omega

def c_segment_saturate : Con := ⟨99, pureRun [2] (fun _ => []) fun | [a, b] => .agg [.int .i64 (sat a), .int .i64 (sat b)] | _ => .any⟩
set_option maxRecDepth 100000 in
set_option maxHeartbeats 1000000 in
theorem con_segment_saturate : c_segment_saturate.Ok Tryz.prog := by
  refine con_pure (C := [c_fixed_Saturate]) (pl := [(1, [0, 1, 2, 3, 4, 5, 6, 7], [0, 1, 3, 0, 8, 31, 63, 127])]) Tryz.func99 rfl (by kernel_rfl) T_ok (Cons.cons con_fixed_Saturate (Cons.nil _)) mixed (by kernel_rfl) _ _ _ (fun l hl hpre => ?_)
  match l, hl with
  | [a, b], _ =>
    repeat' (first | (with_reducible refine And.intro ?_ ?_) | (with_reducible intro h) | ((fail_if_success (with_reducible refine Leaf.mk ?_)); (fail_if_success (with_reducible refine VC.mk ?_)); (fail_if_success (with_reducible refine Goes.mk ?_)); (fail_if_success (with_reducible refine Again.mk ?_)); (fail_if_success (with_reducible refine Rounds.mk ?_)); (fail_if_success (with_reducible show False)); (fail_if_success (with_reducible show True)); conv => whnf))
    all_goals first | (refine VC.mk ?_; simp only [InR]; omega) | exact ⟨rfl⟩
def c_segment_ClosestPoint : Con := ⟨101, pureRun [2, 2, 2] (fun _ => []) fun | [a, b, c, d, p, q] => .tup [.agg [.int .i64 (cpX (cpT a b c d p q) a c), .int .i64 (cpX (cpT a b c d p q) b d)], .int .i64 (cpT a b c d p q)] | _ => .any⟩
set_option maxRecDepth 100000 in
set_option maxHeartbeats 1000000 in
theorem con_segment_ClosestPoint : c_segment_ClosestPoint.Ok Tryz.prog := by
  refine con_pure (C := [c_segment_saturate, c_fixed_Ratio, c_vec2_DistanceSquared, c_vec2_Lerp]) (pl := [(1, [0, 1, 2, 3, 4, 5, 6, 7, 8], [0, 1, 0, 7, 0, 31, 63, 127, 255]), (2, [0, 1, 2, 3, 4, 5, 6, 7, 8, 9, 10, 11, 12, 13, 14, 15, 16, 17, 18, 19, 20, 21, 22, 23, 24, 25, 26, 27], [0, 1, 0, 4, 15, 0, 32, 0, 128, 480, 1023, 0, 2048, 0, 8192, 30720, 0, 65536, 0, 262144, 983040, 2095104, 4194303, 0, 0, 25165824, 67108863, 134217727])]) Tryz.func101 rfl (by kernel_rfl) T_ok (Cons.cons con_segment_saturate (Cons.cons con_fixed_Ratio (Cons.cons con_vec2_DistanceSquared (Cons.cons con_vec2_Lerp (Cons.nil _))))) mixed (by kernel_rfl) _ _ _ (fun l hl hpre => ?_)
  match l, hl with
  | [a, b, c, d, p, q], _ =>
    repeat' (first | (with_reducible refine And.intro ?_ ?_) | (with_reducible intro h) | ((fail_if_success (with_reducible refine Leaf.mk ?_)); (fail_if_success (with_reducible refine VC.mk ?_)); (fail_if_success (with_reducible refine Goes.mk ?_)); (fail_if_success (with_reducible refine Again.mk ?_)); (fail_if_success (with_reducible refine Rounds.mk ?_)); (fail_if_success (with_reducible show False)); (fail_if_success (with_reducible show True)); conv => whnf))
    all_goals have := sat_bd a
    all_goals have := sat_bd b
    all_goals have := sat_bd c
    all_goals have := sat_bd d
    all_goals have := sat_bd p
    all_goals have := sat_bd q
    all_goals have := dif_bd a p a c
    all_goals have := dif_bd b q b d
    all_goals try simp only [dist2_sat, lerp_sat, decide_eq_true_eq, decide_eq_false_iff_not] at *
    all_goals try first | (refine VC.mk ?_; simp only [InR]; omega) | (refine Leaf.mk ?_; first | (simp only [cpX, cpT, cpN, *]; done) | (simp [cpX, cpT, cpN, *]; done))
def c_segment_Intersects : Con := ⟨61, pureRun [2, 2, 2, 2] (fun _ => []) fun | [a, b, c, d, e, f, g, k] => .bool (isecB a b c d e f g k) | _ => .any⟩
set_option maxRecDepth 100000 in
set_option maxHeartbeats 1000000 in
theorem con_segment_Intersects : c_segment_Intersects.Ok Tryz.prog := by
  refine con_pure (C := [c_aabb_FromPoints, c_vec2_Orientation, c_aabb_Overlaps]) (pl := [(3, [0, 1, 2, 3, 4, 5, 6, 7, 8, 9, 10, 11, 12, 13, 14, 15, 16, 17, 18, 19, 20, 21, 22], [0, 0, 0, 7, 0, 0, 0, 127, 255, 511, 1023, 2047, 2047, 2047, 16383, 2047, 2047, 2047, 262143, 524287, 1048575, 2097151, 4194303])]) Tryz.func61 rfl (by kernel_rfl) T_ok (Cons.cons con_aabb_FromPoints (Cons.cons con_vec2_Orientation (Cons.cons con_aabb_Overlaps (Cons.nil _)))) mixed (by kernel_rfl) _ _ _ (fun l hl hpre => ?_)
  match l, hl with
  | [a, b, c, d, e, f, g, k], _ =>
    repeat' (first | (with_reducible refine And.intro ?_ ?_) | (with_reducible intro h) | ((fail_if_success (with_reducible refine Leaf.mk ?_)); (fail_if_success (with_reducible refine VC.mk ?_)); (fail_if_success (with_reducible refine Goes.mk ?_)); (fail_if_success (with_reducible refine Again.mk ?_)); (fail_if_success (with_reducible refine Rounds.mk ?_)); (fail_if_success (with_reducible show False)); (fail_if_success (with_reducible show True)); conv => whnf))
    all_goals have := oo_bd a b c d e f a b c d g k
    all_goals have := oo_bd e f g k a b e f g k c d
    all_goals have t1 := tk2 [[a, b], [c, d]] rfl
    all_goals have t2 := tk2 [[e, f], [g, k]] rfl
    all_goals try simp only [t1, t2, Bool.not_eq_true', Bool.not_eq_false', decide_eq_true_eq, decide_eq_false_iff_not, Int.not_lt, Int.not_le] at *
    all_goals try first | (refine VC.mk ?_; simp only [InR]; omega) | (refine VC.mk ?_; simp; done) | (refine Leaf.mk ?_; unfold isecB; first | rfl | (simp only [decide_eq_true_eq, *]; done) | (rw [decide_eq_false (by omega)]; first | rfl | (simp [*]; done) | (simp [Bool.and_false]; done)) | (rw [decide_eq_true (by omega : orient a b c d e f * orient a b c d g k ≤ 0)]; rw [decide_eq_false (by omega)]; rfl) | (rw [decide_eq_true (by omega : orient a b c d e f * orient a b c d g k ≤ 0), decide_eq_true (by omega : orient e f g k a b * orient e f g k c d ≤ 0)]; simp [*]; done) | (simp [*]; done))
def c_segment_lineDistance : Con := ⟨100, pureRun [2, 2, 2] (fun | [c, d, e, f, p, q] => [sat c = c, sat d = d, sat e = e, sat f = f, sat p = p, sat q = q] | _ => [False]) fun | [c, d, e, f, p, q] => .int .i64 (lineD c d e f p q) | _ => .any⟩
set_option maxRecDepth 100000 in
set_option maxHeartbeats 1000000 in
theorem con_segment_lineDistance : c_segment_lineDistance.Ok Tryz.prog := by
  refine con_pure (C := []) (pl := []) Tryz.func100 rfl (by kernel_rfl) T_ok (Cons.nil _) mixed (by kernel_rfl) _ _ _ (fun l hl hpre => ?_)
  match l, hl with
  | [c, d, e, f, p, q], _ =>
    have h1 := hpre _ (.head _); have h2 := hpre _ (.tail _ (.head _)); have h3 := hpre _ (.tail _ (.tail _ (.head _))); have h4 := hpre _ (.tail _ (.tail _ (.tail _ (.head _)))); have h5 := hpre _ (.tail _ (.tail _ (.tail _ (.tail _ (.head _))))); have h6 := hpre _ (.tail _ (.tail _ (.tail _ (.tail _ (.tail _ (.head _))))))
    have s1 := sat_bd c; have s2 := sat_bd d; have s3 := sat_bd e; have s4 := sat_bd f; have s5 := sat_bd p; have s6 := sat_bd q
    have k := lineK_bd h1 h2 h3 h4 h5 h6
    rw [h1] at s1; rw [h2] at s2; rw [h3] at s3; rw [h4] at s4; rw [h5] at s5; rw [h6] at s6
    unfold lineK at k
    repeat' (first | (with_reducible refine And.intro ?_ ?_) | (with_reducible intro h) | ((fail_if_success (with_reducible refine Leaf.mk ?_)); (fail_if_success (with_reducible refine VC.mk ?_)); (fail_if_success (with_reducible refine Goes.mk ?_)); (fail_if_success (with_reducible refine Again.mk ?_)); (fail_if_success (with_reducible refine Rounds.mk ?_)); (fail_if_success (with_reducible show False)); (fail_if_success (with_reducible show True)); conv => whnf))
    all_goals try simp only [decide_eq_true_eq, decide_eq_false_iff_not] at *
    all_goals first | (refine VC.mk ?_; simp only [InR]; omega) | (refine Leaf.mk ?_; show _ = max ((e - c) * (q - d) - (f - d) * (p - c)) (-((e - c) * (q - d) - (f - d) * (p - c))); first | rfl | omega)
end Go.Proofs.YtohjifnkajhhnaaGreat
