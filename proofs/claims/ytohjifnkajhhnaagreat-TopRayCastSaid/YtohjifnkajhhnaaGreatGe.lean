/- Contracts of package polygon and of caromref11: areas and centroids. -/
import Derived.Test.YtohjifnkajhhnaaGreatGd
namespace Go.Proofs.YtohjifnkajhhnaaGreat
open Go.RowKit Fx Vx Bx Ev
set_option linter.unusedVariables false
set_option linter.unusedSimpArgs false


/-- The rounded cross product of the triangle at corner 0 with the edge at i. -/
def crN (xs : List (List Int)) (i : Nat) : Int := (at2 xs i 0 - at2 xs 0 0) * (at2 xs (i + 1) 1 - at2 xs 0 1) - (at2 xs i 1 - at2 xs 0 1) * (at2 xs (i + 1) 0 - at2 xs 0 0)
def crX (xs : List (List Int)) (i : Nat) : Int := rd (crN xs i) 65536
def fanRow (xs : List (List Int)) (i : Nat) : List Int := [at2 xs (i + 1) 0 - at2 xs 0 0, at2 xs (i + 1) 1 - at2 xs 0 1, at2 xs (i + 2) 0 - at2 xs 0 0, at2 xs (i + 2) 1 - at2 xs 0 1, crX xs (i + 1)]
def fanR (xs : List (List Int)) (k : Nat) : List (List Int) := (List.range k).map (fanRow xs)
def sumX (xs : List (List Int)) : Nat → Int
  | 0 => 0
  | k + 1 => sumX xs k + crX xs (k + 1)
def areaX (xs : List (List Int)) : Int := if convB xs then rd (sumX xs (xs.length - 2)) 2 else 0
/-- Sums of the coordinates, weighed. -/
def wT (xs : List (List Int)) (j k : Nat) : Int := ((at2 xs (k + 1) j - at2 xs 0 j) + (at2 xs (k + 1 + 1) j - at2 xs 0 j)) * crX xs (k + 1)
def wX (xs : List (List Int)) (j : Nat) : Nat → Int
  | 0 => 0
  | k + 1 => wX xs j k + wT xs j k
def cenX (xs : List (List Int)) (j : Nat) : Int := if convB xs then (if sumX xs (xs.length - 2) = 0 then at2 xs 0 j else at2 xs 0 j + rd (wX xs j (xs.length - 2)) (3 * sumX xs (xs.length - 2))) else 0
theorem AllR.at {xs : List (List Int)} {n i j : Nat} (h : AllR xs n) (hi : i < n) (hj : j < 2) : -1048576 ≤ at2 xs i j ∧ at2 xs i j ≤ 1048576 := by
  have := h i hi
  unfold inR at this
  match j, hj with
  | 0, _ => exact this.1
  | 1, _ => exact this.2
theorem difR {xs : List (List Int)} {n i j : Nat} (h : AllR xs n) (hi : i < n) (hj : j < 2) : -2097152 ≤ at2 xs i j - at2 xs 0 j ∧ at2 xs i j - at2 xs 0 j ≤ 2097152 := by
  have := h.at hi hj
  have := h.at (i := 0) (by omega) hj
  omega
theorem prodR {xs : List (List Int)} {n i j i' j' : Nat} (h : AllR xs n) (hi : i < n) (hj : j < 2) (hi' : i' < n) (hj' : j' < 2) : -4398046511104 ≤ (at2 xs i j - at2 xs 0 j) * (at2 xs i' j' - at2 xs 0 j') ∧ (at2 xs i j - at2 xs 0 j) * (at2 xs i' j' - at2 xs 0 j') ≤ 4398046511104 := by
  have h1 := difR h hi hj
  have h2 := difR h hi' hj'
  exact mul_bd (A := 2097152) h1.1 h1.2 h2.1 h2.2
theorem crN_bd {xs : List (List Int)} {n i : Nat} (h : AllR xs n) (hi : i + 1 < n) : -8796093022208 ≤ crN xs i ∧ crN xs i ≤ 8796093022208 := by
  have h1 := prodR h (i := i) (j := 0) (i' := i + 1) (j' := 1) (by omega) (by decide) hi (by decide)
  have h2 := prodR h (i := i) (j := 1) (i' := i + 1) (j' := 0) (by omega) (by decide) hi (by decide)
  unfold crN; omega
theorem crX_bd {xs : List (List Int)} {n i : Nat} (h : AllR xs n) (hi : i + 1 < n) : -134217729 ≤ crX xs i ∧ crX xs i ≤ 134217729 := by
  have h1 := crN_bd h hi
  have h2 := rd_err (n := crN xs i) (d := 65536) (by decide) (by decide) (by omega) (by omega)
  unfold crX; omega
theorem sumX_bd {xs : List (List Int)} {n : Nat} (h : AllR xs n) (hn : n ≤ 8) : ∀ k, k + 1 < n → -1073741832 ≤ sumX xs k ∧ sumX xs k ≤ 1073741832 := by
  have key : ∀ k, k + 1 < n → -(134217729 * (k : Int)) ≤ sumX xs k ∧ sumX xs k ≤ 134217729 * (k : Int) := by
    intro k
    induction k with
    | zero => intro _; simp [sumX]
    | succ k ih =>
      intro hk
      have := ih (by omega)
      have := crX_bd h (i := k + 1) (by omega)
      simp only [sumX]
      omega
  intro k hk
  have := key k hk
  omega
theorem wT_bd {xs : List (List Int)} {n j k : Nat} (h : AllR xs n) (hk : k + 2 < n) (hj : j < 2) : -562949957615616 ≤ wT xs j k ∧ wT xs j k ≤ 562949957615616 := by
  have h1 := difR h (i := k + 1) (j := j) (by omega) hj
  have h2 := difR h (i := k + 1 + 1) (j := j) (by omega) hj
  have h3 := crX_bd h (i := k + 1) (by omega)
  have key : ∀ s c : Int, -4194304 ≤ s → s ≤ 4194304 → -134217729 ≤ c → c ≤ 134217729 → -562949957615616 ≤ s * c ∧ s * c ≤ 562949957615616 := by
    intro s c a1 a2 a3 a4
    have h1' : 0 ≤ (4194304 - s) * (134217729 + c) := Int.mul_nonneg (by omega) (by omega)
    have h2' : 0 ≤ (4194304 - s) * (134217729 - c) := Int.mul_nonneg (by omega) (by omega)
    have h3' : 0 ≤ (4194304 + s) * (134217729 + c) := Int.mul_nonneg (by omega) (by omega)
    have h4' : 0 ≤ (4194304 + s) * (134217729 - c) := Int.mul_nonneg (by omega) (by omega)
    simp only [Int.sub_mul, Int.mul_sub, Int.add_mul, Int.mul_add] at h1' h2' h3' h4'
    omega
  exact key _ _ (by omega) (by omega) h3.1 h3.2
theorem wX_bd {xs : List (List Int)} {n j : Nat} (h : AllR xs n) (hn : n ≤ 8) (hj : j < 2) : ∀ k, k + 1 < n → -4503599660924928 ≤ wX xs j k ∧ wX xs j k ≤ 4503599660924928 := by
  have key : ∀ k, k + 1 < n → -(562949957615616 * (k : Int)) ≤ wX xs j k ∧ wX xs j k ≤ 562949957615616 * (k : Int) := by
    intro k
    induction k with
    | zero => intro _; simp [wX]
    | succ k ih =>
      intro hk
      have := ih (by omega)
      have := wT_bd h (k := k) (j := j) (by omega) hj
      simp only [wX]
      omega
  intro k hk
  have := key k hk
  omega
theorem tn1 (k : Nat) : ((k : Int) + 1).toNat = k + 1 := by omega
theorem tn2 (k : Nat) : ((k : Int) + 1 + 1).toNat = k + 1 + 1 := by omega
theorem tn3 (k : Nat) : ((k : Int) + 1 + 1 + 1).toNat = k + 1 + 1 + 1 := by omega
theorem fanR_len (xs : List (List Int)) (k : Nat) : (fanR xs k).length = k := by simp [fanR]
theorem fanR_succ (xs : List (List Int)) (k : Nat) : fanR xs (k + 1) = fanR xs k ++ [fanRow xs k] := by simp [fanR, List.range_succ]
theorem at2_fan (xs : List (List Int)) {n k : Nat} (h : k < n) (j : Nat) : at2 (fanR xs n) k j = (fanRow xs k).getD j 0 := by simp [at2, fanR, h]
theorem fan0 (xs : List (List Int)) {n k : Nat} (h : k < n) : at2 (fanR xs n) k 0 = at2 xs (k + 1) 0 - at2 xs 0 0 := by rw [at2_fan xs h]; rfl
theorem fan1 (xs : List (List Int)) {n k : Nat} (h : k < n) : at2 (fanR xs n) k 1 = at2 xs (k + 1) 1 - at2 xs 0 1 := by rw [at2_fan xs h]; rfl
theorem fan2 (xs : List (List Int)) {n k : Nat} (h : k < n) : at2 (fanR xs n) k 2 = at2 xs (k + 1 + 1) 0 - at2 xs 0 0 := by rw [at2_fan xs h]; rfl
theorem fan3 (xs : List (List Int)) {n k : Nat} (h : k < n) : at2 (fanR xs n) k 3 = at2 xs (k + 1 + 1) 1 - at2 xs 0 1 := by rw [at2_fan xs h]; rfl
theorem fan4 (xs : List (List Int)) {n k : Nat} (h : k < n) : at2 (fanR xs n) k 4 = crX xs (k + 1) := by rw [at2_fan xs h]; rfl
theorem asc (a o f : Int) : a - o + f - o = (a - o) + (f - o) := by omega

def c_polygon_fan : Con := ⟨125, genRun [.rows 2] (fun l R => match l, R with | [], [(bxs, xs)] => [3 ≤ xs.length, xs.length ≤ 8, AllR xs xs.length] | _, _ => [False]) fun l R => match l, R with
  | [], [(bxs, xs)] => [.rows false 5 (fanR xs (xs.length - 2)), .val (.int .i64 (sumX xs (xs.length - 2)))]
  | _, _ => []⟩
set_option maxRecDepth 100000 in
set_option maxHeartbeats 4000000 in
theorem con_polygon_fan : c_polygon_fan.Ok Tryz.prog := by
  refine con_gen (C := [c_fixed_RoundDiv]) (pl := [(7, [0, 1, 2, 3, 4, 5, 6, 7, 8, 9, 10, 11, 12, 13, 14, 15, 16, 17, 18], [0, 0, 3, 7, 15, 0, 32, 127, 0, 0, 768, 1792, 3840, 0, 8192, 32512, 65535, 0, 262143]), (8, [0, 1, 2, 3, 4, 5, 6, 7, 8, 9, 10, 11, 12, 13, 14, 15, 16, 17, 18, 19, 20], [0, 0, 2, 7, 15, 31, 0, 64, 255, 0, 0, 1024, 3584, 7680, 15872, 0, 32768, 130560, 262143, 0, 1048575])]) Tryz.func125 rfl (by kernel_rfl) T_ok (Cons.cons con_fixed_RoundDiv (Cons.nil _)) mixed (by kernel_rfl) _ _ _ (fun l R hl hR hn hpre => ?_)
  match l, hl, R, hR with
  | [], zl, [(true, xs)], zr =>
    clear zl zr
    obtain rfl : xs = [] := hn _ (List.Mem.head _) rfl
    have hp0 := hpre _ (List.Mem.head _); try dsimp only at hp0
    have hp1 := hpre _ (List.Mem.tail _ (List.Mem.head _)); try dsimp only at hp1
    have hp2 := hpre _ (List.Mem.tail _ (List.Mem.tail _ (List.Mem.head _))); try dsimp only at hp2
    exact absurd hp0 (by simp)
  | [], zl, [(false, xs)], zr =>
    clear zl zr
    have hp0 := hpre _ (List.Mem.head _); try dsimp only at hp0
    have hp1 := hpre _ (List.Mem.tail _ (List.Mem.head _)); try dsimp only at hp1
    have hp2 := hpre _ (List.Mem.tail _ (List.Mem.tail _ (List.Mem.head _))); try dsimp only at hp2
    repeat' (first | (with_reducible refine And.intro ?_ ?_) | (with_reducible intro h) | ((fail_if_success (with_reducible refine Leaf.mk ?_)); (fail_if_success (with_reducible refine VC.mk ?_)); (fail_if_success (with_reducible refine Goes.mk ?_)); (fail_if_success (with_reducible refine Again.mk ?_)); (fail_if_success (with_reducible refine Rounds.mk ?_)); (fail_if_success (with_reducible show False)); (fail_if_success (with_reducible show True)); conv => whnf))
    all_goals try simp only [Bool.not_eq_true', Bool.not_eq_false', Bool.and_eq_true, decide_eq_true_eq, decide_eq_false_iff_not, tkA, Nat.zero_add, Nat.reduceAdd, Int.toNat_natCast, tmN] at *
    all_goals try first | exact trivial | (show False; omega) | exact Leaf.mk trivial | exact Leaf.mk rfl | (refine VC.mk ?_; first | trivial | assumption | ((try simp only [InR] at *); omega) | (simp; done) | (simp; omega))
    refine goes_inv (X := Nat) (pl := [(7, [0, 1, 2, 3, 4, 5, 6, 7, 8, 9, 10, 11, 12, 13, 14, 15, 16, 17, 18], [0, 0, 3, 7, 15, 0, 32, 127, 0, 0, 768, 1792, 3840, 0, 8192, 32512, 65535, 0, 262143]), (8, [0, 1, 2, 3, 4, 5, 6, 7, 8, 9, 10, 11, 12, 13, 14, 15, 16, 17, 18, 19, 20], [0, 0, 2, 7, 15, 31, 0, 64, 255, 0, 0, 1024, 3584, 7680, 15872, 0, 32768, 130560, 262143, 0, 1048575])]) T_ok (Cons.cons con_fixed_RoundDiv (Cons.nil _)) mixed (by kernel_rfl)
      (fun k => (.sl 0 2 0 xs.length :: .any :: .any :: .any :: .osl (decide (k = 0)) 2 5 k :: .int .i64 (sumX xs k) :: .ptr 1 0 :: .int .i64 ((k : Int) + 1) :: .any :: .any :: .any :: .any :: .any :: .any :: .any :: .any :: .any :: .any :: .any :: .any :: .any :: .any :: .any :: .any :: .any :: .any :: .any :: .any :: .any :: .any :: .any :: .any :: .any :: .any :: .any :: .any :: .any :: .any :: .any :: .any :: .any :: .any :: .any :: .any :: .any :: .any :: .any :: .any :: .any :: .any :: .any :: .any :: .any :: .any :: .any :: .any :: .any :: .any :: .any :: .any :: .any :: .any :: .any :: .any :: .any :: .any :: .any :: .any :: .any :: .any :: .any :: .any :: .any :: .any :: .any :: .any :: .any :: .any :: .any :: .any :: .any :: [], [.arr false true 2 xs, .cells [.int .i64 (at2 xs 0 0), .int .i64 (at2 xs 0 1)], .arr true (!decide (k = 0)) 5 (fanR xs k)]))
      (fun k => k + 2 ≤ xs.length ∧ AllR xs xs.length) (fun k => xs.length - k) 0 [0, 1, 2] ⟨by omega, hp2⟩ ?_ ?_ ?_
    · repeat' (first | (with_reducible refine And.intro ?_ ?_) | (with_reducible intro h) | ((fail_if_success (with_reducible refine Leaf.mk ?_)); (fail_if_success (with_reducible refine VC.mk ?_)); (fail_if_success (with_reducible refine Goes.mk ?_)); (fail_if_success (with_reducible refine Again.mk ?_)); (fail_if_success (with_reducible refine Rounds.mk ?_)); (fail_if_success (with_reducible show False)); (fail_if_success (with_reducible show True)); conv => whnf))
      all_goals first | exact trivial | (refine Leaf.mk ?_; first | rfl | exact ⟨rfl, rfl⟩ | (simp; done))
    · repeat' (first | (with_reducible refine And.intro ?_ ?_) | (with_reducible intro h) | ((fail_if_success (with_reducible refine Leaf.mk ?_)); (fail_if_success (with_reducible refine VC.mk ?_)); (fail_if_success (with_reducible refine Goes.mk ?_)); (fail_if_success (with_reducible refine Again.mk ?_)); (fail_if_success (with_reducible refine Rounds.mk ?_)); (fail_if_success (with_reducible show False)); (fail_if_success (with_reducible show True)); conv => whnf))
      all_goals first | exact trivial | (refine Leaf.mk ?_; first | rfl | exact ⟨rfl, rfl⟩ | (simp; done))
    · intro k hx
      obtain ⟨hx1, hx2⟩ := hx
      repeat' (first | (with_reducible refine And.intro ?_ ?_) | (with_reducible intro h) | ((fail_if_success (with_reducible refine Leaf.mk ?_)); (fail_if_success (with_reducible refine VC.mk ?_)); (fail_if_success (with_reducible refine Goes.mk ?_)); (fail_if_success (with_reducible refine Again.mk ?_)); (fail_if_success (with_reducible refine Rounds.mk ?_)); (fail_if_success (with_reducible show False)); (fail_if_success (with_reducible show True)); conv => whnf))
      all_goals try simp only [Bool.not_eq_true', Bool.not_eq_false', Bool.and_eq_true, decide_eq_true_eq, decide_eq_false_iff_not, tkA, Nat.zero_add, Nat.reduceAdd, Int.toNat_natCast, tmN] at *
      all_goals try simp only [tn1, tn2] at *
      all_goals try (
        have hlt : k + 1 + 1 < xs.length := by omega
        have d10 := difR hp2 (i := k + 1) (j := 0) (by omega) (by decide)
        have d11 := difR hp2 (i := k + 1) (j := 1) (by omega) (by decide)
        have d20 := difR hp2 (i := k + 1 + 1) (j := 0) (by omega) (by decide)
        have d21 := difR hp2 (i := k + 1 + 1) (j := 1) (by omega) (by decide)
        have pp1 := prodR hp2 (i := k + 1) (j := 0) (i' := k + 1 + 1) (j' := 1) (by omega) (by decide) (by omega) (by decide)
        have pp2 := prodR hp2 (i := k + 1) (j := 1) (i' := k + 1 + 1) (j' := 0) (by omega) (by decide) (by omega) (by decide)
        have cb := crX_bd hp2 (i := k + 1) (by omega)
        have sb := sumX_bd hp2 (by omega) k (by omega)
        unfold crX crN at cb)
      all_goals try first | exact trivial | (show False; omega) | exact Leaf.mk trivial | exact Leaf.mk rfl | (refine VC.mk ?_; first | trivial | assumption | ((try simp only [InR] at *); omega) | (simp; done) | (simp; omega))
      all_goals try (refine VC.mk ?_; simp only [fanR_len, InR] at *; first | omega | (refine ⟨?_, by simp⟩; intro; simp; omega) | (intro; simp; omega))
      all_goals first
        | (refine Leaf.mk ?_; omega)
        | (have hk : k = xs.length - 2 := by omega
           subst hk
           refine Leaf.mk ?_; first | rfl | (rw [List.take_of_length_le (by rw [fanR_len]; omega)]; done))
        | (refine Again.mk ⟨k + 1, [0, 1, 6], ⟨by omega, hx2⟩, (by omega), ?_, ?_⟩ <;> (repeat' (first | (with_reducible refine And.intro ?_ ?_) | (with_reducible intro h) | ((fail_if_success (with_reducible refine Leaf.mk ?_)); (fail_if_success (with_reducible refine VC.mk ?_)); (fail_if_success (with_reducible refine Goes.mk ?_)); (fail_if_success (with_reducible refine Again.mk ?_)); (fail_if_success (with_reducible refine Rounds.mk ?_)); (fail_if_success (with_reducible show False)); (fail_if_success (with_reducible show True)); conv => whnf))) <;> first | exact trivial | (refine Leaf.mk ?_; first | rfl | (simp; done) | (simp only [tn1, tn2]; rfl) | (refine ⟨by simp, ?_⟩; rw [fanR_succ, List.take_of_length_le (by rw [fanR_len]; omega)]; rfl)))
def c_polygon_Area : Con := ⟨89, rowRun [.rows 2] (fun l R => match l, R with | [], [xs] => [xs.length ≤ 100000] | _, _ => [False]) fun l R => match l, R with
  | [], [xs] => .int .i64 (areaX xs)
  | _, _ => .any⟩
set_option maxRecDepth 100000 in
set_option maxHeartbeats 2000000 in
theorem con_polygon_Area : c_polygon_Area.Ok Tryz.prog := by
  refine con_rows (C := [c_polygon_IsConvex, c_polygon_fan, c_fixed_RoundDiv]) (pl := []) Tryz.func89 rfl (by kernel_rfl) T_ok (Cons.cons con_polygon_IsConvex (Cons.cons con_polygon_fan (Cons.cons con_fixed_RoundDiv (Cons.nil _)))) mixed (by kernel_rfl) _ _ _ (fun l R hl hR hn hpre => ?_)
  match l, hl, R, hR with
  | [], zl, [(true, xs)], zr =>
    clear zl zr
    obtain rfl : xs = [] := hn _ (List.Mem.head _) rfl
    have hp0 := hpre _ (List.Mem.head _); try dsimp only at hp0
    skip
    have hc : convB [] = false := rfl
    repeat' (first | (with_reducible refine And.intro ?_ ?_) | (with_reducible intro h) | ((fail_if_success (with_reducible refine Leaf.mk ?_)); (fail_if_success (with_reducible refine VC.mk ?_)); (fail_if_success (with_reducible refine Goes.mk ?_)); (fail_if_success (with_reducible refine Again.mk ?_)); (fail_if_success (with_reducible refine Rounds.mk ?_)); (fail_if_success (with_reducible show False)); (fail_if_success (with_reducible show True)); conv => whnf))
    all_goals try simp only [Bool.not_eq_true', Bool.not_eq_false', Bool.and_eq_true, decide_eq_true_eq, decide_eq_false_iff_not, tkA, Nat.zero_add, Nat.reduceAdd, Int.toNat_natCast, tmN] at *
    all_goals try (simp only [hc, Bool.false_eq_true, Bool.true_eq_false] at *)
    all_goals try first | exact trivial | (show False; omega) | exact Leaf.mk trivial | exact Leaf.mk rfl | (refine VC.mk ?_; first | trivial | assumption | ((try simp only [InR] at *); omega) | (simp; done) | (simp; omega))
    all_goals (refine Leaf.mk ?_; rfl)
  | [], zl, [(false, xs)], zr =>
    clear zl zr
    have hp0 := hpre _ (List.Mem.head _); try dsimp only at hp0
    skip
    repeat' (first | (with_reducible refine And.intro ?_ ?_) | (with_reducible intro h) | ((fail_if_success (with_reducible refine Leaf.mk ?_)); (fail_if_success (with_reducible refine VC.mk ?_)); (fail_if_success (with_reducible refine Goes.mk ?_)); (fail_if_success (with_reducible refine Again.mk ?_)); (fail_if_success (with_reducible refine Rounds.mk ?_)); (fail_if_success (with_reducible show False)); (fail_if_success (with_reducible show True)); conv => whnf))
    all_goals try simp only [Bool.not_eq_true', Bool.not_eq_false', Bool.and_eq_true, decide_eq_true_eq, decide_eq_false_iff_not, tkA, Nat.zero_add, Nat.reduceAdd, Int.toNat_natCast, tmN] at *
    all_goals try (have hcv : convB xs = true := (by assumption); obtain ⟨c1, c2, c3, c4⟩ := convB_iff.1 hcv)
    all_goals try first | exact trivial | (show False; omega) | exact Leaf.mk trivial | exact Leaf.mk rfl | (refine VC.mk ?_; first | trivial | assumption | ((try simp only [InR] at *); omega) | (simp; done) | (simp; omega))
    all_goals (refine Leaf.mk ?_; symm; unfold areaX; first | rw [if_pos (by assumption)] | rw [if_neg (by simp_all)])
end Go.Proofs.YtohjifnkajhhnaaGreat
