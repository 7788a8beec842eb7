/- Plain laws on vectors (chapter 3). No program in sight. -/
import Derived.Test.YtohjifnkajhhnaaGreatVx
namespace Go.Proofs.YtohjifnkajhhnaaGreat.Vx
open Fx

theorem sign_neg (n : Int) : sign (-n) = -sign n := by
  unfold sign
  rcases Int.lt_trichotomy n 0 with h | h | h
  · rw [if_pos (by omega), if_neg (by omega), if_pos h]; rfl
  · subst h; rfl
  · rw [if_neg (by omega), if_pos (by omega), if_pos h]
theorem sign_bd (n : Int) : -1 ≤ sign n ∧ sign n ≤ 1 := by unfold sign; split <;> (try split) <;> omega
theorem orient_bd (a b c d e f : Int) : -1 ≤ orient a b c d e f ∧ orient a b c d e f ≤ 1 := sign_bd _
theorem orientN_ba (a b c d e f : Int) : orientN c d a b e f = -orientN a b c d e f := by
  unfold orientN
  generalize sat a = a; generalize sat b = b; generalize sat c = c; generalize sat d = d; generalize sat e = e; generalize sat f = f
  simp only [Int.mul_sub, Int.mul_comm]
  omega
theorem orientN_cb (a b c d e f : Int) : orientN a b e f c d = -orientN a b c d e f := by
  unfold orientN
  generalize sat a = a; generalize sat b = b; generalize sat c = c; generalize sat d = d; generalize sat e = e; generalize sat f = f
  simp only [Int.mul_sub, Int.mul_comm]
  omega
theorem orient_bac (a b c d e f : Int) : orient c d a b e f = -orient a b c d e f := by unfold orient; rw [orientN_ba, sign_neg]
theorem orient_acb (a b c d e f : Int) : orient a b e f c d = -orient a b c d e f := by unfold orient; rw [orientN_cb, sign_neg]
theorem orient_cba (a b c d e f : Int) : orient e f c d a b = -orient a b c d e f := by
  rw [orient_bac c d e f a b, orient_acb c d a b e f, orient_bac a b c d e f]; omega
theorem orient_bca (a b c d e f : Int) : orient c d e f a b = orient a b c d e f := by
  rw [orient_acb c d a b e f, orient_bac a b c d e f]; omega

theorem len_nonneg (a b : Int) : 0 ≤ len a b := isq_nonneg _
theorem len_arg (a b : Int) : 0 ≤ sat a * sat a + sat b * sat b ∧ sat a * sat a + sat b * sat b ≤ 576460750155939842 := by
  have h1 := sq_nonneg (sat a)
  have h2 := sq_nonneg (sat b)
  have h3 := satmul_bd a a
  have h4 := satmul_bd b b
  omega
theorem len_sq (a b : Int) : len a b * len a b ≤ sat a * sat a + sat b * sat b := isq_sq (len_arg a b).1
theorem len_lt (a b : Int) : sat a * sat a + sat b * sat b < (len a b + 1) * (len a b + 1) := isq_lt (len_arg a b).1 (by have := (len_arg a b).2; omega)
theorem len_le (a b : Int) : len a b ≤ 1073741823 := by
  have h := len_sq a b
  have h2 := len_arg a b
  exact sq_le_sq (len_nonneg a b) (by omega) (by omega)
theorem abs_sq (x : Int) : max x (-x) * max x (-x) = x * x := by
  rcases Int.le_total 0 x with h | h
  · rw [show max x (-x) = x by omega]
  · rw [show max x (-x) = -x by omega, Int.neg_mul_neg]
theorem abs_nonneg (x : Int) : 0 ≤ max x (-x) := by omega
theorem len_abs (a b : Int) : len a b ≤ max (sat a) (-sat a) + max (sat b) (-sat b) := by
  have h := len_sq a b
  have h1 := abs_nonneg (sat a)
  have h2 := abs_nonneg (sat b)
  refine sq_le_sq (len_nonneg a b) (by omega) ?_
  rw [Int.add_mul, Int.mul_add, Int.mul_add, abs_sq, abs_sq]
  have h3 := Int.mul_nonneg h1 h2
  have h4 := Int.mul_nonneg h2 h1
  omega

theorem rdp_pos {n d : Int} (hn : 0 ≤ n) (hd : 1 ≤ d) (h : d ≤ 2 * n) : 1 ≤ rdp n d := by
  have := rdp_nonneg hn hd
  rcases Int.lt_or_le (rdp n d) 1 with h1 | h1
  · have h0 : rdp n d = 0 := by omega
    have h2 := rdp_err (n := n) hd
    rw [h0, Int.zero_mul] at h2
    omega
  · exact h1
theorem sat_zero {x : Int} (h : sat x = 0) : x = 0 := by unfold sat at h; split at h <;> (try split at h) <;> omega
theorem dv_ne {x l : Int} (hl : 1 ≤ l) (h : l ≤ 2 * max (sat x) (-sat x)) : dv x l ≠ 0 := by
  have hs : sat l ≤ l ∧ 1 ≤ sat l := by unfold sat; split <;> (try split) <;> omega
  have hx := sat_bd x
  have hb := sat_bd l
  unfold dv dvr
  rw [if_neg (by omega), if_neg (by omega)]
  intro hz
  have hz := sat_zero hz
  unfold rd at hz
  rw [if_neg (by omega)] at hz
  unfold rdr at hz
  by_cases h0 : 0 ≤ sat x * 65536
  · rw [if_pos h0] at hz
    have := rdp_pos (n := sat x * 65536) (d := sat l) h0 (by omega) (by omega)
    omega
  · rw [if_neg h0] at hz
    have := rdp_pos (n := -(sat x * 65536)) (d := sat l) (by omega) (by omega) (by omega)
    omega
theorem half_of {l x y : Int} (hl : 0 ≤ l) (h : l * l ≤ x * x + y * y) (hxy : y * y ≤ x * x) : l ≤ 2 * max x (-x) := by
  have h1 := abs_nonneg x
  refine sq_le_sq hl (by omega) ?_
  have e : 2 * max x (-x) * (2 * max x (-x)) = 4 * (x * x) := by
    have := abs_sq x
    generalize max x (-x) = m at *
    rw [← this, Int.mul_assoc, Int.mul_left_comm m 2 m]
    generalize m * m = z
    omega
  have := sq_nonneg x
  omega
theorem norm_ne {a b : Int} (h : len a b ≠ 0) : ¬ (norm a b a = 0 ∧ norm a b b = 0) := by
  have h0 := len_nonneg a b
  have h1 := len_sq a b
  unfold norm
  rw [if_neg h, if_neg h]
  rcases Int.le_total (sat b * sat b) (sat a * sat a) with hab | hab
  · exact fun hh => dv_ne (by omega) (half_of h0 h1 hab) hh.1
  · exact fun hh => dv_ne (by omega) (half_of h0 (by omega) hab) hh.2

theorem sat_nsat (x : Int) : sat (-sat x) = -sat x := by rw [sat_neg, sat_sat]
theorem dot_perp (a b : Int) : dot a b (-sat b) (sat a) = 0 := by
  unfold dot
  rw [sat_nsat, sat_sat, Int.mul_neg, Int.mul_comm (sat b), Int.add_left_neg, rd_zero]
  decide
theorem cross_self (a b : Int) : cross a b a b = 0 := by
  unfold cross
  rw [Int.mul_comm (sat b), Int.sub_self, rd_zero]
  decide
theorem cross_dot (a b c d : Int) : dot (-sat b) (sat a) c d = cross a b c d := by
  unfold dot cross
  rw [sat_nsat, sat_sat, Int.neg_mul, Int.add_comm]
  rfl
theorem cross_anti (a b c d : Int) : cross c d a b = -cross a b c d := by
  unfold cross
  rw [← sat_neg, ← rd_neg]
  congr 2
  rw [Int.mul_comm (sat c), Int.mul_comm (sat d)]
  omega
theorem dot_comm (a b c d : Int) : dot c d a b = dot a b c d := by
  unfold dot
  rw [Int.mul_comm (sat c), Int.mul_comm (sat d)]
theorem dist2_comm (a b c d : Int) : dist2 c d a b = dist2 a b c d := by
  unfold dist2
  have e : ∀ x y : Int, (x - y) * (x - y) = (y - x) * (y - x) := fun x y => by
    rw [← Int.neg_mul_neg, Int.neg_sub]
  rw [e (sat a) (sat c), e (sat b) (sat d)]
theorem cross_bd (a b c d : Int) : -536870911 ≤ cross a b c d ∧ cross a b c d ≤ 536870911 := sat_bd _
theorem dot_bd (a b c d : Int) : -536870911 ≤ dot a b c d ∧ dot a b c d ≤ 536870911 := sat_bd _
end Go.Proofs.YtohjifnkajhhnaaGreat.Vx
