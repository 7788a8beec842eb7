/- Plain facts on fixed-point numbers (saturate, rounded division, ratio, integer root). No program in sight. -/
import Derived.Below
namespace Go.Proofs.YtohjifnkajhhnaaGreat.Fx

def sat (x : Int) : Int := if 536870911 < x then 536870911 else if x < -536870911 then -536870911 else x
def add (a b : Int) : Int := sat (sat a + sat b)
def sub (a b : Int) : Int := sat (sat a - sat b)
/-- rounded division of a number that is not negative -/
def rdp (n d : Int) : Int := if d - n % d ≤ n % d then n / d + 1 else n / d
def rdr (n d : Int) : Int := if 0 ≤ n then rdp n d else -(rdp (-n) d)
def rd (n d : Int) : Int := if d < 1 ∨ 4611686018427387904 < d ∨ n < -4611686018427387904 ∨ 4611686018427387904 < n then 0 else rdr n d
def mul (a b : Int) : Int := sat (rd (sat a * sat b) 65536)
def sgn (n : Int) : Int := if n < 0 then -1 else if 0 < n then 1 else 0
def dvr (n d : Int) : Int := if d = 0 then sgn n * 536870911 else if d < 0 then sat (rd (-n) (-d)) else sat (rd n d)
def dv (a b : Int) : Int := dvr (sat a * 65536) (sat b)
def clamp (x lo hi : Int) : Int := if hi < lo ∨ x < lo then lo else if hi < x then hi else x
def lerp (a b t : Int) : Int := add a (mul (sub b a) t)
def ratio (n d : Int) : Int :=
  if d < 1 ∨ 4611686018427387904 < d ∨ n < 1 then 0 else if d ≤ n then 65536 else if d < 70368744177664 then rd (n * 65536) d else min (rd n (rd d 65536)) 65536

theorem sat_bd (x : Int) : -536870911 ≤ sat x ∧ sat x ≤ 536870911 := by unfold sat; split <;> (try split) <;> omega
theorem sat_lo (x : Int) : -536870911 ≤ sat x := (sat_bd x).1
theorem sat_hi (x : Int) : sat x ≤ 536870911 := (sat_bd x).2
theorem sat_id {x : Int} (h : -536870911 ≤ x) (h' : x ≤ 536870911) : sat x = x := by unfold sat; split <;> (try split) <;> omega
theorem sat_sat (x : Int) : sat (sat x) = sat x := sat_id (sat_lo x) (sat_hi x)
theorem sat_neg (x : Int) : sat (-x) = -sat x := by unfold sat; split <;> (try split) <;> (try split) <;> (try split) <;> omega
theorem sat_minmax (x : Int) : min (max x (-536870911)) 536870911 = sat x := by unfold sat; split <;> (try split) <;> omega

theorem mul_bd {x y A : Int} (hx : -A ≤ x) (hx' : x ≤ A) (hy : -A ≤ y) (hy' : y ≤ A) : -(A * A) ≤ x * y ∧ x * y ≤ A * A := by
  have h1 : 0 ≤ (A - x) * (A - y) := Int.mul_nonneg (by omega) (by omega)
  have h2 : 0 ≤ (A + x) * (A + y) := Int.mul_nonneg (by omega) (by omega)
  have h3 : 0 ≤ (A - x) * (A + y) := Int.mul_nonneg (by omega) (by omega)
  have h4 : 0 ≤ (A + x) * (A - y) := Int.mul_nonneg (by omega) (by omega)
  simp only [Int.sub_mul, Int.mul_sub, Int.add_mul, Int.mul_add] at h1 h2 h3 h4
  have e1 : x * A = A * x := Int.mul_comm _ _
  have e2 : y * A = A * y := Int.mul_comm _ _
  constructor <;> omega

theorem satmul_bd (a b : Int) : -288230375077969921 ≤ sat a * sat b ∧ sat a * sat b ≤ 288230375077969921 :=
  mul_bd (sat_lo a) (sat_hi a) (sat_lo b) (sat_hi b)
theorem satmul_lo (a b : Int) : -288230375077969921 ≤ sat a * sat b := (satmul_bd a b).1
theorem satmul_hi (a b : Int) : sat a * sat b ≤ 288230375077969921 := (satmul_bd a b).2

theorem sq_nonneg (x : Int) : 0 ≤ x * x := by
  rcases Int.le_total 0 x with h | h
  · exact Int.mul_nonneg h h
  · exact Int.mul_nonneg_of_nonpos_of_nonpos h h

/-- the rounded quotient: its error -/
theorem rdp_err {n d : Int} (hd : 1 ≤ d) : n - rdp n d * d ≤ d - 1 - (n - rdp n d * d) ∧ -(n - rdp n d * d) ≤ d + (n - rdp n d * d) := by
  have h1 := Int.emod_add_mul_ediv n d
  have h2 := Int.emod_nonneg n (show d ≠ 0 by omega)
  have h3 := Int.emod_lt_of_pos n (show 0 < d by omega)
  unfold rdp
  split
  · rw [Int.add_mul, Int.mul_comm (n / d) d]
    generalize d * (n / d) = z at *
    omega
  · rw [Int.mul_comm (n / d) d]
    generalize d * (n / d) = z at *
    omega

theorem rdp_nonneg {n d : Int} (hn : 0 ≤ n) (hd : 1 ≤ d) : 0 ≤ rdp n d := by
  have := Int.ediv_nonneg hn (show 0 ≤ d by omega)
  unfold rdp; split <;> omega

theorem rdp_le {n d : Int} (hn : 0 ≤ n) (hd : 1 ≤ d) : rdp n d ≤ n := by
  rcases Int.lt_or_le n 1 with h | h
  · have : n = 0 := by omega
    subst this
    unfold rdp
    simp
    omega
  · have h1 := Int.emod_add_mul_ediv n d
    have h2 := Int.emod_nonneg n (show d ≠ 0 by omega)
    have h3 := Int.emod_lt_of_pos n (show 0 < d by omega)
    have hq := Int.ediv_nonneg hn (show 0 ≤ d by omega)
    have h4 : n / d ≤ d * (n / d) := by
      have := Int.mul_le_mul_of_nonneg_right hd hq
      omega
    unfold rdp
    generalize d * (n / d) = z at *
    split <;> omega

theorem rdp_half {n d : Int} (hn : 0 ≤ n) (hd : 2 ≤ d) : 2 * rdp n d ≤ n + 1 := by
  have h1 := Int.emod_add_mul_ediv n d
  have h2 := Int.emod_nonneg n (show d ≠ 0 by omega)
  have h3 := Int.emod_lt_of_pos n (show 0 < d by omega)
  have hq := Int.ediv_nonneg hn (show 0 ≤ d by omega)
  have h4 : 2 * (n / d) ≤ d * (n / d) := Int.mul_le_mul_of_nonneg_right hd hq
  unfold rdp
  generalize d * (n / d) = z at *
  split <;> omega

theorem rdr_neg (n : Int) {d : Int} (hd : 1 ≤ d) : rdr (-n) d = -rdr n d := by
  unfold rdr
  rcases Int.lt_trichotomy n 0 with h | h | h
  · rw [if_pos (by omega), if_neg (by omega)]; omega
  · subst h
    simp [rdp]; omega
  · rw [if_neg (by omega), if_pos (by omega)]; simp


/-- facts for Div: the scaled number -/
theorem satone_bd (a : Int) : -35184372023296 ≤ sat a * 65536 ∧ sat a * 65536 ≤ 35184372023296 := by
  have := sat_bd a
  omega

theorem rd_neg (n : Int) (d : Int) : rd (-n) d = -rd n d := by
  unfold rd
  by_cases h : d < 1 ∨ 4611686018427387904 < d ∨ n < -4611686018427387904 ∨ 4611686018427387904 < n
  · rw [if_pos h, if_pos (by omega)]; rfl
  · rw [if_neg h, if_neg (by omega)]; exact rdr_neg n (by omega)

/-- the result of RoundDiv is at most the numerator, in absolute value -/
theorem rd_abs (n d : Int) : (0 ≤ n → 0 ≤ rd n d ∧ rd n d ≤ n) ∧ (n < 0 → n ≤ rd n d ∧ rd n d ≤ 0) := by
  by_cases h : d < 1 ∨ 4611686018427387904 < d ∨ n < -4611686018427387904 ∨ 4611686018427387904 < n
  · unfold rd
    rw [if_pos h]
    omega
  · unfold rd
    rw [if_neg h]
    unfold rdr
    by_cases hn : 0 ≤ n
    · rw [if_pos hn]
      have := rdp_nonneg (n := n) (d := d) (by omega) (by omega)
      have := rdp_le (n := n) (d := d) (by omega) (by omega)
      omega
    · rw [if_neg hn]
      have := rdp_nonneg (n := -n) (d := d) (by omega) (by omega)
      have := rdp_le (n := -n) (d := d) (by omega) (by omega)
      omega
theorem rd_bd {n B : Int} (d : Int) (h : -B ≤ n) (h' : n ≤ B) : -B ≤ rd n d ∧ rd n d ≤ B := by
  have := rd_abs n d
  omega
theorem rd_nonneg {n : Int} (d : Int) (h : 0 ≤ n) : 0 ≤ rd n d := ((rd_abs n d).1 h).1

/-! ### the integer square root -/
def sqN (n : Nat) : Nat → Nat
  | 0 => 0
  | k + 1 => if (k + 1) * (k + 1) ≤ n then k + 1 else sqN n k
def isq (n : Int) : Int := if n < 0 ∨ 4611686018427387904 < n then 0 else (sqN n.toNat n.toNat : Int)
theorem sqN_le (n k : Nat) : sqN n k * sqN n k ≤ n := by
  induction k with
  | zero => simp [sqN]
  | succ k ih =>
    unfold sqN
    split
    · assumption
    · exact ih
theorem sqN_max (n k r : Nat) (hr : r ≤ k) (h : r * r ≤ n) : r ≤ sqN n k := by
  induction k with
  | zero => simp [sqN]; omega
  | succ k ih =>
    unfold sqN
    split
    · exact hr
    · rename_i hn
      by_cases e : r = k + 1
      · subst e; exact absurd h hn
      · exact ih (by omega)
theorem mul_self_lt {a b : Nat} (h : a < b) : a * a < b * b := by
  have h1 : a * a ≤ a * b := Nat.mul_le_mul_left a (by omega)
  have h2 : a * b < b * b := Nat.mul_lt_mul_of_pos_right h (by omega)
  omega
theorem sqN_lt (n : Nat) : n < (sqN n n + 1) * (sqN n n + 1) := by
  rcases Nat.lt_or_ge n ((sqN n n + 1) * (sqN n n + 1)) with h | h
  · exact h
  · have h2 : sqN n n + 1 ≤ (sqN n n + 1) * (sqN n n + 1) := Nat.le_mul_of_pos_left _ (by omega)
    have := sqN_max n n (sqN n n + 1) (by omega) h
    omega
theorem sq_unique {n r s : Nat} (h1 : r * r ≤ n) (h2 : n < (r + 1) * (r + 1)) (h3 : s * s ≤ n) (h4 : n < (s + 1) * (s + 1)) : r = s := by
  rcases Nat.lt_trichotomy r s with h | h | h
  · have : (r + 1) * (r + 1) ≤ s * s := Nat.mul_le_mul (by omega) (by omega)
    omega
  · exact h
  · have : (s + 1) * (s + 1) ≤ r * r := Nat.mul_le_mul (by omega) (by omega)
    omega
theorem isq_of {n : Int} {r : Nat} (h0 : 0 ≤ n) (hn : n ≤ 4611686018427387904) (h1 : r * r ≤ n.toNat) (h2 : n.toNat < (r + 1) * (r + 1)) : isq n = (r : Int) := by
  unfold isq
  rw [if_neg (by omega)]
  exact congrArg Int.ofNat (sq_unique (sqN_le _ _) (sqN_lt _) h1 h2)
theorem isq_lit {n r : Int} (h0 : 0 ≤ n) (hn : n ≤ 4611686018427387904) (hr : 0 ≤ r) (h1 : r * r ≤ n) (h2 : n < (r + 1) * (r + 1)) : isq n = r := by
  obtain ⟨k, rfl⟩ := Int.eq_ofNat_of_zero_le hr
  obtain ⟨m, rfl⟩ := Int.eq_ofNat_of_zero_le h0
  exact isq_of h0 hn (by simp only [Int.toNat_natCast]; exact_mod_cast h1) (by simp only [Int.toNat_natCast]; exact_mod_cast h2)
theorem isq_nonneg (n : Int) : 0 ≤ isq n := by unfold isq; split <;> omega
theorem isq_sq {n : Int} (h0 : 0 ≤ n) : isq n * isq n ≤ n := by
  unfold isq
  split
  · omega
  · obtain ⟨m, rfl⟩ := Int.eq_ofNat_of_zero_le h0
    simp only [Int.toNat_natCast]
    exact_mod_cast sqN_le m m
theorem isq_lt {n : Int} (h0 : 0 ≤ n) (hn : n ≤ 4611686018427387904) : n < (isq n + 1) * (isq n + 1) := by
  unfold isq
  rw [if_neg (by omega)]
  obtain ⟨m, rfl⟩ := Int.eq_ofNat_of_zero_le h0
  simp only [Int.toNat_natCast]
  exact_mod_cast sqN_lt m
theorem sq_le_sq {a b : Int} (ha : 0 ≤ a) (hb : 0 ≤ b) (h : a * a ≤ b * b) : a ≤ b := by
  rcases Int.lt_or_le b a with hl | hl
  · have h1 : b * b ≤ b * a := Int.mul_le_mul_of_nonneg_left (by omega) hb
    have h2 : b * a < a * a := Int.mul_lt_mul_of_pos_right hl (by omega)
    omega
  · exact hl
theorem isq_le {n : Int} : isq n ≤ 2147483648 := by
  rcases Int.lt_or_le n 0 with h | h
  · unfold isq; rw [if_pos (by omega)]; omega
  · by_cases hn : n ≤ 4611686018427387904
    · exact sq_le_sq (isq_nonneg n) (by omega) (by have := isq_sq h; omega)
    · unfold isq; rw [if_pos (by omega)]; omega
def sqrt (x : Int) : Int := isq (sat x * 65536)

theorem sgn_lo (n : Int) : -1 ≤ sgn n := by unfold sgn; split <;> (try split) <;> omega
theorem sgn_hi (n : Int) : sgn n ≤ 1 := by unfold sgn; split <;> (try split) <;> omega
theorem sgn_clamp (n : Int) : sgn n = clamp n (-1) 1 := by
  unfold sgn clamp
  rcases Int.lt_trichotomy n 0 with h | h | h
  · rw [if_pos h]
    by_cases h1 : n < -1
    · rw [if_pos (by omega)]
    · rw [if_neg (by omega), if_neg (by omega)]; omega
  · rw [if_neg (by omega), if_neg (by omega), if_neg (by omega), if_neg (by omega)]; omega
  · rw [if_neg (by omega), if_pos h, if_neg (by omega)]
    by_cases h1 : 1 < n
    · rw [if_pos h1]
    · rw [if_neg h1]; omega
theorem clamp1_lo (n : Int) : -1 ≤ clamp n (-1) 1 := by rw [← sgn_clamp]; exact sgn_lo n
theorem clamp1_hi (n : Int) : clamp n (-1) 1 ≤ 1 := by rw [← sgn_clamp]; exact sgn_hi n

/-! ### the loop of Isqrt: bit by bit -/
def SqInv (n : Int) (k : Nat) (R B : Nat) : Prop := ∃ r, R = r * 2 ^ k ∧ B = 2 ^ k / 2 ∧ R * R ≤ n.toNat ∧ n.toNat < (R + 2 ^ k) * (R + 2 ^ k)
theorem sqInv_start {n : Int} (hn : n ≤ 4611686018427387904) : SqInv n 32 0 2147483648 :=
  ⟨0, by simp, by decide, by omega, by
    have : (0 + 2 ^ 32) * (0 + 2 ^ 32) = (18446744073709551616 : Nat) := by decide
    omega⟩
theorem sqInv_R {n : Int} {k R B : Nat} (h : SqInv n k R B) (hn : n ≤ 4611686018427387904) : R ≤ 2147483648 := by
  obtain ⟨r, _, _, h3, _⟩ := h
  rcases Nat.lt_or_ge 2147483648 R with hl | hl
  · have := Fx.mul_self_lt hl
    omega
  · exact hl
theorem sqInv_succ {n : Int} {j R B : Nat} (h : SqInv n (j + 1) R B) (hj : j + 1 ≤ 32) (hn : n ≤ 4611686018427387904) :
    B = 2 ^ j ∧ 1 ≤ B ∧ B ≤ 2147483648 ∧ R + B ≤ 3221225472 ∧ R ||| B = R + B := by
  have hR := sqInv_R h hn
  obtain ⟨r, h1, h2, h3, h4⟩ := h
  have hB : B = 2 ^ j := by rw [h2, Nat.pow_succ]; omega
  have hb1 : 1 ≤ 2 ^ j := Nat.one_le_two_pow
  have hb2 : 2 ^ j ≤ 2 ^ 31 := Nat.pow_le_pow_right (by omega) (by omega)
  refine ⟨hB, by omega, by omega, ?_, ?_⟩
  · rcases Nat.eq_or_lt_of_le hj with e | e
    · have e1 : j + 1 = 32 := e
      rw [e1] at h1
      have : r = 0 := by omega
      subst this
      omega
    · have hb3 : 2 ^ j ≤ 2 ^ 30 := Nat.pow_le_pow_right (by omega) (by omega)
      omega
  · subst hB
    rw [h1, Nat.pow_succ, Nat.mul_comm (2 ^ j) 2, ← Nat.mul_assoc]
    rw [Nat.mul_comm (r * 2) (2 ^ j)]
    have := Nat.two_pow_add_eq_or_of_lt (i := j + 1) (b := 2 ^ j) (by rw [Nat.pow_succ]; omega) r
    rw [Nat.pow_succ, Nat.mul_assoc, Nat.mul_comm 2 r] at this
    exact this.symm
theorem sqInv_yes {n : Int} {j R B : Nat} (h : SqInv n (j + 1) R B) (hB : B = 2 ^ j) (hy : (R + B) * (R + B) ≤ n.toNat) : SqInv n j (R + B) (B / 2) := by
  obtain ⟨r, h1, h2, h3, h4⟩ := h
  refine ⟨2 * r + 1, ?_, by rw [hB], hy, ?_⟩
  · rw [h1, hB, Nat.pow_succ, Nat.add_mul, Nat.one_mul, Nat.mul_comm (2 ^ j) 2, ← Nat.mul_assoc, Nat.mul_comm r 2]
  · have : R + B + 2 ^ j = R + 2 ^ (j + 1) := by rw [hB, Nat.pow_succ]; omega
    rw [this]; exact h4
theorem sqInv_no {n : Int} {j R B : Nat} (h : SqInv n (j + 1) R B) (hB : B = 2 ^ j) (hy : n.toNat < (R + B) * (R + B)) : SqInv n j R (B / 2) := by
  obtain ⟨r, h1, h2, h3, h4⟩ := h
  refine ⟨2 * r, ?_, by rw [hB], h3, by rw [← hB]; exact hy⟩
  rw [h1, Nat.pow_succ, Nat.mul_comm (2 ^ j) 2, ← Nat.mul_assoc, Nat.mul_comm r 2]
theorem sqInv_end {n : Int} {R B : Nat} (h : SqInv n 0 R B) (h0 : 0 ≤ n) (hn : n ≤ 4611686018427387904) : isq n = (R : Int) := by
  obtain ⟨r, h1, h2, h3, h4⟩ := h
  exact isq_of h0 hn h3 (by simpa using h4)
theorem sqInv_zero {n : Int} {R B : Nat} (h : SqInv n 0 R B) : B = 0 := by
  obtain ⟨r, h1, h2, h3, h4⟩ := h
  exact h2

theorem sqBd {R B : Nat} (h : R + B ≤ 3221225472) : 0 ≤ ((R : Int) + B) * (R + B) ∧ ((R : Int) + B) * (R + B) ≤ 10376293541461622784 := by
  have h1 := mul_bd (x := (R : Int) + B) (y := (R : Int) + B) (A := 3221225472) (by omega) (by omega) (by omega) (by omega)
  exact ⟨sq_nonneg _, by omega⟩
theorem le_div_iff {n : Int} {R B : Nat} (h : 0 ≤ n) (hp : 1 ≤ R + B) :
    ((R : Int) + B ≤ n / ((R : Int) + B) → (R + B) * (R + B) ≤ n.toNat) ∧ (n / ((R : Int) + B) < (R : Int) + B → n.toNat < (R + B) * (R + B)) := by
  have e : ((R : Int) + B) * (R + B) = (((R + B) * (R + B) : Nat) : Int) := by simp
  have hq := Int.le_ediv_iff_mul_le (a := (R : Int) + B) (b := n) (c := (R : Int) + B) (by omega)
  rw [e] at hq
  constructor
  · intro h1
    have := hq.1 h1
    omega
  · intro h1
    rcases Nat.lt_or_ge n.toNat ((R + B) * (R + B)) with h2 | h2
    · exact h2
    · have := hq.2 (by omega)
      omega

theorem sqrt_neg {x : Int} (h : sat x ≤ 0) : sqrt x = isq 0 := by
  unfold sqrt
  by_cases h0 : sat x = 0
  · rw [h0]; rfl
  · unfold isq
    rw [if_pos (by omega), if_neg (by omega)]
    rfl

/-! ### plain laws of chapter 1 -/
theorem rd_err {n d : Int} (h1 : 1 ≤ d) (h2 : d ≤ 4611686018427387904) (h3 : -4611686018427387904 ≤ n) (h4 : n ≤ 4611686018427387904) :
    2 * (n - rd n d * d) ≤ d ∧ -d ≤ 2 * (n - rd n d * d) := by
  unfold rd
  rw [if_neg (by omega)]
  unfold rdr
  by_cases hn : 0 ≤ n
  · rw [if_pos hn]
    have := rdp_err (n := n) h1
    omega
  · rw [if_neg hn]
    have := rdp_err (n := -n) h1
    rw [Int.neg_mul]
    omega
theorem rd_half {n d : Int} (h1 : 2 ≤ d) (h2 : d ≤ 4611686018427387904) (h3 : -4611686018427387904 ≤ n) (h4 : n ≤ 4611686018427387904) :
    2 * rd n d ≤ 4611686018427387904 ∧ -4611686018427387904 ≤ 2 * rd n d := by
  unfold rd
  rw [if_neg (by omega)]
  unfold rdr
  by_cases hn : 0 ≤ n
  · rw [if_pos hn]
    have := rdp_half (n := n) hn h1
    have := rdp_nonneg (n := n) (d := d) hn (by omega)
    omega
  · rw [if_neg hn]
    have := rdp_half (n := -n) (by omega) h1
    have := rdp_nonneg (n := -n) (d := d) (by omega) (by omega)
    omega
theorem rdp_exact {q d : Int} (hd : 1 ≤ d) : rdp (q * d) d = q := by
  unfold rdp
  rw [Int.mul_emod_left, Int.mul_ediv_cancel q (by omega), if_neg (by omega)]
theorem rd_exact {q d : Int} (h1 : 1 ≤ d) (h2 : d ≤ 4611686018427387904) (h3 : -4611686018427387904 ≤ q * d) (h4 : q * d ≤ 4611686018427387904) : rd (q * d) d = q := by
  unfold rd
  rw [if_neg (by omega)]
  unfold rdr
  split
  · exact rdp_exact h1
  · rw [← Int.neg_mul, rdp_exact h1]; omega
theorem rd_zero (d : Int) : rd 0 d = 0 := by
  have := rd_abs 0 d
  omega
theorem add_comm (a b : Int) : add a b = add b a := by unfold add; rw [Int.add_comm]
theorem mul_comm (a b : Int) : mul a b = mul b a := by unfold mul; rw [Int.mul_comm]
theorem sub_anti (a b : Int) : sub a b = -sub b a := by unfold sub; rw [← sat_neg]; congr 1; omega
theorem mul_one (a : Int) : mul a 65536 = sat a := by
  unfold mul
  rw [show sat 65536 = 65536 by decide]
  have := sat_bd a
  rw [rd_exact (by omega) (by omega) (by omega) (by omega), sat_sat]
theorem dv_one (a : Int) : dv a 65536 = sat a := by
  unfold dv dvr
  rw [show sat 65536 = 65536 by decide, if_neg (by omega), if_neg (by omega)]
  have := sat_bd a
  rw [rd_exact (by omega) (by omega) (by omega) (by omega), sat_sat]
theorem add_zero (a : Int) : add a 0 = sat a := by
  unfold add
  rw [show sat 0 = 0 by decide, Int.add_zero, sat_sat]
theorem mul_zero (a : Int) : mul a 0 = 0 := by
  unfold mul
  rw [show sat 0 = 0 by decide, Int.mul_zero, rd_zero]; decide
theorem lerp_zero (a b : Int) : lerp a b 0 = sat a := by unfold lerp; rw [mul_zero, add_zero]
theorem add_lo (a b : Int) : -536870911 ≤ add a b := sat_lo _
theorem add_hi (a b : Int) : add a b ≤ 536870911 := sat_hi _
theorem sub_lo (a b : Int) : -536870911 ≤ sub a b := sat_lo _
theorem sub_hi (a b : Int) : sub a b ≤ 536870911 := sat_hi _
theorem mul_lo (a b : Int) : -536870911 ≤ mul a b := sat_lo _
theorem mul_hi (a b : Int) : mul a b ≤ 536870911 := sat_hi _
theorem lerp_lo (a b t : Int) : -536870911 ≤ lerp a b t := sat_lo _
theorem lerp_hi (a b t : Int) : lerp a b t ≤ 536870911 := sat_hi _
theorem dv_bd (a b : Int) : -536870911 ≤ dv a b ∧ dv a b ≤ 536870911 := by
  unfold dv dvr
  split
  · have := sgn_lo (sat a * 65536)
    have := sgn_hi (sat a * 65536)
    omega
  · split <;> exact sat_bd _
theorem dv_lo (a b : Int) : -536870911 ≤ dv a b := (dv_bd a b).1
theorem dv_hi (a b : Int) : dv a b ≤ 536870911 := (dv_bd a b).2
theorem sat_lerp (a b t : Int) : sat (lerp a b t) = lerp a b t := sat_sat _
theorem sat_dv (a b : Int) : sat (dv a b) = dv a b := sat_id (dv_lo a b) (dv_hi a b)
theorem clamp_lo (x l h : Int) : l ≤ clamp x l h := by unfold clamp; split <;> (try split) <;> omega
theorem clamp_hi (x l h : Int) (hl : l ≤ h) : clamp x l h ≤ h := by unfold clamp; split <;> (try split) <;> omega

end Go.Proofs.YtohjifnkajhhnaaGreat.Fx
