/- End points and the distance of segments: rounding costs at most 4. Plain. -/
import Derived.Test.YtdoagjphjnbbnaaS3
namespace Go.Proofs.Ytdoagjphjnbbnaa
open Go.RowKit Fx Vx Bx Ev
set_option linter.unusedVariables false
set_option linter.unusedSimpArgs false

theorem rt2 {w q : Int} (hw : 0 ≤ w) (hq : 0 ≤ q) (h : w * w ≤ 2 * (q * q)) : 10000 * w ≤ 14143 * q := by
  rcases Int.lt_or_le (14143 * q) (10000 * w) with k | k
  · exfalso
    have m := Int.mul_le_mul (a := 14143 * q + 1) (b := 14143 * q + 1) (c := 10000 * w) (d := 10000 * w) (by omega) (by omega) (by omega) (by omega)
    have e1 : (14143 * q + 1) * (14143 * q + 1) = 200024449 * (q * q) + 28286 * q + 1 := by grind
    have e2 : (10000 * w) * (10000 * w) = 100000000 * (w * w) := by grind
    have := sq_nonneg q
    omega
  · exact k
theorem abs_ex (x : Int) : ∃ y, 0 ≤ y ∧ y * y = x * x ∧ -y ≤ x ∧ x ≤ y := by
  rcases Int.le_total 0 x with h | h
  · exact ⟨x, h, rfl, by omega, by omega⟩
  · exact ⟨-x, by omega, by rw [Int.neg_mul_neg], by omega, by omega⟩
theorem sq_le_of {x y : Int} (h1 : -y ≤ x) (h2 : x ≤ y) : x * x ≤ y * y := by
  have a := Int.mul_nonneg (show 0 ≤ y - x by omega) (show 0 ≤ y + x by omega)
  have e : (y - x) * (y + x) = y * y - x * x := by grind
  omega
theorem two_sq (x y : Int) : (x + y) * (x + y) ≤ 2 * (x * x + y * y) := by
  have := sq_nonneg (x - y)
  have e : (x - y) * (x - y) = 2 * (x * x + y * y) - (x + y) * (x + y) := by grind
  omega
theorem end_near {dx dy sx sy rx ry zx zy u : Int} (hu : 0 ≤ u) (hS : sx * sx + sy * sy < (u + 1) * (u + 1)) (hx : ∀ y, -y ≤ sx → sx ≤ y → -(y + 1) ≤ dx ∧ dx ≤ y + 1) (hy : ∀ y, -y ≤ sy → sy ≤ y → -(y + 1) ≤ dy ∧ dy ≤ y + 1)
    (hR : rx * rx + ry * ry ≤ 4294967296 * (dx * dx + dy * dy + 1)) (ex : -98304 ≤ 65536 * zx - rx ∧ 65536 * zx - rx ≤ 98304) (ey : -98304 ≤ 65536 * zy - ry ∧ 65536 * zy - ry ≤ 98304) : zx * zx + zy * zy < (u + 5) * (u + 5) := by
  obtain ⟨ax, ax0, ax1, ax2, ax3⟩ := abs_ex sx
  obtain ⟨ay, ay0, ay1, ay2, ay3⟩ := abs_ex sy
  obtain ⟨bx, bx0, bx1, bx2, bx3⟩ := abs_ex rx
  obtain ⟨b2, by0, by1, by2, by3⟩ := abs_ex ry
  have q0 : (u + 1) * (u + 1) = u * u + 2 * u + 1 := by grind
  have q5 : (u + 5) * (u + 5) = u * u + 10 * u + 25 := by grind
  have w1 := rt2 (w := ax + ay) (q := u + 1) (by omega) (by omega) (by have := two_sq ax ay; omega)
  have d1 := sq_le_of (hx ax ax2 ax3).1 (hx ax ax2 ax3).2
  have d2 := sq_le_of (hy ay ay2 ay3).1 (hy ay ay2 ay3).2
  have d3 : (ax + 1) * (ax + 1) = ax * ax + 2 * ax + 1 := by grind
  have d4 : (ay + 1) * (ay + 1) = ay * ay + 2 * ay + 1 := by grind
  -- ten thousand times the square of the distance to the end
  have k1 : 10000 * (dx * dx + dy * dy + 1) ≤ (100 * u + 262) * (100 * u + 262) := by
    have : (100 * u + 262) * (100 * u + 262) = 10000 * (u * u) + 52400 * u + 68644 := by grind
    omega
  have hN : (65536 * (100 * u + 262)) * (65536 * (100 * u + 262)) = 4294967296 * ((100 * u + 262) * (100 * u + 262)) := by grind
  have w2 := rt2 (w := 100 * (bx + b2)) (q := 65536 * (100 * u + 262)) (by omega) (by omega) (by
    have t := two_sq bx b2
    have e : 100 * (bx + b2) * (100 * (bx + b2)) = 10000 * ((bx + b2) * (bx + b2)) := by grind
    omega)
  have z1 := sq_le_of (x := 65536 * zx) (y := bx + 98304) (by omega) (by omega)
  have z2 := sq_le_of (x := 65536 * zy) (y := b2 + 98304) (by omega) (by omega)
  have z3 : (65536 * zx) * (65536 * zx) = 4294967296 * (zx * zx) := by grind
  have z4 : (65536 * zy) * (65536 * zy) = 4294967296 * (zy * zy) := by grind
  have z5 : (bx + 98304) * (bx + 98304) = bx * bx + 196608 * bx + 9663676416 := by grind
  have z6 : (b2 + 98304) * (b2 + 98304) = b2 * b2 + 196608 * b2 + 9663676416 := by grind
  have hM : (100 * u + 262) * (100 * u + 262) = 10000 * (u * u) + 52400 * u + 68644 := by grind
  omega
theorem ratio_ends {n l : Int} (h0 : 0 ≤ l) (hl : l ≤ 1152921504606846976) (hn : -1152921504606846976 ≤ n ∧ n ≤ 1152921504606846976) (hz : l = 0 → n = 0) :
    -4294967296 ≤ ratio n l * (131072 * n - l * ratio n l) ∧ -4294967296 ≤ (65536 - ratio n l) * (l * (65536 + ratio n l) - 131072 * n) := by
  have hb := ratio_bd n l
  have prod : ∀ {a b : Int}, 0 ≤ a → 0 ≤ b → -4294967296 ≤ a * b := fun {a b} ha hb => by have := Int.mul_nonneg ha hb; omega
  by_cases c1 : l < 1 ∨ 4611686018427387904 < l ∨ n < 1
  · have e : ratio n l = 0 := by unfold ratio; rw [if_pos c1]
    rw [e]
    refine ⟨by omega, prod (by omega) ?_⟩
    have : n ≤ 0 := by
      by_cases hl0 : l = 0
      · have := hz hl0; omega
      · omega
    omega
  by_cases c2 : l ≤ n
  · have e : ratio n l = 65536 := by unfold ratio; rw [if_neg c1, if_pos c2]
    rw [e]
    exact ⟨prod (by omega) (by omega), by omega⟩
  by_cases c3 : l < 70368744177664
  · have e : ratio n l = rd (n * 65536) l := by unfold ratio; rw [if_neg c1, if_neg c2, if_pos c3]
    obtain ⟨r1, r2⟩ := rd_err (n := n * 65536) (d := l) (by omega) (by omega) (by omega) (by omega)
    rw [← e] at r1 r2
    generalize ratio n l = t at *
    rw [Int.mul_comm l t]
    constructor
    · rcases (show t = 0 ∨ 1 ≤ t by omega) with ht | ht
      · subst ht; omega
      · have := Int.mul_le_mul_of_nonneg_right ht h0
        exact prod (by omega) (by omega)
    · rcases (show t = 65536 ∨ t ≤ 65535 by omega) with ht | ht
      · subst ht; omega
      · have := Int.mul_le_mul_of_nonneg_right ht h0
        have e2 : l * (65536 + t) = 65536 * l + t * l := by grind
        exact prod (by omega) (by omega)
  · obtain ⟨D, hD⟩ : ∃ D, D = rd l 65536 := ⟨_, rfl⟩
    obtain ⟨r, hr⟩ : ∃ r, r = rd n D := ⟨_, rfl⟩
    have e : ratio n l = min r 65536 := by unfold ratio; rw [if_neg c1, if_neg c2, if_neg c3, ← hD, ← hr]
    obtain ⟨d1, d2⟩ := rd_err (n := l) (d := 65536) (by omega) (by omega) (by omega) (by omega)
    rw [← hD] at d1 d2
    obtain ⟨r1, r2⟩ := rd_err (n := n) (d := D) (by omega) (by omega) (by omega) (by omega)
    rw [← hr] at r1 r2
    generalize ht' : ratio n l = t at *
    have tr : t ≤ r := by omega
    constructor
    · rcases (show t = 0 ∨ t = 1 ∨ 2 ≤ t by omega) with ht | ht | ht
      · subst ht; omega
      · subst ht
        have m := Int.mul_le_mul_of_nonneg_right tr (show 0 ≤ D by omega)
        omega
      · have m := Int.mul_le_mul_of_nonneg_right tr (show 0 ≤ D by omega)
        -- 2 n ≥ (2 t - 1) D, 65536 D ≥ l - 32768
        have m2 := Int.mul_le_mul_of_nonneg_left (show l - 32768 ≤ 65536 * D by omega) (show 0 ≤ 2 * t - 1 by omega)
        have e1 : (2 * t - 1) * (l - 32768) = 2 * (l * t) - l - 65536 * t + 32768 := by grind
        have e2 : (2 * t - 1) * (65536 * D) = 131072 * (t * D) - 65536 * D := by grind
        have m3 := Int.mul_le_mul_of_nonneg_right (show 1 ≤ t - 1 by omega) h0
        have e3 : (t - 1) * l = l * t - l := by grind
        exact prod (by omega) (by omega)
    · rcases (show t = 65536 ∨ t ≤ 65535 by omega) with ht | ht
      · subst ht; omega
      · have hrt : r = t := by omega
        subst hrt
        have m2 := Int.mul_le_mul_of_nonneg_left (show 65536 * D ≤ l + 32768 by omega) (show 0 ≤ 2 * r + 1 by omega)
        have e1 : (2 * r + 1) * (l + 32768) = 2 * (l * r) + l + 65536 * r + 32768 := by grind
        have e2 : (2 * r + 1) * (65536 * D) = 131072 * (r * D) + 65536 * D := by grind
        have e4 : l * (65536 + r) = 65536 * l + l * r := by grind
        rcases (show r = 65535 ∨ r ≤ 65534 by omega) with hr5 | hr5
        · subst hr5
          omega
        · have m3 := Int.mul_le_mul_of_nonneg_right (show 1 ≤ 65535 - r by omega) h0
          have e3 : (65535 - r) * l = 65535 * l - l * r := by grind
          exact prod (by omega) (by omega)
theorem cpX_err {a c t : Int} (ha : -268435456 ≤ a ∧ a ≤ 268435456) (hc : -268435456 ≤ c ∧ c ≤ 268435456) (ht : 0 ≤ t ∧ t ≤ 65536) : -98304 ≤ 65536 * (cpX t a c - a) - t * (c - a) ∧ 65536 * (cpX t a c - a) - t * (c - a) ≤ 98304 := by
  have sa : sat a = a := sat_id (by omega) (by omega)
  have sc : sat c = c := sat_id (by omega) (by omega)
  unfold cpX
  split
  · rename_i h; subst h; rw [sa]; omega
  split
  · rename_i h; subst h; rw [sc]; omega
  · have st : sat t = t := sat_id (by omega) (by omega)
    unfold lerp add
    obtain ⟨s, hs⟩ : ∃ s, s = sub c a := ⟨_, rfl⟩
    have hs' : s = sat (c - a) := by rw [hs]; unfold sub; rw [sa, sc]
    have sb := sat_bd (c - a)
    rw [← hs'] at sb
    have sd : (0 ≤ c - a → 0 ≤ s ∧ s ≤ c - a ∧ c - a ≤ s + 1) ∧ (c - a ≤ 0 → s ≤ 0 ∧ c - a ≤ s ∧ s ≤ c - a + 1) := by
      rw [hs']; unfold sat; constructor <;> intro h <;> split <;> (try split) <;> omega
    rw [← hs]
    unfold mul
    rw [sat_id (x := s) (by omega) (by omega), st]
    have p1 : (0 ≤ s → 0 ≤ s * t ∧ s * t ≤ s * 65535) ∧ (s ≤ 0 → s * t ≤ 0 ∧ s * 65535 ≤ s * t) := by
      constructor
      · intro h
        exact ⟨Int.mul_nonneg h ht.1, Int.mul_le_mul_of_nonneg_left (by omega) h⟩
      · intro h
        have a1 := Int.mul_nonneg (show 0 ≤ -s by omega) ht.1
        have a2 := Int.mul_le_mul_of_nonneg_left (show t ≤ 65535 by omega) (show 0 ≤ -s by omega)
        rw [Int.neg_mul] at a1 a2
        omega
    obtain ⟨r1, r2⟩ := rd_err (n := s * t) (d := 65536) (by omega) (by omega) (by omega) (by omega)
    generalize rd (s * t) 65536 = r at *
    have rb : (0 ≤ s → 0 ≤ r ∧ r ≤ s) ∧ (s ≤ 0 → r ≤ 0 ∧ s ≤ r) := by
      constructor <;> intro h <;> omega
    rw [sat_id (x := r) (by omega) (by omega), sat_id (x := r) (by omega) (by omega), sa, sat_id (x := a + r) (by omega) (by omega)]
    -- t (c - a) is near t s
    have q : (0 ≤ c - a → 0 ≤ t * (c - a) - s * t ∧ t * (c - a) - s * t ≤ t) ∧ (c - a ≤ 0 → -t ≤ t * (c - a) - s * t ∧ t * (c - a) - s * t ≤ 0) := by
      have e : t * (c - a) - s * t = t * (c - a - s) := by grind
      rw [e]
      constructor
      · intro h
        have := sd.1 h
        exact ⟨Int.mul_nonneg ht.1 (by omega), by have := Int.mul_le_mul_of_nonneg_left (show c - a - s ≤ 1 by omega) ht.1; omega⟩
      · intro h
        have := sd.2 h
        have a1 := Int.mul_nonneg ht.1 (show 0 ≤ -(c - a - s) by omega)
        have a2 := Int.mul_le_mul_of_nonneg_left (show -(c - a - s) ≤ 1 by omega) ht.1
        rw [Int.mul_neg] at a1 a2
        omega
    omega
theorem sat_near {d : Int} (h : -536870912 ≤ d ∧ d ≤ 536870912) : ∀ y, -y ≤ sat d → sat d ≤ y → -(y + 1) ≤ d ∧ d ≤ y + 1 := fun y h1 h2 => by
  unfold sat at h1 h2
  split at h1 <;> split at h2 <;> (try split at h1) <;> (try split at h2) <;> omega
/-- The point of cd nearest to p, and the ends c and d. -/
theorem near_ends {a b e f g h : Int} (ha : -268435456 ≤ a ∧ a ≤ 268435456) (hb : -268435456 ≤ b ∧ b ≤ 268435456) (he : -268435456 ≤ e ∧ e ≤ 268435456) (hf : -268435456 ≤ f ∧ f ≤ 268435456) (hg : -268435456 ≤ g ∧ g ≤ 268435456) (hh : -268435456 ≤ h ∧ h ≤ 268435456) :
    d2 (candA a b e f g h) < (len (sub e a) (sub f b) + 5) * (len (sub e a) (sub f b) + 5) ∧ d2 (candA a b e f g h) < (len (sub g a) (sub h b) + 5) * (len (sub g a) (sub h b) + 5) := by
  have i : ∀ {x : Int}, -268435456 ≤ x ∧ x ≤ 268435456 → sat x = x := fun hx => sat_id (by omega) (by omega)
  have hsub : ∀ {x y : Int}, -268435456 ≤ x ∧ x ≤ 268435456 → -268435456 ≤ y ∧ y ≤ 268435456 → sub x y = sat (x - y) := fun hx hy => by unfold sub; rw [i hx, i hy]
  have tb := cpT_bd e f g h a b
  have eX := cpX_err he hg tb
  have eY := cpX_err hf hh tb
  have bX := cpX_between e g tb.1 tb.2
  have bY := cpX_between f h tb.1 tb.2
  rw [i he, i hg] at bX
  rw [i hf, i hh] at bY
  have hD : d2 (candA a b e f g h) = (cpX (cpT e f g h a b) e g - a) * (cpX (cpT e f g h a b) e g - a) + (cpX (cpT e f g h a b) f h - b) * (cpX (cpT e f g h a b) f h - b) := by
    show dist2 (sat a) (sat b) (cpX (cpT e f g h a b) e g) (cpX (cpT e f g h a b) f h) = _
    unfold dist2
    rw [sat_sat, sat_sat, i ha, i hb, i (x := cpX (cpT e f g h a b) e g) (by omega), i (x := cpX (cpT e f g h a b) f h) (by omega)]
  have hT : cpT e f g h a b = ratio ((a - e) * (g - e) + (b - f) * (h - f)) ((g - e) * (g - e) + (h - f) * (h - f)) := by
    unfold cpT cpN dist2
    rw [i ha, i hb, i he, i hf, i hg, i hh]
  have m1 := mul_bd (x := g - e) (y := g - e) (A := 536870912) (by omega) (by omega) (by omega) (by omega)
  have m2 := mul_bd (x := h - f) (y := h - f) (A := 536870912) (by omega) (by omega) (by omega) (by omega)
  have m3 := mul_bd (x := a - e) (y := g - e) (A := 536870912) (by omega) (by omega) (by omega) (by omega)
  have m4 := mul_bd (x := b - f) (y := h - f) (A := 536870912) (by omega) (by omega) (by omega) (by omega)
  have s1 := sq_nonneg (g - e)
  have s2 := sq_nonneg (h - f)
  have re := ratio_ends (n := (a - e) * (g - e) + (b - f) * (h - f)) (l := (g - e) * (g - e) + (h - f) * (h - f)) (by omega) (by omega) (by omega) (fun hz => by
    have z1 : (g - e) * (g - e) = 0 := by omega
    have z2 : (h - f) * (h - f) = 0 := by omega
    have z3 : g - e = 0 := by rcases Int.mul_eq_zero.1 z1 with k | k <;> exact k
    have z4 : h - f = 0 := by rcases Int.mul_eq_zero.1 z2 with k | k <;> exact k
    rw [z3, z4]; omega)
  rw [← hT] at re
  rw [hD]
  generalize cpT e f g h a b = t at *
  generalize cpX t e g = X at *
  generalize cpX t f h = Y at *
  have lenI : ∀ {x y : Int}, 0 ≤ len (sat x) (sat y) ∧ sat x * sat x + sat y * sat y < (len (sat x) (sat y) + 1) * (len (sat x) (sat y) + 1) := fun {x y} => by
    unfold len
    rw [sat_sat, sat_sat]
    have b1 := satmul_bd x x
    have b2 := satmul_bd y y
    have n1 := sq_nonneg (sat x)
    have n2 := sq_nonneg (sat y)
    exact ⟨isq_nonneg _, isq_lt (by omega) (by omega)⟩
  rw [hsub he ha, hsub hf hb, hsub hg ha, hsub hh hb]
  constructor
  · refine end_near (dx := e - a) (dy := f - b) (rx := -(65536 * (a - e) - t * (g - e))) (ry := -(65536 * (b - f) - t * (h - f))) lenI.1 lenI.2 (sat_near (by omega)) (sat_near (by omega)) ?_ (by omega) (by omega)
    have k : (-(65536 * (a - e) - t * (g - e))) * (-(65536 * (a - e) - t * (g - e))) + (-(65536 * (b - f) - t * (h - f))) * (-(65536 * (b - f) - t * (h - f))) = 4294967296 * ((e - a) * (e - a) + (f - b) * (f - b)) - t * (131072 * ((a - e) * (g - e) + (b - f) * (h - f)) - ((g - e) * (g - e) + (h - f) * (h - f)) * t) := by grind
    omega
  · refine end_near (dx := g - a) (dy := h - b) (rx := -(65536 * (a - e) - t * (g - e))) (ry := -(65536 * (b - f) - t * (h - f))) lenI.1 lenI.2 (sat_near (by omega)) (sat_near (by omega)) ?_ (by omega) (by omega)
    have k : (-(65536 * (a - e) - t * (g - e))) * (-(65536 * (a - e) - t * (g - e))) + (-(65536 * (b - f) - t * (h - f))) * (-(65536 * (b - f) - t * (h - f))) = 4294967296 * ((g - a) * (g - a) + (h - b) * (h - b)) - (65536 - t) * (((g - e) * (g - e) + (h - f) * (h - f)) * (65536 + t) - 131072 * ((a - e) * (g - e) + (b - f) * (h - f))) := by grind
    omega
theorem nearer_le (p q : List Int) : d2 (nearer p q) ≤ d2 p ∧ d2 (nearer p q) ≤ d2 q := by unfold nearer; split <;> omega
theorem d2_nn (l : List Int) : 0 ≤ d2 l ∧ d2 l ≤ 2305843000623759368 := by
  have a := sqd_bd (l.getD 0 0) (l.getD 2 0)
  have b := sqd_bd (l.getD 1 0) (l.getD 3 0)
  unfold d2 dist2
  omega
theorem isq_below {n u : Int} (h0 : 0 ≤ n) (hu : 0 ≤ u) (h : n < (u + 5) * (u + 5)) : isq n - 4 ≤ u := by
  have := isq_sq h0
  have nn := isq_nonneg n
  rcases Int.lt_or_le (u + 4) (isq n) with k | k
  · have := Int.mul_le_mul (a := u + 5) (b := u + 5) (c := isq n) (d := isq n) (by omega) (by omega) (by omega) (by omega)
    omega
  · omega
def inW (x y : Int) : Prop := (-268435456 ≤ x ∧ x ≤ 268435456) ∧ -268435456 ≤ y ∧ y ≤ 268435456
theorem len_nn (a b : Int) : 0 ≤ len a b := isq_nonneg _
/-- THE END POINTS of two segments are not much nearer than the segments. -/
theorem end_points {a b c d e f g h : Int} (hA : inW a b) (hB : inW c d) (hC : inW e f) (hD : inW g h) :
    (sdist a b c d e f g h - 4 ≤ len (sub e a) (sub f b) ∧ sdist a b c d e f g h - 4 ≤ len (sub g a) (sub h b)) ∧ sdist a b c d e f g h - 4 ≤ len (sub e c) (sub f d) ∧ sdist a b c d e f g h - 4 ≤ len (sub g c) (sub h d) := by
  have l1 := len_nn (sub e a) (sub f b)
  have l2 := len_nn (sub g a) (sub h b)
  have l3 := len_nn (sub e c) (sub f d)
  have l4 := len_nn (sub g c) (sub h d)
  unfold sdist
  split
  · omega
  · rename_i hn
    have hc : clos a b c d e f g h = nearer (nearer (nearer (candA a b e f g h) (candA c d e f g h)) (candC a b c d e f)) (candC a b c d g h) := by
      unfold clos; rw [if_neg hn]
    rw [hc]
    have n1 := nearer_le (candA a b e f g h) (candA c d e f g h)
    have n2 := nearer_le (nearer (candA a b e f g h) (candA c d e f g h)) (candC a b c d e f)
    have n3 := nearer_le (nearer (nearer (candA a b e f g h) (candA c d e f g h)) (candC a b c d e f)) (candC a b c d g h)
    have nn := d2_nn (nearer (nearer (nearer (candA a b e f g h) (candA c d e f g h)) (candC a b c d e f)) (candC a b c d g h))
    have p1 := near_ends hA.1 hA.2 hC.1 hC.2 hD.1 hD.2
    have p2 := near_ends hB.1 hB.2 hC.1 hC.2 hD.1 hD.2
    generalize nearer (nearer (nearer (candA a b e f g h) (candA c d e f g h)) (candC a b c d e f)) (candC a b c d g h) = z at *
    have hs : sat (isq (d2 z)) ≤ isq (d2 z) := by
      have := isq_nonneg (d2 z)
      unfold sat; split <;> (try split) <;> omega
    have q1 := isq_below nn.1 l1 (by omega)
    have q2 := isq_below nn.1 l2 (by omega)
    have q3 := isq_below nn.1 l3 (by omega)
    have q4 := isq_below nn.1 l4 (by omega)
    omega
end Go.Proofs.Ytdoagjphjnbbnaa
