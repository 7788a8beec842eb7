/- Polygons with a separation above 128 have no common point. Plain. -/
import Derived.Test.YtdoagjphjnbbnaaGc
namespace Go.Proofs.Ytdoagjphjnbbnaa
open Go.RowKit Fx Vx Bx Ev
set_option linter.unusedVariables false
set_option linter.unusedSimpArgs false


theorem at_bd {xs : List (List Int)} {n i : Nat} (h : AllR xs n) (hi : i < n) : (-1048576 ≤ at2 xs i 0 ∧ at2 xs i 0 ≤ 1048576) ∧ (-1048576 ≤ at2 xs i 1 ∧ at2 xs i 1 ≤ 1048576) := h i hi
theorem sub_sm {a b : Int} (ha : -1048576 ≤ a ∧ a ≤ 1048576) (hb : -1048576 ≤ b ∧ b ≤ 1048576) : sub a b = a - b := by
  unfold sub; rw [sat_id (x := a) (by omega) (by omega), sat_id (x := b) (by omega) (by omega), sat_id (x := a - b) (by omega) (by omega)]
theorem sepN_le (p q u v : Int) (ys : List (List Int)) : ∀ k j, j < k → sepN p q u v ys k ≤ sepD p q u v ys j
  | k + 1, j, h => by
    unfold sepN
    by_cases e : j = k
    · subst e; split <;> omega
    · have := sepN_le p q u v ys k j (by omega)
      split <;> omega
theorem max_at {f : Nat → Int} : ∀ {n}, 0 < n → ∃ b, b < n ∧ (maxN f n).2 = f b
  | 1, _ => ⟨0, by omega, by rw [maxN_one]⟩
  | n + 2, _ => by
    obtain ⟨b, h1, h2⟩ := max_at (f := f) (n := n + 1) (by omega)
    by_cases h : (maxN f (n + 1)).1 < 0 ∨ (maxN f (n + 1)).2 < f (n + 1)
    · exact ⟨n + 1, by omega, by rw [maxN_yes h]⟩
    · exact ⟨b, by omega, by rw [maxN_no h, h2]⟩
theorem greatest (f : Nat → Int) : ∀ n, 0 < n → ∃ m, m < n ∧ ∀ k, k < n → f k ≤ f m
  | 1, _ => ⟨0, by omega, fun k hk => by
      obtain rfl : k = 0 := by omega
      exact Int.le_refl _⟩
  | n + 2, _ => by
    obtain ⟨m, h1, h2⟩ := greatest f (n + 1) (by omega)
    by_cases h : f m < f (n + 1)
    · refine ⟨n + 1, by omega, fun k hk => ?_⟩
      rcases Nat.lt_or_ge k (n + 1) with e | e
      · have := h2 k e; omega
      · obtain rfl : k = n + 1 := by omega
        exact Int.le_refl _
    · refine ⟨m, by omega, fun k hk => ?_⟩
      rcases Nat.lt_or_ge k (n + 1) with e | e
      · exact h2 k e
      · obtain rfl : k = n + 1 := by omega
        omega
/-- Seen from the edge at i: positive to the left. -/
def crI (xs : List (List Int)) (i : Nat) (x y : Int) : Int := (at2 xs ((i + 1) % xs.length) 0 - at2 xs i 0) * (y - at2 xs i 1) - (at2 xs ((i + 1) % xs.length) 1 - at2 xs i 1) * (x - at2 xs i 0)
theorem sat_sm {a : Int} (ha : -1048576 ≤ a ∧ a ≤ 1048576) : sat a = a := sat_id (by omega) (by omega)
theorem orient_crI {xs : List (List Int)} (h : AllR xs xs.length) {i : Nat} (hi : i < xs.length) (x y : Int) : orient (at2 xs i 0) (at2 xs i 1) (at2 xs ((i + 1) % xs.length) 0) (at2 xs ((i + 1) % xs.length) 1) x y = sign (crI xs i (sat x) (sat y)) := by
  have a := at_bd h hi
  have b := at_bd h (next_lt hi)
  unfold orient orientN crI
  rw [sat_sm a.1, sat_sm a.2, sat_sm b.1, sat_sm b.2]
theorem sign_one {n : Int} : sign n = 1 ↔ 0 < n := by unfold sign; split <;> (try split) <;> omega
theorem sign_m1 {n : Int} : sign n = -1 ↔ n < 0 := by unfold sign; split <;> (try split) <;> omega
/-- A convex polygon lies to the left of its edges. -/
theorem conv_left {xs : List (List Int)} (h : convB xs = true) {i k : Nat} (hi : i < xs.length) (hk : k < xs.length) : 0 ≤ crI xs i (at2 xs k 0) (at2 xs k 1) ∧ (k ≠ i → k ≠ (i + 1) % xs.length → 0 < crI xs i (at2 xs k 0) (at2 xs k 1)) := by
  obtain ⟨h1, h2, h3, h4⟩ := convB_iff.1 h
  have l := h4 i hi k hk
  have o := orient_crI h3 hi (at2 xs k 0) (at2 xs k 1)
  have b := at_bd h3 hk
  rw [sat_sm b.1, sat_sm b.2] at o
  have st : LeftOf xs i k → k ≠ i → k ≠ (i + 1) % xs.length → 0 < crI xs i (at2 xs k 0) (at2 xs k 1) := fun l n1 n2 => by
    rcases l with e | e | e
    · exact absurd e n1
    · exact absurd e n2
    · unfold ortX at e
      rw [o] at e
      exact sign_one.1 e
  refine ⟨?_, st l⟩
  by_cases e1 : k = i
  · subst e1; unfold crI; simp
  by_cases e2 : k = (i + 1) % xs.length
  · subst e2; unfold crI; grind
  exact Int.le_of_lt (st l e1 e2)
theorem has_left {ys : List (List Int)} {x y : Int} (h : hasX ys x y = true) : convB ys = true ∧ ∀ i, i < ys.length → 0 ≤ crI ys i (sat x) (sat y) := by
  unfold hasX at h
  rw [Bool.and_eq_true, decide_eq_true_eq] at h
  refine ⟨h.1, fun i hi => ?_⟩
  have := h.2 i hi
  rw [orient_crI (convB_iff.1 h.1).2.2.1 hi] at this
  rcases Int.lt_or_le (crI ys i (sat x) (sat y)) 0 with k | k
  · exact absurd (sign_m1.2 k) this
  · exact k
/-- A point inside is not farther in any direction than the corners. -/
theorem inside {ys : List (List Int)} (h : convB ys = true) {x y : Int} (hin : ∀ i, i < ys.length → 0 ≤ crI ys i x y) (al be : Int) : ∃ m, m < ys.length ∧ al * x + be * y ≤ al * at2 ys m 0 + be * at2 ys m 1 := by
  obtain ⟨h1, h2, h3, h4⟩ := convB_iff.1 h
  obtain ⟨m, hm, top⟩ := greatest (fun k => al * at2 ys k 0 + be * at2 ys k 1) ys.length (by omega)
  refine ⟨m, hm, ?_⟩
  obtain ⟨p, hp, ep⟩ : ∃ p, p < ys.length ∧ (p + 1) % ys.length = m := by
    rcases Nat.eq_zero_or_pos m with e | e
    · exact ⟨ys.length - 1, by omega, by rw [Nat.sub_add_cancel (by omega), Nat.mod_self, e]⟩
    · exact ⟨m - 1, by omega, by rw [Nat.sub_add_cancel (by omega), Nat.mod_eq_of_lt hm]⟩
  have hq : (m + 1) % ys.length < ys.length := next_lt hm
  have qm : (m + 1) % ys.length ≠ m := by
    rcases Nat.lt_or_ge (m + 1) ys.length with e | e
    · rw [Nat.mod_eq_of_lt e]; omega
    · rw [show m + 1 = ys.length by omega, Nat.mod_self]; omega
  have qp : (m + 1) % ys.length ≠ p := by
    intro e
    rcases Nat.lt_or_ge (m + 1) ys.length with k | k
    · rw [Nat.mod_eq_of_lt k] at e
      rcases Nat.lt_or_ge (p + 1) ys.length with g | g
      · rw [Nat.mod_eq_of_lt g] at ep; omega
      · rw [show p + 1 = ys.length by omega, Nat.mod_self] at ep; omega
    · rw [show m + 1 = ys.length by omega, Nat.mod_self] at e
      rw [← e, Nat.mod_eq_of_lt (by omega)] at ep
      omega
  have D := (conv_left h hp hq).2 qp (by rw [ep]; exact qm)
  have c1 := hin p hp
  have c2 := hin m hm
  have t1 := top p hp
  have t2 := top _ hq
  unfold crI at D c1 c2
  rw [ep] at D c1
  generalize at2 ys ((m + 1) % ys.length) 0 = qx at *
  generalize at2 ys ((m + 1) % ys.length) 1 = qy at *
  generalize at2 ys p 0 = px at *
  generalize at2 ys p 1 = py at *
  generalize at2 ys m 0 = mx at *
  generalize at2 ys m 1 = my at *
  have key : ((mx - px) * (qy - py) - (my - py) * (qx - px)) * (al * x + be * y - (al * mx + be * my)) = -(((qx - mx) * (y - my) - (qy - my) * (x - mx)) * (al * mx + be * my - (al * px + be * py))) + ((mx - px) * (y - py) - (my - py) * (x - px)) * (al * qx + be * qy - (al * mx + be * my)) := by grind
  have n1 := Int.mul_nonneg c2 (show 0 ≤ al * mx + be * my - (al * px + be * py) by omega)
  have n2 := Int.mul_nonneg c1 (show 0 ≤ al * mx + be * my - (al * qx + be * qy) by omega)
  have n3 : ((mx - px) * (y - py) - (my - py) * (x - px)) * (al * qx + be * qy - (al * mx + be * my)) = -(((mx - px) * (y - py) - (my - py) * (x - px)) * (al * mx + be * my - (al * qx + be * qy))) := by
    rw [← Int.mul_neg]; congr 1; omega
  rw [n3] at key
  rcases Int.lt_or_le 0 (al * x + be * y - (al * mx + be * my)) with k | k
  · have := Int.mul_pos D k
    omega
  · omega
/-- The rounded unit normal of an edge. -/
theorem unit_err {e L : Int} (hL : 1 ≤ L) (he : -L ≤ e ∧ e ≤ L) (hb : L ≤ 8388608) : (-L ≤ 2 * (65536 * e - dv e L * L) ∧ 2 * (65536 * e - dv e L * L) ≤ L) ∧ -65537 ≤ dv e L ∧ dv e L ≤ 65537 := by
  have hd : dv e L = sat (rd (e * 65536) L) := by
    unfold dv dvr
    rw [sat_id (x := e) (by omega) (by omega), sat_id (x := L) (by omega) (by omega), if_neg (by omega), if_neg (by omega)]
  obtain ⟨r1, r2⟩ := rd_err (n := e * 65536) (d := L) hL (by omega) (by omega) (by omega)
  generalize rd (e * 65536) L = r at *
  have b1 : r ≤ 65537 := by
    rcases Int.lt_or_le 65537 r with k | k
    · have := Int.mul_le_mul_of_nonneg_right (show 65538 ≤ r by omega) (show 0 ≤ L by omega)
      omega
    · exact k
  have b2 : -65537 ≤ r := by
    rcases Int.lt_or_le r (-65537) with k | k
    · have := Int.mul_le_mul_of_nonneg_right (show r ≤ -65538 by omega) (show 0 ≤ L by omega)
      omega
    · exact k
  rw [hd, sat_id (by omega) (by omega)]
  rw [Int.mul_comm 65536 e]
  exact ⟨⟨by omega, by omega⟩, b2, b1⟩
theorem dot_big {p q dx dy : Int} (hp : -65537 ≤ p ∧ p ≤ 65537) (hq : -65537 ≤ q ∧ q ≤ 65537) (hx : -2097152 ≤ dx ∧ dx ≤ 2097152) (hy : -2097152 ≤ dy ∧ dy ≤ 2097152) (h : 128 < dot p q dx dy) : 16842752 ≤ 2 * (p * dx + q * dy) := by
  unfold dot at h
  rw [sat_id (x := p) (by omega) (by omega), sat_id (x := q) (by omega) (by omega), sat_id (x := dx) (by omega) (by omega), sat_id (x := dy) (by omega) (by omega)] at h
  have m1 := mul_bd (x := p) (y := dx) (A := 2097152) (by omega) (by omega) (by omega) (by omega)
  have m2 := mul_bd (x := q) (y := dy) (A := 2097152) (by omega) (by omega) (by omega) (by omega)
  obtain ⟨r1, r2⟩ := rd_err (n := p * dx + q * dy) (d := 65536) (by omega) (by omega) (by omega) (by omega)
  generalize rd (p * dx + q * dy) 65536 = r at *
  have : 129 ≤ r := by unfold sat at h; split at h <;> (try split at h) <;> omega
  omega
theorem sep_right {ex ey L p q dx dy : Int} (hL : 1 ≤ L) (hp : -L ≤ 2 * (65536 * ey - p * L) ∧ 2 * (65536 * ey - p * L) ≤ L) (hq : -L ≤ 2 * (65536 * (-ex) - q * L) ∧ 2 * (65536 * (-ex) - q * L) ≤ L) (hx : -2097152 ≤ dx ∧ dx ≤ 2097152) (hy : -2097152 ≤ dy ∧ dy ≤ 2097152) (h : 16842752 ≤ 2 * (p * dx + q * dy)) : 0 < ey * dx - ex * dy := by
  have hm := Int.mul_le_mul_of_nonneg_left h (show 0 ≤ L by omega)
  have e1 : L * (2 * (p * dx + q * dy)) = 131072 * (ey * dx - ex * dy) - (2 * (65536 * ey - p * L)) * dx - (2 * (65536 * (-ex) - q * L)) * dy := by grind
  generalize 2 * (65536 * ey - p * L) = a at *
  generalize 2 * (65536 * (-ex) - q * L) = b at *
  have bd : ∀ {u v : Int}, -L ≤ u ∧ u ≤ L → -2097152 ≤ v ∧ v ≤ 2097152 → -(L * 2097152) ≤ u * v := fun {u v} hu hv => by
    have a1 := Int.mul_nonneg (show 0 ≤ L - u by omega) (show 0 ≤ 2097152 - v by omega)
    have a2 := Int.mul_nonneg (show 0 ≤ L + u by omega) (show 0 ≤ 2097152 + v by omega)
    have a3 : (L - u) * (2097152 - v) + (L + u) * (2097152 + v) = 2 * (L * 2097152) + 2 * (u * v) := by grind
    omega
  have b1 := bd hp hx
  have b2 := bd hq hy
  have b3 := bd (u := -a) (v := dx) (by omega) hx
  have b4 := bd (u := -b) (v := dy) (by omega) hy
  rw [Int.neg_mul] at b3 b4
  rcases Int.lt_or_le 0 (ey * dx - ex * dy) with k | k
  · exact k
  · omega
theorem tm_mod (i n : Nat) : (((i : Int) + 1).tmod (n : Int)).toNat = (i + 1) % n := by rw [tmN]; exact Int.toNat_natCast _
theorem len_ge {a b : Int} (ha : -2097152 ≤ a ∧ a ≤ 2097152) (hb : -2097152 ≤ b ∧ b ≤ 2097152) : (-len a b ≤ a ∧ a ≤ len a b) ∧ (-len a b ≤ b ∧ b ≤ len a b) ∧ 0 ≤ len a b ∧ len a b ≤ 8388608 := by
  unfold len
  rw [sat_id (x := a) (by omega) (by omega), sat_id (x := b) (by omega) (by omega)]
  have m1 := mul_bd (x := a) (y := a) (A := 2097152) (by omega) (by omega) (by omega) (by omega)
  have m2 := mul_bd (x := b) (y := b) (A := 2097152) (by omega) (by omega) (by omega) (by omega)
  have s1 := sq_nonneg a
  have s2 := sq_nonneg b
  have i0 := isq_nonneg (a * a + b * b)
  have i1 := isq_lt (n := a * a + b * b) (by omega) (by omega)
  have i2 := isq_sq (n := a * a + b * b) (by omega)
  generalize isq (a * a + b * b) = L at *
  have aux : ∀ z : Int, z * z ≤ a * a + b * b → -L ≤ z ∧ z ≤ L := fun z hz => by
    constructor
    · rcases Int.lt_or_le z (-L) with k | k
      · have := Int.mul_le_mul (a := L + 1) (b := L + 1) (c := -z) (d := -z) (by omega) (by omega) (by omega) (by omega)
        rw [Int.neg_mul_neg] at this; omega
      · exact k
    · rcases Int.lt_or_le L z with k | k
      · have := Int.mul_le_mul (a := L + 1) (b := L + 1) (c := z) (d := z) (by omega) (by omega) (by omega) (by omega)
        omega
      · exact k
  refine ⟨aux a (by omega), aux b (by omega), i0, ?_⟩
  rcases Int.lt_or_le 8388608 L with k | k
  · have := Int.mul_le_mul (a := 8388608) (b := 8388608) (c := L) (d := L) (by omega) (by omega) (by omega) (by omega)
    omega
  · exact k
theorem sep_edge {xs ys : List (List Int)} (hx : convB xs = true) (hy : convB ys = true) {i : Nat} (hi : i < xs.length) (h : 128 < sepE xs ys i) : ∀ k, k < ys.length → crI xs i (at2 ys k 0) (at2 ys k 1) < 0 := by
  intro k hk
  obtain ⟨a1, a2, a3, a4⟩ := convB_iff.1 hx
  obtain ⟨b1, b2, b3, b4⟩ := convB_iff.1 hy
  have hs := sepN_le (enX xs i) (enY xs i) (at2 xs i 0) (at2 xs i 1) ys ys.length k hk
  have hd : 128 < sepD (enX xs i) (enY xs i) (at2 xs i 0) (at2 xs i 1) ys k := by unfold sepE at h; omega
  obtain ⟨vi0, vi1⟩ := at_bd a3 hi
  obtain ⟨vn0, vn1⟩ := at_bd a3 (next_lt hi)
  obtain ⟨w0, w1⟩ := at_bd b3 hk
  unfold sepD at hd
  rw [sub_sm w0 vi0, sub_sm w1 vi1] at hd
  have ok := okE_of (xs := xs) (i := (i : Int)) (by omega) (by omega) (by omega)
  have e0 : edgC xs i 0 = at2 xs ((i + 1) % xs.length) 0 - at2 xs i 0 := by unfold edgC; rw [tm_mod, Int.toNat_natCast, sub_sm vn0 vi0]
  have e1 : edgC xs i 1 = at2 xs ((i + 1) % xs.length) 1 - at2 xs i 1 := by unfold edgC; rw [tm_mod, Int.toNat_natCast, sub_sm vn1 vi1]
  unfold enX enY at hd
  rw [ok, if_pos rfl, if_pos rfl, e0, e1] at hd
  unfold crI
  generalize at2 xs ((i + 1) % xs.length) 0 = nx at *
  generalize at2 xs ((i + 1) % xs.length) 1 = ny at *
  generalize at2 xs i 0 = ax at *
  generalize at2 xs i 1 = ay at *
  generalize at2 ys k 0 = bx at *
  generalize at2 ys k 1 = by_ at *
  obtain ⟨l1, l2, l3, l4⟩ := len_ge (a := ny - ay) (b := -(nx - ax)) (by omega) (by omega)
  unfold norm at hd
  by_cases hz : len (ny - ay) (-(nx - ax)) = 0
  · rw [if_pos hz, if_pos hz] at hd
    have : dot 0 0 (bx - ax) (by_ - ay) = 0 := by
      unfold dot
      rw [show sat 0 = 0 by decide, Int.zero_mul, Int.zero_mul, show (0 : Int) + 0 = 0 from rfl, rd_zero]; decide
    omega
  · rw [if_neg hz, if_neg hz] at hd
    generalize len (ny - ay) (-(nx - ax)) = L at *
    obtain ⟨u1, u2⟩ := unit_err (e := ny - ay) (L := L) (by omega) l1 l4
    obtain ⟨u3, u4⟩ := unit_err (e := -(nx - ax)) (L := L) (by omega) l2 l4
    have hb := dot_big u2 u4 (by omega) (by omega) hd
    have := sep_right (ex := nx - ax) (ey := ny - ay) (by omega) u1 u3 (by omega) (by omega) hb
    omega
/-- SEPARATED: no point lies in both. -/
theorem sep_none {xs ys : List (List Int)} (hx : convB xs = true) (hy : convB ys = true) (h : 128 < (msP xs ys).2) : (∀ x y, hasX xs x y = true → hasX ys x y = true → False) ∧ (∀ k, k < xs.length → hasX ys (at2 xs k 0) (at2 xs k 1) = false) ∧ (∀ k, k < ys.length → hasX xs (at2 ys k 0) (at2 ys k 1) = false) := by
  obtain ⟨a1, a2, a3, a4⟩ := convB_iff.1 hx
  obtain ⟨b1, b2, b3, b4⟩ := convB_iff.1 hy
  unfold msP at h
  rw [if_neg (by omega)] at h
  obtain ⟨i, hi, e⟩ := max_at (f := sepE xs ys) (n := xs.length) (by omega)
  rw [e] at h
  have hr := sep_edge hx hy hi h
  have lin : ∀ x y, crI xs i x y = -(at2 xs ((i + 1) % xs.length) 1 - at2 xs i 1) * x + (at2 xs ((i + 1) % xs.length) 0 - at2 xs i 0) * y + ((at2 xs ((i + 1) % xs.length) 1 - at2 xs i 1) * at2 xs i 0 - (at2 xs ((i + 1) % xs.length) 0 - at2 xs i 0) * at2 xs i 1) := fun x y => by unfold crI; grind
  have out : ∀ x y, hasX ys x y = true → crI xs i (sat x) (sat y) < 0 := fun x y hh => by
    obtain ⟨m, hm, hle⟩ := inside hy (has_left hh).2 (-(at2 xs ((i + 1) % xs.length) 1 - at2 xs i 1)) (at2 xs ((i + 1) % xs.length) 0 - at2 xs i 0)
    have := hr m hm
    rw [lin] at this ⊢
    omega
  refine ⟨fun x y h1 h2 => ?_, fun k hk => ?_, fun k hk => ?_⟩
  · have := (has_left h1).2 i hi
    have := out x y h2
    omega
  · rw [Bool.eq_false_iff]
    intro hh
    have o := out _ _ hh
    have b := at_bd a3 hk
    rw [sat_sm b.1, sat_sm b.2] at o
    have := (conv_left hx hi hk).1
    omega
  · rw [Bool.eq_false_iff]
    intro hh
    have o := (has_left hh).2 i hi
    have b := at_bd b3 hk
    rw [sat_sm b.1, sat_sm b.2] at o
    have := hr k hk
    omega

end Go.Proofs.Ytdoagjphjnbbnaa
