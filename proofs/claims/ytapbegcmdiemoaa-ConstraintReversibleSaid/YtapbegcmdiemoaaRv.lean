/- Plain facts: an impulse and its opposite; velocities turned round. -/
import Derived.Test.YtapbegcmdiemoaaD2
namespace Go.Proofs.Ytapbegcmdiemoaa
open Go.RowKit Fx Vx Ev
set_option linter.unusedVariables false
set_option linter.unusedSimpArgs false

theorem mul_neg_l (a b : Int) : mul (-a) b = -mul a b := by unfold mul; rw [sat_neg, Int.neg_mul, rd_neg, sat_neg]
theorem mul_neg_r (a b : Int) : mul a (-b) = -mul a b := by unfold mul; rw [sat_neg, Int.mul_neg, rd_neg, sat_neg]
theorem add_neg_neg (a b : Int) : add (-a) (-b) = -add a b := by
  unfold add
  have : sat (-a) + sat (-b) = -(sat a + sat b) := by rw [sat_neg a, sat_neg b]; omega
  rw [this, sat_neg]
theorem sub_neg_neg (a b : Int) : sub (-a) (-b) = -sub a b := by
  unfold sub
  have : sat (-a) - sat (-b) = -(sat a - sat b) := by rw [sat_neg a, sat_neg b]; omega
  rw [this, sat_neg]
theorem dot_neg_r (a b c d : Int) : dot a b (-c) (-d) = -dot a b c d := by
  unfold dot
  have : sat a * sat (-c) + sat b * sat (-d) = -(sat a * sat c + sat b * sat d) := by rw [sat_neg c, sat_neg d, Int.mul_neg, Int.mul_neg]; omega
  rw [this, rd_neg, sat_neg]
theorem mul_sm {a b A B : Int} (M : Int) (ha : -A ≤ a) (ha' : a ≤ A) (hb : -B ≤ b) (hb' : b ≤ B) (hA : A ≤ 536870911) (hB : B ≤ 536870911) (hM : A * B ≤ M * 65536) (hM' : M ≤ 536870911) : -M ≤ mul a b ∧ mul a b ≤ M := by
  have h1 : 0 ≤ (A - a) * (B + b) := Int.mul_nonneg (by omega) (by omega)
  have h2 : 0 ≤ (A - a) * (B - b) := Int.mul_nonneg (by omega) (by omega)
  have h3 : 0 ≤ (A + a) * (B + b) := Int.mul_nonneg (by omega) (by omega)
  have h4 : 0 ≤ (A + a) * (B - b) := Int.mul_nonneg (by omega) (by omega)
  simp only [Int.sub_mul, Int.mul_sub, Int.add_mul, Int.mul_add] at h1 h2 h3 h4
  have n1 : -(M * 65536) ≤ a * b := by omega
  have n2 : a * b ≤ M * 65536 := by omega
  have e := rd_err (n := a * b) (d := 65536) (by decide) (by decide) (by omega) (by omega)
  unfold mul
  rw [sat_id (x := a) (by omega) (by omega), sat_id (x := b) (by omega) (by omega)]
  generalize rd (a * b) 65536 = r at *
  rw [sat_id (by omega) (by omega)]
  omega

/-- The velocities turned round. -/
def negR (r : List Int) : List Int := [-r.getD 0 0, -r.getD 1 0, -r.getD 2 0, r.getD 3 0, r.getD 4 0]
def negB (xs : List (List Int)) : List (List Int) := xs.map negR
theorem negB_len (xs : List (List Int)) : (negB xs).length = xs.length := by simp [negB]
theorem negB_wf (xs : List (List Int)) : wf 5 (negB xs) := fun x hx => by
  simp only [negB, List.mem_map] at hx
  obtain ⟨r, _, rfl⟩ := hx
  rfl
theorem at2_negB {xs : List (List Int)} {k : Nat} (hk : k < xs.length) (j : Nat) : at2 (negB xs) k j = (negR (xs.getD k [])).getD j 0 := by
  simp [at2, negB, hk]
theorem atB_neg (xs : List (List Int)) (i : Int) : (atB (negB xs) i 0 = -atB xs i 0 ∧ atB (negB xs) i 1 = -atB xs i 1 ∧ atB (negB xs) i 2 = -atB xs i 2) ∧ atB (negB xs) i 3 = atB xs i 3 ∧ atB (negB xs) i 4 = atB xs i 4 := by
  by_cases h : 0 ≤ i ∧ i < xs.length
  · have h' : 0 ≤ i ∧ i < (negB xs).length := by rw [negB_len]; exact h
    have hk : i.toNat < xs.length := by omega
    refine ⟨⟨?_, ?_, ?_⟩, ?_, ?_⟩ <;> (rw [atB_in h'.1 h'.2, atB_in h.1 h.2, at2_negB hk]; rfl)
  · have h1 : i < 0 ∨ (xs.length : Int) ≤ i := by omega
    have h2 : i < 0 ∨ ((negB xs).length : Int) ≤ i := by rw [negB_len]; exact h1
    simp [atB_out h1, atB_out h2]
theorem relV_neg (xs : List (List Int)) (ra rb nx ny aa ab : Int) : relV (negB xs) ra rb nx ny aa ab = -relV xs ra rb nx ny aa ab := by
  obtain ⟨⟨a0, a1, a2⟩, _⟩ := atB_neg xs ra
  obtain ⟨⟨b0, b1, b2⟩, _⟩ := atB_neg xs rb
  unfold relV
  rw [a0, a1, a2, b0, b1, b2]
  simp only [mul_neg_l, sub_neg_neg, dot_neg_r, add_neg_neg]
theorem effM_neg (xs : List (List Int)) (ra rb nx ny aa ab so : Int) : effM (negB xs) ra rb nx ny aa ab so = effM xs ra rb nx ny aa ab so := by
  obtain ⟨_, a3, a4⟩ := atB_neg xs ra
  obtain ⟨_, b3, b4⟩ := atB_neg xs rb
  unfold effM effK
  rw [a3, a4, b3, b4]

theorem rows_ext {xs ys : List (List Int)} (hx : wf 5 xs) (hy : wf 5 ys) (hl : xs.length = ys.length) (h : ∀ k, k < xs.length → at2 xs k 0 = at2 ys k 0 ∧ at2 xs k 1 = at2 ys k 1 ∧ at2 xs k 2 = at2 ys k 2 ∧ at2 xs k 3 = at2 ys k 3 ∧ at2 xs k 4 = at2 ys k 4) : xs = ys := by
  refine List.ext_getElem hl fun k h1 h2 => ?_
  have e1 := row5 hx h1
  have e2 := row5 hy h2
  obtain ⟨q0, q1, q2, q3, q4⟩ := h k h1
  rw [q0, q1, q2, q3, q4, ← e2] at e1
  simpa [List.getD_eq_getElem?_getD, h1, h2] using e1
def bump (xs : List (List Int)) (i a b c : Int) : List (List Int) := if 0 ≤ i ∧ i < xs.length then xs.set i.toNat [at2 xs i.toNat 0 + a, at2 xs i.toNat 1 + b, at2 xs i.toNat 2 + c, at2 xs i.toNat 3, at2 xs i.toNat 4] else xs
theorem bump_len (xs : List (List Int)) (i a b c : Int) : (bump xs i a b c).length = xs.length := by unfold bump; split <;> simp
theorem bump_wf {xs : List (List Int)} (h : wf 5 xs) (i a b c : Int) : wf 5 (bump xs i a b c) := by
  unfold bump; split
  · exact wf_set h _ rfl
  · exact h
theorem bump_at (xs : List (List Int)) (i a b c : Int) {k : Nat} (hk : k < xs.length) :
    at2 (bump xs i a b c) k 0 = at2 xs k 0 + (if (k : Int) = i then a else 0) ∧ at2 (bump xs i a b c) k 1 = at2 xs k 1 + (if (k : Int) = i then b else 0) ∧ at2 (bump xs i a b c) k 2 = at2 xs k 2 + (if (k : Int) = i then c else 0) ∧ at2 (bump xs i a b c) k 3 = at2 xs k 3 ∧ at2 (bump xs i a b c) k 4 = at2 xs k 4 := by
  by_cases he : (k : Int) = i
  · subst he
    have hb : bump xs (k : Int) a b c = xs.set k [at2 xs k 0 + a, at2 xs k 1 + b, at2 xs k 2 + c, at2 xs k 3, at2 xs k 4] := by unfold bump; rw [if_pos ⟨by omega, by omega⟩]; rfl
    rw [hb]
    simp [at2_set hk]
  · have hn : ∀ r j, at2 (xs.set i.toNat r) k j = at2 xs k j ∨ ¬ (0 ≤ i ∧ i < xs.length) := fun r j => by
      by_cases hi : 0 ≤ i ∧ i < xs.length
      · refine Or.inl ?_
        have : i.toNat ≠ k := by omega
        simp [at2, this]
      · exact Or.inr hi
    unfold bump
    simp only [if_neg he, Int.add_zero]
    split
    · rename_i hi
      have hn' : ∀ r j, at2 (xs.set i.toNat r) k j = at2 xs k j := fun r j => (hn r j).resolve_right (fun h => h hi)
      exact ⟨hn' _ _, hn' _ _, hn' _ _, hn' _ _, hn' _ _⟩
    · exact ⟨rfl, rfl, rfl, rfl, rfl⟩
/-- Small bodies. -/
def smB (B : Int) (xs : List (List Int)) : Prop := ∀ k, k < xs.length → (-B ≤ at2 xs k 0 ∧ at2 xs k 0 ≤ B) ∧ (-B ≤ at2 xs k 1 ∧ at2 xs k 1 ≤ B) ∧ (-B ≤ at2 xs k 2 ∧ at2 xs k 2 ≤ B) ∧ (-262144 ≤ at2 xs k 3 ∧ at2 xs k 3 ≤ 262144) ∧ (-262144 ≤ at2 xs k 4 ∧ at2 xs k 4 ≤ 262144)
theorem bump_sm {xs : List (List Int)} {B : Int} (h : smB B xs) {i a b c : Int} (M : Int) (hM : 0 ≤ M) (ha : -M ≤ a ∧ a ≤ M) (hb : -M ≤ b ∧ b ≤ M) (hc : -M ≤ c ∧ c ≤ M) : smB (B + M) (bump xs i a b c) := fun k hk => by
  rw [bump_len] at hk
  obtain ⟨e0, e1, e2, e3, e4⟩ := bump_at xs i a b c hk
  obtain ⟨h0, h1, h2, h3, h4⟩ := h k hk
  rw [e0, e1, e2, e3, e4]
  refine ⟨?_, ?_, ?_, h3, h4⟩ <;> split <;> omega
/-- What one end of a row adds. -/
structure Sml (nx ny aa d : Int) : Prop where
  nx : -131072 ≤ nx ∧ nx ≤ 131072
  ny : -131072 ≤ ny ∧ ny ≤ 131072
  aa : -2097152 ≤ aa ∧ aa ≤ 2097152
  d : -65536 ≤ d ∧ d ≤ 65536
theorem Sml.bd {nx ny aa d im ii : Int} (h : Sml nx ny aa d) (hm : -262144 ≤ im ∧ im ≤ 262144) (hi : -262144 ≤ ii ∧ ii ≤ 262144) :
    (-8388608 ≤ mul nx (mul d im) ∧ mul nx (mul d im) ≤ 8388608) ∧ (-8388608 ≤ mul ny (mul d im) ∧ mul ny (mul d im) ≤ 8388608) ∧ (-8388608 ≤ mul (mul d aa) ii ∧ mul (mul d aa) ii ≤ 8388608) := by
  have h1 := mul_sm (A := 65536) (B := 262144) 262144 h.d.1 h.d.2 hm.1 hm.2 (by decide) (by decide) (by decide) (by decide)
  have h2 := mul_sm (A := 65536) (B := 2097152) 2097152 h.d.1 h.d.2 h.aa.1 h.aa.2 (by decide) (by decide) (by decide) (by decide)
  exact ⟨mul_sm (A := 131072) (B := 262144) 8388608 h.nx.1 h.nx.2 h1.1 h1.2 (by decide) (by decide) (by decide) (by decide),
    mul_sm (A := 131072) (B := 262144) 8388608 h.ny.1 h.ny.2 h1.1 h1.2 (by decide) (by decide) (by decide) (by decide),
    mul_sm (A := 2097152) (B := 262144) 8388608 h2.1 h2.2 hi.1 hi.2 (by decide) (by decide) (by decide) (by decide)⟩
theorem apA_bump {xs : List (List Int)} {B : Int} (hs : smB B xs) (hB : B ≤ 100000000) (ra : Int) {nx ny aa d : Int} (h : Sml nx ny aa d) :
    apA xs ra nx ny aa d = bump xs ra (-mul nx (mul d (atB xs ra 3))) (-mul ny (mul d (atB xs ra 3))) (-mul (mul d aa) (atB xs ra 4)) := by
  unfold apA bump
  by_cases hi : 0 ≤ ra ∧ ra < xs.length
  · rw [if_pos hi, if_pos hi, atB_in hi.1 hi.2, atB_in hi.1 hi.2]
    obtain ⟨h0, h1, h2, h3, h4⟩ := hs ra.toNat (by omega)
    obtain ⟨m0, m1, m2⟩ := h.bd h3 h4
    have sb : ∀ {x y : Int}, -B ≤ x ∧ x ≤ B → -8388608 ≤ y ∧ y ≤ 8388608 → sub x y = x + -y := fun {x y} hx hy => by
      unfold sub; rw [sat_id (x := x) (by omega) (by omega), sat_id (x := y) (by omega) (by omega), sat_id (by omega) (by omega)]; omega
    unfold rowA
    rw [sb h0 m0, sb h1 m1, sb h2 m2]
  · rw [if_neg hi, if_neg hi]
theorem apB_bump {xs : List (List Int)} {B : Int} (hs : smB B xs) (hB : B ≤ 100000000) (ra : Int) {nx ny aa d : Int} (h : Sml nx ny aa d) :
    apB xs ra nx ny aa d = bump xs ra (mul nx (mul d (atB xs ra 3))) (mul ny (mul d (atB xs ra 3))) (mul (mul d aa) (atB xs ra 4)) := by
  unfold apB bump
  by_cases hi : 0 ≤ ra ∧ ra < xs.length
  · rw [if_pos hi, if_pos hi, atB_in hi.1 hi.2, atB_in hi.1 hi.2]
    obtain ⟨h0, h1, h2, h3, h4⟩ := hs ra.toNat (by omega)
    obtain ⟨m0, m1, m2⟩ := h.bd h3 h4
    have sb : ∀ {x y : Int}, -B ≤ x ∧ x ≤ B → -8388608 ≤ y ∧ y ≤ 8388608 → add x y = x + y := fun {x y} hx hy => by
      unfold add; rw [sat_id (x := x) (by omega) (by omega), sat_id (x := y) (by omega) (by omega), sat_id (by omega) (by omega)]
    unfold rowB
    rw [sb h0 m0, sb h1 m1, sb h2 m2]
  · rw [if_neg hi, if_neg hi]
theorem atB_bump (xs : List (List Int)) (i a b c k : Int) : atB (bump xs i a b c) k 3 = atB xs k 3 ∧ atB (bump xs i a b c) k 4 = atB xs k 4 := by
  unfold atB
  rw [bump_len]
  by_cases hk : 0 ≤ k ∧ k < xs.length
  · simp only [if_pos hk]
    obtain ⟨_, _, _, e3, e4⟩ := bump_at xs i a b c (k := k.toNat) (by omega)
    exact ⟨e3, e4⟩
  · simp [if_neg hk]
theorem atB_sm {xs : List (List Int)} {B : Int} (h : smB B xs) (i : Int) : (-262144 ≤ atB xs i 3 ∧ atB xs i 3 ≤ 262144) ∧ (-262144 ≤ atB xs i 4 ∧ atB xs i 4 ≤ 262144) := by
  unfold atB
  by_cases hk : 0 ≤ i ∧ i < xs.length
  · simp only [if_pos hk]
    exact (h i.toNat (by omega)).2.2.2
  · simp only [if_neg hk]; omega
/-- An impulse, then the opposite one. -/
theorem ap_back {xs : List (List Int)} (hw : wf 5 xs) (hs : smB 4194304 xs) (ra rb : Int) {nx ny aa ab d : Int} (hA : Sml nx ny aa d) (hB : Sml nx ny ab d) :
    ap (ap xs ra rb nx ny aa ab d) ra rb nx ny aa ab (-d) = xs := by
  have hA' : Sml nx ny aa (-d) := ⟨hA.nx, hA.ny, hA.aa, by have := hA.d; omega⟩
  have hB' : Sml nx ny ab (-d) := ⟨hB.nx, hB.ny, hB.aa, by have := hB.d; omega⟩
  unfold ap
  obtain ⟨a3, a4⟩ := atB_sm hs ra
  obtain ⟨b3, b4⟩ := atB_sm hs rb
  obtain ⟨x0, x1, x2⟩ := hA.bd a3 a4
  obtain ⟨y0, y1, y2⟩ := hB.bd b3 b4
  rw [apA_bump hs (by decide) ra hA]
  have s1 : smB (4194304 + 8388608) (bump xs ra (-mul nx (mul d (atB xs ra 3))) (-mul ny (mul d (atB xs ra 3))) (-mul (mul d aa) (atB xs ra 4))) := bump_sm hs 8388608 (by decide) (by omega) (by omega) (by omega)
  rw [apB_bump s1 (by decide) rb hB]
  simp only [atB_bump]
  have s2 := bump_sm (i := rb) s1 8388608 (by decide) y0 y1 y2
  rw [apA_bump s2 (by decide) ra hA']
  simp only [atB_bump, mul_neg_l, mul_neg_r, Int.neg_neg]
  have s3 := bump_sm (i := ra) s2 8388608 (by decide) x0 x1 x2
  rw [apB_bump s3 (by decide) rb hB']
  simp only [atB_bump, mul_neg_l, mul_neg_r]
  generalize mul nx (mul d (atB xs ra 3)) = u0
  generalize mul ny (mul d (atB xs ra 3)) = u1
  generalize mul (mul d aa) (atB xs ra 4) = u2
  generalize mul nx (mul d (atB xs rb 3)) = v0
  generalize mul ny (mul d (atB xs rb 3)) = v1
  generalize mul (mul d ab) (atB xs rb 4) = v2
  refine rows_ext (bump_wf (bump_wf (bump_wf (bump_wf hw _ _ _ _) _ _ _ _) _ _ _ _) _ _ _ _) hw (by simp only [bump_len]) fun k hk => ?_
  simp only [bump_len] at hk
  obtain ⟨e0, e1, e2, e3, e4⟩ := bump_at xs ra (-u0) (-u1) (-u2) hk
  obtain ⟨f0, f1, f2, f3, f4⟩ := bump_at (bump xs ra (-u0) (-u1) (-u2)) rb v0 v1 v2 (k := k) (by simpa only [bump_len] using hk)
  obtain ⟨g0, g1, g2, g3, g4⟩ := bump_at (bump (bump xs ra (-u0) (-u1) (-u2)) rb v0 v1 v2) ra u0 u1 u2 (k := k) (by simpa only [bump_len] using hk)
  obtain ⟨h0, h1, h2, h3, h4⟩ := bump_at (bump (bump (bump xs ra (-u0) (-u1) (-u2)) rb v0 v1 v2) ra u0 u1 u2) rb (-v0) (-v1) (-v2) (k := k) (by simpa only [bump_len] using hk)
  rw [h0, h1, h2, h3, h4, g0, g1, g2, g3, g4, f0, f1, f2, f3, f4, e0, e1, e2, e3, e4]
  refine ⟨?_, ?_, ?_, rfl, rfl⟩ <;> (split <;> split <;> omega)
theorem app_negB {ys : List (List Int)} {k : Nat} (hk : k < ys.length) : List.take k (List.take k (negB ys)) ++ [[-at2 ys k 0, -at2 ys k 1, -at2 ys k 2, at2 ys k 3, at2 ys k 4]] = List.take (k + 1) (negB ys) := by
  have hk' : k < (negB ys).length := by rw [negB_len]; exact hk
  rw [List.take_take, Nat.min_self, List.take_succ_eq_append_getElem hk']
  congr 2
  simp [negB, negR, at2, hk]
theorem tk_negB (ys : List (List Int)) : List.take ys.length (List.take ys.length (negB ys)) = negB ys := by
  rw [List.take_take, Nat.min_self]; exact List.take_of_length_le (by rw [negB_len]; exact Nat.le_refl _)
theorem tk_wf (ys : List (List Int)) (k : Nat) : wf 5 (List.take k (negB ys)) := fun x hx => negB_wf ys x (List.mem_of_mem_take hx)
end Go.Proofs.Ytapbegcmdiemoaa
