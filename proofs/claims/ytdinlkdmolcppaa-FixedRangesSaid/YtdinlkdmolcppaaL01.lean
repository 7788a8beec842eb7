/- The walks of chapter 1's laws. -/
import Derived.Test.YtdinlkdmolcppaaFv
namespace Go.Proofs.Ytdinlkdmolcppaa
open Go.RowKit Fx

theorem below_drewN {B : Nat} {a w : World} (h : Below B a w) (n : Nat) : Below B a (w.drewN n) := ⟨h.os, h.tape, h.output, h.size, h.block⟩
theorem example01_plain : mul 98304 98304 = 147456 ∧ dv 65536 196608 = 21845 ∧ rd (-3) 2 = -2 ∧ sqrt 131072 = 92681 ∧ lerp 0 131072 32768 = 65536 ∧ ratio 1 2 = 32768 ∧ sat 1099511627776 = 536870911 := by
  refine ⟨by decide, by decide, by decide, ?_, by decide, by decide, by decide⟩
  show isq (sat 131072 * 65536) = 92681
  rw [show sat 131072 * 65536 = 8589934592 by decide]
  exact isq_lit (by omega) (by omega) (by omega) (by decide) (by decide)
theorem example01 (w : World) : Calls Try.prog 27 #[] w fun e w' => e = .returned (.bool true) ∧ ∃ k, w' = w.drewN k := by
  obtain ⟨e1, e2, e3, e4, e5, e6, e7⟩ := example01_plain
  go_enter Try.func27, Try.ntmps27
  go_wp2_with (first | (go_at_call 15; refine (fixed_Saturate _ _).mono ?_; rintro e w' ⟨rfl, rfl⟩) | (go_at_call 21; refine (fixed_Mul _ _ _).mono ?_; rintro e w' ⟨rfl, k, rfl⟩) | (go_at_call 23; refine (fixed_Div _ _ _).mono ?_; rintro e w' ⟨rfl, k, rfl⟩) | (go_at_call 28; refine (fixed_RoundDiv _ _ _).mono ?_; rintro e w' ⟨rfl, k, rfl⟩) | (go_at_call 33; refine (fixed_Sqrt _ _).mono ?_; rintro e w' ⟨rfl, rfl⟩) | (go_at_call 25; refine (fixed_Lerp _ _ _ _).mono ?_; rintro e w' ⟨rfl, k, rfl⟩) | (go_at_call 30; refine (fixed_Ratio _ _ _).mono ?_; rintro e w' ⟨rfl, k, rfl⟩))
  go_ret
  exact ⟨rfl, _, rfl⟩

theorem walk_FixedRoundDivRatio (n d : Int) (_ : -9223372036854775808 ≤ n ∧ n ≤ 9223372036854775807) (_ : -9223372036854775808 ≤ d ∧ d ≤ 9223372036854775807) (w : World) :
    Calls Try.prog 4 #[.int .i64 n, .int .i64 d] w fun e w' => e = .returned (.bool true) ∧ Below w.heap.size w w' := by
  go_enter Try.func4, Try.ntmps4
  go_wp2_with (first | (go_at_call 28; refine (fixed_RoundDiv _ _ _).mono ?_; rintro e w' ⟨rfl, k, rfl⟩) | (go_at_call 29; refine (ref01_RoundDiv _ _ _).mono ?_; rintro e w' ⟨rfl, rfl⟩) | (go_at_call 30; refine (fixed_Ratio _ _ _).mono ?_; rintro e w' ⟨rfl, k, rfl⟩) | (go_at_call 31; refine (ref01_Ratio _ _ _).mono ?_; rintro e w' ⟨rfl, rfl⟩) | (go_at_call 27; refine (example01 _).mono ?_; rintro e w' ⟨rfl, k, rfl⟩))
  go_ret
  exact ⟨rfl, below_drewN (Below.refl _ _) _⟩
theorem walk_FixedArithmetic (a b t : Int) (_ : -9223372036854775808 ≤ a ∧ a ≤ 9223372036854775807) (_ : -9223372036854775808 ≤ b ∧ b ≤ 9223372036854775807) (_ : -9223372036854775808 ≤ t ∧ t ≤ 9223372036854775807) (w : World) :
    Calls Try.prog 3 #[.int .i64 a, .int .i64 b, .int .i64 t] w fun e w' => e = .returned (.bool true) ∧ Below w.heap.size w w' := by
  go_enter Try.func3, Try.ntmps3
  go_wp2_with (first | (go_at_call 15; refine (fixed_Saturate _ _).mono ?_; rintro e w' ⟨rfl, rfl⟩) | (go_at_call 17; refine (fixed_Add _ _ _).mono ?_; rintro e w' ⟨rfl, rfl⟩) | (go_at_call 19; refine (fixed_Sub _ _ _).mono ?_; rintro e w' ⟨rfl, rfl⟩) | (go_at_call 21; refine (fixed_Mul _ _ _).mono ?_; rintro e w' ⟨rfl, k, rfl⟩) | (go_at_call 23; refine (fixed_Div _ _ _).mono ?_; rintro e w' ⟨rfl, k, rfl⟩) | (go_at_call 25; refine (fixed_Lerp _ _ _ _).mono ?_; rintro e w' ⟨rfl, k, rfl⟩) | (go_at_call 16; refine (ref01_Saturate _ _).mono ?_; rintro e w' ⟨rfl, rfl⟩) | (go_at_call 18; refine (ref01_Add _ _ _).mono ?_; rintro e w' ⟨rfl, rfl⟩) | (go_at_call 20; refine (ref01_Sub _ _ _).mono ?_; rintro e w' ⟨rfl, rfl⟩) | (go_at_call 22; refine (ref01_Mul _ _ _).mono ?_; rintro e w' ⟨rfl, rfl⟩) | (go_at_call 24; refine (ref01_Div _ _ _).mono ?_; rintro e w' ⟨rfl, rfl⟩) | (go_at_call 26; refine (ref01_Lerp _ _ _ _).mono ?_; rintro e w' ⟨rfl, rfl⟩) | (go_at_call 27; refine (example01 _).mono ?_; rintro e w' ⟨rfl, k, rfl⟩))
  go_ret
  exact ⟨rfl, below_drewN (Below.refl _ _) _⟩
theorem walk_FixedRoundDivError (n d : Int) (_ : -9223372036854775808 ≤ n ∧ n ≤ 9223372036854775807) (_ : -9223372036854775808 ≤ d ∧ d ≤ 9223372036854775807) (w : World) :
    Calls Try.prog 5 #[.int .i64 n, .int .i64 d] w fun e w' => e = .returned (.bool true) ∧ Below w.heap.size w w' := by
  by_cases ho : d < 1 ∨ 4611686018427387904 < d ∨ n < -4611686018427387904 ∨ 4611686018427387904 < n
  · have hz : rd n d = 0 := by unfold rd; rw [if_pos ho]
    by_cases h1 : d < 1
    · clear ho
      go_enter Try.func5, Try.ntmps5
      go_wp2_with (first | (go_at_call 28; refine (fixed_RoundDiv _ _ _).mono ?_; rintro e w' ⟨rfl, k, rfl⟩) | (go_at_call 27; refine (example01 _).mono ?_; rintro e w' ⟨rfl, k, rfl⟩))
      go_ret
      exact ⟨rfl, below_drewN (Below.refl _ _) _⟩
    · by_cases h2 : 4611686018427387904 < d
      · clear ho
        go_enter Try.func5, Try.ntmps5
        go_wp2_with (first | (go_at_call 28; refine (fixed_RoundDiv _ _ _).mono ?_; rintro e w' ⟨rfl, k, rfl⟩) | (go_at_call 27; refine (example01 _).mono ?_; rintro e w' ⟨rfl, k, rfl⟩))
        go_ret
        exact ⟨rfl, below_drewN (Below.refl _ _) _⟩
      · by_cases h3 : n < -4611686018427387904
        · clear ho
          go_enter Try.func5, Try.ntmps5
          go_wp2_with (first | (go_at_call 28; refine (fixed_RoundDiv _ _ _).mono ?_; rintro e w' ⟨rfl, k, rfl⟩) | (go_at_call 27; refine (example01 _).mono ?_; rintro e w' ⟨rfl, k, rfl⟩))
          go_ret
          exact ⟨rfl, below_drewN (Below.refl _ _) _⟩
        · have h4 : 4611686018427387904 < n := by omega
          clear ho
          go_enter Try.func5, Try.ntmps5
          go_wp2_with (first | (go_at_call 28; refine (fixed_RoundDiv _ _ _).mono ?_; rintro e w' ⟨rfl, k, rfl⟩) | (go_at_call 27; refine (example01 _).mono ?_; rintro e w' ⟨rfl, k, rfl⟩))
          go_ret
          exact ⟨rfl, below_drewN (Below.refl _ _) _⟩
  · have h1 : 1 ≤ d := by omega
    have h2 : d ≤ 4611686018427387904 := by omega
    have h3 : -4611686018427387904 ≤ n := by omega
    have h4 : n ≤ 4611686018427387904 := by omega
    clear ho
    have e1 := rd_bd d h3 h4
    obtain ⟨e2, e3⟩ := rd_err h1 h2 h3 h4
    have e4 := rd_neg n d
    obtain ⟨e5, e6⟩ := e1
    by_cases hd : d = 1
    · subst hd
      go_enter Try.func5, Try.ntmps5
      go_wp2_with (first | (go_at_call 28; refine (fixed_RoundDiv _ _ _).mono ?_; rintro e w' ⟨rfl, k, rfl⟩) | (go_at_call 27; refine (example01 _).mono ?_; rintro e w' ⟨rfl, k, rfl⟩))
      go_ret
      exact ⟨rfl, below_drewN (Below.refl _ _) _⟩
    · have hd2 : 2 ≤ d := by omega
      obtain ⟨e7, e8⟩ := rd_half hd2 h2 h3 h4
      clear hd
      by_cases hs : n - rd n d * d < 0
      · go_enter Try.func5, Try.ntmps5
        go_wp2_with (first | (go_at_call 28; refine (fixed_RoundDiv _ _ _).mono ?_; rintro e w' ⟨rfl, k, rfl⟩) | (go_at_call 27; refine (example01 _).mono ?_; rintro e w' ⟨rfl, k, rfl⟩))
        go_ret
        exact ⟨rfl, below_drewN (Below.refl _ _) _⟩
      · go_enter Try.func5, Try.ntmps5
        go_wp2_with (first | (go_at_call 28; refine (fixed_RoundDiv _ _ _).mono ?_; rintro e w' ⟨rfl, k, rfl⟩) | (go_at_call 27; refine (example01 _).mono ?_; rintro e w' ⟨rfl, k, rfl⟩))
        go_ret
        exact ⟨rfl, below_drewN (Below.refl _ _) _⟩
theorem walk_FixedSquareRoots (n x : Int) (_ : -9223372036854775808 ≤ n ∧ n ≤ 9223372036854775807) (_ : -9223372036854775808 ≤ x ∧ x ≤ 9223372036854775807) (w : World) :
    Calls Try.prog 6 #[.int .i64 n, .int .i64 x] w fun e w' => e = .returned (.bool true) ∧ Below w.heap.size w w' := by
  by_cases h1 : n < 0
  · have hz : isq n = 0 := by unfold isq; rw [if_pos (by omega)]
    go_enter Try.func6, Try.ntmps6
    go_wp2_with (first | (go_at_call 32; refine (fixed_Isqrt _ _).mono ?_; rintro e w' ⟨rfl, rfl⟩) | (go_at_call 33; refine (fixed_Sqrt _ _).mono ?_; rintro e w' ⟨rfl, rfl⟩) | (go_at_call 34; refine (ref01_Sqrt _ _).mono ?_; rintro e w' ⟨rfl, rfl⟩) | (go_at_call 27; refine (example01 _).mono ?_; rintro e w' ⟨rfl, k, rfl⟩))
    go_ret
    exact ⟨rfl, below_drewN (Below.refl _ _) _⟩
  · by_cases h2 : 4611686018427387904 < n
    · have hz : isq n = 0 := by unfold isq; rw [if_pos (by omega)]
      go_enter Try.func6, Try.ntmps6
      go_wp2_with (first | (go_at_call 32; refine (fixed_Isqrt _ _).mono ?_; rintro e w' ⟨rfl, rfl⟩) | (go_at_call 33; refine (fixed_Sqrt _ _).mono ?_; rintro e w' ⟨rfl, rfl⟩) | (go_at_call 34; refine (ref01_Sqrt _ _).mono ?_; rintro e w' ⟨rfl, rfl⟩) | (go_at_call 27; refine (example01 _).mono ?_; rintro e w' ⟨rfl, k, rfl⟩))
      go_ret
      exact ⟨rfl, below_drewN (Below.refl _ _) _⟩
    · have e1 := isq_nonneg n
      have e2 := isq_le (n := n)
      have e3 := isq_sq (n := n) (by omega)
      have e4 := isq_lt (n := n) (by omega) (by omega)
      have e5 := sq_nonneg (isq n)
      have e6 := mul_bd (x := isq n + 1) (y := isq n + 1) (A := 2147483649) (by omega) (by omega) (by omega) (by omega)
      have e7 : (isq n + 1) * (isq n + 1) ≤ 4611686022722355201 := by omega
      clear e6
      go_enter Try.func6, Try.ntmps6
      go_wp2_with (first | (go_at_call 32; refine (fixed_Isqrt _ _).mono ?_; rintro e w' ⟨rfl, rfl⟩) | (go_at_call 33; refine (fixed_Sqrt _ _).mono ?_; rintro e w' ⟨rfl, rfl⟩) | (go_at_call 34; refine (ref01_Sqrt _ _).mono ?_; rintro e w' ⟨rfl, rfl⟩) | (go_at_call 27; refine (example01 _).mono ?_; rintro e w' ⟨rfl, k, rfl⟩))
      go_ret
      exact ⟨rfl, below_drewN (Below.refl _ _) _⟩
theorem walk_FixedIdentities (a b : Int) (_ : -9223372036854775808 ≤ a ∧ a ≤ 9223372036854775807) (_ : -9223372036854775808 ≤ b ∧ b ≤ 9223372036854775807) (w : World) :
    Calls Try.prog 7 #[.int .i64 a, .int .i64 b] w fun e w' => e = .returned (.bool true) ∧ Below w.heap.size w w' := by
  have e1 := add_comm b a
  have e2 := mul_comm b a
  have e3 := mul_one a
  have e4 := dv_one a
  have e5 := add_zero a
  have e6 := sub_anti a b
  have e7 := mul_zero a
  have e8 := lerp_zero a b
  have b1 := sub_lo b a
  have b2 := sub_hi b a
  go_enter Try.func7, Try.ntmps7
  go_wp2_with (first | (go_at_call 15; refine (fixed_Saturate _ _).mono ?_; rintro e w' ⟨rfl, rfl⟩) | (go_at_call 17; refine (fixed_Add _ _ _).mono ?_; rintro e w' ⟨rfl, rfl⟩) | (go_at_call 19; refine (fixed_Sub _ _ _).mono ?_; rintro e w' ⟨rfl, rfl⟩) | (go_at_call 21; refine (fixed_Mul _ _ _).mono ?_; rintro e w' ⟨rfl, k, rfl⟩) | (go_at_call 23; refine (fixed_Div _ _ _).mono ?_; rintro e w' ⟨rfl, k, rfl⟩) | (go_at_call 25; refine (fixed_Lerp _ _ _ _).mono ?_; rintro e w' ⟨rfl, k, rfl⟩) | (go_at_call 27; refine (example01 _).mono ?_; rintro e w' ⟨rfl, k, rfl⟩))
  go_ret
  exact ⟨rfl, below_drewN (Below.refl _ _) _⟩
theorem walk_FixedRanges (x l h : Int) (_ : -9223372036854775808 ≤ x ∧ x ≤ 9223372036854775807) (_ : -9223372036854775808 ≤ l ∧ l ≤ 9223372036854775807) (_ : -9223372036854775808 ≤ h ∧ h ≤ 9223372036854775807) (w : World) :
    Calls Try.prog 8 #[.int .i64 x, .int .i64 l, .int .i64 h] w fun e w' => e = .returned (.bool true) ∧ Below w.heap.size w w' := by
  have e1 := clamp_lo x l h
  have e2 := lerp_lo x l h
  have e3 := lerp_hi x l h
  have e4 := sat_lerp x l h
  have e5 := sat_dv x l
  by_cases hl : l ≤ h
  · have e6 := clamp_hi x l h hl
    go_enter Try.func8, Try.ntmps8
    go_wp2_with (first | (go_at_call 35; refine (fixed_Clamp _ _ _ _).mono ?_; rintro e w' ⟨rfl, rfl⟩) | (go_at_call 25; refine (fixed_Lerp _ _ _ _).mono ?_; rintro e w' ⟨rfl, k, rfl⟩) | (go_at_call 15; refine (fixed_Saturate _ _).mono ?_; rintro e w' ⟨rfl, rfl⟩) | (go_at_call 23; refine (fixed_Div _ _ _).mono ?_; rintro e w' ⟨rfl, k, rfl⟩) | (go_at_call 36; refine (ref01_Clamp _ _ _ _).mono ?_; rintro e w' ⟨rfl, rfl⟩) | (go_at_call 27; refine (example01 _).mono ?_; rintro e w' ⟨rfl, k, rfl⟩))
    go_ret
    exact ⟨rfl, below_drewN (Below.refl _ _) _⟩
  · by_cases h6 : clamp x l h ≤ h
    · go_enter Try.func8, Try.ntmps8
      go_wp2_with (first | (go_at_call 35; refine (fixed_Clamp _ _ _ _).mono ?_; rintro e w' ⟨rfl, rfl⟩) | (go_at_call 25; refine (fixed_Lerp _ _ _ _).mono ?_; rintro e w' ⟨rfl, k, rfl⟩) | (go_at_call 15; refine (fixed_Saturate _ _).mono ?_; rintro e w' ⟨rfl, rfl⟩) | (go_at_call 23; refine (fixed_Div _ _ _).mono ?_; rintro e w' ⟨rfl, k, rfl⟩) | (go_at_call 36; refine (ref01_Clamp _ _ _ _).mono ?_; rintro e w' ⟨rfl, rfl⟩) | (go_at_call 27; refine (example01 _).mono ?_; rintro e w' ⟨rfl, k, rfl⟩))
      go_ret
      exact ⟨rfl, below_drewN (Below.refl _ _) _⟩
    · go_enter Try.func8, Try.ntmps8
      go_wp2_with (first | (go_at_call 35; refine (fixed_Clamp _ _ _ _).mono ?_; rintro e w' ⟨rfl, rfl⟩) | (go_at_call 25; refine (fixed_Lerp _ _ _ _).mono ?_; rintro e w' ⟨rfl, k, rfl⟩) | (go_at_call 15; refine (fixed_Saturate _ _).mono ?_; rintro e w' ⟨rfl, rfl⟩) | (go_at_call 23; refine (fixed_Div _ _ _).mono ?_; rintro e w' ⟨rfl, k, rfl⟩) | (go_at_call 36; refine (ref01_Clamp _ _ _ _).mono ?_; rintro e w' ⟨rfl, rfl⟩) | (go_at_call 27; refine (example01 _).mono ?_; rintro e w' ⟨rfl, k, rfl⟩))
      go_ret
      exact ⟨rfl, below_drewN (Below.refl _ _) _⟩
end Go.Proofs.Ytdinlkdmolcppaa
