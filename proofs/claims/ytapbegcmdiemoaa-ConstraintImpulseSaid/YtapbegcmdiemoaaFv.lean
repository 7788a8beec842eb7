/- The walks of package fixed and of its reference, continued: Div, Ratio, Isqrt, Sqrt, Lerp. -/
import Derived.Test.YtapbegcmdiemoaaFw
import Derived.LoopTactic
import Derived.Laws.BitsAllLaws
import Derived.Laws.BitsLemmas
namespace Go.Proofs.Ytapbegcmdiemoaa
open Go.RowKit Fx

theorem fixed_Div (a b : Int) (w : World) : Calls Try.prog 68 #[.int .i64 a, .int .i64 b] w fun e w' => e = .returned (.int .i64 (dv a b)) ∧ ∃ k, w' = w.drewN k := by
  have a1 := sat_lo a
  have a2 := sat_hi a
  have b1 := sat_lo b
  have b2 := sat_hi b
  by_cases hz : sat b = 0
  · have h1 : ((sat b) == 0) = true := by rw [hz]; rfl
    have hp : dv a b = clamp (sat a * 65536) (-1) 1 * 536870911 := by unfold dv dvr; rw [if_pos hz, sgn_clamp]
    have c3 := clamp1_lo (sat a * 65536)
    have c4 := clamp1_hi (sat a * 65536)
    have H := Lib.hid hp
    clear hp hz
    go_enter Try.func68, Try.ntmps68
    go_wp2_with (first | (go_at_call 25; refine (fixed_Saturate _ _).mono ?_; rintro e w' ⟨rfl, rfl⟩) | (go_at_call 77; refine (fixed_RoundDiv _ _ _).mono ?_; rintro e w' ⟨rfl, k, rfl⟩) | (go_at_call 53; refine (fixed_Clamp _ _ _ _).mono ?_; rintro e w' ⟨rfl, rfl⟩))
    go_ret
    exact ⟨ret_int H.out.symm, 0, rfl⟩
  · have h1 : ((sat b) == 0) = false := by simpa using hz
    by_cases hn : sat b < 0
    · have hp : dv a b = sat (rd (-(sat a * 65536)) (-sat b)) := by unfold dv dvr; rw [if_neg hz, if_pos hn]
      have H := Lib.hid hp
      clear hp hz
      go_enter Try.func68, Try.ntmps68
      go_wp2_with (first | (go_at_call 25; refine (fixed_Saturate _ _).mono ?_; rintro e w' ⟨rfl, rfl⟩) | (go_at_call 77; refine (fixed_RoundDiv _ _ _).mono ?_; rintro e w' ⟨rfl, k, rfl⟩) | (go_at_call 53; refine (fixed_Clamp _ _ _ _).mono ?_; rintro e w' ⟨rfl, rfl⟩))
      go_ret
      exact ⟨ret_int H.out.symm, _, rfl⟩
    · have hp : dv a b = sat (rd (sat a * 65536) (sat b)) := by unfold dv dvr; rw [if_neg hz, if_neg hn]
      have H := Lib.hid hp
      clear hp hz
      go_enter Try.func68, Try.ntmps68
      go_wp2_with (first | (go_at_call 25; refine (fixed_Saturate _ _).mono ?_; rintro e w' ⟨rfl, rfl⟩) | (go_at_call 77; refine (fixed_RoundDiv _ _ _).mono ?_; rintro e w' ⟨rfl, k, rfl⟩) | (go_at_call 53; refine (fixed_Clamp _ _ _ _).mono ?_; rintro e w' ⟨rfl, rfl⟩))
      go_ret
      exact ⟨ret_int H.out.symm, _, rfl⟩
theorem ref01_Div (a b : Int) (w : World) : Calls Try.prog 71 #[.int .i64 a, .int .i64 b] w fun e w' => e = .returned (.int .i64 (dv a b)) ∧ w = w' := by
  have a1 := sat_lo a
  have a2 := sat_hi a
  have b1 := sat_lo b
  have b2 := sat_hi b
  by_cases hz : sat b = 0
  · have h1 : ((sat b) == 0) = true := by rw [hz]; rfl
    rcases Int.lt_trichotomy (sat a) 0 with h | h | h
    · have hp : dv a b = -536870911 := by unfold dv dvr sgn; rw [if_pos hz, if_pos (by omega)]; rfl
      have H := Lib.hid hp
      clear hp hz
      go_enter Try.func71, Try.ntmps71
      go_wp2_with (first | (go_at_call 76; refine (ref01_Saturate _ _).mono ?_; rintro e w' ⟨rfl, rfl⟩) | (go_at_call 78; refine (ref01_RoundDiv _ _ _).mono ?_; rintro e w' ⟨rfl, rfl⟩))
      go_ret
      exact ⟨ret_int H.out.symm, rfl⟩
    · have hp : dv a b = sat (rd (sat a * 65536) (sat b)) := by unfold dv dvr sgn; rw [if_pos hz, if_neg (by omega), if_neg (by omega), h, hz]; rfl
      have hz' : ¬ sat b < 0 := by omega
      have h2 : ¬ 0 < sat a := by omega
      have h3 : ¬ sat a < 0 := by omega
      have H := Lib.hid hp
      clear hp hz h
      go_enter Try.func71, Try.ntmps71
      go_wp2_with (first | (go_at_call 76; refine (ref01_Saturate _ _).mono ?_; rintro e w' ⟨rfl, rfl⟩) | (go_at_call 78; refine (ref01_RoundDiv _ _ _).mono ?_; rintro e w' ⟨rfl, rfl⟩))
      go_ret
      exact ⟨ret_int H.out.symm, rfl⟩
    · have hp : dv a b = 536870911 := by unfold dv dvr sgn; rw [if_pos hz, if_neg (by omega), if_pos (by omega)]; rfl
      have H := Lib.hid hp
      clear hp hz
      go_enter Try.func71, Try.ntmps71
      go_wp2_with (first | (go_at_call 76; refine (ref01_Saturate _ _).mono ?_; rintro e w' ⟨rfl, rfl⟩) | (go_at_call 78; refine (ref01_RoundDiv _ _ _).mono ?_; rintro e w' ⟨rfl, rfl⟩))
      go_ret
      exact ⟨ret_int H.out.symm, rfl⟩
  · have h1 : ((sat b) == 0) = false := by simpa using hz
    by_cases hn : sat b < 0
    · have hp : dv a b = sat (rd (-sat a * 65536) (-sat b)) := by unfold dv dvr; rw [if_neg hz, if_pos hn, Int.neg_mul]
      have H := Lib.hid hp
      clear hp hz
      go_enter Try.func71, Try.ntmps71
      go_wp2_with (first | (go_at_call 76; refine (ref01_Saturate _ _).mono ?_; rintro e w' ⟨rfl, rfl⟩) | (go_at_call 78; refine (ref01_RoundDiv _ _ _).mono ?_; rintro e w' ⟨rfl, rfl⟩))
      go_ret
      exact ⟨ret_int (by rw [H.out, Int.neg_mul]), rfl⟩
    · have hp : dv a b = sat (rd (sat a * 65536) (sat b)) := by unfold dv dvr; rw [if_neg hz, if_neg hn]
      have H := Lib.hid hp
      clear hp hz
      go_enter Try.func71, Try.ntmps71
      go_wp2_with (first | (go_at_call 76; refine (ref01_Saturate _ _).mono ?_; rintro e w' ⟨rfl, rfl⟩) | (go_at_call 78; refine (ref01_RoundDiv _ _ _).mono ?_; rintro e w' ⟨rfl, rfl⟩))
      go_ret
      exact ⟨ret_int H.out.symm, rfl⟩
theorem ofInt_i64 (a : Nat) (ha : a < 9223372036854775808) : (BitVec.ofInt 64 (a : Int)).toNat = a := by
  rw [BitVec.ofInt_natCast, BitVec.toNat_ofNat]; exact Nat.mod_eq_of_lt (by omega)
theorem i64_or_nat (a b : Nat) (ha : a < 9223372036854775808) (hb : b < 9223372036854775808) : bits .or .i64 (a : Int) (b : Int) = ((a ||| b : Nat) : Int) := by
  have hx : a ||| b < 2 ^ 63 := Nat.or_lt_two_pow (by omega) (by omega)
  show IntKind.i64.wrap ((BitVec.ofInt 64 (a : Int) ||| BitVec.ofInt 64 (b : Int)).toNat : Int) = _
  rw [BitVec.toNat_or, ofInt_i64 a ha, ofInt_i64 b hb, IntKind.wrap_i64]
  omega
theorem u64_wrap_id {x : Int} (h : 0 ≤ x) (h' : x ≤ 10376293541461622784) : IntKind.u64.wrap x = x := by
  rw [IntKind.wrap_u64]; omega
end Go.Proofs.Ytapbegcmdiemoaa
