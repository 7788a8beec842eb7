/- The walks of package fixed and of its reference, continued: Div, Ratio, Isqrt, Sqrt, Lerp. -/
import Derived.Test.YtohjifnkajhhnaaGreatFw
import Derived.LoopTactic
import Derived.Laws.BitsAllLaws
import Derived.Laws.BitsLemmas
namespace Go.Proofs.YtohjifnkajhhnaaGreat
open Go.RowKit Fx

theorem fixed_Div (a b : Int) (w : World) : Calls Tryz.prog 55 #[.int .i64 a, .int .i64 b] w fun e w' => e = .returned (.int .i64 (dv a b)) ∧ ∃ k, w' = w.drewN k := by
  have a1 := sat_lo a
  have a2 := sat_hi a
  have b1 := sat_lo b
  have b2 := sat_hi b
  by_cases hz : sat b = 0
  · have h1 : ((sat b) == 0) = true := by rw [hz]; rfl
    have hp : dv a b = clamp (sat a * 65536) (-1) 1 * 536870911 := by unfold dv dvr; rw [if_pos hz, sgn_clamp]
    have c3 := clamp1_lo (sat a * 65536)
    have c4 := clamp1_hi (sat a * 65536)
    have H := Lib.hid hp
    clear hp hz
    go_enter Tryz.func55, Tryz.ntmps55
    go_wp2_with (first | (go_at_call 62; refine (fixed_Saturate _ _).mono ?_; rintro e w' ⟨rfl, rfl⟩) | (go_at_call 93; refine (fixed_RoundDiv _ _ _).mono ?_; rintro e w' ⟨rfl, k, rfl⟩) | (go_at_call 95; refine (fixed_Clamp _ _ _ _).mono ?_; rintro e w' ⟨rfl, rfl⟩))
    go_ret
    exact ⟨ret_int H.out.symm, 0, rfl⟩
  · have h1 : ((sat b) == 0) = false := by simpa using hz
    by_cases hn : sat b < 0
    · have hp : dv a b = sat (rd (-(sat a * 65536)) (-sat b)) := by unfold dv dvr; rw [if_neg hz, if_pos hn]
      have H := Lib.hid hp
      clear hp hz
      go_enter Tryz.func55, Tryz.ntmps55
      go_wp2_with (first | (go_at_call 62; refine (fixed_Saturate _ _).mono ?_; rintro e w' ⟨rfl, rfl⟩) | (go_at_call 93; refine (fixed_RoundDiv _ _ _).mono ?_; rintro e w' ⟨rfl, k, rfl⟩) | (go_at_call 95; refine (fixed_Clamp _ _ _ _).mono ?_; rintro e w' ⟨rfl, rfl⟩))
      go_ret
      exact ⟨ret_int H.out.symm, _, rfl⟩
    · have hp : dv a b = sat (rd (sat a * 65536) (sat b)) := by unfold dv dvr; rw [if_neg hz, if_neg hn]
      have H := Lib.hid hp
      clear hp hz
      go_enter Tryz.func55, Tryz.ntmps55
      go_wp2_with (first | (go_at_call 62; refine (fixed_Saturate _ _).mono ?_; rintro e w' ⟨rfl, rfl⟩) | (go_at_call 93; refine (fixed_RoundDiv _ _ _).mono ?_; rintro e w' ⟨rfl, k, rfl⟩) | (go_at_call 95; refine (fixed_Clamp _ _ _ _).mono ?_; rintro e w' ⟨rfl, rfl⟩))
      go_ret
      exact ⟨ret_int H.out.symm, _, rfl⟩
theorem fixed_Ratio (n d : Int) (w : World) : Calls Tryz.prog 50 #[.int .i64 n, .int .i64 d] w fun e w' => e = .returned (.int .i64 (ratio n d)) ∧ ∃ k, w' = w.drewN k := by
  by_cases h1 : d < 1
  · have hp : ratio n d = 0 := by unfold ratio; rw [if_pos (by omega)]
    have H := Lib.hid hp
    clear hp
    go_enter Tryz.func50, Tryz.ntmps50
    go_wp2_with (first | (go_at_call 62; refine (fixed_Saturate _ _).mono ?_; rintro e w' ⟨rfl, rfl⟩) | (go_at_call 93; refine (fixed_RoundDiv _ _ _).mono ?_; rintro e w' ⟨rfl, k, rfl⟩) | (go_at_call 95; refine (fixed_Clamp _ _ _ _).mono ?_; rintro e w' ⟨rfl, rfl⟩))
    go_ret
    exact ⟨ret_int H.out.symm, 0, rfl⟩
  · by_cases h2 : 4611686018427387904 < d
    · have hp : ratio n d = 0 := by unfold ratio; rw [if_pos (by omega)]
      have H := Lib.hid hp
      clear hp
      go_enter Tryz.func50, Tryz.ntmps50
      go_wp2_with (first | (go_at_call 62; refine (fixed_Saturate _ _).mono ?_; rintro e w' ⟨rfl, rfl⟩) | (go_at_call 93; refine (fixed_RoundDiv _ _ _).mono ?_; rintro e w' ⟨rfl, k, rfl⟩) | (go_at_call 95; refine (fixed_Clamp _ _ _ _).mono ?_; rintro e w' ⟨rfl, rfl⟩))
      go_ret
      exact ⟨ret_int H.out.symm, 0, rfl⟩
    · by_cases h3 : n < 1
      · have hp : ratio n d = 0 := by unfold ratio; rw [if_pos (by omega)]
        have H := Lib.hid hp
        clear hp
        go_enter Tryz.func50, Tryz.ntmps50
        go_wp2_with (first | (go_at_call 62; refine (fixed_Saturate _ _).mono ?_; rintro e w' ⟨rfl, rfl⟩) | (go_at_call 93; refine (fixed_RoundDiv _ _ _).mono ?_; rintro e w' ⟨rfl, k, rfl⟩) | (go_at_call 95; refine (fixed_Clamp _ _ _ _).mono ?_; rintro e w' ⟨rfl, rfl⟩))
        go_ret
        exact ⟨ret_int H.out.symm, 0, rfl⟩
      · by_cases h4 : d ≤ n
        · have hp : ratio n d = 65536 := by unfold ratio; rw [if_neg (by omega), if_pos h4]
          have H := Lib.hid hp
          clear hp
          go_enter Tryz.func50, Tryz.ntmps50
          go_wp2_with (first | (go_at_call 62; refine (fixed_Saturate _ _).mono ?_; rintro e w' ⟨rfl, rfl⟩) | (go_at_call 93; refine (fixed_RoundDiv _ _ _).mono ?_; rintro e w' ⟨rfl, k, rfl⟩) | (go_at_call 95; refine (fixed_Clamp _ _ _ _).mono ?_; rintro e w' ⟨rfl, rfl⟩))
          go_ret
          exact ⟨ret_int H.out.symm, 0, rfl⟩
        · by_cases h5 : d < 70368744177664
          · have hp : ratio n d = rd (n * 65536) d := by unfold ratio; rw [if_neg (by omega), if_neg h4, if_pos h5]
            have H := Lib.hid hp
            clear hp
            go_enter Tryz.func50, Tryz.ntmps50
            go_wp2_with (first | (go_at_call 62; refine (fixed_Saturate _ _).mono ?_; rintro e w' ⟨rfl, rfl⟩) | (go_at_call 93; refine (fixed_RoundDiv _ _ _).mono ?_; rintro e w' ⟨rfl, k, rfl⟩) | (go_at_call 95; refine (fixed_Clamp _ _ _ _).mono ?_; rintro e w' ⟨rfl, rfl⟩))
            go_ret
            exact ⟨ret_int H.out.symm, _, rfl⟩
          · have hp : ratio n d = min (rd n (rd d 65536)) 65536 := by unfold ratio; rw [if_neg (by omega), if_neg h4, if_neg h5]
            have H := Lib.hid hp
            clear hp
            go_enter Tryz.func50, Tryz.ntmps50
            go_wp2_with (first | (go_at_call 62; refine (fixed_Saturate _ _).mono ?_; rintro e w' ⟨rfl, rfl⟩) | (go_at_call 93; refine (fixed_RoundDiv _ _ _).mono ?_; rintro e w' ⟨rfl, k, rfl⟩) | (go_at_call 95; refine (fixed_Clamp _ _ _ _).mono ?_; rintro e w' ⟨rfl, rfl⟩))
            all_goals (go_ret; exact ⟨ret_int (by rw [H.out]; omega), _, rfl⟩)
theorem ofInt_i64 (a : Nat) (ha : a < 9223372036854775808) : (BitVec.ofInt 64 (a : Int)).toNat = a := by
  rw [BitVec.ofInt_natCast, BitVec.toNat_ofNat]; exact Nat.mod_eq_of_lt (by omega)
theorem i64_or_nat (a b : Nat) (ha : a < 9223372036854775808) (hb : b < 9223372036854775808) : bits .or .i64 (a : Int) (b : Int) = ((a ||| b : Nat) : Int) := by
  have hx : a ||| b < 2 ^ 63 := Nat.or_lt_two_pow (by omega) (by omega)
  show IntKind.i64.wrap ((BitVec.ofInt 64 (a : Int) ||| BitVec.ofInt 64 (b : Int)).toNat : Int) = _
  rw [BitVec.toNat_or, ofInt_i64 a ha, ofInt_i64 b hb, IntKind.wrap_i64]
  omega
theorem u64_wrap_id {x : Int} (h : 0 ≤ x) (h' : x ≤ 10376293541461622784) : IntKind.u64.wrap x = x := by
  rw [IntKind.wrap_u64]; omega
theorem fixed_Isqrt (n : Int) (w : World) : Calls Tryz.prog 49 #[.int .i64 n] w fun e w' => e = .returned (.int .i64 (isq n)) ∧ w = w' := by
  by_cases h1 : n < 0
  · have hp : isq n = 0 := by unfold isq; rw [if_pos (by omega)]
    have H := Lib.hid hp
    clear hp
    go_enter Tryz.func49, Tryz.ntmps49
    go_wp2_with fail
    go_ret
    exact ⟨ret_int H.out.symm, rfl⟩
  · by_cases h2 : 4611686018427387904 < n
    · have hp : isq n = 0 := by unfold isq; rw [if_pos (by omega)]
      have H := Lib.hid hp
      clear hp
      go_enter Tryz.func49, Tryz.ntmps49
      go_wp2_with fail
      go_ret
      exact ⟨ret_int H.out.symm, rfl⟩
    · go_enter Tryz.func49, Tryz.ntmps49
      go_wp2_with fail
      go_loop [3, 4] (fun r b => ∃ k R B : Nat, k ≤ 32 ∧ SqInv n k R B ∧ r = .int .i64 R ∧ b = .int .i64 B) (fun _ b => (intOf b).toNat)
      case atStart => exact ⟨32, 0, 2147483648, by omega, sqInv_start (by omega), rfl, rfl⟩
      case round =>
        obtain ⟨k, R, B, hk, hI, rfl, rfl⟩ := hrel
        rcases k with _ | j
        · obtain rfl := sqInv_zero hI
          have hE := sqInv_end hI (by omega) (by omega)
          have H := Lib.hid hE
          clear hE
          go_wp2_with fail
          go_ret
          exact ⟨ret_int H.out.symm, rfl⟩
        · obtain ⟨g1, g2, g3, g4, g5⟩ := sqInv_succ hI hk (by omega)
          have ho := i64_or_nat R B (by omega) (by omega)
          rw [g5] at ho
          have G1 := Lib.hid g1
          clear g1 g5
          have hm := Fx.sqBd (R := R) (B := B) (by omega)
          have hw := u64_wrap_id (x := ((R : Int) + B) * (R + B)) hm.1 hm.2
          have HW := Lib.hid hw
          clear hw hm
          go_wp2_with fail
          · go_round
            case rel =>
              have hy : (R + B) * (R + B) ≤ n.toNat := by
                have hy : IntKind.u64.wrap (((R : Int) + B) * (R + B)) ≤ n := by assumption
                rw [HW.out] at hy
                have e : ((R : Int) + B) * (R + B) = (((R + B) * (R + B) : Nat) : Int) := by simp
                rw [e] at hy
                omega
              exact ⟨j, R + B, B / 2, by omega, sqInv_yes hI G1.out hy, by go_num, congrArg (Value.int .i64) (by omega)⟩
            case measure => simp [intOf]; omega
          · go_round
            case rel =>
              have hy : n.toNat < (R + B) * (R + B) := by
                have hy : n < IntKind.u64.wrap (((R : Int) + B) * (R + B)) := by assumption
                rw [HW.out] at hy
                have e : ((R : Int) + B) * (R + B) = (((R + B) * (R + B) : Nat) : Int) := by simp
                rw [e] at hy
                omega
              exact ⟨j, R, B / 2, by omega, sqInv_no hI G1.out hy, rfl, congrArg (Value.int .i64) (by omega)⟩
            case measure => simp [intOf]; omega
theorem fixed_Lerp (a b t : Int) (w : World) : Calls Tryz.prog 23 #[.int .i64 a, .int .i64 b, .int .i64 t] w fun e w' => e = .returned (.int .i64 (lerp a b t)) ∧ ∃ k, w' = w.drewN k := by
  go_enter Tryz.func23, Tryz.ntmps23
  go_wp2_with (first | (go_at_call 47; refine (fixed_Sub _ _ _).mono ?_; rintro e w' ⟨rfl, rfl⟩) | (go_at_call 57; refine (fixed_Mul _ _ _).mono ?_; rintro e w' ⟨rfl, k, rfl⟩) | (go_at_call 56; refine (fixed_Add _ _ _).mono ?_; rintro e w' ⟨rfl, rfl⟩))
  go_ret
  exact ⟨rfl, _, rfl⟩
end Go.Proofs.YtohjifnkajhhnaaGreat
