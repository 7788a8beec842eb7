/- The walks of package fixed and of its reference, continued: Div, Ratio, Isqrt, Sqrt, Lerp. -/
import Derived.Test.YtbichdbapkpjpaaFw
import Derived.LoopTactic
import Derived.Laws.BitsAllLaws
import Derived.Laws.BitsLemmas
namespace Go.Proofs.Ytbichdbapkpjpaa
open Go.RowKit Fx

theorem ofInt_i64 (a : Nat) (ha : a < 9223372036854775808) : (BitVec.ofInt 64 (a : Int)).toNat = a := by
  rw [BitVec.ofInt_natCast, BitVec.toNat_ofNat]; exact Nat.mod_eq_of_lt (by omega)
theorem i64_or_nat (a b : Nat) (ha : a < 9223372036854775808) (hb : b < 9223372036854775808) : bits .or .i64 (a : Int) (b : Int) = ((a ||| b : Nat) : Int) := by
  have hx : a ||| b < 2 ^ 63 := Nat.or_lt_two_pow (by omega) (by omega)
  show IntKind.i64.wrap ((BitVec.ofInt 64 (a : Int) ||| BitVec.ofInt 64 (b : Int)).toNat : Int) = _
  rw [BitVec.toNat_or, ofInt_i64 a ha, ofInt_i64 b hb, IntKind.wrap_i64]
  omega
theorem u64_wrap_id {x : Int} (h : 0 ≤ x) (h' : x ≤ 10376293541461622784) : IntKind.u64.wrap x = x := by
  rw [IntKind.wrap_u64]; omega
theorem fixed_Isqrt (n : Int) (w : World) : Calls Try.prog 50 #[.int .i64 n] w fun e w' => e = .returned (.int .i64 (isq n)) ∧ w = w' := by
  by_cases h1 : n < 0
  · have hp : isq n = 0 := by unfold isq; rw [if_pos (by omega)]
    have H := Lib.hid hp
    clear hp
    go_enter Try.func50, Try.ntmps50
    go_wp2_with fail
    go_ret
    exact ⟨ret_int H.out.symm, rfl⟩
  · by_cases h2 : 4611686018427387904 < n
    · have hp : isq n = 0 := by unfold isq; rw [if_pos (by omega)]
      have H := Lib.hid hp
      clear hp
      go_enter Try.func50, Try.ntmps50
      go_wp2_with fail
      go_ret
      exact ⟨ret_int H.out.symm, rfl⟩
    · go_enter Try.func50, Try.ntmps50
      go_wp2_with fail
      go_loop [3, 4] (fun r b => ∃ k R B : Nat, k ≤ 32 ∧ SqInv n k R B ∧ r = .int .i64 R ∧ b = .int .i64 B) (fun _ b => (intOf b).toNat)
      case atStart => exact ⟨32, 0, 2147483648, by omega, sqInv_start (by omega), rfl, rfl⟩
      case round =>
        obtain ⟨k, R, B, hk, hI, rfl, rfl⟩ := hrel
        rcases k with _ | j
        · obtain rfl := sqInv_zero hI
          have hE := sqInv_end hI (by omega) (by omega)
          have H := Lib.hid hE
          clear hE
          go_wp2_with fail
          go_ret
          exact ⟨ret_int H.out.symm, rfl⟩
        · obtain ⟨g1, g2, g3, g4, g5⟩ := sqInv_succ hI hk (by omega)
          have ho := i64_or_nat R B (by omega) (by omega)
          rw [g5] at ho
          have G1 := Lib.hid g1
          clear g1 g5
          have hm := Fx.sqBd (R := R) (B := B) (by omega)
          have hw := u64_wrap_id (x := ((R : Int) + B) * (R + B)) hm.1 hm.2
          have HW := Lib.hid hw
          clear hw hm
          go_wp2_with fail
          · go_round
            case rel =>
              have hy : (R + B) * (R + B) ≤ n.toNat := by
                have hy : IntKind.u64.wrap (((R : Int) + B) * (R + B)) ≤ n := by assumption
                rw [HW.out] at hy
                have e : ((R : Int) + B) * (R + B) = (((R + B) * (R + B) : Nat) : Int) := by simp
                rw [e] at hy
                omega
              exact ⟨j, R + B, B / 2, by omega, sqInv_yes hI G1.out hy, by go_num, congrArg (Value.int .i64) (by omega)⟩
            case measure => simp [intOf]; omega
          · go_round
            case rel =>
              have hy : n.toNat < (R + B) * (R + B) := by
                have hy : n < IntKind.u64.wrap (((R : Int) + B) * (R + B)) := by assumption
                rw [HW.out] at hy
                have e : ((R : Int) + B) * (R + B) = (((R + B) * (R + B) : Nat) : Int) := by simp
                rw [e] at hy
                omega
              exact ⟨j, R, B / 2, by omega, sqInv_no hI G1.out hy, rfl, congrArg (Value.int .i64) (by omega)⟩
            case measure => simp [intOf]; omega
theorem ref01_Isqrt (n : Int) (w : World) : Calls Try.prog 53 #[.int .i64 n] w fun e w' => e = .returned (.int .i64 (isq n)) ∧ w = w' := by
  by_cases h1 : n < 0
  · have hp : isq n = 0 := by unfold isq; rw [if_pos (by omega)]
    have H := Lib.hid hp
    clear hp
    go_enter Try.func53, Try.ntmps53
    go_wp2_with fail
    go_ret
    exact ⟨ret_int H.out.symm, rfl⟩
  · by_cases h2 : 4611686018427387904 < n
    · have hp : isq n = 0 := by unfold isq; rw [if_pos (by omega)]
      have H := Lib.hid hp
      clear hp
      go_enter Try.func53, Try.ntmps53
      go_wp2_with (go_at_call 49; refine (oor_out _ _ (by omega)).mono ?_; rintro e w' ⟨rfl, rfl⟩)
      go_ret
      exact ⟨ret_int H.out.symm, rfl⟩
    · go_enter Try.func53, Try.ntmps53
      go_wp2_with (go_at_call 49; refine (oor_in _ _ (by omega) (by omega)).mono ?_; rintro e w' ⟨rfl, rfl⟩)
      go_loop [3, 4] (fun r b => ∃ k R B : Nat, k ≤ 32 ∧ SqInv n k R B ∧ r = .int .i64 R ∧ b = .int .i64 B) (fun _ b => (intOf b).toNat)
      case atStart => exact ⟨32, 0, 2147483648, by omega, sqInv_start (by omega), rfl, rfl⟩
      case round =>
        obtain ⟨k, R, B, hk, hI, rfl, rfl⟩ := hrel
        rcases k with _ | j
        · obtain rfl := sqInv_zero hI
          have hE := sqInv_end hI (by omega) (by omega)
          have H := Lib.hid hE
          clear hE
          go_wp2_with fail
          go_ret
          exact ⟨ret_int H.out.symm, rfl⟩
        · obtain ⟨g1, g2, g3, g4, g5⟩ := sqInv_succ hI hk (by omega)
          have G1 := Lib.hid g1
          clear g1 g5
          have hb0 : ¬ ((R : Int) + B = 0) := by omega
          have hd := Fx.le_div_iff (n := n) (R := R) (B := B) (by omega) (by omega)
          have HD := Lib.hid hd
          clear hd
          go_wp2_with fail
          · go_round
            case rel => exact ⟨j, R + B, B / 2, by omega, sqInv_yes hI G1.out (HD.out.1 (by assumption)), by go_num, congrArg (Value.int .i64) (by omega)⟩
            case measure => simp [intOf]; omega
          · go_round
            case rel =>
              have hy : n / ((R : Int) + B) < (R : Int) + B := by assumption
              exact ⟨j, R, B / 2, by omega, sqInv_no hI G1.out (by have := HD.out.2; omega), rfl, congrArg (Value.int .i64) (by omega)⟩
            case measure => simp [intOf]; omega
end Go.Proofs.Ytbichdbapkpjpaa
