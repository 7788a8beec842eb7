/- The walks of package fixed and of its reference, continued: Div, Ratio, Isqrt, Sqrt, Lerp. -/
import Derived.Test.YtkfaflhhkmkdjaaFw
import Derived.LoopTactic
import Derived.Laws.BitsAllLaws
import Derived.Laws.BitsLemmas
namespace Go.Proofs.Ytkfaflhhkmkdjaa
open Go.RowKit Fx

theorem ofInt_i64 (a : Nat) (ha : a < 9223372036854775808) : (BitVec.ofInt 64 (a : Int)).toNat = a := by
  rw [BitVec.ofInt_natCast, BitVec.toNat_ofNat]; exact Nat.mod_eq_of_lt (by omega)
theorem i64_or_nat (a b : Nat) (ha : a < 9223372036854775808) (hb : b < 9223372036854775808) : bits .or .i64 (a : Int) (b : Int) = ((a ||| b : Nat) : Int) := by
  have hx : a ||| b < 2 ^ 63 := Nat.or_lt_two_pow (by omega) (by omega)
  show IntKind.i64.wrap ((BitVec.ofInt 64 (a : Int) ||| BitVec.ofInt 64 (b : Int)).toNat : Int) = _
  rw [BitVec.toNat_or, ofInt_i64 a ha, ofInt_i64 b hb, IntKind.wrap_i64]
  omega
theorem u64_wrap_id {x : Int} (h : 0 ≤ x) (h' : x ≤ 10376293541461622784) : IntKind.u64.wrap x = x := by
  rw [IntKind.wrap_u64]; omega
end Go.Proofs.Ytkfaflhhkmkdjaa
