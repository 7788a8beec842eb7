/- The walk of Vec2QuarterTurns. -/
import Derived.Test.YtdinlkdmolcppaaQ0
import Derived.Test.YtdinlkdmolcppaaQ1
import Derived.Test.YtdinlkdmolcppaaQ2
import Derived.Test.YtdinlkdmolcppaaQ3
namespace Go.Proofs.Ytdinlkdmolcppaa
open Go.RowKit Fx Vx
theorem walk_Vec2QuarterTurns (x y n : Int) (_ : -9223372036854775808 ≤ x ∧ x ≤ 9223372036854775807) (_ : -9223372036854775808 ≤ y ∧ y ≤ 9223372036854775807) (hn : 0 ≤ n ∧ n ≤ 255) (w : World) :
    Calls Try.prog 13 #[.agg #[.int .i64 x, .int .i64 y], .int .u8 n] w fun e w' => e = .returned (.bool true) ∧ Below w.heap.size w w' := by
  have h : n % 4 = 0 ∨ n % 4 = 1 ∨ n % 4 = 2 ∨ n % 4 = 3 := by omega
  rcases h with h | h | h | h
  · exact quarter0 x y n hn.1 hn.2 h w
  · exact quarter1 x y n hn.1 hn.2 h w
  · exact quarter2 x y n hn.1 hn.2 h w
  · exact quarter3 x y n hn.1 hn.2 h w
end Go.Proofs.Ytdinlkdmolcppaa
