/- The walk of ClipSymmetric. -/
import Derived.Test.YthbighklfajmdaaE0
import Derived.Test.YthbighklfajmdaaE1
import Derived.Test.YthbighklfajmdaaE2
import Derived.Test.YthbighklfajmdaaE3
namespace Go.Proofs.Ythbighklfajmdaa
open Go.RowKit Fx Vx Cx
theorem walk_ClipSymmetric (x y i u v j ox oy nx ny : Int) (w : World) :
    Calls Try.prog 4 #[.agg #[.int .i64 x, .int .i64 y, .int .i64 i, .int .i64 u, .int .i64 v, .int .i64 j], .agg #[.int .i64 ox, .int .i64 oy], .agg #[.int .i64 nx, .int .i64 ny]] w fun e w' => e = .returned (.bool true) ∧ Below w.heap.size w w' := by
  by_cases hd : 0 < dot nx ny (sub x ox) (sub y oy)
  · by_cases he : 0 < dot nx ny (sub u ox) (sub v oy)
    · exact symm_out x y i u v j ox oy nx ny w hd he
    · exact symm_first x y i u v j ox oy nx ny w hd he
  · by_cases he : 0 < dot nx ny (sub u ox) (sub v oy)
    · exact symm_second x y i u v j ox oy nx ny w hd he
    · exact symm_in x y i u v j ox oy nx ny w hd he
end Go.Proofs.Ythbighklfajmdaa
