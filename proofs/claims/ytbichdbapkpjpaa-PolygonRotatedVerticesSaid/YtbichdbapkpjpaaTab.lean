/- The seat's table of types, checked. -/
import Derived.Test.YtbichdbapkpjpaaEvK
import Derived.Test.YtbichdbapkpjpaaProg
namespace Go.Proofs.Ytbichdbapkpjpaa
open Ev
def T : Tab := [
  (3, { k := .int .i64, size := 1, bytes := 8, zero := [.lit .i64 0], flat := false }),
  (4, { k := .bool, size := 1, bytes := 1, zero := [.blit false], flat := false }),
  (27, { k := .struct [(0, 3), (1, 3)], size := 2, bytes := 16, zero := [.lit .i64 0, .lit .i64 0], flat := true }),
  (22, { k := .slice 27, size := 1, bytes := 24, zero := [.nils], flat := false }),
  (49, { k := .array 2 27, size := 4, bytes := 32, zero := [.lit .i64 0, .lit .i64 0, .lit .i64 0, .lit .i64 0], flat := false }),
  (2, { k := .int .i64, size := 1, bytes := 8, zero := [.lit .i64 0], flat := false }),
  (5, { k := .int .u8, size := 1, bytes := 1, zero := [.lit .u8 0], flat := false }),
  (12, { k := .int .u64, size := 1, bytes := 8, zero := [.lit .u64 0], flat := false }),
  (21, { k := .int .i32, size := 1, bytes := 4, zero := [.lit .i32 0], flat := false }),
  (39, { k := .slice 45, size := 1, bytes := 24, zero := [.nils], flat := false }),
  (45, { k := .struct [(0, 27), (2, 27), (4, 3)], size := 5, bytes := 40, zero := [.lit .i64 0, .lit .i64 0, .lit .i64 0, .lit .i64 0, .lit .i64 0], flat := true }),
  (56, { k := .int .u64, size := 1, bytes := 8, zero := [.lit .u64 0], flat := false }),
  (57, { k := .int .u64, size := 1, bytes := 8, zero := [.lit .u64 0], flat := false }),
  (65, { k := .int .u32, size := 1, bytes := 4, zero := [.lit .u32 0], flat := false }),
  (69, { k := .ptr 5, size := 1, bytes := 8, zero := [.cst (.pointer none)], flat := false }),
  (26, { k := .struct [(0, 3), (1, 3)], size := 2, bytes := 16, zero := [.lit .i64 0, .lit .i64 0], flat := true }),
  (44, { k := .struct [(0, 27), (2, 27), (4, 3)], size := 5, bytes := 40, zero := [.lit .i64 0, .lit .i64 0, .lit .i64 0, .lit .i64 0, .lit .i64 0], flat := true })]
theorem T_ok : T.Ok Try.prog := tabChk_ok (by kernel_rfl)
theorem mixed : Try.prog.follows .mixedOrders = true := by kernel_rfl
end Go.Proofs.Ytbichdbapkpjpaa
