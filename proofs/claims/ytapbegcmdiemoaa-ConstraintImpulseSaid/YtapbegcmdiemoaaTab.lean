/- The seat's table of types, checked. -/
import Derived.Test.YtapbegcmdiemoaaEvK
import Derived.Test.YtapbegcmdiemoaaProg
namespace Go.Proofs.Ytapbegcmdiemoaa
open Ev
def T : Tab := [
  (3, { k := .int .i64, size := 1, bytes := 8, zero := [.lit .i64 0], flat := false }),
  (4, { k := .bool, size := 1, bytes := 1, zero := [.blit false], flat := false }),
  (33, { k := .struct [(0, 3), (1, 3)], size := 2, bytes := 16, zero := [.lit .i64 0, .lit .i64 0], flat := true }),
  (22, { k := .slice 35, size := 1, bytes := 24, zero := [.nils], flat := false }),
  (23, { k := .slice 37, size := 1, bytes := 24, zero := [.nils], flat := false }),
  (35, { k := .struct [(0, 3), (1, 3), (2, 33), (4, 3), (5, 3), (6, 3), (7, 3), (8, 3), (9, 3), (10, 3), (11, 3), (12, 3), (13, 3)], size := 14, bytes := 112, zero := [.lit .i64 0, .lit .i64 0, .lit .i64 0, .lit .i64 0, .lit .i64 0, .lit .i64 0, .lit .i64 0, .lit .i64 0, .lit .i64 0, .lit .i64 0, .lit .i64 0, .lit .i64 0, .lit .i64 0, .lit .i64 0], flat := true }),
  (37, { k := .struct [(0, 33), (2, 3), (3, 3), (4, 3)], size := 5, bytes := 40, zero := [.lit .i64 0, .lit .i64 0, .lit .i64 0, .lit .i64 0, .lit .i64 0], flat := true }),
  (58, { k := .ptr 35, size := 1, bytes := 8, zero := [.cst (.pointer none)], flat := false }),
  (60, { k := .ptr 37, size := 1, bytes := 8, zero := [.cst (.pointer none)], flat := false }),
  (2, { k := .int .i64, size := 1, bytes := 8, zero := [.lit .i64 0], flat := false }),
  (5, { k := .int .u8, size := 1, bytes := 1, zero := [.lit .u8 0], flat := false }),
  (12, { k := .int .u64, size := 1, bytes := 8, zero := [.lit .u64 0], flat := false }),
  (21, { k := .int .i32, size := 1, bytes := 4, zero := [.lit .i32 0], flat := false }),
  (65, { k := .slice 3, size := 1, bytes := 24, zero := [.nils], flat := false }),
  (76, { k := .int .u32, size := 1, bytes := 4, zero := [.lit .u32 0], flat := false }),
  (80, { k := .ptr 5, size := 1, bytes := 8, zero := [.cst (.pointer none)], flat := false }),
  (32, { k := .struct [(0, 3), (1, 3)], size := 2, bytes := 16, zero := [.lit .i64 0, .lit .i64 0], flat := true }),
  (34, { k := .struct [(0, 3), (1, 3), (2, 33), (4, 3), (5, 3), (6, 3), (7, 3), (8, 3), (9, 3), (10, 3), (11, 3), (12, 3), (13, 3)], size := 14, bytes := 112, zero := [.lit .i64 0, .lit .i64 0, .lit .i64 0, .lit .i64 0, .lit .i64 0, .lit .i64 0, .lit .i64 0, .lit .i64 0, .lit .i64 0, .lit .i64 0, .lit .i64 0, .lit .i64 0, .lit .i64 0, .lit .i64 0], flat := true }),
  (36, { k := .struct [(0, 33), (2, 3), (3, 3), (4, 3)], size := 5, bytes := 40, zero := [.lit .i64 0, .lit .i64 0, .lit .i64 0, .lit .i64 0, .lit .i64 0], flat := true })]
theorem T_ok : T.Ok Try.prog := tabChk_ok (by kernel_rfl)
theorem mixed : Try.prog.follows .mixedOrders = true := by kernel_rfl
end Go.Proofs.Ytapbegcmdiemoaa
