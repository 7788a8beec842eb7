/- The seat's table of types, checked. -/
import Derived.Test.YtconaehajaifhaaEC
import Derived.Test.YtconaehajaifhaaProg
namespace Go.Proofs.Ytconaehajaifhaa
open Ev
def T : Tab := [
  (3, { k := .int .i64, size := 1, bytes := 8, zero := [.lit .i64 0], flat := false }),
  (4, { k := .bool, size := 1, bytes := 1, zero := [.blit false], flat := false }),
  (28, { k := .struct [(0, 3), (1, 3)], size := 2, bytes := 16, zero := [.lit .i64 0, .lit .i64 0], flat := true }),
  (25, { k := .int .i64, size := 1, bytes := 8, zero := [.lit .i64 0], flat := false }),
  (30, { k := .struct [(0, 28), (2, 28)], size := 4, bytes := 32, zero := [.lit .i64 0, .lit .i64 0, .lit .i64 0, .lit .i64 0], flat := true }),
  (39, { k := .slice 30, size := 1, bytes := 24, zero := [.nils], flat := false }),
  (81, { k := .slice 28, size := 1, bytes := 24, zero := [.nils], flat := false }),
  (2, { k := .int .i64, size := 1, bytes := 8, zero := [.lit .i64 0], flat := false }),
  (5, { k := .int .u8, size := 1, bytes := 1, zero := [.lit .u8 0], flat := false }),
  (12, { k := .int .u64, size := 1, bytes := 8, zero := [.lit .u64 0], flat := false }),
  (21, { k := .int .i32, size := 1, bytes := 4, zero := [.lit .i32 0], flat := false }),
  (22, { k := .int .i16, size := 1, bytes := 2, zero := [.lit .i16 0], flat := false }),
  (23, { k := .ptr 69, size := 1, bytes := 8, zero := [.cst (.pointer none)], flat := false }),
  (41, { k := .slice 3, size := 1, bytes := 24, zero := [.nils], flat := false }),
  (43, { k := .slice 57, size := 1, bytes := 24, zero := [.nils], flat := false }),
  (47, { k := .slice 51, size := 1, bytes := 24, zero := [.nils], flat := false }),
  (51, { k := .struct [(0, 3), (1, 3), (2, 30)], size := 6, bytes := 48, zero := [.lit .i64 0, .lit .i64 0, .lit .i64 0, .lit .i64 0, .lit .i64 0, .lit .i64 0], flat := true }),
  (57, { k := .array 2 3, size := 2, bytes := 16, zero := [.lit .i64 0, .lit .i64 0], flat := true }),
  (60, { k := .ptr 62, size := 1, bytes := 8, zero := [.cst (.pointer none)], flat := false }),
  (62, { k := .struct [(0, 41), (1, 39), (2, 4)], size := 3, bytes := 56, zero := [.nils, .nils, .blit false], flat := false }),
  (66, { k := .ptr 72, size := 1, bytes := 8, zero := [.cst (.pointer none)], flat := false }),
  (67, { k := .map 3 66, size := 1, bytes := 8, zero := [.cst (.map none)], flat := false }),
  (69, { k := .struct [(0, 66), (1, 67)], size := 2, bytes := 16, zero := [.cst (.pointer none), .cst (.map none)], flat := false, st := 2 }),
  (72, { k := .struct [(0, 30), (4, 66), (5, 66), (6, 66), (7, 3), (8, 3)], size := 9, bytes := 72, zero := [.lit .i64 0, .lit .i64 0, .lit .i64 0, .lit .i64 0, .cst (.pointer none), .cst (.pointer none), .cst (.pointer none), .lit .i64 0, .lit .i64 0], flat := false, st := 1 }),
  (102, { k := .int .u32, size := 1, bytes := 4, zero := [.lit .u32 0], flat := false }),
  (106, { k := .ptr 5, size := 1, bytes := 8, zero := [.cst (.pointer none)], flat := false }),
  (27, { k := .struct [(0, 3), (1, 3)], size := 2, bytes := 16, zero := [.lit .i64 0, .lit .i64 0], flat := true }),
  (29, { k := .struct [(0, 28), (2, 28)], size := 4, bytes := 32, zero := [.lit .i64 0, .lit .i64 0, .lit .i64 0, .lit .i64 0], flat := true }),
  (50, { k := .struct [(0, 3), (1, 3), (2, 30)], size := 6, bytes := 48, zero := [.lit .i64 0, .lit .i64 0, .lit .i64 0, .lit .i64 0, .lit .i64 0, .lit .i64 0], flat := true }),
  (61, { k := .struct [(0, 41), (1, 39), (2, 4)], size := 3, bytes := 56, zero := [.nils, .nils, .blit false], flat := false }),
  (68, { k := .struct [(0, 66), (1, 67)], size := 2, bytes := 16, zero := [.cst (.pointer none), .cst (.map none)], flat := false }),
  (71, { k := .struct [(0, 30), (4, 66), (5, 66), (6, 66), (7, 3), (8, 3)], size := 9, bytes := 72, zero := [.lit .i64 0, .lit .i64 0, .lit .i64 0, .lit .i64 0, .cst (.pointer none), .cst (.pointer none), .cst (.pointer none), .lit .i64 0, .lit .i64 0], flat := false })]
theorem T_ok : T.Ok Try.prog := tabChk_ok (by kernel_rfl)
theorem mixed : Try.prog.follows .mixedOrders = true := by kernel_rfl
end Go.Proofs.Ytconaehajaifhaa
