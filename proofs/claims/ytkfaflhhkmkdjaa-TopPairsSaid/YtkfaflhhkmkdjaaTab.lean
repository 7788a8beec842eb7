/- The seat's table of types, checked. -/
import Derived.Test.YtkfaflhhkmkdjaaEC
import Derived.Test.YtkfaflhhkmkdjaaProg
namespace Go.Proofs.Ytkfaflhhkmkdjaa
open Ev
def T : Tab := [
  (3, { k := .int .i64, size := 1, bytes := 8, zero := [.lit .i64 0], flat := false }),
  (4, { k := .bool, size := 1, bytes := 1, zero := [.blit false], flat := false }),
  (29, { k := .struct [(0, 3), (1, 3)], size := 2, bytes := 16, zero := [.lit .i64 0, .lit .i64 0], flat := true }),
  (31, { k := .struct [(0, 29), (2, 29)], size := 4, bytes := 32, zero := [.lit .i64 0, .lit .i64 0, .lit .i64 0, .lit .i64 0], flat := true }),
  (48, { k := .int .i64, size := 1, bytes := 8, zero := [.lit .i64 0], flat := false }),
  (2, { k := .int .i64, size := 1, bytes := 8, zero := [.lit .i64 0], flat := false }),
  (5, { k := .int .u8, size := 1, bytes := 1, zero := [.lit .u8 0], flat := false }),
  (12, { k := .int .u64, size := 1, bytes := 8, zero := [.lit .u64 0], flat := false }),
  (21, { k := .int .i32, size := 1, bytes := 4, zero := [.lit .i32 0], flat := false }),
  (22, { k := .slice 33, size := 1, bytes := 24, zero := [.nils], flat := false }),
  (23, { k := .ptr 47, size := 1, bytes := 8, zero := [.cst (.pointer none)], flat := false }),
  (26, { k := .slice 41, size := 1, bytes := 24, zero := [.nils], flat := false }),
  (33, { k := .struct [(0, 5), (1, 3), (2, 31)], size := 6, bytes := 48, zero := [.lit .u8 0, .lit .i64 0, .lit .i64 0, .lit .i64 0, .lit .i64 0, .lit .i64 0], flat := false }),
  (35, { k := .slice 50, size := 1, bytes := 24, zero := [.nils], flat := false }),
  (41, { k := .struct [(0, 3), (1, 31)], size := 5, bytes := 40, zero := [.lit .i64 0, .lit .i64 0, .lit .i64 0, .lit .i64 0, .lit .i64 0], flat := true }),
  (44, { k := .map 3 45, size := 1, bytes := 8, zero := [.cst (.map none)], flat := false }),
  (45, { k := .ptr 57, size := 1, bytes := 8, zero := [.cst (.pointer none)], flat := false }),
  (47, { k := .struct [(0, 45), (1, 44)], size := 2, bytes := 16, zero := [.cst (.pointer none), .cst (.map none)], flat := false, st := 2 }),
  (50, { k := .array 2 3, size := 2, bytes := 16, zero := [.lit .i64 0, .lit .i64 0], flat := true }),
  (52, { k := .slice 3, size := 1, bytes := 24, zero := [.nils], flat := false }),
  (57, { k := .struct [(0, 31), (4, 45), (5, 45), (6, 45), (7, 3), (8, 3)], size := 9, bytes := 72, zero := [.lit .i64 0, .lit .i64 0, .lit .i64 0, .lit .i64 0, .cst (.pointer none), .cst (.pointer none), .cst (.pointer none), .lit .i64 0, .lit .i64 0], flat := false, st := 1 }),
  (70, { k := .map 3 4, size := 1, bytes := 8, zero := [.cst (.map none)], flat := false }),
  (77, { k := .int .u64, size := 1, bytes := 8, zero := [.lit .u64 0], flat := false }),
  (84, { k := .int .i64, size := 1, bytes := 8, zero := [.lit .i64 0], flat := false }),
  (92, { k := .int .u32, size := 1, bytes := 4, zero := [.lit .u32 0], flat := false }),
  (94, { k := .int .u64, size := 1, bytes := 8, zero := [.lit .u64 0], flat := false }),
  (104, { k := .int .u64, size := 1, bytes := 8, zero := [.lit .u64 0], flat := false }),
  (108, { k := .ptr 3, size := 1, bytes := 8, zero := [.cst (.pointer none)], flat := false }),
  (113, { k := .ptr 104, size := 1, bytes := 8, zero := [.cst (.pointer none)], flat := false }),
  (126, { k := .ptr 5, size := 1, bytes := 8, zero := [.cst (.pointer none)], flat := false }),
  (28, { k := .struct [(0, 3), (1, 3)], size := 2, bytes := 16, zero := [.lit .i64 0, .lit .i64 0], flat := true }),
  (30, { k := .struct [(0, 29), (2, 29)], size := 4, bytes := 32, zero := [.lit .i64 0, .lit .i64 0, .lit .i64 0, .lit .i64 0], flat := true }),
  (32, { k := .struct [(0, 5), (1, 3), (2, 31)], size := 6, bytes := 48, zero := [.lit .u8 0, .lit .i64 0, .lit .i64 0, .lit .i64 0, .lit .i64 0, .lit .i64 0], flat := false }),
  (40, { k := .struct [(0, 3), (1, 31)], size := 5, bytes := 40, zero := [.lit .i64 0, .lit .i64 0, .lit .i64 0, .lit .i64 0, .lit .i64 0], flat := true }),
  (46, { k := .struct [(0, 45), (1, 44)], size := 2, bytes := 16, zero := [.cst (.pointer none), .cst (.map none)], flat := false }),
  (56, { k := .struct [(0, 31), (4, 45), (5, 45), (6, 45), (7, 3), (8, 3)], size := 9, bytes := 72, zero := [.lit .i64 0, .lit .i64 0, .lit .i64 0, .lit .i64 0, .cst (.pointer none), .cst (.pointer none), .cst (.pointer none), .lit .i64 0, .lit .i64 0], flat := false })]
theorem T_ok : T.Ok Try.prog := tabChk_ok (by kernel_rfl)
theorem mixed : Try.prog.follows .mixedOrders = true := by kernel_rfl
end Go.Proofs.Ytkfaflhhkmkdjaa
