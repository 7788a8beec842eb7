/- The seat's table of types, checked. -/
import Derived.Test.YtdoagjphjnbbnaaEvK
import Derived.Test.YtdoagjphjnbbnaaProg
namespace Go.Proofs.Ytdoagjphjnbbnaa
open Ev
def T : Tab := [
  (3, { k := .int .i64, size := 1, bytes := 8, zero := [.lit .i64 0], flat := false }),
  (4, { k := .bool, size := 1, bytes := 1, zero := [.blit false], flat := false }),
  (24, { k := .struct [(0, 3), (1, 3)], size := 2, bytes := 16, zero := [.lit .i64 0, .lit .i64 0], flat := true }),
  (22, { k := .slice 24, size := 1, bytes := 24, zero := [.nils], flat := false }),
  (47, { k := .struct [(0, 24), (2, 24)], size := 4, bytes := 32, zero := [.lit .i64 0, .lit .i64 0, .lit .i64 0, .lit .i64 0], flat := true }),
  (2, { k := .int .i64, size := 1, bytes := 8, zero := [.lit .i64 0], flat := false }),
  (5, { k := .int .u8, size := 1, bytes := 1, zero := [.lit .u8 0], flat := false }),
  (12, { k := .int .u64, size := 1, bytes := 8, zero := [.lit .u64 0], flat := false }),
  (21, { k := .int .i32, size := 1, bytes := 4, zero := [.lit .i32 0], flat := false }),
  (64, { k := .struct [(0, 24), (2, 24)], size := 4, bytes := 32, zero := [.lit .i64 0, .lit .i64 0, .lit .i64 0, .lit .i64 0], flat := true }),
  (65, { k := .slice 64, size := 1, bytes := 24, zero := [.nils], flat := false }),
  (70, { k := .int .u64, size := 1, bytes := 8, zero := [.lit .u64 0], flat := false }),
  (71, { k := .int .u64, size := 1, bytes := 8, zero := [.lit .u64 0], flat := false }),
  (79, { k := .int .u32, size := 1, bytes := 4, zero := [.lit .u32 0], flat := false }),
  (83, { k := .ptr 5, size := 1, bytes := 8, zero := [.cst (.pointer none)], flat := false }),
  (23, { k := .struct [(0, 3), (1, 3)], size := 2, bytes := 16, zero := [.lit .i64 0, .lit .i64 0], flat := true }),
  (46, { k := .struct [(0, 24), (2, 24)], size := 4, bytes := 32, zero := [.lit .i64 0, .lit .i64 0, .lit .i64 0, .lit .i64 0], flat := true }),
  (63, { k := .struct [(0, 24), (2, 24)], size := 4, bytes := 32, zero := [.lit .i64 0, .lit .i64 0, .lit .i64 0, .lit .i64 0], flat := true })]
theorem T_ok : T.Ok Try.prog := tabChk_ok (by kernel_rfl)
theorem mixed : Try.prog.follows .mixedOrders = true := by kernel_rfl
end Go.Proofs.Ytdoagjphjnbbnaa
