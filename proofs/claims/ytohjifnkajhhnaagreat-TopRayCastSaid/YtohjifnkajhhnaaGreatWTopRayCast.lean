/- The walk of the law caromtop.TopRayCast: it returns true, whatever the world holds. -/
import Derived.Test.YtohjifnkajhhnaaGreatRZ
import Derived.Test.YtohjifnkajhhnaaGreatFd
namespace Go.Proofs.YtohjifnkajhhnaaGreat
open Go.RowKit Fx Vx Bx Ev
set_option linter.unusedVariables false
set_option linter.unusedSimpArgs false
set_option maxRecDepth 100000 in
theorem walk_TopRayCast (ws : Array Value) (f : Nat → DV) (W : World) (hsz : ws.size = 11) (hf : ∀ j c, worldC[j]? = some c → ∃ y, ws[j]? = some y ∧ Frame.ColV W c (f j) y) (ax ay bx by_ mk : Int) :
    Calls Tryz.prog 3 #[.agg ws, .agg #[.int .i64 ax, .int .i64 ay], .agg #[.int .i64 bx, .int .i64 by_], .int .i64 mk] W fun e w' => e = .returned (.bool true) ∧ Below W.heap.size W w' := by
  obtain ⟨ws⟩ := ws
  match ws, hsz with
  | [y0, y1, y2, y3, y4, y5, y6, y7, y8, y9, y10], _ =>
  obtain ⟨_, e0, g0⟩ := hf 0 _ rfl; cases e0
  obtain ⟨_, e1, g1⟩ := hf 1 _ rfl; cases e1
  obtain ⟨_, e2, g2⟩ := hf 2 _ rfl; cases e2
  obtain ⟨_, e3, g3⟩ := hf 3 _ rfl; cases e3
  obtain ⟨_, e4, g4⟩ := hf 4 _ rfl; cases e4
  obtain ⟨_, e5, g5⟩ := hf 5 _ rfl; cases e5
  obtain ⟨_, e6, g6⟩ := hf 6 _ rfl; cases e6
  obtain ⟨_, e7, g7⟩ := hf 7 _ rfl; cases e7
  obtain ⟨_, e8, g8⟩ := hf 8 _ rfl; cases e8
  obtain ⟨_, e9, g9⟩ := hf 9 _ rfl; cases e9
  obtain ⟨_, e10, g10⟩ := hf 10 _ rfl; cases e10
  exact Frame.calls_deep con_TopRayCast [.agg [.int .i64 (f 0).i, .int .i64 (f 1).i, .int .i64 (f 2).i, .int .i64 (f 3).i, .int .i64 (f 4).i, .ds (f 5).nl bodyC (f 5).D, .ds (f 6).nl jointC (f 6).D, .ds (f 7).nl contactC (f 7).D, .ds (f 8).nl keyC' (f 8).D, .int .i64 (f 9).i, .int .i64 (f 10).i], .agg [.int .i64 ax, .int .i64 ay], .agg [.int .i64 bx, .int .i64 by_], .int .i64 mk] _ [.agg #[y0, y1, y2, y3, y4, y5, y6, y7, y8, y9, y10], .agg #[.int .i64 ax, .int .i64 ay], .agg #[.int .i64 bx, .int .i64 by_], .int .i64 mk] rfl (fun p hp => (by cases hp)) W
    ⟨⟨_, rfl, g0, g1, g2, g3, g4, g5, g6, g7, g8, g9, g10, trivial⟩, ⟨_, rfl, rfl, rfl, trivial⟩, ⟨_, rfl, rfl, rfl, trivial⟩, rfl, trivial⟩ rfl
end Go.Proofs.YtohjifnkajhhnaaGreat
