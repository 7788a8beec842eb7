/- The walk of caromlaw05.AABBMatchesReference. -/
import Derived.Test.YthbighklfajmdaaK10
namespace Go.Proofs.Ythbighklfajmdaa
open Go.RowKit Fx Vx Bx Ev
set_option linter.unusedVariables false
set_option linter.unusedSimpArgs false

def c_law05_AABBMatchesReference : Con := ⟨11, pureRun [4, 4, 2, 0] (fun _ => []) fun _ => .bool true⟩
set_option maxRecDepth 100000 in
set_option maxHeartbeats 1000000 in
theorem con_law05_AABBMatchesReference : c_law05_AABBMatchesReference.Ok Try.prog := by
  refine con_pure (C := [c_aabb_Valid, c_ref05_Valid, c_aabb_Union, c_ref05_Union, c_aabb_Overlaps, c_ref05_Overlaps, c_aabb_Contains, c_ref05_Contains, c_aabb_ContainsPoint, c_ref05_ContainsPoint, c_aabb_Expand, c_ref05_Expand, c_aabb_HalfPerimeter, c_ref05_HalfPerimeter, c_law05_example]) (pl := [(1, [0, 1, 2, 3, 4, 5, 6, 7, 8, 9, 10, 11, 12, 13, 14, 15, 16, 17, 18, 19, 20, 21, 22, 23, 24, 25, 26, 27, 28, 29, 30, 31], [0, 1, 0, 7, 15, 31, 63, 63, 255, 63, 63, 2047, 4095, 8191, 16383, 32767, 32767, 131071, 32767, 32767, 1048575, 2097151, 4194303, 8388607, 16777215, 16777215, 67108863, 16777215, 16777215, 536870911, 1073741823, 2147483647]), (3, [0, 1, 2, 3, 4, 5, 6, 7, 8, 9, 10, 11, 12, 13, 14, 15, 16, 17, 18, 19, 20, 21, 22, 23, 24, 25, 26], [0, 0, 3, 0, 0, 31, 63, 127, 255, 255, 1023, 255, 255, 8191, 16383, 32767, 65535, 131071, 262143, 131071, 1048575, 2097151, 4194303, 8388607, 16777215, 33554431, 67108863])]) Try.func11 rfl (by kernel_rfl) T_ok
    (Cons.cons con_aabb_Valid (Cons.cons con_ref05_Valid (Cons.cons con_aabb_Union (Cons.cons con_ref05_Union (Cons.cons con_aabb_Overlaps (Cons.cons con_ref05_Overlaps (Cons.cons con_aabb_Contains (Cons.cons con_ref05_Contains (Cons.cons con_aabb_ContainsPoint (Cons.cons con_ref05_ContainsPoint (Cons.cons con_aabb_Expand (Cons.cons con_ref05_Expand (Cons.cons con_aabb_HalfPerimeter (Cons.cons con_ref05_HalfPerimeter (Cons.cons con_law05_example (Cons.nil _)))))))))))))))) mixed (by kernel_rfl) _ _ _ (fun l hl hpre => ?_)
  match l, hl with
  | [a, b, c, d, e, f, g, h, x, y, m], _ =>
    repeat' (first | (with_reducible refine And.intro ?_ ?_) | (with_reducible intro h) | ((fail_if_success (with_reducible refine Leaf.mk ?_)); (fail_if_success (with_reducible refine VC.mk ?_)); (fail_if_success (with_reducible refine Goes.mk ?_)); (fail_if_success (with_reducible refine Again.mk ?_)); (fail_if_success (with_reducible refine Rounds.mk ?_)); (fail_if_success (with_reducible show False)); (fail_if_success (with_reducible show True)); conv => whnf))
    all_goals try first | exact trivial | (refine Leaf.mk ?_; simp_all; done)

theorem walk_AABBMatchesReference (a b c d e f g h x y m : Int) (w : World) :
    Calls Try.prog 11 #[.agg #[.int .i64 a, .int .i64 b, .int .i64 c, .int .i64 d], .agg #[.int .i64 e, .int .i64 f, .int .i64 g, .int .i64 h], .agg #[.int .i64 x, .int .i64 y], .int .i64 m] w fun e w' => e = .returned (.bool true) ∧ Below w.heap.size w w' :=
  calls_con con_law05_AABBMatchesReference [.agg [.int .i64 a, .int .i64 b, .int .i64 c, .int .i64 d], .agg [.int .i64 e, .int .i64 f, .int .i64 g, .int .i64 h], .agg [.int .i64 x, .int .i64 y], .int .i64 m] [a, b, c, d, e, f, g, h, x, y, m] [.agg #[.int .i64 a, .int .i64 b, .int .i64 c, .int .i64 d], .agg #[.int .i64 e, .int .i64 f, .int .i64 g, .int .i64 h], .agg #[.int .i64 x, .int .i64 y], .int .i64 m] rfl (fun p hp => by cases hp) ⟨⟨_, rfl, rfl, rfl, rfl, rfl, trivial⟩, ⟨_, rfl, rfl, rfl, rfl, rfl, trivial⟩, ⟨_, rfl, rfl, rfl, trivial⟩, rfl, trivial⟩ rfl w
end Go.Proofs.Ythbighklfajmdaa
