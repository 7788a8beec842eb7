/- Contracts of packages aabb and caromref05: what only computes. -/
import Derived.Test.YtdoagjphjnbbnaaK3
import Derived.Test.YtdoagjphjnbbnaaBx
namespace Go.Proofs.Ytdoagjphjnbbnaa
open Go.RowKit Fx Vx Bx Ev
set_option linter.unusedVariables false
set_option linter.unusedSimpArgs false

def c_aabb_saturated : Con := ⟨90, pureRun [2] (fun _ => []) fun | [a, b] => .bool (satB a b) | _ => .any⟩
set_option maxRecDepth 100000 in
set_option maxHeartbeats 1000000 in
theorem con_aabb_saturated : c_aabb_saturated.Ok Try.prog := by
  refine con_pure (C := [c_fixed_Saturate]) (pl := [(1, [0, 1, 2, 3, 4, 5, 6, 7, 8, 9, 10, 11, 12, 13, 14], [0, 1, 3, 0, 8, 31, 63, 127, 255, 511, 127, 1151, 4095, 8191, 16383])]) Try.func90 rfl (by kernel_rfl) T_ok (Cons.cons con_fixed_Saturate (Cons.nil _)) mixed (by kernel_rfl) _ _ _ (fun l hl hpre => ?_)
  match l, hl with
  | [a, b], _ =>
    repeat' (first | (with_reducible refine And.intro ?_ ?_) | (with_reducible intro h) | ((fail_if_success (with_reducible refine Leaf.mk ?_)); (fail_if_success (with_reducible refine VC.mk ?_)); (fail_if_success (with_reducible refine Goes.mk ?_)); (fail_if_success (with_reducible refine Again.mk ?_)); (fail_if_success (with_reducible refine Rounds.mk ?_)); (fail_if_success (with_reducible show False)); (fail_if_success (with_reducible show True)); conv => whnf))
    all_goals (refine Leaf.mk ?_; simp only [decide_eq_true_eq, decide_eq_false_iff_not] at *; simp [satB, *]; try first | rfl | omega)
def c_aabb_saturate : Con := ⟨73, pureRun [2] (fun _ => []) fun | [a, b] => .agg [.int .i64 (sat a), .int .i64 (sat b)] | _ => .any⟩
set_option maxRecDepth 100000 in
set_option maxHeartbeats 1000000 in
theorem con_aabb_saturate : c_aabb_saturate.Ok Try.prog := by
  refine con_pure (C := [c_fixed_Saturate]) (pl := [(1, [0, 1, 2, 3, 4, 5, 6, 7], [0, 1, 3, 0, 8, 31, 63, 127])]) Try.func73 rfl (by kernel_rfl) T_ok (Cons.cons con_fixed_Saturate (Cons.nil _)) mixed (by kernel_rfl) _ _ _ (fun l hl hpre => ?_)
  match l, hl with
  | [a, b], _ =>
    repeat' (first | (with_reducible refine And.intro ?_ ?_) | (with_reducible intro h) | ((fail_if_success (with_reducible refine Leaf.mk ?_)); (fail_if_success (with_reducible refine VC.mk ?_)); (fail_if_success (with_reducible refine Goes.mk ?_)); (fail_if_success (with_reducible refine Again.mk ?_)); (fail_if_success (with_reducible refine Rounds.mk ?_)); (fail_if_success (with_reducible show False)); (fail_if_success (with_reducible show True)); conv => whnf))
    all_goals first | (refine VC.mk ?_; simp only [InR]; omega) | exact ⟨rfl⟩
def c_aabb_lower : Con := ⟨74, pureRun [2, 2] (fun _ => []) fun | [a, b, c, d] => .agg [.int .i64 (min a c), .int .i64 (min b d)] | _ => .any⟩
set_option maxRecDepth 100000 in
set_option maxHeartbeats 1000000 in
theorem con_aabb_lower : c_aabb_lower.Ok Try.prog := by
  refine con_pure (C := []) (pl := []) Try.func74 rfl (by kernel_rfl) T_ok (Cons.nil _) mixed (by kernel_rfl) _ _ _ (fun l hl hpre => ?_)
  match l, hl with
  | [a, b, c, d], _ =>
    repeat' (first | (with_reducible refine And.intro ?_ ?_) | (with_reducible intro h) | ((fail_if_success (with_reducible refine Leaf.mk ?_)); (fail_if_success (with_reducible refine VC.mk ?_)); (fail_if_success (with_reducible refine Goes.mk ?_)); (fail_if_success (with_reducible refine Again.mk ?_)); (fail_if_success (with_reducible refine Rounds.mk ?_)); (fail_if_success (with_reducible show False)); (fail_if_success (with_reducible show True)); conv => whnf))
    all_goals first | (refine VC.mk ?_; simp only [InR]; omega) | exact ⟨rfl⟩
def c_aabb_upper : Con := ⟨75, pureRun [2, 2] (fun _ => []) fun | [a, b, c, d] => .agg [.int .i64 (max a c), .int .i64 (max b d)] | _ => .any⟩
set_option maxRecDepth 100000 in
set_option maxHeartbeats 1000000 in
theorem con_aabb_upper : c_aabb_upper.Ok Try.prog := by
  refine con_pure (C := []) (pl := []) Try.func75 rfl (by kernel_rfl) T_ok (Cons.nil _) mixed (by kernel_rfl) _ _ _ (fun l hl hpre => ?_)
  match l, hl with
  | [a, b, c, d], _ =>
    repeat' (first | (with_reducible refine And.intro ?_ ?_) | (with_reducible intro h) | ((fail_if_success (with_reducible refine Leaf.mk ?_)); (fail_if_success (with_reducible refine VC.mk ?_)); (fail_if_success (with_reducible refine Goes.mk ?_)); (fail_if_success (with_reducible refine Again.mk ?_)); (fail_if_success (with_reducible refine Rounds.mk ?_)); (fail_if_success (with_reducible show False)); (fail_if_success (with_reducible show True)); conv => whnf))
    all_goals first | (refine VC.mk ?_; simp only [InR]; omega) | exact ⟨rfl⟩
def c_aabb_Valid : Con := ⟨76, pureRun [4] (fun _ => []) fun | [a, b, c, d] => .bool (validB a b c d) | _ => .any⟩
set_option maxRecDepth 100000 in
set_option maxHeartbeats 1000000 in
theorem con_aabb_Valid : c_aabb_Valid.Ok Try.prog := by
  refine con_pure (C := [c_aabb_saturated]) (pl := []) Try.func76 rfl (by kernel_rfl) T_ok (Cons.cons con_aabb_saturated (Cons.nil _)) mixed (by kernel_rfl) _ _ _ (fun l hl hpre => ?_)
  match l, hl with
  | [a, b, c, d], _ =>
    repeat' (first | (with_reducible refine And.intro ?_ ?_) | (with_reducible intro h) | ((fail_if_success (with_reducible refine Leaf.mk ?_)); (fail_if_success (with_reducible refine VC.mk ?_)); (fail_if_success (with_reducible refine Goes.mk ?_)); (fail_if_success (with_reducible refine Again.mk ?_)); (fail_if_success (with_reducible refine Rounds.mk ?_)); (fail_if_success (with_reducible show False)); (fail_if_success (with_reducible show True)); conv => whnf))
    all_goals (refine Leaf.mk ?_; first | rfl | (simp only [validB, Bool.and_true, Bool.true_and, Bool.and_false, Bool.false_and, *]; done) | (simp [validB, *]; done) | (simp_all [validB]; done))
def c_aabb_overlaps : Con := ⟨87, pureRun [4, 4] (fun _ => []) fun | [a, b, c, d, e, f, g, h] => .bool (overB a b c d e f g h) | _ => .any⟩
set_option maxRecDepth 100000 in
set_option maxHeartbeats 1000000 in
theorem con_aabb_overlaps : c_aabb_overlaps.Ok Try.prog := by
  refine con_pure (C := []) (pl := []) Try.func87 rfl (by kernel_rfl) T_ok (Cons.nil _) mixed (by kernel_rfl) _ _ _ (fun l hl hpre => ?_)
  match l, hl with
  | [a, b, c, d, e, f, g, h], _ =>
    repeat' (first | (with_reducible refine And.intro ?_ ?_) | (with_reducible intro h) | ((fail_if_success (with_reducible refine Leaf.mk ?_)); (fail_if_success (with_reducible refine VC.mk ?_)); (fail_if_success (with_reducible refine Goes.mk ?_)); (fail_if_success (with_reducible refine Again.mk ?_)); (fail_if_success (with_reducible refine Rounds.mk ?_)); (fail_if_success (with_reducible show False)); (fail_if_success (with_reducible show True)); conv => whnf))
    all_goals (refine Leaf.mk ?_; first | rfl | (simp only [overB, Bool.and_true, Bool.true_and, Bool.and_false, Bool.false_and, *]; done) | (simp [overB, *]; done) | (simp_all [overB]; done))
def c_aabb_Overlaps : Con := ⟨68, pureRun [4, 4] (fun _ => []) fun | [a, b, c, d, e, f, g, h] => .bool (overlapsB a b c d e f g h) | _ => .any⟩
set_option maxRecDepth 100000 in
set_option maxHeartbeats 1000000 in
theorem con_aabb_Overlaps : c_aabb_Overlaps.Ok Try.prog := by
  refine con_pure (C := [c_aabb_Valid, c_aabb_overlaps]) (pl := []) Try.func68 rfl (by kernel_rfl) T_ok (Cons.cons con_aabb_Valid (Cons.cons con_aabb_overlaps (Cons.nil _))) mixed (by kernel_rfl) _ _ _ (fun l hl hpre => ?_)
  match l, hl with
  | [a, b, c, d, e, f, g, h], _ =>
    repeat' (first | (with_reducible refine And.intro ?_ ?_) | (with_reducible intro h) | ((fail_if_success (with_reducible refine Leaf.mk ?_)); (fail_if_success (with_reducible refine VC.mk ?_)); (fail_if_success (with_reducible refine Goes.mk ?_)); (fail_if_success (with_reducible refine Again.mk ?_)); (fail_if_success (with_reducible refine Rounds.mk ?_)); (fail_if_success (with_reducible show False)); (fail_if_success (with_reducible show True)); conv => whnf))
    all_goals (refine Leaf.mk ?_; first | rfl | (simp only [overlapsB, Bool.and_true, Bool.true_and, Bool.and_false, Bool.false_and, *]; done) | (simp [overlapsB, *]; done) | (simp_all [overlapsB]; done))
def c_aabb_ContainsPoint : Con := ⟨40, pureRun [4, 2] (fun _ => []) fun | [a, b, c, d, x, y] => .bool (hasB a b c d x y) | _ => .any⟩
set_option maxRecDepth 100000 in
set_option maxHeartbeats 1000000 in
theorem con_aabb_ContainsPoint : c_aabb_ContainsPoint.Ok Try.prog := by
  refine con_pure (C := [c_aabb_Valid, c_aabb_saturate]) (pl := []) Try.func40 rfl (by kernel_rfl) T_ok (Cons.cons con_aabb_Valid (Cons.cons con_aabb_saturate (Cons.nil _))) mixed (by kernel_rfl) _ _ _ (fun l hl hpre => ?_)
  match l, hl with
  | [a, b, c, d, x, y], _ =>
    repeat' (first | (with_reducible refine And.intro ?_ ?_) | (with_reducible intro h) | ((fail_if_success (with_reducible refine Leaf.mk ?_)); (fail_if_success (with_reducible refine VC.mk ?_)); (fail_if_success (with_reducible refine Goes.mk ?_)); (fail_if_success (with_reducible refine Again.mk ?_)); (fail_if_success (with_reducible refine Rounds.mk ?_)); (fail_if_success (with_reducible show False)); (fail_if_success (with_reducible show True)); conv => whnf))
    all_goals (refine Leaf.mk ?_; first | rfl | (simp only [hasB, Bool.and_true, Bool.true_and, Bool.and_false, Bool.false_and, *]; done) | (simp [hasB, *]; done) | (simp_all [hasB]; done))
def c_ref05_SaturateVec : Con := ⟨88, pureRun [2] (fun _ => []) fun | [a, b] => .agg [.int .i64 (sat a), .int .i64 (sat b)] | _ => .any⟩
set_option maxRecDepth 100000 in
set_option maxHeartbeats 1000000 in
theorem con_ref05_SaturateVec : c_ref05_SaturateVec.Ok Try.prog := by
  refine con_pure (C := [c_ref01_Saturate]) (pl := [(1, [0, 1, 2, 3, 4, 5, 6, 7], [0, 1, 3, 0, 8, 31, 63, 127])]) Try.func88 rfl (by kernel_rfl) T_ok (Cons.cons con_ref01_Saturate (Cons.nil _)) mixed (by kernel_rfl) _ _ _ (fun l hl hpre => ?_)
  match l, hl with
  | [a, b], _ =>
    repeat' (first | (with_reducible refine And.intro ?_ ?_) | (with_reducible intro h) | ((fail_if_success (with_reducible refine Leaf.mk ?_)); (fail_if_success (with_reducible refine VC.mk ?_)); (fail_if_success (with_reducible refine Goes.mk ?_)); (fail_if_success (with_reducible refine Again.mk ?_)); (fail_if_success (with_reducible refine Rounds.mk ?_)); (fail_if_success (with_reducible show False)); (fail_if_success (with_reducible show True)); conv => whnf))
    all_goals first | (refine VC.mk ?_; simp only [InR]; omega) | exact ⟨rfl⟩
def c_ref05_Valid : Con := ⟨89, pureRun [4] (fun _ => []) fun | [a, b, c, d] => .bool (validB a b c d) | _ => .any⟩
set_option maxRecDepth 100000 in
set_option maxHeartbeats 1000000 in
theorem con_ref05_Valid : c_ref05_Valid.Ok Try.prog := by
  refine con_pure (C := [c_ref05_SaturateVec]) (pl := [(1, [0, 1, 2, 3, 4, 5, 6, 7, 8, 9, 10, 11, 12, 13, 14, 15, 16, 17, 18, 19, 20, 21, 22, 23, 24, 25, 26, 27, 28, 29, 30, 31, 32], [0, 1, 3, 0, 8, 24, 63, 127, 255, 511, 1023, 255, 2303, 6399, 16383, 32767, 65535, 131071, 262143, 131071, 655359, 1703935, 4194303, 8388607, 16777215, 33554431, 67108863, 33554431, 167772159, 436207615, 1073741823, 2147483647, 4294967295])]) Try.func89 rfl (by kernel_rfl) T_ok (Cons.cons con_ref05_SaturateVec (Cons.nil _)) mixed (by kernel_rfl) _ _ _ (fun l hl hpre => ?_)
  match l, hl with
  | [a, b, c, d], _ =>
    repeat' (first | (with_reducible refine And.intro ?_ ?_) | (with_reducible intro h) | ((fail_if_success (with_reducible refine Leaf.mk ?_)); (fail_if_success (with_reducible refine VC.mk ?_)); (fail_if_success (with_reducible refine Goes.mk ?_)); (fail_if_success (with_reducible refine Again.mk ?_)); (fail_if_success (with_reducible refine Rounds.mk ?_)); (fail_if_success (with_reducible show False)); (fail_if_success (with_reducible show True)); conv => whnf))
    all_goals (refine Leaf.mk ?_; simp only [decide_eq_true_eq, decide_eq_false_iff_not, Bool.and_eq_true, Bool.and_eq_false_iff] at *; simp only [validB, satB]; grind)
def c_ref05_Overlaps : Con := ⟨71, pureRun [4, 4] (fun _ => []) fun | [a, b, c, d, e, f, g, h] => .bool (overlapsB a b c d e f g h) | _ => .any⟩
set_option maxRecDepth 100000 in
set_option maxHeartbeats 1000000 in
theorem con_ref05_Overlaps : c_ref05_Overlaps.Ok Try.prog := by
  refine con_pure (C := [c_ref05_Valid]) (pl := []) Try.func71 rfl (by kernel_rfl) T_ok (Cons.cons con_ref05_Valid (Cons.nil _)) mixed (by kernel_rfl) _ _ _ (fun l hl hpre => ?_)
  match l, hl with
  | [a, b, c, d, e, f, g, h], _ =>
    repeat' (first | (with_reducible refine And.intro ?_ ?_) | (with_reducible intro h) | ((fail_if_success (with_reducible refine Leaf.mk ?_)); (fail_if_success (with_reducible refine VC.mk ?_)); (fail_if_success (with_reducible refine Goes.mk ?_)); (fail_if_success (with_reducible refine Again.mk ?_)); (fail_if_success (with_reducible refine Rounds.mk ?_)); (fail_if_success (with_reducible show False)); (fail_if_success (with_reducible show True)); conv => whnf))
    all_goals (refine Leaf.mk ?_; first | rfl | (simp only [overlapsB, overB, Bool.and_true, Bool.true_and, Bool.and_false, Bool.false_and, *]; done) | (simp [overlapsB, overB, *]; done) | (simp_all [overlapsB, overB]; done))
end Go.Proofs.Ytdoagjphjnbbnaa
