/- Contracts of package vec2 and of caromref03. -/
import Derived.Test.YtdoagjphjnbbnaaK1
import Derived.Test.YtdoagjphjnbbnaaVx
namespace Go.Proofs.Ytdoagjphjnbbnaa
open Go.RowKit Fx Vx Ev
set_option linter.unusedVariables false
set_option linter.unusedSimpArgs false

def c_vec2_saturate : Con := ⟨81, pureRun [2] (fun _ => []) fun | [a, b] => .agg [.int .i64 (sat a), .int .i64 (sat b)] | _ => .any⟩
set_option maxRecDepth 100000 in
set_option maxHeartbeats 1000000 in
theorem con_vec2_saturate : c_vec2_saturate.Ok Try.prog := by
  refine con_pure (C := [c_fixed_Saturate]) (pl := [(1, [0, 1, 2, 3, 4, 5, 6, 7], [0, 1, 3, 0, 8, 31, 63, 127])]) Try.func81 rfl (by kernel_rfl) T_ok (Cons.cons con_fixed_Saturate (Cons.nil _)) mixed (by kernel_rfl) _ _ _ (fun l hl hpre => ?_)
  match l, hl with
  | [a, b], _ =>
    repeat' (first | (with_reducible refine And.intro ?_ ?_) | (with_reducible intro h) | ((fail_if_success (with_reducible refine Leaf.mk ?_)); (fail_if_success (with_reducible refine VC.mk ?_)); (fail_if_success (with_reducible refine Goes.mk ?_)); (fail_if_success (with_reducible refine Again.mk ?_)); (fail_if_success (with_reducible refine Rounds.mk ?_)); (fail_if_success (with_reducible show False)); (fail_if_success (with_reducible show True)); conv => whnf))
    all_goals first | (refine VC.mk ?_; simp only [InR]; omega) | exact ⟨rfl⟩
def c_ref03_Saturated : Con := ⟨51, pureRun [2] (fun _ => []) fun | [a, b] => .agg [.int .i64 (sat a), .int .i64 (sat b)] | _ => .any⟩
set_option maxRecDepth 100000 in
set_option maxHeartbeats 1000000 in
theorem con_ref03_Saturated : c_ref03_Saturated.Ok Try.prog := by
  refine con_pure (C := [c_ref01_Saturate]) (pl := [(1, [0, 1, 2, 3, 4, 5, 6, 7], [0, 1, 3, 0, 8, 31, 63, 127])]) Try.func51 rfl (by kernel_rfl) T_ok (Cons.cons con_ref01_Saturate (Cons.nil _)) mixed (by kernel_rfl) _ _ _ (fun l hl hpre => ?_)
  match l, hl with
  | [a, b], _ =>
    repeat' (first | (with_reducible refine And.intro ?_ ?_) | (with_reducible intro h) | ((fail_if_success (with_reducible refine Leaf.mk ?_)); (fail_if_success (with_reducible refine VC.mk ?_)); (fail_if_success (with_reducible refine Goes.mk ?_)); (fail_if_success (with_reducible refine Again.mk ?_)); (fail_if_success (with_reducible refine Rounds.mk ?_)); (fail_if_success (with_reducible show False)); (fail_if_success (with_reducible show True)); conv => whnf))
    all_goals first | (refine VC.mk ?_; simp only [InR]; omega) | exact ⟨rfl⟩
def c_vec2_product : Con := ⟨82, pureRun [0] (fun _ => []) fun | [n] => .int .i64 (sat (rd n 65536)) | _ => .any⟩
set_option maxRecDepth 100000 in
set_option maxHeartbeats 1000000 in
theorem con_vec2_product : c_vec2_product.Ok Try.prog := by
  refine con_pure (C := [c_fixed_Saturate, c_fixed_RoundDiv]) (pl := []) Try.func82 rfl (by kernel_rfl) T_ok (Cons.cons con_fixed_Saturate (Cons.cons con_fixed_RoundDiv (Cons.nil _))) mixed (by kernel_rfl) _ _ _ (fun l hl hpre => ?_)
  match l, hl with
  | [n], _ =>
    repeat' (first | (with_reducible refine And.intro ?_ ?_) | (with_reducible intro h) | ((fail_if_success (with_reducible refine Leaf.mk ?_)); (fail_if_success (with_reducible refine VC.mk ?_)); (fail_if_success (with_reducible refine Goes.mk ?_)); (fail_if_success (with_reducible refine Again.mk ?_)); (fail_if_success (with_reducible refine Rounds.mk ?_)); (fail_if_success (with_reducible show False)); (fail_if_success (with_reducible show True)); conv => whnf))
    all_goals first | (refine VC.mk ?_; simp only [InR]; omega) | exact ⟨rfl⟩
def c_vec2_Sub : Con := ⟨37, pureRun [2, 2] (fun _ => []) fun | [a, b, c, d] => .agg [.int .i64 (sub a c), .int .i64 (sub b d)] | _ => .any⟩
set_option maxRecDepth 100000 in
set_option maxHeartbeats 1000000 in
theorem con_vec2_Sub : c_vec2_Sub.Ok Try.prog := by
  refine con_pure (C := [c_fixed_Sub]) (pl := [(1, [0, 1, 2, 3, 4, 5, 6, 7, 8, 9, 10, 11], [0, 1, 0, 4, 15, 0, 32, 0, 128, 511, 1023, 2047])]) Try.func37 rfl (by kernel_rfl) T_ok (Cons.cons con_fixed_Sub (Cons.nil _)) mixed (by kernel_rfl) _ _ _ (fun l hl hpre => ?_)
  match l, hl with
  | [a, b, c, d], _ =>
    repeat' (first | (with_reducible refine And.intro ?_ ?_) | (with_reducible intro h) | ((fail_if_success (with_reducible refine Leaf.mk ?_)); (fail_if_success (with_reducible refine VC.mk ?_)); (fail_if_success (with_reducible refine Goes.mk ?_)); (fail_if_success (with_reducible refine Again.mk ?_)); (fail_if_success (with_reducible refine Rounds.mk ?_)); (fail_if_success (with_reducible show False)); (fail_if_success (with_reducible show True)); conv => whnf))
    all_goals first | (refine VC.mk ?_; simp only [InR]; omega) | exact ⟨rfl⟩
def c_ref03_Sub : Con := ⟨25, pureRun [2, 2] (fun _ => []) fun | [a, b, c, d] => .agg [.int .i64 (sub a c), .int .i64 (sub b d)] | _ => .any⟩
set_option maxRecDepth 100000 in
set_option maxHeartbeats 1000000 in
theorem con_ref03_Sub : c_ref03_Sub.Ok Try.prog := by
  refine con_pure (C := [c_ref01_Sub]) (pl := [(1, [0, 1, 2, 3, 4, 5, 6, 7, 8, 9, 10, 11], [0, 1, 0, 4, 15, 0, 32, 0, 128, 511, 1023, 2047])]) Try.func25 rfl (by kernel_rfl) T_ok (Cons.cons con_ref01_Sub (Cons.nil _)) mixed (by kernel_rfl) _ _ _ (fun l hl hpre => ?_)
  match l, hl with
  | [a, b, c, d], _ =>
    repeat' (first | (with_reducible refine And.intro ?_ ?_) | (with_reducible intro h) | ((fail_if_success (with_reducible refine Leaf.mk ?_)); (fail_if_success (with_reducible refine VC.mk ?_)); (fail_if_success (with_reducible refine Goes.mk ?_)); (fail_if_success (with_reducible refine Again.mk ?_)); (fail_if_success (with_reducible refine Rounds.mk ?_)); (fail_if_success (with_reducible show False)); (fail_if_success (with_reducible show True)); conv => whnf))
    all_goals first | (refine VC.mk ?_; simp only [InR]; omega) | exact ⟨rfl⟩
def c_vec2_Dot : Con := ⟨50, pureRun [2, 2] (fun _ => []) fun | [a, b, c, d] => .int .i64 (dot a b c d) | _ => .any⟩
set_option maxRecDepth 100000 in
set_option maxHeartbeats 1000000 in
theorem con_vec2_Dot : c_vec2_Dot.Ok Try.prog := by
  refine con_pure (C := [c_vec2_saturate, c_vec2_product]) (pl := [(1, [0, 1, 2, 3, 4, 5], [0, 1, 0, 7, 15, 31])]) Try.func50 rfl (by kernel_rfl) T_ok (Cons.cons con_vec2_saturate (Cons.cons con_vec2_product (Cons.nil _))) mixed (by kernel_rfl) _ _ _ (fun l hl hpre => ?_)
  match l, hl with
  | [a, b, c, d], _ =>
    repeat' (first | (with_reducible refine And.intro ?_ ?_) | (with_reducible intro h) | ((fail_if_success (with_reducible refine Leaf.mk ?_)); (fail_if_success (with_reducible refine VC.mk ?_)); (fail_if_success (with_reducible refine Goes.mk ?_)); (fail_if_success (with_reducible refine Again.mk ?_)); (fail_if_success (with_reducible refine Rounds.mk ?_)); (fail_if_success (with_reducible show False)); (fail_if_success (with_reducible show True)); conv => whnf))
    all_goals have := satmul_bd a c
    all_goals have := satmul_bd b d
    all_goals first | (refine VC.mk ?_; simp only [InR]; omega) | exact ⟨rfl⟩
def c_ref03_Dot : Con := ⟨24, pureRun [2, 2] (fun _ => []) fun | [a, b, c, d] => .int .i64 (dot a b c d) | _ => .any⟩
set_option maxRecDepth 100000 in
set_option maxHeartbeats 1000000 in
theorem con_ref03_Dot : c_ref03_Dot.Ok Try.prog := by
  refine con_pure (C := [c_ref03_Saturated, c_ref01_Saturate, c_ref01_RoundDiv]) (pl := []) Try.func24 rfl (by kernel_rfl) T_ok (Cons.cons con_ref03_Saturated (Cons.cons con_ref01_Saturate (Cons.cons con_ref01_RoundDiv (Cons.nil _)))) mixed (by kernel_rfl) _ _ _ (fun l hl hpre => ?_)
  match l, hl with
  | [a, b, c, d], _ =>
    repeat' (first | (with_reducible refine And.intro ?_ ?_) | (with_reducible intro h) | ((fail_if_success (with_reducible refine Leaf.mk ?_)); (fail_if_success (with_reducible refine VC.mk ?_)); (fail_if_success (with_reducible refine Goes.mk ?_)); (fail_if_success (with_reducible refine Again.mk ?_)); (fail_if_success (with_reducible refine Rounds.mk ?_)); (fail_if_success (with_reducible show False)); (fail_if_success (with_reducible show True)); conv => whnf))
    all_goals have := satmul_bd a c
    all_goals have := satmul_bd b d
    all_goals first | (refine VC.mk ?_; simp only [InR]; omega) | exact ⟨rfl⟩
def c_vec2_DistanceSquared : Con := ⟨59, pureRun [2, 2] (fun _ => []) fun | [a, b, c, d] => .int .i64 (dist2 a b c d) | _ => .any⟩
set_option maxRecDepth 100000 in
set_option maxHeartbeats 1000000 in
theorem con_vec2_DistanceSquared : c_vec2_DistanceSquared.Ok Try.prog := by
  refine con_pure (C := [c_vec2_saturate]) (pl := [(1, [0, 1, 2, 3, 4, 5], [0, 1, 0, 7, 15, 31]), (2, [0, 1, 2, 3, 4, 5, 6, 7, 8, 9, 10, 11], [0, 1, 0, 4, 15, 0, 32, 0, 128, 480, 31, 2047])]) Try.func59 rfl (by kernel_rfl) T_ok (Cons.cons con_vec2_saturate (Cons.nil _)) mixed (by kernel_rfl) _ _ _ (fun l hl hpre => ?_)
  match l, hl with
  | [a, b, c, d], _ =>
    repeat' (first | (with_reducible refine And.intro ?_ ?_) | (with_reducible intro h) | ((fail_if_success (with_reducible refine Leaf.mk ?_)); (fail_if_success (with_reducible refine VC.mk ?_)); (fail_if_success (with_reducible refine Goes.mk ?_)); (fail_if_success (with_reducible refine Again.mk ?_)); (fail_if_success (with_reducible refine Rounds.mk ?_)); (fail_if_success (with_reducible show False)); (fail_if_success (with_reducible show True)); conv => whnf))
    all_goals have := sat_bd a
    all_goals have := sat_bd b
    all_goals have := sat_bd c
    all_goals have := sat_bd d
    all_goals have := sqd_bd a c
    all_goals have := sqd_bd b d
    all_goals first | (refine VC.mk ?_; simp only [InR]; omega) | exact ⟨rfl⟩
def c_ref03_DistanceSquared : Con := ⟨64, pureRun [2, 2] (fun _ => []) fun | [a, b, c, d] => .int .i64 (dist2 a b c d) | _ => .any⟩
set_option maxRecDepth 100000 in
set_option maxHeartbeats 1000000 in
theorem con_ref03_DistanceSquared : c_ref03_DistanceSquared.Ok Try.prog := by
  refine con_pure (C := [c_ref03_Saturated]) (pl := []) Try.func64 rfl (by kernel_rfl) T_ok (Cons.cons con_ref03_Saturated (Cons.nil _)) mixed (by kernel_rfl) _ _ _ (fun l hl hpre => ?_)
  match l, hl with
  | [a, b, c, d], _ =>
    repeat' (first | (with_reducible refine And.intro ?_ ?_) | (with_reducible intro h) | ((fail_if_success (with_reducible refine Leaf.mk ?_)); (fail_if_success (with_reducible refine VC.mk ?_)); (fail_if_success (with_reducible refine Goes.mk ?_)); (fail_if_success (with_reducible refine Again.mk ?_)); (fail_if_success (with_reducible refine Rounds.mk ?_)); (fail_if_success (with_reducible show False)); (fail_if_success (with_reducible show True)); conv => whnf))
    all_goals have := sat_bd a
    all_goals have := sat_bd b
    all_goals have := sat_bd c
    all_goals have := sat_bd d
    all_goals have := sqd_bd a c
    all_goals have := sqd_bd b d
    all_goals first | (refine VC.mk ?_; simp only [InR]; omega) | exact ⟨rfl⟩
def c_vec2_Length : Con := ⟨36, pureRun [2] (fun _ => []) fun | [a, b] => .int .i64 (len a b) | _ => .any⟩
set_option maxRecDepth 100000 in
set_option maxHeartbeats 1000000 in
theorem con_vec2_Length : c_vec2_Length.Ok Try.prog := by
  refine con_pure (C := [c_fixed_Isqrt, c_vec2_DistanceSquared]) (pl := []) Try.func36 rfl (by kernel_rfl) T_ok (Cons.cons con_fixed_Isqrt (Cons.cons con_vec2_DistanceSquared (Cons.nil _))) mixed (by kernel_rfl) _ _ _ (fun l hl hpre => ?_)
  match l, hl with
  | [a, b], _ =>
    repeat' (first | (with_reducible refine And.intro ?_ ?_) | (with_reducible intro h) | ((fail_if_success (with_reducible refine Leaf.mk ?_)); (fail_if_success (with_reducible refine VC.mk ?_)); (fail_if_success (with_reducible refine Goes.mk ?_)); (fail_if_success (with_reducible refine Again.mk ?_)); (fail_if_success (with_reducible refine Rounds.mk ?_)); (fail_if_success (with_reducible show False)); (fail_if_success (with_reducible show True)); conv => whnf))
    all_goals first | (refine VC.mk ?_; simp only [InR]; omega) | exact ⟨(len_dist2 _ _).symm⟩ | exact ⟨rfl⟩
def c_ref03_Length : Con := ⟨79, pureRun [2] (fun _ => []) fun | [a, b] => .int .i64 (len a b) | _ => .any⟩
set_option maxRecDepth 100000 in
set_option maxHeartbeats 1000000 in
theorem con_ref03_Length : c_ref03_Length.Ok Try.prog := by
  refine con_pure (C := [c_ref01_Isqrt, c_ref03_Saturated]) (pl := []) Try.func79 rfl (by kernel_rfl) T_ok (Cons.cons con_ref01_Isqrt (Cons.cons con_ref03_Saturated (Cons.nil _))) mixed (by kernel_rfl) _ _ _ (fun l hl hpre => ?_)
  match l, hl with
  | [a, b], _ =>
    repeat' (first | (with_reducible refine And.intro ?_ ?_) | (with_reducible intro h) | ((fail_if_success (with_reducible refine Leaf.mk ?_)); (fail_if_success (with_reducible refine VC.mk ?_)); (fail_if_success (with_reducible refine Goes.mk ?_)); (fail_if_success (with_reducible refine Again.mk ?_)); (fail_if_success (with_reducible refine Rounds.mk ?_)); (fail_if_success (with_reducible show False)); (fail_if_success (with_reducible show True)); conv => whnf))
    all_goals have := satmul_bd a a
    all_goals have := satmul_bd b b
    all_goals first | (refine VC.mk ?_; simp only [InR]; omega) | exact ⟨rfl⟩
def c_vec2_Normalize : Con := ⟨47, pureRun [2] (fun _ => []) fun | [a, b] => .agg [.int .i64 (norm a b a), .int .i64 (norm a b b)] | _ => .any⟩
set_option maxRecDepth 100000 in
set_option maxHeartbeats 1000000 in
theorem con_vec2_Normalize : c_vec2_Normalize.Ok Try.prog := by
  refine con_pure (C := [c_vec2_Length, c_fixed_Div]) (pl := [(4, [0, 1, 2, 3, 4, 5, 6, 7, 8, 9], [0, 1, 0, 7, 0, 16, 0, 127, 255, 511])]) Try.func47 rfl (by kernel_rfl) T_ok (Cons.cons con_vec2_Length (Cons.cons con_fixed_Div (Cons.nil _))) mixed (by kernel_rfl) _ _ _ (fun l hl hpre => ?_)
  match l, hl with
  | [a, b], _ =>
    repeat' (first | (with_reducible refine And.intro ?_ ?_) | (with_reducible intro h) | ((fail_if_success (with_reducible refine Leaf.mk ?_)); (fail_if_success (with_reducible refine VC.mk ?_)); (fail_if_success (with_reducible refine Goes.mk ?_)); (fail_if_success (with_reducible refine Again.mk ?_)); (fail_if_success (with_reducible refine Rounds.mk ?_)); (fail_if_success (with_reducible show False)); (fail_if_success (with_reducible show True)); conv => whnf))
    all_goals (rename_i h; simp only [decide_eq_true_eq, decide_eq_false_iff_not] at h; refine Leaf.mk ?_; simp [norm, h])
def c_ref03_Normalize : Con := ⟨49, pureRun [2] (fun _ => []) fun | [a, b] => .agg [.int .i64 (norm a b a), .int .i64 (norm a b b)] | _ => .any⟩
set_option maxRecDepth 100000 in
set_option maxHeartbeats 1000000 in
theorem con_ref03_Normalize : c_ref03_Normalize.Ok Try.prog := by
  refine con_pure (C := [c_ref03_Length, c_ref01_Div]) (pl := [(4, [0, 1, 2, 3, 4, 5, 6, 7, 8, 9], [0, 1, 0, 7, 0, 16, 0, 127, 255, 511])]) Try.func49 rfl (by kernel_rfl) T_ok (Cons.cons con_ref03_Length (Cons.cons con_ref01_Div (Cons.nil _))) mixed (by kernel_rfl) _ _ _ (fun l hl hpre => ?_)
  match l, hl with
  | [a, b], _ =>
    repeat' (first | (with_reducible refine And.intro ?_ ?_) | (with_reducible intro h) | ((fail_if_success (with_reducible refine Leaf.mk ?_)); (fail_if_success (with_reducible refine VC.mk ?_)); (fail_if_success (with_reducible refine Goes.mk ?_)); (fail_if_success (with_reducible refine Again.mk ?_)); (fail_if_success (with_reducible refine Rounds.mk ?_)); (fail_if_success (with_reducible show False)); (fail_if_success (with_reducible show True)); conv => whnf))
    all_goals (rename_i h; simp only [decide_eq_true_eq, decide_eq_false_iff_not] at h; refine Leaf.mk ?_; simp [norm, h])
def c_vec2_Lerp : Con := ⟨57, pureRun [2, 2, 0] (fun _ => []) fun | [a, b, c, d, t] => .agg [.int .i64 (lerp a c t), .int .i64 (lerp b d t)] | _ => .any⟩
set_option maxRecDepth 100000 in
set_option maxHeartbeats 1000000 in
theorem con_vec2_Lerp : c_vec2_Lerp.Ok Try.prog := by
  refine con_pure (C := [c_fixed_Lerp]) (pl := [(1, [0, 1, 2, 3, 4, 5, 6, 7, 8, 9, 10, 11, 12, 13], [0, 1, 0, 4, 0, 31, 0, 64, 0, 256, 0, 2047, 4095, 8191])]) Try.func57 rfl (by kernel_rfl) T_ok (Cons.cons con_fixed_Lerp (Cons.nil _)) mixed (by kernel_rfl) _ _ _ (fun l hl hpre => ?_)
  match l, hl with
  | [a, b, c, d, t], _ =>
    repeat' (first | (with_reducible refine And.intro ?_ ?_) | (with_reducible intro h) | ((fail_if_success (with_reducible refine Leaf.mk ?_)); (fail_if_success (with_reducible refine VC.mk ?_)); (fail_if_success (with_reducible refine Goes.mk ?_)); (fail_if_success (with_reducible refine Again.mk ?_)); (fail_if_success (with_reducible refine Rounds.mk ?_)); (fail_if_success (with_reducible show False)); (fail_if_success (with_reducible show True)); conv => whnf))
    all_goals first | (refine VC.mk ?_; simp only [InR]; omega) | exact ⟨rfl⟩
def c_ref03_Lerp : Con := ⟨62, pureRun [2, 2, 0] (fun _ => []) fun | [a, b, c, d, t] => .agg [.int .i64 (lerp a c t), .int .i64 (lerp b d t)] | _ => .any⟩
set_option maxRecDepth 100000 in
set_option maxHeartbeats 1000000 in
theorem con_ref03_Lerp : c_ref03_Lerp.Ok Try.prog := by
  refine con_pure (C := [c_ref01_Lerp]) (pl := [(1, [0, 1, 2, 3, 4, 5, 6, 7, 8, 9, 10, 11, 12, 13], [0, 1, 0, 4, 0, 31, 0, 64, 0, 256, 0, 2047, 4095, 8191])]) Try.func62 rfl (by kernel_rfl) T_ok (Cons.cons con_ref01_Lerp (Cons.nil _)) mixed (by kernel_rfl) _ _ _ (fun l hl hpre => ?_)
  match l, hl with
  | [a, b, c, d, t], _ =>
    repeat' (first | (with_reducible refine And.intro ?_ ?_) | (with_reducible intro h) | ((fail_if_success (with_reducible refine Leaf.mk ?_)); (fail_if_success (with_reducible refine VC.mk ?_)); (fail_if_success (with_reducible refine Goes.mk ?_)); (fail_if_success (with_reducible refine Again.mk ?_)); (fail_if_success (with_reducible refine Rounds.mk ?_)); (fail_if_success (with_reducible show False)); (fail_if_success (with_reducible show True)); conv => whnf))
    all_goals first | (refine VC.mk ?_; simp only [InR]; omega) | exact ⟨rfl⟩
def c_vec2_Orientation : Con := ⟨67, pureRun [2, 2, 2] (fun _ => []) fun | [a, b, c, d, e, f] => .int .i64 (orient a b c d e f) | _ => .any⟩
set_option maxRecDepth 100000 in
set_option maxHeartbeats 1000000 in
theorem con_vec2_Orientation : c_vec2_Orientation.Ok Try.prog := by
  refine con_pure (C := [c_vec2_saturate]) (pl := [(1, [0, 1, 2, 3, 4, 5, 6, 7, 8], [0, 1, 0, 7, 0, 31, 63, 127, 255])]) Try.func67 rfl (by kernel_rfl) T_ok (Cons.cons con_vec2_saturate (Cons.nil _)) mixed (by kernel_rfl) _ _ _ (fun l hl hpre => ?_)
  match l, hl with
  | [a, b, c, d, e, f], _ =>
    repeat' (first | (with_reducible refine And.intro ?_ ?_) | (with_reducible intro h) | ((fail_if_success (with_reducible refine Leaf.mk ?_)); (fail_if_success (with_reducible refine VC.mk ?_)); (fail_if_success (with_reducible refine Goes.mk ?_)); (fail_if_success (with_reducible refine Again.mk ?_)); (fail_if_success (with_reducible refine Rounds.mk ?_)); (fail_if_success (with_reducible show False)); (fail_if_success (with_reducible show True)); conv => whnf))
    all_goals have := sat_bd a
    all_goals have := sat_bd b
    all_goals have := sat_bd c
    all_goals have := sat_bd d
    all_goals have := sat_bd e
    all_goals have := sat_bd f
    all_goals have := dif_bd a c b f
    all_goals have := dif_bd b d a e
    all_goals first | (refine VC.mk ?_; simp only [InR]; omega) | (refine Leaf.mk ?_; show _ = sign (orientN a b c d e f); unfold sign; show min 1 (max (-1) (orientN a b c d e f)) = _; split <;> (try split) <;> omega)
def c_ref03_Orientation : Con := ⟨70, pureRun [2, 2, 2] (fun _ => []) fun | [a, b, c, d, e, f] => .int .i64 (orient a b c d e f) | _ => .any⟩
set_option maxRecDepth 100000 in
set_option maxHeartbeats 1000000 in
theorem con_ref03_Orientation : c_ref03_Orientation.Ok Try.prog := by
  refine con_pure (C := [c_ref03_Saturated]) (pl := []) Try.func70 rfl (by kernel_rfl) T_ok (Cons.cons con_ref03_Saturated (Cons.nil _)) mixed (by kernel_rfl) _ _ _ (fun l hl hpre => ?_)
  match l, hl with
  | [a, b, c, d, e, f], _ =>
    repeat' (first | (with_reducible refine And.intro ?_ ?_) | (with_reducible intro h) | ((fail_if_success (with_reducible refine Leaf.mk ?_)); (fail_if_success (with_reducible refine VC.mk ?_)); (fail_if_success (with_reducible refine Goes.mk ?_)); (fail_if_success (with_reducible refine Again.mk ?_)); (fail_if_success (with_reducible refine Rounds.mk ?_)); (fail_if_success (with_reducible show False)); (fail_if_success (with_reducible show True)); conv => whnf))
    all_goals have := sat_bd a
    all_goals have := sat_bd b
    all_goals have := sat_bd c
    all_goals have := sat_bd d
    all_goals have := sat_bd e
    all_goals have := sat_bd f
    all_goals have := dif_bd a c b f
    all_goals have := dif_bd b d a e
    all_goals first | (refine VC.mk ?_; simp only [InR]; omega) | (refine Leaf.mk ?_; simp only [decide_eq_true_eq, decide_eq_false_iff_not] at *; show _ = sign (orientN a b c d e f); unfold sign orientN; split <;> (try split) <;> omega)
end Go.Proofs.Ytdoagjphjnbbnaa
