/- Contracts of package vec2 and of caromref03. -/
import Derived.Test.YtapbegcmdiemoaaK1
import Derived.Test.YtapbegcmdiemoaaVx
namespace Go.Proofs.Ytapbegcmdiemoaa
open Go.RowKit Fx Vx Ev
set_option linter.unusedVariables false
set_option linter.unusedSimpArgs false

def c_vec2_saturate : Con := ⟨79, pureRun [2] (fun _ => []) fun | [a, b] => .agg [.int .i64 (sat a), .int .i64 (sat b)] | _ => .any⟩
set_option maxRecDepth 100000 in
set_option maxHeartbeats 1000000 in
theorem con_vec2_saturate : c_vec2_saturate.Ok Try.prog := by
  refine con_pure (C := [c_fixed_Saturate]) (pl := [(1, [0, 1, 2, 3, 4, 5, 6, 7], [0, 1, 3, 0, 8, 31, 63, 127])]) Try.func79 rfl (by kernel_rfl) T_ok (Cons.cons con_fixed_Saturate (Cons.nil _)) mixed (by kernel_rfl) _ _ _ (fun l hl hpre => ?_)
  match l, hl with
  | [a, b], _ =>
    repeat' (first | (with_reducible refine And.intro ?_ ?_) | (with_reducible intro h) | ((fail_if_success (with_reducible refine Leaf.mk ?_)); (fail_if_success (with_reducible refine VC.mk ?_)); (fail_if_success (with_reducible refine Goes.mk ?_)); (fail_if_success (with_reducible refine Again.mk ?_)); (fail_if_success (with_reducible refine Rounds.mk ?_)); (fail_if_success (with_reducible show False)); (fail_if_success (with_reducible show True)); conv => whnf))
    all_goals first | (refine VC.mk ?_; simp only [InR]; omega) | exact ⟨rfl⟩
def c_ref03_Saturated : Con := ⟨81, pureRun [2] (fun _ => []) fun | [a, b] => .agg [.int .i64 (sat a), .int .i64 (sat b)] | _ => .any⟩
set_option maxRecDepth 100000 in
set_option maxHeartbeats 1000000 in
theorem con_ref03_Saturated : c_ref03_Saturated.Ok Try.prog := by
  refine con_pure (C := [c_ref01_Saturate]) (pl := [(1, [0, 1, 2, 3, 4, 5, 6, 7], [0, 1, 3, 0, 8, 31, 63, 127])]) Try.func81 rfl (by kernel_rfl) T_ok (Cons.cons con_ref01_Saturate (Cons.nil _)) mixed (by kernel_rfl) _ _ _ (fun l hl hpre => ?_)
  match l, hl with
  | [a, b], _ =>
    repeat' (first | (with_reducible refine And.intro ?_ ?_) | (with_reducible intro h) | ((fail_if_success (with_reducible refine Leaf.mk ?_)); (fail_if_success (with_reducible refine VC.mk ?_)); (fail_if_success (with_reducible refine Goes.mk ?_)); (fail_if_success (with_reducible refine Again.mk ?_)); (fail_if_success (with_reducible refine Rounds.mk ?_)); (fail_if_success (with_reducible show False)); (fail_if_success (with_reducible show True)); conv => whnf))
    all_goals first | (refine VC.mk ?_; simp only [InR]; omega) | exact ⟨rfl⟩
def c_vec2_product : Con := ⟨80, pureRun [0] (fun _ => []) fun | [n] => .int .i64 (sat (rd n 65536)) | _ => .any⟩
set_option maxRecDepth 100000 in
set_option maxHeartbeats 1000000 in
theorem con_vec2_product : c_vec2_product.Ok Try.prog := by
  refine con_pure (C := [c_fixed_Saturate, c_fixed_RoundDiv]) (pl := []) Try.func80 rfl (by kernel_rfl) T_ok (Cons.cons con_fixed_Saturate (Cons.cons con_fixed_RoundDiv (Cons.nil _))) mixed (by kernel_rfl) _ _ _ (fun l hl hpre => ?_)
  match l, hl with
  | [n], _ =>
    repeat' (first | (with_reducible refine And.intro ?_ ?_) | (with_reducible intro h) | ((fail_if_success (with_reducible refine Leaf.mk ?_)); (fail_if_success (with_reducible refine VC.mk ?_)); (fail_if_success (with_reducible refine Goes.mk ?_)); (fail_if_success (with_reducible refine Again.mk ?_)); (fail_if_success (with_reducible refine Rounds.mk ?_)); (fail_if_success (with_reducible show False)); (fail_if_success (with_reducible show True)); conv => whnf))
    all_goals first | (refine VC.mk ?_; simp only [InR]; omega) | exact ⟨rfl⟩
def c_vec2_Add : Con := ⟨61, pureRun [2, 2] (fun _ => []) fun | [a, b, c, d] => .agg [.int .i64 (add a c), .int .i64 (add b d)] | _ => .any⟩
set_option maxRecDepth 100000 in
set_option maxHeartbeats 1000000 in
theorem con_vec2_Add : c_vec2_Add.Ok Try.prog := by
  refine con_pure (C := [c_fixed_Add]) (pl := [(1, [0, 1, 2, 3, 4, 5, 6, 7, 8, 9, 10, 11], [0, 1, 0, 4, 15, 0, 32, 0, 128, 511, 1023, 2047])]) Try.func61 rfl (by kernel_rfl) T_ok (Cons.cons con_fixed_Add (Cons.nil _)) mixed (by kernel_rfl) _ _ _ (fun l hl hpre => ?_)
  match l, hl with
  | [a, b, c, d], _ =>
    repeat' (first | (with_reducible refine And.intro ?_ ?_) | (with_reducible intro h) | ((fail_if_success (with_reducible refine Leaf.mk ?_)); (fail_if_success (with_reducible refine VC.mk ?_)); (fail_if_success (with_reducible refine Goes.mk ?_)); (fail_if_success (with_reducible refine Again.mk ?_)); (fail_if_success (with_reducible refine Rounds.mk ?_)); (fail_if_success (with_reducible show False)); (fail_if_success (with_reducible show True)); conv => whnf))
    all_goals first | (refine VC.mk ?_; simp only [InR]; omega) | exact ⟨rfl⟩
def c_ref03_Add : Con := ⟨64, pureRun [2, 2] (fun _ => []) fun | [a, b, c, d] => .agg [.int .i64 (add a c), .int .i64 (add b d)] | _ => .any⟩
set_option maxRecDepth 100000 in
set_option maxHeartbeats 1000000 in
theorem con_ref03_Add : c_ref03_Add.Ok Try.prog := by
  refine con_pure (C := [c_ref01_Add]) (pl := [(1, [0, 1, 2, 3, 4, 5, 6, 7, 8, 9, 10, 11], [0, 1, 0, 4, 15, 0, 32, 0, 128, 511, 1023, 2047])]) Try.func64 rfl (by kernel_rfl) T_ok (Cons.cons con_ref01_Add (Cons.nil _)) mixed (by kernel_rfl) _ _ _ (fun l hl hpre => ?_)
  match l, hl with
  | [a, b, c, d], _ =>
    repeat' (first | (with_reducible refine And.intro ?_ ?_) | (with_reducible intro h) | ((fail_if_success (with_reducible refine Leaf.mk ?_)); (fail_if_success (with_reducible refine VC.mk ?_)); (fail_if_success (with_reducible refine Goes.mk ?_)); (fail_if_success (with_reducible refine Again.mk ?_)); (fail_if_success (with_reducible refine Rounds.mk ?_)); (fail_if_success (with_reducible show False)); (fail_if_success (with_reducible show True)); conv => whnf))
    all_goals first | (refine VC.mk ?_; simp only [InR]; omega) | exact ⟨rfl⟩
def c_vec2_Sub : Con := ⟨59, pureRun [2, 2] (fun _ => []) fun | [a, b, c, d] => .agg [.int .i64 (sub a c), .int .i64 (sub b d)] | _ => .any⟩
set_option maxRecDepth 100000 in
set_option maxHeartbeats 1000000 in
theorem con_vec2_Sub : c_vec2_Sub.Ok Try.prog := by
  refine con_pure (C := [c_fixed_Sub]) (pl := [(1, [0, 1, 2, 3, 4, 5, 6, 7, 8, 9, 10, 11], [0, 1, 0, 4, 15, 0, 32, 0, 128, 511, 1023, 2047])]) Try.func59 rfl (by kernel_rfl) T_ok (Cons.cons con_fixed_Sub (Cons.nil _)) mixed (by kernel_rfl) _ _ _ (fun l hl hpre => ?_)
  match l, hl with
  | [a, b, c, d], _ =>
    repeat' (first | (with_reducible refine And.intro ?_ ?_) | (with_reducible intro h) | ((fail_if_success (with_reducible refine Leaf.mk ?_)); (fail_if_success (with_reducible refine VC.mk ?_)); (fail_if_success (with_reducible refine Goes.mk ?_)); (fail_if_success (with_reducible refine Again.mk ?_)); (fail_if_success (with_reducible refine Rounds.mk ?_)); (fail_if_success (with_reducible show False)); (fail_if_success (with_reducible show True)); conv => whnf))
    all_goals first | (refine VC.mk ?_; simp only [InR]; omega) | exact ⟨rfl⟩
def c_ref03_Sub : Con := ⟨62, pureRun [2, 2] (fun _ => []) fun | [a, b, c, d] => .agg [.int .i64 (sub a c), .int .i64 (sub b d)] | _ => .any⟩
set_option maxRecDepth 100000 in
set_option maxHeartbeats 1000000 in
theorem con_ref03_Sub : c_ref03_Sub.Ok Try.prog := by
  refine con_pure (C := [c_ref01_Sub]) (pl := [(1, [0, 1, 2, 3, 4, 5, 6, 7, 8, 9, 10, 11], [0, 1, 0, 4, 15, 0, 32, 0, 128, 511, 1023, 2047])]) Try.func62 rfl (by kernel_rfl) T_ok (Cons.cons con_ref01_Sub (Cons.nil _)) mixed (by kernel_rfl) _ _ _ (fun l hl hpre => ?_)
  match l, hl with
  | [a, b, c, d], _ =>
    repeat' (first | (with_reducible refine And.intro ?_ ?_) | (with_reducible intro h) | ((fail_if_success (with_reducible refine Leaf.mk ?_)); (fail_if_success (with_reducible refine VC.mk ?_)); (fail_if_success (with_reducible refine Goes.mk ?_)); (fail_if_success (with_reducible refine Again.mk ?_)); (fail_if_success (with_reducible refine Rounds.mk ?_)); (fail_if_success (with_reducible show False)); (fail_if_success (with_reducible show True)); conv => whnf))
    all_goals first | (refine VC.mk ?_; simp only [InR]; omega) | exact ⟨rfl⟩
def c_vec2_Scale : Con := ⟨60, pureRun [2, 0] (fun _ => []) fun | [a, b, k] => .agg [.int .i64 (mul a k), .int .i64 (mul b k)] | _ => .any⟩
set_option maxRecDepth 100000 in
set_option maxHeartbeats 1000000 in
theorem con_vec2_Scale : c_vec2_Scale.Ok Try.prog := by
  refine con_pure (C := [c_fixed_Mul]) (pl := [(1, [0, 1, 2, 3, 4, 5, 6, 7, 8, 9], [0, 1, 0, 7, 0, 16, 0, 127, 255, 511])]) Try.func60 rfl (by kernel_rfl) T_ok (Cons.cons con_fixed_Mul (Cons.nil _)) mixed (by kernel_rfl) _ _ _ (fun l hl hpre => ?_)
  match l, hl with
  | [a, b, k], _ =>
    repeat' (first | (with_reducible refine And.intro ?_ ?_) | (with_reducible intro h) | ((fail_if_success (with_reducible refine Leaf.mk ?_)); (fail_if_success (with_reducible refine VC.mk ?_)); (fail_if_success (with_reducible refine Goes.mk ?_)); (fail_if_success (with_reducible refine Again.mk ?_)); (fail_if_success (with_reducible refine Rounds.mk ?_)); (fail_if_success (with_reducible show False)); (fail_if_success (with_reducible show True)); conv => whnf))
    all_goals first | (refine VC.mk ?_; simp only [InR]; omega) | exact ⟨rfl⟩
def c_ref03_Scale : Con := ⟨63, pureRun [2, 0] (fun _ => []) fun | [a, b, k] => .agg [.int .i64 (mul a k), .int .i64 (mul b k)] | _ => .any⟩
set_option maxRecDepth 100000 in
set_option maxHeartbeats 1000000 in
theorem con_ref03_Scale : c_ref03_Scale.Ok Try.prog := by
  refine con_pure (C := [c_ref01_Mul]) (pl := [(1, [0, 1, 2, 3, 4, 5, 6, 7, 8, 9], [0, 1, 0, 7, 0, 16, 0, 127, 255, 511])]) Try.func63 rfl (by kernel_rfl) T_ok (Cons.cons con_ref01_Mul (Cons.nil _)) mixed (by kernel_rfl) _ _ _ (fun l hl hpre => ?_)
  match l, hl with
  | [a, b, k], _ =>
    repeat' (first | (with_reducible refine And.intro ?_ ?_) | (with_reducible intro h) | ((fail_if_success (with_reducible refine Leaf.mk ?_)); (fail_if_success (with_reducible refine VC.mk ?_)); (fail_if_success (with_reducible refine Goes.mk ?_)); (fail_if_success (with_reducible refine Again.mk ?_)); (fail_if_success (with_reducible refine Rounds.mk ?_)); (fail_if_success (with_reducible show False)); (fail_if_success (with_reducible show True)); conv => whnf))
    all_goals first | (refine VC.mk ?_; simp only [InR]; omega) | exact ⟨rfl⟩
def c_vec2_Dot : Con := ⟨66, pureRun [2, 2] (fun _ => []) fun | [a, b, c, d] => .int .i64 (dot a b c d) | _ => .any⟩
set_option maxRecDepth 100000 in
set_option maxHeartbeats 1000000 in
theorem con_vec2_Dot : c_vec2_Dot.Ok Try.prog := by
  refine con_pure (C := [c_vec2_saturate, c_vec2_product]) (pl := [(1, [0, 1, 2, 3, 4, 5], [0, 1, 0, 7, 15, 31])]) Try.func66 rfl (by kernel_rfl) T_ok (Cons.cons con_vec2_saturate (Cons.cons con_vec2_product (Cons.nil _))) mixed (by kernel_rfl) _ _ _ (fun l hl hpre => ?_)
  match l, hl with
  | [a, b, c, d], _ =>
    repeat' (first | (with_reducible refine And.intro ?_ ?_) | (with_reducible intro h) | ((fail_if_success (with_reducible refine Leaf.mk ?_)); (fail_if_success (with_reducible refine VC.mk ?_)); (fail_if_success (with_reducible refine Goes.mk ?_)); (fail_if_success (with_reducible refine Again.mk ?_)); (fail_if_success (with_reducible refine Rounds.mk ?_)); (fail_if_success (with_reducible show False)); (fail_if_success (with_reducible show True)); conv => whnf))
    all_goals have := satmul_bd a c
    all_goals have := satmul_bd b d
    all_goals first | (refine VC.mk ?_; simp only [InR]; omega) | exact ⟨rfl⟩
def c_ref03_Dot : Con := ⟨70, pureRun [2, 2] (fun _ => []) fun | [a, b, c, d] => .int .i64 (dot a b c d) | _ => .any⟩
set_option maxRecDepth 100000 in
set_option maxHeartbeats 1000000 in
theorem con_ref03_Dot : c_ref03_Dot.Ok Try.prog := by
  refine con_pure (C := [c_ref03_Saturated, c_ref01_Saturate, c_ref01_RoundDiv]) (pl := []) Try.func70 rfl (by kernel_rfl) T_ok (Cons.cons con_ref03_Saturated (Cons.cons con_ref01_Saturate (Cons.cons con_ref01_RoundDiv (Cons.nil _)))) mixed (by kernel_rfl) _ _ _ (fun l hl hpre => ?_)
  match l, hl with
  | [a, b, c, d], _ =>
    repeat' (first | (with_reducible refine And.intro ?_ ?_) | (with_reducible intro h) | ((fail_if_success (with_reducible refine Leaf.mk ?_)); (fail_if_success (with_reducible refine VC.mk ?_)); (fail_if_success (with_reducible refine Goes.mk ?_)); (fail_if_success (with_reducible refine Again.mk ?_)); (fail_if_success (with_reducible refine Rounds.mk ?_)); (fail_if_success (with_reducible show False)); (fail_if_success (with_reducible show True)); conv => whnf))
    all_goals have := satmul_bd a c
    all_goals have := satmul_bd b d
    all_goals first | (refine VC.mk ?_; simp only [InR]; omega) | exact ⟨rfl⟩
end Go.Proofs.Ytapbegcmdiemoaa
