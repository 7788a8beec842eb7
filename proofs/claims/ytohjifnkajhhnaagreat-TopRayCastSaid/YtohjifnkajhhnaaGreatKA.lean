/- Contracts of chapter 1, out of its walks. Contracts of package vec2 and of caromref03. Contracts of packages aabb and caromref05: what only computes. Contracts of packages aabb and caromref05: boxes of points. Contracts of package caromref05: boxes of points. -/
import Derived.Test.YtohjifnkajhhnaaGreatEF
import Derived.Test.YtohjifnkajhhnaaGreatTab
import Derived.Test.YtohjifnkajhhnaaGreatFv
import Derived.Test.YtohjifnkajhhnaaGreatVx
import Derived.Test.YtohjifnkajhhnaaGreatBx
namespace Go.Proofs.YtohjifnkajhhnaaGreat
open Go.RowKit Fx Ev
def c_fixed_Saturate : Con := ⟨62, pureRun [0] (fun _ => []) fun | [a0] => .int .i64 (sat a0) | _ => .any⟩
theorem con_fixed_Saturate : c_fixed_Saturate.Ok Tryz.prog :=
  con_calls Tryz.func62 (by kernel_rfl) (by kernel_rfl) _ _ _ fun l vs hl hv _ w => match l, hl with
    | [a0], _ => by cases hv; exact (fixed_Saturate a0 w).mono fun e w' ⟨he, hw⟩ => ⟨_, he, fun _ => rfl, quiet_b hw⟩
def c_fixed_Add : Con := ⟨56, pureRun [0, 0] (fun _ => []) fun | [a0, a1] => .int .i64 (add a0 a1) | _ => .any⟩
theorem con_fixed_Add : c_fixed_Add.Ok Tryz.prog :=
  con_calls Tryz.func56 (by kernel_rfl) (by kernel_rfl) _ _ _ fun l vs hl hv _ w => match l, hl with
    | [a0, a1], _ => by cases hv; exact (fixed_Add a0 a1 w).mono fun e w' ⟨he, hw⟩ => ⟨_, he, fun _ => rfl, quiet_b hw⟩
def c_fixed_Sub : Con := ⟨47, pureRun [0, 0] (fun _ => []) fun | [a0, a1] => .int .i64 (sub a0 a1) | _ => .any⟩
theorem con_fixed_Sub : c_fixed_Sub.Ok Tryz.prog :=
  con_calls Tryz.func47 (by kernel_rfl) (by kernel_rfl) _ _ _ fun l vs hl hv _ w => match l, hl with
    | [a0, a1], _ => by cases hv; exact (fixed_Sub a0 a1 w).mono fun e w' ⟨he, hw⟩ => ⟨_, he, fun _ => rfl, quiet_b hw⟩
def c_fixed_RoundDiv : Con := ⟨93, pureRun [0, 0] (fun _ => []) fun | [a0, a1] => .int .i64 (rd a0 a1) | _ => .any⟩
theorem con_fixed_RoundDiv : c_fixed_RoundDiv.Ok Tryz.prog :=
  con_calls Tryz.func93 (by kernel_rfl) (by kernel_rfl) _ _ _ fun l vs hl hv _ w => match l, hl with
    | [a0, a1], _ => by cases hv; exact (fixed_RoundDiv a0 a1 w).mono fun e w' ⟨he, hw⟩ => ⟨_, he, fun _ => rfl, drawn_b hw⟩
def c_fixed_Mul : Con := ⟨57, pureRun [0, 0] (fun _ => []) fun | [a0, a1] => .int .i64 (mul a0 a1) | _ => .any⟩
theorem con_fixed_Mul : c_fixed_Mul.Ok Tryz.prog :=
  con_calls Tryz.func57 (by kernel_rfl) (by kernel_rfl) _ _ _ fun l vs hl hv _ w => match l, hl with
    | [a0, a1], _ => by cases hv; exact (fixed_Mul a0 a1 w).mono fun e w' ⟨he, hw⟩ => ⟨_, he, fun _ => rfl, drawn_b hw⟩
def c_fixed_Clamp : Con := ⟨95, pureRun [0, 0, 0] (fun _ => []) fun | [a0, a1, a2] => .int .i64 (clamp a0 a1 a2) | _ => .any⟩
theorem con_fixed_Clamp : c_fixed_Clamp.Ok Tryz.prog :=
  con_calls Tryz.func95 (by kernel_rfl) (by kernel_rfl) _ _ _ fun l vs hl hv _ w => match l, hl with
    | [a0, a1, a2], _ => by cases hv; exact (fixed_Clamp a0 a1 a2 w).mono fun e w' ⟨he, hw⟩ => ⟨_, he, fun _ => rfl, quiet_b hw⟩
def c_fixed_Div : Con := ⟨55, pureRun [0, 0] (fun _ => []) fun | [a0, a1] => .int .i64 (dv a0 a1) | _ => .any⟩
theorem con_fixed_Div : c_fixed_Div.Ok Tryz.prog :=
  con_calls Tryz.func55 (by kernel_rfl) (by kernel_rfl) _ _ _ fun l vs hl hv _ w => match l, hl with
    | [a0, a1], _ => by cases hv; exact (fixed_Div a0 a1 w).mono fun e w' ⟨he, hw⟩ => ⟨_, he, fun _ => rfl, drawn_b hw⟩
def c_fixed_Ratio : Con := ⟨50, pureRun [0, 0] (fun _ => []) fun | [a0, a1] => .int .i64 (ratio a0 a1) | _ => .any⟩
theorem con_fixed_Ratio : c_fixed_Ratio.Ok Tryz.prog :=
  con_calls Tryz.func50 (by kernel_rfl) (by kernel_rfl) _ _ _ fun l vs hl hv _ w => match l, hl with
    | [a0, a1], _ => by cases hv; exact (fixed_Ratio a0 a1 w).mono fun e w' ⟨he, hw⟩ => ⟨_, he, fun _ => rfl, drawn_b hw⟩
def c_fixed_Isqrt : Con := ⟨49, pureRun [0] (fun _ => []) fun | [a0] => .int .i64 (isq a0) | _ => .any⟩
theorem con_fixed_Isqrt : c_fixed_Isqrt.Ok Tryz.prog :=
  con_calls Tryz.func49 (by kernel_rfl) (by kernel_rfl) _ _ _ fun l vs hl hv _ w => match l, hl with
    | [a0], _ => by cases hv; exact (fixed_Isqrt a0 w).mono fun e w' ⟨he, hw⟩ => ⟨_, he, fun _ => rfl, quiet_b hw⟩
def c_fixed_Lerp : Con := ⟨23, pureRun [0, 0, 0] (fun _ => []) fun | [a0, a1, a2] => .int .i64 (lerp a0 a1 a2) | _ => .any⟩
theorem con_fixed_Lerp : c_fixed_Lerp.Ok Tryz.prog :=
  con_calls Tryz.func23 (by kernel_rfl) (by kernel_rfl) _ _ _ fun l vs hl hv _ w => match l, hl with
    | [a0, a1, a2], _ => by cases hv; exact (fixed_Lerp a0 a1 a2 w).mono fun e w' ⟨he, hw⟩ => ⟨_, he, fun _ => rfl, drawn_b hw⟩
end Go.Proofs.YtohjifnkajhhnaaGreat

namespace Go.Proofs.YtohjifnkajhhnaaGreat
open Go.RowKit Fx Vx Ev
set_option linter.unusedVariables false
set_option linter.unusedSimpArgs false

def c_vec2_saturate : Con := ⟨64, pureRun [2] (fun _ => []) fun | [a, b] => .agg [.int .i64 (sat a), .int .i64 (sat b)] | _ => .any⟩
set_option maxRecDepth 100000 in
set_option maxHeartbeats 1000000 in
theorem con_vec2_saturate : c_vec2_saturate.Ok Tryz.prog := by
  refine con_pure (C := [c_fixed_Saturate]) (pl := [(1, [0, 1, 2, 3, 4, 5, 6, 7], [0, 1, 3, 0, 8, 31, 63, 127])]) Tryz.func64 rfl (by kernel_rfl) T_ok (Cons.cons con_fixed_Saturate (Cons.nil _)) mixed (by kernel_rfl) _ _ _ (fun l hl hpre => ?_)
  match l, hl with
  | [a, b], _ =>
    repeat' (first | (with_reducible refine And.intro ?_ ?_) | (with_reducible intro h) | ((fail_if_success (with_reducible refine Leaf.mk ?_)); (fail_if_success (with_reducible refine VC.mk ?_)); (fail_if_success (with_reducible refine Goes.mk ?_)); (fail_if_success (with_reducible refine Again.mk ?_)); (fail_if_success (with_reducible refine Rounds.mk ?_)); (fail_if_success (with_reducible show False)); (fail_if_success (with_reducible show True)); conv => whnf))
    all_goals first | (refine VC.mk ?_; simp only [InR]; omega) | exact ⟨rfl⟩
def c_vec2_product : Con := ⟨92, pureRun [0] (fun _ => []) fun | [n] => .int .i64 (sat (rd n 65536)) | _ => .any⟩
set_option maxRecDepth 100000 in
set_option maxHeartbeats 1000000 in
theorem con_vec2_product : c_vec2_product.Ok Tryz.prog := by
  refine con_pure (C := [c_fixed_Saturate, c_fixed_RoundDiv]) (pl := []) Tryz.func92 rfl (by kernel_rfl) T_ok (Cons.cons con_fixed_Saturate (Cons.cons con_fixed_RoundDiv (Cons.nil _))) mixed (by kernel_rfl) _ _ _ (fun l hl hpre => ?_)
  match l, hl with
  | [n], _ =>
    repeat' (first | (with_reducible refine And.intro ?_ ?_) | (with_reducible intro h) | ((fail_if_success (with_reducible refine Leaf.mk ?_)); (fail_if_success (with_reducible refine VC.mk ?_)); (fail_if_success (with_reducible refine Goes.mk ?_)); (fail_if_success (with_reducible refine Again.mk ?_)); (fail_if_success (with_reducible refine Rounds.mk ?_)); (fail_if_success (with_reducible show False)); (fail_if_success (with_reducible show True)); conv => whnf))
    all_goals first | (refine VC.mk ?_; simp only [InR]; omega) | exact ⟨rfl⟩
def c_vec2_Add : Con := ⟨53, pureRun [2, 2] (fun _ => []) fun | [a, b, c, d] => .agg [.int .i64 (add a c), .int .i64 (add b d)] | _ => .any⟩
set_option maxRecDepth 100000 in
set_option maxHeartbeats 1000000 in
theorem con_vec2_Add : c_vec2_Add.Ok Tryz.prog := by
  refine con_pure (C := [c_fixed_Add]) (pl := [(1, [0, 1, 2, 3, 4, 5, 6, 7, 8, 9, 10, 11], [0, 1, 0, 4, 15, 0, 32, 0, 128, 511, 1023, 2047])]) Tryz.func53 rfl (by kernel_rfl) T_ok (Cons.cons con_fixed_Add (Cons.nil _)) mixed (by kernel_rfl) _ _ _ (fun l hl hpre => ?_)
  match l, hl with
  | [a, b, c, d], _ =>
    repeat' (first | (with_reducible refine And.intro ?_ ?_) | (with_reducible intro h) | ((fail_if_success (with_reducible refine Leaf.mk ?_)); (fail_if_success (with_reducible refine VC.mk ?_)); (fail_if_success (with_reducible refine Goes.mk ?_)); (fail_if_success (with_reducible refine Again.mk ?_)); (fail_if_success (with_reducible refine Rounds.mk ?_)); (fail_if_success (with_reducible show False)); (fail_if_success (with_reducible show True)); conv => whnf))
    all_goals first | (refine VC.mk ?_; simp only [InR]; omega) | exact ⟨rfl⟩
def c_vec2_Sub : Con := ⟨26, pureRun [2, 2] (fun _ => []) fun | [a, b, c, d] => .agg [.int .i64 (sub a c), .int .i64 (sub b d)] | _ => .any⟩
set_option maxRecDepth 100000 in
set_option maxHeartbeats 1000000 in
theorem con_vec2_Sub : c_vec2_Sub.Ok Tryz.prog := by
  refine con_pure (C := [c_fixed_Sub]) (pl := [(1, [0, 1, 2, 3, 4, 5, 6, 7, 8, 9, 10, 11], [0, 1, 0, 4, 15, 0, 32, 0, 128, 511, 1023, 2047])]) Tryz.func26 rfl (by kernel_rfl) T_ok (Cons.cons con_fixed_Sub (Cons.nil _)) mixed (by kernel_rfl) _ _ _ (fun l hl hpre => ?_)
  match l, hl with
  | [a, b, c, d], _ =>
    repeat' (first | (with_reducible refine And.intro ?_ ?_) | (with_reducible intro h) | ((fail_if_success (with_reducible refine Leaf.mk ?_)); (fail_if_success (with_reducible refine VC.mk ?_)); (fail_if_success (with_reducible refine Goes.mk ?_)); (fail_if_success (with_reducible refine Again.mk ?_)); (fail_if_success (with_reducible refine Rounds.mk ?_)); (fail_if_success (with_reducible show False)); (fail_if_success (with_reducible show True)); conv => whnf))
    all_goals first | (refine VC.mk ?_; simp only [InR]; omega) | exact ⟨rfl⟩
def c_vec2_Scale : Con := ⟨51, pureRun [2, 0] (fun _ => []) fun | [a, b, k] => .agg [.int .i64 (mul a k), .int .i64 (mul b k)] | _ => .any⟩
set_option maxRecDepth 100000 in
set_option maxHeartbeats 1000000 in
theorem con_vec2_Scale : c_vec2_Scale.Ok Tryz.prog := by
  refine con_pure (C := [c_fixed_Mul]) (pl := [(1, [0, 1, 2, 3, 4, 5, 6, 7, 8, 9], [0, 1, 0, 7, 0, 16, 0, 127, 255, 511])]) Tryz.func51 rfl (by kernel_rfl) T_ok (Cons.cons con_fixed_Mul (Cons.nil _)) mixed (by kernel_rfl) _ _ _ (fun l hl hpre => ?_)
  match l, hl with
  | [a, b, k], _ =>
    repeat' (first | (with_reducible refine And.intro ?_ ?_) | (with_reducible intro h) | ((fail_if_success (with_reducible refine Leaf.mk ?_)); (fail_if_success (with_reducible refine VC.mk ?_)); (fail_if_success (with_reducible refine Goes.mk ?_)); (fail_if_success (with_reducible refine Again.mk ?_)); (fail_if_success (with_reducible refine Rounds.mk ?_)); (fail_if_success (with_reducible show False)); (fail_if_success (with_reducible show True)); conv => whnf))
    all_goals first | (refine VC.mk ?_; simp only [InR]; omega) | exact ⟨rfl⟩
def c_vec2_Dot : Con := ⟨48, pureRun [2, 2] (fun _ => []) fun | [a, b, c, d] => .int .i64 (dot a b c d) | _ => .any⟩
set_option maxRecDepth 100000 in
set_option maxHeartbeats 1000000 in
theorem con_vec2_Dot : c_vec2_Dot.Ok Tryz.prog := by
  refine con_pure (C := [c_vec2_saturate, c_vec2_product]) (pl := [(1, [0, 1, 2, 3, 4, 5], [0, 1, 0, 7, 15, 31])]) Tryz.func48 rfl (by kernel_rfl) T_ok (Cons.cons con_vec2_saturate (Cons.cons con_vec2_product (Cons.nil _))) mixed (by kernel_rfl) _ _ _ (fun l hl hpre => ?_)
  match l, hl with
  | [a, b, c, d], _ =>
    repeat' (first | (with_reducible refine And.intro ?_ ?_) | (with_reducible intro h) | ((fail_if_success (with_reducible refine Leaf.mk ?_)); (fail_if_success (with_reducible refine VC.mk ?_)); (fail_if_success (with_reducible refine Goes.mk ?_)); (fail_if_success (with_reducible refine Again.mk ?_)); (fail_if_success (with_reducible refine Rounds.mk ?_)); (fail_if_success (with_reducible show False)); (fail_if_success (with_reducible show True)); conv => whnf))
    all_goals have := satmul_bd a c
    all_goals have := satmul_bd b d
    all_goals first | (refine VC.mk ?_; simp only [InR]; omega) | exact ⟨rfl⟩
def c_vec2_Cross : Con := ⟨46, pureRun [2, 2] (fun _ => []) fun | [a, b, c, d] => .int .i64 (cross a b c d) | _ => .any⟩
set_option maxRecDepth 100000 in
set_option maxHeartbeats 1000000 in
theorem con_vec2_Cross : c_vec2_Cross.Ok Tryz.prog := by
  refine con_pure (C := [c_vec2_saturate, c_vec2_product]) (pl := [(1, [0, 1, 2, 3, 4, 5], [0, 1, 0, 7, 15, 31])]) Tryz.func46 rfl (by kernel_rfl) T_ok (Cons.cons con_vec2_saturate (Cons.cons con_vec2_product (Cons.nil _))) mixed (by kernel_rfl) _ _ _ (fun l hl hpre => ?_)
  match l, hl with
  | [a, b, c, d], _ =>
    repeat' (first | (with_reducible refine And.intro ?_ ?_) | (with_reducible intro h) | ((fail_if_success (with_reducible refine Leaf.mk ?_)); (fail_if_success (with_reducible refine VC.mk ?_)); (fail_if_success (with_reducible refine Goes.mk ?_)); (fail_if_success (with_reducible refine Again.mk ?_)); (fail_if_success (with_reducible refine Rounds.mk ?_)); (fail_if_success (with_reducible show False)); (fail_if_success (with_reducible show True)); conv => whnf))
    all_goals have := satmul_bd a d
    all_goals have := satmul_bd b c
    all_goals first | (refine VC.mk ?_; simp only [InR]; omega) | exact ⟨rfl⟩
def c_vec2_DistanceSquared : Con := ⟨60, pureRun [2, 2] (fun _ => []) fun | [a, b, c, d] => .int .i64 (dist2 a b c d) | _ => .any⟩
set_option maxRecDepth 100000 in
set_option maxHeartbeats 1000000 in
theorem con_vec2_DistanceSquared : c_vec2_DistanceSquared.Ok Tryz.prog := by
  refine con_pure (C := [c_vec2_saturate]) (pl := [(1, [0, 1, 2, 3, 4, 5], [0, 1, 0, 7, 15, 31]), (2, [0, 1, 2, 3, 4, 5, 6, 7, 8, 9, 10, 11], [0, 1, 0, 4, 15, 0, 32, 0, 128, 480, 31, 2047])]) Tryz.func60 rfl (by kernel_rfl) T_ok (Cons.cons con_vec2_saturate (Cons.nil _)) mixed (by kernel_rfl) _ _ _ (fun l hl hpre => ?_)
  match l, hl with
  | [a, b, c, d], _ =>
    repeat' (first | (with_reducible refine And.intro ?_ ?_) | (with_reducible intro h) | ((fail_if_success (with_reducible refine Leaf.mk ?_)); (fail_if_success (with_reducible refine VC.mk ?_)); (fail_if_success (with_reducible refine Goes.mk ?_)); (fail_if_success (with_reducible refine Again.mk ?_)); (fail_if_success (with_reducible refine Rounds.mk ?_)); (fail_if_success (with_reducible show False)); (fail_if_success (with_reducible show True)); conv => whnf))
    all_goals have := sat_bd a
    all_goals have := sat_bd b
    all_goals have := sat_bd c
    all_goals have := sat_bd d
    all_goals have := sqd_bd a c
    all_goals have := sqd_bd b d
    all_goals first | (refine VC.mk ?_; simp only [InR]; omega) | exact ⟨rfl⟩
def c_vec2_Length : Con := ⟨25, pureRun [2] (fun _ => []) fun | [a, b] => .int .i64 (len a b) | _ => .any⟩
set_option maxRecDepth 100000 in
set_option maxHeartbeats 1000000 in
theorem con_vec2_Length : c_vec2_Length.Ok Tryz.prog := by
  refine con_pure (C := [c_fixed_Isqrt, c_vec2_DistanceSquared]) (pl := []) Tryz.func25 rfl (by kernel_rfl) T_ok (Cons.cons con_fixed_Isqrt (Cons.cons con_vec2_DistanceSquared (Cons.nil _))) mixed (by kernel_rfl) _ _ _ (fun l hl hpre => ?_)
  match l, hl with
  | [a, b], _ =>
    repeat' (first | (with_reducible refine And.intro ?_ ?_) | (with_reducible intro h) | ((fail_if_success (with_reducible refine Leaf.mk ?_)); (fail_if_success (with_reducible refine VC.mk ?_)); (fail_if_success (with_reducible refine Goes.mk ?_)); (fail_if_success (with_reducible refine Again.mk ?_)); (fail_if_success (with_reducible refine Rounds.mk ?_)); (fail_if_success (with_reducible show False)); (fail_if_success (with_reducible show True)); conv => whnf))
    all_goals first | (refine VC.mk ?_; simp only [InR]; omega) | exact ⟨(len_dist2 _ _).symm⟩ | exact ⟨rfl⟩
def c_vec2_Normalize : Con := ⟨45, pureRun [2] (fun _ => []) fun | [a, b] => .agg [.int .i64 (norm a b a), .int .i64 (norm a b b)] | _ => .any⟩
set_option maxRecDepth 100000 in
set_option maxHeartbeats 1000000 in
theorem con_vec2_Normalize : c_vec2_Normalize.Ok Tryz.prog := by
  refine con_pure (C := [c_vec2_Length, c_fixed_Div]) (pl := [(4, [0, 1, 2, 3, 4, 5, 6, 7, 8, 9], [0, 1, 0, 7, 0, 16, 0, 127, 255, 511])]) Tryz.func45 rfl (by kernel_rfl) T_ok (Cons.cons con_vec2_Length (Cons.cons con_fixed_Div (Cons.nil _))) mixed (by kernel_rfl) _ _ _ (fun l hl hpre => ?_)
  match l, hl with
  | [a, b], _ =>
    repeat' (first | (with_reducible refine And.intro ?_ ?_) | (with_reducible intro h) | ((fail_if_success (with_reducible refine Leaf.mk ?_)); (fail_if_success (with_reducible refine VC.mk ?_)); (fail_if_success (with_reducible refine Goes.mk ?_)); (fail_if_success (with_reducible refine Again.mk ?_)); (fail_if_success (with_reducible refine Rounds.mk ?_)); (fail_if_success (with_reducible show False)); (fail_if_success (with_reducible show True)); conv => whnf))
    all_goals (rename_i h; simp only [decide_eq_true_eq, decide_eq_false_iff_not] at h; refine Leaf.mk ?_; simp [norm, h])
def c_vec2_Perp : Con := ⟨52, pureRun [2] (fun _ => []) fun | [a, b] => .agg [.int .i64 (-sat b), .int .i64 (sat a)] | _ => .any⟩
set_option maxRecDepth 100000 in
set_option maxHeartbeats 1000000 in
theorem con_vec2_Perp : c_vec2_Perp.Ok Tryz.prog := by
  refine con_pure (C := [c_vec2_saturate]) (pl := []) Tryz.func52 rfl (by kernel_rfl) T_ok (Cons.cons con_vec2_saturate (Cons.nil _)) mixed (by kernel_rfl) _ _ _ (fun l hl hpre => ?_)
  match l, hl with
  | [a, b], _ =>
    repeat' (first | (with_reducible refine And.intro ?_ ?_) | (with_reducible intro h) | ((fail_if_success (with_reducible refine Leaf.mk ?_)); (fail_if_success (with_reducible refine VC.mk ?_)); (fail_if_success (with_reducible refine Goes.mk ?_)); (fail_if_success (with_reducible refine Again.mk ?_)); (fail_if_success (with_reducible refine Rounds.mk ?_)); (fail_if_success (with_reducible show False)); (fail_if_success (with_reducible show True)); conv => whnf))
    all_goals have := sat_bd b
    all_goals first | (refine VC.mk ?_; simp only [InR]; omega) | exact ⟨rfl⟩
def c_vec2_Lerp : Con := ⟨9, pureRun [2, 2, 0] (fun _ => []) fun | [a, b, c, d, t] => .agg [.int .i64 (lerp a c t), .int .i64 (lerp b d t)] | _ => .any⟩
set_option maxRecDepth 100000 in
set_option maxHeartbeats 1000000 in
theorem con_vec2_Lerp : c_vec2_Lerp.Ok Tryz.prog := by
  refine con_pure (C := [c_fixed_Lerp]) (pl := [(1, [0, 1, 2, 3, 4, 5, 6, 7, 8, 9, 10, 11, 12, 13], [0, 1, 0, 4, 0, 31, 0, 64, 0, 256, 0, 2047, 4095, 8191])]) Tryz.func9 rfl (by kernel_rfl) T_ok (Cons.cons con_fixed_Lerp (Cons.nil _)) mixed (by kernel_rfl) _ _ _ (fun l hl hpre => ?_)
  match l, hl with
  | [a, b, c, d, t], _ =>
    repeat' (first | (with_reducible refine And.intro ?_ ?_) | (with_reducible intro h) | ((fail_if_success (with_reducible refine Leaf.mk ?_)); (fail_if_success (with_reducible refine VC.mk ?_)); (fail_if_success (with_reducible refine Goes.mk ?_)); (fail_if_success (with_reducible refine Again.mk ?_)); (fail_if_success (with_reducible refine Rounds.mk ?_)); (fail_if_success (with_reducible show False)); (fail_if_success (with_reducible show True)); conv => whnf))
    all_goals first | (refine VC.mk ?_; simp only [InR]; omega) | exact ⟨rfl⟩
def c_vec2_Orientation : Con := ⟨28, pureRun [2, 2, 2] (fun _ => []) fun | [a, b, c, d, e, f] => .int .i64 (orient a b c d e f) | _ => .any⟩
set_option maxRecDepth 100000 in
set_option maxHeartbeats 1000000 in
theorem con_vec2_Orientation : c_vec2_Orientation.Ok Tryz.prog := by
  refine con_pure (C := [c_vec2_saturate]) (pl := [(1, [0, 1, 2, 3, 4, 5, 6, 7, 8], [0, 1, 0, 7, 0, 31, 63, 127, 255])]) Tryz.func28 rfl (by kernel_rfl) T_ok (Cons.cons con_vec2_saturate (Cons.nil _)) mixed (by kernel_rfl) _ _ _ (fun l hl hpre => ?_)
  match l, hl with
  | [a, b, c, d, e, f], _ =>
    repeat' (first | (with_reducible refine And.intro ?_ ?_) | (with_reducible intro h) | ((fail_if_success (with_reducible refine Leaf.mk ?_)); (fail_if_success (with_reducible refine VC.mk ?_)); (fail_if_success (with_reducible refine Goes.mk ?_)); (fail_if_success (with_reducible refine Again.mk ?_)); (fail_if_success (with_reducible refine Rounds.mk ?_)); (fail_if_success (with_reducible show False)); (fail_if_success (with_reducible show True)); conv => whnf))
    all_goals have := sat_bd a
    all_goals have := sat_bd b
    all_goals have := sat_bd c
    all_goals have := sat_bd d
    all_goals have := sat_bd e
    all_goals have := sat_bd f
    all_goals have := dif_bd a c b f
    all_goals have := dif_bd b d a e
    all_goals first | (refine VC.mk ?_; simp only [InR]; omega) | (refine Leaf.mk ?_; show _ = sign (orientN a b c d e f); unfold sign; show min 1 (max (-1) (orientN a b c d e f)) = _; split <;> (try split) <;> omega)
end Go.Proofs.YtohjifnkajhhnaaGreat

namespace Go.Proofs.YtohjifnkajhhnaaGreat
open Go.RowKit Fx Vx Bx Ev
set_option linter.unusedVariables false
set_option linter.unusedSimpArgs false

def c_aabb_saturated : Con := ⟨143, pureRun [2] (fun _ => []) fun | [a, b] => .bool (satB a b) | _ => .any⟩
set_option maxRecDepth 100000 in
set_option maxHeartbeats 1000000 in
theorem con_aabb_saturated : c_aabb_saturated.Ok Tryz.prog := by
  refine con_pure (C := [c_fixed_Saturate]) (pl := [(1, [0, 1, 2, 3, 4, 5, 6, 7, 8, 9, 10, 11, 12, 13, 14], [0, 1, 3, 0, 8, 31, 63, 127, 255, 511, 127, 1151, 4095, 8191, 16383])]) Tryz.func143 rfl (by kernel_rfl) T_ok (Cons.cons con_fixed_Saturate (Cons.nil _)) mixed (by kernel_rfl) _ _ _ (fun l hl hpre => ?_)
  match l, hl with
  | [a, b], _ =>
    repeat' (first | (with_reducible refine And.intro ?_ ?_) | (with_reducible intro h) | ((fail_if_success (with_reducible refine Leaf.mk ?_)); (fail_if_success (with_reducible refine VC.mk ?_)); (fail_if_success (with_reducible refine Goes.mk ?_)); (fail_if_success (with_reducible refine Again.mk ?_)); (fail_if_success (with_reducible refine Rounds.mk ?_)); (fail_if_success (with_reducible show False)); (fail_if_success (with_reducible show True)); conv => whnf))
    all_goals (refine Leaf.mk ?_; simp only [decide_eq_true_eq, decide_eq_false_iff_not] at *; simp [satB, *]; try first | rfl | omega)
def c_aabb_saturate : Con := ⟨128, pureRun [2] (fun _ => []) fun | [a, b] => .agg [.int .i64 (sat a), .int .i64 (sat b)] | _ => .any⟩
set_option maxRecDepth 100000 in
set_option maxHeartbeats 1000000 in
theorem con_aabb_saturate : c_aabb_saturate.Ok Tryz.prog := by
  refine con_pure (C := [c_fixed_Saturate]) (pl := [(1, [0, 1, 2, 3, 4, 5, 6, 7], [0, 1, 3, 0, 8, 31, 63, 127])]) Tryz.func128 rfl (by kernel_rfl) T_ok (Cons.cons con_fixed_Saturate (Cons.nil _)) mixed (by kernel_rfl) _ _ _ (fun l hl hpre => ?_)
  match l, hl with
  | [a, b], _ =>
    repeat' (first | (with_reducible refine And.intro ?_ ?_) | (with_reducible intro h) | ((fail_if_success (with_reducible refine Leaf.mk ?_)); (fail_if_success (with_reducible refine VC.mk ?_)); (fail_if_success (with_reducible refine Goes.mk ?_)); (fail_if_success (with_reducible refine Again.mk ?_)); (fail_if_success (with_reducible refine Rounds.mk ?_)); (fail_if_success (with_reducible show False)); (fail_if_success (with_reducible show True)); conv => whnf))
    all_goals first | (refine VC.mk ?_; simp only [InR]; omega) | exact ⟨rfl⟩
def c_aabb_lower : Con := ⟨129, pureRun [2, 2] (fun _ => []) fun | [a, b, c, d] => .agg [.int .i64 (min a c), .int .i64 (min b d)] | _ => .any⟩
set_option maxRecDepth 100000 in
set_option maxHeartbeats 1000000 in
theorem con_aabb_lower : c_aabb_lower.Ok Tryz.prog := by
  refine con_pure (C := []) (pl := []) Tryz.func129 rfl (by kernel_rfl) T_ok (Cons.nil _) mixed (by kernel_rfl) _ _ _ (fun l hl hpre => ?_)
  match l, hl with
  | [a, b, c, d], _ =>
    repeat' (first | (with_reducible refine And.intro ?_ ?_) | (with_reducible intro h) | ((fail_if_success (with_reducible refine Leaf.mk ?_)); (fail_if_success (with_reducible refine VC.mk ?_)); (fail_if_success (with_reducible refine Goes.mk ?_)); (fail_if_success (with_reducible refine Again.mk ?_)); (fail_if_success (with_reducible refine Rounds.mk ?_)); (fail_if_success (with_reducible show False)); (fail_if_success (with_reducible show True)); conv => whnf))
    all_goals first | (refine VC.mk ?_; simp only [InR]; omega) | exact ⟨rfl⟩
def c_aabb_upper : Con := ⟨130, pureRun [2, 2] (fun _ => []) fun | [a, b, c, d] => .agg [.int .i64 (max a c), .int .i64 (max b d)] | _ => .any⟩
set_option maxRecDepth 100000 in
set_option maxHeartbeats 1000000 in
theorem con_aabb_upper : c_aabb_upper.Ok Tryz.prog := by
  refine con_pure (C := []) (pl := []) Tryz.func130 rfl (by kernel_rfl) T_ok (Cons.nil _) mixed (by kernel_rfl) _ _ _ (fun l hl hpre => ?_)
  match l, hl with
  | [a, b, c, d], _ =>
    repeat' (first | (with_reducible refine And.intro ?_ ?_) | (with_reducible intro h) | ((fail_if_success (with_reducible refine Leaf.mk ?_)); (fail_if_success (with_reducible refine VC.mk ?_)); (fail_if_success (with_reducible refine Goes.mk ?_)); (fail_if_success (with_reducible refine Again.mk ?_)); (fail_if_success (with_reducible refine Rounds.mk ?_)); (fail_if_success (with_reducible show False)); (fail_if_success (with_reducible show True)); conv => whnf))
    all_goals first | (refine VC.mk ?_; simp only [InR]; omega) | exact ⟨rfl⟩
def c_aabb_Valid : Con := ⟨131, pureRun [4] (fun _ => []) fun | [a, b, c, d] => .bool (validB a b c d) | _ => .any⟩
set_option maxRecDepth 100000 in
set_option maxHeartbeats 1000000 in
theorem con_aabb_Valid : c_aabb_Valid.Ok Tryz.prog := by
  refine con_pure (C := [c_aabb_saturated]) (pl := []) Tryz.func131 rfl (by kernel_rfl) T_ok (Cons.cons con_aabb_saturated (Cons.nil _)) mixed (by kernel_rfl) _ _ _ (fun l hl hpre => ?_)
  match l, hl with
  | [a, b, c, d], _ =>
    repeat' (first | (with_reducible refine And.intro ?_ ?_) | (with_reducible intro h) | ((fail_if_success (with_reducible refine Leaf.mk ?_)); (fail_if_success (with_reducible refine VC.mk ?_)); (fail_if_success (with_reducible refine Goes.mk ?_)); (fail_if_success (with_reducible refine Again.mk ?_)); (fail_if_success (with_reducible refine Rounds.mk ?_)); (fail_if_success (with_reducible show False)); (fail_if_success (with_reducible show True)); conv => whnf))
    all_goals (refine Leaf.mk ?_; first | rfl | (simp only [validB, Bool.and_true, Bool.true_and, Bool.and_false, Bool.false_and, *]; done) | (simp [validB, *]; done) | (simp_all [validB]; done))
def c_aabb_overlaps : Con := ⟨132, pureRun [4, 4] (fun _ => []) fun | [a, b, c, d, e, f, g, h] => .bool (overB a b c d e f g h) | _ => .any⟩
set_option maxRecDepth 100000 in
set_option maxHeartbeats 1000000 in
theorem con_aabb_overlaps : c_aabb_overlaps.Ok Tryz.prog := by
  refine con_pure (C := []) (pl := []) Tryz.func132 rfl (by kernel_rfl) T_ok (Cons.nil _) mixed (by kernel_rfl) _ _ _ (fun l hl hpre => ?_)
  match l, hl with
  | [a, b, c, d, e, f, g, h], _ =>
    repeat' (first | (with_reducible refine And.intro ?_ ?_) | (with_reducible intro h) | ((fail_if_success (with_reducible refine Leaf.mk ?_)); (fail_if_success (with_reducible refine VC.mk ?_)); (fail_if_success (with_reducible refine Goes.mk ?_)); (fail_if_success (with_reducible refine Again.mk ?_)); (fail_if_success (with_reducible refine Rounds.mk ?_)); (fail_if_success (with_reducible show False)); (fail_if_success (with_reducible show True)); conv => whnf))
    all_goals (refine Leaf.mk ?_; first | rfl | (simp only [overB, Bool.and_true, Bool.true_and, Bool.and_false, Bool.false_and, *]; done) | (simp [overB, *]; done) | (simp_all [overB]; done))
def c_aabb_Overlaps : Con := ⟨98, pureRun [4, 4] (fun _ => []) fun | [a, b, c, d, e, f, g, h] => .bool (overlapsB a b c d e f g h) | _ => .any⟩
set_option maxRecDepth 100000 in
set_option maxHeartbeats 1000000 in
theorem con_aabb_Overlaps : c_aabb_Overlaps.Ok Tryz.prog := by
  refine con_pure (C := [c_aabb_Valid, c_aabb_overlaps]) (pl := []) Tryz.func98 rfl (by kernel_rfl) T_ok (Cons.cons con_aabb_Valid (Cons.cons con_aabb_overlaps (Cons.nil _))) mixed (by kernel_rfl) _ _ _ (fun l hl hpre => ?_)
  match l, hl with
  | [a, b, c, d, e, f, g, h], _ =>
    repeat' (first | (with_reducible refine And.intro ?_ ?_) | (with_reducible intro h) | ((fail_if_success (with_reducible refine Leaf.mk ?_)); (fail_if_success (with_reducible refine VC.mk ?_)); (fail_if_success (with_reducible refine Goes.mk ?_)); (fail_if_success (with_reducible refine Again.mk ?_)); (fail_if_success (with_reducible refine Rounds.mk ?_)); (fail_if_success (with_reducible show False)); (fail_if_success (with_reducible show True)); conv => whnf))
    all_goals (refine Leaf.mk ?_; first | rfl | (simp only [overlapsB, Bool.and_true, Bool.true_and, Bool.and_false, Bool.false_and, *]; done) | (simp [overlapsB, *]; done) | (simp_all [overlapsB]; done))
end Go.Proofs.YtohjifnkajhhnaaGreat

namespace Go.Proofs.YtohjifnkajhhnaaGreat
open Go.RowKit Fx Vx Bx Ev
set_option linter.unusedVariables false
set_option linter.unusedSimpArgs false

def loP (j : Nat) (xs : List (List Int)) : Int := match xs with
  | [] => 0
  | x :: r => r.foldl (fun a p => min a (sat (p.getD j 0))) (sat (x.getD j 0))
def hiP (j : Nat) (xs : List (List Int)) : Int := match xs with
  | [] => 0
  | x :: r => r.foldl (fun a p => max a (sat (p.getD j 0))) (sat (x.getD j 0))
theorem take_at2 {xs : List (List Int)} {n : Nat} (h : n < xs.length) : ∃ p, xs.take (n + 1) = xs.take n ++ [p] ∧ ∀ j, at2 xs n j = p.getD j 0 := by
  refine ⟨xs[n], by rw [List.take_succ_eq_append_getElem h], fun j => ?_⟩
  simp [at2, h]
theorem loP_take {j n : Nat} {xs : List (List Int)} (h0 : 0 < n) (h : n < xs.length) : loP j (xs.take (n + 1)) = min (loP j (xs.take n)) (sat (at2 xs n j)) := by
  obtain ⟨p, hp, hj⟩ := take_at2 h
  rw [hp, hj]
  cases xs with
  | nil => simp at h
  | cons x r =>
    obtain ⟨k, rfl⟩ : ∃ k, n = k + 1 := ⟨n - 1, by omega⟩
    simp [loP, List.foldl_append]
theorem hiP_take {j n : Nat} {xs : List (List Int)} (h0 : 0 < n) (h : n < xs.length) : hiP j (xs.take (n + 1)) = max (hiP j (xs.take n)) (sat (at2 xs n j)) := by
  obtain ⟨p, hp, hj⟩ := take_at2 h
  rw [hp, hj]
  cases xs with
  | nil => simp at h
  | cons x r =>
    obtain ⟨k, rfl⟩ : ∃ k, n = k + 1 := ⟨n - 1, by omega⟩
    simp [hiP, List.foldl_append]
theorem loP_one {j : Nat} {xs : List (List Int)} (h : 0 < xs.length) : loP j (xs.take 1) = sat (at2 xs 0 j) := by
  cases xs with
  | nil => simp at h
  | cons x r => simp [loP, at2]
theorem hiP_one {j : Nat} {xs : List (List Int)} (h : 0 < xs.length) : hiP j (xs.take 1) = sat (at2 xs 0 j) := by
  cases xs with
  | nil => simp at h
  | cons x r => simp [hiP, at2]

def c_aabb_FromPoints : Con := ⟨97, rowRun [.rows 2] (fun _ R => match R with | [xs] => [xs.length ≤ 100000] | _ => [False]) fun l R => match R with
  | [xs] => .tup [.agg [.int .i64 (loP 0 xs), .int .i64 (loP 1 xs), .int .i64 (hiP 0 xs), .int .i64 (hiP 1 xs)], .bool (!xs.isEmpty)]
  | _ => .any⟩
set_option maxRecDepth 100000 in
set_option maxHeartbeats 1000000 in
theorem con_aabb_FromPoints : c_aabb_FromPoints.Ok Tryz.prog := by
  refine con_rows (C := [c_aabb_saturate, c_aabb_lower, c_aabb_upper]) (pl := []) Tryz.func97 rfl (by kernel_rfl) T_ok (Cons.cons con_aabb_saturate (Cons.cons con_aabb_lower (Cons.cons con_aabb_upper (Cons.nil _)))) mixed (by kernel_rfl) _ _ _ (fun l R hl hR hn hpre => ?_)
  match l, hl, R, hR with
  | [], _, [(true, xs)], _ =>
    obtain rfl : xs = [] := hn _ (List.mem_singleton.2 rfl) rfl
    repeat' (first | (with_reducible refine And.intro ?_ ?_) | (with_reducible intro h) | ((fail_if_success (with_reducible refine Leaf.mk ?_)); (fail_if_success (with_reducible refine VC.mk ?_)); (fail_if_success (with_reducible refine Goes.mk ?_)); (fail_if_success (with_reducible refine Again.mk ?_)); (fail_if_success (with_reducible refine Rounds.mk ?_)); (fail_if_success (with_reducible show False)); (fail_if_success (with_reducible show True)); conv => whnf))
    all_goals first | exact trivial | exact ⟨rfl⟩
  | [], _, [(false, xs)], _ =>
    have hle : xs.length ≤ 100000 := hpre _ (List.mem_singleton.2 rfl)
    repeat' (first | (with_reducible refine And.intro ?_ ?_) | (with_reducible intro h) | ((fail_if_success (with_reducible refine Leaf.mk ?_)); (fail_if_success (with_reducible refine VC.mk ?_)); (fail_if_success (with_reducible refine Goes.mk ?_)); (fail_if_success (with_reducible refine Again.mk ?_)); (fail_if_success (with_reducible refine Rounds.mk ?_)); (fail_if_success (with_reducible show False)); (fail_if_success (with_reducible show True)); conv => whnf))
    all_goals try first | exact trivial | (refine VC.mk ?_; simp only [InR, decide_eq_true_eq, decide_eq_false_iff_not] at *; omega) | (refine VC.mk ?_; rfl) | (refine Leaf.mk ?_; have hx : xs = [] := by { simpa using ‹decide ((xs.length : Int) = 0) = true› }; subst hx; rfl)
    have hxs : 0 < xs.length := by { simp only [decide_eq_false_iff_not] at *; omega }
    refine goes_inv (X := Nat) (pl := []) T_ok (Cons.cons con_aabb_saturate (Cons.cons con_aabb_lower (Cons.cons con_aabb_upper (Cons.nil _)))) mixed (by kernel_rfl)
      (fun i => (.sl 0 2 0 xs.length :: .any :: .ptr 1 0 :: .blit false :: .any :: .ptr 3 0 :: .any :: .any :: .any :: .any :: .any :: .any :: .any :: .any :: .any :: .any :: .any :: .any :: .any :: .any :: .sl 0 2 1 (xs.length - 1) :: .int .i64 ((xs.length - 1 : Nat) : Int) :: .int .i64 (i : Int) :: .any :: .any :: .any :: .any :: .any :: .any :: .any :: .any :: .any :: .any :: .any :: .any :: .any :: .any :: .any :: .any :: .any :: [],
        [.arr false true 2 xs, .cells [.any, .any, .any, .any], .dead, .cells [.int .i64 (loP 0 (xs.take (i + 1))), .int .i64 (loP 1 (xs.take (i + 1))), .int .i64 (hiP 0 (xs.take (i + 1))), .int .i64 (hiP 1 (xs.take (i + 1)))]]))
      (fun i => i < xs.length) (fun i => xs.length - i) 0 [0, 1, 2, 3] hxs ?_ ?_ ?_
    · repeat' (first | (with_reducible refine And.intro ?_ ?_) | (with_reducible intro h) | ((fail_if_success (with_reducible refine Leaf.mk ?_)); (fail_if_success (with_reducible refine VC.mk ?_)); (fail_if_success (with_reducible refine Goes.mk ?_)); (fail_if_success (with_reducible refine Again.mk ?_)); (fail_if_success (with_reducible refine Rounds.mk ?_)); (fail_if_success (with_reducible show False)); (fail_if_success (with_reducible show True)); conv => whnf))
      all_goals first | exact trivial | (refine Leaf.mk ?_; first | rfl | exact ⟨rfl, rfl⟩)
    · repeat' (first | (with_reducible refine And.intro ?_ ?_) | (with_reducible intro h) | ((fail_if_success (with_reducible refine Leaf.mk ?_)); (fail_if_success (with_reducible refine VC.mk ?_)); (fail_if_success (with_reducible refine Goes.mk ?_)); (fail_if_success (with_reducible refine Again.mk ?_)); (fail_if_success (with_reducible refine Rounds.mk ?_)); (fail_if_success (with_reducible show False)); (fail_if_success (with_reducible show True)); conv => whnf))
      all_goals first | exact trivial | (refine Leaf.mk ?_; first | rfl | exact ⟨rfl, rfl⟩ | exact (loP_one hxs).symm | exact (hiP_one hxs).symm)
    · intro i hi
      repeat' (first | (with_reducible refine And.intro ?_ ?_) | (with_reducible intro h) | ((fail_if_success (with_reducible refine Leaf.mk ?_)); (fail_if_success (with_reducible refine VC.mk ?_)); (fail_if_success (with_reducible refine Goes.mk ?_)); (fail_if_success (with_reducible refine Again.mk ?_)); (fail_if_success (with_reducible refine Rounds.mk ?_)); (fail_if_success (with_reducible show False)); (fail_if_success (with_reducible show True)); conv => whnf))
      all_goals try first | exact trivial | (refine VC.mk ?_; simp only [InR, decide_eq_true_eq, decide_eq_false_iff_not] at *; omega) | (refine VC.mk ?_; rfl)
      · have hlt : i + 1 < xs.length := by { simp only [decide_eq_true_eq, decide_eq_false_iff_not] at *; omega }
        have e1 : 1 + ((i : Int)).toNat = i + 1 := by omega
        refine Again.mk ⟨i + 1, [0, 1, 2, 3], hlt, by omega, ?_, ?_⟩
        · repeat' (first | (with_reducible refine And.intro ?_ ?_) | (with_reducible intro h) | ((fail_if_success (with_reducible refine Leaf.mk ?_)); (fail_if_success (with_reducible refine VC.mk ?_)); (fail_if_success (with_reducible refine Goes.mk ?_)); (fail_if_success (with_reducible refine Again.mk ?_)); (fail_if_success (with_reducible refine Rounds.mk ?_)); (fail_if_success (with_reducible show False)); (fail_if_success (with_reducible show True)); conv => whnf))
          all_goals try first | exact trivial | (refine Leaf.mk ?_; first | rfl | exact ⟨rfl, rfl⟩)
        · repeat' (first | (with_reducible refine And.intro ?_ ?_) | (with_reducible intro h) | ((fail_if_success (with_reducible refine Leaf.mk ?_)); (fail_if_success (with_reducible refine VC.mk ?_)); (fail_if_success (with_reducible refine Goes.mk ?_)); (fail_if_success (with_reducible refine Again.mk ?_)); (fail_if_success (with_reducible refine Rounds.mk ?_)); (fail_if_success (with_reducible show False)); (fail_if_success (with_reducible show True)); conv => whnf))
          all_goals try first | exact trivial | (refine Leaf.mk ?_; first | rfl | exact ⟨rfl, rfl⟩ | (rw [e1]; first | exact (loP_take (Nat.succ_pos i) hlt).symm | exact (hiP_take (Nat.succ_pos i) hlt).symm))
      all_goals (have he : xs.take (i + 1) = xs := List.take_of_length_le (by { simp only [decide_eq_true_eq, decide_eq_false_iff_not] at *; omega }); refine Leaf.mk ?_; first | rw [he] | (cases xs with | nil => simp at hxs | cons => rfl))
end Go.Proofs.YtohjifnkajhhnaaGreat

namespace Go.Proofs.YtohjifnkajhhnaaGreat
open Go.RowKit Fx Vx Bx Ev
set_option linter.unusedVariables false
set_option linter.unusedSimpArgs false

end Go.Proofs.YtohjifnkajhhnaaGreat
