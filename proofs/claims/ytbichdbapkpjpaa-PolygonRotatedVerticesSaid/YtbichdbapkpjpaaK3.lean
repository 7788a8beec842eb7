/- Contracts of package vec2 and of caromref03. -/
import Derived.Test.YtbichdbapkpjpaaK1
import Derived.Test.YtbichdbapkpjpaaVx
namespace Go.Proofs.Ytbichdbapkpjpaa
open Go.RowKit Fx Vx Ev
set_option linter.unusedVariables false
set_option linter.unusedSimpArgs false

def c_vec2_saturate : Con := ⟨47, pureRun [2] (fun _ => []) fun | [a, b] => .agg [.int .i64 (sat a), .int .i64 (sat b)] | _ => .any⟩
set_option maxRecDepth 100000 in
set_option maxHeartbeats 1000000 in
theorem con_vec2_saturate : c_vec2_saturate.Ok Try.prog := by
  refine con_pure (C := [c_fixed_Saturate]) (pl := [(1, [0, 1, 2, 3, 4, 5, 6, 7], [0, 1, 3, 0, 8, 31, 63, 127])]) Try.func47 rfl (by kernel_rfl) T_ok (Cons.cons con_fixed_Saturate (Cons.nil _)) mixed (by kernel_rfl) _ _ _ (fun l hl hpre => ?_)
  match l, hl with
  | [a, b], _ =>
    repeat' (first | (with_reducible refine And.intro ?_ ?_) | (with_reducible intro h) | ((fail_if_success (with_reducible refine Leaf.mk ?_)); (fail_if_success (with_reducible refine VC.mk ?_)); (fail_if_success (with_reducible refine Goes.mk ?_)); (fail_if_success (with_reducible refine Again.mk ?_)); (fail_if_success (with_reducible refine Rounds.mk ?_)); (fail_if_success (with_reducible show False)); (fail_if_success (with_reducible show True)); conv => whnf))
    all_goals first | (refine VC.mk ?_; simp only [InR]; omega) | exact ⟨rfl⟩
def c_ref03_Saturated : Con := ⟨48, pureRun [2] (fun _ => []) fun | [a, b] => .agg [.int .i64 (sat a), .int .i64 (sat b)] | _ => .any⟩
set_option maxRecDepth 100000 in
set_option maxHeartbeats 1000000 in
theorem con_ref03_Saturated : c_ref03_Saturated.Ok Try.prog := by
  refine con_pure (C := [c_ref01_Saturate]) (pl := [(1, [0, 1, 2, 3, 4, 5, 6, 7], [0, 1, 3, 0, 8, 31, 63, 127])]) Try.func48 rfl (by kernel_rfl) T_ok (Cons.cons con_ref01_Saturate (Cons.nil _)) mixed (by kernel_rfl) _ _ _ (fun l hl hpre => ?_)
  match l, hl with
  | [a, b], _ =>
    repeat' (first | (with_reducible refine And.intro ?_ ?_) | (with_reducible intro h) | ((fail_if_success (with_reducible refine Leaf.mk ?_)); (fail_if_success (with_reducible refine VC.mk ?_)); (fail_if_success (with_reducible refine Goes.mk ?_)); (fail_if_success (with_reducible refine Again.mk ?_)); (fail_if_success (with_reducible refine Rounds.mk ?_)); (fail_if_success (with_reducible show False)); (fail_if_success (with_reducible show True)); conv => whnf))
    all_goals first | (refine VC.mk ?_; simp only [InR]; omega) | exact ⟨rfl⟩
def c_vec2_Sub : Con := ⟨38, pureRun [2, 2] (fun _ => []) fun | [a, b, c, d] => .agg [.int .i64 (sub a c), .int .i64 (sub b d)] | _ => .any⟩
set_option maxRecDepth 100000 in
set_option maxHeartbeats 1000000 in
theorem con_vec2_Sub : c_vec2_Sub.Ok Try.prog := by
  refine con_pure (C := [c_fixed_Sub]) (pl := [(1, [0, 1, 2, 3, 4, 5, 6, 7, 8, 9, 10, 11], [0, 1, 0, 4, 15, 0, 32, 0, 128, 511, 1023, 2047])]) Try.func38 rfl (by kernel_rfl) T_ok (Cons.cons con_fixed_Sub (Cons.nil _)) mixed (by kernel_rfl) _ _ _ (fun l hl hpre => ?_)
  match l, hl with
  | [a, b, c, d], _ =>
    repeat' (first | (with_reducible refine And.intro ?_ ?_) | (with_reducible intro h) | ((fail_if_success (with_reducible refine Leaf.mk ?_)); (fail_if_success (with_reducible refine VC.mk ?_)); (fail_if_success (with_reducible refine Goes.mk ?_)); (fail_if_success (with_reducible refine Again.mk ?_)); (fail_if_success (with_reducible refine Rounds.mk ?_)); (fail_if_success (with_reducible show False)); (fail_if_success (with_reducible show True)); conv => whnf))
    all_goals first | (refine VC.mk ?_; simp only [InR]; omega) | exact ⟨rfl⟩
def c_ref03_Sub : Con := ⟨40, pureRun [2, 2] (fun _ => []) fun | [a, b, c, d] => .agg [.int .i64 (sub a c), .int .i64 (sub b d)] | _ => .any⟩
set_option maxRecDepth 100000 in
set_option maxHeartbeats 1000000 in
theorem con_ref03_Sub : c_ref03_Sub.Ok Try.prog := by
  refine con_pure (C := [c_ref01_Sub]) (pl := [(1, [0, 1, 2, 3, 4, 5, 6, 7, 8, 9, 10, 11], [0, 1, 0, 4, 15, 0, 32, 0, 128, 511, 1023, 2047])]) Try.func40 rfl (by kernel_rfl) T_ok (Cons.cons con_ref01_Sub (Cons.nil _)) mixed (by kernel_rfl) _ _ _ (fun l hl hpre => ?_)
  match l, hl with
  | [a, b, c, d], _ =>
    repeat' (first | (with_reducible refine And.intro ?_ ?_) | (with_reducible intro h) | ((fail_if_success (with_reducible refine Leaf.mk ?_)); (fail_if_success (with_reducible refine VC.mk ?_)); (fail_if_success (with_reducible refine Goes.mk ?_)); (fail_if_success (with_reducible refine Again.mk ?_)); (fail_if_success (with_reducible refine Rounds.mk ?_)); (fail_if_success (with_reducible show False)); (fail_if_success (with_reducible show True)); conv => whnf))
    all_goals first | (refine VC.mk ?_; simp only [InR]; omega) | exact ⟨rfl⟩
def c_vec2_DistanceSquared : Con := ⟨51, pureRun [2, 2] (fun _ => []) fun | [a, b, c, d] => .int .i64 (dist2 a b c d) | _ => .any⟩
set_option maxRecDepth 100000 in
set_option maxHeartbeats 1000000 in
theorem con_vec2_DistanceSquared : c_vec2_DistanceSquared.Ok Try.prog := by
  refine con_pure (C := [c_vec2_saturate]) (pl := [(1, [0, 1, 2, 3, 4, 5], [0, 1, 0, 7, 15, 31]), (2, [0, 1, 2, 3, 4, 5, 6, 7, 8, 9, 10, 11], [0, 1, 0, 4, 15, 0, 32, 0, 128, 480, 31, 2047])]) Try.func51 rfl (by kernel_rfl) T_ok (Cons.cons con_vec2_saturate (Cons.nil _)) mixed (by kernel_rfl) _ _ _ (fun l hl hpre => ?_)
  match l, hl with
  | [a, b, c, d], _ =>
    repeat' (first | (with_reducible refine And.intro ?_ ?_) | (with_reducible intro h) | ((fail_if_success (with_reducible refine Leaf.mk ?_)); (fail_if_success (with_reducible refine VC.mk ?_)); (fail_if_success (with_reducible refine Goes.mk ?_)); (fail_if_success (with_reducible refine Again.mk ?_)); (fail_if_success (with_reducible refine Rounds.mk ?_)); (fail_if_success (with_reducible show False)); (fail_if_success (with_reducible show True)); conv => whnf))
    all_goals have := sat_bd a
    all_goals have := sat_bd b
    all_goals have := sat_bd c
    all_goals have := sat_bd d
    all_goals have := sqd_bd a c
    all_goals have := sqd_bd b d
    all_goals first | (refine VC.mk ?_; simp only [InR]; omega) | exact ⟨rfl⟩
def c_ref03_DistanceSquared : Con := ⟨55, pureRun [2, 2] (fun _ => []) fun | [a, b, c, d] => .int .i64 (dist2 a b c d) | _ => .any⟩
set_option maxRecDepth 100000 in
set_option maxHeartbeats 1000000 in
theorem con_ref03_DistanceSquared : c_ref03_DistanceSquared.Ok Try.prog := by
  refine con_pure (C := [c_ref03_Saturated]) (pl := []) Try.func55 rfl (by kernel_rfl) T_ok (Cons.cons con_ref03_Saturated (Cons.nil _)) mixed (by kernel_rfl) _ _ _ (fun l hl hpre => ?_)
  match l, hl with
  | [a, b, c, d], _ =>
    repeat' (first | (with_reducible refine And.intro ?_ ?_) | (with_reducible intro h) | ((fail_if_success (with_reducible refine Leaf.mk ?_)); (fail_if_success (with_reducible refine VC.mk ?_)); (fail_if_success (with_reducible refine Goes.mk ?_)); (fail_if_success (with_reducible refine Again.mk ?_)); (fail_if_success (with_reducible refine Rounds.mk ?_)); (fail_if_success (with_reducible show False)); (fail_if_success (with_reducible show True)); conv => whnf))
    all_goals have := sat_bd a
    all_goals have := sat_bd b
    all_goals have := sat_bd c
    all_goals have := sat_bd d
    all_goals have := sqd_bd a c
    all_goals have := sqd_bd b d
    all_goals first | (refine VC.mk ?_; simp only [InR]; omega) | exact ⟨rfl⟩
def c_vec2_Length : Con := ⟨37, pureRun [2] (fun _ => []) fun | [a, b] => .int .i64 (len a b) | _ => .any⟩
set_option maxRecDepth 100000 in
set_option maxHeartbeats 1000000 in
theorem con_vec2_Length : c_vec2_Length.Ok Try.prog := by
  refine con_pure (C := [c_fixed_Isqrt, c_vec2_DistanceSquared]) (pl := []) Try.func37 rfl (by kernel_rfl) T_ok (Cons.cons con_fixed_Isqrt (Cons.cons con_vec2_DistanceSquared (Cons.nil _))) mixed (by kernel_rfl) _ _ _ (fun l hl hpre => ?_)
  match l, hl with
  | [a, b], _ =>
    repeat' (first | (with_reducible refine And.intro ?_ ?_) | (with_reducible intro h) | ((fail_if_success (with_reducible refine Leaf.mk ?_)); (fail_if_success (with_reducible refine VC.mk ?_)); (fail_if_success (with_reducible refine Goes.mk ?_)); (fail_if_success (with_reducible refine Again.mk ?_)); (fail_if_success (with_reducible refine Rounds.mk ?_)); (fail_if_success (with_reducible show False)); (fail_if_success (with_reducible show True)); conv => whnf))
    all_goals first | (refine VC.mk ?_; simp only [InR]; omega) | exact ⟨(len_dist2 _ _).symm⟩ | exact ⟨rfl⟩
def c_ref03_Length : Con := ⟨39, pureRun [2] (fun _ => []) fun | [a, b] => .int .i64 (len a b) | _ => .any⟩
set_option maxRecDepth 100000 in
set_option maxHeartbeats 1000000 in
theorem con_ref03_Length : c_ref03_Length.Ok Try.prog := by
  refine con_pure (C := [c_ref01_Isqrt, c_ref03_Saturated]) (pl := []) Try.func39 rfl (by kernel_rfl) T_ok (Cons.cons con_ref01_Isqrt (Cons.cons con_ref03_Saturated (Cons.nil _))) mixed (by kernel_rfl) _ _ _ (fun l hl hpre => ?_)
  match l, hl with
  | [a, b], _ =>
    repeat' (first | (with_reducible refine And.intro ?_ ?_) | (with_reducible intro h) | ((fail_if_success (with_reducible refine Leaf.mk ?_)); (fail_if_success (with_reducible refine VC.mk ?_)); (fail_if_success (with_reducible refine Goes.mk ?_)); (fail_if_success (with_reducible refine Again.mk ?_)); (fail_if_success (with_reducible refine Rounds.mk ?_)); (fail_if_success (with_reducible show False)); (fail_if_success (with_reducible show True)); conv => whnf))
    all_goals have := satmul_bd a a
    all_goals have := satmul_bd b b
    all_goals first | (refine VC.mk ?_; simp only [InR]; omega) | exact ⟨rfl⟩
def c_vec2_Orientation : Con := ⟨30, pureRun [2, 2, 2] (fun _ => []) fun | [a, b, c, d, e, f] => .int .i64 (orient a b c d e f) | _ => .any⟩
set_option maxRecDepth 100000 in
set_option maxHeartbeats 1000000 in
theorem con_vec2_Orientation : c_vec2_Orientation.Ok Try.prog := by
  refine con_pure (C := [c_vec2_saturate]) (pl := [(1, [0, 1, 2, 3, 4, 5, 6, 7, 8], [0, 1, 0, 7, 0, 31, 63, 127, 255])]) Try.func30 rfl (by kernel_rfl) T_ok (Cons.cons con_vec2_saturate (Cons.nil _)) mixed (by kernel_rfl) _ _ _ (fun l hl hpre => ?_)
  match l, hl with
  | [a, b, c, d, e, f], _ =>
    repeat' (first | (with_reducible refine And.intro ?_ ?_) | (with_reducible intro h) | ((fail_if_success (with_reducible refine Leaf.mk ?_)); (fail_if_success (with_reducible refine VC.mk ?_)); (fail_if_success (with_reducible refine Goes.mk ?_)); (fail_if_success (with_reducible refine Again.mk ?_)); (fail_if_success (with_reducible refine Rounds.mk ?_)); (fail_if_success (with_reducible show False)); (fail_if_success (with_reducible show True)); conv => whnf))
    all_goals have := sat_bd a
    all_goals have := sat_bd b
    all_goals have := sat_bd c
    all_goals have := sat_bd d
    all_goals have := sat_bd e
    all_goals have := sat_bd f
    all_goals have := dif_bd a c b f
    all_goals have := dif_bd b d a e
    all_goals first | (refine VC.mk ?_; simp only [InR]; omega) | (refine Leaf.mk ?_; show _ = sign (orientN a b c d e f); unfold sign; show min 1 (max (-1) (orientN a b c d e f)) = _; split <;> (try split) <;> omega)
def c_ref03_Orientation : Con := ⟨32, pureRun [2, 2, 2] (fun _ => []) fun | [a, b, c, d, e, f] => .int .i64 (orient a b c d e f) | _ => .any⟩
set_option maxRecDepth 100000 in
set_option maxHeartbeats 1000000 in
theorem con_ref03_Orientation : c_ref03_Orientation.Ok Try.prog := by
  refine con_pure (C := [c_ref03_Saturated]) (pl := []) Try.func32 rfl (by kernel_rfl) T_ok (Cons.cons con_ref03_Saturated (Cons.nil _)) mixed (by kernel_rfl) _ _ _ (fun l hl hpre => ?_)
  match l, hl with
  | [a, b, c, d, e, f], _ =>
    repeat' (first | (with_reducible refine And.intro ?_ ?_) | (with_reducible intro h) | ((fail_if_success (with_reducible refine Leaf.mk ?_)); (fail_if_success (with_reducible refine VC.mk ?_)); (fail_if_success (with_reducible refine Goes.mk ?_)); (fail_if_success (with_reducible refine Again.mk ?_)); (fail_if_success (with_reducible refine Rounds.mk ?_)); (fail_if_success (with_reducible show False)); (fail_if_success (with_reducible show True)); conv => whnf))
    all_goals have := sat_bd a
    all_goals have := sat_bd b
    all_goals have := sat_bd c
    all_goals have := sat_bd d
    all_goals have := sat_bd e
    all_goals have := sat_bd f
    all_goals have := dif_bd a c b f
    all_goals have := dif_bd b d a e
    all_goals first | (refine VC.mk ?_; simp only [InR]; omega) | (refine Leaf.mk ?_; simp only [decide_eq_true_eq, decide_eq_false_iff_not] at *; show _ = sign (orientN a b c d e f); unfold sign orientN; split <;> (try split) <;> omega)
end Go.Proofs.Ytbichdbapkpjpaa
