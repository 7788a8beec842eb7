/- Contracts of chapter 1, out of its walks. Contracts of package vec2 and of caromref03. Contracts of packages aabb and caromref05: what only computes. Contracts of packages aabb and caromref05: boxes of points. Contracts of package caromref05: boxes of points. Contracts of packages aabb and caromref05: unions and segments. Contracts of packages aabb and caromref05: segments. -/
import Derived.Test.YtconaehajaifhaaEF
import Derived.Test.YtconaehajaifhaaTab
import Derived.Test.YtconaehajaifhaaFv
import Derived.Test.YtconaehajaifhaaVx
import Derived.Test.YtconaehajaifhaaBx
namespace Go.Proofs.Ytconaehajaifhaa
open Go.RowKit Fx Ev
def c_fixed_Saturate : Con := ⟨59, pureRun [0] (fun _ => []) fun | [a0] => .int .i64 (sat a0) | _ => .any⟩
theorem con_fixed_Saturate : c_fixed_Saturate.Ok Try.prog :=
  con_calls Try.func59 (by kernel_rfl) (by kernel_rfl) _ _ _ fun l vs hl hv _ w => match l, hl with
    | [a0], _ => by cases hv; exact (fixed_Saturate a0 w).mono fun e w' ⟨he, hw⟩ => ⟨_, he, fun _ => rfl, quiet_b hw⟩
def c_ref01_Saturate : Con := ⟨74, pureRun [0] (fun _ => []) fun | [a0] => .int .i64 (sat a0) | _ => .any⟩
theorem con_ref01_Saturate : c_ref01_Saturate.Ok Try.prog :=
  con_calls Try.func74 (by kernel_rfl) (by kernel_rfl) _ _ _ fun l vs hl hv _ w => match l, hl with
    | [a0], _ => by cases hv; exact (ref01_Saturate a0 w).mono fun e w' ⟨he, hw⟩ => ⟨_, he, fun _ => rfl, quiet_b hw⟩
def c_fixed_Add : Con := ⟨72, pureRun [0, 0] (fun _ => []) fun | [a0, a1] => .int .i64 (add a0 a1) | _ => .any⟩
theorem con_fixed_Add : c_fixed_Add.Ok Try.prog :=
  con_calls Try.func72 (by kernel_rfl) (by kernel_rfl) _ _ _ fun l vs hl hv _ w => match l, hl with
    | [a0, a1], _ => by cases hv; exact (fixed_Add a0 a1 w).mono fun e w' ⟨he, hw⟩ => ⟨_, he, fun _ => rfl, quiet_b hw⟩
def c_fixed_Sub : Con := ⟨73, pureRun [0, 0] (fun _ => []) fun | [a0, a1] => .int .i64 (sub a0 a1) | _ => .any⟩
theorem con_fixed_Sub : c_fixed_Sub.Ok Try.prog :=
  con_calls Try.func73 (by kernel_rfl) (by kernel_rfl) _ _ _ fun l vs hl hv _ w => match l, hl with
    | [a0, a1], _ => by cases hv; exact (fixed_Sub a0 a1 w).mono fun e w' ⟨he, hw⟩ => ⟨_, he, fun _ => rfl, quiet_b hw⟩
end Go.Proofs.Ytconaehajaifhaa

namespace Go.Proofs.Ytconaehajaifhaa
open Go.RowKit Fx Vx Ev
set_option linter.unusedVariables false
set_option linter.unusedSimpArgs false

def c_vec2_saturate : Con := ⟨61, pureRun [2] (fun _ => []) fun | [a, b] => .agg [.int .i64 (sat a), .int .i64 (sat b)] | _ => .any⟩
set_option maxRecDepth 100000 in
set_option maxHeartbeats 1000000 in
theorem con_vec2_saturate : c_vec2_saturate.Ok Try.prog := by
  refine con_pure (C := [c_fixed_Saturate]) (pl := [(1, [0, 1, 2, 3, 4, 5, 6, 7], [0, 1, 3, 0, 8, 31, 63, 127])]) Try.func61 rfl (by kernel_rfl) T_ok (Cons.cons con_fixed_Saturate (Cons.nil _)) mixed (by kernel_rfl) _ _ _ (fun l hl hpre => ?_)
  match l, hl with
  | [a, b], _ =>
    repeat' (first | (with_reducible refine And.intro ?_ ?_) | (with_reducible intro h) | ((fail_if_success (with_reducible refine Leaf.mk ?_)); (fail_if_success (with_reducible refine VC.mk ?_)); (fail_if_success (with_reducible refine Goes.mk ?_)); (fail_if_success (with_reducible refine Again.mk ?_)); (fail_if_success (with_reducible refine Rounds.mk ?_)); (fail_if_success (with_reducible show False)); (fail_if_success (with_reducible show True)); conv => whnf))
    all_goals first | (refine VC.mk ?_; simp only [InR]; omega) | exact ⟨rfl⟩
def c_ref03_Saturated : Con := ⟨75, pureRun [2] (fun _ => []) fun | [a, b] => .agg [.int .i64 (sat a), .int .i64 (sat b)] | _ => .any⟩
set_option maxRecDepth 100000 in
set_option maxHeartbeats 1000000 in
theorem con_ref03_Saturated : c_ref03_Saturated.Ok Try.prog := by
  refine con_pure (C := [c_ref01_Saturate]) (pl := [(1, [0, 1, 2, 3, 4, 5, 6, 7], [0, 1, 3, 0, 8, 31, 63, 127])]) Try.func75 rfl (by kernel_rfl) T_ok (Cons.cons con_ref01_Saturate (Cons.nil _)) mixed (by kernel_rfl) _ _ _ (fun l hl hpre => ?_)
  match l, hl with
  | [a, b], _ =>
    repeat' (first | (with_reducible refine And.intro ?_ ?_) | (with_reducible intro h) | ((fail_if_success (with_reducible refine Leaf.mk ?_)); (fail_if_success (with_reducible refine VC.mk ?_)); (fail_if_success (with_reducible refine Goes.mk ?_)); (fail_if_success (with_reducible refine Again.mk ?_)); (fail_if_success (with_reducible refine Rounds.mk ?_)); (fail_if_success (with_reducible show False)); (fail_if_success (with_reducible show True)); conv => whnf))
    all_goals first | (refine VC.mk ?_; simp only [InR]; omega) | exact ⟨rfl⟩
def c_vec2_Orientation : Con := ⟨44, pureRun [2, 2, 2] (fun _ => []) fun | [a, b, c, d, e, f] => .int .i64 (orient a b c d e f) | _ => .any⟩
set_option maxRecDepth 100000 in
set_option maxHeartbeats 1000000 in
theorem con_vec2_Orientation : c_vec2_Orientation.Ok Try.prog := by
  refine con_pure (C := [c_vec2_saturate]) (pl := [(1, [0, 1, 2, 3, 4, 5, 6, 7, 8], [0, 1, 0, 7, 0, 31, 63, 127, 255])]) Try.func44 rfl (by kernel_rfl) T_ok (Cons.cons con_vec2_saturate (Cons.nil _)) mixed (by kernel_rfl) _ _ _ (fun l hl hpre => ?_)
  match l, hl with
  | [a, b, c, d, e, f], _ =>
    repeat' (first | (with_reducible refine And.intro ?_ ?_) | (with_reducible intro h) | ((fail_if_success (with_reducible refine Leaf.mk ?_)); (fail_if_success (with_reducible refine VC.mk ?_)); (fail_if_success (with_reducible refine Goes.mk ?_)); (fail_if_success (with_reducible refine Again.mk ?_)); (fail_if_success (with_reducible refine Rounds.mk ?_)); (fail_if_success (with_reducible show False)); (fail_if_success (with_reducible show True)); conv => whnf))
    all_goals have := sat_bd a
    all_goals have := sat_bd b
    all_goals have := sat_bd c
    all_goals have := sat_bd d
    all_goals have := sat_bd e
    all_goals have := sat_bd f
    all_goals have := dif_bd a c b f
    all_goals have := dif_bd b d a e
    all_goals first | (refine VC.mk ?_; simp only [InR]; omega) | (refine Leaf.mk ?_; show _ = sign (orientN a b c d e f); unfold sign; show min 1 (max (-1) (orientN a b c d e f)) = _; split <;> (try split) <;> omega)
def c_ref03_Orientation : Con := ⟨71, pureRun [2, 2, 2] (fun _ => []) fun | [a, b, c, d, e, f] => .int .i64 (orient a b c d e f) | _ => .any⟩
set_option maxRecDepth 100000 in
set_option maxHeartbeats 1000000 in
theorem con_ref03_Orientation : c_ref03_Orientation.Ok Try.prog := by
  refine con_pure (C := [c_ref03_Saturated]) (pl := []) Try.func71 rfl (by kernel_rfl) T_ok (Cons.cons con_ref03_Saturated (Cons.nil _)) mixed (by kernel_rfl) _ _ _ (fun l hl hpre => ?_)
  match l, hl with
  | [a, b, c, d, e, f], _ =>
    repeat' (first | (with_reducible refine And.intro ?_ ?_) | (with_reducible intro h) | ((fail_if_success (with_reducible refine Leaf.mk ?_)); (fail_if_success (with_reducible refine VC.mk ?_)); (fail_if_success (with_reducible refine Goes.mk ?_)); (fail_if_success (with_reducible refine Again.mk ?_)); (fail_if_success (with_reducible refine Rounds.mk ?_)); (fail_if_success (with_reducible show False)); (fail_if_success (with_reducible show True)); conv => whnf))
    all_goals have := sat_bd a
    all_goals have := sat_bd b
    all_goals have := sat_bd c
    all_goals have := sat_bd d
    all_goals have := sat_bd e
    all_goals have := sat_bd f
    all_goals have := dif_bd a c b f
    all_goals have := dif_bd b d a e
    all_goals first | (refine VC.mk ?_; simp only [InR]; omega) | (refine Leaf.mk ?_; simp only [decide_eq_true_eq, decide_eq_false_iff_not] at *; show _ = sign (orientN a b c d e f); unfold sign orientN; split <;> (try split) <;> omega)
end Go.Proofs.Ytconaehajaifhaa

namespace Go.Proofs.Ytconaehajaifhaa
open Go.RowKit Fx Vx Bx Ev
set_option linter.unusedVariables false
set_option linter.unusedSimpArgs false

def c_aabb_saturated : Con := ⟨35, pureRun [2] (fun _ => []) fun | [a, b] => .bool (satB a b) | _ => .any⟩
set_option maxRecDepth 100000 in
set_option maxHeartbeats 1000000 in
theorem con_aabb_saturated : c_aabb_saturated.Ok Try.prog := by
  refine con_pure (C := [c_fixed_Saturate]) (pl := [(1, [0, 1, 2, 3, 4, 5, 6, 7, 8, 9, 10, 11, 12, 13, 14], [0, 1, 3, 0, 8, 31, 63, 127, 255, 511, 127, 1151, 4095, 8191, 16383])]) Try.func35 rfl (by kernel_rfl) T_ok (Cons.cons con_fixed_Saturate (Cons.nil _)) mixed (by kernel_rfl) _ _ _ (fun l hl hpre => ?_)
  match l, hl with
  | [a, b], _ =>
    repeat' (first | (with_reducible refine And.intro ?_ ?_) | (with_reducible intro h) | ((fail_if_success (with_reducible refine Leaf.mk ?_)); (fail_if_success (with_reducible refine VC.mk ?_)); (fail_if_success (with_reducible refine Goes.mk ?_)); (fail_if_success (with_reducible refine Again.mk ?_)); (fail_if_success (with_reducible refine Rounds.mk ?_)); (fail_if_success (with_reducible show False)); (fail_if_success (with_reducible show True)); conv => whnf))
    all_goals (refine Leaf.mk ?_; simp only [decide_eq_true_eq, decide_eq_false_iff_not] at *; simp [satB, *]; try first | rfl | omega)
def c_aabb_saturate : Con := ⟨41, pureRun [2] (fun _ => []) fun | [a, b] => .agg [.int .i64 (sat a), .int .i64 (sat b)] | _ => .any⟩
set_option maxRecDepth 100000 in
set_option maxHeartbeats 1000000 in
theorem con_aabb_saturate : c_aabb_saturate.Ok Try.prog := by
  refine con_pure (C := [c_fixed_Saturate]) (pl := [(1, [0, 1, 2, 3, 4, 5, 6, 7], [0, 1, 3, 0, 8, 31, 63, 127])]) Try.func41 rfl (by kernel_rfl) T_ok (Cons.cons con_fixed_Saturate (Cons.nil _)) mixed (by kernel_rfl) _ _ _ (fun l hl hpre => ?_)
  match l, hl with
  | [a, b], _ =>
    repeat' (first | (with_reducible refine And.intro ?_ ?_) | (with_reducible intro h) | ((fail_if_success (with_reducible refine Leaf.mk ?_)); (fail_if_success (with_reducible refine VC.mk ?_)); (fail_if_success (with_reducible refine Goes.mk ?_)); (fail_if_success (with_reducible refine Again.mk ?_)); (fail_if_success (with_reducible refine Rounds.mk ?_)); (fail_if_success (with_reducible show False)); (fail_if_success (with_reducible show True)); conv => whnf))
    all_goals first | (refine VC.mk ?_; simp only [InR]; omega) | exact ⟨rfl⟩
def c_aabb_lower : Con := ⟨42, pureRun [2, 2] (fun _ => []) fun | [a, b, c, d] => .agg [.int .i64 (min a c), .int .i64 (min b d)] | _ => .any⟩
set_option maxRecDepth 100000 in
set_option maxHeartbeats 1000000 in
theorem con_aabb_lower : c_aabb_lower.Ok Try.prog := by
  refine con_pure (C := []) (pl := []) Try.func42 rfl (by kernel_rfl) T_ok (Cons.nil _) mixed (by kernel_rfl) _ _ _ (fun l hl hpre => ?_)
  match l, hl with
  | [a, b, c, d], _ =>
    repeat' (first | (with_reducible refine And.intro ?_ ?_) | (with_reducible intro h) | ((fail_if_success (with_reducible refine Leaf.mk ?_)); (fail_if_success (with_reducible refine VC.mk ?_)); (fail_if_success (with_reducible refine Goes.mk ?_)); (fail_if_success (with_reducible refine Again.mk ?_)); (fail_if_success (with_reducible refine Rounds.mk ?_)); (fail_if_success (with_reducible show False)); (fail_if_success (with_reducible show True)); conv => whnf))
    all_goals first | (refine VC.mk ?_; simp only [InR]; omega) | exact ⟨rfl⟩
def c_aabb_upper : Con := ⟨43, pureRun [2, 2] (fun _ => []) fun | [a, b, c, d] => .agg [.int .i64 (max a c), .int .i64 (max b d)] | _ => .any⟩
set_option maxRecDepth 100000 in
set_option maxHeartbeats 1000000 in
theorem con_aabb_upper : c_aabb_upper.Ok Try.prog := by
  refine con_pure (C := []) (pl := []) Try.func43 rfl (by kernel_rfl) T_ok (Cons.nil _) mixed (by kernel_rfl) _ _ _ (fun l hl hpre => ?_)
  match l, hl with
  | [a, b, c, d], _ =>
    repeat' (first | (with_reducible refine And.intro ?_ ?_) | (with_reducible intro h) | ((fail_if_success (with_reducible refine Leaf.mk ?_)); (fail_if_success (with_reducible refine VC.mk ?_)); (fail_if_success (with_reducible refine Goes.mk ?_)); (fail_if_success (with_reducible refine Again.mk ?_)); (fail_if_success (with_reducible refine Rounds.mk ?_)); (fail_if_success (with_reducible show False)); (fail_if_success (with_reducible show True)); conv => whnf))
    all_goals first | (refine VC.mk ?_; simp only [InR]; omega) | exact ⟨rfl⟩
def c_aabb_Valid : Con := ⟨18, pureRun [4] (fun _ => []) fun | [a, b, c, d] => .bool (validB a b c d) | _ => .any⟩
set_option maxRecDepth 100000 in
set_option maxHeartbeats 1000000 in
theorem con_aabb_Valid : c_aabb_Valid.Ok Try.prog := by
  refine con_pure (C := [c_aabb_saturated]) (pl := []) Try.func18 rfl (by kernel_rfl) T_ok (Cons.cons con_aabb_saturated (Cons.nil _)) mixed (by kernel_rfl) _ _ _ (fun l hl hpre => ?_)
  match l, hl with
  | [a, b, c, d], _ =>
    repeat' (first | (with_reducible refine And.intro ?_ ?_) | (with_reducible intro h) | ((fail_if_success (with_reducible refine Leaf.mk ?_)); (fail_if_success (with_reducible refine VC.mk ?_)); (fail_if_success (with_reducible refine Goes.mk ?_)); (fail_if_success (with_reducible refine Again.mk ?_)); (fail_if_success (with_reducible refine Rounds.mk ?_)); (fail_if_success (with_reducible show False)); (fail_if_success (with_reducible show True)); conv => whnf))
    all_goals (refine Leaf.mk ?_; first | rfl | (simp only [validB, Bool.and_true, Bool.true_and, Bool.and_false, Bool.false_and, *]; done) | (simp [validB, *]; done) | (simp_all [validB]; done))
def c_aabb_overlaps : Con := ⟨40, pureRun [4, 4] (fun _ => []) fun | [a, b, c, d, e, f, g, h] => .bool (overB a b c d e f g h) | _ => .any⟩
set_option maxRecDepth 100000 in
set_option maxHeartbeats 1000000 in
theorem con_aabb_overlaps : c_aabb_overlaps.Ok Try.prog := by
  refine con_pure (C := []) (pl := []) Try.func40 rfl (by kernel_rfl) T_ok (Cons.nil _) mixed (by kernel_rfl) _ _ _ (fun l hl hpre => ?_)
  match l, hl with
  | [a, b, c, d, e, f, g, h], _ =>
    repeat' (first | (with_reducible refine And.intro ?_ ?_) | (with_reducible intro h) | ((fail_if_success (with_reducible refine Leaf.mk ?_)); (fail_if_success (with_reducible refine VC.mk ?_)); (fail_if_success (with_reducible refine Goes.mk ?_)); (fail_if_success (with_reducible refine Again.mk ?_)); (fail_if_success (with_reducible refine Rounds.mk ?_)); (fail_if_success (with_reducible show False)); (fail_if_success (with_reducible show True)); conv => whnf))
    all_goals (refine Leaf.mk ?_; first | rfl | (simp only [overB, Bool.and_true, Bool.true_and, Bool.and_false, Bool.false_and, *]; done) | (simp [overB, *]; done) | (simp_all [overB]; done))
def c_aabb_Overlaps : Con := ⟨27, pureRun [4, 4] (fun _ => []) fun | [a, b, c, d, e, f, g, h] => .bool (overlapsB a b c d e f g h) | _ => .any⟩
set_option maxRecDepth 100000 in
set_option maxHeartbeats 1000000 in
theorem con_aabb_Overlaps : c_aabb_Overlaps.Ok Try.prog := by
  refine con_pure (C := [c_aabb_Valid, c_aabb_overlaps]) (pl := []) Try.func27 rfl (by kernel_rfl) T_ok (Cons.cons con_aabb_Valid (Cons.cons con_aabb_overlaps (Cons.nil _))) mixed (by kernel_rfl) _ _ _ (fun l hl hpre => ?_)
  match l, hl with
  | [a, b, c, d, e, f, g, h], _ =>
    repeat' (first | (with_reducible refine And.intro ?_ ?_) | (with_reducible intro h) | ((fail_if_success (with_reducible refine Leaf.mk ?_)); (fail_if_success (with_reducible refine VC.mk ?_)); (fail_if_success (with_reducible refine Goes.mk ?_)); (fail_if_success (with_reducible refine Again.mk ?_)); (fail_if_success (with_reducible refine Rounds.mk ?_)); (fail_if_success (with_reducible show False)); (fail_if_success (with_reducible show True)); conv => whnf))
    all_goals (refine Leaf.mk ?_; first | rfl | (simp only [overlapsB, Bool.and_true, Bool.true_and, Bool.and_false, Bool.false_and, *]; done) | (simp [overlapsB, *]; done) | (simp_all [overlapsB]; done))
def c_aabb_Union : Con := ⟨66, pureRun [4, 4] (fun _ => []) fun | [a, b, c, d, e, f, g, h] => .agg [.int .i64 (uni (validB a b c d) (validB e f g h) (min a e) a e), .int .i64 (uni (validB a b c d) (validB e f g h) (min b f) b f), .int .i64 (uni (validB a b c d) (validB e f g h) (max c g) c g), .int .i64 (uni (validB a b c d) (validB e f g h) (max d h) d h)] | _ => .any⟩
set_option maxRecDepth 100000 in
set_option maxHeartbeats 1000000 in
theorem con_aabb_Union : c_aabb_Union.Ok Try.prog := by
  refine con_pure (C := [c_aabb_Valid, c_aabb_lower, c_aabb_upper]) (pl := [(2, [0, 1, 2, 3, 4, 5, 6, 7, 8, 9, 10, 11], [0, 1, 0, 4, 15, 0, 32, 0, 128, 511, 1023, 2047])]) Try.func66 rfl (by kernel_rfl) T_ok (Cons.cons con_aabb_Valid (Cons.cons con_aabb_lower (Cons.cons con_aabb_upper (Cons.nil _)))) mixed (by kernel_rfl) _ _ _ (fun l hl hpre => ?_)
  match l, hl with
  | [a, b, c, d, e, f, g, h], _ =>
    repeat' (first | (with_reducible refine And.intro ?_ ?_) | (with_reducible intro h) | ((fail_if_success (with_reducible refine Leaf.mk ?_)); (fail_if_success (with_reducible refine VC.mk ?_)); (fail_if_success (with_reducible refine Goes.mk ?_)); (fail_if_success (with_reducible refine Again.mk ?_)); (fail_if_success (with_reducible refine Rounds.mk ?_)); (fail_if_success (with_reducible show False)); (fail_if_success (with_reducible show True)); conv => whnf))
    all_goals (refine Leaf.mk ?_; first | rfl | (simp only [uni, Bool.and_true, Bool.true_and, Bool.and_false, Bool.false_and, *]; done) | (simp [uni, *]; done) | (simp_all [uni]; done))
def c_aabb_HalfPerimeter : Con := ⟨65, pureRun [4] (fun _ => []) fun | [a, b, c, d] => .int .i64 (halfP a b c d) | _ => .any⟩
set_option maxRecDepth 100000 in
set_option maxHeartbeats 1000000 in
theorem con_aabb_HalfPerimeter : c_aabb_HalfPerimeter.Ok Try.prog := by
  refine con_pure (C := [c_aabb_Valid, c_fixed_Sub, c_fixed_Add]) (pl := [(3, [0, 1, 2, 3, 4, 5, 6, 7, 8, 9, 10, 11, 12, 13, 14, 15], [0, 1, 3, 0, 8, 24, 63, 0, 128, 384, 0, 1024, 3072, 8191, 16383, 32767])]) Try.func65 rfl (by kernel_rfl) T_ok (Cons.cons con_aabb_Valid (Cons.cons con_fixed_Sub (Cons.cons con_fixed_Add (Cons.nil _)))) mixed (by kernel_rfl) _ _ _ (fun l hl hpre => ?_)
  match l, hl with
  | [a, b, c, d], _ =>
    repeat' (first | (with_reducible refine And.intro ?_ ?_) | (with_reducible intro h) | ((fail_if_success (with_reducible refine Leaf.mk ?_)); (fail_if_success (with_reducible refine VC.mk ?_)); (fail_if_success (with_reducible refine Goes.mk ?_)); (fail_if_success (with_reducible refine Again.mk ?_)); (fail_if_success (with_reducible refine Rounds.mk ?_)); (fail_if_success (with_reducible show False)); (fail_if_success (with_reducible show True)); conv => whnf))
    all_goals (refine Leaf.mk ?_; first | rfl | (simp only [halfP, Bool.and_true, Bool.true_and, Bool.and_false, Bool.false_and, *]; done) | (simp [halfP, *]; done) | (simp_all [halfP]; done))
def c_ref05_SaturateVec : Con := ⟨69, pureRun [2] (fun _ => []) fun | [a, b] => .agg [.int .i64 (sat a), .int .i64 (sat b)] | _ => .any⟩
set_option maxRecDepth 100000 in
set_option maxHeartbeats 1000000 in
theorem con_ref05_SaturateVec : c_ref05_SaturateVec.Ok Try.prog := by
  refine con_pure (C := [c_ref01_Saturate]) (pl := [(1, [0, 1, 2, 3, 4, 5, 6, 7], [0, 1, 3, 0, 8, 31, 63, 127])]) Try.func69 rfl (by kernel_rfl) T_ok (Cons.cons con_ref01_Saturate (Cons.nil _)) mixed (by kernel_rfl) _ _ _ (fun l hl hpre => ?_)
  match l, hl with
  | [a, b], _ =>
    repeat' (first | (with_reducible refine And.intro ?_ ?_) | (with_reducible intro h) | ((fail_if_success (with_reducible refine Leaf.mk ?_)); (fail_if_success (with_reducible refine VC.mk ?_)); (fail_if_success (with_reducible refine Goes.mk ?_)); (fail_if_success (with_reducible refine Again.mk ?_)); (fail_if_success (with_reducible refine Rounds.mk ?_)); (fail_if_success (with_reducible show False)); (fail_if_success (with_reducible show True)); conv => whnf))
    all_goals first | (refine VC.mk ?_; simp only [InR]; omega) | exact ⟨rfl⟩
def c_ref05_Valid : Con := ⟨63, pureRun [4] (fun _ => []) fun | [a, b, c, d] => .bool (validB a b c d) | _ => .any⟩
set_option maxRecDepth 100000 in
set_option maxHeartbeats 1000000 in
theorem con_ref05_Valid : c_ref05_Valid.Ok Try.prog := by
  refine con_pure (C := [c_ref05_SaturateVec]) (pl := [(1, [0, 1, 2, 3, 4, 5, 6, 7, 8, 9, 10, 11, 12, 13, 14, 15, 16, 17, 18, 19, 20, 21, 22, 23, 24, 25, 26, 27, 28, 29, 30, 31, 32], [0, 1, 3, 0, 8, 24, 63, 127, 255, 511, 1023, 255, 2303, 6399, 16383, 32767, 65535, 131071, 262143, 131071, 655359, 1703935, 4194303, 8388607, 16777215, 33554431, 67108863, 33554431, 167772159, 436207615, 1073741823, 2147483647, 4294967295])]) Try.func63 rfl (by kernel_rfl) T_ok (Cons.cons con_ref05_SaturateVec (Cons.nil _)) mixed (by kernel_rfl) _ _ _ (fun l hl hpre => ?_)
  match l, hl with
  | [a, b, c, d], _ =>
    repeat' (first | (with_reducible refine And.intro ?_ ?_) | (with_reducible intro h) | ((fail_if_success (with_reducible refine Leaf.mk ?_)); (fail_if_success (with_reducible refine VC.mk ?_)); (fail_if_success (with_reducible refine Goes.mk ?_)); (fail_if_success (with_reducible refine Again.mk ?_)); (fail_if_success (with_reducible refine Rounds.mk ?_)); (fail_if_success (with_reducible show False)); (fail_if_success (with_reducible show True)); conv => whnf))
    all_goals (refine Leaf.mk ?_; simp only [decide_eq_true_eq, decide_eq_false_iff_not, Bool.and_eq_true, Bool.and_eq_false_iff] at *; simp only [validB, satB]; grind)
def c_ref05_Overlaps : Con := ⟨52, pureRun [4, 4] (fun _ => []) fun | [a, b, c, d, e, f, g, h] => .bool (overlapsB a b c d e f g h) | _ => .any⟩
set_option maxRecDepth 100000 in
set_option maxHeartbeats 1000000 in
theorem con_ref05_Overlaps : c_ref05_Overlaps.Ok Try.prog := by
  refine con_pure (C := [c_ref05_Valid]) (pl := []) Try.func52 rfl (by kernel_rfl) T_ok (Cons.cons con_ref05_Valid (Cons.nil _)) mixed (by kernel_rfl) _ _ _ (fun l hl hpre => ?_)
  match l, hl with
  | [a, b, c, d, e, f, g, h], _ =>
    repeat' (first | (with_reducible refine And.intro ?_ ?_) | (with_reducible intro h) | ((fail_if_success (with_reducible refine Leaf.mk ?_)); (fail_if_success (with_reducible refine VC.mk ?_)); (fail_if_success (with_reducible refine Goes.mk ?_)); (fail_if_success (with_reducible refine Again.mk ?_)); (fail_if_success (with_reducible refine Rounds.mk ?_)); (fail_if_success (with_reducible show False)); (fail_if_success (with_reducible show True)); conv => whnf))
    all_goals (refine Leaf.mk ?_; first | rfl | (simp only [overlapsB, overB, Bool.and_true, Bool.true_and, Bool.and_false, Bool.false_and, *]; done) | (simp [overlapsB, overB, *]; done) | (simp_all [overlapsB, overB]; done))
end Go.Proofs.Ytconaehajaifhaa

namespace Go.Proofs.Ytconaehajaifhaa
open Go.RowKit Fx Vx Bx Ev
set_option linter.unusedVariables false
set_option linter.unusedSimpArgs false

def loP (j : Nat) (xs : List (List Int)) : Int := match xs with
  | [] => 0
  | x :: r => r.foldl (fun a p => min a (sat (p.getD j 0))) (sat (x.getD j 0))
def hiP (j : Nat) (xs : List (List Int)) : Int := match xs with
  | [] => 0
  | x :: r => r.foldl (fun a p => max a (sat (p.getD j 0))) (sat (x.getD j 0))
theorem take_at2 {xs : List (List Int)} {n : Nat} (h : n < xs.length) : ∃ p, xs.take (n + 1) = xs.take n ++ [p] ∧ ∀ j, at2 xs n j = p.getD j 0 := by
  refine ⟨xs[n], by rw [List.take_succ_eq_append_getElem h], fun j => ?_⟩
  simp [at2, h]
theorem loP_take {j n : Nat} {xs : List (List Int)} (h0 : 0 < n) (h : n < xs.length) : loP j (xs.take (n + 1)) = min (loP j (xs.take n)) (sat (at2 xs n j)) := by
  obtain ⟨p, hp, hj⟩ := take_at2 h
  rw [hp, hj]
  cases xs with
  | nil => simp at h
  | cons x r =>
    obtain ⟨k, rfl⟩ : ∃ k, n = k + 1 := ⟨n - 1, by omega⟩
    simp [loP, List.foldl_append]
theorem hiP_take {j n : Nat} {xs : List (List Int)} (h0 : 0 < n) (h : n < xs.length) : hiP j (xs.take (n + 1)) = max (hiP j (xs.take n)) (sat (at2 xs n j)) := by
  obtain ⟨p, hp, hj⟩ := take_at2 h
  rw [hp, hj]
  cases xs with
  | nil => simp at h
  | cons x r =>
    obtain ⟨k, rfl⟩ : ∃ k, n = k + 1 := ⟨n - 1, by omega⟩
    simp [hiP, List.foldl_append]
theorem loP_one {j : Nat} {xs : List (List Int)} (h : 0 < xs.length) : loP j (xs.take 1) = sat (at2 xs 0 j) := by
  cases xs with
  | nil => simp at h
  | cons x r => simp [loP, at2]
theorem hiP_one {j : Nat} {xs : List (List Int)} (h : 0 < xs.length) : hiP j (xs.take 1) = sat (at2 xs 0 j) := by
  cases xs with
  | nil => simp at h
  | cons x r => simp [hiP, at2]

end Go.Proofs.Ytconaehajaifhaa

namespace Go.Proofs.Ytconaehajaifhaa
open Go.RowKit Fx Vx Bx Ev
set_option linter.unusedVariables false
set_option linter.unusedSimpArgs false

def c_ref05_FromPoints : Con := ⟨70, rowRun [.rows 2] (fun _ R => match R with | [xs] => [xs.length ≤ 100000] | _ => [False]) fun l R => match R with
  | [xs] => .tup [.agg [.int .i64 (loP 0 xs), .int .i64 (loP 1 xs), .int .i64 (hiP 0 xs), .int .i64 (hiP 1 xs)], .bool (!xs.isEmpty)]
  | _ => .any⟩
set_option maxRecDepth 100000 in
set_option maxHeartbeats 1000000 in
theorem con_ref05_FromPoints : c_ref05_FromPoints.Ok Try.prog := by
  refine con_rows (C := [c_ref05_SaturateVec]) (pl := []) Try.func70 rfl (by kernel_rfl) T_ok (Cons.cons con_ref05_SaturateVec (Cons.nil _)) mixed (by kernel_rfl) _ _ _ (fun l R hl hR hn hpre => ?_)
  match l, hl, R, hR with
  | [], _, [(true, xs)], _ =>
    obtain rfl : xs = [] := hn _ (List.mem_singleton.2 rfl) rfl
    repeat' (first | (with_reducible refine And.intro ?_ ?_) | (with_reducible intro h) | ((fail_if_success (with_reducible refine Leaf.mk ?_)); (fail_if_success (with_reducible refine VC.mk ?_)); (fail_if_success (with_reducible refine Goes.mk ?_)); (fail_if_success (with_reducible refine Again.mk ?_)); (fail_if_success (with_reducible refine Rounds.mk ?_)); (fail_if_success (with_reducible show False)); (fail_if_success (with_reducible show True)); conv => whnf))
    all_goals first | exact trivial | exact ⟨rfl⟩
  | [], _, [(false, xs)], _ =>
    have hle : xs.length ≤ 100000 := hpre _ (List.mem_singleton.2 rfl)
    repeat' (first | (with_reducible refine And.intro ?_ ?_) | (with_reducible intro h) | ((fail_if_success (with_reducible refine Leaf.mk ?_)); (fail_if_success (with_reducible refine VC.mk ?_)); (fail_if_success (with_reducible refine Goes.mk ?_)); (fail_if_success (with_reducible refine Again.mk ?_)); (fail_if_success (with_reducible refine Rounds.mk ?_)); (fail_if_success (with_reducible show False)); (fail_if_success (with_reducible show True)); conv => whnf))
    all_goals try first | exact trivial | (refine VC.mk ?_; simp only [InR, decide_eq_true_eq, decide_eq_false_iff_not] at *; omega) | (refine VC.mk ?_; rfl) | (refine Leaf.mk ?_; have hx : xs = [] := by { simpa using ‹decide ((xs.length : Int) = 0) = true› }; subst hx; rfl)
    have hxs : 0 < xs.length := by { simp only [decide_eq_false_iff_not] at *; omega }
    refine goes_inv (X := Nat) (pl := []) T_ok (Cons.cons con_ref05_SaturateVec (Cons.nil _)) mixed (by kernel_rfl)
      (fun i => (.sl 0 2 0 xs.length :: .any :: .ptr 1 0 :: .blit false :: .any :: .ptr 3 0 :: .int .i64 (i : Int) :: .any :: .any :: .any :: .any :: .any :: .any :: .any :: .any :: .any :: .any :: .any :: .any :: .any :: .any :: .any :: .any :: .any :: .any :: .any :: .any :: .any :: .any :: .any :: .any :: .any :: .any :: .any :: .any :: .any :: .any :: .any :: .any :: .any :: .any :: .any :: .any :: .any :: .any :: .any :: .any :: .any :: .any :: .any :: .any :: .any :: .any :: .any :: .any :: .any :: .any :: .any :: [],
        [.arr false true 2 xs, .cells [.any, .any, .any, .any], .dead, .cells [.int .i64 (loP 0 (xs.take i)), .int .i64 (loP 1 (xs.take i)), .int .i64 (hiP 0 (xs.take i)), .int .i64 (hiP 1 (xs.take i))]]))
      (fun i => 0 < i ∧ i ≤ xs.length) (fun i => xs.length - i) 1 [0, 1, 2, 3] ⟨Nat.one_pos, hxs⟩ ?_ ?_ ?_
    · repeat' (first | (with_reducible refine And.intro ?_ ?_) | (with_reducible intro h) | ((fail_if_success (with_reducible refine Leaf.mk ?_)); (fail_if_success (with_reducible refine VC.mk ?_)); (fail_if_success (with_reducible refine Goes.mk ?_)); (fail_if_success (with_reducible refine Again.mk ?_)); (fail_if_success (with_reducible refine Rounds.mk ?_)); (fail_if_success (with_reducible show False)); (fail_if_success (with_reducible show True)); conv => whnf))
      all_goals first | exact trivial | (refine Leaf.mk ?_; first | rfl | exact ⟨rfl, rfl⟩)
    · repeat' (first | (with_reducible refine And.intro ?_ ?_) | (with_reducible intro h) | ((fail_if_success (with_reducible refine Leaf.mk ?_)); (fail_if_success (with_reducible refine VC.mk ?_)); (fail_if_success (with_reducible refine Goes.mk ?_)); (fail_if_success (with_reducible refine Again.mk ?_)); (fail_if_success (with_reducible refine Rounds.mk ?_)); (fail_if_success (with_reducible show False)); (fail_if_success (with_reducible show True)); conv => whnf))
      all_goals first | exact trivial | (refine Leaf.mk ?_; first | rfl | exact ⟨rfl, rfl⟩ | exact (loP_one hxs).symm | exact (hiP_one hxs).symm)
    · intro i hi
      obtain ⟨h0, hi⟩ := hi
      repeat' (first | (with_reducible refine And.intro ?_ ?_) | (with_reducible intro h) | ((fail_if_success (with_reducible refine Leaf.mk ?_)); (fail_if_success (with_reducible refine VC.mk ?_)); (fail_if_success (with_reducible refine Goes.mk ?_)); (fail_if_success (with_reducible refine Again.mk ?_)); (fail_if_success (with_reducible refine Rounds.mk ?_)); (fail_if_success (with_reducible show False)); (fail_if_success (with_reducible show True)); conv => whnf))
      all_goals try first | exact trivial | (refine VC.mk ?_; simp only [InR, decide_eq_true_eq, decide_eq_false_iff_not] at *; omega) | (refine VC.mk ?_; rfl)
      · have hlt : i < xs.length := by { simp only [decide_eq_true_eq, decide_eq_false_iff_not] at *; omega }
        have e1 : 0 + ((i : Int)).toNat = i := by omega
        refine Again.mk ⟨i + 1, [0, 1, 2, 3], ⟨Nat.succ_pos i, hlt⟩, by omega, ?_, ?_⟩
        · repeat' (first | (with_reducible refine And.intro ?_ ?_) | (with_reducible intro h) | ((fail_if_success (with_reducible refine Leaf.mk ?_)); (fail_if_success (with_reducible refine VC.mk ?_)); (fail_if_success (with_reducible refine Goes.mk ?_)); (fail_if_success (with_reducible refine Again.mk ?_)); (fail_if_success (with_reducible refine Rounds.mk ?_)); (fail_if_success (with_reducible show False)); (fail_if_success (with_reducible show True)); conv => whnf))
          all_goals try first | exact trivial | (refine Leaf.mk ?_; first | rfl | exact ⟨rfl, rfl⟩)
        · repeat' (first | (with_reducible refine And.intro ?_ ?_) | (with_reducible intro h) | ((fail_if_success (with_reducible refine Leaf.mk ?_)); (fail_if_success (with_reducible refine VC.mk ?_)); (fail_if_success (with_reducible refine Goes.mk ?_)); (fail_if_success (with_reducible refine Again.mk ?_)); (fail_if_success (with_reducible refine Rounds.mk ?_)); (fail_if_success (with_reducible show False)); (fail_if_success (with_reducible show True)); conv => whnf))
          all_goals try first | exact trivial | (refine Leaf.mk ?_; first | rfl | exact ⟨rfl, rfl⟩ | (rw [e1]; first | exact (loP_take h0 hlt).symm | exact (hiP_take h0 hlt).symm))
      all_goals (have he : xs.take i = xs := List.take_of_length_le (by { simp only [decide_eq_true_eq, decide_eq_false_iff_not] at *; omega }); refine Leaf.mk ?_; first | rw [he] | (cases xs with | nil => simp at hxs | cons => rfl))
end Go.Proofs.Ytconaehajaifhaa

namespace Go.Proofs.Ytconaehajaifhaa
open Go.RowKit Fx Vx Bx Ev
set_option linter.unusedVariables false
set_option linter.unusedSimpArgs false

theorem fp4 {a b c d e f g h : Int} (h1 : validB a b c d = true) (h2 : validB e f g h = true) :
    loP 0 [[a, b], [c, d], [e, f], [g, h]] = min a e ∧ loP 1 [[a, b], [c, d], [e, f], [g, h]] = min b f ∧ hiP 0 [[a, b], [c, d], [e, f], [g, h]] = max c g ∧ hiP 1 [[a, b], [c, d], [e, f], [g, h]] = max d h := by
  simp only [validB, satB, Bool.and_eq_true, decide_eq_true_eq, beq_iff_eq] at h1 h2
  obtain ⟨⟨⟨p1, p2⟩, p3, p4⟩, p5, p6⟩ := h1
  obtain ⟨⟨⟨q1, q2⟩, q3, q4⟩, q5, q6⟩ := h2
  refine ⟨?_, ?_, ?_, ?_⟩ <;> (simp only [loP, hiP, List.foldl, List.getD_cons_zero, List.getD_cons_succ, p3, p4, p5, p6, q3, q4, q5, q6]; omega)

end Go.Proofs.Ytconaehajaifhaa

namespace Go.Proofs.Ytconaehajaifhaa
open Go.RowKit Fx Vx Bx Ev
set_option linter.unusedVariables false
set_option linter.unusedSimpArgs false

def cnt (s o : Int) : Int := if o = s then 1 else 0
def corn (a b c d : Int) : List (List Int) := [[a, b], [c, b], [c, d], [a, d]]
def sideN (s x y z w : Int) (cs : List (List Int)) : Nat → Int
  | 0 => 0
  | n + 1 => sideN s x y z w cs n + cnt s (orient x y z w (at2 cs n 0) (at2 cs n 1))
theorem sideN_bd (s x y z w : Int) (cs : List (List Int)) : ∀ n : Nat, 0 ≤ sideN s x y z w cs n ∧ sideN s x y z w cs n ≤ n
  | 0 => ⟨Int.le_refl _, Int.le_refl _⟩
  | n + 1 => by
    have := sideN_bd s x y z w cs n
    simp only [sideN, cnt]
    split <;> omega
def isegB (a b c d x y z w : Int) : Bool := validB a b c d && overB a b c d (min (sat x) (sat z)) (min (sat y) (sat w)) (max (sat x) (sat z)) (max (sat y) (sat w)) && (decide (sideN 1 x y z w (corn a b c d) 4 < 4) && decide (sideN (-1) x y z w (corn a b c d) 4 < 4))
theorem sat_sat' (a : Int) : sat (sat a) = sat a := by simp only [sat]; omega
theorem orient_sat (a b c d e f : Int) : orient (sat a) (sat b) (sat c) (sat d) e f = orient a b c d e f := by simp only [orient, orientN, sat_sat']

def c_aabb_IntersectsSegment : Con := ⟨28, pureRun [4, 2, 2] (fun _ => []) fun | [a, b, c, d, x, y, z, w] => .bool (isegB a b c d x y z w) | _ => .any⟩
set_option maxRecDepth 100000 in
set_option maxHeartbeats 1000000 in
theorem con_aabb_IntersectsSegment : c_aabb_IntersectsSegment.Ok Try.prog := by
  refine con_pure (C := [c_aabb_Valid, c_aabb_saturate, c_aabb_overlaps, c_aabb_lower, c_aabb_upper, c_vec2_Orientation]) (pl := [(3, [0, 1, 2, 3, 4, 5], [0, 1, 0, 7, 15, 31]), (4, [0, 1, 2, 3, 4, 5, 6, 7, 8, 9], [0, 0, 0, 6, 0, 0, 62, 126, 255, 511])]) Try.func28 rfl (by kernel_rfl) T_ok (Cons.cons con_aabb_Valid (Cons.cons con_aabb_saturate (Cons.cons con_aabb_overlaps (Cons.cons con_aabb_lower (Cons.cons con_aabb_upper (Cons.cons con_vec2_Orientation (Cons.nil _))))))) mixed (by kernel_rfl) _ _ _ (fun l hl hpre => ?_)
  match l, hl with
  | [a, b, c, d, x, y, z, w], _ =>
    repeat' (first | (with_reducible refine And.intro ?_ ?_) | (with_reducible intro h) | ((fail_if_success (with_reducible refine Leaf.mk ?_)); (fail_if_success (with_reducible refine VC.mk ?_)); (fail_if_success (with_reducible refine Goes.mk ?_)); (fail_if_success (with_reducible refine Again.mk ?_)); (fail_if_success (with_reducible refine Rounds.mk ?_)); (fail_if_success (with_reducible show False)); (fail_if_success (with_reducible show True)); conv => whnf))
    all_goals try first | exact trivial | (refine Leaf.mk ?_; first | rfl | (simp only [isegB, *]; done) | (simp [isegB, *]; done) | (simp_all [isegB]; done))
    refine goes_inv (X := Nat) (pl := [(3, [0, 1, 2, 3, 4, 5], [0, 1, 0, 7, 15, 31]), (4, [0, 1, 2, 3, 4, 5, 6, 7, 8, 9], [0, 0, 0, 6, 0, 0, 62, 126, 255, 511])]) T_ok (Cons.cons con_aabb_Valid (Cons.cons con_aabb_saturate (Cons.cons con_aabb_overlaps (Cons.cons con_aabb_lower (Cons.cons con_aabb_upper (Cons.cons con_vec2_Orientation (Cons.nil _))))))) mixed (by kernel_rfl)
      (fun i => (.any :: .any :: .any :: .any :: .ptr 1 0 :: .ptr 2 0 :: .any :: .int .i64 (sideN (1) x y z w (corn a b c d) i) :: .int .i64 (sideN (-1) x y z w (corn a b c d) i) :: .any :: .any :: .any :: .any :: .any :: .any :: .any :: .any :: .any :: .any :: .any :: .any :: .any :: .any :: .any :: .any :: .any :: .any :: .any :: .any :: .any :: .any :: .any :: .any :: .any :: .any :: .any :: .any :: .any :: .any :: .any :: .any :: .any :: .any :: .any :: .any :: .any :: .sl 3 2 0 4 :: .int .i64 4 :: .int .i64 (i : Int) :: .any :: .any :: .any :: .any :: .any :: .any :: .any :: .any :: .any :: .any :: .any :: .any :: .any :: .any :: .any :: .any :: .any :: .any :: .any :: .any :: .any :: .any :: [],
        [.dead, .cells [.int .i64 (sat x), .int .i64 (sat y)], .cells [.int .i64 (sat z), .int .i64 (sat w)], .arr false true 2 (corn a b c d)]))
      (fun i => i ≤ 4) (fun i => 4 - i) 0 [0, 1, 2, 3] (Nat.zero_le 4) ?_ ?_ ?_
    · repeat' (first | (with_reducible refine And.intro ?_ ?_) | (with_reducible intro h) | ((fail_if_success (with_reducible refine Leaf.mk ?_)); (fail_if_success (with_reducible refine VC.mk ?_)); (fail_if_success (with_reducible refine Goes.mk ?_)); (fail_if_success (with_reducible refine Again.mk ?_)); (fail_if_success (with_reducible refine Rounds.mk ?_)); (fail_if_success (with_reducible show False)); (fail_if_success (with_reducible show True)); conv => whnf))
      all_goals first | exact trivial | (refine Leaf.mk ?_; first | rfl | exact ⟨rfl, rfl⟩)
    · repeat' (first | (with_reducible refine And.intro ?_ ?_) | (with_reducible intro h) | ((fail_if_success (with_reducible refine Leaf.mk ?_)); (fail_if_success (with_reducible refine VC.mk ?_)); (fail_if_success (with_reducible refine Goes.mk ?_)); (fail_if_success (with_reducible refine Again.mk ?_)); (fail_if_success (with_reducible refine Rounds.mk ?_)); (fail_if_success (with_reducible show False)); (fail_if_success (with_reducible show True)); conv => whnf))
      all_goals first | exact trivial | (refine Leaf.mk ?_; first | rfl | exact ⟨rfl, rfl⟩)
    · intro i hi
      have b1 := sideN_bd 1 x y z w (corn a b c d) i
      have b2 := sideN_bd (-1) x y z w (corn a b c d) i
      repeat' (first | (with_reducible refine And.intro ?_ ?_) | (with_reducible intro h) | ((fail_if_success (with_reducible refine Leaf.mk ?_)); (fail_if_success (with_reducible refine VC.mk ?_)); (fail_if_success (with_reducible refine Goes.mk ?_)); (fail_if_success (with_reducible refine Again.mk ?_)); (fail_if_success (with_reducible refine Rounds.mk ?_)); (fail_if_success (with_reducible show False)); (fail_if_success (with_reducible show True)); conv => whnf))
      all_goals try first | exact trivial | (refine VC.mk ?_; simp only [InR, decide_eq_true_eq, decide_eq_false_iff_not, corn, List.length] at *; omega) | (refine VC.mk ?_; rfl)
      all_goals first
        | (refine Leaf.mk ?_
           obtain rfl : i = 4 := by { simp only [decide_eq_true_eq, decide_eq_false_iff_not] at *; omega }
           simp_all [isegB]
           try omega)
        | (have hlt : i < 4 := by { simp only [decide_eq_true_eq, decide_eq_false_iff_not] at *; omega }
           have e1 : 0 + ((i : Int)).toNat = i := by omega
           simp only [e1, orient_sat, decide_eq_true_eq, decide_eq_false_iff_not] at *
           refine Again.mk ⟨i + 1, [0, 1, 2, 3], hlt, by omega, ?_, ?_⟩
           · repeat' (first | (with_reducible refine And.intro ?_ ?_) | (with_reducible intro h) | ((fail_if_success (with_reducible refine Leaf.mk ?_)); (fail_if_success (with_reducible refine VC.mk ?_)); (fail_if_success (with_reducible refine Goes.mk ?_)); (fail_if_success (with_reducible refine Again.mk ?_)); (fail_if_success (with_reducible refine Rounds.mk ?_)); (fail_if_success (with_reducible show False)); (fail_if_success (with_reducible show True)); conv => whnf))
             all_goals try first | exact trivial | (refine Leaf.mk ?_; first | rfl | exact ⟨rfl, rfl⟩ | (exfalso; omega) | (simp only [sideN, cnt, *]; rfl) | (simp only [sideN, cnt, *]; simp))
           · repeat' (first | (with_reducible refine And.intro ?_ ?_) | (with_reducible intro h) | ((fail_if_success (with_reducible refine Leaf.mk ?_)); (fail_if_success (with_reducible refine VC.mk ?_)); (fail_if_success (with_reducible refine Goes.mk ?_)); (fail_if_success (with_reducible refine Again.mk ?_)); (fail_if_success (with_reducible refine Rounds.mk ?_)); (fail_if_success (with_reducible show False)); (fail_if_success (with_reducible show True)); conv => whnf))
             all_goals try first | exact trivial | (refine Leaf.mk ?_; first | rfl | exact ⟨rfl, rfl⟩))

theorem seg_box (a b c d x y z w : Int) : overlapsB a b c d (loP 0 [[x, y], [z, w]]) (loP 1 [[x, y], [z, w]]) (hiP 0 [[x, y], [z, w]]) (hiP 1 [[x, y], [z, w]]) = (validB a b c d && overB a b c d (min (sat x) (sat z)) (min (sat y) (sat w)) (max (sat x) (sat z)) (max (sat y) (sat w))) := by
  have hv : validB (min (sat x) (sat z)) (min (sat y) (sat w)) (max (sat x) (sat z)) (max (sat y) (sat w)) = true := by
    have m1 : ∀ p q : Int, sat (min (sat p) (sat q)) = min (sat p) (sat q) := by { intro p q; simp only [sat]; omega }
    have m2 : ∀ p q : Int, sat (max (sat p) (sat q)) = max (sat p) (sat q) := by { intro p q; simp only [sat]; omega }
    simp only [validB, satB, m1, m2, beq_self_eq_true, Bool.and_true, Bool.and_eq_true, decide_eq_true_eq]
    omega
  simp only [overlapsB, loP, hiP, List.foldl, List.getD_cons_zero, List.getD_cons_succ, hv, Bool.and_true]

def c_ref05_IntersectsSegment : Con := ⟨64, pureRun [4, 2, 2] (fun _ => []) fun | [a, b, c, d, x, y, z, w] => .bool (isegB a b c d x y z w) | _ => .any⟩
set_option maxRecDepth 100000 in
set_option maxHeartbeats 1000000 in
theorem con_ref05_IntersectsSegment : c_ref05_IntersectsSegment.Ok Try.prog := by
  refine con_pure (C := [c_ref05_FromPoints, c_ref05_Overlaps, c_ref03_Orientation]) (pl := [(9, [0, 1, 2, 3, 4, 5, 6, 7], [0, 0, 0, 0, 12, 28, 63, 127])]) Try.func64 rfl (by kernel_rfl) T_ok (Cons.cons con_ref05_FromPoints (Cons.cons con_ref05_Overlaps (Cons.cons con_ref03_Orientation (Cons.nil _)))) mixed (by kernel_rfl) _ _ _ (fun l hl hpre => ?_)
  match l, hl with
  | [a, b, c, d, x, y, z, w], _ =>
    repeat' (first | (with_reducible refine And.intro ?_ ?_) | (with_reducible intro h) | ((fail_if_success (with_reducible refine Leaf.mk ?_)); (fail_if_success (with_reducible refine VC.mk ?_)); (fail_if_success (with_reducible refine Goes.mk ?_)); (fail_if_success (with_reducible refine Again.mk ?_)); (fail_if_success (with_reducible refine Rounds.mk ?_)); (fail_if_success (with_reducible show False)); (fail_if_success (with_reducible show True)); conv => whnf))
    all_goals try first | exact trivial | (refine VC.mk ?_; simp; done) | (refine Leaf.mk ?_; have tk : List.take 2 (List.drop 0 [[x, y], [z, w]]) = [[x, y], [z, w]] := rfl; simp only [tk, seg_box] at *; cases hv : validB a b c d <;> cases ho : overB a b c d (min (sat x) (sat z)) (min (sat y) (sat w)) (max (sat x) (sat z)) (max (sat y) (sat w)) <;> simp_all [isegB]; done)
    refine goes_inv (X := Nat) (pl := [(9, [0, 1, 2, 3, 4, 5, 6, 7], [0, 0, 0, 0, 12, 28, 63, 127])]) T_ok (Cons.cons con_ref05_FromPoints (Cons.cons con_ref05_Overlaps (Cons.cons con_ref03_Orientation (Cons.nil _)))) mixed (by kernel_rfl)
      (fun i => (.any :: .any :: .any :: .any :: .ptr 1 0 :: .ptr 2 0 :: .any :: .any :: .any :: .sl 5 2 0 4 :: .int .i64 (sideN (1) x y z w (corn a b c d) i) :: .int .i64 (sideN (-1) x y z w (corn a b c d) i) :: .int .i64 (i : Int) :: .any :: .any :: .any :: .any :: .any :: .any :: .any :: .any :: .any :: .any :: .any :: .any :: .any :: .any :: .any :: .any :: .any :: .any :: .any :: .any :: .any :: .any :: .any :: .any :: .any :: .any :: .any :: .any :: .any :: .any :: .any :: .any :: .any :: .any :: .any :: .any :: .any :: .any :: .any :: .any :: .any :: .any :: .any :: .any :: .any :: .any :: .any :: .any :: .any :: .any :: .any :: .any :: .any :: .any :: .any :: .any :: [],
        [.dead, .cells [.int .i64 x, .int .i64 y], .cells [.int .i64 z, .int .i64 w], .dead, .dead, .arr false true 2 (corn a b c d)]))
      (fun i => i ≤ 4) (fun i => 4 - i) 0 [0, 1, 2, 3, 4, 5] (Nat.zero_le 4) ?_ ?_ ?_
    · repeat' (first | (with_reducible refine And.intro ?_ ?_) | (with_reducible intro h) | ((fail_if_success (with_reducible refine Leaf.mk ?_)); (fail_if_success (with_reducible refine VC.mk ?_)); (fail_if_success (with_reducible refine Goes.mk ?_)); (fail_if_success (with_reducible refine Again.mk ?_)); (fail_if_success (with_reducible refine Rounds.mk ?_)); (fail_if_success (with_reducible show False)); (fail_if_success (with_reducible show True)); conv => whnf))
      all_goals first | exact trivial | (refine Leaf.mk ?_; first | rfl | exact ⟨rfl, rfl⟩)
    · repeat' (first | (with_reducible refine And.intro ?_ ?_) | (with_reducible intro h) | ((fail_if_success (with_reducible refine Leaf.mk ?_)); (fail_if_success (with_reducible refine VC.mk ?_)); (fail_if_success (with_reducible refine Goes.mk ?_)); (fail_if_success (with_reducible refine Again.mk ?_)); (fail_if_success (with_reducible refine Rounds.mk ?_)); (fail_if_success (with_reducible show False)); (fail_if_success (with_reducible show True)); conv => whnf))
      all_goals first | exact trivial | (refine Leaf.mk ?_; first | rfl | exact ⟨rfl, rfl⟩)
    · intro i hi
      have b1 := sideN_bd 1 x y z w (corn a b c d) i
      have b2 := sideN_bd (-1) x y z w (corn a b c d) i
      repeat' (first | (with_reducible refine And.intro ?_ ?_) | (with_reducible intro h) | ((fail_if_success (with_reducible refine Leaf.mk ?_)); (fail_if_success (with_reducible refine VC.mk ?_)); (fail_if_success (with_reducible refine Goes.mk ?_)); (fail_if_success (with_reducible refine Again.mk ?_)); (fail_if_success (with_reducible refine Rounds.mk ?_)); (fail_if_success (with_reducible show False)); (fail_if_success (with_reducible show True)); conv => whnf))
      all_goals try first | exact trivial | (refine VC.mk ?_; simp only [InR, decide_eq_true_eq, decide_eq_false_iff_not, corn, List.length] at *; omega) | (refine VC.mk ?_; rfl)
      all_goals first
        | (refine Leaf.mk ?_
           obtain rfl : i = 4 := by { simp only [decide_eq_true_eq, decide_eq_false_iff_not] at *; omega }
           have tk : List.take 2 (List.drop 0 [[x, y], [z, w]]) = [[x, y], [z, w]] := rfl
           simp only [tk, seg_box] at *
           simp_all [isegB]
           try omega)
        | (have hlt : i < 4 := by { simp only [decide_eq_true_eq, decide_eq_false_iff_not] at *; omega }
           have e1 : 0 + ((i : Int)).toNat = i := by omega
           simp only [e1, orient_sat, decide_eq_true_eq, decide_eq_false_iff_not] at *
           refine Again.mk ⟨i + 1, [0, 1, 2, 3, 4, 5], hlt, by omega, ?_, ?_⟩
           · repeat' (first | (with_reducible refine And.intro ?_ ?_) | (with_reducible intro h) | ((fail_if_success (with_reducible refine Leaf.mk ?_)); (fail_if_success (with_reducible refine VC.mk ?_)); (fail_if_success (with_reducible refine Goes.mk ?_)); (fail_if_success (with_reducible refine Again.mk ?_)); (fail_if_success (with_reducible refine Rounds.mk ?_)); (fail_if_success (with_reducible show False)); (fail_if_success (with_reducible show True)); conv => whnf))
             all_goals try first | exact trivial | (refine Leaf.mk ?_; first | rfl | exact ⟨rfl, rfl⟩ | (exfalso; omega) | (simp only [sideN, cnt, *]; rfl) | (simp only [sideN, cnt, *]; simp))
           · repeat' (first | (with_reducible refine And.intro ?_ ?_) | (with_reducible intro h) | ((fail_if_success (with_reducible refine Leaf.mk ?_)); (fail_if_success (with_reducible refine VC.mk ?_)); (fail_if_success (with_reducible refine Goes.mk ?_)); (fail_if_success (with_reducible refine Again.mk ?_)); (fail_if_success (with_reducible refine Rounds.mk ?_)); (fail_if_success (with_reducible show False)); (fail_if_success (with_reducible show True)); conv => whnf))
             all_goals try first | exact trivial | (refine Leaf.mk ?_; first | rfl | exact ⟨rfl, rfl⟩))
end Go.Proofs.Ytconaehajaifhaa
