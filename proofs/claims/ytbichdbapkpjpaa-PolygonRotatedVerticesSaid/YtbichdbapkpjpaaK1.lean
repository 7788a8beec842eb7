/- Contracts of chapter 1, out of its walks. -/
import Derived.Test.YtbichdbapkpjpaaEvI
import Derived.Test.YtbichdbapkpjpaaTab
import Derived.Test.YtbichdbapkpjpaaFv
namespace Go.Proofs.Ytbichdbapkpjpaa
open Go.RowKit Fx Ev
def c_fixed_Saturate : Con := ⟨41, pureRun [0] (fun _ => []) fun | [a0] => .int .i64 (sat a0) | _ => .any⟩
theorem con_fixed_Saturate : c_fixed_Saturate.Ok Try.prog :=
  con_calls Try.func41 (by kernel_rfl) (by kernel_rfl) _ _ _ fun l vs hl hv _ w => match l, hl with
    | [a0], _ => by cases hv; exact (fixed_Saturate a0 w).mono fun e w' ⟨he, hw⟩ => ⟨_, he, fun _ => rfl, quiet_b hw⟩
def c_ref01_Saturate : Con := ⟨44, pureRun [0] (fun _ => []) fun | [a0] => .int .i64 (sat a0) | _ => .any⟩
theorem con_ref01_Saturate : c_ref01_Saturate.Ok Try.prog :=
  con_calls Try.func44 (by kernel_rfl) (by kernel_rfl) _ _ _ fun l vs hl hv _ w => match l, hl with
    | [a0], _ => by cases hv; exact (ref01_Saturate a0 w).mono fun e w' ⟨he, hw⟩ => ⟨_, he, fun _ => rfl, quiet_b hw⟩
def c_fixed_Sub : Con := ⟨52, pureRun [0, 0] (fun _ => []) fun | [a0, a1] => .int .i64 (sub a0 a1) | _ => .any⟩
theorem con_fixed_Sub : c_fixed_Sub.Ok Try.prog :=
  con_calls Try.func52 (by kernel_rfl) (by kernel_rfl) _ _ _ fun l vs hl hv _ w => match l, hl with
    | [a0, a1], _ => by cases hv; exact (fixed_Sub a0 a1 w).mono fun e w' ⟨he, hw⟩ => ⟨_, he, fun _ => rfl, quiet_b hw⟩
def c_ref01_Sub : Con := ⟨54, pureRun [0, 0] (fun _ => []) fun | [a0, a1] => .int .i64 (sub a0 a1) | _ => .any⟩
theorem con_ref01_Sub : c_ref01_Sub.Ok Try.prog :=
  con_calls Try.func54 (by kernel_rfl) (by kernel_rfl) _ _ _ fun l vs hl hv _ w => match l, hl with
    | [a0, a1], _ => by cases hv; exact (ref01_Sub a0 a1 w).mono fun e w' ⟨he, hw⟩ => ⟨_, he, fun _ => rfl, quiet_b hw⟩
def c_fixed_RoundDiv : Con := ⟨34, pureRun [0, 0] (fun _ => []) fun | [a0, a1] => .int .i64 (rd a0 a1) | _ => .any⟩
theorem con_fixed_RoundDiv : c_fixed_RoundDiv.Ok Try.prog :=
  con_calls Try.func34 (by kernel_rfl) (by kernel_rfl) _ _ _ fun l vs hl hv _ w => match l, hl with
    | [a0, a1], _ => by cases hv; exact (fixed_RoundDiv a0 a1 w).mono fun e w' ⟨he, hw⟩ => ⟨_, he, fun _ => rfl, drawn_b hw⟩
def c_ref01_RoundDiv : Con := ⟨36, pureRun [0, 0] (fun _ => []) fun | [a0, a1] => .int .i64 (rd a0 a1) | _ => .any⟩
theorem con_ref01_RoundDiv : c_ref01_RoundDiv.Ok Try.prog :=
  con_calls Try.func36 (by kernel_rfl) (by kernel_rfl) _ _ _ fun l vs hl hv _ w => match l, hl with
    | [a0, a1], _ => by cases hv; exact (ref01_RoundDiv a0 a1 w).mono fun e w' ⟨he, hw⟩ => ⟨_, he, fun _ => rfl, quiet_b hw⟩
def c_fixed_Isqrt : Con := ⟨50, pureRun [0] (fun _ => []) fun | [a0] => .int .i64 (isq a0) | _ => .any⟩
theorem con_fixed_Isqrt : c_fixed_Isqrt.Ok Try.prog :=
  con_calls Try.func50 (by kernel_rfl) (by kernel_rfl) _ _ _ fun l vs hl hv _ w => match l, hl with
    | [a0], _ => by cases hv; exact (fixed_Isqrt a0 w).mono fun e w' ⟨he, hw⟩ => ⟨_, he, fun _ => rfl, quiet_b hw⟩
def c_ref01_Isqrt : Con := ⟨53, pureRun [0] (fun _ => []) fun | [a0] => .int .i64 (isq a0) | _ => .any⟩
theorem con_ref01_Isqrt : c_ref01_Isqrt.Ok Try.prog :=
  con_calls Try.func53 (by kernel_rfl) (by kernel_rfl) _ _ _ fun l vs hl hv _ w => match l, hl with
    | [a0], _ => by cases hv; exact (ref01_Isqrt a0 w).mono fun e w' ⟨he, hw⟩ => ⟨_, he, fun _ => rfl, quiet_b hw⟩
end Go.Proofs.Ytbichdbapkpjpaa
