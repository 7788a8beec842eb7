/- Contracts of chapter 1, out of its walks. -/
import Derived.Test.YtdoagjphjnbbnaaEvI
import Derived.Test.YtdoagjphjnbbnaaTab
import Derived.Test.YtdoagjphjnbbnaaFv
namespace Go.Proofs.Ytdoagjphjnbbnaa
open Go.RowKit Fx Ev
def c_fixed_Saturate : Con := ⟨39, pureRun [0] (fun _ => []) fun | [a0] => .int .i64 (sat a0) | _ => .any⟩
theorem con_fixed_Saturate : c_fixed_Saturate.Ok Try.prog :=
  con_calls Try.func39 (by kernel_rfl) (by kernel_rfl) _ _ _ fun l vs hl hv _ w => match l, hl with
    | [a0], _ => by cases hv; exact (fixed_Saturate a0 w).mono fun e w' ⟨he, hw⟩ => ⟨_, he, fun _ => rfl, quiet_b hw⟩
def c_ref01_Saturate : Con := ⟨52, pureRun [0] (fun _ => []) fun | [a0] => .int .i64 (sat a0) | _ => .any⟩
theorem con_ref01_Saturate : c_ref01_Saturate.Ok Try.prog :=
  con_calls Try.func52 (by kernel_rfl) (by kernel_rfl) _ _ _ fun l vs hl hv _ w => match l, hl with
    | [a0], _ => by cases hv; exact (ref01_Saturate a0 w).mono fun e w' ⟨he, hw⟩ => ⟨_, he, fun _ => rfl, quiet_b hw⟩
def c_fixed_Add : Con := ⟨93, pureRun [0, 0] (fun _ => []) fun | [a0, a1] => .int .i64 (add a0 a1) | _ => .any⟩
theorem con_fixed_Add : c_fixed_Add.Ok Try.prog :=
  con_calls Try.func93 (by kernel_rfl) (by kernel_rfl) _ _ _ fun l vs hl hv _ w => match l, hl with
    | [a0, a1], _ => by cases hv; exact (fixed_Add a0 a1 w).mono fun e w' ⟨he, hw⟩ => ⟨_, he, fun _ => rfl, quiet_b hw⟩
def c_ref01_Add : Con := ⟨95, pureRun [0, 0] (fun _ => []) fun | [a0, a1] => .int .i64 (add a0 a1) | _ => .any⟩
theorem con_ref01_Add : c_ref01_Add.Ok Try.prog :=
  con_calls Try.func95 (by kernel_rfl) (by kernel_rfl) _ _ _ fun l vs hl hv _ w => match l, hl with
    | [a0, a1], _ => by cases hv; exact (ref01_Add a0 a1 w).mono fun e w' ⟨he, hw⟩ => ⟨_, he, fun _ => rfl, quiet_b hw⟩
def c_fixed_Sub : Con := ⟨72, pureRun [0, 0] (fun _ => []) fun | [a0, a1] => .int .i64 (sub a0 a1) | _ => .any⟩
theorem con_fixed_Sub : c_fixed_Sub.Ok Try.prog :=
  con_calls Try.func72 (by kernel_rfl) (by kernel_rfl) _ _ _ fun l vs hl hv _ w => match l, hl with
    | [a0, a1], _ => by cases hv; exact (fixed_Sub a0 a1 w).mono fun e w' ⟨he, hw⟩ => ⟨_, he, fun _ => rfl, quiet_b hw⟩
def c_ref01_Sub : Con := ⟨54, pureRun [0, 0] (fun _ => []) fun | [a0, a1] => .int .i64 (sub a0 a1) | _ => .any⟩
theorem con_ref01_Sub : c_ref01_Sub.Ok Try.prog :=
  con_calls Try.func54 (by kernel_rfl) (by kernel_rfl) _ _ _ fun l vs hl hv _ w => match l, hl with
    | [a0, a1], _ => by cases hv; exact (ref01_Sub a0 a1 w).mono fun e w' ⟨he, hw⟩ => ⟨_, he, fun _ => rfl, quiet_b hw⟩
def c_fixed_RoundDiv : Con := ⟨85, pureRun [0, 0] (fun _ => []) fun | [a0, a1] => .int .i64 (rd a0 a1) | _ => .any⟩
theorem con_fixed_RoundDiv : c_fixed_RoundDiv.Ok Try.prog :=
  con_calls Try.func85 (by kernel_rfl) (by kernel_rfl) _ _ _ fun l vs hl hv _ w => match l, hl with
    | [a0, a1], _ => by cases hv; exact (fixed_RoundDiv a0 a1 w).mono fun e w' ⟨he, hw⟩ => ⟨_, he, fun _ => rfl, drawn_b hw⟩
def c_ref01_RoundDiv : Con := ⟨53, pureRun [0, 0] (fun _ => []) fun | [a0, a1] => .int .i64 (rd a0 a1) | _ => .any⟩
theorem con_ref01_RoundDiv : c_ref01_RoundDiv.Ok Try.prog :=
  con_calls Try.func53 (by kernel_rfl) (by kernel_rfl) _ _ _ fun l vs hl hv _ w => match l, hl with
    | [a0, a1], _ => by cases hv; exact (ref01_RoundDiv a0 a1 w).mono fun e w' ⟨he, hw⟩ => ⟨_, he, fun _ => rfl, quiet_b hw⟩
def c_fixed_Mul : Con := ⟨94, pureRun [0, 0] (fun _ => []) fun | [a0, a1] => .int .i64 (mul a0 a1) | _ => .any⟩
theorem con_fixed_Mul : c_fixed_Mul.Ok Try.prog :=
  con_calls Try.func94 (by kernel_rfl) (by kernel_rfl) _ _ _ fun l vs hl hv _ w => match l, hl with
    | [a0, a1], _ => by cases hv; exact (fixed_Mul a0 a1 w).mono fun e w' ⟨he, hw⟩ => ⟨_, he, fun _ => rfl, drawn_b hw⟩
def c_ref01_Mul : Con := ⟨96, pureRun [0, 0] (fun _ => []) fun | [a0, a1] => .int .i64 (mul a0 a1) | _ => .any⟩
theorem con_ref01_Mul : c_ref01_Mul.Ok Try.prog :=
  con_calls Try.func96 (by kernel_rfl) (by kernel_rfl) _ _ _ fun l vs hl hv _ w => match l, hl with
    | [a0, a1], _ => by cases hv; exact (ref01_Mul a0 a1 w).mono fun e w' ⟨he, hw⟩ => ⟨_, he, fun _ => rfl, quiet_b hw⟩
def c_fixed_Clamp : Con := ⟨92, pureRun [0, 0, 0] (fun _ => []) fun | [a0, a1, a2] => .int .i64 (clamp a0 a1 a2) | _ => .any⟩
theorem con_fixed_Clamp : c_fixed_Clamp.Ok Try.prog :=
  con_calls Try.func92 (by kernel_rfl) (by kernel_rfl) _ _ _ fun l vs hl hv _ w => match l, hl with
    | [a0, a1, a2], _ => by cases hv; exact (fixed_Clamp a0 a1 a2 w).mono fun e w' ⟨he, hw⟩ => ⟨_, he, fun _ => rfl, quiet_b hw⟩
def c_fixed_Div : Con := ⟨78, pureRun [0, 0] (fun _ => []) fun | [a0, a1] => .int .i64 (dv a0 a1) | _ => .any⟩
theorem con_fixed_Div : c_fixed_Div.Ok Try.prog :=
  con_calls Try.func78 (by kernel_rfl) (by kernel_rfl) _ _ _ fun l vs hl hv _ w => match l, hl with
    | [a0, a1], _ => by cases hv; exact (fixed_Div a0 a1 w).mono fun e w' ⟨he, hw⟩ => ⟨_, he, fun _ => rfl, drawn_b hw⟩
def c_ref01_Div : Con := ⟨80, pureRun [0, 0] (fun _ => []) fun | [a0, a1] => .int .i64 (dv a0 a1) | _ => .any⟩
theorem con_ref01_Div : c_ref01_Div.Ok Try.prog :=
  con_calls Try.func80 (by kernel_rfl) (by kernel_rfl) _ _ _ fun l vs hl hv _ w => match l, hl with
    | [a0, a1], _ => by cases hv; exact (ref01_Div a0 a1 w).mono fun e w' ⟨he, hw⟩ => ⟨_, he, fun _ => rfl, quiet_b hw⟩
def c_fixed_Ratio : Con := ⟨58, pureRun [0, 0] (fun _ => []) fun | [a0, a1] => .int .i64 (ratio a0 a1) | _ => .any⟩
theorem con_fixed_Ratio : c_fixed_Ratio.Ok Try.prog :=
  con_calls Try.func58 (by kernel_rfl) (by kernel_rfl) _ _ _ fun l vs hl hv _ w => match l, hl with
    | [a0, a1], _ => by cases hv; exact (fixed_Ratio a0 a1 w).mono fun e w' ⟨he, hw⟩ => ⟨_, he, fun _ => rfl, drawn_b hw⟩
def c_ref01_Ratio : Con := ⟨63, pureRun [0, 0] (fun _ => []) fun | [a0, a1] => .int .i64 (ratio a0 a1) | _ => .any⟩
theorem con_ref01_Ratio : c_ref01_Ratio.Ok Try.prog :=
  con_calls Try.func63 (by kernel_rfl) (by kernel_rfl) _ _ _ fun l vs hl hv _ w => match l, hl with
    | [a0, a1], _ => by cases hv; exact (ref01_Ratio a0 a1 w).mono fun e w' ⟨he, hw⟩ => ⟨_, he, fun _ => rfl, quiet_b hw⟩
def c_fixed_Isqrt : Con := ⟨65, pureRun [0] (fun _ => []) fun | [a0] => .int .i64 (isq a0) | _ => .any⟩
theorem con_fixed_Isqrt : c_fixed_Isqrt.Ok Try.prog :=
  con_calls Try.func65 (by kernel_rfl) (by kernel_rfl) _ _ _ fun l vs hl hv _ w => match l, hl with
    | [a0], _ => by cases hv; exact (fixed_Isqrt a0 w).mono fun e w' ⟨he, hw⟩ => ⟨_, he, fun _ => rfl, quiet_b hw⟩
def c_ref01_Isqrt : Con := ⟨66, pureRun [0] (fun _ => []) fun | [a0] => .int .i64 (isq a0) | _ => .any⟩
theorem con_ref01_Isqrt : c_ref01_Isqrt.Ok Try.prog :=
  con_calls Try.func66 (by kernel_rfl) (by kernel_rfl) _ _ _ fun l vs hl hv _ w => match l, hl with
    | [a0], _ => by cases hv; exact (ref01_Isqrt a0 w).mono fun e w' ⟨he, hw⟩ => ⟨_, he, fun _ => rfl, quiet_b hw⟩
def c_fixed_Lerp : Con := ⟨84, pureRun [0, 0, 0] (fun _ => []) fun | [a0, a1, a2] => .int .i64 (lerp a0 a1 a2) | _ => .any⟩
theorem con_fixed_Lerp : c_fixed_Lerp.Ok Try.prog :=
  con_calls Try.func84 (by kernel_rfl) (by kernel_rfl) _ _ _ fun l vs hl hv _ w => match l, hl with
    | [a0, a1, a2], _ => by cases hv; exact (fixed_Lerp a0 a1 a2 w).mono fun e w' ⟨he, hw⟩ => ⟨_, he, fun _ => rfl, drawn_b hw⟩
def c_ref01_Lerp : Con := ⟨86, pureRun [0, 0, 0] (fun _ => []) fun | [a0, a1, a2] => .int .i64 (lerp a0 a1 a2) | _ => .any⟩
theorem con_ref01_Lerp : c_ref01_Lerp.Ok Try.prog :=
  con_calls Try.func86 (by kernel_rfl) (by kernel_rfl) _ _ _ fun l vs hl hv _ w => match l, hl with
    | [a0, a1, a2], _ => by cases hv; exact (ref01_Lerp a0 a1 a2 w).mono fun e w' ⟨he, hw⟩ => ⟨_, he, fun _ => rfl, quiet_b hw⟩
end Go.Proofs.Ytdoagjphjnbbnaa
