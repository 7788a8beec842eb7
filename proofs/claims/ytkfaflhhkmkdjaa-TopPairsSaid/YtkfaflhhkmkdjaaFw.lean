/- The walks of package fixed and of its reference: what each function returns, in the words of Fx. -/
import Derived.Test.YtkfaflhhkmkdjaaProg
import Derived.Test.YtkfaflhhkmkdjaaFx
import Derived.Tactics
import Derived.Tactics2
import Derived.WalkKit
import Derived.KernelRfl
import Derived.Lib.Hide
import Derived.WalkLawsBesides
import Derived.Deep.QuietTactic
import Derived.BigQuiet
import Derived.Outline
namespace Go.Proofs.Ytkfaflhhkmkdjaa
open Go.RowKit Fx

theorem ret_int {k : IntKind} {a b : Int} (h : a = b) : Ending.returned (.int k a) = .returned (.int k b) := by rw [h]

theorem ret_bool {a b : Bool} (h : a = b) : Ending.returned (.bool a) = .returned (.bool b) := by rw [h]

theorem fixed_Saturate (a : Int) (w : World) : Calls Try.prog 55 #[.int .i64 a] w fun e w' => e = .returned (.int .i64 (sat a)) ∧ w = w' := by
  go_enter Try.func55, Try.ntmps55
  go_wp2
  all_goals (go_ret; exact ⟨ret_int (by unfold sat; split <;> (try split) <;> omega), rfl⟩)
theorem fixed_Add (a b : Int) (w : World) : Calls Try.prog 73 #[.int .i64 a, .int .i64 b] w fun e w' => e = .returned (.int .i64 (add a b)) ∧ w = w' := by
  have a1 := sat_lo a
  have a2 := sat_hi a
  have b1 := sat_lo b
  have b2 := sat_hi b
  go_enter Try.func73, Try.ntmps73
  go_wp2_with (go_at_call 55; refine (fixed_Saturate _ _).mono ?_; rintro e w' ⟨rfl, rfl⟩)
  go_ret
  exact ⟨rfl, rfl⟩
theorem fixed_Sub (a b : Int) (w : World) : Calls Try.prog 74 #[.int .i64 a, .int .i64 b] w fun e w' => e = .returned (.int .i64 (sub a b)) ∧ w = w' := by
  have a1 := sat_lo a
  have a2 := sat_hi a
  have b1 := sat_lo b
  have b2 := sat_hi b
  go_enter Try.func74, Try.ntmps74
  go_wp2_with (go_at_call 55; refine (fixed_Saturate _ _).mono ?_; rintro e w' ⟨rfl, rfl⟩)
  go_ret
  exact ⟨rfl, rfl⟩
end Go.Proofs.Ytkfaflhhkmkdjaa
