/- The walks of package fixed and of its reference: what each function returns, in the words of Fx. -/
import Derived.Test.YtohjifnkajhhnaaGreatProg
import Derived.Test.YtohjifnkajhhnaaGreatFx
import Derived.Tactics
import Derived.Tactics2
import Derived.WalkKit
import Derived.KernelRfl
import Derived.Lib.Hide
import Derived.WalkLawsBesides
import Derived.Deep.QuietTactic
import Derived.BigQuiet
import Derived.Outline
namespace Go.Proofs.YtohjifnkajhhnaaGreat
open Go.RowKit Fx

theorem ret_int {k : IntKind} {a b : Int} (h : a = b) : Ending.returned (.int k a) = .returned (.int k b) := by rw [h]

theorem ret_bool {a b : Bool} (h : a = b) : Ending.returned (.bool a) = .returned (.bool b) := by rw [h]

theorem fixed_Saturate (a : Int) (w : World) : Calls Tryz.prog 62 #[.int .i64 a] w fun e w' => e = .returned (.int .i64 (sat a)) ∧ w = w' := by
  go_enter Tryz.func62, Tryz.ntmps62
  go_wp2
  all_goals (go_ret; exact ⟨ret_int (by unfold sat; split <;> (try split) <;> omega), rfl⟩)
theorem fixed_Add (a b : Int) (w : World) : Calls Tryz.prog 56 #[.int .i64 a, .int .i64 b] w fun e w' => e = .returned (.int .i64 (add a b)) ∧ w = w' := by
  have a1 := sat_lo a
  have a2 := sat_hi a
  have b1 := sat_lo b
  have b2 := sat_hi b
  go_enter Tryz.func56, Tryz.ntmps56
  go_wp2_with (go_at_call 62; refine (fixed_Saturate _ _).mono ?_; rintro e w' ⟨rfl, rfl⟩)
  go_ret
  exact ⟨rfl, rfl⟩
theorem fixed_Sub (a b : Int) (w : World) : Calls Tryz.prog 47 #[.int .i64 a, .int .i64 b] w fun e w' => e = .returned (.int .i64 (sub a b)) ∧ w = w' := by
  have a1 := sat_lo a
  have a2 := sat_hi a
  have b1 := sat_lo b
  have b2 := sat_hi b
  go_enter Tryz.func47, Tryz.ntmps47
  go_wp2_with (go_at_call 62; refine (fixed_Saturate _ _).mono ?_; rintro e w' ⟨rfl, rfl⟩)
  go_ret
  exact ⟨rfl, rfl⟩
theorem fixed_RoundDiv_pos (n d : Int) (w : World) (h1 : 1 ≤ d) (h2 : d ≤ 4611686018427387904) (h3 : 0 ≤ n) (h4 : n ≤ 4611686018427387904) : Calls Tryz.prog 93 #[.int .i64 n, .int .i64 d] w fun e w' => e = .returned (.int .i64 (rdp n d)) ∧ ∃ k, w' = w.drewN k := by
  have e1 := Int.emod_nonneg n (show d ≠ 0 by omega)
  have e2 := Int.emod_lt_of_pos n (show 0 < d by omega)
  have e3 := Int.ediv_nonneg h3 (show 0 ≤ d by omega)
  have e4 := Int.ediv_le_self d h3
  have hp : rdp n d = if d - n % d ≤ n % d then n / d + 1 else n / d := rfl
  by_cases hc : d - n % d ≤ n % d
  · rw [if_pos hc] at hp
    have H := Lib.hid hp
    clear hp
    go_enter Tryz.func93, Tryz.ntmps93
    go_wp2
    go_quiet (fail)
    go_wp2
    go_ret
    exact ⟨ret_int H.out.symm, _, rfl⟩
  · rw [if_neg hc] at hp
    have H := Lib.hid hp
    clear hp
    go_enter Tryz.func93, Tryz.ntmps93
    go_wp2
    go_quiet (fail)
    go_wp2
    go_ret
    exact ⟨ret_int H.out.symm, _, rfl⟩
theorem fixed_RoundDiv_neg (n d : Int) (w : World) (h1 : 1 ≤ d) (h2 : d ≤ 4611686018427387904) (h3 : n < 0) (h4 : -4611686018427387904 ≤ n) : Calls Tryz.prog 93 #[.int .i64 n, .int .i64 d] w fun e w' => e = .returned (.int .i64 (-(rdp (-n) d))) ∧ ∃ k, w' = w.drewN k := by
  have e1 := Int.emod_nonneg (-n) (show d ≠ 0 by omega)
  have e2 := Int.emod_lt_of_pos (-n) (show 0 < d by omega)
  have e3 := Int.ediv_nonneg (show 0 ≤ -n by omega) (show 0 ≤ d by omega)
  have e4 := Int.ediv_le_self d (show 0 ≤ -n by omega)
  have e5 : n.tdiv d = -((-n) / d) := by rw [← Int.tdiv_eq_ediv_of_nonneg (by omega), Int.neg_tdiv]; omega
  have e6 : n.tmod d = -((-n) % d) := by rw [← Int.tmod_eq_emod_of_nonneg (by omega), Int.neg_tmod]; omega
  have hp : rdp (-n) d = if d - (-n) % d ≤ (-n) % d then (-n) / d + 1 else (-n) / d := rfl
  have f1 : -d < n.tmod d := by omega
  have f2 : n.tmod d ≤ 0 := by omega
  have f3 : n.tdiv d ≤ 0 := by omega
  have f4 : n ≤ n.tdiv d := by omega
  by_cases hc : d - (-n) % d ≤ (-n) % d
  · rw [if_pos hc] at hp
    have g1 : d + n.tmod d ≤ -n.tmod d := by omega
    have H := Lib.hid hp
    have E := Lib.hid e5
    clear hp e5 e6 hc e1 e2 e3 e4
    go_enter Tryz.func93, Tryz.ntmps93
    go_wp2
    go_quiet (fail)
    go_wp2
    go_ret
    exact ⟨ret_int (by rw [H.out, E.out]; omega), _, rfl⟩
  · rw [if_neg hc] at hp
    have g1 : ¬ d + n.tmod d ≤ -n.tmod d := by omega
    have H := Lib.hid hp
    have E := Lib.hid e5
    clear hp e5 e6 hc e1 e2 e3 e4
    go_enter Tryz.func93, Tryz.ntmps93
    go_wp2
    go_quiet (fail)
    go_wp2
    go_ret
    exact ⟨ret_int (by rw [H.out, E.out]), _, rfl⟩
theorem fixed_RoundDiv_out (n d : Int) (w : World) (h : d < 1 ∨ 4611686018427387904 < d ∨ n < -4611686018427387904 ∨ 4611686018427387904 < n) : Calls Tryz.prog 93 #[.int .i64 n, .int .i64 d] w fun e w' => e = .returned (.int .i64 0) ∧ ∃ k, w' = w.drewN k := by
  by_cases h1 : d < 1
  · go_enter Tryz.func93, Tryz.ntmps93
    go_wp2
    go_ret
    exact ⟨rfl, 0, rfl⟩
  · by_cases h2 : 4611686018427387904 < d
    · go_enter Tryz.func93, Tryz.ntmps93
      go_wp2
      go_ret
      exact ⟨rfl, 0, rfl⟩
    · by_cases h3 : n < -4611686018427387904
      · go_enter Tryz.func93, Tryz.ntmps93
        go_wp2
        go_ret
        exact ⟨rfl, 0, rfl⟩
      · have h4 : 4611686018427387904 < n := by omega
        clear h
        go_enter Tryz.func93, Tryz.ntmps93
        go_wp2
        go_ret
        exact ⟨rfl, 0, rfl⟩
theorem fixed_RoundDiv (n d : Int) (w : World) : Calls Tryz.prog 93 #[.int .i64 n, .int .i64 d] w fun e w' => e = .returned (.int .i64 (rd n d)) ∧ ∃ k, w' = w.drewN k := by
  unfold rd
  by_cases h : d < 1 ∨ 4611686018427387904 < d ∨ n < -4611686018427387904 ∨ 4611686018427387904 < n
  · rw [if_pos h]; exact fixed_RoundDiv_out n d w h
  · rw [if_neg h]
    unfold rdr
    by_cases hn : 0 ≤ n
    · rw [if_pos hn]; exact fixed_RoundDiv_pos n d w (by omega) (by omega) hn (by omega)
    · rw [if_neg hn]; exact fixed_RoundDiv_neg n d w (by omega) (by omega) (by omega) (by omega)
theorem fixed_Mul (a b : Int) (w : World) : Calls Tryz.prog 57 #[.int .i64 a, .int .i64 b] w fun e w' => e = .returned (.int .i64 (mul a b)) ∧ ∃ k, w' = w.drewN k := by
  have a1 := satmul_lo a b
  have a2 := satmul_hi a b
  go_enter Tryz.func57, Tryz.ntmps57
  go_wp2_with (first | (go_at_call 62; refine (fixed_Saturate _ _).mono ?_; rintro e w' ⟨rfl, rfl⟩) | (go_at_call 93; refine (fixed_RoundDiv _ _ _).mono ?_; rintro e w' ⟨rfl, k, rfl⟩))
  go_ret
  exact ⟨rfl, _, rfl⟩
theorem fixed_Clamp (x l h : Int) (w : World) : Calls Tryz.prog 95 #[.int .i64 x, .int .i64 l, .int .i64 h] w fun e w' => e = .returned (.int .i64 (clamp x l h)) ∧ w = w' := by
  by_cases h1 : h < l
  · go_enter Tryz.func95, Tryz.ntmps95
    go_wp2
    go_ret
    exact ⟨ret_int (by unfold clamp; rw [if_pos (by omega)]), rfl⟩
  · by_cases h2 : x < l
    · go_enter Tryz.func95, Tryz.ntmps95
      go_wp2
      go_ret
      exact ⟨ret_int (by unfold clamp; rw [if_pos (by omega)]), rfl⟩
    · by_cases h3 : h < x
      · go_enter Tryz.func95, Tryz.ntmps95
        go_wp2
        go_ret
        exact ⟨ret_int (by unfold clamp; rw [if_neg (by omega), if_pos (by omega)]), rfl⟩
      · go_enter Tryz.func95, Tryz.ntmps95
        go_wp2
        go_ret
        exact ⟨ret_int (by unfold clamp; rw [if_neg (by omega), if_neg (by omega)]), rfl⟩
end Go.Proofs.YtohjifnkajhhnaaGreat
