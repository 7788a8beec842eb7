/- The walks of package fixed and of its reference: what each function returns, in the words of Fx. -/
import Derived.Test.YtdoagjphjnbbnaaProg
import Derived.Test.YtdoagjphjnbbnaaFx
import Derived.Tactics
import Derived.Tactics2
import Derived.WalkKit
import Derived.KernelRfl
import Derived.Lib.Hide
import Derived.WalkLawsBesides
import Derived.Deep.QuietTactic
import Derived.BigQuiet
import Derived.Outline
namespace Go.Proofs.Ytdoagjphjnbbnaa
open Go.RowKit Fx

theorem ret_int {k : IntKind} {a b : Int} (h : a = b) : Ending.returned (.int k a) = .returned (.int k b) := by rw [h]

theorem ret_bool {a b : Bool} (h : a = b) : Ending.returned (.bool a) = .returned (.bool b) := by rw [h]

theorem fixed_Saturate (a : Int) (w : World) : Calls Try.prog 39 #[.int .i64 a] w fun e w' => e = .returned (.int .i64 (sat a)) ∧ w = w' := by
  go_enter Try.func39, Try.ntmps39
  go_wp2
  all_goals (go_ret; exact ⟨ret_int (by unfold sat; split <;> (try split) <;> omega), rfl⟩)
theorem ref01_Saturate (a : Int) (w : World) : Calls Try.prog 52 #[.int .i64 a] w fun e w' => e = .returned (.int .i64 (sat a)) ∧ w = w' := by
  go_enter Try.func52, Try.ntmps52
  go_wp2
  all_goals (go_ret; exact ⟨ret_int (by unfold sat; split <;> (try split) <;> omega), rfl⟩)
theorem fixed_Add (a b : Int) (w : World) : Calls Try.prog 93 #[.int .i64 a, .int .i64 b] w fun e w' => e = .returned (.int .i64 (add a b)) ∧ w = w' := by
  have a1 := sat_lo a
  have a2 := sat_hi a
  have b1 := sat_lo b
  have b2 := sat_hi b
  go_enter Try.func93, Try.ntmps93
  go_wp2_with (go_at_call 39; refine (fixed_Saturate _ _).mono ?_; rintro e w' ⟨rfl, rfl⟩)
  go_ret
  exact ⟨rfl, rfl⟩
theorem ref01_Add (a b : Int) (w : World) : Calls Try.prog 95 #[.int .i64 a, .int .i64 b] w fun e w' => e = .returned (.int .i64 (add a b)) ∧ w = w' := by
  have a1 := sat_lo a
  have a2 := sat_hi a
  have b1 := sat_lo b
  have b2 := sat_hi b
  go_enter Try.func95, Try.ntmps95
  go_wp2_with (go_at_call 52; refine (ref01_Saturate _ _).mono ?_; rintro e w' ⟨rfl, rfl⟩)
  go_ret
  exact ⟨rfl, rfl⟩
theorem fixed_Sub (a b : Int) (w : World) : Calls Try.prog 72 #[.int .i64 a, .int .i64 b] w fun e w' => e = .returned (.int .i64 (sub a b)) ∧ w = w' := by
  have a1 := sat_lo a
  have a2 := sat_hi a
  have b1 := sat_lo b
  have b2 := sat_hi b
  go_enter Try.func72, Try.ntmps72
  go_wp2_with (go_at_call 39; refine (fixed_Saturate _ _).mono ?_; rintro e w' ⟨rfl, rfl⟩)
  go_ret
  exact ⟨rfl, rfl⟩
theorem ref01_Sub (a b : Int) (w : World) : Calls Try.prog 54 #[.int .i64 a, .int .i64 b] w fun e w' => e = .returned (.int .i64 (sub a b)) ∧ w = w' := by
  have a1 := sat_lo a
  have a2 := sat_hi a
  have b1 := sat_lo b
  have b2 := sat_hi b
  go_enter Try.func54, Try.ntmps54
  go_wp2_with (go_at_call 52; refine (ref01_Saturate _ _).mono ?_; rintro e w' ⟨rfl, rfl⟩)
  go_ret
  exact ⟨rfl, rfl⟩
theorem fixed_RoundDiv_pos (n d : Int) (w : World) (h1 : 1 ≤ d) (h2 : d ≤ 4611686018427387904) (h3 : 0 ≤ n) (h4 : n ≤ 4611686018427387904) : Calls Try.prog 85 #[.int .i64 n, .int .i64 d] w fun e w' => e = .returned (.int .i64 (rdp n d)) ∧ ∃ k, w' = w.drewN k := by
  have e1 := Int.emod_nonneg n (show d ≠ 0 by omega)
  have e2 := Int.emod_lt_of_pos n (show 0 < d by omega)
  have e3 := Int.ediv_nonneg h3 (show 0 ≤ d by omega)
  have e4 := Int.ediv_le_self d h3
  have hp : rdp n d = if d - n % d ≤ n % d then n / d + 1 else n / d := rfl
  by_cases hc : d - n % d ≤ n % d
  · rw [if_pos hc] at hp
    have H := Lib.hid hp
    clear hp
    go_enter Try.func85, Try.ntmps85
    go_wp2
    go_quiet (fail)
    go_wp2
    go_ret
    exact ⟨ret_int H.out.symm, _, rfl⟩
  · rw [if_neg hc] at hp
    have H := Lib.hid hp
    clear hp
    go_enter Try.func85, Try.ntmps85
    go_wp2
    go_quiet (fail)
    go_wp2
    go_ret
    exact ⟨ret_int H.out.symm, _, rfl⟩
theorem fixed_RoundDiv_neg (n d : Int) (w : World) (h1 : 1 ≤ d) (h2 : d ≤ 4611686018427387904) (h3 : n < 0) (h4 : -4611686018427387904 ≤ n) : Calls Try.prog 85 #[.int .i64 n, .int .i64 d] w fun e w' => e = .returned (.int .i64 (-(rdp (-n) d))) ∧ ∃ k, w' = w.drewN k := by
  have e1 := Int.emod_nonneg (-n) (show d ≠ 0 by omega)
  have e2 := Int.emod_lt_of_pos (-n) (show 0 < d by omega)
  have e3 := Int.ediv_nonneg (show 0 ≤ -n by omega) (show 0 ≤ d by omega)
  have e4 := Int.ediv_le_self d (show 0 ≤ -n by omega)
  have e5 : n.tdiv d = -((-n) / d) := by rw [← Int.tdiv_eq_ediv_of_nonneg (by omega), Int.neg_tdiv]; omega
  have e6 : n.tmod d = -((-n) % d) := by rw [← Int.tmod_eq_emod_of_nonneg (by omega), Int.neg_tmod]; omega
  have hp : rdp (-n) d = if d - (-n) % d ≤ (-n) % d then (-n) / d + 1 else (-n) / d := rfl
  have f1 : -d < n.tmod d := by omega
  have f2 : n.tmod d ≤ 0 := by omega
  have f3 : n.tdiv d ≤ 0 := by omega
  have f4 : n ≤ n.tdiv d := by omega
  by_cases hc : d - (-n) % d ≤ (-n) % d
  · rw [if_pos hc] at hp
    have g1 : d + n.tmod d ≤ -n.tmod d := by omega
    have H := Lib.hid hp
    have E := Lib.hid e5
    clear hp e5 e6 hc e1 e2 e3 e4
    go_enter Try.func85, Try.ntmps85
    go_wp2
    go_quiet (fail)
    go_wp2
    go_ret
    exact ⟨ret_int (by rw [H.out, E.out]; omega), _, rfl⟩
  · rw [if_neg hc] at hp
    have g1 : ¬ d + n.tmod d ≤ -n.tmod d := by omega
    have H := Lib.hid hp
    have E := Lib.hid e5
    clear hp e5 e6 hc e1 e2 e3 e4
    go_enter Try.func85, Try.ntmps85
    go_wp2
    go_quiet (fail)
    go_wp2
    go_ret
    exact ⟨ret_int (by rw [H.out, E.out]), _, rfl⟩
theorem fixed_RoundDiv_out (n d : Int) (w : World) (h : d < 1 ∨ 4611686018427387904 < d ∨ n < -4611686018427387904 ∨ 4611686018427387904 < n) : Calls Try.prog 85 #[.int .i64 n, .int .i64 d] w fun e w' => e = .returned (.int .i64 0) ∧ ∃ k, w' = w.drewN k := by
  by_cases h1 : d < 1
  · go_enter Try.func85, Try.ntmps85
    go_wp2
    go_ret
    exact ⟨rfl, 0, rfl⟩
  · by_cases h2 : 4611686018427387904 < d
    · go_enter Try.func85, Try.ntmps85
      go_wp2
      go_ret
      exact ⟨rfl, 0, rfl⟩
    · by_cases h3 : n < -4611686018427387904
      · go_enter Try.func85, Try.ntmps85
        go_wp2
        go_ret
        exact ⟨rfl, 0, rfl⟩
      · have h4 : 4611686018427387904 < n := by omega
        clear h
        go_enter Try.func85, Try.ntmps85
        go_wp2
        go_ret
        exact ⟨rfl, 0, rfl⟩
theorem fixed_RoundDiv (n d : Int) (w : World) : Calls Try.prog 85 #[.int .i64 n, .int .i64 d] w fun e w' => e = .returned (.int .i64 (rd n d)) ∧ ∃ k, w' = w.drewN k := by
  unfold rd
  by_cases h : d < 1 ∨ 4611686018427387904 < d ∨ n < -4611686018427387904 ∨ 4611686018427387904 < n
  · rw [if_pos h]; exact fixed_RoundDiv_out n d w h
  · rw [if_neg h]
    unfold rdr
    by_cases hn : 0 ≤ n
    · rw [if_pos hn]; exact fixed_RoundDiv_pos n d w (by omega) (by omega) hn (by omega)
    · rw [if_neg hn]; exact fixed_RoundDiv_neg n d w (by omega) (by omega) (by omega) (by omega)
def oor (n : Int) : Bool := decide (n < -4611686018427387904 ∨ 4611686018427387904 < n)
theorem ref01_outOfRange (n : Int) (w : World) : Calls Try.prog 83 #[.int .i64 n] w fun e w' => e = .returned (.bool (oor n)) ∧ w = w' := by
  by_cases h1 : 4611686018427387904 < n
  · have hp : oor n = true := by simp [oor]; omega
    have H := Lib.hid hp
    clear hp
    go_enter Try.func83, Try.ntmps83
    go_wp2
    go_ret
    exact ⟨ret_bool H.out.symm, rfl⟩
  · by_cases h2 : n < -4611686018427387904
    · have hp : oor n = true := by simp [oor]; omega
      have H := Lib.hid hp
      clear hp
      go_enter Try.func83, Try.ntmps83
      go_wp2
      go_ret
      exact ⟨ret_bool H.out.symm, rfl⟩
    · have hp : oor n = false := by simp [oor]; omega
      have H := Lib.hid hp
      clear hp
      go_enter Try.func83, Try.ntmps83
      go_wp2
      go_ret
      exact ⟨ret_bool H.out.symm, rfl⟩
theorem oor_out (n : Int) (w : World) (h : n < -4611686018427387904 ∨ 4611686018427387904 < n) : Calls Try.prog 83 #[.int .i64 n] w fun e w' => e = .returned (.bool true) ∧ w = w' :=
  (ref01_outOfRange n w).mono fun _ _ h2 => by rw [show oor n = true by simp [oor]; omega] at h2; exact h2
theorem oor_in (n : Int) (w : World) (h : -4611686018427387904 ≤ n) (h' : n ≤ 4611686018427387904) : Calls Try.prog 83 #[.int .i64 n] w fun e w' => e = .returned (.bool false) ∧ w = w' :=
  (ref01_outOfRange n w).mono fun _ _ h2 => by rw [show oor n = false by simp [oor]; omega] at h2; exact h2
theorem ref01_RoundDiv_pos (n d : Int) (w : World) (h1 : 1 ≤ d) (h2 : d ≤ 4611686018427387904) (h3 : 0 ≤ n) (h4 : n ≤ 4611686018427387904) : Calls Try.prog 53 #[.int .i64 n, .int .i64 d] w fun e w' => e = .returned (.int .i64 (rdp n d)) ∧ w = w' := by
  have e1 := Int.emod_nonneg n (show d ≠ 0 by omega)
  have e2 := Int.emod_lt_of_pos n (show 0 < d by omega)
  have e3 := Int.ediv_nonneg h3 (show 0 ≤ d by omega)
  have e4 := Int.ediv_le_self d h3
  have e5 := Int.emod_add_mul_ediv n d
  rw [Int.mul_comm] at e5
  have k1 : 0 ≤ n / d * d := Int.mul_nonneg e3 (by omega)
  have k2 : n / d * d ≤ n := by omega
  have hp : rdp n d = if d - n % d ≤ n % d then n / d + 1 else n / d := rfl
  by_cases hc : d - n % d ≤ n % d
  · rw [if_pos hc] at hp
    have k3 : d - (n - n / d * d) ≤ n - n / d * d := by omega
    have H := Lib.hid hp
    clear hp hc e1 e2 e5
    go_enter Try.func53, Try.ntmps53
    go_wp2_with (go_at_call 83; refine (oor_in _ _ (by omega) (by omega)).mono ?_; rintro e w' ⟨rfl, rfl⟩)
    go_ret
    exact ⟨ret_int H.out.symm, rfl⟩
  · rw [if_neg hc] at hp
    have k3 : ¬ d - (n - n / d * d) ≤ n - n / d * d := by omega
    have H := Lib.hid hp
    clear hp hc e1 e2 e5
    go_enter Try.func53, Try.ntmps53
    go_wp2_with (go_at_call 83; refine (oor_in _ _ (by omega) (by omega)).mono ?_; rintro e w' ⟨rfl, rfl⟩)
    go_ret
    exact ⟨ret_int H.out.symm, rfl⟩
theorem ref01_RoundDiv_neg (n d : Int) (w : World) (h1 : 1 ≤ d) (h2 : d ≤ 4611686018427387904) (h3 : 0 < n) (h4 : n ≤ 4611686018427387904) : Calls Try.prog 53 #[.int .i64 (-n), .int .i64 d] w fun e w' => e = .returned (.int .i64 (-(rdp n d))) ∧ w = w' := by
  have e0 : 0 ≤ n := by omega
  have e1 := Int.emod_nonneg n (show d ≠ 0 by omega)
  have e2 := Int.emod_lt_of_pos n (show 0 < d by omega)
  have e3 := Int.ediv_nonneg e0 (show 0 ≤ d by omega)
  have e4 := Int.ediv_le_self d e0
  have e5 := Int.emod_add_mul_ediv n d
  rw [Int.mul_comm] at e5
  have k1 : 0 ≤ n / d * d := Int.mul_nonneg e3 (by omega)
  have k2 : n / d * d ≤ n := by omega
  have hp : rdp n d = if d - n % d ≤ n % d then n / d + 1 else n / d := rfl
  by_cases hc : d - n % d ≤ n % d
  · rw [if_pos hc] at hp
    have k3 : d - (n - n / d * d) ≤ n - n / d * d := by omega
    have H := Lib.hid hp
    clear hp hc e1 e2 e5
    go_enter Try.func53, Try.ntmps53
    go_wp2_with (go_at_call 83; refine (oor_in _ _ (by omega) (by omega)).mono ?_; rintro e w' ⟨rfl, rfl⟩)
    go_ret
    exact ⟨ret_int (by rw [H.out]), rfl⟩
  · rw [if_neg hc] at hp
    have k3 : ¬ d - (n - n / d * d) ≤ n - n / d * d := by omega
    have H := Lib.hid hp
    clear hp hc e1 e2 e5
    go_enter Try.func53, Try.ntmps53
    go_wp2_with (go_at_call 83; refine (oor_in _ _ (by omega) (by omega)).mono ?_; rintro e w' ⟨rfl, rfl⟩)
    go_ret
    exact ⟨ret_int (by rw [H.out]), rfl⟩
theorem ref01_RoundDiv_out (n d : Int) (w : World) (h : d < 1 ∨ 4611686018427387904 < d ∨ n < -4611686018427387904 ∨ 4611686018427387904 < n) : Calls Try.prog 53 #[.int .i64 n, .int .i64 d] w fun e w' => e = .returned (.int .i64 0) ∧ w = w' := by
  by_cases h1 : d < 1
  · go_enter Try.func53, Try.ntmps53
    go_wp2
    go_ret
    exact ⟨rfl, rfl⟩
  · by_cases h2 : 4611686018427387904 < d
    · clear h
      go_enter Try.func53, Try.ntmps53
      go_wp2_with (go_at_call 83; refine (oor_out _ _ (by omega)).mono ?_; rintro e w' ⟨rfl, rfl⟩)
      go_ret
      exact ⟨rfl, rfl⟩
    · have h3 : n < -4611686018427387904 ∨ 4611686018427387904 < n := by omega
      have H3 := Lib.hid h3
      clear h h3
      go_enter Try.func53, Try.ntmps53
      go_wp2_with fail
      go_at_call 83; refine (oor_in _ _ (by omega) (by omega)).mono ?_; rintro e w' ⟨rfl, rfl⟩
      go_wp2_with fail
      go_at_call 83; refine (oor_out _ _ H3.out).mono ?_; rintro e w' ⟨rfl, rfl⟩
      go_wp2_with fail
      go_ret
      exact ⟨rfl, rfl⟩
theorem ref01_RoundDiv (n d : Int) (w : World) : Calls Try.prog 53 #[.int .i64 n, .int .i64 d] w fun e w' => e = .returned (.int .i64 (rd n d)) ∧ w = w' := by
  unfold rd
  by_cases h : d < 1 ∨ 4611686018427387904 < d ∨ n < -4611686018427387904 ∨ 4611686018427387904 < n
  · rw [if_pos h]; exact ref01_RoundDiv_out n d w h
  · rw [if_neg h]
    unfold rdr
    by_cases hn : 0 ≤ n
    · rw [if_pos hn]; exact ref01_RoundDiv_pos n d w (by omega) (by omega) hn (by omega)
    · rw [if_neg hn]
      have h := ref01_RoundDiv_neg (-n) d w (by omega) (by omega) (by omega) (by omega)
      rw [Int.neg_neg] at h
      exact h
theorem fixed_Mul (a b : Int) (w : World) : Calls Try.prog 94 #[.int .i64 a, .int .i64 b] w fun e w' => e = .returned (.int .i64 (mul a b)) ∧ ∃ k, w' = w.drewN k := by
  have a1 := satmul_lo a b
  have a2 := satmul_hi a b
  go_enter Try.func94, Try.ntmps94
  go_wp2_with (first | (go_at_call 39; refine (fixed_Saturate _ _).mono ?_; rintro e w' ⟨rfl, rfl⟩) | (go_at_call 85; refine (fixed_RoundDiv _ _ _).mono ?_; rintro e w' ⟨rfl, k, rfl⟩))
  go_ret
  exact ⟨rfl, _, rfl⟩
theorem ref01_Mul (a b : Int) (w : World) : Calls Try.prog 96 #[.int .i64 a, .int .i64 b] w fun e w' => e = .returned (.int .i64 (mul a b)) ∧ w = w' := by
  have a1 := satmul_lo a b
  have a2 := satmul_hi a b
  go_enter Try.func96, Try.ntmps96
  go_wp2_with (first | (go_at_call 52; refine (ref01_Saturate _ _).mono ?_; rintro e w' ⟨rfl, rfl⟩) | (go_at_call 53; refine (ref01_RoundDiv _ _ _).mono ?_; rintro e w' ⟨rfl, rfl⟩))
  go_ret
  exact ⟨rfl, rfl⟩
theorem fixed_Clamp (x l h : Int) (w : World) : Calls Try.prog 92 #[.int .i64 x, .int .i64 l, .int .i64 h] w fun e w' => e = .returned (.int .i64 (clamp x l h)) ∧ w = w' := by
  by_cases h1 : h < l
  · go_enter Try.func92, Try.ntmps92
    go_wp2
    go_ret
    exact ⟨ret_int (by unfold clamp; rw [if_pos (by omega)]), rfl⟩
  · by_cases h2 : x < l
    · go_enter Try.func92, Try.ntmps92
      go_wp2
      go_ret
      exact ⟨ret_int (by unfold clamp; rw [if_pos (by omega)]), rfl⟩
    · by_cases h3 : h < x
      · go_enter Try.func92, Try.ntmps92
        go_wp2
        go_ret
        exact ⟨ret_int (by unfold clamp; rw [if_neg (by omega), if_pos (by omega)]), rfl⟩
      · go_enter Try.func92, Try.ntmps92
        go_wp2
        go_ret
        exact ⟨ret_int (by unfold clamp; rw [if_neg (by omega), if_neg (by omega)]), rfl⟩
end Go.Proofs.Ytdoagjphjnbbnaa
