/- Contracts of the laws of chapter 20: an operation; a list of numbers. -/
import Derived.Test.YtconaehajaifhaaUE
import Derived.Test.YtconaehajaifhaaBq2
namespace Go.Proofs.Ytconaehajaifhaa
open Go.RowKit Fx Vx Bx Ev
set_option linter.unusedVariables false
set_option linter.unusedSimpArgs false
def c_law20_apply : Con := ⟨24, stRun false 0 0 [.np 1, .num 6] (fun l N H _ _ => match l, N, H with | [k, id, a, b, c, d], [t], ⟨nd, tr, mp⟩ => [ApOK nd tr mp t k id a b c d] | _, _, _ => [False]) fun l N H _ _ => match l, N, H with
  | [k, id, a, b, c, d], [t], ⟨nd, tr, mp⟩ => ⟨[.val (.int .i64 (apE tr mp t k id a b c d)), .rows (apF nd tr t k a b c d) 1 (apL nd tr t k a b c d), .val (.agg [.int .i64 (apX nd tr mp t k id 0), .int .i64 (apX nd tr mp t k id 1), .int .i64 (apX nd tr mp t k id 2), .int .i64 (apX nd tr mp t k id 3)])], ⟨(apH nd tr mp t k id a b c d).nd, (apH nd tr mp t k id a b c d).tr, (apH nd tr mp t k id a b c d).mp⟩⟩
  | _, _, _ => ⟨[], ⟨[], [], []⟩⟩⟩
set_option maxRecDepth 100000 in
set_option maxHeartbeats 8000000 in
theorem con_law20_apply : c_law20_apply.Ok Try.prog := by
  refine con_st (C := [c_Insert, c_Remove, c_Update, c_Bounds, c_Query, c_RayQuery]) (pl := [(12, [0, 1, 2, 3], [0, 0, 2, 7]), (13, [0, 1, 2, 3], [0, 0, 2, 7])]) Try.func24 rfl (by kernel_rfl) T_ok (Cons.cons con_Insert (Cons.cons con_Remove (Cons.cons con_Update (Cons.cons con_Bounds (Cons.cons con_Query (Cons.cons con_RayQuery (Cons.nil _))))))) mixed (by kernel_rfl) false 0 0 _ _ _ (fun l N H b xs hl hN hbx hpre => ?_)
  match l, hl, N, hN, H with
  | [k, id, a, b, c, d], zl, [t], zN, ⟨nd, tr, mp⟩ =>
    clear zl zN
    have hp0 := hpre _ (List.Mem.head _); try dsimp only at hp0
    clear hpre hl hN hbx
    by_cases h1 : k = 1
    · subst h1
      have q := hp0.o1 rfl
      have d1 : decide ((1 : Int) = 1) = true := rfl
      have d2 : decide ((1 : Int) = 2) = false := rfl
      have d3 : decide ((1 : Int) = 3) = false := rfl
      have d4 : decide ((1 : Int) = 4) = false := rfl
      have d5 : decide ((1 : Int) = 5) = false := rfl
      have d6 : decide ((1 : Int) = 6) = false := rfl
      repeat' (first | (with_reducible refine And.intro ?_ ?_) | (with_reducible intro h) | ((fail_if_success (with_reducible refine Leaf.mk ?_)); (fail_if_success (with_reducible refine VC.mk ?_)); (fail_if_success (with_reducible refine Goes.mk ?_)); (fail_if_success (with_reducible refine Again.mk ?_)); (fail_if_success (with_reducible refine Rounds.mk ?_)); (fail_if_success (with_reducible show False)); (fail_if_success (with_reducible show True)); conv => whnf))
      all_goals try with_reducible first | exact trivial | exact (bc2 d1 (by assumption)).elim | exact (bc2 (by assumption) d2).elim | exact (bc2 (by assumption) d3).elim | exact (bc2 (by assumption) d4).elim | exact (bc2 (by assumption) d5).elim | exact (bc2 (by assumption) d6).elim
      all_goals try (refine VC.mk ?_; first | (with_reducible assumption) | (with_reducible exact Nat.le_refl _) | (intro hh; rw [hh]; rfl) | (intro hh; simp [apF] at hh; rw [hh]; rfl))
      all_goals try (refine Leaf.mk ?_; first | (with_reducible rfl) | (simp [apE, apF, apL, apX, apH, insH, remH, updH, List.take_length]; done))
    by_cases h2 : k = 2
    · subst h2
      have q := hp0.o2 rfl
      cases hr : remD tr mp t id with
      | true =>
        have d1 : decide ((2 : Int) = 1) = false := rfl
        have d2 : decide ((2 : Int) = 2) = true := rfl
        have d3 : decide ((2 : Int) = 3) = false := rfl
        have d4 : decide ((2 : Int) = 4) = false := rfl
        have d5 : decide ((2 : Int) = 5) = false := rfl
        have d6 : decide ((2 : Int) = 6) = false := rfl
        repeat' (first | (with_reducible refine And.intro ?_ ?_) | (with_reducible intro h) | ((fail_if_success (with_reducible refine Leaf.mk ?_)); (fail_if_success (with_reducible refine VC.mk ?_)); (fail_if_success (with_reducible refine Goes.mk ?_)); (fail_if_success (with_reducible refine Again.mk ?_)); (fail_if_success (with_reducible refine Rounds.mk ?_)); (fail_if_success (with_reducible show False)); (fail_if_success (with_reducible show True)); conv => whnf))
        all_goals try with_reducible first | exact trivial | exact (bc2 (by assumption) d1).elim | exact (bc2 d2 (by assumption)).elim | exact (bc2 (by assumption) d3).elim | exact (bc2 (by assumption) d4).elim | exact (bc2 (by assumption) d5).elim | exact (bc2 (by assumption) d6).elim | exact (bc2 hr (by assumption)).elim | exact (bc2 (by assumption) hr).elim
        all_goals try (refine VC.mk ?_; first | (with_reducible assumption) | (with_reducible exact Nat.le_refl _) | (intro hh; rw [hh]; rfl) | (intro hh; simp [apF] at hh; rw [hh]; rfl))
        all_goals try (refine Leaf.mk ?_; first | (with_reducible rfl) | (simp [apE, apF, apL, apX, apH, insH, remH, updH, List.take_length, hr]; done))
      | false =>
        have d1 : decide ((2 : Int) = 1) = false := rfl
        have d2 : decide ((2 : Int) = 2) = true := rfl
        have d3 : decide ((2 : Int) = 3) = false := rfl
        have d4 : decide ((2 : Int) = 4) = false := rfl
        have d5 : decide ((2 : Int) = 5) = false := rfl
        have d6 : decide ((2 : Int) = 6) = false := rfl
        repeat' (first | (with_reducible refine And.intro ?_ ?_) | (with_reducible intro h) | ((fail_if_success (with_reducible refine Leaf.mk ?_)); (fail_if_success (with_reducible refine VC.mk ?_)); (fail_if_success (with_reducible refine Goes.mk ?_)); (fail_if_success (with_reducible refine Again.mk ?_)); (fail_if_success (with_reducible refine Rounds.mk ?_)); (fail_if_success (with_reducible show False)); (fail_if_success (with_reducible show True)); conv => whnf))
        all_goals try with_reducible first | exact trivial | exact (bc2 (by assumption) d1).elim | exact (bc2 d2 (by assumption)).elim | exact (bc2 (by assumption) d3).elim | exact (bc2 (by assumption) d4).elim | exact (bc2 (by assumption) d5).elim | exact (bc2 (by assumption) d6).elim | exact (bc2 hr (by assumption)).elim | exact (bc2 (by assumption) hr).elim
        all_goals try (refine VC.mk ?_; first | (with_reducible assumption) | (with_reducible exact Nat.le_refl _) | (intro hh; rw [hh]; rfl) | (intro hh; simp [apF] at hh; rw [hh]; rfl))
        all_goals try (refine Leaf.mk ?_; first | (with_reducible rfl) | (simp [apE, apF, apL, apX, apH, insH, remH, updH, List.take_length, hr]; done))
    by_cases h3 : k = 3
    · subst h3
      have q := hp0.o3 rfl
      have d1 : decide ((3 : Int) = 1) = false := rfl
      have d2 : decide ((3 : Int) = 2) = false := rfl
      have d3 : decide ((3 : Int) = 3) = true := rfl
      have d4 : decide ((3 : Int) = 4) = false := rfl
      have d5 : decide ((3 : Int) = 5) = false := rfl
      have d6 : decide ((3 : Int) = 6) = false := rfl
      repeat' (first | (with_reducible refine And.intro ?_ ?_) | (with_reducible intro h) | ((fail_if_success (with_reducible refine Leaf.mk ?_)); (fail_if_success (with_reducible refine VC.mk ?_)); (fail_if_success (with_reducible refine Goes.mk ?_)); (fail_if_success (with_reducible refine Again.mk ?_)); (fail_if_success (with_reducible refine Rounds.mk ?_)); (fail_if_success (with_reducible show False)); (fail_if_success (with_reducible show True)); conv => whnf))
      all_goals try with_reducible first | exact trivial | exact (bc2 (by assumption) d1).elim | exact (bc2 (by assumption) d2).elim | exact (bc2 d3 (by assumption)).elim | exact (bc2 (by assumption) d4).elim | exact (bc2 (by assumption) d5).elim | exact (bc2 (by assumption) d6).elim
      all_goals try (refine VC.mk ?_; first | (with_reducible assumption) | (with_reducible exact Nat.le_refl _) | (intro hh; rw [hh]; rfl) | (intro hh; simp [apF] at hh; rw [hh]; rfl))
      all_goals try (refine Leaf.mk ?_; first | (with_reducible rfl) | (simp [apE, apF, apL, apX, apH, insH, remH, updH, List.take_length]; done))
    by_cases h4 : k = 4
    · subst h4
      have q := hp0.o4 rfl
      cases hr : bndD tr mp t id with
      | true =>
        have d1 : decide ((4 : Int) = 1) = false := rfl
        have d2 : decide ((4 : Int) = 2) = false := rfl
        have d3 : decide ((4 : Int) = 3) = false := rfl
        have d4 : decide ((4 : Int) = 4) = true := rfl
        have d5 : decide ((4 : Int) = 5) = false := rfl
        have d6 : decide ((4 : Int) = 6) = false := rfl
        repeat' (first | (with_reducible refine And.intro ?_ ?_) | (with_reducible intro h) | ((fail_if_success (with_reducible refine Leaf.mk ?_)); (fail_if_success (with_reducible refine VC.mk ?_)); (fail_if_success (with_reducible refine Goes.mk ?_)); (fail_if_success (with_reducible refine Again.mk ?_)); (fail_if_success (with_reducible refine Rounds.mk ?_)); (fail_if_success (with_reducible show False)); (fail_if_success (with_reducible show True)); conv => whnf))
        all_goals try with_reducible first | exact trivial | exact (bc2 (by assumption) d1).elim | exact (bc2 (by assumption) d2).elim | exact (bc2 (by assumption) d3).elim | exact (bc2 d4 (by assumption)).elim | exact (bc2 (by assumption) d5).elim | exact (bc2 (by assumption) d6).elim | exact (bc2 hr (by assumption)).elim | exact (bc2 (by assumption) hr).elim
        all_goals try (refine VC.mk ?_; first | (with_reducible assumption) | (with_reducible exact Nat.le_refl _) | (intro hh; rw [hh]; rfl) | (intro hh; simp [apF] at hh; rw [hh]; rfl))
        all_goals try (refine Leaf.mk ?_; first | (with_reducible rfl) | (simp [apE, apF, apL, apX, apH, insH, remH, updH, List.take_length, hr]; done))
      | false =>
        have d1 : decide ((4 : Int) = 1) = false := rfl
        have d2 : decide ((4 : Int) = 2) = false := rfl
        have d3 : decide ((4 : Int) = 3) = false := rfl
        have d4 : decide ((4 : Int) = 4) = true := rfl
        have d5 : decide ((4 : Int) = 5) = false := rfl
        have d6 : decide ((4 : Int) = 6) = false := rfl
        repeat' (first | (with_reducible refine And.intro ?_ ?_) | (with_reducible intro h) | ((fail_if_success (with_reducible refine Leaf.mk ?_)); (fail_if_success (with_reducible refine VC.mk ?_)); (fail_if_success (with_reducible refine Goes.mk ?_)); (fail_if_success (with_reducible refine Again.mk ?_)); (fail_if_success (with_reducible refine Rounds.mk ?_)); (fail_if_success (with_reducible show False)); (fail_if_success (with_reducible show True)); conv => whnf))
        all_goals try with_reducible first | exact trivial | exact (bc2 (by assumption) d1).elim | exact (bc2 (by assumption) d2).elim | exact (bc2 (by assumption) d3).elim | exact (bc2 d4 (by assumption)).elim | exact (bc2 (by assumption) d5).elim | exact (bc2 (by assumption) d6).elim | exact (bc2 hr (by assumption)).elim | exact (bc2 (by assumption) hr).elim
        all_goals try (refine VC.mk ?_; first | (with_reducible assumption) | (with_reducible exact Nat.le_refl _) | (intro hh; rw [hh]; rfl) | (intro hh; simp [apF] at hh; rw [hh]; rfl))
        all_goals try (refine Leaf.mk ?_; first | (with_reducible rfl) | (simp [apE, apF, apL, apX, apH, insH, remH, updH, List.take_length, hr]; done))
    by_cases h5 : k = 5
    · subst h5
      have q := hp0.o5 rfl
      have d1 : decide ((5 : Int) = 1) = false := rfl
      have d2 : decide ((5 : Int) = 2) = false := rfl
      have d3 : decide ((5 : Int) = 3) = false := rfl
      have d4 : decide ((5 : Int) = 4) = false := rfl
      have d5 : decide ((5 : Int) = 5) = true := rfl
      have d6 : decide ((5 : Int) = 6) = false := rfl
      repeat' (first | (with_reducible refine And.intro ?_ ?_) | (with_reducible intro h) | ((fail_if_success (with_reducible refine Leaf.mk ?_)); (fail_if_success (with_reducible refine VC.mk ?_)); (fail_if_success (with_reducible refine Goes.mk ?_)); (fail_if_success (with_reducible refine Again.mk ?_)); (fail_if_success (with_reducible refine Rounds.mk ?_)); (fail_if_success (with_reducible show False)); (fail_if_success (with_reducible show True)); conv => whnf))
      all_goals try with_reducible first | exact trivial | exact (bc2 (by assumption) d1).elim | exact (bc2 (by assumption) d2).elim | exact (bc2 (by assumption) d3).elim | exact (bc2 (by assumption) d4).elim | exact (bc2 d5 (by assumption)).elim | exact (bc2 (by assumption) d6).elim
      all_goals try (refine VC.mk ?_; first | (with_reducible assumption) | (with_reducible exact Nat.le_refl _) | (intro hh; rw [hh]; rfl) | (intro hh; simp [apF] at hh; rw [hh]; rfl))
      all_goals try (refine Leaf.mk ?_; first | (with_reducible rfl) | (simp [apE, apF, apL, apX, apH, insH, remH, updH, List.take_length]; done))
    by_cases h6 : k = 6
    · subst h6
      have q := hp0.o6 rfl
      have d1 : decide ((6 : Int) = 1) = false := rfl
      have d2 : decide ((6 : Int) = 2) = false := rfl
      have d3 : decide ((6 : Int) = 3) = false := rfl
      have d4 : decide ((6 : Int) = 4) = false := rfl
      have d5 : decide ((6 : Int) = 5) = false := rfl
      have d6 : decide ((6 : Int) = 6) = true := rfl
      repeat' (first | (with_reducible refine And.intro ?_ ?_) | (with_reducible intro h) | ((fail_if_success (with_reducible refine Leaf.mk ?_)); (fail_if_success (with_reducible refine VC.mk ?_)); (fail_if_success (with_reducible refine Goes.mk ?_)); (fail_if_success (with_reducible refine Again.mk ?_)); (fail_if_success (with_reducible refine Rounds.mk ?_)); (fail_if_success (with_reducible show False)); (fail_if_success (with_reducible show True)); conv => whnf))
      all_goals try with_reducible first | exact trivial | exact (bc2 (by assumption) d1).elim | exact (bc2 (by assumption) d2).elim | exact (bc2 (by assumption) d3).elim | exact (bc2 (by assumption) d4).elim | exact (bc2 (by assumption) d5).elim | exact (bc2 d6 (by assumption)).elim
      all_goals try (refine VC.mk ?_; first | (with_reducible assumption) | (with_reducible exact Nat.le_refl _) | (intro hh; rw [hh]; rfl) | (intro hh; simp [apF] at hh; rw [hh]; rfl))
      all_goals try (refine Leaf.mk ?_; first | (with_reducible rfl) | (simp [apE, apF, apL, apX, apH, insH, remH, updH, List.take_length]; done))
    have d1 : decide (k = 1) = false := decide_eq_false h1
    have d2 : decide (k = 2) = false := decide_eq_false h2
    have d3 : decide (k = 3) = false := decide_eq_false h3
    have d4 : decide (k = 4) = false := decide_eq_false h4
    have d5 : decide (k = 5) = false := decide_eq_false h5
    have d6 : decide (k = 6) = false := decide_eq_false h6
    repeat' (first | (with_reducible refine And.intro ?_ ?_) | (with_reducible intro h) | ((fail_if_success (with_reducible refine Leaf.mk ?_)); (fail_if_success (with_reducible refine VC.mk ?_)); (fail_if_success (with_reducible refine Goes.mk ?_)); (fail_if_success (with_reducible refine Again.mk ?_)); (fail_if_success (with_reducible refine Rounds.mk ?_)); (fail_if_success (with_reducible show False)); (fail_if_success (with_reducible show True)); conv => whnf))
    all_goals try with_reducible first | exact trivial | exact (bc2 (by assumption) d1).elim | exact (bc2 (by assumption) d2).elim | exact (bc2 (by assumption) d3).elim | exact (bc2 (by assumption) d4).elim | exact (bc2 (by assumption) d5).elim | exact (bc2 (by assumption) d6).elim
    all_goals try (refine VC.mk ?_; first | (with_reducible assumption) | (with_reducible exact Nat.le_refl _) | (intro hh; rw [hh]; rfl) | (intro hh; simp [apF] at hh; rw [hh]; rfl))
    all_goals try (refine Leaf.mk ?_; first | (with_reducible rfl) | (simp [apE, apF, apL, apX, apH, insH, remH, updH, List.take_length, h1, h2, h3, h4, h5, h6]; done))

end Go.Proofs.Ytconaehajaifhaa
