/- Contracts of package bvh: sorting. -/
import Derived.Test.YtkfaflhhkmkdjaaU7
namespace Go.Proofs.Ytkfaflhhkmkdjaa
open Go.RowKit Fx Vx Bx Ev
set_option linter.unusedVariables false
set_option linter.unusedSimpArgs false
def c_ascending : Con := ⟨16, ownRun 1 [] (fun l b xs => match l with | [] => [All1 xs, xs.length ≤ 1000000] | _ => [False]) fun l b xs => match l with
  | [] => [.rows b 1 (ascR xs)]
  | _ => []⟩
set_option maxRecDepth 100000 in
set_option maxHeartbeats 2000000 in
theorem con_ascending : c_ascending.Ok Try.prog := by
  refine con_own (C := [c_sift]) (pl := [(8, [0, 1, 2, 3, 4, 5, 6, 7, 8, 9, 10, 11, 12, 13], [0, 0, 0, 0, 0, 24, 56, 0, 128, 384, 1017, 2041, 4095, 8191])]) Try.func16 rfl (by kernel_rfl) T_ok (Cons.cons con_sift (Cons.nil _)) mixed (by kernel_rfl) _ _ _ _ (fun l b xs hl hn hpre => ?_)
  match l, hl, b with
  | [], zl, true =>
    clear zl
    have hp0 := hpre _ (List.Mem.head _); try dsimp only at hp0
    have hp1 := hpre _ (List.Mem.tail _ (List.Mem.head _)); try dsimp only at hp1
    clear hpre hl
    obtain rfl : xs = [] := hn rfl
    repeat' (first | (with_reducible refine And.intro ?_ ?_) | (with_reducible intro h) | ((fail_if_success (with_reducible refine Leaf.mk ?_)); (fail_if_success (with_reducible refine VC.mk ?_)); (fail_if_success (with_reducible refine Goes.mk ?_)); (fail_if_success (with_reducible refine Again.mk ?_)); (fail_if_success (with_reducible refine Rounds.mk ?_)); (fail_if_success (with_reducible show False)); (fail_if_success (with_reducible show True)); conv => whnf))
    all_goals try first | exact trivial | (exfalso; revert h; decide) | (refine Leaf.mk ?_; first | rfl | decide) | (refine VC.mk ?_; first | decide | (simp only [InR]; omega) | (simp only [InR]; decide))
    all_goals try refine goes_rounds 1 ?_
    all_goals try (refine rounds_one (pl := [(8, [0, 1, 2, 3, 4, 5, 6, 7, 8, 9, 10, 11, 12, 13], [0, 0, 0, 0, 0, 24, 56, 0, 128, 384, 1017, 2041, 4095, 8191])]) T_ok (Cons.cons con_sift (Cons.nil _)) mixed (by kernel_rfl) ?_; repeat' (first | (with_reducible refine And.intro ?_ ?_) | (with_reducible intro h) | ((fail_if_success (with_reducible refine Leaf.mk ?_)); (fail_if_success (with_reducible refine VC.mk ?_)); (fail_if_success (with_reducible refine Goes.mk ?_)); (fail_if_success (with_reducible refine Again.mk ?_)); (fail_if_success (with_reducible refine Rounds.mk ?_)); (fail_if_success (with_reducible show False)); (fail_if_success (with_reducible show True)); conv => whnf)))
    all_goals try first | exact trivial | (exfalso; revert h; decide) | (refine Leaf.mk ?_; first | rfl | decide) | (refine VC.mk ?_; first | decide | (simp only [InR]; omega) | (simp only [InR]; decide))
    all_goals try refine goes_rounds 1 ?_
    all_goals try (refine rounds_one (pl := [(8, [0, 1, 2, 3, 4, 5, 6, 7, 8, 9, 10, 11, 12, 13], [0, 0, 0, 0, 0, 24, 56, 0, 128, 384, 1017, 2041, 4095, 8191])]) T_ok (Cons.cons con_sift (Cons.nil _)) mixed (by kernel_rfl) ?_; repeat' (first | (with_reducible refine And.intro ?_ ?_) | (with_reducible intro h) | ((fail_if_success (with_reducible refine Leaf.mk ?_)); (fail_if_success (with_reducible refine VC.mk ?_)); (fail_if_success (with_reducible refine Goes.mk ?_)); (fail_if_success (with_reducible refine Again.mk ?_)); (fail_if_success (with_reducible refine Rounds.mk ?_)); (fail_if_success (with_reducible show False)); (fail_if_success (with_reducible show True)); conv => whnf)))
    all_goals try first | exact trivial | (exfalso; revert h; decide) | (refine Leaf.mk ?_; first | rfl | decide) | (refine VC.mk ?_; first | decide | (simp only [InR]; omega) | (simp only [InR]; decide))
  | [], zl, false =>
    clear zl
    have hp0 := hpre _ (List.Mem.head _); try dsimp only at hp0
    have hp1 := hpre _ (List.Mem.tail _ (List.Mem.head _)); try dsimp only at hp1
    clear hpre hl
    repeat' (first | (with_reducible refine And.intro ?_ ?_) | (with_reducible intro h) | ((fail_if_success (with_reducible refine Leaf.mk ?_)); (fail_if_success (with_reducible refine VC.mk ?_)); (fail_if_success (with_reducible refine Goes.mk ?_)); (fail_if_success (with_reducible refine Again.mk ?_)); (fail_if_success (with_reducible refine Rounds.mk ?_)); (fail_if_success (with_reducible show False)); (fail_if_success (with_reducible show True)); conv => whnf))
    all_goals try first | exact trivial | (refine VC.mk ?_; first | decide | (simp only [InR]; omega) | (simp only [InR]; rw [Int.tdiv_eq_ediv_of_nonneg (by omega)]; omega))
    refine goes_inv (X := (Nat × List (List Int))) (pl := [(8, [0, 1, 2, 3, 4, 5, 6, 7, 8, 9, 10, 11, 12, 13], [0, 0, 0, 0, 0, 24, 56, 0, 128, 384, 1017, 2041, 4095, 8191])]) T_ok (Cons.cons con_sift (Cons.nil _)) mixed (by kernel_rfl)
      (fun x => (.sl 0 1 0 xs.length :: .any :: .nils :: .int .i64 ((x.1 : Int) - 1) :: .any :: .any :: .any :: .any :: .any :: .any :: .any :: .any :: .any :: .any :: .any :: .any :: .any :: .any :: .any :: .any :: .any :: .any :: .any :: .any :: .any :: .any :: .any :: .any :: .any :: .any :: .any :: .any :: .any :: .any :: .any :: .any :: .any :: .any :: .any :: .any :: [], [.arr true true 1 x.2]))
      (fun x => All1 x.2 ∧ x.2.length = xs.length ∧ x.1 ≤ xs.length / 2 ∧ hpR x.1 x.2 = hpR (xs.length / 2) xs) (fun x => x.1) (xs.length / 2, xs) [0] ⟨hp0, rfl, Nat.le_refl _, rfl⟩ ?_ ?_ ?_
    · repeat' (first | (with_reducible refine And.intro ?_ ?_) | (with_reducible intro h) | ((fail_if_success (with_reducible refine Leaf.mk ?_)); (fail_if_success (with_reducible refine VC.mk ?_)); (fail_if_success (with_reducible refine Goes.mk ?_)); (fail_if_success (with_reducible refine Again.mk ?_)); (fail_if_success (with_reducible refine Rounds.mk ?_)); (fail_if_success (with_reducible show False)); (fail_if_success (with_reducible show True)); conv => whnf))
      all_goals first | exact trivial | (refine Leaf.mk ?_; first | rfl | exact half_len _ | exact ⟨rfl, rfl, rfl⟩ | exact ⟨rfl, rfl⟩)
    · repeat' (first | (with_reducible refine And.intro ?_ ?_) | (with_reducible intro h) | ((fail_if_success (with_reducible refine Leaf.mk ?_)); (fail_if_success (with_reducible refine VC.mk ?_)); (fail_if_success (with_reducible refine Goes.mk ?_)); (fail_if_success (with_reducible refine Again.mk ?_)); (fail_if_success (with_reducible refine Rounds.mk ?_)); (fail_if_success (with_reducible show False)); (fail_if_success (with_reducible show True)); conv => whnf))
      all_goals first | exact trivial | (refine Leaf.mk ?_; first | rfl | exact half_len _ | exact ⟨rfl, rfl, rfl⟩ | exact ⟨rfl, rfl⟩)
    · intro x hx
      rcases x with ⟨k, ys⟩
      dsimp only at hx ⊢
      obtain ⟨x1, x2, x3, x4⟩ := hx
      repeat' (first | (with_reducible refine And.intro ?_ ?_) | (with_reducible intro h) | ((fail_if_success (with_reducible refine Leaf.mk ?_)); (fail_if_success (with_reducible refine VC.mk ?_)); (fail_if_success (with_reducible refine Goes.mk ?_)); (fail_if_success (with_reducible refine Again.mk ?_)); (fail_if_success (with_reducible refine Rounds.mk ?_)); (fail_if_success (with_reducible show False)); (fail_if_success (with_reducible show True)); conv => whnf))
      all_goals try first | exact trivial | (refine VC.mk ?_; first | rfl | assumption) | (refine Leaf.mk ?_; rfl)
      all_goals simp only [decide_eq_true_eq, decide_eq_false_iff_not] at *
      all_goals try first | (refine VC.mk ?_; first | omega | (simp only [InR]; omega))
      · obtain ⟨j, rfl⟩ : ∃ j, k = j + 1 := ⟨k - 1, by omega⟩
        have e : ((((j + 1 : Nat) : Int)) - 1).toNat = j := by omega
        have x4 : hpR j (siftR ys.length ys ys.length j) = hpR (xs.length / 2) xs := x4
        rw [x2] at x4
        refine Again.mk ⟨(j, siftR xs.length ys xs.length j), [0], ⟨x1.sift _ _ _, by simp only [len_siftR]; omega, by dsimp only; omega, x4⟩, Nat.lt_succ_self _, ?_, ?_⟩ <;> (repeat' (first | (with_reducible refine And.intro ?_ ?_) | (with_reducible intro h) | ((fail_if_success (with_reducible refine Leaf.mk ?_)); (fail_if_success (with_reducible refine VC.mk ?_)); (fail_if_success (with_reducible refine Goes.mk ?_)); (fail_if_success (with_reducible refine Again.mk ?_)); (fail_if_success (with_reducible refine Rounds.mk ?_)); (fail_if_success (with_reducible show False)); (fail_if_success (with_reducible show True)); conv => whnf))) <;> first | exact trivial | (refine Leaf.mk ?_; first | rfl | exact ⟨rfl, rfl, rfl⟩ | exact ⟨rfl, rfl⟩ | (dsimp only; omega) | (refine ⟨rfl, ?_⟩; simp only [e]; done) | (refine ⟨rfl, ?_⟩; simp only [e]; rfl))
      · obtain rfl : k = 0 := by omega
        refine goes_inv (X := (Nat × List (List Int))) (pl := [(8, [0, 1, 2, 3, 4, 5, 6, 7, 8, 9, 10, 11, 12, 13], [0, 0, 0, 0, 0, 24, 56, 0, 128, 384, 1017, 2041, 4095, 8191])]) T_ok (Cons.cons con_sift (Cons.nil _)) mixed (by kernel_rfl)
          (fun x => (.sl 0 1 0 xs.length :: .any :: .nils :: .any :: .int .i64 ((x.1 : Int) - 1) :: .any :: .any :: .any :: .any :: .any :: .any :: .any :: .any :: .any :: .any :: .any :: .any :: .any :: .any :: .any :: .any :: .any :: .any :: .any :: .any :: .any :: .any :: .any :: .any :: .any :: .any :: .any :: .any :: .any :: .any :: .any :: .any :: .any :: .any :: .any :: [], [.arr true true 1 x.2]))
          (fun x => All1 x.2 ∧ x.2.length = xs.length ∧ x.1 ≤ xs.length ∧ srR (x.1 - 1) x.2 = ascR xs) (fun x => x.1) (xs.length, ys) [0] ⟨x1, x2, Nat.le_refl _, (by show srR (xs.length - 1) ys = ascR xs; rw [ascR, ← x4]; rfl)⟩ ?_ ?_ ?_
        · repeat' (first | (with_reducible refine And.intro ?_ ?_) | (with_reducible intro h) | ((fail_if_success (with_reducible refine Leaf.mk ?_)); (fail_if_success (with_reducible refine VC.mk ?_)); (fail_if_success (with_reducible refine Goes.mk ?_)); (fail_if_success (with_reducible refine Again.mk ?_)); (fail_if_success (with_reducible refine Rounds.mk ?_)); (fail_if_success (with_reducible show False)); (fail_if_success (with_reducible show True)); conv => whnf))
          all_goals first | exact trivial | (refine Leaf.mk ?_; first | rfl | exact ⟨rfl, rfl⟩ | (simp; done))
        · repeat' (first | (with_reducible refine And.intro ?_ ?_) | (with_reducible intro h) | ((fail_if_success (with_reducible refine Leaf.mk ?_)); (fail_if_success (with_reducible refine VC.mk ?_)); (fail_if_success (with_reducible refine Goes.mk ?_)); (fail_if_success (with_reducible refine Again.mk ?_)); (fail_if_success (with_reducible refine Rounds.mk ?_)); (fail_if_success (with_reducible show False)); (fail_if_success (with_reducible show True)); conv => whnf))
          all_goals first | exact trivial | (refine Leaf.mk ?_; first | rfl | exact ⟨rfl, rfl⟩ | (simp; done))
        · intro x hx
          rcases x with ⟨k, ys⟩
          dsimp only at hx ⊢
          obtain ⟨x1, x2, x3, x4⟩ := hx
          repeat' (first | (with_reducible refine And.intro ?_ ?_) | (with_reducible intro h) | ((fail_if_success (with_reducible refine Leaf.mk ?_)); (fail_if_success (with_reducible refine VC.mk ?_)); (fail_if_success (with_reducible refine Goes.mk ?_)); (fail_if_success (with_reducible refine Again.mk ?_)); (fail_if_success (with_reducible refine Rounds.mk ?_)); (fail_if_success (with_reducible show False)); (fail_if_success (with_reducible show True)); conv => whnf))
          all_goals try first | exact trivial | (refine VC.mk ?_; first | rfl | assumption) | (refine Leaf.mk ?_; rfl)
          all_goals simp only [decide_eq_true_eq, decide_eq_false_iff_not] at *
          all_goals try first | (refine VC.mk ?_; first | omega | (simp only [InR]; omega) | (simp only [len_upd2]; omega) | (apply x1; omega) | (apply x1.upd; simp only [len_upd2]; omega) | exact (x1.upd _ _).upd _ _)
          all_goals try first | (refine Leaf.mk ?_; first | rfl | (rw [show k - 1 = 0 by omega] at x4; rw [List.take_of_length_le (by omega)]; exact x4))
          all_goals obtain ⟨j, rfl⟩ : ∃ j, k = j + 2 := ⟨k - 2, by omega⟩
          all_goals (have e : ((((j + 2 : Nat) : Int)) - 1).toNat = j + 1 := by omega)
          all_goals (refine Again.mk ⟨(j + 1, siftR (j + 1) (swpR ys 0 (j + 1)) (j + 1) 0), [0], ⟨(x1.swp _ _).sift _ _ _, by simp only [len_siftR, len_swpR]; omega, by dsimp only; omega, x4⟩, Nat.lt_succ_self _, ?_, ?_⟩ <;> (repeat' (first | (with_reducible refine And.intro ?_ ?_) | (with_reducible intro h) | ((fail_if_success (with_reducible refine Leaf.mk ?_)); (fail_if_success (with_reducible refine VC.mk ?_)); (fail_if_success (with_reducible refine Goes.mk ?_)); (fail_if_success (with_reducible refine Again.mk ?_)); (fail_if_success (with_reducible refine Rounds.mk ?_)); (fail_if_success (with_reducible show False)); (fail_if_success (with_reducible show True)); conv => whnf))) <;> first | exact trivial | (refine Leaf.mk ?_; first | rfl | exact ⟨rfl, rfl, rfl⟩ | exact ⟨rfl, rfl⟩ | (dsimp only; omega) | (refine ⟨rfl, ?_⟩; simp only [e, Nat.zero_add]; rfl)))

end Go.Proofs.Ytkfaflhhkmkdjaa
