/- Contracts of package bvh: sifting. -/
import Derived.Test.YtkfaflhhkmkdjaaEC
import Derived.Test.YtkfaflhhkmkdjaaFs
import Derived.Test.YtkfaflhhkmkdjaaBA
import Derived.Test.YtkfaflhhkmkdjaaU6
namespace Go.Proofs.Ytkfaflhhkmkdjaa
open Go.RowKit Fx Vx Bx Ev
set_option linter.unusedVariables false
set_option linter.unusedSimpArgs false
def c_sift : Con := ⟨27, uRun 1 [0] (fun l len xs => match l with | [i] => [0 ≤ i ∧ i ≤ 1000000, All1 xs, xs.length ≤ 1000000] | _ => [False]) fun l len xs => match l with
  | [i] => siftR len xs len i.toNat
  | _ => []⟩
set_option maxRecDepth 100000 in
set_option maxHeartbeats 2000000 in
theorem con_sift : c_sift.Ok Try.prog := by
  refine con_upd (C := []) (pl := [(2, [0, 1, 2, 3, 4, 5, 6, 7, 8, 9, 10, 11, 12, 13, 14, 15, 16], [0, 1, 0, 4, 15, 31, 63, 63, 191, 511, 1023, 63, 63, 6207, 14399, 32767, 65535]), (4, [0, 1, 2, 3, 4, 5, 6, 7, 8], [0, 0, 3, 7, 0, 0, 48, 112, 255]), (5, [0, 1, 2, 3, 4, 5, 6, 7, 8, 9, 10, 11, 12, 13, 14, 15], [0, 0, 0, 0, 0, 0, 48, 112, 0, 0, 768, 1792, 4083, 8179, 16383, 32767])]) Try.func27 rfl (by kernel_rfl) T_ok (Cons.nil _) mixed (by kernel_rfl) 2 1 [0] _ _ (fun l len xs hl hlen hpre => ?_)
  match l, hl with
  | [i], zl =>
    clear zl
    have hp0 := hpre _ (List.Mem.head _); try dsimp only at hp0
    have hp1 := hpre _ (List.Mem.tail _ (List.Mem.head _)); try dsimp only at hp1
    have hp2 := hpre _ (List.Mem.tail _ (List.Mem.tail _ (List.Mem.head _))); try dsimp only at hp2
    clear hpre hl
    refine goes_inv (X := (Nat × Nat × List (List Int))) (pl := [(2, [0, 1, 2, 3, 4, 5, 6, 7, 8, 9, 10, 11, 12, 13, 14, 15, 16], [0, 1, 0, 4, 15, 31, 63, 63, 191, 511, 1023, 63, 63, 6207, 14399, 32767, 65535]), (4, [0, 1, 2, 3, 4, 5, 6, 7, 8], [0, 0, 3, 7, 0, 0, 48, 112, 255]), (5, [0, 1, 2, 3, 4, 5, 6, 7, 8, 9, 10, 11, 12, 13, 14, 15], [0, 0, 0, 0, 0, 0, 48, 112, 0, 0, 768, 1792, 4083, 8179, 16383, 32767])]) T_ok (Cons.nil _) mixed (by kernel_rfl)
      (fun x => (.sl 0 1 0 len :: .int .i64 (x.2.1 : Int) :: .here 0 :: .any :: .any :: .any :: .any :: .any :: .any :: .any :: .any :: .any :: .any :: .any :: .any :: .any :: .any :: .any :: .any :: .any :: .any :: .any :: .any :: .any :: .any :: .any :: .any :: .any :: .any :: .any :: .any :: .any :: .any :: .any :: .any :: .any :: .any :: .any :: .any :: .any :: .any :: .any :: .any :: .any :: .any :: .any :: .any :: .any :: .any :: .any :: .any :: .any :: .any :: .any :: .any :: [], [.arr true true 1 x.2.2]))
      (fun x => All1 x.2.2 ∧ len ≤ x.2.2.length ∧ x.2.2.length ≤ 1000000 ∧ x.2.1 ≤ 1000000 ∧ len ≤ x.1 + x.2.1 ∧ siftR x.1 x.2.2 len x.2.1 = siftR len xs len i.toNat) (fun x => x.1) (len, i.toNat, xs) [0] ⟨hp1, hlen, hp2, (by show i.toNat ≤ 1000000; omega), (by show len ≤ len + i.toNat; omega), rfl⟩ ?_ ?_ ?_
    · repeat' (first | (with_reducible refine And.intro ?_ ?_) | (with_reducible intro h) | ((fail_if_success (with_reducible refine Leaf.mk ?_)); (fail_if_success (with_reducible refine VC.mk ?_)); (fail_if_success (with_reducible refine Goes.mk ?_)); (fail_if_success (with_reducible refine Again.mk ?_)); (fail_if_success (with_reducible refine Rounds.mk ?_)); (fail_if_success (with_reducible show False)); (fail_if_success (with_reducible show True)); conv => whnf))
      all_goals first | exact trivial | (refine Leaf.mk ?_; first | rfl | exact ⟨rfl, rfl⟩ | (show (i : Int) = ((i.toNat : Nat) : Int); omega))
    · repeat' (first | (with_reducible refine And.intro ?_ ?_) | (with_reducible intro h) | ((fail_if_success (with_reducible refine Leaf.mk ?_)); (fail_if_success (with_reducible refine VC.mk ?_)); (fail_if_success (with_reducible refine Goes.mk ?_)); (fail_if_success (with_reducible refine Again.mk ?_)); (fail_if_success (with_reducible refine Rounds.mk ?_)); (fail_if_success (with_reducible show False)); (fail_if_success (with_reducible show True)); conv => whnf))
      all_goals first | exact trivial | (refine Leaf.mk ?_; first | rfl | exact ⟨rfl, rfl⟩ | (show (i : Int) = ((i.toNat : Nat) : Int); omega))
    · intro x hx
      rcases x with ⟨k, n, ys⟩
      dsimp only at hx ⊢
      obtain ⟨x1, x2, x3, x4, x5, x6⟩ := hx
      repeat' (first | (with_reducible refine And.intro ?_ ?_) | (with_reducible intro h) | ((fail_if_success (with_reducible refine Leaf.mk ?_)); (fail_if_success (with_reducible refine VC.mk ?_)); (fail_if_success (with_reducible refine Goes.mk ?_)); (fail_if_success (with_reducible refine Again.mk ?_)); (fail_if_success (with_reducible refine Rounds.mk ?_)); (fail_if_success (with_reducible show False)); (fail_if_success (with_reducible show True)); conv => whnf))
      all_goals try first | exact trivial | (refine VC.mk ?_; first | rfl | (simp only [InR]; omega))
      all_goals simp only [tn1, tn2, tn3, decide_eq_true_eq, decide_eq_false_iff_not, Bool.not_eq_true', Bool.not_eq_false'] at *
      all_goals try first | (refine VC.mk ?_; first | omega | (simp only [len_upd2]; omega) | (apply x1; omega) | (apply x1.upd; simp only [len_upd2]; omega))
      all_goals try (refine Leaf.mk ?_; rw [← x6]; symm; first | (refine siftR_end ?_; omega) | (refine siftR_stop (ch_t (by omega) (by omega)) ?_; omega) | (refine siftR_stop (ch_f (by omega)) ?_; omega) | (refine siftR_stop (ch_g (by omega)) ?_; omega))
      all_goals first | (have hc := ch_t (xs := ys) (len := len) (c := 2 * n + 1) (by omega) (by omega)) | (have hc := ch_f (xs := ys) (len := len) (c := 2 * n + 1) (by omega)) | (have hc := ch_g (xs := ys) (len := len) (c := 2 * n + 1) (by omega))
      all_goals obtain ⟨j, rfl, e⟩ := siftR_go x5 (by omega) hc (by omega)
      all_goals rw [e] at x6
      all_goals (refine Again.mk ⟨(j, _, _), [0], ⟨x1.swp _ _, by simp only [swpR, upd2, List.length_set]; omega, by simp only [swpR, upd2, List.length_set]; omega, by dsimp only; omega, by dsimp only; omega, x6⟩, Nat.lt_succ_self _, ?_, ?_⟩ <;> (repeat' (first | (with_reducible refine And.intro ?_ ?_) | (with_reducible intro h) | ((fail_if_success (with_reducible refine Leaf.mk ?_)); (fail_if_success (with_reducible refine VC.mk ?_)); (fail_if_success (with_reducible refine Goes.mk ?_)); (fail_if_success (with_reducible refine Again.mk ?_)); (fail_if_success (with_reducible refine Rounds.mk ?_)); (fail_if_success (with_reducible show False)); (fail_if_success (with_reducible show True)); conv => whnf))) <;> first | exact trivial | (refine Leaf.mk ?_; first | rfl | (simp only [tn1, tn2, tn3, swpR]; done) | (simp only [tn1, tn2, tn3, swpR]; rfl) | (dsimp only; omega) | exact ⟨rfl, rfl⟩ | (simp only [tn1, tn2, tn3]; exact ⟨rfl, rfl⟩)))

end Go.Proofs.Ytkfaflhhkmkdjaa
