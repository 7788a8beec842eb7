/- Contracts of the laws of chapter 20: the reference's tree. -/
import Derived.Test.YtconaehajaifhaaEvW
import Derived.Test.YtconaehajaifhaaKA
import Derived.Test.YtconaehajaifhaaBk
import Derived.Test.YtconaehajaifhaaTab
import Derived.Test.YtconaehajaifhaaUX
namespace Go.Proofs.Ytconaehajaifhaa
open Go.RowKit Fx Vx Bx Ev
set_option linter.unusedVariables false
set_option linter.unusedSimpArgs false
def T2 : Tab := T.deep 60 [1, 2, 3, 4, 5, 6, 7, 8, 9, 10, 11, 12]
theorem T2_ok : T2.Ok Try.prog := Tab.deep_ok T_ok _ _
theorem isE_false {M : List En} {i : Nat} (h : i < M.length) : (!M.isEmpty) = true := by cases M with | nil => simp at h | cons => rfl
def c_rt_find : Con := ⟨62, mdRun [0] (fun l z b A B => match l with | [id] => [MdIs b A B] | _ => [False]) fun l z b A B => match l with
  | [id] => ⟨[.val (.int .i64 (fdI id (zipM A B) : Int)), .val (.bool (hasM (zipM A B) id))], (zipM A B).isEmpty, cA (zipM A B), cB (zipM A B)⟩
  | _ => ⟨[], b, A, B⟩⟩
set_option maxRecDepth 100000 in
set_option maxHeartbeats 8000000 in
theorem con_rt_find : c_rt_find.Ok Try.prog := by
  refine con_md Try.func62 rfl (by kernel_rfl) T_ok 2 _ _ _ (fun l z b A B hl hb hpre => ?_)
  match l, hl with
  | [id], zl =>
    clear zl
    have hp0 := hpre _ (List.Mem.head _); try dsimp only at hp0
    clear hpre hl hb
    obtain ⟨M, rfl, rfl, rfl, hM, hlen⟩ := hp0
    conv => whnf
    refine goes_all (C := []) (pl := [(5, [0, 1, 2, 3, 4, 5, 6, 7, 8, 9, 10, 11], [0, 0, 2, 6, 14, 0, 62, 126, 0, 510, 1, 2047])]) T2_ok (Cons.nil _) mixed (by kernel_rfl) ?_
    repeat' (first | (with_reducible refine And.intro ?_ ?_) | (with_reducible intro h) | ((fail_if_success (with_reducible refine Leaf.mk ?_)); (fail_if_success (with_reducible refine VC.mk ?_)); (fail_if_success (with_reducible refine Goes.mk ?_)); (fail_if_success (with_reducible refine Again.mk ?_)); (fail_if_success (with_reducible refine Rounds.mk ?_)); (fail_if_success (with_reducible show False)); (fail_if_success (with_reducible show True)); conv => whnf))
    refine goes_invG (X := Nat) (fun i => (.ptr 0 0 :: .int .i64 id :: .here 0 :: .any :: .any :: .any :: .int .i64 (i : Int) :: .any :: .any :: .any :: .any :: .any :: .any :: .any :: .any :: .any :: .any :: .any :: .any :: .any :: .any :: .any :: .any :: .any :: .any :: .any :: .any :: .any :: .any :: .any :: .any :: .any :: .any :: .any :: .any :: .any :: .any :: .any :: .any :: .any :: [], [.cells [.osl M.isEmpty 1 1 M.length, .osl M.isEmpty 2 4 M.length, .bool z], .arr true (!M.isEmpty) 1 (cA M), .arr true (!M.isEmpty) 4 (cB M)])) (fun i => i ≤ M.length ∧ ∀ j, j < i → (M.getD j e0).id < id) (fun i => M.length - i) 0 [0, 1, 2] ⟨Nat.zero_le _, fun j hj => absurd hj (Nat.not_lt_zero _)⟩ ?_ ?_ ?_
    · repeat' (first | (with_reducible refine And.intro ?_ ?_) | (with_reducible intro h) | ((fail_if_success (with_reducible refine Leaf.mk ?_)); (fail_if_success (with_reducible refine VC.mk ?_)); (fail_if_success (with_reducible refine Goes.mk ?_)); (fail_if_success (with_reducible refine Again.mk ?_)); (fail_if_success (with_reducible refine Rounds.mk ?_)); (fail_if_success (with_reducible show False)); (fail_if_success (with_reducible show True)); conv => whnf))
      all_goals first | exact trivial | (refine Leaf.mk ?_; first | rfl | exact ⟨rfl, rfl⟩ | exact ⟨rfl, rfl, rfl⟩ | (simp [len_cA, len_cB]; done))
    · repeat' (first | (with_reducible refine And.intro ?_ ?_) | (with_reducible intro h) | ((fail_if_success (with_reducible refine Leaf.mk ?_)); (fail_if_success (with_reducible refine VC.mk ?_)); (fail_if_success (with_reducible refine Goes.mk ?_)); (fail_if_success (with_reducible refine Again.mk ?_)); (fail_if_success (with_reducible refine Rounds.mk ?_)); (fail_if_success (with_reducible show False)); (fail_if_success (with_reducible show True)); conv => whnf))
      all_goals first | exact trivial | (refine Leaf.mk ?_; first | rfl | exact ⟨rfl, rfl⟩ | exact ⟨rfl, rfl, rfl⟩ | (simp [len_cA, len_cB]; done))
    · intro i hx
      obtain ⟨x1, x2⟩ := hx
      rcases Nat.lt_or_ge i M.length with hi | hi
      · have hd : decide ((i : Int) < (M.length : Int)) = true := by simp; omega
        have he := isE_false hi
        by_cases hc : (M.getD i e0).id < id
        · have c1 : decide (id ≤ (M.getD i e0).id) = false := by rw [decide_eq_false_iff_not]; omega
          refine goes_all (C := []) (pl := [(5, [0, 1, 2, 3, 4, 5, 6, 7, 8, 9, 10, 11], [0, 0, 2, 6, 14, 0, 62, 126, 0, 510, 1, 2047])]) T2_ok (Cons.nil _) mixed (by kernel_rfl) ?_
          repeat' (first | (with_reducible refine And.intro ?_ ?_) | (with_reducible intro h) | ((fail_if_success (with_reducible refine Leaf.mk ?_)); (fail_if_success (with_reducible refine VC.mk ?_)); (fail_if_success (with_reducible refine Goes.mk ?_)); (fail_if_success (with_reducible refine Again.mk ?_)); (fail_if_success (with_reducible refine Rounds.mk ?_)); (fail_if_success (with_reducible show False)); (fail_if_success (with_reducible show True)); conv => whnf))
          all_goals try simp only [Int.toNat_natCast, Nat.zero_add, cA_at, cB_at0, cB_at1, cB_at2, cB_at3, len_cA, len_cB, len_rw1] at *
          all_goals try with_reducible first | exact trivial | exact (bc2 hd (by assumption)).elim | exact (bc2 (by assumption) hd).elim | exact (bc2 c1 (by assumption)).elim | exact (bc2 (by assumption) c1).elim
          all_goals try (refine VC.mk ?_; first | exact trivial | (with_reducible assumption) | omega | (simp only [InR]; omega) | (simp only [zip_col]; intro hh; rw [hh]; rfl) | (simp only [zip_col, len_cA, len_cB]; omega) | (simp only [zip_col, len_cA, len_cB]; done) | (simp; omega))
          all_goals (refine Again.mk ⟨i + 1, [0, 1, 2], ⟨by omega, fun j hj => if e : j = i then e ▸ hc else x2 j (by omega)⟩, (by show M.length - (i + 1) < M.length - i; omega), ?_, ?_⟩ <;> (repeat' (first | (with_reducible refine And.intro ?_ ?_) | (with_reducible intro h) | ((fail_if_success (with_reducible refine Leaf.mk ?_)); (fail_if_success (with_reducible refine VC.mk ?_)); (fail_if_success (with_reducible refine Goes.mk ?_)); (fail_if_success (with_reducible refine Again.mk ?_)); (fail_if_success (with_reducible refine Rounds.mk ?_)); (fail_if_success (with_reducible show False)); (fail_if_success (with_reducible show True)); conv => whnf))) <;> first | exact trivial | (refine Leaf.mk ?_; first | rfl | exact ⟨rfl, rfl⟩ | exact ⟨rfl, rfl, rfl⟩ | (simp [len_cA, len_cB]; done)))
        · have c1 : decide (id ≤ (M.getD i e0).id) = true := by rw [decide_eq_true_eq]; omega
          have ef : fdI id M = i := fdI_is (Nat.le_of_lt hi) x2 (fun _ => by omega)
          have eh := has_at hM hi x2 (by omega)
          refine goes_all (C := []) (pl := [(5, [0, 1, 2, 3, 4, 5, 6, 7, 8, 9, 10, 11], [0, 0, 2, 6, 14, 0, 62, 126, 0, 510, 1, 2047])]) T2_ok (Cons.nil _) mixed (by kernel_rfl) ?_
          repeat' (first | (with_reducible refine And.intro ?_ ?_) | (with_reducible intro h) | ((fail_if_success (with_reducible refine Leaf.mk ?_)); (fail_if_success (with_reducible refine VC.mk ?_)); (fail_if_success (with_reducible refine Goes.mk ?_)); (fail_if_success (with_reducible refine Again.mk ?_)); (fail_if_success (with_reducible refine Rounds.mk ?_)); (fail_if_success (with_reducible show False)); (fail_if_success (with_reducible show True)); conv => whnf))
          all_goals try simp only [Int.toNat_natCast, Nat.zero_add, cA_at, cB_at0, cB_at1, cB_at2, cB_at3, len_cA, len_cB, len_rw1] at *
          all_goals try with_reducible first | exact trivial | exact (bc2 hd (by assumption)).elim | exact (bc2 (by assumption) hd).elim | exact (bc2 c1 (by assumption)).elim | exact (bc2 (by assumption) c1).elim
          all_goals try (refine VC.mk ?_; first | exact trivial | (with_reducible assumption) | omega | (simp only [InR]; omega) | (simp only [zip_col]; intro hh; rw [hh]; rfl) | (simp only [zip_col, len_cA, len_cB]; omega) | (simp only [zip_col, len_cA, len_cB]; done) | (simp; omega))
          all_goals try (refine Leaf.mk ?_; first | (with_reducible rfl) | rfl | (simp only [zip_col]; first | rfl | (with_reducible exact ef) | (with_reducible exact eh) | (rw [ef]; done) | (rw [eh]; done) | (simp only [ef, eh]; done)) | (simp [List.take_of_length_le, len_cA, len_cB, zip_col]; done))
      · obtain rfl : i = M.length := by omega
        have hd : decide ((M.length : Int) < (M.length : Int)) = false := by simp
        have c1 := hd
        have ef : fdI id M = M.length := fdI_is (Nat.le_refl _) x2 (fun h => absurd h (Nat.lt_irrefl _))
        have eh := has_end x2
        refine goes_all (C := []) (pl := [(5, [0, 1, 2, 3, 4, 5, 6, 7, 8, 9, 10, 11], [0, 0, 2, 6, 14, 0, 62, 126, 0, 510, 1, 2047])]) T2_ok (Cons.nil _) mixed (by kernel_rfl) ?_
        repeat' (first | (with_reducible refine And.intro ?_ ?_) | (with_reducible intro h) | ((fail_if_success (with_reducible refine Leaf.mk ?_)); (fail_if_success (with_reducible refine VC.mk ?_)); (fail_if_success (with_reducible refine Goes.mk ?_)); (fail_if_success (with_reducible refine Again.mk ?_)); (fail_if_success (with_reducible refine Rounds.mk ?_)); (fail_if_success (with_reducible show False)); (fail_if_success (with_reducible show True)); conv => whnf))
        all_goals try simp only [Int.toNat_natCast, Nat.zero_add, cA_at, cB_at0, cB_at1, cB_at2, cB_at3, len_cA, len_cB, len_rw1] at *
        all_goals try with_reducible first | exact trivial | exact (bc2 hd (by assumption)).elim | exact (bc2 (by assumption) hd).elim | exact (bc2 c1 (by assumption)).elim | exact (bc2 (by assumption) c1).elim
        all_goals try (refine VC.mk ?_; first | exact trivial | (with_reducible assumption) | omega | (simp only [InR]; omega) | (simp only [zip_col]; intro hh; rw [hh]; rfl) | (simp only [zip_col, len_cA, len_cB]; omega) | (simp only [zip_col, len_cA, len_cB]; done) | (simp; omega))
        all_goals try (refine Leaf.mk ?_; first | (with_reducible rfl) | rfl | (simp only [zip_col]; first | rfl | (with_reducible exact ef) | (with_reducible exact eh) | (rw [ef]; done) | (rw [eh]; done) | (simp only [ef, eh]; done)) | (simp [List.take_of_length_le, len_cA, len_cB, zip_col]; done))

end Go.Proofs.Ytconaehajaifhaa
