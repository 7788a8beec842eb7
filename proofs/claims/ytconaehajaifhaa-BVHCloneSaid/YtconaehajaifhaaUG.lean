/- Contracts of the laws of chapter 20: a list of numbers. -/
import Derived.Test.YtconaehajaifhaaUE
import Derived.Test.YtconaehajaifhaaBq2
namespace Go.Proofs.Ytconaehajaifhaa
open Go.RowKit Fx Vx Bx Ev
set_option linter.unusedVariables false
set_option linter.unusedSimpArgs false
def c_law20_insertID : Con := ⟨25, ownRun 1 [0] (fun l b xs => match l with | [id] => [All1 xs, xs.length ≤ 1000000] | _ => [False]) fun l b xs => match l with
  | [id] => [.rows false 1 (rw1 (insL id (unr xs)))]
  | _ => []⟩
set_option maxRecDepth 100000 in
set_option maxHeartbeats 4000000 in
theorem con_law20_insertID : c_law20_insertID.Ok Try.prog := by
  refine con_own (C := []) (pl := []) Try.func25 rfl (by kernel_rfl) T_ok (Cons.nil _) mixed (by kernel_rfl) _ _ _ _ (fun l b xs hl hn hpre => ?_)
  match l, hl, b with
  | [id], zl, true =>
    clear zl
    have hp0 := hpre _ (List.Mem.head _); try dsimp only at hp0
    have hp1 := hpre _ (List.Mem.tail _ (List.Mem.head _)); try dsimp only at hp1
    clear hpre hl
    obtain rfl : xs = [] := hn rfl
    repeat' (first | (with_reducible refine And.intro ?_ ?_) | (with_reducible intro h) | ((fail_if_success (with_reducible refine Leaf.mk ?_)); (fail_if_success (with_reducible refine VC.mk ?_)); (fail_if_success (with_reducible refine Goes.mk ?_)); (fail_if_success (with_reducible refine Again.mk ?_)); (fail_if_success (with_reducible refine Rounds.mk ?_)); (fail_if_success (with_reducible show False)); (fail_if_success (with_reducible show True)); conv => whnf))
    all_goals try first | exact trivial | (exfalso; revert h; decide) | (refine Leaf.mk ?_; first | rfl | decide) | (refine VC.mk ?_; first | decide | (simp only [InR]; omega) | (simp only [InR]; decide) | (simp; done))
    all_goals try refine goes_rounds 1 ?_
    all_goals try (refine rounds_one (pl := []) T_ok (Cons.nil _) mixed (by kernel_rfl) ?_; repeat' (first | (with_reducible refine And.intro ?_ ?_) | (with_reducible intro h) | ((fail_if_success (with_reducible refine Leaf.mk ?_)); (fail_if_success (with_reducible refine VC.mk ?_)); (fail_if_success (with_reducible refine Goes.mk ?_)); (fail_if_success (with_reducible refine Again.mk ?_)); (fail_if_success (with_reducible refine Rounds.mk ?_)); (fail_if_success (with_reducible show False)); (fail_if_success (with_reducible show True)); conv => whnf)))
    all_goals try first | exact trivial | (exfalso; revert h; decide) | (refine Leaf.mk ?_; first | rfl | decide) | (refine VC.mk ?_; first | decide | (simp only [InR]; omega) | (simp only [InR]; decide) | (simp; done))
  | [id], zl, false =>
    clear zl
    have hp0 := hpre _ (List.Mem.head _); try dsimp only at hp0
    have hp1 := hpre _ (List.Mem.tail _ (List.Mem.head _)); try dsimp only at hp1
    clear hpre hl
    obtain ⟨l, rfl⟩ : ∃ l, xs = rw1 l := ⟨unr xs, unr_eq hp0⟩
    rw [unr_rw1]
    rw [len_rw1] at hp1
    repeat' (first | (with_reducible refine And.intro ?_ ?_) | (with_reducible intro h) | ((fail_if_success (with_reducible refine Leaf.mk ?_)); (fail_if_success (with_reducible refine VC.mk ?_)); (fail_if_success (with_reducible refine Goes.mk ?_)); (fail_if_success (with_reducible refine Again.mk ?_)); (fail_if_success (with_reducible refine Rounds.mk ?_)); (fail_if_success (with_reducible show False)); (fail_if_success (with_reducible show True)); conv => whnf))
    all_goals try first | exact trivial
    refine goes_inv (X := Nat) (pl := []) T_ok (Cons.nil _) mixed (by kernel_rfl)
      (fun k => (.sl 0 1 0 l.length :: .int .i64 id :: .any :: .any :: .any :: .int .i64 (k : Int) :: .any :: .any :: .any :: .any :: .any :: .any :: .any :: .any :: .any :: .any :: .any :: .any :: .any :: .any :: .any :: .any :: .any :: .any :: .any :: .any :: .any :: .any :: .any :: .any :: .any :: .any :: .any :: .any :: .any :: .any :: .any :: .any :: .any :: .any :: .any :: .any :: .any :: .any :: .any :: .any :: .any :: .any :: .any :: [], [.arr true true 1 (rw1 l)]))
      (fun k => k ≤ l.length ∧ ∀ j, j < k → l.getD j 0 < id) (fun k => l.length - k) 0 [0] ⟨Nat.zero_le _, fun j hj => absurd hj (Nat.not_lt_zero _)⟩ ?_ ?_ ?_
    · repeat' (first | (with_reducible refine And.intro ?_ ?_) | (with_reducible intro h) | ((fail_if_success (with_reducible refine Leaf.mk ?_)); (fail_if_success (with_reducible refine VC.mk ?_)); (fail_if_success (with_reducible refine Goes.mk ?_)); (fail_if_success (with_reducible refine Again.mk ?_)); (fail_if_success (with_reducible refine Rounds.mk ?_)); (fail_if_success (with_reducible show False)); (fail_if_success (with_reducible show True)); conv => whnf))
      all_goals first | exact trivial | (refine Leaf.mk ?_; first | rfl | exact ⟨rfl, rfl⟩ | exact len_rw1 l | exact (len_rw1 l).symm | (simp [len_rw1]; done) | (refine ⟨?_, ?_⟩ <;> simp [len_rw1]; done))
    · repeat' (first | (with_reducible refine And.intro ?_ ?_) | (with_reducible intro h) | ((fail_if_success (with_reducible refine Leaf.mk ?_)); (fail_if_success (with_reducible refine VC.mk ?_)); (fail_if_success (with_reducible refine Goes.mk ?_)); (fail_if_success (with_reducible refine Again.mk ?_)); (fail_if_success (with_reducible refine Rounds.mk ?_)); (fail_if_success (with_reducible show False)); (fail_if_success (with_reducible show True)); conv => whnf))
      all_goals first | exact trivial | (refine Leaf.mk ?_; first | rfl | exact ⟨rfl, rfl⟩ | exact len_rw1 l | exact (len_rw1 l).symm | (simp [len_rw1]; done) | (refine ⟨?_, ?_⟩ <;> simp [len_rw1]; done))
    · intro k hx
      obtain ⟨x1, x2⟩ := hx
      try dsimp only at x1 x2
      rcases Nat.lt_or_ge k l.length with hk | hk
      · have hd : decide ((k : Int) < (l.length : Int)) = true := by simp; omega
        by_cases hc : l.getD k 0 < id
        · have c1 : decide (l.getD k 0 < id) = true := by simpa using hc
          have c2 := c1
          repeat' (first | (with_reducible refine And.intro ?_ ?_) | (with_reducible intro h) | ((fail_if_success (with_reducible refine Leaf.mk ?_)); (fail_if_success (with_reducible refine VC.mk ?_)); (fail_if_success (with_reducible refine Goes.mk ?_)); (fail_if_success (with_reducible refine Again.mk ?_)); (fail_if_success (with_reducible refine Rounds.mk ?_)); (fail_if_success (with_reducible show False)); (fail_if_success (with_reducible show True)); conv => whnf))
          all_goals try simp only [Int.toNat_natCast, Nat.zero_add, rw1_at, len_rw1] at *
          all_goals try with_reducible first | exact trivial | exact (bc2 hd (by assumption)).elim | exact (bc2 (by assumption) hd).elim | exact (bc2 c1 (by assumption)).elim | exact (bc2 (by assumption) c1).elim | exact (bc2 c2 (by assumption)).elim | exact (bc2 (by assumption) c2).elim
          all_goals try (refine VC.mk ?_; first | rfl | omega | exact Or.inr rfl | (simp only [InR]; omega) | exact hp0 _ hk | (simp; done) | (simp only [List.length_append, List.length_take, List.length_drop, len_rw1, List.length_cons, List.length_nil]; omega) | (simp; omega) | (intro hh; simp only [decide_eq_true_eq, decide_eq_false_iff_not] at *; omega) | (intro hh; simp at hh; done) | (intro hh; simp at hh ⊢; omega) | (intro hh; simp at hh; subst hh; rfl) | (intro hh; simp at hh; subst hh; simp; done))
          all_goals (refine Again.mk ⟨k + 1, [0], ⟨by omega, fun j hj => if e : j = k then e ▸ hc else x2 j (by omega)⟩, (by show l.length - (k + 1) < l.length - k; omega), ?_, ?_⟩ <;> (repeat' (first | (with_reducible refine And.intro ?_ ?_) | (with_reducible intro h) | ((fail_if_success (with_reducible refine Leaf.mk ?_)); (fail_if_success (with_reducible refine VC.mk ?_)); (fail_if_success (with_reducible refine Goes.mk ?_)); (fail_if_success (with_reducible refine Again.mk ?_)); (fail_if_success (with_reducible refine Rounds.mk ?_)); (fail_if_success (with_reducible show False)); (fail_if_success (with_reducible show True)); conv => whnf))) <;> first | exact trivial | (refine Leaf.mk ?_; first | rfl | exact ⟨rfl, rfl, rfl⟩ | exact ⟨rfl, rfl⟩ | (simp; done)))
        · have c1 : decide (l.getD k 0 < id) = false := by simpa using hc
          by_cases hq : l.getD k 0 = id
          · have c2 : decide (l.getD k 0 = id) = true := by simpa using hq
            have e := insL_same hk x2 hq
            repeat' (first | (with_reducible refine And.intro ?_ ?_) | (with_reducible intro h) | ((fail_if_success (with_reducible refine Leaf.mk ?_)); (fail_if_success (with_reducible refine VC.mk ?_)); (fail_if_success (with_reducible refine Goes.mk ?_)); (fail_if_success (with_reducible refine Again.mk ?_)); (fail_if_success (with_reducible refine Rounds.mk ?_)); (fail_if_success (with_reducible show False)); (fail_if_success (with_reducible show True)); conv => whnf))
            all_goals try simp only [Int.toNat_natCast, Nat.zero_add, rw1_at, len_rw1] at *
            all_goals try with_reducible first | exact trivial | exact (bc2 hd (by assumption)).elim | exact (bc2 (by assumption) hd).elim | exact (bc2 c1 (by assumption)).elim | exact (bc2 (by assumption) c1).elim | exact (bc2 c2 (by assumption)).elim | exact (bc2 (by assumption) c2).elim
            all_goals try (refine VC.mk ?_; first | rfl | omega | exact Or.inr rfl | (simp only [InR]; omega) | exact hp0 _ hk | (simp; done) | (simp only [List.length_append, List.length_take, List.length_drop, len_rw1, List.length_cons, List.length_nil]; omega) | (simp; omega) | (intro hh; simp only [decide_eq_true_eq, decide_eq_false_iff_not] at *; omega) | (intro hh; simp at hh; done) | (intro hh; simp at hh ⊢; omega) | (intro hh; simp at hh; subst hh; rfl) | (intro hh; simp at hh; subst hh; simp; done))
            all_goals try (refine Leaf.mk ?_; first | rfl | (rw [e]; exact ins_rows _ (by omega)) | (rw [e]; exact List.take_of_length_le (by rw [len_rw1]; exact Nat.le_refl _)) | (simp; done) | (rw [e]; simp [rw1, List.map_take, List.map_drop, List.take_of_length_le]; done))
          · have c2 : decide (l.getD k 0 = id) = false := by simpa using hq
            have e := insL_new x1 x2 (fun _ => by omega)
            repeat' (first | (with_reducible refine And.intro ?_ ?_) | (with_reducible intro h) | ((fail_if_success (with_reducible refine Leaf.mk ?_)); (fail_if_success (with_reducible refine VC.mk ?_)); (fail_if_success (with_reducible refine Goes.mk ?_)); (fail_if_success (with_reducible refine Again.mk ?_)); (fail_if_success (with_reducible refine Rounds.mk ?_)); (fail_if_success (with_reducible show False)); (fail_if_success (with_reducible show True)); conv => whnf))
            all_goals try simp only [Int.toNat_natCast, Nat.zero_add, rw1_at, len_rw1] at *
            all_goals try with_reducible first | exact trivial | exact (bc2 hd (by assumption)).elim | exact (bc2 (by assumption) hd).elim | exact (bc2 c1 (by assumption)).elim | exact (bc2 (by assumption) c1).elim | exact (bc2 c2 (by assumption)).elim | exact (bc2 (by assumption) c2).elim
            all_goals try (refine VC.mk ?_; first | rfl | omega | exact Or.inr rfl | (simp only [InR]; omega) | exact hp0 _ hk | (simp; done) | (simp only [List.length_append, List.length_take, List.length_drop, len_rw1, List.length_cons, List.length_nil]; omega) | (simp; omega) | (intro hh; simp only [decide_eq_true_eq, decide_eq_false_iff_not] at *; omega) | (intro hh; simp at hh; done) | (intro hh; simp at hh ⊢; omega) | (intro hh; simp at hh; subst hh; rfl) | (intro hh; simp at hh; subst hh; simp; done))
            all_goals try (refine Leaf.mk ?_; first | rfl | (rw [e]; exact ins_rows _ (by omega)) | (rw [e]; exact List.take_of_length_le (by rw [len_rw1]; exact Nat.le_refl _)) | (simp; done) | (rw [e]; simp [rw1, List.map_take, List.map_drop, List.take_of_length_le]; done))
      · obtain rfl : k = l.length := by omega
        have hd : decide ((l.length : Int) < (l.length : Int)) = false := by simp
        have c1 := hd
        have c2 := hd
        have hk := hd
        have e := insL_new x1 x2 (fun h => absurd h (Nat.lt_irrefl _))
        repeat' (first | (with_reducible refine And.intro ?_ ?_) | (with_reducible intro h) | ((fail_if_success (with_reducible refine Leaf.mk ?_)); (fail_if_success (with_reducible refine VC.mk ?_)); (fail_if_success (with_reducible refine Goes.mk ?_)); (fail_if_success (with_reducible refine Again.mk ?_)); (fail_if_success (with_reducible refine Rounds.mk ?_)); (fail_if_success (with_reducible show False)); (fail_if_success (with_reducible show True)); conv => whnf))
        all_goals try simp only [Int.toNat_natCast, Nat.zero_add, rw1_at, len_rw1] at *
        all_goals try with_reducible first | exact trivial | exact (bc2 hd (by assumption)).elim | exact (bc2 (by assumption) hd).elim | exact (bc2 c1 (by assumption)).elim | exact (bc2 (by assumption) c1).elim | exact (bc2 c2 (by assumption)).elim | exact (bc2 (by assumption) c2).elim
        all_goals try (refine VC.mk ?_; first | rfl | omega | exact Or.inr rfl | (simp only [InR]; omega) | exact hp0 _ hk | (simp; done) | (simp only [List.length_append, List.length_take, List.length_drop, len_rw1, List.length_cons, List.length_nil]; omega) | (simp; omega) | (intro hh; simp only [decide_eq_true_eq, decide_eq_false_iff_not] at *; omega) | (intro hh; simp at hh; done) | (intro hh; simp at hh ⊢; omega) | (intro hh; simp at hh; subst hh; rfl) | (intro hh; simp at hh; subst hh; simp; done))
        all_goals try (refine Leaf.mk ?_; first | rfl | (rw [e]; exact ins_rows _ (by omega)) | (rw [e]; exact List.take_of_length_le (by rw [len_rw1]; exact Nat.le_refl _)) | (simp; done) | (rw [e]; simp [rw1, List.map_take, List.map_drop, List.take_of_length_le]; done))

end Go.Proofs.Ytconaehajaifhaa
