/- Contracts of caromref20: comparing; of the laws: boxes. -/
import Derived.Test.YtconaehajaifhaaUC
import Derived.Test.YtconaehajaifhaaBA
import Derived.Test.YtconaehajaifhaaEC
namespace Go.Proofs.Ytconaehajaifhaa
open Go.RowKit Fx Vx Bx Ev
set_option linter.unusedVariables false
set_option linter.unusedSimpArgs false
theorem tdiv2 (n : Nat) : Int.tdiv (n : Int) 2 = ((n / 2 : Nat) : Int) := by rw [Int.tdiv_eq_ediv_of_nonneg (by omega)]; omega
def c_ref20_EqualInts : Con := ⟨20, rowRun [.rows 1, .rows 1] (fun l R => match l, R with | [], [xs, ys] => [∀ i, i < xs.length → (xs.getD i []).length = 1, ∀ i, i < ys.length → (ys.getD i []).length = 1, xs.length ≤ 4294967296] | _, _ => [False]) fun l R => match l, R with
  | [], [xs, ys] => .bool (eqI xs ys)
  | _, _ => .any⟩
set_option maxRecDepth 100000 in
set_option maxHeartbeats 2000000 in
theorem con_ref20_EqualInts : c_ref20_EqualInts.Ok Try.prog := by
  refine con_rows (C := []) (pl := [(6, [0, 1, 2, 3, 4, 5, 6, 7, 8], [0, 0, 3, 7, 0, 0, 48, 112, 255])]) Try.func20 rfl (by kernel_rfl) T_ok (Cons.nil _) mixed (by kernel_rfl) _ _ _ (fun l R hl hR hn hpre => ?_)
  match l, hl, R, hR with
  | [], zl, [(true, xs), (true, ys)], zr =>
    clear zl zr
    obtain rfl : xs = [] := hn _ (List.Mem.head _) rfl
    obtain rfl : ys = [] := hn _ (List.Mem.tail _ (List.Mem.head _)) rfl
    have hp0 := hpre _ (List.Mem.head _); try dsimp only at hp0
    have hp1 := hpre _ (List.Mem.tail _ (List.Mem.head _)); try dsimp only at hp1
    have hp2 := hpre _ (List.Mem.tail _ (List.Mem.tail _ (List.Mem.head _))); try dsimp only at hp2
    skip
    repeat' (first | (with_reducible refine And.intro ?_ ?_) | (with_reducible intro h) | ((fail_if_success (with_reducible refine Leaf.mk ?_)); (fail_if_success (with_reducible refine VC.mk ?_)); (fail_if_success (with_reducible refine Goes.mk ?_)); (fail_if_success (with_reducible refine Again.mk ?_)); (fail_if_success (with_reducible refine Rounds.mk ?_)); (fail_if_success (with_reducible show False)); (fail_if_success (with_reducible show True)); conv => whnf))
    all_goals try first | exact trivial | (exfalso; simp at *; done) | (refine VC.mk ?_; first | rfl | (simp only [InR]; omega)) | (refine Leaf.mk ?_; rfl)
    all_goals try refine goes_rounds 1 ?_
    all_goals try (refine rounds_one (pl := [(6, [0, 1, 2, 3, 4, 5, 6, 7, 8], [0, 0, 3, 7, 0, 0, 48, 112, 255])]) T_ok (Cons.nil _) mixed (by kernel_rfl) ?_; repeat' (first | (with_reducible refine And.intro ?_ ?_) | (with_reducible intro h) | ((fail_if_success (with_reducible refine Leaf.mk ?_)); (fail_if_success (with_reducible refine VC.mk ?_)); (fail_if_success (with_reducible refine Goes.mk ?_)); (fail_if_success (with_reducible refine Again.mk ?_)); (fail_if_success (with_reducible refine Rounds.mk ?_)); (fail_if_success (with_reducible show False)); (fail_if_success (with_reducible show True)); conv => whnf)))
    all_goals first | exact trivial | (exfalso; simp at *; done) | (refine VC.mk ?_; first | rfl | (simp only [InR]; omega)) | (refine Leaf.mk ?_; rfl)
  | [], zl, [(true, xs), (false, ys)], zr =>
    clear zl zr
    obtain rfl : xs = [] := hn _ (List.Mem.head _) rfl
    have hp0 := hpre _ (List.Mem.head _); try dsimp only at hp0
    have hp1 := hpre _ (List.Mem.tail _ (List.Mem.head _)); try dsimp only at hp1
    have hp2 := hpre _ (List.Mem.tail _ (List.Mem.tail _ (List.Mem.head _))); try dsimp only at hp2
    skip
    rcases Nat.decEq ([] : List (List Int)).length ys.length with hne | heq
    · have e := eqI_no hne
      have hne2 : ¬ (([] : List (List Int)).length : Int) = (ys.length : Int) := by omega
      repeat' (first | (with_reducible refine And.intro ?_ ?_) | (with_reducible intro h) | ((fail_if_success (with_reducible refine Leaf.mk ?_)); (fail_if_success (with_reducible refine VC.mk ?_)); (fail_if_success (with_reducible refine Goes.mk ?_)); (fail_if_success (with_reducible refine Again.mk ?_)); (fail_if_success (with_reducible refine Rounds.mk ?_)); (fail_if_success (with_reducible show False)); (fail_if_success (with_reducible show True)); conv => whnf))
      all_goals first | exact trivial | (exfalso; simp_all; done) | (refine Leaf.mk ?_; first | rfl | exact e.symm)
    · obtain rfl : ys = [] := List.length_eq_zero_iff.1 heq.symm
      repeat' (first | (with_reducible refine And.intro ?_ ?_) | (with_reducible intro h) | ((fail_if_success (with_reducible refine Leaf.mk ?_)); (fail_if_success (with_reducible refine VC.mk ?_)); (fail_if_success (with_reducible refine Goes.mk ?_)); (fail_if_success (with_reducible refine Again.mk ?_)); (fail_if_success (with_reducible refine Rounds.mk ?_)); (fail_if_success (with_reducible show False)); (fail_if_success (with_reducible show True)); conv => whnf))
      all_goals try first | exact trivial | (exfalso; simp at *; done) | (refine VC.mk ?_; first | rfl | (simp only [InR]; omega)) | (refine Leaf.mk ?_; rfl)
      all_goals try refine goes_rounds 1 ?_
      all_goals try (refine rounds_one (pl := [(6, [0, 1, 2, 3, 4, 5, 6, 7, 8], [0, 0, 3, 7, 0, 0, 48, 112, 255])]) T_ok (Cons.nil _) mixed (by kernel_rfl) ?_; repeat' (first | (with_reducible refine And.intro ?_ ?_) | (with_reducible intro h) | ((fail_if_success (with_reducible refine Leaf.mk ?_)); (fail_if_success (with_reducible refine VC.mk ?_)); (fail_if_success (with_reducible refine Goes.mk ?_)); (fail_if_success (with_reducible refine Again.mk ?_)); (fail_if_success (with_reducible refine Rounds.mk ?_)); (fail_if_success (with_reducible show False)); (fail_if_success (with_reducible show True)); conv => whnf)))
      all_goals first | exact trivial | (exfalso; simp at *; done) | (refine VC.mk ?_; first | rfl | (simp only [InR]; omega)) | (refine Leaf.mk ?_; rfl)
  | [], zl, [(false, xs), (true, ys)], zr =>
    clear zl zr
    obtain rfl : ys = [] := hn _ (List.Mem.tail _ (List.Mem.head _)) rfl
    have hp0 := hpre _ (List.Mem.head _); try dsimp only at hp0
    have hp1 := hpre _ (List.Mem.tail _ (List.Mem.head _)); try dsimp only at hp1
    have hp2 := hpre _ (List.Mem.tail _ (List.Mem.tail _ (List.Mem.head _))); try dsimp only at hp2
    skip
    rcases Nat.decEq xs.length ([] : List (List Int)).length with hne | heq
    · have e := eqI_no hne
      have hne2 : ¬ (xs.length : Int) = (([] : List (List Int)).length : Int) := by omega
      repeat' (first | (with_reducible refine And.intro ?_ ?_) | (with_reducible intro h) | ((fail_if_success (with_reducible refine Leaf.mk ?_)); (fail_if_success (with_reducible refine VC.mk ?_)); (fail_if_success (with_reducible refine Goes.mk ?_)); (fail_if_success (with_reducible refine Again.mk ?_)); (fail_if_success (with_reducible refine Rounds.mk ?_)); (fail_if_success (with_reducible show False)); (fail_if_success (with_reducible show True)); conv => whnf))
      all_goals first | exact trivial | (exfalso; simp_all; done) | (refine Leaf.mk ?_; first | rfl | exact e.symm)
    · obtain rfl : xs = [] := List.length_eq_zero_iff.1 heq
      repeat' (first | (with_reducible refine And.intro ?_ ?_) | (with_reducible intro h) | ((fail_if_success (with_reducible refine Leaf.mk ?_)); (fail_if_success (with_reducible refine VC.mk ?_)); (fail_if_success (with_reducible refine Goes.mk ?_)); (fail_if_success (with_reducible refine Again.mk ?_)); (fail_if_success (with_reducible refine Rounds.mk ?_)); (fail_if_success (with_reducible show False)); (fail_if_success (with_reducible show True)); conv => whnf))
      all_goals try first | exact trivial | (exfalso; simp at *; done) | (refine VC.mk ?_; first | rfl | (simp only [InR]; omega)) | (refine Leaf.mk ?_; rfl)
      all_goals try refine goes_rounds 1 ?_
      all_goals try (refine rounds_one (pl := [(6, [0, 1, 2, 3, 4, 5, 6, 7, 8], [0, 0, 3, 7, 0, 0, 48, 112, 255])]) T_ok (Cons.nil _) mixed (by kernel_rfl) ?_; repeat' (first | (with_reducible refine And.intro ?_ ?_) | (with_reducible intro h) | ((fail_if_success (with_reducible refine Leaf.mk ?_)); (fail_if_success (with_reducible refine VC.mk ?_)); (fail_if_success (with_reducible refine Goes.mk ?_)); (fail_if_success (with_reducible refine Again.mk ?_)); (fail_if_success (with_reducible refine Rounds.mk ?_)); (fail_if_success (with_reducible show False)); (fail_if_success (with_reducible show True)); conv => whnf)))
      all_goals first | exact trivial | (exfalso; simp at *; done) | (refine VC.mk ?_; first | rfl | (simp only [InR]; omega)) | (refine Leaf.mk ?_; rfl)
  | [], zl, [(false, xs), (false, ys)], zr =>
    clear zl zr
    have hp0 := hpre _ (List.Mem.head _); try dsimp only at hp0
    have hp1 := hpre _ (List.Mem.tail _ (List.Mem.head _)); try dsimp only at hp1
    have hp2 := hpre _ (List.Mem.tail _ (List.Mem.tail _ (List.Mem.head _))); try dsimp only at hp2
    skip
    rcases Nat.decEq xs.length ys.length with hne | heq
    · have e := eqI_no hne
      have hne2 : ¬ (xs.length : Int) = (ys.length : Int) := by omega
      repeat' (first | (with_reducible refine And.intro ?_ ?_) | (with_reducible intro h) | ((fail_if_success (with_reducible refine Leaf.mk ?_)); (fail_if_success (with_reducible refine VC.mk ?_)); (fail_if_success (with_reducible refine Goes.mk ?_)); (fail_if_success (with_reducible refine Again.mk ?_)); (fail_if_success (with_reducible refine Rounds.mk ?_)); (fail_if_success (with_reducible show False)); (fail_if_success (with_reducible show True)); conv => whnf))
      all_goals first | exact trivial | (exfalso; simp_all; done) | (refine Leaf.mk ?_; first | rfl | exact e.symm)
    · have heq2 : (xs.length : Int) = (ys.length : Int) := by omega
      repeat' (first | (with_reducible refine And.intro ?_ ?_) | (with_reducible intro h) | ((fail_if_success (with_reducible refine Leaf.mk ?_)); (fail_if_success (with_reducible refine VC.mk ?_)); (fail_if_success (with_reducible refine Goes.mk ?_)); (fail_if_success (with_reducible refine Again.mk ?_)); (fail_if_success (with_reducible refine Rounds.mk ?_)); (fail_if_success (with_reducible show False)); (fail_if_success (with_reducible show True)); conv => whnf))
      all_goals try first | exact trivial | (exfalso; simp_all; done)
      refine goes_inv (X := Nat) (pl := [(6, [0, 1, 2, 3, 4, 5, 6, 7, 8], [0, 0, 3, 7, 0, 0, 48, 112, 255])]) T_ok (Cons.nil _) mixed (by kernel_rfl)
        (fun k => (.sl 0 1 0 xs.length :: .sl 1 1 0 ys.length :: .any :: .any :: .any :: .int .i64 (k : Int) :: .any :: .any :: .any :: .any :: .any :: .any :: .any :: .any :: .any :: .any :: .any :: .any :: .any :: .any :: .any :: .any :: .any :: .any :: .any :: .any :: .any :: .any :: .any :: .any :: .any :: .any :: [], [.arr false true 1 xs, .arr false true 1 ys]))
        (fun k => k ≤ xs.length ∧ eqK xs ys k = true) (fun k => xs.length - k) 0 [0, 1] ⟨Nat.zero_le _, rfl⟩ ?_ ?_ ?_
      · repeat' (first | (with_reducible refine And.intro ?_ ?_) | (with_reducible intro h) | ((fail_if_success (with_reducible refine Leaf.mk ?_)); (fail_if_success (with_reducible refine VC.mk ?_)); (fail_if_success (with_reducible refine Goes.mk ?_)); (fail_if_success (with_reducible refine Again.mk ?_)); (fail_if_success (with_reducible refine Rounds.mk ?_)); (fail_if_success (with_reducible show False)); (fail_if_success (with_reducible show True)); conv => whnf))
        all_goals first | exact trivial | (refine Leaf.mk ?_; first | rfl | exact ⟨rfl, rfl⟩ | (simp; done))
      · repeat' (first | (with_reducible refine And.intro ?_ ?_) | (with_reducible intro h) | ((fail_if_success (with_reducible refine Leaf.mk ?_)); (fail_if_success (with_reducible refine VC.mk ?_)); (fail_if_success (with_reducible refine Goes.mk ?_)); (fail_if_success (with_reducible refine Again.mk ?_)); (fail_if_success (with_reducible refine Rounds.mk ?_)); (fail_if_success (with_reducible show False)); (fail_if_success (with_reducible show True)); conv => whnf))
        all_goals first | exact trivial | (refine Leaf.mk ?_; first | rfl | exact ⟨rfl, rfl⟩ | (simp; done))
      · intro k hx
        obtain ⟨x1, x2⟩ := hx
        try dsimp only at x1 x2
        rcases Nat.lt_or_ge k xs.length with hk | hk
        · have hd : decide ((k : Int) < (xs.length : Int)) = true := by simp; omega
          have hd2 : decide ((k : Int) < (ys.length : Int)) = true := by simp; omega
          by_cases hc : at2 xs k 0 = at2 ys k 0
          · have e := eqK_step x2 hc
            repeat' (first | (with_reducible refine And.intro ?_ ?_) | (with_reducible intro h) | ((fail_if_success (with_reducible refine Leaf.mk ?_)); (fail_if_success (with_reducible refine VC.mk ?_)); (fail_if_success (with_reducible refine Goes.mk ?_)); (fail_if_success (with_reducible refine Again.mk ?_)); (fail_if_success (with_reducible refine Rounds.mk ?_)); (fail_if_success (with_reducible show False)); (fail_if_success (with_reducible show True)); conv => whnf))
            all_goals try first | exact trivial | exact (bc2 hd (by assumption)).elim | exact (bc2 hd2 (by assumption)).elim | (refine VC.mk ?_; first | rfl | omega | (simp only [InR]; omega) | exact hp0 _ hk | exact hp1 _ (by omega)) | (exfalso; simp_all; done)
            all_goals (refine Again.mk ⟨k + 1, [0, 1], ⟨by omega, e⟩, (by show xs.length - (k + 1) < xs.length - k; omega), ?_, ?_⟩ <;> (repeat' (first | (with_reducible refine And.intro ?_ ?_) | (with_reducible intro h) | ((fail_if_success (with_reducible refine Leaf.mk ?_)); (fail_if_success (with_reducible refine VC.mk ?_)); (fail_if_success (with_reducible refine Goes.mk ?_)); (fail_if_success (with_reducible refine Again.mk ?_)); (fail_if_success (with_reducible refine Rounds.mk ?_)); (fail_if_success (with_reducible show False)); (fail_if_success (with_reducible show True)); conv => whnf))) <;> first | exact trivial | (refine Leaf.mk ?_; first | rfl | exact ⟨rfl, rfl⟩ | (simp; done)))
          · have e := eqI_at hk hc
            repeat' (first | (with_reducible refine And.intro ?_ ?_) | (with_reducible intro h) | ((fail_if_success (with_reducible refine Leaf.mk ?_)); (fail_if_success (with_reducible refine VC.mk ?_)); (fail_if_success (with_reducible refine Goes.mk ?_)); (fail_if_success (with_reducible refine Again.mk ?_)); (fail_if_success (with_reducible refine Rounds.mk ?_)); (fail_if_success (with_reducible show False)); (fail_if_success (with_reducible show True)); conv => whnf))
            all_goals try first | exact trivial | exact (bc2 hd (by assumption)).elim | exact (bc2 hd2 (by assumption)).elim | (refine VC.mk ?_; first | rfl | omega | (simp only [InR]; omega) | exact hp0 _ hk | exact hp1 _ (by omega)) | (refine Leaf.mk ?_; first | rfl | exact e.symm) | (exfalso; simp_all; done)
        · obtain rfl : k = xs.length := by omega
          have e := eqI_yes heq x2
          have hd : decide ((xs.length : Int) < (xs.length : Int)) = false := by simp
          repeat' (first | (with_reducible refine And.intro ?_ ?_) | (with_reducible intro h) | ((fail_if_success (with_reducible refine Leaf.mk ?_)); (fail_if_success (with_reducible refine VC.mk ?_)); (fail_if_success (with_reducible refine Goes.mk ?_)); (fail_if_success (with_reducible refine Again.mk ?_)); (fail_if_success (with_reducible refine Rounds.mk ?_)); (fail_if_success (with_reducible show False)); (fail_if_success (with_reducible show True)); conv => whnf))
          all_goals first | exact trivial | exact (bc2 (by assumption) hd).elim | (refine VC.mk ?_; first | rfl | omega) | (refine Leaf.mk ?_; first | rfl | exact e.symm) | (exfalso; simp_all; done)
def c_ref20_EqualPairs : Con := ⟨23, rowRun [.rows 2, .rows 2] (fun l R => match l, R with | [], [xs, ys] => [∀ i, i < xs.length → (xs.getD i []).length = 2, ∀ i, i < ys.length → (ys.getD i []).length = 2, xs.length ≤ 4294967296] | _, _ => [False]) fun l R => match l, R with
  | [], [xs, ys] => .bool (eqP xs ys)
  | _, _ => .any⟩
set_option maxRecDepth 100000 in
set_option maxHeartbeats 2000000 in
theorem con_ref20_EqualPairs : c_ref20_EqualPairs.Ok Try.prog := by
  refine con_rows (C := []) (pl := [(6, [0, 1, 2, 3, 4, 5, 6, 7, 8], [0, 0, 3, 7, 0, 0, 48, 112, 255])]) Try.func23 rfl (by kernel_rfl) T_ok (Cons.nil _) mixed (by kernel_rfl) _ _ _ (fun l R hl hR hn hpre => ?_)
  match l, hl, R, hR with
  | [], zl, [(true, xs), (true, ys)], zr =>
    clear zl zr
    obtain rfl : xs = [] := hn _ (List.Mem.head _) rfl
    obtain rfl : ys = [] := hn _ (List.Mem.tail _ (List.Mem.head _)) rfl
    have hp0 := hpre _ (List.Mem.head _); try dsimp only at hp0
    have hp1 := hpre _ (List.Mem.tail _ (List.Mem.head _)); try dsimp only at hp1
    have hp2 := hpre _ (List.Mem.tail _ (List.Mem.tail _ (List.Mem.head _))); try dsimp only at hp2
    skip
    repeat' (first | (with_reducible refine And.intro ?_ ?_) | (with_reducible intro h) | ((fail_if_success (with_reducible refine Leaf.mk ?_)); (fail_if_success (with_reducible refine VC.mk ?_)); (fail_if_success (with_reducible refine Goes.mk ?_)); (fail_if_success (with_reducible refine Again.mk ?_)); (fail_if_success (with_reducible refine Rounds.mk ?_)); (fail_if_success (with_reducible show False)); (fail_if_success (with_reducible show True)); conv => whnf))
    all_goals try first | exact trivial | (exfalso; simp at *; done) | (refine VC.mk ?_; first | rfl | (simp only [InR]; omega)) | (refine Leaf.mk ?_; rfl)
    all_goals try refine goes_rounds 1 ?_
    all_goals try (refine rounds_one (pl := [(6, [0, 1, 2, 3, 4, 5, 6, 7, 8], [0, 0, 3, 7, 0, 0, 48, 112, 255])]) T_ok (Cons.nil _) mixed (by kernel_rfl) ?_; repeat' (first | (with_reducible refine And.intro ?_ ?_) | (with_reducible intro h) | ((fail_if_success (with_reducible refine Leaf.mk ?_)); (fail_if_success (with_reducible refine VC.mk ?_)); (fail_if_success (with_reducible refine Goes.mk ?_)); (fail_if_success (with_reducible refine Again.mk ?_)); (fail_if_success (with_reducible refine Rounds.mk ?_)); (fail_if_success (with_reducible show False)); (fail_if_success (with_reducible show True)); conv => whnf)))
    all_goals first | exact trivial | (exfalso; simp at *; done) | (refine VC.mk ?_; first | rfl | (simp only [InR]; omega)) | (refine Leaf.mk ?_; rfl)
  | [], zl, [(true, xs), (false, ys)], zr =>
    clear zl zr
    obtain rfl : xs = [] := hn _ (List.Mem.head _) rfl
    have hp0 := hpre _ (List.Mem.head _); try dsimp only at hp0
    have hp1 := hpre _ (List.Mem.tail _ (List.Mem.head _)); try dsimp only at hp1
    have hp2 := hpre _ (List.Mem.tail _ (List.Mem.tail _ (List.Mem.head _))); try dsimp only at hp2
    skip
    rcases Nat.decEq ([] : List (List Int)).length ys.length with hne | heq
    · have e := eqP_no hne
      have hne2 : ¬ (([] : List (List Int)).length : Int) = (ys.length : Int) := by omega
      repeat' (first | (with_reducible refine And.intro ?_ ?_) | (with_reducible intro h) | ((fail_if_success (with_reducible refine Leaf.mk ?_)); (fail_if_success (with_reducible refine VC.mk ?_)); (fail_if_success (with_reducible refine Goes.mk ?_)); (fail_if_success (with_reducible refine Again.mk ?_)); (fail_if_success (with_reducible refine Rounds.mk ?_)); (fail_if_success (with_reducible show False)); (fail_if_success (with_reducible show True)); conv => whnf))
      all_goals first | exact trivial | (exfalso; simp_all; done) | (refine Leaf.mk ?_; first | rfl | exact e.symm)
    · obtain rfl : ys = [] := List.length_eq_zero_iff.1 heq.symm
      repeat' (first | (with_reducible refine And.intro ?_ ?_) | (with_reducible intro h) | ((fail_if_success (with_reducible refine Leaf.mk ?_)); (fail_if_success (with_reducible refine VC.mk ?_)); (fail_if_success (with_reducible refine Goes.mk ?_)); (fail_if_success (with_reducible refine Again.mk ?_)); (fail_if_success (with_reducible refine Rounds.mk ?_)); (fail_if_success (with_reducible show False)); (fail_if_success (with_reducible show True)); conv => whnf))
      all_goals try first | exact trivial | (exfalso; simp at *; done) | (refine VC.mk ?_; first | rfl | (simp only [InR]; omega)) | (refine Leaf.mk ?_; rfl)
      all_goals try refine goes_rounds 1 ?_
      all_goals try (refine rounds_one (pl := [(6, [0, 1, 2, 3, 4, 5, 6, 7, 8], [0, 0, 3, 7, 0, 0, 48, 112, 255])]) T_ok (Cons.nil _) mixed (by kernel_rfl) ?_; repeat' (first | (with_reducible refine And.intro ?_ ?_) | (with_reducible intro h) | ((fail_if_success (with_reducible refine Leaf.mk ?_)); (fail_if_success (with_reducible refine VC.mk ?_)); (fail_if_success (with_reducible refine Goes.mk ?_)); (fail_if_success (with_reducible refine Again.mk ?_)); (fail_if_success (with_reducible refine Rounds.mk ?_)); (fail_if_success (with_reducible show False)); (fail_if_success (with_reducible show True)); conv => whnf)))
      all_goals first | exact trivial | (exfalso; simp at *; done) | (refine VC.mk ?_; first | rfl | (simp only [InR]; omega)) | (refine Leaf.mk ?_; rfl)
  | [], zl, [(false, xs), (true, ys)], zr =>
    clear zl zr
    obtain rfl : ys = [] := hn _ (List.Mem.tail _ (List.Mem.head _)) rfl
    have hp0 := hpre _ (List.Mem.head _); try dsimp only at hp0
    have hp1 := hpre _ (List.Mem.tail _ (List.Mem.head _)); try dsimp only at hp1
    have hp2 := hpre _ (List.Mem.tail _ (List.Mem.tail _ (List.Mem.head _))); try dsimp only at hp2
    skip
    rcases Nat.decEq xs.length ([] : List (List Int)).length with hne | heq
    · have e := eqP_no hne
      have hne2 : ¬ (xs.length : Int) = (([] : List (List Int)).length : Int) := by omega
      repeat' (first | (with_reducible refine And.intro ?_ ?_) | (with_reducible intro h) | ((fail_if_success (with_reducible refine Leaf.mk ?_)); (fail_if_success (with_reducible refine VC.mk ?_)); (fail_if_success (with_reducible refine Goes.mk ?_)); (fail_if_success (with_reducible refine Again.mk ?_)); (fail_if_success (with_reducible refine Rounds.mk ?_)); (fail_if_success (with_reducible show False)); (fail_if_success (with_reducible show True)); conv => whnf))
      all_goals first | exact trivial | (exfalso; simp_all; done) | (refine Leaf.mk ?_; first | rfl | exact e.symm)
    · obtain rfl : xs = [] := List.length_eq_zero_iff.1 heq
      repeat' (first | (with_reducible refine And.intro ?_ ?_) | (with_reducible intro h) | ((fail_if_success (with_reducible refine Leaf.mk ?_)); (fail_if_success (with_reducible refine VC.mk ?_)); (fail_if_success (with_reducible refine Goes.mk ?_)); (fail_if_success (with_reducible refine Again.mk ?_)); (fail_if_success (with_reducible refine Rounds.mk ?_)); (fail_if_success (with_reducible show False)); (fail_if_success (with_reducible show True)); conv => whnf))
      all_goals try first | exact trivial | (exfalso; simp at *; done) | (refine VC.mk ?_; first | rfl | (simp only [InR]; omega)) | (refine Leaf.mk ?_; rfl)
      all_goals try refine goes_rounds 1 ?_
      all_goals try (refine rounds_one (pl := [(6, [0, 1, 2, 3, 4, 5, 6, 7, 8], [0, 0, 3, 7, 0, 0, 48, 112, 255])]) T_ok (Cons.nil _) mixed (by kernel_rfl) ?_; repeat' (first | (with_reducible refine And.intro ?_ ?_) | (with_reducible intro h) | ((fail_if_success (with_reducible refine Leaf.mk ?_)); (fail_if_success (with_reducible refine VC.mk ?_)); (fail_if_success (with_reducible refine Goes.mk ?_)); (fail_if_success (with_reducible refine Again.mk ?_)); (fail_if_success (with_reducible refine Rounds.mk ?_)); (fail_if_success (with_reducible show False)); (fail_if_success (with_reducible show True)); conv => whnf)))
      all_goals first | exact trivial | (exfalso; simp at *; done) | (refine VC.mk ?_; first | rfl | (simp only [InR]; omega)) | (refine Leaf.mk ?_; rfl)
  | [], zl, [(false, xs), (false, ys)], zr =>
    clear zl zr
    have hp0 := hpre _ (List.Mem.head _); try dsimp only at hp0
    have hp1 := hpre _ (List.Mem.tail _ (List.Mem.head _)); try dsimp only at hp1
    have hp2 := hpre _ (List.Mem.tail _ (List.Mem.tail _ (List.Mem.head _))); try dsimp only at hp2
    skip
    rcases Nat.decEq xs.length ys.length with hne | heq
    · have e := eqP_no hne
      have hne2 : ¬ (xs.length : Int) = (ys.length : Int) := by omega
      repeat' (first | (with_reducible refine And.intro ?_ ?_) | (with_reducible intro h) | ((fail_if_success (with_reducible refine Leaf.mk ?_)); (fail_if_success (with_reducible refine VC.mk ?_)); (fail_if_success (with_reducible refine Goes.mk ?_)); (fail_if_success (with_reducible refine Again.mk ?_)); (fail_if_success (with_reducible refine Rounds.mk ?_)); (fail_if_success (with_reducible show False)); (fail_if_success (with_reducible show True)); conv => whnf))
      all_goals first | exact trivial | (exfalso; simp_all; done) | (refine Leaf.mk ?_; first | rfl | exact e.symm)
    · have heq2 : (xs.length : Int) = (ys.length : Int) := by omega
      repeat' (first | (with_reducible refine And.intro ?_ ?_) | (with_reducible intro h) | ((fail_if_success (with_reducible refine Leaf.mk ?_)); (fail_if_success (with_reducible refine VC.mk ?_)); (fail_if_success (with_reducible refine Goes.mk ?_)); (fail_if_success (with_reducible refine Again.mk ?_)); (fail_if_success (with_reducible refine Rounds.mk ?_)); (fail_if_success (with_reducible show False)); (fail_if_success (with_reducible show True)); conv => whnf))
      all_goals try first | exact trivial | (exfalso; simp_all; done)
      refine goes_inv (X := Nat) (pl := [(6, [0, 1, 2, 3, 4, 5, 6, 7, 8], [0, 0, 3, 7, 0, 0, 48, 112, 255])]) T_ok (Cons.nil _) mixed (by kernel_rfl)
        (fun k => (.sl 0 2 0 xs.length :: .sl 1 2 0 ys.length :: .any :: .any :: .any :: .int .i64 (k : Int) :: .any :: .any :: .any :: .any :: .any :: .any :: .any :: .any :: .any :: .any :: .any :: .any :: .any :: .any :: .any :: .any :: .any :: .any :: .any :: .any :: .any :: .any :: .any :: .any :: .any :: .any :: [], [.arr false true 2 xs, .arr false true 2 ys]))
        (fun k => k ≤ xs.length ∧ eqK2 xs ys k = true) (fun k => xs.length - k) 0 [0, 1] ⟨Nat.zero_le _, rfl⟩ ?_ ?_ ?_
      · repeat' (first | (with_reducible refine And.intro ?_ ?_) | (with_reducible intro h) | ((fail_if_success (with_reducible refine Leaf.mk ?_)); (fail_if_success (with_reducible refine VC.mk ?_)); (fail_if_success (with_reducible refine Goes.mk ?_)); (fail_if_success (with_reducible refine Again.mk ?_)); (fail_if_success (with_reducible refine Rounds.mk ?_)); (fail_if_success (with_reducible show False)); (fail_if_success (with_reducible show True)); conv => whnf))
        all_goals first | exact trivial | (refine Leaf.mk ?_; first | rfl | exact ⟨rfl, rfl⟩ | (simp; done))
      · repeat' (first | (with_reducible refine And.intro ?_ ?_) | (with_reducible intro h) | ((fail_if_success (with_reducible refine Leaf.mk ?_)); (fail_if_success (with_reducible refine VC.mk ?_)); (fail_if_success (with_reducible refine Goes.mk ?_)); (fail_if_success (with_reducible refine Again.mk ?_)); (fail_if_success (with_reducible refine Rounds.mk ?_)); (fail_if_success (with_reducible show False)); (fail_if_success (with_reducible show True)); conv => whnf))
        all_goals first | exact trivial | (refine Leaf.mk ?_; first | rfl | exact ⟨rfl, rfl⟩ | (simp; done))
      · intro k hx
        obtain ⟨x1, x2⟩ := hx
        try dsimp only at x1 x2
        rcases Nat.lt_or_ge k xs.length with hk | hk
        · have hd : decide ((k : Int) < (xs.length : Int)) = true := by simp; omega
          have hd2 : decide ((k : Int) < (ys.length : Int)) = true := by simp; omega
          by_cases hc : at2 xs k 0 = at2 ys k 0 ∧ at2 xs k 1 = at2 ys k 1
          · have e := eqK2_step x2 hc
            repeat' (first | (with_reducible refine And.intro ?_ ?_) | (with_reducible intro h) | ((fail_if_success (with_reducible refine Leaf.mk ?_)); (fail_if_success (with_reducible refine VC.mk ?_)); (fail_if_success (with_reducible refine Goes.mk ?_)); (fail_if_success (with_reducible refine Again.mk ?_)); (fail_if_success (with_reducible refine Rounds.mk ?_)); (fail_if_success (with_reducible show False)); (fail_if_success (with_reducible show True)); conv => whnf))
            all_goals try first | exact trivial | exact (bc2 hd (by assumption)).elim | exact (bc2 hd2 (by assumption)).elim | (refine VC.mk ?_; first | rfl | omega | (simp only [InR]; omega) | exact hp0 _ hk | exact hp1 _ (by omega)) | (exfalso; simp_all; done)
            all_goals (refine Again.mk ⟨k + 1, [0, 1], ⟨by omega, e⟩, (by show xs.length - (k + 1) < xs.length - k; omega), ?_, ?_⟩ <;> (repeat' (first | (with_reducible refine And.intro ?_ ?_) | (with_reducible intro h) | ((fail_if_success (with_reducible refine Leaf.mk ?_)); (fail_if_success (with_reducible refine VC.mk ?_)); (fail_if_success (with_reducible refine Goes.mk ?_)); (fail_if_success (with_reducible refine Again.mk ?_)); (fail_if_success (with_reducible refine Rounds.mk ?_)); (fail_if_success (with_reducible show False)); (fail_if_success (with_reducible show True)); conv => whnf))) <;> first | exact trivial | (refine Leaf.mk ?_; first | rfl | exact ⟨rfl, rfl⟩ | (simp; done)))
          · have e := eqP_at hk hc
            repeat' (first | (with_reducible refine And.intro ?_ ?_) | (with_reducible intro h) | ((fail_if_success (with_reducible refine Leaf.mk ?_)); (fail_if_success (with_reducible refine VC.mk ?_)); (fail_if_success (with_reducible refine Goes.mk ?_)); (fail_if_success (with_reducible refine Again.mk ?_)); (fail_if_success (with_reducible refine Rounds.mk ?_)); (fail_if_success (with_reducible show False)); (fail_if_success (with_reducible show True)); conv => whnf))
            all_goals try first | exact trivial | exact (bc2 hd (by assumption)).elim | exact (bc2 hd2 (by assumption)).elim | (refine VC.mk ?_; first | rfl | omega | (simp only [InR]; omega) | exact hp0 _ hk | exact hp1 _ (by omega)) | (refine Leaf.mk ?_; first | rfl | exact e.symm) | (exfalso; simp_all; done)
        · obtain rfl : k = xs.length := by omega
          have e := eqP_yes heq x2
          have hd : decide ((xs.length : Int) < (xs.length : Int)) = false := by simp
          repeat' (first | (with_reducible refine And.intro ?_ ?_) | (with_reducible intro h) | ((fail_if_success (with_reducible refine Leaf.mk ?_)); (fail_if_success (with_reducible refine VC.mk ?_)); (fail_if_success (with_reducible refine Goes.mk ?_)); (fail_if_success (with_reducible refine Again.mk ?_)); (fail_if_success (with_reducible refine Rounds.mk ?_)); (fail_if_success (with_reducible show False)); (fail_if_success (with_reducible show True)); conv => whnf))
          all_goals first | exact trivial | exact (bc2 (by assumption) hd).elim | (refine VC.mk ?_; first | rfl | omega) | (refine Leaf.mk ?_; first | rfl | exact e.symm) | (exfalso; simp_all; done)
def c_law20_unitBox : Con := ⟨12, pureRun [0] (fun | [x] => [-1000000000000 ≤ x ∧ x ≤ 1000000000000] | _ => [False]) fun | [x] => .agg [.int .i64 (x), .int .i64 (0), .int .i64 (x + 1), .int .i64 (1)] | _ => .any⟩
set_option maxRecDepth 100000 in
set_option maxHeartbeats 1000000 in
theorem con_law20_unitBox : c_law20_unitBox.Ok Try.prog := by
  refine con_pure (C := []) (pl := []) Try.func12 rfl (by kernel_rfl) T_ok (Cons.nil _) mixed (by kernel_rfl) _ _ _ (fun l hl hpre => ?_)
  match l, hl with
  | [x], _ =>
    repeat' (first | (with_reducible refine And.intro ?_ ?_) | (with_reducible intro h) | ((fail_if_success (with_reducible refine Leaf.mk ?_)); (fail_if_success (with_reducible refine VC.mk ?_)); (fail_if_success (with_reducible refine Goes.mk ?_)); (fail_if_success (with_reducible refine Again.mk ?_)); (fail_if_success (with_reducible refine Rounds.mk ?_)); (fail_if_success (with_reducible show False)); (fail_if_success (with_reducible show True)); conv => whnf))
    all_goals first | exact trivial | exact Leaf.mk rfl | (refine VC.mk ?_; simp only [InR]; have := hpre _ (List.Mem.head _); omega)
def c_ref20_MaxHeight : Con := ⟨16, pureRun [0] (fun | [n] => [0 ≤ n ∧ n ≤ 1000000] | _ => [False]) fun | [n] => .int .i64 (2 * (digN n.toNat : Int) + 1) | _ => .any⟩
set_option maxRecDepth 100000 in
set_option maxHeartbeats 1000000 in
theorem con_ref20_MaxHeight : c_ref20_MaxHeight.Ok Try.prog := by
  refine con_pure (C := []) (pl := []) Try.func16 rfl (by kernel_rfl) T_ok (Cons.nil _) mixed (by kernel_rfl) _ _ _ (fun l hl hpre => ?_)
  match l, hl with
  | [n], _ =>
    repeat' (first | (with_reducible refine And.intro ?_ ?_) | (with_reducible intro h) | ((fail_if_success (with_reducible refine Leaf.mk ?_)); (fail_if_success (with_reducible refine VC.mk ?_)); (fail_if_success (with_reducible refine Goes.mk ?_)); (fail_if_success (with_reducible refine Again.mk ?_)); (fail_if_success (with_reducible refine Rounds.mk ?_)); (fail_if_success (with_reducible show False)); (fail_if_success (with_reducible show True)); conv => whnf))
    have hp0 := hpre _ (List.Mem.head _); try dsimp only at hp0
    clear hpre
    obtain ⟨m, rfl⟩ : ∃ m : Nat, n = (m : Int) := ⟨n.toNat, by omega⟩
    refine goes_inv (X := (Nat × Nat)) (pl := []) T_ok (Cons.nil _) mixed (by kernel_rfl)
      (fun x => (.int .i64 (x.2 : Int) :: .any :: .any :: .int .i64 (x.1 : Int) :: .any :: .any :: .any :: .any :: .any :: .any :: .any :: .any :: .any :: [], []))
      (fun x => x.1 + digN x.2 = digN m ∧ x.2 ≤ m) (fun x => x.2) (0, m) [] ⟨by simp, Nat.le_refl _⟩ ?_ ?_ ?_
    · repeat' (first | (with_reducible refine And.intro ?_ ?_) | (with_reducible intro h) | ((fail_if_success (with_reducible refine Leaf.mk ?_)); (fail_if_success (with_reducible refine VC.mk ?_)); (fail_if_success (with_reducible refine Goes.mk ?_)); (fail_if_success (with_reducible refine Again.mk ?_)); (fail_if_success (with_reducible refine Rounds.mk ?_)); (fail_if_success (with_reducible show False)); (fail_if_success (with_reducible show True)); conv => whnf))
      all_goals first | exact trivial | (refine Leaf.mk ?_; first | rfl | exact ⟨rfl, rfl⟩ | (simp; done))
    · repeat' (first | (with_reducible refine And.intro ?_ ?_) | (with_reducible intro h) | ((fail_if_success (with_reducible refine Leaf.mk ?_)); (fail_if_success (with_reducible refine VC.mk ?_)); (fail_if_success (with_reducible refine Goes.mk ?_)); (fail_if_success (with_reducible refine Again.mk ?_)); (fail_if_success (with_reducible refine Rounds.mk ?_)); (fail_if_success (with_reducible show False)); (fail_if_success (with_reducible show True)); conv => whnf))
      all_goals first | exact trivial | (refine Leaf.mk ?_; first | rfl | exact ⟨rfl, rfl⟩ | (simp; done))
    · intro x hx
      rcases x with ⟨d, q⟩
      dsimp only at hx ⊢
      obtain ⟨x1, x2⟩ := hx
      have hl : digN m ≤ m := digN_le m
      by_cases hq : q = 0
      · subst hq
        have e0 : digN 0 = 0 := rfl
        have e : 2 * ((d : Nat) : Int) + 1 = 2 * (digN (m : Int).toNat : Int) + 1 := by simp only [Int.toNat_natCast]; omega
        have hd : decide ((0 : Int) < ((0 : Nat) : Int)) = false := rfl
        repeat' (first | (with_reducible refine And.intro ?_ ?_) | (with_reducible intro h) | ((fail_if_success (with_reducible refine Leaf.mk ?_)); (fail_if_success (with_reducible refine VC.mk ?_)); (fail_if_success (with_reducible refine Goes.mk ?_)); (fail_if_success (with_reducible refine Again.mk ?_)); (fail_if_success (with_reducible refine Rounds.mk ?_)); (fail_if_success (with_reducible show False)); (fail_if_success (with_reducible show True)); conv => whnf))
        all_goals first | exact trivial | exact (bc2 (by assumption) hd).elim | (refine VC.mk ?_; first | rfl | (simp only [InR]; omega)) | (refine Leaf.mk ?_; first | rfl | exact e)
      · have hh := digN_half hq
        have hlt : q / 2 < q := by omega
        have hd : decide ((0 : Int) < (q : Int)) = true := by simp; omega
        repeat' (first | (with_reducible refine And.intro ?_ ?_) | (with_reducible intro h) | ((fail_if_success (with_reducible refine Leaf.mk ?_)); (fail_if_success (with_reducible refine VC.mk ?_)); (fail_if_success (with_reducible refine Goes.mk ?_)); (fail_if_success (with_reducible refine Again.mk ?_)); (fail_if_success (with_reducible refine Rounds.mk ?_)); (fail_if_success (with_reducible show False)); (fail_if_success (with_reducible show True)); conv => whnf))
        all_goals try first | exact trivial | exact (bc2 hd (by assumption)).elim | (refine VC.mk ?_; first | rfl | decide | (simp only [InR]; omega) | (rw [tdiv2]; simp only [InR]; omega))
        all_goals (refine Again.mk ⟨(d + 1, q / 2), [], ⟨by dsimp only; omega, by dsimp only; omega⟩, hlt, ?_, ?_⟩ <;> (repeat' (first | (with_reducible refine And.intro ?_ ?_) | (with_reducible intro h) | ((fail_if_success (with_reducible refine Leaf.mk ?_)); (fail_if_success (with_reducible refine VC.mk ?_)); (fail_if_success (with_reducible refine Goes.mk ?_)); (fail_if_success (with_reducible refine Again.mk ?_)); (fail_if_success (with_reducible refine Rounds.mk ?_)); (fail_if_success (with_reducible show False)); (fail_if_success (with_reducible show True)); conv => whnf))) <;> first | exact trivial | (refine Leaf.mk ?_; first | rfl | exact tdiv2 q | exact (tdiv2 q).symm | exact ⟨rfl, rfl⟩ | (simp; done)))

end Go.Proofs.Ytconaehajaifhaa
