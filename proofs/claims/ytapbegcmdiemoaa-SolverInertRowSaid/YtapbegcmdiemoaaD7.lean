/- Contracts of the comparisons, of isFriction, atBound and MaxResidual. -/
import Derived.Test.YtapbegcmdiemoaaD6
namespace Go.Proofs.Ytapbegcmdiemoaa
open Go.RowKit Fx Vx Ev
set_option linter.unusedVariables false
set_option linter.unusedSimpArgs false


def isFrB (xs : List (List Int)) (i : Int) : Bool := isFr xs i
/-- The residual of row k, and the greatest so far. -/
def resD (xs ys : List (List Int)) (k : Nat) : Int := add (rvO xs ys k) (at2 xs k 7)
def atB' (xs ys : List (List Int)) (k : Nat) : Bool := (decide (0 < resD xs ys k) && decide (at2 xs k 11 = at2 xs k 8)) || (decide (resD xs ys k < 0) && decide (at2 xs k 11 = at2 xs k 9))
def mrN (xs ys : List (List Int)) : Nat → Int
  | 0 => 0
  | k + 1 => if isFr xs k || atB' xs ys k then mrN xs ys k else max (mrN xs ys k) (max (resD xs ys k) (-resD xs ys k))
theorem resD_bd (xs ys : List (List Int)) (k : Nat) : -536870911 ≤ resD xs ys k ∧ resD xs ys k ≤ 536870911 := ⟨add_lo _ _, add_hi _ _⟩
theorem mrN_bd (xs ys : List (List Int)) : ∀ k, 0 ≤ mrN xs ys k ∧ mrN xs ys k ≤ 536870911
  | 0 => ⟨Int.le_refl _, by show (0 : Int) ≤ 536870911; decide⟩
  | k + 1 => by
    have h := mrN_bd xs ys k
    have h2 := resD_bd xs ys k
    unfold mrN; split <;> omega
theorem atB'_iff {xs ys : List (List Int)} {k : Nat} : atB' xs ys k = true ↔ (0 < resD xs ys k ∧ at2 xs k 11 = at2 xs k 8) ∨ (resD xs ys k < 0 ∧ at2 xs k 11 = at2 xs k 9) := by
  simp only [atB', Bool.or_eq_true, Bool.and_eq_true, decide_eq_true_eq]
theorem atB'_no {xs ys : List (List Int)} {k : Nat} (h : ¬ ((0 < resD xs ys k ∧ at2 xs k 11 = at2 xs k 8) ∨ (resD xs ys k < 0 ∧ at2 xs k 11 = at2 xs k 9))) : atB' xs ys k = false := by
  cases e : atB' xs ys k
  · rfl
  · exact absurd (atB'_iff.1 e) h
theorem mrN_skip {xs ys : List (List Int)} {k : Nat} (h : isFr xs k = true ∨ atB' xs ys k = true) : mrN xs ys (k + 1) = mrN xs ys k := by
  unfold mrN; rw [if_pos (by rcases h with h | h <;> simp [h])]
  cases k <;> rfl
theorem mrN_take {xs ys : List (List Int)} {k : Nat} (h : isFr xs k = false) (h' : atB' xs ys k = false) : mrN xs ys (k + 1) = max (mrN xs ys k) (max (resD xs ys k) (-resD xs ys k)) := by
  rw [mrN, if_neg (by simp [h, h'])]

def c_ref29_EqualRows : Con := ⟨39, rowRun [.rows 14, .rows 14] (fun l R => match l, R with | [], [xs, ys] => [xs.length ≤ 100000, ys.length ≤ 100000, wf 14 xs, wf 14 ys] | _, _ => [False]) fun l R => match l, R with
  | [], [xs, ys] => .bool (decide (xs = ys))
  | _, _ => .any⟩
set_option maxRecDepth 100000 in
set_option maxHeartbeats 2000000 in
theorem con_ref29_EqualRows : c_ref29_EqualRows.Ok Try.prog := by
  refine con_rows (C := []) (pl := [(6, [0, 1, 2, 3, 4, 5, 6, 7, 8], [0, 0, 3, 7, 0, 0, 48, 112, 255])]) Try.func39 rfl (by kernel_rfl) T_ok (Cons.nil _) mixed (by kernel_rfl) _ _ _ (fun l R hl hR hn hpre => ?_)
  match l, hl, R, hR with
  | [], zl, [(true, xs), (true, ys)], zr =>
    clear zl zr
    obtain rfl : xs = [] := hn _ (List.Mem.head _) rfl
    obtain rfl : ys = [] := hn _ (List.Mem.tail _ (List.Mem.head _)) rfl
    have hp0 := hpre _ (List.Mem.head _); try dsimp only at hp0
    have hp1 := hpre _ (List.Mem.tail _ (List.Mem.head _)); try dsimp only at hp1
    have hp2 := hpre _ (List.Mem.tail _ (List.Mem.tail _ (List.Mem.head _))); try dsimp only at hp2
    have hp3 := hpre _ (List.Mem.tail _ (List.Mem.tail _ (List.Mem.tail _ (List.Mem.head _)))); try dsimp only at hp3
    skip
    repeat' (first | (with_reducible refine And.intro ?_ ?_) | (with_reducible intro h) | ((fail_if_success (with_reducible refine Leaf.mk ?_)); (fail_if_success (with_reducible refine VC.mk ?_)); (fail_if_success (with_reducible refine Goes.mk ?_)); (fail_if_success (with_reducible refine Again.mk ?_)); (fail_if_success (with_reducible refine Rounds.mk ?_)); (fail_if_success (with_reducible show False)); (fail_if_success (with_reducible show True)); conv => whnf))
    all_goals try simp only [decide_eq_true_eq, decide_eq_false_iff_not, tkA, tkL, Nat.zero_add, Nat.reduceAdd, Int.toNat_natCast, List.take_nil, List.nil_append] at *
    all_goals try simp only [Bool.not_eq_true', Bool.not_eq_false', decide_eq_true_eq, decide_eq_false_iff_not] at *
    all_goals try first | exact trivial | (show False; omega) | exact Leaf.mk trivial | exact Leaf.mk rfl | (refine VC.mk ?_; first | trivial | assumption | ((try simp only [InR, decide_eq_true_eq, decide_eq_false_iff_not] at *); omega) | (simp; done))
    all_goals try simp only [List.length_nil, Int.natCast_zero, Int.ofNat_zero] at *
    all_goals try (have hz : ys.length = 0 := (by omega); have hz2 := List.length_eq_zero_iff.1 hz; subst hz2)
    all_goals try (have hz : xs.length = 0 := (by omega); have hz2 := List.length_eq_zero_iff.1 hz; subst hz2)
    all_goals try refine goes_rounds 1 ?_
    all_goals try (refine rounds_one (pl := [(6, [0, 1, 2, 3, 4, 5, 6, 7, 8], [0, 0, 3, 7, 0, 0, 48, 112, 255])]) T_ok (Cons.nil _) mixed (by kernel_rfl) ?_; repeat' (first | (with_reducible refine And.intro ?_ ?_) | (with_reducible intro h) | ((fail_if_success (with_reducible refine Leaf.mk ?_)); (fail_if_success (with_reducible refine VC.mk ?_)); (fail_if_success (with_reducible refine Goes.mk ?_)); (fail_if_success (with_reducible refine Again.mk ?_)); (fail_if_success (with_reducible refine Rounds.mk ?_)); (fail_if_success (with_reducible show False)); (fail_if_success (with_reducible show True)); conv => whnf)))
    all_goals try simp only [decide_eq_true_eq, decide_eq_false_iff_not, tkA, tkL, Nat.zero_add, Nat.reduceAdd, Int.toNat_natCast, List.take_nil, List.nil_append] at *
    all_goals try simp only [List.length_nil, Int.natCast_zero, Int.ofNat_zero] at *
    all_goals try (exfalso; omega)
    all_goals try exact trivial
    all_goals try exact Leaf.mk trivial
    all_goals (refine Leaf.mk ?_; first | rfl | (simp; done) | (rw [decide_eq_false (fun hh => by subst hh; simp_all)]; done) | (rw [decide_eq_true (by first | rfl | exact (List.length_eq_zero_iff.1 (by omega)) | exact (List.length_eq_zero_iff.1 (by omega)).symm)]; done) | (simp_all; done))
  | [], zl, [(true, xs), (false, ys)], zr =>
    clear zl zr
    obtain rfl : xs = [] := hn _ (List.Mem.head _) rfl
    have hp0 := hpre _ (List.Mem.head _); try dsimp only at hp0
    have hp1 := hpre _ (List.Mem.tail _ (List.Mem.head _)); try dsimp only at hp1
    have hp2 := hpre _ (List.Mem.tail _ (List.Mem.tail _ (List.Mem.head _))); try dsimp only at hp2
    have hp3 := hpre _ (List.Mem.tail _ (List.Mem.tail _ (List.Mem.tail _ (List.Mem.head _)))); try dsimp only at hp3
    skip
    repeat' (first | (with_reducible refine And.intro ?_ ?_) | (with_reducible intro h) | ((fail_if_success (with_reducible refine Leaf.mk ?_)); (fail_if_success (with_reducible refine VC.mk ?_)); (fail_if_success (with_reducible refine Goes.mk ?_)); (fail_if_success (with_reducible refine Again.mk ?_)); (fail_if_success (with_reducible refine Rounds.mk ?_)); (fail_if_success (with_reducible show False)); (fail_if_success (with_reducible show True)); conv => whnf))
    all_goals try simp only [decide_eq_true_eq, decide_eq_false_iff_not, tkA, tkL, Nat.zero_add, Nat.reduceAdd, Int.toNat_natCast, List.take_nil, List.nil_append] at *
    all_goals try simp only [Bool.not_eq_true', Bool.not_eq_false', decide_eq_true_eq, decide_eq_false_iff_not] at *
    all_goals try first | exact trivial | (show False; omega) | exact Leaf.mk trivial | exact Leaf.mk rfl | (refine VC.mk ?_; first | trivial | assumption | ((try simp only [InR, decide_eq_true_eq, decide_eq_false_iff_not] at *); omega) | (simp; done))
    all_goals try simp only [List.length_nil, Int.natCast_zero, Int.ofNat_zero] at *
    all_goals try (have hz : ys.length = 0 := (by omega); have hz2 := List.length_eq_zero_iff.1 hz; subst hz2)
    all_goals try (have hz : xs.length = 0 := (by omega); have hz2 := List.length_eq_zero_iff.1 hz; subst hz2)
    all_goals try refine goes_rounds 1 ?_
    all_goals try (refine rounds_one (pl := [(6, [0, 1, 2, 3, 4, 5, 6, 7, 8], [0, 0, 3, 7, 0, 0, 48, 112, 255])]) T_ok (Cons.nil _) mixed (by kernel_rfl) ?_; repeat' (first | (with_reducible refine And.intro ?_ ?_) | (with_reducible intro h) | ((fail_if_success (with_reducible refine Leaf.mk ?_)); (fail_if_success (with_reducible refine VC.mk ?_)); (fail_if_success (with_reducible refine Goes.mk ?_)); (fail_if_success (with_reducible refine Again.mk ?_)); (fail_if_success (with_reducible refine Rounds.mk ?_)); (fail_if_success (with_reducible show False)); (fail_if_success (with_reducible show True)); conv => whnf)))
    all_goals try simp only [decide_eq_true_eq, decide_eq_false_iff_not, tkA, tkL, Nat.zero_add, Nat.reduceAdd, Int.toNat_natCast, List.take_nil, List.nil_append] at *
    all_goals try simp only [List.length_nil, Int.natCast_zero, Int.ofNat_zero] at *
    all_goals try (exfalso; omega)
    all_goals try exact trivial
    all_goals try exact Leaf.mk trivial
    all_goals (refine Leaf.mk ?_; first | rfl | (simp; done) | (rw [decide_eq_false (fun hh => by subst hh; simp_all)]; done) | (rw [decide_eq_true (by first | rfl | exact (List.length_eq_zero_iff.1 (by omega)) | exact (List.length_eq_zero_iff.1 (by omega)).symm)]; done) | (simp_all; done))
  | [], zl, [(false, xs), (true, ys)], zr =>
    clear zl zr
    obtain rfl : ys = [] := hn _ (List.Mem.tail _ (List.Mem.head _)) rfl
    have hp0 := hpre _ (List.Mem.head _); try dsimp only at hp0
    have hp1 := hpre _ (List.Mem.tail _ (List.Mem.head _)); try dsimp only at hp1
    have hp2 := hpre _ (List.Mem.tail _ (List.Mem.tail _ (List.Mem.head _))); try dsimp only at hp2
    have hp3 := hpre _ (List.Mem.tail _ (List.Mem.tail _ (List.Mem.tail _ (List.Mem.head _)))); try dsimp only at hp3
    skip
    repeat' (first | (with_reducible refine And.intro ?_ ?_) | (with_reducible intro h) | ((fail_if_success (with_reducible refine Leaf.mk ?_)); (fail_if_success (with_reducible refine VC.mk ?_)); (fail_if_success (with_reducible refine Goes.mk ?_)); (fail_if_success (with_reducible refine Again.mk ?_)); (fail_if_success (with_reducible refine Rounds.mk ?_)); (fail_if_success (with_reducible show False)); (fail_if_success (with_reducible show True)); conv => whnf))
    all_goals try simp only [decide_eq_true_eq, decide_eq_false_iff_not, tkA, tkL, Nat.zero_add, Nat.reduceAdd, Int.toNat_natCast, List.take_nil, List.nil_append] at *
    all_goals try simp only [Bool.not_eq_true', Bool.not_eq_false', decide_eq_true_eq, decide_eq_false_iff_not] at *
    all_goals try first | exact trivial | (show False; omega) | exact Leaf.mk trivial | exact Leaf.mk rfl | (refine VC.mk ?_; first | trivial | assumption | ((try simp only [InR, decide_eq_true_eq, decide_eq_false_iff_not] at *); omega) | (simp; done))
    all_goals try simp only [List.length_nil, Int.natCast_zero, Int.ofNat_zero] at *
    all_goals try (have hz : ys.length = 0 := (by omega); have hz2 := List.length_eq_zero_iff.1 hz; subst hz2)
    all_goals try (have hz : xs.length = 0 := (by omega); have hz2 := List.length_eq_zero_iff.1 hz; subst hz2)
    all_goals try refine goes_rounds 1 ?_
    all_goals try (refine rounds_one (pl := [(6, [0, 1, 2, 3, 4, 5, 6, 7, 8], [0, 0, 3, 7, 0, 0, 48, 112, 255])]) T_ok (Cons.nil _) mixed (by kernel_rfl) ?_; repeat' (first | (with_reducible refine And.intro ?_ ?_) | (with_reducible intro h) | ((fail_if_success (with_reducible refine Leaf.mk ?_)); (fail_if_success (with_reducible refine VC.mk ?_)); (fail_if_success (with_reducible refine Goes.mk ?_)); (fail_if_success (with_reducible refine Again.mk ?_)); (fail_if_success (with_reducible refine Rounds.mk ?_)); (fail_if_success (with_reducible show False)); (fail_if_success (with_reducible show True)); conv => whnf)))
    all_goals try simp only [decide_eq_true_eq, decide_eq_false_iff_not, tkA, tkL, Nat.zero_add, Nat.reduceAdd, Int.toNat_natCast, List.take_nil, List.nil_append] at *
    all_goals try simp only [List.length_nil, Int.natCast_zero, Int.ofNat_zero] at *
    all_goals try (exfalso; omega)
    all_goals try exact trivial
    all_goals try exact Leaf.mk trivial
    all_goals (refine Leaf.mk ?_; first | rfl | (simp; done) | (rw [decide_eq_false (fun hh => by subst hh; simp_all)]; done) | (rw [decide_eq_true (by first | rfl | exact (List.length_eq_zero_iff.1 (by omega)) | exact (List.length_eq_zero_iff.1 (by omega)).symm)]; done) | (simp_all; done))
  | [], zl, [(false, xs), (false, ys)], zr =>
    clear zl zr
    have hp0 := hpre _ (List.Mem.head _); try dsimp only at hp0
    have hp1 := hpre _ (List.Mem.tail _ (List.Mem.head _)); try dsimp only at hp1
    have hp2 := hpre _ (List.Mem.tail _ (List.Mem.tail _ (List.Mem.head _))); try dsimp only at hp2
    have hp3 := hpre _ (List.Mem.tail _ (List.Mem.tail _ (List.Mem.tail _ (List.Mem.head _)))); try dsimp only at hp3
    skip
    repeat' (first | (with_reducible refine And.intro ?_ ?_) | (with_reducible intro h) | ((fail_if_success (with_reducible refine Leaf.mk ?_)); (fail_if_success (with_reducible refine VC.mk ?_)); (fail_if_success (with_reducible refine Goes.mk ?_)); (fail_if_success (with_reducible refine Again.mk ?_)); (fail_if_success (with_reducible refine Rounds.mk ?_)); (fail_if_success (with_reducible show False)); (fail_if_success (with_reducible show True)); conv => whnf))
    all_goals try simp only [decide_eq_true_eq, decide_eq_false_iff_not, tkA, tkL, Nat.zero_add, Nat.reduceAdd, Int.toNat_natCast, List.take_nil, List.nil_append] at *
    all_goals try simp only [Bool.not_eq_true', Bool.not_eq_false', decide_eq_true_eq, decide_eq_false_iff_not] at *
    all_goals try first | exact trivial | (show False; omega) | exact Leaf.mk trivial | exact Leaf.mk rfl | (refine VC.mk ?_; first | trivial | assumption | ((try simp only [InR, decide_eq_true_eq, decide_eq_false_iff_not] at *); omega) | (simp; done))
    all_goals try (refine Leaf.mk ?_; symm; rw [decide_eq_false_iff_not]; intro hh; subst hh; simp_all; done)
    have hlen : xs.length = ys.length := by omega
    refine goes_inv (X := Nat) (pl := [(6, [0, 1, 2, 3, 4, 5, 6, 7, 8], [0, 0, 3, 7, 0, 0, 48, 112, 255])]) T_ok (Cons.nil _) mixed (by kernel_rfl)
      (fun k => (.sl 0 14 0 xs.length :: .sl 1 14 0 ys.length :: .any :: .any :: .any :: .int .i64 (k : Int) :: .any :: .any :: .any :: .any :: .any :: .any :: .any :: .any :: .any :: .any :: .any :: .any :: .any :: .any :: .any :: .any :: .any :: .any :: .any :: .any :: .any :: .any :: .any :: .any :: .any :: .any :: [], [.arr false true 14 xs, .arr false true 14 ys]))
      (fun k => k ≤ xs.length ∧ xs.take k = ys.take k) (fun k => xs.length - k) 0 [0, 1] ⟨Nat.zero_le _, rfl⟩ ?_ ?_ ?_
    · repeat' (first | (with_reducible refine And.intro ?_ ?_) | (with_reducible intro h) | ((fail_if_success (with_reducible refine Leaf.mk ?_)); (fail_if_success (with_reducible refine VC.mk ?_)); (fail_if_success (with_reducible refine Goes.mk ?_)); (fail_if_success (with_reducible refine Again.mk ?_)); (fail_if_success (with_reducible refine Rounds.mk ?_)); (fail_if_success (with_reducible show False)); (fail_if_success (with_reducible show True)); conv => whnf))
      all_goals first | exact trivial | (refine Leaf.mk ?_; first | rfl | exact ⟨rfl, rfl⟩ | (simp; done))
    · repeat' (first | (with_reducible refine And.intro ?_ ?_) | (with_reducible intro h) | ((fail_if_success (with_reducible refine Leaf.mk ?_)); (fail_if_success (with_reducible refine VC.mk ?_)); (fail_if_success (with_reducible refine Goes.mk ?_)); (fail_if_success (with_reducible refine Again.mk ?_)); (fail_if_success (with_reducible refine Rounds.mk ?_)); (fail_if_success (with_reducible show False)); (fail_if_success (with_reducible show True)); conv => whnf))
      all_goals first | exact trivial | (refine Leaf.mk ?_; first | rfl | exact ⟨rfl, rfl⟩ | (simp; done))
    · intro k hx
      obtain ⟨hx1, hx2⟩ := hx
      repeat' (first | (with_reducible refine And.intro ?_ ?_) | (with_reducible intro h) | ((fail_if_success (with_reducible refine Leaf.mk ?_)); (fail_if_success (with_reducible refine VC.mk ?_)); (fail_if_success (with_reducible refine Goes.mk ?_)); (fail_if_success (with_reducible refine Again.mk ?_)); (fail_if_success (with_reducible refine Rounds.mk ?_)); (fail_if_success (with_reducible show False)); (fail_if_success (with_reducible show True)); conv => whnf))
      all_goals try simp only [decide_eq_true_eq, decide_eq_false_iff_not, tkA, tkL, Nat.zero_add, Nat.reduceAdd, Int.toNat_natCast, List.take_nil, List.nil_append] at *
      all_goals try first | exact trivial | (show False; omega) | exact Leaf.mk trivial | exact Leaf.mk rfl | (refine VC.mk ?_; first | trivial | assumption | ((try simp only [InR, decide_eq_true_eq, decide_eq_false_iff_not] at *); omega) | (simp; done))
      all_goals try simp only [Bool.not_eq_true', Bool.not_eq_false', Bool.and_eq_true, decide_eq_true_eq] at *
      all_goals first
        | (refine Leaf.mk ?_; have hk : k = xs.length := by omega
           subst hk
           rw [List.take_of_length_le (by omega), List.take_of_length_le (by omega)] at hx2
           subst hx2
           first | rfl | (simp; done))
        | (refine Leaf.mk ?_; rw [decide_eq_false (fun hh => by subst hh; simp_all)]; done)
        | (refine Leaf.mk ?_; symm; rw [decide_eq_false_iff_not]; intro hh; subst hh; simp_all; done)
        | (have hlt : k < xs.length := by omega
           obtain ⟨e0, e1, e2, e3, e4, e5, e6, e7, e8, e9, e10, e11, e12, e13⟩ := h
           have hr : ∀ j, j < 14 → at2 xs k j = at2 ys k j := fun j hj => by match j, hj with | 0, _ => exact e0 | 1, _ => exact e1 | 2, _ => exact e2 | 3, _ => exact e3 | 4, _ => exact e4 | 5, _ => exact e5 | 6, _ => exact e6 | 7, _ => exact e7 | 8, _ => exact e8 | 9, _ => exact e9 | 10, _ => exact e10 | 11, _ => exact e11 | 12, _ => exact e12 | 13, _ => exact e13
           (refine Again.mk ⟨k + 1, [0, 1], ⟨hlt, take_ext hp2 hp3 hx2 hlt (by omega) hr⟩, (by omega), ?_, ?_⟩ <;> (repeat' (first | (with_reducible refine And.intro ?_ ?_) | (with_reducible intro h) | ((fail_if_success (with_reducible refine Leaf.mk ?_)); (fail_if_success (with_reducible refine VC.mk ?_)); (fail_if_success (with_reducible refine Goes.mk ?_)); (fail_if_success (with_reducible refine Again.mk ?_)); (fail_if_success (with_reducible refine Rounds.mk ?_)); (fail_if_success (with_reducible show False)); (fail_if_success (with_reducible show True)); conv => whnf))) <;> first | exact trivial | (refine Leaf.mk ?_; first | rfl | exact ⟨rfl, rfl⟩ | (simp; done))))
def c_ref35_EqualBodies : Con := ⟨40, rowRun [.rows 5, .rows 5] (fun l R => match l, R with | [], [xs, ys] => [xs.length ≤ 100000, ys.length ≤ 100000, wf 5 xs, wf 5 ys] | _, _ => [False]) fun l R => match l, R with
  | [], [xs, ys] => .bool (decide (xs = ys))
  | _, _ => .any⟩
set_option maxRecDepth 100000 in
set_option maxHeartbeats 2000000 in
theorem con_ref35_EqualBodies : c_ref35_EqualBodies.Ok Try.prog := by
  refine con_rows (C := []) (pl := [(6, [0, 1, 2, 3, 4, 5, 6, 7, 8], [0, 0, 3, 7, 0, 0, 48, 112, 255])]) Try.func40 rfl (by kernel_rfl) T_ok (Cons.nil _) mixed (by kernel_rfl) _ _ _ (fun l R hl hR hn hpre => ?_)
  match l, hl, R, hR with
  | [], zl, [(true, xs), (true, ys)], zr =>
    clear zl zr
    obtain rfl : xs = [] := hn _ (List.Mem.head _) rfl
    obtain rfl : ys = [] := hn _ (List.Mem.tail _ (List.Mem.head _)) rfl
    have hp0 := hpre _ (List.Mem.head _); try dsimp only at hp0
    have hp1 := hpre _ (List.Mem.tail _ (List.Mem.head _)); try dsimp only at hp1
    have hp2 := hpre _ (List.Mem.tail _ (List.Mem.tail _ (List.Mem.head _))); try dsimp only at hp2
    have hp3 := hpre _ (List.Mem.tail _ (List.Mem.tail _ (List.Mem.tail _ (List.Mem.head _)))); try dsimp only at hp3
    skip
    repeat' (first | (with_reducible refine And.intro ?_ ?_) | (with_reducible intro h) | ((fail_if_success (with_reducible refine Leaf.mk ?_)); (fail_if_success (with_reducible refine VC.mk ?_)); (fail_if_success (with_reducible refine Goes.mk ?_)); (fail_if_success (with_reducible refine Again.mk ?_)); (fail_if_success (with_reducible refine Rounds.mk ?_)); (fail_if_success (with_reducible show False)); (fail_if_success (with_reducible show True)); conv => whnf))
    all_goals try simp only [decide_eq_true_eq, decide_eq_false_iff_not, tkA, tkL, Nat.zero_add, Nat.reduceAdd, Int.toNat_natCast, List.take_nil, List.nil_append] at *
    all_goals try simp only [Bool.not_eq_true', Bool.not_eq_false', decide_eq_true_eq, decide_eq_false_iff_not] at *
    all_goals try first | exact trivial | (show False; omega) | exact Leaf.mk trivial | exact Leaf.mk rfl | (refine VC.mk ?_; first | trivial | assumption | ((try simp only [InR, decide_eq_true_eq, decide_eq_false_iff_not] at *); omega) | (simp; done))
    all_goals try simp only [List.length_nil, Int.natCast_zero, Int.ofNat_zero] at *
    all_goals try (have hz : ys.length = 0 := (by omega); have hz2 := List.length_eq_zero_iff.1 hz; subst hz2)
    all_goals try (have hz : xs.length = 0 := (by omega); have hz2 := List.length_eq_zero_iff.1 hz; subst hz2)
    all_goals try refine goes_rounds 1 ?_
    all_goals try (refine rounds_one (pl := [(6, [0, 1, 2, 3, 4, 5, 6, 7, 8], [0, 0, 3, 7, 0, 0, 48, 112, 255])]) T_ok (Cons.nil _) mixed (by kernel_rfl) ?_; repeat' (first | (with_reducible refine And.intro ?_ ?_) | (with_reducible intro h) | ((fail_if_success (with_reducible refine Leaf.mk ?_)); (fail_if_success (with_reducible refine VC.mk ?_)); (fail_if_success (with_reducible refine Goes.mk ?_)); (fail_if_success (with_reducible refine Again.mk ?_)); (fail_if_success (with_reducible refine Rounds.mk ?_)); (fail_if_success (with_reducible show False)); (fail_if_success (with_reducible show True)); conv => whnf)))
    all_goals try simp only [decide_eq_true_eq, decide_eq_false_iff_not, tkA, tkL, Nat.zero_add, Nat.reduceAdd, Int.toNat_natCast, List.take_nil, List.nil_append] at *
    all_goals try simp only [List.length_nil, Int.natCast_zero, Int.ofNat_zero] at *
    all_goals try (exfalso; omega)
    all_goals try exact trivial
    all_goals try exact Leaf.mk trivial
    all_goals (refine Leaf.mk ?_; first | rfl | (simp; done) | (rw [decide_eq_false (fun hh => by subst hh; simp_all)]; done) | (rw [decide_eq_true (by first | rfl | exact (List.length_eq_zero_iff.1 (by omega)) | exact (List.length_eq_zero_iff.1 (by omega)).symm)]; done) | (simp_all; done))
  | [], zl, [(true, xs), (false, ys)], zr =>
    clear zl zr
    obtain rfl : xs = [] := hn _ (List.Mem.head _) rfl
    have hp0 := hpre _ (List.Mem.head _); try dsimp only at hp0
    have hp1 := hpre _ (List.Mem.tail _ (List.Mem.head _)); try dsimp only at hp1
    have hp2 := hpre _ (List.Mem.tail _ (List.Mem.tail _ (List.Mem.head _))); try dsimp only at hp2
    have hp3 := hpre _ (List.Mem.tail _ (List.Mem.tail _ (List.Mem.tail _ (List.Mem.head _)))); try dsimp only at hp3
    skip
    repeat' (first | (with_reducible refine And.intro ?_ ?_) | (with_reducible intro h) | ((fail_if_success (with_reducible refine Leaf.mk ?_)); (fail_if_success (with_reducible refine VC.mk ?_)); (fail_if_success (with_reducible refine Goes.mk ?_)); (fail_if_success (with_reducible refine Again.mk ?_)); (fail_if_success (with_reducible refine Rounds.mk ?_)); (fail_if_success (with_reducible show False)); (fail_if_success (with_reducible show True)); conv => whnf))
    all_goals try simp only [decide_eq_true_eq, decide_eq_false_iff_not, tkA, tkL, Nat.zero_add, Nat.reduceAdd, Int.toNat_natCast, List.take_nil, List.nil_append] at *
    all_goals try simp only [Bool.not_eq_true', Bool.not_eq_false', decide_eq_true_eq, decide_eq_false_iff_not] at *
    all_goals try first | exact trivial | (show False; omega) | exact Leaf.mk trivial | exact Leaf.mk rfl | (refine VC.mk ?_; first | trivial | assumption | ((try simp only [InR, decide_eq_true_eq, decide_eq_false_iff_not] at *); omega) | (simp; done))
    all_goals try simp only [List.length_nil, Int.natCast_zero, Int.ofNat_zero] at *
    all_goals try (have hz : ys.length = 0 := (by omega); have hz2 := List.length_eq_zero_iff.1 hz; subst hz2)
    all_goals try (have hz : xs.length = 0 := (by omega); have hz2 := List.length_eq_zero_iff.1 hz; subst hz2)
    all_goals try refine goes_rounds 1 ?_
    all_goals try (refine rounds_one (pl := [(6, [0, 1, 2, 3, 4, 5, 6, 7, 8], [0, 0, 3, 7, 0, 0, 48, 112, 255])]) T_ok (Cons.nil _) mixed (by kernel_rfl) ?_; repeat' (first | (with_reducible refine And.intro ?_ ?_) | (with_reducible intro h) | ((fail_if_success (with_reducible refine Leaf.mk ?_)); (fail_if_success (with_reducible refine VC.mk ?_)); (fail_if_success (with_reducible refine Goes.mk ?_)); (fail_if_success (with_reducible refine Again.mk ?_)); (fail_if_success (with_reducible refine Rounds.mk ?_)); (fail_if_success (with_reducible show False)); (fail_if_success (with_reducible show True)); conv => whnf)))
    all_goals try simp only [decide_eq_true_eq, decide_eq_false_iff_not, tkA, tkL, Nat.zero_add, Nat.reduceAdd, Int.toNat_natCast, List.take_nil, List.nil_append] at *
    all_goals try simp only [List.length_nil, Int.natCast_zero, Int.ofNat_zero] at *
    all_goals try (exfalso; omega)
    all_goals try exact trivial
    all_goals try exact Leaf.mk trivial
    all_goals (refine Leaf.mk ?_; first | rfl | (simp; done) | (rw [decide_eq_false (fun hh => by subst hh; simp_all)]; done) | (rw [decide_eq_true (by first | rfl | exact (List.length_eq_zero_iff.1 (by omega)) | exact (List.length_eq_zero_iff.1 (by omega)).symm)]; done) | (simp_all; done))
  | [], zl, [(false, xs), (true, ys)], zr =>
    clear zl zr
    obtain rfl : ys = [] := hn _ (List.Mem.tail _ (List.Mem.head _)) rfl
    have hp0 := hpre _ (List.Mem.head _); try dsimp only at hp0
    have hp1 := hpre _ (List.Mem.tail _ (List.Mem.head _)); try dsimp only at hp1
    have hp2 := hpre _ (List.Mem.tail _ (List.Mem.tail _ (List.Mem.head _))); try dsimp only at hp2
    have hp3 := hpre _ (List.Mem.tail _ (List.Mem.tail _ (List.Mem.tail _ (List.Mem.head _)))); try dsimp only at hp3
    skip
    repeat' (first | (with_reducible refine And.intro ?_ ?_) | (with_reducible intro h) | ((fail_if_success (with_reducible refine Leaf.mk ?_)); (fail_if_success (with_reducible refine VC.mk ?_)); (fail_if_success (with_reducible refine Goes.mk ?_)); (fail_if_success (with_reducible refine Again.mk ?_)); (fail_if_success (with_reducible refine Rounds.mk ?_)); (fail_if_success (with_reducible show False)); (fail_if_success (with_reducible show True)); conv => whnf))
    all_goals try simp only [decide_eq_true_eq, decide_eq_false_iff_not, tkA, tkL, Nat.zero_add, Nat.reduceAdd, Int.toNat_natCast, List.take_nil, List.nil_append] at *
    all_goals try simp only [Bool.not_eq_true', Bool.not_eq_false', decide_eq_true_eq, decide_eq_false_iff_not] at *
    all_goals try first | exact trivial | (show False; omega) | exact Leaf.mk trivial | exact Leaf.mk rfl | (refine VC.mk ?_; first | trivial | assumption | ((try simp only [InR, decide_eq_true_eq, decide_eq_false_iff_not] at *); omega) | (simp; done))
    all_goals try simp only [List.length_nil, Int.natCast_zero, Int.ofNat_zero] at *
    all_goals try (have hz : ys.length = 0 := (by omega); have hz2 := List.length_eq_zero_iff.1 hz; subst hz2)
    all_goals try (have hz : xs.length = 0 := (by omega); have hz2 := List.length_eq_zero_iff.1 hz; subst hz2)
    all_goals try refine goes_rounds 1 ?_
    all_goals try (refine rounds_one (pl := [(6, [0, 1, 2, 3, 4, 5, 6, 7, 8], [0, 0, 3, 7, 0, 0, 48, 112, 255])]) T_ok (Cons.nil _) mixed (by kernel_rfl) ?_; repeat' (first | (with_reducible refine And.intro ?_ ?_) | (with_reducible intro h) | ((fail_if_success (with_reducible refine Leaf.mk ?_)); (fail_if_success (with_reducible refine VC.mk ?_)); (fail_if_success (with_reducible refine Goes.mk ?_)); (fail_if_success (with_reducible refine Again.mk ?_)); (fail_if_success (with_reducible refine Rounds.mk ?_)); (fail_if_success (with_reducible show False)); (fail_if_success (with_reducible show True)); conv => whnf)))
    all_goals try simp only [decide_eq_true_eq, decide_eq_false_iff_not, tkA, tkL, Nat.zero_add, Nat.reduceAdd, Int.toNat_natCast, List.take_nil, List.nil_append] at *
    all_goals try simp only [List.length_nil, Int.natCast_zero, Int.ofNat_zero] at *
    all_goals try (exfalso; omega)
    all_goals try exact trivial
    all_goals try exact Leaf.mk trivial
    all_goals (refine Leaf.mk ?_; first | rfl | (simp; done) | (rw [decide_eq_false (fun hh => by subst hh; simp_all)]; done) | (rw [decide_eq_true (by first | rfl | exact (List.length_eq_zero_iff.1 (by omega)) | exact (List.length_eq_zero_iff.1 (by omega)).symm)]; done) | (simp_all; done))
  | [], zl, [(false, xs), (false, ys)], zr =>
    clear zl zr
    have hp0 := hpre _ (List.Mem.head _); try dsimp only at hp0
    have hp1 := hpre _ (List.Mem.tail _ (List.Mem.head _)); try dsimp only at hp1
    have hp2 := hpre _ (List.Mem.tail _ (List.Mem.tail _ (List.Mem.head _))); try dsimp only at hp2
    have hp3 := hpre _ (List.Mem.tail _ (List.Mem.tail _ (List.Mem.tail _ (List.Mem.head _)))); try dsimp only at hp3
    skip
    repeat' (first | (with_reducible refine And.intro ?_ ?_) | (with_reducible intro h) | ((fail_if_success (with_reducible refine Leaf.mk ?_)); (fail_if_success (with_reducible refine VC.mk ?_)); (fail_if_success (with_reducible refine Goes.mk ?_)); (fail_if_success (with_reducible refine Again.mk ?_)); (fail_if_success (with_reducible refine Rounds.mk ?_)); (fail_if_success (with_reducible show False)); (fail_if_success (with_reducible show True)); conv => whnf))
    all_goals try simp only [decide_eq_true_eq, decide_eq_false_iff_not, tkA, tkL, Nat.zero_add, Nat.reduceAdd, Int.toNat_natCast, List.take_nil, List.nil_append] at *
    all_goals try simp only [Bool.not_eq_true', Bool.not_eq_false', decide_eq_true_eq, decide_eq_false_iff_not] at *
    all_goals try first | exact trivial | (show False; omega) | exact Leaf.mk trivial | exact Leaf.mk rfl | (refine VC.mk ?_; first | trivial | assumption | ((try simp only [InR, decide_eq_true_eq, decide_eq_false_iff_not] at *); omega) | (simp; done))
    all_goals try (refine Leaf.mk ?_; symm; rw [decide_eq_false_iff_not]; intro hh; subst hh; simp_all; done)
    have hlen : xs.length = ys.length := by omega
    refine goes_inv (X := Nat) (pl := [(6, [0, 1, 2, 3, 4, 5, 6, 7, 8], [0, 0, 3, 7, 0, 0, 48, 112, 255])]) T_ok (Cons.nil _) mixed (by kernel_rfl)
      (fun k => (.sl 0 5 0 xs.length :: .sl 1 5 0 ys.length :: .any :: .any :: .any :: .int .i64 (k : Int) :: .any :: .any :: .any :: .any :: .any :: .any :: .any :: .any :: .any :: .any :: .any :: .any :: .any :: .any :: .any :: .any :: .any :: .any :: .any :: .any :: .any :: .any :: .any :: .any :: .any :: .any :: [], [.arr false true 5 xs, .arr false true 5 ys]))
      (fun k => k ≤ xs.length ∧ xs.take k = ys.take k) (fun k => xs.length - k) 0 [0, 1] ⟨Nat.zero_le _, rfl⟩ ?_ ?_ ?_
    · repeat' (first | (with_reducible refine And.intro ?_ ?_) | (with_reducible intro h) | ((fail_if_success (with_reducible refine Leaf.mk ?_)); (fail_if_success (with_reducible refine VC.mk ?_)); (fail_if_success (with_reducible refine Goes.mk ?_)); (fail_if_success (with_reducible refine Again.mk ?_)); (fail_if_success (with_reducible refine Rounds.mk ?_)); (fail_if_success (with_reducible show False)); (fail_if_success (with_reducible show True)); conv => whnf))
      all_goals first | exact trivial | (refine Leaf.mk ?_; first | rfl | exact ⟨rfl, rfl⟩ | (simp; done))
    · repeat' (first | (with_reducible refine And.intro ?_ ?_) | (with_reducible intro h) | ((fail_if_success (with_reducible refine Leaf.mk ?_)); (fail_if_success (with_reducible refine VC.mk ?_)); (fail_if_success (with_reducible refine Goes.mk ?_)); (fail_if_success (with_reducible refine Again.mk ?_)); (fail_if_success (with_reducible refine Rounds.mk ?_)); (fail_if_success (with_reducible show False)); (fail_if_success (with_reducible show True)); conv => whnf))
      all_goals first | exact trivial | (refine Leaf.mk ?_; first | rfl | exact ⟨rfl, rfl⟩ | (simp; done))
    · intro k hx
      obtain ⟨hx1, hx2⟩ := hx
      repeat' (first | (with_reducible refine And.intro ?_ ?_) | (with_reducible intro h) | ((fail_if_success (with_reducible refine Leaf.mk ?_)); (fail_if_success (with_reducible refine VC.mk ?_)); (fail_if_success (with_reducible refine Goes.mk ?_)); (fail_if_success (with_reducible refine Again.mk ?_)); (fail_if_success (with_reducible refine Rounds.mk ?_)); (fail_if_success (with_reducible show False)); (fail_if_success (with_reducible show True)); conv => whnf))
      all_goals try simp only [decide_eq_true_eq, decide_eq_false_iff_not, tkA, tkL, Nat.zero_add, Nat.reduceAdd, Int.toNat_natCast, List.take_nil, List.nil_append] at *
      all_goals try first | exact trivial | (show False; omega) | exact Leaf.mk trivial | exact Leaf.mk rfl | (refine VC.mk ?_; first | trivial | assumption | ((try simp only [InR, decide_eq_true_eq, decide_eq_false_iff_not] at *); omega) | (simp; done))
      all_goals try simp only [Bool.not_eq_true', Bool.not_eq_false', Bool.and_eq_true, decide_eq_true_eq] at *
      all_goals first
        | (refine Leaf.mk ?_; have hk : k = xs.length := by omega
           subst hk
           rw [List.take_of_length_le (by omega), List.take_of_length_le (by omega)] at hx2
           subst hx2
           first | rfl | (simp; done))
        | (refine Leaf.mk ?_; rw [decide_eq_false (fun hh => by subst hh; simp_all)]; done)
        | (refine Leaf.mk ?_; symm; rw [decide_eq_false_iff_not]; intro hh; subst hh; simp_all; done)
        | (have hlt : k < xs.length := by omega
           obtain ⟨e0, e1, e2, e3, e4⟩ := h
           have hr : ∀ j, j < 5 → at2 xs k j = at2 ys k j := fun j hj => by match j, hj with | 0, _ => exact e0 | 1, _ => exact e1 | 2, _ => exact e2 | 3, _ => exact e3 | 4, _ => exact e4
           (refine Again.mk ⟨k + 1, [0, 1], ⟨hlt, take_ext hp2 hp3 hx2 hlt (by omega) hr⟩, (by omega), ?_, ?_⟩ <;> (repeat' (first | (with_reducible refine And.intro ?_ ?_) | (with_reducible intro h) | ((fail_if_success (with_reducible refine Leaf.mk ?_)); (fail_if_success (with_reducible refine VC.mk ?_)); (fail_if_success (with_reducible refine Goes.mk ?_)); (fail_if_success (with_reducible refine Again.mk ?_)); (fail_if_success (with_reducible refine Rounds.mk ?_)); (fail_if_success (with_reducible show False)); (fail_if_success (with_reducible show True)); conv => whnf))) <;> first | exact trivial | (refine Leaf.mk ?_; first | rfl | exact ⟨rfl, rfl⟩ | (simp; done))))
def c_solver_isFriction : Con := ⟨74, rowRun [.rows 14, .num 0] (fun l R => match l, R with | [i], [xs] => [xs.length ≤ 100000, 0 ≤ i, i < xs.length] | _, _ => [False]) fun l R => match l, R with
  | [i], [xs] => .bool (isFr xs i)
  | _, _ => .any⟩
set_option maxRecDepth 100000 in
set_option maxHeartbeats 2000000 in
theorem con_solver_isFriction : c_solver_isFriction.Ok Try.prog := by
  refine con_rows (C := []) (pl := []) Try.func74 rfl (by kernel_rfl) T_ok (Cons.nil _) mixed (by kernel_rfl) _ _ _ (fun l R hl hR hn hpre => ?_)
  match l, hl, R, hR with
  | [i], zl, [(true, xs)], zr =>
    clear zl zr
    obtain rfl : xs = [] := hn _ (List.Mem.head _) rfl
    have hp0 := hpre _ (List.Mem.head _); try dsimp only at hp0
    have hp1 := hpre _ (List.Mem.tail _ (List.Mem.head _)); try dsimp only at hp1
    have hp2 := hpre _ (List.Mem.tail _ (List.Mem.tail _ (List.Mem.head _))); try dsimp only at hp2
    skip
    exact absurd hp2 (by simp only [List.length_nil]; omega)
  | [i], zl, [(false, xs)], zr =>
    clear zl zr
    have hp0 := hpre _ (List.Mem.head _); try dsimp only at hp0
    have hp1 := hpre _ (List.Mem.tail _ (List.Mem.head _)); try dsimp only at hp1
    have hp2 := hpre _ (List.Mem.tail _ (List.Mem.tail _ (List.Mem.head _))); try dsimp only at hp2
    skip
    repeat' (first | (with_reducible refine And.intro ?_ ?_) | (with_reducible intro h) | ((fail_if_success (with_reducible refine Leaf.mk ?_)); (fail_if_success (with_reducible refine VC.mk ?_)); (fail_if_success (with_reducible refine Goes.mk ?_)); (fail_if_success (with_reducible refine Again.mk ?_)); (fail_if_success (with_reducible refine Rounds.mk ?_)); (fail_if_success (with_reducible show False)); (fail_if_success (with_reducible show True)); conv => whnf))
    all_goals try simp only [decide_eq_true_eq, decide_eq_false_iff_not, tkA, tkL, Nat.zero_add, Nat.reduceAdd, Int.toNat_natCast, List.take_nil, List.nil_append] at *
    all_goals try simp only [Bool.not_eq_true', Bool.not_eq_false', Bool.and_eq_true, decide_eq_true_eq, decide_eq_false_iff_not] at *
    all_goals try first | exact trivial | (show False; omega) | exact Leaf.mk trivial | exact Leaf.mk rfl | (refine VC.mk ?_; first | trivial | assumption | ((try simp only [InR, decide_eq_true_eq, decide_eq_false_iff_not] at *); omega) | (simp; done))
    all_goals (refine Leaf.mk ?_; unfold isFr; rw [Bool.eq_iff_iff]; simp only [Bool.and_eq_true, Bool.not_eq_true', Bool.true_eq_false, Bool.false_eq_true, false_iff, true_iff, decide_eq_true_eq, decide_eq_false_iff_not] at *; omega)
def c_ref35_IsFriction : Con := ⟨36, rowRun [.rows 14, .num 0] (fun l R => match l, R with | [i], [xs] => [xs.length ≤ 100000, 0 ≤ i, i < xs.length] | _, _ => [False]) fun l R => match l, R with
  | [i], [xs] => .bool (isFr xs i)
  | _, _ => .any⟩
set_option maxRecDepth 100000 in
set_option maxHeartbeats 2000000 in
theorem con_ref35_IsFriction : c_ref35_IsFriction.Ok Try.prog := by
  refine con_rows (C := []) (pl := []) Try.func36 rfl (by kernel_rfl) T_ok (Cons.nil _) mixed (by kernel_rfl) _ _ _ (fun l R hl hR hn hpre => ?_)
  match l, hl, R, hR with
  | [i], zl, [(true, xs)], zr =>
    clear zl zr
    obtain rfl : xs = [] := hn _ (List.Mem.head _) rfl
    have hp0 := hpre _ (List.Mem.head _); try dsimp only at hp0
    have hp1 := hpre _ (List.Mem.tail _ (List.Mem.head _)); try dsimp only at hp1
    have hp2 := hpre _ (List.Mem.tail _ (List.Mem.tail _ (List.Mem.head _))); try dsimp only at hp2
    skip
    exact absurd hp2 (by simp only [List.length_nil]; omega)
  | [i], zl, [(false, xs)], zr =>
    clear zl zr
    have hp0 := hpre _ (List.Mem.head _); try dsimp only at hp0
    have hp1 := hpre _ (List.Mem.tail _ (List.Mem.head _)); try dsimp only at hp1
    have hp2 := hpre _ (List.Mem.tail _ (List.Mem.tail _ (List.Mem.head _))); try dsimp only at hp2
    skip
    repeat' (first | (with_reducible refine And.intro ?_ ?_) | (with_reducible intro h) | ((fail_if_success (with_reducible refine Leaf.mk ?_)); (fail_if_success (with_reducible refine VC.mk ?_)); (fail_if_success (with_reducible refine Goes.mk ?_)); (fail_if_success (with_reducible refine Again.mk ?_)); (fail_if_success (with_reducible refine Rounds.mk ?_)); (fail_if_success (with_reducible show False)); (fail_if_success (with_reducible show True)); conv => whnf))
    all_goals try simp only [decide_eq_true_eq, decide_eq_false_iff_not, tkA, tkL, Nat.zero_add, Nat.reduceAdd, Int.toNat_natCast, List.take_nil, List.nil_append] at *
    all_goals try simp only [Bool.not_eq_true', Bool.not_eq_false', Bool.and_eq_true, decide_eq_true_eq, decide_eq_false_iff_not] at *
    all_goals try first | exact trivial | (show False; omega) | exact Leaf.mk trivial | exact Leaf.mk rfl | (refine VC.mk ?_; first | trivial | assumption | ((try simp only [InR, decide_eq_true_eq, decide_eq_false_iff_not] at *); omega) | (simp; done))
    all_goals (refine Leaf.mk ?_; unfold isFr; rw [Bool.eq_iff_iff]; simp only [Bool.and_eq_true, Bool.not_eq_true', Bool.true_eq_false, Bool.false_eq_true, false_iff, true_iff, decide_eq_true_eq, decide_eq_false_iff_not] at *; omega)
def c_solver_atBound : Con := ⟨75, rowRun [.num 14, .num 0] (fun l R => match l, R with | [ra, rb, nx, ny, aa, ab, em, bi, lo, up, so, im, fo, fr, d], [] => [] | _, _ => [False]) fun l R => match l, R with
  | [ra, rb, nx, ny, aa, ab, em, bi, lo, up, so, im, fo, fr, d], [] => .bool ((decide (0 < d) && decide (im = lo)) || (decide (d < 0) && decide (im = up)))
  | _, _ => .any⟩
set_option maxRecDepth 100000 in
set_option maxHeartbeats 2000000 in
theorem con_solver_atBound : c_solver_atBound.Ok Try.prog := by
  refine con_rows (C := []) (pl := []) Try.func75 rfl (by kernel_rfl) T_ok (Cons.nil _) mixed (by kernel_rfl) _ _ _ (fun l R hl hR hn hpre => ?_)
  match l, hl, R, hR with
  | [ra, rb, nx, ny, aa, ab, em, bi, lo, up, so, im, fo, fr, d], zl, [], zr =>
    clear zl zr
    repeat' (first | (with_reducible refine And.intro ?_ ?_) | (with_reducible intro h) | ((fail_if_success (with_reducible refine Leaf.mk ?_)); (fail_if_success (with_reducible refine VC.mk ?_)); (fail_if_success (with_reducible refine Goes.mk ?_)); (fail_if_success (with_reducible refine Again.mk ?_)); (fail_if_success (with_reducible refine Rounds.mk ?_)); (fail_if_success (with_reducible show False)); (fail_if_success (with_reducible show True)); conv => whnf))
    all_goals try simp only [decide_eq_true_eq, decide_eq_false_iff_not, tkA, tkL, Nat.zero_add, Nat.reduceAdd, Int.toNat_natCast, List.take_nil, List.nil_append] at *
    all_goals try simp only [Bool.not_eq_true', Bool.not_eq_false', Bool.and_eq_true, decide_eq_true_eq, decide_eq_false_iff_not] at *
    all_goals try first | exact trivial | (show False; omega) | exact Leaf.mk trivial | exact Leaf.mk rfl | (refine VC.mk ?_; first | trivial | assumption | ((try simp only [InR, decide_eq_true_eq, decide_eq_false_iff_not] at *); omega) | (simp; done))
    all_goals (refine Leaf.mk ?_; rw [Bool.eq_iff_iff]; simp only [Bool.or_eq_true, Bool.and_eq_true, Bool.not_eq_true', Bool.true_eq_false, Bool.false_eq_true, false_iff, true_iff, decide_eq_true_eq, decide_eq_false_iff_not] at *; omega)
def c_solver_MaxResidual : Con := ⟨45, rowRun [.rows 14, .rows 5] (fun l R => match l, R with | [], [xs, ys] => [xs.length ≤ 100000, ys.length ≤ 100000, wf 14 xs, wf 5 ys] | _, _ => [False]) fun l R => match l, R with
  | [], [xs, ys] => .int .i64 (mrN xs ys xs.length)
  | _, _ => .any⟩
set_option maxRecDepth 100000 in
set_option maxHeartbeats 2000000 in
theorem con_solver_MaxResidual : c_solver_MaxResidual.Ok Try.prog := by
  refine con_rows (C := [c_constraint_RelativeVelocity, c_fixed_Add, c_solver_isFriction, c_solver_atBound]) (pl := [(5, [0, 1, 2, 3, 4, 5, 6], [0, 0, 3, 0, 8, 31, 63])]) Try.func45 rfl (by kernel_rfl) T_ok (Cons.cons con_constraint_RelativeVelocity (Cons.cons con_fixed_Add (Cons.cons con_solver_isFriction (Cons.cons con_solver_atBound (Cons.nil _))))) mixed (by kernel_rfl) _ _ _ (fun l R hl hR hn hpre => ?_)
  match l, hl, R, hR with
  | [], zl, [(true, xs), (true, ys)], zr =>
    clear zl zr
    obtain rfl : xs = [] := hn _ (List.Mem.head _) rfl
    obtain rfl : ys = [] := hn _ (List.Mem.tail _ (List.Mem.head _)) rfl
    have hp0 := hpre _ (List.Mem.head _); try dsimp only at hp0
    have hp1 := hpre _ (List.Mem.tail _ (List.Mem.head _)); try dsimp only at hp1
    have hp2 := hpre _ (List.Mem.tail _ (List.Mem.tail _ (List.Mem.head _))); try dsimp only at hp2
    have hp3 := hpre _ (List.Mem.tail _ (List.Mem.tail _ (List.Mem.tail _ (List.Mem.head _)))); try dsimp only at hp3
    skip
    repeat' (first | (with_reducible refine And.intro ?_ ?_) | (with_reducible intro h) | ((fail_if_success (with_reducible refine Leaf.mk ?_)); (fail_if_success (with_reducible refine VC.mk ?_)); (fail_if_success (with_reducible refine Goes.mk ?_)); (fail_if_success (with_reducible refine Again.mk ?_)); (fail_if_success (with_reducible refine Rounds.mk ?_)); (fail_if_success (with_reducible show False)); (fail_if_success (with_reducible show True)); conv => whnf))
    all_goals try simp only [decide_eq_true_eq, decide_eq_false_iff_not, tkA, tkL, Nat.zero_add, Nat.reduceAdd, Int.toNat_natCast, List.take_nil, List.nil_append] at *
    all_goals try simp only [Bool.or_eq_true, Bool.and_eq_true, Bool.not_eq_true', Bool.not_eq_false', Bool.or_eq_false_iff, Bool.and_eq_false_imp, decide_eq_true_eq, decide_eq_false_iff_not] at *
    all_goals try first | exact trivial | (show False; omega) | exact Leaf.mk trivial | exact Leaf.mk rfl | (refine VC.mk ?_; first | trivial | assumption | ((try simp only [InR, decide_eq_true_eq, decide_eq_false_iff_not] at *); omega) | (simp; done))
    all_goals try (refine VC.mk ?_; first | trivial | (first | assumption | exact wf_nil _ | exact wsN_wf _ (by first | assumption | exact wf_nil _) _ | exact clN_wf (by first | assumption | exact wf_nil _) _ | exact (itN_wf (by first | assumption | exact wf_nil _) (by first | assumption | exact wf_nil _) _).1 | exact (itN_wf (by first | assumption | exact wf_nil _) (by first | assumption | exact wf_nil _) _).2 | exact (seN_wf (by first | assumption | exact wf_nil _) (by first | assumption | exact wf_nil _) _).1 | exact (seN_wf (by first | assumption | exact wf_nil _) (by first | assumption | exact wf_nil _) _).2) | (simp only [List.length_nil] at *; omega) | omega | (generalize decide _ = bb; cases bb <;> simp) | (intro hh; generalize decide _ = bb at *; cases bb <;> simp_all) | (simp; done))
    all_goals try refine goes_rounds 1 ?_
    all_goals try (refine rounds_one (pl := [(5, [0, 1, 2, 3, 4, 5, 6], [0, 0, 3, 0, 8, 31, 63])]) T_ok (Cons.cons con_constraint_RelativeVelocity (Cons.cons con_fixed_Add (Cons.cons con_solver_isFriction (Cons.cons con_solver_atBound (Cons.nil _))))) mixed (by kernel_rfl) ?_; repeat' (first | (with_reducible refine And.intro ?_ ?_) | (with_reducible intro h) | ((fail_if_success (with_reducible refine Leaf.mk ?_)); (fail_if_success (with_reducible refine VC.mk ?_)); (fail_if_success (with_reducible refine Goes.mk ?_)); (fail_if_success (with_reducible refine Again.mk ?_)); (fail_if_success (with_reducible refine Rounds.mk ?_)); (fail_if_success (with_reducible show False)); (fail_if_success (with_reducible show True)); conv => whnf)))
    all_goals try simp only [decide_eq_true_eq, decide_eq_false_iff_not, tkA, tkL, Nat.zero_add, Nat.reduceAdd, Int.toNat_natCast, List.take_nil, List.nil_append] at *
    all_goals try simp only [List.length_nil, Int.natCast_zero, Int.ofNat_zero] at *
    all_goals try (exfalso; omega)
    all_goals try first | exact trivial | (show False; omega) | exact Leaf.mk trivial | exact Leaf.mk rfl | (refine VC.mk ?_; first | trivial | assumption | ((try simp only [InR, decide_eq_true_eq, decide_eq_false_iff_not] at *); omega) | (simp; done))
    all_goals try (refine VC.mk ?_; first | trivial | (first | assumption | exact wf_nil _ | exact wsN_wf _ (by first | assumption | exact wf_nil _) _ | exact clN_wf (by first | assumption | exact wf_nil _) _ | exact (itN_wf (by first | assumption | exact wf_nil _) (by first | assumption | exact wf_nil _) _).1 | exact (itN_wf (by first | assumption | exact wf_nil _) (by first | assumption | exact wf_nil _) _).2 | exact (seN_wf (by first | assumption | exact wf_nil _) (by first | assumption | exact wf_nil _) _).1 | exact (seN_wf (by first | assumption | exact wf_nil _) (by first | assumption | exact wf_nil _) _).2) | (simp only [List.length_nil] at *; omega) | omega | (generalize decide _ = bb; cases bb <;> simp) | (intro hh; generalize decide _ = bb at *; cases bb <;> simp_all) | (simp; done))
    all_goals (refine Leaf.mk ?_; first | rfl | (simp [mrN]; done))
  | [], zl, [(true, xs), (false, ys)], zr =>
    clear zl zr
    obtain rfl : xs = [] := hn _ (List.Mem.head _) rfl
    have hp0 := hpre _ (List.Mem.head _); try dsimp only at hp0
    have hp1 := hpre _ (List.Mem.tail _ (List.Mem.head _)); try dsimp only at hp1
    have hp2 := hpre _ (List.Mem.tail _ (List.Mem.tail _ (List.Mem.head _))); try dsimp only at hp2
    have hp3 := hpre _ (List.Mem.tail _ (List.Mem.tail _ (List.Mem.tail _ (List.Mem.head _)))); try dsimp only at hp3
    skip
    repeat' (first | (with_reducible refine And.intro ?_ ?_) | (with_reducible intro h) | ((fail_if_success (with_reducible refine Leaf.mk ?_)); (fail_if_success (with_reducible refine VC.mk ?_)); (fail_if_success (with_reducible refine Goes.mk ?_)); (fail_if_success (with_reducible refine Again.mk ?_)); (fail_if_success (with_reducible refine Rounds.mk ?_)); (fail_if_success (with_reducible show False)); (fail_if_success (with_reducible show True)); conv => whnf))
    all_goals try simp only [decide_eq_true_eq, decide_eq_false_iff_not, tkA, tkL, Nat.zero_add, Nat.reduceAdd, Int.toNat_natCast, List.take_nil, List.nil_append] at *
    all_goals try simp only [Bool.or_eq_true, Bool.and_eq_true, Bool.not_eq_true', Bool.not_eq_false', Bool.or_eq_false_iff, Bool.and_eq_false_imp, decide_eq_true_eq, decide_eq_false_iff_not] at *
    all_goals try first | exact trivial | (show False; omega) | exact Leaf.mk trivial | exact Leaf.mk rfl | (refine VC.mk ?_; first | trivial | assumption | ((try simp only [InR, decide_eq_true_eq, decide_eq_false_iff_not] at *); omega) | (simp; done))
    all_goals try (refine VC.mk ?_; first | trivial | (first | assumption | exact wf_nil _ | exact wsN_wf _ (by first | assumption | exact wf_nil _) _ | exact clN_wf (by first | assumption | exact wf_nil _) _ | exact (itN_wf (by first | assumption | exact wf_nil _) (by first | assumption | exact wf_nil _) _).1 | exact (itN_wf (by first | assumption | exact wf_nil _) (by first | assumption | exact wf_nil _) _).2 | exact (seN_wf (by first | assumption | exact wf_nil _) (by first | assumption | exact wf_nil _) _).1 | exact (seN_wf (by first | assumption | exact wf_nil _) (by first | assumption | exact wf_nil _) _).2) | (simp only [List.length_nil] at *; omega) | omega | (generalize decide _ = bb; cases bb <;> simp) | (intro hh; generalize decide _ = bb at *; cases bb <;> simp_all) | (simp; done))
    all_goals try refine goes_rounds 1 ?_
    all_goals try (refine rounds_one (pl := [(5, [0, 1, 2, 3, 4, 5, 6], [0, 0, 3, 0, 8, 31, 63])]) T_ok (Cons.cons con_constraint_RelativeVelocity (Cons.cons con_fixed_Add (Cons.cons con_solver_isFriction (Cons.cons con_solver_atBound (Cons.nil _))))) mixed (by kernel_rfl) ?_; repeat' (first | (with_reducible refine And.intro ?_ ?_) | (with_reducible intro h) | ((fail_if_success (with_reducible refine Leaf.mk ?_)); (fail_if_success (with_reducible refine VC.mk ?_)); (fail_if_success (with_reducible refine Goes.mk ?_)); (fail_if_success (with_reducible refine Again.mk ?_)); (fail_if_success (with_reducible refine Rounds.mk ?_)); (fail_if_success (with_reducible show False)); (fail_if_success (with_reducible show True)); conv => whnf)))
    all_goals try simp only [decide_eq_true_eq, decide_eq_false_iff_not, tkA, tkL, Nat.zero_add, Nat.reduceAdd, Int.toNat_natCast, List.take_nil, List.nil_append] at *
    all_goals try simp only [List.length_nil, Int.natCast_zero, Int.ofNat_zero] at *
    all_goals try (exfalso; omega)
    all_goals try first | exact trivial | (show False; omega) | exact Leaf.mk trivial | exact Leaf.mk rfl | (refine VC.mk ?_; first | trivial | assumption | ((try simp only [InR, decide_eq_true_eq, decide_eq_false_iff_not] at *); omega) | (simp; done))
    all_goals try (refine VC.mk ?_; first | trivial | (first | assumption | exact wf_nil _ | exact wsN_wf _ (by first | assumption | exact wf_nil _) _ | exact clN_wf (by first | assumption | exact wf_nil _) _ | exact (itN_wf (by first | assumption | exact wf_nil _) (by first | assumption | exact wf_nil _) _).1 | exact (itN_wf (by first | assumption | exact wf_nil _) (by first | assumption | exact wf_nil _) _).2 | exact (seN_wf (by first | assumption | exact wf_nil _) (by first | assumption | exact wf_nil _) _).1 | exact (seN_wf (by first | assumption | exact wf_nil _) (by first | assumption | exact wf_nil _) _).2) | (simp only [List.length_nil] at *; omega) | omega | (generalize decide _ = bb; cases bb <;> simp) | (intro hh; generalize decide _ = bb at *; cases bb <;> simp_all) | (simp; done))
    all_goals (refine Leaf.mk ?_; first | rfl | (simp [mrN]; done))
  | [], zl, [(false, xs), (true, ys)], zr =>
    clear zl zr
    obtain rfl : ys = [] := hn _ (List.Mem.tail _ (List.Mem.head _)) rfl
    have hp0 := hpre _ (List.Mem.head _); try dsimp only at hp0
    have hp1 := hpre _ (List.Mem.tail _ (List.Mem.head _)); try dsimp only at hp1
    have hp2 := hpre _ (List.Mem.tail _ (List.Mem.tail _ (List.Mem.head _))); try dsimp only at hp2
    have hp3 := hpre _ (List.Mem.tail _ (List.Mem.tail _ (List.Mem.tail _ (List.Mem.head _)))); try dsimp only at hp3
    skip
    repeat' (first | (with_reducible refine And.intro ?_ ?_) | (with_reducible intro h) | ((fail_if_success (with_reducible refine Leaf.mk ?_)); (fail_if_success (with_reducible refine VC.mk ?_)); (fail_if_success (with_reducible refine Goes.mk ?_)); (fail_if_success (with_reducible refine Again.mk ?_)); (fail_if_success (with_reducible refine Rounds.mk ?_)); (fail_if_success (with_reducible show False)); (fail_if_success (with_reducible show True)); conv => whnf))
    all_goals try simp only [decide_eq_true_eq, decide_eq_false_iff_not, tkA, tkL, Nat.zero_add, Nat.reduceAdd, Int.toNat_natCast, List.take_nil, List.nil_append] at *
    all_goals try simp only [Bool.or_eq_true, Bool.and_eq_true, Bool.not_eq_true', Bool.not_eq_false', Bool.or_eq_false_iff, Bool.and_eq_false_imp, decide_eq_true_eq, decide_eq_false_iff_not] at *
    all_goals try first | exact trivial | (show False; omega) | exact Leaf.mk trivial | exact Leaf.mk rfl | (refine VC.mk ?_; first | trivial | assumption | ((try simp only [InR, decide_eq_true_eq, decide_eq_false_iff_not] at *); omega) | (simp; done))
    all_goals try (refine VC.mk ?_; first | trivial | (first | assumption | exact wf_nil _ | exact wsN_wf _ (by first | assumption | exact wf_nil _) _ | exact clN_wf (by first | assumption | exact wf_nil _) _ | exact (itN_wf (by first | assumption | exact wf_nil _) (by first | assumption | exact wf_nil _) _).1 | exact (itN_wf (by first | assumption | exact wf_nil _) (by first | assumption | exact wf_nil _) _).2 | exact (seN_wf (by first | assumption | exact wf_nil _) (by first | assumption | exact wf_nil _) _).1 | exact (seN_wf (by first | assumption | exact wf_nil _) (by first | assumption | exact wf_nil _) _).2) | (simp only [List.length_nil] at *; omega) | omega | (generalize decide _ = bb; cases bb <;> simp) | (intro hh; generalize decide _ = bb at *; cases bb <;> simp_all) | (simp; done))
    refine goes_inv (X := Nat) (pl := [(5, [0, 1, 2, 3, 4, 5, 6], [0, 0, 3, 0, 8, 31, 63])]) T_ok (Cons.cons con_constraint_RelativeVelocity (Cons.cons con_fixed_Add (Cons.cons con_solver_isFriction (Cons.cons con_solver_atBound (Cons.nil _))))) mixed (by kernel_rfl)
      (fun k => (.sl 0 14 0 xs.length :: .nils :: .any :: .any :: .any :: .int .i64 (mrN xs ([] : List (List Int)) k) :: .any :: .any :: .any :: .sl 0 14 0 xs.length :: .int .i64 (xs.length : Int) :: .int .i64 (k : Int) :: .any :: .any :: .any :: .any :: .any :: .any :: .any :: .any :: .any :: .any :: .any :: .any :: .any :: .any :: .any :: .any :: .any :: .any :: .any :: .any :: .any :: .any :: .any :: .any :: .any :: [], [.arr false true 14 xs, .arr false false 5 ([] : List (List Int))]))
      (fun k => k ≤ xs.length) (fun k => xs.length - k) 0 [0, 1] (Nat.zero_le _) ?_ ?_ ?_
    · repeat' (first | (with_reducible refine And.intro ?_ ?_) | (with_reducible intro h) | ((fail_if_success (with_reducible refine Leaf.mk ?_)); (fail_if_success (with_reducible refine VC.mk ?_)); (fail_if_success (with_reducible refine Goes.mk ?_)); (fail_if_success (with_reducible refine Again.mk ?_)); (fail_if_success (with_reducible refine Rounds.mk ?_)); (fail_if_success (with_reducible show False)); (fail_if_success (with_reducible show True)); conv => whnf))
      all_goals first | exact trivial | (refine Leaf.mk ?_; first | rfl | exact ⟨rfl, rfl⟩ | (simp; done))
    · repeat' (first | (with_reducible refine And.intro ?_ ?_) | (with_reducible intro h) | ((fail_if_success (with_reducible refine Leaf.mk ?_)); (fail_if_success (with_reducible refine VC.mk ?_)); (fail_if_success (with_reducible refine Goes.mk ?_)); (fail_if_success (with_reducible refine Again.mk ?_)); (fail_if_success (with_reducible refine Rounds.mk ?_)); (fail_if_success (with_reducible show False)); (fail_if_success (with_reducible show True)); conv => whnf))
      all_goals first | exact trivial | (refine Leaf.mk ?_; first | rfl | exact ⟨rfl, rfl⟩ | (simp; done))
    · intro k hx
      have hd : add (relV ([] : List (List Int)) (at2 xs k 0) (at2 xs k 1) (at2 xs k 2) (at2 xs k 3) (at2 xs k 4) (at2 xs k 5)) (at2 xs k 7) = resD xs ([] : List (List Int)) k := rfl
      have bd := resD_bd xs ([] : List (List Int)) k
      have bm := mrN_bd xs ([] : List (List Int)) k
      repeat' (first | (with_reducible refine And.intro ?_ ?_) | (with_reducible intro h) | ((fail_if_success (with_reducible refine Leaf.mk ?_)); (fail_if_success (with_reducible refine VC.mk ?_)); (fail_if_success (with_reducible refine Goes.mk ?_)); (fail_if_success (with_reducible refine Again.mk ?_)); (fail_if_success (with_reducible refine Rounds.mk ?_)); (fail_if_success (with_reducible show False)); (fail_if_success (with_reducible show True)); conv => whnf))
      all_goals try simp only [decide_eq_true_eq, decide_eq_false_iff_not, tkA, tkL, Nat.zero_add, Nat.reduceAdd, Int.toNat_natCast, List.take_nil, List.nil_append] at *
      all_goals try simp only [hd] at *
      all_goals try simp only [Bool.or_eq_true, Bool.and_eq_true, Bool.not_eq_true', Bool.not_eq_false', Bool.or_eq_false_iff, Bool.and_eq_false_imp, decide_eq_true_eq, decide_eq_false_iff_not] at *
      all_goals try first | exact trivial | (show False; omega) | exact Leaf.mk trivial | exact Leaf.mk rfl | (refine VC.mk ?_; first | trivial | assumption | ((try simp only [InR, decide_eq_true_eq, decide_eq_false_iff_not] at *); omega) | (simp; done))
      all_goals try (refine VC.mk ?_; first | trivial | (first | assumption | exact wf_nil _ | exact wsN_wf _ (by first | assumption | exact wf_nil _) _ | exact clN_wf (by first | assumption | exact wf_nil _) _ | exact (itN_wf (by first | assumption | exact wf_nil _) (by first | assumption | exact wf_nil _) _).1 | exact (itN_wf (by first | assumption | exact wf_nil _) (by first | assumption | exact wf_nil _) _).2 | exact (seN_wf (by first | assumption | exact wf_nil _) (by first | assumption | exact wf_nil _) _).1 | exact (seN_wf (by first | assumption | exact wf_nil _) (by first | assumption | exact wf_nil _) _).2) | (simp only [List.length_nil] at *; omega) | omega | (generalize decide _ = bb; cases bb <;> simp) | (intro hh; generalize decide _ = bb at *; cases bb <;> simp_all) | (simp; done))
      all_goals try (obtain rfl : k = xs.length := (by omega); refine Leaf.mk ?_; rfl)
      all_goals (have hlt : k < xs.length := by omega
                 (refine Again.mk ⟨k + 1, [0, 1], hlt, (by omega), ?_, ?_⟩ <;> (repeat' (first | (with_reducible refine And.intro ?_ ?_) | (with_reducible intro h) | ((fail_if_success (with_reducible refine Leaf.mk ?_)); (fail_if_success (with_reducible refine VC.mk ?_)); (fail_if_success (with_reducible refine Goes.mk ?_)); (fail_if_success (with_reducible refine Again.mk ?_)); (fail_if_success (with_reducible refine Rounds.mk ?_)); (fail_if_success (with_reducible show False)); (fail_if_success (with_reducible show True)); conv => whnf))) <;> first | exact trivial | (refine Leaf.mk ?_; first | rfl | exact ⟨rfl, rfl⟩ | (simp; done) | exact (mrN_skip (Or.inl (by assumption))).symm | exact (mrN_skip (Or.inr (atB'_iff.2 (by omega)))).symm | (rw [mrN_take (by assumption) (atB'_no (by omega))] <;> omega))))
  | [], zl, [(false, xs), (false, ys)], zr =>
    clear zl zr
    have hp0 := hpre _ (List.Mem.head _); try dsimp only at hp0
    have hp1 := hpre _ (List.Mem.tail _ (List.Mem.head _)); try dsimp only at hp1
    have hp2 := hpre _ (List.Mem.tail _ (List.Mem.tail _ (List.Mem.head _))); try dsimp only at hp2
    have hp3 := hpre _ (List.Mem.tail _ (List.Mem.tail _ (List.Mem.tail _ (List.Mem.head _)))); try dsimp only at hp3
    skip
    repeat' (first | (with_reducible refine And.intro ?_ ?_) | (with_reducible intro h) | ((fail_if_success (with_reducible refine Leaf.mk ?_)); (fail_if_success (with_reducible refine VC.mk ?_)); (fail_if_success (with_reducible refine Goes.mk ?_)); (fail_if_success (with_reducible refine Again.mk ?_)); (fail_if_success (with_reducible refine Rounds.mk ?_)); (fail_if_success (with_reducible show False)); (fail_if_success (with_reducible show True)); conv => whnf))
    all_goals try simp only [decide_eq_true_eq, decide_eq_false_iff_not, tkA, tkL, Nat.zero_add, Nat.reduceAdd, Int.toNat_natCast, List.take_nil, List.nil_append] at *
    all_goals try simp only [Bool.or_eq_true, Bool.and_eq_true, Bool.not_eq_true', Bool.not_eq_false', Bool.or_eq_false_iff, Bool.and_eq_false_imp, decide_eq_true_eq, decide_eq_false_iff_not] at *
    all_goals try first | exact trivial | (show False; omega) | exact Leaf.mk trivial | exact Leaf.mk rfl | (refine VC.mk ?_; first | trivial | assumption | ((try simp only [InR, decide_eq_true_eq, decide_eq_false_iff_not] at *); omega) | (simp; done))
    all_goals try (refine VC.mk ?_; first | trivial | (first | assumption | exact wf_nil _ | exact wsN_wf _ (by first | assumption | exact wf_nil _) _ | exact clN_wf (by first | assumption | exact wf_nil _) _ | exact (itN_wf (by first | assumption | exact wf_nil _) (by first | assumption | exact wf_nil _) _).1 | exact (itN_wf (by first | assumption | exact wf_nil _) (by first | assumption | exact wf_nil _) _).2 | exact (seN_wf (by first | assumption | exact wf_nil _) (by first | assumption | exact wf_nil _) _).1 | exact (seN_wf (by first | assumption | exact wf_nil _) (by first | assumption | exact wf_nil _) _).2) | (simp only [List.length_nil] at *; omega) | omega | (generalize decide _ = bb; cases bb <;> simp) | (intro hh; generalize decide _ = bb at *; cases bb <;> simp_all) | (simp; done))
    refine goes_inv (X := Nat) (pl := [(5, [0, 1, 2, 3, 4, 5, 6], [0, 0, 3, 0, 8, 31, 63])]) T_ok (Cons.cons con_constraint_RelativeVelocity (Cons.cons con_fixed_Add (Cons.cons con_solver_isFriction (Cons.cons con_solver_atBound (Cons.nil _))))) mixed (by kernel_rfl)
      (fun k => (.sl 0 14 0 xs.length :: .sl 1 5 0 ys.length :: .any :: .any :: .any :: .int .i64 (mrN xs ys k) :: .any :: .any :: .any :: .sl 0 14 0 xs.length :: .int .i64 (xs.length : Int) :: .int .i64 (k : Int) :: .any :: .any :: .any :: .any :: .any :: .any :: .any :: .any :: .any :: .any :: .any :: .any :: .any :: .any :: .any :: .any :: .any :: .any :: .any :: .any :: .any :: .any :: .any :: .any :: .any :: [], [.arr false true 14 xs, .arr false true 5 ys]))
      (fun k => k ≤ xs.length) (fun k => xs.length - k) 0 [0, 1] (Nat.zero_le _) ?_ ?_ ?_
    · repeat' (first | (with_reducible refine And.intro ?_ ?_) | (with_reducible intro h) | ((fail_if_success (with_reducible refine Leaf.mk ?_)); (fail_if_success (with_reducible refine VC.mk ?_)); (fail_if_success (with_reducible refine Goes.mk ?_)); (fail_if_success (with_reducible refine Again.mk ?_)); (fail_if_success (with_reducible refine Rounds.mk ?_)); (fail_if_success (with_reducible show False)); (fail_if_success (with_reducible show True)); conv => whnf))
      all_goals first | exact trivial | (refine Leaf.mk ?_; first | rfl | exact ⟨rfl, rfl⟩ | (simp; done))
    · repeat' (first | (with_reducible refine And.intro ?_ ?_) | (with_reducible intro h) | ((fail_if_success (with_reducible refine Leaf.mk ?_)); (fail_if_success (with_reducible refine VC.mk ?_)); (fail_if_success (with_reducible refine Goes.mk ?_)); (fail_if_success (with_reducible refine Again.mk ?_)); (fail_if_success (with_reducible refine Rounds.mk ?_)); (fail_if_success (with_reducible show False)); (fail_if_success (with_reducible show True)); conv => whnf))
      all_goals first | exact trivial | (refine Leaf.mk ?_; first | rfl | exact ⟨rfl, rfl⟩ | (simp; done))
    · intro k hx
      have hd : add (relV ys (at2 xs k 0) (at2 xs k 1) (at2 xs k 2) (at2 xs k 3) (at2 xs k 4) (at2 xs k 5)) (at2 xs k 7) = resD xs ys k := rfl
      have bd := resD_bd xs ys k
      have bm := mrN_bd xs ys k
      repeat' (first | (with_reducible refine And.intro ?_ ?_) | (with_reducible intro h) | ((fail_if_success (with_reducible refine Leaf.mk ?_)); (fail_if_success (with_reducible refine VC.mk ?_)); (fail_if_success (with_reducible refine Goes.mk ?_)); (fail_if_success (with_reducible refine Again.mk ?_)); (fail_if_success (with_reducible refine Rounds.mk ?_)); (fail_if_success (with_reducible show False)); (fail_if_success (with_reducible show True)); conv => whnf))
      all_goals try simp only [decide_eq_true_eq, decide_eq_false_iff_not, tkA, tkL, Nat.zero_add, Nat.reduceAdd, Int.toNat_natCast, List.take_nil, List.nil_append] at *
      all_goals try simp only [hd] at *
      all_goals try simp only [Bool.or_eq_true, Bool.and_eq_true, Bool.not_eq_true', Bool.not_eq_false', Bool.or_eq_false_iff, Bool.and_eq_false_imp, decide_eq_true_eq, decide_eq_false_iff_not] at *
      all_goals try first | exact trivial | (show False; omega) | exact Leaf.mk trivial | exact Leaf.mk rfl | (refine VC.mk ?_; first | trivial | assumption | ((try simp only [InR, decide_eq_true_eq, decide_eq_false_iff_not] at *); omega) | (simp; done))
      all_goals try (refine VC.mk ?_; first | trivial | (first | assumption | exact wf_nil _ | exact wsN_wf _ (by first | assumption | exact wf_nil _) _ | exact clN_wf (by first | assumption | exact wf_nil _) _ | exact (itN_wf (by first | assumption | exact wf_nil _) (by first | assumption | exact wf_nil _) _).1 | exact (itN_wf (by first | assumption | exact wf_nil _) (by first | assumption | exact wf_nil _) _).2 | exact (seN_wf (by first | assumption | exact wf_nil _) (by first | assumption | exact wf_nil _) _).1 | exact (seN_wf (by first | assumption | exact wf_nil _) (by first | assumption | exact wf_nil _) _).2) | (simp only [List.length_nil] at *; omega) | omega | (generalize decide _ = bb; cases bb <;> simp) | (intro hh; generalize decide _ = bb at *; cases bb <;> simp_all) | (simp; done))
      all_goals try (obtain rfl : k = xs.length := (by omega); refine Leaf.mk ?_; rfl)
      all_goals (have hlt : k < xs.length := by omega
                 (refine Again.mk ⟨k + 1, [0, 1], hlt, (by omega), ?_, ?_⟩ <;> (repeat' (first | (with_reducible refine And.intro ?_ ?_) | (with_reducible intro h) | ((fail_if_success (with_reducible refine Leaf.mk ?_)); (fail_if_success (with_reducible refine VC.mk ?_)); (fail_if_success (with_reducible refine Goes.mk ?_)); (fail_if_success (with_reducible refine Again.mk ?_)); (fail_if_success (with_reducible refine Rounds.mk ?_)); (fail_if_success (with_reducible show False)); (fail_if_success (with_reducible show True)); conv => whnf))) <;> first | exact trivial | (refine Leaf.mk ?_; first | rfl | exact ⟨rfl, rfl⟩ | (simp; done) | exact (mrN_skip (Or.inl (by assumption))).symm | exact (mrN_skip (Or.inr (atB'_iff.2 (by omega)))).symm | (rw [mrN_take (by assumption) (atB'_no (by omega))] <;> omega))))
def c_ref35_MaxResidual : Con := ⟨46, rowRun [.rows 14, .rows 5] (fun l R => match l, R with | [], [xs, ys] => [xs.length ≤ 100000, ys.length ≤ 100000, wf 14 xs, wf 5 ys] | _, _ => [False]) fun l R => match l, R with
  | [], [xs, ys] => .int .i64 (mrN xs ys xs.length)
  | _, _ => .any⟩
set_option maxRecDepth 100000 in
set_option maxHeartbeats 2000000 in
theorem con_ref35_MaxResidual : c_ref35_MaxResidual.Ok Try.prog := by
  refine con_rows (C := [c_ref28_RelativeVelocity, c_ref01_Add, c_ref35_IsFriction]) (pl := [(6, [0, 1, 2, 3, 4, 5, 6], [0, 0, 3, 0, 8, 31, 63])]) Try.func46 rfl (by kernel_rfl) T_ok (Cons.cons con_ref28_RelativeVelocity (Cons.cons con_ref01_Add (Cons.cons con_ref35_IsFriction (Cons.nil _)))) mixed (by kernel_rfl) _ _ _ (fun l R hl hR hn hpre => ?_)
  match l, hl, R, hR with
  | [], zl, [(true, xs), (true, ys)], zr =>
    clear zl zr
    obtain rfl : xs = [] := hn _ (List.Mem.head _) rfl
    obtain rfl : ys = [] := hn _ (List.Mem.tail _ (List.Mem.head _)) rfl
    have hp0 := hpre _ (List.Mem.head _); try dsimp only at hp0
    have hp1 := hpre _ (List.Mem.tail _ (List.Mem.head _)); try dsimp only at hp1
    have hp2 := hpre _ (List.Mem.tail _ (List.Mem.tail _ (List.Mem.head _))); try dsimp only at hp2
    have hp3 := hpre _ (List.Mem.tail _ (List.Mem.tail _ (List.Mem.tail _ (List.Mem.head _)))); try dsimp only at hp3
    skip
    repeat' (first | (with_reducible refine And.intro ?_ ?_) | (with_reducible intro h) | ((fail_if_success (with_reducible refine Leaf.mk ?_)); (fail_if_success (with_reducible refine VC.mk ?_)); (fail_if_success (with_reducible refine Goes.mk ?_)); (fail_if_success (with_reducible refine Again.mk ?_)); (fail_if_success (with_reducible refine Rounds.mk ?_)); (fail_if_success (with_reducible show False)); (fail_if_success (with_reducible show True)); conv => whnf))
    all_goals try simp only [decide_eq_true_eq, decide_eq_false_iff_not, tkA, tkL, Nat.zero_add, Nat.reduceAdd, Int.toNat_natCast, List.take_nil, List.nil_append] at *
    all_goals try simp only [Bool.or_eq_true, Bool.and_eq_true, Bool.not_eq_true', Bool.not_eq_false', Bool.or_eq_false_iff, Bool.and_eq_false_imp, decide_eq_true_eq, decide_eq_false_iff_not] at *
    all_goals try first | exact trivial | (show False; omega) | exact Leaf.mk trivial | exact Leaf.mk rfl | (refine VC.mk ?_; first | trivial | assumption | ((try simp only [InR, decide_eq_true_eq, decide_eq_false_iff_not] at *); omega) | (simp; done))
    all_goals try (refine VC.mk ?_; first | trivial | (first | assumption | exact wf_nil _ | exact wsN_wf _ (by first | assumption | exact wf_nil _) _ | exact clN_wf (by first | assumption | exact wf_nil _) _ | exact (itN_wf (by first | assumption | exact wf_nil _) (by first | assumption | exact wf_nil _) _).1 | exact (itN_wf (by first | assumption | exact wf_nil _) (by first | assumption | exact wf_nil _) _).2 | exact (seN_wf (by first | assumption | exact wf_nil _) (by first | assumption | exact wf_nil _) _).1 | exact (seN_wf (by first | assumption | exact wf_nil _) (by first | assumption | exact wf_nil _) _).2) | (simp only [List.length_nil] at *; omega) | omega | (generalize decide _ = bb; cases bb <;> simp) | (intro hh; generalize decide _ = bb at *; cases bb <;> simp_all) | (simp; done))
    all_goals try refine goes_rounds 1 ?_
    all_goals try (refine rounds_one (pl := [(6, [0, 1, 2, 3, 4, 5, 6], [0, 0, 3, 0, 8, 31, 63])]) T_ok (Cons.cons con_ref28_RelativeVelocity (Cons.cons con_ref01_Add (Cons.cons con_ref35_IsFriction (Cons.nil _)))) mixed (by kernel_rfl) ?_; repeat' (first | (with_reducible refine And.intro ?_ ?_) | (with_reducible intro h) | ((fail_if_success (with_reducible refine Leaf.mk ?_)); (fail_if_success (with_reducible refine VC.mk ?_)); (fail_if_success (with_reducible refine Goes.mk ?_)); (fail_if_success (with_reducible refine Again.mk ?_)); (fail_if_success (with_reducible refine Rounds.mk ?_)); (fail_if_success (with_reducible show False)); (fail_if_success (with_reducible show True)); conv => whnf)))
    all_goals try simp only [decide_eq_true_eq, decide_eq_false_iff_not, tkA, tkL, Nat.zero_add, Nat.reduceAdd, Int.toNat_natCast, List.take_nil, List.nil_append] at *
    all_goals try simp only [List.length_nil, Int.natCast_zero, Int.ofNat_zero] at *
    all_goals try (exfalso; omega)
    all_goals try first | exact trivial | (show False; omega) | exact Leaf.mk trivial | exact Leaf.mk rfl | (refine VC.mk ?_; first | trivial | assumption | ((try simp only [InR, decide_eq_true_eq, decide_eq_false_iff_not] at *); omega) | (simp; done))
    all_goals try (refine VC.mk ?_; first | trivial | (first | assumption | exact wf_nil _ | exact wsN_wf _ (by first | assumption | exact wf_nil _) _ | exact clN_wf (by first | assumption | exact wf_nil _) _ | exact (itN_wf (by first | assumption | exact wf_nil _) (by first | assumption | exact wf_nil _) _).1 | exact (itN_wf (by first | assumption | exact wf_nil _) (by first | assumption | exact wf_nil _) _).2 | exact (seN_wf (by first | assumption | exact wf_nil _) (by first | assumption | exact wf_nil _) _).1 | exact (seN_wf (by first | assumption | exact wf_nil _) (by first | assumption | exact wf_nil _) _).2) | (simp only [List.length_nil] at *; omega) | omega | (generalize decide _ = bb; cases bb <;> simp) | (intro hh; generalize decide _ = bb at *; cases bb <;> simp_all) | (simp; done))
    all_goals (refine Leaf.mk ?_; first | rfl | (simp [mrN]; done))
  | [], zl, [(true, xs), (false, ys)], zr =>
    clear zl zr
    obtain rfl : xs = [] := hn _ (List.Mem.head _) rfl
    have hp0 := hpre _ (List.Mem.head _); try dsimp only at hp0
    have hp1 := hpre _ (List.Mem.tail _ (List.Mem.head _)); try dsimp only at hp1
    have hp2 := hpre _ (List.Mem.tail _ (List.Mem.tail _ (List.Mem.head _))); try dsimp only at hp2
    have hp3 := hpre _ (List.Mem.tail _ (List.Mem.tail _ (List.Mem.tail _ (List.Mem.head _)))); try dsimp only at hp3
    skip
    repeat' (first | (with_reducible refine And.intro ?_ ?_) | (with_reducible intro h) | ((fail_if_success (with_reducible refine Leaf.mk ?_)); (fail_if_success (with_reducible refine VC.mk ?_)); (fail_if_success (with_reducible refine Goes.mk ?_)); (fail_if_success (with_reducible refine Again.mk ?_)); (fail_if_success (with_reducible refine Rounds.mk ?_)); (fail_if_success (with_reducible show False)); (fail_if_success (with_reducible show True)); conv => whnf))
    all_goals try simp only [decide_eq_true_eq, decide_eq_false_iff_not, tkA, tkL, Nat.zero_add, Nat.reduceAdd, Int.toNat_natCast, List.take_nil, List.nil_append] at *
    all_goals try simp only [Bool.or_eq_true, Bool.and_eq_true, Bool.not_eq_true', Bool.not_eq_false', Bool.or_eq_false_iff, Bool.and_eq_false_imp, decide_eq_true_eq, decide_eq_false_iff_not] at *
    all_goals try first | exact trivial | (show False; omega) | exact Leaf.mk trivial | exact Leaf.mk rfl | (refine VC.mk ?_; first | trivial | assumption | ((try simp only [InR, decide_eq_true_eq, decide_eq_false_iff_not] at *); omega) | (simp; done))
    all_goals try (refine VC.mk ?_; first | trivial | (first | assumption | exact wf_nil _ | exact wsN_wf _ (by first | assumption | exact wf_nil _) _ | exact clN_wf (by first | assumption | exact wf_nil _) _ | exact (itN_wf (by first | assumption | exact wf_nil _) (by first | assumption | exact wf_nil _) _).1 | exact (itN_wf (by first | assumption | exact wf_nil _) (by first | assumption | exact wf_nil _) _).2 | exact (seN_wf (by first | assumption | exact wf_nil _) (by first | assumption | exact wf_nil _) _).1 | exact (seN_wf (by first | assumption | exact wf_nil _) (by first | assumption | exact wf_nil _) _).2) | (simp only [List.length_nil] at *; omega) | omega | (generalize decide _ = bb; cases bb <;> simp) | (intro hh; generalize decide _ = bb at *; cases bb <;> simp_all) | (simp; done))
    all_goals try refine goes_rounds 1 ?_
    all_goals try (refine rounds_one (pl := [(6, [0, 1, 2, 3, 4, 5, 6], [0, 0, 3, 0, 8, 31, 63])]) T_ok (Cons.cons con_ref28_RelativeVelocity (Cons.cons con_ref01_Add (Cons.cons con_ref35_IsFriction (Cons.nil _)))) mixed (by kernel_rfl) ?_; repeat' (first | (with_reducible refine And.intro ?_ ?_) | (with_reducible intro h) | ((fail_if_success (with_reducible refine Leaf.mk ?_)); (fail_if_success (with_reducible refine VC.mk ?_)); (fail_if_success (with_reducible refine Goes.mk ?_)); (fail_if_success (with_reducible refine Again.mk ?_)); (fail_if_success (with_reducible refine Rounds.mk ?_)); (fail_if_success (with_reducible show False)); (fail_if_success (with_reducible show True)); conv => whnf)))
    all_goals try simp only [decide_eq_true_eq, decide_eq_false_iff_not, tkA, tkL, Nat.zero_add, Nat.reduceAdd, Int.toNat_natCast, List.take_nil, List.nil_append] at *
    all_goals try simp only [List.length_nil, Int.natCast_zero, Int.ofNat_zero] at *
    all_goals try (exfalso; omega)
    all_goals try first | exact trivial | (show False; omega) | exact Leaf.mk trivial | exact Leaf.mk rfl | (refine VC.mk ?_; first | trivial | assumption | ((try simp only [InR, decide_eq_true_eq, decide_eq_false_iff_not] at *); omega) | (simp; done))
    all_goals try (refine VC.mk ?_; first | trivial | (first | assumption | exact wf_nil _ | exact wsN_wf _ (by first | assumption | exact wf_nil _) _ | exact clN_wf (by first | assumption | exact wf_nil _) _ | exact (itN_wf (by first | assumption | exact wf_nil _) (by first | assumption | exact wf_nil _) _).1 | exact (itN_wf (by first | assumption | exact wf_nil _) (by first | assumption | exact wf_nil _) _).2 | exact (seN_wf (by first | assumption | exact wf_nil _) (by first | assumption | exact wf_nil _) _).1 | exact (seN_wf (by first | assumption | exact wf_nil _) (by first | assumption | exact wf_nil _) _).2) | (simp only [List.length_nil] at *; omega) | omega | (generalize decide _ = bb; cases bb <;> simp) | (intro hh; generalize decide _ = bb at *; cases bb <;> simp_all) | (simp; done))
    all_goals (refine Leaf.mk ?_; first | rfl | (simp [mrN]; done))
  | [], zl, [(false, xs), (true, ys)], zr =>
    clear zl zr
    obtain rfl : ys = [] := hn _ (List.Mem.tail _ (List.Mem.head _)) rfl
    have hp0 := hpre _ (List.Mem.head _); try dsimp only at hp0
    have hp1 := hpre _ (List.Mem.tail _ (List.Mem.head _)); try dsimp only at hp1
    have hp2 := hpre _ (List.Mem.tail _ (List.Mem.tail _ (List.Mem.head _))); try dsimp only at hp2
    have hp3 := hpre _ (List.Mem.tail _ (List.Mem.tail _ (List.Mem.tail _ (List.Mem.head _)))); try dsimp only at hp3
    skip
    repeat' (first | (with_reducible refine And.intro ?_ ?_) | (with_reducible intro h) | ((fail_if_success (with_reducible refine Leaf.mk ?_)); (fail_if_success (with_reducible refine VC.mk ?_)); (fail_if_success (with_reducible refine Goes.mk ?_)); (fail_if_success (with_reducible refine Again.mk ?_)); (fail_if_success (with_reducible refine Rounds.mk ?_)); (fail_if_success (with_reducible show False)); (fail_if_success (with_reducible show True)); conv => whnf))
    all_goals try simp only [decide_eq_true_eq, decide_eq_false_iff_not, tkA, tkL, Nat.zero_add, Nat.reduceAdd, Int.toNat_natCast, List.take_nil, List.nil_append] at *
    all_goals try simp only [Bool.or_eq_true, Bool.and_eq_true, Bool.not_eq_true', Bool.not_eq_false', Bool.or_eq_false_iff, Bool.and_eq_false_imp, decide_eq_true_eq, decide_eq_false_iff_not] at *
    all_goals try first | exact trivial | (show False; omega) | exact Leaf.mk trivial | exact Leaf.mk rfl | (refine VC.mk ?_; first | trivial | assumption | ((try simp only [InR, decide_eq_true_eq, decide_eq_false_iff_not] at *); omega) | (simp; done))
    all_goals try (refine VC.mk ?_; first | trivial | (first | assumption | exact wf_nil _ | exact wsN_wf _ (by first | assumption | exact wf_nil _) _ | exact clN_wf (by first | assumption | exact wf_nil _) _ | exact (itN_wf (by first | assumption | exact wf_nil _) (by first | assumption | exact wf_nil _) _).1 | exact (itN_wf (by first | assumption | exact wf_nil _) (by first | assumption | exact wf_nil _) _).2 | exact (seN_wf (by first | assumption | exact wf_nil _) (by first | assumption | exact wf_nil _) _).1 | exact (seN_wf (by first | assumption | exact wf_nil _) (by first | assumption | exact wf_nil _) _).2) | (simp only [List.length_nil] at *; omega) | omega | (generalize decide _ = bb; cases bb <;> simp) | (intro hh; generalize decide _ = bb at *; cases bb <;> simp_all) | (simp; done))
    refine goes_inv (X := Nat) (pl := [(6, [0, 1, 2, 3, 4, 5, 6], [0, 0, 3, 0, 8, 31, 63])]) T_ok (Cons.cons con_ref28_RelativeVelocity (Cons.cons con_ref01_Add (Cons.cons con_ref35_IsFriction (Cons.nil _)))) mixed (by kernel_rfl)
      (fun k => (.sl 0 14 0 xs.length :: .nils :: .any :: .any :: .any :: .int .i64 (mrN xs ([] : List (List Int)) k) :: .int .i64 (k : Int) :: .any :: .any :: .any :: .any :: .any :: .any :: .any :: .any :: .any :: .any :: .any :: .any :: .any :: .any :: .any :: .any :: .any :: .any :: .any :: .any :: .any :: .any :: .any :: .any :: .any :: .any :: .any :: .any :: .any :: .any :: .any :: .any :: .any :: .any :: .any :: .any :: .any :: .any :: .any :: .any :: .any :: .any :: .any :: .any :: .any :: .any :: .any :: .any :: .any :: .any :: [], [.arr false true 14 xs, .arr false false 5 ([] : List (List Int))]))
      (fun k => k ≤ xs.length) (fun k => xs.length - k) 0 [0, 1] (Nat.zero_le _) ?_ ?_ ?_
    · repeat' (first | (with_reducible refine And.intro ?_ ?_) | (with_reducible intro h) | ((fail_if_success (with_reducible refine Leaf.mk ?_)); (fail_if_success (with_reducible refine VC.mk ?_)); (fail_if_success (with_reducible refine Goes.mk ?_)); (fail_if_success (with_reducible refine Again.mk ?_)); (fail_if_success (with_reducible refine Rounds.mk ?_)); (fail_if_success (with_reducible show False)); (fail_if_success (with_reducible show True)); conv => whnf))
      all_goals first | exact trivial | (refine Leaf.mk ?_; first | rfl | exact ⟨rfl, rfl⟩ | (simp; done))
    · repeat' (first | (with_reducible refine And.intro ?_ ?_) | (with_reducible intro h) | ((fail_if_success (with_reducible refine Leaf.mk ?_)); (fail_if_success (with_reducible refine VC.mk ?_)); (fail_if_success (with_reducible refine Goes.mk ?_)); (fail_if_success (with_reducible refine Again.mk ?_)); (fail_if_success (with_reducible refine Rounds.mk ?_)); (fail_if_success (with_reducible show False)); (fail_if_success (with_reducible show True)); conv => whnf))
      all_goals first | exact trivial | (refine Leaf.mk ?_; first | rfl | exact ⟨rfl, rfl⟩ | (simp; done))
    · intro k hx
      have hd : add (relV ([] : List (List Int)) (at2 xs k 0) (at2 xs k 1) (at2 xs k 2) (at2 xs k 3) (at2 xs k 4) (at2 xs k 5)) (at2 xs k 7) = resD xs ([] : List (List Int)) k := rfl
      have bd := resD_bd xs ([] : List (List Int)) k
      have bm := mrN_bd xs ([] : List (List Int)) k
      repeat' (first | (with_reducible refine And.intro ?_ ?_) | (with_reducible intro h) | ((fail_if_success (with_reducible refine Leaf.mk ?_)); (fail_if_success (with_reducible refine VC.mk ?_)); (fail_if_success (with_reducible refine Goes.mk ?_)); (fail_if_success (with_reducible refine Again.mk ?_)); (fail_if_success (with_reducible refine Rounds.mk ?_)); (fail_if_success (with_reducible show False)); (fail_if_success (with_reducible show True)); conv => whnf))
      all_goals try simp only [decide_eq_true_eq, decide_eq_false_iff_not, tkA, tkL, Nat.zero_add, Nat.reduceAdd, Int.toNat_natCast, List.take_nil, List.nil_append] at *
      all_goals try simp only [hd] at *
      all_goals try simp only [Bool.or_eq_true, Bool.and_eq_true, Bool.not_eq_true', Bool.not_eq_false', Bool.or_eq_false_iff, Bool.and_eq_false_imp, decide_eq_true_eq, decide_eq_false_iff_not] at *
      all_goals try first | exact trivial | (show False; omega) | exact Leaf.mk trivial | exact Leaf.mk rfl | (refine VC.mk ?_; first | trivial | assumption | ((try simp only [InR, decide_eq_true_eq, decide_eq_false_iff_not] at *); omega) | (simp; done))
      all_goals try (refine VC.mk ?_; first | trivial | (first | assumption | exact wf_nil _ | exact wsN_wf _ (by first | assumption | exact wf_nil _) _ | exact clN_wf (by first | assumption | exact wf_nil _) _ | exact (itN_wf (by first | assumption | exact wf_nil _) (by first | assumption | exact wf_nil _) _).1 | exact (itN_wf (by first | assumption | exact wf_nil _) (by first | assumption | exact wf_nil _) _).2 | exact (seN_wf (by first | assumption | exact wf_nil _) (by first | assumption | exact wf_nil _) _).1 | exact (seN_wf (by first | assumption | exact wf_nil _) (by first | assumption | exact wf_nil _) _).2) | (simp only [List.length_nil] at *; omega) | omega | (generalize decide _ = bb; cases bb <;> simp) | (intro hh; generalize decide _ = bb at *; cases bb <;> simp_all) | (simp; done))
      all_goals try (obtain rfl : k = xs.length := (by omega); refine Leaf.mk ?_; rfl)
      all_goals (have hlt : k < xs.length := by omega
                 (refine Again.mk ⟨k + 1, [0, 1], hlt, (by omega), ?_, ?_⟩ <;> (repeat' (first | (with_reducible refine And.intro ?_ ?_) | (with_reducible intro h) | ((fail_if_success (with_reducible refine Leaf.mk ?_)); (fail_if_success (with_reducible refine VC.mk ?_)); (fail_if_success (with_reducible refine Goes.mk ?_)); (fail_if_success (with_reducible refine Again.mk ?_)); (fail_if_success (with_reducible refine Rounds.mk ?_)); (fail_if_success (with_reducible show False)); (fail_if_success (with_reducible show True)); conv => whnf))) <;> first | exact trivial | (refine Leaf.mk ?_; first | rfl | exact ⟨rfl, rfl⟩ | (simp; done) | exact (mrN_skip (Or.inl (by assumption))).symm | exact (mrN_skip (Or.inr (atB'_iff.2 (by omega)))).symm | (rw [mrN_take (by assumption) (atB'_no (by omega))] <;> omega))))
  | [], zl, [(false, xs), (false, ys)], zr =>
    clear zl zr
    have hp0 := hpre _ (List.Mem.head _); try dsimp only at hp0
    have hp1 := hpre _ (List.Mem.tail _ (List.Mem.head _)); try dsimp only at hp1
    have hp2 := hpre _ (List.Mem.tail _ (List.Mem.tail _ (List.Mem.head _))); try dsimp only at hp2
    have hp3 := hpre _ (List.Mem.tail _ (List.Mem.tail _ (List.Mem.tail _ (List.Mem.head _)))); try dsimp only at hp3
    skip
    repeat' (first | (with_reducible refine And.intro ?_ ?_) | (with_reducible intro h) | ((fail_if_success (with_reducible refine Leaf.mk ?_)); (fail_if_success (with_reducible refine VC.mk ?_)); (fail_if_success (with_reducible refine Goes.mk ?_)); (fail_if_success (with_reducible refine Again.mk ?_)); (fail_if_success (with_reducible refine Rounds.mk ?_)); (fail_if_success (with_reducible show False)); (fail_if_success (with_reducible show True)); conv => whnf))
    all_goals try simp only [decide_eq_true_eq, decide_eq_false_iff_not, tkA, tkL, Nat.zero_add, Nat.reduceAdd, Int.toNat_natCast, List.take_nil, List.nil_append] at *
    all_goals try simp only [Bool.or_eq_true, Bool.and_eq_true, Bool.not_eq_true', Bool.not_eq_false', Bool.or_eq_false_iff, Bool.and_eq_false_imp, decide_eq_true_eq, decide_eq_false_iff_not] at *
    all_goals try first | exact trivial | (show False; omega) | exact Leaf.mk trivial | exact Leaf.mk rfl | (refine VC.mk ?_; first | trivial | assumption | ((try simp only [InR, decide_eq_true_eq, decide_eq_false_iff_not] at *); omega) | (simp; done))
    all_goals try (refine VC.mk ?_; first | trivial | (first | assumption | exact wf_nil _ | exact wsN_wf _ (by first | assumption | exact wf_nil _) _ | exact clN_wf (by first | assumption | exact wf_nil _) _ | exact (itN_wf (by first | assumption | exact wf_nil _) (by first | assumption | exact wf_nil _) _).1 | exact (itN_wf (by first | assumption | exact wf_nil _) (by first | assumption | exact wf_nil _) _).2 | exact (seN_wf (by first | assumption | exact wf_nil _) (by first | assumption | exact wf_nil _) _).1 | exact (seN_wf (by first | assumption | exact wf_nil _) (by first | assumption | exact wf_nil _) _).2) | (simp only [List.length_nil] at *; omega) | omega | (generalize decide _ = bb; cases bb <;> simp) | (intro hh; generalize decide _ = bb at *; cases bb <;> simp_all) | (simp; done))
    refine goes_inv (X := Nat) (pl := [(6, [0, 1, 2, 3, 4, 5, 6], [0, 0, 3, 0, 8, 31, 63])]) T_ok (Cons.cons con_ref28_RelativeVelocity (Cons.cons con_ref01_Add (Cons.cons con_ref35_IsFriction (Cons.nil _)))) mixed (by kernel_rfl)
      (fun k => (.sl 0 14 0 xs.length :: .sl 1 5 0 ys.length :: .any :: .any :: .any :: .int .i64 (mrN xs ys k) :: .int .i64 (k : Int) :: .any :: .any :: .any :: .any :: .any :: .any :: .any :: .any :: .any :: .any :: .any :: .any :: .any :: .any :: .any :: .any :: .any :: .any :: .any :: .any :: .any :: .any :: .any :: .any :: .any :: .any :: .any :: .any :: .any :: .any :: .any :: .any :: .any :: .any :: .any :: .any :: .any :: .any :: .any :: .any :: .any :: .any :: .any :: .any :: .any :: .any :: .any :: .any :: .any :: .any :: [], [.arr false true 14 xs, .arr false true 5 ys]))
      (fun k => k ≤ xs.length) (fun k => xs.length - k) 0 [0, 1] (Nat.zero_le _) ?_ ?_ ?_
    · repeat' (first | (with_reducible refine And.intro ?_ ?_) | (with_reducible intro h) | ((fail_if_success (with_reducible refine Leaf.mk ?_)); (fail_if_success (with_reducible refine VC.mk ?_)); (fail_if_success (with_reducible refine Goes.mk ?_)); (fail_if_success (with_reducible refine Again.mk ?_)); (fail_if_success (with_reducible refine Rounds.mk ?_)); (fail_if_success (with_reducible show False)); (fail_if_success (with_reducible show True)); conv => whnf))
      all_goals first | exact trivial | (refine Leaf.mk ?_; first | rfl | exact ⟨rfl, rfl⟩ | (simp; done))
    · repeat' (first | (with_reducible refine And.intro ?_ ?_) | (with_reducible intro h) | ((fail_if_success (with_reducible refine Leaf.mk ?_)); (fail_if_success (with_reducible refine VC.mk ?_)); (fail_if_success (with_reducible refine Goes.mk ?_)); (fail_if_success (with_reducible refine Again.mk ?_)); (fail_if_success (with_reducible refine Rounds.mk ?_)); (fail_if_success (with_reducible show False)); (fail_if_success (with_reducible show True)); conv => whnf))
      all_goals first | exact trivial | (refine Leaf.mk ?_; first | rfl | exact ⟨rfl, rfl⟩ | (simp; done))
    · intro k hx
      have hd : add (relV ys (at2 xs k 0) (at2 xs k 1) (at2 xs k 2) (at2 xs k 3) (at2 xs k 4) (at2 xs k 5)) (at2 xs k 7) = resD xs ys k := rfl
      have bd := resD_bd xs ys k
      have bm := mrN_bd xs ys k
      repeat' (first | (with_reducible refine And.intro ?_ ?_) | (with_reducible intro h) | ((fail_if_success (with_reducible refine Leaf.mk ?_)); (fail_if_success (with_reducible refine VC.mk ?_)); (fail_if_success (with_reducible refine Goes.mk ?_)); (fail_if_success (with_reducible refine Again.mk ?_)); (fail_if_success (with_reducible refine Rounds.mk ?_)); (fail_if_success (with_reducible show False)); (fail_if_success (with_reducible show True)); conv => whnf))
      all_goals try simp only [decide_eq_true_eq, decide_eq_false_iff_not, tkA, tkL, Nat.zero_add, Nat.reduceAdd, Int.toNat_natCast, List.take_nil, List.nil_append] at *
      all_goals try simp only [hd] at *
      all_goals try simp only [Bool.or_eq_true, Bool.and_eq_true, Bool.not_eq_true', Bool.not_eq_false', Bool.or_eq_false_iff, Bool.and_eq_false_imp, decide_eq_true_eq, decide_eq_false_iff_not] at *
      all_goals try first | exact trivial | (show False; omega) | exact Leaf.mk trivial | exact Leaf.mk rfl | (refine VC.mk ?_; first | trivial | assumption | ((try simp only [InR, decide_eq_true_eq, decide_eq_false_iff_not] at *); omega) | (simp; done))
      all_goals try (refine VC.mk ?_; first | trivial | (first | assumption | exact wf_nil _ | exact wsN_wf _ (by first | assumption | exact wf_nil _) _ | exact clN_wf (by first | assumption | exact wf_nil _) _ | exact (itN_wf (by first | assumption | exact wf_nil _) (by first | assumption | exact wf_nil _) _).1 | exact (itN_wf (by first | assumption | exact wf_nil _) (by first | assumption | exact wf_nil _) _).2 | exact (seN_wf (by first | assumption | exact wf_nil _) (by first | assumption | exact wf_nil _) _).1 | exact (seN_wf (by first | assumption | exact wf_nil _) (by first | assumption | exact wf_nil _) _).2) | (simp only [List.length_nil] at *; omega) | omega | (generalize decide _ = bb; cases bb <;> simp) | (intro hh; generalize decide _ = bb at *; cases bb <;> simp_all) | (simp; done))
      all_goals try (obtain rfl : k = xs.length := (by omega); refine Leaf.mk ?_; rfl)
      all_goals (have hlt : k < xs.length := by omega
                 (refine Again.mk ⟨k + 1, [0, 1], hlt, (by omega), ?_, ?_⟩ <;> (repeat' (first | (with_reducible refine And.intro ?_ ?_) | (with_reducible intro h) | ((fail_if_success (with_reducible refine Leaf.mk ?_)); (fail_if_success (with_reducible refine VC.mk ?_)); (fail_if_success (with_reducible refine Goes.mk ?_)); (fail_if_success (with_reducible refine Again.mk ?_)); (fail_if_success (with_reducible refine Rounds.mk ?_)); (fail_if_success (with_reducible show False)); (fail_if_success (with_reducible show True)); conv => whnf))) <;> first | exact trivial | (refine Leaf.mk ?_; first | rfl | exact ⟨rfl, rfl⟩ | (simp; done) | exact (mrN_skip (Or.inl (by assumption))).symm | exact (mrN_skip (Or.inr (atB'_iff.2 (by omega)))).symm | (rw [mrN_take (by assumption) (atB'_no (by omega))] <;> omega))))
end Go.Proofs.Ytapbegcmdiemoaa
