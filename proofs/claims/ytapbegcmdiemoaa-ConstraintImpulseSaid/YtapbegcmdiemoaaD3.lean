/- Contracts of caromref28 (comparisons) and of caromlaw28 (few, small, the example). -/
import Derived.Test.YtapbegcmdiemoaaD2
namespace Go.Proofs.Ytapbegcmdiemoaa
open Go.RowKit Fx Vx Ev
set_option linter.unusedVariables false
set_option linter.unusedSimpArgs false


theorem take_ext {e : Nat} {xs ys : List (List Int)} (hx : wf e xs) (hy : wf e ys) {k : Nat} (h : xs.take k = ys.take k) (h1 : k < xs.length) (h2 : k < ys.length) (hr : ∀ j, j < e → at2 xs k j = at2 ys k j) : xs.take (k + 1) = ys.take (k + 1) := by
  rw [List.take_succ_eq_append_getElem h1, List.take_succ_eq_append_getElem h2, h]
  congr 2
  have l1 : xs[k].length = e := hx _ (List.getElem_mem h1)
  have l2 : ys[k].length = e := hy _ (List.getElem_mem h2)
  apply List.ext_getElem (by omega)
  intro j a b
  have := hr j (by omega)
  simp only [at2, List.getD_eq_getElem?_getD, List.getElem?_eq_getElem h1, List.getElem?_eq_getElem h2, Option.getD_some, List.getElem?_eq_getElem a, List.getElem?_eq_getElem b] at this
  exact this

def c_ref28_Rows : Con := ⟨18, rowRun [.rows 14, .rows 14] (fun l R => match l, R with | [], [xs, ys] => [xs.length ≤ 100000, ys.length ≤ 100000, wf 14 xs, wf 14 ys] | _, _ => [False]) fun l R => match l, R with
  | [], [xs, ys] => .bool (decide (xs = ys))
  | _, _ => .any⟩
set_option maxRecDepth 100000 in
set_option maxHeartbeats 2000000 in
theorem con_ref28_Rows : c_ref28_Rows.Ok Try.prog := by
  refine con_rows (C := []) (pl := [(6, [0, 1, 2, 3, 4, 5, 6, 7, 8], [0, 0, 3, 7, 0, 0, 48, 112, 255])]) Try.func18 rfl (by kernel_rfl) T_ok (Cons.nil _) mixed (by kernel_rfl) _ _ _ (fun l R hl hR hn hpre => ?_)
  match l, hl, R, hR with
  | [], zl, [(true, xs), (true, ys)], zr =>
    clear zl zr
    obtain rfl : xs = [] := hn _ (List.Mem.head _) rfl
    obtain rfl : ys = [] := hn _ (List.Mem.tail _ (List.Mem.head _)) rfl
    have hp0 := hpre _ (List.Mem.head _); try dsimp only at hp0
    have hp1 := hpre _ (List.Mem.tail _ (List.Mem.head _)); try dsimp only at hp1
    have hp2 := hpre _ (List.Mem.tail _ (List.Mem.tail _ (List.Mem.head _))); try dsimp only at hp2
    have hp3 := hpre _ (List.Mem.tail _ (List.Mem.tail _ (List.Mem.tail _ (List.Mem.head _)))); try dsimp only at hp3
    skip
    repeat' (first | (with_reducible refine And.intro ?_ ?_) | (with_reducible intro h) | ((fail_if_success (with_reducible refine Leaf.mk ?_)); (fail_if_success (with_reducible refine VC.mk ?_)); (fail_if_success (with_reducible refine Goes.mk ?_)); (fail_if_success (with_reducible refine Again.mk ?_)); (fail_if_success (with_reducible refine Rounds.mk ?_)); (fail_if_success (with_reducible show False)); (fail_if_success (with_reducible show True)); conv => whnf))
    all_goals try simp only [decide_eq_true_eq, decide_eq_false_iff_not, tkA, tkL, Nat.zero_add, Nat.reduceAdd, Int.toNat_natCast, List.take_nil, List.nil_append] at *
    all_goals try simp only [Bool.not_eq_true', Bool.not_eq_false', decide_eq_true_eq, decide_eq_false_iff_not] at *
    all_goals try first | exact trivial | (show False; omega) | exact Leaf.mk trivial | exact Leaf.mk rfl | (refine VC.mk ?_; first | trivial | assumption | ((try simp only [InR, decide_eq_true_eq, decide_eq_false_iff_not] at *); omega) | (simp; done))
    all_goals try simp only [List.length_nil, Int.natCast_zero, Int.ofNat_zero] at *
    all_goals try (have hz : ys.length = 0 := (by omega); have hz2 := List.length_eq_zero_iff.1 hz; subst hz2)
    all_goals try (have hz : xs.length = 0 := (by omega); have hz2 := List.length_eq_zero_iff.1 hz; subst hz2)
    all_goals try refine goes_rounds 1 ?_
    all_goals try (refine rounds_one (pl := [(6, [0, 1, 2, 3, 4, 5, 6, 7, 8], [0, 0, 3, 7, 0, 0, 48, 112, 255])]) T_ok (Cons.nil _) mixed (by kernel_rfl) ?_; repeat' (first | (with_reducible refine And.intro ?_ ?_) | (with_reducible intro h) | ((fail_if_success (with_reducible refine Leaf.mk ?_)); (fail_if_success (with_reducible refine VC.mk ?_)); (fail_if_success (with_reducible refine Goes.mk ?_)); (fail_if_success (with_reducible refine Again.mk ?_)); (fail_if_success (with_reducible refine Rounds.mk ?_)); (fail_if_success (with_reducible show False)); (fail_if_success (with_reducible show True)); conv => whnf)))
    all_goals try simp only [decide_eq_true_eq, decide_eq_false_iff_not, tkA, tkL, Nat.zero_add, Nat.reduceAdd, Int.toNat_natCast, List.take_nil, List.nil_append] at *
    all_goals try simp only [List.length_nil, Int.natCast_zero, Int.ofNat_zero] at *
    all_goals try (exfalso; omega)
    all_goals try exact trivial
    all_goals try exact Leaf.mk trivial
    all_goals (refine Leaf.mk ?_; first | rfl | (simp; done) | (rw [decide_eq_false (fun hh => by subst hh; simp_all)]; done) | (rw [decide_eq_true (by first | rfl | exact (List.length_eq_zero_iff.1 (by omega)) | exact (List.length_eq_zero_iff.1 (by omega)).symm)]; done) | (simp_all; done))
  | [], zl, [(true, xs), (false, ys)], zr =>
    clear zl zr
    obtain rfl : xs = [] := hn _ (List.Mem.head _) rfl
    have hp0 := hpre _ (List.Mem.head _); try dsimp only at hp0
    have hp1 := hpre _ (List.Mem.tail _ (List.Mem.head _)); try dsimp only at hp1
    have hp2 := hpre _ (List.Mem.tail _ (List.Mem.tail _ (List.Mem.head _))); try dsimp only at hp2
    have hp3 := hpre _ (List.Mem.tail _ (List.Mem.tail _ (List.Mem.tail _ (List.Mem.head _)))); try dsimp only at hp3
    skip
    repeat' (first | (with_reducible refine And.intro ?_ ?_) | (with_reducible intro h) | ((fail_if_success (with_reducible refine Leaf.mk ?_)); (fail_if_success (with_reducible refine VC.mk ?_)); (fail_if_success (with_reducible refine Goes.mk ?_)); (fail_if_success (with_reducible refine Again.mk ?_)); (fail_if_success (with_reducible refine Rounds.mk ?_)); (fail_if_success (with_reducible show False)); (fail_if_success (with_reducible show True)); conv => whnf))
    all_goals try simp only [decide_eq_true_eq, decide_eq_false_iff_not, tkA, tkL, Nat.zero_add, Nat.reduceAdd, Int.toNat_natCast, List.take_nil, List.nil_append] at *
    all_goals try simp only [Bool.not_eq_true', Bool.not_eq_false', decide_eq_true_eq, decide_eq_false_iff_not] at *
    all_goals try first | exact trivial | (show False; omega) | exact Leaf.mk trivial | exact Leaf.mk rfl | (refine VC.mk ?_; first | trivial | assumption | ((try simp only [InR, decide_eq_true_eq, decide_eq_false_iff_not] at *); omega) | (simp; done))
    all_goals try simp only [List.length_nil, Int.natCast_zero, Int.ofNat_zero] at *
    all_goals try (have hz : ys.length = 0 := (by omega); have hz2 := List.length_eq_zero_iff.1 hz; subst hz2)
    all_goals try (have hz : xs.length = 0 := (by omega); have hz2 := List.length_eq_zero_iff.1 hz; subst hz2)
    all_goals try refine goes_rounds 1 ?_
    all_goals try (refine rounds_one (pl := [(6, [0, 1, 2, 3, 4, 5, 6, 7, 8], [0, 0, 3, 7, 0, 0, 48, 112, 255])]) T_ok (Cons.nil _) mixed (by kernel_rfl) ?_; repeat' (first | (with_reducible refine And.intro ?_ ?_) | (with_reducible intro h) | ((fail_if_success (with_reducible refine Leaf.mk ?_)); (fail_if_success (with_reducible refine VC.mk ?_)); (fail_if_success (with_reducible refine Goes.mk ?_)); (fail_if_success (with_reducible refine Again.mk ?_)); (fail_if_success (with_reducible refine Rounds.mk ?_)); (fail_if_success (with_reducible show False)); (fail_if_success (with_reducible show True)); conv => whnf)))
    all_goals try simp only [decide_eq_true_eq, decide_eq_false_iff_not, tkA, tkL, Nat.zero_add, Nat.reduceAdd, Int.toNat_natCast, List.take_nil, List.nil_append] at *
    all_goals try simp only [List.length_nil, Int.natCast_zero, Int.ofNat_zero] at *
    all_goals try (exfalso; omega)
    all_goals try exact trivial
    all_goals try exact Leaf.mk trivial
    all_goals (refine Leaf.mk ?_; first | rfl | (simp; done) | (rw [decide_eq_false (fun hh => by subst hh; simp_all)]; done) | (rw [decide_eq_true (by first | rfl | exact (List.length_eq_zero_iff.1 (by omega)) | exact (List.length_eq_zero_iff.1 (by omega)).symm)]; done) | (simp_all; done))
  | [], zl, [(false, xs), (true, ys)], zr =>
    clear zl zr
    obtain rfl : ys = [] := hn _ (List.Mem.tail _ (List.Mem.head _)) rfl
    have hp0 := hpre _ (List.Mem.head _); try dsimp only at hp0
    have hp1 := hpre _ (List.Mem.tail _ (List.Mem.head _)); try dsimp only at hp1
    have hp2 := hpre _ (List.Mem.tail _ (List.Mem.tail _ (List.Mem.head _))); try dsimp only at hp2
    have hp3 := hpre _ (List.Mem.tail _ (List.Mem.tail _ (List.Mem.tail _ (List.Mem.head _)))); try dsimp only at hp3
    skip
    repeat' (first | (with_reducible refine And.intro ?_ ?_) | (with_reducible intro h) | ((fail_if_success (with_reducible refine Leaf.mk ?_)); (fail_if_success (with_reducible refine VC.mk ?_)); (fail_if_success (with_reducible refine Goes.mk ?_)); (fail_if_success (with_reducible refine Again.mk ?_)); (fail_if_success (with_reducible refine Rounds.mk ?_)); (fail_if_success (with_reducible show False)); (fail_if_success (with_reducible show True)); conv => whnf))
    all_goals try simp only [decide_eq_true_eq, decide_eq_false_iff_not, tkA, tkL, Nat.zero_add, Nat.reduceAdd, Int.toNat_natCast, List.take_nil, List.nil_append] at *
    all_goals try simp only [Bool.not_eq_true', Bool.not_eq_false', decide_eq_true_eq, decide_eq_false_iff_not] at *
    all_goals try first | exact trivial | (show False; omega) | exact Leaf.mk trivial | exact Leaf.mk rfl | (refine VC.mk ?_; first | trivial | assumption | ((try simp only [InR, decide_eq_true_eq, decide_eq_false_iff_not] at *); omega) | (simp; done))
    all_goals try simp only [List.length_nil, Int.natCast_zero, Int.ofNat_zero] at *
    all_goals try (have hz : ys.length = 0 := (by omega); have hz2 := List.length_eq_zero_iff.1 hz; subst hz2)
    all_goals try (have hz : xs.length = 0 := (by omega); have hz2 := List.length_eq_zero_iff.1 hz; subst hz2)
    all_goals try refine goes_rounds 1 ?_
    all_goals try (refine rounds_one (pl := [(6, [0, 1, 2, 3, 4, 5, 6, 7, 8], [0, 0, 3, 7, 0, 0, 48, 112, 255])]) T_ok (Cons.nil _) mixed (by kernel_rfl) ?_; repeat' (first | (with_reducible refine And.intro ?_ ?_) | (with_reducible intro h) | ((fail_if_success (with_reducible refine Leaf.mk ?_)); (fail_if_success (with_reducible refine VC.mk ?_)); (fail_if_success (with_reducible refine Goes.mk ?_)); (fail_if_success (with_reducible refine Again.mk ?_)); (fail_if_success (with_reducible refine Rounds.mk ?_)); (fail_if_success (with_reducible show False)); (fail_if_success (with_reducible show True)); conv => whnf)))
    all_goals try simp only [decide_eq_true_eq, decide_eq_false_iff_not, tkA, tkL, Nat.zero_add, Nat.reduceAdd, Int.toNat_natCast, List.take_nil, List.nil_append] at *
    all_goals try simp only [List.length_nil, Int.natCast_zero, Int.ofNat_zero] at *
    all_goals try (exfalso; omega)
    all_goals try exact trivial
    all_goals try exact Leaf.mk trivial
    all_goals (refine Leaf.mk ?_; first | rfl | (simp; done) | (rw [decide_eq_false (fun hh => by subst hh; simp_all)]; done) | (rw [decide_eq_true (by first | rfl | exact (List.length_eq_zero_iff.1 (by omega)) | exact (List.length_eq_zero_iff.1 (by omega)).symm)]; done) | (simp_all; done))
  | [], zl, [(false, xs), (false, ys)], zr =>
    clear zl zr
    have hp0 := hpre _ (List.Mem.head _); try dsimp only at hp0
    have hp1 := hpre _ (List.Mem.tail _ (List.Mem.head _)); try dsimp only at hp1
    have hp2 := hpre _ (List.Mem.tail _ (List.Mem.tail _ (List.Mem.head _))); try dsimp only at hp2
    have hp3 := hpre _ (List.Mem.tail _ (List.Mem.tail _ (List.Mem.tail _ (List.Mem.head _)))); try dsimp only at hp3
    skip
    repeat' (first | (with_reducible refine And.intro ?_ ?_) | (with_reducible intro h) | ((fail_if_success (with_reducible refine Leaf.mk ?_)); (fail_if_success (with_reducible refine VC.mk ?_)); (fail_if_success (with_reducible refine Goes.mk ?_)); (fail_if_success (with_reducible refine Again.mk ?_)); (fail_if_success (with_reducible refine Rounds.mk ?_)); (fail_if_success (with_reducible show False)); (fail_if_success (with_reducible show True)); conv => whnf))
    all_goals try simp only [decide_eq_true_eq, decide_eq_false_iff_not, tkA, tkL, Nat.zero_add, Nat.reduceAdd, Int.toNat_natCast, List.take_nil, List.nil_append] at *
    all_goals try simp only [Bool.not_eq_true', Bool.not_eq_false', decide_eq_true_eq, decide_eq_false_iff_not] at *
    all_goals try first | exact trivial | (show False; omega) | exact Leaf.mk trivial | exact Leaf.mk rfl | (refine VC.mk ?_; first | trivial | assumption | ((try simp only [InR, decide_eq_true_eq, decide_eq_false_iff_not] at *); omega) | (simp; done))
    all_goals try (refine Leaf.mk ?_; symm; rw [decide_eq_false_iff_not]; intro hh; subst hh; simp_all; done)
    have hlen : xs.length = ys.length := by omega
    refine goes_inv (X := Nat) (pl := [(6, [0, 1, 2, 3, 4, 5, 6, 7, 8], [0, 0, 3, 7, 0, 0, 48, 112, 255])]) T_ok (Cons.nil _) mixed (by kernel_rfl)
      (fun k => (.sl 0 14 0 xs.length :: .sl 1 14 0 ys.length :: .any :: .any :: .any :: .int .i64 (k : Int) :: .any :: .any :: .any :: .any :: .any :: .any :: .any :: .any :: .any :: .any :: .any :: .any :: .any :: .any :: .any :: .any :: .any :: .any :: .any :: .any :: [], [.arr false true 14 xs, .arr false true 14 ys]))
      (fun k => k ≤ xs.length ∧ xs.take k = ys.take k) (fun k => xs.length - k) 0 [0, 1] ⟨Nat.zero_le _, rfl⟩ ?_ ?_ ?_
    · repeat' (first | (with_reducible refine And.intro ?_ ?_) | (with_reducible intro h) | ((fail_if_success (with_reducible refine Leaf.mk ?_)); (fail_if_success (with_reducible refine VC.mk ?_)); (fail_if_success (with_reducible refine Goes.mk ?_)); (fail_if_success (with_reducible refine Again.mk ?_)); (fail_if_success (with_reducible refine Rounds.mk ?_)); (fail_if_success (with_reducible show False)); (fail_if_success (with_reducible show True)); conv => whnf))
      all_goals first | exact trivial | (refine Leaf.mk ?_; first | rfl | exact ⟨rfl, rfl⟩ | (simp; done))
    · repeat' (first | (with_reducible refine And.intro ?_ ?_) | (with_reducible intro h) | ((fail_if_success (with_reducible refine Leaf.mk ?_)); (fail_if_success (with_reducible refine VC.mk ?_)); (fail_if_success (with_reducible refine Goes.mk ?_)); (fail_if_success (with_reducible refine Again.mk ?_)); (fail_if_success (with_reducible refine Rounds.mk ?_)); (fail_if_success (with_reducible show False)); (fail_if_success (with_reducible show True)); conv => whnf))
      all_goals first | exact trivial | (refine Leaf.mk ?_; first | rfl | exact ⟨rfl, rfl⟩ | (simp; done))
    · intro k hx
      obtain ⟨hx1, hx2⟩ := hx
      repeat' (first | (with_reducible refine And.intro ?_ ?_) | (with_reducible intro h) | ((fail_if_success (with_reducible refine Leaf.mk ?_)); (fail_if_success (with_reducible refine VC.mk ?_)); (fail_if_success (with_reducible refine Goes.mk ?_)); (fail_if_success (with_reducible refine Again.mk ?_)); (fail_if_success (with_reducible refine Rounds.mk ?_)); (fail_if_success (with_reducible show False)); (fail_if_success (with_reducible show True)); conv => whnf))
      all_goals try simp only [decide_eq_true_eq, decide_eq_false_iff_not, tkA, tkL, Nat.zero_add, Nat.reduceAdd, Int.toNat_natCast, List.take_nil, List.nil_append] at *
      all_goals try first | exact trivial | (show False; omega) | exact Leaf.mk trivial | exact Leaf.mk rfl | (refine VC.mk ?_; first | trivial | assumption | ((try simp only [InR, decide_eq_true_eq, decide_eq_false_iff_not] at *); omega) | (simp; done))
      all_goals try simp only [Bool.not_eq_true', Bool.not_eq_false', Bool.and_eq_true, decide_eq_true_eq] at *
      all_goals first
        | (refine Leaf.mk ?_; have hk : k = xs.length := by omega
           subst hk
           rw [List.take_of_length_le (by omega), List.take_of_length_le (by omega)] at hx2
           subst hx2
           first | rfl | (simp; done))
        | (refine Leaf.mk ?_; rw [decide_eq_false (fun hh => by subst hh; simp_all)]; done)
        | (refine Leaf.mk ?_; symm; rw [decide_eq_false_iff_not]; intro hh; subst hh; simp_all; done)
        | (have hlt : k < xs.length := by omega
           obtain ⟨e0, e1, e2, e3, e4, e5, e6, e7, e8, e9, e10, e11, e12, e13⟩ := h
           have hr : ∀ j, j < 14 → at2 xs k j = at2 ys k j := fun j hj => by match j, hj with | 0, _ => exact e0 | 1, _ => exact e1 | 2, _ => exact e2 | 3, _ => exact e3 | 4, _ => exact e4 | 5, _ => exact e5 | 6, _ => exact e6 | 7, _ => exact e7 | 8, _ => exact e8 | 9, _ => exact e9 | 10, _ => exact e10 | 11, _ => exact e11 | 12, _ => exact e12 | 13, _ => exact e13
           (refine Again.mk ⟨k + 1, [0, 1], ⟨hlt, take_ext hp2 hp3 hx2 hlt (by omega) hr⟩, (by omega), ?_, ?_⟩ <;> (repeat' (first | (with_reducible refine And.intro ?_ ?_) | (with_reducible intro h) | ((fail_if_success (with_reducible refine Leaf.mk ?_)); (fail_if_success (with_reducible refine VC.mk ?_)); (fail_if_success (with_reducible refine Goes.mk ?_)); (fail_if_success (with_reducible refine Again.mk ?_)); (fail_if_success (with_reducible refine Rounds.mk ?_)); (fail_if_success (with_reducible show False)); (fail_if_success (with_reducible show True)); conv => whnf))) <;> first | exact trivial | (refine Leaf.mk ?_; first | rfl | exact ⟨rfl, rfl⟩ | (simp; done))))
def c_ref28_SolverBodies : Con := ⟨19, rowRun [.rows 5, .rows 5] (fun l R => match l, R with | [], [xs, ys] => [xs.length ≤ 100000, ys.length ≤ 100000, wf 5 xs, wf 5 ys] | _, _ => [False]) fun l R => match l, R with
  | [], [xs, ys] => .bool (decide (xs = ys))
  | _, _ => .any⟩
set_option maxRecDepth 100000 in
set_option maxHeartbeats 2000000 in
theorem con_ref28_SolverBodies : c_ref28_SolverBodies.Ok Try.prog := by
  refine con_rows (C := []) (pl := [(6, [0, 1, 2, 3, 4, 5, 6, 7, 8], [0, 0, 3, 7, 0, 0, 48, 112, 255])]) Try.func19 rfl (by kernel_rfl) T_ok (Cons.nil _) mixed (by kernel_rfl) _ _ _ (fun l R hl hR hn hpre => ?_)
  match l, hl, R, hR with
  | [], zl, [(true, xs), (true, ys)], zr =>
    clear zl zr
    obtain rfl : xs = [] := hn _ (List.Mem.head _) rfl
    obtain rfl : ys = [] := hn _ (List.Mem.tail _ (List.Mem.head _)) rfl
    have hp0 := hpre _ (List.Mem.head _); try dsimp only at hp0
    have hp1 := hpre _ (List.Mem.tail _ (List.Mem.head _)); try dsimp only at hp1
    have hp2 := hpre _ (List.Mem.tail _ (List.Mem.tail _ (List.Mem.head _))); try dsimp only at hp2
    have hp3 := hpre _ (List.Mem.tail _ (List.Mem.tail _ (List.Mem.tail _ (List.Mem.head _)))); try dsimp only at hp3
    skip
    repeat' (first | (with_reducible refine And.intro ?_ ?_) | (with_reducible intro h) | ((fail_if_success (with_reducible refine Leaf.mk ?_)); (fail_if_success (with_reducible refine VC.mk ?_)); (fail_if_success (with_reducible refine Goes.mk ?_)); (fail_if_success (with_reducible refine Again.mk ?_)); (fail_if_success (with_reducible refine Rounds.mk ?_)); (fail_if_success (with_reducible show False)); (fail_if_success (with_reducible show True)); conv => whnf))
    all_goals try simp only [decide_eq_true_eq, decide_eq_false_iff_not, tkA, tkL, Nat.zero_add, Nat.reduceAdd, Int.toNat_natCast, List.take_nil, List.nil_append] at *
    all_goals try simp only [Bool.not_eq_true', Bool.not_eq_false', decide_eq_true_eq, decide_eq_false_iff_not] at *
    all_goals try first | exact trivial | (show False; omega) | exact Leaf.mk trivial | exact Leaf.mk rfl | (refine VC.mk ?_; first | trivial | assumption | ((try simp only [InR, decide_eq_true_eq, decide_eq_false_iff_not] at *); omega) | (simp; done))
    all_goals try simp only [List.length_nil, Int.natCast_zero, Int.ofNat_zero] at *
    all_goals try (have hz : ys.length = 0 := (by omega); have hz2 := List.length_eq_zero_iff.1 hz; subst hz2)
    all_goals try (have hz : xs.length = 0 := (by omega); have hz2 := List.length_eq_zero_iff.1 hz; subst hz2)
    all_goals try refine goes_rounds 1 ?_
    all_goals try (refine rounds_one (pl := [(6, [0, 1, 2, 3, 4, 5, 6, 7, 8], [0, 0, 3, 7, 0, 0, 48, 112, 255])]) T_ok (Cons.nil _) mixed (by kernel_rfl) ?_; repeat' (first | (with_reducible refine And.intro ?_ ?_) | (with_reducible intro h) | ((fail_if_success (with_reducible refine Leaf.mk ?_)); (fail_if_success (with_reducible refine VC.mk ?_)); (fail_if_success (with_reducible refine Goes.mk ?_)); (fail_if_success (with_reducible refine Again.mk ?_)); (fail_if_success (with_reducible refine Rounds.mk ?_)); (fail_if_success (with_reducible show False)); (fail_if_success (with_reducible show True)); conv => whnf)))
    all_goals try simp only [decide_eq_true_eq, decide_eq_false_iff_not, tkA, tkL, Nat.zero_add, Nat.reduceAdd, Int.toNat_natCast, List.take_nil, List.nil_append] at *
    all_goals try simp only [List.length_nil, Int.natCast_zero, Int.ofNat_zero] at *
    all_goals try (exfalso; omega)
    all_goals try exact trivial
    all_goals try exact Leaf.mk trivial
    all_goals (refine Leaf.mk ?_; first | rfl | (simp; done) | (rw [decide_eq_false (fun hh => by subst hh; simp_all)]; done) | (rw [decide_eq_true (by first | rfl | exact (List.length_eq_zero_iff.1 (by omega)) | exact (List.length_eq_zero_iff.1 (by omega)).symm)]; done) | (simp_all; done))
  | [], zl, [(true, xs), (false, ys)], zr =>
    clear zl zr
    obtain rfl : xs = [] := hn _ (List.Mem.head _) rfl
    have hp0 := hpre _ (List.Mem.head _); try dsimp only at hp0
    have hp1 := hpre _ (List.Mem.tail _ (List.Mem.head _)); try dsimp only at hp1
    have hp2 := hpre _ (List.Mem.tail _ (List.Mem.tail _ (List.Mem.head _))); try dsimp only at hp2
    have hp3 := hpre _ (List.Mem.tail _ (List.Mem.tail _ (List.Mem.tail _ (List.Mem.head _)))); try dsimp only at hp3
    skip
    repeat' (first | (with_reducible refine And.intro ?_ ?_) | (with_reducible intro h) | ((fail_if_success (with_reducible refine Leaf.mk ?_)); (fail_if_success (with_reducible refine VC.mk ?_)); (fail_if_success (with_reducible refine Goes.mk ?_)); (fail_if_success (with_reducible refine Again.mk ?_)); (fail_if_success (with_reducible refine Rounds.mk ?_)); (fail_if_success (with_reducible show False)); (fail_if_success (with_reducible show True)); conv => whnf))
    all_goals try simp only [decide_eq_true_eq, decide_eq_false_iff_not, tkA, tkL, Nat.zero_add, Nat.reduceAdd, Int.toNat_natCast, List.take_nil, List.nil_append] at *
    all_goals try simp only [Bool.not_eq_true', Bool.not_eq_false', decide_eq_true_eq, decide_eq_false_iff_not] at *
    all_goals try first | exact trivial | (show False; omega) | exact Leaf.mk trivial | exact Leaf.mk rfl | (refine VC.mk ?_; first | trivial | assumption | ((try simp only [InR, decide_eq_true_eq, decide_eq_false_iff_not] at *); omega) | (simp; done))
    all_goals try simp only [List.length_nil, Int.natCast_zero, Int.ofNat_zero] at *
    all_goals try (have hz : ys.length = 0 := (by omega); have hz2 := List.length_eq_zero_iff.1 hz; subst hz2)
    all_goals try (have hz : xs.length = 0 := (by omega); have hz2 := List.length_eq_zero_iff.1 hz; subst hz2)
    all_goals try refine goes_rounds 1 ?_
    all_goals try (refine rounds_one (pl := [(6, [0, 1, 2, 3, 4, 5, 6, 7, 8], [0, 0, 3, 7, 0, 0, 48, 112, 255])]) T_ok (Cons.nil _) mixed (by kernel_rfl) ?_; repeat' (first | (with_reducible refine And.intro ?_ ?_) | (with_reducible intro h) | ((fail_if_success (with_reducible refine Leaf.mk ?_)); (fail_if_success (with_reducible refine VC.mk ?_)); (fail_if_success (with_reducible refine Goes.mk ?_)); (fail_if_success (with_reducible refine Again.mk ?_)); (fail_if_success (with_reducible refine Rounds.mk ?_)); (fail_if_success (with_reducible show False)); (fail_if_success (with_reducible show True)); conv => whnf)))
    all_goals try simp only [decide_eq_true_eq, decide_eq_false_iff_not, tkA, tkL, Nat.zero_add, Nat.reduceAdd, Int.toNat_natCast, List.take_nil, List.nil_append] at *
    all_goals try simp only [List.length_nil, Int.natCast_zero, Int.ofNat_zero] at *
    all_goals try (exfalso; omega)
    all_goals try exact trivial
    all_goals try exact Leaf.mk trivial
    all_goals (refine Leaf.mk ?_; first | rfl | (simp; done) | (rw [decide_eq_false (fun hh => by subst hh; simp_all)]; done) | (rw [decide_eq_true (by first | rfl | exact (List.length_eq_zero_iff.1 (by omega)) | exact (List.length_eq_zero_iff.1 (by omega)).symm)]; done) | (simp_all; done))
  | [], zl, [(false, xs), (true, ys)], zr =>
    clear zl zr
    obtain rfl : ys = [] := hn _ (List.Mem.tail _ (List.Mem.head _)) rfl
    have hp0 := hpre _ (List.Mem.head _); try dsimp only at hp0
    have hp1 := hpre _ (List.Mem.tail _ (List.Mem.head _)); try dsimp only at hp1
    have hp2 := hpre _ (List.Mem.tail _ (List.Mem.tail _ (List.Mem.head _))); try dsimp only at hp2
    have hp3 := hpre _ (List.Mem.tail _ (List.Mem.tail _ (List.Mem.tail _ (List.Mem.head _)))); try dsimp only at hp3
    skip
    repeat' (first | (with_reducible refine And.intro ?_ ?_) | (with_reducible intro h) | ((fail_if_success (with_reducible refine Leaf.mk ?_)); (fail_if_success (with_reducible refine VC.mk ?_)); (fail_if_success (with_reducible refine Goes.mk ?_)); (fail_if_success (with_reducible refine Again.mk ?_)); (fail_if_success (with_reducible refine Rounds.mk ?_)); (fail_if_success (with_reducible show False)); (fail_if_success (with_reducible show True)); conv => whnf))
    all_goals try simp only [decide_eq_true_eq, decide_eq_false_iff_not, tkA, tkL, Nat.zero_add, Nat.reduceAdd, Int.toNat_natCast, List.take_nil, List.nil_append] at *
    all_goals try simp only [Bool.not_eq_true', Bool.not_eq_false', decide_eq_true_eq, decide_eq_false_iff_not] at *
    all_goals try first | exact trivial | (show False; omega) | exact Leaf.mk trivial | exact Leaf.mk rfl | (refine VC.mk ?_; first | trivial | assumption | ((try simp only [InR, decide_eq_true_eq, decide_eq_false_iff_not] at *); omega) | (simp; done))
    all_goals try simp only [List.length_nil, Int.natCast_zero, Int.ofNat_zero] at *
    all_goals try (have hz : ys.length = 0 := (by omega); have hz2 := List.length_eq_zero_iff.1 hz; subst hz2)
    all_goals try (have hz : xs.length = 0 := (by omega); have hz2 := List.length_eq_zero_iff.1 hz; subst hz2)
    all_goals try refine goes_rounds 1 ?_
    all_goals try (refine rounds_one (pl := [(6, [0, 1, 2, 3, 4, 5, 6, 7, 8], [0, 0, 3, 7, 0, 0, 48, 112, 255])]) T_ok (Cons.nil _) mixed (by kernel_rfl) ?_; repeat' (first | (with_reducible refine And.intro ?_ ?_) | (with_reducible intro h) | ((fail_if_success (with_reducible refine Leaf.mk ?_)); (fail_if_success (with_reducible refine VC.mk ?_)); (fail_if_success (with_reducible refine Goes.mk ?_)); (fail_if_success (with_reducible refine Again.mk ?_)); (fail_if_success (with_reducible refine Rounds.mk ?_)); (fail_if_success (with_reducible show False)); (fail_if_success (with_reducible show True)); conv => whnf)))
    all_goals try simp only [decide_eq_true_eq, decide_eq_false_iff_not, tkA, tkL, Nat.zero_add, Nat.reduceAdd, Int.toNat_natCast, List.take_nil, List.nil_append] at *
    all_goals try simp only [List.length_nil, Int.natCast_zero, Int.ofNat_zero] at *
    all_goals try (exfalso; omega)
    all_goals try exact trivial
    all_goals try exact Leaf.mk trivial
    all_goals (refine Leaf.mk ?_; first | rfl | (simp; done) | (rw [decide_eq_false (fun hh => by subst hh; simp_all)]; done) | (rw [decide_eq_true (by first | rfl | exact (List.length_eq_zero_iff.1 (by omega)) | exact (List.length_eq_zero_iff.1 (by omega)).symm)]; done) | (simp_all; done))
  | [], zl, [(false, xs), (false, ys)], zr =>
    clear zl zr
    have hp0 := hpre _ (List.Mem.head _); try dsimp only at hp0
    have hp1 := hpre _ (List.Mem.tail _ (List.Mem.head _)); try dsimp only at hp1
    have hp2 := hpre _ (List.Mem.tail _ (List.Mem.tail _ (List.Mem.head _))); try dsimp only at hp2
    have hp3 := hpre _ (List.Mem.tail _ (List.Mem.tail _ (List.Mem.tail _ (List.Mem.head _)))); try dsimp only at hp3
    skip
    repeat' (first | (with_reducible refine And.intro ?_ ?_) | (with_reducible intro h) | ((fail_if_success (with_reducible refine Leaf.mk ?_)); (fail_if_success (with_reducible refine VC.mk ?_)); (fail_if_success (with_reducible refine Goes.mk ?_)); (fail_if_success (with_reducible refine Again.mk ?_)); (fail_if_success (with_reducible refine Rounds.mk ?_)); (fail_if_success (with_reducible show False)); (fail_if_success (with_reducible show True)); conv => whnf))
    all_goals try simp only [decide_eq_true_eq, decide_eq_false_iff_not, tkA, tkL, Nat.zero_add, Nat.reduceAdd, Int.toNat_natCast, List.take_nil, List.nil_append] at *
    all_goals try simp only [Bool.not_eq_true', Bool.not_eq_false', decide_eq_true_eq, decide_eq_false_iff_not] at *
    all_goals try first | exact trivial | (show False; omega) | exact Leaf.mk trivial | exact Leaf.mk rfl | (refine VC.mk ?_; first | trivial | assumption | ((try simp only [InR, decide_eq_true_eq, decide_eq_false_iff_not] at *); omega) | (simp; done))
    all_goals try (refine Leaf.mk ?_; symm; rw [decide_eq_false_iff_not]; intro hh; subst hh; simp_all; done)
    have hlen : xs.length = ys.length := by omega
    refine goes_inv (X := Nat) (pl := [(6, [0, 1, 2, 3, 4, 5, 6, 7, 8], [0, 0, 3, 7, 0, 0, 48, 112, 255])]) T_ok (Cons.nil _) mixed (by kernel_rfl)
      (fun k => (.sl 0 5 0 xs.length :: .sl 1 5 0 ys.length :: .any :: .any :: .any :: .int .i64 (k : Int) :: .any :: .any :: .any :: .any :: .any :: .any :: .any :: .any :: .any :: .any :: .any :: .any :: .any :: .any :: .any :: .any :: .any :: .any :: .any :: .any :: [], [.arr false true 5 xs, .arr false true 5 ys]))
      (fun k => k ≤ xs.length ∧ xs.take k = ys.take k) (fun k => xs.length - k) 0 [0, 1] ⟨Nat.zero_le _, rfl⟩ ?_ ?_ ?_
    · repeat' (first | (with_reducible refine And.intro ?_ ?_) | (with_reducible intro h) | ((fail_if_success (with_reducible refine Leaf.mk ?_)); (fail_if_success (with_reducible refine VC.mk ?_)); (fail_if_success (with_reducible refine Goes.mk ?_)); (fail_if_success (with_reducible refine Again.mk ?_)); (fail_if_success (with_reducible refine Rounds.mk ?_)); (fail_if_success (with_reducible show False)); (fail_if_success (with_reducible show True)); conv => whnf))
      all_goals first | exact trivial | (refine Leaf.mk ?_; first | rfl | exact ⟨rfl, rfl⟩ | (simp; done))
    · repeat' (first | (with_reducible refine And.intro ?_ ?_) | (with_reducible intro h) | ((fail_if_success (with_reducible refine Leaf.mk ?_)); (fail_if_success (with_reducible refine VC.mk ?_)); (fail_if_success (with_reducible refine Goes.mk ?_)); (fail_if_success (with_reducible refine Again.mk ?_)); (fail_if_success (with_reducible refine Rounds.mk ?_)); (fail_if_success (with_reducible show False)); (fail_if_success (with_reducible show True)); conv => whnf))
      all_goals first | exact trivial | (refine Leaf.mk ?_; first | rfl | exact ⟨rfl, rfl⟩ | (simp; done))
    · intro k hx
      obtain ⟨hx1, hx2⟩ := hx
      repeat' (first | (with_reducible refine And.intro ?_ ?_) | (with_reducible intro h) | ((fail_if_success (with_reducible refine Leaf.mk ?_)); (fail_if_success (with_reducible refine VC.mk ?_)); (fail_if_success (with_reducible refine Goes.mk ?_)); (fail_if_success (with_reducible refine Again.mk ?_)); (fail_if_success (with_reducible refine Rounds.mk ?_)); (fail_if_success (with_reducible show False)); (fail_if_success (with_reducible show True)); conv => whnf))
      all_goals try simp only [decide_eq_true_eq, decide_eq_false_iff_not, tkA, tkL, Nat.zero_add, Nat.reduceAdd, Int.toNat_natCast, List.take_nil, List.nil_append] at *
      all_goals try first | exact trivial | (show False; omega) | exact Leaf.mk trivial | exact Leaf.mk rfl | (refine VC.mk ?_; first | trivial | assumption | ((try simp only [InR, decide_eq_true_eq, decide_eq_false_iff_not] at *); omega) | (simp; done))
      all_goals try simp only [Bool.not_eq_true', Bool.not_eq_false', Bool.and_eq_true, decide_eq_true_eq] at *
      all_goals first
        | (refine Leaf.mk ?_; have hk : k = xs.length := by omega
           subst hk
           rw [List.take_of_length_le (by omega), List.take_of_length_le (by omega)] at hx2
           subst hx2
           first | rfl | (simp; done))
        | (refine Leaf.mk ?_; rw [decide_eq_false (fun hh => by subst hh; simp_all)]; done)
        | (refine Leaf.mk ?_; symm; rw [decide_eq_false_iff_not]; intro hh; subst hh; simp_all; done)
        | (have hlt : k < xs.length := by omega
           obtain ⟨e0, e1, e2, e3, e4⟩ := h
           have hr : ∀ j, j < 5 → at2 xs k j = at2 ys k j := fun j hj => by match j, hj with | 0, _ => exact e0 | 1, _ => exact e1 | 2, _ => exact e2 | 3, _ => exact e3 | 4, _ => exact e4
           (refine Again.mk ⟨k + 1, [0, 1], ⟨hlt, take_ext hp2 hp3 hx2 hlt (by omega) hr⟩, (by omega), ?_, ?_⟩ <;> (repeat' (first | (with_reducible refine And.intro ?_ ?_) | (with_reducible intro h) | ((fail_if_success (with_reducible refine Leaf.mk ?_)); (fail_if_success (with_reducible refine VC.mk ?_)); (fail_if_success (with_reducible refine Goes.mk ?_)); (fail_if_success (with_reducible refine Again.mk ?_)); (fail_if_success (with_reducible refine Rounds.mk ?_)); (fail_if_success (with_reducible show False)); (fail_if_success (with_reducible show True)); conv => whnf))) <;> first | exact trivial | (refine Leaf.mk ?_; first | rfl | exact ⟨rfl, rfl⟩ | (simp; done))))
def c_law28_few : Con := ⟨15, rowRun [.rows 14, .rows 5] (fun l R => match l, R with | [], [xs, ys] => [] | _, _ => [False]) fun l R => match l, R with
  | [], [xs, ys] => .bool (decide (xs.length ≤ 40) && decide (ys.length ≤ 40))
  | _, _ => .any⟩
set_option maxRecDepth 100000 in
set_option maxHeartbeats 2000000 in
theorem con_law28_few : c_law28_few.Ok Try.prog := by
  refine con_rows (C := []) (pl := []) Try.func15 rfl (by kernel_rfl) T_ok (Cons.nil _) mixed (by kernel_rfl) _ _ _ (fun l R hl hR hn hpre => ?_)
  match l, hl, R, hR with
  | [], zl, [(true, xs), (true, ys)], zr =>
    clear zl zr
    obtain rfl : xs = [] := hn _ (List.Mem.head _) rfl
    obtain rfl : ys = [] := hn _ (List.Mem.tail _ (List.Mem.head _)) rfl
    repeat' (first | (with_reducible refine And.intro ?_ ?_) | (with_reducible intro h) | ((fail_if_success (with_reducible refine Leaf.mk ?_)); (fail_if_success (with_reducible refine VC.mk ?_)); (fail_if_success (with_reducible refine Goes.mk ?_)); (fail_if_success (with_reducible refine Again.mk ?_)); (fail_if_success (with_reducible refine Rounds.mk ?_)); (fail_if_success (with_reducible show False)); (fail_if_success (with_reducible show True)); conv => whnf))
    all_goals try simp only [decide_eq_true_eq, decide_eq_false_iff_not, tkA, tkL, Nat.zero_add, Nat.reduceAdd, Int.toNat_natCast, List.take_nil, List.nil_append] at *
    all_goals try first | exact trivial | (show False; omega) | exact Leaf.mk trivial | exact Leaf.mk rfl | (refine VC.mk ?_; first | trivial | assumption | ((try simp only [InR, decide_eq_true_eq, decide_eq_false_iff_not] at *); omega) | (simp; done))
    all_goals (refine Leaf.mk ?_; rw [Bool.eq_iff_iff]; simp only [Bool.and_eq_true, Bool.true_eq_false, Bool.false_eq_true, false_iff, true_iff, decide_eq_true_eq, List.length_nil, decide_eq_false_iff_not] at *; omega)
  | [], zl, [(true, xs), (false, ys)], zr =>
    clear zl zr
    obtain rfl : xs = [] := hn _ (List.Mem.head _) rfl
    repeat' (first | (with_reducible refine And.intro ?_ ?_) | (with_reducible intro h) | ((fail_if_success (with_reducible refine Leaf.mk ?_)); (fail_if_success (with_reducible refine VC.mk ?_)); (fail_if_success (with_reducible refine Goes.mk ?_)); (fail_if_success (with_reducible refine Again.mk ?_)); (fail_if_success (with_reducible refine Rounds.mk ?_)); (fail_if_success (with_reducible show False)); (fail_if_success (with_reducible show True)); conv => whnf))
    all_goals try simp only [decide_eq_true_eq, decide_eq_false_iff_not, tkA, tkL, Nat.zero_add, Nat.reduceAdd, Int.toNat_natCast, List.take_nil, List.nil_append] at *
    all_goals try first | exact trivial | (show False; omega) | exact Leaf.mk trivial | exact Leaf.mk rfl | (refine VC.mk ?_; first | trivial | assumption | ((try simp only [InR, decide_eq_true_eq, decide_eq_false_iff_not] at *); omega) | (simp; done))
    all_goals (refine Leaf.mk ?_; rw [Bool.eq_iff_iff]; simp only [Bool.and_eq_true, Bool.true_eq_false, Bool.false_eq_true, false_iff, true_iff, decide_eq_true_eq, List.length_nil, decide_eq_false_iff_not] at *; omega)
  | [], zl, [(false, xs), (true, ys)], zr =>
    clear zl zr
    obtain rfl : ys = [] := hn _ (List.Mem.tail _ (List.Mem.head _)) rfl
    repeat' (first | (with_reducible refine And.intro ?_ ?_) | (with_reducible intro h) | ((fail_if_success (with_reducible refine Leaf.mk ?_)); (fail_if_success (with_reducible refine VC.mk ?_)); (fail_if_success (with_reducible refine Goes.mk ?_)); (fail_if_success (with_reducible refine Again.mk ?_)); (fail_if_success (with_reducible refine Rounds.mk ?_)); (fail_if_success (with_reducible show False)); (fail_if_success (with_reducible show True)); conv => whnf))
    all_goals try simp only [decide_eq_true_eq, decide_eq_false_iff_not, tkA, tkL, Nat.zero_add, Nat.reduceAdd, Int.toNat_natCast, List.take_nil, List.nil_append] at *
    all_goals try first | exact trivial | (show False; omega) | exact Leaf.mk trivial | exact Leaf.mk rfl | (refine VC.mk ?_; first | trivial | assumption | ((try simp only [InR, decide_eq_true_eq, decide_eq_false_iff_not] at *); omega) | (simp; done))
    all_goals (refine Leaf.mk ?_; rw [Bool.eq_iff_iff]; simp only [Bool.and_eq_true, Bool.true_eq_false, Bool.false_eq_true, false_iff, true_iff, decide_eq_true_eq, List.length_nil, decide_eq_false_iff_not] at *; omega)
  | [], zl, [(false, xs), (false, ys)], zr =>
    clear zl zr
    repeat' (first | (with_reducible refine And.intro ?_ ?_) | (with_reducible intro h) | ((fail_if_success (with_reducible refine Leaf.mk ?_)); (fail_if_success (with_reducible refine VC.mk ?_)); (fail_if_success (with_reducible refine Goes.mk ?_)); (fail_if_success (with_reducible refine Again.mk ?_)); (fail_if_success (with_reducible refine Rounds.mk ?_)); (fail_if_success (with_reducible show False)); (fail_if_success (with_reducible show True)); conv => whnf))
    all_goals try simp only [decide_eq_true_eq, decide_eq_false_iff_not, tkA, tkL, Nat.zero_add, Nat.reduceAdd, Int.toNat_natCast, List.take_nil, List.nil_append] at *
    all_goals try first | exact trivial | (show False; omega) | exact Leaf.mk trivial | exact Leaf.mk rfl | (refine VC.mk ?_; first | trivial | assumption | ((try simp only [InR, decide_eq_true_eq, decide_eq_false_iff_not] at *); omega) | (simp; done))
    all_goals (refine Leaf.mk ?_; rw [Bool.eq_iff_iff]; simp only [Bool.and_eq_true, Bool.true_eq_false, Bool.false_eq_true, false_iff, true_iff, decide_eq_true_eq, List.length_nil, decide_eq_false_iff_not] at *; omega)
def c_law28_small : Con := ⟨26, pureRun [0, 0] (fun | [n, k] => [0 ≤ k, k ≤ 1000000000] | _ => [False]) fun | [n, k] => .bool (decide (-k ≤ n) && decide (n ≤ k)) | _ => .any⟩
set_option maxRecDepth 100000 in
set_option maxHeartbeats 1000000 in
theorem con_law28_small : c_law28_small.Ok Try.prog := by
  refine con_pure (C := []) (pl := []) Try.func26 rfl (by kernel_rfl) T_ok (Cons.nil _) mixed (by kernel_rfl) _ _ _ (fun l hl hpre => ?_)
  match l, hl with
  | [n, k], _ =>
    have p1 := hpre _ (.head _); have p2 := hpre _ (.tail _ (.head _))
    repeat' (first | (with_reducible refine And.intro ?_ ?_) | (with_reducible intro h) | ((fail_if_success (with_reducible refine Leaf.mk ?_)); (fail_if_success (with_reducible refine VC.mk ?_)); (fail_if_success (with_reducible refine Goes.mk ?_)); (fail_if_success (with_reducible refine Again.mk ?_)); (fail_if_success (with_reducible refine Rounds.mk ?_)); (fail_if_success (with_reducible show False)); (fail_if_success (with_reducible show True)); conv => whnf))
    all_goals try first | exact trivial | (refine VC.mk ?_; simp only [InR]; omega)
    all_goals (refine Leaf.mk ?_; rw [Bool.eq_iff_iff]; simp only [Bool.and_eq_true, Bool.true_eq_false, Bool.false_eq_true, false_iff, true_iff, decide_eq_true_eq, List.length_nil, decide_eq_false_iff_not] at *; omega)
end Go.Proofs.Ytapbegcmdiemoaa
