/- Contracts of package solver and of caromref35: copies, ClampImpulses. -/
import Derived.Test.YtapbegcmdiemoaaD4
namespace Go.Proofs.Ytapbegcmdiemoaa
open Go.RowKit Fx Vx Ev
set_option linter.unusedVariables false
set_option linter.unusedSimpArgs false


/-- The rows, the first k clamped. -/
def clN (xs : List (List Int)) : Nat → List (List Int)
  | 0 => xs
  | k + 1 => upd2 (clN xs k) k 11 [clamp (at2 (clN xs k) k 11) (bdL (clN xs k) k) (bdU (clN xs k) k)]
theorem clN_len (xs : List (List Int)) : ∀ k, (clN xs k).length = xs.length
  | 0 => rfl
  | k + 1 => by rw [clN, upd2_len, clN_len xs k]
theorem tkc (xs : List (List Int)) (k : Nat) : List.take xs.length (clN xs k) = clN xs k := List.take_of_length_le (by rw [clN_len]; exact Nat.le_refl _)
theorem clN_wf {xs : List (List Int)} (h : wf 14 xs) : ∀ k, wf 14 (clN xs k)
  | 0 => h
  | k + 1 => by rw [clN]; exact upd2_wf (clN_wf h k) _ _ _

def c_solver_copyBodies : Con := ⟨73, genRun [.rows 5] (fun l R => match l, R with | [], [(bxs, xs)] => [xs.length ≤ 100000] | _, _ => [False]) fun l R => match l, R with
  | [], [(bxs, xs)] => [.rows (decide (xs.length = 0)) 5 xs]
  | _, _ => []⟩
set_option maxRecDepth 100000 in
set_option maxHeartbeats 4000000 in
theorem con_solver_copyBodies : c_solver_copyBodies.Ok Try.prog := by
  refine con_gen (C := []) (pl := []) Try.func73 rfl (by kernel_rfl) T_ok (Cons.nil _) mixed (by kernel_rfl) _ _ _ (fun l R hl hR hn hpre => ?_)
  match l, hl, R, hR with
  | [], zl, [(true, xs)], zr =>
    clear zl zr
    obtain rfl : xs = [] := hn _ (List.Mem.head _) rfl
    have hp0 := hpre _ (List.Mem.head _); try dsimp only at hp0
    repeat' (first | (with_reducible refine And.intro ?_ ?_) | (with_reducible intro h) | ((fail_if_success (with_reducible refine Leaf.mk ?_)); (fail_if_success (with_reducible refine VC.mk ?_)); (fail_if_success (with_reducible refine Goes.mk ?_)); (fail_if_success (with_reducible refine Again.mk ?_)); (fail_if_success (with_reducible refine Rounds.mk ?_)); (fail_if_success (with_reducible show False)); (fail_if_success (with_reducible show True)); conv => whnf))
    all_goals try simp only [decide_eq_true_eq, decide_eq_false_iff_not, tkA, tkL, Nat.zero_add, Nat.reduceAdd, Int.toNat_natCast, List.take_nil, List.nil_append] at *
    all_goals try simp only [Bool.not_eq_true', Bool.not_eq_false', Bool.and_eq_true, decide_eq_true_eq, decide_eq_false_iff_not] at *
    all_goals try first | exact trivial | (show False; omega) | exact Leaf.mk trivial | exact Leaf.mk rfl | (refine VC.mk ?_; first | trivial | assumption | ((try simp only [InR, decide_eq_true_eq, decide_eq_false_iff_not] at *); omega) | (simp; done))
    all_goals try (refine VC.mk ?_; first | (intro hh; simp at hh ⊢; omega) | (simp; done))
    all_goals (refine Leaf.mk ?_; first | rfl | (simp; done))
  | [], zl, [(false, xs)], zr =>
    clear zl zr
    have hp0 := hpre _ (List.Mem.head _); try dsimp only at hp0
    repeat' (first | (with_reducible refine And.intro ?_ ?_) | (with_reducible intro h) | ((fail_if_success (with_reducible refine Leaf.mk ?_)); (fail_if_success (with_reducible refine VC.mk ?_)); (fail_if_success (with_reducible refine Goes.mk ?_)); (fail_if_success (with_reducible refine Again.mk ?_)); (fail_if_success (with_reducible refine Rounds.mk ?_)); (fail_if_success (with_reducible show False)); (fail_if_success (with_reducible show True)); conv => whnf))
    all_goals try simp only [decide_eq_true_eq, decide_eq_false_iff_not, tkA, tkL, Nat.zero_add, Nat.reduceAdd, Int.toNat_natCast, List.take_nil, List.nil_append] at *
    all_goals try simp only [Bool.not_eq_true', Bool.not_eq_false', Bool.and_eq_true, decide_eq_true_eq, decide_eq_false_iff_not] at *
    all_goals try first | exact trivial | (show False; omega) | exact Leaf.mk trivial | exact Leaf.mk rfl | (refine VC.mk ?_; first | trivial | assumption | ((try simp only [InR, decide_eq_true_eq, decide_eq_false_iff_not] at *); omega) | (simp; done))
    all_goals try (refine VC.mk ?_; first | (intro hh; simp at hh ⊢; omega) | (simp; done))
    all_goals (refine Leaf.mk ?_; first | rfl | (simp; done))
def c_solver_copyRows : Con := ⟨72, genRun [.rows 14] (fun l R => match l, R with | [], [(bxs, xs)] => [xs.length ≤ 100000] | _, _ => [False]) fun l R => match l, R with
  | [], [(bxs, xs)] => [.rows (decide (xs.length = 0)) 14 xs]
  | _, _ => []⟩
set_option maxRecDepth 100000 in
set_option maxHeartbeats 4000000 in
theorem con_solver_copyRows : c_solver_copyRows.Ok Try.prog := by
  refine con_gen (C := []) (pl := []) Try.func72 rfl (by kernel_rfl) T_ok (Cons.nil _) mixed (by kernel_rfl) _ _ _ (fun l R hl hR hn hpre => ?_)
  match l, hl, R, hR with
  | [], zl, [(true, xs)], zr =>
    clear zl zr
    obtain rfl : xs = [] := hn _ (List.Mem.head _) rfl
    have hp0 := hpre _ (List.Mem.head _); try dsimp only at hp0
    repeat' (first | (with_reducible refine And.intro ?_ ?_) | (with_reducible intro h) | ((fail_if_success (with_reducible refine Leaf.mk ?_)); (fail_if_success (with_reducible refine VC.mk ?_)); (fail_if_success (with_reducible refine Goes.mk ?_)); (fail_if_success (with_reducible refine Again.mk ?_)); (fail_if_success (with_reducible refine Rounds.mk ?_)); (fail_if_success (with_reducible show False)); (fail_if_success (with_reducible show True)); conv => whnf))
    all_goals try simp only [decide_eq_true_eq, decide_eq_false_iff_not, tkA, tkL, Nat.zero_add, Nat.reduceAdd, Int.toNat_natCast, List.take_nil, List.nil_append] at *
    all_goals try simp only [Bool.not_eq_true', Bool.not_eq_false', Bool.and_eq_true, decide_eq_true_eq, decide_eq_false_iff_not] at *
    all_goals try first | exact trivial | (show False; omega) | exact Leaf.mk trivial | exact Leaf.mk rfl | (refine VC.mk ?_; first | trivial | assumption | ((try simp only [InR, decide_eq_true_eq, decide_eq_false_iff_not] at *); omega) | (simp; done))
    all_goals try (refine VC.mk ?_; first | (intro hh; simp at hh ⊢; omega) | (simp; done))
    all_goals (refine Leaf.mk ?_; first | rfl | (simp; done))
  | [], zl, [(false, xs)], zr =>
    clear zl zr
    have hp0 := hpre _ (List.Mem.head _); try dsimp only at hp0
    repeat' (first | (with_reducible refine And.intro ?_ ?_) | (with_reducible intro h) | ((fail_if_success (with_reducible refine Leaf.mk ?_)); (fail_if_success (with_reducible refine VC.mk ?_)); (fail_if_success (with_reducible refine Goes.mk ?_)); (fail_if_success (with_reducible refine Again.mk ?_)); (fail_if_success (with_reducible refine Rounds.mk ?_)); (fail_if_success (with_reducible show False)); (fail_if_success (with_reducible show True)); conv => whnf))
    all_goals try simp only [decide_eq_true_eq, decide_eq_false_iff_not, tkA, tkL, Nat.zero_add, Nat.reduceAdd, Int.toNat_natCast, List.take_nil, List.nil_append] at *
    all_goals try simp only [Bool.not_eq_true', Bool.not_eq_false', Bool.and_eq_true, decide_eq_true_eq, decide_eq_false_iff_not] at *
    all_goals try first | exact trivial | (show False; omega) | exact Leaf.mk trivial | exact Leaf.mk rfl | (refine VC.mk ?_; first | trivial | assumption | ((try simp only [InR, decide_eq_true_eq, decide_eq_false_iff_not] at *); omega) | (simp; done))
    all_goals try (refine VC.mk ?_; first | (intro hh; simp at hh ⊢; omega) | (simp; done))
    all_goals (refine Leaf.mk ?_; first | rfl | (simp; done))
def c_solver_ClampImpulses : Con := ⟨41, genRun [.rows 14] (fun l R => match l, R with | [], [(bxs, xs)] => [xs.length ≤ 100000, wf 14 xs] | _, _ => [False]) fun l R => match l, R with
  | [], [(bxs, xs)] => [.rows (decide (xs.length = 0)) 14 (clN xs xs.length)]
  | _, _ => []⟩
set_option maxRecDepth 100000 in
set_option maxHeartbeats 4000000 in
theorem con_solver_ClampImpulses : c_solver_ClampImpulses.Ok Try.prog := by
  refine con_gen (C := [c_solver_copyRows, c_constraint_Bounds, c_fixed_Clamp]) (pl := []) Try.func41 rfl (by kernel_rfl) T_ok (Cons.cons con_solver_copyRows (Cons.cons con_constraint_Bounds (Cons.cons con_fixed_Clamp (Cons.nil _)))) mixed (by kernel_rfl) _ _ _ (fun l R hl hR hn hpre => ?_)
  match l, hl, R, hR with
  | [], zl, [(true, xs)], zr =>
    clear zl zr
    obtain rfl : xs = [] := hn _ (List.Mem.head _) rfl
    have hp0 := hpre _ (List.Mem.head _); try dsimp only at hp0
    have hp1 := hpre _ (List.Mem.tail _ (List.Mem.head _)); try dsimp only at hp1
    repeat' (first | (with_reducible refine And.intro ?_ ?_) | (with_reducible intro h) | ((fail_if_success (with_reducible refine Leaf.mk ?_)); (fail_if_success (with_reducible refine VC.mk ?_)); (fail_if_success (with_reducible refine Goes.mk ?_)); (fail_if_success (with_reducible refine Again.mk ?_)); (fail_if_success (with_reducible refine Rounds.mk ?_)); (fail_if_success (with_reducible show False)); (fail_if_success (with_reducible show True)); conv => whnf))
    all_goals try simp only [decide_eq_true_eq, decide_eq_false_iff_not, tkA, tkL, Nat.zero_add, Nat.reduceAdd, Int.toNat_natCast, List.take_nil, List.nil_append] at *
    all_goals try simp only [Bool.not_eq_true', Bool.not_eq_false', Bool.and_eq_true, decide_eq_true_eq, decide_eq_false_iff_not] at *
    all_goals try first | exact trivial | (show False; omega) | exact Leaf.mk trivial | exact Leaf.mk rfl | (refine VC.mk ?_; first | trivial | assumption | ((try simp only [InR, decide_eq_true_eq, decide_eq_false_iff_not] at *); omega) | (simp; done))
    all_goals try refine goes_rounds 1 ?_
    all_goals try (refine rounds_one (pl := []) T_ok (Cons.cons con_solver_copyRows (Cons.cons con_constraint_Bounds (Cons.cons con_fixed_Clamp (Cons.nil _)))) mixed (by kernel_rfl) ?_; repeat' (first | (with_reducible refine And.intro ?_ ?_) | (with_reducible intro h) | ((fail_if_success (with_reducible refine Leaf.mk ?_)); (fail_if_success (with_reducible refine VC.mk ?_)); (fail_if_success (with_reducible refine Goes.mk ?_)); (fail_if_success (with_reducible refine Again.mk ?_)); (fail_if_success (with_reducible refine Rounds.mk ?_)); (fail_if_success (with_reducible show False)); (fail_if_success (with_reducible show True)); conv => whnf)))
    all_goals try simp only [decide_eq_true_eq, decide_eq_false_iff_not, tkA, tkL, Nat.zero_add, Nat.reduceAdd, Int.toNat_natCast, List.take_nil, List.nil_append] at *
    all_goals try simp only [List.length_nil, Int.natCast_zero, Int.ofNat_zero] at *
    all_goals try (exfalso; omega)
    all_goals try first | exact trivial | (show False; omega) | exact Leaf.mk trivial | exact Leaf.mk rfl | (refine VC.mk ?_; first | trivial | assumption | ((try simp only [InR, decide_eq_true_eq, decide_eq_false_iff_not] at *); omega) | (simp; done))
    all_goals try (refine VC.mk ?_; first | (intro hh; exact absurd hh (by simp)) | (simp; done))
    all_goals (refine Leaf.mk ?_; first | rfl | (simp [clN]; done))
  | [], zl, [(false, xs)], zr =>
    clear zl zr
    have hp0 := hpre _ (List.Mem.head _); try dsimp only at hp0
    have hp1 := hpre _ (List.Mem.tail _ (List.Mem.head _)); try dsimp only at hp1
    repeat' (first | (with_reducible refine And.intro ?_ ?_) | (with_reducible intro h) | ((fail_if_success (with_reducible refine Leaf.mk ?_)); (fail_if_success (with_reducible refine VC.mk ?_)); (fail_if_success (with_reducible refine Goes.mk ?_)); (fail_if_success (with_reducible refine Again.mk ?_)); (fail_if_success (with_reducible refine Rounds.mk ?_)); (fail_if_success (with_reducible show False)); (fail_if_success (with_reducible show True)); conv => whnf))
    all_goals try simp only [decide_eq_true_eq, decide_eq_false_iff_not, tkA, tkL, Nat.zero_add, Nat.reduceAdd, Int.toNat_natCast, List.take_nil, List.nil_append] at *
    all_goals try simp only [Bool.not_eq_true', Bool.not_eq_false', Bool.and_eq_true, decide_eq_true_eq, decide_eq_false_iff_not] at *
    all_goals try first | exact trivial | (show False; omega) | exact Leaf.mk trivial | exact Leaf.mk rfl | (refine VC.mk ?_; first | trivial | assumption | ((try simp only [InR, decide_eq_true_eq, decide_eq_false_iff_not] at *); omega) | (simp; done))
    refine goes_inv (X := Nat) (pl := []) T_ok (Cons.cons con_solver_copyRows (Cons.cons con_constraint_Bounds (Cons.cons con_fixed_Clamp (Cons.nil _)))) mixed (by kernel_rfl)
      (fun k => (.osl (decide (xs.length = 0)) 1 14 xs.length :: .any :: .any :: .any :: .any :: .any :: .any :: .any :: .any :: .int .i64 (xs.length : Int) :: .int .i64 (k : Int) :: .any :: .any :: .any :: .any :: .any :: .any :: .any :: .any :: .any :: .any :: .any :: .any :: .any :: .any :: .any :: .any :: .any :: .any :: .any :: .any :: .any :: .any :: [], [.arr false true 14 xs, .arr true (!decide (xs.length = 0)) 14 (clN xs k)]))
      (fun k => k ≤ xs.length) (fun k => xs.length - k) 0 [0, 1] (Nat.zero_le _) ?_ ?_ ?_
    · repeat' (first | (with_reducible refine And.intro ?_ ?_) | (with_reducible intro h) | ((fail_if_success (with_reducible refine Leaf.mk ?_)); (fail_if_success (with_reducible refine VC.mk ?_)); (fail_if_success (with_reducible refine Goes.mk ?_)); (fail_if_success (with_reducible refine Again.mk ?_)); (fail_if_success (with_reducible refine Rounds.mk ?_)); (fail_if_success (with_reducible show False)); (fail_if_success (with_reducible show True)); conv => whnf))
      all_goals try exact trivial
      all_goals (refine Leaf.mk ?_; first | rfl | exact ⟨rfl, rfl⟩ | (simp; done))
    · repeat' (first | (with_reducible refine And.intro ?_ ?_) | (with_reducible intro h) | ((fail_if_success (with_reducible refine Leaf.mk ?_)); (fail_if_success (with_reducible refine VC.mk ?_)); (fail_if_success (with_reducible refine Goes.mk ?_)); (fail_if_success (with_reducible refine Again.mk ?_)); (fail_if_success (with_reducible refine Rounds.mk ?_)); (fail_if_success (with_reducible show False)); (fail_if_success (with_reducible show True)); conv => whnf))
      all_goals try exact trivial
      all_goals (refine Leaf.mk ?_; first | rfl | exact ⟨rfl, rfl⟩ | (simp; done))
    · intro k hx
      repeat' (first | (with_reducible refine And.intro ?_ ?_) | (with_reducible intro h) | ((fail_if_success (with_reducible refine Leaf.mk ?_)); (fail_if_success (with_reducible refine VC.mk ?_)); (fail_if_success (with_reducible refine Goes.mk ?_)); (fail_if_success (with_reducible refine Again.mk ?_)); (fail_if_success (with_reducible refine Rounds.mk ?_)); (fail_if_success (with_reducible show False)); (fail_if_success (with_reducible show True)); conv => whnf))
      all_goals try simp only [decide_eq_true_eq, decide_eq_false_iff_not, tkA, tkL, Nat.zero_add, Nat.reduceAdd, Int.toNat_natCast, List.take_nil, List.nil_append] at *
      all_goals try simp only [Bool.not_eq_true', Bool.not_eq_false', Bool.and_eq_true, decide_eq_true_eq, decide_eq_false_iff_not] at *
      all_goals try simp only [tkc, clN_len, Nat.zero_add] at *
      all_goals try first | exact trivial | (show False; omega) | exact Leaf.mk trivial | exact Leaf.mk rfl | (refine VC.mk ?_; first | trivial | assumption | ((try simp only [InR, decide_eq_true_eq, decide_eq_false_iff_not] at *); omega) | (simp; done))
      all_goals try (have hl := clN_len xs k; refine VC.mk ?_; first | (simp only [clN_len]; omega) | exact wf_get (clN_wf hp1 k) (by rw [clN_len]; omega) | exact clN_wf hp1 k | exact ⟨Or.inr (by simp; omega), by omega⟩ | (intro hh; simp at hh ⊢; omega) | (simp; omega) | (have e0 : decide (xs.length = 0) = false := (by simp; omega); rw [e0]; rfl))
      all_goals first
        | (refine Leaf.mk ?_; obtain rfl : k = xs.length := by omega
           first | rfl | (simp only [tkc]; done) | (simp; done))
        | (have hlt : k < xs.length := by omega
           (refine Again.mk ⟨k + 1, [0, 1], hlt, (by omega), ?_, ?_⟩ <;> (repeat' (first | (with_reducible refine And.intro ?_ ?_) | (with_reducible intro h) | ((fail_if_success (with_reducible refine Leaf.mk ?_)); (fail_if_success (with_reducible refine VC.mk ?_)); (fail_if_success (with_reducible refine Goes.mk ?_)); (fail_if_success (with_reducible refine Again.mk ?_)); (fail_if_success (with_reducible refine Rounds.mk ?_)); (fail_if_success (with_reducible show False)); (fail_if_success (with_reducible show True)); conv => whnf))) <;> first | exact trivial | (refine Leaf.mk ?_; first | exact ⟨rfl, rfl⟩ | rfl | (simp; done) | (refine ⟨?_, ?_⟩ <;> first | rfl | (simp; done)))))
def c_ref35_ClampImpulses : Con := ⟨42, genRun [.rows 14] (fun l R => match l, R with | [], [(bxs, xs)] => [xs.length ≤ 100000, wf 14 xs] | _, _ => [False]) fun l R => match l, R with
  | [], [(bxs, xs)] => [.rows (decide (xs.length = 0)) 14 (clN xs xs.length)]
  | _, _ => []⟩
set_option maxRecDepth 100000 in
set_option maxHeartbeats 4000000 in
theorem con_ref35_ClampImpulses : c_ref35_ClampImpulses.Ok Try.prog := by
  refine con_gen (C := [c_ref28_Bounds, c_ref01_Clamp]) (pl := []) Try.func42 rfl (by kernel_rfl) T_ok (Cons.cons con_ref28_Bounds (Cons.cons con_ref01_Clamp (Cons.nil _))) mixed (by kernel_rfl) _ _ _ (fun l R hl hR hn hpre => ?_)
  match l, hl, R, hR with
  | [], zl, [(true, xs)], zr =>
    clear zl zr
    obtain rfl : xs = [] := hn _ (List.Mem.head _) rfl
    have hp0 := hpre _ (List.Mem.head _); try dsimp only at hp0
    have hp1 := hpre _ (List.Mem.tail _ (List.Mem.head _)); try dsimp only at hp1
    repeat' (first | (with_reducible refine And.intro ?_ ?_) | (with_reducible intro h) | ((fail_if_success (with_reducible refine Leaf.mk ?_)); (fail_if_success (with_reducible refine VC.mk ?_)); (fail_if_success (with_reducible refine Goes.mk ?_)); (fail_if_success (with_reducible refine Again.mk ?_)); (fail_if_success (with_reducible refine Rounds.mk ?_)); (fail_if_success (with_reducible show False)); (fail_if_success (with_reducible show True)); conv => whnf))
    all_goals try simp only [decide_eq_true_eq, decide_eq_false_iff_not, tkA, tkL, Nat.zero_add, Nat.reduceAdd, Int.toNat_natCast, List.take_nil, List.nil_append] at *
    all_goals try simp only [Bool.not_eq_true', Bool.not_eq_false', Bool.and_eq_true, decide_eq_true_eq, decide_eq_false_iff_not] at *
    all_goals try first | exact trivial | (show False; omega) | exact Leaf.mk trivial | exact Leaf.mk rfl | (refine VC.mk ?_; first | trivial | assumption | ((try simp only [InR, decide_eq_true_eq, decide_eq_false_iff_not] at *); omega) | (simp; done))
    all_goals try refine goes_rounds 1 ?_
    all_goals try (refine rounds_one (pl := []) T_ok (Cons.cons con_ref28_Bounds (Cons.cons con_ref01_Clamp (Cons.nil _))) mixed (by kernel_rfl) ?_; repeat' (first | (with_reducible refine And.intro ?_ ?_) | (with_reducible intro h) | ((fail_if_success (with_reducible refine Leaf.mk ?_)); (fail_if_success (with_reducible refine VC.mk ?_)); (fail_if_success (with_reducible refine Goes.mk ?_)); (fail_if_success (with_reducible refine Again.mk ?_)); (fail_if_success (with_reducible refine Rounds.mk ?_)); (fail_if_success (with_reducible show False)); (fail_if_success (with_reducible show True)); conv => whnf)))
    all_goals try simp only [decide_eq_true_eq, decide_eq_false_iff_not, tkA, tkL, Nat.zero_add, Nat.reduceAdd, Int.toNat_natCast, List.take_nil, List.nil_append] at *
    all_goals try simp only [List.length_nil, Int.natCast_zero, Int.ofNat_zero] at *
    all_goals try (exfalso; omega)
    all_goals try first | exact trivial | (show False; omega) | exact Leaf.mk trivial | exact Leaf.mk rfl | (refine VC.mk ?_; first | trivial | assumption | ((try simp only [InR, decide_eq_true_eq, decide_eq_false_iff_not] at *); omega) | (simp; done))
    all_goals try (refine VC.mk ?_; first | (intro hh; exact absurd hh (by simp)) | (simp; done))
    all_goals (refine Leaf.mk ?_; first | rfl | (simp [clN]; done))
  | [], zl, [(false, xs)], zr =>
    clear zl zr
    have hp0 := hpre _ (List.Mem.head _); try dsimp only at hp0
    have hp1 := hpre _ (List.Mem.tail _ (List.Mem.head _)); try dsimp only at hp1
    repeat' (first | (with_reducible refine And.intro ?_ ?_) | (with_reducible intro h) | ((fail_if_success (with_reducible refine Leaf.mk ?_)); (fail_if_success (with_reducible refine VC.mk ?_)); (fail_if_success (with_reducible refine Goes.mk ?_)); (fail_if_success (with_reducible refine Again.mk ?_)); (fail_if_success (with_reducible refine Rounds.mk ?_)); (fail_if_success (with_reducible show False)); (fail_if_success (with_reducible show True)); conv => whnf))
    all_goals try simp only [decide_eq_true_eq, decide_eq_false_iff_not, tkA, tkL, Nat.zero_add, Nat.reduceAdd, Int.toNat_natCast, List.take_nil, List.nil_append] at *
    all_goals try simp only [Bool.not_eq_true', Bool.not_eq_false', Bool.and_eq_true, decide_eq_true_eq, decide_eq_false_iff_not] at *
    all_goals try first | exact trivial | (show False; omega) | exact Leaf.mk trivial | exact Leaf.mk rfl | (refine VC.mk ?_; first | trivial | assumption | ((try simp only [InR, decide_eq_true_eq, decide_eq_false_iff_not] at *); omega) | (simp; done))
    refine goes_inv (X := Nat) (pl := []) T_ok (Cons.cons con_ref28_Bounds (Cons.cons con_ref01_Clamp (Cons.nil _))) mixed (by kernel_rfl)
      (fun k => (.any :: .any :: .any :: .osl (decide (xs.length = 0)) 1 14 xs.length :: .int .i64 (k : Int) :: .any :: .any :: .any :: .any :: .any :: .any :: .any :: .any :: .any :: .any :: .any :: .any :: .any :: .any :: .any :: .any :: .any :: .any :: .any :: .any :: .any :: .any :: .any :: .any :: .any :: .any :: .any :: .any :: .any :: .any :: [], [.arr false true 14 xs, .arr true (decide (0 < xs.length)) 14 (clN xs k)]))
      (fun k => k ≤ xs.length) (fun k => xs.length - k) 0 [0, 1] (Nat.zero_le _) ?_ ?_ ?_
    · repeat' (first | (with_reducible refine And.intro ?_ ?_) | (with_reducible intro h) | ((fail_if_success (with_reducible refine Leaf.mk ?_)); (fail_if_success (with_reducible refine VC.mk ?_)); (fail_if_success (with_reducible refine Goes.mk ?_)); (fail_if_success (with_reducible refine Again.mk ?_)); (fail_if_success (with_reducible refine Rounds.mk ?_)); (fail_if_success (with_reducible show False)); (fail_if_success (with_reducible show True)); conv => whnf))
      all_goals try exact trivial
      all_goals (refine Leaf.mk ?_; first | rfl | exact ⟨rfl, rfl⟩ | (simp; done))
    · repeat' (first | (with_reducible refine And.intro ?_ ?_) | (with_reducible intro h) | ((fail_if_success (with_reducible refine Leaf.mk ?_)); (fail_if_success (with_reducible refine VC.mk ?_)); (fail_if_success (with_reducible refine Goes.mk ?_)); (fail_if_success (with_reducible refine Again.mk ?_)); (fail_if_success (with_reducible refine Rounds.mk ?_)); (fail_if_success (with_reducible show False)); (fail_if_success (with_reducible show True)); conv => whnf))
      all_goals try exact trivial
      all_goals (refine Leaf.mk ?_; first | rfl | exact ⟨rfl, rfl⟩ | (simp; done))
    · intro k hx
      repeat' (first | (with_reducible refine And.intro ?_ ?_) | (with_reducible intro h) | ((fail_if_success (with_reducible refine Leaf.mk ?_)); (fail_if_success (with_reducible refine VC.mk ?_)); (fail_if_success (with_reducible refine Goes.mk ?_)); (fail_if_success (with_reducible refine Again.mk ?_)); (fail_if_success (with_reducible refine Rounds.mk ?_)); (fail_if_success (with_reducible show False)); (fail_if_success (with_reducible show True)); conv => whnf))
      all_goals try simp only [decide_eq_true_eq, decide_eq_false_iff_not, tkA, tkL, Nat.zero_add, Nat.reduceAdd, Int.toNat_natCast, List.take_nil, List.nil_append] at *
      all_goals try simp only [Bool.not_eq_true', Bool.not_eq_false', Bool.and_eq_true, decide_eq_true_eq, decide_eq_false_iff_not] at *
      all_goals try simp only [tkc, clN_len, Nat.zero_add] at *
      all_goals try first | exact trivial | (show False; omega) | exact Leaf.mk trivial | exact Leaf.mk rfl | (refine VC.mk ?_; first | trivial | assumption | ((try simp only [InR, decide_eq_true_eq, decide_eq_false_iff_not] at *); omega) | (simp; done))
      all_goals try (have hl := clN_len xs k; refine VC.mk ?_; first | (simp only [clN_len]; omega) | exact wf_get (clN_wf hp1 k) (by rw [clN_len]; omega) | exact clN_wf hp1 k | exact ⟨Or.inr (by simp; omega), by omega⟩ | (intro hh; simp at hh ⊢; omega) | (simp; omega) | (have e0 : decide (xs.length = 0) = false := (by simp; omega); rw [e0]; rfl))
      all_goals first
        | (refine Leaf.mk ?_; obtain rfl : k = xs.length := by omega
           first | rfl | (simp only [tkc]; done) | (simp; done))
        | (have hlt : k < xs.length := by omega
           (refine Again.mk ⟨k + 1, [0, 1], hlt, (by omega), ?_, ?_⟩ <;> (repeat' (first | (with_reducible refine And.intro ?_ ?_) | (with_reducible intro h) | ((fail_if_success (with_reducible refine Leaf.mk ?_)); (fail_if_success (with_reducible refine VC.mk ?_)); (fail_if_success (with_reducible refine Goes.mk ?_)); (fail_if_success (with_reducible refine Again.mk ?_)); (fail_if_success (with_reducible refine Rounds.mk ?_)); (fail_if_success (with_reducible show False)); (fail_if_success (with_reducible show True)); conv => whnf))) <;> first | exact trivial | (refine Leaf.mk ?_; first | exact ⟨rfl, rfl⟩ | rfl | (simp; done) | (refine ⟨?_, ?_⟩ <;> first | rfl | (simp; done)))))
end Go.Proofs.Ytapbegcmdiemoaa
