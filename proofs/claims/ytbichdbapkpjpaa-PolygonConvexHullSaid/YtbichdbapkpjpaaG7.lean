/- Contracts of caromref11.nextCorner, ends, ConvexHull. -/
import Derived.Test.YtbichdbapkpjpaaHo
namespace Go.Proofs.Ytbichdbapkpjpaa
open Go.RowKit Fx Vx Bx Ev
open Hl (P)
set_option linter.unusedVariables false
set_option linter.unusedSimpArgs false


theorem okI_zero {xs : List (List Int)} {x y : Int} {i : Nat} : decide (OkI xs (x, y) i 0) = (!(decide (at2 xs i 0 = x) && decide (at2 xs i 1 = y))) := by
  have e : OkI xs (x, y) i 0 ↔ ¬ (at2 xs i 0 = x ∧ at2 xs i 1 = y) := ⟨fun h k => h.1 (Prod.ext k.1 k.2), fun h => ⟨fun k => h ⟨congrArg Prod.fst k, congrArg Prod.snd k⟩, fun j hj => absurd hj (Nat.not_lt_zero _)⟩⟩
  by_cases a : at2 xs i 0 = x <;> by_cases b : at2 xs i 1 = y <;> simp [e, a, b]
theorem okI_st {xs : List (List Int)} {p : P} {i k : Nat} (h : OkI xs p i k) : decide (OkI xs p i (k + 1)) = decide (CndI xs p i k) := decide_eq_decide.2 ⟨fun hh => hh.at (Nat.lt_succ_self k), fun hh => h.succ hh⟩
theorem okI_1 {xs : List (List Int)} {x y : Int} {i k : Nat} (h : OkI xs (x, y) i k) (o : orient x y (at2 xs i 0) (at2 xs i 1) (at2 xs k 0) (at2 xs k 1) = 1) : decide (OkI xs (x, y) i (k + 1)) = true := by
  rw [okI_st h]; exact decide_eq_true (Or.inl o)
theorem okI_0 {xs : List (List Int)} {x y : Int} {i k : Nat} (h : OkI xs (x, y) i k) (o : orient x y (at2 xs i 0) (at2 xs i 1) (at2 xs k 0) (at2 xs k 1) = 0) : decide (OkI xs (x, y) i (k + 1)) = decide (dist2 x y (at2 xs k 0) (at2 xs k 1) ≤ dist2 x y (at2 xs i 0) (at2 xs i 1)) := by
  rw [okI_st h]
  refine decide_eq_decide.2 ⟨fun hh => ?_, fun hh => Or.inr ⟨o, hh⟩⟩
  rcases hh with hh | hh
  · have : (1 : Int) = 0 := hh.symm.trans o
    omega
  · exact hh.2
theorem okI_n {xs : List (List Int)} {x y : Int} {i k : Nat} (h : OkI xs (x, y) i k) (o1 : ¬ orient x y (at2 xs i 0) (at2 xs i 1) (at2 xs k 0) (at2 xs k 1) = 1) (o0 : ¬ orient x y (at2 xs i 0) (at2 xs i 1) (at2 xs k 0) (at2 xs k 1) = 0) : decide (OkI xs (x, y) i (k + 1)) = false := by
  rw [okI_st h]
  refine decide_eq_false fun hh => ?_
  rcases hh with hh | hh
  · exact o1 hh
  · exact o0 hh.1
theorem refR_one {xs : List (List Int)} (hok : hullOk xs = true) (col : ColN xs xs.length) (e : (lowP xs).1 = (highP xs).1 ∧ (lowP xs).2 = (highP xs).2) : List.take 1 [[(lowP xs).1, (lowP xs).2]] = refR xs := by
  unfold refR hullI
  rw [if_pos hok, if_pos (decide_eq_true col), if_pos (Prod.ext e.1 e.2)]; rfl
theorem refR_two {xs : List (List Int)} (hok : hullOk xs = true) (col : ColN xs xs.length) (e : (lowP xs).1 = (highP xs).1 → ¬ (lowP xs).2 = (highP xs).2) : List.take 2 [[(lowP xs).1, (lowP xs).2], [(highP xs).1, (highP xs).2]] = refR xs := by
  unfold refR hullI
  rw [if_pos hok, if_pos (decide_eq_true col), if_neg (fun h => e (congrArg Prod.fst h) (congrArg Prod.snd h))]; rfl
theorem refR_two' {xs : List (List Int)} (hok : hullOk xs = true) (col : ColN xs xs.length) (e : (decide ((lowP xs).1 = (highP xs).1) && decide ((lowP xs).2 = (highP xs).2)) = false) : List.take 2 [[(lowP xs).1, (lowP xs).2], [(highP xs).1, (highP xs).2]] = refR xs :=
  refR_two hok col fun h k => by simp [h, k] at e
theorem refR_end {xs ys : List (List Int)} {v : P} (h : refR xs = ys ++ rws (goI xs (lowP xs) (xs.length + 1 - ys.length) v)) (e : v = lowP xs ∨ xs.length + 1 - ys.length = 0) : List.take ys.length ys = refR xs := by
  rw [h, goI_stop e, List.take_of_length_le (Nat.le_refl _)]; simp [rws]
theorem refR_next {xs ys : List (List Int)} {v : P} (h : refR xs = ys ++ rws (goI xs (lowP xs) (xs.length + 1 - ys.length) v)) (e : (decide (v.1 = (lowP xs).1) && decide (v.2 = (lowP xs).2)) = false) (hl : ys.length ≤ xs.length) : refR xs = (ys ++ [[v.1, v.2]]) ++ rws (goI xs (lowP xs) (xs.length + 1 - (ys ++ [[v.1, v.2]]).length) (nxI xs v)) := by
  have hn : v ≠ lowP xs := fun k => by rw [k] at e; simp at e
  have e1 : xs.length + 1 - ys.length = (xs.length - ys.length) + 1 := by omega
  have e2 : xs.length + 1 - (ys ++ [[v.1, v.2]]).length = xs.length - ys.length := by simp <;> omega
  rw [h, e1, goI_go hn, e2, List.append_assoc]; rfl
theorem refR_go {xs : List (List Int)} (hok : hullOk xs = true) (col : ¬ ColN xs xs.length) : refR xs = [[(lowP xs).1, (lowP xs).2]] ++ rws (goI xs (lowP xs) xs.length (nxI xs (lowP xs))) := by
  unfold refR hullI
  rw [if_pos hok, if_neg (by rw [decide_eq_false col]; decide)]; rfl

def c_ref11_nextCorner : Con := ⟨43, rowRun [.rows 2, .num 2] (fun l R => match l, R with | [x, y], [xs] => [xs.length ≤ 100000] | _, _ => [False]) fun l R => match l, R with
  | [x, y], [xs] => .agg [.int .i64 (nxI xs (x, y)).1, .int .i64 (nxI xs (x, y)).2]
  | _, _ => .any⟩
set_option maxRecDepth 100000 in
set_option maxHeartbeats 2000000 in
theorem con_ref11_nextCorner : c_ref11_nextCorner.Ok Try.prog := by
  refine con_rows (C := [c_ref03_Orientation, c_ref03_DistanceSquared]) (pl := [(4, [0, 1, 2, 3, 4, 5, 6, 7, 8, 9, 10, 11, 12], [0, 0, 3, 7, 0, 0, 48, 112, 0, 496, 0, 1039, 4095]), (8, [0, 1, 2, 3, 4, 5, 6, 7], [0, 0, 0, 0, 12, 28, 63, 127]), (9, [0, 1, 2, 3, 4, 5, 6, 7, 8, 9, 10, 11, 12, 13, 14, 15, 16, 17, 18], [0, 1, 3, 7, 15, 31, 63, 63, 63, 447, 959, 2047, 63, 63, 16383, 32767, 65535, 131071, 262143])]) Try.func43 rfl (by kernel_rfl) T_ok (Cons.cons con_ref03_Orientation (Cons.cons con_ref03_DistanceSquared (Cons.nil _))) mixed (by kernel_rfl) _ _ _ (fun l R hl hR hn hpre => ?_)
  match l, hl, R, hR with
  | [x, y], zl, [(true, xs)], zr =>
    clear zl zr
    obtain rfl : xs = [] := hn _ (List.Mem.head _) rfl
    have hp0 := hpre _ (List.Mem.head _); try dsimp only at hp0
    skip
    repeat' (first | (with_reducible refine And.intro ?_ ?_) | (with_reducible intro h) | ((fail_if_success (with_reducible refine Leaf.mk ?_)); (fail_if_success (with_reducible refine VC.mk ?_)); (fail_if_success (with_reducible refine Goes.mk ?_)); (fail_if_success (with_reducible refine Again.mk ?_)); (fail_if_success (with_reducible refine Rounds.mk ?_)); (fail_if_success (with_reducible show False)); (fail_if_success (with_reducible show True)); conv => whnf))
    all_goals try simp only [Bool.not_eq_true', Bool.not_eq_false', Bool.and_eq_true, decide_eq_true_eq, decide_eq_false_iff_not, tkA, Nat.zero_add, Nat.reduceAdd, Int.toNat_natCast, tmN] at *
    all_goals try first | exact trivial | (show False; omega) | exact Leaf.mk trivial | exact Leaf.mk rfl | (refine VC.mk ?_; first | trivial | assumption | ((try simp only [InR] at *); omega) | (simp; done) | (simp; omega))
    all_goals try refine goes_rounds 1 ?_
    all_goals try (refine rounds_one (pl := [(4, [0, 1, 2, 3, 4, 5, 6, 7, 8, 9, 10, 11, 12], [0, 0, 3, 7, 0, 0, 48, 112, 0, 496, 0, 1039, 4095]), (8, [0, 1, 2, 3, 4, 5, 6, 7], [0, 0, 0, 0, 12, 28, 63, 127]), (9, [0, 1, 2, 3, 4, 5, 6, 7, 8, 9, 10, 11, 12, 13, 14, 15, 16, 17, 18], [0, 1, 3, 7, 15, 31, 63, 63, 63, 447, 959, 2047, 63, 63, 16383, 32767, 65535, 131071, 262143])]) T_ok (Cons.cons con_ref03_Orientation (Cons.cons con_ref03_DistanceSquared (Cons.nil _))) mixed (by kernel_rfl) ?_; repeat' (first | (with_reducible refine And.intro ?_ ?_) | (with_reducible intro h) | ((fail_if_success (with_reducible refine Leaf.mk ?_)); (fail_if_success (with_reducible refine VC.mk ?_)); (fail_if_success (with_reducible refine Goes.mk ?_)); (fail_if_success (with_reducible refine Again.mk ?_)); (fail_if_success (with_reducible refine Rounds.mk ?_)); (fail_if_success (with_reducible show False)); (fail_if_success (with_reducible show True)); conv => whnf)))
    all_goals try simp only [Bool.not_eq_true', Bool.not_eq_false', Bool.and_eq_true, decide_eq_true_eq, decide_eq_false_iff_not, tkA, Nat.zero_add, Nat.reduceAdd, Int.toNat_natCast, tmN] at *
    all_goals try first | exact trivial | (show False; omega) | exact Leaf.mk trivial | exact Leaf.mk rfl | (refine VC.mk ?_; first | trivial | assumption | ((try simp only [InR] at *); omega) | (simp; done) | (simp; omega))
    all_goals (refine Leaf.mk ?_; rfl)
  | [x, y], zl, [(false, xs)], zr =>
    clear zl zr
    have hp0 := hpre _ (List.Mem.head _); try dsimp only at hp0
    skip
    repeat' (first | (with_reducible refine And.intro ?_ ?_) | (with_reducible intro h) | ((fail_if_success (with_reducible refine Leaf.mk ?_)); (fail_if_success (with_reducible refine VC.mk ?_)); (fail_if_success (with_reducible refine Goes.mk ?_)); (fail_if_success (with_reducible refine Again.mk ?_)); (fail_if_success (with_reducible refine Rounds.mk ?_)); (fail_if_success (with_reducible show False)); (fail_if_success (with_reducible show True)); conv => whnf))
    all_goals try simp only [Bool.not_eq_true', Bool.not_eq_false', Bool.and_eq_true, decide_eq_true_eq, decide_eq_false_iff_not, tkA, Nat.zero_add, Nat.reduceAdd, Int.toNat_natCast, tmN] at *
    all_goals try first | exact trivial | (show False; omega) | exact Leaf.mk trivial | exact Leaf.mk rfl | (refine VC.mk ?_; first | trivial | assumption | ((try simp only [InR] at *); omega) | (simp; done) | (simp; omega))
    refine goes_inv (X := Nat) (pl := [(4, [0, 1, 2, 3, 4, 5, 6, 7, 8, 9, 10, 11, 12], [0, 0, 3, 7, 0, 0, 48, 112, 0, 496, 0, 1039, 4095]), (8, [0, 1, 2, 3, 4, 5, 6, 7], [0, 0, 0, 0, 12, 28, 63, 127]), (9, [0, 1, 2, 3, 4, 5, 6, 7, 8, 9, 10, 11, 12, 13, 14, 15, 16, 17, 18], [0, 1, 3, 7, 15, 31, 63, 63, 63, 447, 959, 2047, 63, 63, 16383, 32767, 65535, 131071, 262143])]) T_ok (Cons.cons con_ref03_Orientation (Cons.cons con_ref03_DistanceSquared (Cons.nil _))) mixed (by kernel_rfl)
      (fun i => (.sl 0 2 0 xs.length :: .any :: .any :: .ptr 1 0 :: .ptr 2 0 :: .int .i64 (i : Int) :: .any :: .any :: .any :: .any :: .any :: .any :: .any :: .any :: .any :: .any :: .any :: .any :: .any :: .any :: .any :: .any :: .any :: .any :: .any :: .any :: .any :: .any :: .any :: .any :: .any :: .any :: .any :: .any :: .any :: .any :: .any :: .any :: .any :: .any :: .any :: .any :: .any :: .any :: .any :: .any :: .any :: .any :: .any :: .any :: .any :: .any :: .any :: .any :: .any :: .any :: .any :: .any :: .any :: .any :: .any :: .any :: .any :: [], [.arr false true 2 xs, .cells [.int .i64 x, .int .i64 y], .cells [.any, .any]]))
      (fun i => i ≤ xs.length ∧ nxF xs (x, y) i = none) (fun i => xs.length - i) 0 [0, 1, 2] ⟨Nat.zero_le _, rfl⟩ ?_ ?_ ?_
    · repeat' (first | (with_reducible refine And.intro ?_ ?_) | (with_reducible intro h) | ((fail_if_success (with_reducible refine Leaf.mk ?_)); (fail_if_success (with_reducible refine VC.mk ?_)); (fail_if_success (with_reducible refine Goes.mk ?_)); (fail_if_success (with_reducible refine Again.mk ?_)); (fail_if_success (with_reducible refine Rounds.mk ?_)); (fail_if_success (with_reducible show False)); (fail_if_success (with_reducible show True)); conv => whnf))
      all_goals first | exact trivial | (refine Leaf.mk ?_; first | rfl | exact ⟨rfl, rfl⟩ | (simp; done))
    · repeat' (first | (with_reducible refine And.intro ?_ ?_) | (with_reducible intro h) | ((fail_if_success (with_reducible refine Leaf.mk ?_)); (fail_if_success (with_reducible refine VC.mk ?_)); (fail_if_success (with_reducible refine Goes.mk ?_)); (fail_if_success (with_reducible refine Again.mk ?_)); (fail_if_success (with_reducible refine Rounds.mk ?_)); (fail_if_success (with_reducible show False)); (fail_if_success (with_reducible show True)); conv => whnf))
      all_goals first | exact trivial | (refine Leaf.mk ?_; first | rfl | exact ⟨rfl, rfl⟩ | (simp; done))
    · intro i hx
      obtain ⟨hx1, hx2⟩ := hx
      repeat' (first | (with_reducible refine And.intro ?_ ?_) | (with_reducible intro h) | ((fail_if_success (with_reducible refine Leaf.mk ?_)); (fail_if_success (with_reducible refine VC.mk ?_)); (fail_if_success (with_reducible refine Goes.mk ?_)); (fail_if_success (with_reducible refine Again.mk ?_)); (fail_if_success (with_reducible refine Rounds.mk ?_)); (fail_if_success (with_reducible show False)); (fail_if_success (with_reducible show True)); conv => whnf))
      all_goals try simp only [Bool.not_eq_true', Bool.not_eq_false', Bool.and_eq_true, decide_eq_true_eq, decide_eq_false_iff_not, tkA, Nat.zero_add, Nat.reduceAdd, Int.toNat_natCast, tmN] at *
      all_goals try first | exact trivial | (show False; omega) | exact Leaf.mk trivial | exact Leaf.mk rfl | (refine VC.mk ?_; first | trivial | assumption | ((try simp only [InR] at *); omega) | (simp; done) | (simp; omega))
      refine goes_inv (X := Nat) (pl := [(4, [0, 1, 2, 3, 4, 5, 6, 7, 8, 9, 10, 11, 12], [0, 0, 3, 7, 0, 0, 48, 112, 0, 496, 0, 1039, 4095]), (8, [0, 1, 2, 3, 4, 5, 6, 7], [0, 0, 0, 0, 12, 28, 63, 127]), (9, [0, 1, 2, 3, 4, 5, 6, 7, 8, 9, 10, 11, 12, 13, 14, 15, 16, 17, 18], [0, 1, 3, 7, 15, 31, 63, 63, 63, 447, 959, 2047, 63, 63, 16383, 32767, 65535, 131071, 262143])]) T_ok (Cons.cons con_ref03_Orientation (Cons.cons con_ref03_DistanceSquared (Cons.nil _))) mixed (by kernel_rfl)
        (fun k => (.sl 0 2 0 xs.length :: .any :: .any :: .ptr 1 0 :: .ptr 2 0 :: .int .i64 (i : Int) :: .ptr 3 0 :: .bool (decide (OkI xs (x, y) i k)) :: .int .i64 (k : Int) :: .any :: .any :: .any :: .any :: .any :: .any :: .any :: .any :: .any :: .any :: .any :: .any :: .any :: .any :: .any :: .any :: .any :: .any :: .any :: .any :: .any :: .any :: .any :: .any :: .any :: .any :: .any :: .any :: .any :: .any :: .any :: .any :: .any :: .any :: .any :: .any :: .any :: .any :: .any :: .any :: .any :: .any :: .any :: .any :: .any :: .any :: .any :: .any :: .any :: .any :: .any :: .any :: .any :: .any :: [], [.arr false true 2 xs, .cells [.int .i64 x, .int .i64 y], .cells [.any, .any], .cells [.int .i64 (at2 xs i 0), .int .i64 (at2 xs i 1)]]))
        (fun k => k ≤ xs.length) (fun k => xs.length - k) 0 [0, 1, 2, 3] (Nat.zero_le _) ?_ ?_ ?_
      · repeat' (first | (with_reducible refine And.intro ?_ ?_) | (with_reducible intro h) | ((fail_if_success (with_reducible refine Leaf.mk ?_)); (fail_if_success (with_reducible refine VC.mk ?_)); (fail_if_success (with_reducible refine Goes.mk ?_)); (fail_if_success (with_reducible refine Again.mk ?_)); (fail_if_success (with_reducible refine Rounds.mk ?_)); (fail_if_success (with_reducible show False)); (fail_if_success (with_reducible show True)); conv => whnf))
        all_goals first | exact trivial | (refine Leaf.mk ?_; first | rfl | (simp; done) | (rw [okI_zero]; done) | (refine congrArg SV.bool ?_; exact okI_zero.symm))
      · repeat' (first | (with_reducible refine And.intro ?_ ?_) | (with_reducible intro h) | ((fail_if_success (with_reducible refine Leaf.mk ?_)); (fail_if_success (with_reducible refine VC.mk ?_)); (fail_if_success (with_reducible refine Goes.mk ?_)); (fail_if_success (with_reducible refine Again.mk ?_)); (fail_if_success (with_reducible refine Rounds.mk ?_)); (fail_if_success (with_reducible show False)); (fail_if_success (with_reducible show True)); conv => whnf))
        all_goals first | exact trivial | (refine Leaf.mk ?_; first | rfl | (simp; done) | (rw [okI_zero]; done) | (refine congrArg SV.bool ?_; exact okI_zero.symm))
      · intro k hx
        repeat' (first | (with_reducible refine And.intro ?_ ?_) | (with_reducible intro h) | ((fail_if_success (with_reducible refine Leaf.mk ?_)); (fail_if_success (with_reducible refine VC.mk ?_)); (fail_if_success (with_reducible refine Goes.mk ?_)); (fail_if_success (with_reducible refine Again.mk ?_)); (fail_if_success (with_reducible refine Rounds.mk ?_)); (fail_if_success (with_reducible show False)); (fail_if_success (with_reducible show True)); conv => whnf))
        all_goals try simp only [Bool.not_eq_true', Bool.not_eq_false', Bool.and_eq_true, decide_eq_true_eq, decide_eq_false_iff_not, tkA, Nat.zero_add, Nat.reduceAdd, Int.toNat_natCast, tmN] at *
        all_goals try first | exact trivial | (show False; omega) | exact Leaf.mk trivial | exact Leaf.mk rfl | (refine VC.mk ?_; first | trivial | assumption | ((try simp only [InR] at *); omega) | (simp; done) | (simp; omega))
        all_goals first
          | contradiction
          | (have e := okI_1 (i := i) (k := k) (by assumption) (by assumption)
             (refine Again.mk ⟨k + 1, [0, 1, 2, 3], (by show k + 1 ≤ xs.length; omega), (by show xs.length - (k + 1) < xs.length - k; omega), ?_, ?_⟩ <;> (repeat' (first | (with_reducible refine And.intro ?_ ?_) | (with_reducible intro h) | ((fail_if_success (with_reducible refine Leaf.mk ?_)); (fail_if_success (with_reducible refine VC.mk ?_)); (fail_if_success (with_reducible refine Goes.mk ?_)); (fail_if_success (with_reducible refine Again.mk ?_)); (fail_if_success (with_reducible refine Rounds.mk ?_)); (fail_if_success (with_reducible show False)); (fail_if_success (with_reducible show True)); conv => whnf))) <;> first | exact trivial | (refine Leaf.mk ?_; first | rfl | exact e | exact e.symm | (rw [e]; done) | (simp; done))))
          | (have e := okI_0 (i := i) (k := k) (by assumption) (by assumption)
             (refine Again.mk ⟨k + 1, [0, 1, 2, 3], (by show k + 1 ≤ xs.length; omega), (by show xs.length - (k + 1) < xs.length - k; omega), ?_, ?_⟩ <;> (repeat' (first | (with_reducible refine And.intro ?_ ?_) | (with_reducible intro h) | ((fail_if_success (with_reducible refine Leaf.mk ?_)); (fail_if_success (with_reducible refine VC.mk ?_)); (fail_if_success (with_reducible refine Goes.mk ?_)); (fail_if_success (with_reducible refine Again.mk ?_)); (fail_if_success (with_reducible refine Rounds.mk ?_)); (fail_if_success (with_reducible show False)); (fail_if_success (with_reducible show True)); conv => whnf))) <;> first | exact trivial | (refine Leaf.mk ?_; first | rfl | exact e | exact e.symm | (rw [e]; done) | (simp; done))))
          | (have e := okI_n (i := i) (k := k) (by assumption) (by assumption) (by assumption)
             (refine Again.mk ⟨k + 1, [0, 1, 2, 3], (by show k + 1 ≤ xs.length; omega), (by show xs.length - (k + 1) < xs.length - k; omega), ?_, ?_⟩ <;> (repeat' (first | (with_reducible refine And.intro ?_ ?_) | (with_reducible intro h) | ((fail_if_success (with_reducible refine Leaf.mk ?_)); (fail_if_success (with_reducible refine VC.mk ?_)); (fail_if_success (with_reducible refine Goes.mk ?_)); (fail_if_success (with_reducible refine Again.mk ?_)); (fail_if_success (with_reducible refine Rounds.mk ?_)); (fail_if_success (with_reducible show False)); (fail_if_success (with_reducible show True)); conv => whnf))) <;> first | exact trivial | (refine Leaf.mk ?_; first | rfl | exact e | exact e.symm | (rw [e]; done) | (simp; done))))
          | (have hk : k = xs.length := by omega
             subst hk
             refine Leaf.mk ?_
             first
               | rw [nxI_hit hx2 (by assumption) (by omega)]; rfl)
          | ((refine Again.mk ⟨i + 1, [0, 1, 2], ⟨by omega, nxF_go hx2 (fun hh => absurd (hh.le hx) (by assumption))⟩, (by omega), ?_, ?_⟩ <;> (repeat' (first | (with_reducible refine And.intro ?_ ?_) | (with_reducible intro h) | ((fail_if_success (with_reducible refine Leaf.mk ?_)); (fail_if_success (with_reducible refine VC.mk ?_)); (fail_if_success (with_reducible refine Goes.mk ?_)); (fail_if_success (with_reducible refine Again.mk ?_)); (fail_if_success (with_reducible refine Rounds.mk ?_)); (fail_if_success (with_reducible show False)); (fail_if_success (with_reducible show True)); conv => whnf))) <;> first | exact trivial | (refine Leaf.mk ?_; first | rfl | exact ⟨rfl, rfl⟩ | (simp; done))))
          | trace_state
      all_goals (have hi : i = xs.length := by omega)
      all_goals subst hi
      all_goals refine Leaf.mk ?_
      all_goals rw [nxI_none hx2]
def c_ref11_ends : Con := ⟨42, genRun [.rows 2] (fun l R => match l, R with | [], [(bxs, xs)] => [0 < xs.length, xs.length ≤ 100000] | _, _ => [False]) fun l R => match l, R with
  | [], [(bxs, xs)] => [.val (.agg [.int .i64 (lowP xs).1, .int .i64 (lowP xs).2, .int .i64 (highP xs).1, .int .i64 (highP xs).2]), .val (.bool (decide (ColN xs xs.length)))]
  | _, _ => []⟩
set_option maxRecDepth 100000 in
set_option maxHeartbeats 4000000 in
theorem con_ref11_ends : c_ref11_ends.Ok Try.prog := by
  refine con_gen (C := [c_ref03_Orientation]) (pl := [(1, [0, 1, 2, 3, 4, 5, 6, 7, 8, 9], [0, 1, 3, 0, 8, 24, 0, 0, 199, 511]), (13, [0, 1, 2, 3, 4, 5, 6, 7], [0, 0, 0, 0, 12, 28, 63, 127])]) Try.func42 rfl (by kernel_rfl) T_ok (Cons.cons con_ref03_Orientation (Cons.nil _)) mixed (by kernel_rfl) _ _ _ (fun l R hl hR hn hpre => ?_)
  match l, hl, R, hR with
  | [], zl, [(true, xs)], zr =>
    clear zl zr
    obtain rfl : xs = [] := hn _ (List.Mem.head _) rfl
    have hp0 := hpre _ (List.Mem.head _); try dsimp only at hp0
    have hp1 := hpre _ (List.Mem.tail _ (List.Mem.head _)); try dsimp only at hp1
    exact absurd hp0 (by simp)
  | [], zl, [(false, xs)], zr =>
    clear zl zr
    have hp0 := hpre _ (List.Mem.head _); try dsimp only at hp0
    have hp1 := hpre _ (List.Mem.tail _ (List.Mem.head _)); try dsimp only at hp1
    repeat' (first | (with_reducible refine And.intro ?_ ?_) | (with_reducible intro h) | ((fail_if_success (with_reducible refine Leaf.mk ?_)); (fail_if_success (with_reducible refine VC.mk ?_)); (fail_if_success (with_reducible refine Goes.mk ?_)); (fail_if_success (with_reducible refine Again.mk ?_)); (fail_if_success (with_reducible refine Rounds.mk ?_)); (fail_if_success (with_reducible show False)); (fail_if_success (with_reducible show True)); conv => whnf))
    all_goals try simp only [Bool.not_eq_true', Bool.not_eq_false', Bool.and_eq_true, decide_eq_true_eq, decide_eq_false_iff_not, tkA, Nat.zero_add, Nat.reduceAdd, Int.toNat_natCast, tmN] at *
    all_goals try first | exact trivial | (show False; omega) | exact Leaf.mk trivial | exact Leaf.mk rfl | (refine VC.mk ?_; first | trivial | assumption | ((try simp only [InR] at *); omega) | (simp; done) | (simp; omega))
    refine goes_inv (X := Nat) (pl := [(1, [0, 1, 2, 3, 4, 5, 6, 7, 8, 9], [0, 1, 3, 0, 8, 24, 0, 0, 199, 511]), (13, [0, 1, 2, 3, 4, 5, 6, 7], [0, 0, 0, 0, 12, 28, 63, 127])]) T_ok (Cons.cons con_ref03_Orientation (Cons.nil _)) mixed (by kernel_rfl)
      (fun k => (.sl 0 2 0 xs.length :: .any :: .ptr 1 0 :: .any :: .ptr 2 0 :: .ptr 3 0 :: .int .i64 (k : Int) :: .any :: .any :: .any :: .any :: .any :: .any :: .any :: .any :: .any :: .any :: .any :: .any :: .any :: .any :: .any :: .any :: .any :: .any :: .any :: .any :: .any :: .any :: .any :: .any :: .any :: .any :: .any :: .any :: .any :: .any :: .any :: .any :: .any :: .any :: .any :: .any :: .any :: .any :: .any :: .any :: .any :: .any :: .any :: .any :: .any :: .any :: .any :: .any :: .any :: .any :: .any :: .any :: .any :: .any :: .any :: .any :: .any :: .any :: .any :: .any :: .any :: .any :: .any :: .any :: .any :: .any :: .any :: .any :: .any :: .any :: .any :: .any :: .any :: .any :: .any :: .any :: .any :: .any :: [], [.arr false true 2 xs, .cells [.lit .i64 0, .lit .i64 0, .lit .i64 0, .lit .i64 0], .cells [.int .i64 (lowN xs k).1, .int .i64 (lowN xs k).2], .cells [.int .i64 (highN xs k).1, .int .i64 (highN xs k).2]]))
      (fun k => k ≤ xs.length) (fun k => xs.length - k) 0 [0, 1, 2, 3] (Nat.zero_le _) ?_ ?_ ?_
    · repeat' (first | (with_reducible refine And.intro ?_ ?_) | (with_reducible intro h) | ((fail_if_success (with_reducible refine Leaf.mk ?_)); (fail_if_success (with_reducible refine VC.mk ?_)); (fail_if_success (with_reducible refine Goes.mk ?_)); (fail_if_success (with_reducible refine Again.mk ?_)); (fail_if_success (with_reducible refine Rounds.mk ?_)); (fail_if_success (with_reducible show False)); (fail_if_success (with_reducible show True)); conv => whnf))
      all_goals first | exact trivial | (refine Leaf.mk ?_; first | rfl | exact ⟨rfl, rfl⟩ | (simp; done))
    · repeat' (first | (with_reducible refine And.intro ?_ ?_) | (with_reducible intro h) | ((fail_if_success (with_reducible refine Leaf.mk ?_)); (fail_if_success (with_reducible refine VC.mk ?_)); (fail_if_success (with_reducible refine Goes.mk ?_)); (fail_if_success (with_reducible refine Again.mk ?_)); (fail_if_success (with_reducible refine Rounds.mk ?_)); (fail_if_success (with_reducible show False)); (fail_if_success (with_reducible show True)); conv => whnf))
      all_goals first | exact trivial | (refine Leaf.mk ?_; first | rfl | exact ⟨rfl, rfl⟩ | (simp; done))
    · intro k hx
      repeat' (first | (with_reducible refine And.intro ?_ ?_) | (with_reducible intro h) | ((fail_if_success (with_reducible refine Leaf.mk ?_)); (fail_if_success (with_reducible refine VC.mk ?_)); (fail_if_success (with_reducible refine Goes.mk ?_)); (fail_if_success (with_reducible refine Again.mk ?_)); (fail_if_success (with_reducible refine Rounds.mk ?_)); (fail_if_success (with_reducible show False)); (fail_if_success (with_reducible show True)); conv => whnf))
      all_goals try simp only [Bool.not_eq_true', Bool.not_eq_false', Bool.and_eq_true, decide_eq_true_eq, decide_eq_false_iff_not, tkA, Nat.zero_add, Nat.reduceAdd, Int.toNat_natCast, tmN] at *
      all_goals try first | exact trivial | (show False; omega) | exact Leaf.mk trivial | exact Leaf.mk rfl | (refine VC.mk ?_; first | trivial | assumption | ((try simp only [InR] at *); omega) | (simp; done) | (simp; omega))
      all_goals try first
        | (have el : lowN xs (k + 1) = lowN xs k := if_neg (by unfold Hl.lt; simp only [pt]; omega)
           have eh : highN xs (k + 1) = highN xs k := if_neg (by unfold Hl.lt; simp only [pt]; omega)
           (refine Again.mk ⟨k + 1, [0, 1, 2, 3], (by show k + 1 ≤ xs.length; omega), (by show xs.length - (k + 1) < xs.length - k; omega), ?_, ?_⟩ <;> (repeat' (first | (with_reducible refine And.intro ?_ ?_) | (with_reducible intro h) | ((fail_if_success (with_reducible refine Leaf.mk ?_)); (fail_if_success (with_reducible refine VC.mk ?_)); (fail_if_success (with_reducible refine Goes.mk ?_)); (fail_if_success (with_reducible refine Again.mk ?_)); (fail_if_success (with_reducible refine Rounds.mk ?_)); (fail_if_success (with_reducible show False)); (fail_if_success (with_reducible show True)); conv => whnf))) <;> first | exact trivial | (refine Leaf.mk ?_; first | rfl | (rw [el]; done) | (rw [eh]; done) | (simp only [el, eh]; rfl) | (simp; done))))
        | (have el : lowN xs (k + 1) = lowN xs k := if_neg (by unfold Hl.lt; simp only [pt]; omega)
           have eh : highN xs (k + 1) = pt xs k := if_pos (by unfold Hl.lt; simp only [pt]; omega)
           (refine Again.mk ⟨k + 1, [0, 1, 2, 3], (by show k + 1 ≤ xs.length; omega), (by show xs.length - (k + 1) < xs.length - k; omega), ?_, ?_⟩ <;> (repeat' (first | (with_reducible refine And.intro ?_ ?_) | (with_reducible intro h) | ((fail_if_success (with_reducible refine Leaf.mk ?_)); (fail_if_success (with_reducible refine VC.mk ?_)); (fail_if_success (with_reducible refine Goes.mk ?_)); (fail_if_success (with_reducible refine Again.mk ?_)); (fail_if_success (with_reducible refine Rounds.mk ?_)); (fail_if_success (with_reducible show False)); (fail_if_success (with_reducible show True)); conv => whnf))) <;> first | exact trivial | (refine Leaf.mk ?_; first | rfl | (rw [el]; done) | (rw [eh]; done) | (simp only [el, eh]; rfl) | (simp; done))))
        | (have el : lowN xs (k + 1) = pt xs k := if_pos (by unfold Hl.lt; simp only [pt]; omega)
           have eh : highN xs (k + 1) = highN xs k := if_neg (by unfold Hl.lt; simp only [pt]; omega)
           (refine Again.mk ⟨k + 1, [0, 1, 2, 3], (by show k + 1 ≤ xs.length; omega), (by show xs.length - (k + 1) < xs.length - k; omega), ?_, ?_⟩ <;> (repeat' (first | (with_reducible refine And.intro ?_ ?_) | (with_reducible intro h) | ((fail_if_success (with_reducible refine Leaf.mk ?_)); (fail_if_success (with_reducible refine VC.mk ?_)); (fail_if_success (with_reducible refine Goes.mk ?_)); (fail_if_success (with_reducible refine Again.mk ?_)); (fail_if_success (with_reducible refine Rounds.mk ?_)); (fail_if_success (with_reducible show False)); (fail_if_success (with_reducible show True)); conv => whnf))) <;> first | exact trivial | (refine Leaf.mk ?_; first | rfl | (rw [el]; done) | (rw [eh]; done) | (simp only [el, eh]; rfl) | (simp; done))))
        | (have el : lowN xs (k + 1) = pt xs k := if_pos (by unfold Hl.lt; simp only [pt]; omega)
           have eh : highN xs (k + 1) = pt xs k := if_pos (by unfold Hl.lt; simp only [pt]; omega)
           (refine Again.mk ⟨k + 1, [0, 1, 2, 3], (by show k + 1 ≤ xs.length; omega), (by show xs.length - (k + 1) < xs.length - k; omega), ?_, ?_⟩ <;> (repeat' (first | (with_reducible refine And.intro ?_ ?_) | (with_reducible intro h) | ((fail_if_success (with_reducible refine Leaf.mk ?_)); (fail_if_success (with_reducible refine VC.mk ?_)); (fail_if_success (with_reducible refine Goes.mk ?_)); (fail_if_success (with_reducible refine Again.mk ?_)); (fail_if_success (with_reducible refine Rounds.mk ?_)); (fail_if_success (with_reducible show False)); (fail_if_success (with_reducible show True)); conv => whnf))) <;> first | exact trivial | (refine Leaf.mk ?_; first | rfl | (rw [el]; done) | (rw [eh]; done) | (simp only [el, eh]; rfl) | (simp; done))))
      have hk : k = xs.length := by omega
      subst hk
      refine goes_inv (X := Nat) (pl := [(1, [0, 1, 2, 3, 4, 5, 6, 7, 8, 9], [0, 1, 3, 0, 8, 24, 0, 0, 199, 511]), (13, [0, 1, 2, 3, 4, 5, 6, 7], [0, 0, 0, 0, 12, 28, 63, 127])]) T_ok (Cons.cons con_ref03_Orientation (Cons.nil _)) mixed (by kernel_rfl)
        (fun j => (.sl 0 2 0 xs.length :: .any :: .ptr 1 0 :: .any :: .ptr 2 0 :: .ptr 3 0 :: .any :: .any :: .int .i64 (j : Int) :: .any :: .any :: .any :: .any :: .any :: .any :: .any :: .any :: .any :: .any :: .any :: .any :: .any :: .any :: .any :: .any :: .any :: .any :: .any :: .any :: .any :: .any :: .any :: .any :: .any :: .any :: .any :: .any :: .any :: .any :: .any :: .any :: .any :: .any :: .any :: .any :: .any :: .any :: .any :: .any :: .any :: .any :: .any :: .any :: .any :: .any :: .any :: .any :: .any :: .any :: .any :: .any :: .any :: .any :: .any :: .any :: .any :: .any :: .any :: .any :: .any :: .any :: .any :: .any :: .any :: .any :: .any :: .any :: .any :: .any :: .any :: .any :: .any :: .any :: .any :: .any :: [], [.arr false true 2 xs, .cells [.lit .i64 0, .lit .i64 0, .lit .i64 0, .lit .i64 0], .cells [.int .i64 (lowP xs).1, .int .i64 (lowP xs).2], .cells [.int .i64 (highP xs).1, .int .i64 (highP xs).2]]))
        (fun j => j ≤ xs.length ∧ ColN xs j) (fun j => xs.length - j) 0 [0, 1, 2, 3] ⟨Nat.zero_le _, ColN.nil xs⟩ ?_ ?_ ?_
      · repeat' (first | (with_reducible refine And.intro ?_ ?_) | (with_reducible intro h) | ((fail_if_success (with_reducible refine Leaf.mk ?_)); (fail_if_success (with_reducible refine VC.mk ?_)); (fail_if_success (with_reducible refine Goes.mk ?_)); (fail_if_success (with_reducible refine Again.mk ?_)); (fail_if_success (with_reducible refine Rounds.mk ?_)); (fail_if_success (with_reducible show False)); (fail_if_success (with_reducible show True)); conv => whnf))
        all_goals first | exact trivial | (refine Leaf.mk ?_; first | rfl | exact ⟨rfl, rfl⟩ | (simp; done))
      · repeat' (first | (with_reducible refine And.intro ?_ ?_) | (with_reducible intro h) | ((fail_if_success (with_reducible refine Leaf.mk ?_)); (fail_if_success (with_reducible refine VC.mk ?_)); (fail_if_success (with_reducible refine Goes.mk ?_)); (fail_if_success (with_reducible refine Again.mk ?_)); (fail_if_success (with_reducible refine Rounds.mk ?_)); (fail_if_success (with_reducible show False)); (fail_if_success (with_reducible show True)); conv => whnf))
        all_goals first | exact trivial | (refine Leaf.mk ?_; first | rfl | exact ⟨rfl, rfl⟩ | (simp; done))
      · intro j hx
        obtain ⟨hj1, hj2⟩ := hx
        repeat' (first | (with_reducible refine And.intro ?_ ?_) | (with_reducible intro h) | ((fail_if_success (with_reducible refine Leaf.mk ?_)); (fail_if_success (with_reducible refine VC.mk ?_)); (fail_if_success (with_reducible refine Goes.mk ?_)); (fail_if_success (with_reducible refine Again.mk ?_)); (fail_if_success (with_reducible refine Rounds.mk ?_)); (fail_if_success (with_reducible show False)); (fail_if_success (with_reducible show True)); conv => whnf))
        all_goals try simp only [Bool.not_eq_true', Bool.not_eq_false', Bool.and_eq_true, decide_eq_true_eq, decide_eq_false_iff_not, tkA, Nat.zero_add, Nat.reduceAdd, Int.toNat_natCast, tmN] at *
        all_goals try first | exact trivial | (show False; omega) | exact Leaf.mk trivial | exact Leaf.mk rfl | (refine VC.mk ?_; first | trivial | assumption | ((try simp only [InR] at *); omega) | (simp; done) | (simp; omega))
        all_goals first
          | (refine Leaf.mk ?_; exact (decide_eq_false (fun hh => absurd (hh j (by omega)) (by assumption))).symm)
          | (have hj : j = xs.length := by omega
             subst hj
             refine Leaf.mk ?_
             exact (decide_eq_true hj2).symm)
          | (refine Again.mk ⟨j + 1, [0, 1, 2, 3], ⟨by omega, hj2.succ (by assumption)⟩, (by omega), ?_, ?_⟩ <;> (repeat' (first | (with_reducible refine And.intro ?_ ?_) | (with_reducible intro h) | ((fail_if_success (with_reducible refine Leaf.mk ?_)); (fail_if_success (with_reducible refine VC.mk ?_)); (fail_if_success (with_reducible refine Goes.mk ?_)); (fail_if_success (with_reducible refine Again.mk ?_)); (fail_if_success (with_reducible refine Rounds.mk ?_)); (fail_if_success (with_reducible show False)); (fail_if_success (with_reducible show True)); conv => whnf))) <;> first | exact trivial | (refine Leaf.mk ?_; first | rfl | exact ⟨rfl, rfl⟩ | (simp; done)))
def c_ref11_ConvexHull : Con := ⟨24, genRun [.rows 2] (fun l R => match l, R with | [], [(bxs, xs)] => [xs.length ≤ 100000, wf 2 xs] | _, _ => [False]) fun l R => match l, R with
  | [], [(bxs, xs)] => [.rows (!hullOk xs) 2 (refR xs)]
  | _, _ => []⟩
set_option maxRecDepth 100000 in
set_option maxHeartbeats 4000000 in
theorem con_ref11_ConvexHull : c_ref11_ConvexHull.Ok Try.prog := by
  refine con_gen (C := [c_ref11_inRange, c_ref11_ends, c_ref11_nextCorner]) (pl := []) Try.func24 rfl (by kernel_rfl) T_ok (Cons.cons con_ref11_inRange (Cons.cons con_ref11_ends (Cons.cons con_ref11_nextCorner (Cons.nil _)))) mixed (by kernel_rfl) _ _ _ (fun l R hl hR hn hpre => ?_)
  match l, hl, R, hR with
  | [], zl, [(true, xs)], zr =>
    clear zl zr
    obtain rfl : xs = [] := hn _ (List.Mem.head _) rfl
    have hp0 := hpre _ (List.Mem.head _); try dsimp only at hp0
    have hp1 := hpre _ (List.Mem.tail _ (List.Mem.head _)); try dsimp only at hp1
    repeat' (first | (with_reducible refine And.intro ?_ ?_) | (with_reducible intro h) | ((fail_if_success (with_reducible refine Leaf.mk ?_)); (fail_if_success (with_reducible refine VC.mk ?_)); (fail_if_success (with_reducible refine Goes.mk ?_)); (fail_if_success (with_reducible refine Again.mk ?_)); (fail_if_success (with_reducible refine Rounds.mk ?_)); (fail_if_success (with_reducible show False)); (fail_if_success (with_reducible show True)); conv => whnf))
    all_goals try simp only [Bool.not_eq_true', Bool.not_eq_false', Bool.and_eq_true, decide_eq_true_eq, decide_eq_false_iff_not, tkA, Nat.zero_add, Nat.reduceAdd, Int.toNat_natCast, tmN] at *
    all_goals try first | exact trivial | (show False; omega) | exact Leaf.mk trivial | exact Leaf.mk rfl | (refine VC.mk ?_; first | trivial | assumption | ((try simp only [InR] at *); omega) | (simp; done) | (simp; omega))
    all_goals (refine Leaf.mk ?_; first | rfl | decide)
  | [], zl, [(false, xs)], zr =>
    clear zl zr
    have hp0 := hpre _ (List.Mem.head _); try dsimp only at hp0
    have hp1 := hpre _ (List.Mem.tail _ (List.Mem.head _)); try dsimp only at hp1
    repeat' (first | (with_reducible refine And.intro ?_ ?_) | (with_reducible intro h) | ((fail_if_success (with_reducible refine Leaf.mk ?_)); (fail_if_success (with_reducible refine VC.mk ?_)); (fail_if_success (with_reducible refine Goes.mk ?_)); (fail_if_success (with_reducible refine Again.mk ?_)); (fail_if_success (with_reducible refine Rounds.mk ?_)); (fail_if_success (with_reducible show False)); (fail_if_success (with_reducible show True)); conv => whnf))
    all_goals try simp only [Bool.not_eq_true', Bool.not_eq_false', Bool.and_eq_true, decide_eq_true_eq, decide_eq_false_iff_not, tkA, Nat.zero_add, Nat.reduceAdd, Int.toNat_natCast, tmN] at *
    all_goals try first | exact trivial | (show False; omega) | exact Leaf.mk trivial | exact Leaf.mk rfl | (refine VC.mk ?_; first | trivial | assumption | ((try simp only [InR] at *); omega) | (simp; done) | (simp; omega))
    all_goals try (refine Leaf.mk ?_; first | exact (hullOk_no (by first | (left; omega) | (right; left; omega) | (right; right; assumption))) | (unfold refR; rw [hullOk_no (by first | (left; omega) | (right; left; omega) | (right; right; assumption))]; rfl))
    refine goes_inv (X := Nat) (pl := []) T_ok (Cons.cons con_ref11_inRange (Cons.cons con_ref11_ends (Cons.cons con_ref11_nextCorner (Cons.nil _)))) mixed (by kernel_rfl)
      (fun k => (.sl 0 2 0 xs.length :: .any :: .any :: .int .i64 (k : Int) :: .any :: .any :: .any :: .any :: .any :: .any :: .any :: .any :: .any :: .any :: .any :: .any :: .any :: .any :: .any :: .any :: .any :: .any :: .any :: .any :: .any :: .any :: .any :: .any :: .any :: .any :: .any :: .any :: .any :: .any :: .any :: .any :: .any :: .any :: .any :: .any :: .any :: .any :: .any :: .any :: .any :: .any :: .any :: .any :: .any :: .any :: .any :: .any :: .any :: .any :: .any :: .any :: .any :: .any :: .any :: .any :: .any :: .any :: .any :: .any :: .any :: .any :: .any :: .any :: .any :: .any :: .any :: .any :: .any :: .any :: [], [.arr false true 2 xs]))
      (fun k => k ≤ xs.length ∧ AllR xs k) (fun k => xs.length - k) 0 [0] ⟨Nat.zero_le _, fun i hi => absurd hi (Nat.not_lt_zero _)⟩ ?_ ?_ ?_
    · repeat' (first | (with_reducible refine And.intro ?_ ?_) | (with_reducible intro h) | ((fail_if_success (with_reducible refine Leaf.mk ?_)); (fail_if_success (with_reducible refine VC.mk ?_)); (fail_if_success (with_reducible refine Goes.mk ?_)); (fail_if_success (with_reducible refine Again.mk ?_)); (fail_if_success (with_reducible refine Rounds.mk ?_)); (fail_if_success (with_reducible show False)); (fail_if_success (with_reducible show True)); conv => whnf))
      all_goals first | exact trivial | (refine Leaf.mk ?_; first | rfl | exact ⟨rfl, rfl⟩ | (simp; done))
    · repeat' (first | (with_reducible refine And.intro ?_ ?_) | (with_reducible intro h) | ((fail_if_success (with_reducible refine Leaf.mk ?_)); (fail_if_success (with_reducible refine VC.mk ?_)); (fail_if_success (with_reducible refine Goes.mk ?_)); (fail_if_success (with_reducible refine Again.mk ?_)); (fail_if_success (with_reducible refine Rounds.mk ?_)); (fail_if_success (with_reducible show False)); (fail_if_success (with_reducible show True)); conv => whnf))
      all_goals first | exact trivial | (refine Leaf.mk ?_; first | rfl | exact ⟨rfl, rfl⟩ | (simp; done))
    · intro k hx
      obtain ⟨hx1, hx2⟩ := hx
      repeat' (first | (with_reducible refine And.intro ?_ ?_) | (with_reducible intro h) | ((fail_if_success (with_reducible refine Leaf.mk ?_)); (fail_if_success (with_reducible refine VC.mk ?_)); (fail_if_success (with_reducible refine Goes.mk ?_)); (fail_if_success (with_reducible refine Again.mk ?_)); (fail_if_success (with_reducible refine Rounds.mk ?_)); (fail_if_success (with_reducible show False)); (fail_if_success (with_reducible show True)); conv => whnf))
      all_goals try simp only [Bool.not_eq_true', Bool.not_eq_false', Bool.and_eq_true, decide_eq_true_eq, decide_eq_false_iff_not, tkA, Nat.zero_add, Nat.reduceAdd, Int.toNat_natCast, tmN] at *
      all_goals try first | exact trivial | (show False; omega) | exact Leaf.mk trivial | exact Leaf.mk rfl | (refine VC.mk ?_; first | trivial | assumption | ((try simp only [InR] at *); omega) | (simp; done) | (simp; omega))
      all_goals try (have hno : ¬ AllR xs xs.length := fun hh => absurd (hh k (by omega)) (by assumption))
      all_goals try (refine Leaf.mk ?_; first | exact (hullOk_no (by first | (left; omega) | (right; left; omega) | (right; right; assumption))) | (unfold refR; rw [hullOk_no (by first | (left; omega) | (right; left; omega) | (right; right; assumption))]; rfl))
      all_goals try (refine Again.mk ⟨k + 1, [0], ⟨by omega, hx2.succ (by assumption)⟩, (by omega), ?_, ?_⟩ <;> (repeat' (first | (with_reducible refine And.intro ?_ ?_) | (with_reducible intro h) | ((fail_if_success (with_reducible refine Leaf.mk ?_)); (fail_if_success (with_reducible refine VC.mk ?_)); (fail_if_success (with_reducible refine Goes.mk ?_)); (fail_if_success (with_reducible refine Again.mk ?_)); (fail_if_success (with_reducible refine Rounds.mk ?_)); (fail_if_success (with_reducible show False)); (fail_if_success (with_reducible show True)); conv => whnf))) <;> first | exact trivial | (refine Leaf.mk ?_; first | rfl | exact ⟨rfl, rfl⟩ | (simp; done)))
      all_goals (have hk : k = xs.length := by omega)
      all_goals subst hk
      all_goals (have hok := hullOk_iff.2 ⟨by omega, by omega, hx2⟩)
      all_goals try (refine Leaf.mk ?_; first | exact hok | exact refR_one hok (by assumption) (by assumption) | exact refR_two hok (by assumption) (by assumption) | exact refR_two' hok (by assumption) (by assumption))
      all_goals try contradiction
      all_goals (
        refine goes_inv (X := (List (List Int) × P)) (pl := []) T_ok (Cons.cons con_ref11_inRange (Cons.cons con_ref11_ends (Cons.cons con_ref11_nextCorner (Cons.nil _)))) mixed (by kernel_rfl)
          (fun z => (.sl 0 2 0 xs.length :: .any :: .any :: .any :: .any :: .any :: .ptr 2 0 :: .sl 3 2 0 z.1.length :: .ptr 4 0 :: .any :: .any :: .any :: .any :: .any :: .any :: .any :: .any :: .any :: .any :: .any :: .any :: .any :: .any :: .any :: .any :: .any :: .any :: .any :: .any :: .any :: .any :: .any :: .any :: .any :: .any :: .any :: .any :: .any :: .any :: .any :: .any :: .any :: .any :: .any :: .any :: .any :: .any :: .any :: .any :: .any :: .any :: .any :: .any :: .any :: .any :: .any :: .any :: .any :: .any :: .any :: .any :: .any :: .any :: .any :: .any :: .any :: .any :: .any :: .any :: .any :: .any :: .any :: .any :: .any :: [], [.arr false true 2 xs, .cells [.any, .any, .any, .any], .cells [.int .i64 (lowP xs).1, .int .i64 (lowP xs).2], .arr true true 2 z.1, .cells [.int .i64 z.2.1, .int .i64 z.2.2]]))
          (fun z => refR xs = z.1 ++ rws (goI xs (lowP xs) (xs.length + 1 - z.1.length) z.2) ∧ 1 ≤ z.1.length ∧ z.1.length ≤ xs.length + 1 ∧ wf 2 z.1) (fun z => xs.length + 1 - z.1.length) ([[(lowP xs).1, (lowP xs).2]], nxI xs (lowP xs)) [0, 1, 2, 3, 4] ⟨refR_go hok (by assumption), Nat.le_refl _, by show 1 ≤ xs.length + 1; omega, fun r hr => by simp at hr; subst hr; rfl⟩ ?_ ?_ ?_
        · repeat' (first | (with_reducible refine And.intro ?_ ?_) | (with_reducible intro h) | ((fail_if_success (with_reducible refine Leaf.mk ?_)); (fail_if_success (with_reducible refine VC.mk ?_)); (fail_if_success (with_reducible refine Goes.mk ?_)); (fail_if_success (with_reducible refine Again.mk ?_)); (fail_if_success (with_reducible refine Rounds.mk ?_)); (fail_if_success (with_reducible show False)); (fail_if_success (with_reducible show True)); conv => whnf))
          all_goals first | exact trivial | (refine Leaf.mk ?_; first | rfl | exact ⟨rfl, rfl⟩ | (simp; done))
        · repeat' (first | (with_reducible refine And.intro ?_ ?_) | (with_reducible intro h) | ((fail_if_success (with_reducible refine Leaf.mk ?_)); (fail_if_success (with_reducible refine VC.mk ?_)); (fail_if_success (with_reducible refine Goes.mk ?_)); (fail_if_success (with_reducible refine Again.mk ?_)); (fail_if_success (with_reducible refine Rounds.mk ?_)); (fail_if_success (with_reducible show False)); (fail_if_success (with_reducible show True)); conv => whnf))
          all_goals first | exact trivial | (refine Leaf.mk ?_; first | rfl | exact ⟨rfl, rfl⟩ | (simp; done))
        · intro z hx
          obtain ⟨ys, v⟩ := z
          obtain ⟨hz1, hz2, hz3, hz4⟩ := hx
          dsimp only at *
          repeat' (first | (with_reducible refine And.intro ?_ ?_) | (with_reducible intro h) | ((fail_if_success (with_reducible refine Leaf.mk ?_)); (fail_if_success (with_reducible refine VC.mk ?_)); (fail_if_success (with_reducible refine Goes.mk ?_)); (fail_if_success (with_reducible refine Again.mk ?_)); (fail_if_success (with_reducible refine Rounds.mk ?_)); (fail_if_success (with_reducible show False)); (fail_if_success (with_reducible show True)); conv => whnf))
          all_goals try simp only [Bool.not_eq_true', Bool.not_eq_false', Bool.and_eq_true, decide_eq_true_eq, decide_eq_false_iff_not, tkA, Nat.zero_add, Nat.reduceAdd, Int.toNat_natCast, tmN] at *
          all_goals try first | exact trivial | (show False; omega) | exact Leaf.mk trivial | exact Leaf.mk rfl | (refine VC.mk ?_; first | trivial | assumption | ((try simp only [InR] at *); omega) | (simp; done) | (simp; omega))
          all_goals first
            | (refine Leaf.mk ?_; first | exact hok | exact refR_end hz1 (by first | (right; omega) | (left; exact Prod.ext (by simp_all; done) (by simp_all; done))))
            | (refine Again.mk ⟨(ys ++ [[v.1, v.2]], nxI xs v), [0, 1, 2, 6, 7], ⟨refR_next hz1 (by assumption) (by omega), by simp, by simp; omega, wf_app hz4 (fun r hr => by simp at hr; subst hr; rfl)⟩, (by simp; omega), ?_, ?_⟩ <;> (repeat' (first | (with_reducible refine And.intro ?_ ?_) | (with_reducible intro h) | ((fail_if_success (with_reducible refine Leaf.mk ?_)); (fail_if_success (with_reducible refine VC.mk ?_)); (fail_if_success (with_reducible refine Goes.mk ?_)); (fail_if_success (with_reducible refine Again.mk ?_)); (fail_if_success (with_reducible refine Rounds.mk ?_)); (fail_if_success (with_reducible show False)); (fail_if_success (with_reducible show True)); conv => whnf))) <;> first | exact trivial | (refine Leaf.mk ?_; first | rfl | (simp; done) | (refine ⟨rfl, ?_⟩; simp; done) | (rw [List.take_of_length_le (Nat.le_refl _)]; rfl))))
end Go.Proofs.Ytbichdbapkpjpaa
