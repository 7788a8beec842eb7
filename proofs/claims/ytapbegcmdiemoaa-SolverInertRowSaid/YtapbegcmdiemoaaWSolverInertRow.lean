/- The walk of caromlaw35.SolverInertRow. -/
import Derived.Test.YtapbegcmdiemoaaIs
import Derived.Test.YtapbegcmdiemoaaFs
namespace Go.Proofs.Ytapbegcmdiemoaa
open Go.RowKit Fx Vx Ev
set_option linter.unusedVariables false
set_option linter.unusedSimpArgs false
theorem fin_row {f : Nat → Int} {m0 m1 m2 m3 m4 m5 m7 m8 m9 m10 m12 m13 : Int} (A : ∀ j, f j = [m0, m1, m2, m3, m4, m5, 0, m7, min m8 0, max m9 0, m10, 0, m12, m13].getD j 0) (h : (decide (f 0 = m0) && (decide (f 1 = m1) && (decide (f 2 = m2) && (decide (f 3 = m3) && (decide (f 4 = m4) && (decide (f 5 = m5) && (decide (f 6 = 0) && (decide (f 7 = m7) && (decide (f 8 = min m8 0) && (decide (f 9 = max m9 0) && (decide (f 10 = m10) && (decide (f 11 = 0) && (decide (f 12 = m12) && (decide (f 13 = m13))))))))))))))) = false) : False := by
  simp only [A, List.getD_cons_zero, List.getD_cons_succ, decide_true, Bool.and_self, Bool.true_eq_false] at h
theorem em_dec (n : Nat) : n = 0 ∨ (!decide (n = 0)) = true := by
  by_cases h : n = 0 <;> simp [h]
theorem all_nil (m : List Int) : List.take 1 (List.take 1 [m]) = [] ++ [m] := rfl
theorem all_app4 (xs : List (List Int)) (m : List Int) : List.take (xs.length + 1) (List.take xs.length (List.take xs.length xs) ++ List.take 1 [m]) = xs ++ [m] := by
  rw [List.take_length, List.take_length]
  exact List.take_of_length_le (by simp)
theorem all_app5 (xs : List (List Int)) (m : List Int) : List.take (xs.length + 1) (List.take xs.length xs ++ List.take 1 [m]) = xs ++ [m] := by
  rw [List.take_length]
  exact List.take_of_length_le (by simp)
theorem all_app6 (xs : List (List Int)) (m : List Int) : List.take (xs.length + 1) (xs ++ List.take 1 [m]) = xs ++ [m] := List.take_of_length_le (by simp)
theorem wf_more {xs : List (List Int)} {m : List Int} (h : wf 14 xs) (hm : m.length = 14) : wf 14 (xs ++ [m]) := fun x hx => by
  rcases List.mem_append.1 hx with hx | hx
  · exact h x hx
  · simp at hx; subst hx; exact hm
theorem tk_more {A : List (List Int)} {n : Nat} (h : A.length = n) (m : List Int) : List.take n (A ++ [m]) = A := by subst h; simp
theorem at_more {A : List (List Int)} {n : Nat} (h : A.length = n) (m : List Int) (j : Nat) : at2 (A ++ [m]) n j = m.getD j 0 := by subst h; exact at2_new _ _ _
theorem sub_one (n : Nat) : ((n : Int) + 1 - 1).toNat = n := by omega

def c_law_SolverInertRow : Con := ⟨12, rowRun [.rows 14, .rows 5, .num 14, .num 0] (fun l R => match l, R with | [m0, m1, m2, m3, m4, m5, m6, m7, m8, m9, m10, m11, m12, m13, n], [xs, ys] => [∀ x ∈ xs, x.length = 14, ∀ x ∈ ys, x.length = 5] | _, _ => [False]) fun l R => match l, R with
  | [m0, m1, m2, m3, m4, m5, m6, m7, m8, m9, m10, m11, m12, m13, n], [xs, ys] => .bool true
  | _, _ => .any⟩
attribute [local irreducible] seN itA itC itN wsN clN solR solB
set_option maxRecDepth 100000 in
set_option maxHeartbeats 8000000 in
theorem con_law_SolverInertRow : c_law_SolverInertRow.Ok Try.prog := by
  refine con_rows (C := [c_law35_small, c_ref35_Saturated, c_solver_Solve, c_ref29_EqualRows, c_ref35_EqualBodies, c_law35_example]) (pl := [(18, [0, 1, 2, 3, 4, 5, 6, 7, 8, 9, 10, 11, 12, 13, 14, 15, 16, 17, 18, 19, 20, 21, 22, 23, 24, 25, 26, 27, 28], [0, 1, 0, 4, 15, 31, 63, 63, 255, 63, 1023, 2047, 4095, 8191, 8191, 32767, 65535, 131071, 262143, 262143, 1048575, 2097151, 262143, 8388607, 16777215, 33554431, 67108863, 134217727, 268435455])]) Try.func12 rfl (by kernel_rfl) T_ok (Cons.cons con_law35_small (Cons.cons con_ref35_Saturated (Cons.cons con_solver_Solve (Cons.cons con_ref29_EqualRows (Cons.cons con_ref35_EqualBodies (Cons.cons con_law35_example (Cons.nil _))))))) mixed (by kernel_rfl) _ _ _ (fun l R hl hR hn hpre => ?_)
  match l, hl, R, hR with
  | [m0, m1, m2, m3, m4, m5, m6, m7, m8, m9, m10, m11, m12, m13, n], zl, [(true, xs), (true, ys)], zr =>
    clear zl zr
    obtain rfl : xs = [] := hn _ (List.Mem.head _) rfl
    obtain rfl : ys = [] := hn _ (List.Mem.tail _ (List.Mem.head _)) rfl
    have hp0 := hpre _ (List.Mem.head _); try dsimp only at hp0
    have hp1 := hpre _ (List.Mem.tail _ (List.Mem.head _)); try dsimp only at hp1
    repeat' (first | (with_reducible refine And.intro ?_ ?_) | (with_reducible intro h) | ((fail_if_success (with_reducible refine Leaf.mk ?_)); (fail_if_success (with_reducible refine VC.mk ?_)); (fail_if_success (with_reducible refine Goes.mk ?_)); (fail_if_success (with_reducible refine Again.mk ?_)); (fail_if_success (with_reducible refine Rounds.mk ?_)); (fail_if_success (with_reducible show False)); (fail_if_success (with_reducible show True)); conv => whnf))
    all_goals try simp only [decide_eq_true_eq, decide_eq_false_iff_not, tkA, tkL, Nat.zero_add, Nat.reduceAdd, Int.toNat_natCast, List.take_nil, List.nil_append] at *
    all_goals try simp only [Bool.not_eq_true', Bool.not_eq_false', Bool.and_eq_true, Bool.and_eq_false_imp, decide_eq_true_eq, decide_eq_false_iff_not] at *
    all_goals try simp only [tkL, tkc, tkw, tki, tkj, tks, tkt, clN_len, wsN_len, ap_len, solR_len, solB_len, itN_len1, itN_len2, seN_len1, seN_len2, Nat.zero_add] at *
    all_goals try first | exact trivial | (show False; omega) | exact Leaf.mk trivial | exact Leaf.mk rfl | (refine VC.mk ?_; first | trivial | assumption | ((try simp only [InR, decide_eq_true_eq, decide_eq_false_iff_not] at *); omega) | (simp; done))
    all_goals try (refine VC.mk ?_; first | trivial | (first | assumption | exact wf_nil _ | exact wsN_wf _ (by first | assumption | exact wf_nil _) _ | exact clN_wf (by first | assumption | exact wf_nil _) _ | exact (itN_wf (by first | assumption | exact wf_nil _) (by first | assumption | exact wf_nil _) _).1 | exact (itN_wf (by first | assumption | exact wf_nil _) (by first | assumption | exact wf_nil _) _).2 | exact (seN_wf (by first | assumption | exact wf_nil _) (by first | assumption | exact wf_nil _) _).1 | exact (seN_wf (by first | assumption | exact wf_nil _) (by first | assumption | exact wf_nil _) _).2) | (simp only [List.length_nil] at *; omega) | omega | (generalize decide _ = bb; cases bb <;> simp) | (intro hh; generalize decide _ = bb at *; cases bb <;> simp_all) | (simp; done))
    all_goals try refine goes_rounds 1 ?_
    all_goals try (refine rounds_one (pl := [(18, [0, 1, 2, 3, 4, 5, 6, 7, 8, 9, 10, 11, 12, 13, 14, 15, 16, 17, 18, 19, 20, 21, 22, 23, 24, 25, 26, 27, 28], [0, 1, 0, 4, 15, 31, 63, 63, 255, 63, 1023, 2047, 4095, 8191, 8191, 32767, 65535, 131071, 262143, 262143, 1048575, 2097151, 262143, 8388607, 16777215, 33554431, 67108863, 134217727, 268435455])]) T_ok (Cons.cons con_law35_small (Cons.cons con_ref35_Saturated (Cons.cons con_solver_Solve (Cons.cons con_ref29_EqualRows (Cons.cons con_ref35_EqualBodies (Cons.cons con_law35_example (Cons.nil _))))))) mixed (by kernel_rfl) ?_; repeat' (first | (with_reducible refine And.intro ?_ ?_) | (with_reducible intro h) | ((fail_if_success (with_reducible refine Leaf.mk ?_)); (fail_if_success (with_reducible refine VC.mk ?_)); (fail_if_success (with_reducible refine Goes.mk ?_)); (fail_if_success (with_reducible refine Again.mk ?_)); (fail_if_success (with_reducible refine Rounds.mk ?_)); (fail_if_success (with_reducible show False)); (fail_if_success (with_reducible show True)); conv => whnf)))
    all_goals try simp only [decide_eq_true_eq, decide_eq_false_iff_not, tkA, tkL, Nat.zero_add, Nat.reduceAdd, Int.toNat_natCast, List.take_nil, List.nil_append] at *
    all_goals try simp only [List.length_nil, Int.natCast_zero, Int.ofNat_zero, Int.toNat_zero] at *
    all_goals try (exfalso; omega)
    all_goals try (
      have hI : Inert [m0, m1, m2, m3, m4, m5, 0, m7, min m8 0, max m9 0, m10, 0, m12, m13] := ⟨rfl, rfl, rfl, by show min m8 0 ≤ 0; omega, by show 0 ≤ max m9 0; omega⟩
      have hsb : satB ([] : List (List Int)) := fun j hj => absurd hj (Nat.not_lt_zero _)
      have E := (seN_app (xs := ([] : List (List Int))) (ys := ([] : List (List Int))) (fun j hj => absurd hj (Nat.not_lt_zero _)) hI (wf_nil _) (wf_nil _) hsb (itC n)).1
      have A1 := seN_len1 ([] : List (List Int)) ([] : List (List Int)) (itC n)
      have A2 := seN_len2 ([] : List (List Int)) ([] : List (List Int)) (itC n)
      have A3 := (seN_wf (xs := ([] : List (List Int))) (ys := ([] : List (List Int))) (wf_nil _) (wf_nil _) (itC n)).1
      have A4 := (seN_wf (xs := ([] : List (List Int))) (ys := ([] : List (List Int))) (wf_nil _) (wf_nil _) (itC n)).2
      have A5 := tk_more A1 [m0, m1, m2, m3, m4, m5, 0, m7, min m8 0, max m9 0, m10, 0, m12, m13]
      have A6 := at_more A1 [m0, m1, m2, m3, m4, m5, 0, m7, min m8 0, max m9 0, m10, 0, m12, m13]
      try simp only [List.drop_zero, all_nil, all_app4, all_app5, all_app6, E] at *
      try simp only [List.length_append, List.length_cons, List.length_nil, A1, A2, A5, A6, Nat.zero_add, Int.toNat_natCast, Int.natCast_add, sub_one] at *
      try simp only [A5, A6] at *
      try simp only [List.getD_cons_zero, List.getD_cons_succ, decide_true, Bool.and_self, Bool.true_eq_false, Bool.not_true, not_true_eq_false] at *)
    all_goals try exact trivial
    all_goals try exact Leaf.mk trivial
    all_goals try contradiction
    all_goals try (exact (fin_row (f := at2 ((seN ([] : List (List Int)) ([] : List (List Int)) (itC n)).1 ++ [[m0, m1, m2, m3, m4, m5, 0, m7, min m8 0, max m9 0, m10, 0, m12, m13]]) 0) A6 (by assumption)).elim)
    all_goals try (refine VC.mk ?_; first | trivial | assumption | exact wf_more (by assumption) rfl | exact wf_more (wf_nil _) rfl | omega | (simp; done) | (simp; omega) | exact ⟨em_dec _, Nat.le_refl _⟩)
    all_goals try (refine Leaf.mk ?_; exfalso; first | contradiction | omega | (simp at *; done))
  | [m0, m1, m2, m3, m4, m5, m6, m7, m8, m9, m10, m11, m12, m13, n], zl, [(true, xs), (false, ys)], zr =>
    clear zl zr
    obtain rfl : xs = [] := hn _ (List.Mem.head _) rfl
    have hp0 := hpre _ (List.Mem.head _); try dsimp only at hp0
    have hp1 := hpre _ (List.Mem.tail _ (List.Mem.head _)); try dsimp only at hp1
    repeat' (first | (with_reducible refine And.intro ?_ ?_) | (with_reducible intro h) | ((fail_if_success (with_reducible refine Leaf.mk ?_)); (fail_if_success (with_reducible refine VC.mk ?_)); (fail_if_success (with_reducible refine Goes.mk ?_)); (fail_if_success (with_reducible refine Again.mk ?_)); (fail_if_success (with_reducible refine Rounds.mk ?_)); (fail_if_success (with_reducible show False)); (fail_if_success (with_reducible show True)); conv => whnf))
    all_goals try simp only [decide_eq_true_eq, decide_eq_false_iff_not, tkA, tkL, Nat.zero_add, Nat.reduceAdd, Int.toNat_natCast, List.take_nil, List.nil_append] at *
    all_goals try simp only [Bool.not_eq_true', Bool.not_eq_false', Bool.and_eq_true, Bool.and_eq_false_imp, decide_eq_true_eq, decide_eq_false_iff_not] at *
    all_goals try simp only [tkL, tkc, tkw, tki, tkj, tks, tkt, clN_len, wsN_len, ap_len, solR_len, solB_len, itN_len1, itN_len2, seN_len1, seN_len2, Nat.zero_add] at *
    all_goals try first | exact trivial | (show False; omega) | exact Leaf.mk trivial | exact Leaf.mk rfl | (refine VC.mk ?_; first | trivial | assumption | ((try simp only [InR, decide_eq_true_eq, decide_eq_false_iff_not] at *); omega) | (simp; done))
    all_goals try (refine VC.mk ?_; first | trivial | (first | assumption | exact wf_nil _ | exact wsN_wf _ (by first | assumption | exact wf_nil _) _ | exact clN_wf (by first | assumption | exact wf_nil _) _ | exact (itN_wf (by first | assumption | exact wf_nil _) (by first | assumption | exact wf_nil _) _).1 | exact (itN_wf (by first | assumption | exact wf_nil _) (by first | assumption | exact wf_nil _) _).2 | exact (seN_wf (by first | assumption | exact wf_nil _) (by first | assumption | exact wf_nil _) _).1 | exact (seN_wf (by first | assumption | exact wf_nil _) (by first | assumption | exact wf_nil _) _).2) | (simp only [List.length_nil] at *; omega) | omega | (generalize decide _ = bb; cases bb <;> simp) | (intro hh; generalize decide _ = bb at *; cases bb <;> simp_all) | (simp; done))
    all_goals try refine goes_rounds 1 ?_
    all_goals try (refine rounds_one (pl := [(18, [0, 1, 2, 3, 4, 5, 6, 7, 8, 9, 10, 11, 12, 13, 14, 15, 16, 17, 18, 19, 20, 21, 22, 23, 24, 25, 26, 27, 28], [0, 1, 0, 4, 15, 31, 63, 63, 255, 63, 1023, 2047, 4095, 8191, 8191, 32767, 65535, 131071, 262143, 262143, 1048575, 2097151, 262143, 8388607, 16777215, 33554431, 67108863, 134217727, 268435455])]) T_ok (Cons.cons con_law35_small (Cons.cons con_ref35_Saturated (Cons.cons con_solver_Solve (Cons.cons con_ref29_EqualRows (Cons.cons con_ref35_EqualBodies (Cons.cons con_law35_example (Cons.nil _))))))) mixed (by kernel_rfl) ?_; repeat' (first | (with_reducible refine And.intro ?_ ?_) | (with_reducible intro h) | ((fail_if_success (with_reducible refine Leaf.mk ?_)); (fail_if_success (with_reducible refine VC.mk ?_)); (fail_if_success (with_reducible refine Goes.mk ?_)); (fail_if_success (with_reducible refine Again.mk ?_)); (fail_if_success (with_reducible refine Rounds.mk ?_)); (fail_if_success (with_reducible show False)); (fail_if_success (with_reducible show True)); conv => whnf)))
    all_goals try simp only [decide_eq_true_eq, decide_eq_false_iff_not, tkA, tkL, Nat.zero_add, Nat.reduceAdd, Int.toNat_natCast, List.take_nil, List.nil_append] at *
    all_goals try simp only [List.length_nil, Int.natCast_zero, Int.ofNat_zero, Int.toNat_zero] at *
    all_goals try (exfalso; omega)
    all_goals try (
      have hI : Inert [m0, m1, m2, m3, m4, m5, 0, m7, min m8 0, max m9 0, m10, 0, m12, m13] := ⟨rfl, rfl, rfl, by show min m8 0 ≤ 0; omega, by show 0 ≤ max m9 0; omega⟩
      have hsb : satB ys := SatN5.satB (by assumption)
      have E := (seN_app (xs := ([] : List (List Int))) (ys := ys) (fun j hj => absurd hj (Nat.not_lt_zero _)) hI (wf_nil _) hp1 hsb (itC n)).1
      have A1 := seN_len1 ([] : List (List Int)) ys (itC n)
      have A2 := seN_len2 ([] : List (List Int)) ys (itC n)
      have A3 := (seN_wf (xs := ([] : List (List Int))) (ys := ys) (wf_nil _) hp1 (itC n)).1
      have A4 := (seN_wf (xs := ([] : List (List Int))) (ys := ys) (wf_nil _) hp1 (itC n)).2
      have A5 := tk_more A1 [m0, m1, m2, m3, m4, m5, 0, m7, min m8 0, max m9 0, m10, 0, m12, m13]
      have A6 := at_more A1 [m0, m1, m2, m3, m4, m5, 0, m7, min m8 0, max m9 0, m10, 0, m12, m13]
      try simp only [List.drop_zero, all_nil, all_app4, all_app5, all_app6, E] at *
      try simp only [List.length_append, List.length_cons, List.length_nil, A1, A2, A5, A6, Nat.zero_add, Int.toNat_natCast, Int.natCast_add, sub_one] at *
      try simp only [A5, A6] at *
      try simp only [List.getD_cons_zero, List.getD_cons_succ, decide_true, Bool.and_self, Bool.true_eq_false, Bool.not_true, not_true_eq_false] at *)
    all_goals try exact trivial
    all_goals try exact Leaf.mk trivial
    all_goals try contradiction
    all_goals try (exact (fin_row (f := at2 ((seN ([] : List (List Int)) ys (itC n)).1 ++ [[m0, m1, m2, m3, m4, m5, 0, m7, min m8 0, max m9 0, m10, 0, m12, m13]]) 0) A6 (by assumption)).elim)
    all_goals try (refine VC.mk ?_; first | trivial | assumption | exact wf_more (by assumption) rfl | exact wf_more (wf_nil _) rfl | omega | (simp; done) | (simp; omega) | exact ⟨em_dec _, Nat.le_refl _⟩)
    all_goals try (refine Leaf.mk ?_; exfalso; first | contradiction | omega | (simp at *; done))
  | [m0, m1, m2, m3, m4, m5, m6, m7, m8, m9, m10, m11, m12, m13, n], zl, [(false, xs), (true, ys)], zr =>
    clear zl zr
    obtain rfl : ys = [] := hn _ (List.Mem.tail _ (List.Mem.head _)) rfl
    have hp0 := hpre _ (List.Mem.head _); try dsimp only at hp0
    have hp1 := hpre _ (List.Mem.tail _ (List.Mem.head _)); try dsimp only at hp1
    repeat' (first | (with_reducible refine And.intro ?_ ?_) | (with_reducible intro h) | ((fail_if_success (with_reducible refine Leaf.mk ?_)); (fail_if_success (with_reducible refine VC.mk ?_)); (fail_if_success (with_reducible refine Goes.mk ?_)); (fail_if_success (with_reducible refine Again.mk ?_)); (fail_if_success (with_reducible refine Rounds.mk ?_)); (fail_if_success (with_reducible show False)); (fail_if_success (with_reducible show True)); conv => whnf))
    all_goals try simp only [decide_eq_true_eq, decide_eq_false_iff_not, tkA, tkL, Nat.zero_add, Nat.reduceAdd, Int.toNat_natCast, List.take_nil, List.nil_append] at *
    all_goals try simp only [Bool.not_eq_true', Bool.not_eq_false', Bool.and_eq_true, Bool.and_eq_false_imp, decide_eq_true_eq, decide_eq_false_iff_not] at *
    all_goals try simp only [tkL, tkc, tkw, tki, tkj, tks, tkt, clN_len, wsN_len, ap_len, solR_len, solB_len, itN_len1, itN_len2, seN_len1, seN_len2, Nat.zero_add] at *
    all_goals try first | exact trivial | (show False; omega) | exact Leaf.mk trivial | exact Leaf.mk rfl | (refine VC.mk ?_; first | trivial | assumption | ((try simp only [InR, decide_eq_true_eq, decide_eq_false_iff_not] at *); omega) | (simp; done))
    all_goals try (refine VC.mk ?_; first | trivial | (first | assumption | exact wf_nil _ | exact wsN_wf _ (by first | assumption | exact wf_nil _) _ | exact clN_wf (by first | assumption | exact wf_nil _) _ | exact (itN_wf (by first | assumption | exact wf_nil _) (by first | assumption | exact wf_nil _) _).1 | exact (itN_wf (by first | assumption | exact wf_nil _) (by first | assumption | exact wf_nil _) _).2 | exact (seN_wf (by first | assumption | exact wf_nil _) (by first | assumption | exact wf_nil _) _).1 | exact (seN_wf (by first | assumption | exact wf_nil _) (by first | assumption | exact wf_nil _) _).2) | (simp only [List.length_nil] at *; omega) | omega | (generalize decide _ = bb; cases bb <;> simp) | (intro hh; generalize decide _ = bb at *; cases bb <;> simp_all) | (simp; done))
    all_goals try (refine Leaf.mk ?_; exfalso; first | contradiction | (simp at *; done))
    refine goes_inv (X := Nat) (pl := [(18, [0, 1, 2, 3, 4, 5, 6, 7, 8, 9, 10, 11, 12, 13, 14, 15, 16, 17, 18, 19, 20, 21, 22, 23, 24, 25, 26, 27, 28], [0, 1, 0, 4, 15, 31, 63, 63, 255, 63, 1023, 2047, 4095, 8191, 8191, 32767, 65535, 131071, 262143, 262143, 1048575, 2097151, 262143, 8388607, 16777215, 33554431, 67108863, 134217727, 268435455])]) T_ok (Cons.cons con_law35_small (Cons.cons con_ref35_Saturated (Cons.cons con_solver_Solve (Cons.cons con_ref29_EqualRows (Cons.cons con_ref35_EqualBodies (Cons.cons con_law35_example (Cons.nil _))))))) mixed (by kernel_rfl)
      (fun k => (.sl 0 14 0 xs.length :: .nils :: .any :: .int .i64 n :: .any :: .any :: .ptr 2 0 :: .any :: .any :: .int .i64 (xs.length : Int) :: .int .i64 (k : Int) :: .any :: .any :: .any :: .any :: .any :: .any :: .any :: .any :: .any :: .any :: .any :: .any :: .any :: .any :: .any :: .any :: .any :: .any :: .any :: .any :: .any :: .any :: .any :: .any :: .any :: .any :: .any :: .any :: .any :: .any :: .any :: .any :: .any :: .any :: .any :: .any :: .any :: .any :: .any :: .any :: .any :: .any :: .any :: .any :: .any :: .any :: .any :: .any :: .any :: .any :: .any :: .any :: .any :: .any :: .any :: .any :: .any :: .any :: .any :: .any :: .any :: .any :: .any :: .any :: .any :: .any :: .any :: .any :: .any :: .any :: .any :: .any :: .any :: .any :: .any :: .any :: .any :: .any :: .any :: .any :: .any :: .any :: .any :: .any :: .any :: .any :: .any :: .any :: .any :: [], [.arr false true 14 xs, .arr false false 5 [], .cells [.int .i64 m0, .int .i64 m1, .int .i64 m2, .int .i64 m3, .int .i64 m4, .int .i64 m5, .int .i64 m6, .int .i64 m7, .int .i64 m8, .int .i64 m9, .int .i64 m10, .int .i64 m11, .int .i64 m12, .int .i64 m13]]))
      (fun k => k ≤ xs.length ∧ ∀ j, j < k → ¬ at2 xs j 12 = (xs.length : Int)) (fun k => xs.length - k) 0 [0, 1, 2] ⟨Nat.zero_le _, fun j hj => absurd hj (Nat.not_lt_zero _)⟩ ?_ ?_ ?_
    · repeat' (first | (with_reducible refine And.intro ?_ ?_) | (with_reducible intro h) | ((fail_if_success (with_reducible refine Leaf.mk ?_)); (fail_if_success (with_reducible refine VC.mk ?_)); (fail_if_success (with_reducible refine Goes.mk ?_)); (fail_if_success (with_reducible refine Again.mk ?_)); (fail_if_success (with_reducible refine Rounds.mk ?_)); (fail_if_success (with_reducible show False)); (fail_if_success (with_reducible show True)); conv => whnf))
      all_goals first | exact trivial | (refine Leaf.mk ?_; first | rfl | exact ⟨rfl, rfl⟩ | (simp; done))
    · repeat' (first | (with_reducible refine And.intro ?_ ?_) | (with_reducible intro h) | ((fail_if_success (with_reducible refine Leaf.mk ?_)); (fail_if_success (with_reducible refine VC.mk ?_)); (fail_if_success (with_reducible refine Goes.mk ?_)); (fail_if_success (with_reducible refine Again.mk ?_)); (fail_if_success (with_reducible refine Rounds.mk ?_)); (fail_if_success (with_reducible show False)); (fail_if_success (with_reducible show True)); conv => whnf))
      all_goals first | exact trivial | (refine Leaf.mk ?_; first | rfl | exact ⟨rfl, rfl⟩ | (simp; done))
    · intro k hx
      obtain ⟨hx1, hx2⟩ := hx
      repeat' (first | (with_reducible refine And.intro ?_ ?_) | (with_reducible intro h) | ((fail_if_success (with_reducible refine Leaf.mk ?_)); (fail_if_success (with_reducible refine VC.mk ?_)); (fail_if_success (with_reducible refine Goes.mk ?_)); (fail_if_success (with_reducible refine Again.mk ?_)); (fail_if_success (with_reducible refine Rounds.mk ?_)); (fail_if_success (with_reducible show False)); (fail_if_success (with_reducible show True)); conv => whnf))
      all_goals try simp only [decide_eq_true_eq, decide_eq_false_iff_not, tkA, tkL, Nat.zero_add, Nat.reduceAdd, Int.toNat_natCast, List.take_nil, List.nil_append] at *
      all_goals try simp only [Bool.not_eq_true', Bool.not_eq_false', Bool.and_eq_true, Bool.and_eq_false_imp, decide_eq_true_eq, decide_eq_false_iff_not] at *
      all_goals try first | exact trivial | (refine VC.mk ?_; first | trivial | assumption | omega | (simp only [InR]; omega))
      all_goals try exact trivial
      all_goals try (refine Again.mk ⟨k + 1, [0, 1, 2], ⟨by omega, fun j hj => (by rcases Nat.lt_or_ge j k with e | e; exact hx2 j e; obtain rfl : j = k := (by omega); assumption)⟩, (by omega), ?_, ?_⟩ <;> (repeat' (first | (with_reducible refine And.intro ?_ ?_) | (with_reducible intro h) | ((fail_if_success (with_reducible refine Leaf.mk ?_)); (fail_if_success (with_reducible refine VC.mk ?_)); (fail_if_success (with_reducible refine Goes.mk ?_)); (fail_if_success (with_reducible refine Again.mk ?_)); (fail_if_success (with_reducible refine Rounds.mk ?_)); (fail_if_success (with_reducible show False)); (fail_if_success (with_reducible show True)); conv => whnf))) <;> first | exact trivial | (refine Leaf.mk ?_; first | rfl | exact ⟨rfl, rfl⟩ | (simp; done)))
      all_goals try (have hk : k = xs.length := (by omega); subst hk)
      all_goals try (
        have hI : Inert [m0, m1, m2, m3, m4, m5, 0, m7, min m8 0, max m9 0, m10, 0, m12, m13] := ⟨rfl, rfl, rfl, by show min m8 0 ≤ 0; omega, by show 0 ≤ max m9 0; omega⟩
        have hsb : satB ([] : List (List Int)) := fun j hj => absurd hj (Nat.not_lt_zero _)
        have E := (seN_app (xs := xs) (ys := ([] : List (List Int))) hx2 hI hp0 (wf_nil _) hsb (itC n)).1
        have A1 := seN_len1 xs ([] : List (List Int)) (itC n)
        have A2 := seN_len2 xs ([] : List (List Int)) (itC n)
        have A3 := (seN_wf (xs := xs) (ys := ([] : List (List Int))) hp0 (wf_nil _) (itC n)).1
        have A4 := (seN_wf (xs := xs) (ys := ([] : List (List Int))) hp0 (wf_nil _) (itC n)).2
        have A5 := tk_more A1 [m0, m1, m2, m3, m4, m5, 0, m7, min m8 0, max m9 0, m10, 0, m12, m13]
        have A6 := at_more A1 [m0, m1, m2, m3, m4, m5, 0, m7, min m8 0, max m9 0, m10, 0, m12, m13]
        try simp only [List.drop_zero, all_nil, all_app4, all_app5, all_app6, E] at *
        try simp only [List.length_append, List.length_cons, List.length_nil, A1, A2, A5, A6, Nat.zero_add, Int.toNat_natCast, Int.natCast_add, sub_one] at *
        try simp only [A5, A6] at *
        try simp only [List.getD_cons_zero, List.getD_cons_succ, decide_true, Bool.and_self, Bool.true_eq_false, Bool.not_true, not_true_eq_false] at *)
      all_goals try exact trivial
      all_goals try exact Leaf.mk trivial
      all_goals try contradiction
      all_goals try (exact (fin_row (f := at2 ((seN xs ([] : List (List Int)) (itC n)).1 ++ [[m0, m1, m2, m3, m4, m5, 0, m7, min m8 0, max m9 0, m10, 0, m12, m13]]) 0) A6 (by assumption)).elim)
      all_goals try (refine VC.mk ?_; first | trivial | assumption | exact wf_more (by assumption) rfl | exact wf_more (wf_nil _) rfl | omega | (simp; done) | (simp; omega) | exact ⟨em_dec _, Nat.le_refl _⟩)
      all_goals try (refine Leaf.mk ?_; exfalso; first | contradiction | omega | (simp at *; done))
  | [m0, m1, m2, m3, m4, m5, m6, m7, m8, m9, m10, m11, m12, m13, n], zl, [(false, xs), (false, ys)], zr =>
    clear zl zr
    have hp0 := hpre _ (List.Mem.head _); try dsimp only at hp0
    have hp1 := hpre _ (List.Mem.tail _ (List.Mem.head _)); try dsimp only at hp1
    repeat' (first | (with_reducible refine And.intro ?_ ?_) | (with_reducible intro h) | ((fail_if_success (with_reducible refine Leaf.mk ?_)); (fail_if_success (with_reducible refine VC.mk ?_)); (fail_if_success (with_reducible refine Goes.mk ?_)); (fail_if_success (with_reducible refine Again.mk ?_)); (fail_if_success (with_reducible refine Rounds.mk ?_)); (fail_if_success (with_reducible show False)); (fail_if_success (with_reducible show True)); conv => whnf))
    all_goals try simp only [decide_eq_true_eq, decide_eq_false_iff_not, tkA, tkL, Nat.zero_add, Nat.reduceAdd, Int.toNat_natCast, List.take_nil, List.nil_append] at *
    all_goals try simp only [Bool.not_eq_true', Bool.not_eq_false', Bool.and_eq_true, Bool.and_eq_false_imp, decide_eq_true_eq, decide_eq_false_iff_not] at *
    all_goals try simp only [tkL, tkc, tkw, tki, tkj, tks, tkt, clN_len, wsN_len, ap_len, solR_len, solB_len, itN_len1, itN_len2, seN_len1, seN_len2, Nat.zero_add] at *
    all_goals try first | exact trivial | (show False; omega) | exact Leaf.mk trivial | exact Leaf.mk rfl | (refine VC.mk ?_; first | trivial | assumption | ((try simp only [InR, decide_eq_true_eq, decide_eq_false_iff_not] at *); omega) | (simp; done))
    all_goals try (refine VC.mk ?_; first | trivial | (first | assumption | exact wf_nil _ | exact wsN_wf _ (by first | assumption | exact wf_nil _) _ | exact clN_wf (by first | assumption | exact wf_nil _) _ | exact (itN_wf (by first | assumption | exact wf_nil _) (by first | assumption | exact wf_nil _) _).1 | exact (itN_wf (by first | assumption | exact wf_nil _) (by first | assumption | exact wf_nil _) _).2 | exact (seN_wf (by first | assumption | exact wf_nil _) (by first | assumption | exact wf_nil _) _).1 | exact (seN_wf (by first | assumption | exact wf_nil _) (by first | assumption | exact wf_nil _) _).2) | (simp only [List.length_nil] at *; omega) | omega | (generalize decide _ = bb; cases bb <;> simp) | (intro hh; generalize decide _ = bb at *; cases bb <;> simp_all) | (simp; done))
    all_goals try (refine Leaf.mk ?_; exfalso; first | contradiction | (simp at *; done))
    refine goes_inv (X := Nat) (pl := [(18, [0, 1, 2, 3, 4, 5, 6, 7, 8, 9, 10, 11, 12, 13, 14, 15, 16, 17, 18, 19, 20, 21, 22, 23, 24, 25, 26, 27, 28], [0, 1, 0, 4, 15, 31, 63, 63, 255, 63, 1023, 2047, 4095, 8191, 8191, 32767, 65535, 131071, 262143, 262143, 1048575, 2097151, 262143, 8388607, 16777215, 33554431, 67108863, 134217727, 268435455])]) T_ok (Cons.cons con_law35_small (Cons.cons con_ref35_Saturated (Cons.cons con_solver_Solve (Cons.cons con_ref29_EqualRows (Cons.cons con_ref35_EqualBodies (Cons.cons con_law35_example (Cons.nil _))))))) mixed (by kernel_rfl)
      (fun k => (.sl 0 14 0 xs.length :: .sl 1 5 0 ys.length :: .any :: .int .i64 n :: .any :: .any :: .ptr 2 0 :: .any :: .any :: .int .i64 (xs.length : Int) :: .int .i64 (k : Int) :: .any :: .any :: .any :: .any :: .any :: .any :: .any :: .any :: .any :: .any :: .any :: .any :: .any :: .any :: .any :: .any :: .any :: .any :: .any :: .any :: .any :: .any :: .any :: .any :: .any :: .any :: .any :: .any :: .any :: .any :: .any :: .any :: .any :: .any :: .any :: .any :: .any :: .any :: .any :: .any :: .any :: .any :: .any :: .any :: .any :: .any :: .any :: .any :: .any :: .any :: .any :: .any :: .any :: .any :: .any :: .any :: .any :: .any :: .any :: .any :: .any :: .any :: .any :: .any :: .any :: .any :: .any :: .any :: .any :: .any :: .any :: .any :: .any :: .any :: .any :: .any :: .any :: .any :: .any :: .any :: .any :: .any :: .any :: .any :: .any :: .any :: .any :: .any :: .any :: [], [.arr false true 14 xs, .arr false true 5 ys, .cells [.int .i64 m0, .int .i64 m1, .int .i64 m2, .int .i64 m3, .int .i64 m4, .int .i64 m5, .int .i64 m6, .int .i64 m7, .int .i64 m8, .int .i64 m9, .int .i64 m10, .int .i64 m11, .int .i64 m12, .int .i64 m13]]))
      (fun k => k ≤ xs.length ∧ ∀ j, j < k → ¬ at2 xs j 12 = (xs.length : Int)) (fun k => xs.length - k) 0 [0, 1, 2] ⟨Nat.zero_le _, fun j hj => absurd hj (Nat.not_lt_zero _)⟩ ?_ ?_ ?_
    · repeat' (first | (with_reducible refine And.intro ?_ ?_) | (with_reducible intro h) | ((fail_if_success (with_reducible refine Leaf.mk ?_)); (fail_if_success (with_reducible refine VC.mk ?_)); (fail_if_success (with_reducible refine Goes.mk ?_)); (fail_if_success (with_reducible refine Again.mk ?_)); (fail_if_success (with_reducible refine Rounds.mk ?_)); (fail_if_success (with_reducible show False)); (fail_if_success (with_reducible show True)); conv => whnf))
      all_goals first | exact trivial | (refine Leaf.mk ?_; first | rfl | exact ⟨rfl, rfl⟩ | (simp; done))
    · repeat' (first | (with_reducible refine And.intro ?_ ?_) | (with_reducible intro h) | ((fail_if_success (with_reducible refine Leaf.mk ?_)); (fail_if_success (with_reducible refine VC.mk ?_)); (fail_if_success (with_reducible refine Goes.mk ?_)); (fail_if_success (with_reducible refine Again.mk ?_)); (fail_if_success (with_reducible refine Rounds.mk ?_)); (fail_if_success (with_reducible show False)); (fail_if_success (with_reducible show True)); conv => whnf))
      all_goals first | exact trivial | (refine Leaf.mk ?_; first | rfl | exact ⟨rfl, rfl⟩ | (simp; done))
    · intro k hx
      obtain ⟨hx1, hx2⟩ := hx
      repeat' (first | (with_reducible refine And.intro ?_ ?_) | (with_reducible intro h) | ((fail_if_success (with_reducible refine Leaf.mk ?_)); (fail_if_success (with_reducible refine VC.mk ?_)); (fail_if_success (with_reducible refine Goes.mk ?_)); (fail_if_success (with_reducible refine Again.mk ?_)); (fail_if_success (with_reducible refine Rounds.mk ?_)); (fail_if_success (with_reducible show False)); (fail_if_success (with_reducible show True)); conv => whnf))
      all_goals try simp only [decide_eq_true_eq, decide_eq_false_iff_not, tkA, tkL, Nat.zero_add, Nat.reduceAdd, Int.toNat_natCast, List.take_nil, List.nil_append] at *
      all_goals try simp only [Bool.not_eq_true', Bool.not_eq_false', Bool.and_eq_true, Bool.and_eq_false_imp, decide_eq_true_eq, decide_eq_false_iff_not] at *
      all_goals try first | exact trivial | (refine VC.mk ?_; first | trivial | assumption | omega | (simp only [InR]; omega))
      all_goals try exact trivial
      all_goals try (refine Again.mk ⟨k + 1, [0, 1, 2], ⟨by omega, fun j hj => (by rcases Nat.lt_or_ge j k with e | e; exact hx2 j e; obtain rfl : j = k := (by omega); assumption)⟩, (by omega), ?_, ?_⟩ <;> (repeat' (first | (with_reducible refine And.intro ?_ ?_) | (with_reducible intro h) | ((fail_if_success (with_reducible refine Leaf.mk ?_)); (fail_if_success (with_reducible refine VC.mk ?_)); (fail_if_success (with_reducible refine Goes.mk ?_)); (fail_if_success (with_reducible refine Again.mk ?_)); (fail_if_success (with_reducible refine Rounds.mk ?_)); (fail_if_success (with_reducible show False)); (fail_if_success (with_reducible show True)); conv => whnf))) <;> first | exact trivial | (refine Leaf.mk ?_; first | rfl | exact ⟨rfl, rfl⟩ | (simp; done)))
      all_goals try (have hk : k = xs.length := (by omega); subst hk)
      all_goals try (
        have hI : Inert [m0, m1, m2, m3, m4, m5, 0, m7, min m8 0, max m9 0, m10, 0, m12, m13] := ⟨rfl, rfl, rfl, by show min m8 0 ≤ 0; omega, by show 0 ≤ max m9 0; omega⟩
        have hsb : satB ys := SatN5.satB (by assumption)
        have E := (seN_app (xs := xs) (ys := ys) hx2 hI hp0 hp1 hsb (itC n)).1
        have A1 := seN_len1 xs ys (itC n)
        have A2 := seN_len2 xs ys (itC n)
        have A3 := (seN_wf (xs := xs) (ys := ys) hp0 hp1 (itC n)).1
        have A4 := (seN_wf (xs := xs) (ys := ys) hp0 hp1 (itC n)).2
        have A5 := tk_more A1 [m0, m1, m2, m3, m4, m5, 0, m7, min m8 0, max m9 0, m10, 0, m12, m13]
        have A6 := at_more A1 [m0, m1, m2, m3, m4, m5, 0, m7, min m8 0, max m9 0, m10, 0, m12, m13]
        try simp only [List.drop_zero, all_nil, all_app4, all_app5, all_app6, E] at *
        try simp only [List.length_append, List.length_cons, List.length_nil, A1, A2, A5, A6, Nat.zero_add, Int.toNat_natCast, Int.natCast_add, sub_one] at *
        try simp only [A5, A6] at *
        try simp only [List.getD_cons_zero, List.getD_cons_succ, decide_true, Bool.and_self, Bool.true_eq_false, Bool.not_true, not_true_eq_false] at *)
      all_goals try exact trivial
      all_goals try exact Leaf.mk trivial
      all_goals try contradiction
      all_goals try (exact (fin_row (f := at2 ((seN xs ys (itC n)).1 ++ [[m0, m1, m2, m3, m4, m5, 0, m7, min m8 0, max m9 0, m10, 0, m12, m13]]) 0) A6 (by assumption)).elim)
      all_goals try (refine VC.mk ?_; first | trivial | assumption | exact wf_more (by assumption) rfl | exact wf_more (wf_nil _) rfl | omega | (simp; done) | (simp; omega) | exact ⟨em_dec _, Nat.le_refl _⟩)
      all_goals try (refine Leaf.mk ?_; exfalso; first | contradiction | omega | (simp at *; done))

theorem walk_SolverInertRow (m0 m1 m2 m3 m4 m5 m6 m7 m8 m9 m10 m11 m12 m13 n : Int) (bxs : Bool) (xs : List (List Int)) (bys : Bool) (ys : List (List Int)) (w : World) (m : Ev.Map) (vxs vys : Value) (nxs : bxs = true → xs = []) (nys : bys = true → ys = []) (fxs : ∀ x ∈ xs, x.length = 14 ∧ ∀ y ∈ x, -9223372036854775808 ≤ y ∧ y ≤ 9223372036854775807) (fys : ∀ x ∈ ys, x.length = 5 ∧ ∀ y ∈ x, -9223372036854775808 ≤ y ∧ y ≤ 9223372036854775807) (dxs : Den m (rowArg bxs 0 14 xs) vxs ∧ BlkH m 0 w (.arr false (!bxs) 14 xs)) (dys : Den m (rowArg bys 1 5 ys) vys ∧ BlkH m 1 w (.arr false (!bys) 5 ys)) :
    Calls Try.prog 12 #[vxs, vys, .agg #[.int .i64 m0, .int .i64 m1, .int .i64 m2, .int .i64 m3, .int .i64 m4, .int .i64 m5, .int .i64 m6, .int .i64 m7, .int .i64 m8, .int .i64 m9, .int .i64 m10, .int .i64 m11, .int .i64 m12, .int .i64 m13], .int .i64 n] w fun e w' => e = .returned (.bool true) ∧ Below w.heap.size w w' := by
  cases bxs with
  | false =>
    cases bys with
    | false =>
      exact Frame.calls_rows con_law_SolverInertRow [rowArg false 0 14 xs, rowArg false 1 5 ys, .agg [.int .i64 m0, .int .i64 m1, .int .i64 m2, .int .i64 m3, .int .i64 m4, .int .i64 m5, .int .i64 m6, .int .i64 m7, .int .i64 m8, .int .i64 m9, .int .i64 m10, .int .i64 m11, .int .i64 m12, .int .i64 m13], .int .i64 n] (fun id => match id with | 0 => .arr false true 14 xs | 1 => .arr false true 5 ys | _ => .dead) [m0, m1, m2, m3, m4, m5, m6, m7, m8, m9, m10, m11, m12, m13, n] _ _ [vxs, vys, .agg #[.int .i64 m0, .int .i64 m1, .int .i64 m2, .int .i64 m3, .int .i64 m4, .int .i64 m5, .int .i64 m6, .int .i64 m7, .int .i64 m8, .int .i64 m9, .int .i64 m10, .int .i64 m11, .int .i64 m12, .int .i64 m13], .int .i64 n] rfl (by simp [appP]) (List.forall_mem_cons.2 ⟨fun x hx => (fxs x (mem_tk hx)).1, (List.forall_mem_cons.2 ⟨fun x hx => (fys x (mem_tk hx)).1, (List.forall_mem_nil _)⟩)⟩) m w ⟨dxs.1, dys.1, ⟨_, rfl, rfl, rfl, rfl, rfl, rfl, rfl, rfl, rfl, rfl, rfl, rfl, rfl, rfl, rfl, trivial⟩, rfl, trivial⟩ (fun id => by match id with | 0 => exact dxs.2 | 1 => exact dys.2 | _ + 2 => trivial) (fun id => by match id with | 0 => rfl | 1 => rfl | _ + 2 => rfl) rfl
    | true =>
      obtain rfl := nys rfl
      exact Frame.calls_rows con_law_SolverInertRow [rowArg false 0 14 xs, rowArg true 1 5 [], .agg [.int .i64 m0, .int .i64 m1, .int .i64 m2, .int .i64 m3, .int .i64 m4, .int .i64 m5, .int .i64 m6, .int .i64 m7, .int .i64 m8, .int .i64 m9, .int .i64 m10, .int .i64 m11, .int .i64 m12, .int .i64 m13], .int .i64 n] (fun id => match id with | 0 => .arr false true 14 xs | 1 => .arr false false 5 [] | _ => .dead) [m0, m1, m2, m3, m4, m5, m6, m7, m8, m9, m10, m11, m12, m13, n] _ _ [vxs, vys, .agg #[.int .i64 m0, .int .i64 m1, .int .i64 m2, .int .i64 m3, .int .i64 m4, .int .i64 m5, .int .i64 m6, .int .i64 m7, .int .i64 m8, .int .i64 m9, .int .i64 m10, .int .i64 m11, .int .i64 m12, .int .i64 m13], .int .i64 n] rfl (by simp [appP]) (List.forall_mem_cons.2 ⟨fun x hx => (fxs x (mem_tk hx)).1, (List.forall_mem_cons.2 ⟨fun x hx => (by cases hx), (List.forall_mem_nil _)⟩)⟩) m w ⟨dxs.1, dys.1, ⟨_, rfl, rfl, rfl, rfl, rfl, rfl, rfl, rfl, rfl, rfl, rfl, rfl, rfl, rfl, rfl, trivial⟩, rfl, trivial⟩ (fun id => by match id with | 0 => exact dxs.2 | 1 => exact dys.2 | _ + 2 => trivial) (fun id => by match id with | 0 => rfl | 1 => rfl | _ + 2 => rfl) rfl
  | true =>
    obtain rfl := nxs rfl
    cases bys with
    | false =>
      exact Frame.calls_rows con_law_SolverInertRow [rowArg true 0 14 [], rowArg false 1 5 ys, .agg [.int .i64 m0, .int .i64 m1, .int .i64 m2, .int .i64 m3, .int .i64 m4, .int .i64 m5, .int .i64 m6, .int .i64 m7, .int .i64 m8, .int .i64 m9, .int .i64 m10, .int .i64 m11, .int .i64 m12, .int .i64 m13], .int .i64 n] (fun id => match id with | 0 => .arr false false 14 [] | 1 => .arr false true 5 ys | _ => .dead) [m0, m1, m2, m3, m4, m5, m6, m7, m8, m9, m10, m11, m12, m13, n] _ _ [vxs, vys, .agg #[.int .i64 m0, .int .i64 m1, .int .i64 m2, .int .i64 m3, .int .i64 m4, .int .i64 m5, .int .i64 m6, .int .i64 m7, .int .i64 m8, .int .i64 m9, .int .i64 m10, .int .i64 m11, .int .i64 m12, .int .i64 m13], .int .i64 n] rfl (by simp [appP]) (List.forall_mem_cons.2 ⟨fun x hx => (by cases hx), (List.forall_mem_cons.2 ⟨fun x hx => (fys x (mem_tk hx)).1, (List.forall_mem_nil _)⟩)⟩) m w ⟨dxs.1, dys.1, ⟨_, rfl, rfl, rfl, rfl, rfl, rfl, rfl, rfl, rfl, rfl, rfl, rfl, rfl, rfl, rfl, trivial⟩, rfl, trivial⟩ (fun id => by match id with | 0 => exact dxs.2 | 1 => exact dys.2 | _ + 2 => trivial) (fun id => by match id with | 0 => rfl | 1 => rfl | _ + 2 => rfl) rfl
    | true =>
      obtain rfl := nys rfl
      exact Frame.calls_rows con_law_SolverInertRow [rowArg true 0 14 [], rowArg true 1 5 [], .agg [.int .i64 m0, .int .i64 m1, .int .i64 m2, .int .i64 m3, .int .i64 m4, .int .i64 m5, .int .i64 m6, .int .i64 m7, .int .i64 m8, .int .i64 m9, .int .i64 m10, .int .i64 m11, .int .i64 m12, .int .i64 m13], .int .i64 n] (fun id => match id with | 0 => .arr false false 14 [] | 1 => .arr false false 5 [] | _ => .dead) [m0, m1, m2, m3, m4, m5, m6, m7, m8, m9, m10, m11, m12, m13, n] _ _ [vxs, vys, .agg #[.int .i64 m0, .int .i64 m1, .int .i64 m2, .int .i64 m3, .int .i64 m4, .int .i64 m5, .int .i64 m6, .int .i64 m7, .int .i64 m8, .int .i64 m9, .int .i64 m10, .int .i64 m11, .int .i64 m12, .int .i64 m13], .int .i64 n] rfl (by simp [appP]) (List.forall_mem_cons.2 ⟨fun x hx => (by cases hx), (List.forall_mem_cons.2 ⟨fun x hx => (by cases hx), (List.forall_mem_nil _)⟩)⟩) m w ⟨dxs.1, dys.1, ⟨_, rfl, rfl, rfl, rfl, rfl, rfl, rfl, rfl, rfl, rfl, rfl, rfl, rfl, rfl, rfl, trivial⟩, rfl, trivial⟩ (fun id => by match id with | 0 => exact dxs.2 | 1 => exact dys.2 | _ + 2 => trivial) (fun id => by match id with | 0 => rfl | 1 => rfl | _ + 2 => rfl) rfl
end Go.Proofs.Ytapbegcmdiemoaa
