/- The walk of caromlaw28.ConstraintZeroMass. -/
import Derived.Test.YtapbegcmdiemoaaD4
import Derived.Test.YtapbegcmdiemoaaFs
namespace Go.Proofs.Ytapbegcmdiemoaa
open Go.RowKit Fx Vx Ev
set_option linter.unusedVariables false
set_option linter.unusedSimpArgs false

theorem set_get {α : Type} (l : List α) (j : Nat) (d : α) : l.set j (l.getD j d) = l := by
  by_cases h : j < l.length
  · rw [List.getD_eq_getElem?_getD, List.getElem?_eq_getElem h, Option.getD_some, List.set_getElem_self]
  · rw [List.set_eq_of_length_le (by omega)]
theorem upd_same (xs : List (List Int)) (k j : Nat) : upd2 xs k j [at2 xs k j] = xs := by
  show xs.set k ((xs.getD k []).set j ((xs.getD k []).getD j 0)) = xs
  rw [set_get, set_get]
theorem sub_zero' {x : Int} (h : sat x = x) : sub x 0 = x := by unfold sub; rw [show sat 0 = 0 by decide, Int.sub_zero, sat_sat, h]
theorem add_zero' {x : Int} (h : sat x = x) : add x 0 = x := by rw [add_zero, h]
theorem zero_mul' (x : Int) : mul 0 x = 0 := by rw [mul_comm, mul_zero]
theorem row_same {ys : List (List Int)} (hw : wf 5 ys) {k : Nat} (hk : k < ys.length) : [at2 ys k 0, at2 ys k 1, at2 ys k 2, at2 ys k 3, at2 ys k 4] = ys.getD k [] := (row5 hw hk).symm
def satV (ys : List (List Int)) (j : Nat) : Prop := sat (at2 ys j 0) = at2 ys j 0 ∧ sat (at2 ys j 1) = at2 ys j 1 ∧ sat (at2 ys j 2) = at2 ys j 2
theorem apA_zero {ys : List (List Int)} (hw : wf 5 ys) (hv : ∀ j, j < ys.length → satV ys j) (ra nx ny aa : Int) : apA ys ra nx ny aa 0 = ys := by
  by_cases h : 0 ≤ ra ∧ ra < ys.length
  · have hk : ra.toNat < ys.length := by omega
    obtain ⟨h1, h2, h3⟩ := hv _ hk
    rw [apA_in h.1 h.2]
    simp only [rowA, zero_mul', mul_zero, sub_zero' h1, sub_zero' h2, sub_zero' h3]
    rw [row_same hw hk, set_get]
  · exact apA_out (by omega) _ _ _ _
theorem apB_zero {ys : List (List Int)} (hw : wf 5 ys) (hv : ∀ j, j < ys.length → satV ys j) (ra nx ny aa : Int) : apB ys ra nx ny aa 0 = ys := by
  by_cases h : 0 ≤ ra ∧ ra < ys.length
  · have hk : ra.toNat < ys.length := by omega
    obtain ⟨h1, h2, h3⟩ := hv _ hk
    rw [apB_in h.1 h.2]
    simp only [rowB, zero_mul', mul_zero, add_zero' h1, add_zero' h2, add_zero' h3]
    rw [row_same hw hk, set_get]
  · exact apB_out (by omega) _ _ _ _
theorem solve_zero {xs ys : List (List Int)} {i : Int} (hw : wf 5 ys) (h0 : 0 ≤ i) (h1 : i < xs.length) (hz : at2 xs i.toNat 6 = 0) (hs : sat (at2 xs i.toNat 11) = at2 xs i.toNat 11) (hl : bdL xs i ≤ at2 xs i.toNat 11) (hu : at2 xs i.toNat 11 ≤ bdU xs i) (hv : ∀ j, j < ys.length → satV ys j) : solR xs i ys = xs ∧ solB xs i ys = ys := by
  have e : impT xs ys i = at2 xs i.toNat 11 := by
    unfold impT; rw [hz, zero_mul', sub_zero' hs]
    unfold clamp; rw [if_neg (by omega), if_neg (by omega)]
  have e2 : sub (at2 xs i.toNat 11) (at2 xs i.toNat 11) = 0 := by unfold sub; rw [Int.sub_self]; decide
  constructor
  · rw [solR_in h0 h1, e, upd_same]
  · rw [solB_in h0 h1, e, e2]
    unfold ap; rw [apA_zero hw hv, apB_zero hw hv]

def c_law_ConstraintZeroMass : Con := ⟨6, rowRun [.rows 14, .num 0, .rows 5] (fun l R => match l, R with | [i], [xs, ys] => [∀ x ∈ xs, x.length = 14, ∀ x ∈ ys, x.length = 5] | _, _ => [False]) fun l R => match l, R with
  | [i], [xs, ys] => .bool true
  | _, _ => .any⟩
set_option maxRecDepth 100000 in
set_option maxHeartbeats 8000000 in
theorem con_law_ConstraintZeroMass : c_law_ConstraintZeroMass.Ok Try.prog := by
  refine con_rows (C := [c_law28_few, c_fixed_Saturate, c_constraint_Bounds, c_constraint_Solve, c_ref28_Rows, c_ref28_SolverBodies, c_law28_example]) (pl := [(1, [0, 1, 2, 3, 4, 5, 6, 7, 8, 9, 10, 11, 12, 13, 14, 15, 16, 17, 18, 19, 20, 21, 22, 23, 24, 25, 26, 27, 28, 29, 30, 31, 32, 33, 34, 35], [0, 0, 3, 7, 15, 31, 63, 127, 255, 511, 511, 1535, 4095, 8191, 16383, 32767, 32767, 131071, 262143, 524287, 1048575, 2097151, 4194303, 8388607, 8388607, 33554431, 67108863, 134217727, 268435455, 8388607, 8388607, 1619001343, 3766484991, 8061452287, 17179869183, 34359738367]), (9, [0, 1, 2, 3, 4, 5, 6, 7, 8, 9, 10, 11, 12, 13, 14, 15, 16, 17, 18, 19, 20, 21, 22, 23, 24, 25, 26, 27, 28, 29, 30, 31, 32, 33, 34, 35, 36, 37, 38, 39, 40, 41, 42, 43], [0, 0, 3, 7, 15, 31, 63, 0, 0, 384, 896, 1920, 3968, 8191, 16383, 32767, 32767, 131071, 262143, 524287, 1048575, 2097151, 32767, 32767, 12615679, 29392895, 62947327, 130056191, 268435455, 536870911, 1073741823, 2147483647, 2147483647, 8589934591, 17179869183, 34359738367, 68719476735, 2147483647, 2147483647, 414464344063, 964220157951, 2063731785727, 4398046511103, 8796093022207])]) Try.func6 rfl (by kernel_rfl) T_ok (Cons.cons con_law28_few (Cons.cons con_fixed_Saturate (Cons.cons con_constraint_Bounds (Cons.cons con_constraint_Solve (Cons.cons con_ref28_Rows (Cons.cons con_ref28_SolverBodies (Cons.cons con_law28_example (Cons.nil _)))))))) mixed (by kernel_rfl) _ _ _ (fun l R hl hR hn hpre => ?_)
  match l, hl, R, hR with
  | [i], zl, [(true, xs), (true, ys)], zr =>
    clear zl zr
    obtain rfl : xs = [] := hn _ (List.Mem.head _) rfl
    obtain rfl : ys = [] := hn _ (List.Mem.tail _ (List.Mem.head _)) rfl
    have hp0 := hpre _ (List.Mem.head _); try dsimp only at hp0
    have hp1 := hpre _ (List.Mem.tail _ (List.Mem.head _)); try dsimp only at hp1
    repeat' (first | (with_reducible refine And.intro ?_ ?_) | (with_reducible intro h) | ((fail_if_success (with_reducible refine Leaf.mk ?_)); (fail_if_success (with_reducible refine VC.mk ?_)); (fail_if_success (with_reducible refine Goes.mk ?_)); (fail_if_success (with_reducible refine Again.mk ?_)); (fail_if_success (with_reducible refine Rounds.mk ?_)); (fail_if_success (with_reducible show False)); (fail_if_success (with_reducible show True)); conv => whnf))
    all_goals try simp only [decide_eq_true_eq, decide_eq_false_iff_not, tkA, tkL, Nat.zero_add, Nat.reduceAdd, Int.toNat_natCast, List.take_nil, List.nil_append] at *
    all_goals try simp only [Bool.not_eq_true', Bool.not_eq_false', Bool.and_eq_true, Bool.and_eq_false_imp, decide_eq_true_eq, decide_eq_false_iff_not] at *
    all_goals try first | exact trivial | (show False; omega) | exact Leaf.mk trivial | exact Leaf.mk rfl | (refine VC.mk ?_; first | trivial | assumption | ((try simp only [InR, decide_eq_true_eq, decide_eq_false_iff_not] at *); omega) | (simp; done))
    all_goals try (refine VC.mk ?_; first | trivial | (first | assumption | exact wf_nil _ | exact solR_wf (by assumption) _ _ | exact solB_wf (by assumption) _ _ | exact solR_wf (wf_nil _) _ _ | exact solB_wf (wf_nil _) _ _) | (simp only [solR_len, solB_len, List.length_nil] at *; omega) | (simp only [solR_len, solB_len, List.length_nil, decide_eq_true_eq, decide_eq_false_iff_not] at *; omega) | (simp; done))
    all_goals try (exfalso; simp only [List.length_nil] at *; omega)
  | [i], zl, [(true, xs), (false, ys)], zr =>
    clear zl zr
    obtain rfl : xs = [] := hn _ (List.Mem.head _) rfl
    have hp0 := hpre _ (List.Mem.head _); try dsimp only at hp0
    have hp1 := hpre _ (List.Mem.tail _ (List.Mem.head _)); try dsimp only at hp1
    repeat' (first | (with_reducible refine And.intro ?_ ?_) | (with_reducible intro h) | ((fail_if_success (with_reducible refine Leaf.mk ?_)); (fail_if_success (with_reducible refine VC.mk ?_)); (fail_if_success (with_reducible refine Goes.mk ?_)); (fail_if_success (with_reducible refine Again.mk ?_)); (fail_if_success (with_reducible refine Rounds.mk ?_)); (fail_if_success (with_reducible show False)); (fail_if_success (with_reducible show True)); conv => whnf))
    all_goals try simp only [decide_eq_true_eq, decide_eq_false_iff_not, tkA, tkL, Nat.zero_add, Nat.reduceAdd, Int.toNat_natCast, List.take_nil, List.nil_append] at *
    all_goals try simp only [Bool.not_eq_true', Bool.not_eq_false', Bool.and_eq_true, Bool.and_eq_false_imp, decide_eq_true_eq, decide_eq_false_iff_not] at *
    all_goals try first | exact trivial | (show False; omega) | exact Leaf.mk trivial | exact Leaf.mk rfl | (refine VC.mk ?_; first | trivial | assumption | ((try simp only [InR, decide_eq_true_eq, decide_eq_false_iff_not] at *); omega) | (simp; done))
    all_goals try (refine VC.mk ?_; first | trivial | (first | assumption | exact wf_nil _ | exact solR_wf (by assumption) _ _ | exact solB_wf (by assumption) _ _ | exact solR_wf (wf_nil _) _ _ | exact solB_wf (wf_nil _) _ _) | (simp only [solR_len, solB_len, List.length_nil] at *; omega) | (simp only [solR_len, solB_len, List.length_nil, decide_eq_true_eq, decide_eq_false_iff_not] at *; omega) | (simp; done))
    all_goals try (exfalso; simp only [List.length_nil] at *; omega)
  | [i], zl, [(false, xs), (true, ys)], zr =>
    clear zl zr
    obtain rfl : ys = [] := hn _ (List.Mem.tail _ (List.Mem.head _)) rfl
    have hp0 := hpre _ (List.Mem.head _); try dsimp only at hp0
    have hp1 := hpre _ (List.Mem.tail _ (List.Mem.head _)); try dsimp only at hp1
    repeat' (first | (with_reducible refine And.intro ?_ ?_) | (with_reducible intro h) | ((fail_if_success (with_reducible refine Leaf.mk ?_)); (fail_if_success (with_reducible refine VC.mk ?_)); (fail_if_success (with_reducible refine Goes.mk ?_)); (fail_if_success (with_reducible refine Again.mk ?_)); (fail_if_success (with_reducible refine Rounds.mk ?_)); (fail_if_success (with_reducible show False)); (fail_if_success (with_reducible show True)); conv => whnf))
    all_goals try simp only [decide_eq_true_eq, decide_eq_false_iff_not, tkA, tkL, Nat.zero_add, Nat.reduceAdd, Int.toNat_natCast, List.take_nil, List.nil_append] at *
    all_goals try simp only [Bool.not_eq_true', Bool.not_eq_false', Bool.and_eq_true, Bool.and_eq_false_imp, decide_eq_true_eq, decide_eq_false_iff_not] at *
    all_goals try first | exact trivial | (show False; omega) | exact Leaf.mk trivial | exact Leaf.mk rfl | (refine VC.mk ?_; first | trivial | assumption | ((try simp only [InR, decide_eq_true_eq, decide_eq_false_iff_not] at *); omega) | (simp; done))
    all_goals try (refine VC.mk ?_; first | trivial | (first | assumption | exact wf_nil _ | exact solR_wf (by assumption) _ _ | exact solB_wf (by assumption) _ _ | exact solR_wf (wf_nil _) _ _ | exact solB_wf (wf_nil _) _ _) | (simp only [solR_len, solB_len, List.length_nil] at *; omega) | (simp only [solR_len, solB_len, List.length_nil, decide_eq_true_eq, decide_eq_false_iff_not] at *; omega) | (simp; done))
    all_goals try refine goes_rounds 1 ?_
    all_goals try (refine rounds_one (pl := [(1, [0, 1, 2, 3, 4, 5, 6, 7, 8, 9, 10, 11, 12, 13, 14, 15, 16, 17, 18, 19, 20, 21, 22, 23, 24, 25, 26, 27, 28, 29, 30, 31, 32, 33, 34, 35], [0, 0, 3, 7, 15, 31, 63, 127, 255, 511, 511, 1535, 4095, 8191, 16383, 32767, 32767, 131071, 262143, 524287, 1048575, 2097151, 4194303, 8388607, 8388607, 33554431, 67108863, 134217727, 268435455, 8388607, 8388607, 1619001343, 3766484991, 8061452287, 17179869183, 34359738367]), (9, [0, 1, 2, 3, 4, 5, 6, 7, 8, 9, 10, 11, 12, 13, 14, 15, 16, 17, 18, 19, 20, 21, 22, 23, 24, 25, 26, 27, 28, 29, 30, 31, 32, 33, 34, 35, 36, 37, 38, 39, 40, 41, 42, 43], [0, 0, 3, 7, 15, 31, 63, 0, 0, 384, 896, 1920, 3968, 8191, 16383, 32767, 32767, 131071, 262143, 524287, 1048575, 2097151, 32767, 32767, 12615679, 29392895, 62947327, 130056191, 268435455, 536870911, 1073741823, 2147483647, 2147483647, 8589934591, 17179869183, 34359738367, 68719476735, 2147483647, 2147483647, 414464344063, 964220157951, 2063731785727, 4398046511103, 8796093022207])]) T_ok (Cons.cons con_law28_few (Cons.cons con_fixed_Saturate (Cons.cons con_constraint_Bounds (Cons.cons con_constraint_Solve (Cons.cons con_ref28_Rows (Cons.cons con_ref28_SolverBodies (Cons.cons con_law28_example (Cons.nil _)))))))) mixed (by kernel_rfl) ?_; repeat' (first | (with_reducible refine And.intro ?_ ?_) | (with_reducible intro h) | ((fail_if_success (with_reducible refine Leaf.mk ?_)); (fail_if_success (with_reducible refine VC.mk ?_)); (fail_if_success (with_reducible refine Goes.mk ?_)); (fail_if_success (with_reducible refine Again.mk ?_)); (fail_if_success (with_reducible refine Rounds.mk ?_)); (fail_if_success (with_reducible show False)); (fail_if_success (with_reducible show True)); conv => whnf)))
    all_goals try simp only [decide_eq_true_eq, decide_eq_false_iff_not, tkA, tkL, Nat.zero_add, Nat.reduceAdd, Int.toNat_natCast, List.take_nil, List.nil_append] at *
    all_goals try simp only [Bool.not_eq_true', Bool.not_eq_false', Bool.and_eq_true, Bool.and_eq_false_imp, decide_eq_true_eq, decide_eq_false_iff_not] at *
    all_goals try (simp only [List.length_nil, Int.natCast_zero, Int.ofNat_zero] at *)
    all_goals try first | exact trivial | (show False; omega) | exact Leaf.mk trivial | exact Leaf.mk rfl | (refine VC.mk ?_; first | trivial | assumption | ((try simp only [InR, decide_eq_true_eq, decide_eq_false_iff_not] at *); omega) | (simp; done))
    all_goals try (refine VC.mk ?_; first | trivial | (first | assumption | exact wf_nil _ | exact solR_wf (by assumption) _ _ | exact solB_wf (by assumption) _ _ | exact solR_wf (wf_nil _) _ _ | exact solB_wf (wf_nil _) _ _) | (simp only [solR_len, solB_len, List.length_nil] at *; omega) | (simp only [solR_len, solB_len, List.length_nil, decide_eq_true_eq, decide_eq_false_iff_not] at *; omega) | (simp; done))
    all_goals try (exfalso; omega)
    all_goals (
      have hz := solve_zero (xs := xs) (ys := []) (i := i) (wf_nil _) (by omega) (by omega) (by assumption) (by assumption) (by omega) (by omega) (fun j hj => absurd hj (Nat.not_lt_zero _))
      refine Leaf.mk ?_; exfalso; first | exact absurd hz.1 (by assumption) | exact absurd hz.2 (by assumption))
  | [i], zl, [(false, xs), (false, ys)], zr =>
    clear zl zr
    have hp0 := hpre _ (List.Mem.head _); try dsimp only at hp0
    have hp1 := hpre _ (List.Mem.tail _ (List.Mem.head _)); try dsimp only at hp1
    repeat' (first | (with_reducible refine And.intro ?_ ?_) | (with_reducible intro h) | ((fail_if_success (with_reducible refine Leaf.mk ?_)); (fail_if_success (with_reducible refine VC.mk ?_)); (fail_if_success (with_reducible refine Goes.mk ?_)); (fail_if_success (with_reducible refine Again.mk ?_)); (fail_if_success (with_reducible refine Rounds.mk ?_)); (fail_if_success (with_reducible show False)); (fail_if_success (with_reducible show True)); conv => whnf))
    all_goals try simp only [decide_eq_true_eq, decide_eq_false_iff_not, tkA, tkL, Nat.zero_add, Nat.reduceAdd, Int.toNat_natCast, List.take_nil, List.nil_append] at *
    all_goals try simp only [Bool.not_eq_true', Bool.not_eq_false', Bool.and_eq_true, Bool.and_eq_false_imp, decide_eq_true_eq, decide_eq_false_iff_not] at *
    all_goals try first | exact trivial | (show False; omega) | exact Leaf.mk trivial | exact Leaf.mk rfl | (refine VC.mk ?_; first | trivial | assumption | ((try simp only [InR, decide_eq_true_eq, decide_eq_false_iff_not] at *); omega) | (simp; done))
    all_goals try (refine VC.mk ?_; first | trivial | (first | assumption | exact wf_nil _ | exact solR_wf (by assumption) _ _ | exact solB_wf (by assumption) _ _ | exact solR_wf (wf_nil _) _ _ | exact solB_wf (wf_nil _) _ _) | (simp only [solR_len, solB_len, List.length_nil] at *; omega) | (simp only [solR_len, solB_len, List.length_nil, decide_eq_true_eq, decide_eq_false_iff_not] at *; omega) | (simp; done))
    refine goes_inv (X := Nat) (pl := [(1, [0, 1, 2, 3, 4, 5, 6, 7, 8, 9, 10, 11, 12, 13, 14, 15, 16, 17, 18, 19, 20, 21, 22, 23, 24, 25, 26, 27, 28, 29, 30, 31, 32, 33, 34, 35], [0, 0, 3, 7, 15, 31, 63, 127, 255, 511, 511, 1535, 4095, 8191, 16383, 32767, 32767, 131071, 262143, 524287, 1048575, 2097151, 4194303, 8388607, 8388607, 33554431, 67108863, 134217727, 268435455, 8388607, 8388607, 1619001343, 3766484991, 8061452287, 17179869183, 34359738367]), (9, [0, 1, 2, 3, 4, 5, 6, 7, 8, 9, 10, 11, 12, 13, 14, 15, 16, 17, 18, 19, 20, 21, 22, 23, 24, 25, 26, 27, 28, 29, 30, 31, 32, 33, 34, 35, 36, 37, 38, 39, 40, 41, 42, 43], [0, 0, 3, 7, 15, 31, 63, 0, 0, 384, 896, 1920, 3968, 8191, 16383, 32767, 32767, 131071, 262143, 524287, 1048575, 2097151, 32767, 32767, 12615679, 29392895, 62947327, 130056191, 268435455, 536870911, 1073741823, 2147483647, 2147483647, 8589934591, 17179869183, 34359738367, 68719476735, 2147483647, 2147483647, 414464344063, 964220157951, 2063731785727, 4398046511103, 8796093022207])]) T_ok (Cons.cons con_law28_few (Cons.cons con_fixed_Saturate (Cons.cons con_constraint_Bounds (Cons.cons con_constraint_Solve (Cons.cons con_ref28_Rows (Cons.cons con_ref28_SolverBodies (Cons.cons con_law28_example (Cons.nil _)))))))) mixed (by kernel_rfl)
      (fun k => (.sl 0 14 0 xs.length :: .int .i64 i :: .sl 1 5 0 ys.length :: .any :: .any :: .any :: .any :: .any :: .any :: .int .i64 (k : Int) :: .any :: .any :: .any :: .any :: .any :: .any :: .any :: .any :: .any :: .any :: .any :: .any :: .any :: .any :: .any :: .any :: .any :: .any :: .any :: .any :: .any :: .any :: .any :: .any :: .any :: .any :: .any :: .any :: .any :: .any :: .any :: .any :: .any :: .any :: .any :: .any :: .any :: .any :: .any :: .any :: .any :: .any :: .any :: .any :: .any :: .any :: .any :: .any :: .any :: .any :: .any :: .any :: .any :: .any :: .any :: .any :: .any :: .any :: .any :: .any :: .any :: .any :: .any :: .any :: .any :: .any :: .any :: .any :: .any :: .any :: .any :: .any :: .any :: .any :: .any :: .any :: .any :: .any :: .any :: .any :: .any :: .any :: .any :: .any :: .any :: .any :: .any :: .any :: .any :: .any :: .any :: .any :: .any :: .any :: .any :: .any :: .any :: .any :: .any :: .any :: .any :: .any :: .any :: .any :: .any :: .any :: .any :: .any :: .any :: .any :: .any :: .any :: .any :: .any :: .any :: .any :: .any :: .any :: .any :: .any :: .any :: .any :: .any :: .any :: .any :: .any :: .any :: .any :: .any :: .any :: .any :: [], [.arr false true 14 xs, .arr false true 5 ys]))
      (fun k => k ≤ ys.length ∧ ∀ j, j < k → satV ys j) (fun k => ys.length - k) 0 [0, 1] ⟨Nat.zero_le _, fun j hj => absurd hj (Nat.not_lt_zero _)⟩ ?_ ?_ ?_
    · repeat' (first | (with_reducible refine And.intro ?_ ?_) | (with_reducible intro h) | ((fail_if_success (with_reducible refine Leaf.mk ?_)); (fail_if_success (with_reducible refine VC.mk ?_)); (fail_if_success (with_reducible refine Goes.mk ?_)); (fail_if_success (with_reducible refine Again.mk ?_)); (fail_if_success (with_reducible refine Rounds.mk ?_)); (fail_if_success (with_reducible show False)); (fail_if_success (with_reducible show True)); conv => whnf))
      all_goals first | exact trivial | (refine Leaf.mk ?_; first | rfl | exact ⟨rfl, rfl⟩ | (simp; done))
    · repeat' (first | (with_reducible refine And.intro ?_ ?_) | (with_reducible intro h) | ((fail_if_success (with_reducible refine Leaf.mk ?_)); (fail_if_success (with_reducible refine VC.mk ?_)); (fail_if_success (with_reducible refine Goes.mk ?_)); (fail_if_success (with_reducible refine Again.mk ?_)); (fail_if_success (with_reducible refine Rounds.mk ?_)); (fail_if_success (with_reducible show False)); (fail_if_success (with_reducible show True)); conv => whnf))
      all_goals first | exact trivial | (refine Leaf.mk ?_; first | rfl | exact ⟨rfl, rfl⟩ | (simp; done))
    · intro k hx
      obtain ⟨hx1, hx2⟩ := hx
      repeat' (first | (with_reducible refine And.intro ?_ ?_) | (with_reducible intro h) | ((fail_if_success (with_reducible refine Leaf.mk ?_)); (fail_if_success (with_reducible refine VC.mk ?_)); (fail_if_success (with_reducible refine Goes.mk ?_)); (fail_if_success (with_reducible refine Again.mk ?_)); (fail_if_success (with_reducible refine Rounds.mk ?_)); (fail_if_success (with_reducible show False)); (fail_if_success (with_reducible show True)); conv => whnf))
      all_goals try simp only [decide_eq_true_eq, decide_eq_false_iff_not, tkA, tkL, Nat.zero_add, Nat.reduceAdd, Int.toNat_natCast, List.take_nil, List.nil_append] at *
      all_goals try simp only [Bool.not_eq_true', Bool.not_eq_false', Bool.and_eq_true, Bool.and_eq_false_imp, decide_eq_true_eq, decide_eq_false_iff_not] at *
      all_goals try first | exact trivial | (show False; omega) | exact Leaf.mk trivial | exact Leaf.mk rfl | (refine VC.mk ?_; first | trivial | assumption | ((try simp only [InR, decide_eq_true_eq, decide_eq_false_iff_not] at *); omega) | (simp; done))
      all_goals try (refine VC.mk ?_; first | trivial | (first | assumption | exact wf_nil _ | exact solR_wf (by assumption) _ _ | exact solB_wf (by assumption) _ _ | exact solR_wf (wf_nil _) _ _ | exact solB_wf (wf_nil _) _ _) | (simp only [solR_len, solB_len, List.length_nil] at *; omega) | (simp only [solR_len, solB_len, List.length_nil, decide_eq_true_eq, decide_eq_false_iff_not] at *; omega) | (simp; done))
      all_goals try (
        have hz := solve_zero (xs := xs) (ys := ys) (i := i) hp1 (by omega) (by omega) (by assumption) (by assumption) (by omega) (by omega) (fun j hj => hx2 j (by omega))
        refine Leaf.mk ?_; exfalso; first | exact absurd hz.1 (by assumption) | exact absurd hz.2 (by assumption))
      all_goals (have hlt : k < ys.length := by omega
                 have hn : ∀ j, j < k + 1 → satV ys j := fun j hj => by
                   by_cases e : j = k
                   · subst e; exact ⟨by assumption, by assumption, by assumption⟩
                   · exact hx2 j (by omega)
                 (refine Again.mk ⟨k + 1, [0, 1], ⟨hlt, hn⟩, (by omega), ?_, ?_⟩ <;> (repeat' (first | (with_reducible refine And.intro ?_ ?_) | (with_reducible intro h) | ((fail_if_success (with_reducible refine Leaf.mk ?_)); (fail_if_success (with_reducible refine VC.mk ?_)); (fail_if_success (with_reducible refine Goes.mk ?_)); (fail_if_success (with_reducible refine Again.mk ?_)); (fail_if_success (with_reducible refine Rounds.mk ?_)); (fail_if_success (with_reducible show False)); (fail_if_success (with_reducible show True)); conv => whnf))) <;> first | exact trivial | (refine Leaf.mk ?_; first | rfl | exact ⟨rfl, rfl⟩ | (simp; done))))

theorem walk_ConstraintZeroMass (i : Int) (bxs : Bool) (xs : List (List Int)) (bys : Bool) (ys : List (List Int)) (w : World) (m : Ev.Map) (vxs vys : Value) (nxs : bxs = true → xs = []) (nys : bys = true → ys = []) (fxs : ∀ x ∈ xs, x.length = 14 ∧ ∀ y ∈ x, -9223372036854775808 ≤ y ∧ y ≤ 9223372036854775807) (fys : ∀ x ∈ ys, x.length = 5 ∧ ∀ y ∈ x, -9223372036854775808 ≤ y ∧ y ≤ 9223372036854775807) (dxs : Den m (rowArg bxs 0 14 xs) vxs ∧ BlkH m 0 w (.arr false (!bxs) 14 xs)) (dys : Den m (rowArg bys 1 5 ys) vys ∧ BlkH m 1 w (.arr false (!bys) 5 ys)) :
    Calls Try.prog 6 #[vxs, .int .i64 i, vys] w fun e w' => e = .returned (.bool true) ∧ Below w.heap.size w w' := by
  cases bxs with
  | false =>
    cases bys with
    | false =>
      exact Frame.calls_rows con_law_ConstraintZeroMass [rowArg false 0 14 xs, .int .i64 i, rowArg false 1 5 ys] (fun id => match id with | 0 => .arr false true 14 xs | 1 => .arr false true 5 ys | _ => .dead) [i] _ _ [vxs, .int .i64 i, vys] rfl (by simp [appP]) (List.forall_mem_cons.2 ⟨fun x hx => (fxs x (mem_tk hx)).1, (List.forall_mem_cons.2 ⟨fun x hx => (fys x (mem_tk hx)).1, (List.forall_mem_nil _)⟩)⟩) m w ⟨dxs.1, rfl, dys.1, trivial⟩ (fun id => by match id with | 0 => exact dxs.2 | 1 => exact dys.2 | _ + 2 => trivial) (fun id => by match id with | 0 => rfl | 1 => rfl | _ + 2 => rfl) rfl
    | true =>
      obtain rfl := nys rfl
      exact Frame.calls_rows con_law_ConstraintZeroMass [rowArg false 0 14 xs, .int .i64 i, rowArg true 1 5 []] (fun id => match id with | 0 => .arr false true 14 xs | 1 => .arr false false 5 [] | _ => .dead) [i] _ _ [vxs, .int .i64 i, vys] rfl (by simp [appP]) (List.forall_mem_cons.2 ⟨fun x hx => (fxs x (mem_tk hx)).1, (List.forall_mem_cons.2 ⟨fun x hx => (by cases hx), (List.forall_mem_nil _)⟩)⟩) m w ⟨dxs.1, rfl, dys.1, trivial⟩ (fun id => by match id with | 0 => exact dxs.2 | 1 => exact dys.2 | _ + 2 => trivial) (fun id => by match id with | 0 => rfl | 1 => rfl | _ + 2 => rfl) rfl
  | true =>
    obtain rfl := nxs rfl
    cases bys with
    | false =>
      exact Frame.calls_rows con_law_ConstraintZeroMass [rowArg true 0 14 [], .int .i64 i, rowArg false 1 5 ys] (fun id => match id with | 0 => .arr false false 14 [] | 1 => .arr false true 5 ys | _ => .dead) [i] _ _ [vxs, .int .i64 i, vys] rfl (by simp [appP]) (List.forall_mem_cons.2 ⟨fun x hx => (by cases hx), (List.forall_mem_cons.2 ⟨fun x hx => (fys x (mem_tk hx)).1, (List.forall_mem_nil _)⟩)⟩) m w ⟨dxs.1, rfl, dys.1, trivial⟩ (fun id => by match id with | 0 => exact dxs.2 | 1 => exact dys.2 | _ + 2 => trivial) (fun id => by match id with | 0 => rfl | 1 => rfl | _ + 2 => rfl) rfl
    | true =>
      obtain rfl := nys rfl
      exact Frame.calls_rows con_law_ConstraintZeroMass [rowArg true 0 14 [], .int .i64 i, rowArg true 1 5 []] (fun id => match id with | 0 => .arr false false 14 [] | 1 => .arr false false 5 [] | _ => .dead) [i] _ _ [vxs, .int .i64 i, vys] rfl (by simp [appP]) (List.forall_mem_cons.2 ⟨fun x hx => (by cases hx), (List.forall_mem_cons.2 ⟨fun x hx => (by cases hx), (List.forall_mem_nil _)⟩)⟩) m w ⟨dxs.1, rfl, dys.1, trivial⟩ (fun id => by match id with | 0 => exact dxs.2 | 1 => exact dys.2 | _ + 2 => trivial) (fun id => by match id with | 0 => rfl | 1 => rfl | _ + 2 => rfl) rfl
end Go.Proofs.Ytapbegcmdiemoaa
