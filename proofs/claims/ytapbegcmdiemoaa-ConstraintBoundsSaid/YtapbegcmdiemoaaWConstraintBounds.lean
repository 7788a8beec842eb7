/- The walk of caromlaw28.ConstraintBounds. -/
import Derived.Test.YtapbegcmdiemoaaWConstraintZeroMass
import Derived.Test.YtapbegcmdiemoaaFs
namespace Go.Proofs.Ytapbegcmdiemoaa
open Go.RowKit Fx Vx Ev
set_option linter.unusedVariables false
set_option linter.unusedSimpArgs false

theorem at2_set_ne {xs : List (List Int)} {k a : Nat} (h : k ≠ a) (r : List Int) (j : Nat) : at2 (xs.set a r) k j = at2 xs k j := by
  simp only [at2, List.getD_eq_getElem?_getD]
  rw [List.getElem?_set_ne (by omega)]
theorem at2_upd_ne {xs : List (List Int)} {k a : Nat} (h : k ≠ a) (c : Nat) (vs : List Int) (j : Nat) : at2 (upd2 xs a c vs) k j = at2 xs k j := at2_set_ne h _ _
theorem apA_at (xs : List (List Int)) (ra nx ny aa d : Int) {k : Nat} (hk : k < xs.length) : at2 (apA xs ra nx ny aa d) k 3 = at2 xs k 3 ∧ at2 (apA xs ra nx ny aa d) k 4 = at2 xs k 4 ∧ ((k : Int) ≠ ra → ∀ j, at2 (apA xs ra nx ny aa d) k j = at2 xs k j) := by
  by_cases h : 0 ≤ ra ∧ ra < xs.length
  · rw [apA_in h.1 h.2]
    by_cases e : k = ra.toNat
    · subst e
      rw [at2_set hk, at2_set hk]
      exact ⟨rfl, rfl, fun hn => absurd (by omega) hn⟩
    · exact ⟨at2_set_ne e _ _, at2_set_ne e _ _, fun _ j => at2_set_ne e _ _⟩
  · rw [apA_out (by omega)]; exact ⟨rfl, rfl, fun _ _ => rfl⟩
theorem apB_at (xs : List (List Int)) (ra nx ny aa d : Int) {k : Nat} (hk : k < xs.length) : at2 (apB xs ra nx ny aa d) k 3 = at2 xs k 3 ∧ at2 (apB xs ra nx ny aa d) k 4 = at2 xs k 4 ∧ ((k : Int) ≠ ra → ∀ j, at2 (apB xs ra nx ny aa d) k j = at2 xs k j) := by
  by_cases h : 0 ≤ ra ∧ ra < xs.length
  · rw [apB_in h.1 h.2]
    by_cases e : k = ra.toNat
    · subst e
      rw [at2_set hk, at2_set hk]
      exact ⟨rfl, rfl, fun hn => absurd (by omega) hn⟩
    · exact ⟨at2_set_ne e _ _, at2_set_ne e _ _, fun _ j => at2_set_ne e _ _⟩
  · rw [apB_out (by omega)]; exact ⟨rfl, rfl, fun _ _ => rfl⟩
theorem solB_at {xs ys : List (List Int)} {i : Int} (h0 : 0 ≤ i) (h1 : i < xs.length) {k : Nat} (hk : k < ys.length) : at2 (solB xs i ys) k 3 = at2 ys k 3 ∧ at2 (solB xs i ys) k 4 = at2 ys k 4 ∧ ((k : Int) ≠ at2 xs i.toNat 0 → (k : Int) ≠ at2 xs i.toNat 1 → ∀ j, at2 (solB xs i ys) k j = at2 ys k j) := by
  rw [solB_in h0 h1]; unfold ap
  obtain ⟨a1, a2, a3⟩ := apA_at ys (at2 xs i.toNat 0) (at2 xs i.toNat 2) (at2 xs i.toNat 3) (at2 xs i.toNat 4) (sub (impT xs ys i) (at2 xs i.toNat 11)) hk
  obtain ⟨b1, b2, b3⟩ := apB_at (apA ys (at2 xs i.toNat 0) (at2 xs i.toNat 2) (at2 xs i.toNat 3) (at2 xs i.toNat 4) (sub (impT xs ys i) (at2 xs i.toNat 11))) (at2 xs i.toNat 1) (at2 xs i.toNat 2) (at2 xs i.toNat 3) (at2 xs i.toNat 5) (sub (impT xs ys i) (at2 xs i.toNat 11)) (k := k) (by rw [apA_len]; exact hk)
  exact ⟨b1.trans a1, b2.trans a2, fun n1 n2 j => (b3 n2 j).trans (a3 n1 j)⟩
theorem bd_solR {xs : List (List Int)} (hw : wf 14 xs) {i : Int} (h0 : 0 ≤ i) (h1 : i < xs.length) (ys : List (List Int)) : bdL (solR xs i ys) i = bdL xs i ∧ bdU (solR xs i ys) i = bdU xs i := by
  have hk : i.toNat < xs.length := by omega
  have hl := solR_len xs i ys
  have a : ∀ j, j ≠ 11 → at2 (solR xs i ys) i.toNat j = at2 xs i.toNat j := fun j hj => by rw [solR_in h0 h1]; exact at2_not11 hk _ hj
  have a8 := a 8 (by decide); have a9 := a 9 (by decide); have a12 := a 12 (by decide); have a13 := a 13 (by decide)
  by_cases hf : at2 xs i.toNat 12 < 0 ∨ (xs.length : Int) ≤ at2 xs i.toNat 12 ∨ at2 xs i.toNat 12 = i
  · obtain ⟨e1, e2⟩ := bd_own h0 h1 hf
    obtain ⟨e3, e4⟩ := bd_own (xs := solR xs i ys) (i := i) h0 (by omega) (by rw [a12, hl]; exact hf)
    rw [e1, e2, e3, e4, a8, a9]; exact ⟨rfl, rfl⟩
  · obtain ⟨e1, e2⟩ := bd_fr h0 h1 (by omega) (by omega) (by omega)
    obtain ⟨e3, e4⟩ := bd_fr (xs := solR xs i ys) (i := i) h0 (by omega) (by rw [a12]; omega) (by rw [a12, hl]; omega) (by rw [a12]; omega)
    have e5 : frM (solR xs i ys) i = frM xs i := by
      unfold frM; rw [a12, a13]
      have : at2 (solR xs i ys) (at2 xs i.toNat 12).toNat 11 = at2 xs (at2 xs i.toNat 12).toNat 11 := by rw [solR_in h0 h1]; exact at2_upd_ne (by omega) _ _ _
      rw [this]
    rw [e1, e2, e3, e4, e5]; exact ⟨rfl, rfl⟩
theorem solR_imp {xs : List (List Int)} (hw : wf 14 xs) {i : Int} (h0 : 0 ≤ i) (h1 : i < xs.length) (ys : List (List Int)) : at2 (solR xs i ys) i.toNat 11 = impT xs ys i := by
  rw [solR_in h0 h1]; exact at2_11 hw (by omega) _
theorem bounds_ok {xs : List (List Int)} (hw : wf 14 xs) {i : Int} (h0 : 0 ≤ i) (h1 : i < xs.length) (ys : List (List Int)) : bdL (solR xs i ys) i ≤ at2 (solR xs i ys) i.toNat 11 ∧ (bdL (solR xs i ys) i ≤ bdU (solR xs i ys) i → at2 (solR xs i ys) i.toNat 11 ≤ bdU (solR xs i ys) i) := by
  obtain ⟨e1, e2⟩ := bd_solR hw h0 h1 ys
  rw [e1, e2, solR_imp hw h0 h1]
  exact ⟨clamp_lo _ _ _, fun h => clamp_hi _ _ _ h⟩
theorem restore {xs : List (List Int)} (hw : wf 14 xs) {i : Int} (h0 : 0 ≤ i) (h1 : i < xs.length) (ys : List (List Int)) : upd2 (solR xs i ys) i.toNat 11 [at2 xs i.toNat 11] = xs := by
  have hk : i.toNat < xs.length := by omega
  rw [solR_in h0 h1]
  have e : upd2 (upd2 xs i.toNat 11 [impT xs ys i]) i.toNat 11 [at2 xs i.toNat 11] = upd2 xs i.toNat 11 [at2 xs i.toNat 11] := by
    unfold upd2
    have g : ∀ r : List Int, (xs.set i.toNat r).getD i.toNat [] = r := fun r => by rw [List.getD_eq_getElem?_getD, List.getElem?_set_self hk, Option.getD_some]
    rw [g, List.set_set]
    simp only [setInts, List.set_set]
  rw [e, upd_same]
theorem tk_upd (xs : List (List Int)) (a b : Nat) (c : List Int) : List.take xs.length (upd2 xs a b c) = upd2 xs a b c := List.take_of_length_le (by rw [upd2_len]; exact Nat.le_refl _)

def c_law_ConstraintBounds : Con := ⟨3, rowRun [.rows 14, .num 0, .rows 5] (fun l R => match l, R with | [i], [xs, ys] => [∀ x ∈ xs, x.length = 14, ∀ x ∈ ys, x.length = 5] | _, _ => [False]) fun l R => match l, R with
  | [i], [xs, ys] => .bool true
  | _, _ => .any⟩
set_option maxRecDepth 100000 in
set_option maxHeartbeats 8000000 in
theorem con_law_ConstraintBounds : c_law_ConstraintBounds.Ok Try.prog := by
  refine con_rows (C := [c_law28_few, c_constraint_Bounds, c_constraint_Solve, c_ref28_Rows, c_ref28_SolverBodies, c_law28_example]) (pl := [(15, [0, 1, 2, 3, 4, 5, 6, 7, 8, 9, 10, 11, 12, 13, 14, 15, 16, 17, 18, 19, 20, 21, 22, 23, 24, 25, 26, 27, 28, 29, 30, 31, 32, 33, 34, 35, 36, 37, 38, 39, 40, 41, 42, 43, 44, 45, 46, 47, 48, 49, 50, 51, 52], [0, 0, 0, 6, 14, 30, 63, 127, 255, 255, 255, 1791, 3839, 7935, 16383, 32767, 65535, 131071, 131071, 524287, 1048575, 131071, 131071, 6422527, 14811135, 33554431, 67108863, 134217727, 268435455, 268435455, 1073741823, 2147483647, 4294967295, 268435455, 268435455, 26038239231, 60397977599, 129117454335, 274877906943, 549755813887, 1099511627775, 2199023255551, 2199023255551, 8796093022207, 17592186044415, 35184372088831, 2199023255551, 2199023255551, 213305255788543, 494780232499199, 1057730185920511, 2251799813685247, 4503599627370495])]) Try.func3 rfl (by kernel_rfl) T_ok (Cons.cons con_law28_few (Cons.cons con_constraint_Bounds (Cons.cons con_constraint_Solve (Cons.cons con_ref28_Rows (Cons.cons con_ref28_SolverBodies (Cons.cons con_law28_example (Cons.nil _))))))) mixed (by kernel_rfl) _ _ _ (fun l R hl hR hn hpre => ?_)
  match l, hl, R, hR with
  | [i], zl, [(true, xs), (true, ys)], zr =>
    clear zl zr
    obtain rfl : xs = [] := hn _ (List.Mem.head _) rfl
    obtain rfl : ys = [] := hn _ (List.Mem.tail _ (List.Mem.head _)) rfl
    have hp0 := hpre _ (List.Mem.head _); try dsimp only at hp0
    have hp1 := hpre _ (List.Mem.tail _ (List.Mem.head _)); try dsimp only at hp1
    repeat' (first | (with_reducible refine And.intro ?_ ?_) | (with_reducible intro h) | ((fail_if_success (with_reducible refine Leaf.mk ?_)); (fail_if_success (with_reducible refine VC.mk ?_)); (fail_if_success (with_reducible refine Goes.mk ?_)); (fail_if_success (with_reducible refine Again.mk ?_)); (fail_if_success (with_reducible refine Rounds.mk ?_)); (fail_if_success (with_reducible show False)); (fail_if_success (with_reducible show True)); conv => whnf))
    all_goals try simp only [decide_eq_true_eq, decide_eq_false_iff_not, tkA, tkL, Nat.zero_add, Nat.reduceAdd, Int.toNat_natCast, List.take_nil, List.nil_append] at *
    all_goals try simp only [Bool.not_eq_true', Bool.not_eq_false', Bool.and_eq_true, Bool.and_eq_false_imp, decide_eq_true_eq, decide_eq_false_iff_not] at *
    all_goals try first | exact trivial | (show False; omega) | exact Leaf.mk trivial | exact Leaf.mk rfl | (refine VC.mk ?_; first | trivial | assumption | ((try simp only [InR, decide_eq_true_eq, decide_eq_false_iff_not] at *); omega) | (simp; done))
    all_goals try (refine VC.mk ?_; first | trivial | (first | assumption | exact wf_nil _ | exact upd2_wf (solR_wf (by assumption) _ _) _ _ _ | exact solR_wf (by assumption) _ _ | exact solB_wf (by assumption) _ _ | exact solR_wf (wf_nil _) _ _ | exact solB_wf (wf_nil _) _ _) | (exact wf_get (solR_wf (by assumption) _ _) (by rw [solR_len]; omega)) | (simp only [solR_len, solB_len, upd2_len, List.length_nil] at *; omega) | (simp only [solR_len, solB_len, upd2_len, List.length_nil, decide_eq_true_eq, decide_eq_false_iff_not] at *; omega) | (simp only [solR_len, solB_len, upd2_len]; exact ⟨by simp, by omega⟩) | (simp; done))
    all_goals try (exfalso; contradiction)
    all_goals try (have a := solR_len [] i []; have b := solB_len [] i []; refine Leaf.mk ?_; exfalso; first | (simp only [List.length_nil] at *; omega) | omega)
    all_goals try (have c := solR_out (xs := []) (i := i) (by first | omega | (simp only [List.length_nil]; omega)) []; have d := solB_out (xs := []) (i := i) (by first | omega | (simp only [List.length_nil]; omega)) []; refine Leaf.mk ?_; exfalso; first | exact absurd c (by assumption) | exact absurd d (by assumption))
  | [i], zl, [(true, xs), (false, ys)], zr =>
    clear zl zr
    obtain rfl : xs = [] := hn _ (List.Mem.head _) rfl
    have hp0 := hpre _ (List.Mem.head _); try dsimp only at hp0
    have hp1 := hpre _ (List.Mem.tail _ (List.Mem.head _)); try dsimp only at hp1
    repeat' (first | (with_reducible refine And.intro ?_ ?_) | (with_reducible intro h) | ((fail_if_success (with_reducible refine Leaf.mk ?_)); (fail_if_success (with_reducible refine VC.mk ?_)); (fail_if_success (with_reducible refine Goes.mk ?_)); (fail_if_success (with_reducible refine Again.mk ?_)); (fail_if_success (with_reducible refine Rounds.mk ?_)); (fail_if_success (with_reducible show False)); (fail_if_success (with_reducible show True)); conv => whnf))
    all_goals try simp only [decide_eq_true_eq, decide_eq_false_iff_not, tkA, tkL, Nat.zero_add, Nat.reduceAdd, Int.toNat_natCast, List.take_nil, List.nil_append] at *
    all_goals try simp only [Bool.not_eq_true', Bool.not_eq_false', Bool.and_eq_true, Bool.and_eq_false_imp, decide_eq_true_eq, decide_eq_false_iff_not] at *
    all_goals try first | exact trivial | (show False; omega) | exact Leaf.mk trivial | exact Leaf.mk rfl | (refine VC.mk ?_; first | trivial | assumption | ((try simp only [InR, decide_eq_true_eq, decide_eq_false_iff_not] at *); omega) | (simp; done))
    all_goals try (refine VC.mk ?_; first | trivial | (first | assumption | exact wf_nil _ | exact upd2_wf (solR_wf (by assumption) _ _) _ _ _ | exact solR_wf (by assumption) _ _ | exact solB_wf (by assumption) _ _ | exact solR_wf (wf_nil _) _ _ | exact solB_wf (wf_nil _) _ _) | (exact wf_get (solR_wf (by assumption) _ _) (by rw [solR_len]; omega)) | (simp only [solR_len, solB_len, upd2_len, List.length_nil] at *; omega) | (simp only [solR_len, solB_len, upd2_len, List.length_nil, decide_eq_true_eq, decide_eq_false_iff_not] at *; omega) | (simp only [solR_len, solB_len, upd2_len]; exact ⟨by simp, by omega⟩) | (simp; done))
    all_goals try (exfalso; contradiction)
    all_goals try (have a := solR_len [] i ys; have b := solB_len [] i ys; refine Leaf.mk ?_; exfalso; first | (simp only [List.length_nil] at *; omega) | omega)
    all_goals try (have c := solR_out (xs := []) (i := i) (by first | omega | (simp only [List.length_nil]; omega)) ys; have d := solB_out (xs := []) (i := i) (by first | omega | (simp only [List.length_nil]; omega)) ys; refine Leaf.mk ?_; exfalso; first | exact absurd c (by assumption) | exact absurd d (by assumption))
  | [i], zl, [(false, xs), (true, ys)], zr =>
    clear zl zr
    obtain rfl : ys = [] := hn _ (List.Mem.tail _ (List.Mem.head _)) rfl
    have hp0 := hpre _ (List.Mem.head _); try dsimp only at hp0
    have hp1 := hpre _ (List.Mem.tail _ (List.Mem.head _)); try dsimp only at hp1
    repeat' (first | (with_reducible refine And.intro ?_ ?_) | (with_reducible intro h) | ((fail_if_success (with_reducible refine Leaf.mk ?_)); (fail_if_success (with_reducible refine VC.mk ?_)); (fail_if_success (with_reducible refine Goes.mk ?_)); (fail_if_success (with_reducible refine Again.mk ?_)); (fail_if_success (with_reducible refine Rounds.mk ?_)); (fail_if_success (with_reducible show False)); (fail_if_success (with_reducible show True)); conv => whnf))
    all_goals try simp only [decide_eq_true_eq, decide_eq_false_iff_not, tkA, tkL, Nat.zero_add, Nat.reduceAdd, Int.toNat_natCast, List.take_nil, List.nil_append] at *
    all_goals try simp only [Bool.not_eq_true', Bool.not_eq_false', Bool.and_eq_true, Bool.and_eq_false_imp, decide_eq_true_eq, decide_eq_false_iff_not] at *
    all_goals try first | exact trivial | (show False; omega) | exact Leaf.mk trivial | exact Leaf.mk rfl | (refine VC.mk ?_; first | trivial | assumption | ((try simp only [InR, decide_eq_true_eq, decide_eq_false_iff_not] at *); omega) | (simp; done))
    all_goals try (refine VC.mk ?_; first | trivial | (first | assumption | exact wf_nil _ | exact upd2_wf (solR_wf (by assumption) _ _) _ _ _ | exact solR_wf (by assumption) _ _ | exact solB_wf (by assumption) _ _ | exact solR_wf (wf_nil _) _ _ | exact solB_wf (wf_nil _) _ _) | (exact wf_get (solR_wf (by assumption) _ _) (by rw [solR_len]; omega)) | (simp only [solR_len, solB_len, upd2_len, List.length_nil] at *; omega) | (simp only [solR_len, solB_len, upd2_len, List.length_nil, decide_eq_true_eq, decide_eq_false_iff_not] at *; omega) | (simp only [solR_len, solB_len, upd2_len]; exact ⟨by simp, by omega⟩) | (simp; done))
    all_goals try (exfalso; contradiction)
    all_goals try (have a := solR_len xs i []; have b := solB_len xs i []; refine Leaf.mk ?_; exfalso; first | (simp only [List.length_nil] at *; omega) | omega)
    all_goals try (have c := solR_out (xs := xs) (i := i) (by first | omega | (simp only [List.length_nil]; omega)) []; have d := solB_out (xs := xs) (i := i) (by first | omega | (simp only [List.length_nil]; omega)) []; refine Leaf.mk ?_; exfalso; first | exact absurd c (by assumption) | exact absurd d (by assumption))
    all_goals try (have hi0 : 0 ≤ i := (by omega); have hi1 : i < xs.length := (by omega); have bo := bounds_ok hp0 hi0 hi1 []; refine Leaf.mk ?_; exfalso; omega)
    all_goals (
      have hi0 : 0 ≤ i := by omega
      have hi1 : i < xs.length := by omega
      obtain ⟨bo1, bo2⟩ := bounds_ok hp0 hi0 hi1 []
      have la := solR_len xs i []
      have lb := solB_len xs i []
      all_goals try refine goes_rounds 1 ?_
      all_goals try (refine rounds_one (pl := [(15, [0, 1, 2, 3, 4, 5, 6, 7, 8, 9, 10, 11, 12, 13, 14, 15, 16, 17, 18, 19, 20, 21, 22, 23, 24, 25, 26, 27, 28, 29, 30, 31, 32, 33, 34, 35, 36, 37, 38, 39, 40, 41, 42, 43, 44, 45, 46, 47, 48, 49, 50, 51, 52], [0, 0, 0, 6, 14, 30, 63, 127, 255, 255, 255, 1791, 3839, 7935, 16383, 32767, 65535, 131071, 131071, 524287, 1048575, 131071, 131071, 6422527, 14811135, 33554431, 67108863, 134217727, 268435455, 268435455, 1073741823, 2147483647, 4294967295, 268435455, 268435455, 26038239231, 60397977599, 129117454335, 274877906943, 549755813887, 1099511627775, 2199023255551, 2199023255551, 8796093022207, 17592186044415, 35184372088831, 2199023255551, 2199023255551, 213305255788543, 494780232499199, 1057730185920511, 2251799813685247, 4503599627370495])]) T_ok (Cons.cons con_law28_few (Cons.cons con_constraint_Bounds (Cons.cons con_constraint_Solve (Cons.cons con_ref28_Rows (Cons.cons con_ref28_SolverBodies (Cons.cons con_law28_example (Cons.nil _))))))) mixed (by kernel_rfl) ?_; repeat' (first | (with_reducible refine And.intro ?_ ?_) | (with_reducible intro h) | ((fail_if_success (with_reducible refine Leaf.mk ?_)); (fail_if_success (with_reducible refine VC.mk ?_)); (fail_if_success (with_reducible refine Goes.mk ?_)); (fail_if_success (with_reducible refine Again.mk ?_)); (fail_if_success (with_reducible refine Rounds.mk ?_)); (fail_if_success (with_reducible show False)); (fail_if_success (with_reducible show True)); conv => whnf)))
      all_goals try simp only [decide_eq_true_eq, decide_eq_false_iff_not, tkA, tkL, Nat.zero_add, Nat.reduceAdd, Int.toNat_natCast, List.take_nil, List.nil_append] at *
      all_goals try simp only [tk_upd] at *
      all_goals try simp only [Bool.not_eq_true', Bool.not_eq_false', Bool.and_eq_true, Bool.and_eq_false_imp, decide_eq_true_eq, decide_eq_false_iff_not] at *
      all_goals try (simp only [List.length_nil, Int.natCast_zero, Int.ofNat_zero] at *)
      all_goals try first | exact trivial | (show False; omega) | exact Leaf.mk trivial | exact Leaf.mk rfl | (refine VC.mk ?_; first | trivial | assumption | ((try simp only [InR, decide_eq_true_eq, decide_eq_false_iff_not] at *); omega) | (simp; done))
      all_goals try (refine VC.mk ?_; first | trivial | (first | assumption | exact wf_nil _ | exact upd2_wf (solR_wf (by assumption) _ _) _ _ _ | exact solR_wf (by assumption) _ _ | exact solB_wf (by assumption) _ _ | exact solR_wf (wf_nil _) _ _ | exact solB_wf (wf_nil _) _ _) | (exact wf_get (solR_wf (by assumption) _ _) (by rw [solR_len]; omega)) | (simp only [solR_len, solB_len, upd2_len, List.length_nil] at *; omega) | (simp only [solR_len, solB_len, upd2_len, List.length_nil, decide_eq_true_eq, decide_eq_false_iff_not] at *; omega) | (simp only [solR_len, solB_len, upd2_len]; exact ⟨by simp, by omega⟩) | (simp; done))
      all_goals try (exfalso; omega)
      all_goals try (have rs := restore hp0 hi0 hi1 []; refine Leaf.mk ?_; exfalso; exact absurd rs (by assumption)))
  | [i], zl, [(false, xs), (false, ys)], zr =>
    clear zl zr
    have hp0 := hpre _ (List.Mem.head _); try dsimp only at hp0
    have hp1 := hpre _ (List.Mem.tail _ (List.Mem.head _)); try dsimp only at hp1
    repeat' (first | (with_reducible refine And.intro ?_ ?_) | (with_reducible intro h) | ((fail_if_success (with_reducible refine Leaf.mk ?_)); (fail_if_success (with_reducible refine VC.mk ?_)); (fail_if_success (with_reducible refine Goes.mk ?_)); (fail_if_success (with_reducible refine Again.mk ?_)); (fail_if_success (with_reducible refine Rounds.mk ?_)); (fail_if_success (with_reducible show False)); (fail_if_success (with_reducible show True)); conv => whnf))
    all_goals try simp only [decide_eq_true_eq, decide_eq_false_iff_not, tkA, tkL, Nat.zero_add, Nat.reduceAdd, Int.toNat_natCast, List.take_nil, List.nil_append] at *
    all_goals try simp only [Bool.not_eq_true', Bool.not_eq_false', Bool.and_eq_true, Bool.and_eq_false_imp, decide_eq_true_eq, decide_eq_false_iff_not] at *
    all_goals try first | exact trivial | (show False; omega) | exact Leaf.mk trivial | exact Leaf.mk rfl | (refine VC.mk ?_; first | trivial | assumption | ((try simp only [InR, decide_eq_true_eq, decide_eq_false_iff_not] at *); omega) | (simp; done))
    all_goals try (refine VC.mk ?_; first | trivial | (first | assumption | exact wf_nil _ | exact upd2_wf (solR_wf (by assumption) _ _) _ _ _ | exact solR_wf (by assumption) _ _ | exact solB_wf (by assumption) _ _ | exact solR_wf (wf_nil _) _ _ | exact solB_wf (wf_nil _) _ _) | (exact wf_get (solR_wf (by assumption) _ _) (by rw [solR_len]; omega)) | (simp only [solR_len, solB_len, upd2_len, List.length_nil] at *; omega) | (simp only [solR_len, solB_len, upd2_len, List.length_nil, decide_eq_true_eq, decide_eq_false_iff_not] at *; omega) | (simp only [solR_len, solB_len, upd2_len]; exact ⟨by simp, by omega⟩) | (simp; done))
    all_goals try (exfalso; contradiction)
    all_goals try (have a := solR_len xs i ys; have b := solB_len xs i ys; refine Leaf.mk ?_; exfalso; first | (simp only [List.length_nil] at *; omega) | omega)
    all_goals try (have c := solR_out (xs := xs) (i := i) (by first | omega | (simp only [List.length_nil]; omega)) ys; have d := solB_out (xs := xs) (i := i) (by first | omega | (simp only [List.length_nil]; omega)) ys; refine Leaf.mk ?_; exfalso; first | exact absurd c (by assumption) | exact absurd d (by assumption))
    all_goals try (have hi0 : 0 ≤ i := (by omega); have hi1 : i < xs.length := (by omega); have bo := bounds_ok hp0 hi0 hi1 ys; refine Leaf.mk ?_; exfalso; omega)
    all_goals (
      have hi0 : 0 ≤ i := by omega
      have hi1 : i < xs.length := by omega
      obtain ⟨bo1, bo2⟩ := bounds_ok hp0 hi0 hi1 ys
      have la := solR_len xs i ys
      have lb := solB_len xs i ys
      refine goes_inv (X := Nat) (pl := [(15, [0, 1, 2, 3, 4, 5, 6, 7, 8, 9, 10, 11, 12, 13, 14, 15, 16, 17, 18, 19, 20, 21, 22, 23, 24, 25, 26, 27, 28, 29, 30, 31, 32, 33, 34, 35, 36, 37, 38, 39, 40, 41, 42, 43, 44, 45, 46, 47, 48, 49, 50, 51, 52], [0, 0, 0, 6, 14, 30, 63, 127, 255, 255, 255, 1791, 3839, 7935, 16383, 32767, 65535, 131071, 131071, 524287, 1048575, 131071, 131071, 6422527, 14811135, 33554431, 67108863, 134217727, 268435455, 268435455, 1073741823, 2147483647, 4294967295, 268435455, 268435455, 26038239231, 60397977599, 129117454335, 274877906943, 549755813887, 1099511627775, 2199023255551, 2199023255551, 8796093022207, 17592186044415, 35184372088831, 2199023255551, 2199023255551, 213305255788543, 494780232499199, 1057730185920511, 2251799813685247, 4503599627370495])]) T_ok (Cons.cons con_law28_few (Cons.cons con_constraint_Bounds (Cons.cons con_constraint_Solve (Cons.cons con_ref28_Rows (Cons.cons con_ref28_SolverBodies (Cons.cons con_law28_example (Cons.nil _))))))) mixed (by kernel_rfl)
        (fun k => (.sl 0 14 0 xs.length :: .int .i64 i :: .sl 1 5 0 ys.length :: .any :: .any :: .any :: .any :: .osl false 2 14 (solR xs i ys).length :: .osl false 3 5 (solB xs i ys).length :: .any :: .any :: .any :: .int .i64 (k : Int) :: .any :: .any :: .any :: .any :: .any :: .any :: .any :: .any :: .any :: .any :: .any :: .any :: .any :: .any :: .any :: .any :: .any :: .any :: .any :: .any :: .any :: .any :: .any :: .any :: .any :: .any :: .any :: .any :: .any :: .any :: .any :: .any :: .any :: .any :: .any :: .any :: .any :: .any :: .any :: .any :: .any :: .any :: .any :: .any :: .any :: .any :: .any :: .any :: .any :: .any :: .any :: .any :: .any :: .any :: .any :: .any :: .any :: .any :: .any :: .any :: .any :: .any :: .any :: .any :: .any :: .any :: .any :: .any :: .any :: .any :: .any :: .any :: .any :: .any :: .any :: .any :: .any :: .any :: .any :: .any :: .any :: .any :: .any :: .any :: .any :: .any :: .any :: .any :: .any :: .any :: .any :: .any :: .any :: .any :: .any :: .any :: .any :: .any :: .any :: .any :: .any :: .any :: .any :: .any :: .any :: .any :: .any :: .any :: .any :: .any :: .any :: .any :: .any :: .any :: .any :: .any :: .any :: .any :: .any :: .any :: .any :: .any :: .any :: .any :: .any :: .any :: .any :: .any :: .any :: .any :: .any :: .any :: .any :: .any :: .any :: .any :: .any :: .any :: .any :: .any :: .any :: [], [.arr false true 14 xs, .arr false true 5 ys, .arr true true 14 (solR xs i ys), .arr true true 5 (solB xs i ys)]))
        (fun k => k ≤ ys.length) (fun k => ys.length - k) 0 [0, 1, 2, 3] (Nat.zero_le _) ?_ ?_ ?_
      · repeat' (first | (with_reducible refine And.intro ?_ ?_) | (with_reducible intro h) | ((fail_if_success (with_reducible refine Leaf.mk ?_)); (fail_if_success (with_reducible refine VC.mk ?_)); (fail_if_success (with_reducible refine Goes.mk ?_)); (fail_if_success (with_reducible refine Again.mk ?_)); (fail_if_success (with_reducible refine Rounds.mk ?_)); (fail_if_success (with_reducible show False)); (fail_if_success (with_reducible show True)); conv => whnf))
        all_goals first | exact trivial | (refine Leaf.mk ?_; first | rfl | exact ⟨rfl, rfl⟩ | (simp; done))
      · repeat' (first | (with_reducible refine And.intro ?_ ?_) | (with_reducible intro h) | ((fail_if_success (with_reducible refine Leaf.mk ?_)); (fail_if_success (with_reducible refine VC.mk ?_)); (fail_if_success (with_reducible refine Goes.mk ?_)); (fail_if_success (with_reducible refine Again.mk ?_)); (fail_if_success (with_reducible refine Rounds.mk ?_)); (fail_if_success (with_reducible show False)); (fail_if_success (with_reducible show True)); conv => whnf))
        all_goals first | exact trivial | (refine Leaf.mk ?_; first | rfl | exact ⟨rfl, rfl⟩ | (simp; done))
      · intro k hx
        by_cases hk : k < ys.length
        · obtain ⟨t1, t2, t3⟩ := solB_at hi0 hi1 hk
          repeat' (first | (with_reducible refine And.intro ?_ ?_) | (with_reducible intro h) | ((fail_if_success (with_reducible refine Leaf.mk ?_)); (fail_if_success (with_reducible refine VC.mk ?_)); (fail_if_success (with_reducible refine Goes.mk ?_)); (fail_if_success (with_reducible refine Again.mk ?_)); (fail_if_success (with_reducible refine Rounds.mk ?_)); (fail_if_success (with_reducible show False)); (fail_if_success (with_reducible show True)); conv => whnf))
          all_goals try simp only [decide_eq_true_eq, decide_eq_false_iff_not, tkA, tkL, Nat.zero_add, Nat.reduceAdd, Int.toNat_natCast, List.take_nil, List.nil_append] at *
          all_goals try simp only [Bool.not_eq_true', Bool.not_eq_false', Bool.and_eq_true, Bool.and_eq_false_imp, decide_eq_true_eq, decide_eq_false_iff_not] at *
          all_goals try first | exact trivial | (show False; omega) | exact Leaf.mk trivial | exact Leaf.mk rfl | (refine VC.mk ?_; first | trivial | assumption | ((try simp only [InR, decide_eq_true_eq, decide_eq_false_iff_not] at *); omega) | (simp; done))
          all_goals try (refine VC.mk ?_; first | trivial | (first | assumption | exact wf_nil _ | exact upd2_wf (solR_wf (by assumption) _ _) _ _ _ | exact solR_wf (by assumption) _ _ | exact solB_wf (by assumption) _ _ | exact solR_wf (wf_nil _) _ _ | exact solB_wf (wf_nil _) _ _) | (exact wf_get (solR_wf (by assumption) _ _) (by rw [solR_len]; omega)) | (simp only [solR_len, solB_len, upd2_len, List.length_nil] at *; omega) | (simp only [solR_len, solB_len, upd2_len, List.length_nil, decide_eq_true_eq, decide_eq_false_iff_not] at *; omega) | (simp only [solR_len, solB_len, upd2_len]; exact ⟨by simp, by omega⟩) | (simp; done))
          all_goals try (have rs := restore hp0 hi0 hi1 ys; refine Leaf.mk ?_; exfalso; exact absurd rs (by assumption))
          all_goals try (refine Leaf.mk ?_; exfalso; first | omega | (have t4 := t3 (by assumption) (by assumption); simp only [t4, eq_self, decide_true, Bool.and_self, not_true_eq_false, Bool.true_eq_false] at *; done) | (simp_all; done))
          all_goals try ((refine Again.mk ⟨k + 1, [0, 1, 2, 3], hk, (by omega), ?_, ?_⟩ <;> (repeat' (first | (with_reducible refine And.intro ?_ ?_) | (with_reducible intro h) | ((fail_if_success (with_reducible refine Leaf.mk ?_)); (fail_if_success (with_reducible refine VC.mk ?_)); (fail_if_success (with_reducible refine Goes.mk ?_)); (fail_if_success (with_reducible refine Again.mk ?_)); (fail_if_success (with_reducible refine Rounds.mk ?_)); (fail_if_success (with_reducible show False)); (fail_if_success (with_reducible show True)); conv => whnf))) <;> first | exact trivial | (refine Leaf.mk ?_; first | rfl | exact ⟨rfl, rfl⟩ | (simp; done))))
        · repeat' (first | (with_reducible refine And.intro ?_ ?_) | (with_reducible intro h) | ((fail_if_success (with_reducible refine Leaf.mk ?_)); (fail_if_success (with_reducible refine VC.mk ?_)); (fail_if_success (with_reducible refine Goes.mk ?_)); (fail_if_success (with_reducible refine Again.mk ?_)); (fail_if_success (with_reducible refine Rounds.mk ?_)); (fail_if_success (with_reducible show False)); (fail_if_success (with_reducible show True)); conv => whnf))
          all_goals try simp only [decide_eq_true_eq, decide_eq_false_iff_not, tkA, tkL, Nat.zero_add, Nat.reduceAdd, Int.toNat_natCast, List.take_nil, List.nil_append] at *
          all_goals try simp only [tk_upd] at *
          all_goals try simp only [Bool.not_eq_true', Bool.not_eq_false', Bool.and_eq_true, Bool.and_eq_false_imp, decide_eq_true_eq, decide_eq_false_iff_not] at *
          all_goals try first | exact trivial | (show False; omega) | exact Leaf.mk trivial | exact Leaf.mk rfl | (refine VC.mk ?_; first | trivial | assumption | ((try simp only [InR, decide_eq_true_eq, decide_eq_false_iff_not] at *); omega) | (simp; done))
          all_goals try (refine VC.mk ?_; first | trivial | (first | assumption | exact wf_nil _ | exact upd2_wf (solR_wf (by assumption) _ _) _ _ _ | exact solR_wf (by assumption) _ _ | exact solB_wf (by assumption) _ _ | exact solR_wf (wf_nil _) _ _ | exact solB_wf (wf_nil _) _ _) | (exact wf_get (solR_wf (by assumption) _ _) (by rw [solR_len]; omega)) | (simp only [solR_len, solB_len, upd2_len, List.length_nil] at *; omega) | (simp only [solR_len, solB_len, upd2_len, List.length_nil, decide_eq_true_eq, decide_eq_false_iff_not] at *; omega) | (simp only [solR_len, solB_len, upd2_len]; exact ⟨by simp, by omega⟩) | (simp; done))
          all_goals try (have rs := restore hp0 hi0 hi1 ys; refine Leaf.mk ?_; exfalso; exact absurd rs (by assumption))
          all_goals try (exfalso; omega))

theorem walk_ConstraintBounds (i : Int) (bxs : Bool) (xs : List (List Int)) (bys : Bool) (ys : List (List Int)) (w : World) (m : Ev.Map) (vxs vys : Value) (nxs : bxs = true → xs = []) (nys : bys = true → ys = []) (fxs : ∀ x ∈ xs, x.length = 14 ∧ ∀ y ∈ x, -9223372036854775808 ≤ y ∧ y ≤ 9223372036854775807) (fys : ∀ x ∈ ys, x.length = 5 ∧ ∀ y ∈ x, -9223372036854775808 ≤ y ∧ y ≤ 9223372036854775807) (dxs : Den m (rowArg bxs 0 14 xs) vxs ∧ BlkH m 0 w (.arr false (!bxs) 14 xs)) (dys : Den m (rowArg bys 1 5 ys) vys ∧ BlkH m 1 w (.arr false (!bys) 5 ys)) :
    Calls Try.prog 3 #[vxs, .int .i64 i, vys] w fun e w' => e = .returned (.bool true) ∧ Below w.heap.size w w' := by
  cases bxs with
  | false =>
    cases bys with
    | false =>
      exact Frame.calls_rows con_law_ConstraintBounds [rowArg false 0 14 xs, .int .i64 i, rowArg false 1 5 ys] (fun id => match id with | 0 => .arr false true 14 xs | 1 => .arr false true 5 ys | _ => .dead) [i] _ _ [vxs, .int .i64 i, vys] rfl (by simp [appP]) (List.forall_mem_cons.2 ⟨fun x hx => (fxs x (mem_tk hx)).1, (List.forall_mem_cons.2 ⟨fun x hx => (fys x (mem_tk hx)).1, (List.forall_mem_nil _)⟩)⟩) m w ⟨dxs.1, rfl, dys.1, trivial⟩ (fun id => by match id with | 0 => exact dxs.2 | 1 => exact dys.2 | _ + 2 => trivial) (fun id => by match id with | 0 => rfl | 1 => rfl | _ + 2 => rfl) rfl
    | true =>
      obtain rfl := nys rfl
      exact Frame.calls_rows con_law_ConstraintBounds [rowArg false 0 14 xs, .int .i64 i, rowArg true 1 5 []] (fun id => match id with | 0 => .arr false true 14 xs | 1 => .arr false false 5 [] | _ => .dead) [i] _ _ [vxs, .int .i64 i, vys] rfl (by simp [appP]) (List.forall_mem_cons.2 ⟨fun x hx => (fxs x (mem_tk hx)).1, (List.forall_mem_cons.2 ⟨fun x hx => (by cases hx), (List.forall_mem_nil _)⟩)⟩) m w ⟨dxs.1, rfl, dys.1, trivial⟩ (fun id => by match id with | 0 => exact dxs.2 | 1 => exact dys.2 | _ + 2 => trivial) (fun id => by match id with | 0 => rfl | 1 => rfl | _ + 2 => rfl) rfl
  | true =>
    obtain rfl := nxs rfl
    cases bys with
    | false =>
      exact Frame.calls_rows con_law_ConstraintBounds [rowArg true 0 14 [], .int .i64 i, rowArg false 1 5 ys] (fun id => match id with | 0 => .arr false false 14 [] | 1 => .arr false true 5 ys | _ => .dead) [i] _ _ [vxs, .int .i64 i, vys] rfl (by simp [appP]) (List.forall_mem_cons.2 ⟨fun x hx => (by cases hx), (List.forall_mem_cons.2 ⟨fun x hx => (fys x (mem_tk hx)).1, (List.forall_mem_nil _)⟩)⟩) m w ⟨dxs.1, rfl, dys.1, trivial⟩ (fun id => by match id with | 0 => exact dxs.2 | 1 => exact dys.2 | _ + 2 => trivial) (fun id => by match id with | 0 => rfl | 1 => rfl | _ + 2 => rfl) rfl
    | true =>
      obtain rfl := nys rfl
      exact Frame.calls_rows con_law_ConstraintBounds [rowArg true 0 14 [], .int .i64 i, rowArg true 1 5 []] (fun id => match id with | 0 => .arr false false 14 [] | 1 => .arr false false 5 [] | _ => .dead) [i] _ _ [vxs, .int .i64 i, vys] rfl (by simp [appP]) (List.forall_mem_cons.2 ⟨fun x hx => (by cases hx), (List.forall_mem_cons.2 ⟨fun x hx => (by cases hx), (List.forall_mem_nil _)⟩)⟩) m w ⟨dxs.1, rfl, dys.1, trivial⟩ (fun id => by match id with | 0 => exact dxs.2 | 1 => exact dys.2 | _ + 2 => trivial) (fun id => by match id with | 0 => rfl | 1 => rfl | _ + 2 => rfl) rfl
end Go.Proofs.Ytapbegcmdiemoaa
