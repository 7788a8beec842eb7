/- The walk of caromlaw35.SolverIterations. -/
import Derived.Test.YtapbegcmdiemoaaD8
import Derived.Test.YtapbegcmdiemoaaFs
namespace Go.Proofs.Ytapbegcmdiemoaa
open Go.RowKit Fx Vx Ev
set_option linter.unusedVariables false
set_option linter.unusedSimpArgs false

theorem itC_in {n : Int} (h : 0 ≤ n) (h' : n ≤ 32) : (itC n : Int) = n := by
  unfold itC clamp; rw [if_neg (by omega), if_neg (by omega)]; omega
theorem itC_succ {n : Int} (h : 0 ≤ n) (h' : n < 32) : itC (n + 1) = itC n + 1 := by
  have h1 := itC_in h (by omega)
  have h2 := itC_in (n := n + 1) (by omega) (by omega)
  omega
theorem itC_low {n : Int} (h : n ≤ 0) : itC n = itC 0 := by
  have : clamp n 0 32 = clamp 0 0 32 := by unfold clamp; split <;> split <;> (try split) <;> (try split) <;> omega
  unfold itC; rw [this]
theorem itC_high {n : Int} (h : 32 ≤ n) : itC n = itC 32 := by
  have : clamp n 0 32 = clamp 32 0 32 := by unfold clamp; split <;> split <;> (try split) <;> (try split) <;> omega
  unfold itC; rw [this]
theorem se_succ (xs ys : List (List Int)) {u : Int} (h : 0 ≤ u) : itN (seN xs ys (itC (u.tmod 32))).1 (seN xs ys (itC (u.tmod 32))).2 xs.length = seN xs ys (itC (u.tmod 32 + 1)) := by
  have h1 : 0 ≤ u.tmod 32 := Int.tmod_nonneg _ h
  have h2 : u.tmod 32 < 32 := Int.tmod_lt_of_pos _ (by decide)
  rw [itC_succ h1 h2, seN]
  unfold itA; rw [seN_len1]

def c_law_SolverIterations : Con := ⟨13, rowRun [.rows 14, .rows 5, .u8, .num 0] (fun l R => match l, R with | [u, n], [xs, ys] => [∀ x ∈ xs, x.length = 14, ∀ x ∈ ys, x.length = 5, 0 ≤ u ∧ u ≤ 255] | _, _ => [False]) fun l R => match l, R with
  | [u, n], [xs, ys] => .bool true
  | _, _ => .any⟩
attribute [local irreducible] seN itA itC itN wsN clN solR solB
set_option maxRecDepth 100000 in
set_option maxHeartbeats 8000000 in
theorem con_law_SolverIterations : c_law_SolverIterations.Ok Try.prog := by
  refine con_rows (C := [c_law35_small, c_solver_Solve, c_solver_Iterate, c_ref29_EqualRows, c_ref35_EqualBodies, c_law35_example]) (pl := []) Try.func13 rfl (by kernel_rfl) T_ok (Cons.cons con_law35_small (Cons.cons con_solver_Solve (Cons.cons con_solver_Iterate (Cons.cons con_ref29_EqualRows (Cons.cons con_ref35_EqualBodies (Cons.cons con_law35_example (Cons.nil _))))))) mixed (by kernel_rfl) _ _ _ (fun l R hl hR hn hpre => ?_)
  match l, hl, R, hR with
  | [u, n], zl, [(true, xs), (true, ys)], zr =>
    clear zl zr
    obtain rfl : xs = [] := hn _ (List.Mem.head _) rfl
    obtain rfl : ys = [] := hn _ (List.Mem.tail _ (List.Mem.head _)) rfl
    have hp0 := hpre _ (List.Mem.head _); try dsimp only at hp0
    have hp1 := hpre _ (List.Mem.tail _ (List.Mem.head _)); try dsimp only at hp1
    have hp2 := hpre _ (List.Mem.tail _ (List.Mem.tail _ (List.Mem.head _))); try dsimp only at hp2
    have hu : 0 ≤ u := hp2.1
    have t1 : 0 ≤ u.tmod 32 := Int.tmod_nonneg _ hu
    have t2 : u.tmod 32 < 32 := Int.tmod_lt_of_pos _ (by decide)
    repeat' (first | (with_reducible refine And.intro ?_ ?_) | (with_reducible intro h) | ((fail_if_success (with_reducible refine Leaf.mk ?_)); (fail_if_success (with_reducible refine VC.mk ?_)); (fail_if_success (with_reducible refine Goes.mk ?_)); (fail_if_success (with_reducible refine Again.mk ?_)); (fail_if_success (with_reducible refine Rounds.mk ?_)); (fail_if_success (with_reducible show False)); (fail_if_success (with_reducible show True)); conv => whnf))
    all_goals try simp only [decide_eq_true_eq, decide_eq_false_iff_not, tkA, tkL, Nat.zero_add, Nat.reduceAdd, Int.toNat_natCast, List.take_nil, List.nil_append] at *
    all_goals try simp only [Bool.not_eq_true', Bool.not_eq_false', Bool.and_eq_true, Bool.and_eq_false_imp, decide_eq_true_eq, decide_eq_false_iff_not] at *
    all_goals try simp only [tkL, tkc, tkw, tki, tkj, tks, tkt, clN_len, wsN_len, ap_len, solR_len, solB_len, itN_len1, itN_len2, seN_len1, seN_len2, Nat.zero_add] at *
    all_goals try first | exact trivial | (show False; omega) | exact Leaf.mk trivial | exact Leaf.mk rfl | (refine VC.mk ?_; first | trivial | assumption | ((try simp only [InR, decide_eq_true_eq, decide_eq_false_iff_not] at *); omega) | (simp; done))
    all_goals try (refine VC.mk ?_; first | trivial | (first | assumption | exact wf_nil _ | exact wsN_wf _ (by first | assumption | exact wf_nil _) _ | exact clN_wf (by first | assumption | exact wf_nil _) _ | exact (itN_wf (by first | assumption | exact wf_nil _) (by first | assumption | exact wf_nil _) _).1 | exact (itN_wf (by first | assumption | exact wf_nil _) (by first | assumption | exact wf_nil _) _).2 | exact (seN_wf (by first | assumption | exact wf_nil _) (by first | assumption | exact wf_nil _) _).1 | exact (seN_wf (by first | assumption | exact wf_nil _) (by first | assumption | exact wf_nil _) _).2) | (simp only [List.length_nil] at *; omega) | omega | (generalize decide _ = bb; cases bb <;> simp) | (intro hh; generalize decide _ = bb at *; cases bb <;> simp_all) | (simp; done))
    all_goals try (refine VC.mk ?_; first | (simp only [InR]; omega) | omega | (generalize decide _ = bb; cases bb <;> simp) | (rcases Nat.eq_zero_or_pos ([] : List (List Int)).length with e0 | e0 <;> simp [e0] <;> omega) | (simp; omega))
    all_goals try (have E := se_succ ([] : List (List Int)) ([] : List (List Int)) hu; refine Leaf.mk ?_; exfalso; first | exact absurd (congrArg Prod.fst E) (by assumption) | exact absurd (congrArg Prod.snd E) (by assumption))
    all_goals try (have e := itC_low (n := n) (by omega); refine Leaf.mk ?_; exfalso; first | exact absurd (congrArg (fun k => (seN ([] : List (List Int)) ([] : List (List Int)) k).1) e) (by assumption) | exact absurd (congrArg (fun k => (seN ([] : List (List Int)) ([] : List (List Int)) k).2) e) (by assumption))
    all_goals try (have e := itC_high (n := n) (by omega); refine Leaf.mk ?_; exfalso; first | exact absurd (congrArg (fun k => (seN ([] : List (List Int)) ([] : List (List Int)) k).1) e) (by assumption) | exact absurd (congrArg (fun k => (seN ([] : List (List Int)) ([] : List (List Int)) k).2) e) (by assumption))
  | [u, n], zl, [(true, xs), (false, ys)], zr =>
    clear zl zr
    obtain rfl : xs = [] := hn _ (List.Mem.head _) rfl
    have hp0 := hpre _ (List.Mem.head _); try dsimp only at hp0
    have hp1 := hpre _ (List.Mem.tail _ (List.Mem.head _)); try dsimp only at hp1
    have hp2 := hpre _ (List.Mem.tail _ (List.Mem.tail _ (List.Mem.head _))); try dsimp only at hp2
    have hu : 0 ≤ u := hp2.1
    have t1 : 0 ≤ u.tmod 32 := Int.tmod_nonneg _ hu
    have t2 : u.tmod 32 < 32 := Int.tmod_lt_of_pos _ (by decide)
    repeat' (first | (with_reducible refine And.intro ?_ ?_) | (with_reducible intro h) | ((fail_if_success (with_reducible refine Leaf.mk ?_)); (fail_if_success (with_reducible refine VC.mk ?_)); (fail_if_success (with_reducible refine Goes.mk ?_)); (fail_if_success (with_reducible refine Again.mk ?_)); (fail_if_success (with_reducible refine Rounds.mk ?_)); (fail_if_success (with_reducible show False)); (fail_if_success (with_reducible show True)); conv => whnf))
    all_goals try simp only [decide_eq_true_eq, decide_eq_false_iff_not, tkA, tkL, Nat.zero_add, Nat.reduceAdd, Int.toNat_natCast, List.take_nil, List.nil_append] at *
    all_goals try simp only [Bool.not_eq_true', Bool.not_eq_false', Bool.and_eq_true, Bool.and_eq_false_imp, decide_eq_true_eq, decide_eq_false_iff_not] at *
    all_goals try simp only [tkL, tkc, tkw, tki, tkj, tks, tkt, clN_len, wsN_len, ap_len, solR_len, solB_len, itN_len1, itN_len2, seN_len1, seN_len2, Nat.zero_add] at *
    all_goals try first | exact trivial | (show False; omega) | exact Leaf.mk trivial | exact Leaf.mk rfl | (refine VC.mk ?_; first | trivial | assumption | ((try simp only [InR, decide_eq_true_eq, decide_eq_false_iff_not] at *); omega) | (simp; done))
    all_goals try (refine VC.mk ?_; first | trivial | (first | assumption | exact wf_nil _ | exact wsN_wf _ (by first | assumption | exact wf_nil _) _ | exact clN_wf (by first | assumption | exact wf_nil _) _ | exact (itN_wf (by first | assumption | exact wf_nil _) (by first | assumption | exact wf_nil _) _).1 | exact (itN_wf (by first | assumption | exact wf_nil _) (by first | assumption | exact wf_nil _) _).2 | exact (seN_wf (by first | assumption | exact wf_nil _) (by first | assumption | exact wf_nil _) _).1 | exact (seN_wf (by first | assumption | exact wf_nil _) (by first | assumption | exact wf_nil _) _).2) | (simp only [List.length_nil] at *; omega) | omega | (generalize decide _ = bb; cases bb <;> simp) | (intro hh; generalize decide _ = bb at *; cases bb <;> simp_all) | (simp; done))
    all_goals try (refine VC.mk ?_; first | (simp only [InR]; omega) | omega | (generalize decide _ = bb; cases bb <;> simp) | (rcases Nat.eq_zero_or_pos ([] : List (List Int)).length with e0 | e0 <;> simp [e0] <;> omega) | (simp; omega))
    all_goals try (have E := se_succ ([] : List (List Int)) ys hu; refine Leaf.mk ?_; exfalso; first | exact absurd (congrArg Prod.fst E) (by assumption) | exact absurd (congrArg Prod.snd E) (by assumption))
    all_goals try (have e := itC_low (n := n) (by omega); refine Leaf.mk ?_; exfalso; first | exact absurd (congrArg (fun k => (seN ([] : List (List Int)) ys k).1) e) (by assumption) | exact absurd (congrArg (fun k => (seN ([] : List (List Int)) ys k).2) e) (by assumption))
    all_goals try (have e := itC_high (n := n) (by omega); refine Leaf.mk ?_; exfalso; first | exact absurd (congrArg (fun k => (seN ([] : List (List Int)) ys k).1) e) (by assumption) | exact absurd (congrArg (fun k => (seN ([] : List (List Int)) ys k).2) e) (by assumption))
  | [u, n], zl, [(false, xs), (true, ys)], zr =>
    clear zl zr
    obtain rfl : ys = [] := hn _ (List.Mem.tail _ (List.Mem.head _)) rfl
    have hp0 := hpre _ (List.Mem.head _); try dsimp only at hp0
    have hp1 := hpre _ (List.Mem.tail _ (List.Mem.head _)); try dsimp only at hp1
    have hp2 := hpre _ (List.Mem.tail _ (List.Mem.tail _ (List.Mem.head _))); try dsimp only at hp2
    have hu : 0 ≤ u := hp2.1
    have t1 : 0 ≤ u.tmod 32 := Int.tmod_nonneg _ hu
    have t2 : u.tmod 32 < 32 := Int.tmod_lt_of_pos _ (by decide)
    repeat' (first | (with_reducible refine And.intro ?_ ?_) | (with_reducible intro h) | ((fail_if_success (with_reducible refine Leaf.mk ?_)); (fail_if_success (with_reducible refine VC.mk ?_)); (fail_if_success (with_reducible refine Goes.mk ?_)); (fail_if_success (with_reducible refine Again.mk ?_)); (fail_if_success (with_reducible refine Rounds.mk ?_)); (fail_if_success (with_reducible show False)); (fail_if_success (with_reducible show True)); conv => whnf))
    all_goals try simp only [decide_eq_true_eq, decide_eq_false_iff_not, tkA, tkL, Nat.zero_add, Nat.reduceAdd, Int.toNat_natCast, List.take_nil, List.nil_append] at *
    all_goals try simp only [Bool.not_eq_true', Bool.not_eq_false', Bool.and_eq_true, Bool.and_eq_false_imp, decide_eq_true_eq, decide_eq_false_iff_not] at *
    all_goals try simp only [tkL, tkc, tkw, tki, tkj, tks, tkt, clN_len, wsN_len, ap_len, solR_len, solB_len, itN_len1, itN_len2, seN_len1, seN_len2, Nat.zero_add] at *
    all_goals try first | exact trivial | (show False; omega) | exact Leaf.mk trivial | exact Leaf.mk rfl | (refine VC.mk ?_; first | trivial | assumption | ((try simp only [InR, decide_eq_true_eq, decide_eq_false_iff_not] at *); omega) | (simp; done))
    all_goals try (refine VC.mk ?_; first | trivial | (first | assumption | exact wf_nil _ | exact wsN_wf _ (by first | assumption | exact wf_nil _) _ | exact clN_wf (by first | assumption | exact wf_nil _) _ | exact (itN_wf (by first | assumption | exact wf_nil _) (by first | assumption | exact wf_nil _) _).1 | exact (itN_wf (by first | assumption | exact wf_nil _) (by first | assumption | exact wf_nil _) _).2 | exact (seN_wf (by first | assumption | exact wf_nil _) (by first | assumption | exact wf_nil _) _).1 | exact (seN_wf (by first | assumption | exact wf_nil _) (by first | assumption | exact wf_nil _) _).2) | (simp only [List.length_nil] at *; omega) | omega | (generalize decide _ = bb; cases bb <;> simp) | (intro hh; generalize decide _ = bb at *; cases bb <;> simp_all) | (simp; done))
    all_goals try (refine VC.mk ?_; first | (simp only [InR]; omega) | omega | (generalize decide _ = bb; cases bb <;> simp) | (rcases Nat.eq_zero_or_pos xs.length with e0 | e0 <;> simp [e0] <;> omega) | (simp; omega))
    all_goals try (have E := se_succ xs ([] : List (List Int)) hu; refine Leaf.mk ?_; exfalso; first | exact absurd (congrArg Prod.fst E) (by assumption) | exact absurd (congrArg Prod.snd E) (by assumption))
    all_goals try (have e := itC_low (n := n) (by omega); refine Leaf.mk ?_; exfalso; first | exact absurd (congrArg (fun k => (seN xs ([] : List (List Int)) k).1) e) (by assumption) | exact absurd (congrArg (fun k => (seN xs ([] : List (List Int)) k).2) e) (by assumption))
    all_goals try (have e := itC_high (n := n) (by omega); refine Leaf.mk ?_; exfalso; first | exact absurd (congrArg (fun k => (seN xs ([] : List (List Int)) k).1) e) (by assumption) | exact absurd (congrArg (fun k => (seN xs ([] : List (List Int)) k).2) e) (by assumption))
  | [u, n], zl, [(false, xs), (false, ys)], zr =>
    clear zl zr
    have hp0 := hpre _ (List.Mem.head _); try dsimp only at hp0
    have hp1 := hpre _ (List.Mem.tail _ (List.Mem.head _)); try dsimp only at hp1
    have hp2 := hpre _ (List.Mem.tail _ (List.Mem.tail _ (List.Mem.head _))); try dsimp only at hp2
    have hu : 0 ≤ u := hp2.1
    have t1 : 0 ≤ u.tmod 32 := Int.tmod_nonneg _ hu
    have t2 : u.tmod 32 < 32 := Int.tmod_lt_of_pos _ (by decide)
    repeat' (first | (with_reducible refine And.intro ?_ ?_) | (with_reducible intro h) | ((fail_if_success (with_reducible refine Leaf.mk ?_)); (fail_if_success (with_reducible refine VC.mk ?_)); (fail_if_success (with_reducible refine Goes.mk ?_)); (fail_if_success (with_reducible refine Again.mk ?_)); (fail_if_success (with_reducible refine Rounds.mk ?_)); (fail_if_success (with_reducible show False)); (fail_if_success (with_reducible show True)); conv => whnf))
    all_goals try simp only [decide_eq_true_eq, decide_eq_false_iff_not, tkA, tkL, Nat.zero_add, Nat.reduceAdd, Int.toNat_natCast, List.take_nil, List.nil_append] at *
    all_goals try simp only [Bool.not_eq_true', Bool.not_eq_false', Bool.and_eq_true, Bool.and_eq_false_imp, decide_eq_true_eq, decide_eq_false_iff_not] at *
    all_goals try simp only [tkL, tkc, tkw, tki, tkj, tks, tkt, clN_len, wsN_len, ap_len, solR_len, solB_len, itN_len1, itN_len2, seN_len1, seN_len2, Nat.zero_add] at *
    all_goals try first | exact trivial | (show False; omega) | exact Leaf.mk trivial | exact Leaf.mk rfl | (refine VC.mk ?_; first | trivial | assumption | ((try simp only [InR, decide_eq_true_eq, decide_eq_false_iff_not] at *); omega) | (simp; done))
    all_goals try (refine VC.mk ?_; first | trivial | (first | assumption | exact wf_nil _ | exact wsN_wf _ (by first | assumption | exact wf_nil _) _ | exact clN_wf (by first | assumption | exact wf_nil _) _ | exact (itN_wf (by first | assumption | exact wf_nil _) (by first | assumption | exact wf_nil _) _).1 | exact (itN_wf (by first | assumption | exact wf_nil _) (by first | assumption | exact wf_nil _) _).2 | exact (seN_wf (by first | assumption | exact wf_nil _) (by first | assumption | exact wf_nil _) _).1 | exact (seN_wf (by first | assumption | exact wf_nil _) (by first | assumption | exact wf_nil _) _).2) | (simp only [List.length_nil] at *; omega) | omega | (generalize decide _ = bb; cases bb <;> simp) | (intro hh; generalize decide _ = bb at *; cases bb <;> simp_all) | (simp; done))
    all_goals try (refine VC.mk ?_; first | (simp only [InR]; omega) | omega | (generalize decide _ = bb; cases bb <;> simp) | (rcases Nat.eq_zero_or_pos xs.length with e0 | e0 <;> simp [e0] <;> omega) | (simp; omega))
    all_goals try (have E := se_succ xs ys hu; refine Leaf.mk ?_; exfalso; first | exact absurd (congrArg Prod.fst E) (by assumption) | exact absurd (congrArg Prod.snd E) (by assumption))
    all_goals try (have e := itC_low (n := n) (by omega); refine Leaf.mk ?_; exfalso; first | exact absurd (congrArg (fun k => (seN xs ys k).1) e) (by assumption) | exact absurd (congrArg (fun k => (seN xs ys k).2) e) (by assumption))
    all_goals try (have e := itC_high (n := n) (by omega); refine Leaf.mk ?_; exfalso; first | exact absurd (congrArg (fun k => (seN xs ys k).1) e) (by assumption) | exact absurd (congrArg (fun k => (seN xs ys k).2) e) (by assumption))

theorem walk_SolverIterations (u n : Int) (bxs : Bool) (xs : List (List Int)) (bys : Bool) (ys : List (List Int)) (w : World) (m : Ev.Map) (vxs vys : Value) (nxs : bxs = true → xs = []) (nys : bys = true → ys = []) (fxs : ∀ x ∈ xs, x.length = 14 ∧ ∀ y ∈ x, -9223372036854775808 ≤ y ∧ y ≤ 9223372036854775807) (fys : ∀ x ∈ ys, x.length = 5 ∧ ∀ y ∈ x, -9223372036854775808 ≤ y ∧ y ≤ 9223372036854775807) (dxs : Den m (rowArg bxs 0 14 xs) vxs ∧ BlkH m 0 w (.arr false (!bxs) 14 xs)) (dys : Den m (rowArg bys 1 5 ys) vys ∧ BlkH m 1 w (.arr false (!bys) 5 ys)) (uu : 0 ≤ u ∧ u ≤ 255) :
    Calls Try.prog 13 #[vxs, vys, .int .u8 u, .int .i64 n] w fun e w' => e = .returned (.bool true) ∧ Below w.heap.size w w' := by
  cases bxs with
  | false =>
    cases bys with
    | false =>
      exact Frame.calls_rows con_law_SolverIterations [rowArg false 0 14 xs, rowArg false 1 5 ys, .int .u8 u, .int .i64 n] (fun id => match id with | 0 => .arr false true 14 xs | 1 => .arr false true 5 ys | _ => .dead) [u, n] _ _ [vxs, vys, .int .u8 u, .int .i64 n] rfl (by simp [appP]) (List.forall_mem_cons.2 ⟨fun x hx => (fxs x (mem_tk hx)).1, (List.forall_mem_cons.2 ⟨fun x hx => (fys x (mem_tk hx)).1, (List.forall_mem_cons.2 ⟨uu, (List.forall_mem_nil _)⟩)⟩)⟩) m w ⟨dxs.1, dys.1, rfl, rfl, trivial⟩ (fun id => by match id with | 0 => exact dxs.2 | 1 => exact dys.2 | _ + 2 => trivial) (fun id => by match id with | 0 => rfl | 1 => rfl | _ + 2 => rfl) rfl
    | true =>
      obtain rfl := nys rfl
      exact Frame.calls_rows con_law_SolverIterations [rowArg false 0 14 xs, rowArg true 1 5 [], .int .u8 u, .int .i64 n] (fun id => match id with | 0 => .arr false true 14 xs | 1 => .arr false false 5 [] | _ => .dead) [u, n] _ _ [vxs, vys, .int .u8 u, .int .i64 n] rfl (by simp [appP]) (List.forall_mem_cons.2 ⟨fun x hx => (fxs x (mem_tk hx)).1, (List.forall_mem_cons.2 ⟨fun x hx => (by cases hx), (List.forall_mem_cons.2 ⟨uu, (List.forall_mem_nil _)⟩)⟩)⟩) m w ⟨dxs.1, dys.1, rfl, rfl, trivial⟩ (fun id => by match id with | 0 => exact dxs.2 | 1 => exact dys.2 | _ + 2 => trivial) (fun id => by match id with | 0 => rfl | 1 => rfl | _ + 2 => rfl) rfl
  | true =>
    obtain rfl := nxs rfl
    cases bys with
    | false =>
      exact Frame.calls_rows con_law_SolverIterations [rowArg true 0 14 [], rowArg false 1 5 ys, .int .u8 u, .int .i64 n] (fun id => match id with | 0 => .arr false false 14 [] | 1 => .arr false true 5 ys | _ => .dead) [u, n] _ _ [vxs, vys, .int .u8 u, .int .i64 n] rfl (by simp [appP]) (List.forall_mem_cons.2 ⟨fun x hx => (by cases hx), (List.forall_mem_cons.2 ⟨fun x hx => (fys x (mem_tk hx)).1, (List.forall_mem_cons.2 ⟨uu, (List.forall_mem_nil _)⟩)⟩)⟩) m w ⟨dxs.1, dys.1, rfl, rfl, trivial⟩ (fun id => by match id with | 0 => exact dxs.2 | 1 => exact dys.2 | _ + 2 => trivial) (fun id => by match id with | 0 => rfl | 1 => rfl | _ + 2 => rfl) rfl
    | true =>
      obtain rfl := nys rfl
      exact Frame.calls_rows con_law_SolverIterations [rowArg true 0 14 [], rowArg true 1 5 [], .int .u8 u, .int .i64 n] (fun id => match id with | 0 => .arr false false 14 [] | 1 => .arr false false 5 [] | _ => .dead) [u, n] _ _ [vxs, vys, .int .u8 u, .int .i64 n] rfl (by simp [appP]) (List.forall_mem_cons.2 ⟨fun x hx => (by cases hx), (List.forall_mem_cons.2 ⟨fun x hx => (by cases hx), (List.forall_mem_cons.2 ⟨uu, (List.forall_mem_nil _)⟩)⟩)⟩) m w ⟨dxs.1, dys.1, rfl, rfl, trivial⟩ (fun id => by match id with | 0 => exact dxs.2 | 1 => exact dys.2 | _ + 2 => trivial) (fun id => by match id with | 0 => rfl | 1 => rfl | _ + 2 => rfl) rfl
end Go.Proofs.Ytapbegcmdiemoaa
