/- The walk of caromlaw14.SATIncidentEdge. -/
import Derived.Test.YtdoagjphjnbbnaaT3
import Derived.Test.YtdoagjphjnbbnaaFs
namespace Go.Proofs.Ytdoagjphjnbbnaa
open Go.RowKit Fx Vx Bx Ev
set_option linter.unusedVariables false
set_option linter.unusedSimpArgs false

theorem minN_spec (f : Nat → Int) : ∀ n, 0 < n → 0 ≤ (minN f n).1 ∧ (minN f n).1 < n ∧ f (minN f n).1.toNat = (minN f n).2 ∧ (∀ j, j < n → (minN f n).2 ≤ f j) ∧ (∀ j : Nat, (j : Int) < (minN f n).1 → (minN f n).2 < f j)
  | 1, _ => by
    rw [minN_one]
    refine ⟨by simp, by simp, rfl, fun j hj => ?_, fun j hj => ?_⟩
    · obtain rfl : j = 0 := by omega
      simp
    · simp only at hj; omega
  | n + 2, _ => by
    obtain ⟨h1, h2, h3, h4, h5⟩ := minN_spec f (n + 1) (by omega)
    by_cases h : (minN f (n + 1)).1 < 0 ∨ f (n + 1) < (minN f (n + 1)).2
    · rw [minN_yes h]
      have h' : f (n + 1) < (minN f (n + 1)).2 := by omega
      refine ⟨by simp only; omega, by simp only; omega, by simp only [Int.toNat_natCast], fun j hj => ?_, fun j hj => ?_⟩
      · by_cases e : j = n + 1
        · subst e; exact Int.le_refl _
        · have := h4 j (by omega); simp only; omega
      · have := h4 j (by simp only at hj; omega); simp only; omega
    · rw [minN_no h]
      refine ⟨h1, by omega, h3, fun j hj => ?_, h5⟩
      by_cases e : j = n + 1
      · subst e; omega
      · exact h4 j (by omega)
theorem maxN_spec (f : Nat → Int) : ∀ n, 0 < n → 0 ≤ (maxN f n).1 ∧ (maxN f n).1 < n ∧ f (maxN f n).1.toNat = (maxN f n).2 ∧ (∀ j, j < n → f j ≤ (maxN f n).2) ∧ (∀ j : Nat, (j : Int) < (maxN f n).1 → f j < (maxN f n).2)
  | 1, _ => by
    rw [maxN_one]
    refine ⟨by simp, by simp, rfl, fun j hj => ?_, fun j hj => ?_⟩
    · obtain rfl : j = 0 := by omega
      simp
    · simp only at hj; omega
  | n + 2, _ => by
    obtain ⟨h1, h2, h3, h4, h5⟩ := maxN_spec f (n + 1) (by omega)
    by_cases h : (maxN f (n + 1)).1 < 0 ∨ (maxN f (n + 1)).2 < f (n + 1)
    · rw [maxN_yes h]
      have h' : (maxN f (n + 1)).2 < f (n + 1) := by omega
      refine ⟨by simp only; omega, by simp only; omega, by simp only [Int.toNat_natCast], fun j hj => ?_, fun j hj => ?_⟩
      · by_cases e : j = n + 1
        · subst e; exact Int.le_refl _
        · have := h4 j (by omega); simp only; omega
      · have := h4 j (by simp only at hj; omega); simp only; omega
    · rw [maxN_no h]
      refine ⟨h1, by omega, h3, fun j hj => ?_, h5⟩
      by_cases e : j = n + 1
      · subst e; omega
      · exact h4 j (by omega)
theorem ieP_small {ys : List (List Int)} {p q : Int} (h : (ys.length : Int) < 2) : ieP ys p q = -1 := by unfold ieP; rw [if_pos (by omega)]
theorem ieP_spec {ys : List (List Int)} {p q : Int} (h : ¬ (ys.length : Int) < 2) : 0 ≤ ieP ys p q ∧ ieP ys p q < ys.length ∧ (∀ j : Nat, j < ys.length → dot (enX ys (ieP ys p q)) (enY ys (ieP ys p q)) p q ≤ dot (enX ys j) (enY ys j) p q) ∧ (∀ j : Nat, (j : Int) < ieP ys p q → dot (enX ys (ieP ys p q)) (enY ys (ieP ys p q)) p q < dot (enX ys j) (enY ys j) p q) := by
  have e : ieP ys p q = (minN (incD ys p q) ys.length).1 := by unfold ieP; rw [if_neg (by omega)]
  obtain ⟨h1, h2, h3, h4, h5⟩ := minN_spec (incD ys p q) ys.length (by omega)
  rw [← e] at h1 h2 h3 h5
  have e2 : dot (enX ys (ieP ys p q)) (enY ys (ieP ys p q)) p q = (minN (incD ys p q) ys.length).2 := by
    rw [← h3]; unfold incD; rw [Int.toNat_of_nonneg h1]
  rw [e2]
  exact ⟨h1, h2, fun j hj => h4 j hj, fun j hj => h5 j hj⟩

def c_law_SATIncidentEdge : Con := ⟨7, rowRun [.rows 2, .num 2] (fun l R => match l, R with | [p, q], [ys] => [] | _, _ => [False]) fun l R => match l, R with
  | [p, q], [ys] => .bool true
  | _, _ => .any⟩
set_option maxRecDepth 100000 in
set_option maxHeartbeats 8000000 in
theorem con_law_SATIncidentEdge : c_law_SATIncidentEdge.Ok Try.prog := by
  refine con_rows (C := [c_sat_IncidentEdge, c_sat_EdgeNormal, c_ref03_Dot, c_law14_example]) (pl := [(8, [0, 1, 2, 3, 4, 5], [0, 0, 3, 0, 15, 31]), (12, [0, 1, 2, 3, 4, 5], [0, 0, 3, 0, 15, 31])]) Try.func7 rfl (by kernel_rfl) T_ok (Cons.cons con_sat_IncidentEdge (Cons.cons con_sat_EdgeNormal (Cons.cons con_ref03_Dot (Cons.cons con_law14_example (Cons.nil _))))) mixed (by kernel_rfl) _ _ _ (fun l R hl hR hn hpre => ?_)
  match l, hl, R, hR with
  | [p, q], zl, [(true, ys)], zr =>
    clear zl zr
    obtain rfl : ys = [] := hn _ (List.Mem.head _) rfl
    repeat' (first | (with_reducible refine And.intro ?_ ?_) | (with_reducible intro h) | ((fail_if_success (with_reducible refine Leaf.mk ?_)); (fail_if_success (with_reducible refine VC.mk ?_)); (fail_if_success (with_reducible refine Goes.mk ?_)); (fail_if_success (with_reducible refine Again.mk ?_)); (fail_if_success (with_reducible refine Rounds.mk ?_)); (fail_if_success (with_reducible show False)); (fail_if_success (with_reducible show True)); conv => whnf))
    all_goals try simp only [decide_eq_true_eq, decide_eq_false_iff_not, tkA, Nat.zero_add, Int.toNat_natCast] at *
    all_goals try first | exact trivial | (show False; omega) | exact Leaf.mk trivial | exact Leaf.mk rfl | (refine VC.mk ?_; first | trivial | assumption | ((try simp only [InR, decide_eq_true_eq, decide_eq_false_iff_not] at *); omega) | (simp; done))
    all_goals (refine Leaf.mk ?_; exfalso; have := @ieP_small [] p q (by simp); omega)
  | [p, q], zl, [(false, ys)], zr =>
    clear zl zr
    repeat' (first | (with_reducible refine And.intro ?_ ?_) | (with_reducible intro h) | ((fail_if_success (with_reducible refine Leaf.mk ?_)); (fail_if_success (with_reducible refine VC.mk ?_)); (fail_if_success (with_reducible refine Goes.mk ?_)); (fail_if_success (with_reducible refine Again.mk ?_)); (fail_if_success (with_reducible refine Rounds.mk ?_)); (fail_if_success (with_reducible show False)); (fail_if_success (with_reducible show True)); conv => whnf))
    all_goals try simp only [decide_eq_true_eq, decide_eq_false_iff_not, tkA, Nat.zero_add, Int.toNat_natCast] at *
    all_goals try first | exact trivial | (show False; omega) | exact Leaf.mk trivial | exact Leaf.mk rfl | (refine VC.mk ?_; first | trivial | assumption | ((try simp only [InR, decide_eq_true_eq, decide_eq_false_iff_not] at *); omega) | (simp; done))
    all_goals try (refine Leaf.mk ?_; exfalso; have := @ieP_small ys p q (by omega); omega)
    all_goals try (refine Leaf.mk ?_; exfalso; have := @ieP_spec ys p q (by omega); omega)
    all_goals try (refine VC.mk ?_; have := @ieP_spec ys p q (by omega); first | omega | exact ⟨rfl, by omega⟩)
    have hs := @ieP_spec ys p q (by omega)
    obtain ⟨hs1, hs2, hs3, hs4⟩ := hs
    refine goes_inv (X := Nat) (pl := [(8, [0, 1, 2, 3, 4, 5], [0, 0, 3, 0, 15, 31]), (12, [0, 1, 2, 3, 4, 5], [0, 0, 3, 0, 15, 31])]) T_ok (Cons.cons con_sat_IncidentEdge (Cons.cons con_sat_EdgeNormal (Cons.cons con_ref03_Dot (Cons.cons con_law14_example (Cons.nil _))))) mixed (by kernel_rfl)
      (fun k => (.sl 0 2 0 ys.length :: .any :: .any :: .ptr 1 0 :: .any :: .int .i64 (ieP ys p q) :: .int .i64 (dot (enX ys (ieP ys p q)) (enY ys (ieP ys p q)) p q) :: .int .i64 (k : Int) :: .any :: .any :: .any :: .any :: .any :: .any :: .any :: .any :: .any :: .any :: .any :: .any :: .any :: .any :: .any :: .any :: .any :: .any :: .any :: .any :: .any :: .any :: .any :: .any :: .any :: .any :: .any :: .any :: .any :: .any :: .any :: .any :: .any :: .any :: .any :: .any :: .any :: .any :: .any :: .any :: .any :: .any :: .any :: .any :: .any :: .any :: .any :: .any :: .any :: .any :: .any :: .any :: .any :: .any :: [], [.arr false true 2 ys, .cells [.int .i64 p, .int .i64 q]]))
      (fun k => k ≤ ys.length) (fun k => ys.length - k) 0 [0, 1] (Nat.zero_le _) ?_ ?_ ?_
    · repeat' (first | (with_reducible refine And.intro ?_ ?_) | (with_reducible intro h) | ((fail_if_success (with_reducible refine Leaf.mk ?_)); (fail_if_success (with_reducible refine VC.mk ?_)); (fail_if_success (with_reducible refine Goes.mk ?_)); (fail_if_success (with_reducible refine Again.mk ?_)); (fail_if_success (with_reducible refine Rounds.mk ?_)); (fail_if_success (with_reducible show False)); (fail_if_success (with_reducible show True)); conv => whnf))
      all_goals first | exact trivial | (refine Leaf.mk ?_; first | rfl | exact ⟨rfl, rfl⟩ | (simp; done))
    · repeat' (first | (with_reducible refine And.intro ?_ ?_) | (with_reducible intro h) | ((fail_if_success (with_reducible refine Leaf.mk ?_)); (fail_if_success (with_reducible refine VC.mk ?_)); (fail_if_success (with_reducible refine Goes.mk ?_)); (fail_if_success (with_reducible refine Again.mk ?_)); (fail_if_success (with_reducible refine Rounds.mk ?_)); (fail_if_success (with_reducible show False)); (fail_if_success (with_reducible show True)); conv => whnf))
      all_goals first | exact trivial | (refine Leaf.mk ?_; first | rfl | exact ⟨rfl, rfl⟩ | (simp; done))
    · intro k hx
      repeat' (first | (with_reducible refine And.intro ?_ ?_) | (with_reducible intro h) | ((fail_if_success (with_reducible refine Leaf.mk ?_)); (fail_if_success (with_reducible refine VC.mk ?_)); (fail_if_success (with_reducible refine Goes.mk ?_)); (fail_if_success (with_reducible refine Again.mk ?_)); (fail_if_success (with_reducible refine Rounds.mk ?_)); (fail_if_success (with_reducible show False)); (fail_if_success (with_reducible show True)); conv => whnf))
      all_goals try simp only [decide_eq_true_eq, decide_eq_false_iff_not, tkA, Nat.zero_add, Int.toNat_natCast] at *
      all_goals try first | exact trivial | (show False; omega) | exact Leaf.mk trivial | exact Leaf.mk rfl | (refine VC.mk ?_; first | trivial | assumption | ((try simp only [InR, decide_eq_true_eq, decide_eq_false_iff_not] at *); omega) | (simp; done))
      all_goals first
        | (refine Leaf.mk ?_; exfalso; have h1 := hs3 k (by omega); have h2 := hs4 k; omega)
        | (have hlt : k < ys.length := by omega
           (refine Again.mk ⟨k + 1, [0, 1], hlt, (by omega), ?_, ?_⟩ <;> (repeat' (first | (with_reducible refine And.intro ?_ ?_) | (with_reducible intro h) | ((fail_if_success (with_reducible refine Leaf.mk ?_)); (fail_if_success (with_reducible refine VC.mk ?_)); (fail_if_success (with_reducible refine Goes.mk ?_)); (fail_if_success (with_reducible refine Again.mk ?_)); (fail_if_success (with_reducible refine Rounds.mk ?_)); (fail_if_success (with_reducible show False)); (fail_if_success (with_reducible show True)); conv => whnf))) <;> first | exact trivial | (refine Leaf.mk ?_; first | rfl | exact ⟨rfl, rfl⟩ | (simp; done))))

theorem walk_SATIncidentEdge (p q : Int) (bys : Bool) (ys : List (List Int)) (w : World) (m : Ev.Map) (vys : Value) (nys : bys = true → ys = []) (fys : ∀ x ∈ ys, x.length = 2 ∧ ∀ y ∈ x, -9223372036854775808 ≤ y ∧ y ≤ 9223372036854775807) (dys : Den m (rowArg bys 0 2 ys) vys ∧ BlkH m 0 w (.arr false (!bys) 2 ys)) :
    Calls Try.prog 7 #[vys, .agg #[.int .i64 p, .int .i64 q]] w fun e w' => e = .returned (.bool true) ∧ Below w.heap.size w w' := by
  cases bys with
  | false =>
    exact Frame.calls_rows con_law_SATIncidentEdge [rowArg false 0 2 ys, .agg [.int .i64 p, .int .i64 q]] (fun id => match id with | 0 => .arr false true 2 ys | _ => .dead) [p, q] _ _ [vys, .agg #[.int .i64 p, .int .i64 q]] rfl (by simp [appP]) (fun p hp => (by cases hp)) m w ⟨dys.1, ⟨_, rfl, rfl, rfl, trivial⟩, trivial⟩ (fun id => by match id with | 0 => exact dys.2 | _ + 1 => trivial) (fun id => by match id with | 0 => rfl | _ + 1 => rfl) rfl
  | true =>
    obtain rfl := nys rfl
    exact Frame.calls_rows con_law_SATIncidentEdge [rowArg true 0 2 [], .agg [.int .i64 p, .int .i64 q]] (fun id => match id with | 0 => .arr false false 2 [] | _ => .dead) [p, q] _ _ [vys, .agg #[.int .i64 p, .int .i64 q]] rfl (by simp [appP]) (fun p hp => (by cases hp)) m w ⟨dys.1, ⟨_, rfl, rfl, rfl, trivial⟩, trivial⟩ (fun id => by match id with | 0 => exact dys.2 | _ + 1 => trivial) (fun id => by match id with | 0 => rfl | _ + 1 => rfl) rfl
end Go.Proofs.Ytdoagjphjnbbnaa
