/- Contracts of package sat and of caromref14. -/
import Derived.Test.YtohjifnkajhhnaaGreatKA
import Derived.Test.YtohjifnkajhhnaaGreatKc
namespace Go.Proofs.YtohjifnkajhhnaaGreat
open Go.RowKit Fx Vx Bx Ev
set_option linter.unusedVariables false
set_option linter.unusedSimpArgs false


def okE (xs : List (List Int)) (i : Int) : Bool := decide (2 ≤ xs.length) && decide (0 ≤ i) && decide (i < xs.length)
def edgC (xs : List (List Int)) (i : Int) (j : Nat) : Int := sub (at2 xs ((i + 1).tmod xs.length).toNat j) (at2 xs i.toNat j)
def edg (xs : List (List Int)) (i : Int) (j : Nat) : Int := if okE xs i then edgC xs i j else 0
/-- Normal and direction of an edge. -/
def enX (xs : List (List Int)) (i : Int) : Int := if okE xs i then norm (edgC xs i 1) (-edgC xs i 0) (edgC xs i 1) else 0
def enY (xs : List (List Int)) (i : Int) : Int := if okE xs i then norm (edgC xs i 1) (-edgC xs i 0) (-edgC xs i 0) else 0
def edX (xs : List (List Int)) (i : Int) : Int := if okE xs i then norm (edgC xs i 0) (edgC xs i 1) (edgC xs i 0) else 0
def edY (xs : List (List Int)) (i : Int) : Int := if okE xs i then norm (edgC xs i 0) (edgC xs i 1) (edgC xs i 1) else 0
theorem okE_of {xs : List (List Int)} {i : Int} (h1 : 2 ≤ xs.length) (h2 : 0 ≤ i) (h3 : i < xs.length) : okE xs i = true := by simp [okE, h1, h2, h3]
theorem okE_no {xs : List (List Int)} {i : Int} (h : (xs.length : Int) < 2 ∨ i < 0 ∨ (xs.length : Int) ≤ i) : okE xs i = false := by
  cases e : okE xs i
  · rfl
  · simp only [okE, Bool.and_eq_true, decide_eq_true_eq] at e; omega
theorem tkA (xs : List (List Int)) : List.take xs.length (List.drop 0 xs) = xs := by simp
theorem edg_bd (xs : List (List Int)) (i : Int) (j : Nat) : -536870911 ≤ edg xs i j ∧ edg xs i j ≤ 536870911 := by
  unfold edg; split
  · exact ⟨sub_lo _ _, sub_hi _ _⟩
  · omega
theorem tmod_bd {i n : Int} (h1 : 0 ≤ i) (h2 : 0 < n) : 0 ≤ i.tmod n ∧ i.tmod n < n := ⟨Int.tmod_nonneg _ h1, Int.tmod_lt_of_pos _ h2⟩

def c_sat_edge : Con := ⟨94, rowRun [.rows 2, .num 0] (fun l R => match l, R with | [i], [xs] => [xs.length ≤ 100000] | _, _ => [False]) fun l R => match l, R with
  | [i], [xs] => .tup [.agg [.int .i64 (edg xs i 0), .int .i64 (edg xs i 1)], .bool (okE xs i)]
  | _, _ => .any⟩
set_option maxRecDepth 100000 in
set_option maxHeartbeats 2000000 in
theorem con_sat_edge : c_sat_edge.Ok Tryz.prog := by
  refine con_rows (C := [c_vec2_Sub]) (pl := [(3, [0, 1, 2, 3, 4, 5, 6, 7, 8, 9, 10, 11, 12, 13, 14], [0, 0, 2, 0, 8, 30, 63, 127, 0, 0, 768, 1792, 4095, 8191, 16383])]) Tryz.func94 rfl (by kernel_rfl) T_ok (Cons.cons con_vec2_Sub (Cons.nil _)) mixed (by kernel_rfl) _ _ _ (fun l R hl hR hn hpre => ?_)
  match l, hl, R, hR with
  | [i], _, [(true, xs)], _ =>
    obtain rfl : xs = [] := hn _ (List.Mem.head _) rfl
    have hp0 := hpre _ (List.Mem.head _)
    skip
    repeat' (first | (with_reducible refine And.intro ?_ ?_) | (with_reducible intro h) | ((fail_if_success (with_reducible refine Leaf.mk ?_)); (fail_if_success (with_reducible refine VC.mk ?_)); (fail_if_success (with_reducible refine Goes.mk ?_)); (fail_if_success (with_reducible refine Again.mk ?_)); (fail_if_success (with_reducible refine Rounds.mk ?_)); (fail_if_success (with_reducible show False)); (fail_if_success (with_reducible show True)); conv => whnf))
    all_goals first | exact trivial | (refine Leaf.mk ?_; simp [edg, edgC, okE]; done)
  | [i], _, [(false, xs)], _ =>
    have hp0 := hpre _ (List.Mem.head _)
    skip
    repeat' (first | (with_reducible refine And.intro ?_ ?_) | (with_reducible intro h) | ((fail_if_success (with_reducible refine Leaf.mk ?_)); (fail_if_success (with_reducible refine VC.mk ?_)); (fail_if_success (with_reducible refine Goes.mk ?_)); (fail_if_success (with_reducible refine Again.mk ?_)); (fail_if_success (with_reducible refine Rounds.mk ?_)); (fail_if_success (with_reducible show False)); (fail_if_success (with_reducible show True)); conv => whnf))
    all_goals try exact trivial
    all_goals try simp only [decide_eq_true_eq, decide_eq_false_iff_not] at *
    all_goals try (have tb := tmod_bd (i := i + 1) (n := xs.length) (by omega) (by omega))
    all_goals try (refine VC.mk ?_; first | trivial | (simp only [InR]; omega) | omega)
    all_goals (refine Leaf.mk ?_; first
      | (have ho : okE xs i = false := okE_no (by omega); simp [edg, edgC, ho]; done)
      | (have ho : okE xs i = true := okE_of (by omega) (by omega) (by omega); simp [edg, edgC, ho]; done)
      | (simp_all [edg, edgC]; done))
def c_sat_EdgeNormal : Con := ⟨54, rowRun [.rows 2, .num 0] (fun l R => match l, R with | [i], [xs] => [xs.length ≤ 100000] | _, _ => [False]) fun l R => match l, R with
  | [i], [xs] => .agg [.int .i64 (enX xs i), .int .i64 (enY xs i)]
  | _, _ => .any⟩
set_option maxRecDepth 100000 in
set_option maxHeartbeats 2000000 in
theorem con_sat_EdgeNormal : c_sat_EdgeNormal.Ok Tryz.prog := by
  refine con_rows (C := [c_sat_edge, c_vec2_Normalize]) (pl := []) Tryz.func54 rfl (by kernel_rfl) T_ok (Cons.cons con_sat_edge (Cons.cons con_vec2_Normalize (Cons.nil _))) mixed (by kernel_rfl) _ _ _ (fun l R hl hR hn hpre => ?_)
  match l, hl, R, hR with
  | [i], _, [(true, xs)], _ =>
    obtain rfl : xs = [] := hn _ (List.Mem.head _) rfl
    have hp0 := hpre _ (List.Mem.head _)
    skip
    repeat' (first | (with_reducible refine And.intro ?_ ?_) | (with_reducible intro h) | ((fail_if_success (with_reducible refine Leaf.mk ?_)); (fail_if_success (with_reducible refine VC.mk ?_)); (fail_if_success (with_reducible refine Goes.mk ?_)); (fail_if_success (with_reducible refine Again.mk ?_)); (fail_if_success (with_reducible refine Rounds.mk ?_)); (fail_if_success (with_reducible show False)); (fail_if_success (with_reducible show True)); conv => whnf))
    all_goals try simp only [tkA] at *
    all_goals try exact trivial
    all_goals try (refine VC.mk ?_; first | trivial | (simp; done) | assumption | (have := edg_bd xs i 0; simp only [InR]; omega) | (have := edg_bd [] i 0; simp only [InR]; omega) | (have := edg_bd [] i 0; simp [InR]; omega))
    all_goals (refine Leaf.mk ?_; simp_all [enX, enY, edX, edY, edg])
  | [i], _, [(false, xs)], _ =>
    have hp0 := hpre _ (List.Mem.head _)
    skip
    repeat' (first | (with_reducible refine And.intro ?_ ?_) | (with_reducible intro h) | ((fail_if_success (with_reducible refine Leaf.mk ?_)); (fail_if_success (with_reducible refine VC.mk ?_)); (fail_if_success (with_reducible refine Goes.mk ?_)); (fail_if_success (with_reducible refine Again.mk ?_)); (fail_if_success (with_reducible refine Rounds.mk ?_)); (fail_if_success (with_reducible show False)); (fail_if_success (with_reducible show True)); conv => whnf))
    all_goals try simp only [tkA] at *
    all_goals try exact trivial
    all_goals try (refine VC.mk ?_; first | trivial | (simp; done) | assumption | (have := edg_bd xs i 0; simp only [InR]; omega) | (have := edg_bd [] i 0; simp only [InR]; omega) | (have := edg_bd [] i 0; simp [InR]; omega))
    all_goals (refine Leaf.mk ?_; simp_all [enX, enY, edX, edY, edg])
end Go.Proofs.YtohjifnkajhhnaaGreat
