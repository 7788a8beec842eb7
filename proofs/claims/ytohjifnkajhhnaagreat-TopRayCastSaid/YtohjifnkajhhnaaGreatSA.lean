/- Contracts of package sap: comparing. -/
import Derived.Test.YtohjifnkajhhnaaGreatKA
import Derived.Test.YtohjifnkajhhnaaGreatEvV
import Derived.Test.YtohjifnkajhhnaaGreatTab
namespace Go.Proofs.YtohjifnkajhhnaaGreat
open Go.RowKit Fx Vx Bx Ev
set_option linter.unusedVariables false
set_option linter.unusedSimpArgs false
theorem bcS {b : Bool} (h : b = true) (h2 : b = false) : False := by cases b <;> simp_all
def cmpI (x y : Int) : Int := if x < y then -1 else if y < x then 1 else 0
def orK (xs : List (List Int)) : Nat → Int
  | 0 => 0
  | m + 1 => if at2 xs (xs.length - (m + 1)) 0 = 0 then orK xs m else at2 xs (xs.length - (m + 1)) 0
def c_cmp_isNaN : Con := ⟨96, pureRun [0] (fun _ => []) fun | [x] => .bool false | _ => .any⟩
set_option maxRecDepth 100000 in
set_option maxHeartbeats 1000000 in
theorem con_cmp_isNaN : c_cmp_isNaN.Ok Tryz.prog := by
  refine con_pure (C := []) (pl := []) Tryz.func96 rfl (by kernel_rfl) T_ok (Cons.nil _) mixed (by kernel_rfl) _ _ _ (fun l hl hpre => ?_)
  match l, hl with
  | [x], _ =>
    repeat' (first | (with_reducible refine And.intro ?_ ?_) | (with_reducible intro h) | ((fail_if_success (with_reducible refine Leaf.mk ?_)); (fail_if_success (with_reducible refine VC.mk ?_)); (fail_if_success (with_reducible refine Goes.mk ?_)); (fail_if_success (with_reducible refine Again.mk ?_)); (fail_if_success (with_reducible refine Rounds.mk ?_)); (fail_if_success (with_reducible show False)); (fail_if_success (with_reducible show True)); conv => whnf))
    all_goals first | exact trivial | (refine Leaf.mk ?_; simp)
def c_cmp_Compare : Con := ⟨59, pureRun [0, 0] (fun _ => []) fun | [x, y] => .int .i64 (cmpI x y) | _ => .any⟩
set_option maxRecDepth 100000 in
set_option maxHeartbeats 1000000 in
theorem con_cmp_Compare : c_cmp_Compare.Ok Tryz.prog := by
  refine con_pure (C := [c_cmp_isNaN]) (pl := []) Tryz.func59 rfl (by kernel_rfl) T_ok (Cons.cons con_cmp_isNaN (Cons.nil _)) mixed (by kernel_rfl) _ _ _ (fun l hl hpre => ?_)
  match l, hl with
  | [x, y], _ =>
    repeat' (first | (with_reducible refine And.intro ?_ ?_) | (with_reducible intro h) | ((fail_if_success (with_reducible refine Leaf.mk ?_)); (fail_if_success (with_reducible refine VC.mk ?_)); (fail_if_success (with_reducible refine Goes.mk ?_)); (fail_if_success (with_reducible refine Again.mk ?_)); (fail_if_success (with_reducible refine Rounds.mk ?_)); (fail_if_success (with_reducible show False)); (fail_if_success (with_reducible show True)); conv => whnf))
    all_goals try with_reducible first | exact trivial | contradiction
    all_goals try (refine Leaf.mk ?_; simp only [decide_eq_true_eq, decide_eq_false_iff_not] at *; unfold cmpI; first | rw [if_pos (by omega)] | (rw [if_neg (by omega), if_pos (by omega)]) | (rw [if_neg (by omega), if_neg (by omega)]))
def c_cmp_Or : Con := ⟨58, rowRun [.rows 1] (fun l R => match l, R with | [], [xs] => [0 < xs.length, xs.length ≤ 1000000] | _, _ => [False]) fun l R => match l, R with
  | [], [xs] => .int .i64 (orK xs xs.length)
  | _, _ => .any⟩
set_option maxRecDepth 100000 in
set_option maxHeartbeats 2000000 in
theorem con_cmp_Or : c_cmp_Or.Ok Tryz.prog := by
  refine con_rows (C := []) (pl := []) Tryz.func58 rfl (by kernel_rfl) T_ok (Cons.nil _) mixed (by kernel_rfl) _ _ _ (fun l R hl hR hn hpre => ?_)
  match l, hl, R, hR with
  | [], zl, [(true, xs)], zr =>
    clear zl zr
    obtain rfl : xs = [] := hn _ (List.Mem.head _) rfl
    have hp0 := hpre _ (List.Mem.head _); try dsimp only at hp0
    have hp1 := hpre _ (List.Mem.tail _ (List.Mem.head _)); try dsimp only at hp1
    skip
    simp at hp0
  | [], zl, [(false, xs)], zr =>
    clear zl zr
    have hp0 := hpre _ (List.Mem.head _); try dsimp only at hp0
    have hp1 := hpre _ (List.Mem.tail _ (List.Mem.head _)); try dsimp only at hp1
    skip
    repeat' (first | (with_reducible refine And.intro ?_ ?_) | (with_reducible intro h) | ((fail_if_success (with_reducible refine Leaf.mk ?_)); (fail_if_success (with_reducible refine VC.mk ?_)); (fail_if_success (with_reducible refine Goes.mk ?_)); (fail_if_success (with_reducible refine Again.mk ?_)); (fail_if_success (with_reducible refine Rounds.mk ?_)); (fail_if_success (with_reducible show False)); (fail_if_success (with_reducible show True)); conv => whnf))
    all_goals try first | exact trivial
    refine goes_inv (X := Nat) (pl := []) T_ok (Cons.nil _) mixed (by kernel_rfl)
      (fun k => (.any :: .any :: .any :: .lit .i64 0 :: .any :: .any :: .sl 0 1 0 xs.length :: .int .i64 (xs.length : Int) :: .int .i64 (k : Int) :: .any :: .any :: .any :: .any :: .any :: .any :: .any :: .any :: .any :: [], [.arr false true 1 xs]))
      (fun k => k ≤ xs.length ∧ orK xs (xs.length - k) = orK xs xs.length) (fun k => xs.length - k) 0 [0] ⟨Nat.zero_le _, rfl⟩ ?_ ?_ ?_
    · repeat' (first | (with_reducible refine And.intro ?_ ?_) | (with_reducible intro h) | ((fail_if_success (with_reducible refine Leaf.mk ?_)); (fail_if_success (with_reducible refine VC.mk ?_)); (fail_if_success (with_reducible refine Goes.mk ?_)); (fail_if_success (with_reducible refine Again.mk ?_)); (fail_if_success (with_reducible refine Rounds.mk ?_)); (fail_if_success (with_reducible show False)); (fail_if_success (with_reducible show True)); conv => whnf))
      all_goals first | exact trivial | (refine Leaf.mk ?_; first | rfl | exact ⟨rfl, rfl⟩ | (simp; done))
    · repeat' (first | (with_reducible refine And.intro ?_ ?_) | (with_reducible intro h) | ((fail_if_success (with_reducible refine Leaf.mk ?_)); (fail_if_success (with_reducible refine VC.mk ?_)); (fail_if_success (with_reducible refine Goes.mk ?_)); (fail_if_success (with_reducible refine Again.mk ?_)); (fail_if_success (with_reducible refine Rounds.mk ?_)); (fail_if_success (with_reducible show False)); (fail_if_success (with_reducible show True)); conv => whnf))
      all_goals first | exact trivial | (refine Leaf.mk ?_; first | rfl | exact ⟨rfl, rfl⟩ | (simp; done))
    · intro k hx
      obtain ⟨x1, x2⟩ := hx
      rcases Nat.lt_or_ge k xs.length with hk | hk
      · have hd : decide ((k : Int) < (xs.length : Int)) = true := by simp; omega
        have e : xs.length - k = (xs.length - (k + 1)) + 1 := by omega
        have e2 : xs.length - (xs.length - (k + 1) + 1) = k := by omega
        rw [e, orK, e2] at x2
        by_cases hc : at2 xs k 0 = 0
        · rw [if_pos hc] at x2
          have c1 : (!decide (at2 xs k 0 = 0)) = false := by simp [hc]
          repeat' (first | (with_reducible refine And.intro ?_ ?_) | (with_reducible intro h) | ((fail_if_success (with_reducible refine Leaf.mk ?_)); (fail_if_success (with_reducible refine VC.mk ?_)); (fail_if_success (with_reducible refine Goes.mk ?_)); (fail_if_success (with_reducible refine Again.mk ?_)); (fail_if_success (with_reducible refine Rounds.mk ?_)); (fail_if_success (with_reducible show False)); (fail_if_success (with_reducible show True)); conv => whnf))
          all_goals try simp only [Int.toNat_natCast, Nat.zero_add] at *
          all_goals try with_reducible first | exact trivial | exact (bcS hd (by assumption)).elim | exact (bcS (by assumption) c1).elim
          all_goals try (refine VC.mk ?_; first | exact trivial | omega | (simp only [InR]; omega) | rfl)
          all_goals (refine Again.mk ⟨k + 1, [0], ⟨by omega, x2⟩, (by show xs.length - (k + 1) < xs.length - k; omega), ?_, ?_⟩ <;> (repeat' (first | (with_reducible refine And.intro ?_ ?_) | (with_reducible intro h) | ((fail_if_success (with_reducible refine Leaf.mk ?_)); (fail_if_success (with_reducible refine VC.mk ?_)); (fail_if_success (with_reducible refine Goes.mk ?_)); (fail_if_success (with_reducible refine Again.mk ?_)); (fail_if_success (with_reducible refine Rounds.mk ?_)); (fail_if_success (with_reducible show False)); (fail_if_success (with_reducible show True)); conv => whnf))) <;> first | exact trivial | (refine Leaf.mk ?_; first | rfl | exact ⟨rfl, rfl, rfl⟩ | exact ⟨rfl, rfl⟩ | (simp; done)))
        · rw [if_neg hc] at x2
          have c1 : (!decide (at2 xs k 0 = 0)) = true := by simp [hc]
          repeat' (first | (with_reducible refine And.intro ?_ ?_) | (with_reducible intro h) | ((fail_if_success (with_reducible refine Leaf.mk ?_)); (fail_if_success (with_reducible refine VC.mk ?_)); (fail_if_success (with_reducible refine Goes.mk ?_)); (fail_if_success (with_reducible refine Again.mk ?_)); (fail_if_success (with_reducible refine Rounds.mk ?_)); (fail_if_success (with_reducible show False)); (fail_if_success (with_reducible show True)); conv => whnf))
          all_goals try simp only [Int.toNat_natCast, Nat.zero_add] at *
          all_goals try with_reducible first | exact trivial | exact (bcS hd (by assumption)).elim | exact (bcS c1 (by assumption)).elim
          all_goals try (refine VC.mk ?_; first | exact trivial | omega | (simp only [InR]; omega) | rfl)
          all_goals try (refine Leaf.mk ?_; exact x2)
      · obtain rfl : k = xs.length := by omega
        have hd : decide ((xs.length : Int) < (xs.length : Int)) = false := by simp
        rw [Nat.sub_self] at x2
        repeat' (first | (with_reducible refine And.intro ?_ ?_) | (with_reducible intro h) | ((fail_if_success (with_reducible refine Leaf.mk ?_)); (fail_if_success (with_reducible refine VC.mk ?_)); (fail_if_success (with_reducible refine Goes.mk ?_)); (fail_if_success (with_reducible refine Again.mk ?_)); (fail_if_success (with_reducible refine Rounds.mk ?_)); (fail_if_success (with_reducible show False)); (fail_if_success (with_reducible show True)); conv => whnf))
        all_goals try with_reducible first | exact trivial | exact (bcS (by assumption) hd).elim
        all_goals try (refine Leaf.mk ?_; exact x2)

end Go.Proofs.YtohjifnkajhhnaaGreat
