/- Contracts of package caromref05: boxes of points. -/
import Derived.Test.YtdoagjphjnbbnaaK6
namespace Go.Proofs.Ytdoagjphjnbbnaa
open Go.RowKit Fx Vx Bx Ev
set_option linter.unusedVariables false
set_option linter.unusedSimpArgs false

def c_ref05_FromPoints : Con := ⟨69, rowRun [.rows 2] (fun _ R => match R with | [xs] => [xs.length ≤ 100000] | _ => [False]) fun l R => match R with
  | [xs] => .tup [.agg [.int .i64 (loP 0 xs), .int .i64 (loP 1 xs), .int .i64 (hiP 0 xs), .int .i64 (hiP 1 xs)], .bool (!xs.isEmpty)]
  | _ => .any⟩
set_option maxRecDepth 100000 in
set_option maxHeartbeats 1000000 in
theorem con_ref05_FromPoints : c_ref05_FromPoints.Ok Try.prog := by
  refine con_rows (C := [c_ref05_SaturateVec]) (pl := []) Try.func69 rfl (by kernel_rfl) T_ok (Cons.cons con_ref05_SaturateVec (Cons.nil _)) mixed (by kernel_rfl) _ _ _ (fun l R hl hR hn hpre => ?_)
  match l, hl, R, hR with
  | [], _, [(true, xs)], _ =>
    obtain rfl : xs = [] := hn _ (List.mem_singleton.2 rfl) rfl
    repeat' (first | (with_reducible refine And.intro ?_ ?_) | (with_reducible intro h) | ((fail_if_success (with_reducible refine Leaf.mk ?_)); (fail_if_success (with_reducible refine VC.mk ?_)); (fail_if_success (with_reducible refine Goes.mk ?_)); (fail_if_success (with_reducible refine Again.mk ?_)); (fail_if_success (with_reducible refine Rounds.mk ?_)); (fail_if_success (with_reducible show False)); (fail_if_success (with_reducible show True)); conv => whnf))
    all_goals first | exact trivial | exact ⟨rfl⟩
  | [], _, [(false, xs)], _ =>
    have hle : xs.length ≤ 100000 := hpre _ (List.mem_singleton.2 rfl)
    repeat' (first | (with_reducible refine And.intro ?_ ?_) | (with_reducible intro h) | ((fail_if_success (with_reducible refine Leaf.mk ?_)); (fail_if_success (with_reducible refine VC.mk ?_)); (fail_if_success (with_reducible refine Goes.mk ?_)); (fail_if_success (with_reducible refine Again.mk ?_)); (fail_if_success (with_reducible refine Rounds.mk ?_)); (fail_if_success (with_reducible show False)); (fail_if_success (with_reducible show True)); conv => whnf))
    all_goals try first | exact trivial | (refine VC.mk ?_; simp only [InR, decide_eq_true_eq, decide_eq_false_iff_not] at *; omega) | (refine VC.mk ?_; rfl) | (refine Leaf.mk ?_; have hx : xs = [] := by { simpa using ‹decide ((xs.length : Int) = 0) = true› }; subst hx; rfl)
    have hxs : 0 < xs.length := by { simp only [decide_eq_false_iff_not] at *; omega }
    refine goes_inv (X := Nat) (pl := []) T_ok (Cons.cons con_ref05_SaturateVec (Cons.nil _)) mixed (by kernel_rfl)
      (fun i => (.sl 0 2 0 xs.length :: .any :: .ptr 1 0 :: .blit false :: .any :: .ptr 3 0 :: .int .i64 (i : Int) :: .any :: .any :: .any :: .any :: .any :: .any :: .any :: .any :: .any :: .any :: .any :: .any :: .any :: .any :: .any :: .any :: .any :: .any :: .any :: .any :: .any :: .any :: .any :: .any :: .any :: .any :: .any :: .any :: .any :: .any :: .any :: .any :: .any :: .any :: .any :: .any :: .any :: .any :: .any :: .any :: .any :: .any :: .any :: .any :: .any :: .any :: .any :: .any :: .any :: .any :: .any :: [],
        [.arr false true 2 xs, .cells [.any, .any, .any, .any], .dead, .cells [.int .i64 (loP 0 (xs.take i)), .int .i64 (loP 1 (xs.take i)), .int .i64 (hiP 0 (xs.take i)), .int .i64 (hiP 1 (xs.take i))]]))
      (fun i => 0 < i ∧ i ≤ xs.length) (fun i => xs.length - i) 1 [0, 1, 2, 3] ⟨Nat.one_pos, hxs⟩ ?_ ?_ ?_
    · repeat' (first | (with_reducible refine And.intro ?_ ?_) | (with_reducible intro h) | ((fail_if_success (with_reducible refine Leaf.mk ?_)); (fail_if_success (with_reducible refine VC.mk ?_)); (fail_if_success (with_reducible refine Goes.mk ?_)); (fail_if_success (with_reducible refine Again.mk ?_)); (fail_if_success (with_reducible refine Rounds.mk ?_)); (fail_if_success (with_reducible show False)); (fail_if_success (with_reducible show True)); conv => whnf))
      all_goals first | exact trivial | (refine Leaf.mk ?_; first | rfl | exact ⟨rfl, rfl⟩)
    · repeat' (first | (with_reducible refine And.intro ?_ ?_) | (with_reducible intro h) | ((fail_if_success (with_reducible refine Leaf.mk ?_)); (fail_if_success (with_reducible refine VC.mk ?_)); (fail_if_success (with_reducible refine Goes.mk ?_)); (fail_if_success (with_reducible refine Again.mk ?_)); (fail_if_success (with_reducible refine Rounds.mk ?_)); (fail_if_success (with_reducible show False)); (fail_if_success (with_reducible show True)); conv => whnf))
      all_goals first | exact trivial | (refine Leaf.mk ?_; first | rfl | exact ⟨rfl, rfl⟩ | exact (loP_one hxs).symm | exact (hiP_one hxs).symm)
    · intro i hi
      obtain ⟨h0, hi⟩ := hi
      repeat' (first | (with_reducible refine And.intro ?_ ?_) | (with_reducible intro h) | ((fail_if_success (with_reducible refine Leaf.mk ?_)); (fail_if_success (with_reducible refine VC.mk ?_)); (fail_if_success (with_reducible refine Goes.mk ?_)); (fail_if_success (with_reducible refine Again.mk ?_)); (fail_if_success (with_reducible refine Rounds.mk ?_)); (fail_if_success (with_reducible show False)); (fail_if_success (with_reducible show True)); conv => whnf))
      all_goals try first | exact trivial | (refine VC.mk ?_; simp only [InR, decide_eq_true_eq, decide_eq_false_iff_not] at *; omega) | (refine VC.mk ?_; rfl)
      · have hlt : i < xs.length := by { simp only [decide_eq_true_eq, decide_eq_false_iff_not] at *; omega }
        have e1 : 0 + ((i : Int)).toNat = i := by omega
        refine Again.mk ⟨i + 1, [0, 1, 2, 3], ⟨Nat.succ_pos i, hlt⟩, by omega, ?_, ?_⟩
        · repeat' (first | (with_reducible refine And.intro ?_ ?_) | (with_reducible intro h) | ((fail_if_success (with_reducible refine Leaf.mk ?_)); (fail_if_success (with_reducible refine VC.mk ?_)); (fail_if_success (with_reducible refine Goes.mk ?_)); (fail_if_success (with_reducible refine Again.mk ?_)); (fail_if_success (with_reducible refine Rounds.mk ?_)); (fail_if_success (with_reducible show False)); (fail_if_success (with_reducible show True)); conv => whnf))
          all_goals try first | exact trivial | (refine Leaf.mk ?_; first | rfl | exact ⟨rfl, rfl⟩)
        · repeat' (first | (with_reducible refine And.intro ?_ ?_) | (with_reducible intro h) | ((fail_if_success (with_reducible refine Leaf.mk ?_)); (fail_if_success (with_reducible refine VC.mk ?_)); (fail_if_success (with_reducible refine Goes.mk ?_)); (fail_if_success (with_reducible refine Again.mk ?_)); (fail_if_success (with_reducible refine Rounds.mk ?_)); (fail_if_success (with_reducible show False)); (fail_if_success (with_reducible show True)); conv => whnf))
          all_goals try first | exact trivial | (refine Leaf.mk ?_; first | rfl | exact ⟨rfl, rfl⟩ | (rw [e1]; first | exact (loP_take h0 hlt).symm | exact (hiP_take h0 hlt).symm))
      all_goals (have he : xs.take i = xs := List.take_of_length_le (by { simp only [decide_eq_true_eq, decide_eq_false_iff_not] at *; omega }); refine Leaf.mk ?_; first | rw [he] | (cases xs with | nil => simp at hxs | cons => rfl))
end Go.Proofs.Ytdoagjphjnbbnaa
