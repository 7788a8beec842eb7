/- Contracts of packages aabb and caromref05: boxes of points. -/
import Derived.Test.YtdoagjphjnbbnaaK5
namespace Go.Proofs.Ytdoagjphjnbbnaa
open Go.RowKit Fx Vx Bx Ev
set_option linter.unusedVariables false
set_option linter.unusedSimpArgs false

def loP (j : Nat) (xs : List (List Int)) : Int := match xs with
  | [] => 0
  | x :: r => r.foldl (fun a p => min a (sat (p.getD j 0))) (sat (x.getD j 0))
def hiP (j : Nat) (xs : List (List Int)) : Int := match xs with
  | [] => 0
  | x :: r => r.foldl (fun a p => max a (sat (p.getD j 0))) (sat (x.getD j 0))
theorem take_at2 {xs : List (List Int)} {n : Nat} (h : n < xs.length) : ∃ p, xs.take (n + 1) = xs.take n ++ [p] ∧ ∀ j, at2 xs n j = p.getD j 0 := by
  refine ⟨xs[n], by rw [List.take_succ_eq_append_getElem h], fun j => ?_⟩
  simp [at2, h]
theorem loP_take {j n : Nat} {xs : List (List Int)} (h0 : 0 < n) (h : n < xs.length) : loP j (xs.take (n + 1)) = min (loP j (xs.take n)) (sat (at2 xs n j)) := by
  obtain ⟨p, hp, hj⟩ := take_at2 h
  rw [hp, hj]
  cases xs with
  | nil => simp at h
  | cons x r =>
    obtain ⟨k, rfl⟩ : ∃ k, n = k + 1 := ⟨n - 1, by omega⟩
    simp [loP, List.foldl_append]
theorem hiP_take {j n : Nat} {xs : List (List Int)} (h0 : 0 < n) (h : n < xs.length) : hiP j (xs.take (n + 1)) = max (hiP j (xs.take n)) (sat (at2 xs n j)) := by
  obtain ⟨p, hp, hj⟩ := take_at2 h
  rw [hp, hj]
  cases xs with
  | nil => simp at h
  | cons x r =>
    obtain ⟨k, rfl⟩ : ∃ k, n = k + 1 := ⟨n - 1, by omega⟩
    simp [hiP, List.foldl_append]
theorem loP_one {j : Nat} {xs : List (List Int)} (h : 0 < xs.length) : loP j (xs.take 1) = sat (at2 xs 0 j) := by
  cases xs with
  | nil => simp at h
  | cons x r => simp [loP, at2]
theorem hiP_one {j : Nat} {xs : List (List Int)} (h : 0 < xs.length) : hiP j (xs.take 1) = sat (at2 xs 0 j) := by
  cases xs with
  | nil => simp at h
  | cons x r => simp [hiP, at2]

def c_aabb_FromPoints : Con := ⟨38, rowRun [.rows 2] (fun _ R => match R with | [xs] => [xs.length ≤ 100000] | _ => [False]) fun l R => match R with
  | [xs] => .tup [.agg [.int .i64 (loP 0 xs), .int .i64 (loP 1 xs), .int .i64 (hiP 0 xs), .int .i64 (hiP 1 xs)], .bool (!xs.isEmpty)]
  | _ => .any⟩
set_option maxRecDepth 100000 in
set_option maxHeartbeats 1000000 in
theorem con_aabb_FromPoints : c_aabb_FromPoints.Ok Try.prog := by
  refine con_rows (C := [c_aabb_saturate, c_aabb_lower, c_aabb_upper]) (pl := []) Try.func38 rfl (by kernel_rfl) T_ok (Cons.cons con_aabb_saturate (Cons.cons con_aabb_lower (Cons.cons con_aabb_upper (Cons.nil _)))) mixed (by kernel_rfl) _ _ _ (fun l R hl hR hn hpre => ?_)
  match l, hl, R, hR with
  | [], _, [(true, xs)], _ =>
    obtain rfl : xs = [] := hn _ (List.mem_singleton.2 rfl) rfl
    repeat' (first | (with_reducible refine And.intro ?_ ?_) | (with_reducible intro h) | ((fail_if_success (with_reducible refine Leaf.mk ?_)); (fail_if_success (with_reducible refine VC.mk ?_)); (fail_if_success (with_reducible refine Goes.mk ?_)); (fail_if_success (with_reducible refine Again.mk ?_)); (fail_if_success (with_reducible refine Rounds.mk ?_)); (fail_if_success (with_reducible show False)); (fail_if_success (with_reducible show True)); conv => whnf))
    all_goals first | exact trivial | exact ⟨rfl⟩
  | [], _, [(false, xs)], _ =>
    have hle : xs.length ≤ 100000 := hpre _ (List.mem_singleton.2 rfl)
    repeat' (first | (with_reducible refine And.intro ?_ ?_) | (with_reducible intro h) | ((fail_if_success (with_reducible refine Leaf.mk ?_)); (fail_if_success (with_reducible refine VC.mk ?_)); (fail_if_success (with_reducible refine Goes.mk ?_)); (fail_if_success (with_reducible refine Again.mk ?_)); (fail_if_success (with_reducible refine Rounds.mk ?_)); (fail_if_success (with_reducible show False)); (fail_if_success (with_reducible show True)); conv => whnf))
    all_goals try first | exact trivial | (refine VC.mk ?_; simp only [InR, decide_eq_true_eq, decide_eq_false_iff_not] at *; omega) | (refine VC.mk ?_; rfl) | (refine Leaf.mk ?_; have hx : xs = [] := by { simpa using ‹decide ((xs.length : Int) = 0) = true› }; subst hx; rfl)
    have hxs : 0 < xs.length := by { simp only [decide_eq_false_iff_not] at *; omega }
    refine goes_inv (X := Nat) (pl := []) T_ok (Cons.cons con_aabb_saturate (Cons.cons con_aabb_lower (Cons.cons con_aabb_upper (Cons.nil _)))) mixed (by kernel_rfl)
      (fun i => (.sl 0 2 0 xs.length :: .any :: .ptr 1 0 :: .blit false :: .any :: .ptr 3 0 :: .any :: .any :: .any :: .any :: .any :: .any :: .any :: .any :: .any :: .any :: .any :: .any :: .any :: .any :: .sl 0 2 1 (xs.length - 1) :: .int .i64 ((xs.length - 1 : Nat) : Int) :: .int .i64 (i : Int) :: .any :: .any :: .any :: .any :: .any :: .any :: .any :: .any :: .any :: .any :: .any :: .any :: .any :: .any :: .any :: .any :: .any :: [],
        [.arr false true 2 xs, .cells [.any, .any, .any, .any], .dead, .cells [.int .i64 (loP 0 (xs.take (i + 1))), .int .i64 (loP 1 (xs.take (i + 1))), .int .i64 (hiP 0 (xs.take (i + 1))), .int .i64 (hiP 1 (xs.take (i + 1)))]]))
      (fun i => i < xs.length) (fun i => xs.length - i) 0 [0, 1, 2, 3] hxs ?_ ?_ ?_
    · repeat' (first | (with_reducible refine And.intro ?_ ?_) | (with_reducible intro h) | ((fail_if_success (with_reducible refine Leaf.mk ?_)); (fail_if_success (with_reducible refine VC.mk ?_)); (fail_if_success (with_reducible refine Goes.mk ?_)); (fail_if_success (with_reducible refine Again.mk ?_)); (fail_if_success (with_reducible refine Rounds.mk ?_)); (fail_if_success (with_reducible show False)); (fail_if_success (with_reducible show True)); conv => whnf))
      all_goals first | exact trivial | (refine Leaf.mk ?_; first | rfl | exact ⟨rfl, rfl⟩)
    · repeat' (first | (with_reducible refine And.intro ?_ ?_) | (with_reducible intro h) | ((fail_if_success (with_reducible refine Leaf.mk ?_)); (fail_if_success (with_reducible refine VC.mk ?_)); (fail_if_success (with_reducible refine Goes.mk ?_)); (fail_if_success (with_reducible refine Again.mk ?_)); (fail_if_success (with_reducible refine Rounds.mk ?_)); (fail_if_success (with_reducible show False)); (fail_if_success (with_reducible show True)); conv => whnf))
      all_goals first | exact trivial | (refine Leaf.mk ?_; first | rfl | exact ⟨rfl, rfl⟩ | exact (loP_one hxs).symm | exact (hiP_one hxs).symm)
    · intro i hi
      repeat' (first | (with_reducible refine And.intro ?_ ?_) | (with_reducible intro h) | ((fail_if_success (with_reducible refine Leaf.mk ?_)); (fail_if_success (with_reducible refine VC.mk ?_)); (fail_if_success (with_reducible refine Goes.mk ?_)); (fail_if_success (with_reducible refine Again.mk ?_)); (fail_if_success (with_reducible refine Rounds.mk ?_)); (fail_if_success (with_reducible show False)); (fail_if_success (with_reducible show True)); conv => whnf))
      all_goals try first | exact trivial | (refine VC.mk ?_; simp only [InR, decide_eq_true_eq, decide_eq_false_iff_not] at *; omega) | (refine VC.mk ?_; rfl)
      · have hlt : i + 1 < xs.length := by { simp only [decide_eq_true_eq, decide_eq_false_iff_not] at *; omega }
        have e1 : 1 + ((i : Int)).toNat = i + 1 := by omega
        refine Again.mk ⟨i + 1, [0, 1, 2, 3], hlt, by omega, ?_, ?_⟩
        · repeat' (first | (with_reducible refine And.intro ?_ ?_) | (with_reducible intro h) | ((fail_if_success (with_reducible refine Leaf.mk ?_)); (fail_if_success (with_reducible refine VC.mk ?_)); (fail_if_success (with_reducible refine Goes.mk ?_)); (fail_if_success (with_reducible refine Again.mk ?_)); (fail_if_success (with_reducible refine Rounds.mk ?_)); (fail_if_success (with_reducible show False)); (fail_if_success (with_reducible show True)); conv => whnf))
          all_goals try first | exact trivial | (refine Leaf.mk ?_; first | rfl | exact ⟨rfl, rfl⟩)
        · repeat' (first | (with_reducible refine And.intro ?_ ?_) | (with_reducible intro h) | ((fail_if_success (with_reducible refine Leaf.mk ?_)); (fail_if_success (with_reducible refine VC.mk ?_)); (fail_if_success (with_reducible refine Goes.mk ?_)); (fail_if_success (with_reducible refine Again.mk ?_)); (fail_if_success (with_reducible refine Rounds.mk ?_)); (fail_if_success (with_reducible show False)); (fail_if_success (with_reducible show True)); conv => whnf))
          all_goals try first | exact trivial | (refine Leaf.mk ?_; first | rfl | exact ⟨rfl, rfl⟩ | (rw [e1]; first | exact (loP_take (Nat.succ_pos i) hlt).symm | exact (hiP_take (Nat.succ_pos i) hlt).symm))
      all_goals (have he : xs.take (i + 1) = xs := List.take_of_length_le (by { simp only [decide_eq_true_eq, decide_eq_false_iff_not] at *; omega }); refine Leaf.mk ?_; first | rw [he] | (cases xs with | nil => simp at hxs | cons => rfl))
end Go.Proofs.Ytdoagjphjnbbnaa
