/- Contracts of package sat and of caromref14: the loops. -/
import Derived.Test.YtdoagjphjnbbnaaT1
namespace Go.Proofs.Ytdoagjphjnbbnaa
open Go.RowKit Fx Vx Bx Ev
set_option linter.unusedVariables false
set_option linter.unusedSimpArgs false


/-- The least dot product of n and a vertex of b, seen from o: after k vertices. -/
def sepD (p q u v : Int) (ys : List (List Int)) (k : Nat) : Int := dot p q (sub (at2 ys k 0) u) (sub (at2 ys k 1) v)
def sepN (p q u v : Int) (ys : List (List Int)) : Nat → Int
  | 0 => 0
  | k + 1 => if k = 0 ∨ sepD p q u v ys k < sepN p q u v ys k then sepD p q u v ys k else sepN p q u v ys k
def sepE (xs ys : List (List Int)) (i : Nat) : Int := sepN (enX xs i) (enY xs i) (at2 xs i 0) (at2 xs i 1) ys ys.length
/-- The first with the greatest value of f, and that value: after k. -/
def maxN (f : Nat → Int) : Nat → Int × Int
  | 0 => (-1, 0)
  | k + 1 => if (maxN f k).1 < 0 ∨ (maxN f k).2 < f k then ((k : Int), f k) else maxN f k
def minN (f : Nat → Int) : Nat → Int × Int
  | 0 => (-1, 0)
  | k + 1 => if (minN f k).1 < 0 ∨ f k < (minN f k).2 then ((k : Int), f k) else minN f k
def incD (ys : List (List Int)) (p q : Int) (i : Nat) : Int := dot (enX ys i) (enY ys i) p q
def msP (xs ys : List (List Int)) : Int × Int := if xs.length < 2 ∨ ys.length = 0 then (-1, 0) else maxN (sepE xs ys) xs.length
def ieP (ys : List (List Int)) (p q : Int) : Int := if ys.length < 2 then -1 else (minN (incD ys p q) ys.length).1
theorem maxN_yes {f : Nat → Int} {k : Nat} (h : (maxN f k).1 < 0 ∨ (maxN f k).2 < f k) : maxN f (k + 1) = ((k : Int), f k) := by unfold maxN; rw [if_pos h]
theorem maxN_no {f : Nat → Int} {k : Nat} (h : ¬ ((maxN f k).1 < 0 ∨ (maxN f k).2 < f k)) : maxN f (k + 1) = maxN f k := by rw [maxN, if_neg h]
theorem minN_yes {f : Nat → Int} {k : Nat} (h : (minN f k).1 < 0 ∨ f k < (minN f k).2) : minN f (k + 1) = ((k : Int), f k) := by unfold minN; rw [if_pos h]
theorem minN_no {f : Nat → Int} {k : Nat} (h : ¬ ((minN f k).1 < 0 ∨ f k < (minN f k).2)) : minN f (k + 1) = minN f k := by rw [minN, if_neg h]
theorem sepN_min (p q u v : Int) (ys : List (List Int)) {k : Nat} (h : 0 < k) : sepN p q u v ys (k + 1) = min (sepN p q u v ys k) (sepD p q u v ys k) := by
  rw [sepN]
  by_cases hc : k = 0 ∨ sepD p q u v ys k < sepN p q u v ys k
  · rw [if_pos hc]; omega
  · rw [if_neg hc]; omega
theorem sepN_one (p q u v : Int) (ys : List (List Int)) : sepN p q u v ys 1 = sepD p q u v ys 0 := by simp [sepN]
theorem maxN_bd (f : Nat → Int) : ∀ k, -1 ≤ (maxN f k).1 ∧ (maxN f k).1 < k ∨ (k = 0 ∧ (maxN f k).1 = -1)
  | 0 => Or.inr ⟨rfl, rfl⟩
  | k + 1 => by
    have := maxN_bd f k
    unfold maxN
    split
    · left; simp only; omega
    · left; omega
theorem maxN_pos (f : Nat → Int) : ∀ k, 0 < k → 0 ≤ (maxN f k).1
  | k + 1, _ => by
    unfold maxN
    split
    · simp only; omega
    · rename_i h; omega
theorem minN_pos (f : Nat → Int) : ∀ k, 0 < k → 0 ≤ (minN f k).1
  | k + 1, _ => by
    unfold minN
    split
    · simp only; omega
    · rename_i h; omega
theorem maxN_one (f : Nat → Int) : maxN f 1 = (0, f 0) := by simp [maxN]
theorem minN_one (f : Nat → Int) : minN f 1 = (0, f 0) := by simp [minN]

def c_sat_separation : Con := ⟨44, rowRun [.num 2, .num 2, .rows 2] (fun l R => match l, R with | [p, q, u, v], [ys] => [ys.length ≤ 100000] | _, _ => [False]) fun l R => match l, R with
  | [p, q, u, v], [ys] => .int .i64 (sepN p q u v ys ys.length)
  | _, _ => .any⟩
set_option maxRecDepth 100000 in
set_option maxHeartbeats 2000000 in
theorem con_sat_separation : c_sat_separation.Ok Try.prog := by
  refine con_rows (C := [c_vec2_Sub, c_vec2_Dot]) (pl := [(5, [0, 1, 2, 3, 4, 5, 6, 7, 8], [0, 0, 0, 6, 14, 0, 62, 127, 255])]) Try.func44 rfl (by kernel_rfl) T_ok (Cons.cons con_vec2_Sub (Cons.cons con_vec2_Dot (Cons.nil _))) mixed (by kernel_rfl) _ _ _ (fun l R hl hR hn hpre => ?_)
  match l, hl, R, hR with
  | [p, q, u, v], zl, [(true, ys)], zr =>
    clear zl zr
    obtain rfl : ys = [] := hn _ (List.Mem.head _) rfl
    have hp0 := hpre _ (List.Mem.head _); try dsimp only at hp0
    skip
    repeat' (first | (with_reducible refine And.intro ?_ ?_) | (with_reducible intro h) | ((fail_if_success (with_reducible refine Leaf.mk ?_)); (fail_if_success (with_reducible refine VC.mk ?_)); (fail_if_success (with_reducible refine Goes.mk ?_)); (fail_if_success (with_reducible refine Again.mk ?_)); (fail_if_success (with_reducible refine Rounds.mk ?_)); (fail_if_success (with_reducible show False)); (fail_if_success (with_reducible show True)); conv => whnf))
    all_goals try first | exact trivial | (refine VC.mk ?_; first | trivial | assumption | ((try simp only [InR, decide_eq_true_eq, decide_eq_false_iff_not] at *); omega) | (simp; done))
    all_goals try refine goes_rounds 1 ?_
    all_goals try (refine rounds_one (pl := [(5, [0, 1, 2, 3, 4, 5, 6, 7, 8], [0, 0, 0, 6, 14, 0, 62, 127, 255])]) T_ok (Cons.cons con_vec2_Sub (Cons.cons con_vec2_Dot (Cons.nil _))) mixed (by kernel_rfl) ?_; repeat' (first | (with_reducible refine And.intro ?_ ?_) | (with_reducible intro h) | ((fail_if_success (with_reducible refine Leaf.mk ?_)); (fail_if_success (with_reducible refine VC.mk ?_)); (fail_if_success (with_reducible refine Goes.mk ?_)); (fail_if_success (with_reducible refine Again.mk ?_)); (fail_if_success (with_reducible refine Rounds.mk ?_)); (fail_if_success (with_reducible show False)); (fail_if_success (with_reducible show True)); conv => whnf)))
    all_goals try first | exact trivial | (refine VC.mk ?_; first | trivial | assumption | ((try simp only [InR, decide_eq_true_eq, decide_eq_false_iff_not] at *); omega) | (simp; done))
    all_goals (refine Leaf.mk ?_; first | rfl | simp_all [sepN])
  | [p, q, u, v], zl, [(false, ys)], zr =>
    clear zl zr
    have hp0 := hpre _ (List.Mem.head _); try dsimp only at hp0
    skip
    repeat' (first | (with_reducible refine And.intro ?_ ?_) | (with_reducible intro h) | ((fail_if_success (with_reducible refine Leaf.mk ?_)); (fail_if_success (with_reducible refine VC.mk ?_)); (fail_if_success (with_reducible refine Goes.mk ?_)); (fail_if_success (with_reducible refine Again.mk ?_)); (fail_if_success (with_reducible refine Rounds.mk ?_)); (fail_if_success (with_reducible show False)); (fail_if_success (with_reducible show True)); conv => whnf))
    all_goals try first | exact trivial | (refine VC.mk ?_; first | trivial | assumption | ((try simp only [InR, decide_eq_true_eq, decide_eq_false_iff_not] at *); omega) | (simp; done))
    refine goes_inv (X := Nat) (pl := [(5, [0, 1, 2, 3, 4, 5, 6, 7, 8], [0, 0, 0, 6, 14, 0, 62, 127, 255])]) T_ok (Cons.cons con_vec2_Sub (Cons.cons con_vec2_Dot (Cons.nil _))) mixed (by kernel_rfl)
      (fun k => (.any :: .any :: .sl 0 2 0 ys.length :: .ptr 1 0 :: .ptr 2 0 :: .any :: .any :: .int .i64 (sepN p q u v ys k) :: .any :: .any :: .any :: .int .i64 (ys.length : Int) :: .int .i64 (k : Int) :: .any :: .any :: .any :: .any :: .any :: .any :: .any :: .any :: .any :: .any :: .any :: .any :: .any :: .any :: .any :: .any :: .any :: .any :: .any :: .any :: [], [.arr false true 2 ys, .cells [.int .i64 p, .int .i64 q], .cells [.int .i64 u, .int .i64 v]]))
      (fun k => k ≤ ys.length) (fun k => ys.length - k) 0 [0, 1, 2] (Nat.zero_le _) ?_ ?_ ?_
    · repeat' (first | (with_reducible refine And.intro ?_ ?_) | (with_reducible intro h) | ((fail_if_success (with_reducible refine Leaf.mk ?_)); (fail_if_success (with_reducible refine VC.mk ?_)); (fail_if_success (with_reducible refine Goes.mk ?_)); (fail_if_success (with_reducible refine Again.mk ?_)); (fail_if_success (with_reducible refine Rounds.mk ?_)); (fail_if_success (with_reducible show False)); (fail_if_success (with_reducible show True)); conv => whnf))
      all_goals first | exact trivial | (refine Leaf.mk ?_; first | rfl | exact ⟨rfl, rfl⟩ | (simp; done))
    · repeat' (first | (with_reducible refine And.intro ?_ ?_) | (with_reducible intro h) | ((fail_if_success (with_reducible refine Leaf.mk ?_)); (fail_if_success (with_reducible refine VC.mk ?_)); (fail_if_success (with_reducible refine Goes.mk ?_)); (fail_if_success (with_reducible refine Again.mk ?_)); (fail_if_success (with_reducible refine Rounds.mk ?_)); (fail_if_success (with_reducible show False)); (fail_if_success (with_reducible show True)); conv => whnf))
      all_goals first | exact trivial | (refine Leaf.mk ?_; first | rfl | exact ⟨rfl, rfl⟩ | (simp; done))
    · intro k hx
      repeat' (first | (with_reducible refine And.intro ?_ ?_) | (with_reducible intro h) | ((fail_if_success (with_reducible refine Leaf.mk ?_)); (fail_if_success (with_reducible refine VC.mk ?_)); (fail_if_success (with_reducible refine Goes.mk ?_)); (fail_if_success (with_reducible refine Again.mk ?_)); (fail_if_success (with_reducible refine Rounds.mk ?_)); (fail_if_success (with_reducible show False)); (fail_if_success (with_reducible show True)); conv => whnf))
      all_goals try simp only [decide_eq_true_eq, decide_eq_false_iff_not, tkA, Nat.zero_add, Int.toNat_natCast] at *
      all_goals try first | exact trivial | (refine VC.mk ?_; first | trivial | assumption | ((try simp only [InR, decide_eq_true_eq, decide_eq_false_iff_not] at *); omega) | (simp; done))
      all_goals first
        | (refine Leaf.mk ?_; obtain rfl : k = ys.length := by omega
           rfl)
        | (have hlt : k < ys.length := by omega
           have e1 : 0 + ((k : Int)).toNat = k := by omega
           try simp only [e1] at *
           (refine Again.mk ⟨k + 1, [0, 1, 2], hlt, (by omega), ?_, ?_⟩ <;> (repeat' (first | (with_reducible refine And.intro ?_ ?_) | (with_reducible intro h) | ((fail_if_success (with_reducible refine Leaf.mk ?_)); (fail_if_success (with_reducible refine VC.mk ?_)); (fail_if_success (with_reducible refine Goes.mk ?_)); (fail_if_success (with_reducible refine Again.mk ?_)); (fail_if_success (with_reducible refine Rounds.mk ?_)); (fail_if_success (with_reducible show False)); (fail_if_success (with_reducible show True)); conv => whnf))) <;> first | exact trivial | (refine Leaf.mk ?_; first | rfl | exact ⟨rfl, rfl⟩ | ((try simp only [Nat.zero_add] at *); have hd : dot p q (sub (at2 ys k 0) u) (sub (at2 ys k 1) v) = sepD p q u v ys k := rfl; simp only [hd] at *; simp only [sepN]; first | (rw [if_pos (by omega)]; done) | (rw [if_neg (by omega)]; done)))))
def c_ref14_separation : Con := ⟨45, rowRun [.rows 2, .num 0, .rows 2] (fun l R => match l, R with | [i], [xs, ys] => [xs.length ≤ 100000, ys.length ≤ 100000, 0 ≤ i, i < xs.length, 0 < ys.length] | _, _ => [False]) fun l R => match l, R with
  | [i], [xs, ys] => .int .i64 (sepE xs ys i.toNat)
  | _, _ => .any⟩
set_option maxRecDepth 100000 in
set_option maxHeartbeats 2000000 in
theorem con_ref14_separation : c_ref14_separation.Ok Try.prog := by
  refine con_rows (C := [c_ref14_EdgeNormal, c_ref03_Sub, c_ref03_Dot]) (pl := [(2, [0, 1, 2, 3, 4, 5, 6, 7, 8, 9, 10], [0, 0, 2, 6, 0, 0, 48, 112, 254, 511, 1023]), (6, [0, 1, 2, 3, 4, 5, 6, 7, 8, 9, 10, 11, 12, 13], [0, 0, 0, 0, 12, 28, 0, 0, 192, 448, 1020, 2046, 4095, 8191])]) Try.func45 rfl (by kernel_rfl) T_ok (Cons.cons con_ref14_EdgeNormal (Cons.cons con_ref03_Sub (Cons.cons con_ref03_Dot (Cons.nil _)))) mixed (by kernel_rfl) _ _ _ (fun l R hl hR hn hpre => ?_)
  match l, hl, R, hR with
  | [i], zl, [(true, xs), (true, ys)], zr =>
    clear zl zr
    obtain rfl : xs = [] := hn _ (List.Mem.head _) rfl
    obtain rfl : ys = [] := hn _ (List.Mem.tail _ (List.Mem.head _)) rfl
    have hp0 := hpre _ (List.Mem.head _); try dsimp only at hp0
    have hp1 := hpre _ (List.Mem.tail _ (List.Mem.head _)); try dsimp only at hp1
    have hp2 := hpre _ (List.Mem.tail _ (List.Mem.tail _ (List.Mem.head _))); try dsimp only at hp2
    have hp3 := hpre _ (List.Mem.tail _ (List.Mem.tail _ (List.Mem.tail _ (List.Mem.head _)))); try dsimp only at hp3
    have hp4 := hpre _ (List.Mem.tail _ (List.Mem.tail _ (List.Mem.tail _ (List.Mem.tail _ (List.Mem.head _))))); try dsimp only at hp4
    skip
    exact absurd hp4 (by simp)
  | [i], zl, [(true, xs), (false, ys)], zr =>
    clear zl zr
    obtain rfl : xs = [] := hn _ (List.Mem.head _) rfl
    have hp0 := hpre _ (List.Mem.head _); try dsimp only at hp0
    have hp1 := hpre _ (List.Mem.tail _ (List.Mem.head _)); try dsimp only at hp1
    have hp2 := hpre _ (List.Mem.tail _ (List.Mem.tail _ (List.Mem.head _))); try dsimp only at hp2
    have hp3 := hpre _ (List.Mem.tail _ (List.Mem.tail _ (List.Mem.tail _ (List.Mem.head _)))); try dsimp only at hp3
    have hp4 := hpre _ (List.Mem.tail _ (List.Mem.tail _ (List.Mem.tail _ (List.Mem.tail _ (List.Mem.head _))))); try dsimp only at hp4
    skip
    exact absurd hp3 (by simp only [List.length_nil]; omega)
  | [i], zl, [(false, xs), (true, ys)], zr =>
    clear zl zr
    obtain rfl : ys = [] := hn _ (List.Mem.tail _ (List.Mem.head _)) rfl
    have hp0 := hpre _ (List.Mem.head _); try dsimp only at hp0
    have hp1 := hpre _ (List.Mem.tail _ (List.Mem.head _)); try dsimp only at hp1
    have hp2 := hpre _ (List.Mem.tail _ (List.Mem.tail _ (List.Mem.head _))); try dsimp only at hp2
    have hp3 := hpre _ (List.Mem.tail _ (List.Mem.tail _ (List.Mem.tail _ (List.Mem.head _)))); try dsimp only at hp3
    have hp4 := hpre _ (List.Mem.tail _ (List.Mem.tail _ (List.Mem.tail _ (List.Mem.tail _ (List.Mem.head _))))); try dsimp only at hp4
    skip
    exact absurd hp4 (by simp)
  | [i], zl, [(false, xs), (false, ys)], zr =>
    clear zl zr
    have hp0 := hpre _ (List.Mem.head _); try dsimp only at hp0
    have hp1 := hpre _ (List.Mem.tail _ (List.Mem.head _)); try dsimp only at hp1
    have hp2 := hpre _ (List.Mem.tail _ (List.Mem.tail _ (List.Mem.head _))); try dsimp only at hp2
    have hp3 := hpre _ (List.Mem.tail _ (List.Mem.tail _ (List.Mem.tail _ (List.Mem.head _)))); try dsimp only at hp3
    have hp4 := hpre _ (List.Mem.tail _ (List.Mem.tail _ (List.Mem.tail _ (List.Mem.tail _ (List.Mem.head _))))); try dsimp only at hp4
    skip
    obtain ⟨n, rfl⟩ : ∃ n : Nat, i = n := ⟨i.toNat, by omega⟩
    have hpn : n < xs.length := by omega
    repeat' (first | (with_reducible refine And.intro ?_ ?_) | (with_reducible intro h) | ((fail_if_success (with_reducible refine Leaf.mk ?_)); (fail_if_success (with_reducible refine VC.mk ?_)); (fail_if_success (with_reducible refine Goes.mk ?_)); (fail_if_success (with_reducible refine Again.mk ?_)); (fail_if_success (with_reducible refine Rounds.mk ?_)); (fail_if_success (with_reducible show False)); (fail_if_success (with_reducible show True)); conv => whnf))
    all_goals try simp only [decide_eq_true_eq, decide_eq_false_iff_not, tkA, Nat.zero_add, Int.toNat_natCast] at *
    all_goals try first | exact trivial | (refine VC.mk ?_; first | trivial | assumption | ((try simp only [InR, decide_eq_true_eq, decide_eq_false_iff_not] at *); omega) | (simp; done))
    refine goes_inv (X := Nat) (pl := [(2, [0, 1, 2, 3, 4, 5, 6, 7, 8, 9, 10], [0, 0, 2, 6, 0, 0, 48, 112, 254, 511, 1023]), (6, [0, 1, 2, 3, 4, 5, 6, 7, 8, 9, 10, 11, 12, 13], [0, 0, 0, 0, 12, 28, 0, 0, 192, 448, 1020, 2046, 4095, 8191])]) T_ok (Cons.cons con_ref14_EdgeNormal (Cons.cons con_ref03_Sub (Cons.cons con_ref03_Dot (Cons.nil _)))) mixed (by kernel_rfl)
      (fun k => (.sl 0 2 0 xs.length :: .int .i64 (n : Int) :: .sl 1 2 0 ys.length :: .any :: .any :: .any :: .any :: .ptr 2 0 :: .int .i64 (sepN (enX xs n) (enY xs n) (at2 xs n 0) (at2 xs n 1) ys k) :: .int .i64 (k : Int) :: .any :: .any :: .any :: .any :: .any :: .any :: .any :: .any :: .any :: .any :: .any :: .any :: .any :: .any :: .any :: .any :: .any :: .any :: .any :: .any :: .any :: .any :: .any :: .any :: .any :: .any :: .any :: .any :: .any :: .any :: .any :: .any :: .any :: [], [.arr false true 2 xs, .arr false true 2 ys, .cells [.int .i64 (enX xs n), .int .i64 (enY xs n)]]))
      (fun k => 1 ≤ k ∧ k ≤ ys.length) (fun k => ys.length - k) 1 [0, 1, 2] ⟨Nat.le_refl _, by omega⟩ ?_ ?_ ?_
    · repeat' (first | (with_reducible refine And.intro ?_ ?_) | (with_reducible intro h) | ((fail_if_success (with_reducible refine Leaf.mk ?_)); (fail_if_success (with_reducible refine VC.mk ?_)); (fail_if_success (with_reducible refine Goes.mk ?_)); (fail_if_success (with_reducible refine Again.mk ?_)); (fail_if_success (with_reducible refine Rounds.mk ?_)); (fail_if_success (with_reducible show False)); (fail_if_success (with_reducible show True)); conv => whnf))
      all_goals first | exact trivial | (refine Leaf.mk ?_; first | rfl | exact ⟨rfl, rfl⟩ | (rw [sepN_one]; simp [sepD]; done) | (rw [maxN_one]; simp; done) | (rw [minN_one]; simp [incD]; done) | (simp; done))
    · repeat' (first | (with_reducible refine And.intro ?_ ?_) | (with_reducible intro h) | ((fail_if_success (with_reducible refine Leaf.mk ?_)); (fail_if_success (with_reducible refine VC.mk ?_)); (fail_if_success (with_reducible refine Goes.mk ?_)); (fail_if_success (with_reducible refine Again.mk ?_)); (fail_if_success (with_reducible refine Rounds.mk ?_)); (fail_if_success (with_reducible show False)); (fail_if_success (with_reducible show True)); conv => whnf))
      all_goals first | exact trivial | (refine Leaf.mk ?_; first | rfl | exact ⟨rfl, rfl⟩ | (rw [sepN_one]; simp [sepD]; done) | (rw [maxN_one]; simp; done) | (rw [minN_one]; simp [incD]; done) | (simp; done))
    · intro k hx
      obtain ⟨hx1, hx2⟩ := hx
      repeat' (first | (with_reducible refine And.intro ?_ ?_) | (with_reducible intro h) | ((fail_if_success (with_reducible refine Leaf.mk ?_)); (fail_if_success (with_reducible refine VC.mk ?_)); (fail_if_success (with_reducible refine Goes.mk ?_)); (fail_if_success (with_reducible refine Again.mk ?_)); (fail_if_success (with_reducible refine Rounds.mk ?_)); (fail_if_success (with_reducible show False)); (fail_if_success (with_reducible show True)); conv => whnf))
      all_goals try simp only [decide_eq_true_eq, decide_eq_false_iff_not, tkA, Nat.zero_add, Int.toNat_natCast] at *
      all_goals try first | exact trivial | (refine VC.mk ?_; first | trivial | assumption | ((try simp only [InR, decide_eq_true_eq, decide_eq_false_iff_not] at *); omega) | (simp; done))
      all_goals first
        | (refine Leaf.mk ?_; obtain rfl : k = ys.length := by omega
           rfl)
        | (have hlt : k < ys.length := by omega
           have hd : dot (enX xs n) (enY xs n) (sub (at2 ys k 0) (at2 xs n 0)) (sub (at2 ys k 1) (at2 xs n 1)) = sepD (enX xs n) (enY xs n) (at2 xs n 0) (at2 xs n 1) ys k := rfl
           have hm := sepN_min (enX xs n) (enY xs n) (at2 xs n 0) (at2 xs n 1) ys (k := k) (by omega)
           (refine Again.mk ⟨k + 1, [0, 1, 2], ⟨by omega, hlt⟩, (by omega), ?_, ?_⟩ <;> (repeat' (first | (with_reducible refine And.intro ?_ ?_) | (with_reducible intro h) | ((fail_if_success (with_reducible refine Leaf.mk ?_)); (fail_if_success (with_reducible refine VC.mk ?_)); (fail_if_success (with_reducible refine Goes.mk ?_)); (fail_if_success (with_reducible refine Again.mk ?_)); (fail_if_success (with_reducible refine Rounds.mk ?_)); (fail_if_success (with_reducible show False)); (fail_if_success (with_reducible show True)); conv => whnf))) <;> first | exact trivial | (refine Leaf.mk ?_; first | rfl | exact ⟨rfl, rfl⟩ | (rw [hm, ← hd]; done) | (simp only [Nat.zero_add, Int.toNat_natCast] at *; rw [hm, ← hd]; done))))
def c_sat_MaxSeparation : Con := ⟨16, rowRun [.rows 2, .rows 2] (fun l R => match l, R with | [], [xs, ys] => [xs.length ≤ 100000, ys.length ≤ 100000] | _, _ => [False]) fun l R => match l, R with
  | [], [xs, ys] => .tup [.int .i64 ((msP xs ys).1), .int .i64 ((msP xs ys).2)]
  | _, _ => .any⟩
set_option maxRecDepth 100000 in
set_option maxHeartbeats 2000000 in
theorem con_sat_MaxSeparation : c_sat_MaxSeparation.Ok Try.prog := by
  refine con_rows (C := [c_sat_EdgeNormal, c_sat_separation]) (pl := [(7, [0, 1, 2, 3, 4, 5, 6, 7, 8, 9], [0, 0, 3, 0, 0, 24, 56, 0, 255, 511])]) Try.func16 rfl (by kernel_rfl) T_ok (Cons.cons con_sat_EdgeNormal (Cons.cons con_sat_separation (Cons.nil _))) mixed (by kernel_rfl) _ _ _ (fun l R hl hR hn hpre => ?_)
  match l, hl, R, hR with
  | [], zl, [(true, xs), (true, ys)], zr =>
    clear zl zr
    obtain rfl : xs = [] := hn _ (List.Mem.head _) rfl
    obtain rfl : ys = [] := hn _ (List.Mem.tail _ (List.Mem.head _)) rfl
    have hp0 := hpre _ (List.Mem.head _); try dsimp only at hp0
    have hp1 := hpre _ (List.Mem.tail _ (List.Mem.head _)); try dsimp only at hp1
    skip
    repeat' (first | (with_reducible refine And.intro ?_ ?_) | (with_reducible intro h) | ((fail_if_success (with_reducible refine Leaf.mk ?_)); (fail_if_success (with_reducible refine VC.mk ?_)); (fail_if_success (with_reducible refine Goes.mk ?_)); (fail_if_success (with_reducible refine Again.mk ?_)); (fail_if_success (with_reducible refine Rounds.mk ?_)); (fail_if_success (with_reducible show False)); (fail_if_success (with_reducible show True)); conv => whnf))
    all_goals try simp only [decide_eq_true_eq, decide_eq_false_iff_not, tkA, Nat.zero_add, Int.toNat_natCast] at *
    all_goals try first | exact trivial | (refine VC.mk ?_; first | trivial | assumption | ((try simp only [InR, decide_eq_true_eq, decide_eq_false_iff_not] at *); omega) | (simp; done))
    all_goals (refine Leaf.mk ?_; simp_all [msP])
  | [], zl, [(true, xs), (false, ys)], zr =>
    clear zl zr
    obtain rfl : xs = [] := hn _ (List.Mem.head _) rfl
    have hp0 := hpre _ (List.Mem.head _); try dsimp only at hp0
    have hp1 := hpre _ (List.Mem.tail _ (List.Mem.head _)); try dsimp only at hp1
    skip
    repeat' (first | (with_reducible refine And.intro ?_ ?_) | (with_reducible intro h) | ((fail_if_success (with_reducible refine Leaf.mk ?_)); (fail_if_success (with_reducible refine VC.mk ?_)); (fail_if_success (with_reducible refine Goes.mk ?_)); (fail_if_success (with_reducible refine Again.mk ?_)); (fail_if_success (with_reducible refine Rounds.mk ?_)); (fail_if_success (with_reducible show False)); (fail_if_success (with_reducible show True)); conv => whnf))
    all_goals try simp only [decide_eq_true_eq, decide_eq_false_iff_not, tkA, Nat.zero_add, Int.toNat_natCast] at *
    all_goals try first | exact trivial | (refine VC.mk ?_; first | trivial | assumption | ((try simp only [InR, decide_eq_true_eq, decide_eq_false_iff_not] at *); omega) | (simp; done))
    all_goals (refine Leaf.mk ?_; simp_all [msP])
  | [], zl, [(false, xs), (true, ys)], zr =>
    clear zl zr
    obtain rfl : ys = [] := hn _ (List.Mem.tail _ (List.Mem.head _)) rfl
    have hp0 := hpre _ (List.Mem.head _); try dsimp only at hp0
    have hp1 := hpre _ (List.Mem.tail _ (List.Mem.head _)); try dsimp only at hp1
    skip
    repeat' (first | (with_reducible refine And.intro ?_ ?_) | (with_reducible intro h) | ((fail_if_success (with_reducible refine Leaf.mk ?_)); (fail_if_success (with_reducible refine VC.mk ?_)); (fail_if_success (with_reducible refine Goes.mk ?_)); (fail_if_success (with_reducible refine Again.mk ?_)); (fail_if_success (with_reducible refine Rounds.mk ?_)); (fail_if_success (with_reducible show False)); (fail_if_success (with_reducible show True)); conv => whnf))
    all_goals try simp only [decide_eq_true_eq, decide_eq_false_iff_not, tkA, Nat.zero_add, Int.toNat_natCast] at *
    all_goals try first | exact trivial | (refine VC.mk ?_; first | trivial | assumption | ((try simp only [InR, decide_eq_true_eq, decide_eq_false_iff_not] at *); omega) | (simp; done))
    all_goals (refine Leaf.mk ?_; simp_all [msP])
  | [], zl, [(false, xs), (false, ys)], zr =>
    clear zl zr
    have hp0 := hpre _ (List.Mem.head _); try dsimp only at hp0
    have hp1 := hpre _ (List.Mem.tail _ (List.Mem.head _)); try dsimp only at hp1
    skip
    repeat' (first | (with_reducible refine And.intro ?_ ?_) | (with_reducible intro h) | ((fail_if_success (with_reducible refine Leaf.mk ?_)); (fail_if_success (with_reducible refine VC.mk ?_)); (fail_if_success (with_reducible refine Goes.mk ?_)); (fail_if_success (with_reducible refine Again.mk ?_)); (fail_if_success (with_reducible refine Rounds.mk ?_)); (fail_if_success (with_reducible show False)); (fail_if_success (with_reducible show True)); conv => whnf))
    all_goals try simp only [decide_eq_true_eq, decide_eq_false_iff_not, tkA, Nat.zero_add, Int.toNat_natCast] at *
    all_goals try first | exact trivial | (refine VC.mk ?_; first | trivial | assumption | ((try simp only [InR, decide_eq_true_eq, decide_eq_false_iff_not] at *); omega) | (simp; done))
    all_goals try (refine Leaf.mk ?_; simp only [msP]; rw [if_pos (by omega)]; done)
    refine goes_inv (X := Nat) (pl := [(7, [0, 1, 2, 3, 4, 5, 6, 7, 8, 9], [0, 0, 3, 0, 0, 24, 56, 0, 255, 511])]) T_ok (Cons.cons con_sat_EdgeNormal (Cons.cons con_sat_separation (Cons.nil _))) mixed (by kernel_rfl)
      (fun k => (.sl 0 2 0 xs.length :: .sl 1 2 0 ys.length :: .any :: .any :: .any :: .any :: .int .i64 (maxN (sepE xs ys) k).1 :: .int .i64 (maxN (sepE xs ys) k).2 :: .any :: .any :: .any :: .any :: .any :: .any :: .any :: .any :: .any :: .any :: .any :: .int .i64 (xs.length : Int) :: .int .i64 (k : Int) :: .any :: .any :: .any :: .any :: .any :: .any :: .any :: .any :: .any :: .any :: .any :: .any :: .any :: .any :: .any :: .any :: .any :: .any :: .any :: .any :: .any :: .any :: .any :: [], [.arr false true 2 xs, .arr false true 2 ys]))
      (fun k => k ≤ xs.length) (fun k => xs.length - k) 0 [0, 1] (Nat.zero_le _) ?_ ?_ ?_
    · repeat' (first | (with_reducible refine And.intro ?_ ?_) | (with_reducible intro h) | ((fail_if_success (with_reducible refine Leaf.mk ?_)); (fail_if_success (with_reducible refine VC.mk ?_)); (fail_if_success (with_reducible refine Goes.mk ?_)); (fail_if_success (with_reducible refine Again.mk ?_)); (fail_if_success (with_reducible refine Rounds.mk ?_)); (fail_if_success (with_reducible show False)); (fail_if_success (with_reducible show True)); conv => whnf))
      all_goals first | exact trivial | (refine Leaf.mk ?_; first | rfl | exact ⟨rfl, rfl⟩ | (rw [sepN_one]; simp [sepD]; done) | (rw [maxN_one]; simp; done) | (rw [minN_one]; simp [incD]; done) | (simp; done))
    · repeat' (first | (with_reducible refine And.intro ?_ ?_) | (with_reducible intro h) | ((fail_if_success (with_reducible refine Leaf.mk ?_)); (fail_if_success (with_reducible refine VC.mk ?_)); (fail_if_success (with_reducible refine Goes.mk ?_)); (fail_if_success (with_reducible refine Again.mk ?_)); (fail_if_success (with_reducible refine Rounds.mk ?_)); (fail_if_success (with_reducible show False)); (fail_if_success (with_reducible show True)); conv => whnf))
      all_goals first | exact trivial | (refine Leaf.mk ?_; first | rfl | exact ⟨rfl, rfl⟩ | (rw [sepN_one]; simp [sepD]; done) | (rw [maxN_one]; simp; done) | (rw [minN_one]; simp [incD]; done) | (simp; done))
    · intro k hx
      repeat' (first | (with_reducible refine And.intro ?_ ?_) | (with_reducible intro h) | ((fail_if_success (with_reducible refine Leaf.mk ?_)); (fail_if_success (with_reducible refine VC.mk ?_)); (fail_if_success (with_reducible refine Goes.mk ?_)); (fail_if_success (with_reducible refine Again.mk ?_)); (fail_if_success (with_reducible refine Rounds.mk ?_)); (fail_if_success (with_reducible show False)); (fail_if_success (with_reducible show True)); conv => whnf))
      all_goals try simp only [decide_eq_true_eq, decide_eq_false_iff_not, tkA, Nat.zero_add, Int.toNat_natCast] at *
      all_goals try first | exact trivial | (refine VC.mk ?_; first | trivial | assumption | ((try simp only [InR, decide_eq_true_eq, decide_eq_false_iff_not] at *); omega) | (simp; done))
      all_goals first
        | (refine Leaf.mk ?_; obtain rfl : k = xs.length := by omega
           simp only [msP]; rw [if_neg (by omega)]; done)
        | (have hlt : k < xs.length := by omega
           have hd : sepN (enX xs k) (enY xs k) (at2 xs k 0) (at2 xs k 1) ys ys.length = sepE xs ys k := rfl
           (refine Again.mk ⟨k + 1, [0, 1], hlt, (by omega), ?_, ?_⟩ <;> (repeat' (first | (with_reducible refine And.intro ?_ ?_) | (with_reducible intro h) | ((fail_if_success (with_reducible refine Leaf.mk ?_)); (fail_if_success (with_reducible refine VC.mk ?_)); (fail_if_success (with_reducible refine Goes.mk ?_)); (fail_if_success (with_reducible refine Again.mk ?_)); (fail_if_success (with_reducible refine Rounds.mk ?_)); (fail_if_success (with_reducible show False)); (fail_if_success (with_reducible show True)); conv => whnf))) <;> first | exact trivial | (refine Leaf.mk ?_; (try simp only [Nat.zero_add, Int.toNat_natCast, tkA] at *) <;> first | rfl | exact ⟨rfl, rfl⟩ | (simp; done) | (simp only [hd] at *; first | (rw [maxN_yes (by omega)]; done) | (rw [maxN_no (by omega)]; done)) | (rw [maxN_yes (by omega)]; done) | (rw [maxN_no (by omega)]; done))))
def c_ref14_MaxSeparation : Con := ⟨17, rowRun [.rows 2, .rows 2] (fun l R => match l, R with | [], [xs, ys] => [xs.length ≤ 100000, ys.length ≤ 100000] | _, _ => [False]) fun l R => match l, R with
  | [], [xs, ys] => .tup [.int .i64 ((msP xs ys).1), .int .i64 ((msP xs ys).2)]
  | _, _ => .any⟩
set_option maxRecDepth 100000 in
set_option maxHeartbeats 2000000 in
theorem con_ref14_MaxSeparation : c_ref14_MaxSeparation.Ok Try.prog := by
  refine con_rows (C := [c_ref14_separation]) (pl := []) Try.func17 rfl (by kernel_rfl) T_ok (Cons.cons con_ref14_separation (Cons.nil _)) mixed (by kernel_rfl) _ _ _ (fun l R hl hR hn hpre => ?_)
  match l, hl, R, hR with
  | [], zl, [(true, xs), (true, ys)], zr =>
    clear zl zr
    obtain rfl : xs = [] := hn _ (List.Mem.head _) rfl
    obtain rfl : ys = [] := hn _ (List.Mem.tail _ (List.Mem.head _)) rfl
    have hp0 := hpre _ (List.Mem.head _); try dsimp only at hp0
    have hp1 := hpre _ (List.Mem.tail _ (List.Mem.head _)); try dsimp only at hp1
    skip
    repeat' (first | (with_reducible refine And.intro ?_ ?_) | (with_reducible intro h) | ((fail_if_success (with_reducible refine Leaf.mk ?_)); (fail_if_success (with_reducible refine VC.mk ?_)); (fail_if_success (with_reducible refine Goes.mk ?_)); (fail_if_success (with_reducible refine Again.mk ?_)); (fail_if_success (with_reducible refine Rounds.mk ?_)); (fail_if_success (with_reducible show False)); (fail_if_success (with_reducible show True)); conv => whnf))
    all_goals try simp only [decide_eq_true_eq, decide_eq_false_iff_not, tkA, Nat.zero_add, Int.toNat_natCast] at *
    all_goals try first | exact trivial | (refine VC.mk ?_; first | trivial | assumption | ((try simp only [InR, decide_eq_true_eq, decide_eq_false_iff_not] at *); omega) | (simp; done))
    all_goals (refine Leaf.mk ?_; simp_all [msP])
  | [], zl, [(true, xs), (false, ys)], zr =>
    clear zl zr
    obtain rfl : xs = [] := hn _ (List.Mem.head _) rfl
    have hp0 := hpre _ (List.Mem.head _); try dsimp only at hp0
    have hp1 := hpre _ (List.Mem.tail _ (List.Mem.head _)); try dsimp only at hp1
    skip
    repeat' (first | (with_reducible refine And.intro ?_ ?_) | (with_reducible intro h) | ((fail_if_success (with_reducible refine Leaf.mk ?_)); (fail_if_success (with_reducible refine VC.mk ?_)); (fail_if_success (with_reducible refine Goes.mk ?_)); (fail_if_success (with_reducible refine Again.mk ?_)); (fail_if_success (with_reducible refine Rounds.mk ?_)); (fail_if_success (with_reducible show False)); (fail_if_success (with_reducible show True)); conv => whnf))
    all_goals try simp only [decide_eq_true_eq, decide_eq_false_iff_not, tkA, Nat.zero_add, Int.toNat_natCast] at *
    all_goals try first | exact trivial | (refine VC.mk ?_; first | trivial | assumption | ((try simp only [InR, decide_eq_true_eq, decide_eq_false_iff_not] at *); omega) | (simp; done))
    all_goals (refine Leaf.mk ?_; simp_all [msP])
  | [], zl, [(false, xs), (true, ys)], zr =>
    clear zl zr
    obtain rfl : ys = [] := hn _ (List.Mem.tail _ (List.Mem.head _)) rfl
    have hp0 := hpre _ (List.Mem.head _); try dsimp only at hp0
    have hp1 := hpre _ (List.Mem.tail _ (List.Mem.head _)); try dsimp only at hp1
    skip
    repeat' (first | (with_reducible refine And.intro ?_ ?_) | (with_reducible intro h) | ((fail_if_success (with_reducible refine Leaf.mk ?_)); (fail_if_success (with_reducible refine VC.mk ?_)); (fail_if_success (with_reducible refine Goes.mk ?_)); (fail_if_success (with_reducible refine Again.mk ?_)); (fail_if_success (with_reducible refine Rounds.mk ?_)); (fail_if_success (with_reducible show False)); (fail_if_success (with_reducible show True)); conv => whnf))
    all_goals try simp only [decide_eq_true_eq, decide_eq_false_iff_not, tkA, Nat.zero_add, Int.toNat_natCast] at *
    all_goals try first | exact trivial | (refine VC.mk ?_; first | trivial | assumption | ((try simp only [InR, decide_eq_true_eq, decide_eq_false_iff_not] at *); omega) | (simp; done))
    all_goals (refine Leaf.mk ?_; simp_all [msP])
  | [], zl, [(false, xs), (false, ys)], zr =>
    clear zl zr
    have hp0 := hpre _ (List.Mem.head _); try dsimp only at hp0
    have hp1 := hpre _ (List.Mem.tail _ (List.Mem.head _)); try dsimp only at hp1
    skip
    repeat' (first | (with_reducible refine And.intro ?_ ?_) | (with_reducible intro h) | ((fail_if_success (with_reducible refine Leaf.mk ?_)); (fail_if_success (with_reducible refine VC.mk ?_)); (fail_if_success (with_reducible refine Goes.mk ?_)); (fail_if_success (with_reducible refine Again.mk ?_)); (fail_if_success (with_reducible refine Rounds.mk ?_)); (fail_if_success (with_reducible show False)); (fail_if_success (with_reducible show True)); conv => whnf))
    all_goals try simp only [decide_eq_true_eq, decide_eq_false_iff_not, tkA, Nat.zero_add, Int.toNat_natCast] at *
    all_goals try first | exact trivial | (refine VC.mk ?_; first | trivial | assumption | ((try simp only [InR, decide_eq_true_eq, decide_eq_false_iff_not] at *); omega) | (simp; done))
    all_goals try (refine Leaf.mk ?_; simp only [msP]; rw [if_pos (by omega)]; done)
    refine goes_inv (X := Nat) (pl := []) T_ok (Cons.cons con_ref14_separation (Cons.nil _)) mixed (by kernel_rfl)
      (fun k => (.sl 0 2 0 xs.length :: .sl 1 2 0 ys.length :: .any :: .any :: .any :: .any :: .int .i64 (maxN (sepE xs ys) k).1 :: .int .i64 (maxN (sepE xs ys) k).2 :: .int .i64 (k : Int) :: .any :: .any :: .any :: .any :: .any :: .any :: .any :: .any :: .any :: .any :: .any :: .any :: .any :: .any :: .any :: .any :: .any :: .any :: .any :: .any :: .any :: .any :: .any :: .any :: .any :: .any :: .any :: .any :: .any :: [], [.arr false true 2 xs, .arr false true 2 ys]))
      (fun k => 1 ≤ k ∧ k ≤ xs.length) (fun k => xs.length - k) 1 [0, 1] ⟨Nat.le_refl _, by omega⟩ ?_ ?_ ?_
    · repeat' (first | (with_reducible refine And.intro ?_ ?_) | (with_reducible intro h) | ((fail_if_success (with_reducible refine Leaf.mk ?_)); (fail_if_success (with_reducible refine VC.mk ?_)); (fail_if_success (with_reducible refine Goes.mk ?_)); (fail_if_success (with_reducible refine Again.mk ?_)); (fail_if_success (with_reducible refine Rounds.mk ?_)); (fail_if_success (with_reducible show False)); (fail_if_success (with_reducible show True)); conv => whnf))
      all_goals first | exact trivial | (refine Leaf.mk ?_; first | rfl | exact ⟨rfl, rfl⟩ | (rw [sepN_one]; simp [sepD]; done) | (rw [maxN_one]; simp; done) | (rw [minN_one]; simp [incD]; done) | (simp; done))
    · repeat' (first | (with_reducible refine And.intro ?_ ?_) | (with_reducible intro h) | ((fail_if_success (with_reducible refine Leaf.mk ?_)); (fail_if_success (with_reducible refine VC.mk ?_)); (fail_if_success (with_reducible refine Goes.mk ?_)); (fail_if_success (with_reducible refine Again.mk ?_)); (fail_if_success (with_reducible refine Rounds.mk ?_)); (fail_if_success (with_reducible show False)); (fail_if_success (with_reducible show True)); conv => whnf))
      all_goals first | exact trivial | (refine Leaf.mk ?_; first | rfl | exact ⟨rfl, rfl⟩ | (rw [sepN_one]; simp [sepD]; done) | (rw [maxN_one]; simp; done) | (rw [minN_one]; simp [incD]; done) | (simp; done))
    · intro k hx
      obtain ⟨hx1, hx2⟩ := hx
      repeat' (first | (with_reducible refine And.intro ?_ ?_) | (with_reducible intro h) | ((fail_if_success (with_reducible refine Leaf.mk ?_)); (fail_if_success (with_reducible refine VC.mk ?_)); (fail_if_success (with_reducible refine Goes.mk ?_)); (fail_if_success (with_reducible refine Again.mk ?_)); (fail_if_success (with_reducible refine Rounds.mk ?_)); (fail_if_success (with_reducible show False)); (fail_if_success (with_reducible show True)); conv => whnf))
      all_goals try simp only [decide_eq_true_eq, decide_eq_false_iff_not, tkA, Nat.zero_add, Int.toNat_natCast] at *
      all_goals try first | exact trivial | (refine VC.mk ?_; first | trivial | assumption | ((try simp only [InR, decide_eq_true_eq, decide_eq_false_iff_not] at *); omega) | (simp; done))
      all_goals first
        | (refine Leaf.mk ?_; obtain rfl : k = xs.length := by omega
           simp only [msP]; rw [if_neg (by omega)]; done)
        | (have hlt : k < xs.length := by omega
           have hd := maxN_pos (sepE xs ys) k (by omega)
           (refine Again.mk ⟨k + 1, [0, 1], ⟨by omega, hlt⟩, (by omega), ?_, ?_⟩ <;> (repeat' (first | (with_reducible refine And.intro ?_ ?_) | (with_reducible intro h) | ((fail_if_success (with_reducible refine Leaf.mk ?_)); (fail_if_success (with_reducible refine VC.mk ?_)); (fail_if_success (with_reducible refine Goes.mk ?_)); (fail_if_success (with_reducible refine Again.mk ?_)); (fail_if_success (with_reducible refine Rounds.mk ?_)); (fail_if_success (with_reducible show False)); (fail_if_success (with_reducible show True)); conv => whnf))) <;> first | exact trivial | (refine Leaf.mk ?_; (try simp only [Nat.zero_add, Int.toNat_natCast, tkA] at *) <;> first | rfl | exact ⟨rfl, rfl⟩ | (simp; done) | (simp only [hd] at *; first | (rw [maxN_yes (by omega)]; done) | (rw [maxN_no (by omega)]; done)) | (rw [maxN_yes (by omega)]; done) | (rw [maxN_no (by omega)]; done))))
def c_sat_IncidentEdge : Con := ⟨22, rowRun [.rows 2, .num 2] (fun l R => match l, R with | [p, q], [ys] => [ys.length ≤ 100000] | _, _ => [False]) fun l R => match l, R with
  | [p, q], [ys] => .int .i64 (ieP ys p q)
  | _, _ => .any⟩
set_option maxRecDepth 100000 in
set_option maxHeartbeats 2000000 in
theorem con_sat_IncidentEdge : c_sat_IncidentEdge.Ok Try.prog := by
  refine con_rows (C := [c_sat_EdgeNormal, c_vec2_Dot]) (pl := [(7, [0, 1, 2, 3, 4, 5], [0, 0, 3, 0, 15, 31])]) Try.func22 rfl (by kernel_rfl) T_ok (Cons.cons con_sat_EdgeNormal (Cons.cons con_vec2_Dot (Cons.nil _))) mixed (by kernel_rfl) _ _ _ (fun l R hl hR hn hpre => ?_)
  match l, hl, R, hR with
  | [p, q], zl, [(true, ys)], zr =>
    clear zl zr
    obtain rfl : ys = [] := hn _ (List.Mem.head _) rfl
    have hp0 := hpre _ (List.Mem.head _); try dsimp only at hp0
    skip
    repeat' (first | (with_reducible refine And.intro ?_ ?_) | (with_reducible intro h) | ((fail_if_success (with_reducible refine Leaf.mk ?_)); (fail_if_success (with_reducible refine VC.mk ?_)); (fail_if_success (with_reducible refine Goes.mk ?_)); (fail_if_success (with_reducible refine Again.mk ?_)); (fail_if_success (with_reducible refine Rounds.mk ?_)); (fail_if_success (with_reducible show False)); (fail_if_success (with_reducible show True)); conv => whnf))
    all_goals try simp only [decide_eq_true_eq, decide_eq_false_iff_not, tkA, Nat.zero_add, Int.toNat_natCast] at *
    all_goals try first | exact trivial | (refine VC.mk ?_; first | trivial | assumption | ((try simp only [InR, decide_eq_true_eq, decide_eq_false_iff_not] at *); omega) | (simp; done))
    all_goals (refine Leaf.mk ?_; simp_all [ieP])
  | [p, q], zl, [(false, ys)], zr =>
    clear zl zr
    have hp0 := hpre _ (List.Mem.head _); try dsimp only at hp0
    skip
    repeat' (first | (with_reducible refine And.intro ?_ ?_) | (with_reducible intro h) | ((fail_if_success (with_reducible refine Leaf.mk ?_)); (fail_if_success (with_reducible refine VC.mk ?_)); (fail_if_success (with_reducible refine Goes.mk ?_)); (fail_if_success (with_reducible refine Again.mk ?_)); (fail_if_success (with_reducible refine Rounds.mk ?_)); (fail_if_success (with_reducible show False)); (fail_if_success (with_reducible show True)); conv => whnf))
    all_goals try simp only [decide_eq_true_eq, decide_eq_false_iff_not, tkA, Nat.zero_add, Int.toNat_natCast] at *
    all_goals try first | exact trivial | (refine VC.mk ?_; first | trivial | assumption | ((try simp only [InR, decide_eq_true_eq, decide_eq_false_iff_not] at *); omega) | (simp; done))
    all_goals try (refine Leaf.mk ?_; simp only [ieP]; rw [if_pos (by omega)]; done)
    refine goes_inv (X := Nat) (pl := [(7, [0, 1, 2, 3, 4, 5], [0, 0, 3, 0, 15, 31])]) T_ok (Cons.cons con_sat_EdgeNormal (Cons.cons con_vec2_Dot (Cons.nil _))) mixed (by kernel_rfl)
      (fun k => (.sl 0 2 0 ys.length :: .any :: .any :: .ptr 1 0 :: .any :: .int .i64 (minN (incD ys p q) k).1 :: .int .i64 (minN (incD ys p q) k).2 :: .any :: .any :: .any :: .any :: .any :: .any :: .int .i64 (ys.length : Int) :: .int .i64 (k : Int) :: .any :: .any :: .any :: .any :: .any :: .any :: .any :: .any :: .any :: .any :: .any :: .any :: .any :: .any :: .any :: .any :: .any :: .any :: [], [.arr false true 2 ys, .cells [.int .i64 p, .int .i64 q]]))
      (fun k => k ≤ ys.length) (fun k => ys.length - k) 0 [0, 1] (Nat.zero_le _) ?_ ?_ ?_
    · repeat' (first | (with_reducible refine And.intro ?_ ?_) | (with_reducible intro h) | ((fail_if_success (with_reducible refine Leaf.mk ?_)); (fail_if_success (with_reducible refine VC.mk ?_)); (fail_if_success (with_reducible refine Goes.mk ?_)); (fail_if_success (with_reducible refine Again.mk ?_)); (fail_if_success (with_reducible refine Rounds.mk ?_)); (fail_if_success (with_reducible show False)); (fail_if_success (with_reducible show True)); conv => whnf))
      all_goals first | exact trivial | (refine Leaf.mk ?_; first | rfl | exact ⟨rfl, rfl⟩ | (rw [sepN_one]; simp [sepD]; done) | (rw [maxN_one]; simp; done) | (rw [minN_one]; simp [incD]; done) | (simp; done))
    · repeat' (first | (with_reducible refine And.intro ?_ ?_) | (with_reducible intro h) | ((fail_if_success (with_reducible refine Leaf.mk ?_)); (fail_if_success (with_reducible refine VC.mk ?_)); (fail_if_success (with_reducible refine Goes.mk ?_)); (fail_if_success (with_reducible refine Again.mk ?_)); (fail_if_success (with_reducible refine Rounds.mk ?_)); (fail_if_success (with_reducible show False)); (fail_if_success (with_reducible show True)); conv => whnf))
      all_goals first | exact trivial | (refine Leaf.mk ?_; first | rfl | exact ⟨rfl, rfl⟩ | (rw [sepN_one]; simp [sepD]; done) | (rw [maxN_one]; simp; done) | (rw [minN_one]; simp [incD]; done) | (simp; done))
    · intro k hx
      repeat' (first | (with_reducible refine And.intro ?_ ?_) | (with_reducible intro h) | ((fail_if_success (with_reducible refine Leaf.mk ?_)); (fail_if_success (with_reducible refine VC.mk ?_)); (fail_if_success (with_reducible refine Goes.mk ?_)); (fail_if_success (with_reducible refine Again.mk ?_)); (fail_if_success (with_reducible refine Rounds.mk ?_)); (fail_if_success (with_reducible show False)); (fail_if_success (with_reducible show True)); conv => whnf))
      all_goals try simp only [decide_eq_true_eq, decide_eq_false_iff_not, tkA, Nat.zero_add, Int.toNat_natCast] at *
      all_goals try first | exact trivial | (refine VC.mk ?_; first | trivial | assumption | ((try simp only [InR, decide_eq_true_eq, decide_eq_false_iff_not] at *); omega) | (simp; done))
      all_goals first
        | (refine Leaf.mk ?_; obtain rfl : k = ys.length := by omega
           simp only [ieP]; rw [if_neg (by omega)]; done)
        | (have hlt : k < ys.length := by omega
           have hd : dot (enX ys k) (enY ys k) p q = incD ys p q k := rfl
           (refine Again.mk ⟨k + 1, [0, 1], hlt, (by omega), ?_, ?_⟩ <;> (repeat' (first | (with_reducible refine And.intro ?_ ?_) | (with_reducible intro h) | ((fail_if_success (with_reducible refine Leaf.mk ?_)); (fail_if_success (with_reducible refine VC.mk ?_)); (fail_if_success (with_reducible refine Goes.mk ?_)); (fail_if_success (with_reducible refine Again.mk ?_)); (fail_if_success (with_reducible refine Rounds.mk ?_)); (fail_if_success (with_reducible show False)); (fail_if_success (with_reducible show True)); conv => whnf))) <;> first | exact trivial | (refine Leaf.mk ?_; (try simp only [Nat.zero_add, Int.toNat_natCast, tkA] at *) <;> first | rfl | exact ⟨rfl, rfl⟩ | (simp; done) | (simp only [hd] at *; first | (rw [minN_yes (by omega)]; done) | (rw [minN_no (by omega)]; done)) | (rw [minN_yes (by omega)]; done) | (rw [minN_no (by omega)]; done))))
def c_ref14_IncidentEdge : Con := ⟨23, rowRun [.rows 2, .num 2] (fun l R => match l, R with | [p, q], [ys] => [ys.length ≤ 100000] | _, _ => [False]) fun l R => match l, R with
  | [p, q], [ys] => .int .i64 (ieP ys p q)
  | _, _ => .any⟩
set_option maxRecDepth 100000 in
set_option maxHeartbeats 2000000 in
theorem con_ref14_IncidentEdge : c_ref14_IncidentEdge.Ok Try.prog := by
  refine con_rows (C := [c_ref14_EdgeNormal, c_ref03_Dot]) (pl := [(3, [0, 1, 2, 3, 4, 5], [0, 1, 0, 7, 15, 31]), (7, [0, 1, 2, 3, 4, 5], [0, 0, 3, 0, 15, 31])]) Try.func23 rfl (by kernel_rfl) T_ok (Cons.cons con_ref14_EdgeNormal (Cons.cons con_ref03_Dot (Cons.nil _))) mixed (by kernel_rfl) _ _ _ (fun l R hl hR hn hpre => ?_)
  match l, hl, R, hR with
  | [p, q], zl, [(true, ys)], zr =>
    clear zl zr
    obtain rfl : ys = [] := hn _ (List.Mem.head _) rfl
    have hp0 := hpre _ (List.Mem.head _); try dsimp only at hp0
    skip
    repeat' (first | (with_reducible refine And.intro ?_ ?_) | (with_reducible intro h) | ((fail_if_success (with_reducible refine Leaf.mk ?_)); (fail_if_success (with_reducible refine VC.mk ?_)); (fail_if_success (with_reducible refine Goes.mk ?_)); (fail_if_success (with_reducible refine Again.mk ?_)); (fail_if_success (with_reducible refine Rounds.mk ?_)); (fail_if_success (with_reducible show False)); (fail_if_success (with_reducible show True)); conv => whnf))
    all_goals try simp only [decide_eq_true_eq, decide_eq_false_iff_not, tkA, Nat.zero_add, Int.toNat_natCast] at *
    all_goals try first | exact trivial | (refine VC.mk ?_; first | trivial | assumption | ((try simp only [InR, decide_eq_true_eq, decide_eq_false_iff_not] at *); omega) | (simp; done))
    all_goals (refine Leaf.mk ?_; simp_all [ieP])
  | [p, q], zl, [(false, ys)], zr =>
    clear zl zr
    have hp0 := hpre _ (List.Mem.head _); try dsimp only at hp0
    skip
    repeat' (first | (with_reducible refine And.intro ?_ ?_) | (with_reducible intro h) | ((fail_if_success (with_reducible refine Leaf.mk ?_)); (fail_if_success (with_reducible refine VC.mk ?_)); (fail_if_success (with_reducible refine Goes.mk ?_)); (fail_if_success (with_reducible refine Again.mk ?_)); (fail_if_success (with_reducible refine Rounds.mk ?_)); (fail_if_success (with_reducible show False)); (fail_if_success (with_reducible show True)); conv => whnf))
    all_goals try simp only [decide_eq_true_eq, decide_eq_false_iff_not, tkA, Nat.zero_add, Int.toNat_natCast] at *
    all_goals try first | exact trivial | (refine VC.mk ?_; first | trivial | assumption | ((try simp only [InR, decide_eq_true_eq, decide_eq_false_iff_not] at *); omega) | (simp; done))
    all_goals try (refine Leaf.mk ?_; simp only [ieP]; rw [if_pos (by omega)]; done)
    refine goes_inv (X := Nat) (pl := [(3, [0, 1, 2, 3, 4, 5], [0, 1, 0, 7, 15, 31]), (7, [0, 1, 2, 3, 4, 5], [0, 0, 3, 0, 15, 31])]) T_ok (Cons.cons con_ref14_EdgeNormal (Cons.cons con_ref03_Dot (Cons.nil _))) mixed (by kernel_rfl)
      (fun k => (.sl 0 2 0 ys.length :: .any :: .any :: .ptr 1 0 :: .any :: .int .i64 (minN (incD ys p q) k).1 :: .int .i64 (minN (incD ys p q) k).2 :: .int .i64 (k : Int) :: .any :: .any :: .any :: .any :: .any :: .any :: .any :: .any :: .any :: .any :: .any :: .any :: .any :: .any :: .any :: .any :: .any :: .any :: .any :: .any :: .any :: .any :: .any :: .any :: .any :: [], [.arr false true 2 ys, .cells [.int .i64 p, .int .i64 q]]))
      (fun k => 1 ≤ k ∧ k ≤ ys.length) (fun k => ys.length - k) 1 [0, 1] ⟨Nat.le_refl _, by omega⟩ ?_ ?_ ?_
    · repeat' (first | (with_reducible refine And.intro ?_ ?_) | (with_reducible intro h) | ((fail_if_success (with_reducible refine Leaf.mk ?_)); (fail_if_success (with_reducible refine VC.mk ?_)); (fail_if_success (with_reducible refine Goes.mk ?_)); (fail_if_success (with_reducible refine Again.mk ?_)); (fail_if_success (with_reducible refine Rounds.mk ?_)); (fail_if_success (with_reducible show False)); (fail_if_success (with_reducible show True)); conv => whnf))
      all_goals first | exact trivial | (refine Leaf.mk ?_; first | rfl | exact ⟨rfl, rfl⟩ | (rw [sepN_one]; simp [sepD]; done) | (rw [maxN_one]; simp; done) | (rw [minN_one]; simp [incD]; done) | (simp; done))
    · repeat' (first | (with_reducible refine And.intro ?_ ?_) | (with_reducible intro h) | ((fail_if_success (with_reducible refine Leaf.mk ?_)); (fail_if_success (with_reducible refine VC.mk ?_)); (fail_if_success (with_reducible refine Goes.mk ?_)); (fail_if_success (with_reducible refine Again.mk ?_)); (fail_if_success (with_reducible refine Rounds.mk ?_)); (fail_if_success (with_reducible show False)); (fail_if_success (with_reducible show True)); conv => whnf))
      all_goals first | exact trivial | (refine Leaf.mk ?_; first | rfl | exact ⟨rfl, rfl⟩ | (rw [sepN_one]; simp [sepD]; done) | (rw [maxN_one]; simp; done) | (rw [minN_one]; simp [incD]; done) | (simp; done))
    · intro k hx
      obtain ⟨hx1, hx2⟩ := hx
      repeat' (first | (with_reducible refine And.intro ?_ ?_) | (with_reducible intro h) | ((fail_if_success (with_reducible refine Leaf.mk ?_)); (fail_if_success (with_reducible refine VC.mk ?_)); (fail_if_success (with_reducible refine Goes.mk ?_)); (fail_if_success (with_reducible refine Again.mk ?_)); (fail_if_success (with_reducible refine Rounds.mk ?_)); (fail_if_success (with_reducible show False)); (fail_if_success (with_reducible show True)); conv => whnf))
      all_goals try simp only [decide_eq_true_eq, decide_eq_false_iff_not, tkA, Nat.zero_add, Int.toNat_natCast] at *
      all_goals try first | exact trivial | (refine VC.mk ?_; first | trivial | assumption | ((try simp only [InR, decide_eq_true_eq, decide_eq_false_iff_not] at *); omega) | (simp; done))
      all_goals first
        | (refine Leaf.mk ?_; obtain rfl : k = ys.length := by omega
           simp only [ieP]; rw [if_neg (by omega)]; done)
        | (have hlt : k < ys.length := by omega
           have hd : dot (enX ys k) (enY ys k) p q = incD ys p q k := rfl
           have hq := minN_pos (incD ys p q) k (by omega)
           (refine Again.mk ⟨k + 1, [0, 1], ⟨by omega, hlt⟩, (by omega), ?_, ?_⟩ <;> (repeat' (first | (with_reducible refine And.intro ?_ ?_) | (with_reducible intro h) | ((fail_if_success (with_reducible refine Leaf.mk ?_)); (fail_if_success (with_reducible refine VC.mk ?_)); (fail_if_success (with_reducible refine Goes.mk ?_)); (fail_if_success (with_reducible refine Again.mk ?_)); (fail_if_success (with_reducible refine Rounds.mk ?_)); (fail_if_success (with_reducible show False)); (fail_if_success (with_reducible show True)); conv => whnf))) <;> first | exact trivial | (refine Leaf.mk ?_; (try simp only [Nat.zero_add, Int.toNat_natCast, tkA] at *) <;> first | rfl | exact ⟨rfl, rfl⟩ | (simp; done) | (simp only [hd] at *; first | (rw [minN_yes (by omega)]; done) | (rw [minN_no (by omega)]; done)) | (rw [minN_yes (by omega)]; done) | (rw [minN_no (by omega)]; done))))
end Go.Proofs.Ytdoagjphjnbbnaa
