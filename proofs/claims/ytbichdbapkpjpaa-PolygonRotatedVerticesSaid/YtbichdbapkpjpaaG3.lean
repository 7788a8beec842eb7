/- Contracts of package polygon and of caromref11: the other measures. -/
import Derived.Test.YtbichdbapkpjpaaG2
import Derived.Test.YtbichdbapkpjpaaEvN
namespace Go.Proofs.Ytbichdbapkpjpaa
open Go.RowKit Fx Vx Bx Ev
set_option linter.unusedVariables false
set_option linter.unusedSimpArgs false


def insX (xs : List (List Int)) (x y : Int) (n : Nat) : Prop := ∀ i, i < n → orient (at2 xs i 0) (at2 xs i 1) (at2 xs ((i + 1) % xs.length) 0) (at2 xs ((i + 1) % xs.length) 1) x y ≠ -1
instance (xs : List (List Int)) (x y : Int) (n : Nat) : Decidable (insX xs x y n) := by unfold insX; infer_instance
def hasX (xs : List (List Int)) (x y : Int) : Bool := convB xs && decide (insX xs x y xs.length)
theorem insX.succ {xs : List (List Int)} {x y : Int} {n : Nat} (h : insX xs x y n) (k : orient (at2 xs n 0) (at2 xs n 1) (at2 xs ((n + 1) % xs.length) 0) (at2 xs ((n + 1) % xs.length) 1) x y ≠ -1) : insX xs x y (n + 1) := fun j hj => by
  rcases Nat.lt_or_ge j n with e | e
  · exact h j e
  · obtain rfl : j = n := by omega
    exact k
theorem orient_neg {a b c d e f : Int} : orient a b c d e f < 0 ↔ orient a b c d e f = -1 := by unfold orient sign; split <;> (try split) <;> omega
theorem orient_sat (a b c d e f : Int) : orient a b c d (sat e) (sat f) = orient a b c d e f := by unfold orient orientN; rw [sat_sat, sat_sat]
theorem hasX_no {xs : List (List Int)} {x y : Int} (h : convB xs = false ∨ ¬ insX xs x y xs.length) : hasX xs x y = false := by
  unfold hasX
  rcases h with h | h
  · rw [h]; rfl
  · rw [decide_eq_false h]; simp
theorem hasX_yes {xs : List (List Int)} {x y : Int} (h : convB xs = true) (k : insX xs x y xs.length) : hasX xs x y = true := by
  unfold hasX; rw [h, decide_eq_true k]; rfl
def wf (e : Nat) (xs : List (List Int)) : Prop := ∀ x ∈ xs, x.length = e
theorem take_ext {e : Nat} {xs ys : List (List Int)} (hx : wf e xs) (hy : wf e ys) {k : Nat} (h : xs.take k = ys.take k) (h1 : k < xs.length) (h2 : k < ys.length) (hr : ∀ j, j < e → at2 xs k j = at2 ys k j) : xs.take (k + 1) = ys.take (k + 1) := by
  rw [List.take_succ_eq_append_getElem h1, List.take_succ_eq_append_getElem h2, h]
  congr 2
  have l1 : xs[k].length = e := hx _ (List.getElem_mem h1)
  have l2 : ys[k].length = e := hy _ (List.getElem_mem h2)
  apply List.ext_getElem (by omega)
  intro j a b
  have := hr j (by omega)
  simp only [at2, List.getD_eq_getElem?_getD, List.getElem?_eq_getElem h1, List.getElem?_eq_getElem h2, Option.getD_some, List.getElem?_eq_getElem a, List.getElem?_eq_getElem b] at this
  exact this
def supD (xs : List (List Int)) (dx dy : Int) (k : Nat) : Int := sat (at2 xs k 0) * sat dx + sat (at2 xs k 1) * sat dy
/-- The first with the greatest value of f, and that value: after k. -/
def maxN (f : Nat → Int) : Nat → Int × Int
  | 0 => (-1, 0)
  | k + 1 => if (maxN f k).1 < 0 ∨ (maxN f k).2 < f k then ((k : Int), f k) else maxN f k
theorem maxN_yes {f : Nat → Int} {k : Nat} (h : (maxN f k).1 < 0 ∨ (maxN f k).2 < f k) : maxN f (k + 1) = ((k : Int), f k) := by unfold maxN; rw [if_pos h]
theorem maxN_no {f : Nat → Int} {k : Nat} (h : ¬ ((maxN f k).1 < 0 ∨ (maxN f k).2 < f k)) : maxN f (k + 1) = maxN f k := by rw [maxN, if_neg h]
def edL (xs : List (List Int)) (k : Nat) : Int := len (sub (at2 xs ((k + 1) % xs.length) 0) (at2 xs k 0)) (sub (at2 xs ((k + 1) % xs.length) 1) (at2 xs k 1))
def shN (xs : List (List Int)) : Nat → Int
  | 0 => -1
  | k + 1 => if shN xs k < 0 ∨ edL xs k < shN xs k then edL xs k else shN xs k
def shX (xs : List (List Int)) : Int := if convB xs then shN xs xs.length else 0
/-- As the program counts: from the greatest number on. -/
def shM (xs : List (List Int)) : Nat → Int
  | 0 => 536870911
  | k + 1 => min (shM xs k) (edL xs k)
theorem edL_bd (xs : List (List Int)) (k : Nat) : 0 ≤ edL xs k := isq_nonneg _
theorem shN_nn (xs : List (List Int)) : ∀ k, 0 < k → 0 ≤ shN xs k
  | k + 1, _ => by
    have := edL_bd xs k
    unfold shN
    split
    · exact this
    · omega
theorem edL_le {xs : List (List Int)} (h : AllR xs xs.length) {k : Nat} (hk : k < xs.length) : edL xs k ≤ 536870911 := by
  have hn := next_lt hk
  have a0 := h.at (j := 0) hk (by decide)
  have a1 := h.at (j := 1) hk (by decide)
  have b0 := h.at (j := 0) hn (by decide)
  have b1 := h.at (j := 1) hn (by decide)
  unfold edL len sub
  generalize at2 xs k 0 = p at *
  generalize at2 xs k 1 = q at *
  generalize at2 xs ((k + 1) % xs.length) 0 = r at *
  generalize at2 xs ((k + 1) % xs.length) 1 = s at *
  rw [sat_id (x := p) (by omega) (by omega), sat_id (x := q) (by omega) (by omega), sat_id (x := r) (by omega) (by omega), sat_id (x := s) (by omega) (by omega)]
  rw [sat_id (x := r - p) (by omega) (by omega), sat_id (x := s - q) (by omega) (by omega)]
  rw [sat_id (x := r - p) (by omega) (by omega), sat_id (x := s - q) (by omega) (by omega)]
  have m1 := mul_bd (x := r - p) (y := r - p) (A := 2097152) (by omega) (by omega) (by omega) (by omega)
  have m2 := mul_bd (x := s - q) (y := s - q) (A := 2097152) (by omega) (by omega) (by omega) (by omega)
  have n1 := sq_nonneg (r - p)
  have n2 := sq_nonneg (s - q)
  have i1 := isq_sq (n := (r - p) * (r - p) + (s - q) * (s - q)) (by omega)
  have i2 : (r - p) * (r - p) + (s - q) * (s - q) ≤ 8796093022208 := by omega
  generalize isq ((r - p) * (r - p) + (s - q) * (s - q)) = z at *
  rcases Int.lt_or_le 536870911 z with hz | hz
  · have := Int.mul_le_mul (a := 536870911) (b := 536870911) (c := z) (d := z) (by omega) (by omega) (by omega) (by omega)
    omega
  · exact hz
theorem shN_s (xs : List (List Int)) (k : Nat) : shN xs (k + 1) = if shN xs k < 0 ∨ edL xs k < shN xs k then edL xs k else shN xs k := rfl
theorem shM_s (xs : List (List Int)) (k : Nat) : shM xs (k + 1) = min (shM xs k) (edL xs k) := rfl
theorem shM_eq {xs : List (List Int)} (h : AllR xs xs.length) : ∀ k, 0 < k → k ≤ xs.length → shM xs k = shN xs k
  | 1, _, h1 => by
    have := edL_le h (k := 0) (by omega)
    have e0 : shM xs 0 = 536870911 := rfl
    have e1 : shN xs 0 = -1 := rfl
    rw [shM_s xs 0, shN_s xs 0, if_pos (by omega)]; omega
  | k + 2, _, h1 => by
    have ih := shM_eq h (k + 1) (by omega) (by omega)
    have nn := shN_nn xs (k + 1) (by omega)
    rw [shM_s xs (k + 1), ih, shN_s xs (k + 1)]
    by_cases hc : shN xs (k + 1) < 0 ∨ edL xs (k + 1) < shN xs (k + 1)
    · rw [if_pos hc]; omega
    · rw [if_neg hc]; omega
theorem shM_le (xs : List (List Int)) : ∀ k, shM xs k ≤ 536870911
  | 0 => by simp [shM]
  | k + 1 => by have := shM_le xs k; unfold shM; omega

def c_polygon_Contains : Con := ⟨12, rowRun [.rows 2, .num 2] (fun l R => match l, R with | [x, y], [xs] => [xs.length ≤ 100000] | _, _ => [False]) fun l R => match l, R with
  | [x, y], [xs] => .bool (hasX xs x y)
  | _, _ => .any⟩
set_option maxRecDepth 100000 in
set_option maxHeartbeats 2000000 in
theorem con_polygon_Contains : c_polygon_Contains.Ok Try.prog := by
  refine con_rows (C := [c_polygon_IsConvex, c_vec2_Orientation]) (pl := [(6, [0, 1, 2, 3, 4, 5, 6, 7, 8, 9, 10, 11], [0, 0, 0, 4, 0, 16, 60, 126, 254, 0, 1023, 2047])]) Try.func12 rfl (by kernel_rfl) T_ok (Cons.cons con_polygon_IsConvex (Cons.cons con_vec2_Orientation (Cons.nil _))) mixed (by kernel_rfl) _ _ _ (fun l R hl hR hn hpre => ?_)
  match l, hl, R, hR with
  | [x, y], zl, [(true, xs)], zr =>
    clear zl zr
    obtain rfl : xs = [] := hn _ (List.Mem.head _) rfl
    have hp0 := hpre _ (List.Mem.head _); try dsimp only at hp0
    skip
    have hc : convB [] = false := rfl
    repeat' (first | (with_reducible refine And.intro ?_ ?_) | (with_reducible intro h) | ((fail_if_success (with_reducible refine Leaf.mk ?_)); (fail_if_success (with_reducible refine VC.mk ?_)); (fail_if_success (with_reducible refine Goes.mk ?_)); (fail_if_success (with_reducible refine Again.mk ?_)); (fail_if_success (with_reducible refine Rounds.mk ?_)); (fail_if_success (with_reducible show False)); (fail_if_success (with_reducible show True)); conv => whnf))
    all_goals try simp only [Bool.not_eq_true', Bool.not_eq_false', Bool.and_eq_true, decide_eq_true_eq, decide_eq_false_iff_not, tkA, Nat.zero_add, Nat.reduceAdd, Int.toNat_natCast, tmN] at *
    all_goals try (simp only [hc, Bool.false_eq_true, Bool.true_eq_false] at *)
    all_goals try first | exact trivial | (show False; omega) | exact Leaf.mk trivial | exact Leaf.mk rfl | (refine VC.mk ?_; first | trivial | assumption | ((try simp only [InR] at *); omega) | (simp; done) | (simp; omega))
    all_goals (refine Leaf.mk ?_; rfl)
  | [x, y], zl, [(false, xs)], zr =>
    clear zl zr
    have hp0 := hpre _ (List.Mem.head _); try dsimp only at hp0
    skip
    repeat' (first | (with_reducible refine And.intro ?_ ?_) | (with_reducible intro h) | ((fail_if_success (with_reducible refine Leaf.mk ?_)); (fail_if_success (with_reducible refine VC.mk ?_)); (fail_if_success (with_reducible refine Goes.mk ?_)); (fail_if_success (with_reducible refine Again.mk ?_)); (fail_if_success (with_reducible refine Rounds.mk ?_)); (fail_if_success (with_reducible show False)); (fail_if_success (with_reducible show True)); conv => whnf))
    all_goals try simp only [Bool.not_eq_true', Bool.not_eq_false', Bool.and_eq_true, decide_eq_true_eq, decide_eq_false_iff_not, tkA, Nat.zero_add, Nat.reduceAdd, Int.toNat_natCast, tmN] at *
    all_goals try (have hcv : convB xs = true := (by assumption); obtain ⟨c1, c2, c3, c4⟩ := convB_iff.1 hcv)
    all_goals try first | exact trivial | (show False; omega) | exact Leaf.mk trivial | exact Leaf.mk rfl | (refine VC.mk ?_; first | trivial | assumption | ((try simp only [InR] at *); omega) | (simp; done) | (simp; omega))
    all_goals try (refine Leaf.mk ?_; symm; first | exact hasX_no (Or.inl (by assumption)) | exact hasX_no (Or.inr fun hh => absurd (orient_neg.1 (by assumption)) (hh k (by omega))) | exact hasX_no (Or.inr fun hh => absurd (by assumption) (hh k (by omega))) | (have hk : k = xs.length := (by omega); subst hk; exact hasX_yes (by assumption) (by assumption)))
    refine goes_inv (X := Nat) (pl := [(6, [0, 1, 2, 3, 4, 5, 6, 7, 8, 9, 10, 11], [0, 0, 0, 4, 0, 16, 60, 126, 254, 0, 1023, 2047])]) T_ok (Cons.cons con_polygon_IsConvex (Cons.cons con_vec2_Orientation (Cons.nil _))) mixed (by kernel_rfl)
      (fun k => (.sl 0 2 0 xs.length :: .any :: .any :: .ptr 1 0 :: .any :: .any :: .any :: .any :: .any :: .any :: .sl 0 2 0 xs.length :: .int .i64 (xs.length : Int) :: .int .i64 (k : Int) :: .any :: .any :: .any :: .any :: .any :: .any :: .any :: .any :: .any :: .any :: .any :: .any :: .any :: .any :: .any :: .any :: .any :: [], [.arr false true 2 xs, .cells [.int .i64 x, .int .i64 y]]))
      (fun k => k ≤ xs.length ∧ insX xs x y k) (fun k => xs.length - k) 0 [0, 1] ⟨Nat.zero_le _, fun i hi => absurd hi (Nat.not_lt_zero _)⟩ ?_ ?_ ?_
    · repeat' (first | (with_reducible refine And.intro ?_ ?_) | (with_reducible intro h) | ((fail_if_success (with_reducible refine Leaf.mk ?_)); (fail_if_success (with_reducible refine VC.mk ?_)); (fail_if_success (with_reducible refine Goes.mk ?_)); (fail_if_success (with_reducible refine Again.mk ?_)); (fail_if_success (with_reducible refine Rounds.mk ?_)); (fail_if_success (with_reducible show False)); (fail_if_success (with_reducible show True)); conv => whnf))
      all_goals first | exact trivial | (refine Leaf.mk ?_; first | rfl | exact ⟨rfl, rfl⟩ | (simp; done))
    · repeat' (first | (with_reducible refine And.intro ?_ ?_) | (with_reducible intro h) | ((fail_if_success (with_reducible refine Leaf.mk ?_)); (fail_if_success (with_reducible refine VC.mk ?_)); (fail_if_success (with_reducible refine Goes.mk ?_)); (fail_if_success (with_reducible refine Again.mk ?_)); (fail_if_success (with_reducible refine Rounds.mk ?_)); (fail_if_success (with_reducible show False)); (fail_if_success (with_reducible show True)); conv => whnf))
      all_goals first | exact trivial | (refine Leaf.mk ?_; first | rfl | exact ⟨rfl, rfl⟩ | (simp; done))
    · intro k hx
      obtain ⟨hx1, hx2⟩ := hx
      repeat' (first | (with_reducible refine And.intro ?_ ?_) | (with_reducible intro h) | ((fail_if_success (with_reducible refine Leaf.mk ?_)); (fail_if_success (with_reducible refine VC.mk ?_)); (fail_if_success (with_reducible refine Goes.mk ?_)); (fail_if_success (with_reducible refine Again.mk ?_)); (fail_if_success (with_reducible refine Rounds.mk ?_)); (fail_if_success (with_reducible show False)); (fail_if_success (with_reducible show True)); conv => whnf))
      all_goals try simp only [Bool.not_eq_true', Bool.not_eq_false', Bool.and_eq_true, decide_eq_true_eq, decide_eq_false_iff_not, tkA, Nat.zero_add, Nat.reduceAdd, Int.toNat_natCast, tmN] at *
      all_goals try simp only [orient_sat] at *
      all_goals try (have hnx := next_lt (i := k) (n := xs.length) (by omega))
      all_goals try first | exact trivial | (show False; omega) | exact Leaf.mk trivial | exact Leaf.mk rfl | (refine VC.mk ?_; first | trivial | assumption | ((try simp only [InR] at *); omega) | (simp; done) | (simp; omega))
      all_goals try (refine Leaf.mk ?_; symm; first | exact hasX_no (Or.inl (by assumption)) | exact hasX_no (Or.inr fun hh => absurd (orient_neg.1 (by assumption)) (hh k (by omega))) | exact hasX_no (Or.inr fun hh => absurd (by assumption) (hh k (by omega))) | (have hk : k = xs.length := (by omega); subst hk; exact hasX_yes (by assumption) (by assumption)))
      all_goals (refine Again.mk ⟨k + 1, [0, 1], ⟨by omega, hx2.succ (by first | assumption | exact fun e => absurd (orient_neg.2 e) (by assumption))⟩, (by omega), ?_, ?_⟩ <;> (repeat' (first | (with_reducible refine And.intro ?_ ?_) | (with_reducible intro h) | ((fail_if_success (with_reducible refine Leaf.mk ?_)); (fail_if_success (with_reducible refine VC.mk ?_)); (fail_if_success (with_reducible refine Goes.mk ?_)); (fail_if_success (with_reducible refine Again.mk ?_)); (fail_if_success (with_reducible refine Rounds.mk ?_)); (fail_if_success (with_reducible show False)); (fail_if_success (with_reducible show True)); conv => whnf))) <;> first | exact trivial | (refine Leaf.mk ?_; first | rfl | exact ⟨rfl, rfl⟩ | (simp; done)))
def c_ref11_Contains : Con := ⟨21, rowRun [.rows 2, .num 2] (fun l R => match l, R with | [x, y], [xs] => [xs.length ≤ 100000] | _, _ => [False]) fun l R => match l, R with
  | [x, y], [xs] => .bool (hasX xs x y)
  | _, _ => .any⟩
set_option maxRecDepth 100000 in
set_option maxHeartbeats 2000000 in
theorem con_ref11_Contains : c_ref11_Contains.Ok Try.prog := by
  refine con_rows (C := [c_ref11_IsConvex, c_ref05_SaturateVec, c_ref03_Orientation]) (pl := [(6, [0, 1, 2, 3, 4, 5, 6, 7, 8, 9, 10, 11, 12, 13, 14, 15], [0, 0, 3, 7, 0, 0, 32, 0, 128, 480, 1008, 2032, 0, 4096, 16383, 32767])]) Try.func21 rfl (by kernel_rfl) T_ok (Cons.cons con_ref11_IsConvex (Cons.cons con_ref05_SaturateVec (Cons.cons con_ref03_Orientation (Cons.nil _)))) mixed (by kernel_rfl) _ _ _ (fun l R hl hR hn hpre => ?_)
  match l, hl, R, hR with
  | [x, y], zl, [(true, xs)], zr =>
    clear zl zr
    obtain rfl : xs = [] := hn _ (List.Mem.head _) rfl
    have hp0 := hpre _ (List.Mem.head _); try dsimp only at hp0
    skip
    have hc : convB [] = false := rfl
    repeat' (first | (with_reducible refine And.intro ?_ ?_) | (with_reducible intro h) | ((fail_if_success (with_reducible refine Leaf.mk ?_)); (fail_if_success (with_reducible refine VC.mk ?_)); (fail_if_success (with_reducible refine Goes.mk ?_)); (fail_if_success (with_reducible refine Again.mk ?_)); (fail_if_success (with_reducible refine Rounds.mk ?_)); (fail_if_success (with_reducible show False)); (fail_if_success (with_reducible show True)); conv => whnf))
    all_goals try simp only [Bool.not_eq_true', Bool.not_eq_false', Bool.and_eq_true, decide_eq_true_eq, decide_eq_false_iff_not, tkA, Nat.zero_add, Nat.reduceAdd, Int.toNat_natCast, tmN] at *
    all_goals try (simp only [hc, Bool.false_eq_true, Bool.true_eq_false] at *)
    all_goals try first | exact trivial | (show False; omega) | exact Leaf.mk trivial | exact Leaf.mk rfl | (refine VC.mk ?_; first | trivial | assumption | ((try simp only [InR] at *); omega) | (simp; done) | (simp; omega))
    all_goals (refine Leaf.mk ?_; rfl)
  | [x, y], zl, [(false, xs)], zr =>
    clear zl zr
    have hp0 := hpre _ (List.Mem.head _); try dsimp only at hp0
    skip
    repeat' (first | (with_reducible refine And.intro ?_ ?_) | (with_reducible intro h) | ((fail_if_success (with_reducible refine Leaf.mk ?_)); (fail_if_success (with_reducible refine VC.mk ?_)); (fail_if_success (with_reducible refine Goes.mk ?_)); (fail_if_success (with_reducible refine Again.mk ?_)); (fail_if_success (with_reducible refine Rounds.mk ?_)); (fail_if_success (with_reducible show False)); (fail_if_success (with_reducible show True)); conv => whnf))
    all_goals try simp only [Bool.not_eq_true', Bool.not_eq_false', Bool.and_eq_true, decide_eq_true_eq, decide_eq_false_iff_not, tkA, Nat.zero_add, Nat.reduceAdd, Int.toNat_natCast, tmN] at *
    all_goals try (have hcv : convB xs = true := (by assumption); obtain ⟨c1, c2, c3, c4⟩ := convB_iff.1 hcv)
    all_goals try first | exact trivial | (show False; omega) | exact Leaf.mk trivial | exact Leaf.mk rfl | (refine VC.mk ?_; first | trivial | assumption | ((try simp only [InR] at *); omega) | (simp; done) | (simp; omega))
    all_goals try (refine Leaf.mk ?_; symm; first | exact hasX_no (Or.inl (by assumption)) | exact hasX_no (Or.inr fun hh => absurd (orient_neg.1 (by assumption)) (hh k (by omega))) | exact hasX_no (Or.inr fun hh => absurd (by assumption) (hh k (by omega))) | (have hk : k = xs.length := (by omega); subst hk; exact hasX_yes (by assumption) (by assumption)))
    refine goes_inv (X := Nat) (pl := [(6, [0, 1, 2, 3, 4, 5, 6, 7, 8, 9, 10, 11, 12, 13, 14, 15], [0, 0, 3, 7, 0, 0, 32, 0, 128, 480, 1008, 2032, 0, 4096, 16383, 32767])]) T_ok (Cons.cons con_ref11_IsConvex (Cons.cons con_ref05_SaturateVec (Cons.cons con_ref03_Orientation (Cons.nil _)))) mixed (by kernel_rfl)
      (fun k => (.sl 0 2 0 xs.length :: .any :: .any :: .ptr 1 0 :: .any :: .int .i64 (k : Int) :: .any :: .any :: .any :: .any :: .any :: .any :: .any :: .any :: .any :: .any :: .any :: .any :: .any :: .any :: .any :: .any :: .any :: .any :: .any :: .any :: .any :: .any :: .any :: .any :: .any :: [], [.arr false true 2 xs, .cells [.int .i64 x, .int .i64 y]]))
      (fun k => k ≤ xs.length ∧ insX xs x y k) (fun k => xs.length - k) 0 [0, 1] ⟨Nat.zero_le _, fun i hi => absurd hi (Nat.not_lt_zero _)⟩ ?_ ?_ ?_
    · repeat' (first | (with_reducible refine And.intro ?_ ?_) | (with_reducible intro h) | ((fail_if_success (with_reducible refine Leaf.mk ?_)); (fail_if_success (with_reducible refine VC.mk ?_)); (fail_if_success (with_reducible refine Goes.mk ?_)); (fail_if_success (with_reducible refine Again.mk ?_)); (fail_if_success (with_reducible refine Rounds.mk ?_)); (fail_if_success (with_reducible show False)); (fail_if_success (with_reducible show True)); conv => whnf))
      all_goals first | exact trivial | (refine Leaf.mk ?_; first | rfl | exact ⟨rfl, rfl⟩ | (simp; done))
    · repeat' (first | (with_reducible refine And.intro ?_ ?_) | (with_reducible intro h) | ((fail_if_success (with_reducible refine Leaf.mk ?_)); (fail_if_success (with_reducible refine VC.mk ?_)); (fail_if_success (with_reducible refine Goes.mk ?_)); (fail_if_success (with_reducible refine Again.mk ?_)); (fail_if_success (with_reducible refine Rounds.mk ?_)); (fail_if_success (with_reducible show False)); (fail_if_success (with_reducible show True)); conv => whnf))
      all_goals first | exact trivial | (refine Leaf.mk ?_; first | rfl | exact ⟨rfl, rfl⟩ | (simp; done))
    · intro k hx
      obtain ⟨hx1, hx2⟩ := hx
      repeat' (first | (with_reducible refine And.intro ?_ ?_) | (with_reducible intro h) | ((fail_if_success (with_reducible refine Leaf.mk ?_)); (fail_if_success (with_reducible refine VC.mk ?_)); (fail_if_success (with_reducible refine Goes.mk ?_)); (fail_if_success (with_reducible refine Again.mk ?_)); (fail_if_success (with_reducible refine Rounds.mk ?_)); (fail_if_success (with_reducible show False)); (fail_if_success (with_reducible show True)); conv => whnf))
      all_goals try simp only [Bool.not_eq_true', Bool.not_eq_false', Bool.and_eq_true, decide_eq_true_eq, decide_eq_false_iff_not, tkA, Nat.zero_add, Nat.reduceAdd, Int.toNat_natCast, tmN] at *
      all_goals try simp only [orient_sat] at *
      all_goals try (have hnx := next_lt (i := k) (n := xs.length) (by omega))
      all_goals try first | exact trivial | (show False; omega) | exact Leaf.mk trivial | exact Leaf.mk rfl | (refine VC.mk ?_; first | trivial | assumption | ((try simp only [InR] at *); omega) | (simp; done) | (simp; omega))
      all_goals try (refine Leaf.mk ?_; symm; first | exact hasX_no (Or.inl (by assumption)) | exact hasX_no (Or.inr fun hh => absurd (orient_neg.1 (by assumption)) (hh k (by omega))) | exact hasX_no (Or.inr fun hh => absurd (by assumption) (hh k (by omega))) | (have hk : k = xs.length := (by omega); subst hk; exact hasX_yes (by assumption) (by assumption)))
      all_goals (refine Again.mk ⟨k + 1, [0, 1], ⟨by omega, hx2.succ (by first | assumption | exact fun e => absurd (orient_neg.2 e) (by assumption))⟩, (by omega), ?_, ?_⟩ <;> (repeat' (first | (with_reducible refine And.intro ?_ ?_) | (with_reducible intro h) | ((fail_if_success (with_reducible refine Leaf.mk ?_)); (fail_if_success (with_reducible refine VC.mk ?_)); (fail_if_success (with_reducible refine Goes.mk ?_)); (fail_if_success (with_reducible refine Again.mk ?_)); (fail_if_success (with_reducible refine Rounds.mk ?_)); (fail_if_success (with_reducible show False)); (fail_if_success (with_reducible show True)); conv => whnf))) <;> first | exact trivial | (refine Leaf.mk ?_; first | rfl | exact ⟨rfl, rfl⟩ | (simp; done)))
def c_polygon_Support : Con := ⟨22, rowRun [.rows 2, .num 2] (fun l R => match l, R with | [x, y], [xs] => [xs.length ≤ 100000] | _, _ => [False]) fun l R => match l, R with
  | [x, y], [xs] => .int .i64 ((maxN (supD xs x y) xs.length).1)
  | _, _ => .any⟩
set_option maxRecDepth 100000 in
set_option maxHeartbeats 2000000 in
theorem con_polygon_Support : c_polygon_Support.Ok Try.prog := by
  refine con_rows (C := [c_fixed_Saturate]) (pl := [(2, [0, 1, 2, 3, 4, 5, 6, 7], [0, 1, 3, 0, 8, 31, 63, 127]), (6, [0, 1, 2, 3, 4, 5, 6, 7, 8, 9, 10, 11], [0, 1, 3, 0, 15, 0, 32, 103, 0, 487, 1023, 2047])]) Try.func22 rfl (by kernel_rfl) T_ok (Cons.cons con_fixed_Saturate (Cons.nil _)) mixed (by kernel_rfl) _ _ _ (fun l R hl hR hn hpre => ?_)
  match l, hl, R, hR with
  | [x, y], zl, [(true, xs)], zr =>
    clear zl zr
    obtain rfl : xs = [] := hn _ (List.Mem.head _) rfl
    have hp0 := hpre _ (List.Mem.head _); try dsimp only at hp0
    skip
    repeat' (first | (with_reducible refine And.intro ?_ ?_) | (with_reducible intro h) | ((fail_if_success (with_reducible refine Leaf.mk ?_)); (fail_if_success (with_reducible refine VC.mk ?_)); (fail_if_success (with_reducible refine Goes.mk ?_)); (fail_if_success (with_reducible refine Again.mk ?_)); (fail_if_success (with_reducible refine Rounds.mk ?_)); (fail_if_success (with_reducible show False)); (fail_if_success (with_reducible show True)); conv => whnf))
    all_goals try simp only [Bool.not_eq_true', Bool.not_eq_false', Bool.and_eq_true, decide_eq_true_eq, decide_eq_false_iff_not, tkA, Nat.zero_add, Nat.reduceAdd, Int.toNat_natCast, tmN] at *
    all_goals try first | exact trivial | (show False; omega) | exact Leaf.mk trivial | exact Leaf.mk rfl | (refine VC.mk ?_; first | trivial | assumption | ((try simp only [InR] at *); omega) | (simp; done) | (simp; omega))
    all_goals try refine goes_rounds 1 ?_
    all_goals try (refine rounds_one (pl := [(2, [0, 1, 2, 3, 4, 5, 6, 7], [0, 1, 3, 0, 8, 31, 63, 127]), (6, [0, 1, 2, 3, 4, 5, 6, 7, 8, 9, 10, 11], [0, 1, 3, 0, 15, 0, 32, 103, 0, 487, 1023, 2047])]) T_ok (Cons.cons con_fixed_Saturate (Cons.nil _)) mixed (by kernel_rfl) ?_; repeat' (first | (with_reducible refine And.intro ?_ ?_) | (with_reducible intro h) | ((fail_if_success (with_reducible refine Leaf.mk ?_)); (fail_if_success (with_reducible refine VC.mk ?_)); (fail_if_success (with_reducible refine Goes.mk ?_)); (fail_if_success (with_reducible refine Again.mk ?_)); (fail_if_success (with_reducible refine Rounds.mk ?_)); (fail_if_success (with_reducible show False)); (fail_if_success (with_reducible show True)); conv => whnf)))
    all_goals try simp only [Bool.not_eq_true', Bool.not_eq_false', Bool.and_eq_true, decide_eq_true_eq, decide_eq_false_iff_not, tkA, Nat.zero_add, Nat.reduceAdd, Int.toNat_natCast, tmN] at *
    all_goals try first | exact trivial | (show False; omega) | exact Leaf.mk trivial | exact Leaf.mk rfl | (refine VC.mk ?_; first | trivial | assumption | ((try simp only [InR] at *); omega) | (simp; done) | (simp; omega))
    all_goals (refine Leaf.mk ?_; rfl)
  | [x, y], zl, [(false, xs)], zr =>
    clear zl zr
    have hp0 := hpre _ (List.Mem.head _); try dsimp only at hp0
    skip
    repeat' (first | (with_reducible refine And.intro ?_ ?_) | (with_reducible intro h) | ((fail_if_success (with_reducible refine Leaf.mk ?_)); (fail_if_success (with_reducible refine VC.mk ?_)); (fail_if_success (with_reducible refine Goes.mk ?_)); (fail_if_success (with_reducible refine Again.mk ?_)); (fail_if_success (with_reducible refine Rounds.mk ?_)); (fail_if_success (with_reducible show False)); (fail_if_success (with_reducible show True)); conv => whnf))
    all_goals try simp only [Bool.not_eq_true', Bool.not_eq_false', Bool.and_eq_true, decide_eq_true_eq, decide_eq_false_iff_not, tkA, Nat.zero_add, Nat.reduceAdd, Int.toNat_natCast, tmN] at *
    all_goals try first | exact trivial | (show False; omega) | exact Leaf.mk trivial | exact Leaf.mk rfl | (refine VC.mk ?_; first | trivial | assumption | ((try simp only [InR] at *); omega) | (simp; done) | (simp; omega))
    refine goes_inv (X := Nat) (pl := [(2, [0, 1, 2, 3, 4, 5, 6, 7], [0, 1, 3, 0, 8, 31, 63, 127]), (6, [0, 1, 2, 3, 4, 5, 6, 7, 8, 9, 10, 11], [0, 1, 3, 0, 15, 0, 32, 103, 0, 487, 1023, 2047])]) T_ok (Cons.cons con_fixed_Saturate (Cons.nil _)) mixed (by kernel_rfl)
      (fun k => (.any :: .any :: .any :: .any :: .any :: .int .i64 (maxN (supD xs x y) k).1 :: .int .i64 (maxN (supD xs x y) k).2 :: .int .i64 (sat x) :: .int .i64 (sat y) :: .any :: .any :: .any :: .any :: .any :: .any :: .any :: .any :: .any :: .sl 0 2 0 xs.length :: .int .i64 (xs.length : Int) :: .int .i64 (k : Int) :: .any :: .any :: .any :: .any :: .any :: .any :: .any :: .any :: .any :: .any :: .any :: .any :: .any :: .any :: .any :: .any :: .any :: .any :: .any :: .any :: .any :: .any :: .any :: .any :: .any :: .any :: [], [.arr false true 2 xs, .cells [.int .i64 x, .int .i64 y]]))
      (fun k => k ≤ xs.length) (fun k => xs.length - k) 0 [0, 1] (Nat.zero_le _) ?_ ?_ ?_
    · repeat' (first | (with_reducible refine And.intro ?_ ?_) | (with_reducible intro h) | ((fail_if_success (with_reducible refine Leaf.mk ?_)); (fail_if_success (with_reducible refine VC.mk ?_)); (fail_if_success (with_reducible refine Goes.mk ?_)); (fail_if_success (with_reducible refine Again.mk ?_)); (fail_if_success (with_reducible refine Rounds.mk ?_)); (fail_if_success (with_reducible show False)); (fail_if_success (with_reducible show True)); conv => whnf))
      all_goals first | exact trivial | (refine Leaf.mk ?_; first | rfl | exact ⟨rfl, rfl⟩ | (simp; done))
    · repeat' (first | (with_reducible refine And.intro ?_ ?_) | (with_reducible intro h) | ((fail_if_success (with_reducible refine Leaf.mk ?_)); (fail_if_success (with_reducible refine VC.mk ?_)); (fail_if_success (with_reducible refine Goes.mk ?_)); (fail_if_success (with_reducible refine Again.mk ?_)); (fail_if_success (with_reducible refine Rounds.mk ?_)); (fail_if_success (with_reducible show False)); (fail_if_success (with_reducible show True)); conv => whnf))
      all_goals first | exact trivial | (refine Leaf.mk ?_; first | rfl | exact ⟨rfl, rfl⟩ | (simp; done))
    · intro k hx
      repeat' (first | (with_reducible refine And.intro ?_ ?_) | (with_reducible intro h) | ((fail_if_success (with_reducible refine Leaf.mk ?_)); (fail_if_success (with_reducible refine VC.mk ?_)); (fail_if_success (with_reducible refine Goes.mk ?_)); (fail_if_success (with_reducible refine Again.mk ?_)); (fail_if_success (with_reducible refine Rounds.mk ?_)); (fail_if_success (with_reducible show False)); (fail_if_success (with_reducible show True)); conv => whnf))
      all_goals try simp only [Bool.not_eq_true', Bool.not_eq_false', Bool.and_eq_true, decide_eq_true_eq, decide_eq_false_iff_not, tkA, Nat.zero_add, Nat.reduceAdd, Int.toNat_natCast, tmN] at *
      all_goals try (have sx := satmul_bd (at2 xs k 0) x; have sy := satmul_bd (at2 xs k 1) y)
      all_goals try first | exact trivial | (show False; omega) | exact Leaf.mk trivial | exact Leaf.mk rfl | (refine VC.mk ?_; first | trivial | assumption | ((try simp only [InR] at *); omega) | (simp; done) | (simp; omega))
      all_goals try (refine Leaf.mk ?_; have hk : k = xs.length := (by omega); subst hk; rfl)
      all_goals first
        | (have e := maxN_yes (f := supD xs x y) (k := k) (by simp only [supD]; omega)
           (refine Again.mk ⟨k + 1, [0, 1], (by show k + 1 ≤ xs.length; omega), (by show xs.length - (k + 1) < xs.length - k; omega), ?_, ?_⟩ <;> (repeat' (first | (with_reducible refine And.intro ?_ ?_) | (with_reducible intro h) | ((fail_if_success (with_reducible refine Leaf.mk ?_)); (fail_if_success (with_reducible refine VC.mk ?_)); (fail_if_success (with_reducible refine Goes.mk ?_)); (fail_if_success (with_reducible refine Again.mk ?_)); (fail_if_success (with_reducible refine Rounds.mk ?_)); (fail_if_success (with_reducible show False)); (fail_if_success (with_reducible show True)); conv => whnf))) <;> first | exact trivial | (refine Leaf.mk ?_; first | rfl | (rw [e]; done) | (rw [e]; rfl) | (simp; done))))
        | (have e := maxN_no (f := supD xs x y) (k := k) (by simp only [supD]; omega)
           (refine Again.mk ⟨k + 1, [0, 1], (by show k + 1 ≤ xs.length; omega), (by show xs.length - (k + 1) < xs.length - k; omega), ?_, ?_⟩ <;> (repeat' (first | (with_reducible refine And.intro ?_ ?_) | (with_reducible intro h) | ((fail_if_success (with_reducible refine Leaf.mk ?_)); (fail_if_success (with_reducible refine VC.mk ?_)); (fail_if_success (with_reducible refine Goes.mk ?_)); (fail_if_success (with_reducible refine Again.mk ?_)); (fail_if_success (with_reducible refine Rounds.mk ?_)); (fail_if_success (with_reducible show False)); (fail_if_success (with_reducible show True)); conv => whnf))) <;> first | exact trivial | (refine Leaf.mk ?_; first | rfl | (rw [e]; done) | (rw [e]; rfl) | (simp; done))))
def c_ref11_Support : Con := ⟨23, rowRun [.rows 2, .num 2] (fun l R => match l, R with | [x, y], [xs] => [xs.length ≤ 100000] | _, _ => [False]) fun l R => match l, R with
  | [x, y], [xs] => .int .i64 ((maxN (supD xs x y) xs.length).1)
  | _, _ => .any⟩
set_option maxRecDepth 100000 in
set_option maxHeartbeats 2000000 in
theorem con_ref11_Support : c_ref11_Support.Ok Try.prog := by
  refine con_rows (C := [c_ref05_SaturateVec]) (pl := []) Try.func23 rfl (by kernel_rfl) T_ok (Cons.cons con_ref05_SaturateVec (Cons.nil _)) mixed (by kernel_rfl) _ _ _ (fun l R hl hR hn hpre => ?_)
  match l, hl, R, hR with
  | [x, y], zl, [(true, xs)], zr =>
    clear zl zr
    obtain rfl : xs = [] := hn _ (List.Mem.head _) rfl
    have hp0 := hpre _ (List.Mem.head _); try dsimp only at hp0
    skip
    repeat' (first | (with_reducible refine And.intro ?_ ?_) | (with_reducible intro h) | ((fail_if_success (with_reducible refine Leaf.mk ?_)); (fail_if_success (with_reducible refine VC.mk ?_)); (fail_if_success (with_reducible refine Goes.mk ?_)); (fail_if_success (with_reducible refine Again.mk ?_)); (fail_if_success (with_reducible refine Rounds.mk ?_)); (fail_if_success (with_reducible show False)); (fail_if_success (with_reducible show True)); conv => whnf))
    all_goals try simp only [Bool.not_eq_true', Bool.not_eq_false', Bool.and_eq_true, decide_eq_true_eq, decide_eq_false_iff_not, tkA, Nat.zero_add, Nat.reduceAdd, Int.toNat_natCast, tmN] at *
    all_goals try first | exact trivial | (show False; omega) | exact Leaf.mk trivial | exact Leaf.mk rfl | (refine VC.mk ?_; first | trivial | assumption | ((try simp only [InR] at *); omega) | (simp; done) | (simp; omega))
    all_goals try refine goes_rounds 1 ?_
    all_goals try (refine rounds_one (pl := []) T_ok (Cons.cons con_ref05_SaturateVec (Cons.nil _)) mixed (by kernel_rfl) ?_; repeat' (first | (with_reducible refine And.intro ?_ ?_) | (with_reducible intro h) | ((fail_if_success (with_reducible refine Leaf.mk ?_)); (fail_if_success (with_reducible refine VC.mk ?_)); (fail_if_success (with_reducible refine Goes.mk ?_)); (fail_if_success (with_reducible refine Again.mk ?_)); (fail_if_success (with_reducible refine Rounds.mk ?_)); (fail_if_success (with_reducible show False)); (fail_if_success (with_reducible show True)); conv => whnf)))
    all_goals try simp only [Bool.not_eq_true', Bool.not_eq_false', Bool.and_eq_true, decide_eq_true_eq, decide_eq_false_iff_not, tkA, Nat.zero_add, Nat.reduceAdd, Int.toNat_natCast, tmN] at *
    all_goals try first | exact trivial | (show False; omega) | exact Leaf.mk trivial | exact Leaf.mk rfl | (refine VC.mk ?_; first | trivial | assumption | ((try simp only [InR] at *); omega) | (simp; done) | (simp; omega))
    all_goals (refine Leaf.mk ?_; rfl)
  | [x, y], zl, [(false, xs)], zr =>
    clear zl zr
    have hp0 := hpre _ (List.Mem.head _); try dsimp only at hp0
    skip
    repeat' (first | (with_reducible refine And.intro ?_ ?_) | (with_reducible intro h) | ((fail_if_success (with_reducible refine Leaf.mk ?_)); (fail_if_success (with_reducible refine VC.mk ?_)); (fail_if_success (with_reducible refine Goes.mk ?_)); (fail_if_success (with_reducible refine Again.mk ?_)); (fail_if_success (with_reducible refine Rounds.mk ?_)); (fail_if_success (with_reducible show False)); (fail_if_success (with_reducible show True)); conv => whnf))
    all_goals try simp only [Bool.not_eq_true', Bool.not_eq_false', Bool.and_eq_true, decide_eq_true_eq, decide_eq_false_iff_not, tkA, Nat.zero_add, Nat.reduceAdd, Int.toNat_natCast, tmN] at *
    all_goals try first | exact trivial | (show False; omega) | exact Leaf.mk trivial | exact Leaf.mk rfl | (refine VC.mk ?_; first | trivial | assumption | ((try simp only [InR] at *); omega) | (simp; done) | (simp; omega))
    refine goes_inv (X := Nat) (pl := []) T_ok (Cons.cons con_ref05_SaturateVec (Cons.nil _)) mixed (by kernel_rfl)
      (fun k => (.sl 0 2 0 xs.length :: .any :: .any :: .any :: .any :: .int .i64 (maxN (supD xs x y) k).1 :: .int .i64 (maxN (supD xs x y) k).2 :: .ptr 2 0 :: .int .i64 (k : Int) :: .any :: .any :: .any :: .any :: .any :: .any :: .any :: .any :: .any :: .any :: .any :: .any :: .any :: .any :: .any :: .any :: .any :: .any :: .any :: .any :: .any :: .any :: .any :: .any :: .any :: .any :: .any :: .any :: .any :: .any :: .any :: .any :: .any :: .any :: .any :: .any :: [], [.arr false true 2 xs, .cells [.int .i64 x, .int .i64 y], .cells [.int .i64 (sat x), .int .i64 (sat y)]]))
      (fun k => k ≤ xs.length) (fun k => xs.length - k) 0 [0, 1, 2] (Nat.zero_le _) ?_ ?_ ?_
    · repeat' (first | (with_reducible refine And.intro ?_ ?_) | (with_reducible intro h) | ((fail_if_success (with_reducible refine Leaf.mk ?_)); (fail_if_success (with_reducible refine VC.mk ?_)); (fail_if_success (with_reducible refine Goes.mk ?_)); (fail_if_success (with_reducible refine Again.mk ?_)); (fail_if_success (with_reducible refine Rounds.mk ?_)); (fail_if_success (with_reducible show False)); (fail_if_success (with_reducible show True)); conv => whnf))
      all_goals first | exact trivial | (refine Leaf.mk ?_; first | rfl | exact ⟨rfl, rfl⟩ | (simp; done))
    · repeat' (first | (with_reducible refine And.intro ?_ ?_) | (with_reducible intro h) | ((fail_if_success (with_reducible refine Leaf.mk ?_)); (fail_if_success (with_reducible refine VC.mk ?_)); (fail_if_success (with_reducible refine Goes.mk ?_)); (fail_if_success (with_reducible refine Again.mk ?_)); (fail_if_success (with_reducible refine Rounds.mk ?_)); (fail_if_success (with_reducible show False)); (fail_if_success (with_reducible show True)); conv => whnf))
      all_goals first | exact trivial | (refine Leaf.mk ?_; first | rfl | exact ⟨rfl, rfl⟩ | (simp; done))
    · intro k hx
      repeat' (first | (with_reducible refine And.intro ?_ ?_) | (with_reducible intro h) | ((fail_if_success (with_reducible refine Leaf.mk ?_)); (fail_if_success (with_reducible refine VC.mk ?_)); (fail_if_success (with_reducible refine Goes.mk ?_)); (fail_if_success (with_reducible refine Again.mk ?_)); (fail_if_success (with_reducible refine Rounds.mk ?_)); (fail_if_success (with_reducible show False)); (fail_if_success (with_reducible show True)); conv => whnf))
      all_goals try simp only [Bool.not_eq_true', Bool.not_eq_false', Bool.and_eq_true, decide_eq_true_eq, decide_eq_false_iff_not, tkA, Nat.zero_add, Nat.reduceAdd, Int.toNat_natCast, tmN] at *
      all_goals try (have sx := satmul_bd (at2 xs k 0) x; have sy := satmul_bd (at2 xs k 1) y)
      all_goals try first | exact trivial | (show False; omega) | exact Leaf.mk trivial | exact Leaf.mk rfl | (refine VC.mk ?_; first | trivial | assumption | ((try simp only [InR] at *); omega) | (simp; done) | (simp; omega))
      all_goals try (refine Leaf.mk ?_; have hk : k = xs.length := (by omega); subst hk; rfl)
      all_goals first
        | (have e := maxN_yes (f := supD xs x y) (k := k) (by simp only [supD]; omega)
           (refine Again.mk ⟨k + 1, [0, 1, 2], (by show k + 1 ≤ xs.length; omega), (by show xs.length - (k + 1) < xs.length - k; omega), ?_, ?_⟩ <;> (repeat' (first | (with_reducible refine And.intro ?_ ?_) | (with_reducible intro h) | ((fail_if_success (with_reducible refine Leaf.mk ?_)); (fail_if_success (with_reducible refine VC.mk ?_)); (fail_if_success (with_reducible refine Goes.mk ?_)); (fail_if_success (with_reducible refine Again.mk ?_)); (fail_if_success (with_reducible refine Rounds.mk ?_)); (fail_if_success (with_reducible show False)); (fail_if_success (with_reducible show True)); conv => whnf))) <;> first | exact trivial | (refine Leaf.mk ?_; first | rfl | (rw [e]; done) | (rw [e]; rfl) | (simp; done))))
        | (have e := maxN_no (f := supD xs x y) (k := k) (by simp only [supD]; omega)
           (refine Again.mk ⟨k + 1, [0, 1, 2], (by show k + 1 ≤ xs.length; omega), (by show xs.length - (k + 1) < xs.length - k; omega), ?_, ?_⟩ <;> (repeat' (first | (with_reducible refine And.intro ?_ ?_) | (with_reducible intro h) | ((fail_if_success (with_reducible refine Leaf.mk ?_)); (fail_if_success (with_reducible refine VC.mk ?_)); (fail_if_success (with_reducible refine Goes.mk ?_)); (fail_if_success (with_reducible refine Again.mk ?_)); (fail_if_success (with_reducible refine Rounds.mk ?_)); (fail_if_success (with_reducible show False)); (fail_if_success (with_reducible show True)); conv => whnf))) <;> first | exact trivial | (refine Leaf.mk ?_; first | rfl | (rw [e]; done) | (rw [e]; rfl) | (simp; done))))
def c_polygon_ShortestEdge : Con := ⟨19, rowRun [.rows 2] (fun l R => match l, R with | [], [xs] => [xs.length ≤ 100000] | _, _ => [False]) fun l R => match l, R with
  | [], [xs] => .int .i64 (shX xs)
  | _, _ => .any⟩
set_option maxRecDepth 100000 in
set_option maxHeartbeats 2000000 in
theorem con_polygon_ShortestEdge : c_polygon_ShortestEdge.Ok Try.prog := by
  refine con_rows (C := [c_polygon_IsConvex, c_vec2_Sub, c_vec2_Length]) (pl := [(7, [0, 1, 2, 3, 4, 5, 6, 7, 8, 9, 10, 11, 12, 13], [0, 0, 0, 4, 0, 16, 60, 126, 254, 0, 1022, 2046, 4095, 8191])]) Try.func19 rfl (by kernel_rfl) T_ok (Cons.cons con_polygon_IsConvex (Cons.cons con_vec2_Sub (Cons.cons con_vec2_Length (Cons.nil _)))) mixed (by kernel_rfl) _ _ _ (fun l R hl hR hn hpre => ?_)
  match l, hl, R, hR with
  | [], zl, [(true, xs)], zr =>
    clear zl zr
    obtain rfl : xs = [] := hn _ (List.Mem.head _) rfl
    have hp0 := hpre _ (List.Mem.head _); try dsimp only at hp0
    skip
    have hc : convB [] = false := rfl
    repeat' (first | (with_reducible refine And.intro ?_ ?_) | (with_reducible intro h) | ((fail_if_success (with_reducible refine Leaf.mk ?_)); (fail_if_success (with_reducible refine VC.mk ?_)); (fail_if_success (with_reducible refine Goes.mk ?_)); (fail_if_success (with_reducible refine Again.mk ?_)); (fail_if_success (with_reducible refine Rounds.mk ?_)); (fail_if_success (with_reducible show False)); (fail_if_success (with_reducible show True)); conv => whnf))
    all_goals try simp only [Bool.not_eq_true', Bool.not_eq_false', Bool.and_eq_true, decide_eq_true_eq, decide_eq_false_iff_not, tkA, Nat.zero_add, Nat.reduceAdd, Int.toNat_natCast, tmN] at *
    all_goals try (simp only [hc, Bool.false_eq_true, Bool.true_eq_false] at *)
    all_goals try first | exact trivial | (show False; omega) | exact Leaf.mk trivial | exact Leaf.mk rfl | (refine VC.mk ?_; first | trivial | assumption | ((try simp only [InR] at *); omega) | (simp; done) | (simp; omega))
    all_goals (refine Leaf.mk ?_; rfl)
  | [], zl, [(false, xs)], zr =>
    clear zl zr
    have hp0 := hpre _ (List.Mem.head _); try dsimp only at hp0
    skip
    repeat' (first | (with_reducible refine And.intro ?_ ?_) | (with_reducible intro h) | ((fail_if_success (with_reducible refine Leaf.mk ?_)); (fail_if_success (with_reducible refine VC.mk ?_)); (fail_if_success (with_reducible refine Goes.mk ?_)); (fail_if_success (with_reducible refine Again.mk ?_)); (fail_if_success (with_reducible refine Rounds.mk ?_)); (fail_if_success (with_reducible show False)); (fail_if_success (with_reducible show True)); conv => whnf))
    all_goals try simp only [Bool.not_eq_true', Bool.not_eq_false', Bool.and_eq_true, decide_eq_true_eq, decide_eq_false_iff_not, tkA, Nat.zero_add, Nat.reduceAdd, Int.toNat_natCast, tmN] at *
    all_goals try (have hcv : convB xs = true := (by assumption); obtain ⟨c1, c2, c3, c4⟩ := convB_iff.1 hcv)
    all_goals try first | exact trivial | (show False; omega) | exact Leaf.mk trivial | exact Leaf.mk rfl | (refine VC.mk ?_; first | trivial | assumption | ((try simp only [InR] at *); omega) | (simp; done) | (simp; omega))
    all_goals try (refine Leaf.mk ?_; symm; unfold shX; first | (rw [if_neg (by simp_all)]; done) | (rw [if_pos (by assumption)]; have hk : k = xs.length := (by omega); subst hk; first | rfl | exact (shM_eq c3 _ (by omega) (Nat.le_refl _)).symm))
    refine goes_inv (X := Nat) (pl := [(7, [0, 1, 2, 3, 4, 5, 6, 7, 8, 9, 10, 11, 12, 13], [0, 0, 0, 4, 0, 16, 60, 126, 254, 0, 1022, 2046, 4095, 8191])]) T_ok (Cons.cons con_polygon_IsConvex (Cons.cons con_vec2_Sub (Cons.cons con_vec2_Length (Cons.nil _)))) mixed (by kernel_rfl)
      (fun k => (.sl 0 2 0 xs.length :: .any :: .any :: .int .i64 (shM xs k) :: .any :: .any :: .any :: .any :: .any :: .sl 0 2 0 xs.length :: .int .i64 (xs.length : Int) :: .int .i64 (k : Int) :: .any :: .any :: .any :: .any :: .any :: .any :: .any :: .any :: .any :: .any :: .any :: .any :: .any :: .any :: .any :: .any :: .any :: .any :: .any :: [], [.arr false true 2 xs]))
      (fun k => k ≤ xs.length) (fun k => xs.length - k) 0 [0] (Nat.zero_le _) ?_ ?_ ?_
    · repeat' (first | (with_reducible refine And.intro ?_ ?_) | (with_reducible intro h) | ((fail_if_success (with_reducible refine Leaf.mk ?_)); (fail_if_success (with_reducible refine VC.mk ?_)); (fail_if_success (with_reducible refine Goes.mk ?_)); (fail_if_success (with_reducible refine Again.mk ?_)); (fail_if_success (with_reducible refine Rounds.mk ?_)); (fail_if_success (with_reducible show False)); (fail_if_success (with_reducible show True)); conv => whnf))
      all_goals first | exact trivial | (refine Leaf.mk ?_; first | rfl | exact ⟨rfl, rfl⟩ | (simp; done))
    · repeat' (first | (with_reducible refine And.intro ?_ ?_) | (with_reducible intro h) | ((fail_if_success (with_reducible refine Leaf.mk ?_)); (fail_if_success (with_reducible refine VC.mk ?_)); (fail_if_success (with_reducible refine Goes.mk ?_)); (fail_if_success (with_reducible refine Again.mk ?_)); (fail_if_success (with_reducible refine Rounds.mk ?_)); (fail_if_success (with_reducible show False)); (fail_if_success (with_reducible show True)); conv => whnf))
      all_goals first | exact trivial | (refine Leaf.mk ?_; first | rfl | exact ⟨rfl, rfl⟩ | (simp; done))
    · intro k hx
      repeat' (first | (with_reducible refine And.intro ?_ ?_) | (with_reducible intro h) | ((fail_if_success (with_reducible refine Leaf.mk ?_)); (fail_if_success (with_reducible refine VC.mk ?_)); (fail_if_success (with_reducible refine Goes.mk ?_)); (fail_if_success (with_reducible refine Again.mk ?_)); (fail_if_success (with_reducible refine Rounds.mk ?_)); (fail_if_success (with_reducible show False)); (fail_if_success (with_reducible show True)); conv => whnf))
      all_goals try simp only [Bool.not_eq_true', Bool.not_eq_false', Bool.and_eq_true, decide_eq_true_eq, decide_eq_false_iff_not, tkA, Nat.zero_add, Nat.reduceAdd, Int.toNat_natCast, tmN] at *
      all_goals try (have hnx := next_lt (i := k) (n := xs.length) (by omega))
      all_goals try first | exact trivial | (show False; omega) | exact Leaf.mk trivial | exact Leaf.mk rfl | (refine VC.mk ?_; first | trivial | assumption | ((try simp only [InR] at *); omega) | (simp; done) | (simp; omega))
      all_goals try (refine Leaf.mk ?_; symm; unfold shX; first | (rw [if_neg (by simp_all)]; done) | (rw [if_pos (by assumption)]; have hk : k = xs.length := (by omega); subst hk; first | rfl | exact (shM_eq c3 _ (by omega) (Nat.le_refl _)).symm))
      all_goals (refine Again.mk ⟨k + 1, [0], (by show k + 1 ≤ xs.length; omega), (by show xs.length - (k + 1) < xs.length - k; omega), ?_, ?_⟩ <;> (repeat' (first | (with_reducible refine And.intro ?_ ?_) | (with_reducible intro h) | ((fail_if_success (with_reducible refine Leaf.mk ?_)); (fail_if_success (with_reducible refine VC.mk ?_)); (fail_if_success (with_reducible refine Goes.mk ?_)); (fail_if_success (with_reducible refine Again.mk ?_)); (fail_if_success (with_reducible refine Rounds.mk ?_)); (fail_if_success (with_reducible show False)); (fail_if_success (with_reducible show True)); conv => whnf))) <;> first | exact trivial | (refine Leaf.mk ?_; first | rfl | (simp; done) | (simp only [shM, edL, tmN, Int.toNat_natCast, Nat.zero_add]; done) | (simp only [shM, edL, tmN, Int.toNat_natCast, Nat.zero_add]; rfl)))
def c_ref11_ShortestEdge : Con := ⟨20, rowRun [.rows 2] (fun l R => match l, R with | [], [xs] => [xs.length ≤ 100000] | _, _ => [False]) fun l R => match l, R with
  | [], [xs] => .int .i64 (shX xs)
  | _, _ => .any⟩
set_option maxRecDepth 100000 in
set_option maxHeartbeats 2000000 in
theorem con_ref11_ShortestEdge : c_ref11_ShortestEdge.Ok Try.prog := by
  refine con_rows (C := [c_ref11_IsConvex, c_ref03_Sub, c_ref03_Length]) (pl := [(7, [0, 1, 2, 3, 4, 5, 6, 7, 8, 9, 10, 11, 12, 13, 14], [0, 0, 2, 0, 8, 30, 63, 127, 0, 0, 768, 1792, 4095, 8191, 16383])]) Try.func20 rfl (by kernel_rfl) T_ok (Cons.cons con_ref11_IsConvex (Cons.cons con_ref03_Sub (Cons.cons con_ref03_Length (Cons.nil _)))) mixed (by kernel_rfl) _ _ _ (fun l R hl hR hn hpre => ?_)
  match l, hl, R, hR with
  | [], zl, [(true, xs)], zr =>
    clear zl zr
    obtain rfl : xs = [] := hn _ (List.Mem.head _) rfl
    have hp0 := hpre _ (List.Mem.head _); try dsimp only at hp0
    skip
    have hc : convB [] = false := rfl
    repeat' (first | (with_reducible refine And.intro ?_ ?_) | (with_reducible intro h) | ((fail_if_success (with_reducible refine Leaf.mk ?_)); (fail_if_success (with_reducible refine VC.mk ?_)); (fail_if_success (with_reducible refine Goes.mk ?_)); (fail_if_success (with_reducible refine Again.mk ?_)); (fail_if_success (with_reducible refine Rounds.mk ?_)); (fail_if_success (with_reducible show False)); (fail_if_success (with_reducible show True)); conv => whnf))
    all_goals try simp only [Bool.not_eq_true', Bool.not_eq_false', Bool.and_eq_true, decide_eq_true_eq, decide_eq_false_iff_not, tkA, Nat.zero_add, Nat.reduceAdd, Int.toNat_natCast, tmN] at *
    all_goals try (simp only [hc, Bool.false_eq_true, Bool.true_eq_false] at *)
    all_goals try first | exact trivial | (show False; omega) | exact Leaf.mk trivial | exact Leaf.mk rfl | (refine VC.mk ?_; first | trivial | assumption | ((try simp only [InR] at *); omega) | (simp; done) | (simp; omega))
    all_goals (refine Leaf.mk ?_; rfl)
  | [], zl, [(false, xs)], zr =>
    clear zl zr
    have hp0 := hpre _ (List.Mem.head _); try dsimp only at hp0
    skip
    repeat' (first | (with_reducible refine And.intro ?_ ?_) | (with_reducible intro h) | ((fail_if_success (with_reducible refine Leaf.mk ?_)); (fail_if_success (with_reducible refine VC.mk ?_)); (fail_if_success (with_reducible refine Goes.mk ?_)); (fail_if_success (with_reducible refine Again.mk ?_)); (fail_if_success (with_reducible refine Rounds.mk ?_)); (fail_if_success (with_reducible show False)); (fail_if_success (with_reducible show True)); conv => whnf))
    all_goals try simp only [Bool.not_eq_true', Bool.not_eq_false', Bool.and_eq_true, decide_eq_true_eq, decide_eq_false_iff_not, tkA, Nat.zero_add, Nat.reduceAdd, Int.toNat_natCast, tmN] at *
    all_goals try (have hcv : convB xs = true := (by assumption); obtain ⟨c1, c2, c3, c4⟩ := convB_iff.1 hcv)
    all_goals try first | exact trivial | (show False; omega) | exact Leaf.mk trivial | exact Leaf.mk rfl | (refine VC.mk ?_; first | trivial | assumption | ((try simp only [InR] at *); omega) | (simp; done) | (simp; omega))
    all_goals try (refine Leaf.mk ?_; symm; unfold shX; first | (rw [if_neg (by simp_all)]; done) | (rw [if_pos (by assumption)]; have hk : k = xs.length := (by omega); subst hk; first | rfl | exact (shM_eq c3 _ (by omega) (Nat.le_refl _)).symm))
    refine goes_inv (X := Nat) (pl := [(7, [0, 1, 2, 3, 4, 5, 6, 7, 8, 9, 10, 11, 12, 13, 14], [0, 0, 2, 0, 8, 30, 63, 127, 0, 0, 768, 1792, 4095, 8191, 16383])]) T_ok (Cons.cons con_ref11_IsConvex (Cons.cons con_ref03_Sub (Cons.cons con_ref03_Length (Cons.nil _)))) mixed (by kernel_rfl)
      (fun k => (.sl 0 2 0 xs.length :: .any :: .any :: .int .i64 (shN xs k) :: .int .i64 (k : Int) :: .any :: .any :: .any :: .any :: .any :: .any :: .any :: .any :: .any :: .any :: .any :: .any :: .any :: .any :: .any :: .any :: .any :: .any :: .any :: .any :: .any :: .any :: .any :: .any :: .any :: .any :: .any :: .any :: .any :: .any :: .any :: .any :: .any :: [], [.arr false true 2 xs]))
      (fun k => k ≤ xs.length) (fun k => xs.length - k) 0 [0] (Nat.zero_le _) ?_ ?_ ?_
    · repeat' (first | (with_reducible refine And.intro ?_ ?_) | (with_reducible intro h) | ((fail_if_success (with_reducible refine Leaf.mk ?_)); (fail_if_success (with_reducible refine VC.mk ?_)); (fail_if_success (with_reducible refine Goes.mk ?_)); (fail_if_success (with_reducible refine Again.mk ?_)); (fail_if_success (with_reducible refine Rounds.mk ?_)); (fail_if_success (with_reducible show False)); (fail_if_success (with_reducible show True)); conv => whnf))
      all_goals first | exact trivial | (refine Leaf.mk ?_; first | rfl | exact ⟨rfl, rfl⟩ | (simp; done))
    · repeat' (first | (with_reducible refine And.intro ?_ ?_) | (with_reducible intro h) | ((fail_if_success (with_reducible refine Leaf.mk ?_)); (fail_if_success (with_reducible refine VC.mk ?_)); (fail_if_success (with_reducible refine Goes.mk ?_)); (fail_if_success (with_reducible refine Again.mk ?_)); (fail_if_success (with_reducible refine Rounds.mk ?_)); (fail_if_success (with_reducible show False)); (fail_if_success (with_reducible show True)); conv => whnf))
      all_goals first | exact trivial | (refine Leaf.mk ?_; first | rfl | exact ⟨rfl, rfl⟩ | (simp; done))
    · intro k hx
      repeat' (first | (with_reducible refine And.intro ?_ ?_) | (with_reducible intro h) | ((fail_if_success (with_reducible refine Leaf.mk ?_)); (fail_if_success (with_reducible refine VC.mk ?_)); (fail_if_success (with_reducible refine Goes.mk ?_)); (fail_if_success (with_reducible refine Again.mk ?_)); (fail_if_success (with_reducible refine Rounds.mk ?_)); (fail_if_success (with_reducible show False)); (fail_if_success (with_reducible show True)); conv => whnf))
      all_goals try simp only [Bool.not_eq_true', Bool.not_eq_false', Bool.and_eq_true, decide_eq_true_eq, decide_eq_false_iff_not, tkA, Nat.zero_add, Nat.reduceAdd, Int.toNat_natCast, tmN] at *
      all_goals try (have hnx := next_lt (i := k) (n := xs.length) (by omega))
      all_goals try first | exact trivial | (show False; omega) | exact Leaf.mk trivial | exact Leaf.mk rfl | (refine VC.mk ?_; first | trivial | assumption | ((try simp only [InR] at *); omega) | (simp; done) | (simp; omega))
      all_goals try (refine Leaf.mk ?_; symm; unfold shX; first | (rw [if_neg (by simp_all)]; done) | (rw [if_pos (by assumption)]; have hk : k = xs.length := (by omega); subst hk; first | rfl | exact (shM_eq c3 _ (by omega) (Nat.le_refl _)).symm))
      all_goals first
        | (have e : shN xs (k + 1) = edL xs k := (by rw [shN]; exact if_pos (by simp only [edL]; omega))
           (refine Again.mk ⟨k + 1, [0], (by show k + 1 ≤ xs.length; omega), (by show xs.length - (k + 1) < xs.length - k; omega), ?_, ?_⟩ <;> (repeat' (first | (with_reducible refine And.intro ?_ ?_) | (with_reducible intro h) | ((fail_if_success (with_reducible refine Leaf.mk ?_)); (fail_if_success (with_reducible refine VC.mk ?_)); (fail_if_success (with_reducible refine Goes.mk ?_)); (fail_if_success (with_reducible refine Again.mk ?_)); (fail_if_success (with_reducible refine Rounds.mk ?_)); (fail_if_success (with_reducible show False)); (fail_if_success (with_reducible show True)); conv => whnf))) <;> first | exact trivial | (refine Leaf.mk ?_; first | rfl | (rw [e]; done) | (rw [e]; rfl) | (rw [e]; simp only [edL, tmN, Int.toNat_natCast, Nat.zero_add]; done) | (simp; done))))
        | (have e : shN xs (k + 1) = shN xs k := (by rw [shN]; exact if_neg (by simp only [edL]; omega))
           (refine Again.mk ⟨k + 1, [0], (by show k + 1 ≤ xs.length; omega), (by show xs.length - (k + 1) < xs.length - k; omega), ?_, ?_⟩ <;> (repeat' (first | (with_reducible refine And.intro ?_ ?_) | (with_reducible intro h) | ((fail_if_success (with_reducible refine Leaf.mk ?_)); (fail_if_success (with_reducible refine VC.mk ?_)); (fail_if_success (with_reducible refine Goes.mk ?_)); (fail_if_success (with_reducible refine Again.mk ?_)); (fail_if_success (with_reducible refine Rounds.mk ?_)); (fail_if_success (with_reducible show False)); (fail_if_success (with_reducible show True)); conv => whnf))) <;> first | exact trivial | (refine Leaf.mk ?_; first | rfl | (rw [e]; done) | (rw [e]; rfl) | (simp; done))))
def c_ref11_EqualPoints : Con := ⟨11, rowRun [.rows 2, .rows 2] (fun l R => match l, R with | [], [xs, ys] => [xs.length ≤ 100000, ys.length ≤ 100000, wf 2 xs, wf 2 ys] | _, _ => [False]) fun l R => match l, R with
  | [], [xs, ys] => .bool (decide (xs = ys))
  | _, _ => .any⟩
set_option maxRecDepth 100000 in
set_option maxHeartbeats 2000000 in
theorem con_ref11_EqualPoints : c_ref11_EqualPoints.Ok Try.prog := by
  refine con_rows (C := []) (pl := [(6, [0, 1, 2, 3, 4, 5, 6, 7, 8], [0, 0, 3, 7, 0, 0, 48, 112, 255])]) Try.func11 rfl (by kernel_rfl) T_ok (Cons.nil _) mixed (by kernel_rfl) _ _ _ (fun l R hl hR hn hpre => ?_)
  match l, hl, R, hR with
  | [], zl, [(true, xs), (true, ys)], zr =>
    clear zl zr
    obtain rfl : xs = [] := hn _ (List.Mem.head _) rfl
    obtain rfl : ys = [] := hn _ (List.Mem.tail _ (List.Mem.head _)) rfl
    have hp0 := hpre _ (List.Mem.head _); try dsimp only at hp0
    have hp1 := hpre _ (List.Mem.tail _ (List.Mem.head _)); try dsimp only at hp1
    have hp2 := hpre _ (List.Mem.tail _ (List.Mem.tail _ (List.Mem.head _))); try dsimp only at hp2
    have hp3 := hpre _ (List.Mem.tail _ (List.Mem.tail _ (List.Mem.tail _ (List.Mem.head _)))); try dsimp only at hp3
    skip
    repeat' (first | (with_reducible refine And.intro ?_ ?_) | (with_reducible intro h) | ((fail_if_success (with_reducible refine Leaf.mk ?_)); (fail_if_success (with_reducible refine VC.mk ?_)); (fail_if_success (with_reducible refine Goes.mk ?_)); (fail_if_success (with_reducible refine Again.mk ?_)); (fail_if_success (with_reducible refine Rounds.mk ?_)); (fail_if_success (with_reducible show False)); (fail_if_success (with_reducible show True)); conv => whnf))
    all_goals try simp only [decide_eq_true_eq, decide_eq_false_iff_not, tkA, Nat.zero_add, Nat.reduceAdd, Int.toNat_natCast, List.take_nil, List.nil_append] at *
    all_goals try simp only [Bool.not_eq_true', Bool.not_eq_false', decide_eq_true_eq, decide_eq_false_iff_not] at *
    all_goals try first | exact trivial | (show False; omega) | exact Leaf.mk trivial | exact Leaf.mk rfl | (refine VC.mk ?_; first | trivial | assumption | ((try simp only [InR, decide_eq_true_eq, decide_eq_false_iff_not] at *); omega) | (simp; done))
    all_goals try simp only [List.length_nil, Int.natCast_zero, Int.ofNat_zero] at *
    all_goals try (have hz : ys.length = 0 := (by omega); have hz2 := List.length_eq_zero_iff.1 hz; subst hz2)
    all_goals try (have hz : xs.length = 0 := (by omega); have hz2 := List.length_eq_zero_iff.1 hz; subst hz2)
    all_goals try refine goes_rounds 1 ?_
    all_goals try (refine rounds_one (pl := [(6, [0, 1, 2, 3, 4, 5, 6, 7, 8], [0, 0, 3, 7, 0, 0, 48, 112, 255])]) T_ok (Cons.nil _) mixed (by kernel_rfl) ?_; repeat' (first | (with_reducible refine And.intro ?_ ?_) | (with_reducible intro h) | ((fail_if_success (with_reducible refine Leaf.mk ?_)); (fail_if_success (with_reducible refine VC.mk ?_)); (fail_if_success (with_reducible refine Goes.mk ?_)); (fail_if_success (with_reducible refine Again.mk ?_)); (fail_if_success (with_reducible refine Rounds.mk ?_)); (fail_if_success (with_reducible show False)); (fail_if_success (with_reducible show True)); conv => whnf)))
    all_goals try simp only [decide_eq_true_eq, decide_eq_false_iff_not, tkA, Nat.zero_add, Nat.reduceAdd, Int.toNat_natCast, List.take_nil, List.nil_append] at *
    all_goals try simp only [List.length_nil, Int.natCast_zero, Int.ofNat_zero] at *
    all_goals try (exfalso; omega)
    all_goals try exact trivial
    all_goals try exact Leaf.mk trivial
    all_goals (refine Leaf.mk ?_; first | rfl | (simp; done) | (rw [decide_eq_false (fun hh => by subst hh; simp_all)]; done) | (rw [decide_eq_true (by first | rfl | exact (List.length_eq_zero_iff.1 (by omega)) | exact (List.length_eq_zero_iff.1 (by omega)).symm)]; done) | (simp_all; done))
  | [], zl, [(true, xs), (false, ys)], zr =>
    clear zl zr
    obtain rfl : xs = [] := hn _ (List.Mem.head _) rfl
    have hp0 := hpre _ (List.Mem.head _); try dsimp only at hp0
    have hp1 := hpre _ (List.Mem.tail _ (List.Mem.head _)); try dsimp only at hp1
    have hp2 := hpre _ (List.Mem.tail _ (List.Mem.tail _ (List.Mem.head _))); try dsimp only at hp2
    have hp3 := hpre _ (List.Mem.tail _ (List.Mem.tail _ (List.Mem.tail _ (List.Mem.head _)))); try dsimp only at hp3
    skip
    repeat' (first | (with_reducible refine And.intro ?_ ?_) | (with_reducible intro h) | ((fail_if_success (with_reducible refine Leaf.mk ?_)); (fail_if_success (with_reducible refine VC.mk ?_)); (fail_if_success (with_reducible refine Goes.mk ?_)); (fail_if_success (with_reducible refine Again.mk ?_)); (fail_if_success (with_reducible refine Rounds.mk ?_)); (fail_if_success (with_reducible show False)); (fail_if_success (with_reducible show True)); conv => whnf))
    all_goals try simp only [decide_eq_true_eq, decide_eq_false_iff_not, tkA, Nat.zero_add, Nat.reduceAdd, Int.toNat_natCast, List.take_nil, List.nil_append] at *
    all_goals try simp only [Bool.not_eq_true', Bool.not_eq_false', decide_eq_true_eq, decide_eq_false_iff_not] at *
    all_goals try first | exact trivial | (show False; omega) | exact Leaf.mk trivial | exact Leaf.mk rfl | (refine VC.mk ?_; first | trivial | assumption | ((try simp only [InR, decide_eq_true_eq, decide_eq_false_iff_not] at *); omega) | (simp; done))
    all_goals try simp only [List.length_nil, Int.natCast_zero, Int.ofNat_zero] at *
    all_goals try (have hz : ys.length = 0 := (by omega); have hz2 := List.length_eq_zero_iff.1 hz; subst hz2)
    all_goals try (have hz : xs.length = 0 := (by omega); have hz2 := List.length_eq_zero_iff.1 hz; subst hz2)
    all_goals try refine goes_rounds 1 ?_
    all_goals try (refine rounds_one (pl := [(6, [0, 1, 2, 3, 4, 5, 6, 7, 8], [0, 0, 3, 7, 0, 0, 48, 112, 255])]) T_ok (Cons.nil _) mixed (by kernel_rfl) ?_; repeat' (first | (with_reducible refine And.intro ?_ ?_) | (with_reducible intro h) | ((fail_if_success (with_reducible refine Leaf.mk ?_)); (fail_if_success (with_reducible refine VC.mk ?_)); (fail_if_success (with_reducible refine Goes.mk ?_)); (fail_if_success (with_reducible refine Again.mk ?_)); (fail_if_success (with_reducible refine Rounds.mk ?_)); (fail_if_success (with_reducible show False)); (fail_if_success (with_reducible show True)); conv => whnf)))
    all_goals try simp only [decide_eq_true_eq, decide_eq_false_iff_not, tkA, Nat.zero_add, Nat.reduceAdd, Int.toNat_natCast, List.take_nil, List.nil_append] at *
    all_goals try simp only [List.length_nil, Int.natCast_zero, Int.ofNat_zero] at *
    all_goals try (exfalso; omega)
    all_goals try exact trivial
    all_goals try exact Leaf.mk trivial
    all_goals (refine Leaf.mk ?_; first | rfl | (simp; done) | (rw [decide_eq_false (fun hh => by subst hh; simp_all)]; done) | (rw [decide_eq_true (by first | rfl | exact (List.length_eq_zero_iff.1 (by omega)) | exact (List.length_eq_zero_iff.1 (by omega)).symm)]; done) | (simp_all; done))
  | [], zl, [(false, xs), (true, ys)], zr =>
    clear zl zr
    obtain rfl : ys = [] := hn _ (List.Mem.tail _ (List.Mem.head _)) rfl
    have hp0 := hpre _ (List.Mem.head _); try dsimp only at hp0
    have hp1 := hpre _ (List.Mem.tail _ (List.Mem.head _)); try dsimp only at hp1
    have hp2 := hpre _ (List.Mem.tail _ (List.Mem.tail _ (List.Mem.head _))); try dsimp only at hp2
    have hp3 := hpre _ (List.Mem.tail _ (List.Mem.tail _ (List.Mem.tail _ (List.Mem.head _)))); try dsimp only at hp3
    skip
    repeat' (first | (with_reducible refine And.intro ?_ ?_) | (with_reducible intro h) | ((fail_if_success (with_reducible refine Leaf.mk ?_)); (fail_if_success (with_reducible refine VC.mk ?_)); (fail_if_success (with_reducible refine Goes.mk ?_)); (fail_if_success (with_reducible refine Again.mk ?_)); (fail_if_success (with_reducible refine Rounds.mk ?_)); (fail_if_success (with_reducible show False)); (fail_if_success (with_reducible show True)); conv => whnf))
    all_goals try simp only [decide_eq_true_eq, decide_eq_false_iff_not, tkA, Nat.zero_add, Nat.reduceAdd, Int.toNat_natCast, List.take_nil, List.nil_append] at *
    all_goals try simp only [Bool.not_eq_true', Bool.not_eq_false', decide_eq_true_eq, decide_eq_false_iff_not] at *
    all_goals try first | exact trivial | (show False; omega) | exact Leaf.mk trivial | exact Leaf.mk rfl | (refine VC.mk ?_; first | trivial | assumption | ((try simp only [InR, decide_eq_true_eq, decide_eq_false_iff_not] at *); omega) | (simp; done))
    all_goals try simp only [List.length_nil, Int.natCast_zero, Int.ofNat_zero] at *
    all_goals try (have hz : ys.length = 0 := (by omega); have hz2 := List.length_eq_zero_iff.1 hz; subst hz2)
    all_goals try (have hz : xs.length = 0 := (by omega); have hz2 := List.length_eq_zero_iff.1 hz; subst hz2)
    all_goals try refine goes_rounds 1 ?_
    all_goals try (refine rounds_one (pl := [(6, [0, 1, 2, 3, 4, 5, 6, 7, 8], [0, 0, 3, 7, 0, 0, 48, 112, 255])]) T_ok (Cons.nil _) mixed (by kernel_rfl) ?_; repeat' (first | (with_reducible refine And.intro ?_ ?_) | (with_reducible intro h) | ((fail_if_success (with_reducible refine Leaf.mk ?_)); (fail_if_success (with_reducible refine VC.mk ?_)); (fail_if_success (with_reducible refine Goes.mk ?_)); (fail_if_success (with_reducible refine Again.mk ?_)); (fail_if_success (with_reducible refine Rounds.mk ?_)); (fail_if_success (with_reducible show False)); (fail_if_success (with_reducible show True)); conv => whnf)))
    all_goals try simp only [decide_eq_true_eq, decide_eq_false_iff_not, tkA, Nat.zero_add, Nat.reduceAdd, Int.toNat_natCast, List.take_nil, List.nil_append] at *
    all_goals try simp only [List.length_nil, Int.natCast_zero, Int.ofNat_zero] at *
    all_goals try (exfalso; omega)
    all_goals try exact trivial
    all_goals try exact Leaf.mk trivial
    all_goals (refine Leaf.mk ?_; first | rfl | (simp; done) | (rw [decide_eq_false (fun hh => by subst hh; simp_all)]; done) | (rw [decide_eq_true (by first | rfl | exact (List.length_eq_zero_iff.1 (by omega)) | exact (List.length_eq_zero_iff.1 (by omega)).symm)]; done) | (simp_all; done))
  | [], zl, [(false, xs), (false, ys)], zr =>
    clear zl zr
    have hp0 := hpre _ (List.Mem.head _); try dsimp only at hp0
    have hp1 := hpre _ (List.Mem.tail _ (List.Mem.head _)); try dsimp only at hp1
    have hp2 := hpre _ (List.Mem.tail _ (List.Mem.tail _ (List.Mem.head _))); try dsimp only at hp2
    have hp3 := hpre _ (List.Mem.tail _ (List.Mem.tail _ (List.Mem.tail _ (List.Mem.head _)))); try dsimp only at hp3
    skip
    repeat' (first | (with_reducible refine And.intro ?_ ?_) | (with_reducible intro h) | ((fail_if_success (with_reducible refine Leaf.mk ?_)); (fail_if_success (with_reducible refine VC.mk ?_)); (fail_if_success (with_reducible refine Goes.mk ?_)); (fail_if_success (with_reducible refine Again.mk ?_)); (fail_if_success (with_reducible refine Rounds.mk ?_)); (fail_if_success (with_reducible show False)); (fail_if_success (with_reducible show True)); conv => whnf))
    all_goals try simp only [decide_eq_true_eq, decide_eq_false_iff_not, tkA, Nat.zero_add, Nat.reduceAdd, Int.toNat_natCast, List.take_nil, List.nil_append] at *
    all_goals try simp only [Bool.not_eq_true', Bool.not_eq_false', decide_eq_true_eq, decide_eq_false_iff_not] at *
    all_goals try first | exact trivial | (show False; omega) | exact Leaf.mk trivial | exact Leaf.mk rfl | (refine VC.mk ?_; first | trivial | assumption | ((try simp only [InR, decide_eq_true_eq, decide_eq_false_iff_not] at *); omega) | (simp; done))
    all_goals try (refine Leaf.mk ?_; symm; rw [decide_eq_false_iff_not]; intro hh; subst hh; simp_all; done)
    have hlen : xs.length = ys.length := by omega
    refine goes_inv (X := Nat) (pl := [(6, [0, 1, 2, 3, 4, 5, 6, 7, 8], [0, 0, 3, 7, 0, 0, 48, 112, 255])]) T_ok (Cons.nil _) mixed (by kernel_rfl)
      (fun k => (.sl 0 2 0 xs.length :: .sl 1 2 0 ys.length :: .any :: .any :: .any :: .int .i64 (k : Int) :: .any :: .any :: .any :: .any :: .any :: .any :: .any :: .any :: .any :: .any :: .any :: .any :: .any :: .any :: .any :: .any :: .any :: .any :: .any :: .any :: .any :: .any :: .any :: .any :: .any :: .any :: [], [.arr false true 2 xs, .arr false true 2 ys]))
      (fun k => k ≤ xs.length ∧ xs.take k = ys.take k) (fun k => xs.length - k) 0 [0, 1] ⟨Nat.zero_le _, rfl⟩ ?_ ?_ ?_
    · repeat' (first | (with_reducible refine And.intro ?_ ?_) | (with_reducible intro h) | ((fail_if_success (with_reducible refine Leaf.mk ?_)); (fail_if_success (with_reducible refine VC.mk ?_)); (fail_if_success (with_reducible refine Goes.mk ?_)); (fail_if_success (with_reducible refine Again.mk ?_)); (fail_if_success (with_reducible refine Rounds.mk ?_)); (fail_if_success (with_reducible show False)); (fail_if_success (with_reducible show True)); conv => whnf))
      all_goals first | exact trivial | (refine Leaf.mk ?_; first | rfl | exact ⟨rfl, rfl⟩ | (simp; done))
    · repeat' (first | (with_reducible refine And.intro ?_ ?_) | (with_reducible intro h) | ((fail_if_success (with_reducible refine Leaf.mk ?_)); (fail_if_success (with_reducible refine VC.mk ?_)); (fail_if_success (with_reducible refine Goes.mk ?_)); (fail_if_success (with_reducible refine Again.mk ?_)); (fail_if_success (with_reducible refine Rounds.mk ?_)); (fail_if_success (with_reducible show False)); (fail_if_success (with_reducible show True)); conv => whnf))
      all_goals first | exact trivial | (refine Leaf.mk ?_; first | rfl | exact ⟨rfl, rfl⟩ | (simp; done))
    · intro k hx
      obtain ⟨hx1, hx2⟩ := hx
      repeat' (first | (with_reducible refine And.intro ?_ ?_) | (with_reducible intro h) | ((fail_if_success (with_reducible refine Leaf.mk ?_)); (fail_if_success (with_reducible refine VC.mk ?_)); (fail_if_success (with_reducible refine Goes.mk ?_)); (fail_if_success (with_reducible refine Again.mk ?_)); (fail_if_success (with_reducible refine Rounds.mk ?_)); (fail_if_success (with_reducible show False)); (fail_if_success (with_reducible show True)); conv => whnf))
      all_goals try simp only [decide_eq_true_eq, decide_eq_false_iff_not, tkA, Nat.zero_add, Nat.reduceAdd, Int.toNat_natCast, List.take_nil, List.nil_append] at *
      all_goals try first | exact trivial | (show False; omega) | exact Leaf.mk trivial | exact Leaf.mk rfl | (refine VC.mk ?_; first | trivial | assumption | ((try simp only [InR, decide_eq_true_eq, decide_eq_false_iff_not] at *); omega) | (simp; done))
      all_goals try simp only [Bool.not_eq_true', Bool.not_eq_false', Bool.and_eq_true, decide_eq_true_eq] at *
      all_goals first
        | (refine Leaf.mk ?_; have hk : k = xs.length := by omega
           subst hk
           rw [List.take_of_length_le (by omega), List.take_of_length_le (by omega)] at hx2
           subst hx2
           first | rfl | (simp; done))
        | (refine Leaf.mk ?_; rw [decide_eq_false (fun hh => by subst hh; simp_all)]; done)
        | (refine Leaf.mk ?_; symm; rw [decide_eq_false_iff_not]; intro hh; subst hh; simp_all; done)
        | (have hlt : k < xs.length := by omega
           obtain ⟨e0, e1⟩ := h
           have hr : ∀ j, j < 2 → at2 xs k j = at2 ys k j := fun j hj => by match j, hj with | 0, _ => exact e0 | 1, _ => exact e1
           (refine Again.mk ⟨k + 1, [0, 1], ⟨hlt, take_ext hp2 hp3 hx2 hlt (by omega) hr⟩, (by omega), ?_, ?_⟩ <;> (repeat' (first | (with_reducible refine And.intro ?_ ?_) | (with_reducible intro h) | ((fail_if_success (with_reducible refine Leaf.mk ?_)); (fail_if_success (with_reducible refine VC.mk ?_)); (fail_if_success (with_reducible refine Goes.mk ?_)); (fail_if_success (with_reducible refine Again.mk ?_)); (fail_if_success (with_reducible refine Rounds.mk ?_)); (fail_if_success (with_reducible show False)); (fail_if_success (with_reducible show True)); conv => whnf))) <;> first | exact trivial | (refine Leaf.mk ?_; first | rfl | exact ⟨rfl, rfl⟩ | (simp; done))))
def c_law11_square : Con := ⟨26, genRun [] (fun l R => match l, R with | [], [] => [] | _, _ => [False]) fun l R => match l, R with
  | [], [] => [.rows false 2 [[0, 0], [65536, 0], [65536, 65536], [0, 65536]]]
  | _, _ => []⟩
set_option maxRecDepth 100000 in
set_option maxHeartbeats 4000000 in
theorem con_law11_square : c_law11_square.Ok Try.prog := by
  refine con_gen (C := []) (pl := []) Try.func26 rfl (by kernel_rfl) T_ok (Cons.nil _) mixed (by kernel_rfl) _ _ _ (fun l R hl hR hn hpre => ?_)
  match l, hl, R, hR with
  | [], zl, [], zr =>
    clear zl zr
    repeat' (first | (with_reducible refine And.intro ?_ ?_) | (with_reducible intro h) | ((fail_if_success (with_reducible refine Leaf.mk ?_)); (fail_if_success (with_reducible refine VC.mk ?_)); (fail_if_success (with_reducible refine Goes.mk ?_)); (fail_if_success (with_reducible refine Again.mk ?_)); (fail_if_success (with_reducible refine Rounds.mk ?_)); (fail_if_success (with_reducible show False)); (fail_if_success (with_reducible show True)); conv => whnf))
    all_goals try simp only [Bool.not_eq_true', Bool.not_eq_false', Bool.and_eq_true, decide_eq_true_eq, decide_eq_false_iff_not, tkA, Nat.zero_add, Nat.reduceAdd, Int.toNat_natCast, tmN] at *
    all_goals try first | exact trivial | (show False; omega) | exact Leaf.mk trivial | exact Leaf.mk rfl | (refine VC.mk ?_; first | trivial | assumption | ((try simp only [InR] at *); omega) | (simp; done) | (simp; omega))
end Go.Proofs.Ytbichdbapkpjpaa
