/- Contracts of package polygon and of caromref11: the other measures. -/
import Derived.Test.YtohjifnkajhhnaaGreatGe
import Derived.Test.YtohjifnkajhhnaaGreatEC
namespace Go.Proofs.YtohjifnkajhhnaaGreat
open Go.RowKit Fx Vx Bx Ev
set_option linter.unusedVariables false
set_option linter.unusedSimpArgs false


def insX (xs : List (List Int)) (x y : Int) (n : Nat) : Prop := ∀ i, i < n → orient (at2 xs i 0) (at2 xs i 1) (at2 xs ((i + 1) % xs.length) 0) (at2 xs ((i + 1) % xs.length) 1) x y ≠ -1
instance (xs : List (List Int)) (x y : Int) (n : Nat) : Decidable (insX xs x y n) := by unfold insX; infer_instance
def hasX (xs : List (List Int)) (x y : Int) : Bool := convB xs && decide (insX xs x y xs.length)
theorem insX.succ {xs : List (List Int)} {x y : Int} {n : Nat} (h : insX xs x y n) (k : orient (at2 xs n 0) (at2 xs n 1) (at2 xs ((n + 1) % xs.length) 0) (at2 xs ((n + 1) % xs.length) 1) x y ≠ -1) : insX xs x y (n + 1) := fun j hj => by
  rcases Nat.lt_or_ge j n with e | e
  · exact h j e
  · obtain rfl : j = n := by omega
    exact k
theorem orient_neg {a b c d e f : Int} : orient a b c d e f < 0 ↔ orient a b c d e f = -1 := by unfold orient sign; split <;> (try split) <;> omega
theorem hasX_no {xs : List (List Int)} {x y : Int} (h : convB xs = false ∨ ¬ insX xs x y xs.length) : hasX xs x y = false := by
  unfold hasX
  rcases h with h | h
  · rw [h]; rfl
  · rw [decide_eq_false h]; simp
theorem hasX_yes {xs : List (List Int)} {x y : Int} (h : convB xs = true) (k : insX xs x y xs.length) : hasX xs x y = true := by
  unfold hasX; rw [h, decide_eq_true k]; rfl
def wf (e : Nat) (xs : List (List Int)) : Prop := ∀ x ∈ xs, x.length = e
theorem take_ext {e : Nat} {xs ys : List (List Int)} (hx : wf e xs) (hy : wf e ys) {k : Nat} (h : xs.take k = ys.take k) (h1 : k < xs.length) (h2 : k < ys.length) (hr : ∀ j, j < e → at2 xs k j = at2 ys k j) : xs.take (k + 1) = ys.take (k + 1) := by
  rw [List.take_succ_eq_append_getElem h1, List.take_succ_eq_append_getElem h2, h]
  congr 2
  have l1 : xs[k].length = e := hx _ (List.getElem_mem h1)
  have l2 : ys[k].length = e := hy _ (List.getElem_mem h2)
  apply List.ext_getElem (by omega)
  intro j a b
  have := hr j (by omega)
  simp only [at2, List.getD_eq_getElem?_getD, List.getElem?_eq_getElem h1, List.getElem?_eq_getElem h2, Option.getD_some, List.getElem?_eq_getElem a, List.getElem?_eq_getElem b] at this
  exact this
def supD (xs : List (List Int)) (dx dy : Int) (k : Nat) : Int := sat (at2 xs k 0) * sat dx + sat (at2 xs k 1) * sat dy
/-- The first with the greatest value of f, and that value: after k. -/
def maxN (f : Nat → Int) : Nat → Int × Int
  | 0 => (-1, 0)
  | k + 1 => if (maxN f k).1 < 0 ∨ (maxN f k).2 < f k then ((k : Int), f k) else maxN f k
theorem maxN_yes {f : Nat → Int} {k : Nat} (h : (maxN f k).1 < 0 ∨ (maxN f k).2 < f k) : maxN f (k + 1) = ((k : Int), f k) := by unfold maxN; rw [if_pos h]
theorem maxN_no {f : Nat → Int} {k : Nat} (h : ¬ ((maxN f k).1 < 0 ∨ (maxN f k).2 < f k)) : maxN f (k + 1) = maxN f k := by rw [maxN, if_neg h]
def edL (xs : List (List Int)) (k : Nat) : Int := len (sub (at2 xs ((k + 1) % xs.length) 0) (at2 xs k 0)) (sub (at2 xs ((k + 1) % xs.length) 1) (at2 xs k 1))
def shN (xs : List (List Int)) : Nat → Int
  | 0 => -1
  | k + 1 => if shN xs k < 0 ∨ edL xs k < shN xs k then edL xs k else shN xs k
def shX (xs : List (List Int)) : Int := if convB xs then shN xs xs.length else 0
/-- As the program counts: from the greatest number on. -/
def shM (xs : List (List Int)) : Nat → Int
  | 0 => 536870911
  | k + 1 => min (shM xs k) (edL xs k)
theorem edL_bd (xs : List (List Int)) (k : Nat) : 0 ≤ edL xs k := isq_nonneg _
theorem shN_nn (xs : List (List Int)) : ∀ k, 0 < k → 0 ≤ shN xs k
  | k + 1, _ => by
    have := edL_bd xs k
    unfold shN
    split
    · exact this
    · omega
theorem edL_le {xs : List (List Int)} (h : AllR xs xs.length) {k : Nat} (hk : k < xs.length) : edL xs k ≤ 536870911 := by
  have hn := next_lt hk
  have a0 := h.at (j := 0) hk (by decide)
  have a1 := h.at (j := 1) hk (by decide)
  have b0 := h.at (j := 0) hn (by decide)
  have b1 := h.at (j := 1) hn (by decide)
  unfold edL len sub
  generalize at2 xs k 0 = p at *
  generalize at2 xs k 1 = q at *
  generalize at2 xs ((k + 1) % xs.length) 0 = r at *
  generalize at2 xs ((k + 1) % xs.length) 1 = s at *
  rw [sat_id (x := p) (by omega) (by omega), sat_id (x := q) (by omega) (by omega), sat_id (x := r) (by omega) (by omega), sat_id (x := s) (by omega) (by omega)]
  rw [sat_id (x := r - p) (by omega) (by omega), sat_id (x := s - q) (by omega) (by omega)]
  rw [sat_id (x := r - p) (by omega) (by omega), sat_id (x := s - q) (by omega) (by omega)]
  have m1 := mul_bd (x := r - p) (y := r - p) (A := 2097152) (by omega) (by omega) (by omega) (by omega)
  have m2 := mul_bd (x := s - q) (y := s - q) (A := 2097152) (by omega) (by omega) (by omega) (by omega)
  have n1 := sq_nonneg (r - p)
  have n2 := sq_nonneg (s - q)
  have i1 := isq_sq (n := (r - p) * (r - p) + (s - q) * (s - q)) (by omega)
  have i2 : (r - p) * (r - p) + (s - q) * (s - q) ≤ 8796093022208 := by omega
  generalize isq ((r - p) * (r - p) + (s - q) * (s - q)) = z at *
  rcases Int.lt_or_le 536870911 z with hz | hz
  · have := Int.mul_le_mul (a := 536870911) (b := 536870911) (c := z) (d := z) (by omega) (by omega) (by omega) (by omega)
    omega
  · exact hz
theorem shN_s (xs : List (List Int)) (k : Nat) : shN xs (k + 1) = if shN xs k < 0 ∨ edL xs k < shN xs k then edL xs k else shN xs k := rfl
theorem shM_s (xs : List (List Int)) (k : Nat) : shM xs (k + 1) = min (shM xs k) (edL xs k) := rfl
theorem shM_eq {xs : List (List Int)} (h : AllR xs xs.length) : ∀ k, 0 < k → k ≤ xs.length → shM xs k = shN xs k
  | 1, _, h1 => by
    have := edL_le h (k := 0) (by omega)
    have e0 : shM xs 0 = 536870911 := rfl
    have e1 : shN xs 0 = -1 := rfl
    rw [shM_s xs 0, shN_s xs 0, if_pos (by omega)]; omega
  | k + 2, _, h1 => by
    have ih := shM_eq h (k + 1) (by omega) (by omega)
    have nn := shN_nn xs (k + 1) (by omega)
    rw [shM_s xs (k + 1), ih, shN_s xs (k + 1)]
    by_cases hc : shN xs (k + 1) < 0 ∨ edL xs (k + 1) < shN xs (k + 1)
    · rw [if_pos hc]; omega
    · rw [if_neg hc]; omega
theorem shM_le (xs : List (List Int)) : ∀ k, shM xs k ≤ 536870911
  | 0 => by simp [shM]
  | k + 1 => by have := shM_le xs k; unfold shM; omega

def c_polygon_ShortestEdge : Con := ⟨88, rowRun [.rows 2] (fun l R => match l, R with | [], [xs] => [xs.length ≤ 100000] | _, _ => [False]) fun l R => match l, R with
  | [], [xs] => .int .i64 (shX xs)
  | _, _ => .any⟩
set_option maxRecDepth 100000 in
set_option maxHeartbeats 2000000 in
theorem con_polygon_ShortestEdge : c_polygon_ShortestEdge.Ok Tryz.prog := by
  refine con_rows (C := [c_polygon_IsConvex, c_vec2_Sub, c_vec2_Length]) (pl := [(7, [0, 1, 2, 3, 4, 5, 6, 7, 8, 9, 10, 11, 12, 13], [0, 0, 0, 4, 0, 16, 60, 126, 254, 0, 1022, 2046, 4095, 8191])]) Tryz.func88 rfl (by kernel_rfl) T_ok (Cons.cons con_polygon_IsConvex (Cons.cons con_vec2_Sub (Cons.cons con_vec2_Length (Cons.nil _)))) mixed (by kernel_rfl) _ _ _ (fun l R hl hR hn hpre => ?_)
  match l, hl, R, hR with
  | [], zl, [(true, xs)], zr =>
    clear zl zr
    obtain rfl : xs = [] := hn _ (List.Mem.head _) rfl
    have hp0 := hpre _ (List.Mem.head _); try dsimp only at hp0
    skip
    have hc : convB [] = false := rfl
    repeat' (first | (with_reducible refine And.intro ?_ ?_) | (with_reducible intro h) | ((fail_if_success (with_reducible refine Leaf.mk ?_)); (fail_if_success (with_reducible refine VC.mk ?_)); (fail_if_success (with_reducible refine Goes.mk ?_)); (fail_if_success (with_reducible refine Again.mk ?_)); (fail_if_success (with_reducible refine Rounds.mk ?_)); (fail_if_success (with_reducible show False)); (fail_if_success (with_reducible show True)); conv => whnf))
    all_goals try simp only [Bool.not_eq_true', Bool.not_eq_false', Bool.and_eq_true, decide_eq_true_eq, decide_eq_false_iff_not, tkA, Nat.zero_add, Nat.reduceAdd, Int.toNat_natCast, tmN] at *
    all_goals try (simp only [hc, Bool.false_eq_true, Bool.true_eq_false] at *)
    all_goals try first | exact trivial | (show False; omega) | exact Leaf.mk trivial | exact Leaf.mk rfl | (refine VC.mk ?_; first | trivial | assumption | ((try simp only [InR] at *); omega) | (simp; done) | (simp; omega))
    all_goals (refine Leaf.mk ?_; rfl)
  | [], zl, [(false, xs)], zr =>
    clear zl zr
    have hp0 := hpre _ (List.Mem.head _); try dsimp only at hp0
    skip
    repeat' (first | (with_reducible refine And.intro ?_ ?_) | (with_reducible intro h) | ((fail_if_success (with_reducible refine Leaf.mk ?_)); (fail_if_success (with_reducible refine VC.mk ?_)); (fail_if_success (with_reducible refine Goes.mk ?_)); (fail_if_success (with_reducible refine Again.mk ?_)); (fail_if_success (with_reducible refine Rounds.mk ?_)); (fail_if_success (with_reducible show False)); (fail_if_success (with_reducible show True)); conv => whnf))
    all_goals try simp only [Bool.not_eq_true', Bool.not_eq_false', Bool.and_eq_true, decide_eq_true_eq, decide_eq_false_iff_not, tkA, Nat.zero_add, Nat.reduceAdd, Int.toNat_natCast, tmN] at *
    all_goals try (have hcv : convB xs = true := (by assumption); obtain ⟨c1, c2, c3, c4⟩ := convB_iff.1 hcv)
    all_goals try first | exact trivial | (show False; omega) | exact Leaf.mk trivial | exact Leaf.mk rfl | (refine VC.mk ?_; first | trivial | assumption | ((try simp only [InR] at *); omega) | (simp; done) | (simp; omega))
    all_goals try (refine Leaf.mk ?_; symm; unfold shX; first | (rw [if_neg (by simp_all)]; done) | (rw [if_pos (by assumption)]; have hk : k = xs.length := (by omega); subst hk; first | rfl | exact (shM_eq c3 _ (by omega) (Nat.le_refl _)).symm))
    refine goes_inv (X := Nat) (pl := [(7, [0, 1, 2, 3, 4, 5, 6, 7, 8, 9, 10, 11, 12, 13], [0, 0, 0, 4, 0, 16, 60, 126, 254, 0, 1022, 2046, 4095, 8191])]) T_ok (Cons.cons con_polygon_IsConvex (Cons.cons con_vec2_Sub (Cons.cons con_vec2_Length (Cons.nil _)))) mixed (by kernel_rfl)
      (fun k => (.sl 0 2 0 xs.length :: .any :: .any :: .int .i64 (shM xs k) :: .any :: .any :: .any :: .any :: .any :: .sl 0 2 0 xs.length :: .int .i64 (xs.length : Int) :: .int .i64 (k : Int) :: .any :: .any :: .any :: .any :: .any :: .any :: .any :: .any :: .any :: .any :: .any :: .any :: .any :: .any :: .any :: .any :: .any :: .any :: .any :: [], [.arr false true 2 xs]))
      (fun k => k ≤ xs.length) (fun k => xs.length - k) 0 [0] (Nat.zero_le _) ?_ ?_ ?_
    · repeat' (first | (with_reducible refine And.intro ?_ ?_) | (with_reducible intro h) | ((fail_if_success (with_reducible refine Leaf.mk ?_)); (fail_if_success (with_reducible refine VC.mk ?_)); (fail_if_success (with_reducible refine Goes.mk ?_)); (fail_if_success (with_reducible refine Again.mk ?_)); (fail_if_success (with_reducible refine Rounds.mk ?_)); (fail_if_success (with_reducible show False)); (fail_if_success (with_reducible show True)); conv => whnf))
      all_goals first | exact trivial | (refine Leaf.mk ?_; first | rfl | exact ⟨rfl, rfl⟩ | (simp; done))
    · repeat' (first | (with_reducible refine And.intro ?_ ?_) | (with_reducible intro h) | ((fail_if_success (with_reducible refine Leaf.mk ?_)); (fail_if_success (with_reducible refine VC.mk ?_)); (fail_if_success (with_reducible refine Goes.mk ?_)); (fail_if_success (with_reducible refine Again.mk ?_)); (fail_if_success (with_reducible refine Rounds.mk ?_)); (fail_if_success (with_reducible show False)); (fail_if_success (with_reducible show True)); conv => whnf))
      all_goals first | exact trivial | (refine Leaf.mk ?_; first | rfl | exact ⟨rfl, rfl⟩ | (simp; done))
    · intro k hx
      repeat' (first | (with_reducible refine And.intro ?_ ?_) | (with_reducible intro h) | ((fail_if_success (with_reducible refine Leaf.mk ?_)); (fail_if_success (with_reducible refine VC.mk ?_)); (fail_if_success (with_reducible refine Goes.mk ?_)); (fail_if_success (with_reducible refine Again.mk ?_)); (fail_if_success (with_reducible refine Rounds.mk ?_)); (fail_if_success (with_reducible show False)); (fail_if_success (with_reducible show True)); conv => whnf))
      all_goals try simp only [Bool.not_eq_true', Bool.not_eq_false', Bool.and_eq_true, decide_eq_true_eq, decide_eq_false_iff_not, tkA, Nat.zero_add, Nat.reduceAdd, Int.toNat_natCast, tmN] at *
      all_goals try (have hnx := next_lt (i := k) (n := xs.length) (by omega))
      all_goals try first | exact trivial | (show False; omega) | exact Leaf.mk trivial | exact Leaf.mk rfl | (refine VC.mk ?_; first | trivial | assumption | ((try simp only [InR] at *); omega) | (simp; done) | (simp; omega))
      all_goals try (refine Leaf.mk ?_; symm; unfold shX; first | (rw [if_neg (by simp_all)]; done) | (rw [if_pos (by assumption)]; have hk : k = xs.length := (by omega); subst hk; first | rfl | exact (shM_eq c3 _ (by omega) (Nat.le_refl _)).symm))
      all_goals (refine Again.mk ⟨k + 1, [0], (by show k + 1 ≤ xs.length; omega), (by show xs.length - (k + 1) < xs.length - k; omega), ?_, ?_⟩ <;> (repeat' (first | (with_reducible refine And.intro ?_ ?_) | (with_reducible intro h) | ((fail_if_success (with_reducible refine Leaf.mk ?_)); (fail_if_success (with_reducible refine VC.mk ?_)); (fail_if_success (with_reducible refine Goes.mk ?_)); (fail_if_success (with_reducible refine Again.mk ?_)); (fail_if_success (with_reducible refine Rounds.mk ?_)); (fail_if_success (with_reducible show False)); (fail_if_success (with_reducible show True)); conv => whnf))) <;> first | exact trivial | (refine Leaf.mk ?_; first | rfl | (simp; done) | (simp only [shM, edL, tmN, Int.toNat_natCast, Nat.zero_add]; done) | (simp only [shM, edL, tmN, Int.toNat_natCast, Nat.zero_add]; rfl)))
end Go.Proofs.YtohjifnkajhhnaaGreat
