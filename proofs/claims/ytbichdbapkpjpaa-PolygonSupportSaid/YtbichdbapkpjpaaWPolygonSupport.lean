/- The walk of caromlaw11.PolygonSupport. -/
import Derived.Test.YtbichdbapkpjpaaG6
import Derived.Test.YtbichdbapkpjpaaFs
namespace Go.Proofs.Ytbichdbapkpjpaa
open Go.RowKit Fx Vx Bx Ev
set_option linter.unusedVariables false
set_option linter.unusedSimpArgs false
def SatN (xs : List (List Int)) (n : Nat) : Prop := ∀ j, j < n → at2 xs j 0 = sat (at2 xs j 0) ∧ at2 xs j 1 = sat (at2 xs j 1)
theorem SatN.succ {xs : List (List Int)} {n : Nat} (h : SatN xs n) (k : at2 xs n 0 = sat (at2 xs n 0) ∧ at2 xs n 1 = sat (at2 xs n 1)) : SatN xs (n + 1) := fun j hj => by
  rcases Nat.lt_or_ge j n with e | e
  · exact h j e
  · obtain rfl : j = n := by omega
    exact k
theorem maxN_ok (f : Nat → Int) : ∀ n, 0 < n → ∃ b, b < n ∧ (maxN f n).1 = (b : Int) ∧ (maxN f n).2 = f b ∧ ∀ i, i < n → f i ≤ f b ∧ (i < b → f i < f b)
  | 1, _ => ⟨0, by omega, rfl, rfl, fun i hi => by
      obtain rfl : i = 0 := by omega
      exact ⟨Int.le_refl _, fun h => absurd h (by omega)⟩⟩
  | n + 2, _ => by
    obtain ⟨b, h1, h2, h3, h4⟩ := maxN_ok f (n + 1) (by omega)
    by_cases h : f b < f (n + 1)
    · have e := maxN_yes (f := f) (k := n + 1) (Or.inr (by rw [h3]; exact h))
      refine ⟨n + 1, by omega, by rw [e], by rw [e], fun i hi => ?_⟩
      rcases Nat.lt_or_ge i (n + 1) with g | g
      · have := (h4 i g).1
        exact ⟨by omega, fun _ => by omega⟩
      · obtain rfl : i = n + 1 := by omega
        exact ⟨Int.le_refl _, fun h => absurd h (by omega)⟩
    · have e := maxN_no (f := f) (k := n + 1) (by rw [h2, h3]; omega)
      refine ⟨b, by omega, by rw [e, h2], by rw [e, h3], fun i hi => ?_⟩
      rcases Nat.lt_or_ge i (n + 1) with g | g
      · exact h4 i g
      · obtain rfl : i = n + 1 := by omega
        exact ⟨by omega, fun h => absurd h (by omega)⟩
theorem smul_bd {a b : Int} (ha : a = sat a) (hb : b = sat b) : -288230375077969921 ≤ a * b ∧ a * b ≤ 288230375077969921 := by
  have := sat_bd a
  have := sat_bd b
  exact mul_bd (A := 536870911) (by omega) (by omega) (by omega) (by omega)
theorem supD_sat {xs : List (List Int)} {x y : Int} {n i : Nat} (h : SatN xs n) (hx : x = sat x) (hy : y = sat y) (hi : i < n) : supD xs x y i = at2 xs i 0 * x + at2 xs i 1 * y := by
  unfold supD; rw [← (h i hi).1, ← (h i hi).2, ← hx, ← hy]

def c_law_PolygonSupport : Con := ⟨8, rowRun [.rows 2, .num 2] (fun l R => match l, R with | [x, y], [xs] => [] | _, _ => [False]) fun l R => match l, R with
  | [x, y], [xs] => .bool true
  | _, _ => .any⟩
set_option maxRecDepth 100000 in
set_option maxHeartbeats 8000000 in
theorem con_law_PolygonSupport : c_law_PolygonSupport.Ok Try.prog := by
  refine con_rows (C := [c_polygon_Support, c_ref05_SaturateVec, c_law11_example]) (pl := [(1, [0, 1, 2, 3, 4, 5, 6, 7, 8], [0, 1, 3, 7, 15, 15, 47, 127, 255]), (6, [0, 1, 2, 3, 4, 5, 6, 7, 8, 9], [0, 0, 3, 7, 0, 0, 48, 112, 240, 511]), (14, [0, 1, 2, 3, 4, 5, 6, 7, 8, 9, 10, 11, 12, 13, 14, 15, 16, 17, 18, 19, 20, 21, 22, 23, 24, 25, 26, 27, 28, 29, 30, 31, 32, 33, 34, 35], [0, 0, 3, 7, 15, 0, 32, 127, 0, 0, 768, 1792, 3840, 0, 8192, 32512, 65535, 0, 0, 393216, 917504, 1966080, 0, 4194304, 16646144, 33554431, 0, 0, 201326592, 469762048, 1006632960, 0, 2147483648, 8522825728, 17179869183, 34359738367])]) Try.func8 rfl (by kernel_rfl) T_ok (Cons.cons con_polygon_Support (Cons.cons con_ref05_SaturateVec (Cons.cons con_law11_example (Cons.nil _)))) mixed (by kernel_rfl) _ _ _ (fun l R hl hR hn hpre => ?_)
  match l, hl, R, hR with
  | [x, y], zl, [(true, xs)], zr =>
    clear zl zr
    obtain rfl : xs = [] := hn _ (List.Mem.head _) rfl
    repeat' (first | (with_reducible refine And.intro ?_ ?_) | (with_reducible intro h) | ((fail_if_success (with_reducible refine Leaf.mk ?_)); (fail_if_success (with_reducible refine VC.mk ?_)); (fail_if_success (with_reducible refine Goes.mk ?_)); (fail_if_success (with_reducible refine Again.mk ?_)); (fail_if_success (with_reducible refine Rounds.mk ?_)); (fail_if_success (with_reducible show False)); (fail_if_success (with_reducible show True)); conv => whnf))
    all_goals try simp only [Bool.not_eq_true', Bool.not_eq_false', Bool.and_eq_true, decide_eq_true_eq, decide_eq_false_iff_not, tkA, Nat.zero_add, Nat.reduceAdd, Int.toNat_natCast, tmN] at *
    all_goals try first | exact trivial | (show False; omega) | exact Leaf.mk trivial | exact Leaf.mk rfl | (refine VC.mk ?_; first | trivial | assumption | ((try simp only [InR] at *); omega) | (simp; done) | (simp; omega))
    all_goals try (refine VC.mk ?_; first | assumption | exact wf_nil _ | exact hullR_wf _ | exact wf_take (hullR_wf _) _ | exact wf_take (by assumption) _ | omega | (simp; done) | (simp; omega))
    all_goals try refine goes_rounds 1 ?_
    all_goals try (refine rounds_one (pl := [(1, [0, 1, 2, 3, 4, 5, 6, 7, 8], [0, 1, 3, 7, 15, 15, 47, 127, 255]), (6, [0, 1, 2, 3, 4, 5, 6, 7, 8, 9], [0, 0, 3, 7, 0, 0, 48, 112, 240, 511]), (14, [0, 1, 2, 3, 4, 5, 6, 7, 8, 9, 10, 11, 12, 13, 14, 15, 16, 17, 18, 19, 20, 21, 22, 23, 24, 25, 26, 27, 28, 29, 30, 31, 32, 33, 34, 35], [0, 0, 3, 7, 15, 0, 32, 127, 0, 0, 768, 1792, 3840, 0, 8192, 32512, 65535, 0, 0, 393216, 917504, 1966080, 0, 4194304, 16646144, 33554431, 0, 0, 201326592, 469762048, 1006632960, 0, 2147483648, 8522825728, 17179869183, 34359738367])]) T_ok (Cons.cons con_polygon_Support (Cons.cons con_ref05_SaturateVec (Cons.cons con_law11_example (Cons.nil _)))) mixed (by kernel_rfl) ?_; repeat' (first | (with_reducible refine And.intro ?_ ?_) | (with_reducible intro h) | ((fail_if_success (with_reducible refine Leaf.mk ?_)); (fail_if_success (with_reducible refine VC.mk ?_)); (fail_if_success (with_reducible refine Goes.mk ?_)); (fail_if_success (with_reducible refine Again.mk ?_)); (fail_if_success (with_reducible refine Rounds.mk ?_)); (fail_if_success (with_reducible show False)); (fail_if_success (with_reducible show True)); conv => whnf)))
    all_goals try simp only [Bool.not_eq_true', Bool.not_eq_false', Bool.and_eq_true, decide_eq_true_eq, decide_eq_false_iff_not, tkA, Nat.zero_add, Nat.reduceAdd, Int.toNat_natCast, tmN] at *
    all_goals try first | exact trivial | (show False; omega) | exact Leaf.mk trivial | exact Leaf.mk rfl | (refine VC.mk ?_; first | trivial | assumption | ((try simp only [InR] at *); omega) | (simp; done) | (simp; omega))
    all_goals try (exfalso; simp [maxN] at *; done)
    all_goals (refine Leaf.mk ?_; simp [maxN] at *; done)
  | [x, y], zl, [(false, xs)], zr =>
    clear zl zr
    repeat' (first | (with_reducible refine And.intro ?_ ?_) | (with_reducible intro h) | ((fail_if_success (with_reducible refine Leaf.mk ?_)); (fail_if_success (with_reducible refine VC.mk ?_)); (fail_if_success (with_reducible refine Goes.mk ?_)); (fail_if_success (with_reducible refine Again.mk ?_)); (fail_if_success (with_reducible refine Rounds.mk ?_)); (fail_if_success (with_reducible show False)); (fail_if_success (with_reducible show True)); conv => whnf))
    all_goals try simp only [Bool.not_eq_true', Bool.not_eq_false', Bool.and_eq_true, decide_eq_true_eq, decide_eq_false_iff_not, tkA, Nat.zero_add, Nat.reduceAdd, Int.toNat_natCast, tmN] at *
    all_goals try (have hsat : x = sat x ∧ y = sat y := (by assumption); obtain ⟨hsx, hsy⟩ := hsat)
    all_goals try first | exact trivial | (show False; omega) | exact Leaf.mk trivial | exact Leaf.mk rfl | (refine VC.mk ?_; first | trivial | assumption | ((try simp only [InR] at *); omega) | (simp; done) | (simp; omega))
    all_goals try (refine VC.mk ?_; first | assumption | exact wf_nil _ | exact hullR_wf _ | exact wf_take (hullR_wf _) _ | exact wf_take (by assumption) _ | omega | (simp; done) | (simp; omega))
    refine goes_inv (X := Nat) (pl := [(1, [0, 1, 2, 3, 4, 5, 6, 7, 8], [0, 1, 3, 7, 15, 15, 47, 127, 255]), (6, [0, 1, 2, 3, 4, 5, 6, 7, 8, 9], [0, 0, 3, 7, 0, 0, 48, 112, 240, 511]), (14, [0, 1, 2, 3, 4, 5, 6, 7, 8, 9, 10, 11, 12, 13, 14, 15, 16, 17, 18, 19, 20, 21, 22, 23, 24, 25, 26, 27, 28, 29, 30, 31, 32, 33, 34, 35], [0, 0, 3, 7, 15, 0, 32, 127, 0, 0, 768, 1792, 3840, 0, 8192, 32512, 65535, 0, 0, 393216, 917504, 1966080, 0, 4194304, 16646144, 33554431, 0, 0, 201326592, 469762048, 1006632960, 0, 2147483648, 8522825728, 17179869183, 34359738367])]) T_ok (Cons.cons con_polygon_Support (Cons.cons con_ref05_SaturateVec (Cons.cons con_law11_example (Cons.nil _)))) mixed (by kernel_rfl)
      (fun i => (.sl 0 2 0 xs.length :: .any :: .any :: .ptr 1 0 :: .any :: .int .i64 (i : Int) :: .any :: .any :: .any :: .any :: .any :: .any :: .any :: .any :: .any :: .any :: .any :: .any :: .any :: .any :: .any :: .any :: .any :: .any :: .any :: .any :: .any :: .any :: .any :: .any :: .any :: .any :: .any :: .any :: .any :: .any :: .any :: .any :: .any :: .any :: .any :: .any :: .any :: .any :: .any :: .any :: .any :: .any :: .any :: .any :: .any :: .any :: .any :: .any :: .any :: .any :: .any :: .any :: .any :: .any :: .any :: .any :: .any :: .any :: .any :: .any :: .any :: .any :: .any :: .any :: .any :: .any :: .any :: .any :: .any :: .any :: .any :: .any :: .any :: .any :: .any :: .any :: .any :: .any :: .any :: .any :: .any :: .any :: .any :: .any :: .any :: .any :: .any :: .any :: .any :: .any :: .any :: .any :: .any :: .any :: .any :: .any :: .any :: .any :: .any :: .any :: .any :: .any :: .any :: .any :: [], [.arr false true 2 xs, .cells [.int .i64 x, .int .i64 y]]))
      (fun i => i ≤ xs.length ∧ SatN xs i) (fun i => xs.length - i) 0 [0, 1] ⟨Nat.zero_le _, fun j hj => absurd hj (Nat.not_lt_zero _)⟩ ?_ ?_ ?_
    · repeat' (first | (with_reducible refine And.intro ?_ ?_) | (with_reducible intro h) | ((fail_if_success (with_reducible refine Leaf.mk ?_)); (fail_if_success (with_reducible refine VC.mk ?_)); (fail_if_success (with_reducible refine Goes.mk ?_)); (fail_if_success (with_reducible refine Again.mk ?_)); (fail_if_success (with_reducible refine Rounds.mk ?_)); (fail_if_success (with_reducible show False)); (fail_if_success (with_reducible show True)); conv => whnf))
      all_goals first | exact trivial | (refine Leaf.mk ?_; first | rfl | exact ⟨rfl, rfl⟩ | (simp; done))
    · repeat' (first | (with_reducible refine And.intro ?_ ?_) | (with_reducible intro h) | ((fail_if_success (with_reducible refine Leaf.mk ?_)); (fail_if_success (with_reducible refine VC.mk ?_)); (fail_if_success (with_reducible refine Goes.mk ?_)); (fail_if_success (with_reducible refine Again.mk ?_)); (fail_if_success (with_reducible refine Rounds.mk ?_)); (fail_if_success (with_reducible show False)); (fail_if_success (with_reducible show True)); conv => whnf))
      all_goals first | exact trivial | (refine Leaf.mk ?_; first | rfl | exact ⟨rfl, rfl⟩ | (simp; done))
    · intro i hx
      obtain ⟨hx1, hx2⟩ := hx
      repeat' (first | (with_reducible refine And.intro ?_ ?_) | (with_reducible intro h) | ((fail_if_success (with_reducible refine Leaf.mk ?_)); (fail_if_success (with_reducible refine VC.mk ?_)); (fail_if_success (with_reducible refine Goes.mk ?_)); (fail_if_success (with_reducible refine Again.mk ?_)); (fail_if_success (with_reducible refine Rounds.mk ?_)); (fail_if_success (with_reducible show False)); (fail_if_success (with_reducible show True)); conv => whnf))
      all_goals try simp only [Bool.not_eq_true', Bool.not_eq_false', Bool.and_eq_true, decide_eq_true_eq, decide_eq_false_iff_not, tkA, Nat.zero_add, Nat.reduceAdd, Int.toNat_natCast, tmN] at *
      all_goals try first | exact trivial | (show False; omega) | exact Leaf.mk trivial | exact Leaf.mk rfl | (refine VC.mk ?_; first | trivial | assumption | ((try simp only [InR] at *); omega) | (simp; done) | (simp; omega))
      all_goals try (refine Again.mk ⟨i + 1, [0, 1], ⟨by omega, hx2.succ (by assumption)⟩, (by omega), ?_, ?_⟩ <;> (repeat' (first | (with_reducible refine And.intro ?_ ?_) | (with_reducible intro h) | ((fail_if_success (with_reducible refine Leaf.mk ?_)); (fail_if_success (with_reducible refine VC.mk ?_)); (fail_if_success (with_reducible refine Goes.mk ?_)); (fail_if_success (with_reducible refine Again.mk ?_)); (fail_if_success (with_reducible refine Rounds.mk ?_)); (fail_if_success (with_reducible show False)); (fail_if_success (with_reducible show True)); conv => whnf))) <;> first | exact trivial | (refine Leaf.mk ?_; first | rfl | exact ⟨rfl, rfl⟩ | (simp; done)))
      all_goals (have hi : i = xs.length := by omega)
      all_goals subst hi
      all_goals (
        rcases Nat.eq_zero_or_pos xs.length with hz | hz
        · first
            | (exfalso; simp only [hz] at *; simp [maxN] at *; done)
            | (refine Leaf.mk ?_; simp only [hz] at *; simp [maxN] at *; done)
            | (refine Leaf.mk ?_; exfalso; simp only [hz] at *; simp [maxN] at *; done)
        obtain ⟨b, h1, h2, h3, h4⟩ := maxN_ok (supD xs x y) xs.length hz
        simp only [h2] at *
        first
        | (exfalso; omega)
        | (
          refine goes_inv (X := Nat) (pl := [(1, [0, 1, 2, 3, 4, 5, 6, 7, 8], [0, 1, 3, 7, 15, 15, 47, 127, 255]), (6, [0, 1, 2, 3, 4, 5, 6, 7, 8, 9], [0, 0, 3, 7, 0, 0, 48, 112, 240, 511]), (14, [0, 1, 2, 3, 4, 5, 6, 7, 8, 9, 10, 11, 12, 13, 14, 15, 16, 17, 18, 19, 20, 21, 22, 23, 24, 25, 26, 27, 28, 29, 30, 31, 32, 33, 34, 35], [0, 0, 3, 7, 15, 0, 32, 127, 0, 0, 768, 1792, 3840, 0, 8192, 32512, 65535, 0, 0, 393216, 917504, 1966080, 0, 4194304, 16646144, 33554431, 0, 0, 201326592, 469762048, 1006632960, 0, 2147483648, 8522825728, 17179869183, 34359738367])]) T_ok (Cons.cons con_polygon_Support (Cons.cons con_ref05_SaturateVec (Cons.cons con_law11_example (Cons.nil _)))) mixed (by kernel_rfl)
            (fun i => (.sl 0 2 0 xs.length :: .any :: .any :: .ptr 1 0 :: .any :: .any :: .int .i64 (b : Int) :: .int .i64 (i : Int) :: .any :: .any :: .any :: .any :: .any :: .any :: .any :: .any :: .any :: .any :: .any :: .any :: .any :: .any :: .any :: .any :: .any :: .any :: .any :: .any :: .any :: .any :: .any :: .any :: .any :: .any :: .any :: .any :: .any :: .any :: .any :: .any :: .any :: .any :: .any :: .any :: .any :: .any :: .any :: .any :: .any :: .any :: .any :: .any :: .any :: .any :: .any :: .any :: .any :: .any :: .any :: .any :: .any :: .any :: .any :: .any :: .any :: .any :: .any :: .any :: .any :: .any :: .any :: .any :: .any :: .any :: .any :: .any :: .any :: .any :: .any :: .any :: .any :: .any :: .any :: .any :: .any :: .any :: .any :: .any :: .any :: .any :: .any :: .any :: .any :: .any :: .any :: .any :: .any :: .any :: .any :: .any :: .any :: .any :: .any :: .any :: .any :: .any :: .any :: .any :: .any :: .any :: [], [.arr false true 2 xs, .cells [.int .i64 x, .int .i64 y]]))
            (fun i => i ≤ xs.length) (fun i => xs.length - i) 0 [0, 1] (Nat.zero_le _) ?_ ?_ ?_
          · repeat' (first | (with_reducible refine And.intro ?_ ?_) | (with_reducible intro h) | ((fail_if_success (with_reducible refine Leaf.mk ?_)); (fail_if_success (with_reducible refine VC.mk ?_)); (fail_if_success (with_reducible refine Goes.mk ?_)); (fail_if_success (with_reducible refine Again.mk ?_)); (fail_if_success (with_reducible refine Rounds.mk ?_)); (fail_if_success (with_reducible show False)); (fail_if_success (with_reducible show True)); conv => whnf))
            all_goals first | exact trivial | (refine Leaf.mk ?_; first | rfl | exact ⟨rfl, rfl⟩ | (simp; done))
          · repeat' (first | (with_reducible refine And.intro ?_ ?_) | (with_reducible intro h) | ((fail_if_success (with_reducible refine Leaf.mk ?_)); (fail_if_success (with_reducible refine VC.mk ?_)); (fail_if_success (with_reducible refine Goes.mk ?_)); (fail_if_success (with_reducible refine Again.mk ?_)); (fail_if_success (with_reducible refine Rounds.mk ?_)); (fail_if_success (with_reducible show False)); (fail_if_success (with_reducible show True)); conv => whnf))
            all_goals first | exact trivial | (refine Leaf.mk ?_; first | rfl | exact ⟨rfl, rfl⟩ | (simp; done))
          · intro i hx
            clear hx1
            repeat' (first | (with_reducible refine And.intro ?_ ?_) | (with_reducible intro h) | ((fail_if_success (with_reducible refine Leaf.mk ?_)); (fail_if_success (with_reducible refine VC.mk ?_)); (fail_if_success (with_reducible refine Goes.mk ?_)); (fail_if_success (with_reducible refine Again.mk ?_)); (fail_if_success (with_reducible refine Rounds.mk ?_)); (fail_if_success (with_reducible show False)); (fail_if_success (with_reducible show True)); conv => whnf))
            all_goals try simp only [Bool.not_eq_true', Bool.not_eq_false', Bool.and_eq_true, decide_eq_true_eq, decide_eq_false_iff_not, tkA, Nat.zero_add, Nat.reduceAdd, Int.toNat_natCast, tmN] at *
            all_goals try (have hsat : x = sat x ∧ y = sat y := (by assumption); obtain ⟨hsx, hsy⟩ := hsat)
            all_goals try (
              have m1 := smul_bd (hx2 i (by omega)).1 hsx
              have m2 := smul_bd (hx2 i (by omega)).2 hsy
              have m3 := smul_bd (hx2 b (by omega)).1 hsx
              have m4 := smul_bd (hx2 b (by omega)).2 hsy
              have q1 := h4 i (by omega)
              rw [supD_sat (i := i) hx2 hsx hsy (by omega), supD_sat (i := b) hx2 hsx hsy (by omega)] at q1)
            all_goals try first | exact trivial | (show False; omega) | exact Leaf.mk trivial | exact Leaf.mk rfl | (refine VC.mk ?_; first | trivial | assumption | ((try simp only [InR] at *); omega) | (simp; done) | (simp; omega))
            all_goals try (refine Again.mk ⟨i + 1, [0, 1], (by show i + 1 ≤ xs.length; omega), (by show xs.length - (i + 1) < xs.length - i; omega), ?_, ?_⟩ <;> (repeat' (first | (with_reducible refine And.intro ?_ ?_) | (with_reducible intro h) | ((fail_if_success (with_reducible refine Leaf.mk ?_)); (fail_if_success (with_reducible refine VC.mk ?_)); (fail_if_success (with_reducible refine Goes.mk ?_)); (fail_if_success (with_reducible refine Again.mk ?_)); (fail_if_success (with_reducible refine Rounds.mk ?_)); (fail_if_success (with_reducible show False)); (fail_if_success (with_reducible show True)); conv => whnf))) <;> first | exact trivial | (refine Leaf.mk ?_; first | rfl | exact ⟨rfl, rfl⟩ | (simp; done)))
            all_goals (refine Leaf.mk ?_; exfalso; omega)))

theorem walk_PolygonSupport (x y : Int) (bxs : Bool) (xs : List (List Int)) (w : World) (m : Ev.Map) (vxs : Value) (nxs : bxs = true → xs = []) (fxs : ∀ x ∈ xs, x.length = 2 ∧ ∀ y ∈ x, -9223372036854775808 ≤ y ∧ y ≤ 9223372036854775807) (dxs : Den m (rowArg bxs 0 2 xs) vxs ∧ BlkH m 0 w (.arr false (!bxs) 2 xs)) :
    Calls Try.prog 8 #[vxs, .agg #[.int .i64 x, .int .i64 y]] w fun e w' => e = .returned (.bool true) ∧ Below w.heap.size w w' := by
  cases bxs with
  | false =>
    exact Frame.calls_rows con_law_PolygonSupport [rowArg false 0 2 xs, .agg [.int .i64 x, .int .i64 y]] (fun id => match id with | 0 => .arr false true 2 xs | _ => .dead) [x, y] _ _ [vxs, .agg #[.int .i64 x, .int .i64 y]] rfl (by simp [appP]) (fun p hp => (by cases hp)) m w ⟨dxs.1, ⟨_, rfl, rfl, rfl, trivial⟩, trivial⟩ (fun id => by match id with | 0 => exact dxs.2 | _ + 1 => trivial) (fun id => by match id with | 0 => rfl | _ + 1 => rfl) rfl
  | true =>
    obtain rfl := nxs rfl
    exact Frame.calls_rows con_law_PolygonSupport [rowArg true 0 2 [], .agg [.int .i64 x, .int .i64 y]] (fun id => match id with | 0 => .arr false false 2 [] | _ => .dead) [x, y] _ _ [vxs, .agg #[.int .i64 x, .int .i64 y]] rfl (by simp [appP]) (fun p hp => (by cases hp)) m w ⟨dxs.1, ⟨_, rfl, rfl, rfl, trivial⟩, trivial⟩ (fun id => by match id with | 0 => exact dxs.2 | _ + 1 => trivial) (fun id => by match id with | 0 => rfl | _ + 1 => rfl) rfl
end Go.Proofs.Ytbichdbapkpjpaa
