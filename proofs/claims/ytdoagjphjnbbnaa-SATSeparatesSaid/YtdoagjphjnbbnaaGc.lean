/- Convexity and containment of package polygon, beside package sat. -/
import Derived.Test.YtdoagjphjnbbnaaT3
import Derived.Test.YtdoagjphjnbbnaaEvN
namespace Go.Proofs.Ytdoagjphjnbbnaa
open Go.RowKit Fx Vx Bx Ev
set_option linter.unusedVariables false
set_option linter.unusedSimpArgs false
def inR (x y : Int) : Prop := (-1048576 ≤ x ∧ x ≤ 1048576) ∧ -1048576 ≤ y ∧ y ≤ 1048576
instance (x y : Int) : Decidable (inR x y) := by unfold inR; infer_instance
def AllR (xs : List (List Int)) (n : Nat) : Prop := ∀ i, i < n → inR (at2 xs i 0) (at2 xs i 1)
instance (xs : List (List Int)) (n : Nat) : Decidable (AllR xs n) := by unfold AllR; infer_instance
theorem AllR.succ {xs : List (List Int)} {n : Nat} (h : AllR xs n) (k : inR (at2 xs n 0) (at2 xs n 1)) : AllR xs (n + 1) := fun i hi => by
  rcases Nat.lt_or_ge i n with e | e
  · exact h i e
  · obtain rfl : i = n := by omega
    exact k
theorem AllR.nil : AllR [] 0 := fun i hi => absurd hi (Nat.not_lt_zero _)
theorem tmN (i n : Nat) : ((i : Int) + 1).tmod (n : Int) = (((i + 1) % n : Nat) : Int) := by
  have := Int.ofNat_tmod (i + 1) n
  rw [Int.natCast_add] at this
  exact this.symm

def c_polygon_inReach : Con := ⟨91, pureRun [2] (fun _ => []) fun | [x, y] => .bool (decide (inR x y)) | _ => .any⟩
set_option maxRecDepth 100000 in
set_option maxHeartbeats 1000000 in
theorem con_polygon_inReach : c_polygon_inReach.Ok Try.prog := by
  refine con_pure (C := []) (pl := []) Try.func91 rfl (by kernel_rfl) T_ok (Cons.nil _) mixed (by kernel_rfl) _ _ _ (fun l hl hpre => ?_)
  match l, hl with
  | [x, y], _ =>
    repeat' (first | (with_reducible refine And.intro ?_ ?_) | (with_reducible intro h) | ((fail_if_success (with_reducible refine Leaf.mk ?_)); (fail_if_success (with_reducible refine VC.mk ?_)); (fail_if_success (with_reducible refine Goes.mk ?_)); (fail_if_success (with_reducible refine Again.mk ?_)); (fail_if_success (with_reducible refine Rounds.mk ?_)); (fail_if_success (with_reducible show False)); (fail_if_success (with_reducible show True)); conv => whnf))
    all_goals try exact trivial
    all_goals try simp only [Bool.not_eq_true', Bool.not_eq_false', Bool.and_eq_true, decide_eq_true_eq, decide_eq_false_iff_not, tkA, Nat.zero_add, Nat.reduceAdd, Int.toNat_natCast, tmN] at *
    all_goals (refine Leaf.mk ?_; first | exact (decide_eq_true (by unfold inR; omega)).symm | exact (decide_eq_false (by unfold inR; omega)).symm | exact decide_eq_decide.2 (by unfold inR; omega))
def c_polygon_allInReach : Con := ⟨77, rowRun [.rows 2] (fun l R => match l, R with | [], [xs] => [xs.length ≤ 100000] | _, _ => [False]) fun l R => match l, R with
  | [], [xs] => .bool (decide (AllR xs xs.length))
  | _, _ => .any⟩
set_option maxRecDepth 100000 in
set_option maxHeartbeats 2000000 in
theorem con_polygon_allInReach : c_polygon_allInReach.Ok Try.prog := by
  refine con_rows (C := [c_polygon_inReach]) (pl := []) Try.func77 rfl (by kernel_rfl) T_ok (Cons.cons con_polygon_inReach (Cons.nil _)) mixed (by kernel_rfl) _ _ _ (fun l R hl hR hn hpre => ?_)
  match l, hl, R, hR with
  | [], zl, [(true, xs)], zr =>
    clear zl zr
    obtain rfl : xs = [] := hn _ (List.Mem.head _) rfl
    have hp0 := hpre _ (List.Mem.head _); try dsimp only at hp0
    skip
    repeat' (first | (with_reducible refine And.intro ?_ ?_) | (with_reducible intro h) | ((fail_if_success (with_reducible refine Leaf.mk ?_)); (fail_if_success (with_reducible refine VC.mk ?_)); (fail_if_success (with_reducible refine Goes.mk ?_)); (fail_if_success (with_reducible refine Again.mk ?_)); (fail_if_success (with_reducible refine Rounds.mk ?_)); (fail_if_success (with_reducible show False)); (fail_if_success (with_reducible show True)); conv => whnf))
    refine goes_rounds 1 ?_
    refine rounds_one (pl := []) T_ok (Cons.cons con_polygon_inReach (Cons.nil _)) mixed (by kernel_rfl) ?_
    repeat' (first | (with_reducible refine And.intro ?_ ?_) | (with_reducible intro h) | ((fail_if_success (with_reducible refine Leaf.mk ?_)); (fail_if_success (with_reducible refine VC.mk ?_)); (fail_if_success (with_reducible refine Goes.mk ?_)); (fail_if_success (with_reducible refine Again.mk ?_)); (fail_if_success (with_reducible refine Rounds.mk ?_)); (fail_if_success (with_reducible show False)); (fail_if_success (with_reducible show True)); conv => whnf))
    all_goals try simp only [Bool.not_eq_true', Bool.not_eq_false', Bool.and_eq_true, decide_eq_true_eq, decide_eq_false_iff_not, tkA, Nat.zero_add, Nat.reduceAdd, Int.toNat_natCast, tmN] at *
    all_goals try first | exact trivial | (show False; omega) | exact Leaf.mk trivial | exact Leaf.mk rfl | (refine VC.mk ?_; first | trivial | assumption | ((try simp only [InR] at *); omega) | (simp; done) | (simp; omega))
    all_goals (refine Leaf.mk ?_; symm; exact decide_eq_true AllR.nil)
  | [], zl, [(false, xs)], zr =>
    clear zl zr
    have hp0 := hpre _ (List.Mem.head _); try dsimp only at hp0
    skip
    repeat' (first | (with_reducible refine And.intro ?_ ?_) | (with_reducible intro h) | ((fail_if_success (with_reducible refine Leaf.mk ?_)); (fail_if_success (with_reducible refine VC.mk ?_)); (fail_if_success (with_reducible refine Goes.mk ?_)); (fail_if_success (with_reducible refine Again.mk ?_)); (fail_if_success (with_reducible refine Rounds.mk ?_)); (fail_if_success (with_reducible show False)); (fail_if_success (with_reducible show True)); conv => whnf))
    refine goes_inv (X := Nat) (pl := []) T_ok (Cons.cons con_polygon_inReach (Cons.nil _)) mixed (by kernel_rfl)
      (fun k => (.sl 0 2 0 xs.length :: .any :: .blit false :: .any :: .any :: .sl 0 2 0 xs.length :: .int .i64 (xs.length : Int) :: .int .i64 (k : Int) :: .any :: .any :: .any :: .any :: .any :: .any :: .any :: [], [.arr false true 2 xs]))
      (fun k => k ≤ xs.length ∧ AllR xs k) (fun k => xs.length - k) 0 [0] ⟨Nat.zero_le _, fun i hi => absurd hi (Nat.not_lt_zero _)⟩ ?_ ?_ ?_
    · repeat' (first | (with_reducible refine And.intro ?_ ?_) | (with_reducible intro h) | ((fail_if_success (with_reducible refine Leaf.mk ?_)); (fail_if_success (with_reducible refine VC.mk ?_)); (fail_if_success (with_reducible refine Goes.mk ?_)); (fail_if_success (with_reducible refine Again.mk ?_)); (fail_if_success (with_reducible refine Rounds.mk ?_)); (fail_if_success (with_reducible show False)); (fail_if_success (with_reducible show True)); conv => whnf))
      all_goals first | exact trivial | (refine Leaf.mk ?_; first | rfl | exact ⟨rfl, rfl⟩ | (simp; done))
    · repeat' (first | (with_reducible refine And.intro ?_ ?_) | (with_reducible intro h) | ((fail_if_success (with_reducible refine Leaf.mk ?_)); (fail_if_success (with_reducible refine VC.mk ?_)); (fail_if_success (with_reducible refine Goes.mk ?_)); (fail_if_success (with_reducible refine Again.mk ?_)); (fail_if_success (with_reducible refine Rounds.mk ?_)); (fail_if_success (with_reducible show False)); (fail_if_success (with_reducible show True)); conv => whnf))
      all_goals first | exact trivial | (refine Leaf.mk ?_; first | rfl | exact ⟨rfl, rfl⟩ | (simp; done))
    · intro k hx
      obtain ⟨hx1, hx2⟩ := hx
      repeat' (first | (with_reducible refine And.intro ?_ ?_) | (with_reducible intro h) | ((fail_if_success (with_reducible refine Leaf.mk ?_)); (fail_if_success (with_reducible refine VC.mk ?_)); (fail_if_success (with_reducible refine Goes.mk ?_)); (fail_if_success (with_reducible refine Again.mk ?_)); (fail_if_success (with_reducible refine Rounds.mk ?_)); (fail_if_success (with_reducible show False)); (fail_if_success (with_reducible show True)); conv => whnf))
      all_goals try simp only [Bool.not_eq_true', Bool.not_eq_false', Bool.and_eq_true, decide_eq_true_eq, decide_eq_false_iff_not, tkA, Nat.zero_add, Nat.reduceAdd, Int.toNat_natCast, tmN] at *
      all_goals try first | exact trivial | (show False; omega) | exact Leaf.mk trivial | exact Leaf.mk rfl | (refine VC.mk ?_; first | trivial | assumption | ((try simp only [InR] at *); omega) | (simp; done) | (simp; omega))
      all_goals first
        | (have hk : k = xs.length := by omega
           subst hk
           refine Leaf.mk ?_; symm; exact decide_eq_true hx2)
        | (refine Leaf.mk ?_; symm; refine decide_eq_false fun hh => ?_
           exact absurd (hh k (by omega)) (by assumption))
        | (have hlt : k < xs.length := by omega
           (refine Again.mk ⟨k + 1, [0], ⟨hlt, hx2.succ (by assumption)⟩, (by omega), ?_, ?_⟩ <;> (repeat' (first | (with_reducible refine And.intro ?_ ?_) | (with_reducible intro h) | ((fail_if_success (with_reducible refine Leaf.mk ?_)); (fail_if_success (with_reducible refine VC.mk ?_)); (fail_if_success (with_reducible refine Goes.mk ?_)); (fail_if_success (with_reducible refine Again.mk ?_)); (fail_if_success (with_reducible refine Rounds.mk ?_)); (fail_if_success (with_reducible show False)); (fail_if_success (with_reducible show True)); conv => whnf))) <;> first | exact trivial | (refine Leaf.mk ?_; first | rfl | exact ⟨rfl, rfl⟩ | (simp; done))))

def ortX (xs : List (List Int)) (i j k : Nat) : Int := orient (at2 xs i 0) (at2 xs i 1) (at2 xs j 0) (at2 xs j 1) (at2 xs k 0) (at2 xs k 1)
/-- Corner k lies to the left of the edge at i. -/
def LeftOf (xs : List (List Int)) (i k : Nat) : Prop := k = i ∨ k = (i + 1) % xs.length ∨ ortX xs i ((i + 1) % xs.length) k = 1
instance (xs : List (List Int)) (i k : Nat) : Decidable (LeftOf xs i k) := by unfold LeftOf; infer_instance
def AllL (xs : List (List Int)) (i n : Nat) : Prop := ∀ k, k < n → LeftOf xs i k
instance (xs : List (List Int)) (i n : Nat) : Decidable (AllL xs i n) := by unfold AllL; infer_instance
def AllE (xs : List (List Int)) (n : Nat) : Prop := ∀ i, i < n → AllL xs i xs.length
instance (xs : List (List Int)) (n : Nat) : Decidable (AllE xs n) := by unfold AllE; infer_instance
def convB (xs : List (List Int)) : Bool := decide (3 ≤ xs.length) && decide (xs.length ≤ 8) && decide (AllR xs xs.length) && decide (AllE xs xs.length)
theorem next_lt {i n : Nat} (h : i < n) : (i + 1) % n < n := Nat.mod_lt _ (by omega)
theorem convB_iff {xs : List (List Int)} : convB xs = true ↔ 3 ≤ xs.length ∧ xs.length ≤ 8 ∧ AllR xs xs.length ∧ AllE xs xs.length := by
  unfold convB; simp only [Bool.and_eq_true, decide_eq_true_eq, and_assoc]
theorem convB_no {xs : List (List Int)} (h : xs.length < 3 ∨ 8 < xs.length ∨ ¬ AllR xs xs.length ∨ ¬ AllE xs xs.length) : convB xs = false := by
  rw [Bool.eq_false_iff]; intro hc
  obtain ⟨h1, h2, h3, h4⟩ := convB_iff.1 hc
  rcases h with h | h | h | h
  · omega
  · omega
  · exact h h3
  · exact h h4
theorem AllL.succ {xs : List (List Int)} {i n : Nat} (h : AllL xs i n) (k : LeftOf xs i n) : AllL xs i (n + 1) := fun j hj => by
  rcases Nat.lt_or_ge j n with e | e
  · exact h j e
  · obtain rfl : j = n := by omega
    exact k
theorem AllE.succ {xs : List (List Int)} {n : Nat} (h : AllE xs n) (k : AllL xs n xs.length) : AllE xs (n + 1) := fun j hj => by
  rcases Nat.lt_or_ge j n with e | e
  · exact h j e
  · obtain rfl : j = n := by omega
    exact k

def c_polygon_IsConvex : Con := ⟨41, rowRun [.rows 2] (fun l R => match l, R with | [], [xs] => [] | _, _ => [False]) fun l R => match l, R with
  | [], [xs] => .bool (convB xs)
  | _, _ => .any⟩
set_option maxRecDepth 100000 in
set_option maxHeartbeats 2000000 in
theorem con_polygon_IsConvex : c_polygon_IsConvex.Ok Try.prog := by
  refine con_rows (C := [c_polygon_allInReach, c_vec2_Orientation]) (pl := [(11, [0, 1, 2, 3, 4, 5, 6, 7, 8, 9, 10, 11, 12, 13, 14, 15, 16, 17], [0, 0, 3, 7, 15, 15, 63, 127, 255, 511, 511, 511, 3583, 7679, 511, 32767, 65535, 131071])]) Try.func41 rfl (by kernel_rfl) T_ok (Cons.cons con_polygon_allInReach (Cons.cons con_vec2_Orientation (Cons.nil _))) mixed (by kernel_rfl) _ _ _ (fun l R hl hR hn hpre => ?_)
  match l, hl, R, hR with
  | [], zl, [(true, xs)], zr =>
    clear zl zr
    obtain rfl : xs = [] := hn _ (List.Mem.head _) rfl
    skip
    repeat' (first | (with_reducible refine And.intro ?_ ?_) | (with_reducible intro h) | ((fail_if_success (with_reducible refine Leaf.mk ?_)); (fail_if_success (with_reducible refine VC.mk ?_)); (fail_if_success (with_reducible refine Goes.mk ?_)); (fail_if_success (with_reducible refine Again.mk ?_)); (fail_if_success (with_reducible refine Rounds.mk ?_)); (fail_if_success (with_reducible show False)); (fail_if_success (with_reducible show True)); conv => whnf))
    all_goals try simp only [Bool.not_eq_true', Bool.not_eq_false', Bool.and_eq_true, decide_eq_true_eq, decide_eq_false_iff_not, tkA, Nat.zero_add, Nat.reduceAdd, Int.toNat_natCast, tmN] at *
    all_goals try first | exact trivial | (show False; omega) | exact Leaf.mk trivial | exact Leaf.mk rfl | (refine VC.mk ?_; first | trivial | assumption | ((try simp only [InR] at *); omega) | (simp; done) | (simp; omega))
    all_goals (refine Leaf.mk ?_; rfl)
  | [], zl, [(false, xs)], zr =>
    clear zl zr
    skip
    repeat' (first | (with_reducible refine And.intro ?_ ?_) | (with_reducible intro h) | ((fail_if_success (with_reducible refine Leaf.mk ?_)); (fail_if_success (with_reducible refine VC.mk ?_)); (fail_if_success (with_reducible refine Goes.mk ?_)); (fail_if_success (with_reducible refine Again.mk ?_)); (fail_if_success (with_reducible refine Rounds.mk ?_)); (fail_if_success (with_reducible show False)); (fail_if_success (with_reducible show True)); conv => whnf))
    all_goals try simp only [Bool.not_eq_true', Bool.not_eq_false', Bool.and_eq_true, decide_eq_true_eq, decide_eq_false_iff_not, tkA, Nat.zero_add, Nat.reduceAdd, Int.toNat_natCast, tmN] at *
    all_goals try first | exact trivial | (show False; omega) | exact Leaf.mk trivial | exact Leaf.mk rfl | (refine VC.mk ?_; first | trivial | assumption | ((try simp only [InR] at *); omega) | (simp; done) | (simp; omega))
    all_goals try (refine Leaf.mk ?_; symm; refine convB_no ?_; first | (left; omega) | (right; left; omega) | (right; right; left; assumption) | (right; right; left; intro hh; exact absurd (hh i (by omega)) (by assumption)) | (right; right; right; intro hh; have := hh i (by omega) k (by omega); unfold LeftOf ortX at this; rcases this with e | e | e <;> first | omega | contradiction))
    refine goes_inv (X := Nat) (pl := [(11, [0, 1, 2, 3, 4, 5, 6, 7, 8, 9, 10, 11, 12, 13, 14, 15, 16, 17], [0, 0, 3, 7, 15, 15, 63, 127, 255, 511, 511, 511, 3583, 7679, 511, 32767, 65535, 131071])]) T_ok (Cons.cons con_polygon_allInReach (Cons.cons con_vec2_Orientation (Cons.nil _))) mixed (by kernel_rfl)
      (fun i => (.sl 0 2 0 xs.length :: .any :: .any :: .int .i64 (xs.length : Int) :: .any :: .any :: .any :: .any :: .any :: .any :: .any :: .any :: .any :: .any :: .any :: .any :: .any :: .any :: .any :: .any :: .any :: .any :: .sl 0 2 0 xs.length :: .int .i64 (xs.length : Int) :: .int .i64 (i : Int) :: .any :: .any :: .any :: .any :: .any :: .any :: .any :: .any :: .any :: .any :: .any :: .any :: .any :: .any :: .any :: .any :: .any :: .any :: .any :: .any :: .any :: .any :: .any :: .any :: .any :: .any :: .any :: .any :: .any :: .any :: .any :: .any :: .any :: .any :: .any :: [], [.arr false true 2 xs]))
      (fun i => i ≤ xs.length ∧ AllE xs i) (fun i => xs.length - i) 0 [0] ⟨Nat.zero_le _, fun i hi => absurd hi (Nat.not_lt_zero _)⟩ ?_ ?_ ?_
    · repeat' (first | (with_reducible refine And.intro ?_ ?_) | (with_reducible intro h) | ((fail_if_success (with_reducible refine Leaf.mk ?_)); (fail_if_success (with_reducible refine VC.mk ?_)); (fail_if_success (with_reducible refine Goes.mk ?_)); (fail_if_success (with_reducible refine Again.mk ?_)); (fail_if_success (with_reducible refine Rounds.mk ?_)); (fail_if_success (with_reducible show False)); (fail_if_success (with_reducible show True)); conv => whnf))
      all_goals first | exact trivial | (refine Leaf.mk ?_; first | rfl | exact ⟨rfl, rfl⟩ | (simp; done))
    · repeat' (first | (with_reducible refine And.intro ?_ ?_) | (with_reducible intro h) | ((fail_if_success (with_reducible refine Leaf.mk ?_)); (fail_if_success (with_reducible refine VC.mk ?_)); (fail_if_success (with_reducible refine Goes.mk ?_)); (fail_if_success (with_reducible refine Again.mk ?_)); (fail_if_success (with_reducible refine Rounds.mk ?_)); (fail_if_success (with_reducible show False)); (fail_if_success (with_reducible show True)); conv => whnf))
      all_goals first | exact trivial | (refine Leaf.mk ?_; first | rfl | exact ⟨rfl, rfl⟩ | (simp; done))
    · intro i hx
      obtain ⟨hx1, hx2⟩ := hx
      repeat' (first | (with_reducible refine And.intro ?_ ?_) | (with_reducible intro h) | ((fail_if_success (with_reducible refine Leaf.mk ?_)); (fail_if_success (with_reducible refine VC.mk ?_)); (fail_if_success (with_reducible refine Goes.mk ?_)); (fail_if_success (with_reducible refine Again.mk ?_)); (fail_if_success (with_reducible refine Rounds.mk ?_)); (fail_if_success (with_reducible show False)); (fail_if_success (with_reducible show True)); conv => whnf))
      all_goals try simp only [Bool.not_eq_true', Bool.not_eq_false', Bool.and_eq_true, decide_eq_true_eq, decide_eq_false_iff_not, tkA, Nat.zero_add, Nat.reduceAdd, Int.toNat_natCast, tmN] at *
      all_goals try first | exact trivial | (show False; omega) | exact Leaf.mk trivial | exact Leaf.mk rfl | (refine VC.mk ?_; first | trivial | assumption | ((try simp only [InR] at *); omega) | (simp; done) | (simp; omega))
      all_goals try (refine Leaf.mk ?_; symm; refine convB_iff.2 ⟨by omega, by omega, by assumption, ?_⟩; have hi : i = xs.length := (by omega); subst hi; assumption)
      refine goes_inv (X := Nat) (pl := [(11, [0, 1, 2, 3, 4, 5, 6, 7, 8, 9, 10, 11, 12, 13, 14, 15, 16, 17], [0, 0, 3, 7, 15, 15, 63, 127, 255, 511, 511, 511, 3583, 7679, 511, 32767, 65535, 131071])]) T_ok (Cons.cons con_polygon_allInReach (Cons.cons con_vec2_Orientation (Cons.nil _))) mixed (by kernel_rfl)
        (fun k => (.sl 0 2 0 xs.length :: .any :: .any :: .int .i64 (xs.length : Int) :: .int .i64 (i : Int) :: .ptr 1 0 :: .int .i64 (((i : Int) + 1).tmod (xs.length : Int)) :: .any :: .any :: .any :: .any :: .any :: .any :: .any :: .any :: .any :: .any :: .any :: .any :: .any :: .any :: .any :: .sl 0 2 0 xs.length :: .int .i64 (xs.length : Int) :: .int .i64 (i : Int) :: .any :: .any :: .any :: .any :: .any :: .any :: .any :: .any :: .sl 0 2 0 xs.length :: .int .i64 (xs.length : Int) :: .int .i64 (k : Int) :: .any :: .any :: .any :: .any :: .any :: .any :: .any :: .any :: .any :: .any :: .any :: .any :: .any :: .any :: .any :: .any :: .any :: .any :: .any :: .any :: .any :: .any :: .any :: .any :: [], [.arr false true 2 xs, .cells [.int .i64 (at2 xs i 0), .int .i64 (at2 xs i 1)]]))
        (fun k => k ≤ xs.length ∧ AllL xs i k) (fun k => xs.length - k) 0 [0, 1] ⟨Nat.zero_le _, fun i hi => absurd hi (Nat.not_lt_zero _)⟩ ?_ ?_ ?_
      · repeat' (first | (with_reducible refine And.intro ?_ ?_) | (with_reducible intro h) | ((fail_if_success (with_reducible refine Leaf.mk ?_)); (fail_if_success (with_reducible refine VC.mk ?_)); (fail_if_success (with_reducible refine Goes.mk ?_)); (fail_if_success (with_reducible refine Again.mk ?_)); (fail_if_success (with_reducible refine Rounds.mk ?_)); (fail_if_success (with_reducible show False)); (fail_if_success (with_reducible show True)); conv => whnf))
        all_goals first | exact trivial | (refine Leaf.mk ?_; first | rfl | exact ⟨rfl, rfl⟩ | (simp; done))
      · repeat' (first | (with_reducible refine And.intro ?_ ?_) | (with_reducible intro h) | ((fail_if_success (with_reducible refine Leaf.mk ?_)); (fail_if_success (with_reducible refine VC.mk ?_)); (fail_if_success (with_reducible refine Goes.mk ?_)); (fail_if_success (with_reducible refine Again.mk ?_)); (fail_if_success (with_reducible refine Rounds.mk ?_)); (fail_if_success (with_reducible show False)); (fail_if_success (with_reducible show True)); conv => whnf))
        all_goals first | exact trivial | (refine Leaf.mk ?_; first | rfl | exact ⟨rfl, rfl⟩ | (simp; done))
      · intro k hx
        obtain ⟨hy1, hy2⟩ := hx
        repeat' (first | (with_reducible refine And.intro ?_ ?_) | (with_reducible intro h) | ((fail_if_success (with_reducible refine Leaf.mk ?_)); (fail_if_success (with_reducible refine VC.mk ?_)); (fail_if_success (with_reducible refine Goes.mk ?_)); (fail_if_success (with_reducible refine Again.mk ?_)); (fail_if_success (with_reducible refine Rounds.mk ?_)); (fail_if_success (with_reducible show False)); (fail_if_success (with_reducible show True)); conv => whnf))
        all_goals try simp only [Bool.not_eq_true', Bool.not_eq_false', Bool.and_eq_true, decide_eq_true_eq, decide_eq_false_iff_not, tkA, Nat.zero_add, Nat.reduceAdd, Int.toNat_natCast, tmN] at *
        all_goals try (have hnx := next_lt (i := i) (n := xs.length) (by omega))
        all_goals try first | exact trivial | (show False; omega) | exact Leaf.mk trivial | exact Leaf.mk rfl | (refine VC.mk ?_; first | trivial | assumption | ((try simp only [InR] at *); omega) | (simp; done) | (simp; omega))
        all_goals first
          | (refine Leaf.mk ?_; symm; refine convB_no ?_; first | (left; omega) | (right; left; omega) | (right; right; left; assumption) | (right; right; left; intro hh; exact absurd (hh i (by omega)) (by assumption)) | (right; right; right; intro hh; have := hh i (by omega) k (by omega); unfold LeftOf ortX at this; rcases this with e | e | e <;> first | omega | contradiction))
          | (have hk : k = xs.length := by omega
             subst hk
             (refine Again.mk ⟨i + 1, [0], ⟨by omega, hx2.succ hy2⟩, (by omega), ?_, ?_⟩ <;> (repeat' (first | (with_reducible refine And.intro ?_ ?_) | (with_reducible intro h) | ((fail_if_success (with_reducible refine Leaf.mk ?_)); (fail_if_success (with_reducible refine VC.mk ?_)); (fail_if_success (with_reducible refine Goes.mk ?_)); (fail_if_success (with_reducible refine Again.mk ?_)); (fail_if_success (with_reducible refine Rounds.mk ?_)); (fail_if_success (with_reducible show False)); (fail_if_success (with_reducible show True)); conv => whnf))) <;> first | exact trivial | (refine Leaf.mk ?_; first | rfl | exact ⟨rfl, rfl⟩ | (simp; done))))
          | (have hlt : k < xs.length := by omega
             (refine Again.mk ⟨k + 1, [0, 1], ⟨hlt, hy2.succ (by unfold LeftOf ortX; first | (left; omega) | (right; left; omega) | (right; right; assumption))⟩, (by omega), ?_, ?_⟩ <;> (repeat' (first | (with_reducible refine And.intro ?_ ?_) | (with_reducible intro h) | ((fail_if_success (with_reducible refine Leaf.mk ?_)); (fail_if_success (with_reducible refine VC.mk ?_)); (fail_if_success (with_reducible refine Goes.mk ?_)); (fail_if_success (with_reducible refine Again.mk ?_)); (fail_if_success (with_reducible refine Rounds.mk ?_)); (fail_if_success (with_reducible show False)); (fail_if_success (with_reducible show True)); conv => whnf))) <;> first | exact trivial | (refine Leaf.mk ?_; first | rfl | exact ⟨rfl, rfl⟩ | (simp; done))))
def insX (xs : List (List Int)) (x y : Int) (n : Nat) : Prop := ∀ i, i < n → orient (at2 xs i 0) (at2 xs i 1) (at2 xs ((i + 1) % xs.length) 0) (at2 xs ((i + 1) % xs.length) 1) x y ≠ -1
instance (xs : List (List Int)) (x y : Int) (n : Nat) : Decidable (insX xs x y n) := by unfold insX; infer_instance
def hasX (xs : List (List Int)) (x y : Int) : Bool := convB xs && decide (insX xs x y xs.length)
theorem insX.succ {xs : List (List Int)} {x y : Int} {n : Nat} (h : insX xs x y n) (k : orient (at2 xs n 0) (at2 xs n 1) (at2 xs ((n + 1) % xs.length) 0) (at2 xs ((n + 1) % xs.length) 1) x y ≠ -1) : insX xs x y (n + 1) := fun j hj => by
  rcases Nat.lt_or_ge j n with e | e
  · exact h j e
  · obtain rfl : j = n := by omega
    exact k
theorem orient_neg {a b c d e f : Int} : orient a b c d e f < 0 ↔ orient a b c d e f = -1 := by unfold orient sign; split <;> (try split) <;> omega
theorem orient_sat (a b c d e f : Int) : orient a b c d (sat e) (sat f) = orient a b c d e f := by unfold orient orientN; rw [sat_sat, sat_sat]
theorem hasX_no {xs : List (List Int)} {x y : Int} (h : convB xs = false ∨ ¬ insX xs x y xs.length) : hasX xs x y = false := by
  unfold hasX
  rcases h with h | h
  · rw [h]; rfl
  · rw [decide_eq_false h]; simp
theorem hasX_yes {xs : List (List Int)} {x y : Int} (h : convB xs = true) (k : insX xs x y xs.length) : hasX xs x y = true := by
  unfold hasX; rw [h, decide_eq_true k]; rfl
def c_polygon_Contains : Con := ⟨42, rowRun [.rows 2, .num 2] (fun l R => match l, R with | [x, y], [xs] => [xs.length ≤ 100000] | _, _ => [False]) fun l R => match l, R with
  | [x, y], [xs] => .bool (hasX xs x y)
  | _, _ => .any⟩
set_option maxRecDepth 100000 in
set_option maxHeartbeats 2000000 in
theorem con_polygon_Contains : c_polygon_Contains.Ok Try.prog := by
  refine con_rows (C := [c_polygon_IsConvex, c_vec2_Orientation]) (pl := [(6, [0, 1, 2, 3, 4, 5, 6, 7, 8, 9, 10, 11], [0, 0, 0, 4, 0, 16, 60, 126, 254, 0, 1023, 2047])]) Try.func42 rfl (by kernel_rfl) T_ok (Cons.cons con_polygon_IsConvex (Cons.cons con_vec2_Orientation (Cons.nil _))) mixed (by kernel_rfl) _ _ _ (fun l R hl hR hn hpre => ?_)
  match l, hl, R, hR with
  | [x, y], zl, [(true, xs)], zr =>
    clear zl zr
    obtain rfl : xs = [] := hn _ (List.Mem.head _) rfl
    have hp0 := hpre _ (List.Mem.head _); try dsimp only at hp0
    skip
    have hc : convB [] = false := rfl
    repeat' (first | (with_reducible refine And.intro ?_ ?_) | (with_reducible intro h) | ((fail_if_success (with_reducible refine Leaf.mk ?_)); (fail_if_success (with_reducible refine VC.mk ?_)); (fail_if_success (with_reducible refine Goes.mk ?_)); (fail_if_success (with_reducible refine Again.mk ?_)); (fail_if_success (with_reducible refine Rounds.mk ?_)); (fail_if_success (with_reducible show False)); (fail_if_success (with_reducible show True)); conv => whnf))
    all_goals try simp only [Bool.not_eq_true', Bool.not_eq_false', Bool.and_eq_true, decide_eq_true_eq, decide_eq_false_iff_not, tkA, Nat.zero_add, Nat.reduceAdd, Int.toNat_natCast, tmN] at *
    all_goals try (simp only [hc, Bool.false_eq_true, Bool.true_eq_false] at *)
    all_goals try first | exact trivial | (show False; omega) | exact Leaf.mk trivial | exact Leaf.mk rfl | (refine VC.mk ?_; first | trivial | assumption | ((try simp only [InR] at *); omega) | (simp; done) | (simp; omega))
    all_goals (refine Leaf.mk ?_; rfl)
  | [x, y], zl, [(false, xs)], zr =>
    clear zl zr
    have hp0 := hpre _ (List.Mem.head _); try dsimp only at hp0
    skip
    repeat' (first | (with_reducible refine And.intro ?_ ?_) | (with_reducible intro h) | ((fail_if_success (with_reducible refine Leaf.mk ?_)); (fail_if_success (with_reducible refine VC.mk ?_)); (fail_if_success (with_reducible refine Goes.mk ?_)); (fail_if_success (with_reducible refine Again.mk ?_)); (fail_if_success (with_reducible refine Rounds.mk ?_)); (fail_if_success (with_reducible show False)); (fail_if_success (with_reducible show True)); conv => whnf))
    all_goals try simp only [Bool.not_eq_true', Bool.not_eq_false', Bool.and_eq_true, decide_eq_true_eq, decide_eq_false_iff_not, tkA, Nat.zero_add, Nat.reduceAdd, Int.toNat_natCast, tmN] at *
    all_goals try (have hcv : convB xs = true := (by assumption); obtain ⟨c1, c2, c3, c4⟩ := convB_iff.1 hcv)
    all_goals try first | exact trivial | (show False; omega) | exact Leaf.mk trivial | exact Leaf.mk rfl | (refine VC.mk ?_; first | trivial | assumption | ((try simp only [InR] at *); omega) | (simp; done) | (simp; omega))
    all_goals try (refine Leaf.mk ?_; symm; first | exact hasX_no (Or.inl (by assumption)) | exact hasX_no (Or.inr fun hh => absurd (orient_neg.1 (by assumption)) (hh k (by omega))) | exact hasX_no (Or.inr fun hh => absurd (by assumption) (hh k (by omega))) | (have hk : k = xs.length := (by omega); subst hk; exact hasX_yes (by assumption) (by assumption)))
    refine goes_inv (X := Nat) (pl := [(6, [0, 1, 2, 3, 4, 5, 6, 7, 8, 9, 10, 11], [0, 0, 0, 4, 0, 16, 60, 126, 254, 0, 1023, 2047])]) T_ok (Cons.cons con_polygon_IsConvex (Cons.cons con_vec2_Orientation (Cons.nil _))) mixed (by kernel_rfl)
      (fun k => (.sl 0 2 0 xs.length :: .any :: .any :: .ptr 1 0 :: .any :: .any :: .any :: .any :: .any :: .any :: .sl 0 2 0 xs.length :: .int .i64 (xs.length : Int) :: .int .i64 (k : Int) :: .any :: .any :: .any :: .any :: .any :: .any :: .any :: .any :: .any :: .any :: .any :: .any :: .any :: .any :: .any :: .any :: .any :: [], [.arr false true 2 xs, .cells [.int .i64 x, .int .i64 y]]))
      (fun k => k ≤ xs.length ∧ insX xs x y k) (fun k => xs.length - k) 0 [0, 1] ⟨Nat.zero_le _, fun i hi => absurd hi (Nat.not_lt_zero _)⟩ ?_ ?_ ?_
    · repeat' (first | (with_reducible refine And.intro ?_ ?_) | (with_reducible intro h) | ((fail_if_success (with_reducible refine Leaf.mk ?_)); (fail_if_success (with_reducible refine VC.mk ?_)); (fail_if_success (with_reducible refine Goes.mk ?_)); (fail_if_success (with_reducible refine Again.mk ?_)); (fail_if_success (with_reducible refine Rounds.mk ?_)); (fail_if_success (with_reducible show False)); (fail_if_success (with_reducible show True)); conv => whnf))
      all_goals first | exact trivial | (refine Leaf.mk ?_; first | rfl | exact ⟨rfl, rfl⟩ | (simp; done))
    · repeat' (first | (with_reducible refine And.intro ?_ ?_) | (with_reducible intro h) | ((fail_if_success (with_reducible refine Leaf.mk ?_)); (fail_if_success (with_reducible refine VC.mk ?_)); (fail_if_success (with_reducible refine Goes.mk ?_)); (fail_if_success (with_reducible refine Again.mk ?_)); (fail_if_success (with_reducible refine Rounds.mk ?_)); (fail_if_success (with_reducible show False)); (fail_if_success (with_reducible show True)); conv => whnf))
      all_goals first | exact trivial | (refine Leaf.mk ?_; first | rfl | exact ⟨rfl, rfl⟩ | (simp; done))
    · intro k hx
      obtain ⟨hx1, hx2⟩ := hx
      repeat' (first | (with_reducible refine And.intro ?_ ?_) | (with_reducible intro h) | ((fail_if_success (with_reducible refine Leaf.mk ?_)); (fail_if_success (with_reducible refine VC.mk ?_)); (fail_if_success (with_reducible refine Goes.mk ?_)); (fail_if_success (with_reducible refine Again.mk ?_)); (fail_if_success (with_reducible refine Rounds.mk ?_)); (fail_if_success (with_reducible show False)); (fail_if_success (with_reducible show True)); conv => whnf))
      all_goals try simp only [Bool.not_eq_true', Bool.not_eq_false', Bool.and_eq_true, decide_eq_true_eq, decide_eq_false_iff_not, tkA, Nat.zero_add, Nat.reduceAdd, Int.toNat_natCast, tmN] at *
      all_goals try simp only [orient_sat] at *
      all_goals try (have hnx := next_lt (i := k) (n := xs.length) (by omega))
      all_goals try first | exact trivial | (show False; omega) | exact Leaf.mk trivial | exact Leaf.mk rfl | (refine VC.mk ?_; first | trivial | assumption | ((try simp only [InR] at *); omega) | (simp; done) | (simp; omega))
      all_goals try (refine Leaf.mk ?_; symm; first | exact hasX_no (Or.inl (by assumption)) | exact hasX_no (Or.inr fun hh => absurd (orient_neg.1 (by assumption)) (hh k (by omega))) | exact hasX_no (Or.inr fun hh => absurd (by assumption) (hh k (by omega))) | (have hk : k = xs.length := (by omega); subst hk; exact hasX_yes (by assumption) (by assumption)))
      all_goals (refine Again.mk ⟨k + 1, [0, 1], ⟨by omega, hx2.succ (by first | assumption | exact fun e => absurd (orient_neg.2 e) (by assumption))⟩, (by omega), ?_, ?_⟩ <;> (repeat' (first | (with_reducible refine And.intro ?_ ?_) | (with_reducible intro h) | ((fail_if_success (with_reducible refine Leaf.mk ?_)); (fail_if_success (with_reducible refine VC.mk ?_)); (fail_if_success (with_reducible refine Goes.mk ?_)); (fail_if_success (with_reducible refine Again.mk ?_)); (fail_if_success (with_reducible refine Rounds.mk ?_)); (fail_if_success (with_reducible show False)); (fail_if_success (with_reducible show True)); conv => whnf))) <;> first | exact trivial | (refine Leaf.mk ?_; first | rfl | exact ⟨rfl, rfl⟩ | (simp; done)))

end Go.Proofs.Ytdoagjphjnbbnaa
