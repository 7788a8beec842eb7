/- Contracts of package constraint and of caromref28: what only reads. -/
import Derived.Test.YtapbegcmdiemoaaK3
import Derived.Test.YtapbegcmdiemoaaEvL
namespace Go.Proofs.Ytapbegcmdiemoaa
open Go.RowKit Fx Vx Ev
set_option linter.unusedVariables false
set_option linter.unusedSimpArgs false


/-- Number j of body i, 0 if there is none. -/
def atB (xs : List (List Int)) (i : Int) (j : Nat) : Int := if 0 ≤ i ∧ i < xs.length then at2 xs i.toNat j else 0
theorem atB_in {xs : List (List Int)} {i : Int} (h : 0 ≤ i) (h' : i < xs.length) (j : Nat) : atB xs i j = at2 xs i.toNat j := if_pos ⟨h, h'⟩
theorem atB_out {xs : List (List Int)} {i : Int} (h : i < 0 ∨ (xs.length : Int) ≤ i) (j : Nat) : atB xs i j = 0 := if_neg (by omega)
def relV (xs : List (List Int)) (ra rb nx ny aa ab : Int) : Int :=
  sub (add (dot nx ny (sub (atB xs rb 0) (atB xs ra 0)) (sub (atB xs rb 1) (atB xs ra 1))) (mul (atB xs rb 2) ab)) (mul (atB xs ra 2) aa)
def effK (xs : List (List Int)) (ra rb nx ny aa ab so : Int) : Int :=
  add (add (add (mul (add (atB xs ra 3) (atB xs rb 3)) (dot nx ny nx ny)) (mul (mul aa aa) (atB xs ra 4))) (mul (mul ab ab) (atB xs rb 4))) so
def effM (xs : List (List Int)) (ra rb nx ny aa ab so : Int) : Int := if effK xs ra rb nx ny aa ab so < 1 then 0 else dv 65536 (effK xs ra rb nx ny aa ab so)
def corr (c dt : Int) : Int := clamp (mul 13107 (dv c dt)) (-262144) 262144
/-- Bounds of row i. -/
def isFr (xs : List (List Int)) (i : Int) : Bool := decide (0 ≤ at2 xs i.toNat 12) && decide (at2 xs i.toNat 12 < xs.length) && !decide (at2 xs i.toNat 12 = i)
def frM (xs : List (List Int)) (i : Int) : Int := max (mul (at2 xs i.toNat 13) (at2 xs (at2 xs i.toNat 12).toNat 11)) 0
def inR (xs : List (List Int)) (i : Int) : Bool := decide (0 ≤ i) && decide (i < xs.length)
def bdL (xs : List (List Int)) (i : Int) : Int := if inR xs i then (if isFr xs i then -frM xs i else at2 xs i.toNat 8) else 0
def bdU (xs : List (List Int)) (i : Int) : Int := if inR xs i then (if isFr xs i then frM xs i else at2 xs i.toNat 9) else 0
theorem bd_out {xs : List (List Int)} {i : Int} (h : i < 0 ∨ (xs.length : Int) ≤ i) : bdL xs i = 0 ∧ bdU xs i = 0 := by
  have e : inR xs i = false := by
    cases e : inR xs i
    · rfl
    · simp only [inR, Bool.and_eq_true, decide_eq_true_eq] at e; omega
  simp [bdL, bdU, e]
theorem bd_own {xs : List (List Int)} {i : Int} (h0 : 0 ≤ i) (h1 : i < xs.length) (h : at2 xs i.toNat 12 < 0 ∨ (xs.length : Int) ≤ at2 xs i.toNat 12 ∨ at2 xs i.toNat 12 = i) : bdL xs i = at2 xs i.toNat 8 ∧ bdU xs i = at2 xs i.toNat 9 := by
  have e : inR xs i = true := by simp [inR, h0, h1]
  have e2 : isFr xs i = false := by
    cases e2 : isFr xs i
    · rfl
    · simp only [isFr, Bool.and_eq_true, decide_eq_true_eq, Bool.not_eq_true', decide_eq_false_iff_not] at e2; omega
  simp [bdL, bdU, e, e2]
theorem bd_fr {xs : List (List Int)} {i : Int} (h0 : 0 ≤ i) (h1 : i < xs.length) (h2 : 0 ≤ at2 xs i.toNat 12) (h3 : at2 xs i.toNat 12 < xs.length) (h4 : ¬ at2 xs i.toNat 12 = i) : bdL xs i = -frM xs i ∧ bdU xs i = frM xs i := by
  have e : inR xs i = true := by simp [inR, h0, h1]
  have e2 : isFr xs i = true := by simp [isFr, h2, h3, h4]
  simp [bdL, bdU, e, e2]
theorem tkA (xs : List (List Int)) : List.take xs.length (List.drop 0 xs) = xs := by simp
theorem tkL (xs : List (List Int)) : List.take xs.length xs = xs := List.take_length

def c_constraint_at : Con := ⟨65, rowRun [.rows 5, .num 0] (fun l R => match l, R with | [i], [xs] => [] | _, _ => [False]) fun l R => match l, R with
  | [i], [xs] => .agg [.int .i64 (atB xs i 0), .int .i64 (atB xs i 1), .int .i64 (atB xs i 2), .int .i64 (atB xs i 3), .int .i64 (atB xs i 4)]
  | _, _ => .any⟩
set_option maxRecDepth 100000 in
set_option maxHeartbeats 2000000 in
theorem con_constraint_at : c_constraint_at.Ok Try.prog := by
  refine con_rows (C := []) (pl := []) Try.func65 rfl (by kernel_rfl) T_ok (Cons.nil _) mixed (by kernel_rfl) _ _ _ (fun l R hl hR hn hpre => ?_)
  match l, hl, R, hR with
  | [i], zl, [(true, xs)], zr =>
    clear zl zr
    obtain rfl : xs = [] := hn _ (List.Mem.head _) rfl
    repeat' (first | (with_reducible refine And.intro ?_ ?_) | (with_reducible intro h) | ((fail_if_success (with_reducible refine Leaf.mk ?_)); (fail_if_success (with_reducible refine VC.mk ?_)); (fail_if_success (with_reducible refine Goes.mk ?_)); (fail_if_success (with_reducible refine Again.mk ?_)); (fail_if_success (with_reducible refine Rounds.mk ?_)); (fail_if_success (with_reducible show False)); (fail_if_success (with_reducible show True)); conv => whnf))
    all_goals try simp only [decide_eq_true_eq, decide_eq_false_iff_not, tkA, tkL, Nat.zero_add, Nat.reduceAdd, Int.toNat_natCast, List.take_nil, List.nil_append] at *
    all_goals try first | exact trivial | (show False; omega) | exact Leaf.mk trivial | exact Leaf.mk rfl | (refine VC.mk ?_; first | trivial | assumption | ((try simp only [InR, decide_eq_true_eq, decide_eq_false_iff_not] at *); omega) | (simp; done))
    all_goals (refine Leaf.mk ?_; first | rfl | (rw [atB_out (by first | omega | (simp; omega))]; done) | (rw [atB_in (by omega) (by omega)]; first | rfl | (simp; done)) | (simp_all [atB]; done))
  | [i], zl, [(false, xs)], zr =>
    clear zl zr
    repeat' (first | (with_reducible refine And.intro ?_ ?_) | (with_reducible intro h) | ((fail_if_success (with_reducible refine Leaf.mk ?_)); (fail_if_success (with_reducible refine VC.mk ?_)); (fail_if_success (with_reducible refine Goes.mk ?_)); (fail_if_success (with_reducible refine Again.mk ?_)); (fail_if_success (with_reducible refine Rounds.mk ?_)); (fail_if_success (with_reducible show False)); (fail_if_success (with_reducible show True)); conv => whnf))
    all_goals try simp only [decide_eq_true_eq, decide_eq_false_iff_not, tkA, tkL, Nat.zero_add, Nat.reduceAdd, Int.toNat_natCast, List.take_nil, List.nil_append] at *
    all_goals try first | exact trivial | (show False; omega) | exact Leaf.mk trivial | exact Leaf.mk rfl | (refine VC.mk ?_; first | trivial | assumption | ((try simp only [InR, decide_eq_true_eq, decide_eq_false_iff_not] at *); omega) | (simp; done))
    all_goals (refine Leaf.mk ?_; first | rfl | (rw [atB_out (by first | omega | (simp; omega))]; done) | (rw [atB_in (by omega) (by omega)]; first | rfl | (simp; done)) | (simp_all [atB]; done))
def c_constraint_RelativeVelocity : Con := ⟨27, rowRun [.num 14, .rows 5] (fun l R => match l, R with | [ra, rb, nx, ny, aa, ab, em, bi, lo, up, so, im, fo, fr], [xs] => [] | _, _ => [False]) fun l R => match l, R with
  | [ra, rb, nx, ny, aa, ab, em, bi, lo, up, so, im, fo, fr], [xs] => .int .i64 (relV xs ra rb nx ny aa ab)
  | _, _ => .any⟩
set_option maxRecDepth 100000 in
set_option maxHeartbeats 2000000 in
theorem con_constraint_RelativeVelocity : c_constraint_RelativeVelocity.Ok Try.prog := by
  refine con_rows (C := [c_constraint_at, c_vec2_Sub, c_vec2_Dot, c_fixed_Mul, c_fixed_Add, c_fixed_Sub]) (pl := [(1, [0, 1, 2, 3, 4, 5, 6, 7, 8, 9, 10, 11], [0, 0, 2, 7, 0, 0, 32, 127, 0, 0, 1023, 2047]), (2, [0, 1, 2, 3, 4, 5, 6, 7, 8], [0, 1, 0, 4, 0, 16, 60, 127, 255]), (3, [0, 1, 2, 3, 4, 5, 6, 7, 8, 9, 10, 11, 12, 13], [0, 0, 2, 0, 8, 30, 63, 0, 128, 0, 512, 2047, 4095, 8191])]) Try.func27 rfl (by kernel_rfl) T_ok (Cons.cons con_constraint_at (Cons.cons con_vec2_Sub (Cons.cons con_vec2_Dot (Cons.cons con_fixed_Mul (Cons.cons con_fixed_Add (Cons.cons con_fixed_Sub (Cons.nil _))))))) mixed (by kernel_rfl) _ _ _ (fun l R hl hR hn hpre => ?_)
  match l, hl, R, hR with
  | [ra, rb, nx, ny, aa, ab, em, bi, lo, up, so, im, fo, fr], zl, [(true, xs)], zr =>
    clear zl zr
    obtain rfl : xs = [] := hn _ (List.Mem.head _) rfl
    repeat' (first | (with_reducible refine And.intro ?_ ?_) | (with_reducible intro h) | ((fail_if_success (with_reducible refine Leaf.mk ?_)); (fail_if_success (with_reducible refine VC.mk ?_)); (fail_if_success (with_reducible refine Goes.mk ?_)); (fail_if_success (with_reducible refine Again.mk ?_)); (fail_if_success (with_reducible refine Rounds.mk ?_)); (fail_if_success (with_reducible show False)); (fail_if_success (with_reducible show True)); conv => whnf))
    all_goals try simp only [decide_eq_true_eq, decide_eq_false_iff_not, tkA, tkL, Nat.zero_add, Nat.reduceAdd, Int.toNat_natCast, List.take_nil, List.nil_append] at *
    all_goals try first | exact trivial | (show False; omega) | exact Leaf.mk trivial | exact Leaf.mk rfl | (refine VC.mk ?_; first | trivial | assumption | ((try simp only [InR, decide_eq_true_eq, decide_eq_false_iff_not] at *); omega) | (simp; done))
    all_goals try (refine Leaf.mk ?_; rfl)
  | [ra, rb, nx, ny, aa, ab, em, bi, lo, up, so, im, fo, fr], zl, [(false, xs)], zr =>
    clear zl zr
    repeat' (first | (with_reducible refine And.intro ?_ ?_) | (with_reducible intro h) | ((fail_if_success (with_reducible refine Leaf.mk ?_)); (fail_if_success (with_reducible refine VC.mk ?_)); (fail_if_success (with_reducible refine Goes.mk ?_)); (fail_if_success (with_reducible refine Again.mk ?_)); (fail_if_success (with_reducible refine Rounds.mk ?_)); (fail_if_success (with_reducible show False)); (fail_if_success (with_reducible show True)); conv => whnf))
    all_goals try simp only [decide_eq_true_eq, decide_eq_false_iff_not, tkA, tkL, Nat.zero_add, Nat.reduceAdd, Int.toNat_natCast, List.take_nil, List.nil_append] at *
    all_goals try first | exact trivial | (show False; omega) | exact Leaf.mk trivial | exact Leaf.mk rfl | (refine VC.mk ?_; first | trivial | assumption | ((try simp only [InR, decide_eq_true_eq, decide_eq_false_iff_not] at *); omega) | (simp; done))
    all_goals try (refine Leaf.mk ?_; rfl)
def c_ref28_at : Con := ⟨69, rowRun [.rows 5, .num 0] (fun l R => match l, R with | [i], [xs] => [] | _, _ => [False]) fun l R => match l, R with
  | [i], [xs] => .agg [.int .i64 (atB xs i 0), .int .i64 (atB xs i 1), .int .i64 (atB xs i 2), .int .i64 (atB xs i 3), .int .i64 (atB xs i 4)]
  | _, _ => .any⟩
set_option maxRecDepth 100000 in
set_option maxHeartbeats 2000000 in
theorem con_ref28_at : c_ref28_at.Ok Try.prog := by
  refine con_rows (C := []) (pl := []) Try.func69 rfl (by kernel_rfl) T_ok (Cons.nil _) mixed (by kernel_rfl) _ _ _ (fun l R hl hR hn hpre => ?_)
  match l, hl, R, hR with
  | [i], zl, [(true, xs)], zr =>
    clear zl zr
    obtain rfl : xs = [] := hn _ (List.Mem.head _) rfl
    repeat' (first | (with_reducible refine And.intro ?_ ?_) | (with_reducible intro h) | ((fail_if_success (with_reducible refine Leaf.mk ?_)); (fail_if_success (with_reducible refine VC.mk ?_)); (fail_if_success (with_reducible refine Goes.mk ?_)); (fail_if_success (with_reducible refine Again.mk ?_)); (fail_if_success (with_reducible refine Rounds.mk ?_)); (fail_if_success (with_reducible show False)); (fail_if_success (with_reducible show True)); conv => whnf))
    all_goals try simp only [decide_eq_true_eq, decide_eq_false_iff_not, tkA, tkL, Nat.zero_add, Nat.reduceAdd, Int.toNat_natCast, List.take_nil, List.nil_append] at *
    all_goals try first | exact trivial | (show False; omega) | exact Leaf.mk trivial | exact Leaf.mk rfl | (refine VC.mk ?_; first | trivial | assumption | ((try simp only [InR, decide_eq_true_eq, decide_eq_false_iff_not] at *); omega) | (simp; done))
    all_goals (refine Leaf.mk ?_; first | rfl | (rw [atB_out (by first | omega | (simp; omega))]; done) | (rw [atB_in (by omega) (by omega)]; first | rfl | (simp; done)) | (simp_all [atB]; done))
  | [i], zl, [(false, xs)], zr =>
    clear zl zr
    repeat' (first | (with_reducible refine And.intro ?_ ?_) | (with_reducible intro h) | ((fail_if_success (with_reducible refine Leaf.mk ?_)); (fail_if_success (with_reducible refine VC.mk ?_)); (fail_if_success (with_reducible refine Goes.mk ?_)); (fail_if_success (with_reducible refine Again.mk ?_)); (fail_if_success (with_reducible refine Rounds.mk ?_)); (fail_if_success (with_reducible show False)); (fail_if_success (with_reducible show True)); conv => whnf))
    all_goals try simp only [decide_eq_true_eq, decide_eq_false_iff_not, tkA, tkL, Nat.zero_add, Nat.reduceAdd, Int.toNat_natCast, List.take_nil, List.nil_append] at *
    all_goals try first | exact trivial | (show False; omega) | exact Leaf.mk trivial | exact Leaf.mk rfl | (refine VC.mk ?_; first | trivial | assumption | ((try simp only [InR, decide_eq_true_eq, decide_eq_false_iff_not] at *); omega) | (simp; done))
    all_goals (refine Leaf.mk ?_; first | rfl | (rw [atB_out (by first | omega | (simp; omega))]; done) | (rw [atB_in (by omega) (by omega)]; first | rfl | (simp; done)) | (simp_all [atB]; done))
def c_ref28_RelativeVelocity : Con := ⟨30, rowRun [.num 14, .rows 5] (fun l R => match l, R with | [ra, rb, nx, ny, aa, ab, em, bi, lo, up, so, im, fo, fr], [xs] => [] | _, _ => [False]) fun l R => match l, R with
  | [ra, rb, nx, ny, aa, ab, em, bi, lo, up, so, im, fo, fr], [xs] => .int .i64 (relV xs ra rb nx ny aa ab)
  | _, _ => .any⟩
set_option maxRecDepth 100000 in
set_option maxHeartbeats 2000000 in
theorem con_ref28_RelativeVelocity : c_ref28_RelativeVelocity.Ok Try.prog := by
  refine con_rows (C := [c_ref28_at, c_ref03_Sub, c_ref03_Dot, c_ref01_Mul, c_ref01_Add, c_ref01_Sub]) (pl := [(1, [0, 1, 2, 3, 4, 5, 6, 7, 8, 9, 10, 11], [0, 0, 2, 7, 0, 0, 32, 127, 0, 0, 1023, 2047]), (2, [0, 1, 2, 3, 4, 5, 6, 7, 8], [0, 1, 0, 4, 0, 16, 60, 127, 255]), (3, [0, 1, 2, 3, 4, 5, 6, 7, 8, 9, 10, 11, 12, 13], [0, 0, 2, 0, 8, 30, 63, 0, 128, 0, 512, 2047, 4095, 8191])]) Try.func30 rfl (by kernel_rfl) T_ok (Cons.cons con_ref28_at (Cons.cons con_ref03_Sub (Cons.cons con_ref03_Dot (Cons.cons con_ref01_Mul (Cons.cons con_ref01_Add (Cons.cons con_ref01_Sub (Cons.nil _))))))) mixed (by kernel_rfl) _ _ _ (fun l R hl hR hn hpre => ?_)
  match l, hl, R, hR with
  | [ra, rb, nx, ny, aa, ab, em, bi, lo, up, so, im, fo, fr], zl, [(true, xs)], zr =>
    clear zl zr
    obtain rfl : xs = [] := hn _ (List.Mem.head _) rfl
    repeat' (first | (with_reducible refine And.intro ?_ ?_) | (with_reducible intro h) | ((fail_if_success (with_reducible refine Leaf.mk ?_)); (fail_if_success (with_reducible refine VC.mk ?_)); (fail_if_success (with_reducible refine Goes.mk ?_)); (fail_if_success (with_reducible refine Again.mk ?_)); (fail_if_success (with_reducible refine Rounds.mk ?_)); (fail_if_success (with_reducible show False)); (fail_if_success (with_reducible show True)); conv => whnf))
    all_goals try simp only [decide_eq_true_eq, decide_eq_false_iff_not, tkA, tkL, Nat.zero_add, Nat.reduceAdd, Int.toNat_natCast, List.take_nil, List.nil_append] at *
    all_goals try first | exact trivial | (show False; omega) | exact Leaf.mk trivial | exact Leaf.mk rfl | (refine VC.mk ?_; first | trivial | assumption | ((try simp only [InR, decide_eq_true_eq, decide_eq_false_iff_not] at *); omega) | (simp; done))
    all_goals try (refine Leaf.mk ?_; rfl)
  | [ra, rb, nx, ny, aa, ab, em, bi, lo, up, so, im, fo, fr], zl, [(false, xs)], zr =>
    clear zl zr
    repeat' (first | (with_reducible refine And.intro ?_ ?_) | (with_reducible intro h) | ((fail_if_success (with_reducible refine Leaf.mk ?_)); (fail_if_success (with_reducible refine VC.mk ?_)); (fail_if_success (with_reducible refine Goes.mk ?_)); (fail_if_success (with_reducible refine Again.mk ?_)); (fail_if_success (with_reducible refine Rounds.mk ?_)); (fail_if_success (with_reducible show False)); (fail_if_success (with_reducible show True)); conv => whnf))
    all_goals try simp only [decide_eq_true_eq, decide_eq_false_iff_not, tkA, tkL, Nat.zero_add, Nat.reduceAdd, Int.toNat_natCast, List.take_nil, List.nil_append] at *
    all_goals try first | exact trivial | (show False; omega) | exact Leaf.mk trivial | exact Leaf.mk rfl | (refine VC.mk ?_; first | trivial | assumption | ((try simp only [InR, decide_eq_true_eq, decide_eq_false_iff_not] at *); omega) | (simp; done))
    all_goals try (refine Leaf.mk ?_; rfl)
def c_constraint_angularTerm : Con := ⟨67, pureRun [0, 0] (fun _ => []) fun | [a, b] => .int .i64 (mul (mul a a) b) | _ => .any⟩
set_option maxRecDepth 100000 in
set_option maxHeartbeats 1000000 in
theorem con_constraint_angularTerm : c_constraint_angularTerm.Ok Try.prog := by
  refine con_pure (C := [c_fixed_Mul]) (pl := []) Try.func67 rfl (by kernel_rfl) T_ok (Cons.cons con_fixed_Mul (Cons.nil _)) mixed (by kernel_rfl) _ _ _ (fun l hl hpre => ?_)
  match l, hl with
  | [a, b], _ =>
    repeat' (first | (with_reducible refine And.intro ?_ ?_) | (with_reducible intro h) | ((fail_if_success (with_reducible refine Leaf.mk ?_)); (fail_if_success (with_reducible refine VC.mk ?_)); (fail_if_success (with_reducible refine Goes.mk ?_)); (fail_if_success (with_reducible refine Again.mk ?_)); (fail_if_success (with_reducible refine Rounds.mk ?_)); (fail_if_success (with_reducible show False)); (fail_if_success (with_reducible show True)); conv => whnf))
    all_goals first | (refine VC.mk ?_; simp only [InR]; omega) | exact ⟨rfl⟩
def c_constraint_EffectiveMass : Con := ⟨28, rowRun [.num 14, .rows 5] (fun l R => match l, R with | [ra, rb, nx, ny, aa, ab, em, bi, lo, up, so, im, fo, fr], [xs] => [] | _, _ => [False]) fun l R => match l, R with
  | [ra, rb, nx, ny, aa, ab, em, bi, lo, up, so, im, fo, fr], [xs] => .int .i64 (effM xs ra rb nx ny aa ab so)
  | _, _ => .any⟩
set_option maxRecDepth 100000 in
set_option maxHeartbeats 2000000 in
theorem con_constraint_EffectiveMass : c_constraint_EffectiveMass.Ok Try.prog := by
  refine con_rows (C := [c_constraint_at, c_vec2_Dot, c_fixed_Add, c_fixed_Mul, c_constraint_angularTerm, c_fixed_Div]) (pl := [(1, [0, 1, 2, 3, 4, 5, 6, 7, 8, 9, 10, 11], [0, 0, 2, 7, 0, 0, 32, 127, 0, 0, 1023, 2047]), (2, [0, 1, 2, 3, 4, 5, 6, 7, 8, 9, 10, 11], [0, 1, 0, 4, 15, 0, 32, 0, 128, 511, 1023, 2047]), (3, [0, 1, 2, 3, 4, 5, 6, 7, 8, 9, 10, 11, 12, 13, 14], [0, 1, 0, 4, 15, 0, 32, 0, 128, 511, 0, 1024, 4095, 8191, 0])]) Try.func28 rfl (by kernel_rfl) T_ok (Cons.cons con_constraint_at (Cons.cons con_vec2_Dot (Cons.cons con_fixed_Add (Cons.cons con_fixed_Mul (Cons.cons con_constraint_angularTerm (Cons.cons con_fixed_Div (Cons.nil _))))))) mixed (by kernel_rfl) _ _ _ (fun l R hl hR hn hpre => ?_)
  match l, hl, R, hR with
  | [ra, rb, nx, ny, aa, ab, em, bi, lo, up, so, im, fo, fr], zl, [(true, xs)], zr =>
    clear zl zr
    obtain rfl : xs = [] := hn _ (List.Mem.head _) rfl
    repeat' (first | (with_reducible refine And.intro ?_ ?_) | (with_reducible intro h) | ((fail_if_success (with_reducible refine Leaf.mk ?_)); (fail_if_success (with_reducible refine VC.mk ?_)); (fail_if_success (with_reducible refine Goes.mk ?_)); (fail_if_success (with_reducible refine Again.mk ?_)); (fail_if_success (with_reducible refine Rounds.mk ?_)); (fail_if_success (with_reducible show False)); (fail_if_success (with_reducible show True)); conv => whnf))
    all_goals try simp only [decide_eq_true_eq, decide_eq_false_iff_not, tkA, tkL, Nat.zero_add, Nat.reduceAdd, Int.toNat_natCast, List.take_nil, List.nil_append] at *
    all_goals try first | exact trivial | (show False; omega) | exact Leaf.mk trivial | exact Leaf.mk rfl | (refine VC.mk ?_; first | trivial | assumption | ((try simp only [InR, decide_eq_true_eq, decide_eq_false_iff_not] at *); omega) | (simp; done))
    all_goals try refine goes_rounds 4 ?_
    all_goals try (refine rounds_one (pl := [(1, [0, 1, 2, 3, 4, 5, 6, 7, 8, 9, 10, 11], [0, 0, 2, 7, 0, 0, 32, 127, 0, 0, 1023, 2047]), (2, [0, 1, 2, 3, 4, 5, 6, 7, 8, 9, 10, 11], [0, 1, 0, 4, 15, 0, 32, 0, 128, 511, 1023, 2047]), (3, [0, 1, 2, 3, 4, 5, 6, 7, 8, 9, 10, 11, 12, 13, 14], [0, 1, 0, 4, 15, 0, 32, 0, 128, 511, 0, 1024, 4095, 8191, 0])]) T_ok (Cons.cons con_constraint_at (Cons.cons con_vec2_Dot (Cons.cons con_fixed_Add (Cons.cons con_fixed_Mul (Cons.cons con_constraint_angularTerm (Cons.cons con_fixed_Div (Cons.nil _))))))) mixed (by kernel_rfl) ?_; repeat' (first | (with_reducible refine And.intro ?_ ?_) | (with_reducible intro h) | ((fail_if_success (with_reducible refine Leaf.mk ?_)); (fail_if_success (with_reducible refine VC.mk ?_)); (fail_if_success (with_reducible refine Goes.mk ?_)); (fail_if_success (with_reducible refine Again.mk ?_)); (fail_if_success (with_reducible refine Rounds.mk ?_)); (fail_if_success (with_reducible show False)); (fail_if_success (with_reducible show True)); conv => whnf)))
    all_goals try first | exact trivial | exact absurd h (by decide) | (refine VC.mk ?_; first | trivial | decide)
    all_goals try (refine rounds_one (pl := [(1, [0, 1, 2, 3, 4, 5, 6, 7, 8, 9, 10, 11], [0, 0, 2, 7, 0, 0, 32, 127, 0, 0, 1023, 2047]), (2, [0, 1, 2, 3, 4, 5, 6, 7, 8, 9, 10, 11], [0, 1, 0, 4, 15, 0, 32, 0, 128, 511, 1023, 2047]), (3, [0, 1, 2, 3, 4, 5, 6, 7, 8, 9, 10, 11, 12, 13, 14], [0, 1, 0, 4, 15, 0, 32, 0, 128, 511, 0, 1024, 4095, 8191, 0])]) T_ok (Cons.cons con_constraint_at (Cons.cons con_vec2_Dot (Cons.cons con_fixed_Add (Cons.cons con_fixed_Mul (Cons.cons con_constraint_angularTerm (Cons.cons con_fixed_Div (Cons.nil _))))))) mixed (by kernel_rfl) ?_; repeat' (first | (with_reducible refine And.intro ?_ ?_) | (with_reducible intro h) | ((fail_if_success (with_reducible refine Leaf.mk ?_)); (fail_if_success (with_reducible refine VC.mk ?_)); (fail_if_success (with_reducible refine Goes.mk ?_)); (fail_if_success (with_reducible refine Again.mk ?_)); (fail_if_success (with_reducible refine Rounds.mk ?_)); (fail_if_success (with_reducible show False)); (fail_if_success (with_reducible show True)); conv => whnf)))
    all_goals try first | exact trivial | exact absurd h (by decide) | (refine VC.mk ?_; first | trivial | decide)
    all_goals try (refine rounds_one (pl := [(1, [0, 1, 2, 3, 4, 5, 6, 7, 8, 9, 10, 11], [0, 0, 2, 7, 0, 0, 32, 127, 0, 0, 1023, 2047]), (2, [0, 1, 2, 3, 4, 5, 6, 7, 8, 9, 10, 11], [0, 1, 0, 4, 15, 0, 32, 0, 128, 511, 1023, 2047]), (3, [0, 1, 2, 3, 4, 5, 6, 7, 8, 9, 10, 11, 12, 13, 14], [0, 1, 0, 4, 15, 0, 32, 0, 128, 511, 0, 1024, 4095, 8191, 0])]) T_ok (Cons.cons con_constraint_at (Cons.cons con_vec2_Dot (Cons.cons con_fixed_Add (Cons.cons con_fixed_Mul (Cons.cons con_constraint_angularTerm (Cons.cons con_fixed_Div (Cons.nil _))))))) mixed (by kernel_rfl) ?_; repeat' (first | (with_reducible refine And.intro ?_ ?_) | (with_reducible intro h) | ((fail_if_success (with_reducible refine Leaf.mk ?_)); (fail_if_success (with_reducible refine VC.mk ?_)); (fail_if_success (with_reducible refine Goes.mk ?_)); (fail_if_success (with_reducible refine Again.mk ?_)); (fail_if_success (with_reducible refine Rounds.mk ?_)); (fail_if_success (with_reducible show False)); (fail_if_success (with_reducible show True)); conv => whnf)))
    all_goals try first | exact trivial | exact absurd h (by decide) | (refine VC.mk ?_; first | trivial | decide)
    all_goals try (refine rounds_one (pl := [(1, [0, 1, 2, 3, 4, 5, 6, 7, 8, 9, 10, 11], [0, 0, 2, 7, 0, 0, 32, 127, 0, 0, 1023, 2047]), (2, [0, 1, 2, 3, 4, 5, 6, 7, 8, 9, 10, 11], [0, 1, 0, 4, 15, 0, 32, 0, 128, 511, 1023, 2047]), (3, [0, 1, 2, 3, 4, 5, 6, 7, 8, 9, 10, 11, 12, 13, 14], [0, 1, 0, 4, 15, 0, 32, 0, 128, 511, 0, 1024, 4095, 8191, 0])]) T_ok (Cons.cons con_constraint_at (Cons.cons con_vec2_Dot (Cons.cons con_fixed_Add (Cons.cons con_fixed_Mul (Cons.cons con_constraint_angularTerm (Cons.cons con_fixed_Div (Cons.nil _))))))) mixed (by kernel_rfl) ?_; repeat' (first | (with_reducible refine And.intro ?_ ?_) | (with_reducible intro h) | ((fail_if_success (with_reducible refine Leaf.mk ?_)); (fail_if_success (with_reducible refine VC.mk ?_)); (fail_if_success (with_reducible refine Goes.mk ?_)); (fail_if_success (with_reducible refine Again.mk ?_)); (fail_if_success (with_reducible refine Rounds.mk ?_)); (fail_if_success (with_reducible show False)); (fail_if_success (with_reducible show True)); conv => whnf)))
    all_goals try first | exact trivial | exact absurd h (by decide) | (refine VC.mk ?_; first | trivial | decide)
    all_goals try simp only [decide_eq_true_eq, decide_eq_false_iff_not, tkA, tkL, Nat.zero_add, Nat.reduceAdd, Int.toNat_natCast, List.take_nil, List.nil_append] at *
    all_goals try (exfalso; omega)
    all_goals (refine Leaf.mk ?_; unfold effM effK; simp only [at2, List.getD_cons_zero, List.getD_cons_succ, Nat.zero_add, Nat.reduceAdd] at *; first | (rw [if_pos (by assumption)]; done) | (rw [if_neg (by assumption)]; done) | (simp_all; done))
  | [ra, rb, nx, ny, aa, ab, em, bi, lo, up, so, im, fo, fr], zl, [(false, xs)], zr =>
    clear zl zr
    repeat' (first | (with_reducible refine And.intro ?_ ?_) | (with_reducible intro h) | ((fail_if_success (with_reducible refine Leaf.mk ?_)); (fail_if_success (with_reducible refine VC.mk ?_)); (fail_if_success (with_reducible refine Goes.mk ?_)); (fail_if_success (with_reducible refine Again.mk ?_)); (fail_if_success (with_reducible refine Rounds.mk ?_)); (fail_if_success (with_reducible show False)); (fail_if_success (with_reducible show True)); conv => whnf))
    all_goals try simp only [decide_eq_true_eq, decide_eq_false_iff_not, tkA, tkL, Nat.zero_add, Nat.reduceAdd, Int.toNat_natCast, List.take_nil, List.nil_append] at *
    all_goals try first | exact trivial | (show False; omega) | exact Leaf.mk trivial | exact Leaf.mk rfl | (refine VC.mk ?_; first | trivial | assumption | ((try simp only [InR, decide_eq_true_eq, decide_eq_false_iff_not] at *); omega) | (simp; done))
    all_goals try refine goes_rounds 4 ?_
    all_goals try (refine rounds_one (pl := [(1, [0, 1, 2, 3, 4, 5, 6, 7, 8, 9, 10, 11], [0, 0, 2, 7, 0, 0, 32, 127, 0, 0, 1023, 2047]), (2, [0, 1, 2, 3, 4, 5, 6, 7, 8, 9, 10, 11], [0, 1, 0, 4, 15, 0, 32, 0, 128, 511, 1023, 2047]), (3, [0, 1, 2, 3, 4, 5, 6, 7, 8, 9, 10, 11, 12, 13, 14], [0, 1, 0, 4, 15, 0, 32, 0, 128, 511, 0, 1024, 4095, 8191, 0])]) T_ok (Cons.cons con_constraint_at (Cons.cons con_vec2_Dot (Cons.cons con_fixed_Add (Cons.cons con_fixed_Mul (Cons.cons con_constraint_angularTerm (Cons.cons con_fixed_Div (Cons.nil _))))))) mixed (by kernel_rfl) ?_; repeat' (first | (with_reducible refine And.intro ?_ ?_) | (with_reducible intro h) | ((fail_if_success (with_reducible refine Leaf.mk ?_)); (fail_if_success (with_reducible refine VC.mk ?_)); (fail_if_success (with_reducible refine Goes.mk ?_)); (fail_if_success (with_reducible refine Again.mk ?_)); (fail_if_success (with_reducible refine Rounds.mk ?_)); (fail_if_success (with_reducible show False)); (fail_if_success (with_reducible show True)); conv => whnf)))
    all_goals try first | exact trivial | exact absurd h (by decide) | (refine VC.mk ?_; first | trivial | decide)
    all_goals try (refine rounds_one (pl := [(1, [0, 1, 2, 3, 4, 5, 6, 7, 8, 9, 10, 11], [0, 0, 2, 7, 0, 0, 32, 127, 0, 0, 1023, 2047]), (2, [0, 1, 2, 3, 4, 5, 6, 7, 8, 9, 10, 11], [0, 1, 0, 4, 15, 0, 32, 0, 128, 511, 1023, 2047]), (3, [0, 1, 2, 3, 4, 5, 6, 7, 8, 9, 10, 11, 12, 13, 14], [0, 1, 0, 4, 15, 0, 32, 0, 128, 511, 0, 1024, 4095, 8191, 0])]) T_ok (Cons.cons con_constraint_at (Cons.cons con_vec2_Dot (Cons.cons con_fixed_Add (Cons.cons con_fixed_Mul (Cons.cons con_constraint_angularTerm (Cons.cons con_fixed_Div (Cons.nil _))))))) mixed (by kernel_rfl) ?_; repeat' (first | (with_reducible refine And.intro ?_ ?_) | (with_reducible intro h) | ((fail_if_success (with_reducible refine Leaf.mk ?_)); (fail_if_success (with_reducible refine VC.mk ?_)); (fail_if_success (with_reducible refine Goes.mk ?_)); (fail_if_success (with_reducible refine Again.mk ?_)); (fail_if_success (with_reducible refine Rounds.mk ?_)); (fail_if_success (with_reducible show False)); (fail_if_success (with_reducible show True)); conv => whnf)))
    all_goals try first | exact trivial | exact absurd h (by decide) | (refine VC.mk ?_; first | trivial | decide)
    all_goals try (refine rounds_one (pl := [(1, [0, 1, 2, 3, 4, 5, 6, 7, 8, 9, 10, 11], [0, 0, 2, 7, 0, 0, 32, 127, 0, 0, 1023, 2047]), (2, [0, 1, 2, 3, 4, 5, 6, 7, 8, 9, 10, 11], [0, 1, 0, 4, 15, 0, 32, 0, 128, 511, 1023, 2047]), (3, [0, 1, 2, 3, 4, 5, 6, 7, 8, 9, 10, 11, 12, 13, 14], [0, 1, 0, 4, 15, 0, 32, 0, 128, 511, 0, 1024, 4095, 8191, 0])]) T_ok (Cons.cons con_constraint_at (Cons.cons con_vec2_Dot (Cons.cons con_fixed_Add (Cons.cons con_fixed_Mul (Cons.cons con_constraint_angularTerm (Cons.cons con_fixed_Div (Cons.nil _))))))) mixed (by kernel_rfl) ?_; repeat' (first | (with_reducible refine And.intro ?_ ?_) | (with_reducible intro h) | ((fail_if_success (with_reducible refine Leaf.mk ?_)); (fail_if_success (with_reducible refine VC.mk ?_)); (fail_if_success (with_reducible refine Goes.mk ?_)); (fail_if_success (with_reducible refine Again.mk ?_)); (fail_if_success (with_reducible refine Rounds.mk ?_)); (fail_if_success (with_reducible show False)); (fail_if_success (with_reducible show True)); conv => whnf)))
    all_goals try first | exact trivial | exact absurd h (by decide) | (refine VC.mk ?_; first | trivial | decide)
    all_goals try (refine rounds_one (pl := [(1, [0, 1, 2, 3, 4, 5, 6, 7, 8, 9, 10, 11], [0, 0, 2, 7, 0, 0, 32, 127, 0, 0, 1023, 2047]), (2, [0, 1, 2, 3, 4, 5, 6, 7, 8, 9, 10, 11], [0, 1, 0, 4, 15, 0, 32, 0, 128, 511, 1023, 2047]), (3, [0, 1, 2, 3, 4, 5, 6, 7, 8, 9, 10, 11, 12, 13, 14], [0, 1, 0, 4, 15, 0, 32, 0, 128, 511, 0, 1024, 4095, 8191, 0])]) T_ok (Cons.cons con_constraint_at (Cons.cons con_vec2_Dot (Cons.cons con_fixed_Add (Cons.cons con_fixed_Mul (Cons.cons con_constraint_angularTerm (Cons.cons con_fixed_Div (Cons.nil _))))))) mixed (by kernel_rfl) ?_; repeat' (first | (with_reducible refine And.intro ?_ ?_) | (with_reducible intro h) | ((fail_if_success (with_reducible refine Leaf.mk ?_)); (fail_if_success (with_reducible refine VC.mk ?_)); (fail_if_success (with_reducible refine Goes.mk ?_)); (fail_if_success (with_reducible refine Again.mk ?_)); (fail_if_success (with_reducible refine Rounds.mk ?_)); (fail_if_success (with_reducible show False)); (fail_if_success (with_reducible show True)); conv => whnf)))
    all_goals try first | exact trivial | exact absurd h (by decide) | (refine VC.mk ?_; first | trivial | decide)
    all_goals try simp only [decide_eq_true_eq, decide_eq_false_iff_not, tkA, tkL, Nat.zero_add, Nat.reduceAdd, Int.toNat_natCast, List.take_nil, List.nil_append] at *
    all_goals try (exfalso; omega)
    all_goals (refine Leaf.mk ?_; unfold effM effK; simp only [at2, List.getD_cons_zero, List.getD_cons_succ, Nat.zero_add, Nat.reduceAdd] at *; first | (rw [if_pos (by assumption)]; done) | (rw [if_neg (by assumption)]; done) | (simp_all; done))
def c_ref28_EffectiveMass : Con := ⟨31, rowRun [.num 14, .rows 5] (fun l R => match l, R with | [ra, rb, nx, ny, aa, ab, em, bi, lo, up, so, im, fo, fr], [xs] => [] | _, _ => [False]) fun l R => match l, R with
  | [ra, rb, nx, ny, aa, ab, em, bi, lo, up, so, im, fo, fr], [xs] => .int .i64 (effM xs ra rb nx ny aa ab so)
  | _, _ => .any⟩
set_option maxRecDepth 100000 in
set_option maxHeartbeats 2000000 in
theorem con_ref28_EffectiveMass : c_ref28_EffectiveMass.Ok Try.prog := by
  refine con_rows (C := [c_ref28_at, c_ref03_Dot, c_ref01_Add, c_ref01_Mul, c_ref01_Div]) (pl := [(1, [0, 1, 2, 3, 4, 5, 6, 7, 8, 9, 10, 11], [0, 0, 2, 7, 0, 0, 32, 127, 0, 0, 1023, 2047]), (2, [0, 1, 2, 3, 4, 5, 6, 7, 8, 9, 10, 11], [0, 1, 0, 4, 15, 0, 32, 0, 128, 511, 1023, 2047]), (3, [0, 1, 2, 3, 4, 5, 6, 7, 8, 9, 10], [0, 0, 2, 0, 8, 30, 0, 64, 254, 511, 1023]), (4, [0, 1, 2, 3, 4, 5, 6, 7, 8, 9, 10], [0, 0, 2, 0, 8, 30, 0, 64, 254, 511, 1023])]) Try.func31 rfl (by kernel_rfl) T_ok (Cons.cons con_ref28_at (Cons.cons con_ref03_Dot (Cons.cons con_ref01_Add (Cons.cons con_ref01_Mul (Cons.cons con_ref01_Div (Cons.nil _)))))) mixed (by kernel_rfl) _ _ _ (fun l R hl hR hn hpre => ?_)
  match l, hl, R, hR with
  | [ra, rb, nx, ny, aa, ab, em, bi, lo, up, so, im, fo, fr], zl, [(true, xs)], zr =>
    clear zl zr
    obtain rfl : xs = [] := hn _ (List.Mem.head _) rfl
    repeat' (first | (with_reducible refine And.intro ?_ ?_) | (with_reducible intro h) | ((fail_if_success (with_reducible refine Leaf.mk ?_)); (fail_if_success (with_reducible refine VC.mk ?_)); (fail_if_success (with_reducible refine Goes.mk ?_)); (fail_if_success (with_reducible refine Again.mk ?_)); (fail_if_success (with_reducible refine Rounds.mk ?_)); (fail_if_success (with_reducible show False)); (fail_if_success (with_reducible show True)); conv => whnf))
    all_goals try simp only [decide_eq_true_eq, decide_eq_false_iff_not, tkA, tkL, Nat.zero_add, Nat.reduceAdd, Int.toNat_natCast, List.take_nil, List.nil_append] at *
    all_goals try first | exact trivial | (show False; omega) | exact Leaf.mk trivial | exact Leaf.mk rfl | (refine VC.mk ?_; first | trivial | assumption | ((try simp only [InR, decide_eq_true_eq, decide_eq_false_iff_not] at *); omega) | (simp; done))
    all_goals (refine Leaf.mk ?_; unfold effM effK; first | (rw [if_pos (by assumption)]; done) | (rw [if_neg (by assumption)]; done) | (simp_all; done))
  | [ra, rb, nx, ny, aa, ab, em, bi, lo, up, so, im, fo, fr], zl, [(false, xs)], zr =>
    clear zl zr
    repeat' (first | (with_reducible refine And.intro ?_ ?_) | (with_reducible intro h) | ((fail_if_success (with_reducible refine Leaf.mk ?_)); (fail_if_success (with_reducible refine VC.mk ?_)); (fail_if_success (with_reducible refine Goes.mk ?_)); (fail_if_success (with_reducible refine Again.mk ?_)); (fail_if_success (with_reducible refine Rounds.mk ?_)); (fail_if_success (with_reducible show False)); (fail_if_success (with_reducible show True)); conv => whnf))
    all_goals try simp only [decide_eq_true_eq, decide_eq_false_iff_not, tkA, tkL, Nat.zero_add, Nat.reduceAdd, Int.toNat_natCast, List.take_nil, List.nil_append] at *
    all_goals try first | exact trivial | (show False; omega) | exact Leaf.mk trivial | exact Leaf.mk rfl | (refine VC.mk ?_; first | trivial | assumption | ((try simp only [InR, decide_eq_true_eq, decide_eq_false_iff_not] at *); omega) | (simp; done))
    all_goals (refine Leaf.mk ?_; unfold effM effK; first | (rw [if_pos (by assumption)]; done) | (rw [if_neg (by assumption)]; done) | (simp_all; done))
def c_constraint_Correction : Con := ⟨29, pureRun [0, 0] (fun _ => []) fun | [c, d] => .int .i64 (corr c d) | _ => .any⟩
set_option maxRecDepth 100000 in
set_option maxHeartbeats 1000000 in
theorem con_constraint_Correction : c_constraint_Correction.Ok Try.prog := by
  refine con_pure (C := [c_fixed_Div, c_fixed_Mul, c_fixed_Clamp]) (pl := []) Try.func29 rfl (by kernel_rfl) T_ok (Cons.cons con_fixed_Div (Cons.cons con_fixed_Mul (Cons.cons con_fixed_Clamp (Cons.nil _)))) mixed (by kernel_rfl) _ _ _ (fun l hl hpre => ?_)
  match l, hl with
  | [c, d], _ =>
    repeat' (first | (with_reducible refine And.intro ?_ ?_) | (with_reducible intro h) | ((fail_if_success (with_reducible refine Leaf.mk ?_)); (fail_if_success (with_reducible refine VC.mk ?_)); (fail_if_success (with_reducible refine Goes.mk ?_)); (fail_if_success (with_reducible refine Again.mk ?_)); (fail_if_success (with_reducible refine Rounds.mk ?_)); (fail_if_success (with_reducible show False)); (fail_if_success (with_reducible show True)); conv => whnf))
    all_goals first | (refine VC.mk ?_; simp only [InR]; omega) | exact ⟨rfl⟩
def c_constraint_Bounds : Con := ⟨20, rowRun [.rows 14, .num 0] (fun l R => match l, R with | [i], [xs] => [xs.length ≤ 100000] | _, _ => [False]) fun l R => match l, R with
  | [i], [xs] => .tup [.int .i64 (bdL xs i), .int .i64 (bdU xs i)]
  | _, _ => .any⟩
set_option maxRecDepth 100000 in
set_option maxHeartbeats 2000000 in
theorem con_constraint_Bounds : c_constraint_Bounds.Ok Try.prog := by
  refine con_rows (C := [c_fixed_Mul]) (pl := [(5, [0, 1, 2, 3, 4, 5], [0, 1, 0, 4, 3, 31]), (6, [0, 1, 2, 3, 4, 5, 6, 7, 8, 9, 10], [0, 1, 0, 0, 8, 28, 60, 124, 255, 511, 1023])]) Try.func20 rfl (by kernel_rfl) T_ok (Cons.cons con_fixed_Mul (Cons.nil _)) mixed (by kernel_rfl) _ _ _ (fun l R hl hR hn hpre => ?_)
  match l, hl, R, hR with
  | [i], zl, [(true, xs)], zr =>
    clear zl zr
    obtain rfl : xs = [] := hn _ (List.Mem.head _) rfl
    have hp0 := hpre _ (List.Mem.head _); try dsimp only at hp0
    skip
    repeat' (first | (with_reducible refine And.intro ?_ ?_) | (with_reducible intro h) | ((fail_if_success (with_reducible refine Leaf.mk ?_)); (fail_if_success (with_reducible refine VC.mk ?_)); (fail_if_success (with_reducible refine Goes.mk ?_)); (fail_if_success (with_reducible refine Again.mk ?_)); (fail_if_success (with_reducible refine Rounds.mk ?_)); (fail_if_success (with_reducible show False)); (fail_if_success (with_reducible show True)); conv => whnf))
    all_goals try simp only [decide_eq_true_eq, decide_eq_false_iff_not, tkA, tkL, Nat.zero_add, Nat.reduceAdd, Int.toNat_natCast, List.take_nil, List.nil_append] at *
    all_goals try first | exact trivial | (show False; omega) | exact Leaf.mk trivial | exact Leaf.mk rfl | (refine VC.mk ?_; first | trivial | assumption | ((try simp only [InR, decide_eq_true_eq, decide_eq_false_iff_not] at *); omega) | (simp; done))
    all_goals try (have mb := mul_lo (at2 xs i.toNat 13) (at2 xs (at2 xs i.toNat 12).toNat 11); have mc := mul_hi (at2 xs i.toNat 13) (at2 xs (at2 xs i.toNat 12).toNat 11); refine VC.mk ?_; simp only [InR]; omega)
    all_goals (refine Leaf.mk ?_; first
      | (rw [(bd_out (by first | omega | (simp; omega))).1]; done) | (rw [(bd_out (by first | omega | (simp; omega))).2]; done)
      | (rw [(bd_own (by omega) (by omega) (by omega)).1]; done) | (rw [(bd_own (by omega) (by omega) (by omega)).2]; done)
      | (rw [(bd_fr (by omega) (by omega) (by omega) (by omega) (by omega)).1]; unfold frM; first | rfl | omega)
      | (rw [(bd_fr (by omega) (by omega) (by omega) (by omega) (by omega)).2]; unfold frM; first | rfl | omega))
  | [i], zl, [(false, xs)], zr =>
    clear zl zr
    have hp0 := hpre _ (List.Mem.head _); try dsimp only at hp0
    skip
    repeat' (first | (with_reducible refine And.intro ?_ ?_) | (with_reducible intro h) | ((fail_if_success (with_reducible refine Leaf.mk ?_)); (fail_if_success (with_reducible refine VC.mk ?_)); (fail_if_success (with_reducible refine Goes.mk ?_)); (fail_if_success (with_reducible refine Again.mk ?_)); (fail_if_success (with_reducible refine Rounds.mk ?_)); (fail_if_success (with_reducible show False)); (fail_if_success (with_reducible show True)); conv => whnf))
    all_goals try simp only [decide_eq_true_eq, decide_eq_false_iff_not, tkA, tkL, Nat.zero_add, Nat.reduceAdd, Int.toNat_natCast, List.take_nil, List.nil_append] at *
    all_goals try first | exact trivial | (show False; omega) | exact Leaf.mk trivial | exact Leaf.mk rfl | (refine VC.mk ?_; first | trivial | assumption | ((try simp only [InR, decide_eq_true_eq, decide_eq_false_iff_not] at *); omega) | (simp; done))
    all_goals try (have mb := mul_lo (at2 xs i.toNat 13) (at2 xs (at2 xs i.toNat 12).toNat 11); have mc := mul_hi (at2 xs i.toNat 13) (at2 xs (at2 xs i.toNat 12).toNat 11); refine VC.mk ?_; simp only [InR]; omega)
    all_goals (refine Leaf.mk ?_; first
      | (rw [(bd_out (by first | omega | (simp; omega))).1]; done) | (rw [(bd_out (by first | omega | (simp; omega))).2]; done)
      | (rw [(bd_own (by omega) (by omega) (by omega)).1]; done) | (rw [(bd_own (by omega) (by omega) (by omega)).2]; done)
      | (rw [(bd_fr (by omega) (by omega) (by omega) (by omega) (by omega)).1]; unfold frM; first | rfl | omega)
      | (rw [(bd_fr (by omega) (by omega) (by omega) (by omega) (by omega)).2]; unfold frM; first | rfl | omega))
def c_ref28_Correction : Con := ⟨32, pureRun [0, 0] (fun _ => []) fun | [c, d] => .int .i64 (corr c d) | _ => .any⟩
set_option maxRecDepth 100000 in
set_option maxHeartbeats 1000000 in
theorem con_ref28_Correction : c_ref28_Correction.Ok Try.prog := by
  refine con_pure (C := [c_ref01_Div, c_ref01_Mul, c_ref01_Clamp]) (pl := []) Try.func32 rfl (by kernel_rfl) T_ok (Cons.cons con_ref01_Div (Cons.cons con_ref01_Mul (Cons.cons con_ref01_Clamp (Cons.nil _)))) mixed (by kernel_rfl) _ _ _ (fun l hl hpre => ?_)
  match l, hl with
  | [c, d], _ =>
    repeat' (first | (with_reducible refine And.intro ?_ ?_) | (with_reducible intro h) | ((fail_if_success (with_reducible refine Leaf.mk ?_)); (fail_if_success (with_reducible refine VC.mk ?_)); (fail_if_success (with_reducible refine Goes.mk ?_)); (fail_if_success (with_reducible refine Again.mk ?_)); (fail_if_success (with_reducible refine Rounds.mk ?_)); (fail_if_success (with_reducible show False)); (fail_if_success (with_reducible show True)); conv => whnf))
    all_goals first | (refine VC.mk ?_; simp only [InR]; omega) | exact ⟨rfl⟩
def c_ref28_Bounds : Con := ⟨22, rowRun [.rows 14, .num 0] (fun l R => match l, R with | [i], [xs] => [xs.length ≤ 100000] | _, _ => [False]) fun l R => match l, R with
  | [i], [xs] => .tup [.int .i64 (bdL xs i), .int .i64 (bdU xs i)]
  | _, _ => .any⟩
set_option maxRecDepth 100000 in
set_option maxHeartbeats 2000000 in
theorem con_ref28_Bounds : c_ref28_Bounds.Ok Try.prog := by
  refine con_rows (C := [c_ref01_Mul]) (pl := [(5, [0, 1, 2, 3, 4, 5], [0, 1, 0, 4, 3, 31]), (6, [0, 1, 2, 3, 4, 5, 6, 7, 8, 9, 10], [0, 1, 0, 0, 8, 28, 60, 124, 255, 511, 1023])]) Try.func22 rfl (by kernel_rfl) T_ok (Cons.cons con_ref01_Mul (Cons.nil _)) mixed (by kernel_rfl) _ _ _ (fun l R hl hR hn hpre => ?_)
  match l, hl, R, hR with
  | [i], zl, [(true, xs)], zr =>
    clear zl zr
    obtain rfl : xs = [] := hn _ (List.Mem.head _) rfl
    have hp0 := hpre _ (List.Mem.head _); try dsimp only at hp0
    skip
    repeat' (first | (with_reducible refine And.intro ?_ ?_) | (with_reducible intro h) | ((fail_if_success (with_reducible refine Leaf.mk ?_)); (fail_if_success (with_reducible refine VC.mk ?_)); (fail_if_success (with_reducible refine Goes.mk ?_)); (fail_if_success (with_reducible refine Again.mk ?_)); (fail_if_success (with_reducible refine Rounds.mk ?_)); (fail_if_success (with_reducible show False)); (fail_if_success (with_reducible show True)); conv => whnf))
    all_goals try simp only [decide_eq_true_eq, decide_eq_false_iff_not, tkA, tkL, Nat.zero_add, Nat.reduceAdd, Int.toNat_natCast, List.take_nil, List.nil_append] at *
    all_goals try first | exact trivial | (show False; omega) | exact Leaf.mk trivial | exact Leaf.mk rfl | (refine VC.mk ?_; first | trivial | assumption | ((try simp only [InR, decide_eq_true_eq, decide_eq_false_iff_not] at *); omega) | (simp; done))
    all_goals try (have mb := mul_lo (at2 xs i.toNat 13) (at2 xs (at2 xs i.toNat 12).toNat 11); have mc := mul_hi (at2 xs i.toNat 13) (at2 xs (at2 xs i.toNat 12).toNat 11); refine VC.mk ?_; simp only [InR]; omega)
    all_goals (refine Leaf.mk ?_; first
      | (rw [(bd_out (by first | omega | (simp; omega))).1]; done) | (rw [(bd_out (by first | omega | (simp; omega))).2]; done)
      | (rw [(bd_own (by omega) (by omega) (by omega)).1]; done) | (rw [(bd_own (by omega) (by omega) (by omega)).2]; done)
      | (rw [(bd_fr (by omega) (by omega) (by omega) (by omega) (by omega)).1]; unfold frM; first | rfl | omega)
      | (rw [(bd_fr (by omega) (by omega) (by omega) (by omega) (by omega)).2]; unfold frM; first | rfl | omega))
  | [i], zl, [(false, xs)], zr =>
    clear zl zr
    have hp0 := hpre _ (List.Mem.head _); try dsimp only at hp0
    skip
    repeat' (first | (with_reducible refine And.intro ?_ ?_) | (with_reducible intro h) | ((fail_if_success (with_reducible refine Leaf.mk ?_)); (fail_if_success (with_reducible refine VC.mk ?_)); (fail_if_success (with_reducible refine Goes.mk ?_)); (fail_if_success (with_reducible refine Again.mk ?_)); (fail_if_success (with_reducible refine Rounds.mk ?_)); (fail_if_success (with_reducible show False)); (fail_if_success (with_reducible show True)); conv => whnf))
    all_goals try simp only [decide_eq_true_eq, decide_eq_false_iff_not, tkA, tkL, Nat.zero_add, Nat.reduceAdd, Int.toNat_natCast, List.take_nil, List.nil_append] at *
    all_goals try first | exact trivial | (show False; omega) | exact Leaf.mk trivial | exact Leaf.mk rfl | (refine VC.mk ?_; first | trivial | assumption | ((try simp only [InR, decide_eq_true_eq, decide_eq_false_iff_not] at *); omega) | (simp; done))
    all_goals try (have mb := mul_lo (at2 xs i.toNat 13) (at2 xs (at2 xs i.toNat 12).toNat 11); have mc := mul_hi (at2 xs i.toNat 13) (at2 xs (at2 xs i.toNat 12).toNat 11); refine VC.mk ?_; simp only [InR]; omega)
    all_goals (refine Leaf.mk ?_; first
      | (rw [(bd_out (by first | omega | (simp; omega))).1]; done) | (rw [(bd_out (by first | omega | (simp; omega))).2]; done)
      | (rw [(bd_own (by omega) (by omega) (by omega)).1]; done) | (rw [(bd_own (by omega) (by omega) (by omega)).2]; done)
      | (rw [(bd_fr (by omega) (by omega) (by omega) (by omega) (by omega)).1]; unfold frM; first | rfl | omega)
      | (rw [(bd_fr (by omega) (by omega) (by omega) (by omega) (by omega)).2]; unfold frM; first | rfl | omega))
end Go.Proofs.Ytapbegcmdiemoaa
