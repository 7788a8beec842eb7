/- Contracts of package clip and of caromref15: edges. -/
import Derived.Test.YthbighklfajmdaaH1
namespace Go.Proofs.Ythbighklfajmdaa
open Go.RowKit Fx Vx Bx Ev
set_option linter.unusedVariables false
set_option linter.unusedSimpArgs false


def teO (xs : List (List Int)) (i : Int) (ys : List (List Int)) (k : Int) : Bool := decide (2 ≤ xs.length) && decide (2 ≤ ys.length) && decide (0 ≤ i) && decide (i < xs.length) && decide (0 ≤ k) && decide (k < ys.length)
def te0 (ys : List (List Int)) (k : Int) : List (List Int) := [[at2 ys k.toNat 0, at2 ys k.toNat 1, 0], [at2 ys ((k + 1).tmod ys.length).toNat 0, at2 ys ((k + 1).tmod ys.length).toNat 1, 1]]
def te1 (xs : List (List Int)) (i : Int) (ys : List (List Int)) (k : Int) : List (List Int) := hpR (te0 ys k) (at2 xs ((i + 1).tmod xs.length).toNat 0) (at2 xs ((i + 1).tmod xs.length).toNat 1) (edX xs i) (edY xs i)
def teN (xs : List (List Int)) (i : Int) (ys : List (List Int)) (k : Int) : Bool := !teO xs i ys k || hpN (te1 xs i ys k) (at2 xs i.toNat 0) (at2 xs i.toNat 1) (-edX xs i) (-edY xs i)
def teR (xs : List (List Int)) (i : Int) (ys : List (List Int)) (k : Int) : List (List Int) := if teO xs i ys k then hpR (te1 xs i ys k) (at2 xs i.toNat 0) (at2 xs i.toNat 1) (-edX xs i) (-edY xs i) else []
theorem te_out {xs : List (List Int)} {i : Int} {ys : List (List Int)} {k : Int} (h : (xs.length : Int) < 2 ∨ (ys.length : Int) < 2 ∨ i < 0 ∨ k < 0 ∨ (xs.length : Int) ≤ i ∨ (ys.length : Int) ≤ k) : teN xs i ys k = true ∧ teR xs i ys k = [] := by
  have e : teO xs i ys k = false := by
    cases e : teO xs i ys k
    · rfl
    · simp only [teO, Bool.and_eq_true, decide_eq_true_eq] at e; omega
  exact ⟨by simp [teN, e], by simp [teR, e]⟩
theorem te_in {xs : List (List Int)} {i : Int} {ys : List (List Int)} {k : Int} (h : ¬ ((xs.length : Int) < 2 ∨ (ys.length : Int) < 2 ∨ i < 0 ∨ k < 0 ∨ (xs.length : Int) ≤ i ∨ (ys.length : Int) ≤ k)) : teN xs i ys k = hpN (te1 xs i ys k) (at2 xs i.toNat 0) (at2 xs i.toNat 1) (-edX xs i) (-edY xs i) ∧ teR xs i ys k = hpR (te1 xs i ys k) (at2 xs i.toNat 0) (at2 xs i.toNat 1) (-edX xs i) (-edY xs i) := by
  have e : teO xs i ys k = true := by simp only [teO, Bool.and_eq_true, decide_eq_true_eq]; omega
  exact ⟨by simp [teN, e], by simp [teR, e]⟩
theorem mul_m1 {x : Int} (h : -536870911 ≤ x) (h' : x ≤ 536870911) : mul x (-65536) = -x := by
  have h1 : mul x (- 65536) = - mul x 65536 := by
    unfold mul
    rw [sat_neg, Int.mul_neg, rd_neg, sat_neg]
  rw [h1, mul_one, sat_id h h']
theorem ed_bd (xs : List (List Int)) (i : Int) : -536870911 ≤ edX xs i ∧ edX xs i ≤ 536870911 ∧ -536870911 ≤ edY xs i ∧ edY xs i ≤ 536870911 := by
  unfold edX edY norm
  split
  · split
    · omega
    · have := dv_bd (edgC xs i 0) (len (edgC xs i 0) (edgC xs i 1)); have := dv_bd (edgC xs i 1) (len (edgC xs i 0) (edgC xs i 1)); omega
  · omega
theorem tk2r (a b : List Int) : List.take 2 [a, b] = [a, b] := rfl
theorem te1_len (xs : List (List Int)) (i : Int) (ys : List (List Int)) (k : Int) : (te1 xs i ys k).length ≤ 2 := hpR_len _ _ _ _ _
theorem ed_m1 (xs : List (List Int)) (i : Int) : mul (edX xs i) (-65536) = -edX xs i ∧ mul (edY xs i) (-65536) = -edY xs i := by
  have := ed_bd xs i
  exact ⟨mul_m1 (by omega) (by omega), mul_m1 (by omega) (by omega)⟩

def c_clip_ToEdge : Con := ⟨39, genRun [.rows 2, .num 0, .rows 2, .num 0] (fun l R => match l, R with | [i, k], [(bxs, xs), (bys, ys)] => [xs.length ≤ 100000, ys.length ≤ 100000] | _, _ => [False]) fun l R => match l, R with
  | [i, k], [(bxs, xs), (bys, ys)] => [.rows (teN xs i ys k) 3 (teR xs i ys k)]
  | _, _ => []⟩
set_option maxRecDepth 100000 in
set_option maxHeartbeats 4000000 in
theorem con_clip_ToEdge : c_clip_ToEdge.Ok Try.prog := by
  refine con_gen (C := [c_sat_EdgeDirection, c_clip_HalfPlane, c_vec2_Scale]) (pl := [(4, [0, 1, 2, 3, 4, 5, 6, 7, 8, 9, 10, 11, 12, 13, 14, 15], [0, 0, 3, 7, 15, 0, 0, 64, 0, 256, 960, 2016, 4064, 8160, 16383, 32767]), (5, [0, 1, 2, 3, 4, 5, 6, 7, 8, 9, 10, 11], [0, 0, 0, 4, 0, 16, 60, 126, 254, 0, 1023, 2047]), (6, [0, 1, 2, 3, 4, 5, 6, 7, 8], [0, 0, 0, 6, 14, 0, 32, 127, 255])]) Try.func39 rfl (by kernel_rfl) T_ok (Cons.cons con_sat_EdgeDirection (Cons.cons con_clip_HalfPlane (Cons.cons con_vec2_Scale (Cons.nil _)))) mixed (by kernel_rfl) _ _ _ (fun l R hl hR hn hpre => ?_)
  match l, hl, R, hR with
  | [i, k], zl, [(true, xs), (true, ys)], zr =>
    clear zl zr
    obtain rfl : xs = [] := hn _ (List.Mem.head _) rfl
    obtain rfl : ys = [] := hn _ (List.Mem.tail _ (List.Mem.head _)) rfl
    have hp0 := hpre _ (List.Mem.head _); try dsimp only at hp0
    have hp1 := hpre _ (List.Mem.tail _ (List.Mem.head _)); try dsimp only at hp1
    repeat' (first | (with_reducible refine And.intro ?_ ?_) | (with_reducible intro h) | ((fail_if_success (with_reducible refine Leaf.mk ?_)); (fail_if_success (with_reducible refine VC.mk ?_)); (fail_if_success (with_reducible refine Goes.mk ?_)); (fail_if_success (with_reducible refine Again.mk ?_)); (fail_if_success (with_reducible refine Rounds.mk ?_)); (fail_if_success (with_reducible show False)); (fail_if_success (with_reducible show True)); conv => whnf))
    all_goals try simp only [decide_eq_true_eq, decide_eq_false_iff_not, Bool.not_eq_true', Bool.not_eq_false', Bool.and_eq_true, tkA, Nat.zero_add, Nat.reduceAdd, Int.toNat_natCast, List.take_nil, List.nil_append, List.length_nil] at *
    all_goals try simp only [List.drop_zero, List.take_length, tk2r, (ed_m1 [] i).1, (ed_m1 [] i).2] at *
    all_goals try first | exact trivial | (show False; omega) | exact Leaf.mk trivial | exact Leaf.mk rfl | (refine VC.mk ?_; first | trivial | assumption | ((try simp only [InR, decide_eq_true_eq, decide_eq_false_iff_not] at *); omega) | (simp; done))
    all_goals try (have tb := tmod_bd (i := i + 1) (n := [].length) (by omega) (by omega); have tc := tmod_bd (i := k + 1) (n := [].length) (by omega) (by omega); refine VC.mk ?_; first | omega | (simp only [InR]; omega))
    all_goals try (have eb := ed_bd [] i; refine VC.mk ?_; simp only [InR]; omega)
    all_goals try (have e0 : [[at2 [] k.toNat 0, at2 [] k.toNat 1, 0], [at2 [] ((k + 1).tmod [].length).toNat 0, at2 [] ((k + 1).tmod [].length).toNat 1, 1]] = te0 [] k := rfl
                   have e1 : hpR (te0 [] k) (at2 [] ((i + 1).tmod [].length).toNat 0) (at2 [] ((i + 1).tmod [].length).toNat 1) (edX [] i) (edY [] i) = te1 [] i [] k := rfl
                   simp only [e0, e1] at *)
    all_goals try (have q := te1_len [] i [] k; refine VC.mk ?_; first | omega | (intro hh; rw [(te_in (by omega)).1] at hh; exact hh) | (refine ⟨?_, by simp⟩; generalize hpN _ _ _ _ _ = bb; cases bb <;> simp))
    all_goals (refine Leaf.mk ?_; first
      | (rw [(te_out (by first | omega | (simp only [List.length_nil]; omega))).1]; done)
      | (rw [(te_out (by first | omega | (simp only [List.length_nil]; omega))).2]; done)
      | (rw [(te_in (by omega)).1]; done)
      | (rw [(te_in (by omega)).2]; done))
  | [i, k], zl, [(true, xs), (false, ys)], zr =>
    clear zl zr
    obtain rfl : xs = [] := hn _ (List.Mem.head _) rfl
    have hp0 := hpre _ (List.Mem.head _); try dsimp only at hp0
    have hp1 := hpre _ (List.Mem.tail _ (List.Mem.head _)); try dsimp only at hp1
    repeat' (first | (with_reducible refine And.intro ?_ ?_) | (with_reducible intro h) | ((fail_if_success (with_reducible refine Leaf.mk ?_)); (fail_if_success (with_reducible refine VC.mk ?_)); (fail_if_success (with_reducible refine Goes.mk ?_)); (fail_if_success (with_reducible refine Again.mk ?_)); (fail_if_success (with_reducible refine Rounds.mk ?_)); (fail_if_success (with_reducible show False)); (fail_if_success (with_reducible show True)); conv => whnf))
    all_goals try simp only [decide_eq_true_eq, decide_eq_false_iff_not, Bool.not_eq_true', Bool.not_eq_false', Bool.and_eq_true, tkA, Nat.zero_add, Nat.reduceAdd, Int.toNat_natCast, List.take_nil, List.nil_append, List.length_nil] at *
    all_goals try simp only [List.drop_zero, List.take_length, tk2r, (ed_m1 [] i).1, (ed_m1 [] i).2] at *
    all_goals try first | exact trivial | (show False; omega) | exact Leaf.mk trivial | exact Leaf.mk rfl | (refine VC.mk ?_; first | trivial | assumption | ((try simp only [InR, decide_eq_true_eq, decide_eq_false_iff_not] at *); omega) | (simp; done))
    all_goals try (have tb := tmod_bd (i := i + 1) (n := [].length) (by omega) (by omega); have tc := tmod_bd (i := k + 1) (n := ys.length) (by omega) (by omega); refine VC.mk ?_; first | omega | (simp only [InR]; omega))
    all_goals try (have eb := ed_bd [] i; refine VC.mk ?_; simp only [InR]; omega)
    all_goals try (have e0 : [[at2 ys k.toNat 0, at2 ys k.toNat 1, 0], [at2 ys ((k + 1).tmod ys.length).toNat 0, at2 ys ((k + 1).tmod ys.length).toNat 1, 1]] = te0 ys k := rfl
                   have e1 : hpR (te0 ys k) (at2 [] ((i + 1).tmod [].length).toNat 0) (at2 [] ((i + 1).tmod [].length).toNat 1) (edX [] i) (edY [] i) = te1 [] i ys k := rfl
                   simp only [e0, e1] at *)
    all_goals try (have q := te1_len [] i ys k; refine VC.mk ?_; first | omega | (intro hh; rw [(te_in (by omega)).1] at hh; exact hh) | (refine ⟨?_, by simp⟩; generalize hpN _ _ _ _ _ = bb; cases bb <;> simp))
    all_goals (refine Leaf.mk ?_; first
      | (rw [(te_out (by first | omega | (simp only [List.length_nil]; omega))).1]; done)
      | (rw [(te_out (by first | omega | (simp only [List.length_nil]; omega))).2]; done)
      | (rw [(te_in (by omega)).1]; done)
      | (rw [(te_in (by omega)).2]; done))
  | [i, k], zl, [(false, xs), (true, ys)], zr =>
    clear zl zr
    obtain rfl : ys = [] := hn _ (List.Mem.tail _ (List.Mem.head _)) rfl
    have hp0 := hpre _ (List.Mem.head _); try dsimp only at hp0
    have hp1 := hpre _ (List.Mem.tail _ (List.Mem.head _)); try dsimp only at hp1
    repeat' (first | (with_reducible refine And.intro ?_ ?_) | (with_reducible intro h) | ((fail_if_success (with_reducible refine Leaf.mk ?_)); (fail_if_success (with_reducible refine VC.mk ?_)); (fail_if_success (with_reducible refine Goes.mk ?_)); (fail_if_success (with_reducible refine Again.mk ?_)); (fail_if_success (with_reducible refine Rounds.mk ?_)); (fail_if_success (with_reducible show False)); (fail_if_success (with_reducible show True)); conv => whnf))
    all_goals try simp only [decide_eq_true_eq, decide_eq_false_iff_not, Bool.not_eq_true', Bool.not_eq_false', Bool.and_eq_true, tkA, Nat.zero_add, Nat.reduceAdd, Int.toNat_natCast, List.take_nil, List.nil_append, List.length_nil] at *
    all_goals try simp only [List.drop_zero, List.take_length, tk2r, (ed_m1 xs i).1, (ed_m1 xs i).2] at *
    all_goals try first | exact trivial | (show False; omega) | exact Leaf.mk trivial | exact Leaf.mk rfl | (refine VC.mk ?_; first | trivial | assumption | ((try simp only [InR, decide_eq_true_eq, decide_eq_false_iff_not] at *); omega) | (simp; done))
    all_goals try (have tb := tmod_bd (i := i + 1) (n := xs.length) (by omega) (by omega); have tc := tmod_bd (i := k + 1) (n := [].length) (by omega) (by omega); refine VC.mk ?_; first | omega | (simp only [InR]; omega))
    all_goals try (have eb := ed_bd xs i; refine VC.mk ?_; simp only [InR]; omega)
    all_goals try (have e0 : [[at2 [] k.toNat 0, at2 [] k.toNat 1, 0], [at2 [] ((k + 1).tmod [].length).toNat 0, at2 [] ((k + 1).tmod [].length).toNat 1, 1]] = te0 [] k := rfl
                   have e1 : hpR (te0 [] k) (at2 xs ((i + 1).tmod xs.length).toNat 0) (at2 xs ((i + 1).tmod xs.length).toNat 1) (edX xs i) (edY xs i) = te1 xs i [] k := rfl
                   simp only [e0, e1] at *)
    all_goals try (have q := te1_len xs i [] k; refine VC.mk ?_; first | omega | (intro hh; rw [(te_in (by omega)).1] at hh; exact hh) | (refine ⟨?_, by simp⟩; generalize hpN _ _ _ _ _ = bb; cases bb <;> simp))
    all_goals (refine Leaf.mk ?_; first
      | (rw [(te_out (by first | omega | (simp only [List.length_nil]; omega))).1]; done)
      | (rw [(te_out (by first | omega | (simp only [List.length_nil]; omega))).2]; done)
      | (rw [(te_in (by omega)).1]; done)
      | (rw [(te_in (by omega)).2]; done))
  | [i, k], zl, [(false, xs), (false, ys)], zr =>
    clear zl zr
    have hp0 := hpre _ (List.Mem.head _); try dsimp only at hp0
    have hp1 := hpre _ (List.Mem.tail _ (List.Mem.head _)); try dsimp only at hp1
    repeat' (first | (with_reducible refine And.intro ?_ ?_) | (with_reducible intro h) | ((fail_if_success (with_reducible refine Leaf.mk ?_)); (fail_if_success (with_reducible refine VC.mk ?_)); (fail_if_success (with_reducible refine Goes.mk ?_)); (fail_if_success (with_reducible refine Again.mk ?_)); (fail_if_success (with_reducible refine Rounds.mk ?_)); (fail_if_success (with_reducible show False)); (fail_if_success (with_reducible show True)); conv => whnf))
    all_goals try simp only [decide_eq_true_eq, decide_eq_false_iff_not, Bool.not_eq_true', Bool.not_eq_false', Bool.and_eq_true, tkA, Nat.zero_add, Nat.reduceAdd, Int.toNat_natCast, List.take_nil, List.nil_append, List.length_nil] at *
    all_goals try simp only [List.drop_zero, List.take_length, tk2r, (ed_m1 xs i).1, (ed_m1 xs i).2] at *
    all_goals try first | exact trivial | (show False; omega) | exact Leaf.mk trivial | exact Leaf.mk rfl | (refine VC.mk ?_; first | trivial | assumption | ((try simp only [InR, decide_eq_true_eq, decide_eq_false_iff_not] at *); omega) | (simp; done))
    all_goals try (have tb := tmod_bd (i := i + 1) (n := xs.length) (by omega) (by omega); have tc := tmod_bd (i := k + 1) (n := ys.length) (by omega) (by omega); refine VC.mk ?_; first | omega | (simp only [InR]; omega))
    all_goals try (have eb := ed_bd xs i; refine VC.mk ?_; simp only [InR]; omega)
    all_goals try (have e0 : [[at2 ys k.toNat 0, at2 ys k.toNat 1, 0], [at2 ys ((k + 1).tmod ys.length).toNat 0, at2 ys ((k + 1).tmod ys.length).toNat 1, 1]] = te0 ys k := rfl
                   have e1 : hpR (te0 ys k) (at2 xs ((i + 1).tmod xs.length).toNat 0) (at2 xs ((i + 1).tmod xs.length).toNat 1) (edX xs i) (edY xs i) = te1 xs i ys k := rfl
                   simp only [e0, e1] at *)
    all_goals try (have q := te1_len xs i ys k; refine VC.mk ?_; first | omega | (intro hh; rw [(te_in (by omega)).1] at hh; exact hh) | (refine ⟨?_, by simp⟩; generalize hpN _ _ _ _ _ = bb; cases bb <;> simp))
    all_goals (refine Leaf.mk ?_; first
      | (rw [(te_out (by first | omega | (simp only [List.length_nil]; omega))).1]; done)
      | (rw [(te_out (by first | omega | (simp only [List.length_nil]; omega))).2]; done)
      | (rw [(te_in (by omega)).1]; done)
      | (rw [(te_in (by omega)).2]; done))
def c_ref15_ToEdge : Con := ⟨40, genRun [.rows 2, .num 0, .rows 2, .num 0] (fun l R => match l, R with | [i, k], [(bxs, xs), (bys, ys)] => [xs.length ≤ 100000, ys.length ≤ 100000] | _, _ => [False]) fun l R => match l, R with
  | [i, k], [(bxs, xs), (bys, ys)] => [.rows (teN xs i ys k) 3 (teR xs i ys k)]
  | _, _ => []⟩
set_option maxRecDepth 100000 in
set_option maxHeartbeats 4000000 in
theorem con_ref15_ToEdge : c_ref15_ToEdge.Ok Try.prog := by
  refine con_gen (C := [c_ref14_EdgeDirection, c_ref15_HalfPlane]) (pl := [(3, [0, 1, 2, 3, 4, 5, 6, 7, 8, 9, 10, 11, 12, 13, 14, 15], [0, 0, 3, 7, 15, 0, 0, 64, 0, 256, 960, 2016, 4064, 8160, 16383, 32767]), (5, [0, 1, 2, 3, 4, 5, 6, 7, 8, 9, 10, 11, 12, 13, 14, 15, 16, 17, 18, 19, 20, 21, 22, 23], [0, 0, 0, 4, 0, 16, 60, 126, 254, 0, 1023, 0, 0, 6144, 14336, 0, 32768, 98304, 0, 262144, 786432, 2064384, 4194303, 8388607])]) Try.func40 rfl (by kernel_rfl) T_ok (Cons.cons con_ref14_EdgeDirection (Cons.cons con_ref15_HalfPlane (Cons.nil _))) mixed (by kernel_rfl) _ _ _ (fun l R hl hR hn hpre => ?_)
  match l, hl, R, hR with
  | [i, k], zl, [(true, xs), (true, ys)], zr =>
    clear zl zr
    obtain rfl : xs = [] := hn _ (List.Mem.head _) rfl
    obtain rfl : ys = [] := hn _ (List.Mem.tail _ (List.Mem.head _)) rfl
    have hp0 := hpre _ (List.Mem.head _); try dsimp only at hp0
    have hp1 := hpre _ (List.Mem.tail _ (List.Mem.head _)); try dsimp only at hp1
    repeat' (first | (with_reducible refine And.intro ?_ ?_) | (with_reducible intro h) | ((fail_if_success (with_reducible refine Leaf.mk ?_)); (fail_if_success (with_reducible refine VC.mk ?_)); (fail_if_success (with_reducible refine Goes.mk ?_)); (fail_if_success (with_reducible refine Again.mk ?_)); (fail_if_success (with_reducible refine Rounds.mk ?_)); (fail_if_success (with_reducible show False)); (fail_if_success (with_reducible show True)); conv => whnf))
    all_goals try simp only [decide_eq_true_eq, decide_eq_false_iff_not, Bool.not_eq_true', Bool.not_eq_false', Bool.and_eq_true, tkA, Nat.zero_add, Nat.reduceAdd, Int.toNat_natCast, List.take_nil, List.nil_append, List.length_nil] at *
    all_goals try simp only [List.drop_zero, List.take_length, tk2r, (ed_m1 [] i).1, (ed_m1 [] i).2] at *
    all_goals try first | exact trivial | (show False; omega) | exact Leaf.mk trivial | exact Leaf.mk rfl | (refine VC.mk ?_; first | trivial | assumption | ((try simp only [InR, decide_eq_true_eq, decide_eq_false_iff_not] at *); omega) | (simp; done))
    all_goals try (have tb := tmod_bd (i := i + 1) (n := [].length) (by omega) (by omega); have tc := tmod_bd (i := k + 1) (n := [].length) (by omega) (by omega); refine VC.mk ?_; first | omega | (simp only [InR]; omega))
    all_goals try (have eb := ed_bd [] i; refine VC.mk ?_; simp only [InR]; omega)
    all_goals try (have e0 : [[at2 [] k.toNat 0, at2 [] k.toNat 1, 0], [at2 [] ((k + 1).tmod [].length).toNat 0, at2 [] ((k + 1).tmod [].length).toNat 1, 1]] = te0 [] k := rfl
                   have e1 : hpR (te0 [] k) (at2 [] ((i + 1).tmod [].length).toNat 0) (at2 [] ((i + 1).tmod [].length).toNat 1) (edX [] i) (edY [] i) = te1 [] i [] k := rfl
                   simp only [e0, e1] at *)
    all_goals try (have q := te1_len [] i [] k; refine VC.mk ?_; first | omega | (intro hh; rw [(te_in (by omega)).1] at hh; exact hh) | (refine ⟨?_, by simp⟩; generalize hpN _ _ _ _ _ = bb; cases bb <;> simp))
    all_goals (refine Leaf.mk ?_; first
      | (rw [(te_out (by first | omega | (simp only [List.length_nil]; omega))).1]; done)
      | (rw [(te_out (by first | omega | (simp only [List.length_nil]; omega))).2]; done)
      | (rw [(te_in (by omega)).1]; done)
      | (rw [(te_in (by omega)).2]; done))
  | [i, k], zl, [(true, xs), (false, ys)], zr =>
    clear zl zr
    obtain rfl : xs = [] := hn _ (List.Mem.head _) rfl
    have hp0 := hpre _ (List.Mem.head _); try dsimp only at hp0
    have hp1 := hpre _ (List.Mem.tail _ (List.Mem.head _)); try dsimp only at hp1
    repeat' (first | (with_reducible refine And.intro ?_ ?_) | (with_reducible intro h) | ((fail_if_success (with_reducible refine Leaf.mk ?_)); (fail_if_success (with_reducible refine VC.mk ?_)); (fail_if_success (with_reducible refine Goes.mk ?_)); (fail_if_success (with_reducible refine Again.mk ?_)); (fail_if_success (with_reducible refine Rounds.mk ?_)); (fail_if_success (with_reducible show False)); (fail_if_success (with_reducible show True)); conv => whnf))
    all_goals try simp only [decide_eq_true_eq, decide_eq_false_iff_not, Bool.not_eq_true', Bool.not_eq_false', Bool.and_eq_true, tkA, Nat.zero_add, Nat.reduceAdd, Int.toNat_natCast, List.take_nil, List.nil_append, List.length_nil] at *
    all_goals try simp only [List.drop_zero, List.take_length, tk2r, (ed_m1 [] i).1, (ed_m1 [] i).2] at *
    all_goals try first | exact trivial | (show False; omega) | exact Leaf.mk trivial | exact Leaf.mk rfl | (refine VC.mk ?_; first | trivial | assumption | ((try simp only [InR, decide_eq_true_eq, decide_eq_false_iff_not] at *); omega) | (simp; done))
    all_goals try (have tb := tmod_bd (i := i + 1) (n := [].length) (by omega) (by omega); have tc := tmod_bd (i := k + 1) (n := ys.length) (by omega) (by omega); refine VC.mk ?_; first | omega | (simp only [InR]; omega))
    all_goals try (have eb := ed_bd [] i; refine VC.mk ?_; simp only [InR]; omega)
    all_goals try (have e0 : [[at2 ys k.toNat 0, at2 ys k.toNat 1, 0], [at2 ys ((k + 1).tmod ys.length).toNat 0, at2 ys ((k + 1).tmod ys.length).toNat 1, 1]] = te0 ys k := rfl
                   have e1 : hpR (te0 ys k) (at2 [] ((i + 1).tmod [].length).toNat 0) (at2 [] ((i + 1).tmod [].length).toNat 1) (edX [] i) (edY [] i) = te1 [] i ys k := rfl
                   simp only [e0, e1] at *)
    all_goals try (have q := te1_len [] i ys k; refine VC.mk ?_; first | omega | (intro hh; rw [(te_in (by omega)).1] at hh; exact hh) | (refine ⟨?_, by simp⟩; generalize hpN _ _ _ _ _ = bb; cases bb <;> simp))
    all_goals (refine Leaf.mk ?_; first
      | (rw [(te_out (by first | omega | (simp only [List.length_nil]; omega))).1]; done)
      | (rw [(te_out (by first | omega | (simp only [List.length_nil]; omega))).2]; done)
      | (rw [(te_in (by omega)).1]; done)
      | (rw [(te_in (by omega)).2]; done))
  | [i, k], zl, [(false, xs), (true, ys)], zr =>
    clear zl zr
    obtain rfl : ys = [] := hn _ (List.Mem.tail _ (List.Mem.head _)) rfl
    have hp0 := hpre _ (List.Mem.head _); try dsimp only at hp0
    have hp1 := hpre _ (List.Mem.tail _ (List.Mem.head _)); try dsimp only at hp1
    repeat' (first | (with_reducible refine And.intro ?_ ?_) | (with_reducible intro h) | ((fail_if_success (with_reducible refine Leaf.mk ?_)); (fail_if_success (with_reducible refine VC.mk ?_)); (fail_if_success (with_reducible refine Goes.mk ?_)); (fail_if_success (with_reducible refine Again.mk ?_)); (fail_if_success (with_reducible refine Rounds.mk ?_)); (fail_if_success (with_reducible show False)); (fail_if_success (with_reducible show True)); conv => whnf))
    all_goals try simp only [decide_eq_true_eq, decide_eq_false_iff_not, Bool.not_eq_true', Bool.not_eq_false', Bool.and_eq_true, tkA, Nat.zero_add, Nat.reduceAdd, Int.toNat_natCast, List.take_nil, List.nil_append, List.length_nil] at *
    all_goals try simp only [List.drop_zero, List.take_length, tk2r, (ed_m1 xs i).1, (ed_m1 xs i).2] at *
    all_goals try first | exact trivial | (show False; omega) | exact Leaf.mk trivial | exact Leaf.mk rfl | (refine VC.mk ?_; first | trivial | assumption | ((try simp only [InR, decide_eq_true_eq, decide_eq_false_iff_not] at *); omega) | (simp; done))
    all_goals try (have tb := tmod_bd (i := i + 1) (n := xs.length) (by omega) (by omega); have tc := tmod_bd (i := k + 1) (n := [].length) (by omega) (by omega); refine VC.mk ?_; first | omega | (simp only [InR]; omega))
    all_goals try (have eb := ed_bd xs i; refine VC.mk ?_; simp only [InR]; omega)
    all_goals try (have e0 : [[at2 [] k.toNat 0, at2 [] k.toNat 1, 0], [at2 [] ((k + 1).tmod [].length).toNat 0, at2 [] ((k + 1).tmod [].length).toNat 1, 1]] = te0 [] k := rfl
                   have e1 : hpR (te0 [] k) (at2 xs ((i + 1).tmod xs.length).toNat 0) (at2 xs ((i + 1).tmod xs.length).toNat 1) (edX xs i) (edY xs i) = te1 xs i [] k := rfl
                   simp only [e0, e1] at *)
    all_goals try (have q := te1_len xs i [] k; refine VC.mk ?_; first | omega | (intro hh; rw [(te_in (by omega)).1] at hh; exact hh) | (refine ⟨?_, by simp⟩; generalize hpN _ _ _ _ _ = bb; cases bb <;> simp))
    all_goals (refine Leaf.mk ?_; first
      | (rw [(te_out (by first | omega | (simp only [List.length_nil]; omega))).1]; done)
      | (rw [(te_out (by first | omega | (simp only [List.length_nil]; omega))).2]; done)
      | (rw [(te_in (by omega)).1]; done)
      | (rw [(te_in (by omega)).2]; done))
  | [i, k], zl, [(false, xs), (false, ys)], zr =>
    clear zl zr
    have hp0 := hpre _ (List.Mem.head _); try dsimp only at hp0
    have hp1 := hpre _ (List.Mem.tail _ (List.Mem.head _)); try dsimp only at hp1
    repeat' (first | (with_reducible refine And.intro ?_ ?_) | (with_reducible intro h) | ((fail_if_success (with_reducible refine Leaf.mk ?_)); (fail_if_success (with_reducible refine VC.mk ?_)); (fail_if_success (with_reducible refine Goes.mk ?_)); (fail_if_success (with_reducible refine Again.mk ?_)); (fail_if_success (with_reducible refine Rounds.mk ?_)); (fail_if_success (with_reducible show False)); (fail_if_success (with_reducible show True)); conv => whnf))
    all_goals try simp only [decide_eq_true_eq, decide_eq_false_iff_not, Bool.not_eq_true', Bool.not_eq_false', Bool.and_eq_true, tkA, Nat.zero_add, Nat.reduceAdd, Int.toNat_natCast, List.take_nil, List.nil_append, List.length_nil] at *
    all_goals try simp only [List.drop_zero, List.take_length, tk2r, (ed_m1 xs i).1, (ed_m1 xs i).2] at *
    all_goals try first | exact trivial | (show False; omega) | exact Leaf.mk trivial | exact Leaf.mk rfl | (refine VC.mk ?_; first | trivial | assumption | ((try simp only [InR, decide_eq_true_eq, decide_eq_false_iff_not] at *); omega) | (simp; done))
    all_goals try (have tb := tmod_bd (i := i + 1) (n := xs.length) (by omega) (by omega); have tc := tmod_bd (i := k + 1) (n := ys.length) (by omega) (by omega); refine VC.mk ?_; first | omega | (simp only [InR]; omega))
    all_goals try (have eb := ed_bd xs i; refine VC.mk ?_; simp only [InR]; omega)
    all_goals try (have e0 : [[at2 ys k.toNat 0, at2 ys k.toNat 1, 0], [at2 ys ((k + 1).tmod ys.length).toNat 0, at2 ys ((k + 1).tmod ys.length).toNat 1, 1]] = te0 ys k := rfl
                   have e1 : hpR (te0 ys k) (at2 xs ((i + 1).tmod xs.length).toNat 0) (at2 xs ((i + 1).tmod xs.length).toNat 1) (edX xs i) (edY xs i) = te1 xs i ys k := rfl
                   simp only [e0, e1] at *)
    all_goals try (have q := te1_len xs i ys k; refine VC.mk ?_; first | omega | (intro hh; rw [(te_in (by omega)).1] at hh; exact hh) | (refine ⟨?_, by simp⟩; generalize hpN _ _ _ _ _ = bb; cases bb <;> simp))
    all_goals (refine Leaf.mk ?_; first
      | (rw [(te_out (by first | omega | (simp only [List.length_nil]; omega))).1]; done)
      | (rw [(te_out (by first | omega | (simp only [List.length_nil]; omega))).2]; done)
      | (rw [(te_in (by omega)).1]; done)
      | (rw [(te_in (by omega)).2]; done))
end Go.Proofs.Ythbighklfajmdaa
