/- Contracts of polygon.before, sorted, extend, ConvexHull. -/
import Derived.Test.YtbichdbapkpjpaaHm
import Derived.Test.YtbichdbapkpjpaaEvN
namespace Go.Proofs.Ytbichdbapkpjpaa
open Go.RowKit Fx Vx Bx Ev
set_option linter.unusedVariables false
set_option linter.unusedSimpArgs false


theorem tnm (k : Nat) : ((k : Int) - 1).toNat = k - 1 := by omega
theorem tnm2 (k : Nat) : ((k : Int) - 2).toNat = k - 2 := by omega
theorem popN_go {xs : List (List Int)} {keep m : Nat} {x y : Int} (h : keep < m) (ho : ¬ orient (at2 xs (m - 2) 0) (at2 xs (m - 2) 1) (at2 xs (m - 1) 0) (at2 xs (m - 1) 1) x y = 1) : popN xs keep x y m = popN xs keep x y (m - 1) := by
  match m, h with
  | m + 1, h => rw [popN, if_pos ⟨h, ho⟩]; rfl
theorem popN_stop {xs : List (List Int)} {keep m : Nat} {x y : Int} (h : ¬ (keep < m ∧ ¬ orient (at2 xs (m - 2) 0) (at2 xs (m - 2) 1) (at2 xs (m - 1) 0) (at2 xs (m - 1) 1) x y = 1)) : popN xs keep x y m = m := by
  match m with
  | 0 => rfl
  | m + 1 => rw [popN]; exact if_neg h
theorem rowlen {ys : List (List Int)} (h : wf 2 ys) {k : Nat} (hk : k < ys.length) : (ys.getD k []).length = 2 := by
  have : ys.getD k [] = ys[k] := by simp [hk]
  rw [this]; exact h _ (List.getElem_mem hk)
theorem upd_wf {ys : List (List Int)} (h : wf 2 ys) {k : Nat} (hk : k < ys.length) (a b : Int) : wf 2 (upd2 ys k 0 [a, b]) := by
  rw [upd_two h hk]
  intro x hx
  rcases List.mem_or_eq_of_mem_set hx with e | e
  · exact h x e
  · rw [e]; rfl
theorem upd_len (ys : List (List Int)) (k j : Nat) (l : List Int) : (upd2 ys k j l).length = ys.length := by simp [upd2]
theorem ptne {a b c d : Int} (h : (decide (a = b) && decide (c = d)) = false) : (a, c) ≠ (b, d) := fun e => by
  injection e with e1 e2
  simp [e1, e2] at h

def c_polygon_before : Con := ⟨46, pureRun [2, 2] (fun _ => []) fun | [x, y, u, v] => .bool (decide (Hl.lt (x, y) (u, v))) | _ => .any⟩
set_option maxRecDepth 100000 in
set_option maxHeartbeats 1000000 in
theorem con_polygon_before : c_polygon_before.Ok Try.prog := by
  refine con_pure (C := []) (pl := []) Try.func46 rfl (by kernel_rfl) T_ok (Cons.nil _) mixed (by kernel_rfl) _ _ _ (fun l hl hpre => ?_)
  match l, hl with
  | [x, y, u, v], _ =>
    repeat' (first | (with_reducible refine And.intro ?_ ?_) | (with_reducible intro h) | ((fail_if_success (with_reducible refine Leaf.mk ?_)); (fail_if_success (with_reducible refine VC.mk ?_)); (fail_if_success (with_reducible refine Goes.mk ?_)); (fail_if_success (with_reducible refine Again.mk ?_)); (fail_if_success (with_reducible refine Rounds.mk ?_)); (fail_if_success (with_reducible show False)); (fail_if_success (with_reducible show True)); conv => whnf))
    all_goals try exact trivial
    all_goals try simp only [Bool.not_eq_true', Bool.not_eq_false', Bool.and_eq_true, decide_eq_true_eq, decide_eq_false_iff_not, tkA, Nat.zero_add, Nat.reduceAdd, Int.toNat_natCast, tmN] at *
    all_goals (refine Leaf.mk ?_; first | exact (decide_eq_true (by unfold Hl.lt; simp only; omega)).symm | exact (decide_eq_false (by unfold Hl.lt; simp only; omega)).symm | exact decide_eq_decide.2 (by unfold Hl.lt; simp only; omega))
def c_polygon_sorted : Con := ⟨28, genRun [.rows 2] (fun l R => match l, R with | [], [(bxs, xs)] => [1 ≤ xs.length, xs.length ≤ 64, wf 2 xs] | _, _ => [False]) fun l R => match l, R with
  | [], [(bxs, xs)] => [.rows false 2 (sdR xs)]
  | _, _ => []⟩
set_option maxRecDepth 100000 in
set_option maxHeartbeats 4000000 in
theorem con_polygon_sorted : c_polygon_sorted.Ok Try.prog := by
  refine con_gen (C := [c_polygon_before]) (pl := [(7, [0, 1, 2, 3, 4, 5, 6, 7, 8, 9, 10, 11, 12, 13], [0, 1, 3, 7, 7, 31, 63, 7, 7, 263, 903, 1927, 4095, 8191]), (9, [0, 1, 2, 3, 4, 5, 6, 7, 8, 9, 10, 11, 12, 13, 14, 15, 16, 17], [0, 0, 0, 0, 8, 0, 0, 64, 224, 480, 0, 0, 3072, 7168, 16355, 32739, 65535, 131071]), (14, [0, 1, 2, 3, 4, 5, 6, 7, 8, 9, 10], [0, 1, 3, 7, 7, 7, 39, 119, 247, 511, 1023])]) Try.func28 rfl (by kernel_rfl) T_ok (Cons.cons con_polygon_before (Cons.nil _)) mixed (by kernel_rfl) _ _ _ (fun l R hl hR hn hpre => ?_)
  match l, hl, R, hR with
  | [], zl, [(true, xs)], zr =>
    clear zl zr
    obtain rfl : xs = [] := hn _ (List.Mem.head _) rfl
    have hp0 := hpre _ (List.Mem.head _); try dsimp only at hp0
    have hp1 := hpre _ (List.Mem.tail _ (List.Mem.head _)); try dsimp only at hp1
    have hp2 := hpre _ (List.Mem.tail _ (List.Mem.tail _ (List.Mem.head _))); try dsimp only at hp2
    exact absurd hp0 (by simp)
  | [], zl, [(false, xs)], zr =>
    clear zl zr
    have hp0 := hpre _ (List.Mem.head _); try dsimp only at hp0
    have hp1 := hpre _ (List.Mem.tail _ (List.Mem.head _)); try dsimp only at hp1
    have hp2 := hpre _ (List.Mem.tail _ (List.Mem.tail _ (List.Mem.head _))); try dsimp only at hp2
    repeat' (first | (with_reducible refine And.intro ?_ ?_) | (with_reducible intro h) | ((fail_if_success (with_reducible refine Leaf.mk ?_)); (fail_if_success (with_reducible refine VC.mk ?_)); (fail_if_success (with_reducible refine Goes.mk ?_)); (fail_if_success (with_reducible refine Again.mk ?_)); (fail_if_success (with_reducible refine Rounds.mk ?_)); (fail_if_success (with_reducible show False)); (fail_if_success (with_reducible show True)); conv => whnf))
    all_goals try simp only [Bool.not_eq_true', Bool.not_eq_false', Bool.and_eq_true, decide_eq_true_eq, decide_eq_false_iff_not, tkA, Nat.zero_add, Nat.reduceAdd, Int.toNat_natCast, tmN] at *
    all_goals try first | exact trivial | (show False; omega) | exact Leaf.mk trivial | exact Leaf.mk rfl | (refine VC.mk ?_; first | trivial | assumption | ((try simp only [InR] at *); omega) | (simp; done) | (simp; omega))
    refine goes_inv (X := (List (List Int) × Nat)) (pl := [(7, [0, 1, 2, 3, 4, 5, 6, 7, 8, 9, 10, 11, 12, 13], [0, 1, 3, 7, 7, 31, 63, 7, 7, 263, 903, 1927, 4095, 8191]), (9, [0, 1, 2, 3, 4, 5, 6, 7, 8, 9, 10, 11, 12, 13, 14, 15, 16, 17], [0, 0, 0, 0, 8, 0, 0, 64, 224, 480, 0, 0, 3072, 7168, 16355, 32739, 65535, 131071]), (14, [0, 1, 2, 3, 4, 5, 6, 7, 8, 9, 10], [0, 1, 3, 7, 7, 7, 39, 119, 247, 511, 1023])]) T_ok (Cons.cons con_polygon_before (Cons.nil _)) mixed (by kernel_rfl)
      (fun x => (.any :: .any :: .any :: .sl 1 2 0 xs.length :: .int .i64 (x.2 : Int) :: .any :: .any :: .any :: .any :: .any :: .any :: .any :: .any :: .any :: .any :: .any :: .any :: .any :: .any :: .any :: .any :: .any :: .any :: .any :: .any :: .any :: .any :: .any :: .any :: .any :: .any :: .any :: .any :: .any :: .any :: .any :: .any :: .any :: .any :: .any :: .any :: .any :: .any :: .any :: .any :: .any :: .any :: .any :: .any :: .any :: .any :: .any :: .any :: .any :: .any :: .any :: .any :: .any :: .any :: .any :: .any :: .any :: .any :: .any :: .any :: .any :: .any :: .any :: .any :: .any :: .any :: .any :: .any :: .any :: .any :: .any :: .any :: .any :: [], [.arr false true 2 xs, .arr true true 2 x.1]))
      (fun x => (1 ≤ x.2 ∧ x.2 ≤ xs.length) ∧ wf 2 x.1 ∧ x.1.length = xs.length ∧ Same xs x.1 ∧ SortTo x.1 x.2) (fun x => xs.length - x.2) (xs, 1) [0, 1] ⟨⟨Nat.le_refl _, hp0⟩, hp2, rfl, fun _ => Iff.rfl, fun a b h1 h2 => absurd h1 (by omega)⟩ ?_ ?_ ?_
    · repeat' (first | (with_reducible refine And.intro ?_ ?_) | (with_reducible intro h) | ((fail_if_success (with_reducible refine Leaf.mk ?_)); (fail_if_success (with_reducible refine VC.mk ?_)); (fail_if_success (with_reducible refine Goes.mk ?_)); (fail_if_success (with_reducible refine Again.mk ?_)); (fail_if_success (with_reducible refine Rounds.mk ?_)); (fail_if_success (with_reducible show False)); (fail_if_success (with_reducible show True)); conv => whnf))
      all_goals first | exact trivial | (refine Leaf.mk ?_; first | rfl | exact ⟨rfl, rfl⟩ | (simp; done))
    · repeat' (first | (with_reducible refine And.intro ?_ ?_) | (with_reducible intro h) | ((fail_if_success (with_reducible refine Leaf.mk ?_)); (fail_if_success (with_reducible refine VC.mk ?_)); (fail_if_success (with_reducible refine Goes.mk ?_)); (fail_if_success (with_reducible refine Again.mk ?_)); (fail_if_success (with_reducible refine Rounds.mk ?_)); (fail_if_success (with_reducible show False)); (fail_if_success (with_reducible show True)); conv => whnf))
      all_goals first | exact trivial | (refine Leaf.mk ?_; first | rfl | exact ⟨rfl, rfl⟩ | (simp; done))
    · intro x hx
      obtain ⟨ys, i⟩ := x
      obtain ⟨⟨hx0, hx1⟩, hx2, hx3, hx4, hx5⟩ := hx
      dsimp only at *
      repeat' (first | (with_reducible refine And.intro ?_ ?_) | (with_reducible intro h) | ((fail_if_success (with_reducible refine Leaf.mk ?_)); (fail_if_success (with_reducible refine VC.mk ?_)); (fail_if_success (with_reducible refine Goes.mk ?_)); (fail_if_success (with_reducible refine Again.mk ?_)); (fail_if_success (with_reducible refine Rounds.mk ?_)); (fail_if_success (with_reducible show False)); (fail_if_success (with_reducible show True)); conv => whnf))
      all_goals try simp only [Bool.not_eq_true', Bool.not_eq_false', Bool.and_eq_true, decide_eq_true_eq, decide_eq_false_iff_not, tkA, Nat.zero_add, Nat.reduceAdd, Int.toNat_natCast, tmN] at *
      all_goals try first | exact trivial | (show False; omega) | exact Leaf.mk trivial | exact Leaf.mk rfl | (refine VC.mk ?_; first | trivial | assumption | ((try simp only [InR] at *); omega) | (simp; done) | (simp; omega))
      · refine goes_inv (X := (List (List Int) × Nat)) (pl := [(7, [0, 1, 2, 3, 4, 5, 6, 7, 8, 9, 10, 11, 12, 13], [0, 1, 3, 7, 7, 31, 63, 7, 7, 263, 903, 1927, 4095, 8191]), (9, [0, 1, 2, 3, 4, 5, 6, 7, 8, 9, 10, 11, 12, 13, 14, 15, 16, 17], [0, 0, 0, 0, 8, 0, 0, 64, 224, 480, 0, 0, 3072, 7168, 16355, 32739, 65535, 131071]), (14, [0, 1, 2, 3, 4, 5, 6, 7, 8, 9, 10], [0, 1, 3, 7, 7, 7, 39, 119, 247, 511, 1023])]) T_ok (Cons.cons con_polygon_before (Cons.nil _)) mixed (by kernel_rfl)
          (fun z => (.any :: .any :: .any :: .sl 1 2 0 xs.length :: .int .i64 (i : Int) :: .int .i64 (z.2 : Int) :: .any :: .any :: .any :: .any :: .any :: .any :: .any :: .any :: .any :: .any :: .any :: .any :: .any :: .any :: .any :: .any :: .any :: .any :: .any :: .any :: .any :: .any :: .any :: .any :: .any :: .any :: .any :: .any :: .any :: .any :: .any :: .any :: .any :: .any :: .any :: .any :: .any :: .any :: .any :: .any :: .any :: .any :: .any :: .any :: .any :: .any :: .any :: .any :: .any :: .any :: .any :: .any :: .any :: .any :: .any :: .any :: .any :: .any :: .any :: .any :: .any :: .any :: .any :: .any :: .any :: .any :: .any :: .any :: .any :: .any :: .any :: .any :: [], [.arr false true 2 xs, .arr true true 2 z.1]))
          (fun z => z.2 ≤ i ∧ wf 2 z.1 ∧ z.1.length = xs.length ∧ Same xs z.1 ∧ Hole z.1 i z.2) (fun z => z.2) (ys, i) [0, 1] ⟨Nat.le_refl _, hx2, hx3, hx4, Hole.start hx5⟩ ?_ ?_ ?_
        · repeat' (first | (with_reducible refine And.intro ?_ ?_) | (with_reducible intro h) | ((fail_if_success (with_reducible refine Leaf.mk ?_)); (fail_if_success (with_reducible refine VC.mk ?_)); (fail_if_success (with_reducible refine Goes.mk ?_)); (fail_if_success (with_reducible refine Again.mk ?_)); (fail_if_success (with_reducible refine Rounds.mk ?_)); (fail_if_success (with_reducible show False)); (fail_if_success (with_reducible show True)); conv => whnf))
          all_goals first | exact trivial | (refine Leaf.mk ?_; first | rfl | exact ⟨rfl, rfl⟩ | (simp; done))
        · repeat' (first | (with_reducible refine And.intro ?_ ?_) | (with_reducible intro h) | ((fail_if_success (with_reducible refine Leaf.mk ?_)); (fail_if_success (with_reducible refine VC.mk ?_)); (fail_if_success (with_reducible refine Goes.mk ?_)); (fail_if_success (with_reducible refine Again.mk ?_)); (fail_if_success (with_reducible refine Rounds.mk ?_)); (fail_if_success (with_reducible show False)); (fail_if_success (with_reducible show True)); conv => whnf))
          all_goals first | exact trivial | (refine Leaf.mk ?_; first | rfl | exact ⟨rfl, rfl⟩ | (simp; done))
        · intro z hx
          obtain ⟨zs, k⟩ := z
          obtain ⟨hy1, hy2, hy3, hy4, hy5⟩ := hx
          dsimp only at *
          repeat' (first | (with_reducible refine And.intro ?_ ?_) | (with_reducible intro h) | ((fail_if_success (with_reducible refine Leaf.mk ?_)); (fail_if_success (with_reducible refine VC.mk ?_)); (fail_if_success (with_reducible refine Goes.mk ?_)); (fail_if_success (with_reducible refine Again.mk ?_)); (fail_if_success (with_reducible refine Rounds.mk ?_)); (fail_if_success (with_reducible show False)); (fail_if_success (with_reducible show True)); conv => whnf))
          all_goals try simp only [Bool.not_eq_true', Bool.not_eq_false', Bool.and_eq_true, decide_eq_true_eq, decide_eq_false_iff_not, tkA, Nat.zero_add, Nat.reduceAdd, Int.toNat_natCast, tmN] at *
          all_goals try simp only [tnm] at *
          all_goals try first | exact trivial | (show False; omega) | exact Leaf.mk trivial | exact Leaf.mk rfl | (refine VC.mk ?_; first | trivial | assumption | ((try simp only [InR] at *); omega) | (simp; done) | (simp; omega))
          all_goals try (refine VC.mk ?_; first | exact rowlen hy2 (by omega) | exact rowlen (upd_wf hy2 (by omega) _ _) (by rw [upd_len]; omega) | (rw [upd_len]; omega) | (rw [hy3]; omega) | omega | (simp only [InR]; omega))
          all_goals first
            | (have hdone : SortTo zs (i + 1) := hy5.done hy1 (by first | (left; omega) | (right; assumption))
               (refine Again.mk ⟨(zs, i + 1), [0, 1], ⟨⟨by omega, by omega⟩, hy2, hy3, hy4, hdone⟩, (by show xs.length - (i + 1) < xs.length - i; omega), ?_, ?_⟩ <;> (repeat' (first | (with_reducible refine And.intro ?_ ?_) | (with_reducible intro h) | ((fail_if_success (with_reducible refine Leaf.mk ?_)); (fail_if_success (with_reducible refine VC.mk ?_)); (fail_if_success (with_reducible refine Goes.mk ?_)); (fail_if_success (with_reducible refine Again.mk ?_)); (fail_if_success (with_reducible refine Rounds.mk ?_)); (fail_if_success (with_reducible show False)); (fail_if_success (with_reducible show True)); conv => whnf))) <;> first | exact trivial | (refine Leaf.mk ?_; first | rfl | exact ⟨rfl, rfl⟩ | (simp; done))))
            | (have hlt : Hl.lt (pt zs k) (pt zs (k - 1)) := by assumption
               (refine Again.mk ⟨(swp zs k, k - 1), [0, 1], ⟨by show k - 1 ≤ i; omega, swp_wf hy2 (by omega), (by show (swp zs k).length = xs.length; rw [swp_len]; exact hy3), swp_same hy2 (by omega) (by omega) hy4, Hole.step hy2 (by omega) hy5 (by omega) hy1 hlt⟩, (by show k - 1 < k; omega), ?_, ?_⟩ <;> (repeat' (first | (with_reducible refine And.intro ?_ ?_) | (with_reducible intro h) | ((fail_if_success (with_reducible refine Leaf.mk ?_)); (fail_if_success (with_reducible refine VC.mk ?_)); (fail_if_success (with_reducible refine Goes.mk ?_)); (fail_if_success (with_reducible refine Again.mk ?_)); (fail_if_success (with_reducible refine Rounds.mk ?_)); (fail_if_success (with_reducible show False)); (fail_if_success (with_reducible show True)); conv => whnf))) <;> first | exact trivial | (refine Leaf.mk ?_; first | rfl | (simp; done) | (show ((k : Int) - 1) = ((k - 1 : Nat) : Int); omega) | (refine ⟨rfl, ?_⟩; rfl))))
      · have hi : i = xs.length := by omega
        subst hi
        have hs : SortTo ys ys.length := by rw [hx3]; exact hx5
        refine goes_inv (X := Nat) (pl := [(7, [0, 1, 2, 3, 4, 5, 6, 7, 8, 9, 10, 11, 12, 13], [0, 1, 3, 7, 7, 31, 63, 7, 7, 263, 903, 1927, 4095, 8191]), (9, [0, 1, 2, 3, 4, 5, 6, 7, 8, 9, 10, 11, 12, 13, 14, 15, 16, 17], [0, 0, 0, 0, 8, 0, 0, 64, 224, 480, 0, 0, 3072, 7168, 16355, 32739, 65535, 131071]), (14, [0, 1, 2, 3, 4, 5, 6, 7, 8, 9, 10], [0, 1, 3, 7, 7, 7, 39, 119, 247, 511, 1023])]) T_ok (Cons.cons con_polygon_before (Cons.nil _)) mixed (by kernel_rfl)
          (fun k => (.any :: .any :: .any :: .sl 1 2 0 xs.length :: .any :: .any :: .osl (decide (k = 0)) 2 2 (dedR ys k).length :: .any :: .any :: .any :: .any :: .any :: .any :: .any :: .any :: .any :: .any :: .any :: .any :: .any :: .any :: .any :: .any :: .any :: .any :: .any :: .any :: .any :: .any :: .any :: .any :: .any :: .any :: .any :: .any :: .any :: .any :: .any :: .any :: .any :: .any :: .any :: .any :: .any :: .any :: .any :: .any :: .any :: .any :: .any :: .any :: .any :: .any :: .any :: .sl 1 2 0 xs.length :: .int .i64 (xs.length : Int) :: .int .i64 (k : Int) :: .any :: .any :: .any :: .any :: .any :: .any :: .any :: .any :: .any :: .any :: .any :: .any :: .any :: .any :: .any :: .any :: .any :: .any :: .any :: .any :: .any :: [], [.arr false true 2 xs, .arr true true 2 ys, .arr true (!decide (k = 0)) 2 (dedR ys k)]))
          (fun k => k ≤ xs.length) (fun k => xs.length - k) 0 [0, 1, 2] (Nat.zero_le _) ?_ ?_ ?_
        · repeat' (first | (with_reducible refine And.intro ?_ ?_) | (with_reducible intro h) | ((fail_if_success (with_reducible refine Leaf.mk ?_)); (fail_if_success (with_reducible refine VC.mk ?_)); (fail_if_success (with_reducible refine Goes.mk ?_)); (fail_if_success (with_reducible refine Again.mk ?_)); (fail_if_success (with_reducible refine Rounds.mk ?_)); (fail_if_success (with_reducible show False)); (fail_if_success (with_reducible show True)); conv => whnf))
          all_goals first | exact trivial | (refine Leaf.mk ?_; first | rfl | exact ⟨rfl, rfl⟩ | (simp; done))
        · repeat' (first | (with_reducible refine And.intro ?_ ?_) | (with_reducible intro h) | ((fail_if_success (with_reducible refine Leaf.mk ?_)); (fail_if_success (with_reducible refine VC.mk ?_)); (fail_if_success (with_reducible refine Goes.mk ?_)); (fail_if_success (with_reducible refine Again.mk ?_)); (fail_if_success (with_reducible refine Rounds.mk ?_)); (fail_if_success (with_reducible show False)); (fail_if_success (with_reducible show True)); conv => whnf))
          all_goals first | exact trivial | (refine Leaf.mk ?_; first | rfl | exact ⟨rfl, rfl⟩ | (simp; done))
        · intro k hx
          repeat' (first | (with_reducible refine And.intro ?_ ?_) | (with_reducible intro h) | ((fail_if_success (with_reducible refine Leaf.mk ?_)); (fail_if_success (with_reducible refine VC.mk ?_)); (fail_if_success (with_reducible refine Goes.mk ?_)); (fail_if_success (with_reducible refine Again.mk ?_)); (fail_if_success (with_reducible refine Rounds.mk ?_)); (fail_if_success (with_reducible show False)); (fail_if_success (with_reducible show True)); conv => whnf))
          all_goals try simp only [Bool.not_eq_true', Bool.not_eq_false', Bool.and_eq_true, decide_eq_true_eq, decide_eq_false_iff_not, tkA, Nat.zero_add, Nat.reduceAdd, Int.toNat_natCast, tmN] at *
          all_goals try simp only [tnm] at *
          all_goals try (have hdl := dedR_len ys k)
          all_goals try first | exact trivial | (show False; omega) | exact Leaf.mk trivial | exact Leaf.mk rfl | (refine VC.mk ?_; first | trivial | assumption | ((try simp only [InR] at *); omega) | (simp; done) | (simp; omega))
          all_goals try (refine VC.mk ?_; first | omega | (rw [hx3]; omega) | (intro; omega) | (intro hk0; subst hk0; rfl))
          all_goals try (
            have hk : k = xs.length := by omega
            subst hk
            refine Leaf.mk ?_
            first
              | omega
              | (rw [List.take_of_length_le (Nat.le_refl _), ← hx3]; exact dedR_sd hs hx4))
          all_goals first
            | (have hc : k = 0 ∨ pt ys k ≠ pt ys (k - 1) := by first | (left; omega) | (right; exact ptne (by assumption)) | (right; intro e; injection e with e1 e2; exact absurd ⟨e1, e2⟩ (by assumption)) | (right; intro e; injection e with e1 e2; simp_all)
               have ey : dedR ys (k + 1) = dedR ys k ++ [[at2 ys k 0, at2 ys k 1]] := if_pos hc
               (refine Again.mk ⟨k + 1, [0, 1, 5], (by show k + 1 ≤ xs.length; omega), (by show xs.length - (k + 1) < xs.length - k; omega), ?_, ?_⟩ <;> (repeat' (first | (with_reducible refine And.intro ?_ ?_) | (with_reducible intro h) | ((fail_if_success (with_reducible refine Leaf.mk ?_)); (fail_if_success (with_reducible refine VC.mk ?_)); (fail_if_success (with_reducible refine Goes.mk ?_)); (fail_if_success (with_reducible refine Again.mk ?_)); (fail_if_success (with_reducible refine Rounds.mk ?_)); (fail_if_success (with_reducible show False)); (fail_if_success (with_reducible show True)); conv => whnf))) <;> first | exact trivial | (refine Leaf.mk ?_; first | rfl | (simp; done) | (rw [ey]; refine ⟨by simp, ?_⟩; rw [List.take_of_length_le (Nat.le_refl _)]; rfl) | (rw [ey]; refine ⟨by simp, ?_⟩; simp; done) | (rw [ey]; simp; done) | (rw [en]; exact ⟨by simp; omega, rfl⟩) | (rw [en]; simp; omega) | (rw [en]; simp; done))))
            | (have heq : at2 ys k 0 = at2 ys (k - 1) 0 ∧ at2 ys k 1 = at2 ys (k - 1) 1 := by assumption
               have en : dedR ys (k + 1) = dedR ys k := if_neg (fun hh => by
                 rcases hh with hh | hh
                 · omega
                 · exact hh (Prod.ext heq.1 heq.2))
               (refine Again.mk ⟨k + 1, [0, 1, 2], (by show k + 1 ≤ xs.length; omega), (by show xs.length - (k + 1) < xs.length - k; omega), ?_, ?_⟩ <;> (repeat' (first | (with_reducible refine And.intro ?_ ?_) | (with_reducible intro h) | ((fail_if_success (with_reducible refine Leaf.mk ?_)); (fail_if_success (with_reducible refine VC.mk ?_)); (fail_if_success (with_reducible refine Goes.mk ?_)); (fail_if_success (with_reducible refine Again.mk ?_)); (fail_if_success (with_reducible refine Rounds.mk ?_)); (fail_if_success (with_reducible show False)); (fail_if_success (with_reducible show True)); conv => whnf))) <;> first | exact trivial | (refine Leaf.mk ?_; first | rfl | (simp; done) | (rw [ey]; refine ⟨by simp, ?_⟩; rw [List.take_of_length_le (Nat.le_refl _)]; rfl) | (rw [ey]; refine ⟨by simp, ?_⟩; simp; done) | (rw [ey]; simp; done) | (rw [en]; exact ⟨by simp; omega, rfl⟩) | (rw [en]; simp; omega) | (rw [en]; simp; done))))
def c_polygon_extend : Con := ⟨29, ownRun 2 [2, 0] (fun l b xs => match l with | [x, y, keep] => [1 ≤ keep, keep ≤ 100000, xs.length ≤ 100000] | _ => [False]) fun l b xs => match l with
  | [x, y, keep] => [.rows false 2 (extR xs keep.toNat x y)]
  | _ => []⟩
set_option maxRecDepth 100000 in
set_option maxHeartbeats 4000000 in
theorem con_polygon_extend : c_polygon_extend.Ok Try.prog := by
  refine con_own (C := [c_vec2_Orientation]) (pl := [(1, [0, 1, 2, 3, 4, 5, 6, 7, 8, 9, 10, 11, 12, 13, 14, 15, 16, 17, 18, 19, 20], [0, 1, 0, 7, 15, 31, 31, 95, 223, 511, 1023, 31, 31, 4127, 12319, 30751, 63519, 31, 262143, 524287, 1048575])]) Try.func29 rfl (by kernel_rfl) T_ok (Cons.cons con_vec2_Orientation (Cons.nil _)) mixed (by kernel_rfl) _ _ _ _ (fun l b xs hl hn hpre => ?_)
  match l, hl, b with
  | [x, y, keep], zl, true =>
    clear zl
    obtain rfl : xs = [] := hn rfl
    have hp0 := hpre _ (List.Mem.head _); try dsimp only at hp0
    have hp1 := hpre _ (List.Mem.tail _ (List.Mem.head _)); try dsimp only at hp1
    have hp2 := hpre _ (List.Mem.tail _ (List.Mem.tail _ (List.Mem.head _))); try dsimp only at hp2
    repeat' (first | (with_reducible refine And.intro ?_ ?_) | (with_reducible intro h) | ((fail_if_success (with_reducible refine Leaf.mk ?_)); (fail_if_success (with_reducible refine VC.mk ?_)); (fail_if_success (with_reducible refine Goes.mk ?_)); (fail_if_success (with_reducible refine Again.mk ?_)); (fail_if_success (with_reducible refine Rounds.mk ?_)); (fail_if_success (with_reducible show False)); (fail_if_success (with_reducible show True)); conv => whnf))
    all_goals try simp only [Bool.not_eq_true', Bool.not_eq_false', Bool.and_eq_true, decide_eq_true_eq, decide_eq_false_iff_not, tkA, Nat.zero_add, Nat.reduceAdd, Int.toNat_natCast, tmN] at *
    all_goals try first | exact trivial | (show False; omega) | exact Leaf.mk trivial | exact Leaf.mk rfl | (refine VC.mk ?_; first | trivial | assumption | ((try simp only [InR] at *); omega) | (simp; done) | (simp; omega))
    all_goals try refine goes_rounds 1 ?_
    all_goals try (refine rounds_one (pl := [(1, [0, 1, 2, 3, 4, 5, 6, 7, 8, 9, 10, 11, 12, 13, 14, 15, 16, 17, 18, 19, 20], [0, 1, 0, 7, 15, 31, 31, 95, 223, 511, 1023, 31, 31, 4127, 12319, 30751, 63519, 31, 262143, 524287, 1048575])]) T_ok (Cons.cons con_vec2_Orientation (Cons.nil _)) mixed (by kernel_rfl) ?_; repeat' (first | (with_reducible refine And.intro ?_ ?_) | (with_reducible intro h) | ((fail_if_success (with_reducible refine Leaf.mk ?_)); (fail_if_success (with_reducible refine VC.mk ?_)); (fail_if_success (with_reducible refine Goes.mk ?_)); (fail_if_success (with_reducible refine Again.mk ?_)); (fail_if_success (with_reducible refine Rounds.mk ?_)); (fail_if_success (with_reducible show False)); (fail_if_success (with_reducible show True)); conv => whnf)))
    all_goals try simp only [Bool.not_eq_true', Bool.not_eq_false', Bool.and_eq_true, decide_eq_true_eq, decide_eq_false_iff_not, tkA, Nat.zero_add, Nat.reduceAdd, Int.toNat_natCast, tmN] at *
    all_goals try first | exact trivial | (show False; omega) | exact Leaf.mk trivial | exact Leaf.mk rfl | (refine VC.mk ?_; first | trivial | assumption | ((try simp only [InR] at *); omega) | (simp; done) | (simp; omega))
    all_goals (refine Leaf.mk ?_; first | rfl | decide | (simp; done) | (simp [extR, popN]; done))
  | [x, y, keep], zl, false =>
    clear zl
    have hp0 := hpre _ (List.Mem.head _); try dsimp only at hp0
    have hp1 := hpre _ (List.Mem.tail _ (List.Mem.head _)); try dsimp only at hp1
    have hp2 := hpre _ (List.Mem.tail _ (List.Mem.tail _ (List.Mem.head _))); try dsimp only at hp2
    repeat' (first | (with_reducible refine And.intro ?_ ?_) | (with_reducible intro h) | ((fail_if_success (with_reducible refine Leaf.mk ?_)); (fail_if_success (with_reducible refine VC.mk ?_)); (fail_if_success (with_reducible refine Goes.mk ?_)); (fail_if_success (with_reducible refine Again.mk ?_)); (fail_if_success (with_reducible refine Rounds.mk ?_)); (fail_if_success (with_reducible show False)); (fail_if_success (with_reducible show True)); conv => whnf))
    all_goals try simp only [Bool.not_eq_true', Bool.not_eq_false', Bool.and_eq_true, decide_eq_true_eq, decide_eq_false_iff_not, tkA, Nat.zero_add, Nat.reduceAdd, Int.toNat_natCast, tmN] at *
    all_goals try first | exact trivial | (show False; omega) | exact Leaf.mk trivial | exact Leaf.mk rfl | (refine VC.mk ?_; first | trivial | assumption | ((try simp only [InR] at *); omega) | (simp; done) | (simp; omega))
    refine goes_inv (X := Nat) (pl := [(1, [0, 1, 2, 3, 4, 5, 6, 7, 8, 9, 10, 11, 12, 13, 14, 15, 16, 17, 18, 19, 20], [0, 1, 0, 7, 15, 31, 31, 95, 223, 511, 1023, 31, 31, 4127, 12319, 30751, 63519, 31, 262143, 524287, 1048575])]) T_ok (Cons.cons con_vec2_Orientation (Cons.nil _)) mixed (by kernel_rfl)
      (fun m => (.sl 0 2 0 m :: .any :: .int .i64 keep :: .any :: .ptr 1 0 :: .any :: .any :: .any :: .any :: .any :: .any :: .any :: .any :: .any :: .any :: .any :: .any :: .any :: .any :: .any :: .any :: .any :: .any :: .any :: .any :: .any :: .any :: .any :: .any :: .any :: .any :: .any :: .any :: .any :: .any :: .any :: .any :: [], [.arr true true 2 xs, .cells [.int .i64 x, .int .i64 y]]))
      (fun m => m ≤ xs.length ∧ popN xs keep.toNat x y m = popN xs keep.toNat x y xs.length) (fun m => m) xs.length [0, 1] ⟨Nat.le_refl _, rfl⟩ ?_ ?_ ?_
    · repeat' (first | (with_reducible refine And.intro ?_ ?_) | (with_reducible intro h) | ((fail_if_success (with_reducible refine Leaf.mk ?_)); (fail_if_success (with_reducible refine VC.mk ?_)); (fail_if_success (with_reducible refine Goes.mk ?_)); (fail_if_success (with_reducible refine Again.mk ?_)); (fail_if_success (with_reducible refine Rounds.mk ?_)); (fail_if_success (with_reducible show False)); (fail_if_success (with_reducible show True)); conv => whnf))
      all_goals first | exact trivial | (refine Leaf.mk ?_; first | rfl | exact ⟨rfl, rfl⟩ | (simp; done))
    · repeat' (first | (with_reducible refine And.intro ?_ ?_) | (with_reducible intro h) | ((fail_if_success (with_reducible refine Leaf.mk ?_)); (fail_if_success (with_reducible refine VC.mk ?_)); (fail_if_success (with_reducible refine Goes.mk ?_)); (fail_if_success (with_reducible refine Again.mk ?_)); (fail_if_success (with_reducible refine Rounds.mk ?_)); (fail_if_success (with_reducible show False)); (fail_if_success (with_reducible show True)); conv => whnf))
      all_goals first | exact trivial | (refine Leaf.mk ?_; first | rfl | exact ⟨rfl, rfl⟩ | (simp; done))
    · intro m hx
      obtain ⟨hx1, hx2⟩ := hx
      repeat' (first | (with_reducible refine And.intro ?_ ?_) | (with_reducible intro h) | ((fail_if_success (with_reducible refine Leaf.mk ?_)); (fail_if_success (with_reducible refine VC.mk ?_)); (fail_if_success (with_reducible refine Goes.mk ?_)); (fail_if_success (with_reducible refine Again.mk ?_)); (fail_if_success (with_reducible refine Rounds.mk ?_)); (fail_if_success (with_reducible show False)); (fail_if_success (with_reducible show True)); conv => whnf))
      all_goals try simp only [Bool.not_eq_true', Bool.not_eq_false', Bool.and_eq_true, decide_eq_true_eq, decide_eq_false_iff_not, tkA, Nat.zero_add, Nat.reduceAdd, Int.toNat_natCast, tmN] at *
      all_goals try simp only [tnm, tnm2] at *
      all_goals try first | exact trivial | (show False; omega) | exact Leaf.mk trivial | exact Leaf.mk rfl | (refine VC.mk ?_; first | trivial | assumption | ((try simp only [InR] at *); omega) | (simp; done) | (simp; omega))
      all_goals try (refine VC.mk ?_; first | omega | (simp; omega))
      all_goals first
        | (have hs : popN xs keep.toNat x y m = m := popN_stop (fun hh => by
             first
               | (have := hh.1; omega)
               | exact hh.2 (by assumption))
           refine Leaf.mk ?_
           first
             | rfl
             | (unfold extR; rw [← hx2, hs, List.take_of_length_le (by simp; omega)]; rfl)
             | (unfold extR; rw [← hx2, hs, List.take_of_length_le (by simp; omega)]; simp; done))
        | (have hg : popN xs keep.toNat x y m = popN xs keep.toNat x y (m - 1) := popN_go (by omega) (by assumption)
           (refine Again.mk ⟨m - 1, [0, 1], ⟨by show m - 1 ≤ xs.length; omega, (by show popN xs keep.toNat x y (m - 1) = _; rw [← hg]; exact hx2)⟩, (by show m - 1 < m; omega), ?_, ?_⟩ <;> (repeat' (first | (with_reducible refine And.intro ?_ ?_) | (with_reducible intro h) | ((fail_if_success (with_reducible refine Leaf.mk ?_)); (fail_if_success (with_reducible refine VC.mk ?_)); (fail_if_success (with_reducible refine Goes.mk ?_)); (fail_if_success (with_reducible refine Again.mk ?_)); (fail_if_success (with_reducible refine Rounds.mk ?_)); (fail_if_success (with_reducible show False)); (fail_if_success (with_reducible show True)); conv => whnf))) <;> first | exact trivial | (refine Leaf.mk ?_; first | rfl | exact ⟨rfl, rfl⟩ | (simp; done))))
end Go.Proofs.Ytbichdbapkpjpaa
