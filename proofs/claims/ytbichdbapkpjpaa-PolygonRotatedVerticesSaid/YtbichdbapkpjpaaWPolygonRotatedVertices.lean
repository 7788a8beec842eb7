/- The walk of caromlaw11.PolygonRotatedVertices. -/
import Derived.Test.YtbichdbapkpjpaaHp
import Derived.Test.YtbichdbapkpjpaaFs
namespace Go.Proofs.Ytbichdbapkpjpaa
open Go.RowKit Fx Vx Bx Ev
set_option linter.unusedVariables false
set_option linter.unusedSimpArgs false
theorem in_rot {xs : List (List Int)} {n : Nat} (h : n < xs.length) : List.take (xs.length - n) (List.take (xs.length - n) (List.drop n xs)) ++ List.take n (List.drop 0 xs) = rot xs n := by
  have e1 : List.take (xs.length - n) (List.drop n xs) = List.drop n xs := List.take_of_length_le (by simp)
  rw [e1, e1]
  rfl
theorem big_rot {xs : List (List Int)} {n : Nat} (h : n < xs.length) : List.take (xs.length - n + n) (List.take (xs.length - n) (List.take (xs.length - n) (List.drop n xs)) ++ List.take n (List.drop 0 xs)) = rot xs n := by
  rw [in_rot h]
  exact List.take_of_length_le (by rw [rot_len]; omega)
theorem big_two {xs : List (List Int)} {n : Nat} (h : n < xs.length) : List.take (xs.length - n + n + n) (List.take (xs.length - n + n) (List.take (xs.length - n) (List.take (xs.length - n) (List.drop n xs)) ++ List.take n (List.drop 0 xs)) ++ List.take n (List.drop 0 xs)) = rot xs n ++ xs.take n := by
  rw [big_rot h]
  exact List.take_of_length_le (by rw [List.length_append, rot_len, List.length_take, List.drop_zero]; omega)
theorem rot_two {xs : List (List Int)} {n : Nat} (h : n < xs.length) (h32 : xs.length ≤ 32) : hullR (rot xs n ++ xs.take n) = hullR xs := by
  refine hull_same (fun p => ?_) (by rw [List.length_append, rot_len, List.length_take]; omega) (by omega)
  unfold pts
  rw [List.map_append, List.mem_append]
  constructor
  · intro hh
    rcases hh with hh | hh
    · exact (rot_mem p).1 hh
    · obtain ⟨r, hr, e⟩ := List.mem_map.1 hh
      exact List.mem_map.2 ⟨r, List.mem_of_mem_take hr, e⟩
  · exact fun hh => Or.inl ((rot_mem p).2 hh)
theorem rot_wf {xs : List (List Int)} (hw : wf 2 xs) (n : Nat) : wf 2 (rot xs n) := wf_app (fun x hx => hw x (List.mem_of_mem_drop hx)) (wf_take hw n)
theorem mod_nat {k : Int} {n : Nat} (h0 : 0 ≤ k) (h : 0 < n) : ∃ m : Nat, k.tmod (n : Int) = (m : Int) ∧ m < n := by
  obtain ⟨j, rfl⟩ : ∃ j : Nat, k = (j : Int) := ⟨k.toNat, by omega⟩
  exact ⟨j % n, (Int.ofNat_tmod j n).symm, Nat.mod_lt _ h⟩
theorem tnl (m j : Nat) : ((m : Int) - 1 - (j : Int)).toNat = m - 1 - j := by omega
theorem rev_next {xs : List (List Int)} (hw : wf 2 xs) {j : Nat} (h : j < xs.length) : xs.reverse.take (j + 1) = xs.reverse.take j ++ [[at2 xs (xs.length - 1 - j) 0, at2 xs (xs.length - 1 - j) 1]] := by
  rw [take_snoc (by simpa using h)]
  congr 2
  rw [List.getElem_reverse]
  have hl := hw _ (List.getElem_mem (show xs.length - 1 - j < xs.length by omega))
  have e := ofP_toP hl
  rw [← e]
  have : ∀ k, at2 xs (xs.length - 1 - j) k = (xs[xs.length - 1 - j]'(by omega)).getD k 0 := fun k => by
    unfold at2
    rw [List.getD_eq_getElem?_getD (l := xs), List.getElem?_eq_getElem (by omega)]; rfl
  rw [this, this]
  rfl
theorem rev_step {xs : List (List Int)} (hw : wf 2 xs) {j : Nat} (h : j < xs.length) : List.take j (List.take j xs.reverse) ++ List.take 1 (List.drop 0 [[at2 xs (xs.length - 1 - j) 0, at2 xs (xs.length - 1 - j) 1]]) = xs.reverse.take (j + 1) := by
  rw [rev_next hw h, List.take_take, Nat.min_self]; rfl
theorem tk_rot (xs : List (List Int)) (n : Nat) : List.take xs.length (rot xs n) = rot xs n := List.take_of_length_le (by rw [rot_len]; exact Nat.le_refl _)
theorem tk_rev (xs : List (List Int)) : List.take xs.length xs.reverse = xs.reverse := List.take_of_length_le (by simp)
theorem rev_wf {xs : List (List Int)} (hw : wf 2 xs) : wf 2 xs.reverse := fun x hx => hw x (by simpa using hx)
theorem no_meas {xs : List (List Int)} (h : convB xs = false) : areaX xs = 0 ∧ cenX xs 0 = 0 ∧ cenX xs 1 = 0 := by
  unfold areaX cenX; rw [h]; exact ⟨rfl, rfl, rfl⟩
theorem hull_first {xs : List (List Int)} (h : convB xs = true) (hw : wf 2 xs) {n : Nat} (hn : n < xs.length) (k : ¬ hullR xs = rot xs n) : ¬ (at2 (hullR xs) 0 0 = at2 (rot xs n) 0 0 ∧ at2 (hullR xs) 0 1 = at2 (rot xs n) 0 1) := fun e => k (conv_hull_rot h hw hn (Prod.ext e.1 e.2))

def c_law_PolygonRotatedVertices : Con := ⟨7, rowRun [.rows 2, .u8] (fun l R => match l, R with | [k], [xs] => [∀ x ∈ xs, x.length = 2, 0 ≤ k ∧ k ≤ 255] | _, _ => [False]) fun l R => match l, R with
  | [k], [xs] => .bool true
  | _, _ => .any⟩
set_option maxRecDepth 100000 in
set_option maxHeartbeats 8000000 in
theorem con_law_PolygonRotatedVertices : c_law_PolygonRotatedVertices.Ok Try.prog := by
  refine con_rows (C := [c_polygon_IsConvex, c_polygon_ShortestEdge, c_polygon_Area, c_polygon_Centroid, c_polygon_ConvexHull, c_polygon_Contains, c_ref11_EqualPoints, c_law11_example]) (pl := [(21, [0, 1, 2, 3, 4, 5, 6, 7, 8, 9, 10, 11, 12, 13, 14, 15, 16, 17, 18, 19, 20, 21, 22, 23, 24, 25, 26, 27], [0, 1, 3, 7, 15, 31, 15, 79, 255, 511, 1023, 2047, 2047, 8191, 16383, 32767, 65535, 131071, 32767, 294911, 819199, 2097151, 4194303, 8388607, 16777215, 33554431, 67108863, 134217727])]) Try.func7 rfl (by kernel_rfl) T_ok (Cons.cons con_polygon_IsConvex (Cons.cons con_polygon_ShortestEdge (Cons.cons con_polygon_Area (Cons.cons con_polygon_Centroid (Cons.cons con_polygon_ConvexHull (Cons.cons con_polygon_Contains (Cons.cons con_ref11_EqualPoints (Cons.cons con_law11_example (Cons.nil _))))))))) mixed (by kernel_rfl) _ _ _ (fun l R hl hR hn hpre => ?_)
  match l, hl, R, hR with
  | [k], zl, [(true, xs)], zr =>
    clear zl zr
    obtain rfl : xs = [] := hn _ (List.Mem.head _) rfl
    have hp0 := hpre _ (List.Mem.head _); try dsimp only at hp0
    have hp1 := hpre _ (List.Mem.tail _ (List.Mem.head _)); try dsimp only at hp1
    repeat' (first | (with_reducible refine And.intro ?_ ?_) | (with_reducible intro h) | ((fail_if_success (with_reducible refine Leaf.mk ?_)); (fail_if_success (with_reducible refine VC.mk ?_)); (fail_if_success (with_reducible refine Goes.mk ?_)); (fail_if_success (with_reducible refine Again.mk ?_)); (fail_if_success (with_reducible refine Rounds.mk ?_)); (fail_if_success (with_reducible show False)); (fail_if_success (with_reducible show True)); conv => whnf))
    all_goals try simp only [Bool.not_eq_true', Bool.not_eq_false', Bool.and_eq_true, decide_eq_true_eq, decide_eq_false_iff_not, tkA, Nat.zero_add, Nat.reduceAdd, Int.toNat_natCast, tmN] at *
    all_goals try first | exact trivial | (show False; omega) | exact Leaf.mk trivial | exact Leaf.mk rfl | (refine VC.mk ?_; first | trivial | assumption | ((try simp only [InR] at *); omega) | (simp; done) | (simp; omega))
    all_goals try (refine VC.mk ?_; first | assumption | exact wf_nil _ | exact hullR_wf _ | exact wf_take (hullR_wf _) _ | exact wf_take (by assumption) _ | omega | (simp; done) | (simp; omega))
  | [k], zl, [(false, xs)], zr =>
    clear zl zr
    have hp0 := hpre _ (List.Mem.head _); try dsimp only at hp0
    have hp1 := hpre _ (List.Mem.tail _ (List.Mem.head _)); try dsimp only at hp1
    rcases Nat.eq_zero_or_pos xs.length with hz | hz
    · obtain rfl : xs = [] := List.length_eq_zero_iff.1 hz
      repeat' (first | (with_reducible refine And.intro ?_ ?_) | (with_reducible intro h) | ((fail_if_success (with_reducible refine Leaf.mk ?_)); (fail_if_success (with_reducible refine VC.mk ?_)); (fail_if_success (with_reducible refine Goes.mk ?_)); (fail_if_success (with_reducible refine Again.mk ?_)); (fail_if_success (with_reducible refine Rounds.mk ?_)); (fail_if_success (with_reducible show False)); (fail_if_success (with_reducible show True)); conv => whnf))
      all_goals try simp only [Bool.not_eq_true', Bool.not_eq_false', Bool.and_eq_true, decide_eq_true_eq, decide_eq_false_iff_not, tkA, Nat.zero_add, Nat.reduceAdd, Int.toNat_natCast, tmN] at *
      all_goals try first | exact trivial | (show False; omega) | exact Leaf.mk trivial | exact Leaf.mk rfl | (refine VC.mk ?_; first | trivial | assumption | ((try simp only [InR] at *); omega) | (simp; done) | (simp; omega))
      all_goals try (refine VC.mk ?_; first | assumption | exact wf_nil _ | exact hullR_wf _ | exact wf_take (hullR_wf _) _ | exact wf_take (by assumption) _ | omega | (simp; done) | (simp; omega))
      all_goals (exfalso; simp at *; done)
    obtain ⟨n, hn1, hn2⟩ := mod_nat hp1.1 hz
    have r1 := rot_len xs n
    have r2 := rot_wf hp0 n
    have hll := hullR_len xs
    have hww := hullR_wf xs
    repeat' (first | (with_reducible refine And.intro ?_ ?_) | (with_reducible intro h) | ((fail_if_success (with_reducible refine Leaf.mk ?_)); (fail_if_success (with_reducible refine VC.mk ?_)); (fail_if_success (with_reducible refine Goes.mk ?_)); (fail_if_success (with_reducible refine Again.mk ?_)); (fail_if_success (with_reducible refine Rounds.mk ?_)); (fail_if_success (with_reducible show False)); (fail_if_success (with_reducible show True)); conv => whnf))
    all_goals try simp only [Bool.not_eq_true', Bool.not_eq_false', Bool.and_eq_true, decide_eq_true_eq, decide_eq_false_iff_not, tkA, Nat.zero_add, Nat.reduceAdd, Int.toNat_natCast, tmN] at *
    all_goals try simp only [hn1, Int.toNat_natCast] at *
    all_goals try first | exact trivial | (show False; omega) | exact Leaf.mk trivial | exact Leaf.mk rfl | (refine VC.mk ?_; first | trivial | assumption | ((try simp only [InR] at *); omega) | (simp; done) | (simp; omega))
    all_goals try (refine VC.mk ?_; omega)
    refine goes_inv (X := Nat) (pl := [(21, [0, 1, 2, 3, 4, 5, 6, 7, 8, 9, 10, 11, 12, 13, 14, 15, 16, 17, 18, 19, 20, 21, 22, 23, 24, 25, 26, 27], [0, 1, 3, 7, 15, 31, 15, 79, 255, 511, 1023, 2047, 2047, 8191, 16383, 32767, 65535, 131071, 32767, 294911, 819199, 2097151, 4194303, 8388607, 16777215, 33554431, 67108863, 134217727])]) T_ok (Cons.cons con_polygon_IsConvex (Cons.cons con_polygon_ShortestEdge (Cons.cons con_polygon_Area (Cons.cons con_polygon_Centroid (Cons.cons con_polygon_ConvexHull (Cons.cons con_polygon_Contains (Cons.cons con_ref11_EqualPoints (Cons.cons con_law11_example (Cons.nil _))))))))) mixed (by kernel_rfl)
      (fun j => (.sl 0 2 0 xs.length :: .any :: .any :: .any :: .any :: .any :: .osl false 2 2 xs.length :: .osl (decide (j = 0)) 3 2 j :: .int .i64 ((xs.length : Int) - 1 - (j : Int)) :: .any :: .any :: .any :: .any :: .any :: .any :: .any :: .any :: .any :: .any :: .any :: .any :: .any :: .any :: .any :: .any :: .any :: .any :: .any :: .any :: .any :: .any :: .any :: .any :: .any :: .any :: .any :: .any :: .any :: .any :: .any :: .any :: .any :: .any :: .any :: .any :: .any :: .any :: .any :: .any :: .any :: .any :: .any :: .any :: .any :: .any :: .any :: .any :: .any :: .any :: .any :: .any :: .any :: .any :: .any :: .any :: .any :: .any :: .any :: .any :: .any :: .any :: .any :: .any :: .any :: .any :: .any :: .any :: .any :: .any :: .any :: .any :: .any :: .any :: .any :: .any :: .any :: .any :: .any :: .any :: .any :: .any :: .any :: .any :: .any :: .any :: .any :: .any :: .any :: .any :: .any :: .any :: .any :: .any :: .any :: .any :: .any :: .any :: .any :: .any :: .any :: .any :: .any :: .any :: .any :: .any :: .any :: .any :: .any :: [], [.arr false true 2 xs, .dead, .arr true true 2 (rot xs n), .arr true (!decide (j = 0)) 2 (xs.reverse.take j)]))
      (fun j => j ≤ xs.length) (fun j => xs.length - j) 0 [0, 1, 2, 3] (Nat.zero_le _) ?_ ?_ ?_
    · repeat' (first | (with_reducible refine And.intro ?_ ?_) | (with_reducible intro h) | ((fail_if_success (with_reducible refine Leaf.mk ?_)); (fail_if_success (with_reducible refine VC.mk ?_)); (fail_if_success (with_reducible refine Goes.mk ?_)); (fail_if_success (with_reducible refine Again.mk ?_)); (fail_if_success (with_reducible refine Rounds.mk ?_)); (fail_if_success (with_reducible show False)); (fail_if_success (with_reducible show True)); conv => whnf))
      all_goals first | exact trivial | (refine Leaf.mk ?_; first | rfl | exact ⟨rfl, rfl⟩ | exact in_rot hn2 | (simp; done) | (simp; omega) | omega | (refine ⟨?_, ?_⟩ <;> first | (simp; omega) | omega) | (refine ⟨?_, ?_⟩ <;> first | exact in_rot hn2 | (simp; omega)))
    · repeat' (first | (with_reducible refine And.intro ?_ ?_) | (with_reducible intro h) | ((fail_if_success (with_reducible refine Leaf.mk ?_)); (fail_if_success (with_reducible refine VC.mk ?_)); (fail_if_success (with_reducible refine Goes.mk ?_)); (fail_if_success (with_reducible refine Again.mk ?_)); (fail_if_success (with_reducible refine Rounds.mk ?_)); (fail_if_success (with_reducible show False)); (fail_if_success (with_reducible show True)); conv => whnf))
      all_goals first | exact trivial | (refine Leaf.mk ?_; first | rfl | exact ⟨rfl, rfl⟩ | exact in_rot hn2 | (simp; done) | (simp; omega) | omega | (refine ⟨?_, ?_⟩ <;> first | (simp; omega) | omega) | (refine ⟨?_, ?_⟩ <;> first | exact in_rot hn2 | (simp; omega)))
    · intro j hx
      have f1 := rot_conv hn2 hp0
      have f2 := rot_shX hn2 hp0
      have f3 := rev_wf hp0
      repeat' (first | (with_reducible refine And.intro ?_ ?_) | (with_reducible intro h) | ((fail_if_success (with_reducible refine Leaf.mk ?_)); (fail_if_success (with_reducible refine VC.mk ?_)); (fail_if_success (with_reducible refine Goes.mk ?_)); (fail_if_success (with_reducible refine Again.mk ?_)); (fail_if_success (with_reducible refine Rounds.mk ?_)); (fail_if_success (with_reducible show False)); (fail_if_success (with_reducible show True)); conv => whnf))
      all_goals try simp only [Bool.not_eq_true', Bool.not_eq_false', Bool.and_eq_true, decide_eq_true_eq, decide_eq_false_iff_not, tkA, Nat.zero_add, Nat.reduceAdd, Int.toNat_natCast, tmN] at *
      all_goals try simp only [tnl] at *
      all_goals try first | exact trivial | (show False; omega) | exact Leaf.mk trivial | exact Leaf.mk rfl | (refine VC.mk ?_; first | trivial | assumption | ((try simp only [InR] at *); omega) | (simp; done) | (simp; omega))
      all_goals try (refine VC.mk ?_; first | (simp; omega) | omega | (simp only [InR]; omega))
      all_goals try (refine Again.mk ⟨j + 1, [0, 1, 2, 5], (by show j + 1 ≤ xs.length; omega), (by show xs.length - (j + 1) < xs.length - j; omega), ?_, ?_⟩ <;> (repeat' (first | (with_reducible refine And.intro ?_ ?_) | (with_reducible intro h) | ((fail_if_success (with_reducible refine Leaf.mk ?_)); (fail_if_success (with_reducible refine VC.mk ?_)); (fail_if_success (with_reducible refine Goes.mk ?_)); (fail_if_success (with_reducible refine Again.mk ?_)); (fail_if_success (with_reducible refine Rounds.mk ?_)); (fail_if_success (with_reducible show False)); (fail_if_success (with_reducible show True)); conv => whnf))) <;> first | exact trivial | (refine Leaf.mk ?_; first | rfl | (simp; done) | (refine ⟨by simp, ?_⟩; rw [rev_next hp0 (by omega)]; simp; done) | (rw [rev_next hp0 (by omega)]; simp; done) | exact ⟨by simp, rev_step hp0 (by omega)⟩ | (simp; omega)))
      all_goals try (have hj : j = xs.length := (by omega); subst hj)
      all_goals try simp only [tk_rot, tk_rev, f1, f2, List.take_length] at *
      all_goals try (have hnm := no_meas (xs := xs) (by assumption); obtain ⟨q1, q2, q3⟩ := hnm; simp only [q1, q2, q3] at *)
      all_goals try first | exact trivial | (show False; omega) | exact Leaf.mk trivial | exact Leaf.mk rfl | (refine VC.mk ?_; first | trivial | assumption | ((try simp only [InR] at *); omega) | (simp; done) | (simp; omega))
      all_goals try (refine VC.mk ?_; first | (simp; omega) | omega | (simp only [InR]; omega))
      all_goals try (refine Leaf.mk ?_; exfalso; first | contradiction | (simp at *; done))
      refine goes_inv (X := Nat) (pl := [(21, [0, 1, 2, 3, 4, 5, 6, 7, 8, 9, 10, 11, 12, 13, 14, 15, 16, 17, 18, 19, 20, 21, 22, 23, 24, 25, 26, 27], [0, 1, 3, 7, 15, 31, 15, 79, 255, 511, 1023, 2047, 2047, 8191, 16383, 32767, 65535, 131071, 32767, 294911, 819199, 2097151, 4194303, 8388607, 16777215, 33554431, 67108863, 134217727])]) T_ok (Cons.cons con_polygon_IsConvex (Cons.cons con_polygon_ShortestEdge (Cons.cons con_polygon_Area (Cons.cons con_polygon_Centroid (Cons.cons con_polygon_ConvexHull (Cons.cons con_polygon_Contains (Cons.cons con_ref11_EqualPoints (Cons.cons con_law11_example (Cons.nil _))))))))) mixed (by kernel_rfl)
        (fun i => (.sl 0 2 0 xs.length :: .any :: .any :: .any :: .any :: .any :: .osl false 2 2 xs.length :: .osl (decide (xs.length = 0)) 3 2 xs.length :: .any :: .osl (!hullOk xs) 4 2 (hullR xs).length :: .int .i64 (i : Int) :: .any :: .any :: .any :: .any :: .any :: .any :: .any :: .any :: .any :: .any :: .any :: .any :: .any :: .any :: .any :: .any :: .any :: .any :: .any :: .any :: .any :: .any :: .any :: .any :: .any :: .any :: .any :: .any :: .any :: .any :: .any :: .any :: .any :: .any :: .any :: .any :: .any :: .any :: .any :: .any :: .any :: .any :: .any :: .any :: .any :: .any :: .any :: .any :: .any :: .any :: .any :: .any :: .any :: .any :: .any :: .any :: .any :: .any :: .any :: .any :: .any :: .any :: .any :: .any :: .any :: .any :: .any :: .any :: .any :: .any :: .any :: .any :: .any :: .any :: .any :: .any :: .any :: .any :: .any :: .any :: .any :: .any :: .any :: .any :: .any :: .any :: .any :: .any :: .any :: .any :: .any :: .any :: .any :: .any :: .any :: .any :: .any :: .any :: .any :: .any :: .any :: .any :: .any :: .any :: .any :: .any :: .any :: [], [.arr false true 2 xs, .dead, .arr true true 2 (rot xs n), .arr true (!decide (xs.length = 0)) 2 xs.reverse, .arr true (!!hullOk xs) 2 (hullR xs)]))
        (fun i => i ≤ xs.length) (fun i => xs.length - i) 0 [0, 1, 2, 3, 4] (Nat.zero_le _) ?_ ?_ ?_
      · repeat' (first | (with_reducible refine And.intro ?_ ?_) | (with_reducible intro h) | ((fail_if_success (with_reducible refine Leaf.mk ?_)); (fail_if_success (with_reducible refine VC.mk ?_)); (fail_if_success (with_reducible refine Goes.mk ?_)); (fail_if_success (with_reducible refine Again.mk ?_)); (fail_if_success (with_reducible refine Rounds.mk ?_)); (fail_if_success (with_reducible show False)); (fail_if_success (with_reducible show True)); conv => whnf))
        all_goals first | exact trivial | (refine Leaf.mk ?_; first | rfl | exact ⟨rfl, rfl⟩ | (simp; done) | exact tk_rev xs | (simp [tk_rev]; done))
      · repeat' (first | (with_reducible refine And.intro ?_ ?_) | (with_reducible intro h) | ((fail_if_success (with_reducible refine Leaf.mk ?_)); (fail_if_success (with_reducible refine VC.mk ?_)); (fail_if_success (with_reducible refine Goes.mk ?_)); (fail_if_success (with_reducible refine Again.mk ?_)); (fail_if_success (with_reducible refine Rounds.mk ?_)); (fail_if_success (with_reducible show False)); (fail_if_success (with_reducible show True)); conv => whnf))
        all_goals first | exact trivial | (refine Leaf.mk ?_; first | rfl | exact ⟨rfl, rfl⟩ | (simp; done) | exact tk_rev xs | (simp [tk_rev]; done))
      · intro i hx
        have hcv : convB xs = true := (by assumption)
        have g1 := conv_ok hcv
        have g2 := rev_conv hcv
        have g3 := conv_hull_len hcv hp0
        repeat' (first | (with_reducible refine And.intro ?_ ?_) | (with_reducible intro h) | ((fail_if_success (with_reducible refine Leaf.mk ?_)); (fail_if_success (with_reducible refine VC.mk ?_)); (fail_if_success (with_reducible refine Goes.mk ?_)); (fail_if_success (with_reducible refine Again.mk ?_)); (fail_if_success (with_reducible refine Rounds.mk ?_)); (fail_if_success (with_reducible show False)); (fail_if_success (with_reducible show True)); conv => whnf))
        all_goals try simp only [Bool.not_eq_true', Bool.not_eq_false', Bool.and_eq_true, decide_eq_true_eq, decide_eq_false_iff_not, tkA, Nat.zero_add, Nat.reduceAdd, Int.toNat_natCast, tmN] at *
        all_goals try (have hj : j = xs.length := (by omega); subst hj)
        all_goals try simp only [tk_rot, tk_rev, f1, f2, List.take_length] at *
        all_goals try first | exact trivial | (show False; omega) | exact Leaf.mk trivial | exact Leaf.mk rfl | (refine VC.mk ?_; first | trivial | assumption | ((try simp only [InR] at *); omega) | (simp; done) | (simp; omega))
        all_goals try (refine Again.mk ⟨i + 1, [0, 1, 2, 3, 4], (by show i + 1 ≤ xs.length; omega), (by show xs.length - (i + 1) < xs.length - i; omega), ?_, ?_⟩ <;> (repeat' (first | (with_reducible refine And.intro ?_ ?_) | (with_reducible intro h) | ((fail_if_success (with_reducible refine Leaf.mk ?_)); (fail_if_success (with_reducible refine VC.mk ?_)); (fail_if_success (with_reducible refine Goes.mk ?_)); (fail_if_success (with_reducible refine Again.mk ?_)); (fail_if_success (with_reducible refine Rounds.mk ?_)); (fail_if_success (with_reducible show False)); (fail_if_success (with_reducible show True)); conv => whnf))) <;> first | exact trivial | (refine Leaf.mk ?_; first | rfl | exact ⟨rfl, rfl⟩ | (simp; done)))
        all_goals try (refine VC.mk ?_; first | exact g1 | (rw [List.length_reverse]; omega) | omega | assumption)
        all_goals try (have g4 := conv_has hcv (k := i) (by omega); refine Leaf.mk ?_; exfalso; simp_all; done)
        all_goals (refine Leaf.mk ?_; exfalso)
        all_goals try (have g5 := hull_first hcv hp0 hn2 (by assumption); simp_all; done)
        all_goals try (simp_all; done)
        all_goals try omega

theorem walk_PolygonRotatedVertices (k : Int) (bxs : Bool) (xs : List (List Int)) (w : World) (m : Ev.Map) (vxs : Value) (nxs : bxs = true → xs = []) (fxs : ∀ x ∈ xs, x.length = 2 ∧ ∀ y ∈ x, -9223372036854775808 ≤ y ∧ y ≤ 9223372036854775807) (dxs : Den m (rowArg bxs 0 2 xs) vxs ∧ BlkH m 0 w (.arr false (!bxs) 2 xs)) (uk : 0 ≤ k ∧ k ≤ 255) :
    Calls Try.prog 7 #[vxs, .int .u8 k] w fun e w' => e = .returned (.bool true) ∧ Below w.heap.size w w' := by
  cases bxs with
  | false =>
    exact Frame.calls_rows con_law_PolygonRotatedVertices [rowArg false 0 2 xs, .int .u8 k] (fun id => match id with | 0 => .arr false true 2 xs | _ => .dead) [k] _ _ [vxs, .int .u8 k] rfl (by simp [appP]) (List.forall_mem_cons.2 ⟨fun x hx => (fxs x (mem_tk hx)).1, (List.forall_mem_cons.2 ⟨uk, (List.forall_mem_nil _)⟩)⟩) m w ⟨dxs.1, rfl, trivial⟩ (fun id => by match id with | 0 => exact dxs.2 | _ + 1 => trivial) (fun id => by match id with | 0 => rfl | _ + 1 => rfl) rfl
  | true =>
    obtain rfl := nxs rfl
    exact Frame.calls_rows con_law_PolygonRotatedVertices [rowArg true 0 2 [], .int .u8 k] (fun id => match id with | 0 => .arr false false 2 [] | _ => .dead) [k] _ _ [vxs, .int .u8 k] rfl (by simp [appP]) (List.forall_mem_cons.2 ⟨fun x hx => (by cases hx), (List.forall_mem_cons.2 ⟨uk, (List.forall_mem_nil _)⟩)⟩) m w ⟨dxs.1, rfl, trivial⟩ (fun id => by match id with | 0 => exact dxs.2 | _ + 1 => trivial) (fun id => by match id with | 0 => rfl | _ + 1 => rfl) rfl
end Go.Proofs.Ytbichdbapkpjpaa
