/- Contracts of package bvh: collecting. -/
import Derived.Test.YtkfaflhhkmkdjaaU8
import Derived.Test.YtkfaflhhkmkdjaaBA
namespace Go.Proofs.Ytkfaflhhkmkdjaa
open Go.RowKit Fx Vx Bx Ev
set_option linter.unusedVariables false
set_option linter.unusedSimpArgs false
def c_ids (k : Nat) : Con := ⟨17, roRun true 1 1 [.np 0] (fun l N H b xs => match l, N, H with | [], [n], ⟨nd, tr, mp⟩ => [colOK (allT) k nd n = true, xs.length + (colE (allT) k nd n).length ≤ 1000000] | _, _, _ => [False]) fun l N H b xs => match l, N, H with
  | [], [n], ⟨nd, tr, mp⟩ => [.rows (colB (allT) k nd n b) 1 (xs ++ colE (allT) k nd n)]
  | _, _, _ => []⟩
set_option maxRecDepth 100000 in
set_option maxHeartbeats 2000000 in
theorem con_ids (k : Nat) : (c_ids k).Ok Try.prog := by
  induction k with
  | zero =>
    refine con_ro ?_; refine con_st (C := []) (pl := [(5, [0, 1, 2, 3, 4, 5, 6, 7, 8, 9, 10, 11], [0, 1, 3, 7, 0, 16, 48, 112, 0, 496, 1023, 2047])]) Try.func17 rfl (by kernel_rfl) T_ok (Cons.nil _) mixed (by kernel_rfl) true 1 1 _ _ _ (fun l N H b xs hl hN hbx hpre => ?_)
    match l, hl, N, hN, H with
    | [], _, [n], _, ⟨nd, tr, mp⟩ => exact absurd (hpre _ (List.Mem.head _)) Bool.false_ne_true
  | succ k ih =>
    refine con_ro ?_; refine con_st (C := [c_leaf, c_ids k]) (pl := [(5, [0, 1, 2, 3, 4, 5, 6, 7, 8, 9, 10, 11], [0, 1, 3, 7, 0, 16, 48, 112, 0, 496, 1023, 2047])]) Try.func17 rfl (by kernel_rfl) T_ok (Cons.cons con_leaf (Cons.cons ih (Cons.nil _))) mixed (by kernel_rfl) true 1 1 _ _ _ (fun l N H b xs hl hN hbx hpre => ?_)
    match l, hl, N, hN, H with
    | [], zl, [n], zN, ⟨nd, tr, mp⟩ =>
      clear zl zN
      have hp0 := hpre _ (List.Mem.head _); try dsimp only at hp0
      have hp1 := hpre _ (List.Mem.tail _ (List.Mem.head _)); try dsimp only at hp1
      clear hpre hl hN
      cases b with
      | true =>
        obtain rfl : xs = [] := hbx rfl
        cases hn : decide (n = 0) with
        | true =>
          have e := col_0 (T := allT) (k := k) (nd := nd) hn
          have e2 := colB_eq (b := true) e
          repeat' (first | (with_reducible refine And.intro ?_ ?_) | (with_reducible intro h) | ((fail_if_success (with_reducible refine Leaf.mk ?_)); (fail_if_success (with_reducible refine VC.mk ?_)); (fail_if_success (with_reducible refine Goes.mk ?_)); (fail_if_success (with_reducible refine Again.mk ?_)); (fail_if_success (with_reducible refine Rounds.mk ?_)); (fail_if_success (with_reducible show False)); (fail_if_success (with_reducible show True)); conv => whnf))
          all_goals try first | exact trivial | exact (bc2 hn (by assumption)).elim | (refine VC.mk ?_; first | rfl | omega) | (refine Leaf.mk ?_; first | rfl | (simp only [e, e2, List.append_nil, List.isEmpty_nil, Bool.and_true, Bool.true_and, List.take_length]; done) | (simp [e, e2]; done))
        | false =>
          obtain ⟨w1, w2⟩ := col_facts hp0 hn
          cases ht : (allT) (getN nd n) with
          | false =>
            have e := col_1 (T := allT) (k := k) hn ht
            have e2 := colB_eq (b := true) e
            have ht2 : true = false := ht
            repeat' (first | (with_reducible refine And.intro ?_ ?_) | (with_reducible intro h) | ((fail_if_success (with_reducible refine Leaf.mk ?_)); (fail_if_success (with_reducible refine VC.mk ?_)); (fail_if_success (with_reducible refine Goes.mk ?_)); (fail_if_success (with_reducible refine Again.mk ?_)); (fail_if_success (with_reducible refine Rounds.mk ?_)); (fail_if_success (with_reducible show False)); (fail_if_success (with_reducible show True)); conv => whnf))
            all_goals try first | exact trivial | exact (bc2 (by assumption) hn).elim | exact (bc3 ht2 (by assumption)).elim | exact (Bool.noConfusion ht2) | (refine VC.mk ?_; first | rfl | omega) | (refine Leaf.mk ?_; first | rfl | (simp [e, e2]; done))
          | true =>
            obtain ⟨w3, w4⟩ := w2 ht
            have ht2 : true = true := ht
            cases hl : decide ((getN nd n).l = 0) with
            | true =>
              have e3 := trivial
              have e := col_2 (T := allT) (k := k) hn ht hl
              have e2 := colB_eq (b := true) e
              rw [e] at hp1
              simp only [List.length_cons, List.length_nil] at hp1
              repeat' (first | (with_reducible refine And.intro ?_ ?_) | (with_reducible intro h) | ((fail_if_success (with_reducible refine Leaf.mk ?_)); (fail_if_success (with_reducible refine VC.mk ?_)); (fail_if_success (with_reducible refine Goes.mk ?_)); (fail_if_success (with_reducible refine Again.mk ?_)); (fail_if_success (with_reducible refine Rounds.mk ?_)); (fail_if_success (with_reducible show False)); (fail_if_success (with_reducible show True)); conv => whnf))
              all_goals try first | exact trivial | exact (bc2 (by assumption) hn).elim | exact (bc1 ht2 (by assumption)).elim | exact (bc2 hl (by assumption)).elim | (refine VC.mk ?_; first | rfl | omega | (simp only [okN_iff]; omega) | (simp only [InR]; omega) | (simp; done) | (simp [e, e2]; done) | (simp; omega) | (intro hh; rw [hh]; rfl) | (intro hh; rw [e3] at hh; rw [hh]; rfl)) | (refine Leaf.mk ?_; first | rfl | (simp [e, e2]; done) | (simp only [List.take_length, e, all1_take]; done))
            | false =>
              obtain ⟨w5, w6, w7⟩ := w4 hl
              have e := col_3 (T := allT) (k := k) hn ht hl
              have e2 := colB_eq (b := true) e
              have e3 := colB_app (b := true) e
              rw [e, List.length_append] at hp1
              repeat' (first | (with_reducible refine And.intro ?_ ?_) | (with_reducible intro h) | ((fail_if_success (with_reducible refine Leaf.mk ?_)); (fail_if_success (with_reducible refine VC.mk ?_)); (fail_if_success (with_reducible refine Goes.mk ?_)); (fail_if_success (with_reducible refine Again.mk ?_)); (fail_if_success (with_reducible refine Rounds.mk ?_)); (fail_if_success (with_reducible show False)); (fail_if_success (with_reducible show True)); conv => whnf))
              all_goals try first | exact trivial | exact (bc2 (by assumption) hn).elim | exact (bc1 ht2 (by assumption)).elim | exact (bc2 (by assumption) hl).elim | (refine VC.mk ?_; first | rfl | assumption | omega | (simp only [okN_iff]; omega) | (simp only [InR]; omega) | (simp; done) | (simp [e, e2]; done) | (simp; omega) | (intro hh; rw [hh]; rfl) | (intro hh; rw [e3] at hh; rw [hh]; rfl)) | (refine Leaf.mk ?_; first | rfl | exact e3.symm | (simp only [List.take_length, e, List.append_assoc, List.nil_append]; done))
      | false =>
        cases hn : decide (n = 0) with
        | true =>
          have e := col_0 (T := allT) (k := k) (nd := nd) hn
          have e2 := colB_eq (b := false) e
          repeat' (first | (with_reducible refine And.intro ?_ ?_) | (with_reducible intro h) | ((fail_if_success (with_reducible refine Leaf.mk ?_)); (fail_if_success (with_reducible refine VC.mk ?_)); (fail_if_success (with_reducible refine Goes.mk ?_)); (fail_if_success (with_reducible refine Again.mk ?_)); (fail_if_success (with_reducible refine Rounds.mk ?_)); (fail_if_success (with_reducible show False)); (fail_if_success (with_reducible show True)); conv => whnf))
          all_goals try first | exact trivial | exact (bc2 hn (by assumption)).elim | (refine VC.mk ?_; first | rfl | omega) | (refine Leaf.mk ?_; first | rfl | (simp only [e, e2, List.append_nil, List.isEmpty_nil, Bool.and_true, Bool.true_and, List.take_length]; done) | (simp [e, e2]; done))
        | false =>
          obtain ⟨w1, w2⟩ := col_facts hp0 hn
          cases ht : (allT) (getN nd n) with
          | false =>
            have e := col_1 (T := allT) (k := k) hn ht
            have e2 := colB_eq (b := false) e
            have ht2 : true = false := ht
            repeat' (first | (with_reducible refine And.intro ?_ ?_) | (with_reducible intro h) | ((fail_if_success (with_reducible refine Leaf.mk ?_)); (fail_if_success (with_reducible refine VC.mk ?_)); (fail_if_success (with_reducible refine Goes.mk ?_)); (fail_if_success (with_reducible refine Again.mk ?_)); (fail_if_success (with_reducible refine Rounds.mk ?_)); (fail_if_success (with_reducible show False)); (fail_if_success (with_reducible show True)); conv => whnf))
            all_goals try first | exact trivial | exact (bc2 (by assumption) hn).elim | exact (bc3 ht2 (by assumption)).elim | exact (Bool.noConfusion ht2) | (refine VC.mk ?_; first | rfl | omega) | (refine Leaf.mk ?_; first | rfl | (simp [e, e2]; done))
          | true =>
            obtain ⟨w3, w4⟩ := w2 ht
            have ht2 : true = true := ht
            cases hl : decide ((getN nd n).l = 0) with
            | true =>
              have e3 := trivial
              have e := col_2 (T := allT) (k := k) hn ht hl
              have e2 := colB_eq (b := false) e
              rw [e] at hp1
              simp only [List.length_cons, List.length_nil] at hp1
              repeat' (first | (with_reducible refine And.intro ?_ ?_) | (with_reducible intro h) | ((fail_if_success (with_reducible refine Leaf.mk ?_)); (fail_if_success (with_reducible refine VC.mk ?_)); (fail_if_success (with_reducible refine Goes.mk ?_)); (fail_if_success (with_reducible refine Again.mk ?_)); (fail_if_success (with_reducible refine Rounds.mk ?_)); (fail_if_success (with_reducible show False)); (fail_if_success (with_reducible show True)); conv => whnf))
              all_goals try first | exact trivial | exact (bc2 (by assumption) hn).elim | exact (bc1 ht2 (by assumption)).elim | exact (bc2 hl (by assumption)).elim | (refine VC.mk ?_; first | rfl | omega | (simp only [okN_iff]; omega) | (simp only [InR]; omega) | (simp; done) | (simp [e, e2]; done) | (simp; omega) | (intro hh; rw [hh]; rfl) | (intro hh; rw [e3] at hh; rw [hh]; rfl)) | (refine Leaf.mk ?_; first | rfl | (simp [e, e2]; done) | (simp only [List.take_length, e, all1_take]; done))
            | false =>
              obtain ⟨w5, w6, w7⟩ := w4 hl
              have e := col_3 (T := allT) (k := k) hn ht hl
              have e2 := colB_eq (b := false) e
              have e3 := colB_app (b := false) e
              rw [e, List.length_append] at hp1
              repeat' (first | (with_reducible refine And.intro ?_ ?_) | (with_reducible intro h) | ((fail_if_success (with_reducible refine Leaf.mk ?_)); (fail_if_success (with_reducible refine VC.mk ?_)); (fail_if_success (with_reducible refine Goes.mk ?_)); (fail_if_success (with_reducible refine Again.mk ?_)); (fail_if_success (with_reducible refine Rounds.mk ?_)); (fail_if_success (with_reducible show False)); (fail_if_success (with_reducible show True)); conv => whnf))
              all_goals try first | exact trivial | exact (bc2 (by assumption) hn).elim | exact (bc1 ht2 (by assumption)).elim | exact (bc2 (by assumption) hl).elim | (refine VC.mk ?_; first | rfl | assumption | omega | (simp only [okN_iff]; omega) | (simp only [InR]; omega) | (simp; done) | (simp [e, e2]; done) | (simp; omega) | (intro hh; rw [hh]; rfl) | (intro hh; rw [e3] at hh; rw [hh]; rfl)) | (refine Leaf.mk ?_; first | rfl | exact e3.symm | (simp only [List.take_length, e, List.append_assoc, List.nil_append]; done))
def c_collect (k : Nat) : Con := ⟨29, roRun true 2 1 [.np 0, .num 4] (fun l N H b xs => match l, N, H with | [a, bb, c, d], [n], ⟨nd, tr, mp⟩ => [colOK (ovT a bb c d) k nd n = true, xs.length + (colE (ovT a bb c d) k nd n).length ≤ 1000000] | _, _, _ => [False]) fun l N H b xs => match l, N, H with
  | [a, bb, c, d], [n], ⟨nd, tr, mp⟩ => [.rows (colB (ovT a bb c d) k nd n b) 1 (xs ++ colE (ovT a bb c d) k nd n)]
  | _, _, _ => []⟩
set_option maxRecDepth 100000 in
set_option maxHeartbeats 2000000 in
theorem con_collect (k : Nat) : (c_collect k).Ok Try.prog := by
  induction k with
  | zero =>
    refine con_ro ?_; refine con_st (C := []) (pl := [(1, [0, 1, 2, 3, 4, 5, 6, 7, 8, 9, 10], [0, 1, 3, 7, 15, 31, 63, 7, 255, 511, 1023]), (5, [0, 1, 2, 3, 4, 5, 6, 7, 8, 9, 10, 11, 12, 13], [0, 1, 3, 7, 0, 0, 32, 96, 224, 0, 0, 2016, 4095, 8191])]) Try.func29 rfl (by kernel_rfl) T_ok (Cons.nil _) mixed (by kernel_rfl) true 2 1 _ _ _ (fun l N H b xs hl hN hbx hpre => ?_)
    match l, hl, N, hN, H with
    | [a, bb, c, d], _, [n], _, ⟨nd, tr, mp⟩ => exact absurd (hpre _ (List.Mem.head _)) Bool.false_ne_true
  | succ k ih =>
    refine con_ro ?_; refine con_st (C := [c_aabb_Overlaps, c_leaf, c_collect k]) (pl := [(1, [0, 1, 2, 3, 4, 5, 6, 7, 8, 9, 10], [0, 1, 3, 7, 15, 31, 63, 7, 255, 511, 1023]), (5, [0, 1, 2, 3, 4, 5, 6, 7, 8, 9, 10, 11, 12, 13], [0, 1, 3, 7, 0, 0, 32, 96, 224, 0, 0, 2016, 4095, 8191])]) Try.func29 rfl (by kernel_rfl) T_ok (Cons.cons con_aabb_Overlaps (Cons.cons con_leaf (Cons.cons ih (Cons.nil _)))) mixed (by kernel_rfl) true 2 1 _ _ _ (fun l N H b xs hl hN hbx hpre => ?_)
    match l, hl, N, hN, H with
    | [a, bb, c, d], zl, [n], zN, ⟨nd, tr, mp⟩ =>
      clear zl zN
      have hp0 := hpre _ (List.Mem.head _); try dsimp only at hp0
      have hp1 := hpre _ (List.Mem.tail _ (List.Mem.head _)); try dsimp only at hp1
      clear hpre hl hN
      cases b with
      | true =>
        obtain rfl : xs = [] := hbx rfl
        cases hn : decide (n = 0) with
        | true =>
          have e := col_0 (T := ovT a bb c d) (k := k) (nd := nd) hn
          have e2 := colB_eq (b := true) e
          repeat' (first | (with_reducible refine And.intro ?_ ?_) | (with_reducible intro h) | ((fail_if_success (with_reducible refine Leaf.mk ?_)); (fail_if_success (with_reducible refine VC.mk ?_)); (fail_if_success (with_reducible refine Goes.mk ?_)); (fail_if_success (with_reducible refine Again.mk ?_)); (fail_if_success (with_reducible refine Rounds.mk ?_)); (fail_if_success (with_reducible show False)); (fail_if_success (with_reducible show True)); conv => whnf))
          all_goals try first | exact trivial | exact (bc2 hn (by assumption)).elim | (refine VC.mk ?_; first | rfl | omega) | (refine Leaf.mk ?_; first | rfl | (simp only [e, e2, List.append_nil, List.isEmpty_nil, Bool.and_true, Bool.true_and, List.take_length]; done) | (simp [e, e2]; done))
        | false =>
          obtain ⟨w1, w2⟩ := col_facts hp0 hn
          cases ht : (ovT a bb c d) (getN nd n) with
          | false =>
            have e := col_1 (T := ovT a bb c d) (k := k) hn ht
            have e2 := colB_eq (b := true) e
            have ht2 : ovT a bb c d (getN nd n) = false := ht
            repeat' (first | (with_reducible refine And.intro ?_ ?_) | (with_reducible intro h) | ((fail_if_success (with_reducible refine Leaf.mk ?_)); (fail_if_success (with_reducible refine VC.mk ?_)); (fail_if_success (with_reducible refine Goes.mk ?_)); (fail_if_success (with_reducible refine Again.mk ?_)); (fail_if_success (with_reducible refine Rounds.mk ?_)); (fail_if_success (with_reducible show False)); (fail_if_success (with_reducible show True)); conv => whnf))
            all_goals try first | exact trivial | exact (bc2 (by assumption) hn).elim | exact (bc3 ht2 (by assumption)).elim | exact (Bool.noConfusion ht2) | (refine VC.mk ?_; first | rfl | omega) | (refine Leaf.mk ?_; first | rfl | (simp [e, e2]; done))
          | true =>
            obtain ⟨w3, w4⟩ := w2 ht
            have ht2 : ovT a bb c d (getN nd n) = true := ht
            cases hl : decide ((getN nd n).l = 0) with
            | true =>
              have e3 := trivial
              have e := col_2 (T := ovT a bb c d) (k := k) hn ht hl
              have e2 := colB_eq (b := true) e
              rw [e] at hp1
              simp only [List.length_cons, List.length_nil] at hp1
              repeat' (first | (with_reducible refine And.intro ?_ ?_) | (with_reducible intro h) | ((fail_if_success (with_reducible refine Leaf.mk ?_)); (fail_if_success (with_reducible refine VC.mk ?_)); (fail_if_success (with_reducible refine Goes.mk ?_)); (fail_if_success (with_reducible refine Again.mk ?_)); (fail_if_success (with_reducible refine Rounds.mk ?_)); (fail_if_success (with_reducible show False)); (fail_if_success (with_reducible show True)); conv => whnf))
              all_goals try first | exact trivial | exact (bc2 (by assumption) hn).elim | exact (bc1 ht2 (by assumption)).elim | exact (bc2 hl (by assumption)).elim | (refine VC.mk ?_; first | rfl | omega | (simp only [okN_iff]; omega) | (simp only [InR]; omega) | (simp; done) | (simp [e, e2]; done) | (simp; omega) | (intro hh; rw [hh]; rfl) | (intro hh; rw [e3] at hh; rw [hh]; rfl)) | (refine Leaf.mk ?_; first | rfl | (simp [e, e2]; done) | (simp only [List.take_length, e, all1_take]; done))
            | false =>
              obtain ⟨w5, w6, w7⟩ := w4 hl
              have e := col_3 (T := ovT a bb c d) (k := k) hn ht hl
              have e2 := colB_eq (b := true) e
              have e3 := colB_app (b := true) e
              rw [e, List.length_append] at hp1
              repeat' (first | (with_reducible refine And.intro ?_ ?_) | (with_reducible intro h) | ((fail_if_success (with_reducible refine Leaf.mk ?_)); (fail_if_success (with_reducible refine VC.mk ?_)); (fail_if_success (with_reducible refine Goes.mk ?_)); (fail_if_success (with_reducible refine Again.mk ?_)); (fail_if_success (with_reducible refine Rounds.mk ?_)); (fail_if_success (with_reducible show False)); (fail_if_success (with_reducible show True)); conv => whnf))
              all_goals try first | exact trivial | exact (bc2 (by assumption) hn).elim | exact (bc1 ht2 (by assumption)).elim | exact (bc2 (by assumption) hl).elim | (refine VC.mk ?_; first | rfl | assumption | omega | (simp only [okN_iff]; omega) | (simp only [InR]; omega) | (simp; done) | (simp [e, e2]; done) | (simp; omega) | (intro hh; rw [hh]; rfl) | (intro hh; rw [e3] at hh; rw [hh]; rfl)) | (refine Leaf.mk ?_; first | rfl | exact e3.symm | (simp only [List.take_length, e, List.append_assoc, List.nil_append]; done))
      | false =>
        cases hn : decide (n = 0) with
        | true =>
          have e := col_0 (T := ovT a bb c d) (k := k) (nd := nd) hn
          have e2 := colB_eq (b := false) e
          repeat' (first | (with_reducible refine And.intro ?_ ?_) | (with_reducible intro h) | ((fail_if_success (with_reducible refine Leaf.mk ?_)); (fail_if_success (with_reducible refine VC.mk ?_)); (fail_if_success (with_reducible refine Goes.mk ?_)); (fail_if_success (with_reducible refine Again.mk ?_)); (fail_if_success (with_reducible refine Rounds.mk ?_)); (fail_if_success (with_reducible show False)); (fail_if_success (with_reducible show True)); conv => whnf))
          all_goals try first | exact trivial | exact (bc2 hn (by assumption)).elim | (refine VC.mk ?_; first | rfl | omega) | (refine Leaf.mk ?_; first | rfl | (simp only [e, e2, List.append_nil, List.isEmpty_nil, Bool.and_true, Bool.true_and, List.take_length]; done) | (simp [e, e2]; done))
        | false =>
          obtain ⟨w1, w2⟩ := col_facts hp0 hn
          cases ht : (ovT a bb c d) (getN nd n) with
          | false =>
            have e := col_1 (T := ovT a bb c d) (k := k) hn ht
            have e2 := colB_eq (b := false) e
            have ht2 : ovT a bb c d (getN nd n) = false := ht
            repeat' (first | (with_reducible refine And.intro ?_ ?_) | (with_reducible intro h) | ((fail_if_success (with_reducible refine Leaf.mk ?_)); (fail_if_success (with_reducible refine VC.mk ?_)); (fail_if_success (with_reducible refine Goes.mk ?_)); (fail_if_success (with_reducible refine Again.mk ?_)); (fail_if_success (with_reducible refine Rounds.mk ?_)); (fail_if_success (with_reducible show False)); (fail_if_success (with_reducible show True)); conv => whnf))
            all_goals try first | exact trivial | exact (bc2 (by assumption) hn).elim | exact (bc3 ht2 (by assumption)).elim | exact (Bool.noConfusion ht2) | (refine VC.mk ?_; first | rfl | omega) | (refine Leaf.mk ?_; first | rfl | (simp [e, e2]; done))
          | true =>
            obtain ⟨w3, w4⟩ := w2 ht
            have ht2 : ovT a bb c d (getN nd n) = true := ht
            cases hl : decide ((getN nd n).l = 0) with
            | true =>
              have e3 := trivial
              have e := col_2 (T := ovT a bb c d) (k := k) hn ht hl
              have e2 := colB_eq (b := false) e
              rw [e] at hp1
              simp only [List.length_cons, List.length_nil] at hp1
              repeat' (first | (with_reducible refine And.intro ?_ ?_) | (with_reducible intro h) | ((fail_if_success (with_reducible refine Leaf.mk ?_)); (fail_if_success (with_reducible refine VC.mk ?_)); (fail_if_success (with_reducible refine Goes.mk ?_)); (fail_if_success (with_reducible refine Again.mk ?_)); (fail_if_success (with_reducible refine Rounds.mk ?_)); (fail_if_success (with_reducible show False)); (fail_if_success (with_reducible show True)); conv => whnf))
              all_goals try first | exact trivial | exact (bc2 (by assumption) hn).elim | exact (bc1 ht2 (by assumption)).elim | exact (bc2 hl (by assumption)).elim | (refine VC.mk ?_; first | rfl | omega | (simp only [okN_iff]; omega) | (simp only [InR]; omega) | (simp; done) | (simp [e, e2]; done) | (simp; omega) | (intro hh; rw [hh]; rfl) | (intro hh; rw [e3] at hh; rw [hh]; rfl)) | (refine Leaf.mk ?_; first | rfl | (simp [e, e2]; done) | (simp only [List.take_length, e, all1_take]; done))
            | false =>
              obtain ⟨w5, w6, w7⟩ := w4 hl
              have e := col_3 (T := ovT a bb c d) (k := k) hn ht hl
              have e2 := colB_eq (b := false) e
              have e3 := colB_app (b := false) e
              rw [e, List.length_append] at hp1
              repeat' (first | (with_reducible refine And.intro ?_ ?_) | (with_reducible intro h) | ((fail_if_success (with_reducible refine Leaf.mk ?_)); (fail_if_success (with_reducible refine VC.mk ?_)); (fail_if_success (with_reducible refine Goes.mk ?_)); (fail_if_success (with_reducible refine Again.mk ?_)); (fail_if_success (with_reducible refine Rounds.mk ?_)); (fail_if_success (with_reducible show False)); (fail_if_success (with_reducible show True)); conv => whnf))
              all_goals try first | exact trivial | exact (bc2 (by assumption) hn).elim | exact (bc1 ht2 (by assumption)).elim | exact (bc2 (by assumption) hl).elim | (refine VC.mk ?_; first | rfl | assumption | omega | (simp only [okN_iff]; omega) | (simp only [InR]; omega) | (simp; done) | (simp [e, e2]; done) | (simp; omega) | (intro hh; rw [hh]; rfl) | (intro hh; rw [e3] at hh; rw [hh]; rfl)) | (refine Leaf.mk ?_; first | rfl | exact e3.symm | (simp only [List.take_length, e, List.append_assoc, List.nil_append]; done))

end Go.Proofs.Ytkfaflhhkmkdjaa
