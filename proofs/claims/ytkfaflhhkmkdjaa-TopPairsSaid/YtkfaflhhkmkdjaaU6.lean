/- Contracts of package bvh: the methods of a tree. -/
import Derived.Test.YtkfaflhhkmkdjaaUX
namespace Go.Proofs.Ytkfaflhhkmkdjaa
open Go.RowKit Fx Vx Bx Ev
set_option linter.unusedVariables false
set_option linter.unusedSimpArgs false
def c_New : Con := ⟨4, stRun false 0 0 [] (fun l N H _ _ => match l, N, H with | [], [], ⟨nd, tr, mp⟩ => [] | _, _, _ => [False]) fun l N H _ _ => match l, N, H with
  | [], [], ⟨nd, tr, mp⟩ => ⟨[.val (.np 0 1 (tr.length + 1) 0)], ⟨nd, tr ++ [(0, mp.length + 1)], mp ++ [[]]⟩⟩
  | _, _, _ => ⟨[], ⟨[], [], []⟩⟩⟩
set_option maxRecDepth 100000 in
set_option maxHeartbeats 2000000 in
theorem con_New : c_New.Ok Try.prog := by
  refine con_st (C := []) (pl := []) Try.func4 rfl (by kernel_rfl) T_ok (Cons.nil _) mixed (by kernel_rfl) false 0 0 _ _ _ (fun l N H b xs hl hN hbx hpre => ?_)
  match l, hl, N, hN, H with
  | [], zl, [], zN, ⟨nd, tr, mp⟩ =>
    clear zl zN
    clear hpre hl hN hbx
    repeat' (first | (with_reducible refine And.intro ?_ ?_) | (with_reducible intro h) | ((fail_if_success (with_reducible refine Leaf.mk ?_)); (fail_if_success (with_reducible refine VC.mk ?_)); (fail_if_success (with_reducible refine Goes.mk ?_)); (fail_if_success (with_reducible refine Again.mk ?_)); (fail_if_success (with_reducible refine Rounds.mk ?_)); (fail_if_success (with_reducible show False)); (fail_if_success (with_reducible show True)); conv => whnf))
    all_goals first | exact trivial | exact Leaf.mk rfl
def c_Len : Con := ⟨10, roRun false 0 0 [.np 1] (fun l N H _ _ => match l, N, H with | [], [t], ⟨nd, tr, mp⟩ => [lenOK tr mp t = true] | _, _, _ => [False]) fun l N H _ _ => match l, N, H with
  | [], [t], ⟨nd, tr, mp⟩ => [.val (.int .i64 (lenE tr mp t))]
  | _, _, _ => []⟩
set_option maxRecDepth 100000 in
set_option maxHeartbeats 2000000 in
theorem con_Len : c_Len.Ok Try.prog := by
  refine con_ro ?_; refine con_st (C := []) (pl := []) Try.func10 rfl (by kernel_rfl) T_ok (Cons.nil _) mixed (by kernel_rfl) false 0 0 _ _ _ (fun l N H b xs hl hN hbx hpre => ?_)
  match l, hl, N, hN, H with
  | [], zl, [t], zN, ⟨nd, tr, mp⟩ =>
    clear zl zN
    have hp0 := hpre _ (List.Mem.head _); try dsimp only at hp0
    clear hpre hl hN hbx
    cases ht : decide (t = 0) with
    | true =>
      repeat' (first | (with_reducible refine And.intro ?_ ?_) | (with_reducible intro h) | ((fail_if_success (with_reducible refine Leaf.mk ?_)); (fail_if_success (with_reducible refine VC.mk ?_)); (fail_if_success (with_reducible refine Goes.mk ?_)); (fail_if_success (with_reducible refine Again.mk ?_)); (fail_if_success (with_reducible refine Rounds.mk ?_)); (fail_if_success (with_reducible show False)); (fail_if_success (with_reducible show True)); conv => whnf))
      all_goals try first | exact trivial | exact (bc2 ht (by assumption)).elim | (refine Leaf.mk ?_; first | rfl | (simp only [lenE, ht, cond_true, Bool.not_true, Bool.false_and, cond_false]; done))
    | false =>
      simp only [lenOK, ht, Bool.false_or, Bool.and_eq_true, Bool.or_eq_true, okT_iff, okN_iff, Nat.ble_eq, decide_eq_true_eq, Bool.not_eq_true'] at hp0
      repeat' (first | (with_reducible refine And.intro ?_ ?_) | (with_reducible intro h) | ((fail_if_success (with_reducible refine Leaf.mk ?_)); (fail_if_success (with_reducible refine VC.mk ?_)); (fail_if_success (with_reducible refine Goes.mk ?_)); (fail_if_success (with_reducible refine Again.mk ?_)); (fail_if_success (with_reducible refine Rounds.mk ?_)); (fail_if_success (with_reducible show False)); (fail_if_success (with_reducible show True)); conv => whnf))
      all_goals try first | exact trivial | exact (bc2 (by assumption) ht).elim | (refine Leaf.mk ?_; first | rfl | (simp only [lenE, ht, *, cond_true, Bool.not_false, Bool.true_and, cond_false]; done)) | (refine VC.mk ?_; first | assumption | omega | (simp_all; done) | (simp_all; omega))
def c_Insert : Con := ⟨13, stRun false 0 0 [.np 1, .num 0, .num 4] (fun l N H _ _ => match l, N, H with | [id, a, b, c, d], [t], ⟨nd, tr, mp⟩ => [inOK nd tr mp t id a b c d = true] | _, _, _ => [False]) fun l N H _ _ => match l, N, H with
  | [id, a, b, c, d], [t], ⟨nd, tr, mp⟩ => ⟨[.val (.int .i64 (insE tr mp t id a b c d))], ⟨inN nd tr mp t id a b c d, inT nd tr mp t id a b c d, inM nd tr mp t id a b c d⟩⟩
  | _, _, _ => ⟨[], ⟨[], [], []⟩⟩⟩
set_option maxRecDepth 100000 in
set_option maxHeartbeats 2000000 in
theorem con_Insert : c_Insert.Ok Try.prog := by
  refine con_st (C := [c_aabb_Valid, c_attach]) (pl := []) Try.func13 rfl (by kernel_rfl) T_ok (Cons.cons con_aabb_Valid (Cons.cons con_attach (Cons.nil _))) mixed (by kernel_rfl) false 0 0 _ _ _ (fun l N H b xs hl hN hbx hpre => ?_)
  match l, hl, N, hN, H with
  | [id, a, b, c, d], zl, [t], zN, ⟨nd, tr, mp⟩ =>
    clear zl zN
    have hp0 := hpre _ (List.Mem.head _); try dsimp only at hp0
    clear hpre hl hN hbx
    cases ht : decide (t = 0) with
    | true =>
      repeat' (first | (with_reducible refine And.intro ?_ ?_) | (with_reducible intro h) | ((fail_if_success (with_reducible refine Leaf.mk ?_)); (fail_if_success (with_reducible refine VC.mk ?_)); (fail_if_success (with_reducible refine Goes.mk ?_)); (fail_if_success (with_reducible refine Again.mk ?_)); (fail_if_success (with_reducible refine Rounds.mk ?_)); (fail_if_success (with_reducible show False)); (fail_if_success (with_reducible show True)); conv => whnf))
      all_goals try first | exact trivial | exact (bc2 ht (by assumption)).elim | (refine Leaf.mk ?_; first | rfl | (have q := insE_0 tr mp id a b c d (by assumption); have q2 := in_no (nd := nd) q (by decide); simp only [q, q2.1, q2.2.1, q2.2.2]; done) | (have q := insE_1 tr mp id a b c d ht (by assumption); have q2 := in_no (nd := nd) q (by decide); simp only [q, q2.1, q2.2.1, q2.2.2]; done) | (have q := insE_2 (a := a) (b := b) (c := c) (d := d) ht (by assumption) (by assumption); have q2 := in_no (nd := nd) q (by decide); simp only [q, q2.1, q2.2.1, q2.2.2]; done) | (have q := insE_3 (a := a) (b := b) (c := c) (d := d) ht (by assumption) (by assumption) (by assumption); have q2 := in_no (nd := nd) q (by decide); simp only [q, q2.1, q2.2.1, q2.2.2]; done) | (have q := insE_4 (a := a) (b := b) (c := c) (d := d) ht (by assumption) (by assumption) (by assumption); have q2 := in_yes (nd := nd) q; simp only [q, q2.2.1, q2.2.2.1, q2.2.2.2, insMp, i1, i2]; done) | (have q := insE_4 (a := a) (b := b) (c := c) (d := d) ht (by assumption) (by assumption) (by assumption); have q2 := in_yes (nd := nd) q; simp only [q, q2.2.1, q2.2.2.1, q2.2.2.2, insMp, i1, i2]; rfl))
    | false =>
      obtain ⟨w1, w2, w3⟩ := in_facts hp0 ht
      cases hm : decide ((getT tr t).2 = 0) with
      | true =>
        have i1 : insTr tr mp t = wMap tr t (mp.length + 1) := by simp only [insTr, hm, cond_true]
        have i2 : insM0 tr mp t = mp ++ [[]] := by simp only [insM0, hm, cond_true]
        repeat' (first | (with_reducible refine And.intro ?_ ?_) | (with_reducible intro h) | ((fail_if_success (with_reducible refine Leaf.mk ?_)); (fail_if_success (with_reducible refine VC.mk ?_)); (fail_if_success (with_reducible refine Goes.mk ?_)); (fail_if_success (with_reducible refine Again.mk ?_)); (fail_if_success (with_reducible refine Rounds.mk ?_)); (fail_if_success (with_reducible show False)); (fail_if_success (with_reducible show True)); conv => whnf))
        all_goals try first | exact trivial | exact (bc2 (by assumption) ht).elim | exact (bc2 hm (by assumption)).elim | (refine Leaf.mk ?_; first | rfl | (have q := insE_0 tr mp id a b c d (by assumption); have q2 := in_no (nd := nd) q (by decide); simp only [q, q2.1, q2.2.1, q2.2.2]; done) | (have q := insE_1 tr mp id a b c d ht (by assumption); have q2 := in_no (nd := nd) q (by decide); simp only [q, q2.1, q2.2.1, q2.2.2]; done) | (have q := insE_2 (a := a) (b := b) (c := c) (d := d) ht (by assumption) (by assumption); have q2 := in_no (nd := nd) q (by decide); simp only [q, q2.1, q2.2.1, q2.2.2]; done) | (have q := insE_3 (a := a) (b := b) (c := c) (d := d) ht (by assumption) (by assumption) (by assumption); have q2 := in_no (nd := nd) q (by decide); simp only [q, q2.1, q2.2.1, q2.2.2]; done) | (have q := insE_4 (a := a) (b := b) (c := c) (d := d) ht (by assumption) (by assumption) (by assumption); have q2 := in_yes (nd := nd) q; simp only [q, q2.2.1, q2.2.2.1, q2.2.2.2, insMp, i1, i2]; done) | (have q := insE_4 (a := a) (b := b) (c := c) (d := d) ht (by assumption) (by assumption) (by assumption); have q2 := in_yes (nd := nd) q; simp only [q, q2.2.1, q2.2.2.1, q2.2.2.2, insMp, i1, i2]; rfl)) | (refine VC.mk ?_; first | assumption | omega | (have q := insE_4 (a := a) (b := b) (c := c) (d := d) ht (by assumption) (by assumption) (by assumption); have q2 := w3 (in_yes (nd := nd) q).1; simp only [i1, i2] at q2; obtain ⟨q3, q4, q5⟩ := q2; first | assumption | omega))
      | false =>
        have i1 : insTr tr mp t = tr := by simp only [insTr, hm, cond_false]
        have i2 : insM0 tr mp t = mp := by simp only [insM0, hm, cond_false]
        repeat' (first | (with_reducible refine And.intro ?_ ?_) | (with_reducible intro h) | ((fail_if_success (with_reducible refine Leaf.mk ?_)); (fail_if_success (with_reducible refine VC.mk ?_)); (fail_if_success (with_reducible refine Goes.mk ?_)); (fail_if_success (with_reducible refine Again.mk ?_)); (fail_if_success (with_reducible refine Rounds.mk ?_)); (fail_if_success (with_reducible show False)); (fail_if_success (with_reducible show True)); conv => whnf))
        all_goals try first | exact trivial | exact (bc2 (by assumption) ht).elim | exact (bc2 (by assumption) hm).elim | (refine Leaf.mk ?_; first | rfl | (have q := insE_0 tr mp id a b c d (by assumption); have q2 := in_no (nd := nd) q (by decide); simp only [q, q2.1, q2.2.1, q2.2.2]; done) | (have q := insE_1 tr mp id a b c d ht (by assumption); have q2 := in_no (nd := nd) q (by decide); simp only [q, q2.1, q2.2.1, q2.2.2]; done) | (have q := insE_2 (a := a) (b := b) (c := c) (d := d) ht (by assumption) (by assumption); have q2 := in_no (nd := nd) q (by decide); simp only [q, q2.1, q2.2.1, q2.2.2]; done) | (have q := insE_3 (a := a) (b := b) (c := c) (d := d) ht (by assumption) (by assumption) (by assumption); have q2 := in_no (nd := nd) q (by decide); simp only [q, q2.1, q2.2.1, q2.2.2]; done) | (have q := insE_4 (a := a) (b := b) (c := c) (d := d) ht (by assumption) (by assumption) (by assumption); have q2 := in_yes (nd := nd) q; simp only [q, q2.2.1, q2.2.2.1, q2.2.2.2, insMp, i1, i2]; done) | (have q := insE_4 (a := a) (b := b) (c := c) (d := d) ht (by assumption) (by assumption) (by assumption); have q2 := in_yes (nd := nd) q; simp only [q, q2.2.1, q2.2.2.1, q2.2.2.2, insMp, i1, i2]; rfl)) | (refine VC.mk ?_; first | assumption | omega | (have q := insE_4 (a := a) (b := b) (c := c) (d := d) ht (by assumption) (by assumption) (by assumption); have q2 := w3 (in_yes (nd := nd) q).1; simp only [i1, i2] at q2; obtain ⟨q3, q4, q5⟩ := q2; first | assumption | omega))
def c_Remove : Con := ⟨15, stRun false 0 0 [.np 1, .num 0] (fun l N H _ _ => match l, N, H with | [id], [t], ⟨nd, tr, mp⟩ => [reOK nd tr mp t id = true] | _, _, _ => [False]) fun l N H _ _ => match l, N, H with
  | [id], [t], ⟨nd, tr, mp⟩ => ⟨[.val (.bool (remD tr mp t id))], ⟨reN nd tr mp t id, reT nd tr mp t id, reM nd tr mp t id⟩⟩
  | _, _, _ => ⟨[], ⟨[], [], []⟩⟩⟩
set_option maxRecDepth 100000 in
set_option maxHeartbeats 2000000 in
theorem con_Remove : c_Remove.Ok Try.prog := by
  refine con_st (C := [c_detach]) (pl := []) Try.func15 rfl (by kernel_rfl) T_ok (Cons.cons con_detach (Cons.nil _)) mixed (by kernel_rfl) false 0 0 _ _ _ (fun l N H b xs hl hN hbx hpre => ?_)
  match l, hl, N, hN, H with
  | [id], zl, [t], zN, ⟨nd, tr, mp⟩ =>
    clear zl zN
    have hp0 := hpre _ (List.Mem.head _); try dsimp only at hp0
    clear hpre hl hN hbx
    cases ht : decide (t = 0) with
    | true =>
      repeat' (first | (with_reducible refine And.intro ?_ ?_) | (with_reducible intro h) | ((fail_if_success (with_reducible refine Leaf.mk ?_)); (fail_if_success (with_reducible refine VC.mk ?_)); (fail_if_success (with_reducible refine Goes.mk ?_)); (fail_if_success (with_reducible refine Again.mk ?_)); (fail_if_success (with_reducible refine Rounds.mk ?_)); (fail_if_success (with_reducible show False)); (fail_if_success (with_reducible show True)); conv => whnf))
      all_goals try first | exact trivial | exact (bc2 ht (by assumption)).elim | (refine Leaf.mk ?_; first | rfl | (have q := remD_0 (tr := tr) (mp := mp) (id := id) ht; have q2 := re_no (nd := nd) q; simp only [q, q2.1, q2.2.1, q2.2.2]; done) | (have q0 := remD_1 (tr := tr) (mp := mp) (id := id) ht; have q : remD tr mp t id = false := (by rw [q0]; first | assumption | (simpa using (by assumption))); have q2 := re_no (nd := nd) q; simp only [q, q2.1, q2.2.1, q2.2.2]; done) | (have q0 := remD_1 (tr := tr) (mp := mp) (id := id) ht; have q : remD tr mp t id = true := (by rw [q0]; assumption); have q2 := re_yes (nd := nd) q; simp only [q, q2.1, q2.2.1, q2.2.2, lkN]; done) | (have q0 := remD_1 (tr := tr) (mp := mp) (id := id) ht; have q : remD tr mp t id = true := (by rw [q0]; assumption); have q2 := re_yes (nd := nd) q; simp only [q, q2.1, q2.2.1, q2.2.2, lkN]; rfl))
    | false =>
      obtain ⟨w1, w2, w3⟩ := re_facts hp0 ht
      cases hh : hasE (getM mp (getT tr t).2) id <;> skip
      all_goals (repeat' (first | (with_reducible refine And.intro ?_ ?_) | (with_reducible intro h) | ((fail_if_success (with_reducible refine Leaf.mk ?_)); (fail_if_success (with_reducible refine VC.mk ?_)); (fail_if_success (with_reducible refine Goes.mk ?_)); (fail_if_success (with_reducible refine Again.mk ?_)); (fail_if_success (with_reducible refine Rounds.mk ?_)); (fail_if_success (with_reducible show False)); (fail_if_success (with_reducible show True)); conv => whnf)))
      all_goals try first | exact trivial | exact (bc2 (by assumption) ht).elim | exact (bc1 hh (by assumption)).elim | exact (bc3 hh (by assumption)).elim | exact (bc2 hh (by assumption)).elim | exact (bc2 (by assumption) hh).elim | (refine Leaf.mk ?_; first | rfl | (have q := remD_0 (tr := tr) (mp := mp) (id := id) ht; have q2 := re_no (nd := nd) q; simp only [q, q2.1, q2.2.1, q2.2.2]; done) | (have q0 := remD_1 (tr := tr) (mp := mp) (id := id) ht; have q : remD tr mp t id = false := (by rw [q0]; first | assumption | (simpa using (by assumption))); have q2 := re_no (nd := nd) q; simp only [q, q2.1, q2.2.1, q2.2.2]; done) | (have q0 := remD_1 (tr := tr) (mp := mp) (id := id) ht; have q : remD tr mp t id = true := (by rw [q0]; assumption); have q2 := re_yes (nd := nd) q; simp only [q, q2.1, q2.2.1, q2.2.2, lkN]; done) | (have q0 := remD_1 (tr := tr) (mp := mp) (id := id) ht; have q : remD tr mp t id = true := (by rw [q0]; assumption); have q2 := re_yes (nd := nd) q; simp only [q, q2.1, q2.2.1, q2.2.2, lkN]; rfl)) | (refine VC.mk ?_; first | assumption | omega | (obtain ⟨q3, q4, q5⟩ := w3 (by assumption); first | assumption | omega))
def c_Update : Con := ⟨14, stRun false 0 0 [.np 1, .num 0, .num 4] (fun l N H _ _ => match l, N, H with | [id, a, b, c, d], [t], ⟨nd, tr, mp⟩ => [upOK nd tr mp t id a b c d = true] | _, _, _ => [False]) fun l N H _ _ => match l, N, H with
  | [id, a, b, c, d], [t], ⟨nd, tr, mp⟩ => ⟨[.val (.int .i64 (updE tr mp t id a b c d))], ⟨upN nd tr mp t id a b c d, upT nd tr mp t id a b c d, mp⟩⟩
  | _, _, _ => ⟨[], ⟨[], [], []⟩⟩⟩
set_option maxRecDepth 100000 in
set_option maxHeartbeats 2000000 in
theorem con_Update : c_Update.Ok Try.prog := by
  refine con_st (C := [c_aabb_Valid, c_detach, c_attach]) (pl := []) Try.func14 rfl (by kernel_rfl) T_ok (Cons.cons con_aabb_Valid (Cons.cons con_detach (Cons.cons con_attach (Cons.nil _)))) mixed (by kernel_rfl) false 0 0 _ _ _ (fun l N H b xs hl hN hbx hpre => ?_)
  match l, hl, N, hN, H with
  | [id, a, b, c, d], zl, [t], zN, ⟨nd, tr, mp⟩ =>
    clear zl zN
    have hp0 := hpre _ (List.Mem.head _); try dsimp only at hp0
    clear hpre hl hN hbx
    cases ht : decide (t = 0) with
    | true =>
      repeat' (first | (with_reducible refine And.intro ?_ ?_) | (with_reducible intro h) | ((fail_if_success (with_reducible refine Leaf.mk ?_)); (fail_if_success (with_reducible refine VC.mk ?_)); (fail_if_success (with_reducible refine Goes.mk ?_)); (fail_if_success (with_reducible refine Again.mk ?_)); (fail_if_success (with_reducible refine Rounds.mk ?_)); (fail_if_success (with_reducible show False)); (fail_if_success (with_reducible show True)); conv => whnf))
      all_goals try first | exact trivial | exact (bc2 ht (by assumption)).elim | (refine Leaf.mk ?_; first | rfl | (have q := updE_0 tr mp id a b c d (by assumption); have q2 := up_no (nd := nd) q (by decide); simp only [q, q2.1, q2.2]; done) | (have q := updE_1 tr mp id a b c d ht (by assumption); have q2 := up_no (nd := nd) q (by decide); simp only [q, q2.1, q2.2]; done) | (have q := updE_2 (a := a) (b := b) (c := c) (d := d) ht (by assumption) hh; have q2 := up_no (nd := nd) q (by decide); simp only [q, q2.1, q2.2]; done) | (have q := updE_3 (a := a) (b := b) (c := c) (d := d) ht (by assumption) hh; have q2 := up_yes (nd := nd) q; simp only [q, q2.1, q2.2, updB, lkN]; done) | (have q := updE_3 (a := a) (b := b) (c := c) (d := d) ht (by assumption) hh; have q2 := up_yes (nd := nd) q; simp only [q, q2.1, q2.2]; rfl))
    | false =>
      obtain ⟨w1, w2, w3⟩ := up_facts hp0 ht
      cases hh : hasE (getM mp (getT tr t).2) id <;> skip
      all_goals (repeat' (first | (with_reducible refine And.intro ?_ ?_) | (with_reducible intro h) | ((fail_if_success (with_reducible refine Leaf.mk ?_)); (fail_if_success (with_reducible refine VC.mk ?_)); (fail_if_success (with_reducible refine Goes.mk ?_)); (fail_if_success (with_reducible refine Again.mk ?_)); (fail_if_success (with_reducible refine Rounds.mk ?_)); (fail_if_success (with_reducible show False)); (fail_if_success (with_reducible show True)); conv => whnf)))
      all_goals try first | exact trivial | exact (bc2 (by assumption) ht).elim | exact (bc1 hh (by assumption)).elim | exact (bc3 hh (by assumption)).elim | exact (bc2 hh (by assumption)).elim | exact (bc2 (by assumption) hh).elim | (refine Leaf.mk ?_; first | rfl | (have q := updE_0 tr mp id a b c d (by assumption); have q2 := up_no (nd := nd) q (by decide); simp only [q, q2.1, q2.2]; done) | (have q := updE_1 tr mp id a b c d ht (by assumption); have q2 := up_no (nd := nd) q (by decide); simp only [q, q2.1, q2.2]; done) | (have q := updE_2 (a := a) (b := b) (c := c) (d := d) ht (by assumption) hh; have q2 := up_no (nd := nd) q (by decide); simp only [q, q2.1, q2.2]; done) | (have q := updE_3 (a := a) (b := b) (c := c) (d := d) ht (by assumption) hh; have q2 := up_yes (nd := nd) q; simp only [q, q2.1, q2.2, updB, lkN]; done) | (have q := updE_3 (a := a) (b := b) (c := c) (d := d) ht (by assumption) hh; have q2 := up_yes (nd := nd) q; simp only [q, q2.1, q2.2]; rfl)) | (refine VC.mk ?_; first | assumption | omega | (obtain ⟨q3, q4, q5⟩ := w3 (by assumption) hh; first | assumption | omega | exact q5))

end Go.Proofs.Ytkfaflhhkmkdjaa
