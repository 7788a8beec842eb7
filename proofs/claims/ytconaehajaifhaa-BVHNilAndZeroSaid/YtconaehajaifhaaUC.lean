/- Contracts of package bvh: copying. -/
import Derived.Test.YtconaehajaifhaaUB
import Derived.Test.YtconaehajaifhaaBA
import Derived.Test.YtconaehajaifhaaEC
namespace Go.Proofs.Ytconaehajaifhaa
open Go.RowKit Fx Vx Bx Ev
set_option linter.unusedVariables false
set_option linter.unusedSimpArgs false
def c_cloneNode (k : Nat) : Con := ⟨36, stRun false 0 0 [.np 1, .np 0] (fun l N H _ _ => match l, N, H with | [], [t, n], ⟨nd, tr, mp⟩ => [okT tr t = true, 0 < (getT tr t).2 ∧ (getT tr t).2 ≤ mp.length, cloOK k nd n = true] | _, _, _ => [False]) fun l N H _ _ => match l, N, H with
  | [], [t, n], ⟨nd, tr, mp⟩ => ⟨[.val (.np 0 0 (cloP nd n) 0)], ⟨cloN k nd n, tr, cloM k nd (getT tr t).2 mp n⟩⟩
  | _, _, _ => ⟨[], ⟨[], [], []⟩⟩⟩
set_option maxRecDepth 100000 in
set_option maxHeartbeats 2000000 in
theorem con_cloneNode (k : Nat) : (c_cloneNode k).Ok Try.prog := by
  induction k with
  | zero =>
    refine con_st (C := []) (pl := [(3, [0, 1, 2, 3, 4, 5, 6, 7, 8, 9, 10, 11, 12, 13, 14], [0, 1, 3, 7, 0, 16, 48, 112, 0, 256, 768, 1792, 4095, 8191, 16383]), (5, [0, 1, 2, 3, 4, 5, 6, 7, 8, 9], [0, 1, 3, 7, 0, 16, 48, 112, 0, 511]), (8, [0, 1, 2, 3, 4, 5, 6, 7, 8, 9, 10, 11, 12, 13, 14, 15], [0, 1, 3, 7, 0, 16, 48, 112, 0, 0, 511, 1535, 3583, 8191, 16383, 32767])]) Try.func36 rfl (by kernel_rfl) T_ok (Cons.nil _) mixed (by kernel_rfl) false 0 0 _ _ _ (fun l N H b xs hl hN hbx hpre => ?_)
    match l, hl, N, hN, H with
    | [], _, [t, n], _, ⟨nd, tr, mp⟩ => exact absurd (hpre _ (List.Mem.tail _ (List.Mem.tail _ (List.Mem.head _)))) Bool.false_ne_true
  | succ k ih =>
    refine con_st (C := [c_leaf, c_cloneNode k]) (pl := [(3, [0, 1, 2, 3, 4, 5, 6, 7, 8, 9, 10, 11, 12, 13, 14], [0, 1, 3, 7, 0, 16, 48, 112, 0, 256, 768, 1792, 4095, 8191, 16383]), (5, [0, 1, 2, 3, 4, 5, 6, 7, 8, 9], [0, 1, 3, 7, 0, 16, 48, 112, 0, 511]), (8, [0, 1, 2, 3, 4, 5, 6, 7, 8, 9, 10, 11, 12, 13, 14, 15], [0, 1, 3, 7, 0, 16, 48, 112, 0, 0, 511, 1535, 3583, 8191, 16383, 32767])]) Try.func36 rfl (by kernel_rfl) T_ok (Cons.cons con_leaf (Cons.cons ih (Cons.nil _))) mixed (by kernel_rfl) false 0 0 _ _ _ (fun l N H b xs hl hN hbx hpre => ?_)
    match l, hl, N, hN, H with
    | [], zl, [t, n], zN, ⟨nd, tr, mp⟩ =>
      clear zl zN
      have hp0 := hpre _ (List.Mem.head _); try dsimp only at hp0
      have hp1 := hpre _ (List.Mem.tail _ (List.Mem.head _)); try dsimp only at hp1
      have hp2 := hpre _ (List.Mem.tail _ (List.Mem.tail _ (List.Mem.head _))); try dsimp only at hp2
      clear hpre hl hN hbx
      simp only [okT_iff] at hp0
      cases hn : decide (n = 0) with
      | true =>
        obtain ⟨e1, e2, e3⟩ := clo_0 (k := k) (nd := nd) (mi := (getT tr t).2) (mp := mp) hn
        repeat' (first | (with_reducible refine And.intro ?_ ?_) | (with_reducible intro h) | ((fail_if_success (with_reducible refine Leaf.mk ?_)); (fail_if_success (with_reducible refine VC.mk ?_)); (fail_if_success (with_reducible refine Goes.mk ?_)); (fail_if_success (with_reducible refine Again.mk ?_)); (fail_if_success (with_reducible refine Rounds.mk ?_)); (fail_if_success (with_reducible show False)); (fail_if_success (with_reducible show True)); conv => whnf))
        all_goals try first | exact trivial | exact (bc2 hn (by assumption)).elim | (refine VC.mk ?_; first | rfl | omega) | (refine Leaf.mk ?_; first | rfl | exact e1.symm | exact e2.symm | exact e3 | exact e3.symm)
      | false =>
        obtain ⟨w1, w2, w3⟩ := clo_facts hp2 hn
        have g1 : getN (nd ++ [clN nd n]) n = getN nd n := getN_app _ w1.1 w1.2
        have g2 : getN (nd ++ [clN nd n]) (nd.length + 1) = clN nd n := getN_new _ _
        have g0 : (nd ++ [clN nd n]).length = nd.length + 1 := by simp
        cases hl : decide ((getN nd n).l = 0) with
        | true =>
          obtain ⟨e1, e2, e3⟩ := clo_1 (k := k) (mi := (getT tr t).2) (mp := mp) hn hl
          have hq : decide ((getN (nd ++ [clN nd n]) n).l = 0) = true := by rw [g1]; exact hl
          simp only [clN] at g0 g1 g2 e1 hq
          have g2' := congrArg Nd.id g2
          dsimp only at g2'
          rw [← g2'] at e2
          repeat' (first | (with_reducible refine And.intro ?_ ?_) | (with_reducible intro h) | ((fail_if_success (with_reducible refine Leaf.mk ?_)); (fail_if_success (with_reducible refine VC.mk ?_)); (fail_if_success (with_reducible refine Goes.mk ?_)); (fail_if_success (with_reducible refine Again.mk ?_)); (fail_if_success (with_reducible refine Rounds.mk ?_)); (fail_if_success (with_reducible show False)); (fail_if_success (with_reducible show True)); conv => whnf))
          all_goals first | exact trivial | exact (bc2 (by assumption) hn).elim | exact (bc2 hq (by assumption)).elim | (refine VC.mk ?_; first | rfl | assumption | omega | (simp only [okN_iff, g0]; omega) | (simp only [g1, g0]; omega) | (simp only [okT_iff]; omega)) | (refine Leaf.mk ?_; first | rfl | exact e1.symm | exact e2.symm | exact e3.symm)
        | false =>
          obtain ⟨e1, e2, e3⟩ := clo_2 (k := k) (mi := (getT tr t).2) (mp := mp) hn hl
          obtain ⟨w4, w5, w6⟩ := w3 hl
          have hq : decide ((getN (nd ++ [clN nd n]) n).l = 0) = false := by rw [g1]; exact hl
          have h1 : getN (cloN k (nd ++ [clN nd n]) (getN nd n).l) n = getN nd n := by rw [get_cloN k w1.1 (by rw [g0]; omega) w5, g1]
          have hl' : (getN nd n).l ≠ 0 := by simpa using hl
          have p1 := cloP_pos (nd := nd ++ [clN nd n]) hl'
          have p2 := cloP_pos (nd := cloN k (nd ++ [clN nd n]) (getN nd n).l) (show (getN nd n).r ≠ 0 by omega)
          have L1 := len_cloN' (k := k - 1) (nd := nd ++ [clN nd n]) hl'
          have L2 := len_cloN' (k := k - 1) (nd := cloN k (nd ++ [clN nd n]) (getN nd n).l) (show (getN nd n).r ≠ 0 by omega)
          rw [show k - 1 + 1 = k by (cases k with | zero => exact absurd w5 Bool.false_ne_true | succ k => rfl)] at L1 L2
          have gg := clo_get (nd := cloN k (cloN k (nd ++ [clN nd n]) (getN nd n).l) (getN nd n).r) (m := nd.length + 1) (a := cloP (nd ++ [clN nd n]) (getN nd n).l) (b := cloP (cloN k (nd ++ [clN nd n]) (getN nd n).l) (getN nd n).r) (by omega) (by omega)
          simp only [cloF] at e1
          simp only [clN] at g0 g1 g2 e1 e2 hq w5 w6 h1 p1 p2 L1 L2 gg
          obtain ⟨gg1, gg2⟩ := gg
          repeat' (first | (with_reducible refine And.intro ?_ ?_) | (with_reducible intro h) | ((fail_if_success (with_reducible refine Leaf.mk ?_)); (fail_if_success (with_reducible refine VC.mk ?_)); (fail_if_success (with_reducible refine Goes.mk ?_)); (fail_if_success (with_reducible refine Again.mk ?_)); (fail_if_success (with_reducible refine Rounds.mk ?_)); (fail_if_success (with_reducible show False)); (fail_if_success (with_reducible show True)); conv => whnf))
          all_goals try first | exact trivial | exact (bc2 (by assumption) hn).elim | exact (bc2 (by assumption) hq).elim | (refine VC.mk ?_; first | rfl | assumption | omega | (simp only [okN_iff, g0]; omega) | (simp only [g1, g0]; omega))
          refine goes_pair (C := [c_leaf, c_cloneNode k]) T_ok (Cons.cons con_leaf (Cons.cons ih (Cons.nil _))) mixed 7 12 (by decide) [0, 1, 2, 3, 4, 5, 6, 7, 8, 9, 10, 11, 12, 13, 14, 15, 16, 17, 18, 19] [0, 0, 0, 0, 8, 24, 56, 124, 0, 0, 512, 1536, 3836, 8188, 16381, 32765, 65533, 131071, 262143, 524287] [0, 1, 2, 3, 4, 5, 6, 8, 9, 10, 11, 12, 7, 13, 14, 15, 16, 17, 18, 19] [0, 0, 0, 0, 8, 24, 56, 7804, 0, 0, 512, 1536, 3584, 8188, 16381, 32765, 65533, 131071, 262143, 524287] (by kernel_rfl) (by kernel_rfl) ?_ ?_
          all_goals (repeat' (first | (with_reducible refine And.intro ?_ ?_) | (with_reducible intro h) | ((fail_if_success (with_reducible refine Leaf.mk ?_)); (fail_if_success (with_reducible refine VC.mk ?_)); (fail_if_success (with_reducible refine Goes.mk ?_)); (fail_if_success (with_reducible refine Again.mk ?_)); (fail_if_success (with_reducible refine Rounds.mk ?_)); (fail_if_success (with_reducible show False)); (fail_if_success (with_reducible show True)); conv => whnf)))
          all_goals first | exact trivial | (refine VC.mk ?_; first | rfl | assumption | omega | (simp only [okT_iff]; omega) | (simp only [g1]; first | assumption | omega) | (simp only [g1, h1]; first | assumption | omega) | (simp only [len_cloM]; exact hp1) | (simp only [g1, h1]; simp only [gg1, gg2]; simp only [p1, p2, len_wL, len_wR, len_wPar]; omega) | (simp only [g1, h1, p1, p2, len_wL, len_wR, len_wPar]; omega)) | (refine Leaf.mk ?_; first | rfl | exact e3.symm | (simp only [g1, h1, gg1, gg2]; first | exact e1.symm | exact e2.symm))
def c_Clone : Con := ⟨19, stRun false 0 0 [.np 1] (fun l N H _ _ => match l, N, H with | [], [t], ⟨nd, tr, mp⟩ => [clOK nd tr t = true] | _, _, _ => [False]) fun l N H _ _ => match l, N, H with
  | [], [t], ⟨nd, tr, mp⟩ => ⟨[.val (.np 0 1 (clE tr t) 0)], ⟨clNd nd tr t, clTr nd tr mp t, clMp nd tr mp t⟩⟩
  | _, _, _ => ⟨[], ⟨[], [], []⟩⟩⟩
set_option maxRecDepth 100000 in
set_option maxHeartbeats 2000000 in
theorem con_Clone : c_Clone.Ok Try.prog := by
  refine con_st (C := [c_New, c_cloneNode FU]) (pl := []) Try.func19 rfl (by kernel_rfl) T_ok (Cons.cons con_New (Cons.cons (con_cloneNode FU) (Cons.nil _))) mixed (by kernel_rfl) false 0 0 _ _ _ (fun l N H b xs hl hN hbx hpre => ?_)
  match l, hl, N, hN, H with
  | [], zl, [t], zN, ⟨nd, tr, mp⟩ =>
    clear zl zN
    have hp0 := hpre _ (List.Mem.head _); try dsimp only at hp0
    clear hpre hl hN hbx
    cases ht : decide (t = 0) with
    | true =>
      obtain ⟨e1, e2, e3, e4⟩ := cl_0 (nd := nd) (tr := tr) (mp := mp) ht
      repeat' (first | (with_reducible refine And.intro ?_ ?_) | (with_reducible intro h) | ((fail_if_success (with_reducible refine Leaf.mk ?_)); (fail_if_success (with_reducible refine VC.mk ?_)); (fail_if_success (with_reducible refine Goes.mk ?_)); (fail_if_success (with_reducible refine Again.mk ?_)); (fail_if_success (with_reducible refine Rounds.mk ?_)); (fail_if_success (with_reducible show False)); (fail_if_success (with_reducible show True)); conv => whnf))
      all_goals try first | exact trivial | exact (bc2 ht (by assumption)).elim | (refine VC.mk ?_; first | rfl | omega) | (refine Leaf.mk ?_; first | rfl | exact e1.symm | exact e1 | exact e2.symm | exact e3.symm | exact e4.symm)
    | false =>
      obtain ⟨e1, e2, e3, e4⟩ := cl_1 (nd := nd) (tr := tr) (mp := mp) ht
      obtain ⟨w1, w2, w3⟩ := cl_facts hp0 ht
      have g1 : getT (tr ++ [(0, mp.length + 1)]) t = getT tr t := getT_app _ w1.1 w1.2
      have g2 : getT (tr ++ [(0, mp.length + 1)]) (tr.length + 1) = (0, mp.length + 1) := getT_new _ _
      simp only [clT] at e3
      repeat' (first | (with_reducible refine And.intro ?_ ?_) | (with_reducible intro h) | ((fail_if_success (with_reducible refine Leaf.mk ?_)); (fail_if_success (with_reducible refine VC.mk ?_)); (fail_if_success (with_reducible refine Goes.mk ?_)); (fail_if_success (with_reducible refine Again.mk ?_)); (fail_if_success (with_reducible refine Rounds.mk ?_)); (fail_if_success (with_reducible show False)); (fail_if_success (with_reducible show True)); conv => whnf))
      all_goals first | exact trivial | exact (bc2 (by assumption) ht).elim | (refine VC.mk ?_; first | rfl | assumption | omega | (simp only [List.length_append, List.length_cons, List.length_nil]; omega) | (simp only [okT_iff, List.length_append, List.length_cons, List.length_nil]; omega) | (simp only [g1]; assumption) | (simp only [g2, List.length_append, List.length_cons, List.length_nil]; omega)) | (refine Leaf.mk ?_; first | rfl | exact e1.symm | (simp only [g1]; exact e2.symm) | (simp only [g1]; exact e3.symm) | (simp only [g1, g2]; exact e4.symm))

end Go.Proofs.Ytconaehajaifhaa
