/- Contracts of package bvh: small functions. Contracts of package bvh: turning and costs. Contracts of package bvh: balancing. Contracts of package bvh: attaching. Contracts of package bvh: taking out. -/
import Derived.Test.YtkfaflhhkmkdjaaKA
import Derived.Test.YtkfaflhhkmkdjaaEC
import Derived.Test.YtkfaflhhkmkdjaaBA
namespace Go.Proofs.Ytkfaflhhkmkdjaa
open Go.RowKit Fx Vx Bx Ev
set_option linter.unusedVariables false
set_option linter.unusedSimpArgs false
def c_leaf : Con := ⟨28, roRun false 0 0 [.np 0] (fun l N H _ _ => match l, N, H with | [], [n], ⟨nd, tr, mp⟩ => [okN nd n = true, (getN nd n).l ≤ nd.length] | _, _, _ => [False]) fun l N H _ _ => match l, N, H with
  | [], [n], ⟨nd, tr, mp⟩ => [.val (.bool (decide ((getN nd n).l = 0)))]
  | _, _, _ => []⟩
set_option maxRecDepth 100000 in
set_option maxHeartbeats 2000000 in
theorem con_leaf : c_leaf.Ok Try.prog := by
  refine con_ro ?_; refine con_st (C := []) (pl := []) Try.func28 rfl (by kernel_rfl) T_ok (Cons.nil _) mixed (by kernel_rfl) false 0 0 _ _ _ (fun l N H b xs hl hN hbx hpre => ?_)
  match l, hl, N, hN, H with
  | [], zl, [n], zN, ⟨nd, tr, mp⟩ =>
    clear zl zN
    have hp0 := hpre _ (List.Mem.head _); try dsimp only at hp0
    have hp1 := hpre _ (List.Mem.tail _ (List.Mem.head _)); try dsimp only at hp1
    clear hpre hl hN hbx
    try simp only [okN_iff, okT_iff, htOK, Bool.and_eq_true, Bool.or_eq_true, decide_eq_true_eq, Nat.ble_eq] at hp0
    try simp only [okN_iff, okT_iff, htOK, Bool.and_eq_true, Bool.or_eq_true, decide_eq_true_eq, Nat.ble_eq] at hp1
    repeat' (first | (with_reducible refine And.intro ?_ ?_) | (with_reducible intro h) | ((fail_if_success (with_reducible refine Leaf.mk ?_)); (fail_if_success (with_reducible refine VC.mk ?_)); (fail_if_success (with_reducible refine Goes.mk ?_)); (fail_if_success (with_reducible refine Again.mk ?_)); (fail_if_success (with_reducible refine Rounds.mk ?_)); (fail_if_success (with_reducible show False)); (fail_if_success (with_reducible show True)); conv => whnf))
    all_goals first | exact trivial | (refine Leaf.mk ?_; first | rfl | (simp only [cond, cond_true, cond_false, *]; done) | (simp_all [cond]; done)) | (refine VC.mk ?_; first | assumption | (simp only [okN_iff, okT_iff, InR, len_wB, len_wPar, len_wL, len_wR, len_wHt, wB_l, wB_r, wB_ht, wB_par, wPar_l, wPar_r, wL_par, wR_par, decide_eq_true_eq, decide_eq_false_iff_not] at *; omega) | (simp_all; done) | (simp_all; omega))
def c_refresh : Con := ⟨58, stRun false 0 0 [.np 0] (fun l N H _ _ => match l, N, H with | [], [n], ⟨nd, tr, mp⟩ => [refOK nd n = true] | _, _, _ => [False]) fun l N H _ _ => match l, N, H with
  | [], [n], ⟨nd, tr, mp⟩ => ⟨[], ⟨refN nd n, tr, mp⟩⟩
  | _, _, _ => ⟨[], ⟨[], [], []⟩⟩⟩
set_option maxRecDepth 100000 in
set_option maxHeartbeats 2000000 in
theorem con_refresh : c_refresh.Ok Try.prog := by
  refine con_st (C := [c_aabb_Union]) (pl := [(0, [0, 1, 2, 3, 4, 5, 6, 7, 8, 9, 10, 11, 12, 13, 14, 15, 16, 17, 18], [0, 0, 2, 6, 14, 30, 62, 126, 0, 256, 768, 1792, 3840, 7936, 16128, 32766, 65535, 131071, 262143]), (1, [0, 1, 2, 3, 4, 5, 6, 7, 8, 9, 10, 11, 12, 13, 14, 15, 16, 17, 18, 19], [0, 0, 2, 6, 14, 30, 62, 126, 0, 256, 768, 1792, 3840, 7936, 16128, 32766, 65534, 131071, 262143, 524287])]) Try.func58 rfl (by kernel_rfl) T_ok (Cons.cons con_aabb_Union (Cons.nil _)) mixed (by kernel_rfl) false 0 0 _ _ _ (fun l N H b xs hl hN hbx hpre => ?_)
  match l, hl, N, hN, H with
  | [], zl, [n], zN, ⟨nd, tr, mp⟩ =>
    clear zl zN
    have hp0 := hpre _ (List.Mem.head _); try dsimp only at hp0
    clear hpre hl hN hbx
    try simp only [refOK, okN_iff, okT_iff, htOK, Bool.and_eq_true, Bool.or_eq_true, decide_eq_true_eq, Nat.ble_eq] at hp0
    repeat' (first | (with_reducible refine And.intro ?_ ?_) | (with_reducible intro h) | ((fail_if_success (with_reducible refine Leaf.mk ?_)); (fail_if_success (with_reducible refine VC.mk ?_)); (fail_if_success (with_reducible refine Goes.mk ?_)); (fail_if_success (with_reducible refine Again.mk ?_)); (fail_if_success (with_reducible refine Rounds.mk ?_)); (fail_if_success (with_reducible show False)); (fail_if_success (with_reducible show True)); conv => whnf))
    all_goals first | exact trivial | (refine Leaf.mk ?_; first | rfl | (simp only [refN, refB, cond_true, cond_false, *]; done) | (simp_all [refN, refB]; done)) | (refine VC.mk ?_; first | assumption | (simp only [okN_iff, okT_iff, InR, len_wB, len_wPar, len_wL, len_wR, len_wHt, wB_l, wB_r, wB_ht, wB_par, wPar_l, wPar_r, wL_par, wR_par, decide_eq_true_eq, decide_eq_false_iff_not] at *; omega) | (simp_all; done) | (simp_all; omega))
def c_sibling : Con := ⟨42, roRun false 0 0 [.np 0] (fun l N H _ _ => match l, N, H with | [], [n], ⟨nd, tr, mp⟩ => [sibOK nd n = true] | _, _, _ => [False]) fun l N H _ _ => match l, N, H with
  | [], [n], ⟨nd, tr, mp⟩ => [.val (.np 0 0 (sib nd n) 0)]
  | _, _, _ => []⟩
set_option maxRecDepth 100000 in
set_option maxHeartbeats 2000000 in
theorem con_sibling : c_sibling.Ok Try.prog := by
  refine con_ro ?_; refine con_st (C := []) (pl := []) Try.func42 rfl (by kernel_rfl) T_ok (Cons.nil _) mixed (by kernel_rfl) false 0 0 _ _ _ (fun l N H b xs hl hN hbx hpre => ?_)
  match l, hl, N, hN, H with
  | [], zl, [n], zN, ⟨nd, tr, mp⟩ =>
    clear zl zN
    have hp0 := hpre _ (List.Mem.head _); try dsimp only at hp0
    clear hpre hl hN hbx
    try simp only [sibOK, okN_iff, okT_iff, htOK, Bool.and_eq_true, Bool.or_eq_true, decide_eq_true_eq, Nat.ble_eq] at hp0
    repeat' (first | (with_reducible refine And.intro ?_ ?_) | (with_reducible intro h) | ((fail_if_success (with_reducible refine Leaf.mk ?_)); (fail_if_success (with_reducible refine VC.mk ?_)); (fail_if_success (with_reducible refine Goes.mk ?_)); (fail_if_success (with_reducible refine Again.mk ?_)); (fail_if_success (with_reducible refine Rounds.mk ?_)); (fail_if_success (with_reducible show False)); (fail_if_success (with_reducible show True)); conv => whnf))
    all_goals first | exact trivial | (refine Leaf.mk ?_; first | rfl | (simp only [sib, cond_true, cond_false, *]; done) | (simp_all [sib]; done)) | (refine VC.mk ?_; first | assumption | (simp only [okN_iff, okT_iff, InR, len_wB, len_wPar, len_wL, len_wR, len_wHt, wB_l, wB_r, wB_ht, wB_par, wPar_l, wPar_r, wL_par, wR_par, decide_eq_true_eq, decide_eq_false_iff_not] at *; omega) | (simp_all; done) | (simp_all; omega))
def c_adopt : Con := ⟨40, stRun false 0 0 [.np 0, .np 0, .np 0] (fun l N H _ _ => match l, N, H with | [], [n, a, c], ⟨nd, tr, mp⟩ => [adoOK nd n a c = true] | _, _, _ => [False]) fun l N H _ _ => match l, N, H with
  | [], [n, a, c], ⟨nd, tr, mp⟩ => ⟨[], ⟨adoN nd n a c, tr, mp⟩⟩
  | _, _, _ => ⟨[], ⟨[], [], []⟩⟩⟩
set_option maxRecDepth 100000 in
set_option maxHeartbeats 2000000 in
theorem con_adopt : c_adopt.Ok Try.prog := by
  refine con_st (C := [c_refresh]) (pl := []) Try.func40 rfl (by kernel_rfl) T_ok (Cons.cons con_refresh (Cons.nil _)) mixed (by kernel_rfl) false 0 0 _ _ _ (fun l N H b xs hl hN hbx hpre => ?_)
  match l, hl, N, hN, H with
  | [], zl, [n, a, c], zN, ⟨nd, tr, mp⟩ =>
    clear zl zN
    have hp0 := hpre _ (List.Mem.head _); try dsimp only at hp0
    clear hpre hl hN hbx
    try simp only [adoOK, adoP, okN_iff, okT_iff, htOK, Bool.and_eq_true, Bool.or_eq_true, decide_eq_true_eq, Nat.ble_eq] at hp0
    repeat' (first | (with_reducible refine And.intro ?_ ?_) | (with_reducible intro h) | ((fail_if_success (with_reducible refine Leaf.mk ?_)); (fail_if_success (with_reducible refine VC.mk ?_)); (fail_if_success (with_reducible refine Goes.mk ?_)); (fail_if_success (with_reducible refine Again.mk ?_)); (fail_if_success (with_reducible refine Rounds.mk ?_)); (fail_if_success (with_reducible show False)); (fail_if_success (with_reducible show True)); conv => whnf))
    all_goals first | exact trivial | (refine Leaf.mk ?_; first | rfl | (simp only [adoN, adoP, cond_true, cond_false, *]; done) | (simp_all [adoN, adoP]; done)) | (refine VC.mk ?_; first | assumption | (simp only [okN_iff, okT_iff, InR, len_wB, len_wPar, len_wL, len_wR, len_wHt, wB_l, wB_r, wB_ht, wB_par, wPar_l, wPar_r, wL_par, wR_par, decide_eq_true_eq, decide_eq_false_iff_not] at *; omega) | (simp_all; done) | (simp_all; omega))
def c_replace : Con := ⟨39, stRun false 0 0 [.np 1, .np 0, .np 0] (fun l N H _ _ => match l, N, H with | [], [t, a, c], ⟨nd, tr, mp⟩ => [repOK nd tr t a c = true] | _, _, _ => [False]) fun l N H _ _ => match l, N, H with
  | [], [t, a, c], ⟨nd, tr, mp⟩ => ⟨[], ⟨repN nd a c, repT nd tr t a c, mp⟩⟩
  | _, _, _ => ⟨[], ⟨[], [], []⟩⟩⟩
set_option maxRecDepth 100000 in
set_option maxHeartbeats 2000000 in
theorem con_replace : c_replace.Ok Try.prog := by
  refine con_st (C := []) (pl := []) Try.func39 rfl (by kernel_rfl) T_ok (Cons.nil _) mixed (by kernel_rfl) false 0 0 _ _ _ (fun l N H b xs hl hN hbx hpre => ?_)
  match l, hl, N, hN, H with
  | [], zl, [t, a, c], zN, ⟨nd, tr, mp⟩ =>
    clear zl zN
    have hp0 := hpre _ (List.Mem.head _); try dsimp only at hp0
    clear hpre hl hN hbx
    try simp only [repOK, okN_iff, okT_iff, htOK, Bool.and_eq_true, Bool.or_eq_true, decide_eq_true_eq, Nat.ble_eq] at hp0
    repeat' (first | (with_reducible refine And.intro ?_ ?_) | (with_reducible intro h) | ((fail_if_success (with_reducible refine Leaf.mk ?_)); (fail_if_success (with_reducible refine VC.mk ?_)); (fail_if_success (with_reducible refine Goes.mk ?_)); (fail_if_success (with_reducible refine Again.mk ?_)); (fail_if_success (with_reducible refine Rounds.mk ?_)); (fail_if_success (with_reducible show False)); (fail_if_success (with_reducible show True)); conv => whnf))
    all_goals first | exact trivial | (refine Leaf.mk ?_; first | rfl | (simp only [repN, repP, repT, cond_true, cond_false, *]; done) | (simp_all [repN, repP, repT]; done)) | (refine VC.mk ?_; first | assumption | (simp only [okN_iff, okT_iff, InR, len_wB, len_wPar, len_wL, len_wR, len_wHt, wB_l, wB_r, wB_ht, wB_par, wPar_l, wPar_r, wL_par, wR_par, decide_eq_true_eq, decide_eq_false_iff_not] at *; omega) | (simp_all; done) | (simp_all; omega))

end Go.Proofs.Ytkfaflhhkmkdjaa

namespace Go.Proofs.Ytkfaflhhkmkdjaa
open Go.RowKit Fx Vx Bx Ev
set_option linter.unusedVariables false
set_option linter.unusedSimpArgs false
def c_rotate : Con := ⟨59, stRun false 0 0 [.np 1, .np 0, .np 0] (fun l N H _ _ => match l, N, H with | [], [t, n, h], ⟨nd, tr, mp⟩ => [rotOK nd tr t n h = true] | _, _, _ => [False]) fun l N H _ _ => match l, N, H with
  | [], [t, n, h], ⟨nd, tr, mp⟩ => ⟨[.val (.np 0 0 (h) 0)], ⟨rotN nd n h, rotT nd tr t n h, mp⟩⟩
  | _, _, _ => ⟨[], ⟨[], [], []⟩⟩⟩
set_option maxRecDepth 100000 in
set_option maxHeartbeats 2000000 in
theorem con_rotate : c_rotate.Ok Try.prog := by
  refine con_st (C := [c_sibling, c_replace, c_adopt]) (pl := [(2, [0, 1, 2, 3, 4, 5, 6, 7, 8, 9], [0, 1, 3, 7, 0, 16, 48, 112, 15, 511]), (3, [0, 1, 2, 3, 4, 5, 6, 7, 8], [0, 1, 3, 7, 0, 16, 48, 112, 255])]) Try.func59 rfl (by kernel_rfl) T_ok (Cons.cons con_sibling (Cons.cons con_replace (Cons.cons con_adopt (Cons.nil _)))) mixed (by kernel_rfl) false 0 0 _ _ _ (fun l N H b xs hl hN hbx hpre => ?_)
  match l, hl, N, hN, H with
  | [], zl, [t, n, h], zN, ⟨nd, tr, mp⟩ =>
    clear zl zN
    have hp0 := hpre _ (List.Mem.head _); try dsimp only at hp0
    clear hpre hl hN hbx
    try simp only [rotOK, okN_iff, okT_iff, htOK, Bool.and_eq_true, Bool.or_eq_true, decide_eq_true_eq, Nat.ble_eq] at hp0
    repeat' (first | (with_reducible refine And.intro ?_ ?_) | (with_reducible intro h) | ((fail_if_success (with_reducible refine Leaf.mk ?_)); (fail_if_success (with_reducible refine VC.mk ?_)); (fail_if_success (with_reducible refine Goes.mk ?_)); (fail_if_success (with_reducible refine Again.mk ?_)); (fail_if_success (with_reducible refine Rounds.mk ?_)); (fail_if_success (with_reducible show False)); (fail_if_success (with_reducible show True)); conv => whnf))
    all_goals first | exact trivial | (refine Leaf.mk ?_; first | rfl | (simp only [rotN, rotT, rotUp, rotDn, cond_true, cond_false, *]; done) | (simp_all [rotN, rotT, rotUp, rotDn]; done)) | (refine VC.mk ?_; first | assumption | (simp only [hp0]; done) | (simp only [rotN, rotT, rotUp, rotDn, cond_true, cond_false, *] at hp0 ⊢; first | done | (simp only [hp0]; done)) | (simp only [okN_iff, okT_iff, InR, len_wB, len_wPar, len_wL, len_wR, len_wHt, wB_l, wB_r, wB_ht, wB_par, wPar_l, wPar_r, wL_par, wR_par, decide_eq_true_eq, decide_eq_false_iff_not] at *; omega) | (simp_all; done) | (simp_all; omega))
def c_cost : Con := ⟨38, roRun false 0 0 [.np 0, .num 4] (fun l N H _ _ => match l, N, H with | [a, c, d, e], [n], ⟨nd, tr, mp⟩ => [okN nd n = true] | _, _, _ => [False]) fun l N H _ _ => match l, N, H with
  | [a, c, d, e], [n], ⟨nd, tr, mp⟩ => [.val (.int .i64 (costE (getN nd n) a c d e))]
  | _, _, _ => []⟩
set_option maxRecDepth 100000 in
set_option maxHeartbeats 2000000 in
theorem con_cost : c_cost.Ok Try.prog := by
  refine con_ro ?_; refine con_st (C := [c_aabb_Union, c_aabb_HalfPerimeter]) (pl := [(1, [0, 1, 2, 3, 4, 5, 6, 7, 8, 9, 10, 11, 12, 13], [0, 1, 3, 7, 0, 31, 63, 0, 128, 384, 896, 2047, 4095, 8191])]) Try.func38 rfl (by kernel_rfl) T_ok (Cons.cons con_aabb_Union (Cons.cons con_aabb_HalfPerimeter (Cons.nil _))) mixed (by kernel_rfl) false 0 0 _ _ _ (fun l N H b xs hl hN hbx hpre => ?_)
  match l, hl, N, hN, H with
  | [a, c, d, e], zl, [n], zN, ⟨nd, tr, mp⟩ =>
    clear zl zN
    have hp0 := hpre _ (List.Mem.head _); try dsimp only at hp0
    clear hpre hl hN hbx
    try simp only [okN_iff, okT_iff, htOK, Bool.and_eq_true, Bool.or_eq_true, decide_eq_true_eq, Nat.ble_eq] at hp0
    have hbd := costE_bd (getN nd n) a c d e
    simp only [costE, uni4] at hbd
    repeat' (first | (with_reducible refine And.intro ?_ ?_) | (with_reducible intro h) | ((fail_if_success (with_reducible refine Leaf.mk ?_)); (fail_if_success (with_reducible refine VC.mk ?_)); (fail_if_success (with_reducible refine Goes.mk ?_)); (fail_if_success (with_reducible refine Again.mk ?_)); (fail_if_success (with_reducible refine Rounds.mk ?_)); (fail_if_success (with_reducible show False)); (fail_if_success (with_reducible show True)); conv => whnf))
    all_goals first | exact trivial | (refine Leaf.mk ?_; first | rfl | (simp only [costE, uni4, cond_true, cond_false, *]; done) | (simp_all [costE, uni4]; done)) | (refine VC.mk ?_; first | assumption | (simp only [hp0]; done) | (simp only [costE, uni4, cond_true, cond_false, *] at hp0 ⊢; first | done | (simp only [hp0]; done)) | (simp only [okN_iff, okT_iff, InR, len_wB, len_wPar, len_wL, len_wR, len_wHt, wB_l, wB_r, wB_ht, wB_par, wPar_l, wPar_r, wL_par, wR_par, decide_eq_true_eq, decide_eq_false_iff_not] at *; omega) | (simp_all; done) | (simp_all; omega))

end Go.Proofs.Ytkfaflhhkmkdjaa

namespace Go.Proofs.Ytkfaflhhkmkdjaa
open Go.RowKit Fx Vx Bx Ev
set_option linter.unusedVariables false
set_option linter.unusedSimpArgs false
def c_rebalance : Con := ⟨41, stRun false 0 0 [.np 1, .np 0] (fun l N H _ _ => match l, N, H with | [], [t, n], ⟨nd, tr, mp⟩ => [okT tr t = true, n ≤ nd.length, rebOK FU nd tr t n = true] | _, _, _ => [False]) fun l N H _ _ => match l, N, H with
  | [], [t, n], ⟨nd, tr, mp⟩ => ⟨[], ⟨rebN FU nd n, rebT FU nd tr t n, mp⟩⟩
  | _, _, _ => ⟨[], ⟨[], [], []⟩⟩⟩
set_option maxRecDepth 100000 in
set_option maxHeartbeats 2000000 in
theorem con_rebalance : c_rebalance.Ok Try.prog := by
  refine con_st (C := [c_rotate, c_refresh]) (pl := [(1, [0, 1, 2, 3, 4, 5, 6, 7, 8, 9, 10, 11, 12, 13, 14, 15], [0, 1, 3, 7, 15, 31, 63, 0, 128, 384, 896, 1920, 3968, 8064, 16383, 32767])]) Try.func41 rfl (by kernel_rfl) T_ok (Cons.cons con_rotate (Cons.cons con_refresh (Cons.nil _))) mixed (by kernel_rfl) false 0 0 _ _ _ (fun l N H b xs hl hN hbx hpre => ?_)
  match l, hl, N, hN, H with
  | [], zl, [t, n], zN, ⟨nd, tr, mp⟩ =>
    clear zl zN
    have hp0 := hpre _ (List.Mem.head _); try dsimp only at hp0
    have hp1 := hpre _ (List.Mem.tail _ (List.Mem.head _)); try dsimp only at hp1
    have hp2 := hpre _ (List.Mem.tail _ (List.Mem.tail _ (List.Mem.head _))); try dsimp only at hp2
    clear hpre hl hN hbx
    repeat' (first | (with_reducible refine And.intro ?_ ?_) | (with_reducible intro h) | ((fail_if_success (with_reducible refine Leaf.mk ?_)); (fail_if_success (with_reducible refine VC.mk ?_)); (fail_if_success (with_reducible refine Goes.mk ?_)); (fail_if_success (with_reducible refine Again.mk ?_)); (fail_if_success (with_reducible refine Rounds.mk ?_)); (fail_if_success (with_reducible show False)); (fail_if_success (with_reducible show True)); conv => whnf))
    all_goals try exact trivial
    refine goes_inv (X := (Nat × List Nd × List (Nat × Nat) × Nat)) (pl := [(1, [0, 1, 2, 3, 4, 5, 6, 7, 8, 9, 10, 11, 12, 13, 14, 15], [0, 1, 3, 7, 15, 31, 63, 0, 128, 384, 896, 1920, 3968, 8064, 16383, 32767])]) T_ok (Cons.cons con_rotate (Cons.cons con_refresh (Cons.nil _))) mixed (by kernel_rfl)
      (fun x => (.np 0 1 t 0 :: .np 0 0 x.2.2.2 0 :: .any :: .any :: .any :: .any :: .any :: .any :: .any :: .any :: .any :: .any :: .any :: .any :: .any :: .any :: .any :: .any :: .any :: .any :: .any :: .any :: .any :: .any :: .any :: .any :: .any :: .any :: .any :: .any :: .any :: .any :: .any :: .any :: .any :: .any :: .any :: .any :: .any :: .any :: .any :: .any :: .any :: .any :: .any :: .any :: .any :: .any :: [], [.store ⟨x.2.1, x.2.2.1, mp⟩]))
      (fun x => okT x.2.2.1 t = true ∧ x.2.2.2 ≤ x.2.1.length ∧ rebOK x.1 x.2.1 x.2.2.1 t x.2.2.2 = true ∧ rebN x.1 x.2.1 x.2.2.2 = rebN FU nd n ∧ rebT x.1 x.2.1 x.2.2.1 t x.2.2.2 = rebT FU nd tr t n) (fun x => x.1) (FU, nd, tr, n) [0] ⟨hp0, hp1, hp2, rfl, rfl⟩ ?_ ?_ ?_
    · repeat' (first | (with_reducible refine And.intro ?_ ?_) | (with_reducible intro h) | ((fail_if_success (with_reducible refine Leaf.mk ?_)); (fail_if_success (with_reducible refine VC.mk ?_)); (fail_if_success (with_reducible refine Goes.mk ?_)); (fail_if_success (with_reducible refine Again.mk ?_)); (fail_if_success (with_reducible refine Rounds.mk ?_)); (fail_if_success (with_reducible show False)); (fail_if_success (with_reducible show True)); conv => whnf))
      all_goals first | exact trivial | (refine Leaf.mk ?_; first | rfl | exact ⟨rfl, rfl⟩ | (simp; done))
    · repeat' (first | (with_reducible refine And.intro ?_ ?_) | (with_reducible intro h) | ((fail_if_success (with_reducible refine Leaf.mk ?_)); (fail_if_success (with_reducible refine VC.mk ?_)); (fail_if_success (with_reducible refine Goes.mk ?_)); (fail_if_success (with_reducible refine Again.mk ?_)); (fail_if_success (with_reducible refine Rounds.mk ?_)); (fail_if_success (with_reducible show False)); (fail_if_success (with_reducible show True)); conv => whnf))
      all_goals first | exact trivial | (refine Leaf.mk ?_; first | rfl | exact ⟨rfl, rfl⟩ | (simp; done))
    · intro x hx
      rcases x with ⟨k, nd', tr', n'⟩
      dsimp only at hx ⊢
      obtain ⟨x1, x2, x3, x4, x5⟩ := hx
      by_cases hz : n' = 0
      · subst hz
        rw [rebN_zero] at x4
        rw [rebT_zero] at x5
        repeat' (first | (with_reducible refine And.intro ?_ ?_) | (with_reducible intro h) | ((fail_if_success (with_reducible refine Leaf.mk ?_)); (fail_if_success (with_reducible refine VC.mk ?_)); (fail_if_success (with_reducible refine Goes.mk ?_)); (fail_if_success (with_reducible refine Again.mk ?_)); (fail_if_success (with_reducible refine Rounds.mk ?_)); (fail_if_success (with_reducible show False)); (fail_if_success (with_reducible show True)); conv => whnf))
        all_goals first | exact trivial | (refine Leaf.mk ?_; first | exact x4 | exact x5 | rfl) | (exfalso; simp at *; done)
      · obtain ⟨j, rfl, y1, y2, y3, y4⟩ := reb_step x3 hz
        obtain ⟨z1, z2, z3, z4, z5, z6, z7, z8, z9, z10⟩ := bal_facts y1
        rw [y3] at x4
        rw [y4] at x5
        have hz2 : (!decide (n' = 0)) = true := by simp [hz]
        repeat' (first | (with_reducible refine And.intro ?_ ?_) | (with_reducible intro h) | ((fail_if_success (with_reducible refine Leaf.mk ?_)); (fail_if_success (with_reducible refine VC.mk ?_)); (fail_if_success (with_reducible refine Goes.mk ?_)); (fail_if_success (with_reducible refine Again.mk ?_)); (fail_if_success (with_reducible refine Rounds.mk ?_)); (fail_if_success (with_reducible show False)); (fail_if_success (with_reducible show True)); conv => whnf))
        all_goals try first | exact trivial | (rw [hz2] at h; cases h; done) | (refine VC.mk ?_; first | assumption | omega | exact z6 (by assumption) | exact z7 (by assumption) (by assumption) | exact z8 (by assumption) (by assumption) | (simp only [InR]; omega) | (simp only [len_rotN, len_refN]; omega))
        all_goals first | (have hq : decide (1 < (getN nd' (getN nd' n').l).ht - (getN nd' (getN nd' n').r).ht) = true := (by assumption); obtain ⟨q1, q2, q3⟩ := bal_l hq) | (have hq : decide (1 < (getN nd' (getN nd' n').l).ht - (getN nd' (getN nd' n').r).ht) = false := (by assumption); have hq2 : decide ((getN nd' (getN nd' n').l).ht - (getN nd' (getN nd' n').r).ht < -1) = true := (by assumption); obtain ⟨q1, q2, q3⟩ := bal_r hq hq2) | (have hq : decide (1 < (getN nd' (getN nd' n').l).ht - (getN nd' (getN nd' n').r).ht) = false := (by assumption); have hq2 : decide ((getN nd' (getN nd' n').l).ht - (getN nd' (getN nd' n').r).ht < -1) = false := (by assumption); obtain ⟨q1, q2, q3⟩ := bal_n hq hq2)
        all_goals (refine Again.mk ⟨(j, balN nd' n', balT nd' tr' t n', (getN (balN nd' n') (balP nd' n')).par), [0], ⟨by rw [okT_len (len_balT _ _ _ _)]; exact x1, z10, y2, x4, x5⟩, Nat.lt_succ_self _, ?_, ?_⟩ <;> (repeat' (first | (with_reducible refine And.intro ?_ ?_) | (with_reducible intro h) | ((fail_if_success (with_reducible refine Leaf.mk ?_)); (fail_if_success (with_reducible refine VC.mk ?_)); (fail_if_success (with_reducible refine Goes.mk ?_)); (fail_if_success (with_reducible refine Again.mk ?_)); (fail_if_success (with_reducible refine Rounds.mk ?_)); (fail_if_success (with_reducible show False)); (fail_if_success (with_reducible show True)); conv => whnf))) <;> first | exact trivial | (refine Leaf.mk ?_; first | rfl | (simp only [q1, q2, q3, and_self]; done)))

end Go.Proofs.Ytkfaflhhkmkdjaa

namespace Go.Proofs.Ytkfaflhhkmkdjaa
open Go.RowKit Fx Vx Bx Ev
set_option linter.unusedVariables false
set_option linter.unusedSimpArgs false
theorem bc1 {b : Bool} (h : b = true) (h2 : (!b) = true) : False := by cases b <;> simp_all
theorem bc2 {b : Bool} (h : b = true) (h2 : b = false) : False := by cases b <;> simp_all
theorem bc3 {b : Bool} (h : b = false) (h2 : (!b) = false) : False := by cases b <;> simp_all
def c_attach : Con := ⟨25, stRun false 0 0 [.np 1, .np 0] (fun l N H _ _ => match l, N, H with | [], [t, f], ⟨nd, tr, mp⟩ => [atOK nd tr t f = true] | _, _, _ => [False]) fun l N H _ _ => match l, N, H with
  | [], [t, f], ⟨nd, tr, mp⟩ => ⟨[], ⟨atN nd tr t f, atT nd tr t f, mp⟩⟩
  | _, _, _ => ⟨[], ⟨[], [], []⟩⟩⟩
set_option maxRecDepth 100000 in
set_option maxHeartbeats 2000000 in
theorem con_attach : c_attach.Ok Try.prog := by
  refine con_st (C := [c_leaf, c_cost, c_replace, c_adopt, c_rebalance]) (pl := [(5, [0, 1, 2, 3, 4, 5, 6, 7, 8, 9, 10, 11, 12, 13, 14, 15, 16, 17, 18], [0, 1, 3, 7, 0, 16, 48, 112, 255, 0, 512, 1536, 3584, 0, 8192, 24576, 57344, 131071, 262143])]) Try.func25 rfl (by kernel_rfl) T_ok (Cons.cons con_leaf (Cons.cons con_cost (Cons.cons con_replace (Cons.cons con_adopt (Cons.cons con_rebalance (Cons.nil _)))))) mixed (by kernel_rfl) false 0 0 _ _ _ (fun l N H b xs hl hN hbx hpre => ?_)
  match l, hl, N, hN, H with
  | [], zl, [t, f], zN, ⟨nd, tr, mp⟩ =>
    clear zl zN
    have hp0 := hpre _ (List.Mem.head _); try dsimp only at hp0
    clear hpre hl hN hbx
    obtain ⟨w1, w2, w3, w4, w5⟩ := at_facts hp0
    cases hr : decide ((getT tr t).1 = 0) with
    | true =>
      obtain ⟨w6, w7⟩ := w4 hr
      repeat' (first | (with_reducible refine And.intro ?_ ?_) | (with_reducible intro h) | ((fail_if_success (with_reducible refine Leaf.mk ?_)); (fail_if_success (with_reducible refine VC.mk ?_)); (fail_if_success (with_reducible refine Goes.mk ?_)); (fail_if_success (with_reducible refine Again.mk ?_)); (fail_if_success (with_reducible refine Rounds.mk ?_)); (fail_if_success (with_reducible show False)); (fail_if_success (with_reducible show True)); conv => whnf))
      all_goals try first | exact trivial | (refine VC.mk ?_; first | assumption | omega) | (refine Leaf.mk ?_; first | exact w6.symm | exact w7.symm | rfl) | (have hh : decide ((getT tr t).1 = 0) = false := (by assumption); rw [hr] at hh; cases hh; done)
    | false =>
      obtain ⟨z3, z5, z6, z7, z8, z11, z9, z10⟩ := w5 hr
      have z9 := z9.symm
      have z10 := z10.symm
      repeat' (first | (with_reducible refine And.intro ?_ ?_) | (with_reducible intro h) | ((fail_if_success (with_reducible refine Leaf.mk ?_)); (fail_if_success (with_reducible refine VC.mk ?_)); (fail_if_success (with_reducible refine Goes.mk ?_)); (fail_if_success (with_reducible refine Again.mk ?_)); (fail_if_success (with_reducible refine Rounds.mk ?_)); (fail_if_success (with_reducible show False)); (fail_if_success (with_reducible show True)); conv => whnf))
      all_goals try first | exact trivial | (refine VC.mk ?_; first | assumption | omega) | (have hh : decide ((getT tr t).1 = 0) = true := (by assumption); rw [hr] at hh; cases hh; done)
      refine goes_inv (X := (Nat × Nat)) (pl := [(5, [0, 1, 2, 3, 4, 5, 6, 7, 8, 9, 10, 11, 12, 13, 14, 15, 16, 17, 18], [0, 1, 3, 7, 0, 16, 48, 112, 255, 0, 512, 1536, 3584, 0, 8192, 24576, 57344, 131071, 262143])]) T_ok (Cons.cons con_leaf (Cons.cons con_cost (Cons.cons con_replace (Cons.cons con_adopt (Cons.cons con_rebalance (Cons.nil _)))))) mixed (by kernel_rfl)
        (fun x => (.np 0 1 t 0 :: .np 0 0 f 0 :: .any :: .any :: .np 0 0 x.2 0 :: .any :: .any :: .any :: .any :: .any :: .any :: .any :: .any :: .any :: .any :: .any :: .any :: .any :: .any :: .any :: .any :: .any :: .any :: .any :: .any :: .any :: .any :: .any :: .any :: .any :: .any :: .any :: .any :: .any :: .any :: .any :: .any :: .any :: .any :: .any :: .any :: .any :: .any :: .any :: .any :: .any :: .any :: .any :: .any :: .any :: .any :: .any :: .any :: .any :: .any :: .any :: .any :: .any :: .any :: .any :: .any :: .any :: .any :: .any :: .any :: .any :: .any :: .any :: [], [.store ⟨nd, tr, mp⟩]))
        (fun x => x.2 ≤ nd.length ∧ desOK x.1 nd (getN nd f).b0 (getN nd f).b1 (getN nd f).b2 (getN nd f).b3 x.2 = true ∧ desN x.1 nd (getN nd f).b0 (getN nd f).b1 (getN nd f).b2 (getN nd f).b3 x.2 = attW nd tr t f) (fun x => x.1) (FU, (getT tr t).1) [0] ⟨w3, z3, rfl⟩ ?_ ?_ ?_
      · repeat' (first | (with_reducible refine And.intro ?_ ?_) | (with_reducible intro h) | ((fail_if_success (with_reducible refine Leaf.mk ?_)); (fail_if_success (with_reducible refine VC.mk ?_)); (fail_if_success (with_reducible refine Goes.mk ?_)); (fail_if_success (with_reducible refine Again.mk ?_)); (fail_if_success (with_reducible refine Rounds.mk ?_)); (fail_if_success (with_reducible show False)); (fail_if_success (with_reducible show True)); conv => whnf))
        all_goals first | exact trivial | (refine Leaf.mk ?_; first | rfl | exact ⟨rfl, rfl⟩ | (simp; done))
      · repeat' (first | (with_reducible refine And.intro ?_ ?_) | (with_reducible intro h) | ((fail_if_success (with_reducible refine Leaf.mk ?_)); (fail_if_success (with_reducible refine VC.mk ?_)); (fail_if_success (with_reducible refine Goes.mk ?_)); (fail_if_success (with_reducible refine Again.mk ?_)); (fail_if_success (with_reducible refine Rounds.mk ?_)); (fail_if_success (with_reducible show False)); (fail_if_success (with_reducible show True)); conv => whnf))
        all_goals first | exact trivial | (refine Leaf.mk ?_; first | rfl | exact ⟨rfl, rfl⟩ | (simp; done))
      · intro x hx
        rcases x with ⟨k, n⟩
        dsimp only at hx ⊢
        obtain ⟨x1, x2, x3⟩ := hx
        obtain ⟨j, rfl, y1, y2, y3, y4⟩ := des_step x2
        by_cases hz : decide ((getN nd n).l = 0) = true
        · have y3 := y3 hz
          rw [y3] at x3
          subst x3
          repeat' (first | (with_reducible refine And.intro ?_ ?_) | (with_reducible intro h) | ((fail_if_success (with_reducible refine Leaf.mk ?_)); (fail_if_success (with_reducible refine VC.mk ?_)); (fail_if_success (with_reducible refine Goes.mk ?_)); (fail_if_success (with_reducible refine Again.mk ?_)); (fail_if_success (with_reducible refine Rounds.mk ?_)); (fail_if_success (with_reducible show False)); (fail_if_success (with_reducible show True)); conv => whnf))
          all_goals try first | exact trivial | (refine Leaf.mk ?_; first | exact z9 | exact z10 | rfl) | exact (bc1 hz (by assumption)).elim | exact (bc2 hz (by assumption)).elim | (refine VC.mk ?_; first | assumption | omega | (simp only [okN_iff]; omega) | (simp only [InR]; omega) | (rw [okT_len (len_repT _ _ _ _ _)]; simp only [okT_iff]; exact w1) | (simp only [List.length_append, len_adoN, len_repN, List.length_cons, List.length_nil]; omega) | (simp only [okN_iff] at z7; omega))
        · have hz : decide ((getN nd n).l = 0) = false := by simpa using hz
          obtain ⟨a1, a2, a3, a4, a5⟩ := y4 hz
          rw [a4] at x3
          have hbl := costE_bd (getN nd (getN nd n).l) (getN nd f).b0 (getN nd f).b1 (getN nd f).b2 (getN nd f).b3
          have hbr := costE_bd (getN nd (getN nd n).r) (getN nd f).b0 (getN nd f).b1 (getN nd f).b2 (getN nd f).b3
          repeat' (first | (with_reducible refine And.intro ?_ ?_) | (with_reducible intro h) | ((fail_if_success (with_reducible refine Leaf.mk ?_)); (fail_if_success (with_reducible refine VC.mk ?_)); (fail_if_success (with_reducible refine Goes.mk ?_)); (fail_if_success (with_reducible refine Again.mk ?_)); (fail_if_success (with_reducible refine Rounds.mk ?_)); (fail_if_success (with_reducible show False)); (fail_if_success (with_reducible show True)); conv => whnf))
          all_goals try first | exact trivial | exact (bc2 (by assumption) hz).elim | exact (bc3 hz (by assumption)).elim | (refine VC.mk ?_; first | assumption | omega | (simp only [okN_iff]; omega) | (simp only [InR]; omega))
          all_goals first | (have hq : decide (costE (getN nd (getN nd n).l) (getN nd f).b0 (getN nd f).b1 (getN nd f).b2 (getN nd f).b3 ≤ costE (getN nd (getN nd n).r) (getN nd f).b0 (getN nd f).b1 (getN nd f).b2 (getN nd f).b3) = true := (by assumption); have hs : desS nd (getN nd f).b0 (getN nd f).b1 (getN nd f).b2 (getN nd f).b3 n = (getN nd n).l := (by simp only [desS, hq, cond_true])) | (have hq : decide (costE (getN nd (getN nd n).l) (getN nd f).b0 (getN nd f).b1 (getN nd f).b2 (getN nd f).b3 ≤ costE (getN nd (getN nd n).r) (getN nd f).b0 (getN nd f).b1 (getN nd f).b2 (getN nd f).b3) = false := (by assumption); have hs : desS nd (getN nd f).b0 (getN nd f).b1 (getN nd f).b2 (getN nd f).b3 n = (getN nd n).r := (by simp only [desS, hq, cond_false]))
          all_goals (refine Again.mk ⟨(j, desS nd (getN nd f).b0 (getN nd f).b1 (getN nd f).b2 (getN nd f).b3 n), [0], ⟨a5, a3, x3⟩, Nat.lt_succ_self _, ?_, ?_⟩ <;> (repeat' (first | (with_reducible refine And.intro ?_ ?_) | (with_reducible intro h) | ((fail_if_success (with_reducible refine Leaf.mk ?_)); (fail_if_success (with_reducible refine VC.mk ?_)); (fail_if_success (with_reducible refine Goes.mk ?_)); (fail_if_success (with_reducible refine Again.mk ?_)); (fail_if_success (with_reducible refine Rounds.mk ?_)); (fail_if_success (with_reducible show False)); (fail_if_success (with_reducible show True)); conv => whnf))) <;> first | exact trivial | (refine Leaf.mk ?_; first | rfl | (simp only [hs, and_self]; done)))

end Go.Proofs.Ytkfaflhhkmkdjaa

namespace Go.Proofs.Ytkfaflhhkmkdjaa
open Go.RowKit Fx Vx Bx Ev
set_option linter.unusedVariables false
set_option linter.unusedSimpArgs false
def c_detach : Con := ⟨26, stRun false 0 0 [.np 1, .np 0] (fun l N H _ _ => match l, N, H with | [], [t, f], ⟨nd, tr, mp⟩ => [deOK nd tr t f = true] | _, _, _ => [False]) fun l N H _ _ => match l, N, H with
  | [], [t, f], ⟨nd, tr, mp⟩ => ⟨[], ⟨deN nd f, deT nd tr t f, mp⟩⟩
  | _, _, _ => ⟨[], ⟨[], [], []⟩⟩⟩
set_option maxRecDepth 100000 in
set_option maxHeartbeats 2000000 in
theorem con_detach : c_detach.Ok Try.prog := by
  refine con_st (C := [c_sibling, c_replace, c_rebalance]) (pl := []) Try.func26 rfl (by kernel_rfl) T_ok (Cons.cons con_sibling (Cons.cons con_replace (Cons.cons con_rebalance (Cons.nil _)))) mixed (by kernel_rfl) false 0 0 _ _ _ (fun l N H b xs hl hN hbx hpre => ?_)
  match l, hl, N, hN, H with
  | [], zl, [t, f], zN, ⟨nd, tr, mp⟩ =>
    clear zl zN
    have hp0 := hpre _ (List.Mem.head _); try dsimp only at hp0
    clear hpre hl hN hbx
    obtain ⟨w1, w2, w4, w5⟩ := de_facts hp0
    cases hr : decide ((getN nd f).par = 0) with
    | true =>
      obtain ⟨w6, w7⟩ := w4 hr
      repeat' (first | (with_reducible refine And.intro ?_ ?_) | (with_reducible intro h) | ((fail_if_success (with_reducible refine Leaf.mk ?_)); (fail_if_success (with_reducible refine VC.mk ?_)); (fail_if_success (with_reducible refine Goes.mk ?_)); (fail_if_success (with_reducible refine Again.mk ?_)); (fail_if_success (with_reducible refine Rounds.mk ?_)); (fail_if_success (with_reducible show False)); (fail_if_success (with_reducible show True)); conv => whnf))
      all_goals first | exact trivial | (refine VC.mk ?_; first | assumption | omega) | (refine Leaf.mk ?_; first | exact w6.symm | exact w7.symm | rfl) | exact (bc2 hr (by assumption)).elim
    | false =>
      obtain ⟨z1, z2, z3, z4, z5, z6, z9, z10⟩ := w5 hr
      rw [okN_iff] at z3 z6
      repeat' (first | (with_reducible refine And.intro ?_ ?_) | (with_reducible intro h) | ((fail_if_success (with_reducible refine Leaf.mk ?_)); (fail_if_success (with_reducible refine VC.mk ?_)); (fail_if_success (with_reducible refine Goes.mk ?_)); (fail_if_success (with_reducible refine Again.mk ?_)); (fail_if_success (with_reducible refine Rounds.mk ?_)); (fail_if_success (with_reducible show False)); (fail_if_success (with_reducible show True)); conv => whnf))
      all_goals try first | exact trivial | (refine VC.mk ?_; first | assumption | omega | (simp only [okN_iff]; omega) | (rw [okT_len (len_repT _ _ _ _ _)]; simp only [okT_iff]; exact w1) | exact z4 | exact z3.2 | exact z6.2) | (refine Leaf.mk ?_; first | exact z9.symm | exact z10.symm | rfl) | exact (bc2 hr (by assumption)).elim | exact (bc2 (by assumption) hr).elim

end Go.Proofs.Ytkfaflhhkmkdjaa
