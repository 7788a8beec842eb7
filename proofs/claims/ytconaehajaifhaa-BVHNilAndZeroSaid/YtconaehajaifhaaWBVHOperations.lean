/- The walk of caromlaw20.BVHOperations. -/
import Derived.Test.YtconaehajaifhaaUF
import Derived.Test.YtconaehajaifhaaEvV
import Derived.Test.YtconaehajaifhaaUM
namespace Go.Proofs.Ytconaehajaifhaa
open Go.RowKit Fx Vx Bx Ev
set_option linter.unusedVariables false
set_option linter.unusedSimpArgs false
theorem apE_m {nd : List Nd} {tr : List (Nat × Nat)} {mp : List (List (Int × Nat))} {t : Nat} {o : Option BT} {M : List En} (h : Rp nd tr mp t o M) (k id a b c d : Int) : apE tr mp t k id a b c d = mE false M k id a b c d := by
  simp only [apE, mE, (h.ins id a b c d).2.1, (h.rem id).2.1, (h.upd id a b c d).2.1, (h.bnd id).2.1, mIns, mUpd, Bool.false_eq_true, if_false]
  have hb : (lkM M id).isSome = hasM M id := by
    cases hh : hasM M id with
    | true => rw [lk_at h.asc hh]; rfl
    | false => rw [lkM_none hh]; rfl
  rw [hb]
theorem apL_m {nd : List Nd} {tr : List (Nat × Nat)} {mp : List (List (Int × Nat))} {t : Nat} {o : Option BT} {M : List En} (h : Rp nd tr mp t o M) (k a b c d : Int) : apL nd tr t k a b c d = mL M k a b c d := by
  have h1 : qE (ovT a b c d) nd tr t = rw1 (qM (ovP a b c d) M) := (h.qry (mono_ov a b c d)).2.1
  have h2 : qE (segT a b c d) nd tr t = rw1 (qM (sgP a b c d) M) := (h.qry (mono_sg a b c d)).2.1
  simp only [apL, mL, h1, h2]
theorem apX_m {nd : List Nd} {tr : List (Nat × Nat)} {mp : List (List (Int × Nat))} {t : Nat} {o : Option BT} {M : List En} (h : Rp nd tr mp t o M) (k id : Int) : apX nd tr mp t k id 0 = mX M k id 0 ∧ apX nd tr mp t k id 1 = mX M k id 1 ∧ apX nd tr mp t k id 2 = mX M k id 2 ∧ apX nd tr mp t k id 3 = mX M k id 3 := by
  obtain ⟨_, h1, h2⟩ := h.bnd id
  have key : bnd nd tr mp t id 0 = mBnd M id 0 ∧ bnd nd tr mp t id 1 = mBnd M id 1 ∧ bnd nd tr mp t id 2 = mBnd M id 2 ∧ bnd nd tr mp t id 3 = mBnd M id 3 := by
    cases hk : lkM M id with
    | none =>
      rw [hk] at h1
      have h3 : bndD tr mp t id = false := h1
      simp only [bnd, mBnd, hk, h3, cond_false, and_self]
    | some e =>
      obtain ⟨e0, e1, e2, e3⟩ := h2 e hk
      simp only [mBnd, hk]
      exact ⟨e0, e1, e2, e3⟩
  obtain ⟨k0, k1, k2, k3⟩ := key
  simp only [apX, mX, k0, k1, k2, k3, and_self]
theorem apM_m (k id a b c d : Int) (M : List En) : apM k id a b c d M = mA false M k id a b c d := by simp only [apM, mA, mInsM, mUpdM, true_and]
theorem mL_one (M : List En) (k a b c d : Int) : All1 (mL M k a b c d) := by
  unfold mL
  split
  · exact All1.rw1 _
  · split
    · exact All1.rw1 _
    · intro i hi; simp at hi
theorem mL_len {M : List En} (h : M.length ≤ 4096) (k a b c d : Int) : (mL M k a b c d).length ≤ 4096 := by
  unfold mL
  split
  · rw [len_rw1]; exact Nat.le_trans (qM_len _ _) h
  · split
    · rw [len_rw1]; exact Nat.le_trans (qM_len _ _) h
    · simp
set_option maxRecDepth 100000 in
set_option maxHeartbeats 20000000 in
theorem run_BVHOperations (xs : List (List Int)) (fx : ∀ i, i < xs.length → (xs.getD i []).length = 6) :
    GVT Try.prog T Try.f7.results.toList Try.f7.ntmps (Try.f7.body.getD .skip) [.sl 1 6 0 xs.length] [.arr false true 6 xs] := by
  conv => whnf
  refine goes_cut (C := []) (pl := [(9, [0, 1, 2, 3, 4, 5, 6, 7, 8, 9, 10, 11, 12, 13, 14, 15, 16, 17, 18, 19, 20, 21, 22, 23], [0, 0, 3, 7, 15, 15, 63, 127, 255, 511, 1023, 1023, 4095, 8191, 16383, 32767, 65535, 32767, 163839, 425983, 950271, 1998847, 4194303, 8388607])]) T_ok (Cons.nil _) mixed (by kernel_rfl) ?_
  repeat' (first | (with_reducible refine And.intro ?_ ?_) | (with_reducible intro h) | ((fail_if_success (with_reducible refine Leaf.mk ?_)); (fail_if_success (with_reducible refine VC.mk ?_)); (fail_if_success (with_reducible refine Goes.mk ?_)); (fail_if_success (with_reducible refine Again.mk ?_)); (fail_if_success (with_reducible refine Rounds.mk ?_)); (fail_if_success (with_reducible show False)); (fail_if_success (with_reducible show True)); conv => whnf))
  refine goes_cut (C := [c_law20_example]) (pl := [(9, [0, 1, 2, 3, 4, 5, 6, 7, 8, 9, 10, 11, 12, 13, 14, 15, 16, 17, 18, 19, 20, 21, 22, 23], [0, 0, 3, 7, 15, 15, 63, 127, 255, 511, 1023, 1023, 4095, 8191, 16383, 32767, 65535, 32767, 163839, 425983, 950271, 1998847, 4194303, 8388607])]) T_ok (Cons.cons con_law20_example (Cons.nil _)) mixed (by kernel_rfl) ?_
  by_cases hlen : 60 < xs.length
  · have hd : decide ((60 : Int) < (xs.length : Int)) = true := by simp; omega
    repeat' (first | (with_reducible refine And.intro ?_ ?_) | (with_reducible intro h) | ((fail_if_success (with_reducible refine Leaf.mk ?_)); (fail_if_success (with_reducible refine VC.mk ?_)); (fail_if_success (with_reducible refine Goes.mk ?_)); (fail_if_success (with_reducible refine Again.mk ?_)); (fail_if_success (with_reducible refine Rounds.mk ?_)); (fail_if_success (with_reducible show False)); (fail_if_success (with_reducible show True)); conv => whnf))
    all_goals first | (with_reducible exact trivial) | (with_reducible exact (bc2 hd (by assumption)).elim) | exact Leaf.mk rfl
  · have hd : decide ((60 : Int) < (xs.length : Int)) = false := by simp; omega
    repeat' (first | (with_reducible refine And.intro ?_ ?_) | (with_reducible intro h) | ((fail_if_success (with_reducible refine Leaf.mk ?_)); (fail_if_success (with_reducible refine VC.mk ?_)); (fail_if_success (with_reducible refine Goes.mk ?_)); (fail_if_success (with_reducible refine Again.mk ?_)); (fail_if_success (with_reducible refine Rounds.mk ?_)); (fail_if_success (with_reducible show False)); (fail_if_success (with_reducible show True)); conv => whnf))
    all_goals try with_reducible first | exact trivial | exact (bc2 (by assumption) hd).elim
    refine goes_cut (C := [c_New]) (pl := [(9, [0, 1, 2, 3, 4, 5, 6, 7, 8, 9, 10, 11, 12, 13, 14, 15, 16, 17, 18, 19, 20, 21, 22, 23], [0, 0, 3, 7, 15, 15, 63, 127, 255, 511, 1023, 1023, 4095, 8191, 16383, 32767, 65535, 32767, 163839, 425983, 950271, 1998847, 4194303, 8388607])]) T_ok (Cons.cons con_New (Cons.nil _)) mixed (by kernel_rfl) ?_
    repeat' (first | (with_reducible refine And.intro ?_ ?_) | (with_reducible intro h) | ((fail_if_success (with_reducible refine Leaf.mk ?_)); (fail_if_success (with_reducible refine VC.mk ?_)); (fail_if_success (with_reducible refine Goes.mk ?_)); (fail_if_success (with_reducible refine Again.mk ?_)); (fail_if_success (with_reducible refine Rounds.mk ?_)); (fail_if_success (with_reducible show False)); (fail_if_success (with_reducible show True)); conv => whnf))
    refine goes_cut (C := []) (pl := [(9, [0, 1, 2, 3, 4, 5, 6, 7, 8, 9, 10, 11, 12, 13, 14, 15, 16, 17, 18, 19, 20, 21, 22, 23], [0, 0, 3, 7, 15, 15, 63, 127, 255, 511, 1023, 1023, 4095, 8191, 16383, 32767, 65535, 32767, 163839, 425983, 950271, 1998847, 4194303, 8388607])]) T_ok (Cons.nil _) mixed (by kernel_rfl) ?_
    repeat' (first | (with_reducible refine And.intro ?_ ?_) | (with_reducible intro h) | ((fail_if_success (with_reducible refine Leaf.mk ?_)); (fail_if_success (with_reducible refine VC.mk ?_)); (fail_if_success (with_reducible refine Goes.mk ?_)); (fail_if_success (with_reducible refine Again.mk ?_)); (fail_if_success (with_reducible refine Rounds.mk ?_)); (fail_if_success (with_reducible show False)); (fail_if_success (with_reducible show True)); conv => whnf))
    refine goes_invG (X := (Nat × List Nd × List (Nat × Nat) × List (List (Int × Nat)) × List En)) (fun x => (.sl 1 6 0 xs.length :: .any :: .any :: .np 0 1 1 0 :: .ptr 2 0 :: .int .i64 (x.1 : Int) :: .any :: .any :: .any :: .any :: .any :: .any :: .any :: .any :: .any :: .any :: .any :: .any :: .any :: .any :: .any :: .any :: .any :: .any :: .any :: .any :: .any :: .any :: .any :: .any :: .any :: .any :: .any :: .any :: .any :: .any :: .any :: .any :: .any :: .any :: .any :: .any :: .any :: .any :: .any :: .any :: .any :: .any :: .any :: .any :: .any :: .any :: .any :: .any :: .any :: .any :: .any :: .any :: .any :: .any :: .any :: .any :: .any :: .any :: .any :: .any :: .any :: .any :: .any :: .any :: .any :: .any :: .any :: .any :: .any :: .any :: .any :: [], [.store ⟨x.2.1, x.2.2.1, x.2.2.2.1⟩, .arr false true 6 xs, .cells [.osl x.2.2.2.2.isEmpty 3 1 x.2.2.2.2.length, .osl x.2.2.2.2.isEmpty 4 4 x.2.2.2.2.length, .bool false], .arr true (!x.2.2.2.2.isEmpty) 1 (cA x.2.2.2.2), .arr true (!x.2.2.2.2.isEmpty) 4 (cB x.2.2.2.2)])) (fun x => x.1 ≤ xs.length ∧ ∃ o, Rp x.2.1 x.2.2.1 x.2.2.2.1 1 o x.2.2.2.2) (fun x => xs.length - x.1) (0, [], [(0, 1)], [[]], []) [0, 1, 2, 3, 4] ⟨Nat.zero_le _, none, Rp.new [] [] []⟩ ?_ ?_ ?_
    · repeat' (first | (with_reducible refine And.intro ?_ ?_) | (with_reducible intro h) | ((fail_if_success (with_reducible refine Leaf.mk ?_)); (fail_if_success (with_reducible refine VC.mk ?_)); (fail_if_success (with_reducible refine Goes.mk ?_)); (fail_if_success (with_reducible refine Again.mk ?_)); (fail_if_success (with_reducible refine Rounds.mk ?_)); (fail_if_success (with_reducible show False)); (fail_if_success (with_reducible show True)); conv => whnf))
      all_goals first | exact trivial | (refine Leaf.mk ?_; first | rfl | exact ⟨rfl, rfl, rfl⟩ | exact ⟨rfl, rfl⟩ | (simp; done))
    · repeat' (first | (with_reducible refine And.intro ?_ ?_) | (with_reducible intro h) | ((fail_if_success (with_reducible refine Leaf.mk ?_)); (fail_if_success (with_reducible refine VC.mk ?_)); (fail_if_success (with_reducible refine Goes.mk ?_)); (fail_if_success (with_reducible refine Again.mk ?_)); (fail_if_success (with_reducible refine Rounds.mk ?_)); (fail_if_success (with_reducible show False)); (fail_if_success (with_reducible show True)); conv => whnf))
      all_goals first | exact trivial | (refine Leaf.mk ?_; first | rfl | exact ⟨rfl, rfl, rfl⟩ | exact ⟨rfl, rfl⟩ | (simp; done))
    · intro x hx
      rcases x with ⟨i, nd', tr', mp', M⟩
      dsimp only at hx ⊢
      obtain ⟨x1, o, x3⟩ := hx
      rcases Nat.lt_or_ge i xs.length with hi | hi
      · obtain ⟨i1, o', y3, y4⟩ := x3.ap (at2 xs i 0) (at2 xs i 1) (at2 xs i 2) (at2 xs i 3) (at2 xs i 4) (at2 xs i 5)
        rw [apM_m] at y3
        have fE := apE_m x3 (at2 xs i 0) (at2 xs i 1) (at2 xs i 2) (at2 xs i 3) (at2 xs i 4) (at2 xs i 5)
        have fL := apL_m x3 (at2 xs i 0) (at2 xs i 2) (at2 xs i 3) (at2 xs i 4) (at2 xs i 5)
        obtain ⟨fX0, fX1, fX2, fX3⟩ := apX_m x3 (at2 xs i 0) (at2 xs i 1)
        have hd : decide ((i : Int) < (xs.length : Int)) = true := by simp; omega
        obtain ⟨l1, l2⟩ := y3.len_
        have gE : (!decide (apE tr' mp' 1 (at2 xs i 0) (at2 xs i 1) (at2 xs i 2) (at2 xs i 3) (at2 xs i 4) (at2 xs i 5) = mE false M (at2 xs i 0) (at2 xs i 1) (at2 xs i 2) (at2 xs i 3) (at2 xs i 4) (at2 xs i 5))) = false := by rw [fE]; simp
        have gX : (!(decide (apX nd' tr' mp' 1 (at2 xs i 0) (at2 xs i 1) 0 = mX M (at2 xs i 0) (at2 xs i 1) 0) && (decide (apX nd' tr' mp' 1 (at2 xs i 0) (at2 xs i 1) 1 = mX M (at2 xs i 0) (at2 xs i 1) 1) && (decide (apX nd' tr' mp' 1 (at2 xs i 0) (at2 xs i 1) 2 = mX M (at2 xs i 0) (at2 xs i 1) 2) && decide (apX nd' tr' mp' 1 (at2 xs i 0) (at2 xs i 1) 3 = mX M (at2 xs i 0) (at2 xs i 1) 3))))) = false := by rw [fX0, fX1, fX2, fX3]; simp
        have gL : (!decide (lenE (apH nd' tr' mp' 1 (at2 xs i 0) (at2 xs i 1) (at2 xs i 2) (at2 xs i 3) (at2 xs i 4) (at2 xs i 5)).tr (apH nd' tr' mp' 1 (at2 xs i 0) (at2 xs i 1) (at2 xs i 2) (at2 xs i 3) (at2 xs i 4) (at2 xs i 5)).mp 1 = ((mA false M (at2 xs i 0) (at2 xs i 1) (at2 xs i 2) (at2 xs i 3) (at2 xs i 4) (at2 xs i 5)).length : Int))) = false := by rw [l2]; simp
        refine goes_cut (C := []) (pl := [(9, [0, 1, 2, 3, 4, 5, 6, 7, 8, 9, 10, 11, 12, 13, 14, 15, 16, 17, 18, 19, 20, 21, 22, 23], [0, 0, 3, 7, 15, 15, 63, 127, 255, 511, 1023, 1023, 4095, 8191, 16383, 32767, 65535, 32767, 163839, 425983, 950271, 1998847, 4194303, 8388607])]) T_ok (Cons.nil _) mixed (by kernel_rfl) ?_
        repeat' (first | (with_reducible refine And.intro ?_ ?_) | (with_reducible intro h) | ((fail_if_success (with_reducible refine Leaf.mk ?_)); (fail_if_success (with_reducible refine VC.mk ?_)); (fail_if_success (with_reducible refine Goes.mk ?_)); (fail_if_success (with_reducible refine Again.mk ?_)); (fail_if_success (with_reducible refine Rounds.mk ?_)); (fail_if_success (with_reducible show False)); (fail_if_success (with_reducible show True)); conv => whnf))
        all_goals try with_reducible first | exact trivial | exact (bc2 hd (by assumption)).elim
        refine goes_seq ?_
        refine goes_block ?_
        refine goes_cut (C := [c_law20_apply]) (pl := [(9, [0, 1, 2, 3, 4, 5, 6, 7, 8, 9, 10, 11, 12, 13, 14, 15, 16, 17, 18, 19, 20, 21, 22, 23], [0, 0, 3, 7, 15, 15, 63, 127, 255, 511, 1023, 1023, 4095, 8191, 16383, 32767, 65535, 32767, 163839, 425983, 950271, 1998847, 4194303, 8388607])]) T2_ok (Cons.cons con_law20_apply (Cons.nil _)) mixed (by kernel_rfl) ?_
        repeat' (first | (with_reducible refine And.intro ?_ ?_) | (with_reducible intro h) | ((fail_if_success (with_reducible refine Leaf.mk ?_)); (fail_if_success (with_reducible refine VC.mk ?_)); (fail_if_success (with_reducible refine Goes.mk ?_)); (fail_if_success (with_reducible refine Again.mk ?_)); (fail_if_success (with_reducible refine Rounds.mk ?_)); (fail_if_success (with_reducible show False)); (fail_if_success (with_reducible show True)); conv => whnf))
        all_goals try simp only [Int.toNat_natCast, Nat.zero_add, Nat.reduceAdd, List.take_length, take_cA, take_cB, zip_col, cA_at, cB_at0, cB_at1, cB_at2, cB_at3, len_cA, len_cB, len_rw1, take_rw1] at *
        all_goals try (refine VC.mk ?_; first | exact trivial | (with_reducible assumption) | (with_reducible exact i1) | omega | (simp only [InR]; omega) | exact ⟨M, rfl, rfl, rfl, x3.asc, x3.len⟩ | (intro hh; rw [hh]; rfl) | exact Nat.le_refl _ | exact Or.inr trivial | (show eqI _ _ = true; rw [fL]; exact eqI_refl _) | (show eqP _ _ = true; rw [w3]; exact eqP_refl _) | (with_reducible exact Or.inr w2) | (rw [fL]; exact mL_one _ _ _ _ _ _) | exact mL_one _ _ _ _ _ _ | (rw [fL]; exact Nat.le_trans (mL_len x3.len _ _ _ _ _) (by decide)) | (rw [w3]; exact w4) | exact w4 | (rw [w3]; omega) | exact ⟨or_b _, Nat.le_refl _⟩ | (rw [fL]; exact ⟨or_b _, Nat.le_refl _⟩) | (exact ⟨mF_or x3.len _ _ _ _ _, Nat.le_refl _⟩) | (simp; done) | (simp; omega))
        refine goes_cut (C := [c_rt_Apply]) (pl := [(9, [0, 1, 2, 3, 4, 5, 6, 7, 8, 9, 10, 11, 12, 13, 14, 15, 16, 17, 18, 19, 20, 21, 22, 23], [0, 0, 3, 7, 15, 15, 63, 127, 255, 511, 1023, 1023, 4095, 8191, 16383, 32767, 65535, 32767, 163839, 425983, 950271, 1998847, 4194303, 8388607])]) T2_ok (Cons.cons con_rt_Apply (Cons.nil _)) mixed (by kernel_rfl) ?_
        repeat' (first | (with_reducible refine And.intro ?_ ?_) | (with_reducible intro h) | ((fail_if_success (with_reducible refine Leaf.mk ?_)); (fail_if_success (with_reducible refine VC.mk ?_)); (fail_if_success (with_reducible refine Goes.mk ?_)); (fail_if_success (with_reducible refine Again.mk ?_)); (fail_if_success (with_reducible refine Rounds.mk ?_)); (fail_if_success (with_reducible show False)); (fail_if_success (with_reducible show True)); conv => whnf))
        all_goals try simp only [Int.toNat_natCast, Nat.zero_add, Nat.reduceAdd, List.take_length, take_cA, take_cB, zip_col, cA_at, cB_at0, cB_at1, cB_at2, cB_at3, len_cA, len_cB, len_rw1, take_rw1] at *
        all_goals try (refine VC.mk ?_; first | exact trivial | (with_reducible assumption) | (with_reducible exact i1) | omega | (simp only [InR]; omega) | exact ⟨M, rfl, rfl, rfl, x3.asc, x3.len⟩ | (intro hh; rw [hh]; rfl) | exact Nat.le_refl _ | exact Or.inr trivial | (show eqI _ _ = true; rw [fL]; exact eqI_refl _) | (show eqP _ _ = true; rw [w3]; exact eqP_refl _) | (with_reducible exact Or.inr w2) | (rw [fL]; exact mL_one _ _ _ _ _ _) | exact mL_one _ _ _ _ _ _ | (rw [fL]; exact Nat.le_trans (mL_len x3.len _ _ _ _ _) (by decide)) | (rw [w3]; exact w4) | exact w4 | (rw [w3]; omega) | exact ⟨or_b _, Nat.le_refl _⟩ | (rw [fL]; exact ⟨or_b _, Nat.le_refl _⟩) | (exact ⟨mF_or x3.len _ _ _ _ _, Nat.le_refl _⟩) | (simp; done) | (simp; omega))
        refine goes_all (C := [pin c_ref20_EqualInts (.blit true), c_Len]) (pl := [(9, [0, 1, 2, 3, 4, 5, 6, 7, 8, 9, 10, 11, 12, 13, 14, 15, 16, 17, 18, 19, 20, 21, 22, 23], [0, 0, 3, 7, 15, 15, 63, 127, 255, 511, 1023, 1023, 4095, 8191, 16383, 32767, 65535, 32767, 163839, 425983, 950271, 1998847, 4194303, 8388607])]) T2_ok (Cons.cons (pin_ok con_ref20_EqualInts _) (Cons.cons con_Len (Cons.nil _))) mixed (by kernel_rfl) ?_
        repeat' (first | (with_reducible refine And.intro ?_ ?_) | (with_reducible intro h) | ((fail_if_success (with_reducible refine Leaf.mk ?_)); (fail_if_success (with_reducible refine VC.mk ?_)); (fail_if_success (with_reducible refine Goes.mk ?_)); (fail_if_success (with_reducible refine Again.mk ?_)); (fail_if_success (with_reducible refine Rounds.mk ?_)); (fail_if_success (with_reducible show False)); (fail_if_success (with_reducible show True)); conv => whnf))
        all_goals try simp only [Int.toNat_natCast, Nat.zero_add, Nat.reduceAdd, List.take_length, take_cA, take_cB, zip_col, cA_at, cB_at0, cB_at1, cB_at2, cB_at3, len_cA, len_cB, len_rw1, take_rw1] at *
        all_goals try with_reducible first | exact trivial | exact (bc2 gE (by assumption)).elim | exact (bc2 (by assumption) gE).elim | exact (bc2 gX (by assumption)).elim | exact (bc2 (by assumption) gX).elim | exact (bc2 gL (by assumption)).elim | exact (bc2 (by assumption) gL).elim
        all_goals try (refine VC.mk ?_; first | exact trivial | (with_reducible assumption) | (with_reducible exact i1) | omega | (simp only [InR]; omega) | exact ⟨M, rfl, rfl, rfl, x3.asc, x3.len⟩ | (intro hh; rw [hh]; rfl) | exact Nat.le_refl _ | exact Or.inr trivial | (show eqI _ _ = true; rw [fL]; exact eqI_refl _) | (show eqP _ _ = true; rw [w3]; exact eqP_refl _) | (with_reducible exact Or.inr w2) | (rw [fL]; exact mL_one _ _ _ _ _ _) | exact mL_one _ _ _ _ _ _ | (rw [fL]; exact Nat.le_trans (mL_len x3.len _ _ _ _ _) (by decide)) | (rw [w3]; exact w4) | exact w4 | (rw [w3]; omega) | exact ⟨or_b _, Nat.le_refl _⟩ | (rw [fL]; exact ⟨or_b _, Nat.le_refl _⟩) | (exact ⟨mF_or x3.len _ _ _ _ _, Nat.le_refl _⟩) | (simp; done) | (simp; omega))
        refine goes_all (C := []) (pl := [(9, [0, 1, 2, 3, 4, 5, 6, 7, 8, 9, 10, 11, 12, 13, 14, 15, 16, 17, 18, 19, 20, 21, 22, 23], [0, 0, 3, 7, 15, 15, 63, 127, 255, 511, 1023, 1023, 4095, 8191, 16383, 32767, 65535, 32767, 163839, 425983, 950271, 1998847, 4194303, 8388607])]) T_ok (Cons.nil _) mixed (by kernel_rfl) ?_
        repeat' (first | (with_reducible refine And.intro ?_ ?_) | (with_reducible intro h) | ((fail_if_success (with_reducible refine Leaf.mk ?_)); (fail_if_success (with_reducible refine VC.mk ?_)); (fail_if_success (with_reducible refine Goes.mk ?_)); (fail_if_success (with_reducible refine Again.mk ?_)); (fail_if_success (with_reducible refine Rounds.mk ?_)); (fail_if_success (with_reducible show False)); (fail_if_success (with_reducible show True)); conv => whnf))
        all_goals try (refine VC.mk ?_; first | exact trivial | (with_reducible assumption) | (with_reducible exact i1) | omega | (simp only [InR]; omega) | exact ⟨M, rfl, rfl, rfl, x3.asc, x3.len⟩ | (intro hh; rw [hh]; rfl) | exact Nat.le_refl _ | exact Or.inr trivial | (show eqI _ _ = true; rw [fL]; exact eqI_refl _) | (show eqP _ _ = true; rw [w3]; exact eqP_refl _) | (with_reducible exact Or.inr w2) | (rw [fL]; exact mL_one _ _ _ _ _ _) | exact mL_one _ _ _ _ _ _ | (rw [fL]; exact Nat.le_trans (mL_len x3.len _ _ _ _ _) (by decide)) | (rw [w3]; exact w4) | exact w4 | (rw [w3]; omega) | exact ⟨or_b _, Nat.le_refl _⟩ | (rw [fL]; exact ⟨or_b _, Nat.le_refl _⟩) | (exact ⟨mF_or x3.len _ _ _ _ _, Nat.le_refl _⟩) | (simp; done) | (simp; omega))
        all_goals (refine Again.mk ⟨(i + 1, _, _, _, mA false M (at2 xs i 0) (at2 xs i 1) (at2 xs i 2) (at2 xs i 3) (at2 xs i 4) (at2 xs i 5)), [0, 1, 2, 7, 8], ⟨hi, o', y3⟩, (by show xs.length - (i + 1) < xs.length - i; omega), ?_, ?_⟩ <;> (repeat' (first | (with_reducible refine And.intro ?_ ?_) | (with_reducible intro h) | ((fail_if_success (with_reducible refine Leaf.mk ?_)); (fail_if_success (with_reducible refine VC.mk ?_)); (fail_if_success (with_reducible refine Goes.mk ?_)); (fail_if_success (with_reducible refine Again.mk ?_)); (fail_if_success (with_reducible refine Rounds.mk ?_)); (fail_if_success (with_reducible show False)); (fail_if_success (with_reducible show True)); conv => whnf))) <;> first | exact trivial | (refine Leaf.mk ?_; first | rfl | exact ⟨rfl, rfl, rfl⟩ | exact ⟨rfl, rfl⟩ | (simp [len_cA, len_cB, zip_col]; done)))
      · obtain rfl : i = xs.length := by omega
        have hd : decide ((xs.length : Int) < (xs.length : Int)) = false := by simp
        obtain ⟨w2, w3⟩ := x3.prs
        have w4 := prM_two M
        have w5 : (prM M).length ≤ 4096 * 4096 := Nat.le_trans (prM_len x3.asc) (Nat.mul_le_mul x3.len x3.len)
        refine goes_cut (C := []) (pl := [(9, [0, 1, 2, 3, 4, 5, 6, 7, 8, 9, 10, 11, 12, 13, 14, 15, 16, 17, 18, 19, 20, 21, 22, 23], [0, 0, 3, 7, 15, 15, 63, 127, 255, 511, 1023, 1023, 4095, 8191, 16383, 32767, 65535, 32767, 163839, 425983, 950271, 1998847, 4194303, 8388607])]) T_ok (Cons.nil _) mixed (by kernel_rfl) ?_
        repeat' (first | (with_reducible refine And.intro ?_ ?_) | (with_reducible intro h) | ((fail_if_success (with_reducible refine Leaf.mk ?_)); (fail_if_success (with_reducible refine VC.mk ?_)); (fail_if_success (with_reducible refine Goes.mk ?_)); (fail_if_success (with_reducible refine Again.mk ?_)); (fail_if_success (with_reducible refine Rounds.mk ?_)); (fail_if_success (with_reducible show False)); (fail_if_success (with_reducible show True)); conv => whnf))
        all_goals try with_reducible first | exact trivial | exact (bc2 (by assumption) hd).elim
        refine goes_all (C := [c_Pairs, c_rt_Pairs, pin c_ref20_EqualPairs (.blit true), c_law20_example]) (pl := [(9, [0, 1, 2, 3, 4, 5, 6, 7, 8, 9, 10, 11, 12, 13, 14, 15, 16, 17, 18, 19, 20, 21, 22, 23], [0, 0, 3, 7, 15, 15, 63, 127, 255, 511, 1023, 1023, 4095, 8191, 16383, 32767, 65535, 32767, 163839, 425983, 950271, 1998847, 4194303, 8388607])]) T2_ok (Cons.cons con_Pairs (Cons.cons con_rt_Pairs (Cons.cons (pin_ok con_ref20_EqualPairs _) (Cons.cons con_law20_example (Cons.nil _))))) mixed (by kernel_rfl) ?_
        repeat' (first | (with_reducible refine And.intro ?_ ?_) | (with_reducible intro h) | ((fail_if_success (with_reducible refine Leaf.mk ?_)); (fail_if_success (with_reducible refine VC.mk ?_)); (fail_if_success (with_reducible refine Goes.mk ?_)); (fail_if_success (with_reducible refine Again.mk ?_)); (fail_if_success (with_reducible refine Rounds.mk ?_)); (fail_if_success (with_reducible show False)); (fail_if_success (with_reducible show True)); conv => whnf))
        all_goals try simp only [Int.toNat_natCast, Nat.zero_add, Nat.reduceAdd, List.take_length, take_cA, take_cB, zip_col, cA_at, cB_at0, cB_at1, cB_at2, cB_at3, len_cA, len_cB, len_rw1, take_rw1] at *
        all_goals try (refine VC.mk ?_; first | exact trivial | (with_reducible assumption) | (with_reducible exact i1) | omega | (simp only [InR]; omega) | exact ⟨M, rfl, rfl, rfl, x3.asc, x3.len⟩ | (intro hh; rw [hh]; rfl) | exact Nat.le_refl _ | exact Or.inr trivial | (show eqI _ _ = true; rw [fL]; exact eqI_refl _) | (show eqP _ _ = true; rw [w3]; exact eqP_refl _) | (with_reducible exact Or.inr w2) | (rw [fL]; exact mL_one _ _ _ _ _ _) | exact mL_one _ _ _ _ _ _ | (rw [fL]; exact Nat.le_trans (mL_len x3.len _ _ _ _ _) (by decide)) | (rw [w3]; exact w4) | exact w4 | (rw [w3]; omega) | exact ⟨or_b _, Nat.le_refl _⟩ | (rw [fL]; exact ⟨or_b _, Nat.le_refl _⟩) | (exact ⟨mF_or x3.len _ _ _ _ _, Nat.le_refl _⟩) | (simp; done) | (simp; omega))
        all_goals try (refine Leaf.mk ?_; first | exact trivial | rfl)
set_option maxRecDepth 100000 in
set_option maxHeartbeats 20000000 in
theorem run_BVHOperations_nil :
    GVT Try.prog T Try.f7.results.toList Try.f7.ntmps (Try.f7.body.getD .skip) [.nils] [.arr false false 6 []] := by
  conv => whnf
  refine goes_cut (C := []) (pl := [(9, [0, 1, 2, 3, 4, 5, 6, 7, 8, 9, 10, 11, 12, 13, 14, 15, 16, 17, 18, 19, 20, 21, 22, 23], [0, 0, 3, 7, 15, 15, 63, 127, 255, 511, 1023, 1023, 4095, 8191, 16383, 32767, 65535, 32767, 163839, 425983, 950271, 1998847, 4194303, 8388607])]) T_ok (Cons.nil _) mixed (by kernel_rfl) ?_
  repeat' (first | (with_reducible refine And.intro ?_ ?_) | (with_reducible intro h) | ((fail_if_success (with_reducible refine Leaf.mk ?_)); (fail_if_success (with_reducible refine VC.mk ?_)); (fail_if_success (with_reducible refine Goes.mk ?_)); (fail_if_success (with_reducible refine Again.mk ?_)); (fail_if_success (with_reducible refine Rounds.mk ?_)); (fail_if_success (with_reducible show False)); (fail_if_success (with_reducible show True)); conv => whnf))
  refine goes_cut (C := [c_law20_example]) (pl := [(9, [0, 1, 2, 3, 4, 5, 6, 7, 8, 9, 10, 11, 12, 13, 14, 15, 16, 17, 18, 19, 20, 21, 22, 23], [0, 0, 3, 7, 15, 15, 63, 127, 255, 511, 1023, 1023, 4095, 8191, 16383, 32767, 65535, 32767, 163839, 425983, 950271, 1998847, 4194303, 8388607])]) T_ok (Cons.cons con_law20_example (Cons.nil _)) mixed (by kernel_rfl) ?_
  repeat' (first | (with_reducible refine And.intro ?_ ?_) | (with_reducible intro h) | ((fail_if_success (with_reducible refine Leaf.mk ?_)); (fail_if_success (with_reducible refine VC.mk ?_)); (fail_if_success (with_reducible refine Goes.mk ?_)); (fail_if_success (with_reducible refine Again.mk ?_)); (fail_if_success (with_reducible refine Rounds.mk ?_)); (fail_if_success (with_reducible show False)); (fail_if_success (with_reducible show True)); conv => whnf))
  refine goes_cut (C := [c_New]) (pl := [(9, [0, 1, 2, 3, 4, 5, 6, 7, 8, 9, 10, 11, 12, 13, 14, 15, 16, 17, 18, 19, 20, 21, 22, 23], [0, 0, 3, 7, 15, 15, 63, 127, 255, 511, 1023, 1023, 4095, 8191, 16383, 32767, 65535, 32767, 163839, 425983, 950271, 1998847, 4194303, 8388607])]) T_ok (Cons.cons con_New (Cons.nil _)) mixed (by kernel_rfl) ?_
  repeat' (first | (with_reducible refine And.intro ?_ ?_) | (with_reducible intro h) | ((fail_if_success (with_reducible refine Leaf.mk ?_)); (fail_if_success (with_reducible refine VC.mk ?_)); (fail_if_success (with_reducible refine Goes.mk ?_)); (fail_if_success (with_reducible refine Again.mk ?_)); (fail_if_success (with_reducible refine Rounds.mk ?_)); (fail_if_success (with_reducible show False)); (fail_if_success (with_reducible show True)); conv => whnf))
  refine goes_cut (C := []) (pl := [(9, [0, 1, 2, 3, 4, 5, 6, 7, 8, 9, 10, 11, 12, 13, 14, 15, 16, 17, 18, 19, 20, 21, 22, 23], [0, 0, 3, 7, 15, 15, 63, 127, 255, 511, 1023, 1023, 4095, 8191, 16383, 32767, 65535, 32767, 163839, 425983, 950271, 1998847, 4194303, 8388607])]) T_ok (Cons.nil _) mixed (by kernel_rfl) ?_
  repeat' (first | (with_reducible refine And.intro ?_ ?_) | (with_reducible intro h) | ((fail_if_success (with_reducible refine Leaf.mk ?_)); (fail_if_success (with_reducible refine VC.mk ?_)); (fail_if_success (with_reducible refine Goes.mk ?_)); (fail_if_success (with_reducible refine Again.mk ?_)); (fail_if_success (with_reducible refine Rounds.mk ?_)); (fail_if_success (with_reducible show False)); (fail_if_success (with_reducible show True)); conv => whnf))
  refine goes_invG (X := (Nat × List Nd × List (Nat × Nat) × List (List (Int × Nat)) × List En)) (fun x => (.nils :: .any :: .any :: .np 0 1 1 0 :: .ptr 2 0 :: .int .i64 (x.1 : Int) :: .any :: .any :: .any :: .any :: .any :: .any :: .any :: .any :: .any :: .any :: .any :: .any :: .any :: .any :: .any :: .any :: .any :: .any :: .any :: .any :: .any :: .any :: .any :: .any :: .any :: .any :: .any :: .any :: .any :: .any :: .any :: .any :: .any :: .any :: .any :: .any :: .any :: .any :: .any :: .any :: .any :: .any :: .any :: .any :: .any :: .any :: .any :: .any :: .any :: .any :: .any :: .any :: .any :: .any :: .any :: .any :: .any :: .any :: .any :: .any :: .any :: .any :: .any :: .any :: .any :: .any :: .any :: .any :: .any :: .any :: .any :: [], [.store ⟨x.2.1, x.2.2.1, x.2.2.2.1⟩, .arr false false 6 ([] : List (List Int)), .cells [.osl x.2.2.2.2.isEmpty 3 1 x.2.2.2.2.length, .osl x.2.2.2.2.isEmpty 4 4 x.2.2.2.2.length, .bool false], .arr true (!x.2.2.2.2.isEmpty) 1 (cA x.2.2.2.2), .arr true (!x.2.2.2.2.isEmpty) 4 (cB x.2.2.2.2)])) (fun x => x.1 ≤ ([] : List (List Int)).length ∧ ∃ o, Rp x.2.1 x.2.2.1 x.2.2.2.1 1 o x.2.2.2.2) (fun x => ([] : List (List Int)).length - x.1) (0, [], [(0, 1)], [[]], []) [0, 1, 2, 3, 4] ⟨Nat.zero_le _, none, Rp.new [] [] []⟩ ?_ ?_ ?_
  · repeat' (first | (with_reducible refine And.intro ?_ ?_) | (with_reducible intro h) | ((fail_if_success (with_reducible refine Leaf.mk ?_)); (fail_if_success (with_reducible refine VC.mk ?_)); (fail_if_success (with_reducible refine Goes.mk ?_)); (fail_if_success (with_reducible refine Again.mk ?_)); (fail_if_success (with_reducible refine Rounds.mk ?_)); (fail_if_success (with_reducible show False)); (fail_if_success (with_reducible show True)); conv => whnf))
    all_goals first | exact trivial | (refine Leaf.mk ?_; first | rfl | exact ⟨rfl, rfl, rfl⟩ | exact ⟨rfl, rfl⟩ | (simp; done))
  · repeat' (first | (with_reducible refine And.intro ?_ ?_) | (with_reducible intro h) | ((fail_if_success (with_reducible refine Leaf.mk ?_)); (fail_if_success (with_reducible refine VC.mk ?_)); (fail_if_success (with_reducible refine Goes.mk ?_)); (fail_if_success (with_reducible refine Again.mk ?_)); (fail_if_success (with_reducible refine Rounds.mk ?_)); (fail_if_success (with_reducible show False)); (fail_if_success (with_reducible show True)); conv => whnf))
    all_goals first | exact trivial | (refine Leaf.mk ?_; first | rfl | exact ⟨rfl, rfl, rfl⟩ | exact ⟨rfl, rfl⟩ | (simp; done))
  · intro x hx
    rcases x with ⟨i, nd', tr', mp', M⟩
    dsimp only at hx ⊢
    obtain ⟨x1, o, x3⟩ := hx
    rcases Nat.lt_or_ge i ([] : List (List Int)).length with hi | hi
    · exact absurd hi (by simp)
    · obtain rfl : i = ([] : List (List Int)).length := by omega
      have hd : decide ((([] : List (List Int)).length : Int) < 0) = false := by simp
      obtain ⟨w2, w3⟩ := x3.prs
      have w4 := prM_two M
      have w5 : (prM M).length ≤ 4096 * 4096 := Nat.le_trans (prM_len x3.asc) (Nat.mul_le_mul x3.len x3.len)
      refine goes_cut (C := []) (pl := [(9, [0, 1, 2, 3, 4, 5, 6, 7, 8, 9, 10, 11, 12, 13, 14, 15, 16, 17, 18, 19, 20, 21, 22, 23], [0, 0, 3, 7, 15, 15, 63, 127, 255, 511, 1023, 1023, 4095, 8191, 16383, 32767, 65535, 32767, 163839, 425983, 950271, 1998847, 4194303, 8388607])]) T_ok (Cons.nil _) mixed (by kernel_rfl) ?_
      repeat' (first | (with_reducible refine And.intro ?_ ?_) | (with_reducible intro h) | ((fail_if_success (with_reducible refine Leaf.mk ?_)); (fail_if_success (with_reducible refine VC.mk ?_)); (fail_if_success (with_reducible refine Goes.mk ?_)); (fail_if_success (with_reducible refine Again.mk ?_)); (fail_if_success (with_reducible refine Rounds.mk ?_)); (fail_if_success (with_reducible show False)); (fail_if_success (with_reducible show True)); conv => whnf))
      all_goals try with_reducible first | exact trivial | exact (bc2 (by assumption) hd).elim
      refine goes_all (C := [c_Pairs, c_rt_Pairs, pin c_ref20_EqualPairs (.blit true), c_law20_example]) (pl := [(9, [0, 1, 2, 3, 4, 5, 6, 7, 8, 9, 10, 11, 12, 13, 14, 15, 16, 17, 18, 19, 20, 21, 22, 23], [0, 0, 3, 7, 15, 15, 63, 127, 255, 511, 1023, 1023, 4095, 8191, 16383, 32767, 65535, 32767, 163839, 425983, 950271, 1998847, 4194303, 8388607])]) T2_ok (Cons.cons con_Pairs (Cons.cons con_rt_Pairs (Cons.cons (pin_ok con_ref20_EqualPairs _) (Cons.cons con_law20_example (Cons.nil _))))) mixed (by kernel_rfl) ?_
      repeat' (first | (with_reducible refine And.intro ?_ ?_) | (with_reducible intro h) | ((fail_if_success (with_reducible refine Leaf.mk ?_)); (fail_if_success (with_reducible refine VC.mk ?_)); (fail_if_success (with_reducible refine Goes.mk ?_)); (fail_if_success (with_reducible refine Again.mk ?_)); (fail_if_success (with_reducible refine Rounds.mk ?_)); (fail_if_success (with_reducible show False)); (fail_if_success (with_reducible show True)); conv => whnf))
      all_goals try simp only [Int.toNat_natCast, Nat.zero_add, Nat.reduceAdd, List.take_length, take_cA, take_cB, zip_col, cA_at, cB_at0, cB_at1, cB_at2, cB_at3, len_cA, len_cB, len_rw1, take_rw1] at *
      all_goals try (refine VC.mk ?_; first | exact trivial | (with_reducible assumption) | (with_reducible exact i1) | omega | (simp only [InR]; omega) | exact ⟨M, rfl, rfl, rfl, x3.asc, x3.len⟩ | (intro hh; rw [hh]; rfl) | exact Nat.le_refl _ | exact Or.inr trivial | (show eqI _ _ = true; rw [fL]; exact eqI_refl _) | (show eqP _ _ = true; rw [w3]; exact eqP_refl _) | (with_reducible exact Or.inr w2) | (rw [fL]; exact mL_one _ _ _ _ _ _) | exact mL_one _ _ _ _ _ _ | (rw [fL]; exact Nat.le_trans (mL_len x3.len _ _ _ _ _) (by decide)) | (rw [w3]; exact w4) | exact w4 | (rw [w3]; omega) | exact ⟨or_b _, Nat.le_refl _⟩ | (rw [fL]; exact ⟨or_b _, Nat.le_refl _⟩) | (exact ⟨mF_or x3.len _ _ _ _ _, Nat.le_refl _⟩) | (simp; done) | (simp; omega))
      all_goals try (refine Leaf.mk ?_; first | exact trivial | rfl)
theorem walk_BVHOperations  (bxs : Bool) (xs : List (List Int)) (w : World) (mf : Nat → Option Ev.Place) (v : Value) (nxs : bxs = true → xs = []) (fxs : ∀ x ∈ xs, x.length = 6 ∧ ∀ y ∈ x, -9223372036854775808 ≤ y ∧ y ≤ 9223372036854775807) (dxs : Den (Map.of mf) (rowArg bxs 1 6 xs) v ∧ BlkH (Map.of mf) 1 w (.arr false (!bxs) 6 xs)) :
    Calls Try.prog 7 #[v] w fun e w' => e = .returned (.bool true) ∧ Below w.heap.size w w' := by
  cases bxs with
  | true =>
    obtain rfl := nxs rfl
    refine law_stG Try.func7 rfl T_ok (ss := [.nils]) (hs := [.arr false false 6 []]) (run_BVHOperations_nil ) (mf := fun | 0 => some ⟨0, 0, 0⟩ | 1 => mf 1 | _ => none) (vs := [v])
      ⟨dxs.1, trivial⟩ (by intro h; cases h) (fun i => ?_) (fun i => ?_) (fun i H h => ?_) (fun i h => ?_)
    · cases i with
      | zero => exact dxs.2
      | succ i => cases i <;> trivial
    · cases i with
      | zero => rfl
      | succ i => cases i <;> rfl
    · cases i with
      | zero => cases h
      | succ i => cases i <;> cases h
    · match i, h with
      | 0, _ => exact Nat.zero_le _
      | 1, _ => exact Nat.le_refl _
      | _ + 2, h => exact absurd rfl h
  | false =>
    refine law_stG Try.func7 rfl T_ok (ss := [.sl 1 6 0 xs.length]) (hs := [.arr false true 6 xs]) (run_BVHOperations  xs (fun i hi => by rw [List.getD_eq_getElem?_getD, List.getElem?_eq_getElem hi]; exact (fxs _ (List.getElem_mem hi)).1)) (mf := fun | 0 => some ⟨0, 0, 0⟩ | 1 => mf 1 | _ => none) (vs := [v])
      ⟨dxs.1, trivial⟩ (by intro h; cases h) (fun i => ?_) (fun i => ?_) (fun i H h => ?_) (fun i h => ?_)
    · cases i with
      | zero => exact dxs.2
      | succ i => cases i <;> trivial
    · cases i with
      | zero => rfl
      | succ i => cases i <;> rfl
    · cases i with
      | zero => cases h
      | succ i => cases i <;> cases h
    · match i, h with
      | 0, _ => exact Nat.zero_le _
      | 1, _ => exact Nat.le_refl _
      | _ + 2, h => exact absurd rfl h

end Go.Proofs.Ytconaehajaifhaa
