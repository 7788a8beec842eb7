/- Contracts of the laws of chapter 20: the reference's tree, changed (2). -/
import Derived.Test.YtconaehajaifhaaUJ
namespace Go.Proofs.Ytconaehajaifhaa
open Go.RowKit Fx Vx Bx Ev
set_option linter.unusedVariables false
set_option linter.unusedSimpArgs false
theorem del_ok {e : Bool} {k n : Nat} (h : e = (decide (k = 0) && decide (n - (k + 1) = 0))) : e = false → (!decide (k = 0) || decide (0 < n - (k + 1))) = true := fun hq => by
  rw [h] at hq
  by_cases h1 : k = 0 <;> by_cases h2 : n - (k + 1) = 0 <;> simp [h1, h2] at hq ⊢ <;> omega
theorem tn_succ (k : Nat) : ((k : Int) + 1).toNat = k + 1 := by omega
def c_rt_Remove : Con := ⟨47, mdRun [0] (fun l z b A B => match l with | [id] => [MdIs b A B] | _ => [False]) fun l z b A B => match l with
  | [id] => ⟨[.val (.bool (hasM (zipM A B) id))], (delM id (zipM A B)).isEmpty, cA (delM id (zipM A B)), cB (delM id (zipM A B))⟩
  | _ => ⟨[], b, A, B⟩⟩
set_option maxRecDepth 100000 in
set_option maxHeartbeats 8000000 in
theorem con_rt_Remove : c_rt_Remove.Ok Try.prog := by
  refine con_md Try.func47 rfl (by kernel_rfl) T_ok 2 _ _ _ (fun l z b A B hl hb hpre => ?_)
  match l, hl with
  | [id], zl =>
    clear zl
    have hp0 := hpre _ (List.Mem.head _); try dsimp only at hp0
    clear hpre hl hb
    obtain ⟨M, rfl, rfl, rfl, hM, hlen⟩ := hp0
    conv => whnf
    refine goes_cut (C := []) (pl := []) T2_ok (Cons.nil _) mixed (by kernel_rfl) ?_
    repeat' (first | (with_reducible refine And.intro ?_ ?_) | (with_reducible intro h) | ((fail_if_success (with_reducible refine Leaf.mk ?_)); (fail_if_success (with_reducible refine VC.mk ?_)); (fail_if_success (with_reducible refine Goes.mk ?_)); (fail_if_success (with_reducible refine Again.mk ?_)); (fail_if_success (with_reducible refine Rounds.mk ?_)); (fail_if_success (with_reducible show False)); (fail_if_success (with_reducible show True)); conv => whnf))
    refine goes_cut (C := [c_rt_find]) (pl := []) T2_ok (Cons.cons con_rt_find (Cons.nil _)) mixed (by kernel_rfl) ?_
    repeat' (first | (with_reducible refine And.intro ?_ ?_) | (with_reducible intro h) | ((fail_if_success (with_reducible refine Leaf.mk ?_)); (fail_if_success (with_reducible refine VC.mk ?_)); (fail_if_success (with_reducible refine Goes.mk ?_)); (fail_if_success (with_reducible refine Again.mk ?_)); (fail_if_success (with_reducible refine Rounds.mk ?_)); (fail_if_success (with_reducible show False)); (fail_if_success (with_reducible show True)); conv => whnf))
    all_goals try simp only [Int.toNat_natCast, Nat.zero_add, tn_succ, Nat.reduceAdd, List.take_length, take_cA, take_cB, zip_col, cA_at, cB_at0, cB_at1, cB_at2, cB_at3, len_cA, len_cB, len_rw1, take_rw1] at *
    all_goals try (refine VC.mk ?_; first | exact trivial | (with_reducible assumption) | omega | (simp only [InR]; omega) | exact ⟨M, rfl, rfl, rfl, hM, hlen⟩ | exact ⟨delM id M, rfl, rfl, rfl, delM_asc hM id, hl2⟩ | exact del_ok hne | (intro hh; rw [hh]; rfl) | exact Nat.le_refl _ | exact Or.inr trivial | exact Or.inr rfl | exact Or.inl rfl | rfl | (simp only [zip_col, len_cA, len_cB, List.length_take, List.length_append, List.length_drop, List.drop_zero, List.length_cons, List.length_nil]; omega) | (simp; done) | (simp; omega))
    refine goes_mid (X := Unit) (fun _x => (.ptr 0 0 :: .int .i64 id :: .here 0 :: .any :: .any :: .int .i64 (fdI id M : Int) :: .bool (hasM M id) :: .any :: .any :: .any :: .any :: .any :: .any :: .any :: .any :: .any :: .any :: .any :: .any :: .any :: .any :: .any :: .any :: .any :: .any :: .any :: .any :: .any :: .any :: .any :: .any :: .any :: .any :: .any :: .any :: .any :: .any :: .any :: .any :: .any :: .any :: .any :: .any :: .any :: .any :: .any :: .any :: .any :: .any :: .any :: .any :: .any :: .any :: .any :: .any :: .any :: .any :: .any :: .any :: [], [.cells [.osl M.isEmpty 1 1 M.length, .osl M.isEmpty 2 4 M.length, .bool z], .arr true (!M.isEmpty) 1 (cA M), .arr true (!M.isEmpty) 4 (cB M)])) (fun _x => True) () [0, 3, 4] trivial ?_ ?_ ?_
    · repeat' (first | (with_reducible refine And.intro ?_ ?_) | (with_reducible intro h) | ((fail_if_success (with_reducible refine Leaf.mk ?_)); (fail_if_success (with_reducible refine VC.mk ?_)); (fail_if_success (with_reducible refine Goes.mk ?_)); (fail_if_success (with_reducible refine Again.mk ?_)); (fail_if_success (with_reducible refine Rounds.mk ?_)); (fail_if_success (with_reducible show False)); (fail_if_success (with_reducible show True)); conv => whnf))
      all_goals first | exact trivial | (refine Leaf.mk ?_; first | rfl | exact ⟨rfl, rfl⟩ | exact ⟨rfl, rfl, rfl⟩ | (simp [len_cA, len_cB, zip_col]; done))
    · repeat' (first | (with_reducible refine And.intro ?_ ?_) | (with_reducible intro h) | ((fail_if_success (with_reducible refine Leaf.mk ?_)); (fail_if_success (with_reducible refine VC.mk ?_)); (fail_if_success (with_reducible refine Goes.mk ?_)); (fail_if_success (with_reducible refine Again.mk ?_)); (fail_if_success (with_reducible refine Rounds.mk ?_)); (fail_if_success (with_reducible show False)); (fail_if_success (with_reducible show True)); conv => whnf))
      all_goals first | exact trivial | (refine Leaf.mk ?_; first | rfl | exact ⟨rfl, rfl⟩ | exact ⟨rfl, rfl, rfl⟩ | (simp [len_cA, len_cB, zip_col]; done))
    · intro _x _hx
      dsimp only
      cases hh : hasM M id with
      | false =>
        have hh2 : (!hasM M id) = true := by rw [hh]; rfl
        have e1 := hh
        have e2 : delM id M = M := delM_no hh
        refine goes_cut (C := []) (pl := []) T2_ok (Cons.nil _) mixed (by kernel_rfl) ?_
        repeat' (first | (with_reducible refine And.intro ?_ ?_) | (with_reducible intro h) | ((fail_if_success (with_reducible refine Leaf.mk ?_)); (fail_if_success (with_reducible refine VC.mk ?_)); (fail_if_success (with_reducible refine Goes.mk ?_)); (fail_if_success (with_reducible refine Again.mk ?_)); (fail_if_success (with_reducible refine Rounds.mk ?_)); (fail_if_success (with_reducible show False)); (fail_if_success (with_reducible show True)); conv => whnf))
        all_goals try with_reducible first | exact trivial | exact (bc2 hh2 (by assumption)).elim | exact (bc2 (by assumption) hh2).elim | contradiction
        all_goals try simp only [Int.toNat_natCast, Nat.zero_add, tn_succ, Nat.reduceAdd, List.take_length, take_cA, take_cB, zip_col, cA_at, cB_at0, cB_at1, cB_at2, cB_at3, len_cA, len_cB, len_rw1, take_rw1] at *
        all_goals try simp only [e1, e2]
        all_goals try (refine VC.mk ?_; first | exact trivial | (with_reducible assumption) | omega | (simp only [InR]; omega) | exact ⟨M, rfl, rfl, rfl, hM, hlen⟩ | exact ⟨delM id M, rfl, rfl, rfl, delM_asc hM id, hl2⟩ | exact del_ok hne | (intro hh; rw [hh]; rfl) | exact Nat.le_refl _ | exact Or.inr trivial | exact Or.inr rfl | exact Or.inl rfl | rfl | (simp only [zip_col, len_cA, len_cB, List.length_take, List.length_append, List.length_drop, List.drop_zero, List.length_cons, List.length_nil]; omega) | (simp; done) | (simp; omega))
        all_goals try (refine Leaf.mk ?_; first | exact trivial | (with_reducible rfl) | rfl | exact hrA.trans hA.symm | exact hrB.trans hB.symm | (with_reducible exact hne.symm) | (with_reducible exact hh.symm) | (simp [zip_col, mIns, mInsM, mUpd, mUpdM, *]; done))
      | true =>
        have hh2 : (!hasM M id) = false := by rw [hh]; rfl
        have e1 := hh
        have e2 := hh
        refine goes_cut (C := []) (pl := []) T2_ok (Cons.nil _) mixed (by kernel_rfl) ?_
        repeat' (first | (with_reducible refine And.intro ?_ ?_) | (with_reducible intro h) | ((fail_if_success (with_reducible refine Leaf.mk ?_)); (fail_if_success (with_reducible refine VC.mk ?_)); (fail_if_success (with_reducible refine Goes.mk ?_)); (fail_if_success (with_reducible refine Again.mk ?_)); (fail_if_success (with_reducible refine Rounds.mk ?_)); (fail_if_success (with_reducible show False)); (fail_if_success (with_reducible show True)); conv => whnf))
        all_goals try with_reducible first | exact trivial | exact (bc2 hh2 (by assumption)).elim | exact (bc2 (by assumption) hh2).elim | contradiction
        obtain ⟨hfl, _⟩ := has_yes hM hh
        have hA := cA_del M (fdI id M)
        have hB := cB_del M (fdI id M)
        rw [← delM_at hM hh] at hA hB
        have hne := delM_e hM hh
        have hll := delM_l hM hh
        have hrA := rows_del (X := cA M) (n := M.length) hfl (len_cA M).symm
        have hrB := rows_del (X := cB M) (n := M.length) hfl (len_cB M).symm
        cases hc : M with
        | nil => rw [hc] at hh; cases hh
        | cons x M2 =>
          subst hc
          have hfl2 : fdI id (x :: M2) < M2.length + 1 := hfl
          have hlt2 : M2.length + 1 ≤ 4096 := hlen
          refine goes_all (C := []) (pl := []) T2_ok (Cons.nil _) mixed (by kernel_rfl) ?_
          repeat' (first | (with_reducible refine And.intro ?_ ?_) | (with_reducible intro h) | ((fail_if_success (with_reducible refine Leaf.mk ?_)); (fail_if_success (with_reducible refine VC.mk ?_)); (fail_if_success (with_reducible refine Goes.mk ?_)); (fail_if_success (with_reducible refine Again.mk ?_)); (fail_if_success (with_reducible refine Rounds.mk ?_)); (fail_if_success (with_reducible show False)); (fail_if_success (with_reducible show True)); conv => whnf))
          all_goals try simp only [Int.toNat_natCast, Nat.zero_add, tn_succ, Nat.reduceAdd, List.take_length, take_cA, take_cB, zip_col, cA_at, cB_at0, cB_at1, cB_at2, cB_at3, len_cA, len_cB, len_rw1, take_rw1] at *
          all_goals try simp only [e1, e2]
          all_goals try (refine VC.mk ?_; first | exact trivial | (with_reducible assumption) | omega | (simp only [InR]; omega) | exact ⟨M, rfl, rfl, rfl, hM, hlen⟩ | exact ⟨delM id M, rfl, rfl, rfl, delM_asc hM id, hl2⟩ | exact del_ok hne | (intro hh; rw [hh]; rfl) | exact Nat.le_refl _ | exact Or.inr trivial | exact Or.inr rfl | exact Or.inl rfl | rfl | (simp only [zip_col, len_cA, len_cB, List.length_take, List.length_append, List.length_drop, List.drop_zero, List.length_cons, List.length_nil]; omega) | (simp; done) | (simp; omega))
          all_goals try (refine Leaf.mk ?_; first | exact trivial | (with_reducible rfl) | rfl | exact hrA.trans hA.symm | exact hrB.trans hB.symm | (with_reducible exact hne.symm) | (with_reducible exact hh.symm) | (simp [zip_col, mIns, mInsM, mUpd, mUpdM, *]; done))
def c_rt_Update : Con := ⟨48, mdRun [0, 4] (fun l z b A B => match l with | [id, a, bb, c, d] => [MdIs b A B] | _ => [False]) fun l z b A B => match l with
  | [id, a, bb, c, d] => ⟨[.val (.int .i64 (mUpd z (zipM A B) id a bb c d))], (mUpdM z (zipM A B) id a bb c d).isEmpty, cA (mUpdM z (zipM A B) id a bb c d), cB (mUpdM z (zipM A B) id a bb c d)⟩
  | _ => ⟨[], b, A, B⟩⟩
set_option maxRecDepth 100000 in
set_option maxHeartbeats 8000000 in
theorem con_rt_Update : c_rt_Update.Ok Try.prog := by
  refine con_md Try.func48 rfl (by kernel_rfl) T_ok 3 _ _ _ (fun l z b A B hl hb hpre => ?_)
  match l, hl with
  | [id, a, bb, c, d], zl =>
    clear zl
    have hp0 := hpre _ (List.Mem.head _); try dsimp only at hp0
    clear hpre hl hb
    obtain ⟨M, rfl, rfl, rfl, hM, hlen⟩ := hp0
    conv => whnf
    have hl2 : (delM id M).length ≤ 4096 := Nat.le_trans (delM_len id M) hlen
    cases z with
    | true =>
      have e1 : mUpd true M id a bb c d = 1 := by simp [mUpd, *]
      have e2 : mUpdM true M id a bb c d = M := if_neg (by simp [*])
      refine goes_cut (C := []) (pl := []) T2_ok (Cons.nil _) mixed (by kernel_rfl) ?_
      repeat' (first | (with_reducible refine And.intro ?_ ?_) | (with_reducible intro h) | ((fail_if_success (with_reducible refine Leaf.mk ?_)); (fail_if_success (with_reducible refine VC.mk ?_)); (fail_if_success (with_reducible refine Goes.mk ?_)); (fail_if_success (with_reducible refine Again.mk ?_)); (fail_if_success (with_reducible refine Rounds.mk ?_)); (fail_if_success (with_reducible show False)); (fail_if_success (with_reducible show True)); conv => whnf))
      refine goes_cut (C := []) (pl := []) T2_ok (Cons.nil _) mixed (by kernel_rfl) ?_
      repeat' (first | (with_reducible refine And.intro ?_ ?_) | (with_reducible intro h) | ((fail_if_success (with_reducible refine Leaf.mk ?_)); (fail_if_success (with_reducible refine VC.mk ?_)); (fail_if_success (with_reducible refine Goes.mk ?_)); (fail_if_success (with_reducible refine Again.mk ?_)); (fail_if_success (with_reducible refine Rounds.mk ?_)); (fail_if_success (with_reducible show False)); (fail_if_success (with_reducible show True)); conv => whnf))
      all_goals try with_reducible first | exact trivial | contradiction
      all_goals try simp only [Int.toNat_natCast, Nat.zero_add, tn_succ, Nat.reduceAdd, List.take_length, take_cA, take_cB, zip_col, cA_at, cB_at0, cB_at1, cB_at2, cB_at3, len_cA, len_cB, len_rw1, take_rw1] at *
      all_goals try simp only [e1, e2]
      all_goals try (refine VC.mk ?_; first | exact trivial | (with_reducible assumption) | omega | (simp only [InR]; omega) | exact ⟨M, rfl, rfl, rfl, hM, hlen⟩ | exact ⟨delM id M, rfl, rfl, rfl, delM_asc hM id, hl2⟩ | exact del_ok hne | (intro hh; rw [hh]; rfl) | exact Nat.le_refl _ | exact Or.inr trivial | exact Or.inr rfl | exact Or.inl rfl | rfl | (simp only [zip_col, len_cA, len_cB, List.length_take, List.length_append, List.length_drop, List.drop_zero, List.length_cons, List.length_nil]; omega) | (simp; done) | (simp; omega))
      all_goals try (refine Leaf.mk ?_; first | exact trivial | (with_reducible rfl) | rfl | exact hrA.trans hA.symm | exact hrB.trans hB.symm | (with_reducible exact hne.symm) | (with_reducible exact hh.symm) | (simp [zip_col, mIns, mInsM, mUpd, mUpdM, *]; done))
    | false =>
      refine goes_cut (C := []) (pl := []) T2_ok (Cons.nil _) mixed (by kernel_rfl) ?_
      repeat' (first | (with_reducible refine And.intro ?_ ?_) | (with_reducible intro h) | ((fail_if_success (with_reducible refine Leaf.mk ?_)); (fail_if_success (with_reducible refine VC.mk ?_)); (fail_if_success (with_reducible refine Goes.mk ?_)); (fail_if_success (with_reducible refine Again.mk ?_)); (fail_if_success (with_reducible refine Rounds.mk ?_)); (fail_if_success (with_reducible show False)); (fail_if_success (with_reducible show True)); conv => whnf))
      refine goes_cut (C := []) (pl := []) T2_ok (Cons.nil _) mixed (by kernel_rfl) ?_
      repeat' (first | (with_reducible refine And.intro ?_ ?_) | (with_reducible intro h) | ((fail_if_success (with_reducible refine Leaf.mk ?_)); (fail_if_success (with_reducible refine VC.mk ?_)); (fail_if_success (with_reducible refine Goes.mk ?_)); (fail_if_success (with_reducible refine Again.mk ?_)); (fail_if_success (with_reducible refine Rounds.mk ?_)); (fail_if_success (with_reducible show False)); (fail_if_success (with_reducible show True)); conv => whnf))
      all_goals try with_reducible first | exact trivial | contradiction
      cases hv : validB a bb c d with
      | false =>
        have hv3 : (!validB a bb c d) = true := by rw [hv]; rfl
        have e1 : mUpd false M id a bb c d = 2 := by simp [mUpd, *]
        have e2 : mUpdM false M id a bb c d = M := if_neg (by simp [*])
        refine goes_cut (C := [c_ref05_Valid]) (pl := []) T2_ok (Cons.cons con_ref05_Valid (Cons.nil _)) mixed (by kernel_rfl) ?_
        repeat' (first | (with_reducible refine And.intro ?_ ?_) | (with_reducible intro h) | ((fail_if_success (with_reducible refine Leaf.mk ?_)); (fail_if_success (with_reducible refine VC.mk ?_)); (fail_if_success (with_reducible refine Goes.mk ?_)); (fail_if_success (with_reducible refine Again.mk ?_)); (fail_if_success (with_reducible refine Rounds.mk ?_)); (fail_if_success (with_reducible show False)); (fail_if_success (with_reducible show True)); conv => whnf))
        all_goals try with_reducible first | exact trivial | exact (bc2 hv3 (by assumption)).elim | exact (bc2 (by assumption) hv3).elim | contradiction
        all_goals try simp only [Int.toNat_natCast, Nat.zero_add, tn_succ, Nat.reduceAdd, List.take_length, take_cA, take_cB, zip_col, cA_at, cB_at0, cB_at1, cB_at2, cB_at3, len_cA, len_cB, len_rw1, take_rw1] at *
        all_goals try simp only [e1, e2]
        all_goals try (refine VC.mk ?_; first | exact trivial | (with_reducible assumption) | omega | (simp only [InR]; omega) | exact ⟨M, rfl, rfl, rfl, hM, hlen⟩ | exact ⟨delM id M, rfl, rfl, rfl, delM_asc hM id, hl2⟩ | exact del_ok hne | (intro hh; rw [hh]; rfl) | exact Nat.le_refl _ | exact Or.inr trivial | exact Or.inr rfl | exact Or.inl rfl | rfl | (simp only [zip_col, len_cA, len_cB, List.length_take, List.length_append, List.length_drop, List.drop_zero, List.length_cons, List.length_nil]; omega) | (simp; done) | (simp; omega))
        all_goals try (refine Leaf.mk ?_; first | exact trivial | (with_reducible rfl) | rfl | exact hrA.trans hA.symm | exact hrB.trans hB.symm | (with_reducible exact hne.symm) | (with_reducible exact hh.symm) | (simp [zip_col, mIns, mInsM, mUpd, mUpdM, *]; done))
      | true =>
        have hv3 : (!validB a bb c d) = false := by rw [hv]; rfl
        refine goes_cut (C := [c_ref05_Valid]) (pl := []) T2_ok (Cons.cons con_ref05_Valid (Cons.nil _)) mixed (by kernel_rfl) ?_
        repeat' (first | (with_reducible refine And.intro ?_ ?_) | (with_reducible intro h) | ((fail_if_success (with_reducible refine Leaf.mk ?_)); (fail_if_success (with_reducible refine VC.mk ?_)); (fail_if_success (with_reducible refine Goes.mk ?_)); (fail_if_success (with_reducible refine Again.mk ?_)); (fail_if_success (with_reducible refine Rounds.mk ?_)); (fail_if_success (with_reducible show False)); (fail_if_success (with_reducible show True)); conv => whnf))
        all_goals try with_reducible first | exact trivial | exact (bc2 hv3 (by assumption)).elim | exact (bc2 (by assumption) hv3).elim | contradiction
        cases hh : hasM M id with
        | false =>
          have hh2 : (!hasM M id) = true := by rw [hh]; rfl
          have e1 : mUpd false M id a bb c d = 8 := by simp [mUpd, *]
          have e2 : mUpdM false M id a bb c d = M := if_neg (by simp [*])
          have e3 : delM id M = M := delM_no hh
          refine goes_cut (C := [c_rt_Remove]) (pl := []) T2_ok (Cons.cons con_rt_Remove (Cons.nil _)) mixed (by kernel_rfl) ?_
          repeat' (first | (with_reducible refine And.intro ?_ ?_) | (with_reducible intro h) | ((fail_if_success (with_reducible refine Leaf.mk ?_)); (fail_if_success (with_reducible refine VC.mk ?_)); (fail_if_success (with_reducible refine Goes.mk ?_)); (fail_if_success (with_reducible refine Again.mk ?_)); (fail_if_success (with_reducible refine Rounds.mk ?_)); (fail_if_success (with_reducible show False)); (fail_if_success (with_reducible show True)); conv => whnf))
          all_goals try simp only [Int.toNat_natCast, Nat.zero_add, tn_succ, Nat.reduceAdd, List.take_length, take_cA, take_cB, zip_col, cA_at, cB_at0, cB_at1, cB_at2, cB_at3, len_cA, len_cB, len_rw1, take_rw1] at *
          all_goals try with_reducible first | exact trivial | exact (bc2 hh2 (by assumption)).elim | exact (bc2 (by assumption) hh2).elim | contradiction
          all_goals try simp only [e1, e2, e3]
          all_goals try (refine VC.mk ?_; first | exact trivial | (with_reducible assumption) | omega | (simp only [InR]; omega) | exact ⟨M, rfl, rfl, rfl, hM, hlen⟩ | exact ⟨delM id M, rfl, rfl, rfl, delM_asc hM id, hl2⟩ | exact del_ok hne | (intro hh; rw [hh]; rfl) | exact Nat.le_refl _ | exact Or.inr trivial | exact Or.inr rfl | exact Or.inl rfl | rfl | (simp only [zip_col, len_cA, len_cB, List.length_take, List.length_append, List.length_drop, List.drop_zero, List.length_cons, List.length_nil]; omega) | (simp; done) | (simp; omega))
          all_goals try (refine Leaf.mk ?_; first | exact trivial | (with_reducible rfl) | rfl | exact hrA.trans hA.symm | exact hrB.trans hB.symm | (with_reducible exact hne.symm) | (with_reducible exact hh.symm) | (simp [zip_col, mIns, mInsM, mUpd, mUpdM, *]; done))
        | true =>
          have hh2 : (!hasM M id) = false := by rw [hh]; rfl
          refine goes_cut (C := [c_rt_Remove]) (pl := []) T2_ok (Cons.cons con_rt_Remove (Cons.nil _)) mixed (by kernel_rfl) ?_
          repeat' (first | (with_reducible refine And.intro ?_ ?_) | (with_reducible intro h) | ((fail_if_success (with_reducible refine Leaf.mk ?_)); (fail_if_success (with_reducible refine VC.mk ?_)); (fail_if_success (with_reducible refine Goes.mk ?_)); (fail_if_success (with_reducible refine Again.mk ?_)); (fail_if_success (with_reducible refine Rounds.mk ?_)); (fail_if_success (with_reducible show False)); (fail_if_success (with_reducible show True)); conv => whnf))
          all_goals try simp only [Int.toNat_natCast, Nat.zero_add, tn_succ, Nat.reduceAdd, List.take_length, take_cA, take_cB, zip_col, cA_at, cB_at0, cB_at1, cB_at2, cB_at3, len_cA, len_cB, len_rw1, take_rw1] at *
          all_goals try with_reducible first | exact trivial | exact (bc2 hh2 (by assumption)).elim | exact (bc2 (by assumption) hh2).elim | contradiction
          all_goals try (refine VC.mk ?_; first | exact trivial | (with_reducible assumption) | omega | (simp only [InR]; omega) | exact ⟨M, rfl, rfl, rfl, hM, hlen⟩ | exact ⟨delM id M, rfl, rfl, rfl, delM_asc hM id, hl2⟩ | exact del_ok hne | (intro hh; rw [hh]; rfl) | exact Nat.le_refl _ | exact Or.inr trivial | exact Or.inr rfl | exact Or.inl rfl | rfl | (simp only [zip_col, len_cA, len_cB, List.length_take, List.length_append, List.length_drop, List.drop_zero, List.length_cons, List.length_nil]; omega) | (simp; done) | (simp; omega))
          refine goes_mid (X := Unit) (fun _x => (.ptr 0 0 :: .int .i64 id :: .any :: .here 0 :: .any :: .ptr 3 0 :: .any :: .any :: .any :: .any :: .any :: .any :: .any :: .any :: .any :: .any :: .any :: .any :: .any :: .any :: .any :: .any :: [], [.cells [.osl (delM id M).isEmpty 1 1 (delM id M).length, .osl (delM id M).isEmpty 2 4 (delM id M).length, .bool false], .arr true (!(delM id M).isEmpty) 1 (cA (delM id M)), .arr true (!(delM id M).isEmpty) 4 (cB (delM id M)), .cells [.int .i64 a, .int .i64 bb, .int .i64 c, .int .i64 d]])) (fun _x => True) () [0, 4, 5, 3] trivial ?_ ?_ ?_
          · repeat' (first | (with_reducible refine And.intro ?_ ?_) | (with_reducible intro h) | ((fail_if_success (with_reducible refine Leaf.mk ?_)); (fail_if_success (with_reducible refine VC.mk ?_)); (fail_if_success (with_reducible refine Goes.mk ?_)); (fail_if_success (with_reducible refine Again.mk ?_)); (fail_if_success (with_reducible refine Rounds.mk ?_)); (fail_if_success (with_reducible show False)); (fail_if_success (with_reducible show True)); conv => whnf))
            all_goals first | exact trivial | (refine Leaf.mk ?_; first | rfl | exact ⟨rfl, rfl⟩ | exact ⟨rfl, rfl, rfl⟩ | (simp [len_cA, len_cB, zip_col]; done))
          · repeat' (first | (with_reducible refine And.intro ?_ ?_) | (with_reducible intro h) | ((fail_if_success (with_reducible refine Leaf.mk ?_)); (fail_if_success (with_reducible refine VC.mk ?_)); (fail_if_success (with_reducible refine Goes.mk ?_)); (fail_if_success (with_reducible refine Again.mk ?_)); (fail_if_success (with_reducible refine Rounds.mk ?_)); (fail_if_success (with_reducible show False)); (fail_if_success (with_reducible show True)); conv => whnf))
            all_goals first | exact trivial | (refine Leaf.mk ?_; first | rfl | exact ⟨rfl, rfl⟩ | exact ⟨rfl, rfl, rfl⟩ | (simp [len_cA, len_cB, zip_col]; done))
          · intro _x _hx
            dsimp only
            have e1 : mUpd false M id a bb c d = 0 := by simp [mUpd, *]
            have e2 : mUpdM false M id a bb c d = insM ⟨id, a, bb, c, d⟩ (delM id M) := if_pos ⟨rfl, hv, hh⟩
            have hlt := delM_lt hh
            have hlt2 : (delM id M).length < 4096 := by omega
            have hh3 := hasM_del (id := id) M
            have e3 : mIns false (delM id M) id a bb c d = 0 := by simp [mIns, hv, hh3]; omega
            have e4 : mInsM false (delM id M) id a bb c d = insM ⟨id, a, bb, c, d⟩ (delM id M) := if_pos ⟨rfl, hv, hh3, hlt2⟩
            have hne := insM_ne ⟨id, a, bb, c, d⟩ (delM id M)
            refine goes_all (C := [c_rt_Insert]) (pl := []) T2_ok (Cons.cons con_rt_Insert (Cons.nil _)) mixed (by kernel_rfl) ?_
            repeat' (first | (with_reducible refine And.intro ?_ ?_) | (with_reducible intro h) | ((fail_if_success (with_reducible refine Leaf.mk ?_)); (fail_if_success (with_reducible refine VC.mk ?_)); (fail_if_success (with_reducible refine Goes.mk ?_)); (fail_if_success (with_reducible refine Again.mk ?_)); (fail_if_success (with_reducible refine Rounds.mk ?_)); (fail_if_success (with_reducible show False)); (fail_if_success (with_reducible show True)); conv => whnf))
            all_goals try simp only [Int.toNat_natCast, Nat.zero_add, tn_succ, Nat.reduceAdd, List.take_length, take_cA, take_cB, zip_col, cA_at, cB_at0, cB_at1, cB_at2, cB_at3, len_cA, len_cB, len_rw1, take_rw1] at *
            all_goals try simp only [e1, e2, e3, e4, List.take_length, zip_col, take_cA, take_cB]
            all_goals try (refine VC.mk ?_; first | exact trivial | (with_reducible assumption) | omega | (simp only [InR]; omega) | exact ⟨M, rfl, rfl, rfl, hM, hlen⟩ | exact ⟨delM id M, rfl, rfl, rfl, delM_asc hM id, hl2⟩ | exact del_ok hne | (intro hh; rw [hh]; rfl) | exact Nat.le_refl _ | exact Or.inr trivial | exact Or.inr rfl | exact Or.inl rfl | rfl | (simp only [zip_col, len_cA, len_cB, List.length_take, List.length_append, List.length_drop, List.drop_zero, List.length_cons, List.length_nil]; omega) | (simp; done) | (simp; omega))
            all_goals try (refine Leaf.mk ?_; first | exact trivial | (with_reducible rfl) | rfl | exact hrA.trans hA.symm | exact hrB.trans hB.symm | (with_reducible exact hne.symm) | (with_reducible exact hh.symm) | (simp [zip_col, mIns, mInsM, mUpd, mUpdM, *]; done))

end Go.Proofs.Ytconaehajaifhaa
