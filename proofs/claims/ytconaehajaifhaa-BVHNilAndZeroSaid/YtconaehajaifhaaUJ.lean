/- Contracts of the laws of chapter 20: the reference's tree, changed. -/
import Derived.Test.YtconaehajaifhaaUI
namespace Go.Proofs.Ytconaehajaifhaa
open Go.RowKit Fx Vx Bx Ev
set_option linter.unusedVariables false
set_option linter.unusedSimpArgs false
theorem rows_ins {X : List (List Int)} {k n : Nat} (r : List Int) (hk : k ≤ n) (hn : n = X.length) : List.take (k + 1 + (n - k)) (List.take (k + 1) (List.take k (List.take k X) ++ List.take 1 (List.drop 0 [r])) ++ List.take (n - k) (List.drop k X)) = X.take k ++ (r :: X.drop k) := by
  subst hn
  rw [List.take_take, Nat.min_self, List.drop_zero, List.take_of_length_le (l := [r]) (by simp), List.take_of_length_le (l := X.drop k) (by simp), List.take_of_length_le (l := X.take k ++ [r]) (by simp; omega), List.take_of_length_le (by simp; omega)]
  simp
theorem rows_ins0 (r : List Int) : List.take 1 (List.take 0 (List.take 0 ([] : List (List Int))) ++ List.take 1 (List.drop 0 [r])) = [r] := rfl
theorem rows_del {X : List (List Int)} {k n : Nat} (hk : k < n) (hn : n = X.length) : List.take (k + (n - (k + 1))) (List.take k (List.take k X) ++ List.take (n - (k + 1)) (List.drop (k + 1) X)) = X.take k ++ X.drop (k + 1) := by
  subst hn
  rw [List.take_take, Nat.min_self, List.take_of_length_le (l := X.drop (k + 1)) (by simp), List.take_of_length_le (by simp; omega)]
theorem insM_ne (e : En) (M : List En) : (insM e M).isEmpty = false := by
  cases M with
  | nil => rfl
  | cons x M => simp only [insM]; split <;> rfl
theorem delM_e {id : Int} {M : List En} (hM : Asc M) (h : hasM M id = true) : (delM id M).isEmpty = (decide (fdI id M = 0) && decide (M.length - (fdI id M + 1) = 0)) := by
  obtain ⟨h1, _⟩ := has_yes hM h
  rw [delM_at hM h, Bool.eq_iff_iff]
  simp only [List.isEmpty_iff, List.append_eq_nil_iff, List.take_eq_nil_iff, List.drop_eq_nil_iff, Bool.and_eq_true, decide_eq_true_eq]
  constructor
  · rintro ⟨h2 | h2, h3⟩
    · exact ⟨h2, by omega⟩
    · subst h2; simp at h1
  · rintro ⟨h2, h3⟩
    exact ⟨Or.inl h2, by omega⟩
theorem delM_l {id : Int} {M : List En} (hM : Asc M) (h : hasM M id = true) : (delM id M).length = fdI id M + (M.length - (fdI id M + 1)) := by
  obtain ⟨h1, _⟩ := has_yes hM h
  rw [delM_at hM h, List.length_append, List.length_take, List.length_drop]
  omega
def c_rt_Insert : Con := ⟨46, mdRun [0, 4] (fun l z b A B => match l with | [id, a, bb, c, d] => [MdIs b A B] | _ => [False]) fun l z b A B => match l with
  | [id, a, bb, c, d] => ⟨[.val (.int .i64 (mIns z (zipM A B) id a bb c d))], (mInsM z (zipM A B) id a bb c d).isEmpty, cA (mInsM z (zipM A B) id a bb c d), cB (mInsM z (zipM A B) id a bb c d)⟩
  | _ => ⟨[], b, A, B⟩⟩
set_option maxRecDepth 100000 in
set_option maxHeartbeats 8000000 in
theorem con_rt_Insert : c_rt_Insert.Ok Try.prog := by
  refine con_md Try.func46 rfl (by kernel_rfl) T_ok 3 _ _ _ (fun l z b A B hl hb hpre => ?_)
  match l, hl with
  | [id, a, bb, c, d], zl =>
    clear zl
    have hp0 := hpre _ (List.Mem.head _); try dsimp only at hp0
    clear hpre hl hb
    obtain ⟨M, rfl, rfl, rfl, hM, hlen⟩ := hp0
    conv => whnf
    cases z with
    | true =>
      have e1 : mIns true M id a bb c d = 1 := by simp [mIns, *]
      have e2 : mInsM true M id a bb c d = M := if_neg (by simp [*])
      refine goes_cut (C := []) (pl := []) T2_ok (Cons.nil _) mixed (by kernel_rfl) ?_
      repeat' (first | (with_reducible refine And.intro ?_ ?_) | (with_reducible intro h) | ((fail_if_success (with_reducible refine Leaf.mk ?_)); (fail_if_success (with_reducible refine VC.mk ?_)); (fail_if_success (with_reducible refine Goes.mk ?_)); (fail_if_success (with_reducible refine Again.mk ?_)); (fail_if_success (with_reducible refine Rounds.mk ?_)); (fail_if_success (with_reducible show False)); (fail_if_success (with_reducible show True)); conv => whnf))
      refine goes_cut (C := []) (pl := []) T2_ok (Cons.nil _) mixed (by kernel_rfl) ?_
      repeat' (first | (with_reducible refine And.intro ?_ ?_) | (with_reducible intro h) | ((fail_if_success (with_reducible refine Leaf.mk ?_)); (fail_if_success (with_reducible refine VC.mk ?_)); (fail_if_success (with_reducible refine Goes.mk ?_)); (fail_if_success (with_reducible refine Again.mk ?_)); (fail_if_success (with_reducible refine Rounds.mk ?_)); (fail_if_success (with_reducible show False)); (fail_if_success (with_reducible show True)); conv => whnf))
      all_goals try with_reducible first | exact trivial | contradiction
      all_goals try simp only [Int.toNat_natCast, Nat.zero_add, Nat.reduceAdd, List.take_length, take_cA, take_cB, zip_col, cA_at, cB_at0, cB_at1, cB_at2, cB_at3, len_cA, len_cB, len_rw1, take_rw1] at *
      all_goals try simp only [e1, e2]
      all_goals try (refine VC.mk ?_; first | exact trivial | (with_reducible assumption) | omega | (simp only [InR]; omega) | exact ⟨M, rfl, rfl, rfl, hM, hlen⟩ | (intro hh; rw [hh]; rfl) | exact Nat.le_refl _ | exact Or.inr trivial | exact Or.inr rfl | exact Or.inl rfl | rfl | (simp only [zip_col, len_cA, len_cB, List.length_take, List.length_append, List.length_drop, List.drop_zero, List.length_cons, List.length_nil]; omega) | (simp; done) | (simp; omega))
      all_goals try (refine Leaf.mk ?_; first | exact trivial | (with_reducible rfl) | rfl | (simp [zip_col, mIns, mInsM, mUpd, mUpdM, *]; done))
    | false =>
      refine goes_cut (C := []) (pl := []) T2_ok (Cons.nil _) mixed (by kernel_rfl) ?_
      repeat' (first | (with_reducible refine And.intro ?_ ?_) | (with_reducible intro h) | ((fail_if_success (with_reducible refine Leaf.mk ?_)); (fail_if_success (with_reducible refine VC.mk ?_)); (fail_if_success (with_reducible refine Goes.mk ?_)); (fail_if_success (with_reducible refine Again.mk ?_)); (fail_if_success (with_reducible refine Rounds.mk ?_)); (fail_if_success (with_reducible show False)); (fail_if_success (with_reducible show True)); conv => whnf))
      refine goes_cut (C := []) (pl := []) T2_ok (Cons.nil _) mixed (by kernel_rfl) ?_
      repeat' (first | (with_reducible refine And.intro ?_ ?_) | (with_reducible intro h) | ((fail_if_success (with_reducible refine Leaf.mk ?_)); (fail_if_success (with_reducible refine VC.mk ?_)); (fail_if_success (with_reducible refine Goes.mk ?_)); (fail_if_success (with_reducible refine Again.mk ?_)); (fail_if_success (with_reducible refine Rounds.mk ?_)); (fail_if_success (with_reducible show False)); (fail_if_success (with_reducible show True)); conv => whnf))
      all_goals try with_reducible first | exact trivial | contradiction
      refine goes_cut (C := [c_rt_find]) (pl := []) T2_ok (Cons.cons con_rt_find (Cons.nil _)) mixed (by kernel_rfl) ?_
      repeat' (first | (with_reducible refine And.intro ?_ ?_) | (with_reducible intro h) | ((fail_if_success (with_reducible refine Leaf.mk ?_)); (fail_if_success (with_reducible refine VC.mk ?_)); (fail_if_success (with_reducible refine Goes.mk ?_)); (fail_if_success (with_reducible refine Again.mk ?_)); (fail_if_success (with_reducible refine Rounds.mk ?_)); (fail_if_success (with_reducible show False)); (fail_if_success (with_reducible show True)); conv => whnf))
      all_goals try simp only [Int.toNat_natCast, Nat.zero_add, Nat.reduceAdd, List.take_length, take_cA, take_cB, zip_col, cA_at, cB_at0, cB_at1, cB_at2, cB_at3, len_cA, len_cB, len_rw1, take_rw1] at *
      all_goals try (refine VC.mk ?_; first | exact trivial | (with_reducible assumption) | omega | (simp only [InR]; omega) | exact ⟨M, rfl, rfl, rfl, hM, hlen⟩ | (intro hh; rw [hh]; rfl) | exact Nat.le_refl _ | exact Or.inr trivial | exact Or.inr rfl | exact Or.inl rfl | rfl | (simp only [zip_col, len_cA, len_cB, List.length_take, List.length_append, List.length_drop, List.drop_zero, List.length_cons, List.length_nil]; omega) | (simp; done) | (simp; omega))
      refine goes_mid (X := Unit) (fun _x => (.ptr 0 0 :: .int .i64 id :: .any :: .here 0 :: .any :: .ptr 3 0 :: .any :: .int .i64 (fdI id M : Int) :: .bool (hasM M id) :: .any :: .any :: .any :: .any :: .any :: .any :: .any :: .any :: .any :: .any :: .any :: .any :: .any :: .any :: .any :: .any :: .any :: .any :: .any :: .any :: .any :: .any :: .any :: .any :: .any :: .any :: .any :: .any :: .any :: .any :: .any :: .any :: .any :: .any :: .any :: .any :: .any :: .any :: .any :: .any :: .any :: .any :: .any :: .any :: .any :: .any :: .any :: .any :: .any :: .any :: .any :: .any :: .any :: .any :: .any :: .any :: .any :: .any :: .any :: .any :: .any :: .any :: .any :: .any :: .any :: .any :: .any :: .any :: .any :: .any :: [], [.cells [.osl M.isEmpty 1 1 M.length, .osl M.isEmpty 2 4 M.length, .bool false], .arr true (!M.isEmpty) 1 (cA M), .arr true (!M.isEmpty) 4 (cB M), .cells [.int .i64 a, .int .i64 bb, .int .i64 c, .int .i64 d]])) (fun _x => True) () [0, 4, 5, 3] trivial ?_ ?_ ?_
      · repeat' (first | (with_reducible refine And.intro ?_ ?_) | (with_reducible intro h) | ((fail_if_success (with_reducible refine Leaf.mk ?_)); (fail_if_success (with_reducible refine VC.mk ?_)); (fail_if_success (with_reducible refine Goes.mk ?_)); (fail_if_success (with_reducible refine Again.mk ?_)); (fail_if_success (with_reducible refine Rounds.mk ?_)); (fail_if_success (with_reducible show False)); (fail_if_success (with_reducible show True)); conv => whnf))
        all_goals first | exact trivial | (refine Leaf.mk ?_; first | rfl | exact ⟨rfl, rfl⟩ | exact ⟨rfl, rfl, rfl⟩ | (simp [len_cA, len_cB, zip_col]; done))
      · repeat' (first | (with_reducible refine And.intro ?_ ?_) | (with_reducible intro h) | ((fail_if_success (with_reducible refine Leaf.mk ?_)); (fail_if_success (with_reducible refine VC.mk ?_)); (fail_if_success (with_reducible refine Goes.mk ?_)); (fail_if_success (with_reducible refine Again.mk ?_)); (fail_if_success (with_reducible refine Rounds.mk ?_)); (fail_if_success (with_reducible show False)); (fail_if_success (with_reducible show True)); conv => whnf))
        all_goals first | exact trivial | (refine Leaf.mk ?_; first | rfl | exact ⟨rfl, rfl⟩ | exact ⟨rfl, rfl, rfl⟩ | (simp [len_cA, len_cB, zip_col]; done))
      · intro _x _hx
        dsimp only
        cases hv : validB a bb c d with
        | false =>
          have hv3 : (!validB a bb c d) = true := by rw [hv]; rfl
          have e1 : mIns false M id a bb c d = 2 := by simp [mIns, *]
          have e2 : mInsM false M id a bb c d = M := if_neg (by simp [*])
          refine goes_cut (C := [c_ref05_Valid]) (pl := []) T2_ok (Cons.cons con_ref05_Valid (Cons.nil _)) mixed (by kernel_rfl) ?_
          repeat' (first | (with_reducible refine And.intro ?_ ?_) | (with_reducible intro h) | ((fail_if_success (with_reducible refine Leaf.mk ?_)); (fail_if_success (with_reducible refine VC.mk ?_)); (fail_if_success (with_reducible refine Goes.mk ?_)); (fail_if_success (with_reducible refine Again.mk ?_)); (fail_if_success (with_reducible refine Rounds.mk ?_)); (fail_if_success (with_reducible show False)); (fail_if_success (with_reducible show True)); conv => whnf))
          all_goals try with_reducible first | exact trivial | exact (bc2 hv3 (by assumption)).elim | exact (bc2 (by assumption) hv3).elim | contradiction
          all_goals try simp only [Int.toNat_natCast, Nat.zero_add, Nat.reduceAdd, List.take_length, take_cA, take_cB, zip_col, cA_at, cB_at0, cB_at1, cB_at2, cB_at3, len_cA, len_cB, len_rw1, take_rw1] at *
          all_goals try simp only [e1, e2]
          all_goals try (refine VC.mk ?_; first | exact trivial | (with_reducible assumption) | omega | (simp only [InR]; omega) | exact ⟨M, rfl, rfl, rfl, hM, hlen⟩ | (intro hh; rw [hh]; rfl) | exact Nat.le_refl _ | exact Or.inr trivial | exact Or.inr rfl | exact Or.inl rfl | rfl | (simp only [zip_col, len_cA, len_cB, List.length_take, List.length_append, List.length_drop, List.drop_zero, List.length_cons, List.length_nil]; omega) | (simp; done) | (simp; omega))
          all_goals try (refine Leaf.mk ?_; first | exact trivial | (with_reducible rfl) | rfl | (simp [zip_col, mIns, mInsM, mUpd, mUpdM, *]; done))
        | true =>
          have hv3 : (!validB a bb c d) = false := by rw [hv]; rfl
          refine goes_cut (C := [c_ref05_Valid]) (pl := []) T2_ok (Cons.cons con_ref05_Valid (Cons.nil _)) mixed (by kernel_rfl) ?_
          repeat' (first | (with_reducible refine And.intro ?_ ?_) | (with_reducible intro h) | ((fail_if_success (with_reducible refine Leaf.mk ?_)); (fail_if_success (with_reducible refine VC.mk ?_)); (fail_if_success (with_reducible refine Goes.mk ?_)); (fail_if_success (with_reducible refine Again.mk ?_)); (fail_if_success (with_reducible refine Rounds.mk ?_)); (fail_if_success (with_reducible show False)); (fail_if_success (with_reducible show True)); conv => whnf))
          all_goals try with_reducible first | exact trivial | exact (bc2 hv3 (by assumption)).elim | exact (bc2 (by assumption) hv3).elim | contradiction
          cases hh : hasM M id with
          | true =>
            have e1 : mIns false M id a bb c d = 7 := by simp [mIns, *]
            have e2 : mInsM false M id a bb c d = M := if_neg (by simp [*])
            refine goes_cut (C := []) (pl := []) T2_ok (Cons.nil _) mixed (by kernel_rfl) ?_
            repeat' (first | (with_reducible refine And.intro ?_ ?_) | (with_reducible intro h) | ((fail_if_success (with_reducible refine Leaf.mk ?_)); (fail_if_success (with_reducible refine VC.mk ?_)); (fail_if_success (with_reducible refine Goes.mk ?_)); (fail_if_success (with_reducible refine Again.mk ?_)); (fail_if_success (with_reducible refine Rounds.mk ?_)); (fail_if_success (with_reducible show False)); (fail_if_success (with_reducible show True)); conv => whnf))
            all_goals try with_reducible first | exact trivial | exact (bc2 hh (by assumption)).elim | exact (bc2 (by assumption) hh).elim | contradiction
            all_goals try simp only [Int.toNat_natCast, Nat.zero_add, Nat.reduceAdd, List.take_length, take_cA, take_cB, zip_col, cA_at, cB_at0, cB_at1, cB_at2, cB_at3, len_cA, len_cB, len_rw1, take_rw1] at *
            all_goals try simp only [e1, e2]
            all_goals try (refine VC.mk ?_; first | exact trivial | (with_reducible assumption) | omega | (simp only [InR]; omega) | exact ⟨M, rfl, rfl, rfl, hM, hlen⟩ | (intro hh; rw [hh]; rfl) | exact Nat.le_refl _ | exact Or.inr trivial | exact Or.inr rfl | exact Or.inl rfl | rfl | (simp only [zip_col, len_cA, len_cB, List.length_take, List.length_append, List.length_drop, List.drop_zero, List.length_cons, List.length_nil]; omega) | (simp; done) | (simp; omega))
            all_goals try (refine Leaf.mk ?_; first | exact trivial | (with_reducible rfl) | rfl | (simp [zip_col, mIns, mInsM, mUpd, mUpdM, *]; done))
          | false =>
            refine goes_cut (C := []) (pl := []) T2_ok (Cons.nil _) mixed (by kernel_rfl) ?_
            repeat' (first | (with_reducible refine And.intro ?_ ?_) | (with_reducible intro h) | ((fail_if_success (with_reducible refine Leaf.mk ?_)); (fail_if_success (with_reducible refine VC.mk ?_)); (fail_if_success (with_reducible refine Goes.mk ?_)); (fail_if_success (with_reducible refine Again.mk ?_)); (fail_if_success (with_reducible refine Rounds.mk ?_)); (fail_if_success (with_reducible show False)); (fail_if_success (with_reducible show True)); conv => whnf))
            all_goals try with_reducible first | exact trivial | exact (bc2 hh (by assumption)).elim | exact (bc2 (by assumption) hh).elim | contradiction
            by_cases hl : 4096 ≤ M.length
            · have hd : decide ((4096 : Int) ≤ (M.length : Int)) = true := by simp; omega
              have e1 : mIns false M id a bb c d = 9 := by simp [mIns, *]
              have e2 : mInsM false M id a bb c d = M := if_neg (by simp [*])
              refine goes_cut (C := []) (pl := []) T2_ok (Cons.nil _) mixed (by kernel_rfl) ?_
              repeat' (first | (with_reducible refine And.intro ?_ ?_) | (with_reducible intro h) | ((fail_if_success (with_reducible refine Leaf.mk ?_)); (fail_if_success (with_reducible refine VC.mk ?_)); (fail_if_success (with_reducible refine Goes.mk ?_)); (fail_if_success (with_reducible refine Again.mk ?_)); (fail_if_success (with_reducible refine Rounds.mk ?_)); (fail_if_success (with_reducible show False)); (fail_if_success (with_reducible show True)); conv => whnf))
              all_goals try with_reducible first | exact trivial | exact (bc2 hd (by assumption)).elim | exact (bc2 (by assumption) hd).elim | contradiction
              all_goals try simp only [Int.toNat_natCast, Nat.zero_add, Nat.reduceAdd, List.take_length, take_cA, take_cB, zip_col, cA_at, cB_at0, cB_at1, cB_at2, cB_at3, len_cA, len_cB, len_rw1, take_rw1] at *
              all_goals try simp only [e1, e2]
              all_goals try (refine VC.mk ?_; first | exact trivial | (with_reducible assumption) | omega | (simp only [InR]; omega) | exact ⟨M, rfl, rfl, rfl, hM, hlen⟩ | (intro hh; rw [hh]; rfl) | exact Nat.le_refl _ | exact Or.inr trivial | exact Or.inr rfl | exact Or.inl rfl | rfl | (simp only [zip_col, len_cA, len_cB, List.length_take, List.length_append, List.length_drop, List.drop_zero, List.length_cons, List.length_nil]; omega) | (simp; done) | (simp; omega))
              all_goals try (refine Leaf.mk ?_; first | exact trivial | (with_reducible rfl) | rfl | (simp [zip_col, mIns, mInsM, mUpd, mUpdM, *]; done))
            · have hd : decide ((4096 : Int) ≤ (M.length : Int)) = false := by simp; omega
              refine goes_cut (C := []) (pl := []) T2_ok (Cons.nil _) mixed (by kernel_rfl) ?_
              repeat' (first | (with_reducible refine And.intro ?_ ?_) | (with_reducible intro h) | ((fail_if_success (with_reducible refine Leaf.mk ?_)); (fail_if_success (with_reducible refine VC.mk ?_)); (fail_if_success (with_reducible refine Goes.mk ?_)); (fail_if_success (with_reducible refine Again.mk ?_)); (fail_if_success (with_reducible refine Rounds.mk ?_)); (fail_if_success (with_reducible show False)); (fail_if_success (with_reducible show True)); conv => whnf))
              all_goals try with_reducible first | exact trivial | exact (bc2 hd (by assumption)).elim | exact (bc2 (by assumption) hd).elim | contradiction
              have hlt : M.length < 4096 := by omega
              have hfl := fdI_le id M
              have hA := cA_ins M (fdI id M) ⟨id, a, bb, c, d⟩
              have hB := cB_ins M (fdI id M) ⟨id, a, bb, c, d⟩
              have hI : insM ⟨id, a, bb, c, d⟩ M = M.take (fdI id M) ++ (⟨id, a, bb, c, d⟩ :: M.drop (fdI id M)) := insM_at hh
              rw [← hI] at hA hB
              have hr : mInsM false M id a bb c d = insM ⟨id, a, bb, c, d⟩ M := if_pos ⟨rfl, hv, hh, hlt⟩
              have hne := insM_ne ⟨id, a, bb, c, d⟩ M
              have hll := insM_len ⟨id, a, bb, c, d⟩ M
              have hrA := rows_ins (X := cA M) (n := M.length) [id] hfl (len_cA M).symm
              have hrB := rows_ins (X := cB M) (n := M.length) [a, bb, c, d] hfl (len_cB M).symm
              have he : mIns false M id a bb c d = 0 := by simp [mIns, hv, hh, hl]
              cases hc : M with
              | nil =>
                subst hc
                refine goes_all (C := [c_rt_find, c_ref05_Valid]) (pl := []) T2_ok (Cons.cons con_rt_find (Cons.cons con_ref05_Valid (Cons.nil _))) mixed (by kernel_rfl) ?_
                repeat' (first | (with_reducible refine And.intro ?_ ?_) | (with_reducible intro h) | ((fail_if_success (with_reducible refine Leaf.mk ?_)); (fail_if_success (with_reducible refine VC.mk ?_)); (fail_if_success (with_reducible refine Goes.mk ?_)); (fail_if_success (with_reducible refine Again.mk ?_)); (fail_if_success (with_reducible refine Rounds.mk ?_)); (fail_if_success (with_reducible show False)); (fail_if_success (with_reducible show True)); conv => whnf))
                all_goals try simp only [Int.toNat_natCast, Nat.zero_add, Nat.reduceAdd, List.take_length, take_cA, take_cB, zip_col, cA_at, cB_at0, cB_at1, cB_at2, cB_at3, len_cA, len_cB, len_rw1, take_rw1] at *
                all_goals try with_reducible first | exact trivial | contradiction
                all_goals try simp only [he, hr]
                all_goals try (refine VC.mk ?_; first | exact trivial | (with_reducible assumption) | omega | (simp only [InR]; omega) | exact ⟨M, rfl, rfl, rfl, hM, hlen⟩ | (intro hh; rw [hh]; rfl) | exact Nat.le_refl _ | exact Or.inr trivial | exact Or.inr rfl | exact Or.inl rfl | rfl | (simp only [zip_col, len_cA, len_cB, List.length_take, List.length_append, List.length_drop, List.drop_zero, List.length_cons, List.length_nil]; omega) | (simp; done) | (simp; omega))
                all_goals try (refine Leaf.mk ?_; first | exact trivial | (with_reducible rfl) | rfl | exact hrA.trans hA.symm | exact hrB.trans hB.symm | (simp [zip_col, mIns, mInsM, mUpd, mUpdM, *]; done))
              | cons x M2 =>
                subst hc
                have hfl2 : fdI id (x :: M2) ≤ M2.length + 1 := hfl
                have hlt2 : M2.length + 1 < 4096 := hlt
                refine goes_all (C := [c_rt_find, c_ref05_Valid]) (pl := []) T2_ok (Cons.cons con_rt_find (Cons.cons con_ref05_Valid (Cons.nil _))) mixed (by kernel_rfl) ?_
                repeat' (first | (with_reducible refine And.intro ?_ ?_) | (with_reducible intro h) | ((fail_if_success (with_reducible refine Leaf.mk ?_)); (fail_if_success (with_reducible refine VC.mk ?_)); (fail_if_success (with_reducible refine Goes.mk ?_)); (fail_if_success (with_reducible refine Again.mk ?_)); (fail_if_success (with_reducible refine Rounds.mk ?_)); (fail_if_success (with_reducible show False)); (fail_if_success (with_reducible show True)); conv => whnf))
                all_goals try simp only [Int.toNat_natCast, Nat.zero_add, Nat.reduceAdd, List.take_length, take_cA, take_cB, zip_col, cA_at, cB_at0, cB_at1, cB_at2, cB_at3, len_cA, len_cB, len_rw1, take_rw1] at *
                all_goals try with_reducible first | exact trivial | contradiction
                all_goals try simp only [he, hr]
                all_goals try (refine VC.mk ?_; first | exact trivial | (with_reducible assumption) | omega | (simp only [InR]; omega) | exact ⟨M, rfl, rfl, rfl, hM, hlen⟩ | (intro hh; rw [hh]; rfl) | exact Nat.le_refl _ | exact Or.inr trivial | exact Or.inr rfl | exact Or.inl rfl | rfl | (simp only [zip_col, len_cA, len_cB, List.length_take, List.length_append, List.length_drop, List.drop_zero, List.length_cons, List.length_nil]; omega) | (simp; done) | (simp; omega))
                all_goals try (refine Leaf.mk ?_; first | exact trivial | (with_reducible rfl) | rfl | exact hrA.trans hA.symm | exact hrB.trans hB.symm | (simp [zip_col, mIns, mInsM, mUpd, mUpdM, *]; done))

end Go.Proofs.Ytconaehajaifhaa
