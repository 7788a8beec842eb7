/- Contracts of the laws of chapter 20: the reference's tree, looked at. -/
import Derived.Test.YtconaehajaifhaaUH
namespace Go.Proofs.Ytconaehajaifhaa
open Go.RowKit Fx Vx Bx Ev
set_option linter.unusedVariables false
set_option linter.unusedSimpArgs false
theorem take_cA (M : List En) : List.take M.length (cA M) = cA M := List.take_of_length_le (by rw [len_cA]; exact Nat.le_refl _)
theorem take_cB (M : List En) : List.take M.length (cB M) = cB M := List.take_of_length_le (by rw [len_cB]; exact Nat.le_refl _)
def c_rt_Bounds : Con := ⟨49, mdRun [0] (fun l z b A B => match l with | [id] => [MdIs b A B] | _ => [False]) fun l z b A B => match l with
  | [id] => ⟨[.val (.agg [.int .i64 (mBnd (zipM A B) id 0), .int .i64 (mBnd (zipM A B) id 1), .int .i64 (mBnd (zipM A B) id 2), .int .i64 (mBnd (zipM A B) id 3)]), .val (.bool (hasM (zipM A B) id))], (zipM A B).isEmpty, cA (zipM A B), cB (zipM A B)⟩
  | _ => ⟨[], b, A, B⟩⟩
set_option maxRecDepth 100000 in
set_option maxHeartbeats 8000000 in
theorem con_rt_Bounds : c_rt_Bounds.Ok Try.prog := by
  refine con_md Try.func49 rfl (by kernel_rfl) T_ok 2 _ _ _ (fun l z b A B hl hb hpre => ?_)
  match l, hl with
  | [id], zl =>
    clear zl
    have hp0 := hpre _ (List.Mem.head _); try dsimp only at hp0
    clear hpre hl hb
    obtain ⟨M, rfl, rfl, rfl, hM, hlen⟩ := hp0
    conv => whnf
    cases hq : hasM M id with
    | true =>
      have hh : hasM M id = true := hq
      obtain ⟨hy1, hy2⟩ := has_yes hM hh
      have hlk := lk_at hM hh
      have he := isE_false hy1
      have hh2 : (!hasM M id) = false := by rw [hh]; rfl
      refine goes_all (C := [c_rt_find]) (pl := []) T2_ok (Cons.cons con_rt_find (Cons.nil _)) mixed (by kernel_rfl) ?_
      repeat' (first | (with_reducible refine And.intro ?_ ?_) | (with_reducible intro h) | ((fail_if_success (with_reducible refine Leaf.mk ?_)); (fail_if_success (with_reducible refine VC.mk ?_)); (fail_if_success (with_reducible refine Goes.mk ?_)); (fail_if_success (with_reducible refine Again.mk ?_)); (fail_if_success (with_reducible refine Rounds.mk ?_)); (fail_if_success (with_reducible show False)); (fail_if_success (with_reducible show True)); conv => whnf))
      all_goals try simp only [Int.toNat_natCast, Nat.zero_add, Nat.reduceAdd, List.take_length, take_cA, take_cB, zip_col, cA_at, cB_at0, cB_at1, cB_at2, cB_at3, len_cA, len_cB, len_rw1, take_rw1] at *
      all_goals try with_reducible first | exact trivial | exact (bc2 hh2 (by assumption)).elim | exact (bc2 (by assumption) hh2).elim
      all_goals try (refine VC.mk ?_; first | exact trivial | (with_reducible assumption) | omega | (simp only [InR]; omega) | exact ⟨M, rfl, rfl, rfl, hM, hlen⟩ | (intro hh; rw [hh]; rfl) | exact Nat.le_refl _ | (simp only [zip_col]; intro hh; rw [hh]; rfl) | (simp only [zip_col, len_cA, len_cB]; omega) | (intro hh; simp at hh; rw [hh]; rfl) | exact Or.inr trivial | (simp; done) | (simp; omega))
      all_goals try (refine Leaf.mk ?_; first | (with_reducible rfl) | rfl | (simp only [zip_col, List.take_length]; first | rfl | (with_reducible exact hh.symm) | done) | (simp only [zip_col, *]; done) | (simp [zip_col, mBnd, *]; done))
    | false =>
      have hh : hasM M id = false := hq
      have hlk := lkM_none hh
      have hh2 : (!hasM M id) = true := by rw [hh]; rfl
      refine goes_all (C := [c_rt_find]) (pl := []) T2_ok (Cons.cons con_rt_find (Cons.nil _)) mixed (by kernel_rfl) ?_
      repeat' (first | (with_reducible refine And.intro ?_ ?_) | (with_reducible intro h) | ((fail_if_success (with_reducible refine Leaf.mk ?_)); (fail_if_success (with_reducible refine VC.mk ?_)); (fail_if_success (with_reducible refine Goes.mk ?_)); (fail_if_success (with_reducible refine Again.mk ?_)); (fail_if_success (with_reducible refine Rounds.mk ?_)); (fail_if_success (with_reducible show False)); (fail_if_success (with_reducible show True)); conv => whnf))
      all_goals try simp only [Int.toNat_natCast, Nat.zero_add, Nat.reduceAdd, List.take_length, take_cA, take_cB, zip_col, cA_at, cB_at0, cB_at1, cB_at2, cB_at3, len_cA, len_cB, len_rw1, take_rw1] at *
      all_goals try with_reducible first | exact trivial | exact (bc2 hh2 (by assumption)).elim | exact (bc2 (by assumption) hh2).elim
      all_goals try (refine VC.mk ?_; first | exact trivial | (with_reducible assumption) | omega | (simp only [InR]; omega) | exact ⟨M, rfl, rfl, rfl, hM, hlen⟩ | (intro hh; rw [hh]; rfl) | exact Nat.le_refl _ | (simp only [zip_col]; intro hh; rw [hh]; rfl) | (simp only [zip_col, len_cA, len_cB]; omega) | (intro hh; simp at hh; rw [hh]; rfl) | exact Or.inr trivial | (simp; done) | (simp; omega))
      all_goals try (refine Leaf.mk ?_; first | (with_reducible rfl) | rfl | (simp only [zip_col, List.take_length]; first | rfl | (with_reducible exact hh.symm) | done) | (simp only [zip_col, *]; done) | (simp [zip_col, mBnd, *]; done))
def c_rt_Query : Con := ⟨50, mdRun [4] (fun l z b A B => match l with | [a, bb, c, d] => [MdIs b A B] | _ => [False]) fun l z b A B => match l with
  | [a, bb, c, d] => ⟨[.rows (qM (ovP a bb c d) (zipM A B)).isEmpty 1 (rw1 (qM (ovP a bb c d) (zipM A B)))], (zipM A B).isEmpty, cA (zipM A B), cB (zipM A B)⟩
  | _ => ⟨[], b, A, B⟩⟩
set_option maxRecDepth 100000 in
set_option maxHeartbeats 8000000 in
theorem con_rt_Query : c_rt_Query.Ok Try.prog := by
  refine con_md Try.func50 rfl (by kernel_rfl) T_ok 2 _ _ _ (fun l z b A B hl hb hpre => ?_)
  match l, hl with
  | [a, bb, c, d], zl =>
    clear zl
    have hp0 := hpre _ (List.Mem.head _); try dsimp only at hp0
    clear hpre hl hb
    obtain ⟨M, rfl, rfl, rfl, hM, hlen⟩ := hp0
    conv => whnf
    refine goes_all (C := [c_ref05_Overlaps]) (pl := [(5, [0, 1, 2, 3, 4, 5, 6, 7, 8], [0, 1, 3, 7, 0, 31, 63, 0, 255])]) T2_ok (Cons.cons con_ref05_Overlaps (Cons.nil _)) mixed (by kernel_rfl) ?_
    repeat' (first | (with_reducible refine And.intro ?_ ?_) | (with_reducible intro h) | ((fail_if_success (with_reducible refine Leaf.mk ?_)); (fail_if_success (with_reducible refine VC.mk ?_)); (fail_if_success (with_reducible refine Goes.mk ?_)); (fail_if_success (with_reducible refine Again.mk ?_)); (fail_if_success (with_reducible refine Rounds.mk ?_)); (fail_if_success (with_reducible show False)); (fail_if_success (with_reducible show True)); conv => whnf))
    refine goes_invG (X := Nat) (fun i => (.ptr 0 0 :: .any :: .here 0 :: .ptr 3 0 :: .any :: .osl (qM (ovP a bb c d) (M.take i)).isEmpty 4 1 (qM (ovP a bb c d) (M.take i)).length :: .int .i64 (i : Int) :: .any :: .any :: .any :: .any :: .any :: .any :: .any :: .any :: .any :: .any :: .any :: .any :: .any :: .any :: .any :: .any :: .any :: .any :: .any :: .any :: .any :: .any :: .any :: .any :: .any :: .any :: .any :: .any :: .any :: .any :: .any :: .any :: .any :: .any :: .any :: .any :: .any :: .any :: [], [.cells [.osl M.isEmpty 1 1 M.length, .osl M.isEmpty 2 4 M.length, .bool z], .arr true (!M.isEmpty) 1 (cA M), .arr true (!M.isEmpty) 4 (cB M), .cells [.int .i64 a, .int .i64 bb, .int .i64 c, .int .i64 d], .arr true (!(qM (ovP a bb c d) (M.take i)).isEmpty) 1 (rw1 (qM (ovP a bb c d) (M.take i)))])) (fun i => i ≤ M.length) (fun i => M.length - i) 0 [0, 1, 2, 3, 4] (Nat.zero_le _) ?_ ?_ ?_
    · repeat' (first | (with_reducible refine And.intro ?_ ?_) | (with_reducible intro h) | ((fail_if_success (with_reducible refine Leaf.mk ?_)); (fail_if_success (with_reducible refine VC.mk ?_)); (fail_if_success (with_reducible refine Goes.mk ?_)); (fail_if_success (with_reducible refine Again.mk ?_)); (fail_if_success (with_reducible refine Rounds.mk ?_)); (fail_if_success (with_reducible show False)); (fail_if_success (with_reducible show True)); conv => whnf))
      all_goals first | exact trivial | (refine Leaf.mk ?_; first | rfl | exact ⟨rfl, rfl⟩ | exact ⟨rfl, rfl, rfl⟩ | (simp [len_cA, len_cB, qM]; done))
    · repeat' (first | (with_reducible refine And.intro ?_ ?_) | (with_reducible intro h) | ((fail_if_success (with_reducible refine Leaf.mk ?_)); (fail_if_success (with_reducible refine VC.mk ?_)); (fail_if_success (with_reducible refine Goes.mk ?_)); (fail_if_success (with_reducible refine Again.mk ?_)); (fail_if_success (with_reducible refine Rounds.mk ?_)); (fail_if_success (with_reducible show False)); (fail_if_success (with_reducible show True)); conv => whnf))
      all_goals first | exact trivial | (refine Leaf.mk ?_; first | rfl | exact ⟨rfl, rfl⟩ | exact ⟨rfl, rfl, rfl⟩ | (simp [len_cA, len_cB, qM]; done))
    · intro i hx
      rcases Nat.lt_or_ge i M.length with hi | hi
      · have hd : decide ((i : Int) < (M.length : Int)) = true := by simp; omega
        have he := isE_false hi
        have hsu := take_succ_getD M hi
        have hql : (qM (ovP a bb c d) (M.take i)).length ≤ 4096 := Nat.le_trans (qM_len _ _) (by simp; omega)
        cases ho : overlapsB (M.getD i e0).a (M.getD i e0).b (M.getD i e0).c (M.getD i e0).d a bb c d with
        | true =>
          have eq : qM (ovP a bb c d) (M.take (i + 1)) = qM (ovP a bb c d) (M.take i) ++ [(M.getD i e0).id] := by rw [hsu, qM_snoc, if_pos (show (M.getD i e0).is (ovP a bb c d) = true from ho)]
          refine goes_all (C := [c_ref05_Overlaps]) (pl := [(5, [0, 1, 2, 3, 4, 5, 6, 7, 8], [0, 1, 3, 7, 0, 31, 63, 0, 255])]) T2_ok (Cons.cons con_ref05_Overlaps (Cons.nil _)) mixed (by kernel_rfl) ?_
          repeat' (first | (with_reducible refine And.intro ?_ ?_) | (with_reducible intro h) | ((fail_if_success (with_reducible refine Leaf.mk ?_)); (fail_if_success (with_reducible refine VC.mk ?_)); (fail_if_success (with_reducible refine Goes.mk ?_)); (fail_if_success (with_reducible refine Again.mk ?_)); (fail_if_success (with_reducible refine Rounds.mk ?_)); (fail_if_success (with_reducible show False)); (fail_if_success (with_reducible show True)); conv => whnf))
          all_goals try simp only [Int.toNat_natCast, Nat.zero_add, Nat.reduceAdd, List.take_length, take_cA, take_cB, zip_col, cA_at, cB_at0, cB_at1, cB_at2, cB_at3, len_cA, len_cB, len_rw1, take_rw1] at *
          all_goals try with_reducible first | exact trivial | exact (bc2 hd (by assumption)).elim | exact (bc2 ho (by assumption)).elim
          all_goals try (refine VC.mk ?_; first | exact trivial | (with_reducible assumption) | omega | (simp only [InR]; omega) | exact ⟨M, rfl, rfl, rfl, hM, hlen⟩ | (intro hh; rw [hh]; rfl) | exact Nat.le_refl _ | (simp only [zip_col]; intro hh; rw [hh]; rfl) | (simp only [zip_col, len_cA, len_cB]; omega) | (intro hh; simp at hh; rw [hh]; rfl) | exact Or.inr trivial | (simp; done) | (simp; omega))
          all_goals (refine Again.mk ⟨i + 1, [0, 1, 2, 3, 6], (show i + 1 ≤ M.length from hi), (by show M.length - (i + 1) < M.length - i; omega), ?_, ?_⟩ <;> (repeat' (first | (with_reducible refine And.intro ?_ ?_) | (with_reducible intro h) | ((fail_if_success (with_reducible refine Leaf.mk ?_)); (fail_if_success (with_reducible refine VC.mk ?_)); (fail_if_success (with_reducible refine Goes.mk ?_)); (fail_if_success (with_reducible refine Again.mk ?_)); (fail_if_success (with_reducible refine Rounds.mk ?_)); (fail_if_success (with_reducible show False)); (fail_if_success (with_reducible show True)); conv => whnf))) <;> first | exact trivial | (refine Leaf.mk ?_; first | (with_reducible rfl) | (rw [eq, take_rw1]; simp [rw1]; done) | (simp only [eq]; done) | (simp [eq, isE_app, rw1, List.take_of_length_le]; done) | (simp [eq, len_cA, len_cB]; done) | rfl | exact ⟨rfl, rfl⟩ | exact ⟨rfl, rfl, rfl⟩))
        | false =>
          have eq : qM (ovP a bb c d) (M.take (i + 1)) = qM (ovP a bb c d) (M.take i) := by rw [hsu, qM_snoc, if_neg (show ¬ (M.getD i e0).is (ovP a bb c d) = true from fun hh => by rw [show (M.getD i e0).is (ovP a bb c d) = false from ho] at hh; cases hh)]; exact List.append_nil _
          refine goes_all (C := [c_ref05_Overlaps]) (pl := [(5, [0, 1, 2, 3, 4, 5, 6, 7, 8], [0, 1, 3, 7, 0, 31, 63, 0, 255])]) T2_ok (Cons.cons con_ref05_Overlaps (Cons.nil _)) mixed (by kernel_rfl) ?_
          repeat' (first | (with_reducible refine And.intro ?_ ?_) | (with_reducible intro h) | ((fail_if_success (with_reducible refine Leaf.mk ?_)); (fail_if_success (with_reducible refine VC.mk ?_)); (fail_if_success (with_reducible refine Goes.mk ?_)); (fail_if_success (with_reducible refine Again.mk ?_)); (fail_if_success (with_reducible refine Rounds.mk ?_)); (fail_if_success (with_reducible show False)); (fail_if_success (with_reducible show True)); conv => whnf))
          all_goals try simp only [Int.toNat_natCast, Nat.zero_add, Nat.reduceAdd, List.take_length, take_cA, take_cB, zip_col, cA_at, cB_at0, cB_at1, cB_at2, cB_at3, len_cA, len_cB, len_rw1, take_rw1] at *
          all_goals try with_reducible first | exact trivial | exact (bc2 hd (by assumption)).elim | exact (bc2 (by assumption) ho).elim
          all_goals try (refine VC.mk ?_; first | exact trivial | (with_reducible assumption) | omega | (simp only [InR]; omega) | exact ⟨M, rfl, rfl, rfl, hM, hlen⟩ | (intro hh; rw [hh]; rfl) | exact Nat.le_refl _ | (simp only [zip_col]; intro hh; rw [hh]; rfl) | (simp only [zip_col, len_cA, len_cB]; omega) | (intro hh; simp at hh; rw [hh]; rfl) | exact Or.inr trivial | (simp; done) | (simp; omega))
          all_goals (refine Again.mk ⟨i + 1, [0, 1, 2, 3, 4], (show i + 1 ≤ M.length from hi), (by show M.length - (i + 1) < M.length - i; omega), ?_, ?_⟩ <;> (repeat' (first | (with_reducible refine And.intro ?_ ?_) | (with_reducible intro h) | ((fail_if_success (with_reducible refine Leaf.mk ?_)); (fail_if_success (with_reducible refine VC.mk ?_)); (fail_if_success (with_reducible refine Goes.mk ?_)); (fail_if_success (with_reducible refine Again.mk ?_)); (fail_if_success (with_reducible refine Rounds.mk ?_)); (fail_if_success (with_reducible show False)); (fail_if_success (with_reducible show True)); conv => whnf))) <;> first | exact trivial | (refine Leaf.mk ?_; first | (with_reducible rfl) | (rw [eq, take_rw1]; simp [rw1]; done) | (simp only [eq]; done) | (simp [eq, isE_app, rw1, List.take_of_length_le]; done) | (simp [eq, len_cA, len_cB]; done) | rfl | exact ⟨rfl, rfl⟩ | exact ⟨rfl, rfl, rfl⟩))
      · obtain rfl : i = M.length := by omega
        have hd : decide ((M.length : Int) < (M.length : Int)) = false := by simp
        have hT : M.take M.length = M := List.take_length
        refine goes_all (C := [c_ref05_Overlaps]) (pl := [(5, [0, 1, 2, 3, 4, 5, 6, 7, 8], [0, 1, 3, 7, 0, 31, 63, 0, 255])]) T2_ok (Cons.cons con_ref05_Overlaps (Cons.nil _)) mixed (by kernel_rfl) ?_
        repeat' (first | (with_reducible refine And.intro ?_ ?_) | (with_reducible intro h) | ((fail_if_success (with_reducible refine Leaf.mk ?_)); (fail_if_success (with_reducible refine VC.mk ?_)); (fail_if_success (with_reducible refine Goes.mk ?_)); (fail_if_success (with_reducible refine Again.mk ?_)); (fail_if_success (with_reducible refine Rounds.mk ?_)); (fail_if_success (with_reducible show False)); (fail_if_success (with_reducible show True)); conv => whnf))
        all_goals try simp only [Int.toNat_natCast, Nat.zero_add, Nat.reduceAdd, List.take_length, take_cA, take_cB, zip_col, cA_at, cB_at0, cB_at1, cB_at2, cB_at3, len_cA, len_cB, len_rw1, take_rw1] at *
        all_goals try with_reducible first | exact trivial | exact (bc2 (by assumption) hd).elim
        all_goals try (refine VC.mk ?_; first | exact trivial | (with_reducible assumption) | omega | (simp only [InR]; omega) | exact ⟨M, rfl, rfl, rfl, hM, hlen⟩ | (intro hh; rw [hh]; rfl) | exact Nat.le_refl _ | (simp only [zip_col]; intro hh; rw [hh]; rfl) | (simp only [zip_col, len_cA, len_cB]; omega) | (intro hh; simp at hh; rw [hh]; rfl) | exact Or.inr trivial | (simp; done) | (simp; omega))
        all_goals try (refine Leaf.mk ?_; first | (with_reducible rfl) | rfl | (simp only [zip_col, List.take_length]; first | rfl | (with_reducible exact hh.symm) | done) | (simp only [zip_col, *]; done) | (simp [zip_col, mBnd, *]; done))
def c_rt_RayQuery : Con := ⟨51, mdRun [2, 2] (fun l z b A B => match l with | [a, bb, c, d] => [MdIs b A B] | _ => [False]) fun l z b A B => match l with
  | [a, bb, c, d] => ⟨[.rows (qM (sgP a bb c d) (zipM A B)).isEmpty 1 (rw1 (qM (sgP a bb c d) (zipM A B)))], (zipM A B).isEmpty, cA (zipM A B), cB (zipM A B)⟩
  | _ => ⟨[], b, A, B⟩⟩
set_option maxRecDepth 100000 in
set_option maxHeartbeats 8000000 in
theorem con_rt_RayQuery : c_rt_RayQuery.Ok Try.prog := by
  refine con_md Try.func51 rfl (by kernel_rfl) T_ok 3 _ _ _ (fun l z b A B hl hb hpre => ?_)
  match l, hl with
  | [a, bb, c, d], zl =>
    clear zl
    have hp0 := hpre _ (List.Mem.head _); try dsimp only at hp0
    clear hpre hl hb
    obtain ⟨M, rfl, rfl, rfl, hM, hlen⟩ := hp0
    conv => whnf
    refine goes_all (C := [c_ref05_IntersectsSegment]) (pl := [(5, [0, 1, 2, 3, 4, 5, 6, 7, 8, 9], [0, 1, 3, 7, 0, 31, 63, 0, 0, 511])]) T2_ok (Cons.cons con_ref05_IntersectsSegment (Cons.nil _)) mixed (by kernel_rfl) ?_
    repeat' (first | (with_reducible refine And.intro ?_ ?_) | (with_reducible intro h) | ((fail_if_success (with_reducible refine Leaf.mk ?_)); (fail_if_success (with_reducible refine VC.mk ?_)); (fail_if_success (with_reducible refine Goes.mk ?_)); (fail_if_success (with_reducible refine Again.mk ?_)); (fail_if_success (with_reducible refine Rounds.mk ?_)); (fail_if_success (with_reducible show False)); (fail_if_success (with_reducible show True)); conv => whnf))
    refine goes_invG (X := Nat) (fun i => (.ptr 0 0 :: .any :: .any :: .here 0 :: .ptr 3 0 :: .ptr 4 0 :: .any :: .osl (qM (sgP a bb c d) (M.take i)).isEmpty 5 1 (qM (sgP a bb c d) (M.take i)).length :: .int .i64 (i : Int) :: .any :: .any :: .any :: .any :: .any :: .any :: .any :: .any :: .any :: .any :: .any :: .any :: .any :: .any :: .any :: .any :: .any :: .any :: .any :: .any :: .any :: .any :: .any :: .any :: .any :: .any :: .any :: .any :: .any :: .any :: .any :: .any :: .any :: .any :: .any :: .any :: .any :: .any :: .any :: [], [.cells [.osl M.isEmpty 1 1 M.length, .osl M.isEmpty 2 4 M.length, .bool z], .arr true (!M.isEmpty) 1 (cA M), .arr true (!M.isEmpty) 4 (cB M), .cells [.int .i64 a, .int .i64 bb], .cells [.int .i64 c, .int .i64 d], .arr true (!(qM (sgP a bb c d) (M.take i)).isEmpty) 1 (rw1 (qM (sgP a bb c d) (M.take i)))])) (fun i => i ≤ M.length) (fun i => M.length - i) 0 [0, 1, 2, 3, 4, 5] (Nat.zero_le _) ?_ ?_ ?_
    · repeat' (first | (with_reducible refine And.intro ?_ ?_) | (with_reducible intro h) | ((fail_if_success (with_reducible refine Leaf.mk ?_)); (fail_if_success (with_reducible refine VC.mk ?_)); (fail_if_success (with_reducible refine Goes.mk ?_)); (fail_if_success (with_reducible refine Again.mk ?_)); (fail_if_success (with_reducible refine Rounds.mk ?_)); (fail_if_success (with_reducible show False)); (fail_if_success (with_reducible show True)); conv => whnf))
      all_goals first | exact trivial | (refine Leaf.mk ?_; first | rfl | exact ⟨rfl, rfl⟩ | exact ⟨rfl, rfl, rfl⟩ | (simp [len_cA, len_cB, qM]; done))
    · repeat' (first | (with_reducible refine And.intro ?_ ?_) | (with_reducible intro h) | ((fail_if_success (with_reducible refine Leaf.mk ?_)); (fail_if_success (with_reducible refine VC.mk ?_)); (fail_if_success (with_reducible refine Goes.mk ?_)); (fail_if_success (with_reducible refine Again.mk ?_)); (fail_if_success (with_reducible refine Rounds.mk ?_)); (fail_if_success (with_reducible show False)); (fail_if_success (with_reducible show True)); conv => whnf))
      all_goals first | exact trivial | (refine Leaf.mk ?_; first | rfl | exact ⟨rfl, rfl⟩ | exact ⟨rfl, rfl, rfl⟩ | (simp [len_cA, len_cB, qM]; done))
    · intro i hx
      rcases Nat.lt_or_ge i M.length with hi | hi
      · have hd : decide ((i : Int) < (M.length : Int)) = true := by simp; omega
        have he := isE_false hi
        have hsu := take_succ_getD M hi
        have hql : (qM (sgP a bb c d) (M.take i)).length ≤ 4096 := Nat.le_trans (qM_len _ _) (by simp; omega)
        cases ho : isegB (M.getD i e0).a (M.getD i e0).b (M.getD i e0).c (M.getD i e0).d a bb c d with
        | true =>
          have eq : qM (sgP a bb c d) (M.take (i + 1)) = qM (sgP a bb c d) (M.take i) ++ [(M.getD i e0).id] := by rw [hsu, qM_snoc, if_pos (show (M.getD i e0).is (sgP a bb c d) = true from ho)]
          refine goes_all (C := [c_ref05_IntersectsSegment]) (pl := [(5, [0, 1, 2, 3, 4, 5, 6, 7, 8, 9], [0, 1, 3, 7, 0, 31, 63, 0, 0, 511])]) T2_ok (Cons.cons con_ref05_IntersectsSegment (Cons.nil _)) mixed (by kernel_rfl) ?_
          repeat' (first | (with_reducible refine And.intro ?_ ?_) | (with_reducible intro h) | ((fail_if_success (with_reducible refine Leaf.mk ?_)); (fail_if_success (with_reducible refine VC.mk ?_)); (fail_if_success (with_reducible refine Goes.mk ?_)); (fail_if_success (with_reducible refine Again.mk ?_)); (fail_if_success (with_reducible refine Rounds.mk ?_)); (fail_if_success (with_reducible show False)); (fail_if_success (with_reducible show True)); conv => whnf))
          all_goals try simp only [Int.toNat_natCast, Nat.zero_add, Nat.reduceAdd, List.take_length, take_cA, take_cB, zip_col, cA_at, cB_at0, cB_at1, cB_at2, cB_at3, len_cA, len_cB, len_rw1, take_rw1] at *
          all_goals try with_reducible first | exact trivial | exact (bc2 hd (by assumption)).elim | exact (bc2 ho (by assumption)).elim
          all_goals try (refine VC.mk ?_; first | exact trivial | (with_reducible assumption) | omega | (simp only [InR]; omega) | exact ⟨M, rfl, rfl, rfl, hM, hlen⟩ | (intro hh; rw [hh]; rfl) | exact Nat.le_refl _ | (simp only [zip_col]; intro hh; rw [hh]; rfl) | (simp only [zip_col, len_cA, len_cB]; omega) | (intro hh; simp at hh; rw [hh]; rfl) | exact Or.inr trivial | (simp; done) | (simp; omega))
          all_goals (refine Again.mk ⟨i + 1, [0, 1, 2, 3, 4, 7], (show i + 1 ≤ M.length from hi), (by show M.length - (i + 1) < M.length - i; omega), ?_, ?_⟩ <;> (repeat' (first | (with_reducible refine And.intro ?_ ?_) | (with_reducible intro h) | ((fail_if_success (with_reducible refine Leaf.mk ?_)); (fail_if_success (with_reducible refine VC.mk ?_)); (fail_if_success (with_reducible refine Goes.mk ?_)); (fail_if_success (with_reducible refine Again.mk ?_)); (fail_if_success (with_reducible refine Rounds.mk ?_)); (fail_if_success (with_reducible show False)); (fail_if_success (with_reducible show True)); conv => whnf))) <;> first | exact trivial | (refine Leaf.mk ?_; first | (with_reducible rfl) | (rw [eq, take_rw1]; simp [rw1]; done) | (simp only [eq]; done) | (simp [eq, isE_app, rw1, List.take_of_length_le]; done) | (simp [eq, len_cA, len_cB]; done) | rfl | exact ⟨rfl, rfl⟩ | exact ⟨rfl, rfl, rfl⟩))
        | false =>
          have eq : qM (sgP a bb c d) (M.take (i + 1)) = qM (sgP a bb c d) (M.take i) := by rw [hsu, qM_snoc, if_neg (show ¬ (M.getD i e0).is (sgP a bb c d) = true from fun hh => by rw [show (M.getD i e0).is (sgP a bb c d) = false from ho] at hh; cases hh)]; exact List.append_nil _
          refine goes_all (C := [c_ref05_IntersectsSegment]) (pl := [(5, [0, 1, 2, 3, 4, 5, 6, 7, 8, 9], [0, 1, 3, 7, 0, 31, 63, 0, 0, 511])]) T2_ok (Cons.cons con_ref05_IntersectsSegment (Cons.nil _)) mixed (by kernel_rfl) ?_
          repeat' (first | (with_reducible refine And.intro ?_ ?_) | (with_reducible intro h) | ((fail_if_success (with_reducible refine Leaf.mk ?_)); (fail_if_success (with_reducible refine VC.mk ?_)); (fail_if_success (with_reducible refine Goes.mk ?_)); (fail_if_success (with_reducible refine Again.mk ?_)); (fail_if_success (with_reducible refine Rounds.mk ?_)); (fail_if_success (with_reducible show False)); (fail_if_success (with_reducible show True)); conv => whnf))
          all_goals try simp only [Int.toNat_natCast, Nat.zero_add, Nat.reduceAdd, List.take_length, take_cA, take_cB, zip_col, cA_at, cB_at0, cB_at1, cB_at2, cB_at3, len_cA, len_cB, len_rw1, take_rw1] at *
          all_goals try with_reducible first | exact trivial | exact (bc2 hd (by assumption)).elim | exact (bc2 (by assumption) ho).elim
          all_goals try (refine VC.mk ?_; first | exact trivial | (with_reducible assumption) | omega | (simp only [InR]; omega) | exact ⟨M, rfl, rfl, rfl, hM, hlen⟩ | (intro hh; rw [hh]; rfl) | exact Nat.le_refl _ | (simp only [zip_col]; intro hh; rw [hh]; rfl) | (simp only [zip_col, len_cA, len_cB]; omega) | (intro hh; simp at hh; rw [hh]; rfl) | exact Or.inr trivial | (simp; done) | (simp; omega))
          all_goals (refine Again.mk ⟨i + 1, [0, 1, 2, 3, 4, 5], (show i + 1 ≤ M.length from hi), (by show M.length - (i + 1) < M.length - i; omega), ?_, ?_⟩ <;> (repeat' (first | (with_reducible refine And.intro ?_ ?_) | (with_reducible intro h) | ((fail_if_success (with_reducible refine Leaf.mk ?_)); (fail_if_success (with_reducible refine VC.mk ?_)); (fail_if_success (with_reducible refine Goes.mk ?_)); (fail_if_success (with_reducible refine Again.mk ?_)); (fail_if_success (with_reducible refine Rounds.mk ?_)); (fail_if_success (with_reducible show False)); (fail_if_success (with_reducible show True)); conv => whnf))) <;> first | exact trivial | (refine Leaf.mk ?_; first | (with_reducible rfl) | (rw [eq, take_rw1]; simp [rw1]; done) | (simp only [eq]; done) | (simp [eq, isE_app, rw1, List.take_of_length_le]; done) | (simp [eq, len_cA, len_cB]; done) | rfl | exact ⟨rfl, rfl⟩ | exact ⟨rfl, rfl, rfl⟩))
      · obtain rfl : i = M.length := by omega
        have hd : decide ((M.length : Int) < (M.length : Int)) = false := by simp
        have hT : M.take M.length = M := List.take_length
        refine goes_all (C := [c_ref05_IntersectsSegment]) (pl := [(5, [0, 1, 2, 3, 4, 5, 6, 7, 8, 9], [0, 1, 3, 7, 0, 31, 63, 0, 0, 511])]) T2_ok (Cons.cons con_ref05_IntersectsSegment (Cons.nil _)) mixed (by kernel_rfl) ?_
        repeat' (first | (with_reducible refine And.intro ?_ ?_) | (with_reducible intro h) | ((fail_if_success (with_reducible refine Leaf.mk ?_)); (fail_if_success (with_reducible refine VC.mk ?_)); (fail_if_success (with_reducible refine Goes.mk ?_)); (fail_if_success (with_reducible refine Again.mk ?_)); (fail_if_success (with_reducible refine Rounds.mk ?_)); (fail_if_success (with_reducible show False)); (fail_if_success (with_reducible show True)); conv => whnf))
        all_goals try simp only [Int.toNat_natCast, Nat.zero_add, Nat.reduceAdd, List.take_length, take_cA, take_cB, zip_col, cA_at, cB_at0, cB_at1, cB_at2, cB_at3, len_cA, len_cB, len_rw1, take_rw1] at *
        all_goals try with_reducible first | exact trivial | exact (bc2 (by assumption) hd).elim
        all_goals try (refine VC.mk ?_; first | exact trivial | (with_reducible assumption) | omega | (simp only [InR]; omega) | exact ⟨M, rfl, rfl, rfl, hM, hlen⟩ | (intro hh; rw [hh]; rfl) | exact Nat.le_refl _ | (simp only [zip_col]; intro hh; rw [hh]; rfl) | (simp only [zip_col, len_cA, len_cB]; omega) | (intro hh; simp at hh; rw [hh]; rfl) | exact Or.inr trivial | (simp; done) | (simp; omega))
        all_goals try (refine Leaf.mk ?_; first | (with_reducible rfl) | rfl | (simp only [zip_col, List.take_length]; first | rfl | (with_reducible exact hh.symm) | done) | (simp only [zip_col, *]; done) | (simp [zip_col, mBnd, *]; done))

end Go.Proofs.Ytconaehajaifhaa
