/- Contracts of the laws of chapter 20: an operation on the reference's tree. -/
import Derived.Test.YtconaehajaifhaaUL
namespace Go.Proofs.Ytconaehajaifhaa
open Go.RowKit Fx Vx Bx Ev
set_option linter.unusedVariables false
set_option linter.unusedSimpArgs false
def mE (z : Bool) (M : List En) (k id a b c d : Int) : Int :=
  if k = 1 then mIns z M id a b c d else if k = 2 then (if hasM M id = true then 1 else 0) else if k = 3 then mUpd z M id a b c d else if k = 4 then (if hasM M id = true then 1 else 0) else 0
def mF (M : List En) (k a b c d : Int) : Bool := if k = 5 then (qM (ovP a b c d) M).isEmpty else if k = 6 then (qM (sgP a b c d) M).isEmpty else true
def mL (M : List En) (k a b c d : Int) : List (List Int) := if k = 5 then rw1 (qM (ovP a b c d) M) else if k = 6 then rw1 (qM (sgP a b c d) M) else []
def mX (M : List En) (k id : Int) (i : Nat) : Int := if k = 4 then mBnd M id i else 0
def mA (z : Bool) (M : List En) (k id a b c d : Int) : List En := if k = 1 then mInsM z M id a b c d else if k = 2 then delM id M else if k = 3 then mUpdM z M id a b c d else M
theorem mBnd_no {M : List En} {id : Int} (h : hasM M id = false) (i : Nat) : mBnd M id i = 0 := by simp only [mBnd, lkM_none h]
def c_rt_Apply : Con := ⟨30, mdRun [6] (fun l z b A B => match l with | [k, id, a, bb, c, d] => [MdIs b A B] | _ => [False]) fun l z b A B => match l with
  | [k, id, a, bb, c, d] => ⟨[.val (.int .i64 (mE z (zipM A B) k id a bb c d)), .rows (mF (zipM A B) k a bb c d) 1 (mL (zipM A B) k a bb c d), .val (.agg [.int .i64 (mX (zipM A B) k id 0), .int .i64 (mX (zipM A B) k id 1), .int .i64 (mX (zipM A B) k id 2), .int .i64 (mX (zipM A B) k id 3)])], (mA z (zipM A B) k id a bb c d).isEmpty, cA (mA z (zipM A B) k id a bb c d), cB (mA z (zipM A B) k id a bb c d)⟩
  | _ => ⟨[], b, A, B⟩⟩
set_option maxRecDepth 100000 in
set_option maxHeartbeats 40000000 in
theorem con_rt_Apply : c_rt_Apply.Ok Try.prog := by
  refine con_md Try.func30 rfl (by kernel_rfl) T_ok 2 _ _ _ (fun l z b A B hl hb hpre => ?_)
  match l, hl with
  | [k, id, a, bb, c, d], zl =>
    clear zl
    have hp0 := hpre _ (List.Mem.head _); try dsimp only at hp0
    clear hpre hl hb
    obtain ⟨M, rfl, rfl, rfl, hM, hlen⟩ := hp0
    conv => whnf
    by_cases h1 : k = 1
    · subst h1
      have d1 : decide ((1 : Int) = 1) = true := rfl
      have d2 : decide ((1 : Int) = 2) = false := rfl
      have d3 : decide ((1 : Int) = 3) = false := rfl
      have d4 : decide ((1 : Int) = 4) = false := rfl
      have d5 : decide ((1 : Int) = 5) = false := rfl
      have d6 : decide ((1 : Int) = 6) = false := rfl
      have e1 : mE z M 1 id a bb c d = mIns z M id a bb c d := rfl
      have e2 : mF M 1 a bb c d = true := rfl
      have e3 : mL M 1 a bb c d = [] := rfl
      have e4 : mA z M 1 id a bb c d = mInsM z M id a bb c d := rfl
      have e5 : ∀ i, mX M 1 id i = 0 := fun i => rfl
      refine goes_all (C := [c_rt_Insert, c_rt_Remove, c_rt_Update, c_rt_Bounds, c_rt_Query, c_rt_RayQuery]) (pl := [(12, [0, 1, 2, 3], [0, 0, 2, 7]), (13, [0, 1, 2, 3], [0, 0, 2, 7])]) T2_ok (Cons.cons con_rt_Insert (Cons.cons con_rt_Remove (Cons.cons con_rt_Update (Cons.cons con_rt_Bounds (Cons.cons con_rt_Query (Cons.cons con_rt_RayQuery (Cons.nil _))))))) mixed (by kernel_rfl) ?_
      repeat' (first | (with_reducible refine And.intro ?_ ?_) | (with_reducible intro h) | ((fail_if_success (with_reducible refine Leaf.mk ?_)); (fail_if_success (with_reducible refine VC.mk ?_)); (fail_if_success (with_reducible refine Goes.mk ?_)); (fail_if_success (with_reducible refine Again.mk ?_)); (fail_if_success (with_reducible refine Rounds.mk ?_)); (fail_if_success (with_reducible show False)); (fail_if_success (with_reducible show True)); conv => whnf))
      all_goals try with_reducible first | exact trivial | exact (bc2 d1 (by assumption)).elim | exact (bc2 (by assumption) d2).elim | exact (bc2 (by assumption) d3).elim | exact (bc2 (by assumption) d4).elim | exact (bc2 (by assumption) d5).elim | exact (bc2 (by assumption) d6).elim
      all_goals try simp only [Int.toNat_natCast, Nat.zero_add, tn_succ, Nat.reduceAdd, List.take_length, take_cA, take_cB, zip_col, cA_at, cB_at0, cB_at1, cB_at2, cB_at3, len_cA, len_cB, len_rw1, take_rw1] at *
      all_goals try with_reducible first | exact trivial | exact (bc2 d1 (by assumption)).elim | exact (bc2 (by assumption) d2).elim | exact (bc2 (by assumption) d3).elim | exact (bc2 (by assumption) d4).elim | exact (bc2 (by assumption) d5).elim | exact (bc2 (by assumption) d6).elim
      all_goals try simp only [e1, e2, e3, e4, e5]
      all_goals try (refine VC.mk ?_; first | exact trivial | (with_reducible assumption) | omega | (simp only [InR]; omega) | exact ⟨M, rfl, rfl, rfl, hM, hlen⟩ | (intro hh; rw [hh]; rfl) | exact Nat.le_refl _ | exact Or.inr trivial | exact Or.inr rfl | exact Or.inl rfl | rfl | (simp only [zip_col, len_cA, len_cB, List.length_take, List.length_append, List.length_drop, List.drop_zero, List.length_cons, List.length_nil]; omega) | (simp; done) | (simp; omega))
      all_goals try (refine Leaf.mk ?_; first | exact trivial | (with_reducible rfl) | rfl | (simp [zip_col, take_rw1, len_rw1, List.take_of_length_le, *]; done))
    by_cases h2 : k = 2
    · subst h2
      cases hr : hasM M id with
      | true =>
        have d1 : decide ((2 : Int) = 1) = false := rfl
        have d2 : decide ((2 : Int) = 2) = true := rfl
        have d3 : decide ((2 : Int) = 3) = false := rfl
        have d4 : decide ((2 : Int) = 4) = false := rfl
        have d5 : decide ((2 : Int) = 5) = false := rfl
        have d6 : decide ((2 : Int) = 6) = false := rfl
        have e1 : mE z M 2 id a bb c d = (if hasM M id = true then 1 else 0) := rfl
        have e2 : mF M 2 a bb c d = true := rfl
        have e3 : mL M 2 a bb c d = [] := rfl
        have e4 : mA z M 2 id a bb c d = delM id M := rfl
        have e5 : ∀ i, mX M 2 id i = 0 := fun i => rfl
        rw [hr] at e1
        refine goes_all (C := [c_rt_Insert, c_rt_Remove, c_rt_Update, c_rt_Bounds, c_rt_Query, c_rt_RayQuery]) (pl := [(12, [0, 1, 2, 3], [0, 0, 2, 7]), (13, [0, 1, 2, 3], [0, 0, 2, 7])]) T2_ok (Cons.cons con_rt_Insert (Cons.cons con_rt_Remove (Cons.cons con_rt_Update (Cons.cons con_rt_Bounds (Cons.cons con_rt_Query (Cons.cons con_rt_RayQuery (Cons.nil _))))))) mixed (by kernel_rfl) ?_
        repeat' (first | (with_reducible refine And.intro ?_ ?_) | (with_reducible intro h) | ((fail_if_success (with_reducible refine Leaf.mk ?_)); (fail_if_success (with_reducible refine VC.mk ?_)); (fail_if_success (with_reducible refine Goes.mk ?_)); (fail_if_success (with_reducible refine Again.mk ?_)); (fail_if_success (with_reducible refine Rounds.mk ?_)); (fail_if_success (with_reducible show False)); (fail_if_success (with_reducible show True)); conv => whnf))
        all_goals try with_reducible first | exact trivial | exact (bc2 (by assumption) d1).elim | exact (bc2 d2 (by assumption)).elim | exact (bc2 (by assumption) d3).elim | exact (bc2 (by assumption) d4).elim | exact (bc2 (by assumption) d5).elim | exact (bc2 (by assumption) d6).elim | exact (bc2 hr (by assumption)).elim
        all_goals try simp only [Int.toNat_natCast, Nat.zero_add, tn_succ, Nat.reduceAdd, List.take_length, take_cA, take_cB, zip_col, cA_at, cB_at0, cB_at1, cB_at2, cB_at3, len_cA, len_cB, len_rw1, take_rw1] at *
        all_goals try with_reducible first | exact trivial | exact (bc2 (by assumption) d1).elim | exact (bc2 d2 (by assumption)).elim | exact (bc2 (by assumption) d3).elim | exact (bc2 (by assumption) d4).elim | exact (bc2 (by assumption) d5).elim | exact (bc2 (by assumption) d6).elim | exact (bc2 hr (by assumption)).elim
        all_goals try simp only [e1, e2, e3, e4, e5]
        all_goals try (refine VC.mk ?_; first | exact trivial | (with_reducible assumption) | omega | (simp only [InR]; omega) | exact ⟨M, rfl, rfl, rfl, hM, hlen⟩ | (intro hh; rw [hh]; rfl) | exact Nat.le_refl _ | exact Or.inr trivial | exact Or.inr rfl | exact Or.inl rfl | rfl | (simp only [zip_col, len_cA, len_cB, List.length_take, List.length_append, List.length_drop, List.drop_zero, List.length_cons, List.length_nil]; omega) | (simp; done) | (simp; omega))
        all_goals try (refine Leaf.mk ?_; first | exact trivial | (with_reducible rfl) | rfl | (simp [zip_col, take_rw1, len_rw1, List.take_of_length_le, *]; done))
      | false =>
        have d1 : decide ((2 : Int) = 1) = false := rfl
        have d2 : decide ((2 : Int) = 2) = true := rfl
        have d3 : decide ((2 : Int) = 3) = false := rfl
        have d4 : decide ((2 : Int) = 4) = false := rfl
        have d5 : decide ((2 : Int) = 5) = false := rfl
        have d6 : decide ((2 : Int) = 6) = false := rfl
        have e1 : mE z M 2 id a bb c d = (if hasM M id = true then 1 else 0) := rfl
        have e2 : mF M 2 a bb c d = true := rfl
        have e3 : mL M 2 a bb c d = [] := rfl
        have e4 : mA z M 2 id a bb c d = delM id M := rfl
        have e5 : ∀ i, mX M 2 id i = 0 := fun i => rfl
        rw [hr] at e1
        refine goes_all (C := [c_rt_Insert, c_rt_Remove, c_rt_Update, c_rt_Bounds, c_rt_Query, c_rt_RayQuery]) (pl := [(12, [0, 1, 2, 3], [0, 0, 2, 7]), (13, [0, 1, 2, 3], [0, 0, 2, 7])]) T2_ok (Cons.cons con_rt_Insert (Cons.cons con_rt_Remove (Cons.cons con_rt_Update (Cons.cons con_rt_Bounds (Cons.cons con_rt_Query (Cons.cons con_rt_RayQuery (Cons.nil _))))))) mixed (by kernel_rfl) ?_
        repeat' (first | (with_reducible refine And.intro ?_ ?_) | (with_reducible intro h) | ((fail_if_success (with_reducible refine Leaf.mk ?_)); (fail_if_success (with_reducible refine VC.mk ?_)); (fail_if_success (with_reducible refine Goes.mk ?_)); (fail_if_success (with_reducible refine Again.mk ?_)); (fail_if_success (with_reducible refine Rounds.mk ?_)); (fail_if_success (with_reducible show False)); (fail_if_success (with_reducible show True)); conv => whnf))
        all_goals try with_reducible first | exact trivial | exact (bc2 (by assumption) d1).elim | exact (bc2 d2 (by assumption)).elim | exact (bc2 (by assumption) d3).elim | exact (bc2 (by assumption) d4).elim | exact (bc2 (by assumption) d5).elim | exact (bc2 (by assumption) d6).elim | exact (bc2 (by assumption) hr).elim
        all_goals try simp only [Int.toNat_natCast, Nat.zero_add, tn_succ, Nat.reduceAdd, List.take_length, take_cA, take_cB, zip_col, cA_at, cB_at0, cB_at1, cB_at2, cB_at3, len_cA, len_cB, len_rw1, take_rw1] at *
        all_goals try with_reducible first | exact trivial | exact (bc2 (by assumption) d1).elim | exact (bc2 d2 (by assumption)).elim | exact (bc2 (by assumption) d3).elim | exact (bc2 (by assumption) d4).elim | exact (bc2 (by assumption) d5).elim | exact (bc2 (by assumption) d6).elim | exact (bc2 (by assumption) hr).elim
        all_goals try simp only [e1, e2, e3, e4, e5]
        all_goals try (refine VC.mk ?_; first | exact trivial | (with_reducible assumption) | omega | (simp only [InR]; omega) | exact ⟨M, rfl, rfl, rfl, hM, hlen⟩ | (intro hh; rw [hh]; rfl) | exact Nat.le_refl _ | exact Or.inr trivial | exact Or.inr rfl | exact Or.inl rfl | rfl | (simp only [zip_col, len_cA, len_cB, List.length_take, List.length_append, List.length_drop, List.drop_zero, List.length_cons, List.length_nil]; omega) | (simp; done) | (simp; omega))
        all_goals try (refine Leaf.mk ?_; first | exact trivial | (with_reducible rfl) | rfl | (simp [zip_col, take_rw1, len_rw1, List.take_of_length_le, *]; done))
    by_cases h3 : k = 3
    · subst h3
      have d1 : decide ((3 : Int) = 1) = false := rfl
      have d2 : decide ((3 : Int) = 2) = false := rfl
      have d3 : decide ((3 : Int) = 3) = true := rfl
      have d4 : decide ((3 : Int) = 4) = false := rfl
      have d5 : decide ((3 : Int) = 5) = false := rfl
      have d6 : decide ((3 : Int) = 6) = false := rfl
      have e1 : mE z M 3 id a bb c d = mUpd z M id a bb c d := rfl
      have e2 : mF M 3 a bb c d = true := rfl
      have e3 : mL M 3 a bb c d = [] := rfl
      have e4 : mA z M 3 id a bb c d = mUpdM z M id a bb c d := rfl
      have e5 : ∀ i, mX M 3 id i = 0 := fun i => rfl
      refine goes_all (C := [c_rt_Insert, c_rt_Remove, c_rt_Update, c_rt_Bounds, c_rt_Query, c_rt_RayQuery]) (pl := [(12, [0, 1, 2, 3], [0, 0, 2, 7]), (13, [0, 1, 2, 3], [0, 0, 2, 7])]) T2_ok (Cons.cons con_rt_Insert (Cons.cons con_rt_Remove (Cons.cons con_rt_Update (Cons.cons con_rt_Bounds (Cons.cons con_rt_Query (Cons.cons con_rt_RayQuery (Cons.nil _))))))) mixed (by kernel_rfl) ?_
      repeat' (first | (with_reducible refine And.intro ?_ ?_) | (with_reducible intro h) | ((fail_if_success (with_reducible refine Leaf.mk ?_)); (fail_if_success (with_reducible refine VC.mk ?_)); (fail_if_success (with_reducible refine Goes.mk ?_)); (fail_if_success (with_reducible refine Again.mk ?_)); (fail_if_success (with_reducible refine Rounds.mk ?_)); (fail_if_success (with_reducible show False)); (fail_if_success (with_reducible show True)); conv => whnf))
      all_goals try with_reducible first | exact trivial | exact (bc2 (by assumption) d1).elim | exact (bc2 (by assumption) d2).elim | exact (bc2 d3 (by assumption)).elim | exact (bc2 (by assumption) d4).elim | exact (bc2 (by assumption) d5).elim | exact (bc2 (by assumption) d6).elim
      all_goals try simp only [Int.toNat_natCast, Nat.zero_add, tn_succ, Nat.reduceAdd, List.take_length, take_cA, take_cB, zip_col, cA_at, cB_at0, cB_at1, cB_at2, cB_at3, len_cA, len_cB, len_rw1, take_rw1] at *
      all_goals try with_reducible first | exact trivial | exact (bc2 (by assumption) d1).elim | exact (bc2 (by assumption) d2).elim | exact (bc2 d3 (by assumption)).elim | exact (bc2 (by assumption) d4).elim | exact (bc2 (by assumption) d5).elim | exact (bc2 (by assumption) d6).elim
      all_goals try simp only [e1, e2, e3, e4, e5]
      all_goals try (refine VC.mk ?_; first | exact trivial | (with_reducible assumption) | omega | (simp only [InR]; omega) | exact ⟨M, rfl, rfl, rfl, hM, hlen⟩ | (intro hh; rw [hh]; rfl) | exact Nat.le_refl _ | exact Or.inr trivial | exact Or.inr rfl | exact Or.inl rfl | rfl | (simp only [zip_col, len_cA, len_cB, List.length_take, List.length_append, List.length_drop, List.drop_zero, List.length_cons, List.length_nil]; omega) | (simp; done) | (simp; omega))
      all_goals try (refine Leaf.mk ?_; first | exact trivial | (with_reducible rfl) | rfl | (simp [zip_col, take_rw1, len_rw1, List.take_of_length_le, *]; done))
    by_cases h4 : k = 4
    · subst h4
      cases hr : hasM M id with
      | true =>
        have d1 : decide ((4 : Int) = 1) = false := rfl
        have d2 : decide ((4 : Int) = 2) = false := rfl
        have d3 : decide ((4 : Int) = 3) = false := rfl
        have d4 : decide ((4 : Int) = 4) = true := rfl
        have d5 : decide ((4 : Int) = 5) = false := rfl
        have d6 : decide ((4 : Int) = 6) = false := rfl
        have e1 : mE z M 4 id a bb c d = (if hasM M id = true then 1 else 0) := rfl
        have e2 : mF M 4 a bb c d = true := rfl
        have e3 : mL M 4 a bb c d = [] := rfl
        have e4 : mA z M 4 id a bb c d = M := rfl
        have e5 : ∀ i, mX M 4 id i = mBnd M id i := fun i => rfl
        rw [hr] at e1
        refine goes_all (C := [c_rt_Insert, c_rt_Remove, c_rt_Update, c_rt_Bounds, c_rt_Query, c_rt_RayQuery]) (pl := [(12, [0, 1, 2, 3], [0, 0, 2, 7]), (13, [0, 1, 2, 3], [0, 0, 2, 7])]) T2_ok (Cons.cons con_rt_Insert (Cons.cons con_rt_Remove (Cons.cons con_rt_Update (Cons.cons con_rt_Bounds (Cons.cons con_rt_Query (Cons.cons con_rt_RayQuery (Cons.nil _))))))) mixed (by kernel_rfl) ?_
        repeat' (first | (with_reducible refine And.intro ?_ ?_) | (with_reducible intro h) | ((fail_if_success (with_reducible refine Leaf.mk ?_)); (fail_if_success (with_reducible refine VC.mk ?_)); (fail_if_success (with_reducible refine Goes.mk ?_)); (fail_if_success (with_reducible refine Again.mk ?_)); (fail_if_success (with_reducible refine Rounds.mk ?_)); (fail_if_success (with_reducible show False)); (fail_if_success (with_reducible show True)); conv => whnf))
        all_goals try with_reducible first | exact trivial | exact (bc2 (by assumption) d1).elim | exact (bc2 (by assumption) d2).elim | exact (bc2 (by assumption) d3).elim | exact (bc2 d4 (by assumption)).elim | exact (bc2 (by assumption) d5).elim | exact (bc2 (by assumption) d6).elim | exact (bc2 hr (by assumption)).elim
        all_goals try simp only [Int.toNat_natCast, Nat.zero_add, tn_succ, Nat.reduceAdd, List.take_length, take_cA, take_cB, zip_col, cA_at, cB_at0, cB_at1, cB_at2, cB_at3, len_cA, len_cB, len_rw1, take_rw1] at *
        all_goals try with_reducible first | exact trivial | exact (bc2 (by assumption) d1).elim | exact (bc2 (by assumption) d2).elim | exact (bc2 (by assumption) d3).elim | exact (bc2 d4 (by assumption)).elim | exact (bc2 (by assumption) d5).elim | exact (bc2 (by assumption) d6).elim | exact (bc2 hr (by assumption)).elim
        all_goals try simp only [e1, e2, e3, e4, e5]
        all_goals try (refine VC.mk ?_; first | exact trivial | (with_reducible assumption) | omega | (simp only [InR]; omega) | exact ⟨M, rfl, rfl, rfl, hM, hlen⟩ | (intro hh; rw [hh]; rfl) | exact Nat.le_refl _ | exact Or.inr trivial | exact Or.inr rfl | exact Or.inl rfl | rfl | (simp only [zip_col, len_cA, len_cB, List.length_take, List.length_append, List.length_drop, List.drop_zero, List.length_cons, List.length_nil]; omega) | (simp; done) | (simp; omega))
        all_goals try (refine Leaf.mk ?_; first | exact trivial | (with_reducible rfl) | rfl | (simp [zip_col, take_rw1, len_rw1, List.take_of_length_le, *]; done))
      | false =>
        have hb := mBnd_no hr
        have d1 : decide ((4 : Int) = 1) = false := rfl
        have d2 : decide ((4 : Int) = 2) = false := rfl
        have d3 : decide ((4 : Int) = 3) = false := rfl
        have d4 : decide ((4 : Int) = 4) = true := rfl
        have d5 : decide ((4 : Int) = 5) = false := rfl
        have d6 : decide ((4 : Int) = 6) = false := rfl
        have e1 : mE z M 4 id a bb c d = (if hasM M id = true then 1 else 0) := rfl
        have e2 : mF M 4 a bb c d = true := rfl
        have e3 : mL M 4 a bb c d = [] := rfl
        have e4 : mA z M 4 id a bb c d = M := rfl
        have e5 : ∀ i, mX M 4 id i = mBnd M id i := fun i => rfl
        rw [hr] at e1
        refine goes_all (C := [c_rt_Insert, c_rt_Remove, c_rt_Update, c_rt_Bounds, c_rt_Query, c_rt_RayQuery]) (pl := [(12, [0, 1, 2, 3], [0, 0, 2, 7]), (13, [0, 1, 2, 3], [0, 0, 2, 7])]) T2_ok (Cons.cons con_rt_Insert (Cons.cons con_rt_Remove (Cons.cons con_rt_Update (Cons.cons con_rt_Bounds (Cons.cons con_rt_Query (Cons.cons con_rt_RayQuery (Cons.nil _))))))) mixed (by kernel_rfl) ?_
        repeat' (first | (with_reducible refine And.intro ?_ ?_) | (with_reducible intro h) | ((fail_if_success (with_reducible refine Leaf.mk ?_)); (fail_if_success (with_reducible refine VC.mk ?_)); (fail_if_success (with_reducible refine Goes.mk ?_)); (fail_if_success (with_reducible refine Again.mk ?_)); (fail_if_success (with_reducible refine Rounds.mk ?_)); (fail_if_success (with_reducible show False)); (fail_if_success (with_reducible show True)); conv => whnf))
        all_goals try with_reducible first | exact trivial | exact (bc2 (by assumption) d1).elim | exact (bc2 (by assumption) d2).elim | exact (bc2 (by assumption) d3).elim | exact (bc2 d4 (by assumption)).elim | exact (bc2 (by assumption) d5).elim | exact (bc2 (by assumption) d6).elim | exact (bc2 (by assumption) hr).elim
        all_goals try simp only [Int.toNat_natCast, Nat.zero_add, tn_succ, Nat.reduceAdd, List.take_length, take_cA, take_cB, zip_col, cA_at, cB_at0, cB_at1, cB_at2, cB_at3, len_cA, len_cB, len_rw1, take_rw1] at *
        all_goals try with_reducible first | exact trivial | exact (bc2 (by assumption) d1).elim | exact (bc2 (by assumption) d2).elim | exact (bc2 (by assumption) d3).elim | exact (bc2 d4 (by assumption)).elim | exact (bc2 (by assumption) d5).elim | exact (bc2 (by assumption) d6).elim | exact (bc2 (by assumption) hr).elim
        all_goals try simp only [e1, e2, e3, e4, e5]
        all_goals try (refine VC.mk ?_; first | exact trivial | (with_reducible assumption) | omega | (simp only [InR]; omega) | exact ⟨M, rfl, rfl, rfl, hM, hlen⟩ | (intro hh; rw [hh]; rfl) | exact Nat.le_refl _ | exact Or.inr trivial | exact Or.inr rfl | exact Or.inl rfl | rfl | (simp only [zip_col, len_cA, len_cB, List.length_take, List.length_append, List.length_drop, List.drop_zero, List.length_cons, List.length_nil]; omega) | (simp; done) | (simp; omega))
        all_goals try (refine Leaf.mk ?_; first | exact trivial | (with_reducible rfl) | rfl | (simp [zip_col, take_rw1, len_rw1, List.take_of_length_le, *]; done))
    by_cases h5 : k = 5
    · subst h5
      have d1 : decide ((5 : Int) = 1) = false := rfl
      have d2 : decide ((5 : Int) = 2) = false := rfl
      have d3 : decide ((5 : Int) = 3) = false := rfl
      have d4 : decide ((5 : Int) = 4) = false := rfl
      have d5 : decide ((5 : Int) = 5) = true := rfl
      have d6 : decide ((5 : Int) = 6) = false := rfl
      have e1 : mE z M 5 id a bb c d = 0 := rfl
      have e2 : mF M 5 a bb c d = (qM (ovP a bb c d) M).isEmpty := rfl
      have e3 : mL M 5 a bb c d = rw1 (qM (ovP a bb c d) M) := rfl
      have e4 : mA z M 5 id a bb c d = M := rfl
      have e5 : ∀ i, mX M 5 id i = 0 := fun i => rfl
      refine goes_all (C := [c_rt_Insert, c_rt_Remove, c_rt_Update, c_rt_Bounds, c_rt_Query, c_rt_RayQuery]) (pl := [(12, [0, 1, 2, 3], [0, 0, 2, 7]), (13, [0, 1, 2, 3], [0, 0, 2, 7])]) T2_ok (Cons.cons con_rt_Insert (Cons.cons con_rt_Remove (Cons.cons con_rt_Update (Cons.cons con_rt_Bounds (Cons.cons con_rt_Query (Cons.cons con_rt_RayQuery (Cons.nil _))))))) mixed (by kernel_rfl) ?_
      repeat' (first | (with_reducible refine And.intro ?_ ?_) | (with_reducible intro h) | ((fail_if_success (with_reducible refine Leaf.mk ?_)); (fail_if_success (with_reducible refine VC.mk ?_)); (fail_if_success (with_reducible refine Goes.mk ?_)); (fail_if_success (with_reducible refine Again.mk ?_)); (fail_if_success (with_reducible refine Rounds.mk ?_)); (fail_if_success (with_reducible show False)); (fail_if_success (with_reducible show True)); conv => whnf))
      all_goals try with_reducible first | exact trivial | exact (bc2 (by assumption) d1).elim | exact (bc2 (by assumption) d2).elim | exact (bc2 (by assumption) d3).elim | exact (bc2 (by assumption) d4).elim | exact (bc2 d5 (by assumption)).elim | exact (bc2 (by assumption) d6).elim
      all_goals try simp only [Int.toNat_natCast, Nat.zero_add, tn_succ, Nat.reduceAdd, List.take_length, take_cA, take_cB, zip_col, cA_at, cB_at0, cB_at1, cB_at2, cB_at3, len_cA, len_cB, len_rw1, take_rw1] at *
      all_goals try with_reducible first | exact trivial | exact (bc2 (by assumption) d1).elim | exact (bc2 (by assumption) d2).elim | exact (bc2 (by assumption) d3).elim | exact (bc2 (by assumption) d4).elim | exact (bc2 d5 (by assumption)).elim | exact (bc2 (by assumption) d6).elim
      all_goals try simp only [e1, e2, e3, e4, e5]
      all_goals try (refine VC.mk ?_; first | exact trivial | (with_reducible assumption) | omega | (simp only [InR]; omega) | exact ⟨M, rfl, rfl, rfl, hM, hlen⟩ | (intro hh; rw [hh]; rfl) | exact Nat.le_refl _ | exact Or.inr trivial | exact Or.inr rfl | exact Or.inl rfl | rfl | (simp only [zip_col, len_cA, len_cB, List.length_take, List.length_append, List.length_drop, List.drop_zero, List.length_cons, List.length_nil]; omega) | (simp; done) | (simp; omega))
      all_goals try (refine Leaf.mk ?_; first | exact trivial | (with_reducible rfl) | rfl | (simp [zip_col, take_rw1, len_rw1, List.take_of_length_le, *]; done))
    by_cases h6 : k = 6
    · subst h6
      have d1 : decide ((6 : Int) = 1) = false := rfl
      have d2 : decide ((6 : Int) = 2) = false := rfl
      have d3 : decide ((6 : Int) = 3) = false := rfl
      have d4 : decide ((6 : Int) = 4) = false := rfl
      have d5 : decide ((6 : Int) = 5) = false := rfl
      have d6 : decide ((6 : Int) = 6) = true := rfl
      have e1 : mE z M 6 id a bb c d = 0 := rfl
      have e2 : mF M 6 a bb c d = (qM (sgP a bb c d) M).isEmpty := rfl
      have e3 : mL M 6 a bb c d = rw1 (qM (sgP a bb c d) M) := rfl
      have e4 : mA z M 6 id a bb c d = M := rfl
      have e5 : ∀ i, mX M 6 id i = 0 := fun i => rfl
      refine goes_all (C := [c_rt_Insert, c_rt_Remove, c_rt_Update, c_rt_Bounds, c_rt_Query, c_rt_RayQuery]) (pl := [(12, [0, 1, 2, 3], [0, 0, 2, 7]), (13, [0, 1, 2, 3], [0, 0, 2, 7])]) T2_ok (Cons.cons con_rt_Insert (Cons.cons con_rt_Remove (Cons.cons con_rt_Update (Cons.cons con_rt_Bounds (Cons.cons con_rt_Query (Cons.cons con_rt_RayQuery (Cons.nil _))))))) mixed (by kernel_rfl) ?_
      repeat' (first | (with_reducible refine And.intro ?_ ?_) | (with_reducible intro h) | ((fail_if_success (with_reducible refine Leaf.mk ?_)); (fail_if_success (with_reducible refine VC.mk ?_)); (fail_if_success (with_reducible refine Goes.mk ?_)); (fail_if_success (with_reducible refine Again.mk ?_)); (fail_if_success (with_reducible refine Rounds.mk ?_)); (fail_if_success (with_reducible show False)); (fail_if_success (with_reducible show True)); conv => whnf))
      all_goals try with_reducible first | exact trivial | exact (bc2 (by assumption) d1).elim | exact (bc2 (by assumption) d2).elim | exact (bc2 (by assumption) d3).elim | exact (bc2 (by assumption) d4).elim | exact (bc2 (by assumption) d5).elim | exact (bc2 d6 (by assumption)).elim
      all_goals try simp only [Int.toNat_natCast, Nat.zero_add, tn_succ, Nat.reduceAdd, List.take_length, take_cA, take_cB, zip_col, cA_at, cB_at0, cB_at1, cB_at2, cB_at3, len_cA, len_cB, len_rw1, take_rw1] at *
      all_goals try with_reducible first | exact trivial | exact (bc2 (by assumption) d1).elim | exact (bc2 (by assumption) d2).elim | exact (bc2 (by assumption) d3).elim | exact (bc2 (by assumption) d4).elim | exact (bc2 (by assumption) d5).elim | exact (bc2 d6 (by assumption)).elim
      all_goals try simp only [e1, e2, e3, e4, e5]
      all_goals try (refine VC.mk ?_; first | exact trivial | (with_reducible assumption) | omega | (simp only [InR]; omega) | exact ⟨M, rfl, rfl, rfl, hM, hlen⟩ | (intro hh; rw [hh]; rfl) | exact Nat.le_refl _ | exact Or.inr trivial | exact Or.inr rfl | exact Or.inl rfl | rfl | (simp only [zip_col, len_cA, len_cB, List.length_take, List.length_append, List.length_drop, List.drop_zero, List.length_cons, List.length_nil]; omega) | (simp; done) | (simp; omega))
      all_goals try (refine Leaf.mk ?_; first | exact trivial | (with_reducible rfl) | rfl | (simp [zip_col, take_rw1, len_rw1, List.take_of_length_le, *]; done))
    have d1 : decide (k = 1) = false := decide_eq_false h1
    have d2 : decide (k = 2) = false := decide_eq_false h2
    have d3 : decide (k = 3) = false := decide_eq_false h3
    have d4 : decide (k = 4) = false := decide_eq_false h4
    have d5 : decide (k = 5) = false := decide_eq_false h5
    have d6 : decide (k = 6) = false := decide_eq_false h6
    have e1 : mE z M k id a bb c d = 0 := by simp [mE, mF, mL, mA, mX, h1, h2, h3, h4, h5, h6]
    have e2 : mF M k a bb c d = true := by simp [mE, mF, mL, mA, mX, h1, h2, h3, h4, h5, h6]
    have e3 : mL M k a bb c d = [] := by simp [mE, mF, mL, mA, mX, h1, h2, h3, h4, h5, h6]
    have e4 : mA z M k id a bb c d = M := by simp [mE, mF, mL, mA, mX, h1, h2, h3, h4, h5, h6]
    have e5 : ∀ i, mX M k id i = 0 := fun i => by simp [mE, mF, mL, mA, mX, h1, h2, h3, h4, h5, h6]
    refine goes_all (C := [c_rt_Insert, c_rt_Remove, c_rt_Update, c_rt_Bounds, c_rt_Query, c_rt_RayQuery]) (pl := [(12, [0, 1, 2, 3], [0, 0, 2, 7]), (13, [0, 1, 2, 3], [0, 0, 2, 7])]) T2_ok (Cons.cons con_rt_Insert (Cons.cons con_rt_Remove (Cons.cons con_rt_Update (Cons.cons con_rt_Bounds (Cons.cons con_rt_Query (Cons.cons con_rt_RayQuery (Cons.nil _))))))) mixed (by kernel_rfl) ?_
    repeat' (first | (with_reducible refine And.intro ?_ ?_) | (with_reducible intro h) | ((fail_if_success (with_reducible refine Leaf.mk ?_)); (fail_if_success (with_reducible refine VC.mk ?_)); (fail_if_success (with_reducible refine Goes.mk ?_)); (fail_if_success (with_reducible refine Again.mk ?_)); (fail_if_success (with_reducible refine Rounds.mk ?_)); (fail_if_success (with_reducible show False)); (fail_if_success (with_reducible show True)); conv => whnf))
    all_goals try with_reducible first | exact trivial | exact (bc2 (by assumption) d1).elim | exact (bc2 (by assumption) d2).elim | exact (bc2 (by assumption) d3).elim | exact (bc2 (by assumption) d4).elim | exact (bc2 (by assumption) d5).elim | exact (bc2 (by assumption) d6).elim
    all_goals try simp only [Int.toNat_natCast, Nat.zero_add, tn_succ, Nat.reduceAdd, List.take_length, take_cA, take_cB, zip_col, cA_at, cB_at0, cB_at1, cB_at2, cB_at3, len_cA, len_cB, len_rw1, take_rw1] at *
    all_goals try with_reducible first | exact trivial | exact (bc2 (by assumption) d1).elim | exact (bc2 (by assumption) d2).elim | exact (bc2 (by assumption) d3).elim | exact (bc2 (by assumption) d4).elim | exact (bc2 (by assumption) d5).elim | exact (bc2 (by assumption) d6).elim
    all_goals try simp only [e1, e2, e3, e4, e5]
    all_goals try (refine VC.mk ?_; first | exact trivial | (with_reducible assumption) | omega | (simp only [InR]; omega) | exact ⟨M, rfl, rfl, rfl, hM, hlen⟩ | (intro hh; rw [hh]; rfl) | exact Nat.le_refl _ | exact Or.inr trivial | exact Or.inr rfl | exact Or.inl rfl | rfl | (simp only [zip_col, len_cA, len_cB, List.length_take, List.length_append, List.length_drop, List.drop_zero, List.length_cons, List.length_nil]; omega) | (simp; done) | (simp; omega))
    all_goals try (refine Leaf.mk ?_; first | exact trivial | (with_reducible rfl) | rfl | (simp [zip_col, take_rw1, len_rw1, List.take_of_length_le, *]; done))

end Go.Proofs.Ytconaehajaifhaa
