/- Contracts of caromtop: pairs. -/
import Derived.Test.YtkfaflhhkmkdjaaPc
import Derived.Test.YtkfaflhhkmkdjaaEvW
import Derived.Test.YtkfaflhhkmkdjaaUA
import Derived.Test.YtkfaflhhkmkdjaaUB
import Derived.Test.YtkfaflhhkmkdjaaBq2
namespace Go.Proofs.Ytkfaflhhkmkdjaa
open Go.RowKit Fx Vx Bx Ev
set_option linter.unusedVariables false
set_option linter.unusedSimpArgs false
def cpB (xs : List (List Int)) (a b : Int) : Bool := xs.any fun r => decide (r.getD 0 0 = min a b) && decide (r.getD 1 0 = max a b)
theorem cpB_no {xs : List (List Int)} {a b : Int} {k : Nat} (hk : k < xs.length) (h : cpB (xs.take k) a b = false) (h1 : decide (at2 xs k 0 = min a b) = false ∨ decide (at2 xs k 1 = max a b) = false) : cpB (xs.take (k + 1)) a b = false := by
  unfold cpB at *
  rw [List.take_succ_eq_append_getElem hk, List.any_append, h, Bool.false_or]
  rw [at2_get hk] at h1
  rw [at2_get hk] at h1
  rcases h1 with h1 | h1 <;> simp only [List.any_cons, List.any_nil, Bool.or_false, h1, Bool.false_and, Bool.and_false]
theorem cpB_yes {xs : List (List Int)} {a b : Int} {k : Nat} (hk : k < xs.length) (h1 : decide (at2 xs k 0 = min a b) = true) (h2 : decide (at2 xs k 1 = max a b) = true) : cpB xs a b = true := by
  unfold cpB
  rw [at2_get hk] at h1 h2
  exact List.any_eq_true.2 ⟨xs[k], List.getElem_mem hk, by rw [h1, h2]; rfl⟩
def c_top_contains : Con := ⟨12, genRun [.rows 2, .num 0, .num 0] (fun l R => match l, R with | [a, b], [(bxs, xs)] => [xs.length ≤ 1000000] | _, _ => [False]) fun l R => match l, R with
  | [a, b], [(bxs, xs)] => [.val (.bool (cpB xs a b))]
  | _, _ => []⟩
set_option maxRecDepth 100000 in
set_option maxHeartbeats 4000000 in
theorem con_top_contains : c_top_contains.Ok Try.prog := by
  refine con_gen (C := []) (pl := []) Try.func12 rfl (by kernel_rfl) T_ok (Cons.nil _) mixed (by kernel_rfl) _ _ _ (fun l R hl hR hn hpre => ?_)
  match l, hl, R, hR with
  | [a, b], zl, [(true, xs)], zr =>
    clear zl zr
    obtain rfl : xs = [] := hn _ (List.Mem.head _) rfl
    have hp0 := hpre _ (List.Mem.head _); try dsimp only at hp0
    repeat' (first | (with_reducible refine And.intro ?_ ?_) | (with_reducible intro h) | ((fail_if_success (with_reducible refine Leaf.mk ?_)); (fail_if_success (with_reducible refine VC.mk ?_)); (fail_if_success (with_reducible refine Goes.mk ?_)); (fail_if_success (with_reducible refine Again.mk ?_)); (fail_if_success (with_reducible refine Rounds.mk ?_)); (fail_if_success (with_reducible show False)); (fail_if_success (with_reducible show True)); conv => whnf))
    all_goals try with_reducible exact trivial
    refine goes_inv (X := Nat) (pl := []) T_ok (Cons.nil _) mixed (by kernel_rfl)
      (fun k => (.nils :: .int .i64 a :: .int .i64 b :: .any :: .any :: .any :: .any :: .int .i64 (k : Int) :: .any :: .any :: .any :: .any :: .any :: .any :: .any :: .any :: .any :: .any :: .any :: .any :: .any :: .any :: .any :: .any :: .any :: .any :: .any :: .any :: .any :: .any :: .any :: .any :: .any :: .any :: [], [.arr false false 2 []]))
      (fun k => k ≤ 0) (fun k => 0) 0 [0] (Nat.zero_le _) ?_ ?_ ?_
    · repeat' (first | (with_reducible refine And.intro ?_ ?_) | (with_reducible intro h) | ((fail_if_success (with_reducible refine Leaf.mk ?_)); (fail_if_success (with_reducible refine VC.mk ?_)); (fail_if_success (with_reducible refine Goes.mk ?_)); (fail_if_success (with_reducible refine Again.mk ?_)); (fail_if_success (with_reducible refine Rounds.mk ?_)); (fail_if_success (with_reducible show False)); (fail_if_success (with_reducible show True)); conv => whnf))
      all_goals first | exact trivial | (refine Leaf.mk ?_; first | rfl | exact ⟨rfl, rfl⟩ | (simp; done))
    · repeat' (first | (with_reducible refine And.intro ?_ ?_) | (with_reducible intro h) | ((fail_if_success (with_reducible refine Leaf.mk ?_)); (fail_if_success (with_reducible refine VC.mk ?_)); (fail_if_success (with_reducible refine Goes.mk ?_)); (fail_if_success (with_reducible refine Again.mk ?_)); (fail_if_success (with_reducible refine Rounds.mk ?_)); (fail_if_success (with_reducible show False)); (fail_if_success (with_reducible show True)); conv => whnf))
      all_goals first | exact trivial | (refine Leaf.mk ?_; first | rfl | exact ⟨rfl, rfl⟩ | (simp; done))
    · intro k hx
      obtain rfl : k = 0 := by simpa using hx
      have hd : decide (((0 : Nat) : Int) < 0) = false := rfl
      repeat' (first | (with_reducible refine And.intro ?_ ?_) | (with_reducible intro h; try with_reducible first | exact (bcS h hd).elim) | ((fail_if_success (with_reducible refine Leaf.mk ?_)); (fail_if_success (with_reducible refine VC.mk ?_)); (fail_if_success (with_reducible refine Goes.mk ?_)); (fail_if_success (with_reducible refine Again.mk ?_)); (fail_if_success (with_reducible refine Rounds.mk ?_)); (fail_if_success (with_reducible show False)); (fail_if_success (with_reducible show True)); conv => whnf))
      all_goals try with_reducible first | exact trivial | exact (bcS (by assumption) hd).elim
      all_goals (refine Leaf.mk ?_; first | rfl | (simp; done))
  | [a, b], zl, [(false, xs)], zr =>
    clear zl zr
    have hp0 := hpre _ (List.Mem.head _); try dsimp only at hp0
    repeat' (first | (with_reducible refine And.intro ?_ ?_) | (with_reducible intro h) | ((fail_if_success (with_reducible refine Leaf.mk ?_)); (fail_if_success (with_reducible refine VC.mk ?_)); (fail_if_success (with_reducible refine Goes.mk ?_)); (fail_if_success (with_reducible refine Again.mk ?_)); (fail_if_success (with_reducible refine Rounds.mk ?_)); (fail_if_success (with_reducible show False)); (fail_if_success (with_reducible show True)); conv => whnf))
    all_goals try with_reducible exact trivial
    refine goes_invG (X := Nat) (fun k => (.sl 0 2 0 xs.length :: .int .i64 a :: .int .i64 b :: .any :: .any :: .any :: .any :: .int .i64 (k : Int) :: .any :: .any :: .any :: .any :: .any :: .any :: .any :: .any :: .any :: .any :: .any :: .any :: .any :: .any :: .any :: .any :: .any :: .any :: .any :: .any :: .any :: .any :: .any :: .any :: .any :: .any :: [], [.arr false true 2 xs])) (fun k => k ≤ xs.length ∧ cpB (xs.take k) a b = false) (fun k => xs.length - k) 0 [0] ⟨Nat.zero_le _, rfl⟩ ?_ ?_ ?_
    · repeat' (first | (with_reducible refine And.intro ?_ ?_) | (with_reducible intro h) | ((fail_if_success (with_reducible refine Leaf.mk ?_)); (fail_if_success (with_reducible refine VC.mk ?_)); (fail_if_success (with_reducible refine Goes.mk ?_)); (fail_if_success (with_reducible refine Again.mk ?_)); (fail_if_success (with_reducible refine Rounds.mk ?_)); (fail_if_success (with_reducible show False)); (fail_if_success (with_reducible show True)); conv => whnf))
      all_goals first | exact trivial | (refine Leaf.mk ?_; first | rfl | exact ⟨rfl, rfl⟩ | (simp; done))
    · repeat' (first | (with_reducible refine And.intro ?_ ?_) | (with_reducible intro h) | ((fail_if_success (with_reducible refine Leaf.mk ?_)); (fail_if_success (with_reducible refine VC.mk ?_)); (fail_if_success (with_reducible refine Goes.mk ?_)); (fail_if_success (with_reducible refine Again.mk ?_)); (fail_if_success (with_reducible refine Rounds.mk ?_)); (fail_if_success (with_reducible show False)); (fail_if_success (with_reducible show True)); conv => whnf))
      all_goals first | exact trivial | (refine Leaf.mk ?_; first | rfl | exact ⟨rfl, rfl⟩ | (simp; done))
    · intro k hx
      obtain ⟨hx1, hx2⟩ := hx
      rcases Nat.lt_or_ge k xs.length with hk | hk
      · have hd : decide ((k : Int) < (xs.length : Int)) = true := by simp; omega
        cases h1 : decide (at2 xs k 0 = min a b) with
        | false =>
          have r1 : decide (at2 xs (0 + ((k : Int)).toNat) 0 = min a b) = false := by rw [Int.toNat_natCast, Nat.zero_add]; exact h1
          have e := cpB_no (xs := xs) (a := a) (b := b) hk hx2 (Or.inl h1)
          refine goes_all (C := []) (pl := []) T_ok (Cons.nil _) mixed (by kernel_rfl) ?_
          repeat' (first | (with_reducible refine And.intro ?_ ?_) | (with_reducible intro h; try with_reducible first | exact (bcS hd h).elim | exact (bcS h r1).elim) | ((fail_if_success (with_reducible refine Leaf.mk ?_)); (fail_if_success (with_reducible refine VC.mk ?_)); (fail_if_success (with_reducible refine Goes.mk ?_)); (fail_if_success (with_reducible refine Again.mk ?_)); (fail_if_success (with_reducible refine Rounds.mk ?_)); (fail_if_success (with_reducible show False)); (fail_if_success (with_reducible show True)); conv => whnf))
          all_goals try with_reducible first | exact trivial | exact (bcS hd (by assumption)).elim | exact (bcS (by assumption) r1).elim
          all_goals try (refine VC.mk ?_; first | exact trivial | omega | (simp only [InR]; omega) | rfl)
          all_goals (refine Again.mk ⟨k + 1, [0], (by show k + 1 ≤ xs.length ∧ cpB (xs.take (k + 1)) a b = false; exact ⟨by omega, e⟩), (by show xs.length - (k + 1) < xs.length - k; omega), ?_, ?_⟩ <;> (repeat' (first | (with_reducible refine And.intro ?_ ?_) | (with_reducible intro h) | ((fail_if_success (with_reducible refine Leaf.mk ?_)); (fail_if_success (with_reducible refine VC.mk ?_)); (fail_if_success (with_reducible refine Goes.mk ?_)); (fail_if_success (with_reducible refine Again.mk ?_)); (fail_if_success (with_reducible refine Rounds.mk ?_)); (fail_if_success (with_reducible show False)); (fail_if_success (with_reducible show True)); conv => whnf))) <;> first | exact trivial | (refine Leaf.mk ?_; first | rfl | (simp; done)))
        | true =>
          have r1 : decide (at2 xs (0 + ((k : Int)).toNat) 0 = min a b) = true := by rw [Int.toNat_natCast, Nat.zero_add]; exact h1
          cases h2 : decide (at2 xs k 1 = max a b) with
          | false =>
            have r2 : decide (at2 xs (0 + ((k : Int)).toNat) 1 = max a b) = false := by rw [Int.toNat_natCast, Nat.zero_add]; exact h2
            have e := cpB_no (xs := xs) (a := a) (b := b) hk hx2 (Or.inr h2)
            refine goes_all (C := []) (pl := []) T_ok (Cons.nil _) mixed (by kernel_rfl) ?_
            repeat' (first | (with_reducible refine And.intro ?_ ?_) | (with_reducible intro h; try with_reducible first | exact (bcS hd h).elim | exact (bcS r1 h).elim | exact (bcS h r2).elim) | ((fail_if_success (with_reducible refine Leaf.mk ?_)); (fail_if_success (with_reducible refine VC.mk ?_)); (fail_if_success (with_reducible refine Goes.mk ?_)); (fail_if_success (with_reducible refine Again.mk ?_)); (fail_if_success (with_reducible refine Rounds.mk ?_)); (fail_if_success (with_reducible show False)); (fail_if_success (with_reducible show True)); conv => whnf))
            all_goals try with_reducible first | exact trivial | exact (bcS hd (by assumption)).elim | exact (bcS r1 (by assumption)).elim | exact (bcS (by assumption) r2).elim
            all_goals try (refine VC.mk ?_; first | exact trivial | omega | (simp only [InR]; omega) | rfl)
            all_goals (refine Again.mk ⟨k + 1, [0], (by show k + 1 ≤ xs.length ∧ cpB (xs.take (k + 1)) a b = false; exact ⟨by omega, e⟩), (by show xs.length - (k + 1) < xs.length - k; omega), ?_, ?_⟩ <;> (repeat' (first | (with_reducible refine And.intro ?_ ?_) | (with_reducible intro h) | ((fail_if_success (with_reducible refine Leaf.mk ?_)); (fail_if_success (with_reducible refine VC.mk ?_)); (fail_if_success (with_reducible refine Goes.mk ?_)); (fail_if_success (with_reducible refine Again.mk ?_)); (fail_if_success (with_reducible refine Rounds.mk ?_)); (fail_if_success (with_reducible show False)); (fail_if_success (with_reducible show True)); conv => whnf))) <;> first | exact trivial | (refine Leaf.mk ?_; first | rfl | (simp; done)))
          | true =>
            have r2 : decide (at2 xs (0 + ((k : Int)).toNat) 1 = max a b) = true := by rw [Int.toNat_natCast, Nat.zero_add]; exact h2
            have e := cpB_yes (xs := xs) (a := a) (b := b) hk h1 h2
            refine goes_all (C := []) (pl := []) T_ok (Cons.nil _) mixed (by kernel_rfl) ?_
            repeat' (first | (with_reducible refine And.intro ?_ ?_) | (with_reducible intro h; try with_reducible first | exact (bcS hd h).elim | exact (bcS r1 h).elim | exact (bcS r2 h).elim) | ((fail_if_success (with_reducible refine Leaf.mk ?_)); (fail_if_success (with_reducible refine VC.mk ?_)); (fail_if_success (with_reducible refine Goes.mk ?_)); (fail_if_success (with_reducible refine Again.mk ?_)); (fail_if_success (with_reducible refine Rounds.mk ?_)); (fail_if_success (with_reducible show False)); (fail_if_success (with_reducible show True)); conv => whnf))
            all_goals try with_reducible first | exact trivial | exact (bcS hd (by assumption)).elim | exact (bcS r1 (by assumption)).elim | exact (bcS r2 (by assumption)).elim
            all_goals try (refine VC.mk ?_; first | exact trivial | omega | (simp only [InR]; omega) | rfl)
            all_goals (refine Leaf.mk ?_; first | rfl | exact e.symm | (rw [e]; done))
      · obtain rfl : k = xs.length := by omega
        have hd : decide ((xs.length : Int) < (xs.length : Int)) = false := by simp
        have e : cpB xs a b = false := by rw [List.take_length] at hx2; exact hx2
        refine goes_all (C := []) (pl := []) T_ok (Cons.nil _) mixed (by kernel_rfl) ?_
        repeat' (first | (with_reducible refine And.intro ?_ ?_) | (with_reducible intro h; try with_reducible first | exact (bcS h hd).elim) | ((fail_if_success (with_reducible refine Leaf.mk ?_)); (fail_if_success (with_reducible refine VC.mk ?_)); (fail_if_success (with_reducible refine Goes.mk ?_)); (fail_if_success (with_reducible refine Again.mk ?_)); (fail_if_success (with_reducible refine Rounds.mk ?_)); (fail_if_success (with_reducible show False)); (fail_if_success (with_reducible show True)); conv => whnf))
        all_goals try with_reducible first | exact trivial | exact (bcS (by assumption) hd).elim
        all_goals (refine Leaf.mk ?_; first | rfl | exact e.symm)
def tpF (id : Int) (xs : List (List Int)) : List (List Int) := xs.filter fun r => !decide (r.getD 0 0 = id)
def apA (o id a b c d : Int) (xs : List (List Int)) : List (List Int) := tpF id xs ++ (if decide (o.tmod 3 = 2) then [] else [[id, a, b, c, d]])
theorem tpF_le (id : Int) (xs : List (List Int)) : (tpF id xs).length ≤ xs.length := List.length_filter_le _ _
theorem tpF_no {xs : List (List Int)} {id : Int} {k : Nat} (hk : k < xs.length) (h : decide (at2 xs k 0 = id) = true) : tpF id (xs.take (k + 1)) = tpF id (xs.take k) := by
  unfold tpF
  rw [List.take_succ_eq_append_getElem hk, List.filter_append]
  rw [at2_get hk] at h
  simp [h]
  simpa using h
theorem tpF_yes {xs : List (List Int)} {id : Int} {k : Nat} (hk : k < xs.length) (hl : (xs.getD k []).length = 5) (h : decide (at2 xs k 0 = id) = false) : tpF id (xs.take (k + 1)) = tpF id (xs.take k) ++ [[at2 xs k 0, at2 xs k 1, at2 xs k 2, at2 xs k 3, at2 xs k 4]] := by
  unfold tpF
  rw [List.take_succ_eq_append_getElem hk, List.filter_append]
  have hx : xs.getD k [] = xs[k] := by rw [List.getD_eq_getElem?_getD, List.getElem?_eq_getElem hk]; rfl
  rw [hx] at hl
  simp only [at2_get hk] at h ⊢
  obtain ⟨x0, x1, x2, x3, x4, h5⟩ := five _ hl
  rw [h5] at h ⊢
  have h' : ¬ x0 = id := by simpa using h
  simp [h']
def c_top_applied : Con := ⟨7, genRun [.rows 5, .mix 5] (fun l R => match l, R with | [o, id, a, b, c, d], [(bxs, xs)] => [xs.length ≤ 1000, ∀ i, i < xs.length → (xs.getD i []).length = 5, 0 ≤ o ∧ o ≤ 255] | _, _ => [False]) fun l R => match l, R with
  | [o, id, a, b, c, d], [(bxs, xs)] => [.rows (apA o id a b c d xs).isEmpty 5 (apA o id a b c d xs)]
  | _, _ => []⟩
set_option maxRecDepth 100000 in
set_option maxHeartbeats 4000000 in
theorem con_top_applied : c_top_applied.Ok Try.prog := by
  refine con_gen (C := []) (pl := [(5, [0, 1, 2, 3, 4, 5, 6, 7], [0, 0, 3, 7, 15, 0, 32, 127])]) Try.func7 rfl (by kernel_rfl) T_ok (Cons.nil _) mixed (by kernel_rfl) _ _ _ (fun l R hl hR hn hpre => ?_)
  match l, hl, R, hR with
  | [o, id, a, b, c, d], zl, [(true, xs)], zr =>
    clear zl zr
    obtain rfl : xs = [] := hn _ (List.Mem.head _) rfl
    have hp0 := hpre _ (List.Mem.head _); try dsimp only at hp0
    have hp1 := hpre _ (List.Mem.tail _ (List.Mem.head _)); try dsimp only at hp1
    have hp2 := hpre _ (List.Mem.tail _ (List.Mem.tail _ (List.Mem.head _))); try dsimp only at hp2
    repeat' (first | (with_reducible refine And.intro ?_ ?_) | (with_reducible intro h) | ((fail_if_success (with_reducible refine Leaf.mk ?_)); (fail_if_success (with_reducible refine VC.mk ?_)); (fail_if_success (with_reducible refine Goes.mk ?_)); (fail_if_success (with_reducible refine Again.mk ?_)); (fail_if_success (with_reducible refine Rounds.mk ?_)); (fail_if_success (with_reducible show False)); (fail_if_success (with_reducible show True)); conv => whnf))
    all_goals try with_reducible exact trivial
    refine goes_invG (X := Nat) (fun k => (.nils :: .any :: .any :: .ptr 1 0 :: .any :: .osl (tpF id (([] : List (List Int)).take k)).isEmpty 2 5 (tpF id (([] : List (List Int)).take k)).length :: .int .i64 (k : Int) :: .any :: .any :: .any :: .any :: .any :: .any :: .any :: .any :: .any :: .any :: .any :: .any :: .any :: .any :: .any :: .any :: .any :: .any :: .any :: .any :: .any :: .any :: .any :: .any :: .any :: .any :: .any :: .any :: .any :: .any :: .any :: .any :: .any :: .any :: [], [.arr false false 5 ([] : List (List Int)), .cells [.int .u8 o, .int .i64 id, .int .i64 a, .int .i64 b, .int .i64 c, .int .i64 d], .arr true (!(tpF id (([] : List (List Int)).take k)).isEmpty) 5 (tpF id (([] : List (List Int)).take k))])) (fun k => k ≤ ([] : List (List Int)).length) (fun k => ([] : List (List Int)).length - k) 0 [0, 1, 2] (Nat.zero_le _) ?_ ?_ ?_
    · repeat' (first | (with_reducible refine And.intro ?_ ?_) | (with_reducible intro h) | ((fail_if_success (with_reducible refine Leaf.mk ?_)); (fail_if_success (with_reducible refine VC.mk ?_)); (fail_if_success (with_reducible refine Goes.mk ?_)); (fail_if_success (with_reducible refine Again.mk ?_)); (fail_if_success (with_reducible refine Rounds.mk ?_)); (fail_if_success (with_reducible show False)); (fail_if_success (with_reducible show True)); conv => whnf))
      all_goals first | exact trivial | (refine Leaf.mk ?_; first | rfl | exact ⟨rfl, rfl⟩ | (simp; done))
    · repeat' (first | (with_reducible refine And.intro ?_ ?_) | (with_reducible intro h) | ((fail_if_success (with_reducible refine Leaf.mk ?_)); (fail_if_success (with_reducible refine VC.mk ?_)); (fail_if_success (with_reducible refine Goes.mk ?_)); (fail_if_success (with_reducible refine Again.mk ?_)); (fail_if_success (with_reducible refine Rounds.mk ?_)); (fail_if_success (with_reducible show False)); (fail_if_success (with_reducible show True)); conv => whnf))
      all_goals first | exact trivial | (refine Leaf.mk ?_; first | rfl | exact ⟨rfl, rfl⟩ | (simp; done))
    · intro k hx
      obtain rfl : k = 0 := by simpa using hx
      have hd : decide (((0 : Nat) : Int) < 0) = false := rfl
      cases h2 : decide (o.tmod 3 = 2) with
      | true =>
        have n2 : (!decide (o.tmod 3 = 2)) = false := by rw [h2]; rfl
        refine goes_all (C := []) (pl := [(5, [0, 1, 2, 3, 4, 5, 6, 7], [0, 0, 3, 7, 15, 0, 32, 127])]) T_ok (Cons.nil _) mixed (by kernel_rfl) ?_
        repeat' (first | (with_reducible refine And.intro ?_ ?_) | (with_reducible intro h; try with_reducible first | exact (bcS h hd).elim | exact (bcS h n2).elim) | ((fail_if_success (with_reducible refine Leaf.mk ?_)); (fail_if_success (with_reducible refine VC.mk ?_)); (fail_if_success (with_reducible refine Goes.mk ?_)); (fail_if_success (with_reducible refine Again.mk ?_)); (fail_if_success (with_reducible refine Rounds.mk ?_)); (fail_if_success (with_reducible show False)); (fail_if_success (with_reducible show True)); conv => whnf))
        all_goals try with_reducible first | exact trivial | exact (bcS (by assumption) hd).elim | exact (bcS (by assumption) n2).elim
        all_goals try (refine VC.mk ?_; first | exact trivial | omega | (simp only [InR]; omega) | rfl | (simp; done) | (intro hh; exact hh) | (simp [apA, tpF, h2]; done) | (simp [tpF]; done) | (intro hh; simp [hh]; done))
        all_goals (refine Leaf.mk ?_; first | rfl | (simp [apA, h2, List.take_length]; done) | (simp [apA, h2, List.take_length]; exact List.take_of_length_le (by simp)) | (simp [apA, h2, List.take_length, tpF]; done))
      | false =>
        have n2 : (!decide (o.tmod 3 = 2)) = true := by rw [h2]; rfl
        refine goes_all (C := []) (pl := [(5, [0, 1, 2, 3, 4, 5, 6, 7], [0, 0, 3, 7, 15, 0, 32, 127])]) T_ok (Cons.nil _) mixed (by kernel_rfl) ?_
        repeat' (first | (with_reducible refine And.intro ?_ ?_) | (with_reducible intro h; try with_reducible first | exact (bcS h hd).elim | exact (bcS n2 h).elim) | ((fail_if_success (with_reducible refine Leaf.mk ?_)); (fail_if_success (with_reducible refine VC.mk ?_)); (fail_if_success (with_reducible refine Goes.mk ?_)); (fail_if_success (with_reducible refine Again.mk ?_)); (fail_if_success (with_reducible refine Rounds.mk ?_)); (fail_if_success (with_reducible show False)); (fail_if_success (with_reducible show True)); conv => whnf))
        all_goals try with_reducible first | exact trivial | exact (bcS (by assumption) hd).elim | exact (bcS n2 (by assumption)).elim
        all_goals try (refine VC.mk ?_; first | exact trivial | omega | (simp only [InR]; omega) | rfl | (simp; done) | (intro hh; exact hh) | (simp [apA, tpF, h2]; done) | (simp [tpF]; done) | (intro hh; simp [hh]; done))
        all_goals (refine Leaf.mk ?_; first | rfl | (simp [apA, h2, List.take_length]; done) | (simp [apA, h2, List.take_length]; exact List.take_of_length_le (by simp)) | (simp [apA, h2, List.take_length, tpF]; done))
  | [o, id, a, b, c, d], zl, [(false, xs)], zr =>
    clear zl zr
    have hp0 := hpre _ (List.Mem.head _); try dsimp only at hp0
    have hp1 := hpre _ (List.Mem.tail _ (List.Mem.head _)); try dsimp only at hp1
    have hp2 := hpre _ (List.Mem.tail _ (List.Mem.tail _ (List.Mem.head _))); try dsimp only at hp2
    repeat' (first | (with_reducible refine And.intro ?_ ?_) | (with_reducible intro h) | ((fail_if_success (with_reducible refine Leaf.mk ?_)); (fail_if_success (with_reducible refine VC.mk ?_)); (fail_if_success (with_reducible refine Goes.mk ?_)); (fail_if_success (with_reducible refine Again.mk ?_)); (fail_if_success (with_reducible refine Rounds.mk ?_)); (fail_if_success (with_reducible show False)); (fail_if_success (with_reducible show True)); conv => whnf))
    all_goals try with_reducible exact trivial
    refine goes_invG (X := Nat) (fun k => (.sl 0 5 0 xs.length :: .any :: .any :: .ptr 1 0 :: .any :: .osl (tpF id (xs.take k)).isEmpty 2 5 (tpF id (xs.take k)).length :: .int .i64 (k : Int) :: .any :: .any :: .any :: .any :: .any :: .any :: .any :: .any :: .any :: .any :: .any :: .any :: .any :: .any :: .any :: .any :: .any :: .any :: .any :: .any :: .any :: .any :: .any :: .any :: .any :: .any :: .any :: .any :: .any :: .any :: .any :: .any :: .any :: .any :: [], [.arr false true 5 xs, .cells [.int .u8 o, .int .i64 id, .int .i64 a, .int .i64 b, .int .i64 c, .int .i64 d], .arr true (!(tpF id (xs.take k)).isEmpty) 5 (tpF id (xs.take k))])) (fun k => k ≤ xs.length) (fun k => xs.length - k) 0 [0, 1, 2] (Nat.zero_le _) ?_ ?_ ?_
    · repeat' (first | (with_reducible refine And.intro ?_ ?_) | (with_reducible intro h) | ((fail_if_success (with_reducible refine Leaf.mk ?_)); (fail_if_success (with_reducible refine VC.mk ?_)); (fail_if_success (with_reducible refine Goes.mk ?_)); (fail_if_success (with_reducible refine Again.mk ?_)); (fail_if_success (with_reducible refine Rounds.mk ?_)); (fail_if_success (with_reducible show False)); (fail_if_success (with_reducible show True)); conv => whnf))
      all_goals first | exact trivial | (refine Leaf.mk ?_; first | rfl | exact ⟨rfl, rfl⟩ | (simp; done))
    · repeat' (first | (with_reducible refine And.intro ?_ ?_) | (with_reducible intro h) | ((fail_if_success (with_reducible refine Leaf.mk ?_)); (fail_if_success (with_reducible refine VC.mk ?_)); (fail_if_success (with_reducible refine Goes.mk ?_)); (fail_if_success (with_reducible refine Again.mk ?_)); (fail_if_success (with_reducible refine Rounds.mk ?_)); (fail_if_success (with_reducible show False)); (fail_if_success (with_reducible show True)); conv => whnf))
      all_goals first | exact trivial | (refine Leaf.mk ?_; first | rfl | exact ⟨rfl, rfl⟩ | (simp; done))
    · intro k hx
      rcases Nat.lt_or_ge k xs.length with hk | hk
      · have hd : decide ((k : Int) < (xs.length : Int)) = true := by simp; omega
        have hfl : (tpF id (xs.take k)).length ≤ k := Nat.le_trans (tpF_le _ _) (by simp; omega)
        cases h1 : decide (at2 xs k 0 = id) with
        | true =>
          have r1 : decide (at2 xs (0 + ((k : Int)).toNat) 0 = id) = true := by rw [Int.toNat_natCast, Nat.zero_add]; exact h1
          have r2 : (!decide (at2 xs (0 + ((k : Int)).toNat) 0 = id)) = false := by rw [r1]; rfl
          have e := tpF_no (id := id) hk h1
          refine goes_all (C := []) (pl := [(5, [0, 1, 2, 3, 4, 5, 6, 7], [0, 0, 3, 7, 15, 0, 32, 127])]) T_ok (Cons.nil _) mixed (by kernel_rfl) ?_
          repeat' (first | (with_reducible refine And.intro ?_ ?_) | (with_reducible intro h; try with_reducible first | exact (bcS hd h).elim | exact (bcS h r2).elim) | ((fail_if_success (with_reducible refine Leaf.mk ?_)); (fail_if_success (with_reducible refine VC.mk ?_)); (fail_if_success (with_reducible refine Goes.mk ?_)); (fail_if_success (with_reducible refine Again.mk ?_)); (fail_if_success (with_reducible refine Rounds.mk ?_)); (fail_if_success (with_reducible show False)); (fail_if_success (with_reducible show True)); conv => whnf))
          all_goals try with_reducible first | exact trivial | exact (bcS hd (by assumption)).elim | exact (bcS (by assumption) r2).elim
          all_goals try (refine VC.mk ?_; first | exact trivial | omega | (simp only [InR]; omega) | rfl)
          all_goals (refine Again.mk ⟨k + 1, [0, 1, 2], (by show k + 1 ≤ xs.length; omega), (by show xs.length - (k + 1) < xs.length - k; omega), ?_, ?_⟩ <;> (repeat' (first | (with_reducible refine And.intro ?_ ?_) | (with_reducible intro h) | ((fail_if_success (with_reducible refine Leaf.mk ?_)); (fail_if_success (with_reducible refine VC.mk ?_)); (fail_if_success (with_reducible refine Goes.mk ?_)); (fail_if_success (with_reducible refine Again.mk ?_)); (fail_if_success (with_reducible refine Rounds.mk ?_)); (fail_if_success (with_reducible show False)); (fail_if_success (with_reducible show True)); conv => whnf))) <;> first | exact trivial | (refine Leaf.mk ?_; first | rfl | (rw [e]; done) | (rw [e]; exact ⟨rfl, rfl⟩) | (simp [e]; done)))
        | false =>
          have r1 : decide (at2 xs (0 + ((k : Int)).toNat) 0 = id) = false := by rw [Int.toNat_natCast, Nat.zero_add]; exact h1
          have r2 : (!decide (at2 xs (0 + ((k : Int)).toNat) 0 = id)) = true := by rw [r1]; rfl
          have e := tpF_yes (id := id) hk (hp1 k hk) h1
          refine goes_all (C := []) (pl := [(5, [0, 1, 2, 3, 4, 5, 6, 7], [0, 0, 3, 7, 15, 0, 32, 127])]) T_ok (Cons.nil _) mixed (by kernel_rfl) ?_
          repeat' (first | (with_reducible refine And.intro ?_ ?_) | (with_reducible intro h; try with_reducible first | exact (bcS hd h).elim | exact (bcS r2 h).elim) | ((fail_if_success (with_reducible refine Leaf.mk ?_)); (fail_if_success (with_reducible refine VC.mk ?_)); (fail_if_success (with_reducible refine Goes.mk ?_)); (fail_if_success (with_reducible refine Again.mk ?_)); (fail_if_success (with_reducible refine Rounds.mk ?_)); (fail_if_success (with_reducible show False)); (fail_if_success (with_reducible show True)); conv => whnf))
          all_goals try simp only [Int.toNat_natCast, Nat.zero_add] at *
          all_goals try with_reducible first | exact trivial | exact (bcS hd (by assumption)).elim | exact (bcS r2 (by assumption)).elim
          all_goals try (refine VC.mk ?_; first | exact trivial | omega | (simp only [InR]; omega) | rfl | (intro hh; exact List.isEmpty_iff.1 hh) | (intro hh; simp [hh]; done) | (simp; done))
          all_goals (refine Again.mk ⟨k + 1, [0, 1, 4], (by show k + 1 ≤ xs.length; omega), (by show xs.length - (k + 1) < xs.length - k; omega), ?_, ?_⟩ <;> (repeat' (first | (with_reducible refine And.intro ?_ ?_) | (with_reducible intro h) | ((fail_if_success (with_reducible refine Leaf.mk ?_)); (fail_if_success (with_reducible refine VC.mk ?_)); (fail_if_success (with_reducible refine Goes.mk ?_)); (fail_if_success (with_reducible refine Again.mk ?_)); (fail_if_success (with_reducible refine Rounds.mk ?_)); (fail_if_success (with_reducible show False)); (fail_if_success (with_reducible show True)); conv => whnf))) <;> first | exact trivial | (refine Leaf.mk ?_; first | rfl | (rw [e]; done) | (simp [e]; done)))
      · obtain rfl : k = xs.length := by omega
        have hd : decide ((xs.length : Int) < (xs.length : Int)) = false := by simp
        have hfl : (tpF id (xs.take xs.length)).length ≤ xs.length := Nat.le_trans (tpF_le _ _) (by simp)
        cases h2 : decide (o.tmod 3 = 2) with
        | true =>
          have n2 : (!decide (o.tmod 3 = 2)) = false := by rw [h2]; rfl
          refine goes_all (C := []) (pl := [(5, [0, 1, 2, 3, 4, 5, 6, 7], [0, 0, 3, 7, 15, 0, 32, 127])]) T_ok (Cons.nil _) mixed (by kernel_rfl) ?_
          repeat' (first | (with_reducible refine And.intro ?_ ?_) | (with_reducible intro h; try with_reducible first | exact (bcS h hd).elim | exact (bcS h n2).elim) | ((fail_if_success (with_reducible refine Leaf.mk ?_)); (fail_if_success (with_reducible refine VC.mk ?_)); (fail_if_success (with_reducible refine Goes.mk ?_)); (fail_if_success (with_reducible refine Again.mk ?_)); (fail_if_success (with_reducible refine Rounds.mk ?_)); (fail_if_success (with_reducible show False)); (fail_if_success (with_reducible show True)); conv => whnf))
          all_goals try with_reducible first | exact trivial | exact (bcS (by assumption) hd).elim | exact (bcS (by assumption) n2).elim
          all_goals try (refine VC.mk ?_; first | exact trivial | omega | (simp only [InR]; omega) | rfl | (simp; done) | (intro hh; exact hh) | (simp [apA, tpF, h2]; done) | (simp [tpF]; done) | (intro hh; simp [hh]; done))
          all_goals (refine Leaf.mk ?_; first | rfl | (simp [apA, h2, List.take_length]; done) | (simp [apA, h2, List.take_length]; exact List.take_of_length_le (by simp)) | (simp [apA, h2, List.take_length, tpF]; done))
        | false =>
          have n2 : (!decide (o.tmod 3 = 2)) = true := by rw [h2]; rfl
          refine goes_all (C := []) (pl := [(5, [0, 1, 2, 3, 4, 5, 6, 7], [0, 0, 3, 7, 15, 0, 32, 127])]) T_ok (Cons.nil _) mixed (by kernel_rfl) ?_
          repeat' (first | (with_reducible refine And.intro ?_ ?_) | (with_reducible intro h; try with_reducible first | exact (bcS h hd).elim | exact (bcS n2 h).elim) | ((fail_if_success (with_reducible refine Leaf.mk ?_)); (fail_if_success (with_reducible refine VC.mk ?_)); (fail_if_success (with_reducible refine Goes.mk ?_)); (fail_if_success (with_reducible refine Again.mk ?_)); (fail_if_success (with_reducible refine Rounds.mk ?_)); (fail_if_success (with_reducible show False)); (fail_if_success (with_reducible show True)); conv => whnf))
          all_goals try with_reducible first | exact trivial | exact (bcS (by assumption) hd).elim | exact (bcS n2 (by assumption)).elim
          all_goals try (refine VC.mk ?_; first | exact trivial | omega | (simp only [InR]; omega) | rfl | (simp; done) | (intro hh; exact hh) | (simp [apA, tpF, h2]; done) | (simp [tpF]; done) | (intro hh; simp [hh]; done))
          all_goals (refine Leaf.mk ?_; first | rfl | (simp [apA, h2, List.take_length]; done) | (simp [apA, h2, List.take_length]; exact List.take_of_length_le (by simp)) | (simp [apA, h2, List.take_length, tpF]; done))
def tpk (o : Int) : Int := if o.tmod 3 = 0 then 1 else if o.tmod 3 = 1 then 3 else 2
def tpB (tr : List (Nat × Nat)) (mp : List (List (Int × Nat))) (t : Nat) (o id a b c d : Int) : Bool := if o.tmod 3 = 0 then decide (insE tr mp t id a b c d = 0) else if o.tmod 3 = 1 then decide (updE tr mp t id a b c d = 0) else remD tr mp t id
def c_top_applyOp : Con := ⟨6, stRun false 0 0 [.np 1, .mix 5] (fun l N H _ _ => match l, N, H with | [o, id, a, b, c, d], [t], ⟨nd, tr, mp⟩ => [0 ≤ o ∧ o ≤ 255, ApOK nd tr mp t (tpk o) id a b c d] | _, _, _ => [False]) fun l N H _ _ => match l, N, H with
  | [o, id, a, b, c, d], [t], ⟨nd, tr, mp⟩ => ⟨[.val (.bool (tpB tr mp t o id a b c d))], ⟨(apH nd tr mp t (tpk o) id a b c d).nd, (apH nd tr mp t (tpk o) id a b c d).tr, (apH nd tr mp t (tpk o) id a b c d).mp⟩⟩
  | _, _, _ => ⟨[], ⟨[], [], []⟩⟩⟩
set_option maxRecDepth 100000 in
set_option maxHeartbeats 2000000 in
theorem con_top_applyOp : c_top_applyOp.Ok Try.prog := by
  refine con_st (C := [c_Insert, c_Update, c_Remove]) (pl := []) Try.func6 rfl (by kernel_rfl) T_ok (Cons.cons con_Insert (Cons.cons con_Update (Cons.cons con_Remove (Cons.nil _)))) mixed (by kernel_rfl) false 0 0 _ _ _ (fun l N H b xs hl hN hbx hpre => ?_)
  match l, hl, N, hN, H with
  | [o, id, a, b, c, d], zl, [t], zN, ⟨nd, tr, mp⟩ =>
    clear zl zN
    have hp0 := hpre _ (List.Mem.head _); try dsimp only at hp0
    have hp1 := hpre _ (List.Mem.tail _ (List.Mem.head _)); try dsimp only at hp1
    clear hpre hl hN hbx
    cases h0 : decide (o.tmod 3 = 0) with
    | true =>
      have k1 : tpk o = 1 := by simp [tpk, of_decide_eq_true h0]
      have q := hp1.o1 k1
      have g0 := of_decide_eq_true h0
      have g1 : ¬ o.tmod 3 = 1 := by omega
      have h1 : decide (o.tmod 3 = 1) = false := by have := of_decide_eq_true h0; simp; omega
      repeat' (first | (with_reducible refine And.intro ?_ ?_) | (with_reducible intro h; try with_reducible first | exact (bcS h0 h).elim | exact (bcS h h1).elim) | ((fail_if_success (with_reducible refine Leaf.mk ?_)); (fail_if_success (with_reducible refine VC.mk ?_)); (fail_if_success (with_reducible refine Goes.mk ?_)); (fail_if_success (with_reducible refine Again.mk ?_)); (fail_if_success (with_reducible refine Rounds.mk ?_)); (fail_if_success (with_reducible show False)); (fail_if_success (with_reducible show True)); conv => whnf))
      all_goals try with_reducible first | exact trivial | exact (bcS h0 (by assumption)).elim | exact (bcS (by assumption) h1).elim
      all_goals try (refine VC.mk ?_; first | (with_reducible assumption) | decide | omega | (simp only [InR]; omega))
      all_goals (refine Leaf.mk ?_; first | (with_reducible rfl) | (simp only [tpB, k1, apH]; simp [insH, updH, remH, g0, g1]; done) | (simp [tpB, g0, g1]; done))
    | false =>
      cases h1 : decide (o.tmod 3 = 1) with
      | true =>
        have k1 : tpk o = 3 := by have := of_decide_eq_true h1; simp [tpk, this]
        have q := hp1.o3 k1
        have g0 := of_decide_eq_false h0
        have g1 := of_decide_eq_true h1
        repeat' (first | (with_reducible refine And.intro ?_ ?_) | (with_reducible intro h; try with_reducible first | exact (bcS h h0).elim | exact (bcS h1 h).elim) | ((fail_if_success (with_reducible refine Leaf.mk ?_)); (fail_if_success (with_reducible refine VC.mk ?_)); (fail_if_success (with_reducible refine Goes.mk ?_)); (fail_if_success (with_reducible refine Again.mk ?_)); (fail_if_success (with_reducible refine Rounds.mk ?_)); (fail_if_success (with_reducible show False)); (fail_if_success (with_reducible show True)); conv => whnf))
        all_goals try with_reducible first | exact trivial | exact (bcS (by assumption) h0).elim | exact (bcS h1 (by assumption)).elim
        all_goals try (refine VC.mk ?_; first | (with_reducible assumption) | decide | omega | (simp only [InR]; omega))
        all_goals (refine Leaf.mk ?_; first | (with_reducible rfl) | (simp only [tpB, k1, apH]; simp [insH, updH, remH, g0, g1]; done) | (simp [tpB, g0, g1]; done))
      | false =>
        have k1 : tpk o = 2 := by have a := of_decide_eq_false h0; have b := of_decide_eq_false h1; simp [tpk, a, b]
        have q := hp1.o2 k1
        have g0 := of_decide_eq_false h0
        have g1 := of_decide_eq_false h1
        repeat' (first | (with_reducible refine And.intro ?_ ?_) | (with_reducible intro h; try with_reducible first | exact (bcS h h0).elim | exact (bcS h h1).elim) | ((fail_if_success (with_reducible refine Leaf.mk ?_)); (fail_if_success (with_reducible refine VC.mk ?_)); (fail_if_success (with_reducible refine Goes.mk ?_)); (fail_if_success (with_reducible refine Again.mk ?_)); (fail_if_success (with_reducible refine Rounds.mk ?_)); (fail_if_success (with_reducible show False)); (fail_if_success (with_reducible show True)); conv => whnf))
        all_goals try with_reducible first | exact trivial | exact (bcS (by assumption) h0).elim | exact (bcS (by assumption) h1).elim
        all_goals try (refine VC.mk ?_; first | (with_reducible assumption) | decide | omega | (simp only [InR]; omega))
        all_goals (refine Leaf.mk ?_; first | (with_reducible rfl) | (simp only [tpB, k1, apH]; simp [insH, updH, remH, g0, g1]; done) | (simp [tpB, g0, g1]; done))

end Go.Proofs.Ytkfaflhhkmkdjaa
