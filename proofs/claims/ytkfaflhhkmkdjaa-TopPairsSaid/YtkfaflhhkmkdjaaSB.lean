/- Contract of package sap: sorting. -/
import Derived.Test.YtkfaflhhkmkdjaaSS
import Derived.Test.YtkfaflhhkmkdjaaKA
import Derived.Test.YtkfaflhhkmkdjaaEvW
import Derived.Test.YtkfaflhhkmkdjaaUX
import Derived.Test.YtkfaflhhkmkdjaaBx
namespace Go.Proofs.Ytkfaflhhkmkdjaa
open Go.RowKit Fx Vx Bx Ev
set_option linter.unusedVariables false
set_option linter.unusedSimpArgs false
theorem bcS2 {b : Bool} (h : b = true) (h2 : b = false) : False := by cases b <;> simp_all
def nodI : List (List Int) → Bool
  | [] => true
  | x :: r => (r.all fun y => !decide (y.getD 0 0 = x.getD 0 0)) && nodI r
def vldI (xs : List (List Int)) : Bool := xs.all fun x => Nat.beq x.length 5 && validB (x.getD 1 0) (x.getD 2 0) (x.getD 3 0) (x.getD 4 0)
def metE (xs : List (List Int)) : Nat → List (Int × Bool)
  | 0 => []
  | k + 1 => putB (metE xs k) (at2 xs k 0) true
theorem vldI_row {xs : List (List Int)} (h : vldI xs = true) {k : Nat} (hk : k < xs.length) : xs[k].length = 5 ∧ validB (xs[k].getD 1 0) (xs[k].getD 2 0) (xs[k].getD 3 0) (xs[k].getD 4 0) = true := by
  unfold vldI at h
  have := List.all_eq_true.1 h xs[k] (List.getElem_mem hk)
  simp only [Bool.and_eq_true] at this
  exact ⟨Nat.eq_of_beq_eq_true this.1, this.2⟩
theorem at2_get {xs : List (List Int)} {k : Nat} (hk : k < xs.length) (j : Nat) : at2 xs k j = xs[k].getD j 0 := by
  unfold at2; rw [show xs.getD k [] = xs[k] from by rw [List.getD_eq_getElem?_getD, List.getElem?_eq_getElem hk]; rfl]
theorem vldI_at {xs : List (List Int)} (h : vldI xs = true) {k : Nat} (hk : k < xs.length) : validB (at2 xs k 1) (at2 xs k 2) (at2 xs k 3) (at2 xs k 4) = true := by
  simp only [at2_get hk]; exact (vldI_row h hk).2
theorem take_5 {xs : List (List Int)} (h : vldI xs = true) {k : Nat} (hk : k < xs.length) : xs.take (k + 1) = xs.take k ++ [[at2 xs k 0, at2 xs k 1, at2 xs k 2, at2 xs k 3, at2 xs k 4]] := by
  rw [List.take_succ_eq_append_getElem hk]
  congr 2
  simp only [at2_get hk]
  obtain ⟨a, b, c, d, e, h5⟩ := five _ (vldI_row h hk).1
  rw [h5]; rfl
theorem lookB_put : ∀ (es : List (Int × Bool)) (n m : Int), lookB (putB es n true) m = (decide (m = n) || lookB es m)
  | [], n, m => by
    simp only [putB, lookB]
    cases decide (m = n) <;> rfl
  | (k, b) :: r, n, m => by
    simp only [putB]
    cases h1 : decide (n = k) with
    | true =>
      obtain rfl := of_decide_eq_true h1
      simp only [cond_true, lookB]
      cases decide (m = n) <;> simp
    | false =>
      simp only [cond_false, lookB, lookB_put r n m]
      cases h2 : decide (m = k) with
      | true =>
        obtain rfl := of_decide_eq_true h2
        have : decide (m = n) = false := by rw [decide_eq_false_iff_not] at *; exact fun e => h1 e.symm
        simp [this]
      | false => simp
theorem nodI_at : ∀ {xs : List (List Int)}, nodI xs = true → ∀ {i j : Nat} (hj : j < xs.length) (hij : i < j), at2 xs i 0 ≠ at2 xs j 0
  | [], _, i, j, hj, _ => by cases hj
  | x :: r, h, i, j + 1, hj, hij => by
    simp only [nodI, Bool.and_eq_true] at h
    have hj' : j < r.length := by simpa using hj
    cases i with
    | zero =>
      have := List.all_eq_true.1 h.1 r[j] (List.getElem_mem hj')
      have e1 : at2 (x :: r) (j + 1) 0 = r[j].getD 0 0 := by rw [at2_get hj]; rfl
      have e2 : at2 (x :: r) 0 0 = x.getD 0 0 := rfl
      rw [e1, e2]
      simp at this
      intro e; exact this e.symm
    | succ i => exact nodI_at h.2 hj' (by omega)
theorem srtK_length (xs : List (List Int)) : (srtK cfE 5 xs).length = xs.length := by
  unfold srtK; rw [Array.length_toList, srtA_size law_sortE.swo]; simp
theorem srtK_nil : srtK cfE 5 [] = [] := List.eq_nil_of_length_eq_zero (srtK_length [])
theorem metE_look {xs : List (List Int)} (h : nodI xs = true) {k : Nat} (hk : k < xs.length) : lookB (metE xs k) (at2 xs k 0) = false := by
  have : ∀ i, i ≤ k → lookB (metE xs i) (at2 xs k 0) = false := by
    intro i
    induction i with
    | zero => intro _; rfl
    | succ i ih =>
      intro hi
      rw [metE, lookB_put, ih (by omega), Bool.or_false, decide_eq_false_iff_not]
      exact fun e => nodI_at h hk (show i < k by omega) e.symm
  exact this k (Nat.le_refl _)
def c_sap_Sort : Con := ⟨20, genRun [.rows 5] (fun l R => match l, R with | [], [(bxs, xs)] => [nodI xs = true, vldI xs = true, xs.length ≤ 1000000] | _, _ => [False]) fun l R => match l, R with
  | [], [(bxs, xs)] => [.rows xs.isEmpty 5 (srtK cfE 5 xs)]
  | _, _ => []⟩
set_option maxRecDepth 100000 in
set_option maxHeartbeats 1000000 in
theorem con_sap_Sort : c_sap_Sort.Ok Try.prog := by
  refine con_gen (C := [c_aabb_Valid, c_sortE]) (pl := []) Try.func20 rfl (by kernel_rfl) T_ok (Cons.cons con_aabb_Valid (Cons.cons con_sortE (Cons.nil _))) mixed (by kernel_rfl) _ _ _ (fun l R hl hR hn hpre => ?_)
  match l, hl, R, hR with
  | [], zl, [(true, xs)], zr =>
    clear zl zr
    obtain rfl : xs = [] := hn _ (List.Mem.head _) rfl
    have hp0 := hpre _ (List.Mem.head _); try dsimp only at hp0
    have hp1 := hpre _ (List.Mem.tail _ (List.Mem.head _)); try dsimp only at hp1
    have hp2 := hpre _ (List.Mem.tail _ (List.Mem.tail _ (List.Mem.head _))); try dsimp only at hp2
    repeat' (first | (with_reducible refine And.intro ?_ ?_) | (with_reducible intro h) | ((fail_if_success (with_reducible refine Leaf.mk ?_)); (fail_if_success (with_reducible refine VC.mk ?_)); (fail_if_success (with_reducible refine Goes.mk ?_)); (fail_if_success (with_reducible refine Again.mk ?_)); (fail_if_success (with_reducible refine Rounds.mk ?_)); (fail_if_success (with_reducible show False)); (fail_if_success (with_reducible show True)); conv => whnf))
    all_goals try with_reducible exact trivial
    refine goes_inv (X := Nat) (pl := []) T_ok (Cons.cons con_aabb_Valid (Cons.cons con_sortE (Cons.nil _))) mixed (by kernel_rfl)
      (fun k => (.any :: .any :: .any :: .osl (decide (k = 0)) 2 5 k :: .bm 1 :: .any :: .any :: .any :: .nils :: .lit .i64 0 :: .int .i64 (k : Int) :: .any :: .any :: .any :: .any :: .any :: .any :: .any :: .any :: .any :: .any :: .any :: .any :: .any :: .any :: .any :: .any :: .any :: .any :: .any :: .any :: .any :: .any :: .any :: .any :: [], [.arr false false 5 [], .mapb (metE [] k), .arr true (!decide (k = 0)) 5 ([].take k)]))
      (fun k => k ≤ 0) (fun k => 0) 0 [0, 1, 2] (Nat.zero_le _) ?_ ?_ ?_
    · repeat' (first | (with_reducible refine And.intro ?_ ?_) | (with_reducible intro h) | ((fail_if_success (with_reducible refine Leaf.mk ?_)); (fail_if_success (with_reducible refine VC.mk ?_)); (fail_if_success (with_reducible refine Goes.mk ?_)); (fail_if_success (with_reducible refine Again.mk ?_)); (fail_if_success (with_reducible refine Rounds.mk ?_)); (fail_if_success (with_reducible show False)); (fail_if_success (with_reducible show True)); conv => whnf))
      all_goals first | exact trivial | (refine Leaf.mk ?_; first | rfl | exact ⟨rfl, rfl⟩ | (simp; done))
    · repeat' (first | (with_reducible refine And.intro ?_ ?_) | (with_reducible intro h) | ((fail_if_success (with_reducible refine Leaf.mk ?_)); (fail_if_success (with_reducible refine VC.mk ?_)); (fail_if_success (with_reducible refine Goes.mk ?_)); (fail_if_success (with_reducible refine Again.mk ?_)); (fail_if_success (with_reducible refine Rounds.mk ?_)); (fail_if_success (with_reducible show False)); (fail_if_success (with_reducible show True)); conv => whnf))
      all_goals first | exact trivial | (refine Leaf.mk ?_; first | rfl | exact ⟨rfl, rfl⟩ | (simp; done))
    · intro k hx
      obtain rfl : k = 0 := by simpa using hx
      have hd : decide (((0 : Nat) : Int) < 0) = false := rfl
      repeat' (first | (with_reducible refine And.intro ?_ ?_) | (with_reducible intro h; try with_reducible first | exact (bcS h hd).elim) | ((fail_if_success (with_reducible refine Leaf.mk ?_)); (fail_if_success (with_reducible refine VC.mk ?_)); (fail_if_success (with_reducible refine Goes.mk ?_)); (fail_if_success (with_reducible refine Again.mk ?_)); (fail_if_success (with_reducible refine Rounds.mk ?_)); (fail_if_success (with_reducible show False)); (fail_if_success (with_reducible show True)); conv => whnf))
      all_goals try with_reducible first | exact trivial | exact (bcS (by assumption) hd).elim
      all_goals try (refine VC.mk ?_; first | rfl | omega | (simp; done))
      all_goals (refine Leaf.mk ?_; first | rfl | exact srtK_nil.symm | (rw [srtK_nil]; first | rfl | (simp; done)))
  | [], zl, [(false, xs)], zr =>
    clear zl zr
    have hp0 := hpre _ (List.Mem.head _); try dsimp only at hp0
    have hp1 := hpre _ (List.Mem.tail _ (List.Mem.head _)); try dsimp only at hp1
    have hp2 := hpre _ (List.Mem.tail _ (List.Mem.tail _ (List.Mem.head _))); try dsimp only at hp2
    repeat' (first | (with_reducible refine And.intro ?_ ?_) | (with_reducible intro h) | ((fail_if_success (with_reducible refine Leaf.mk ?_)); (fail_if_success (with_reducible refine VC.mk ?_)); (fail_if_success (with_reducible refine Goes.mk ?_)); (fail_if_success (with_reducible refine Again.mk ?_)); (fail_if_success (with_reducible refine Rounds.mk ?_)); (fail_if_success (with_reducible show False)); (fail_if_success (with_reducible show True)); conv => whnf))
    all_goals try with_reducible exact trivial
    refine goes_invG (X := Nat) (fun k => (.any :: .any :: .any :: .osl (decide (k = 0)) 2 5 k :: .bm 1 :: .any :: .any :: .any :: .sl 0 5 0 xs.length :: .int .i64 (xs.length : Int) :: .int .i64 (k : Int) :: .any :: .any :: .any :: .any :: .any :: .any :: .any :: .any :: .any :: .any :: .any :: .any :: .any :: .any :: .any :: .any :: .any :: .any :: .any :: .any :: .any :: .any :: .any :: .any :: [], [.arr false true 5 xs, .mapb (metE xs k), .arr true (!decide (k = 0)) 5 (xs.take k)])) (fun k => k ≤ xs.length) (fun k => xs.length - k) 0 [0, 1, 2] (Nat.zero_le _) ?_ ?_ ?_
    · repeat' (first | (with_reducible refine And.intro ?_ ?_) | (with_reducible intro h) | ((fail_if_success (with_reducible refine Leaf.mk ?_)); (fail_if_success (with_reducible refine VC.mk ?_)); (fail_if_success (with_reducible refine Goes.mk ?_)); (fail_if_success (with_reducible refine Again.mk ?_)); (fail_if_success (with_reducible refine Rounds.mk ?_)); (fail_if_success (with_reducible show False)); (fail_if_success (with_reducible show True)); conv => whnf))
      all_goals first | exact trivial | (refine Leaf.mk ?_; first | rfl | exact ⟨rfl, rfl⟩ | (simp; done))
    · repeat' (first | (with_reducible refine And.intro ?_ ?_) | (with_reducible intro h) | ((fail_if_success (with_reducible refine Leaf.mk ?_)); (fail_if_success (with_reducible refine VC.mk ?_)); (fail_if_success (with_reducible refine Goes.mk ?_)); (fail_if_success (with_reducible refine Again.mk ?_)); (fail_if_success (with_reducible refine Rounds.mk ?_)); (fail_if_success (with_reducible show False)); (fail_if_success (with_reducible show True)); conv => whnf))
      all_goals first | exact trivial | (refine Leaf.mk ?_; first | rfl | exact ⟨rfl, rfl⟩ | (simp; done))
    · intro k hx
      rcases Nat.lt_or_ge k xs.length with hk | hk
      · have hd : decide ((k : Int) < (xs.length : Int)) = true := by simp; omega
        have hv : validB (at2 xs k 1) (at2 xs k 2) (at2 xs k 3) (at2 xs k 4) = true := vldI_at hp1 hk
        have hl : lookB (metE xs k) (at2 xs k 0) = false := metE_look hp0 hk
        have hl2 : (!lookB (metE xs k) (at2 xs k 0)) = true := by rw [hl]; rfl
        have e : xs.take (k + 1) = xs.take k ++ [[at2 xs k 0, at2 xs k 1, at2 xs k 2, at2 xs k 3, at2 xs k 4]] := take_5 hp1 hk
        have hlt : (xs.take k).length = k := by rw [List.length_take]; omega
        refine goes_all (C := [c_aabb_Valid, c_sortE]) (pl := []) T_ok (Cons.cons con_aabb_Valid (Cons.cons con_sortE (Cons.nil _))) mixed (by kernel_rfl) ?_
        repeat' (first | (with_reducible refine And.intro ?_ ?_) | (with_reducible intro h; try with_reducible first | exact (bcS hd h).elim | exact (bcS hv h).elim | exact (bcS h hl).elim | exact (bcS hl2 h).elim) | ((fail_if_success (with_reducible refine Leaf.mk ?_)); (fail_if_success (with_reducible refine VC.mk ?_)); (fail_if_success (with_reducible refine Goes.mk ?_)); (fail_if_success (with_reducible refine Again.mk ?_)); (fail_if_success (with_reducible refine Rounds.mk ?_)); (fail_if_success (with_reducible show False)); (fail_if_success (with_reducible show True)); conv => whnf))
        all_goals try simp only [Int.toNat_natCast, Nat.zero_add] at *
        all_goals try with_reducible first | exact trivial | exact (bcS hd (by assumption)).elim | exact (bcS hv (by assumption)).elim | exact (bcS hl2 (by assumption)).elim
        all_goals try (refine VC.mk ?_; first | exact trivial | omega | (simp only [InR]; omega) | rfl | (rw [hlt]; done) | (intro hh; obtain rfl := of_decide_eq_true hh; rfl) | (intro hh; simp [hh]; done) | (simp; done))
        all_goals (refine Again.mk ⟨k + 1, [0, 1, 5], (by show k + 1 ≤ xs.length; omega), (by show xs.length - (k + 1) < xs.length - k; omega), ?_, ?_⟩ <;> (repeat' (first | (with_reducible refine And.intro ?_ ?_) | (with_reducible intro h) | ((fail_if_success (with_reducible refine Leaf.mk ?_)); (fail_if_success (with_reducible refine VC.mk ?_)); (fail_if_success (with_reducible refine Goes.mk ?_)); (fail_if_success (with_reducible refine Again.mk ?_)); (fail_if_success (with_reducible refine Rounds.mk ?_)); (fail_if_success (with_reducible show False)); (fail_if_success (with_reducible show True)); conv => whnf))) <;> first | exact trivial | (refine Leaf.mk ?_; first | rfl | (rw [e, List.take_take, Nat.min_self]; refine ⟨?_, ?_⟩ <;> simp <;> done) | (rw [e]; simp; done) | (simp; done) | (simp [e, List.take_take]; done)))
      · obtain rfl : k = xs.length := by omega
        have hd : decide ((xs.length : Int) < (xs.length : Int)) = false := by simp
        have ht : (xs.take xs.length) = xs := List.take_length
        cases hz : decide (xs.length = 0) with
        | true =>
          have h0 : xs = [] := by simpa using hz
          refine goes_all (C := [c_aabb_Valid, c_sortE]) (pl := []) T_ok (Cons.cons con_aabb_Valid (Cons.cons con_sortE (Cons.nil _))) mixed (by kernel_rfl) ?_
          repeat' (first | (with_reducible refine And.intro ?_ ?_) | (with_reducible intro h; try with_reducible first | exact (bcS h hd).elim) | ((fail_if_success (with_reducible refine Leaf.mk ?_)); (fail_if_success (with_reducible refine VC.mk ?_)); (fail_if_success (with_reducible refine Goes.mk ?_)); (fail_if_success (with_reducible refine Again.mk ?_)); (fail_if_success (with_reducible refine Rounds.mk ?_)); (fail_if_success (with_reducible show False)); (fail_if_success (with_reducible show True)); conv => whnf))
          all_goals try with_reducible first | exact trivial | exact (bcS (by assumption) hd).elim
          all_goals try (refine VC.mk ?_; first | rfl | omega | (simp; done) | (rw [h0]; intro hh; exact absurd hh (by simp)))
          all_goals (refine Leaf.mk ?_; rw [h0]; first | rfl | (rw [srtK_nil]; rfl) | (simp [srtK_nil]; done))
        | false =>
          have h0 : 0 < xs.length := by simp at hz; cases xs with | nil => exact absurd rfl hz | cons => simp
          have h1 : xs.isEmpty = false := by cases xs with | nil => simp at h0 | cons => rfl
          refine goes_all (C := [c_aabb_Valid, c_sortE]) (pl := []) T_ok (Cons.cons con_aabb_Valid (Cons.cons con_sortE (Cons.nil _))) mixed (by kernel_rfl) ?_
          repeat' (first | (with_reducible refine And.intro ?_ ?_) | (with_reducible intro h; try with_reducible first | exact (bcS h hd).elim) | ((fail_if_success (with_reducible refine Leaf.mk ?_)); (fail_if_success (with_reducible refine VC.mk ?_)); (fail_if_success (with_reducible refine Goes.mk ?_)); (fail_if_success (with_reducible refine Again.mk ?_)); (fail_if_success (with_reducible refine Rounds.mk ?_)); (fail_if_success (with_reducible show False)); (fail_if_success (with_reducible show True)); conv => whnf))
          all_goals try with_reducible first | exact trivial | exact (bcS (by assumption) hd).elim
          all_goals try (refine VC.mk ?_; first | rfl | omega | (rw [ht]; first | rfl | omega | (rw [srtK_length]; exact Nat.le_refl _)) | (simp; done))
          all_goals (refine Leaf.mk ?_; first | rfl | (rw [h1]; done) | (rw [ht, List.take_of_length_le (Nat.le_of_eq (srtK_length _))]; done) | (simp [ht, h1]; done))

end Go.Proofs.Ytkfaflhhkmkdjaa
