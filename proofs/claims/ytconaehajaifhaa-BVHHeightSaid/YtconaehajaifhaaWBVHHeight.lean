/- The walk of caromlaw20.BVHHeight. -/
import Derived.Test.YtconaehajaifhaaUE
import Derived.Test.YtconaehajaifhaaBB
namespace Go.Proofs.Ytconaehajaifhaa
open Go.RowKit Fx Vx Bx Ev
set_option linter.unusedVariables false
set_option linter.unusedSimpArgs false
set_option maxRecDepth 100000 in
set_option maxHeartbeats 8000000 in
theorem main_BVHHeight (N R : Nat) (s : Int) (hN : N ≤ 255) (hR : R ≤ 255) (hs : -32768 ≤ s ∧ s ≤ 32767) (w : World) :
    Calls Try.prog 3 #[.int .u8 (N : Int), .int .i16 s, .int .u8 (R : Int)] w fun e w' => e = .returned (.bool true) ∧ Below w.heap.size w w' := by
  refine law_stG Try.func3 rfl T_ok (ss := [.int .u8 (N : Int), .int .i16 s, .int .u8 (R : Int)]) (hs := []) ?_ (mf := fun i => if i = 0 then some ⟨0, 0, 0⟩ else none) (vs := [.int .u8 (N : Int), .int .i16 s, .int .u8 (R : Int)]) ⟨rfl, rfl, rfl, trivial⟩ (by simp) (fun i => trivial) (fun i => rfl) (fun i H h => by cases h) (fun i h => by by_cases e : i = 0 <;> simp_all)
  conv => whnf
  refine goes_cut (C := []) (pl := []) T_ok (Cons.nil _) mixed (by kernel_rfl) ?_
  repeat' (first | (with_reducible refine And.intro ?_ ?_) | (with_reducible intro h) | ((fail_if_success (with_reducible refine Leaf.mk ?_)); (fail_if_success (with_reducible refine VC.mk ?_)); (fail_if_success (with_reducible refine Goes.mk ?_)); (fail_if_success (with_reducible refine Again.mk ?_)); (fail_if_success (with_reducible refine Rounds.mk ?_)); (fail_if_success (with_reducible show False)); (fail_if_success (with_reducible show True)); conv => whnf))
  refine goes_cut (C := [c_New]) (pl := []) T_ok (Cons.cons con_New (Cons.nil _)) mixed (by kernel_rfl) ?_
  repeat' (first | (with_reducible refine And.intro ?_ ?_) | (with_reducible intro h) | ((fail_if_success (with_reducible refine Leaf.mk ?_)); (fail_if_success (with_reducible refine VC.mk ?_)); (fail_if_success (with_reducible refine Goes.mk ?_)); (fail_if_success (with_reducible refine Again.mk ?_)); (fail_if_success (with_reducible refine Rounds.mk ?_)); (fail_if_success (with_reducible show False)); (fail_if_success (with_reducible show True)); conv => whnf))
  refine goes_cut (C := [c_law20_unitBox, pin c_Insert (.lit .i64 0)]) (pl := []) T_ok (Cons.cons con_law20_unitBox (Cons.cons (pin_ok con_Insert _) (Cons.nil _))) mixed (by kernel_rfl) ?_
  repeat' (first | (with_reducible refine And.intro ?_ ?_) | (with_reducible intro h) | ((fail_if_success (with_reducible refine Leaf.mk ?_)); (fail_if_success (with_reducible refine VC.mk ?_)); (fail_if_success (with_reducible refine Goes.mk ?_)); (fail_if_success (with_reducible refine Again.mk ?_)); (fail_if_success (with_reducible refine Rounds.mk ?_)); (fail_if_success (with_reducible show False)); (fail_if_success (with_reducible show True)); conv => whnf))
  refine goes_inv (X := (Nat × List Nd × List (Nat × Nat) × List (List (Int × Nat)))) (C := [c_law20_unitBox, pin c_Insert (.lit .i64 0)]) (pl := []) T_ok (Cons.cons con_law20_unitBox (Cons.cons (pin_ok con_Insert _) (Cons.nil _))) mixed (by kernel_rfl)
    (fun x => (.int .u8 (N : Int) :: .int .i16 s :: .int .u8 (R : Int) :: .any :: .any :: .any :: .any :: .np 0 1 1 0 :: .int .i64 (x.1 : Int) :: .any :: .any :: .any :: .any :: .any :: .any :: .any :: .any :: .any :: .any :: .any :: .any :: .any :: .any :: .any :: .any :: .any :: .any :: .any :: .any :: .any :: .any :: .any :: .any :: .any :: .any :: .any :: .any :: .any :: .any :: .any :: .any :: .any :: .any :: .any :: .any :: .any :: .any :: .any :: .any :: .any :: .any :: .any :: .any :: .any :: .any :: .any :: .any :: .any :: .any :: .any :: .any :: .any :: .any :: .any :: .any :: .any :: .any :: .any :: .any :: .any :: .any :: .any :: .any :: .any :: .any :: .any :: .any :: .any :: .any :: .any :: .any :: .any :: .any :: .any :: .any :: .any :: .any :: .any :: .any :: .any :: .any :: .any :: .any :: .any :: .any :: [], [.store ⟨x.2.1, x.2.2.1, x.2.2.2⟩]))
    (fun x => x.1 ≤ N ∧ ∃ o, Rp x.2.1 x.2.2.1 x.2.2.2 1 o (hD s 0 x.1)) (fun x => N - x.1) (0, [], _, _) [0] ⟨Nat.zero_le _, none, Rp.new [] [] []⟩ ?_ ?_ ?_
  · repeat' (first | (with_reducible refine And.intro ?_ ?_) | (with_reducible intro h) | ((fail_if_success (with_reducible refine Leaf.mk ?_)); (fail_if_success (with_reducible refine VC.mk ?_)); (fail_if_success (with_reducible refine Goes.mk ?_)); (fail_if_success (with_reducible refine Again.mk ?_)); (fail_if_success (with_reducible refine Rounds.mk ?_)); (fail_if_success (with_reducible show False)); (fail_if_success (with_reducible show True)); conv => whnf))
    all_goals first | exact trivial | (refine Leaf.mk ?_; first | rfl | exact ⟨rfl, rfl, rfl⟩ | exact ⟨rfl, rfl⟩ | (simp; done))
  · repeat' (first | (with_reducible refine And.intro ?_ ?_) | (with_reducible intro h) | ((fail_if_success (with_reducible refine Leaf.mk ?_)); (fail_if_success (with_reducible refine VC.mk ?_)); (fail_if_success (with_reducible refine Goes.mk ?_)); (fail_if_success (with_reducible refine Again.mk ?_)); (fail_if_success (with_reducible refine Rounds.mk ?_)); (fail_if_success (with_reducible show False)); (fail_if_success (with_reducible show True)); conv => whnf))
    all_goals first | exact trivial | (refine Leaf.mk ?_; first | rfl | exact ⟨rfl, rfl, rfl⟩ | exact ⟨rfl, rfl⟩ | (simp; done))
  · intro x hx
    rcases x with ⟨i, nd', tr', mp'⟩
    dsimp only at hx ⊢
    obtain ⟨x1, o, x3⟩ := hx
    rcases Nat.lt_or_ge i N with hi | hi
    · have hb := prod_bd (i := (i : Int)) (s := s) (by omega) hs
      obtain ⟨i1, i2, o', i3, _⟩ := x3.ins (i : Int) ((i : Int) * s) 0 ((i : Int) * s + 1) 1
      have hv := box_valid hb
      have hl := hD_len s 0 i
      rw [if_pos hv, (hD_ins s i).2, if_neg Bool.false_ne_true, if_neg (by omega)] at i2
      rw [if_pos ⟨hv, (hD_ins s i).2, by omega⟩, (hD_ins s i).1] at i3
      have hd : decide ((i : Int) < (N : Int)) = true := by simp; omega
      repeat' (first | (with_reducible refine And.intro ?_ ?_) | (with_reducible intro h) | ((fail_if_success (with_reducible refine Leaf.mk ?_)); (fail_if_success (with_reducible refine VC.mk ?_)); (fail_if_success (with_reducible refine Goes.mk ?_)); (fail_if_success (with_reducible refine Again.mk ?_)); (fail_if_success (with_reducible refine Rounds.mk ?_)); (fail_if_success (with_reducible show False)); (fail_if_success (with_reducible show True)); conv => whnf))
      all_goals try with_reducible first | exact trivial | exact (bc2 hd (by assumption)).elim
      all_goals try (refine VC.mk ?_; first | (with_reducible assumption) | (simp only [InR]; omega) | omega)
      all_goals (refine Again.mk ⟨(i + 1, _, _, _), [0], ⟨by omega, o', i3⟩, (by show N - (i + 1) < N - i; omega), ?_, ?_⟩ <;> (repeat' (first | (with_reducible refine And.intro ?_ ?_) | (with_reducible intro h) | ((fail_if_success (with_reducible refine Leaf.mk ?_)); (fail_if_success (with_reducible refine VC.mk ?_)); (fail_if_success (with_reducible refine Goes.mk ?_)); (fail_if_success (with_reducible refine Again.mk ?_)); (fail_if_success (with_reducible refine Rounds.mk ?_)); (fail_if_success (with_reducible show False)); (fail_if_success (with_reducible show True)); conv => whnf))) <;> first | exact trivial | (refine Leaf.mk ?_; first | rfl | exact ⟨rfl, rfl, rfl⟩ | exact ⟨rfl, rfl⟩ | (simp; done)))
    · have hiN : N = i := by omega
      subst hiN
      have hd : decide ((N : Int) < (N : Int)) = false := by simp
      repeat' (first | (with_reducible refine And.intro ?_ ?_) | (with_reducible intro h) | ((fail_if_success (with_reducible refine Leaf.mk ?_)); (fail_if_success (with_reducible refine VC.mk ?_)); (fail_if_success (with_reducible refine Goes.mk ?_)); (fail_if_success (with_reducible refine Again.mk ?_)); (fail_if_success (with_reducible refine Rounds.mk ?_)); (fail_if_success (with_reducible show False)); (fail_if_success (with_reducible show True)); conv => whnf))
      all_goals try with_reducible first | exact trivial | exact (bc2 (by assumption) hd).elim
      all_goals try (refine VC.mk ?_; first | (with_reducible assumption) | (simp only [InR]; omega) | omega)
      refine goes_cut (C := [pin c_Remove (.blit true)]) (pl := []) T_ok (Cons.cons (pin_ok con_Remove _) (Cons.nil _)) mixed (by kernel_rfl) ?_
      repeat' (first | (with_reducible refine And.intro ?_ ?_) | (with_reducible intro h) | ((fail_if_success (with_reducible refine Leaf.mk ?_)); (fail_if_success (with_reducible refine VC.mk ?_)); (fail_if_success (with_reducible refine Goes.mk ?_)); (fail_if_success (with_reducible refine Again.mk ?_)); (fail_if_success (with_reducible refine Rounds.mk ?_)); (fail_if_success (with_reducible show False)); (fail_if_success (with_reducible show True)); conv => whnf))
      refine goes_inv (X := (Nat × List Nd × List (Nat × Nat) × List (List (Int × Nat)))) (C := [pin c_Remove (.blit true)]) (pl := []) T_ok (Cons.cons (pin_ok con_Remove _) (Cons.nil _)) mixed (by kernel_rfl)
        (fun x => (.int .u8 (N : Int) :: .int .i16 s :: .int .u8 (R : Int) :: .any :: .any :: .any :: .any :: .np 0 1 1 0 :: .any :: .int .i64 (x.1 : Int) :: .any :: .any :: .any :: .any :: .any :: .any :: .any :: .any :: .any :: .any :: .any :: .any :: .any :: .any :: .any :: .any :: .any :: .any :: .any :: .any :: .any :: .any :: .any :: .any :: .any :: .any :: .any :: .any :: .any :: .any :: .any :: .any :: .any :: .any :: .any :: .any :: .any :: .any :: .any :: .any :: .any :: .any :: .any :: .any :: .any :: .any :: .any :: .any :: .any :: .any :: .any :: .any :: .any :: .any :: .any :: .any :: .any :: .any :: .any :: .any :: .any :: .any :: .any :: .any :: .any :: .any :: .any :: .any :: .any :: .any :: .any :: .any :: .any :: .any :: .any :: .any :: .any :: .any :: .any :: .any :: .any :: .any :: .any :: .any :: .any :: [], [.store ⟨x.2.1, x.2.2.1, x.2.2.2⟩]))
        (fun x => (x.1 ≤ N ∧ x.1 ≤ R) ∧ ∃ o, Rp x.2.1 x.2.2.1 x.2.2.2 1 o (hD s x.1 (N - x.1))) (fun x => N - x.1) (0, nd', tr', mp') [0] ⟨⟨Nat.zero_le _, Nat.zero_le _⟩, o, x3⟩ ?_ ?_ ?_
      · repeat' (first | (with_reducible refine And.intro ?_ ?_) | (with_reducible intro h) | ((fail_if_success (with_reducible refine Leaf.mk ?_)); (fail_if_success (with_reducible refine VC.mk ?_)); (fail_if_success (with_reducible refine Goes.mk ?_)); (fail_if_success (with_reducible refine Again.mk ?_)); (fail_if_success (with_reducible refine Rounds.mk ?_)); (fail_if_success (with_reducible show False)); (fail_if_success (with_reducible show True)); conv => whnf))
        all_goals first | exact trivial | (refine Leaf.mk ?_; first | rfl | exact ⟨rfl, rfl, rfl⟩ | exact ⟨rfl, rfl⟩ | (simp; done))
      · repeat' (first | (with_reducible refine And.intro ?_ ?_) | (with_reducible intro h) | ((fail_if_success (with_reducible refine Leaf.mk ?_)); (fail_if_success (with_reducible refine VC.mk ?_)); (fail_if_success (with_reducible refine Goes.mk ?_)); (fail_if_success (with_reducible refine Again.mk ?_)); (fail_if_success (with_reducible refine Rounds.mk ?_)); (fail_if_success (with_reducible show False)); (fail_if_success (with_reducible show True)); conv => whnf))
        all_goals first | exact trivial | (refine Leaf.mk ?_; first | rfl | exact ⟨rfl, rfl, rfl⟩ | exact ⟨rfl, rfl⟩ | (simp; done))
      · intro x hx
        rcases x with ⟨k, nd', tr', mp'⟩
        dsimp only at hx ⊢
        obtain ⟨⟨x1, x2⟩, o, x3⟩ := hx
        by_cases hk : k < N ∧ k < R
        · obtain ⟨m, hm⟩ : ∃ m, N - k = m + 1 := ⟨N - k - 1, by omega⟩
          rw [hm] at x3
          obtain ⟨i1, i2, o', i3, _⟩ := x3.rem (k : Int)
          rw [(hD_rem s k m).2] at i2
          rw [(hD_rem s k m).1] at i3
          have hd : decide ((k : Int) < (N : Int)) = true := by simp; omega
          have hd2 : decide ((k : Int) < (R : Int)) = true := by simp; omega
          repeat' (first | (with_reducible refine And.intro ?_ ?_) | (with_reducible intro h) | ((fail_if_success (with_reducible refine Leaf.mk ?_)); (fail_if_success (with_reducible refine VC.mk ?_)); (fail_if_success (with_reducible refine Goes.mk ?_)); (fail_if_success (with_reducible refine Again.mk ?_)); (fail_if_success (with_reducible refine Rounds.mk ?_)); (fail_if_success (with_reducible show False)); (fail_if_success (with_reducible show True)); conv => whnf))
          all_goals try with_reducible first | exact trivial | exact (bc2 hd (by assumption)).elim | exact (bc2 hd2 (by assumption)).elim
          all_goals try (refine VC.mk ?_; first | (with_reducible assumption) | (simp only [InR]; omega) | omega)
          all_goals (refine Again.mk ⟨(k + 1, _, _, _), [0], ⟨⟨by omega, by omega⟩, o', by rw [show N - (k + 1) = m by omega]; exact i3⟩, (by show N - (k + 1) < N - k; omega), ?_, ?_⟩ <;> (repeat' (first | (with_reducible refine And.intro ?_ ?_) | (with_reducible intro h) | ((fail_if_success (with_reducible refine Leaf.mk ?_)); (fail_if_success (with_reducible refine VC.mk ?_)); (fail_if_success (with_reducible refine Goes.mk ?_)); (fail_if_success (with_reducible refine Again.mk ?_)); (fail_if_success (with_reducible refine Rounds.mk ?_)); (fail_if_success (with_reducible show False)); (fail_if_success (with_reducible show True)); conv => whnf))) <;> first | exact trivial | (refine Leaf.mk ?_; first | rfl | exact ⟨rfl, rfl, rfl⟩ | exact ⟨rfl, rfl⟩ | (simp; done)))
        · have hbk : N - k = N - R := by omega
          have hk2 : ¬ ((k : Int) < (N : Int) ∧ (k : Int) < (R : Int)) := by omega
          have g1 : decide (((N - k : Nat) : Int) = max ((N : Int) - (R : Int)) 0) = true := by simp only [decide_eq_true_eq]; omega
          have ht := x3.htok
          rw [hD_len] at ht
          have e1 := x3.len_
          have e2 := x3.hgt
          rw [hD_len] at e1
          generalize htO o = gh at ht e2
          generalize N - k = b at ht e1 g1 hbk
          have hb : b ≤ 255 := by omega
          have hh := ht.small (by omega)
          have hmx := ht.max
          have hz := ht.zero
          have ho := ht.one
          have g2 : decide (2 * (digN (b : Int).toNat : Int) + 1 < (gh : Int)) = false := by simp only [decide_eq_false_iff_not, Int.toNat_natCast]; omega
          have g3 : (decide ((gh : Int) = 0) = decide ((b : Int) = 0)) := by rw [decide_eq_decide]; omega
          have g4 : (decide ((gh : Int) = 1) = decide ((b : Int) = 1)) := by rw [decide_eq_decide]; omega
          repeat' (first | (with_reducible refine And.intro ?_ ?_) | (with_reducible intro h) | ((fail_if_success (with_reducible refine Leaf.mk ?_)); (fail_if_success (with_reducible refine VC.mk ?_)); (fail_if_success (with_reducible refine Goes.mk ?_)); (fail_if_success (with_reducible refine Again.mk ?_)); (fail_if_success (with_reducible refine Rounds.mk ?_)); (fail_if_success (with_reducible show False)); (fail_if_success (with_reducible show True)); conv => whnf))
          all_goals try with_reducible first | exact trivial
          all_goals try (refine VC.mk ?_; first | (with_reducible assumption) | (simp only [InR]; omega) | omega)
          all_goals try (exfalso; simp only [decide_eq_true_eq, decide_eq_false_iff_not] at *; omega)
          all_goals (
            refine goes_cut (C := [c_Len, c_Height]) (pl := []) T_ok (Cons.cons con_Len (Cons.cons con_Height (Cons.nil _))) mixed (by kernel_rfl) ?_
            repeat' (first | (with_reducible refine And.intro ?_ ?_) | (with_reducible intro h) | ((fail_if_success (with_reducible refine Leaf.mk ?_)); (fail_if_success (with_reducible refine VC.mk ?_)); (fail_if_success (with_reducible refine Goes.mk ?_)); (fail_if_success (with_reducible refine Again.mk ?_)); (fail_if_success (with_reducible refine Rounds.mk ?_)); (fail_if_success (with_reducible show False)); (fail_if_success (with_reducible show True)); conv => whnf))
            all_goals try with_reducible first | exact trivial
            all_goals try (refine VC.mk ?_; first | (with_reducible exact e1.1) | (with_reducible exact e2.1))
            refine goes_mid (X := (List Nd × List (Nat × Nat) × List (List (Int × Nat)))) (fun x => (.int .u8 (N : Int) :: .int .i16 s :: .int .u8 (R : Int) :: .any :: .any :: .any :: .any :: .np 0 1 1 0 :: .any :: .any :: .int .i64 (b : Int) :: .int .i64 (gh : Int) :: .any :: .any :: .any :: .any :: .any :: .any :: .any :: .any :: .any :: .any :: .any :: .any :: .any :: .any :: .any :: .any :: .any :: .any :: .any :: .any :: .any :: .any :: .any :: .any :: .any :: .any :: .any :: .any :: .any :: .any :: .any :: .any :: .any :: .any :: .any :: .any :: .any :: .any :: .any :: .any :: .any :: .any :: .any :: .any :: .any :: .any :: .any :: .any :: .any :: .any :: .any :: .any :: .any :: .any :: .any :: .any :: .any :: .any :: .any :: .any :: .any :: .any :: .any :: .any :: .any :: .any :: .any :: .any :: .any :: .any :: .any :: .any :: .any :: .any :: .any :: .any :: .any :: .any :: .any :: .any :: .any :: .any :: .any :: [], [.store ⟨x.1, x.2.1, x.2.2⟩])) (fun x => True) (nd', tr', mp') [0] trivial ?_ ?_ ?_
            · repeat' (first | (with_reducible refine And.intro ?_ ?_) | (with_reducible intro h) | ((fail_if_success (with_reducible refine Leaf.mk ?_)); (fail_if_success (with_reducible refine VC.mk ?_)); (fail_if_success (with_reducible refine Goes.mk ?_)); (fail_if_success (with_reducible refine Again.mk ?_)); (fail_if_success (with_reducible refine Rounds.mk ?_)); (fail_if_success (with_reducible show False)); (fail_if_success (with_reducible show True)); conv => whnf))
              all_goals first | exact trivial | (refine Leaf.mk ?_; first | (with_reducible rfl) | exact e1.2 | exact e2.2.1)
            · repeat' (first | (with_reducible refine And.intro ?_ ?_) | (with_reducible intro h) | ((fail_if_success (with_reducible refine Leaf.mk ?_)); (fail_if_success (with_reducible refine VC.mk ?_)); (fail_if_success (with_reducible refine Goes.mk ?_)); (fail_if_success (with_reducible refine Again.mk ?_)); (fail_if_success (with_reducible refine Rounds.mk ?_)); (fail_if_success (with_reducible show False)); (fail_if_success (with_reducible show True)); conv => whnf))
              all_goals first | exact trivial | (refine Leaf.mk ?_; first | exact ⟨rfl, rfl, rfl⟩)
            · intro x hx
              rcases x with ⟨nd2, tr2, mp2⟩
              dsimp only
              refine goes_cut (C := [c_ref20_MaxHeight]) (pl := []) T_ok (Cons.cons con_ref20_MaxHeight (Cons.nil _)) mixed (by kernel_rfl) ?_
              repeat' (first | (with_reducible refine And.intro ?_ ?_) | (with_reducible intro h) | ((fail_if_success (with_reducible refine Leaf.mk ?_)); (fail_if_success (with_reducible refine VC.mk ?_)); (fail_if_success (with_reducible refine Goes.mk ?_)); (fail_if_success (with_reducible refine Again.mk ?_)); (fail_if_success (with_reducible refine Rounds.mk ?_)); (fail_if_success (with_reducible show False)); (fail_if_success (with_reducible show True)); conv => whnf))
              all_goals try with_reducible first | exact trivial | exact (bc1 g1 (by assumption)).elim | exact (bc3 g1 (by assumption)).elim | exact (bc2 (by assumption) g2).elim
              all_goals try (refine VC.mk ?_; first | (with_reducible assumption) | (simp only [InR]; omega) | omega)
              all_goals try (exfalso; revert h; first | (rw [g3]; simp; done) | (rw [g4]; simp; done))
              refine goes_cut (C := []) (pl := []) T_ok (Cons.nil _) mixed (by kernel_rfl) ?_
              repeat' (first | (with_reducible refine And.intro ?_ ?_) | (with_reducible intro h) | ((fail_if_success (with_reducible refine Leaf.mk ?_)); (fail_if_success (with_reducible refine VC.mk ?_)); (fail_if_success (with_reducible refine Goes.mk ?_)); (fail_if_success (with_reducible refine Again.mk ?_)); (fail_if_success (with_reducible refine Rounds.mk ?_)); (fail_if_success (with_reducible show False)); (fail_if_success (with_reducible show True)); conv => whnf))
              refine goes_cut (C := []) (pl := []) T_ok (Cons.nil _) mixed (by kernel_rfl) ?_
              repeat' (first | (with_reducible refine And.intro ?_ ?_) | (with_reducible intro h) | ((fail_if_success (with_reducible refine Leaf.mk ?_)); (fail_if_success (with_reducible refine VC.mk ?_)); (fail_if_success (with_reducible refine Goes.mk ?_)); (fail_if_success (with_reducible refine Again.mk ?_)); (fail_if_success (with_reducible refine Rounds.mk ?_)); (fail_if_success (with_reducible show False)); (fail_if_success (with_reducible show True)); conv => whnf))
              refine goes_inv (X := Nat) (C := []) (pl := []) T_ok (Cons.nil _) mixed (by kernel_rfl)
                (fun j => (.int .u8 (N : Int) :: .int .i16 s :: .int .u8 (R : Int) :: .any :: .any :: .any :: .any :: .np 0 1 1 0 :: .any :: .any :: .int .i64 (b : Int) :: .int .i64 (gh : Int) :: .int .i64 ((2 : Int) ^ j) :: .int .i64 ((j : Int) + 1) :: .any :: .any :: .any :: .any :: .any :: .any :: .any :: .any :: .any :: .any :: .any :: .any :: .any :: .any :: .any :: .any :: .any :: .any :: .any :: .any :: .any :: .any :: .any :: .any :: .any :: .any :: .any :: .any :: .any :: .any :: .any :: .any :: .any :: .any :: .any :: .any :: .any :: .any :: .any :: .any :: .any :: .any :: .any :: .any :: .any :: .any :: .any :: .any :: .any :: .any :: .any :: .any :: .any :: .any :: .any :: .any :: .any :: .any :: .any :: .any :: .any :: .any :: .any :: .any :: .any :: .any :: .any :: .any :: .any :: .any :: .any :: .any :: .any :: .any :: .any :: .any :: .any :: .any :: .any :: .any :: .any :: [], [.store ⟨nd2, tr2, mp2⟩]))
                (fun j => j + 1 ≤ max gh 1) (fun j => 26 - j) 0 [0] (by omega) ?_ ?_ ?_
              · repeat' (first | (with_reducible refine And.intro ?_ ?_) | (with_reducible intro h) | ((fail_if_success (with_reducible refine Leaf.mk ?_)); (fail_if_success (with_reducible refine VC.mk ?_)); (fail_if_success (with_reducible refine Goes.mk ?_)); (fail_if_success (with_reducible refine Again.mk ?_)); (fail_if_success (with_reducible refine Rounds.mk ?_)); (fail_if_success (with_reducible show False)); (fail_if_success (with_reducible show True)); conv => whnf))
                all_goals first | exact trivial | (refine Leaf.mk ?_; first | rfl | exact ⟨rfl, rfl, rfl⟩ | exact ⟨rfl, rfl⟩ | (simp; done) | decide)
              · repeat' (first | (with_reducible refine And.intro ?_ ?_) | (with_reducible intro h) | ((fail_if_success (with_reducible refine Leaf.mk ?_)); (fail_if_success (with_reducible refine VC.mk ?_)); (fail_if_success (with_reducible refine Goes.mk ?_)); (fail_if_success (with_reducible refine Again.mk ?_)); (fail_if_success (with_reducible refine Rounds.mk ?_)); (fail_if_success (with_reducible show False)); (fail_if_success (with_reducible show True)); conv => whnf))
                all_goals first | exact trivial | (refine Leaf.mk ?_; first | rfl | exact ⟨rfl, rfl, rfl⟩ | exact ⟨rfl, rfl⟩ | (simp; done) | decide)
              · intro j hx
                have hp := pow2_bd (j := j) (by omega)
                by_cases hj : j + 1 < gh
                · have hd : decide (((j : Int) + 1) < (gh : Int)) = true := by simp; omega
                  repeat' (first | (with_reducible refine And.intro ?_ ?_) | (with_reducible intro h) | ((fail_if_success (with_reducible refine Leaf.mk ?_)); (fail_if_success (with_reducible refine VC.mk ?_)); (fail_if_success (with_reducible refine Goes.mk ?_)); (fail_if_success (with_reducible refine Again.mk ?_)); (fail_if_success (with_reducible refine Rounds.mk ?_)); (fail_if_success (with_reducible show False)); (fail_if_success (with_reducible show True)); conv => whnf))
                  all_goals try with_reducible first | exact trivial | exact (bc2 hd (by assumption)).elim
                  all_goals try (refine VC.mk ?_; first | (with_reducible assumption) | (simp only [InR]; omega) | omega)
                  all_goals (refine Again.mk ⟨j + 1, [0], (by show j + 2 ≤ max gh 1; omega), (by show 26 - (j + 1) < 26 - j; omega), ?_, ?_⟩ <;> (repeat' (first | (with_reducible refine And.intro ?_ ?_) | (with_reducible intro h) | ((fail_if_success (with_reducible refine Leaf.mk ?_)); (fail_if_success (with_reducible refine VC.mk ?_)); (fail_if_success (with_reducible refine Goes.mk ?_)); (fail_if_success (with_reducible refine Again.mk ?_)); (fail_if_success (with_reducible refine Rounds.mk ?_)); (fail_if_success (with_reducible show False)); (fail_if_success (with_reducible show True)); conv => whnf))) <;> first | exact trivial | (refine Leaf.mk ?_; first | rfl | exact ⟨rfl, rfl, rfl⟩ | exact ⟨rfl, rfl⟩ | (rw [Int.pow_succ]; omega) | (simp; done) | (push_cast; omega)))
                · have hd : decide (((j : Int) + 1) < (gh : Int)) = false := by simp; omega
                  repeat' (first | (with_reducible refine And.intro ?_ ?_) | (with_reducible intro h) | ((fail_if_success (with_reducible refine Leaf.mk ?_)); (fail_if_success (with_reducible refine VC.mk ?_)); (fail_if_success (with_reducible refine Goes.mk ?_)); (fail_if_success (with_reducible refine Again.mk ?_)); (fail_if_success (with_reducible refine Rounds.mk ?_)); (fail_if_success (with_reducible show False)); (fail_if_success (with_reducible show True)); conv => whnf))
                  all_goals try with_reducible first | exact trivial | exact (bc2 (by assumption) hd).elim
                  all_goals try (refine VC.mk ?_; first | (with_reducible assumption) | (simp only [InR]; omega) | omega)
                  have hge : b ≠ 0 → (b : Int) ≤ (2 : Int) ^ j := fun hb0 => by
                    have e : j = gh - 1 := by omega
                    rw [e]; exact pow2_ge ht hb0
                  refine goes_all (C := [c_law20_example]) (pl := []) T_ok (Cons.cons con_law20_example (Cons.nil _)) mixed (by kernel_rfl) ?_
                  repeat' (first | (with_reducible refine And.intro ?_ ?_) | (with_reducible intro h) | ((fail_if_success (with_reducible refine Leaf.mk ?_)); (fail_if_success (with_reducible refine VC.mk ?_)); (fail_if_success (with_reducible refine Goes.mk ?_)); (fail_if_success (with_reducible refine Again.mk ?_)); (fail_if_success (with_reducible refine Rounds.mk ?_)); (fail_if_success (with_reducible show False)); (fail_if_success (with_reducible show True)); conv => whnf))
                  all_goals first | exact Leaf.mk rfl | (exfalso; simp only [decide_eq_true_eq, decide_eq_false_iff_not] at *; omega)
            )
theorem walk_BVHHeight (n s r : Int) (hn : 0 ≤ n ∧ n ≤ 255) (hs : -32768 ≤ s ∧ s ≤ 32767) (hr : 0 ≤ r ∧ r ≤ 255) (w : World) :
    Calls Try.prog 3 #[.int .u8 n, .int .i16 s, .int .u8 r] w fun e w' => e = .returned (.bool true) ∧ Below w.heap.size w w' := by
  obtain ⟨N, rfl⟩ : ∃ N : Nat, n = (N : Int) := ⟨n.toNat, by omega⟩
  obtain ⟨R, rfl⟩ : ∃ R : Nat, r = (R : Int) := ⟨r.toNat, by omega⟩
  exact main_BVHHeight N R s (by omega) (by omega) hs w

end Go.Proofs.Ytconaehajaifhaa
