/- The walk of caromlaw20.BVHCapacity. -/
import Derived.Test.YtconaehajaifhaaUE
import Derived.Test.YtconaehajaifhaaBB
namespace Go.Proofs.Ytconaehajaifhaa
open Go.RowKit Fx Vx Bx Ev
set_option linter.unusedVariables false
set_option linter.unusedSimpArgs false
set_option maxRecDepth 100000 in
set_option maxHeartbeats 8000000 in
theorem walk_BVHCapacity (id a b c d : Int) (w : World) :
    Calls Try.prog 4 #[.int .i64 id, .agg #[.int .i64 a, .int .i64 b, .int .i64 c, .int .i64 d]] w fun e w' => e = .returned (.bool true) ∧ Below w.heap.size w w' := by
  refine law_stG Try.func4 rfl T_ok (ss := [.int .i64 id, .agg [.int .i64 a, .int .i64 b, .int .i64 c, .int .i64 d]]) (hs := []) ?_ (mf := fun i => if i = 0 then some ⟨0, 0, 0⟩ else none) (vs := [.int .i64 id, .agg #[.int .i64 a, .int .i64 b, .int .i64 c, .int .i64 d]]) ⟨rfl, ⟨_, rfl, rfl, rfl, rfl, rfl, trivial⟩, trivial⟩ (by simp) (fun i => trivial) (fun i => rfl) (fun i H h => by cases h) (fun i h => by by_cases e : i = 0 <;> simp_all)
  conv => whnf
  refine goes_cut (C := []) (pl := []) T_ok (Cons.nil _) mixed (by kernel_rfl) ?_
  repeat' (first | (with_reducible refine And.intro ?_ ?_) | (with_reducible intro h) | ((fail_if_success (with_reducible refine Leaf.mk ?_)); (fail_if_success (with_reducible refine VC.mk ?_)); (fail_if_success (with_reducible refine Goes.mk ?_)); (fail_if_success (with_reducible refine Again.mk ?_)); (fail_if_success (with_reducible refine Rounds.mk ?_)); (fail_if_success (with_reducible show False)); (fail_if_success (with_reducible show True)); conv => whnf))
  refine goes_cut (C := [c_aabb_Valid, c_law20_example]) (pl := []) T_ok (Cons.cons con_aabb_Valid (Cons.cons con_law20_example (Cons.nil _))) mixed (by kernel_rfl) ?_
  cases hv : validB a b c d with
  | false =>
    repeat' (first | (with_reducible refine And.intro ?_ ?_) | (with_reducible intro h) | ((fail_if_success (with_reducible refine Leaf.mk ?_)); (fail_if_success (with_reducible refine VC.mk ?_)); (fail_if_success (with_reducible refine Goes.mk ?_)); (fail_if_success (with_reducible refine Again.mk ?_)); (fail_if_success (with_reducible refine Rounds.mk ?_)); (fail_if_success (with_reducible show False)); (fail_if_success (with_reducible show True)); conv => whnf))
    all_goals try first | (with_reducible exact trivial) | (with_reducible exact (bc3 hv (by assumption)).elim) | exact Leaf.mk rfl
  | true =>
    by_cases hid : 0 ≤ id ∧ id < 4096
    · repeat' (first | (with_reducible refine And.intro ?_ ?_) | (with_reducible intro h) | ((fail_if_success (with_reducible refine Leaf.mk ?_)); (fail_if_success (with_reducible refine VC.mk ?_)); (fail_if_success (with_reducible refine Goes.mk ?_)); (fail_if_success (with_reducible refine Again.mk ?_)); (fail_if_success (with_reducible refine Rounds.mk ?_)); (fail_if_success (with_reducible show False)); (fail_if_success (with_reducible show True)); conv => whnf))
      all_goals first | (with_reducible exact trivial) | exact Leaf.mk rfl | (exfalso; simp only [decide_eq_true_eq, decide_eq_false_iff_not] at *; omega)
    · repeat' (first | (with_reducible refine And.intro ?_ ?_) | (with_reducible intro h) | ((fail_if_success (with_reducible refine Leaf.mk ?_)); (fail_if_success (with_reducible refine VC.mk ?_)); (fail_if_success (with_reducible refine Goes.mk ?_)); (fail_if_success (with_reducible refine Again.mk ?_)); (fail_if_success (with_reducible refine Rounds.mk ?_)); (fail_if_success (with_reducible show False)); (fail_if_success (with_reducible show True)); conv => whnf))
      all_goals try first | (with_reducible exact trivial) | exact Leaf.mk rfl
      all_goals try (exfalso; simp only [hv, Bool.not_true] at *; simp only [decide_eq_true_eq, decide_eq_false_iff_not] at *; first | omega | (simp at *; done))
      all_goals (
        have cap := cap_ok (a := a) (b := b) (c := c) (d := d) hid
        refine goes_cut (C := [c_New]) (pl := []) T_ok (Cons.cons con_New (Cons.nil _)) mixed (by kernel_rfl) ?_
        repeat' (first | (with_reducible refine And.intro ?_ ?_) | (with_reducible intro h) | ((fail_if_success (with_reducible refine Leaf.mk ?_)); (fail_if_success (with_reducible refine VC.mk ?_)); (fail_if_success (with_reducible refine Goes.mk ?_)); (fail_if_success (with_reducible refine Again.mk ?_)); (fail_if_success (with_reducible refine Rounds.mk ?_)); (fail_if_success (with_reducible show False)); (fail_if_success (with_reducible show True)); conv => whnf))
        refine goes_cut (C := [c_law20_unitBox, pin c_Insert (.lit .i64 0)]) (pl := []) T_ok (Cons.cons con_law20_unitBox (Cons.cons (pin_ok con_Insert _) (Cons.nil _))) mixed (by kernel_rfl) ?_
        repeat' (first | (with_reducible refine And.intro ?_ ?_) | (with_reducible intro h) | ((fail_if_success (with_reducible refine Leaf.mk ?_)); (fail_if_success (with_reducible refine VC.mk ?_)); (fail_if_success (with_reducible refine Goes.mk ?_)); (fail_if_success (with_reducible refine Again.mk ?_)); (fail_if_success (with_reducible refine Rounds.mk ?_)); (fail_if_success (with_reducible show False)); (fail_if_success (with_reducible show True)); conv => whnf))
        refine goes_inv (X := (Nat × List Nd × List (Nat × Nat) × List (List (Int × Nat)))) (C := [c_law20_unitBox, pin c_Insert (.lit .i64 0)]) (pl := []) T_ok (Cons.cons con_law20_unitBox (Cons.cons (pin_ok con_Insert _) (Cons.nil _))) mixed (by kernel_rfl)
          (fun x => (.int .i64 id :: .agg [.int .i64 a, .int .i64 b, .int .i64 c, .int .i64 d] :: .any :: .ptr 1 0 :: .any :: .np 0 1 1 0 :: .int .i64 (x.1 : Int) :: .any :: .any :: .any :: .any :: .any :: .any :: .any :: .any :: .any :: .any :: .any :: .any :: .any :: .any :: .any :: .any :: .any :: .any :: .any :: .any :: .any :: .any :: .any :: .any :: .any :: .any :: .any :: .any :: .any :: .any :: .any :: .any :: .any :: .any :: .any :: .any :: .any :: .any :: .any :: .any :: .any :: .any :: .any :: .any :: .any :: .any :: .any :: .any :: .any :: .any :: .any :: .any :: .any :: .any :: .any :: .any :: .any :: .any :: .any :: .any :: .any :: .any :: .any :: .any :: .any :: .any :: [], [.store ⟨x.2.1, x.2.2.1, x.2.2.2⟩, .cells [.int .i64 a, .int .i64 b, .int .i64 c, .int .i64 d]]))
          (fun x => x.1 ≤ 4096 ∧ ∃ o, Rp x.2.1 x.2.2.1 x.2.2.2 1 o (hC x.1)) (fun x => 4096 - x.1) (0, [], _, _) [0, 1] ⟨Nat.zero_le _, none, Rp.new [] [] []⟩ ?_ ?_ ?_
        · repeat' (first | (with_reducible refine And.intro ?_ ?_) | (with_reducible intro h) | ((fail_if_success (with_reducible refine Leaf.mk ?_)); (fail_if_success (with_reducible refine VC.mk ?_)); (fail_if_success (with_reducible refine Goes.mk ?_)); (fail_if_success (with_reducible refine Again.mk ?_)); (fail_if_success (with_reducible refine Rounds.mk ?_)); (fail_if_success (with_reducible show False)); (fail_if_success (with_reducible show True)); conv => whnf))
          all_goals first | exact trivial | (refine Leaf.mk ?_; first | rfl | exact ⟨rfl, rfl, rfl⟩ | exact ⟨rfl, rfl⟩ | (simp; done))
        · repeat' (first | (with_reducible refine And.intro ?_ ?_) | (with_reducible intro h) | ((fail_if_success (with_reducible refine Leaf.mk ?_)); (fail_if_success (with_reducible refine VC.mk ?_)); (fail_if_success (with_reducible refine Goes.mk ?_)); (fail_if_success (with_reducible refine Again.mk ?_)); (fail_if_success (with_reducible refine Rounds.mk ?_)); (fail_if_success (with_reducible show False)); (fail_if_success (with_reducible show True)); conv => whnf))
          all_goals first | exact trivial | (refine Leaf.mk ?_; first | rfl | exact ⟨rfl, rfl, rfl⟩ | exact ⟨rfl, rfl⟩ | (simp; done))
        · intro x hx
          rcases x with ⟨i, nd', tr', mp'⟩
          dsimp only at hx ⊢
          obtain ⟨x1, o, x3⟩ := hx
          rcases Nat.lt_or_ge i 4096 with hi | hi
          · have hm := tmod64 i
            obtain ⟨i1, i2, o', i3, _⟩ := x3.ins (i : Int) (Int.tmod (i : Int) 64) 0 (Int.tmod (i : Int) 64 + 1) 1
            have hb : -8355840 ≤ Int.tmod (i : Int) 64 ∧ Int.tmod (i : Int) 64 ≤ 8355840 := by rw [hm]; omega
            have hbv := box_valid hb
            have hl := hC_len i
            rw [if_pos hbv, (hC_ins i).2, if_neg Bool.false_ne_true, if_neg (by omega)] at i2
            rw [if_pos ⟨hbv, (hC_ins i).2, by omega⟩, hm, (hC_ins i).1, ← hm] at i3
            have hd : decide ((i : Int) < 4096) = true := by simp; omega
            repeat' (first | (with_reducible refine And.intro ?_ ?_) | (with_reducible intro h) | ((fail_if_success (with_reducible refine Leaf.mk ?_)); (fail_if_success (with_reducible refine VC.mk ?_)); (fail_if_success (with_reducible refine Goes.mk ?_)); (fail_if_success (with_reducible refine Again.mk ?_)); (fail_if_success (with_reducible refine Rounds.mk ?_)); (fail_if_success (with_reducible show False)); (fail_if_success (with_reducible show True)); conv => whnf))
            all_goals try with_reducible first | exact trivial | exact (bc2 hd (by assumption)).elim
            all_goals try (refine VC.mk ?_; first | (with_reducible assumption) | (simp only [InR]; omega) | omega)
            all_goals (refine Again.mk ⟨(i + 1, _, _, _), [0, 1], ⟨by omega, o', i3⟩, (by show 4096 - (i + 1) < 4096 - i; omega), ?_, ?_⟩ <;> (repeat' (first | (with_reducible refine And.intro ?_ ?_) | (with_reducible intro h) | ((fail_if_success (with_reducible refine Leaf.mk ?_)); (fail_if_success (with_reducible refine VC.mk ?_)); (fail_if_success (with_reducible refine Goes.mk ?_)); (fail_if_success (with_reducible refine Again.mk ?_)); (fail_if_success (with_reducible refine Rounds.mk ?_)); (fail_if_success (with_reducible show False)); (fail_if_success (with_reducible show True)); conv => whnf))) <;> first | exact trivial | (refine Leaf.mk ?_; first | rfl | exact ⟨rfl, rfl, rfl⟩ | exact ⟨rfl, rfl⟩ | (simp; done)))
          · have hiN : i = 4096 := by omega
            subst hiN
            have hd : decide (((4096 : Nat) : Int) < 4096) = false := by decide
            repeat' (first | (with_reducible refine And.intro ?_ ?_) | (with_reducible intro h) | ((fail_if_success (with_reducible refine Leaf.mk ?_)); (fail_if_success (with_reducible refine VC.mk ?_)); (fail_if_success (with_reducible refine Goes.mk ?_)); (fail_if_success (with_reducible refine Again.mk ?_)); (fail_if_success (with_reducible refine Rounds.mk ?_)); (fail_if_success (with_reducible show False)); (fail_if_success (with_reducible show True)); conv => whnf))
            all_goals try with_reducible first | exact trivial | exact (bc2 (by assumption) hd).elim
            all_goals try (refine VC.mk ?_; first | (with_reducible assumption) | (simp only [InR]; omega) | omega)
            obtain ⟨i1, i2, o1, i3, _⟩ := x3.ins id a b c d
            rw [if_pos hv, cap.no, if_neg Bool.false_ne_true, if_pos (by have := cap.len; omega)] at i2
            rw [if_neg (fun hh => by have := cap.len; have := hh.2.2; omega)] at i3
            obtain ⟨j1, j2, o2, j3, _⟩ := i3.ins id 1 0 0 0
            have hv2 : validB 1 0 0 0 = false := by decide
            rw [if_neg (by rw [hv2]; simp)] at j2
            rw [if_neg (fun hh => by have := hh.1; rw [hv2] at this; cases this)] at j3
            refine goes_cut (C := [c_Insert]) (pl := []) T_ok (Cons.cons con_Insert (Cons.nil _)) mixed (by kernel_rfl) ?_
            repeat' (first | (with_reducible refine And.intro ?_ ?_) | (with_reducible intro h) | ((fail_if_success (with_reducible refine Leaf.mk ?_)); (fail_if_success (with_reducible refine VC.mk ?_)); (fail_if_success (with_reducible refine Goes.mk ?_)); (fail_if_success (with_reducible refine Again.mk ?_)); (fail_if_success (with_reducible refine Rounds.mk ?_)); (fail_if_success (with_reducible show False)); (fail_if_success (with_reducible show True)); conv => whnf))
            all_goals try with_reducible first | exact trivial
            all_goals try (refine VC.mk ?_; first | (with_reducible assumption) | (simp only [InR]; omega) | omega)
            refine goes_mid (X := (List Nd × List (Nat × Nat) × List (List (Int × Nat)))) (fun x => (.int .i64 id :: .agg [.int .i64 a, .int .i64 b, .int .i64 c, .int .i64 d] :: .any :: .ptr 1 0 :: .any :: .np 0 1 1 0 :: .any :: .lit .i64 9 :: .lit .i64 2 :: .any :: .any :: .any :: .any :: .any :: .any :: .any :: .any :: .any :: .any :: .any :: .any :: .any :: .any :: .any :: .any :: .any :: .any :: .any :: .any :: .any :: .any :: .any :: .any :: .any :: .any :: .any :: .any :: .any :: .any :: .any :: .any :: .any :: .any :: .any :: .any :: .any :: .any :: .any :: .any :: .any :: .any :: .any :: .any :: .any :: .any :: .any :: .any :: .any :: .any :: .any :: .any :: .any :: .any :: .any :: .any :: .any :: .any :: .any :: .any :: .any :: .any :: .any :: .any :: [], [.store ⟨x.1, x.2.1, x.2.2⟩, .cells [.int .i64 a, .int .i64 b, .int .i64 c, .int .i64 d]])) (fun x => ∃ o, Rp x.1 x.2.1 x.2.2 1 o (hC 4096)) ⟨_, _, _⟩ [0, 1] ⟨o2, j3⟩ ?_ ?_ ?_
            · repeat' (first | (with_reducible refine And.intro ?_ ?_) | (with_reducible intro h) | ((fail_if_success (with_reducible refine Leaf.mk ?_)); (fail_if_success (with_reducible refine VC.mk ?_)); (fail_if_success (with_reducible refine Goes.mk ?_)); (fail_if_success (with_reducible refine Again.mk ?_)); (fail_if_success (with_reducible refine Rounds.mk ?_)); (fail_if_success (with_reducible show False)); (fail_if_success (with_reducible show True)); conv => whnf))
              all_goals first | exact trivial | (refine Leaf.mk ?_; first | (with_reducible rfl) | (with_reducible exact i2) | (with_reducible exact j2))
            · repeat' (first | (with_reducible refine And.intro ?_ ?_) | (with_reducible intro h) | ((fail_if_success (with_reducible refine Leaf.mk ?_)); (fail_if_success (with_reducible refine VC.mk ?_)); (fail_if_success (with_reducible refine Goes.mk ?_)); (fail_if_success (with_reducible refine Again.mk ?_)); (fail_if_success (with_reducible refine Rounds.mk ?_)); (fail_if_success (with_reducible show False)); (fail_if_success (with_reducible show True)); conv => whnf))
              all_goals first | exact trivial | (refine Leaf.mk ?_; first | (with_reducible rfl) | exact ⟨rfl, rfl, rfl⟩)
            · intro x hx
              rcases x with ⟨nd2, tr2, mp2⟩
              dsimp only at hx ⊢
              obtain ⟨o3, y3⟩ := hx
              have hl := y3.len_
              rw [cap.len] at hl
              have hl2 : lenE tr2 mp2 1 = 4096 := hl.2
              have hl1 := hl.1
              have hh := y3.hgt
              have hh1 := hh.1
              have ht := y3.htok
              rw [cap.len] at ht
              have hmx := ht.max
              have hdig : 2 * (digN (4096 : Int).toNat : Int) + 1 = 27 := by decide
              have f7 : decide (hgtE nd2 tr2 1 ≤ 27) = true := by
                rw [hh.2.1]
                have e : digN 4096 = 13 := by decide
                rw [e] at hmx
                simp; omega
              obtain ⟨r1, r2, o4, r3, _⟩ := y3.rem 7
              rw [cap.seven] at r2
              obtain ⟨s1, s2, o5, s3, _⟩ := r3.ins id a b c d
              rw [if_pos hv, cap.dno, if_neg Bool.false_ne_true, if_neg (by have := cap.dlen; omega)] at s2
              refine goes_all (C := [pin c_Len (.lit .i64 4096), c_Height, pin c_ref20_MaxHeight (.lit .i64 27), pin c_Remove (.blit true), pin c_Insert (.lit .i64 0), c_law20_example]) (pl := []) T_ok (Cons.cons (pin_ok con_Len _) (Cons.cons con_Height (Cons.cons (pin_ok con_ref20_MaxHeight _) (Cons.cons (pin_ok con_Remove _) (Cons.cons (pin_ok con_Insert _) (Cons.cons con_law20_example (Cons.nil _))))))) mixed (by kernel_rfl) ?_
              repeat' (first | (with_reducible refine And.intro ?_ ?_) | (with_reducible intro h) | ((fail_if_success (with_reducible refine Leaf.mk ?_)); (fail_if_success (with_reducible refine VC.mk ?_)); (fail_if_success (with_reducible refine Goes.mk ?_)); (fail_if_success (with_reducible refine Again.mk ?_)); (fail_if_success (with_reducible refine Rounds.mk ?_)); (fail_if_success (with_reducible show False)); (fail_if_success (with_reducible show True)); conv => whnf))
              all_goals try with_reducible first | exact trivial | exact (bc2 f7 (by assumption)).elim
              all_goals try (refine VC.mk ?_; first | (with_reducible assumption) | (simp only [InR]; omega) | omega)
              all_goals first | exact Leaf.mk rfl
      )

end Go.Proofs.Ytconaehajaifhaa
