/- Contracts of package slices at keys; of world: contacts. Contracts of package world: contacts, the world. Contracts of package world: contacts, the world, continued. Contract of world.Validate. -/
import Derived.Test.YtohjifnkajhhnaaGreatRX
import Derived.Test.YtohjifnkajhhnaaGreatGw
namespace Go.Proofs.YtohjifnkajhhnaaGreat
open Go.RowKit Fx Vx Bx Ev Go.Shelf
set_option linter.unusedVariables false
set_option linter.unusedSimpArgs false
def growK_ren : Go.Shelf.Ren := ⟨fun | 4 => 82 | n => n, fun | 22 => 29 | 25 => 63 | n => n, fun | n => n⟩
theorem growK : Go.Proofs.Lays8.n4 Tryz.prog growK_ren := {
  mixed := by kernel_rfl,
  f4 := ⟨ "slices.Grow[[]carom/api.PairKey,carom/api.PairKey]", by decide, Tryz.func82.trans (congrArg some (by kernel_rfl))⟩,
  t0 := Tryz.underlying0,
  a0 := Tryz.isAgg0,
  z0 := Tryz.sizeOf0,
  v0 := Tryz.zeroValue0,
  t3 := Tryz.underlying3,
  a3 := Tryz.isAgg3,
  z3 := Tryz.sizeOf3,
  v3 := Tryz.zeroValue3,
  t4 := Tryz.underlying4,
  a4 := Tryz.isAgg4,
  z4 := Tryz.sizeOf4,
  v4 := Tryz.zeroValue4,
  t9 := Tryz.underlying9,
  a9 := Tryz.isAgg9,
  z9 := Tryz.sizeOf9,
  v9 := Tryz.zeroValue9,
  t20 := Tryz.underlying20,
  a20 := Tryz.isAgg20,
  z20 := Tryz.sizeOf20,
  v20 := Tryz.zeroValue20,
  t22 := Tryz.underlying29,
  a22 := Tryz.isAgg29,
  z22 := Tryz.sizeOf29,
  v22 := Tryz.zeroValue29
 }
def c_growK : Con := ⟨82, growRun 4⟩
theorem con_growK : c_growK.Ok Tryz.prog := con_grow growK T_ok (f := 82) (e := 63) (ei := (T.get 63).get (by decide)) rfl rfl (by simp) (by decide) (by decide) (by decide) ⟨_, Tryz.func82, by kernel_rfl, by kernel_rfl⟩
section
variable {a b i j e : Nat} {p q : Bool} {D E : DT}
theorem twoT_n : (twoT a b p D q E).n = 2 := rfl
theorem twoT_c0 : (twoT a b p D q E).cs 0 j = D := rfl
theorem twoT_c1 : (twoT a b p D q E).cs 1 j = E := rfl
theorem sum0 (x y : Nat) : (decide (0 + (x : Int) + (y : Int) = 0) && decide (x = 0) && decide (y = 0)) = decide (x + y = 0) := by
  have h : decide (0 + (x : Int) + (y : Int) = 0) = decide (x + y = 0) := decide_eq_decide.2 (by omega)
  rw [h]
  by_cases e : x + y = 0
  · rw [decide_eq_true e, decide_eq_true (show x = 0 by omega), decide_eq_true (show y = 0 by omega)]; rfl
  · rw [decide_eq_false e]; rfl
theorem at_n : (D.at a b).n = D.n := rfl
theorem at_rows : (D.at a b).rows e = D.rows e := rfl
end
def c_concatKey : Con := ⟨39, dpRun [.r2 4] (fun | [x, y] => [x.D.n + y.D.n ≤ 1000000] | _ => [False]) fun
  | [x, y] => [.rows (decide (x.D.n + y.D.n = 0)) 4 (x.D.rows 4 ++ y.D.rows 4)]
  | _ => []⟩
set_option maxRecDepth 100000 in
set_option maxHeartbeats 4000000 in
theorem con_concatKey : c_concatKey.Ok Tryz.prog := by
  refine con_dp (C := [c_growK]) (pl := []) Tryz.func39 rfl (by kernel_rfl) T_ok (Cons.cons con_growK (Cons.nil _)) mixed (by kernel_rfl) _ _ _ (fun l ps hl hps hpre => ?_)
  match l, hl, ps, hps with
  | [x, y], zl, [q0, q1, q2], zp =>
    clear zl zp
    have hp0 := hpre _ (List.Mem.head _); try dsimp only at hp0
    clear hpre
    repeat' (first | (with_reducible refine And.intro ?_ ?_) | (with_reducible intro h) | ((fail_if_success (with_reducible refine Leaf.mk ?_)); (fail_if_success (with_reducible refine VC.mk ?_)); (fail_if_success (with_reducible refine Goes.mk ?_)); (fail_if_success (with_reducible refine Again.mk ?_)); (fail_if_success (with_reducible refine Rounds.mk ?_)); (fail_if_success (with_reducible show False)); (fail_if_success (with_reducible show True)); conv => whnf))
    all_goals try refine goes_rounds 3 ?_
    all_goals try (refine rounds_one (pl := []) T_ok (Cons.cons con_growK (Cons.nil _)) mixed (by kernel_rfl) ?_; repeat' (first | (with_reducible refine And.intro ?_ ?_) | (with_reducible intro h) | ((fail_if_success (with_reducible refine Leaf.mk ?_)); (fail_if_success (with_reducible refine VC.mk ?_)); (fail_if_success (with_reducible refine Goes.mk ?_)); (fail_if_success (with_reducible refine Again.mk ?_)); (fail_if_success (with_reducible refine Rounds.mk ?_)); (fail_if_success (with_reducible show False)); (fail_if_success (with_reducible show True)); conv => whnf)))
    all_goals try simp only [twoT_n, twoT_c0, twoT_c1, at_n, at_rows, Int.ofNat_eq_natCast] at *
    all_goals try with_reducible exact trivial
    all_goals try (simp only [decide_eq_true_eq, decide_eq_false_iff_not] at *)
    all_goals try (exfalso; omega)
    all_goals try (simp only [decide_eq_true_eq, decide_eq_false_iff_not, Bool.not_eq_true', Bool.not_eq_false'] at *)
    all_goals try (refine VC.mk ?_; first | exact trivial | omega | (simp only [InR]; omega) | assumption | (simp; done))
    
    all_goals try (refine rounds_one (pl := []) T_ok (Cons.cons con_growK (Cons.nil _)) mixed (by kernel_rfl) ?_; repeat' (first | (with_reducible refine And.intro ?_ ?_) | (with_reducible intro h) | ((fail_if_success (with_reducible refine Leaf.mk ?_)); (fail_if_success (with_reducible refine VC.mk ?_)); (fail_if_success (with_reducible refine Goes.mk ?_)); (fail_if_success (with_reducible refine Again.mk ?_)); (fail_if_success (with_reducible refine Rounds.mk ?_)); (fail_if_success (with_reducible show False)); (fail_if_success (with_reducible show True)); conv => whnf)))
    all_goals try simp only [twoT_n, twoT_c0, twoT_c1, at_n, at_rows, Int.ofNat_eq_natCast] at *
    all_goals try with_reducible exact trivial
    all_goals try (simp only [decide_eq_true_eq, decide_eq_false_iff_not] at *)
    all_goals try (exfalso; omega)
    all_goals try (simp only [decide_eq_true_eq, decide_eq_false_iff_not, Bool.not_eq_true', Bool.not_eq_false'] at *)
    all_goals try (refine VC.mk ?_; first | exact trivial | omega | (simp only [InR]; omega) | assumption | (simp; done))
    
    all_goals try (refine rounds_one (pl := []) T_ok (Cons.cons con_growK (Cons.nil _)) mixed (by kernel_rfl) ?_; repeat' (first | (with_reducible refine And.intro ?_ ?_) | (with_reducible intro h) | ((fail_if_success (with_reducible refine Leaf.mk ?_)); (fail_if_success (with_reducible refine VC.mk ?_)); (fail_if_success (with_reducible refine Goes.mk ?_)); (fail_if_success (with_reducible refine Again.mk ?_)); (fail_if_success (with_reducible refine Rounds.mk ?_)); (fail_if_success (with_reducible show False)); (fail_if_success (with_reducible show True)); conv => whnf)))
    all_goals try simp only [twoT_n, twoT_c0, twoT_c1, at_n, at_rows, Int.ofNat_eq_natCast] at *
    all_goals try with_reducible exact trivial
    all_goals try (simp only [decide_eq_true_eq, decide_eq_false_iff_not] at *)
    all_goals try (exfalso; omega)
    all_goals try (simp only [decide_eq_true_eq, decide_eq_false_iff_not, Bool.not_eq_true', Bool.not_eq_false'] at *)
    all_goals try (refine VC.mk ?_; first | exact trivial | omega | (simp only [InR]; omega) | assumption | (simp; done))
    
    all_goals try refine goes_rounds 3 ?_
    all_goals try (refine rounds_one (pl := []) T_ok (Cons.cons con_growK (Cons.nil _)) mixed (by kernel_rfl) ?_; repeat' (first | (with_reducible refine And.intro ?_ ?_) | (with_reducible intro h) | ((fail_if_success (with_reducible refine Leaf.mk ?_)); (fail_if_success (with_reducible refine VC.mk ?_)); (fail_if_success (with_reducible refine Goes.mk ?_)); (fail_if_success (with_reducible refine Again.mk ?_)); (fail_if_success (with_reducible refine Rounds.mk ?_)); (fail_if_success (with_reducible show False)); (fail_if_success (with_reducible show True)); conv => whnf)))
    all_goals try simp only [twoT_n, twoT_c0, twoT_c1, at_n, at_rows, Int.ofNat_eq_natCast] at *
    all_goals try with_reducible exact trivial
    all_goals try (simp only [decide_eq_true_eq, decide_eq_false_iff_not] at *)
    all_goals try (exfalso; omega)
    all_goals try (simp only [decide_eq_true_eq, decide_eq_false_iff_not, Bool.not_eq_true', Bool.not_eq_false'] at *)
    all_goals try (refine VC.mk ?_; first | exact trivial | omega | (simp only [InR]; omega) | assumption | (simp; done))
    
    all_goals try (refine rounds_one (pl := []) T_ok (Cons.cons con_growK (Cons.nil _)) mixed (by kernel_rfl) ?_; repeat' (first | (with_reducible refine And.intro ?_ ?_) | (with_reducible intro h) | ((fail_if_success (with_reducible refine Leaf.mk ?_)); (fail_if_success (with_reducible refine VC.mk ?_)); (fail_if_success (with_reducible refine Goes.mk ?_)); (fail_if_success (with_reducible refine Again.mk ?_)); (fail_if_success (with_reducible refine Rounds.mk ?_)); (fail_if_success (with_reducible show False)); (fail_if_success (with_reducible show True)); conv => whnf)))
    all_goals try simp only [twoT_n, twoT_c0, twoT_c1, at_n, at_rows, Int.ofNat_eq_natCast] at *
    all_goals try with_reducible exact trivial
    all_goals try (simp only [decide_eq_true_eq, decide_eq_false_iff_not] at *)
    all_goals try (exfalso; omega)
    all_goals try (simp only [decide_eq_true_eq, decide_eq_false_iff_not, Bool.not_eq_true', Bool.not_eq_false'] at *)
    all_goals try (refine VC.mk ?_; first | exact trivial | omega | (simp only [InR]; omega) | assumption | (simp; done))
    
    all_goals try (refine rounds_one (pl := []) T_ok (Cons.cons con_growK (Cons.nil _)) mixed (by kernel_rfl) ?_; repeat' (first | (with_reducible refine And.intro ?_ ?_) | (with_reducible intro h) | ((fail_if_success (with_reducible refine Leaf.mk ?_)); (fail_if_success (with_reducible refine VC.mk ?_)); (fail_if_success (with_reducible refine Goes.mk ?_)); (fail_if_success (with_reducible refine Again.mk ?_)); (fail_if_success (with_reducible refine Rounds.mk ?_)); (fail_if_success (with_reducible show False)); (fail_if_success (with_reducible show True)); conv => whnf)))
    all_goals try simp only [twoT_n, twoT_c0, twoT_c1, at_n, at_rows, Int.ofNat_eq_natCast] at *
    all_goals try with_reducible exact trivial
    all_goals try (simp only [decide_eq_true_eq, decide_eq_false_iff_not] at *)
    all_goals try (exfalso; omega)
    all_goals try (simp only [decide_eq_true_eq, decide_eq_false_iff_not, Bool.not_eq_true', Bool.not_eq_false'] at *)
    all_goals try (refine VC.mk ?_; first | exact trivial | omega | (simp only [InR]; omega) | assumption | (simp; done))
    
    all_goals try (refine VC.mk ?_; rcases Nat.eq_zero_or_pos x.D.n with e1 | e1 <;> rcases Nat.eq_zero_or_pos y.D.n with e2 | e2 <;> simp [e1, e2, DT.rows, List.take_append] <;> omega)
    all_goals try (refine VC.mk ?_; simp [DT.rows_length]; done)
    all_goals try (refine VC.mk ?_; simp [DT.rows_length]; omega)
    all_goals try (refine Leaf.mk ?_; simp only [Nat.zero_add]; rw [List.take_of_length_le (by simp [DT.rows_length])]; simp [DT.rows_length, List.take_of_length_le]; done)
    all_goals try (refine Leaf.mk ?_; rcases Nat.eq_zero_or_pos x.D.n with e1 | e1 <;> rcases Nat.eq_zero_or_pos y.D.n with e2 | e2 <;> simp [e1, e2] <;> omega)
    all_goals try (exact absurd (of_decide_eq_true (p := 0 + (x.D.n : Int) < 0) ‹_›) (by omega))
    all_goals try (exact absurd (of_decide_eq_true (p := 0 + (x.D.n : Int) + (y.D.n : Int) < 0) ‹_›) (by omega))
    all_goals try (exact absurd (of_decide_eq_false (p := (0 : Int) < ((2 : Nat) : Int)) ‹_›) (by decide))
    all_goals try (refine Leaf.mk ?_; exact sum0 _ _)
    all_goals try (refine VC.mk ?_; intro hh; simp at hh; simp [hh, DT.rows]; done)
    all_goals try (refine VC.mk ?_; intro hh; simp; intro h2; omega)

end Go.Proofs.YtohjifnkajhhnaaGreat

namespace Go.Proofs.YtohjifnkajhhnaaGreat
open Go.RowKit Fx Vx Bx Ev
set_option linter.unusedVariables false
set_option linter.unusedSimpArgs false
def feBad (B D : DT) (i : Nat) : Bool := !feB B (D.ci i 0) (D.ci i 1) (D.ci i 2) (D.ci i 3)
def mfBad (C : DT) (i : Nat) : Bool := !mfB (C.ci i 4) (C.ci i 5) (C.cs i 6)
def ctKey (C : DT) (i : Nat) : List Int := [C.ci i 0, C.ci i 1, C.ci i 2, C.ci i 3]
def ctKeys (C : DT) (n : Nat) : List (List Int) := (List.range n).map (ctKey C)
theorem ctKeys_len (C : DT) (n : Nat) : (ctKeys C n).length = n := by simp [ctKeys]
theorem ctKeys_succ (C : DT) (n : Nat) : ctKeys C (n + 1) = ctKeys C n ++ [ctKey C n] := by simp [ctKeys, List.range_succ]
/-- Whether the contacts are valid. -/
def ctB (B C O : DT) : Bool :=
  if 0 ≤ idxI (mfBad C) C.n then false
  else keysB (ctKeys C C.n) && (keysB (O.rows 4) && !decide (0 ≤ idxI (feBad B (rowT 0 0 (ctKeys C C.n ++ O.rows 4))) (ctKeys C C.n ++ O.rows 4).length))
theorem mfBad_yes {C : DT} {i : Nat} (h : mfB (C.ci i 4) (C.ci i 5) (C.cs i 6) = false) : mfBad C i = true := by unfold mfBad; rw [h]; rfl
theorem mfBad_no {C : DT} {i : Nat} (h : mfB (C.ci i 4) (C.ci i 5) (C.cs i 6) = true) : mfBad C i = false := by unfold mfBad; rw [h]; rfl
def c_world_feBad : Con := ⟨40, dpRun [.st keyC', .pt worldC] (fun | [a, f, b, g, ts, gx, gy, it, ss, B, J, C, O, nx, fr] => [B.D.n ≤ 4611686018427387904] | _ => [False]) fun
  | [a, f, b, g, ts, gx, gy, it, ss, B, J, C, O, nx, fr] => [.val (.bool (!feB B.D a.i f.i b.i g.i))]
  | _ => []⟩
set_option maxRecDepth 100000 in
set_option maxHeartbeats 4000000 in
theorem con_world_feBad : c_world_feBad.Ok Tryz.prog := by
  refine con_dp (C := [c_world_fixturesExist]) (pl := []) Tryz.func40 rfl (by kernel_rfl) T_ok (Cons.cons con_world_fixturesExist (Cons.nil _)) mixed (by kernel_rfl) _ _ _ (fun l ps hl hps hpre => ?_)
  match l, hl, ps, hps with
  | [a, f, b, g, ts, gx, gy, it, ss, B, J, C, O, nx, fr], zl, [q0], zp =>
    clear zl zp
    have hp0 := hpre _ (List.Mem.head _); try dsimp only at hp0
    clear hpre
    repeat' (first | (with_reducible refine And.intro ?_ ?_) | (with_reducible intro h) | ((fail_if_success (with_reducible refine Leaf.mk ?_)); (fail_if_success (with_reducible refine VC.mk ?_)); (fail_if_success (with_reducible refine Goes.mk ?_)); (fail_if_success (with_reducible refine Again.mk ?_)); (fail_if_success (with_reducible refine Rounds.mk ?_)); (fail_if_success (with_reducible show False)); (fail_if_success (with_reducible show True)); conv => whnf))
    all_goals try with_reducible exact trivial
    all_goals try (simp only [decide_eq_true_eq, decide_eq_false_iff_not, Bool.not_eq_true', Bool.not_eq_false'] at *)
    all_goals try (refine VC.mk ?_; first | exact trivial | omega | (simp only [InR]; omega) | assumption)
    all_goals (refine Leaf.mk ?_; first | rfl | (simp [*]; done))
def c_indexKey : Con := ⟨81, dpRun [.rw 4, .fn 40 [worldC]] (fun | [a0, ts, gx, gy, it, ss, B, J, C, O, nx, fr] => [a0.D.n ≤ 4611686018427387904, B.D.n ≤ 4611686018427387904] | _ => [False]) fun
  | [a0, ts, gx, gy, it, ss, B, J, C, O, nx, fr] => [.val (.int .i64 (idxI (feBad B.D a0.D) a0.D.n))]
  | _ => []⟩
set_option maxRecDepth 100000 in
set_option maxHeartbeats 4000000 in
theorem con_indexKey : c_indexKey.Ok Tryz.prog := by
  refine con_dp (C := [c_world_feBad]) (pl := []) Tryz.func81 rfl (by kernel_rfl) T_ok (Cons.cons con_world_feBad (Cons.nil _)) mixed (by kernel_rfl) _ _ _ (fun l ps hl hps hpre => ?_)
  match l, hl, ps, hps with
  | [a0, ts, gx, gy, it, ss, B, J, C, O, nx, fr], zl, [q0, q1], zp =>
    clear zl zp
    have hp0 := hpre _ (List.Mem.head _); try dsimp only at hp0
    have hp1 := hpre _ (List.Mem.tail _ (List.Mem.head _)); try dsimp only at hp1
    clear hpre
    repeat' (first | (with_reducible refine And.intro ?_ ?_) | (with_reducible intro h) | ((fail_if_success (with_reducible refine Leaf.mk ?_)); (fail_if_success (with_reducible refine VC.mk ?_)); (fail_if_success (with_reducible refine Goes.mk ?_)); (fail_if_success (with_reducible refine Again.mk ?_)); (fail_if_success (with_reducible refine Rounds.mk ?_)); (fail_if_success (with_reducible show False)); (fail_if_success (with_reducible show True)); conv => whnf))
    all_goals try with_reducible exact trivial
    refine goes_inv (X := Nat) (pl := []) T_ok (Cons.cons con_world_feBad (Cons.nil _)) mixed (by kernel_rfl)
      (fun k => (.ds a0.nl (intsC 4) (a0.D.at q0.1 q0.2) :: .clo 40 [.dp worldC (boxT q1.1 q1.2 [ts, gx, gy, it, ss, B, J, C, O, nx, fr]) 0 0] :: .any :: .any :: .lit .i64 0 :: .any :: .ds a0.nl (intsC 4) (a0.D.at q0.1 q0.2) :: .int .i64 (a0.D.n : Int) :: .int .i64 (k : Int) :: .any :: .any :: .any :: .any :: .any :: .any :: .any :: .any :: .any :: .any :: [], []))
      (fun k => k ≤ a0.D.n ∧ idxN (feBad B.D a0.D) k = none) (fun k => a0.D.n - k) 0 [] ⟨Nat.zero_le _, rfl⟩ ?_ ?_ ?_
    · repeat' (first | (with_reducible refine And.intro ?_ ?_) | (with_reducible intro h) | ((fail_if_success (with_reducible refine Leaf.mk ?_)); (fail_if_success (with_reducible refine VC.mk ?_)); (fail_if_success (with_reducible refine Goes.mk ?_)); (fail_if_success (with_reducible refine Again.mk ?_)); (fail_if_success (with_reducible refine Rounds.mk ?_)); (fail_if_success (with_reducible show False)); (fail_if_success (with_reducible show True)); conv => whnf))
      all_goals first | exact trivial | (refine Leaf.mk ?_; first | rfl | exact ⟨rfl, rfl⟩ | (simp; done))
    · repeat' (first | (with_reducible refine And.intro ?_ ?_) | (with_reducible intro h) | ((fail_if_success (with_reducible refine Leaf.mk ?_)); (fail_if_success (with_reducible refine VC.mk ?_)); (fail_if_success (with_reducible refine Goes.mk ?_)); (fail_if_success (with_reducible refine Again.mk ?_)); (fail_if_success (with_reducible refine Rounds.mk ?_)); (fail_if_success (with_reducible show False)); (fail_if_success (with_reducible show True)); conv => whnf))
      all_goals first | exact trivial | (refine Leaf.mk ?_; first | rfl | exact ⟨rfl, rfl⟩ | (simp; done))
    · intro k hx
      rcases Nat.lt_or_ge k a0.D.n with hk | hk
      · have hd : decide ((k : Int) < (a0.D.n : Int)) = true := by simp; omega
        cases hb : feBad B.D a0.D k with
        | true =>
          repeat' (first | (with_reducible refine And.intro ?_ ?_) | (with_reducible intro h; try with_reducible first | exact (bcS hd h).elim) | ((fail_if_success (with_reducible refine Leaf.mk ?_)); (fail_if_success (with_reducible refine VC.mk ?_)); (fail_if_success (with_reducible refine Goes.mk ?_)); (fail_if_success (with_reducible refine Again.mk ?_)); (fail_if_success (with_reducible refine Rounds.mk ?_)); (fail_if_success (with_reducible show False)); (fail_if_success (with_reducible show True)); conv => whnf))
          all_goals try simp only [Int.toNat_natCast] at *
          all_goals try with_reducible exact trivial
          all_goals try (refine VC.mk ?_; first | exact trivial | omega | (simp only [InR]; omega) | (show (k : Int) < (a0.D.n : Int); omega) | (show k < a0.D.n; omega) | exact hp1)
          all_goals try (refine Leaf.mk ?_; exact (idxI_hit hx.2 hb hk).symm)
          all_goals first
            | exact (bcS hb (by assumption)).elim
            | skip
          skip
        | false =>
          repeat' (first | (with_reducible refine And.intro ?_ ?_) | (with_reducible intro h; try with_reducible first | exact (bcS hd h).elim) | ((fail_if_success (with_reducible refine Leaf.mk ?_)); (fail_if_success (with_reducible refine VC.mk ?_)); (fail_if_success (with_reducible refine Goes.mk ?_)); (fail_if_success (with_reducible refine Again.mk ?_)); (fail_if_success (with_reducible refine Rounds.mk ?_)); (fail_if_success (with_reducible show False)); (fail_if_success (with_reducible show True)); conv => whnf))
          all_goals try simp only [Int.toNat_natCast] at *
          all_goals try with_reducible exact trivial
          all_goals try (refine VC.mk ?_; first | exact trivial | omega | (simp only [InR]; omega) | (show (k : Int) < (a0.D.n : Int); omega) | (show k < a0.D.n; omega) | exact hp1)
          all_goals first
            | exact (bcS (by assumption) hb).elim
            | skip
          all_goals (refine Again.mk ⟨k + 1, [], ⟨by omega, idxN_next hx.2 hb⟩, (by show a0.D.n - (k + 1) < a0.D.n - k; omega), ?_, ?_⟩ <;> (repeat' (first | (with_reducible refine And.intro ?_ ?_) | (with_reducible intro h) | ((fail_if_success (with_reducible refine Leaf.mk ?_)); (fail_if_success (with_reducible refine VC.mk ?_)); (fail_if_success (with_reducible refine Goes.mk ?_)); (fail_if_success (with_reducible refine Again.mk ?_)); (fail_if_success (with_reducible refine Rounds.mk ?_)); (fail_if_success (with_reducible show False)); (fail_if_success (with_reducible show True)); conv => whnf))) <;> first | exact trivial | (refine Leaf.mk ?_; first | rfl | (simp; done)))
          skip
      · have e : k = a0.D.n := by omega
        have hd : decide ((k : Int) < (a0.D.n : Int)) = false := by simp; omega
        repeat' (first | (with_reducible refine And.intro ?_ ?_) | (with_reducible intro h; try with_reducible first | exact (bcS h hd).elim) | ((fail_if_success (with_reducible refine Leaf.mk ?_)); (fail_if_success (with_reducible refine VC.mk ?_)); (fail_if_success (with_reducible refine Goes.mk ?_)); (fail_if_success (with_reducible refine Again.mk ?_)); (fail_if_success (with_reducible refine Rounds.mk ?_)); (fail_if_success (with_reducible show False)); (fail_if_success (with_reducible show True)); conv => whnf))
        all_goals try with_reducible exact trivial
        all_goals try (refine VC.mk ?_; first | exact trivial | omega | (simp only [InR]; omega))
        all_goals (refine Leaf.mk ?_; exact (idxI_no (by rw [← e]; exact hx.2)).symm)
def c_containsKey : Con := ⟨38, dpRun [.rw 4, .fn 40 [worldC]] (fun | [a0, ts, gx, gy, it, ss, B, J, C, O, nx, fr] => [a0.D.n ≤ 4611686018427387904, B.D.n ≤ 4611686018427387904] | _ => [False]) fun
  | [a0, ts, gx, gy, it, ss, B, J, C, O, nx, fr] => [.val (.bool (decide (0 ≤ idxI (feBad B.D a0.D) a0.D.n)))]
  | _ => []⟩
set_option maxRecDepth 100000 in
set_option maxHeartbeats 4000000 in
theorem con_containsKey : c_containsKey.Ok Tryz.prog := by
  refine con_dp (C := [c_indexKey]) (pl := []) Tryz.func38 rfl (by kernel_rfl) T_ok (Cons.cons con_indexKey (Cons.nil _)) mixed (by kernel_rfl) _ _ _ (fun l ps hl hps hpre => ?_)
  match l, hl, ps, hps with
  | [a0, ts, gx, gy, it, ss, B, J, C, O, nx, fr], zl, [q0, q1], zp =>
    clear zl zp
    have hp0 := hpre _ (List.Mem.head _); try dsimp only at hp0
    have hp1 := hpre _ (List.Mem.tail _ (List.Mem.head _)); try dsimp only at hp1
    clear hpre
    repeat' (first | (with_reducible refine And.intro ?_ ?_) | (with_reducible intro h) | ((fail_if_success (with_reducible refine Leaf.mk ?_)); (fail_if_success (with_reducible refine VC.mk ?_)); (fail_if_success (with_reducible refine Goes.mk ?_)); (fail_if_success (with_reducible refine Again.mk ?_)); (fail_if_success (with_reducible refine Rounds.mk ?_)); (fail_if_success (with_reducible show False)); (fail_if_success (with_reducible show True)); conv => whnf))
    all_goals try with_reducible exact trivial
    all_goals try (simp only [decide_eq_true_eq, decide_eq_false_iff_not, Bool.not_eq_true', Bool.not_eq_false'] at *)
    all_goals try (refine VC.mk ?_; first | exact trivial | omega | (simp only [InR]; omega) | assumption | exact hp0 | exact hp1)
    all_goals (refine Leaf.mk ?_; first | rfl | trivial)

end Go.Proofs.YtohjifnkajhhnaaGreat

namespace Go.Proofs.YtohjifnkajhhnaaGreat
open Go.RowKit Fx Vx Bx Ev
set_option linter.unusedVariables false
set_option linter.unusedSimpArgs false
theorem rowT_n {a b : Nat} {xs : List (List Int)} : (rowT a b xs).n = xs.length := rfl
theorem ctKeys_rows {a b : Nat} {C : DT} {n : Nat} : (rowT a b (ctKeys C n)).rows 4 = ctKeys C n := by
  apply List.ext_getElem (by rw [DT.rows_length]; rfl)
  intro i h1 h2
  rw [ctKeys_len] at h2
  have hr : List.range 4 = [0, 1, 2, 3] := rfl
  have hx : ∀ j, at2 (ctKeys C n) i j = (ctKey C i).getD j 0 := fun j => by simp [at2, ctKeys, h2]
  simp only [DT.rows, List.getElem_map, List.getElem_range, hr, List.map_cons, List.map_nil]
  show [at2 (ctKeys C n) i 0, at2 (ctKeys C n) i 1, at2 (ctKeys C n) i 2, at2 (ctKeys C n) i 3] = _
  rw [hx, hx, hx, hx]
  simp [ctKeys, ctKey]
theorem boolB (b : Bool) : b = true ∨ b = false := by cases b <;> simp
def T3 : Tab := T.deep 123 [1]
theorem T3_ok : T3.Ok Tryz.prog := Tab.deep_ok T_ok _ _
def c_world_validContacts : Con := ⟨18, dpRun [.st worldC] (fun | [ts, gx, gy, it, ss, B, J, C, O, nx, fr] => [B.D.n ≤ 4611686018427387904, C.D.n ≤ 400000, O.D.n ≤ 400000] | _ => [False]) fun
  | [ts, gx, gy, it, ss, B, J, C, O, nx, fr] => [.val (.bool (ctB B.D C.D O.D))]
  | _ => []⟩
set_option maxRecDepth 100000 in
set_option maxHeartbeats 4000000 in
theorem con_world_validContacts : c_world_validContacts.Ok Tryz.prog := by
  refine con_dp (C := [c_world_validManifold, c_broadphase_ValidKeys, c_concatKey, c_containsKey]) (pl := []) Tryz.func18 rfl (by kernel_rfl) T3_ok (Cons.cons con_world_validManifold (Cons.cons con_broadphase_ValidKeys (Cons.cons con_concatKey (Cons.cons con_containsKey (Cons.nil _))))) mixed (by kernel_rfl) _ _ _ (fun l ps hl hps hpre => ?_)
  match l, hl, ps, hps with
  | [ts, gx, gy, it, ss, B, J, C, O, nx, fr], zl, [], zp =>
    clear zl zp
    have hp0 := hpre _ (List.Mem.head _); try dsimp only at hp0
    have hp1 := hpre _ (List.Mem.tail _ (List.Mem.head _)); try dsimp only at hp1
    have hp2 := hpre _ (List.Mem.tail _ (List.Mem.tail _ (List.Mem.head _))); try dsimp only at hp2
    clear hpre
    repeat' (first | (with_reducible refine And.intro ?_ ?_) | (with_reducible intro h) | ((fail_if_success (with_reducible refine Leaf.mk ?_)); (fail_if_success (with_reducible refine VC.mk ?_)); (fail_if_success (with_reducible refine Goes.mk ?_)); (fail_if_success (with_reducible refine Again.mk ?_)); (fail_if_success (with_reducible refine Rounds.mk ?_)); (fail_if_success (with_reducible show False)); (fail_if_success (with_reducible show True)); conv => whnf))
    all_goals try with_reducible exact trivial
    all_goals try (simp only [decide_eq_true_eq, decide_eq_false_iff_not, Bool.not_eq_true', Bool.not_eq_false'] at *)
    all_goals try (refine VC.mk ?_; first | exact trivial | omega | (simp only [InR]; omega) | assumption)
    refine goes_inv (X := Nat) (pl := []) T3_ok (Cons.cons con_world_validManifold (Cons.cons con_broadphase_ValidKeys (Cons.cons con_concatKey (Cons.cons con_containsKey (Cons.nil _))))) mixed (by kernel_rfl)
      (fun k => (.any :: .ptr 0 0 :: .any :: .osl (decide (k = 0)) 1 4 k :: .any :: .any :: .any :: .ds C.nl contactC C.D :: .int .i64 (C.D.n : Int) :: .int .i64 (k : Int) :: .any :: .any :: .any :: .any :: .any :: .any :: .any :: .any :: .any :: .any :: .any :: .any :: .any :: .any :: .any :: .any :: .any :: .any :: .any :: .any :: .any :: .any :: .any :: .any :: .any :: .any :: .any :: .any :: .any :: .any :: [], [.cells [.int .i64 ts.i, .int .i64 gx.i, .int .i64 gy.i, .int .i64 it.i, .int .i64 ss.i, .ds B.nl bodyC B.D, .ds J.nl jointC J.D, .ds C.nl contactC C.D, .ds O.nl keyC' O.D, .int .i64 nx.i, .int .i64 fr.i], .arr true (!decide (k = 0)) 4 (ctKeys C.D k)]))
      (fun k => k ≤ C.D.n ∧ idxN (mfBad C.D) k = none) (fun k => C.D.n - k) 0 [0, 1] ⟨Nat.zero_le _, rfl⟩ ?_ ?_ ?_
    · repeat' (first | (with_reducible refine And.intro ?_ ?_) | (with_reducible intro h) | ((fail_if_success (with_reducible refine Leaf.mk ?_)); (fail_if_success (with_reducible refine VC.mk ?_)); (fail_if_success (with_reducible refine Goes.mk ?_)); (fail_if_success (with_reducible refine Again.mk ?_)); (fail_if_success (with_reducible refine Rounds.mk ?_)); (fail_if_success (with_reducible show False)); (fail_if_success (with_reducible show True)); conv => whnf))
      all_goals first | exact trivial | (refine Leaf.mk ?_; first | rfl | exact ⟨rfl, rfl⟩ | (simp; done))
    · repeat' (first | (with_reducible refine And.intro ?_ ?_) | (with_reducible intro h) | ((fail_if_success (with_reducible refine Leaf.mk ?_)); (fail_if_success (with_reducible refine VC.mk ?_)); (fail_if_success (with_reducible refine Goes.mk ?_)); (fail_if_success (with_reducible refine Again.mk ?_)); (fail_if_success (with_reducible refine Rounds.mk ?_)); (fail_if_success (with_reducible show False)); (fail_if_success (with_reducible show True)); conv => whnf))
      all_goals first | exact trivial | (refine Leaf.mk ?_; first | rfl | exact ⟨rfl, rfl⟩ | (simp; done))
    · intro k hx
      obtain ⟨x1, x2⟩ := hx
      rcases Nat.lt_or_ge k C.D.n with hk | hk
      · have hd : decide ((k : Int) < (C.D.n : Int)) = true := by simp; omega
        repeat' (first | (with_reducible refine And.intro ?_ ?_) | (with_reducible intro h; try with_reducible first | exact (bcS hd h).elim) | ((fail_if_success (with_reducible refine Leaf.mk ?_)); (fail_if_success (with_reducible refine VC.mk ?_)); (fail_if_success (with_reducible refine Goes.mk ?_)); (fail_if_success (with_reducible refine Again.mk ?_)); (fail_if_success (with_reducible refine Rounds.mk ?_)); (fail_if_success (with_reducible show False)); (fail_if_success (with_reducible show True)); conv => whnf))
        all_goals try simp only [Int.toNat_natCast] at *
        all_goals try with_reducible exact trivial
        all_goals try (simp only [decide_eq_true_eq, decide_eq_false_iff_not, Bool.not_eq_true', Bool.not_eq_false'] at *)
        all_goals try (refine VC.mk ?_; (try simp only [ctKeys_len, InR] at *); first | exact trivial | omega | (simp; done) | (refine ⟨?_, by simp⟩; intro; simp; omega) | (intro; simp; omega) | (simp [ctKeys]; done) | (simp; omega) | (intro h; simp [h, ctKeys]; done))
        all_goals try (refine Leaf.mk ?_; symm; unfold ctB; rw [if_pos (by rw [idxI_hit x2 (mfBad_yes (by with_reducible assumption)) hk]; omega)]; done)
        all_goals try (refine Again.mk ⟨k + 1, [0, 4], ⟨by omega, idxN_next x2 (mfBad_no (by with_reducible assumption))⟩, (by show C.D.n - (k + 1) < C.D.n - k; omega), ?_, ?_⟩ <;> (repeat' (first | (with_reducible refine And.intro ?_ ?_) | (with_reducible intro h) | ((fail_if_success (with_reducible refine Leaf.mk ?_)); (fail_if_success (with_reducible refine VC.mk ?_)); (fail_if_success (with_reducible refine Goes.mk ?_)); (fail_if_success (with_reducible refine Again.mk ?_)); (fail_if_success (with_reducible refine Rounds.mk ?_)); (fail_if_success (with_reducible show False)); (fail_if_success (with_reducible show True)); conv => whnf))) <;> first | exact trivial | (refine Leaf.mk ?_; first | rfl | exact ⟨rfl, rfl⟩ | (simp; done) | (refine ⟨by simp, ?_⟩; rw [ctKeys_succ, List.take_of_length_le (by rw [ctKeys_len]; omega)]; rfl)))
      · obtain rfl : k = C.D.n := by omega
        have hd : decide ((C.D.n : Int) < (C.D.n : Int)) = false := by simp
        have hi := idxI_no x2
        have e : ctB B.D C.D O.D = (keysB (ctKeys C.D C.D.n) && (keysB (O.D.rows 4) && !decide (0 ≤ idxI (feBad B.D (rowT 0 0 (ctKeys C.D C.D.n ++ O.D.rows 4))) (ctKeys C.D C.D.n ++ O.D.rows 4).length))) := if_neg (by rw [hi]; omega)
        rw [e]
        have tk : List.take C.D.n (ctKeys C.D C.D.n) = ctKeys C.D C.D.n := List.take_of_length_le (by rw [ctKeys_len]; exact Nat.le_refl _)
        repeat' (first | (with_reducible refine And.intro ?_ ?_) | (with_reducible intro h; try with_reducible first | exact (bcS h hd).elim) | ((fail_if_success (with_reducible refine Leaf.mk ?_)); (fail_if_success (with_reducible refine VC.mk ?_)); (fail_if_success (with_reducible refine Goes.mk ?_)); (fail_if_success (with_reducible refine Again.mk ?_)); (fail_if_success (with_reducible refine Rounds.mk ?_)); (fail_if_success (with_reducible show False)); (fail_if_success (with_reducible show True)); conv => whnf))
        all_goals try with_reducible exact trivial
        all_goals try simp only [tk] at *
        all_goals try simp only [ctKeys_rows, List.take_length, rowT_n] at *
        all_goals try (refine VC.mk ?_; exact boolB _)
        all_goals try (simp only [Bool.not_eq_true', Bool.not_eq_false'] at *)
        all_goals try (refine VC.mk ?_; first | exact trivial | omega | exact ⟨by cases decide (C.D.n = 0) <;> simp, by rw [ctKeys_len]; exact Nat.le_refl _⟩ | (rw [ctKeys_len]; omega) | (rw [DT.rows_length]; omega))
        all_goals try (refine VC.mk ?_; first | exact boolB _ | (simp [ctKeys_len, DT.rows_length]; omega))
        all_goals try (refine Leaf.mk ?_; simp only [*, Bool.false_and, Bool.true_and]; done)

end Go.Proofs.YtohjifnkajhhnaaGreat

namespace Go.Proofs.YtohjifnkajhhnaaGreat
open Go.RowKit Fx Vx Bx Ev
set_option linter.unusedVariables false
set_option linter.unusedSimpArgs false
/-- Whether a world is valid. -/
def wdV (ts gx gy it ss : Int) (B J C O : DT) (nx fr : Int) : Int :=
  if setV ts gx gy it ss ≠ 0 then 17
  else if 32 < B.n ∨ 32 < J.n ∨ 8192 < C.n ∨ 8192 < O.n then 11
  else if inB nx 1 1099511627776 = false ∨ inB fr 0 1099511627776 = false then 6
  else if 0 ≤ idxI (bdBad nx B) B.n then 14
  else if 0 ≤ idxI (jtBad nx B J) J.n then 15
  else if ctB B C O = false then 16
  else 0
def c_world_Validate : Con := ⟨7, dpRun [.st worldC] (fun | [ts, gx, gy, it, ss, B, J, C, O, nx, fr] => [] | _ => [False]) fun
  | [ts, gx, gy, it, ss, B, J, C, O, nx, fr] => [.val (.int .i64 (wdV ts.i gx.i gy.i it.i ss.i B.D J.D C.D O.D nx.i fr.i))]
  | _ => []⟩
set_option maxRecDepth 100000 in
set_option maxHeartbeats 4000000 in
theorem con_world_Validate : c_world_Validate.Ok Tryz.prog := by
  refine con_dp (C := [c_world_ValidateSettings, c_world_in, c_world_validBodies, c_world_validJoints, c_world_validContacts]) (pl := []) Tryz.func7 rfl (by kernel_rfl) T_ok (Cons.cons con_world_ValidateSettings (Cons.cons con_world_in (Cons.cons con_world_validBodies (Cons.cons con_world_validJoints (Cons.cons con_world_validContacts (Cons.nil _)))))) mixed (by kernel_rfl) _ _ _ (fun l ps hl hps hpre => ?_)
  match l, hl, ps, hps with
  | [ts, gx, gy, it, ss, B, J, C, O, nx, fr], zl, [], zp =>
    clear zl zp
    clear hpre
    repeat' (first | (with_reducible refine And.intro ?_ ?_) | (with_reducible intro h) | ((fail_if_success (with_reducible refine Leaf.mk ?_)); (fail_if_success (with_reducible refine VC.mk ?_)); (fail_if_success (with_reducible refine Goes.mk ?_)); (fail_if_success (with_reducible refine Again.mk ?_)); (fail_if_success (with_reducible refine Rounds.mk ?_)); (fail_if_success (with_reducible show False)); (fail_if_success (with_reducible show True)); conv => whnf))
    all_goals try with_reducible exact trivial
    all_goals try (simp only [decide_eq_true_eq, decide_eq_false_iff_not, Bool.not_eq_true', Bool.not_eq_false'] at *)
    all_goals try (refine VC.mk ?_; first | exact trivial | omega | (simp only [InR]; omega) | assumption)
    all_goals try (refine VC.mk ?_; omega)
    all_goals refine Leaf.mk ?_
    all_goals unfold wdV
    all_goals repeat' split
    all_goals first | rfl | contradiction | omega | (simp_all; done) | (exfalso; simp_all; omega)

end Go.Proofs.YtohjifnkajhhnaaGreat
