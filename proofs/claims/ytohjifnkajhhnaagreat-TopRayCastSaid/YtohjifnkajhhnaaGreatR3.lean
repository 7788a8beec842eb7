/- Contracts of package shape. -/
import Derived.Test.YtohjifnkajhhnaaGreatR1
import Derived.Test.YtohjifnkajhhnaaGreatGf
import Derived.Test.YtohjifnkajhhnaaGreatEX
namespace Go.Proofs.YtohjifnkajhhnaaGreat
open Go.RowKit Fx Vx Bx Ev
set_option linter.unusedVariables false
set_option linter.unusedSimpArgs false
/-- The columns of the rows. -/
abbrev I64 : Col := .i .i64
abbrev vecC : List Col := [I64, I64]
abbrev shapeC : List Col := [I64, I64, .s vecC]
abbrev fixC : List Col := [I64, I64, .s vecC, I64, I64, I64, .b, I64, I64, I64]
abbrev bodyC : List Col := [I64, I64, I64, I64, I64, I64, I64, I64, I64, I64, I64, I64, I64, I64, .b, .b, .b, .b, I64, .s fixC]
abbrev jointC : List Col := [I64, I64, I64, I64, I64, I64, I64, I64, I64, I64, I64, .b, I64, I64, .b, I64, I64, I64, I64, .b, I64, I64, I64, I64]
abbrev pointC : List Col := [I64, I64, I64, I64, I64, I64]
abbrev keyC' : List Col := [I64, I64, I64, I64]
abbrev contactC : List Col := [I64, I64, I64, I64, I64, I64, .s pointC]
abbrev worldC : List Col := [I64, I64, I64, I64, I64, .s bodyC, .s jointC, .s contactC, .s keyC', I64, I64]
/-- The first place below n at which p holds. -/
def idxN (p : Nat → Bool) : Nat → Option Nat
  | 0 => none
  | k + 1 => match idxN p k with
    | some i => some i
    | none => if p k then some k else none
def idxI (p : Nat → Bool) (n : Nat) : Int := match idxN p n with
  | some i => (i : Int)
  | none => -1
theorem idxN_next {p : Nat → Bool} {k : Nat} (h : idxN p k = none) (hp : p k = false) : idxN p (k + 1) = none := by simp [idxN, h, hp]
theorem idxN_hit {p : Nat → Bool} {k : Nat} (h : idxN p k = none) (hp : p k = true) : ∀ n, k < n → idxN p n = some k
  | n + 1, hn => by
    rcases Nat.lt_or_ge k n with e | e
    · simp [idxN, idxN_hit h hp n e]
    · obtain rfl : k = n := by omega
      simp [idxN, h, hp]
theorem idxI_hit {p : Nat → Bool} {k n : Nat} (h : idxN p k = none) (hp : p k = true) (hn : k < n) : idxI p n = (k : Int) := by unfold idxI; rw [idxN_hit h hp n hn]
theorem idxI_no {p : Nat → Bool} {n : Nat} (h : idxN p n = none) : idxI p n = -1 := by unfold idxI; rw [h]
theorem idxN_some {p : Nat → Bool} : ∀ {n i : Nat}, idxN p n = some i → i < n ∧ p i = true
  | n + 1, i, h => by
    simp only [idxN] at h
    split at h
    · rename_i j hj
      cases h
      have := idxN_some hj
      exact ⟨by omega, this.2⟩
    · split at h
      · rename_i hp; cases h; exact ⟨Nat.lt_succ_self _, hp⟩
      · cases h
theorem idxN_none {p : Nat → Bool} : ∀ {n : Nat}, idxN p n = none → ∀ i, i < n → p i = false
  | n + 1, h, i, hi => by
    simp only [idxN] at h
    split at h
    · cases h
    · rename_i hn
      split at h
      · cases h
      · rename_i hp
        rcases Nat.lt_or_ge i n with e | e
        · exact idxN_none hn i e
        · obtain rfl : i = n := by omega
          simpa using hp
theorem idxI_bd (p : Nat → Bool) (n : Nat) : -1 ≤ idxI p n ∧ idxI p n < n ∨ n = 0 ∧ idxI p n = -1 := by
  unfold idxI
  split
  · rename_i i h
    have := (idxN_some h).1
    omega
  · omega
def cntB (k : Int) (n : Nat) : Bool := if k = 1 then decide (n = 1) else if k = 2 then decide (n = 2) else decide (3 ≤ n ∧ n ≤ 8)
def vOut (D : DT) (i : Nat) : Bool := outB (D.ci i 0) || outB (D.ci i 1)
def c_shape_validCount : Con := ⟨83, dpRun [.st shapeC] (fun | [a0, a1, a2] => [] | _ => [False]) fun
  | [a0, a1, a2] => [.val (.bool (cntB a0.i a2.D.n))]
  | _ => []⟩
set_option maxRecDepth 100000 in
set_option maxHeartbeats 4000000 in
theorem con_shape_validCount : c_shape_validCount.Ok Tryz.prog := by
  refine con_dp (C := []) (pl := []) Tryz.func83 rfl (by kernel_rfl) T_ok (Cons.nil _) mixed (by kernel_rfl) _ _ _ (fun l ps hl hps hpre => ?_)
  match l, hl, ps, hps with
  | [a0, a1, a2], zl, [], zp =>
    clear zl zp
    clear hpre
    repeat' (first | (with_reducible refine And.intro ?_ ?_) | (with_reducible intro h) | ((fail_if_success (with_reducible refine Leaf.mk ?_)); (fail_if_success (with_reducible refine VC.mk ?_)); (fail_if_success (with_reducible refine Goes.mk ?_)); (fail_if_success (with_reducible refine Again.mk ?_)); (fail_if_success (with_reducible refine Rounds.mk ?_)); (fail_if_success (with_reducible show False)); (fail_if_success (with_reducible show True)); conv => whnf))
    all_goals try with_reducible exact trivial
    all_goals try (simp only [decide_eq_true_eq, decide_eq_false_iff_not, Bool.not_eq_true', Bool.not_eq_false'] at *)
    all_goals try (refine VC.mk ?_; first | exact trivial | omega | (simp only [InR]; omega) | assumption)
    all_goals (refine Leaf.mk ?_; unfold cntB; first
      | (rw [if_pos (by assumption)]; exact decide_eq_decide.2 (by omega))
      | (rw [if_neg (by omega), if_pos (by assumption)]; exact decide_eq_decide.2 (by omega))
      | (rw [if_neg (by omega), if_neg (by omega)]; first | exact decide_eq_decide.2 (by omega) | exact (decide_eq_false (by omega)).symm))
def c_shape_out : Con := ⟨85, pureRun [2] (fun _ => []) fun | [x, y] => .bool (outB x || outB y) | _ => .any⟩
set_option maxRecDepth 100000 in
set_option maxHeartbeats 1000000 in
theorem con_shape_out : c_shape_out.Ok Tryz.prog := by
  refine con_pure (C := [c_shape_outOfRange]) (pl := []) Tryz.func85 rfl (by kernel_rfl) T_ok (Cons.cons con_shape_outOfRange (Cons.nil _)) mixed (by kernel_rfl) _ _ _ (fun l hl hpre => ?_)
  match l, hl with
  | [x, y], _ =>
    repeat' (first | (with_reducible refine And.intro ?_ ?_) | (with_reducible intro h) | ((fail_if_success (with_reducible refine Leaf.mk ?_)); (fail_if_success (with_reducible refine VC.mk ?_)); (fail_if_success (with_reducible refine Goes.mk ?_)); (fail_if_success (with_reducible refine Again.mk ?_)); (fail_if_success (with_reducible refine Rounds.mk ?_)); (fail_if_success (with_reducible show False)); (fail_if_success (with_reducible show True)); conv => whnf))
    all_goals try with_reducible exact trivial
    all_goals try (simp only [decide_eq_true_eq, decide_eq_false_iff_not, Bool.not_eq_true', Bool.not_eq_false'] at *)
    all_goals try (refine VC.mk ?_; first | exact trivial | omega | (simp only [InR]; omega) | assumption)
    all_goals (refine Leaf.mk ?_; first | rfl | (simp [*]; done))
def c_indexVec : Con := ⟨123, dpRun [.c (.s vecC), .fn 85 []] (fun | [a0] => [a0.D.n ≤ 4611686018427387904] | _ => [False]) fun
  | [a0] => [.val (.int .i64 (idxI (vOut a0.D) a0.D.n))]
  | _ => []⟩
set_option maxRecDepth 100000 in
set_option maxHeartbeats 4000000 in
theorem con_indexVec : c_indexVec.Ok Tryz.prog := by
  refine con_dp (C := [c_shape_out]) (pl := []) Tryz.func123 rfl (by kernel_rfl) T_ok (Cons.cons con_shape_out (Cons.nil _)) mixed (by kernel_rfl) _ _ _ (fun l ps hl hps hpre => ?_)
  match l, hl, ps, hps with
  | [a0], zl, [], zp =>
    clear zl zp
    have hp0 := hpre _ (List.Mem.head _); try dsimp only at hp0
    clear hpre
    repeat' (first | (with_reducible refine And.intro ?_ ?_) | (with_reducible intro h) | ((fail_if_success (with_reducible refine Leaf.mk ?_)); (fail_if_success (with_reducible refine VC.mk ?_)); (fail_if_success (with_reducible refine Goes.mk ?_)); (fail_if_success (with_reducible refine Again.mk ?_)); (fail_if_success (with_reducible refine Rounds.mk ?_)); (fail_if_success (with_reducible show False)); (fail_if_success (with_reducible show True)); conv => whnf))
    all_goals try with_reducible exact trivial
    refine goes_inv (X := Nat) (pl := []) T_ok (Cons.cons con_shape_out (Cons.nil _)) mixed (by kernel_rfl)
      (fun k => (.ds a0.nl vecC a0.D :: .clo 85 [] :: .any :: .any :: .lit .i64 0 :: .any :: .ds a0.nl vecC a0.D :: .int .i64 (a0.D.n : Int) :: .int .i64 (k : Int) :: .any :: .any :: .any :: .any :: .any :: .any :: .any :: .any :: .any :: .any :: [], []))
      (fun k => k ≤ a0.D.n ∧ idxN (vOut a0.D) k = none) (fun k => a0.D.n - k) 0 [] ⟨Nat.zero_le _, rfl⟩ ?_ ?_ ?_
    · repeat' (first | (with_reducible refine And.intro ?_ ?_) | (with_reducible intro h) | ((fail_if_success (with_reducible refine Leaf.mk ?_)); (fail_if_success (with_reducible refine VC.mk ?_)); (fail_if_success (with_reducible refine Goes.mk ?_)); (fail_if_success (with_reducible refine Again.mk ?_)); (fail_if_success (with_reducible refine Rounds.mk ?_)); (fail_if_success (with_reducible show False)); (fail_if_success (with_reducible show True)); conv => whnf))
      all_goals first | exact trivial | (refine Leaf.mk ?_; first | rfl | exact ⟨rfl, rfl⟩ | (simp; done))
    · repeat' (first | (with_reducible refine And.intro ?_ ?_) | (with_reducible intro h) | ((fail_if_success (with_reducible refine Leaf.mk ?_)); (fail_if_success (with_reducible refine VC.mk ?_)); (fail_if_success (with_reducible refine Goes.mk ?_)); (fail_if_success (with_reducible refine Again.mk ?_)); (fail_if_success (with_reducible refine Rounds.mk ?_)); (fail_if_success (with_reducible show False)); (fail_if_success (with_reducible show True)); conv => whnf))
      all_goals first | exact trivial | (refine Leaf.mk ?_; first | rfl | exact ⟨rfl, rfl⟩ | (simp; done))
    · intro k hx
      rcases Nat.lt_or_ge k a0.D.n with hk | hk
      · have hd : decide ((k : Int) < (a0.D.n : Int)) = true := by simp; omega
        cases hb : vOut a0.D k with
        | true =>
          repeat' (first | (with_reducible refine And.intro ?_ ?_) | (with_reducible intro h; try with_reducible first | exact (bcS hd h).elim) | ((fail_if_success (with_reducible refine Leaf.mk ?_)); (fail_if_success (with_reducible refine VC.mk ?_)); (fail_if_success (with_reducible refine Goes.mk ?_)); (fail_if_success (with_reducible refine Again.mk ?_)); (fail_if_success (with_reducible refine Rounds.mk ?_)); (fail_if_success (with_reducible show False)); (fail_if_success (with_reducible show True)); conv => whnf))
          all_goals try simp only [Int.toNat_natCast] at *
          all_goals try with_reducible exact trivial
          all_goals try (refine VC.mk ?_; first | exact trivial | omega | (simp only [InR]; omega) | (show (k : Int) < (a0.D.n : Int); omega) | (show k < a0.D.n; omega) | exact hp1)
          all_goals try (refine Leaf.mk ?_; exact (idxI_hit hx.2 hb hk).symm)
          all_goals first
            | exact (bcS hb (by assumption)).elim
            | skip
          skip
        | false =>
          repeat' (first | (with_reducible refine And.intro ?_ ?_) | (with_reducible intro h; try with_reducible first | exact (bcS hd h).elim) | ((fail_if_success (with_reducible refine Leaf.mk ?_)); (fail_if_success (with_reducible refine VC.mk ?_)); (fail_if_success (with_reducible refine Goes.mk ?_)); (fail_if_success (with_reducible refine Again.mk ?_)); (fail_if_success (with_reducible refine Rounds.mk ?_)); (fail_if_success (with_reducible show False)); (fail_if_success (with_reducible show True)); conv => whnf))
          all_goals try simp only [Int.toNat_natCast] at *
          all_goals try with_reducible exact trivial
          all_goals try (refine VC.mk ?_; first | exact trivial | omega | (simp only [InR]; omega) | (show (k : Int) < (a0.D.n : Int); omega) | (show k < a0.D.n; omega) | exact hp1)
          all_goals first
            | exact (bcS (by assumption) hb).elim
            | skip
          all_goals (refine Again.mk ⟨k + 1, [], ⟨by omega, idxN_next hx.2 hb⟩, (by show a0.D.n - (k + 1) < a0.D.n - k; omega), ?_, ?_⟩ <;> (repeat' (first | (with_reducible refine And.intro ?_ ?_) | (with_reducible intro h) | ((fail_if_success (with_reducible refine Leaf.mk ?_)); (fail_if_success (with_reducible refine VC.mk ?_)); (fail_if_success (with_reducible refine Goes.mk ?_)); (fail_if_success (with_reducible refine Again.mk ?_)); (fail_if_success (with_reducible refine Rounds.mk ?_)); (fail_if_success (with_reducible show False)); (fail_if_success (with_reducible show True)); conv => whnf))) <;> first | exact trivial | (refine Leaf.mk ?_; first | rfl | (simp; done)))
          skip
      · have e : k = a0.D.n := by omega
        have hd : decide ((k : Int) < (a0.D.n : Int)) = false := by simp; omega
        repeat' (first | (with_reducible refine And.intro ?_ ?_) | (with_reducible intro h; try with_reducible first | exact (bcS h hd).elim) | ((fail_if_success (with_reducible refine Leaf.mk ?_)); (fail_if_success (with_reducible refine VC.mk ?_)); (fail_if_success (with_reducible refine Goes.mk ?_)); (fail_if_success (with_reducible refine Again.mk ?_)); (fail_if_success (with_reducible refine Rounds.mk ?_)); (fail_if_success (with_reducible show False)); (fail_if_success (with_reducible show True)); conv => whnf))
        all_goals try with_reducible exact trivial
        all_goals try (refine VC.mk ?_; first | exact trivial | omega | (simp only [InR]; omega))
        all_goals (refine Leaf.mk ?_; exact (idxI_no (by rw [← e]; exact hx.2)).symm)
def c_containsVec : Con := ⟨84, dpRun [.c (.s vecC), .fn 85 []] (fun | [a0] => [a0.D.n ≤ 4611686018427387904] | _ => [False]) fun
  | [a0] => [.val (.bool (decide (0 ≤ idxI (vOut a0.D) a0.D.n)))]
  | _ => []⟩
set_option maxRecDepth 100000 in
set_option maxHeartbeats 4000000 in
theorem con_containsVec : c_containsVec.Ok Tryz.prog := by
  refine con_dp (C := [c_indexVec]) (pl := []) Tryz.func84 rfl (by kernel_rfl) T_ok (Cons.cons con_indexVec (Cons.nil _)) mixed (by kernel_rfl) _ _ _ (fun l ps hl hps hpre => ?_)
  match l, hl, ps, hps with
  | [a0], zl, [], zp =>
    clear zl zp
    have hp0 := hpre _ (List.Mem.head _); try dsimp only at hp0
    clear hpre
    repeat' (first | (with_reducible refine And.intro ?_ ?_) | (with_reducible intro h) | ((fail_if_success (with_reducible refine Leaf.mk ?_)); (fail_if_success (with_reducible refine VC.mk ?_)); (fail_if_success (with_reducible refine Goes.mk ?_)); (fail_if_success (with_reducible refine Again.mk ?_)); (fail_if_success (with_reducible refine Rounds.mk ?_)); (fail_if_success (with_reducible show False)); (fail_if_success (with_reducible show True)); conv => whnf))
    all_goals try with_reducible exact trivial
    all_goals try (simp only [decide_eq_true_eq, decide_eq_false_iff_not, Bool.not_eq_true', Bool.not_eq_false'] at *)
    all_goals try (refine VC.mk ?_; first | exact trivial | omega | (simp only [InR]; omega) | assumption)
    all_goals (refine Leaf.mk ?_; first | rfl | trivial)

end Go.Proofs.YtohjifnkajhhnaaGreat
