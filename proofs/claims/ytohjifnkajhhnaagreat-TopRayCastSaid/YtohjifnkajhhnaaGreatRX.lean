/- Contracts of packages body and joint. Contracts of packages body and joint, continued. Contracts of package world: numbers, manifolds, finding bodies. Contracts of package world: settings, bodies, joints, keys. Contracts of package broadphase: keys. Contracts of package world: joints and keys. Contracts of caromref40: small worlds. -/
import Derived.Test.YtohjifnkajhhnaaGreatR4
namespace Go.Proofs.YtohjifnkajhhnaaGreat
open Go.RowKit Fx Vx Bx Ev
set_option linter.unusedVariables false
set_option linter.unusedSimpArgs false
def mvB (x y z : Int) : Bool := !(decide (x = 0) && decide (y = 0)) || !decide (z = 0)
def rngB (id px py a vx vy av fx fy tq ld ad gs idle : Int) : Bool :=
  inB id 1 1099511627776 && (trB px py a && ((boxB vx vy 16777216 && inB av (-4194304) 4194304) && ((boxB fx fy 536870911 && inB tq (-536870911) 536870911) && ((inB ld 0 65536 && inB ad 0 65536) && (inB gs (-262144) 262144 && inB idle 0 1048576)))))
def conB (k vx vy av fx fy tq : Int) (bullet asleep : Bool) : Bool :=
  if k = 1 ∧ (mvB vx vy av = true ∨ mvB fx fy tq = true) then false else if k ≠ 3 ∧ (asleep = true ∨ bullet = true) then false else !asleep || !mvB vx vy av
def matB (d f r c m g : Int) : Bool := (inB d 0 262144 && (inB f 0 131072 && inB r 0 65536)) && (inB c 0 65535 && (inB m 0 65535 && inB g (-32) 32))
/-- Whether a fixture is valid. -/
def fxV (k r : Int) (D : DT) (d f e c m g : Int) : Int := if shV k r D ≠ 0 then shV k r D else if matB d f e c m g then 0 else 6
def fxAt (F : DT) (i : Nat) : Int := fxV (F.ci i 0) (F.ci i 1) (F.cs i 2) (F.ci i 3) (F.ci i 4) (F.ci i 5) (F.ci i 7) (F.ci i 8) (F.ci i 9)
def fxBad (F : DT) (i : Nat) : Bool := decide (fxAt F i ≠ 0)
def c_body_moving : Con := ⟨115, dpRun [.st bodyC] (fun | [id, kd, px, py, an, vx, vy, av, fx, fy, tq, ld, ad, gs, bu, fr, ns, sl, idl, F] => [] | _ => [False]) fun
  | [id, kd, px, py, an, vx, vy, av, fx, fy, tq, ld, ad, gs, bu, fr, ns, sl, idl, F] => [.val (.bool (mvB vx.i vy.i av.i))]
  | _ => []⟩
set_option maxRecDepth 100000 in
set_option maxHeartbeats 4000000 in
theorem con_body_moving : c_body_moving.Ok Tryz.prog := by
  refine con_dp (C := []) (pl := []) Tryz.func115 rfl (by kernel_rfl) T_ok (Cons.nil _) mixed (by kernel_rfl) _ _ _ (fun l ps hl hps hpre => ?_)
  match l, hl, ps, hps with
  | [id, kd, px, py, an, vx, vy, av, fx, fy, tq, ld, ad, gs, bu, fr, ns, sl, idl, F], zl, [], zp =>
    clear zl zp
    clear hpre
    repeat' (first | (with_reducible refine And.intro ?_ ?_) | (with_reducible intro h) | ((fail_if_success (with_reducible refine Leaf.mk ?_)); (fail_if_success (with_reducible refine VC.mk ?_)); (fail_if_success (with_reducible refine Goes.mk ?_)); (fail_if_success (with_reducible refine Again.mk ?_)); (fail_if_success (with_reducible refine Rounds.mk ?_)); (fail_if_success (with_reducible show False)); (fail_if_success (with_reducible show True)); conv => whnf))
    all_goals try with_reducible exact trivial
    all_goals try (simp only [decide_eq_true_eq, decide_eq_false_iff_not, Bool.not_eq_true', Bool.not_eq_false'] at *)
    all_goals try (refine VC.mk ?_; first | exact trivial | omega | (simp only [InR]; omega) | assumption)
    all_goals (refine Leaf.mk ?_; first | rfl | (simp [mvB, *]; done) | (simp_all [mvB]; done) | (simp [mvB, *]; omega))
def c_body_inRange : Con := ⟨68, dpRun [.st bodyC] (fun | [id, kd, px, py, an, vx, vy, av, fx, fy, tq, ld, ad, gs, bu, fr, ns, sl, idl, F] => [] | _ => [False]) fun
  | [id, kd, px, py, an, vx, vy, av, fx, fy, tq, ld, ad, gs, bu, fr, ns, sl, idl, F] => [.val (.bool (rngB id.i px.i py.i an.i vx.i vy.i av.i fx.i fy.i tq.i ld.i ad.i gs.i idl.i))]
  | _ => []⟩
set_option maxRecDepth 100000 in
set_option maxHeartbeats 4000000 in
theorem con_body_inRange : c_body_inRange.Ok Tryz.prog := by
  refine con_dp (C := [c_body_bounded, c_body_within, c_transform_Valid]) (pl := []) Tryz.func68 rfl (by kernel_rfl) T_ok (Cons.cons con_body_bounded (Cons.cons con_body_within (Cons.cons con_transform_Valid (Cons.nil _)))) mixed (by kernel_rfl) _ _ _ (fun l ps hl hps hpre => ?_)
  match l, hl, ps, hps with
  | [id, kd, px, py, an, vx, vy, av, fx, fy, tq, ld, ad, gs, bu, fr, ns, sl, idl, F], zl, [], zp =>
    clear zl zp
    clear hpre
    repeat' (first | (with_reducible refine And.intro ?_ ?_) | (with_reducible intro h) | ((fail_if_success (with_reducible refine Leaf.mk ?_)); (fail_if_success (with_reducible refine VC.mk ?_)); (fail_if_success (with_reducible refine Goes.mk ?_)); (fail_if_success (with_reducible refine Again.mk ?_)); (fail_if_success (with_reducible refine Rounds.mk ?_)); (fail_if_success (with_reducible show False)); (fail_if_success (with_reducible show True)); conv => whnf))
    all_goals try with_reducible exact trivial
    all_goals try (simp only [decide_eq_true_eq, decide_eq_false_iff_not, Bool.not_eq_true', Bool.not_eq_false'] at *)
    all_goals try (refine VC.mk ?_; first | exact trivial | omega | (simp only [InR]; omega) | assumption)
    all_goals (refine Leaf.mk ?_; first | rfl | (simp [rngB, *]; done))
def c_body_consistent : Con := ⟨70, dpRun [.st bodyC] (fun | [id, kd, px, py, an, vx, vy, av, fx, fy, tq, ld, ad, gs, bu, fr, ns, sl, idl, F] => [] | _ => [False]) fun
  | [id, kd, px, py, an, vx, vy, av, fx, fy, tq, ld, ad, gs, bu, fr, ns, sl, idl, F] => [.val (.bool (conB kd.i vx.i vy.i av.i fx.i fy.i tq.i bu.b sl.b))]
  | _ => []⟩
set_option maxRecDepth 100000 in
set_option maxHeartbeats 4000000 in
theorem con_body_consistent : c_body_consistent.Ok Tryz.prog := by
  refine con_dp (C := [c_body_moving]) (pl := []) Tryz.func70 rfl (by kernel_rfl) T_ok (Cons.cons con_body_moving (Cons.nil _)) mixed (by kernel_rfl) _ _ _ (fun l ps hl hps hpre => ?_)
  match l, hl, ps, hps with
  | [id, kd, px, py, an, vx, vy, av, fx, fy, tq, ld, ad, gs, bu, fr, ns, sl, idl, F], zl, [], zp =>
    clear zl zp
    clear hpre
    repeat' (first | (with_reducible refine And.intro ?_ ?_) | (with_reducible intro h) | ((fail_if_success (with_reducible refine Leaf.mk ?_)); (fail_if_success (with_reducible refine VC.mk ?_)); (fail_if_success (with_reducible refine Goes.mk ?_)); (fail_if_success (with_reducible refine Again.mk ?_)); (fail_if_success (with_reducible refine Rounds.mk ?_)); (fail_if_success (with_reducible show False)); (fail_if_success (with_reducible show True)); conv => whnf))
    all_goals try with_reducible exact trivial
    all_goals try (simp only [decide_eq_true_eq, decide_eq_false_iff_not, Bool.not_eq_true', Bool.not_eq_false'] at *)
    all_goals try (refine VC.mk ?_; first | exact trivial | omega | (simp only [InR]; omega) | assumption)
    all_goals refine Leaf.mk ?_
    all_goals unfold conB
    all_goals repeat' split
    all_goals first | rfl | (simp_all [mvB]; done) | (simp_all [mvB]; omega)
def c_body_ValidateFixture : Con := ⟨69, dpRun [.st fixC] (fun | [k, r, D, d, f, e, s, c, m, g] => [] | _ => [False]) fun
  | [k, r, D, d, f, e, s, c, m, g] => [.val (.int .i64 (fxV k.i r.i D.D d.i f.i e.i c.i m.i g.i))]
  | _ => []⟩
set_option maxRecDepth 100000 in
set_option maxHeartbeats 4000000 in
theorem con_body_ValidateFixture : c_body_ValidateFixture.Ok Tryz.prog := by
  refine con_dp (C := [c_shape_Validate, c_body_within]) (pl := []) Tryz.func69 rfl (by kernel_rfl) T_ok (Cons.cons con_shape_Validate (Cons.cons con_body_within (Cons.nil _))) mixed (by kernel_rfl) _ _ _ (fun l ps hl hps hpre => ?_)
  match l, hl, ps, hps with
  | [k, r, D, d, f, e, s, c, m, g], zl, [], zp =>
    clear zl zp
    clear hpre
    repeat' (first | (with_reducible refine And.intro ?_ ?_) | (with_reducible intro h) | ((fail_if_success (with_reducible refine Leaf.mk ?_)); (fail_if_success (with_reducible refine VC.mk ?_)); (fail_if_success (with_reducible refine Goes.mk ?_)); (fail_if_success (with_reducible refine Again.mk ?_)); (fail_if_success (with_reducible refine Rounds.mk ?_)); (fail_if_success (with_reducible show False)); (fail_if_success (with_reducible show True)); conv => whnf))
    all_goals try with_reducible exact trivial
    all_goals try (simp only [decide_eq_true_eq, decide_eq_false_iff_not, Bool.not_eq_true', Bool.not_eq_false'] at *)
    all_goals try (refine VC.mk ?_; first | exact trivial | omega | (simp only [InR]; omega) | assumption)
    all_goals (refine Leaf.mk ?_; unfold fxV; first | (rw [if_pos (by assumption)]; done) | (rw [if_neg (by omega), if_pos (by simp [matB, *])]; done) | (rw [if_neg (by omega), if_neg (by simp [matB, *])]; done))

end Go.Proofs.YtohjifnkajhhnaaGreat

namespace Go.Proofs.YtohjifnkajhhnaaGreat
open Go.RowKit Fx Vx Bx Ev
set_option linter.unusedVariables false
set_option linter.unusedSimpArgs false
theorem neF {b : Bool} (h : b = true) : ¬ b = false := by rw [h]; exact Bool.noConfusion
/-- Whether a body is valid. -/
def bdV (id kd px py an vx vy av fx fy tq ld ad gs : Int) (bu sl : Bool) (idl : Int) (F : DT) : Int :=
  if kd ≠ 1 ∧ kd ≠ 2 ∧ kd ≠ 3 then 10
  else if rngB id px py an vx vy av fx fy tq ld ad gs idl = false then 6
  else if 4 < F.n then 11
  else if 0 ≤ idxI (fxBad F) F.n then 13
  else if conB kd vx vy av fx fy tq bu sl = false then 14
  else 0
def c_body_Validate : Con := ⟨32, dpRun [.st bodyC] (fun | [id, kd, px, py, an, vx, vy, av, fx, fy, tq, ld, ad, gs, bu, fr, ns, sl, idl, F] => [] | _ => [False]) fun
  | [id, kd, px, py, an, vx, vy, av, fx, fy, tq, ld, ad, gs, bu, fr, ns, sl, idl, F] => [.val (.int .i64 (bdV id.i kd.i px.i py.i an.i vx.i vy.i av.i fx.i fy.i tq.i ld.i ad.i gs.i bu.b sl.b idl.i F.D))]
  | _ => []⟩
set_option maxRecDepth 100000 in
set_option maxHeartbeats 4000000 in
theorem con_body_Validate : c_body_Validate.Ok Tryz.prog := by
  refine con_dp (C := [c_body_inRange, c_body_ValidateFixture, c_body_consistent]) (pl := []) Tryz.func32 rfl (by kernel_rfl) T_ok (Cons.cons con_body_inRange (Cons.cons con_body_ValidateFixture (Cons.cons con_body_consistent (Cons.nil _)))) mixed (by kernel_rfl) _ _ _ (fun l ps hl hps hpre => ?_)
  match l, hl, ps, hps with
  | [id, kd, px, py, an, vx, vy, av, fx, fy, tq, ld, ad, gs, bu, fr, ns, sl, idl, F], zl, [], zp =>
    clear zl zp
    clear hpre
    repeat' (first | (with_reducible refine And.intro ?_ ?_) | (with_reducible intro h) | ((fail_if_success (with_reducible refine Leaf.mk ?_)); (fail_if_success (with_reducible refine VC.mk ?_)); (fail_if_success (with_reducible refine Goes.mk ?_)); (fail_if_success (with_reducible refine Again.mk ?_)); (fail_if_success (with_reducible refine Rounds.mk ?_)); (fail_if_success (with_reducible show False)); (fail_if_success (with_reducible show True)); conv => whnf))
    all_goals try with_reducible exact trivial
    all_goals try (simp only [decide_eq_true_eq, decide_eq_false_iff_not, Bool.not_eq_true', Bool.not_eq_false'] at *)
    all_goals try (refine VC.mk ?_; first | exact trivial | omega | (simp only [InR]; omega) | assumption)
    all_goals try (refine Leaf.mk ?_; unfold bdV; first | (rw [if_pos (by omega)]; done) | (rw [if_neg (by omega), if_pos (by assumption)]; done) | (rw [if_neg (by omega), if_neg (by simp [*]), if_pos (by omega)]; done))
    have hr : rngB id.i px.i py.i an.i vx.i vy.i av.i fx.i fy.i tq.i ld.i ad.i gs.i idl.i = true := by assumption
    have hn : F.D.n ≤ 4 := by omega
    refine goes_inv (X := Nat) (pl := []) T_ok (Cons.cons con_body_inRange (Cons.cons con_body_ValidateFixture (Cons.cons con_body_consistent (Cons.nil _)))) mixed (by kernel_rfl)
      (fun k => (.any :: .ptr 0 0 :: .any :: .any :: .any :: .any :: .any :: .any :: .any :: .any :: .any :: .any :: .any :: .any :: .any :: .any :: .any :: .any :: .any :: .any :: .any :: .any :: .any :: .any :: .any :: .any :: .ds F.nl fixC F.D :: .int .i64 (F.D.n : Int) :: .int .i64 (k : Int) :: .any :: .any :: .any :: .any :: .any :: .any :: .any :: .any :: .any :: .any :: [], [.cells [.int .i64 id.i, .int .i64 kd.i, .int .i64 px.i, .int .i64 py.i, .int .i64 an.i, .int .i64 vx.i, .int .i64 vy.i, .int .i64 av.i, .int .i64 fx.i, .int .i64 fy.i, .int .i64 tq.i, .int .i64 ld.i, .int .i64 ad.i, .int .i64 gs.i, .bool bu.b, .bool fr.b, .bool ns.b, .bool sl.b, .int .i64 idl.i, .ds F.nl fixC F.D]]))
      (fun k => k ≤ F.D.n ∧ idxN (fxBad F.D) k = none) (fun k => F.D.n - k) 0 [0] ⟨Nat.zero_le _, rfl⟩ ?_ ?_ ?_
    · repeat' (first | (with_reducible refine And.intro ?_ ?_) | (with_reducible intro h) | ((fail_if_success (with_reducible refine Leaf.mk ?_)); (fail_if_success (with_reducible refine VC.mk ?_)); (fail_if_success (with_reducible refine Goes.mk ?_)); (fail_if_success (with_reducible refine Again.mk ?_)); (fail_if_success (with_reducible refine Rounds.mk ?_)); (fail_if_success (with_reducible show False)); (fail_if_success (with_reducible show True)); conv => whnf))
      all_goals first | exact trivial | (refine Leaf.mk ?_; first | rfl | exact ⟨rfl, rfl⟩ | (simp; done))
    · repeat' (first | (with_reducible refine And.intro ?_ ?_) | (with_reducible intro h) | ((fail_if_success (with_reducible refine Leaf.mk ?_)); (fail_if_success (with_reducible refine VC.mk ?_)); (fail_if_success (with_reducible refine Goes.mk ?_)); (fail_if_success (with_reducible refine Again.mk ?_)); (fail_if_success (with_reducible refine Rounds.mk ?_)); (fail_if_success (with_reducible show False)); (fail_if_success (with_reducible show True)); conv => whnf))
      all_goals first | exact trivial | (refine Leaf.mk ?_; first | rfl | exact ⟨rfl, rfl⟩ | (simp; done))
    · intro k hx
      obtain ⟨x1, x2⟩ := hx
      have hz : (∀ e : Int, bdV id.i kd.i px.i py.i an.i vx.i vy.i av.i fx.i fy.i tq.i ld.i ad.i gs.i bu.b sl.b idl.i F.D = e ↔ (if 0 ≤ idxI (fxBad F.D) F.D.n then 13 else if conB kd.i vx.i vy.i av.i fx.i fy.i tq.i bu.b sl.b = false then 14 else 0) = e) := fun e => by
        unfold bdV; rw [if_neg (by omega), if_neg (by rw [hr]; exact Bool.noConfusion), if_neg (by omega)]
      rcases Nat.lt_or_ge k F.D.n with hk | hk
      · have hd : decide ((k : Int) < (F.D.n : Int)) = true := by simp; omega
        repeat' (first | (with_reducible refine And.intro ?_ ?_) | (with_reducible intro h; try with_reducible first | exact (bcS hd h).elim) | ((fail_if_success (with_reducible refine Leaf.mk ?_)); (fail_if_success (with_reducible refine VC.mk ?_)); (fail_if_success (with_reducible refine Goes.mk ?_)); (fail_if_success (with_reducible refine Again.mk ?_)); (fail_if_success (with_reducible refine Rounds.mk ?_)); (fail_if_success (with_reducible show False)); (fail_if_success (with_reducible show True)); conv => whnf))
        all_goals try simp only [Int.toNat_natCast, Nat.zero_add] at *
        all_goals try with_reducible exact trivial
        all_goals try (simp only [decide_eq_true_eq, decide_eq_false_iff_not, Bool.not_eq_true', Bool.not_eq_false'] at *)
        all_goals try (refine VC.mk ?_; (try simp only [InR] at *); first | exact trivial | omega)
        all_goals first
          | (refine Leaf.mk ?_; symm; rw [hz, if_pos (by rw [idxI_hit x2 (decide_eq_true (by assumption)) hk]; omega)])
          | (refine Again.mk ⟨k + 1, [0], ⟨by omega, idxN_next x2 (decide_eq_false (fun hh => hh (by first | assumption | (unfold fxAt; omega))))⟩, (by show F.D.n - (k + 1) < F.D.n - k; omega), ?_, ?_⟩ <;> (repeat' (first | (with_reducible refine And.intro ?_ ?_) | (with_reducible intro h) | ((fail_if_success (with_reducible refine Leaf.mk ?_)); (fail_if_success (with_reducible refine VC.mk ?_)); (fail_if_success (with_reducible refine Goes.mk ?_)); (fail_if_success (with_reducible refine Again.mk ?_)); (fail_if_success (with_reducible refine Rounds.mk ?_)); (fail_if_success (with_reducible show False)); (fail_if_success (with_reducible show True)); conv => whnf))) <;> first | exact trivial | (refine Leaf.mk ?_; first | rfl | exact ⟨rfl, rfl⟩ | (simp; done)))
          | skip
      · obtain rfl : k = F.D.n := by omega
        have hd : decide ((F.D.n : Int) < (F.D.n : Int)) = false := by simp
        have hi : ¬ 0 ≤ idxI (fxBad F.D) F.D.n := by rw [idxI_no x2]; omega
        repeat' (first | (with_reducible refine And.intro ?_ ?_) | (with_reducible intro h; try with_reducible first | exact (bcS h hd).elim) | ((fail_if_success (with_reducible refine Leaf.mk ?_)); (fail_if_success (with_reducible refine VC.mk ?_)); (fail_if_success (with_reducible refine Goes.mk ?_)); (fail_if_success (with_reducible refine Again.mk ?_)); (fail_if_success (with_reducible refine Rounds.mk ?_)); (fail_if_success (with_reducible show False)); (fail_if_success (with_reducible show True)); conv => whnf))
        all_goals try with_reducible exact trivial
        all_goals try (simp only [decide_eq_true_eq, decide_eq_false_iff_not, Bool.not_eq_true', Bool.not_eq_false'] at *)
        all_goals (refine Leaf.mk ?_; symm; rw [hz, if_neg hi]; first | rw [if_pos (by assumption)] | rw [if_neg (neF (by assumption))])
    have hr : rngB id.i px.i py.i an.i vx.i vy.i av.i fx.i fy.i tq.i ld.i ad.i gs.i idl.i = true := by assumption
    have hn : F.D.n ≤ 4 := by omega
    refine goes_inv (X := Nat) (pl := []) T_ok (Cons.cons con_body_inRange (Cons.cons con_body_ValidateFixture (Cons.cons con_body_consistent (Cons.nil _)))) mixed (by kernel_rfl)
      (fun k => (.any :: .ptr 0 0 :: .any :: .any :: .any :: .any :: .any :: .any :: .any :: .any :: .any :: .any :: .any :: .any :: .any :: .any :: .any :: .any :: .any :: .any :: .any :: .any :: .any :: .any :: .any :: .any :: .ds F.nl fixC F.D :: .int .i64 (F.D.n : Int) :: .int .i64 (k : Int) :: .any :: .any :: .any :: .any :: .any :: .any :: .any :: .any :: .any :: .any :: [], [.cells [.int .i64 id.i, .int .i64 kd.i, .int .i64 px.i, .int .i64 py.i, .int .i64 an.i, .int .i64 vx.i, .int .i64 vy.i, .int .i64 av.i, .int .i64 fx.i, .int .i64 fy.i, .int .i64 tq.i, .int .i64 ld.i, .int .i64 ad.i, .int .i64 gs.i, .bool bu.b, .bool fr.b, .bool ns.b, .bool sl.b, .int .i64 idl.i, .ds F.nl fixC F.D]]))
      (fun k => k ≤ F.D.n ∧ idxN (fxBad F.D) k = none) (fun k => F.D.n - k) 0 [0] ⟨Nat.zero_le _, rfl⟩ ?_ ?_ ?_
    · repeat' (first | (with_reducible refine And.intro ?_ ?_) | (with_reducible intro h) | ((fail_if_success (with_reducible refine Leaf.mk ?_)); (fail_if_success (with_reducible refine VC.mk ?_)); (fail_if_success (with_reducible refine Goes.mk ?_)); (fail_if_success (with_reducible refine Again.mk ?_)); (fail_if_success (with_reducible refine Rounds.mk ?_)); (fail_if_success (with_reducible show False)); (fail_if_success (with_reducible show True)); conv => whnf))
      all_goals first | exact trivial | (refine Leaf.mk ?_; first | rfl | exact ⟨rfl, rfl⟩ | (simp; done))
    · repeat' (first | (with_reducible refine And.intro ?_ ?_) | (with_reducible intro h) | ((fail_if_success (with_reducible refine Leaf.mk ?_)); (fail_if_success (with_reducible refine VC.mk ?_)); (fail_if_success (with_reducible refine Goes.mk ?_)); (fail_if_success (with_reducible refine Again.mk ?_)); (fail_if_success (with_reducible refine Rounds.mk ?_)); (fail_if_success (with_reducible show False)); (fail_if_success (with_reducible show True)); conv => whnf))
      all_goals first | exact trivial | (refine Leaf.mk ?_; first | rfl | exact ⟨rfl, rfl⟩ | (simp; done))
    · intro k hx
      obtain ⟨x1, x2⟩ := hx
      have hz : (∀ e : Int, bdV id.i kd.i px.i py.i an.i vx.i vy.i av.i fx.i fy.i tq.i ld.i ad.i gs.i bu.b sl.b idl.i F.D = e ↔ (if 0 ≤ idxI (fxBad F.D) F.D.n then 13 else if conB kd.i vx.i vy.i av.i fx.i fy.i tq.i bu.b sl.b = false then 14 else 0) = e) := fun e => by
        unfold bdV; rw [if_neg (by omega), if_neg (by rw [hr]; exact Bool.noConfusion), if_neg (by omega)]
      rcases Nat.lt_or_ge k F.D.n with hk | hk
      · have hd : decide ((k : Int) < (F.D.n : Int)) = true := by simp; omega
        repeat' (first | (with_reducible refine And.intro ?_ ?_) | (with_reducible intro h; try with_reducible first | exact (bcS hd h).elim) | ((fail_if_success (with_reducible refine Leaf.mk ?_)); (fail_if_success (with_reducible refine VC.mk ?_)); (fail_if_success (with_reducible refine Goes.mk ?_)); (fail_if_success (with_reducible refine Again.mk ?_)); (fail_if_success (with_reducible refine Rounds.mk ?_)); (fail_if_success (with_reducible show False)); (fail_if_success (with_reducible show True)); conv => whnf))
        all_goals try simp only [Int.toNat_natCast, Nat.zero_add] at *
        all_goals try with_reducible exact trivial
        all_goals try (simp only [decide_eq_true_eq, decide_eq_false_iff_not, Bool.not_eq_true', Bool.not_eq_false'] at *)
        all_goals try (refine VC.mk ?_; (try simp only [InR] at *); first | exact trivial | omega)
        all_goals first
          | (refine Leaf.mk ?_; symm; rw [hz, if_pos (by rw [idxI_hit x2 (decide_eq_true (by assumption)) hk]; omega)])
          | (refine Again.mk ⟨k + 1, [0], ⟨by omega, idxN_next x2 (decide_eq_false (fun hh => hh (by first | assumption | (unfold fxAt; omega))))⟩, (by show F.D.n - (k + 1) < F.D.n - k; omega), ?_, ?_⟩ <;> (repeat' (first | (with_reducible refine And.intro ?_ ?_) | (with_reducible intro h) | ((fail_if_success (with_reducible refine Leaf.mk ?_)); (fail_if_success (with_reducible refine VC.mk ?_)); (fail_if_success (with_reducible refine Goes.mk ?_)); (fail_if_success (with_reducible refine Again.mk ?_)); (fail_if_success (with_reducible refine Rounds.mk ?_)); (fail_if_success (with_reducible show False)); (fail_if_success (with_reducible show True)); conv => whnf))) <;> first | exact trivial | (refine Leaf.mk ?_; first | rfl | exact ⟨rfl, rfl⟩ | (simp; done)))
          | skip
      · obtain rfl : k = F.D.n := by omega
        have hd : decide ((F.D.n : Int) < (F.D.n : Int)) = false := by simp
        have hi : ¬ 0 ≤ idxI (fxBad F.D) F.D.n := by rw [idxI_no x2]; omega
        repeat' (first | (with_reducible refine And.intro ?_ ?_) | (with_reducible intro h; try with_reducible first | exact (bcS h hd).elim) | ((fail_if_success (with_reducible refine Leaf.mk ?_)); (fail_if_success (with_reducible refine VC.mk ?_)); (fail_if_success (with_reducible refine Goes.mk ?_)); (fail_if_success (with_reducible refine Again.mk ?_)); (fail_if_success (with_reducible refine Rounds.mk ?_)); (fail_if_success (with_reducible show False)); (fail_if_success (with_reducible show True)); conv => whnf))
        all_goals try with_reducible exact trivial
        all_goals try (simp only [decide_eq_true_eq, decide_eq_false_iff_not, Bool.not_eq_true', Bool.not_eq_false'] at *)
        all_goals (refine Leaf.mk ?_; symm; rw [hz, if_neg hi]; first | rw [if_pos (by assumption)] | rw [if_neg (neF (by assumption))])
    have hr : rngB id.i px.i py.i an.i vx.i vy.i av.i fx.i fy.i tq.i ld.i ad.i gs.i idl.i = true := by assumption
    have hn : F.D.n ≤ 4 := by omega
    refine goes_inv (X := Nat) (pl := []) T_ok (Cons.cons con_body_inRange (Cons.cons con_body_ValidateFixture (Cons.cons con_body_consistent (Cons.nil _)))) mixed (by kernel_rfl)
      (fun k => (.any :: .ptr 0 0 :: .any :: .any :: .any :: .any :: .any :: .any :: .any :: .any :: .any :: .any :: .any :: .any :: .any :: .any :: .any :: .any :: .any :: .any :: .any :: .any :: .any :: .any :: .any :: .any :: .ds F.nl fixC F.D :: .int .i64 (F.D.n : Int) :: .int .i64 (k : Int) :: .any :: .any :: .any :: .any :: .any :: .any :: .any :: .any :: .any :: .any :: [], [.cells [.int .i64 id.i, .int .i64 kd.i, .int .i64 px.i, .int .i64 py.i, .int .i64 an.i, .int .i64 vx.i, .int .i64 vy.i, .int .i64 av.i, .int .i64 fx.i, .int .i64 fy.i, .int .i64 tq.i, .int .i64 ld.i, .int .i64 ad.i, .int .i64 gs.i, .bool bu.b, .bool fr.b, .bool ns.b, .bool sl.b, .int .i64 idl.i, .ds F.nl fixC F.D]]))
      (fun k => k ≤ F.D.n ∧ idxN (fxBad F.D) k = none) (fun k => F.D.n - k) 0 [0] ⟨Nat.zero_le _, rfl⟩ ?_ ?_ ?_
    · repeat' (first | (with_reducible refine And.intro ?_ ?_) | (with_reducible intro h) | ((fail_if_success (with_reducible refine Leaf.mk ?_)); (fail_if_success (with_reducible refine VC.mk ?_)); (fail_if_success (with_reducible refine Goes.mk ?_)); (fail_if_success (with_reducible refine Again.mk ?_)); (fail_if_success (with_reducible refine Rounds.mk ?_)); (fail_if_success (with_reducible show False)); (fail_if_success (with_reducible show True)); conv => whnf))
      all_goals first | exact trivial | (refine Leaf.mk ?_; first | rfl | exact ⟨rfl, rfl⟩ | (simp; done))
    · repeat' (first | (with_reducible refine And.intro ?_ ?_) | (with_reducible intro h) | ((fail_if_success (with_reducible refine Leaf.mk ?_)); (fail_if_success (with_reducible refine VC.mk ?_)); (fail_if_success (with_reducible refine Goes.mk ?_)); (fail_if_success (with_reducible refine Again.mk ?_)); (fail_if_success (with_reducible refine Rounds.mk ?_)); (fail_if_success (with_reducible show False)); (fail_if_success (with_reducible show True)); conv => whnf))
      all_goals first | exact trivial | (refine Leaf.mk ?_; first | rfl | exact ⟨rfl, rfl⟩ | (simp; done))
    · intro k hx
      obtain ⟨x1, x2⟩ := hx
      have hz : (∀ e : Int, bdV id.i kd.i px.i py.i an.i vx.i vy.i av.i fx.i fy.i tq.i ld.i ad.i gs.i bu.b sl.b idl.i F.D = e ↔ (if 0 ≤ idxI (fxBad F.D) F.D.n then 13 else if conB kd.i vx.i vy.i av.i fx.i fy.i tq.i bu.b sl.b = false then 14 else 0) = e) := fun e => by
        unfold bdV; rw [if_neg (by omega), if_neg (by rw [hr]; exact Bool.noConfusion), if_neg (by omega)]
      rcases Nat.lt_or_ge k F.D.n with hk | hk
      · have hd : decide ((k : Int) < (F.D.n : Int)) = true := by simp; omega
        repeat' (first | (with_reducible refine And.intro ?_ ?_) | (with_reducible intro h; try with_reducible first | exact (bcS hd h).elim) | ((fail_if_success (with_reducible refine Leaf.mk ?_)); (fail_if_success (with_reducible refine VC.mk ?_)); (fail_if_success (with_reducible refine Goes.mk ?_)); (fail_if_success (with_reducible refine Again.mk ?_)); (fail_if_success (with_reducible refine Rounds.mk ?_)); (fail_if_success (with_reducible show False)); (fail_if_success (with_reducible show True)); conv => whnf))
        all_goals try simp only [Int.toNat_natCast, Nat.zero_add] at *
        all_goals try with_reducible exact trivial
        all_goals try (simp only [decide_eq_true_eq, decide_eq_false_iff_not, Bool.not_eq_true', Bool.not_eq_false'] at *)
        all_goals try (refine VC.mk ?_; (try simp only [InR] at *); first | exact trivial | omega)
        all_goals first
          | (refine Leaf.mk ?_; symm; rw [hz, if_pos (by rw [idxI_hit x2 (decide_eq_true (by assumption)) hk]; omega)])
          | (refine Again.mk ⟨k + 1, [0], ⟨by omega, idxN_next x2 (decide_eq_false (fun hh => hh (by first | assumption | (unfold fxAt; omega))))⟩, (by show F.D.n - (k + 1) < F.D.n - k; omega), ?_, ?_⟩ <;> (repeat' (first | (with_reducible refine And.intro ?_ ?_) | (with_reducible intro h) | ((fail_if_success (with_reducible refine Leaf.mk ?_)); (fail_if_success (with_reducible refine VC.mk ?_)); (fail_if_success (with_reducible refine Goes.mk ?_)); (fail_if_success (with_reducible refine Again.mk ?_)); (fail_if_success (with_reducible refine Rounds.mk ?_)); (fail_if_success (with_reducible show False)); (fail_if_success (with_reducible show True)); conv => whnf))) <;> first | exact trivial | (refine Leaf.mk ?_; first | rfl | exact ⟨rfl, rfl⟩ | (simp; done)))
          | skip
      · obtain rfl : k = F.D.n := by omega
        have hd : decide ((F.D.n : Int) < (F.D.n : Int)) = false := by simp
        have hi : ¬ 0 ≤ idxI (fxBad F.D) F.D.n := by rw [idxI_no x2]; omega
        repeat' (first | (with_reducible refine And.intro ?_ ?_) | (with_reducible intro h; try with_reducible first | exact (bcS h hd).elim) | ((fail_if_success (with_reducible refine Leaf.mk ?_)); (fail_if_success (with_reducible refine VC.mk ?_)); (fail_if_success (with_reducible refine Goes.mk ?_)); (fail_if_success (with_reducible refine Again.mk ?_)); (fail_if_success (with_reducible refine Rounds.mk ?_)); (fail_if_success (with_reducible show False)); (fail_if_success (with_reducible show True)); conv => whnf))
        all_goals try with_reducible exact trivial
        all_goals try (simp only [decide_eq_true_eq, decide_eq_false_iff_not, Bool.not_eq_true', Bool.not_eq_false'] at *)
        all_goals (refine Leaf.mk ?_; symm; rw [hz, if_neg hi]; first | rw [if_pos (by assumption)] | rw [if_neg (neF (by assumption))])
def jnB (id kd ax ay bx b2 ra lo up ms mf so br : Int) : Bool :=
  inB id 1 1099511627776 && (boxB ax ay (if kd = 5 then 268435456 else 1048576) && (boxB bx b2 1048576 && (inB ra (-205888) 205887 && (inB lo (limL kd) (limH kd) && (inB up (limL kd) (limH kd) && (decide (lo ≤ up) && (inB ms (-16777216) 16777216 && (inB mf 0 536870911 && (inB so 0 536870911 && inB br 0 536870911)))))))))
def imB (a b c d : Int) : Bool := inB a (-536870911) 536870911 && (inB b (-536870911) 536870911 && (inB c (-536870911) 536870911 && inB d (-536870911) 536870911))
def jbB (kd ba bb : Int) : Bool := if kd = 5 then decide (ba = 0) && inB bb 1 1099511627776 else inB ba 1 1099511627776 && (inB bb 1 1099511627776 && !decide (ba = bb))
def jiB (kd xx xy : Int) (el em : Bool) : Bool :=
  if kd = 3 then !inB (len xx xy) 65520 65552
  else if kd = 1 then !(decide (xx = 0) && decide (xy = 0)) || (em || !el)
  else if kd = 4 ∨ kd = 5 then !(decide (xx = 0) && decide (xy = 0)) || (em || el)
  else !(decide (xx = 0) && decide (xy = 0))
/-- Whether a joint is valid. -/
def jtV (id kd ba bb ax ay bx b2 xx xy ra : Int) (el : Bool) (lo up : Int) (em : Bool) (ms mf so br i0 i1 i2 i3 : Int) : Int :=
  if kd < 1 ∨ 5 < kd then 10
  else if (imB i0 i1 i2 i3 && jnB id kd ax ay bx b2 ra lo up ms mf so br) = false then 6
  else if jbB kd ba bb = false then 14
  else if jiB kd xx xy el em = true then 15
  else 0
def c_joint_validBodies : Con := ⟨72, dpRun [.st jointC] (fun | [id, kd, ba, bb, ax, ay, bx, by_, xx, xy, ra, el, lo, up, em, ms, mf, so, br, cc, i0, i1, i2, i3] => [] | _ => [False]) fun
  | [id, kd, ba, bb, ax, ay, bx, by_, xx, xy, ra, el, lo, up, em, ms, mf, so, br, cc, i0, i1, i2, i3] => [.val (.bool (jbB kd.i ba.i bb.i))]
  | _ => []⟩
set_option maxRecDepth 100000 in
set_option maxHeartbeats 4000000 in
theorem con_joint_validBodies : c_joint_validBodies.Ok Tryz.prog := by
  refine con_dp (C := [c_joint_inRange]) (pl := []) Tryz.func72 rfl (by kernel_rfl) T_ok (Cons.cons con_joint_inRange (Cons.nil _)) mixed (by kernel_rfl) _ _ _ (fun l ps hl hps hpre => ?_)
  match l, hl, ps, hps with
  | [id, kd, ba, bb, ax, ay, bx, by_, xx, xy, ra, el, lo, up, em, ms, mf, so, br, cc, i0, i1, i2, i3], zl, [], zp =>
    clear zl zp
    clear hpre
    repeat' (first | (with_reducible refine And.intro ?_ ?_) | (with_reducible intro h) | ((fail_if_success (with_reducible refine Leaf.mk ?_)); (fail_if_success (with_reducible refine VC.mk ?_)); (fail_if_success (with_reducible refine Goes.mk ?_)); (fail_if_success (with_reducible refine Again.mk ?_)); (fail_if_success (with_reducible refine Rounds.mk ?_)); (fail_if_success (with_reducible show False)); (fail_if_success (with_reducible show True)); conv => whnf))
    all_goals try with_reducible exact trivial
    all_goals try (simp only [decide_eq_true_eq, decide_eq_false_iff_not, Bool.not_eq_true', Bool.not_eq_false'] at *)
    all_goals try (refine VC.mk ?_; first | exact trivial | omega | (simp only [InR]; omega) | assumption)
    all_goals refine Leaf.mk ?_
    all_goals unfold jbB
    all_goals repeat' split
    all_goals first | rfl | contradiction | (simp [*]; done) | (simp_all; done)
def c_joint_inconsistent : Con := ⟨73, dpRun [.st jointC] (fun | [id, kd, ba, bb, ax, ay, bx, by_, xx, xy, ra, el, lo, up, em, ms, mf, so, br, cc, i0, i1, i2, i3] => [] | _ => [False]) fun
  | [id, kd, ba, bb, ax, ay, bx, by_, xx, xy, ra, el, lo, up, em, ms, mf, so, br, cc, i0, i1, i2, i3] => [.val (.bool (jiB kd.i xx.i xy.i el.b em.b))]
  | _ => []⟩
set_option maxRecDepth 100000 in
set_option maxHeartbeats 4000000 in
theorem con_joint_inconsistent : c_joint_inconsistent.Ok Tryz.prog := by
  refine con_dp (C := [c_joint_inRange, c_vec2_Length]) (pl := []) Tryz.func73 rfl (by kernel_rfl) T_ok (Cons.cons con_joint_inRange (Cons.cons con_vec2_Length (Cons.nil _))) mixed (by kernel_rfl) _ _ _ (fun l ps hl hps hpre => ?_)
  match l, hl, ps, hps with
  | [id, kd, ba, bb, ax, ay, bx, by_, xx, xy, ra, el, lo, up, em, ms, mf, so, br, cc, i0, i1, i2, i3], zl, [], zp =>
    clear zl zp
    clear hpre
    repeat' (first | (with_reducible refine And.intro ?_ ?_) | (with_reducible intro h) | ((fail_if_success (with_reducible refine Leaf.mk ?_)); (fail_if_success (with_reducible refine VC.mk ?_)); (fail_if_success (with_reducible refine Goes.mk ?_)); (fail_if_success (with_reducible refine Again.mk ?_)); (fail_if_success (with_reducible refine Rounds.mk ?_)); (fail_if_success (with_reducible show False)); (fail_if_success (with_reducible show True)); conv => whnf))
    all_goals try with_reducible exact trivial
    all_goals try (simp only [decide_eq_true_eq, decide_eq_false_iff_not, Bool.not_eq_true', Bool.not_eq_false'] at *)
    all_goals try (refine VC.mk ?_; first | exact trivial | omega | (simp only [InR]; omega) | assumption)
    all_goals refine Leaf.mk ?_
    all_goals unfold jiB
    all_goals repeat' split
    all_goals first | rfl | contradiction | omega | (simp [*]; done) | (simp_all; done) | (exfalso; omega) | (simp_all; omega)
def c_joint_numbersInRange : Con := ⟨71, dpRun [.st jointC] (fun | [id, kd, ba, bb, ax, ay, bx, by_, xx, xy, ra, el, lo, up, em, ms, mf, so, br, cc, i0, i1, i2, i3] => [] | _ => [False]) fun
  | [id, kd, ba, bb, ax, ay, bx, by_, xx, xy, ra, el, lo, up, em, ms, mf, so, br, cc, i0, i1, i2, i3] => [.val (.bool (imB i0.i i1.i i2.i i3.i && jnB id.i kd.i ax.i ay.i bx.i by_.i ra.i lo.i up.i ms.i mf.i so.i br.i))]
  | _ => []⟩
set_option maxRecDepth 100000 in
set_option maxHeartbeats 4000000 in
theorem con_joint_numbersInRange : c_joint_numbersInRange.Ok Tryz.prog := by
  refine con_dp (C := [c_joint_inRange, c_joint_pointInRange, c_joint_limitRange]) (pl := []) Tryz.func71 rfl (by kernel_rfl) T_ok (Cons.cons con_joint_inRange (Cons.cons con_joint_pointInRange (Cons.cons con_joint_limitRange (Cons.nil _)))) mixed (by kernel_rfl) _ _ _ (fun l ps hl hps hpre => ?_)
  match l, hl, ps, hps with
  | [id, kd, ba, bb, ax, ay, bx, by_, xx, xy, ra, el, lo, up, em, ms, mf, so, br, cc, i0, i1, i2, i3], zl, [], zp =>
    clear zl zp
    clear hpre
    repeat' (first | (with_reducible refine And.intro ?_ ?_) | (with_reducible intro h) | ((fail_if_success (with_reducible refine Leaf.mk ?_)); (fail_if_success (with_reducible refine VC.mk ?_)); (fail_if_success (with_reducible refine Goes.mk ?_)); (fail_if_success (with_reducible refine Again.mk ?_)); (fail_if_success (with_reducible refine Rounds.mk ?_)); (fail_if_success (with_reducible show False)); (fail_if_success (with_reducible show True)); conv => whnf))
    all_goals try with_reducible exact trivial
    all_goals try (simp only [decide_eq_true_eq, decide_eq_false_iff_not, Bool.not_eq_true', Bool.not_eq_false'] at *)
    all_goals try (refine VC.mk ?_; first | exact trivial | omega | (simp only [InR]; omega) | assumption)
    all_goals try refine goes_rounds 5 ?_
    all_goals try (refine rounds_one (pl := []) T_ok (Cons.cons con_joint_inRange (Cons.cons con_joint_pointInRange (Cons.cons con_joint_limitRange (Cons.nil _)))) mixed (by kernel_rfl) ?_; repeat' (first | (with_reducible refine And.intro ?_ ?_) | (with_reducible intro h) | ((fail_if_success (with_reducible refine Leaf.mk ?_)); (fail_if_success (with_reducible refine VC.mk ?_)); (fail_if_success (with_reducible refine Goes.mk ?_)); (fail_if_success (with_reducible refine Again.mk ?_)); (fail_if_success (with_reducible refine Rounds.mk ?_)); (fail_if_success (with_reducible show False)); (fail_if_success (with_reducible show True)); conv => whnf)))
    all_goals try with_reducible exact trivial
    all_goals try (simp only [decide_eq_true_eq, decide_eq_false_iff_not, Bool.not_eq_true', Bool.not_eq_false'] at *)
    all_goals try (refine VC.mk ?_; first | exact trivial | omega | (simp only [InR]; omega) | assumption)
    
    all_goals try (refine rounds_one (pl := []) T_ok (Cons.cons con_joint_inRange (Cons.cons con_joint_pointInRange (Cons.cons con_joint_limitRange (Cons.nil _)))) mixed (by kernel_rfl) ?_; repeat' (first | (with_reducible refine And.intro ?_ ?_) | (with_reducible intro h) | ((fail_if_success (with_reducible refine Leaf.mk ?_)); (fail_if_success (with_reducible refine VC.mk ?_)); (fail_if_success (with_reducible refine Goes.mk ?_)); (fail_if_success (with_reducible refine Again.mk ?_)); (fail_if_success (with_reducible refine Rounds.mk ?_)); (fail_if_success (with_reducible show False)); (fail_if_success (with_reducible show True)); conv => whnf)))
    all_goals try with_reducible exact trivial
    all_goals try (simp only [decide_eq_true_eq, decide_eq_false_iff_not, Bool.not_eq_true', Bool.not_eq_false'] at *)
    all_goals try (refine VC.mk ?_; first | exact trivial | omega | (simp only [InR]; omega) | assumption)
    
    all_goals try (refine rounds_one (pl := []) T_ok (Cons.cons con_joint_inRange (Cons.cons con_joint_pointInRange (Cons.cons con_joint_limitRange (Cons.nil _)))) mixed (by kernel_rfl) ?_; repeat' (first | (with_reducible refine And.intro ?_ ?_) | (with_reducible intro h) | ((fail_if_success (with_reducible refine Leaf.mk ?_)); (fail_if_success (with_reducible refine VC.mk ?_)); (fail_if_success (with_reducible refine Goes.mk ?_)); (fail_if_success (with_reducible refine Again.mk ?_)); (fail_if_success (with_reducible refine Rounds.mk ?_)); (fail_if_success (with_reducible show False)); (fail_if_success (with_reducible show True)); conv => whnf)))
    all_goals try with_reducible exact trivial
    all_goals try (simp only [decide_eq_true_eq, decide_eq_false_iff_not, Bool.not_eq_true', Bool.not_eq_false'] at *)
    all_goals try (refine VC.mk ?_; first | exact trivial | omega | (simp only [InR]; omega) | assumption)
    
    all_goals try (refine rounds_one (pl := []) T_ok (Cons.cons con_joint_inRange (Cons.cons con_joint_pointInRange (Cons.cons con_joint_limitRange (Cons.nil _)))) mixed (by kernel_rfl) ?_; repeat' (first | (with_reducible refine And.intro ?_ ?_) | (with_reducible intro h) | ((fail_if_success (with_reducible refine Leaf.mk ?_)); (fail_if_success (with_reducible refine VC.mk ?_)); (fail_if_success (with_reducible refine Goes.mk ?_)); (fail_if_success (with_reducible refine Again.mk ?_)); (fail_if_success (with_reducible refine Rounds.mk ?_)); (fail_if_success (with_reducible show False)); (fail_if_success (with_reducible show True)); conv => whnf)))
    all_goals try with_reducible exact trivial
    all_goals try (simp only [decide_eq_true_eq, decide_eq_false_iff_not, Bool.not_eq_true', Bool.not_eq_false'] at *)
    all_goals try (refine VC.mk ?_; first | exact trivial | omega | (simp only [InR]; omega) | assumption)
    
    all_goals try (refine rounds_one (pl := []) T_ok (Cons.cons con_joint_inRange (Cons.cons con_joint_pointInRange (Cons.cons con_joint_limitRange (Cons.nil _)))) mixed (by kernel_rfl) ?_; repeat' (first | (with_reducible refine And.intro ?_ ?_) | (with_reducible intro h) | ((fail_if_success (with_reducible refine Leaf.mk ?_)); (fail_if_success (with_reducible refine VC.mk ?_)); (fail_if_success (with_reducible refine Goes.mk ?_)); (fail_if_success (with_reducible refine Again.mk ?_)); (fail_if_success (with_reducible refine Rounds.mk ?_)); (fail_if_success (with_reducible show False)); (fail_if_success (with_reducible show True)); conv => whnf)))
    all_goals try with_reducible exact trivial
    all_goals try (simp only [decide_eq_true_eq, decide_eq_false_iff_not, Bool.not_eq_true', Bool.not_eq_false'] at *)
    all_goals try (refine VC.mk ?_; first | exact trivial | omega | (simp only [InR]; omega) | assumption)
    
    all_goals (refine Leaf.mk ?_; first | (simp [imB, jnB, *]; done) | (simp_all [imB, jnB]; done))
def c_joint_Validate : Con := ⟨33, dpRun [.st jointC] (fun | [id, kd, ba, bb, ax, ay, bx, by_, xx, xy, ra, el, lo, up, em, ms, mf, so, br, cc, i0, i1, i2, i3] => [] | _ => [False]) fun
  | [id, kd, ba, bb, ax, ay, bx, by_, xx, xy, ra, el, lo, up, em, ms, mf, so, br, cc, i0, i1, i2, i3] => [.val (.int .i64 (jtV id.i kd.i ba.i bb.i ax.i ay.i bx.i by_.i xx.i xy.i ra.i el.b lo.i up.i em.b ms.i mf.i so.i br.i i0.i i1.i i2.i i3.i))]
  | _ => []⟩
set_option maxRecDepth 100000 in
set_option maxHeartbeats 4000000 in
theorem con_joint_Validate : c_joint_Validate.Ok Tryz.prog := by
  refine con_dp (C := [c_joint_validBodies, c_joint_inconsistent, c_joint_numbersInRange]) (pl := []) Tryz.func33 rfl (by kernel_rfl) T_ok (Cons.cons con_joint_validBodies (Cons.cons con_joint_inconsistent (Cons.cons con_joint_numbersInRange (Cons.nil _)))) mixed (by kernel_rfl) _ _ _ (fun l ps hl hps hpre => ?_)
  match l, hl, ps, hps with
  | [id, kd, ba, bb, ax, ay, bx, by_, xx, xy, ra, el, lo, up, em, ms, mf, so, br, cc, i0, i1, i2, i3], zl, [], zp =>
    clear zl zp
    clear hpre
    repeat' (first | (with_reducible refine And.intro ?_ ?_) | (with_reducible intro h) | ((fail_if_success (with_reducible refine Leaf.mk ?_)); (fail_if_success (with_reducible refine VC.mk ?_)); (fail_if_success (with_reducible refine Goes.mk ?_)); (fail_if_success (with_reducible refine Again.mk ?_)); (fail_if_success (with_reducible refine Rounds.mk ?_)); (fail_if_success (with_reducible show False)); (fail_if_success (with_reducible show True)); conv => whnf))
    all_goals try with_reducible exact trivial
    all_goals try (simp only [decide_eq_true_eq, decide_eq_false_iff_not, Bool.not_eq_true', Bool.not_eq_false'] at *)
    all_goals try (refine VC.mk ?_; first | exact trivial | omega | (simp only [InR]; omega) | assumption)
    all_goals refine Leaf.mk ?_
    all_goals unfold jtV
    all_goals repeat' split
    all_goals first | rfl | contradiction | omega | (simp_all; done)

end Go.Proofs.YtohjifnkajhhnaaGreat

namespace Go.Proofs.YtohjifnkajhhnaaGreat
open Go.RowKit Fx Vx Bx Ev
set_option linter.unusedVariables false
set_option linter.unusedSimpArgs false
def satOut (D : DT) (i : Nat) : Bool := !inB (D.ci i 0) (-536870911) 536870911
def satR (D : DT) : Bool := !decide (0 ≤ idxI (satOut D) D.n)
/-- A point of a contact that is not valid. -/
def ptBad (D : DT) (i : Nat) : Bool := decide (D.ci i 4 < 0) || !satR (rowT 0 0 [[D.ci i 0], [D.ci i 1], [D.ci i 2], [D.ci i 3], [D.ci i 4], [D.ci i 5]])
def mfB (x y : Int) (D : DT) : Bool :=
  if D.n < 1 ∨ 2 < D.n ∨ D.n = 2 ∧ D.ci 0 3 = D.ci 1 3 then false else satR (rowT 0 0 [[x], [y]]) && !decide (0 ≤ idxI (ptBad D) D.n)
def c_world_satOut : Con := ⟨120, pureRun [0] (fun _ => []) fun | [n] => .bool (!inB n (-536870911) 536870911) | _ => .any⟩
set_option maxRecDepth 100000 in
set_option maxHeartbeats 1000000 in
theorem con_world_satOut : c_world_satOut.Ok Tryz.prog := by
  refine con_pure (C := [c_world_in]) (pl := []) Tryz.func120 rfl (by kernel_rfl) T_ok (Cons.cons con_world_in (Cons.nil _)) mixed (by kernel_rfl) _ _ _ (fun l hl hpre => ?_)
  match l, hl with
  | [n], _ =>
    repeat' (first | (with_reducible refine And.intro ?_ ?_) | (with_reducible intro h) | ((fail_if_success (with_reducible refine Leaf.mk ?_)); (fail_if_success (with_reducible refine VC.mk ?_)); (fail_if_success (with_reducible refine Goes.mk ?_)); (fail_if_success (with_reducible refine Again.mk ?_)); (fail_if_success (with_reducible refine Rounds.mk ?_)); (fail_if_success (with_reducible show False)); (fail_if_success (with_reducible show True)); conv => whnf))
    all_goals try with_reducible exact trivial
    all_goals try (simp only [decide_eq_true_eq, decide_eq_false_iff_not, Bool.not_eq_true', Bool.not_eq_false'] at *)
    all_goals try (refine VC.mk ?_; first | exact trivial | omega | (simp only [InR]; omega) | assumption)
    all_goals refine Leaf.mk ?_
    all_goals first | rfl | (simp [*]; done)
def c_indexInt : Con := ⟨139, dpRun [.rw 1, .fn 120 []] (fun | [a0] => [a0.D.n ≤ 4611686018427387904] | _ => [False]) fun
  | [a0] => [.val (.int .i64 (idxI (satOut a0.D) a0.D.n))]
  | _ => []⟩
set_option maxRecDepth 100000 in
set_option maxHeartbeats 4000000 in
theorem con_indexInt : c_indexInt.Ok Tryz.prog := by
  refine con_dp (C := [c_world_satOut]) (pl := []) Tryz.func139 rfl (by kernel_rfl) T_ok (Cons.cons con_world_satOut (Cons.nil _)) mixed (by kernel_rfl) _ _ _ (fun l ps hl hps hpre => ?_)
  match l, hl, ps, hps with
  | [a0], zl, [q0], zp =>
    clear zl zp
    have hp0 := hpre _ (List.Mem.head _); try dsimp only at hp0
    clear hpre
    repeat' (first | (with_reducible refine And.intro ?_ ?_) | (with_reducible intro h) | ((fail_if_success (with_reducible refine Leaf.mk ?_)); (fail_if_success (with_reducible refine VC.mk ?_)); (fail_if_success (with_reducible refine Goes.mk ?_)); (fail_if_success (with_reducible refine Again.mk ?_)); (fail_if_success (with_reducible refine Rounds.mk ?_)); (fail_if_success (with_reducible show False)); (fail_if_success (with_reducible show True)); conv => whnf))
    all_goals try with_reducible exact trivial
    refine goes_inv (X := Nat) (pl := []) T_ok (Cons.cons con_world_satOut (Cons.nil _)) mixed (by kernel_rfl)
      (fun k => (.ds a0.nl (intsC 1) (a0.D.at q0.1 q0.2) :: .clo 120 [] :: .any :: .any :: .lit .i64 0 :: .any :: .ds a0.nl (intsC 1) (a0.D.at q0.1 q0.2) :: .int .i64 (a0.D.n : Int) :: .int .i64 (k : Int) :: .any :: .any :: .any :: .any :: .any :: .any :: .any :: .any :: .any :: .any :: [], []))
      (fun k => k ≤ a0.D.n ∧ idxN (satOut a0.D) k = none) (fun k => a0.D.n - k) 0 [] ⟨Nat.zero_le _, rfl⟩ ?_ ?_ ?_
    · repeat' (first | (with_reducible refine And.intro ?_ ?_) | (with_reducible intro h) | ((fail_if_success (with_reducible refine Leaf.mk ?_)); (fail_if_success (with_reducible refine VC.mk ?_)); (fail_if_success (with_reducible refine Goes.mk ?_)); (fail_if_success (with_reducible refine Again.mk ?_)); (fail_if_success (with_reducible refine Rounds.mk ?_)); (fail_if_success (with_reducible show False)); (fail_if_success (with_reducible show True)); conv => whnf))
      all_goals first | exact trivial | (refine Leaf.mk ?_; first | rfl | exact ⟨rfl, rfl⟩ | (simp; done))
    · repeat' (first | (with_reducible refine And.intro ?_ ?_) | (with_reducible intro h) | ((fail_if_success (with_reducible refine Leaf.mk ?_)); (fail_if_success (with_reducible refine VC.mk ?_)); (fail_if_success (with_reducible refine Goes.mk ?_)); (fail_if_success (with_reducible refine Again.mk ?_)); (fail_if_success (with_reducible refine Rounds.mk ?_)); (fail_if_success (with_reducible show False)); (fail_if_success (with_reducible show True)); conv => whnf))
      all_goals first | exact trivial | (refine Leaf.mk ?_; first | rfl | exact ⟨rfl, rfl⟩ | (simp; done))
    · intro k hx
      rcases Nat.lt_or_ge k a0.D.n with hk | hk
      · have hd : decide ((k : Int) < (a0.D.n : Int)) = true := by simp; omega
        cases hb : satOut a0.D k with
        | true =>
          repeat' (first | (with_reducible refine And.intro ?_ ?_) | (with_reducible intro h; try with_reducible first | exact (bcS hd h).elim) | ((fail_if_success (with_reducible refine Leaf.mk ?_)); (fail_if_success (with_reducible refine VC.mk ?_)); (fail_if_success (with_reducible refine Goes.mk ?_)); (fail_if_success (with_reducible refine Again.mk ?_)); (fail_if_success (with_reducible refine Rounds.mk ?_)); (fail_if_success (with_reducible show False)); (fail_if_success (with_reducible show True)); conv => whnf))
          all_goals try simp only [Int.toNat_natCast] at *
          all_goals try with_reducible exact trivial
          all_goals try (refine VC.mk ?_; first | exact trivial | omega | (simp only [InR]; omega) | (show (k : Int) < (a0.D.n : Int); omega) | (show k < a0.D.n; omega))
          all_goals try (refine Leaf.mk ?_; exact (idxI_hit hx.2 hb hk).symm)
          all_goals first
            | exact (bcS hb (by assumption)).elim
            | skip
          skip
        | false =>
          repeat' (first | (with_reducible refine And.intro ?_ ?_) | (with_reducible intro h; try with_reducible first | exact (bcS hd h).elim) | ((fail_if_success (with_reducible refine Leaf.mk ?_)); (fail_if_success (with_reducible refine VC.mk ?_)); (fail_if_success (with_reducible refine Goes.mk ?_)); (fail_if_success (with_reducible refine Again.mk ?_)); (fail_if_success (with_reducible refine Rounds.mk ?_)); (fail_if_success (with_reducible show False)); (fail_if_success (with_reducible show True)); conv => whnf))
          all_goals try simp only [Int.toNat_natCast] at *
          all_goals try with_reducible exact trivial
          all_goals try (refine VC.mk ?_; first | exact trivial | omega | (simp only [InR]; omega) | (show (k : Int) < (a0.D.n : Int); omega) | (show k < a0.D.n; omega))
          all_goals first
            | exact (bcS (by assumption) hb).elim
            | skip
          all_goals (refine Again.mk ⟨k + 1, [], ⟨by omega, idxN_next hx.2 hb⟩, (by show a0.D.n - (k + 1) < a0.D.n - k; omega), ?_, ?_⟩ <;> (repeat' (first | (with_reducible refine And.intro ?_ ?_) | (with_reducible intro h) | ((fail_if_success (with_reducible refine Leaf.mk ?_)); (fail_if_success (with_reducible refine VC.mk ?_)); (fail_if_success (with_reducible refine Goes.mk ?_)); (fail_if_success (with_reducible refine Again.mk ?_)); (fail_if_success (with_reducible refine Rounds.mk ?_)); (fail_if_success (with_reducible show False)); (fail_if_success (with_reducible show True)); conv => whnf))) <;> first | exact trivial | (refine Leaf.mk ?_; first | rfl | (simp; done)))
          skip
      · have e : k = a0.D.n := by omega
        have hd : decide ((k : Int) < (a0.D.n : Int)) = false := by simp; omega
        repeat' (first | (with_reducible refine And.intro ?_ ?_) | (with_reducible intro h; try with_reducible first | exact (bcS h hd).elim) | ((fail_if_success (with_reducible refine Leaf.mk ?_)); (fail_if_success (with_reducible refine VC.mk ?_)); (fail_if_success (with_reducible refine Goes.mk ?_)); (fail_if_success (with_reducible refine Again.mk ?_)); (fail_if_success (with_reducible refine Rounds.mk ?_)); (fail_if_success (with_reducible show False)); (fail_if_success (with_reducible show True)); conv => whnf))
        all_goals try with_reducible exact trivial
        all_goals try (refine VC.mk ?_; first | exact trivial | omega | (simp only [InR]; omega))
        all_goals (refine Leaf.mk ?_; exact (idxI_no (by rw [← e]; exact hx.2)).symm)
def c_containsInt : Con := ⟨119, dpRun [.rw 1, .fn 120 []] (fun | [a0] => [a0.D.n ≤ 4611686018427387904] | _ => [False]) fun
  | [a0] => [.val (.bool (decide (0 ≤ idxI (satOut a0.D) a0.D.n)))]
  | _ => []⟩
set_option maxRecDepth 100000 in
set_option maxHeartbeats 4000000 in
theorem con_containsInt : c_containsInt.Ok Tryz.prog := by
  refine con_dp (C := [c_indexInt]) (pl := []) Tryz.func119 rfl (by kernel_rfl) T_ok (Cons.cons con_indexInt (Cons.nil _)) mixed (by kernel_rfl) _ _ _ (fun l ps hl hps hpre => ?_)
  match l, hl, ps, hps with
  | [a0], zl, [q0], zp =>
    clear zl zp
    have hp0 := hpre _ (List.Mem.head _); try dsimp only at hp0
    clear hpre
    repeat' (first | (with_reducible refine And.intro ?_ ?_) | (with_reducible intro h) | ((fail_if_success (with_reducible refine Leaf.mk ?_)); (fail_if_success (with_reducible refine VC.mk ?_)); (fail_if_success (with_reducible refine Goes.mk ?_)); (fail_if_success (with_reducible refine Again.mk ?_)); (fail_if_success (with_reducible refine Rounds.mk ?_)); (fail_if_success (with_reducible show False)); (fail_if_success (with_reducible show True)); conv => whnf))
    all_goals try with_reducible exact trivial
    all_goals try (simp only [decide_eq_true_eq, decide_eq_false_iff_not, Bool.not_eq_true', Bool.not_eq_false'] at *)
    all_goals try (refine VC.mk ?_; first | exact trivial | omega | (simp only [InR]; omega) | assumption | exact hp0)
    all_goals (refine Leaf.mk ?_; rfl)
def c_world_saturated : Con := ⟨76, dpRun [.rw 1] (fun | [a0] => [a0.D.n ≤ 4611686018427387904] | _ => [False]) fun
  | [a0] => [.val (.bool (satR a0.D))]
  | _ => []⟩
set_option maxRecDepth 100000 in
set_option maxHeartbeats 4000000 in
theorem con_world_saturated : c_world_saturated.Ok Tryz.prog := by
  refine con_dp (C := [c_containsInt]) (pl := []) Tryz.func76 rfl (by kernel_rfl) T_ok (Cons.cons con_containsInt (Cons.nil _)) mixed (by kernel_rfl) _ _ _ (fun l ps hl hps hpre => ?_)
  match l, hl, ps, hps with
  | [a0], zl, [q0], zp =>
    clear zl zp
    have hp0 := hpre _ (List.Mem.head _); try dsimp only at hp0
    clear hpre
    repeat' (first | (with_reducible refine And.intro ?_ ?_) | (with_reducible intro h) | ((fail_if_success (with_reducible refine Leaf.mk ?_)); (fail_if_success (with_reducible refine VC.mk ?_)); (fail_if_success (with_reducible refine Goes.mk ?_)); (fail_if_success (with_reducible refine Again.mk ?_)); (fail_if_success (with_reducible refine Rounds.mk ?_)); (fail_if_success (with_reducible show False)); (fail_if_success (with_reducible show True)); conv => whnf))
    all_goals try with_reducible exact trivial
    all_goals try (simp only [decide_eq_true_eq, decide_eq_false_iff_not, Bool.not_eq_true', Bool.not_eq_false'] at *)
    all_goals try (refine VC.mk ?_; first | exact trivial | omega | (simp only [InR]; omega) | assumption | exact hp0)
    all_goals (refine Leaf.mk ?_; rfl)
def c_world_ptBad : Con := ⟨78, dpRun [.st pointC] (fun | [px, py, sp, id, ni, ti] => [] | _ => [False]) fun
  | [px, py, sp, id, ni, ti] => [.val (.bool (decide (ni.i < 0) || !satR (rowT 0 0 [[px.i], [py.i], [sp.i], [id.i], [ni.i], [ti.i]])))]
  | _ => []⟩
set_option maxRecDepth 100000 in
set_option maxHeartbeats 4000000 in
theorem con_world_ptBad : c_world_ptBad.Ok Tryz.prog := by
  refine con_dp (C := [c_world_saturated]) (pl := []) Tryz.func78 rfl (by kernel_rfl) T_ok (Cons.cons con_world_saturated (Cons.nil _)) mixed (by kernel_rfl) _ _ _ (fun l ps hl hps hpre => ?_)
  match l, hl, ps, hps with
  | [px, py, sp, id, ni, ti], zl, [], zp =>
    clear zl zp
    clear hpre
    repeat' (first | (with_reducible refine And.intro ?_ ?_) | (with_reducible intro h) | ((fail_if_success (with_reducible refine Leaf.mk ?_)); (fail_if_success (with_reducible refine VC.mk ?_)); (fail_if_success (with_reducible refine Goes.mk ?_)); (fail_if_success (with_reducible refine Again.mk ?_)); (fail_if_success (with_reducible refine Rounds.mk ?_)); (fail_if_success (with_reducible show False)); (fail_if_success (with_reducible show True)); conv => whnf))
    all_goals try with_reducible exact trivial
    all_goals try (simp only [decide_eq_true_eq, decide_eq_false_iff_not, Bool.not_eq_true', Bool.not_eq_false'] at *)
    all_goals try (refine VC.mk ?_; first | exact trivial | omega | (simp only [InR]; omega) | assumption)
    all_goals try simp only [List.drop_zero, Nat.reduceAdd, Nat.zero_add, List.take_succ_cons, List.take_zero] at *
    all_goals try with_reducible exact trivial
    all_goals try (refine VC.mk ?_; first | exact trivial | (simp; done) | (simp [rowT, DT.n]; done))
    all_goals (refine Leaf.mk ?_; first | rfl | (simp [*]; done) | (simp_all; done))
def c_indexPoint : Con := ⟨121, dpRun [.c (.s pointC), .fn 78 []] (fun | [a0] => [a0.D.n ≤ 4611686018427387904] | _ => [False]) fun
  | [a0] => [.val (.int .i64 (idxI (ptBad a0.D) a0.D.n))]
  | _ => []⟩
set_option maxRecDepth 100000 in
set_option maxHeartbeats 4000000 in
theorem con_indexPoint : c_indexPoint.Ok Tryz.prog := by
  refine con_dp (C := [c_world_ptBad]) (pl := []) Tryz.func121 rfl (by kernel_rfl) T_ok (Cons.cons con_world_ptBad (Cons.nil _)) mixed (by kernel_rfl) _ _ _ (fun l ps hl hps hpre => ?_)
  match l, hl, ps, hps with
  | [a0], zl, [], zp =>
    clear zl zp
    have hp0 := hpre _ (List.Mem.head _); try dsimp only at hp0
    clear hpre
    repeat' (first | (with_reducible refine And.intro ?_ ?_) | (with_reducible intro h) | ((fail_if_success (with_reducible refine Leaf.mk ?_)); (fail_if_success (with_reducible refine VC.mk ?_)); (fail_if_success (with_reducible refine Goes.mk ?_)); (fail_if_success (with_reducible refine Again.mk ?_)); (fail_if_success (with_reducible refine Rounds.mk ?_)); (fail_if_success (with_reducible show False)); (fail_if_success (with_reducible show True)); conv => whnf))
    all_goals try with_reducible exact trivial
    refine goes_inv (X := Nat) (pl := []) T_ok (Cons.cons con_world_ptBad (Cons.nil _)) mixed (by kernel_rfl)
      (fun k => (.ds a0.nl pointC a0.D :: .clo 78 [] :: .any :: .any :: .lit .i64 0 :: .any :: .ds a0.nl pointC a0.D :: .int .i64 (a0.D.n : Int) :: .int .i64 (k : Int) :: .any :: .any :: .any :: .any :: .any :: .any :: .any :: .any :: .any :: .any :: [], []))
      (fun k => k ≤ a0.D.n ∧ idxN (ptBad a0.D) k = none) (fun k => a0.D.n - k) 0 [] ⟨Nat.zero_le _, rfl⟩ ?_ ?_ ?_
    · repeat' (first | (with_reducible refine And.intro ?_ ?_) | (with_reducible intro h) | ((fail_if_success (with_reducible refine Leaf.mk ?_)); (fail_if_success (with_reducible refine VC.mk ?_)); (fail_if_success (with_reducible refine Goes.mk ?_)); (fail_if_success (with_reducible refine Again.mk ?_)); (fail_if_success (with_reducible refine Rounds.mk ?_)); (fail_if_success (with_reducible show False)); (fail_if_success (with_reducible show True)); conv => whnf))
      all_goals first | exact trivial | (refine Leaf.mk ?_; first | rfl | exact ⟨rfl, rfl⟩ | (simp; done))
    · repeat' (first | (with_reducible refine And.intro ?_ ?_) | (with_reducible intro h) | ((fail_if_success (with_reducible refine Leaf.mk ?_)); (fail_if_success (with_reducible refine VC.mk ?_)); (fail_if_success (with_reducible refine Goes.mk ?_)); (fail_if_success (with_reducible refine Again.mk ?_)); (fail_if_success (with_reducible refine Rounds.mk ?_)); (fail_if_success (with_reducible show False)); (fail_if_success (with_reducible show True)); conv => whnf))
      all_goals first | exact trivial | (refine Leaf.mk ?_; first | rfl | exact ⟨rfl, rfl⟩ | (simp; done))
    · intro k hx
      rcases Nat.lt_or_ge k a0.D.n with hk | hk
      · have hd : decide ((k : Int) < (a0.D.n : Int)) = true := by simp; omega
        cases hb : ptBad a0.D k with
        | true =>
          repeat' (first | (with_reducible refine And.intro ?_ ?_) | (with_reducible intro h; try with_reducible first | exact (bcS hd h).elim) | ((fail_if_success (with_reducible refine Leaf.mk ?_)); (fail_if_success (with_reducible refine VC.mk ?_)); (fail_if_success (with_reducible refine Goes.mk ?_)); (fail_if_success (with_reducible refine Again.mk ?_)); (fail_if_success (with_reducible refine Rounds.mk ?_)); (fail_if_success (with_reducible show False)); (fail_if_success (with_reducible show True)); conv => whnf))
          all_goals try simp only [Int.toNat_natCast] at *
          all_goals try with_reducible exact trivial
          all_goals try (refine VC.mk ?_; first | exact trivial | omega | (simp only [InR]; omega) | (show (k : Int) < (a0.D.n : Int); omega) | (show k < a0.D.n; omega))
          all_goals try (refine Leaf.mk ?_; exact (idxI_hit hx.2 hb hk).symm)
          all_goals first
            | exact (bcS hb (by assumption)).elim
            | skip
          skip
        | false =>
          repeat' (first | (with_reducible refine And.intro ?_ ?_) | (with_reducible intro h; try with_reducible first | exact (bcS hd h).elim) | ((fail_if_success (with_reducible refine Leaf.mk ?_)); (fail_if_success (with_reducible refine VC.mk ?_)); (fail_if_success (with_reducible refine Goes.mk ?_)); (fail_if_success (with_reducible refine Again.mk ?_)); (fail_if_success (with_reducible refine Rounds.mk ?_)); (fail_if_success (with_reducible show False)); (fail_if_success (with_reducible show True)); conv => whnf))
          all_goals try simp only [Int.toNat_natCast] at *
          all_goals try with_reducible exact trivial
          all_goals try (refine VC.mk ?_; first | exact trivial | omega | (simp only [InR]; omega) | (show (k : Int) < (a0.D.n : Int); omega) | (show k < a0.D.n; omega))
          all_goals first
            | exact (bcS (by assumption) hb).elim
            | skip
          all_goals (refine Again.mk ⟨k + 1, [], ⟨by omega, idxN_next hx.2 hb⟩, (by show a0.D.n - (k + 1) < a0.D.n - k; omega), ?_, ?_⟩ <;> (repeat' (first | (with_reducible refine And.intro ?_ ?_) | (with_reducible intro h) | ((fail_if_success (with_reducible refine Leaf.mk ?_)); (fail_if_success (with_reducible refine VC.mk ?_)); (fail_if_success (with_reducible refine Goes.mk ?_)); (fail_if_success (with_reducible refine Again.mk ?_)); (fail_if_success (with_reducible refine Rounds.mk ?_)); (fail_if_success (with_reducible show False)); (fail_if_success (with_reducible show True)); conv => whnf))) <;> first | exact trivial | (refine Leaf.mk ?_; first | rfl | (simp; done)))
          skip
      · have e : k = a0.D.n := by omega
        have hd : decide ((k : Int) < (a0.D.n : Int)) = false := by simp; omega
        repeat' (first | (with_reducible refine And.intro ?_ ?_) | (with_reducible intro h; try with_reducible first | exact (bcS h hd).elim) | ((fail_if_success (with_reducible refine Leaf.mk ?_)); (fail_if_success (with_reducible refine VC.mk ?_)); (fail_if_success (with_reducible refine Goes.mk ?_)); (fail_if_success (with_reducible refine Again.mk ?_)); (fail_if_success (with_reducible refine Rounds.mk ?_)); (fail_if_success (with_reducible show False)); (fail_if_success (with_reducible show True)); conv => whnf))
        all_goals try with_reducible exact trivial
        all_goals try (refine VC.mk ?_; first | exact trivial | omega | (simp only [InR]; omega))
        all_goals (refine Leaf.mk ?_; exact (idxI_no (by rw [← e]; exact hx.2)).symm)
def c_containsPoint : Con := ⟨77, dpRun [.c (.s pointC), .fn 78 []] (fun | [a0] => [a0.D.n ≤ 4611686018427387904] | _ => [False]) fun
  | [a0] => [.val (.bool (decide (0 ≤ idxI (ptBad a0.D) a0.D.n)))]
  | _ => []⟩
set_option maxRecDepth 100000 in
set_option maxHeartbeats 4000000 in
theorem con_containsPoint : c_containsPoint.Ok Tryz.prog := by
  refine con_dp (C := [c_indexPoint]) (pl := []) Tryz.func77 rfl (by kernel_rfl) T_ok (Cons.cons con_indexPoint (Cons.nil _)) mixed (by kernel_rfl) _ _ _ (fun l ps hl hps hpre => ?_)
  match l, hl, ps, hps with
  | [a0], zl, [], zp =>
    clear zl zp
    have hp0 := hpre _ (List.Mem.head _); try dsimp only at hp0
    clear hpre
    repeat' (first | (with_reducible refine And.intro ?_ ?_) | (with_reducible intro h) | ((fail_if_success (with_reducible refine Leaf.mk ?_)); (fail_if_success (with_reducible refine VC.mk ?_)); (fail_if_success (with_reducible refine Goes.mk ?_)); (fail_if_success (with_reducible refine Again.mk ?_)); (fail_if_success (with_reducible refine Rounds.mk ?_)); (fail_if_success (with_reducible show False)); (fail_if_success (with_reducible show True)); conv => whnf))
    all_goals try with_reducible exact trivial
    all_goals try (simp only [decide_eq_true_eq, decide_eq_false_iff_not, Bool.not_eq_true', Bool.not_eq_false'] at *)
    all_goals try (refine VC.mk ?_; first | exact trivial | omega | (simp only [InR]; omega) | assumption)
    all_goals (refine Leaf.mk ?_; first | rfl | trivial)
def c_world_validManifold : Con := ⟨36, dpRun [.st [I64, I64, .s pointC]] (fun | [x, y, P] => [] | _ => [False]) fun
  | [x, y, P] => [.val (.bool (mfB x.i y.i P.D))]
  | _ => []⟩
set_option maxRecDepth 100000 in
set_option maxHeartbeats 4000000 in
theorem con_world_validManifold : c_world_validManifold.Ok Tryz.prog := by
  refine con_dp (C := [c_world_saturated, c_containsPoint]) (pl := [(2, [0, 1, 2, 3, 4, 5, 6, 7, 8, 9, 10, 11, 12, 13, 14, 15, 16, 17, 18, 19, 20, 21, 22, 23, 24, 25, 26, 27, 28, 29, 30, 31, 32, 33], [0, 1, 3, 7, 15, 31, 63, 127, 255, 511, 1023, 2047, 4095, 8191, 16383, 1023, 33791, 99327, 230399, 492543, 1048575, 2097151, 4194303, 8388607, 16777215, 33554431, 67108863, 16777215, 150994943, 419430399, 1073741823, 2147483647, 4294967295, 8589934591])]) Tryz.func36 rfl (by kernel_rfl) T_ok (Cons.cons con_world_saturated (Cons.cons con_containsPoint (Cons.nil _))) mixed (by kernel_rfl) _ _ _ (fun l ps hl hps hpre => ?_)
  match l, hl, ps, hps with
  | [x, y, P], zl, [], zp =>
    clear zl zp
    clear hpre
    repeat' (first | (with_reducible refine And.intro ?_ ?_) | (with_reducible intro h) | ((fail_if_success (with_reducible refine Leaf.mk ?_)); (fail_if_success (with_reducible refine VC.mk ?_)); (fail_if_success (with_reducible refine Goes.mk ?_)); (fail_if_success (with_reducible refine Again.mk ?_)); (fail_if_success (with_reducible refine Rounds.mk ?_)); (fail_if_success (with_reducible show False)); (fail_if_success (with_reducible show True)); conv => whnf))
    all_goals try with_reducible exact trivial
    all_goals try (simp only [decide_eq_true_eq, decide_eq_false_iff_not, Bool.not_eq_true', Bool.not_eq_false'] at *)
    all_goals try (refine VC.mk ?_; first | exact trivial | omega | (simp only [InR]; omega) | assumption)
    all_goals try simp only [List.drop_zero, Nat.reduceAdd, Nat.zero_add, List.take_succ_cons, List.take_zero] at *
    all_goals try with_reducible exact trivial
    all_goals try (refine VC.mk ?_; first | exact trivial | (simp; done) | (simp [rowT, DT.n]; done))
    all_goals (refine Leaf.mk ?_; unfold mfB; first | (rw [if_pos (by omega)]; done) | (rw [if_neg (by omega)]; first | rfl | (simp [*]; done) | (simp_all; done)))
/-- The place of a body. -/
def idIs (id : Int) (D : DT) (i : Nat) : Bool := decide (D.ci i 0 = id)
def fndI (D : DT) (id : Int) : Int := idxI (idIs id D) D.n
def c_world_idIs : Con := ⟨75, dpRun [.st bodyC, .pt [I64]] (fun | [id, kd, px, py, an, vx, vy, av, fx, fy, tq, ld, ad, gs, bu, fr, ns, sl, idl, F, c] => [] | _ => [False]) fun
  | [id, kd, px, py, an, vx, vy, av, fx, fy, tq, ld, ad, gs, bu, fr, ns, sl, idl, F, c] => [.val (.bool (decide (id.i = c.i)))]
  | _ => []⟩
set_option maxRecDepth 100000 in
set_option maxHeartbeats 4000000 in
theorem con_world_idIs : c_world_idIs.Ok Tryz.prog := by
  refine con_dp (C := []) (pl := []) Tryz.func75 rfl (by kernel_rfl) T_ok (Cons.nil _) mixed (by kernel_rfl) _ _ _ (fun l ps hl hps hpre => ?_)
  match l, hl, ps, hps with
  | [id, kd, px, py, an, vx, vy, av, fx, fy, tq, ld, ad, gs, bu, fr, ns, sl, idl, F, c], zl, [q0], zp =>
    clear zl zp
    clear hpre
    repeat' (first | (with_reducible refine And.intro ?_ ?_) | (with_reducible intro h) | ((fail_if_success (with_reducible refine Leaf.mk ?_)); (fail_if_success (with_reducible refine VC.mk ?_)); (fail_if_success (with_reducible refine Goes.mk ?_)); (fail_if_success (with_reducible refine Again.mk ?_)); (fail_if_success (with_reducible refine Rounds.mk ?_)); (fail_if_success (with_reducible show False)); (fail_if_success (with_reducible show True)); conv => whnf))
    all_goals try with_reducible exact trivial
    all_goals try (simp only [decide_eq_true_eq, decide_eq_false_iff_not, Bool.not_eq_true', Bool.not_eq_false'] at *)
    all_goals try (refine VC.mk ?_; first | exact trivial | omega | (simp only [InR]; omega) | assumption)
    all_goals refine Leaf.mk ?_
    all_goals first | rfl | (simp [*]; done)
def c_indexBody : Con := ⟨74, dpRun [.c (.s bodyC), .fn 75 [[I64]]] (fun | [a0, c] => [a0.D.n ≤ 4611686018427387904] | _ => [False]) fun
  | [a0, c] => [.val (.int .i64 (idxI (idIs c.i a0.D) a0.D.n))]
  | _ => []⟩
set_option maxRecDepth 100000 in
set_option maxHeartbeats 4000000 in
theorem con_indexBody : c_indexBody.Ok Tryz.prog := by
  refine con_dp (C := [c_world_idIs]) (pl := []) Tryz.func74 rfl (by kernel_rfl) T_ok (Cons.cons con_world_idIs (Cons.nil _)) mixed (by kernel_rfl) _ _ _ (fun l ps hl hps hpre => ?_)
  match l, hl, ps, hps with
  | [a0, c], zl, [q0], zp =>
    clear zl zp
    have hp0 := hpre _ (List.Mem.head _); try dsimp only at hp0
    clear hpre
    repeat' (first | (with_reducible refine And.intro ?_ ?_) | (with_reducible intro h) | ((fail_if_success (with_reducible refine Leaf.mk ?_)); (fail_if_success (with_reducible refine VC.mk ?_)); (fail_if_success (with_reducible refine Goes.mk ?_)); (fail_if_success (with_reducible refine Again.mk ?_)); (fail_if_success (with_reducible refine Rounds.mk ?_)); (fail_if_success (with_reducible show False)); (fail_if_success (with_reducible show True)); conv => whnf))
    all_goals try with_reducible exact trivial
    refine goes_inv (X := Nat) (pl := []) T_ok (Cons.cons con_world_idIs (Cons.nil _)) mixed (by kernel_rfl)
      (fun k => (.ds a0.nl bodyC a0.D :: .clo 75 [.dp [I64] (boxT q0.1 q0.2 [c]) 0 0] :: .any :: .any :: .lit .i64 0 :: .any :: .ds a0.nl bodyC a0.D :: .int .i64 (a0.D.n : Int) :: .int .i64 (k : Int) :: .any :: .any :: .any :: .any :: .any :: .any :: .any :: .any :: .any :: .any :: [], []))
      (fun k => k ≤ a0.D.n ∧ idxN (idIs c.i a0.D) k = none) (fun k => a0.D.n - k) 0 [] ⟨Nat.zero_le _, rfl⟩ ?_ ?_ ?_
    · repeat' (first | (with_reducible refine And.intro ?_ ?_) | (with_reducible intro h) | ((fail_if_success (with_reducible refine Leaf.mk ?_)); (fail_if_success (with_reducible refine VC.mk ?_)); (fail_if_success (with_reducible refine Goes.mk ?_)); (fail_if_success (with_reducible refine Again.mk ?_)); (fail_if_success (with_reducible refine Rounds.mk ?_)); (fail_if_success (with_reducible show False)); (fail_if_success (with_reducible show True)); conv => whnf))
      all_goals first | exact trivial | (refine Leaf.mk ?_; first | rfl | exact ⟨rfl, rfl⟩ | (simp; done))
    · repeat' (first | (with_reducible refine And.intro ?_ ?_) | (with_reducible intro h) | ((fail_if_success (with_reducible refine Leaf.mk ?_)); (fail_if_success (with_reducible refine VC.mk ?_)); (fail_if_success (with_reducible refine Goes.mk ?_)); (fail_if_success (with_reducible refine Again.mk ?_)); (fail_if_success (with_reducible refine Rounds.mk ?_)); (fail_if_success (with_reducible show False)); (fail_if_success (with_reducible show True)); conv => whnf))
      all_goals first | exact trivial | (refine Leaf.mk ?_; first | rfl | exact ⟨rfl, rfl⟩ | (simp; done))
    · intro k hx
      rcases Nat.lt_or_ge k a0.D.n with hk | hk
      · have hd : decide ((k : Int) < (a0.D.n : Int)) = true := by simp; omega
        cases hb : idIs c.i a0.D k with
        | true =>
          repeat' (first | (with_reducible refine And.intro ?_ ?_) | (with_reducible intro h; try with_reducible first | exact (bcS hd h).elim) | ((fail_if_success (with_reducible refine Leaf.mk ?_)); (fail_if_success (with_reducible refine VC.mk ?_)); (fail_if_success (with_reducible refine Goes.mk ?_)); (fail_if_success (with_reducible refine Again.mk ?_)); (fail_if_success (with_reducible refine Rounds.mk ?_)); (fail_if_success (with_reducible show False)); (fail_if_success (with_reducible show True)); conv => whnf))
          all_goals try simp only [Int.toNat_natCast] at *
          all_goals try with_reducible exact trivial
          all_goals try (refine VC.mk ?_; first | exact trivial | omega | (simp only [InR]; omega) | (show (k : Int) < (a0.D.n : Int); omega) | (show k < a0.D.n; omega))
          all_goals try (refine Leaf.mk ?_; exact (idxI_hit hx.2 hb hk).symm)
          all_goals first
            | exact (bcS hb (by assumption)).elim
            | skip
          skip
        | false =>
          repeat' (first | (with_reducible refine And.intro ?_ ?_) | (with_reducible intro h; try with_reducible first | exact (bcS hd h).elim) | ((fail_if_success (with_reducible refine Leaf.mk ?_)); (fail_if_success (with_reducible refine VC.mk ?_)); (fail_if_success (with_reducible refine Goes.mk ?_)); (fail_if_success (with_reducible refine Again.mk ?_)); (fail_if_success (with_reducible refine Rounds.mk ?_)); (fail_if_success (with_reducible show False)); (fail_if_success (with_reducible show True)); conv => whnf))
          all_goals try simp only [Int.toNat_natCast] at *
          all_goals try with_reducible exact trivial
          all_goals try (refine VC.mk ?_; first | exact trivial | omega | (simp only [InR]; omega) | (show (k : Int) < (a0.D.n : Int); omega) | (show k < a0.D.n; omega))
          all_goals first
            | exact (bcS (by assumption) hb).elim
            | skip
          all_goals (refine Again.mk ⟨k + 1, [], ⟨by omega, idxN_next hx.2 hb⟩, (by show a0.D.n - (k + 1) < a0.D.n - k; omega), ?_, ?_⟩ <;> (repeat' (first | (with_reducible refine And.intro ?_ ?_) | (with_reducible intro h) | ((fail_if_success (with_reducible refine Leaf.mk ?_)); (fail_if_success (with_reducible refine VC.mk ?_)); (fail_if_success (with_reducible refine Goes.mk ?_)); (fail_if_success (with_reducible refine Again.mk ?_)); (fail_if_success (with_reducible refine Rounds.mk ?_)); (fail_if_success (with_reducible show False)); (fail_if_success (with_reducible show True)); conv => whnf))) <;> first | exact trivial | (refine Leaf.mk ?_; first | rfl | (simp; done)))
          skip
      · have e : k = a0.D.n := by omega
        have hd : decide ((k : Int) < (a0.D.n : Int)) = false := by simp; omega
        repeat' (first | (with_reducible refine And.intro ?_ ?_) | (with_reducible intro h; try with_reducible first | exact (bcS h hd).elim) | ((fail_if_success (with_reducible refine Leaf.mk ?_)); (fail_if_success (with_reducible refine VC.mk ?_)); (fail_if_success (with_reducible refine Goes.mk ?_)); (fail_if_success (with_reducible refine Again.mk ?_)); (fail_if_success (with_reducible refine Rounds.mk ?_)); (fail_if_success (with_reducible show False)); (fail_if_success (with_reducible show True)); conv => whnf))
        all_goals try with_reducible exact trivial
        all_goals try (refine VC.mk ?_; first | exact trivial | omega | (simp only [InR]; omega))
        all_goals (refine Leaf.mk ?_; exact (idxI_no (by rw [← e]; exact hx.2)).symm)
def c_world_FindBody : Con := ⟨35, dpRun [.st worldC, .c I64] (fun | [ts, gx, gy, it, ss, B, J, C, O, nx, fr, c] => [B.D.n ≤ 4611686018427387904] | _ => [False]) fun
  | [ts, gx, gy, it, ss, B, J, C, O, nx, fr, c] => [.val (.int .i64 (fndI B.D c.i))]
  | _ => []⟩
set_option maxRecDepth 100000 in
set_option maxHeartbeats 4000000 in
theorem con_world_FindBody : c_world_FindBody.Ok Tryz.prog := by
  refine con_dp (C := [c_indexBody]) (pl := []) Tryz.func35 rfl (by kernel_rfl) T_ok (Cons.cons con_indexBody (Cons.nil _)) mixed (by kernel_rfl) _ _ _ (fun l ps hl hps hpre => ?_)
  match l, hl, ps, hps with
  | [ts, gx, gy, it, ss, B, J, C, O, nx, fr, c], zl, [], zp =>
    clear zl zp
    have hp0 := hpre _ (List.Mem.head _); try dsimp only at hp0
    clear hpre
    repeat' (first | (with_reducible refine And.intro ?_ ?_) | (with_reducible intro h) | ((fail_if_success (with_reducible refine Leaf.mk ?_)); (fail_if_success (with_reducible refine VC.mk ?_)); (fail_if_success (with_reducible refine Goes.mk ?_)); (fail_if_success (with_reducible refine Again.mk ?_)); (fail_if_success (with_reducible refine Rounds.mk ?_)); (fail_if_success (with_reducible show False)); (fail_if_success (with_reducible show True)); conv => whnf))
    all_goals try with_reducible exact trivial
    all_goals try (simp only [decide_eq_true_eq, decide_eq_false_iff_not, Bool.not_eq_true', Bool.not_eq_false'] at *)
    all_goals try (refine VC.mk ?_; first | exact trivial | omega | (simp only [InR]; omega) | assumption)
    all_goals refine Leaf.mk ?_
    all_goals first | rfl | (simp [*]; done)

end Go.Proofs.YtohjifnkajhhnaaGreat

namespace Go.Proofs.YtohjifnkajhhnaaGreat
open Go.RowKit Fx Vx Bx Ev
set_option linter.unusedVariables false
set_option linter.unusedSimpArgs false
theorem fndI_lt {D : DT} {id : Int} (h : 0 ≤ fndI D id) : fndI D id < D.n := by
  have := idxI_bd (idIs id D) D.n
  unfold fndI at *; omega
def setV (ts gx gy it ss : Int) : Int := if inB ts 64 8192 && ((inB gx (-16777216) 16777216 && inB gy (-16777216) 16777216) && (inB it 1 32 && inB ss 0 1048576)) then 0 else 6
/-- The bodies of a joint are there. -/
def beB (B : DT) (kd ba bb : Int) : Bool := decide (0 ≤ fndI B bb) && (decide (kd = 5) || decide (0 ≤ fndI B ba))
def pvD (D : DT) : Nat → Int
  | 0 => 0
  | k + 1 => D.ci k 0
def bdAt (D : DT) (i : Nat) : Int := bdV (D.ci i 0) (D.ci i 1) (D.ci i 2) (D.ci i 3) (D.ci i 4) (D.ci i 5) (D.ci i 6) (D.ci i 7) (D.ci i 8) (D.ci i 9) (D.ci i 10) (D.ci i 11) (D.ci i 12) (D.ci i 13) (D.cb i 14) (D.cb i 17) (D.ci i 18) (D.cs i 19)
def bdBad (nx : Int) (D : DT) (i : Nat) : Bool := !decide (bdAt D i = 0) || (decide (nx ≤ D.ci i 0) || decide (D.ci i 0 ≤ pvD D i))
def jtAt (D : DT) (i : Nat) : Int := jtV (D.ci i 0) (D.ci i 1) (D.ci i 2) (D.ci i 3) (D.ci i 4) (D.ci i 5) (D.ci i 6) (D.ci i 7) (D.ci i 8) (D.ci i 9) (D.ci i 10) (D.cb i 11) (D.ci i 12) (D.ci i 13) (D.cb i 14) (D.ci i 15) (D.ci i 16) (D.ci i 17) (D.ci i 18) (D.ci i 20) (D.ci i 21) (D.ci i 22) (D.ci i 23)
def jtBad (nx : Int) (B D : DT) (i : Nat) : Bool := !decide (jtAt D i = 0) || (decide (nx ≤ D.ci i 0) || (decide (D.ci i 0 ≤ pvD D i) || (!beB B (D.ci i 1) (D.ci i 2) (D.ci i 3) || decide (0 ≤ fndI B (D.ci i 0)))))
def keyV (a f b g : Int) : Bool := decide (a < b) && (decide (0 ≤ f) && (decide (f < 4) && (decide (0 ≤ g) && decide (g < 4))))
def pvK (xs : List (List Int)) : Nat → Nat → Int
  | 0, _ => 0
  | k + 1, j => at2 xs k j
def keyBad (xs : List (List Int)) (i : Nat) : Bool := !keyV (at2 xs i 0) (at2 xs i 1) (at2 xs i 2) (at2 xs i 3) ||
  (decide (0 < i) && ((decide (at2 xs i 0 = pvK xs i 0) && (decide (at2 xs i 1 = pvK xs i 1) && (decide (at2 xs i 2 = pvK xs i 2) && decide (at2 xs i 3 = pvK xs i 3)))) || !decide (keyC (pvK xs i 0) (pvK xs i 1) (pvK xs i 2) (pvK xs i 3) (at2 xs i 0) (at2 xs i 1) (at2 xs i 2) (at2 xs i 3) < 0)))
def keysB (xs : List (List Int)) : Bool := !decide (0 ≤ idxI (keyBad xs) xs.length)
/-- The fixtures of a key are there. -/
def feB (B : DT) (a f b g : Int) : Bool := decide (0 ≤ fndI B a) && (decide (0 ≤ fndI B b) && (decide (f < (B.cs (fndI B a).toNat 19).n) && decide (g < (B.cs (fndI B b).toNat 19).n)))
def c_world_ValidateSettings : Con := ⟨14, pureRun [5] (fun _ => []) fun | [ts, gx, gy, it, ss] => .int .i64 (setV ts gx gy it ss) | _ => .any⟩
set_option maxRecDepth 100000 in
set_option maxHeartbeats 1000000 in
theorem con_world_ValidateSettings : c_world_ValidateSettings.Ok Tryz.prog := by
  refine con_pure (C := [c_world_in]) (pl := []) Tryz.func14 rfl (by kernel_rfl) T_ok (Cons.cons con_world_in (Cons.nil _)) mixed (by kernel_rfl) _ _ _ (fun l hl hpre => ?_)
  match l, hl with
  | [ts, gx, gy, it, ss], _ =>
    repeat' (first | (with_reducible refine And.intro ?_ ?_) | (with_reducible intro h) | ((fail_if_success (with_reducible refine Leaf.mk ?_)); (fail_if_success (with_reducible refine VC.mk ?_)); (fail_if_success (with_reducible refine Goes.mk ?_)); (fail_if_success (with_reducible refine Again.mk ?_)); (fail_if_success (with_reducible refine Rounds.mk ?_)); (fail_if_success (with_reducible show False)); (fail_if_success (with_reducible show True)); conv => whnf))
    all_goals try with_reducible exact trivial
    all_goals try (simp only [decide_eq_true_eq, decide_eq_false_iff_not, Bool.not_eq_true', Bool.not_eq_false'] at *)
    all_goals try (refine VC.mk ?_; first | exact trivial | omega | (simp only [InR]; omega) | assumption)
    all_goals (refine Leaf.mk ?_; first | rfl | (simp [setV, *]; done) | (simp_all [setV]; done))
def c_broadphase_valid : Con := ⟨79, pureRun [4] (fun _ => []) fun | [a, f, b, g] => .bool (keyV a f b g) | _ => .any⟩
set_option maxRecDepth 100000 in
set_option maxHeartbeats 1000000 in
theorem con_broadphase_valid : c_broadphase_valid.Ok Tryz.prog := by
  refine con_pure (C := []) (pl := []) Tryz.func79 rfl (by kernel_rfl) T_ok (Cons.nil _) mixed (by kernel_rfl) _ _ _ (fun l hl hpre => ?_)
  match l, hl with
  | [a, f, b, g], _ =>
    repeat' (first | (with_reducible refine And.intro ?_ ?_) | (with_reducible intro h) | ((fail_if_success (with_reducible refine Leaf.mk ?_)); (fail_if_success (with_reducible refine VC.mk ?_)); (fail_if_success (with_reducible refine Goes.mk ?_)); (fail_if_success (with_reducible refine Again.mk ?_)); (fail_if_success (with_reducible refine Rounds.mk ?_)); (fail_if_success (with_reducible show False)); (fail_if_success (with_reducible show True)); conv => whnf))
    all_goals try with_reducible exact trivial
    all_goals try (simp only [decide_eq_true_eq, decide_eq_false_iff_not, Bool.not_eq_true', Bool.not_eq_false'] at *)
    all_goals try (refine VC.mk ?_; first | exact trivial | omega | (simp only [InR]; omega) | assumption)
    all_goals (refine Leaf.mk ?_; first | rfl | (simp [keyV, *]; done) | (simp_all [keyV]; done))
def c_world_bodiesExist : Con := ⟨34, dpRun [.st worldC, .st jointC] (fun | ts :: gx :: gy :: it :: ss :: B :: J :: C :: O :: nx :: fr :: yid :: ykd :: yba :: ybb :: yax :: yay :: ybx :: yby_ :: yxx :: yxy :: yra :: yel :: ylo :: yup :: yem :: yms :: ymf :: yso :: ybr :: ycc :: yi0 :: yi1 :: yi2 :: yi3 :: [] => [B.D.n ≤ 4611686018427387904] | _ => [False]) fun
  | ts :: gx :: gy :: it :: ss :: B :: J :: C :: O :: nx :: fr :: yid :: ykd :: yba :: ybb :: yax :: yay :: ybx :: yby_ :: yxx :: yxy :: yra :: yel :: ylo :: yup :: yem :: yms :: ymf :: yso :: ybr :: ycc :: yi0 :: yi1 :: yi2 :: yi3 :: [] => [.val (.bool (beB B.D ykd.i yba.i ybb.i))]
  | _ => []⟩
set_option maxRecDepth 100000 in
set_option maxHeartbeats 4000000 in
theorem con_world_bodiesExist : c_world_bodiesExist.Ok Tryz.prog := by
  refine con_dp (C := [c_world_FindBody]) (pl := []) Tryz.func34 rfl (by kernel_rfl) T_ok (Cons.cons con_world_FindBody (Cons.nil _)) mixed (by kernel_rfl) _ _ _ (fun l ps hl hps hpre => ?_)
  match l, hl, ps, hps with
  | ts :: gx :: gy :: it :: ss :: B :: J :: C :: O :: nx :: fr :: yid :: ykd :: yba :: ybb :: yax :: yay :: ybx :: yby_ :: yxx :: yxy :: yra :: yel :: ylo :: yup :: yem :: yms :: ymf :: yso :: ybr :: ycc :: yi0 :: yi1 :: yi2 :: yi3 :: [], zl, [], zp =>
    clear zl zp
    have hp0 := hpre _ (List.Mem.head _); try dsimp only at hp0
    clear hpre
    repeat' (first | (with_reducible refine And.intro ?_ ?_) | (with_reducible intro h) | ((fail_if_success (with_reducible refine Leaf.mk ?_)); (fail_if_success (with_reducible refine VC.mk ?_)); (fail_if_success (with_reducible refine Goes.mk ?_)); (fail_if_success (with_reducible refine Again.mk ?_)); (fail_if_success (with_reducible refine Rounds.mk ?_)); (fail_if_success (with_reducible show False)); (fail_if_success (with_reducible show True)); conv => whnf))
    all_goals try with_reducible exact trivial
    all_goals try (simp only [decide_eq_true_eq, decide_eq_false_iff_not, Bool.not_eq_true', Bool.not_eq_false'] at *)
    all_goals try (refine VC.mk ?_; first | exact trivial | omega | (simp only [InR]; omega) | assumption)
    all_goals (refine Leaf.mk ?_; first | rfl | (simp [beB, *]; done) | (simp_all [beB]; done))
def c_world_fixturesExist : Con := ⟨41, dpRun [.st worldC, .st keyC'] (fun | [ts, gx, gy, it, ss, B, J, C, O, nx, fr, a, f, b, g] => [B.D.n ≤ 4611686018427387904] | _ => [False]) fun
  | [ts, gx, gy, it, ss, B, J, C, O, nx, fr, a, f, b, g] => [.val (.bool (feB B.D a.i f.i b.i g.i))]
  | _ => []⟩
set_option maxRecDepth 100000 in
set_option maxHeartbeats 4000000 in
theorem con_world_fixturesExist : c_world_fixturesExist.Ok Tryz.prog := by
  refine con_dp (C := [c_world_FindBody]) (pl := [(1, [0, 1, 2, 3, 4, 5, 6, 7, 8, 9], [0, 0, 2, 7, 0, 0, 32, 127, 255, 511]), (2, [0, 1, 2, 3, 4, 5, 6, 7, 8, 9, 10, 11, 12, 13, 14, 15, 16, 17, 18, 19, 20, 21, 22, 23, 24, 25, 26, 27, 28, 29, 30], [0, 1, 3, 7, 15, 31, 63, 127, 255, 127, 639, 127, 3711, 7807, 15999, 32383, 65535, 131071, 262143, 524287, 1048575, 524287, 2621439, 524287, 15204351, 31981567, 65535999, 132644863, 268435455, 536870911, 1073741823])]) Tryz.func41 rfl (by kernel_rfl) T_ok (Cons.cons con_world_FindBody (Cons.nil _)) mixed (by kernel_rfl) _ _ _ (fun l ps hl hps hpre => ?_)
  match l, hl, ps, hps with
  | [ts, gx, gy, it, ss, B, J, C, O, nx, fr, a, f, b, g], zl, [], zp =>
    clear zl zp
    have hp0 := hpre _ (List.Mem.head _); try dsimp only at hp0
    clear hpre
    repeat' (first | (with_reducible refine And.intro ?_ ?_) | (with_reducible intro h) | ((fail_if_success (with_reducible refine Leaf.mk ?_)); (fail_if_success (with_reducible refine VC.mk ?_)); (fail_if_success (with_reducible refine Goes.mk ?_)); (fail_if_success (with_reducible refine Again.mk ?_)); (fail_if_success (with_reducible refine Rounds.mk ?_)); (fail_if_success (with_reducible show False)); (fail_if_success (with_reducible show True)); conv => whnf))
    all_goals try with_reducible exact trivial
    all_goals try (simp only [decide_eq_true_eq, decide_eq_false_iff_not, Bool.not_eq_true', Bool.not_eq_false'] at *)
    all_goals try (refine VC.mk ?_; first | exact trivial | omega | (simp only [InR]; omega) | assumption | exact fndI_lt ‹_› | (have := fndI_lt (D := B.D) (id := a.i) ‹_›; omega) | (have := fndI_lt (D := B.D) (id := b.i) ‹_›; omega))
    all_goals (refine Leaf.mk ?_; first | rfl | (simp [feB, *]; done) | (simp_all [feB]; done))
def c_world_validBodies : Con := ⟨16, dpRun [.st worldC] (fun | [ts, gx, gy, it, ss, B, J, C, O, nx, fr] => [B.D.n ≤ 4611686018427387904] | _ => [False]) fun
  | [ts, gx, gy, it, ss, B, J, C, O, nx, fr] => [.val (.bool (!decide (0 ≤ idxI (bdBad nx.i B.D) B.D.n)))]
  | _ => []⟩
set_option maxRecDepth 100000 in
set_option maxHeartbeats 4000000 in
theorem con_world_validBodies : c_world_validBodies.Ok Tryz.prog := by
  refine con_dp (C := [c_body_Validate]) (pl := []) Tryz.func16 rfl (by kernel_rfl) T_ok (Cons.cons con_body_Validate (Cons.nil _)) mixed (by kernel_rfl) _ _ _ (fun l ps hl hps hpre => ?_)
  match l, hl, ps, hps with
  | [ts, gx, gy, it, ss, B, J, C, O, nx, fr], zl, [], zp =>
    clear zl zp
    have hp0 := hpre _ (List.Mem.head _); try dsimp only at hp0
    clear hpre
    repeat' (first | (with_reducible refine And.intro ?_ ?_) | (with_reducible intro h) | ((fail_if_success (with_reducible refine Leaf.mk ?_)); (fail_if_success (with_reducible refine VC.mk ?_)); (fail_if_success (with_reducible refine Goes.mk ?_)); (fail_if_success (with_reducible refine Again.mk ?_)); (fail_if_success (with_reducible refine Rounds.mk ?_)); (fail_if_success (with_reducible show False)); (fail_if_success (with_reducible show True)); conv => whnf))
    all_goals try with_reducible exact trivial
    all_goals try (simp only [decide_eq_true_eq, decide_eq_false_iff_not, Bool.not_eq_true', Bool.not_eq_false'] at *)
    all_goals try (refine VC.mk ?_; first | exact trivial | omega | (simp only [InR]; omega) | assumption)
    refine goes_inv (X := Nat) (pl := []) T_ok (Cons.cons con_body_Validate (Cons.nil _)) mixed (by kernel_rfl)
      (fun k => (.any :: .ptr 0 0 :: .any :: .int .i64 (pvD B.D k) :: .any :: .any :: .any :: .ds B.nl bodyC B.D :: .int .i64 (B.D.n : Int) :: .int .i64 (k : Int) :: .any :: .any :: .any :: .any :: .any :: .any :: .any :: .any :: .any :: .any :: .any :: .any :: .any :: .any :: .any :: .any :: .any :: .any :: .any :: .any :: .any :: .any :: [], [.cells [.int .i64 ts.i, .int .i64 gx.i, .int .i64 gy.i, .int .i64 it.i, .int .i64 ss.i, .ds B.nl bodyC B.D, .ds J.nl jointC J.D, .ds C.nl contactC C.D, .ds O.nl keyC' O.D, .int .i64 nx.i, .int .i64 fr.i]]))
      (fun k => k ≤ B.D.n ∧ idxN (bdBad nx.i B.D) k = none) (fun k => B.D.n - k) 0 [0] ⟨Nat.zero_le _, rfl⟩ ?_ ?_ ?_
    · repeat' (first | (with_reducible refine And.intro ?_ ?_) | (with_reducible intro h) | ((fail_if_success (with_reducible refine Leaf.mk ?_)); (fail_if_success (with_reducible refine VC.mk ?_)); (fail_if_success (with_reducible refine Goes.mk ?_)); (fail_if_success (with_reducible refine Again.mk ?_)); (fail_if_success (with_reducible refine Rounds.mk ?_)); (fail_if_success (with_reducible show False)); (fail_if_success (with_reducible show True)); conv => whnf))
      all_goals first | exact trivial | (refine Leaf.mk ?_; first | rfl | exact ⟨rfl, rfl⟩ | (simp; done))
    · repeat' (first | (with_reducible refine And.intro ?_ ?_) | (with_reducible intro h) | ((fail_if_success (with_reducible refine Leaf.mk ?_)); (fail_if_success (with_reducible refine VC.mk ?_)); (fail_if_success (with_reducible refine Goes.mk ?_)); (fail_if_success (with_reducible refine Again.mk ?_)); (fail_if_success (with_reducible refine Rounds.mk ?_)); (fail_if_success (with_reducible show False)); (fail_if_success (with_reducible show True)); conv => whnf))
      all_goals first | exact trivial | (refine Leaf.mk ?_; first | rfl | exact ⟨rfl, rfl⟩ | (simp; done))
    · intro k hx
      obtain ⟨x1, x2⟩ := hx
      rcases Nat.lt_or_ge k B.D.n with hk | hk
      · have hd : decide ((k : Int) < (B.D.n : Int)) = true := by simp; omega
        repeat' (first | (with_reducible refine And.intro ?_ ?_) | (with_reducible intro h; try with_reducible first | exact (bcS hd h).elim) | ((fail_if_success (with_reducible refine Leaf.mk ?_)); (fail_if_success (with_reducible refine VC.mk ?_)); (fail_if_success (with_reducible refine Goes.mk ?_)); (fail_if_success (with_reducible refine Again.mk ?_)); (fail_if_success (with_reducible refine Rounds.mk ?_)); (fail_if_success (with_reducible show False)); (fail_if_success (with_reducible show True)); conv => whnf))
        all_goals try simp only [Int.toNat_natCast, Nat.zero_add] at *
        all_goals try with_reducible exact trivial
        all_goals try (simp only [decide_eq_true_eq, decide_eq_false_iff_not, Bool.not_eq_true', Bool.not_eq_false'] at *)
        all_goals try (refine VC.mk ?_; (try simp only [InR] at *); first | exact trivial | omega | assumption)
        all_goals first
          | (refine Leaf.mk ?_
             have hb : (bdBad nx.i B.D) k = true := by first | (simp [bdBad, bdAt, *]; done) | (simp_all [bdBad, bdAt]; done)
             rw [idxI_hit x2 hb hk]; symm; simp; done)
          | (have hb : (bdBad nx.i B.D) k = false := by first | (simp [bdBad, bdAt, *]; done) | (simp_all [bdBad, bdAt]; done)
             (refine Again.mk ⟨k + 1, [0], ⟨by omega, idxN_next x2 hb⟩, (by show B.D.n - (k + 1) < B.D.n - k; omega), ?_, ?_⟩ <;> (repeat' (first | (with_reducible refine And.intro ?_ ?_) | (with_reducible intro h) | ((fail_if_success (with_reducible refine Leaf.mk ?_)); (fail_if_success (with_reducible refine VC.mk ?_)); (fail_if_success (with_reducible refine Goes.mk ?_)); (fail_if_success (with_reducible refine Again.mk ?_)); (fail_if_success (with_reducible refine Rounds.mk ?_)); (fail_if_success (with_reducible show False)); (fail_if_success (with_reducible show True)); conv => whnf))) <;> first | exact trivial | (refine Leaf.mk ?_; first | rfl | exact ⟨rfl, rfl⟩ | exact ⟨rfl, rfl, rfl⟩ | (simp; done))))
          | skip
      · obtain rfl : k = B.D.n := by omega
        have hd : decide ((B.D.n : Int) < (B.D.n : Int)) = false := by simp
        repeat' (first | (with_reducible refine And.intro ?_ ?_) | (with_reducible intro h; try with_reducible first | exact (bcS h hd).elim) | ((fail_if_success (with_reducible refine Leaf.mk ?_)); (fail_if_success (with_reducible refine VC.mk ?_)); (fail_if_success (with_reducible refine Goes.mk ?_)); (fail_if_success (with_reducible refine Again.mk ?_)); (fail_if_success (with_reducible refine Rounds.mk ?_)); (fail_if_success (with_reducible show False)); (fail_if_success (with_reducible show True)); conv => whnf))
        all_goals try with_reducible exact trivial
        all_goals (refine Leaf.mk ?_; rw [idxI_no x2]; first | rfl | (simp; done))

end Go.Proofs.YtohjifnkajhhnaaGreat

namespace Go.Proofs.YtohjifnkajhhnaaGreat
open Go.RowKit Fx Vx Bx Ev
set_option linter.unusedVariables false
set_option linter.unusedSimpArgs false
section
variable {xs : List (List Int)} {i : Nat}
theorem keyBad_1 (h : keyV (at2 xs i 0) (at2 xs i 1) (at2 xs i 2) (at2 xs i 3) = false) : keyBad xs i = true := by unfold keyBad; rw [h]; rfl
theorem keyBad_2 (h0 : 0 < (i : Int)) (h : (decide (at2 xs i 0 = pvK xs i 0) && (decide (at2 xs i 1 = pvK xs i 1) && (decide (at2 xs i 2 = pvK xs i 2) && decide (at2 xs i 3 = pvK xs i 3)))) = true) : keyBad xs i = true := by
  have h1 : decide (0 < i) = true := decide_eq_true (by omega)
  unfold keyBad; rw [h, h1, Bool.true_or, Bool.true_and, Bool.or_true]
theorem keyBad_3 (h0 : 0 < (i : Int)) (h : ¬ keyC (pvK xs i 0) (pvK xs i 1) (pvK xs i 2) (pvK xs i 3) (at2 xs i 0) (at2 xs i 1) (at2 xs i 2) (at2 xs i 3) < 0) : keyBad xs i = true := by
  have h1 : decide (0 < i) = true := decide_eq_true (by omega)
  unfold keyBad; rw [decide_eq_false h, h1, Bool.not_false, Bool.or_true, Bool.true_and, Bool.or_true]
theorem keyBad_4 (h : keyV (at2 xs i 0) (at2 xs i 1) (at2 xs i 2) (at2 xs i 3) = true) (h0 : ¬ 0 < (i : Int)) : keyBad xs i = false := by
  have h1 : decide (0 < i) = false := decide_eq_false (by omega)
  unfold keyBad; rw [h, h1, Bool.false_and]; rfl
theorem keyBad_5 (h : keyV (at2 xs i 0) (at2 xs i 1) (at2 xs i 2) (at2 xs i 3) = true) (he : (decide (at2 xs i 0 = pvK xs i 0) && (decide (at2 xs i 1 = pvK xs i 1) && (decide (at2 xs i 2 = pvK xs i 2) && decide (at2 xs i 3 = pvK xs i 3)))) = false) (hk : keyC (pvK xs i 0) (pvK xs i 1) (pvK xs i 2) (pvK xs i 3) (at2 xs i 0) (at2 xs i 1) (at2 xs i 2) (at2 xs i 3) < 0) : keyBad xs i = false := by
  unfold keyBad; rw [h, he, decide_eq_true hk, Bool.not_true, Bool.or_false, Bool.and_false]; rfl
end
def c_broadphase_ValidKeys : Con := ⟨37, rowRun [.rows 4] (fun l R => match l, R with | [], [xs] => [xs.length ≤ 4611686018427387904] | _, _ => [False]) fun l R => match l, R with
  | [], [xs] => .bool (keysB xs)
  | _, _ => .any⟩
set_option maxRecDepth 100000 in
set_option maxHeartbeats 600000 in
theorem con_broadphase_ValidKeys : c_broadphase_ValidKeys.Ok Tryz.prog := by
  refine con_rows (C := [c_broadphase_valid, c_broadphase_Less]) (pl := []) Tryz.func37 rfl (by kernel_rfl) T_ok (Cons.cons con_broadphase_valid (Cons.cons con_broadphase_Less (Cons.nil _))) mixed (by kernel_rfl) _ _ _ (fun l R hl hR hn hpre => ?_)
  match l, hl, R, hR with
  | [], zl, [(true, xs)], zr =>
    clear zl zr
    obtain rfl : xs = [] := hn _ (List.Mem.head _) rfl
    have hp0 := hpre _ (List.Mem.head _); try dsimp only at hp0
    skip
    repeat' (first | (with_reducible refine And.intro ?_ ?_) | (with_reducible intro h) | ((fail_if_success (with_reducible refine Leaf.mk ?_)); (fail_if_success (with_reducible refine VC.mk ?_)); (fail_if_success (with_reducible refine Goes.mk ?_)); (fail_if_success (with_reducible refine Again.mk ?_)); (fail_if_success (with_reducible refine Rounds.mk ?_)); (fail_if_success (with_reducible show False)); (fail_if_success (with_reducible show True)); conv => whnf))
    all_goals try with_reducible exact trivial
    all_goals try refine goes_rounds 1 ?_
    all_goals try (refine rounds_one (pl := []) T_ok (Cons.cons con_broadphase_valid (Cons.cons con_broadphase_Less (Cons.nil _))) mixed (by kernel_rfl) ?_; repeat' (first | (with_reducible refine And.intro ?_ ?_) | (with_reducible intro h) | ((fail_if_success (with_reducible refine Leaf.mk ?_)); (fail_if_success (with_reducible refine VC.mk ?_)); (fail_if_success (with_reducible refine Goes.mk ?_)); (fail_if_success (with_reducible refine Again.mk ?_)); (fail_if_success (with_reducible refine Rounds.mk ?_)); (fail_if_success (with_reducible show False)); (fail_if_success (with_reducible show True)); conv => whnf)))
    all_goals try with_reducible exact trivial
    all_goals try (refine VC.mk ?_; first | exact trivial | omega)
    all_goals (refine Leaf.mk ?_; first | rfl | (simp [keysB, idxI, idxN]; done))
  | [], zl, [(false, xs)], zr =>
    clear zl zr
    have hp0 := hpre _ (List.Mem.head _); try dsimp only at hp0
    skip
    repeat' (first | (with_reducible refine And.intro ?_ ?_) | (with_reducible intro h) | ((fail_if_success (with_reducible refine Leaf.mk ?_)); (fail_if_success (with_reducible refine VC.mk ?_)); (fail_if_success (with_reducible refine Goes.mk ?_)); (fail_if_success (with_reducible refine Again.mk ?_)); (fail_if_success (with_reducible refine Rounds.mk ?_)); (fail_if_success (with_reducible show False)); (fail_if_success (with_reducible show True)); conv => whnf))
    all_goals try with_reducible exact trivial
    unfold keysB
    refine goes_inv (X := Nat) (pl := []) T_ok (Cons.cons con_broadphase_valid (Cons.cons con_broadphase_Less (Cons.nil _))) mixed (by kernel_rfl)
      (fun k => (.any :: .any :: .any :: .ptr 1 0 :: .any :: .any :: .any :: .sl 0 4 0 xs.length :: .int .i64 (xs.length : Int) :: .int .i64 (k : Int) :: .any :: .any :: .any :: .any :: .any :: .any :: .any :: .any :: .any :: .any :: .any :: .any :: .any :: .any :: .any :: .any :: .any :: .any :: .any :: .any :: .any :: .any :: .any :: .any :: [], [.arr false true 4 xs, .cells [.int .i64 (pvK xs k 0), .int .i64 (pvK xs k 1), .int .i64 (pvK xs k 2), .int .i64 (pvK xs k 3)]]))
      (fun k => k ≤ xs.length ∧ idxN (keyBad xs) k = none) (fun k => xs.length - k) 0 [0, 1] ⟨Nat.zero_le _, rfl⟩ ?_ ?_ ?_
    · repeat' (first | (with_reducible refine And.intro ?_ ?_) | (with_reducible intro h) | ((fail_if_success (with_reducible refine Leaf.mk ?_)); (fail_if_success (with_reducible refine VC.mk ?_)); (fail_if_success (with_reducible refine Goes.mk ?_)); (fail_if_success (with_reducible refine Again.mk ?_)); (fail_if_success (with_reducible refine Rounds.mk ?_)); (fail_if_success (with_reducible show False)); (fail_if_success (with_reducible show True)); conv => whnf))
      all_goals first | exact trivial | (refine Leaf.mk ?_; first | rfl | exact ⟨rfl, rfl⟩ | (simp; done))
    · repeat' (first | (with_reducible refine And.intro ?_ ?_) | (with_reducible intro h) | ((fail_if_success (with_reducible refine Leaf.mk ?_)); (fail_if_success (with_reducible refine VC.mk ?_)); (fail_if_success (with_reducible refine Goes.mk ?_)); (fail_if_success (with_reducible refine Again.mk ?_)); (fail_if_success (with_reducible refine Rounds.mk ?_)); (fail_if_success (with_reducible show False)); (fail_if_success (with_reducible show True)); conv => whnf))
      all_goals first | exact trivial | (refine Leaf.mk ?_; first | rfl | exact ⟨rfl, rfl⟩ | (simp; done))
    · intro k hx
      obtain ⟨x1, x2⟩ := hx
      rcases Nat.lt_or_ge k xs.length with hk | hk
      · have hd : decide ((k : Int) < (xs.length : Int)) = true := by simp; omega
        repeat' (first | (with_reducible refine And.intro ?_ ?_) | (with_reducible intro h; try with_reducible first | exact (bcS hd h).elim) | ((fail_if_success (with_reducible refine Leaf.mk ?_)); (fail_if_success (with_reducible refine VC.mk ?_)); (fail_if_success (with_reducible refine Goes.mk ?_)); (fail_if_success (with_reducible refine Again.mk ?_)); (fail_if_success (with_reducible refine Rounds.mk ?_)); (fail_if_success (with_reducible show False)); (fail_if_success (with_reducible show True)); conv => whnf))
        all_goals try simp only [Int.toNat_natCast, Nat.zero_add] at *
        all_goals try with_reducible exact trivial
        all_goals try (simp only [decide_eq_true_eq, decide_eq_false_iff_not, Bool.not_eq_true', Bool.not_eq_false'] at *)
        all_goals try (refine VC.mk ?_; (try simp only [InR] at *); first | exact trivial | omega | assumption)
        all_goals try simp only [Nat.reduceAdd] at *
        all_goals try (refine VC.mk ?_; exact trivial)
        all_goals first
          | (refine Leaf.mk ?_
             have hb : (keyBad xs) k = true := by with_reducible first | exact keyBad_1 ‹_› | exact keyBad_2 ‹_› ‹_› | exact keyBad_3 ‹_› ‹_›
             rw [idxI_hit x2 hb hk]; symm; simp; done)
          | (have hb : (keyBad xs) k = false := by with_reducible first | exact keyBad_4 ‹_› ‹_› | exact keyBad_5 ‹_› ‹_› ‹_›
             (refine Again.mk ⟨k + 1, [0, 1], ⟨by omega, idxN_next x2 hb⟩, (by show xs.length - (k + 1) < xs.length - k; omega), ?_, ?_⟩ <;> (repeat' (first | (with_reducible refine And.intro ?_ ?_) | (with_reducible intro h) | ((fail_if_success (with_reducible refine Leaf.mk ?_)); (fail_if_success (with_reducible refine VC.mk ?_)); (fail_if_success (with_reducible refine Goes.mk ?_)); (fail_if_success (with_reducible refine Again.mk ?_)); (fail_if_success (with_reducible refine Rounds.mk ?_)); (fail_if_success (with_reducible show False)); (fail_if_success (with_reducible show True)); conv => whnf))) <;> first | exact trivial | (refine Leaf.mk ?_; first | rfl | exact ⟨rfl, rfl⟩ | exact ⟨rfl, rfl, rfl⟩ | (simp; done))))
          | skip
      · obtain rfl : k = xs.length := by omega
        have hd : decide ((xs.length : Int) < (xs.length : Int)) = false := by simp
        repeat' (first | (with_reducible refine And.intro ?_ ?_) | (with_reducible intro h; try with_reducible first | exact (bcS h hd).elim) | ((fail_if_success (with_reducible refine Leaf.mk ?_)); (fail_if_success (with_reducible refine VC.mk ?_)); (fail_if_success (with_reducible refine Goes.mk ?_)); (fail_if_success (with_reducible refine Again.mk ?_)); (fail_if_success (with_reducible refine Rounds.mk ?_)); (fail_if_success (with_reducible show False)); (fail_if_success (with_reducible show True)); conv => whnf))
        all_goals try with_reducible exact trivial
        all_goals (refine Leaf.mk ?_; rw [idxI_no x2]; first | rfl | (simp; done))

end Go.Proofs.YtohjifnkajhhnaaGreat

namespace Go.Proofs.YtohjifnkajhhnaaGreat
open Go.RowKit Fx Vx Bx Ev
set_option linter.unusedVariables false
set_option linter.unusedSimpArgs false
section
variable {nx : Int} {B D : DT} {i : Nat}
theorem jtBad_1 (h : ¬ jtV (D.ci i 0) (D.ci i 1) (D.ci i 2) (D.ci i 3) (D.ci i 4) (D.ci i 5) (D.ci i 6) (D.ci i 7) (D.ci i 8) (D.ci i 9) (D.ci i 10) (D.cb i 11) (D.ci i 12) (D.ci i 13) (D.cb i 14) (D.ci i 15) (D.ci i 16) (D.ci i 17) (D.ci i 18) (D.ci i 20) (D.ci i 21) (D.ci i 22) (D.ci i 23) = 0) : jtBad nx B D i = true := by unfold jtBad jtAt; simp [h]
theorem jtBad_2 (h : nx ≤ D.ci i 0) : jtBad nx B D i = true := by unfold jtBad; simp [h]
theorem jtBad_3 (h : D.ci i 0 ≤ pvD D i) : jtBad nx B D i = true := by unfold jtBad; simp [h]
theorem jtBad_4 (h : beB B (D.ci i 1) (D.ci i 2) (D.ci i 3) = false) : jtBad nx B D i = true := by unfold jtBad; simp [h]
theorem jtBad_5 (h : 0 ≤ fndI B (D.ci i 0)) : jtBad nx B D i = true := by unfold jtBad; simp [h]
theorem jtBad_no (h1 : jtV (D.ci i 0) (D.ci i 1) (D.ci i 2) (D.ci i 3) (D.ci i 4) (D.ci i 5) (D.ci i 6) (D.ci i 7) (D.ci i 8) (D.ci i 9) (D.ci i 10) (D.cb i 11) (D.ci i 12) (D.ci i 13) (D.cb i 14) (D.ci i 15) (D.ci i 16) (D.ci i 17) (D.ci i 18) (D.ci i 20) (D.ci i 21) (D.ci i 22) (D.ci i 23) = 0) (h2 : ¬ nx ≤ D.ci i 0) (h3 : ¬ D.ci i 0 ≤ pvD D i) (h4 : beB B (D.ci i 1) (D.ci i 2) (D.ci i 3) = true) (h5 : ¬ 0 ≤ fndI B (D.ci i 0)) : jtBad nx B D i = false := by unfold jtBad jtAt; simp only [h1, h2, h3, h4, h5, decide_true, decide_false, Bool.not_true, Bool.or_false]
end
def c_world_validJoints : Con := ⟨17, dpRun [.st worldC] (fun | [ts, gx, gy, it, ss, B, J, C, O, nx, fr] => [B.D.n ≤ 4611686018427387904, J.D.n ≤ 4611686018427387904] | _ => [False]) fun
  | [ts, gx, gy, it, ss, B, J, C, O, nx, fr] => [.val (.bool (!decide (0 ≤ idxI (jtBad nx.i B.D J.D) J.D.n)))]
  | _ => []⟩
set_option maxRecDepth 100000 in
set_option maxHeartbeats 600000 in
theorem con_world_validJoints : c_world_validJoints.Ok Tryz.prog := by
  refine con_dp (C := [c_joint_Validate, c_world_bodiesExist, c_world_FindBody]) (pl := []) Tryz.func17 rfl (by kernel_rfl) T_ok (Cons.cons con_joint_Validate (Cons.cons con_world_bodiesExist (Cons.cons con_world_FindBody (Cons.nil _)))) mixed (by kernel_rfl) _ _ _ (fun l ps hl hps hpre => ?_)
  match l, hl, ps, hps with
  | [ts, gx, gy, it, ss, B, J, C, O, nx, fr], zl, [], zp =>
    clear zl zp
    have hp0 := hpre _ (List.Mem.head _); try dsimp only at hp0
    have hp1 := hpre _ (List.Mem.tail _ (List.Mem.head _)); try dsimp only at hp1
    clear hpre
    repeat' (first | (with_reducible refine And.intro ?_ ?_) | (with_reducible intro h) | ((fail_if_success (with_reducible refine Leaf.mk ?_)); (fail_if_success (with_reducible refine VC.mk ?_)); (fail_if_success (with_reducible refine Goes.mk ?_)); (fail_if_success (with_reducible refine Again.mk ?_)); (fail_if_success (with_reducible refine Rounds.mk ?_)); (fail_if_success (with_reducible show False)); (fail_if_success (with_reducible show True)); conv => whnf))
    all_goals try with_reducible exact trivial
    all_goals try (simp only [decide_eq_true_eq, decide_eq_false_iff_not, Bool.not_eq_true', Bool.not_eq_false'] at *)
    all_goals try (refine VC.mk ?_; first | exact trivial | omega | (simp only [InR]; omega) | assumption)
    refine goes_inv (X := Nat) (pl := []) T_ok (Cons.cons con_joint_Validate (Cons.cons con_world_bodiesExist (Cons.cons con_world_FindBody (Cons.nil _)))) mixed (by kernel_rfl)
      (fun k => (.any :: .ptr 0 0 :: .any :: .int .i64 (pvD J.D k) :: .any :: .any :: .any :: .ds J.nl jointC J.D :: .int .i64 (J.D.n : Int) :: .int .i64 (k : Int) :: .any :: .any :: .any :: .any :: .any :: .any :: .any :: .any :: .any :: .any :: .any :: .any :: .any :: .any :: .any :: .any :: .any :: .any :: .any :: .any :: .any :: .any :: .any :: .any :: .any :: .any :: .any :: .any :: .any :: .any :: .any :: .any :: .any :: .any :: .any :: [], [.cells [.int .i64 ts.i, .int .i64 gx.i, .int .i64 gy.i, .int .i64 it.i, .int .i64 ss.i, .ds B.nl bodyC B.D, .ds J.nl jointC J.D, .ds C.nl contactC C.D, .ds O.nl keyC' O.D, .int .i64 nx.i, .int .i64 fr.i]]))
      (fun k => k ≤ J.D.n ∧ idxN (jtBad nx.i B.D J.D) k = none) (fun k => J.D.n - k) 0 [0] ⟨Nat.zero_le _, rfl⟩ ?_ ?_ ?_
    · repeat' (first | (with_reducible refine And.intro ?_ ?_) | (with_reducible intro h) | ((fail_if_success (with_reducible refine Leaf.mk ?_)); (fail_if_success (with_reducible refine VC.mk ?_)); (fail_if_success (with_reducible refine Goes.mk ?_)); (fail_if_success (with_reducible refine Again.mk ?_)); (fail_if_success (with_reducible refine Rounds.mk ?_)); (fail_if_success (with_reducible show False)); (fail_if_success (with_reducible show True)); conv => whnf))
      all_goals first | exact trivial | (refine Leaf.mk ?_; first | rfl | exact ⟨rfl, rfl⟩ | (simp; done))
    · repeat' (first | (with_reducible refine And.intro ?_ ?_) | (with_reducible intro h) | ((fail_if_success (with_reducible refine Leaf.mk ?_)); (fail_if_success (with_reducible refine VC.mk ?_)); (fail_if_success (with_reducible refine Goes.mk ?_)); (fail_if_success (with_reducible refine Again.mk ?_)); (fail_if_success (with_reducible refine Rounds.mk ?_)); (fail_if_success (with_reducible show False)); (fail_if_success (with_reducible show True)); conv => whnf))
      all_goals first | exact trivial | (refine Leaf.mk ?_; first | rfl | exact ⟨rfl, rfl⟩ | (simp; done))
    · intro k hx
      obtain ⟨x1, x2⟩ := hx
      rcases Nat.lt_or_ge k J.D.n with hk | hk
      · have hd : decide ((k : Int) < (J.D.n : Int)) = true := by simp; omega
        repeat' (first | (with_reducible refine And.intro ?_ ?_) | (with_reducible intro h; try with_reducible first | exact (bcS hd h).elim) | ((fail_if_success (with_reducible refine Leaf.mk ?_)); (fail_if_success (with_reducible refine VC.mk ?_)); (fail_if_success (with_reducible refine Goes.mk ?_)); (fail_if_success (with_reducible refine Again.mk ?_)); (fail_if_success (with_reducible refine Rounds.mk ?_)); (fail_if_success (with_reducible show False)); (fail_if_success (with_reducible show True)); conv => whnf))
        all_goals try simp only [Int.toNat_natCast, Nat.zero_add] at *
        all_goals try with_reducible exact trivial
        all_goals try (simp only [decide_eq_true_eq, decide_eq_false_iff_not, Bool.not_eq_true', Bool.not_eq_false'] at *)
        all_goals try (refine VC.mk ?_; (try simp only [InR] at *); first | exact trivial | omega | assumption)
        all_goals first
          | (refine Leaf.mk ?_
             have hb : (jtBad nx.i B.D J.D) k = true := by with_reducible first | exact jtBad_1 ‹_› | exact jtBad_2 ‹_› | exact jtBad_3 ‹_› | exact jtBad_4 ‹_› | exact jtBad_5 ‹_›
             rw [idxI_hit x2 hb hk]; symm; simp; done)
          | (have hb : (jtBad nx.i B.D J.D) k = false := by exact jtBad_no (by with_reducible assumption) (by with_reducible assumption) (by with_reducible assumption) (by with_reducible assumption) (by with_reducible assumption)
             (refine Again.mk ⟨k + 1, [0], ⟨by omega, idxN_next x2 hb⟩, (by show J.D.n - (k + 1) < J.D.n - k; omega), ?_, ?_⟩ <;> (repeat' (first | (with_reducible refine And.intro ?_ ?_) | (with_reducible intro h) | ((fail_if_success (with_reducible refine Leaf.mk ?_)); (fail_if_success (with_reducible refine VC.mk ?_)); (fail_if_success (with_reducible refine Goes.mk ?_)); (fail_if_success (with_reducible refine Again.mk ?_)); (fail_if_success (with_reducible refine Rounds.mk ?_)); (fail_if_success (with_reducible show False)); (fail_if_success (with_reducible show True)); conv => whnf))) <;> first | exact trivial | (refine Leaf.mk ?_; first | rfl | exact ⟨rfl, rfl⟩ | exact ⟨rfl, rfl, rfl⟩ | (simp; done))))
          | skip
      · obtain rfl : k = J.D.n := by omega
        have hd : decide ((J.D.n : Int) < (J.D.n : Int)) = false := by simp
        repeat' (first | (with_reducible refine And.intro ?_ ?_) | (with_reducible intro h; try with_reducible first | exact (bcS h hd).elim) | ((fail_if_success (with_reducible refine Leaf.mk ?_)); (fail_if_success (with_reducible refine VC.mk ?_)); (fail_if_success (with_reducible refine Goes.mk ?_)); (fail_if_success (with_reducible refine Again.mk ?_)); (fail_if_success (with_reducible refine Rounds.mk ?_)); (fail_if_success (with_reducible show False)); (fail_if_success (with_reducible show True)); conv => whnf))
        all_goals try with_reducible exact trivial
        all_goals (refine Leaf.mk ?_; rw [idxI_no x2]; first | rfl | (simp; done))

end Go.Proofs.YtohjifnkajhhnaaGreat

namespace Go.Proofs.YtohjifnkajhhnaaGreat
open Go.RowKit Fx Vx Bx Ev
set_option linter.unusedVariables false
set_option linter.unusedSimpArgs false
def svBad (F : DT) (i : Nat) : Bool := decide (8 < (F.cs i 2).n)
def sbV (F : DT) : Bool := if 3 < F.n then false else !decide (0 ≤ idxI (svBad F) F.n)
def sbBad (B : DT) (i : Nat) : Bool := !sbV (B.cs i 19)
def scBad (C : DT) (i : Nat) : Bool := decide (4 < (C.cs i 6).n)
def smB (it : Int) (B J C O : DT) : Bool := if 7 < B.n ∨ 6 < J.n ∨ 40 < C.n ∨ 40 < O.n ∨ 16 < it then false else !decide (0 ≤ idxI (sbBad B) B.n) && !decide (0 ≤ idxI (scBad C) C.n)
theorem svBad_no {F : DT} {i : Nat} (h : ¬ 8 < ((F.cs i 2).n : Int)) : svBad F i = false := decide_eq_false (by omega)
theorem svBad_yes {F : DT} {i : Nat} (h : 8 < ((F.cs i 2).n : Int)) : svBad F i = true := decide_eq_true (by omega)
theorem scBad_no {F : DT} {i : Nat} (h : ¬ 4 < ((F.cs i 6).n : Int)) : scBad F i = false := decide_eq_false (by omega)
theorem scBad_yes {F : DT} {i : Nat} (h : 4 < ((F.cs i 6).n : Int)) : scBad F i = true := decide_eq_true (by omega)
theorem sbBad_no {F : DT} {i : Nat} (h : sbV (F.cs i 19) = true) : sbBad F i = false := by unfold sbBad; rw [h]; rfl
theorem sbBad_yes {F : DT} {i : Nat} (h : sbV (F.cs i 19) = false) : sbBad F i = true := by unfold sbBad; rw [h]; rfl
def c_ref40_smallBody : Con := ⟨12, dpRun [.st bodyC] (fun | [id, kd, px, py, an, vx, vy, av, fx, fy, tq, ld, ad, gs, bu, fr, ns, sl, idl, F] => [] | _ => [False]) fun
  | [id, kd, px, py, an, vx, vy, av, fx, fy, tq, ld, ad, gs, bu, fr, ns, sl, idl, F] => [.val (.bool (sbV F.D))]
  | _ => []⟩
set_option maxRecDepth 100000 in
set_option maxHeartbeats 4000000 in
theorem con_ref40_smallBody : c_ref40_smallBody.Ok Tryz.prog := by
  refine con_dp (C := []) (pl := []) Tryz.func12 rfl (by kernel_rfl) T_ok (Cons.nil _) mixed (by kernel_rfl) _ _ _ (fun l ps hl hps hpre => ?_)
  match l, hl, ps, hps with
  | [id, kd, px, py, an, vx, vy, av, fx, fy, tq, ld, ad, gs, bu, fr, ns, sl, idl, F], zl, [], zp =>
    clear zl zp
    clear hpre
    repeat' (first | (with_reducible refine And.intro ?_ ?_) | (with_reducible intro h) | ((fail_if_success (with_reducible refine Leaf.mk ?_)); (fail_if_success (with_reducible refine VC.mk ?_)); (fail_if_success (with_reducible refine Goes.mk ?_)); (fail_if_success (with_reducible refine Again.mk ?_)); (fail_if_success (with_reducible refine Rounds.mk ?_)); (fail_if_success (with_reducible show False)); (fail_if_success (with_reducible show True)); conv => whnf))
    all_goals try with_reducible exact trivial
    all_goals try (simp only [decide_eq_true_eq, decide_eq_false_iff_not, Bool.not_eq_true', Bool.not_eq_false'] at *)
    all_goals try (refine VC.mk ?_; first | exact trivial | omega | (simp only [InR]; omega) | assumption)
    all_goals try (refine Leaf.mk ?_; unfold sbV; rw [if_pos (by omega)]; done)
    have e : sbV F.D = !decide (0 ≤ idxI (svBad F.D) F.D.n) := if_neg (by omega)
    rw [e]
    refine goes_inv (X := Nat) (pl := []) T_ok (Cons.nil _) mixed (by kernel_rfl)
      (fun k => (.any :: .ptr 0 0 :: .any :: .int .i64 (k : Int) :: .any :: .any :: .any :: .any :: .any :: .any :: .any :: .any :: .any :: .any :: .any :: .any :: .any :: .any :: .any :: .any :: .any :: .any :: .any :: .any :: [], [.cells [.int .i64 id.i, .int .i64 kd.i, .int .i64 px.i, .int .i64 py.i, .int .i64 an.i, .int .i64 vx.i, .int .i64 vy.i, .int .i64 av.i, .int .i64 fx.i, .int .i64 fy.i, .int .i64 tq.i, .int .i64 ld.i, .int .i64 ad.i, .int .i64 gs.i, .bool bu.b, .bool fr.b, .bool ns.b, .bool sl.b, .int .i64 idl.i, .ds F.nl fixC F.D]]))
      (fun k => k ≤ F.D.n ∧ idxN (svBad F.D) k = none) (fun k => F.D.n - k) 0 [0] ⟨Nat.zero_le _, rfl⟩ ?_ ?_ ?_
    · repeat' (first | (with_reducible refine And.intro ?_ ?_) | (with_reducible intro h) | ((fail_if_success (with_reducible refine Leaf.mk ?_)); (fail_if_success (with_reducible refine VC.mk ?_)); (fail_if_success (with_reducible refine Goes.mk ?_)); (fail_if_success (with_reducible refine Again.mk ?_)); (fail_if_success (with_reducible refine Rounds.mk ?_)); (fail_if_success (with_reducible show False)); (fail_if_success (with_reducible show True)); conv => whnf))
      all_goals first | exact trivial | (refine Leaf.mk ?_; first | rfl | exact ⟨rfl, rfl⟩ | (simp; done))
    · repeat' (first | (with_reducible refine And.intro ?_ ?_) | (with_reducible intro h) | ((fail_if_success (with_reducible refine Leaf.mk ?_)); (fail_if_success (with_reducible refine VC.mk ?_)); (fail_if_success (with_reducible refine Goes.mk ?_)); (fail_if_success (with_reducible refine Again.mk ?_)); (fail_if_success (with_reducible refine Rounds.mk ?_)); (fail_if_success (with_reducible show False)); (fail_if_success (with_reducible show True)); conv => whnf))
      all_goals first | exact trivial | (refine Leaf.mk ?_; first | rfl | exact ⟨rfl, rfl⟩ | (simp; done))
    · intro k hx
      obtain ⟨x1, x2⟩ := hx
      rcases Nat.lt_or_ge k F.D.n with hk | hk
      · have hd : decide ((k : Int) < (F.D.n : Int)) = true := by simp; omega
        repeat' (first | (with_reducible refine And.intro ?_ ?_) | (with_reducible intro h; try with_reducible first | exact (bcS hd h).elim) | ((fail_if_success (with_reducible refine Leaf.mk ?_)); (fail_if_success (with_reducible refine VC.mk ?_)); (fail_if_success (with_reducible refine Goes.mk ?_)); (fail_if_success (with_reducible refine Again.mk ?_)); (fail_if_success (with_reducible refine Rounds.mk ?_)); (fail_if_success (with_reducible show False)); (fail_if_success (with_reducible show True)); conv => whnf))
        all_goals try simp only [Int.toNat_natCast, Nat.zero_add] at *
        all_goals try with_reducible exact trivial
        all_goals try (simp only [decide_eq_true_eq, decide_eq_false_iff_not, Bool.not_eq_true', Bool.not_eq_false'] at *)
        all_goals try (refine VC.mk ?_; (try simp only [InR] at *); first | exact trivial | omega | assumption)
        all_goals first
          | (refine Leaf.mk ?_
             have hb : (svBad F.D) k = true := by exact svBad_yes ‹_›
             rw [idxI_hit x2 hb hk]; symm; simp; done)
          | (have hb : (svBad F.D) k = false := by exact svBad_no ‹_›
             (refine Again.mk ⟨k + 1, [0], ⟨by omega, idxN_next x2 hb⟩, (by show F.D.n - (k + 1) < F.D.n - k; omega), ?_, ?_⟩ <;> (repeat' (first | (with_reducible refine And.intro ?_ ?_) | (with_reducible intro h) | ((fail_if_success (with_reducible refine Leaf.mk ?_)); (fail_if_success (with_reducible refine VC.mk ?_)); (fail_if_success (with_reducible refine Goes.mk ?_)); (fail_if_success (with_reducible refine Again.mk ?_)); (fail_if_success (with_reducible refine Rounds.mk ?_)); (fail_if_success (with_reducible show False)); (fail_if_success (with_reducible show True)); conv => whnf))) <;> first | exact trivial | (refine Leaf.mk ?_; first | rfl | exact ⟨rfl, rfl⟩ | exact ⟨rfl, rfl, rfl⟩ | (simp; done))))
          | skip
      · obtain rfl : k = F.D.n := by omega
        have hd : decide ((F.D.n : Int) < (F.D.n : Int)) = false := by simp
        repeat' (first | (with_reducible refine And.intro ?_ ?_) | (with_reducible intro h; try with_reducible first | exact (bcS h hd).elim) | ((fail_if_success (with_reducible refine Leaf.mk ?_)); (fail_if_success (with_reducible refine VC.mk ?_)); (fail_if_success (with_reducible refine Goes.mk ?_)); (fail_if_success (with_reducible refine Again.mk ?_)); (fail_if_success (with_reducible refine Rounds.mk ?_)); (fail_if_success (with_reducible show False)); (fail_if_success (with_reducible show True)); conv => whnf))
        all_goals try with_reducible exact trivial
        all_goals (refine Leaf.mk ?_; rw [idxI_no x2]; first | rfl | (simp; done))
def c_ref40_IsSmall : Con := ⟨4, dpRun [.st worldC] (fun | [ts, gx, gy, it, ss, B, J, C, O, nx, fr] => [] | _ => [False]) fun
  | [ts, gx, gy, it, ss, B, J, C, O, nx, fr] => [.val (.bool (smB it.i B.D J.D C.D O.D))]
  | _ => []⟩
set_option maxRecDepth 100000 in
set_option maxHeartbeats 4000000 in
theorem con_ref40_IsSmall : c_ref40_IsSmall.Ok Tryz.prog := by
  refine con_dp (C := [c_ref40_smallBody]) (pl := []) Tryz.func4 rfl (by kernel_rfl) T_ok (Cons.cons con_ref40_smallBody (Cons.nil _)) mixed (by kernel_rfl) _ _ _ (fun l ps hl hps hpre => ?_)
  match l, hl, ps, hps with
  | [ts, gx, gy, it, ss, B, J, C, O, nx, fr], zl, [], zp =>
    clear zl zp
    clear hpre
    repeat' (first | (with_reducible refine And.intro ?_ ?_) | (with_reducible intro h) | ((fail_if_success (with_reducible refine Leaf.mk ?_)); (fail_if_success (with_reducible refine VC.mk ?_)); (fail_if_success (with_reducible refine Goes.mk ?_)); (fail_if_success (with_reducible refine Again.mk ?_)); (fail_if_success (with_reducible refine Rounds.mk ?_)); (fail_if_success (with_reducible show False)); (fail_if_success (with_reducible show True)); conv => whnf))
    all_goals try with_reducible exact trivial
    all_goals try (simp only [decide_eq_true_eq, decide_eq_false_iff_not, Bool.not_eq_true', Bool.not_eq_false'] at *)
    all_goals try (refine VC.mk ?_; first | exact trivial | omega | (simp only [InR]; omega) | assumption)
    all_goals try (refine Leaf.mk ?_; unfold smB; rw [if_pos (by omega)]; done)
    have e : smB it.i B.D J.D C.D O.D = (!decide (0 ≤ idxI (sbBad B.D) B.D.n) && !decide (0 ≤ idxI (scBad C.D) C.D.n)) := if_neg (by omega)
    rw [e]
    refine goes_inv (X := Nat) (pl := []) T_ok (Cons.cons con_ref40_smallBody (Cons.nil _)) mixed (by kernel_rfl)
      (fun k => (.any :: .ptr 0 0 :: .any :: .int .i64 (k : Int) :: .any :: .any :: .any :: .any :: .any :: .any :: .any :: .any :: .any :: .any :: .any :: .any :: .any :: .any :: .any :: .any :: .any :: .any :: .any :: .any :: .any :: .any :: .any :: .any :: .any :: .any :: .any :: .any :: .any :: .any :: .any :: .any :: .any :: .any :: .any :: .any :: .any :: .any :: .any :: .any :: .any :: .any :: .any :: .any :: .any :: .any :: .any :: .any :: .any :: .any :: .any :: .any :: .any :: .any :: .any :: .any :: .any :: .any :: .any :: [], [.cells [.int .i64 ts.i, .int .i64 gx.i, .int .i64 gy.i, .int .i64 it.i, .int .i64 ss.i, .ds B.nl bodyC B.D, .ds J.nl jointC J.D, .ds C.nl contactC C.D, .ds O.nl keyC' O.D, .int .i64 nx.i, .int .i64 fr.i]]))
      (fun k => k ≤ B.D.n ∧ idxN (sbBad B.D) k = none) (fun k => B.D.n - k) 0 [0] ⟨Nat.zero_le _, rfl⟩ ?_ ?_ ?_
    · repeat' (first | (with_reducible refine And.intro ?_ ?_) | (with_reducible intro h) | ((fail_if_success (with_reducible refine Leaf.mk ?_)); (fail_if_success (with_reducible refine VC.mk ?_)); (fail_if_success (with_reducible refine Goes.mk ?_)); (fail_if_success (with_reducible refine Again.mk ?_)); (fail_if_success (with_reducible refine Rounds.mk ?_)); (fail_if_success (with_reducible show False)); (fail_if_success (with_reducible show True)); conv => whnf))
      all_goals first | exact trivial | (refine Leaf.mk ?_; first | rfl | exact ⟨rfl, rfl⟩ | (simp; done))
    · repeat' (first | (with_reducible refine And.intro ?_ ?_) | (with_reducible intro h) | ((fail_if_success (with_reducible refine Leaf.mk ?_)); (fail_if_success (with_reducible refine VC.mk ?_)); (fail_if_success (with_reducible refine Goes.mk ?_)); (fail_if_success (with_reducible refine Again.mk ?_)); (fail_if_success (with_reducible refine Rounds.mk ?_)); (fail_if_success (with_reducible show False)); (fail_if_success (with_reducible show True)); conv => whnf))
      all_goals first | exact trivial | (refine Leaf.mk ?_; first | rfl | exact ⟨rfl, rfl⟩ | (simp; done))
    · intro k hx
      obtain ⟨x1, x2⟩ := hx
      rcases Nat.lt_or_ge k B.D.n with hk | hk
      · have hd : decide ((k : Int) < (B.D.n : Int)) = true := by simp; omega
        repeat' (first | (with_reducible refine And.intro ?_ ?_) | (with_reducible intro h; try with_reducible first | exact (bcS hd h).elim) | ((fail_if_success (with_reducible refine Leaf.mk ?_)); (fail_if_success (with_reducible refine VC.mk ?_)); (fail_if_success (with_reducible refine Goes.mk ?_)); (fail_if_success (with_reducible refine Again.mk ?_)); (fail_if_success (with_reducible refine Rounds.mk ?_)); (fail_if_success (with_reducible show False)); (fail_if_success (with_reducible show True)); conv => whnf))
        all_goals try simp only [Int.toNat_natCast, Nat.zero_add] at *
        all_goals try with_reducible exact trivial
        all_goals try (simp only [decide_eq_true_eq, decide_eq_false_iff_not, Bool.not_eq_true', Bool.not_eq_false'] at *)
        all_goals try (refine VC.mk ?_; (try simp only [InR] at *); first | exact trivial | omega | assumption)
        all_goals first
          | (refine Leaf.mk ?_
             have hb : (sbBad B.D) k = true := by exact sbBad_yes ‹_›
             rw [idxI_hit x2 hb hk]; symm; simp; done)
          | (have hb : (sbBad B.D) k = false := by exact sbBad_no ‹_›
             (refine Again.mk ⟨k + 1, [0], ⟨by omega, idxN_next x2 hb⟩, (by show B.D.n - (k + 1) < B.D.n - k; omega), ?_, ?_⟩ <;> (repeat' (first | (with_reducible refine And.intro ?_ ?_) | (with_reducible intro h) | ((fail_if_success (with_reducible refine Leaf.mk ?_)); (fail_if_success (with_reducible refine VC.mk ?_)); (fail_if_success (with_reducible refine Goes.mk ?_)); (fail_if_success (with_reducible refine Again.mk ?_)); (fail_if_success (with_reducible refine Rounds.mk ?_)); (fail_if_success (with_reducible show False)); (fail_if_success (with_reducible show True)); conv => whnf))) <;> first | exact trivial | (refine Leaf.mk ?_; first | rfl | exact ⟨rfl, rfl⟩ | exact ⟨rfl, rfl, rfl⟩ | (simp; done))))
          | skip
      · obtain rfl : k = B.D.n := by omega
        have hd : decide ((B.D.n : Int) < (B.D.n : Int)) = false := by simp
        have hB := idxI_no x2
        rw [hB]
        repeat' (first | (with_reducible refine And.intro ?_ ?_) | (with_reducible intro h; try with_reducible first | exact (bcS h hd).elim) | ((fail_if_success (with_reducible refine Leaf.mk ?_)); (fail_if_success (with_reducible refine VC.mk ?_)); (fail_if_success (with_reducible refine Goes.mk ?_)); (fail_if_success (with_reducible refine Again.mk ?_)); (fail_if_success (with_reducible refine Rounds.mk ?_)); (fail_if_success (with_reducible show False)); (fail_if_success (with_reducible show True)); conv => whnf))
        all_goals try with_reducible exact trivial
        refine goes_inv (X := Nat) (pl := []) T_ok (Cons.cons con_ref40_smallBody (Cons.nil _)) mixed (by kernel_rfl)
          (fun k => (.any :: .ptr 0 0 :: .any :: .any :: .int .i64 (k : Int) :: .any :: .any :: .any :: .any :: .any :: .any :: .any :: .any :: .any :: .any :: .any :: .any :: .any :: .any :: .any :: .any :: .any :: .any :: .any :: .any :: .any :: .any :: .any :: .any :: .any :: .any :: .any :: .any :: .any :: .any :: .any :: .any :: .any :: .any :: .any :: .any :: .any :: .any :: .any :: .any :: .any :: .any :: .any :: .any :: .any :: .any :: .any :: .any :: .any :: .any :: .any :: .any :: .any :: .any :: .any :: .any :: .any :: .any :: [], [.cells [.int .i64 ts.i, .int .i64 gx.i, .int .i64 gy.i, .int .i64 it.i, .int .i64 ss.i, .ds B.nl bodyC B.D, .ds J.nl jointC J.D, .ds C.nl contactC C.D, .ds O.nl keyC' O.D, .int .i64 nx.i, .int .i64 fr.i]]))
          (fun k => k ≤ C.D.n ∧ idxN (scBad C.D) k = none) (fun k => C.D.n - k) 0 [0] ⟨Nat.zero_le _, rfl⟩ ?_ ?_ ?_
        · repeat' (first | (with_reducible refine And.intro ?_ ?_) | (with_reducible intro h) | ((fail_if_success (with_reducible refine Leaf.mk ?_)); (fail_if_success (with_reducible refine VC.mk ?_)); (fail_if_success (with_reducible refine Goes.mk ?_)); (fail_if_success (with_reducible refine Again.mk ?_)); (fail_if_success (with_reducible refine Rounds.mk ?_)); (fail_if_success (with_reducible show False)); (fail_if_success (with_reducible show True)); conv => whnf))
          all_goals first | exact trivial | (refine Leaf.mk ?_; first | rfl | exact ⟨rfl, rfl⟩ | (simp; done))
        · repeat' (first | (with_reducible refine And.intro ?_ ?_) | (with_reducible intro h) | ((fail_if_success (with_reducible refine Leaf.mk ?_)); (fail_if_success (with_reducible refine VC.mk ?_)); (fail_if_success (with_reducible refine Goes.mk ?_)); (fail_if_success (with_reducible refine Again.mk ?_)); (fail_if_success (with_reducible refine Rounds.mk ?_)); (fail_if_success (with_reducible show False)); (fail_if_success (with_reducible show True)); conv => whnf))
          all_goals first | exact trivial | (refine Leaf.mk ?_; first | rfl | exact ⟨rfl, rfl⟩ | (simp; done))
        · intro k hx
          obtain ⟨x1, x2⟩ := hx
          rcases Nat.lt_or_ge k C.D.n with hk | hk
          · have hd : decide ((k : Int) < (C.D.n : Int)) = true := by simp; omega
            repeat' (first | (with_reducible refine And.intro ?_ ?_) | (with_reducible intro h; try with_reducible first | exact (bcS hd h).elim) | ((fail_if_success (with_reducible refine Leaf.mk ?_)); (fail_if_success (with_reducible refine VC.mk ?_)); (fail_if_success (with_reducible refine Goes.mk ?_)); (fail_if_success (with_reducible refine Again.mk ?_)); (fail_if_success (with_reducible refine Rounds.mk ?_)); (fail_if_success (with_reducible show False)); (fail_if_success (with_reducible show True)); conv => whnf))
            all_goals try simp only [Int.toNat_natCast, Nat.zero_add] at *
            all_goals try with_reducible exact trivial
            all_goals try (simp only [decide_eq_true_eq, decide_eq_false_iff_not, Bool.not_eq_true', Bool.not_eq_false'] at *)
            all_goals try (refine VC.mk ?_; (try simp only [InR] at *); first | exact trivial | omega | assumption)
            all_goals first
              | (refine Leaf.mk ?_
                 have hb : (scBad C.D) k = true := by exact scBad_yes ‹_›
                 rw [idxI_hit x2 hb hk]; symm; simp; done)
              | (have hb : (scBad C.D) k = false := by exact scBad_no ‹_›
                 (refine Again.mk ⟨k + 1, [0], ⟨by omega, idxN_next x2 hb⟩, (by show C.D.n - (k + 1) < C.D.n - k; omega), ?_, ?_⟩ <;> (repeat' (first | (with_reducible refine And.intro ?_ ?_) | (with_reducible intro h) | ((fail_if_success (with_reducible refine Leaf.mk ?_)); (fail_if_success (with_reducible refine VC.mk ?_)); (fail_if_success (with_reducible refine Goes.mk ?_)); (fail_if_success (with_reducible refine Again.mk ?_)); (fail_if_success (with_reducible refine Rounds.mk ?_)); (fail_if_success (with_reducible show False)); (fail_if_success (with_reducible show True)); conv => whnf))) <;> first | exact trivial | (refine Leaf.mk ?_; first | rfl | exact ⟨rfl, rfl⟩ | exact ⟨rfl, rfl, rfl⟩ | (simp; done))))
              | skip
          · obtain rfl : k = C.D.n := by omega
            have hd : decide ((C.D.n : Int) < (C.D.n : Int)) = false := by simp
            repeat' (first | (with_reducible refine And.intro ?_ ?_) | (with_reducible intro h; try with_reducible first | exact (bcS h hd).elim) | ((fail_if_success (with_reducible refine Leaf.mk ?_)); (fail_if_success (with_reducible refine VC.mk ?_)); (fail_if_success (with_reducible refine Goes.mk ?_)); (fail_if_success (with_reducible refine Again.mk ?_)); (fail_if_success (with_reducible refine Rounds.mk ?_)); (fail_if_success (with_reducible show False)); (fail_if_success (with_reducible show True)); conv => whnf))
            all_goals try with_reducible exact trivial
            all_goals (refine Leaf.mk ?_; rw [idxI_no x2]; first | rfl | (simp; done))

end Go.Proofs.YtohjifnkajhhnaaGreat
