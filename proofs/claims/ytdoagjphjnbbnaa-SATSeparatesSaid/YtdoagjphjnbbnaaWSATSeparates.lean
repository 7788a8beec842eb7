/- The walk of caromlaw14.SATSeparates. -/
import Derived.Test.YtdoagjphjnbbnaaSp
import Derived.Test.YtdoagjphjnbbnaaFs
namespace Go.Proofs.Ytdoagjphjnbbnaa
open Go.RowKit Fx Vx Bx Ev
set_option linter.unusedVariables false
set_option linter.unusedSimpArgs false
theorem sep_any {xs ys : List (List Int)} (hx : convB xs = true) (hy : convB ys = true) (h : 128 < (msP xs ys).2 ∨ 128 < (msP ys xs).2) : (∀ x y, hasX xs x y = true → hasX ys x y = true → False) ∧ (∀ k, k < xs.length → hasX ys (at2 xs k 0) (at2 xs k 1) = false) ∧ (∀ k, k < ys.length → hasX xs (at2 ys k 0) (at2 ys k 1) = false) := by
  rcases h with h | h
  · exact sep_none hx hy h
  · obtain ⟨a, b, c⟩ := sep_none hy hx h
    exact ⟨fun x y h1 h2 => a x y h2 h1, c, b⟩

def c_law_SATSeparates : Con := ⟨14, rowRun [.rows 2, .rows 2, .num 2] (fun l R => match l, R with | [x, y], [xs, ys] => [] | _, _ => [False]) fun l R => match l, R with
  | [x, y], [xs, ys] => .bool true
  | _, _ => .any⟩
set_option maxRecDepth 100000 in
set_option maxHeartbeats 8000000 in
theorem con_law_SATSeparates : c_law_SATSeparates.Ok Try.prog := by
  refine con_rows (C := [c_polygon_IsConvex, c_sat_MaxSeparation, c_polygon_Contains, c_law14_example]) (pl := []) Try.func14 rfl (by kernel_rfl) T_ok (Cons.cons con_polygon_IsConvex (Cons.cons con_sat_MaxSeparation (Cons.cons con_polygon_Contains (Cons.cons con_law14_example (Cons.nil _))))) mixed (by kernel_rfl) _ _ _ (fun l R hl hR hn hpre => ?_)
  match l, hl, R, hR with
  | [x, y], zl, [(true, xs), (true, ys)], zr =>
    clear zl zr
    obtain rfl : xs = [] := hn _ (List.Mem.head _) rfl
    obtain rfl : ys = [] := hn _ (List.Mem.tail _ (List.Mem.head _)) rfl
    have c0 : convB [] = false := rfl
    repeat' (first | (with_reducible refine And.intro ?_ ?_) | (with_reducible intro h) | ((fail_if_success (with_reducible refine Leaf.mk ?_)); (fail_if_success (with_reducible refine VC.mk ?_)); (fail_if_success (with_reducible refine Goes.mk ?_)); (fail_if_success (with_reducible refine Again.mk ?_)); (fail_if_success (with_reducible refine Rounds.mk ?_)); (fail_if_success (with_reducible show False)); (fail_if_success (with_reducible show True)); conv => whnf))
    all_goals try simp only [Bool.not_eq_true', Bool.not_eq_false', Bool.and_eq_true, decide_eq_true_eq, decide_eq_false_iff_not, tkA, Nat.zero_add, Nat.reduceAdd, Int.toNat_natCast, tmN] at *
    all_goals try (have hx8 := (convB_iff.1 (show convB xs = true by assumption)).2.1)
    all_goals try (have hy8 := (convB_iff.1 (show convB ys = true by assumption)).2.1)
    all_goals try first | exact trivial | (show False; omega) | exact Leaf.mk trivial | exact Leaf.mk rfl | (refine VC.mk ?_; first | trivial | assumption | ((try simp only [InR] at *); omega) | (simp; done) | (simp; omega))
    all_goals try (refine VC.mk ?_; omega)
    all_goals try (exfalso; simp [c0] at *; done)
    all_goals try (exfalso; simp_all; done)
  | [x, y], zl, [(true, xs), (false, ys)], zr =>
    clear zl zr
    obtain rfl : xs = [] := hn _ (List.Mem.head _) rfl
    have c0 : convB [] = false := rfl
    repeat' (first | (with_reducible refine And.intro ?_ ?_) | (with_reducible intro h) | ((fail_if_success (with_reducible refine Leaf.mk ?_)); (fail_if_success (with_reducible refine VC.mk ?_)); (fail_if_success (with_reducible refine Goes.mk ?_)); (fail_if_success (with_reducible refine Again.mk ?_)); (fail_if_success (with_reducible refine Rounds.mk ?_)); (fail_if_success (with_reducible show False)); (fail_if_success (with_reducible show True)); conv => whnf))
    all_goals try simp only [Bool.not_eq_true', Bool.not_eq_false', Bool.and_eq_true, decide_eq_true_eq, decide_eq_false_iff_not, tkA, Nat.zero_add, Nat.reduceAdd, Int.toNat_natCast, tmN] at *
    all_goals try (have hx8 := (convB_iff.1 (show convB xs = true by assumption)).2.1)
    all_goals try (have hy8 := (convB_iff.1 (show convB ys = true by assumption)).2.1)
    all_goals try first | exact trivial | (show False; omega) | exact Leaf.mk trivial | exact Leaf.mk rfl | (refine VC.mk ?_; first | trivial | assumption | ((try simp only [InR] at *); omega) | (simp; done) | (simp; omega))
    all_goals try (refine VC.mk ?_; omega)
    all_goals try (exfalso; simp [c0] at *; done)
    all_goals try (exfalso; simp_all; done)
  | [x, y], zl, [(false, xs), (true, ys)], zr =>
    clear zl zr
    obtain rfl : ys = [] := hn _ (List.Mem.tail _ (List.Mem.head _)) rfl
    have c0 : convB [] = false := rfl
    repeat' (first | (with_reducible refine And.intro ?_ ?_) | (with_reducible intro h) | ((fail_if_success (with_reducible refine Leaf.mk ?_)); (fail_if_success (with_reducible refine VC.mk ?_)); (fail_if_success (with_reducible refine Goes.mk ?_)); (fail_if_success (with_reducible refine Again.mk ?_)); (fail_if_success (with_reducible refine Rounds.mk ?_)); (fail_if_success (with_reducible show False)); (fail_if_success (with_reducible show True)); conv => whnf))
    all_goals try simp only [Bool.not_eq_true', Bool.not_eq_false', Bool.and_eq_true, decide_eq_true_eq, decide_eq_false_iff_not, tkA, Nat.zero_add, Nat.reduceAdd, Int.toNat_natCast, tmN] at *
    all_goals try (have hx8 := (convB_iff.1 (show convB xs = true by assumption)).2.1)
    all_goals try (have hy8 := (convB_iff.1 (show convB ys = true by assumption)).2.1)
    all_goals try first | exact trivial | (show False; omega) | exact Leaf.mk trivial | exact Leaf.mk rfl | (refine VC.mk ?_; first | trivial | assumption | ((try simp only [InR] at *); omega) | (simp; done) | (simp; omega))
    all_goals try (refine VC.mk ?_; omega)
    all_goals try (exfalso; simp [c0] at *; done)
    all_goals try (exfalso; simp_all; done)
  | [x, y], zl, [(false, xs), (false, ys)], zr =>
    clear zl zr
    repeat' (first | (with_reducible refine And.intro ?_ ?_) | (with_reducible intro h) | ((fail_if_success (with_reducible refine Leaf.mk ?_)); (fail_if_success (with_reducible refine VC.mk ?_)); (fail_if_success (with_reducible refine Goes.mk ?_)); (fail_if_success (with_reducible refine Again.mk ?_)); (fail_if_success (with_reducible refine Rounds.mk ?_)); (fail_if_success (with_reducible show False)); (fail_if_success (with_reducible show True)); conv => whnf))
    all_goals try simp only [Bool.not_eq_true', Bool.not_eq_false', Bool.and_eq_true, decide_eq_true_eq, decide_eq_false_iff_not, tkA, Nat.zero_add, Nat.reduceAdd, Int.toNat_natCast, tmN] at *
    all_goals try (have hx8 := (convB_iff.1 (show convB xs = true by assumption)).2.1)
    all_goals try (have hy8 := (convB_iff.1 (show convB ys = true by assumption)).2.1)
    all_goals try first | exact trivial | (show False; omega) | exact Leaf.mk trivial | exact Leaf.mk rfl | (refine VC.mk ?_; first | trivial | assumption | ((try simp only [InR] at *); omega) | (simp; done) | (simp; omega))
    all_goals try (refine VC.mk ?_; omega)
    all_goals try (refine Leaf.mk ?_; exfalso; simp_all; done)
    all_goals (
      have hc1 : convB xs = true := (by assumption)
      have hc2 : convB ys = true := (by assumption)
      obtain ⟨n3, n1, n2⟩ := sep_any hc1 hc2 (by omega)
      refine goes_inv (X := Nat) (pl := []) T_ok (Cons.cons con_polygon_IsConvex (Cons.cons con_sat_MaxSeparation (Cons.cons con_polygon_Contains (Cons.cons con_law14_example (Cons.nil _))))) mixed (by kernel_rfl)
        (fun k => (.sl 0 2 0 xs.length :: .sl 1 2 0 ys.length :: .any :: .any :: .any :: .ptr 2 0 :: .any :: .any :: .any :: .any :: .any :: .int .i64 (k : Int) :: .any :: .any :: .any :: .any :: .any :: .any :: .any :: .any :: .any :: .any :: .any :: .any :: .any :: .any :: .any :: .any :: .any :: .any :: .any :: .any :: .any :: .any :: .any :: .any :: .any :: .any :: .any :: .any :: .any :: .any :: .any :: .any :: .any :: .any :: .any :: .any :: .any :: .any :: .any :: .any :: .any :: .any :: .any :: .any :: .any :: .any :: .any :: .any :: .any :: .any :: .any :: .any :: .any :: .any :: .any :: .any :: .any :: .any :: .any :: .any :: .any :: .any :: .any :: .any :: .any :: .any :: [], [.arr false true 2 xs, .arr false true 2 ys, .cells [.int .i64 x, .int .i64 y]]))
        (fun k => k ≤ xs.length) (fun k => xs.length - k) 0 [0, 1, 2] (Nat.zero_le _) ?_ ?_ ?_
      · repeat' (first | (with_reducible refine And.intro ?_ ?_) | (with_reducible intro h) | ((fail_if_success (with_reducible refine Leaf.mk ?_)); (fail_if_success (with_reducible refine VC.mk ?_)); (fail_if_success (with_reducible refine Goes.mk ?_)); (fail_if_success (with_reducible refine Again.mk ?_)); (fail_if_success (with_reducible refine Rounds.mk ?_)); (fail_if_success (with_reducible show False)); (fail_if_success (with_reducible show True)); conv => whnf))
        all_goals first | exact trivial | (refine Leaf.mk ?_; first | rfl | exact ⟨rfl, rfl⟩ | (simp; done))
      · repeat' (first | (with_reducible refine And.intro ?_ ?_) | (with_reducible intro h) | ((fail_if_success (with_reducible refine Leaf.mk ?_)); (fail_if_success (with_reducible refine VC.mk ?_)); (fail_if_success (with_reducible refine Goes.mk ?_)); (fail_if_success (with_reducible refine Again.mk ?_)); (fail_if_success (with_reducible refine Rounds.mk ?_)); (fail_if_success (with_reducible show False)); (fail_if_success (with_reducible show True)); conv => whnf))
        all_goals first | exact trivial | (refine Leaf.mk ?_; first | rfl | exact ⟨rfl, rfl⟩ | (simp; done))
      · intro k hx
        repeat' (first | (with_reducible refine And.intro ?_ ?_) | (with_reducible intro h) | ((fail_if_success (with_reducible refine Leaf.mk ?_)); (fail_if_success (with_reducible refine VC.mk ?_)); (fail_if_success (with_reducible refine Goes.mk ?_)); (fail_if_success (with_reducible refine Again.mk ?_)); (fail_if_success (with_reducible refine Rounds.mk ?_)); (fail_if_success (with_reducible show False)); (fail_if_success (with_reducible show True)); conv => whnf))
        all_goals try simp only [Bool.not_eq_true', Bool.not_eq_false', Bool.and_eq_true, decide_eq_true_eq, decide_eq_false_iff_not, tkA, Nat.zero_add, Nat.reduceAdd, Int.toNat_natCast, tmN] at *
        all_goals try first | exact trivial | (show False; omega) | exact Leaf.mk trivial | exact Leaf.mk rfl | (refine VC.mk ?_; first | trivial | assumption | ((try simp only [InR] at *); omega) | (simp; done) | (simp; omega))
        all_goals try (refine Again.mk ⟨k + 1, [0, 1, 2], (by show k + 1 ≤ xs.length; omega), (by show xs.length - (k + 1) < xs.length - k; omega), ?_, ?_⟩ <;> (repeat' (first | (with_reducible refine And.intro ?_ ?_) | (with_reducible intro h) | ((fail_if_success (with_reducible refine Leaf.mk ?_)); (fail_if_success (with_reducible refine VC.mk ?_)); (fail_if_success (with_reducible refine Goes.mk ?_)); (fail_if_success (with_reducible refine Again.mk ?_)); (fail_if_success (with_reducible refine Rounds.mk ?_)); (fail_if_success (with_reducible show False)); (fail_if_success (with_reducible show True)); conv => whnf))) <;> first | exact trivial | (refine Leaf.mk ?_; first | rfl | exact ⟨rfl, rfl⟩ | (simp; done)))
        all_goals try (have g1 := n1 k (by omega); refine Leaf.mk ?_; exfalso; simp_all; done)
        refine goes_inv (X := Nat) (pl := []) T_ok (Cons.cons con_polygon_IsConvex (Cons.cons con_sat_MaxSeparation (Cons.cons con_polygon_Contains (Cons.cons con_law14_example (Cons.nil _))))) mixed (by kernel_rfl)
          (fun k => (.sl 0 2 0 xs.length :: .sl 1 2 0 ys.length :: .any :: .any :: .any :: .ptr 2 0 :: .any :: .any :: .any :: .any :: .any :: .any :: .int .i64 (k : Int) :: .any :: .any :: .any :: .any :: .any :: .any :: .any :: .any :: .any :: .any :: .any :: .any :: .any :: .any :: .any :: .any :: .any :: .any :: .any :: .any :: .any :: .any :: .any :: .any :: .any :: .any :: .any :: .any :: .any :: .any :: .any :: .any :: .any :: .any :: .any :: .any :: .any :: .any :: .any :: .any :: .any :: .any :: .any :: .any :: .any :: .any :: .any :: .any :: .any :: .any :: .any :: .any :: .any :: .any :: .any :: .any :: .any :: .any :: .any :: .any :: .any :: .any :: .any :: .any :: .any :: [], [.arr false true 2 xs, .arr false true 2 ys, .cells [.int .i64 x, .int .i64 y]]))
          (fun k => k ≤ ys.length) (fun k => ys.length - k) 0 [0, 1, 2] (Nat.zero_le _) ?_ ?_ ?_
        · repeat' (first | (with_reducible refine And.intro ?_ ?_) | (with_reducible intro h) | ((fail_if_success (with_reducible refine Leaf.mk ?_)); (fail_if_success (with_reducible refine VC.mk ?_)); (fail_if_success (with_reducible refine Goes.mk ?_)); (fail_if_success (with_reducible refine Again.mk ?_)); (fail_if_success (with_reducible refine Rounds.mk ?_)); (fail_if_success (with_reducible show False)); (fail_if_success (with_reducible show True)); conv => whnf))
          all_goals first | exact trivial | (refine Leaf.mk ?_; first | rfl | exact ⟨rfl, rfl⟩ | (simp; done))
        · repeat' (first | (with_reducible refine And.intro ?_ ?_) | (with_reducible intro h) | ((fail_if_success (with_reducible refine Leaf.mk ?_)); (fail_if_success (with_reducible refine VC.mk ?_)); (fail_if_success (with_reducible refine Goes.mk ?_)); (fail_if_success (with_reducible refine Again.mk ?_)); (fail_if_success (with_reducible refine Rounds.mk ?_)); (fail_if_success (with_reducible show False)); (fail_if_success (with_reducible show True)); conv => whnf))
          all_goals first | exact trivial | (refine Leaf.mk ?_; first | rfl | exact ⟨rfl, rfl⟩ | (simp; done))
        · intro k hx
          repeat' (first | (with_reducible refine And.intro ?_ ?_) | (with_reducible intro h) | ((fail_if_success (with_reducible refine Leaf.mk ?_)); (fail_if_success (with_reducible refine VC.mk ?_)); (fail_if_success (with_reducible refine Goes.mk ?_)); (fail_if_success (with_reducible refine Again.mk ?_)); (fail_if_success (with_reducible refine Rounds.mk ?_)); (fail_if_success (with_reducible show False)); (fail_if_success (with_reducible show True)); conv => whnf))
          all_goals try simp only [Bool.not_eq_true', Bool.not_eq_false', Bool.and_eq_true, decide_eq_true_eq, decide_eq_false_iff_not, tkA, Nat.zero_add, Nat.reduceAdd, Int.toNat_natCast, tmN] at *
          all_goals try first | exact trivial | (show False; omega) | exact Leaf.mk trivial | exact Leaf.mk rfl | (refine VC.mk ?_; first | trivial | assumption | ((try simp only [InR] at *); omega) | (simp; done) | (simp; omega))
          all_goals try (refine Again.mk ⟨k + 1, [0, 1, 2], (by show k + 1 ≤ ys.length; omega), (by show ys.length - (k + 1) < ys.length - k; omega), ?_, ?_⟩ <;> (repeat' (first | (with_reducible refine And.intro ?_ ?_) | (with_reducible intro h) | ((fail_if_success (with_reducible refine Leaf.mk ?_)); (fail_if_success (with_reducible refine VC.mk ?_)); (fail_if_success (with_reducible refine Goes.mk ?_)); (fail_if_success (with_reducible refine Again.mk ?_)); (fail_if_success (with_reducible refine Rounds.mk ?_)); (fail_if_success (with_reducible show False)); (fail_if_success (with_reducible show True)); conv => whnf))) <;> first | exact trivial | (refine Leaf.mk ?_; first | rfl | exact ⟨rfl, rfl⟩ | (simp; done)))
          all_goals try (have g2 := n2 k (by omega); refine Leaf.mk ?_; exfalso; simp_all; done)
          all_goals try (refine Leaf.mk ?_; exfalso; first | exact n3 x y (by assumption) (by assumption) | (simp_all; done)))

theorem walk_SATSeparates (x y : Int) (bxs : Bool) (xs : List (List Int)) (bys : Bool) (ys : List (List Int)) (w : World) (m : Ev.Map) (vxs vys : Value) (nxs : bxs = true → xs = []) (nys : bys = true → ys = []) (fxs : ∀ x ∈ xs, x.length = 2 ∧ ∀ y ∈ x, -9223372036854775808 ≤ y ∧ y ≤ 9223372036854775807) (fys : ∀ x ∈ ys, x.length = 2 ∧ ∀ y ∈ x, -9223372036854775808 ≤ y ∧ y ≤ 9223372036854775807) (dxs : Den m (rowArg bxs 0 2 xs) vxs ∧ BlkH m 0 w (.arr false (!bxs) 2 xs)) (dys : Den m (rowArg bys 1 2 ys) vys ∧ BlkH m 1 w (.arr false (!bys) 2 ys)) :
    Calls Try.prog 14 #[vxs, vys, .agg #[.int .i64 x, .int .i64 y]] w fun e w' => e = .returned (.bool true) ∧ Below w.heap.size w w' := by
  cases bxs with
  | false =>
    cases bys with
    | false =>
      exact Frame.calls_rows con_law_SATSeparates [rowArg false 0 2 xs, rowArg false 1 2 ys, .agg [.int .i64 x, .int .i64 y]] (fun id => match id with | 0 => .arr false true 2 xs | 1 => .arr false true 2 ys | _ => .dead) [x, y] _ _ [vxs, vys, .agg #[.int .i64 x, .int .i64 y]] rfl (by simp [appP]) (fun p hp => (by cases hp)) m w ⟨dxs.1, dys.1, ⟨_, rfl, rfl, rfl, trivial⟩, trivial⟩ (fun id => by match id with | 0 => exact dxs.2 | 1 => exact dys.2 | _ + 2 => trivial) (fun id => by match id with | 0 => rfl | 1 => rfl | _ + 2 => rfl) rfl
    | true =>
      obtain rfl := nys rfl
      exact Frame.calls_rows con_law_SATSeparates [rowArg false 0 2 xs, rowArg true 1 2 [], .agg [.int .i64 x, .int .i64 y]] (fun id => match id with | 0 => .arr false true 2 xs | 1 => .arr false false 2 [] | _ => .dead) [x, y] _ _ [vxs, vys, .agg #[.int .i64 x, .int .i64 y]] rfl (by simp [appP]) (fun p hp => (by cases hp)) m w ⟨dxs.1, dys.1, ⟨_, rfl, rfl, rfl, trivial⟩, trivial⟩ (fun id => by match id with | 0 => exact dxs.2 | 1 => exact dys.2 | _ + 2 => trivial) (fun id => by match id with | 0 => rfl | 1 => rfl | _ + 2 => rfl) rfl
  | true =>
    obtain rfl := nxs rfl
    cases bys with
    | false =>
      exact Frame.calls_rows con_law_SATSeparates [rowArg true 0 2 [], rowArg false 1 2 ys, .agg [.int .i64 x, .int .i64 y]] (fun id => match id with | 0 => .arr false false 2 [] | 1 => .arr false true 2 ys | _ => .dead) [x, y] _ _ [vxs, vys, .agg #[.int .i64 x, .int .i64 y]] rfl (by simp [appP]) (fun p hp => (by cases hp)) m w ⟨dxs.1, dys.1, ⟨_, rfl, rfl, rfl, trivial⟩, trivial⟩ (fun id => by match id with | 0 => exact dxs.2 | 1 => exact dys.2 | _ + 2 => trivial) (fun id => by match id with | 0 => rfl | 1 => rfl | _ + 2 => rfl) rfl
    | true =>
      obtain rfl := nys rfl
      exact Frame.calls_rows con_law_SATSeparates [rowArg true 0 2 [], rowArg true 1 2 [], .agg [.int .i64 x, .int .i64 y]] (fun id => match id with | 0 => .arr false false 2 [] | 1 => .arr false false 2 [] | _ => .dead) [x, y] _ _ [vxs, vys, .agg #[.int .i64 x, .int .i64 y]] rfl (by simp [appP]) (fun p hp => (by cases hp)) m w ⟨dxs.1, dys.1, ⟨_, rfl, rfl, rfl, trivial⟩, trivial⟩ (fun id => by match id with | 0 => exact dxs.2 | 1 => exact dys.2 | _ + 2 => trivial) (fun id => by match id with | 0 => rfl | 1 => rfl | _ + 2 => rfl) rfl
end Go.Proofs.Ytdoagjphjnbbnaa
