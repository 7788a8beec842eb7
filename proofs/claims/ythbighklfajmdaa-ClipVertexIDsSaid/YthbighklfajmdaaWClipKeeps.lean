/- The walk of caromlaw15.ClipKeeps. -/
import Derived.Test.YthbighklfajmdaaH2
import Derived.Test.YthbighklfajmdaaFs
namespace Go.Proofs.Ythbighklfajmdaa
open Go.RowKit Fx Vx Bx Ev
set_option linter.unusedVariables false
set_option linter.unusedSimpArgs false

theorem teR_wf (xs : List (List Int)) (i : Int) (ys : List (List Int)) (k : Int) : wf 3 (teR xs i ys k) := by
  unfold teR; split
  · exact hpR_wf _ _ _ _ _
  · exact wf_nil _
theorem teR_len (xs : List (List Int)) (i : Int) (ys : List (List Int)) (k : Int) : (teR xs i ys k).length ≤ 2 := by
  unfold teR; split
  · exact hpR_len _ _ _ _ _
  · simp
theorem hpV_id (xs : List (List Int)) (ox oy nx ny : Int) (k m : Nat) : (hpV xs ox oy nx ny k m).getD 2 0 = at2 xs k 2 := by unfold hpV; split <;> rfl
theorem hpR_ids (xs : List (List Int)) (ox oy nx ny : Int) : hpR xs ox oy nx ny = [] ∨ ((hpR xs ox oy nx ny).length = 2 ∧ at2 (hpR xs ox oy nx ny) 0 2 = at2 xs 0 2 ∧ at2 (hpR xs ox oy nx ny) 1 2 = at2 xs 1 2) := by
  unfold hpR; split
  · exact Or.inl rfl
  · exact Or.inr ⟨rfl, hpV_id _ _ _ _ _ _ _, hpV_id _ _ _ _ _ _ _⟩
theorem hpR_nil (ox oy nx ny : Int) : hpR [] ox oy nx ny = [] := (hpN_len (by simp)).2
theorem teR_ids (xs : List (List Int)) (i : Int) (ys : List (List Int)) (k : Int) : (teR xs i ys k).length = 0 ∨ ((teR xs i ys k).length = 2 ∧ at2 (teR xs i ys k) 0 2 = 0 ∧ at2 (teR xs i ys k) 1 2 = 1) := by
  unfold teR; split
  · rcases hpR_ids (te1 xs i ys k) (at2 xs i.toNat 0) (at2 xs i.toNat 1) (-edX xs i) (-edY xs i) with h | ⟨h1, h2, h3⟩
    · rw [h]; exact Or.inl rfl
    · right
      refine ⟨h1, ?_⟩
      rw [h2, h3]
      rcases hpR_ids (te0 ys k) (at2 xs ((i + 1).tmod xs.length).toNat 0) (at2 xs ((i + 1).tmod xs.length).toNat 1) (edX xs i) (edY xs i) with g | ⟨g1, g2, g3⟩
      · exfalso
        have : te1 xs i ys k = [] := g
        rw [this, hpR_nil] at h1
        cases h1
      · exact ⟨g2, g3⟩
  · exact Or.inl rfl
theorem teN_nil {xs : List (List Int)} {i : Int} {ys : List (List Int)} {k : Int} (h : teN xs i ys k = true) : (teR xs i ys k).length = 0 := by
  unfold teR; split
  · rename_i ho
    simp only [teN, ho, Bool.not_true, Bool.false_or] at h
    simp only [hpR, h, if_true, List.length_nil]
  · rfl

def c_law_ClipKeeps : Con := ⟨12, rowRun [.rows 2, .rows 2, .num 2] (fun l R => match l, R with | [i, k], [xs, ys] => [] | _, _ => [False]) fun l R => match l, R with
  | [i, k], [xs, ys] => .bool true
  | _, _ => .any⟩
set_option maxRecDepth 100000 in
set_option maxHeartbeats 8000000 in
theorem con_law_ClipKeeps : c_law_ClipKeeps.Ok Try.prog := by
  refine con_rows (C := [c_clip_ToEdge, c_ref15_ToEdge, c_law15_equalVertices, c_law15_example]) (pl := [(3, [0, 1, 2, 3, 4, 5, 6, 7, 8, 9, 10, 11, 12, 13, 14, 15, 16, 17, 18], [0, 0, 2, 0, 0, 16, 63, 0, 0, 256, 0, 0, 2048, 8191, 16383, 32767, 65535, 131071, 262143])]) Try.func12 rfl (by kernel_rfl) T_ok (Cons.cons con_clip_ToEdge (Cons.cons con_ref15_ToEdge (Cons.cons con_law15_equalVertices (Cons.cons con_law15_example (Cons.nil _))))) mixed (by kernel_rfl) _ _ _ (fun l R hl hR hn hpre => ?_)
  match l, hl, R, hR with
  | [i, k], zl, [(true, xs), (true, ys)], zr =>
    clear zl zr
    obtain rfl : xs = [] := hn _ (List.Mem.head _) rfl
    obtain rfl : ys = [] := hn _ (List.Mem.tail _ (List.Mem.head _)) rfl
    repeat' (first | (with_reducible refine And.intro ?_ ?_) | (with_reducible intro h) | ((fail_if_success (with_reducible refine Leaf.mk ?_)); (fail_if_success (with_reducible refine VC.mk ?_)); (fail_if_success (with_reducible refine Goes.mk ?_)); (fail_if_success (with_reducible refine Again.mk ?_)); (fail_if_success (with_reducible refine Rounds.mk ?_)); (fail_if_success (with_reducible show False)); (fail_if_success (with_reducible show True)); conv => whnf))
    all_goals try simp only [decide_eq_true_eq, decide_eq_false_iff_not, Bool.not_eq_true', Bool.not_eq_false', Bool.and_eq_true, tkA, Nat.zero_add, Nat.reduceAdd, Int.toNat_natCast, List.take_nil, List.nil_append, List.length_nil] at *
    all_goals try simp only [List.take_length] at *
    all_goals try first | exact trivial | (show False; omega) | exact Leaf.mk trivial | exact Leaf.mk rfl | (refine VC.mk ?_; first | trivial | assumption | ((try simp only [InR, decide_eq_true_eq, decide_eq_false_iff_not] at *); omega) | (simp; done))
    all_goals try (have q := teR_len [] i [] k; refine VC.mk ?_; first | exact teR_wf _ _ _ _ | omega | (refine ⟨?_, by simp⟩; generalize teN _ _ _ _ = bb; cases bb <;> simp) | (simp; done))
    all_goals (refine Leaf.mk ?_; exfalso; first | (simp only [eq_self, not_true_eq_false] at *; done) | omega)
  | [i, k], zl, [(true, xs), (false, ys)], zr =>
    clear zl zr
    obtain rfl : xs = [] := hn _ (List.Mem.head _) rfl
    repeat' (first | (with_reducible refine And.intro ?_ ?_) | (with_reducible intro h) | ((fail_if_success (with_reducible refine Leaf.mk ?_)); (fail_if_success (with_reducible refine VC.mk ?_)); (fail_if_success (with_reducible refine Goes.mk ?_)); (fail_if_success (with_reducible refine Again.mk ?_)); (fail_if_success (with_reducible refine Rounds.mk ?_)); (fail_if_success (with_reducible show False)); (fail_if_success (with_reducible show True)); conv => whnf))
    all_goals try simp only [decide_eq_true_eq, decide_eq_false_iff_not, Bool.not_eq_true', Bool.not_eq_false', Bool.and_eq_true, tkA, Nat.zero_add, Nat.reduceAdd, Int.toNat_natCast, List.take_nil, List.nil_append, List.length_nil] at *
    all_goals try simp only [List.take_length] at *
    all_goals try first | exact trivial | (show False; omega) | exact Leaf.mk trivial | exact Leaf.mk rfl | (refine VC.mk ?_; first | trivial | assumption | ((try simp only [InR, decide_eq_true_eq, decide_eq_false_iff_not] at *); omega) | (simp; done))
    all_goals try (have q := teR_len [] i ys k; refine VC.mk ?_; first | exact teR_wf _ _ _ _ | omega | (refine ⟨?_, by simp⟩; generalize teN _ _ _ _ = bb; cases bb <;> simp) | (simp; done))
    all_goals (refine Leaf.mk ?_; exfalso; first | (simp only [eq_self, not_true_eq_false] at *; done) | omega)
  | [i, k], zl, [(false, xs), (true, ys)], zr =>
    clear zl zr
    obtain rfl : ys = [] := hn _ (List.Mem.tail _ (List.Mem.head _)) rfl
    repeat' (first | (with_reducible refine And.intro ?_ ?_) | (with_reducible intro h) | ((fail_if_success (with_reducible refine Leaf.mk ?_)); (fail_if_success (with_reducible refine VC.mk ?_)); (fail_if_success (with_reducible refine Goes.mk ?_)); (fail_if_success (with_reducible refine Again.mk ?_)); (fail_if_success (with_reducible refine Rounds.mk ?_)); (fail_if_success (with_reducible show False)); (fail_if_success (with_reducible show True)); conv => whnf))
    all_goals try simp only [decide_eq_true_eq, decide_eq_false_iff_not, Bool.not_eq_true', Bool.not_eq_false', Bool.and_eq_true, tkA, Nat.zero_add, Nat.reduceAdd, Int.toNat_natCast, List.take_nil, List.nil_append, List.length_nil] at *
    all_goals try simp only [List.take_length] at *
    all_goals try first | exact trivial | (show False; omega) | exact Leaf.mk trivial | exact Leaf.mk rfl | (refine VC.mk ?_; first | trivial | assumption | ((try simp only [InR, decide_eq_true_eq, decide_eq_false_iff_not] at *); omega) | (simp; done))
    all_goals try (have q := teR_len xs i [] k; refine VC.mk ?_; first | exact teR_wf _ _ _ _ | omega | (refine ⟨?_, by simp⟩; generalize teN _ _ _ _ = bb; cases bb <;> simp) | (simp; done))
    all_goals (refine Leaf.mk ?_; exfalso; first | (simp only [eq_self, not_true_eq_false] at *; done) | omega)
  | [i, k], zl, [(false, xs), (false, ys)], zr =>
    clear zl zr
    repeat' (first | (with_reducible refine And.intro ?_ ?_) | (with_reducible intro h) | ((fail_if_success (with_reducible refine Leaf.mk ?_)); (fail_if_success (with_reducible refine VC.mk ?_)); (fail_if_success (with_reducible refine Goes.mk ?_)); (fail_if_success (with_reducible refine Again.mk ?_)); (fail_if_success (with_reducible refine Rounds.mk ?_)); (fail_if_success (with_reducible show False)); (fail_if_success (with_reducible show True)); conv => whnf))
    all_goals try simp only [decide_eq_true_eq, decide_eq_false_iff_not, Bool.not_eq_true', Bool.not_eq_false', Bool.and_eq_true, tkA, Nat.zero_add, Nat.reduceAdd, Int.toNat_natCast, List.take_nil, List.nil_append, List.length_nil] at *
    all_goals try simp only [List.take_length] at *
    all_goals try first | exact trivial | (show False; omega) | exact Leaf.mk trivial | exact Leaf.mk rfl | (refine VC.mk ?_; first | trivial | assumption | ((try simp only [InR, decide_eq_true_eq, decide_eq_false_iff_not] at *); omega) | (simp; done))
    all_goals try (have q := teR_len xs i ys k; refine VC.mk ?_; first | exact teR_wf _ _ _ _ | omega | (refine ⟨?_, by simp⟩; generalize teN _ _ _ _ = bb; cases bb <;> simp) | (simp; done))
    all_goals (refine Leaf.mk ?_; exfalso; first | (simp only [eq_self, not_true_eq_false] at *; done) | omega)

theorem walk_ClipKeeps (i k : Int) (bxs : Bool) (xs : List (List Int)) (bys : Bool) (ys : List (List Int)) (w : World) (m : Ev.Map) (vxs vys : Value) (nxs : bxs = true → xs = []) (nys : bys = true → ys = []) (fxs : ∀ x ∈ xs, x.length = 2 ∧ ∀ y ∈ x, -9223372036854775808 ≤ y ∧ y ≤ 9223372036854775807) (fys : ∀ x ∈ ys, x.length = 2 ∧ ∀ y ∈ x, -9223372036854775808 ≤ y ∧ y ≤ 9223372036854775807) (dxs : Den m (rowArg bxs 0 2 xs) vxs ∧ BlkH m 0 w (.arr false (!bxs) 2 xs)) (dys : Den m (rowArg bys 1 2 ys) vys ∧ BlkH m 1 w (.arr false (!bys) 2 ys)) :
    Calls Try.prog 12 #[vxs, vys, .agg #[.int .i64 i, .int .i64 k]] w fun e w' => e = .returned (.bool true) ∧ Below w.heap.size w w' := by
  cases bxs with
  | false =>
    cases bys with
    | false =>
      exact Frame.calls_rows con_law_ClipKeeps [rowArg false 0 2 xs, rowArg false 1 2 ys, .agg [.int .i64 i, .int .i64 k]] (fun id => match id with | 0 => .arr false true 2 xs | 1 => .arr false true 2 ys | _ => .dead) [i, k] _ _ [vxs, vys, .agg #[.int .i64 i, .int .i64 k]] rfl (by simp [appP]) (fun p hp => (by cases hp)) m w ⟨dxs.1, dys.1, ⟨_, rfl, rfl, rfl, trivial⟩, trivial⟩ (fun id => by match id with | 0 => exact dxs.2 | 1 => exact dys.2 | _ + 2 => trivial) (fun id => by match id with | 0 => rfl | 1 => rfl | _ + 2 => rfl) rfl
    | true =>
      obtain rfl := nys rfl
      exact Frame.calls_rows con_law_ClipKeeps [rowArg false 0 2 xs, rowArg true 1 2 [], .agg [.int .i64 i, .int .i64 k]] (fun id => match id with | 0 => .arr false true 2 xs | 1 => .arr false false 2 [] | _ => .dead) [i, k] _ _ [vxs, vys, .agg #[.int .i64 i, .int .i64 k]] rfl (by simp [appP]) (fun p hp => (by cases hp)) m w ⟨dxs.1, dys.1, ⟨_, rfl, rfl, rfl, trivial⟩, trivial⟩ (fun id => by match id with | 0 => exact dxs.2 | 1 => exact dys.2 | _ + 2 => trivial) (fun id => by match id with | 0 => rfl | 1 => rfl | _ + 2 => rfl) rfl
  | true =>
    obtain rfl := nxs rfl
    cases bys with
    | false =>
      exact Frame.calls_rows con_law_ClipKeeps [rowArg true 0 2 [], rowArg false 1 2 ys, .agg [.int .i64 i, .int .i64 k]] (fun id => match id with | 0 => .arr false false 2 [] | 1 => .arr false true 2 ys | _ => .dead) [i, k] _ _ [vxs, vys, .agg #[.int .i64 i, .int .i64 k]] rfl (by simp [appP]) (fun p hp => (by cases hp)) m w ⟨dxs.1, dys.1, ⟨_, rfl, rfl, rfl, trivial⟩, trivial⟩ (fun id => by match id with | 0 => exact dxs.2 | 1 => exact dys.2 | _ + 2 => trivial) (fun id => by match id with | 0 => rfl | 1 => rfl | _ + 2 => rfl) rfl
    | true =>
      obtain rfl := nys rfl
      exact Frame.calls_rows con_law_ClipKeeps [rowArg true 0 2 [], rowArg true 1 2 [], .agg [.int .i64 i, .int .i64 k]] (fun id => match id with | 0 => .arr false false 2 [] | 1 => .arr false false 2 [] | _ => .dead) [i, k] _ _ [vxs, vys, .agg #[.int .i64 i, .int .i64 k]] rfl (by simp [appP]) (fun p hp => (by cases hp)) m w ⟨dxs.1, dys.1, ⟨_, rfl, rfl, rfl, trivial⟩, trivial⟩ (fun id => by match id with | 0 => exact dxs.2 | 1 => exact dys.2 | _ + 2 => trivial) (fun id => by match id with | 0 => rfl | 1 => rfl | _ + 2 => rfl) rfl
end Go.Proofs.Ythbighklfajmdaa
