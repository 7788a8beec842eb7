/- The walk of caromlaw11.PolygonHullOrder. -/
import Derived.Test.YtbichdbapkpjpaaHp
import Derived.Test.YtbichdbapkpjpaaFs
namespace Go.Proofs.Ytbichdbapkpjpaa
open Go.RowKit Fx Vx Bx Ev
set_option linter.unusedVariables false
set_option linter.unusedSimpArgs false
theorem in_rot {xs : List (List Int)} {n : Nat} (h : n < xs.length) : List.take (xs.length - n) (List.take (xs.length - n) (List.drop n xs)) ++ List.take n (List.drop 0 xs) = rot xs n := by
  have e1 : List.take (xs.length - n) (List.drop n xs) = List.drop n xs := List.take_of_length_le (by simp)
  rw [e1, e1]
  rfl
theorem big_rot {xs : List (List Int)} {n : Nat} (h : n < xs.length) : List.take (xs.length - n + n) (List.take (xs.length - n) (List.take (xs.length - n) (List.drop n xs)) ++ List.take n (List.drop 0 xs)) = rot xs n := by
  rw [in_rot h]
  exact List.take_of_length_le (by rw [rot_len]; omega)
theorem big_two {xs : List (List Int)} {n : Nat} (h : n < xs.length) : List.take (xs.length - n + n + n) (List.take (xs.length - n + n) (List.take (xs.length - n) (List.take (xs.length - n) (List.drop n xs)) ++ List.take n (List.drop 0 xs)) ++ List.take n (List.drop 0 xs)) = rot xs n ++ xs.take n := by
  rw [big_rot h]
  exact List.take_of_length_le (by rw [List.length_append, rot_len, List.length_take, List.drop_zero]; omega)
theorem rot_two {xs : List (List Int)} {n : Nat} (h : n < xs.length) (h32 : xs.length ≤ 32) : hullR (rot xs n ++ xs.take n) = hullR xs := by
  refine hull_same (fun p => ?_) (by rw [List.length_append, rot_len, List.length_take]; omega) (by omega)
  unfold pts
  rw [List.map_append, List.mem_append]
  constructor
  · intro hh
    rcases hh with hh | hh
    · exact (rot_mem p).1 hh
    · obtain ⟨r, hr, e⟩ := List.mem_map.1 hh
      exact List.mem_map.2 ⟨r, List.mem_of_mem_take hr, e⟩
  · exact fun hh => Or.inl ((rot_mem p).2 hh)
theorem rot_wf {xs : List (List Int)} (hw : wf 2 xs) (n : Nat) : wf 2 (rot xs n) := wf_app (fun x hx => hw x (List.mem_of_mem_drop hx)) (wf_take hw n)
theorem mod_nat {k : Int} {n : Nat} (h0 : 0 ≤ k) (h : 0 < n) : ∃ m : Nat, k.tmod (n : Int) = (m : Int) ∧ m < n := by
  obtain ⟨j, rfl⟩ : ∃ j : Nat, k = (j : Int) := ⟨k.toNat, by omega⟩
  exact ⟨j % n, (Int.ofNat_tmod j n).symm, Nat.mod_lt _ h⟩

def c_law_PolygonHullOrder : Con := ⟨6, rowRun [.rows 2, .u8] (fun l R => match l, R with | [k], [xs] => [∀ x ∈ xs, x.length = 2, 0 ≤ k ∧ k ≤ 255] | _, _ => [False]) fun l R => match l, R with
  | [k], [xs] => .bool true
  | _, _ => .any⟩
set_option maxRecDepth 100000 in
set_option maxHeartbeats 8000000 in
theorem con_law_PolygonHullOrder : c_law_PolygonHullOrder.Ok Try.prog := by
  refine con_rows (C := [c_polygon_ConvexHull, c_ref11_EqualPoints, c_law11_example]) (pl := []) Try.func6 rfl (by kernel_rfl) T_ok (Cons.cons con_polygon_ConvexHull (Cons.cons con_ref11_EqualPoints (Cons.cons con_law11_example (Cons.nil _)))) mixed (by kernel_rfl) _ _ _ (fun l R hl hR hn hpre => ?_)
  match l, hl, R, hR with
  | [k], zl, [(true, xs)], zr =>
    clear zl zr
    obtain rfl : xs = [] := hn _ (List.Mem.head _) rfl
    have hp0 := hpre _ (List.Mem.head _); try dsimp only at hp0
    have hp1 := hpre _ (List.Mem.tail _ (List.Mem.head _)); try dsimp only at hp1
    have h00 : hullR [] = [] := rfl
    have h01 : hullOk [] = false := rfl
    repeat' (first | (with_reducible refine And.intro ?_ ?_) | (with_reducible intro h) | ((fail_if_success (with_reducible refine Leaf.mk ?_)); (fail_if_success (with_reducible refine VC.mk ?_)); (fail_if_success (with_reducible refine Goes.mk ?_)); (fail_if_success (with_reducible refine Again.mk ?_)); (fail_if_success (with_reducible refine Rounds.mk ?_)); (fail_if_success (with_reducible show False)); (fail_if_success (with_reducible show True)); conv => whnf))
    all_goals try simp only [Bool.not_eq_true', Bool.not_eq_false', Bool.and_eq_true, decide_eq_true_eq, decide_eq_false_iff_not, tkA, Nat.zero_add, Nat.reduceAdd, Int.toNat_natCast, tmN] at *
    all_goals try first | exact trivial | (show False; omega) | exact Leaf.mk trivial | exact Leaf.mk rfl | (refine VC.mk ?_; first | trivial | assumption | ((try simp only [InR] at *); omega) | (simp; done) | (simp; omega))
    all_goals try (refine VC.mk ?_; first | assumption | exact wf_nil _ | exact hullR_wf _ | exact wf_take (hullR_wf _) _ | exact wf_take (by assumption) _ | omega | (simp; done) | (simp; omega))
    all_goals try simp only [h00, h01, Bool.not_false, Bool.not_true, List.length_nil, List.take_nil] at *
    all_goals try first | exact trivial | (show False; omega) | exact Leaf.mk trivial | exact Leaf.mk rfl | (refine VC.mk ?_; first | trivial | assumption | ((try simp only [InR] at *); omega) | (simp; done) | (simp; omega))
    all_goals try (exfalso; first | omega | (simp [h00] at *; done) | (simp_all; done))
    all_goals (refine Leaf.mk ?_; exfalso; first | omega | exact absurd (show hullR [] = [] from rfl) (by assumption) | (simp at *; done))
  | [k], zl, [(false, xs)], zr =>
    clear zl zr
    have hp0 := hpre _ (List.Mem.head _); try dsimp only at hp0
    have hp1 := hpre _ (List.Mem.tail _ (List.Mem.head _)); try dsimp only at hp1
    rcases Nat.eq_zero_or_pos xs.length with hz | hz
    · obtain rfl : xs = [] := List.length_eq_zero_iff.1 hz
      have h00 : hullR [] = [] := rfl
      have h01 : hullOk [] = false := rfl
      repeat' (first | (with_reducible refine And.intro ?_ ?_) | (with_reducible intro h) | ((fail_if_success (with_reducible refine Leaf.mk ?_)); (fail_if_success (with_reducible refine VC.mk ?_)); (fail_if_success (with_reducible refine Goes.mk ?_)); (fail_if_success (with_reducible refine Again.mk ?_)); (fail_if_success (with_reducible refine Rounds.mk ?_)); (fail_if_success (with_reducible show False)); (fail_if_success (with_reducible show True)); conv => whnf))
      all_goals try simp only [Bool.not_eq_true', Bool.not_eq_false', Bool.and_eq_true, decide_eq_true_eq, decide_eq_false_iff_not, tkA, Nat.zero_add, Nat.reduceAdd, Int.toNat_natCast, tmN] at *
      all_goals try first | exact trivial | (show False; omega) | exact Leaf.mk trivial | exact Leaf.mk rfl | (refine VC.mk ?_; first | trivial | assumption | ((try simp only [InR] at *); omega) | (simp; done) | (simp; omega))
      all_goals try (refine VC.mk ?_; first | assumption | exact wf_nil _ | exact hullR_wf _ | exact wf_take (hullR_wf _) _ | exact wf_take (by assumption) _ | omega | (simp; done) | (simp; omega))
      all_goals try simp only [h00, h01, Bool.not_false, Bool.not_true, List.length_nil, List.take_nil] at *
      all_goals try first | exact trivial | (show False; omega) | exact Leaf.mk trivial | exact Leaf.mk rfl | (refine VC.mk ?_; first | trivial | assumption | ((try simp only [InR] at *); omega) | (simp; done) | (simp; omega))
      all_goals try (exfalso; first | omega | (simp [h00] at *; done) | (simp_all; done))
      all_goals (refine Leaf.mk ?_; exfalso; first | omega | exact absurd (show hullR [] = [] from rfl) (by assumption) | (simp at *; done))
    obtain ⟨n, hn1, hn2⟩ := mod_nat hp1.1 hz
    have r1 := rot_len xs n
    have r2 := rot_wf hp0 n
    have hll := hullR_len xs
    have hww := hullR_wf xs
    repeat' (first | (with_reducible refine And.intro ?_ ?_) | (with_reducible intro h) | ((fail_if_success (with_reducible refine Leaf.mk ?_)); (fail_if_success (with_reducible refine VC.mk ?_)); (fail_if_success (with_reducible refine Goes.mk ?_)); (fail_if_success (with_reducible refine Again.mk ?_)); (fail_if_success (with_reducible refine Rounds.mk ?_)); (fail_if_success (with_reducible show False)); (fail_if_success (with_reducible show True)); conv => whnf))
    all_goals try simp only [Bool.not_eq_true', Bool.not_eq_false', Bool.and_eq_true, decide_eq_true_eq, decide_eq_false_iff_not, tkA, Nat.zero_add, Nat.reduceAdd, Int.toNat_natCast, tmN] at *
    all_goals try simp only [hn1, Int.toNat_natCast] at *
    all_goals try first | exact trivial | (show False; omega) | exact Leaf.mk trivial | exact Leaf.mk rfl | (refine VC.mk ?_; first | trivial | assumption | ((try simp only [InR] at *); omega) | (simp; done) | (simp; omega))
    all_goals try (have r3 := rot_two hn2 (by omega))
    all_goals try simp only [big_two hn2, r3, List.take_length] at *
    all_goals try (refine VC.mk ?_; first | assumption | exact wf_nil _ | exact hullR_wf _ | exact wf_take (hullR_wf _) _ | exact wf_take (by assumption) _ | omega | (simp; done) | (simp; omega))
    all_goals try (refine VC.mk ?_; first | exact wf_app r2 (wf_take hp0 n) | (rw [List.length_append, r1, List.length_take]; omega) | omega)
    all_goals (refine Leaf.mk ?_; exfalso; first | omega | (simp at *; done))

theorem walk_PolygonHullOrder (k : Int) (bxs : Bool) (xs : List (List Int)) (w : World) (m : Ev.Map) (vxs : Value) (nxs : bxs = true → xs = []) (fxs : ∀ x ∈ xs, x.length = 2 ∧ ∀ y ∈ x, -9223372036854775808 ≤ y ∧ y ≤ 9223372036854775807) (dxs : Den m (rowArg bxs 0 2 xs) vxs ∧ BlkH m 0 w (.arr false (!bxs) 2 xs)) (uk : 0 ≤ k ∧ k ≤ 255) :
    Calls Try.prog 6 #[vxs, .int .u8 k] w fun e w' => e = .returned (.bool true) ∧ Below w.heap.size w w' := by
  cases bxs with
  | false =>
    exact Frame.calls_rows con_law_PolygonHullOrder [rowArg false 0 2 xs, .int .u8 k] (fun id => match id with | 0 => .arr false true 2 xs | _ => .dead) [k] _ _ [vxs, .int .u8 k] rfl (by simp [appP]) (List.forall_mem_cons.2 ⟨fun x hx => (fxs x (mem_tk hx)).1, (List.forall_mem_cons.2 ⟨uk, (List.forall_mem_nil _)⟩)⟩) m w ⟨dxs.1, rfl, trivial⟩ (fun id => by match id with | 0 => exact dxs.2 | _ + 1 => trivial) (fun id => by match id with | 0 => rfl | _ + 1 => rfl) rfl
  | true =>
    obtain rfl := nxs rfl
    exact Frame.calls_rows con_law_PolygonHullOrder [rowArg true 0 2 [], .int .u8 k] (fun id => match id with | 0 => .arr false false 2 [] | _ => .dead) [k] _ _ [vxs, .int .u8 k] rfl (by simp [appP]) (List.forall_mem_cons.2 ⟨fun x hx => (by cases hx), (List.forall_mem_cons.2 ⟨uk, (List.forall_mem_nil _)⟩)⟩) m w ⟨dxs.1, rfl, trivial⟩ (fun id => by match id with | 0 => exact dxs.2 | _ + 1 => trivial) (fun id => by match id with | 0 => rfl | _ + 1 => rfl) rfl
end Go.Proofs.Ytbichdbapkpjpaa
