/- The walk of caromlaw15.ClipHalfPlaneExact. -/
import Derived.Test.YthbighklfajmdaaH1
import Derived.Test.YthbighklfajmdaaFs
namespace Go.Proofs.Ythbighklfajmdaa
open Go.RowKit Fx Vx Bx Ev
set_option linter.unusedVariables false
set_option linter.unusedSimpArgs false

theorem tkk (xs : List (List Int)) (k : Nat) : List.take k (List.take k xs) = List.take k xs := by rw [List.take_take, Nat.min_self]
theorem row3 {xs : List (List Int)} (h : wf 3 xs) {k : Nat} (hk : k < xs.length) : xs.take k ++ [[at2 xs k 0, at2 xs k 1, at2 xs k 2]] = xs.take (k + 1) := by
  rw [List.take_succ_eq_append_getElem hk]
  congr 2
  have hl : xs[k].length = 3 := h _ (List.getElem_mem hk)
  have e : ∀ j, at2 xs k j = xs[k].getD j 0 := fun j => by simp [at2, hk]
  rw [e, e, e]
  match xs[k], hl with
  | [a, b, c], _ => rfl

def c_law_ClipHalfPlaneExact : Con := ⟨3, rowRun [.rows 3, .num 2, .num 2] (fun l R => match l, R with | [ox, oy, nx, ny], [xs] => [∀ x ∈ xs, x.length = 3] | _, _ => [False]) fun l R => match l, R with
  | [ox, oy, nx, ny], [xs] => .bool true
  | _, _ => .any⟩
set_option maxRecDepth 100000 in
set_option maxHeartbeats 8000000 in
theorem con_law_ClipHalfPlaneExact : c_law_ClipHalfPlaneExact.Ok Try.prog := by
  refine con_rows (C := [c_clip_HalfPlane, c_ref15_HalfPlane, c_law15_equalVertices, c_law15_example]) (pl := [(7, [0, 1, 2, 3, 4, 5, 6, 7, 8, 9, 10, 11, 12, 13, 14], [0, 0, 0, 6, 14, 30, 0, 0, 192, 448, 960, 2046, 4094, 8191, 16383]), (8, [0, 1, 2, 3, 4, 5, 6, 7, 8, 9, 10, 11, 12], [0, 0, 0, 7, 0, 0, 0, 127, 255, 511, 1023, 2047, 4095])]) Try.func3 rfl (by kernel_rfl) T_ok (Cons.cons con_clip_HalfPlane (Cons.cons con_ref15_HalfPlane (Cons.cons con_law15_equalVertices (Cons.cons con_law15_example (Cons.nil _))))) mixed (by kernel_rfl) _ _ _ (fun l R hl hR hn hpre => ?_)
  match l, hl, R, hR with
  | [ox, oy, nx, ny], zl, [(true, xs)], zr =>
    clear zl zr
    obtain rfl : xs = [] := hn _ (List.Mem.head _) rfl
    have hp0 := hpre _ (List.Mem.head _); try dsimp only at hp0
    repeat' (first | (with_reducible refine And.intro ?_ ?_) | (with_reducible intro h) | ((fail_if_success (with_reducible refine Leaf.mk ?_)); (fail_if_success (with_reducible refine VC.mk ?_)); (fail_if_success (with_reducible refine Goes.mk ?_)); (fail_if_success (with_reducible refine Again.mk ?_)); (fail_if_success (with_reducible refine Rounds.mk ?_)); (fail_if_success (with_reducible show False)); (fail_if_success (with_reducible show True)); conv => whnf))
    all_goals try simp only [decide_eq_true_eq, decide_eq_false_iff_not, Bool.not_eq_true', Bool.not_eq_false', Bool.and_eq_true, tkA, Nat.zero_add, Nat.reduceAdd, Int.toNat_natCast, List.take_nil, List.nil_append, List.length_nil] at *
    all_goals try first | exact trivial | (show False; omega) | exact Leaf.mk trivial | exact Leaf.mk rfl | (refine VC.mk ?_; first | trivial | assumption | ((try simp only [InR, decide_eq_true_eq, decide_eq_false_iff_not] at *); omega) | (simp; done))
    all_goals try refine goes_rounds 1 ?_
    all_goals try (refine rounds_one (pl := [(7, [0, 1, 2, 3, 4, 5, 6, 7, 8, 9, 10, 11, 12, 13, 14], [0, 0, 0, 6, 14, 30, 0, 0, 192, 448, 960, 2046, 4094, 8191, 16383]), (8, [0, 1, 2, 3, 4, 5, 6, 7, 8, 9, 10, 11, 12], [0, 0, 0, 7, 0, 0, 0, 127, 255, 511, 1023, 2047, 4095])]) T_ok (Cons.cons con_clip_HalfPlane (Cons.cons con_ref15_HalfPlane (Cons.cons con_law15_equalVertices (Cons.cons con_law15_example (Cons.nil _))))) mixed (by kernel_rfl) ?_; repeat' (first | (with_reducible refine And.intro ?_ ?_) | (with_reducible intro h) | ((fail_if_success (with_reducible refine Leaf.mk ?_)); (fail_if_success (with_reducible refine VC.mk ?_)); (fail_if_success (with_reducible refine Goes.mk ?_)); (fail_if_success (with_reducible refine Again.mk ?_)); (fail_if_success (with_reducible refine Rounds.mk ?_)); (fail_if_success (with_reducible show False)); (fail_if_success (with_reducible show True)); conv => whnf)))
    all_goals try simp only [decide_eq_true_eq, decide_eq_false_iff_not, Bool.not_eq_true', Bool.not_eq_false', Bool.and_eq_true, tkA, Nat.zero_add, Nat.reduceAdd, Int.toNat_natCast, List.take_nil, List.nil_append, List.length_nil] at *
    all_goals try simp only [List.take_length, List.length_nil, Int.natCast_zero, Int.ofNat_zero] at *
    all_goals try first | exact trivial | (show False; omega) | exact Leaf.mk trivial | exact Leaf.mk rfl | (refine VC.mk ?_; first | trivial | assumption | ((try simp only [InR, decide_eq_true_eq, decide_eq_false_iff_not] at *); omega) | (simp; done))
    all_goals try (refine VC.mk ?_; first | exact hpR_wf _ _ _ _ _ | (have q := hpR_len [] ox oy nx ny; omega) | omega | (refine ⟨?_, by simp⟩; generalize hpN _ _ _ _ _ = bb; cases bb <;> simp) | (simp; done) | (simp; omega))
    all_goals try (refine Leaf.mk ?_; exfalso; simp only [eq_self, not_true_eq_false] at *; done)
  | [ox, oy, nx, ny], zl, [(false, xs)], zr =>
    clear zl zr
    have hp0 := hpre _ (List.Mem.head _); try dsimp only at hp0
    repeat' (first | (with_reducible refine And.intro ?_ ?_) | (with_reducible intro h) | ((fail_if_success (with_reducible refine Leaf.mk ?_)); (fail_if_success (with_reducible refine VC.mk ?_)); (fail_if_success (with_reducible refine Goes.mk ?_)); (fail_if_success (with_reducible refine Again.mk ?_)); (fail_if_success (with_reducible refine Rounds.mk ?_)); (fail_if_success (with_reducible show False)); (fail_if_success (with_reducible show True)); conv => whnf))
    all_goals try simp only [decide_eq_true_eq, decide_eq_false_iff_not, Bool.not_eq_true', Bool.not_eq_false', Bool.and_eq_true, tkA, Nat.zero_add, Nat.reduceAdd, Int.toNat_natCast, List.take_nil, List.nil_append, List.length_nil] at *
    all_goals try first | exact trivial | (show False; omega) | exact Leaf.mk trivial | exact Leaf.mk rfl | (refine VC.mk ?_; first | trivial | assumption | ((try simp only [InR, decide_eq_true_eq, decide_eq_false_iff_not] at *); omega) | (simp; done))
    refine goes_inv (X := Nat) (pl := [(7, [0, 1, 2, 3, 4, 5, 6, 7, 8, 9, 10, 11, 12, 13, 14], [0, 0, 0, 6, 14, 30, 0, 0, 192, 448, 960, 2046, 4094, 8191, 16383]), (8, [0, 1, 2, 3, 4, 5, 6, 7, 8, 9, 10, 11, 12], [0, 0, 0, 7, 0, 0, 0, 127, 255, 511, 1023, 2047, 4095])]) T_ok (Cons.cons con_clip_HalfPlane (Cons.cons con_ref15_HalfPlane (Cons.cons con_law15_equalVertices (Cons.cons con_law15_example (Cons.nil _))))) mixed (by kernel_rfl)
      (fun k => (.sl 0 3 0 xs.length :: .any :: .any :: .any :: .ptr 1 0 :: .ptr 2 0 :: .any :: .osl (decide (k = 0)) 3 3 k :: .int .i64 (k : Int) :: .any :: .any :: .any :: .any :: .any :: .any :: .any :: .any :: .any :: .any :: .any :: .any :: .any :: .any :: .any :: .any :: .any :: .any :: .any :: .any :: .any :: .any :: .any :: .any :: .any :: .any :: .any :: .any :: .any :: .any :: .any :: .any :: .any :: .any :: .any :: .any :: [], [.arr false true 3 xs, .cells [.int .i64 ox, .int .i64 oy], .cells [.int .i64 nx, .int .i64 ny], .arr true (decide (0 < k)) 3 (xs.take k)]))
      (fun k => k ≤ xs.length) (fun k => xs.length - k) 0 [0, 1, 2, 3] (Nat.zero_le _) ?_ ?_ ?_
    · repeat' (first | (with_reducible refine And.intro ?_ ?_) | (with_reducible intro h) | ((fail_if_success (with_reducible refine Leaf.mk ?_)); (fail_if_success (with_reducible refine VC.mk ?_)); (fail_if_success (with_reducible refine Goes.mk ?_)); (fail_if_success (with_reducible refine Again.mk ?_)); (fail_if_success (with_reducible refine Rounds.mk ?_)); (fail_if_success (with_reducible show False)); (fail_if_success (with_reducible show True)); conv => whnf))
      all_goals first | exact trivial | (refine Leaf.mk ?_; first | rfl | exact ⟨rfl, rfl⟩ | (simp; done))
    · repeat' (first | (with_reducible refine And.intro ?_ ?_) | (with_reducible intro h) | ((fail_if_success (with_reducible refine Leaf.mk ?_)); (fail_if_success (with_reducible refine VC.mk ?_)); (fail_if_success (with_reducible refine Goes.mk ?_)); (fail_if_success (with_reducible refine Again.mk ?_)); (fail_if_success (with_reducible refine Rounds.mk ?_)); (fail_if_success (with_reducible show False)); (fail_if_success (with_reducible show True)); conv => whnf))
      all_goals first | exact trivial | (refine Leaf.mk ?_; first | rfl | exact ⟨rfl, rfl⟩ | (simp; done))
    · intro k hx
      repeat' (first | (with_reducible refine And.intro ?_ ?_) | (with_reducible intro h) | ((fail_if_success (with_reducible refine Leaf.mk ?_)); (fail_if_success (with_reducible refine VC.mk ?_)); (fail_if_success (with_reducible refine Goes.mk ?_)); (fail_if_success (with_reducible refine Again.mk ?_)); (fail_if_success (with_reducible refine Rounds.mk ?_)); (fail_if_success (with_reducible show False)); (fail_if_success (with_reducible show True)); conv => whnf))
      all_goals try simp only [decide_eq_true_eq, decide_eq_false_iff_not, Bool.not_eq_true', Bool.not_eq_false', Bool.and_eq_true, tkA, Nat.zero_add, Nat.reduceAdd, Int.toNat_natCast, List.take_nil, List.nil_append, List.length_nil] at *
      all_goals try simp only [List.take_length, tkk] at *
      all_goals try first | exact trivial | (show False; omega) | exact Leaf.mk trivial | exact Leaf.mk rfl | (refine VC.mk ?_; first | trivial | assumption | ((try simp only [InR, decide_eq_true_eq, decide_eq_false_iff_not] at *); omega) | (simp; done))
      all_goals try (refine VC.mk ?_; first | (rcases Nat.eq_zero_or_pos k with h0 | h0 <;> simp [h0] <;> omega) | (simp; omega))
      all_goals try (have hk : k = xs.length := (by omega); have ht : xs.take k = xs := List.take_of_length_le (by omega); simp only [ht] at *)
      all_goals try (refine VC.mk ?_; first | exact hpR_wf _ _ _ _ _ | (have q := hpR_len xs ox oy nx ny; omega) | omega | (refine ⟨?_, by simp⟩; generalize hpN _ _ _ _ _ = bb; cases bb <;> simp) | (simp; done) | (simp; omega))
      all_goals try (refine Leaf.mk ?_; exfalso; simp only [eq_self, not_true_eq_false] at *; done)
      all_goals (have hlt : k < xs.length := by omega
                 (refine Again.mk ⟨k + 1, [0, 1, 2, 5], hlt, (by omega), ?_, ?_⟩ <;> (repeat' (first | (with_reducible refine And.intro ?_ ?_) | (with_reducible intro h) | ((fail_if_success (with_reducible refine Leaf.mk ?_)); (fail_if_success (with_reducible refine VC.mk ?_)); (fail_if_success (with_reducible refine Goes.mk ?_)); (fail_if_success (with_reducible refine Again.mk ?_)); (fail_if_success (with_reducible refine Rounds.mk ?_)); (fail_if_success (with_reducible show False)); (fail_if_success (with_reducible show True)); conv => whnf))) <;> first | exact trivial | (refine Leaf.mk ?_; first | exact ⟨by simp, row3 hp0 hlt⟩ | exact ⟨by simp, by simp⟩ | exact ⟨by simp, rfl⟩ | rfl | exact ⟨rfl, rfl⟩ | (simp; done) | (refine ⟨?_, ?_⟩ <;> simp [row3 hp0 hlt]; done))))

theorem walk_ClipHalfPlaneExact (ox oy nx ny : Int) (bxs : Bool) (xs : List (List Int)) (w : World) (m : Ev.Map) (vxs : Value) (nxs : bxs = true → xs = []) (fxs : ∀ x ∈ xs, x.length = 3 ∧ ∀ y ∈ x, -9223372036854775808 ≤ y ∧ y ≤ 9223372036854775807) (dxs : Den m (rowArg bxs 0 3 xs) vxs ∧ BlkH m 0 w (.arr false (!bxs) 3 xs)) :
    Calls Try.prog 3 #[vxs, .agg #[.int .i64 ox, .int .i64 oy], .agg #[.int .i64 nx, .int .i64 ny]] w fun e w' => e = .returned (.bool true) ∧ Below w.heap.size w w' := by
  cases bxs with
  | false =>
    exact Frame.calls_rows con_law_ClipHalfPlaneExact [rowArg false 0 3 xs, .agg [.int .i64 ox, .int .i64 oy], .agg [.int .i64 nx, .int .i64 ny]] (fun id => match id with | 0 => .arr false true 3 xs | _ => .dead) [ox, oy, nx, ny] _ _ [vxs, .agg #[.int .i64 ox, .int .i64 oy], .agg #[.int .i64 nx, .int .i64 ny]] rfl (by simp [appP]) (List.forall_mem_cons.2 ⟨fun x hx => (fxs x (mem_tk hx)).1, (List.forall_mem_nil _)⟩) m w ⟨dxs.1, ⟨_, rfl, rfl, rfl, trivial⟩, ⟨_, rfl, rfl, rfl, trivial⟩, trivial⟩ (fun id => by match id with | 0 => exact dxs.2 | _ + 1 => trivial) (fun id => by match id with | 0 => rfl | _ + 1 => rfl) rfl
  | true =>
    obtain rfl := nxs rfl
    exact Frame.calls_rows con_law_ClipHalfPlaneExact [rowArg true 0 3 [], .agg [.int .i64 ox, .int .i64 oy], .agg [.int .i64 nx, .int .i64 ny]] (fun id => match id with | 0 => .arr false false 3 [] | _ => .dead) [ox, oy, nx, ny] _ _ [vxs, .agg #[.int .i64 ox, .int .i64 oy], .agg #[.int .i64 nx, .int .i64 ny]] rfl (by simp [appP]) (List.forall_mem_cons.2 ⟨fun x hx => (by cases hx), (List.forall_mem_nil _)⟩) m w ⟨dxs.1, ⟨_, rfl, rfl, rfl, trivial⟩, ⟨_, rfl, rfl, rfl, trivial⟩, trivial⟩ (fun id => by match id with | 0 => exact dxs.2 | _ + 1 => trivial) (fun id => by match id with | 0 => rfl | _ + 1 => rfl) rfl
end Go.Proofs.Ythbighklfajmdaa
