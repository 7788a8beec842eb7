/- Contracts of package clip, of caromref15 and of caromlaw15: half-planes. -/
import Derived.Test.YthbighklfajmdaaT1
import Derived.Test.YthbighklfajmdaaEvL
namespace Go.Proofs.Ythbighklfajmdaa
open Go.RowKit Fx Vx Bx Ev
set_option linter.unusedVariables false
set_option linter.unusedSimpArgs false


/-- The distance of vertex k from the half-plane. -/
def hpD (xs : List (List Int)) (ox oy nx ny : Int) (k : Nat) : Int := dot nx ny (sub (at2 xs k 0) ox) (sub (at2 xs k 1) oy)
def hpN (xs : List (List Int)) (ox oy nx ny : Int) : Bool := !decide (xs.length = 2) || (decide (0 < hpD xs ox oy nx ny 0) && decide (0 < hpD xs ox oy nx ny 1))
/-- Vertex k, moved to the boundary where it lies outside; m: the other one. -/
def hpV (xs : List (List Int)) (ox oy nx ny : Int) (k m : Nat) : List Int :=
  if 0 < hpD xs ox oy nx ny k then [lerp (at2 xs k 0) (at2 xs m 0) (ratio (hpD xs ox oy nx ny k) (hpD xs ox oy nx ny k - hpD xs ox oy nx ny m)), lerp (at2 xs k 1) (at2 xs m 1) (ratio (hpD xs ox oy nx ny k) (hpD xs ox oy nx ny k - hpD xs ox oy nx ny m)), at2 xs k 2]
  else [at2 xs k 0, at2 xs k 1, at2 xs k 2]
def hpR (xs : List (List Int)) (ox oy nx ny : Int) : List (List Int) := if hpN xs ox oy nx ny then [] else [hpV xs ox oy nx ny 0 1, hpV xs ox oy nx ny 1 0]
theorem dot_bd (a b c d : Int) : -536870911 ≤ dot a b c d ∧ dot a b c d ≤ 536870911 := sat_bd _
theorem hpD_bd (xs : List (List Int)) (ox oy nx ny : Int) (k : Nat) : -536870911 ≤ hpD xs ox oy nx ny k ∧ hpD xs ox oy nx ny k ≤ 536870911 := dot_bd _ _ _ _
theorem hpN_len {xs : List (List Int)} {ox oy nx ny : Int} (h : ¬ (xs.length : Int) = 2) : hpN xs ox oy nx ny = true ∧ hpR xs ox oy nx ny = [] := by
  have e : hpN xs ox oy nx ny = true := by simp [hpN]; omega
  exact ⟨e, by simp [hpR, e]⟩
theorem hpN_out {xs : List (List Int)} {ox oy nx ny : Int} (h1 : 0 < hpD xs ox oy nx ny 0) (h2 : 0 < hpD xs ox oy nx ny 1) : hpN xs ox oy nx ny = true ∧ hpR xs ox oy nx ny = [] := by
  have e : hpN xs ox oy nx ny = true := by simp [hpN, h1, h2]
  exact ⟨e, by simp [hpR, e]⟩
theorem hpN_in {xs : List (List Int)} {ox oy nx ny : Int} (h : (xs.length : Int) = 2) (h1 : ¬ (0 < hpD xs ox oy nx ny 0 ∧ 0 < hpD xs ox oy nx ny 1)) : hpN xs ox oy nx ny = false ∧ hpR xs ox oy nx ny = [hpV xs ox oy nx ny 0 1, hpV xs ox oy nx ny 1 0] := by
  have e : hpN xs ox oy nx ny = false := by
    cases e : hpN xs ox oy nx ny
    · rfl
    · simp only [hpN, Bool.or_eq_true, Bool.and_eq_true, Bool.not_eq_true', decide_eq_true_eq, decide_eq_false_iff_not] at e; omega
  exact ⟨e, by simp [hpR, e]⟩
theorem hpV_in {xs : List (List Int)} {ox oy nx ny : Int} {k m : Nat} (h : ¬ 0 < hpD xs ox oy nx ny k) : hpV xs ox oy nx ny k m = [at2 xs k 0, at2 xs k 1, at2 xs k 2] := if_neg h
theorem hpV_out {xs : List (List Int)} {ox oy nx ny : Int} {k m : Nat} (h : 0 < hpD xs ox oy nx ny k) : hpV xs ox oy nx ny k m = [lerp (at2 xs k 0) (at2 xs m 0) (ratio (hpD xs ox oy nx ny k) (hpD xs ox oy nx ny k - hpD xs ox oy nx ny m)), lerp (at2 xs k 1) (at2 xs m 1) (ratio (hpD xs ox oy nx ny k) (hpD xs ox oy nx ny k - hpD xs ox oy nx ny m)), at2 xs k 2] := if_pos h

def c_clip_clipped : Con := ⟨43, pureRun [3, 3, 0, 0] (fun | [x, y, i, u, v, j, d, e] => [-536870911 ≤ d, d ≤ 536870911, -536870911 ≤ e, e ≤ 536870911] | _ => [False]) fun | [x, y, i, u, v, j, d, e] => .agg [.int .i64 (lerp x u (ratio d (d - e))), .int .i64 (lerp y v (ratio d (d - e))), .int .i64 (i)] | _ => .any⟩
set_option maxRecDepth 100000 in
set_option maxHeartbeats 1000000 in
theorem con_clip_clipped : c_clip_clipped.Ok Try.prog := by
  refine con_pure (C := [c_fixed_Ratio, c_vec2_Lerp]) (pl := [(1, [0, 1, 2, 3, 4, 5, 6, 7, 8, 9, 10, 11], [0, 1, 0, 4, 0, 0, 0, 96, 240, 511, 1023, 2047])]) Try.func43 rfl (by kernel_rfl) T_ok (Cons.cons con_fixed_Ratio (Cons.cons con_vec2_Lerp (Cons.nil _))) mixed (by kernel_rfl) _ _ _ (fun l hl hpre => ?_)
  match l, hl with
  | [x, y, i, u, v, j, d, e], _ =>
    have p1 := hpre _ (.head _); have p2 := hpre _ (.tail _ (.head _)); have p3 := hpre _ (.tail _ (.tail _ (.head _))); have p4 := hpre _ (.tail _ (.tail _ (.tail _ (.head _))))
    repeat' (first | (with_reducible refine And.intro ?_ ?_) | (with_reducible intro h) | ((fail_if_success (with_reducible refine Leaf.mk ?_)); (fail_if_success (with_reducible refine VC.mk ?_)); (fail_if_success (with_reducible refine Goes.mk ?_)); (fail_if_success (with_reducible refine Again.mk ?_)); (fail_if_success (with_reducible refine Rounds.mk ?_)); (fail_if_success (with_reducible show False)); (fail_if_success (with_reducible show True)); conv => whnf))
    all_goals first | (refine VC.mk ?_; simp only [InR]; omega) | exact ⟨rfl⟩
def c_clip_HalfPlane : Con := ⟨16, genRun [.rows 3, .num 2, .num 2] (fun l R => match l, R with | [ox, oy, nx, ny], [(bxs, xs)] => [xs.length ≤ 100000] | _, _ => [False]) fun l R => match l, R with
  | [ox, oy, nx, ny], [(bxs, xs)] => [.rows (hpN xs ox oy nx ny) 3 (hpR xs ox oy nx ny)]
  | _, _ => []⟩
set_option maxRecDepth 100000 in
set_option maxHeartbeats 4000000 in
theorem con_clip_HalfPlane : c_clip_HalfPlane.Ok Try.prog := by
  refine con_gen (C := [c_vec2_Sub, c_vec2_Dot, c_clip_clipped]) (pl := [(3, [0, 1, 2, 3, 4, 5, 6, 7, 8, 9], [0, 1, 3, 0, 8, 24, 0, 0, 199, 511]), (4, [0, 1, 2, 3, 4, 5, 6, 7, 8, 9, 10, 11, 12, 13], [0, 0, 2, 0, 14, 31, 0, 0, 128, 0, 959, 2047, 4095, 8191])]) Try.func16 rfl (by kernel_rfl) T_ok (Cons.cons con_vec2_Sub (Cons.cons con_vec2_Dot (Cons.cons con_clip_clipped (Cons.nil _)))) mixed (by kernel_rfl) _ _ _ (fun l R hl hR hn hpre => ?_)
  match l, hl, R, hR with
  | [ox, oy, nx, ny], zl, [(true, xs)], zr =>
    clear zl zr
    obtain rfl : xs = [] := hn _ (List.Mem.head _) rfl
    have hp0 := hpre _ (List.Mem.head _); try dsimp only at hp0
    repeat' (first | (with_reducible refine And.intro ?_ ?_) | (with_reducible intro h) | ((fail_if_success (with_reducible refine Leaf.mk ?_)); (fail_if_success (with_reducible refine VC.mk ?_)); (fail_if_success (with_reducible refine Goes.mk ?_)); (fail_if_success (with_reducible refine Again.mk ?_)); (fail_if_success (with_reducible refine Rounds.mk ?_)); (fail_if_success (with_reducible show False)); (fail_if_success (with_reducible show True)); conv => whnf))
    all_goals try simp only [decide_eq_true_eq, decide_eq_false_iff_not, Bool.not_eq_true', Bool.not_eq_false', Bool.and_eq_true, tkA, Nat.zero_add, Nat.reduceAdd, Int.toNat_natCast, List.take_nil, List.nil_append, List.length_nil] at *
    all_goals try first | exact trivial | (show False; omega) | exact Leaf.mk trivial | exact Leaf.mk rfl | (refine VC.mk ?_; first | trivial | assumption | ((try simp only [InR, decide_eq_true_eq, decide_eq_false_iff_not] at *); omega) | (simp; done))
    all_goals try (have e0 : dot nx ny (sub (at2 [] 0 0) ox) (sub (at2 [] 0 1) oy) = hpD [] ox oy nx ny 0 := rfl
                   have e1 : dot nx ny (sub (at2 [] 1 0) ox) (sub (at2 [] 1 1) oy) = hpD [] ox oy nx ny 1 := rfl
                   simp only [e0, e1] at *)
    all_goals try (have b0 := hpD_bd [] ox oy nx ny 0; have b1 := hpD_bd [] ox oy nx ny 1; refine VC.mk ?_; first | omega | (simp only [InR]; omega) | (simp; done))
    all_goals (refine Leaf.mk ?_; first
      | (exfalso; omega)
      | (rw [(hpN_len (by omega)).1]; done) | (rw [(hpN_len (by omega)).2]; done)
      | (rw [(hpN_out (by omega) (by omega)).1]; done) | (rw [(hpN_out (by omega) (by omega)).2]; done)
      | (rw [(hpN_in (by omega) (by omega)).1]; done)
      | (rw [(hpN_in (by omega) (by omega)).2]; first
          | (rw [hpV_in (by omega), hpV_in (by omega)]; rfl) | (rw [hpV_out (by omega), hpV_in (by omega)]; rfl) | (rw [hpV_in (by omega), hpV_out (by omega)]; rfl)))
  | [ox, oy, nx, ny], zl, [(false, xs)], zr =>
    clear zl zr
    have hp0 := hpre _ (List.Mem.head _); try dsimp only at hp0
    repeat' (first | (with_reducible refine And.intro ?_ ?_) | (with_reducible intro h) | ((fail_if_success (with_reducible refine Leaf.mk ?_)); (fail_if_success (with_reducible refine VC.mk ?_)); (fail_if_success (with_reducible refine Goes.mk ?_)); (fail_if_success (with_reducible refine Again.mk ?_)); (fail_if_success (with_reducible refine Rounds.mk ?_)); (fail_if_success (with_reducible show False)); (fail_if_success (with_reducible show True)); conv => whnf))
    all_goals try simp only [decide_eq_true_eq, decide_eq_false_iff_not, Bool.not_eq_true', Bool.not_eq_false', Bool.and_eq_true, tkA, Nat.zero_add, Nat.reduceAdd, Int.toNat_natCast, List.take_nil, List.nil_append, List.length_nil] at *
    all_goals try first | exact trivial | (show False; omega) | exact Leaf.mk trivial | exact Leaf.mk rfl | (refine VC.mk ?_; first | trivial | assumption | ((try simp only [InR, decide_eq_true_eq, decide_eq_false_iff_not] at *); omega) | (simp; done))
    all_goals try (have e0 : dot nx ny (sub (at2 xs 0 0) ox) (sub (at2 xs 0 1) oy) = hpD xs ox oy nx ny 0 := rfl
                   have e1 : dot nx ny (sub (at2 xs 1 0) ox) (sub (at2 xs 1 1) oy) = hpD xs ox oy nx ny 1 := rfl
                   simp only [e0, e1] at *)
    all_goals try (have b0 := hpD_bd xs ox oy nx ny 0; have b1 := hpD_bd xs ox oy nx ny 1; refine VC.mk ?_; first | omega | (simp only [InR]; omega) | (simp; done))
    all_goals (refine Leaf.mk ?_; first
      | (exfalso; omega)
      | (rw [(hpN_len (by omega)).1]; done) | (rw [(hpN_len (by omega)).2]; done)
      | (rw [(hpN_out (by omega) (by omega)).1]; done) | (rw [(hpN_out (by omega) (by omega)).2]; done)
      | (rw [(hpN_in (by omega) (by omega)).1]; done)
      | (rw [(hpN_in (by omega) (by omega)).2]; first
          | (rw [hpV_in (by omega), hpV_in (by omega)]; rfl) | (rw [hpV_out (by omega), hpV_in (by omega)]; rfl) | (rw [hpV_in (by omega), hpV_out (by omega)]; rfl)))
def c_ref15_HalfPlane : Con := ⟨17, genRun [.rows 3, .num 2, .num 2] (fun l R => match l, R with | [ox, oy, nx, ny], [(bxs, xs)] => [xs.length ≤ 100000] | _, _ => [False]) fun l R => match l, R with
  | [ox, oy, nx, ny], [(bxs, xs)] => [.rows (hpN xs ox oy nx ny) 3 (hpR xs ox oy nx ny)]
  | _, _ => []⟩
set_option maxRecDepth 100000 in
set_option maxHeartbeats 4000000 in
theorem con_ref15_HalfPlane : c_ref15_HalfPlane.Ok Try.prog := by
  refine con_gen (C := [c_ref03_Sub, c_ref03_Dot, c_ref01_Ratio, c_ref03_Lerp]) (pl := [(3, [0, 1, 2, 3, 4, 5, 6, 7, 8], [0, 0, 2, 6, 14, 0, 62, 127, 255]), (4, [0, 1, 2, 3, 4, 5, 6, 7, 8], [0, 0, 2, 6, 14, 0, 62, 127, 255]), (10, [0, 1, 2, 3, 4, 5, 6, 7, 8, 9, 10, 11, 12, 13, 14, 15], [0, 1, 3, 7, 0, 16, 48, 112, 0, 0, 0, 1536, 3840, 8191, 16383, 32767]), (12, [0, 1, 2, 3, 4, 5, 6, 7, 8, 9, 10, 11, 12, 13, 14, 15], [0, 1, 3, 7, 0, 16, 48, 112, 0, 0, 0, 1536, 3840, 8191, 16383, 32767])]) Try.func17 rfl (by kernel_rfl) T_ok (Cons.cons con_ref03_Sub (Cons.cons con_ref03_Dot (Cons.cons con_ref01_Ratio (Cons.cons con_ref03_Lerp (Cons.nil _))))) mixed (by kernel_rfl) _ _ _ (fun l R hl hR hn hpre => ?_)
  match l, hl, R, hR with
  | [ox, oy, nx, ny], zl, [(true, xs)], zr =>
    clear zl zr
    obtain rfl : xs = [] := hn _ (List.Mem.head _) rfl
    have hp0 := hpre _ (List.Mem.head _); try dsimp only at hp0
    repeat' (first | (with_reducible refine And.intro ?_ ?_) | (with_reducible intro h) | ((fail_if_success (with_reducible refine Leaf.mk ?_)); (fail_if_success (with_reducible refine VC.mk ?_)); (fail_if_success (with_reducible refine Goes.mk ?_)); (fail_if_success (with_reducible refine Again.mk ?_)); (fail_if_success (with_reducible refine Rounds.mk ?_)); (fail_if_success (with_reducible show False)); (fail_if_success (with_reducible show True)); conv => whnf))
    all_goals try simp only [decide_eq_true_eq, decide_eq_false_iff_not, Bool.not_eq_true', Bool.not_eq_false', Bool.and_eq_true, tkA, Nat.zero_add, Nat.reduceAdd, Int.toNat_natCast, List.take_nil, List.nil_append, List.length_nil] at *
    all_goals try first | exact trivial | (show False; omega) | exact Leaf.mk trivial | exact Leaf.mk rfl | (refine VC.mk ?_; first | trivial | assumption | ((try simp only [InR, decide_eq_true_eq, decide_eq_false_iff_not] at *); omega) | (simp; done))
    all_goals try (have e0 : dot nx ny (sub (at2 [] 0 0) ox) (sub (at2 [] 0 1) oy) = hpD [] ox oy nx ny 0 := rfl
                   have e1 : dot nx ny (sub (at2 [] 1 0) ox) (sub (at2 [] 1 1) oy) = hpD [] ox oy nx ny 1 := rfl
                   simp only [e0, e1] at *)
    all_goals try (have b0 := hpD_bd [] ox oy nx ny 0; have b1 := hpD_bd [] ox oy nx ny 1; refine VC.mk ?_; first | omega | (simp only [InR]; omega) | (simp; done))
    all_goals (refine Leaf.mk ?_; first
      | (exfalso; omega)
      | (rw [(hpN_len (by omega)).1]; done) | (rw [(hpN_len (by omega)).2]; done)
      | (rw [(hpN_out (by omega) (by omega)).1]; done) | (rw [(hpN_out (by omega) (by omega)).2]; done)
      | (rw [(hpN_in (by omega) (by omega)).1]; done)
      | (rw [(hpN_in (by omega) (by omega)).2]; first
          | (rw [hpV_in (by omega), hpV_in (by omega)]; rfl) | (rw [hpV_out (by omega), hpV_in (by omega)]; rfl) | (rw [hpV_in (by omega), hpV_out (by omega)]; rfl)))
  | [ox, oy, nx, ny], zl, [(false, xs)], zr =>
    clear zl zr
    have hp0 := hpre _ (List.Mem.head _); try dsimp only at hp0
    repeat' (first | (with_reducible refine And.intro ?_ ?_) | (with_reducible intro h) | ((fail_if_success (with_reducible refine Leaf.mk ?_)); (fail_if_success (with_reducible refine VC.mk ?_)); (fail_if_success (with_reducible refine Goes.mk ?_)); (fail_if_success (with_reducible refine Again.mk ?_)); (fail_if_success (with_reducible refine Rounds.mk ?_)); (fail_if_success (with_reducible show False)); (fail_if_success (with_reducible show True)); conv => whnf))
    all_goals try simp only [decide_eq_true_eq, decide_eq_false_iff_not, Bool.not_eq_true', Bool.not_eq_false', Bool.and_eq_true, tkA, Nat.zero_add, Nat.reduceAdd, Int.toNat_natCast, List.take_nil, List.nil_append, List.length_nil] at *
    all_goals try first | exact trivial | (show False; omega) | exact Leaf.mk trivial | exact Leaf.mk rfl | (refine VC.mk ?_; first | trivial | assumption | ((try simp only [InR, decide_eq_true_eq, decide_eq_false_iff_not] at *); omega) | (simp; done))
    all_goals try (have e0 : dot nx ny (sub (at2 xs 0 0) ox) (sub (at2 xs 0 1) oy) = hpD xs ox oy nx ny 0 := rfl
                   have e1 : dot nx ny (sub (at2 xs 1 0) ox) (sub (at2 xs 1 1) oy) = hpD xs ox oy nx ny 1 := rfl
                   simp only [e0, e1] at *)
    all_goals try (have b0 := hpD_bd xs ox oy nx ny 0; have b1 := hpD_bd xs ox oy nx ny 1; refine VC.mk ?_; first | omega | (simp only [InR]; omega) | (simp; done))
    all_goals (refine Leaf.mk ?_; first
      | (exfalso; omega)
      | (rw [(hpN_len (by omega)).1]; done) | (rw [(hpN_len (by omega)).2]; done)
      | (rw [(hpN_out (by omega) (by omega)).1]; done) | (rw [(hpN_out (by omega) (by omega)).2]; done)
      | (rw [(hpN_in (by omega) (by omega)).1]; done)
      | (rw [(hpN_in (by omega) (by omega)).2]; first
          | (rw [hpV_in (by omega), hpV_in (by omega)]; rfl) | (rw [hpV_out (by omega), hpV_in (by omega)]; rfl) | (rw [hpV_in (by omega), hpV_out (by omega)]; rfl)))
def wf (e : Nat) (xs : List (List Int)) : Prop := ∀ x ∈ xs, x.length = e
theorem wf_nil (e : Nat) : wf e [] := fun x hx => by cases hx
theorem take_ext {e : Nat} {xs ys : List (List Int)} (hx : wf e xs) (hy : wf e ys) {k : Nat} (h : xs.take k = ys.take k) (h1 : k < xs.length) (h2 : k < ys.length) (hr : ∀ j, j < e → at2 xs k j = at2 ys k j) : xs.take (k + 1) = ys.take (k + 1) := by
  rw [List.take_succ_eq_append_getElem h1, List.take_succ_eq_append_getElem h2, h]
  congr 2
  have l1 : xs[k].length = e := hx _ (List.getElem_mem h1)
  have l2 : ys[k].length = e := hy _ (List.getElem_mem h2)
  apply List.ext_getElem (by omega)
  intro j a b
  have := hr j (by omega)
  simp only [at2, List.getD_eq_getElem?_getD, List.getElem?_eq_getElem h1, List.getElem?_eq_getElem h2, Option.getD_some, List.getElem?_eq_getElem a, List.getElem?_eq_getElem b] at this
  exact this
theorem hpV_len (xs : List (List Int)) (ox oy nx ny : Int) (k m : Nat) : (hpV xs ox oy nx ny k m).length = 3 := by unfold hpV; split <;> rfl
theorem hpR_wf (xs : List (List Int)) (ox oy nx ny : Int) : wf 3 (hpR xs ox oy nx ny) := fun x hx => by
  unfold hpR at hx
  split at hx
  · cases hx
  · simp only [List.mem_cons, List.not_mem_nil, or_false] at hx
    rcases hx with rfl | rfl <;> exact hpV_len _ _ _ _ _ _ _
theorem hpR_len (xs : List (List Int)) (ox oy nx ny : Int) : (hpR xs ox oy nx ny).length ≤ 2 := by
  unfold hpR; split <;> simp
def c_law15_equalVertices : Con := ⟨15, rowRun [.rows 3, .rows 3] (fun l R => match l, R with | [], [xs, ys] => [xs.length ≤ 100000, ys.length ≤ 100000, wf 3 xs, wf 3 ys] | _, _ => [False]) fun l R => match l, R with
  | [], [xs, ys] => .bool (decide (xs = ys))
  | _, _ => .any⟩
set_option maxRecDepth 100000 in
set_option maxHeartbeats 2000000 in
theorem con_law15_equalVertices : c_law15_equalVertices.Ok Try.prog := by
  refine con_rows (C := []) (pl := [(6, [0, 1, 2, 3, 4, 5, 6, 7, 8, 9, 10, 11, 12, 13, 14, 15, 16, 17, 18, 19, 20, 21, 22, 23], [0, 0, 3, 7, 15, 0, 0, 96, 224, 480, 1023, 2047, 4095, 4095, 16383, 32767, 65535, 4095, 4095, 397311, 921599, 1970175, 4194303, 8388607])]) Try.func15 rfl (by kernel_rfl) T_ok (Cons.nil _) mixed (by kernel_rfl) _ _ _ (fun l R hl hR hn hpre => ?_)
  match l, hl, R, hR with
  | [], zl, [(true, xs), (true, ys)], zr =>
    clear zl zr
    obtain rfl : xs = [] := hn _ (List.Mem.head _) rfl
    obtain rfl : ys = [] := hn _ (List.Mem.tail _ (List.Mem.head _)) rfl
    have hp0 := hpre _ (List.Mem.head _); try dsimp only at hp0
    have hp1 := hpre _ (List.Mem.tail _ (List.Mem.head _)); try dsimp only at hp1
    have hp2 := hpre _ (List.Mem.tail _ (List.Mem.tail _ (List.Mem.head _))); try dsimp only at hp2
    have hp3 := hpre _ (List.Mem.tail _ (List.Mem.tail _ (List.Mem.tail _ (List.Mem.head _)))); try dsimp only at hp3
    skip
    repeat' (first | (with_reducible refine And.intro ?_ ?_) | (with_reducible intro h) | ((fail_if_success (with_reducible refine Leaf.mk ?_)); (fail_if_success (with_reducible refine VC.mk ?_)); (fail_if_success (with_reducible refine Goes.mk ?_)); (fail_if_success (with_reducible refine Again.mk ?_)); (fail_if_success (with_reducible refine Rounds.mk ?_)); (fail_if_success (with_reducible show False)); (fail_if_success (with_reducible show True)); conv => whnf))
    all_goals try simp only [decide_eq_true_eq, decide_eq_false_iff_not, Bool.not_eq_true', Bool.not_eq_false', Bool.and_eq_true, tkA, Nat.zero_add, Nat.reduceAdd, Int.toNat_natCast, List.take_nil, List.nil_append, List.length_nil] at *
    all_goals try first | exact trivial | (show False; omega) | exact Leaf.mk trivial | exact Leaf.mk rfl | (refine VC.mk ?_; first | trivial | assumption | ((try simp only [InR, decide_eq_true_eq, decide_eq_false_iff_not] at *); omega) | (simp; done))
    all_goals try simp only [List.length_nil, Int.natCast_zero, Int.ofNat_zero] at *
    all_goals try (have hz : ys.length = 0 := (by omega); have hz2 := List.length_eq_zero_iff.1 hz; subst hz2)
    all_goals try (have hz : xs.length = 0 := (by omega); have hz2 := List.length_eq_zero_iff.1 hz; subst hz2)
    all_goals try refine goes_rounds 1 ?_
    all_goals try (refine rounds_one (pl := [(6, [0, 1, 2, 3, 4, 5, 6, 7, 8, 9, 10, 11, 12, 13, 14, 15, 16, 17, 18, 19, 20, 21, 22, 23], [0, 0, 3, 7, 15, 0, 0, 96, 224, 480, 1023, 2047, 4095, 4095, 16383, 32767, 65535, 4095, 4095, 397311, 921599, 1970175, 4194303, 8388607])]) T_ok (Cons.nil _) mixed (by kernel_rfl) ?_; repeat' (first | (with_reducible refine And.intro ?_ ?_) | (with_reducible intro h) | ((fail_if_success (with_reducible refine Leaf.mk ?_)); (fail_if_success (with_reducible refine VC.mk ?_)); (fail_if_success (with_reducible refine Goes.mk ?_)); (fail_if_success (with_reducible refine Again.mk ?_)); (fail_if_success (with_reducible refine Rounds.mk ?_)); (fail_if_success (with_reducible show False)); (fail_if_success (with_reducible show True)); conv => whnf)))
    all_goals try simp only [decide_eq_true_eq, decide_eq_false_iff_not, Bool.not_eq_true', Bool.not_eq_false', Bool.and_eq_true, tkA, Nat.zero_add, Nat.reduceAdd, Int.toNat_natCast, List.take_nil, List.nil_append, List.length_nil] at *
    all_goals try simp only [List.length_nil, Int.natCast_zero, Int.ofNat_zero] at *
    all_goals try (exfalso; omega)
    all_goals try exact trivial
    all_goals try exact Leaf.mk trivial
    all_goals (refine Leaf.mk ?_; first | rfl | (simp; done) | (rw [decide_eq_false (fun hh => by subst hh; simp_all)]; done) | (simp_all; done))
  | [], zl, [(true, xs), (false, ys)], zr =>
    clear zl zr
    obtain rfl : xs = [] := hn _ (List.Mem.head _) rfl
    have hp0 := hpre _ (List.Mem.head _); try dsimp only at hp0
    have hp1 := hpre _ (List.Mem.tail _ (List.Mem.head _)); try dsimp only at hp1
    have hp2 := hpre _ (List.Mem.tail _ (List.Mem.tail _ (List.Mem.head _))); try dsimp only at hp2
    have hp3 := hpre _ (List.Mem.tail _ (List.Mem.tail _ (List.Mem.tail _ (List.Mem.head _)))); try dsimp only at hp3
    skip
    repeat' (first | (with_reducible refine And.intro ?_ ?_) | (with_reducible intro h) | ((fail_if_success (with_reducible refine Leaf.mk ?_)); (fail_if_success (with_reducible refine VC.mk ?_)); (fail_if_success (with_reducible refine Goes.mk ?_)); (fail_if_success (with_reducible refine Again.mk ?_)); (fail_if_success (with_reducible refine Rounds.mk ?_)); (fail_if_success (with_reducible show False)); (fail_if_success (with_reducible show True)); conv => whnf))
    all_goals try simp only [decide_eq_true_eq, decide_eq_false_iff_not, Bool.not_eq_true', Bool.not_eq_false', Bool.and_eq_true, tkA, Nat.zero_add, Nat.reduceAdd, Int.toNat_natCast, List.take_nil, List.nil_append, List.length_nil] at *
    all_goals try first | exact trivial | (show False; omega) | exact Leaf.mk trivial | exact Leaf.mk rfl | (refine VC.mk ?_; first | trivial | assumption | ((try simp only [InR, decide_eq_true_eq, decide_eq_false_iff_not] at *); omega) | (simp; done))
    all_goals try simp only [List.length_nil, Int.natCast_zero, Int.ofNat_zero] at *
    all_goals try (have hz : ys.length = 0 := (by omega); have hz2 := List.length_eq_zero_iff.1 hz; subst hz2)
    all_goals try (have hz : xs.length = 0 := (by omega); have hz2 := List.length_eq_zero_iff.1 hz; subst hz2)
    all_goals try refine goes_rounds 1 ?_
    all_goals try (refine rounds_one (pl := [(6, [0, 1, 2, 3, 4, 5, 6, 7, 8, 9, 10, 11, 12, 13, 14, 15, 16, 17, 18, 19, 20, 21, 22, 23], [0, 0, 3, 7, 15, 0, 0, 96, 224, 480, 1023, 2047, 4095, 4095, 16383, 32767, 65535, 4095, 4095, 397311, 921599, 1970175, 4194303, 8388607])]) T_ok (Cons.nil _) mixed (by kernel_rfl) ?_; repeat' (first | (with_reducible refine And.intro ?_ ?_) | (with_reducible intro h) | ((fail_if_success (with_reducible refine Leaf.mk ?_)); (fail_if_success (with_reducible refine VC.mk ?_)); (fail_if_success (with_reducible refine Goes.mk ?_)); (fail_if_success (with_reducible refine Again.mk ?_)); (fail_if_success (with_reducible refine Rounds.mk ?_)); (fail_if_success (with_reducible show False)); (fail_if_success (with_reducible show True)); conv => whnf)))
    all_goals try simp only [decide_eq_true_eq, decide_eq_false_iff_not, Bool.not_eq_true', Bool.not_eq_false', Bool.and_eq_true, tkA, Nat.zero_add, Nat.reduceAdd, Int.toNat_natCast, List.take_nil, List.nil_append, List.length_nil] at *
    all_goals try simp only [List.length_nil, Int.natCast_zero, Int.ofNat_zero] at *
    all_goals try (exfalso; omega)
    all_goals try exact trivial
    all_goals try exact Leaf.mk trivial
    all_goals (refine Leaf.mk ?_; first | rfl | (simp; done) | (rw [decide_eq_false (fun hh => by subst hh; simp_all)]; done) | (simp_all; done))
  | [], zl, [(false, xs), (true, ys)], zr =>
    clear zl zr
    obtain rfl : ys = [] := hn _ (List.Mem.tail _ (List.Mem.head _)) rfl
    have hp0 := hpre _ (List.Mem.head _); try dsimp only at hp0
    have hp1 := hpre _ (List.Mem.tail _ (List.Mem.head _)); try dsimp only at hp1
    have hp2 := hpre _ (List.Mem.tail _ (List.Mem.tail _ (List.Mem.head _))); try dsimp only at hp2
    have hp3 := hpre _ (List.Mem.tail _ (List.Mem.tail _ (List.Mem.tail _ (List.Mem.head _)))); try dsimp only at hp3
    skip
    repeat' (first | (with_reducible refine And.intro ?_ ?_) | (with_reducible intro h) | ((fail_if_success (with_reducible refine Leaf.mk ?_)); (fail_if_success (with_reducible refine VC.mk ?_)); (fail_if_success (with_reducible refine Goes.mk ?_)); (fail_if_success (with_reducible refine Again.mk ?_)); (fail_if_success (with_reducible refine Rounds.mk ?_)); (fail_if_success (with_reducible show False)); (fail_if_success (with_reducible show True)); conv => whnf))
    all_goals try simp only [decide_eq_true_eq, decide_eq_false_iff_not, Bool.not_eq_true', Bool.not_eq_false', Bool.and_eq_true, tkA, Nat.zero_add, Nat.reduceAdd, Int.toNat_natCast, List.take_nil, List.nil_append, List.length_nil] at *
    all_goals try first | exact trivial | (show False; omega) | exact Leaf.mk trivial | exact Leaf.mk rfl | (refine VC.mk ?_; first | trivial | assumption | ((try simp only [InR, decide_eq_true_eq, decide_eq_false_iff_not] at *); omega) | (simp; done))
    all_goals try simp only [List.length_nil, Int.natCast_zero, Int.ofNat_zero] at *
    all_goals try (have hz : ys.length = 0 := (by omega); have hz2 := List.length_eq_zero_iff.1 hz; subst hz2)
    all_goals try (have hz : xs.length = 0 := (by omega); have hz2 := List.length_eq_zero_iff.1 hz; subst hz2)
    all_goals try refine goes_rounds 1 ?_
    all_goals try (refine rounds_one (pl := [(6, [0, 1, 2, 3, 4, 5, 6, 7, 8, 9, 10, 11, 12, 13, 14, 15, 16, 17, 18, 19, 20, 21, 22, 23], [0, 0, 3, 7, 15, 0, 0, 96, 224, 480, 1023, 2047, 4095, 4095, 16383, 32767, 65535, 4095, 4095, 397311, 921599, 1970175, 4194303, 8388607])]) T_ok (Cons.nil _) mixed (by kernel_rfl) ?_; repeat' (first | (with_reducible refine And.intro ?_ ?_) | (with_reducible intro h) | ((fail_if_success (with_reducible refine Leaf.mk ?_)); (fail_if_success (with_reducible refine VC.mk ?_)); (fail_if_success (with_reducible refine Goes.mk ?_)); (fail_if_success (with_reducible refine Again.mk ?_)); (fail_if_success (with_reducible refine Rounds.mk ?_)); (fail_if_success (with_reducible show False)); (fail_if_success (with_reducible show True)); conv => whnf)))
    all_goals try simp only [decide_eq_true_eq, decide_eq_false_iff_not, Bool.not_eq_true', Bool.not_eq_false', Bool.and_eq_true, tkA, Nat.zero_add, Nat.reduceAdd, Int.toNat_natCast, List.take_nil, List.nil_append, List.length_nil] at *
    all_goals try simp only [List.length_nil, Int.natCast_zero, Int.ofNat_zero] at *
    all_goals try (exfalso; omega)
    all_goals try exact trivial
    all_goals try exact Leaf.mk trivial
    all_goals (refine Leaf.mk ?_; first | rfl | (simp; done) | (rw [decide_eq_false (fun hh => by subst hh; simp_all)]; done) | (simp_all; done))
  | [], zl, [(false, xs), (false, ys)], zr =>
    clear zl zr
    have hp0 := hpre _ (List.Mem.head _); try dsimp only at hp0
    have hp1 := hpre _ (List.Mem.tail _ (List.Mem.head _)); try dsimp only at hp1
    have hp2 := hpre _ (List.Mem.tail _ (List.Mem.tail _ (List.Mem.head _))); try dsimp only at hp2
    have hp3 := hpre _ (List.Mem.tail _ (List.Mem.tail _ (List.Mem.tail _ (List.Mem.head _)))); try dsimp only at hp3
    skip
    repeat' (first | (with_reducible refine And.intro ?_ ?_) | (with_reducible intro h) | ((fail_if_success (with_reducible refine Leaf.mk ?_)); (fail_if_success (with_reducible refine VC.mk ?_)); (fail_if_success (with_reducible refine Goes.mk ?_)); (fail_if_success (with_reducible refine Again.mk ?_)); (fail_if_success (with_reducible refine Rounds.mk ?_)); (fail_if_success (with_reducible show False)); (fail_if_success (with_reducible show True)); conv => whnf))
    all_goals try simp only [decide_eq_true_eq, decide_eq_false_iff_not, Bool.not_eq_true', Bool.not_eq_false', Bool.and_eq_true, tkA, Nat.zero_add, Nat.reduceAdd, Int.toNat_natCast, List.take_nil, List.nil_append, List.length_nil] at *
    all_goals try first | exact trivial | (show False; omega) | exact Leaf.mk trivial | exact Leaf.mk rfl | (refine VC.mk ?_; first | trivial | assumption | ((try simp only [InR, decide_eq_true_eq, decide_eq_false_iff_not] at *); omega) | (simp; done))
    all_goals try (refine Leaf.mk ?_; symm; rw [decide_eq_false_iff_not]; intro hh; subst hh; simp_all; done)
    have hlen : xs.length = ys.length := by omega
    refine goes_inv (X := Nat) (pl := [(6, [0, 1, 2, 3, 4, 5, 6, 7, 8, 9, 10, 11, 12, 13, 14, 15, 16, 17, 18, 19, 20, 21, 22, 23], [0, 0, 3, 7, 15, 0, 0, 96, 224, 480, 1023, 2047, 4095, 4095, 16383, 32767, 65535, 4095, 4095, 397311, 921599, 1970175, 4194303, 8388607])]) T_ok (Cons.nil _) mixed (by kernel_rfl)
      (fun k => (.sl 0 3 0 xs.length :: .sl 1 3 0 ys.length :: .any :: .any :: .any :: .int .i64 (k : Int) :: .any :: .any :: .any :: .any :: .any :: .any :: .any :: .any :: .any :: .any :: .any :: .any :: .any :: .any :: .any :: .any :: .any :: .any :: .any :: .any :: .any :: .any :: .any :: .any :: .any :: .any :: .any :: .any :: .any :: .any :: .any :: .any :: .any :: .any :: .any :: [], [.arr false true 3 xs, .arr false true 3 ys]))
      (fun k => k ≤ xs.length ∧ xs.take k = ys.take k) (fun k => xs.length - k) 0 [0, 1] ⟨Nat.zero_le _, rfl⟩ ?_ ?_ ?_
    · repeat' (first | (with_reducible refine And.intro ?_ ?_) | (with_reducible intro h) | ((fail_if_success (with_reducible refine Leaf.mk ?_)); (fail_if_success (with_reducible refine VC.mk ?_)); (fail_if_success (with_reducible refine Goes.mk ?_)); (fail_if_success (with_reducible refine Again.mk ?_)); (fail_if_success (with_reducible refine Rounds.mk ?_)); (fail_if_success (with_reducible show False)); (fail_if_success (with_reducible show True)); conv => whnf))
      all_goals first | exact trivial | (refine Leaf.mk ?_; first | rfl | exact ⟨rfl, rfl⟩ | (simp; done))
    · repeat' (first | (with_reducible refine And.intro ?_ ?_) | (with_reducible intro h) | ((fail_if_success (with_reducible refine Leaf.mk ?_)); (fail_if_success (with_reducible refine VC.mk ?_)); (fail_if_success (with_reducible refine Goes.mk ?_)); (fail_if_success (with_reducible refine Again.mk ?_)); (fail_if_success (with_reducible refine Rounds.mk ?_)); (fail_if_success (with_reducible show False)); (fail_if_success (with_reducible show True)); conv => whnf))
      all_goals first | exact trivial | (refine Leaf.mk ?_; first | rfl | exact ⟨rfl, rfl⟩ | (simp; done))
    · intro k hx
      obtain ⟨hx1, hx2⟩ := hx
      repeat' (first | (with_reducible refine And.intro ?_ ?_) | (with_reducible intro h) | ((fail_if_success (with_reducible refine Leaf.mk ?_)); (fail_if_success (with_reducible refine VC.mk ?_)); (fail_if_success (with_reducible refine Goes.mk ?_)); (fail_if_success (with_reducible refine Again.mk ?_)); (fail_if_success (with_reducible refine Rounds.mk ?_)); (fail_if_success (with_reducible show False)); (fail_if_success (with_reducible show True)); conv => whnf))
      all_goals try simp only [decide_eq_true_eq, decide_eq_false_iff_not, Bool.not_eq_true', Bool.not_eq_false', Bool.and_eq_true, tkA, Nat.zero_add, Nat.reduceAdd, Int.toNat_natCast, List.take_nil, List.nil_append, List.length_nil] at *
      all_goals try first | exact trivial | (show False; omega) | exact Leaf.mk trivial | exact Leaf.mk rfl | (refine VC.mk ?_; first | trivial | assumption | ((try simp only [InR, decide_eq_true_eq, decide_eq_false_iff_not] at *); omega) | (simp; done))
      all_goals first
        | (refine Leaf.mk ?_; have hk : k = xs.length := by omega
           subst hk
           rw [List.take_of_length_le (by omega), List.take_of_length_le (by omega)] at hx2
           subst hx2
           first | rfl | (simp; done))
        | (refine Leaf.mk ?_; symm; rw [decide_eq_false_iff_not]; intro hh; subst hh; first | omega | (simp_all; done))
        | (have hlt : k < xs.length := by omega
           have hr : ∀ j, j < 3 → at2 xs k j = at2 ys k j := fun j hj => by match j, hj with | 0, _ => omega | 1, _ => omega | 2, _ => omega
           (refine Again.mk ⟨k + 1, [0, 1], ⟨hlt, take_ext hp2 hp3 hx2 hlt (by omega) hr⟩, (by omega), ?_, ?_⟩ <;> (repeat' (first | (with_reducible refine And.intro ?_ ?_) | (with_reducible intro h) | ((fail_if_success (with_reducible refine Leaf.mk ?_)); (fail_if_success (with_reducible refine VC.mk ?_)); (fail_if_success (with_reducible refine Goes.mk ?_)); (fail_if_success (with_reducible refine Again.mk ?_)); (fail_if_success (with_reducible refine Rounds.mk ?_)); (fail_if_success (with_reducible show False)); (fail_if_success (with_reducible show True)); conv => whnf))) <;> first | exact trivial | (refine Leaf.mk ?_; first | rfl | exact ⟨rfl, rfl⟩ | (simp; done))))
def c_law15_example : Con := ⟨14, pureRun [] (fun _ => []) fun | [] => .bool true | _ => .any⟩
set_option maxRecDepth 100000 in
set_option maxHeartbeats 1000000 in
theorem con_law15_example : c_law15_example.Ok Try.prog := by
  refine con_pure (C := [c_clip_HalfPlane]) (pl := []) Try.func14 rfl (by kernel_rfl) T_ok (Cons.cons con_clip_HalfPlane (Cons.nil _)) mixed (by kernel_rfl) _ _ _ (fun l hl hpre => ?_)
  match l, hl with
  | [], _ =>
    repeat' (first | (with_reducible refine And.intro ?_ ?_) | (with_reducible intro h) | ((fail_if_success (with_reducible refine Leaf.mk ?_)); (fail_if_success (with_reducible refine VC.mk ?_)); (fail_if_success (with_reducible refine Goes.mk ?_)); (fail_if_success (with_reducible refine Again.mk ?_)); (fail_if_success (with_reducible refine Rounds.mk ?_)); (fail_if_success (with_reducible show False)); (fail_if_success (with_reducible show True)); conv => whnf))
    all_goals try exact trivial
    all_goals try (refine VC.mk ?_; first | decide | decide +kernel | (simp; done))
    all_goals first | exact ⟨by decide +kernel⟩ | (exfalso; revert ‹_ = false›; decide +kernel) | (refine Leaf.mk ?_; simp_all; done)

end Go.Proofs.Ythbighklfajmdaa
