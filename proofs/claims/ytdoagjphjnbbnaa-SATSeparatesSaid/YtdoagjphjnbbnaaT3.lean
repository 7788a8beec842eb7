/- Contracts of package caromlaw14: the example. -/
import Derived.Test.YtdoagjphjnbbnaaT2
import Derived.Test.YtdoagjphjnbbnaaEvL
namespace Go.Proofs.Ytdoagjphjnbbnaa
open Go.RowKit Fx Vx Bx Ev
set_option linter.unusedVariables false
set_option linter.unusedSimpArgs false


def sq (x : Int) : List (List Int) := [[x, 0], [x + 65536, 0], [x + 65536, 65536], [x, 65536]]
theorem tkL (xs : List (List Int)) : List.take xs.length xs = xs := List.take_length
theorem len_px : len 65536 0 = 65536 := by unfold len; exact isq_lit (by decide) (by decide) (by decide) (by decide) (by decide)
theorem len_nx : len (-65536) 0 = 65536 := by unfold len; exact isq_lit (by decide) (by decide) (by decide) (by decide) (by decide)
theorem len_py : len 0 65536 = 65536 := by unfold len; exact isq_lit (by decide) (by decide) (by decide) (by decide) (by decide)
theorem len_ny : len 0 (-65536) = 65536 := by unfold len; exact isq_lit (by decide) (by decide) (by decide) (by decide) (by decide)
theorem norm_of {a b x : Int} (h : len a b = 65536) : norm a b x = sat x := by unfold norm; rw [h, if_neg (by decide), dv_one]
theorem en_of {xs : List (List Int)} {i : Int} {a b c d : Int} (ho : okE xs i = true) (h0 : edgC xs i 0 = a) (h1 : edgC xs i 1 = b) (hl : len b (-a) = 65536) (hc : sat b = c) (hd : sat (-a) = d) : enX xs i = c ∧ enY xs i = d := by
  unfold enX enY; rw [if_pos ho, if_pos ho, h0, h1, norm_of hl, norm_of hl]; exact ⟨hc, hd⟩
theorem ed_of {xs : List (List Int)} {i : Int} {a b c d : Int} (ho : okE xs i = true) (h0 : edgC xs i 0 = a) (h1 : edgC xs i 1 = b) (hl : len a b = 65536) (hc : sat a = c) (hd : sat b = d) : edX xs i = c ∧ edY xs i = d := by
  unfold edX edY; rw [if_pos ho, if_pos ho, h0, h1, norm_of hl, norm_of hl]; exact ⟨hc, hd⟩
theorem sq_n0 : enX (sq 0) 0 = 0 ∧ enY (sq 0) 0 = -65536 := en_of (a := 65536) (b := 0) (by decide) (by decide) (by decide) len_ny (by decide) (by decide)
theorem sq_n1 : enX (sq 0) 1 = 65536 ∧ enY (sq 0) 1 = 0 := en_of (a := 0) (b := 65536) (by decide) (by decide) (by decide) len_px (by decide) (by decide)
theorem sq_n2 : enX (sq 0) 2 = 0 ∧ enY (sq 0) 2 = 65536 := en_of (a := -65536) (b := 0) (by decide) (by decide) (by decide) (by rw [Int.neg_neg]; exact len_py) (by decide) (by decide)
theorem sq_n3 : enX (sq 0) 3 = -65536 ∧ enY (sq 0) 3 = 0 := en_of (a := 0) (b := -65536) (by decide) (by decide) (by decide) len_nx (by decide) (by decide)
theorem sq_d1 : edX (sq 0) 1 = 0 ∧ edY (sq 0) 1 = 65536 := ed_of (a := 0) (b := 65536) (by decide) (by decide) (by decide) len_py (by decide) (by decide)
theorem sq_s0 : sepE (sq 0) (sq 131072) 0 = -65536 := by show sepN (enX (sq 0) 0) (enY (sq 0) 0) _ _ _ _ = _; rw [sq_n0.1, sq_n0.2]; decide +kernel
theorem sq_s1 : sepE (sq 0) (sq 131072) 1 = 65536 := by show sepN (enX (sq 0) 1) (enY (sq 0) 1) _ _ _ _ = _; rw [sq_n1.1, sq_n1.2]; decide +kernel
theorem sq_s2 : sepE (sq 0) (sq 131072) 2 = -65536 := by show sepN (enX (sq 0) 2) (enY (sq 0) 2) _ _ _ _ = _; rw [sq_n2.1, sq_n2.2]; decide +kernel
theorem sq_s3 : sepE (sq 0) (sq 131072) 3 = -196608 := by show sepN (enX (sq 0) 3) (enY (sq 0) 3) _ _ _ _ = _; rw [sq_n3.1, sq_n3.2]; decide +kernel
theorem sq_ms : msP (sq 0) (sq 131072) = (1, 65536) := by
  unfold msP; rw [if_neg (by decide)]; show maxN _ 4 = _; simp [maxN, sq_s0, sq_s1, sq_s2, sq_s3]
theorem sq_ie : ieP (sq 0) 65536 0 = 3 := by
  have h0 : incD (sq 0) 65536 0 0 = 0 := by show dot (enX (sq 0) 0) (enY (sq 0) 0) _ _ = _; rw [sq_n0.1, sq_n0.2]; decide +kernel
  have h1 : incD (sq 0) 65536 0 1 = 65536 := by show dot (enX (sq 0) 1) (enY (sq 0) 1) _ _ = _; rw [sq_n1.1, sq_n1.2]; decide +kernel
  have h2 : incD (sq 0) 65536 0 2 = 0 := by show dot (enX (sq 0) 2) (enY (sq 0) 2) _ _ = _; rw [sq_n2.1, sq_n2.2]; decide +kernel
  have h3 : incD (sq 0) 65536 0 3 = -65536 := by show dot (enX (sq 0) 3) (enY (sq 0) 3) _ _ = _; rw [sq_n3.1, sq_n3.2]; decide +kernel
  unfold ieP; rw [if_neg (by decide)]; show (minN _ 4).1 = _; simp [minN, h0, h1, h2, h3]

def c_law14_square : Con := ⟨43, genRun [.num 0] (fun l R => match l, R with | [x], [] => [-1000000000 ≤ x, x ≤ 1000000000] | _, _ => [False]) fun l R => match l, R with
  | [x], [] => [.rows false 2 (sq x)]
  | _, _ => []⟩
set_option maxRecDepth 100000 in
set_option maxHeartbeats 4000000 in
theorem con_law14_square : c_law14_square.Ok Try.prog := by
  refine con_gen (C := []) (pl := []) Try.func43 rfl (by kernel_rfl) T_ok (Cons.nil _) mixed (by kernel_rfl) _ _ _ (fun l R hl hR hn hpre => ?_)
  match l, hl, R, hR with
  | [x], zl, [], zr =>
    clear zl zr
    have hp0 := hpre _ (List.Mem.head _); try dsimp only at hp0
    have hp1 := hpre _ (List.Mem.tail _ (List.Mem.head _)); try dsimp only at hp1
    repeat' (first | (with_reducible refine And.intro ?_ ?_) | (with_reducible intro h) | ((fail_if_success (with_reducible refine Leaf.mk ?_)); (fail_if_success (with_reducible refine VC.mk ?_)); (fail_if_success (with_reducible refine Goes.mk ?_)); (fail_if_success (with_reducible refine Again.mk ?_)); (fail_if_success (with_reducible refine Rounds.mk ?_)); (fail_if_success (with_reducible show False)); (fail_if_success (with_reducible show True)); conv => whnf))
    all_goals first | exact trivial | (refine VC.mk ?_; first | rfl | (simp only [InR]; omega) | (simp; done)) | (refine Leaf.mk ?_; first | rfl | (simp [sq]; done))
def c_law14_example : Con := ⟨15, pureRun [] (fun _ => []) fun | [] => .bool true | _ => .any⟩
set_option maxRecDepth 100000 in
set_option maxHeartbeats 1000000 in
theorem con_law14_example : c_law14_example.Ok Try.prog := by
  refine con_pure (C := [c_sat_MaxSeparation, c_sat_EdgeNormal, c_sat_EdgeDirection, c_sat_IncidentEdge, c_law14_square]) (pl := []) Try.func15 rfl (by kernel_rfl) T_ok (Cons.cons con_sat_MaxSeparation (Cons.cons con_sat_EdgeNormal (Cons.cons con_sat_EdgeDirection (Cons.cons con_sat_IncidentEdge (Cons.cons con_law14_square (Cons.nil _)))))) mixed (by kernel_rfl) _ _ _ (fun l hl hpre => ?_)
  match l, hl with
  | [], _ =>
    repeat' (first | (with_reducible refine And.intro ?_ ?_) | (with_reducible intro h) | ((fail_if_success (with_reducible refine Leaf.mk ?_)); (fail_if_success (with_reducible refine VC.mk ?_)); (fail_if_success (with_reducible refine Goes.mk ?_)); (fail_if_success (with_reducible refine Again.mk ?_)); (fail_if_success (with_reducible refine Rounds.mk ?_)); (fail_if_success (with_reducible show False)); (fail_if_success (with_reducible show True)); conv => whnf))
    all_goals try simp only [tkL, sq_ms, sq_n1.1, sq_n1.2, sq_d1.1, sq_d1.2, sq_ie] at *
    all_goals try exact trivial
    all_goals try (refine VC.mk ?_; first | decide | (simp [sq]; done))
    all_goals (refine Leaf.mk ?_; simp_all)

end Go.Proofs.Ytdoagjphjnbbnaa
