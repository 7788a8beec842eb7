/- Contracts of package constraint and of caromref28: what makes new slices. -/
import Derived.Test.YtapbegcmdiemoaaD1
namespace Go.Proofs.Ytapbegcmdiemoaa
open Go.RowKit Fx Vx Ev
set_option linter.unusedVariables false
set_option linter.unusedSimpArgs false


def wf (e : Nat) (xs : List (List Int)) : Prop := ∀ x ∈ xs, x.length = e
theorem wf_get {e : Nat} {xs : List (List Int)} (h : wf e xs) {k : Nat} (hk : k < xs.length) : (xs.getD k []).length = e := by
  rw [List.getD_eq_getElem?_getD, List.getElem?_eq_getElem hk, Option.getD_some]
  exact h _ (List.getElem_mem hk)
theorem wf_set {e : Nat} {xs : List (List Int)} (h : wf e xs) (k : Nat) {r : List Int} (hr : r.length = e) : wf e (xs.set k r) := fun x hx => by
  rcases List.mem_or_eq_of_mem_set hx with hx | rfl
  · exact h x hx
  · exact hr
theorem at2_set {xs : List (List Int)} {k : Nat} (hk : k < xs.length) (r : List Int) (j : Nat) : at2 (xs.set k r) k j = r.getD j 0 := by
  simp [at2, hk]
theorem row5 {xs : List (List Int)} (h : wf 5 xs) {k : Nat} (hk : k < xs.length) : xs.getD k [] = [at2 xs k 0, at2 xs k 1, at2 xs k 2, at2 xs k 3, at2 xs k 4] := by
  have hl := wf_get h hk
  simp only [at2]
  match xs.getD k [], hl with
  | [a, b, c, d, e], _ => rfl
theorem upd_v {xs : List (List Int)} (h : wf 5 xs) {k : Nat} (hk : k < xs.length) (a b : Int) : upd2 xs k 0 [a, b] = xs.set k [a, b, at2 xs k 2, at2 xs k 3, at2 xs k 4] := by
  unfold upd2; rw [row5 h hk]; rfl
theorem upd_w {xs : List (List Int)} {k : Nat} (hk : k < xs.length) (a b c d e f : Int) : upd2 (xs.set k [a, b, c, d, e]) k 2 [f] = xs.set k [a, b, f, d, e] := by
  unfold upd2
  rw [List.getD_eq_getElem?_getD, List.getElem?_set_self hk, Option.getD_some, List.set_set]; rfl
theorem upd_all {xs : List (List Int)} (h : wf 5 xs) {k : Nat} (hk : k < xs.length) (a b c d e : Int) : upd2 xs k 0 [a, b, c, d, e] = xs.set k [a, b, c, d, e] := by
  unfold upd2; rw [row5 h hk]; rfl
/-- A body behind an impulse along a row, at its end A, at its end B. -/
def rowA (xs : List (List Int)) (k : Nat) (nx ny aa d : Int) : List Int := [sub (at2 xs k 0) (mul nx (mul d (at2 xs k 3))), sub (at2 xs k 1) (mul ny (mul d (at2 xs k 3))), sub (at2 xs k 2) (mul (mul d aa) (at2 xs k 4)), at2 xs k 3, at2 xs k 4]
def rowB (xs : List (List Int)) (k : Nat) (nx ny ab d : Int) : List Int := [add (at2 xs k 0) (mul nx (mul d (at2 xs k 3))), add (at2 xs k 1) (mul ny (mul d (at2 xs k 3))), add (at2 xs k 2) (mul (mul d ab) (at2 xs k 4)), at2 xs k 3, at2 xs k 4]
def apA (xs : List (List Int)) (ra nx ny aa d : Int) : List (List Int) := if 0 ≤ ra ∧ ra < xs.length then xs.set ra.toNat (rowA xs ra.toNat nx ny aa d) else xs
def apB (xs : List (List Int)) (rb nx ny ab d : Int) : List (List Int) := if 0 ≤ rb ∧ rb < xs.length then xs.set rb.toNat (rowB xs rb.toNat nx ny ab d) else xs
def ap (xs : List (List Int)) (ra rb nx ny aa ab d : Int) : List (List Int) := apB (apA xs ra nx ny aa d) rb nx ny ab d
theorem apA_len (xs : List (List Int)) (ra nx ny aa d : Int) : (apA xs ra nx ny aa d).length = xs.length := by unfold apA; split <;> simp
theorem apB_len (xs : List (List Int)) (rb nx ny ab d : Int) : (apB xs rb nx ny ab d).length = xs.length := by unfold apB; split <;> simp
theorem ap_len (xs : List (List Int)) (ra rb nx ny aa ab d : Int) : (ap xs ra rb nx ny aa ab d).length = xs.length := by unfold ap; rw [apB_len, apA_len]
theorem apA_wf {xs : List (List Int)} (h : wf 5 xs) (ra nx ny aa d : Int) : wf 5 (apA xs ra nx ny aa d) := by
  unfold apA; split
  · exact wf_set h _ rfl
  · exact h
theorem apB_wf {xs : List (List Int)} (h : wf 5 xs) (rb nx ny ab d : Int) : wf 5 (apB xs rb nx ny ab d) := by
  unfold apB; split
  · exact wf_set h _ rfl
  · exact h
theorem ap_wf {xs : List (List Int)} (h : wf 5 xs) (ra rb nx ny aa ab d : Int) : wf 5 (ap xs ra rb nx ny aa ab d) := apB_wf (apA_wf h _ _ _ _ _) _ _ _ _ _
theorem setInts_len : ∀ (vs : List Int) (l : List Int) (j : Nat), (setInts l j vs).length = l.length
  | [], l, j => rfl
  | v :: vs, l, j => by simp only [setInts, setInts_len vs, List.length_set]
theorem upd2_len (xs : List (List Int)) (i j : Nat) (vs : List Int) : (upd2 xs i j vs).length = xs.length := by simp [upd2]
theorem upd2_wf {e : Nat} {xs : List (List Int)} (h : wf e xs) (i j : Nat) (vs : List Int) : wf e (upd2 xs i j vs) := by
  by_cases hi : i < xs.length
  · exact wf_set h _ (by rw [setInts_len]; exact wf_get h hi)
  · unfold upd2
    rw [List.set_eq_of_length_le (by omega)]
    exact h
theorem apA_in {xs : List (List Int)} {ra : Int} (h0 : 0 ≤ ra) (h1 : ra < xs.length) (nx ny aa d : Int) : apA xs ra nx ny aa d = xs.set ra.toNat (rowA xs ra.toNat nx ny aa d) := if_pos ⟨h0, h1⟩
theorem apA_out {xs : List (List Int)} {ra : Int} (h : ra < 0 ∨ (xs.length : Int) ≤ ra) (nx ny aa d : Int) : apA xs ra nx ny aa d = xs := if_neg (by omega)
theorem apB_in {xs : List (List Int)} {rb : Int} (h0 : 0 ≤ rb) (h1 : rb < xs.length) (nx ny ab d : Int) : apB xs rb nx ny ab d = xs.set rb.toNat (rowB xs rb.toNat nx ny ab d) := if_pos ⟨h0, h1⟩
theorem apB_out {xs : List (List Int)} {rb : Int} (h : rb < 0 ∨ (xs.length : Int) ≤ rb) (nx ny ab d : Int) : apB xs rb nx ny ab d = xs := if_neg (by omega)
theorem upd_A {xs : List (List Int)} (h : wf 5 xs) {ra : Int} (h0 : 0 ≤ ra) (h1 : ra < xs.length) (nx ny aa d : Int) :
    upd2 (upd2 xs ra.toNat 0 [sub (at2 xs ra.toNat 0) (mul nx (mul d (at2 xs ra.toNat 3))), sub (at2 xs ra.toNat 1) (mul ny (mul d (at2 xs ra.toNat 3)))]) ra.toNat 2 [sub (at2 (upd2 xs ra.toNat 0 [sub (at2 xs ra.toNat 0) (mul nx (mul d (at2 xs ra.toNat 3))), sub (at2 xs ra.toNat 1) (mul ny (mul d (at2 xs ra.toNat 3)))]) ra.toNat 2) (mul (mul d aa) (at2 (upd2 xs ra.toNat 0 [sub (at2 xs ra.toNat 0) (mul nx (mul d (at2 xs ra.toNat 3))), sub (at2 xs ra.toNat 1) (mul ny (mul d (at2 xs ra.toNat 3)))]) ra.toNat 4))] = apA xs ra nx ny aa d := by
  have hk : ra.toNat < xs.length := by omega
  rw [apA_in h0 h1]
  simp only [upd_v h hk, upd_w hk, at2_set hk]
  rfl
theorem upd_B {xs : List (List Int)} (h : wf 5 xs) {rb : Int} (h0 : 0 ≤ rb) (h1 : rb < xs.length) (nx ny ab d : Int) :
    upd2 (upd2 xs rb.toNat 0 [add (at2 xs rb.toNat 0) (mul nx (mul d (at2 xs rb.toNat 3))), add (at2 xs rb.toNat 1) (mul ny (mul d (at2 xs rb.toNat 3)))]) rb.toNat 2 [add (at2 (upd2 xs rb.toNat 0 [add (at2 xs rb.toNat 0) (mul nx (mul d (at2 xs rb.toNat 3))), add (at2 xs rb.toNat 1) (mul ny (mul d (at2 xs rb.toNat 3)))]) rb.toNat 2) (mul (mul d ab) (at2 (upd2 xs rb.toNat 0 [add (at2 xs rb.toNat 0) (mul nx (mul d (at2 xs rb.toNat 3))), add (at2 xs rb.toNat 1) (mul ny (mul d (at2 xs rb.toNat 3)))]) rb.toNat 4))] = apB xs rb nx ny ab d := by
  have hk : rb.toNat < xs.length := by omega
  rw [apB_in h0 h1]
  simp only [upd_v h hk, upd_w hk, at2_set hk]
  rfl
theorem set_A {xs : List (List Int)} (h : wf 5 xs) {ra : Int} (h0 : 0 ≤ ra) (h1 : ra < xs.length) (nx ny aa d : Int) :
    upd2 xs ra.toNat 0 [sub (at2 xs ra.toNat 0) (mul nx (mul d (at2 xs ra.toNat 3))), sub (at2 xs ra.toNat 1) (mul ny (mul d (at2 xs ra.toNat 3))), sub (at2 xs ra.toNat 2) (mul (mul d aa) (at2 xs ra.toNat 4)), at2 xs ra.toNat 3, at2 xs ra.toNat 4] = apA xs ra nx ny aa d := by
  rw [apA_in h0 h1, upd_all h (by omega)]; rfl
theorem set_B {xs : List (List Int)} (h : wf 5 xs) {rb : Int} (h0 : 0 ≤ rb) (h1 : rb < xs.length) (nx ny ab d : Int) :
    upd2 xs rb.toNat 0 [add (at2 xs rb.toNat 0) (mul nx (mul d (at2 xs rb.toNat 3))), add (at2 xs rb.toNat 1) (mul ny (mul d (at2 xs rb.toNat 3))), add (at2 xs rb.toNat 2) (mul (mul d ab) (at2 xs rb.toNat 4)), at2 xs rb.toNat 3, at2 xs rb.toNat 4] = apB xs rb nx ny ab d := by
  rw [apB_in h0 h1, upd_all h (by omega)]; rfl
/-- The impulse of row i behind an update, and what is left of rows and bodies. -/
def rvO (xs ys : List (List Int)) (i : Nat) : Int := relV ys (at2 xs i 0) (at2 xs i 1) (at2 xs i 2) (at2 xs i 3) (at2 xs i 4) (at2 xs i 5)
def impT (xs ys : List (List Int)) (i : Int) : Int := clamp (sub (at2 xs i.toNat 11) (mul (at2 xs i.toNat 6) (add (add (rvO xs ys i.toNat) (at2 xs i.toNat 7)) (mul (at2 xs i.toNat 10) (at2 xs i.toNat 11))))) (bdL xs i) (bdU xs i)
def solR (xs : List (List Int)) (i : Int) (ys : List (List Int)) : List (List Int) := if 0 ≤ i ∧ i < xs.length then upd2 xs i.toNat 11 [impT xs ys i] else xs
def solB (xs : List (List Int)) (i : Int) (ys : List (List Int)) : List (List Int) := if 0 ≤ i ∧ i < xs.length then ap ys (at2 xs i.toNat 0) (at2 xs i.toNat 1) (at2 xs i.toNat 2) (at2 xs i.toNat 3) (at2 xs i.toNat 4) (at2 xs i.toNat 5) (sub (impT xs ys i) (at2 xs i.toNat 11)) else ys
theorem at2_11 {xs : List (List Int)} (h : wf 14 xs) {k : Nat} (hk : k < xs.length) (t : Int) : at2 (upd2 xs k 11 [t]) k 11 = t := by
  have hl := wf_get h hk
  unfold upd2; rw [at2_set hk]
  simp only [setInts]
  rw [List.getD_eq_getElem?_getD, List.getElem?_set_self (by omega), Option.getD_some]
theorem at2_not11 {xs : List (List Int)} {k : Nat} (hk : k < xs.length) (t : Int) {j : Nat} (hj : j ≠ 11) : at2 (upd2 xs k 11 [t]) k j = at2 xs k j := by
  unfold upd2; rw [at2_set hk]
  simp only [setInts, at2]
  rw [List.getD_eq_getElem?_getD, List.getElem?_set_ne (by omega), ← List.getD_eq_getElem?_getD]
theorem solR_in {xs : List (List Int)} {i : Int} (h0 : 0 ≤ i) (h1 : i < xs.length) (ys : List (List Int)) : solR xs i ys = upd2 xs i.toNat 11 [impT xs ys i] := if_pos ⟨h0, h1⟩
theorem solR_out {xs : List (List Int)} {i : Int} (h : i < 0 ∨ (xs.length : Int) ≤ i) (ys : List (List Int)) : solR xs i ys = xs := if_neg (by omega)
theorem solB_in {xs : List (List Int)} {i : Int} (h0 : 0 ≤ i) (h1 : i < xs.length) (ys : List (List Int)) : solB xs i ys = ap ys (at2 xs i.toNat 0) (at2 xs i.toNat 1) (at2 xs i.toNat 2) (at2 xs i.toNat 3) (at2 xs i.toNat 4) (at2 xs i.toNat 5) (sub (impT xs ys i) (at2 xs i.toNat 11)) := if_pos ⟨h0, h1⟩
theorem solB_out {xs : List (List Int)} {i : Int} (h : i < 0 ∨ (xs.length : Int) ≤ i) (ys : List (List Int)) : solB xs i ys = ys := if_neg (by omega)

def c_clone_Row : Con := ⟨49, genRun [.rows 14] (fun l R => match l, R with | [], [(bxs, xs)] => [xs.length ≤ 100000] | _, _ => [False]) fun l R => match l, R with
  | [], [(bxs, xs)] => [.rows bxs 14 xs]
  | _, _ => []⟩
set_option maxRecDepth 100000 in
set_option maxHeartbeats 4000000 in
theorem con_clone_Row : c_clone_Row.Ok Try.prog := by
  refine con_gen (C := []) (pl := []) Try.func49 rfl (by kernel_rfl) T_ok (Cons.nil _) mixed (by kernel_rfl) _ _ _ (fun l R hl hR hn hpre => ?_)
  match l, hl, R, hR with
  | [], zl, [(true, xs)], zr =>
    clear zl zr
    obtain rfl : xs = [] := hn _ (List.Mem.head _) rfl
    have hp0 := hpre _ (List.Mem.head _); try dsimp only at hp0
    repeat' (first | (with_reducible refine And.intro ?_ ?_) | (with_reducible intro h) | ((fail_if_success (with_reducible refine Leaf.mk ?_)); (fail_if_success (with_reducible refine VC.mk ?_)); (fail_if_success (with_reducible refine Goes.mk ?_)); (fail_if_success (with_reducible refine Again.mk ?_)); (fail_if_success (with_reducible refine Rounds.mk ?_)); (fail_if_success (with_reducible show False)); (fail_if_success (with_reducible show True)); conv => whnf))
    all_goals try simp only [decide_eq_true_eq, decide_eq_false_iff_not, tkA, tkL, Nat.zero_add, Nat.reduceAdd, Int.toNat_natCast, List.take_nil, List.nil_append] at *
    all_goals try first | exact trivial | (show False; omega) | exact Leaf.mk trivial | exact Leaf.mk rfl | (refine VC.mk ?_; first | trivial | assumption | ((try simp only [InR, decide_eq_true_eq, decide_eq_false_iff_not] at *); omega) | (simp; done))
    all_goals (refine Leaf.mk ?_; first | rfl | (simp; done))
  | [], zl, [(false, xs)], zr =>
    clear zl zr
    have hp0 := hpre _ (List.Mem.head _); try dsimp only at hp0
    repeat' (first | (with_reducible refine And.intro ?_ ?_) | (with_reducible intro h) | ((fail_if_success (with_reducible refine Leaf.mk ?_)); (fail_if_success (with_reducible refine VC.mk ?_)); (fail_if_success (with_reducible refine Goes.mk ?_)); (fail_if_success (with_reducible refine Again.mk ?_)); (fail_if_success (with_reducible refine Rounds.mk ?_)); (fail_if_success (with_reducible show False)); (fail_if_success (with_reducible show True)); conv => whnf))
    all_goals try simp only [decide_eq_true_eq, decide_eq_false_iff_not, tkA, tkL, Nat.zero_add, Nat.reduceAdd, Int.toNat_natCast, List.take_nil, List.nil_append] at *
    all_goals try first | exact trivial | (show False; omega) | exact Leaf.mk trivial | exact Leaf.mk rfl | (refine VC.mk ?_; first | trivial | assumption | ((try simp only [InR, decide_eq_true_eq, decide_eq_false_iff_not] at *); omega) | (simp; done))
    all_goals (refine Leaf.mk ?_; first | rfl | (simp; done))
def c_clone_SolverBody : Con := ⟨50, genRun [.rows 5] (fun l R => match l, R with | [], [(bxs, xs)] => [xs.length ≤ 100000] | _, _ => [False]) fun l R => match l, R with
  | [], [(bxs, xs)] => [.rows bxs 5 xs]
  | _, _ => []⟩
set_option maxRecDepth 100000 in
set_option maxHeartbeats 4000000 in
theorem con_clone_SolverBody : c_clone_SolverBody.Ok Try.prog := by
  refine con_gen (C := []) (pl := []) Try.func50 rfl (by kernel_rfl) T_ok (Cons.nil _) mixed (by kernel_rfl) _ _ _ (fun l R hl hR hn hpre => ?_)
  match l, hl, R, hR with
  | [], zl, [(true, xs)], zr =>
    clear zl zr
    obtain rfl : xs = [] := hn _ (List.Mem.head _) rfl
    have hp0 := hpre _ (List.Mem.head _); try dsimp only at hp0
    repeat' (first | (with_reducible refine And.intro ?_ ?_) | (with_reducible intro h) | ((fail_if_success (with_reducible refine Leaf.mk ?_)); (fail_if_success (with_reducible refine VC.mk ?_)); (fail_if_success (with_reducible refine Goes.mk ?_)); (fail_if_success (with_reducible refine Again.mk ?_)); (fail_if_success (with_reducible refine Rounds.mk ?_)); (fail_if_success (with_reducible show False)); (fail_if_success (with_reducible show True)); conv => whnf))
    all_goals try simp only [decide_eq_true_eq, decide_eq_false_iff_not, tkA, tkL, Nat.zero_add, Nat.reduceAdd, Int.toNat_natCast, List.take_nil, List.nil_append] at *
    all_goals try first | exact trivial | (show False; omega) | exact Leaf.mk trivial | exact Leaf.mk rfl | (refine VC.mk ?_; first | trivial | assumption | ((try simp only [InR, decide_eq_true_eq, decide_eq_false_iff_not] at *); omega) | (simp; done))
    all_goals (refine Leaf.mk ?_; first | rfl | (simp; done))
  | [], zl, [(false, xs)], zr =>
    clear zl zr
    have hp0 := hpre _ (List.Mem.head _); try dsimp only at hp0
    repeat' (first | (with_reducible refine And.intro ?_ ?_) | (with_reducible intro h) | ((fail_if_success (with_reducible refine Leaf.mk ?_)); (fail_if_success (with_reducible refine VC.mk ?_)); (fail_if_success (with_reducible refine Goes.mk ?_)); (fail_if_success (with_reducible refine Again.mk ?_)); (fail_if_success (with_reducible refine Rounds.mk ?_)); (fail_if_success (with_reducible show False)); (fail_if_success (with_reducible show True)); conv => whnf))
    all_goals try simp only [decide_eq_true_eq, decide_eq_false_iff_not, tkA, tkL, Nat.zero_add, Nat.reduceAdd, Int.toNat_natCast, List.take_nil, List.nil_append] at *
    all_goals try first | exact trivial | (show False; omega) | exact Leaf.mk trivial | exact Leaf.mk rfl | (refine VC.mk ?_; first | trivial | assumption | ((try simp only [InR, decide_eq_true_eq, decide_eq_false_iff_not] at *); omega) | (simp; done))
    all_goals (refine Leaf.mk ?_; first | rfl | (simp; done))
def c_constraint_ApplyImpulse : Con := ⟨23, genRun [.num 14, .rows 5, .num 0] (fun l R => match l, R with | [ra, rb, nx, ny, aa, ab, em, bi, lo, up, so, im, fo, fr, d], [(bxs, xs)] => [xs.length ≤ 100000, wf 5 xs] | _, _ => [False]) fun l R => match l, R with
  | [ra, rb, nx, ny, aa, ab, em, bi, lo, up, so, im, fo, fr, d], [(bxs, xs)] => [.rows bxs 5 (ap xs ra rb nx ny aa ab d)]
  | _, _ => []⟩
set_option maxRecDepth 100000 in
set_option maxHeartbeats 4000000 in
theorem con_constraint_ApplyImpulse : c_constraint_ApplyImpulse.Ok Try.prog := by
  refine con_gen (C := [c_clone_SolverBody, c_fixed_Mul, c_vec2_Scale, c_vec2_Sub, c_fixed_Sub, c_vec2_Add, c_fixed_Add]) (pl := [(4, [0, 1, 2, 3, 4, 5, 6, 7, 8, 9, 10, 11, 12, 13, 14, 15, 16, 17], [0, 0, 2, 6, 14, 0, 32, 0, 0, 256, 768, 1792, 3968, 8160, 16382, 32767, 65535, 131071]), (5, [0, 1, 2, 3, 4, 5, 6, 7, 8, 9, 10, 11, 12, 13, 14, 15, 16, 17], [0, 0, 2, 6, 14, 0, 0, 64, 224, 0, 512, 1536, 3584, 8160, 16382, 32767, 65535, 131071]), (8, [0, 1, 2, 3, 4, 5, 6, 7, 8, 9, 10, 11, 12, 13, 14, 15, 16, 17], [0, 0, 2, 6, 14, 0, 32, 0, 0, 256, 768, 1792, 3968, 8160, 16382, 32767, 65535, 131071]), (9, [0, 1, 2, 3, 4, 5, 6, 7, 8, 9, 10, 11, 12, 13, 14, 15, 16, 17], [0, 0, 2, 6, 14, 0, 0, 64, 224, 0, 512, 1536, 3584, 8160, 16382, 32767, 65535, 131071])]) Try.func23 rfl (by kernel_rfl) T_ok (Cons.cons con_clone_SolverBody (Cons.cons con_fixed_Mul (Cons.cons con_vec2_Scale (Cons.cons con_vec2_Sub (Cons.cons con_fixed_Sub (Cons.cons con_vec2_Add (Cons.cons con_fixed_Add (Cons.nil _)))))))) mixed (by kernel_rfl) _ _ _ (fun l R hl hR hn hpre => ?_)
  match l, hl, R, hR with
  | [ra, rb, nx, ny, aa, ab, em, bi, lo, up, so, im, fo, fr, d], zl, [(true, xs)], zr =>
    clear zl zr
    obtain rfl : xs = [] := hn _ (List.Mem.head _) rfl
    have hp0 := hpre _ (List.Mem.head _); try dsimp only at hp0
    have hp1 := hpre _ (List.Mem.tail _ (List.Mem.head _)); try dsimp only at hp1
    repeat' (first | (with_reducible refine And.intro ?_ ?_) | (with_reducible intro h) | ((fail_if_success (with_reducible refine Leaf.mk ?_)); (fail_if_success (with_reducible refine VC.mk ?_)); (fail_if_success (with_reducible refine Goes.mk ?_)); (fail_if_success (with_reducible refine Again.mk ?_)); (fail_if_success (with_reducible refine Rounds.mk ?_)); (fail_if_success (with_reducible show False)); (fail_if_success (with_reducible show True)); conv => whnf))
    all_goals try simp only [decide_eq_true_eq, decide_eq_false_iff_not, tkA, tkL, Nat.zero_add, Nat.reduceAdd, Int.toNat_natCast, List.take_nil, List.nil_append] at *
    all_goals try first | exact trivial | (show False; omega) | exact Leaf.mk trivial | exact Leaf.mk rfl | (refine VC.mk ?_; first | trivial | assumption | ((try simp only [InR, decide_eq_true_eq, decide_eq_false_iff_not] at *); omega) | (simp; done))
    all_goals first | (exfalso; simp only [List.length_nil, Int.natCast_zero, Int.ofNat_zero] at *; omega) | (exfalso; simp at *; omega) | (refine Leaf.mk ?_; simp [ap, apA, apB]; done) | (refine Leaf.mk ?_; simp only [ap, apA, apB, List.length_nil]; rw [if_neg (by omega), if_neg (by omega)]; rfl)
  | [ra, rb, nx, ny, aa, ab, em, bi, lo, up, so, im, fo, fr, d], zl, [(false, xs)], zr =>
    clear zl zr
    have hp0 := hpre _ (List.Mem.head _); try dsimp only at hp0
    have hp1 := hpre _ (List.Mem.tail _ (List.Mem.head _)); try dsimp only at hp1
    repeat' (first | (with_reducible refine And.intro ?_ ?_) | (with_reducible intro h) | ((fail_if_success (with_reducible refine Leaf.mk ?_)); (fail_if_success (with_reducible refine VC.mk ?_)); (fail_if_success (with_reducible refine Goes.mk ?_)); (fail_if_success (with_reducible refine Again.mk ?_)); (fail_if_success (with_reducible refine Rounds.mk ?_)); (fail_if_success (with_reducible show False)); (fail_if_success (with_reducible show True)); conv => whnf))
    all_goals try simp only [decide_eq_true_eq, decide_eq_false_iff_not, tkA, tkL, Nat.zero_add, Nat.reduceAdd, Int.toNat_natCast, List.take_nil, List.nil_append] at *
    all_goals try first | exact trivial | (show False; omega) | exact Leaf.mk trivial | exact Leaf.mk rfl | (refine VC.mk ?_; first | trivial | assumption | ((try simp only [InR, decide_eq_true_eq, decide_eq_false_iff_not] at *); omega) | (simp; done))
    all_goals try (refine VC.mk ?_; first | (simp only [upd2_len]; omega) | exact wf_get (by repeat (first | assumption | apply upd2_wf)) (by (try simp only [upd2_len]); omega) | (simp only [upd2_len] at *; omega))
    all_goals try (refine Leaf.mk ?_; try rw [List.take_of_length_le (by simp only [upd2_len]; omega)])
    all_goals first
      | (rw [upd_A hp1 (ra := ra) (by omega) (by omega), upd_B (apA_wf hp1 ra nx ny aa d) (rb := rb) (by omega) (by rw [apA_len]; omega)]; rfl)
      | (unfold ap; rw [upd_A hp1 (ra := ra) (by omega) (by omega), apB_out (by rw [apA_len]; omega)]; done)
      | (unfold ap; rw [apA_out (ra := ra) (by omega), upd_B hp1 (rb := rb) (by omega) (by omega)]; done)
      | (unfold ap; rw [apA_out (ra := ra) (by omega), apB_out (rb := rb) (by omega)]; done)
      | rfl
def c_ref28_ApplyImpulse : Con := ⟨24, genRun [.num 14, .rows 5, .num 0] (fun l R => match l, R with | [ra, rb, nx, ny, aa, ab, em, bi, lo, up, so, im, fo, fr, d], [(bxs, xs)] => [xs.length ≤ 100000, wf 5 xs] | _, _ => [False]) fun l R => match l, R with
  | [ra, rb, nx, ny, aa, ab, em, bi, lo, up, so, im, fo, fr, d], [(bxs, xs)] => [.rows false 5 (ap xs ra rb nx ny aa ab d)]
  | _, _ => []⟩
set_option maxRecDepth 100000 in
set_option maxHeartbeats 4000000 in
theorem con_ref28_ApplyImpulse : c_ref28_ApplyImpulse.Ok Try.prog := by
  refine con_gen (C := [c_ref01_Mul, c_ref03_Scale, c_ref03_Sub, c_ref01_Sub, c_ref03_Add, c_ref01_Add]) (pl := [(4, [0, 1, 2, 3, 4, 5, 6, 7, 8, 9, 10, 11], [0, 1, 0, 4, 0, 0, 32, 112, 252, 511, 1023, 2047]), (5, [0, 1, 2, 3, 4, 5, 6, 7, 8, 9, 10, 11], [0, 1, 0, 0, 8, 28, 0, 64, 252, 511, 1023, 2047]), (9, [0, 1, 2, 3, 4, 5, 6, 7, 8, 9, 10, 11], [0, 1, 0, 4, 0, 0, 32, 112, 252, 511, 1023, 2047]), (10, [0, 1, 2, 3, 4, 5, 6, 7, 8, 9, 10, 11], [0, 1, 0, 0, 8, 28, 0, 64, 252, 511, 1023, 2047])]) Try.func24 rfl (by kernel_rfl) T_ok (Cons.cons con_ref01_Mul (Cons.cons con_ref03_Scale (Cons.cons con_ref03_Sub (Cons.cons con_ref01_Sub (Cons.cons con_ref03_Add (Cons.cons con_ref01_Add (Cons.nil _))))))) mixed (by kernel_rfl) _ _ _ (fun l R hl hR hn hpre => ?_)
  match l, hl, R, hR with
  | [ra, rb, nx, ny, aa, ab, em, bi, lo, up, so, im, fo, fr, d], zl, [(true, xs)], zr =>
    clear zl zr
    obtain rfl : xs = [] := hn _ (List.Mem.head _) rfl
    have hp0 := hpre _ (List.Mem.head _); try dsimp only at hp0
    have hp1 := hpre _ (List.Mem.tail _ (List.Mem.head _)); try dsimp only at hp1
    repeat' (first | (with_reducible refine And.intro ?_ ?_) | (with_reducible intro h) | ((fail_if_success (with_reducible refine Leaf.mk ?_)); (fail_if_success (with_reducible refine VC.mk ?_)); (fail_if_success (with_reducible refine Goes.mk ?_)); (fail_if_success (with_reducible refine Again.mk ?_)); (fail_if_success (with_reducible refine Rounds.mk ?_)); (fail_if_success (with_reducible show False)); (fail_if_success (with_reducible show True)); conv => whnf))
    all_goals try simp only [decide_eq_true_eq, decide_eq_false_iff_not, tkA, tkL, Nat.zero_add, Nat.reduceAdd, Int.toNat_natCast, List.take_nil, List.nil_append] at *
    all_goals try first | exact trivial | (show False; omega) | exact Leaf.mk trivial | exact Leaf.mk rfl | (refine VC.mk ?_; first | trivial | assumption | ((try simp only [InR, decide_eq_true_eq, decide_eq_false_iff_not] at *); omega) | (simp; done))
    all_goals first | (exfalso; simp only [List.length_nil, Int.natCast_zero, Int.ofNat_zero] at *; omega) | (exfalso; simp at *; omega) | (refine Leaf.mk ?_; simp [ap, apA, apB]; done) | (refine Leaf.mk ?_; simp only [ap, apA, apB, List.length_nil]; rw [if_neg (by omega), if_neg (by omega)]; rfl)
  | [ra, rb, nx, ny, aa, ab, em, bi, lo, up, so, im, fo, fr, d], zl, [(false, xs)], zr =>
    clear zl zr
    have hp0 := hpre _ (List.Mem.head _); try dsimp only at hp0
    have hp1 := hpre _ (List.Mem.tail _ (List.Mem.head _)); try dsimp only at hp1
    repeat' (first | (with_reducible refine And.intro ?_ ?_) | (with_reducible intro h) | ((fail_if_success (with_reducible refine Leaf.mk ?_)); (fail_if_success (with_reducible refine VC.mk ?_)); (fail_if_success (with_reducible refine Goes.mk ?_)); (fail_if_success (with_reducible refine Again.mk ?_)); (fail_if_success (with_reducible refine Rounds.mk ?_)); (fail_if_success (with_reducible show False)); (fail_if_success (with_reducible show True)); conv => whnf))
    all_goals try simp only [decide_eq_true_eq, decide_eq_false_iff_not, tkA, tkL, Nat.zero_add, Nat.reduceAdd, Int.toNat_natCast, List.take_nil, List.nil_append] at *
    all_goals try first | exact trivial | (show False; omega) | exact Leaf.mk trivial | exact Leaf.mk rfl | (refine VC.mk ?_; first | trivial | assumption | ((try simp only [InR, decide_eq_true_eq, decide_eq_false_iff_not] at *); omega) | (simp; done))
    all_goals try (refine VC.mk ?_; first | (simp only [upd2_len]; omega) | exact wf_get (by repeat (first | assumption | apply upd2_wf)) (by (try simp only [upd2_len]); omega) | (simp only [upd2_len] at *; omega))
    all_goals try (refine Leaf.mk ?_; try rw [List.take_of_length_le (by simp only [upd2_len]; omega)])
    all_goals first
      | (rw [set_A hp1 (ra := ra) (by omega) (by omega), set_B (apA_wf hp1 ra nx ny aa d) (rb := rb) (by omega) (by rw [apA_len]; omega)]; rfl)
      | (unfold ap; rw [set_A hp1 (ra := ra) (by omega) (by omega), apB_out (by rw [apA_len]; omega)]; done)
      | (unfold ap; rw [apA_out (ra := ra) (by omega), set_B hp1 (rb := rb) (by omega) (by omega)]; done)
      | (unfold ap; rw [apA_out (ra := ra) (by omega), apB_out (rb := rb) (by omega)]; done)
      | rfl
def c_constraint_Solve : Con := ⟨17, genRun [.rows 14, .num 0, .rows 5] (fun l R => match l, R with | [i], [(bxs, xs), (bys, ys)] => [xs.length ≤ 100000, ys.length ≤ 100000, wf 14 xs, wf 5 ys] | _, _ => [False]) fun l R => match l, R with
  | [i], [(bxs, xs), (bys, ys)] => [.rows bxs 14 (solR xs i ys), .rows bys 5 (solB xs i ys)]
  | _, _ => []⟩
set_option maxRecDepth 100000 in
set_option maxHeartbeats 4000000 in
theorem con_constraint_Solve : c_constraint_Solve.Ok Try.prog := by
  refine con_gen (C := [c_clone_Row, c_clone_SolverBody, c_constraint_RelativeVelocity, c_constraint_Bounds, c_constraint_ApplyImpulse, c_fixed_Add, c_fixed_Mul, c_fixed_Sub, c_fixed_Clamp]) (pl := [(5, [0, 1, 2, 3, 4, 5, 6, 7, 8, 9, 10, 11, 12, 13, 14, 15, 16, 17, 18, 19, 20], [0, 1, 3, 0, 15, 0, 32, 96, 224, 511, 0, 1024, 3072, 7168, 0, 16384, 49152, 114688, 262143, 524287, 1048575]), (7, [0, 1, 2, 3, 4, 5, 6, 7, 8, 9, 10, 11, 12, 13, 14], [0, 1, 3, 7, 0, 16, 48, 112, 0, 496, 1023, 0, 0, 8191, 16383])]) Try.func17 rfl (by kernel_rfl) T_ok (Cons.cons con_clone_Row (Cons.cons con_clone_SolverBody (Cons.cons con_constraint_RelativeVelocity (Cons.cons con_constraint_Bounds (Cons.cons con_constraint_ApplyImpulse (Cons.cons con_fixed_Add (Cons.cons con_fixed_Mul (Cons.cons con_fixed_Sub (Cons.cons con_fixed_Clamp (Cons.nil _)))))))))) mixed (by kernel_rfl) _ _ _ (fun l R hl hR hn hpre => ?_)
  match l, hl, R, hR with
  | [i], zl, [(true, xs), (true, ys)], zr =>
    clear zl zr
    obtain rfl : xs = [] := hn _ (List.Mem.head _) rfl
    obtain rfl : ys = [] := hn _ (List.Mem.tail _ (List.Mem.head _)) rfl
    have hp0 := hpre _ (List.Mem.head _); try dsimp only at hp0
    have hp1 := hpre _ (List.Mem.tail _ (List.Mem.head _)); try dsimp only at hp1
    have hp2 := hpre _ (List.Mem.tail _ (List.Mem.tail _ (List.Mem.head _))); try dsimp only at hp2
    have hp3 := hpre _ (List.Mem.tail _ (List.Mem.tail _ (List.Mem.tail _ (List.Mem.head _)))); try dsimp only at hp3
    repeat' (first | (with_reducible refine And.intro ?_ ?_) | (with_reducible intro h) | ((fail_if_success (with_reducible refine Leaf.mk ?_)); (fail_if_success (with_reducible refine VC.mk ?_)); (fail_if_success (with_reducible refine Goes.mk ?_)); (fail_if_success (with_reducible refine Again.mk ?_)); (fail_if_success (with_reducible refine Rounds.mk ?_)); (fail_if_success (with_reducible show False)); (fail_if_success (with_reducible show True)); conv => whnf))
    all_goals try simp only [decide_eq_true_eq, decide_eq_false_iff_not, tkA, tkL, Nat.zero_add, Nat.reduceAdd, Int.toNat_natCast, List.take_nil, List.nil_append] at *
    all_goals try first | exact trivial | (show False; omega) | exact Leaf.mk trivial | exact Leaf.mk rfl | (refine VC.mk ?_; first | trivial | assumption | ((try simp only [InR, decide_eq_true_eq, decide_eq_false_iff_not] at *); omega) | (simp; done))
    all_goals try (exfalso; simp only [List.length_nil, Int.natCast_zero, Int.ofNat_zero, Int.ofNat_eq_zero] at *; omega)
    all_goals try (refine VC.mk ?_; first | (simp only [upd2_len]; omega) | exact wf_get (by repeat (first | assumption | apply upd2_wf)) (by (try simp only [upd2_len]); omega) | (simp only [upd2_len] at *; omega))
    all_goals (refine Leaf.mk ?_; (try rw [List.take_of_length_le (by simp only [upd2_len]; omega)]); first
      | (rw [solR_out (by first | omega | (simp only [List.length_nil]; omega))]; done)
      | (rw [solB_out (by first | omega | (simp only [List.length_nil]; omega))]; done)
      | (rw [solR_in (by omega) (by omega)]; rfl)
      | (have hk : i.toNat < xs.length := by omega
         rw [solB_in (by omega) (by omega)]
         simp only [fun t => at2_not11 hk t (show (0 : Nat) ≠ 11 by decide), fun t => at2_not11 hk t (show (1 : Nat) ≠ 11 by decide), fun t => at2_not11 hk t (show (2 : Nat) ≠ 11 by decide), fun t => at2_not11 hk t (show (3 : Nat) ≠ 11 by decide), fun t => at2_not11 hk t (show (4 : Nat) ≠ 11 by decide), fun t => at2_not11 hk t (show (5 : Nat) ≠ 11 by decide)]
         done)
      | (rw [solB_in (by omega) (by omega)]; rfl)
      | (have hk : i.toNat < xs.length := by omega
         rw [solB_in (by omega) (by omega)]
         simp only [fun t => at2_not11 hk t (show (0 : Nat) ≠ 11 by decide), fun t => at2_not11 hk t (show (1 : Nat) ≠ 11 by decide), fun t => at2_not11 hk t (show (2 : Nat) ≠ 11 by decide), fun t => at2_not11 hk t (show (3 : Nat) ≠ 11 by decide), fun t => at2_not11 hk t (show (4 : Nat) ≠ 11 by decide), fun t => at2_not11 hk t (show (5 : Nat) ≠ 11 by decide)]
         rfl))
  | [i], zl, [(true, xs), (false, ys)], zr =>
    clear zl zr
    obtain rfl : xs = [] := hn _ (List.Mem.head _) rfl
    have hp0 := hpre _ (List.Mem.head _); try dsimp only at hp0
    have hp1 := hpre _ (List.Mem.tail _ (List.Mem.head _)); try dsimp only at hp1
    have hp2 := hpre _ (List.Mem.tail _ (List.Mem.tail _ (List.Mem.head _))); try dsimp only at hp2
    have hp3 := hpre _ (List.Mem.tail _ (List.Mem.tail _ (List.Mem.tail _ (List.Mem.head _)))); try dsimp only at hp3
    repeat' (first | (with_reducible refine And.intro ?_ ?_) | (with_reducible intro h) | ((fail_if_success (with_reducible refine Leaf.mk ?_)); (fail_if_success (with_reducible refine VC.mk ?_)); (fail_if_success (with_reducible refine Goes.mk ?_)); (fail_if_success (with_reducible refine Again.mk ?_)); (fail_if_success (with_reducible refine Rounds.mk ?_)); (fail_if_success (with_reducible show False)); (fail_if_success (with_reducible show True)); conv => whnf))
    all_goals try simp only [decide_eq_true_eq, decide_eq_false_iff_not, tkA, tkL, Nat.zero_add, Nat.reduceAdd, Int.toNat_natCast, List.take_nil, List.nil_append] at *
    all_goals try first | exact trivial | (show False; omega) | exact Leaf.mk trivial | exact Leaf.mk rfl | (refine VC.mk ?_; first | trivial | assumption | ((try simp only [InR, decide_eq_true_eq, decide_eq_false_iff_not] at *); omega) | (simp; done))
    all_goals try (exfalso; simp only [List.length_nil, Int.natCast_zero, Int.ofNat_zero, Int.ofNat_eq_zero] at *; omega)
    all_goals try (refine VC.mk ?_; first | (simp only [upd2_len]; omega) | exact wf_get (by repeat (first | assumption | apply upd2_wf)) (by (try simp only [upd2_len]); omega) | (simp only [upd2_len] at *; omega))
    all_goals (refine Leaf.mk ?_; (try rw [List.take_of_length_le (by simp only [upd2_len]; omega)]); first
      | (rw [solR_out (by first | omega | (simp only [List.length_nil]; omega))]; done)
      | (rw [solB_out (by first | omega | (simp only [List.length_nil]; omega))]; done)
      | (rw [solR_in (by omega) (by omega)]; rfl)
      | (have hk : i.toNat < xs.length := by omega
         rw [solB_in (by omega) (by omega)]
         simp only [fun t => at2_not11 hk t (show (0 : Nat) ≠ 11 by decide), fun t => at2_not11 hk t (show (1 : Nat) ≠ 11 by decide), fun t => at2_not11 hk t (show (2 : Nat) ≠ 11 by decide), fun t => at2_not11 hk t (show (3 : Nat) ≠ 11 by decide), fun t => at2_not11 hk t (show (4 : Nat) ≠ 11 by decide), fun t => at2_not11 hk t (show (5 : Nat) ≠ 11 by decide)]
         done)
      | (rw [solB_in (by omega) (by omega)]; rfl)
      | (have hk : i.toNat < xs.length := by omega
         rw [solB_in (by omega) (by omega)]
         simp only [fun t => at2_not11 hk t (show (0 : Nat) ≠ 11 by decide), fun t => at2_not11 hk t (show (1 : Nat) ≠ 11 by decide), fun t => at2_not11 hk t (show (2 : Nat) ≠ 11 by decide), fun t => at2_not11 hk t (show (3 : Nat) ≠ 11 by decide), fun t => at2_not11 hk t (show (4 : Nat) ≠ 11 by decide), fun t => at2_not11 hk t (show (5 : Nat) ≠ 11 by decide)]
         rfl))
  | [i], zl, [(false, xs), (true, ys)], zr =>
    clear zl zr
    obtain rfl : ys = [] := hn _ (List.Mem.tail _ (List.Mem.head _)) rfl
    have hp0 := hpre _ (List.Mem.head _); try dsimp only at hp0
    have hp1 := hpre _ (List.Mem.tail _ (List.Mem.head _)); try dsimp only at hp1
    have hp2 := hpre _ (List.Mem.tail _ (List.Mem.tail _ (List.Mem.head _))); try dsimp only at hp2
    have hp3 := hpre _ (List.Mem.tail _ (List.Mem.tail _ (List.Mem.tail _ (List.Mem.head _)))); try dsimp only at hp3
    repeat' (first | (with_reducible refine And.intro ?_ ?_) | (with_reducible intro h) | ((fail_if_success (with_reducible refine Leaf.mk ?_)); (fail_if_success (with_reducible refine VC.mk ?_)); (fail_if_success (with_reducible refine Goes.mk ?_)); (fail_if_success (with_reducible refine Again.mk ?_)); (fail_if_success (with_reducible refine Rounds.mk ?_)); (fail_if_success (with_reducible show False)); (fail_if_success (with_reducible show True)); conv => whnf))
    all_goals try simp only [decide_eq_true_eq, decide_eq_false_iff_not, tkA, tkL, Nat.zero_add, Nat.reduceAdd, Int.toNat_natCast, List.take_nil, List.nil_append] at *
    all_goals try first | exact trivial | (show False; omega) | exact Leaf.mk trivial | exact Leaf.mk rfl | (refine VC.mk ?_; first | trivial | assumption | ((try simp only [InR, decide_eq_true_eq, decide_eq_false_iff_not] at *); omega) | (simp; done))
    all_goals try (exfalso; simp only [List.length_nil, Int.natCast_zero, Int.ofNat_zero, Int.ofNat_eq_zero] at *; omega)
    all_goals try (refine VC.mk ?_; first | (simp only [upd2_len]; omega) | exact wf_get (by repeat (first | assumption | apply upd2_wf)) (by (try simp only [upd2_len]); omega) | (simp only [upd2_len] at *; omega))
    all_goals (refine Leaf.mk ?_; (try rw [List.take_of_length_le (by simp only [upd2_len]; omega)]); first
      | (rw [solR_out (by first | omega | (simp only [List.length_nil]; omega))]; done)
      | (rw [solB_out (by first | omega | (simp only [List.length_nil]; omega))]; done)
      | (rw [solR_in (by omega) (by omega)]; rfl)
      | (have hk : i.toNat < xs.length := by omega
         rw [solB_in (by omega) (by omega)]
         simp only [fun t => at2_not11 hk t (show (0 : Nat) ≠ 11 by decide), fun t => at2_not11 hk t (show (1 : Nat) ≠ 11 by decide), fun t => at2_not11 hk t (show (2 : Nat) ≠ 11 by decide), fun t => at2_not11 hk t (show (3 : Nat) ≠ 11 by decide), fun t => at2_not11 hk t (show (4 : Nat) ≠ 11 by decide), fun t => at2_not11 hk t (show (5 : Nat) ≠ 11 by decide)]
         done)
      | (rw [solB_in (by omega) (by omega)]; rfl)
      | (have hk : i.toNat < xs.length := by omega
         rw [solB_in (by omega) (by omega)]
         simp only [fun t => at2_not11 hk t (show (0 : Nat) ≠ 11 by decide), fun t => at2_not11 hk t (show (1 : Nat) ≠ 11 by decide), fun t => at2_not11 hk t (show (2 : Nat) ≠ 11 by decide), fun t => at2_not11 hk t (show (3 : Nat) ≠ 11 by decide), fun t => at2_not11 hk t (show (4 : Nat) ≠ 11 by decide), fun t => at2_not11 hk t (show (5 : Nat) ≠ 11 by decide)]
         rfl))
  | [i], zl, [(false, xs), (false, ys)], zr =>
    clear zl zr
    have hp0 := hpre _ (List.Mem.head _); try dsimp only at hp0
    have hp1 := hpre _ (List.Mem.tail _ (List.Mem.head _)); try dsimp only at hp1
    have hp2 := hpre _ (List.Mem.tail _ (List.Mem.tail _ (List.Mem.head _))); try dsimp only at hp2
    have hp3 := hpre _ (List.Mem.tail _ (List.Mem.tail _ (List.Mem.tail _ (List.Mem.head _)))); try dsimp only at hp3
    repeat' (first | (with_reducible refine And.intro ?_ ?_) | (with_reducible intro h) | ((fail_if_success (with_reducible refine Leaf.mk ?_)); (fail_if_success (with_reducible refine VC.mk ?_)); (fail_if_success (with_reducible refine Goes.mk ?_)); (fail_if_success (with_reducible refine Again.mk ?_)); (fail_if_success (with_reducible refine Rounds.mk ?_)); (fail_if_success (with_reducible show False)); (fail_if_success (with_reducible show True)); conv => whnf))
    all_goals try simp only [decide_eq_true_eq, decide_eq_false_iff_not, tkA, tkL, Nat.zero_add, Nat.reduceAdd, Int.toNat_natCast, List.take_nil, List.nil_append] at *
    all_goals try first | exact trivial | (show False; omega) | exact Leaf.mk trivial | exact Leaf.mk rfl | (refine VC.mk ?_; first | trivial | assumption | ((try simp only [InR, decide_eq_true_eq, decide_eq_false_iff_not] at *); omega) | (simp; done))
    all_goals try (exfalso; simp only [List.length_nil, Int.natCast_zero, Int.ofNat_zero, Int.ofNat_eq_zero] at *; omega)
    all_goals try (refine VC.mk ?_; first | (simp only [upd2_len]; omega) | exact wf_get (by repeat (first | assumption | apply upd2_wf)) (by (try simp only [upd2_len]); omega) | (simp only [upd2_len] at *; omega))
    all_goals (refine Leaf.mk ?_; (try rw [List.take_of_length_le (by simp only [upd2_len]; omega)]); first
      | (rw [solR_out (by first | omega | (simp only [List.length_nil]; omega))]; done)
      | (rw [solB_out (by first | omega | (simp only [List.length_nil]; omega))]; done)
      | (rw [solR_in (by omega) (by omega)]; rfl)
      | (have hk : i.toNat < xs.length := by omega
         rw [solB_in (by omega) (by omega)]
         simp only [fun t => at2_not11 hk t (show (0 : Nat) ≠ 11 by decide), fun t => at2_not11 hk t (show (1 : Nat) ≠ 11 by decide), fun t => at2_not11 hk t (show (2 : Nat) ≠ 11 by decide), fun t => at2_not11 hk t (show (3 : Nat) ≠ 11 by decide), fun t => at2_not11 hk t (show (4 : Nat) ≠ 11 by decide), fun t => at2_not11 hk t (show (5 : Nat) ≠ 11 by decide)]
         done)
      | (rw [solB_in (by omega) (by omega)]; rfl)
      | (have hk : i.toNat < xs.length := by omega
         rw [solB_in (by omega) (by omega)]
         simp only [fun t => at2_not11 hk t (show (0 : Nat) ≠ 11 by decide), fun t => at2_not11 hk t (show (1 : Nat) ≠ 11 by decide), fun t => at2_not11 hk t (show (2 : Nat) ≠ 11 by decide), fun t => at2_not11 hk t (show (3 : Nat) ≠ 11 by decide), fun t => at2_not11 hk t (show (4 : Nat) ≠ 11 by decide), fun t => at2_not11 hk t (show (5 : Nat) ≠ 11 by decide)]
         rfl))
def c_ref28_Solve : Con := ⟨21, genRun [.rows 14, .num 0, .rows 5] (fun l R => match l, R with | [i], [(bxs, xs), (bys, ys)] => [xs.length ≤ 100000, ys.length ≤ 100000, wf 14 xs, wf 5 ys] | _, _ => [False]) fun l R => match l, R with
  | [i], [(bxs, xs), (bys, ys)] => [.rows false 14 (solR xs i ys), .rows false 5 (solB xs i ys)]
  | _, _ => []⟩
set_option maxRecDepth 100000 in
set_option maxHeartbeats 4000000 in
theorem con_ref28_Solve : c_ref28_Solve.Ok Try.prog := by
  refine con_gen (C := [c_ref28_RelativeVelocity, c_ref28_Bounds, c_ref28_ApplyImpulse, c_ref01_Add, c_ref01_Mul, c_ref01_Sub, c_ref01_Clamp]) (pl := [(6, [0, 1, 2, 3, 4, 5, 6, 7, 8, 9, 10, 11, 12, 13, 14, 15], [0, 1, 0, 0, 12, 0, 32, 124, 0, 256, 0, 1024, 4092, 8188, 16383, 32767]), (9, [0, 1, 2, 3, 4, 5, 6, 7, 8, 9], [0, 0, 0, 0, 0, 16, 56, 126, 255, 511])]) Try.func21 rfl (by kernel_rfl) T_ok (Cons.cons con_ref28_RelativeVelocity (Cons.cons con_ref28_Bounds (Cons.cons con_ref28_ApplyImpulse (Cons.cons con_ref01_Add (Cons.cons con_ref01_Mul (Cons.cons con_ref01_Sub (Cons.cons con_ref01_Clamp (Cons.nil _)))))))) mixed (by kernel_rfl) _ _ _ (fun l R hl hR hn hpre => ?_)
  match l, hl, R, hR with
  | [i], zl, [(true, xs), (true, ys)], zr =>
    clear zl zr
    obtain rfl : xs = [] := hn _ (List.Mem.head _) rfl
    obtain rfl : ys = [] := hn _ (List.Mem.tail _ (List.Mem.head _)) rfl
    have hp0 := hpre _ (List.Mem.head _); try dsimp only at hp0
    have hp1 := hpre _ (List.Mem.tail _ (List.Mem.head _)); try dsimp only at hp1
    have hp2 := hpre _ (List.Mem.tail _ (List.Mem.tail _ (List.Mem.head _))); try dsimp only at hp2
    have hp3 := hpre _ (List.Mem.tail _ (List.Mem.tail _ (List.Mem.tail _ (List.Mem.head _)))); try dsimp only at hp3
    repeat' (first | (with_reducible refine And.intro ?_ ?_) | (with_reducible intro h) | ((fail_if_success (with_reducible refine Leaf.mk ?_)); (fail_if_success (with_reducible refine VC.mk ?_)); (fail_if_success (with_reducible refine Goes.mk ?_)); (fail_if_success (with_reducible refine Again.mk ?_)); (fail_if_success (with_reducible refine Rounds.mk ?_)); (fail_if_success (with_reducible show False)); (fail_if_success (with_reducible show True)); conv => whnf))
    all_goals try simp only [decide_eq_true_eq, decide_eq_false_iff_not, tkA, tkL, Nat.zero_add, Nat.reduceAdd, Int.toNat_natCast, List.take_nil, List.nil_append] at *
    all_goals try first | exact trivial | (show False; omega) | exact Leaf.mk trivial | exact Leaf.mk rfl | (refine VC.mk ?_; first | trivial | assumption | ((try simp only [InR, decide_eq_true_eq, decide_eq_false_iff_not] at *); omega) | (simp; done))
    all_goals try (exfalso; simp only [List.length_nil, Int.natCast_zero, Int.ofNat_zero, Int.ofNat_eq_zero] at *; omega)
    all_goals try (refine VC.mk ?_; first | (simp only [upd2_len]; omega) | exact wf_get (by repeat (first | assumption | apply upd2_wf)) (by (try simp only [upd2_len]); omega) | (simp only [upd2_len] at *; omega))
    all_goals (refine Leaf.mk ?_; (try rw [List.take_of_length_le (by simp only [upd2_len]; omega)]); first
      | (rw [solR_out (by first | omega | (simp only [List.length_nil]; omega))]; done)
      | (rw [solB_out (by first | omega | (simp only [List.length_nil]; omega))]; done)
      | (rw [solR_in (by omega) (by omega)]; rfl)
      | (have hk : i.toNat < xs.length := by omega
         rw [solB_in (by omega) (by omega)]
         simp only [fun t => at2_not11 hk t (show (0 : Nat) ≠ 11 by decide), fun t => at2_not11 hk t (show (1 : Nat) ≠ 11 by decide), fun t => at2_not11 hk t (show (2 : Nat) ≠ 11 by decide), fun t => at2_not11 hk t (show (3 : Nat) ≠ 11 by decide), fun t => at2_not11 hk t (show (4 : Nat) ≠ 11 by decide), fun t => at2_not11 hk t (show (5 : Nat) ≠ 11 by decide)]
         done)
      | (rw [solB_in (by omega) (by omega)]; rfl)
      | (have hk : i.toNat < xs.length := by omega
         rw [solB_in (by omega) (by omega)]
         simp only [fun t => at2_not11 hk t (show (0 : Nat) ≠ 11 by decide), fun t => at2_not11 hk t (show (1 : Nat) ≠ 11 by decide), fun t => at2_not11 hk t (show (2 : Nat) ≠ 11 by decide), fun t => at2_not11 hk t (show (3 : Nat) ≠ 11 by decide), fun t => at2_not11 hk t (show (4 : Nat) ≠ 11 by decide), fun t => at2_not11 hk t (show (5 : Nat) ≠ 11 by decide)]
         rfl))
  | [i], zl, [(true, xs), (false, ys)], zr =>
    clear zl zr
    obtain rfl : xs = [] := hn _ (List.Mem.head _) rfl
    have hp0 := hpre _ (List.Mem.head _); try dsimp only at hp0
    have hp1 := hpre _ (List.Mem.tail _ (List.Mem.head _)); try dsimp only at hp1
    have hp2 := hpre _ (List.Mem.tail _ (List.Mem.tail _ (List.Mem.head _))); try dsimp only at hp2
    have hp3 := hpre _ (List.Mem.tail _ (List.Mem.tail _ (List.Mem.tail _ (List.Mem.head _)))); try dsimp only at hp3
    repeat' (first | (with_reducible refine And.intro ?_ ?_) | (with_reducible intro h) | ((fail_if_success (with_reducible refine Leaf.mk ?_)); (fail_if_success (with_reducible refine VC.mk ?_)); (fail_if_success (with_reducible refine Goes.mk ?_)); (fail_if_success (with_reducible refine Again.mk ?_)); (fail_if_success (with_reducible refine Rounds.mk ?_)); (fail_if_success (with_reducible show False)); (fail_if_success (with_reducible show True)); conv => whnf))
    all_goals try simp only [decide_eq_true_eq, decide_eq_false_iff_not, tkA, tkL, Nat.zero_add, Nat.reduceAdd, Int.toNat_natCast, List.take_nil, List.nil_append] at *
    all_goals try first | exact trivial | (show False; omega) | exact Leaf.mk trivial | exact Leaf.mk rfl | (refine VC.mk ?_; first | trivial | assumption | ((try simp only [InR, decide_eq_true_eq, decide_eq_false_iff_not] at *); omega) | (simp; done))
    all_goals try (exfalso; simp only [List.length_nil, Int.natCast_zero, Int.ofNat_zero, Int.ofNat_eq_zero] at *; omega)
    all_goals try (refine VC.mk ?_; first | (simp only [upd2_len]; omega) | exact wf_get (by repeat (first | assumption | apply upd2_wf)) (by (try simp only [upd2_len]); omega) | (simp only [upd2_len] at *; omega))
    all_goals (refine Leaf.mk ?_; (try rw [List.take_of_length_le (by simp only [upd2_len]; omega)]); first
      | (rw [solR_out (by first | omega | (simp only [List.length_nil]; omega))]; done)
      | (rw [solB_out (by first | omega | (simp only [List.length_nil]; omega))]; done)
      | (rw [solR_in (by omega) (by omega)]; rfl)
      | (have hk : i.toNat < xs.length := by omega
         rw [solB_in (by omega) (by omega)]
         simp only [fun t => at2_not11 hk t (show (0 : Nat) ≠ 11 by decide), fun t => at2_not11 hk t (show (1 : Nat) ≠ 11 by decide), fun t => at2_not11 hk t (show (2 : Nat) ≠ 11 by decide), fun t => at2_not11 hk t (show (3 : Nat) ≠ 11 by decide), fun t => at2_not11 hk t (show (4 : Nat) ≠ 11 by decide), fun t => at2_not11 hk t (show (5 : Nat) ≠ 11 by decide)]
         done)
      | (rw [solB_in (by omega) (by omega)]; rfl)
      | (have hk : i.toNat < xs.length := by omega
         rw [solB_in (by omega) (by omega)]
         simp only [fun t => at2_not11 hk t (show (0 : Nat) ≠ 11 by decide), fun t => at2_not11 hk t (show (1 : Nat) ≠ 11 by decide), fun t => at2_not11 hk t (show (2 : Nat) ≠ 11 by decide), fun t => at2_not11 hk t (show (3 : Nat) ≠ 11 by decide), fun t => at2_not11 hk t (show (4 : Nat) ≠ 11 by decide), fun t => at2_not11 hk t (show (5 : Nat) ≠ 11 by decide)]
         rfl))
  | [i], zl, [(false, xs), (true, ys)], zr =>
    clear zl zr
    obtain rfl : ys = [] := hn _ (List.Mem.tail _ (List.Mem.head _)) rfl
    have hp0 := hpre _ (List.Mem.head _); try dsimp only at hp0
    have hp1 := hpre _ (List.Mem.tail _ (List.Mem.head _)); try dsimp only at hp1
    have hp2 := hpre _ (List.Mem.tail _ (List.Mem.tail _ (List.Mem.head _))); try dsimp only at hp2
    have hp3 := hpre _ (List.Mem.tail _ (List.Mem.tail _ (List.Mem.tail _ (List.Mem.head _)))); try dsimp only at hp3
    repeat' (first | (with_reducible refine And.intro ?_ ?_) | (with_reducible intro h) | ((fail_if_success (with_reducible refine Leaf.mk ?_)); (fail_if_success (with_reducible refine VC.mk ?_)); (fail_if_success (with_reducible refine Goes.mk ?_)); (fail_if_success (with_reducible refine Again.mk ?_)); (fail_if_success (with_reducible refine Rounds.mk ?_)); (fail_if_success (with_reducible show False)); (fail_if_success (with_reducible show True)); conv => whnf))
    all_goals try simp only [decide_eq_true_eq, decide_eq_false_iff_not, tkA, tkL, Nat.zero_add, Nat.reduceAdd, Int.toNat_natCast, List.take_nil, List.nil_append] at *
    all_goals try first | exact trivial | (show False; omega) | exact Leaf.mk trivial | exact Leaf.mk rfl | (refine VC.mk ?_; first | trivial | assumption | ((try simp only [InR, decide_eq_true_eq, decide_eq_false_iff_not] at *); omega) | (simp; done))
    all_goals try (exfalso; simp only [List.length_nil, Int.natCast_zero, Int.ofNat_zero, Int.ofNat_eq_zero] at *; omega)
    all_goals try (refine VC.mk ?_; first | (simp only [upd2_len]; omega) | exact wf_get (by repeat (first | assumption | apply upd2_wf)) (by (try simp only [upd2_len]); omega) | (simp only [upd2_len] at *; omega))
    all_goals (refine Leaf.mk ?_; (try rw [List.take_of_length_le (by simp only [upd2_len]; omega)]); first
      | (rw [solR_out (by first | omega | (simp only [List.length_nil]; omega))]; done)
      | (rw [solB_out (by first | omega | (simp only [List.length_nil]; omega))]; done)
      | (rw [solR_in (by omega) (by omega)]; rfl)
      | (have hk : i.toNat < xs.length := by omega
         rw [solB_in (by omega) (by omega)]
         simp only [fun t => at2_not11 hk t (show (0 : Nat) ≠ 11 by decide), fun t => at2_not11 hk t (show (1 : Nat) ≠ 11 by decide), fun t => at2_not11 hk t (show (2 : Nat) ≠ 11 by decide), fun t => at2_not11 hk t (show (3 : Nat) ≠ 11 by decide), fun t => at2_not11 hk t (show (4 : Nat) ≠ 11 by decide), fun t => at2_not11 hk t (show (5 : Nat) ≠ 11 by decide)]
         done)
      | (rw [solB_in (by omega) (by omega)]; rfl)
      | (have hk : i.toNat < xs.length := by omega
         rw [solB_in (by omega) (by omega)]
         simp only [fun t => at2_not11 hk t (show (0 : Nat) ≠ 11 by decide), fun t => at2_not11 hk t (show (1 : Nat) ≠ 11 by decide), fun t => at2_not11 hk t (show (2 : Nat) ≠ 11 by decide), fun t => at2_not11 hk t (show (3 : Nat) ≠ 11 by decide), fun t => at2_not11 hk t (show (4 : Nat) ≠ 11 by decide), fun t => at2_not11 hk t (show (5 : Nat) ≠ 11 by decide)]
         rfl))
  | [i], zl, [(false, xs), (false, ys)], zr =>
    clear zl zr
    have hp0 := hpre _ (List.Mem.head _); try dsimp only at hp0
    have hp1 := hpre _ (List.Mem.tail _ (List.Mem.head _)); try dsimp only at hp1
    have hp2 := hpre _ (List.Mem.tail _ (List.Mem.tail _ (List.Mem.head _))); try dsimp only at hp2
    have hp3 := hpre _ (List.Mem.tail _ (List.Mem.tail _ (List.Mem.tail _ (List.Mem.head _)))); try dsimp only at hp3
    repeat' (first | (with_reducible refine And.intro ?_ ?_) | (with_reducible intro h) | ((fail_if_success (with_reducible refine Leaf.mk ?_)); (fail_if_success (with_reducible refine VC.mk ?_)); (fail_if_success (with_reducible refine Goes.mk ?_)); (fail_if_success (with_reducible refine Again.mk ?_)); (fail_if_success (with_reducible refine Rounds.mk ?_)); (fail_if_success (with_reducible show False)); (fail_if_success (with_reducible show True)); conv => whnf))
    all_goals try simp only [decide_eq_true_eq, decide_eq_false_iff_not, tkA, tkL, Nat.zero_add, Nat.reduceAdd, Int.toNat_natCast, List.take_nil, List.nil_append] at *
    all_goals try first | exact trivial | (show False; omega) | exact Leaf.mk trivial | exact Leaf.mk rfl | (refine VC.mk ?_; first | trivial | assumption | ((try simp only [InR, decide_eq_true_eq, decide_eq_false_iff_not] at *); omega) | (simp; done))
    all_goals try (exfalso; simp only [List.length_nil, Int.natCast_zero, Int.ofNat_zero, Int.ofNat_eq_zero] at *; omega)
    all_goals try (refine VC.mk ?_; first | (simp only [upd2_len]; omega) | exact wf_get (by repeat (first | assumption | apply upd2_wf)) (by (try simp only [upd2_len]); omega) | (simp only [upd2_len] at *; omega))
    all_goals (refine Leaf.mk ?_; (try rw [List.take_of_length_le (by simp only [upd2_len]; omega)]); first
      | (rw [solR_out (by first | omega | (simp only [List.length_nil]; omega))]; done)
      | (rw [solB_out (by first | omega | (simp only [List.length_nil]; omega))]; done)
      | (rw [solR_in (by omega) (by omega)]; rfl)
      | (have hk : i.toNat < xs.length := by omega
         rw [solB_in (by omega) (by omega)]
         simp only [fun t => at2_not11 hk t (show (0 : Nat) ≠ 11 by decide), fun t => at2_not11 hk t (show (1 : Nat) ≠ 11 by decide), fun t => at2_not11 hk t (show (2 : Nat) ≠ 11 by decide), fun t => at2_not11 hk t (show (3 : Nat) ≠ 11 by decide), fun t => at2_not11 hk t (show (4 : Nat) ≠ 11 by decide), fun t => at2_not11 hk t (show (5 : Nat) ≠ 11 by decide)]
         done)
      | (rw [solB_in (by omega) (by omega)]; rfl)
      | (have hk : i.toNat < xs.length := by omega
         rw [solB_in (by omega) (by omega)]
         simp only [fun t => at2_not11 hk t (show (0 : Nat) ≠ 11 by decide), fun t => at2_not11 hk t (show (1 : Nat) ≠ 11 by decide), fun t => at2_not11 hk t (show (2 : Nat) ≠ 11 by decide), fun t => at2_not11 hk t (show (3 : Nat) ≠ 11 by decide), fun t => at2_not11 hk t (show (4 : Nat) ≠ 11 by decide), fun t => at2_not11 hk t (show (5 : Nat) ≠ 11 by decide)]
         rfl))
end Go.Proofs.Ytapbegcmdiemoaa
