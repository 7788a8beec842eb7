/- The walk of caromlaw35.SolverClampImpulses. -/
import Derived.Test.YtapbegcmdiemoaaD8
import Derived.Test.YtapbegcmdiemoaaFs
namespace Go.Proofs.Ytapbegcmdiemoaa
open Go.RowKit Fx Vx Ev
set_option linter.unusedVariables false
set_option linter.unusedSimpArgs false

theorem at2_set_ne' {xs : List (List Int)} {k a : Nat} (h : k ≠ a) (r : List Int) (j : Nat) : at2 (xs.set a r) k j = at2 xs k j := by
  simp only [at2, List.getD_eq_getElem?_getD]
  rw [List.getElem?_set_ne (by omega)]
theorem at2_upd_ne' {xs : List (List Int)} {k a : Nat} (h : k ≠ a) (c : Nat) (vs : List Int) (j : Nat) : at2 (upd2 xs a c vs) k j = at2 xs k j := at2_set_ne' h _ _
/-- A number clamped: within its bounds, or the lower one where they are crossed. -/
def inb (x lo up : Int) : Prop := (up < lo → x = lo) ∧ (lo ≤ up → lo ≤ x ∧ x ≤ up)
theorem clamp_inb (x lo up : Int) : inb (clamp x lo up) lo up := by
  unfold inb clamp; split <;> (try split) <;> omega
theorem bd_plain {xs : List (List Int)} {k : Nat} (hk : k < xs.length) (h : isFr xs k = false) : bdL xs k = at2 xs k 8 ∧ bdU xs k = at2 xs k 9 := by
  have e : inR xs k = true := by simp [inR]; omega
  simp [bdL, bdU, e, h]
theorem isFr_same {xs zs : List (List Int)} {i : Nat} (hl : zs.length = xs.length) (h : at2 zs i 12 = at2 xs i 12) : isFr zs i = isFr xs i := by
  simp only [isFr, Int.toNat_natCast, h, hl]
/-- What the steps keep of the rows: all but the impulses, and the bounds of rows without friction. -/
def kept (xs zs : List (List Int)) : Prop := zs.length = xs.length ∧ ∀ i, i < xs.length → (∀ j, j ≠ 11 → at2 zs i j = at2 xs i j) ∧ (isFr xs i = false → inb (at2 zs i 11) (at2 xs i 8) (at2 xs i 9))
theorem clN_fields {xs : List (List Int)} (hw : wf 14 xs) : ∀ k, k ≤ xs.length → ∀ i, i < xs.length → ∀ j, j ≠ 11 → at2 (clN xs k) i j = at2 xs i j
  | 0, _, i, hi, j, hj => rfl
  | k + 1, hk, i, hi, j, hj => by
    rw [clN]
    by_cases e : i = k
    · subst e; rw [at2_not11 (by rw [clN_len]; exact hi) _ hj]; exact clN_fields hw i (by omega) i hi j hj
    · rw [at2_upd_ne' e]; exact clN_fields hw k (by omega) i hi j hj
theorem clN_imp {xs : List (List Int)} (hw : wf 14 xs) : ∀ k, k ≤ xs.length → ∀ i, i < xs.length → (k ≤ i → at2 (clN xs k) i 11 = at2 xs i 11) ∧ (i < k → at2 (clN xs k) i 11 = clamp (at2 xs i 11) (bdL (clN xs i) i) (bdU (clN xs i) i))
  | 0, _, i, hi => ⟨fun _ => rfl, fun h => by omega⟩
  | k + 1, hk, i, hi => by
    obtain ⟨h1, h2⟩ := clN_imp hw k (by omega) i hi
    rw [clN]
    by_cases e : i = k
    · subst e
      refine ⟨fun h => by omega, fun _ => ?_⟩
      rw [at2_11 (clN_wf hw i) (by rw [clN_len]; exact hi), h1 (Nat.le_refl _)]
    · rw [at2_upd_ne' e]
      exact ⟨fun h => h1 (by omega), fun h => h2 (by omega)⟩
theorem clN_plain {xs : List (List Int)} (hw : wf 14 xs) {i : Nat} (hi : i < xs.length) (h : isFr xs i = false) : at2 (clN xs xs.length) i 11 = clamp (at2 xs i 11) (at2 xs i 8) (at2 xs i 9) := by
  have f := clN_fields hw i (by omega) i hi
  obtain ⟨e1, e2⟩ := bd_plain (xs := clN xs i) (k := i) (by rw [clN_len]; exact hi) (by rw [isFr_same (clN_len xs i) (f 12 (by decide))]; exact h)
  rw [(clN_imp hw xs.length (Nat.le_refl _) i hi).2 hi, e1, e2, f 8 (by decide), f 9 (by decide)]
theorem clN_kept {xs : List (List Int)} (hw : wf 14 xs) : kept xs (clN xs xs.length) := ⟨clN_len _ _, fun i hi => ⟨clN_fields hw xs.length (Nat.le_refl _) i hi, fun h => by rw [clN_plain hw hi h]; exact clamp_inb _ _ _⟩⟩
theorem solR_kept {xs zs : List (List Int)} (hw : wf 14 zs) (h : kept xs zs) {k : Nat} (hk : k < zs.length) (ys : List (List Int)) : kept xs (solR zs k ys) := by
  obtain ⟨hl, hf⟩ := h
  refine ⟨by rw [solR_len, hl], fun i hi => ?_⟩
  obtain ⟨h1, h2⟩ := hf i hi
  have e : solR zs k ys = upd2 zs k 11 [impT zs ys k] := by
    have := solR_in (xs := zs) (i := (k : Int)) (by omega) (by omega) ys
    rwa [Int.toNat_natCast] at this
  rw [e]
  by_cases ek : i = k
  · subst ek
    refine ⟨fun j hj => by rw [at2_not11 hk _ hj]; exact h1 j hj, fun hn => ?_⟩
    rw [at2_11 hw hk]
    have hn' : isFr zs i = false := by rw [isFr_same hl (h1 12 (by decide))]; exact hn
    obtain ⟨b1, b2⟩ := bd_plain hk hn'
    unfold impT
    rw [b1, b2, h1 8 (by decide), h1 9 (by decide)]
    exact clamp_inb _ _ _
  · exact ⟨fun j hj => by rw [at2_upd_ne' ek]; exact h1 j hj, fun hn => by rw [at2_upd_ne' ek]; exact h2 hn⟩
theorem itN_kept {xs zs ys : List (List Int)} (hw : wf 14 zs) (hw' : wf 5 ys) (h : kept xs zs) : ∀ k, k ≤ zs.length → kept xs (itN zs ys k).1
  | 0, _ => h
  | k + 1, hk => by
    rw [itN]
    exact solR_kept (itN_wf hw hw' k).1 (itN_kept hw hw' h k (by omega)) (by rw [itN_len1]; omega) _
theorem seN_kept {xs ys : List (List Int)} (hw : wf 14 xs) (hw' : wf 5 ys) : ∀ k, kept xs (seN xs ys k).1
  | 0 => clN_kept hw
  | k + 1 => by
    rw [seN]; unfold itA
    exact itN_kept (seN_wf hw hw' k).1 (seN_wf hw hw' k).2 (seN_kept hw hw' k) _ (Nat.le_refl _)

def c_law_SolverClampImpulses : Con := ⟨14, rowRun [.rows 14] (fun l R => match l, R with | [], [xs] => [∀ x ∈ xs, x.length = 14] | _, _ => [False]) fun l R => match l, R with
  | [], [xs] => .bool true
  | _, _ => .any⟩
set_option maxRecDepth 100000 in
set_option maxHeartbeats 8000000 in
theorem con_law_SolverClampImpulses : c_law_SolverClampImpulses.Ok Try.prog := by
  refine con_rows (C := [c_solver_ClampImpulses, c_ref35_IsFriction, c_law35_example]) (pl := [(10, [0, 1, 2, 3, 4, 5, 6, 7, 8, 9, 10, 11, 12, 13, 14, 15, 16, 17, 18, 19, 20, 21, 22, 23, 24, 25], [0, 0, 3, 7, 15, 31, 63, 31, 159, 511, 1023, 2047, 4095, 8191, 4095, 20479, 65535, 131071, 262143, 524287, 524287, 2097151, 4194303, 524287, 16777215, 33554431]), (13, [0, 1, 2, 3, 4, 5], [0, 0, 3, 7, 0, 31])]) Try.func14 rfl (by kernel_rfl) T_ok (Cons.cons con_solver_ClampImpulses (Cons.cons con_ref35_IsFriction (Cons.cons con_law35_example (Cons.nil _)))) mixed (by kernel_rfl) _ _ _ (fun l R hl hR hn hpre => ?_)
  match l, hl, R, hR with
  | [], zl, [(true, xs)], zr =>
    clear zl zr
    obtain rfl : xs = [] := hn _ (List.Mem.head _) rfl
    have hp0 := hpre _ (List.Mem.head _); try dsimp only at hp0
    repeat' (first | (with_reducible refine And.intro ?_ ?_) | (with_reducible intro h) | ((fail_if_success (with_reducible refine Leaf.mk ?_)); (fail_if_success (with_reducible refine VC.mk ?_)); (fail_if_success (with_reducible refine Goes.mk ?_)); (fail_if_success (with_reducible refine Again.mk ?_)); (fail_if_success (with_reducible refine Rounds.mk ?_)); (fail_if_success (with_reducible show False)); (fail_if_success (with_reducible show True)); conv => whnf))
    all_goals try simp only [decide_eq_true_eq, decide_eq_false_iff_not, tkA, tkL, Nat.zero_add, Nat.reduceAdd, Int.toNat_natCast, List.take_nil, List.nil_append] at *
    all_goals try simp only [Bool.not_eq_true', Bool.not_eq_false', Bool.and_eq_true, Bool.and_eq_false_imp, decide_eq_true_eq, decide_eq_false_iff_not] at *
    all_goals try simp only [tkL, tkc, tkw, tki, tkj, tks, tkt, clN_len, wsN_len, ap_len, solR_len, solB_len, itN_len1, itN_len2, seN_len1, seN_len2, Nat.zero_add] at *
    all_goals try first | exact trivial | (show False; omega) | exact Leaf.mk trivial | exact Leaf.mk rfl | (refine VC.mk ?_; first | trivial | assumption | ((try simp only [InR, decide_eq_true_eq, decide_eq_false_iff_not] at *); omega) | (simp; done))
    all_goals try (refine VC.mk ?_; first | trivial | (first | assumption | exact wf_nil _ | exact wsN_wf _ (by first | assumption | exact wf_nil _) _ | exact clN_wf (by first | assumption | exact wf_nil _) _ | exact (itN_wf (by first | assumption | exact wf_nil _) (by first | assumption | exact wf_nil _) _).1 | exact (itN_wf (by first | assumption | exact wf_nil _) (by first | assumption | exact wf_nil _) _).2 | exact (seN_wf (by first | assumption | exact wf_nil _) (by first | assumption | exact wf_nil _) _).1 | exact (seN_wf (by first | assumption | exact wf_nil _) (by first | assumption | exact wf_nil _) _).2) | (simp only [List.length_nil] at *; omega) | omega | (generalize decide _ = bb; cases bb <;> simp) | (intro hh; generalize decide _ = bb at *; cases bb <;> simp_all) | (simp; done))
    all_goals try refine goes_rounds 1 ?_
    all_goals try (refine rounds_one (pl := [(10, [0, 1, 2, 3, 4, 5, 6, 7, 8, 9, 10, 11, 12, 13, 14, 15, 16, 17, 18, 19, 20, 21, 22, 23, 24, 25], [0, 0, 3, 7, 15, 31, 63, 31, 159, 511, 1023, 2047, 4095, 8191, 4095, 20479, 65535, 131071, 262143, 524287, 524287, 2097151, 4194303, 524287, 16777215, 33554431]), (13, [0, 1, 2, 3, 4, 5], [0, 0, 3, 7, 0, 31])]) T_ok (Cons.cons con_solver_ClampImpulses (Cons.cons con_ref35_IsFriction (Cons.cons con_law35_example (Cons.nil _)))) mixed (by kernel_rfl) ?_; repeat' (first | (with_reducible refine And.intro ?_ ?_) | (with_reducible intro h) | ((fail_if_success (with_reducible refine Leaf.mk ?_)); (fail_if_success (with_reducible refine VC.mk ?_)); (fail_if_success (with_reducible refine Goes.mk ?_)); (fail_if_success (with_reducible refine Again.mk ?_)); (fail_if_success (with_reducible refine Rounds.mk ?_)); (fail_if_success (with_reducible show False)); (fail_if_success (with_reducible show True)); conv => whnf)))
    all_goals try simp only [decide_eq_true_eq, decide_eq_false_iff_not, tkA, tkL, Nat.zero_add, Nat.reduceAdd, Int.toNat_natCast, List.take_nil, List.nil_append] at *
    all_goals try simp only [List.length_nil, Int.natCast_zero, Int.ofNat_zero] at *
    all_goals try (exfalso; omega)
    all_goals try first | exact trivial | (show False; omega) | exact Leaf.mk trivial | exact Leaf.mk rfl | (refine VC.mk ?_; first | trivial | assumption | ((try simp only [InR, decide_eq_true_eq, decide_eq_false_iff_not] at *); omega) | (simp; done))
    all_goals try (refine VC.mk ?_; first | trivial | (first | assumption | exact wf_nil _ | exact wsN_wf _ (by first | assumption | exact wf_nil _) _ | exact clN_wf (by first | assumption | exact wf_nil _) _ | exact (itN_wf (by first | assumption | exact wf_nil _) (by first | assumption | exact wf_nil _) _).1 | exact (itN_wf (by first | assumption | exact wf_nil _) (by first | assumption | exact wf_nil _) _).2 | exact (seN_wf (by first | assumption | exact wf_nil _) (by first | assumption | exact wf_nil _) _).1 | exact (seN_wf (by first | assumption | exact wf_nil _) (by first | assumption | exact wf_nil _) _).2) | (simp only [List.length_nil] at *; omega) | omega | (generalize decide _ = bb; cases bb <;> simp) | (intro hh; generalize decide _ = bb at *; cases bb <;> simp_all) | (simp; done))
    all_goals try (exfalso; simp at *; done)
    all_goals try (exfalso; simp at *; omega)
  | [], zl, [(false, xs)], zr =>
    clear zl zr
    have hp0 := hpre _ (List.Mem.head _); try dsimp only at hp0
    repeat' (first | (with_reducible refine And.intro ?_ ?_) | (with_reducible intro h) | ((fail_if_success (with_reducible refine Leaf.mk ?_)); (fail_if_success (with_reducible refine VC.mk ?_)); (fail_if_success (with_reducible refine Goes.mk ?_)); (fail_if_success (with_reducible refine Again.mk ?_)); (fail_if_success (with_reducible refine Rounds.mk ?_)); (fail_if_success (with_reducible show False)); (fail_if_success (with_reducible show True)); conv => whnf))
    all_goals try simp only [decide_eq_true_eq, decide_eq_false_iff_not, tkA, tkL, Nat.zero_add, Nat.reduceAdd, Int.toNat_natCast, List.take_nil, List.nil_append] at *
    all_goals try simp only [Bool.not_eq_true', Bool.not_eq_false', Bool.and_eq_true, Bool.and_eq_false_imp, decide_eq_true_eq, decide_eq_false_iff_not] at *
    all_goals try simp only [tkL, tkc, tkw, tki, tkj, tks, tkt, clN_len, wsN_len, ap_len, solR_len, solB_len, itN_len1, itN_len2, seN_len1, seN_len2, Nat.zero_add] at *
    all_goals try first | exact trivial | (show False; omega) | exact Leaf.mk trivial | exact Leaf.mk rfl | (refine VC.mk ?_; first | trivial | assumption | ((try simp only [InR, decide_eq_true_eq, decide_eq_false_iff_not] at *); omega) | (simp; done))
    all_goals try (refine VC.mk ?_; first | trivial | (first | assumption | exact wf_nil _ | exact wsN_wf _ (by first | assumption | exact wf_nil _) _ | exact clN_wf (by first | assumption | exact wf_nil _) _ | exact (itN_wf (by first | assumption | exact wf_nil _) (by first | assumption | exact wf_nil _) _).1 | exact (itN_wf (by first | assumption | exact wf_nil _) (by first | assumption | exact wf_nil _) _).2 | exact (seN_wf (by first | assumption | exact wf_nil _) (by first | assumption | exact wf_nil _) _).1 | exact (seN_wf (by first | assumption | exact wf_nil _) (by first | assumption | exact wf_nil _) _).2) | (simp only [List.length_nil] at *; omega) | omega | (generalize decide _ = bb; cases bb <;> simp) | (intro hh; generalize decide _ = bb at *; cases bb <;> simp_all) | (simp; done))
    all_goals try (refine Leaf.mk ?_; exfalso; first | omega | (simp only [eq_self, not_true_eq_false] at *; done))
    refine goes_inv (X := Nat) (pl := [(10, [0, 1, 2, 3, 4, 5, 6, 7, 8, 9, 10, 11, 12, 13, 14, 15, 16, 17, 18, 19, 20, 21, 22, 23, 24, 25], [0, 0, 3, 7, 15, 31, 63, 31, 159, 511, 1023, 2047, 4095, 8191, 4095, 20479, 65535, 131071, 262143, 524287, 524287, 2097151, 4194303, 524287, 16777215, 33554431]), (13, [0, 1, 2, 3, 4, 5], [0, 0, 3, 7, 0, 31])]) T_ok (Cons.cons con_solver_ClampImpulses (Cons.cons con_ref35_IsFriction (Cons.cons con_law35_example (Cons.nil _)))) mixed (by kernel_rfl)
      (fun k => (.sl 0 14 0 xs.length :: .any :: .any :: .osl (decide (xs.length = 0)) 1 14 xs.length :: .int .i64 (k : Int) :: .any :: .any :: .any :: .any :: .any :: .any :: .any :: .any :: .any :: .any :: .any :: .any :: .any :: .any :: .any :: .any :: .any :: .any :: .any :: .any :: .any :: .any :: .any :: .any :: .any :: .any :: .any :: .any :: .any :: .any :: .any :: .any :: .any :: .any :: .any :: .any :: .any :: .any :: .any :: .any :: .any :: .any :: .any :: .any :: .any :: .any :: .any :: .any :: .any :: .any :: .any :: .any :: .any :: .any :: .any :: .any :: .any :: .any :: .any :: .any :: .any :: [], [.arr false true 14 xs, .arr true (!decide (xs.length = 0)) 14 (clN xs xs.length)]))
      (fun k => k ≤ xs.length) (fun k => xs.length - k) 0 [0, 1] (Nat.zero_le _) ?_ ?_ ?_
    · repeat' (first | (with_reducible refine And.intro ?_ ?_) | (with_reducible intro h) | ((fail_if_success (with_reducible refine Leaf.mk ?_)); (fail_if_success (with_reducible refine VC.mk ?_)); (fail_if_success (with_reducible refine Goes.mk ?_)); (fail_if_success (with_reducible refine Again.mk ?_)); (fail_if_success (with_reducible refine Rounds.mk ?_)); (fail_if_success (with_reducible show False)); (fail_if_success (with_reducible show True)); conv => whnf))
      all_goals first | exact trivial | (refine Leaf.mk ?_; first | rfl | exact ⟨rfl, rfl⟩ | (simp; done))
    · repeat' (first | (with_reducible refine And.intro ?_ ?_) | (with_reducible intro h) | ((fail_if_success (with_reducible refine Leaf.mk ?_)); (fail_if_success (with_reducible refine VC.mk ?_)); (fail_if_success (with_reducible refine Goes.mk ?_)); (fail_if_success (with_reducible refine Again.mk ?_)); (fail_if_success (with_reducible refine Rounds.mk ?_)); (fail_if_success (with_reducible show False)); (fail_if_success (with_reducible show True)); conv => whnf))
      all_goals first | exact trivial | (refine Leaf.mk ?_; first | rfl | exact ⟨rfl, rfl⟩ | (simp; done))
    · intro k hx
      by_cases hk : k < xs.length
      · have f := clN_fields hp0 xs.length (Nat.le_refl _) k hk
        have e0 := f 0 (by decide)
        have e1 := f 1 (by decide)
        have e2 := f 2 (by decide)
        have e3 := f 3 (by decide)
        have e4 := f 4 (by decide)
        have e5 := f 5 (by decide)
        have e6 := f 6 (by decide)
        have e7 := f 7 (by decide)
        have e8 := f 8 (by decide)
        have e9 := f 9 (by decide)
        have e10 := f 10 (by decide)
        have e12 := f 12 (by decide)
        have e13 := f 13 (by decide)
        repeat' (first | (with_reducible refine And.intro ?_ ?_) | (with_reducible intro h) | ((fail_if_success (with_reducible refine Leaf.mk ?_)); (fail_if_success (with_reducible refine VC.mk ?_)); (fail_if_success (with_reducible refine Goes.mk ?_)); (fail_if_success (with_reducible refine Again.mk ?_)); (fail_if_success (with_reducible refine Rounds.mk ?_)); (fail_if_success (with_reducible show False)); (fail_if_success (with_reducible show True)); conv => whnf))
        all_goals try simp only [decide_eq_true_eq, decide_eq_false_iff_not, tkA, tkL, Nat.zero_add, Nat.reduceAdd, Int.toNat_natCast, List.take_nil, List.nil_append] at *
        all_goals try simp only [Bool.not_eq_true', Bool.not_eq_false', Bool.and_eq_true, Bool.and_eq_false_imp, decide_eq_true_eq, decide_eq_false_iff_not] at *
        all_goals try simp only [tkL, tkc, tkw, tki, tkj, tks, tkt, clN_len, wsN_len, ap_len, solR_len, solB_len, itN_len1, itN_len2, seN_len1, seN_len2, Nat.zero_add] at *
        all_goals try first | exact trivial | (show False; omega) | exact Leaf.mk trivial | exact Leaf.mk rfl | (refine VC.mk ?_; first | trivial | assumption | ((try simp only [InR, decide_eq_true_eq, decide_eq_false_iff_not] at *); omega) | (simp; done))
        all_goals try (refine VC.mk ?_; first | trivial | (first | assumption | exact wf_nil _ | exact wsN_wf _ (by first | assumption | exact wf_nil _) _ | exact clN_wf (by first | assumption | exact wf_nil _) _ | exact (itN_wf (by first | assumption | exact wf_nil _) (by first | assumption | exact wf_nil _) _).1 | exact (itN_wf (by first | assumption | exact wf_nil _) (by first | assumption | exact wf_nil _) _).2 | exact (seN_wf (by first | assumption | exact wf_nil _) (by first | assumption | exact wf_nil _) _).1 | exact (seN_wf (by first | assumption | exact wf_nil _) (by first | assumption | exact wf_nil _) _).2) | (simp only [List.length_nil] at *; omega) | omega | (generalize decide _ = bb; cases bb <;> simp) | (intro hh; generalize decide _ = bb at *; cases bb <;> simp_all) | (simp; done))
        all_goals try (have e11 : at2 (clN xs xs.length) k 11 = at2 xs k 11 := (by rw [clN_plain hp0 hk (by assumption)]; unfold clamp; rw [if_neg (by omega), if_neg (by omega)])
                       refine Leaf.mk ?_; exfalso; simp only [e0, e1, e2, e3, e4, e5, e6, e7, e8, e9, e10, e12, e13, e11, eq_self, decide_true, Bool.and_true, Bool.and_self, Bool.true_and, true_and, and_self, and_true, not_true_eq_false, forall_const, Bool.true_eq_false, true_implies, reduceCtorEq] at *; done)
        all_goals try (refine Leaf.mk ?_; exfalso; simp only [e0, e1, e2, e3, e4, e5, e6, e7, e8, e9, e10, e12, e13, eq_self, decide_true, Bool.and_true, Bool.and_self, Bool.true_and, true_and, and_self, and_true, not_true_eq_false, forall_const, Bool.true_eq_false, true_implies, reduceCtorEq] at *; done)
        all_goals (refine Again.mk ⟨k + 1, [0, 1], hk, (by omega), ?_, ?_⟩ <;> (repeat' (first | (with_reducible refine And.intro ?_ ?_) | (with_reducible intro h) | ((fail_if_success (with_reducible refine Leaf.mk ?_)); (fail_if_success (with_reducible refine VC.mk ?_)); (fail_if_success (with_reducible refine Goes.mk ?_)); (fail_if_success (with_reducible refine Again.mk ?_)); (fail_if_success (with_reducible refine Rounds.mk ?_)); (fail_if_success (with_reducible show False)); (fail_if_success (with_reducible show True)); conv => whnf))) <;> first | exact trivial | (refine Leaf.mk ?_; first | rfl | exact ⟨rfl, rfl⟩ | (simp; done)))
      · repeat' (first | (with_reducible refine And.intro ?_ ?_) | (with_reducible intro h) | ((fail_if_success (with_reducible refine Leaf.mk ?_)); (fail_if_success (with_reducible refine VC.mk ?_)); (fail_if_success (with_reducible refine Goes.mk ?_)); (fail_if_success (with_reducible refine Again.mk ?_)); (fail_if_success (with_reducible refine Rounds.mk ?_)); (fail_if_success (with_reducible show False)); (fail_if_success (with_reducible show True)); conv => whnf))
        all_goals try simp only [decide_eq_true_eq, decide_eq_false_iff_not, tkA, tkL, Nat.zero_add, Nat.reduceAdd, Int.toNat_natCast, List.take_nil, List.nil_append] at *
        all_goals try simp only [Bool.not_eq_true', Bool.not_eq_false', Bool.and_eq_true, Bool.and_eq_false_imp, decide_eq_true_eq, decide_eq_false_iff_not] at *
        all_goals try simp only [tkL, tkc, tkw, tki, tkj, tks, tkt, clN_len, wsN_len, ap_len, solR_len, solB_len, itN_len1, itN_len2, seN_len1, seN_len2, Nat.zero_add] at *
        all_goals try first | exact trivial | (show False; omega) | exact Leaf.mk trivial | exact Leaf.mk rfl | (refine VC.mk ?_; first | trivial | assumption | ((try simp only [InR, decide_eq_true_eq, decide_eq_false_iff_not] at *); omega) | (simp; done))
        all_goals try (refine VC.mk ?_; first | trivial | (first | assumption | exact wf_nil _ | exact wsN_wf _ (by first | assumption | exact wf_nil _) _ | exact clN_wf (by first | assumption | exact wf_nil _) _ | exact (itN_wf (by first | assumption | exact wf_nil _) (by first | assumption | exact wf_nil _) _).1 | exact (itN_wf (by first | assumption | exact wf_nil _) (by first | assumption | exact wf_nil _) _).2 | exact (seN_wf (by first | assumption | exact wf_nil _) (by first | assumption | exact wf_nil _) _).1 | exact (seN_wf (by first | assumption | exact wf_nil _) (by first | assumption | exact wf_nil _) _).2) | (simp only [List.length_nil] at *; omega) | omega | (generalize decide _ = bb; cases bb <;> simp) | (intro hh; generalize decide _ = bb at *; cases bb <;> simp_all) | (simp; done))
        all_goals try (exfalso; omega)

theorem walk_SolverClampImpulses  (bxs : Bool) (xs : List (List Int)) (w : World) (m : Ev.Map) (vxs : Value) (nxs : bxs = true → xs = []) (fxs : ∀ x ∈ xs, x.length = 14 ∧ ∀ y ∈ x, -9223372036854775808 ≤ y ∧ y ≤ 9223372036854775807) (dxs : Den m (rowArg bxs 0 14 xs) vxs ∧ BlkH m 0 w (.arr false (!bxs) 14 xs)) :
    Calls Try.prog 14 #[vxs] w fun e w' => e = .returned (.bool true) ∧ Below w.heap.size w w' := by
  cases bxs with
  | false =>
    exact Frame.calls_rows con_law_SolverClampImpulses [rowArg false 0 14 xs] (fun id => match id with | 0 => .arr false true 14 xs | _ => .dead) [] _ _ [vxs] rfl (by simp [appP]) (List.forall_mem_cons.2 ⟨fun x hx => (fxs x (mem_tk hx)).1, (List.forall_mem_nil _)⟩) m w ⟨dxs.1, trivial⟩ (fun id => by match id with | 0 => exact dxs.2 | _ + 1 => trivial) (fun id => by match id with | 0 => rfl | _ + 1 => rfl) rfl
  | true =>
    obtain rfl := nxs rfl
    exact Frame.calls_rows con_law_SolverClampImpulses [rowArg true 0 14 []] (fun id => match id with | 0 => .arr false false 14 [] | _ => .dead) [] _ _ [vxs] rfl (by simp [appP]) (List.forall_mem_cons.2 ⟨fun x hx => (by cases hx), (List.forall_mem_nil _)⟩) m w ⟨dxs.1, trivial⟩ (fun id => by match id with | 0 => exact dxs.2 | _ + 1 => trivial) (fun id => by match id with | 0 => rfl | _ + 1 => rfl) rfl
end Go.Proofs.Ytapbegcmdiemoaa
