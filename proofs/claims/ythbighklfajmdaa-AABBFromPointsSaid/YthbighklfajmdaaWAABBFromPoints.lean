/- The walk of caromlaw05.AABBFromPoints. -/
import Derived.Test.YthbighklfajmdaaK10
import Derived.Test.YthbighklfajmdaaFs
namespace Go.Proofs.Ythbighklfajmdaa
open Go.RowKit Fx Vx Bx Ev
set_option linter.unusedVariables false
set_option linter.unusedSimpArgs false

theorem foldl_min (f : List Int → Int) (a b : Int) : ∀ l : List (List Int), l.foldl (fun a p => min a (f p)) (min a b) = min a (l.foldl (fun a p => min a (f p)) b)
  | [] => rfl
  | p :: l => by
    simp only [List.foldl_cons]
    rw [show min (min a b) (f p) = min a (min b (f p)) by omega, foldl_min f a (min b (f p)) l]
theorem foldl_max (f : List Int → Int) (a b : Int) : ∀ l : List (List Int), l.foldl (fun a p => max a (f p)) (max a b) = max a (l.foldl (fun a p => max a (f p)) b)
  | [] => rfl
  | p :: l => by
    simp only [List.foldl_cons]
    rw [show max (max a b) (f p) = max a (max b (f p)) by omega, foldl_max f a (max b (f p)) l]
theorem loP_cons (j : Nat) (x : List Int) {r : List (List Int)} (h : r ≠ []) : loP j (x :: r) = min (sat (x.getD j 0)) (loP j r) := by
  cases r with
  | nil => exact absurd rfl h
  | cons y s => simp only [loP, List.foldl_cons]; exact foldl_min (fun p => sat (p.getD j 0)) _ _ s
theorem hiP_cons (j : Nat) (x : List Int) {r : List (List Int)} (h : r ≠ []) : hiP j (x :: r) = max (sat (x.getD j 0)) (hiP j r) := by
  cases r with
  | nil => exact absurd rfl h
  | cons y s => simp only [hiP, List.foldl_cons]; exact foldl_max (fun p => sat (p.getD j 0)) _ _ s
theorem lo_app (j : Nat) : ∀ {xs ys : List (List Int)}, xs ≠ [] → ys ≠ [] → loP j (xs ++ ys) = min (loP j xs) (loP j ys) ∧ hiP j (xs ++ ys) = max (hiP j xs) (hiP j ys)
  | [x], ys, _, h => ⟨loP_cons j x h, hiP_cons j x h⟩
  | x :: y :: r, ys, _, h => by
    obtain ⟨h1, h2⟩ := lo_app j (xs := y :: r) (by simp) h
    rw [List.cons_append, loP_cons j x (by simp), hiP_cons j x (by simp), h1, h2, loP_cons j x (r := y :: r) (by simp), hiP_cons j x (r := y :: r) (by simp)]
    omega
theorem lo_bd (j : Nat) : ∀ {xs : List (List Int)}, xs ≠ [] → loP j xs ≤ hiP j xs ∧ -536870911 ≤ loP j xs ∧ hiP j xs ≤ 536870911 ∧ ∀ k, k < xs.length → loP j xs ≤ sat (at2 xs k j) ∧ sat (at2 xs k j) ≤ hiP j xs
  | [x], _ => by
    have := sat_bd (x.getD j 0)
    refine ⟨Int.le_refl _, this.1, this.2, fun k hk => ?_⟩
    obtain rfl : k = 0 := by simp at hk; omega
    exact ⟨Int.le_refl _, Int.le_refl _⟩
  | x :: y :: r, _ => by
    obtain ⟨h1, h2, h3, h4⟩ := lo_bd j (xs := y :: r) (by simp)
    have hb := sat_bd (x.getD j 0)
    rw [loP_cons j x (by simp), hiP_cons j x (by simp)]
    refine ⟨by omega, by omega, by omega, fun k hk => ?_⟩
    cases k with
    | zero =>
      have : at2 (x :: y :: r) 0 j = x.getD j 0 := rfl
      rw [this]; omega
    | succ k =>
      have e : at2 (x :: y :: r) (k + 1) j = at2 (y :: r) k j := rfl
      have := h4 k (by simpa using hk)
      rw [e]; omega
theorem box_ok {xs : List (List Int)} (h : xs ≠ []) : validB (loP 0 xs) (loP 1 xs) (hiP 0 xs) (hiP 1 xs) = true := by
  obtain ⟨a1, a2, a3, _⟩ := lo_bd 0 h
  obtain ⟨b1, b2, b3, _⟩ := lo_bd 1 h
  simp only [validB, satB, Bool.and_eq_true, decide_eq_true_eq, beq_iff_eq]
  exact ⟨⟨⟨a1, b1⟩, sat_id (by omega) (by omega), sat_id (by omega) (by omega)⟩, sat_id (by omega) (by omega), sat_id (by omega) (by omega)⟩
theorem box_has {xs : List (List Int)} {k : Nat} (hk : k < xs.length) : hasB (loP 0 xs) (loP 1 xs) (hiP 0 xs) (hiP 1 xs) (at2 xs k 0) (at2 xs k 1) = true := by
  have h : xs ≠ [] := by intro e; subst e; simp at hk
  obtain ⟨_, _, _, a⟩ := lo_bd 0 h
  obtain ⟨_, _, _, b⟩ := lo_bd 1 h
  have a := a k hk
  have b := b k hk
  simp only [hasB, box_ok h, Bool.true_and, Bool.and_eq_true, decide_eq_true_eq]
  omega
theorem box_union {xs ys : List (List Int)} (h : xs ≠ []) (h' : ys ≠ []) (m : Bool) :
    uni (validB (loP 0 xs) (loP 1 xs) (hiP 0 xs) (hiP 1 xs)) (validB (loP 0 ys) (loP 1 ys) (hiP 0 ys) (hiP 1 ys)) (min (loP 0 xs) (loP 0 ys)) (loP 0 xs) (loP 0 ys) = loP 0 (xs ++ ys) ∧
    uni (validB (loP 0 xs) (loP 1 xs) (hiP 0 xs) (hiP 1 xs)) (validB (loP 0 ys) (loP 1 ys) (hiP 0 ys) (hiP 1 ys)) (min (loP 1 xs) (loP 1 ys)) (loP 1 xs) (loP 1 ys) = loP 1 (xs ++ ys) ∧
    uni (validB (loP 0 xs) (loP 1 xs) (hiP 0 xs) (hiP 1 xs)) (validB (loP 0 ys) (loP 1 ys) (hiP 0 ys) (hiP 1 ys)) (max (hiP 0 xs) (hiP 0 ys)) (hiP 0 xs) (hiP 0 ys) = hiP 0 (xs ++ ys) ∧
    uni (validB (loP 0 xs) (loP 1 xs) (hiP 0 xs) (hiP 1 xs)) (validB (loP 0 ys) (loP 1 ys) (hiP 0 ys) (hiP 1 ys)) (max (hiP 1 xs) (hiP 1 ys)) (hiP 1 xs) (hiP 1 ys) = hiP 1 (xs ++ ys) := by
  rw [box_ok h, box_ok h', (lo_app 0 h h').1, (lo_app 1 h h').1, (lo_app 0 h h').2, (lo_app 1 h h').2]
  exact ⟨rfl, rfl, rfl, rfl⟩
theorem emp_dec (xs : List (List Int)) : (!xs.isEmpty) = decide (0 < (xs.length : Int)) := by cases xs <;> simp <;> omega
theorem emp_ne {xs : List (List Int)} (h : (!xs.isEmpty) = true) : xs ≠ [] := by intro e; subst e; simp at h
theorem emp_ne' {xs : List (List Int)} (h : xs.isEmpty = false) : xs ≠ [] := by intro e; subst e; simp at h
theorem tk_dr (xs : List (List Int)) (n : Nat) : List.take (xs.length - n) (List.drop n xs) = List.drop n xs := List.take_of_length_le (by simp)
theorem lo_nil : loP 0 [] = 0 ∧ loP 1 [] = 0 ∧ hiP 0 [] = 0 ∧ hiP 1 [] = 0 := ⟨rfl, rfl, rfl, rfl⟩

def c_law_AABBFromPoints : Con := ⟨8, rowRun [.rows 2, .u8] (fun l R => match l, R with | [u], [xs] => [0 ≤ u ∧ u ≤ 255] | _, _ => [False]) fun l R => match l, R with
  | [u], [xs] => .bool true
  | _, _ => .any⟩
set_option maxRecDepth 100000 in
set_option maxHeartbeats 8000000 in
theorem con_law_AABBFromPoints : c_law_AABBFromPoints.Ok Try.prog := by
  refine con_rows (C := [c_aabb_FromPoints, c_ref05_FromPoints, c_aabb_ContainsPoint, c_aabb_Union, c_law05_example]) (pl := [(10, [0, 1, 2, 3, 4, 5, 6], [0, 0, 0, 6, 14, 31, 63]), (15, [0, 1, 2, 3, 4, 5, 6, 7, 8, 9, 10, 11, 12, 13, 14, 15, 16, 17, 18, 19, 20, 21, 22, 23, 24], [0, 1, 3, 7, 15, 31, 63, 127, 127, 511, 127, 2047, 4095, 8191, 16383, 32767, 65535, 65535, 262143, 524287, 1048575, 2097151, 4194303, 8388607, 16777215])]) Try.func8 rfl (by kernel_rfl) T_ok (Cons.cons con_aabb_FromPoints (Cons.cons con_ref05_FromPoints (Cons.cons con_aabb_ContainsPoint (Cons.cons con_aabb_Union (Cons.cons con_law05_example (Cons.nil _)))))) mixed (by kernel_rfl) _ _ _ (fun l R hl hR hn hpre => ?_)
  match l, hl, R, hR with
  | [u], zl, [(true, xs)], zr =>
    clear zl zr
    obtain rfl : xs = [] := hn _ (List.Mem.head _) rfl
    have hp0 := hpre _ (List.Mem.head _); try dsimp only at hp0
    repeat' (first | (with_reducible refine And.intro ?_ ?_) | (with_reducible intro h) | ((fail_if_success (with_reducible refine Leaf.mk ?_)); (fail_if_success (with_reducible refine VC.mk ?_)); (fail_if_success (with_reducible refine Goes.mk ?_)); (fail_if_success (with_reducible refine Again.mk ?_)); (fail_if_success (with_reducible refine Rounds.mk ?_)); (fail_if_success (with_reducible show False)); (fail_if_success (with_reducible show True)); conv => whnf))
    all_goals try simp only [decide_eq_true_eq, decide_eq_false_iff_not, Bool.not_eq_true', Bool.not_eq_false', Nat.zero_add, Int.toNat_natCast, List.drop_zero, List.take_length, List.length_nil] at *
    all_goals try first | exact trivial | (show False; omega) | exact Leaf.mk trivial | exact Leaf.mk rfl | (refine VC.mk ?_; first | trivial | assumption | ((try simp only [InR, decide_eq_true_eq, decide_eq_false_iff_not] at *); omega) | (simp; done))
    all_goals try (refine Leaf.mk ?_; exfalso; simp at *; done)
    all_goals try refine goes_rounds 1 ?_
    all_goals try (refine rounds_one (pl := [(10, [0, 1, 2, 3, 4, 5, 6], [0, 0, 0, 6, 14, 31, 63]), (15, [0, 1, 2, 3, 4, 5, 6, 7, 8, 9, 10, 11, 12, 13, 14, 15, 16, 17, 18, 19, 20, 21, 22, 23, 24], [0, 1, 3, 7, 15, 31, 63, 127, 127, 511, 127, 2047, 4095, 8191, 16383, 32767, 65535, 65535, 262143, 524287, 1048575, 2097151, 4194303, 8388607, 16777215])]) T_ok (Cons.cons con_aabb_FromPoints (Cons.cons con_ref05_FromPoints (Cons.cons con_aabb_ContainsPoint (Cons.cons con_aabb_Union (Cons.cons con_law05_example (Cons.nil _)))))) mixed (by kernel_rfl) ?_; repeat' (first | (with_reducible refine And.intro ?_ ?_) | (with_reducible intro h) | ((fail_if_success (with_reducible refine Leaf.mk ?_)); (fail_if_success (with_reducible refine VC.mk ?_)); (fail_if_success (with_reducible refine Goes.mk ?_)); (fail_if_success (with_reducible refine Again.mk ?_)); (fail_if_success (with_reducible refine Rounds.mk ?_)); (fail_if_success (with_reducible show False)); (fail_if_success (with_reducible show True)); conv => whnf)))
    all_goals try simp only [decide_eq_true_eq, decide_eq_false_iff_not, Bool.not_eq_true', Bool.not_eq_false', Nat.zero_add, Int.toNat_natCast, List.drop_zero, List.take_length, List.length_nil] at *
    all_goals try (exfalso; simp at *; done)
    all_goals try (refine VC.mk ?_; first | (simp [InR]; done) | (simp only [InR]; omega) | (simp; omega))
    all_goals try (refine VC.mk ?_; first | (simp; done) | (simp only [InR]; omega) | omega)
    all_goals try (exfalso; simp at *; done)
    all_goals try exact Leaf.mk trivial
    all_goals (refine Leaf.mk ?_; exfalso; simp [loP, hiP] at *; done)
  | [u], zl, [(false, xs)], zr =>
    clear zl zr
    have hp0 := hpre _ (List.Mem.head _); try dsimp only at hp0
    repeat' (first | (with_reducible refine And.intro ?_ ?_) | (with_reducible intro h) | ((fail_if_success (with_reducible refine Leaf.mk ?_)); (fail_if_success (with_reducible refine VC.mk ?_)); (fail_if_success (with_reducible refine Goes.mk ?_)); (fail_if_success (with_reducible refine Again.mk ?_)); (fail_if_success (with_reducible refine Rounds.mk ?_)); (fail_if_success (with_reducible show False)); (fail_if_success (with_reducible show True)); conv => whnf))
    all_goals try simp only [decide_eq_true_eq, decide_eq_false_iff_not, Bool.not_eq_true', Bool.not_eq_false', Nat.zero_add, Int.toNat_natCast, List.drop_zero, List.take_length, List.length_nil] at *
    all_goals try first | exact trivial | (show False; omega) | exact Leaf.mk trivial | exact Leaf.mk rfl | (refine VC.mk ?_; first | trivial | assumption | ((try simp only [InR, decide_eq_true_eq, decide_eq_false_iff_not] at *); omega) | (simp; done))
    all_goals try (refine Leaf.mk ?_; exfalso; have ed := emp_dec xs; first | (simp only [ed, beq_self_eq_true, Bool.true_eq_false] at *; done) | (simp at *; done))
    refine goes_inv (X := Nat) (pl := [(10, [0, 1, 2, 3, 4, 5, 6], [0, 0, 0, 6, 14, 31, 63]), (15, [0, 1, 2, 3, 4, 5, 6, 7, 8, 9, 10, 11, 12, 13, 14, 15, 16, 17, 18, 19, 20, 21, 22, 23, 24], [0, 1, 3, 7, 15, 31, 63, 127, 127, 511, 127, 2047, 4095, 8191, 16383, 32767, 65535, 65535, 262143, 524287, 1048575, 2097151, 4194303, 8388607, 16777215])]) T_ok (Cons.cons con_aabb_FromPoints (Cons.cons con_ref05_FromPoints (Cons.cons con_aabb_ContainsPoint (Cons.cons con_aabb_Union (Cons.cons con_law05_example (Cons.nil _)))))) mixed (by kernel_rfl)
      (fun k => (.sl 0 2 0 xs.length :: .int .u8 u :: .any :: .any :: .any :: .ptr 1 0 :: .bool (!xs.isEmpty) :: .any :: .any :: .int .i64 (k : Int) :: .any :: .any :: .any :: .any :: .any :: .any :: .any :: .any :: .any :: .any :: .any :: .any :: .any :: .any :: .any :: .any :: .any :: .any :: .any :: .any :: .any :: .any :: .any :: .any :: .any :: .any :: .any :: .any :: .any :: .any :: .any :: .any :: .any :: .any :: .any :: .any :: .any :: .any :: .any :: .any :: .any :: .any :: .any :: .any :: .any :: .any :: .any :: .any :: .any :: .any :: .any :: .any :: .any :: .any :: .any :: .any :: .any :: .any :: .any :: .any :: .any :: .any :: .any :: .any :: .any :: .any :: .any :: .any :: .any :: .any :: .any :: .any :: .any :: .any :: .any :: .any :: .any :: .any :: .any :: .any :: .any :: .any :: .any :: .any :: .any :: .any :: .any :: .any :: .any :: .any :: .any :: [], [.arr false true 2 xs, .cells [.int .i64 (loP 0 xs), .int .i64 (loP 1 xs), .int .i64 (hiP 0 xs), .int .i64 (hiP 1 xs)]]))
      (fun k => k ≤ xs.length) (fun k => xs.length - k) 0 [0, 1] (Nat.zero_le _) ?_ ?_ ?_
    · repeat' (first | (with_reducible refine And.intro ?_ ?_) | (with_reducible intro h) | ((fail_if_success (with_reducible refine Leaf.mk ?_)); (fail_if_success (with_reducible refine VC.mk ?_)); (fail_if_success (with_reducible refine Goes.mk ?_)); (fail_if_success (with_reducible refine Again.mk ?_)); (fail_if_success (with_reducible refine Rounds.mk ?_)); (fail_if_success (with_reducible show False)); (fail_if_success (with_reducible show True)); conv => whnf))
      all_goals first | exact trivial | (refine Leaf.mk ?_; first | rfl | exact ⟨rfl, rfl⟩ | (simp; done))
    · repeat' (first | (with_reducible refine And.intro ?_ ?_) | (with_reducible intro h) | ((fail_if_success (with_reducible refine Leaf.mk ?_)); (fail_if_success (with_reducible refine VC.mk ?_)); (fail_if_success (with_reducible refine Goes.mk ?_)); (fail_if_success (with_reducible refine Again.mk ?_)); (fail_if_success (with_reducible refine Rounds.mk ?_)); (fail_if_success (with_reducible show False)); (fail_if_success (with_reducible show True)); conv => whnf))
      all_goals first | exact trivial | (refine Leaf.mk ?_; first | rfl | exact ⟨rfl, rfl⟩ | (simp; done))
    · intro k hx
      by_cases hk : k < xs.length
      · have hh := box_has hk
        repeat' (first | (with_reducible refine And.intro ?_ ?_) | (with_reducible intro h) | ((fail_if_success (with_reducible refine Leaf.mk ?_)); (fail_if_success (with_reducible refine VC.mk ?_)); (fail_if_success (with_reducible refine Goes.mk ?_)); (fail_if_success (with_reducible refine Again.mk ?_)); (fail_if_success (with_reducible refine Rounds.mk ?_)); (fail_if_success (with_reducible show False)); (fail_if_success (with_reducible show True)); conv => whnf))
        all_goals try simp only [decide_eq_true_eq, decide_eq_false_iff_not, Bool.not_eq_true', Bool.not_eq_false', Nat.zero_add, Int.toNat_natCast, List.drop_zero, List.take_length, List.length_nil] at *
        all_goals try first | exact trivial | (show False; omega) | exact Leaf.mk trivial | exact Leaf.mk rfl | (refine VC.mk ?_; first | trivial | assumption | ((try simp only [InR, decide_eq_true_eq, decide_eq_false_iff_not] at *); omega) | (simp; done))
        all_goals try (refine Leaf.mk ?_; exfalso; first | omega | (rw [hh] at *; simp at *; done) | (simp_all; done))
        all_goals (refine Again.mk ⟨k + 1, [0, 1], hk, (by omega), ?_, ?_⟩ <;> (repeat' (first | (with_reducible refine And.intro ?_ ?_) | (with_reducible intro h) | ((fail_if_success (with_reducible refine Leaf.mk ?_)); (fail_if_success (with_reducible refine VC.mk ?_)); (fail_if_success (with_reducible refine Goes.mk ?_)); (fail_if_success (with_reducible refine Again.mk ?_)); (fail_if_success (with_reducible refine Rounds.mk ?_)); (fail_if_success (with_reducible show False)); (fail_if_success (with_reducible show True)); conv => whnf))) <;> first | exact trivial | (refine Leaf.mk ?_; first | rfl | exact ⟨rfl, rfl⟩ | (simp; done)))
      · repeat' (first | (with_reducible refine And.intro ?_ ?_) | (with_reducible intro h) | ((fail_if_success (with_reducible refine Leaf.mk ?_)); (fail_if_success (with_reducible refine VC.mk ?_)); (fail_if_success (with_reducible refine Goes.mk ?_)); (fail_if_success (with_reducible refine Again.mk ?_)); (fail_if_success (with_reducible refine Rounds.mk ?_)); (fail_if_success (with_reducible show False)); (fail_if_success (with_reducible show True)); conv => whnf))
        all_goals try simp only [decide_eq_true_eq, decide_eq_false_iff_not, Bool.not_eq_true', Bool.not_eq_false', Nat.zero_add, Int.toNat_natCast, List.drop_zero, List.take_length, List.length_nil] at *
        all_goals try first | exact trivial | (show False; omega) | exact Leaf.mk trivial | exact Leaf.mk rfl | (refine VC.mk ?_; first | trivial | assumption | ((try simp only [InR, decide_eq_true_eq, decide_eq_false_iff_not] at *); omega) | (simp; done))
        all_goals try (exfalso; omega)
        all_goals try (have hm1 : 0 ≤ u.tmod ((xs.length : Int) + 1) := Int.tmod_nonneg _ hp0.1; have hm2 : u.tmod ((xs.length : Int) + 1) < (xs.length : Int) + 1 := Int.tmod_lt_of_pos _ (by omega); refine VC.mk ?_; first | omega | exact ⟨trivial, by omega⟩ | (simp only [List.length_take, List.length_drop]; omega))
        all_goals try simp only [tk_dr] at *
        all_goals try exact Leaf.mk trivial
        all_goals try (have b1 : (List.take (u.tmod ((xs.length : Int) + 1)).toNat xs).isEmpty = false := (by assumption); have b2 : (List.drop (u.tmod ((xs.length : Int) + 1)).toNat xs).isEmpty = false := (by assumption); have bu := box_union (emp_ne' b1) (emp_ne' b2) true; rw [List.take_append_drop] at bu; refine Leaf.mk ?_; exfalso; simp only [bu.1, bu.2.1, bu.2.2.1, bu.2.2.2, decide_true, Bool.and_self, Bool.true_eq_false] at *; done)
        all_goals try (have b3 : xs.isEmpty = true := (by assumption); have b4 : xs = [] := List.isEmpty_iff.1 b3; subst b4; refine Leaf.mk ?_; exfalso; simp [loP, hiP] at *; done)

theorem walk_AABBFromPoints (u : Int) (bxs : Bool) (xs : List (List Int)) (w : World) (m : Ev.Map) (vxs : Value) (nxs : bxs = true → xs = []) (fxs : ∀ x ∈ xs, x.length = 2 ∧ ∀ y ∈ x, -9223372036854775808 ≤ y ∧ y ≤ 9223372036854775807) (dxs : Den m (rowArg bxs 0 2 xs) vxs ∧ BlkH m 0 w (.arr false (!bxs) 2 xs)) (uu : 0 ≤ u ∧ u ≤ 255) :
    Calls Try.prog 8 #[vxs, .int .u8 u] w fun e w' => e = .returned (.bool true) ∧ Below w.heap.size w w' := by
  cases bxs with
  | false =>
    exact Frame.calls_rows con_law_AABBFromPoints [rowArg false 0 2 xs, .int .u8 u] (fun id => match id with | 0 => .arr false true 2 xs | _ => .dead) [u] _ _ [vxs, .int .u8 u] rfl (by simp [appP]) (List.forall_mem_cons.2 ⟨uu, (List.forall_mem_nil _)⟩) m w ⟨dxs.1, rfl, trivial⟩ (fun id => by match id with | 0 => exact dxs.2 | _ + 1 => trivial) (fun id => by match id with | 0 => rfl | _ + 1 => rfl) rfl
  | true =>
    obtain rfl := nxs rfl
    exact Frame.calls_rows con_law_AABBFromPoints [rowArg true 0 2 [], .int .u8 u] (fun id => match id with | 0 => .arr false false 2 [] | _ => .dead) [u] _ _ [vxs, .int .u8 u] rfl (by simp [appP]) (List.forall_mem_cons.2 ⟨uu, (List.forall_mem_nil _)⟩) m w ⟨dxs.1, rfl, trivial⟩ (fun id => by match id with | 0 => exact dxs.2 | _ + 1 => trivial) (fun id => by match id with | 0 => rfl | _ + 1 => rfl) rfl
end Go.Proofs.Ythbighklfajmdaa
