/- The walk of caromlaw14.SATMoreVertices. -/
import Derived.Test.YtdoagjphjnbbnaaWSATMaxSeparation
import Derived.Test.YtdoagjphjnbbnaaFs
namespace Go.Proofs.Ytdoagjphjnbbnaa
open Go.RowKit Fx Vx Bx Ev
set_option linter.unusedVariables false
set_option linter.unusedSimpArgs false

theorem sepN_le (p q u v : Int) (ys : List (List Int)) : ∀ k j, j < k → sepN p q u v ys k ≤ sepD p q u v ys j
  | k + 1, j, hj => by
    rw [sepN]
    by_cases hc : k = 0 ∨ sepD p q u v ys k < sepN p q u v ys k
    · rw [if_pos hc]
      by_cases e : j = k
      · subst e; exact Int.le_refl _
      · have := sepN_le p q u v ys k j (by omega); omega
    · rw [if_neg hc]
      by_cases e : j = k
      · subst e; omega
      · exact sepN_le p q u v ys k j (by omega)
theorem sepN_at (p q u v : Int) (ys : List (List Int)) : ∀ k, 0 < k → ∃ j, j < k ∧ sepN p q u v ys k = sepD p q u v ys j
  | k + 1, _ => by
    rw [sepN]
    by_cases hc : k = 0 ∨ sepD p q u v ys k < sepN p q u v ys k
    · rw [if_pos hc]; exact ⟨k, by omega, rfl⟩
    · rw [if_neg hc]
      obtain ⟨j, h1, h2⟩ := sepN_at p q u v ys k (by omega)
      exact ⟨j, by omega, h2⟩
theorem sepE_more (xs ys zs : List (List Int)) (i : Nat) (h : 0 < ys.length) : sepE xs (ys ++ zs) i ≤ sepE xs ys i := by
  obtain ⟨j, h1, h2⟩ := sepN_at (enX xs i) (enY xs i) (at2 xs i 0) (at2 xs i 1) ys ys.length h
  unfold sepE
  rw [h2]
  have h3 := sepN_le (enX xs i) (enY xs i) (at2 xs i 0) (at2 xs i 1) (ys ++ zs) (ys ++ zs).length j (by simp; omega)
  have h4 : sepD (enX xs i) (enY xs i) (at2 xs i 0) (at2 xs i 1) (ys ++ zs) j = sepD (enX xs i) (enY xs i) (at2 xs i 0) (at2 xs i 1) ys j := by
    unfold sepD; rw [at2_left h1, at2_left h1]
  omega
theorem sepE_self (xs : List (List Int)) {i : Nat} (h : i < xs.length) : sepE xs xs i ≤ 0 := by
  have h3 := sepN_le (enX xs i) (enY xs i) (at2 xs i 0) (at2 xs i 1) xs xs.length i h
  have h4 : sepD (enX xs i) (enY xs i) (at2 xs i 0) (at2 xs i 1) xs i = 0 := by
    unfold sepD
    have : ∀ x : Int, sub x x = 0 := fun x => by unfold sub; rw [Int.sub_self]; decide
    rw [this, this]
    unfold dot
    rw [show sat 0 = 0 by decide, Int.mul_zero, Int.mul_zero, Int.add_zero, rd_zero]
    decide
  unfold sepE; omega
theorem msP_more {xs ys : List (List Int)} (zs : List (List Int)) (h : ¬ (xs.length : Int) < 2) (h' : ¬ (ys.length : Int) = 0) : (msP xs (ys ++ zs)).2 ≤ (msP xs ys).2 := by
  obtain ⟨a1, a2, a3, a4, a5⟩ := msP_spec (xs := xs) (ys := ys ++ zs) h (by simp; omega)
  obtain ⟨b1, b2, b3, b4, b5⟩ := msP_spec (xs := xs) (ys := ys) h h'
  have e := a5 (msP xs (ys ++ zs)).1.toNat (by omega)
  have e2 := sepE_more xs ys zs (msP xs (ys ++ zs)).1.toNat (by omega)
  have e3 := b3 (msP xs (ys ++ zs)).1.toNat (by omega)
  omega
theorem msP_self {xs : List (List Int)} (h : ¬ (xs.length : Int) < 2) : 0 ≤ (msP xs xs).1 ∧ (msP xs xs).2 ≤ 0 := by
  obtain ⟨a1, a2, a3, a4, a5⟩ := msP_spec (xs := xs) (ys := xs) h (by omega)
  have e := a5 (msP xs xs).1.toNat (by omega)
  have e2 := sepE_self xs (i := (msP xs xs).1.toNat) (by omega)
  exact ⟨a1, by omega⟩

def c_law_SATMoreVertices : Con := ⟨6, rowRun [.rows 2, .rows 2, .rows 2] (fun l R => match l, R with | [], [xs, ys, zs] => [] | _, _ => [False]) fun l R => match l, R with
  | [], [xs, ys, zs] => .bool true
  | _, _ => .any⟩
set_option maxRecDepth 100000 in
set_option maxHeartbeats 8000000 in
theorem con_law_SATMoreVertices : c_law_SATMoreVertices.Ok Try.prog := by
  refine con_rows (C := [c_sat_MaxSeparation, c_law14_example]) (pl := []) Try.func6 rfl (by kernel_rfl) T_ok (Cons.cons con_sat_MaxSeparation (Cons.cons con_law14_example (Cons.nil _))) mixed (by kernel_rfl) _ _ _ (fun l R hl hR hn hpre => ?_)
  match l, hl, R, hR with
  | [], zl, [(true, xs), (true, ys), (true, zs)], zr =>
    clear zl zr
    obtain rfl : xs = [] := hn _ (List.Mem.head _) rfl
    obtain rfl : ys = [] := hn _ (List.Mem.tail _ (List.Mem.head _)) rfl
    obtain rfl : zs = [] := hn _ (List.Mem.tail _ (List.Mem.tail _ (List.Mem.head _))) rfl
    repeat' (first | (with_reducible refine And.intro ?_ ?_) | (with_reducible intro h) | ((fail_if_success (with_reducible refine Leaf.mk ?_)); (fail_if_success (with_reducible refine VC.mk ?_)); (fail_if_success (with_reducible refine Goes.mk ?_)); (fail_if_success (with_reducible refine Again.mk ?_)); (fail_if_success (with_reducible refine Rounds.mk ?_)); (fail_if_success (with_reducible show False)); (fail_if_success (with_reducible show True)); conv => whnf))
    all_goals try simp only [decide_eq_true_eq, decide_eq_false_iff_not, tkA, Nat.zero_add, Int.toNat_natCast] at *
    all_goals try first | exact trivial | (show False; omega) | exact Leaf.mk trivial | exact Leaf.mk rfl | (refine VC.mk ?_; first | trivial | assumption | ((try simp only [InR, decide_eq_true_eq, decide_eq_false_iff_not] at *); omega) | (simp; done))
    all_goals try (exfalso; simp only [List.length_nil] at *; omega)
  | [], zl, [(true, xs), (true, ys), (false, zs)], zr =>
    clear zl zr
    obtain rfl : xs = [] := hn _ (List.Mem.head _) rfl
    obtain rfl : ys = [] := hn _ (List.Mem.tail _ (List.Mem.head _)) rfl
    repeat' (first | (with_reducible refine And.intro ?_ ?_) | (with_reducible intro h) | ((fail_if_success (with_reducible refine Leaf.mk ?_)); (fail_if_success (with_reducible refine VC.mk ?_)); (fail_if_success (with_reducible refine Goes.mk ?_)); (fail_if_success (with_reducible refine Again.mk ?_)); (fail_if_success (with_reducible refine Rounds.mk ?_)); (fail_if_success (with_reducible show False)); (fail_if_success (with_reducible show True)); conv => whnf))
    all_goals try simp only [decide_eq_true_eq, decide_eq_false_iff_not, tkA, Nat.zero_add, Int.toNat_natCast] at *
    all_goals try first | exact trivial | (show False; omega) | exact Leaf.mk trivial | exact Leaf.mk rfl | (refine VC.mk ?_; first | trivial | assumption | ((try simp only [InR, decide_eq_true_eq, decide_eq_false_iff_not] at *); omega) | (simp; done))
    all_goals try (exfalso; simp only [List.length_nil] at *; omega)
  | [], zl, [(true, xs), (false, ys), (true, zs)], zr =>
    clear zl zr
    obtain rfl : xs = [] := hn _ (List.Mem.head _) rfl
    obtain rfl : zs = [] := hn _ (List.Mem.tail _ (List.Mem.tail _ (List.Mem.head _))) rfl
    repeat' (first | (with_reducible refine And.intro ?_ ?_) | (with_reducible intro h) | ((fail_if_success (with_reducible refine Leaf.mk ?_)); (fail_if_success (with_reducible refine VC.mk ?_)); (fail_if_success (with_reducible refine Goes.mk ?_)); (fail_if_success (with_reducible refine Again.mk ?_)); (fail_if_success (with_reducible refine Rounds.mk ?_)); (fail_if_success (with_reducible show False)); (fail_if_success (with_reducible show True)); conv => whnf))
    all_goals try simp only [decide_eq_true_eq, decide_eq_false_iff_not, tkA, Nat.zero_add, Int.toNat_natCast] at *
    all_goals try first | exact trivial | (show False; omega) | exact Leaf.mk trivial | exact Leaf.mk rfl | (refine VC.mk ?_; first | trivial | assumption | ((try simp only [InR, decide_eq_true_eq, decide_eq_false_iff_not] at *); omega) | (simp; done))
    all_goals try (exfalso; simp only [List.length_nil] at *; omega)
  | [], zl, [(true, xs), (false, ys), (false, zs)], zr =>
    clear zl zr
    obtain rfl : xs = [] := hn _ (List.Mem.head _) rfl
    repeat' (first | (with_reducible refine And.intro ?_ ?_) | (with_reducible intro h) | ((fail_if_success (with_reducible refine Leaf.mk ?_)); (fail_if_success (with_reducible refine VC.mk ?_)); (fail_if_success (with_reducible refine Goes.mk ?_)); (fail_if_success (with_reducible refine Again.mk ?_)); (fail_if_success (with_reducible refine Rounds.mk ?_)); (fail_if_success (with_reducible show False)); (fail_if_success (with_reducible show True)); conv => whnf))
    all_goals try simp only [decide_eq_true_eq, decide_eq_false_iff_not, tkA, Nat.zero_add, Int.toNat_natCast] at *
    all_goals try first | exact trivial | (show False; omega) | exact Leaf.mk trivial | exact Leaf.mk rfl | (refine VC.mk ?_; first | trivial | assumption | ((try simp only [InR, decide_eq_true_eq, decide_eq_false_iff_not] at *); omega) | (simp; done))
    all_goals try (exfalso; simp only [List.length_nil] at *; omega)
  | [], zl, [(false, xs), (true, ys), (true, zs)], zr =>
    clear zl zr
    obtain rfl : ys = [] := hn _ (List.Mem.tail _ (List.Mem.head _)) rfl
    obtain rfl : zs = [] := hn _ (List.Mem.tail _ (List.Mem.tail _ (List.Mem.head _))) rfl
    repeat' (first | (with_reducible refine And.intro ?_ ?_) | (with_reducible intro h) | ((fail_if_success (with_reducible refine Leaf.mk ?_)); (fail_if_success (with_reducible refine VC.mk ?_)); (fail_if_success (with_reducible refine Goes.mk ?_)); (fail_if_success (with_reducible refine Again.mk ?_)); (fail_if_success (with_reducible refine Rounds.mk ?_)); (fail_if_success (with_reducible show False)); (fail_if_success (with_reducible show True)); conv => whnf))
    all_goals try simp only [decide_eq_true_eq, decide_eq_false_iff_not, tkA, Nat.zero_add, Int.toNat_natCast] at *
    all_goals try first | exact trivial | (show False; omega) | exact Leaf.mk trivial | exact Leaf.mk rfl | (refine VC.mk ?_; first | trivial | assumption | ((try simp only [InR, decide_eq_true_eq, decide_eq_false_iff_not] at *); omega) | (simp; done))
    all_goals try (exfalso; simp only [List.length_nil] at *; omega)
  | [], zl, [(false, xs), (true, ys), (false, zs)], zr =>
    clear zl zr
    obtain rfl : ys = [] := hn _ (List.Mem.tail _ (List.Mem.head _)) rfl
    repeat' (first | (with_reducible refine And.intro ?_ ?_) | (with_reducible intro h) | ((fail_if_success (with_reducible refine Leaf.mk ?_)); (fail_if_success (with_reducible refine VC.mk ?_)); (fail_if_success (with_reducible refine Goes.mk ?_)); (fail_if_success (with_reducible refine Again.mk ?_)); (fail_if_success (with_reducible refine Rounds.mk ?_)); (fail_if_success (with_reducible show False)); (fail_if_success (with_reducible show True)); conv => whnf))
    all_goals try simp only [decide_eq_true_eq, decide_eq_false_iff_not, tkA, Nat.zero_add, Int.toNat_natCast] at *
    all_goals try first | exact trivial | (show False; omega) | exact Leaf.mk trivial | exact Leaf.mk rfl | (refine VC.mk ?_; first | trivial | assumption | ((try simp only [InR, decide_eq_true_eq, decide_eq_false_iff_not] at *); omega) | (simp; done))
    all_goals try (exfalso; simp only [List.length_nil] at *; omega)
  | [], zl, [(false, xs), (false, ys), (true, zs)], zr =>
    clear zl zr
    obtain rfl : zs = [] := hn _ (List.Mem.tail _ (List.Mem.tail _ (List.Mem.head _))) rfl
    repeat' (first | (with_reducible refine And.intro ?_ ?_) | (with_reducible intro h) | ((fail_if_success (with_reducible refine Leaf.mk ?_)); (fail_if_success (with_reducible refine VC.mk ?_)); (fail_if_success (with_reducible refine Goes.mk ?_)); (fail_if_success (with_reducible refine Again.mk ?_)); (fail_if_success (with_reducible refine Rounds.mk ?_)); (fail_if_success (with_reducible show False)); (fail_if_success (with_reducible show True)); conv => whnf))
    all_goals try simp only [decide_eq_true_eq, decide_eq_false_iff_not, tkA, Nat.zero_add, Int.toNat_natCast] at *
    all_goals try simp only [List.take_nil, List.nil_append, tkL, Nat.add_zero, List.append_nil, List.take_length] at *
    all_goals try first | exact trivial | (show False; omega) | exact Leaf.mk trivial | exact Leaf.mk rfl | (refine VC.mk ?_; first | trivial | assumption | ((try simp only [InR, decide_eq_true_eq, decide_eq_false_iff_not] at *); omega) | (simp; done))
    all_goals try (refine VC.mk ?_; exact ⟨Or.inr (by have e0 : decide (ys.length = 0) = false := decide_eq_false (by omega); rw [e0]; rfl), by simp⟩)
    all_goals try (refine VC.mk ?_; first | (simp only [List.length_append, List.length_nil] at *; omega) | exact ⟨Or.inr rfl, by simp only [List.length_append]; omega⟩ | (simp; omega) | (simp; done) | (refine ⟨?_, ?_⟩ <;> simp <;> omega) | (simp_all; omega))
    all_goals try rw [List.take_of_length_le (by simp)] at *
    all_goals (
      have q1 := msP_more (xs := xs) (ys := ys) [] (by omega) (by omega)
      have q2 := msP_self (xs := xs) (by omega)
      refine Leaf.mk ?_; exfalso
      try simp only [List.append_nil] at *
      omega)
  | [], zl, [(false, xs), (false, ys), (false, zs)], zr =>
    clear zl zr
    repeat' (first | (with_reducible refine And.intro ?_ ?_) | (with_reducible intro h) | ((fail_if_success (with_reducible refine Leaf.mk ?_)); (fail_if_success (with_reducible refine VC.mk ?_)); (fail_if_success (with_reducible refine Goes.mk ?_)); (fail_if_success (with_reducible refine Again.mk ?_)); (fail_if_success (with_reducible refine Rounds.mk ?_)); (fail_if_success (with_reducible show False)); (fail_if_success (with_reducible show True)); conv => whnf))
    all_goals try simp only [decide_eq_true_eq, decide_eq_false_iff_not, tkA, Nat.zero_add, Int.toNat_natCast] at *
    all_goals try simp only [List.take_nil, List.nil_append, tkL, Nat.add_zero, List.append_nil, List.take_length] at *
    all_goals try first | exact trivial | (show False; omega) | exact Leaf.mk trivial | exact Leaf.mk rfl | (refine VC.mk ?_; first | trivial | assumption | ((try simp only [InR, decide_eq_true_eq, decide_eq_false_iff_not] at *); omega) | (simp; done))
    all_goals try (refine VC.mk ?_; exact ⟨Or.inr (by have e0 : decide (ys.length = 0) = false := decide_eq_false (by omega); rw [e0]; rfl), by simp⟩)
    all_goals try (refine VC.mk ?_; first | (simp only [List.length_append, List.length_nil] at *; omega) | exact ⟨Or.inr rfl, by simp only [List.length_append]; omega⟩ | (simp; omega) | (simp; done) | (refine ⟨?_, ?_⟩ <;> simp <;> omega) | (simp_all; omega))
    all_goals try rw [List.take_of_length_le (by simp)] at *
    all_goals (
      have q1 := msP_more (xs := xs) (ys := ys) zs (by omega) (by omega)
      have q2 := msP_self (xs := xs) (by omega)
      refine Leaf.mk ?_; exfalso
      try simp only [List.append_nil] at *
      omega)

theorem walk_SATMoreVertices  (bxs : Bool) (xs : List (List Int)) (bys : Bool) (ys : List (List Int)) (bzs : Bool) (zs : List (List Int)) (w : World) (m : Ev.Map) (vxs vys vzs : Value) (nxs : bxs = true → xs = []) (nys : bys = true → ys = []) (nzs : bzs = true → zs = []) (fxs : ∀ x ∈ xs, x.length = 2 ∧ ∀ y ∈ x, -9223372036854775808 ≤ y ∧ y ≤ 9223372036854775807) (fys : ∀ x ∈ ys, x.length = 2 ∧ ∀ y ∈ x, -9223372036854775808 ≤ y ∧ y ≤ 9223372036854775807) (fzs : ∀ x ∈ zs, x.length = 2 ∧ ∀ y ∈ x, -9223372036854775808 ≤ y ∧ y ≤ 9223372036854775807) (dxs : Den m (rowArg bxs 0 2 xs) vxs ∧ BlkH m 0 w (.arr false (!bxs) 2 xs)) (dys : Den m (rowArg bys 1 2 ys) vys ∧ BlkH m 1 w (.arr false (!bys) 2 ys)) (dzs : Den m (rowArg bzs 2 2 zs) vzs ∧ BlkH m 2 w (.arr false (!bzs) 2 zs)) :
    Calls Try.prog 6 #[vxs, vys, vzs] w fun e w' => e = .returned (.bool true) ∧ Below w.heap.size w w' := by
  cases bxs with
  | false =>
    cases bys with
    | false =>
      cases bzs with
      | false =>
        exact Frame.calls_rows con_law_SATMoreVertices [rowArg false 0 2 xs, rowArg false 1 2 ys, rowArg false 2 2 zs] (fun id => match id with | 0 => .arr false true 2 xs | 1 => .arr false true 2 ys | 2 => .arr false true 2 zs | _ => .dead) [] _ _ [vxs, vys, vzs] rfl (by simp [appP]) (fun p hp => (by cases hp)) m w ⟨dxs.1, dys.1, dzs.1, trivial⟩ (fun id => by match id with | 0 => exact dxs.2 | 1 => exact dys.2 | 2 => exact dzs.2 | _ + 3 => trivial) (fun id => by match id with | 0 => rfl | 1 => rfl | 2 => rfl | _ + 3 => rfl) rfl
      | true =>
        obtain rfl := nzs rfl
        exact Frame.calls_rows con_law_SATMoreVertices [rowArg false 0 2 xs, rowArg false 1 2 ys, rowArg true 2 2 []] (fun id => match id with | 0 => .arr false true 2 xs | 1 => .arr false true 2 ys | 2 => .arr false false 2 [] | _ => .dead) [] _ _ [vxs, vys, vzs] rfl (by simp [appP]) (fun p hp => (by cases hp)) m w ⟨dxs.1, dys.1, dzs.1, trivial⟩ (fun id => by match id with | 0 => exact dxs.2 | 1 => exact dys.2 | 2 => exact dzs.2 | _ + 3 => trivial) (fun id => by match id with | 0 => rfl | 1 => rfl | 2 => rfl | _ + 3 => rfl) rfl
    | true =>
      obtain rfl := nys rfl
      cases bzs with
      | false =>
        exact Frame.calls_rows con_law_SATMoreVertices [rowArg false 0 2 xs, rowArg true 1 2 [], rowArg false 2 2 zs] (fun id => match id with | 0 => .arr false true 2 xs | 1 => .arr false false 2 [] | 2 => .arr false true 2 zs | _ => .dead) [] _ _ [vxs, vys, vzs] rfl (by simp [appP]) (fun p hp => (by cases hp)) m w ⟨dxs.1, dys.1, dzs.1, trivial⟩ (fun id => by match id with | 0 => exact dxs.2 | 1 => exact dys.2 | 2 => exact dzs.2 | _ + 3 => trivial) (fun id => by match id with | 0 => rfl | 1 => rfl | 2 => rfl | _ + 3 => rfl) rfl
      | true =>
        obtain rfl := nzs rfl
        exact Frame.calls_rows con_law_SATMoreVertices [rowArg false 0 2 xs, rowArg true 1 2 [], rowArg true 2 2 []] (fun id => match id with | 0 => .arr false true 2 xs | 1 => .arr false false 2 [] | 2 => .arr false false 2 [] | _ => .dead) [] _ _ [vxs, vys, vzs] rfl (by simp [appP]) (fun p hp => (by cases hp)) m w ⟨dxs.1, dys.1, dzs.1, trivial⟩ (fun id => by match id with | 0 => exact dxs.2 | 1 => exact dys.2 | 2 => exact dzs.2 | _ + 3 => trivial) (fun id => by match id with | 0 => rfl | 1 => rfl | 2 => rfl | _ + 3 => rfl) rfl
  | true =>
    obtain rfl := nxs rfl
    cases bys with
    | false =>
      cases bzs with
      | false =>
        exact Frame.calls_rows con_law_SATMoreVertices [rowArg true 0 2 [], rowArg false 1 2 ys, rowArg false 2 2 zs] (fun id => match id with | 0 => .arr false false 2 [] | 1 => .arr false true 2 ys | 2 => .arr false true 2 zs | _ => .dead) [] _ _ [vxs, vys, vzs] rfl (by simp [appP]) (fun p hp => (by cases hp)) m w ⟨dxs.1, dys.1, dzs.1, trivial⟩ (fun id => by match id with | 0 => exact dxs.2 | 1 => exact dys.2 | 2 => exact dzs.2 | _ + 3 => trivial) (fun id => by match id with | 0 => rfl | 1 => rfl | 2 => rfl | _ + 3 => rfl) rfl
      | true =>
        obtain rfl := nzs rfl
        exact Frame.calls_rows con_law_SATMoreVertices [rowArg true 0 2 [], rowArg false 1 2 ys, rowArg true 2 2 []] (fun id => match id with | 0 => .arr false false 2 [] | 1 => .arr false true 2 ys | 2 => .arr false false 2 [] | _ => .dead) [] _ _ [vxs, vys, vzs] rfl (by simp [appP]) (fun p hp => (by cases hp)) m w ⟨dxs.1, dys.1, dzs.1, trivial⟩ (fun id => by match id with | 0 => exact dxs.2 | 1 => exact dys.2 | 2 => exact dzs.2 | _ + 3 => trivial) (fun id => by match id with | 0 => rfl | 1 => rfl | 2 => rfl | _ + 3 => rfl) rfl
    | true =>
      obtain rfl := nys rfl
      cases bzs with
      | false =>
        exact Frame.calls_rows con_law_SATMoreVertices [rowArg true 0 2 [], rowArg true 1 2 [], rowArg false 2 2 zs] (fun id => match id with | 0 => .arr false false 2 [] | 1 => .arr false false 2 [] | 2 => .arr false true 2 zs | _ => .dead) [] _ _ [vxs, vys, vzs] rfl (by simp [appP]) (fun p hp => (by cases hp)) m w ⟨dxs.1, dys.1, dzs.1, trivial⟩ (fun id => by match id with | 0 => exact dxs.2 | 1 => exact dys.2 | 2 => exact dzs.2 | _ + 3 => trivial) (fun id => by match id with | 0 => rfl | 1 => rfl | 2 => rfl | _ + 3 => rfl) rfl
      | true =>
        obtain rfl := nzs rfl
        exact Frame.calls_rows con_law_SATMoreVertices [rowArg true 0 2 [], rowArg true 1 2 [], rowArg true 2 2 []] (fun id => match id with | 0 => .arr false false 2 [] | 1 => .arr false false 2 [] | 2 => .arr false false 2 [] | _ => .dead) [] _ _ [vxs, vys, vzs] rfl (by simp [appP]) (fun p hp => (by cases hp)) m w ⟨dxs.1, dys.1, dzs.1, trivial⟩ (fun id => by match id with | 0 => exact dxs.2 | 1 => exact dys.2 | 2 => exact dzs.2 | _ + 3 => trivial) (fun id => by match id with | 0 => rfl | 1 => rfl | 2 => rfl | _ + 3 => rfl) rfl
end Go.Proofs.Ytdoagjphjnbbnaa
