/- The plain law of TopPairs. No program in sight. -/
import Derived.Test.YtkfaflhhkmkdjaaTP
namespace Go.Proofs.Ytkfaflhhkmkdjaa
open Go.RowKit Fx Vx Bx Ev
set_option linter.unusedVariables false
set_option linter.unusedSimpArgs false
/-- which operation the tree accepts -/
def tpM (M : List En) (o id a b c d : Int) : Bool := if o.tmod 3 = 0 then validB a b c d && !hasM M id && decide (M.length < 4096) else if o.tmod 3 = 1 then validB a b c d && hasM M id else hasM M id
theorem tpB_eq {nd : List Nd} {tr : List (Nat × Nat)} {mp : List (List (Int × Nat))} {t : Nat} {q : Option BT} {M : List En} (h : Rp nd tr mp t q M) (o id a b c d : Int) : tpB tr mp t o id a b c d = tpM M o id a b c d := by
  unfold tpB tpM
  split
  · rw [(h.ins id a b c d).2.1]
    cases validB a b c d <;> cases hasM M id <;> simp
    try (split <;> simp <;> omega)
  · split
    · rw [(h.upd id a b c d).2.1]
      cases validB a b c d <;> cases hasM M id <;> simp
    · exact (h.rem id).2.1
def mT (xs : List (List Int)) : Nat → List En
  | 0 => []
  | i + 1 => apM (tpk (at2 xs i 0)) (at2 xs i 1) (at2 xs i 2) (at2 xs i 3) (at2 xs i 4) (at2 xs i 5) (mT xs i)
def sT (xs : List (List Int)) : Nat → List (List Int)
  | 0 => []
  | i + 1 => if tpM (mT xs i) (at2 xs i 0) (at2 xs i 1) (at2 xs i 2) (at2 xs i 3) (at2 xs i 4) (at2 xs i 5) then apA (at2 xs i 0) (at2 xs i 1) (at2 xs i 2) (at2 xs i 3) (at2 xs i 4) (at2 xs i 5) (sT xs i) else sT xs i
theorem delM_id {M : List En} {id : Int} (h : hasM M id = false) : delM id M = M := by
  unfold delM
  rw [List.filter_eq_self]
  intro e he
  unfold hasM at h
  rw [List.any_eq_false] at h
  have := h e he
  simpa using this
theorem tpF_perm {s : List (List Int)} {M : List En} (h : s.Perm (M.map rowE)) (id : Int) : (tpF id s).Perm ((delM id M).map rowE) := by
  have := h.filter (fun r => !decide (r.getD 0 0 = id))
  rw [List.filter_map] at this
  exact this
theorem step_perm {s : List (List Int)} {M : List En} (h : s.Perm (M.map rowE)) (o id a b c d : Int) (ho : 0 ≤ o) (ht : tpM M o id a b c d = true) : (apA o id a b c d s).Perm ((apM (tpk o) id a b c d M).map rowE) := by
  have hf := tpF_perm h id
  have hins : ∀ N : List En, (N.map rowE ++ [[id, a, b, c, d]]).Perm ((insM ⟨id, a, b, c, d⟩ N).map rowE) := fun N => by
    have h1 := (insM_perm (⟨id, a, b, c, d⟩ : En) N).map rowE
    exact (List.perm_append_comm.trans (List.Perm.refl _)).trans h1.symm
  have hn := Int.tmod_nonneg 3 ho
  have hl := Int.tmod_lt_of_pos o (show (0 : Int) < 3 by omega)
  unfold tpM at ht
  by_cases h0 : o.tmod 3 = 0
  · rw [if_pos h0] at ht
    simp only [Bool.and_eq_true, Bool.not_eq_true', decide_eq_true_eq] at ht
    obtain ⟨⟨h1, h2⟩, h3⟩ := ht
    have e : decide (o.tmod 3 = 2) = false := by simp; omega
    have k1 : tpk o = 1 := by simp [tpk, h0]
    unfold apA apM
    rw [e, if_neg Bool.false_ne_true, k1, if_pos rfl, if_pos ⟨h1, h2, h3⟩]
    rw [delM_id h2] at hf
    exact (hf.append_right _).trans (hins M)
  · rw [if_neg h0] at ht
    by_cases h1 : o.tmod 3 = 1
    · rw [if_pos h1] at ht
      simp only [Bool.and_eq_true] at ht
      have e : decide (o.tmod 3 = 2) = false := by simp; omega
      have k1 : tpk o = 3 := by simp [tpk, h1]
      unfold apA apM
      rw [e, if_neg Bool.false_ne_true, k1, if_neg (by omega), if_neg (by omega), if_pos rfl, if_pos ht]
      exact (hf.append_right _).trans (hins _)
    · rw [if_neg h1] at ht
      have e : decide (o.tmod 3 = 2) = true := by simp; omega
      have k1 : tpk o = 2 := by simp [tpk, h0, h1]
      unfold apA apM
      rw [e, if_pos rfl, k1, if_neg (by omega), if_pos rfl, List.append_nil]
      exact hf
theorem step_keep {M : List En} (o id a b c d : Int) (ht : tpM M o id a b c d = false) : apM (tpk o) id a b c d M = M := by
  unfold tpM at ht
  by_cases h0 : o.tmod 3 = 0
  · rw [if_pos h0] at ht
    have k1 : tpk o = 1 := by simp [tpk, h0]
    unfold apM
    rw [k1, if_pos rfl, if_neg]
    rintro ⟨h1, h2, h3⟩
    simp [h1, h2, h3] at ht
    try omega
  · rw [if_neg h0] at ht
    by_cases h1 : o.tmod 3 = 1
    · rw [if_pos h1] at ht
      have k1 : tpk o = 3 := by simp [tpk, h1]
      unfold apM
      rw [k1, if_neg (by omega), if_neg (by omega), if_pos rfl, if_neg]
      rintro ⟨h2, h3⟩
      simp [h2, h3] at ht
    · rw [if_neg h1] at ht
      have k1 : tpk o = 2 := by simp [tpk, h0, h1]
      unfold apM
      rw [k1, if_neg (by omega), if_pos rfl]
      exact delM_id ht
theorem vldI_row2 {xs : List (List Int)} : vldI xs = true ↔ ∀ x ∈ xs, x.length = 5 ∧ validB (x.getD 1 0) (x.getD 2 0) (x.getD 3 0) (x.getD 4 0) = true := by
  unfold vldI
  rw [List.all_eq_true]
  constructor
  · intro h x hx
    have := h x hx
    simp only [Bool.and_eq_true] at this
    exact ⟨Nat.eq_of_beq_eq_true this.1, this.2⟩
  · intro h x hx
    obtain ⟨h1, h2⟩ := h x hx
    rw [h1, h2]; rfl
/-- the spans are the tree's boxes -/
structure Sp (s : List (List Int)) (M : List En) (i : Nat) : Prop where
  perm : s.Perm (M.map rowE)
  vld : vldI s = true
  len : s.length ≤ i
theorem Sp.step {xs : List (List Int)} {i : Nat} (h : Sp (sT xs i) (mT xs i) i) (ho : 0 ≤ at2 xs i 0) : Sp (sT xs (i + 1)) (mT xs (i + 1)) (i + 1) := by
  rw [show sT xs (i + 1) = if tpM (mT xs i) (at2 xs i 0) (at2 xs i 1) (at2 xs i 2) (at2 xs i 3) (at2 xs i 4) (at2 xs i 5) then apA (at2 xs i 0) (at2 xs i 1) (at2 xs i 2) (at2 xs i 3) (at2 xs i 4) (at2 xs i 5) (sT xs i) else sT xs i from rfl, show mT xs (i + 1) = apM (tpk (at2 xs i 0)) (at2 xs i 1) (at2 xs i 2) (at2 xs i 3) (at2 xs i 4) (at2 xs i 5) (mT xs i) from rfl]
  cases ht : tpM (mT xs i) (at2 xs i 0) (at2 xs i 1) (at2 xs i 2) (at2 xs i 3) (at2 xs i 4) (at2 xs i 5) with
  | false =>
    rw [if_neg (by simp), step_keep _ _ _ _ _ _ ht]
    exact ⟨h.perm, h.vld, by have := h.len; omega⟩
  | true =>
    rw [if_pos rfl]
    refine ⟨step_perm h.perm _ _ _ _ _ _ ho ht, ?_, ?_⟩
    · rw [vldI_row2]
      intro x hx
      unfold apA at hx
      rcases List.mem_append.1 hx with hx | hx
      · exact vldI_row2.1 h.vld x (List.mem_filter.1 hx).1
      · split at hx
        · cases hx
        · rename_i h2
          rw [List.mem_singleton] at hx
          subst hx
          refine ⟨rfl, ?_⟩
          unfold tpM at ht
          split at ht
          · simp only [Bool.and_eq_true] at ht; exact ht.1.1
          · split at ht
            · simp only [Bool.and_eq_true] at ht; exact ht.1
            · have hn := Int.tmod_nonneg 3 ho
              have hl := Int.tmod_lt_of_pos (at2 xs i 0) (show (0 : Int) < 3 by omega)
              exfalso; simp at h2; omega
    · unfold apA
      rw [List.length_append]
      have := tpF_le (at2 xs i 1) (sT xs i)
      have := h.len
      split <;> simp <;> omega
theorem Sp.zero (xs : List (List Int)) : Sp (sT xs 0) (mT xs 0) 0 := ⟨List.Perm.refl _, rfl, Nat.le_refl _⟩
theorem nodI_of {s : List (List Int)} (h : (s.map fun r => r.getD 0 0).Nodup) : nodI s = true := by
  induction s with
  | nil => rfl
  | cons x r ih =>
    rw [List.map_cons, List.nodup_cons] at h
    simp only [nodI, Bool.and_eq_true]
    refine ⟨List.all_eq_true.2 fun y hy => ?_, ih h.2⟩
    have : y.getD 0 0 ≠ x.getD 0 0 := fun e => h.1 (List.mem_map.2 ⟨y, hy, e⟩)
    simp only [Bool.not_eq_true', decide_eq_false_iff_not]
    exact this
theorem Sp.nod {s : List (List Int)} {M : List En} {i : Nat} (h : Sp s M i) (hM : Asc M) : nodI s = true := by
  refine nodI_of ?_
  rw [(h.perm.map fun r => r.getD 0 0).nodup_iff, List.map_map]
  refine List.Pairwise.imp (fun {a b} h => Int.ne_of_lt h) ?_
  rw [List.pairwise_map]
  exact hM
theorem Sp.cnt {s : List (List Int)} {M : List En} {i : Nat} (h : Sp s M i) : s.length = M.length := by rw [h.perm.length_eq, List.length_map]
theorem Sp.prs {s : List (List Int)} {M : List En} {i : Nat} (h : Sp s M i) (hM : Asc M) : sapP s = prM M := sapP_prM hM h.perm
theorem Sp.perm2 {s : List (List Int)} {M : List En} {i : Nat} (h : Sp s M i) (hM : Asc M) : (allG s).Perm (prM M) := by
  have h1 := allG_perm h.perm
  have h2 : prM M = allG (M.map rowE) := by rw [← sapP_prM hM h.perm]; exact sapP_allG hM h.perm
  rw [h2]; exact h1
/-- how many entries before i overlap entry i, of the first k -/
def cI (s : List (List Int)) (i : Nat) : Nat → Nat
  | 0 => 0
  | k + 1 => cI s i k + if ovE (s.getD i []) (s.getD k []) then 1 else 0
def cT (s : List (List Int)) : Nat → Nat
  | 0 => 0
  | i + 1 => cT s i + cI s i i
theorem cI_filter (s : List (List Int)) (i : Nat) : ∀ k, k ≤ s.length → cI s i k = ((s.take k).filter fun y => ovE (s.getD i []) y).length
  | 0, _ => rfl
  | k + 1, hk => by
    have e : s.getD k [] = s[k] := by rw [List.getD_eq_getElem?_getD, List.getElem?_eq_getElem (by omega)]; rfl
    rw [cI, cI_filter s i k (by omega), List.take_succ_eq_append_getElem (by omega), List.filter_append, List.length_append, e]
    congr 1
    rw [List.filter_cons]
    split <;> rfl
theorem allG_snoc (x : List Int) : ∀ l : List (List Int), (allG (l ++ [x])).length = (allG l).length + (l.filter fun y => ovE x y).length
  | [] => rfl
  | a :: r => by
    have ih := allG_snoc x r
    rw [List.cons_append, allG, allG, List.length_append, List.length_append, ih, List.filter_cons]
    unfold hits
    rw [List.length_map, List.length_map, List.filter_append, List.length_append, ovE_sym x a]
    rw [List.filter_cons]
    split <;> simp <;> omega
theorem cT_allG (s : List (List Int)) : ∀ i, i ≤ s.length → cT s i = (allG (s.take i)).length
  | 0, _ => rfl
  | i + 1, hi => by
    have e : s.getD i [] = s[i] := by rw [List.getD_eq_getElem?_getD, List.getElem?_eq_getElem (by omega)]; rfl
    rw [cT, cT_allG s i (by omega), cI_filter s i i (by omega), List.take_succ_eq_append_getElem (by omega), allG_snoc, e]
theorem mem_allG : ∀ {s : List (List Int)} {i k : Nat}, k < i → i < s.length → ovE (s.getD i []) (s.getD k []) = true → prE2 (s.getD k [], s.getD i []) ∈ allG s
  | [], _, _, _, h, _ => by simp at h
  | a :: r, 0, _, h, _, _ => by omega
  | a :: r, i + 1, 0, _, hi, h => by
    have hi' : i < r.length := by simpa using hi
    rw [allG, List.mem_append]
    left
    unfold hits
    refine List.mem_map.2 ⟨r[i], List.mem_filter.2 ⟨List.getElem_mem hi', ?_⟩, ?_⟩
    · rw [ovE_sym]
      have e : (a :: r).getD (i + 1) [] = r[i] := by simp [List.getD_eq_getElem?_getD, hi']
      rw [e] at h; exact h
    · have e : (a :: r).getD (i + 1) [] = r[i] := by simp [List.getD_eq_getElem?_getD, hi']
      rw [e]; rfl
  | a :: r, i + 1, k + 1, hk, hi, h => by
    rw [allG, List.mem_append]
    right
    exact mem_allG (s := r) (i := i) (k := k) (by omega) (by simpa using hi) h
theorem cpB_mem {xs : List (List Int)} {x y : List Int} (h : prE2 (y, x) ∈ xs) : cpB xs (x.getD 0 0) (y.getD 0 0) = true := by
  unfold cpB
  refine List.any_eq_true.2 ⟨_, h, ?_⟩
  unfold prE2
  simp only [List.getD_cons_zero, List.getD_cons_succ]
  rw [Int.min_comm, Int.max_comm]
  simp
theorem Sp.has {s : List (List Int)} {M : List En} {n : Nat} (h : Sp s M n) (hM : Asc M) {i k : Nat} (hk : k < i) (hi : i < s.length) (ho : ovE (s.getD i []) (s.getD k []) = true) : cpB (prM M) (at2 s i 0) (at2 s k 0) = true :=
  cpB_mem ((h.perm2 hM).mem_iff.1 (mem_allG hk hi ho))
theorem Sp.all {s : List (List Int)} {M : List En} {n : Nat} (h : Sp s M n) (hM : Asc M) : cT s s.length = (prM M).length := by
  rw [cT_allG s _ (Nat.le_refl _), List.take_length, (h.perm2 hM).length_eq]
theorem cT_le (s : List (List Int)) (i k : Nat) (hi : i ≤ 40) (hk : k ≤ 40) : cT s i + cI s i k ≤ 4000 := by
  have h1 : ∀ i k, cI s i k ≤ k := fun i k => by
    induction k with
    | zero => exact Nat.le_refl _
    | succ k ih => rw [cI]; split <;> omega
  have h2 : ∀ i, i ≤ 40 → cT s i ≤ 40 * i := fun i => by
    induction i with
    | zero => intro _; exact Nat.le_refl _
    | succ i ih => intro hi; rw [cT]; have := ih (by omega); have := h1 i i; omega
  have := h1 i k
  have := h2 i hi
  omega
/-- The example's store. -/
def pxH (H : Hp) : Hp := insH (insH (newH H) (H.tr.length + 1) 5 0 0 2 2) (H.tr.length + 1) 3 2 2 3 3
structure Px (H : Hp) : Prop where
  a1 : inOK (newH H).nd (newH H).tr (newH H).mp (H.tr.length + 1) 5 0 0 2 2 = true
  b1 : insE (newH H).tr (newH H).mp (H.tr.length + 1) 5 0 0 2 2 = 0
  a2 : inOK (insH (newH H) (H.tr.length + 1) 5 0 0 2 2).nd (insH (newH H) (H.tr.length + 1) 5 0 0 2 2).tr (insH (newH H) (H.tr.length + 1) 5 0 0 2 2).mp (H.tr.length + 1) 3 2 2 3 3 = true
  b2 : insE (insH (newH H) (H.tr.length + 1) 5 0 0 2 2).tr (insH (newH H) (H.tr.length + 1) 5 0 0 2 2).mp (H.tr.length + 1) 3 2 2 3 3 = 0
  a5 : PrOK (pxH H).nd (pxH H).tr (pxH H).mp (H.tr.length + 1)
  b5 : prE (pxH H).nd (pxH H).tr (pxH H).mp (H.tr.length + 1) = [[3, 5]]
theorem px_ok (H : Hp) : Px H := by
  have v1 : validB 0 0 2 2 = true := by decide
  have v2 : validB 2 2 3 3 = true := by decide
  have r0 : Rp (newH H).nd (newH H).tr (newH H).mp (H.tr.length + 1) none [] := Rp.new _ _ _
  obtain ⟨i1, j1, o1, r1, _⟩ := r0.ins 5 0 0 2 2
  rw [if_pos ⟨v1, rfl, by decide⟩] at r1
  have r1 : Rp (insH (newH H) (H.tr.length + 1) 5 0 0 2 2).nd (insH (newH H) (H.tr.length + 1) 5 0 0 2 2).tr (insH (newH H) (H.tr.length + 1) 5 0 0 2 2).mp (H.tr.length + 1) o1 [⟨5, 0, 0, 2, 2⟩] := r1
  obtain ⟨i2, j2, o2, r2, _⟩ := r1.ins 3 2 2 3 3
  rw [if_pos ⟨v2, by decide, by decide⟩] at r2
  have r2 : Rp (pxH H).nd (pxH H).tr (pxH H).mp (H.tr.length + 1) o2 [⟨3, 2, 2, 3, 3⟩, ⟨5, 0, 0, 2, 2⟩] := r2
  have p := r2.prs
  exact ⟨i1, j1.trans (by rw [if_pos v1]; rfl), i2, j2.trans (by rw [if_pos v2]; rfl), p.1, p.2.trans (by decide)⟩
def pxL : List (List Int) := [[5, 0, 0, 2, 2], [3, 2, 2, 3, 3]]
theorem px_sap : sapP pxL = [[3, 5]] := by
  rw [show sapP pxL = prM [⟨3, 2, 2, 3, 3⟩, ⟨5, 0, 0, 2, 2⟩] from sapP_prM (by unfold Asc; decide) (List.Perm.swap _ _ _)]
  decide
theorem px_nod : nodI pxL = true := by decide
theorem px_vld : vldI pxL = true := by decide
end Go.Proofs.Ytkfaflhhkmkdjaa
