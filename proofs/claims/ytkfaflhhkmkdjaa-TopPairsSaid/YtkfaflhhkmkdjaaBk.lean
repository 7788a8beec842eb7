/- The reference's tree, in plain Lean: boxes in ascending order of their numbers. No program in sight. -/
import Derived.Test.YtkfaflhhkmkdjaaBq2
namespace Go.Proofs.Ytkfaflhhkmkdjaa
open Fx Vx Bx Ev
set_option linter.unusedVariables false
set_option linter.unusedSimpArgs false

def e0 : En := ⟨0, 0, 0, 0, 0⟩
def cA (M : List En) : List (List Int) := M.map fun e => [e.id]
def cB (M : List En) : List (List Int) := M.map fun e => [e.a, e.b, e.c, e.d]
def zipM : List (List Int) → List (List Int) → List En
  | a :: A, b :: B => ⟨a.getD 0 0, b.getD 0 0, b.getD 1 0, b.getD 2 0, b.getD 3 0⟩ :: zipM A B
  | _, _ => []
theorem zip_col : ∀ M : List En, zipM (cA M) (cB M) = M
  | [] => rfl
  | e :: M => by
    show _ :: zipM (cA M) (cB M) = _
    rw [zip_col M]; rfl
theorem len_cA (M : List En) : (cA M).length = M.length := by simp [cA]
theorem len_cB (M : List En) : (cB M).length = M.length := by simp [cB]
theorem cA_at : ∀ (M : List En) (i : Nat), at2 (cA M) i 0 = (M.getD i e0).id
  | [], i => rfl
  | e :: M, 0 => rfl
  | e :: M, i + 1 => cA_at M i
theorem cB_at0 : ∀ (M : List En) (i : Nat), at2 (cB M) i 0 = (M.getD i e0).a
  | [], i => rfl
  | e :: M, 0 => rfl
  | e :: M, i + 1 => cB_at0 M i
theorem cB_at1 : ∀ (M : List En) (i : Nat), at2 (cB M) i 1 = (M.getD i e0).b
  | [], i => rfl
  | e :: M, 0 => rfl
  | e :: M, i + 1 => cB_at1 M i
theorem cB_at2 : ∀ (M : List En) (i : Nat), at2 (cB M) i 2 = (M.getD i e0).c
  | [], i => rfl
  | e :: M, 0 => rfl
  | e :: M, i + 1 => cB_at2 M i
theorem cB_at3 : ∀ (M : List En) (i : Nat), at2 (cB M) i 3 = (M.getD i e0).d
  | [], i => rfl
  | e :: M, 0 => rfl
  | e :: M, i + 1 => cB_at3 M i
theorem all1_cA (M : List En) : All1 (cA M) := fun i hi => by
  rw [len_cA] at hi
  simp [cA, List.getD_eq_getElem?_getD, List.getElem?_map, List.getElem?_eq_getElem hi]

/-- What the struct's rows say. -/
structure MdOK (b : Bool) (A B : List (List Int)) (M : List En) : Prop where
  e : b = M.isEmpty
  A : A = cA M
  B : B = cB M
  asc : Asc M
  len : M.length ≤ 4096
def MdIs (b : Bool) (A B : List (List Int)) : Prop := ∃ M, MdOK b A B M

/-- The place of a number. -/
def fdI (id : Int) : List En → Nat
  | [] => 0
  | e :: M => if e.id < id then fdI id M + 1 else 0
theorem fdI_le (id : Int) : ∀ M : List En, fdI id M ≤ M.length
  | [] => Nat.le_refl _
  | e :: M => by
    have := fdI_le id M
    simp only [fdI]
    split
    · simp; omega
    · simp
theorem fdI_is {id : Int} : ∀ {M : List En} {k : Nat}, k ≤ M.length → (∀ j, j < k → (M.getD j e0).id < id) → (k < M.length → id ≤ (M.getD k e0).id) → fdI id M = k
  | [], k, h, _, _ => by simp at h; subst h; rfl
  | e :: M, 0, _, _, h => by
    have : id ≤ e.id := h (by simp)
    simp only [fdI]
    rw [if_neg (by omega)]
  | e :: M, k + 1, h, h1, h2 => by
    have h0 : e.id < id := h1 0 (by omega)
    simp only [fdI]
    rw [if_pos h0, fdI_is (k := k) (by simp at h; omega) (fun j hj => h1 (j + 1) (by omega)) (fun hk => h2 (by simp; omega))]
theorem fdI_lt {id : Int} : ∀ {M : List En} {j : Nat}, j < fdI id M → (M.getD j e0).id < id
  | [], j, h => by simp [fdI] at h
  | e :: M, j, h => by
    simp only [fdI] at h
    split at h
    · rename_i h0
      cases j with
      | zero => exact h0
      | succ j => exact fdI_lt (M := M) (by omega)
    · omega
theorem fdI_ge {id : Int} : ∀ {M : List En}, fdI id M < M.length → id ≤ (M.getD (fdI id M) e0).id
  | [], h => by simp [fdI] at h
  | e :: M, h => by
    simp only [fdI] at h ⊢
    split at h
    · rename_i h0
      rw [if_pos h0]
      exact fdI_ge (M := M) (by simp at h; omega)
    · rename_i h0
      rw [if_neg h0]
      show id ≤ e.id
      omega
/-- Whether it is there: at its place, or nowhere. -/
theorem has_at {id : Int} {M : List En} (hM : Asc M) {k : Nat} (hk : k < M.length) (h1 : ∀ j, j < k → (M.getD j e0).id < id) (h2 : id ≤ (M.getD k e0).id) : hasM M id = decide ((M.getD k e0).id = id) := by
  have hg : M.getD k e0 = M[k] := by rw [List.getD_eq_getElem?_getD, List.getElem?_eq_getElem hk]; rfl
  rw [Bool.eq_iff_iff, hasM_iff, decide_eq_true_eq]
  constructor
  · intro h
    obtain ⟨e, he, rfl⟩ := List.mem_map.1 h
    obtain ⟨j, hj, rfl⟩ := List.mem_iff_getElem.1 he
    have hp := List.pairwise_iff_getElem.1 hM
    rcases Nat.lt_trichotomy j k with h3 | h3 | h3
    · have := h1 j h3
      rw [List.getD_eq_getElem?_getD, List.getElem?_eq_getElem hj] at this
      exact absurd this (Int.lt_irrefl _)
    · subst h3; rw [hg]
    · have := hp k j hk hj h3
      rw [hg] at h2; omega
  · intro h
    rw [← h, hg]
    exact List.mem_map.2 ⟨_, List.getElem_mem hk, rfl⟩
theorem has_end {id : Int} {M : List En} (h1 : ∀ j, j < M.length → (M.getD j e0).id < id) : hasM M id = false := by
  cases h : hasM M id with
  | false => rfl
  | true =>
    obtain ⟨e, he, rfl⟩ := List.mem_map.1 (hasM_iff.1 h)
    obtain ⟨j, hj, rfl⟩ := List.mem_iff_getElem.1 he
    have := h1 j hj
    rw [List.getD_eq_getElem?_getD, List.getElem?_eq_getElem hj] at this
    exact absurd this (Int.lt_irrefl _)
theorem has_yes {id : Int} {M : List En} (hM : Asc M) (h : hasM M id = true) : fdI id M < M.length ∧ (M.getD (fdI id M) e0).id = id := by
  have hl := fdI_le id M
  have hlt : fdI id M < M.length := by
    rcases Nat.lt_or_ge (fdI id M) M.length with h0 | h0
    · exact h0
    · rw [has_end fun j hj => fdI_lt (by omega)] at h; cases h
  have := has_at hM hlt (fun j hj => fdI_lt hj) (fdI_ge hlt)
  rw [h] at this
  exact ⟨hlt, by simpa using this.symm⟩
theorem insM_at {e : En} : ∀ {M : List En}, hasM M e.id = false → insM e M = M.take (fdI e.id M) ++ (e :: M.drop (fdI e.id M))
  | [], _ => rfl
  | x :: M, h => by
    simp only [hasM, List.any_cons, Bool.or_eq_false_iff, decide_eq_false_iff_not] at h
    simp only [insM, fdI]
    by_cases h0 : x.id < e.id
    · rw [if_neg (by omega), if_pos h0, insM_at (M := M) h.2]; rfl
    · rw [if_pos (by omega), if_neg h0]; rfl
theorem delM_at {id : Int} : ∀ {M : List En}, Asc M → hasM M id = true → delM id M = M.take (fdI id M) ++ M.drop (fdI id M + 1)
  | [], _, h => by cases h
  | x :: M, hM, h => by
    have hM' := List.pairwise_cons.1 hM
    simp only [hasM, List.any_cons, Bool.or_eq_true, decide_eq_true_eq] at h
    simp only [delM, List.filter_cons, fdI]
    by_cases h0 : x.id < id
    · have hne : ¬ x.id = id := by omega
      rw [if_pos h0, if_pos (by simp [hne])]
      have ih := delM_at (M := M) hM'.2 (h.resolve_left hne)
      simp only [delM] at ih
      rw [ih]; rfl
    · have he : x.id = id := by
        rcases h with h | h
        · exact h
        · obtain ⟨y, hy, e⟩ := List.any_eq_true.1 h
          have := hM'.1 y hy
          simp only [decide_eq_true_eq] at e
          omega
      rw [if_neg h0, if_neg (by simp [he])]
      show M.filter _ = M
      exact List.filter_eq_self.2 fun y hy => by have := hM'.1 y hy; simp; omega
theorem lk_at {id : Int} {M : List En} (hM : Asc M) (h : hasM M id = true) : lkM M id = some (M.getD (fdI id M) e0) := by
  obtain ⟨h1, h2⟩ := has_yes hM h
  have hg : M.getD (fdI id M) e0 = M[fdI id M] := by rw [List.getD_eq_getElem?_getD, List.getElem?_eq_getElem h1]; rfl
  have := lkM_mem hM (e := M.getD (fdI id M) e0) (by rw [hg]; exact List.getElem_mem h1)
  rwa [h2] at this
theorem insM_len (e : En) (M : List En) : (insM e M).length = M.length + 1 := by
  have := (insM_perm e M).length_eq
  simpa using this
theorem delM_len (id : Int) (M : List En) : (delM id M).length ≤ M.length := List.length_filter_le _ _
theorem hasM_del {id : Int} (M : List En) : hasM (delM id M) id = false := by
  cases h : hasM (delM id M) id with
  | false => rfl
  | true =>
    obtain ⟨e, he, h2⟩ := List.mem_map.1 (hasM_iff.1 h)
    have := (List.mem_filter.1 he).2
    simp [h2] at this

/- What the operations do, and answer. -/
def mIns (z : Bool) (M : List En) (id a b c d : Int) : Int := if z = true then 1 else if validB a b c d = true then (if hasM M id = true then 7 else if 4096 ≤ M.length then 9 else 0) else 2
def mInsM (z : Bool) (M : List En) (id a b c d : Int) : List En := if z = false ∧ validB a b c d = true ∧ hasM M id = false ∧ M.length < 4096 then insM ⟨id, a, b, c, d⟩ M else M
def mUpd (z : Bool) (M : List En) (id a b c d : Int) : Int := if z = true then 1 else if validB a b c d = true then (if hasM M id = true then 0 else 8) else 2
def mUpdM (z : Bool) (M : List En) (id a b c d : Int) : List En := if z = false ∧ validB a b c d = true ∧ hasM M id = true then insM ⟨id, a, b, c, d⟩ (delM id M) else M
def mBnd (M : List En) (id : Int) (i : Nat) : Int := match lkM M id with
  | none => 0
  | some e => if i = 0 then e.a else if i = 1 then e.b else if i = 2 then e.c else e.d
theorem delM_no {id : Int} {M : List En} (h : hasM M id = false) : delM id M = M := List.filter_eq_self.2 fun e he => by
  have : ¬ e.id = id := fun e' => by
    have := hasM_iff.2 (List.mem_map.2 ⟨e, he, e'⟩)
    rw [h] at this; cases this
  simp [this]
theorem delM_lt {id : Int} {M : List En} (h : hasM M id = true) : (delM id M).length < M.length := by
  obtain ⟨e, he, e'⟩ := List.mem_map.1 (hasM_iff.1 h)
  have h1 := List.length_filter_le (fun e : En => !decide (e.id = id)) M
  rcases Nat.lt_or_ge (delM id M).length M.length with h2 | h2
  · exact h2
  · have h3 : (delM id M).length = M.length := Nat.le_antisymm h1 h2
    have h4 := List.filter_eq_self.1 ((List.filter_sublist (p := fun e : En => !decide (e.id = id)) (l := M)).eq_of_length h3) e he
    simp [e'] at h4
/-- Rows put together: one more, one less. -/
theorem ins_rowsG {X : List (List Int)} {k : Nat} (r : List Int) (hk : k ≤ X.length) : X.take k ++ (r :: X.drop k) = (X.take k ++ [r]) ++ X.drop k := by simp
theorem cA_ins (M : List En) (k : Nat) (e : En) : cA (M.take k ++ (e :: M.drop k)) = (cA M).take k ++ ([e.id] :: (cA M).drop k) := by simp [cA, List.map_take, List.map_drop]
theorem cB_ins (M : List En) (k : Nat) (e : En) : cB (M.take k ++ (e :: M.drop k)) = (cB M).take k ++ ([e.a, e.b, e.c, e.d] :: (cB M).drop k) := by simp [cB, List.map_take, List.map_drop]
theorem cA_del (M : List En) (k : Nat) : cA (M.take k ++ M.drop (k + 1)) = (cA M).take k ++ (cA M).drop (k + 1) := by simp [cA, List.map_take, List.map_drop]
theorem cB_del (M : List En) (k : Nat) : cB (M.take k ++ M.drop (k + 1)) = (cB M).take k ++ (cB M).drop (k + 1) := by simp [cB, List.map_take, List.map_drop]
theorem take_succ_getD (M : List En) {i : Nat} (h : i < M.length) : M.take (i + 1) = M.take i ++ [M.getD i e0] := by
  rw [List.take_add_one, List.getElem?_eq_getElem h, List.getD_eq_getElem?_getD, List.getElem?_eq_getElem h]; rfl
theorem lk_ids {M : List En} (hM : Asc M) {i : Nat} (h : i < M.length) : lkM M ((M.map (·.id)).getD i 0) = some (M.getD i e0) := by
  have hg : M.getD i e0 = M[i] := by rw [List.getD_eq_getElem?_getD, List.getElem?_eq_getElem h]; rfl
  have hi : (M.map (·.id)).getD i 0 = M[i].id := by simp [List.getD_eq_getElem?_getD, List.getElem?_eq_getElem h]
  rw [hi, hg]
  exact lkM_mem hM (List.getElem_mem h)
theorem inN1_snoc (M : List En) (x : En) (l : List Int) (y : Int) : inN1 M x (l ++ [y]) = inN1 M x l ++ (match lkM M y with
    | none => []
    | some e => if overlapsB x.a x.b x.c x.d e.a e.b e.c e.d = true then [[x.id, y]] else []) := by
  unfold inN1
  rw [List.filterMap_append]
  congr 1
  cases hk : lkM M y with
  | none => rw [List.filterMap_cons_none (by simp [hk])]; rfl
  | some e =>
    cases ho : overlapsB x.a x.b x.c x.d e.a e.b e.c e.d with
    | true => rw [List.filterMap_cons_some (b := [x.id, y]) (by simp [hk, ho])]; simp [ho]
    | false => rw [List.filterMap_cons_none (by simp [hk, ho])]; simp [ho]
theorem drop_take_succ {L : List Int} {i j : Nat} (h : i + 1 + j < L.length) : (L.drop (i + 1)).take (j + 1) = (L.drop (i + 1)).take j ++ [L.getD (i + 1 + j) 0] := by
  rw [List.take_add_one, List.getElem?_drop, List.getElem?_eq_getElem h, List.getD_eq_getElem?_getD, List.getElem?_eq_getElem h]; rfl
theorem isE_appL (a b : List (List Int)) (h : b ≠ []) : (a ++ b).isEmpty = false := by cases a <;> cases b <;> simp at h ⊢
theorem ids_asc {M : List En} (hM : Asc M) : (M.map (·.id)).Pairwise (· < ·) := by
  rw [List.pairwise_map]
  exact hM
theorem prN_ids {M : List En} (hM : Asc M) : prN M (M.map (·.id)) M.length = prM M := by
  have := prN_all (ids_asc hM) hM (fun e he => List.mem_map.2 ⟨e, he, rfl⟩)
  rwa [List.length_map] at this
theorem qM_len (φ : Int → Int → Int → Int → Bool) (A : List En) : (qM φ A).length ≤ A.length := by
  rw [qM, List.length_map]
  exact List.length_filter_le _ _
theorem inN1_len (M : List En) (x : En) (l : List Int) : (inN1 M x l).length ≤ l.length := List.length_filterMap_le _ _
theorem prN_len (M : List En) (L : List Int) : ∀ i, (prN M L i).length ≤ i * L.length
  | 0 => Nat.zero_le _
  | i + 1 => by
    have h1 := prN_len M L i
    rw [prN, List.length_append, Nat.succ_mul]
    cases lkM M (L.getD i 0) with
    | none => simp; omega
    | some x =>
      have h2 := inN1_len M x (L.drop (i + 1))
      rw [List.length_drop] at h2
      show _ + (inN1 M x (L.drop (i + 1))).length ≤ _
      omega
theorem prN_len60 (M : List En) {L : List Int} {i : Nat} (hi : i ≤ 60) (hL : L.length ≤ 60) : (prN M L i).length ≤ 3600 :=
  Nat.le_trans (prN_len M L i) (Nat.mul_le_mul hi hL)

theorem prM_two (M : List En) : ∀ i, i < (prM M).length → ((prM M).getD i []).length = 2 := fun i hi => by
  have hm : (prM M).getD i [] ∈ prM M := by rw [List.getD_eq_getElem?_getD, List.getElem?_eq_getElem hi]; exact List.getElem_mem hi
  generalize (prM M).getD i [] = q at hm ⊢
  unfold prM at hm
  obtain ⟨l, hl, hm⟩ := List.mem_flatten.1 hm
  obtain ⟨x, hx, rfl⟩ := List.mem_map.1 hl
  obtain ⟨y, hy, h⟩ := List.mem_filterMap.1 hm
  split at h
  · injection h with h; rw [← h]; rfl
  · cases h
theorem prM_len {M : List En} (hM : Asc M) : (prM M).length ≤ M.length * M.length := by
  have h := prN_len M (M.map (·.id)) M.length
  rw [prN_ids hM, List.length_map] at h
  exact h
end Go.Proofs.Ytkfaflhhkmkdjaa
