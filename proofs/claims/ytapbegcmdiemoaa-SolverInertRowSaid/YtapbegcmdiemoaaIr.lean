/- An inert row behind the others changes nothing. Plain. -/
import Derived.Test.YtapbegcmdiemoaaD6
namespace Go.Proofs.Ytapbegcmdiemoaa
open Go.RowKit Fx Vx Ev
set_option linter.unusedVariables false
set_option linter.unusedSimpArgs false


theorem set_get {α : Type} (l : List α) (j : Nat) (d : α) : l.set j (l.getD j d) = l := by
  by_cases h : j < l.length
  · rw [List.getD_eq_getElem?_getD, List.getElem?_eq_getElem h, Option.getD_some, List.set_getElem_self]
  · rw [List.set_eq_of_length_le (by omega)]
theorem upd_same (xs : List (List Int)) (k j : Nat) : upd2 xs k j [at2 xs k j] = xs := by
  show xs.set k ((xs.getD k []).set j ((xs.getD k []).getD j 0)) = xs
  rw [set_get, set_get]
theorem sub_zero' {x : Int} (h : sat x = x) : sub x 0 = x := by unfold sub; rw [show sat 0 = 0 by decide, Int.sub_zero, sat_sat, h]
theorem add_zero' {x : Int} (h : sat x = x) : add x 0 = x := by rw [add_zero, h]
theorem zero_mul' (x : Int) : mul 0 x = 0 := by rw [mul_comm, mul_zero]
theorem row_same {ys : List (List Int)} (hw : wf 5 ys) {k : Nat} (hk : k < ys.length) : [at2 ys k 0, at2 ys k 1, at2 ys k 2, at2 ys k 3, at2 ys k 4] = ys.getD k [] := (row5 hw hk).symm
def satV (ys : List (List Int)) (j : Nat) : Prop := sat (at2 ys j 0) = at2 ys j 0 ∧ sat (at2 ys j 1) = at2 ys j 1 ∧ sat (at2 ys j 2) = at2 ys j 2
theorem apA_zero {ys : List (List Int)} (hw : wf 5 ys) (hv : ∀ j, j < ys.length → satV ys j) (ra nx ny aa : Int) : apA ys ra nx ny aa 0 = ys := by
  by_cases h : 0 ≤ ra ∧ ra < ys.length
  · have hk : ra.toNat < ys.length := by omega
    obtain ⟨h1, h2, h3⟩ := hv _ hk
    rw [apA_in h.1 h.2]
    simp only [rowA, zero_mul', mul_zero, sub_zero' h1, sub_zero' h2, sub_zero' h3]
    rw [row_same hw hk, set_get]
  · exact apA_out (by omega) _ _ _ _
theorem apB_zero {ys : List (List Int)} (hw : wf 5 ys) (hv : ∀ j, j < ys.length → satV ys j) (ra nx ny aa : Int) : apB ys ra nx ny aa 0 = ys := by
  by_cases h : 0 ≤ ra ∧ ra < ys.length
  · have hk : ra.toNat < ys.length := by omega
    obtain ⟨h1, h2, h3⟩ := hv _ hk
    rw [apB_in h.1 h.2]
    simp only [rowB, zero_mul', mul_zero, add_zero' h1, add_zero' h2, add_zero' h3]
    rw [row_same hw hk, set_get]
  · exact apB_out (by omega) _ _ _ _
theorem solve_zero {xs ys : List (List Int)} {i : Int} (hw : wf 5 ys) (h0 : 0 ≤ i) (h1 : i < xs.length) (hz : at2 xs i.toNat 6 = 0) (hs : sat (at2 xs i.toNat 11) = at2 xs i.toNat 11) (hl : bdL xs i ≤ at2 xs i.toNat 11) (hu : at2 xs i.toNat 11 ≤ bdU xs i) (hv : ∀ j, j < ys.length → satV ys j) : solR xs i ys = xs ∧ solB xs i ys = ys := by
  have e : impT xs ys i = at2 xs i.toNat 11 := by
    unfold impT; rw [hz, zero_mul', sub_zero' hs]
    unfold clamp; rw [if_neg (by omega), if_neg (by omega)]
  have e2 : sub (at2 xs i.toNat 11) (at2 xs i.toNat 11) = 0 := by unfold sub; rw [Int.sub_self]; decide
  constructor
  · rw [solR_in h0 h1, e, upd_same]
  · rw [solB_in h0 h1, e, e2]
    unfold ap; rw [apA_zero hw hv, apB_zero hw hv]


theorem at2_app {xs : List (List Int)} {m : List Int} {k : Nat} (h : k < xs.length) (j : Nat) : at2 (xs ++ [m]) k j = at2 xs k j := by
  simp only [at2, List.getD_eq_getElem?_getD]
  rw [List.getElem?_append_left h]
theorem at2_new (xs : List (List Int)) (m : List Int) (j : Nat) : at2 (xs ++ [m]) xs.length j = m.getD j 0 := by
  simp only [at2, List.getD_eq_getElem?_getD]
  rw [List.getElem?_append_right (Nat.le_refl _)]
  simp
theorem upd2_app {xs : List (List Int)} {m : List Int} {k : Nat} (h : k < xs.length) (j : Nat) (v : List Int) : upd2 (xs ++ [m]) k j v = upd2 xs k j v ++ [m] := by
  unfold upd2
  rw [List.getD_eq_getElem?_getD, List.getElem?_append_left h, ← List.getD_eq_getElem?_getD, List.set_append_left _ _ h]
/-- No row refers to a row n. -/
def noRef (n : Nat) (xs : List (List Int)) : Prop := ∀ k, k < xs.length → at2 xs k 12 ≠ (n : Int)
theorem len_app (xs : List (List Int)) (m : List Int) : (xs ++ [m]).length = xs.length + 1 := by simp
theorem isFr_app {xs : List (List Int)} {m : List Int} (hr : noRef xs.length xs) {k : Nat} (h : k < xs.length) : isFr (xs ++ [m]) k = isFr xs k := by
  have := hr k h
  unfold isFr
  rw [Int.toNat_natCast, at2_app h, len_app]
  congr 2
  refine decide_eq_decide.2 ?_
  omega
theorem bd_app {xs : List (List Int)} {m : List Int} (hr : noRef xs.length xs) {k : Nat} (h : k < xs.length) : bdL (xs ++ [m]) k = bdL xs k ∧ bdU (xs ++ [m]) k = bdU xs k := by
  have e1 : inR (xs ++ [m]) k = true := by unfold inR; rw [len_app]; simp; omega
  have e2 : inR xs k = true := by unfold inR; simp; omega
  have e3 : isFr xs k = true → frM (xs ++ [m]) k = frM xs k := fun hf => by
    have := hr k h
    simp only [isFr, Bool.and_eq_true, decide_eq_true_eq, Int.toNat_natCast] at hf
    unfold frM
    rw [Int.toNat_natCast, at2_app h, at2_app h, at2_app (by omega)]
  unfold bdL bdU
  rw [e1, e2, isFr_app hr h, Int.toNat_natCast, at2_app h, at2_app h]
  cases hf : isFr xs k with
  | true => rw [e3 hf]; exact ⟨rfl, rfl⟩
  | false => exact ⟨rfl, rfl⟩
theorem impT_app {xs : List (List Int)} {m : List Int} (hr : noRef xs.length xs) {k : Nat} (h : k < xs.length) (ys : List (List Int)) : impT (xs ++ [m]) ys k = impT xs ys k := by
  obtain ⟨b1, b2⟩ := bd_app (m := m) hr h
  unfold impT rvO
  rw [Int.toNat_natCast, b1, b2]
  simp only [at2_app h]
theorem solR_app {xs : List (List Int)} {m : List Int} (hr : noRef xs.length xs) {k : Nat} (h : k < xs.length) (ys : List (List Int)) : solR (xs ++ [m]) k ys = solR xs k ys ++ [m] := by
  rw [solR_in (by omega) (by rw [len_app]; omega), solR_in (by omega) (by omega), impT_app hr h, Int.toNat_natCast, upd2_app h]
theorem solB_app {xs : List (List Int)} {m : List Int} (hr : noRef xs.length xs) {k : Nat} (h : k < xs.length) (ys : List (List Int)) : solB (xs ++ [m]) k ys = solB xs k ys := by
  rw [solB_in (by omega) (by rw [len_app]; omega), solB_in (by omega) (by omega), impT_app hr h, Int.toNat_natCast]
  simp only [at2_app h]
theorem at2_u11 {xs : List (List Int)} (k : Nat) (t : Int) {i j : Nat} (hj : j ≠ 11) : at2 (upd2 xs k 11 [t]) i j = at2 xs i j := by
  by_cases hk : k < xs.length
  · by_cases e : i = k
    · subst e; exact at2_not11 hk t hj
    · simp only [at2, upd2, List.getD_eq_getElem?_getD]
      rw [List.getElem?_set_ne (by omega)]
  · have : upd2 xs k 11 [t] = xs := by unfold upd2; exact List.set_eq_of_length_le (by omega)
    rw [this]
theorem noRef_upd {xs : List (List Int)} {n k : Nat} {t : Int} (h : noRef n xs) : noRef n (upd2 xs k 11 [t]) := fun i hi => by
  rw [upd2_len] at hi
  rw [at2_u11 k t (by decide)]
  exact h i hi
theorem noRef_sol {xs ys : List (List Int)} {n k : Nat} (h : noRef n xs) : noRef n (solR xs k ys) := by
  by_cases hk : k < xs.length
  · rw [solR_in (by omega) (by omega)]; exact noRef_upd h
  · rw [solR_out (by omega)]; exact h
theorem noRef_cl {xs : List (List Int)} {n : Nat} (h : noRef n xs) : ∀ k, noRef n (clN xs k)
  | 0 => h
  | k + 1 => by rw [clN]; exact noRef_upd (noRef_cl h k)
theorem noRef_it {xs ys : List (List Int)} {n : Nat} (h : noRef n xs) : ∀ k, noRef n (itN xs ys k).1
  | 0 => h
  | k + 1 => by rw [itN]; exact noRef_sol (noRef_it h k)
/-- The inert row. -/
structure Inert (m : List Int) : Prop where
  len : m.length = 14
  em : m.getD 6 0 = 0
  im : m.getD 11 0 = 0
  lo : m.getD 8 0 ≤ 0
  up : 0 ≤ m.getD 9 0
def satB (ys : List (List Int)) : Prop := ∀ j, j < ys.length → satV ys j
theorem inert_bd (xs : List (List Int)) {m : List Int} (h : Inert m) : bdL (xs ++ [m]) xs.length ≤ 0 ∧ 0 ≤ bdU (xs ++ [m]) xs.length := by
  unfold bdL bdU
  rw [Int.toNat_natCast, at2_new, at2_new]
  have := h.lo
  have := h.up
  have : 0 ≤ frM (xs ++ [m]) xs.length := by unfold frM; omega
  split
  · split <;> omega
  · omega
theorem inert_sol (xs : List (List Int)) {m : List Int} (h : Inert m) {ys : List (List Int)} (hw : wf 5 ys) (hs : satB ys) : solR (xs ++ [m]) xs.length ys = xs ++ [m] ∧ solB (xs ++ [m]) xs.length ys = ys := by
  obtain ⟨b1, b2⟩ := inert_bd xs h
  have e11 : at2 (xs ++ [m]) (xs.length : Int).toNat 11 = 0 := by rw [Int.toNat_natCast, at2_new, h.im]
  exact solve_zero hw (by omega) (by rw [len_app]; omega) (by rw [Int.toNat_natCast, at2_new, h.em]) (by rw [e11]; decide) (by rw [e11]; exact b1) (by rw [e11]; exact b2) hs
theorem sat_add (a b : Int) : sat (add a b) = add a b := by unfold add; exact sat_sat _
theorem sat_sub' (a b : Int) : sat (sub a b) = sub a b := by unfold sub; exact sat_sat _
theorem satV_ne {ys : List (List Int)} {k j : Nat} (h : j ≠ k) (r : List Int) (hs : satV ys j) : satV (ys.set k r) j := by
  have e : ∀ i, at2 (ys.set k r) j i = at2 ys j i := fun i => by
    simp only [at2, List.getD_eq_getElem?_getD]
    rw [List.getElem?_set_ne (by omega)]
  unfold satV
  rw [e, e, e]
  exact hs
theorem satB_A {ys : List (List Int)} (hs : satB ys) (ra nx ny aa d : Int) : satB (apA ys ra nx ny aa d) := fun j hj => by
  rw [apA_len] at hj
  by_cases h : 0 ≤ ra ∧ ra < ys.length
  · rw [apA_in h.1 h.2]
    by_cases e : j = ra.toNat
    · subst e
      unfold satV
      rw [at2_set hj, at2_set hj, at2_set hj]
      exact ⟨sat_sub' _ _, sat_sub' _ _, sat_sub' _ _⟩
    · exact satV_ne e _ (hs j hj)
  · rw [apA_out (by omega)]; exact hs j hj
theorem satB_B {ys : List (List Int)} (hs : satB ys) (ra nx ny aa d : Int) : satB (apB ys ra nx ny aa d) := fun j hj => by
  rw [apB_len] at hj
  by_cases h : 0 ≤ ra ∧ ra < ys.length
  · rw [apB_in h.1 h.2]
    by_cases e : j = ra.toNat
    · subst e
      unfold satV
      rw [at2_set hj, at2_set hj, at2_set hj]
      exact ⟨sat_add _ _, sat_add _ _, sat_add _ _⟩
    · exact satV_ne e _ (hs j hj)
  · rw [apB_out (by omega)]; exact hs j hj
theorem satB_ap {ys : List (List Int)} (hs : satB ys) (ra rb nx ny aa ab d : Int) : satB (ap ys ra rb nx ny aa ab d) := satB_B (satB_A hs _ _ _ _ _) _ _ _ _ _
theorem satB_sol {xs ys : List (List Int)} (hs : satB ys) (k : Nat) : satB (solB xs k ys) := by
  unfold solB
  split
  · exact satB_ap hs _ _ _ _ _ _ _
  · exact hs
theorem satB_ws (xs : List (List Int)) {ys : List (List Int)} (hs : satB ys) : ∀ k, satB (wsN xs ys k)
  | 0 => hs
  | k + 1 => by rw [wsN]; exact satB_ap (satB_ws xs hs k) _ _ _ _ _ _ _
theorem satB_it (xs : List (List Int)) {ys : List (List Int)} (hs : satB ys) : ∀ k, satB (itN xs ys k).2
  | 0 => hs
  | k + 1 => by rw [itN]; exact satB_sol (satB_it xs hs k) _
theorem clN_app {xs : List (List Int)} {m : List Int} (hr : noRef xs.length xs) : ∀ k, k ≤ xs.length → clN (xs ++ [m]) k = clN xs k ++ [m]
  | 0, _ => rfl
  | k + 1, hk => by
    have ih := clN_app (m := m) hr k (by omega)
    have hl := clN_len xs k
    have hr' : noRef (clN xs k).length (clN xs k) := by rw [hl]; exact noRef_cl hr k
    obtain ⟨b1, b2⟩ := bd_app (m := m) hr' (k := k) (by omega)
    rw [clN, ih, b1, b2, at2_app (by omega), upd2_app (by omega)]
    rfl
theorem upd2_inert {xs : List (List Int)} {m : List Int} (h : Inert m) : upd2 (xs ++ [m]) xs.length 11 [0] = xs ++ [m] := by
  have e : at2 (xs ++ [m]) xs.length 11 = 0 := by rw [at2_new, h.im]
  have := upd_same (xs ++ [m]) xs.length 11
  rwa [e] at this
theorem cl_all {xs : List (List Int)} {m : List Int} (hr : noRef xs.length xs) (h : Inert m) : clN (xs ++ [m]) (xs ++ [m]).length = clN xs xs.length ++ [m] := by
  rw [len_app, clN, clN_app hr _ (Nat.le_refl _)]
  have hl := clN_len xs xs.length
  obtain ⟨b1, b2⟩ := inert_bd (clN xs xs.length) h
  rw [hl] at b1 b2
  have e : at2 (clN xs xs.length ++ [m]) xs.length 11 = 0 := by
    have := at2_new (clN xs xs.length) m 11
    rw [hl] at this
    rw [this, h.im]
  have ec : clamp 0 (bdL (clN xs xs.length ++ [m]) xs.length) (bdU (clN xs xs.length ++ [m]) xs.length) = 0 := by
    unfold clamp; rw [if_neg (by omega), if_neg (by omega)]
  rw [e, ec]
  have := upd2_inert (xs := clN xs xs.length) h
  rwa [hl] at this
theorem wsN_app {xs ys : List (List Int)} {m : List Int} : ∀ k, k ≤ xs.length → wsN (xs ++ [m]) ys k = wsN xs ys k
  | 0, _ => rfl
  | k + 1, hk => by
    rw [wsN, wsN, wsN_app k (by omega)]
    simp only [at2_app (show k < xs.length by omega)]
theorem ap_none {ys : List (List Int)} (hw : wf 5 ys) (hs : satB ys) (ra rb nx ny aa ab : Int) : ap ys ra rb nx ny aa ab 0 = ys := by
  unfold ap; rw [apA_zero hw hs, apB_zero hw hs]
theorem ws_all {xs ys : List (List Int)} {m : List Int} (h : Inert m) (hw : wf 5 ys) (hs : satB ys) : wsN (xs ++ [m]) ys (xs.length + 1) = wsN xs ys xs.length := by
  rw [wsN, wsN_app _ (Nat.le_refl _), at2_new xs m 11, h.im]
  exact ap_none (wsN_wf _ hw _) (satB_ws _ hs _) _ _ _ _ _ _
theorem itN_app {xs ys : List (List Int)} {m : List Int} (hr : noRef xs.length xs) : ∀ k, k ≤ xs.length → itN (xs ++ [m]) ys k = ((itN xs ys k).1 ++ [m], (itN xs ys k).2)
  | 0, _ => rfl
  | k + 1, hk => by
    have hl := itN_len1 xs ys k
    have hr' : noRef (itN xs ys k).1.length (itN xs ys k).1 := by rw [hl]; exact noRef_it hr k
    rw [itN, itN_app hr k (by omega)]
    simp only
    rw [solR_app hr' (by omega), solB_app hr' (by omega)]
    rfl
theorem itA_app {xs ys : List (List Int)} {m : List Int} (hr : noRef xs.length xs) (h : Inert m) (hw : wf 5 ys) (hs : satB ys) (hx : wf 14 xs) : itA (xs ++ [m], ys) = ((itA (xs, ys)).1 ++ [m], (itA (xs, ys)).2) := by
  unfold itA
  simp only
  rw [len_app, itN, itN_app hr _ (Nat.le_refl _)]
  have hl := itN_len1 xs ys xs.length
  simp only
  obtain ⟨e1, e2⟩ := inert_sol (itN xs ys xs.length).1 h (itN_wf hx hw xs.length).2 (satB_it xs hs _)
  rw [hl] at e1 e2
  rw [e1, e2]
/-- AN INERT ROW CHANGES NOTHING. -/
theorem seN_app {xs ys : List (List Int)} {m : List Int} (hr : noRef xs.length xs) (h : Inert m) (hx : wf 14 xs) (hw : wf 5 ys) (hs : satB ys) : ∀ k, seN (xs ++ [m]) ys k = ((seN xs ys k).1 ++ [m], (seN xs ys k).2) ∧ noRef xs.length (seN xs ys k).1 ∧ satB (seN xs ys k).2
  | 0 => by
    rw [seN, seN, cl_all hr h]
    have hl := clN_len xs xs.length
    have e := ws_all (xs := clN xs xs.length) h hw hs
    rw [hl] at e
    rw [len_app, e]
    exact ⟨rfl, noRef_cl hr _, satB_ws _ hs _⟩
  | k + 1 => by
    obtain ⟨i1, i2, i3⟩ := seN_app hr h hx hw hs k
    have hl := seN_len1 xs ys k
    obtain ⟨w1, w2⟩ := seN_wf hx hw k
    rw [seN, seN, i1, itA_app (by rw [hl]; exact i2) h w2 i3 w1]
    exact ⟨rfl, noRef_it i2 _, satB_it _ i3 _⟩

end Go.Proofs.Ytapbegcmdiemoaa
