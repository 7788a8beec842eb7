/- The reference's convex hull: corner after corner, in rows. Plain. -/
import Derived.Test.YtbichdbapkpjpaaHn
namespace Go.Proofs.Ytbichdbapkpjpaa
open Go.RowKit Fx Vx Bx Ev
open Hl (P cr d2 okN nxt)
set_option linter.unusedVariables false
set_option linter.unusedSimpArgs false

/-- Point j does not lie to the right of the way from p to point i, nor behind it. -/
def CndI (xs : List (List Int)) (p : P) (i j : Nat) : Prop := orient p.1 p.2 (at2 xs i 0) (at2 xs i 1) (at2 xs j 0) (at2 xs j 1) = 1 ∨ orient p.1 p.2 (at2 xs i 0) (at2 xs i 1) (at2 xs j 0) (at2 xs j 1) = 0 ∧ dist2 p.1 p.2 (at2 xs j 0) (at2 xs j 1) ≤ dist2 p.1 p.2 (at2 xs i 0) (at2 xs i 1)
instance (xs : List (List Int)) (p : P) (i j : Nat) : Decidable (CndI xs p i j) := by unfold CndI; infer_instance
def OkI (xs : List (List Int)) (p : P) (i k : Nat) : Prop := pt xs i ≠ p ∧ ∀ j, j < k → CndI xs p i j
instance (xs : List (List Int)) (p : P) (i k : Nat) : Decidable (OkI xs p i k) := by unfold OkI; infer_instance
theorem OkI.succ {xs : List (List Int)} {p : P} {i k : Nat} (h : OkI xs p i k) (c : CndI xs p i k) : OkI xs p i (k + 1) := ⟨h.1, fun j hj => by
  rcases Nat.lt_or_ge j k with e | e
  · exact h.2 j e
  · obtain rfl : j = k := by omega
    exact c⟩
theorem OkI.at {xs : List (List Int)} {p : P} {i k j : Nat} (h : OkI xs p i k) (hj : j < k) : CndI xs p i j := h.2 j hj
theorem OkI.le {xs : List (List Int)} {p : P} {i k j : Nat} (h : OkI xs p i k) (hj : j ≤ k) : OkI xs p i j := ⟨h.1, fun m hm => h.2 m (by omega)⟩
/-- The next corner. -/
def nxF (xs : List (List Int)) (p : P) : Nat → Option Nat
  | 0 => none
  | k + 1 => match nxF xs p k with
    | some i => some i
    | none => if OkI xs p k xs.length then some k else none
def nxI (xs : List (List Int)) (p : P) : P := match nxF xs p xs.length with
  | some i => pt xs i
  | none => p
theorem nxF_none {xs : List (List Int)} {p : P} : ∀ {n}, nxF xs p n = none → ∀ i, i < n → ¬ OkI xs p i xs.length
  | n + 1, h, i, hi => by
    unfold nxF at h
    cases e : nxF xs p n with
    | some j => rw [e] at h; simp at h
    | none =>
      rw [e] at h
      simp only at h
      split at h
      · simp at h
      · rename_i hn
        rcases Nat.lt_or_ge i n with k | k
        · exact nxF_none e i k
        · obtain rfl : i = n := by omega
          exact hn
theorem nxF_some {xs : List (List Int)} {p : P} {i : Nat} : ∀ {n}, nxF xs p n = some i → i < n ∧ OkI xs p i xs.length
  | n + 1, h => by
    unfold nxF at h
    cases e : nxF xs p n with
    | some j =>
      rw [e] at h
      injection h with h
      subst h
      obtain ⟨h1, h2⟩ := nxF_some e
      exact ⟨by omega, h2⟩
    | none =>
      rw [e] at h
      simp only at h
      split at h
      · rename_i hn
        injection h with h
        subst h
        exact ⟨by omega, hn⟩
      · simp at h
theorem nxF_go {xs : List (List Int)} {p : P} {i : Nat} (h : nxF xs p i = none) (k : ¬ OkI xs p i xs.length) : nxF xs p (i + 1) = none := by
  unfold nxF; rw [h]; exact if_neg k
theorem nxF_hit {xs : List (List Int)} {p : P} {i : Nat} (h : nxF xs p i = none) (k : OkI xs p i xs.length) : ∀ n, i < n → nxF xs p n = some i
  | n + 1, hn => by
    unfold nxF
    rcases Nat.lt_or_ge i n with e | e
    · rw [nxF_hit h k n e]
    · obtain rfl : i = n := by omega
      rw [h]; exact if_pos k
theorem nxI_hit {xs : List (List Int)} {p : P} {i : Nat} (h : nxF xs p i = none) (k : OkI xs p i xs.length) (hi : i < xs.length) : nxI xs p = pt xs i := by
  unfold nxI; rw [nxF_hit h k _ hi]
theorem nxI_none {xs : List (List Int)} {p : P} (h : nxF xs p xs.length = none) : nxI xs p = p := by
  unfold nxI; rw [h]
theorem sat_in {x : Int} (h : -1048576 ≤ x ∧ x ≤ 1048576) : sat x = x := sat_id (by omega) (by omega)
theorem dist2_in {a b : P} (ha : In a) (hb : In b) : dist2 a.1 a.2 b.1 b.2 = d2 a b := by
  unfold dist2 d2
  rw [sat_in ha.1, sat_in ha.2, sat_in hb.1, sat_in hb.2]
theorem cndI_iff {xs : List (List Int)} (h : AllR xs xs.length) {p : P} (hp : In p) {i j : Nat} (hi : i < xs.length) (hj : j < xs.length) : CndI xs p i j ↔ (0 < cr p (pt xs i) (pt xs j) ∨ cr p (pt xs i) (pt xs j) = 0 ∧ d2 p (pt xs j) ≤ d2 p (pt xs i)) := by
  have h1 := orient_one (a := p) (b := pt xs i) (c := pt xs j) hp (h i hi) (h j hj)
  have h2 := orient_zero (a := p) (b := pt xs i) (c := pt xs j) hp (h i hi) (h j hj)
  have h3 := dist2_in (a := p) (b := pt xs i) hp (h i hi)
  have h4 := dist2_in (a := p) (b := pt xs j) hp (h j hj)
  unfold CndI
  simp only [pt] at h1 h2 h3 h4 ⊢
  rw [h1, h2, h3, h4]
theorem okN_iff {xs : List (List Int)} (h : AllR xs xs.length) {p : P} (hp : In p) {i : Nat} (hi : i < xs.length) : okN (pts xs) p (pt xs i) = true ↔ OkI xs p i xs.length := by
  simp only [okN, Bool.and_eq_true, decide_eq_true_eq, List.all_eq_true, Bool.or_eq_true]
  constructor
  · intro ⟨h1, h2⟩
    exact ⟨h1, fun j hj => (cndI_iff h hp hi hj).2 (h2 _ (pt_mem hj))⟩
  · intro ⟨h1, h2⟩
    refine ⟨h1, fun k hk => ?_⟩
    obtain ⟨j, hj, rfl⟩ := mem_pt hk
    exact (cndI_iff h hp hi hj).1 (h2 j hj)
theorem find_first {α : Type} {q : α → Bool} : ∀ {l : List α} {i : Nat} (hi : i < l.length), (∀ j (hj : j < i), q (l[j]'(by omega)) = false) → q l[i] = true → l.find? q = some l[i]
  | a :: l, 0, _, _, h => by simp at h ⊢; simp [h]
  | a :: l, i + 1, hi, hb, h => by
    have h0 := hb 0 (by omega)
    simp only [List.getElem_cons_zero] at h0
    rw [List.find?_cons, h0]
    simp only [List.getElem_cons_succ] at h ⊢
    exact find_first (by simpa using hi) (fun j hj => by have := hb (j + 1) (by omega); simpa using this) h
theorem nxI_nxt {xs : List (List Int)} (h : AllR xs xs.length) {p : P} (hp : In p) : nxI xs p = nxt (pts xs) p := by
  unfold Hl.nxt
  cases e : nxF xs p xs.length with
  | none =>
    rw [nxI_none e]
    have : (pts xs).find? (okN (pts xs) p) = none := by
      rw [List.find?_eq_none]
      intro q hq
      obtain ⟨j, hj, rfl⟩ := mem_pt hq
      rw [okN_iff h hp hj]
      exact nxF_none e j hj
    rw [this]; rfl
  | some i =>
    obtain ⟨h1, h2⟩ := nxF_some e
    have hmin : ∀ j, j < i → ¬ OkI xs p j xs.length := by
      -- the first that serves
      have aux : ∀ n, nxF xs p n = some i → ∀ j, j < i → ¬ OkI xs p j xs.length := by
        intro n
        induction n with
        | zero => intro hh; simp [nxF] at hh
        | succ n ih =>
          intro hh
          unfold nxF at hh
          cases e' : nxF xs p n with
          | some k =>
            rw [e'] at hh
            injection hh with hh
            subst hh
            exact ih e'
          | none =>
            rw [e'] at hh
            simp only at hh
            split at hh
            · injection hh with hh
              subst hh
              exact nxF_none e'
            · simp at hh
      exact aux _ e
    have hl : i < (pts xs).length := by rw [pts_len]; exact h1
    have : (pts xs).find? (okN (pts xs) p) = some (pts xs)[i] := find_first hl (fun j hj => by
      rw [pts_get (by omega)]
      rw [Bool.eq_false_iff]
      intro hc
      exact hmin j hj ((okN_iff h hp (by omega)).1 hc)) (by
      rw [pts_get h1]
      exact (okN_iff h hp h1).2 h2)
    rw [this, pts_get h1]
    unfold nxI
    rw [e]
    rfl
/-- The ends. -/
def lowN (xs : List (List Int)) : Nat → P
  | 0 => pt xs 0
  | k + 1 => if Hl.lt (pt xs k) (lowN xs k) then pt xs k else lowN xs k
def highN (xs : List (List Int)) : Nat → P
  | 0 => pt xs 0
  | k + 1 => if Hl.lt (highN xs k) (pt xs k) then pt xs k else highN xs k
def lowP (xs : List (List Int)) : P := lowN xs xs.length
def highP (xs : List (List Int)) : P := highN xs xs.length
def ColN (xs : List (List Int)) (n : Nat) : Prop := ∀ i, i < n → orient (lowP xs).1 (lowP xs).2 (highP xs).1 (highP xs).2 (at2 xs i 0) (at2 xs i 1) = 0
instance (xs : List (List Int)) (n : Nat) : Decidable (ColN xs n) := by unfold ColN; infer_instance
theorem ColN.succ {xs : List (List Int)} {k : Nat} (h : ColN xs k) (c : orient (lowP xs).1 (lowP xs).2 (highP xs).1 (highP xs).2 (at2 xs k 0) (at2 xs k 1) = 0) : ColN xs (k + 1) := fun j hj => by
  rcases Nat.lt_or_ge j k with e | e
  · exact h j e
  · obtain rfl : j = k := by omega
    exact c
theorem ColN.nil (xs : List (List Int)) : ColN xs 0 := fun i hi => absurd hi (Nat.not_lt_zero _)
theorem lowN_ok {xs : List (List Int)} (h : 0 < xs.length) : ∀ k, k ≤ xs.length → lowN xs k ∈ pts xs ∧ ∀ i, i < k → lowN xs k = pt xs i ∨ Hl.lt (lowN xs k) (pt xs i)
  | 0, _ => ⟨pt_mem h, fun i hi => absurd hi (Nat.not_lt_zero _)⟩
  | k + 1, hk => by
    obtain ⟨h1, h2⟩ := lowN_ok h k (by omega)
    unfold lowN
    split
    · rename_i hl
      refine ⟨pt_mem (by omega), fun i hi => ?_⟩
      rcases Nat.lt_or_ge i k with e | e
      · rcases h2 i e with g | g
        · rw [← g]; exact Or.inr hl
        · exact Or.inr (Hl.lt_trans hl g)
      · obtain rfl : i = k := by omega
        exact Or.inl rfl
    · rename_i hl
      refine ⟨h1, fun i hi => ?_⟩
      rcases Nat.lt_or_ge i k with e | e
      · exact h2 i e
      · obtain rfl : i = k := by omega
        rcases Hl.lt_tri (lowN xs i) (pt xs i) with g | g | g
        · exact Or.inr g
        · exact Or.inl g
        · exact absurd g hl
theorem highN_ok {xs : List (List Int)} (h : 0 < xs.length) : ∀ k, k ≤ xs.length → highN xs k ∈ pts xs ∧ ∀ i, i < k → pt xs i = highN xs k ∨ Hl.lt (pt xs i) (highN xs k)
  | 0, _ => ⟨pt_mem h, fun i hi => absurd hi (Nat.not_lt_zero _)⟩
  | k + 1, hk => by
    obtain ⟨h1, h2⟩ := highN_ok h k (by omega)
    unfold highN
    split
    · rename_i hl
      refine ⟨pt_mem (by omega), fun i hi => ?_⟩
      rcases Nat.lt_or_ge i k with e | e
      · rcases h2 i e with g | g
        · rw [g]; exact Or.inr hl
        · exact Or.inr (Hl.lt_trans g hl)
      · obtain rfl : i = k := by omega
        exact Or.inl rfl
    · rename_i hl
      refine ⟨h1, fun i hi => ?_⟩
      rcases Nat.lt_or_ge i k with e | e
      · exact h2 i e
      · obtain rfl : i = k := by omega
        rcases Hl.lt_tri (highN xs i) (pt xs i) with g | g | g
        · exact absurd g hl
        · exact Or.inl g.symm
        · exact Or.inr g
/-- The walk round. -/
def goI (xs : List (List Int)) (f : P) : Nat → P → List P
  | 0, _ => []
  | n + 1, v => if v = f then [] else v :: goI xs f n (nxI xs v)
theorem goI_stop {xs : List (List Int)} {f v : P} {n : Nat} (h : v = f ∨ n = 0) : goI xs f n v = [] := by
  cases n with
  | zero => rfl
  | succ n =>
    rcases h with h | h
    · exact if_pos h
    · omega
theorem goI_go {xs : List (List Int)} {f v : P} {n : Nat} (h : v ≠ f) : goI xs f (n + 1) v = v :: goI xs f n (nxI xs v) := if_neg h
def hullI (xs : List (List Int)) : List P :=
  if decide (ColN xs xs.length) then (if lowP xs = highP xs then [lowP xs] else [lowP xs, highP xs])
  else lowP xs :: goI xs (lowP xs) xs.length (nxI xs (lowP xs))
def refR (xs : List (List Int)) : List (List Int) := if hullOk xs then rws (hullI xs) else []
theorem goI_go' {xs : List (List Int)} (h : AllR xs xs.length) {f : P} : ∀ (n : Nat) (v : P), In v → goI xs f n v = Hl.go (pts xs) f n v
  | 0, _, _ => rfl
  | n + 1, v, hv => by
    unfold goI Hl.go
    split
    · rfl
    · rw [nxI_nxt h hv]
      congr 1
      refine goI_go' h n _ ?_
      unfold Hl.nxt
      cases e : (pts xs).find? (okN (pts xs) v) with
      | none => exact hv
      | some q => exact (allIn_iff.2 h) q (List.mem_of_find?_eq_some e)
/-- THE REFERENCE'S HULL is the program's. -/
theorem refR_hullR (xs : List (List Int)) : refR xs = hullR xs := by
  cases hk : hullOk xs with
  | false => rw [hullR_no hk]; unfold refR; rw [hk]; rfl
  | true =>
    obtain ⟨n1, n2, hA⟩ := hullOk_iff.1 hk
    have hwf : rws (pts (hullR xs)) = hullR xs := rws_pts (hullR_wf xs)
    rw [← hwf]
    unfold refR
    rw [if_pos hk]
    congr 1
    obtain ⟨l1, l2⟩ : lowP xs ∈ pts xs ∧ ∀ i, i < xs.length → lowP xs = pt xs i ∨ Hl.lt (lowP xs) (pt xs i) := lowN_ok (xs := xs) n1 xs.length (Nat.le_refl _)
    obtain ⟨g1, g2⟩ : highP xs ∈ pts xs ∧ ∀ i, i < xs.length → pt xs i = highP xs ∨ Hl.lt (pt xs i) (highP xs) := highN_ok (xs := xs) n1 xs.length (Nat.le_refl _)
    have inA := allIn_iff.2 hA
    have colI : ColN xs xs.length ↔ ∀ q ∈ pts xs, cr (lowP xs) (highP xs) q = 0 := by
      constructor
      · intro hc q hq
        obtain ⟨j, hj, rfl⟩ := mem_pt hq
        exact (orient_zero (a := lowP xs) (b := highP xs) (c := pt xs j) (inA _ l1) (inA _ g1) (hA j hj)).1 (hc j hj)
      · intro hc j hj
        exact (orient_zero (a := lowP xs) (b := highP xs) (c := pt xs j) (inA _ l1) (inA _ g1) (hA j hj)).2 (hc _ (pt_mem hj))
    have lowU : ∀ p ∈ pts xs, (∀ q ∈ pts xs, p = q ∨ Hl.lt p q) → lowP xs = p := fun p hp lo => by
      obtain ⟨i, hi, rfl⟩ := mem_pt hp
      rcases lo _ l1 with e | e
      · exact e.symm
      · rcases l2 i hi with k | k
        · exact k
        · exact absurd (Hl.lt_trans e k) Hl.lt_irrefl
    have highU : ∀ p ∈ pts xs, (∀ q ∈ pts xs, q = p ∨ Hl.lt q p) → highP xs = p := fun p hp hi' => by
      obtain ⟨i, hi, rfl⟩ := mem_pt hp
      rcases hi' _ g1 with e | e
      · exact e
      · rcases g2 i hi with k | k
        · exact k.symm
        · exact absurd (Hl.lt_trans e k) Hl.lt_irrefl
    have hH := hullR_is hk
    unfold hullI
    cases hH with
    | one p e hS =>
      have a1 : lowP xs = p := (hS _).1 l1
      have a2 : highP xs = p := (hS _).1 g1
      rw [if_pos (decide_eq_true (colI.2 fun q hq => by rw [a1, a2]; exact Hl.cr_self3 _ _)), if_pos (by rw [a1, a2]), a1, e]
    | line p m e hpm hp hm lo hi col =>
      have a1 := lowU p hp lo
      have a2 := highU m hm hi
      rw [if_pos (decide_eq_true (colI.2 fun q hq => by rw [a1, a2]; exact col q hq)), if_neg (by rw [a1, a2]; exact Hl.lt_ne hpm), a1, a2, e]
    | full p m H hpm hp hm lo hi nc =>
      have a1 := lowU p hp lo
      have a2 := highU m hm hi
      rw [if_neg (by rw [decide_eq_true_eq, colI, a1, a2]; exact nc)]
      have hh : H.ne = H.ne := rfl
      have ah : (pts (hullR xs)).head H.ne = lowP xs := by
        have h1 := H.mem _ (List.head_mem H.ne)
        exact (lowU _ h1 H.low).symm
      have := H.go
      rw [ah] at this
      rw [nxI_nxt hA (inA _ l1), goI_go' hA _ _ (by
        unfold Hl.nxt
        cases e : (pts xs).find? (okN (pts xs) (lowP xs)) with
        | none => exact inA _ l1
        | some q => exact inA q (List.mem_of_find?_eq_some e))]
      rw [pts_len] at this
      exact this
end Go.Proofs.Ytbichdbapkpjpaa
