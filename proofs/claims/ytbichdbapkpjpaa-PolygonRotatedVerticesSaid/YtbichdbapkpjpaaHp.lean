/- Facts on convex hulls and convex polygons for the laws of chapter 11. Plain. -/
import Derived.Test.YtbichdbapkpjpaaHo
namespace Go.Proofs.Ytbichdbapkpjpaa
open Go.RowKit Fx Vx Bx Ev
open Hl (P cr d2 dt IsHull)
set_option linter.unusedVariables false
set_option linter.unusedSimpArgs false

theorem low_uniq {S : List P} {p q : P} (hp : p ∈ S) (hq : q ∈ S) (lp : ∀ x ∈ S, p = x ∨ Hl.lt p x) (lq : ∀ x ∈ S, q = x ∨ Hl.lt q x) : p = q := by
  rcases lp q hq with e | e
  · exact e
  · rcases lq p hp with k | k
    · exact k.symm
    · exact absurd (Hl.lt_trans e k) Hl.lt_irrefl
theorem high_uniq {S : List P} {p q : P} (hp : p ∈ S) (hq : q ∈ S) (lp : ∀ x ∈ S, x = p ∨ Hl.lt x p) (lq : ∀ x ∈ S, x = q ∨ Hl.lt x q) : p = q := by
  rcases lp q hq with e | e
  · exact e.symm
  · rcases lq p hp with k | k
    · exact k
    · exact absurd (Hl.lt_trans e k) Hl.lt_irrefl
theorem isHull_uniq {S h k : List P} (H : IsHull S h) (K : IsHull S k) : h = k := by
  have e := low_uniq (H.mem _ (List.head_mem H.ne)) (K.mem _ (List.head_mem K.ne)) H.low K.low
  have g1 := H.go
  have g2 := K.go
  rw [e] at g1
  exact g1.symm.trans g2
theorem steps_get {S : List P} : ∀ {l : List P}, Hl.Steps S l → ∀ i (h : i + 1 < l.length), Hl.Edge S (l[i]'(by omega)) l[i + 1]
  | a :: b :: l, h, 0, _ => h.1
  | a :: b :: l, h, i + 1, hi => by
    have := steps_get (l := b :: l) h.2 i (by simpa using hi)
    simpa using this
theorem isHull_edge {S h : List P} (H : IsHull S h) {i : Nat} (hi : i < h.length) : Hl.Edge S h[i] (h[(i + 1) % h.length]'(Nat.mod_lt _ (by omega))) := by
  have e := steps_get H.steps i (by simp; omega)
  have e1 : (h ++ [h.head H.ne])[i]'(by simp; omega) = h[i] := List.getElem_append_left hi
  rw [e1] at e
  rcases Nat.lt_or_ge (i + 1) h.length with k | k
  · have e2 : (h ++ [h.head H.ne])[i + 1]'(by simp; omega) = h[i + 1] := List.getElem_append_left k
    rw [e2] at e
    have e3 : (i + 1) % h.length = i + 1 := Nat.mod_eq_of_lt k
    simp only [e3]
    exact e
  · have hn : i + 1 = h.length := by omega
    have e2 : (h ++ [h.head H.ne])[i + 1]'(by simp; omega) = h.head H.ne := by
      rw [List.getElem_append_right (by omega)]
      simp
    rw [e2] at e
    have e3 : (i + 1) % h.length = 0 := by rw [hn]; exact Nat.mod_self _
    simp only [e3]
    rw [← List.head_eq_getElem H.ne]
    exact e
/-- A corner strictly between the ends of an edge would not be one. -/
theorem no_mid {S : List P} {a b q r : P} (hE : Hl.Edge S a b) (hF : Hl.Edge S q r) (ha : a ∈ S) (hb : b ∈ S) (hq : q ∈ S) (h0 : cr a b q = 0) (hqa : q ≠ a) (hqb : q ≠ b) : False := by
  obtain ⟨f1, f2⟩ := hE.far q hq h0
  have hD := Hl.d2_pos hE.ne
  -- D (q - a) = s (b - a)
  have e1 : d2 a b * (q.1 - a.1) = dt a b q * (b.1 - a.1) := by
    have : d2 a b * (q.1 - a.1) = dt a b q * (b.1 - a.1) - cr a b q * (b.2 - a.2) := by unfold d2 dt cr; grind
    rw [this, h0]; omega
  have e2 : d2 a b * (q.2 - a.2) = dt a b q * (b.2 - a.2) := by
    have : d2 a b * (q.2 - a.2) = dt a b q * (b.2 - a.2) + cr a b q * (b.1 - a.1) := by unfold d2 dt cr; grind
    rw [this, h0]; omega
  have s0 : 0 < dt a b q := by
    rcases Int.lt_or_eq_of_le f1 with k | k
    · exact k
    · rw [← k] at e1 e2
      simp only [Int.zero_mul] at e1 e2
      have x1 : q.1 - a.1 = 0 := by rcases Int.mul_eq_zero.1 e1 with h | h <;> omega
      have x2 : q.2 - a.2 = 0 := by rcases Int.mul_eq_zero.1 e2 with h | h <;> omega
      exact absurd (Prod.ext (by omega) (by omega)) hqa
  have s1 : dt a b q < d2 a b := by
    rcases Int.lt_trichotomy (dt a b q) (d2 a b) with k | k | k
    · exact k
    · rw [k] at e1 e2
      have x1 := Int.eq_of_mul_eq_mul_left (by omega) e1
      have x2 := Int.eq_of_mul_eq_mul_left (by omega) e2
      exact absurd (Prod.ext (by omega) (by omega)) hqb
    · have hL := Hl.lagr a b q
      rw [h0] at hL
      have m1 := Int.mul_lt_mul' (Int.le_of_lt k) k (by omega) (by omega)
      have m2 := Int.mul_le_mul_of_nonneg_right f2 (by omega : 0 ≤ d2 a b)
      omega
  -- a and b, seen from q
  have ka := hF.left a ha
  have kb := hF.left b hb
  have lin : (d2 a b - dt a b q) * cr q r a + dt a b q * cr q r b = 0 := by
    have : d2 a b * ((d2 a b - dt a b q) * cr q r a + dt a b q * cr q r b) = 0 := by
      have q1 : d2 a b * q.1 = d2 a b * a.1 + dt a b q * (b.1 - a.1) := by grind
      have q2 : d2 a b * q.2 = d2 a b * a.2 + dt a b q * (b.2 - a.2) := by grind
      unfold cr
      grind
    rcases Int.mul_eq_zero.1 this with h | h
    · omega
    · exact h
  have p1 := Int.mul_nonneg (show 0 ≤ d2 a b - dt a b q by omega) ka
  have p2 := Int.mul_nonneg (show 0 ≤ dt a b q by omega) kb
  have za : cr q r a = 0 := by
    have : (d2 a b - dt a b q) * cr q r a = 0 := by omega
    rcases Int.mul_eq_zero.1 this with h | h
    · omega
    · exact h
  have zb : cr q r b = 0 := by
    have : dt a b q * cr q r b = 0 := by omega
    rcases Int.mul_eq_zero.1 this with h | h
    · omega
    · exact h
  have da := (hF.far a ha za).1
  have db := (hF.far b hb zb).1
  have lin2 : (d2 a b - dt a b q) * dt q r a + dt a b q * dt q r b = 0 := by
    have : d2 a b * ((d2 a b - dt a b q) * dt q r a + dt a b q * dt q r b) = 0 := by
      have q1 : d2 a b * q.1 = d2 a b * a.1 + dt a b q * (b.1 - a.1) := by grind
      have q2 : d2 a b * q.2 = d2 a b * a.2 + dt a b q * (b.2 - a.2) := by grind
      generalize dt a b q = s at *
      generalize d2 a b = D at *
      unfold dt
      grind
    rcases Int.mul_eq_zero.1 this with h | h
    · omega
    · exact h
  have p3 := Int.mul_nonneg (show 0 ≤ d2 a b - dt a b q by omega) da
  have p4 := Int.mul_nonneg (show 0 ≤ dt a b q by omega) db
  have dz : dt q r a = 0 := by
    have : (d2 a b - dt a b q) * dt q r a = 0 := by omega
    rcases Int.mul_eq_zero.1 this with h | h
    · omega
    · exact h
  have hL := Hl.lagr q r a
  rw [dz, za] at hL
  have hr := Hl.d2_pos hF.ne
  have : d2 q a = 0 := by
    have : d2 q a * d2 q r = 0 := by omega
    rcases Int.mul_eq_zero.1 this with h | h
    · exact h
    · omega
  exact hqa (Hl.d2_zero (by omega))
theorem isHull_strict {S h : List P} (H : IsHull S h) {i k : Nat} (hi : i < h.length) (hk : k < h.length) (k1 : k ≠ i) (k2 : k ≠ (i + 1) % h.length) : 0 < cr h[i] (h[(i + 1) % h.length]'(Nat.mod_lt _ (by omega))) h[k] := by
  have hE := isHull_edge H hi
  have hF := isHull_edge H hk
  have hn : (i + 1) % h.length < h.length := Nat.mod_lt _ (by omega)
  have l := hE.left _ (H.mem _ (List.getElem_mem hk))
  rcases Int.lt_or_eq_of_le l with e | e
  · exact e
  · exfalso
    refine no_mid hE hF (H.mem _ (List.getElem_mem hi)) (H.mem _ (List.getElem_mem hn)) (H.mem _ (List.getElem_mem hk)) e.symm ?_ ?_
    · intro e; exact k1 ((List.getElem_inj H.nodup).1 e)
    · intro e; exact k2 ((List.getElem_inj H.nodup).1 e)
theorem isHull_len {S h : List P} (H : IsHull S h) {p m : P} (hpm : p ≠ m) (hp : p ∈ S) (hm : m ∈ S) (nc : ¬ ∀ q ∈ S, cr p m q = 0) : 3 ≤ h.length := by
  have h0 : 0 < h.length := List.length_pos_iff.2 H.ne
  rcases Nat.lt_or_ge h.length 3 with k | k
  · exfalso
    rcases (show h.length = 1 ∨ h.length = 2 by omega) with e | e
    · have := (isHull_edge H h0).ne
      simp only [e] at this
      exact this rfl
    · have e0 := isHull_edge H h0
      have e1 := isHull_edge H (i := 1) (by omega)
      simp only [e] at e0 e1
      have g : ∀ q ∈ S, cr h[0] h[1] q = 0 := fun q hq => by
        have l0 := e0.left q hq
        have l1 := e1.left q hq
        have : cr h[1] h[0] q = -cr h[0] h[1] q := by unfold cr; grind
        simp only [Nat.reduceMod, Nat.reduceAdd] at l0 l1
        omega
      refine nc fun q hq => ?_
      exact Hl.col_trans (by have := e0.ne; simpa using this) (g p hp) (g m hm) (g q hq)
  · exact k
theorem HullIs.mem {S h : List P} (H : HullIs S h) : ∀ x ∈ h, x ∈ S := by
  cases H with
  | one p e hS => subst e; intro x hx; simp at hx; exact (hS x).2 hx
  | line p m e hpm hp hm lo hi col => subst e; intro x hx; simp at hx; rcases hx with rfl | rfl <;> assumption
  | full p m H hpm hp hm lo hi nc => exact H.mem
theorem HullIs.len {S h : List P} (H : HullIs S h) : 1 ≤ h.length ∧ h.length ≤ S.length := by
  cases H with
  | one p e hS => subst e; exact ⟨Nat.le_refl _, Hl.nodup_le (by simp) fun x hx => by simp at hx; exact (hS x).2 hx⟩
  | line p m e hpm hp hm lo hi col => subst e; exact ⟨by simp, Hl.nodup_le (by simp; exact Hl.lt_ne hpm) fun x hx => by simp at hx; rcases hx with rfl | rfl <;> assumption⟩
  | full p m H hpm hp hm lo hi nc => exact ⟨List.length_pos_iff.2 H.ne, Hl.nodup_le H.nodup H.mem⟩
/-- The hull's own hull. -/
theorem HullIs.again {S h k : List P} (H : HullIs S h) (K : HullIs h k) : k = h := by
  cases H with
  | one p e hS =>
    subst e
    cases K with
    | one q e' hS' => rw [e', (hS' p).1 (by simp)]
    | line p' m' e' hpm hp hm lo hi col => simp at hp hm; rw [hp, hm] at hpm; exact absurd hpm Hl.lt_irrefl
    | full p' m' H' hpm hp hm lo hi nc => simp at hp hm; rw [hp, hm] at hpm; exact absurd hpm Hl.lt_irrefl
  | line p m e hpm hp hm lo hi col =>
    subst e
    cases K with
    | one q e' hS' =>
      have a := (hS' p).1 (by simp)
      have b := (hS' m).1 (by simp)
      rw [a, b] at hpm; exact absurd hpm Hl.lt_irrefl
    | line p' m' e' hpm' hp' hm' lo' hi' col' =>
      rw [e']
      have a := low_uniq (S := [p, m]) hp' (by simp) lo' (q := p) (fun x hx => by simp at hx; rcases hx with rfl | rfl; exact Or.inl rfl; exact Or.inr hpm)
      have b := high_uniq (S := [p, m]) hm' (by simp) hi' (q := m) (fun x hx => by simp at hx; rcases hx with rfl | rfl; exact Or.inr hpm; exact Or.inl rfl)
      rw [a, b]
    | full p' m' H' hpm' hp' hm' lo' hi' nc' =>
      exfalso
      have a := low_uniq (S := [p, m]) hp' (by simp) lo' (q := p) (fun x hx => by simp at hx; rcases hx with rfl | rfl; exact Or.inl rfl; exact Or.inr hpm)
      have b := high_uniq (S := [p, m]) hm' (by simp) hi' (q := m) (fun x hx => by simp at hx; rcases hx with rfl | rfl; exact Or.inr hpm; exact Or.inl rfl)
      refine nc' fun q hq => ?_
      rw [a, b]
      simp at hq
      rcases hq with rfl | rfl
      · exact Hl.cr_self1 _ _
      · exact Hl.cr_self2 _ _
  | full p m H hpm hp hm lo hi nc =>
    have h3 := isHull_len H (Hl.lt_ne hpm) hp hm nc
    have Hh : IsHull h h := H.iff H.mem fun x hx => hx
    cases K with
    | one q e' hS' =>
      exfalso
      have e0 := (isHull_edge H (i := 0) (by omega)).ne
      rw [(hS' _).1 (List.getElem_mem _), (hS' _).1 (List.getElem_mem _)] at e0
      exact e0 rfl
    | line p' m' e' hpm' hp' hm' lo' hi' col' =>
      exfalso
      have s := isHull_strict H (i := 0) (k := 2) (by omega) (by omega) (by omega) (by rw [Nat.mod_eq_of_lt (by omega)]; omega)
      have := Hl.col_trans (Hl.lt_ne hpm') (col' _ (List.getElem_mem (show 0 < h.length by omega))) (col' _ (List.getElem_mem (show (0 + 1) % h.length < h.length from Nat.mod_lt _ (by omega)))) (col' _ (List.getElem_mem (show 2 < h.length by omega)))
      omega
    | full p' m' H' hpm' hp' hm' lo' hi' nc' => exact isHull_uniq H' Hh
/- in rows -/
theorem mem_hull {xs : List (List Int)} {i : Nat} (hi : i < (hullR xs).length) : ∃ k, k < xs.length ∧ pt xs k = pt (hullR xs) i := by
  cases hk : hullOk xs with
  | false => rw [hullR_no hk] at hi; simp at hi
  | true => exact mem_pt ((hullR_is hk).mem _ (pt_mem hi))
theorem hull_le (xs : List (List Int)) : (hullR xs).length ≤ xs.length := by
  cases hk : hullOk xs with
  | false => rw [hullR_no hk]; simp
  | true =>
    have := (hullR_is hk).len.2
    rwa [pts_len, pts_len] at this
theorem hull_ok_hull {xs : List (List Int)} (hk : hullOk xs = true) : hullOk (hullR xs) = true := by
  obtain ⟨h1, h2, h3⟩ := hullOk_iff.1 hk
  have hl := (hullR_is hk).len
  rw [pts_len, pts_len] at hl
  refine hullOk_iff.2 ⟨hl.1, by omega, fun i hi => ?_⟩
  obtain ⟨k, hk', e⟩ := mem_hull hi
  have := h3 k hk'
  have e1 := congrArg Prod.fst e
  have e2 := congrArg Prod.snd e
  simp only [pt] at e1 e2
  rwa [e1, e2] at this
theorem hull_hull (xs : List (List Int)) : hullR (hullR xs) = hullR xs := by
  cases hk : hullOk xs with
  | false => rw [hullR_no hk]; rfl
  | true =>
    have hk2 := hull_ok_hull hk
    have := (hullR_is hk).again (hullR_is hk2)
    rw [← rws_pts (hullR_wf (hullR xs)), this, rws_pts (hullR_wf xs)]
theorem hull_full {xs : List (List Int)} (h3 : 3 ≤ (hullR xs).length) : hullOk xs = true ∧ IsHull (pts xs) (pts (hullR xs)) := by
  cases hk : hullOk xs with
  | false => rw [hullR_no hk] at h3; simp at h3
  | true =>
    refine ⟨rfl, ?_⟩
    have hl := pts_len (hullR xs)
    cases hullR_is hk with
    | one p e hS => rw [e] at hl; simp at hl; omega
    | line p m e hpm hp hm lo hi col => rw [e] at hl; simp at hl; omega
    | full p m H hpm hp hm lo hi nc => exact H
theorem pts_at {xs : List (List Int)} {i : Nat} (h : i < (pts xs).length) : (pts xs)[i] = pt xs i := pts_get (by rw [pts_len] at h; exact h)
theorem hull_convex {xs : List (List Int)} (h3 : 3 ≤ (hullR xs).length) (h8 : (hullR xs).length ≤ 8) : convB (hullR xs) = true := by
  obtain ⟨hk, H⟩ := hull_full h3
  have hA := (hullOk_iff.1 (hull_ok_hull hk)).2.2
  have hL := pts_len (hullR xs)
  refine convB_iff.2 ⟨h3, h8, hA, fun i hi k hk' => ?_⟩
  unfold LeftOf
  by_cases k1 : k = i
  · exact Or.inl k1
  by_cases k2 : k = (i + 1) % (hullR xs).length
  · exact Or.inr (Or.inl k2)
  refine Or.inr (Or.inr ?_)
  have s := isHull_strict H (i := i) (k := k) (by rw [hL]; exact hi) (by rw [hL]; exact hk') k1 (by rw [hL]; exact k2)
  rw [pts_at, pts_at, pts_at] at s
  rw [hL] at s
  exact (orient_one (a := pt (hullR xs) i) (b := pt (hullR xs) ((i + 1) % (hullR xs).length)) (c := pt (hullR xs) k) (hA i hi) (hA _ (Nat.mod_lt _ (by omega))) (hA k hk')).2 s
theorem hull_has {xs : List (List Int)} (h3 : 3 ≤ (hullR xs).length) (h8 : (hullR xs).length ≤ 8) {k : Nat} (hk : k < xs.length) : hasX (hullR xs) (at2 xs k 0) (at2 xs k 1) = true := by
  refine hasX_yes (hull_convex h3 h8) fun i hi => ?_
  obtain ⟨hok, H⟩ := hull_full h3
  have hA := (hullOk_iff.1 (hull_ok_hull hok)).2.2
  have hX := (hullOk_iff.1 hok).2.2
  have hL := pts_len (hullR xs)
  have e := (isHull_edge H (i := i) (by rw [hL]; exact hi)).left _ (pt_mem hk)
  rw [pts_at, pts_at] at e
  rw [hL] at e
  intro hc
  have := (orient_m1 (a := pt (hullR xs) i) (b := pt (hullR xs) ((i + 1) % (hullR xs).length)) (c := pt xs k) (hA i hi) (hA ((i + 1) % (hullR xs).length) (Nat.mod_lt _ (by omega))) (hX k hk)).1 hc
  exact absurd this (by have : (0 : Int) ≤ cr (pt (hullR xs) i) (pt (hullR xs) ((i + 1) % (hullR xs).length)) (pt xs k) := e; unfold pt at this; omega)
/-- The same points have the same hull. -/
theorem hull_same {xs ys : List (List Int)} (hS : ∀ p, p ∈ pts xs ↔ p ∈ pts ys) (hx : xs.length ≤ 64) (hy : ys.length ≤ 64) : hullR xs = hullR ys := by
  have e : hullOk xs = hullOk ys := by
    rw [Bool.eq_iff_iff, hullOk_iff, hullOk_iff]
    have a : ∀ {us vs : List (List Int)}, (∀ p, p ∈ pts us ↔ p ∈ pts vs) → 1 ≤ us.length → 1 ≤ vs.length := fun {us vs} h h1 => by
      obtain ⟨j, hj, _⟩ := mem_pt ((h _).1 (pt_mem (i := 0) (by omega)))
      omega
    have b : ∀ {us vs : List (List Int)}, (∀ p, p ∈ pts us ↔ p ∈ pts vs) → AllR us us.length → AllR vs vs.length := fun {us vs} h h1 => by
      rw [← allIn_iff] at h1 ⊢
      exact fun p hp => h1 p ((h p).2 hp)
    exact ⟨fun ⟨h1, _, h3⟩ => ⟨a hS h1, hy, b hS h3⟩, fun ⟨h1, _, h3⟩ => ⟨a (fun p => (hS p).symm) h1, hx, b (fun p => (hS p).symm) h3⟩⟩
  unfold hullR sdR
  rw [e, sd_eq hS]
/- rotation -/
def rot (xs : List (List Int)) (n : Nat) : List (List Int) := xs.drop n ++ xs.take n
theorem rot_len (xs : List (List Int)) (n : Nat) : (rot xs n).length = xs.length := by simp [rot]; omega
theorem rot_mem {xs : List (List Int)} {n : Nat} (p : P) : p ∈ pts (rot xs n) ↔ p ∈ pts xs := by
  unfold rot pts
  rw [List.map_append, List.mem_append, or_comm, ← List.mem_append, ← List.map_append, List.take_append_drop]
theorem rot_get {xs : List (List Int)} {n i : Nat} (hn : n < xs.length) (hi : i < xs.length) : (rot xs n).getD i [] = xs.getD ((i + n) % xs.length) [] := by
  have hm : (i + n) % xs.length < xs.length := Nat.mod_lt _ (by omega)
  have hr : i < (rot xs n).length := by rw [rot_len]; exact hi
  have : (rot xs n)[i] = xs[(i + n) % xs.length] := by
    unfold rot at hr ⊢
    rcases Nat.lt_or_ge i (xs.drop n).length with h | h
    · rw [List.getElem_append_left h, List.getElem_drop]
      rw [List.length_drop] at h
      congr 1
      rw [Nat.mod_eq_of_lt (by omega)]; omega
    · rw [List.getElem_append_right h, List.getElem_take]
      rw [List.length_drop] at h
      congr 1
      rw [List.length_drop, Nat.mod_eq_sub_mod (by omega), Nat.mod_eq_of_lt (by omega)]; omega
  simp [hr, hm, this]
theorem rot_at {xs : List (List Int)} {n i : Nat} (hn : n < xs.length) (hi : i < xs.length) (j : Nat) : at2 (rot xs n) i j = at2 xs ((i + n) % xs.length) j := by
  unfold at2; rw [rot_get hn hi]
theorem rot_pt {xs : List (List Int)} {n i : Nat} (hn : n < xs.length) (hi : i < xs.length) : pt (rot xs n) i = pt xs ((i + n) % xs.length) := by
  rw [pt_eq, pt_eq, rot_get hn hi]
theorem mod_inj {n i k : Nat} {m : Nat} (hi : i < m) (hk : k < m) (h : (i + n) % m = (k + n) % m) : i = k := by
  have h1 := Nat.mod_add_div (i + n) m
  have h2 := Nat.mod_add_div (k + n) m
  rw [h] at h1
  have : (i + n) / m = (k + n) / m := by
    rcases Nat.lt_trichotomy ((i + n) / m) ((k + n) / m) with e | e | e
    · have := Nat.mul_le_mul_left m (show (i + n) / m + 1 ≤ (k + n) / m by omega)
      rw [Nat.mul_add, Nat.mul_one] at this; omega
    · exact e
    · have := Nat.mul_le_mul_left m (show (k + n) / m + 1 ≤ (i + n) / m by omega)
      rw [Nat.mul_add, Nat.mul_one] at this; omega
  rw [this] at h1; omega
theorem mod_next {n i m : Nat} (hm : 0 < m) : ((i + 1) % m + n) % m = ((i + n) % m + 1) % m := by
  rw [Nat.mod_add_mod, Nat.mod_add_mod]; congr 1; omega
theorem rot_conv1 {xs : List (List Int)} {n : Nat} (hn : n < xs.length) (h : convB xs = true) : convB (rot xs n) = true := by
  obtain ⟨h1, h2, h3, h4⟩ := convB_iff.1 h
  have hl := rot_len xs n
  have hm : ∀ i, (i + n) % xs.length < xs.length := fun i => Nat.mod_lt _ (by omega)
  refine convB_iff.2 ⟨by omega, by omega, fun i hi => ?_, fun i hi k hk => ?_⟩
  · rw [hl] at hi
    rw [rot_at hn hi, rot_at hn hi]
    exact h3 _ (hm i)
  · rw [hl] at hi hk
    have := h4 _ (hm i) _ (hm k)
    unfold LeftOf at this ⊢
    rw [hl]
    have hnx : (i + 1) % xs.length < xs.length := Nat.mod_lt _ (by omega)
    rcases this with e | e | e
    · exact Or.inl (mod_inj hk hi e)
    · rw [← mod_next (by omega)] at e
      exact Or.inr (Or.inl (mod_inj hk hnx e))
    · refine Or.inr (Or.inr ?_)
      unfold ortX at e ⊢
      rw [rot_at hn hi, rot_at hn hi, rot_at hn hnx, rot_at hn hnx, rot_at hn hk, rot_at hn hk, mod_next (by omega)]
      exact e
theorem rot_back {xs : List (List Int)} {n : Nat} (hn : n < xs.length) (hw : wf 2 xs) : ∃ k, k < xs.length ∧ rot (rot xs n) k = xs := by
  rcases Nat.eq_zero_or_pos n with e | e
  · subst e
    refine ⟨0, hn, ?_⟩
    simp [rot]
  · refine ⟨xs.length - n, by omega, ?_⟩
    have h1 : xs.length - n = (xs.drop n).length := by simp
    unfold rot
    rw [h1, List.drop_left, List.take_left, List.take_append_drop]
theorem rot_conv {xs : List (List Int)} {n : Nat} (hn : n < xs.length) (hw : wf 2 xs) : convB (rot xs n) = convB xs := by
  rw [Bool.eq_iff_iff]
  constructor
  · intro h
    obtain ⟨k, hk, e⟩ := rot_back hn hw
    rw [← e]
    exact rot_conv1 (by rw [rot_len]; exact hk) h
  · exact rot_conv1 hn
/- the shortest edge -/
theorem shN_min {xs : List (List Int)} : ∀ k, 0 < k → (∃ i, i < k ∧ shN xs k = edL xs i) ∧ ∀ i, i < k → shN xs k ≤ edL xs i
  | 1, _ => by
    have h0 : shN xs 0 < 0 := show (-1 : Int) < 0 by decide
    rw [shN_s, if_pos (Or.inl h0)]
    exact ⟨⟨0, by omega, rfl⟩, fun i hi => by
      obtain rfl : i = 0 := by omega
      exact Int.le_refl _⟩
  | k + 2, _ => by
    obtain ⟨⟨i, hi, e⟩, hm⟩ := shN_min (xs := xs) (k + 1) (by omega)
    have nn := shN_nn xs (k + 1) (by omega)
    rw [shN_s]
    split
    · rename_i h
      refine ⟨⟨k + 1, by omega, rfl⟩, fun j hj => ?_⟩
      rcases Nat.lt_or_ge j (k + 1) with g | g
      · have := hm j g; omega
      · obtain rfl : j = k + 1 := by omega
        omega
    · rename_i h
      refine ⟨⟨i, by omega, e⟩, fun j hj => ?_⟩
      rcases Nat.lt_or_ge j (k + 1) with g | g
      · exact hm j g
      · obtain rfl : j = k + 1 := by omega
        omega
theorem rot_edL {xs : List (List Int)} {n i : Nat} (hn : n < xs.length) (hi : i < xs.length) : edL (rot xs n) i = edL xs ((i + n) % xs.length) := by
  have hnx : (i + 1) % xs.length < xs.length := Nat.mod_lt _ (by omega)
  unfold edL
  rw [rot_len, rot_at hn hi, rot_at hn hi, rot_at hn hnx, rot_at hn hnx, mod_next (by omega)]
theorem rot_onto {n k m : Nat} (hn : n < m) (hk : k < m) : ∃ i, i < m ∧ (i + n) % m = k := by
  rcases Nat.lt_or_ge k n with e | e
  · refine ⟨k + m - n, by omega, ?_⟩
    rw [show k + m - n + n = k + m by omega, Nat.add_mod_right, Nat.mod_eq_of_lt hk]
  · refine ⟨k - n, by omega, ?_⟩
    rw [show k - n + n = k by omega, Nat.mod_eq_of_lt hk]
theorem rot_shX {xs : List (List Int)} {n : Nat} (hn : n < xs.length) (hw : wf 2 xs) : shX (rot xs n) = shX xs := by
  unfold shX
  rw [rot_conv hn hw, rot_len]
  split
  · obtain ⟨⟨i, hi, e⟩, hm⟩ := shN_min (xs := rot xs n) xs.length (by omega)
    obtain ⟨⟨k, hk, e'⟩, hm'⟩ := shN_min (xs := xs) xs.length (by omega)
    have a := hm' ((i + n) % xs.length) (Nat.mod_lt _ (by omega))
    rw [← rot_edL hn hi, ← e] at a
    obtain ⟨j, hj, ej⟩ := rot_onto hn hk
    have b := hm j hj
    rw [rot_edL hn hj, ej, ← e'] at b
    omega
  · rfl
/- a convex polygon is its own hull -/
theorem conv_cr {xs : List (List Int)} (h : convB xs = true) {i k : Nat} (hi : i < xs.length) (hk : k < xs.length) (k1 : k ≠ i) (k2 : k ≠ (i + 1) % xs.length) : 0 < cr (pt xs i) (pt xs ((i + 1) % xs.length)) (pt xs k) := by
  obtain ⟨h1, h2, h3, h4⟩ := convB_iff.1 h
  rcases h4 i hi k hk with e | e | e
  · exact absurd e k1
  · exact absurd e k2
  · exact (orient_one (a := pt xs i) (b := pt xs ((i + 1) % xs.length)) (c := pt xs k) (h3 i hi) (h3 _ (Nat.mod_lt _ (by omega))) (h3 k hk)).1 e
theorem conv_third {n i : Nat} (h : 3 ≤ n) (hi : i < n) : ∃ k, k < n ∧ k ≠ i ∧ k ≠ (i + 1) % n := by
  rcases Nat.lt_or_ge (i + 1) n with e | e
  · rw [Nat.mod_eq_of_lt e]
    rcases Nat.lt_or_ge (i + 2) n with g | g
    · exact ⟨i + 2, g, by omega, by omega⟩
    · exact ⟨0, by omega, by omega, by omega⟩
  · have : i + 1 = n := by omega
    rw [this, Nat.mod_self]
    exact ⟨1, by omega, by omega, by omega⟩
theorem conv_ne {xs : List (List Int)} (h : convB xs = true) {i : Nat} (hi : i < xs.length) : pt xs i ≠ pt xs ((i + 1) % xs.length) := by
  obtain ⟨k, hk, k1, k2⟩ := conv_third (convB_iff.1 h).1 hi
  have := conv_cr h hi hk k1 k2
  intro e
  rw [← e, Hl.cr_self3] at this
  omega
theorem conv_inj {xs : List (List Int)} (h : convB xs = true) {i k : Nat} (hi : i < xs.length) (hk : k < xs.length) (e : pt xs i = pt xs k) : i = k := by
  rcases Nat.decEq i k with g | g
  · exfalso
    by_cases k2 : k = (i + 1) % xs.length
    · exact conv_ne h hi (by rw [← k2]; exact e)
    · have := conv_cr h hi hk (fun x => g x.symm) k2
      rw [← e, Hl.cr_self1] at this
      omega
  · exact g
theorem conv_edge {xs : List (List Int)} (h : convB xs = true) {i : Nat} (hi : i < xs.length) : Hl.Edge (pts xs) (pt xs i) (pt xs ((i + 1) % xs.length)) := by
  have hm : (i + 1) % xs.length < xs.length := Nat.mod_lt _ (by omega)
  refine ⟨conv_ne h hi, pt_mem hm, fun q hq => ?_, fun q hq h0 => ?_⟩
  · obtain ⟨k, hk, rfl⟩ := mem_pt hq
    by_cases k1 : k = i
    · rw [k1, Hl.cr_self1]; omega
    by_cases k2 : k = (i + 1) % xs.length
    · rw [← k2, Hl.cr_self2]; omega
    exact Int.le_of_lt (conv_cr h hi hk k1 k2)
  · obtain ⟨k, hk, rfl⟩ := mem_pt hq
    by_cases k1 : k = i
    · rw [k1]
      have := Hl.d2_nn (pt xs i) (pt xs ((i + 1) % xs.length))
      exact ⟨by unfold dt; grind, by rw [Hl.d2_self]; exact this⟩
    by_cases k2 : k = (i + 1) % xs.length
    · rw [← k2]
      have := Hl.d2_nn (pt xs i) (pt xs k)
      exact ⟨this, Int.le_refl _⟩
    have := conv_cr h hi hk k1 k2
    omega
theorem steps_of {S : List P} : ∀ {l : List P}, (∀ i (h : i + 1 < l.length), Hl.Edge S (l[i]'(by omega)) l[i + 1]) → Hl.Steps S l
  | [], _ => trivial
  | [_], _ => trivial
  | a :: b :: l, h => ⟨h 0 (by simp), steps_of fun i hi => by have := h (i + 1) (by simpa using hi); simpa using this⟩
theorem conv_hull {xs : List (List Int)} (h : convB xs = true) (lo : ∀ k, k < xs.length → pt xs 0 = pt xs k ∨ Hl.lt (pt xs 0) (pt xs k)) : IsHull (pts xs) (pts xs) := by
  have h3 := (convB_iff.1 h).1
  have hl := pts_len xs
  have hne : pts xs ≠ [] := by intro e; rw [e] at hl; simp at hl; omega
  have hh : (pts xs).head hne = pt xs 0 := by rw [List.head_eq_getElem, pts_at]
  refine ⟨hne, fun x hx => hx, fun q hq => ?_, steps_of fun i hi => ?_, ?_⟩
  · rw [hh]
    obtain ⟨k, hk, rfl⟩ := mem_pt hq
    exact lo k hk
  · rw [List.length_append] at hi
    simp only [List.length_cons, List.length_nil] at hi
    have hi' : i < xs.length := by omega
    have e := conv_edge h hi'
    have e1 : (pts xs ++ [(pts xs).head hne])[i]'(by rw [List.length_append]; simp; omega) = pt xs i := by
      rw [List.getElem_append_left (by omega), pts_at]
    have e2 : (pts xs ++ [(pts xs).head hne])[i + 1]'(by rw [List.length_append]; simp; omega) = pt xs ((i + 1) % xs.length) := by
      rcases Nat.lt_or_ge (i + 1) xs.length with g | g
      · rw [List.getElem_append_left (by omega), pts_at, Nat.mod_eq_of_lt g]
      · rw [List.getElem_append_right (by omega)]
        have e : i + 1 = xs.length := by omega
        have e' : (i + 1) % xs.length = 0 := by rw [e, Nat.mod_self]
        rw [e', List.getElem_singleton]
        exact hh
    rw [e1, e2]
    exact e
  · refine List.pairwise_iff_getElem.2 fun i j hi hj hij e => ?_
    rw [pts_at, pts_at] at e
    have := conv_inj h (by omega) (by omega) e
    omega
theorem conv_ok {xs : List (List Int)} (h : convB xs = true) : hullOk xs = true := by
  obtain ⟨h1, h2, h3, h4⟩ := convB_iff.1 h
  exact hullOk_iff.2 ⟨by omega, by omega, h3⟩
theorem conv_is {xs : List (List Int)} (h : convB xs = true) : IsHull (pts xs) (pts (hullR xs)) := by
  have hc : ∀ p m : P, p ≠ m → ¬ ∀ q ∈ pts xs, cr p m q = 0 := fun p m hpm col => by
    obtain ⟨k, hk, k1, k2⟩ := conv_third (convB_iff.1 h).1 (show 0 < xs.length by have := (convB_iff.1 h).1; omega)
    have h0 : 0 < xs.length := by omega
    have := conv_cr h h0 hk k1 k2
    have e := Hl.col_trans hpm (col _ (pt_mem h0)) (col _ (pt_mem (Nat.mod_lt (0 + 1) h0))) (col _ (pt_mem hk))
    omega
  cases hullR_is (conv_ok h) with
  | one p e hS =>
    exfalso
    have h0 : 0 < xs.length := by have := (convB_iff.1 h).1; omega
    exact conv_ne h h0 (((hS _).1 (pt_mem h0)).trans ((hS _).1 (pt_mem (Nat.mod_lt _ h0))).symm)
  | line p m e hpm hp hm lo hi col => exact absurd col (hc p m (Hl.lt_ne hpm))
  | full p m H hpm hp hm lo hi nc => exact H
theorem rot_is {xs : List (List Int)} (h : convB xs = true) {n : Nat} (hn : n < xs.length) (hw : wf 2 xs) (lo : ∀ q ∈ pts xs, pt xs n = q ∨ Hl.lt (pt xs n) q) : hullR xs = rot xs n := by
  have hl := rot_len xs n
  have hc := rot_conv1 hn h
  have h0 : pt (rot xs n) 0 = pt xs n := by rw [rot_pt hn (by omega), Nat.zero_add, Nat.mod_eq_of_lt hn]
  have H1 := conv_hull hc fun k hk => by
    rw [h0]
    exact lo _ ((rot_mem _).1 (pt_mem hk))
  have H2 : IsHull (pts xs) (pts (rot xs n)) := H1.iff (fun x hx => (rot_mem x).2 hx) fun x hx => (rot_mem x).1 hx
  have e := isHull_uniq (conv_is h) H2
  rw [← rws_pts (hullR_wf xs), e, rws_pts]
  intro x hx
  rcases List.mem_append.1 hx with hx | hx
  · exact hw x (List.mem_of_mem_drop hx)
  · exact hw x (List.mem_of_mem_take hx)
theorem conv_hull_len {xs : List (List Int)} (h : convB xs = true) (hw : wf 2 xs) : (hullR xs).length = xs.length := by
  have h0 : 0 < xs.length := by have := (convB_iff.1 h).1; omega
  obtain ⟨l1, l2⟩ := lowN_ok h0 xs.length (Nat.le_refl _)
  obtain ⟨n, hn, e⟩ := mem_pt l1
  rw [rot_is h hn hw fun q hq => by
    obtain ⟨k, hk, rfl⟩ := mem_pt hq
    rw [e]; exact l2 k hk, rot_len]
theorem conv_hull_rot {xs : List (List Int)} (h : convB xs = true) (hw : wf 2 xs) {n : Nat} (hn : n < xs.length) (e : pt (hullR xs) 0 = pt (rot xs n) 0) : hullR xs = rot xs n := by
  have h0 : pt (rot xs n) 0 = pt xs n := by rw [rot_pt hn (by omega), Nat.zero_add, Nat.mod_eq_of_lt hn]
  have H := conv_is h
  refine rot_is h hn hw fun q hq => ?_
  have hh : (pts (hullR xs)).head H.ne = pt xs n := by
    rw [List.head_eq_getElem, pts_at, e, h0]
  rw [← hh]
  exact H.low q hq
theorem conv_has {xs : List (List Int)} (h : convB xs = true) {k : Nat} (hk : k < xs.length) : hasX xs (at2 xs k 0) (at2 xs k 1) = true := by
  obtain ⟨h1, h2, h3, h4⟩ := convB_iff.1 h
  refine hasX_yes h fun i hi hc => ?_
  have e := (conv_edge h hi).left _ (pt_mem hk)
  have := (orient_m1 (a := pt xs i) (b := pt xs ((i + 1) % xs.length)) (c := pt xs k) (h3 i hi) (h3 _ (Nat.mod_lt _ (by omega))) (h3 k hk)).1 hc
  have e : (0 : Int) ≤ cr (pt xs i) (pt xs ((i + 1) % xs.length)) (pt xs k) := e
  unfold pt at e
  omega
/- reversed -/
theorem rev_get {xs : List (List Int)} {i : Nat} (hi : i < xs.length) (j : Nat) : at2 xs.reverse i j = at2 xs (xs.length - 1 - i) j := by
  unfold at2
  have h1 : i < xs.reverse.length := by simpa using hi
  have h2 : xs.length - 1 - i < xs.length := by omega
  have e : xs.reverse.getD i [] = xs.getD (xs.length - 1 - i) [] := by
    rw [List.getD_eq_getElem?_getD, List.getD_eq_getElem?_getD, List.getElem?_eq_getElem h1, List.getElem?_eq_getElem h2, List.getElem_reverse]
  rw [e]
theorem rev_conv {xs : List (List Int)} (h : convB xs = true) : convB xs.reverse = false := by
  rw [Bool.eq_false_iff]
  intro hc
  obtain ⟨h1, h2, h3, h4⟩ := convB_iff.1 h
  have hp : ∀ i, i < xs.length → pt xs.reverse i = pt xs (xs.length - 1 - i) := fun i hi => by unfold pt; rw [rev_get hi, rev_get hi]
  have a := conv_cr hc (i := 0) (k := 2) (by simp; omega) (by simp; omega) (by omega) (by simp; rw [Nat.mod_eq_of_lt (by omega)]; omega)
  rw [List.length_reverse, Nat.mod_eq_of_lt (show 0 + 1 < xs.length by omega), hp 0 (by omega), hp (0 + 1) (by omega), hp 2 (by omega)] at a
  have b := conv_cr h (i := xs.length - 2) (k := xs.length - 3) (by omega) (by omega) (by omega) (by rw [Nat.mod_eq_of_lt (by omega)]; omega)
  rw [Nat.mod_eq_of_lt (show xs.length - 2 + 1 < xs.length by omega)] at b
  rw [show xs.length - 1 - 0 = xs.length - 2 + 1 by omega, show xs.length - 1 - (0 + 1) = xs.length - 2 by omega, show xs.length - 1 - 2 = xs.length - 3 by omega] at a
  have : cr (pt xs (xs.length - 2 + 1)) (pt xs (xs.length - 2)) (pt xs (xs.length - 3)) = -cr (pt xs (xs.length - 2)) (pt xs (xs.length - 2 + 1)) (pt xs (xs.length - 3)) := by unfold cr; grind
  omega
end Go.Proofs.Ytbichdbapkpjpaa
