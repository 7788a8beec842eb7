/- The program's convex hull, in points: the rows of ConvexHull are those of hullOf. Plain. -/
import Derived.Test.YtbichdbapkpjpaaG6
namespace Go.Proofs.Ytbichdbapkpjpaa
open Go.RowKit Fx Vx Bx Ev
open Hl (P cr ext chain hullOf)
set_option linter.unusedVariables false
set_option linter.unusedSimpArgs false

theorem take_snoc {α : Type} {l : List α} {k : Nat} (h : k < l.length) : l.take (k + 1) = l.take k ++ [l[k]] := by
  rw [List.take_add_one, List.getElem?_eq_getElem h]; rfl
theorem ext_mem {p x : P} : ∀ {st : List P}, x ∈ ext st p → x = p ∨ x ∈ st
  | [], h => by simp [ext] at h; exact Or.inl h
  | c :: r, h => by
    obtain ⟨s, h1, h2, h3, h4⟩ := Hl.ext_shape p r c
    rw [h1] at h
    rcases List.mem_cons.1 h with h | h
    · exact Or.inl h
    · exact Or.inr (h4 x h)
theorem fold_mem {x : P} : ∀ {l st : List P}, x ∈ l.foldl ext st → x ∈ l ∨ x ∈ st
  | [], st, h => Or.inr h
  | p :: l, st, h => by
    rcases fold_mem (l := l) (st := ext st p) h with h | h
    · exact Or.inl (List.mem_cons_of_mem _ h)
    · rcases ext_mem h with rfl | h
      · exact Or.inl (by simp)
      · exact Or.inr h
theorem extK_mem {keep : Nat} {p x : P} : ∀ {st : List P}, x ∈ extK keep st p → x = p ∨ x ∈ st
  | [], h => by simp [extK] at h; exact Or.inl h
  | [a], h => by simp [extK] at h; rcases h with h | h <;> simp [h]
  | b :: a :: r, h => by
    simp only [extK] at h
    split at h
    · rcases extK_mem h with h | h
      · exact Or.inl h
      · exact Or.inr (List.mem_cons_of_mem _ h)
    · exact List.mem_cons.1 h
theorem at_rws {l : List P} {i : Nat} (h : i < l.length) : at2 (rws l) i 0 = l[i].1 ∧ at2 (rws l) i 1 = l[i].2 := by
  have := pt_rws h
  unfold pt at this
  exact ⟨congrArg Prod.fst this, congrArg Prod.snd this⟩
/-- The lower chain. -/
theorem loR_rws {l : List P} (h : AllIn l) : ∀ k, k ≤ l.length → loR (rws l) k = rws (chain (l.take k)).reverse
  | 0, _ => rfl
  | k + 1, hk => by
    have ih := loR_rws h k (by omega)
    have hin : AllIn (chain (l.take k)) := fun q hq => by
      rcases fold_mem hq with hq | hq
      · exact h q (List.mem_of_mem_take hq)
      · cases hq
    obtain ⟨e0, e1⟩ := at_rws (l := l) (i := k) (by omega)
    rw [loR, ih, e0, e1, extR_rws (Nat.le_refl 1) (h _ (List.getElem_mem (by omega))) hin, extK_one]
    unfold chain
    rw [take_snoc (l := l) (k := k) (by omega), List.foldl_append]
    rfl
/-- The path back, as a stack. -/
def back (L : List P) (r : List P) : List P := r.foldl (fun st p => extK L.length st p) L
theorem back_mem {L : List P} {x : P} : ∀ {r : List P} {st : List P}, x ∈ r.foldl (fun st p => extK L.length st p) st → x ∈ r ∨ x ∈ st
  | [], st, h => Or.inr h
  | p :: r, st, h => by
    rcases back_mem (r := r) (st := extK L.length st p) h with h | h
    · exact Or.inl (List.mem_cons_of_mem _ h)
    · rcases extK_mem h with rfl | h
      · exact Or.inl (by simp)
      · exact Or.inr h
theorem hiR_rws {l : List P} (h : AllIn l) (hn : 1 ≤ l.length) : ∀ j, j + 1 ≤ l.length → hiR (rws l) l.length j = rws (back (chain l) ((l.reverse.drop 1).take j)).reverse
  | 0, _ => by
    rw [hiR, loR_rws h _ (Nat.le_refl _), List.take_length]
    rfl
  | j + 1, hj => by
    have ih := hiR_rws h hn j (by omega)
    have hc : AllIn (chain l) := fun q hq => by
      rcases fold_mem hq with hq | hq
      · exact h q hq
      · cases hq
    have hin : AllIn (back (chain l) ((l.reverse.drop 1).take j)) := fun q hq => by
      rcases back_mem hq with hq | hq
      · exact h q (by simpa using List.mem_of_mem_drop (List.mem_of_mem_take hq))
      · exact hc q hq
    obtain ⟨e0, e1⟩ := at_rws (l := l) (i := l.length - 2 - j) (by omega)
    have hlo : (loR (rws l) l.length).length = (chain l).length := by rw [loR_rws h _ (Nat.le_refl _), List.take_length, rws_len]; simp
    have hc1 : 1 ≤ (chain l).length := by
      have := (loR_len (rws l) l.length).2 hn
      omega
    rw [hiR, ih, e0, e1, hlo, extR_rws hc1 (h _ (List.getElem_mem (by omega))) hin]
    have hd : j < (l.reverse.drop 1).length := by simp; omega
    have e : (l.reverse.drop 1)[j] = l[l.length - 2 - j]'(by omega) := by
      simp only [List.getElem_drop, List.getElem_reverse]
      congr 1
      omega
    unfold back
    rw [take_snoc hd, List.foldl_append, e]
    rfl
theorem ext_last (p : P) {u : List P} (m : P) : ∃ v, ext (u ++ [m]) p = v ++ [m] := by
  obtain ⟨c, r, e⟩ : ∃ c r, u ++ [m] = c :: r := by
    cases u with
    | nil => exact ⟨m, [], rfl⟩
    | cons a u => exact ⟨a, u ++ [m], rfl⟩
  obtain ⟨s, h1, h2, h3, h4⟩ := Hl.ext_shape p r c
  rw [e, h1]
  rw [← e, List.getLast?_concat] at h3
  refine ⟨p :: s.dropLast, ?_⟩
  rw [List.getLast?_eq_some_getLast h2] at h3
  injection h3 with h3
  rw [← h3, List.cons_append, List.dropLast_concat_getLast h2]
theorem back_go {m : P} {L : List P} : ∀ (r u : List P), r.foldl (fun st p => extK (L.length + 1) st p) (u ++ m :: L) = (r.foldl ext (u ++ [m])).dropLast ++ m :: L
  | [], u => by simp
  | p :: r, u => by
    obtain ⟨v, hv⟩ := ext_last p (u := u) m
    rw [List.foldl_cons, List.foldl_cons, extK_base _ m L p rfl, hv, List.dropLast_concat, back_go r v]
theorem chain_head {l : List P} (h : l ≠ []) (hs : l.Pairwise Hl.lt) : (chain l).head? = l.getLast? := by
  have i := Hl.chain_inv h hs
  have hn := i.ne
  have hl := List.getLast_mem h
  rw [List.head?_eq_some_head hn, List.getLast?_eq_some_getLast h]
  congr 1
  rcases i.top _ hl with e | e
  · exact e.symm
  · have hm := i.mem _ (List.head_mem hn)
    -- the last of a sorted list is its greatest
    have : ∀ q ∈ l, q = l.getLast h ∨ Hl.lt q (l.getLast h) := fun q hq => by
      rw [← List.dropLast_concat_getLast h, List.mem_append] at hq
      rcases hq with hq | hq
      · rw [← List.dropLast_concat_getLast h, List.pairwise_append] at hs
        exact Or.inr (hs.2.2 q hq _ (by simp))
      · simp at hq; exact Or.inl hq
    rcases this _ hm with k | k
    · exact k
    · exact absurd (Hl.lt_trans e k) Hl.lt_irrefl
/-- THE PROGRAM'S HULL of sorted points. -/
theorem chainR_rws {l : List P} (h : AllIn l) (hl : 2 ≤ l.length) (hs : l.Pairwise Hl.lt) : chainR (rws l) = rws (hullOf l) := by
  have hne : l ≠ [] := by rintro rfl; simp at hl
  unfold chainR
  rw [rws_len, hiR_rws h (by omega) _ (by omega)]
  have e1 : (l.reverse.drop 1).take (l.length - 1) = l.reverse.drop 1 := List.take_of_length_le (by simp)
  rw [e1]
  have hh := chain_head hne hs
  obtain ⟨m, L, hc⟩ : ∃ m L, chain l = m :: L := by
    have := (Hl.chain_inv hne hs).ne
    cases hx : chain l with
    | nil => exact absurd hx this
    | cons m L => exact ⟨m, L, rfl⟩
  rw [hc] at hh
  have hm : l.reverse = m :: l.reverse.drop 1 := by
    have : l.reverse.head? = some m := by rw [List.head?_reverse, ← hh]; rfl
    cases hr : l.reverse with
    | nil => rw [hr] at this; simp at this
    | cons a r => rw [hr] at this; simp at this; rw [this]; rfl
  have eb : back (m :: L) (l.reverse.drop 1) = ((l.reverse.drop 1).foldl ext [m]).dropLast ++ m :: L := back_go (l.reverse.drop 1) []
  have ec : chain l.reverse = (l.reverse.drop 1).foldl ext [m] := by
    unfold chain
    rw [hm]
    rfl
  obtain ⟨v, hv⟩ : ∃ v, chain l.reverse = v ++ [m] := by
    rw [ec]
    clear ec eb hm e1
    generalize l.reverse.drop 1 = r
    suffices ∀ (r u : List P), ∃ v, r.foldl ext (u ++ [m]) = v ++ [m] from this r []
    intro r
    induction r with
    | nil => exact fun u => ⟨u, rfl⟩
    | cons p r ih =>
      intro u
      obtain ⟨w, hw⟩ := ext_last p (u := u) m
      rw [List.foldl_cons, hw]
      exact ih w
  unfold hullOf
  rw [hc, eb, ← ec, hv, List.dropLast_concat]
  unfold rws
  rw [← List.map_dropLast, List.dropLast_reverse]
  simp [List.append_assoc]
theorem hullR_one {xs : List (List Int)} (h : hullOk xs = true) (h1 : (sd (pts xs)).length = 1) : hullR xs = rws (sd (pts xs)) := by
  unfold hullR
  rw [if_pos h, if_pos (by unfold sdR; rw [rws_len]; exact h1)]
  rfl
theorem sd_in {xs : List (List Int)} (h : hullOk xs = true) : AllIn (sd (pts xs)) := fun q hq => by
  have := (hullOk_iff.1 h).2.2
  exact (allIn_iff.2 this) q (mem_sd.1 hq)
theorem hullR_two {xs : List (List Int)} (h : hullOk xs = true) (h1 : 2 ≤ (sd (pts xs)).length) : hullR xs = rws (hullOf (sd (pts xs))) := by
  unfold hullR
  rw [if_pos h, if_neg (by unfold sdR; rw [rws_len]; omega)]
  unfold sdR
  exact chainR_rws (sd_in h) h1 (sd_sorted _)
theorem hullR_no {xs : List (List Int)} (h : hullOk xs = false) : hullR xs = [] := by unfold hullR; rw [h]; rfl
theorem sd_pos {xs : List (List Int)} (h : hullOk xs = true) : 1 ≤ (sd (pts xs)).length := by
  have := (sdR_len xs).2 (hullOk_iff.1 h).1
  unfold sdR at this; rwa [rws_len] at this
/-- The hull in points: three ways. -/
inductive HullIs (S : List P) (h : List P) : Prop where
  | one (p : P) (e : h = [p]) (hS : ∀ q, q ∈ S ↔ q = p)
  | line (p m : P) (e : h = [p, m]) (hpm : Hl.lt p m) (hp : p ∈ S) (hm : m ∈ S) (lo : ∀ q ∈ S, p = q ∨ Hl.lt p q) (hi : ∀ q ∈ S, q = m ∨ Hl.lt q m) (col : ∀ q ∈ S, cr p m q = 0)
  | full (p m : P) (H : Hl.IsHull S h) (hpm : Hl.lt p m) (hp : p ∈ S) (hm : m ∈ S) (lo : ∀ q ∈ S, p = q ∨ Hl.lt p q) (hi : ∀ q ∈ S, q = m ∨ Hl.lt q m) (nc : ¬ ∀ q ∈ S, cr p m q = 0)
theorem sorted_low {l : List P} (hs : l.Pairwise Hl.lt) {p : P} (hp : l.head? = some p) : ∀ q ∈ l, p = q ∨ Hl.lt p q := by
  cases l with
  | nil => intro q hq; cases hq
  | cons a l =>
    simp at hp; subst hp
    intro q hq
    rcases List.mem_cons.1 hq with e | e
    · exact Or.inl e.symm
    · exact Or.inr ((List.pairwise_cons.1 hs).1 q e)
theorem sorted_high {l : List P} (hs : l.Pairwise Hl.lt) {m : P} (hm : l.getLast? = some m) : ∀ q ∈ l, q = m ∨ Hl.lt q m := by
  intro q hq
  have hne : l ≠ [] := List.ne_nil_of_mem hq
  rw [List.getLast?_eq_some_getLast hne] at hm
  injection hm with hm
  rw [← List.dropLast_concat_getLast hne, List.mem_append] at hq
  rw [← List.dropLast_concat_getLast hne, List.pairwise_append] at hs
  rcases hq with hq | hq
  · exact Or.inr (hm ▸ hs.2.2 q hq _ (by simp))
  · simp at hq; exact Or.inl (hq.trans hm)
theorem hullR_is {xs : List (List Int)} (h : hullOk xs = true) : HullIs (pts xs) (pts (hullR xs)) := by
  have hs := sd_sorted (pts xs)
  have hm : ∀ x, x ∈ sd (pts xs) ↔ x ∈ pts xs := fun x => mem_sd
  have h1 := sd_pos h
  rcases Nat.lt_or_ge (sd (pts xs)).length 2 with h2 | h2
  · rw [hullR_one h (by omega), pts_rws]
    obtain ⟨p, hp⟩ := List.length_eq_one_iff.1 (show (sd (pts xs)).length = 1 by omega)
    refine .one p hp fun q => ?_
    rw [← hm, hp]
    simp
  · rw [hullR_two h h2, pts_rws]
    obtain ⟨p, hp⟩ : ∃ p, (sd (pts xs)).head? = some p := by
      cases hx : sd (pts xs) with
      | nil => rw [hx] at h2; simp at h2
      | cons a l => exact ⟨a, rfl⟩
    obtain ⟨m, hml⟩ : ∃ m, (sd (pts xs)).getLast? = some m := by
      cases hx : (sd (pts xs)).getLast? with
      | none => rw [List.getLast?_eq_none_iff] at hx; rw [hx] at h2; simp at h2
      | some m => exact ⟨m, rfl⟩
    have hps : p ∈ sd (pts xs) := List.mem_of_mem_head? hp
    have hms : m ∈ sd (pts xs) := List.mem_of_getLast? hml
    have lo : ∀ q ∈ pts xs, p = q ∨ Hl.lt p q := fun q hq => sorted_low hs hp q ((hm q).2 hq)
    have hi : ∀ q ∈ pts xs, q = m ∨ Hl.lt q m := fun q hq => sorted_high hs hml q ((hm q).2 hq)
    have hpm : p ≠ m := by
      intro e
      subst e
      cases hx : sd (pts xs) with
      | nil => rw [hx] at h2; simp at h2
      | cons a l =>
        cases l with
        | nil => rw [hx] at h2; simp at h2
        | cons b l =>
          rw [hx] at hs hp
          simp at hp; subst hp
          have hb := (List.pairwise_cons.1 hs).1 b (by simp)
          rcases hi b ((hm b).1 (by rw [hx]; simp)) with e | e
          · rw [e] at hb; exact Hl.lt_irrefl hb
          · exact Hl.lt_irrefl (Hl.lt_trans hb e)
    have hlt : Hl.lt p m := by
      rcases lo m ((hm m).1 hms) with e | e
      · exact absurd e hpm
      · exact e
    by_cases col : ∀ q ∈ sd (pts xs), cr p m q = 0
    · exact .line p m (Hl.hull_line hp hml hpm col) hlt ((hm p).1 hps) ((hm m).1 hms) lo hi fun q hq => col q ((hm q).2 hq)
    · refine .full p m ?_ hlt ((hm p).1 hps) ((hm m).1 hms) lo hi fun hc => col fun q hq => hc q ((hm q).1 hq)
      have H := Hl.hull_ok hs hp hml col
      exact H.iff (fun x hx => (hm x).2 hx) fun x hx => (hm x).1 (H.mem x hx)
end Go.Proofs.Ytbichdbapkpjpaa
