/- The convex hull of rows of numbers: plain facts that lead from rows to points. No program in sight. -/
import Derived.Test.YtbichdbapkpjpaaHl
import Derived.Test.YtbichdbapkpjpaaG3
namespace Go.Proofs.Ytbichdbapkpjpaa
open Go.RowKit Fx Vx Ev Hl
set_option linter.unusedVariables false
set_option linter.unusedSimpArgs false

def toP (r : List Int) : P := (r.getD 0 0, r.getD 1 0)
def ofP (p : P) : List Int := [p.1, p.2]
def pt (xs : List (List Int)) (i : Nat) : P := (at2 xs i 0, at2 xs i 1)
def pts (xs : List (List Int)) : List P := xs.map toP
def rws (l : List P) : List (List Int) := l.map ofP
theorem toP_ofP (p : P) : toP (ofP p) = p := rfl
theorem ofP_toP {r : List Int} (h : r.length = 2) : ofP (toP r) = r := by
  match r, h with
  | [a, b], _ => rfl
theorem pts_rws (l : List P) : pts (rws l) = l := by simp [pts, rws, Function.comp_def, toP_ofP]
theorem rws_pts {xs : List (List Int)} (h : wf 2 xs) : rws (pts xs) = xs := by
  simp only [pts, rws, List.map_map]
  conv => rhs; rw [← List.map_id xs]
  exact List.map_congr_left fun r hr => ofP_toP (h r hr)
theorem rws_wf (l : List P) : wf 2 (rws l) := fun x hx => by
  obtain ⟨p, _, rfl⟩ := List.mem_map.1 hx; rfl
theorem rws_len (l : List P) : (rws l).length = l.length := by simp [rws]
theorem pts_len (xs : List (List Int)) : (pts xs).length = xs.length := by simp [pts]
theorem rws_inj {a b : List P} (h : rws a = rws b) : a = b := by rw [← pts_rws a, h, pts_rws]
theorem pt_eq (xs : List (List Int)) (i : Nat) : pt xs i = toP (xs.getD i []) := rfl
theorem pts_get {xs : List (List Int)} {i : Nat} (h : i < xs.length) : (pts xs)[i]'(by rw [pts_len]; exact h) = pt xs i := by
  simp [pts, pt_eq, h]
theorem pt_mem {xs : List (List Int)} {i : Nat} (h : i < xs.length) : pt xs i ∈ pts xs := by
  rw [← pts_get h]; exact List.getElem_mem _
theorem mem_pt {xs : List (List Int)} {p : P} (h : p ∈ pts xs) : ∃ i, i < xs.length ∧ pt xs i = p := by
  obtain ⟨i, hi, e⟩ := List.getElem_of_mem h
  have hi' : i < xs.length := by rw [pts_len] at hi; exact hi
  exact ⟨i, hi', by rw [← pts_get hi', e]⟩
theorem pt_rws {l : List P} {i : Nat} (h : i < l.length) : pt (rws l) i = l[i] := by
  have h' : i < (rws l).length := by rw [rws_len]; exact h
  rw [← pts_get h']
  simp [pts_rws]
/-- Within reach. -/
def In (p : P) : Prop := inR p.1 p.2
def AllIn (l : List P) : Prop := ∀ p ∈ l, In p
theorem allIn_iff {xs : List (List Int)} : AllIn (pts xs) ↔ AllR xs xs.length :=
  ⟨fun h i hi => h _ (pt_mem hi), fun h p hp => by obtain ⟨i, hi, rfl⟩ := mem_pt hp; exact h i hi⟩
theorem orient_cr {a b c : P} (ha : In a) (hb : In b) (hc : In c) : orient a.1 a.2 b.1 b.2 c.1 c.2 = sign (cr a b c) := by
  unfold orient orientN cr
  unfold In inR at ha hb hc
  rw [sat_id (x := a.1) (by omega) (by omega), sat_id (x := a.2) (by omega) (by omega), sat_id (x := b.1) (by omega) (by omega), sat_id (x := b.2) (by omega) (by omega), sat_id (x := c.1) (by omega) (by omega), sat_id (x := c.2) (by omega) (by omega)]
theorem orient_one {a b c : P} (ha : In a) (hb : In b) (hc : In c) : orient a.1 a.2 b.1 b.2 c.1 c.2 = 1 ↔ 0 < cr a b c := by
  rw [orient_cr ha hb hc]; unfold sign; split <;> (try split) <;> omega
theorem orient_zero {a b c : P} (ha : In a) (hb : In b) (hc : In c) : orient a.1 a.2 b.1 b.2 c.1 c.2 = 0 ↔ cr a b c = 0 := by
  rw [orient_cr ha hb hc]; unfold sign; split <;> (try split) <;> omega
theorem orient_m1 {a b c : P} (ha : In a) (hb : In b) (hc : In c) : orient a.1 a.2 b.1 b.2 c.1 c.2 = -1 ↔ cr a b c < 0 := by
  rw [orient_cr ha hb hc]; unfold sign; split <;> (try split) <;> omega

/- the program's chain -/
/-- How many points stay before p. -/
def popN (xs : List (List Int)) (keep : Nat) (x y : Int) : Nat → Nat
  | 0 => 0
  | m + 1 => if keep < m + 1 ∧ orient (at2 xs (m - 1) 0) (at2 xs (m - 1) 1) (at2 xs m 0) (at2 xs m 1) x y ≠ 1 then popN xs keep x y m else m + 1
theorem popN_le (xs : List (List Int)) (keep : Nat) (x y : Int) : ∀ m, popN xs keep x y m ≤ m
  | 0 => Nat.le_refl 0
  | m + 1 => by
    have := popN_le xs keep x y m
    unfold popN
    split <;> omega
def extR (xs : List (List Int)) (keep : Nat) (x y : Int) : List (List Int) := xs.take (popN xs keep x y xs.length) ++ [[x, y]]
theorem extR_len (xs : List (List Int)) (keep : Nat) (x y : Int) : 1 ≤ (extR xs keep x y).length ∧ (extR xs keep x y).length ≤ xs.length + 1 := by
  have := popN_le xs keep x y xs.length
  unfold extR
  simp only [List.length_append, List.length_take, List.length_cons, List.length_nil]
  omega
theorem popN_take {xs : List (List Int)} {keep n : Nat} {x y : Int} : ∀ {m}, m ≤ n → popN (xs.take n) keep x y m = popN xs keep x y m
  | 0, _ => rfl
  | m + 1, h => by
    unfold popN
    rw [popN_take (by omega), at2_take (xs := xs) (by omega), at2_take (xs := xs) (by omega), at2_take (xs := xs) (by omega), at2_take (xs := xs) (by omega)]
def extK (keep : Nat) : List P → P → List P
  | [], p => [p]
  | [a], p => [p, a]
  | b :: a :: r, p => if keep < r.length + 2 ∧ ¬ 0 < cr a b p then extK keep (a :: r) p else p :: b :: a :: r
theorem extK_one (p : P) : ∀ st, extK 1 st p = ext st p
  | [] => rfl
  | [a] => rfl
  | b :: a :: r => by
    simp only [extK, ext]
    rw [extK_one p (a :: r)]
    by_cases h : 0 < cr a b p
    · rw [if_neg (fun hh => hh.2 h), if_pos h]
    · rw [if_pos ⟨by omega, h⟩, if_neg h]
theorem extK_base (keep : Nat) (m : P) (l : List P) (p : P) (hk : keep = l.length + 1) : ∀ u, extK keep (u ++ m :: l) p = (ext (u ++ [m]) p).dropLast ++ m :: l
  | [] => by
    cases l with
    | nil => rfl
    | cons z l => simp only [List.nil_append, extK, ext]; rw [if_neg (by simp at hk; omega)]; rfl
  | [b] => by
    have h0 := extK_base keep m l p hk []
    simp only [List.nil_append] at h0
    simp only [List.cons_append, List.nil_append, extK, ext]
    rw [h0]
    by_cases h : 0 < cr m b p
    · rw [if_neg (fun hh => hh.2 h), if_pos h]; rfl
    · rw [if_pos ⟨by omega, h⟩, if_neg h]; rfl
  | b :: a :: u => by
    have h0 := extK_base keep m l p hk (a :: u)
    simp only [List.cons_append] at h0 ⊢
    simp only [extK, ext]
    rw [h0]
    by_cases h : 0 < cr a b p
    · rw [if_neg (fun hh => hh.2 h), if_pos h]
      have e : (a :: (u ++ [m])).dropLast = a :: u := by rw [← List.cons_append, List.dropLast_concat]
      simp [List.dropLast, e]
    · rw [if_pos ⟨by simp; omega, h⟩, if_neg h]
theorem extR_rws {keep : Nat} {p : P} (hk : 1 ≤ keep) (hp : In p) : ∀ {st : List P}, AllIn st → extR (rws st.reverse) keep p.1 p.2 = rws (extK keep st p).reverse
  | [], _ => rfl
  | [a], _ => by
    have h1 : popN (rws [a].reverse) keep p.1 p.2 1 = 1 := by
      unfold popN; rw [if_neg (fun hh => by have h2 : keep < 1 := hh.1; omega)]
    unfold extR
    have : (rws [a].reverse).length = 1 := rfl
    rw [this, h1]
    rfl
  | b :: a :: r, h => by
    have hl : (rws (b :: a :: r).reverse).length = r.length + 2 := by rw [rws_len]; simp
    have e0 : (b :: a :: r).reverse = r.reverse ++ [a, b] := by simp
    have eb : pt (rws (b :: a :: r).reverse) (r.length + 1) = b := by
      rw [pt_rws (by simp)]; simp [e0]
    have ea : pt (rws (b :: a :: r).reverse) (r.length + 1 - 1) = a := by
      rw [pt_rws (by simp)]; simp [e0]
    have hpop : popN (rws (b :: a :: r).reverse) keep p.1 p.2 (r.length + 2) = if keep < r.length + 2 ∧ ¬ 0 < cr a b p then popN (rws (b :: a :: r).reverse) keep p.1 p.2 (r.length + 1) else r.length + 2 := by
      rw [popN]
      have e1 : orient (at2 (rws (b :: a :: r).reverse) (r.length + 1 - 1) 0) (at2 (rws (b :: a :: r).reverse) (r.length + 1 - 1) 1) (at2 (rws (b :: a :: r).reverse) (r.length + 1) 0) (at2 (rws (b :: a :: r).reverse) (r.length + 1) 1) p.1 p.2 = orient a.1 a.2 b.1 b.2 p.1 p.2 := by
        have xa := congrArg Prod.fst ea
        have ya := congrArg Prod.snd ea
        have xb := congrArg Prod.fst eb
        have yb := congrArg Prod.snd eb
        simp only [pt] at xa ya xb yb
        rw [xa, ya, xb, yb]
      rw [e1]
      have := orient_one (h a (by simp)) (h b (by simp)) hp
      by_cases hc : keep < r.length + 2 ∧ ¬ 0 < cr a b p
      · rw [if_pos hc, if_pos ⟨hc.1, fun e => hc.2 (this.1 e)⟩]
      · rw [if_neg hc, if_neg (fun hh => hc ⟨hh.1, fun e => hh.2 (this.2 e)⟩)]
    unfold extR
    rw [hl, hpop]
    simp only [extK]
    split
    · rename_i hc
      have ih := extR_rws hk hp (st := a :: r) (fun q hq => h q (List.mem_cons_of_mem _ hq))
      unfold extR at ih
      have e2 : rws (a :: r).reverse = (rws (b :: a :: r).reverse).take (r.length + 1) := by
        unfold rws
        rw [← List.map_take]
        congr 1
        have : (b :: a :: r).reverse = (a :: r).reverse ++ [b] := by simp
        rw [this, List.take_left' (by simp)]
      have hl2 : (rws (a :: r).reverse).length = r.length + 1 := by rw [rws_len]; simp
      rw [← ih, hl2]
      have e3 : popN (rws (a :: r).reverse) keep p.1 p.2 (r.length + 1) = popN (rws (b :: a :: r).reverse) keep p.1 p.2 (r.length + 1) := by
        rw [e2, popN_take (Nat.le_refl _)]
      rw [e3]
      congr 1
      rw [e2, List.take_take]
      congr 1
      have := popN_le (rws (b :: a :: r).reverse) keep p.1 p.2 (r.length + 1)
      omega
    · rw [List.take_of_length_le (by rw [hl]; omega)]
      simp [rws, ofP]
/- sorted, without duplicates -/
def insP (a : P) : List P → List P
  | [] => [a]
  | b :: l => if Hl.lt a b then a :: b :: l else if a = b then b :: l else b :: insP a l
def sd : List P → List P
  | [] => []
  | a :: l => insP a (sd l)
theorem mem_insP {a x : P} : ∀ {l : List P}, x ∈ insP a l ↔ x = a ∨ x ∈ l
  | [] => by simp [insP]
  | b :: l => by
    have ih := mem_insP (a := a) (x := x) (l := l)
    unfold insP
    split
    · simp
    · split
      · rename_i h; subst h; simp
      · simp only [List.mem_cons, ih]; grind
theorem mem_sd {x : P} : ∀ {l : List P}, x ∈ sd l ↔ x ∈ l
  | [] => by simp [sd]
  | a :: l => by simp [sd, mem_insP, mem_sd (l := l)]
theorem insP_sorted {a : P} : ∀ {l : List P}, l.Pairwise Hl.lt → (insP a l).Pairwise Hl.lt
  | [], _ => by simp [insP]
  | b :: l, h => by
    have hc := List.pairwise_cons.1 h
    unfold insP
    split
    · rename_i hab
      refine List.pairwise_cons.2 ⟨fun x hx => ?_, h⟩
      rcases List.mem_cons.1 hx with rfl | hx
      · exact hab
      · exact lt_trans hab (hc.1 x hx)
    · split
      · exact h
      · rename_i h1 h2
        have hba : Hl.lt b a := by
          rcases lt_tri a b with e | e | e
          · exact absurd e h1
          · exact absurd e h2
          · exact e
        refine List.pairwise_cons.2 ⟨fun x hx => ?_, insP_sorted hc.2⟩
        rcases mem_insP.1 hx with rfl | hx
        · exact hba
        · exact hc.1 x hx
theorem sd_sorted : ∀ l : List P, (sd l).Pairwise Hl.lt
  | [] => List.Pairwise.nil
  | a :: l => insP_sorted (sd_sorted l)
theorem sorted_uniq : ∀ {a b : List P}, a.Pairwise Hl.lt → b.Pairwise Hl.lt → (∀ x, x ∈ a ↔ x ∈ b) → a = b
  | [], [], _, _, _ => rfl
  | [], y :: b, _, _, h => absurd ((h y).2 (by simp)) (by simp)
  | x :: a, [], _, _, h => absurd ((h x).1 (by simp)) (by simp)
  | x :: a, y :: b, ha, hb, h => by
    have ha' := List.pairwise_cons.1 ha
    have hb' := List.pairwise_cons.1 hb
    have hxy : x = y := by
      rcases List.mem_cons.1 ((h x).1 (by simp)) with e | e
      · exact e
      · rcases List.mem_cons.1 ((h y).2 (by simp)) with k | k
        · exact k.symm
        · exact absurd (lt_trans (hb'.1 x e) (ha'.1 y k)) lt_irrefl
    subst hxy
    rw [sorted_uniq ha'.2 hb'.2 fun z => ?_]
    constructor
    · intro hz
      rcases List.mem_cons.1 ((h z).1 (List.mem_cons_of_mem _ hz)) with e | e
      · subst e; exact absurd (ha'.1 z hz) lt_irrefl
      · exact e
    · intro hz
      rcases List.mem_cons.1 ((h z).2 (List.mem_cons_of_mem _ hz)) with e | e
      · subst e; exact absurd (hb'.1 z hz) lt_irrefl
      · exact e
theorem sd_eq {a b : List P} (h : ∀ x, x ∈ a ↔ x ∈ b) : sd a = sd b := sorted_uniq (sd_sorted a) (sd_sorted b) fun x => by rw [mem_sd, mem_sd, h x]
theorem sd_id {a : List P} (h : a.Pairwise Hl.lt) : sd a = a := sorted_uniq (sd_sorted a) h fun x => mem_sd

/- the program's sorting: rows i and i - 1 are exchanged -/
def swp (ys : List (List Int)) (k : Nat) : List (List Int) := upd2 (upd2 ys k 0 [at2 ys (k - 1) 0, at2 ys (k - 1) 1]) (k - 1) 0 [at2 ys k 0, at2 ys k 1]
theorem upd_two {xs : List (List Int)} (h : wf 2 xs) {k : Nat} (hk : k < xs.length) (a b : Int) : upd2 xs k 0 [a, b] = xs.set k [a, b] := by
  unfold upd2
  congr 1
  have hl : (xs.getD k []).length = 2 := by
    have : xs.getD k [] = xs[k] := by simp [hk]
    rw [this]; exact h _ (List.getElem_mem hk)
  match xs.getD k [], hl with
  | [u, v], _ => rfl
theorem swp_set {ys : List (List Int)} (h : wf 2 ys) {k : Nat} (hk : k < ys.length) : swp ys k = (ys.set k [at2 ys (k - 1) 0, at2 ys (k - 1) 1]).set (k - 1) [at2 ys k 0, at2 ys k 1] := by
  unfold swp
  rw [upd_two h hk]
  refine upd_two (fun x hx => ?_) (by simp; omega) _ _
  rcases List.mem_or_eq_of_mem_set hx with e | e
  · exact h x e
  · rw [e]; rfl
theorem swp_len (ys : List (List Int)) (k : Nat) : (swp ys k).length = ys.length := by simp [swp, upd2]
theorem swp_wf {ys : List (List Int)} (h : wf 2 ys) {k : Nat} (hk : k < ys.length) : wf 2 (swp ys k) := by
  rw [swp_set h hk]
  intro x hx
  rcases List.mem_or_eq_of_mem_set hx with e | e
  · rcases List.mem_or_eq_of_mem_set e with e | e
    · exact h x e
    · rw [e]; rfl
  · rw [e]; rfl
theorem pt_set {ys : List (List Int)} {k : Nat} (hk : k < ys.length) (p : P) (i : Nat) : pt (ys.set k [p.1, p.2]) i = if i = k then p else pt ys i := by
  unfold pt at2
  by_cases e : i = k
  · subst e; simp [hk]
  · rw [if_neg e]; simp [Ne.symm e]
theorem pt_swp {ys : List (List Int)} (h : wf 2 ys) {k : Nat} (hk : k < ys.length) (i : Nat) : pt (swp ys k) i = if i = k - 1 then pt ys k else if i = k then pt ys (k - 1) else pt ys i := by
  rw [swp_set h hk]
  have e1 := pt_set (ys := ys.set k [at2 ys (k - 1) 0, at2 ys (k - 1) 1]) (k := k - 1) (by simp; omega) (pt ys k) i
  have e2 := pt_set hk (pt ys (k - 1)) i
  simp only [pt] at e1 e2 ⊢
  rw [e1, e2]
/-- The same points in another order. -/
def Same (xs ys : List (List Int)) : Prop := ∀ p, p ∈ pts xs ↔ p ∈ pts ys
theorem swp_same {xs ys : List (List Int)} (h : wf 2 ys) {k : Nat} (h0 : 0 < k) (hk : k < ys.length) (H : Same xs ys) : Same xs (swp ys k) := fun p => by
  rw [H p]
  constructor
  · intro hp
    obtain ⟨i, hi, rfl⟩ := mem_pt hp
    have hl := swp_len ys k
    by_cases e1 : i = k
    · have := pt_mem (xs := swp ys k) (i := k - 1) (by omega)
      rw [pt_swp h hk, if_pos rfl] at this; rw [e1]; exact this
    · by_cases e2 : i = k - 1
      · have := pt_mem (xs := swp ys k) (i := k) (by omega)
        rw [pt_swp h hk, if_neg (by omega), if_pos rfl] at this; rw [e2]; exact this
      · have := pt_mem (xs := swp ys k) (i := i) (by omega)
        rw [pt_swp h hk, if_neg e2, if_neg e1] at this; exact this
  · intro hp
    obtain ⟨i, hi, rfl⟩ := mem_pt hp
    rw [swp_len] at hi
    rw [pt_swp h hk]
    split
    · exact pt_mem hk
    · split
      · exact pt_mem (by omega)
      · exact pt_mem hi
def SortTo (ys : List (List Int)) (n : Nat) : Prop := ∀ a b, a < b → b < n → ¬ Hl.lt (pt ys b) (pt ys a)
/-- Sorted but for place k, whose point lies before those behind it. -/
structure Hole (ys : List (List Int)) (i k : Nat) : Prop where
  rest : ∀ a b, a < b → b ≤ i → a ≠ k → b ≠ k → ¬ Hl.lt (pt ys b) (pt ys a)
  less : ∀ b, k < b → b ≤ i → Hl.lt (pt ys k) (pt ys b)
theorem lt_asymm {a b : P} (h : Hl.lt a b) : ¬ Hl.lt b a := fun k => lt_irrefl (lt_trans h k)
theorem le_trans' {a b c : P} (h : ¬ Hl.lt b a) (k : ¬ Hl.lt c b) : ¬ Hl.lt c a := by unfold Hl.lt at *; omega
theorem Hole.start {ys : List (List Int)} {i : Nat} (h : SortTo ys i) : Hole ys i i :=
  ⟨fun a b h1 h2 h3 h4 => h a b h1 (by omega), fun b h1 h2 => absurd h1 (by omega)⟩
theorem Hole.step {ys : List (List Int)} {i k : Nat} (hw : wf 2 ys) (hi : i < ys.length) (h : Hole ys i k) (h0 : 0 < k) (hk : k ≤ i) (hlt : Hl.lt (pt ys k) (pt ys (k - 1))) : Hole (swp ys k) i (k - 1) := by
  have hkl : k < ys.length := by omega
  refine ⟨fun a b h1 h2 h3 h4 => ?_, fun b h1 h2 => ?_⟩
  · rw [pt_swp hw hkl, pt_swp hw hkl, if_neg h4, if_neg h3]
    by_cases e1 : b = k
    · rw [if_pos e1, if_neg (by omega)]; exact h.rest a (k - 1) (by omega) (by omega) (by omega) (by omega)
    · rw [if_neg e1]
      by_cases e2 : a = k
      · rw [if_pos e2]; exact h.rest (k - 1) b (by omega) h2 (by omega) (by omega)
      · rw [if_neg e2]; exact h.rest a b h1 h2 e2 e1
  · rw [pt_swp hw hkl, pt_swp hw hkl, if_pos rfl, if_neg (by omega)]
    by_cases e1 : b = k
    · rw [if_pos e1]; exact hlt
    · rw [if_neg e1]; exact h.less b (by omega) h2
theorem Hole.done {ys : List (List Int)} {i k : Nat} (h : Hole ys i k) (hk : k ≤ i) (he : k = 0 ∨ ¬ Hl.lt (pt ys k) (pt ys (k - 1))) : SortTo ys (i + 1) := by
  intro a b h1 h2
  by_cases e1 : a = k
  · rw [e1]; exact lt_asymm (h.less b (by omega) (by omega))
  · by_cases e2 : b = k
    · rw [e2]
      rcases he with e | e
      · omega
      · by_cases e3 : a = k - 1
        · rw [e3]; exact e
        · exact le_trans' (h.rest a (k - 1) (by omega) (by omega) e1 (by omega)) e
    · exact h.rest a b h1 (by omega) e1 e2
/-- The distinct ones among the first n. -/
def dedR (ys : List (List Int)) : Nat → List (List Int)
  | 0 => []
  | n + 1 => if n = 0 ∨ pt ys n ≠ pt ys (n - 1) then dedR ys n ++ [[at2 ys n 0, at2 ys n 1]] else dedR ys n
theorem dedR_len (ys : List (List Int)) : ∀ n, (dedR ys n).length ≤ n ∧ (0 < n → 0 < (dedR ys n).length)
  | 0 => by simp [dedR]
  | 1 => by simp [dedR]
  | n + 2 => by
    have := dedR_len ys (n + 1)
    rw [dedR]
    split
    · simp only [List.length_append, List.length_cons, List.length_nil]; omega
    · omega
theorem dedR_ok {ys : List (List Int)} (hs : SortTo ys ys.length) : ∀ n, n ≤ ys.length → ∃ l, dedR ys n = rws l ∧ l.Pairwise Hl.lt ∧ (∀ p, p ∈ l ↔ ∃ i, i < n ∧ pt ys i = p) ∧ (0 < n → l.getLast? = some (pt ys (n - 1)))
  | 0, _ => ⟨[], rfl, List.Pairwise.nil, by simp, by omega⟩
  | n + 1, hn => by
    obtain ⟨l, h1, h2, h3, h4⟩ := dedR_ok hs n (by omega)
    rw [dedR]
    by_cases hc : n = 0 ∨ pt ys n ≠ pt ys (n - 1)
    · rw [if_pos hc]
      refine ⟨l ++ [pt ys n], by rw [h1]; simp [rws, ofP, pt], ?_, fun p => ?_, fun _ => by simp⟩
      · rw [List.pairwise_append]
        refine ⟨h2, List.pairwise_singleton .., fun a ha b hb => ?_⟩
        simp only [List.mem_singleton] at hb
        subst hb
        obtain ⟨i, hi, rfl⟩ := (h3 a).1 ha
        rcases hc with e | e
        · omega
        · have k1 := hs (n - 1) n (by omega) (by omega)
          have k2 : Hl.lt (pt ys (n - 1)) (pt ys n) := by
            rcases lt_tri (pt ys (n - 1)) (pt ys n) with h | h | h
            · exact h
            · exact absurd h.symm e
            · exact absurd h k1
          by_cases e3 : i = n - 1
          · rw [e3]; exact k2
          · have k3 := hs i (n - 1) (by omega) (by omega)
            unfold Hl.lt at *; omega
      · simp only [List.mem_append, List.mem_singleton, h3 p]
        constructor
        · rintro (⟨i, hi, e⟩ | e)
          · exact ⟨i, by omega, e⟩
          · exact ⟨n, by omega, e.symm⟩
        · rintro ⟨i, hi, e⟩
          by_cases e2 : i = n
          · rw [e2] at e; exact Or.inr e.symm
          · exact Or.inl ⟨i, by omega, e⟩
    · rw [if_neg hc]
      have hn0 : 0 < n := by omega
      have heq : pt ys n = pt ys (n - 1) := Decidable.byContradiction fun h => hc (Or.inr h)
      refine ⟨l, h1, h2, fun p => ?_, fun _ => by rw [h4 hn0, Nat.add_sub_cancel, heq]⟩
      rw [h3 p]
      constructor
      · rintro ⟨i, hi, e⟩; exact ⟨i, by omega, e⟩
      · rintro ⟨i, hi, e⟩
        by_cases e2 : i = n
        · exact ⟨n - 1, by omega, by rw [← heq, ← e2]; exact e⟩
        · exact ⟨i, by omega, e⟩
def sdR (xs : List (List Int)) : List (List Int) := rws (sd (pts xs))
theorem dedR_sd {xs ys : List (List Int)} (hs : SortTo ys ys.length) (H : Same xs ys) : dedR ys ys.length = sdR xs := by
  obtain ⟨l, h1, h2, h3, _⟩ := dedR_ok hs ys.length (Nat.le_refl _)
  rw [h1]
  unfold sdR
  congr 1
  refine sorted_uniq h2 (sd_sorted _) fun p => ?_
  rw [mem_sd, H p, h3 p]
  constructor
  · rintro ⟨i, hi, rfl⟩; exact pt_mem hi
  · intro hp; exact mem_pt hp
end Go.Proofs.Ytbichdbapkpjpaa
