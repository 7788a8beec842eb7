/- Operations in a row, and the law of queries, in plain Lean. No program in sight. -/
import Derived.Test.YtkfaflhhkmkdjaaBB
namespace Go.Proofs.Ytkfaflhhkmkdjaa
open Fx Vx Bx Ev
set_option linter.unusedVariables false
set_option linter.unusedSimpArgs false

/- What an operation does. -/
structure ApOK (nd : List Nd) (tr : List (Nat × Nat)) (mp : List (List (Int × Nat))) (t : Nat) (k id a b c d : Int) : Prop where
  o1 : k = 1 → inOK nd tr mp t id a b c d = true
  o2 : k = 2 → reOK nd tr mp t id = true
  o3 : k = 3 → upOK nd tr mp t id a b c d = true
  o4 : k = 4 → bndOK nd tr mp t id = true
  o5 : k = 5 → qOK (ovT a b c d) nd tr t = true
  o6 : k = 6 → qOK (segT a b c d) nd tr t = true
def apE (tr : List (Nat × Nat)) (mp : List (List (Int × Nat))) (t : Nat) (k id a b c d : Int) : Int :=
  if k = 1 then insE tr mp t id a b c d else if k = 2 then (if remD tr mp t id = true then 1 else 0) else if k = 3 then updE tr mp t id a b c d else if k = 4 then (if bndD tr mp t id = true then 1 else 0) else 0
def apF (nd : List Nd) (tr : List (Nat × Nat)) (t : Nat) (k a b c d : Int) : Bool := if k = 5 then qB (ovT a b c d) nd tr t else if k = 6 then qB (segT a b c d) nd tr t else true
def apL (nd : List Nd) (tr : List (Nat × Nat)) (t : Nat) (k a b c d : Int) : List (List Int) := if k = 5 then qE (ovT a b c d) nd tr t else if k = 6 then qE (segT a b c d) nd tr t else []
def apX (nd : List Nd) (tr : List (Nat × Nat)) (mp : List (List (Int × Nat))) (t : Nat) (k id : Int) (i : Nat) : Int := if k = 4 then bnd nd tr mp t id i else 0
def apH (nd : List Nd) (tr : List (Nat × Nat)) (mp : List (List (Int × Nat))) (t : Nat) (k id a b c d : Int) : Hp :=
  if k = 1 then insH ⟨nd, tr, mp⟩ t id a b c d else if k = 2 then remH ⟨nd, tr, mp⟩ t id else if k = 3 then updH ⟨nd, tr, mp⟩ t id a b c d else ⟨nd, tr, mp⟩
/-- .. on the boxes. -/
def apM (k id a b c d : Int) (M : List En) : List En :=
  if k = 1 then (if validB a b c d = true ∧ hasM M id = false ∧ M.length < 4096 then insM ⟨id, a, b, c, d⟩ M else M)
  else if k = 2 then delM id M
  else if k = 3 then (if validB a b c d = true ∧ hasM M id = true then insM ⟨id, a, b, c, d⟩ (delM id M) else M)
  else M
theorem Rp.ap {nd : List Nd} {tr : List (Nat × Nat)} {mp : List (List (Int × Nat))} {t : Nat} {o : Option BT} {M : List En} (h : Rp nd tr mp t o M) (k id a b c d : Int) :
    ApOK nd tr mp t k id a b c d ∧ ∃ o', Rp (apH nd tr mp t k id a b c d).nd (apH nd tr mp t k id a b c d).tr (apH nd tr mp t k id a b c d).mp t o' (apM k id a b c d M) ∧ Fra nd tr mp (apH nd tr mp t k id a b c d).nd (apH nd tr mp t k id a b c d).tr (apH nd tr mp t k id a b c d).mp t o o' := by
  obtain ⟨i1, _, i3⟩ := h.ins id a b c d
  obtain ⟨r1, _, r3⟩ := h.rem id
  obtain ⟨u1, _, u3⟩ := h.upd id a b c d
  refine ⟨⟨fun _ => i1, fun _ => r1, fun _ => u1, fun _ => (h.bnd id).1, fun _ => (h.qry (mono_ov a b c d)).1, fun _ => (h.qry (mono_sg a b c d)).1⟩, ?_⟩
  unfold apH apM
  split
  · exact i3
  · split
    · exact r3
    · split
      · exact u3
      · exact ⟨o, h, Fra.refl _ _⟩

/- A list of numbers, ascending, one more put in. -/
def insL (id : Int) : List Int → List Int
  | [] => [id]
  | x :: r => if x < id then x :: insL id r else if x = id then x :: r else id :: x :: r
theorem insL_mem {id y : Int} : ∀ {l : List Int}, y ∈ insL id l ↔ y = id ∨ y ∈ l
  | [] => by simp [insL]
  | x :: r => by
    simp only [insL]
    split
    · simp only [List.mem_cons, insL_mem]
      constructor
      · rintro (h | h | h)
        · exact Or.inr (Or.inl h)
        · exact Or.inl h
        · exact Or.inr (Or.inr h)
      · rintro (h | h | h)
        · exact Or.inr (Or.inl h)
        · exact Or.inl h
        · exact Or.inr (Or.inr h)
    · split
      · rename_i h; subst h; simp
      · simp
theorem insL_asc {id : Int} : ∀ {l : List Int}, l.Pairwise (· < ·) → (insL id l).Pairwise (· < ·)
  | [], _ => by simp [insL]
  | x :: r, h => by
    have h' := List.pairwise_cons.1 h
    simp only [insL]
    split
    · rename_i hx
      refine List.pairwise_cons.2 ⟨fun y hy => ?_, insL_asc h'.2⟩
      rcases insL_mem.1 hy with rfl | hy
      · exact hx
      · exact h'.1 y hy
    · split
      · exact h
      · refine List.pairwise_cons.2 ⟨fun y hy => ?_, h⟩
        rcases List.mem_cons.1 hy with rfl | hy
        · omega
        · have := h'.1 y hy; omega
theorem insL_len (id : Int) : ∀ l : List Int, (insL id l).length ≤ l.length + 1
  | [] => by simp [insL]
  | x :: r => by
    have := insL_len id r
    simp only [insL]
    split
    · simp; omega
    · split <;> simp
theorem insL_same {id : Int} : ∀ {l : List Int} {k : Nat}, k < l.length → (∀ j, j < k → l.getD j 0 < id) → l.getD k 0 = id → insL id l = l
  | [], k, h, _, _ => by simp at h
  | x :: r, 0, _, _, h => by
    have h : x = id := h
    simp only [insL]
    rw [if_neg (by omega), if_pos h]
  | x :: r, k + 1, h, h1, h2 => by
    have h0 : x < id := h1 0 (by omega)
    simp only [insL]
    rw [if_pos h0, insL_same (k := k) (by simp at h; omega) (fun j hj => h1 (j + 1) (by omega)) h2]
theorem insL_new {id : Int} : ∀ {l : List Int} {k : Nat}, k ≤ l.length → (∀ j, j < k → l.getD j 0 < id) → (k < l.length → id < l.getD k 0) → insL id l = l.take k ++ (id :: l.drop k)
  | [], k, _, _, _ => by simp [insL]
  | x :: r, 0, _, _, h => by
    have h : id < x := h (by simp)
    simp only [insL]
    rw [if_neg (by omega), if_neg (by omega)]
    rfl
  | x :: r, k + 1, h, h1, h2 => by
    have h0 : x < id := h1 0 (by omega)
    simp only [insL]
    rw [if_pos h0, insL_new (k := k) (by simp at h; omega) (fun j hj => h1 (j + 1) (by omega)) (fun hk => h2 (by simp; omega))]
    rfl
def unr (xs : List (List Int)) : List Int := xs.map fun r => r.getD 0 0
theorem unr_rw1 (l : List Int) : unr (rw1 l) = l := by simp [unr, rw1, Function.comp_def]
theorem unr_eq {xs : List (List Int)} (h : All1 xs) : xs = rw1 (unr xs) := by
  apply List.ext_getElem (by simp [unr, rw1])
  intro i h1 h2
  have := h i h1
  simp only [List.getD_eq_getElem?_getD, List.getElem?_eq_getElem h1, Option.getD_some] at this
  simp only [rw1, unr, List.getElem_map]
  match xs[i], this with
  | [a], _ => rfl
theorem rw1_take (l : List Int) (k : Nat) : (rw1 l).take k = rw1 (l.take k) := by simp [rw1, List.map_take]
theorem rw1_drop (l : List Int) (k : Nat) : (rw1 l).drop k = rw1 (l.drop k) := by simp [rw1, List.map_drop]
theorem rw1_app (a b : List Int) : rw1 a ++ rw1 b = rw1 (a ++ b) := by simp [rw1]
theorem ins_rows {l : List Int} {k : Nat} (id : Int) (hk : k ≤ l.length) : List.take (k + 1 + (l.length - k)) (List.take (k + 1) (List.take k (List.take k (List.drop 0 (rw1 l))) ++ List.take 1 (List.drop 0 [[id]])) ++ List.take (l.length - k) (List.drop k (rw1 l))) = rw1 (l.take k ++ (id :: l.drop k)) := by
  have e1 : List.take k (List.take k (List.drop 0 (rw1 l))) = rw1 (l.take k) := by rw [List.drop_zero, List.take_take, Nat.min_self, rw1_take]
  have e2 : List.take 1 (List.drop 0 [[id]]) = rw1 [id] := rfl
  have e3 : List.take (l.length - k) (List.drop k (rw1 l)) = rw1 (l.drop k) := by rw [rw1_drop, rw1_take, List.take_of_length_le (by simp)]
  have e4 : List.take (k + 1) (rw1 (l.take k) ++ rw1 [id]) = rw1 (l.take k ++ [id]) := by rw [rw1_app, List.take_of_length_le (by rw [len_rw1]; simp; omega)]
  rw [e1, e2, e3, e4, rw1_app, List.take_of_length_le (by rw [len_rw1]; simp; omega)]
  simp
theorem take_rw1 (l : List Int) : List.take l.length (rw1 l) = rw1 l := List.take_of_length_le (by rw [len_rw1]; exact Nat.le_refl _)

/- The law of queries. -/
def opM (xs : List (List Int)) (i : Nat) (M : List En) : List En := apM (at2 xs i 0) (at2 xs i 1) (at2 xs i 2) (at2 xs i 3) (at2 xs i 4) (at2 xs i 5) M
def mN (xs : List (List Int)) : Nat → List En
  | 0 => []
  | i + 1 => opM xs i (mN xs i)
def lN (xs : List (List Int)) : Nat → List Int
  | 0 => []
  | i + 1 => insL (at2 xs i 1) (lN xs i)
theorem lN_asc (xs : List (List Int)) : ∀ i, (lN xs i).Pairwise (· < ·)
  | 0 => List.Pairwise.nil
  | i + 1 => insL_asc (lN_asc xs i)
theorem lN_len (xs : List (List Int)) : ∀ i, (lN xs i).length ≤ i
  | 0 => Nat.le_refl _
  | i + 1 => by
    have := lN_len xs i
    have := insL_len (at2 xs i 1) (lN xs i)
    simp only [lN]; omega
theorem apM_mem {k id a b c d : Int} {M : List En} {e : En} (h : e ∈ apM k id a b c d M) : e.id = id ∨ e ∈ M := by
  unfold apM at h
  split at h
  · split at h
    · rcases List.mem_cons.1 ((insM_perm _ _).mem_iff.1 h) with rfl | h
      · exact Or.inl rfl
      · exact Or.inr h
    · exact Or.inr h
  · split at h
    · exact Or.inr (List.mem_filter.1 h).1
    · split at h
      · split at h
        · rcases List.mem_cons.1 ((insM_perm _ _).mem_iff.1 h) with rfl | h
          · exact Or.inl rfl
          · exact Or.inr (List.mem_filter.1 h).1
        · exact Or.inr h
      · exact Or.inr h
theorem mN_ids (xs : List (List Int)) : ∀ i, ∀ e ∈ mN xs i, e.id ∈ lN xs i
  | 0, e, h => by cases h
  | i + 1, e, h => by
    refine insL_mem.2 ?_
    rcases apM_mem h with h | h
    · exact Or.inl h
    · exact Or.inr (mN_ids xs i e h)
theorem lkM_cons {e : En} {M : List En} {x : Int} (h : e.id ≠ x) : lkM (e :: M) x = lkM M x := by
  simp only [lkM, List.find?_cons, h, decide_false]
theorem fm_congr {α β : Type} {f g : α → Option β} : ∀ {l : List α}, (∀ x ∈ l, f x = g x) → l.filterMap f = l.filterMap g
  | [], _ => rfl
  | x :: r, h => by rw [List.filterMap_cons, List.filterMap_cons, h x (by simp), fm_congr fun y hy => h y (by simp [hy])]
theorem fm_all : ∀ (L : List Int) (M : List En), L.Pairwise (· < ·) → Asc M → (∀ e ∈ M, e.id ∈ L) → L.filterMap (lkM M) = M
  | [], M, _, _, h => by
    cases M with
    | nil => rfl
    | cons e M => exact absurd (h e (by simp)) (by simp)
  | x :: r, M, hL, hM, h => by
    have hL' := List.pairwise_cons.1 hL
    cases M with
    | nil => simp [lkM]
    | cons e M =>
      have hM' := List.pairwise_cons.1 hM
      by_cases he : e.id = x
      · have h1 : lkM (e :: M) x = some e := by simp [lkM, he]
        have h2 : r.filterMap (lkM (e :: M)) = r.filterMap (lkM M) := fm_congr fun y hy => lkM_cons (by have := hL'.1 y hy; omega)
        rw [List.filterMap_cons_some h1, h2, fm_all r M hL'.2 hM'.2 fun z hz => by
          have := h z (by simp [hz])
          rcases List.mem_cons.1 this with h3 | h3
          · have := hM'.1 z hz; omega
          · exact h3]
      · have hx : ∀ z ∈ e :: M, x < z.id := fun z hz => by
          have hr : e.id ∈ r := (List.mem_cons.1 (h e (by simp))).resolve_left he
          have := hL'.1 _ hr
          rcases List.mem_cons.1 hz with rfl | hz
          · exact this
          · have := hM'.1 z hz; omega
        have h1 : lkM (e :: M) x = none := lkM_none (hasM_no fun z hz => by have := hx z hz; omega)
        rw [List.filterMap_cons_none h1]
        exact fm_all r (e :: M) hL'.2 hM fun z hz => (List.mem_cons.1 (h z hz)).resolve_left (by have := hx z hz; omega)
theorem lkM_id {M : List En} {x : Int} {e : En} (h : lkM M x = some e) : e.id = x := by
  have := List.find?_some h
  simpa using this
/-- Those found among the first i numbers. -/
def fN (M : List En) (L : List Int) (i : Nat) : List En := (L.take i).filterMap (lkM M)
theorem fN_succ {M : List En} {L : List Int} {i : Nat} (h : i < L.length) : fN M L (i + 1) = fN M L i ++ (match lkM M (L.getD i 0) with | none => [] | some e => [e]) := by
  have e : L.getD i 0 = L[i] := by rw [List.getD_eq_getElem?_getD, List.getElem?_eq_getElem h]; rfl
  rw [fN, List.take_add_one, List.getElem?_eq_getElem h, List.filterMap_append, e]
  congr 1
  simp only [Option.toList_some]
  cases hk : lkM M L[i] with
  | none => rw [List.filterMap_cons_none hk]; rfl
  | some y => rw [List.filterMap_cons_some hk]; rfl
theorem qM_snoc (φ : Int → Int → Int → Int → Bool) (A : List En) (e : En) : qM φ (A ++ [e]) = qM φ A ++ (if e.is φ = true then [e.id] else []) := by
  simp only [qM, List.filter_append, List.map_append, List.filter_cons, List.filter_nil]
  split <;> rfl
theorem fN_len (M : List En) (L : List Int) (i : Nat) : (fN M L i).length ≤ i := by
  refine Nat.le_trans (List.length_filterMap_le _ _) ?_
  simp; omega
theorem isE_app (a : List Int) (x : Int) : (a ++ [x]).isEmpty = false := by cases a <;> rfl
theorem isE_app2 (a : List (List Int)) (x : List Int) : (a ++ [x]).isEmpty = false := by cases a <;> rfl
theorem over_comm (a b c d e f g h : Int) : overlapsB a b c d e f g h = overlapsB e f g h a b c d := by
  simp only [overlapsB, overB]
  rw [Bool.eq_iff_iff]
  simp only [Bool.and_eq_true, decide_eq_true_eq]
  constructor <;> (rintro ⟨⟨h1, h2⟩, h3⟩; exact ⟨⟨h2, h1⟩, by omega⟩)
/-- The pairs of one box with those behind it. -/
def inN1 (M : List En) (x : En) (l : List Int) : List (List Int) := l.filterMap fun y => match lkM M y with
  | none => none
  | some e => if overlapsB x.a x.b x.c x.d e.a e.b e.c e.d = true then some [x.id, y] else none
def prN (M : List En) (L : List Int) : Nat → List (List Int)
  | 0 => []
  | i + 1 => prN M L i ++ (match lkM M (L.getD i 0) with
    | none => []
    | some x => inN1 M x (L.drop (i + 1)))
theorem drop_fm {M : List En} {L : List Int} {i : Nat} (hL : L.Pairwise (· < ·)) (hM : Asc M) (hs : ∀ e ∈ M, e.id ∈ L) (hi : i < L.length) : (L.drop (i + 1)).filterMap (lkM M) = M.filter fun e => decide (L[i] < e.id) := by
  have hall := fm_all L M hL hM hs
  have hsplit : L = L.take (i + 1) ++ L.drop (i + 1) := (List.take_append_drop _ _).symm
  have h1 : M = (L.take (i + 1)).filterMap (lkM M) ++ (L.drop (i + 1)).filterMap (lkM M) := by rw [← List.filterMap_append, ← hsplit]; exact hall.symm
  have hp := List.pairwise_iff_getElem.1 hL
  have hlow : ∀ e ∈ (L.take (i + 1)).filterMap (lkM M), e.id ≤ L[i] := fun e he => by
    obtain ⟨y, hy, hk⟩ := List.mem_filterMap.1 he
    rw [lkM_id hk]
    obtain ⟨j, hj, rfl⟩ := List.mem_iff_getElem.1 hy
    simp only [List.length_take] at hj
    rw [List.getElem_take]
    by_cases e : j = i
    · subst e; exact Int.le_refl _
    · exact Int.le_of_lt (hp j i (by omega) hi (by omega))
  have hhigh : ∀ e ∈ (L.drop (i + 1)).filterMap (lkM M), L[i] < e.id := fun e he => by
    obtain ⟨y, hy, hk⟩ := List.mem_filterMap.1 he
    rw [lkM_id hk]
    obtain ⟨j, hj, rfl⟩ := List.mem_iff_getElem.1 hy
    simp only [List.length_drop] at hj
    rw [List.getElem_drop]
    exact hp i (i + 1 + j) hi (by omega) (by omega)
  have e1 : M.filter (fun e => decide (L[i] < e.id)) = ((L.take (i + 1)).filterMap (lkM M) ++ (L.drop (i + 1)).filterMap (lkM M)).filter fun e => decide (L[i] < e.id) := by rw [← h1]
  rw [e1, List.filter_append, List.filter_eq_nil_iff.2 fun e he => by have := hlow e he; simp; omega, List.nil_append, List.filter_eq_self.2 fun e he => by have := hhigh e he; simpa using this]
theorem inN1_eq {M : List En} {x : En} {l : List Int} : inN1 M x l = ((l.filterMap (lkM M)).filter fun e => e.is (ovP x.a x.b x.c x.d)).map fun e => [x.id, e.id] := by
  induction l with
  | nil => rfl
  | cons y r ih =>
    unfold inN1 at ih ⊢
    cases hk : lkM M y with
    | none => rw [List.filterMap_cons_none (by simp [hk]), List.filterMap_cons_none hk]; exact ih
    | some e =>
      have hid := lkM_id hk
      rw [List.filterMap_cons_some hk, List.filter_cons]
      have hc : e.is (ovP x.a x.b x.c x.d) = overlapsB x.a x.b x.c x.d e.a e.b e.c e.d := over_comm _ _ _ _ _ _ _ _
      rw [hc]
      cases ho : overlapsB x.a x.b x.c x.d e.a e.b e.c e.d with
      | true => rw [List.filterMap_cons_some (b := [x.id, y]) (by simp [hk, ho]), if_pos rfl, List.map_cons, ih, hid]
      | false => rw [List.filterMap_cons_none (by simp [hk, ho]), if_neg (by simp)]; exact ih
theorem pair_fm (c : Int) (q : En → Bool) : ∀ N : List En, ((N.filter fun e => decide (c < e.id)).filter q).map (fun e => [c, e.id]) = ((N.filter q).map (·.id)).filterMap fun y => if c < y then some [c, y] else none
  | [] => rfl
  | e :: N => by
    have ih := pair_fm c q N
    by_cases h1 : c < e.id <;> cases h2 : q e <;> simp [h1, h2] <;> simpa using ih
theorem prN_all {M : List En} {L : List Int} (hL : L.Pairwise (· < ·)) (hM : Asc M) (hs : ∀ e ∈ M, e.id ∈ L) : prN M L L.length = prM M := by
  have key : ∀ i, i ≤ L.length → prN M L i = ((fN M L i).map fun x => (qM (ovP x.a x.b x.c x.d) M).filterMap fun y => if x.id < y then some [x.id, y] else none).flatten := by
    intro i
    induction i with
    | zero => intro _; rfl
    | succ i ih =>
      intro hi
      have hi' : i < L.length := by omega
      have e : L.getD i 0 = L[i] := by rw [List.getD_eq_getElem?_getD, List.getElem?_eq_getElem hi']; rfl
      rw [prN, ih (by omega), fN_succ hi', e, List.map_append, List.flatten_append]
      congr 1
      cases hk : lkM M L[i] with
      | none => rfl
      | some x =>
        have hid := lkM_id hk
        simp only [List.map_cons, List.map_nil, List.flatten_cons, List.flatten_nil, List.append_nil]
        rw [inN1_eq, drop_fm hL hM hs hi', qM, hid]
        exact pair_fm _ _ M
  have := key L.length (Nat.le_refl _)
  rw [this, fN, List.take_length, fm_all L M hL hM hs]
  rfl
end Go.Proofs.Ytkfaflhhkmkdjaa
