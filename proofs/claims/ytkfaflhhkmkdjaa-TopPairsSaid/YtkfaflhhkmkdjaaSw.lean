/- Sweep and prune: which pairs it finds. Plain. -/
import Derived.Test.YtkfaflhhkmkdjaaSB
import Derived.Test.YtkfaflhhkmkdjaaBk
namespace Go.Proofs.Ytkfaflhhkmkdjaa
open Go.RowKit Fx Vx Bx Ev
set_option linter.unusedVariables false
set_option linter.unusedSimpArgs false
/-- the entries right of a, up to the first that begins behind its end -/
def nbT (a : List Int) (l : List (List Int)) : List (List Int) := l.takeWhile fun b => !decide (b.getD 1 0 > a.getD 3 0)
def nbL : List (List Int) → List (List Int × List Int)
  | [] => []
  | a :: r => (nbT a r).map (fun b => (a, b)) ++ nbL r
def ovE (a b : List Int) : Bool := overlapsB (a.getD 1 0) (a.getD 2 0) (a.getD 3 0) (a.getD 4 0) (b.getD 1 0) (b.getD 2 0) (b.getD 3 0) (b.getD 4 0)
def prE2 (p : List Int × List Int) : List Int := [min (p.1.getD 0 0) (p.2.getD 0 0), max (p.1.getD 0 0) (p.2.getD 0 0)]
/-- What sap.Pairs answers. -/
def sapP (xs : List (List Int)) : List (List Int) := srtK cfP 2 (((nbL (srtK cfE 5 xs)).filter fun p => ovE p.1 p.2).map prE2)
theorem cfE_norm (x y : List Int) : cfK cfE 5 x y = cfE x y := by
  unfold cfK cfE
  have h : ∀ (z : List Int) (j : Nat), j < 5 → (norm 5 z).getD j 0 = z.getD j 0 := fun z j hj => by
    rw [List.getD_eq_getElem?_getD, norm_get 5 z j hj]; rfl
  rw [h x 1 (by omega), h y 1 (by omega), h x 0 (by omega), h y 0 (by omega)]
theorem cfP_norm (x y : List Int) : cfK cfP 2 x y = cfP x y := by
  unfold cfK cfP
  have h : ∀ (z : List Int) (j : Nat), j < 2 → (norm 2 z).getD j 0 = z.getD j 0 := fun z j hj => by
    rw [List.getD_eq_getElem?_getD, norm_get 2 z j hj]; rfl
  rw [h x 1 (by omega), h y 1 (by omega), h x 0 (by omega), h y 0 (by omega)]
theorem srtK_perm {cf : List Int → List Int → Int} {k : Nat} (hO : Go.Sort.SWO (ltOf (cfK cf k))) (xs : List (List Int)) : (srtK cf k xs).Perm xs := by
  have h := (Go.Sort.pdq_sorts (ltOf (cfK cf k)) hO xs.toArray 0 xs.toArray.size (Lib.bitLen xs.toArray.size) true true (Nat.zero_le _) (Nat.le_refl _) (Or.inl rfl)).1
  obtain ⟨h1, _, h3⟩ := h
  have e : (Go.Sort.pdq (ltOf (cfK cf k)) xs.toArray 0 xs.toArray.size (Lib.bitLen xs.toArray.size) true true) = srtA cf k xs.toArray := rfl
  rw [e] at h1 h3
  have e1 : (srtA cf k xs.toArray).extract 0 xs.toArray.size = srtA cf k xs.toArray := by rw [← h1]; simp
  have e2 : xs.toArray.extract 0 xs.toArray.size = xs.toArray := by simp
  rw [e1, e2] at h3
  simpa [srtK] using h3
theorem srtK_sorted {cf : List Int → List Int → Int} {k : Nat} (hO : Go.Sort.SWO (ltOf (cfK cf k))) (xs : List (List Int)) : (srtK cf k xs).Pairwise fun x y => ¬ cfK cf k y x < 0 := by
  have h := (Go.Sort.pdq_sorts (ltOf (cfK cf k)) hO xs.toArray 0 xs.toArray.size (Lib.bitLen xs.toArray.size) true true (Nat.zero_le _) (Nat.le_refl _) (Or.inl rfl)).2
  have sz := srtA_size hO xs.toArray
  have e : (Go.Sort.pdq (ltOf (cfK cf k)) xs.toArray 0 xs.toArray.size (Lib.bitLen xs.toArray.size) true true) = srtA cf k xs.toArray := rfl
  rw [e] at h
  rw [List.pairwise_iff_getElem]
  intro i j hi hj hij
  have hi' : i < (srtA cf k xs.toArray).size := by simpa [srtK] using hi
  have hj' : j < (srtA cf k xs.toArray).size := by simpa [srtK] using hj
  have := h i j (Nat.zero_le _) hij (by rw [← sz]; exact hj')
  unfold ltOf at this
  rw [decide_eq_false_iff_not, getElem!_pos _ i hi', getElem!_pos _ j hj'] at this
  simpa [srtK] using this

theorem ovE_x {a b : List Int} (h : ovE a b = true) : b.getD 1 0 ≤ a.getD 3 0 := by
  simp only [ovE, overlapsB, overB, Bool.and_eq_true, decide_eq_true_eq] at h
  omega
theorem ovE_sym (a b : List Int) : ovE a b = ovE b a := by
  unfold ovE overlapsB
  rw [Bool.and_comm (validB (a.getD 1 0) (a.getD 2 0) (a.getD 3 0) (a.getD 4 0))]
  congr 1
  rw [Bool.eq_iff_iff]
  simp only [overB, Bool.and_eq_true, decide_eq_true_eq]
  constructor <;> intro h <;> omega
theorem prE2_sym (a b : List Int) : prE2 (a, b) = prE2 (b, a) := by
  unfold prE2; rw [Int.min_comm, Int.max_comm]
/-- the pairs of a that stand right of it and overlap -/
def hits (a : List Int) (r : List (List Int)) : List (List Int) := (r.filter fun b => ovE a b).map fun b => prE2 (a, b)
def allG : List (List Int) → List (List Int)
  | [] => []
  | a :: r => hits a r ++ allG r
theorem filter_nbT (a : List Int) : ∀ {r : List (List Int)}, (r.Pairwise fun x y => x.getD 1 0 ≤ y.getD 1 0) → (nbT a r).filter (fun b => ovE a b) = r.filter fun b => ovE a b
  | [], _ => rfl
  | b :: r, h => by
    rw [List.pairwise_cons] at h
    unfold nbT
    rw [List.takeWhile_cons]
    by_cases hc : b.getD 1 0 > a.getD 3 0
    · rw [if_neg (by simpa using hc)]
      symm
      rw [List.filter_nil, List.filter_eq_nil_iff]
      intro c hcm ho
      have h1 := ovE_x ho
      rcases List.mem_cons.1 hcm with rfl | hcm
      · omega
      · have := h.1 c hcm; omega
    · rw [if_pos (by simpa using hc)]
      have := filter_nbT a h.2
      unfold nbT at this
      rw [List.filter_cons, List.filter_cons, this]
theorem nbL_allG : ∀ {S : List (List Int)}, (S.Pairwise fun x y => x.getD 1 0 ≤ y.getD 1 0) → ((nbL S).filter fun p => ovE p.1 p.2).map prE2 = allG S
  | [], _ => rfl
  | a :: r, h => by
    rw [List.pairwise_cons] at h
    rw [nbL, List.filter_append, List.map_append, nbL_allG h.2, allG]
    congr 1
    rw [List.filter_map, List.map_map, hits, ← filter_nbT a h.2]
    rfl
theorem hits_perm (a : List Int) {r r' : List (List Int)} (h : r.Perm r') : (hits a r).Perm (hits a r') := (h.filter _).map _
theorem allG_perm {S S' : List (List Int)} (h : S.Perm S') : (allG S).Perm (allG S') := by
  induction h with
  | nil => exact List.Perm.refl _
  | cons a h ih => exact (hits_perm a h).append ih
  | swap a b r =>
    rw [allG, allG, allG, allG]
    have e1 : hits b (a :: r) = hits b [a] ++ hits b r := by unfold hits; rw [List.filter_cons, List.filter_cons]; split <;> rfl
    have e2 : hits a (b :: r) = hits a [b] ++ hits a r := by unfold hits; rw [List.filter_cons, List.filter_cons]; split <;> rfl
    have e3 : hits a [b] = hits b [a] := by
      unfold hits
      rw [List.filter_cons, List.filter_cons, ovE_sym a b]
      split
      · simp [prE2_sym a b]
      · rfl
    rw [e1, e2, e3]
    simp only [List.append_assoc]
    refine List.Perm.append_left _ ?_
    rw [← List.append_assoc, ← List.append_assoc]
    exact List.Perm.append_right _ List.perm_append_comm
  | trans _ _ h1 h2 => exact h1.trans h2
theorem perm_uniq {α : Type} (lt : α → α → Prop) : ∀ {l1 l2 : List α}, l1.Perm l2 → (l1.Pairwise fun x y => ¬ lt y x) → l2.Pairwise lt → l1 = l2
  | [], l2, hp, _, _ => (List.nil_perm.1 hp).symm
  | a :: r1, [], hp, _, _ => by have := hp.length_eq; simp at this
  | a :: r1, b :: r2, hp, h1, h2 => by
    rw [List.pairwise_cons] at h1 h2
    have e : a = b := by
      have ha : a ∈ b :: r2 := hp.subset (by simp)
      have hb : b ∈ a :: r1 := hp.symm.subset (by simp)
      rcases List.mem_cons.1 ha with e | ha
      · exact e
      rcases List.mem_cons.1 hb with e | hb
      · exact e.symm
      · exact absurd (h2.1 a ha) (h1.1 b hb)
    subst e
    rw [perm_uniq lt (List.Perm.cons_inv hp) h1.2 h2.2]

def rowE (e : En) : List Int := [e.id, e.a, e.b, e.c, e.d]
def lex2 (x y : List Int) : Prop := cfP x y < 0
theorem lex2_iff (x y : List Int) : lex2 x y ↔ x.getD 0 0 < y.getD 0 0 ∨ (x.getD 0 0 = y.getD 0 0 ∧ x.getD 1 0 < y.getD 1 0) := lex_lt _ _ _ _
theorem srtE_x (xs : List (List Int)) : (srtK cfE 5 xs).Pairwise fun x y => x.getD 1 0 ≤ y.getD 1 0 :=
  (srtK_sorted law_sortE.swo xs).imp fun {x y} h => by
    rw [cfE_norm] at h
    unfold cfE at h
    rw [lex_lt] at h
    omega
theorem hits_rows {e : En} {M : List En} (h : ∀ y ∈ M, e.id < y.id) : hits (rowE e) (M.map rowE) = (M.filter fun y => overlapsB e.a e.b e.c e.d y.a y.b y.c y.d).map fun y => [e.id, y.id] := by
  unfold hits
  rw [List.filter_map, List.map_map]
  refine List.map_congr_left fun y hy => ?_
  have := h y (List.mem_filter.1 hy).1
  show [min e.id y.id, max e.id y.id] = _
  rw [Int.min_eq_left (by omega), Int.max_eq_right (by omega)]
theorem allG_lt : ∀ {M : List En}, Asc M → (allG (M.map rowE)).Pairwise lex2
  | [], _ => List.Pairwise.nil
  | e :: M, h => by
    have h1 := List.pairwise_cons.1 h
    rw [List.map_cons, allG, List.pairwise_append]
    refine ⟨?_, allG_lt h1.2, ?_⟩
    · rw [hits_rows h1.1, List.pairwise_map]
      refine (List.Pairwise.filter _ h1.2).imp fun {x y} hxy => ?_
      rw [lex2_iff]
      exact Or.inr ⟨rfl, hxy⟩
    · intro x hx y hy
      rw [hits_rows h1.1] at hx
      obtain ⟨z, _, rfl⟩ := List.mem_map.1 hx
      have : ∀ {N : List En}, Asc N → ∀ y ∈ allG (N.map rowE), ∃ n ∈ N, y.getD 0 0 = n.id := by
        intro N
        induction N with
        | nil => intro _ y hy; cases hy
        | cons n N ih =>
          intro hN y hy
          have h2 := List.pairwise_cons.1 hN
          rw [List.map_cons, allG, List.mem_append] at hy
          rcases hy with hy | hy
          · rw [hits_rows h2.1] at hy
            obtain ⟨z, _, rfl⟩ := List.mem_map.1 hy
            exact ⟨n, by simp, rfl⟩
          · obtain ⟨m, hm, e⟩ := ih h2.2 y hy
            exact ⟨m, by simp [hm], e⟩
      obtain ⟨n, hn, e1⟩ := this h1.2 y hy
      rw [lex2_iff]
      left
      rw [e1]
      exact h1.1 n hn
theorem sapP_allG {xs : List (List Int)} {M : List En} (hM : Asc M) (hx : xs.Perm (M.map rowE)) : sapP xs = allG (M.map rowE) := by
  have h1 : (((nbL (srtK cfE 5 xs)).filter fun p => ovE p.1 p.2).map prE2) = allG (srtK cfE 5 xs) := nbL_allG (srtE_x xs)
  unfold sapP
  rw [h1]
  have h2 : (allG (srtK cfE 5 xs)).Perm (allG (M.map rowE)) := allG_perm ((srtK_perm law_sortE.swo xs).trans hx)
  refine perm_uniq lex2 ((srtK_perm law_sortP.swo _).trans h2) ?_ (allG_lt hM)
  refine (srtK_sorted law_sortP.swo _).imp fun {x y} h => ?_
  rw [cfP_norm] at h
  exact h

theorem ov_sym (x y : En) : overlapsB x.a x.b x.c x.d y.a y.b y.c y.d = overlapsB y.a y.b y.c y.d x.a x.b x.c x.d := ovE_sym (rowE x) (rowE y)
def prF (x : En) (M : List En) : List (List Int) := (qM (ovP x.a x.b x.c x.d) M).filterMap fun y => if x.id < y then some [x.id, y] else none
theorem prF_app (x : En) (A B : List En) : prF x (A ++ B) = prF x A ++ prF x B := by
  unfold prF qM; rw [List.filter_append, List.map_append, List.filterMap_append]
theorem prF_low (x : En) : ∀ {A : List En}, (∀ y ∈ A, y.id ≤ x.id) → prF x A = []
  | [], _ => rfl
  | y :: A, h => by
    have h1 : prF x (y :: A) = prF x [y] ++ prF x A := prF_app x [y] A
    rw [h1, prF_low x (A := A) (fun z hz => h z (List.mem_cons_of_mem _ hz)), List.append_nil]
    unfold prF qM
    rw [List.filter_cons]
    split
    · have := h y (by simp)
      simp only [List.filter_nil, List.map_cons, List.map_nil, List.filterMap_cons, List.filterMap_nil]
      rw [if_neg (by omega)]
    · rfl
theorem prF_high (x : En) : ∀ {A : List En}, (∀ y ∈ A, x.id < y.id) → prF x A = hits (rowE x) (A.map rowE)
  | [], _ => rfl
  | y :: A, h => by
    have h1 : prF x (y :: A) = prF x [y] ++ prF x A := prF_app x [y] A
    have h2 := prF_high x (fun z (hz : z ∈ A) => h z (by simp [hz]))
    have hy := h y (by simp)
    rw [h1, h2, hits_rows h, hits_rows (fun z (hz : z ∈ A) => h z (by simp [hz])), List.filter_cons]
    have e : (y.is (ovP x.a x.b x.c x.d)) = overlapsB x.a x.b x.c x.d y.a y.b y.c y.d := (ov_sym x y).symm
    unfold prF qM
    rw [List.filter_cons, e]
    split
    · simp only [List.filter_nil, List.map_cons, List.map_nil, List.filterMap_cons, List.filterMap_nil]
      rw [if_pos hy]
      rfl
    · rfl
theorem prF_all {M : List En} (hM : Asc M) : ∀ (N L : List En), M = N ++ L → (L.map fun x => prF x M).flatten = allG (L.map rowE)
  | N, [], _ => rfl
  | N, x :: L, e => by
    have h := hM
    rw [e] at h
    unfold Asc at h
    rw [List.pairwise_append, List.pairwise_cons] at h
    obtain ⟨_, ⟨hx, _⟩, hN⟩ := h
    rw [List.map_cons, List.flatten_cons, List.map_cons, allG, prF_all hM (N ++ [x]) L (by rw [e]; simp)]
    congr 1
    rw [e, show N ++ x :: L = N ++ ([x] ++ L) from rfl, prF_app, prF_app, prF_low x (fun y hy => Int.le_of_lt (hN y hy x (by simp))), prF_low x (fun y hy => by simp at hy; subst hy; exact Int.le_refl _), prF_high x hx]
    rfl
/-- SWEEP AND PRUNE FINDS THE TREE'S PAIRS. -/
theorem sapP_prM {xs : List (List Int)} {M : List En} (hM : Asc M) (hx : xs.Perm (M.map rowE)) : sapP xs = prM M := by
  rw [sapP_allG hM hx, ← prF_all hM [] M rfl]
  rfl
end Go.Proofs.Ytkfaflhhkmkdjaa
