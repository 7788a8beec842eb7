/- The convex hull: the monotone chains make it, and the walk from corner to corner finds it. Plain facts on points; no program in sight. -/
namespace Go.Proofs.Ytbichdbapkpjpaa.Hl
set_option linter.unusedVariables false
set_option linter.unusedSimpArgs false
abbrev P := Int × Int
def cr (a b c : P) : Int := (b.1 - a.1) * (c.2 - a.2) - (b.2 - a.2) * (c.1 - a.1)
def lt (a b : P) : Prop := a.1 < b.1 ∨ a.1 = b.1 ∧ a.2 < b.2
instance (a b : P) : Decidable (lt a b) := by unfold lt; infer_instance
/-- In the half plane to the right. -/
def Hp (x y : Int) : Prop := 0 < x ∨ x = 0 ∧ 0 < y
theorem key (u1 u2 v1 v2 w1 w2 : Int) : v1 * (u1 * w2 - u2 * w1) = u1 * (v1 * w2 - v2 * w1) + w1 * (u1 * v2 - u2 * v1) := by grind
theorem pos_of_mul {a b : Int} (ha : 0 < a) (h : 0 ≤ a * b) : 0 ≤ b := by
  rcases Int.lt_or_le b 0 with hb | hb
  · have := Int.mul_neg_of_pos_of_neg ha hb; omega
  · exact hb
theorem spos_of_mul {a b : Int} (ha : 0 < a) (h : 0 < a * b) : 0 < b := by
  rcases Int.lt_or_le 0 b with hb | hb
  · exact hb
  · have := Int.mul_nonpos_of_nonneg_of_nonpos (Int.le_of_lt ha) hb; omega
theorem half {u1 u2 v1 v2 w1 w2 : Int} (hu : Hp u1 u2) (hv : Hp v1 v2) (hw : Hp w1 w2) (h1 : 0 ≤ u1 * v2 - u2 * v1) (h2 : 0 ≤ v1 * w2 - v2 * w1) : 0 ≤ u1 * w2 - u2 * w1 := by
  rcases hv with hv | ⟨rfl, hv⟩
  · have k := key u1 u2 v1 v2 w1 w2
    have a1 : 0 ≤ u1 := by unfold Hp at hu; omega
    have a2 : 0 ≤ w1 := by unfold Hp at hw; omega
    have := Int.mul_nonneg a1 h2
    have := Int.mul_nonneg a2 h1
    exact pos_of_mul hv (by omega)
  · have a2 : 0 ≤ w1 := by unfold Hp at hw; omega
    have a1 : 0 ≤ u1 := by unfold Hp at hu; omega
    have : w1 = 0 := by
      rcases Int.lt_or_eq_of_le a2 with h | h
      · have := Int.mul_pos hv h; omega
      · exact h.symm
    subst this
    have : 0 ≤ w2 := by unfold Hp at hw; omega
    have := Int.mul_nonneg a1 this
    omega
theorem half_l {u1 u2 v1 v2 w1 w2 : Int} (hu : Hp u1 u2) (hv : Hp v1 v2) (hw : Hp w1 w2) (h1 : 0 < u1 * v2 - u2 * v1) (h2 : 0 ≤ v1 * w2 - v2 * w1) : 0 < u1 * w2 - u2 * w1 := by
  rcases hv with hv | ⟨rfl, hv⟩
  · have k := key u1 u2 v1 v2 w1 w2
    have a1 : 0 ≤ u1 := by unfold Hp at hu; omega
    have m1 := Int.mul_nonneg a1 h2
    rcases hw with hw | ⟨rfl, hw⟩
    · have := Int.mul_pos hw h1
      exact spos_of_mul hv (by omega)
    · rcases hu with hu | ⟨rfl, hu⟩
      · have := Int.mul_pos hu hw; omega
      · have := Int.mul_pos hu hv; omega
  · have a2 : 0 ≤ w1 := by unfold Hp at hw; omega
    have : w1 = 0 := by
      rcases Int.lt_or_eq_of_le a2 with h | h
      · have := Int.mul_pos hv h; omega
      · exact h.symm
    subst this
    have hw : 0 < w2 := by unfold Hp at hw; omega
    have a1 : 0 < u1 := by
      rcases Int.lt_or_le 0 u1 with h | h
      · exact h
      · have := Int.mul_nonpos_of_nonpos_of_nonneg h (Int.le_of_lt hv); omega
    have := Int.mul_pos a1 hw
    omega
theorem half_r {u1 u2 v1 v2 w1 w2 : Int} (hu : Hp u1 u2) (hv : Hp v1 v2) (hw : Hp w1 w2) (h1 : 0 ≤ u1 * v2 - u2 * v1) (h2 : 0 < v1 * w2 - v2 * w1) : 0 < u1 * w2 - u2 * w1 := by
  -- turned over: (x, y) to (x, -y)
  rcases hv with hv | ⟨rfl, hv⟩
  · have k := key u1 u2 v1 v2 w1 w2
    have a2 : 0 ≤ w1 := by unfold Hp at hw; omega
    have m1 := Int.mul_nonneg a2 h1
    rcases hu with hu | ⟨rfl, hu⟩
    · have := Int.mul_pos hu h2
      exact spos_of_mul hv (by omega)
    · have := Int.mul_pos hu hv; omega
  · have a2 : 0 ≤ w1 := by unfold Hp at hw; omega
    have := Int.mul_nonneg (Int.le_of_lt hv) a2
    omega
theorem hp_of_lt {a b : P} (h : lt a b) : Hp (b.1 - a.1) (b.2 - a.2) := by unfold lt at h; unfold Hp; omega
theorem lt_trans {a b c : P} (h : lt a b) (k : lt b c) : lt a c := by unfold lt at *; omega
theorem lt_irrefl {a : P} : ¬ lt a a := by unfold lt; omega
theorem lt_tri (a b : P) : lt a b ∨ a = b ∨ lt b a := by
  unfold lt
  rcases a with ⟨a1, a2⟩
  rcases b with ⟨b1, b2⟩
  simp only [Prod.mk.injEq]
  omega
theorem cr_self1 (a b : P) : cr a b a = 0 := by unfold cr; grind
theorem cr_self2 (a b : P) : cr a b b = 0 := by unfold cr; grind
theorem cr_self3 (a b : P) : cr a a b = 0 := by unfold cr; grind
theorem cr_swap (a b c : P) : cr a c b = -cr a b c := by unfold cr; grind
theorem cr_rot (a b c : P) : cr b c a = cr a b c := by unfold cr; grind
/-- Directions from b to points behind it. -/
theorem from_b {b c p q : P} (h1 : lt b c) (h2 : lt b p) (h3 : lt b q) (k1 : 0 ≤ cr b p c) (k2 : 0 ≤ cr b c q) : 0 ≤ cr b p q :=
  half (hp_of_lt h2) (hp_of_lt h1) (hp_of_lt h3) k1 k2
/-- A point before c, seen along the edge from c on. -/
theorem before_c {b c p q : P} (h1 : lt b c) (h2 : lt c p) (h3 : lt q c) (k1 : 0 ≤ cr b c p) (k2 : 0 ≤ cr b c q) : 0 ≤ cr c p q := by
  have := half (hp_of_lt h3) (hp_of_lt h1) (hp_of_lt h2) (by have := k2; unfold cr at this; grind) (by have := k1; unfold cr at this; grind)
  unfold cr; grind
/-- A point behind c, seen along the edge a to b, by that from b to c. -/
theorem along {a b c p : P} (h1 : lt a b) (h2 : lt b c) (h3 : lt c p) (k1 : 0 ≤ cr a b c) (k2 : 0 ≤ cr b c p) : 0 ≤ cr a b p := by
  have := half (hp_of_lt h1) (hp_of_lt h2) (hp_of_lt h3) (by have := k1; unfold cr at this; grind) (by have := k2; unfold cr at this; grind)
  unfold cr at k1 ⊢; grind

def ext : List P → P → List P
  | [], p => [p]
  | [a], p => [p, a]
  | b :: a :: r, p => if 0 < cr a b p then p :: b :: a :: r else ext (a :: r) p

/-- A chain (its last point first) that turns left, with all of S to its left. -/
def Cvx (S : List P) : List P → Prop
  | [] => True
  | [_] => True
  | b :: a :: r => lt a b ∧ (∀ q ∈ S, 0 ≤ cr a b q) ∧ (match r with | [] => True | z :: _ => 0 < cr z a b) ∧ Cvx S (a :: r)

theorem Cvx.old {S : List P} {p : P} : ∀ {r : List P} {c b : P}, Cvx S (c :: b :: r) → lt c p → 0 ≤ cr b c p → Cvx (p :: S) (c :: b :: r)
  | [], c, b, h, h1, h2 => ⟨h.1, fun q hq => by rcases List.mem_cons.1 hq with rfl | hq; exact h2; exact h.2.1 q hq, trivial, trivial⟩
  | a :: r, c, b, h, h1, h2 => by
    obtain ⟨g1, g2, g3, g4⟩ := h
    refine ⟨g1, fun q hq => by rcases List.mem_cons.1 hq with rfl | hq; exact h2; exact g2 q hq, g3, Cvx.old g4 (lt_trans g1 h1) ?_⟩
    exact along g4.1 g1 h1 (Int.le_of_lt g3) h2

theorem ext_ok {S : List P} {p : P} (hp : ∀ q ∈ S, lt q p) : ∀ {r : List P} {c : P}, Cvx S (c :: r) → (∀ x ∈ c :: r, x ∈ S) → (∀ q ∈ S, (c :: r).getLast (by simp) = q ∨ lt ((c :: r).getLast (by simp)) q) → (∀ q ∈ S, lt c q → 0 ≤ cr c p q) →
    Cvx (p :: S) (ext (c :: r) p)
  | [], c, h, hm, hl, hb => by
    refine ⟨hp c (hm c (by simp)), fun q hq => ?_, trivial, trivial⟩
    rcases List.mem_cons.1 hq with rfl | hq
    · rw [cr_self2]; exact Int.le_refl 0
    · rcases hl q hq with h | h
      · simp at h; rw [← h, cr_self1]; exact Int.le_refl 0
      · exact hb q hq (by simpa using h)
  | b :: r, c, h, hm, hl, hb => by
    have hcp := hp c (hm c (by simp))
    simp only [ext]
    split
    · rename_i ht
      refine ⟨hcp, fun q hq => ?_, ht, h.old hcp (Int.le_of_lt ht)⟩
      rcases List.mem_cons.1 hq with rfl | hq
      · rw [cr_self2]; exact Int.le_refl 0
      · rcases lt_tri c q with e | e | e
        · exact hb q hq e
        · rw [← e, cr_self1]; exact Int.le_refl 0
        · exact before_c h.1 hcp e (Int.le_of_lt ht) (h.2.1 q hq)
    · rename_i ht
      refine ext_ok hp h.2.2.2 (fun x hx => hm x (List.mem_cons_of_mem _ hx)) (fun q hq => by simpa using hl q hq) fun q hq hbq => ?_
      refine from_b h.1 (lt_trans h.1 hcp) hbq ?_ (h.2.1 q hq)
      rw [cr_swap]; omega
theorem ext_shape (p : P) : ∀ (r : List P) (c : P), ∃ s, ext (c :: r) p = p :: s ∧ s ≠ [] ∧ s.getLast? = (c :: r).getLast? ∧ ∀ x ∈ s, x ∈ c :: r
  | [], c => ⟨[c], rfl, by simp, rfl, fun x hx => hx⟩
  | b :: r, c => by
    simp only [ext]
    split
    · exact ⟨c :: b :: r, rfl, by simp, rfl, fun x hx => hx⟩
    · obtain ⟨s, h1, h2, h3, h4⟩ := ext_shape p r b
      exact ⟨s, h1, h2, by rw [h3]; simp, fun x hx => List.mem_cons_of_mem _ (h4 x hx)⟩

/-- What a chain tells of the points that it has seen. -/
structure Inv (S st : List P) : Prop where
  ne : st ≠ []
  cvx : Cvx S st
  mem : ∀ x ∈ st, x ∈ S
  low : ∀ q ∈ S, st.getLast ne = q ∨ lt (st.getLast ne) q
  top : ∀ q ∈ S, q = st.head ne ∨ lt q (st.head ne)

theorem Inv.one (p : P) : Inv [p] [p] := ⟨by simp, trivial, fun x hx => hx, fun q hq => by simp at hq; exact Or.inl (by simp [hq]), fun q hq => by simp at hq; exact Or.inl (by simp [hq])⟩
theorem getLast_of {l s : List P} {p : P} (hl : l ≠ []) (hs : s ≠ []) (h : s.getLast? = l.getLast?) (k : p :: s ≠ []) : (p :: s).getLast k = l.getLast hl := by
  rw [List.getLast_cons hs]
  rw [List.getLast?_eq_some_getLast hs, List.getLast?_eq_some_getLast hl] at h
  simpa using h
theorem Inv.step {S st : List P} (h : Inv S st) {p : P} (hp : ∀ q ∈ S, lt q p) : Inv (p :: S) (ext st p) := by
  obtain ⟨ne, cvx, mem, low, top⟩ := h
  cases st with
  | nil => exact absurd rfl ne
  | cons c r =>
    obtain ⟨s, h1, h2, h3, h4⟩ := ext_shape p r c
    have hc := ext_ok hp cvx mem low fun q hq hlt => by
      rcases top q hq with e | e
      · simp at e; subst e; exact absurd hlt lt_irrefl
      · exact absurd (lt_trans hlt e) lt_irrefl
    have hgl := getLast_of (p := p) ne h2 h3 (by simp)
    rw [h1] at hc ⊢
    refine ⟨by simp, hc, fun x hx => ?_, fun q hq => ?_, fun q hq => ?_⟩
    · rcases List.mem_cons.1 hx with rfl | hx
      · simp
      · exact List.mem_cons_of_mem _ (mem x (h4 x hx))
    · rw [hgl]
      rcases List.mem_cons.1 hq with rfl | hq
      · exact Or.inr (hp _ (mem _ (List.getLast_mem ne)))
      · exact low q hq
    · rcases List.mem_cons.1 hq with rfl | hq
      · exact Or.inl rfl
      · exact Or.inr (hp q hq)
theorem Inv.fold : ∀ {l S st : List P}, Inv S st → (∀ q ∈ S, ∀ p ∈ l, lt q p) → l.Pairwise lt → Inv (l.reverse ++ S) (l.foldl ext st)
  | [], S, st, h, _, _ => by simpa using h
  | p :: l, S, st, h, hl, hs => by
    rw [List.pairwise_cons] at hs
    have := Inv.fold (h.step fun q hq => hl q hq p (by simp)) (fun q hq x hx => by
      rcases List.mem_cons.1 hq with rfl | hq
      · exact hs.1 x hx
      · exact hl q hq x (List.mem_cons_of_mem _ hx)) hs.2
    simpa using this
theorem Inv.ext {S T st : List P} (h : Inv S st) (e : ∀ x, x ∈ S ↔ x ∈ T) : Inv T st := by
  have cv : ∀ {l : List P}, Cvx S l → Cvx T l := by
    intro l
    induction l with
    | nil => exact fun _ => trivial
    | cons b l ih =>
      cases l with
      | nil => exact fun _ => trivial
      | cons a r => exact fun hh => ⟨hh.1, fun q hq => hh.2.1 q ((e q).2 hq), hh.2.2.1, ih hh.2.2.2⟩
  exact ⟨h.ne, cv h.cvx, fun x hx => (e x).1 (h.mem x hx), fun q hq => h.low q ((e q).2 hq), fun q hq => h.top q ((e q).2 hq)⟩
/-- The chain of a sorted list. -/
def chain (l : List P) : List P := l.foldl ext []
theorem chain_inv {l : List P} (h : l ≠ []) (hs : l.Pairwise lt) : Inv l (chain l) := by
  cases l with
  | nil => exact absurd rfl h
  | cons p l =>
    rw [List.pairwise_cons] at hs
    have := Inv.fold (Inv.one p) (fun q hq x hx => by simp at hq; subst hq; exact hs.1 x hx) hs.2
    exact this.ext fun x => by simp [or_comm]

def ng (a : P) : P := (-a.1, -a.2)
theorem ng_ng (a : P) : ng (ng a) = a := by simp [ng]
theorem lt_ng {a b : P} : lt (ng a) (ng b) ↔ lt b a := by unfold lt ng; simp only; omega
theorem cr_ng (a b c : P) : cr (ng a) (ng b) (ng c) = cr a b c := by unfold cr ng; simp only; grind
theorem ext_ng (p : P) : ∀ st, ext (st.map ng) (ng p) = (ext st p).map ng
  | [] => rfl
  | [a] => rfl
  | b :: a :: r => by
    have := ext_ng p (a :: r)
    simp only [List.map_cons] at this
    simp only [List.map_cons, ext, cr_ng]
    split
    · rfl
    · exact this
theorem fold_ng : ∀ (l st : List P), (l.map ng).foldl ext (st.map ng) = (l.foldl ext st).map ng
  | [], st => rfl
  | p :: l, st => by
    simp only [List.map_cons, List.foldl_cons]
    rw [ext_ng, fold_ng l]
theorem chain_ng (l : List P) : chain (l.map ng) = (chain l).map ng := fold_ng l []
theorem chain_rev {l : List P} (h : l ≠ []) (hs : l.Pairwise lt) : Inv (l.map ng) ((chain l.reverse).map ng) := by
  rw [← chain_ng]
  refine (chain_inv (l := l.reverse.map ng) (by simpa using h) ?_).ext fun x => by simp
  rw [List.pairwise_map, List.pairwise_reverse]
  exact hs.imp fun hab => lt_ng.2 hab
def d2 (a b : P) : Int := (b.1 - a.1) * (b.1 - a.1) + (b.2 - a.2) * (b.2 - a.2)
def dt (a b q : P) : Int := (b.1 - a.1) * (q.1 - a.1) + (b.2 - a.2) * (q.2 - a.2)
/-- The step from a to b along the hull of S. -/
structure Edge (S : List P) (a b : P) : Prop where
  ne : a ≠ b
  mem : b ∈ S
  left : ∀ q ∈ S, 0 ≤ cr a b q
  far : ∀ q ∈ S, cr a b q = 0 → 0 ≤ dt a b q ∧ d2 a q ≤ d2 a b
/-- Steps: the list's neighbours are edges. -/
def Steps (S : List P) : List P → Prop
  | a :: b :: r => Edge S a b ∧ Steps S (b :: r)
  | _ => True
structure IsHull (S h : List P) : Prop where
  ne : h ≠ []
  mem : ∀ x ∈ h, x ∈ S
  low : ∀ q ∈ S, h.head ne = q ∨ lt (h.head ne) q
  steps : Steps S (h ++ [h.head ne])
  nodup : h.Nodup
theorem Edge.iff {S T : List P} {a b : P} (h : Edge S a b) (e : ∀ x ∈ T, x ∈ S) (hb : b ∈ T) : Edge T a b := ⟨h.ne, hb, fun q hq => h.left q (e q hq), fun q hq => h.far q (e q hq)⟩
theorem Steps.iff {S T : List P} (e : ∀ x ∈ T, x ∈ S) : ∀ {l : List P}, Steps S l → (∀ x ∈ l, x ∈ T) → Steps T l
  | [], _, _ => trivial
  | [_], _, _ => trivial
  | a :: b :: r, h, hm => ⟨h.1.iff e (hm b (by simp)), Steps.iff e h.2 fun x hx => hm x (List.mem_cons_of_mem _ hx)⟩
/-- The hull of fewer points, the corners among them. -/
theorem IsHull.iff {S T h : List P} (H : IsHull S h) (e : ∀ x ∈ T, x ∈ S) (hh : ∀ x ∈ h, x ∈ T) : IsHull T h :=
  ⟨H.ne, hh, fun q hq => H.low q (e q hq), H.steps.iff e fun x hx => by
    rcases List.mem_append.1 hx with hx | hx
    · exact hh x hx
    · simp at hx; subst hx; exact hh _ (List.head_mem H.ne), H.nodup⟩

theorem sq_nn (x : Int) : 0 ≤ x * x := by
  rcases Int.le_total 0 x with h | h
  · exact Int.mul_nonneg h h
  · exact Int.mul_nonneg_of_nonpos_of_nonpos h h
theorem sq0 {x y : Int} (h : x * x + y * y ≤ 0) : x = 0 ∧ y = 0 := by
  have h1 := sq_nn x
  have h2 := sq_nn y
  have e1 : x * x = 0 := by omega
  have e2 : y * y = 0 := by omega
  exact ⟨by rcases Int.mul_eq_zero.1 e1 with h | h <;> exact h, by rcases Int.mul_eq_zero.1 e2 with h | h <;> exact h⟩
theorem d2_nn (a b : P) : 0 ≤ d2 a b := by have := sq_nn (b.1 - a.1); have := sq_nn (b.2 - a.2); unfold d2; omega
theorem d2_self (a : P) : d2 a a = 0 := by unfold d2; grind
theorem d2_zero {a b : P} (h : d2 a b ≤ 0) : a = b := by
  obtain ⟨h1, h2⟩ := sq0 h
  exact Prod.ext (by omega) (by omega)
theorem d2_pos {a b : P} (h : a ≠ b) : 0 < d2 a b := by
  rcases Int.lt_or_le 0 (d2 a b) with h' | h'
  · exact h'
  · exact absurd (d2_zero h') h
theorem lagr (a b q : P) : dt a b q * dt a b q + cr a b q * cr a b q = d2 a q * d2 a b := by unfold dt cr d2; grind
theorem mul_pos_cancel {a b c : Int} (ha : 0 < a) (h : a * b ≤ a * c) : b ≤ c := Int.le_of_mul_le_mul_left h ha
/-- Two ends of the same step are the same. -/
theorem Edge.uniq {S : List P} {a b q : P} (h : Edge S a b) (hq : q ∈ S) (hne : a ≠ q) (hl : 0 ≤ cr a q b) (hd : d2 a b ≤ d2 a q ∨ 0 < cr a q b) : q = b := by
  have h1 := h.left q hq
  rw [cr_swap] at hl hd
  have h0 : cr a b q = 0 := by omega
  obtain ⟨g1, g2⟩ := h.far q hq h0
  have hd : d2 a b ≤ d2 a q := by omega
  have he : d2 a q = d2 a b := by omega
  have hL := lagr a b q
  rw [h0, he] at hL
  have hdt : dt a b q = d2 a b := by
    have hn := d2_nn a b
    rcases Int.lt_trichotomy (dt a b q) (d2 a b) with k | k | k
    · have := Int.mul_lt_mul' (Int.le_of_lt k) k g1 (by omega); omega
    · exact k
    · have := Int.mul_lt_mul' (Int.le_of_lt k) k hn (by omega); omega
  have : d2 q b = d2 a q + d2 a b - 2 * dt a b q := by unfold d2 dt; grind
  exact d2_zero (by omega)

/-- The next corner, as the reference finds it. -/
def okN (S : List P) (p q : P) : Bool := decide (q ≠ p) && S.all fun k => decide (0 < cr p q k) || (decide (cr p q k = 0) && decide (d2 p k ≤ d2 p q))
def nxt (S : List P) (p : P) : P := (S.find? (okN S p)).getD p
theorem Edge.ok {S : List P} {a b : P} (h : Edge S a b) : okN S a b = true := by
  simp only [okN, Bool.and_eq_true, decide_eq_true_eq, List.all_eq_true, Bool.or_eq_true]
  refine ⟨fun e => h.ne e.symm, fun k hk => ?_⟩
  have := h.left k hk
  rcases Int.lt_or_eq_of_le this with h1 | h1
  · exact Or.inl h1
  · exact Or.inr ⟨h1.symm, (h.far k hk h1.symm).2⟩
theorem Edge.nxt {S : List P} {a b : P} (h : Edge S a b) : nxt S a = b := by
  unfold Hl.nxt
  cases e : S.find? (okN S a) with
  | none =>
    rw [List.find?_eq_none] at e
    exact absurd h.ok (e b h.mem)
  | some q =>
    have hq := List.mem_of_find?_eq_some e
    have ho := List.find?_some e
    simp only [okN, Bool.and_eq_true, decide_eq_true_eq, List.all_eq_true, Bool.or_eq_true] at ho
    have hb := ho.2 b h.mem
    show q = b
    exact h.uniq hq (fun e => ho.1 e.symm) (by rcases hb with hb | hb <;> omega) (by rcases hb with hb | hb; exact Or.inr hb; exact Or.inl hb.2)
def go (S : List P) (f : P) : Nat → P → List P
  | 0, _ => []
  | n + 1, v => if v = f then [] else v :: go S f n (nxt S v)
theorem go_ok {S : List P} {f : P} : ∀ {t : List P} {a : P} {n : Nat}, Steps S (a :: t ++ [f]) → f ∉ t → t.length ≤ n → go S f n (nxt S a) = t
  | [], a, n, h, _, _ => by
    have : Edge S a f := h.1
    rw [this.nxt]
    cases n <;> simp [go]
  | b :: t, a, 0, _, _, h => by simp at h
  | b :: t, a, n + 1, h, hf, hn => by
    have h1 : Edge S a b := h.1
    have h2 : Steps S (b :: t ++ [f]) := h.2
    simp only [List.mem_cons, not_or] at hf
    rw [h1.nxt, go, if_neg (Ne.symm hf.1), go_ok h2 hf.2 (by simpa using hn)]
theorem nodup_le {l m : List P} (h : l.Nodup) (hs : ∀ x ∈ l, x ∈ m) : l.length ≤ m.length := by
  induction l generalizing m with
  | nil => simp
  | cons a l ih =>
    rw [List.nodup_cons] at h
    have ha := hs a (by simp)
    have := ih (m := m.erase a) h.2 fun x hx => by
      have hne : x ≠ a := fun e => h.1 (e ▸ hx)
      exact (List.mem_erase_of_ne hne).2 (hs x (List.mem_cons_of_mem _ hx))
    rw [List.length_erase_of_mem ha] at this
    have := List.length_pos_of_mem ha
    simp; omega
/-- The reference walks round the hull. -/
theorem IsHull.go {S h : List P} (H : IsHull S h) : h.head H.ne :: go S (h.head H.ne) S.length (nxt S (h.head H.ne)) = h := by
  obtain ⟨ne, mem, low, steps, nodup⟩ := H
  cases h with
  | nil => exact absurd rfl ne
  | cons f t =>
    show f :: Hl.go S f S.length (nxt S f) = f :: t
    rw [List.nodup_cons] at nodup
    have hgo := go_ok steps nodup.1 (nodup_le nodup.2 fun x hx => mem x (List.mem_cons_of_mem _ hx))
    exact congrArg (f :: ·) hgo
/-- A path (its last point first) that turns left at each inner point, with all of S to its left. -/
def Ccw (S : List P) : List P → Prop
  | [] => True
  | [_] => True
  | b :: a :: r => a ≠ b ∧ (∀ q ∈ S, 0 ≤ cr a b q) ∧ (match r with | [] => True | z :: _ => 0 < cr z a b) ∧ Ccw S (a :: r)
theorem lt_ne {a b : P} (h : lt a b) : a ≠ b := fun e => lt_irrefl (e ▸ h)
theorem Cvx.ccw {S : List P} : ∀ {l : List P}, Cvx S l → Ccw S l
  | [], _ => trivial
  | [_], _ => trivial
  | b :: a :: r, h => ⟨lt_ne h.1, h.2.1, h.2.2.1, h.2.2.2.ccw⟩
theorem Ccw.ng {S : List P} : ∀ {l : List P}, Ccw (S.map Hl.ng) (l.map Hl.ng) → Ccw S l
  | [], _ => trivial
  | [_], _ => trivial
  | [b, a], h => ⟨fun e => h.1 (by rw [e]), fun q hq => by have := h.2.1 (Hl.ng q) (List.mem_map_of_mem hq); rwa [cr_ng] at this, trivial, trivial⟩
  | b :: a :: z :: r, h => ⟨fun e => h.1 (by rw [e]), fun q hq => by have := h.2.1 (Hl.ng q) (List.mem_map_of_mem hq); rwa [cr_ng] at this, (show 0 < cr z a b from (cr_ng z a b) ▸ (show 0 < cr (Hl.ng z) (Hl.ng a) (Hl.ng b) from h.2.2.1)), Ccw.ng (l := a :: z :: r) h.2.2.2⟩
/-- Two paths are joined at m. -/
theorem Ccw.join {S : List P} {m z : P} {l : List P} (hl : Ccw S (m :: z :: l)) : ∀ {u : List P}, Ccw S (u ++ [m]) → (∀ x, u.getLast? = some x → 0 < cr z m x) → Ccw S (u ++ m :: z :: l)
  | [], _, _ => hl
  | [b], h, ht => ⟨h.1, h.2.1, ht b rfl, hl⟩
  | b :: a :: u, h, ht => by
    have ih := Ccw.join hl (u := a :: u) h.2.2.2 (fun x hx => ht x (by simpa using hx))
    refine ⟨h.1, h.2.1, ?_, ih⟩
    have h3 := h.2.2.1
    cases u with
    | nil => exact h3
    | cons y u => exact h3
/-- What lies on the line of a step lies within it, if the path turns before and behind it. -/
theorem within {z a b c q : P} (t1 : 0 < cr z a b) (t2 : 0 < cr a b c) (l1 : 0 ≤ cr z a q) (l2 : 0 ≤ cr b c q) (h0 : cr a b q = 0) (hne : a ≠ b) : 0 ≤ dt a b q ∧ d2 a q ≤ d2 a b := by
  -- D (q - a) = s (b - a), with D = d2 a b, s = dt a b q
  have hD := d2_pos hne
  have e1 : d2 a b * (q.1 - a.1) = dt a b q * (b.1 - a.1) - cr a b q * (b.2 - a.2) := by unfold d2 dt cr; grind
  have e2 : d2 a b * (q.2 - a.2) = dt a b q * (b.2 - a.2) + cr a b q * (b.1 - a.1) := by unfold d2 dt cr; grind
  rw [h0] at e1 e2
  have f1 : d2 a b * cr z a q = dt a b q * cr z a b := by unfold cr at *; grind
  have f2 : d2 a b * cr b c q = (d2 a b - dt a b q) * cr a b c := by unfold cr at *; grind
  have p1 := Int.mul_nonneg (Int.le_of_lt hD) l1
  have p2 := Int.mul_nonneg (Int.le_of_lt hD) l2
  have s1 : 0 ≤ dt a b q := by
    rw [f1, Int.mul_comm] at p1; exact pos_of_mul t1 p1
  have s2 : 0 ≤ d2 a b - dt a b q := by
    rw [f2, Int.mul_comm] at p2; exact pos_of_mul t2 p2
  refine ⟨s1, ?_⟩
  have hL := lagr a b q
  rw [h0] at hL
  have : dt a b q * dt a b q ≤ d2 a b * d2 a b := Int.mul_le_mul (by omega) (by omega) s1 (Int.le_of_lt hD)
  have h3 : d2 a q * d2 a b ≤ d2 a b * d2 a b := by omega
  exact Int.le_of_mul_le_mul_right h3 hD
/-- A path with a point before and one behind: its steps are edges. -/
theorem Ccw.steps {S : List P} : ∀ {l : List P} {c b z : P}, Ccw S (c :: b :: l ++ [z]) → (∀ x ∈ b :: l, x ∈ S) → Steps S (b :: l).reverse
  | [], c, b, z, _, _ => trivial
  | [a], c, b, z, h, hm => by
    have h : Ccw S [c, b, a, z] := h
    refine ⟨⟨h.2.2.2.1, hm b (by simp), h.2.2.2.2.1, fun q hq h0 => within h.2.2.2.2.2.1 h.2.2.1 (h.2.2.2.2.2.2.2.1 q hq) (h.2.1 q hq) h0 h.2.2.2.1⟩, trivial⟩
  | a :: y :: l, c, b, z, h, hm => by
    have h : Ccw S (c :: b :: a :: (y :: l ++ [z])) := h
    have ih := Ccw.steps (l := y :: l) (c := b) (b := a) (z := z) h.2.2.2 (fun x hx => hm x (List.mem_cons_of_mem _ hx))
    have he : Edge S a b := ⟨h.2.2.2.1, hm b (by simp), h.2.2.2.2.1, fun q hq h0 => within (z := y) (c := c) h.2.2.2.2.2.1 h.2.2.1 (h.2.2.2.2.2.2.2.1 q hq) (h.2.1 q hq) h0 h.2.2.2.1⟩
    -- add the edge at the end
    have add : ∀ (s : List P) (a : P), Steps S (s ++ [a]) → Edge S a b → Steps S (s ++ [a] ++ [b]) := by
      intro s
      induction s with
      | nil => exact fun a _ e => ⟨e, trivial⟩
      | cons x s ih =>
        intro a hs e
        cases s with
        | nil => exact ⟨hs.1, e, trivial⟩
        | cons y s => exact ⟨hs.1, ih a hs.2 e⟩
    have : (b :: a :: y :: l).reverse = (y :: l).reverse ++ [a] ++ [b] := by simp
    rw [this]
    exact add _ a (by have : (a :: y :: l).reverse = (y :: l).reverse ++ [a] := by simp
                      rw [this] at ih; exact ih) he
theorem Ccw.snoc {S : List P} {y p a : P} (hn : y ≠ p) (hl : ∀ q ∈ S, 0 ≤ cr y p q) (ht : 0 < cr y p a) : ∀ {l : List P}, Ccw S (l ++ [a, p]) → Ccw S (l ++ [a, p] ++ [y])
  | [], h => ⟨h.1, h.2.1, ht, hn, hl, trivial, trivial⟩
  | [b], h => ⟨h.1, h.2.1, h.2.2.1, h.2.2.2.1, h.2.2.2.2.1, ht, hn, hl, trivial, trivial⟩
  | b :: c :: l, h => by
    have ih := Ccw.snoc hn hl ht (l := c :: l) h.2.2.2
    refine ⟨h.1, h.2.1, ?_, ih⟩
    have h3 := h.2.2.1
    cases l with
    | nil => exact h3
    | cons d l => exact h3
theorem Cvx.dec {S : List P} : ∀ {r : List P} {c : P}, Cvx S (c :: r) → ∀ x ∈ r, lt x c
  | [], _, _, x, hx => by cases hx
  | b :: r, c, h, x, hx => by
    rcases List.mem_cons.1 hx with rfl | hx
    · exact h.1
    · exact lt_trans (Cvx.dec h.2.2.2 x hx) h.1
theorem Cvx.nodup {S : List P} : ∀ {l : List P}, Cvx S l → l.Nodup
  | [], _ => List.nodup_nil
  | c :: r, h => List.nodup_cons.2 ⟨fun hx => lt_irrefl (h.dec c hx), by
    cases r with
    | nil => exact List.nodup_nil
    | cons b r => exact Cvx.nodup h.2.2.2⟩
theorem Cvx.mid {S : List P} {x : P} : ∀ {r : List P} {c : P}, Cvx S (c :: r) → x ∈ r → some x ≠ (c :: r).getLast? → ∃ a d, lt a x ∧ lt x d ∧ a ∈ c :: r ∧ d ∈ c :: r ∧ 0 < cr a x d ∧ (∀ q ∈ S, 0 ≤ cr a x q) ∧ ∀ q ∈ S, 0 ≤ cr x d q
  | [], c, h, hx, hl => by cases hx
  | [b], c, h, hx, hl => by simp at hx; subst hx; simp at hl
  | b :: a :: r, c, h, hx, hl => by
    by_cases e : x = b
    · subst e
      exact ⟨a, c, h.2.2.2.1, h.1, by simp, by simp, h.2.2.1, h.2.2.2.2.1, h.2.1⟩
    · have hx' : x ∈ a :: r := by
        rcases List.mem_cons.1 hx with h1 | h1
        · exact absurd h1 e
        · exact h1
      obtain ⟨a', d, h1, h2, h3, h4, h5⟩ := Cvx.mid (c := b) (r := a :: r) h.2.2.2 hx' (by simpa using hl)
      exact ⟨a', d, h1, h2, List.mem_cons_of_mem _ h3, List.mem_cons_of_mem _ h4, h5⟩
theorem turn_top {S : List P} {m z x : P} (hz : lt z m) (hx : lt x m) (top : ∀ q ∈ S, q = m ∨ lt q m) (l1 : ∀ q ∈ S, 0 ≤ cr z m q) (l2 : ∀ q ∈ S, 0 ≤ cr m x q) (h : ¬ 0 < cr z m x) : ∀ q ∈ S, cr z m q = 0 := by
  intro q hq
  rcases top q hq with rfl | hqm
  · exact cr_self2 z _
  · have := half (hp_of_lt hz) (hp_of_lt hx) (hp_of_lt hqm) (by unfold cr at h; grind) (by have := l2 q hq; unfold cr at this; grind)
    have h1 := l1 q hq
    have : cr z m q ≤ 0 := by unfold cr; grind
    omega
theorem col_trans {a b x y z : P} (h : a ≠ b) (hx : cr a b x = 0) (hy : cr a b y = 0) (hz : cr a b z = 0) : cr x y z = 0 := by
  have e1 : (b.1 - a.1) * cr x y z = 0 := by
    have h1 : (b.1 - a.1) * (y.2 - x.2) - (b.2 - a.2) * (y.1 - x.1) = 0 := by unfold cr at hx hy; grind
    have h2 : (b.1 - a.1) * (z.2 - x.2) - (b.2 - a.2) * (z.1 - x.1) = 0 := by unfold cr at hx hz; grind
    have e : (b.1 - a.1) * cr x y z = (y.1 - x.1) * ((b.1 - a.1) * (z.2 - x.2) - (b.2 - a.2) * (z.1 - x.1)) - (z.1 - x.1) * ((b.1 - a.1) * (y.2 - x.2) - (b.2 - a.2) * (y.1 - x.1)) := by unfold cr; grind
    rw [e, h1, h2]; simp
  have e2 : (b.2 - a.2) * cr x y z = 0 := by
    have h1 : (b.1 - a.1) * (y.2 - x.2) - (b.2 - a.2) * (y.1 - x.1) = 0 := by unfold cr at hx hy; grind
    have h2 : (b.1 - a.1) * (z.2 - x.2) - (b.2 - a.2) * (z.1 - x.1) = 0 := by unfold cr at hx hz; grind
    have e : (b.2 - a.2) * cr x y z = (y.2 - x.2) * ((b.1 - a.1) * (z.2 - x.2) - (b.2 - a.2) * (z.1 - x.1)) - (z.2 - x.2) * ((b.1 - a.1) * (y.2 - x.2) - (b.2 - a.2) * (y.1 - x.1)) := by unfold cr; grind
    rw [e, h1, h2]; simp
  rcases Int.mul_eq_zero.1 e1 with h1 | h1
  · rcases Int.mul_eq_zero.1 e2 with h2 | h2
    · exact absurd (Prod.ext (by omega) (by omega)) h
    · exact h2
  · exact h1
/-- A point cannot lie within both chains. -/
theorem mid_two {S : List P} {x a d z v : P} (h1 : lt x d) (h2 : lt v x) (h3 : lt x z) (hz : z ∈ S) (hv : v ∈ S) (k1 : ∀ q ∈ S, 0 ≤ cr x d q) (k2 : 0 < cr z x v) : False := by
  have := half_l (hp_of_lt h3) (hp_of_lt h2) (hp_of_lt h1) (by unfold cr at k2; grind) (by have := k1 v hv; unfold cr at this; grind)
  have h := k1 z hz
  unfold cr at h
  grind
def hullOf (l : List P) : List P := (chain l.reverse ++ (chain l).tail).tail.reverse
theorem two_last {α : Type} : ∀ {l : List α} {p : α}, l.getLast? = some p → 2 ≤ l.length → ∃ s a, l = s ++ [a, p]
  | [], p, h, _ => by simp at h
  | [a], p, h, hl => by simp at hl
  | [a, b], p, h, _ => ⟨[], a, by simp at h; rw [h]; rfl⟩
  | a :: b :: c :: l, p, h, _ => by
    obtain ⟨s, x, hs⟩ := two_last (l := b :: c :: l) (p := p) (by simpa using h) (by simp)
    exact ⟨a :: s, x, by rw [hs]; rfl⟩
theorem two_first {α : Type} {l : List α} {p : α} (h : l.head? = some p) (hl : 2 ≤ l.length) : ∃ y u, l = p :: y :: u := by
  match l, h, hl with
  | [a], _, hl => simp at hl
  | a :: y :: u, h, _ => exact ⟨y, u, by simp at h; rw [h]⟩
theorem len2 {l : List P} {a b : P} (ha : l.head? = some a) (hb : l.getLast? = some b) (h : a ≠ b) : 2 ≤ l.length := by
  match l, ha, hb with
  | [x], ha, hb => simp at ha hb; exact absurd (ha.symm.trans hb) h
  | _ :: _ :: _, _, _ => simp
theorem Inv.ends {S st : List P} (h : Inv S st) {p m : P} (hp : p ∈ S) (hm : m ∈ S) (lo : ∀ q ∈ S, p = q ∨ lt p q) (hi : ∀ q ∈ S, q = m ∨ lt q m) : st.head? = some m ∧ st.getLast? = some p := by
  have h1 := h.top m hm
  have h2 := hi _ (h.mem _ (List.head_mem h.ne))
  have h3 := h.low p hp
  have h4 := lo _ (h.mem _ (List.getLast_mem h.ne))
  constructor
  · rw [List.head?_eq_some_head h.ne]
    rcases h2 with e | e
    · rw [e]
    · rcases h1 with k | k
      · rw [← k]
      · exact absurd (lt_trans e k) lt_irrefl
  · rw [List.getLast?_eq_some_getLast h.ne]
    rcases h4 with e | e
    · rw [← e]
    · rcases h3 with k | k
      · rw [k]
      · exact absurd (lt_trans e k) lt_irrefl
/-- THE MONOTONE CHAINS make the hull. -/
theorem hull_ok {l : List P} (hs : l.Pairwise lt) {p m : P} (hp : l.head? = some p) (hm : l.getLast? = some m) (nc : ¬ ∀ q ∈ l, cr p m q = 0) : IsHull l (hullOf l) := by
  have hne : l ≠ [] := by rintro rfl; simp at hp
  have hpm : p ≠ m := by rintro rfl; exact nc fun q _ => cr_self3 _ _
  have hpl : p ∈ l := List.mem_of_mem_head? hp
  have hml : m ∈ l := List.mem_of_getLast? hm
  have lo : ∀ q ∈ l, p = q ∨ lt p q := by
    cases l with
    | nil => simp
    | cons a l =>
      simp at hp; subst hp
      intro q hq
      rcases List.mem_cons.1 hq with rfl | hq
      · exact Or.inl rfl
      · exact Or.inr ((List.pairwise_cons.1 hs).1 q hq)
  have hi : ∀ q ∈ l, q = m ∨ lt q m := by
    have hr : l.reverse.Pairwise (fun a b => lt b a) := List.pairwise_reverse.2 hs
    have hr0 : l.reverse.head? = some m := by simpa using hm
    intro q hq
    have hq : q ∈ l.reverse := by simpa using hq
    cases h : l.reverse with
    | nil => rw [h] at hr0; simp at hr0
    | cons a r =>
      rw [h] at hr0 hq hr
      simp at hr0; subst hr0
      rcases List.mem_cons.1 hq with rfl | hq
      · exact Or.inl rfl
      · exact Or.inr ((List.pairwise_cons.1 hr).1 q hq)
  have HL := chain_inv hne hs
  have HU := chain_rev hne hs
  obtain ⟨L1, L2⟩ := HL.ends hpl hml lo hi
  obtain ⟨U1, U2⟩ := HU.ends (p := ng m) (m := ng p) (List.mem_map_of_mem hml) (List.mem_map_of_mem hpl)
    (fun q hq => by obtain ⟨x, hx, rfl⟩ := List.mem_map.1 hq; rcases hi x hx with e | e; exact Or.inl (by rw [e]); exact Or.inr (lt_ng.2 e))
    (fun q hq => by obtain ⟨x, hx, rfl⟩ := List.mem_map.1 hq; rcases lo x hx with e | e; exact Or.inl (by rw [e]); exact Or.inr (lt_ng.2 e))
  have inj : ∀ {a b : P}, ng a = ng b → a = b := fun {a b} e => by rw [← ng_ng a, e, ng_ng]
  have U1 : (chain l.reverse).head? = some p := by
    rw [List.head?_map] at U1
    cases h : (chain l.reverse).head? with
    | none => rw [h] at U1; simp at U1
    | some a => rw [h] at U1; simp at U1; rw [inj U1]
  have U2 : (chain l.reverse).getLast? = some m := by
    rw [List.getLast?_map] at U2
    cases h : (chain l.reverse).getLast? with
    | none => rw [h] at U2; simp at U2
    | some a => rw [h] at U2; simp at U2; rw [inj U2]
  obtain ⟨z, lr, eL⟩ := two_first L1 (len2 L1 L2 (Ne.symm hpm))
  obtain ⟨La, l1, eL'⟩ := two_last L2 (len2 L1 L2 (Ne.symm hpm))
  obtain ⟨y, ur, eU⟩ := two_first U1 (len2 U1 U2 hpm)
  obtain ⟨Ua, x, eU'⟩ := two_last U2 (len2 U1 U2 hpm)
  have CL := HL.cvx
  have CU := HU.cvx
  have WL : Ccw l (m :: z :: lr) := by rw [← eL]; exact CL.ccw
  have WL' : Ccw l (La ++ [l1, p]) := by rw [← eL']; exact CL.ccw
  have WU : Ccw l (p :: y :: ur) := by rw [← eU]; exact Ccw.ng CU.ccw
  have WU' : Ccw l (Ua ++ [x, m]) := by rw [← eU']; exact Ccw.ng CU.ccw
  -- the last pairs
  have lastL : ∀ {A : List P} {a b : P}, Ccw l (A ++ [a, b]) → ∀ q ∈ l, 0 ≤ cr b a q := by
    intro A
    induction A with
    | nil => exact fun h => h.2.1
    | cons c A ih =>
      intro a b h
      cases A with
      | nil => exact h.2.2.2.2.1
      | cons d A => exact ih h.2.2.2
  have memL : ∀ q ∈ chain l, q ∈ l := HL.mem
  have memU : ∀ q ∈ chain l.reverse, q ∈ l := fun q hq => by
    obtain ⟨r, hr, e⟩ := List.mem_map.1 (HU.mem (ng q) (List.mem_map_of_mem hq))
    rw [← inj e]; exact hr
  have hzl : z ∈ l := memL z (by rw [eL]; simp)
  have hl1l : l1 ∈ l := memL l1 (by rw [eL']; simp)
  have hyl : y ∈ l := memU y (by rw [eU]; simp)
  have hxl : x ∈ l := memU x (by rw [eU']; simp)
  have zm : lt z m := by rw [eL] at CL; exact CL.1
  have decU : ∀ q ∈ y :: ur, lt p q := fun q hq => by
    have hc := CU
    rw [eU] at hc
    exact lt_ng.1 (hc.dec (ng q) (by simpa using List.mem_map_of_mem (f := ng) hq))
  have xm : lt x m := by
    rcases hi x hxl with e | e
    · exfalso
      have hc := CU.nodup
      rw [eU', e, List.map_append, List.nodup_append] at hc
      have := hc.2.1
      simp at this
    · exact e
  have pl1 : lt p l1 := by
    rcases lo l1 hl1l with e | e
    · exfalso
      have hc := CL.nodup
      rw [eL', ← e, List.nodup_append] at hc
      have := hc.2.1
      simp at this
    · exact e
  have turn_m : 0 < cr z m x := Decidable.byContradiction fun hn => nc fun q hq => by
    have h := turn_top zm xm hi WL.2.1 (lastL WU') hn
    exact col_trans (lt_ne zm) (h p hpl) (h m hml) (h q hq)
  have turn_p : 0 < cr y p l1 := Decidable.byContradiction fun hn => nc fun q hq => by
    have h := turn_top (S := l.map ng) (m := ng p) (z := ng y) (x := ng l1) (lt_ng.2 (decU y (by simp))) (lt_ng.2 pl1)
      (fun q hq => by obtain ⟨r, hr, rfl⟩ := List.mem_map.1 hq; rcases lo r hr with e | e; exact Or.inl (by rw [e]); exact Or.inr (lt_ng.2 e))
      (fun q hq => by obtain ⟨r, hr, rfl⟩ := List.mem_map.1 hq; rw [cr_ng]; exact WU.2.1 r hr)
      (fun q hq => by obtain ⟨r, hr, rfl⟩ := List.mem_map.1 hq; rw [cr_ng]; exact lastL WL' r hr) (by rw [cr_ng]; exact hn)
    have h' : ∀ q ∈ l, cr y p q = 0 := fun q hq => by have := h (ng q) (List.mem_map_of_mem hq); rwa [cr_ng] at this
    exact col_trans (Ne.symm (lt_ne (decU y (by simp)))) (h' p hpl) (h' m hml) (h' q hq)
  -- the whole path
  have eR : chain l.reverse ++ (chain l).tail = Ua ++ [x] ++ (m :: z :: lr) := by rw [eU', eL]; simp
  have eR1 : chain l.reverse ++ (chain l).tail = p :: y :: (ur ++ z :: lr) := by rw [eU, eL]; simp
  have eR2 : chain l.reverse ++ (chain l).tail = (Ua ++ [x] ++ La) ++ [l1, p] := by rw [eR, ← eL, eL']; simp
  have W1 : Ccw l (chain l.reverse ++ (chain l).tail) := by
    rw [eR]
    refine Ccw.join WL (by simpa using WU') fun w hw => ?_
    simp at hw; subst hw; exact turn_m
  have hyp : y ≠ p := Ne.symm (lt_ne (decU y (by simp)))
  have W2 : Ccw l (chain l.reverse ++ (chain l).tail ++ [y]) := by
    rw [eR2] at W1 ⊢
    exact Ccw.snoc hyp WU.2.1 turn_p W1
  have W3 : Ccw l (l1 :: (chain l.reverse ++ (chain l).tail ++ [y])) := by
    rw [eR1] at W2 ⊢
    exact ⟨lt_ne pl1, lastL WL', turn_p, W2⟩
  have eh : hullOf l = (y :: (ur ++ z :: lr)).reverse := by unfold hullOf; rw [eR1]; rfl
  have memR : ∀ q ∈ chain l.reverse ++ (chain l).tail, q ∈ l := fun q hq => by
    rcases List.mem_append.1 hq with h | h
    · exact memU q h
    · exact memL q (List.mem_of_mem_tail h)
  have St : Steps l (p :: y :: (ur ++ z :: lr)).reverse := by
    rw [eR1] at W3 memR
    exact Ccw.steps (c := l1) (b := p) (l := y :: (ur ++ z :: lr)) (z := y) W3 memR
  have hlast : (z :: lr).getLast? = some p := by rw [eL] at L2; simpa using L2
  have hne' : hullOf l ≠ [] := by rw [eh]; simp
  have hhead : (hullOf l).head hne' = p := by
    have : (hullOf l).head? = some p := by
      rw [eh, List.head?_reverse]
      have e1 : (y :: (ur ++ z :: lr)) = (y :: ur) ++ z :: lr := rfl
      rw [e1, List.getLast?_append, hlast]
      rfl
    rw [List.head?_eq_some_head hne'] at this
    simpa using this
  refine ⟨hne', fun q hq => ?_, fun q hq => ?_, ?_, ?_⟩
  · rw [eh] at hq
    refine memR q ?_
    rw [eR1]
    exact List.mem_cons_of_mem _ (List.mem_reverse.1 hq)
  · rw [hhead]; exact lo q hq
  · rw [hhead]
    have : hullOf l ++ [p] = (p :: y :: (ur ++ z :: lr)).reverse := by rw [eh]; simp
    rw [this]; exact St
  · rw [eh]
    refine List.pairwise_reverse.2 (List.Pairwise.imp (fun h => Ne.symm h) ?_)
    have n1 : (y :: ur).Nodup := by
      have hc := CU.nodup
      rw [eU] at hc
      have : (List.map ng (y :: ur)).Nodup := (List.nodup_cons.1 hc).2
      exact (List.pairwise_map.1 this).imp fun h e => h (by rw [e])
    have n2 : (z :: lr).Nodup := by
      have hc := CL.nodup
      rw [eL] at hc
      exact (List.nodup_cons.1 hc).2
    have : (y :: ur ++ z :: lr).Nodup := by
      rw [List.nodup_append]
      refine ⟨n1, n2, ?_⟩
      rintro q hq r hr rfl
      have qp : lt p q := decU q hq
      have qm : lt q m := by rw [eL] at CL; exact CL.dec q hr
      rw [eL] at CL
      obtain ⟨a, d, g1, g2, g3, g4, g5, g6, g7⟩ := CL.mid hr (fun e => by
        have : (m :: z :: lr).getLast? = some p := by rw [← eL]; exact L2
        rw [this] at e; injection e with e; subst e; exact lt_irrefl qp)
      have CU' := CU
      rw [eU] at CU'
      obtain ⟨a', d', k1, k2, k3, k4, k5, k6, k7⟩ := Cvx.mid (x := ng q) (c := ng p) (r := (y :: ur).map ng) CU' (List.mem_map_of_mem hq) (fun e => by
        have e2 : (ng p :: (y :: ur).map ng).getLast? = some (ng m) := by
          have := List.getLast?_map (f := ng) (l := chain l.reverse)
          rw [U2, eU] at this
          exact this
        rw [e2] at e; injection e with e; have := inj e; subst this; exact lt_irrefl qm)
      obtain ⟨v, hv, rfl⟩ : ∃ v, v ∈ l ∧ ng v = d' := by
        have : d' ∈ List.map ng (chain l.reverse) := by rw [eU]; exact k4
        obtain ⟨v, hv, e⟩ := List.mem_map.1 this
        exact ⟨v, memU v hv, e⟩
      obtain ⟨w, hw, rfl⟩ : ∃ v, v ∈ l ∧ ng v = a' := by
        have : a' ∈ List.map ng (chain l.reverse) := by rw [eU]; exact k3
        obtain ⟨v, hv, e⟩ := List.mem_map.1 this
        exact ⟨v, memU v hv, e⟩
      rw [cr_ng] at k5
      exact mid_two (a := a) g2 (lt_ng.1 k2) (lt_ng.1 k1) hw hv g7 k5
    exact this
/-- Points on one line: the hull is the two ends. -/
theorem chain_col {p : P} : ∀ {l : List P} {c : P}, (∀ a ∈ c :: l, ∀ b ∈ c :: l, cr p a b = 0) → l.foldl ext [c, p] = [(c :: l).getLast (by simp), p]
  | [], c, _ => rfl
  | x :: l, c, h => by
    have : ext [c, p] x = [x, p] := by
      simp only [ext]
      rw [if_neg (by rw [h c (by simp) x (by simp)]; omega)]
    simp only [List.foldl_cons, this]
    rw [chain_col fun a ha b hb => h a (List.mem_cons_of_mem _ ha) b (List.mem_cons_of_mem _ hb)]
    simp
theorem chain_line {l : List P} {p m : P} (hp : l.head? = some p) (hm : l.getLast? = some m) (hpm : p ≠ m) (h : ∀ a ∈ l, ∀ b ∈ l, cr p a b = 0) : chain l = [m, p] := by
  match l, hp, hm with
  | [a], hp, hm => simp at hp hm; exact absurd (hp.symm.trans hm) hpm
  | a :: c :: l, hp, hm =>
    simp at hp; subst hp
    have := chain_col (p := a) (l := l) (c := c) fun x hx y hy => h x (List.mem_cons_of_mem _ hx) y (List.mem_cons_of_mem _ hy)
    unfold chain
    simp only [List.foldl_cons]
    have e : ext (ext [] a) c = [c, a] := rfl
    rw [e, this]
    rw [List.getLast?_cons_cons, List.getLast?_eq_some_getLast (by simp)] at hm
    injection hm with hm
    rw [hm]
theorem hull_line {l : List P} {p m : P} (hp : l.head? = some p) (hm : l.getLast? = some m) (hpm : p ≠ m) (h : ∀ q ∈ l, cr p m q = 0) : hullOf l = [p, m] := by
  have hpl : p ∈ l := List.mem_of_mem_head? hp
  have hml : m ∈ l := List.mem_of_getLast? hm
  have g : ∀ a ∈ l, ∀ b ∈ l, ∀ c ∈ l, cr a b c = 0 := fun a ha b hb c hc => col_trans hpm (h a ha) (h b hb) (h c hc)
  unfold hullOf
  rw [chain_line hp hm hpm fun a ha b hb => g p hpl a ha b hb, chain_line (l := l.reverse) (p := m) (m := p) (by simpa using hm) (by simpa using hp) (Ne.symm hpm) fun a ha b hb => g m hml a (by simpa using ha) b (by simpa using hb)]
  rfl
end Go.Proofs.Ytbichdbapkpjpaa.Hl
