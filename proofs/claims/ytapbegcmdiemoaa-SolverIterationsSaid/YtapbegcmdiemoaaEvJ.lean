/- The reckoning: loops. -/
import Derived.Test.YtapbegcmdiemoaaEvI
import Derived.Deep.LoopGhost
namespace Go.Proofs.Ytapbegcmdiemoaa.Ev
open Go.RowKit
set_option linter.unusedVariables false
set_option linter.unusedSimpArgs false

/-- A loop of at most n rounds. -/
structure Rounds (P : Program) (c : Code) (n : Nat) (t : List SV) (h : List Blk) (K : KE) : Prop where
  out : ∀ B bad w0 m a w, Dom m h.length → Holds B bad w0 m ⟨t, h⟩ a w → Code.rounds P c (Post B bad w0 K) n a w

theorem goes_rounds {P : Program} {c : Code} {t : List SV} {h : List Blk} {K : KE} (n : Nat) (k : Rounds P c n t h K) : Goes P (.loop c) t h K :=
  ⟨fun B bad w0 m a w hd H => wp_loop_rounds n (k.out B bad w0 m a w hd H)⟩

def nextK (R : List SV → List Blk → Prop) (K : KE) (e : Exit) (t : List SV) (h : List Blk) : Prop :=
  match e with
  | .normal => R t h
  | e => K e t h

section
variable {P : Program} {T : Tab} {C : List Con} {pl : Plans}

theorem rounds_one (hT : T.Ok P) (hC : Cons.Ok P C) (hm : P.follows .mixedOrders = true) {c : Code} (hpl : plansOK pl c = true) {n : Nat} {t : List SV} {h : List Blk} {K : KE}
    (k : EV P T C pl c t h (nextK (fun t' h' => Rounds P c n t' h' K) K)) : Rounds P c (n + 1) t h K := by
  refine ⟨fun B bad w0 m a w hd H => ?_⟩
  rw [rounds_succ]
  refine wp_mono ((EV_sound hT hC hm c t h _ hpl k).out B bad w0 m a w hd H) fun e a' w' hq => ?_
  obtain ⟨st', m', h2, h3, h4⟩ := hq
  cases e with
  | normal => exact (show Rounds P c n st'.tmps st'.heap K from h4).out B bad w0 m' a' w' h2 h3
  | _ => exact ⟨st', m', h2, h3, h4⟩

/- One state tells less than another: block number i of the one is block number r[i] of the other. -/
def idR (r : List Nat) (i j : Nat) : Bool := match r with
  | [] => false
  | h :: t => match i with
    | 0 => Nat.beq h j
    | i + 1 => idR t i j
def RVS (r : List Nat) (s s' : SV) : Prop :=
  match s with
  | .any => True
  | .ptr id off => match s' with
    | .ptr id' off' => match idR r id id' && Nat.beq off off' with
      | true => True
      | false => False
    | _ => False
  | .pti id esz i j => match s' with
    | .pti id' esz' i' j' => match idR r id id' && Nat.beq esz esz' && Nat.beq j j' with
      | true => Leaf (i' = i)
      | false => False
    | _ => False
  | .nils => match s' with
    | .nils => True
    | _ => False
  | .sl id esz off len => match s' with
    | .sl id' esz' off' len' => match idR r id id' && Nat.beq esz esz' with
      | true => Leaf (off' = off ∧ len' = len)
      | false => False
    | _ => False
  | .osl b id esz len => match s' with
    | .osl b' id' esz' len' => match idR r id id' && Nat.beq esz esz' with
      | true => Leaf (b' = b ∧ len' = len)
      | false => False
    | .sl id' esz' off' len' => match idR r id id' && Nat.beq esz esz' with
      | true => Leaf (b = false ∧ off' = 0 ∧ len' = len)
      | false => False
    | .nils => Leaf (b = true ∧ len = 0)
    | _ => False
  | .lit k n => match toN s' with
    | some (k', n', _) => match decide (k = k') with
      | true => Leaf (n' = n)
      | false => False
    | none => False
  | .int k n => match toN s' with
    | some (k', n', _) => match decide (k = k') with
      | true => Leaf (n' = n)
      | false => False
    | none => False
  | .blit b => match toB s' with
    | some b' => Leaf (b' = b)
    | none => False
  | .bool b => match toB s' with
    | some b' => Leaf (b' = b)
    | none => False
  | .cst u => match s' with
    | .cst u' => Leaf (u' = u)
    | _ => False
  | _ => False
noncomputable def RVL (r : List Nat) (l : List SV) : List SV → Prop :=
  List.rec (motive := fun _ => List SV → Prop) (fun l' => match l' with
    | [] => True
    | _ => False) (fun s _ ih l' => match l' with
    | [] => False
    | s' :: t' => match s with
      | .any => ih t'
      | s => RVS r s s' ∧ ih t') l
noncomputable def RV (r : List Nat) (s s' : SV) : Prop :=
  match s with
  | .agg as => match s' with
    | .agg bs => RVL r as bs
    | _ => False
  | s => RVS r s s'
noncomputable def RTL (r : List Nat) (l : List SV) : List SV → Prop :=
  List.rec (motive := fun _ => List SV → Prop) (fun l' => match l' with
    | [] => True
    | _ => False) (fun s _ ih l' => match l' with
    | [] => False
    | s' :: t' => match s with
      | .any => ih t'
      | s => RV r s s' ∧ ih t') l
noncomputable def RB (r : List Nat) (b b' : Blk) : Prop :=
  match b with
  | .dead => True
  | .cells as => match b' with
    | .cells bs => RVL r as bs
    | _ => False
  | .arr ow ok esz xs => match b' with
    | .arr ow' ok' esz' xs' => match (!ow || ow') && Nat.beq esz esz' with
      | true => Leaf (ok' = ok ∧ xs' = xs)
      | false => False
    | .dead => Leaf (ok = false)
    | _ => False
/-- The blocks: the i-th of the one is number r[i] of the other; no number twice. -/
noncomputable def RBL (r0 : List Nat) (r : List Nat) (l' : List Blk) (l : List Blk) : Prop :=
  List.rec (motive := fun _ => List Nat → Prop) (fun r => match r with
    | [] => True
    | _ => False) (fun b _ ih r => match r with
    | [] => False
    | j :: r => match memN j r with
      | true => False
      | false => RB r0 b (getB l' j) ∧ ih r) l r

theorem RVL_nil (r : List Nat) (l' : List SV) : RVL r [] l' = (match l' with | [] => True | _ => False) := rfl
theorem RVL_cons (r : List Nat) (s : SV) (l l' : List SV) : RVL r (s :: l) l' = (match l' with | [] => False | s' :: t' => match s with | .any => RVL r l t' | s => RVS r s s' ∧ RVL r l t') := rfl
theorem RTL_nil (r : List Nat) (l' : List SV) : RTL r [] l' = (match l' with | [] => True | _ => False) := rfl
theorem RBL_nil (r0 : List Nat) (l' : List Blk) (r : List Nat) : RBL r0 r l' [] = (match r with | [] => True | _ => False) := rfl
theorem RTL_cons (r : List Nat) (s : SV) (l l' : List SV) : RTL r (s :: l) l' = (match l' with | [] => False | s' :: t' => match s with | .any => RTL r l t' | s => RV r s s' ∧ RTL r l t') := rfl
theorem RBL_cons (r0 : List Nat) (b : Blk) (l : List Blk) (l' : List Blk) (r : List Nat) : RBL r0 r l' (b :: l) = (match r with | [] => False | j :: r => match memN j r with | true => False | false => RB r0 b (getB l' j) ∧ RBL r0 r l' l) := rfl

/-- The map of the state that tells less. -/
def Map.ren (m : Map) (r : List Nat) : Map := fun i => match r[i]? with
  | some j => m j
  | none => none
theorem idR_eq : ∀ {r : List Nat} {i j : Nat}, idR r i j = true → r[i]? = some j
  | [], i, j, h => by simp [idR] at h
  | h :: t, 0, j, hh => by simp only [idR] at hh; rw [Nat.eq_of_beq_eq_true hh]; rfl
  | h :: t, i + 1, j, hh => by simp only [idR] at hh; simpa using idR_eq hh

theorem RVS.den {r : List Nat} {m : Map} {s s' : SV} {v : Value} (h : RVS r s s') (d : DenS m s' v) : DenS (m.ren r) s v := by
  have place : ∀ id id' l, idR r id id' = true → m id' = some l → (m.ren r) id = some l := fun id id' l h1 h2 => by
    simp only [Map.ren, idR_eq h1]; exact h2
  cases s <;> simp only [RVS] at h
  case lit k n =>
    split at h
    · rename_i k' n' u hs
      split at h
      · rename_i hk; rw [of_decide_eq_true hk, ← h.out]; exact toN_den hs d.a.d
      · exact h.elim
    · exact h.elim
  case int k n =>
    split at h
    · rename_i k' n' u hs
      split at h
      · rename_i hk; rw [of_decide_eq_true hk, ← h.out]; exact toN_den hs d.a.d
      · exact h.elim
    · exact h.elim
  case blit b =>
    split at h
    · rename_i b' hs; rw [← h.out]; exact toB_den hs d.a.d
    · exact h.elim
  case bool b =>
    split at h
    · rename_i b' hs; rw [← h.out]; exact toB_den hs d.a.d
    · exact h.elim
  case ptr id off =>
    split at h
    · split at h
      · rename_i hg
        simp only [Bool.and_eq_true] at hg
        obtain ⟨l, hm, rfl⟩ := d
        exact ⟨l, place _ _ _ hg.1 hm, by rw [Nat.eq_of_beq_eq_true hg.2]⟩
      · exact h.elim
    · exact h.elim
  case pti id esz i j =>
    split at h
    · split at h
      · rename_i hg
        simp only [Bool.and_eq_true] at hg
        obtain ⟨l, hm, rfl⟩ := d
        exact ⟨l, place _ _ _ hg.1.1 hm, by rw [Nat.eq_of_beq_eq_true hg.1.2, Nat.eq_of_beq_eq_true hg.2, h.out]⟩
      · exact h.elim
    · exact h.elim
  case nils =>
    split at h
    · exact d
    · exact h.elim
  case sl id esz off len =>
    split at h
    · split at h
      · rename_i hg
        simp only [Bool.and_eq_true] at hg
        obtain ⟨l, ad, c, hm, hv, k1, k2, k3⟩ := d
        obtain ⟨rfl, rfl⟩ := h.out
        exact ⟨l, ad, c, place _ _ _ hg.1 hm, hv, k1, k2, by rw [Nat.eq_of_beq_eq_true hg.2]; exact k3⟩
      · exact h.elim
    · exact h.elim
  case osl b id esz len =>
    split at h
    · split at h
      · rename_i hg
        simp only [Bool.and_eq_true] at hg
        obtain ⟨rfl, rfl⟩ := h.out
        refine ⟨d.1, fun hb => ?_⟩
        obtain ⟨l, ad, c, hm, hv⟩ := d.2 hb
        exact ⟨l, ad, c, place _ _ _ hg.1 hm, hv⟩
      · exact h.elim
    · split at h
      · rename_i hg
        simp only [Bool.and_eq_true] at hg
        obtain ⟨rfl, rfl, rfl⟩ := h.out
        obtain ⟨l, ad, c, hm, hv, k1, k2, k3⟩ := d
        exact ⟨fun h => (by cases h), fun _ => ⟨l, ad, c, place _ _ _ hg.1 hm, hv, by omega, k2, fun hc => by rw [k3 hc]; simp⟩⟩
      · exact h.elim
    · obtain ⟨rfl, rfl⟩ := h.out
      exact ⟨fun _ => ⟨d, rfl⟩, fun h => (by cases h)⟩
    · exact h.elim
  case any => trivial
  case cst u =>
    split at h
    · obtain rfl := h.out; exact d
    · exact h.elim
theorem RVL.den {r : List Nat} {m : Map} : ∀ {l l' : List SV} {vs : List Value}, RVL r l l' → All2 (DenS m) l' vs → All2 (DenS (m.ren r)) l vs
  | [], l', vs, h, d => by
    rw [RVL_nil] at h
    cases l' with
    | nil => cases vs with
      | nil => trivial
      | cons => exact d.elim
    | cons => exact h.elim
  | s :: l, l', vs, h, d => by
    rw [RVL_cons] at h
    cases l' with
    | nil => exact h.elim
    | cons s' t' =>
      cases vs with
      | nil => exact d.elim
      | cons v vs =>
        have h2 : (s = .any ∨ RVS r s s') ∧ RVL r l t' := by
          cases s <;> first | exact ⟨Or.inl rfl, h⟩ | exact ⟨Or.inr h.1, h.2⟩
        refine ⟨?_, RVL.den h2.2 d.2⟩
        rcases h2.1 with rfl | h3
        · trivial
        · exact h3.den d.1
theorem RVS.s {r : List Nat} {s s' : SV} (h : RVS r s s') (hs : s ≠ .any) : ∀ cs, s' ≠ .agg cs ∧ s' ≠ .tup cs := by
  intro cs
  constructor <;> (intro e; subst e; cases s <;> first | exact hs rfl | exact h | (simp only [RVS] at h))
theorem RV.den {r : List Nat} {m : Map} {s s' : SV} {v : Value} (h : RV r s s') (d : Den m s' v) : Den (m.ren r) s v := by
  have key : ∀ s, s ≠ .any → RVS r s s' → Den (m.ren r) s v := fun s hs h => by
    have hne := h.s hs
    have d' : DenS m s' v := by
      rw [Den_eq (fun cs => (hne cs).2), DenA_eq (fun cs => (hne cs).1)] at d
      exact d
    exact (h.den d').a.d
  cases s with
  | agg as =>
    simp only [RV] at h
    split at h
    · obtain ⟨vs, rfl, hd⟩ := d
      exact ⟨vs, rfl, RVL.den h hd⟩
    · exact h.elim
  | any => trivial
  | _ => exact key _ (by intro e; cases e) h
theorem RTL.den {r : List Nat} {m : Map} : ∀ {l l' : List SV}, RTL r l l' → l.length = l'.length ∧ ∀ t v, Den m (getL l' t) v → Den (m.ren r) (getL l t) v
  | [], l', h => by
    rw [RTL_nil] at h
    cases l' with
    | nil => exact ⟨rfl, fun t v _ => trivial⟩
    | cons => exact h.elim
  | s :: l, l', h => by
    rw [RTL_cons] at h
    cases l' with
    | nil => exact h.elim
    | cons s' t' =>
      have h2 : (s = .any ∨ RV r s s') ∧ RTL r l t' := by
        cases s <;> first | exact ⟨Or.inl rfl, h⟩ | exact ⟨Or.inr h.1, h.2⟩
      obtain ⟨g1, g2⟩ := RTL.den (m := m) h2.2
      refine ⟨by simp [g1], fun t v d => ?_⟩
      cases t with
      | zero =>
        rcases h2.1 with rfl | h3
        · trivial
        · exact h3.den d
      | succ t => exact g2 t v d
theorem RB.hold {r : List Nat} {m : Map} {b b' : Blk} {i j : Nat} {w : World} (hr : r[i]? = some j) (h : RB r b b') (d : BlkH m j w b') : BlkH (m.ren r) i w b ∧ (b.own = true → b'.own = true) ∧ (b.live = true → b'.live = true) := by
  have place : ∀ l, m j = some l → (m.ren r) i = some l := fun l h2 => by simp only [Map.ren, hr]; exact h2
  cases b <;> simp only [RB] at h
  case dead => exact ⟨trivial, fun hx => (by cases hx), fun hx => (by cases hx)⟩
  case cells as =>
    split at h
    · obtain ⟨l, vs, ty, hm, ho, hw, hd⟩ := d
      exact ⟨⟨l, vs, ty, place l hm, ho, hw, RVL.den h hd⟩, fun _ => rfl, fun _ => rfl⟩
    · exact h.elim
  case arr ow ok esz xs =>
    split at h
    · rename_i ow' ok' esz' xs'
      split at h
      · rename_i hg
        simp only [Bool.and_eq_true] at hg
        obtain ⟨rfl, rfl⟩ := h.out
        have he := Nat.eq_of_beq_eq_true hg.2
        subst he
        have how : ow = true → ow' = true := fun e => by subst e; simpa using hg.1
        refine ⟨fun hok => ?_, fun ho => ?_, fun hl => hl⟩
        · obtain ⟨l, vs, ty, fr, hm, hw, hd, hown⟩ := d hok
          exact ⟨l, vs, ty, fr, place l hm, hw, hd, fun e => hown (how e)⟩
        · simp only [Blk.own, Bool.and_eq_true] at ho ⊢
          exact ⟨how ho.1, ho.2⟩
      · exact h.elim
    · have := h.out
      subst this
      exact ⟨fun h => (by cases h), fun h => by simp [Blk.own] at h, fun h => by simp [Blk.live] at h⟩
    · exact h.elim
theorem RBL.hold {r0 : List Nat} {l' : List Blk} : ∀ {l : List Blk} {r : List Nat}, RBL r0 r l' l → l.length = r.length ∧ (∀ (i j : Nat), r[i]? = some j → RB r0 (getB l i) (getB l' j)) ∧ (∀ (i i' j : Nat), r[i]? = some j → r[i']? = some j → i = i')
  | [], r, h => by
    rw [RBL_nil] at h
    cases r with
    | nil => simp
    | cons => exact h.elim
  | b :: l, r, h => by
    rw [RBL_cons] at h
    cases r with
    | nil => exact h.elim
    | cons j r =>
      simp only at h
      split at h
      · exact h.elim
      · rename_i hmem
        rw [memN_eq] at hmem
        have hmem' : j ∉ r := by simpa using hmem
        obtain ⟨g1, g2, g3⟩ := RBL.hold h.2
        refine ⟨by simp [g1], fun i k hi => ?_, fun i i' k h1 h2 => ?_⟩
        · cases i with
          | zero => simp at hi; subst hi; exact h.1
          | succ i => exact g2 i k (by simpa using hi)
        · cases i with
          | zero =>
            simp at h1; subst h1
            cases i' with
            | zero => rfl
            | succ i' => exact absurd (List.mem_of_getElem? (by simpa using h2)) hmem'
          | succ i =>
            cases i' with
            | zero =>
              simp at h2; subst h2
              exact absurd (List.mem_of_getElem? (by simpa using h1)) hmem'
            | succ i' => rw [g3 i i' k (by simpa using h1) (by simpa using h2)]

/-- A state that tells less holds, too. -/
theorem Holds.less {B : Nat} {bad : Nat → Prop} {w0 : World} {m : Map} {t t' : List SV} {h h' : List Blk} {r : List Nat} {a : Act} {w : World} (H : Holds B bad w0 m ⟨t', h'⟩ a w) (ht : RTL r t t') (hb : RBL r r h' h) :
    Holds B bad w0 (m.ren r) ⟨t, h⟩ a w ∧ Dom (m.ren r) h.length := by
  obtain ⟨g1, g2⟩ := RTL.den (m := m) ht
  obtain ⟨b1, b2, b3⟩ := RBL.hold hb
  have get : ∀ i p, (m.ren r) i = some p → ∃ j, r[i]? = some j ∧ m j = some p := fun i p e => by
    simp only [Map.ren] at e
    split at e
    · rename_i j hj; exact ⟨j, hj, e⟩
    · cases e
  have rb : ∀ i j, r[i]? = some j → BlkH (m.ren r) i w (getB h i) ∧ ((getB h i).own = true → (getB h' j).own = true) ∧ ((getB h i).live = true → (getB h' j).live = true) := fun i j hij => (b2 i j hij).hold hij (H.blk j)
  refine ⟨⟨H.defers, by simp only; rw [g1]; exact H.size, fun s => g2 s _ (H.tmp s), fun i => ?_, fun i j p q hij h1 h2 h3 h4 => ?_, fun i p h1 h3 => ?_, H.below, H.base⟩, fun i hi => ?_⟩
  · by_cases hi : i < r.length
    · exact (rb i r[i] (by simp [hi])).1
    · simp only
      rw [getB_ge _ _ (by omega)]
      trivial
  · obtain ⟨x, hx, hx2⟩ := get i p h3
    obtain ⟨y, hy, hy2⟩ := get j q h4
    exact H.apart x y p q (fun e => hij (b3 i j x hx (e ▸ hy))) ((rb i x hx).2.1 h1) ((rb j y hy).2.2 h2) hx2 hy2
  · obtain ⟨x, hx, hx2⟩ := get i p h3
    exact H.own x p ((rb i x hx).2.1 h1) hx2
  · cases e : (m.ren r) i with
    | none => exact absurd e hi
    | some p =>
      obtain ⟨x, hx, _⟩ := get i p e
      have := (List.getElem?_eq_some_iff.1 hx).1
      omega

/-- At the end of a round: the relation again, at another x, with less to go. -/
structure Again {X : Type} (I : X → List SV × List Blk) (p : X → Prop) (μ : X → Nat) (n : Nat) (t' : List SV) (h' : List Blk) : Prop where
  out : ∃ x r, p x ∧ μ x < n ∧ RTL r (I x).1 t' ∧ RBL r r h' (I x).2

/-- A LOOP, by a relation. -/
theorem goes_inv (hT : T.Ok P) (hC : Cons.Ok P C) (hm : P.follows .mixedOrders = true) {c : Code} (hpl : plansOK pl c = true) {t : List SV} {h : List Blk} {K : KE} {X : Type} (I : X → List SV × List Blk) (p : X → Prop) (μ : X → Nat)
    (x0 : X) (r0 : List Nat) (h0 : p x0) (ht : RTL r0 (I x0).1 t) (hb : RBL r0 r0 h (I x0).2)
    (round : ∀ x, p x → EV P T C pl c (I x).1 (I x).2 (nextK (Again I p μ (μ x)) K)) : Goes P (.loop c) t h K := by
  refine ⟨fun B bad w0 m a w hd H => ?_⟩
  obtain ⟨h1, h2⟩ := H.less ht hb
  refine wp_loop_ghost (fun n a w => ∃ x m, μ x = n ∧ p x ∧ Dom m (I x).2.length ∧ Holds B bad w0 m ⟨(I x).1, (I x).2⟩ a w) (μ x0) ⟨x0, _, rfl, h0, h2, h1⟩ ?_
  rintro n a w ⟨x, m, rfl, hp, hd, H⟩
  refine wp_mono ((EV_sound hT hC hm c _ _ _ hpl (round x hp)).out B bad w0 m a w hd H) fun e a' w' hq => ?_
  obtain ⟨st', m', g2, g3, g4⟩ := hq
  cases e with
  | normal =>
    obtain ⟨x', r', k1, k2, k3, k4⟩ := (show Again I p μ (μ x) st'.tmps st'.heap from g4).out
    obtain ⟨j1, j2⟩ := g3.less k3 k4
    exact ⟨μ x', k2, x', _, rfl, k1, j2, j1⟩
  | _ => exact ⟨st', m', g2, g3, g4⟩
end
end Go.Proofs.Ytapbegcmdiemoaa.Ev
