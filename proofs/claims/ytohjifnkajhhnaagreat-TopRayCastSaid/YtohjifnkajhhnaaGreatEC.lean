/- The reckoning: loops. The reckoning, laid to a function that reads slices of rows: contracts. The reckoning, laid to a function that reads slices of rows and makes new ones: contracts. The reckoning, laid to a function that uses up a slice: its first argument. The reckoning, laid to a function that works on a store, and may use up a slice; to one that writes a slice in place; to a law. The reckoning, laid to a function that writes a slice of the caller's in place. A region in which two operations may stand in either order, with different effects: one run for each of the two. The reckoning, laid to a law that works on a store of its own. The reckoning, cut between two statements: contracts and laws whose runs are told in parts. -/
import Derived.Test.YtohjifnkajhhnaaGreatEF
import Derived.Deep.LoopGhost
namespace Go.Proofs.YtohjifnkajhhnaaGreat.Ev
open Go.RowKit
set_option linter.unusedVariables false
set_option linter.unusedSimpArgs false

/-- A loop of at most n rounds. -/
structure Rounds (P : Program) (c : Code) (n : Nat) (t : List SV) (h : List Blk) (K : KE) : Prop where
  out : ∀ B bad w0 m a w, Dom m h.length → Holds B bad w0 m ⟨t, h⟩ a w → Code.rounds P c (Post B bad w0 K) n a w

theorem goes_rounds {P : Program} {c : Code} {t : List SV} {h : List Blk} {K : KE} (n : Nat) (k : Rounds P c n t h K) : Goes P (.loop c) t h K :=
  ⟨fun B bad w0 m a w hd H => wp_loop_rounds n (k.out B bad w0 m a w hd H)⟩

def nextK (R : List SV → List Blk → Prop) (K : KE) (e : Exit) (t : List SV) (h : List Blk) : Prop :=
  match e with
  | .normal => R t h
  | e => K e t h

section
variable {P : Program} {T : Tab} {C : List Con} {pl : Plans}

theorem rounds_one (hT : T.Ok P) (hC : Cons.Ok P C) (hm : P.follows .mixedOrders = true) {c : Code} (hpl : plansOK pl c = true) {n : Nat} {t : List SV} {h : List Blk} {K : KE}
    (k : EV P T C pl c t h (nextK (fun t' h' => Rounds P c n t' h' K) K)) : Rounds P c (n + 1) t h K := by
  refine ⟨fun B bad w0 m a w hd H => ?_⟩
  rw [rounds_succ]
  refine wp_mono ((EV_sound hT hC hm c t h _ hpl k).out B bad w0 m a w hd H) fun e a' w' hq => ?_
  obtain ⟨st', m', h2, h3, h4⟩ := hq
  cases e with
  | normal => exact (show Rounds P c n st'.tmps st'.heap K from h4).out B bad w0 m' a' w' h2 h3
  | _ => exact ⟨st', m', h2, h3, h4⟩

/- One state tells less than another: block number i of the one is block number r[i] of the other. -/
def idR (r : List Nat) (i j : Nat) : Bool := match r with
  | [] => false
  | h :: t => match i with
    | 0 => Nat.beq h j
    | i + 1 => idR t i j
def RVS (r : List Nat) (s s' : SV) : Prop :=
  match s with
  | .any => True
  | .ptr id off => match s' with
    | .ptr id' off' => match idR r id id' && Nat.beq off off' with
      | true => True
      | false => False
    | _ => False
  | .pti id esz i j => match s' with
    | .pti id' esz' i' j' => match idR r id id' && Nat.beq esz esz' && Nat.beq j j' with
      | true => Leaf (i' = i)
      | false => False
    | _ => False
  | .nils => match s' with
    | .nils => True
    | _ => False
  | .sl id esz off len => match s' with
    | .sl id' esz' off' len' => match idR r id id' && Nat.beq esz esz' with
      | true => Leaf (off' = off ∧ len' = len)
      | false => False
    | _ => False
  | .osl b id esz len => match s' with
    | .osl b' id' esz' len' => match idR r id id' && Nat.beq esz esz' with
      | true => Leaf (b' = b ∧ len' = len)
      | false => False
    | .sl id' esz' off' len' => match idR r id id' && Nat.beq esz esz' with
      | true => Leaf (b = false ∧ off' = 0 ∧ len' = len)
      | false => False
    | .nils => Leaf (b = true ∧ len = 0)
    | _ => False
  | .lit k n => match toN s' with
    | some (k', n', _) => match decide (k = k') with
      | true => Leaf (n' = n)
      | false => False
    | none => False
  | .int k n => match toN s' with
    | some (k', n', _) => match decide (k = k') with
      | true => Leaf (n' = n)
      | false => False
    | none => False
  | .blit b => match toB s' with
    | some b' => Leaf (b' = b)
    | none => False
  | .bool b => match toB s' with
    | some b' => Leaf (b' = b)
    | none => False
  | .cst u => match s' with
    | .cst u' => Leaf (u' = u)
    | _ => False
  | .np a k p o => match s' with
    | .np a' k' p' o' => match idR r a a' && Nat.beq k k' && Nat.beq o o' with
      | true => Leaf (p' = p)
      | false => False
    | .cst u => match u with
      | .pointer b => match b with
        | none => match o with
          | 0 => Leaf (p = 0)
          | _ => False
        | some _ => False
      | _ => False
    | _ => False
  | .here a => match s' with
    | .here a' => match idR r a a' with
      | true => True
      | false => False
    | _ => False
  | .mv a p => match s' with
    | .mv a' p' => match idR r a a' with
      | true => Leaf (p' = p)
      | false => False
    | _ => False
  | .bm a => match s' with
    | .bm a' => match idR r a a' with
      | true => True
      | false => False
    | _ => False
  | .ds n c D => match s' with
    | .ds n' c' D' => Leaf (n' = n ∧ c' = c ∧ D' = D)
    | _ => False
  | .dp c D i j => match s' with
    | .dp c' D' i' j' => match Nat.beq j j' with
      | true => Leaf (c' = c ∧ D' = D ∧ i' = i)
      | false => False
    | _ => False
  | _ => False
noncomputable def RVL (r : List Nat) (l : List SV) : List SV → Prop :=
  List.rec (motive := fun _ => List SV → Prop) (fun l' => match l' with
    | [] => True
    | _ => False) (fun s _ ih l' => match l' with
    | [] => False
    | s' :: t' => match s with
      | .any => ih t'
      | s => RVS r s s' ∧ ih t') l
noncomputable def RV (r : List Nat) (s s' : SV) : Prop :=
  match s with
  | .agg as => match s' with
    | .agg bs => RVL r as bs
    | _ => False
  | .clo f as => match s' with
    | .clo g bs => match Nat.beq f g with
      | true => RVL r as bs
      | false => False
    | _ => False
  | s => RVS r s s'
noncomputable def RTL (r : List Nat) (l : List SV) : List SV → Prop :=
  List.rec (motive := fun _ => List SV → Prop) (fun l' => match l' with
    | [] => True
    | _ => False) (fun s _ ih l' => match l' with
    | [] => False
    | s' :: t' => match s with
      | .any => ih t'
      | s => RV r s s' ∧ ih t') l
noncomputable def RB (r : List Nat) (b b' : Blk) : Prop :=
  match b with
  | .dead => True
  | .cells as => match b' with
    | .cells bs => RVL r as bs
    | _ => False
  | .arr ow ok esz xs => match b' with
    | .arr ow' ok' esz' xs' => match (!ow || ow') && Nat.beq esz esz' with
      | true => Leaf (ok' = ok ∧ xs' = xs)
      | false => False
    | .dead => Leaf (ok = false)
    | _ => False
  | .arrk ks xs => match b' with
    | .arrk ks' xs' => Leaf (ks' = ks) ∧ Leaf (xs' = xs)
    | _ => False
  | .mapb es => match b' with
    | .mapb es' => Leaf (es' = es)
    | _ => False
  | .store H => match b' with
    | .store H' => match H with
      | ⟨nd, tr, mp⟩ => match H' with
        | ⟨nd', tr', mp'⟩ => Leaf (nd' = nd ∧ tr' = tr ∧ mp' = mp)
    | _ => False
/-- The blocks: the i-th of the one is number r[i] of the other; no number twice. -/
noncomputable def RBL (r0 : List Nat) (r : List Nat) (l' : List Blk) (l : List Blk) : Prop :=
  List.rec (motive := fun _ => List Nat → Prop) (fun r => match r with
    | [] => True
    | _ => False) (fun b _ ih r => match r with
    | [] => False
    | j :: r => match memN j r with
      | true => False
      | false => RB r0 b (getB l' j) ∧ ih r) l r

theorem RVL_nil (r : List Nat) (l' : List SV) : RVL r [] l' = (match l' with | [] => True | _ => False) := rfl
theorem RVL_cons (r : List Nat) (s : SV) (l l' : List SV) : RVL r (s :: l) l' = (match l' with | [] => False | s' :: t' => match s with | .any => RVL r l t' | s => RVS r s s' ∧ RVL r l t') := rfl
theorem RTL_nil (r : List Nat) (l' : List SV) : RTL r [] l' = (match l' with | [] => True | _ => False) := rfl
theorem RBL_nil (r0 : List Nat) (l' : List Blk) (r : List Nat) : RBL r0 r l' [] = (match r with | [] => True | _ => False) := rfl
theorem RTL_cons (r : List Nat) (s : SV) (l l' : List SV) : RTL r (s :: l) l' = (match l' with | [] => False | s' :: t' => match s with | .any => RTL r l t' | s => RV r s s' ∧ RTL r l t') := rfl
theorem RBL_cons (r0 : List Nat) (b : Blk) (l : List Blk) (l' : List Blk) (r : List Nat) : RBL r0 r l' (b :: l) = (match r with | [] => False | j :: r => match memN j r with | true => False | false => RB r0 b (getB l' j) ∧ RBL r0 r l' l) := rfl

/-- The map of the state that tells less. -/
def Map.ren (m : Map) (r : List Nat) : Map := m.with fun i => match r[i]? with
  | some j => m j
  | none => none
theorem idR_eq : ∀ {r : List Nat} {i j : Nat}, idR r i j = true → r[i]? = some j
  | [], i, j, h => by simp [idR] at h
  | h :: t, 0, j, hh => by simp only [idR] at hh; rw [Nat.eq_of_beq_eq_true hh]; rfl
  | h :: t, i + 1, j, hh => by simp only [idR] at hh; simpa using idR_eq hh

theorem All2.swap2 {α β : Type} {R S : α → β → Prop} : ∀ {as as' : List α} {bs : List β}, All2 (fun a a' => ∀ v, R a v → S a' v) as as' → All2 R as bs → All2 S as' bs
  | [], [], [], _, _ => trivial
  | a :: as, a' :: as', b :: bs, ⟨h1, h2⟩, ⟨k1, k2⟩ => ⟨h1 _ k1, All2.swap2 h2 k2⟩
  | [], [], _ :: _, _, h => h.elim
  | _ :: _, _ :: _, [], _, h => h.elim
  | [], _ :: _, _, h, _ => h.elim
  | _ :: _, [], _, h, _ => h.elim
theorem nd_m {m m' : Map} {s : Nat} {x : Nd} {l : List Value} (hg : m'.g = m.g) (h : All2 (DenS m) (ndCells s x) l) : All2 (DenS m') (ndCells s x) l := by
  have np : ∀ a b c d v, DenS m (.np a b c d) v → DenS m' (.np a b c d) v := fun a b c d v h => by show NpV m'.g b c d v; rw [hg]; exact h
  exact All2.swap2 (R := DenS m) (as := ndCells s x) ⟨fun _ h => h, fun _ h => h, fun _ h => h, fun _ h => h, np _ _ _ _, np _ _ _ _, np _ _ _ _, fun _ h => h, fun _ h => h, trivial⟩ h
theorem tr_m {m m' : Map} {s : Nat} {x : Nat × Nat} {l : List Value} (hg : m'.g = m.g) (h : All2 (DenS m) (trCells s x) l) : All2 (DenS m') (trCells s x) l := by
  have np : ∀ a b c d v, DenS m (.np a b c d) v → DenS m' (.np a b c d) v := fun a b c d v h => by show NpV m'.g b c d v; rw [hg]; exact h
  have mv : ∀ a b v, DenS m (.mv a b) v → DenS m' (.mv a b) v := fun a b v h => by show MpV m'.g b v; rw [hg]; exact h
  exact All2.swap2 (R := DenS m) (as := trCells s x) ⟨np _ _ _ _, mv _ _, trivial⟩ h
/-- A store, under another map of the same objects. -/
theorem StoreH.remap {m m' : Map} {w : World} {H : Hp} (hg : m'.g = m.g) (d : StoreH m w H) : StoreH m' w H := by
  refine ⟨fun i x hx => ?_, fun i x hx => ?_, fun i x hx => ?_, fun k i b hb => d.dom k i b (by rw [← hg]; exact hb)⟩
  · obtain ⟨b, vs, ty, e1, e2, e3⟩ := d.nd i x hx
    exact ⟨b, vs, ty, by rw [hg]; exact e1, e2, nd_m hg e3⟩
  · obtain ⟨b, vs, ty, e1, e2, e3⟩ := d.tr i x hx
    exact ⟨b, vs, ty, by rw [hg]; exact e1, e2, tr_m hg e3⟩
  · obtain ⟨b, ents, cl, e1, e2, e3⟩ := d.mp i x hx
    exact ⟨b, ents, cl, by rw [hg]; exact e1, e2, by rw [hg]; exact e3⟩
theorem RVS.den {r : List Nat} {m : Map} {s s' : SV} {v : Value} (h : RVS r s s') (d : DenS m s' v) : DenS (m.ren r) s v := by
  have place : ∀ id id' l, idR r id id' = true → m id' = some l → (m.ren r) id = some l := fun id id' l h1 h2 => by
    simp only [Map.ren, Map.with, idR_eq h1]; exact h2
  cases s <;> simp only [RVS] at h
  case lit k n =>
    split at h
    · rename_i k' n' u hs
      split at h
      · rename_i hk; rw [of_decide_eq_true hk, ← h.out]; exact toN_den hs d.a.d
      · exact h.elim
    · exact h.elim
  case int k n =>
    split at h
    · rename_i k' n' u hs
      split at h
      · rename_i hk; rw [of_decide_eq_true hk, ← h.out]; exact toN_den hs d.a.d
      · exact h.elim
    · exact h.elim
  case blit b =>
    split at h
    · rename_i b' hs; rw [← h.out]; exact toB_den hs d.a.d
    · exact h.elim
  case bool b =>
    split at h
    · rename_i b' hs; rw [← h.out]; exact toB_den hs d.a.d
    · exact h.elim
  case ptr id off =>
    split at h
    · split at h
      · rename_i hg
        simp only [Bool.and_eq_true] at hg
        obtain ⟨l, hm, rfl⟩ := d
        exact ⟨l, place _ _ _ hg.1 hm, by rw [Nat.eq_of_beq_eq_true hg.2]⟩
      · exact h.elim
    · exact h.elim
  case pti id esz i j =>
    split at h
    · split at h
      · rename_i hg
        simp only [Bool.and_eq_true] at hg
        obtain ⟨l, hm, rfl⟩ := d
        exact ⟨l, place _ _ _ hg.1.1 hm, by rw [Nat.eq_of_beq_eq_true hg.1.2, Nat.eq_of_beq_eq_true hg.2, h.out]⟩
      · exact h.elim
    · exact h.elim
  case nils =>
    split at h
    · exact d
    · exact h.elim
  case sl id esz off len =>
    split at h
    · split at h
      · rename_i hg
        simp only [Bool.and_eq_true] at hg
        obtain ⟨l, ad, c, hm, hv, k1, k2, k3⟩ := d
        obtain ⟨rfl, rfl⟩ := h.out
        exact ⟨l, ad, c, place _ _ _ hg.1 hm, hv, k1, k2, by rw [Nat.eq_of_beq_eq_true hg.2]; exact k3⟩
      · exact h.elim
    · exact h.elim
  case np a k q o =>
    split at h
    · split at h
      · rename_i hg
        simp only [Bool.and_eq_true] at hg
        obtain rfl := h.out
        rw [Nat.eq_of_beq_eq_true hg.1.2, Nat.eq_of_beq_eq_true hg.2]
        exact d
      · exact h.elim
    · split at h
      · split at h
        · split at h
          · obtain rfl := h.out; exact ⟨fun _ => d, fun i e => by omega⟩
          · exact h.elim
        · exact h.elim
      · exact h.elim
    · exact h.elim
  case here a =>
    split at h
    · split at h
      · rename_i hg
        obtain ⟨l, e1, e2⟩ := d
        exact ⟨l, place _ _ _ hg e1, e2⟩
      · exact h.elim
    · exact h.elim
  case mv a q =>
    split at h
    · split at h
      · obtain rfl := h.out; exact d
      · exact h.elim
    · exact h.elim
  case bm a =>
    split at h
    · split at h
      · rename_i hg
        obtain ⟨l, e1, e2⟩ := d
        exact ⟨l, place _ _ _ hg e1, e2⟩
      · exact h.elim
    · exact h.elim
  case ds n c D =>
    split at h
    · obtain ⟨rfl, rfl, rfl⟩ := h.out; exact d
    · exact h.elim
  case dp c D i j =>
    split at h
    · split at h
      · rename_i hj
        obtain rfl := Nat.eq_of_beq_eq_true hj
        obtain ⟨rfl, rfl, rfl⟩ := h.out; exact d
      · exact h.elim
    · exact h.elim
  case osl b id esz len =>
    split at h
    · split at h
      · rename_i hg
        simp only [Bool.and_eq_true] at hg
        obtain ⟨rfl, rfl⟩ := h.out
        refine ⟨d.1, fun hb => ?_⟩
        obtain ⟨l, ad, c, hm, hv⟩ := d.2 hb
        exact ⟨l, ad, c, place _ _ _ hg.1 hm, hv⟩
      · exact h.elim
    · split at h
      · rename_i hg
        simp only [Bool.and_eq_true] at hg
        obtain ⟨rfl, rfl, rfl⟩ := h.out
        obtain ⟨l, ad, c, hm, hv, k1, k2, k3⟩ := d
        exact ⟨fun h => (by cases h), fun _ => ⟨l, ad, c, place _ _ _ hg.1 hm, hv, by omega, k2, fun hc => by rw [k3 hc]; simp⟩⟩
      · exact h.elim
    · obtain ⟨rfl, rfl⟩ := h.out
      exact ⟨fun _ => ⟨d, rfl⟩, fun h => (by cases h)⟩
    · exact h.elim
  case any => trivial
  case cst u =>
    split at h
    · obtain rfl := h.out; exact d
    · exact h.elim
theorem RVL.den {r : List Nat} {m : Map} : ∀ {l l' : List SV} {vs : List Value}, RVL r l l' → All2 (DenS m) l' vs → All2 (DenS (m.ren r)) l vs
  | [], l', vs, h, d => by
    rw [RVL_nil] at h
    cases l' with
    | nil => cases vs with
      | nil => trivial
      | cons => exact d.elim
    | cons => exact h.elim
  | s :: l, l', vs, h, d => by
    rw [RVL_cons] at h
    cases l' with
    | nil => exact h.elim
    | cons s' t' =>
      cases vs with
      | nil => exact d.elim
      | cons v vs =>
        have h2 : (s = .any ∨ RVS r s s') ∧ RVL r l t' := by
          cases s <;> first | exact ⟨Or.inl rfl, h⟩ | exact ⟨Or.inr h.1, h.2⟩
        refine ⟨?_, RVL.den h2.2 d.2⟩
        rcases h2.1 with rfl | h3
        · trivial
        · exact h3.den d.1
theorem RVS.s {r : List Nat} {s s' : SV} (h : RVS r s s') (hs : s ≠ .any) : (∀ cs, s' ≠ .agg cs ∧ s' ≠ .tup cs) ∧ ∀ f cs, s' ≠ .clo f cs := by
  refine ⟨fun cs => ⟨?_, ?_⟩, fun f cs => ?_⟩ <;> (intro e; subst e; cases s <;> first | exact hs rfl | exact h | (simp only [RVS] at h))
theorem RV.den {r : List Nat} {m : Map} {s s' : SV} {v : Value} (h : RV r s s') (d : Den m s' v) : Den (m.ren r) s v := by
  have key : ∀ s, s ≠ .any → RVS r s s' → Den (m.ren r) s v := fun s hs h => by
    have hne := h.s hs
    have d' : DenS m s' v := by
      rw [Den_eq (fun cs => (hne.1 cs).2), DenA_eq (fun cs => (hne.1 cs).1) hne.2] at d
      exact d
    exact (h.den d').a.d
  cases s with
  | agg as =>
    simp only [RV] at h
    split at h
    · obtain ⟨vs, rfl, hd⟩ := d
      exact ⟨vs, rfl, RVL.den h hd⟩
    · exact h.elim
  | clo f as =>
    simp only [RV] at h
    split at h
    · split at h
      · rename_i he
        obtain rfl := Nat.eq_of_beq_eq_true he
        obtain ⟨vs, rfl, hd⟩ := d
        exact ⟨vs, rfl, RVL.den h hd⟩
      · exact h.elim
    · exact h.elim
  | any => trivial
  | _ => exact key _ (by intro e; cases e) h
theorem RTL.den {r : List Nat} {m : Map} : ∀ {l l' : List SV}, RTL r l l' → l.length = l'.length ∧ ∀ t v, Den m (getL l' t) v → Den (m.ren r) (getL l t) v
  | [], l', h => by
    rw [RTL_nil] at h
    cases l' with
    | nil => exact ⟨rfl, fun t v _ => trivial⟩
    | cons => exact h.elim
  | s :: l, l', h => by
    rw [RTL_cons] at h
    cases l' with
    | nil => exact h.elim
    | cons s' t' =>
      have h2 : (s = .any ∨ RV r s s') ∧ RTL r l t' := by
        cases s <;> first | exact ⟨Or.inl rfl, h⟩ | exact ⟨Or.inr h.1, h.2⟩
      obtain ⟨g1, g2⟩ := RTL.den (m := m) h2.2
      refine ⟨by simp [g1], fun t v d => ?_⟩
      cases t with
      | zero =>
        rcases h2.1 with rfl | h3
        · trivial
        · exact h3.den d
      | succ t => exact g2 t v d
theorem RB.hold {r : List Nat} {m : Map} {b b' : Blk} {i j : Nat} {w : World} (hr : r[i]? = some j) (h : RB r b b') (d : BlkH m j w b') : BlkH (m.ren r) i w b ∧ (b.own = true → b'.own = true) ∧ (b.live = true → b'.live = true) := by
  have place : ∀ l, m j = some l → (m.ren r) i = some l := fun l h2 => by simp only [Map.ren, Map.with, hr]; exact h2
  cases b <;> simp only [RB] at h
  case dead => exact ⟨trivial, fun hx => (by cases hx), fun hx => (by cases hx)⟩
  case cells as =>
    split at h
    · obtain ⟨l, vs, ty, hm, ho, hw, hd⟩ := d
      exact ⟨⟨l, vs, ty, place l hm, ho, hw, RVL.den h hd⟩, fun _ => rfl, fun _ => rfl⟩
    · exact h.elim
  case arr ow ok esz xs =>
    split at h
    · rename_i ow' ok' esz' xs'
      split at h
      · rename_i hg
        simp only [Bool.and_eq_true] at hg
        obtain ⟨rfl, rfl⟩ := h.out
        have he := Nat.eq_of_beq_eq_true hg.2
        subst he
        have how : ow = true → ow' = true := fun e => by subst e; simpa using hg.1
        refine ⟨fun hok => ?_, fun ho => ?_, fun hl => hl⟩
        · obtain ⟨l, vs, ty, fr, hm, hw, hd, hown⟩ := d hok
          exact ⟨l, vs, ty, fr, place l hm, hw, hd, fun e => hown (how e)⟩
        · simp only [Blk.own, Bool.and_eq_true] at ho ⊢
          exact ⟨how ho.1, ho.2⟩
      · exact h.elim
    · have := h.out
      subst this
      exact ⟨fun h => (by cases h), fun h => by simp [Blk.own] at h, fun h => by simp [Blk.live] at h⟩
    · exact h.elim
  case arrk ks xs =>
    split at h
    · obtain ⟨h1, h2⟩ := h
      obtain rfl := h1.out
      obtain rfl := h2.out
      obtain ⟨l, vs, ty, fr, hm, hw, hd⟩ := d
      exact ⟨⟨l, vs, ty, fr, place l hm, hw, hd⟩, fun hx => (by cases hx), fun _ => rfl⟩
    · exact h.elim
  case mapb es =>
    split at h
    · obtain rfl := h.out
      obtain ⟨l, ents, ck, hm, hw, hd⟩ := d
      exact ⟨⟨l, ents, ck, place l hm, hw, hd⟩, fun _ => rfl, fun _ => rfl⟩
    · exact h.elim
  case store H =>
    split at h
    · rename_i H'
      obtain ⟨nd, tr, mp⟩ := H
      obtain ⟨nd', tr', mp'⟩ := H'
      obtain ⟨rfl, rfl, rfl⟩ := h.out
      refine ⟨⟨fun e => ?_, ?_⟩, fun hx => (by cases hx), fun hx => (by cases hx)⟩
      · have : (m.ren r) i = m j := by simp only [Map.ren, Map.with, hr]
        rw [this] at e; exact d.1 e
      · exact StoreH.remap (m := m) (m' := m.ren r) rfl d.2
    · exact h.elim
theorem RB.sto {r : List Nat} {b b' : Blk} {H : Hp} (h : RB r b b') (e : b = .store H) : ∃ H', b' = .store H' := by
  subst e
  simp only [RB] at h
  split at h
  · exact ⟨_, rfl⟩
  · exact h.elim
theorem RBL.hold {r0 : List Nat} {l' : List Blk} : ∀ {l : List Blk} {r : List Nat}, RBL r0 r l' l → l.length = r.length ∧ (∀ (i j : Nat), r[i]? = some j → RB r0 (getB l i) (getB l' j)) ∧ (∀ (i i' j : Nat), r[i]? = some j → r[i']? = some j → i = i')
  | [], r, h => by
    rw [RBL_nil] at h
    cases r with
    | nil => simp
    | cons => exact h.elim
  | b :: l, r, h => by
    rw [RBL_cons] at h
    cases r with
    | nil => exact h.elim
    | cons j r =>
      simp only at h
      split at h
      · exact h.elim
      · rename_i hmem
        rw [memN_eq] at hmem
        have hmem' : j ∉ r := by simpa using hmem
        obtain ⟨g1, g2, g3⟩ := RBL.hold h.2
        refine ⟨by simp [g1], fun i k hi => ?_, fun i i' k h1 h2 => ?_⟩
        · cases i with
          | zero => simp at hi; subst hi; exact h.1
          | succ i => exact g2 i k (by simpa using hi)
        · cases i with
          | zero =>
            simp at h1; subst h1
            cases i' with
            | zero => rfl
            | succ i' => exact absurd (List.mem_of_getElem? (by simpa using h2)) hmem'
          | succ i =>
            cases i' with
            | zero =>
              simp at h2; subst h2
              exact absurd (List.mem_of_getElem? (by simpa using h1)) hmem'
            | succ i' => rw [g3 i i' k (by simpa using h1) (by simpa using h2)]

/-- A state that tells less holds, too. -/
theorem Holds.less {B : Nat} {bad : Bad} {w0 : World} {m : Map} {t t' : List SV} {h h' : List Blk} {r : List Nat} {a : Act} {w : World} (H : Holds B bad w0 m ⟨t', h'⟩ a w) (ht : RTL r t t') (hb : RBL r r h' h) :
    Holds B bad w0 (m.ren r) ⟨t, h⟩ a w ∧ Dom (m.ren r) h.length := by
  obtain ⟨g1, g2⟩ := RTL.den (m := m) ht
  obtain ⟨b1, b2, b3⟩ := RBL.hold hb
  have get : ∀ i p, (m.ren r) i = some p → ∃ j, r[i]? = some j ∧ m j = some p := fun i p e => by
    simp only [Map.ren, Map.with] at e
    split at e
    · rename_i j hj; exact ⟨j, hj, e⟩
    · cases e
  have rb : ∀ i j, r[i]? = some j → BlkH (m.ren r) i w (getB h i) ∧ ((getB h i).own = true → (getB h' j).own = true) ∧ ((getB h i).live = true → (getB h' j).live = true) := fun i j hij => (b2 i j hij).hold hij (H.blk j)
  refine ⟨⟨H.defers, by simp only; rw [g1]; exact H.size, fun s => g2 s _ (H.tmp s), fun i => ?_, fun i j p q hij h1 h2 h3 h4 => ?_, fun i p h1 h3 => ?_, H.below, H.base, ⟨fun j p k i b h1 h2 h3 => ?_, H.gok.own, fun s s' H1 H2 h1 h2 => ?_, H.gok.ext, H.gok.q⟩⟩, fun i hi => ?_⟩
  · by_cases hi : i < r.length
    · exact (rb i r[i] (by simp [hi])).1
    · simp only
      rw [getB_ge _ _ (by omega)]
      trivial
  · obtain ⟨x, hx, hx2⟩ := get i p h3
    obtain ⟨y, hy, hy2⟩ := get j q h4
    exact H.apart x y p q (fun e => hij (b3 i j x hx (e ▸ hy))) ((rb i x hx).2.1 h1) ((rb j y hy).2.2 h2) hx2 hy2
  · obtain ⟨x, hx, hx2⟩ := get i p h3
    exact H.own x p ((rb i x hx).2.1 h1) hx2
  · obtain ⟨x, hx, hx2⟩ := get j p h2
    exact H.gok.apart x p k i b ((rb j x hx).2.2 h1) hx2 h3
  · have idx : ∀ i X, getB h i = .store X → ∃ j, r[i]? = some j ∧ ∃ Y, getB h' j = .store Y := fun i X e => by
      have hlt : i < r.length := by
        rw [← b1]
        apply Nat.lt_of_not_le
        intro hge
        rw [getB_ge _ _ hge] at e; cases e
      obtain ⟨Y, hY⟩ := (b2 i r[i] (by simp [hlt])).sto e
      exact ⟨r[i], by simp [hlt], Y, hY⟩
    obtain ⟨j1, e1, Y1, f1⟩ := idx s H1 h1
    obtain ⟨j2, e2, Y2, f2⟩ := idx s' H2 h2
    have := H.gok.one j1 j2 Y1 Y2 f1 f2
    subst this
    exact b3 s s' j1 e1 e2
  · cases e : (m.ren r) i with
    | none => exact absurd e hi
    | some p =>
      obtain ⟨x, hx, _⟩ := get i p e
      have := (List.getElem?_eq_some_iff.1 hx).1
      omega

/-- At the end of a round: the relation again, at another x, with less to go. -/
structure Again {X : Type} (I : X → List SV × List Blk) (p : X → Prop) (μ : X → Nat) (n : Nat) (t' : List SV) (h' : List Blk) : Prop where
  out : ∃ x r, p x ∧ μ x < n ∧ RTL r (I x).1 t' ∧ RBL r r h' (I x).2

/-- A LOOP, by a relation. -/
theorem goes_inv (hT : T.Ok P) (hC : Cons.Ok P C) (hm : P.follows .mixedOrders = true) {c : Code} (hpl : plansOK pl c = true) {t : List SV} {h : List Blk} {K : KE} {X : Type} (I : X → List SV × List Blk) (p : X → Prop) (μ : X → Nat)
    (x0 : X) (r0 : List Nat) (h0 : p x0) (ht : RTL r0 (I x0).1 t) (hb : RBL r0 r0 h (I x0).2)
    (round : ∀ x, p x → EV P T C pl c (I x).1 (I x).2 (nextK (Again I p μ (μ x)) K)) : Goes P (.loop c) t h K := by
  refine ⟨fun B bad w0 m a w hd H => ?_⟩
  obtain ⟨h1, h2⟩ := H.less ht hb
  refine wp_loop_ghost (fun n a w => ∃ x m, μ x = n ∧ p x ∧ Dom m (I x).2.length ∧ Holds B bad w0 m ⟨(I x).1, (I x).2⟩ a w) (μ x0) ⟨x0, _, rfl, h0, h2, h1⟩ ?_
  rintro n a w ⟨x, m, rfl, hp, hd, H⟩
  refine wp_mono ((EV_sound hT hC hm c _ _ _ hpl (round x hp)).out B bad w0 m a w hd H) fun e a' w' hq => ?_
  obtain ⟨st', m', g2, g3, g4⟩ := hq
  cases e with
  | normal =>
    obtain ⟨x', r', k1, k2, k3, k4⟩ := (show Again I p μ (μ x) st'.tmps st'.heap from g4).out
    obtain ⟨j1, j2⟩ := g3.less k3 k4
    exact ⟨μ x', k2, x', _, rfl, k1, j2, j1⟩
  | _ => exact ⟨st', m', g2, g3, g4⟩
end
end Go.Proofs.YtohjifnkajhhnaaGreat.Ev

namespace Go.Proofs.YtohjifnkajhhnaaGreat.Ev
open Go.RowKit
set_option linter.unusedVariables false
set_option linter.unusedSimpArgs false

/-- The shape of an argument: an int (num 0), a struct or an array of n ints (num n), a slice of elements of esz ints each. -/
inductive Sh where
  | num (n : Nat)
  | u8
  | rows (esz : Nat)
  | mix (n : Nat)

def totR : List Sh → Nat
  | [] => 0
  | x :: r => match x with
    | .num n => (match n with | 0 => 1 | k + 1 => k + 1) + totR r
    | .u8 => 1 + totR r
    | .rows _ => totR r
    | .mix n => n + 1 + totR r
def nRows : List Sh → Nat
  | [] => 0
  | x :: r => match x with
    | .num n => nRows r
    | .u8 => nRows r
    | .rows _ => nRows r + 1
    | .mix _ => nRows r

def toU : SV → Option Int
  | .lit .u8 n => some n
  | .int .u8 n => some n
  | _ => none
theorem toU_den {m : Map} {s : SV} {v : Value} {n : Int} (h : toU s = some n) (hd : Den m s v) : v = .int .u8 n := by
  cases s with
  | lit k n => cases k <;> simp only [toU] at h <;> first | (cases h; exact hd) | cases h
  | int k n => cases k <;> simp only [toU] at h <;> first | (cases h; exact hd) | cases h
  | _ => simp [toU] at h
theorem toU_denS {m : Map} {s : SV} {v : Value} {n : Int} (h : toU s = some n) (hd : DenS m s v) : v = .int .u8 n := by
  cases s with
  | lit k n => cases k <;> simp only [toU] at h <;> first | (cases h; exact hd) | cases h
  | int k n => cases k <;> simp only [toU] at h <;> first | (cases h; exact hd) | cases h
  | _ => simp [toU] at h
/-- A struct of a uint8 and n ints. -/
def toMix (n : Nat) (s : SV) (li : List Int) : Option (List Int) :=
  match s with
  | .agg cs => match cs with
    | [] => none
    | c :: cs => match toU c with
      | none => none
      | some y => match lenIs cs n with
        | false => none
        | true => match toIs cs with
          | none => none
          | some xs => match appI xs li with
            | some z => some (y :: z)
            | none => none
  | _ => none
/-- The rows that an argument shows, and what must hold of it. -/
def rowsOf (rd : Nat → Blk) (s : SV) (esz : Nat) : Option (List (List Int) × List Prop) :=
  match s with
  | .nils => some ([], [])
  | .sl id e off len => match rd id with
    | .arr _ ok e' xs => match Nat.beq e esz && Nat.beq e' esz with
      | true => some ((xs.drop off).take len, [ok = true ∧ off + len ≤ xs.length])
      | false => none
    | _ => none
  | .osl b id e len => match rd id with
    | .arr _ ok e' xs => match Nat.beq e esz && Nat.beq e' esz with
      | true => some (xs.take len, [(b = true ∨ ok = true) ∧ len ≤ xs.length])
      | false => none
    | _ => none
  | .ds nil cols D => match colsI cols esz with
    | true => some (D.rows esz, [])
    | false => none
  | _ => none
def appP : List Prop → List Prop → List Prop
  | [], l => l
  | x :: r, l => x :: appP r l
def flatR (rd : Nat → Blk) : List Sh → List SV → Option (List Int × List (List (List Int)) × List Prop)
  | [], l => match l with
    | [] => some ([], [], [])
    | _ => none
  | x :: sh, l => match l with
    | [] => none
    | s :: r => match flatR rd sh r with
      | none => none
      | some (li, lr, lp) => match x with
        | .num n => match n with
          | 0 => match toI s with
            | some y => some (y :: li, lr, lp)
            | none => none
          | k + 1 => match s with
            | .agg cs => match lenIs cs (k + 1) with
              | true => match toIs cs with
                | some xs => match appI xs li with
                  | some z => some (z, lr, lp)
                  | none => none
                | none => none
              | false => none
            | _ => none
        | .u8 => match toU s with
          | some y => some (y :: li, lr, lp)
          | none => none
        | .rows esz => match rowsOf rd s esz with
          | some (xs, ps) => some (li, xs :: lr, appP ps lp)
          | none => none
        | .mix n => match toMix n s li with
          | some z => some (z, lr, lp)
          | none => none

def mkArgsR : List Sh → Nat → List Int → List (Bool × List (List Int)) → Option (List SV)
  | [], _, l, R => match l with
    | [] => match R with
      | [] => some []
      | _ => none
    | _ => none
  | x :: sh, k, l, R => match x with
    | .num n => match n with
      | 0 => match l with
        | y :: l => match mkArgsR sh k l R with
          | some r => some (.int .i64 y :: r)
          | none => none
        | [] => none
      | j + 1 => match takeI l (j + 1) with
        | some (a, b) => match mkArgsR sh k b R with
          | some r => some (.agg a :: r)
          | none => none
        | none => none
    | .u8 => match l with
      | y :: l => match mkArgsR sh k l R with
        | some r => some (.int .u8 y :: r)
        | none => none
      | [] => none
    | .rows esz => match R with
      | (b, xs) :: R => match mkArgsR sh (k + 1) l R with
        | some r => match b with
          | true => some (.nils :: r)
          | false => some (.sl k esz 0 xs.length :: r)
        | none => none
      | [] => none
    | .mix n => match l with
      | y :: l => match takeI l n with
        | some (a, b) => match mkArgsR sh k b R with
          | some r => some (.agg (.int .u8 y :: a) :: r)
          | none => none
        | none => none
      | [] => none
def mkBlks : List Sh → List (Bool × List (List Int)) → List Blk
  | [], _ => []
  | x :: sh, R => match x with
    | .num _ => mkBlks sh R
    | .u8 => mkBlks sh R
    | .rows esz => match R with
      | (b, xs) :: R => .arr false (!b) esz xs :: mkBlks sh R
      | [] => []
    | .mix _ => mkBlks sh R

def nilsOK (R : List (Bool × List (List Int))) : Prop := ∀ x ∈ R, x.1 = true → x.2 = []

def EVR (P : Program) (T : Tab) (C : List Con) (pl : Plans) (rs : List ResultVar) (n : Nat) (code : Code) (sh : List Sh) (l : List Int) (R : List (Bool × List (List Int))) (spec : SV) : Prop :=
  match mkArgsR sh 0 l R with
  | some ss => match padO ss n with
    | some ts => EV P T C pl code ts (mkBlks sh R) (Fin T rs spec)
    | none => False
  | none => False

def rowRun (sh : List Sh) (pre : List Int → List (List (List Int)) → List Prop) (g : List Int → List (List (List Int)) → SV) (nid : Nat) (args : List SV) (rd : Nat → Blk) : Option CRes :=
  match flatR rd sh args with
  | some (l, R, ps) => some ⟨appP ps (pre l R), g l R, [], [], [], false⟩
  | none => none

theorem appP_mem : ∀ {a b : List Prop} {p : Prop}, p ∈ appP a b ↔ p ∈ a ∨ p ∈ b
  | [], b, p => by simp [appP]
  | x :: a, b, p => by simp [appP, appP_mem (a := a), or_assoc]

def rowArg (b : Bool) (k esz : Nat) (xs : List (List Int)) : SV := match b with | true => .nils | false => .sl k esz 0 xs.length
/-- A slice of rows of ints that are only read, as the call sees it. -/
theorem ds_rows {sn : Nat → Option Obj} {w : World} {D : DT} {cols : List Col} {nil : Bool} {v : Value} {esz : Nat} (hc : colsI cols esz = true) (hd : DsV sn nil cols D v) (hsn : ∀ b o, sn b = some o → w.heap[b]? = some o) :
    ∃ q : Option Place, (nil = true → D.rows esz = []) ∧ ∀ (m' : Map) (k : Nat), m' k = q → Den m' (rowArg nil k esz (D.rows esz)) v ∧ BlkH m' k w (.arr false (!nil) esz (D.rows esz)) := by
  obtain ⟨hl, hk⟩ := colsI_eq hc
  cases nil with
  | true =>
    obtain ⟨rfl, h0⟩ := hd.1 rfl
    exact ⟨none, fun _ => by simp [DT.rows, h0], fun m' k _ => ⟨rfl, fun h => (by cases h)⟩⟩
  | false =>
    obtain ⟨hA, ad, c, rfl, hle, had⟩ := hd.2 rfl
    obtain ⟨vs, ty, fr, h1, h2⟩ := hA.cell
    refine ⟨some ⟨D.pb, D.po, c⟩, fun h => (by cases h), fun m' k hm => ⟨⟨_, ad, c, hm, by rw [D.rows_length], by simp, by rw [D.rows_length]; exact hle, fun h => by rw [had h]; simp⟩, fun _ => ⟨_, vs, ty, fr, hm, hsn _ _ h1, fun i j hi hj => ?_, fun h => (by cases h)⟩⟩⟩
    rw [D.rows_length] at hi
    obtain ⟨u, hu, hv⟩ := h2 i j _ hi (hk j hj)
    rw [D.rows_at hi hj, ← hl, hu]
    exact congrArg some hv
/-- One slice, as the call sees it. -/
theorem rowsOf_mk {m : Map} {w : World} {rd : Nat → Blk} {s : SV} {esz : Nat} {xs : List (List Int)} {ps : List Prop} {v : Value} (h : rowsOf rd s esz = some (xs, ps)) (hp : ∀ p ∈ ps, p) (hd : Den m s v) (hB : (∀ id, BlkH m id w (rd id)) ∧ ∀ b o, m.q.sn b = some o → w.heap[b]? = some o) :
    ∃ (b : Bool) (q : Option Place), (b = true → xs = []) ∧ ∀ (m' : Map) (k : Nat), m' k = q → Den m' (rowArg b k esz xs) v ∧ BlkH m' k w (.arr false (!b) esz xs) := by
  unfold rowsOf at h
  split at h
  · cases h
    exact ⟨true, none, fun _ => rfl, fun m' k hk => ⟨hd, fun h => (by cases h)⟩⟩
  · rename_i id e off len
    split at h
    rotate_left
    · cases h
    rename_i ow ok e' zs hrd
    split at h
    rotate_left
    · cases h
    rename_i he
    simp only [Bool.and_eq_true] at he
    have h1 := Nat.eq_of_beq_eq_true he.1
    have h2 := Nat.eq_of_beq_eq_true he.2
    subst h1; subst h2
    cases h
    obtain ⟨rfl, hlen⟩ := hp _ (List.mem_singleton.2 rfl)
    have hb := hB.1 id
    rw [hrd] at hb
    obtain ⟨l', vs, ty, fr, hm', hw, hc, _⟩ := hb rfl
    obtain ⟨l, ad, c, hm, rfl, k1, k2, k3⟩ := hd
    rw [hm] at hm'
    cases hm'
    have hl : ((zs.drop off).take len).length = len := by simp; omega
    refine ⟨false, some ⟨l'.b, l'.o + off * e', c⟩, fun h => (by cases h), fun m' k hk => ⟨⟨_, ad, c, hk, by rw [hl], by simp, by rw [hl]; exact k2, fun hc => by rw [k3 hc]; simp⟩, fun _ => ⟨_, vs, ty, fr, hk, hw, fun i j hi hj => ?_, fun h => (by cases h)⟩⟩⟩
    rw [hl] at hi
    have := hc (off + i) j (by omega) hj
    have e1 : at2 ((zs.drop off).take len) i j = at2 zs (off + i) j := by
      simp only [at2, List.getD_eq_getElem?_getD]
      rw [List.getElem?_take_of_lt hi, List.getElem?_drop]
    rw [e1, ← this]
    congr 1
    rw [Nat.add_mul]; simp only; omega
  · rename_i b id e len
    split at h
    rotate_left
    · cases h
    rename_i ow ok e' zs hrd
    split at h
    rotate_left
    · cases h
    rename_i he
    simp only [Bool.and_eq_true] at he
    have h1 := Nat.eq_of_beq_eq_true he.1
    have h2 := Nat.eq_of_beq_eq_true he.2
    subst h1; subst h2
    cases h
    obtain ⟨hbo, hlen⟩ := hp _ (List.mem_singleton.2 rfl)
    cases b with
    | true =>
      obtain ⟨rfl, rfl⟩ := hd.1 rfl
      exact ⟨true, none, fun _ => by simp, fun m' k hk => ⟨rfl, fun h => (by cases h)⟩⟩
    | false =>
      have hok : ok = true := by simpa using hbo
      subst hok
      have hb := hB.1 id
      rw [hrd] at hb
      obtain ⟨l', vs, ty, fr, hm', hw, hc, _⟩ := hb rfl
      obtain ⟨l, ad, c, hm, rfl, k1, k2, k3⟩ := hd.2 rfl
      rw [hm] at hm'
      cases hm'
      have hl : (zs.take len).length = len := by simp; omega
      refine ⟨false, some ⟨l'.b, l'.o, c⟩, fun h => (by cases h), fun m' k hk => ⟨⟨_, ad, c, hk, by rw [hl], by simp, by rw [hl]; exact k2, fun hc => by rw [k3 hc]; simp⟩, fun _ => ⟨_, vs, ty, fr, hk, hw, fun i j hi hj => ?_, fun h => (by cases h)⟩⟩⟩
      rw [hl] at hi
      have := hc i j (by omega) hj
      have e1 : at2 (zs.take len) i j = at2 zs i j := by
        simp only [at2, List.getD_eq_getElem?_getD]
        rw [List.getElem?_take_of_lt hi]
      rw [e1, ← this]
  · rename_i nil cols D
    split at h
    rotate_left
    · cases h
    rename_i hc
    cases h
    obtain ⟨q, q1, q2⟩ := ds_rows hc hd hB.2
    exact ⟨nil, q, q1, q2⟩
  · cases h

/-- All arguments, as the call sees them. -/
theorem toMix_eq {n : Nat} {s : SV} {li z : List Int} (h : toMix n s li = some z) : ∃ (y : Int) (xs : List Int), z = y :: (xs ++ li) ∧ xs.length = n ∧ ∀ {m m' : Map} {v : Value}, Den m s v → Den m' (.agg (.int .u8 y :: xs.map (SV.int .i64))) v := by
  unfold toMix at h
  split at h
  rotate_left
  · cases h
  split at h
  · cases h
  rename_i c cs
  split at h
  · cases h
  rename_i y hy
  split at h
  · cases h
  rename_i hlen
  split at h
  · cases h
  rename_i xs hxs
  split at h
  rotate_left
  · cases h
  rename_i z' hz
  cases h
  obtain rfl := appI_eq hz
  refine ⟨y, xs, rfl, by rw [toIs_length hxs, lenIs_eq hlen], fun {m m' v} hd => ?_⟩
  obtain ⟨us, rfl, hu⟩ := hd
  refine ⟨us, rfl, ?_⟩
  cases hus : us.toList with
  | nil => rw [hus] at hu; exact hu.elim
  | cons u ur =>
    rw [hus] at hu
    exact ⟨toU_denS hy hu.1, ints_den (toIs_den hxs hu.2)⟩
theorem flatR_mk {m : Map} {w : World} {rd : Nat → Blk} (hB : (∀ id, BlkH m id w (rd id)) ∧ ∀ b o, m.q.sn b = some o → w.heap[b]? = some o) : ∀ {sh : List Sh} {args : List SV} {l : List Int} {Rs : List (List (List Int))} {ps : List Prop} {vs : List Value}, flatR rd sh args = some (l, Rs, ps) → (∀ p ∈ ps, p) → All2 (Den m) args vs →
    l.length = totR sh ∧ Rs.length = nRows sh ∧ ∃ (R : List (Bool × List (List Int))) (Q : List (Option Place)), R.map (·.2) = Rs ∧ nilsOK R ∧ Q.length = R.length ∧ (mkBlks sh R).length = R.length ∧
      ∀ (k : Nat), ∃ ss, mkArgsR sh k l R = some ss ∧ ∀ m' : Map, (∀ i q, Q[i]? = some q → m' (k + i) = q) → All2 (Den m') ss vs ∧ ∀ i, BlkH m' (k + i) w (getB (mkBlks sh R) i)
  | [], args, l, Rs, ps, vs, h, hp, hd => by
    simp only [flatR] at h
    split at h
    · cases h
      cases vs with
      | cons => exact hd.elim
      | nil => exact ⟨rfl, rfl, [], [], rfl, fun x hx => (by cases hx), rfl, rfl, fun k => ⟨[], rfl, fun m' _ => ⟨trivial, fun i => trivial⟩⟩⟩
    · cases h
  | x :: sh, args, l, Rs, ps, vs, h, hp, hd => by
    simp only [flatR] at h
    split at h
    · cases h
    rename_i s r
    cases vs with
    | nil => exact hd.elim
    | cons v vs =>
    obtain ⟨d1, d2⟩ := hd
    split at h
    · cases h
    rename_i li lr lp hfl
    split at h
    · rename_i n
      split at h
      · split at h
        rotate_left
        · cases h
        rename_i y hy
        cases h
        obtain ⟨g1, g2, R, Q, g3, g4, g5, g6, g7⟩ := flatR_mk hB hfl hp d2
        refine ⟨by simp [totR, g1]; omega, g2, R, Q, g3, g4, g5, g6, fun k => ?_⟩
        obtain ⟨ss, j1, j2⟩ := g7 k
        refine ⟨.int .i64 y :: ss, by simp only [mkArgsR, j1], fun m' hm' => ?_⟩
        obtain ⟨q1, q2⟩ := j2 m' hm'
        exact ⟨⟨toI_den hy d1, q1⟩, q2⟩
      · rename_i j
        split at h
        rotate_left
        · cases h
        rename_i cs
        split at h
        rotate_left
        · cases h
        rename_i hlen
        split at h
        rotate_left
        · cases h
        rename_i xs hxs
        split at h
        rotate_left
        · cases h
        rename_i z hz
        cases h
        obtain rfl := appI_eq hz
        have hxl : xs.length = j + 1 := by rw [toIs_length hxs, lenIs_eq hlen]
        obtain ⟨g1, g2, R, Q, g3, g4, g5, g6, g7⟩ := flatR_mk hB hfl hp d2
        refine ⟨by simp [totR, g1, hxl], g2, R, Q, g3, g4, g5, g6, fun k => ?_⟩
        obtain ⟨ss, j1, j2⟩ := g7 k
        have ht := takeI_app xs li
        rw [hxl] at ht
        refine ⟨.agg (xs.map (SV.int .i64)) :: ss, by simp only [mkArgsR, ht, j1], fun m' hm' => ?_⟩
        obtain ⟨q1, q2⟩ := j2 m' hm'
        obtain ⟨us, rfl, hu⟩ := d1
        exact ⟨⟨⟨us, rfl, ints_den (toIs_den hxs hu)⟩, q1⟩, q2⟩
    · split at h
      rotate_left
      · cases h
      rename_i y hy
      cases h
      obtain ⟨g1, g2, R, Q, g3, g4, g5, g6, g7⟩ := flatR_mk hB hfl hp d2
      refine ⟨by simp [totR, g1]; omega, g2, R, Q, g3, g4, g5, g6, fun k => ?_⟩
      obtain ⟨ss, j1, j2⟩ := g7 k
      refine ⟨.int .u8 y :: ss, by simp only [mkArgsR, j1], fun m' hm' => ?_⟩
      obtain ⟨q1, q2⟩ := j2 m' hm'
      exact ⟨⟨toU_den hy d1, q1⟩, q2⟩
    · rename_i esz
      split at h
      rotate_left
      · cases h
      rename_i xs ps' hxs
      cases h
      obtain ⟨g1, g2, R, Q, g3, g4, g5, g6, g7⟩ := flatR_mk hB hfl (fun p hq => hp p (appP_mem.2 (Or.inr hq))) d2
      obtain ⟨b, q, f1, f2⟩ := rowsOf_mk hxs (fun p hq => hp p (appP_mem.2 (Or.inl hq))) d1 hB
      refine ⟨by simp [totR, g1], by simp [nRows, g2], (b, xs) :: R, q :: Q, by simp [g3], fun x hx => ?_, by simp [g5], by simp [mkBlks, g6], fun k => ?_⟩
      · rcases List.mem_cons.1 hx with rfl | hx
        · exact f1
        · exact g4 x hx
      obtain ⟨ss, j1, j2⟩ := g7 (k + 1)
      refine ⟨rowArg b k esz xs :: ss, by simp only [mkArgsR, j1]; cases b <;> rfl, fun m' hm' => ?_⟩
      obtain ⟨q1, q2⟩ := j2 m' (fun i q hi => by rw [show k + 1 + i = k + (i + 1) by omega]; exact hm' (i + 1) q (by simpa using hi))
      obtain ⟨e1, e2⟩ := f2 m' k (hm' 0 q rfl)
      refine ⟨⟨e1, q1⟩, fun i => ?_⟩
      cases i with
      | zero => exact e2
      | succ i =>
        have := q2 i
        rw [show k + 1 + i = k + (i + 1) by omega] at this
        exact this
    · rename_i n
      split at h
      rotate_left
      · cases h
      rename_i z hz
      cases h
      obtain ⟨y, xs, rfl, hxl, hden⟩ := toMix_eq hz
      obtain ⟨g1, g2, R, Q, g3, g4, g5, g6, g7⟩ := flatR_mk hB hfl hp d2
      refine ⟨by simp [totR, g1, hxl]; omega, g2, R, Q, g3, g4, g5, g6, fun k => ?_⟩
      obtain ⟨ss, j1, j2⟩ := g7 k
      have ht := takeI_app xs li
      rw [hxl] at ht
      refine ⟨.agg (.int .u8 y :: xs.map (SV.int .i64)) :: ss, by simp only [mkArgsR, ht, j1], fun m' hm' => ?_⟩
      obtain ⟨q1, q2⟩ := j2 m' hm'
      exact ⟨⟨hden d1, q1⟩, q2⟩

theorem mkBlks_own : ∀ {sh : List Sh} {R : List (Bool × List (List Int))} {i : Nat}, (getB (mkBlks sh R) i).own = false
  | [], R, i => rfl
  | .num _ :: sh, R, i => mkBlks_own (sh := sh)
  | .u8 :: sh, R, i => mkBlks_own (sh := sh)
  | .mix _ :: sh, R, i => mkBlks_own (sh := sh)
  | .rows esz :: sh, [], i => rfl
  | .rows esz :: sh, (b, xs) :: R, 0 => rfl
  | .rows esz :: sh, (b, xs) :: R, i + 1 => mkBlks_own (sh := sh) (R := R) (i := i)

theorem mkBlks_nosto : ∀ {sh : List Sh} {R : List (Bool × List (List Int))} {i : Nat} {H : Hp}, getB (mkBlks sh R) i ≠ .store H
  | [], R, i, H => fun h => by cases h
  | .num _ :: sh, R, i, H => mkBlks_nosto (sh := sh)
  | .u8 :: sh, R, i, H => mkBlks_nosto (sh := sh)
  | .mix _ :: sh, R, i, H => mkBlks_nosto (sh := sh)
  | .rows esz :: sh, [], i, H => fun h => by cases h
  | .rows esz :: sh, (b, xs) :: R, 0, H => fun h => by cases h
  | .rows esz :: sh, (b, xs) :: R, i + 1, H => mkBlks_nosto (sh := sh) (R := R) (i := i)
/-- As a call begins. -/
theorem holds_start' {m : Map} {w : World} {ss ts : List SV} {vs : List Value} {n : Nat} {h : List Blk} (hp : padO ss n = some ts) (hd : All2 (Den m) ss vs) (hb : ∀ i, BlkH m i w (getB h i)) (ho : ∀ i, (getB h i).own = false) (hns : ∀ i H, getB h i ≠ .store H) (hg : ∀ k i, m.g k i = none := by intro k i; rfl) (hq : m.q = Q.no := by rfl) :
    Holds w.heap.size Bad.no w m ⟨ts, h⟩ { tmps := vs.toArray ++ Array.replicate (n - vs.toArray.size) undef, defers := [] } w := by
  have h0 := holds_start (bad := Bad.no) (Nat.le_refl w.heap.size) hp hd hg (fun _ _ => rfl) hq
  exact ⟨h0.defers, h0.size, h0.tmp, hb, fun i j p q _ h1 => (by rw [ho] at h1; cases h1), fun i p h1 => (by rw [ho] at h1; cases h1), h0.below, h0.base, ⟨fun j p k i b _ _ h1 => (by rw [hg] at h1; cases h1), h0.gok.own, fun s s' H H' h1 => absurd h1 (hns s H), h0.gok.ext, hq⟩⟩

/-- A CONTRACT of a function of ints, structs of ints and slices of those that only reads. -/
theorem con_rows {P : Program} {T : Tab} {C : List Con} {pl : Plans} {f : FuncId} {fn : Func} {code : Code} (hf : P.funcs[f]? = some fn) (hb : fn.body = some code) (hn : (fn.name == "runtime.NumGoroutine") = false)
    (hT : T.Ok P) (hC : Cons.Ok P C) (hm : P.follows .mixedOrders = true) (hpl : plansOK pl code = true) (sh : List Sh) (pre : List Int → List (List (List Int)) → List Prop) (g : List Int → List (List (List Int)) → SV)
    (h : ∀ l R, l.length = totR sh → R.length = nRows sh → nilsOK R → (∀ p ∈ pre l (R.map (·.2)), p) → EVR P T C pl fn.results.toList fn.ntmps code sh l R (g l (R.map (·.2)))) : Con.Ok P ⟨f, rowRun sh pre g⟩ := by
  refine ⟨⟨fn, hf, by rw [hb]; rfl, hn⟩, fun nid args rd r hr hp m w vs hd hB hap hfr hup hga hgb hone => ?_, fun nid args rd r hr hro => by
    replace hr : rowRun _ _ _ nid args rd = some r := hr
    unfold rowRun at hr
    repeat' split at hr
    all_goals first | (cases hr; done) | (injection hr with hr; rw [← hr] at hro; exact absurd hro Bool.false_ne_true)⟩
  simp only [rowRun] at hr
  split at hr
  rotate_left
  · cases hr
  rename_i l Rs ps hl
  cases hr
  obtain ⟨h1, h2, R, Q, g3, g4, g5, g6, g7⟩ := flatR_mk ⟨hB, hone.snap⟩ hl (fun p hq => hp p (appP_mem.2 (Or.inl hq))) hd
  subst g3
  have hev := h l R h1 (by simpa using h2) g4 (fun p hq => hp p (appP_mem.2 (Or.inr hq)))
  obtain ⟨ss, j1, j2⟩ := g7 0
  unfold EVR at hev
  rw [j1] at hev
  simp only at hev
  split at hev
  rotate_left
  · exact hev.elim
  rename_i ts hts
  obtain ⟨q1, q2⟩ := j2 (Map.of fun i => (Q[i]?).join) (fun i q hi => by simp [Map.of, hi])
  have hs := (EV_sound hT hC hm code _ _ _ hpl hev).out w.heap.size Bad.no w (Map.of fun i => (Q[i]?).join) _ w (fun id hid => by
    rw [g6, ← g5]
    by_cases hlt : id < Q.length
    · exact hlt
    · exact absurd (by simp [Map.of, List.getElem?_eq_none (Nat.le_of_not_lt hlt)]) hid) (holds_start' hts q1 (fun i => by have := q2 i; rwa [Nat.zero_add] at this) (fun i => mkBlks_own) (fun i H => mkBlks_nosto))
  refine calls_of_wp hf hb (wp_mono hs fun e a' w' hq => ?_)
  obtain ⟨st', m', k2, k3, k4⟩ := hq
  have fin : FinR T fn.results.toList (g l (R.map (·.2))) st'.tmps st'.heap → a'.defers = [] ∧ ∃ v, (results fn a'.tmps).run P w' = .ok v w' ∧ CallPost rd m nid ⟨appP ps (pre l (R.map (·.2))), g l (R.map (·.2)), [], [], [], false⟩ w (.returned v) w' := fun hfin => by
    unfold FinR at hfin
    split at hfin
    rotate_left
    · exact hfin.elim
    rename_i r hr
    obtain ⟨v, g1, g2⟩ := resS_sound hT k3 hr (fun l' e => by
      subst e
      unfold Sim at hfin
      split at hfin
      · rename_i heq; cases heq
        split at hfin
        · exact SimM.part hfin
        · exact hfin.elim
      · rename_i hne; exact absurd rfl (hne l'))
    refine ⟨k3.defers, v, g1, v, m, rfl, fun _ _ => rfl, hfin.den g2, fun k b hk => by simp at hk, fun k b p hk => by simp at hk, fun k k' b b' p p' _ hk => by simp at hk, ?_, gpost_plain (rd := rd) (fun _ _ => rfl) rfl (fun k b p hk => by simp at hk) hga hgb (fun b h => by cases h)⟩
    exact k3.below.mono (Nat.le_refl _) (fun k _ hbad => hbad.elim)
  cases e with
  | ret => exact fin k4
  | normal => exact fin k4
  | _ => exact k4.elim
end Go.Proofs.YtohjifnkajhhnaaGreat.Ev

namespace Go.Proofs.YtohjifnkajhhnaaGreat.Ev
open Go.RowKit
set_option linter.unusedVariables false
set_option linter.unusedSimpArgs false

/-- A result: a number or numbers, or a new slice of rows (nil where b holds). -/
inductive RS where
  | val (s : SV)
  | rows (b : Bool) (esz : Nat) (xs : List (List Int))

def rsVals (n : Nat) : List RS → List SV
  | [] => []
  | x :: r => match x with
    | .val s => s :: rsVals n r
    | .rows b esz xs => .osl b n esz xs.length :: rsVals (n + 1) r
def rsBlks : List RS → List Blk
  | [] => []
  | x :: r => match x with
    | .val _ => rsBlks r
    | .rows b esz xs => .arr true (!b) esz xs :: rsBlks r
def rsVal (n : Nat) (l : List RS) : SV :=
  match l with
  | [] => .tup []
  | x :: r => match r with
    | [] => match x with
      | .val s => s
      | .rows b esz xs => .osl b n esz xs.length
    | _ => .tup (rsVals n l)

def RSim (h : List Blk) : List Nat → List RS → List SV → Prop
  | seen, [], vs => match vs with
    | [] => True
    | _ => False
  | seen, x :: r, vs => match vs with
    | [] => False
    | v :: vs => match x with
      | .val s => SimA v s ∧ RSim h seen r vs
      | .rows b esz xs => match v with
        | .nils => Leaf (b = true) ∧ Leaf (xs = []) ∧ RSim h seen r vs
        | .sl id e off len => match getB h id with
          | .arr true ok e' ys => match Nat.beq e esz && Nat.beq e' esz && !memN id seen with
            | true => Leaf (b = false) ∧ VC (ok = true) ∧ VC (off = 0) ∧ VC (len ≤ ys.length) ∧ Leaf (ys.take len = xs) ∧ RSim h (id :: seen) r vs
            | false => False
          | _ => False
        | .osl b' id e len => match getB h id with
          | .arr true ok e' ys => match Nat.beq e esz && Nat.beq e' esz && !memN id seen with
            | true => Leaf (b' = b) ∧ VC (b = false → ok = true) ∧ VC (len ≤ ys.length) ∧ Leaf (ys.take len = xs) ∧ RSim h (id :: seen) r vs
            | false => False
          | _ => False
        | _ => False

def RFin (T : Tab) (rs : List ResultVar) (spec : List RS) (t : List SV) (h : List Blk) : Prop :=
  match resS T ⟨t, h⟩ rs with
  | some r => match spec with
    | [] => False
    | x :: y => match y with
      | [] => RSim h [] [x] [r]
      | _ => match r with
        | .tup l => RSim h [] (x :: y) l
        | _ => False
  | none => False
def FinG (T : Tab) (rs : List ResultVar) (spec : List RS) (e : Exit) (t : List SV) (h : List Blk) : Prop :=
  match e with
  | .ret => RFin T rs spec t h
  | .normal => RFin T rs spec t h
  | _ => False

/-- The rows that an argument shows, whether it is nil, and what must hold of it. -/
def rowsOfG (rd : Nat → Blk) (s : SV) (esz : Nat) : Option ((Bool × List (List Int)) × List Prop) :=
  match s with
  | .nils => some ((true, []), [])
  | .sl id e off len => match rd id with
    | .arr _ ok e' xs => match Nat.beq e esz && Nat.beq e' esz with
      | true => some ((false, (xs.drop off).take len), [ok = true, off + len ≤ xs.length])
      | false => none
    | _ => none
  | .osl b id e len => match rd id with
    | .arr _ ok e' xs => match Nat.beq e esz && Nat.beq e' esz with
      | true => some ((b, xs.take len), [b = true ∨ ok = true, len ≤ xs.length])
      | false => none
    | _ => none
  | .ds nil cols D => match colsI cols esz with
    | true => some ((nil, D.rows esz), [])
    | false => none
  | _ => none
def flatG (rd : Nat → Blk) : List Sh → List SV → Option (List Int × List (Bool × List (List Int)) × List Prop)
  | [], l => match l with
    | [] => some ([], [], [])
    | _ => none
  | x :: sh, l => match l with
    | [] => none
    | s :: r => match flatG rd sh r with
      | none => none
      | some (li, lr, lp) => match x with
        | .num n => match n with
          | 0 => match toI s with
            | some y => some (y :: li, lr, lp)
            | none => none
          | k + 1 => match s with
            | .agg cs => match lenIs cs (k + 1) with
              | true => match toIs cs with
                | some xs => match appI xs li with
                  | some z => some (z, lr, lp)
                  | none => none
                | none => none
              | false => none
            | _ => none
        | .u8 => match toU s with
          | some y => some (y :: li, lr, lp)
          | none => none
        | .rows esz => match rowsOfG rd s esz with
          | some (xs, ps) => some (li, xs :: lr, appP ps lp)
          | none => none
        | .mix n => match toMix n s li with
          | some z => some (z, lr, lp)
          | none => none
def genRun (sh : List Sh) (pre : List Int → List (Bool × List (List Int)) → List Prop) (g : List Int → List (Bool × List (List Int)) → List RS) (nid : Nat) (args : List SV) (rd : Nat → Blk) : Option CRes :=
  match flatG rd sh args with
  | some (l, R, ps) => some ⟨appP ps (pre l R), rsVal nid (g l R), rsBlks (g l R), [], [], false⟩
  | none => none

def EVG (P : Program) (T : Tab) (C : List Con) (pl : Plans) (rs : List ResultVar) (n : Nat) (code : Code) (sh : List Sh) (l : List Int) (R : List (Bool × List (List Int))) (spec : List RS) : Prop :=
  match mkArgsR sh 0 l R with
  | some ss => match padO ss n with
    | some ts => EV P T C pl code ts (mkBlks sh R) (FinG T rs spec)
    | none => False
  | none => False

theorem rowsOfG_mk {m : Map} {w : World} {rd : Nat → Blk} {s : SV} {esz : Nat} {x : Bool × List (List Int)} {ps : List Prop} {v : Value} (h : rowsOfG rd s esz = some (x, ps)) (hp : ∀ p ∈ ps, p) (hd : Den m s v) (hB : (∀ id, BlkH m id w (rd id)) ∧ ∀ b o, m.q.sn b = some o → w.heap[b]? = some o) :
    ∃ (q : Option Place), (x.1 = true → x.2 = []) ∧ ∀ (m' : Map) (k : Nat), m' k = q → Den m' (rowArg x.1 k esz x.2) v ∧ BlkH m' k w (.arr false (!x.1) esz x.2) := by
  unfold rowsOfG at h
  split at h
  · cases h
    exact ⟨none, fun _ => rfl, fun m' k hk => ⟨hd, fun h => (by cases h)⟩⟩
  · rename_i id e off len
    split at h
    rotate_left
    · cases h
    rename_i ow ok e' zs hrd
    split at h
    rotate_left
    · cases h
    rename_i he
    simp only [Bool.and_eq_true] at he
    have h1 := Nat.eq_of_beq_eq_true he.1
    have h2 := Nat.eq_of_beq_eq_true he.2
    subst h1; subst h2
    cases h
    have hok : ok = true := hp _ (by simp)
    have hlen : off + len ≤ zs.length := hp _ (by simp)
    have hr : rowsOf rd (.sl id e' off len) e' = some ((zs.drop off).take len, [ok = true ∧ off + len ≤ zs.length]) := by simp only [rowsOf, hrd, Nat.beq_refl, Bool.and_true]
    have hb := hB.1 id
    rw [hrd] at hb
    obtain ⟨l', vs, ty, fr, hm', hw, hc, _⟩ := hb hok
    obtain ⟨l, ad, c, hm, rfl, k1, k2, k3⟩ := hd
    rw [hm] at hm'
    cases hm'
    have hl : ((zs.drop off).take len).length = len := by simp; omega
    refine ⟨some ⟨l'.b, l'.o + off * e', c⟩, fun h => (by cases h), fun m' k hk => ⟨⟨_, ad, c, hk, by rw [hl], by simp, by rw [hl]; exact k2, fun hc => by rw [k3 hc]; simp⟩, fun _ => ⟨_, vs, ty, fr, hk, hw, fun i j hi hj => ?_, fun h => (by cases h)⟩⟩⟩
    rw [hl] at hi
    have := hc (off + i) j (by omega) hj
    have e1 : at2 ((zs.drop off).take len) i j = at2 zs (off + i) j := by
      simp only [at2, List.getD_eq_getElem?_getD]
      rw [List.getElem?_take_of_lt hi, List.getElem?_drop]
    rw [e1, ← this]
    congr 1
    rw [Nat.add_mul]; simp only; omega
  · rename_i b id e len
    split at h
    rotate_left
    · cases h
    rename_i ow ok e' zs hrd
    split at h
    rotate_left
    · cases h
    rename_i he
    simp only [Bool.and_eq_true] at he
    have h1 := Nat.eq_of_beq_eq_true he.1
    have h2 := Nat.eq_of_beq_eq_true he.2
    subst h1; subst h2
    cases h
    have hbo : b = true ∨ ok = true := hp _ (by simp)
    have hlen : len ≤ zs.length := hp _ (by simp)
    cases b with
    | true =>
      obtain ⟨rfl, rfl⟩ := hd.1 rfl
      exact ⟨none, fun _ => by simp, fun m' k hk => ⟨rfl, fun h => (by cases h)⟩⟩
    | false =>
      have hok : ok = true := by simpa using hbo
      subst hok
      have hb := hB.1 id
      rw [hrd] at hb
      obtain ⟨l', vs, ty, fr, hm', hw, hc, _⟩ := hb rfl
      obtain ⟨l, ad, c, hm, rfl, k1, k2, k3⟩ := hd.2 rfl
      rw [hm] at hm'
      cases hm'
      have hl : (zs.take len).length = len := by simp; omega
      refine ⟨some ⟨l'.b, l'.o, c⟩, fun h => (by cases h), fun m' k hk => ⟨⟨_, ad, c, hk, by rw [hl], by simp, by rw [hl]; exact k2, fun hc => by rw [k3 hc]; simp⟩, fun _ => ⟨_, vs, ty, fr, hk, hw, fun i j hi hj => ?_, fun h => (by cases h)⟩⟩⟩
      rw [hl] at hi
      have := hc i j (by omega) hj
      have e1 : at2 (zs.take len) i j = at2 zs i j := by
        simp only [at2, List.getD_eq_getElem?_getD]
        rw [List.getElem?_take_of_lt hi]
      rw [e1, ← this]
  · rename_i nil cols D
    split at h
    rotate_left
    · cases h
    rename_i hc
    cases h
    exact ds_rows hc hd hB.2
  · cases h

theorem flatG_mk {m : Map} {w : World} {rd : Nat → Blk} (hB : (∀ id, BlkH m id w (rd id)) ∧ ∀ b o, m.q.sn b = some o → w.heap[b]? = some o) : ∀ {sh : List Sh} {args : List SV} {l : List Int} {R : List (Bool × List (List Int))} {ps : List Prop} {vs : List Value}, flatG rd sh args = some (l, R, ps) → (∀ p ∈ ps, p) → All2 (Den m) args vs →
    l.length = totR sh ∧ R.length = nRows sh ∧ nilsOK R ∧ (mkBlks sh R).length = R.length ∧ ∃ (Q : List (Option Place)), Q.length = R.length ∧
      ∀ (k : Nat), ∃ ss, mkArgsR sh k l R = some ss ∧ ∀ m' : Map, (∀ i q, Q[i]? = some q → m' (k + i) = q) → All2 (Den m') ss vs ∧ ∀ i, BlkH m' (k + i) w (getB (mkBlks sh R) i)
  | [], args, l, R, ps, vs, h, hp, hd => by
    simp only [flatG] at h
    split at h
    · cases h
      cases vs with
      | cons => exact hd.elim
      | nil => exact ⟨rfl, rfl, fun x hx => (by cases hx), rfl, [], rfl, fun k => ⟨[], rfl, fun m' _ => ⟨trivial, fun i => trivial⟩⟩⟩
    · cases h
  | x :: sh, args, l, R, ps, vs, h, hp, hd => by
    simp only [flatG] at h
    split at h
    · cases h
    rename_i s r
    cases vs with
    | nil => exact hd.elim
    | cons v vs =>
    obtain ⟨d1, d2⟩ := hd
    split at h
    · cases h
    rename_i li lr lp hfl
    split at h
    · rename_i n
      split at h
      · split at h
        rotate_left
        · cases h
        rename_i y hy
        cases h
        obtain ⟨g1, g2, g4, g6, Q, g5, g7⟩ := flatG_mk hB hfl hp d2
        refine ⟨by simp [totR, g1]; omega, g2, g4, g6, Q, g5, fun k => ?_⟩
        obtain ⟨ss, j1, j2⟩ := g7 k
        refine ⟨.int .i64 y :: ss, by simp only [mkArgsR, j1], fun m' hm' => ?_⟩
        obtain ⟨q1, q2⟩ := j2 m' hm'
        exact ⟨⟨toI_den hy d1, q1⟩, q2⟩
      · rename_i j
        split at h
        rotate_left
        · cases h
        rename_i cs
        split at h
        rotate_left
        · cases h
        rename_i hlen
        split at h
        rotate_left
        · cases h
        rename_i xs hxs
        split at h
        rotate_left
        · cases h
        rename_i z hz
        cases h
        obtain rfl := appI_eq hz
        have hxl : xs.length = j + 1 := by rw [toIs_length hxs, lenIs_eq hlen]
        obtain ⟨g1, g2, g4, g6, Q, g5, g7⟩ := flatG_mk hB hfl hp d2
        refine ⟨by simp [totR, g1, hxl], g2, g4, g6, Q, g5, fun k => ?_⟩
        obtain ⟨ss, j1, j2⟩ := g7 k
        have ht := takeI_app xs li
        rw [hxl] at ht
        refine ⟨.agg (xs.map (SV.int .i64)) :: ss, by simp only [mkArgsR, ht, j1], fun m' hm' => ?_⟩
        obtain ⟨q1, q2⟩ := j2 m' hm'
        obtain ⟨us, rfl, hu⟩ := d1
        exact ⟨⟨⟨us, rfl, ints_den (toIs_den hxs hu)⟩, q1⟩, q2⟩
    · split at h
      rotate_left
      · cases h
      rename_i y hy
      cases h
      obtain ⟨g1, g2, g4, g6, Q, g5, g7⟩ := flatG_mk hB hfl hp d2
      refine ⟨by simp [totR, g1]; omega, g2, g4, g6, Q, g5, fun k => ?_⟩
      obtain ⟨ss, j1, j2⟩ := g7 k
      refine ⟨.int .u8 y :: ss, by simp only [mkArgsR, j1], fun m' hm' => ?_⟩
      obtain ⟨q1, q2⟩ := j2 m' hm'
      exact ⟨⟨toU_den hy d1, q1⟩, q2⟩
    · rename_i esz
      split at h
      rotate_left
      · cases h
      rename_i xs ps' hxs
      cases h
      obtain ⟨g1, g2, g4, g6, Q, g5, g7⟩ := flatG_mk hB hfl (fun p hq => hp p (appP_mem.2 (Or.inr hq))) d2
      obtain ⟨q, f1, f2⟩ := rowsOfG_mk hxs (fun p hq => hp p (appP_mem.2 (Or.inl hq))) d1 hB
      refine ⟨by simp [totR, g1], by simp [nRows, g2], fun x hx => ?_, by obtain ⟨b, xs⟩ := xs; simp [mkBlks, g6], q :: Q, by simp [g5], fun k => ?_⟩
      · rcases List.mem_cons.1 hx with rfl | hx
        · exact f1
        · exact g4 x hx
      obtain ⟨ss, j1, j2⟩ := g7 (k + 1)
      obtain ⟨b, xs⟩ := xs
      refine ⟨rowArg b k esz xs :: ss, by simp only [mkArgsR, j1]; cases b <;> rfl, fun m' hm' => ?_⟩
      obtain ⟨q1, q2⟩ := j2 m' (fun i q hi => by rw [show k + 1 + i = k + (i + 1) by omega]; exact hm' (i + 1) q (by simpa using hi))
      obtain ⟨e1, e2⟩ := f2 m' k (hm' 0 q rfl)
      refine ⟨⟨e1, q1⟩, fun i => ?_⟩
      cases i with
      | zero => exact e2
      | succ i =>
        have := q2 i
        rw [show k + 1 + i = k + (i + 1) by omega] at this
        exact this
    · rename_i n
      split at h
      rotate_left
      · cases h
      rename_i z hz
      cases h
      obtain ⟨y, xs, rfl, hxl, hden⟩ := toMix_eq hz
      obtain ⟨g1, g2, g4, g6, Q, g5, g7⟩ := flatG_mk hB hfl hp d2
      refine ⟨by simp [totR, g1, hxl]; omega, g2, g4, g6, Q, g5, fun k => ?_⟩
      obtain ⟨ss, j1, j2⟩ := g7 k
      have ht := takeI_app xs li
      rw [hxl] at ht
      refine ⟨.agg (.int .u8 y :: xs.map (SV.int .i64)) :: ss, by simp only [mkArgsR, ht, j1], fun m' hm' => ?_⟩
      obtain ⟨q1, q2⟩ := j2 m' hm'
      exact ⟨⟨hden d1, q1⟩, q2⟩

theorem memN_no {i : Nat} : ∀ {l : List Nat}, memN i l = false → i ∉ l
  | [], _ => by simp
  | j :: l, h => by
    simp only [memN] at h
    split at h
    · cases h
    · rename_i hj
      simp only [List.mem_cons, not_or]
      exact ⟨(fun e => by { rw [e, Nat.beq_refl] at hj; cases hj }), memN_no h⟩

/-- A row, told by its first elements and under another name. -/
theorem blk_as {m mm : Map} {id n esz len : Nat} {ys : List (List Int)} {w : World} (hB : BlkH m id w (.arr true true esz ys)) (hq : mm n = m id) (hlen : len ≤ ys.length) : BlkH mm n w (.arr true true esz (ys.take len)) := by
  obtain ⟨l, vs, ty, fr, hm, hw, hd, hown⟩ := hB rfl
  obtain ⟨rfl, ho, hvs, hxl⟩ := hown rfl
  have hl : (ys.take len).length = len := by simp; omega
  refine fun _ => ⟨l, vs, ty, (0, 0), by rw [hq, hm], hw, fun i j hi hj => ?_, fun _ => ⟨rfl, ho, hvs, by omega⟩⟩
  rw [hl] at hi
  rw [at2_take hi]
  exact hd i j (by omega) hj

/-- The results, as the caller sees them. -/
theorem RSim.out {m : Map} {w : World} {h : List Blk} {B : Nat} (hB : ∀ id, BlkH m id w (getB h id)) (hap : ∀ i j p q, i ≠ j → (getB h i).own = true → (getB h j).live = true → m i = some p → m j = some q → p.b ≠ q.b) (hown : ∀ i p, (getB h i).own = true → m i = some p → B ≤ p.b) :
    ∀ {spec : List RS} {seen : List Nat} {vs : List SV} {us : List Value}, RSim h seen spec vs → All2 (DenA m) vs us →
    ∃ Q : List (Option Place), Q.length = (rsBlks spec).length ∧
      (∀ (mm : Map) (n : Nat), (∀ i q, Q[i]? = some q → mm (n + i) = q) → All2 (DenA mm) (rsVals n spec) us ∧ ∀ k b, (rsBlks spec)[k]? = some b → BlkH mm (n + k) w b) ∧
      (∀ (k : Nat) (p : Place), Q[k]? = some (some p) → B ≤ p.b ∧ ∃ id, id ∉ seen ∧ (getB h id).own = true ∧ m id = some p) ∧
      (∀ (k k' : Nat) (p p' : Place), k ≠ k' → Q[k]? = some (some p) → Q[k']? = some (some p') → p.b ≠ p'.b)
  | [], seen, vs, us, hs, hd => by
    simp only [RSim] at hs
    split at hs
    · cases us with
      | cons => exact hd.elim
      | nil => exact ⟨[], rfl, fun mm n _ => ⟨trivial, fun k b hk => by simp [rsBlks] at hk⟩, fun k p hk => by simp at hk, fun k k' p p' _ hk => by simp at hk⟩
    · exact hs.elim
  | x :: r, seen, vs, us, hs, hd => by
    simp only [RSim] at hs
    split at hs
    · exact hs.elim
    rename_i v vs
    cases us with
    | nil => exact hd.elim
    | cons u us =>
    obtain ⟨d1, d2⟩ := hd
    -- one more, with its place
    have step : ∀ (b : Bool) (esz : Nat) (xs : List (List Int)) (q : Option Place) (seen' : List Nat), x = .rows b esz xs → RSim h seen' r vs → (∀ i, i ∈ seen → i ∈ seen') →
        (∀ (mm : Map) (n : Nat), mm n = q → DenA mm (.osl b n esz xs.length) u ∧ BlkH mm n w (.arr true (!b) esz xs)) →
        (∀ p, q = some p → ∃ id, id ∈ seen' ∧ id ∉ seen ∧ (getB h id).own = true ∧ m id = some p) →
        ∃ Q : List (Option Place), Q.length = (rsBlks (x :: r)).length ∧
      (∀ (mm : Map) (n : Nat), (∀ i q, Q[i]? = some q → mm (n + i) = q) → All2 (DenA mm) (rsVals n (x :: r)) (u :: us) ∧ ∀ k b, (rsBlks (x :: r))[k]? = some b → BlkH mm (n + k) w b) ∧
      (∀ (k : Nat) (p : Place), Q[k]? = some (some p) → B ≤ p.b ∧ ∃ id, id ∉ seen ∧ (getB h id).own = true ∧ m id = some p) ∧
      (∀ (k k' : Nat) (p p' : Place), k ≠ k' → Q[k]? = some (some p) → Q[k']? = some (some p') → p.b ≠ p'.b) := by
      intro b esz xs q seen' hx hr hsub hq1 hq2
      subst hx
      obtain ⟨Q, e1, e2, e3, e4⟩ := RSim.out hB hap hown hr d2
      refine ⟨q :: Q, by simp [rsBlks, e1], fun mm n hmm => ?_, fun k p hk => ?_, fun k k' p p' hkk hk hk' => ?_⟩
      · obtain ⟨f1, f2⟩ := e2 mm (n + 1) (fun i q' hi => by rw [show n + 1 + i = n + (i + 1) by omega]; exact hmm (i + 1) q' (by simpa using hi))
        obtain ⟨g1, g2⟩ := hq1 mm n (hmm 0 q rfl)
        refine ⟨⟨g1, f1⟩, fun k b' hk => ?_⟩
        cases k with
        | zero => simp [rsBlks] at hk; subst hk; exact g2
        | succ k =>
          have := f2 k b' (by simpa [rsBlks] using hk)
          rwa [show n + 1 + k = n + (k + 1) by omega] at this
      · cases k with
        | zero =>
          simp at hk
          obtain ⟨id, h1, h2, h3, h4⟩ := hq2 p hk
          exact ⟨hown id p h3 h4, id, h2, h3, h4⟩
        | succ k =>
          obtain ⟨h1, id, h2, h3, h4⟩ := e3 k p (by simpa using hk)
          exact ⟨h1, id, fun hm => h2 (hsub _ hm), h3, h4⟩
      · cases k with
        | zero =>
          cases k' with
          | zero => exact absurd rfl hkk
          | succ k' =>
            simp at hk
            obtain ⟨id, h1, h2, h3, h4⟩ := hq2 p hk
            obtain ⟨_, id', h2', h3', h4'⟩ := e3 k' p' (by simpa using hk')
            exact hap id id' p p' (fun e => h2' (e ▸ h1)) h3 (Blk.live_of_own h3') h4 h4'
        | succ k =>
          cases k' with
          | zero =>
            simp at hk'
            obtain ⟨id, h1, h2, h3, h4⟩ := hq2 p' hk'
            obtain ⟨_, id', h2', h3', h4'⟩ := e3 k p (by simpa using hk)
            exact (hap id id' p' p (fun e => h2' (e ▸ h1)) h3 (Blk.live_of_own h3') h4 h4').symm
          | succ k' => exact e4 k k' p p' (by omega) (by simpa using hk) (by simpa using hk')
    split at hs
    · rename_i s
      obtain ⟨h1, h2⟩ := hs
      obtain ⟨Q, e1, e2, e3, e4⟩ := RSim.out hB hap hown h2 d2
      refine ⟨Q, by simpa [rsBlks] using e1, fun mm n hmm => ?_, e3, e4⟩
      obtain ⟨f1, f2⟩ := e2 mm n hmm
      exact ⟨⟨((h1.den (m' := mm) d1.d).2), f1⟩, f2⟩
    · rename_i b esz xs
      split at hs
      · obtain ⟨h1, h2, h3⟩ := hs
        obtain rfl := h1.out
        obtain rfl := h2.out
        exact step true esz [] none seen rfl h3 (fun _ h => h) (fun mm n hmm => ⟨⟨fun _ => ⟨d1, rfl⟩, fun h => (by cases h)⟩, fun h => (by cases h)⟩) (fun p h => by cases h)
      · rename_i id e off len
        split at hs
        rotate_left
        · exact hs.elim
        rename_i ok e' ys hg
        split at hs
        rotate_left
        · exact hs.elim
        rename_i hc
        simp only [Bool.and_eq_true, Bool.not_eq_true'] at hc
        obtain rfl := Nat.eq_of_beq_eq_true hc.1.1
        obtain rfl := Nat.eq_of_beq_eq_true hc.1.2
        obtain ⟨h1, h2, h3, h4, h5, h6⟩ := hs
        obtain rfl := h1.out
        obtain rfl := h2.out
        obtain rfl := h3.out
        obtain rfl := h5.out
        have hlen := h4.out
        have hBi := hB id
        rw [hg] at hBi
        obtain ⟨l, ad, c, hm, rfl, k1, k2, k3⟩ := d1
        have hl : (ys.take len).length = len := by simp; omega
        exact step false e' (ys.take len) (m id) (id :: seen) rfl h6 (fun _ h => List.mem_cons_of_mem _ h) (fun mm n hmm => ⟨⟨fun h => (by cases h), fun _ => ⟨l, ad, c, by rw [hmm, hm], by rw [hl], by omega, by omega, fun h => by rw [k3 h]; simp⟩⟩, blk_as hBi hmm hlen⟩)
          (fun p hp => ⟨id, List.mem_cons_self, memN_no hc.2, by rw [hg]; rfl, hp⟩)
      · rename_i b' id e len
        split at hs
        rotate_left
        · exact hs.elim
        rename_i ok e' ys hg
        split at hs
        rotate_left
        · exact hs.elim
        rename_i hc
        simp only [Bool.and_eq_true, Bool.not_eq_true'] at hc
        obtain rfl := Nat.eq_of_beq_eq_true hc.1.1
        obtain rfl := Nat.eq_of_beq_eq_true hc.1.2
        obtain ⟨h1, h2, h4, h5, h6⟩ := hs
        obtain rfl := h1.out
        obtain rfl := h5.out
        have hlen := h4.out
        have hl : (ys.take len).length = len := by simp; omega
        cases b' with
        | true =>
          obtain ⟨rfl, rfl⟩ := d1.1 rfl
          exact step true e' (ys.take 0) none (id :: seen) rfl h6 (fun _ h => List.mem_cons_of_mem _ h) (fun mm n hmm => ⟨⟨fun _ => ⟨rfl, by simp⟩, fun h => (by cases h)⟩, fun h => (by cases h)⟩) (fun p h => by cases h)
        | false =>
          obtain rfl := h2.out rfl
          have hBi := hB id
          rw [hg] at hBi
          obtain ⟨l, ad, c, hm, rfl, k1, k2, k3⟩ := d1.2 rfl
          exact step false e' (ys.take len) (m id) (id :: seen) rfl h6 (fun _ h => List.mem_cons_of_mem _ h) (fun mm n hmm => ⟨⟨fun h => (by cases h), fun _ => ⟨l, ad, c, by rw [hmm, hm], by rw [hl], k1, by omega, k3⟩⟩, blk_as hBi hmm hlen⟩)
            (fun p hp => ⟨id, List.mem_cons_self, memN_no hc.2, by rw [hg]; rfl, hp⟩)
      · exact hs.elim

/-- A result that is no tuple. -/
theorem RSim.part {h : List Blk} : ∀ {seen : List Nat} {spec : List RS} {vs : List SV}, RSim h seen spec vs → partOK vs = true
  | seen, [], vs, hs => by
    simp only [RSim] at hs
    split at hs
    · rfl
    · exact hs.elim
  | seen, x :: r, vs, hs => by
    simp only [RSim] at hs
    split at hs
    · exact hs.elim
    rename_i v vs
    simp only [partOK]
    split at hs
    · obtain ⟨h1, h2⟩ := hs
      have : notTup v = true := by
        cases v <;> first | rfl | (simp [SimA, SimS, toN, toB] at h1)
      rw [this]
      exact RSim.part h2
    · split at hs
      · exact RSim.part hs.2.2
      · split at hs
        rotate_left
        · exact hs.elim
        split at hs
        · exact RSim.part hs.2.2.2.2.2
        · exact hs.elim
      · split at hs
        rotate_left
        · exact hs.elim
        split at hs
        · exact RSim.part hs.2.2.2.2
        · exact hs.elim
      · exact hs.elim

theorem rsBlks_nosto : ∀ {l : List RS} {b : Blk}, b ∈ rsBlks l → ∀ H, b ≠ .store H
  | x :: r, b, h, H => by
    cases x with
    | val s => exact rsBlks_nosto (l := r) h H
    | rows b' esz xs =>
      simp only [rsBlks] at h
      rcases List.mem_cons.1 h with rfl | h
      · intro e; cases e
      · exact rsBlks_nosto h H
def outMap (m : Map) (nid n : Nat) (Q : List (Option Place)) : Map := m.with fun id => if nid ≤ id ∧ id < nid + n then (Q[id - nid]?).join else m id
/-- A CONTRACT of a function of ints, structs of ints and slices of those that reads them and makes new ones. -/
theorem con_gen {P : Program} {T : Tab} {C : List Con} {pl : Plans} {f : FuncId} {fn : Func} {code : Code} (hf : P.funcs[f]? = some fn) (hb : fn.body = some code) (hn : (fn.name == "runtime.NumGoroutine") = false)
    (hT : T.Ok P) (hC : Cons.Ok P C) (hm : P.follows .mixedOrders = true) (hpl : plansOK pl code = true) (sh : List Sh) (pre : List Int → List (Bool × List (List Int)) → List Prop) (g : List Int → List (Bool × List (List Int)) → List RS)
    (h : ∀ l R, l.length = totR sh → R.length = nRows sh → nilsOK R → (∀ p ∈ pre l R, p) → EVG P T C pl fn.results.toList fn.ntmps code sh l R (g l R)) : Con.Ok P ⟨f, genRun sh pre g⟩ := by
  refine ⟨⟨fn, hf, by rw [hb]; rfl, hn⟩, fun nid args rd r hr hp m w vs hd hB hap hfr hup hga hgb hone => ?_, fun nid args rd r hr hro => by
    replace hr : genRun _ _ _ nid args rd = some r := hr
    unfold genRun at hr
    repeat' split at hr
    all_goals first | (cases hr; done) | (injection hr with hr; rw [← hr] at hro; exact absurd hro Bool.false_ne_true)⟩
  simp only [genRun] at hr
  split at hr
  rotate_left
  · cases hr
  rename_i l R ps hl
  cases hr
  obtain ⟨h1, h2, g4, g6, Q, g5, g7⟩ := flatG_mk ⟨hB, hone.snap⟩ hl (fun p hq => hp p (appP_mem.2 (Or.inl hq))) hd
  have hev := h l R h1 h2 g4 (fun p hq => hp p (appP_mem.2 (Or.inr hq)))
  obtain ⟨ss, j1, j2⟩ := g7 0
  unfold EVG at hev
  rw [j1] at hev
  simp only at hev
  split at hev
  rotate_left
  · exact hev.elim
  rename_i ts hts
  obtain ⟨q1, q2⟩ := j2 (Map.of fun i => (Q[i]?).join) (fun i q hi => by simp [Map.of, hi])
  have hs := (EV_sound hT hC hm code _ _ _ hpl hev).out w.heap.size Bad.no w (Map.of fun i => (Q[i]?).join) _ w (fun id hid => by
    rw [g6, ← g5]
    by_cases hlt : id < Q.length
    · exact hlt
    · exact absurd (by simp [Map.of, List.getElem?_eq_none (Nat.le_of_not_lt hlt)]) hid) (holds_start' hts q1 (fun i => by have := q2 i; rwa [Nat.zero_add] at this) (fun i => mkBlks_own) (fun i H => mkBlks_nosto))
  refine calls_of_wp hf hb (wp_mono hs fun e a' w' hq => ?_)
  obtain ⟨st', m', k2, k3, k4⟩ := hq
  have hown : ∀ i p, (getB st'.heap i).own = true → m' i = some p → w.heap.size ≤ p.b := fun i p ho hp => (k3.own i p ho hp).resolve_right id
  have fin : RFin T fn.results.toList (g l R) st'.tmps st'.heap → a'.defers = [] ∧ ∃ v, (results fn a'.tmps).run P w' = .ok v w' ∧ CallPost rd m nid ⟨appP ps (pre l R), rsVal nid (g l R), rsBlks (g l R), [], [], false⟩ w (.returned v) w' := fun hfin => by
    unfold RFin at hfin
    split at hfin
    rotate_left
    · exact hfin.elim
    rename_i r hr
    -- the end, once the results' places are there
    have close : ∀ (v : Value) (Q' : List (Option Place)), (results fn a'.tmps).run P w' = .ok v w' → Q'.length = (rsBlks (g l R)).length →
        (∀ (mm : Map), (∀ i q, Q'[i]? = some q → mm (nid + i) = q) → Den mm (rsVal nid (g l R)) v ∧ ∀ k b, (rsBlks (g l R))[k]? = some b → BlkH mm (nid + k) w' b) →
        (∀ (k : Nat) (p : Place), Q'[k]? = some (some p) → w.heap.size ≤ p.b) → (∀ (k k' : Nat) (p p' : Place), k ≠ k' → Q'[k]? = some (some p) → Q'[k']? = some (some p') → p.b ≠ p'.b) →
        a'.defers = [] ∧ ∃ v, (results fn a'.tmps).run P w' = .ok v w' ∧ CallPost rd m nid ⟨appP ps (pre l R), rsVal nid (g l R), rsBlks (g l R), [], [], false⟩ w (.returned v) w' := fun v Q' hv hQ he hfr' hne => by
      have hmm : ∀ i q, Q'[i]? = some q → outMap m nid (rsBlks (g l R)).length Q' (nid + i) = q := fun i q hi => by
        have hlt : i < Q'.length := (List.getElem?_eq_some_iff.1 hi).1
        simp only [outMap, Map.with]
        rw [if_pos ⟨by omega, by omega⟩, show nid + i - nid = i by omega, hi]; rfl
      obtain ⟨f1, f2⟩ := he _ hmm
      have hpl' : ∀ k b p, (rsBlks (g l R))[k]? = some b → outMap m nid (rsBlks (g l R)).length Q' (nid + k) = some p → Q'[k]? = some (some p) := fun k b p hk hp' => by
        have hlt := (List.getElem?_eq_some_iff.1 hk).1
        simp only [outMap, Map.with] at hp'
        rw [if_pos ⟨by omega, by omega⟩, show nid + k - nid = k by omega] at hp'
        rw [List.getElem?_eq_getElem (by omega)] at hp' ⊢
        simpa using hp'
      refine ⟨k3.defers, v, hv, v, _, rfl, fun id hid => ?_, f1, f2, fun k b p hk _ hp' => Or.inl (hfr' k p (hpl' k b p hk hp')), fun k k' b b' p p' hkk hk hk' _ _ hp1 hp2 => hne k k' p p' hkk (hpl' k b p hk hp1) (hpl' k' b' p' hk' hp2), ?_, gpost_plain (rd := rd) (fun _ _ => rfl) rfl (fun k b p hk _ hp' => Or.inl (hfr' k p (hpl' k b p hk hp'))) hga hgb (fun b h => rsBlks_nosto h)⟩
      · exact if_neg (fun ⟨e1, e2⟩ => by rcases hid with e | e <;> (try simp only at e) <;> omega)
      · exact k3.below.mono (Nat.le_refl _) (fun k _ hbad => hbad.elim)
    generalize hspec : g l R = spec at hfin close ⊢
    cases spec with
    | nil => exact hfin.elim
    | cons x y =>
      cases y with
      | nil =>
        have hpart := RSim.part hfin
        simp only [partOK] at hpart
        have hnt : notTup r = true := by
          cases hh : notTup r
          · rw [hh] at hpart; cases hpart
          · rfl
        obtain ⟨v, e1, e2⟩ := resS_sound hT k3 hr (fun l' e => by subst e; cases hnt)
        obtain ⟨Q', o1, o2, o3, o4⟩ := RSim.out k3.blk k3.apart hown hfin (us := [v]) ⟨Den.of_notTup hnt e2, trivial⟩
        refine close v Q' e1 o1 (fun mm hmm => ?_) (fun k p hk => (o3 k p hk).1) o4
        obtain ⟨f1, f2⟩ := o2 mm nid hmm
        refine ⟨?_, f2⟩
        cases x with
        | val s => exact f1.1.d
        | rows b esz xs => exact f1.1.d
      | cons y z =>
        simp only at hfin
        split at hfin
        rotate_left
        · exact hfin.elim
        rename_i ll
        obtain ⟨v, e1, us, rfl, e2⟩ := resS_sound hT k3 hr (fun l' e => by cases e; exact RSim.part hfin)
        obtain ⟨Q', o1, o2, o3, o4⟩ := RSim.out k3.blk k3.apart hown hfin e2
        refine close _ Q' e1 o1 (fun mm hmm => ?_) (fun k p hk => (o3 k p hk).1) o4
        obtain ⟨f1, f2⟩ := o2 mm nid hmm
        exact ⟨⟨us, rfl, f1⟩, f2⟩
  cases e with
  | ret => exact fin k4
  | normal => exact fin k4
  | _ => exact k4.elim
end Go.Proofs.YtohjifnkajhhnaaGreat.Ev

namespace Go.Proofs.YtohjifnkajhhnaaGreat.Ev
open Go.RowKit
set_option linter.unusedVariables false
set_option linter.unusedSimpArgs false

def ownRun (esz : Nat) (sh : List Nat) (pre : List Int → Bool → List (List Int) → List Prop) (g : List Int → Bool → List (List Int) → List RS) (nid : Nat) (args : List SV) (rd : Nat → Blk) : Option CRes :=
  match args with
  | s :: rest => match flatA sh rest with
    | some l => match s with
      | .nils => some ⟨pre l true [], rsVal nid (g l true []), rsBlks (g l true []), [], [], false⟩
      | .sl id e off len => match rd id with
        | .arr ow ok e' xs => match ow && Nat.beq e esz && Nat.beq e' esz with
          | true => some ⟨consP [ok = true, off = 0, len ≤ xs.length] (pre l false (xs.take len)), rsVal nid (g l false (xs.take len)), rsBlks (g l false (xs.take len)), [id], [], false⟩
          | false => none
        | _ => none
      | .osl b id e len => match rd id with
        | .arr ow ok e' xs => match ow && Nat.beq e esz && Nat.beq e' esz with
          | true => some ⟨consP [b = false → ok = true, len ≤ xs.length] (pre l b (xs.take len)), rsVal nid (g l b (xs.take len)), rsBlks (g l b (xs.take len)), [id], [], false⟩
          | false => none
        | _ => none
      | _ => none
    | none => none
  | [] => none

def EVO (P : Program) (T : Tab) (C : List Con) (pl : Plans) (rs : List ResultVar) (n : Nat) (code : Code) (esz : Nat) (sh : List Nat) (l : List Int) (b : Bool) (xs : List (List Int)) (spec : List RS) : Prop :=
  match mkArgs sh l with
  | some ss => match padO (rowArg b 0 esz xs :: ss) n with
    | some ts => EV P T C pl code ts [.arr true (!b) esz xs] (FinG T rs spec)
    | none => False
  | none => False

/-- The end of a call whose results are told by G. -/
theorem gen_end {P : Program} {T : Tab} (hT : T.Ok P) {fn : Func} {bad : Bad} {w w' : World} {m m' : Map} {st' : St} {a' : Act} {rd : Nat → Blk} {nid : Nat} {used : List Nat} (k3 : Holds w.heap.size bad w m' st' a' w') (hbad : ∀ k, bad k → usedAt rd m used k) (hga : ∀ j p k i b, (rd j).live = true → m j = some p → m.g k i = some b → p.b ≠ b) (hgb : ∀ k i b, m.g k i = some b → b < w.heap.size)
    (pre : List Prop) (G : List RS) (hfin : RFin T fn.results.toList G st'.tmps st'.heap) :
    a'.defers = [] ∧ ∃ v, (results fn a'.tmps).run P w' = .ok v w' ∧ CallPost rd m nid ⟨pre, rsVal nid G, rsBlks G, used, [], false⟩ w (.returned v) w' := by
  have hown0 : ∀ i p, (getB st'.heap i).own = true → m' i = some p → 0 ≤ p.b := fun _ _ _ _ => Nat.zero_le _
  unfold RFin at hfin
  split at hfin
  rotate_left
  · exact hfin.elim
  rename_i r hr
  have close : ∀ (v : Value) (Q' : List (Option Place)), (results fn a'.tmps).run P w' = .ok v w' → Q'.length = (rsBlks G).length →
      (∀ (mm : Map), (∀ i q, Q'[i]? = some q → mm (nid + i) = q) → Den mm (rsVal nid G) v ∧ ∀ k b, (rsBlks G)[k]? = some b → BlkH mm (nid + k) w' b) →
      (∀ (k : Nat) (p : Place), Q'[k]? = some (some p) → w.heap.size ≤ p.b ∨ usedAt rd m used p.b) → (∀ (k k' : Nat) (p p' : Place), k ≠ k' → Q'[k]? = some (some p) → Q'[k']? = some (some p') → p.b ≠ p'.b) →
      a'.defers = [] ∧ ∃ v, (results fn a'.tmps).run P w' = .ok v w' ∧ CallPost rd m nid ⟨pre, rsVal nid G, rsBlks G, used, [], false⟩ w (.returned v) w' := fun v Q' hv hQ he hfr' hne => by
    have hmm : ∀ i q, Q'[i]? = some q → outMap m nid (rsBlks G).length Q' (nid + i) = q := fun i q hi => by
      have hlt : i < Q'.length := (List.getElem?_eq_some_iff.1 hi).1
      simp only [outMap, Map.with]
      rw [if_pos ⟨by omega, by omega⟩, show nid + i - nid = i by omega, hi]; rfl
    obtain ⟨f1, f2⟩ := he _ hmm
    have hpl' : ∀ k b p, (rsBlks G)[k]? = some b → outMap m nid (rsBlks G).length Q' (nid + k) = some p → Q'[k]? = some (some p) := fun k b p hk hp' => by
      have hlt := (List.getElem?_eq_some_iff.1 hk).1
      simp only [outMap, Map.with] at hp'
      rw [if_pos ⟨by omega, by omega⟩, show nid + k - nid = k by omega] at hp'
      rw [List.getElem?_eq_getElem (by omega)] at hp' ⊢
      simpa using hp'
    refine ⟨k3.defers, v, hv, v, _, rfl, fun id hid => ?_, f1, f2, fun k b p hk _ hp' => ?_, fun k k' b b' p p' hkk hk hk' _ _ hp1 hp2 => hne k k' p p' hkk (hpl' k b p hk hp1) (hpl' k' b' p' hk' hp2), ?_, gpost_plain (rd := rd) (fun _ _ => rfl) rfl (fun k b p hk _ hp' => (hfr' k p (hpl' k b p hk hp')).imp id Or.inl) hga hgb (fun b h => rsBlks_nosto h)⟩
    · exact if_neg (fun ⟨e1, e2⟩ => by rcases hid with e | e <;> (try simp only at e) <;> omega)
    · rcases hfr' k p (hpl' k b p hk hp') with h | h
      · exact Or.inl h
      · exact Or.inr (Or.inl h)
    · exact k3.below.mono (Nat.le_refl _) (fun k _ hb => Or.inl (hbad k hb))
  have place : ∀ p : Place, (∃ id, (getB st'.heap id).own = true ∧ m' id = some p) → w.heap.size ≤ p.b ∨ usedAt rd m used p.b := fun p ⟨id, h1, h2⟩ => by
    rcases k3.own id p h1 h2 with h | h
    · exact Or.inl h
    · exact Or.inr (hbad _ h)
  cases G with
  | nil => exact hfin.elim
  | cons x y =>
    cases y with
    | nil =>
      have hpart := RSim.part hfin
      simp only [partOK] at hpart
      have hnt : notTup r = true := by
        cases hh : notTup r
        · rw [hh] at hpart; cases hpart
        · rfl
      obtain ⟨v, e1, e2⟩ := resS_sound hT k3 hr (fun l' e => by subst e; cases hnt)
      obtain ⟨Q', o1, o2, o3, o4⟩ := RSim.out k3.blk k3.apart hown0 hfin (us := [v]) ⟨Den.of_notTup hnt e2, trivial⟩
      refine close v Q' e1 o1 (fun mm hmm => ?_) (fun k p hk => by obtain ⟨_, id, _, h1, h2⟩ := o3 k p hk; exact place p ⟨id, h1, h2⟩) o4
      obtain ⟨f1, f2⟩ := o2 mm nid hmm
      refine ⟨?_, f2⟩
      cases x with
      | val s => exact f1.1.d
      | rows b esz xs => exact f1.1.d
    | cons y z =>
      simp only at hfin
      split at hfin
      rotate_left
      · exact hfin.elim
      rename_i ll
      obtain ⟨v, e1, us, rfl, e2⟩ := resS_sound hT k3 hr (fun l' e => by cases e; exact RSim.part hfin)
      obtain ⟨Q', o1, o2, o3, o4⟩ := RSim.out k3.blk k3.apart hown0 hfin e2
      refine close _ Q' e1 o1 (fun mm hmm => ?_) (fun k p hk => by obtain ⟨_, id, _, h1, h2⟩ := o3 k p hk; exact place p ⟨id, h1, h2⟩) o4
      obtain ⟨f1, f2⟩ := o2 mm nid hmm
      exact ⟨⟨us, rfl, f1⟩, f2⟩

/-- A CONTRACT of a function that uses up its first argument, a slice of rows of its caller's own. -/
theorem con_own {P : Program} {T : Tab} {C : List Con} {pl : Plans} {f : FuncId} {fn : Func} {code : Code} (hf : P.funcs[f]? = some fn) (hb : fn.body = some code) (hn : (fn.name == "runtime.NumGoroutine") = false)
    (hT : T.Ok P) (hC : Cons.Ok P C) (hm : P.follows .mixedOrders = true) (hpl : plansOK pl code = true) (esz : Nat) (sh : List Nat) (pre : List Int → Bool → List (List Int) → List Prop) (g : List Int → Bool → List (List Int) → List RS)
    (h : ∀ l b xs, l.length = tot sh → (b = true → xs = []) → (∀ p ∈ pre l b xs, p) → EVO P T C pl fn.results.toList fn.ntmps code esz sh l b xs (g l b xs)) : Con.Ok P ⟨f, ownRun esz sh pre g⟩ := by
  refine ⟨⟨fn, hf, by rw [hb]; rfl, hn⟩, fun nid args rd r hr hp m w vs hd hB hap hfr hup hga hgb hone => ?_, fun nid args rd r hr hro => by
    replace hr : ownRun _ _ _ _ nid args rd = some r := hr
    unfold ownRun at hr
    repeat' split at hr
    all_goals first | (cases hr; done) | (injection hr with hr; rw [← hr] at hro; exact absurd hro Bool.false_ne_true)⟩
  have fin : ∀ (bad : Bad) (used : List Nat) (m0 : Map) (ts : List SV) (h0 : List Blk) (pr : List Prop) (G : List RS), (∀ k, bad k → usedAt rd m used k) → Dom m0 h0.length →
      Holds w.heap.size bad w m0 ⟨ts, h0⟩ { tmps := vs.toArray ++ Array.replicate (fn.ntmps - vs.toArray.size) undef, defers := [] } w → EV P T C pl code ts h0 (FinG T fn.results.toList G) →
      Calls P f vs.toArray w (CallPost rd m nid ⟨pr, rsVal nid G, rsBlks G, used, [], false⟩ w) := fun bad used m0 ts h0 pr G hbad hdom H hev => by
    have hs := (EV_sound hT hC hm code _ _ _ hpl hev).out w.heap.size bad w m0 _ w hdom H
    refine calls_of_wp hf hb (wp_mono hs fun e a' w' hq => ?_)
    obtain ⟨st', m', k2, k3, k4⟩ := hq
    cases e with
    | ret => exact gen_end hT k3 hbad hga hgb pr G k4
    | normal => exact gen_end hT k3 hbad hga hgb pr G k4
    | _ => exact k4.elim
  have nilcase : ∀ (l : List Int) (v : Value) (vr : List Value) (rest : List SV) (pr : List Prop) (used : List Nat), vs = v :: vr → flatA sh rest = some l → All2 (Den m) rest vr → v = .slice none 0 0 → (∀ p ∈ pre l true [], p) →
      Calls P f vs.toArray w (CallPost rd m nid ⟨pr, rsVal nid (g l true []), rsBlks (g l true []), used, [], false⟩ w) := fun l v vr rest pr used hvs hl hdr hv hpre => by
    obtain ⟨h1, ss, h2, h3⟩ := flatA_mk (m' := Map.none') hl hdr
    have hev := h l true [] h1 (fun _ => rfl) hpre
    unfold EVO at hev
    rw [h2] at hev
    simp only at hev
    split at hev
    rotate_left
    · exact hev.elim
    rename_i ts hts
    have hd0 : All2 (Den Map.none') (rowArg true 0 esz [] :: ss) vs := by rw [hvs]; exact ⟨by rw [hv]; exact rfl, h3⟩
    refine fin Bad.no used Map.none' ts _ pr _ (fun k hk => hk.elim) (fun id hid => absurd rfl hid) (holds_start' hts hd0 (fun i => ?_) (fun i => ?_) (fun i H => ?_)) hev
    · cases i with
      | zero => intro hh; cases hh
      | succ i => cases i <;> trivial
    · cases i with
      | zero => rfl
      | succ i => cases i <;> rfl
    · cases i with
      | zero => intro h; cases h
      | succ i => cases i <;> (intro h; cases h)
  have owncase : ∀ (l : List Int) (v : Value) (vr : List Value) (rest : List SV) (id len : Nat) (xs : List (List Int)) (pr : List Prop), vs = v :: vr → flatA sh rest = some l → All2 (Den m) rest vr → rd id = .arr true true esz xs → len ≤ xs.length →
      (∃ q ad, m id = some q ∧ v = .slice (some ad) len q.c ∧ len ≤ q.c ∧ (0 < q.c → ad = ⟨q.b, q.o, none⟩)) → (∀ p ∈ pre l false (xs.take len), p) →
      Calls P f vs.toArray w (CallPost rd m nid ⟨pr, rsVal nid (g l false (xs.take len)), rsBlks (g l false (xs.take len)), [id], [], false⟩ w) := fun l v vr rest id len xs pr hvs hl hdr hrd hlen ⟨q, ad, hq, hv, hlc, had⟩ hpre => by
    obtain ⟨h1, ss, h2, h3⟩ := flatA_mk (m' := Map.of fun i => if i = 0 then some q else none) hl hdr
    have hev := h l false (xs.take len) h1 (fun hh => by cases hh) hpre
    unfold EVO at hev
    rw [h2] at hev
    simp only at hev
    split at hev
    rotate_left
    · exact hev.elim
    rename_i ts hts
    have hll : (xs.take len).length = len := by simp; omega
    have hd0 : All2 (Den (Map.of fun i => if i = 0 then some q else none)) (rowArg false 0 esz (xs.take len) :: ss) vs := by
      rw [hvs]
      refine ⟨⟨q, ad, q.c, rfl, by rw [hv, hll], by omega, by rw [hll]; exact hlc, fun hc => by rw [had hc]; simp⟩, h3⟩
    have hs0 := holds_start (bad := ⟨fun k => usedAt rd m [id] k, fun _ _ => none, fun _ _ _ h => (by cases h), Q.no⟩) (Nat.le_refl w.heap.size) hts hd0
    have hB0 : BlkH (Map.of fun i => if i = 0 then some q else none) 0 w (.arr true (!false) esz (xs.take len)) := by
      have hb := hB id
      rw [hrd] at hb
      exact blk_as hb (by simp [Map.of, hq]) hlen
    refine fin ⟨fun k => usedAt rd m [id] k, fun _ _ => none, fun _ _ _ h => (by cases h), Q.no⟩ [id] _ ts [.arr true (!false) esz (xs.take len)] _ _ (fun k hk => hk) (fun i hi => ?_) ⟨hs0.defers, hs0.size, hs0.tmp, fun i => ?_, fun i j p p' hij o1 o2 => ?_, fun i p o1 o2 => ?_, hs0.below, hs0.base, ⟨fun j p k i b _ _ h => (by cases h), fun k i b h => (by cases h), fun s s' H H' h1 => ?_, fun k i b h => (by cases h), rfl⟩⟩ hev
    · by_cases e : i = 0
      · simp [e]
      · simp [Map.of, e] at hi
    · cases i with
      | zero => exact hB0
      | succ i => cases i <;> trivial
    · cases i with
      | zero => cases j with
        | zero => exact absurd rfl hij
        | succ j => cases j <;> cases o2
      | succ i => cases i <;> cases o1
    · cases i with
      | zero =>
        simp only [Map.of, if_true] at o2
        cases o2
        exact Or.inr ⟨id, by simp, by rw [hrd]; rfl, q, hq, rfl⟩
      | succ i => cases i <;> cases o1
    · cases s with
      | zero => cases h1
      | succ s => cases s <;> cases h1
  replace hr : ownRun esz sh pre g nid args rd = some r := hr
  unfold ownRun at hr
  split at hr
  rotate_left
  · cases hr
  rename_i s rest
  split at hr
  rotate_left
  · cases hr
  rename_i l hl
  cases vs with
  | nil => exact hd.elim
  | cons v vr =>
  obtain ⟨d1, d2⟩ := hd
  split at hr
  · cases hr
    exact nilcase l v vr rest _ _ rfl hl d2 (nils_den d1) hp
  · rename_i id e off len
    split at hr
    rotate_left
    · cases hr
    rename_i ow ok e' xs hrd
    split at hr
    rotate_left
    · cases hr
    rename_i hq
    simp only [Bool.and_eq_true] at hq
    obtain ⟨⟨rfl, he⟩, he'⟩ := hq
    obtain rfl := Nat.eq_of_beq_eq_true he
    obtain rfl := Nat.eq_of_beq_eq_true he'
    cases hr
    have p0 : ok = true := hp _ (consP_mem.2 (Or.inl (by simp)))
    have p1 : off = 0 := hp _ (consP_mem.2 (Or.inl (by simp)))
    have p2 : len ≤ xs.length := hp _ (consP_mem.2 (Or.inl (by simp)))
    subst p0; subst p1
    obtain ⟨q, ad, c, hm', rfl, hc, hlc, had⟩ := d1
    obtain rfl : c = q.c := by omega
    exact owncase l _ vr rest id len xs _ rfl hl d2 hrd p2 ⟨q, ad, hm', rfl, hlc, fun h => by rw [had h]; simp⟩ (fun p hpp => hp p (consP_mem.2 (Or.inr hpp)))
  · rename_i b id e len
    split at hr
    rotate_left
    · cases hr
    rename_i ow ok e' xs hrd
    split at hr
    rotate_left
    · cases hr
    rename_i hq
    simp only [Bool.and_eq_true] at hq
    obtain ⟨⟨rfl, he⟩, he'⟩ := hq
    obtain rfl := Nat.eq_of_beq_eq_true he
    obtain rfl := Nat.eq_of_beq_eq_true he'
    cases hr
    have p0 : b = false → ok = true := hp _ (consP_mem.2 (Or.inl (by simp)))
    have p2 : len ≤ xs.length := hp _ (consP_mem.2 (Or.inl (by simp)))
    cases b with
    | true =>
      obtain ⟨e1, rfl⟩ := d1.1 rfl
      have hpp := fun p hpp => hp p (consP_mem.2 (Or.inr hpp))
      simp only [List.take_zero] at hpp ⊢
      exact nilcase l v vr rest _ _ rfl hl d2 e1 hpp
    | false =>
      obtain rfl := p0 rfl
      obtain ⟨q, ad, c, hm', rfl, rfl, hlc, had⟩ := d1.2 rfl
      exact owncase l _ vr rest id len xs _ rfl hl d2 hrd p2 ⟨q, ad, hm', rfl, hlc, had⟩ (fun p hpp => hp p (consP_mem.2 (Or.inr hpp)))
  · cases hr
end Go.Proofs.YtohjifnkajhhnaaGreat.Ev

namespace Go.Proofs.YtohjifnkajhhnaaGreat.Ev
open Go.RowKit
set_option linter.unusedVariables false
set_option linter.unusedSimpArgs false

inductive Sp where
  | num (n : Nat)
  | np (k : Nat)
  | mix (n : Nat)
def flatP : List Sp → List SV → Option (List Int × List Nat)
  | [], l => match l with
    | [] => some ([], [])
    | _ => none
  | x :: sh, l => match l with
    | [] => none
    | s :: r => match flatP sh r with
      | none => none
      | some (li, ln) => match x with
        | .num n => match n with
          | 0 => match toI s with
            | some y => some (y :: li, ln)
            | none => none
          | k + 1 => match s with
            | .agg cs => match lenIs cs (k + 1) with
              | true => match toIs cs with
                | some xs => match appI xs li with
                  | some z => some (z, ln)
                  | none => none
                | none => none
              | false => none
            | _ => none
        | .np k => match toPt k s with
          | some p => some (li, p :: ln)
          | none => none
        | .mix n => match toMix n s li with
          | some z => some (z, ln)
          | none => none
def mkArgsP : List Sp → List Int → List Nat → Option (List SV)
  | [], l, N => match l with
    | [] => match N with
      | [] => some []
      | _ => none
    | _ => none
  | x :: sh, l, N => match x with
    | .num n => match n with
      | 0 => match l with
        | y :: l => match mkArgsP sh l N with
          | some r => some (.int .i64 y :: r)
          | none => none
        | [] => none
      | k + 1 => match takeI l (k + 1) with
        | some (a, b) => match mkArgsP sh b N with
          | some r => some (.agg a :: r)
          | none => none
        | none => none
    | .np k => match N with
      | p :: N => match mkArgsP sh l N with
        | some r => some (.np 0 k p 0 :: r)
        | none => none
      | [] => none
    | .mix n => match l with
      | y :: l => match takeI l n with
        | some (a, b) => match mkArgsP sh b N with
          | some r => some (.agg (.int .u8 y :: a) :: r)
          | none => none
        | none => none
      | [] => none
def totP : List Sp → Nat
  | [] => 0
  | .num n :: sh => (match n with | 0 => 1 | k + 1 => k + 1) + totP sh
  | .np _ :: sh => totP sh
  | .mix n :: sh => n + 1 + totP sh
def ptrP : List Sp → Nat
  | [] => 0
  | .num _ :: sh => ptrP sh
  | .np _ :: sh => ptrP sh + 1
  | .mix _ :: sh => ptrP sh
theorem toPt_denD {m : Map} {k p : Nat} {s : SV} {v : Value} (h : toPt k s = some p) (hd : Den m s v) : NpV m.g k p 0 v := by
  cases s with
  | np => exact toPt_den h hd
  | cst => exact toPt_den h hd
  | _ => cases h

theorem flatP_mk {m : Map} : ∀ {sh : List Sp} {args : List SV} {l : List Int} {N : List Nat} {vs : List Value}, flatP sh args = some (l, N) → All2 (Den m) args vs →
    l.length = totP sh ∧ N.length = ptrP sh ∧ ∃ ss, mkArgsP sh l N = some ss ∧ ∀ m' : Map, m'.g = m.g → All2 (Den m') ss vs
  | [], args, l, N, vs, h, hd => by
    simp only [flatP] at h
    split at h
    · cases h; exact ⟨rfl, rfl, [], rfl, fun m' _ => by cases vs with | nil => trivial | cons => exact hd.elim⟩
    · cases h
  | x :: sh, args, l, N, vs, h, hd => by
    simp only [flatP] at h
    split at h
    · cases h
    rename_i s r
    cases vs with
    | nil => exact hd.elim
    | cons v vs =>
    obtain ⟨d1, d2⟩ := hd
    split at h
    · cases h
    rename_i li ln hfl
    obtain ⟨h1, h2, ss, h3, h4⟩ := flatP_mk hfl d2
    split at h
    · split at h
      · split at h
        rotate_left
        · cases h
        rename_i y hy
        cases h
        exact ⟨by simp [totP, h1]; omega, by simp [ptrP, h2], .int .i64 y :: ss, by simp [mkArgsP, h3], fun m' hm => ⟨toI_den hy d1, h4 m' hm⟩⟩
      · rename_i k
        split at h
        rotate_left
        · cases h
        rename_i cs
        split at h
        rotate_left
        · cases h
        rename_i hlen
        split at h
        rotate_left
        · cases h
        rename_i xs hxs
        split at h
        rotate_left
        · cases h
        rename_i z hz
        cases h
        obtain rfl := appI_eq hz
        have hl := lenIs_eq hlen
        have hxl : xs.length = k + 1 := by rw [toIs_length hxs, hl]
        refine ⟨by simp [totP, h1, hxl], by simp [ptrP, h2], .agg (xs.map (SV.int .i64)) :: ss, ?_, fun m' hm => ⟨?_, h4 m' hm⟩⟩
        · have := takeI_app xs li
          rw [hxl] at this
          simp only [mkArgsP, this, h3]
        · obtain ⟨us, rfl, hu⟩ := d1
          exact ⟨us, rfl, ints_den (toIs_den hxs hu)⟩
    · rename_i k
      split at h
      rotate_left
      · cases h
      rename_i p hp
      cases h
      refine ⟨by simp [totP, h1], by simp [ptrP, h2], .np 0 k p 0 :: ss, by simp [mkArgsP, h3], fun m' hm => ⟨?_, h4 m' hm⟩⟩
      show NpV m'.g k p 0 v
      rw [hm]
      exact toPt_denD hp d1
    · rename_i n
      split at h
      rotate_left
      · cases h
      rename_i z hz
      cases h
      obtain ⟨y, xs, rfl, hxl, hden⟩ := toMix_eq hz
      have ht := takeI_app xs li
      rw [hxl] at ht
      exact ⟨by simp [totP, h1, hxl]; omega, by simp [ptrP, h2], .agg (.int .u8 y :: xs.map (SV.int .i64)) :: ss, by simp only [mkArgsP, ht, h3], fun m' hm => ⟨hden d1, h4 m' hm⟩⟩

def pickAt : Nat → List SV → Option (SV × List SV)
  | n, l => match l with
    | [] => none
    | x :: r => match n with
      | 0 => some (x, r)
      | n + 1 => match pickAt n r with
        | some (y, l) => some (y, x :: l)
        | none => none
def insAt : Nat → SV → List SV → Option (List SV)
  | 0, x, l => some (x :: l)
  | n + 1, x, l => match l with
    | [] => none
    | y :: r => match insAt n x r with
      | some l => some (y :: l)
      | none => none
theorem pickAt_den {m m' : Map} : ∀ {n : Nat} {args : List SV} {vs : List Value} {s : SV} {rest : List SV}, pickAt n args = some (s, rest) → All2 (Den m) args vs →
    ∃ v vr, Den m s v ∧ All2 (Den m) rest vr ∧ ∀ (s' : SV) (ss : List SV), Den m' s' v → All2 (Den m') ss vr → ∃ ss', insAt n s' ss = some ss' ∧ All2 (Den m') ss' vs
  | n, [], vs, s, rest, h, _ => by unfold pickAt at h; cases n <;> cases h
  | 0, x :: r, vs, s, rest, h, hd => by
    simp only [pickAt] at h
    cases h
    cases vs with
    | nil => exact hd.elim
    | cons v vs => exact ⟨v, vs, hd.1, hd.2, fun s' ss h1 h2 => ⟨s' :: ss, rfl, h1, h2⟩⟩
  | n + 1, x :: r, vs, s, rest, h, hd => by
    simp only [pickAt] at h
    split at h
    rotate_left
    · cases h
    rename_i y l hy
    cases h
    cases vs with
    | nil => exact hd.elim
    | cons v vs =>
    obtain ⟨u, vr, e1, e2, e3⟩ := pickAt_den (m' := m') hy hd.2
    refine ⟨u, v :: vr, e1, ⟨hd.1, e2⟩, fun s' ss h1 h2 => ?_⟩
    cases ss with
    | nil => exact h2.elim
    | cons a ss =>
      obtain ⟨ss', f1, f2⟩ := e3 s' ss h1 h2.2
      exact ⟨a :: ss', by simp only [insAt, f1], h2.1, f2⟩

/-- What such a function yields: its results, and the store. -/
structure SR where
  res : List RS
  H : Hp

def QA (v s : SV) : Prop :=
  match s with
  | .np _ k p o => match v with
    | .np _ k' p' o' => match Nat.beq k k' && Nat.beq o o' with
      | true => Leaf (p' = p)
      | false => False
    | .cst u => match u with
      | .pointer a => match a with
        | none => match o with
          | 0 => Leaf (p = 0)
          | _ => False
        | some _ => False
      | _ => False
    | _ => False
  | s => SimA v s
theorem QA.den {m mm : Map} {v s : SV} {u : Value} (h : QA v s) (hg : ∀ k i b, m.g k i = some b → mm.g k i = some b) (d : DenA m v u) : DenA mm s u := by
  unfold QA at h
  split at h
  · split at h
    · split at h
      · rename_i hq
        simp only [Bool.and_eq_true] at hq
        obtain rfl := h.out
        rw [Nat.eq_of_beq_eq_true hq.1, Nat.eq_of_beq_eq_true hq.2]
        exact NpV.le hg d
      · exact h.elim
    · split at h
      · split at h
        · split at h
          · obtain rfl := h.out; exact ⟨fun _ => d, fun i e => by omega⟩
          · exact h.elim
        · exact h.elim
      · exact h.elim
    · exact h.elim
  · exact (SimA.den h (m' := mm) d.d).2
theorem QA.notTup {v s : SV} (h : QA v s) : notTup v = true := by
  unfold QA at h
  split at h
  · split at h
    · rfl
    · rfl
    · exact h.elim
  · cases v <;> first | rfl | (simp [SimA, SimS, toN, toB] at h)

def QSim (h : List Blk) : List Nat → List RS → List SV → Prop
  | seen, [], vs => match vs with
    | [] => True
    | _ => False
  | seen, x :: r, vs => match vs with
    | [] => False
    | v :: vs => match x with
      | .val s => QA v s ∧ QSim h seen r vs
      | .rows b esz xs => match v with
        | .nils => Leaf (b = true) ∧ Leaf (xs = []) ∧ QSim h seen r vs
        | .sl id e off len => match getB h id with
          | .arr true ok e' ys => match Nat.beq e esz && Nat.beq e' esz && !memN id seen with
            | true => Leaf (b = false) ∧ VC (ok = true) ∧ VC (off = 0) ∧ VC (len ≤ ys.length) ∧ Leaf (ys.take len = xs) ∧ QSim h (id :: seen) r vs
            | false => False
          | _ => False
        | .osl b' id e len => match getB h id with
          | .arr true ok e' ys => match Nat.beq e esz && Nat.beq e' esz && !memN id seen with
            | true => Leaf (b' = b) ∧ VC (b = false → ok = true) ∧ VC (len ≤ ys.length) ∧ Leaf (ys.take len = xs) ∧ QSim h (id :: seen) r vs
            | false => False
          | _ => False
        | _ => False

/-- The results, as the caller sees them. -/
theorem QSim.out {m : Map} {w : World} {h : List Blk} {B : Nat} (hB : ∀ id, BlkH m id w (getB h id)) (hap : ∀ i j p q, i ≠ j → (getB h i).own = true → (getB h j).live = true → m i = some p → m j = some q → p.b ≠ q.b) (hown : ∀ i p, (getB h i).own = true → m i = some p → B ≤ p.b) :
    ∀ {spec : List RS} {seen : List Nat} {vs : List SV} {us : List Value}, QSim h seen spec vs → All2 (DenA m) vs us →
    ∃ Q : List (Option Place), Q.length = (rsBlks spec).length ∧
      (∀ (mm : Map) (n : Nat), (∀ k i b, m.g k i = some b → mm.g k i = some b) → (∀ i q, Q[i]? = some q → mm (n + i) = q) → All2 (DenA mm) (rsVals n spec) us ∧ ∀ k b, (rsBlks spec)[k]? = some b → BlkH mm (n + k) w b) ∧
      (∀ (k : Nat) (p : Place), Q[k]? = some (some p) → B ≤ p.b ∧ ∃ id, id ∉ seen ∧ (getB h id).own = true ∧ m id = some p) ∧
      (∀ (k k' : Nat) (p p' : Place), k ≠ k' → Q[k]? = some (some p) → Q[k']? = some (some p') → p.b ≠ p'.b)
  | [], seen, vs, us, hs, hd => by
    simp only [QSim] at hs
    split at hs
    · cases us with
      | cons => exact hd.elim
      | nil => exact ⟨[], rfl, fun mm n _ _ => ⟨trivial, fun k b hk => by simp [rsBlks] at hk⟩, fun k p hk => by simp at hk, fun k k' p p' _ hk => by simp at hk⟩
    · exact hs.elim
  | x :: r, seen, vs, us, hs, hd => by
    simp only [QSim] at hs
    split at hs
    · exact hs.elim
    rename_i v vs
    cases us with
    | nil => exact hd.elim
    | cons u us =>
    obtain ⟨d1, d2⟩ := hd
    -- one more, with its place
    have step : ∀ (b : Bool) (esz : Nat) (xs : List (List Int)) (q : Option Place) (seen' : List Nat), x = .rows b esz xs → QSim h seen' r vs → (∀ i, i ∈ seen → i ∈ seen') →
        (∀ (mm : Map) (n : Nat), mm n = q → DenA mm (.osl b n esz xs.length) u ∧ BlkH mm n w (.arr true (!b) esz xs)) →
        (∀ p, q = some p → ∃ id, id ∈ seen' ∧ id ∉ seen ∧ (getB h id).own = true ∧ m id = some p) →
        ∃ Q : List (Option Place), Q.length = (rsBlks (x :: r)).length ∧
      (∀ (mm : Map) (n : Nat), (∀ k i b, m.g k i = some b → mm.g k i = some b) → (∀ i q, Q[i]? = some q → mm (n + i) = q) → All2 (DenA mm) (rsVals n (x :: r)) (u :: us) ∧ ∀ k b, (rsBlks (x :: r))[k]? = some b → BlkH mm (n + k) w b) ∧
      (∀ (k : Nat) (p : Place), Q[k]? = some (some p) → B ≤ p.b ∧ ∃ id, id ∉ seen ∧ (getB h id).own = true ∧ m id = some p) ∧
      (∀ (k k' : Nat) (p p' : Place), k ≠ k' → Q[k]? = some (some p) → Q[k']? = some (some p') → p.b ≠ p'.b) := by
      intro b esz xs q seen' hx hr hsub hq1 hq2
      subst hx
      obtain ⟨Q, e1, e2, e3, e4⟩ := QSim.out hB hap hown hr d2
      refine ⟨q :: Q, by simp [rsBlks, e1], fun mm n hmg hmm => ?_, fun k p hk => ?_, fun k k' p p' hkk hk hk' => ?_⟩
      · obtain ⟨f1, f2⟩ := e2 mm (n + 1) hmg (fun i q' hi => by rw [show n + 1 + i = n + (i + 1) by omega]; exact hmm (i + 1) q' (by simpa using hi))
        obtain ⟨g1, g2⟩ := hq1 mm n (hmm 0 q rfl)
        refine ⟨⟨g1, f1⟩, fun k b' hk => ?_⟩
        cases k with
        | zero => simp [rsBlks] at hk; subst hk; exact g2
        | succ k =>
          have := f2 k b' (by simpa [rsBlks] using hk)
          rwa [show n + 1 + k = n + (k + 1) by omega] at this
      · cases k with
        | zero =>
          simp at hk
          obtain ⟨id, h1, h2, h3, h4⟩ := hq2 p hk
          exact ⟨hown id p h3 h4, id, h2, h3, h4⟩
        | succ k =>
          obtain ⟨h1, id, h2, h3, h4⟩ := e3 k p (by simpa using hk)
          exact ⟨h1, id, fun hm => h2 (hsub _ hm), h3, h4⟩
      · cases k with
        | zero =>
          cases k' with
          | zero => exact absurd rfl hkk
          | succ k' =>
            simp at hk
            obtain ⟨id, h1, h2, h3, h4⟩ := hq2 p hk
            obtain ⟨_, id', h2', h3', h4'⟩ := e3 k' p' (by simpa using hk')
            exact hap id id' p p' (fun e => h2' (e ▸ h1)) h3 (Blk.live_of_own h3') h4 h4'
        | succ k =>
          cases k' with
          | zero =>
            simp at hk'
            obtain ⟨id, h1, h2, h3, h4⟩ := hq2 p' hk'
            obtain ⟨_, id', h2', h3', h4'⟩ := e3 k p (by simpa using hk)
            exact (hap id id' p' p (fun e => h2' (e ▸ h1)) h3 (Blk.live_of_own h3') h4 h4').symm
          | succ k' => exact e4 k k' p p' (by omega) (by simpa using hk) (by simpa using hk')
    split at hs
    · rename_i s
      obtain ⟨h1, h2⟩ := hs
      obtain ⟨Q, e1, e2, e3, e4⟩ := QSim.out hB hap hown h2 d2
      refine ⟨Q, by simpa [rsBlks] using e1, fun mm n hmg hmm => ?_, e3, e4⟩
      obtain ⟨f1, f2⟩ := e2 mm n hmg hmm
      exact ⟨⟨h1.den hmg d1, f1⟩, f2⟩
    · rename_i b esz xs
      split at hs
      · obtain ⟨h1, h2, h3⟩ := hs
        obtain rfl := h1.out
        obtain rfl := h2.out
        exact step true esz [] none seen rfl h3 (fun _ h => h) (fun mm n hmm => ⟨⟨fun _ => ⟨d1, rfl⟩, fun h => (by cases h)⟩, fun h => (by cases h)⟩) (fun p h => by cases h)
      · rename_i id e off len
        split at hs
        rotate_left
        · exact hs.elim
        rename_i ok e' ys hg
        split at hs
        rotate_left
        · exact hs.elim
        rename_i hc
        simp only [Bool.and_eq_true, Bool.not_eq_true'] at hc
        obtain rfl := Nat.eq_of_beq_eq_true hc.1.1
        obtain rfl := Nat.eq_of_beq_eq_true hc.1.2
        obtain ⟨h1, h2, h3, h4, h5, h6⟩ := hs
        obtain rfl := h1.out
        obtain rfl := h2.out
        obtain rfl := h3.out
        obtain rfl := h5.out
        have hlen := h4.out
        have hBi := hB id
        rw [hg] at hBi
        obtain ⟨l, ad, c, hm, rfl, k1, k2, k3⟩ := d1
        have hl : (ys.take len).length = len := by simp; omega
        exact step false e' (ys.take len) (m id) (id :: seen) rfl h6 (fun _ h => List.mem_cons_of_mem _ h) (fun mm n hmm => ⟨⟨fun h => (by cases h), fun _ => ⟨l, ad, c, by rw [hmm, hm], by rw [hl], by omega, by omega, fun h => by rw [k3 h]; simp⟩⟩, blk_as hBi hmm hlen⟩)
          (fun p hp => ⟨id, List.mem_cons_self, memN_no hc.2, by rw [hg]; rfl, hp⟩)
      · rename_i b' id e len
        split at hs
        rotate_left
        · exact hs.elim
        rename_i ok e' ys hg
        split at hs
        rotate_left
        · exact hs.elim
        rename_i hc
        simp only [Bool.and_eq_true, Bool.not_eq_true'] at hc
        obtain rfl := Nat.eq_of_beq_eq_true hc.1.1
        obtain rfl := Nat.eq_of_beq_eq_true hc.1.2
        obtain ⟨h1, h2, h4, h5, h6⟩ := hs
        obtain rfl := h1.out
        obtain rfl := h5.out
        have hlen := h4.out
        have hl : (ys.take len).length = len := by simp; omega
        cases b' with
        | true =>
          obtain ⟨rfl, rfl⟩ := d1.1 rfl
          exact step true e' (ys.take 0) none (id :: seen) rfl h6 (fun _ h => List.mem_cons_of_mem _ h) (fun mm n hmm => ⟨⟨fun _ => ⟨rfl, by simp⟩, fun h => (by cases h)⟩, fun h => (by cases h)⟩) (fun p h => by cases h)
        | false =>
          obtain rfl := h2.out rfl
          have hBi := hB id
          rw [hg] at hBi
          obtain ⟨l, ad, c, hm, rfl, k1, k2, k3⟩ := d1.2 rfl
          exact step false e' (ys.take len) (m id) (id :: seen) rfl h6 (fun _ h => List.mem_cons_of_mem _ h) (fun mm n hmm => ⟨⟨fun h => (by cases h), fun _ => ⟨l, ad, c, by rw [hmm, hm], by rw [hl], k1, by omega, k3⟩⟩, blk_as hBi hmm hlen⟩)
            (fun p hp => ⟨id, List.mem_cons_self, memN_no hc.2, by rw [hg]; rfl, hp⟩)
      · exact hs.elim

/-- A result that is no tuple. -/
theorem QSim.part {h : List Blk} : ∀ {seen : List Nat} {spec : List RS} {vs : List SV}, QSim h seen spec vs → partOK vs = true
  | seen, [], vs, hs => by
    simp only [QSim] at hs
    split at hs
    · rfl
    · exact hs.elim
  | seen, x :: r, vs, hs => by
    simp only [QSim] at hs
    split at hs
    · exact hs.elim
    rename_i v vs
    simp only [partOK]
    split at hs
    · obtain ⟨h1, h2⟩ := hs
      have : notTup v = true := h1.notTup
      rw [this]
      exact QSim.part h2
    · split at hs
      · exact QSim.part hs.2.2
      · split at hs
        rotate_left
        · exact hs.elim
        split at hs
        · exact QSim.part hs.2.2.2.2.2
        · exact hs.elim
      · split at hs
        rotate_left
        · exact hs.elim
        split at hs
        · exact QSim.part hs.2.2.2.2
        · exact hs.elim
      · exact hs.elim


def QRes (h : List Blk) (spec : List RS) (r : SV) : Prop :=
  match spec with
  | [] => match r with
    | .tup l => match l with
      | [] => True
      | _ => False
    | _ => False
  | x :: y => match y with
    | [] => QSim h [] [x] [r]
    | _ => match r with
      | .tup l => QSim h [] (x :: y) l
      | _ => False
def QFin (T : Tab) (rs : List ResultVar) (spec : List RS) (H' : Hp) (t : List SV) (h : List Blk) : Prop :=
  match resS T ⟨t, h⟩ rs with
  | some r => match getB h 0 with
    | .store H => match H with
      | ⟨nd, tr, mp⟩ => Leaf (nd = H'.nd) ∧ Leaf (tr = H'.tr) ∧ Leaf (mp = H'.mp) ∧ QRes h spec r
    | _ => False
  | none => False
def FinQ (T : Tab) (rs : List ResultVar) (spec : SR) (e : Exit) (t : List SV) (h : List Blk) : Prop :=
  match e with
  | .ret => QFin T rs spec.res spec.H t h
  | .normal => QFin T rs spec.res spec.H t h
  | _ => False

theorem den_tup_nil {m : Map} {l : List SV} {v : Value} (h : Den m (.tup l) v) (hl : l = []) : ∀ mm : Map, Den mm (.tup []) v := by
  subst hl
  obtain ⟨vs, rfl, h⟩ := h
  exact fun mm => ⟨vs, rfl, by
    cases hv : vs.toList with
    | nil => trivial
    | cons a b => rw [hv] at h; exact h.elim⟩

/-- The end of a call that worked on a store. -/
theorem st_end {P : Program} {T : Tab} (hT : T.Ok P) {fn : Func} {bad : Bad} {w w' : World} {m m' : Map} {st' : St} {a' : Act} {rd : Nat → Blk} {nid : Nat} {used : List Nat} (k3 : Holds w.heap.size bad w m' st' a' w')
    (hbad : ∀ k, bad k → usedAt rd m used k ∨ ∃ kk i, m.g kk i = some k) (hg0 : bad.g0 = m.g) (h0 : m 0 ≠ none) (pre : List Prop) (G : SR) (hfr : ∀ k, k < (rsBlks G.res).length → m (nid + k) = none)
    (hfin : QFin T fn.results.toList G.res G.H st'.tmps st'.heap) :
    a'.defers = [] ∧ ∃ v, (results fn a'.tmps).run P w' = .ok v w' ∧ CallPost rd m nid ⟨pre, rsVal nid G.res, rsBlks G.res, used, [(0, .store G.H)], false⟩ w (.returned v) w' := by
  unfold QFin at hfin
  split at hfin
  rotate_left
  · exact hfin.elim
  rename_i r hr
  split at hfin
  rotate_left
  · exact hfin.elim
  rename_i H1 hH1
  obtain ⟨nd, tr, mp⟩ := H1
  dsimp only at hfin
  obtain ⟨l1, l2, l3, hfin⟩ := hfin
  have hHeq : (⟨nd, tr, mp⟩ : Hp) = G.H := by rw [l1.out, l2.out, l3.out]
  rw [hHeq] at hH1
  have hSt := k3.blk 0
  rw [hH1] at hSt
  have hle : ∀ k i b, m.g k i = some b → m'.g k i = some b := fun k i b h => k3.gok.ext k i b (by rw [hg0]; exact h)
  have hnew : ∀ k i b, m'.g k i = some b → m.g k i = some b ∨ (w.heap.size ≤ b ∧ b < w'.heap.size) := fun k i b h => by
    obtain ⟨h1, h2⟩ := k3.gok.own k i b h
    rcases h1 with h1 | h1
    · exact Or.inr ⟨h1, h2⟩
    · rw [hg0] at h1; exact Or.inl h1
  have place : ∀ p : Place, (∃ id, (getB st'.heap id).own = true ∧ m' id = some p) → w.heap.size ≤ p.b ∨ usedAt rd m used p.b := fun p ⟨id, h1, h2⟩ => by
    rcases k3.own id p h1 h2 with h | h
    · exact Or.inl h
    · rcases hbad _ h with h | ⟨kk, i, h⟩
      · exact Or.inr h
      · exact absurd rfl (k3.gok.apart id p kk i p.b (Blk.live_of_own h1) h2 (hle _ _ _ h))
  have hown0 : ∀ i p, (getB st'.heap i).own = true → m' i = some p → 0 ≤ p.b := fun _ _ _ _ => Nat.zero_le _
  have close : ∀ (v : Value) (Q' : List (Option Place)), (results fn a'.tmps).run P w' = .ok v w' → Q'.length = (rsBlks G.res).length →
      (∀ (mm : Map), (∀ k i b, m'.g k i = some b → mm.g k i = some b) → (∀ i q, Q'[i]? = some q → mm (nid + i) = q) → Den mm (rsVal nid G.res) v ∧ ∀ k b, (rsBlks G.res)[k]? = some b → BlkH mm (nid + k) w' b) →
      (∀ (k : Nat) (p : Place), Q'[k]? = some (some p) → ∃ id, (getB st'.heap id).own = true ∧ m' id = some p) → (∀ (k k' : Nat) (p p' : Place), k ≠ k' → Q'[k]? = some (some p) → Q'[k']? = some (some p') → p.b ≠ p'.b) →
      a'.defers = [] ∧ ∃ v, (results fn a'.tmps).run P w' = .ok v w' ∧ CallPost rd m nid ⟨pre, rsVal nid G.res, rsBlks G.res, used, [(0, .store G.H)], false⟩ w (.returned v) w' := fun v Q' hv hQ he hfr' hne => by
    let mm : Map := ⟨fun id => if nid ≤ id ∧ id < nid + (rsBlks G.res).length then (Q'[id - nid]?).join else m id, m'.g, m'.inj, m.q⟩
    have hmm : ∀ i q, Q'[i]? = some q → mm (nid + i) = q := fun i q hi => by
      have hlt : i < Q'.length := (List.getElem?_eq_some_iff.1 hi).1
      simp only [mm]
      rw [if_pos ⟨by omega, by omega⟩, show nid + i - nid = i by omega, hi]; rfl
    obtain ⟨f1, f2⟩ := he mm (fun _ _ _ h => h) hmm
    have hpl' : ∀ k b p, (rsBlks G.res)[k]? = some b → mm (nid + k) = some p → Q'[k]? = some (some p) := fun k b p hk hp' => by
      have hlt := (List.getElem?_eq_some_iff.1 hk).1
      simp only [mm] at hp'
      rw [if_pos ⟨by omega, by omega⟩, show nid + k - nid = k by omega] at hp'
      rw [List.getElem?_eq_getElem (by omega)] at hp' ⊢
      simpa using hp'
    have hold : ∀ id, (id < nid ∨ nid + (rsBlks G.res).length ≤ id) → mm id = m id := fun id hid => if_neg (fun ⟨e1, e2⟩ => by rcases hid with e | e <;> omega)
    have h0' : mm 0 = m 0 := hold 0 (by
      by_cases hn : 0 < nid
      · exact Or.inl hn
      · obtain rfl : nid = 0 := by omega
        by_cases hz : (rsBlks G.res).length = 0
        · exact Or.inr (by omega)
        · exact absurd (hfr 0 (by omega)) h0)
    refine ⟨k3.defers, v, hv, v, mm, rfl, hold, f1, f2, fun k b p hk _ hp' => ?_, fun k k' b b' p p' hkk hk hk' _ _ hp1 hp2 => hne k k' p p' hkk (hpl' k b p hk hp1) (hpl' k' b' p' hk' hp2), ?_,
      ⟨hle, fun k i b h => (hnew k i b h).imp id fun h => ⟨rfl, h⟩, fun x hx => ?_, fun k b p hk _ hp' kk i c h => ?_, fun b h => rsBlks_nosto h, rfl⟩⟩
    · rcases place p (hfr' k p (hpl' k b p hk hp')) with h | h
      · exact Or.inl h
      · exact Or.inr (Or.inl h)
    · refine k3.below.mono (Nat.le_refl _) (fun k _ hb => ?_)
      rcases hbad k hb with h | h
      · exact Or.inl h
      · exact Or.inr (Or.inr ⟨rfl, h⟩)
    · simp only [List.mem_singleton] at hx
      subst hx
      exact ⟨by rw [h0']; exact h0, StoreH.remap (m := m') (m' := mm) rfl hSt.2⟩
    · obtain ⟨id, h1, h2⟩ := hfr' k p (hpl' k b p hk hp')
      exact k3.gok.apart id p kk i c (Blk.live_of_own h1) h2 h
  generalize hG : G.res = spec at hfin close ⊢
  unfold QRes at hfin
  cases spec with
  | nil =>
    simp only at hfin
    split at hfin
    rotate_left
    · exact hfin.elim
    split at hfin
    rotate_left
    · exact hfin.elim
    obtain ⟨v, e1, e2⟩ := resS_sound hT k3 hr (fun l' e => by cases e; rfl)
    exact close v [] e1 rfl (fun mm _ _ => ⟨den_tup_nil e2 rfl mm, fun k b hk => by simp [rsBlks] at hk⟩) (fun k p hk => by simp at hk) (fun k k' p p' _ hk => by simp at hk)
  | cons x y =>
    cases y with
    | nil =>
      have hpart := QSim.part hfin
      simp only [partOK] at hpart
      have hnt : notTup r = true := by
        cases hh : notTup r
        · rw [hh] at hpart; cases hpart
        · rfl
      obtain ⟨v, e1, e2⟩ := resS_sound hT k3 hr (fun l' e => by subst e; cases hnt)
      obtain ⟨Q', o1, o2, o3, o4⟩ := QSim.out k3.blk k3.apart hown0 hfin (us := [v]) ⟨Den.of_notTup hnt e2, trivial⟩
      refine close v Q' e1 o1 (fun mm hmg hmm => ?_) (fun k p hk => by obtain ⟨_, id, _, h1, h2⟩ := o3 k p hk; exact ⟨id, h1, h2⟩) o4
      obtain ⟨f1, f2⟩ := o2 mm nid hmg hmm
      refine ⟨?_, f2⟩
      cases x with
      | val s => exact f1.1.d
      | rows b esz xs => exact f1.1.d
    | cons y z =>
      simp only at hfin
      split at hfin
      rotate_left
      · exact hfin.elim
      rename_i ll
      obtain ⟨v, e1, us, rfl, e2⟩ := resS_sound hT k3 hr (fun l' e => by cases e; exact QSim.part hfin)
      obtain ⟨Q', o1, o2, o3, o4⟩ := QSim.out k3.blk k3.apart hown0 hfin e2
      refine close _ Q' e1 o1 (fun mm hmg hmm => ?_) (fun k p hk => by obtain ⟨_, id, _, h1, h2⟩ := o3 k p hk; exact ⟨id, h1, h2⟩) o4
      obtain ⟨f1, f2⟩ := o2 mm nid hmg hmm
      exact ⟨⟨us, rfl, f1⟩, f2⟩

def stMap (m : Map) (q : Option Place) : Map := m.with fun i => if i = 0 then some ⟨0, 0, 0⟩ else if i = 1 then q else none
theorem stMap_f (m : Map) (q : Option Place) (i : Nat) : (stMap m q) i = if i = 0 then some ⟨0, 0, 0⟩ else if i = 1 then q else none := rfl
theorem stMap_g (m : Map) (q : Option Place) : (stMap m q).g = m.g := rfl
/-- The arguments, the row (if there is one), the store. -/
def stArgs (row : Bool) (pos esz : Nat) (sh : List Sp) (l : List Int) (N : List Nat) (b : Bool) (xs : List (List Int)) : Option (List SV) :=
  match mkArgsP sh l N with
  | some ss => match row with
    | true => insAt pos (rowArg b 1 esz xs) ss
    | false => some ss
  | none => none
def stBlks (row : Bool) (esz : Nat) (H : Hp) (b : Bool) (xs : List (List Int)) : List Blk :=
  match row with
  | true => [.store H, .arr true (!b) esz xs]
  | false => [.store H]
def EVS (P : Program) (T : Tab) (C : List Con) (pl : Plans) (rs : List ResultVar) (n : Nat) (code : Code) (row : Bool) (pos esz : Nat) (sh : List Sp) (l : List Int) (N : List Nat) (H : Hp) (b : Bool) (xs : List (List Int)) (spec : SR) : Prop :=
  match stArgs row pos esz sh l N b xs with
  | some ss => match padO ss n with
    | some ts => EV P T C pl code ts (stBlks row esz H b xs) (FinQ T rs spec)
    | none => False
  | none => False

def stRes (ps : List Prop) (nid : Nat) (G : SR) (used : List Nat) : CRes := ⟨ps, rsVal nid G.res, rsBlks G.res, used, [(0, .store G.H)], false⟩
def stRun (row : Bool) (pos esz : Nat) (sh : List Sp) (pre : List Int → List Nat → Hp → Bool → List (List Int) → List Prop) (g : List Int → List Nat → Hp → Bool → List (List Int) → SR) (nid : Nat) (args : List SV) (rd : Nat → Blk) : Option CRes :=
  match rd 0 with
  | .store H => match H with
    | ⟨nd, tr, mp⟩ => match row with
      | false => match flatP sh args with
        | some (l, N) => some (stRes (pre l N ⟨nd, tr, mp⟩ true []) nid (g l N ⟨nd, tr, mp⟩ true []) [])
        | none => none
      | true => match pickAt pos args with
        | some (s, rest) => match flatP sh rest with
          | some (l, N) => match s with
            | .nils => some (stRes (pre l N ⟨nd, tr, mp⟩ true []) nid (g l N ⟨nd, tr, mp⟩ true []) [])
            | .cst v => match v with
              | .slice a k c => match a with
                | none => match k with
                  | 0 => match c with
                    | 0 => some (stRes (pre l N ⟨nd, tr, mp⟩ true []) nid (g l N ⟨nd, tr, mp⟩ true []) [])
                    | _ => none
                  | _ => none
                | some _ => none
              | _ => none
            | .sl id e off len => match rd id with
              | .arr ow ok e' xs => match ow && Nat.beq e esz && Nat.beq e' esz with
                | true => some (stRes (consP [ok = true, off = 0, len ≤ xs.length] (pre l N ⟨nd, tr, mp⟩ false (xs.take len))) nid (g l N ⟨nd, tr, mp⟩ false (xs.take len)) [id])
                | false => none
              | _ => none
            | .osl b id e len => match rd id with
              | .arr ow ok e' xs => match ow && Nat.beq e esz && Nat.beq e' esz with
                | true => some (stRes (consP [b = false → ok = true, len ≤ xs.length] (pre l N ⟨nd, tr, mp⟩ b (xs.take len))) nid (g l N ⟨nd, tr, mp⟩ b (xs.take len)) [id])
                | false => none
              | _ => none
            | _ => none
          | none => none
        | none => none
  | _ => none

/-- A CONTRACT of a function that works on the store, and may use up a slice. -/
theorem con_st {P : Program} {T : Tab} {C : List Con} {pl : Plans} {f : FuncId} {fn : Func} {code : Code} (hf : P.funcs[f]? = some fn) (hb : fn.body = some code) (hn : (fn.name == "runtime.NumGoroutine") = false)
    (hT : T.Ok P) (hC : Cons.Ok P C) (hm : P.follows .mixedOrders = true) (hpl : plansOK pl code = true) (row : Bool) (pos esz : Nat) (sh : List Sp)
    (pre : List Int → List Nat → Hp → Bool → List (List Int) → List Prop) (g : List Int → List Nat → Hp → Bool → List (List Int) → SR)
    (h : ∀ l N H b xs, l.length = totP sh → N.length = ptrP sh → (b = true → xs = []) → (∀ p ∈ pre l N H b xs, p) → EVS P T C pl fn.results.toList fn.ntmps code row pos esz sh l N H b xs (g l N H b xs)) : Con.Ok P ⟨f, stRun row pos esz sh pre g⟩ := by
  refine ⟨⟨fn, hf, by rw [hb]; rfl, hn⟩, fun nid args rd r hr hp m w vs hd hB hap hfr hup hga hgb hone => ?_, fun nid args rd r hr hro => by
    replace hr : stRun _ _ _ _ _ _ nid args rd = some r := hr
    unfold stRun at hr
    repeat' split at hr
    all_goals first | (cases hr; done) | (injection hr with hr; rw [← hr] at hro; exact absurd hro Bool.false_ne_true)⟩
  replace hr : stRun row pos esz sh pre g nid args rd = some r := hr
  unfold stRun at hr
  split at hr
  rotate_left
  · cases hr
  rename_i H0 hH0
  obtain ⟨nd, tr, mp⟩ := H0
  dsimp only at hr
  have hB0 := hB 0
  rw [hH0] at hB0
  obtain ⟨h00, hSt⟩ := hB0
  -- the run
  have fin : ∀ (bad : Bad) (used : List Nat) (m0 : Map) (ss ts : List SV) (h0 : List Blk) (pr : List Prop) (G : SR), r = stRes pr nid G used → (∀ k, bad k → usedAt rd m used k ∨ ∃ kk i, m.g kk i = some k) → bad.g0 = m.g → Dom m0 h0.length →
      Holds w.heap.size bad w m0 ⟨ts, h0⟩ { tmps := vs.toArray ++ Array.replicate (fn.ntmps - vs.toArray.size) undef, defers := [] } w → EV P T C pl code ts h0 (FinQ T fn.results.toList G) →
      Calls P f vs.toArray w (CallPost rd m nid r w) := fun bad used m0 ss ts h0 pr G hres hbad hg0 hdom H hev => by
    subst hres
    have hs := (EV_sound hT hC hm code _ _ _ hpl hev).out w.heap.size bad w m0 _ w hdom H
    refine calls_of_wp hf hb (wp_mono hs fun e a' w' hq => ?_)
    obtain ⟨st', m', k2, k3, k4⟩ := hq
    cases e with
    | ret => exact st_end hT k3 hbad hg0 h00 pr G hfr k4
    | normal => exact st_end hT k3 hbad hg0 h00 pr G hfr k4
    | _ => exact k4.elim
  -- the start
  have start : ∀ (q : Option Place) (used : List Nat) (b : Bool) (xs : List (List Int)) (l : List Int) (N : List Nat) (ss : List SV) (pr : List Prop), r = stRes pr nid (g l N ⟨nd, tr, mp⟩ b xs) used →
      l.length = totP sh → N.length = ptrP sh → (b = true → xs = []) → (∀ p ∈ pre l N ⟨nd, tr, mp⟩ b xs, p) → stArgs row pos esz sh l N b xs = some ss →
      (∀ p, q = some p → usedAt rd m used p.b) → (∀ p, q = some p → ∀ k i c, m.g k i = some c → p.b ≠ c) → (row = false → q = none) →
      All2 (Den (stMap m q)) ss vs →
      (row = true → BlkH (stMap m q) 1 w (.arr true (!b) esz xs)) →
      Calls P f vs.toArray w (CallPost rd m nid r w) := fun q used b xs l N ss pr hres hl hN hbx hpre hss hq1 hq2 hq3 hd0 hB1 => by
    have hev := h l N ⟨nd, tr, mp⟩ b xs hl hN hbx hpre
    unfold EVS at hev
    rw [hss] at hev
    simp only at hev
    split at hev
    rotate_left
    · exact hev.elim
    rename_i ts hts
    obtain ⟨t1, t2, t3⟩ := padO_eq hts
    have hvl := hd0.length
    let bad : Bad := ⟨fun k => usedAt rd m used k ∨ ∃ kk i, m.g kk i = some k, m.g, fun k i b e => Or.inr ⟨k, i, e⟩, m.q⟩
    have live1 : ∀ i, (getB (stBlks row esz ⟨nd, tr, mp⟩ b xs) i).live = true → i = 1 ∧ row = true ∧ b = false := fun i hi => by
      cases row with
      | false =>
        cases i with
        | zero => cases hi
        | succ i => cases i <;> cases hi
      | true =>
        cases i with
        | zero => cases hi
        | succ i =>
          cases i with
          | zero => exact ⟨rfl, rfl, by cases b; rfl; cases hi⟩
          | succ i => cases i <;> cases hi
    have sto1 : ∀ i X, getB (stBlks row esz ⟨nd, tr, mp⟩ b xs) i = .store X → i = 0 := fun i X hi => by
      cases row with
      | false =>
        cases i with
        | zero => rfl
        | succ i => cases i <;> cases hi
      | true =>
        cases i with
        | zero => rfl
        | succ i =>
          cases i with
          | zero => cases hi
          | succ i => cases i <;> cases hi
    refine fin bad used (stMap m q) ss ts _ pr _ hres (fun k hk => hk) rfl (fun i hi => ?_) ⟨rfl, by simp; omega, fun t => ?_, fun i => ?_, fun i j p p' hij o1 o2 => ?_, fun i p o1 o2 => ?_, Kept.refl _ _ _, ⟨Nat.le_refl _, hone.bads rfl (fun k hk => hk)⟩,
      ⟨fun j p k i c o1 o2 o3 => ?_, fun k i c o1 => ⟨Or.inr o1, hgb k i c o1⟩, fun s s' X X' o1 o2 => by rw [sto1 s X o1, sto1 s' X' o2], fun k i c o1 => o1, rfl⟩⟩ hev
    · by_cases e0 : i = 0
      · subst e0; cases row <;> simp [stBlks]
      · by_cases e1 : i = 1
        · subst e1
          cases row with
          | true => simp [stBlks]
          | false =>
            rw [stMap_f, hq3 rfl] at hi
            simp at hi
        · rw [stMap_f, if_neg e0, if_neg e1] at hi
          exact absurd rfl hi
    · rw [t3]
      have hg := getL_den hd0 t
      have e : ({ tmps := vs.toArray ++ Array.replicate (fn.ntmps - vs.toArray.size) undef, defers := [] } : Act).tmps.getD t undef = vs.getD t undef := by
        rw [Array.getD_eq_getD_getElem?]
        by_cases ht : t < vs.length
        · rw [Array.getElem?_append_left (by simpa using ht)]
          simp [List.getD_eq_getElem?_getD]
        · rw [Array.getElem?_append_right (by simpa using Nat.le_of_not_lt ht)]
          have : vs.getD t undef = undef := by rw [List.getD_eq_getElem?_getD, List.getElem?_eq_none (by omega)]; rfl
          rw [this]
          simp only [Array.getElem?_replicate]
          split <;> rfl
      rw [e]; exact hg
    · cases i with
      | zero =>
        have : getB (stBlks row esz ⟨nd, tr, mp⟩ b xs) 0 = .store ⟨nd, tr, mp⟩ := by cases row <;> rfl
        show BlkH _ 0 w (getB (stBlks row esz ⟨nd, tr, mp⟩ b xs) 0)
        rw [this]
        exact ⟨by rw [stMap_f]; simp, StoreH.remap (m := m) (m' := stMap m q) rfl hSt⟩
      | succ i =>
        cases i with
        | zero =>
          cases hrow : row with
          | true => exact hB1 hrow
          | false => trivial
        | succ i => cases row <;> (cases i <;> trivial)
    · have a1 := live1 i (Blk.live_of_own o1)
      have a2 := live1 j o2
      omega
    · obtain ⟨e1, e2, e3⟩ := live1 i (Blk.live_of_own o1)
      subst e1
      have : q = some p := by rw [stMap_f] at o2; simpa using o2
      exact Or.inr (Or.inl (hq1 p this))
    · obtain ⟨e1, e2, e3⟩ := live1 j o1
      subst e1
      have : q = some p := by rw [stMap_f] at o2; simpa using o2
      exact hq2 p this k i c o3
  have norow : ∀ (used : List Nat) (l : List Int) (N : List Nat) (pr : List Prop), row = true → (∀ m' : Map, m'.g = m.g → ∃ ss, stArgs row pos esz sh l N true [] = some ss ∧ All2 (Den m') ss vs) → l.length = totP sh → N.length = ptrP sh → (∀ p ∈ pre l N ⟨nd, tr, mp⟩ true [], p) →
      r = stRes pr nid (g l N ⟨nd, tr, mp⟩ true []) used → Calls P f vs.toArray w (CallPost rd m nid r w) := fun used l N pr hrow hss hl hN hpre hres => by
    obtain ⟨ss, e1, e2⟩ := hss (stMap m none) rfl
    exact start none used true [] l N ss pr hres hl hN (fun _ => rfl) hpre e1 (fun p h => by cases h) (fun p h => by cases h) (fun h => by simp [hrow] at h) e2 (fun _ h => by cases h)
  split at hr
  · split at hr
    rotate_left
    · cases hr
    rename_i l N hl
    cases hr
    obtain ⟨h1, h2, ss, h3, h4⟩ := flatP_mk hl hd
    exact start none [] true [] l N ss _ rfl h1 h2 (fun _ => rfl) hp (by simp only [stArgs, h3]) (fun p h => by cases h) (fun p h => by cases h) (fun _ => rfl) (h4 _ rfl) (fun h => by cases h)
  · split at hr
    rotate_left
    · cases hr
    rename_i s rest hpick
    split at hr
    rotate_left
    · cases hr
    rename_i l N hl
    obtain ⟨v, vr, d1, d2, d3⟩ := pickAt_den (m' := stMap m none) hpick hd
    obtain ⟨h1, h2, ss, h3, h4⟩ := flatP_mk hl d2
    have args : ∀ (m' : Map) (b : Bool) (xs : List (List Int)), m'.g = m.g → (∃ v vr, Den m s v ∧ All2 (Den m) rest vr ∧ True) → True := fun _ _ _ _ _ => trivial
    have ins : ∀ (m' : Map) (s' : SV), m'.g = m.g → (∀ v, Den m s v → Den m' s' v) → ∃ ss', insAt pos s' ss = some ss' ∧ All2 (Den m') ss' vs := fun m' s' hg hs' => by
      obtain ⟨v, vr, d1, d2, d3⟩ := pickAt_den (m' := m') hpick hd
      obtain ⟨_, _, ss2, h3', h4'⟩ := flatP_mk hl d2
      rw [h3] at h3'
      cases h3'
      exact d3 s' ss (hs' v d1) (h4' m' hg)
    have nil : (∀ v, Den m s v → v = .slice none 0 0) → ∀ (m' : Map), m'.g = m.g → ∃ ss, stArgs true pos esz sh l N true [] = some ss ∧ All2 (Den m') ss vs := fun hs m' hg => by
      obtain ⟨ss', e1, e2⟩ := ins m' (rowArg true 1 esz []) hg (fun v hv => hs v hv)
      exact ⟨ss', by simp only [stArgs, h3, e1], e2⟩
    have own : ∀ (id len : Nat) (xs : List (List Int)) (pr : List Prop), rd id = .arr true true esz xs → len ≤ xs.length → (∀ v, Den m s v → ∃ q ad, m id = some q ∧ v = .slice (some ad) len q.c ∧ len ≤ q.c ∧ (0 < q.c → ad = ⟨q.b, q.o, none⟩)) →
        (∀ p ∈ pre l N ⟨nd, tr, mp⟩ false (xs.take len), p) → r = stRes pr nid (g l N ⟨nd, tr, mp⟩ false (xs.take len)) [id] → Calls P f vs.toArray w (CallPost rd m nid r w) := fun id len xs pr hrd hlen hs hpre hres => by
      obtain ⟨q, ad, hq, hv, hlc, had⟩ := hs v d1
      have hll : (xs.take len).length = len := by simp; omega
      obtain ⟨ss', e1, e2⟩ := ins (stMap m (some q)) (rowArg false 1 esz (xs.take len)) rfl (fun v hv => by
        obtain ⟨q', ad', hq', hv', hlc', had'⟩ := hs v hv
        rw [hq] at hq'; cases hq'
        exact ⟨q, ad', q.c, by rw [stMap_f]; simp, by rw [hv', hll], by omega, by rw [hll]; exact hlc', fun hc => by rw [had' hc]; simp⟩)
      have hb := hB id
      rw [hrd] at hb
      refine start (some q) [id] false (xs.take len) l N ss' pr hres h1 h2 (fun h => by cases h) hpre (by simp only [stArgs, h3, e1]) (fun p hp => by cases hp; exact ⟨id, by simp, by rw [hrd]; rfl, q, hq, rfl⟩)
        (fun p hp k i c hc => by cases hp; exact hga id q k i c (by rw [hrd]; rfl) hq hc) (fun h => by cases h) e2 (fun _ => blk_as hb (by rw [stMap_f, hq]; simp) hlen)
    split at hr
    · cases hr
      exact norow [] l N _ rfl (nil (fun v hv => nils_den hv)) h1 h2 hp rfl
    · split at hr
      rotate_left
      · cases hr
      split at hr
      rotate_left
      · cases hr
      split at hr
      rotate_left
      · cases hr
      split at hr
      rotate_left
      · cases hr
      cases hr
      exact norow [] l N _ rfl (nil (fun v hv => hv)) h1 h2 hp rfl
    · rename_i id e off len
      split at hr
      rotate_left
      · cases hr
      rename_i ow ok e' xs hrd
      split at hr
      rotate_left
      · cases hr
      rename_i hq
      simp only [Bool.and_eq_true] at hq
      obtain ⟨⟨rfl, he⟩, he'⟩ := hq
      obtain rfl := Nat.eq_of_beq_eq_true he
      obtain rfl := Nat.eq_of_beq_eq_true he'
      cases hr
      have p0 : ok = true := hp _ (consP_mem.2 (Or.inl (by simp)))
      have p1 : off = 0 := hp _ (consP_mem.2 (Or.inl (by simp)))
      have p2 : len ≤ xs.length := hp _ (consP_mem.2 (Or.inl (by simp)))
      subst p0; subst p1
      refine own id len xs _ hrd p2 (fun v hv => ?_) (fun p hpp => hp p (consP_mem.2 (Or.inr hpp))) rfl
      obtain ⟨q, ad, c, hm', rfl, hc, hlc, had⟩ := hv
      obtain rfl : c = q.c := by omega
      exact ⟨q, ad, hm', rfl, hlc, fun h => by rw [had h]; simp⟩
    · rename_i b id e len
      split at hr
      rotate_left
      · cases hr
      rename_i ow ok e' xs hrd
      split at hr
      rotate_left
      · cases hr
      rename_i hq
      simp only [Bool.and_eq_true] at hq
      obtain ⟨⟨rfl, he⟩, he'⟩ := hq
      obtain rfl := Nat.eq_of_beq_eq_true he
      obtain rfl := Nat.eq_of_beq_eq_true he'
      cases hr
      have p0 : b = false → ok = true := hp _ (consP_mem.2 (Or.inl (by simp)))
      have p2 : len ≤ xs.length := hp _ (consP_mem.2 (Or.inl (by simp)))
      cases b with
      | true =>
        obtain ⟨_, rfl⟩ := d1.1 rfl
        have hpp := fun p hpp => hp p (consP_mem.2 (Or.inr hpp))
        simp only [List.take_zero] at hpp ⊢
        exact norow [id] l N _ rfl (nil (fun v hv => (hv.1 rfl).1)) h1 h2 hpp rfl
      | false =>
        obtain rfl := p0 rfl
        refine own id len xs _ hrd p2 (fun v hv => ?_) (fun p hpp => hp p (consP_mem.2 (Or.inr hpp))) rfl
        obtain ⟨q, ad, c, hm', rfl, rfl, hlc, had⟩ := hv.2 rfl
        exact ⟨q, ad, hm', rfl, hlc, had⟩
    · cases hr
/-- A contract of a function that reads the store alone. -/
def markRo (r : Option CRes) : Option CRes := match r with
  | some r => some ⟨r.pre, r.val, r.nb, r.used, r.upd, true⟩
  | none => none
def roRun (row : Bool) (pos esz : Nat) (sh : List Sp) (pre : List Int → List Nat → Hp → Bool → List (List Int) → List Prop) (g : List Int → List Nat → Hp → Bool → List (List Int) → List RS) (nid : Nat) (args : List SV) (rd : Nat → Blk) : Option CRes :=
  markRo (stRun row pos esz sh pre (fun l N H b xs => ⟨g l N H b xs, H⟩) nid args rd)
theorem stRun_upd {row : Bool} {pos esz : Nat} {sh : List Sp} {pre : List Int → List Nat → Hp → Bool → List (List Int) → List Prop} {g : List Int → List Nat → Hp → Bool → List (List Int) → List RS} {nid : Nat} {args : List SV} {rd : Nat → Blk} {r : CRes}
    (h : stRun row pos esz sh pre (fun l N H b xs => ⟨g l N H b xs, H⟩) nid args rd = some r) : ∃ H, rd 0 = .store H ∧ r.upd = [(0, .store H)] := by
  unfold stRun at h
  split at h
  rotate_left
  · cases h
  rename_i H0 hH0
  refine ⟨H0, hH0, ?_⟩
  obtain ⟨nd, tr, mp⟩ := H0
  dsimp only at h
  repeat' split at h
  all_goals first | (cases h; done) | (injection h with h; subst h; rfl)
theorem con_ro {P : Program} {f : FuncId} {row : Bool} {pos esz : Nat} {sh : List Sp} {pre : List Int → List Nat → Hp → Bool → List (List Int) → List Prop} {g : List Int → List Nat → Hp → Bool → List (List Int) → List RS}
    (h : Con.Ok P ⟨f, stRun row pos esz sh pre (fun l N H b xs => ⟨g l N H b xs, H⟩)⟩) : Con.Ok P ⟨f, roRun row pos esz sh pre g⟩ := by
  refine ⟨h.fn, fun nid args rd r hr hp m w vs hd hB hap hfr hup hga hgb hone => ?_, fun nid args rd r hr hro => ?_⟩
  · replace hr : roRun row pos esz sh pre g nid args rd = some r := hr
    unfold roRun markRo at hr
    split at hr
    · rename_i r0 h0
      injection hr with hr
      subst hr
      exact (h.run nid args rd r0 h0 hp m w vs hd hB hap hfr hup hga hgb hone).mono fun e w' ⟨v, m', k1, k2, k3, k4, k5, k6, k7, k8⟩ => ⟨v, m', k1, k2, k3, k4, k5, k6, k7, ⟨k8.le, k8.new, k8.upd, k8.apart, k8.nosto, k8.q⟩⟩
    · cases hr
  · replace hr : roRun row pos esz sh pre g nid args rd = some r := hr
    unfold roRun markRo at hr
    split at hr
    · rename_i r0 h0
      injection hr with hr
      subst hr
      obtain ⟨H, h1, h2⟩ := stRun_upd h0
      intro x hx
      replace hx : x ∈ r0.upd := hx
      rw [h2, List.mem_singleton] at hx
      rw [hx]
      exact h1.symm
    · cases hr
end Go.Proofs.YtohjifnkajhhnaaGreat.Ev

namespace Go.Proofs.YtohjifnkajhhnaaGreat.Ev
open Go.RowKit
set_option linter.unusedVariables false
set_option linter.unusedSimpArgs false

def UFin (T : Tab) (rs : List ResultVar) (gs esz : Nat) (spec : List (List Int)) (t : List SV) (h : List Blk) : Prop :=
  match resS T ⟨t, h⟩ rs with
  | some r => match r with
    | .tup l => match l with
      | [] => match getL t gs with
        | .here z => match z with
          | 0 => match getB h 0 with
            | .arr ow ok e ys => match ow && ok && Nat.beq e esz with
              | true => Leaf (ys = spec)
              | false => False
            | _ => False
          | _ => False
        | _ => False
      | _ => False
    | _ => False
  | none => False
def FinU (T : Tab) (rs : List ResultVar) (gs esz : Nat) (spec : List (List Int)) (e : Exit) (t : List SV) (h : List Blk) : Prop :=
  match e with
  | .ret => UFin T rs gs esz spec t h
  | .normal => UFin T rs gs esz spec t h
  | _ => False
/-- The slice stands ahead of the numbers; slot gs is one that the function never writes. -/
def EVU (P : Program) (T : Tab) (C : List Con) (pl : Plans) (rs : List ResultVar) (n : Nat) (code : Code) (gs esz : Nat) (sh : List Nat) (l : List Int) (len : Nat) (xs : List (List Int)) (spec : List (List Int)) : Prop :=
  match mkArgs sh l with
  | some ss => match padO (.sl 0 esz 0 len :: ss) n with
    | some ts => EV P T C pl code (setL ts gs (.here 0)) [.arr true true esz xs] (FinU T rs gs esz spec)
    | none => False
  | none => False
def uRes (ps : List Prop) (id esz : Nat) (G : List (List Int)) : CRes := ⟨ps, .tup [], [], [], [(id, .arr true true esz G)], false⟩
def uRun (esz : Nat) (sh : List Nat) (pre : List Int → Nat → List (List Int) → List Prop) (g : List Int → Nat → List (List Int) → List (List Int)) (nid : Nat) (args : List SV) (rd : Nat → Blk) : Option CRes :=
  match args with
  | [] => none
  | s :: rest => match flatA sh rest with
    | none => none
    | some l => match s with
      | .sl id e off len => match rd id with
        | .arr ow ok e' xs => match ow && Nat.beq e esz && Nat.beq e' esz with
          | true => some (uRes (consP [ok = true, off = 0, len ≤ xs.length] (pre l len xs)) id esz (g l len xs))
          | false => none
        | _ => none
      | .osl b id e len => match rd id with
        | .arr ow ok e' xs => match ow && Nat.beq e esz && Nat.beq e' esz with
          | true => some (uRes (consP [b = false, ok = true, len ≤ xs.length] (pre l len xs)) id esz (g l len xs))
          | false => none
        | _ => none
      | _ => none
theorem con_upd {P : Program} {T : Tab} {C : List Con} {pl : Plans} {f : FuncId} {fn : Func} {code : Code} (hf : P.funcs[f]? = some fn) (hb : fn.body = some code) (hn : (fn.name == "runtime.NumGoroutine") = false)
    (hT : T.Ok P) (hC : Cons.Ok P C) (hm : P.follows .mixedOrders = true) (hpl : plansOK pl code = true) (gs esz : Nat) (sh : List Nat) (pre : List Int → Nat → List (List Int) → List Prop) (g : List Int → Nat → List (List Int) → List (List Int))
    (h : ∀ l len xs, l.length = tot sh → len ≤ xs.length → (∀ p ∈ pre l len xs, p) → EVU P T C pl fn.results.toList fn.ntmps code gs esz sh l len xs (g l len xs)) : Con.Ok P ⟨f, uRun esz sh pre g⟩ := by
  refine ⟨⟨fn, hf, by rw [hb]; rfl, hn⟩, fun nid args rd r hr hp m w vs hd hB hap hfr hup hga hgb hone => ?_, fun nid args rd r hr hro => by
    replace hr : uRun _ _ _ _ nid args rd = some r := hr
    unfold uRun at hr
    repeat' split at hr
    all_goals first | (cases hr; done) | (injection hr with hr; rw [← hr] at hro; exact absurd hro Bool.false_ne_true)⟩
  replace hr : uRun esz sh pre g nid args rd = some r := hr
  unfold uRun at hr
  split at hr
  · cases hr
  rename_i s rest
  split at hr
  · cases hr
  rename_i l hl
  cases vs with
  | nil => exact hd.elim
  | cons v vs =>
  obtain ⟨d1, d2⟩ := hd
  -- the run
  have start : ∀ (id len : Nat) (xs : List (List Int)) (ps : List Prop) (q : Place) (ad : Addr), rd id = .arr true true esz xs → len ≤ xs.length → (∀ p ∈ pre l len xs, p) → m id = some q → v = .slice (some ad) len q.c → len ≤ q.c → (0 < q.c → ad = ⟨q.b, q.o, none⟩) →
      r = uRes ps id esz (g l len xs) → Calls P f (v :: vs).toArray w (CallPost rd m nid r w) := fun id len xs ps q ad hrd hlen hpre hq hv hlc had hres => by
    subst hres
    let m0 : Map := ⟨fun i => if i = 0 then some q else none, fun _ _ => none, fun _ _ _ _ _ h => (by cases h), ⟨some q, fun _ => none⟩⟩
    let bad : Bad := ⟨fun k => usedAt rd m [id] k, fun _ _ => none, fun k i b e => (by cases e), ⟨some q, fun _ => none⟩⟩
    obtain ⟨h1, ss, h2, h3⟩ := flatA_mk (m' := m0) hl d2
    have hev := h l len xs h1 hlen hpre
    unfold EVU at hev
    rw [h2] at hev
    simp only at hev
    split at hev
    rotate_left
    · exact hev.elim
    rename_i ts hts
    obtain ⟨t1, t2, t3⟩ := padO_eq hts
    have hd0 : All2 (Den m0) (.sl 0 esz 0 len :: ss) (v :: vs) := ⟨⟨q, ad, q.c, rfl, hv, by omega, hlc, fun h => by rw [had h]; simp⟩, h3⟩
    have hvl := hd0.length
    have hB0 := hB id
    rw [hrd] at hB0
    have live1 : ∀ i, (getB [Blk.arr true true esz xs] i).live = true → i = 0 := fun i hi => by
      cases i with
      | zero => rfl
      | succ i => cases i <;> cases hi
    have hs := (EV_sound hT hC hm code _ _ _ hpl hev).out w.heap.size bad w m0 { tmps := (v :: vs).toArray ++ Array.replicate (fn.ntmps - (v :: vs).toArray.size) undef, defers := [] } w (fun i hi => by
      by_cases e : i = 0
      · subst e; exact Nat.lt_succ_self 0
      · exact absurd (if_neg e) hi) ⟨rfl, by rw [setL_length, t1]; simp; omega, fun t => ?_, fun i => ?_, fun i j p p' hij o1 o2 => ?_, fun i p o1 o2 => ?_, Kept.refl _ _ _, ⟨Nat.le_refl _, fun b o h => (by cases h)⟩,
        ⟨fun j p k i c o1 o2 o3 => (by cases o3), fun k i c o1 => (by cases o1), fun s s' X X' o1 o2 => (by cases s with | zero => cases o1 | succ s => cases s <;> cases o1), fun k i c o1 => (by cases o1), rfl⟩⟩
    rotate_left
    · rw [getL_setL]
      split
      · exact ⟨q, rfl, rfl⟩
      · rw [t3]
        have hg := getL_den hd0 t
        have e : ({ tmps := (v :: vs).toArray ++ Array.replicate (fn.ntmps - (v :: vs).toArray.size) undef, defers := [] } : Act).tmps.getD t undef = (v :: vs).getD t undef := by
          rw [Array.getD_eq_getD_getElem?]
          by_cases ht : t < (v :: vs).length
          · rw [Array.getElem?_append_left (by simpa using ht)]
            simp [List.getD_eq_getElem?_getD]
          · rw [Array.getElem?_append_right (by simpa using Nat.le_of_not_lt ht)]
            have : (v :: vs).getD t undef = undef := by rw [List.getD_eq_getElem?_getD, List.getElem?_eq_none (by omega)]; rfl
            rw [this]
            simp only [Array.getElem?_replicate]
            split <;> rfl
        rw [e]; exact hg
    · cases i with
      | zero =>
        obtain ⟨l0, vs0, ty, fr, e1, e2, e3, e4⟩ := hB0 rfl
        rw [hq] at e1
        cases e1
        exact fun _ => ⟨q, vs0, ty, fr, rfl, e2, e3, e4⟩
      | succ i => cases i <;> trivial
    · have a1 := live1 i (Blk.live_of_own o1)
      have a2 := live1 j o2
      omega
    · have a1 := live1 i (Blk.live_of_own o1)
      subst a1
      cases o2
      exact Or.inr ⟨id, by simp, by rw [hrd]; rfl, q, hq, rfl⟩
    refine calls_of_wp hf hb (wp_mono hs fun e a' w' hq' => ?_)
    obtain ⟨st', m', k2, k3, k4⟩ := hq'
    have fin : UFin T fn.results.toList gs esz (g l len xs) st'.tmps st'.heap → a'.defers = [] ∧ ∃ v, (results fn a'.tmps).run P w' = .ok v w' ∧ CallPost rd m nid (uRes ps id esz (g l len xs)) w (.returned v) w' := fun hfin => by
      unfold UFin at hfin
      split at hfin
      rotate_left
      · exact hfin.elim
      rename_i r hr
      split at hfin
      rotate_left
      · exact hfin.elim
      split at hfin
      rotate_left
      · exact hfin.elim
      split at hfin
      rotate_left
      · exact hfin.elim
      rename_i z hz
      split at hfin
      rotate_left
      · exact hfin.elim
      split at hfin
      rotate_left
      · exact hfin.elim
      rename_i ow ok e' ys hg0
      split at hfin
      rotate_left
      · exact hfin.elim
      rename_i hc
      simp only [Bool.and_eq_true] at hc
      obtain ⟨⟨rfl, rfl⟩, hc⟩ := hc
      obtain rfl := Nat.eq_of_beq_eq_true hc
      have hys := hfin.out
      subst hys
      have hr' : resS T ⟨st'.tmps, st'.heap⟩ fn.results.toList = some (.tup []) := by assumption
      obtain ⟨u, e1, e2⟩ := resS_sound hT k3 hr' (fun l' e => by cases e; rfl)
      have hh := k3.tmp gs
      rw [hz] at hh
      obtain ⟨q', hm1, hm2⟩ := hh
      have : q' = q := by
        have := congrArg Q.pl k3.gok.q
        rw [hm2] at this
        exact Option.some.inj this
      subst this
      have hb0 := k3.blk 0
      rw [hg0] at hb0
      refine ⟨k3.defers, u, e1, u, m, rfl, fun _ _ => rfl, den_tup_nil e2 rfl m, fun k b hk => by simp [uRes] at hk, fun k b p hk => by simp [uRes] at hk, fun k k' b b' p p' _ hk => by simp [uRes] at hk, ?_,
        ⟨fun _ _ _ h => h, fun _ _ _ h => Or.inl h, fun x hx => ?_, fun k b p hk => by simp [uRes] at hk, fun b hb => by simp [uRes] at hb, rfl⟩⟩
      · exact k3.below.mono (Nat.le_refl _) (fun k _ hbk => Or.inr (Or.inl hbk))
      · simp only [uRes, List.mem_singleton] at hx
        subst hx
        obtain ⟨l0, vs0, ty, fr, f1, f2, f3, f4⟩ := hb0 rfl
        rw [hm1] at f1
        cases f1
        exact fun _ => ⟨q', vs0, ty, fr, hq, f2, f3, f4⟩
    cases e with
    | ret => exact fin k4
    | normal => exact fin k4
    | _ => exact k4.elim
  split at hr
  · rename_i id e off len
    split at hr
    rotate_left
    · cases hr
    rename_i ow ok e' xs hrd
    split at hr
    rotate_left
    · cases hr
    rename_i hq
    simp only [Bool.and_eq_true] at hq
    obtain ⟨⟨rfl, he⟩, he'⟩ := hq
    obtain rfl := Nat.eq_of_beq_eq_true he
    obtain rfl := Nat.eq_of_beq_eq_true he'
    cases hr
    have p0 : ok = true := hp _ (consP_mem.2 (Or.inl (by simp)))
    have p1 : off = 0 := hp _ (consP_mem.2 (Or.inl (by simp)))
    have p2 : len ≤ xs.length := hp _ (consP_mem.2 (Or.inl (by simp)))
    subst p0; subst p1
    obtain ⟨q, ad, c, hm', hv, hc, hlc, had⟩ := d1
    obtain rfl : c = q.c := by omega
    exact start id len xs _ q ad hrd p2 (fun p hpp => hp p (consP_mem.2 (Or.inr hpp))) hm' hv hlc (fun h => by rw [had h]; simp) rfl
  · rename_i b id e len
    split at hr
    rotate_left
    · cases hr
    rename_i ow ok e' xs hrd
    split at hr
    rotate_left
    · cases hr
    rename_i hq
    simp only [Bool.and_eq_true] at hq
    obtain ⟨⟨rfl, he⟩, he'⟩ := hq
    obtain rfl := Nat.eq_of_beq_eq_true he
    obtain rfl := Nat.eq_of_beq_eq_true he'
    cases hr
    have p0 : b = false := hp _ (consP_mem.2 (Or.inl (by simp)))
    have p1 : ok = true := hp _ (consP_mem.2 (Or.inl (by simp)))
    have p2 : len ≤ xs.length := hp _ (consP_mem.2 (Or.inl (by simp)))
    subst p0; subst p1
    obtain ⟨q, ad, c, hm', hv, rfl, hlc, had⟩ := d1.2 rfl
    exact start id len xs _ q ad hrd p2 (fun p hpp => hp p (consP_mem.2 (Or.inr hpp))) hm' hv hlc had rfl
  · cases hr
end Go.Proofs.YtohjifnkajhhnaaGreat.Ev

namespace Go.Proofs.YtohjifnkajhhnaaGreat.Ev
open Go.RowKit
set_option linter.unusedVariables false
set_option linter.unusedSimpArgs false

/-- One more edge: the j-th operation stands behind the one numbered by on. -/
def addE : List Oper → Nat → Nat → List Oper
  | [], _, _ => []
  | o :: l, 0, on => ⟨o.dst, o.op, o.type, o.pos, o.after.push ⟨on, .data⟩, o.guard⟩ :: l
  | o :: l, j + 1, on => o :: addE l j on
theorem addE_get : ∀ (l : List Oper) (j on i : Nat), (addE l j on)[i]? = (l[i]?).map fun o => if i = j then ⟨o.dst, o.op, o.type, o.pos, o.after.push ⟨on, .data⟩, o.guard⟩ else o
  | [], j, on, i => by simp [addE]
  | o :: l, 0, on, 0 => by simp [addE]
  | o :: l, 0, on, i + 1 => by simp [addE]
  | o :: l, j + 1, on, 0 => by simp [addE]
  | o :: l, j + 1, on, i + 1 => by simp [addE, addE_get l j on i]

def Val (ops : Array Oper) : Nat → Array Bool → List Nat → Prop
  | 0, _, L => L = []
  | n + 1, listed, L => match L with
    | [] => Region.ready .any ops listed = []
    | i :: r => i ∈ Region.ready .any ops listed ∧ Val ops n (listed.setIfInBounds i true) r
def Bef (i j : Nat) : Array Bool → List Nat → Prop
  | _, [] => True
  | listed, k :: r => (k = j → listed.getD i false = true) ∧ Bef i j (listed.setIfInBounds k true) r

section
variable {P : Program} {ops : Array Oper} {Q : Exit → Act → World → Prop}

theorem lin_val : ∀ (fuel t : Nat) (listed : Array Bool), Val ops fuel listed (Region.linearise.go .any ops fuel t listed []) := by
  intro fuel
  induction fuel with
  | zero => intro t listed; simp [Region.linearise.go, Val]
  | succ fuel ih =>
    intro t listed
    simp only [Region.linearise.go]
    change Val ops (fuel + 1) listed (match (Region.ready .any ops listed)[t % (Region.ready .any ops listed).length]? with
      | some i => Region.linearise.go .any ops fuel (t / (Region.ready .any ops listed).length) (listed.setIfInBounds i true) [i]
      | none => [].reverse)
    cases hi : (Region.ready .any ops listed)[t % (Region.ready .any ops listed).length]? with
    | none =>
      have hnil : Region.ready .any ops listed = [] := by
        cases hr : Region.ready .any ops listed with
        | nil => rfl
        | cons x xs =>
          rw [hr] at hi
          have hlt : t % (x :: xs).length < (x :: xs).length := Nat.mod_lt _ (by simp)
          simp at hi
          simp at hlt
          omega
      simpa [Val] using hnil
    | some i =>
      simp only []
      rw [linearise_go_acc, List.reverse_singleton, List.singleton_append]
      exact ⟨List.mem_of_getElem? hi, ih _ _⟩

theorem wpAny_val : ∀ (fuel : Nat) (listed : Array Bool) (L : List Nat) (a : Act) (w : World), wpAny P .any ops Q fuel listed a w → Val ops fuel listed L → wpOps P ops Q L a w
  | 0, listed, L, a, w, h, hv => by
    have hv : L = [] := hv
    subst hv
    exact h.2
  | fuel + 1, listed, [], a, w, h, hv => h.1 hv
  | fuel + 1, listed, i :: r, a, w, h, hv => by
    rw [wpOps_cons]
    exact wpOp_mono (fun a w k => wpAny_val fuel _ r a w k hv.2) (h.2 i hv.1)

theorem getD_keep {listed : Array Bool} {i k : Nat} (h : listed.getD i false = true) : (listed.setIfInBounds k true).getD i false = true := by
  simp only [Array.getD_eq_getD_getElem?, Array.getElem?_setIfInBounds] at h ⊢
  split
  · rename_i e
    subst e
    split
    · rfl
    · rename_i hs
      rw [Array.getElem?_eq_none (by omega)] at h
      exact h
  · exact h
theorem bef_listed {i j : Nat} : ∀ (L : List Nat) (listed : Array Bool), listed.getD i false = true → Bef i j listed L
  | [], _, _ => trivial
  | k :: r, listed, h => ⟨fun _ => h, bef_listed r _ (getD_keep h)⟩
theorem bef_or {i j : Nat} (hij : i ≠ j) : ∀ (n : Nat) (listed : Array Bool) (L : List Nat), Val ops n listed L → Bef i j listed L ∨ Bef j i listed L
  | _, _, [], _ => Or.inl trivial
  | 0, _, k :: r, h => by cases h
  | n + 1, listed, k :: r, h => by
    have hl : (listed.setIfInBounds k true).getD k false = true := by
      have h0 := (mem_ready.1 h.1).1
      simp only [Array.getD_eq_getD_getElem?, Array.getElem?_setIfInBounds] at h0 ⊢
      by_cases hs : k < listed.size
      · simp [hs]
      · rw [Array.getElem?_eq_none (by omega)] at h0; simp at h0
    by_cases e : k = i
    · subst e
      exact Or.inl ⟨fun e => absurd e hij, bef_listed r _ hl⟩
    · by_cases e2 : k = j
      · subst e2
        exact Or.inr ⟨fun e' => absurd e' e, bef_listed r _ hl⟩
      · rcases bef_or hij n _ r h.2 with h' | h'
        · exact Or.inl ⟨fun e => absurd e e2, h'⟩
        · exact Or.inr ⟨fun e' => absurd e' e, h'⟩

theorem ready_add {i j k : Nat} {listed : Array Bool} : k ∈ Region.ready .any (addE ops.toList j i).toArray listed ↔ k ∈ Region.ready .any ops listed ∧ (k = j → listed.getD i false = true) := by
  simp only [mem_ready, List.getElem?_toArray, addE_get, Array.getElem?_toList]
  constructor
  · rintro ⟨h1, o, ho, h2⟩
    cases hk : ops[k]? with
    | none => rw [hk] at ho; cases ho
    | some o' =>
      rw [hk] at ho
      simp only [Option.map_some, Option.some.injEq] at ho
      by_cases e : k = j
      · rw [if_pos e] at ho
        subst ho
        exact ⟨⟨h1, o', rfl, fun e' he' hb => h2 e' (Array.mem_push.2 (Or.inl he')) hb⟩, fun _ => h2 ⟨i, .data⟩ (Array.mem_push.2 (Or.inr rfl)) rfl⟩
      · rw [if_neg e] at ho
        subst ho
        exact ⟨⟨h1, o', rfl, h2⟩, fun e' => absurd e' e⟩
  · rintro ⟨⟨h1, o, ho, h2⟩, h3⟩
    refine ⟨h1, _, by rw [ho]; rfl, ?_⟩
    dsimp only
    by_cases e : k = j
    · rw [if_pos e]
      intro e' he' hb
      rcases Array.mem_push.1 he' with h4 | h4
      · exact h2 e' h4 hb
      · rw [h4]; exact h3 e
    · rw [if_neg e]; exact h2
theorem val_add {i j : Nat} : ∀ (n : Nat) (listed : Array Bool) (L : List Nat), Val ops n listed L → Bef i j listed L → Val (addE ops.toList j i).toArray n listed L
  | 0, _, L, h, _ => h
  | n + 1, listed, [], h, _ => by
    have h : Region.ready .any ops listed = [] := h
    show Region.ready .any (addE ops.toList j i).toArray listed = []
    refine List.eq_nil_iff_forall_not_mem.2 fun k hk => ?_
    have := (ready_add.1 hk).1
    rw [h] at this; cases this
  | n + 1, listed, k :: r, h, hb => ⟨ready_add.2 ⟨h.1, hb.1⟩, val_add n _ r h.2 hb.2⟩

theorem wpOps_add {i j : Nat} : ∀ (L : List Nat) (a : Act) (w : World), wpOps P (addE ops.toList j i).toArray Q L a w → wpOps P ops Q L a w
  | [], _, _, h => h
  | k :: r, a, w, h => by
    have hy : ∀ (tmps : Array Value), yielded (addE ops.toList j i).toArray tmps = yielded ops tmps := fun tmps => by
      funext x
      unfold yielded
      rw [List.getElem?_toArray, addE_get, Array.getElem?_toList]
      cases ops[x]? with
      | none => rfl
      | some o => by_cases e : x = j <;> simp only [Option.map_some, Option.bind_some, e, if_true, if_false]
    rw [wpOps_cons] at h ⊢
    unfold wpOp at h ⊢
    rw [List.getElem?_toArray, addE_get, Array.getElem?_toList, hy] at h
    cases hk : ops[k]? with
    | none => rw [hk] at h; exact wpOps_add r a w h
    | some o =>
      rw [hk] at h
      simp only [Option.map_some] at h ⊢
      by_cases e : k = j
      · rw [if_pos e] at h
        replace h : if Region.wanted o (yielded ops a.tmps) then o.wp P a w (wpOps P (addE ops.toList j i).toArray Q r) Q ∨ (o.asks P a w ∧ LetsOut Q) else wpOps P (addE ops.toList j i).toArray Q r (a.put o.dst undef) w := h
        split
        · rename_i hw
          rw [if_pos hw] at h
          exact h.imp (fun h => Oper.wp_mono (fun a' w' hh => wpOps_add r a' w' hh) h) id
        · rename_i hw
          rw [if_neg hw] at h
          exact wpOps_add r _ _ h
      · rw [if_neg e] at h
        split
        · rename_i hw
          rw [if_pos hw] at h
          exact h.imp (fun h => Oper.wp_mono (fun a' w' hh => wpOps_add r a' w' hh) h) id
        · rename_i hw
          rw [if_neg hw] at h
          exact wpOps_add r _ _ h
end

noncomputable def evPair (T : Tab) (C : List Con) (l : List Oper) (order ancs : List Nat) (t : List SV) (h : List Blk) (K : KE) : Prop :=
  evRun T C l order t h [] fun recs t' h' => match confB ancs recs recs with
    | true => K .normal t' h'
    | false => False
theorem goes_pair {P : Program} {T : Tab} {C : List Con} (hT : T.Ok P) (hC : Cons.Ok P C) (hm : P.follows .mixedOrders = true) {id : Nat} {ops : Array Oper} {t : List SV} {h : List Blk} {K : KE} (i j : Nat) (hij : i ≠ j) (orderA ancsA orderB ancsB : List Nat)
    (hA : regOK (addE ops.toList j i).toArray orderA ancsA = true) (hB : regOK (addE ops.toList i j).toArray orderB ancsB = true)
    (kA : evPair T C (addE ops.toList j i) orderA ancsA t h K) (kB : evPair T C (addE ops.toList i j) orderB ancsB t h K) : Goes P (.region id ops true) t h K := by
  refine ⟨fun B bad w0 m a w hd H => wp_region_draw fun tt => ?_⟩
  simp only [Region.schedule, hm, Bool.true_or, if_true]
  have hv := lin_val (ops := ops) ops.size tt (Array.replicate ops.size false)
  have hlen : ∀ j i, (addE ops.toList j i).toArray.size = ops.size := fun j i => by
    have : ∀ (l : List Oper) (j i : Nat), (addE l j i).length = l.length := by
      intro l
      induction l with
      | nil => intro j i; rfl
      | cons o l ih => intro j i; cases j <;> simp [addE, ih]
    simp [this]
  have run : ∀ (i j : Nat) (order ancs : List Nat), regOK (addE ops.toList j i).toArray order ancs = true → evPair T C (addE ops.toList j i) order ancs t h K → Bef i j (Array.replicate ops.size false) (Region.linearise.go .any ops ops.size tt (Array.replicate ops.size false) []) →
      wpOps P ops (Post B bad w0 K) (Region.linearise.go .any ops ops.size tt (Array.replicate ops.size false) []) a { w with drawn := w.drawn + 1 } := fun i j order ancs hr hk hb => by
    unfold evPair at hk
    obtain ⟨rs, st', h1, h2, h3⟩ := evRun_out (ops := (addE ops.toList j i).toArray) (st := ⟨t, h⟩) hk
    split at h3
    rotate_left
    · exact h3.elim
    rename_i hconf
    have hconf := confB_conf hconf
    simp only [List.append_nil, List.reverse_reverse] at hconf
    have hw := any_order (Q := Post B bad w0 K) hT hC hr h1 h2 hconf hd H.drew fun m' a' w' _ k2 k3 => ⟨st', m', k2, k3, h3⟩
    rw [hlen] at hw
    exact wpOps_add _ _ _ (wpAny_val _ _ _ _ _ hw (val_add _ _ _ hv hb))
  rcases bef_or hij _ _ _ hv with hb | hb
  · exact run i j orderA ancsA hA kA hb
  · exact run j i orderB ancsB hB kB hb
end Go.Proofs.YtohjifnkajhhnaaGreat.Ev

namespace Go.Proofs.YtohjifnkajhhnaaGreat.Ev
open Go.RowKit
set_option linter.unusedVariables false
set_option linter.unusedSimpArgs false

/-- A law's run, from an empty store; it returns true. -/
def EVT (P : Program) (T : Tab) (C : List Con) (pl : Plans) (rs : List ResultVar) (n : Nat) (code : Code) (ss : List SV) (hs : List Blk) : Prop :=
  match padO ss n with
  | some ts => EV P T C pl code ts (.store ⟨[], [], []⟩ :: hs) (Fin T rs (.bool true))
  | none => False

theorem law_st {P : Program} {T : Tab} {C : List Con} {pl : Plans} {f : FuncId} {fn : Func} {code : Code} (hf : P.funcs[f]? = some fn) (hb : fn.body = some code)
    (hT : T.Ok P) (hC : Cons.Ok P C) (hm : P.follows .mixedOrders = true) (hpl : plansOK pl code = true) {ss : List SV} {hs : List Blk} (h : EVT P T C pl fn.results.toList fn.ntmps code ss hs)
    {mf : Nat → Option Place} {w : World} {vs : List Value} (hd : All2 (Den (Map.of mf)) ss vs) (h0 : mf 0 ≠ none) (hB : ∀ i, BlkH (Map.of mf) (i + 1) w (getB hs i)) (ho : ∀ i, (getB hs i).own = false) (hns : ∀ i H, getB hs i ≠ .store H) (hdom : ∀ i, mf i ≠ none → i ≤ hs.length) :
    Calls P f vs.toArray w (fun e w' => e = .returned (.bool true) ∧ Below w.heap.size w w') := by
  unfold EVT at h
  split at h
  rotate_left
  · exact h.elim
  rename_i ts hts
  have ho' : ∀ i, (getB (Blk.store ⟨[], [], []⟩ :: hs) i).own = false := fun i => by cases i with | zero => rfl | succ i => exact ho i
  have hB' : ∀ i, BlkH (Map.of mf) i w (getB (Blk.store ⟨[], [], []⟩ :: hs) i) := fun i => by
    cases i with
    | zero => exact ⟨h0, ⟨fun i x h => by simp at h, fun i x h => by simp at h, fun i x h => by simp at h, fun k i b h => by cases h⟩⟩
    | succ i => exact hB i
  have hst := holds_start (bad := Bad.no) (m := Map.of mf) (Nat.le_refl w.heap.size) hts hd (fun _ _ => rfl) (fun _ _ => rfl) rfl
  have hs0 : Holds w.heap.size Bad.no w (Map.of mf) ⟨ts, Blk.store ⟨[], [], []⟩ :: hs⟩ { tmps := vs.toArray ++ Array.replicate (fn.ntmps - vs.toArray.size) undef, defers := [] } w :=
    ⟨hst.defers, hst.size, hst.tmp, hB', fun i j p q _ h1 => (by rw [ho'] at h1; cases h1), fun i p h1 => (by rw [ho'] at h1; cases h1), hst.below, hst.base,
      ⟨fun j p k i b _ _ h1 => (by cases h1), hst.gok.own, fun s s' H H' h1 h2 => by
        have key : ∀ s H, getB (Blk.store ⟨[], [], []⟩ :: hs) s = .store H → s = 0 := fun s H h => by
          cases s with
          | zero => rfl
          | succ s => exact absurd h (hns s H)
        rw [key s H h1, key s' H' h2], hst.gok.ext, rfl⟩⟩
  have hrun := (EV_sound hT hC hm code _ _ _ hpl h).out w.heap.size Bad.no w (Map.of mf) _ w (fun id hid => by
    have := hdom id hid
    simp only [List.length_cons]; omega) hs0
  refine calls_of_wp hf hb (wp_mono hrun fun e a' w' hq => ?_)
  obtain ⟨st', m', k2, k3, k4⟩ := hq
  have fin : FinR T fn.results.toList (.bool true) st'.tmps st'.heap → a'.defers = [] ∧ ∃ v, (results fn a'.tmps).run P w' = .ok v w' ∧ ((Ending.returned v) = .returned (.bool true) ∧ Below w.heap.size w w') := fun hfin => by
    unfold FinR at hfin
    split at hfin
    rotate_left
    · exact hfin.elim
    rename_i r hr
    obtain ⟨v, g1, g2⟩ := resS_sound hT k3 hr (fun l' e => by
      subst e
      exact hfin.elim)
    have hv : Den m' (.bool true) v := hfin.den g2
    obtain rfl : v = .bool true := hv
    exact ⟨k3.defers, _, g1, rfl, k3.below.below fun k hb => hb.elim⟩
  cases e with
  | ret => exact fin k4
  | normal => exact fin k4
  | _ => exact k4.elim
end Go.Proofs.YtohjifnkajhhnaaGreat.Ev

namespace Go.Proofs.YtohjifnkajhhnaaGreat.Ev
open Go.RowKit
set_option linter.unusedVariables false
set_option linter.unusedSimpArgs false

/-- The first part reckoned; what is left stands as a goal of its own. -/
theorem goes_cut {P : Program} {T : Tab} {C : List Con} {pl : Plans} (hT : T.Ok P) (hC : Cons.Ok P C) (hm : P.follows .mixedOrders = true) {x y : Code} (hpl : plansOK pl x = true) {t : List SV} {h : List Blk} {K : KE}
    (hx : EV P T C pl x t h fun e t' h' => match e with
      | .normal => Goes P y t' h' K
      | e => K e t' h') : Goes P (.seq x y) t h K := by
  refine ⟨fun B bad w0 m a w hd H => wp_seq (wp_mono ((EV_sound hT hC hm x t h _ hpl hx).out B bad w0 m a w hd H) fun e a' w' hq => ?_)⟩
  obtain ⟨st', m', h2, h3, h4⟩ := hq
  cases e with
  | normal => exact h4.out B bad w0 m' a' w' h2 h3
  | _ => exact ⟨st', m', h2, h3, h4⟩
theorem goes_all {P : Program} {T : Tab} {C : List Con} {pl : Plans} (hT : T.Ok P) (hC : Cons.Ok P C) (hm : P.follows .mixedOrders = true) {x : Code} (hpl : plansOK pl x = true) {t : List SV} {h : List Blk} {K : KE} (hx : EV P T C pl x t h K) : Goes P x t h K := EV_sound hT hC hm x t h K hpl hx
def GVS (P : Program) (T : Tab) (rs : List ResultVar) (n : Nat) (code : Code) (row : Bool) (pos esz : Nat) (sh : List Sp) (l : List Int) (N : List Nat) (H : Hp) (b : Bool) (xs : List (List Int)) (spec : SR) : Prop :=
  match stArgs row pos esz sh l N b xs with
  | some ss => match padO ss n with
    | some ts => Goes P code ts (stBlks row esz H b xs) (FinQ T rs spec)
    | none => False
  | none => False

/-- A CONTRACT of a function that works on the store, and may use up a slice. -/
theorem con_stG {P : Program} {T : Tab} {f : FuncId} {fn : Func} {code : Code} (hf : P.funcs[f]? = some fn) (hb : fn.body = some code) (hn : (fn.name == "runtime.NumGoroutine") = false)
    (hT : T.Ok P) (row : Bool) (pos esz : Nat) (sh : List Sp)
    (pre : List Int → List Nat → Hp → Bool → List (List Int) → List Prop) (g : List Int → List Nat → Hp → Bool → List (List Int) → SR)
    (h : ∀ l N H b xs, l.length = totP sh → N.length = ptrP sh → (b = true → xs = []) → (∀ p ∈ pre l N H b xs, p) → GVS P T fn.results.toList fn.ntmps code row pos esz sh l N H b xs (g l N H b xs)) : Con.Ok P ⟨f, stRun row pos esz sh pre g⟩ := by
  refine ⟨⟨fn, hf, by rw [hb]; rfl, hn⟩, fun nid args rd r hr hp m w vs hd hB hap hfr hup hga hgb hone => ?_, fun nid args rd r hr hro => by
    replace hr : stRun _ _ _ _ _ _ nid args rd = some r := hr
    unfold stRun at hr
    repeat' split at hr
    all_goals first | (cases hr; done) | (injection hr with hr; rw [← hr] at hro; exact absurd hro Bool.false_ne_true)⟩
  replace hr : stRun row pos esz sh pre g nid args rd = some r := hr
  unfold stRun at hr
  split at hr
  rotate_left
  · cases hr
  rename_i H0 hH0
  obtain ⟨nd, tr, mp⟩ := H0
  dsimp only at hr
  have hB0 := hB 0
  rw [hH0] at hB0
  obtain ⟨h00, hSt⟩ := hB0
  -- the run
  have fin : ∀ (bad : Bad) (used : List Nat) (m0 : Map) (ss ts : List SV) (h0 : List Blk) (pr : List Prop) (G : SR), r = stRes pr nid G used → (∀ k, bad k → usedAt rd m used k ∨ ∃ kk i, m.g kk i = some k) → bad.g0 = m.g → Dom m0 h0.length →
      Holds w.heap.size bad w m0 ⟨ts, h0⟩ { tmps := vs.toArray ++ Array.replicate (fn.ntmps - vs.toArray.size) undef, defers := [] } w → Goes P code ts h0 (FinQ T fn.results.toList G) →
      Calls P f vs.toArray w (CallPost rd m nid r w) := fun bad used m0 ss ts h0 pr G hres hbad hg0 hdom H hev => by
    subst hres
    have hs := hev.out w.heap.size bad w m0 _ w hdom H
    refine calls_of_wp hf hb (wp_mono hs fun e a' w' hq => ?_)
    obtain ⟨st', m', k2, k3, k4⟩ := hq
    cases e with
    | ret => exact st_end hT k3 hbad hg0 h00 pr G hfr k4
    | normal => exact st_end hT k3 hbad hg0 h00 pr G hfr k4
    | _ => exact k4.elim
  -- the start
  have start : ∀ (q : Option Place) (used : List Nat) (b : Bool) (xs : List (List Int)) (l : List Int) (N : List Nat) (ss : List SV) (pr : List Prop), r = stRes pr nid (g l N ⟨nd, tr, mp⟩ b xs) used →
      l.length = totP sh → N.length = ptrP sh → (b = true → xs = []) → (∀ p ∈ pre l N ⟨nd, tr, mp⟩ b xs, p) → stArgs row pos esz sh l N b xs = some ss →
      (∀ p, q = some p → usedAt rd m used p.b) → (∀ p, q = some p → ∀ k i c, m.g k i = some c → p.b ≠ c) → (row = false → q = none) →
      All2 (Den (stMap m q)) ss vs →
      (row = true → BlkH (stMap m q) 1 w (.arr true (!b) esz xs)) →
      Calls P f vs.toArray w (CallPost rd m nid r w) := fun q used b xs l N ss pr hres hl hN hbx hpre hss hq1 hq2 hq3 hd0 hB1 => by
    have hev := h l N ⟨nd, tr, mp⟩ b xs hl hN hbx hpre
    unfold GVS at hev
    rw [hss] at hev
    simp only at hev
    split at hev
    rotate_left
    · exact hev.elim
    rename_i ts hts
    obtain ⟨t1, t2, t3⟩ := padO_eq hts
    have hvl := hd0.length
    let bad : Bad := ⟨fun k => usedAt rd m used k ∨ ∃ kk i, m.g kk i = some k, m.g, fun k i b e => Or.inr ⟨k, i, e⟩, m.q⟩
    have live1 : ∀ i, (getB (stBlks row esz ⟨nd, tr, mp⟩ b xs) i).live = true → i = 1 ∧ row = true ∧ b = false := fun i hi => by
      cases row with
      | false =>
        cases i with
        | zero => cases hi
        | succ i => cases i <;> cases hi
      | true =>
        cases i with
        | zero => cases hi
        | succ i =>
          cases i with
          | zero => exact ⟨rfl, rfl, by cases b; rfl; cases hi⟩
          | succ i => cases i <;> cases hi
    have sto1 : ∀ i X, getB (stBlks row esz ⟨nd, tr, mp⟩ b xs) i = .store X → i = 0 := fun i X hi => by
      cases row with
      | false =>
        cases i with
        | zero => rfl
        | succ i => cases i <;> cases hi
      | true =>
        cases i with
        | zero => rfl
        | succ i =>
          cases i with
          | zero => cases hi
          | succ i => cases i <;> cases hi
    refine fin bad used (stMap m q) ss ts _ pr _ hres (fun k hk => hk) rfl (fun i hi => ?_) ⟨rfl, by simp; omega, fun t => ?_, fun i => ?_, fun i j p p' hij o1 o2 => ?_, fun i p o1 o2 => ?_, Kept.refl _ _ _, ⟨Nat.le_refl _, hone.bads rfl (fun k hk => hk)⟩,
      ⟨fun j p k i c o1 o2 o3 => ?_, fun k i c o1 => ⟨Or.inr o1, hgb k i c o1⟩, fun s s' X X' o1 o2 => by rw [sto1 s X o1, sto1 s' X' o2], fun k i c o1 => o1, rfl⟩⟩ hev
    · by_cases e0 : i = 0
      · subst e0; cases row <;> simp [stBlks]
      · by_cases e1 : i = 1
        · subst e1
          cases row with
          | true => simp [stBlks]
          | false =>
            rw [stMap_f, hq3 rfl] at hi
            simp at hi
        · rw [stMap_f, if_neg e0, if_neg e1] at hi
          exact absurd rfl hi
    · rw [t3]
      have hg := getL_den hd0 t
      have e : ({ tmps := vs.toArray ++ Array.replicate (fn.ntmps - vs.toArray.size) undef, defers := [] } : Act).tmps.getD t undef = vs.getD t undef := by
        rw [Array.getD_eq_getD_getElem?]
        by_cases ht : t < vs.length
        · rw [Array.getElem?_append_left (by simpa using ht)]
          simp [List.getD_eq_getElem?_getD]
        · rw [Array.getElem?_append_right (by simpa using Nat.le_of_not_lt ht)]
          have : vs.getD t undef = undef := by rw [List.getD_eq_getElem?_getD, List.getElem?_eq_none (by omega)]; rfl
          rw [this]
          simp only [Array.getElem?_replicate]
          split <;> rfl
      rw [e]; exact hg
    · cases i with
      | zero =>
        have : getB (stBlks row esz ⟨nd, tr, mp⟩ b xs) 0 = .store ⟨nd, tr, mp⟩ := by cases row <;> rfl
        show BlkH _ 0 w (getB (stBlks row esz ⟨nd, tr, mp⟩ b xs) 0)
        rw [this]
        exact ⟨by rw [stMap_f]; simp, StoreH.remap (m := m) (m' := stMap m q) rfl hSt⟩
      | succ i =>
        cases i with
        | zero =>
          cases hrow : row with
          | true => exact hB1 hrow
          | false => trivial
        | succ i => cases row <;> (cases i <;> trivial)
    · have a1 := live1 i (Blk.live_of_own o1)
      have a2 := live1 j o2
      omega
    · obtain ⟨e1, e2, e3⟩ := live1 i (Blk.live_of_own o1)
      subst e1
      have : q = some p := by rw [stMap_f] at o2; simpa using o2
      exact Or.inr (Or.inl (hq1 p this))
    · obtain ⟨e1, e2, e3⟩ := live1 j o1
      subst e1
      have : q = some p := by rw [stMap_f] at o2; simpa using o2
      exact hq2 p this k i c o3
  have norow : ∀ (used : List Nat) (l : List Int) (N : List Nat) (pr : List Prop), row = true → (∀ m' : Map, m'.g = m.g → ∃ ss, stArgs row pos esz sh l N true [] = some ss ∧ All2 (Den m') ss vs) → l.length = totP sh → N.length = ptrP sh → (∀ p ∈ pre l N ⟨nd, tr, mp⟩ true [], p) →
      r = stRes pr nid (g l N ⟨nd, tr, mp⟩ true []) used → Calls P f vs.toArray w (CallPost rd m nid r w) := fun used l N pr hrow hss hl hN hpre hres => by
    obtain ⟨ss, e1, e2⟩ := hss (stMap m none) rfl
    exact start none used true [] l N ss pr hres hl hN (fun _ => rfl) hpre e1 (fun p h => by cases h) (fun p h => by cases h) (fun h => by simp [hrow] at h) e2 (fun _ h => by cases h)
  split at hr
  · split at hr
    rotate_left
    · cases hr
    rename_i l N hl
    cases hr
    obtain ⟨h1, h2, ss, h3, h4⟩ := flatP_mk hl hd
    exact start none [] true [] l N ss _ rfl h1 h2 (fun _ => rfl) hp (by simp only [stArgs, h3]) (fun p h => by cases h) (fun p h => by cases h) (fun _ => rfl) (h4 _ rfl) (fun h => by cases h)
  · split at hr
    rotate_left
    · cases hr
    rename_i s rest hpick
    split at hr
    rotate_left
    · cases hr
    rename_i l N hl
    obtain ⟨v, vr, d1, d2, d3⟩ := pickAt_den (m' := stMap m none) hpick hd
    obtain ⟨h1, h2, ss, h3, h4⟩ := flatP_mk hl d2
    have args : ∀ (m' : Map) (b : Bool) (xs : List (List Int)), m'.g = m.g → (∃ v vr, Den m s v ∧ All2 (Den m) rest vr ∧ True) → True := fun _ _ _ _ _ => trivial
    have ins : ∀ (m' : Map) (s' : SV), m'.g = m.g → (∀ v, Den m s v → Den m' s' v) → ∃ ss', insAt pos s' ss = some ss' ∧ All2 (Den m') ss' vs := fun m' s' hg hs' => by
      obtain ⟨v, vr, d1, d2, d3⟩ := pickAt_den (m' := m') hpick hd
      obtain ⟨_, _, ss2, h3', h4'⟩ := flatP_mk hl d2
      rw [h3] at h3'
      cases h3'
      exact d3 s' ss (hs' v d1) (h4' m' hg)
    have nil : (∀ v, Den m s v → v = .slice none 0 0) → ∀ (m' : Map), m'.g = m.g → ∃ ss, stArgs true pos esz sh l N true [] = some ss ∧ All2 (Den m') ss vs := fun hs m' hg => by
      obtain ⟨ss', e1, e2⟩ := ins m' (rowArg true 1 esz []) hg (fun v hv => hs v hv)
      exact ⟨ss', by simp only [stArgs, h3, e1], e2⟩
    have own : ∀ (id len : Nat) (xs : List (List Int)) (pr : List Prop), rd id = .arr true true esz xs → len ≤ xs.length → (∀ v, Den m s v → ∃ q ad, m id = some q ∧ v = .slice (some ad) len q.c ∧ len ≤ q.c ∧ (0 < q.c → ad = ⟨q.b, q.o, none⟩)) →
        (∀ p ∈ pre l N ⟨nd, tr, mp⟩ false (xs.take len), p) → r = stRes pr nid (g l N ⟨nd, tr, mp⟩ false (xs.take len)) [id] → Calls P f vs.toArray w (CallPost rd m nid r w) := fun id len xs pr hrd hlen hs hpre hres => by
      obtain ⟨q, ad, hq, hv, hlc, had⟩ := hs v d1
      have hll : (xs.take len).length = len := by simp; omega
      obtain ⟨ss', e1, e2⟩ := ins (stMap m (some q)) (rowArg false 1 esz (xs.take len)) rfl (fun v hv => by
        obtain ⟨q', ad', hq', hv', hlc', had'⟩ := hs v hv
        rw [hq] at hq'; cases hq'
        exact ⟨q, ad', q.c, by rw [stMap_f]; simp, by rw [hv', hll], by omega, by rw [hll]; exact hlc', fun hc => by rw [had' hc]; simp⟩)
      have hb := hB id
      rw [hrd] at hb
      refine start (some q) [id] false (xs.take len) l N ss' pr hres h1 h2 (fun h => by cases h) hpre (by simp only [stArgs, h3, e1]) (fun p hp => by cases hp; exact ⟨id, by simp, by rw [hrd]; rfl, q, hq, rfl⟩)
        (fun p hp k i c hc => by cases hp; exact hga id q k i c (by rw [hrd]; rfl) hq hc) (fun h => by cases h) e2 (fun _ => blk_as hb (by rw [stMap_f, hq]; simp) hlen)
    split at hr
    · cases hr
      exact norow [] l N _ rfl (nil (fun v hv => nils_den hv)) h1 h2 hp rfl
    · split at hr
      rotate_left
      · cases hr
      split at hr
      rotate_left
      · cases hr
      split at hr
      rotate_left
      · cases hr
      split at hr
      rotate_left
      · cases hr
      cases hr
      exact norow [] l N _ rfl (nil (fun v hv => hv)) h1 h2 hp rfl
    · rename_i id e off len
      split at hr
      rotate_left
      · cases hr
      rename_i ow ok e' xs hrd
      split at hr
      rotate_left
      · cases hr
      rename_i hq
      simp only [Bool.and_eq_true] at hq
      obtain ⟨⟨rfl, he⟩, he'⟩ := hq
      obtain rfl := Nat.eq_of_beq_eq_true he
      obtain rfl := Nat.eq_of_beq_eq_true he'
      cases hr
      have p0 : ok = true := hp _ (consP_mem.2 (Or.inl (by simp)))
      have p1 : off = 0 := hp _ (consP_mem.2 (Or.inl (by simp)))
      have p2 : len ≤ xs.length := hp _ (consP_mem.2 (Or.inl (by simp)))
      subst p0; subst p1
      refine own id len xs _ hrd p2 (fun v hv => ?_) (fun p hpp => hp p (consP_mem.2 (Or.inr hpp))) rfl
      obtain ⟨q, ad, c, hm', rfl, hc, hlc, had⟩ := hv
      obtain rfl : c = q.c := by omega
      exact ⟨q, ad, hm', rfl, hlc, fun h => by rw [had h]; simp⟩
    · rename_i b id e len
      split at hr
      rotate_left
      · cases hr
      rename_i ow ok e' xs hrd
      split at hr
      rotate_left
      · cases hr
      rename_i hq
      simp only [Bool.and_eq_true] at hq
      obtain ⟨⟨rfl, he⟩, he'⟩ := hq
      obtain rfl := Nat.eq_of_beq_eq_true he
      obtain rfl := Nat.eq_of_beq_eq_true he'
      cases hr
      have p0 : b = false → ok = true := hp _ (consP_mem.2 (Or.inl (by simp)))
      have p2 : len ≤ xs.length := hp _ (consP_mem.2 (Or.inl (by simp)))
      cases b with
      | true =>
        obtain ⟨_, rfl⟩ := d1.1 rfl
        have hpp := fun p hpp => hp p (consP_mem.2 (Or.inr hpp))
        simp only [List.take_zero] at hpp ⊢
        exact norow [id] l N _ rfl (nil (fun v hv => (hv.1 rfl).1)) h1 h2 hpp rfl
      | false =>
        obtain rfl := p0 rfl
        refine own id len xs _ hrd p2 (fun v hv => ?_) (fun p hpp => hp p (consP_mem.2 (Or.inr hpp))) rfl
        obtain ⟨q, ad, c, hm', rfl, rfl, hlc, had⟩ := hv.2 rfl
        exact ⟨q, ad, hm', rfl, hlc, had⟩
    · cases hr
/-- A law's run, from an empty store; it returns true. -/
def GVT (P : Program) (T : Tab) (rs : List ResultVar) (n : Nat) (code : Code) (ss : List SV) (hs : List Blk) : Prop :=
  match padO ss n with
  | some ts => Goes P code ts (.store ⟨[], [], []⟩ :: hs) (Fin T rs (.bool true))
  | none => False

theorem law_stG {P : Program} {T : Tab} {f : FuncId} {fn : Func} {code : Code} (hf : P.funcs[f]? = some fn) (hb : fn.body = some code)
    (hT : T.Ok P) {ss : List SV} {hs : List Blk} (h : GVT P T fn.results.toList fn.ntmps code ss hs)
    {mf : Nat → Option Place} {w : World} {vs : List Value} (hd : All2 (Den (Map.of mf)) ss vs) (h0 : mf 0 ≠ none) (hB : ∀ i, BlkH (Map.of mf) (i + 1) w (getB hs i)) (ho : ∀ i, (getB hs i).own = false) (hns : ∀ i H, getB hs i ≠ .store H) (hdom : ∀ i, mf i ≠ none → i ≤ hs.length) :
    Calls P f vs.toArray w (fun e w' => e = .returned (.bool true) ∧ Below w.heap.size w w') := by
  unfold GVT at h
  split at h
  rotate_left
  · exact h.elim
  rename_i ts hts
  have ho' : ∀ i, (getB (Blk.store ⟨[], [], []⟩ :: hs) i).own = false := fun i => by cases i with | zero => rfl | succ i => exact ho i
  have hB' : ∀ i, BlkH (Map.of mf) i w (getB (Blk.store ⟨[], [], []⟩ :: hs) i) := fun i => by
    cases i with
    | zero => exact ⟨h0, ⟨fun i x h => by simp at h, fun i x h => by simp at h, fun i x h => by simp at h, fun k i b h => by cases h⟩⟩
    | succ i => exact hB i
  have hst := holds_start (bad := Bad.no) (m := Map.of mf) (Nat.le_refl w.heap.size) hts hd (fun _ _ => rfl) (fun _ _ => rfl) rfl
  have hs0 : Holds w.heap.size Bad.no w (Map.of mf) ⟨ts, Blk.store ⟨[], [], []⟩ :: hs⟩ { tmps := vs.toArray ++ Array.replicate (fn.ntmps - vs.toArray.size) undef, defers := [] } w :=
    ⟨hst.defers, hst.size, hst.tmp, hB', fun i j p q _ h1 => (by rw [ho'] at h1; cases h1), fun i p h1 => (by rw [ho'] at h1; cases h1), hst.below, hst.base,
      ⟨fun j p k i b _ _ h1 => (by cases h1), hst.gok.own, fun s s' H H' h1 h2 => by
        have key : ∀ s H, getB (Blk.store ⟨[], [], []⟩ :: hs) s = .store H → s = 0 := fun s H h => by
          cases s with
          | zero => rfl
          | succ s => exact absurd h (hns s H)
        rw [key s H h1, key s' H' h2], hst.gok.ext, rfl⟩⟩
  have hrun := h.out w.heap.size Bad.no w (Map.of mf) _ w (fun id hid => by
    have := hdom id hid
    simp only [List.length_cons]; omega) hs0
  refine calls_of_wp hf hb (wp_mono hrun fun e a' w' hq => ?_)
  obtain ⟨st', m', k2, k3, k4⟩ := hq
  have fin : FinR T fn.results.toList (.bool true) st'.tmps st'.heap → a'.defers = [] ∧ ∃ v, (results fn a'.tmps).run P w' = .ok v w' ∧ ((Ending.returned v) = .returned (.bool true) ∧ Below w.heap.size w w') := fun hfin => by
    unfold FinR at hfin
    split at hfin
    rotate_left
    · exact hfin.elim
    rename_i r hr
    obtain ⟨v, g1, g2⟩ := resS_sound hT k3 hr (fun l' e => by
      subst e
      exact hfin.elim)
    have hv : Den m' (.bool true) v := hfin.den g2
    obtain rfl : v = .bool true := hv
    exact ⟨k3.defers, _, g1, rfl, k3.below.below fun k hb => hb.elim⟩
  cases e with
  | ret => exact fin k4
  | normal => exact fin k4
  | _ => exact k4.elim
/-- A state told by letters. -/
theorem goes_mid {P : Program} {c : Code} {t : List SV} {h : List Blk} {K : KE} {X : Type} (I : X → List SV × List Blk) (p : X → Prop) (x0 : X) (r0 : List Nat) (h0 : p x0) (ht : RTL r0 (I x0).1 t) (hb : RBL r0 r0 h (I x0).2)
    (go : ∀ x, p x → Goes P c (I x).1 (I x).2 K) : Goes P c t h K := by
  refine ⟨fun B bad w0 m a w hd H => ?_⟩
  obtain ⟨h1, h2⟩ := H.less ht hb
  exact (go x0 h0).out B bad w0 _ a w h2 h1
/-- A loop, by a relation, whose rounds are told in parts. -/
theorem goes_invG {P : Program} {c : Code} {t : List SV} {h : List Blk} {K : KE} {X : Type} (I : X → List SV × List Blk) (p : X → Prop) (μ : X → Nat)
    (x0 : X) (r0 : List Nat) (h0 : p x0) (ht : RTL r0 (I x0).1 t) (hb : RBL r0 r0 h (I x0).2)
    (round : ∀ x, p x → Goes P c (I x).1 (I x).2 (nextK (Again I p μ (μ x)) K)) : Goes P (.loop c) t h K := by
  refine ⟨fun B bad w0 m a w hd H => ?_⟩
  obtain ⟨h1, h2⟩ := H.less ht hb
  refine wp_loop_ghost (fun n a w => ∃ x m, μ x = n ∧ p x ∧ Dom m (I x).2.length ∧ Holds B bad w0 m ⟨(I x).1, (I x).2⟩ a w) (μ x0) ⟨x0, _, rfl, h0, h2, h1⟩ ?_
  rintro n a w ⟨x, m, rfl, hp, hd, H⟩
  refine wp_mono ((round x hp).out B bad w0 m a w hd H) fun e a' w' hq => ?_
  obtain ⟨st', m', g2, g3, g4⟩ := hq
  cases e with
  | normal =>
    obtain ⟨x', r', k1, k2, k3, k4⟩ := (show Again I p μ (μ x) st'.tmps st'.heap from g4).out
    obtain ⟨j1, j2⟩ := g3.less k3 k4
    exact ⟨μ x', k2, x', _, rfl, k1, j2, j1⟩
  | _ => exact ⟨st', m', g2, g3, g4⟩
/-- A contract whose value is known where it is called. -/
def pinV (v want : SV) : Option (List Prop) := match want with
  | .blit c => match v with
    | .bool b => some [b = c]
    | _ => none
  | .lit k n => match v with
    | .int k' n' => match decide (k' = k) with
      | true => some [n' = n]
      | false => none
    | _ => none
  | _ => none
def pinR (want : SV) (o : Option CRes) : Option CRes := match o with
  | some r => match pinV r.val want with
    | some p => some ⟨appP p r.pre, want, r.nb, r.used, r.upd, r.ro⟩
    | none => none
  | none => none
def pin (c : Con) (want : SV) : Con := ⟨c.f, fun nid args rd => pinR want (c.run nid args rd)⟩
theorem pinV_den {v want : SV} {p : List Prop} (h : pinV v want = some p) (hp : ∀ q ∈ p, q) {m : Map} {x : Value} (d : Den m v x) : Den m want x := by
  unfold pinV at h
  split at h
  · split at h
    · cases h
      have := hp _ (List.mem_singleton.2 rfl)
      subst this
      exact d
    · cases h
  · split at h
    · split at h
      · rename_i hk
        cases h
        have := hp _ (List.mem_singleton.2 rfl)
        subst this
        have hk := of_decide_eq_true hk
        subst hk
        exact d
      · cases h
    · cases h
  · cases h
theorem pin_ok {P : Program} {c : Con} (h : c.Ok P) (want : SV) : (pin c want).Ok P := by
  refine ⟨h.fn, fun nid args rd r hr hp m w vs hd hB hap hfr hup hga hgb hone => ?_, fun nid args rd r hr hro => ?_⟩
  · replace hr : pinR want (c.run nid args rd) = some r := hr
    unfold pinR at hr
    split at hr
    rotate_left
    · cases hr
    rename_i r0 h0
    split at hr
    rotate_left
    · cases hr
    rename_i p hpv
    injection hr with hr
    subst hr
    exact (h.run nid args rd r0 h0 (fun q hq => hp q (appP_mem.2 (Or.inr hq))) m w vs hd hB hap hfr hup hga hgb hone).mono fun e w' ⟨v, m', k1, k2, k3, k4, k5, k6, k7, k8⟩ =>
      ⟨v, m', k1, k2, pinV_den hpv (fun q hq => hp q (appP_mem.2 (Or.inl hq))) k3, k4, k5, k6, k7, ⟨k8.le, k8.new, k8.upd, k8.apart, k8.nosto, k8.q⟩⟩
  · replace hr : pinR want (c.run nid args rd) = some r := hr
    unfold pinR at hr
    split at hr
    rotate_left
    · cases hr
    rename_i r0 h0
    split at hr
    rotate_left
    · cases hr
    injection hr with hr
    subst hr
    exact h.ro nid args rd r0 h0 hro
end Go.Proofs.YtohjifnkajhhnaaGreat.Ev
