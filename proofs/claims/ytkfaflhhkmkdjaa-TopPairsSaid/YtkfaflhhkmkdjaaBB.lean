/- Trees of boxes in a store: their shape, and what the small steps do to it. No program in sight. Trees of boxes in a store: turning and balancing. No program in sight. Trees of boxes in a store: a leaf laid into one, a leaf taken out. No program in sight. A segment that meets a box meets every box around it (from chapter 5's laws). No program in sight. Trees of boxes in a store: what is found below a node; the map of a tree. No program in sight. A tree of boxes in a store holds these boxes: what each method does to it. No program in sight. Sequences of what the methods do: the example of chapter 20; an operation. No program in sight. The law of heights, in plain Lean. No program in sight. -/
import Derived.Test.YtkfaflhhkmkdjaaBA
import Derived.Test.YtkfaflhhkmkdjaaKA
namespace Go.Proofs.Ytkfaflhhkmkdjaa
open Fx Vx Bx Ev
set_option linter.unusedVariables false
set_option linter.unusedSimpArgs false

/-- A leaf: where it lies, its box, its number. -/
structure Lv where
  p : Nat
  a : Int
  b : Int
  c : Int
  d : Int
  id : Int
inductive BT where
  | lf (x : Lv)
  | nd (p : Nat) (l r : BT)
namespace BT
def root : BT → Nat
  | lf x => x.p
  | nd p _ _ => p
def ht : BT → Nat
  | lf _ => 1
  | nd _ l r => 1 + max l.ht r.ht
def fp : BT → List Nat
  | lf x => [x.p]
  | nd p l r => p :: (l.fp ++ r.fp)
def lvs : BT → List Lv
  | lf x => [x]
  | nd _ l r => l.lvs ++ r.lvs
def x0 : BT → Int
  | lf x => x.a
  | nd _ l r => min l.x0 r.x0
def x1 : BT → Int
  | lf x => x.b
  | nd _ l r => min l.x1 r.x1
def x2 : BT → Int
  | lf x => x.c
  | nd _ l r => max l.x2 r.x2
def x3 : BT → Int
  | lf x => x.d
  | nd _ l r => max l.x3 r.x3
def bal : BT → Prop
  | lf _ => True
  | nd _ l r => l.bal ∧ r.bal ∧ l.ht ≤ r.ht + 1 ∧ r.ht ≤ l.ht + 1
def val (T : BT) : Prop := ∀ x ∈ T.lvs, validB x.a x.b x.c x.d = true
theorem root_fp (T : BT) : T.root ∈ T.fp := by cases T <;> simp [root, fp]
theorem ht_pos (T : BT) : 0 < T.ht := by cases T <;> simp [ht] <;> omega
end BT
theorem validB_iff {a b c d : Int} : validB a b c d = true ↔ a ≤ c ∧ b ≤ d ∧ (sat a = a ∧ sat b = b) ∧ sat c = c ∧ sat d = d := by
  simp only [validB, satB, Bool.and_eq_true, decide_eq_true_eq, beq_iff_eq]
  constructor
  · rintro ⟨⟨⟨h1, h2⟩, h3⟩, h4⟩; exact ⟨h1, h2, h3, h4⟩
  · rintro ⟨h1, h2, h3, h4⟩; exact ⟨⟨⟨h1, h2⟩, h3⟩, h4⟩
theorem BT.valid : ∀ {T : BT}, T.val → validB T.x0 T.x1 T.x2 T.x3 = true
  | .lf x, h => h x (by simp [lvs])
  | .nd p l r, h => by
    have hl := BT.valid (T := l) fun x hx => h x (by simp [lvs, hx])
    have hr := BT.valid (T := r) fun x hx => h x (by simp [lvs, hx])
    rw [validB_iff] at *
    simp only [x0, x1, x2, x3]
    obtain ⟨l1, l2, ⟨l3, l4⟩, l5, l6⟩ := hl
    obtain ⟨r1, r2, ⟨r3, r4⟩, r5, r6⟩ := hr
    refine ⟨by omega, by omega, ⟨?_, ?_⟩, ?_, ?_⟩
    · rcases Int.le_total l.x0 r.x0 with h | h
      · rw [Int.min_eq_left h]; exact l3
      · rw [Int.min_eq_right h]; exact r3
    · rcases Int.le_total l.x1 r.x1 with h | h
      · rw [Int.min_eq_left h]; exact l4
      · rw [Int.min_eq_right h]; exact r4
    · rcases Int.le_total l.x2 r.x2 with h | h
      · rw [Int.max_eq_right h]; exact r5
      · rw [Int.max_eq_left h]; exact l5
    · rcases Int.le_total l.x3 r.x3 with h | h
      · rw [Int.max_eq_right h]; exact r6
      · rw [Int.max_eq_left h]; exact l6
theorem BT.val_nd {p : Nat} {l r : BT} : (BT.nd p l r).val ↔ l.val ∧ r.val := by
  constructor
  · intro h; exact ⟨fun x hx => h x (by simp [lvs, hx]), fun x hx => h x (by simp [lvs, hx])⟩
  · rintro ⟨h1, h2⟩ x hx
    simp only [lvs, List.mem_append] at hx
    exact hx.elim (h1 x) (h2 x)

/-- The shape of a store below a node whose parent is q. -/
def Sh (nd : List Nd) : Nat → BT → Prop
  | q, .lf x => (0 < x.p ∧ x.p ≤ nd.length) ∧ getN nd x.p = ⟨x.a, x.b, x.c, x.d, q, 0, 0, 1, x.id⟩
  | q, .nd p l r => (0 < p ∧ p ≤ nd.length) ∧ (∃ i, getN nd p = ⟨(BT.nd p l r).x0, (BT.nd p l r).x1, (BT.nd p l r).x2, (BT.nd p l r).x3, q, l.root, r.root, ((BT.nd p l r).ht : Int), i⟩) ∧ Sh nd p l ∧ Sh nd p r
/-- nd' is nd but for the nodes of S. -/
structure Ag (nd nd' : List Nd) (S : Nat → Prop) : Prop where
  len : nd.length ≤ nd'.length
  eq : ∀ q, 0 < q → q ≤ nd.length → ¬ S q → getN nd' q = getN nd q
theorem Ag.refl (nd : List Nd) (S : Nat → Prop) : Ag nd nd S := ⟨Nat.le_refl _, fun _ _ _ _ => rfl⟩
theorem Ag.trans {nd nd' nd'' : List Nd} {S S' R : Nat → Prop} (h : Ag nd nd' S) (k : Ag nd' nd'' S') (h1 : ∀ q, q ≤ nd.length → S q → R q) (h2 : ∀ q, q ≤ nd.length → S' q → R q) : Ag nd nd'' R :=
  ⟨Nat.le_trans h.len k.len, fun q q1 q2 q3 => (k.eq q q1 (Nat.le_trans q2 h.len) fun s => q3 (h2 q q2 s)).trans (h.eq q q1 q2 fun s => q3 (h1 q q2 s))⟩
theorem Ag.mono {nd nd' : List Nd} {S R : Nat → Prop} (h : Ag nd nd' S) (h1 : ∀ q, q ≤ nd.length → S q → R q) : Ag nd nd' R := ⟨h.len, fun q q1 q2 q3 => h.eq q q1 q2 fun s => q3 (h1 q q2 s)⟩
theorem Ag.set (nd : List Nd) {p : Nat} (hp : 0 < p) (x : Nd) : Ag nd (setN nd p x) (· = p) := ⟨by simp, fun q q1 q2 q3 => get_other x hp q1 q3⟩
theorem Sh.le {nd : List Nd} : ∀ {T : BT} {q : Nat}, Sh nd q T → ∀ p ∈ T.fp, 0 < p ∧ p ≤ nd.length
  | .lf x, q, h, p, hp => by simp only [BT.fp, List.mem_singleton] at hp; subst hp; exact h.1
  | .nd p0 l r, q, h, p, hp => by
    simp only [BT.fp, List.mem_cons, List.mem_append] at hp
    rcases hp with rfl | hp | hp
    · exact h.1
    · exact h.2.2.1.le p hp
    · exact h.2.2.2.le p hp
theorem Sh.ag {nd nd' : List Nd} {S : Nat → Prop} (g : Ag nd nd' S) : ∀ {T : BT} {q : Nat}, Sh nd q T → (∀ p ∈ T.fp, ¬ S p) → Sh nd' q T
  | .lf x, q, h, hs => ⟨⟨h.1.1, Nat.le_trans h.1.2 g.len⟩, by rw [g.eq _ h.1.1 h.1.2 (hs _ (by simp [BT.fp]))]; exact h.2⟩
  | .nd p l r, q, h, hs => by
    obtain ⟨h1, ⟨i, h2⟩, h3, h4⟩ := h
    exact ⟨⟨h1.1, Nat.le_trans h1.2 g.len⟩, ⟨i, by rw [g.eq _ h1.1 h1.2 (hs _ (by simp [BT.fp]))]; exact h2⟩, h3.ag g fun x hx => hs x (by simp [BT.fp, hx]), h4.ag g fun x hx => hs x (by simp [BT.fp, hx])⟩
/-- What stands at the root. -/
theorem Sh.top {nd : List Nd} {T : BT} {q : Nat} (h : Sh nd q T) : (0 < T.root ∧ T.root ≤ nd.length) ∧ ∃ l r i, getN nd T.root = ⟨T.x0, T.x1, T.x2, T.x3, q, l, r, (T.ht : Int), i⟩ := by
  cases T with
  | lf x => exact ⟨h.1, 0, 0, x.id, h.2⟩
  | nd p l r => obtain ⟨h1, ⟨i, h2⟩, _⟩ := h; exact ⟨h1, _, _, i, h2⟩
/-- The root's parent changed, nothing else of it. -/
theorem Sh.move {nd nd' : List Nd} {S : Nat → Prop} {T : BT} {q q' : Nat} (h : Sh nd q T) (g : Ag nd nd' S) (hn : T.fp.Nodup) (hs : ∀ p ∈ T.fp, p ≠ T.root → ¬ S p) (hr : getN nd' T.root = { getN nd T.root with par := q' }) : Sh nd' q' T := by
  cases T with
  | lf x =>
    refine ⟨⟨h.1.1, Nat.le_trans h.1.2 g.len⟩, ?_⟩
    have hr : getN nd' x.p = { getN nd x.p with par := q' } := hr
    rw [hr, h.2]
  | nd p l r =>
    obtain ⟨h1, ⟨i, h2⟩, h3, h4⟩ := h
    have hr : getN nd' p = { getN nd p with par := q' } := hr
    simp only [BT.fp, List.nodup_cons, List.mem_append, not_or] at hn
    refine ⟨⟨h1.1, Nat.le_trans h1.2 g.len⟩, ⟨i, by rw [hr, h2]⟩, h3.ag g fun x hx => ?_, h4.ag g fun x hx => ?_⟩
    · exact hs x (by simp [BT.fp, hx]) (fun e => hn.1.1 (by subst e; exact hx))
    · exact hs x (by simp [BT.fp, hx]) (fun e => hn.1.2 (by subst e; exact hx))

section
variable {nd : List Nd} {p : Nat}
theorem get_self (h0 : 0 < p) (h1 : p ≤ nd.length) (x : Nd) : getN (setN nd p x) p = x := by rw [getN_setN, if_pos ⟨rfl, by omega⟩]
end
/-- The bounds and the height, computed anew. -/
theorem ref_ok {nd : List Nd} {n q : Nat} {A B : BT} {y0 y1 y2 y3 h i : Int} (hn : 0 < n ∧ n ≤ nd.length) (he : getN nd n = ⟨y0, y1, y2, y3, q, A.root, B.root, h, i⟩) (hA : Sh nd n A) (hB : Sh nd n B) (hd : (n :: (A.fp ++ B.fp)).Nodup) (vA : A.val) (vB : B.val) (kA : A.ht ≤ 100) (kB : B.ht ≤ 100) :
    refOK nd n = true ∧ Sh (refN nd n) q (.nd n A B) ∧ Ag nd (refN nd n) (· = n) ∧ (refN nd n).length = nd.length := by
  obtain ⟨a1, al, ar, ai, a2⟩ := hA.top
  obtain ⟨b1, bl, br, bi, b2⟩ := hB.top
  have hAr : A.root ≠ n := fun e => by
    have := List.nodup_cons.1 hd
    exact this.1 (by rw [← e]; exact List.mem_append.2 (Or.inl (BT.root_fp A)))
  have hBr : B.root ≠ n := fun e => by
    have := List.nodup_cons.1 hd
    exact this.1 (by rw [← e]; exact List.mem_append.2 (Or.inr (BT.root_fp B)))
  have e1 : (getN nd n).l = A.root := by rw [he]
  have e2 : (getN nd n).r = B.root := by rw [he]
  have vA' := BT.valid vA
  have vB' := BT.valid vB
  have hB0 : refB nd n = wB nd n (min A.x0 B.x0) (min A.x1 B.x1) (max A.x2 B.x2) (max A.x3 B.x3) := by
    simp only [refB, e1, e2, a2, b2, vA', vB', uni, if_true]
  have r1 : getN (refB nd n) n = ⟨min A.x0 B.x0, min A.x1 B.x1, max A.x2 B.x2, max A.x3 B.x3, q, A.root, B.root, h, i⟩ := by rw [hB0, wB, get_self hn.1 hn.2, he]
  have r2 : getN (refB nd n) A.root = getN nd A.root := by rw [hB0, wB, get_other _ hn.1 a1.1 hAr]
  have r3 : getN (refB nd n) B.root = getN nd B.root := by rw [hB0, wB, get_other _ hn.1 b1.1 hBr]
  have hlen : (refB nd n).length = nd.length := by rw [hB0]; simp
  have hN : refN nd n = wHt (refB nd n) n (((BT.nd n A B).ht : Nat) : Int) := by
    simp only [refN, r1, r2, r3, a2, b2, BT.ht]
    congr 1
    omega
  have r4 : getN (refN nd n) n = ⟨min A.x0 B.x0, min A.x1 B.x1, max A.x2 B.x2, max A.x3 B.x3, q, A.root, B.root, ((BT.nd n A B).ht : Int), i⟩ := by rw [hN, wHt, get_self hn.1 (by omega), r1]
  have g : Ag nd (refN nd n) (· = n) := ⟨by rw [hN]; simp [hlen], fun x x1 x2 x3 => by rw [hN, wHt, get_other _ hn.1 x1 x3, hB0, wB, get_other _ hn.1 x1 x3]⟩
  refine ⟨?_, ⟨⟨hn.1, Nat.le_trans hn.2 g.len⟩, ⟨i, r4⟩, hA.ag g fun x hx e => ?_, hB.ag g fun x hx e => ?_⟩, g, by rw [hN]; simp [hlen]⟩
  · simp only [refOK, Bool.and_eq_true, okN_iff, e1, e2, htOK, a2, b2, decide_eq_true_eq]
    exact ⟨hn, a1, b1, ⟨by omega, by omega⟩, by omega, by omega⟩
  · subst e; exact (List.nodup_cons.1 hd).1 (List.mem_append.2 (Or.inl hx))
  · subst e; exact (List.nodup_cons.1 hd).1 (List.mem_append.2 (Or.inr hx))

/-- Two trees laid below a node. -/
theorem ado_ok {nd : List Nd} {n qa qb : Nat} {A B : BT} (hn : 0 < n ∧ n ≤ nd.length) (hA : Sh nd qa A) (hB : Sh nd qb B) (hd : (n :: (A.fp ++ B.fp)).Nodup) (vA : A.val) (vB : B.val) (kA : A.ht ≤ 100) (kB : B.ht ≤ 100) :
    adoOK nd n A.root B.root = true ∧ Sh (adoN nd n A.root B.root) (getN nd n).par (.nd n A B) ∧ Ag nd (adoN nd n A.root B.root) (fun q => q = n ∨ q = A.root ∨ q = B.root) ∧ (adoN nd n A.root B.root).length = nd.length := by
  obtain ⟨a1, al, ar, ai, a2⟩ := hA.top
  obtain ⟨b1, bl, br, bi, b2⟩ := hB.top
  have hd' := List.nodup_cons.1 hd
  have hdAB := List.nodup_append.1 hd'.2
  have hAr : A.root ≠ n := fun e => hd'.1 (by rw [← e]; exact List.mem_append.2 (Or.inl (BT.root_fp A)))
  have hBr : B.root ≠ n := fun e => hd'.1 (by rw [← e]; exact List.mem_append.2 (Or.inr (BT.root_fp B)))
  have hAB : A.root ≠ B.root := hdAB.2.2 _ (BT.root_fp A) _ (BT.root_fp B)
  have l1 : (wL nd n A.root).length = nd.length := by simp
  have l2 : (wR (wL nd n A.root) n B.root).length = nd.length := by simp
  have l3 : (wPar (wR (wL nd n A.root) n B.root) A.root n).length = nd.length := by simp
  have gn : getN (adoP nd n A.root B.root) n = { getN nd n with l := A.root, r := B.root } := by
    simp only [adoP]
    rw [wPar, get_other _ b1.1 hn.1 (Ne.symm hBr), wPar, get_other _ a1.1 hn.1 (Ne.symm hAr), wR, get_self hn.1 (by omega), wL, get_self hn.1 hn.2]
  have ga : getN (adoP nd n A.root B.root) A.root = { getN nd A.root with par := n } := by
    simp only [adoP]
    rw [wPar, get_other _ b1.1 a1.1 hAB, wPar, get_self a1.1 (by omega), wR, get_other _ hn.1 a1.1 hAr, wL, get_other _ hn.1 a1.1 hAr]
  have gb : getN (adoP nd n A.root B.root) B.root = { getN nd B.root with par := n } := by
    simp only [adoP]
    rw [wPar, get_self b1.1 (by omega), wPar, get_other _ a1.1 b1.1 (Ne.symm hAB), wR, get_other _ hn.1 b1.1 hBr, wL, get_other _ hn.1 b1.1 hBr]
  have g : Ag nd (adoP nd n A.root B.root) (fun q => q = n ∨ q = A.root ∨ q = B.root) := ⟨by rw [len_adoP]; exact Nat.le_refl _, fun x x1 x2 x3 => by
    simp only [not_or] at x3
    simp only [adoP]
    rw [wPar, get_other _ b1.1 x1 x3.2.2, wPar, get_other _ a1.1 x1 x3.2.1, wR, get_other _ hn.1 x1 x3.1, wL, get_other _ hn.1 x1 x3.1]⟩
  have sA : Sh (adoP nd n A.root B.root) n A := hA.move g hdAB.1 (fun p hp hne => by
    simp only [not_or]
    exact ⟨fun e => hd'.1 (by rw [← e]; exact List.mem_append.2 (Or.inl hp)), hne, fun e => hdAB.2.2 p hp B.root (BT.root_fp B) e⟩) ga
  have sB : Sh (adoP nd n A.root B.root) n B := hB.move g hdAB.2.1 (fun p hp hne => by
    simp only [not_or]
    exact ⟨fun e => hd'.1 (by rw [← e]; exact List.mem_append.2 (Or.inr hp)), fun e => hdAB.2.2 A.root (BT.root_fp A) p hp e.symm, hne⟩) gb
  have r := ref_ok (nd := adoP nd n A.root B.root) (q := (getN nd n).par) (y0 := (getN nd n).b0) (y1 := (getN nd n).b1) (y2 := (getN nd n).b2) (y3 := (getN nd n).b3) (h := (getN nd n).ht) (i := (getN nd n).id) (by rw [len_adoP]; exact hn) gn sA sB hd vA vB kA kB
  refine ⟨?_, r.2.1, g.trans r.2.2.1 (fun _ _ h => h) (fun _ _ h => Or.inl h), by rw [len_adoN]⟩
  simp only [adoOK, Bool.and_eq_true, okN_iff]
  exact ⟨hn, a1, b1, r.1⟩

/-- A step on the way up: the node, on which side the hole is, what stands on the other side. -/
structure Fr where
  p : Nat
  lft : Bool
  s : BT
def Fr.fill (f : Fr) (T : BT) : BT := bif f.lft then .nd f.p T f.s else .nd f.p f.s T
def parC : List Fr → Nat
  | [] => 0
  | f :: _ => f.p
def fpC : List Fr → List Nat
  | [] => []
  | f :: C => f.p :: (f.s.fp ++ fpC C)
def lvsC : List Fr → List Lv
  | [] => []
  | f :: C => f.s.lvs ++ lvsC C
def rootC : List Fr → Nat → Nat
  | [], h => h
  | f :: C, _ => rootC C f.p
def ShC (nd : List Nd) : List Fr → Nat → Prop
  | [], _ => True
  | f :: C, h => (0 < f.p ∧ f.p ≤ nd.length) ∧ (getN nd f.p).par = parC C ∧ (getN nd f.p).l = (bif f.lft then h else f.s.root) ∧ (getN nd f.p).r = (bif f.lft then f.s.root else h) ∧ Sh nd f.p f.s ∧ ShC nd C f.p
theorem parC_fp {C : List Fr} (h : C ≠ []) : parC C ∈ fpC C := by cases C with | nil => exact absurd rfl h | cons f C => simp [parC, fpC]
theorem ShC.le {nd : List Nd} : ∀ {C : List Fr} {h : Nat}, ShC nd C h → ∀ p ∈ fpC C, 0 < p ∧ p ≤ nd.length
  | [], h, hs, p, hp => by cases hp
  | f :: C, h, hs, p, hp => by
    obtain ⟨h1, _, _, _, h2, h3⟩ := hs
    simp only [fpC, List.mem_cons, List.mem_append] at hp
    rcases hp with rfl | hp | hp
    · exact h1
    · exact h2.le p hp
    · exact h3.le p hp
theorem ShC.ag {nd nd' : List Nd} {S : Nat → Prop} (g : Ag nd nd' S) : ∀ {C : List Fr} {h : Nat}, ShC nd C h → (∀ p ∈ fpC C, ¬ S p) → ShC nd' C h
  | [], h, hs, _ => trivial
  | f :: C, h, hs, hp => by
    obtain ⟨h1, h2, h3, h4, h5, h6⟩ := hs
    have e := g.eq _ h1.1 h1.2 (hp _ (by simp [fpC]))
    exact ⟨⟨h1.1, Nat.le_trans h1.2 g.len⟩, by rw [e]; exact h2, by rw [e]; exact h3, by rw [e]; exact h4, h5.ag g fun x hx => hp x (by simp [fpC, hx]), h6.ag g fun x hx => hp x (by simp [fpC, hx])⟩

/-- The tree b laid where the tree a lay. -/
theorem rep_ok {nd : List Nd} {tr : List (Nat × Nat)} {t a b : Nat} {C : List Fr} (ht : 0 < t ∧ t ≤ tr.length) (ha : 0 < a ∧ a ≤ nd.length) (hb : 0 < b ∧ b ≤ nd.length) (hp : (getN nd a).par = parC C) (hC : ShC nd C a) (hac : a ∉ fpC C) (hbc : b ∉ fpC C) (hd : (fpC C).Nodup) :
    repOK nd tr t a b = true ∧ ShC (repN nd a b) C b ∧ getN (repN nd a b) b = { getN nd b with par := parC C } ∧ Ag nd (repN nd a b) (fun q => q = b ∨ (C ≠ [] ∧ q = parC C)) ∧ repT nd tr t a b = (if C = [] then wRoot tr t b else tr) := by
  have hb0 : b ≠ 0 := by omega
  have e0 : repP nd a b = wPar nd b (parC C) := by simp only [repP, Bool.cond_decide, if_neg hb0, hp]
  have gb : getN (wPar nd b (parC C)) b = { getN nd b with par := parC C } := by rw [wPar, get_self hb.1 hb.2]
  have g0 : Ag nd (wPar nd b (parC C)) (· = b) := Ag.set nd hb.1 _
  cases C with
  | nil =>
    have hp0 : (getN nd a).par = 0 := hp
    have e1 : repN nd a b = wPar nd b (parC []) := by simp only [repN, hp0, decide_true, cond_true, e0]
    rw [e1]
    refine ⟨?_, trivial, gb, g0.mono fun q _ h => Or.inl h, by simp only [repT, hp0, decide_true, cond_true]; simp⟩
    simp only [repOK, Bool.and_eq_true, Bool.or_eq_true, okT_iff, okN_iff, hp0, decide_true, Bool.true_or, and_true]
    exact ⟨ht, ha, Or.inr hb⟩
  | cons f C =>
    obtain ⟨c1, c2, c3, c4, c5, c6⟩ := hC
    have hp0 : (getN nd a).par = f.p := hp
    have hf0 : f.p ≠ 0 := by omega
    have hfb : f.p ≠ b := fun e => hbc (by simp [fpC, e])
    have e0 : repP nd a b = wPar nd b f.p := e0
    have gb : getN (wPar nd b f.p) b = { getN nd b with par := f.p } := gb
    have gf : getN (wPar nd b f.p) f.p = getN nd f.p := by rw [wPar, get_other _ hb.1 c1.1 hfb]
    have lw : (wPar nd b f.p).length = nd.length := by simp
    have hsr : f.s.root ≠ a := fun e => hac (by simp only [fpC, List.mem_cons, List.mem_append]; right; left; rw [← e]; exact BT.root_fp f.s)
    have key : ∃ nd', repN nd a b = nd' ∧ Ag nd nd' (fun q => q = b ∨ q = f.p) ∧ getN nd' b = { getN nd b with par := f.p } ∧ getN nd' f.p = (bif f.lft then { getN nd f.p with l := b } else { getN nd f.p with r := b }) := by
      cases hl : f.lft with
      | true =>
        rw [hl] at c3
        refine ⟨wL (wPar nd b f.p) f.p b, by simp only [repN, hp0, Bool.cond_decide, if_neg hf0, e0, gf, c3, cond_true, if_true], ⟨by simp, fun x x1 x2 x3 => ?_⟩, ?_, ?_⟩
        · simp only [not_or] at x3
          rw [wL, get_other _ c1.1 x1 x3.2, wPar, get_other _ hb.1 x1 x3.1]
        · rw [wL, get_other _ c1.1 hb.1 (Ne.symm hfb), gb]
        · rw [wL, get_self c1.1 (by omega), gf]; rfl
      | false =>
        rw [hl] at c3
        refine ⟨wR (wPar nd b f.p) f.p b, by simp only [repN, hp0, Bool.cond_decide, if_neg hf0, e0, gf, c3, cond_false, if_neg hsr], ⟨by simp, fun x x1 x2 x3 => ?_⟩, ?_, ?_⟩
        · simp only [not_or] at x3
          rw [wR, get_other _ c1.1 x1 x3.2, wPar, get_other _ hb.1 x1 x3.1]
        · rw [wR, get_other _ c1.1 hb.1 (Ne.symm hfb), gb]
        · rw [wR, get_self c1.1 (by omega), gf]; rfl
    obtain ⟨nd', e1, g1, gb1, gf1⟩ := key
    rw [e1]
    simp only [fpC, List.nodup_cons, List.mem_append, not_or] at hd
    simp only [fpC, List.mem_cons, List.mem_append, not_or] at hbc
    refine ⟨?_, ⟨⟨c1.1, Nat.le_trans c1.2 g1.len⟩, ?_, ?_, ?_, c5.ag g1 fun x hx e => ?_, c6.ag g1 fun x hx e => ?_⟩, gb1, g1.mono fun q _ h => h.imp id fun h => ⟨by simp, h⟩, by simp only [repT, hp0, Bool.cond_decide, if_neg hf0]; simp⟩
    · simp only [repOK, Bool.and_eq_true, Bool.or_eq_true, okT_iff, okN_iff, hp0, Nat.ble_eq, decide_eq_true_eq]
      refine ⟨ht, ha, Or.inr hb, Or.inr ⟨c1, ?_⟩⟩
      rw [c3]
      cases f.lft with
      | true => exact ha.2
      | false => exact (c5.top).1.2
    · rw [gf1]; cases f.lft <;> exact c2
    · rw [gf1]; cases hl : f.lft with
      | true => rfl
      | false => rw [hl] at c3; exact c3
    · rw [gf1]; cases hl : f.lft with
      | true => rw [hl] at c4; exact c4
      | false => rfl
    · rcases e with rfl | rfl
      · exact hbc.2.1 hx
      · exact hd.1.1 hx
    · rcases e with rfl | rfl
      · exact hbc.2.2 hx
      · exact hd.1.2 hx
end Go.Proofs.Ytkfaflhhkmkdjaa

namespace Go.Proofs.Ytkfaflhhkmkdjaa
open Fx Vx Bx Ev
set_option linter.unusedVariables false
set_option linter.unusedSimpArgs false

theorem nodup_in {l m : List Nat} (h : l.Nodup) (s : List.Sublist m l) : m.Nodup := s.nodup h
/-- One turn: the higher child's higher child stays, the lower one moves. -/
theorem rot_ok {nd : List Nd} {tr : List (Nat × Nat)} {t n h : Nat} {C : List Fr} {A B L : BT} (side : Bool) (ht : 0 < t ∧ t ≤ tr.length) (hn : 0 < n ∧ n ≤ nd.length) (ep : (getN nd n).par = parC C) (el : (getN nd n).l = bif side then h else L.root) (er : (getN nd n).r = bif side then L.root else h)
    (hH : Sh nd n (.nd h A B)) (hL : Sh nd n L) (hC : ShC nd C n) (hd : (n :: ((BT.nd h A B).fp ++ (L.fp ++ fpC C))).Nodup) (vA : A.val) (vB : B.val) (vL : L.val) (kA : A.ht ≤ 90) (kB : B.ht ≤ 90) (kL : L.ht ≤ 90) :
    ∃ U D : BT, ((U = A ∧ D = B ∧ B.ht ≤ A.ht) ∨ (U = B ∧ D = A ∧ A.ht ≤ B.ht)) ∧ rotOK nd tr t n h = true ∧ Sh (rotN nd n h) (parC C) (.nd h U (.nd n L D)) ∧ ShC (rotN nd n h) C h ∧ Ag nd (rotN nd n h) (fun q => q ∈ n :: ((BT.nd h A B).fp ++ L.fp) ∨ (C ≠ [] ∧ q = parC C)) ∧ rotT nd tr t n h = (if C = [] then wRoot tr t h else tr) := by
  obtain ⟨h1, ⟨ih, h2⟩, hA, hB⟩ := hH
  obtain ⟨l1, ll, lr, li, l2⟩ := hL.top
  obtain ⟨a1, al, ar, ai, a2⟩ := hA.top
  obtain ⟨b1, bl, br, bi, b2⟩ := hB.top
  have hd0 := List.nodup_cons.1 hd
  have hnh : n ≠ h := fun e => hd0.1 (by simp [BT.fp, e])
  have hLh : L.root ≠ h := fun e => by
    have := hd0.2
    simp only [BT.fp, List.cons_append, List.nodup_cons] at this
    exact this.1 (by rw [← e]; simp [BT.root_fp L])
  have hsib : sib nd h = L.root := by
    have : (getN nd h).par = n := by rw [h2]
    simp only [sib, this, Bool.cond_decide]
    cases side with
    | true =>
      have el : (getN nd n).l = h := el
      have er : (getN nd n).r = L.root := er
      rw [if_pos el, er]
    | false =>
      have el : (getN nd n).l = L.root := el
      have er : (getN nd n).r = h := er
      rw [el, if_neg hLh]
  have hsOK : sibOK nd h = true := by
    have : (getN nd h).par = n := by rw [h2]
    simp only [sibOK, Bool.and_eq_true, okN_iff, this]
    refine ⟨h1, hn, ?_⟩
    cases side with
    | true => rw [el]; exact h1
    | false => rw [el]; exact l1
  have hUD : ∃ U D : BT, ((U = A ∧ D = B ∧ B.ht ≤ A.ht) ∨ (U = B ∧ D = A ∧ A.ht ≤ B.ht)) ∧ rotUp nd h = U.root ∧ rotDn nd h = D.root ∧ Sh nd h U ∧ Sh nd h D ∧ U.val ∧ D.val ∧ U.ht ≤ 90 ∧ D.ht ≤ 90 := by
    have e1 : (getN nd h).l = A.root := by rw [h2]
    have e2 : (getN nd h).r = B.root := by rw [h2]
    by_cases hlt : A.ht < B.ht
    · refine ⟨B, A, Or.inr ⟨rfl, rfl, by omega⟩, ?_, ?_, hB, hA, vB, vA, kB, kA⟩ <;> simp only [rotUp, rotDn, e1, e2, a2, b2, Bool.cond_decide] <;> rw [if_pos (by omega)]
    · refine ⟨A, B, Or.inl ⟨rfl, rfl, by omega⟩, ?_, ?_, hA, hB, vA, vB, kA, kB⟩ <;> simp only [rotUp, rotDn, e1, e2, a2, b2, Bool.cond_decide] <;> rw [if_neg (by omega)]
  obtain ⟨U, D, hud, eU, eD, hU, hD, vU, vD, kU, kD⟩ := hUD
  have hp : (n :: ((BT.nd h A B).fp ++ (L.fp ++ fpC C))).Perm (h :: (U.fp ++ (n :: (L.fp ++ D.fp)) ++ fpC C)) := by
    rcases hud with ⟨rfl, rfl, _⟩ | ⟨rfl, rfl, _⟩ <;>
    · refine List.perm_iff_count.2 fun a => ?_
      simp only [BT.fp, List.count_append, List.count_cons, List.cons_append]
      ac_rfl
  have hd1 := hp.nodup_iff.1 hd
  have hd2 := List.nodup_cons.1 hd1
  simp only [List.nodup_append, List.nodup_cons, List.mem_append, List.mem_cons, not_or] at hd2
  have hd3 : (n :: (L.fp ++ D.fp)).Nodup := by
    refine List.Nodup.sublist ?_ hd1
    exact (((List.sublist_append_right _ _).trans (List.sublist_append_left _ _)).trans (List.sublist_cons_self _ _))
  have hd4 : (h :: (U.fp ++ (BT.nd n L D).fp)).Nodup := by
    refine List.Nodup.sublist ?_ hd1
    exact List.Sublist.cons_cons _ (List.sublist_append_left _ _)
  have hdC : (fpC C).Nodup := by
    refine List.Nodup.sublist ?_ hd1
    exact (List.sublist_append_right _ _).trans (List.sublist_cons_self _ _)
  obtain ⟨⟨⟨hhU, hhn, hhL, hhD⟩, hhC⟩, ⟨ndU, hd5, hd6⟩, _, hd7⟩ := hd2
  have hnC : n ∉ fpC C := fun e => hd7 n (Or.inr (Or.inl rfl)) n e rfl
  -- the first step
  obtain ⟨r1, r2, r3, r4, r5⟩ := rep_ok (a := n) (b := h) ht hn h1 ep hC hnC hhC hdC
  have notp : ∀ x, x ∉ fpC C → ¬ (C ≠ [] ∧ x = parC C) := fun x hx e => hx (by rw [e.2]; exact parC_fp e.1)
  have gn : getN (repN nd n h) n = getN nd n := r4.eq n hn.1 hn.2 fun e => e.elim hnh (notp n hnC)
  have len1 : (repN nd n h).length = nd.length := len_repN nd n h
  have sL := hL.ag r4 fun x hx e => e.elim (fun e => hhL (by rw [← e]; exact hx)) (notp x fun hc => hd7 x (Or.inr (Or.inr (Or.inl hx))) x hc rfl)
  have sD := hD.ag r4 fun x hx e => e.elim (fun e => hhD (by rw [← e]; exact hx)) (notp x fun hc => hd7 x (Or.inr (Or.inr (Or.inr hx))) x hc rfl)
  have sU := hU.ag r4 fun x hx e => e.elim (fun e => hhU (by rw [← e]; exact hx)) (notp x fun hc => hd7 x (Or.inl hx) x hc rfl)
  -- the second
  obtain ⟨o1, o2, o3, o4⟩ := ado_ok (nd := repN nd n h) (n := n) (by rw [len1]; exact hn) sL sD hd3 vL vD (by omega) (by omega)
  rw [gn, ep] at o2
  have gh : getN (adoN (repN nd n h) n L.root D.root) h = { getN nd h with par := parC C } := by
    rw [o3.eq h h1.1 (by rw [len1]; exact h1.2) (by
      simp only [not_or]
      exact ⟨Ne.symm hnh, fun e => hhL (by rw [e]; exact BT.root_fp L), fun e => hhD (by rw [e]; exact BT.root_fp D)⟩)]
    exact r3
  have sU2 := sU.ag o3 fun x hx e => by
    rcases e with rfl | rfl | rfl
    · exact hd6 _ hx _ (Or.inl rfl) rfl
    · exact hd6 _ hx _ (Or.inr (Or.inl (BT.root_fp L))) rfl
    · exact hd6 _ hx _ (Or.inr (Or.inr (BT.root_fp D))) rfl
  -- the third
  have kN : (BT.nd n L D).ht ≤ 100 := by simp only [BT.ht]; omega
  obtain ⟨q1, q2, q3, q4⟩ := ado_ok (nd := adoN (repN nd n h) n L.root D.root) (n := h) (by rw [o4, len1]; exact h1) sU2 o2 hd4 vU (BT.val_nd.2 ⟨vL, vD⟩) (by omega) kN
  rw [gh] at q2
  have eN : rotN nd n h = adoN (adoN (repN nd n h) n L.root D.root) h U.root n := by simp only [rotN, hsib, eU, eD]
  refine ⟨U, D, hud, ?_, by rw [eN]; exact q2, ?_, ?_, by rw [rotT]; exact r5⟩
  · simp only [rotOK, Bool.and_eq_true, okN_iff, hsib, eU, eD]
    refine ⟨h1, hsOK, ?_, ?_, r1, o1, q1⟩
    · rw [show (getN nd h).l = A.root by rw [h2]]; exact a1
    · rw [show (getN nd h).r = B.root by rw [h2]]; exact b1
  · rw [eN]
    refine (r2.ag o3 fun x hx e => ?_).ag q3 fun x hx e => ?_
    · rcases e with rfl | rfl | rfl
      · exact hnC hx
      · exact hd7 _ (Or.inr (Or.inr (Or.inl (BT.root_fp L)))) _ hx rfl
      · exact hd7 _ (Or.inr (Or.inr (Or.inr (BT.root_fp D)))) _ hx rfl
    · rcases e with rfl | rfl | rfl
      · exact hhC hx
      · exact hd7 _ (Or.inl (BT.root_fp U)) _ hx rfl
      · exact hnC hx
  · rw [eN]
    have inH : ∀ x, x ∈ U.fp ∨ x ∈ D.fp → x ∈ (BT.nd h A B).fp := fun x hx => by
      simp only [BT.fp, List.mem_cons, List.mem_append]
      rcases hud with ⟨rfl, rfl, _⟩ | ⟨rfl, rfl, _⟩
      · exact Or.inr hx
      · exact Or.inr hx.symm
    have inn : ∀ x, x = n ∨ x = L.root ∨ x = D.root → x ∈ n :: ((BT.nd h A B).fp ++ L.fp) := fun x hx => by
      simp only [List.mem_cons, List.mem_append]
      rcases hx with rfl | rfl | rfl
      · exact Or.inl rfl
      · exact Or.inr (Or.inr (BT.root_fp L))
      · exact Or.inr (Or.inl (inH _ (Or.inr (BT.root_fp D))))
    have inh : ∀ x, x = h ∨ x = U.root ∨ x = n → x ∈ n :: ((BT.nd h A B).fp ++ L.fp) := fun x hx => by
      simp only [List.mem_cons, List.mem_append]
      rcases hx with rfl | rfl | rfl
      · exact Or.inr (Or.inl (by simp [BT.fp]))
      · exact Or.inr (Or.inl (inH _ (Or.inl (BT.root_fp U))))
      · exact Or.inl rfl
    refine (r4.trans (R := fun q => q ∈ n :: ((BT.nd h A B).fp ++ L.fp) ∨ (C ≠ [] ∧ q = parC C)) o3 (fun q _ e => e.imp (fun e => inh q (Or.inl e)) id) (fun q _ e => Or.inl (inn q e))).trans q3 (fun q _ e => e) (fun q _ e => Or.inl (inh q e))

/-- The heights along the way up, before the hole's changed. -/
def balC : List Fr → Nat → Prop
  | [], _ => True
  | f :: C, h => f.s.bal ∧ h ≤ f.s.ht + 1 ∧ f.s.ht ≤ h + 1 ∧ balC C (1 + max h f.s.ht)
theorem pow_le {a b : Nat} (h : a ≤ b) : 2 ^ a ≤ 2 ^ b := Nat.pow_le_pow_right (by decide) h
theorem BT.low : ∀ {T : BT}, T.bal → 2 ^ (T.ht / 2) ≤ T.lvs.length
  | .lf x, _ => by simp [ht, lvs]
  | .nd p l r, ⟨h1, h2, h3, h4⟩ => by
    have i1 := BT.low h1
    have i2 := BT.low h2
    simp only [lvs, List.length_append, ht]
    have key : ∀ m k : Nat, k ≤ m → m ≤ k + 1 → 2 ^ ((1 + m) / 2) ≤ 2 ^ (m / 2) + 2 ^ (k / 2) := fun m k h5 h6 => by
      rcases Nat.mod_two_eq_zero_or_one m with hm | hm
      · rw [show (1 + m) / 2 = m / 2 by omega]; exact Nat.le_add_right _ _
      · rw [show (1 + m) / 2 = m / 2 + 1 by omega, Nat.pow_succ]
        have := pow_le (show m / 2 ≤ k / 2 by omega)
        omega
    rcases Nat.le_total l.ht r.ht with h5 | h5
    · rw [Nat.max_eq_right h5]
      have := key r.ht l.ht h5 h4
      omega
    · rw [Nat.max_eq_left h5]
      have := key l.ht r.ht h5 h3
      omega
theorem BT.high : ∀ (T : BT), T.lvs.length ≤ 2 ^ (T.ht - 1)
  | .lf x => by simp [ht, lvs]
  | .nd p l r => by
    have i1 := BT.high l
    have i2 := BT.high r
    have p1 := l.ht_pos
    have p2 := r.ht_pos
    simp only [lvs, List.length_append, ht]
    have e1 := pow_le (show l.ht - 1 ≤ max l.ht r.ht - 1 by omega)
    have e2 := pow_le (show r.ht - 1 ≤ max l.ht r.ht - 1 by omega)
    rw [show 1 + max l.ht r.ht - 1 = (max l.ht r.ht - 1) + 1 by omega, Nat.pow_succ]
    omega
theorem BT.ht_le {T : BT} (h : T.bal) (hl : T.lvs.length ≤ 8000) : T.ht ≤ 26 := by
  have := BT.low h
  refine Classical.byContradiction fun hc => ?_
  have := pow_le (show 13 ≤ T.ht / 2 by omega)
  omega
theorem rootC_any {C : List Fr} (h : C ≠ []) (x y : Nat) : rootC C x = rootC C y := by
  cases C with
  | nil => exact absurd rfl h
  | cons f C => rfl
theorem getT_set {tr : List (Nat × Nat)} {t : Nat} (ht : 0 < t ∧ t ≤ tr.length) (x : Nat × Nat) : getT (setT tr t x) t = x := by
  simp [getT, setT, List.getD_eq_getElem?_getD, show t - 1 < tr.length by omega]
theorem getT_other {tr : List (Nat × Nat)} {t s : Nat} (ht : 0 < t) (hs : 0 < s) (h : s ≠ t) (x : Nat × Nat) : getT (setT tr t x) s = getT tr s := by
  simp only [getT, setT, List.getD_eq_getElem?_getD, List.getElem?_set]
  rw [if_neg (by omega)]

/-- Heights that differ by one at most. -/
def near (a b : Nat) : Prop := a ≤ b + 1 ∧ b ≤ a + 1
structure BalR (nd : List Nd) (tr : List (Nat × Nat)) (t n : Nat) (C : List Fr) (F : List Nat) (Ls : List Lv) (h : Nat) (T1 : BT) : Prop where
  ok : balOK nd tr t n = true
  p : balP nd n = T1.root
  sh : Sh (balN nd n) (parC C) T1
  shC : ShC (balN nd n) C T1.root
  fp : T1.fp.Perm F
  lvs : T1.lvs.Perm Ls
  bal : T1.bal
  near : near T1.ht h
  ag : Ag nd (balN nd n) (fun q => q ∈ F ∨ (C ≠ [] ∧ q = parC C))
  root : balT nd tr t n = (if C = [] then wRoot tr t T1.root else tr) ∨ (balT nd tr t n = tr ∧ T1.root = n)
theorem Sh.par {nd : List Nd} {T : BT} {q : Nat} (h : Sh nd q T) : (getN nd T.root).par = q := by
  obtain ⟨_, l, r, i, h2⟩ := h.top
  rw [h2]
theorem nd_eta (x : Nd) : x = ⟨x.b0, x.b1, x.b2, x.b3, x.par, x.l, x.r, x.ht, x.id⟩ := rfl
/-- One step of balancing. -/
theorem bal_ok {nd : List Nd} {tr : List (Nat × Nat)} {t h : Nat} {f : Fr} {C : List Fr} {T : BT} (ht : 0 < t ∧ t ≤ tr.length) (hT : Sh nd f.p T) (hC : ShC nd (f :: C) T.root) (hd : (T.fp ++ fpC (f :: C)).Nodup) (bT : T.bal) (vT : T.val) (vC : ∀ x ∈ lvsC (f :: C), validB x.a x.b x.c x.d = true) (bC : balC (f :: C) h) (hh : near T.ht h) (hl : T.lvs.length + (lvsC (f :: C)).length ≤ 8000) :
    ∃ T1, BalR nd tr t f.p C (T.fp ++ f.p :: f.s.fp) (T.lvs ++ f.s.lvs) (1 + max h f.s.ht) T1 := by
  obtain ⟨c1, c2, c3, c4, hS, c6⟩ := hC
  obtain ⟨b1, b2, b3, b4⟩ := bC
  simp only [lvsC, List.length_append] at hl
  have vS : f.s.val := fun x hx => vC x (by simp [lvsC, hx])
  have kT := BT.ht_le bT (by omega)
  have kS := BT.ht_le b1 (by omega)
  -- the left and the right child
  have hLR : ∃ Lt Rt : BT, (getN nd f.p).l = Lt.root ∧ (getN nd f.p).r = Rt.root ∧ Sh nd f.p Lt ∧ Sh nd f.p Rt ∧ ((f.lft = true ∧ Lt = T ∧ Rt = f.s) ∨ (f.lft = false ∧ Lt = f.s ∧ Rt = T)) := by
    cases hf : f.lft with
    | true => rw [hf] at c3 c4; exact ⟨T, f.s, c3, c4, hT, hS, Or.inl ⟨rfl, rfl, rfl⟩⟩
    | false => rw [hf] at c3 c4; exact ⟨f.s, T, c3, c4, hS, hT, Or.inr ⟨rfl, rfl, rfl⟩⟩
  obtain ⟨Lt, Rt, el, er, hLt, hRt, hside⟩ := hLR
  have facts : Lt.bal ∧ Rt.bal ∧ Lt.val ∧ Rt.val ∧ Lt.ht ≤ 26 ∧ Rt.ht ≤ 26 ∧ (f.p :: (Lt.fp ++ (Rt.fp ++ fpC C))).Nodup ∧ (f.p :: (Rt.fp ++ (Lt.fp ++ fpC C))).Nodup ∧ (f.p :: (Lt.fp ++ Rt.fp)).Perm (T.fp ++ f.p :: f.s.fp) ∧ (Lt.lvs ++ Rt.lvs).Perm (T.lvs ++ f.s.lvs) := by
    have q1 : (T.fp ++ fpC (f :: C)).Perm (f.p :: (T.fp ++ (f.s.fp ++ fpC C))) := by
      refine List.perm_iff_count.2 fun a => ?_
      simp only [fpC, List.count_append, List.count_cons]
      ac_rfl
    have q2 : (T.fp ++ fpC (f :: C)).Perm (f.p :: (f.s.fp ++ (T.fp ++ fpC C))) := by
      refine List.perm_iff_count.2 fun a => ?_
      simp only [fpC, List.count_append, List.count_cons]
      ac_rfl
    have d1 := q1.nodup_iff.1 hd
    have d2 := q2.nodup_iff.1 hd
    rcases hside with ⟨_, rfl, rfl⟩ | ⟨_, rfl, rfl⟩
    · refine ⟨bT, b1, vT, vS, kT, kS, d1, d2, ?_, List.Perm.refl _⟩
      refine List.perm_iff_count.2 fun a => ?_
      simp only [List.count_append, List.count_cons]; ac_rfl
    · refine ⟨b1, bT, vS, vT, kS, kT, d2, d1, ?_, List.perm_append_comm⟩
      refine List.perm_iff_count.2 fun a => ?_
      simp only [List.count_append, List.count_cons]; ac_rfl
  obtain ⟨bL, bR, vL, vR, kL, kR, dL, dR, pF, pV⟩ := facts
  obtain ⟨lt1, ltl, ltr, lti, lt2⟩ := hLt.top
  obtain ⟨rt1, rtl, rtr, rti, rt2⟩ := hRt.top
  have hD : balD nd f.p = (Lt.ht : Int) - (Rt.ht : Int) := by simp only [balD, el, er, lt2, rt2]
  have hb : ∀ (P1 : List Nd) (Q : Nat), (bif decide (1 < balD nd f.p) then rotOK nd tr t f.p (getN nd f.p).l else bif decide (balD nd f.p < -1) then rotOK nd tr t f.p (getN nd f.p).r else refOK nd f.p) = true → balN nd f.p = P1 → balP nd f.p = Q → 0 < Q ∧ Q ≤ P1.length → (getN P1 Q).par = parC C → P1.length = nd.length → balOK nd tr t f.p = true := fun P1 Q w1 w2 w3 w4 w5 w6 => by
    simp only [balOK, Bool.and_eq_true, okN_iff, htOK, decide_eq_true_eq, Nat.ble_eq, w1, w2, w3, w5, el, er, lt2, rt2]
    refine ⟨c1, lt1, rt1, ⟨by omega, by omega⟩, ⟨by omega, by omega⟩, (by simpa only [el, er] using w1), w4, ?_⟩
    cases C with
    | nil => exact Nat.zero_le _
    | cons g C => obtain ⟨g1, _⟩ := c6; rw [w6]; exact g1.2
  have hP : ∀ x : Nd, x.par = parC C → (x.par = parC C) := fun x h => h
  have hmx : ∀ {a b : Nat}, max a b = max b a := fun {a b} => Nat.max_comm a b
  have hhb : near Lt.ht h ∧ Rt.ht = f.s.ht ∨ near Rt.ht h ∧ Lt.ht = f.s.ht := by
    rcases hside with ⟨_, rfl, rfl⟩ | ⟨_, rfl, rfl⟩
    · exact Or.inl ⟨hh, rfl⟩
    · exact Or.inr ⟨hh, rfl⟩
  unfold near at hhb
  by_cases k1 : Rt.ht + 1 < Lt.ht
  · -- the left child is too high
    cases Lt with
    | lf x => simp only [BT.ht] at k1; omega
    | nd p A B =>
      obtain ⟨bA, bB, n1, n2⟩ := bL
      obtain ⟨vA, vB⟩ := BT.val_nd.1 vL
      simp only [BT.ht] at kL k1 hhb hD
      obtain ⟨U, D, hud, r1, r2, r3, r4, r5⟩ := rot_ok (A := A) (B := B) (L := Rt) true ht c1 c2 el er hLt hRt c6 dL vA vB vR (by omega) (by omega) (by omega)
      have d1 : decide (1 < balD nd f.p) = true := by rw [hD]; simp only [decide_eq_true_eq]; omega
      have eN : balN nd f.p = rotN nd f.p p := by simp only [balN, d1, cond_true, el, BT.root]
      have eP : balP nd f.p = p := by simp only [balP, d1, cond_true, el, BT.root]
      have eT : balT nd tr t f.p = rotT nd tr t f.p p := by simp only [balT, d1, cond_true, el, BT.root]
      have len : (rotN nd f.p p).length = nd.length := len_rotN _ _ _
      refine ⟨.nd p U (.nd f.p Rt D), hb _ _ ?_ eN eP (by rw [len]; exact lt1) r2.par len, eP, by rw [eN]; exact r2, by rw [eN]; exact r3, ?_, ?_, ?_, ?_, ?_, by rw [eT]; exact Or.inl r5⟩
      · simp only [d1, cond_true, el]; exact r1
      · refine List.Perm.trans ?_ pF
        refine List.perm_iff_count.2 fun a => ?_
        rcases hud with ⟨rfl, rfl, _⟩ | ⟨rfl, rfl, _⟩ <;> (simp only [BT.fp, List.count_append, List.count_cons]; ac_rfl)
      · refine List.Perm.trans ?_ pV
        simp only [BT.lvs]
        rcases hud with ⟨rfl, rfl, _⟩ | ⟨rfl, rfl, _⟩
        · rw [List.append_assoc]; exact List.Perm.append_left _ List.perm_append_comm
        · refine (List.perm_append_comm (l₁ := U.lvs)).trans ?_
          refine (List.Perm.append_right _ List.perm_append_comm).trans ?_
          rw [List.append_assoc, List.append_assoc]
          exact List.Perm.append_left _ List.perm_append_comm
      · simp only [BT.bal, BT.ht]
        rcases hud with ⟨rfl, rfl, hu⟩ | ⟨rfl, rfl, hu⟩
        · exact ⟨bA, ⟨bR, bB, by omega, by omega⟩, by omega, by omega⟩
        · exact ⟨bB, ⟨bR, bA, by omega, by omega⟩, by omega, by omega⟩
      · unfold near
        simp only [BT.ht]
        rcases hud with ⟨rfl, rfl, hu⟩ | ⟨rfl, rfl, hu⟩ <;> omega
      · rw [eN]
        exact r4.mono fun q _ e => e.imp (fun e => pF.mem_iff.1 e) id
  · by_cases k2 : Lt.ht + 1 < Rt.ht
    · -- the right child is too high
      cases Rt with
      | lf x => simp only [BT.ht] at k2; omega
      | nd p A B =>
        obtain ⟨bA, bB, n1, n2⟩ := bR
        obtain ⟨vA, vB⟩ := BT.val_nd.1 vR
        simp only [BT.ht] at kR k1 k2 hhb hD
        obtain ⟨U, D, hud, r1, r2, r3, r4, r5⟩ := rot_ok (A := A) (B := B) (L := Lt) false ht c1 c2 el er hRt hLt c6 dR vA vB vL (by omega) (by omega) (by omega)
        have d1 : decide (1 < balD nd f.p) = false := by rw [hD]; simp only [decide_eq_false_iff_not]; omega
        have d2 : decide (balD nd f.p < -1) = true := by rw [hD]; simp only [decide_eq_true_eq]; omega
        have eN : balN nd f.p = rotN nd f.p p := by simp only [balN, d1, d2, cond_true, cond_false, er, BT.root]
        have eP : balP nd f.p = p := by simp only [balP, d1, d2, cond_true, cond_false, er, BT.root]
        have eT : balT nd tr t f.p = rotT nd tr t f.p p := by simp only [balT, d1, d2, cond_true, cond_false, er, BT.root]
        have len : (rotN nd f.p p).length = nd.length := len_rotN _ _ _
        refine ⟨.nd p U (.nd f.p Lt D), hb _ _ ?_ eN eP (by rw [len]; exact rt1) r2.par len, eP, by rw [eN]; exact r2, by rw [eN]; exact r3, ?_, ?_, ?_, ?_, ?_, by rw [eT]; exact Or.inl r5⟩
        · simp only [d1, d2, cond_true, cond_false, er]; exact r1
        · refine List.Perm.trans ?_ pF
          refine List.perm_iff_count.2 fun a => ?_
          rcases hud with ⟨rfl, rfl, _⟩ | ⟨rfl, rfl, _⟩ <;> (simp only [BT.fp, List.count_append, List.count_cons]; ac_rfl)
        · refine List.Perm.trans ?_ pV
          simp only [BT.lvs]
          rcases hud with ⟨rfl, rfl, _⟩ | ⟨rfl, rfl, _⟩
          · refine (List.perm_append_comm (l₁ := U.lvs)).trans ?_
            rw [List.append_assoc]
            exact List.Perm.append_left _ List.perm_append_comm
          · refine (List.perm_append_comm (l₁ := U.lvs)).trans ?_
            rw [List.append_assoc]
        · simp only [BT.bal, BT.ht]
          rcases hud with ⟨rfl, rfl, hu⟩ | ⟨rfl, rfl, hu⟩
          · exact ⟨bA, ⟨bL, bB, by omega, by omega⟩, by omega, by omega⟩
          · exact ⟨bB, ⟨bL, bA, by omega, by omega⟩, by omega, by omega⟩
        · unfold near
          simp only [BT.ht]
          rcases hud with ⟨rfl, rfl, hu⟩ | ⟨rfl, rfl, hu⟩ <;> omega
        · rw [eN]
          refine r4.mono fun q _ e => e.imp (fun e => ?_) id
          refine pF.mem_iff.1 ?_
          simp only [List.mem_cons, List.mem_append] at e ⊢
          exact e.imp id Or.symm
    · -- no turn
      have d1 : decide (1 < balD nd f.p) = false := by rw [hD]; simp only [decide_eq_false_iff_not]; omega
      have d2 : decide (balD nd f.p < -1) = false := by rw [hD]; simp only [decide_eq_false_iff_not]; omega
      have eN : balN nd f.p = refN nd f.p := by simp only [balN, d1, d2, cond_false]
      have eP : balP nd f.p = f.p := by simp only [balP, d1, d2, cond_false]
      have eT : balT nd tr t f.p = tr := by simp only [balT, d1, d2, cond_false]
      have dd : (f.p :: (Lt.fp ++ Rt.fp)).Nodup := by
        refine List.Nodup.sublist ?_ dL
        exact List.Sublist.cons_cons _ (List.Sublist.append (List.Sublist.refl _) (List.sublist_append_left _ _))
      have hC6 : ∀ x ∈ fpC C, x ≠ f.p := fun x hx e => by
        have := (List.nodup_cons.1 dL).1
        exact this (by rw [← e]; simp [hx])
      obtain ⟨r1, r2, r3, r4⟩ := ref_ok (nd := nd) (n := f.p) (A := Lt) (B := Rt) (q := parC C) (i := (getN nd f.p).id) c1 (by rw [nd_eta (getN nd f.p), ← c2, ← el, ← er]) hLt hRt dd vL vR (by omega) (by omega)
      refine ⟨.nd f.p Lt Rt, hb _ _ ?_ eN eP (by rw [r4]; exact c1) r2.par r4, eP, by rw [eN]; exact r2, by rw [eN]; exact c6.ag r3 hC6, pF, pV, ⟨bL, bR, by omega, by omega⟩, ?_, ?_, Or.inr ⟨eT, rfl⟩⟩
      · simp only [d1, d2, cond_false]; exact r1
      · unfold near
        simp only [BT.ht]
        omega
      · rw [eN]
        refine r3.mono fun q _ e => Or.inl (pF.mem_iff.1 ?_)
        simp [e]
end Go.Proofs.Ytkfaflhhkmkdjaa

namespace Go.Proofs.Ytkfaflhhkmkdjaa
open Fx Vx Bx Ev
set_option linter.unusedVariables false
set_option linter.unusedSimpArgs false

theorem wRoot_self {tr : List (Nat × Nat)} {t : Nat} : wRoot tr t (getT tr t).1 = tr := by
  simp only [wRoot, setT, getT]
  apply List.ext_getElem?
  intro i
  rw [List.getElem?_set]
  split
  · rename_i e
    subst e
    split
    · rename_i h
      rw [List.getElem?_eq_getElem h, List.getD_eq_getElem?_getD, List.getElem?_eq_getElem h]; rfl
    · rename_i h
      rw [List.getElem?_eq_none (by omega)]
  · rfl
theorem wRoot_two {tr : List (Nat × Nat)} {t x y : Nat} (ht : 0 < t ∧ t ≤ tr.length) : wRoot (wRoot tr t x) t y = wRoot tr t y := by
  have e : (getT (wRoot tr t x) t).2 = (getT tr t).2 := by rw [wRoot, getT_set ht]
  simp only [wRoot] at e ⊢
  rw [e]
  simp only [setT, List.set_set]
structure RebR (nd nd' : List Nd) (F : List Nat) (Ls : List Lv) (T' : BT) : Prop where
  sh : Sh nd' 0 T'
  fp : T'.fp.Perm F
  lvs : T'.lvs.Perm Ls
  bal : T'.bal
  ag : Ag nd nd' (· ∈ F)
/-- Balancing, all the way up. -/
theorem reb_ok {t : Nat} : ∀ (C : List Fr) (k : Nat) (nd : List Nd) (tr : List (Nat × Nat)) (h : Nat) (T : BT), C.length ≤ k → (0 < t ∧ t ≤ tr.length) → Sh nd (parC C) T → ShC nd C T.root → (T.fp ++ fpC C).Nodup → T.bal → T.val → (∀ x ∈ lvsC C, validB x.a x.b x.c x.d = true) → balC C h → near T.ht h → T.lvs.length + (lvsC C).length ≤ 8000 → (getT tr t).1 = rootC C T.root →
    rebOK k nd tr t (parC C) = true ∧ ∃ T', RebR nd (rebN k nd (parC C)) (T.fp ++ fpC C) (T.lvs ++ lvsC C) T' ∧ rebT k nd tr t (parC C) = wRoot tr t T'.root
  | [], k, nd, tr, h, T, hk, ht, hT, hC, hd, bT, vT, vC, bC, hh, hl, hr => by
    have e : parC [] = 0 := rfl
    rw [e, rebN_zero, rebT_zero]
    have hr : (getT tr t).1 = T.root := hr
    refine ⟨by cases k <;> rfl, T, ⟨hT, by simp [fpC], by simp [lvsC], bT, Ag.refl _ _⟩, by rw [← hr, wRoot_self]⟩
  | f :: C, 0, nd, tr, h, T, hk, ht, hT, hC, hd, bT, vT, vC, bC, hh, hl, hr => by simp at hk
  | f :: C, k + 1, nd, tr, h, T, hk, ht, hT, hC, hd, bT, vT, vC, bC, hh, hl, hr => by
    obtain ⟨T1, R⟩ := bal_ok (tr := tr) ht hT hC hd bT vT vC bC hh hl
    have c1 : 0 < f.p ∧ f.p ≤ nd.length := hC.1
    have hp0 : f.p ≠ 0 := by omega
    have pF : (T1.fp ++ fpC C).Perm (T.fp ++ fpC (f :: C)) := by
      refine (List.Perm.append_right _ R.fp).trans ?_
      refine List.perm_iff_count.2 fun a => ?_
      simp only [fpC, List.count_append, List.count_cons]; ac_rfl
    have pV : (T1.lvs ++ lvsC C).Perm (T.lvs ++ lvsC (f :: C)) := by
      refine (List.Perm.append_right _ R.lvs).trans ?_
      rw [List.append_assoc]; exact List.Perm.refl _
    have hp : (getN (balN nd f.p) (balP nd f.p)).par = parC C := by rw [R.p]; exact R.sh.par
    have htr : (balT nd tr t f.p).length = tr.length := len_balT _ _ _ _
    have hroot : (getT (balT nd tr t f.p) t).1 = rootC C T1.root ∧ ∀ y, wRoot (balT nd tr t f.p) t y = wRoot tr t y := by
      have hr : (getT tr t).1 = rootC C f.p := hr
      rcases R.root with e | ⟨e, e2⟩
      · rw [e]
        by_cases hc : C = []
        · subst hc
          rw [if_pos rfl]
          exact ⟨by rw [wRoot, getT_set ht]; rfl, fun y => wRoot_two ht⟩
        · rw [if_neg hc]
          exact ⟨by rw [hr]; exact rootC_any hc _ _, fun y => rfl⟩
      · rw [e, e2]
        exact ⟨hr, fun y => rfl⟩
    have vT1 : T1.val := fun x hx => by
      have := R.lvs.mem_iff.1 hx
      rcases List.mem_append.1 this with h | h
      · exact vT x h
      · exact vC x (by simp [lvsC, h])
    obtain ⟨i1, T', i2, i3⟩ := reb_ok C k (balN nd f.p) (balT nd tr t f.p) _ T1 (by simp at hk; omega) (by rw [htr]; exact ht) R.sh R.shC (pF.nodup_iff.2 hd) R.bal vT1 (fun x hx => vC x (by simp [lvsC, hx])) bC.2.2.2 R.near (by have := pV.length_eq; simp only [List.length_append] at this; omega) hroot.1
    have e : parC (f :: C) = f.p := rfl
    rw [e]
    have e1 : rebN (k + 1) nd f.p = rebN k (balN nd f.p) (parC C) := by simp only [rebN, Bool.cond_decide, if_neg hp0, hp]
    have e2 : rebT (k + 1) nd tr t f.p = rebT k (balN nd f.p) (balT nd tr t f.p) t (parC C) := by simp only [rebT, Bool.cond_decide, if_neg hp0, hp]
    refine ⟨?_, T', ⟨by rw [e1]; exact i2.sh, i2.fp.trans pF, i2.lvs.trans pV, i2.bal, ?_⟩, by rw [e2, i3, hroot.2]⟩
    · simp only [rebOK, Bool.or_eq_true, Bool.and_eq_true, hp]
      exact Or.inr ⟨R.ok, i1⟩
    · rw [e1]
      refine R.ag.trans i2.ag (fun q _ h => ?_) (fun q _ h => pF.mem_iff.1 h)
      rcases h with h | h
      · have := R.fp.mem_iff.2 h
        exact pF.mem_iff.1 (List.mem_append.2 (Or.inl this))
      · refine pF.mem_iff.1 (List.mem_append.2 (Or.inr ?_))
        rw [h.2]; exact parC_fp h.1

/-- A tree, put together again along the way up. -/
def plug : List Fr → BT → BT
  | [], T => T
  | f :: C, T => plug C (f.fill T)
theorem fill_root (f : Fr) (T : BT) : (f.fill T).root = f.p := by simp only [Fr.fill]; cases f.lft <;> rfl
theorem plug_fp : ∀ (C : List Fr) (T : BT), (plug C T).fp.Perm (T.fp ++ fpC C)
  | [], T => by simp [plug, fpC]
  | f :: C, T => by
    refine (plug_fp C (f.fill T)).trans ?_
    refine List.perm_iff_count.2 fun a => ?_
    simp only [Fr.fill, fpC]
    cases f.lft <;> (simp only [cond_true, cond_false, BT.fp, List.count_append, List.count_cons]; ac_rfl)
theorem plug_lvs : ∀ (C : List Fr) (T : BT), (plug C T).lvs.Perm (T.lvs ++ lvsC C)
  | [], T => by simp [plug, lvsC]
  | f :: C, T => by
    refine (plug_lvs C (f.fill T)).trans ?_
    simp only [Fr.fill, lvsC]
    rw [← List.append_assoc]
    refine List.Perm.append_right _ ?_
    cases f.lft with
    | true => exact List.Perm.refl _
    | false => exact List.perm_append_comm
theorem plug_root : ∀ (C : List Fr) (T : BT), (plug C T).root = rootC C T.root
  | [], T => rfl
  | f :: C, T => by rw [plug, plug_root C, fill_root]; rfl
theorem plug_sh {nd : List Nd} : ∀ (C : List Fr) (T : BT), Sh nd 0 (plug C T) → Sh nd (parC C) T ∧ ShC nd C T.root
  | [], T, h => ⟨h, trivial⟩
  | f :: C, T, h => by
    obtain ⟨h1, h2⟩ := plug_sh C (f.fill T) h
    rw [fill_root] at h2
    simp only [Fr.fill] at h1
    cases hf : f.lft with
    | true =>
      rw [hf] at h1
      obtain ⟨k1, ⟨i, k2⟩, k3, k4⟩ := h1
      exact ⟨k3, k1, by rw [k2], by rw [k2, hf]; rfl, by rw [k2, hf]; rfl, k4, h2⟩
    | false =>
      rw [hf] at h1
      obtain ⟨k1, ⟨i, k2⟩, k3, k4⟩ := h1
      exact ⟨k4, k1, by rw [k2], by rw [k2, hf]; rfl, by rw [k2, hf]; rfl, k3, h2⟩
theorem plug_bal : ∀ (C : List Fr) (T : BT), (plug C T).bal → T.bal ∧ balC C T.ht
  | [], T, h => ⟨h, trivial⟩
  | f :: C, T, h => by
    obtain ⟨h1, h2⟩ := plug_bal C (f.fill T) h
    simp only [Fr.fill] at h1 h2
    cases hf : f.lft with
    | true =>
      rw [hf] at h1 h2
      obtain ⟨k1, k2, k3, k4⟩ := h1
      exact ⟨k1, k2, k3, k4, h2⟩
    | false =>
      rw [hf] at h1 h2
      obtain ⟨k1, k2, k3, k4⟩ := h1
      refine ⟨k2, k1, k4, k3, ?_⟩
      simp only [cond_false, BT.ht] at h2
      rw [Nat.max_comm]; exact h2
theorem plug_ht : ∀ (C : List Fr) (T : BT), C.length + T.ht ≤ (plug C T).ht
  | [], T => by simp [plug]
  | f :: C, T => by
    have := plug_ht C (f.fill T)
    simp only [plug, List.length_cons]
    refine Nat.le_trans ?_ this
    simp only [Fr.fill]
    cases f.lft <;> simp only [cond_true, cond_false, BT.ht] <;> omega
theorem plug_app : ∀ (C D : List Fr) (T : BT), plug (C ++ D) T = plug D (plug C T)
  | [], D, T => rfl
  | f :: C, D, T => plug_app C D (f.fill T)
theorem leaf_plug : ∀ {T : BT} {x : Lv}, x ∈ T.lvs → ∃ C, T = plug C (.lf x)
  | .lf y, x, h => by simp only [BT.lvs, List.mem_singleton] at h; subst h; exact ⟨[], rfl⟩
  | .nd p l r, x, h => by
    simp only [BT.lvs, List.mem_append] at h
    rcases h with h | h
    · obtain ⟨C, rfl⟩ := leaf_plug h
      exact ⟨C ++ [⟨p, true, r⟩], by rw [plug_app]; rfl⟩
    · obtain ⟨C, rfl⟩ := leaf_plug h
      exact ⟨C ++ [⟨p, false, l⟩], by rw [plug_app]; rfl⟩
/-- The way down. -/
theorem des_ok {nd : List Nd} {a b c d : Int} : ∀ {T : BT} {k q : Nat}, Sh nd q T → T.ht ≤ k → desOK k nd a b c d T.root = true ∧ ∃ C x, T = plug C (.lf x) ∧ desN k nd a b c d T.root = x.p
  | .lf x, 0, q, h, hk => by simp [BT.ht] at hk
  | .lf x, k + 1, q, h, hk => by
    have e : (getN nd (BT.lf x).root).l = 0 := by show (getN nd x.p).l = 0; rw [h.2]
    refine ⟨?_, [], x, rfl, by simp only [desN, e, decide_true, cond_true]; rfl⟩
    simp only [desOK, Bool.and_eq_true, Bool.or_eq_true, okN_iff, e, decide_true, true_or, and_true]
    exact h.1
  | .nd p l r, 0, q, h, hk => by simp only [BT.ht] at hk; omega
  | .nd p l r, k + 1, q, h, hk => by
    obtain ⟨h1, ⟨i, h2⟩, h3, h4⟩ := h
    simp only [BT.ht] at hk
    have el : (getN nd p).l = l.root := by rw [h2]
    have er : (getN nd p).r = r.root := by rw [h2]
    have l1 := h3.top.1
    have r1 := h4.top.1
    have hl0 : l.root ≠ 0 := by omega
    obtain ⟨i1, Cl, xl, i2, i3⟩ := des_ok (a := a) (b := b) (c := c) (d := d) (k := k) h3 (by omega)
    obtain ⟨j1, Cr, xr, j2, j3⟩ := des_ok (a := a) (b := b) (c := c) (d := d) (k := k) h4 (by omega)
    have hs : desS nd a b c d p = l.root ∨ desS nd a b c d p = r.root := by
      simp only [desS, el, er, Bool.cond_decide]
      split
      · exact Or.inl rfl
      · exact Or.inr rfl
    have ok : desOK k nd a b c d (desS nd a b c d p) = true := by rcases hs with e | e <;> rw [e] <;> assumption
    refine ⟨?_, ?_⟩
    · simp only [BT.root, desOK, Bool.and_eq_true, Bool.or_eq_true, okN_iff, el, er, ok, and_true]
      exact ⟨h1, Or.inr ⟨l1, r1⟩⟩
    · have e0 : desN (k + 1) nd a b c d (BT.nd p l r).root = desN k nd a b c d (desS nd a b c d p) := by
        show desN (k + 1) nd a b c d p = _
        simp only [desN, el, Bool.cond_decide, if_neg hl0]
      rw [e0]
      rcases hs with e | e
      · rw [e]; exact ⟨Cl ++ [⟨p, true, r⟩], xl, by rw [plug_app, ← i2]; rfl, i3⟩
      · rw [e]; exact ⟨Cr ++ [⟨p, false, l⟩], xr, by rw [plug_app, ← j2]; rfl, j3⟩

def lvsO : Option BT → List Lv
  | none => []
  | some T => T.lvs
def fpO : Option BT → List Nat
  | none => []
  | some T => T.fp
def rootO : Option BT → Nat
  | none => 0
  | some T => T.root
def htO : Option BT → Nat
  | none => 0
  | some T => T.ht
/-- A tree, or none. -/
def GoodO (nd : List Nd) : Option BT → Prop
  | none => True
  | some T => Sh nd 0 T ∧ T.fp.Nodup ∧ T.bal ∧ T.val
theorem GoodO.ag {nd nd' : List Nd} {S : Nat → Prop} {o : Option BT} (h : GoodO nd o) (g : Ag nd nd' S) (hs : ∀ q ∈ fpO o, ¬ S q) : GoodO nd' o := by
  cases o with
  | none => trivial
  | some T => exact ⟨h.1.ag g hs, h.2⟩
theorem GoodO.le {nd : List Nd} {o : Option BT} (h : GoodO nd o) : ∀ q ∈ fpO o, 0 < q ∧ q ≤ nd.length := by
  cases o with
  | none => intro q hq; cases hq
  | some T => exact h.1.le
theorem GoodO.root_pos {nd : List Nd} {T : BT} (h : GoodO nd (some T)) : 0 < T.root ∧ T.root ≤ nd.length := h.1.top.1
structure AtR (nd nd' : List Nd) (f : Nat) (o : Option BT) (x : Lv) (T' : BT) : Prop where
  good : GoodO nd' (some T')
  lvs : T'.lvs.Perm (x :: lvsO o)
  fp : ∀ q ∈ T'.fp, q = f ∨ q ∈ fpO o ∨ q = nd.length + 1
  ag : Ag nd nd' (fun q => q = f ∨ q ∈ fpO o)
theorem FU_eq : FU = 64 := rfl
/-- A leaf laid into a tree. -/
theorem at_ok {nd : List Nd} {tr : List (Nat × Nat)} {t : Nat} {o : Option BT} {x : Lv} (ht : 0 < t ∧ t ≤ tr.length) (hr : (getT tr t).1 = rootO o) (g : GoodO nd o) (hf : 0 < x.p ∧ x.p ≤ nd.length) (ef : ∃ q, getN nd x.p = ⟨x.a, x.b, x.c, x.d, q, 0, 0, 1, x.id⟩) (hn : x.p ∉ fpO o) (vx : validB x.a x.b x.c x.d = true) (hl : (lvsO o).length ≤ 4096) :
    atOK nd tr t x.p = true ∧ ∃ T', AtR nd (atN nd tr t x.p) x.p o x T' ∧ atT nd tr t x.p = wRoot tr t T'.root := by
  obtain ⟨q0, ef⟩ := ef
  cases o with
  | none =>
    have hr : (getT tr t).1 = 0 := hr
    have e1 : atN nd tr t x.p = wPar nd x.p 0 := by simp only [atN, hr, decide_true, cond_true]
    have e2 : atT nd tr t x.p = wRoot tr t x.p := by simp only [atT, hr, decide_true, cond_true]
    refine ⟨?_, .lf x, ⟨⟨⟨⟨hf.1, by rw [e1]; simpa using hf.2⟩, ?_⟩, by simp [BT.fp], trivial, fun y hy => ?_⟩, List.Perm.refl _, fun q hq => ?_, ?_⟩, by rw [e2]; rfl⟩
    · simp only [atOK, Bool.and_eq_true, Bool.or_eq_true, okT_iff, okN_iff, hr, Nat.ble_eq, decide_true, true_or, and_true]
      exact ⟨ht, hf, Nat.zero_le _⟩
    · rw [e1, wPar, get_self hf.1 hf.2, ef]
    · simp only [BT.lvs, List.mem_singleton] at hy; subst hy; exact vx
    · simp only [BT.fp, List.mem_singleton] at hq; exact Or.inl hq
    · rw [e1]; exact (Ag.set nd hf.1 _).mono fun q _ h => Or.inl h
  | some T =>
    obtain ⟨hS, hd, hb, hv⟩ := g
    have hr : (getT tr t).1 = T.root := hr
    have hl : T.lvs.length ≤ 4096 := hl
    have hT := BT.ht_le hb (by omega)
    have r1 := hS.top.1
    obtain ⟨d1, C, w, d2, d3⟩ := des_ok (a := x.a) (b := x.b) (c := x.c) (d := x.d) (k := FU) hS (by rw [FU_eq]; omega)
    have hW : attW nd tr t x.p = w.p := by simp only [attW, ef, hr]; exact d3
    subst d2
    obtain ⟨s1, s2⟩ := plug_sh C (.lf w) hS
    obtain ⟨_, b2⟩ := plug_bal C (.lf w) hb
    have b3 := plug_ht C (.lf w)
    have pF := plug_fp C (.lf w)
    have pV := plug_lvs C (.lf w)
    have hroot := plug_root C (.lf w)
    have hd' := pF.nodup_iff.1 hd
    simp only [BT.fp, List.singleton_append, List.nodup_cons] at hd'
    have hwf : w.p ∈ fpO (some (plug C (.lf w))) := pF.mem_iff.2 (by simp [BT.fp])
    have hCf : ∀ q ∈ fpC C, q ∈ fpO (some (plug C (.lf w))) := fun q hq => pF.mem_iff.2 (List.mem_append.2 (Or.inr hq))
    have hxw : x.p ≠ w.p := fun e => hn (e ▸ hwf)
    have hxC : x.p ∉ fpC C := fun e => hn (hCf _ e)
    have hw1 : 0 < w.p ∧ w.p ≤ nd.length := s1.1
    -- the store, one node longer
    have gA : Ag nd (nd ++ [zN]) (fun _ => False) := ⟨by simp, fun q q1 q2 _ => getN_app _ q1 q2⟩
    have len1 : (nd ++ [zN]).length = nd.length + 1 := by simp
    have s1' := s1.ag gA fun _ _ h => h
    have s2' := s2.ag gA fun _ _ h => h
    have hi : 0 < nd.length + 1 ∧ nd.length + 1 ≤ (nd ++ [zN]).length := by omega
    have hiC : nd.length + 1 ∉ fpC C := fun e => by have := (s2.le _ e).2; omega
    obtain ⟨p1, p2, p3, p4, p5⟩ := rep_ok (nd := nd ++ [zN]) (tr := tr) (a := w.p) (b := nd.length + 1) ht (by rw [len1]; omega) hi s1'.par s2' hd'.1 hiC hd'.2
    have notp : ∀ y, y ∉ fpC C → ¬ (C ≠ [] ∧ y = parC C) := fun y hy e => hy (by rw [e.2]; exact parC_fp e.1)
    have gi : getN (nd ++ [zN]) (nd.length + 1) = zN := getN_new _ _
    have len2 : (repN (nd ++ [zN]) w.p (nd.length + 1)).length = nd.length + 1 := by rw [len_repN, len1]
    have sw := s1'.ag p4 fun y hy e => by
      simp only [BT.fp, List.mem_singleton] at hy
      subst hy
      exact e.elim (fun e => by omega) (notp _ hd'.1)
    have sx : Sh (repN (nd ++ [zN]) w.p (nd.length + 1)) q0 (.lf x) := ⟨⟨hf.1, by omega⟩, by
      rw [p4.eq x.p hf.1 (by omega) fun e => e.elim (fun e => by omega) (notp _ hxC), getN_app _ hf.1 hf.2]; exact ef⟩
    have hdd : ((nd.length + 1) :: ((BT.lf w).fp ++ (BT.lf x).fp)).Nodup := by
      simp only [BT.fp, List.singleton_append, List.nodup_cons, List.mem_cons, List.not_mem_nil, or_false, not_or, not_false_eq_true, List.nodup_nil, and_true]
      exact ⟨⟨by omega, by omega⟩, Ne.symm hxw⟩
    have vw : (BT.lf w).val := fun y hy => by
      simp only [BT.lvs, List.mem_singleton] at hy
      subst hy
      exact hv _ (pV.mem_iff.2 (by simp [BT.lvs]))
    have vx' : (BT.lf x).val := fun y hy => by simp only [BT.lvs, List.mem_singleton] at hy; subst hy; exact vx
    obtain ⟨o1, o2, o3, o4⟩ := ado_ok (nd := repN (nd ++ [zN]) w.p (nd.length + 1)) (n := nd.length + 1) (by omega) sw sx hdd vw vx' (by simp [BT.ht]) (by simp [BT.ht])
    rw [p3] at o2
    have o2 : Sh (adoN (repN (nd ++ [zN]) w.p (nd.length + 1)) (nd.length + 1) w.p x.p) (parC C) (.nd (nd.length + 1) (.lf w) (.lf x)) := o2
    have eN : attN nd tr t x.p = adoN (repN (nd ++ [zN]) w.p (nd.length + 1)) (nd.length + 1) w.p x.p := by simp only [attN, hW]
    have eT : attT nd tr t x.p = if C = [] then wRoot tr t (nd.length + 1) else tr := by simp only [attT, hW]; exact p5
    have s3 : ShC (attN nd tr t x.p) C (nd.length + 1) := by
      rw [eN]
      refine p2.ag o3 fun y hy e => ?_
      rcases e with e | e | e
      · exact hiC (e ▸ hy)
      · exact hd'.1 (by rw [show (BT.lf w).root = w.p from rfl] at e; exact e ▸ hy)
      · exact hxC (by rw [show (BT.lf x).root = x.p from rfl] at e; exact e ▸ hy)
    have lenA : (attN nd tr t x.p).length = nd.length + 1 := by rw [eN, len_adoN, len2]
    rw [← eN] at o2
    have hpar : (getN (attN nd tr t x.p) (nd.length + 1)).par = parC C := o2.par
    have eTl : (attT nd tr t x.p).length = tr.length := by rw [eT]; split <;> simp
    have hroot2 : (getT (attT nd tr t x.p) t).1 = rootC C (nd.length + 1) ∧ ∀ y, wRoot (attT nd tr t x.p) t y = wRoot tr t y := by
      rw [eT]
      by_cases hc : C = []
      · subst hc
        rw [if_pos rfl]
        exact ⟨by rw [wRoot, getT_set ht]; rfl, fun y => wRoot_two ht⟩
      · rw [if_neg hc]
        exact ⟨by rw [hr, hroot]; exact rootC_any hc _ _, fun y => rfl⟩
    have vC : ∀ y ∈ lvsC C, validB y.a y.b y.c y.d = true := fun y hy => hv y (pV.mem_iff.2 (List.mem_append.2 (Or.inr hy)))
    have hlen := pV.length_eq
    simp only [BT.lvs, List.length_append, List.length_cons, List.length_nil] at hlen
    have hd3 : ((BT.nd (nd.length + 1) (.lf w) (.lf x)).fp ++ fpC C).Nodup := by
      simp only [BT.fp, List.singleton_append, List.cons_append, List.nodup_cons, List.mem_cons, not_or, List.nil_append]
      exact ⟨⟨by omega, by omega, hiC⟩, ⟨Ne.symm hxw, hd'.1⟩, hxC, hd'.2⟩
    obtain ⟨k1, T', k2, k3⟩ := reb_ok C FU (attN nd tr t x.p) (attT nd tr t x.p) 1 (.nd (nd.length + 1) (.lf w) (.lf x)) (by simp only [BT.ht] at b3; rw [FU_eq]; omega) (by rw [eTl]; exact ht) o2 s3 hd3 ⟨trivial, trivial, by simp [BT.ht], by simp [BT.ht]⟩ (BT.val_nd.2 ⟨vw, vx'⟩) vC b2 (by unfold near; simp [BT.ht]) (by simp only [BT.lvs, List.length_append, List.length_cons, List.length_nil]; omega) hroot2.1
    have hne : (plug C (.lf w)).root ≠ 0 := by omega
    have e1 : atN nd tr t x.p = rebN FU (attN nd tr t x.p) (parC C) := by
      have : decide ((getT tr t).1 = 0) = false := by rw [hr]; simpa using hne
      rw [atN, this, hpar]; rfl
    have e2 : atT nd tr t x.p = rebT FU (attN nd tr t x.p) (attT nd tr t x.p) t (parC C) := by
      have : decide ((getT tr t).1 = 0) = false := by rw [hr]; simpa using hne
      rw [atT, this, hpar]; rfl
    have lv' : T'.lvs.Perm (x :: (plug C (.lf w)).lvs) := by
      refine k2.lvs.trans ?_
      refine List.Perm.trans ?_ (List.Perm.cons x pV.symm)
      simp only [BT.lvs, List.singleton_append, List.cons_append, List.nil_append]
      exact List.Perm.swap _ _ _
    refine ⟨?_, T', ⟨⟨by rw [e1]; exact k2.sh, k2.fp.nodup_iff.2 hd3, k2.bal, fun y hy => ?_⟩, lv', fun q hq => ?_, ?_⟩, by rw [e2, k3, hroot2.2]⟩
    · have hpl : parC C ≤ (attN nd tr t x.p).length := by
        cases C with
        | nil => exact Nat.zero_le _
        | cons f C => exact s3.1.2
      simp only [atOK, ef, hW, hr, hpar, Bool.and_eq_true, Bool.or_eq_true, okT_iff, okN_iff, Nat.ble_eq]
      exact ⟨ht, hf, r1.2, Or.inr ⟨d1, p1, o1, by omega, hpl, k1⟩⟩
    · rcases List.mem_cons.1 (lv'.mem_iff.1 hy) with rfl | h
      · exact vx
      · exact hv y h
    · have := k2.fp.mem_iff.1 hq
      simp only [BT.fp, List.singleton_append, List.cons_append, List.nil_append, List.mem_cons] at this
      rcases this with h | rfl | rfl | h
      · exact Or.inr (Or.inr h)
      · exact Or.inr (Or.inl hwf)
      · exact Or.inl rfl
      · exact Or.inr (Or.inl (hCf _ h))
    · rw [e1, eN] at *
      have hin : ∀ q, q ≤ nd.length → (q = nd.length + 1 ∨ q = w.p ∨ q = x.p ∨ q ∈ fpC C) → q = x.p ∨ q ∈ fpO (some (plug C (.lf w))) := fun q hq h => by
        rcases h with h | rfl | rfl | h
        · omega
        · exact Or.inr hwf
        · exact Or.inl rfl
        · exact Or.inr (hCf _ h)
      refine ((gA.trans (R := fun q => q = nd.length + 1 ∨ q = w.p ∨ q = x.p ∨ q ∈ fpC C) p4 (fun _ _ h => h.elim) fun q _ h => ?_).trans o3 (fun _ _ h => h) fun q _ h => ?_).trans k2.ag hin fun q hq h => hin q hq ?_
      · rcases h with h | h
        · exact Or.inl h
        · exact Or.inr (Or.inr (Or.inr (by rw [h.2]; exact parC_fp h.1)))
      · rcases h with h | h | h
        · exact Or.inl h
        · exact Or.inr (Or.inl h)
        · exact Or.inr (Or.inr (Or.inl h))
      · simpa [BT.fp, or_assoc] using h

structure DeR (nd nd' : List Nd) (T : BT) (x : Lv) (o : Option BT) : Prop where
  good : GoodO nd' o
  lvs : T.lvs.Perm (x :: lvsO o)
  fp : ∀ q ∈ fpO o, q ∈ T.fp ∧ q ≠ x.p
  ag : Ag nd nd' (· ∈ T.fp)
  len : nd'.length = nd.length
  at_ : ∃ q, getN nd' x.p = ⟨x.a, x.b, x.c, x.d, q, 0, 0, 1, x.id⟩
/-- A leaf taken out of a tree. -/
theorem de_ok {nd : List Nd} {tr : List (Nat × Nat)} {t : Nat} {T : BT} {x : Lv} (ht : 0 < t ∧ t ≤ tr.length) (hr : (getT tr t).1 = T.root) (g : GoodO nd (some T)) (hx : x ∈ T.lvs) (hl : T.lvs.length ≤ 4096) :
    deOK nd tr t x.p = true ∧ ∃ o, DeR nd (deN nd x.p) T x o ∧ deT nd tr t x.p = wRoot tr t (rootO o) := by
  obtain ⟨hS, hd, hb, hv⟩ := g
  have hT := BT.ht_le hb (by omega)
  obtain ⟨C, rfl⟩ := leaf_plug hx
  obtain ⟨s1, s2⟩ := plug_sh C (.lf x) hS
  obtain ⟨_, b2⟩ := plug_bal C (.lf x) hb
  have b3 := plug_ht C (.lf x)
  have pF := plug_fp C (.lf x)
  have pV := plug_lvs C (.lf x)
  have hroot := plug_root C (.lf x)
  have hx1 : 0 < x.p ∧ x.p ≤ nd.length := s1.1
  have hpar : (getN nd x.p).par = parC C := s1.par
  cases C with
  | nil =>
    have hpar : (getN nd x.p).par = 0 := hpar
    have e1 : deN nd x.p = nd := by rw [deN, hpar]; rfl
    have e2 : deT nd tr t x.p = wRoot tr t 0 := by rw [deT, hpar]; rfl
    refine ⟨?_, none, ⟨trivial, List.Perm.refl _, fun q hq => (by cases hq), by rw [e1]; exact Ag.refl _ _, by rw [e1], ⟨_, by rw [e1]; exact s1.2⟩⟩, e2⟩
    simp only [deOK, hpar, Bool.and_eq_true, okT_iff, okN_iff]
    exact ⟨ht, hx1, by simp⟩
  | cons f C =>
    obtain ⟨c1, c2, c3, c4, c5, c6⟩ := s2
    have hpar : (getN nd x.p).par = f.p := hpar
    have hp0 : f.p ≠ 0 := by omega
    have hd' := pF.nodup_iff.1 hd
    simp only [BT.fp, fpC, List.singleton_append, List.nodup_cons, List.mem_cons, List.mem_append, not_or] at hd'
    obtain ⟨⟨n1, n2, n3⟩, ⟨n4, n5⟩, n6⟩ := hd'
    have n7 := List.nodup_append.1 n6
    have hsr : f.s.root ≠ x.p := fun e => n2 (by rw [← e]; exact BT.root_fp f.s)
    have st := c5.top.1
    have hsib : sib nd x.p = f.s.root := by
      simp only [sib, hpar, Bool.cond_decide]
      cases hf : f.lft with
      | true =>
        rw [hf] at c3 c4
        have c3 : (getN nd f.p).l = x.p := c3
        rw [if_pos c3]; exact c4
      | false =>
        rw [hf] at c3 c4
        have c3 : (getN nd f.p).l = f.s.root := c3
        rw [c3, if_neg hsr]
    have hsOK : sibOK nd x.p = true := by
      simp only [sibOK, Bool.and_eq_true, okN_iff, hpar]
      refine ⟨hx1, c1, ?_⟩
      cases hf : f.lft with
      | true => rw [hf] at c3; have c3 : (getN nd f.p).l = x.p := c3; rw [c3]; exact hx1
      | false => rw [hf] at c3; have c3 : (getN nd f.p).l = f.s.root := c3; rw [c3]; exact st
    have hsC : f.s.root ∉ fpC C := fun e => n7.2.2 _ (BT.root_fp f.s) _ e rfl
    obtain ⟨p1, p2, p3, p4, p5⟩ := rep_ok (tr := tr) (a := f.p) (b := f.s.root) ht c1 st c2 c6 n5 hsC n7.2.1
    have notp : ∀ y, y ∉ fpC C → ¬ (C ≠ [] ∧ y = parC C) := fun y hy e => hy (by rw [e.2]; exact parC_fp e.1)
    have eN : detN nd x.p = repN nd f.p f.s.root := by simp only [detN, hpar, hsib]
    have eT : detT nd tr t x.p = if C = [] then wRoot tr t f.s.root else tr := by simp only [detT, hpar, hsib]; exact p5
    have sS : Sh (detN nd x.p) (parC C) f.s := by
      rw [eN]
      refine c5.move p4 n7.1 (fun y hy hne e => ?_) p3
      exact e.elim hne (notp y fun hc => n7.2.2 y hy y hc rfl)
    have hfp : getN (detN nd x.p) f.p = getN nd f.p := by
      rw [eN]
      exact p4.eq f.p c1.1 c1.2 fun e => e.elim (fun e => n4 (by rw [e]; exact BT.root_fp f.s)) (notp _ n5)
    have hpp : (getN (detN nd x.p) f.p).par = parC C := by rw [hfp]; exact c2
    have lenD : (detN nd x.p).length = nd.length := by rw [eN, len_repN]
    have eTl : (detT nd tr t x.p).length = tr.length := by rw [eT]; split <;> simp
    have hroot2 : (getT (detT nd tr t x.p) t).1 = rootC C f.s.root ∧ ∀ y, wRoot (detT nd tr t x.p) t y = wRoot tr t y := by
      have hroot : (plug (f :: C) (.lf x)).root = rootC C f.p := hroot
      rw [eT]
      by_cases hc : C = []
      · subst hc
        rw [if_pos rfl]
        exact ⟨by rw [wRoot, getT_set ht]; rfl, fun y => wRoot_two ht⟩
      · rw [if_neg hc]
        exact ⟨by rw [hr, hroot]; exact rootC_any hc _ _, fun y => rfl⟩
    have hlen := pV.length_eq
    simp only [BT.lvs, lvsC, List.length_append, List.length_cons, List.length_nil] at hlen
    obtain ⟨q1, q2, q3, q4⟩ := b2
    have vS : f.s.val := fun y hy => hv y (pV.mem_iff.2 (by simp [lvsC, hy]))
    obtain ⟨k1, T', k2, k3⟩ := reb_ok C FU (detN nd x.p) (detT nd tr t x.p) _ f.s (by simp only [BT.ht, List.length_cons] at b3; rw [FU_eq]; omega) (by rw [eTl]; exact ht) sS (by rw [eN]; exact p2) n6 q1 vS (fun y hy => hv y (pV.mem_iff.2 (by simp [lvsC, hy]))) q4 (by unfold near; have := f.s.ht_pos; simp only [BT.ht]; omega) (by omega) hroot2.1
    have hxT : x.p ∉ f.s.fp ++ fpC C := by simp only [List.mem_append, not_or]; exact ⟨n2, n3⟩
    have hTf : ∀ q, q ∈ f.s.fp ++ fpC C → q ∈ (plug (f :: C) (.lf x)).fp := fun q hq => pF.mem_iff.2 (by
      simp only [fpC, List.mem_append, List.mem_cons] at hq ⊢
      exact Or.inr (Or.inr hq))
    have lenR : (rebN FU (detN nd x.p) (parC C)).length = nd.length := by rw [len_rebN, lenD]
    have e1 : deN nd x.p = wPar (rebN FU (detN nd x.p) (parC C)) x.p 0 := by
      rw [deN, hpar, show decide (f.p = 0) = false by simpa using hp0, hpp]; rfl
    have e2 : deT nd tr t x.p = rebT FU (detN nd x.p) (detT nd tr t x.p) t (parC C) := by
      rw [deT, hpar, show decide (f.p = 0) = false by simpa using hp0, hpp]; rfl
    have gx : getN (rebN FU (detN nd x.p) (parC C)) x.p = getN nd x.p := by
      rw [k2.ag.eq x.p hx1.1 (by rw [lenD]; exact hx1.2) hxT, eN]
      exact p4.eq x.p hx1.1 hx1.2 fun e => e.elim (fun e => hsr e.symm) (notp _ n3)
    have gS := Ag.set (rebN FU (detN nd x.p) (parC C)) hx1.1 { getN (rebN FU (detN nd x.p) (parC C)) x.p with par := 0 }
    have hT' : ∀ q ∈ T'.fp, q ∈ f.s.fp ++ fpC C := fun q hq => k2.fp.mem_iff.1 hq
    have lv' : (plug (f :: C) (.lf x)).lvs.Perm (x :: T'.lvs) := by
      refine pV.trans ?_
      refine List.Perm.trans ?_ (List.Perm.cons x k2.lvs.symm)
      simp [BT.lvs, lvsC]
    refine ⟨?_, some T', ⟨⟨?_, k2.fp.nodup_iff.2 n6, k2.bal, fun y hy => hv y (lv'.mem_iff.2 (List.mem_cons.2 (Or.inr hy)))⟩, lv', fun q hq => ⟨hTf q (hT' q hq), fun e => hxT (e ▸ hT' q hq)⟩, ?_, by rw [e1]; simp [lenR], ?_⟩, by rw [e2, k3, hroot2.2]; rfl⟩
    · have hpl : parC C ≤ (detN nd x.p).length := by
        rw [lenD]
        cases C with
        | nil => exact Nat.zero_le _
        | cons g C => exact c6.1.2
      simp only [deOK, hpar, hsib, hpp, Bool.and_eq_true, Bool.or_eq_true, okT_iff, okN_iff, Nat.ble_eq, lenD, lenR]
      rw [lenD] at hpl
      exact ⟨ht, hx1, Or.inr ⟨hsOK, p1, c1, hpl, k1, hx1⟩⟩
    · rw [e1]
      exact k2.sh.ag gS fun q hq e => hxT (e ▸ hT' q hq)
    · rw [e1]
      have g1 : Ag nd (detN nd x.p) (· ∈ (plug (f :: C) (.lf x)).fp) := by
        rw [eN]
        refine p4.mono fun q _ e => ?_
        rcases e with rfl | e
        · exact hTf _ (List.mem_append.2 (Or.inl (BT.root_fp f.s)))
        · rw [e.2]; exact hTf _ (List.mem_append.2 (Or.inr (parC_fp e.1)))
      exact (g1.trans k2.ag (fun _ _ h => h) fun q _ h => hTf q h).trans gS (fun _ _ h => h) fun q _ h => by rw [h]; exact pF.mem_iff.2 (by simp [BT.fp])
    · refine ⟨0, ?_⟩
      rw [e1, wPar, get_self hx1.1 (by rw [lenR]; exact hx1.2), gx, s1.2]
end Go.Proofs.Ytkfaflhhkmkdjaa

namespace Go.Proofs.Ytkfaflhhkmkdjaa
open Go.RowKit Fx Vx Bx Ev
set_option linter.unusedVariables false
set_option linter.unusedSimpArgs false

theorem cnt_eq {s o : Int} (h : o = s) : cnt s o = 1 := by simp [cnt, h]
theorem cnt_ne {s o : Int} (h : o ≠ s) : cnt s o = 0 := by simp [cnt, h]
theorem cnt_bd (s o : Int) : 0 ≤ cnt s o ∧ cnt s o ≤ 1 := by unfold cnt; split <;> omega
theorem sideN4 (s x y z u a b c d : Int) : sideN s x y z u (corn a b c d) 4 = cnt s (orient x y z u a b) + cnt s (orient x y z u c b) + cnt s (orient x y z u c d) + cnt s (orient x y z u a d) := by
  show 0 + cnt s (orient x y z u a b) + cnt s (orient x y z u c b) + cnt s (orient x y z u c d) + cnt s (orient x y z u a d) = _
  omega
theorem sideN4_lt (s x y z u a b c d : Int) : (sideN s x y z u (corn a b c d) 4 < 4) ↔ (orient x y z u a b ≠ s ∨ orient x y z u c b ≠ s ∨ orient x y z u c d ≠ s ∨ orient x y z u a d ≠ s) := by
  rw [sideN4]
  unfold cnt
  by_cases h1 : orient x y z u a b = s <;> by_cases h2 : orient x y z u c b = s <;> by_cases h3 : orient x y z u c d = s <;> by_cases h4 : orient x y z u a d = s <;> simp [h1, h2, h3, h4]
theorem orient_swap (a b c d e f : Int) : orient c d a b e f = - orient a b c d e f := by
  have e1 : orientN c d a b e f = - orientN a b c d e f := by
    unfold orientN
    generalize sat a = a; generalize sat b = b; generalize sat c = c; generalize sat d = d; generalize sat e = e; generalize sat f = f
    have p1 : (a - c) * (f - d) = a * f - a * d - c * f + c * d := by simp only [Int.sub_mul, Int.mul_sub]; omega
    have p2 : (b - d) * (e - c) = b * e - b * c - d * e + d * c := by simp only [Int.sub_mul, Int.mul_sub]; omega
    have p3 : (c - a) * (f - b) = c * f - c * b - a * f + a * b := by simp only [Int.sub_mul, Int.mul_sub]; omega
    have p4 : (d - b) * (e - a) = d * e - d * a - b * e + b * a := by simp only [Int.sub_mul, Int.mul_sub]; omega
    rw [p1, p2, p3, p4, Int.mul_comm d c, Int.mul_comm b c, Int.mul_comm d a, Int.mul_comm b a]
    omega
  have h1 := orient_minmax c d a b e f
  have h2 := orient_minmax a b c d e f
  omega
theorem iseg_swap (a b c d x y z u : Int) : isegB a b c d z u x y = isegB a b c d x y z u := by
  have e1 : decide (sideN 1 z u x y (corn a b c d) 4 < 4) = decide (sideN (-1) x y z u (corn a b c d) 4 < 4) := by
    rw [decide_eq_decide, sideN4_lt, sideN4_lt]
    simp only [orient_swap x y z u]
    omega
  have e2 : decide (sideN (-1) z u x y (corn a b c d) 4 < 4) = decide (sideN 1 x y z u (corn a b c d) 4 < 4) := by
    rw [decide_eq_decide, sideN4_lt, sideN4_lt]
    simp only [orient_swap x y z u]
    omega
  simp only [isegB, e1, e2, Int.min_comm (sat z), Int.min_comm (sat u), Int.max_comm (sat z), Int.max_comm (sat u)]
  rw [Bool.and_comm (decide (sideN (-1) x y z u (corn a b c d) 4 < 4))]
theorem cont_over {a b c d e f g h i j k l : Int} (p : containsB a b c d e f g h = true) (q : overlapsB e f g h i j k l = true) : overlapsB a b c d i j k l = true := by
  simp only [containsB, overlapsB, overB, inB, Bool.and_eq_true, decide_eq_true_eq] at *
  exact ⟨⟨p.1.1, q.1.2⟩, by omega⟩
theorem mul_mono {D x y : Int} (h : (0 ≤ D ∧ x ≤ y) ∨ (D ≤ 0 ∧ y ≤ x)) : D * x ≤ D * y := by
  rcases h with ⟨p, q⟩ | ⟨p, q⟩
  · exact Int.mul_le_mul_of_nonneg_left q p
  · exact Int.mul_le_mul_of_nonpos_left p q
theorem corner_low {D E X Y a b c d e f : Int} (h1 : a ≤ e) (h2 : e ≤ c) (h3 : b ≤ f) (h4 : f ≤ d) :
    (D * (b - Y) - E * (a - X) ≤ D * (f - Y) - E * (e - X)) ∨ (D * (b - Y) - E * (c - X) ≤ D * (f - Y) - E * (e - X)) ∨ (D * (d - Y) - E * (c - X) ≤ D * (f - Y) - E * (e - X)) ∨ (D * (d - Y) - E * (a - X) ≤ D * (f - Y) - E * (e - X)) := by
  rcases Int.le_total 0 D with p | p <;> rcases Int.le_total 0 E with q | q
  · have a1 := mul_mono (D := D) (x := b - Y) (y := f - Y) (Or.inl ⟨p, by omega⟩); have a2 := mul_mono (D := E) (x := e - X) (y := c - X) (Or.inl ⟨q, by omega⟩); omega
  · have a1 := mul_mono (D := D) (x := b - Y) (y := f - Y) (Or.inl ⟨p, by omega⟩); have a2 := mul_mono (D := E) (x := e - X) (y := a - X) (Or.inr ⟨q, by omega⟩); omega
  · have a1 := mul_mono (D := D) (x := d - Y) (y := f - Y) (Or.inr ⟨p, by omega⟩); have a2 := mul_mono (D := E) (x := e - X) (y := c - X) (Or.inl ⟨q, by omega⟩); omega
  · have a1 := mul_mono (D := D) (x := d - Y) (y := f - Y) (Or.inr ⟨p, by omega⟩); have a2 := mul_mono (D := E) (x := e - X) (y := a - X) (Or.inr ⟨q, by omega⟩); omega
theorem corner_high {D E X Y a b c d e f : Int} (h1 : a ≤ e) (h2 : e ≤ c) (h3 : b ≤ f) (h4 : f ≤ d) :
    (D * (f - Y) - E * (e - X) ≤ D * (b - Y) - E * (a - X)) ∨ (D * (f - Y) - E * (e - X) ≤ D * (b - Y) - E * (c - X)) ∨ (D * (f - Y) - E * (e - X) ≤ D * (d - Y) - E * (c - X)) ∨ (D * (f - Y) - E * (e - X) ≤ D * (d - Y) - E * (a - X)) := by
  have := corner_low (D := -D) (E := -E) (X := X) (Y := Y) h1 h2 h3 h4
  simp only [Int.neg_mul] at this
  omega
theorem side_mono {a b c d e f g h x y z u : Int} (p : containsB a b c d e f g h = true) : ((sideN 1 x y z u (corn e f g h) 4 < 4) → (sideN 1 x y z u (corn a b c d) 4 < 4)) ∧ ((sideN (-1) x y z u (corn e f g h) 4 < 4) → (sideN (-1) x y z u (corn a b c d) 4 < 4)) := by
  simp only [containsB, validB, satB, inB, Bool.and_eq_true, decide_eq_true_eq, beq_iff_eq] at p
  obtain ⟨⟨⟨⟨⟨h1, h2⟩, h3, h4⟩, h5, h6⟩, ⟨⟨⟨i1, i2⟩, i3, i4⟩, i5, i6⟩⟩, ⟨⟨h7, h8⟩, h9⟩, h10⟩ := p
  have f' : ∀ p q, sat p = p → sat q = q → orientN x y z u p q = (sat z - sat x) * (q - sat y) - (sat u - sat y) * (p - sat x) := fun p q hp hq => by simp only [orientN, hp, hq]
  have m := fun p q => orient_minmax x y z u p q
  have low := fun p q (k1 : a ≤ p) (k2 : p ≤ c) (k3 : b ≤ q) (k4 : q ≤ d) => corner_low (D := sat z - sat x) (E := sat u - sat y) (X := sat x) (Y := sat y) k1 k2 k3 k4
  have hig := fun p q (k1 : a ≤ p) (k2 : p ≤ c) (k3 : b ≤ q) (k4 : q ≤ d) => corner_high (D := sat z - sat x) (E := sat u - sat y) (X := sat x) (Y := sat y) k1 k2 k3 k4
  rw [sideN4_lt, sideN4_lt, sideN4_lt, sideN4_lt]
  have l1 := low e f (by omega) (by omega) (by omega) (by omega); have l2 := low g f (by omega) (by omega) (by omega) (by omega); have l3 := low g h (by omega) (by omega) (by omega) (by omega); have l4 := low e h (by omega) (by omega) (by omega) (by omega)
  have g1 := hig e f (by omega) (by omega) (by omega) (by omega); have g2 := hig g f (by omega) (by omega) (by omega) (by omega); have g3 := hig g h (by omega) (by omega) (by omega) (by omega); have g4 := hig e h (by omega) (by omega) (by omega) (by omega)
  rw [← f' e f i3 i4, ← f' a b h3 h4, ← f' c b h5 h4, ← f' c d h5 h6, ← f' a d h3 h6] at l1 g1
  rw [← f' g f i5 i4, ← f' a b h3 h4, ← f' c b h5 h4, ← f' c d h5 h6, ← f' a d h3 h6] at l2 g2
  rw [← f' g h i5 i6, ← f' a b h3 h4, ← f' c b h5 h4, ← f' c d h5 h6, ← f' a d h3 h6] at l3 g3
  rw [← f' e h i3 i6, ← f' a b h3 h4, ← f' c b h5 h4, ← f' c d h5 h6, ← f' a d h3 h6] at l4 g4
  have m1 := m a b; have m2 := m c b; have m3 := m c d; have m4 := m a d
  have n1 := m e f; have n2 := m g f; have n3 := m g h; have n4 := m e h
  have pos : ∀ {n o : Int}, ((0 < n → o = 1) ∧ (n < 0 → o = -1) ∧ (n = 0 → o = 0)) → ((o ≠ 1 ↔ n ≤ 0) ∧ (o ≠ -1 ↔ 0 ≤ n)) := fun {n o} k => by
    obtain ⟨k1, k2, k3⟩ := k
    rcases Int.lt_trichotomy n 0 with q | q | q
    · have := k2 q; omega
    · have := k3 q; omega
    · have := k1 q; omega
  rw [(pos m1).1, (pos m2).1, (pos m3).1, (pos m4).1, (pos n1).1, (pos n2).1, (pos n3).1, (pos n4).1, (pos m1).2, (pos m2).2, (pos m3).2, (pos m4).2, (pos n1).2, (pos n2).2, (pos n3).2, (pos n4).2]
  clear m1 m2 m3 m4 n1 n2 n3 n4 m pos low hig f'
  constructor
  · rintro (k | k | k | k)
    · rcases l1 with l | l | l | l
      · exact Or.inl (by omega)
      · exact Or.inr (Or.inl (by omega))
      · exact Or.inr (Or.inr (Or.inl (by omega)))
      · exact Or.inr (Or.inr (Or.inr (by omega)))
    · rcases l2 with l | l | l | l
      · exact Or.inl (by omega)
      · exact Or.inr (Or.inl (by omega))
      · exact Or.inr (Or.inr (Or.inl (by omega)))
      · exact Or.inr (Or.inr (Or.inr (by omega)))
    · rcases l3 with l | l | l | l
      · exact Or.inl (by omega)
      · exact Or.inr (Or.inl (by omega))
      · exact Or.inr (Or.inr (Or.inl (by omega)))
      · exact Or.inr (Or.inr (Or.inr (by omega)))
    · rcases l4 with l | l | l | l
      · exact Or.inl (by omega)
      · exact Or.inr (Or.inl (by omega))
      · exact Or.inr (Or.inr (Or.inl (by omega)))
      · exact Or.inr (Or.inr (Or.inr (by omega)))
  · rintro (k | k | k | k)
    · rcases g1 with l | l | l | l
      · exact Or.inl (by omega)
      · exact Or.inr (Or.inl (by omega))
      · exact Or.inr (Or.inr (Or.inl (by omega)))
      · exact Or.inr (Or.inr (Or.inr (by omega)))
    · rcases g2 with l | l | l | l
      · exact Or.inl (by omega)
      · exact Or.inr (Or.inl (by omega))
      · exact Or.inr (Or.inr (Or.inl (by omega)))
      · exact Or.inr (Or.inr (Or.inr (by omega)))
    · rcases g3 with l | l | l | l
      · exact Or.inl (by omega)
      · exact Or.inr (Or.inl (by omega))
      · exact Or.inr (Or.inr (Or.inl (by omega)))
      · exact Or.inr (Or.inr (Or.inr (by omega)))
    · rcases g4 with l | l | l | l
      · exact Or.inl (by omega)
      · exact Or.inr (Or.inl (by omega))
      · exact Or.inr (Or.inr (Or.inl (by omega)))
      · exact Or.inr (Or.inr (Or.inr (by omega)))
theorem cont_iseg {a b c d e f g h x y z u : Int} (p : containsB a b c d e f g h = true) (q : isegB e f g h x y z u = true) : isegB a b c d x y z u = true := by
  obtain ⟨s1, s2⟩ := side_mono (x := x) (y := y) (z := z) (u := u) p
  simp only [containsB, isegB, overB, inB, Bool.and_eq_true, decide_eq_true_eq] at *
  exact ⟨⟨p.1.1, by omega⟩, s1 q.2.1, s2 q.2.2⟩
end Go.Proofs.Ytkfaflhhkmkdjaa

namespace Go.Proofs.Ytkfaflhhkmkdjaa
open Fx Vx Bx Ev
set_option linter.unusedVariables false
set_option linter.unusedSimpArgs false

/-- A test of boxes that a greater box passes too. -/
def Mono (φ : Int → Int → Int → Int → Bool) : Prop := ∀ a b c d e f g h, containsB a b c d e f g h = true → φ e f g h = true → φ a b c d = true
def tst (φ : Int → Int → Int → Int → Bool) (n : Nd) : Bool := φ n.b0 n.b1 n.b2 n.b3
def ovP (a b c d : Int) (p q r s : Int) : Bool := overlapsB p q r s a b c d
def sgP (x y z w : Int) (p q r s : Int) : Bool := isegB p q r s x y z w
def alP (p q r s : Int) : Bool := true
theorem ovT_eq (a b c d : Int) : ovT a b c d = tst (ovP a b c d) := rfl
theorem segT_eq (x y z w : Int) : segT x y z w = tst (sgP x y z w) := rfl
theorem allT_eq : allT = tst alP := rfl
theorem mono_ov (a b c d : Int) : Mono (ovP a b c d) := fun _ _ _ _ _ _ _ _ h k => cont_over h k
theorem mono_sg (x y z w : Int) : Mono (sgP x y z w) := fun _ _ _ _ _ _ _ _ h k => cont_iseg h k
theorem mono_al : Mono alP := fun _ _ _ _ _ _ _ _ _ _ => rfl

structure En where
  id : Int
  a : Int
  b : Int
  c : Int
  d : Int
def Lv.en (x : Lv) : En := ⟨x.id, x.a, x.b, x.c, x.d⟩
def En.is (φ : Int → Int → Int → Int → Bool) (e : En) : Bool := φ e.a e.b e.c e.d

theorem BT.cont : ∀ {T : BT}, T.val → ∀ x ∈ T.lvs, T.x0 ≤ x.a ∧ T.x1 ≤ x.b ∧ x.c ≤ T.x2 ∧ x.d ≤ T.x3
  | .lf y, h, x, hx => by simp only [lvs, List.mem_singleton] at hx; subst hx; simp [x0, x1, x2, x3]
  | .nd p l r, h, x, hx => by
    obtain ⟨hl, hr⟩ := BT.val_nd.1 h
    simp only [lvs, List.mem_append] at hx
    simp only [x0, x1, x2, x3]
    rcases hx with hx | hx
    · have := BT.cont hl x hx; omega
    · have := BT.cont hr x hx; omega
theorem BT.contB {T : BT} (h : T.val) {x : Lv} (hx : x ∈ T.lvs) : containsB T.x0 T.x1 T.x2 T.x3 x.a x.b x.c x.d = true := by
  have := BT.cont h x hx
  simp only [containsB, BT.valid h, h x hx, inB, Bool.true_and, Bool.and_eq_true, decide_eq_true_eq]
  exact ⟨⟨⟨this.1, this.2.1⟩, this.2.2.1⟩, this.2.2.2⟩

theorem col_ok {φ : Int → Int → Int → Int → Bool} (hφ : Mono φ) {nd : List Nd} : ∀ {T : BT} {k q : Nat}, Sh nd q T → T.val → T.ht ≤ k →
    colOK (tst φ) k nd T.root = true ∧ colE (tst φ) k nd T.root = rw1 ((T.lvs.filter fun x => x.en.is φ).map (·.id))
  | .lf x, 0, q, h, v, hk => by simp [BT.ht] at hk
  | .lf x, k + 1, q, h, v, hk => by
    obtain ⟨h1, h2⟩ := h
    have hx0 : (BT.lf x).root ≠ 0 := by show x.p ≠ 0; omega
    have hg : getN nd (BT.lf x).root = ⟨x.a, x.b, x.c, x.d, q, 0, 0, 1, x.id⟩ := h2
    have hr : okN nd (BT.lf x).root = true := okN_iff.2 h1
    refine ⟨?_, ?_⟩
    · simp only [colOK, hr, hg, Bool.and_eq_true, Bool.or_eq_true, decide_true, Bool.true_or, and_true]
      right
      refine ⟨trivial, Or.inr (Nat.ble_eq_true_of_le (Nat.zero_le _))⟩
    · simp only [colE, hg, Bool.cond_decide, if_neg hx0, if_true, tst, BT.lvs, Lv.en, En.is]
      cases hp : φ x.a x.b x.c x.d with
      | true => simp [rw1, hp]
      | false => simp [rw1, hp]
  | .nd p l r, 0, q, h, v, hk => by simp only [BT.ht] at hk; omega
  | .nd p l r, k + 1, q, h, v, hk => by
    obtain ⟨h1, ⟨i, h2⟩, h3, h4⟩ := h
    have hp0 : p ≠ 0 := by omega
    simp only [BT.ht] at hk
    have vv := BT.val_nd.1 v
    obtain ⟨i1, i2⟩ := col_ok hφ (k := k) h3 vv.1 (by omega)
    obtain ⟨j1, j2⟩ := col_ok hφ (k := k) h4 vv.2 (by omega)
    have l1 := h3.top.1
    have r1 := h4.top.1
    have hl0 : l.root ≠ 0 := by omega
    have hroot : (BT.nd p l r).root = p := rfl
    have el : (getN nd p).l = l.root := by rw [h2]
    have er : (getN nd p).r = r.root := by rw [h2]
    have et : tst φ (getN nd p) = φ (BT.nd p l r).x0 (BT.nd p l r).x1 (BT.nd p l r).x2 (BT.nd p l r).x3 := by rw [h2]; rfl
    rw [hroot]
    refine ⟨?_, ?_⟩
    · simp only [colOK, Bool.and_eq_true, Bool.or_eq_true, okN_iff, el, er, i1, j1, Nat.ble_eq, and_true]
      exact Or.inr ⟨h1, Or.inr ⟨l1.2, Or.inr r1.2⟩⟩
    · simp only [colE, Bool.cond_decide, if_neg hp0, el, er, if_neg hl0, et, i2, j2]
      cases hb : φ (BT.nd p l r).x0 (BT.nd p l r).x1 (BT.nd p l r).x2 (BT.nd p l r).x3 with
      | true => simp [rw1, BT.lvs]
      | false =>
        have : (BT.nd p l r).lvs.filter (fun x => x.en.is φ) = [] := List.filter_eq_nil_iff.2 fun x hx hh => by
          have := hφ _ _ _ _ _ _ _ _ (BT.contB v hx) hh
          rw [hb] at this; cases this
        rw [this]
        rfl

/- The map of a tree: entries. -/
theorem hasE_iff {id : Int} : ∀ {es : List (Int × Nat)}, hasE es id = true ↔ id ∈ es.map (·.1)
  | [] => by simp [hasE]
  | (k, p) :: r => by
    simp only [hasE, Bool.cond_decide, List.map_cons, List.mem_cons]
    split
    · rename_i h; exact ⟨fun _ => Or.inl h, fun _ => rfl⟩
    · rename_i h
      rw [hasE_iff]
      exact ⟨Or.inr, fun k => k.resolve_left h⟩
theorem lookE_mem {id : Int} {p : Nat} : ∀ {es : List (Int × Nat)}, (es.map (·.1)).Nodup → (id, p) ∈ es → lookE es id = p
  | [], _, h => by cases h
  | (k, q) :: r, hn, h => by
    simp only [List.map_cons, List.nodup_cons] at hn
    simp only [lookE, Bool.cond_decide]
    rcases List.mem_cons.1 h with h | h
    · cases h; rw [if_pos rfl]
    · rw [if_neg (fun e => hn.1 (by rw [← e]; exact List.mem_map.2 ⟨_, h, rfl⟩))]
      exact lookE_mem hn.2 h
theorem putE_new {id : Int} {p : Nat} : ∀ {es : List (Int × Nat)}, id ∉ es.map (·.1) → putE es id p = es ++ [(id, p)]
  | [], _ => rfl
  | (k, q) :: r, h => by
    simp only [List.map_cons, List.mem_cons, not_or] at h
    simp only [putE, Bool.cond_decide, if_neg h.1, putE_new h.2, List.cons_append]
theorem delE_perm {id : Int} {p : Nat} : ∀ {es : List (Int × Nat)}, (es.map (·.1)).Nodup → (id, p) ∈ es → es.Perm ((id, p) :: delE es id)
  | [], _, h => by cases h
  | (k, q) :: r, hn, h => by
    simp only [List.map_cons, List.nodup_cons] at hn
    simp only [delE, Bool.cond_decide]
    rcases List.mem_cons.1 h with h | h
    · cases h; rw [if_pos rfl]
    · rw [if_neg (fun e => hn.1 (by rw [← e]; exact List.mem_map.2 ⟨_, h, rfl⟩))]
      exact (List.Perm.cons _ (delE_perm hn.2 h)).trans (List.Perm.swap _ _ _)

/- The boxes by their numbers, ascending. -/
def Asc (M : List En) : Prop := M.Pairwise fun x y => x.id < y.id
def hasM (M : List En) (id : Int) : Bool := M.any fun e => decide (e.id = id)
def insM (e : En) : List En → List En
  | [] => [e]
  | x :: r => if e.id < x.id then e :: x :: r else x :: insM e r
def delM (id : Int) (M : List En) : List En := M.filter fun e => !decide (e.id = id)
theorem hasM_iff {M : List En} {id : Int} : hasM M id = true ↔ id ∈ M.map (·.id) := by simp [hasM]
theorem insM_perm (e : En) : ∀ M : List En, (insM e M).Perm (e :: M)
  | [] => List.Perm.refl _
  | x :: r => by
    simp only [insM]
    split
    · exact List.Perm.refl _
    · exact (List.Perm.cons x (insM_perm e r)).trans (List.Perm.swap _ _ _)
theorem insM_asc {e : En} : ∀ {M : List En}, Asc M → e.id ∉ M.map (·.id) → Asc (insM e M)
  | [], _, _ => by simp [insM, Asc]
  | x :: r, h, hn => by
    simp only [List.map_cons, List.mem_cons, not_or] at hn
    have h' := List.pairwise_cons.1 h
    simp only [insM]
    split
    · rename_i hlt
      refine List.pairwise_cons.2 ⟨fun y hy => ?_, h⟩
      rcases List.mem_cons.1 hy with rfl | hy
      · exact hlt
      · have := h'.1 y hy; omega
    · rename_i hlt
      refine List.pairwise_cons.2 ⟨fun y hy => ?_, insM_asc h'.2 hn.2⟩
      have := (insM_perm e r).mem_iff.1 hy
      rcases List.mem_cons.1 this with rfl | hy
      · have := hn.1; omega
      · exact h'.1 y hy
theorem delM_asc {M : List En} (h : Asc M) (id : Int) : Asc (delM id M) := List.Pairwise.filter _ h
theorem Asc.nodup {M : List En} (h : Asc M) : (M.map (·.id)).Nodup := by
  rw [List.Nodup, List.pairwise_map]
  exact List.Pairwise.imp (fun h => by omega) h
/-- Ascending lists of the same boxes are one. -/
theorem Asc.eq {M N : List En} (hM : Asc M) (hN : Asc N) (h : M.Perm N) : M = N :=
  List.Perm.eq_of_pairwise (fun x y _ _ (h1 : x.id < y.id) (h2 : y.id < x.id) => by omega) hM hN h
theorem del_perm {M : List En} (hM : Asc M) {e : En} (he : e ∈ M) : M.Perm (e :: delM e.id M) := by
  have key : ∀ {M : List En}, (M.map (·.id)).Nodup → e ∈ M → M.Perm (e :: delM e.id M) := fun {M} => by
    induction M with
    | nil => intro _ h; cases h
    | cons x r ih =>
      intro hn h
      simp only [List.map_cons, List.nodup_cons] at hn
      have hnot : ∀ {y : En}, y ∈ r → y.id ≠ x.id := fun {y} hy k => hn.1 (by rw [← k]; exact List.mem_map.2 ⟨y, hy, rfl⟩)
      rcases List.mem_cons.1 h with rfl | h
      · have : delM e.id (e :: r) = r := by
          simp only [delM, List.filter_cons, decide_true, Bool.not_true, Bool.false_eq_true, if_false]
          exact List.filter_eq_self.2 fun y hy => by simpa using hnot hy
        rw [this]
      · have hne : x.id ≠ e.id := fun k => hnot h k.symm
        have : delM e.id (x :: r) = x :: delM e.id r := by simp only [delM, List.filter_cons, hne, decide_false, Bool.not_false, if_true]
        rw [this]
        exact (List.Perm.cons _ (ih hn.2 h)).trans (List.Perm.swap _ _ _)
  exact key hM.nodup he
/-- A query's answer. -/
def qM (φ : Int → Int → Int → Int → Bool) (M : List En) : List Int := (M.filter fun e => e.is φ).map (·.id)
theorem qM_asc {φ : Int → Int → Int → Int → Bool} {M : List En} (h : Asc M) : (qM φ M).Pairwise (· < ·) := by
  rw [qM, List.pairwise_map]
  exact List.Pairwise.filter _ h
end Go.Proofs.Ytkfaflhhkmkdjaa

namespace Go.Proofs.Ytkfaflhhkmkdjaa
open Fx Vx Bx Ev
set_option linter.unusedVariables false
set_option linter.unusedSimpArgs false

/-- The tree t of the store holds the boxes M; o: its nodes. -/
structure Rp (nd : List Nd) (tr : List (Nat × Nat)) (mp : List (List (Int × Nat))) (t : Nat) (o : Option BT) (M : List En) : Prop where
  t0 : 0 < t ∧ t ≤ tr.length
  root : (getT tr t).1 = rootO o
  good : GoodO nd o
  mi : (getT tr t).2 ≤ mp.length
  ents : (getM mp (getT tr t).2).Perm ((lvsO o).map fun x => (x.id, x.p))
  ens : ((lvsO o).map Lv.en).Perm M
  asc : Asc M
  len : M.length ≤ 4096
/-- What a method leaves as it was. -/
structure Fra (nd : List Nd) (tr : List (Nat × Nat)) (mp : List (List (Int × Nat))) (nd' : List Nd) (tr' : List (Nat × Nat)) (mp' : List (List (Int × Nat))) (t : Nat) (o o' : Option BT) : Prop where
  ag : Ag nd nd' (· ∈ fpO o)
  trl : tr'.length = tr.length
  tro : ∀ s, 0 < s → s ≠ t → getT tr' s = getT tr s
  mpl : mp.length ≤ mp'.length
  mpo : ∀ i, 0 < i → i ≤ mp.length → i ≠ (getT tr t).2 → getM mp' i = getM mp i
  fp : ∀ q ∈ fpO o', q ∈ fpO o ∨ nd.length < q
  mi : (getT tr' t).2 = (getT tr t).2 ∨ mp.length < (getT tr' t).2
section
variable {nd : List Nd} {tr : List (Nat × Nat)} {mp : List (List (Int × Nat))} {t : Nat} {o : Option BT} {M : List En}
theorem Fra.refl (t : Nat) (o : Option BT) : Fra nd tr mp nd tr mp t o o := ⟨Ag.refl _ _, rfl, fun _ _ _ => rfl, Nat.le_refl _, fun _ _ _ _ => rfl, fun _ h => Or.inl h, Or.inl rfl⟩
theorem Fra.trans {nd' nd'' : List Nd} {tr' tr'' : List (Nat × Nat)} {mp' mp'' : List (List (Int × Nat))} {o' o'' : Option BT} (h : Fra nd tr mp nd' tr' mp' t o o') (k : Fra nd' tr' mp' nd'' tr'' mp'' t o' o'') : Fra nd tr mp nd'' tr'' mp'' t o o'' :=
  ⟨h.ag.trans k.ag (fun _ _ h => h) (fun q hq hh => (h.fp q hh).resolve_right (by omega)), k.trl.trans h.trl, fun s h1 h2 => (k.tro s h1 h2).trans (h.tro s h1 h2), Nat.le_trans h.mpl k.mpl,
    fun i h1 h2 h3 => (k.mpo i h1 (Nat.le_trans h2 h.mpl) (by rcases h.mi with e | e <;> omega)).trans (h.mpo i h1 h2 h3),
    fun q hq => by
      rcases k.fp q hq with h1 | h1
      · exact h.fp q h1
      · exact Or.inr (Nat.lt_of_le_of_lt h.ag.len h1),
    by
      have h5 := h.mpl
      rcases k.mi with e | e
      · rw [e]; exact h.mi
      · exact Or.inr (by omega)⟩
theorem Rp.ids (h : Rp nd tr mp t o M) : ((lvsO o).map (·.id)).Nodup := by
  have h1 : ((lvsO o).map (·.id)).Perm (M.map (·.id)) := by
    have := h.ens.map En.id
    rw [List.map_map] at this
    exact this
  exact h1.nodup_iff.2 h.asc.nodup
theorem Rp.nod (h : Rp nd tr mp t o M) : ((getM mp (getT tr t).2).map (·.1)).Nodup := by
  have h1 := h.ents.map Prod.fst
  rw [List.map_map] at h1
  exact h1.nodup_iff.2 h.ids
theorem Rp.has (h : Rp nd tr mp t o M) (id : Int) : hasE (getM mp (getT tr t).2) id = hasM M id := by
  have h1 := h.ents.map Prod.fst
  rw [List.map_map] at h1
  have h2 := h.ens.map En.id
  rw [List.map_map] at h2
  rw [Bool.eq_iff_iff, hasE_iff, hasM_iff]
  exact h1.mem_iff.trans h2.mem_iff
theorem Rp.look (h : Rp nd tr mp t o M) {id : Int} (hh : hasE (getM mp (getT tr t).2) id = true) : ∃ x ∈ lvsO o, x.id = id ∧ lookE (getM mp (getT tr t).2) id = x.p := by
  obtain ⟨⟨k, p⟩, h1, rfl⟩ := List.mem_map.1 (hasE_iff.1 hh)
  obtain ⟨x, hx, e⟩ := List.mem_map.1 (h.ents.mem_iff.1 h1)
  injection e with e1 e2
  subst e1; subst e2
  exact ⟨x, hx, rfl, lookE_mem h.nod h1⟩
theorem Rp.count (h : Rp nd tr mp t o M) : (lvsO o).length = M.length ∧ (getM mp (getT tr t).2).length = M.length := by
  have h1 := h.ens.length_eq
  have h2 := h.ents.length_eq
  simp only [List.length_map] at h1 h2
  exact ⟨h1, by omega⟩
theorem Rp.tpos (h : Rp nd tr mp t o M) : decide (t = 0) = false := by have := h.t0; simp; omega
/-- Another tree stays what it is. -/
theorem Rp.keep {nd' : List Nd} {tr' : List (Nat × Nat)} {mp' : List (List (Int × Nat))} {s : Nat} {o2 o2' : Option BT} (h : Rp nd tr mp t o M) (f : Fra nd tr mp nd' tr' mp' s o2 o2') (hts : t ≠ s) (hd : ∀ q ∈ fpO o, q ∉ fpO o2) (hm : (getT tr t).2 = 0 ∨ (getT tr t).2 ≠ (getT tr s).2) : Rp nd' tr' mp' t o M := by
  have e := f.tro t h.t0.1 hts
  refine ⟨by rw [f.trl]; exact h.t0, by rw [e]; exact h.root, h.good.ag f.ag hd, by rw [e]; exact Nat.le_trans h.mi f.mpl, ?_, h.ens, h.asc, h.len⟩
  rw [e]
  cases hz : (getT tr t).2 with
  | zero => have := h.ents; rw [hz] at this; exact this
  | succ i =>
    rw [f.mpo (i + 1) (Nat.succ_pos _) (by rw [← hz]; exact h.mi) (by rw [← hz]; exact hm.resolve_left (by omega)), ← hz]
    exact h.ents
theorem wRoot_2 (ht : 0 < t ∧ t ≤ tr.length) (x : Nat) : (getT (wRoot tr t x) t).2 = (getT tr t).2 ∧ (getT (wRoot tr t x) t).1 = x := by rw [wRoot, getT_set ht]; exact ⟨rfl, rfl⟩
theorem wRoot_o (ht : 0 < t) {s : Nat} (hs : 0 < s) (h : s ≠ t) (x : Nat) : getT (wRoot tr t x) s = getT tr s := getT_other ht hs h _
theorem getM_set {i : Nat} (h : 0 < i ∧ i ≤ mp.length) (l : List (Int × Nat)) : getM (setM mp i l) i = l := by
  obtain ⟨j, rfl⟩ : ∃ j, i = j + 1 := ⟨i - 1, by omega⟩
  simp [getM, setM, List.getD_eq_getElem?_getD, show j < mp.length by omega]
theorem getM_other {i j : Nat} (hj : 0 < j) (h : j ≠ i) (hi : 0 < i) (l : List (Int × Nat)) : getM (setM mp i l) j = getM mp j := by
  obtain ⟨k, rfl⟩ : ∃ k, j = k + 1 := ⟨j - 1, by omega⟩
  simp only [getM, setM, List.getD_eq_getElem?_getD, List.getElem?_set]
  rw [if_neg (by omega)]
theorem getM_app {i : Nat} (h : i ≤ mp.length) (x : List (List (Int × Nat))) : getM (mp ++ x) i = getM mp i := by
  cases i with
  | zero => rfl
  | succ i =>
    simp only [getM, List.getD_eq_getElem?_getD]
    rw [List.getElem?_append_left (by omega)]

/-- Insert. -/
theorem Rp.ins (h : Rp nd tr mp t o M) (id a b c d : Int) : inOK nd tr mp t id a b c d = true ∧
    insE tr mp t id a b c d = (if validB a b c d = true then (if hasM M id = true then 7 else if 4096 ≤ M.length then 9 else 0) else 2) ∧
    ∃ o', Rp (inN nd tr mp t id a b c d) (inT nd tr mp t id a b c d) (inM nd tr mp t id a b c d) t o' (if validB a b c d = true ∧ hasM M id = false ∧ M.length < 4096 then insM ⟨id, a, b, c, d⟩ M else M) ∧ Fra nd tr mp (inN nd tr mp t id a b c d) (inT nd tr mp t id a b c d) (inM nd tr mp t id a b c d) t o o' := by
  have hE : insE tr mp t id a b c d = (if validB a b c d = true then (if hasM M id = true then 7 else if 4096 ≤ M.length then 9 else 0) else 2) := by
    simp only [insE, h.tpos, cond_false, h.has, h.count.2]
    cases validB a b c d <;> cases hasM M id <;> simp <;> (try split) <;> omega
  by_cases hyes : validB a b c d = true ∧ hasM M id = false ∧ M.length < 4096
  · obtain ⟨y1, y2, y3⟩ := hyes
    have hE0 : insE tr mp t id a b c d = 0 := by rw [hE, if_pos y1, y2]; simp; omega
    obtain ⟨hD, e1, e2, e3⟩ := in_yes (nd := nd) hE0
    have hD' := hD
    -- the map
    have htr : (insTr tr mp t).length = tr.length := by simp only [insTr, Bool.cond_decide]; split <;> simp
    have hmap : (getT (insTr tr mp t) t).1 = (getT tr t).1 ∧ (0 < (getT (insTr tr mp t) t).2 ∧ (getT (insTr tr mp t) t).2 ≤ (insM0 tr mp t).length) ∧ getM (insM0 tr mp t) (getT (insTr tr mp t) t).2 = getM mp (getT tr t).2 ∧ ((getT (insTr tr mp t) t).2 = (getT tr t).2 ∨ mp.length < (getT (insTr tr mp t) t).2) ∧ mp.length ≤ (insM0 tr mp t).length ∧ (∀ i, i ≤ mp.length → getM (insM0 tr mp t) i = getM mp i) ∧ ∀ s, 0 < s → s ≠ t → getT (insTr tr mp t) s = getT tr s := by
      by_cases hz : (getT tr t).2 = 0
      · have q1 : insTr tr mp t = wMap tr t (mp.length + 1) := by simp only [insTr, hz, decide_true, cond_true]
        have q2 : insM0 tr mp t = mp ++ [[]] := by simp only [insM0, hz, decide_true, cond_true]
        rw [q1, q2, wMap, getT_set h.t0, hz]
        refine ⟨rfl, ⟨Nat.succ_pos _, by simp⟩, ?_, Or.inr (Nat.lt_succ_self _), by simp, fun i hi => getM_app hi _, fun s hs hne => getT_other h.t0.1 hs hne _⟩
        simp [getM]
      · have q1 : insTr tr mp t = tr := by simp only [insTr, Bool.cond_decide, if_neg hz]
        have q2 : insM0 tr mp t = mp := by simp only [insM0, Bool.cond_decide, if_neg hz]
        rw [q1, q2]
        exact ⟨rfl, ⟨by omega, h.mi⟩, rfl, Or.inl rfl, Nat.le_refl _, fun _ _ => rfl, fun _ _ _ => rfl⟩
    obtain ⟨m1, m2, m3, m4, m5, m6, m7⟩ := hmap
    have gA : Ag nd (nd ++ [leafN a b c d id]) (fun _ => False) := ⟨by simp, fun q q1 q2 _ => getN_app _ q1 q2⟩
    have hle := h.good.le
    obtain ⟨k1, T', k2, k3⟩ := at_ok (nd := nd ++ [leafN a b c d id]) (tr := insTr tr mp t) (o := o) (x := ⟨nd.length + 1, a, b, c, d, id⟩) (by rw [htr]; exact h.t0) (by rw [m1]; exact h.root) (h.good.ag gA fun _ _ h => h) ⟨Nat.succ_pos _, by simp⟩ ⟨0, getN_new _ _⟩ (fun hc => by have := (hle _ hc).2; dsimp only at this; omega) y1 (by rw [h.count.1]; exact h.len)
    have k1 : atOK (nd ++ [leafN a b c d id]) (insTr tr mp t) t (nd.length + 1) = true := k1
    have k3 : atT (nd ++ [leafN a b c d id]) (insTr tr mp t) t (nd.length + 1) = wRoot (insTr tr mp t) t T'.root := k3
    have k2 : AtR (nd ++ [leafN a b c d id]) (atN (nd ++ [leafN a b c d id]) (insTr tr mp t) t (nd.length + 1)) (nd.length + 1) o ⟨nd.length + 1, a, b, c, d, id⟩ T' := k2
    have w2 := wRoot_2 (tr := insTr tr mp t) (t := t) (by rw [htr]; exact h.t0) T'.root
    have hmp : inM nd tr mp t id a b c d = setM (insM0 tr mp t) (getT (insTr tr mp t) t).2 (getM mp (getT tr t).2 ++ [(id, nd.length + 1)]) := by
      rw [e3]
      simp only [insMp]
      rw [m3, putE_new]
      intro hc
      have := hasE_iff.2 hc
      rw [h.has, y2] at this; cases this
    refine ⟨?_, hE, some T', ⟨?_, ?_, by rw [e1]; exact k2.good, ?_, ?_, ?_, ?_, ?_⟩, ⟨?_, ?_, ?_, ?_, ?_, ?_, ?_⟩⟩
    · simp only [inOK, Bool.or_eq_true, Bool.and_eq_true, okT_iff, Nat.ble_eq, Nat.blt_eq, k1, htr]
      exact Or.inr ⟨h.t0, h.mi, Or.inr ⟨h.t0, m2.1, m2.2, trivial⟩⟩
    · rw [e2, k3]; simp [htr]; exact h.t0
    · rw [e2, k3]; exact w2.2
    · rw [e2, k3, w2.1, hmp, len_setM]; exact m2.2
    · rw [e2, k3, w2.1, hmp, getM_set m2]
      refine List.Perm.trans ?_ (k2.lvs.map fun x => (x.id, x.p)).symm
      refine (List.perm_append_comm).trans ?_
      exact List.Perm.cons _ h.ents
    · rw [if_pos ⟨y1, y2, y3⟩]
      refine (k2.lvs.map Lv.en).trans ?_
      exact (List.Perm.cons _ h.ens).trans (insM_perm _ _).symm
    · rw [if_pos ⟨y1, y2, y3⟩]
      exact insM_asc h.asc fun hc => by have := hasM_iff.2 hc; rw [y2] at this; cases this
    · rw [if_pos ⟨y1, y2, y3⟩]
      have := (insM_perm ⟨id, a, b, c, d⟩ M).length_eq
      simp only [List.length_cons] at this
      omega
    · rw [e1]
      exact gA.trans k2.ag (fun _ _ h => h.elim) fun q hq hh => hh.resolve_left (by omega)
    · rw [e2, k3]; simp [htr]
    · intro s hs hne
      rw [e2, k3, wRoot_o h.t0.1 hs hne]; exact m7 s hs hne
    · rw [hmp, len_setM]; exact m5
    · intro i h0 h1 h2
      rw [hmp, getM_other h0 (by rcases m4 with e | e <;> omega) m2.1]
      exact m6 i h1
    · intro q hq
      rcases k2.fp q hq with h1 | h1 | h1
      · exact Or.inr (by omega)
      · exact Or.inl h1
      · simp only [List.length_append, List.length_cons, List.length_nil] at h1
        exact Or.inr (by omega)
    · rw [e2, k3, w2.1]; exact m4
  · have hne : insE tr mp t id a b c d ≠ 0 := by
      rw [hE]
      split
      · rename_i h1
        split
        · omega
        · rename_i h2
          split
          · omega
          · rename_i h3
            exact absurd ⟨h1, by simpa using h2, by omega⟩ hyes
      · omega
    obtain ⟨e1, e2, e3⟩ := in_no (nd := nd) (e := insE tr mp t id a b c d) rfl hne
    have hD : insD tr mp t id a b c d = false := by simp [insD, hne]
    refine ⟨?_, hE, o, ?_, ?_⟩
    · simp only [inOK, hD, Bool.or_eq_true, Bool.and_eq_true, okT_iff, Nat.ble_eq, Bool.not_false]
      exact Or.inr ⟨h.t0, h.mi, Or.inl trivial⟩
    · rw [e1, e2, e3, if_neg hyes]; exact h
    · rw [e1, e2, e3]; exact Fra.refl _ _

/-- Remove. -/
theorem Rp.rem (h : Rp nd tr mp t o M) (id : Int) : reOK nd tr mp t id = true ∧ remD tr mp t id = hasM M id ∧
    ∃ o', Rp (reN nd tr mp t id) (reT nd tr mp t id) (reM nd tr mp t id) t o' (delM id M) ∧ Fra nd tr mp (reN nd tr mp t id) (reT nd tr mp t id) (reM nd tr mp t id) t o o' := by
  have hD : remD tr mp t id = hasM M id := by rw [remD_1 h.tpos, h.has]
  cases hh : hasM M id with
  | true =>
    rw [hh] at hD
    obtain ⟨e1, e2, e3⟩ := re_yes (nd := nd) hD
    have hE : hasE (getM mp (getT tr t).2) id = true := by rw [h.has, hh]
    obtain ⟨x, hx, hxi, hxl⟩ := h.look hE
    have hL : lkN tr mp t id = x.p := hxl
    cases o with
    | none => cases hx
    | some T =>
      obtain ⟨k1, o', k2, k3⟩ := de_ok h.t0 h.root h.good hx (by have := h.count.1; have := h.len; simp only [lvsO] at *; omega)
      have w2 := wRoot_2 (tr := tr) h.t0 (rootO o')
      have m0 : 0 < (getT tr t).2 := by
        refine Nat.pos_of_ne_zero fun e => ?_
        rw [e] at hE
        simp [getM, hasE] at hE
      rw [hL] at e1 e2 e3
      rw [k3] at e2 e3
      rw [w2.1] at e3
      have hmem : (id, x.p) ∈ getM mp (getT tr t).2 := h.ents.mem_iff.2 (List.mem_map.2 ⟨x, hx, by rw [hxi]⟩)
      have hdel := delE_perm h.nod hmem
      have hens : (Lv.en x) ∈ M := h.ens.mem_iff.1 (List.mem_map.2 ⟨x, hx, rfl⟩)
      have hdp := del_perm h.asc hens
      rw [show (Lv.en x).id = id from hxi] at hdp
      refine ⟨?_, hD, o', ⟨?_, ?_, by rw [e1]; exact k2.good, ?_, ?_, ?_, delM_asc h.asc id, ?_⟩, ⟨by rw [e1]; exact k2.ag, ?_, ?_, ?_, ?_, ?_, ?_⟩⟩
      · have hh1 : hsN tr mp t id = true := hE
        simp only [reOK, hh1, hL, k1, k3, Bool.or_eq_true, Bool.and_eq_true, okT_iff, Nat.ble_eq, Nat.blt_eq, w2.1, len_wRoot]
        exact Or.inr ⟨h.t0, h.mi, Or.inr ⟨trivial, h.t0, m0, h.mi⟩⟩
      · rw [e2, len_wRoot]; exact h.t0
      · rw [e2]; exact w2.2
      · rw [e2, w2.1, e3, len_setM]; exact h.mi
      · rw [e2, w2.1, e3, getM_set ⟨m0, h.mi⟩]
        have h1 : ((id, x.p) :: delE (getM mp (getT tr t).2) id).Perm ((id, x.p) :: (lvsO o').map fun x => (x.id, x.p)) := by
          refine hdel.symm.trans (h.ents.trans ?_)
          have := k2.lvs.map fun x : Lv => (x.id, x.p)
          rw [List.map_cons, hxi] at this
          exact this
        exact h1.cons_inv
      · have h1 : (Lv.en x :: (lvsO o').map Lv.en).Perm (Lv.en x :: delM id M) := (k2.lvs.map Lv.en).symm.trans (h.ens.trans hdp)
        exact h1.cons_inv
      · exact Nat.le_trans (List.length_filter_le _ _) h.len
      · rw [e2, len_wRoot]
      · intro s hs hne; rw [e2]; exact wRoot_o h.t0.1 hs hne _
      · rw [e3, len_setM]; exact Nat.le_refl _
      · intro i h0 h1 h2; rw [e3]; exact getM_other h0 h2 m0 _
      · intro q hq; exact Or.inl (k2.fp q hq).1
      · rw [e2, w2.1]; exact Or.inl rfl
  | false =>
    rw [hh] at hD
    obtain ⟨e1, e2, e3⟩ := re_no (nd := nd) hD
    have hM : delM id M = M := List.filter_eq_self.2 fun y hy => by
      have : ¬ hasM M id = true := by rw [hh]; simp
      rw [hasM_iff] at this
      simp only [Bool.not_eq_true', decide_eq_false_iff_not]
      exact fun e => this (List.mem_map.2 ⟨y, hy, e⟩)
    refine ⟨?_, hD, o, by rw [e1, e2, e3, hM]; exact h, by rw [e1, e2, e3]; exact Fra.refl _ _⟩
    have hh1 : hsN tr mp t id = false := by show hasE _ _ = false; rw [h.has, hh]
    simp only [reOK, hh1, Bool.or_eq_true, Bool.and_eq_true, okT_iff, Nat.ble_eq, Bool.not_false]
    exact Or.inr ⟨h.t0, h.mi, Or.inl trivial⟩

/-- Update. -/
theorem Rp.upd (h : Rp nd tr mp t o M) (id a b c d : Int) : upOK nd tr mp t id a b c d = true ∧ updE tr mp t id a b c d = (if validB a b c d = true then (if hasM M id = true then 0 else 8) else 2) ∧
    ∃ o', Rp (upN nd tr mp t id a b c d) (upT nd tr mp t id a b c d) mp t o' (if validB a b c d = true ∧ hasM M id = true then insM ⟨id, a, b, c, d⟩ (delM id M) else M) ∧ Fra nd tr mp (upN nd tr mp t id a b c d) (upT nd tr mp t id a b c d) mp t o o' := by
  have hE : updE tr mp t id a b c d = (if validB a b c d = true then (if hasM M id = true then 0 else 8) else 2) := by
    have : hsN tr mp t id = hasM M id := h.has id
    simp only [updE, h.tpos, cond_false, this]
    cases validB a b c d <;> cases hasM M id <;> rfl
  by_cases hyes : validB a b c d = true ∧ hasM M id = true
  · obtain ⟨y1, y2⟩ := hyes
    have hE0 : updE tr mp t id a b c d = 0 := by rw [hE, if_pos y1, if_pos y2]
    obtain ⟨e1, e2⟩ := up_yes (nd := nd) hE0
    have hE1 : hasE (getM mp (getT tr t).2) id = true := by rw [h.has, y2]
    obtain ⟨x, hx, hxi, hxl⟩ := h.look hE1
    have hL : lkN tr mp t id = x.p := hxl
    cases o with
    | none => cases hx
    | some T =>
      have hcT : T.lvs.length = M.length := h.count.1
      obtain ⟨k1, o1, k2, k3⟩ := de_ok h.t0 h.root h.good hx (by have := h.len; omega)
      have w2 := wRoot_2 (tr := tr) h.t0 (rootO o1)
      obtain ⟨q, k4⟩ := k2.at_
      have hxT : x.p ∈ T.fp := by
        obtain ⟨C, e⟩ := leaf_plug hx
        rw [e]; exact (plug_fp C (.lf x)).mem_iff.2 (by simp [BT.fp])
      have hx0 := h.good.1.le _ hxT
      have hx1 : 0 < x.p ∧ x.p ≤ (deN nd x.p).length := by rw [k2.len]; exact hx0
      have hB : updB nd tr mp t id a b c d = wB (deN nd x.p) x.p a b c d := by simp only [updB, hL]
      have gB : Ag (deN nd x.p) (wB (deN nd x.p) x.p a b c d) (· = x.p) := Ag.set _ hx1.1 _
      have lB : (wB (deN nd x.p) x.p a b c d).length = nd.length := by rw [len_wB, k2.len]
      have hx2 : x.p ∉ fpO o1 := fun hc => (k2.fp _ hc).2 rfl
      have gx : getN (wB (deN nd x.p) x.p a b c d) x.p = ⟨a, b, c, d, q, 0, 0, 1, x.id⟩ := by rw [wB, get_self hx1.1 hx1.2, k4]
      obtain ⟨j1, T', j2, j3⟩ := at_ok (nd := wB (deN nd x.p) x.p a b c d) (tr := wRoot tr t (rootO o1)) (t := t) (o := o1) (x := ⟨x.p, a, b, c, d, x.id⟩) (by rw [len_wRoot]; exact h.t0) w2.2 (k2.good.ag gB fun y hy e => hx2 (e ▸ hy)) (by rw [lB]; exact hx0) ⟨q, gx⟩ hx2 y1 (by have := k2.lvs.length_eq; have := h.len; simp only [List.length_cons] at *; omega)
      have j1 : atOK (wB (deN nd x.p) x.p a b c d) (wRoot tr t (rootO o1)) t x.p = true := j1
      have j3 : atT (wB (deN nd x.p) x.p a b c d) (wRoot tr t (rootO o1)) t x.p = wRoot (wRoot tr t (rootO o1)) t T'.root := j3
      have j2 : AtR (wB (deN nd x.p) x.p a b c d) (atN (wB (deN nd x.p) x.p a b c d) (wRoot tr t (rootO o1)) t x.p) x.p o1 ⟨x.p, a, b, c, d, x.id⟩ T' := j2
      rw [hL, k3] at e1 e2
      rw [hB] at e1 e2
      rw [j3, wRoot_two h.t0] at e2
      have w3 := wRoot_2 (tr := tr) h.t0 T'.root
      have hens : (Lv.en x) ∈ M := h.ens.mem_iff.1 (List.mem_map.2 ⟨x, hx, rfl⟩)
      have hdp := del_perm h.asc hens
      rw [show (Lv.en x).id = id from hxi] at hdp
      have hd1 : ((lvsO o1).map Lv.en).Perm (delM id M) := ((k2.lvs.map Lv.en).symm.trans (h.ens.trans hdp)).cons_inv
      have hnew : id ∉ (delM id M).map (·.id) := fun hc => by
        obtain ⟨y, hy, e⟩ := List.mem_map.1 hc
        have := (List.mem_filter.1 hy).2
        simp [e] at this
      refine ⟨?_, hE, some T', ⟨?_, ?_, by rw [e1]; exact j2.good, ?_, ?_, ?_, ?_, ?_⟩, ⟨?_, ?_, ?_, Nat.le_refl _, fun _ _ _ _ => rfl, ?_, ?_⟩⟩
      · simp only [upOK, hL, hB, k1, k3, j1, Bool.or_eq_true, Bool.and_eq_true, okT_iff, okN_iff, Nat.ble_eq]
        exact Or.inr ⟨h.t0, h.mi, Or.inr ⟨trivial, hx1, trivial⟩⟩
      · rw [e2, len_wRoot]; exact h.t0
      · rw [e2]; exact w3.2
      · rw [e2, w3.1]; exact h.mi
      · rw [e2, w3.1]
        refine h.ents.trans ?_
        have p1 := k2.lvs.map fun x : Lv => (x.id, x.p)
        have p2 := j2.lvs.map fun x : Lv => (x.id, x.p)
        exact p1.trans p2.symm
      · rw [if_pos ⟨y1, y2⟩]
        refine (j2.lvs.map Lv.en).trans ?_
        refine List.Perm.trans ?_ (insM_perm _ _).symm
        have e : Lv.en ⟨x.p, a, b, c, d, x.id⟩ = ⟨id, a, b, c, d⟩ := by simp only [Lv.en, hxi]
        rw [List.map_cons, e]
        exact List.Perm.cons _ hd1
      · rw [if_pos ⟨y1, y2⟩]
        exact insM_asc (delM_asc h.asc id) hnew
      · rw [if_pos ⟨y1, y2⟩]
        have h1 := (insM_perm ⟨id, a, b, c, d⟩ (delM id M)).length_eq
        have h2 := hdp.length_eq
        have := h.len
        simp only [List.length_cons] at h1 h2
        omega
      · rw [e1]
        refine (k2.ag.trans gB (fun _ _ h => h) fun q _ h => h ▸ hxT).trans j2.ag (fun _ _ h => h) fun q _ hh => ?_
        rcases hh with rfl | hh
        · exact hxT
        · exact (k2.fp q hh).1
      · rw [e2, len_wRoot]
      · intro s hs hne; rw [e2]; exact wRoot_o h.t0.1 hs hne _
      · intro q hq
        rcases j2.fp q hq with rfl | hh | hh
        · exact Or.inl hxT
        · exact Or.inl (k2.fp q hh).1
        · rw [lB] at hh; exact Or.inr (by omega)
      · rw [e2, w3.1]; exact Or.inl rfl
  · have hne : updE tr mp t id a b c d ≠ 0 := by
      rw [hE]
      split
      · rename_i h1
        split
        · rename_i h2; exact absurd ⟨h1, h2⟩ hyes
        · omega
      · omega
    obtain ⟨e1, e2⟩ := up_no (nd := nd) (e := updE tr mp t id a b c d) rfl hne
    refine ⟨?_, hE, o, by rw [e1, e2, if_neg hyes]; exact h, by rw [e1, e2]; exact Fra.refl _ _⟩
    have hh1 : hsN tr mp t id = hasM M id := h.has id
    simp only [upOK, hh1, Bool.or_eq_true, Bool.and_eq_true, okT_iff, Nat.ble_eq]
    refine Or.inr ⟨h.t0, h.mi, Or.inl ?_⟩
    cases hv : validB a b c d with
    | true =>
      cases hm : hasM M id with
      | true => exact absurd ⟨hv, hm⟩ hyes
      | false => exact Or.inr rfl
    | false => exact Or.inl rfl

def lkM (M : List En) (id : Int) : Option En := M.find? fun e => decide (e.id = id)
theorem lkM_mem {M : List En} (hM : Asc M) {e : En} (he : e ∈ M) : lkM M e.id = some e := by
  have key : ∀ {M : List En}, (M.map (·.id)).Nodup → e ∈ M → M.find? (fun x => decide (x.id = e.id)) = some e := fun {M} => by
    induction M with
    | nil => intro _ h; cases h
    | cons x r ih =>
      intro hn h
      simp only [List.map_cons, List.nodup_cons] at hn
      simp only [List.find?_cons]
      rcases List.mem_cons.1 h with rfl | h
      · simp
      · have hne : ¬ x.id = e.id := fun k => hn.1 (by rw [k]; exact List.mem_map.2 ⟨e, h, rfl⟩)
        simp only [hne, decide_false]
        exact ih hn.2 h
  exact key hM.nodup he
theorem lkM_none {M : List En} {id : Int} (h : hasM M id = false) : lkM M id = none := by
  refine List.find?_eq_none.2 fun x hx hh => ?_
  have : hasM M id = true := hasM_iff.2 (List.mem_map.2 ⟨x, hx, by simpa using hh⟩)
  rw [h] at this; cases this
/-- Bounds. -/
theorem Rp.bnd (h : Rp nd tr mp t o M) (id : Int) : bndOK nd tr mp t id = true ∧ bndD tr mp t id = (lkM M id).isSome ∧
    ∀ e, lkM M id = some e → bnd nd tr mp t id 0 = e.a ∧ bnd nd tr mp t id 1 = e.b ∧ bnd nd tr mp t id 2 = e.c ∧ bnd nd tr mp t id 3 = e.d := by
  have hD : bndD tr mp t id = hasM M id := by
    have : hsN tr mp t id = hasM M id := h.has id
    simp only [bndD, h.tpos, this, Bool.not_false, Bool.true_and]
  have hsE : hsN tr mp t id = hasM M id := h.has id
  cases hh : hasM M id with
  | true =>
    rw [hh] at hD
    obtain ⟨x, hx, hxi, hxl⟩ := h.look (show hasE (getM mp (getT tr t).2) id = true by rw [h.has, hh])
    have hL : lkN tr mp t id = x.p := hxl
    cases o with
    | none => cases hx
    | some T =>
      have hens : (Lv.en x) ∈ M := h.ens.mem_iff.1 (List.mem_map.2 ⟨x, hx, rfl⟩)
      have hk := lkM_mem h.asc hens
      rw [show (Lv.en x).id = id from hxi] at hk
      obtain ⟨C, e⟩ := leaf_plug hx
      have hS := h.good.1
      rw [e] at hS
      have hs := (plug_sh C (.lf x) hS).1
      have hs1 : 0 < x.p ∧ x.p ≤ nd.length := hs.1
      have hs2 : getN nd x.p = ⟨x.a, x.b, x.c, x.d, parC C, 0, 0, 1, x.id⟩ := hs.2
      refine ⟨?_, by rw [hD, hk]; rfl, fun e he => ?_⟩
      · simp only [bndOK, hL, Bool.or_eq_true, Bool.and_eq_true, okT_iff, okN_iff, Nat.ble_eq]
        exact Or.inr ⟨h.t0, h.mi, Or.inr hs1⟩
      · rw [hk] at he
        injection he with he
        subst he
        simp only [Proofs.Ytkfaflhhkmkdjaa.bnd, hD, cond_true, hL, hs2]
        exact ⟨rfl, rfl, rfl, rfl⟩
  | false =>
    rw [hh] at hD
    rw [lkM_none hh]
    refine ⟨?_, hD, fun e he => by cases he⟩
    simp only [bndOK, hsE, hh, Bool.or_eq_true, Bool.and_eq_true, okT_iff, Nat.ble_eq, Bool.not_false]
    exact Or.inr ⟨h.t0, h.mi, Or.inl trivial⟩
/-- Len. -/
theorem Rp.len_ (h : Rp nd tr mp t o M) : lenOK tr mp t = true ∧ lenE tr mp t = (M.length : Int) := by
  refine ⟨?_, by simp only [lenE, h.tpos, cond_false, h.count.2]⟩
  simp only [lenOK, Bool.or_eq_true, Bool.and_eq_true, okT_iff, Nat.ble_eq]
  exact Or.inr ⟨h.t0, h.mi⟩
/-- Height. -/
theorem Rp.hgt (h : Rp nd tr mp t o M) : hgtOK nd tr t = true ∧ hgtE nd tr t = (htO o : Int) ∧ (M.length = 0 → htO o = 0) ∧ (M.length ≠ 0 → 0 < htO o ∧ 2 ^ (htO o / 2) ≤ M.length ∧ M.length ≤ 2 ^ (htO o - 1)) := by
  cases o with
  | none =>
    have hr : (getT tr t).1 = 0 := h.root
    have hc : ([] : List Lv).length = M.length := h.count.1
    refine ⟨?_, by simp only [hgtE, h.tpos, hr, decide_true, cond_true, cond_false]; rfl, fun _ => rfl, fun e => absurd hc.symm e⟩
    simp only [hgtOK, Bool.or_eq_true, Bool.and_eq_true, okT_iff, hr, decide_true, Bool.true_or, and_true]
    exact Or.inr h.t0
  | some T =>
    have hr : (getT tr t).1 = T.root := h.root
    have hc : T.lvs.length = M.length := h.count.1
    obtain ⟨h1, l, r, i, h2⟩ := h.good.1.top
    have hne : decide (T.root = 0) = false := by simp; omega
    have hp := T.ht_pos
    have lo := BT.low h.good.2.2.1
    have hi := BT.high T
    refine ⟨?_, by simp only [hgtE, h.tpos, hr, hne, cond_false, h2]; rfl, fun e => ?_, fun _ => ⟨hp, by rw [← hc]; exact lo, by rw [← hc]; exact hi⟩⟩
    · simp only [hgtOK, Bool.or_eq_true, Bool.and_eq_true, okT_iff, okN_iff, hr]
      exact Or.inr ⟨h.t0, Or.inr h1⟩
    · have := Nat.pos_of_ne_zero (fun e : 2 ^ (T.ht / 2) = 0 => by have := Nat.pow_pos (n := T.ht / 2) (show 0 < 2 by decide); omega)
      omega
/-- What is collected. -/
theorem Rp.col (h : Rp nd tr mp t o M) {φ : Int → Int → Int → Int → Bool} (hφ : Mono φ) : (getT tr t).1 ≤ nd.length ∧ colOK (tst φ) FU nd (getT tr t).1 = true ∧ ∃ l : List Int, colE (tst φ) FU nd (getT tr t).1 = rw1 l ∧ l.Perm (qM φ M) := by
  cases o with
  | none =>
    have hr : (getT tr t).1 = 0 := h.root
    have hM : M = [] := by
      have := h.ens.length_eq
      exact List.length_eq_zero_iff.1 this.symm
    rw [hr, hM, FU_eq]
    exact ⟨Nat.zero_le _, rfl, [], rfl, List.Perm.refl _⟩
  | some T =>
    have hr : (getT tr t).1 = T.root := h.root
    have hc : T.lvs.length = M.length := h.count.1
    have hh := BT.ht_le h.good.2.2.1 (by have := h.len; omega)
    obtain ⟨h1, h2⟩ := col_ok hφ (k := FU) h.good.1 h.good.2.2.2 (by rw [FU_eq]; omega)
    rw [hr]
    refine ⟨h.good.1.top.1.2, h1, _, h2, ?_⟩
    have := (h.ens.filter fun e => e.is φ).map (·.id)
    refine List.Perm.trans ?_ this
    rw [List.filter_map, List.map_map]
    exact List.Perm.refl _
/-- A query. -/
theorem Rp.qry (h : Rp nd tr mp t o M) {φ : Int → Int → Int → Int → Bool} (hφ : Mono φ) : qOK (tst φ) nd tr t = true ∧ qE (tst φ) nd tr t = rw1 (qM φ M) ∧ (qM φ M).length ≤ 4096 := by
  obtain ⟨h1, h2, l, h3, h4⟩ := h.col hφ
  have hl : (qM φ M).length ≤ 4096 := by
    simp only [qM, List.length_map]
    exact Nat.le_trans (List.length_filter_le _ _) h.len
  have hs : (qM φ M).Pairwise (· ≤ ·) := List.Pairwise.imp (fun h => Int.le_of_lt h) (qM_asc h.asc)
  refine ⟨?_, ?_, hl⟩
  · have : (colE (tst φ) FU nd (getT tr t).1).length ≤ 1000000 := by rw [h3, len_rw1, h4.length_eq]; omega
    simp only [qOK, Bool.or_eq_true, Bool.and_eq_true, okT_iff, Nat.ble_eq, h2]
    exact Or.inr ⟨h.t0, h1, trivial, this⟩
  · rw [(q_some h.tpos).1, h3, rw1_asc, ascI_eq h4.symm hs]
/-- All pairs. -/
def prM (M : List En) : List (List Int) := (M.map fun x => (qM (ovP x.a x.b x.c x.d) M).filterMap fun y => if x.id < y then some [x.id, y] else none).flatten
theorem prJ_eq (a : Int) (l : List Int) : ∀ j, j ≤ l.length → prJ a (rw1 l) j = (l.take j).filterMap fun y => if a < y then some [a, y] else none
  | 0, _ => rfl
  | j + 1, hj => by
    have hlt : j < l.length := by omega
    have e : at2 (rw1 l) j 0 = l[j] := by rw [rw1_at, List.getD_eq_getElem?_getD, List.getElem?_eq_getElem hlt]; rfl
    rw [List.take_add_one, List.getElem?_eq_getElem hlt, List.filterMap_append, ← prJ_eq a l j (by omega)]
    simp only [prJ, e, Bool.cond_decide]
    by_cases hh : a < l[j]
    · rw [if_pos hh]; simp [hh]
    · rw [if_neg hh]; simp [hh]
theorem Rp.prs (h : Rp nd tr mp t o M) : PrOK nd tr mp t ∧ prE nd tr mp t = prM M := by
  have hA : qE allT nd tr t = rw1 (M.map (·.id)) := by
    have := (h.qry mono_al).2.1
    rw [← allT_eq] at this
    rw [this, qM]
    congr 2
    exact List.filter_eq_self.2 fun _ _ => rfl
  have hA2 : prA nd tr t = rw1 (M.map (·.id)) := by rw [← hA, (q_some h.tpos).1]; rfl
  have hlen : (prA nd tr t).length = M.length := by rw [hA2, len_rw1, List.length_map]
  have at_ : ∀ i (hi : i < M.length), at2 (prA nd tr t) i 0 = M[i].id ∧ prQ nd tr mp t (at2 (prA nd tr t) i 0) = ovT M[i].a M[i].b M[i].c M[i].d ∧ 0 < lkN tr mp t (at2 (prA nd tr t) i 0) ∧ lkN tr mp t (at2 (prA nd tr t) i 0) ≤ nd.length := fun i hi => by
    have e : at2 (prA nd tr t) i 0 = M[i].id := by
      rw [hA2, rw1_at, List.getD_eq_getElem?_getD, List.getElem?_map, List.getElem?_eq_getElem hi]; rfl
    have hm : M[i] ∈ M := List.getElem_mem hi
    have hh : hasM M M[i].id = true := hasM_iff.2 (List.mem_map.2 ⟨_, hm, rfl⟩)
    obtain ⟨x, hx, hxi, hxl⟩ := h.look (show hasE (getM mp (getT tr t).2) M[i].id = true by rw [h.has, hh])
    have hL : lkN tr mp t M[i].id = x.p := hxl
    have hens : (Lv.en x) ∈ M := h.ens.mem_iff.1 (List.mem_map.2 ⟨x, hx, rfl⟩)
    have k1 := lkM_mem h.asc hens
    have k2 := lkM_mem h.asc hm
    rw [show (Lv.en x).id = M[i].id from hxi, k2] at k1
    injection k1 with k1
    rw [e]
    cases o with
    | none => cases hx
    | some T =>
      obtain ⟨C, e2⟩ := leaf_plug hx
      have hS := h.good.1
      rw [e2] at hS
      have hs := (plug_sh C (.lf x) hS).1
      have hs1 : 0 < x.p ∧ x.p ≤ nd.length := hs.1
      have hs2 : getN nd x.p = ⟨x.a, x.b, x.c, x.d, parC C, 0, 0, 1, x.id⟩ := hs.2
      refine ⟨rfl, ?_, by rw [hL]; exact hs1.1, by rw [hL]; exact hs1.2⟩
      have : M[i] = ⟨x.id, x.a, x.b, x.c, x.d⟩ := k1
      rw [this] at hL ⊢
      simp only [prQ]
      rw [show lkN tr mp t x.id = x.p from hL, hs2]
  refine ⟨⟨?_, h.mi, by rw [hlen]; exact h.len, fun i hi => ?_, fun i hi => ?_⟩, ?_⟩
  · rw [allT_eq]; exact (h.qry mono_al).1
  · rw [hlen] at hi
    obtain ⟨e1, e2, e3, e4⟩ := at_ i hi
    rw [e2, ovT_eq, (h.qry (mono_ov _ _ _ _)).2.1, len_rw1]
    exact (h.qry (mono_ov _ _ _ _)).2.2
  · rw [hlen] at hi
    obtain ⟨e1, e2, e3, e4⟩ := at_ i hi
    refine ⟨⟨e3, e4⟩, ?_⟩
    rw [e2, ovT_eq]; exact (h.qry (mono_ov _ _ _ _)).1
  · have key : ∀ i, i ≤ M.length → prK nd tr mp t (prA nd tr t) i = ((M.take i).map fun x => (qM (ovP x.a x.b x.c x.d) M).filterMap fun y => if x.id < y then some [x.id, y] else none).flatten := by
      intro i
      induction i with
      | zero => intro _; rfl
      | succ i ih =>
        intro hi
        obtain ⟨e1, e2, e3, e4⟩ := at_ i (by omega)
        rw [prK, ih (by omega), List.take_add_one, List.getElem?_eq_getElem (by omega), List.map_append, List.flatten_append]
        congr 1
        rw [e2, e1, ovT_eq, (h.qry (mono_ov _ _ _ _)).2.1, len_rw1, prJ_eq _ _ _ (Nat.le_refl _), List.take_length]
        simp
    have hE : prE nd tr mp t = prK nd tr mp t (prA nd tr t) (prA nd tr t).length := by simp only [prE, h.tpos, cond_false]
    rw [hE, hlen, key _ (Nat.le_refl _), List.take_length]
    rfl
/-- A new tree. -/
theorem Rp.new (nd : List Nd) (tr : List (Nat × Nat)) (mp : List (List (Int × Nat))) : Rp nd (tr ++ [(0, mp.length + 1)]) (mp ++ [[]]) (tr.length + 1) none [] := by
  have e : getT (tr ++ [(0, mp.length + 1)]) (tr.length + 1) = (0, mp.length + 1) := getT_new _ _
  refine ⟨⟨Nat.succ_pos _, by simp⟩, by rw [e]; rfl, trivial, by rw [e]; simp, by rw [e]; simp [getM, lvsO], List.Perm.refl _, List.Pairwise.nil, Nat.zero_le _⟩
/-- A tree stays what it is where a new one is made. -/
theorem Rp.keep_new (h : Rp nd tr mp t o M) : Rp nd (tr ++ [(0, mp.length + 1)]) (mp ++ [[]]) t o M := by
  have e : getT (tr ++ [(0, mp.length + 1)]) t = getT tr t := getT_app _ h.t0.1 h.t0.2
  have hm := h.mi
  refine ⟨⟨h.t0.1, by have := h.t0.2; simp; omega⟩, by rw [e]; exact h.root, h.good, by rw [e]; simp; omega, by rw [e, getM_app hm]; exact h.ents, h.ens, h.asc, h.len⟩
end
end Go.Proofs.Ytkfaflhhkmkdjaa

namespace Go.Proofs.Ytkfaflhhkmkdjaa
open Fx Vx Bx Ev
set_option linter.unusedVariables false
set_option linter.unusedSimpArgs false

theorem BT.ht_lvs : ∀ (T : BT), T.ht ≤ T.lvs.length
  | .lf x => by simp [ht, lvs]
  | .nd p l r => by
    have := BT.ht_lvs l
    have := BT.ht_lvs r
    have := l.ht_pos
    have := r.ht_pos
    simp only [ht, lvs, List.length_append]
    omega
theorem Rp.ht_le {nd : List Nd} {tr : List (Nat × Nat)} {mp : List (List (Int × Nat))} {t : Nat} {o : Option BT} {M : List En} (h : Rp nd tr mp t o M) : htO o ≤ M.length := by
  cases o with
  | none => exact Nat.zero_le _
  | some T =>
    have hc : T.lvs.length = M.length := h.count.1
    have := BT.ht_lvs T
    show T.ht ≤ _
    omega
def insH (H : Hp) (t : Nat) (id a b c d : Int) : Hp := ⟨inN H.nd H.tr H.mp t id a b c d, inT H.nd H.tr H.mp t id a b c d, inM H.nd H.tr H.mp t id a b c d⟩
def remH (H : Hp) (t : Nat) (id : Int) : Hp := ⟨reN H.nd H.tr H.mp t id, reT H.nd H.tr H.mp t id, reM H.nd H.tr H.mp t id⟩
def updH (H : Hp) (t : Nat) (id a b c d : Int) : Hp := ⟨upN H.nd H.tr H.mp t id a b c d, upT H.nd H.tr H.mp t id a b c d, H.mp⟩
def newH (H : Hp) : Hp := ⟨H.nd, H.tr ++ [(0, H.mp.length + 1)], H.mp ++ [[]]⟩
/-- The example's store, step by step. -/
def ex1 (H : Hp) : Hp := insH (newH H) (H.tr.length + 1) 5 0 0 (0 + 1) 1
def ex2 (H : Hp) : Hp := insH (ex1 H) (H.tr.length + 1) 3 1 0 (1 + 1) 1
def ex3 (H : Hp) : Hp := insH (ex2 H) (H.tr.length + 1) 3 9 0 (9 + 1) 1
def ex4 (H : Hp) : Hp := remH (ex3 H) (H.tr.length + 1) 3
def exH (H : Hp) : Hp := remH (ex4 H) (H.tr.length + 1) 3
structure Ex (H : Hp) : Prop where
  a1 : inOK (newH H).nd (newH H).tr (newH H).mp (H.tr.length + 1) 5 0 0 (0 + 1) 1 = true
  b1 : insE (newH H).tr (newH H).mp (H.tr.length + 1) 5 0 0 (0 + 1) 1 = 0
  a2 : inOK (ex1 H).nd (ex1 H).tr (ex1 H).mp (H.tr.length + 1) 3 1 0 (1 + 1) 1 = true
  b2 : insE (ex1 H).tr (ex1 H).mp (H.tr.length + 1) 3 1 0 (1 + 1) 1 = 0
  a3 : inOK (ex2 H).nd (ex2 H).tr (ex2 H).mp (H.tr.length + 1) 3 9 0 (9 + 1) 1 = true
  b3 : insE (ex2 H).tr (ex2 H).mp (H.tr.length + 1) 3 9 0 (9 + 1) 1 = 7
  a4 : bndOK (ex3 H).nd (ex3 H).tr (ex3 H).mp (H.tr.length + 1) 3 = true
  b4 : bndD (ex3 H).tr (ex3 H).mp (H.tr.length + 1) 3 = true
  c4 : bnd (ex3 H).nd (ex3 H).tr (ex3 H).mp (H.tr.length + 1) 3 0 = 1 ∧ bnd (ex3 H).nd (ex3 H).tr (ex3 H).mp (H.tr.length + 1) 3 1 = 0 ∧ bnd (ex3 H).nd (ex3 H).tr (ex3 H).mp (H.tr.length + 1) 3 2 = 2 ∧ bnd (ex3 H).nd (ex3 H).tr (ex3 H).mp (H.tr.length + 1) 3 3 = 1
  a5 : PrOK (ex3 H).nd (ex3 H).tr (ex3 H).mp (H.tr.length + 1)
  b5 : prE (ex3 H).nd (ex3 H).tr (ex3 H).mp (H.tr.length + 1) = [[3, 5]]
  a6 : lenOK (ex3 H).tr (ex3 H).mp (H.tr.length + 1) = true
  b6 : lenE (ex3 H).tr (ex3 H).mp (H.tr.length + 1) = 2
  a7 : hgtOK (ex3 H).nd (ex3 H).tr (H.tr.length + 1) = true
  b7 : hgtE (ex3 H).nd (ex3 H).tr (H.tr.length + 1) = 2
  a8 : reOK (ex3 H).nd (ex3 H).tr (ex3 H).mp (H.tr.length + 1) 3 = true
  b8 : remD (ex3 H).tr (ex3 H).mp (H.tr.length + 1) 3 = true
  a9 : reOK (ex4 H).nd (ex4 H).tr (ex4 H).mp (H.tr.length + 1) 3 = true
  b9 : remD (ex4 H).tr (ex4 H).mp (H.tr.length + 1) 3 = false
  aA : qOK (ovT 1 0 (1 + 1) 1) (exH H).nd (exH H).tr (H.tr.length + 1) = true
  bA : qE (ovT 1 0 (1 + 1) 1) (exH H).nd (exH H).tr (H.tr.length + 1) = [[5]]
  aB : hgtOK (exH H).nd (exH H).tr (H.tr.length + 1) = true
  bB : hgtE (exH H).nd (exH H).tr (H.tr.length + 1) = 1
theorem ex_ok (H : Hp) : Ex H := by
  have v1 : validB 0 0 (0 + 1) 1 = true := by decide
  have v2 : validB 1 0 (1 + 1) 1 = true := by decide
  have v3 : validB 9 0 (9 + 1) 1 = true := by decide
  have r0 : Rp (newH H).nd (newH H).tr (newH H).mp (H.tr.length + 1) none [] := Rp.new _ _ _
  obtain ⟨i1, j1, o1, r1, _⟩ := r0.ins 5 0 0 (0 + 1) 1
  rw [if_pos ⟨v1, rfl, by decide⟩] at r1
  have r1 : Rp (ex1 H).nd (ex1 H).tr (ex1 H).mp (H.tr.length + 1) o1 [⟨5, 0, 0, 1, 1⟩] := r1
  obtain ⟨i2, j2, o2, r2, _⟩ := r1.ins 3 1 0 (1 + 1) 1
  rw [if_pos ⟨v2, by decide, by decide⟩] at r2
  have r2 : Rp (ex2 H).nd (ex2 H).tr (ex2 H).mp (H.tr.length + 1) o2 [⟨3, 1, 0, 2, 1⟩, ⟨5, 0, 0, 1, 1⟩] := r2
  obtain ⟨i3, j3, o3, r3, _⟩ := r2.ins 3 9 0 (9 + 1) 1
  rw [if_neg (fun h => absurd h.2.1 (by decide))] at r3
  have r3 : Rp (ex3 H).nd (ex3 H).tr (ex3 H).mp (H.tr.length + 1) o3 [⟨3, 1, 0, 2, 1⟩, ⟨5, 0, 0, 1, 1⟩] := r3
  obtain ⟨i4, j4, o4, r4, _⟩ := r3.rem 3
  have r4 : Rp (ex4 H).nd (ex4 H).tr (ex4 H).mp (H.tr.length + 1) o4 [⟨5, 0, 0, 1, 1⟩] := r4
  obtain ⟨i5, j5, o5, r5, _⟩ := r4.rem 3
  have r5 : Rp (exH H).nd (exH H).tr (exH H).mp (H.tr.length + 1) o5 [⟨5, 0, 0, 1, 1⟩] := r5
  have b3 := r3.bnd 3
  have p3 := r3.prs
  have h3 := r3.hgt
  have h3' := r3.ht_le
  have h5 := r5.hgt
  have h5' := r5.ht_le
  have q5 := r5.qry (mono_ov 1 0 (1 + 1) 1)
  have hh3 : htO o3 = 2 := by
    have := (h3.2.2.2 (by decide)).2.2
    have h' : htO o3 ≤ 2 := h3'
    refine Classical.byContradiction fun hc => ?_
    have : 2 ≤ 2 ^ (htO o3 - 1) := this
    have := pow_le (show htO o3 - 1 ≤ 0 by omega)
    omega
  have hh5 : htO o5 = 1 := by
    have := (h5.2.2.2 (by decide)).1
    have h' : htO o5 ≤ 1 := h5'
    omega
  exact ⟨i1, j1.trans (by rw [if_pos v1]; rfl), i2, j2.trans (by rw [if_pos v2]; rfl), i3, j3.trans (by rw [if_pos v3]; rfl), b3.1, b3.2.1, b3.2.2 _ rfl, p3.1, p3.2.trans (by decide), r3.len_.1, r3.len_.2, h3.1, h3.2.1.trans (by rw [hh3]; rfl), i4, j4, i5, j5, q5.1, q5.2.1.trans (by decide), h5.1, h5.2.1.trans (by rw [hh5]; rfl)⟩
end Go.Proofs.Ytkfaflhhkmkdjaa

namespace Go.Proofs.Ytkfaflhhkmkdjaa
open Fx Vx Bx Ev
set_option linter.unusedVariables false
set_option linter.unusedSimpArgs false

theorem insM_last {e : En} : ∀ {M : List En}, (∀ x ∈ M, x.id < e.id) → insM e M = M ++ [e]
  | [], _ => rfl
  | x :: r, h => by
    have := h x (by simp)
    simp only [insM]
    rw [if_neg (by omega), insM_last fun y hy => h y (by simp [hy])]
    rfl
theorem hasM_no {M : List En} {id : Int} (h : ∀ x ∈ M, x.id ≠ id) : hasM M id = false := by
  rw [← Bool.not_eq_true]
  intro hh
  obtain ⟨x, hx, e⟩ := List.mem_map.1 (hasM_iff.1 hh)
  exact h x hx e
/-- The box of number j. -/
def hE (s : Int) (j : Nat) : En := ⟨j, j * s, 0, j * s + 1, 1⟩
def hD (s : Int) (k m : Nat) : List En := (List.range' k m).map (hE s)
theorem hD_len (s : Int) (k m : Nat) : (hD s k m).length = m := by simp [hD]
theorem hD_mem {s : Int} {k m : Nat} {x : En} (h : x ∈ hD s k m) : (k : Int) ≤ x.id ∧ x.id < (k + m : Nat) := by
  obtain ⟨j, hj, rfl⟩ := List.mem_map.1 h
  have := List.mem_range'_1.1 hj
  simp only [hE]
  omega
theorem hD_snoc (s : Int) (k m : Nat) : hD s k (m + 1) = hD s k m ++ [hE s (k + m)] := by
  simp [hD, List.range'_1_concat]
theorem hD_cons (s : Int) (k m : Nat) : hD s k (m + 1) = hE s k :: hD s (k + 1) m := by simp [hD, List.range'_succ]
theorem hD_ins (s : Int) (m : Nat) : insM ⟨(m : Int), (m : Int) * s, 0, (m : Int) * s + 1, 1⟩ (hD s 0 m) = hD s 0 (m + 1) ∧ hasM (hD s 0 m) (m : Int) = false := by
  have h : ∀ x ∈ hD s 0 m, x.id < (m : Int) := fun x hx => by have := hD_mem hx; omega
  refine ⟨?_, hasM_no fun x hx => by have := h x hx; omega⟩
  rw [insM_last h, hD_snoc, Nat.zero_add]
  rfl
theorem hD_rem (s : Int) (k m : Nat) : delM (k : Int) (hD s k (m + 1)) = hD s (k + 1) m ∧ hasM (hD s k (m + 1)) (k : Int) = true := by
  rw [hD_cons]
  refine ⟨?_, by simp [hasM, hE]⟩
  simp only [delM, List.filter_cons, hE, decide_true, Bool.not_true, Bool.false_eq_true, if_false]
  exact List.filter_eq_self.2 fun x hx => by have := hD_mem hx; simp; omega
theorem box_valid {x : Int} (h : -8355840 ≤ x ∧ x ≤ 8355840) : validB x 0 (x + 1) 1 = true := by
  rw [validB_iff]
  simp only [sat]
  omega
theorem prod_bd {i s : Int} (hi : 0 ≤ i ∧ i ≤ 255) (hs : -32768 ≤ s ∧ s ≤ 32767) : -8355840 ≤ i * s ∧ i * s ≤ 8355840 := by
  have h1 : i * s ≤ 255 * 32768 := by
    rcases Int.le_total 0 s with h | h
    · exact Int.le_trans (Int.mul_le_mul_of_nonneg_right hi.2 h) (Int.mul_le_mul_of_nonneg_left (by omega) (by omega))
    · have := Int.mul_nonpos_of_nonneg_of_nonpos hi.1 h
      omega
  have h2 : i * (-s) ≤ 255 * 32768 := by
    rcases Int.le_total 0 (-s) with h | h
    · exact Int.le_trans (Int.mul_le_mul_of_nonneg_right hi.2 h) (Int.mul_le_mul_of_nonneg_left (by omega) (by omega))
    · have := Int.mul_nonpos_of_nonneg_of_nonpos hi.1 h
      omega
  rw [Int.mul_neg] at h2
  omega
/-- What is known of a height. -/
structure HtOK (b h : Nat) : Prop where
  z : b = 0 → h = 0
  p : b ≠ 0 → 0 < h
  lo : b ≠ 0 → 2 ^ (h / 2) ≤ b
  hi : b ≠ 0 → b ≤ 2 ^ (h - 1)
theorem HtOK.max {b h : Nat} (k : HtOK b h) : h ≤ 2 * digN b + 1 := by
  by_cases hb : b = 0
  · rw [k.z hb]; omega
  · have := digN_low b (h / 2) (k.lo hb)
    omega
theorem HtOK.one {b h : Nat} (k : HtOK b h) : h = 1 ↔ b = 1 := by
  constructor
  · intro e
    have hb : b ≠ 0 := fun e2 => by have := k.z e2; omega
    have := k.hi hb
    rw [e] at this
    have : b ≤ 1 := this
    omega
  · intro e
    subst e
    have h1 := k.p (by decide)
    have h2 := k.lo (by decide)
    refine Classical.byContradiction fun hc => ?_
    have := pow_le (show 1 ≤ h / 2 by omega)
    omega
theorem HtOK.zero {b h : Nat} (k : HtOK b h) : h = 0 ↔ b = 0 := ⟨fun e => Classical.byContradiction fun hc => by have := k.p hc; omega, k.z⟩
theorem HtOK.small {b h : Nat} (k : HtOK b h) (hb : b ≤ 4096) : h ≤ 26 := by
  by_cases h0 : b = 0
  · rw [k.z h0]; omega
  · have := k.lo h0
    refine Classical.byContradiction fun hc => ?_
    have := pow_le (show 13 ≤ h / 2 by omega)
    omega
theorem Rp.htok {nd : List Nd} {tr : List (Nat × Nat)} {mp : List (List (Int × Nat))} {t : Nat} {o : Option BT} {M : List En} (h : Rp nd tr mp t o M) : HtOK M.length (htO o) :=
  ⟨h.hgt.2.2.1, fun e => (h.hgt.2.2.2 e).1, fun e => (h.hgt.2.2.2 e).2.1, fun e => (h.hgt.2.2.2 e).2.2⟩
theorem pow2_bd {j : Nat} (h : j ≤ 26) : 1 ≤ (2 : Int) ^ j ∧ (2 : Int) ^ j ≤ 67108864 := by
  have h1 := pow_le h
  have h2 := Nat.pow_pos (n := j) (show 0 < 2 by decide)
  have e : ((2 ^ j : Nat) : Int) = (2 : Int) ^ j := by rw [Int.natCast_pow]; rfl
  rw [← e]
  omega
theorem pow2_ge {b gh : Nat} (k : HtOK b gh) (hb : b ≠ 0) : (b : Int) ≤ (2 : Int) ^ (gh - 1) := by
  have e : ((2 ^ (gh - 1) : Nat) : Int) = (2 : Int) ^ (gh - 1) := by rw [Int.natCast_pow]; rfl
  have := k.hi hb
  rw [← e]
  omega
/- The law of the capacity. -/
def hCe (j : Nat) : En := ⟨j, (j % 64 : Nat), 0, (j % 64 : Nat) + 1, 1⟩
def hC (m : Nat) : List En := (List.range m).map hCe
theorem hC_len (m : Nat) : (hC m).length = m := by simp [hC]
theorem hC_mem {m : Nat} {x : En} (h : x ∈ hC m) : 0 ≤ x.id ∧ x.id < (m : Int) := by
  obtain ⟨j, hj, rfl⟩ := List.mem_map.1 h
  have := List.mem_range.1 hj
  simp only [hCe]
  omega
theorem hC_ins (m : Nat) : insM ⟨(m : Int), ((m % 64 : Nat) : Int), 0, ((m % 64 : Nat) : Int) + 1, 1⟩ (hC m) = hC (m + 1) ∧ hasM (hC m) (m : Int) = false := by
  have h : ∀ x ∈ hC m, x.id < (m : Int) := fun x hx => (hC_mem hx).2
  refine ⟨?_, hasM_no fun x hx => by have := h x hx; omega⟩
  rw [insM_last h, hC, hC, List.range_succ, List.map_append]
  rfl
theorem tmod64 (i : Nat) : Int.tmod (i : Int) 64 = ((i % 64 : Nat) : Int) := by rw [Int.tmod_eq_emod_of_nonneg (by omega)]; omega
structure Cap (id a b c d : Int) (M : List En) : Prop where
  no : hasM M id = false
  len : M.length = 4096
  seven : hasM M 7 = true
  dlen : (delM 7 M).length = 4095
  dno : hasM (delM 7 M) id = false
theorem cap_ok {id a b c d : Int} (h : ¬ (0 ≤ id ∧ id < 4096)) : Cap id a b c d (hC 4096) := by
  have hno : hasM (hC 4096) id = false := hasM_no fun x hx e => by
    have := hC_mem hx
    omega
  have hs : hasM (hC 4096) 7 = true := hasM_iff.2 (List.mem_map.2 ⟨hCe 7, List.mem_map.2 ⟨7, List.mem_range.2 (by omega), rfl⟩, rfl⟩)
  have hasc : Asc (hC 4096) := by
    rw [hC, Asc, List.pairwise_map]
    exact List.Pairwise.imp (fun h => by simp only [hCe]; omega) List.pairwise_lt_range
  have hp := del_perm hasc (e := hCe 7) (List.mem_map.2 ⟨7, List.mem_range.2 (by omega), rfl⟩)
  have hl := hp.length_eq
  have hd : delM (hCe 7).id (hC 4096) = delM 7 (hC 4096) := rfl
  rw [hd, hC_len, List.length_cons] at hl
  refine ⟨hno, hC_len _, hs, by omega, hasM_no fun x hx e => ?_⟩
  have hx' := (List.mem_filter.1 hx).1
  have := hC_mem hx'
  omega
end Go.Proofs.Ytkfaflhhkmkdjaa
