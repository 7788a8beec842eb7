/- What the functions of package bvh do to a store, in plain Lean. What the methods of a tree of package bvh do to a store, in plain Lean. The heap sort of package bvh, in plain Lean, as the program does it. What is collected below a node, in plain Lean. What is copied below a node, in plain Lean. The heap sort sorts. No program in sight. Lists compared, digits counted: plain. -/
import Derived.Test.YtkfaflhhkmkdjaaEA
import Derived.Test.YtkfaflhhkmkdjaaBx
import Derived.Test.YtkfaflhhkmkdjaaKA
namespace Go.Proofs.Ytkfaflhhkmkdjaa
open Fx Vx Bx Ev
set_option linter.unusedVariables false

/- Reading what was written. -/
section
variable {nd : List Nd} {p q : Nat}
theorem getN_setN (x : Nd) : getN (setN nd p x) q = if q - 1 = p - 1 ∧ p - 1 < nd.length then x else getN nd q := by
  simp only [getN, setN, List.getD_eq_getElem?_getD, List.getElem?_set]
  by_cases h : p - 1 = q - 1
  · by_cases h2 : p - 1 < nd.length
    · rw [if_pos h, if_pos h2, if_pos ⟨h.symm, h2⟩]; rfl
    · rw [if_pos h, if_neg h2, if_neg (fun e => h2 e.2), ← h, List.getElem?_eq_none (by omega)]
  · rw [if_neg h, if_neg (fun e => h e.1.symm)]
@[simp] theorem len_setN (x : Nd) : (setN nd p x).length = nd.length := by simp [setN]
@[simp] theorem len_wB (a b c d : Int) : (wB nd p a b c d).length = nd.length := by simp [wB]
@[simp] theorem len_wPar (x : Nat) : (wPar nd p x).length = nd.length := by simp [wPar]
@[simp] theorem len_wL (x : Nat) : (wL nd p x).length = nd.length := by simp [wL]
@[simp] theorem len_wR (x : Nat) : (wR nd p x).length = nd.length := by simp [wR]
@[simp] theorem len_wHt (x : Int) : (wHt nd p x).length = nd.length := by simp [wHt]
theorem get_same {α : Type} (f : Nd → α) (x : Nd) (h : f x = f (getN nd p)) : f (getN (setN nd p x) q) = f (getN nd q) := by
  rw [getN_setN]
  split
  · rename_i e; rw [h]; simp only [getN, e.1]
  · rfl
@[simp] theorem wB_par (a b c d : Int) : (getN (wB nd p a b c d) q).par = (getN nd q).par := get_same (·.par) _ rfl
@[simp] theorem wB_l (a b c d : Int) : (getN (wB nd p a b c d) q).l = (getN nd q).l := get_same (·.l) _ rfl
@[simp] theorem wB_r (a b c d : Int) : (getN (wB nd p a b c d) q).r = (getN nd q).r := get_same (·.r) _ rfl
@[simp] theorem wB_ht (a b c d : Int) : (getN (wB nd p a b c d) q).ht = (getN nd q).ht := get_same (·.ht) _ rfl
@[simp] theorem wB_id (a b c d : Int) : (getN (wB nd p a b c d) q).id = (getN nd q).id := get_same (·.id) _ rfl
@[simp] theorem wPar_b0 (x : Nat) : (getN (wPar nd p x) q).b0 = (getN nd q).b0 := get_same (·.b0) _ rfl
@[simp] theorem wPar_b1 (x : Nat) : (getN (wPar nd p x) q).b1 = (getN nd q).b1 := get_same (·.b1) _ rfl
@[simp] theorem wPar_b2 (x : Nat) : (getN (wPar nd p x) q).b2 = (getN nd q).b2 := get_same (·.b2) _ rfl
@[simp] theorem wPar_b3 (x : Nat) : (getN (wPar nd p x) q).b3 = (getN nd q).b3 := get_same (·.b3) _ rfl
@[simp] theorem wPar_l (x : Nat) : (getN (wPar nd p x) q).l = (getN nd q).l := get_same (·.l) _ rfl
@[simp] theorem wPar_r (x : Nat) : (getN (wPar nd p x) q).r = (getN nd q).r := get_same (·.r) _ rfl
@[simp] theorem wPar_ht (x : Nat) : (getN (wPar nd p x) q).ht = (getN nd q).ht := get_same (·.ht) _ rfl
@[simp] theorem wPar_id (x : Nat) : (getN (wPar nd p x) q).id = (getN nd q).id := get_same (·.id) _ rfl
@[simp] theorem wL_b0 (x : Nat) : (getN (wL nd p x) q).b0 = (getN nd q).b0 := get_same (·.b0) _ rfl
@[simp] theorem wL_b1 (x : Nat) : (getN (wL nd p x) q).b1 = (getN nd q).b1 := get_same (·.b1) _ rfl
@[simp] theorem wL_b2 (x : Nat) : (getN (wL nd p x) q).b2 = (getN nd q).b2 := get_same (·.b2) _ rfl
@[simp] theorem wL_b3 (x : Nat) : (getN (wL nd p x) q).b3 = (getN nd q).b3 := get_same (·.b3) _ rfl
@[simp] theorem wL_par (x : Nat) : (getN (wL nd p x) q).par = (getN nd q).par := get_same (·.par) _ rfl
@[simp] theorem wL_r (x : Nat) : (getN (wL nd p x) q).r = (getN nd q).r := get_same (·.r) _ rfl
@[simp] theorem wL_ht (x : Nat) : (getN (wL nd p x) q).ht = (getN nd q).ht := get_same (·.ht) _ rfl
@[simp] theorem wL_id (x : Nat) : (getN (wL nd p x) q).id = (getN nd q).id := get_same (·.id) _ rfl
@[simp] theorem wR_b0 (x : Nat) : (getN (wR nd p x) q).b0 = (getN nd q).b0 := get_same (·.b0) _ rfl
@[simp] theorem wR_b1 (x : Nat) : (getN (wR nd p x) q).b1 = (getN nd q).b1 := get_same (·.b1) _ rfl
@[simp] theorem wR_b2 (x : Nat) : (getN (wR nd p x) q).b2 = (getN nd q).b2 := get_same (·.b2) _ rfl
@[simp] theorem wR_b3 (x : Nat) : (getN (wR nd p x) q).b3 = (getN nd q).b3 := get_same (·.b3) _ rfl
@[simp] theorem wR_par (x : Nat) : (getN (wR nd p x) q).par = (getN nd q).par := get_same (·.par) _ rfl
@[simp] theorem wR_l (x : Nat) : (getN (wR nd p x) q).l = (getN nd q).l := get_same (·.l) _ rfl
@[simp] theorem wR_ht (x : Nat) : (getN (wR nd p x) q).ht = (getN nd q).ht := get_same (·.ht) _ rfl
@[simp] theorem wR_id (x : Nat) : (getN (wR nd p x) q).id = (getN nd q).id := get_same (·.id) _ rfl
@[simp] theorem wHt_b0 (x : Int) : (getN (wHt nd p x) q).b0 = (getN nd q).b0 := get_same (·.b0) _ rfl
@[simp] theorem wHt_b1 (x : Int) : (getN (wHt nd p x) q).b1 = (getN nd q).b1 := get_same (·.b1) _ rfl
@[simp] theorem wHt_b2 (x : Int) : (getN (wHt nd p x) q).b2 = (getN nd q).b2 := get_same (·.b2) _ rfl
@[simp] theorem wHt_b3 (x : Int) : (getN (wHt nd p x) q).b3 = (getN nd q).b3 := get_same (·.b3) _ rfl
@[simp] theorem wHt_par (x : Int) : (getN (wHt nd p x) q).par = (getN nd q).par := get_same (·.par) _ rfl
@[simp] theorem wHt_l (x : Int) : (getN (wHt nd p x) q).l = (getN nd q).l := get_same (·.l) _ rfl
@[simp] theorem wHt_r (x : Int) : (getN (wHt nd p x) q).r = (getN nd q).r := get_same (·.r) _ rfl
@[simp] theorem wHt_id (x : Int) : (getN (wHt nd p x) q).id = (getN nd q).id := get_same (·.id) _ rfl
end
def okN (nd : List Nd) (n : Nat) : Bool := Nat.blt 0 n && Nat.ble n nd.length
theorem okN_iff {nd : List Nd} {n : Nat} : okN nd n = true ↔ 0 < n ∧ n ≤ nd.length := by
  simp only [okN, Bool.and_eq_true]
  exact ⟨fun h => ⟨Nat.lt_of_succ_le (Nat.le_of_ble_eq_true h.1), Nat.le_of_ble_eq_true h.2⟩, fun h => ⟨Nat.ble_eq_true_of_le h.1, Nat.ble_eq_true_of_le h.2⟩⟩
theorem getN_set {nd : List Nd} {p q : Nat} (hp : okN nd p = true) (hq : 0 < q) (x : Nd) : getN (setN nd p x) q = if q = p then x else getN nd q := by
  rw [okN_iff] at hp
  rw [getN_setN]
  by_cases h : q = p
  · rw [if_pos ⟨by omega, by omega⟩, if_pos h]
  · rw [if_neg (by omega), if_neg h]
def okT (tr : List (Nat × Nat)) (n : Nat) : Bool := Nat.blt 0 n && Nat.ble n tr.length
theorem okT_iff {tr : List (Nat × Nat)} {n : Nat} : okT tr n = true ↔ 0 < n ∧ n ≤ tr.length := by
  simp only [okT, Bool.and_eq_true]
  exact ⟨fun h => ⟨Nat.lt_of_succ_le (Nat.le_of_ble_eq_true h.1), Nat.le_of_ble_eq_true h.2⟩, fun h => ⟨Nat.ble_eq_true_of_le h.1, Nat.ble_eq_true_of_le h.2⟩⟩
def htOK (nd : List Nd) (n : Nat) : Bool := decide (0 ≤ (getN nd n).ht) && decide ((getN nd n).ht ≤ 1000000)

/- The bounds and the height of an inner node. -/
def refB (nd : List Nd) (n : Nat) : List Nd := wB nd n (uni (validB (getN nd (getN nd n).l).b0 (getN nd (getN nd n).l).b1 (getN nd (getN nd n).l).b2 (getN nd (getN nd n).l).b3) (validB (getN nd (getN nd n).r).b0 (getN nd (getN nd n).r).b1 (getN nd (getN nd n).r).b2 (getN nd (getN nd n).r).b3) (min (getN nd (getN nd n).l).b0 (getN nd (getN nd n).r).b0) (getN nd (getN nd n).l).b0 (getN nd (getN nd n).r).b0) (uni (validB (getN nd (getN nd n).l).b0 (getN nd (getN nd n).l).b1 (getN nd (getN nd n).l).b2 (getN nd (getN nd n).l).b3) (validB (getN nd (getN nd n).r).b0 (getN nd (getN nd n).r).b1 (getN nd (getN nd n).r).b2 (getN nd (getN nd n).r).b3) (min (getN nd (getN nd n).l).b1 (getN nd (getN nd n).r).b1) (getN nd (getN nd n).l).b1 (getN nd (getN nd n).r).b1) (uni (validB (getN nd (getN nd n).l).b0 (getN nd (getN nd n).l).b1 (getN nd (getN nd n).l).b2 (getN nd (getN nd n).l).b3) (validB (getN nd (getN nd n).r).b0 (getN nd (getN nd n).r).b1 (getN nd (getN nd n).r).b2 (getN nd (getN nd n).r).b3) (max (getN nd (getN nd n).l).b2 (getN nd (getN nd n).r).b2) (getN nd (getN nd n).l).b2 (getN nd (getN nd n).r).b2) (uni (validB (getN nd (getN nd n).l).b0 (getN nd (getN nd n).l).b1 (getN nd (getN nd n).l).b2 (getN nd (getN nd n).l).b3) (validB (getN nd (getN nd n).r).b0 (getN nd (getN nd n).r).b1 (getN nd (getN nd n).r).b2 (getN nd (getN nd n).r).b3) (max (getN nd (getN nd n).l).b3 (getN nd (getN nd n).r).b3) (getN nd (getN nd n).l).b3 (getN nd (getN nd n).r).b3)
def refN (nd : List Nd) (n : Nat) : List Nd := wHt (refB nd n) n (1 + max (getN (refB nd n) (getN (refB nd n) n).l).ht (getN (refB nd n) (getN (refB nd n) n).r).ht)
def refOK (nd : List Nd) (n : Nat) : Bool := okN nd n && (okN nd (getN nd n).l && (okN nd (getN nd n).r && (htOK nd (getN nd n).l && htOK nd (getN nd n).r)))
def sib (nd : List Nd) (n : Nat) : Nat := bif decide ((getN nd (getN nd n).par).l = n) then (getN nd (getN nd n).par).r else (getN nd (getN nd n).par).l
def sibOK (nd : List Nd) (n : Nat) : Bool := okN nd n && (okN nd (getN nd n).par && okN nd (getN nd (getN nd n).par).l)
def adoP (nd : List Nd) (n a b : Nat) : List Nd := wPar (wPar (wR (wL nd n a) n b) a n) b n
def adoN (nd : List Nd) (n a b : Nat) : List Nd := refN (adoP nd n a b) n
def adoOK (nd : List Nd) (n a b : Nat) : Bool := okN nd n && (okN nd a && (okN nd b && refOK (adoP nd n a b) n))
def repP (nd : List Nd) (a b : Nat) : List Nd := bif decide (b = 0) then nd else wPar nd b (getN nd a).par
def repN (nd : List Nd) (a b : Nat) : List Nd := bif decide ((getN nd a).par = 0) then repP nd a b else bif decide ((getN (repP nd a b) (getN nd a).par).l = a) then wL (repP nd a b) (getN nd a).par b else wR (repP nd a b) (getN nd a).par b
def repT (nd : List Nd) (tr : List (Nat × Nat)) (t a b : Nat) : List (Nat × Nat) := bif decide ((getN nd a).par = 0) then wRoot tr t b else tr
def repOK (nd : List Nd) (tr : List (Nat × Nat)) (t a b : Nat) : Bool := okT tr t && (okN nd a && ((decide (b = 0) || okN nd b) && (decide ((getN nd a).par = 0) || (okN nd (getN nd a).par && Nat.ble (getN nd (getN nd a).par).l nd.length))))

/- Turning. -/
def rotUp (nd : List Nd) (h : Nat) : Nat := bif decide ((getN nd (getN nd h).l).ht < (getN nd (getN nd h).r).ht) then (getN nd h).r else (getN nd h).l
def rotDn (nd : List Nd) (h : Nat) : Nat := bif decide ((getN nd (getN nd h).l).ht < (getN nd (getN nd h).r).ht) then (getN nd h).l else (getN nd h).r
def rotN (nd : List Nd) (n h : Nat) : List Nd := adoN (adoN (repN nd n h) n (sib nd h) (rotDn nd h)) h (rotUp nd h) n
def rotT (nd : List Nd) (tr : List (Nat × Nat)) (t n h : Nat) : List (Nat × Nat) := repT nd tr t n h
def rotOK (nd : List Nd) (tr : List (Nat × Nat)) (t n h : Nat) : Bool := okN nd h && (sibOK nd h && (okN nd (getN nd h).l && (okN nd (getN nd h).r && (repOK nd tr t n h && (adoOK (repN nd n h) n (sib nd h) (rotDn nd h) && adoOK (adoN (repN nd n h) n (sib nd h) (rotDn nd h)) h (rotUp nd h) n)))))
def balD (nd : List Nd) (n : Nat) : Int := (getN nd (getN nd n).l).ht - (getN nd (getN nd n).r).ht
def balN (nd : List Nd) (n : Nat) : List Nd := bif decide (1 < balD nd n) then rotN nd n (getN nd n).l else bif decide (balD nd n < -1) then rotN nd n (getN nd n).r else refN nd n
def balT (nd : List Nd) (tr : List (Nat × Nat)) (t n : Nat) : List (Nat × Nat) := bif decide (1 < balD nd n) then rotT nd tr t n (getN nd n).l else bif decide (balD nd n < -1) then rotT nd tr t n (getN nd n).r else tr
def balP (nd : List Nd) (n : Nat) : Nat := bif decide (1 < balD nd n) then (getN nd n).l else bif decide (balD nd n < -1) then (getN nd n).r else n
def balOK (nd : List Nd) (tr : List (Nat × Nat)) (t n : Nat) : Bool := okN nd n && (okN nd (getN nd n).l && (okN nd (getN nd n).r && (htOK nd (getN nd n).l && (htOK nd (getN nd n).r &&
  ((bif decide (1 < balD nd n) then rotOK nd tr t n (getN nd n).l else bif decide (balD nd n < -1) then rotOK nd tr t n (getN nd n).r else refOK nd n) && (okN (balN nd n) (balP nd n) && Nat.ble (getN (balN nd n) (balP nd n)).par (balN nd n).length))))))
def rebN : Nat → List Nd → Nat → List Nd
  | 0, nd, _ => nd
  | k + 1, nd, n => bif decide (n = 0) then nd else rebN k (balN nd n) (getN (balN nd n) (balP nd n)).par
def rebT : Nat → List Nd → List (Nat × Nat) → Nat → Nat → List (Nat × Nat)
  | 0, _, tr, _, _ => tr
  | k + 1, nd, tr, t, n => bif decide (n = 0) then tr else rebT k (balN nd n) (balT nd tr t n) t (getN (balN nd n) (balP nd n)).par
def rebOK : Nat → List Nd → List (Nat × Nat) → Nat → Nat → Bool
  | 0, _, _, _, n => decide (n = 0)
  | k + 1, nd, tr, t, n => decide (n = 0) || (balOK nd tr t n && rebOK k (balN nd n) (balT nd tr t n) t (getN (balN nd n) (balP nd n)).par)
/- Where a leaf is put. -/
def uni4 (x : Nd) (a b c d : Int) (i : Nat) : Int := match i with
  | 0 => uni (validB x.b0 x.b1 x.b2 x.b3) (validB a b c d) (min x.b0 a) x.b0 a
  | 1 => uni (validB x.b0 x.b1 x.b2 x.b3) (validB a b c d) (min x.b1 b) x.b1 b
  | 2 => uni (validB x.b0 x.b1 x.b2 x.b3) (validB a b c d) (max x.b2 c) x.b2 c
  | _ => uni (validB x.b0 x.b1 x.b2 x.b3) (validB a b c d) (max x.b3 d) x.b3 d
def costE (x : Nd) (a b c d : Int) : Int := halfP (uni4 x a b c d 0) (uni4 x a b c d 1) (uni4 x a b c d 2) (uni4 x a b c d 3) - halfP x.b0 x.b1 x.b2 x.b3
theorem sat_bd (x : Int) : -536870911 ≤ sat x ∧ sat x ≤ 536870911 := by simp only [sat]; omega
theorem halfP_bd (a b c d : Int) : -536870911 ≤ halfP a b c d ∧ halfP a b c d ≤ 536870911 := by
  simp only [halfP]
  split
  · exact sat_bd _
  · omega
theorem costE_bd (x : Nd) (a b c d : Int) : -1073741822 ≤ costE x a b c d ∧ costE x a b c d ≤ 1073741822 := by
  have h1 := halfP_bd (uni4 x a b c d 0) (uni4 x a b c d 1) (uni4 x a b c d 2) (uni4 x a b c d 3)
  have h2 := halfP_bd x.b0 x.b1 x.b2 x.b3
  simp only [costE]; omega
def desS (nd : List Nd) (a b c d : Int) (n : Nat) : Nat := bif decide (costE (getN nd (getN nd n).l) a b c d ≤ costE (getN nd (getN nd n).r) a b c d) then (getN nd n).l else (getN nd n).r
def desN : Nat → List Nd → Int → Int → Int → Int → Nat → Nat
  | 0, _, _, _, _, _, n => n
  | k + 1, nd, a, b, c, d, n => bif decide ((getN nd n).l = 0) then n else desN k nd a b c d (desS nd a b c d n)
def desOK : Nat → List Nd → Int → Int → Int → Int → Nat → Bool
  | 0, _, _, _, _, _, _ => false
  | k + 1, nd, a, b, c, d, n => okN nd n && (decide ((getN nd n).l = 0) || (okN nd (getN nd n).l && (okN nd (getN nd n).r && desOK k nd a b c d (desS nd a b c d n))))
def FU : Nat := 64
def zN : Nd := ⟨0, 0, 0, 0, 0, 0, 0, 0, 0⟩
/-- Where a leaf lands. -/
def attW (nd : List Nd) (tr : List (Nat × Nat)) (t f : Nat) : Nat := desN FU nd (getN nd f).b0 (getN nd f).b1 (getN nd f).b2 (getN nd f).b3 (getT tr t).1
/-- The store before it is balanced. -/
def attN (nd : List Nd) (tr : List (Nat × Nat)) (t f : Nat) : List Nd := adoN (repN (nd ++ [zN]) (attW nd tr t f) (nd.length + 1)) (nd.length + 1) (attW nd tr t f) f
def attT (nd : List Nd) (tr : List (Nat × Nat)) (t f : Nat) : List (Nat × Nat) := repT (nd ++ [zN]) tr t (attW nd tr t f) (nd.length + 1)
def atN (nd : List Nd) (tr : List (Nat × Nat)) (t f : Nat) : List Nd := bif decide ((getT tr t).1 = 0) then wPar nd f 0 else rebN FU (attN nd tr t f) (getN (attN nd tr t f) (nd.length + 1)).par
def atT (nd : List Nd) (tr : List (Nat × Nat)) (t f : Nat) : List (Nat × Nat) := bif decide ((getT tr t).1 = 0) then wRoot tr t f else rebT FU (attN nd tr t f) (attT nd tr t f) t (getN (attN nd tr t f) (nd.length + 1)).par
def atOK (nd : List Nd) (tr : List (Nat × Nat)) (t f : Nat) : Bool := okT tr t && (okN nd f && (Nat.ble (getT tr t).1 nd.length && (decide ((getT tr t).1 = 0) || (desOK FU nd (getN nd f).b0 (getN nd f).b1 (getN nd f).b2 (getN nd f).b3 (getT tr t).1 &&
  (repOK (nd ++ [zN]) tr t (attW nd tr t f) (nd.length + 1) && (adoOK (repN (nd ++ [zN]) (attW nd tr t f) (nd.length + 1)) (nd.length + 1) (attW nd tr t f) f && (okN (attN nd tr t f) (nd.length + 1) && (Nat.ble (getN (attN nd tr t f) (nd.length + 1)).par (attN nd tr t f).length &&
  rebOK FU (attN nd tr t f) (attT nd tr t f) t (getN (attN nd tr t f) (nd.length + 1)).par))))))))
/- A leaf taken out. -/
def detN (nd : List Nd) (f : Nat) : List Nd := repN nd (getN nd f).par (sib nd f)
def detT (nd : List Nd) (tr : List (Nat × Nat)) (t f : Nat) : List (Nat × Nat) := repT nd tr t (getN nd f).par (sib nd f)
def deN (nd : List Nd) (f : Nat) : List Nd := bif decide ((getN nd f).par = 0) then nd else wPar (rebN FU (detN nd f) (getN (detN nd f) (getN nd f).par).par) f 0
def deT (nd : List Nd) (tr : List (Nat × Nat)) (t f : Nat) : List (Nat × Nat) := bif decide ((getN nd f).par = 0) then wRoot tr t 0 else rebT FU (detN nd f) (detT nd tr t f) t (getN (detN nd f) (getN nd f).par).par
def deOK (nd : List Nd) (tr : List (Nat × Nat)) (t f : Nat) : Bool := okT tr t && (okN nd f && (decide ((getN nd f).par = 0) || (sibOK nd f && (repOK nd tr t (getN nd f).par (sib nd f) && (okN (detN nd f) (getN nd f).par && (Nat.ble (getN (detN nd f) (getN nd f).par).par (detN nd f).length &&
  (rebOK FU (detN nd f) (detT nd tr t f) t (getN (detN nd f) (getN nd f).par).par && okN (rebN FU (detN nd f) (getN (detN nd f) (getN nd f).par).par) f)))))))

@[simp] theorem len_wRoot (tr : List (Nat × Nat)) (p q : Nat) : (wRoot tr p q).length = tr.length := by simp [wRoot, setT]
@[simp] theorem len_wMap (tr : List (Nat × Nat)) (p q : Nat) : (wMap tr p q).length = tr.length := by simp [wMap, setT]
theorem len_refN (nd : List Nd) (n : Nat) : (refN nd n).length = nd.length := by simp [refN, refB]
theorem len_adoP (nd : List Nd) (n a b : Nat) : (adoP nd n a b).length = nd.length := by simp [adoP]
theorem len_adoN (nd : List Nd) (n a b : Nat) : (adoN nd n a b).length = nd.length := by simp [adoN, len_refN, len_adoP]
theorem len_repP (nd : List Nd) (a b : Nat) : (repP nd a b).length = nd.length := by simp only [repP, Bool.cond_decide]; split <;> simp
theorem len_repN (nd : List Nd) (a b : Nat) : (repN nd a b).length = nd.length := by simp only [repN, Bool.cond_decide]; split <;> (try split) <;> simp [len_repP]
theorem len_repT (nd : List Nd) (tr : List (Nat × Nat)) (t a b : Nat) : (repT nd tr t a b).length = tr.length := by simp only [repT, Bool.cond_decide]; split <;> simp
theorem len_rotN (nd : List Nd) (n h : Nat) : (rotN nd n h).length = nd.length := by simp [rotN, len_adoN, len_repN]
theorem len_balN (nd : List Nd) (n : Nat) : (balN nd n).length = nd.length := by simp only [balN, Bool.cond_decide]; split <;> (try split) <;> simp [len_rotN, len_refN]
theorem len_balT (nd : List Nd) (tr : List (Nat × Nat)) (t n : Nat) : (balT nd tr t n).length = tr.length := by simp only [balT, rotT, Bool.cond_decide]; split <;> (try split) <;> simp [len_repT]
theorem len_rebN : ∀ (k : Nat) (nd : List Nd) (n : Nat), (rebN k nd n).length = nd.length
  | 0, nd, n => rfl
  | k + 1, nd, n => by simp only [rebN, Bool.cond_decide]; split <;> simp [len_rebN k, len_balN]
theorem len_rebT : ∀ (k : Nat) (nd : List Nd) (tr : List (Nat × Nat)) (t n : Nat), (rebT k nd tr t n).length = tr.length
  | 0, nd, tr, t, n => rfl
  | k + 1, nd, tr, t, n => by simp only [rebT, Bool.cond_decide]; split <;> simp [len_rebT k, len_balT]
theorem okT_len {tr tr' : List (Nat × Nat)} (h : tr'.length = tr.length) (t : Nat) : okT tr' t = okT tr t := by simp only [okT, h]
theorem okN_len {nd nd' : List Nd} (h : nd'.length = nd.length) (n : Nat) : okN nd' n = okN nd n := by simp only [okN, h]

theorem rebN_zero (k : Nat) (nd : List Nd) : rebN k nd 0 = nd := by cases k <;> rfl
theorem rebT_zero (k : Nat) (nd : List Nd) (tr : List (Nat × Nat)) (t : Nat) : rebT k nd tr t 0 = tr := by cases k <;> rfl
theorem reb_step {k : Nat} {nd : List Nd} {tr : List (Nat × Nat)} {t n : Nat} (h : rebOK k nd tr t n = true) (hn : n ≠ 0) : ∃ j, k = j + 1 ∧ balOK nd tr t n = true ∧ rebOK j (balN nd n) (balT nd tr t n) t (getN (balN nd n) (balP nd n)).par = true ∧
    rebN k nd n = rebN j (balN nd n) (getN (balN nd n) (balP nd n)).par ∧ rebT k nd tr t n = rebT j (balN nd n) (balT nd tr t n) t (getN (balN nd n) (balP nd n)).par := by
  cases k with
  | zero => simp [rebOK, hn] at h
  | succ j =>
    simp only [rebOK, Bool.or_eq_true, Bool.and_eq_true, decide_eq_true_eq, hn, false_or] at h
    exact ⟨j, rfl, h.1, h.2, by simp only [rebN, hn, decide_false, cond_false], by simp only [rebT, hn, decide_false, cond_false]⟩
theorem bal_facts {nd : List Nd} {tr : List (Nat × Nat)} {t n : Nat} (h : balOK nd tr t n = true) : (0 < n ∧ n ≤ nd.length) ∧ (0 < (getN nd n).l ∧ (getN nd n).l ≤ nd.length) ∧ (0 < (getN nd n).r ∧ (getN nd n).r ≤ nd.length) ∧
    (0 ≤ (getN nd (getN nd n).l).ht ∧ (getN nd (getN nd n).l).ht ≤ 1000000) ∧ (0 ≤ (getN nd (getN nd n).r).ht ∧ (getN nd (getN nd n).r).ht ≤ 1000000) ∧
    (decide (1 < (getN nd (getN nd n).l).ht - (getN nd (getN nd n).r).ht) = true → rotOK nd tr t n (getN nd n).l = true) ∧
    (decide (1 < (getN nd (getN nd n).l).ht - (getN nd (getN nd n).r).ht) = false → decide ((getN nd (getN nd n).l).ht - (getN nd (getN nd n).r).ht < -1) = true → rotOK nd tr t n (getN nd n).r = true) ∧
    (decide (1 < (getN nd (getN nd n).l).ht - (getN nd (getN nd n).r).ht) = false → decide ((getN nd (getN nd n).l).ht - (getN nd (getN nd n).r).ht < -1) = false → refOK nd n = true) ∧
    okN (balN nd n) (balP nd n) = true ∧ (getN (balN nd n) (balP nd n)).par ≤ (balN nd n).length := by
  simp only [balOK, Bool.and_eq_true, okN_iff (nd := nd), htOK, decide_eq_true_eq, Nat.ble_eq] at h
  obtain ⟨h1, h2, h3, h4, h5, h6, h7, h8⟩ := h
  refine ⟨h1, h2, h3, h4, h5, fun e => ?_, fun e e2 => ?_, fun e e2 => ?_, h7, h8⟩
  · rw [show decide (1 < balD nd n) = true from e] at h6; exact h6
  · rw [show decide (1 < balD nd n) = false from e, show decide (balD nd n < -1) = true from e2] at h6; exact h6
  · rw [show decide (1 < balD nd n) = false from e, show decide (balD nd n < -1) = false from e2] at h6; exact h6
theorem bal_l {nd : List Nd} {n : Nat} (h : decide (1 < (getN nd (getN nd n).l).ht - (getN nd (getN nd n).r).ht) = true) : balN nd n = rotN nd n (getN nd n).l ∧ balP nd n = (getN nd n).l ∧ ∀ tr t, balT nd tr t n = rotT nd tr t n (getN nd n).l := by
  simp only [balN, balP, balT, show decide (1 < balD nd n) = true from h, cond_true, implies_true, and_self]
theorem bal_r {nd : List Nd} {n : Nat} (h : decide (1 < (getN nd (getN nd n).l).ht - (getN nd (getN nd n).r).ht) = false) (h2 : decide ((getN nd (getN nd n).l).ht - (getN nd (getN nd n).r).ht < -1) = true) : balN nd n = rotN nd n (getN nd n).r ∧ balP nd n = (getN nd n).r ∧ ∀ tr t, balT nd tr t n = rotT nd tr t n (getN nd n).r := by
  simp only [balN, balP, balT, show decide (1 < balD nd n) = false from h, show decide (balD nd n < -1) = true from h2, cond_true, cond_false, implies_true, and_self]
theorem bal_n {nd : List Nd} {n : Nat} (h : decide (1 < (getN nd (getN nd n).l).ht - (getN nd (getN nd n).r).ht) = false) (h2 : decide ((getN nd (getN nd n).l).ht - (getN nd (getN nd n).r).ht < -1) = false) : balN nd n = refN nd n ∧ balP nd n = n ∧ ∀ tr t, balT nd tr t n = tr := by
  simp only [balN, balP, balT, show decide (1 < balD nd n) = false from h, show decide (balD nd n < -1) = false from h2, cond_false, implies_true, and_self]
theorem des_step {k : Nat} {nd : List Nd} {a b c d : Int} {n : Nat} (h : desOK k nd a b c d n = true) : ∃ j, k = j + 1 ∧ (0 < n ∧ n ≤ nd.length) ∧ (getN nd n).l ≤ nd.length ∧
    (decide ((getN nd n).l = 0) = true → desN k nd a b c d n = n) ∧
    (decide ((getN nd n).l = 0) = false → (0 < (getN nd n).l ∧ (getN nd n).l ≤ nd.length) ∧ (0 < (getN nd n).r ∧ (getN nd n).r ≤ nd.length) ∧ desOK j nd a b c d (desS nd a b c d n) = true ∧ desN k nd a b c d n = desN j nd a b c d (desS nd a b c d n) ∧ desS nd a b c d n ≤ nd.length) := by
  cases k with
  | zero => simp [desOK] at h
  | succ j =>
    simp only [desOK, Bool.or_eq_true, Bool.and_eq_true, decide_eq_true_eq, okN_iff] at h
    obtain ⟨h1, h2⟩ := h
    refine ⟨j, rfl, h1, ?_, fun e => ?_, fun e => ?_⟩
    · cases h2 with
      | inl h => omega
      | inr h => exact h.1.2
    · simp only [desN, e, cond_true]
    · cases h2 with
      | inl h => simp [h] at e
      | inr h =>
        refine ⟨h.1, h.2.1, h.2.2, by simp only [desN, e, cond_false], ?_⟩
        simp only [desS, Bool.cond_decide]
        split
        · exact h.1.2
        · exact h.2.1.2
theorem at_facts {nd : List Nd} {tr : List (Nat × Nat)} {t f : Nat} (h : atOK nd tr t f = true) : (0 < t ∧ t ≤ tr.length) ∧ (0 < f ∧ f ≤ nd.length) ∧ (getT tr t).1 ≤ nd.length ∧
    (decide ((getT tr t).1 = 0) = true → atN nd tr t f = wPar nd f 0 ∧ atT nd tr t f = wRoot tr t f) ∧
    (decide ((getT tr t).1 = 0) = false → desOK FU nd (getN nd f).b0 (getN nd f).b1 (getN nd f).b2 (getN nd f).b3 (getT tr t).1 = true ∧
      repOK (nd ++ [zN]) tr t (attW nd tr t f) (nd.length + 1) = true ∧ adoOK (repN (nd ++ [zN]) (attW nd tr t f) (nd.length + 1)) (nd.length + 1) (attW nd tr t f) f = true ∧ okN (attN nd tr t f) (nd.length + 1) = true ∧ (getN (attN nd tr t f) (nd.length + 1)).par ≤ (attN nd tr t f).length ∧
      rebOK FU (attN nd tr t f) (attT nd tr t f) t (getN (attN nd tr t f) (nd.length + 1)).par = true ∧
      atN nd tr t f = rebN FU (attN nd tr t f) (getN (attN nd tr t f) (nd.length + 1)).par ∧ atT nd tr t f = rebT FU (attN nd tr t f) (attT nd tr t f) t (getN (attN nd tr t f) (nd.length + 1)).par) := by
  simp only [atOK, Bool.or_eq_true, Bool.and_eq_true, decide_eq_true_eq, okT_iff, okN_iff (nd := nd), Nat.ble_eq] at h
  obtain ⟨h1, h2, h3, h4⟩ := h
  refine ⟨h1, h2, h3, fun e => ?_, fun e => ?_⟩
  · simp only [atN, atT, e, cond_true, and_self]
  · cases h4 with
    | inl h => simp [h] at e
    | inr h =>
      obtain ⟨a1, a2, a3, a4, a5, a6⟩ := h
      exact ⟨a1, a2, a3, a4, a5, a6, by simp only [atN, e, cond_false], by simp only [atT, e, cond_false]⟩
theorem de_facts {nd : List Nd} {tr : List (Nat × Nat)} {t f : Nat} (h : deOK nd tr t f = true) : (0 < t ∧ t ≤ tr.length) ∧ (0 < f ∧ f ≤ nd.length) ∧
    (decide ((getN nd f).par = 0) = true → deN nd f = nd ∧ deT nd tr t f = wRoot tr t 0) ∧
    (decide ((getN nd f).par = 0) = false → sibOK nd f = true ∧ repOK nd tr t (getN nd f).par (sib nd f) = true ∧ okN (detN nd f) (getN nd f).par = true ∧ (getN (detN nd f) (getN nd f).par).par ≤ (detN nd f).length ∧
      rebOK FU (detN nd f) (detT nd tr t f) t (getN (detN nd f) (getN nd f).par).par = true ∧ okN (rebN FU (detN nd f) (getN (detN nd f) (getN nd f).par).par) f = true ∧
      deN nd f = wPar (rebN FU (detN nd f) (getN (detN nd f) (getN nd f).par).par) f 0 ∧ deT nd tr t f = rebT FU (detN nd f) (detT nd tr t f) t (getN (detN nd f) (getN nd f).par).par) := by
  simp only [deOK, Bool.or_eq_true, Bool.and_eq_true, decide_eq_true_eq, okT_iff, okN_iff (nd := nd), Nat.ble_eq] at h
  obtain ⟨h1, h2, h4⟩ := h
  refine ⟨h1, h2, fun e => ?_, fun e => ?_⟩
  · simp only [deN, deT, e, cond_true, and_self]
  · cases h4 with
    | inl h => simp [h] at e
    | inr h =>
      obtain ⟨a1, a2, a3, a4, a5, a6⟩ := h
      exact ⟨a1, a2, a3, a4, a5, a6, by simp only [deN, e, cond_false], by simp only [deT, e, cond_false]⟩
end Go.Proofs.Ytkfaflhhkmkdjaa

namespace Go.Proofs.Ytkfaflhhkmkdjaa
open Fx Vx Bx Ev
set_option linter.unusedVariables false
set_option linter.unusedSimpArgs false
/- The methods of a tree. -/
def insTr (tr : List (Nat × Nat)) (mp : List (List (Int × Nat))) (t : Nat) : List (Nat × Nat) := bif decide ((getT tr t).2 = 0) then wMap tr t (mp.length + 1) else tr
def insM0 (tr : List (Nat × Nat)) (mp : List (List (Int × Nat))) (t : Nat) : List (List (Int × Nat)) := bif decide ((getT tr t).2 = 0) then mp ++ [[]] else mp
def insMp (nd : List Nd) (tr : List (Nat × Nat)) (mp : List (List (Int × Nat))) (t : Nat) (id : Int) : List (List (Int × Nat)) := setM (insM0 tr mp t) (getT (insTr tr mp t) t).2 (putE (getM (insM0 tr mp t) (getT (insTr tr mp t) t).2) id (nd.length + 1))
def leafN (a b c d id : Int) : Nd := ⟨a, b, c, d, 0, 0, 0, 1, id⟩
/-- What Insert answers. -/
def insE (tr : List (Nat × Nat)) (mp : List (List (Int × Nat))) (t : Nat) (id a b c d : Int) : Int := bif decide (t = 0) then 1 else bif !validB a b c d then 2 else bif hasE (getM mp (getT tr t).2) id then 7 else bif decide (((getM mp (getT tr t).2).length : Int) ≥ 4096) then 9 else 0
def insD (tr : List (Nat × Nat)) (mp : List (List (Int × Nat))) (t : Nat) (id a b c d : Int) : Bool := decide (insE tr mp t id a b c d = 0)
def inN (nd : List Nd) (tr : List (Nat × Nat)) (mp : List (List (Int × Nat))) (t : Nat) (id a b c d : Int) : List Nd := bif insD tr mp t id a b c d then atN (nd ++ [leafN a b c d id]) (insTr tr mp t) t (nd.length + 1) else nd
def inT (nd : List Nd) (tr : List (Nat × Nat)) (mp : List (List (Int × Nat))) (t : Nat) (id a b c d : Int) : List (Nat × Nat) := bif insD tr mp t id a b c d then atT (nd ++ [leafN a b c d id]) (insTr tr mp t) t (nd.length + 1) else tr
def inM (nd : List Nd) (tr : List (Nat × Nat)) (mp : List (List (Int × Nat))) (t : Nat) (id a b c d : Int) : List (List (Int × Nat)) := bif insD tr mp t id a b c d then insMp nd tr mp t id else mp
def inOK (nd : List Nd) (tr : List (Nat × Nat)) (mp : List (List (Int × Nat))) (t : Nat) (id a b c d : Int) : Bool := decide (t = 0) || (okT tr t && (Nat.ble (getT tr t).2 mp.length && (!insD tr mp t id a b c d || (okT (insTr tr mp t) t && (Nat.blt 0 (getT (insTr tr mp t) t).2 && (Nat.ble (getT (insTr tr mp t) t).2 (insM0 tr mp t).length && atOK (nd ++ [leafN a b c d id]) (insTr tr mp t) t (nd.length + 1)))))))
theorem in_facts {nd : List Nd} {tr : List (Nat × Nat)} {mp : List (List (Int × Nat))} {t : Nat} {id a b c d : Int} (h : inOK nd tr mp t id a b c d = true) (ht : decide (t = 0) = false) : (0 < t ∧ t ≤ tr.length) ∧ (getT tr t).2 ≤ mp.length ∧ (insD tr mp t id a b c d = true → (0 < t ∧ t ≤ (insTr tr mp t).length) ∧ (0 < (getT (insTr tr mp t) t).2 ∧ (getT (insTr tr mp t) t).2 ≤ (insM0 tr mp t).length) ∧ atOK (nd ++ [leafN a b c d id]) (insTr tr mp t) t (nd.length + 1) = true) := by
  simp only [inOK, ht, Bool.false_or, Bool.or_eq_true, Bool.and_eq_true, okT_iff, Nat.ble_eq, Nat.blt_eq, Bool.not_eq_true'] at h
  obtain ⟨h1, h2, h3⟩ := h
  refine ⟨h1, h2, fun e => ?_⟩
  cases h3 with
  | inl h => rw [e] at h; cases h
  | inr h => exact ⟨h.1, ⟨h.2.1, h.2.2.1⟩, h.2.2.2⟩
theorem insE_0 (tr : List (Nat × Nat)) (mp : List (List (Int × Nat))) {t : Nat} (id a b c d : Int) (h : decide (t = 0) = true) : insE tr mp t id a b c d = 1 := by simp only [insE, h, cond_true]
theorem insE_1 (tr : List (Nat × Nat)) (mp : List (List (Int × Nat))) {t : Nat} (id a b c d : Int) (h : decide (t = 0) = false) (h2 : (!validB a b c d) = true) : insE tr mp t id a b c d = 2 := by simp only [insE, h, h2, cond_true, cond_false]
theorem insE_2 {tr : List (Nat × Nat)} {mp : List (List (Int × Nat))} {t : Nat} {id a b c d : Int} (h : decide (t = 0) = false) (h2 : (!validB a b c d) = false) (h3 : hasE (getM mp (getT tr t).2) id = true) : insE tr mp t id a b c d = 7 := by simp only [insE, h, h2, h3, cond_true, cond_false]
theorem insE_3 {tr : List (Nat × Nat)} {mp : List (List (Int × Nat))} {t : Nat} {id a b c d : Int} (h : decide (t = 0) = false) (h2 : (!validB a b c d) = false) (h3 : hasE (getM mp (getT tr t).2) id = false) (h4 : decide (((getM mp (getT tr t).2).length : Int) ≥ 4096) = true) : insE tr mp t id a b c d = 9 := by simp only [insE, h, h2, h3, h4, cond_true, cond_false]
theorem insE_4 {tr : List (Nat × Nat)} {mp : List (List (Int × Nat))} {t : Nat} {id a b c d : Int} (h : decide (t = 0) = false) (h2 : (!validB a b c d) = false) (h3 : hasE (getM mp (getT tr t).2) id = false) (h4 : decide (((getM mp (getT tr t).2).length : Int) ≥ 4096) = false) : insE tr mp t id a b c d = 0 := by simp only [insE, h, h2, h3, h4, cond_true, cond_false]
theorem in_no {nd : List Nd} {tr : List (Nat × Nat)} {mp : List (List (Int × Nat))} {t : Nat} {id a b c d : Int} {e : Int} (h : insE tr mp t id a b c d = e) (he : e ≠ 0) : inN nd tr mp t id a b c d = nd ∧ inT nd tr mp t id a b c d = tr ∧ inM nd tr mp t id a b c d = mp := by
  have : insD tr mp t id a b c d = false := by simp [insD, h, he]
  simp only [inN, inT, inM, this, cond_false, and_self]
theorem in_yes {nd : List Nd} {tr : List (Nat × Nat)} {mp : List (List (Int × Nat))} {t : Nat} {id a b c d : Int} (h : insE tr mp t id a b c d = 0) : insD tr mp t id a b c d = true ∧ inN nd tr mp t id a b c d = atN (nd ++ [leafN a b c d id]) (insTr tr mp t) t (nd.length + 1) ∧ inT nd tr mp t id a b c d = atT (nd ++ [leafN a b c d id]) (insTr tr mp t) t (nd.length + 1) ∧ inM nd tr mp t id a b c d = insMp nd tr mp t id := by
  have : insD tr mp t id a b c d = true := by simp [insD, h]
  simp only [inN, inT, inM, this, cond_true, and_self]
/-- The leaf with an ID, and whether there is one. -/
def lkN (tr : List (Nat × Nat)) (mp : List (List (Int × Nat))) (t : Nat) (id : Int) : Nat := lookE (getM mp (getT tr t).2) id
def hsN (tr : List (Nat × Nat)) (mp : List (List (Int × Nat))) (t : Nat) (id : Int) : Bool := hasE (getM mp (getT tr t).2) id
def remD (tr : List (Nat × Nat)) (mp : List (List (Int × Nat))) (t : Nat) (id : Int) : Bool := !decide (t = 0) && hsN tr mp t id
def reN (nd : List Nd) (tr : List (Nat × Nat)) (mp : List (List (Int × Nat))) (t : Nat) (id : Int) : List Nd := bif remD tr mp t id then deN nd (lkN tr mp t id) else nd
def reT (nd : List Nd) (tr : List (Nat × Nat)) (mp : List (List (Int × Nat))) (t : Nat) (id : Int) : List (Nat × Nat) := bif remD tr mp t id then deT nd tr t (lkN tr mp t id) else tr
def reM (nd : List Nd) (tr : List (Nat × Nat)) (mp : List (List (Int × Nat))) (t : Nat) (id : Int) : List (List (Int × Nat)) := bif remD tr mp t id then setM mp (getT (deT nd tr t (lkN tr mp t id)) t).2 (delE (getM mp (getT (deT nd tr t (lkN tr mp t id)) t).2) id) else mp
def reOK (nd : List Nd) (tr : List (Nat × Nat)) (mp : List (List (Int × Nat))) (t : Nat) (id : Int) : Bool := decide (t = 0) || (okT tr t && (Nat.ble (getT tr t).2 mp.length && (!hsN tr mp t id || (deOK nd tr t (lkN tr mp t id) && (okT (deT nd tr t (lkN tr mp t id)) t && (Nat.blt 0 (getT (deT nd tr t (lkN tr mp t id)) t).2 && Nat.ble (getT (deT nd tr t (lkN tr mp t id)) t).2 mp.length))))))
def updE (tr : List (Nat × Nat)) (mp : List (List (Int × Nat))) (t : Nat) (id a b c d : Int) : Int := bif decide (t = 0) then 1 else bif !validB a b c d then 2 else bif hsN tr mp t id then 0 else 8
def updB (nd : List Nd) (tr : List (Nat × Nat)) (mp : List (List (Int × Nat))) (t : Nat) (id a b c d : Int) : List Nd := wB (deN nd (lkN tr mp t id)) (lkN tr mp t id) a b c d
def updD (tr : List (Nat × Nat)) (mp : List (List (Int × Nat))) (t : Nat) (id a b c d : Int) : Bool := decide (updE tr mp t id a b c d = 0)
def upN (nd : List Nd) (tr : List (Nat × Nat)) (mp : List (List (Int × Nat))) (t : Nat) (id a b c d : Int) : List Nd := bif updD tr mp t id a b c d then atN (updB nd tr mp t id a b c d) (deT nd tr t (lkN tr mp t id)) t (lkN tr mp t id) else nd
def upT (nd : List Nd) (tr : List (Nat × Nat)) (mp : List (List (Int × Nat))) (t : Nat) (id a b c d : Int) : List (Nat × Nat) := bif updD tr mp t id a b c d then atT (updB nd tr mp t id a b c d) (deT nd tr t (lkN tr mp t id)) t (lkN tr mp t id) else tr
def upOK (nd : List Nd) (tr : List (Nat × Nat)) (mp : List (List (Int × Nat))) (t : Nat) (id a b c d : Int) : Bool := decide (t = 0) || (okT tr t && (Nat.ble (getT tr t).2 mp.length && ((!validB a b c d || !hsN tr mp t id) || (deOK nd tr t (lkN tr mp t id) && (okN (deN nd (lkN tr mp t id)) (lkN tr mp t id) && atOK (updB nd tr mp t id a b c d) (deT nd tr t (lkN tr mp t id)) t (lkN tr mp t id))))))
def lenE (tr : List (Nat × Nat)) (mp : List (List (Int × Nat))) (t : Nat) : Int := bif decide (t = 0) then 0 else ((getM mp (getT tr t).2).length : Int)
def lenOK (tr : List (Nat × Nat)) (mp : List (List (Int × Nat))) (t : Nat) : Bool := decide (t = 0) || (okT tr t && Nat.ble (getT tr t).2 mp.length)
def hgtE (nd : List Nd) (tr : List (Nat × Nat)) (t : Nat) : Int := bif decide (t = 0) then 0 else bif decide ((getT tr t).1 = 0) then 0 else (getN nd (getT tr t).1).ht
def hgtOK (nd : List Nd) (tr : List (Nat × Nat)) (t : Nat) : Bool := decide (t = 0) || (okT tr t && (decide ((getT tr t).1 = 0) || okN nd (getT tr t).1))
def bndD (tr : List (Nat × Nat)) (mp : List (List (Int × Nat))) (t : Nat) (id : Int) : Bool := !decide (t = 0) && hsN tr mp t id
def bndOK (nd : List Nd) (tr : List (Nat × Nat)) (mp : List (List (Int × Nat))) (t : Nat) (id : Int) : Bool := decide (t = 0) || (okT tr t && (Nat.ble (getT tr t).2 mp.length && (!hsN tr mp t id || okN nd (lkN tr mp t id))))
def bnd (nd : List Nd) (tr : List (Nat × Nat)) (mp : List (List (Int × Nat))) (t : Nat) (id : Int) (i : Nat) : Int := bif bndD tr mp t id then (match i with | 0 => (getN nd (lkN tr mp t id)).b0 | 1 => (getN nd (lkN tr mp t id)).b1 | 2 => (getN nd (lkN tr mp t id)).b2 | _ => (getN nd (lkN tr mp t id)).b3) else 0
theorem re_facts {nd : List Nd} {tr : List (Nat × Nat)} {mp : List (List (Int × Nat))} {t : Nat} {id : Int} (h : reOK nd tr mp t id = true) (ht : decide (t = 0) = false) : (0 < t ∧ t ≤ tr.length) ∧ (getT tr t).2 ≤ mp.length ∧ (hasE (getM mp (getT tr t).2) id = true → deOK nd tr t (lookE (getM mp (getT tr t).2) id) = true ∧ (0 < t ∧ t ≤ (deT nd tr t (lookE (getM mp (getT tr t).2) id)).length) ∧ (0 < (getT (deT nd tr t (lookE (getM mp (getT tr t).2) id)) t).2 ∧ (getT (deT nd tr t (lookE (getM mp (getT tr t).2) id)) t).2 ≤ mp.length)) := by
  simp only [reOK, hsN, lkN, ht, Bool.false_or, Bool.or_eq_true, Bool.and_eq_true, okT_iff, Nat.ble_eq, Nat.blt_eq, Bool.not_eq_true'] at h
  obtain ⟨h1, h2, h3⟩ := h
  refine ⟨h1, h2, fun e => ?_⟩
  cases h3 with
  | inl h => rw [e] at h; cases h
  | inr h => exact ⟨h.1, h.2.1, h.2.2⟩
theorem re_no {nd : List Nd} {tr : List (Nat × Nat)} {mp : List (List (Int × Nat))} {t : Nat} {id : Int} (h : remD tr mp t id = false) : reN nd tr mp t id = nd ∧ reT nd tr mp t id = tr ∧ reM nd tr mp t id = mp := by simp only [reN, reT, reM, h, cond_false, and_self]
theorem re_yes {nd : List Nd} {tr : List (Nat × Nat)} {mp : List (List (Int × Nat))} {t : Nat} {id : Int} (h : remD tr mp t id = true) : reN nd tr mp t id = deN nd (lkN tr mp t id) ∧ reT nd tr mp t id = deT nd tr t (lkN tr mp t id) ∧ reM nd tr mp t id = setM mp (getT (deT nd tr t (lkN tr mp t id)) t).2 (delE (getM mp (getT (deT nd tr t (lkN tr mp t id)) t).2) id) := by simp only [reN, reT, reM, h, cond_true, and_self]
theorem remD_0 {tr : List (Nat × Nat)} {mp : List (List (Int × Nat))} {t : Nat} {id : Int} (h : decide (t = 0) = true) : remD tr mp t id = false := by simp only [remD, h, Bool.not_true, Bool.false_and]
theorem remD_1 {tr : List (Nat × Nat)} {mp : List (List (Int × Nat))} {t : Nat} {id : Int} (h : decide (t = 0) = false) : remD tr mp t id = hasE (getM mp (getT tr t).2) id := by simp only [remD, hsN, h, Bool.not_false, Bool.true_and]
theorem up_facts {nd : List Nd} {tr : List (Nat × Nat)} {mp : List (List (Int × Nat))} {t : Nat} {id a b c d : Int} (h : upOK nd tr mp t id a b c d = true) (ht : decide (t = 0) = false) : (0 < t ∧ t ≤ tr.length) ∧ (getT tr t).2 ≤ mp.length ∧ ((!validB a b c d) = false → hasE (getM mp (getT tr t).2) id = true → deOK nd tr t (lookE (getM mp (getT tr t).2) id) = true ∧ (0 < lookE (getM mp (getT tr t).2) id ∧ lookE (getM mp (getT tr t).2) id ≤ (deN nd (lookE (getM mp (getT tr t).2) id)).length) ∧ atOK (updB nd tr mp t id a b c d) (deT nd tr t (lkN tr mp t id)) t (lkN tr mp t id) = true) := by
  simp only [upOK, hsN, ht, Bool.false_or, Bool.or_eq_true, Bool.and_eq_true, okT_iff, okN_iff, Nat.ble_eq, Nat.blt_eq, Bool.not_eq_true'] at h
  obtain ⟨h1, h2, h3⟩ := h
  refine ⟨h1, h2, fun e0 e => ?_⟩
  cases h3 with
  | inl h => rw [e] at h; simp at h e0; rw [h] at e0; cases e0
  | inr h => exact ⟨h.1, h.2.1, h.2.2⟩
theorem updE_0 (tr : List (Nat × Nat)) (mp : List (List (Int × Nat))) {t : Nat} (id a b c d : Int) (h : decide (t = 0) = true) : updE tr mp t id a b c d = 1 := by simp only [updE, h, cond_true]
theorem updE_1 (tr : List (Nat × Nat)) (mp : List (List (Int × Nat))) {t : Nat} (id a b c d : Int) (h : decide (t = 0) = false) (h2 : (!validB a b c d) = true) : updE tr mp t id a b c d = 2 := by simp only [updE, h, h2, cond_true, cond_false]
theorem updE_2 {tr : List (Nat × Nat)} {mp : List (List (Int × Nat))} {t : Nat} {id a b c d : Int} (h : decide (t = 0) = false) (h2 : (!validB a b c d) = false) (h3 : hasE (getM mp (getT tr t).2) id = false) : updE tr mp t id a b c d = 8 := by simp only [updE, hsN, h, h2, h3, cond_true, cond_false]
theorem updE_3 {tr : List (Nat × Nat)} {mp : List (List (Int × Nat))} {t : Nat} {id a b c d : Int} (h : decide (t = 0) = false) (h2 : (!validB a b c d) = false) (h3 : hasE (getM mp (getT tr t).2) id = true) : updE tr mp t id a b c d = 0 := by simp only [updE, hsN, h, h2, h3, cond_true, cond_false]
theorem up_no {nd : List Nd} {tr : List (Nat × Nat)} {mp : List (List (Int × Nat))} {t : Nat} {id a b c d : Int} {e : Int} (h : updE tr mp t id a b c d = e) (he : e ≠ 0) : upN nd tr mp t id a b c d = nd ∧ upT nd tr mp t id a b c d = tr := by
  have : updD tr mp t id a b c d = false := by simp [updD, h, he]
  simp only [upN, upT, this, cond_false, and_self]
theorem up_yes {nd : List Nd} {tr : List (Nat × Nat)} {mp : List (List (Int × Nat))} {t : Nat} {id a b c d : Int} (h : updE tr mp t id a b c d = 0) : upN nd tr mp t id a b c d = atN (updB nd tr mp t id a b c d) (deT nd tr t (lkN tr mp t id)) t (lkN tr mp t id) ∧ upT nd tr mp t id a b c d = atT (updB nd tr mp t id a b c d) (deT nd tr t (lkN tr mp t id)) t (lkN tr mp t id) := by
  have : updD tr mp t id a b c d = true := by simp [updD, h]
  simp only [upN, upT, this, cond_true, and_self]
end Go.Proofs.Ytkfaflhhkmkdjaa

namespace Go.Proofs.Ytkfaflhhkmkdjaa
open Fx Vx Bx Ev
set_option linter.unusedVariables false
set_option linter.unusedSimpArgs false

def All1 (xs : List (List Int)) : Prop := ∀ i, i < xs.length → (xs.getD i []).length = 1
theorem len_upd2 (xs : List (List Int)) (i j : Nat) (l : List Int) : (upd2 xs i j l).length = xs.length := by simp [upd2]
theorem All1.upd {xs : List (List Int)} (h : All1 xs) (i : Nat) (v : Int) : All1 (upd2 xs i 0 [v]) := by
  intro k hk
  rw [len_upd2] at hk
  have := h k hk
  simp only [upd2, List.getD_eq_getElem?_getD, List.getElem?_set] at this ⊢
  split
  · rename_i e
    subst e
    rw [if_pos hk]
    simp only [Option.getD_some]
    generalize hq : (xs[i]?.getD []) = row at this
    match row, this with
    | [a], _ => rfl
  · exact this
def swpR (xs : List (List Int)) (i c : Nat) : List (List Int) := upd2 (upd2 xs i 0 [at2 xs c 0]) c 0 [at2 xs i 0]
theorem len_swpR (xs : List (List Int)) (i c : Nat) : (swpR xs i c).length = xs.length := by simp only [swpR, len_upd2]
theorem All1.swp {xs : List (List Int)} (h : All1 xs) (i c : Nat) : All1 (swpR xs i c) := (h.upd _ _).upd _ _
def chR (xs : List (List Int)) (len c : Nat) : Nat := bif decide (c + 1 < len) && decide (at2 xs (c + 1) 0 > at2 xs c 0) then c + 1 else c
def siftR : Nat → List (List Int) → Nat → Nat → List (List Int)
  | 0, xs, _, _ => xs
  | k + 1, xs, len, i => bif decide (len ≤ 2 * i + 1) then xs else bif decide (at2 xs i 0 ≥ at2 xs (chR xs len (2 * i + 1)) 0) then xs else siftR k (swpR xs i (chR xs len (2 * i + 1))) len (chR xs len (2 * i + 1))
theorem siftR_end {k : Nat} {xs : List (List Int)} {len i : Nat} (h : len ≤ 2 * i + 1) : siftR k xs len i = xs := by
  cases k with
  | zero => rfl
  | succ k => simp only [siftR, h, decide_true, cond_true]
theorem siftR_stop {k : Nat} {xs : List (List Int)} {len i c : Nat} (hc : chR xs len (2 * i + 1) = c) (h : at2 xs i 0 ≥ at2 xs c 0) : siftR k xs len i = xs := by
  cases k with
  | zero => rfl
  | succ k => simp only [siftR, hc, h, decide_true, cond_true, Bool.cond_decide]; split <;> rfl
theorem siftR_go {k : Nat} {xs : List (List Int)} {len i c : Nat} (hk : len ≤ k + i) (hl : 2 * i + 1 < len) (hc : chR xs len (2 * i + 1) = c) (h : at2 xs i 0 < at2 xs c 0) : ∃ j, k = j + 1 ∧ siftR k xs len i = siftR j (swpR xs i c) len c := by
  cases k with
  | zero => omega
  | succ k => exact ⟨k, rfl, by simp only [siftR, hc, Bool.cond_decide]; rw [if_neg (by omega), if_neg (by omega)]⟩
theorem tn1 (n : Nat) : 0 + (2 * (n : Int) + 1).toNat = 2 * n + 1 := by omega
theorem tn2 (n : Nat) : 0 + (2 * (n : Int) + 1 + 1).toNat = 2 * n + 1 + 1 := by omega
theorem tn3 (n : Nat) : 0 + ((n : Int)).toNat = n := by omega
theorem ch_t {xs : List (List Int)} {len c : Nat} (h : c + 1 < len) (h2 : at2 xs (c + 1) 0 > at2 xs c 0) : chR xs len c = c + 1 := by simp only [chR, h, h2, decide_true, Bool.and_self, cond_true]
theorem ch_f {xs : List (List Int)} {len c : Nat} (h : ¬ c + 1 < len) : chR xs len c = c := by simp only [chR, h, decide_false, Bool.false_and, cond_false]
theorem ch_g {xs : List (List Int)} {len c : Nat} (h2 : ¬ at2 xs (c + 1) 0 > at2 xs c 0) : chR xs len c = c := by simp only [chR, h2, decide_false, Bool.and_false, cond_false]
theorem len_siftR : ∀ (k : Nat) (xs : List (List Int)) (len i : Nat), (siftR k xs len i).length = xs.length
  | 0, xs, len, i => rfl
  | k + 1, xs, len, i => by simp only [siftR, Bool.cond_decide]; split; rfl; split; rfl; rw [len_siftR k, len_swpR]
theorem All1.sift : ∀ (k : Nat) {xs : List (List Int)} (len i : Nat), All1 xs → All1 (siftR k xs len i)
  | 0, xs, len, i, h => h
  | k + 1, xs, len, i, h => by simp only [siftR, Bool.cond_decide]; split; exact h; split; exact h; exact All1.sift k len _ (h.swp _ _)
/-- The heap made, then emptied from its end. -/
def hpR : Nat → List (List Int) → List (List Int)
  | 0, xs => xs
  | k + 1, xs => hpR k (siftR xs.length xs xs.length k)
def srR : Nat → List (List Int) → List (List Int)
  | 0, xs => xs
  | n + 1, xs => srR n (siftR (n + 1) (swpR xs 0 (n + 1)) (n + 1) 0)
def ascR (xs : List (List Int)) : List (List Int) := srR (xs.length - 1) (hpR (xs.length / 2) xs)
theorem len_hpR : ∀ (k : Nat) (xs : List (List Int)), (hpR k xs).length = xs.length
  | 0, xs => rfl
  | k + 1, xs => by simp only [hpR]; rw [len_hpR k, len_siftR]
theorem len_srR : ∀ (k : Nat) (xs : List (List Int)), (srR k xs).length = xs.length
  | 0, xs => rfl
  | k + 1, xs => by simp only [srR]; rw [len_srR k, len_siftR, len_swpR]
theorem len_ascR (xs : List (List Int)) : (ascR xs).length = xs.length := by simp only [ascR, len_srR, len_hpR]
theorem All1.hp : ∀ (k : Nat) {xs : List (List Int)}, All1 xs → All1 (hpR k xs)
  | 0, xs, h => h
  | k + 1, xs, h => All1.hp k (h.sift _ _ _)
theorem All1.sr : ∀ (k : Nat) {xs : List (List Int)}, All1 xs → All1 (srR k xs)
  | 0, xs, h => h
  | k + 1, xs, h => All1.sr k ((h.swp _ _).sift _ _ _)
theorem All1.asc {xs : List (List Int)} (h : All1 xs) : All1 (ascR xs) := (h.hp _).sr _
theorem half_len (n : Nat) : Int.tdiv (n : Int) 2 - 1 = ((n / 2 : Nat) : Int) - 1 := by rw [Int.tdiv_eq_ediv_of_nonneg (by omega)]; omega
end Go.Proofs.Ytkfaflhhkmkdjaa

namespace Go.Proofs.Ytkfaflhhkmkdjaa
open Fx Vx Bx Ev
set_option linter.unusedVariables false
set_option linter.unusedSimpArgs false

/-- The IDs of the leaves below a node that a test lets through. -/
def colE (T : Nd → Bool) : Nat → List Nd → Nat → List (List Int)
  | 0, _, _ => []
  | k + 1, nd, n => bif decide (n = 0) then [] else bif !T (getN nd n) then [] else bif decide ((getN nd n).l = 0) then [[(getN nd n).id]] else colE T k nd (getN nd n).l ++ colE T k nd (getN nd n).r
def colOK (T : Nd → Bool) : Nat → List Nd → Nat → Bool
  | 0, _, _ => false
  | k + 1, nd, n => decide (n = 0) || (okN nd n && (!T (getN nd n) || (Nat.ble (getN nd n).l nd.length && (decide ((getN nd n).l = 0) || (Nat.ble (getN nd n).r nd.length && (colOK T k nd (getN nd n).l && colOK T k nd (getN nd n).r))))))
def colB (T : Nd → Bool) (k : Nat) (nd : List Nd) (n : Nat) (b : Bool) : Bool := b && (colE T k nd n).isEmpty
def allT (x : Nd) : Bool := true
def ovT (a b c d : Int) (x : Nd) : Bool := overlapsB x.b0 x.b1 x.b2 x.b3 a b c d
def segT (x y z w : Int) (n : Nd) : Bool := isegB n.b0 n.b1 n.b2 n.b3 x y z w
section
variable {T : Nd → Bool} {k : Nat} {nd : List Nd} {n : Nat}
theorem col_0 (hn : decide (n = 0) = true) : colE T (k + 1) nd n = [] := by simp only [colE, hn, cond_true]
theorem col_1 (hn : decide (n = 0) = false) (ht : T (getN nd n) = false) : colE T (k + 1) nd n = [] := by simp only [colE, hn, ht, cond_true, cond_false, Bool.not_false]
theorem col_2 (hn : decide (n = 0) = false) (ht : T (getN nd n) = true) (hl : decide ((getN nd n).l = 0) = true) : colE T (k + 1) nd n = [[(getN nd n).id]] := by simp only [colE, hn, ht, hl, cond_true, cond_false, Bool.not_true]
theorem col_3 (hn : decide (n = 0) = false) (ht : T (getN nd n) = true) (hl : decide ((getN nd n).l = 0) = false) : colE T (k + 1) nd n = colE T k nd (getN nd n).l ++ colE T k nd (getN nd n).r := by simp only [colE, hn, ht, hl, cond_true, cond_false, Bool.not_true]
theorem colB_eq {b : Bool} {e : List (List Int)} (h : colE T k nd n = e) : colB T k nd n b = (b && e.isEmpty) := by rw [colB, h]
theorem col_facts (h : colOK T (k + 1) nd n = true) (hn : decide (n = 0) = false) : (0 < n ∧ n ≤ nd.length) ∧ (T (getN nd n) = true → (getN nd n).l ≤ nd.length ∧ (decide ((getN nd n).l = 0) = false → (getN nd n).r ≤ nd.length ∧ colOK T k nd (getN nd n).l = true ∧ colOK T k nd (getN nd n).r = true)) := by
  simp only [colOK, hn, Bool.false_or, Bool.and_eq_true, Bool.or_eq_true, okN_iff, Nat.ble_eq, Bool.not_eq_true'] at h
  refine ⟨h.1, fun ht => ?_⟩
  have h2 := h.2
  rw [ht] at h2
  simp only [Bool.true_eq_false, false_or] at h2
  refine ⟨h2.1, fun hl => ?_⟩
  have h3 := h2.2
  rw [hl] at h3
  simpa using h3
theorem emp_app (a b : List (List Int)) : (a ++ b).isEmpty = (a.isEmpty && b.isEmpty) := by cases a <;> simp
end
theorem colB_app {T : Nd → Bool} {k : Nat} {nd : List Nd} {n l r : Nat} {b : Bool} (h : colE T (k + 1) nd n = colE T k nd l ++ colE T k nd r) : colB T (k + 1) nd n b = colB T k nd r (colB T k nd l b) := by
  simp only [colB, h, emp_app, Bool.and_assoc]
theorem all1_take (xs : List (List Int)) (v : List Int) : List.take (xs.length + (0 + 1)) (xs ++ List.take (0 + 1) (List.drop 0 [v])) = xs ++ [v] := List.take_of_length_le (by simp)
theorem All1.nil : All1 [] := fun i h => absurd h (Nat.not_lt_zero _)
theorem All1.app {a b : List (List Int)} (ha : All1 a) (hb : All1 b) : All1 (a ++ b) := by
  intro i hi
  simp only [List.getD_eq_getElem?_getD, List.getElem?_append]
  split
  · rename_i h; simpa [List.getD_eq_getElem?_getD] using ha i h
  · rename_i h; simpa [List.getD_eq_getElem?_getD] using hb (i - a.length) (by simp at hi; omega)
theorem All1.one (v : Int) : All1 [[v]] := fun i h => by
  obtain rfl : i = 0 := by simpa using h
  rfl
theorem All1.col (T : Nd → Bool) : ∀ (k : Nat) (nd : List Nd) (n : Nat), All1 (colE T k nd n)
  | 0, nd, n => All1.nil
  | k + 1, nd, n => by
    simp only [colE, Bool.cond_decide, cond_eq_ite]
    split
    · exact All1.nil
    · split
      · exact All1.nil
      · split
        · exact All1.one _
        · exact (All1.col T k nd _).app (All1.col T k nd _)
/-- A query's answer. -/
def qE (T : Nd → Bool) (nd : List Nd) (tr : List (Nat × Nat)) (t : Nat) : List (List Int) := bif decide (t = 0) then [] else ascR (colE T FU nd (getT tr t).1)
def qB (T : Nd → Bool) (nd : List Nd) (tr : List (Nat × Nat)) (t : Nat) : Bool := decide (t = 0) || colB T FU nd (getT tr t).1 true
def qOK (T : Nd → Bool) (nd : List Nd) (tr : List (Nat × Nat)) (t : Nat) : Bool := decide (t = 0) || (okT tr t && (Nat.ble (getT tr t).1 nd.length && (colOK T FU nd (getT tr t).1 && Nat.ble (colE T FU nd (getT tr t).1).length 1000000)))
section
variable {T : Nd → Bool} {nd : List Nd} {tr : List (Nat × Nat)} {t : Nat}
theorem q_nil (h : decide (t = 0) = true) : qE T nd tr t = [] ∧ qB T nd tr t = true := by simp only [qE, qB, h, cond_true, Bool.true_or, and_self]
theorem q_some (h : decide (t = 0) = false) : qE T nd tr t = ascR (colE T FU nd (getT tr t).1) ∧ qB T nd tr t = colB T FU nd (getT tr t).1 true := by simp only [qE, qB, h, cond_false, Bool.false_or, and_self]
theorem q_facts (h : qOK T nd tr t = true) (ht : decide (t = 0) = false) : (0 < t ∧ t ≤ tr.length) ∧ (getT tr t).1 ≤ nd.length ∧ colOK T FU nd (getT tr t).1 = true ∧ (colE T FU nd (getT tr t).1).length ≤ 1000000 := by
  simpa only [qOK, ht, Bool.false_or, Bool.and_eq_true, okT_iff, Nat.ble_eq] using h
theorem All1.q : All1 (qE T nd tr t) := by
  simp only [qE, Bool.cond_decide]
  split
  · exact All1.nil
  · exact (All1.col _ _ _ _).asc
end
/-- The pairs of one box, of all. -/
def prJ (a : Int) (qs : List (List Int)) : Nat → List (List Int)
  | 0 => []
  | j + 1 => bif decide (a < at2 qs j 0) then prJ a qs j ++ [[a, at2 qs j 0]] else prJ a qs j
def prQ (nd : List Nd) (tr : List (Nat × Nat)) (mp : List (List (Int × Nat))) (t : Nat) (a : Int) : Nd → Bool := ovT (getN nd (lkN tr mp t a)).b0 (getN nd (lkN tr mp t a)).b1 (getN nd (lkN tr mp t a)).b2 (getN nd (lkN tr mp t a)).b3
def prK (nd : List Nd) (tr : List (Nat × Nat)) (mp : List (List (Int × Nat))) (t : Nat) (A : List (List Int)) : Nat → List (List Int)
  | 0 => []
  | i + 1 => prK nd tr mp t A i ++ prJ (at2 A i 0) (qE (prQ nd tr mp t (at2 A i 0)) nd tr t) (qE (prQ nd tr mp t (at2 A i 0)) nd tr t).length
def prA (nd : List Nd) (tr : List (Nat × Nat)) (t : Nat) : List (List Int) := ascR (colE allT FU nd (getT tr t).1)
def prE (nd : List Nd) (tr : List (Nat × Nat)) (mp : List (List (Int × Nat))) (t : Nat) : List (List Int) := bif decide (t = 0) then [] else prK nd tr mp t (prA nd tr t) (prA nd tr t).length
structure PrOK (nd : List Nd) (tr : List (Nat × Nat)) (mp : List (List (Int × Nat))) (t : Nat) : Prop where
  ok : qOK allT nd tr t = true
  mpb : (getT tr t).2 ≤ mp.length
  la : (prA nd tr t).length ≤ 4096
  lq : ∀ i, i < (prA nd tr t).length → (qE (prQ nd tr mp t (at2 (prA nd tr t) i 0)) nd tr t).length ≤ 4096
  at_ : ∀ i, i < (prA nd tr t).length → (0 < lkN tr mp t (at2 (prA nd tr t) i 0) ∧ lkN tr mp t (at2 (prA nd tr t) i 0) ≤ nd.length) ∧ qOK (prQ nd tr mp t (at2 (prA nd tr t) i 0)) nd tr t = true
theorem prJ_len (a : Int) (qs : List (List Int)) : ∀ j, (prJ a qs j).length ≤ j
  | 0 => Nat.le_refl 0
  | j + 1 => by have := prJ_len a qs j; simp only [prJ, Bool.cond_decide]; split <;> simp <;> omega
theorem q_len {T : Nd → Bool} {nd : List Nd} {tr : List (Nat × Nat)} {t : Nat} (h : qOK T nd tr t = true) : (qE T nd tr t).length ≤ 1000000 := by
  cases ht : decide (t = 0) with
  | true => rw [(q_nil ht).1]; simp
  | false => rw [(q_some ht).1, len_ascR]; exact (q_facts h ht).2.2.2
theorem PrOK.len {nd : List Nd} {tr : List (Nat × Nat)} {mp : List (List (Int × Nat))} {t : Nat} (h : PrOK nd tr mp t) : ∀ i, i ≤ (prA nd tr t).length → (prK nd tr mp t (prA nd tr t) i).length ≤ 4096 * i
  | 0, _ => Nat.le_refl 0
  | i + 1, hi => by
    have h1 := h.len i (by omega)
    have h2 := prJ_len (at2 (prA nd tr t) i 0) (qE (prQ nd tr mp t (at2 (prA nd tr t) i 0)) nd tr t) (qE (prQ nd tr mp t (at2 (prA nd tr t) i 0)) nd tr t).length
    have h3 := h.lq i (by omega)
    simp only [prK, List.length_append]
    omega
theorem prJ_1 {a : Int} {qs : List (List Int)} {j : Nat} (h : decide (a < at2 qs j 0) = true) : prJ a qs (j + 1) = prJ a qs j ++ [[a, at2 qs j 0]] := by simp only [prJ, h, cond_true]
theorem prJ_0 {a : Int} {qs : List (List Int)} {j : Nat} (h : decide (a < at2 qs j 0) = false) : prJ a qs (j + 1) = prJ a qs j := by simp only [prJ, h, cond_false]
theorem not_empty_b {T : Nd → Bool} {nd : List Nd} {tr : List (Nat × Nat)} {t i : Nat} (h : i < (prA nd tr t).length) : (!colB T FU nd (getT tr t).1 true) = true ∨ T ≠ allT := by
  by_cases e : T = allT
  · subst e
    left
    simp only [prA, len_ascR] at h
    simp only [colB, Bool.true_and, Bool.not_eq_true', List.isEmpty_eq_false_iff]
    intro e; rw [e] at h; exact absurd h (Nat.not_lt_zero _)
  · exact Or.inr e
theorem colB_not {nd : List Nd} {tr : List (Nat × Nat)} {t i : Nat} (h : i < (prA nd tr t).length) : (!colB allT FU nd (getT tr t).1 true) = true := (not_empty_b h).resolve_right (fun e => e rfl)
theorem qB_not {T : Nd → Bool} {nd : List Nd} {tr : List (Nat × Nat)} {t j : Nat} (h : j < (qE T nd tr t).length) : (!qB T nd tr t) = true := by
  cases ht : decide (t = 0) with
  | true => rw [(q_nil ht).1] at h; exact absurd h (Nat.not_lt_zero _)
  | false =>
    rw [(q_some ht).1, len_ascR] at h
    rw [(q_some ht).2]
    simp only [colB, Bool.true_and, Bool.not_eq_true', List.isEmpty_eq_false_iff]
    intro e; rw [e] at h; exact absurd h (Nat.not_lt_zero _)
end Go.Proofs.Ytkfaflhhkmkdjaa

namespace Go.Proofs.Ytkfaflhhkmkdjaa
open Fx Vx Bx Ev
set_option linter.unusedVariables false
set_option linter.unusedSimpArgs false

def clN (nd : List Nd) (n : Nat) : Nd := ⟨(getN nd n).b0, (getN nd n).b1, (getN nd n).b2, (getN nd n).b3, 0, 0, 0, (getN nd n).ht, (getN nd n).id⟩
def cloP (nd : List Nd) (n : Nat) : Nat := bif decide (n = 0) then 0 else nd.length + 1
def cloF (nd : List Nd) (m a b : Nat) : List Nd := wPar (wPar (wR (wL nd m a) m b) a m) b m
def cloN : Nat → List Nd → Nat → List Nd
  | 0, nd, _ => nd
  | k + 1, nd, n => bif decide (n = 0) then nd else bif decide ((getN nd n).l = 0) then nd ++ [clN nd n] else
      cloF (cloN k (cloN k (nd ++ [clN nd n]) (getN nd n).l) (getN nd n).r) (nd.length + 1) (cloP (nd ++ [clN nd n]) (getN nd n).l) (cloP (cloN k (nd ++ [clN nd n]) (getN nd n).l) (getN nd n).r)
def cloM : Nat → List Nd → Nat → List (List (Int × Nat)) → Nat → List (List (Int × Nat))
  | 0, _, _, mp, _ => mp
  | k + 1, nd, mi, mp, n => bif decide (n = 0) then mp else bif decide ((getN nd n).l = 0) then setM mp mi (putE (getM mp mi) (getN nd n).id (nd.length + 1)) else
      cloM k (cloN k (nd ++ [clN nd n]) (getN nd n).l) mi (cloM k (nd ++ [clN nd n]) mi mp (getN nd n).l) (getN nd n).r
def cloOK : Nat → List Nd → Nat → Bool
  | 0, _, _ => false
  | k + 1, nd, n => decide (n = 0) || (okN nd n && (Nat.ble (getN nd n).l nd.length && (decide ((getN nd n).l = 0) || (okN nd (getN nd n).r && (cloOK k (nd ++ [clN nd n]) (getN nd n).l && cloOK k (cloN k (nd ++ [clN nd n]) (getN nd n).l) (getN nd n).r)))))
theorem len_cloF (nd : List Nd) (m a b : Nat) : (cloF nd m a b).length = nd.length := by simp [cloF]
theorem len_cloN : ∀ (k : Nat) (nd : List Nd) (n : Nat), nd.length ≤ (cloN k nd n).length
  | 0, nd, n => Nat.le_refl _
  | k + 1, nd, n => by
    simp only [cloN, Bool.cond_decide]
    split
    · exact Nat.le_refl _
    · split
      · simp
      · rw [len_cloF]
        have h1 := len_cloN k (nd ++ [clN nd n]) (getN nd n).l
        have h2 := len_cloN k (cloN k (nd ++ [clN nd n]) (getN nd n).l) (getN nd n).r
        simp only [List.length_append] at h1
        omega
theorem len_cloN' {k : Nat} {nd : List Nd} {n : Nat} (hn : n ≠ 0) : nd.length + 1 ≤ (cloN (k + 1) nd n).length := by
  simp only [cloN, Bool.cond_decide, if_neg hn]
  split
  · simp
  · rw [len_cloF]
    have h1 := len_cloN k (nd ++ [clN nd n]) (getN nd n).l
    have h2 := len_cloN k (cloN k (nd ++ [clN nd n]) (getN nd n).l) (getN nd n).r
    simp only [List.length_append, List.length_cons, List.length_nil] at h1
    omega
theorem getN_app {nd : List Nd} {p : Nat} (x : List Nd) (h : 0 < p) (h2 : p ≤ nd.length) : getN (nd ++ x) p = getN nd p := by
  simp only [getN, List.getD_eq_getElem?_getD]
  rw [List.getElem?_append_left (by omega)]
theorem getN_new (nd : List Nd) (x : Nd) : getN (nd ++ [x]) (nd.length + 1) = x := by
  simp [getN]
theorem get_other {nd : List Nd} {p q : Nat} (x : Nd) (hp : 0 < p) (hq : 0 < q) (h : q ≠ p) : getN (setN nd p x) q = getN nd q := by
  rw [getN_setN, if_neg (by omega)]
theorem get_cloF {nd : List Nd} {m a b p : Nat} (h0 : 0 < p) (hm : 0 < m) (ha : 0 < a) (hb : 0 < b) (h1 : p ≠ m) (h2 : p ≠ a) (h3 : p ≠ b) : getN (cloF nd m a b) p = getN nd p := by
  simp only [cloF, wPar, wR, wL]
  rw [get_other _ hb h0 h3, get_other _ ha h0 h2, get_other _ hm h0 h1, get_other _ hm h0 h1]
theorem get_cloN : ∀ (k : Nat) {nd : List Nd} {n p : Nat}, 0 < p → p ≤ nd.length → cloOK k nd n = true → getN (cloN k nd n) p = getN nd p
  | 0, nd, n, p, _, _, _ => rfl
  | k + 1, nd, n, p, h0, h1, hok => by
    simp only [cloN, Bool.cond_decide]
    split
    · rfl
    · rename_i hn
      split
      · exact getN_app _ h0 h1
      · rename_i hl
        simp only [cloOK, Bool.or_eq_true, Bool.and_eq_true, decide_eq_true_eq, okN_iff, hn, hl, false_or] at hok
        obtain ⟨g1, g2, g3, g4, g5⟩ := hok
        have l1 := len_cloN k (nd ++ [clN nd n]) (getN nd n).l
        have l0 : (nd ++ [clN nd n]).length = nd.length + 1 := by simp
        rw [get_cloF h0 (by omega) (by simp [cloP, hl]) (by simp only [cloP, Bool.cond_decide, if_neg (show (getN nd n).r ≠ 0 by omega)]; omega) (by omega) (by simp only [cloP, Bool.cond_decide, if_neg hl]; omega) (by simp only [cloP, Bool.cond_decide, if_neg (show (getN nd n).r ≠ 0 by omega)]; omega),
          get_cloN k h0 (by omega) g5, get_cloN k h0 (by omega) g4, getN_app _ h0 h1]
theorem len_setM (mp : List (List (Int × Nat))) (i : Nat) (l : List (Int × Nat)) : (setM mp i l).length = mp.length := by simp [setM]
theorem len_cloM : ∀ (k : Nat) (nd : List Nd) (mi : Nat) (mp : List (List (Int × Nat))) (n : Nat), (cloM k nd mi mp n).length = mp.length
  | 0, nd, mi, mp, n => rfl
  | k + 1, nd, mi, mp, n => by
    simp only [cloM, Bool.cond_decide]
    split
    · rfl
    · split
      · simp [len_setM]
      · rw [len_cloM k, len_cloM k]
theorem clo_facts {k : Nat} {nd : List Nd} {n : Nat} (h : cloOK (k + 1) nd n = true) (hn : decide (n = 0) = false) : (0 < n ∧ n ≤ nd.length) ∧ (getN nd n).l ≤ nd.length ∧ (decide ((getN nd n).l = 0) = false → (0 < (getN nd n).r ∧ (getN nd n).r ≤ nd.length) ∧ cloOK k (nd ++ [clN nd n]) (getN nd n).l = true ∧ cloOK k (cloN k (nd ++ [clN nd n]) (getN nd n).l) (getN nd n).r = true) := by
  have hn' : n ≠ 0 := by simpa using hn
  simp only [cloOK, Bool.or_eq_true, Bool.and_eq_true, decide_eq_true_eq, okN_iff, hn', false_or, Nat.ble_eq] at h
  refine ⟨h.1, h.2.1, fun hl => ?_⟩
  have hl' : (getN nd n).l ≠ 0 := by simpa using hl
  have h3 := h.2.2.resolve_left hl'
  exact ⟨h3.1, h3.2.1, h3.2.2⟩
section
variable {k : Nat} {nd : List Nd} {mi : Nat} {mp : List (List (Int × Nat))} {n : Nat}
theorem clo_0 (hn : decide (n = 0) = true) : cloN (k + 1) nd n = nd ∧ cloM (k + 1) nd mi mp n = mp ∧ cloP nd n = 0 := by simp only [cloN, cloM, cloP, hn, cond_true, and_self]
theorem clo_1 (hn : decide (n = 0) = false) (hl : decide ((getN nd n).l = 0) = true) : cloN (k + 1) nd n = nd ++ [clN nd n] ∧ cloM (k + 1) nd mi mp n = setM mp mi (putE (getM mp mi) (getN nd n).id (nd.length + 1)) ∧ cloP nd n = nd.length + 1 := by simp only [cloN, cloM, cloP, hn, hl, cond_true, cond_false, and_self]
theorem clo_2 (hn : decide (n = 0) = false) (hl : decide ((getN nd n).l = 0) = false) : cloN (k + 1) nd n = cloF (cloN k (cloN k (nd ++ [clN nd n]) (getN nd n).l) (getN nd n).r) (nd.length + 1) (cloP (nd ++ [clN nd n]) (getN nd n).l) (cloP (cloN k (nd ++ [clN nd n]) (getN nd n).l) (getN nd n).r) ∧
    cloM (k + 1) nd mi mp n = cloM k (cloN k (nd ++ [clN nd n]) (getN nd n).l) mi (cloM k (nd ++ [clN nd n]) mi mp (getN nd n).l) (getN nd n).r ∧ cloP nd n = nd.length + 1 := by simp only [cloN, cloM, cloP, hn, hl, cond_false, and_self]
end
theorem cloP_pos {nd : List Nd} {n : Nat} (h : n ≠ 0) : cloP nd n = nd.length + 1 := by simp only [cloP, Bool.cond_decide, if_neg h]
theorem clo_get {nd : List Nd} {m a b : Nat} (h0 : 0 < m) (h1 : m ≤ nd.length) : (getN (wR (wL nd m a) m b) m).l = a ∧ (getN (wR (wL nd m a) m b) m).r = b := by
  have e1 : getN (wL nd m a) m = { getN nd m with l := a } := by rw [wL, getN_setN, if_pos ⟨rfl, by omega⟩]
  have e2 : getN (wR (wL nd m a) m b) m = { getN (wL nd m a) m with r := b } := by rw [wR, getN_setN, if_pos ⟨rfl, by rw [len_wL]; omega⟩]
  rw [e2, e1]
  exact ⟨rfl, rfl⟩
/- A clone of a tree. -/
def clT (tr : List (Nat × Nat)) (mp : List (List (Int × Nat))) : List (Nat × Nat) := tr ++ [(0, mp.length + 1)]
def clE (tr : List (Nat × Nat)) (t : Nat) : Nat := bif decide (t = 0) then 0 else tr.length + 1
def clNd (nd : List Nd) (tr : List (Nat × Nat)) (t : Nat) : List Nd := bif decide (t = 0) then nd else cloN FU nd (getT tr t).1
def clTr (nd : List Nd) (tr : List (Nat × Nat)) (mp : List (List (Int × Nat))) (t : Nat) : List (Nat × Nat) := bif decide (t = 0) then tr else wRoot (clT tr mp) (tr.length + 1) (cloP nd (getT tr t).1)
def clMp (nd : List Nd) (tr : List (Nat × Nat)) (mp : List (List (Int × Nat))) (t : Nat) : List (List (Int × Nat)) := bif decide (t = 0) then mp else cloM FU nd (mp.length + 1) (mp ++ [[]]) (getT tr t).1
def clOK (nd : List Nd) (tr : List (Nat × Nat)) (t : Nat) : Bool := decide (t = 0) || (okT tr t && (Nat.ble (getT tr t).1 nd.length && cloOK FU nd (getT tr t).1))
theorem getT_app {tr : List (Nat × Nat)} {p : Nat} (x : List (Nat × Nat)) (h : 0 < p) (h2 : p ≤ tr.length) : getT (tr ++ x) p = getT tr p := by
  simp only [getT, List.getD_eq_getElem?_getD]
  rw [List.getElem?_append_left (by omega)]
theorem getT_new (tr : List (Nat × Nat)) (x : Nat × Nat) : getT (tr ++ [x]) (tr.length + 1) = x := by simp [getT]
theorem cl_facts {nd : List Nd} {tr : List (Nat × Nat)} {t : Nat} (h : clOK nd tr t = true) (ht : decide (t = 0) = false) : (0 < t ∧ t ≤ tr.length) ∧ (getT tr t).1 ≤ nd.length ∧ cloOK FU nd (getT tr t).1 = true := by
  have key : ∀ z : Bool, (decide (t = 0) || (okT tr t && (Nat.ble (getT tr t).1 nd.length && z))) = true → (0 < t ∧ t ≤ tr.length) ∧ (getT tr t).1 ≤ nd.length ∧ z = true := fun z hz => by
    simpa only [ht, Bool.false_or, Bool.and_eq_true, okT_iff, Nat.ble_eq] using hz
  exact key _ h
theorem cond_of {α : Type} {c : Bool} {a b : α} (h : c = false) : cond c a b = b := by subst h; rfl
theorem cl_0 {nd : List Nd} {tr : List (Nat × Nat)} {mp : List (List (Int × Nat))} {t : Nat} (h : decide (t = 0) = true) : clE tr t = 0 ∧ clNd nd tr t = nd ∧ clTr nd tr mp t = tr ∧ clMp nd tr mp t = mp := by simp only [clE, clNd, clTr, clMp, h, cond_true, and_self]
theorem cl_1 {nd : List Nd} {tr : List (Nat × Nat)} {mp : List (List (Int × Nat))} {t : Nat} (h : decide (t = 0) = false) : clE tr t = tr.length + 1 ∧ clNd nd tr t = cloN FU nd (getT tr t).1 ∧ clTr nd tr mp t = wRoot (clT tr mp) (tr.length + 1) (cloP nd (getT tr t).1) ∧ clMp nd tr mp t = cloM FU nd (mp.length + 1) (mp ++ [[]]) (getT tr t).1 := ⟨cond_of h, cond_of h, cond_of h, cond_of h⟩
end Go.Proofs.Ytkfaflhhkmkdjaa

namespace Go.Proofs.Ytkfaflhhkmkdjaa
open Fx Vx Bx Ev
set_option linter.unusedVariables false
set_option linter.unusedSimpArgs false

/-- Rows of one number, from numbers. -/
def rw1 (l : List Int) : List (List Int) := l.map fun x => [x]
theorem len_rw1 (l : List Int) : (rw1 l).length = l.length := by simp [rw1]
theorem rw1_at (l : List Int) (i : Nat) : at2 (rw1 l) i 0 = l.getD i 0 := by
  simp only [at2, rw1, List.getD_eq_getElem?_getD, List.getElem?_map]
  cases l[i]? <;> rfl
theorem rw1_inj {a b : List Int} (h : rw1 a = rw1 b) : a = b := by
  have := congrArg (List.map fun x => List.getD x 0 0) h
  simpa [rw1, Function.comp_def] using this
theorem All1.rw1 (l : List Int) : All1 (rw1 l) := fun i h => by
  rw [len_rw1] at h
  simp [Proofs.Ytkfaflhhkmkdjaa.rw1, List.getD_eq_getElem?_getD, h]
theorem rw1_upd {l : List Int} {i : Nat} (v : Int) : upd2 (rw1 l) i 0 [v] = rw1 (l.set i v) := by
  apply List.ext_getElem?
  intro j
  simp only [upd2, rw1, List.getElem?_set, List.getElem?_map, List.length_map, List.getD_eq_getElem?_getD]
  split
  · rename_i e
    subst e
    split
    · rename_i h
      simp [h, setInts]
    · simp
  · rfl
def swp (l : List Int) (i c : Nat) : List Int := (l.set i (l.getD c 0)).set c (l.getD i 0)
theorem rw1_swp (l : List Int) (i c : Nat) : swpR (rw1 l) i c = rw1 (swp l i c) := by
  simp only [swpR, rw1_at, rw1_upd, swp]
def chI (l : List Int) (len c : Nat) : Nat := bif decide (c + 1 < len) && decide (l.getD (c + 1) 0 > l.getD c 0) then c + 1 else c
theorem rw1_ch (l : List Int) (len c : Nat) : chR (rw1 l) len c = chI l len c := by simp only [chR, chI, rw1_at]
def siftI : Nat → List Int → Nat → Nat → List Int
  | 0, xs, _, _ => xs
  | k + 1, xs, len, i => bif decide (len ≤ 2 * i + 1) then xs else bif decide (xs.getD i 0 ≥ xs.getD (chI xs len (2 * i + 1)) 0) then xs else siftI k (swp xs i (chI xs len (2 * i + 1))) len (chI xs len (2 * i + 1))
theorem rw1_sift : ∀ (k : Nat) (l : List Int) (len i : Nat), siftR k (rw1 l) len i = rw1 (siftI k l len i)
  | 0, l, len, i => rfl
  | k + 1, l, len, i => by
    simp only [siftR, siftI, rw1_at, rw1_ch, rw1_swp, rw1_sift k, Bool.cond_decide]
    split
    · rfl
    · split <;> rfl
def hpI : Nat → List Int → List Int
  | 0, xs => xs
  | k + 1, xs => hpI k (siftI xs.length xs xs.length k)
def srI : Nat → List Int → List Int
  | 0, xs => xs
  | n + 1, xs => srI n (siftI (n + 1) (swp xs 0 (n + 1)) (n + 1) 0)
def ascI (xs : List Int) : List Int := srI (xs.length - 1) (hpI (xs.length / 2) xs)
theorem rw1_hp : ∀ (k : Nat) (l : List Int), hpR k (rw1 l) = rw1 (hpI k l)
  | 0, l => rfl
  | k + 1, l => by simp only [hpR, hpI, len_rw1, rw1_sift, rw1_hp k]
theorem rw1_sr : ∀ (k : Nat) (l : List Int), srR k (rw1 l) = rw1 (srI k l)
  | 0, l => rfl
  | k + 1, l => by simp only [srR, srI, rw1_swp, rw1_sift, rw1_sr k]
theorem rw1_asc (l : List Int) : ascR (rw1 l) = rw1 (ascI l) := by simp only [ascR, ascI, len_rw1, rw1_hp, rw1_sr]

/- What a swap does. -/
theorem len_swp (l : List Int) (i c : Nat) : (swp l i c).length = l.length := by simp [swp]
theorem swp_at {l : List Int} {i c : Nat} (hi : i < l.length) (hc : c < l.length) (j : Nat) : (swp l i c).getD j 0 = if j = c then l.getD i 0 else if j = i then l.getD c 0 else l.getD j 0 := by
  simp only [swp, List.getD_eq_getElem?_getD, List.getElem?_set, List.length_set]
  by_cases h1 : j = c
  · subst h1; simp [hc]
  · rw [if_neg (fun e => h1 e.symm), if_neg h1]
    by_cases h2 : j = i
    · subst h2; simp [hi]
    · rw [if_neg (fun e => h2 e.symm), if_neg h2]
theorem swp_perm {l : List Int} {i c : Nat} (hi : i < l.length) (hc : c < l.length) : (swp l i c).Perm l := by
  have := List.set_set_perm hi hc
  have e1 : l.getD c 0 = l[c] := by simp [List.getD_eq_getElem?_getD, hc]
  have e2 : l.getD i 0 = l[i] := by simp [List.getD_eq_getElem?_getD, hi]
  rw [swp, e1, e2]
  exact this

theorem chI_spec (l : List Int) {len c : Nat} (h : c < len) : (chI l len c = c ∨ chI l len c = c + 1) ∧ chI l len c < len ∧ l.getD c 0 ≤ l.getD (chI l len c) 0 ∧ (c + 1 < len → l.getD (c + 1) 0 ≤ l.getD (chI l len c) 0) := by
  simp only [chI]
  cases h1 : decide (c + 1 < len) && decide (l.getD (c + 1) 0 > l.getD c 0) with
  | true =>
    simp only [Bool.and_eq_true, decide_eq_true_eq] at h1
    exact ⟨Or.inr rfl, h1.1, by simp only [cond_true]; omega, fun _ => Int.le_refl _⟩
  | false =>
    refine ⟨Or.inl rfl, h, Int.le_refl _, fun h2 => ?_⟩
    simp only [Bool.and_eq_false_iff, decide_eq_false_iff_not] at h1
    simp only [cond_false]
    rcases h1 with h1 | h1 <;> omega

/-- c is a child of j. -/
def Chd (j c : Nat) : Prop := c = 2 * j + 1 ∨ c = 2 * j + 2
/-- From s on, no child is larger than its parent. -/
def Heap (l : List Int) (len s : Nat) : Prop := ∀ j c, s ≤ j → Chd j c → c < len → l.getD c 0 ≤ l.getD j 0

structure Sifted (l l' : List Int) (n s : Nat) : Prop where
  len : l'.length = l.length
  perm : l'.Perm l
  heap : Heap l' n s
  out : ∀ j, n ≤ j → l'.getD j 0 = l.getD j 0
  bnd : ∀ v, (∀ j, j < n → l.getD j 0 ≤ v) → ∀ j, j < n → l'.getD j 0 ≤ v

theorem siftI_ok : ∀ (k : Nat) (l : List Int) (len i s : Nat), len ≤ l.length → len ≤ k + i → s ≤ i →
    (∀ j c, s ≤ j → j ≠ i → Chd j c → c < len → l.getD c 0 ≤ l.getD j 0) →
    (∀ j, s ≤ j → Chd j i → ∀ c, Chd i c → c < len → l.getD c 0 ≤ l.getD j 0) → Sifted l (siftI k l len i) len s
  | 0, l, len, i, s, hl, hk, hs, h1, h2 => by
    refine ⟨rfl, List.Perm.refl _, fun j c hj hc hlt => ?_, fun j _ => rfl, fun v h => h⟩
    by_cases e : j = i
    · subst e; unfold Chd at hc; omega
    · exact h1 j c hj e hc hlt
  | k + 1, l, len, i, s, hl, hk, hs, h1, h2 => by
    simp only [siftI, Bool.cond_decide]
    split
    · rename_i hlt0
      refine ⟨rfl, List.Perm.refl _, fun j c hj hc hlt => ?_, fun j _ => rfl, fun v h => h⟩
      by_cases e : j = i
      · subst e; unfold Chd at hc; omega
      · exact h1 j c hj e hc hlt
    · rename_i hlt0
      obtain ⟨c1, c2, c3, c4⟩ := chI_spec l (show 2 * i + 1 < len by omega)
      generalize chI l len (2 * i + 1) = c at c1 c2 c3 c4 ⊢
      split
      · rename_i hge
        refine ⟨rfl, List.Perm.refl _, fun j d hj hc hlt => ?_, fun j _ => rfl, fun v h => h⟩
        by_cases e : j = i
        · subst e
          rcases hc with rfl | rfl
          · omega
          · have := c4 hlt
            show l.getD (2 * j + 1 + 1) 0 ≤ _
            omega
        · exact h1 j d hj e hc hlt
      · rename_i hge
        have hi : i < l.length := by omega
        have hc : c < l.length := by omega
        have hic : i ≠ c := by omega
        have hat := fun j => swp_at hi hc j
        have hci : Chd i c := by unfold Chd; omega
        have ih := siftI_ok k (swp l i c) len c s (by rw [len_swp]; exact hl) (by omega) (by omega)
          (fun j d hj hjc hd hdl => by
            rw [hat d, hat j, if_neg hjc]
            by_cases e : j = i
            · subst e
              rw [if_pos rfl]
              split
              · omega
              · rename_i hdc
                rw [if_neg (by unfold Chd at hd; omega)]
                rcases hd with rfl | rfl
                · exact c3
                · exact c4 hdl
            · rw [if_neg e, if_neg (fun e' => e (by subst e'; unfold Chd at hd hci; omega))]
              split
              · rename_i e'; subst e'; exact h2 j hj hd c hci c2
              · exact h1 j d hj e hd hdl)
          (fun j hj hjc d hd hdl => by
            have e : j = i := by unfold Chd at hjc hci; omega
            subst e
            rw [hat d, hat j, if_neg hic, if_pos rfl, if_neg (by unfold Chd at hd; omega), if_neg (by unfold Chd at hd; omega)]
            exact h1 c d (by omega) (fun e => hic e.symm) hd hdl)
        refine ⟨ih.len.trans (len_swp _ _ _), ih.perm.trans (swp_perm hi hc), ih.heap, fun j hj => ?_, fun v h => ih.bnd v fun j hj => ?_⟩
        · rw [ih.out j hj, hat j, if_neg (by omega), if_neg (by omega)]
        · rw [hat j]
          split
          · exact h i (by omega)
          · split
            · exact h c c2
            · exact h j hj

theorem hpI_ok : ∀ (k : Nat) (l : List Int), Heap l l.length k → Sifted l (hpI k l) l.length 0
  | 0, l, h => ⟨rfl, List.Perm.refl _, h, fun j _ => rfl, fun v h => h⟩
  | k + 1, l, h => by
    have s := siftI_ok l.length l l.length k k (Nat.le_refl _) (by omega) (Nat.le_refl _) (fun j c hj hne hc hlt => h j c (by omega) hc hlt) (fun j hj hc => by unfold Chd at hc; omega)
    have r := hpI_ok k (siftI l.length l l.length k) (by rw [s.len]; exact s.heap)
    rw [s.len] at r
    exact ⟨r.len.trans s.len, r.perm.trans s.perm, r.heap, fun j hj => (r.out j hj).trans (s.out j hj), fun v h => r.bnd v (s.bnd v h)⟩

theorem heap_top {l : List Int} {len : Nat} (h : Heap l len 0) : ∀ (n j : Nat), j ≤ n → j < len → l.getD j 0 ≤ l.getD 0 0
  | 0, j, h1, _ => by obtain rfl : j = 0 := by omega
                      exact Int.le_refl _
  | n + 1, j, h1, h2 => by
    by_cases e : j = 0
    · subst e; exact Int.le_refl _
    · have := h ((j - 1) / 2) j (Nat.zero_le _) (by unfold Chd; omega) h2
      have := heap_top h n ((j - 1) / 2) (by omega) (by omega)
      omega

theorem srI_ok : ∀ (n : Nat) (l : List Int), n < l.length → Heap l (n + 1) 0 → (∀ i j, i ≤ n → n < j → j < l.length → l.getD i 0 ≤ l.getD j 0) → (∀ i j, n < i → i < j → j < l.length → l.getD i 0 ≤ l.getD j 0) →
    (srI n l).length = l.length ∧ (srI n l).Perm l ∧ ∀ i j, i < j → j < l.length → (srI n l).getD i 0 ≤ (srI n l).getD j 0
  | 0, l, hn, hp, h1, h2 => ⟨rfl, List.Perm.refl _, fun i j hij hj => by
      by_cases e : i = 0
      · exact h1 i j (by omega) (by omega) hj
      · exact h2 i j (by omega) hij hj⟩
  | n + 1, l, hn, hp, h1, h2 => by
    have hat := fun j => swp_at (l := l) (i := 0) (c := n + 1) (by omega) hn j
    have s := siftI_ok (n + 1) (swp l 0 (n + 1)) (n + 1) 0 0 (by rw [len_swp]; omega) (by omega) (Nat.le_refl _)
      (fun j c _ hne hc hlt => by
        have hc0 : c ≠ 0 := by unfold Chd at hc; omega
        have hj : j < c := by unfold Chd at hc; omega
        rw [hat c, hat j, if_neg (by omega), if_neg hc0, if_neg (by omega), if_neg hne]
        exact hp j c (Nat.zero_le _) hc (by omega))
      (fun j _ hc => by unfold Chd at hc; omega)
    have hlen : (siftI (n + 1) (swp l 0 (n + 1)) (n + 1) 0).length = l.length := s.len.trans (len_swp _ _ _)
    have top := heap_top hp
    have hout : ∀ j, n + 1 ≤ j → (siftI (n + 1) (swp l 0 (n + 1)) (n + 1) 0).getD j 0 = if j = n + 1 then l.getD 0 0 else l.getD j 0 := fun j hj => by
      rw [s.out j hj, hat j]
      split
      · rfl
      · rw [if_neg (by omega)]
    have hin : ∀ v, (∀ j, j ≤ n + 1 → l.getD j 0 ≤ v) → ∀ j, j < n + 1 → (siftI (n + 1) (swp l 0 (n + 1)) (n + 1) 0).getD j 0 ≤ v := fun v hv => s.bnd v fun j hj => by
      rw [hat j, if_neg (by omega)]
      split
      · exact hv _ (Nat.le_refl _)
      · exact hv j (by omega)
    have ih := srI_ok n (siftI (n + 1) (swp l 0 (n + 1)) (n + 1) 0) (by omega) s.heap
      (fun i j hi hj hjl => by
        rw [hout j (by omega)]
        refine hin _ (fun x hx => ?_) i (by omega)
        split
        · exact top x x (Nat.le_refl _) (by omega)
        · exact h1 x j hx (by omega) (by omega))
      (fun i j hi hij hjl => by
        rw [hout i (by omega), hout j (by omega), if_neg (show j ≠ n + 1 by omega)]
        split
        · exact h1 0 j (by omega) (by omega) (by omega)
        · exact h2 i j (by omega) hij (by omega))
    refine ⟨ih.1.trans hlen, ih.2.1.trans (s.perm.trans (swp_perm (by omega) hn)), fun i j hij hj => ih.2.2 i j hij (by omega)⟩

theorem ascI_ok (l : List Int) : (ascI l).Perm l ∧ (ascI l).Pairwise (· ≤ ·) := by
  have h := hpI_ok (l.length / 2) l (fun j c hj hc hlt => by unfold Chd at hc; omega)
  unfold ascI
  cases hl : l.length with
  | zero =>
    have : l = [] := List.length_eq_zero_iff.1 hl
    subst this
    exact ⟨List.Perm.refl _, List.Pairwise.nil⟩
  | succ n =>
    rw [hl] at h
    have r := srI_ok n (hpI ((n + 1) / 2) l) (by rw [h.len]; omega) h.heap (fun i j hi hj hjl => by rw [h.len] at hjl; omega) (fun i j hi hij hjl => by rw [h.len] at hjl; omega)
    rw [show n + 1 - 1 = n by omega]
    refine ⟨r.2.1.trans h.perm, List.pairwise_iff_getElem.2 fun i j hi hj hij => ?_⟩
    have := r.2.2 i j hij (by rw [← r.1]; exact hj)
    rw [List.getD_eq_getElem?_getD, List.getD_eq_getElem?_getD, List.getElem?_eq_getElem hi, List.getElem?_eq_getElem hj] at this
    exact this
/-- A sorted list is told by its elements. -/
theorem sorted_eq : ∀ {a b : List Int}, a.Perm b → a.Pairwise (· ≤ ·) → b.Pairwise (· ≤ ·) → a = b := fun h ha hb =>
  h.eq_of_pairwise (le := (· ≤ ·)) (fun x y _ _ h1 h2 => Int.le_antisymm h1 h2) ha hb
theorem ascI_eq {l s : List Int} (h : s.Perm l) (hs : s.Pairwise (· ≤ ·)) : ascI l = s := sorted_eq ((ascI_ok l).1.trans h.symm) (ascI_ok l).2 hs
end Go.Proofs.Ytkfaflhhkmkdjaa

namespace Go.Proofs.Ytkfaflhhkmkdjaa
open Fx Vx Bx Ev
set_option linter.unusedVariables false
set_option linter.unusedSimpArgs false

def eqK (xs ys : List (List Int)) : Nat → Bool
  | 0 => true
  | k + 1 => eqK xs ys k && decide (at2 xs k 0 = at2 ys k 0)
def eqI (xs ys : List (List Int)) : Bool := decide (xs.length = ys.length) && eqK xs ys xs.length
def eqK2 (xs ys : List (List Int)) : Nat → Bool
  | 0 => true
  | k + 1 => eqK2 xs ys k && (decide (at2 xs k 0 = at2 ys k 0) && decide (at2 xs k 1 = at2 ys k 1))
def eqP (xs ys : List (List Int)) : Bool := decide (xs.length = ys.length) && eqK2 xs ys xs.length
theorem eqK_all {xs ys : List (List Int)} : ∀ {k : Nat}, eqK xs ys k = true ↔ ∀ i, i < k → at2 xs i 0 = at2 ys i 0
  | 0 => by simp [eqK]
  | k + 1 => by
    simp only [eqK, Bool.and_eq_true, decide_eq_true_eq, eqK_all]
    exact ⟨fun h i hi => if e : i = k then e ▸ h.2 else h.1 i (by omega), fun h => ⟨fun i hi => h i (by omega), h k (by omega)⟩⟩
theorem eqK2_all {xs ys : List (List Int)} : ∀ {k : Nat}, eqK2 xs ys k = true ↔ ∀ i, i < k → at2 xs i 0 = at2 ys i 0 ∧ at2 xs i 1 = at2 ys i 1
  | 0 => by simp [eqK2]
  | k + 1 => by
    simp only [eqK2, Bool.and_eq_true, decide_eq_true_eq, eqK2_all]
    exact ⟨fun h i hi => if e : i = k then e ▸ h.2 else h.1 i (by omega), fun h => ⟨fun i hi => h i (by omega), h k (by omega)⟩⟩
theorem eqI_refl (xs : List (List Int)) : eqI xs xs = true := by simp [eqI, eqK_all]
theorem eqP_refl (xs : List (List Int)) : eqP xs xs = true := by simp [eqP, eqK2_all]
theorem eqI_no {xs ys : List (List Int)} (h : ¬ xs.length = ys.length) : eqI xs ys = false := by simp [eqI, h]
theorem eqP_no {xs ys : List (List Int)} (h : ¬ xs.length = ys.length) : eqP xs ys = false := by simp [eqP, h]
theorem eqI_yes {xs ys : List (List Int)} (h : xs.length = ys.length) (h2 : eqK xs ys xs.length = true) : eqI xs ys = true := by rw [eqI, h2, decide_eq_true h]; rfl
theorem eqP_yes {xs ys : List (List Int)} (h : xs.length = ys.length) (h2 : eqK2 xs ys xs.length = true) : eqP xs ys = true := by rw [eqP, h2, decide_eq_true h]; rfl
theorem eqI_at {xs ys : List (List Int)} {k : Nat} (hk : k < xs.length) (h2 : at2 xs k 0 ≠ at2 ys k 0) : eqI xs ys = false := by
  have : ¬ eqK xs ys xs.length = true := fun h => h2 (eqK_all.1 h k hk)
  simp [eqI, this]
theorem eqP_at {xs ys : List (List Int)} {k : Nat} (hk : k < xs.length) (h2 : ¬ (at2 xs k 0 = at2 ys k 0 ∧ at2 xs k 1 = at2 ys k 1)) : eqP xs ys = false := by
  have : ¬ eqK2 xs ys xs.length = true := fun h => h2 (eqK2_all.1 h k hk)
  simp [eqP, this]
theorem eqK_step {xs ys : List (List Int)} {k : Nat} (h : eqK xs ys k = true) (h2 : at2 xs k 0 = at2 ys k 0) : eqK xs ys (k + 1) = true := by simp [eqK, h, h2]
theorem eqK2_step {xs ys : List (List Int)} {k : Nat} (h : eqK2 xs ys k = true) (h2 : at2 xs k 0 = at2 ys k 0 ∧ at2 xs k 1 = at2 ys k 1) : eqK2 xs ys (k + 1) = true := by simp [eqK2, h, h2]
/-- Binary digits. -/
def digN (n : Nat) : Nat := if n = 0 then 0 else Nat.log2 n + 1
theorem digN_half {n : Nat} (h : n ≠ 0) : digN n = digN (n / 2) + 1 := by
  unfold digN
  rw [if_neg h]
  by_cases h2 : 2 ≤ n
  · rw [Nat.log2_def, if_pos h2, if_neg (by omega)]
  · obtain rfl : n = 1 := by omega
    decide
theorem digN_low : ∀ (n k : Nat), 2 ^ k ≤ n → k + 1 ≤ digN n := fun n k h => by
  have h0 : n ≠ 0 := fun e => by have := Nat.pow_pos (n := k) (show 0 < 2 by decide); omega
  unfold digN
  rw [if_neg h0]
  have := (Nat.le_log2 h0).2 h
  omega
theorem digN_le : ∀ n : Nat, digN n ≤ n := fun n => by
  unfold digN
  split
  · exact Nat.zero_le _
  · rename_i h
    have := (Nat.log2_lt h).2 (Nat.lt_two_pow_self (n := n))
    omega
end Go.Proofs.Ytkfaflhhkmkdjaa
