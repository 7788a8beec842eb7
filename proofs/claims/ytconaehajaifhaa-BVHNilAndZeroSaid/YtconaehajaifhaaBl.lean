/- Two trees in one store; the law of the order, in plain Lean. No program in sight. -/
import Derived.Test.YtconaehajaifhaaBk
namespace Go.Proofs.Ytconaehajaifhaa
open Fx Vx Bx Ev
set_option linter.unusedVariables false
set_option linter.unusedSimpArgs false

structure Two (nd : List Nd) (tr : List (Nat × Nat)) (mp : List (List (Int × Nat))) (s t : Nat) (oS : Option BT) (MS : List En) (oT : Option BT) (MT : List En) : Prop where
  a : Rp nd tr mp s oS MS
  b : Rp nd tr mp t oT MT
  ne : s ≠ t
  dj : ∀ q ∈ fpO oS, q ∉ fpO oT
  mpn : (getT tr s).2 = 0 ∨ (getT tr s).2 ≠ (getT tr t).2
section
variable {nd nd' : List Nd} {tr tr' : List (Nat × Nat)} {mp mp' : List (List (Int × Nat))} {s t : Nat} {oS oT oT' : Option BT} {MS MT MT' : List En}
theorem Two.symm (h : Two nd tr mp s t oS MS oT MT) : Two nd tr mp t s oT MT oS MS :=
  ⟨h.b, h.a, h.ne.symm, fun q h1 h2 => h.dj q h2 h1, by rcases h.mpn with e | e <;> omega⟩
theorem Two.step (h : Two nd tr mp s t oS MS oT MT) (r : Rp nd' tr' mp' t oT' MT') (f : Fra nd tr mp nd' tr' mp' t oT oT') : Two nd' tr' mp' s t oS MS oT' MT' :=
  ⟨h.a.keep f h.ne h.dj h.mpn, r, h.ne, fun q h1 h2 => by
    rcases f.fp q h2 with h3 | h3
    · exact h.dj q h1 h3
    · have := (h.a.good.le q h1).2; omega, by
    rw [f.tro s h.a.t0.1 h.ne]
    have h1 := h.a.mi
    rcases h.mpn with e | e
    · exact Or.inl e
    · rcases f.mi with e2 | e2
      · rw [e2]; exact Or.inr e
      · exact Or.inr (by omega)⟩
end
theorem two_new : Two [] [(0, 1), (0, 2)] [[], []] 1 2 none [] none [] :=
  ⟨(Rp.new [] [] []).keep_new, Rp.new [] [(0, 1)] [[]], by decide, (fun q h => by cases h), Or.inr (by decide)⟩

/- The boxes that are valid, by their places. -/
def bx (xs : List (List Int)) (i : Nat) : En := ⟨(i : Int), at2 xs i 0, at2 xs i 1, at2 xs i 2, at2 xs i 3⟩
def vx (xs : List (List Int)) (i : Nat) : Bool := validB (at2 xs i 0) (at2 xs i 1) (at2 xs i 2) (at2 xs i 3)
def mR (xs : List (List Int)) (a : Nat) : Nat → List En
  | 0 => []
  | m + 1 => mR xs a m ++ (if vx xs (a + m) = true then [bx xs (a + m)] else [])
theorem mR_cons (xs : List (List Int)) (a : Nat) : ∀ m, mR xs a (m + 1) = (if vx xs a = true then [bx xs a] else []) ++ mR xs (a + 1) m
  | 0 => by simp [mR]
  | m + 1 => by
    rw [mR, mR_cons xs a m, List.append_assoc]
    show _ = _ ++ (mR xs (a + 1) m ++ _)
    rw [show a + (m + 1) = a + 1 + m by omega]
theorem mR_ids (xs : List (List Int)) (a : Nat) : ∀ m, ∀ e ∈ mR xs a m, (a : Int) ≤ e.id ∧ e.id < (a : Int) + (m : Int)
  | 0, e, h => by cases h
  | m + 1, e, h => by
    rw [mR] at h
    rcases List.mem_append.1 h with h | h
    · have := mR_ids xs a m e h; omega
    · split at h
      · obtain rfl := List.mem_singleton.1 h
        show (a : Int) ≤ ((a + m : Nat) : Int) ∧ ((a + m : Nat) : Int) < _
        omega
      · cases h
theorem mR_len (xs : List (List Int)) (a : Nat) : ∀ m, (mR xs a m).length ≤ m
  | 0 => Nat.le_refl _
  | m + 1 => by
    have := mR_len xs a m
    rw [mR, List.length_append]
    split <;> simp <;> omega
theorem hasM_lt {M : List En} {id : Int} (h : ∀ e ∈ M, e.id ≠ id) : hasM M id = false := by
  cases hh : hasM M id with
  | false => rfl
  | true =>
    obtain ⟨e, he, e'⟩ := List.mem_map.1 (hasM_iff.1 hh)
    exact absurd e' (h e he)
theorem insM_end {e : En} : ∀ {M : List En}, (∀ x ∈ M, x.id < e.id) → insM e M = M ++ [e]
  | [], _ => rfl
  | x :: M, h => by
    have := h x (by simp)
    simp only [insM]
    rw [if_neg (by omega), insM_end (M := M) fun y hy => h y (by simp [hy])]; rfl
theorem insM_first {e : En} : ∀ {M : List En}, (∀ x ∈ M, e.id < x.id) → insM e M = e :: M
  | [], _ => rfl
  | x :: M, h => by
    have := h x (by simp)
    simp only [insM]
    rw [if_pos (by omega)]
/-- What an insertion does to the boxes. -/
def inB (id a b c d : Int) (M : List En) : List En := if validB a b c d = true ∧ hasM M id = false ∧ M.length < 4096 then insM ⟨id, a, b, c, d⟩ M else M
def upB (id a b c d : Int) (M : List En) : List En := if validB a b c d = true ∧ hasM M id = true then insM ⟨id, a, b, c, d⟩ (delM id M) else M
theorem inB_up (xs : List (List Int)) {i : Nat} (hi : i ≤ 100) : inB (i : Int) (at2 xs i 0) (at2 xs i 1) (at2 xs i 2) (at2 xs i 3) (mR xs 0 i) = mR xs 0 (i + 1) := by
  have hh : hasM (mR xs 0 i) (i : Int) = false := hasM_lt fun e he => by have := mR_ids xs 0 i e he; omega
  have hl := mR_len xs 0 i
  have h1 : mR xs 0 (i + 1) = mR xs 0 i ++ (if vx xs i = true then [bx xs i] else []) := by rw [mR, Nat.zero_add]
  rw [h1]
  unfold inB
  by_cases hv : vx xs i = true
  · rw [if_pos ⟨hv, hh, by omega⟩, if_pos hv]
    exact insM_end (e := bx xs i) fun x hx => by have := mR_ids xs 0 i x hx; show x.id < (i : Int); omega
  · rw [if_neg (fun h => hv h.1), if_neg hv, List.append_nil]
/-- One round of the second tree: a stranger in, the number itself with another box, the stranger out, the right box. -/
def roundM (xs : List (List Int)) (i : Nat) (p q r s : Int) (M : List En) : List En :=
  let M3 := delM (-1 - (i : Int)) (inB (i : Int) p q r s (inB (-1 - (i : Int)) (at2 xs i 0) (at2 xs i 1) (at2 xs i 2) (at2 xs i 3) M))
  M3
theorem delM_cons (id : Int) (e : En) (M : List En) : delM id (e :: M) = if e.id = id then delM id M else e :: delM id M := by
  simp only [delM, List.filter_cons]
  by_cases h : e.id = id
  · simp [h]
  · simp [h]
theorem hasM_cons (id : Int) (e : En) (M : List En) : hasM (e :: M) id = (decide (e.id = id) || hasM M id) := rfl
/-- Behind the three steps: the rest, and perhaps the number with another box. -/
theorem round3 (xs : List (List Int)) {i m : Nat} (hm : m ≤ 100) (p q r s : Int) : roundM xs i p q r s (mR xs (i + 1) m) = (if validB p q r s = true then [⟨(i : Int), p, q, r, s⟩] else []) ++ mR xs (i + 1) m := by
  have hid := mR_ids xs (i + 1) m
  have hl := mR_len xs (i + 1) m
  generalize mR xs (i + 1) m = M at hid hl ⊢
  have n1 : hasM M (-1 - (i : Int)) = false := hasM_lt fun e he => by have := hid e he; omega
  have n2 : hasM M (i : Int) = false := hasM_lt fun e he => by have := hid e he; omega
  have d1 : delM (-1 - (i : Int)) M = M := delM_no n1
  have hx : ∀ x ∈ M, (-1 - (i : Int)) < x.id := fun e he => by have := hid e he; omega
  have hy : ∀ x ∈ M, (i : Int) < x.id := fun e he => by have := hid e he; omega
  have f1 : ∀ a b c d : Int, insM ⟨-1 - (i : Int), a, b, c, d⟩ M = ⟨-1 - (i : Int), a, b, c, d⟩ :: M := fun a b c d => insM_first hx
  have f2 : insM ⟨(i : Int), p, q, r, s⟩ M = ⟨(i : Int), p, q, r, s⟩ :: M := insM_first hy
  have g1 : ¬ (-1 - (i : Int)) = (i : Int) := by omega
  have g2 : ¬ (i : Int) = (-1 - (i : Int)) := by omega
  have g3 : ¬ (i : Int) < (-1 - (i : Int)) := by omega
  have e1 : inB (-1 - (i : Int)) (at2 xs i 0) (at2 xs i 1) (at2 xs i 2) (at2 xs i 3) M = if vx xs i = true then ⟨-1 - (i : Int), at2 xs i 0, at2 xs i 1, at2 xs i 2, at2 xs i 3⟩ :: M else M := by
    unfold inB
    by_cases h1 : vx xs i = true
    · rw [if_pos ⟨h1, n1, by omega⟩, if_pos h1, f1]
    · rw [if_neg (fun h => h1 h.1), if_neg h1]
  unfold roundM
  dsimp only
  rw [e1]
  by_cases h2 : validB p q r s = true
  · rw [if_pos h2]
    by_cases h1 : vx xs i = true
    · rw [if_pos h1]
      have e2 : inB (i : Int) p q r s (⟨-1 - (i : Int), at2 xs i 0, at2 xs i 1, at2 xs i 2, at2 xs i 3⟩ :: M) = ⟨-1 - (i : Int), at2 xs i 0, at2 xs i 1, at2 xs i 2, at2 xs i 3⟩ :: ⟨(i : Int), p, q, r, s⟩ :: M := by
        unfold inB
        rw [if_pos ⟨h2, by rw [hasM_cons, n2]; simp [g1], by simp; omega⟩]
        simp only [insM]
        rw [if_neg g3, f2]
      rw [e2, delM_cons, if_pos rfl, delM_cons, if_neg g2, d1]; rfl
    · rw [if_neg h1]
      have e2 : inB (i : Int) p q r s M = ⟨(i : Int), p, q, r, s⟩ :: M := by
        unfold inB
        rw [if_pos ⟨h2, n2, by omega⟩, f2]
      rw [e2, delM_cons, if_neg g2, d1]; rfl
  · rw [if_neg h2]
    have e2 : ∀ N, inB (i : Int) p q r s N = N := fun N => if_neg (fun h => h2 h.1)
    rw [e2]
    by_cases h1 : vx xs i = true
    · rw [if_pos h1, delM_cons, if_pos rfl, d1]; rfl
    · rw [if_neg h1, d1]; rfl
/-- The box put right. -/
theorem round4 (xs : List (List Int)) {i m : Nat} (hm : m ≤ 100) (p q r s : Int) : ((if validB p q r s = true then [(⟨(i : Int), p, q, r, s⟩ : En)] else []) ++ mR xs (i + 1) m).length ≤ 101 ∧
    (vx xs i = true → hasM ((if validB p q r s = true then [(⟨(i : Int), p, q, r, s⟩ : En)] else []) ++ mR xs (i + 1) m) (i : Int) = true →
      upB (i : Int) (at2 xs i 0) (at2 xs i 1) (at2 xs i 2) (at2 xs i 3) ((if validB p q r s = true then [(⟨(i : Int), p, q, r, s⟩ : En)] else []) ++ mR xs (i + 1) m) = mR xs i (m + 1)) ∧
    (¬ (vx xs i = true ∧ hasM ((if validB p q r s = true then [(⟨(i : Int), p, q, r, s⟩ : En)] else []) ++ mR xs (i + 1) m) (i : Int) = true) →
      inB (i : Int) (at2 xs i 0) (at2 xs i 1) (at2 xs i 2) (at2 xs i 3) (delM (i : Int) (upB (i : Int) (at2 xs i 0) (at2 xs i 1) (at2 xs i 2) (at2 xs i 3) ((if validB p q r s = true then [(⟨(i : Int), p, q, r, s⟩ : En)] else []) ++ mR xs (i + 1) m))) = mR xs i (m + 1)) := by
  have hid := mR_ids xs (i + 1) m
  have hl := mR_len xs (i + 1) m
  rw [mR_cons]
  generalize mR xs (i + 1) m = M at hid hl ⊢
  have n2 : hasM M (i : Int) = false := hasM_lt fun e he => by have := hid e he; omega
  have hy : ∀ x ∈ M, (i : Int) < x.id := fun e he => by have := hid e he; omega
  have d2 : delM (i : Int) M = M := delM_no n2
  have f2 : insM ⟨(i : Int), at2 xs i 0, at2 xs i 1, at2 xs i 2, at2 xs i 3⟩ M = bx xs i :: M := insM_first (e := bx xs i) hy
  have hv' : (vx xs i = true) = (validB (at2 xs i 0) (at2 xs i 1) (at2 xs i 2) (at2 xs i 3) = true) := rfl
  have d3 : delM (i : Int) ((if validB p q r s = true then [(⟨(i : Int), p, q, r, s⟩ : En)] else []) ++ M) = M := by
    split
    · show delM _ (_ :: M) = _
      rw [delM_cons, if_pos rfl, d2]
    · exact d2
  refine ⟨?_, fun h1 h2 => ?_, fun h => ?_⟩
  · rw [List.length_append]
    split <;> simp <;> omega
  · unfold upB
    rw [if_pos ⟨h1, h2⟩, d3, f2, if_pos h1]; rfl
  · have hup : upB (i : Int) (at2 xs i 0) (at2 xs i 1) (at2 xs i 2) (at2 xs i 3) ((if validB p q r s = true then [(⟨(i : Int), p, q, r, s⟩ : En)] else []) ++ M) = (if validB p q r s = true then [(⟨(i : Int), p, q, r, s⟩ : En)] else []) ++ M := by
      unfold upB
      exact if_neg h
    rw [hup, d3]
    unfold inB
    by_cases h1 : vx xs i = true
    · rw [if_pos ⟨h1, n2, by omega⟩, f2, if_pos h1]; rfl
    · rw [if_neg (fun h => h1 h.1), if_neg h1]; rfl
section
variable {nd : List Nd} {tr : List (Nat × Nat)} {mp : List (List (Int × Nat))} {s t : Nat} {oS oT : Option BT} {MS MT : List En}
theorem Two.ins (h : Two nd tr mp s t oS MS oT MT) (id a b c d : Int) : ∃ o', Two (inN nd tr mp t id a b c d) (inT nd tr mp t id a b c d) (inM nd tr mp t id a b c d) s t oS MS o' (inB id a b c d MT) := by
  obtain ⟨_, _, o', r, f⟩ := h.b.ins id a b c d
  exact ⟨o', h.step r f⟩
theorem Two.rem (h : Two nd tr mp s t oS MS oT MT) (id : Int) : ∃ o', Two (reN nd tr mp t id) (reT nd tr mp t id) (reM nd tr mp t id) s t oS MS o' (delM id MT) := by
  obtain ⟨_, _, o', r, f⟩ := h.b.rem id
  exact ⟨o', h.step r f⟩
theorem Two.upd (h : Two nd tr mp s t oS MS oT MT) (id a b c d : Int) : ∃ o', Two (upN nd tr mp t id a b c d) (upT nd tr mp t id a b c d) mp s t oS MS o' (upB id a b c d MT) := by
  obtain ⟨_, _, o', r, f⟩ := h.b.upd id a b c d
  exact ⟨o', h.step r f⟩
end
end Go.Proofs.Ytconaehajaifhaa
