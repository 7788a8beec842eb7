/- The reckoning: a contract out of a walk of the older kind. -/
import Derived.Test.YtdoagjphjnbbnaaEvH
import Derived.Deep.Quiet
namespace Go.Proofs.Ytdoagjphjnbbnaa.Ev
open Go.RowKit
set_option linter.unusedVariables false
set_option linter.unusedSimpArgs false

def argV : List Nat → List Int → Option (List Value)
  | [], l => match l with
    | [] => some []
    | _ => none
  | n :: sh, l => match n with
    | 0 => match l with
      | x :: l => match argV sh l with
        | some r => some (.int .i64 x :: r)
        | none => none
      | [] => none
    | k + 1 => match argV sh (l.drop (k + 1)) with
      | some r => match Nat.ble (k + 1) l.length with
        | true => some (.agg (ints (l.take (k + 1))) :: r)
        | false => none
      | none => none

theorem flatA_argV {m : Map} : ∀ {sh : List Nat} {args : List SV} {l : List Int} {vs : List Value}, flatA sh args = some l → All2 (Den m) args vs → argV sh l = some vs
  | [], args, l, vs, h, hd => by
    simp only [flatA] at h
    split at h
    · cases h; cases vs with
      | nil => rfl
      | cons => exact hd.elim
    · cases h
  | n :: sh, args, l, vs, h, hd => by
    simp only [flatA] at h
    split at h
    · cases h
    rename_i s r
    cases vs with
    | nil => exact hd.elim
    | cons v vs =>
    obtain ⟨d1, d2⟩ := hd
    split at h
    · split at h
      rotate_left
      · cases h
      rename_i x hx
      split at h
      rotate_left
      · cases h
      rename_i z hz
      cases h
      simp only [argV, flatA_argV hz d2, toI_den hx d1]
    · rename_i k
      split at h
      rotate_left
      · cases h
      rename_i cs
      split at h
      rotate_left
      · cases h
      rename_i hlen
      split at h
      rotate_left
      · cases h
      rename_i xs hxs
      split at h
      rotate_left
      · cases h
      rename_i z hz
      obtain rfl := appI_eq h
      have hl := lenIs_eq hlen
      have hxl : xs.length = k + 1 := by rw [toIs_length hxs, hl]
      obtain ⟨us, rfl, hu⟩ := d1
      have e := ints_of hxs hu
      have hb : Nat.ble (k + 1) (xs ++ z).length = true := Nat.ble_eq_true_of_le (by simp; omega)
      simp only [argV, List.drop_left' hxl, flatA_argV hz d2, hb, List.take_left' hxl, e]

/-- A contract, out of what is known of its calls in every world. -/
theorem con_calls {P : Program} {f : FuncId} {fn : Func} (hf : P.funcs[f]? = some fn) (hb : fn.body.isSome = true) (hn : (fn.name == "runtime.NumGoroutine") = false) (sh : List Nat) (pre : List Int → List Prop) (g : List Int → SV)
    (h : ∀ l vs, l.length = tot sh → argV sh l = some vs → (∀ p ∈ pre l, p) → ∀ w, Calls P f vs.toArray w fun e w' => ∃ v, e = .returned v ∧ (∀ m, Den m (g l) v) ∧ Below w.heap.size w w') : Con.Ok P ⟨f, pureRun sh pre g⟩ := by
  refine ⟨⟨fn, hf, hb, hn⟩, fun nid args rd r hr hp m w vs hd hB hap hfr hus => ?_⟩
  simp only [pureRun] at hr
  split at hr
  rotate_left
  · cases hr
  rename_i l hl
  cases hr
  obtain ⟨h1, _⟩ := flatA_mk (m' := fun _ => none) hl hd
  refine (h l vs h1 (flatA_argV hl hd) hp w).mono ?_
  rintro e w' ⟨v, rfl, hv, hw⟩
  exact ⟨v, m, rfl, fun _ _ => rfl, hv m, fun k b hk => by simp at hk, fun k b p hk => by simp at hk, fun k k' b b' p p' _ hk => by simp at hk, Kept.of_below hw⟩

theorem below_drewN {B : Nat} {a w : World} (h : Below B a w) (n : Nat) : Below B a (w.drewN n) := ⟨h.os, h.tape, h.output, h.size, h.block⟩
theorem quiet_b {w w' : World} (h : w = w') : Below w.heap.size w w' := by subst h; exact Below.refl _ _
theorem drawn_b {w w' : World} (h : ∃ k, w' = w.drewN k) : Below w.heap.size w w' := by obtain ⟨k, rfl⟩ := h; exact below_drewN (Below.refl _ _) k
end Go.Proofs.Ytdoagjphjnbbnaa.Ev
