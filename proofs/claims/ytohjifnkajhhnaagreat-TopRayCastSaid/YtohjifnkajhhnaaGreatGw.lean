/- The reckoning: a contract of slices.Grow at nil, out of the shelf's law. -/
import Derived.Test.YtohjifnkajhhnaaGreatEX
import Derived.Shelf.Spec.SlicesGrow
namespace Go.Proofs.YtohjifnkajhhnaaGreat.Ev
open Go.RowKit
set_option linter.unusedVariables false
set_option linter.unusedSimpArgs false

def growRun (esz nid : Nat) (args : List SV) (rd : Nat → Blk) : Option CRes :=
  match args with
  | [s, x] => match s with
    | .nils => match toI x with
      | some n => some ⟨[0 ≤ n, n ≤ 4294967296], .osl (decide (n = 0)) nid esz 0, [.arr true (!decide (n = 0)) esz []], [], [], false⟩
      | none => none
    | _ => none
  | _ => none
theorem con_grow {P : Program} {ρ : Go.Shelf.Ren} (L : Go.Proofs.Lays8.n4 P ρ) {T : Tab} (hT : T.Ok P) {f : FuncId} {e : TypeId} {ei : TI} (hf : ρ.f 4 = f) (he : ρ.t 25 = e) (hei : T.get e = some ei) (h1 : 1 ≤ ei.size) (hb2 : ei.bytes ≤ 1024) (hzl : ei.zero.length = ei.size)
    (hfn : ∃ fn, P.funcs[f]? = some fn ∧ fn.body.isSome = true ∧ (fn.name == "runtime.NumGoroutine") = false) : Con.Ok P ⟨f, growRun ei.size⟩ := by
  refine ⟨hfn, fun nid args rd r hr hp m w vs hd hB hap hfr hup hga hgb hone => ?_, fun nid args rd r hr hro => by
    replace hr : growRun _ nid args rd = some r := hr
    unfold growRun at hr
    repeat' split at hr
    all_goals first | (cases hr; done) | (injection hr with hr; rw [← hr] at hro; exact absurd hro Bool.false_ne_true)⟩
  replace hr : growRun ei.size nid args rd = some r := hr
  unfold growRun at hr
  split at hr
  rotate_left
  · cases hr
  rename_i s x
  split at hr
  rotate_left
  · cases hr
  split at hr
  rotate_left
  · cases hr
  rename_i n hn
  cases hr
  have p0 : 0 ≤ n := hp _ (by simp)
  have p1 : n ≤ 4294967296 := hp _ (by simp)
  match vs, hd with
  | [v0, v1], ⟨d0, d1, _⟩ =>
  obtain rfl := nils_den d0
  obtain rfl := toI_den hn d1
  obtain ⟨k, rfl⟩ : ∃ k : Nat, n = (k : Int) := ⟨n.toNat, by omega⟩
  obtain ⟨ie, zv, hi, hbs, hby, hz, hzd⟩ := (hT e ei hei).info
  have hnil : m nid = none := by have := hfr 0 (by simp); simpa using this
  subst hf; subst he
  rcases Nat.eq_zero_or_pos k with rfl | hk
  · refine (Go.Proofs.Any8.slices_Grow_room L none 0 0 0 w (Nat.le_refl _) (by omega) (by omega) (by omega)).mono ?_
    rintro e' w' ⟨rfl, rfl⟩
    refine ⟨_, m, rfl, fun _ _ => rfl, ⟨fun _ => ⟨rfl, rfl⟩, fun h => (by simp at h)⟩, fun j b hj => ?_, fun j b p hj hl hm => ?_, fun j j' b b' p p' hjj hj hj' => ?_, Kept.refl _ _ _, gpost_plain (rd := rd) (fun _ _ => rfl) rfl (fun j b p hj hl hm => ?_) hga hgb (fun b hb H => by simp at hb; rw [hb]; intro h; cases h)⟩
    · match j, hj with
      | 0, hj => simp at hj; subst hj; exact fun h => (by simp at h)
    · match j, hj with
      | 0, hj => rw [show nid + 0 = nid from rfl, hnil] at hm; cases hm
    · match j, hj, j', hj' with
      | 0, _, 0, _ => exact absurd rfl hjj
    · match j, hj with
      | 0, hj => rw [show nid + 0 = nid from rfl, hnil] at hm; cases hm
  · have hd0 : decide ((k : Int) = 0) = false := by simp; omega
    refine (Go.Proofs.Any8.slices_Grow_grow L ie zv hi hz (by omega) none 0 0 k [] w (Nat.le_refl _) (by omega) ?_ (by omega) (by simp) (fun _ => rfl) (fun a h => (by cases h))).mono ?_
    · rw [hby]
      have : (0 + k) * ei.bytes ≤ 4294967296 * 1024 := Nat.mul_le_mul (by omega) hb2
      omega
    rintro e' w' ⟨rfl, rfl⟩
    obtain ⟨G, hG⟩ : ∃ G, G = grownCap w (0 + k) 0 (ρ.t 25) := ⟨_, rfl⟩
    have hGk : 0 + k ≤ G := by rw [hG]; exact grownCap_ge w _ _ _
    rw [← hG]
    have hzs : zv.cells.size = ei.size := by
      have := hzd.length
      simp at this
      omega
    have hsz : (([] : List Value).toArray ++ Builtin.zeroCells zv.cells (0 + k - 0) ++ Builtin.zeroCells zv.cells (G - (0 + k))).size = G * ei.size := by
      have e1 : (0 + k - 0) * ei.size + (G - (0 + k)) * ei.size = G * ei.size := by rw [← Nat.add_mul]; congr 1; omega
      simp only [Array.size_append, List.size_toArray, List.length_nil, size_zeroCells, hzs]
      rw [Nat.zero_add, e1]
    generalize (([] : List Value).toArray ++ Builtin.zeroCells zv.cells (0 + k - 0) ++ Builtin.zeroCells zv.cells (G - (0 + k))) = cells at hsz
    have hcell : (w.drew.alloc (.cells cells (ρ.t 25))).heap[w.heap.size]? = some (.cells cells (ρ.t 25) (0, 0)) := by
      show (w.heap.push (.cells cells (ρ.t 25)))[w.heap.size]? = _
      simp
    refine ⟨_, m.set nid ⟨w.heap.size, 0, G⟩, rfl, fun id hid => ?_, ⟨fun h => ?_, fun _ => ⟨⟨w.heap.size, 0, G⟩, _, G, by simp [Map.set_f], rfl, rfl, Nat.zero_le _, fun _ => rfl⟩⟩, fun j b hj => ?_, fun j b p hj hl hm => ?_, fun j j' b b' p p' hjj hj hj' => ?_, ?_, gpost_plain (rd := rd) (fun _ _ => rfl) rfl (fun j b p hj hl hm => ?_) hga hgb (fun b hb H => by simp at hb; rw [hb]; intro h; cases h)⟩
    · rw [Map.set_f, if_neg]
      rcases hid with h | h
      · omega
      · simp at h; omega
    · rw [hd0] at h; cases h
    · match j, hj with
      | 0, hj =>
        simp at hj; subst hj
        refine fun _ => ⟨⟨w.heap.size, 0, G⟩, cells, ρ.t 25, (0, 0), by simp [Map.set_f], hcell, fun i j hi => absurd hi (by simp), fun _ => ⟨rfl, rfl, hsz, by simp⟩⟩
    · match j, hj with
      | 0, hj => simp [Map.set_f] at hm; subst hm; exact Or.inl (Nat.le_refl _)
    · match j, hj, j', hj' with
      | 0, _, 0, _ => exact absurd rfl hjj
    · refine ⟨rfl, rfl, rfl, ?_, fun b hb _ => ?_, ?_⟩
      · show w.heap.size ≤ (w.heap.push (.cells cells (ρ.t 25))).size
        simp
      · show (w.heap.push (.cells cells (ρ.t 25)))[b]? = _
        rw [Array.getElem?_push_lt hb, Array.getElem?_eq_getElem hb]
      · show w.drawn ≤ w.drawn + 1
        omega
    · match j, hj with
      | 0, hj => simp [Map.set_f] at hm; subst hm; exact Or.inl (Nat.le_refl _)
end Go.Proofs.YtohjifnkajhhnaaGreat.Ev
