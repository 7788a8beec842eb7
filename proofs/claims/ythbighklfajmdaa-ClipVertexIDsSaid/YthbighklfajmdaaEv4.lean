/- The reckoning is sound, operation by operation (3): literals, slices, lengths; blocks that are made or written. -/
import Derived.Test.YthbighklfajmdaaEv3
import Derived.Great.BuildSlice
namespace Go.Proofs.Ythbighklfajmdaa.Ev
open Go.RowKit
set_option linter.unusedVariables false
set_option linter.unusedSimpArgs false

section
variable {P : Program} {T : Tab} {m : Map} {w : World} {rd : Nat → Blk} {r : Res}

def PartDen (m : Map) (x : Nat × SV) (y : Nat × Value) : Prop := x.1 = y.1 ∧ Den m x.2 y.2

theorem zips_den {a : Act} : ∀ {ps : List (Nat × Operand)} {vs : List SV} {l : List (Nat × SV)}, zips ps vs = some l → All2 (Den m) vs (ps.map fun x => a.eval x.2) →
    All2 (PartDen m) l (ps.map fun x => (x.1, a.eval x.2))
  | [], [], l, h, _ => by simp only [zips] at h; cases h; trivial
  | (i, x) :: r, v :: vs, l, h, ⟨h1, h2⟩ => by
    simp only [zips] at h
    split at h
    · rename_i l' hl; cases h
      exact ⟨⟨rfl, h1⟩, zips_den hl h2⟩
    · cases h
  | _ :: _, [], l, h, _ => by simp [zips] at h
  | [], _ :: _, l, h, _ => by simp [zips] at h

theorem over_den {cs vs : List SV} {r : List SV} {off : Nat} {cells : Array Value} {us : Array Value} (h : overlay cs off vs = some r) (hc : All2 (DenS m) cs cells.toList) (hv : All2 (DenS m) vs us.toList) :
    off + us.size ≤ cells.size ∧ All2 (DenS m) r (us.zipIdx.foldl (fun cs (x : Value × Nat) => cs.setIfInBounds (off + x.2) x.1) cells).toList := by
  obtain ⟨h1, h2, h3⟩ := overlay_eq h
  have e1 := hc.length
  have e2 := hv.length
  simp only [Array.length_toList] at e1 e2
  refine ⟨by omega, ?_⟩
  have key : (us.zipIdx.foldl (fun cs (x : Value × Nat) => cs.setIfInBounds (off + x.2) x.1) cells).toList = cells.toList.take off ++ us.toList ++ cells.toList.drop (off + us.size) := by
    obtain ⟨g1, g2⟩ := Great.foldl_set off us.toList 0 cells
    rw [← Array.foldl_toList, Array.toList_zipIdx]
    apply List.ext_getElem?
    intro k
    rw [Array.getElem?_toList, g2 k]
    simp only [Nat.add_zero, Array.length_toList]
    by_cases hA : off ≤ k ∧ k < off + us.size ∧ k < cells.size
    · rw [if_pos hA, List.append_assoc, List.getElem?_append_right (by simp; omega), List.getElem?_append_left (by simp; omega)]
      congr 1; simp; omega
    · rw [if_neg hA]
      by_cases hB : k < off
      · rw [List.append_assoc, List.getElem?_append_left (by simp; omega), List.getElem?_take_of_lt hB, Array.getElem?_toList]
      · rw [List.getElem?_append_right (by simp; omega), List.getElem?_drop, Array.getElem?_toList]
        congr 1; simp; omega
  rw [key, h3]
  refine ((hc.take off).append hv).append ?_
  rw [e2]
  exact hc.drop _

theorem fill_cons {place : Nat → Option (Nat × Nat)} {i off size : Nat} {v : Value} {cells : Array Value} {rest : List (Nat × Value)} (hp : place i = some (off, size)) (h1 : v.cells.size = size) (h2 : off + size ≤ cells.size) :
    Instr.fill place cells ((i, v) :: rest) = Instr.fill place (v.cells.zipIdx.foldl (fun cs (x : Value × Nat) => cs.setIfInBounds (off + x.2) x.1) cells) rest := by
  simp only [Instr.fill, hp]
  rw [if_neg (by simp [h1]; omega)]

theorem layA_den {size : Nat} {place : Nat → Option (Nat × Nat)} (hpl : ∀ i, place i = some (i * size, size)) : ∀ {l : List (Nat × SV)} {cs cs' : List SV} {parts : List (Nat × Value)} {cells : Array Value},
    layA size l cs = some cs' → All2 (PartDen m) l parts → All2 (DenS m) cs cells.toList → ∃ cells', Instr.fill place cells parts = some cells' ∧ All2 (DenS m) cs' cells'.toList
  | [], cs, cs', [], cells, h, _, hc => by simp only [layA] at h; cases h; exact ⟨cells, rfl, hc⟩
  | (i, s) :: l, cs, cs', (j, v) :: parts, cells, h, ⟨⟨h1, h2⟩, h3⟩, hc => by
    simp only at h1; subst h1
    simp only [layA] at h
    split at h
    rotate_left
    · cases h
    rename_i vs hvs
    split at h
    rotate_left
    · cases h
    rename_i hlen
    split at h
    rotate_left
    · cases h
    rename_i cs1 hov
    have hd := cellsOf_den hvs h2
    obtain ⟨o1, o2⟩ := over_den hov hc hd
    have e2 := hd.length
    have e3 := lenIs_eq hlen
    simp only [Array.length_toList] at e2
    have o1' : i * size + v.cells.size ≤ cells.size := o1
    have e2' : vs.length = v.cells.size := e2
    rw [fill_cons (hpl i) (by omega) (by omega)]
    exact layA_den hpl h h3 o2

theorem layS_den (hT : T.Ok P) {fields : Array Field} {fs : List (Nat × TypeId)} (hfs : fields.toList.map (fun f => (f.offset, f.type)) = fs) {places : List (Nat × Nat)} (hplc : fields.toList.mapM (fun f => (P.info? f.type).map fun i => (f.offset, i.size)) = some places)
    : ∀ {l : List (Nat × SV)} {cs cs' : List SV} {parts : List (Nat × Value)} {cells : Array Value},
    layS T fs l cs = some cs' → All2 (PartDen m) l parts → All2 (DenS m) cs cells.toList → ∃ cells', Instr.fill (places.toArray[·]?) cells parts = some cells' ∧ All2 (DenS m) cs' cells'.toList
  | [], cs, cs', [], cells, h, _, hc => by simp only [layS] at h; cases h; exact ⟨cells, rfl, hc⟩
  | (i, s) :: l, cs, cs', (j, v) :: parts, cells, h, ⟨⟨h1, h2⟩, h3⟩, hc => by
    simp only at h1; subst h1
    simp only [layS] at h
    split at h
    rotate_left
    · cases h
    rename_i off t hi
    split at h
    rotate_left
    · cases h
    rename_i ti hti
    split at h
    rotate_left
    · cases h
    rename_i vs hvs
    split at h
    rotate_left
    · cases h
    rename_i hlen
    split at h
    rotate_left
    · cases h
    rename_i cs1 hov
    have hd := cellsOf_den hvs h2
    obtain ⟨o1, o2⟩ := over_den hov hc hd
    have e2 := hd.length
    have e3 := lenIs_eq hlen
    simp only [Array.length_toList] at e2
    obtain ⟨f, hf, rfl, rfl⟩ := fields_get hfs hi
    obtain ⟨ii, zv, hinfo, hsz, _⟩ := (hT _ ti hti).info
    have hpi : places[i]? = some (f.offset, ti.size) := by
      have := mapM_get hplc i f (by rw [Array.getElem?_toList]; exact hf)
      obtain ⟨y, hy1, hy2⟩ := this
      rw [hinfo] at hy2
      simp only [Option.map_some, Option.some.injEq] at hy2
      rw [hy1, ← hy2, hsz]
    have o1' : f.offset + v.cells.size ≤ cells.size := o1
    have e2' : vs.length = v.cells.size := e2
    rw [fill_cons (by simpa using hpi) (by omega) (by omega)]
    exact layS_den hT hfs hplc h h3 o2
 where
  mapM_get {f : Field → Option (Nat × Nat)} : ∀ {fl : List Field} {pl : List (Nat × Nat)}, fl.mapM f = some pl → ∀ (i : Nat) (x : Field), fl[i]? = some x → ∃ y, pl[i]? = some y ∧ f x = some y
    | [], pl, h, i, x, hx => by simp at hx
    | z :: zs, pl, h, i, x, hx => by
      simp only [List.mapM_cons, Option.bind_eq_bind, Option.pure_def] at h
      cases h1 : f z with
      | none => simp [h1] at h
      | some y =>
        cases h2 : zs.mapM f with
        | none => simp [h1, h2] at h
        | some ys =>
          simp [h1, h2] at h
          subst h
          cases i with
          | zero => simp at hx; subst hx; exact ⟨y, rfl, h1⟩
          | succ i => simpa using mapM_get h2 i x (by simpa using hx)

theorem evalParts (a : Act) (ps : Array (Nat × Operand)) : (ps.map fun (i, x) => (i, a.eval x)).toList = ps.toList.map fun x => (x.1, a.eval x.2) := by
  rw [Array.toList_map]

theorem zero_den {t : TypeId} {ti : TI} (h : ti.Ok P t) : ∃ i zv, P.info? t = some i ∧ i.zero = some zv ∧ i.size = ti.size ∧ All2 (DenS m) ti.zero zv.cells.toList := by
  obtain ⟨i, zv, h1, h2, _, h4, h5⟩ := h.info
  exact ⟨i, zv, h1, h4, h2, h5.mono fun _ _ k => k m⟩

theorem sound_build {a : Act} {t : TypeId} {ps : Array (Nat × Operand)} {vs : List SV} (hT : T.Ok P) (he : effBuild T t ps vs = some r) (hv : All2 (Den m) vs (ps.toList.map fun x => a.eval x.2)) :
    Yields P m (Instr.build t (ps.map fun (i, x) => (i, a.eval x))) w r := by
  unfold effBuild at he
  split at he
  rotate_left
  · cases he
  rename_i ti hti
  split at he
  rotate_left
  · cases he
  rename_i l hl
  have hd := zips_den hl hv
  obtain ⟨i, zv, hi, hz, hsz, hzd⟩ := zero_den (m := m) (hT t ti hti)
  have hk := (hT t ti hti).kind
  split at he
  · rename_i fs hfs
    rw [hfs] at hk
    obtain ⟨fields, hu, hfs', places, hpl⟩ := hk
    split at he
    · rename_i cs hcs; cases he
      obtain ⟨cells, h1, h2⟩ := layS_den hT hfs' hpl hcs hd hzd
      refine ⟨.agg cells, run_build w t _ cells ?_, ⟨_, rfl, h2⟩, rfl⟩
      simp only [Program.built, hi, hu, hz, hpl, evalParts]
      exact h1
    · cases he
  · rename_i n e hke
    rw [hke] at hk
    split at he
    rotate_left
    · cases he
    rename_i ei hei
    obtain ⟨ie, zve, hie, _, hse, _⟩ := zero_den (m := m) (hT e ei hei)
    split at he
    · rename_i cs hcs; cases he
      obtain ⟨cells, h1, h2⟩ := layA_den (place := fun i => some (i * ie.size, ie.size)) (fun i => by rw [hse]) hcs hd hzd
      refine ⟨.agg cells, run_build w t _ cells ?_, ⟨_, rfl, h2⟩, rfl⟩
      have hk' : P.underlying t = some (.array n e) := hk
      simp only [Program.built, hi, hk', hz, hie, evalParts]
      exact h1
    · cases he
  · cases he

theorem sound_len {t : TypeId} {ty : TypeId} {x s : SV} {v : Value} {ti : TI} {e : TypeId} (hT : T.Ok P) (hti : T.get t = some ti) (hk : ti.k = .slice e) (he : lenS x = some s) (hv : Den m x v) :
    ∃ z, (Builtin.len_ #[t] ty #[v]).run P w = .ok z w ∧ Den m s z := by
  have hk' := (hT t ti hti).kind
  rw [hk] at hk'
  have ht : P.underlying t = some (.slice e) := hk'
  have hrun : ∀ p n k, (Builtin.len_ #[t] ty #[.slice p n k]).run P w = .ok (.int .i64 (n : Int)) w := fun p n k => by
    simp [Builtin.len_, run_underlying ht, goInt]
  cases x <;> simp only [lenS] at he <;> cases he
  · obtain rfl := nils_den hv; exact ⟨_, hrun _ _ _, rfl⟩
  · obtain ⟨l, ad, c, _, rfl, _⟩ := hv; exact ⟨_, hrun _ _ _, rfl⟩
  · rename_i b id esz len
    cases b
    · obtain ⟨l, ad, c, _, rfl, _⟩ := hv.2 rfl; exact ⟨_, hrun _ _ _, rfl⟩
    · obtain ⟨rfl, rfl⟩ := hv.1 rfl; exact ⟨_, hrun _ _ _, rfl⟩

theorem sound_indexAddr {t : TypeId} {x ix : SV} {v z : Value} (hT : T.Ok P) (he : effIndexAddr T t x ix = some r) (hp : ∀ q ∈ r.pre, q) (hv : Den m x v) (hz : Den m ix z) : Yields P m (Instr.indexAt t v z) w r := by
  unfold effIndexAddr at he
  split at he
  rotate_left
  · cases he
  rename_i ti hti
  have hk := (hT t ti hti).kind
  split at he
  · rename_i e hke
    rw [hke] at hk
    have ht : P.underlying t = some (.slice e) := hk
    split at he
    rotate_left
    · cases he
    rename_i ei hei
    have hsz := (hT e ei hei).size (w := w)
    have hrun : ∀ ad n c k' (k : Nat), k < n → (Instr.indexAt t (.slice (some ad) n c) (.int k' (k : Int))).run P w = .ok (.pointer (some (ad.add (k * ei.size)))) w := fun ad n c k' k h => by
      simp [Instr.indexAt, asIntOf, run_underlying ht, hsz, h]
    split at he
    · rename_i id esz off len
      split at he
      rotate_left
      · cases he
      rename_i hesz
      obtain rfl := Nat.eq_of_beq_eq_true hesz
      obtain ⟨l, ad, c, hm, rfl, hc, hlc, had⟩ := hv
      split at he
      · rename_i k' n
        split at he
        · rename_i k hk; cases he
          obtain rfl := litN_eq hk
          obtain rfl : z = .int k' k := hz
          have hlt : k < len := hp _ (by simp)
          refine ⟨_, hrun _ _ _ _ _ hlt, ⟨l, hm, ?_⟩, rfl⟩
          rw [had (by omega), add_off, Nat.add_mul, Nat.add_zero, Nat.add_assoc]
        · cases he
      · rename_i k' n
        cases he
        have h0 : 0 ≤ n := hp _ (by simp)
        have h1 : n < len := hp _ (by simp)
        obtain rfl : z = .int k' n := hz
        obtain ⟨k, rfl⟩ := Int.eq_ofNat_of_zero_le h0
        have hlt : k < len := by omega
        refine ⟨_, hrun _ _ _ _ _ hlt, ⟨l, hm, ?_⟩, rfl⟩
        rw [had (by omega), add_off, Int.toNat_natCast, Nat.add_mul, Nat.add_zero, Nat.add_assoc]
      · cases he
    · rename_i b id esz len
      split at he
      rotate_left
      · cases he
      rename_i hesz
      obtain rfl := Nat.eq_of_beq_eq_true hesz
      split at he
      · rename_i k' n
        split at he
        · rename_i k hk; cases he
          obtain rfl := litN_eq hk
          obtain rfl : z = .int k' k := hz
          have hlt : k < len := hp _ (by simp)
          cases b
          · obtain ⟨l, ad, c, hm, rfl, hc, hlc, had⟩ := hv.2 rfl
            refine ⟨_, hrun _ _ _ _ _ hlt, ⟨l, hm, ?_⟩, rfl⟩
            rw [had (by omega), add_off, Nat.add_zero]
          · have := (hv.1 rfl).2; omega
        · cases he
      · rename_i k' n
        cases he
        have h0 : 0 ≤ n := hp _ (by simp)
        have h1 : n < len := hp _ (by simp)
        obtain rfl : z = .int k' n := hz
        obtain ⟨k, rfl⟩ := Int.eq_ofNat_of_zero_le h0
        have hlt : k < len := by omega
        cases b
        · obtain ⟨l, ad, c, hm, rfl, hc, hlc, had⟩ := hv.2 rfl
          refine ⟨_, hrun _ _ _ _ _ hlt, ⟨l, hm, ?_⟩, rfl⟩
          rw [had (by omega), add_off, Int.toNat_natCast, Nat.add_zero]
        · have := (hv.1 rfl).2; omega
      · cases he
    · cases he
  · rename_i n e hke
    rw [hke] at hk
    have ht : P.underlying t = some (.array n e) := hk
    split at he
    rotate_left
    · cases he
    rename_i ei hei
    have hsz := (hT e ei hei).size (w := w)
    split at he
    rotate_left
    · cases he
    rename_i id o
    split at he
    rotate_left
    · cases he
    rename_i k' zz
    split at he
    rotate_left
    · cases he
    rename_i k hk
    obtain rfl := litN_eq hk
    split at he
    rotate_left
    · cases he
    rename_i hlt
    have hlt' : k < n := Nat.le_of_ble_eq_true hlt
    split at he
    · rename_i o' ho; cases he
      obtain rfl := normN_eq ho
      obtain rfl : z = .int k' k := hz
      obtain ⟨l, hm, rfl⟩ := hv
      refine ⟨.pointer (some ⟨l.b, l.o + o + k * ei.size, none⟩), by simp [Instr.indexAt, asIntOf, run_underlying ht, hsz, hlt', Instr.sureAddr, add_off], ⟨l, hm, by rw [Nat.add_assoc]⟩, rfl⟩
    · cases he
  · cases he
end
end Go.Proofs.Ythbighklfajmdaa.Ev
