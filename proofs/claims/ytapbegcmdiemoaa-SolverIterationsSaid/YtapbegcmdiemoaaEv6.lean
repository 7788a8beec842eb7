/- The reckoning is sound, operation by operation (5): makes, stores. -/
import Derived.Test.YtapbegcmdiemoaaEv5
namespace Go.Proofs.Ytapbegcmdiemoaa.Ev
open Go.RowKit
set_option linter.unusedVariables false
set_option linter.unusedSimpArgs false

section
variable {P : Program} {T : Tab} {B : Nat} {bad : Nat → Prop} {w0 : World} {m : Map} {st : St} {a : Act} {w : World} {rd : Nat → Blk} {r : Res}

/-- What an operation that runs no Go code does. -/
def Does (P : Program) (B : Nat) (bad : Nat → Prop) (w0 : World) (m : Map) (st : St) (a : Act) (w : World) (r : Res) (s : Sem Value) : Prop :=
  ∃ v w' m', s.run P w = .ok v w' ∧ m.le m' ∧ (∀ id, m' id ≠ none → m id ≠ none ∨ id ∈ r.wr.map (·.1)) ∧ Holds B bad w0 m' ⟨st.tmps, setBs st.heap r.wr⟩ a w' ∧ Den m' r.val v

theorem Yields.does {s : Sem Value} (h : Yields P m s w r) (H : Holds B bad w0 m st a w) : Does P B bad w0 m st a w r s := by
  obtain ⟨v, h1, h2, h3⟩ := h
  refine ⟨v, w, m, h1, Map.le.refl m, fun id h => Or.inl h, ?_, h2⟩
  rw [h3]; exact H

theorem heap_new (w : World) (o : Obj) : (w.alloc o).heap[w.heap.size]? = some o := by
  show (w.heap.push o)[w.heap.size]? = some o
  simp

theorem blk_cells {id : Nat} {c : Nat} (hid : m id = none) {cs : List SV} {vs : Array Value} (h : All2 (DenS m) cs vs.toList) (ty : TypeId) : BlkH (m.set id ⟨w.heap.size, 0, c⟩) id (w.alloc (.cells vs ty)) (.cells cs) :=
  ⟨⟨w.heap.size, 0, c⟩, vs, ty, by simp [Map.set], rfl, heap_new _ _, h.mono fun _ _ => DenS.le (Map.le_set hid _)⟩

theorem blk_arr {id : Nat} {c esz : Nat} {xs : List (List Int)} {vs : Array Value} (hsz : vs.size = c * esz) (hl : xs.length ≤ c) (h : ∀ i j, i < xs.length → j < esz → vs[i * esz + j]? = some (.int .i64 (at2 xs i j))) (ty : TypeId) :
    BlkH (m.set id ⟨w.heap.size, 0, c⟩) id (w.alloc (.cells vs ty)) (.arr true true esz xs) :=
  fun _ => ⟨⟨w.heap.size, 0, c⟩, vs, ty, (0, 0), by simp [Map.set], heap_new _ _, fun i j hi hj => by simpa using h i j hi hj, fun _ => ⟨rfl, rfl, hsz, hl⟩⟩

theorem sound_alloc {nid : Nat} {t : TypeId} (hT : T.Ok P) (he : effAlloc T nid t = some r) (hf : m nid = none) (H : Holds B bad w0 m st a w) : Does P B bad w0 m st a w r (Instr.alloc t true (.tuple #[])) := by
  unfold effAlloc at he
  split at he
  rotate_left
  · cases he
  rename_i ti hti
  cases he
  obtain ⟨zv, h1, h2⟩ := (hT t ti hti).zero
  refine ⟨.pointer (some ⟨w.heap.size, 0, none⟩), w.alloc (.cells zv.cells t), m.set nid ⟨w.heap.size, 0, 0⟩, ?_, Map.le_set hf _, fun id hi => ?_, H.new hf (blk_cells hf (h2.mono fun _ _ k => k m) t), ⟨⟨w.heap.size, 0, 0⟩, by simp [Map.set], rfl⟩⟩
  · simp [Instr.alloc, h1, newVar, newRow]
  · by_cases e : id = nid
    · exact Or.inr (by simp [e])
    · exact Or.inl (by simpa [Map.set, e] using hi)

theorem sound_box {nid : Nat} {t : TypeId} {x : SV} {v : Value} (he : effBox nid x = some r) (hf : m nid = none) (hv : Den m x v) (H : Holds B bad w0 m st a w) : Does P B bad w0 m st a w r (Instr.box t v) := by
  unfold effBox at he
  split at he
  rotate_left
  · cases he
  rename_i cs hcs
  cases he
  refine ⟨.pointer (some ⟨w.heap.size, 0, none⟩), w.alloc (.cells v.cells t), m.set nid ⟨w.heap.size, 0, 0⟩, ?_, Map.le_set hf _, fun id hi => ?_, H.new hf (blk_cells hf (cellsOf_den hcs hv) t), ⟨⟨w.heap.size, 0, 0⟩, by simp [Map.set], rfl⟩⟩
  · simp [Instr.box, newVar, newRow]
  · by_cases e : id = nid
    · exact Or.inr (by simp [e])
    · exact Or.inl (by simpa [Map.set, e] using hi)

theorem cut_get {size : Nat} : ∀ {n : Nat} {cs : List SV} {rows : List (List SV)}, cut size n cs = some rows → rows.length = n ∧ cs.length = n * size ∧ ∀ (i : Nat) (row : List SV), rows[i]? = some row → row.length = size ∧ ∀ j, j < size → row[j]? = cs[i * size + j]?
  | 0, [], rows, h => by simp only [cut] at h; cases h; simp
  | 0, _ :: _, rows, h => by simp [cut] at h
  | n + 1, cs, rows, h => by
    simp only [cut] at h
    split at h
    rotate_left
    · cases h
    rename_i row hrow
    split at h
    rotate_left
    · cases h
    rename_i rs hrs
    cases h
    obtain ⟨rfl, hle⟩ := takeN_eq hrow
    obtain ⟨h1, h2, h3⟩ := cut_get hrs
    have hlen : cs.length = (n + 1) * size := by
      have : (cs.drop size).length = n * size := h2
      simp at this
      rw [Nat.add_mul]; omega
    refine ⟨by simp [h1], hlen, fun i rw' hi => ?_⟩
    cases i with
    | zero =>
      simp at hi; subst hi
      refine ⟨by simp; omega, fun j hj => ?_⟩
      simp [List.getElem?_take_of_lt hj]
    | succ i =>
      obtain ⟨g1, g2⟩ := h3 i rw' (by simpa using hi)
      refine ⟨g1, fun j hj => ?_⟩
      rw [g2 j hj, List.getElem?_drop, Nat.add_mul]
      congr 1; omega

theorem toRows_get : ∀ {rows : List (List SV)} {xs : List (List Int)}, toRows rows = some xs → xs.length = rows.length ∧ ∀ (i : Nat) (row : List SV), rows[i]? = some row → ∃ ns, xs[i]? = some ns ∧ toIs row = some ns
  | [], xs, h => by simp only [toRows] at h; cases h; simp
  | row :: rows, xs, h => by
    simp only [toRows] at h
    split at h
    rotate_left
    · cases h
    rename_i n hn
    split at h
    rotate_left
    · cases h
    rename_i ns hns
    cases h
    obtain ⟨h1, h2⟩ := toRows_get hns
    refine ⟨by simp [h1], fun i rw' hi => ?_⟩
    cases i with
    | zero => simp at hi; subst hi; exact ⟨n, rfl, hn⟩
    | succ i => simpa using h2 i rw' (by simpa using hi)

theorem toIs_get : ∀ {ss : List SV} {ns : List Int}, toIs ss = some ns → ∀ (j : Nat) (s : SV), ss[j]? = some s → ∃ n, ns[j]? = some n ∧ toI s = some n
  | [], ns, h, j, s, hj => by simp at hj
  | s :: ss, ns, h, j, s', hj => by
    simp only [toIs] at h
    split at h
    rotate_left
    · cases h
    rename_i n hn
    split at h
    rotate_left
    · cases h
    rename_i ns' hns
    cases h
    cases j with
    | zero => simp at hj; subst hj; exact ⟨n, rfl, hn⟩
    | succ j => simpa using toIs_get hns j s' (by simpa using hj)

theorem at2_of {xs : List (List Int)} {i j : Nat} {ns : List Int} {n : Int} (h1 : xs[i]? = some ns) (h2 : ns[j]? = some n) : at2 xs i j = n := by
  simp [at2, h1, h2]

theorem repl_len : ∀ (n : Nat) (z : List SV), (repl n z).length = n * z.length
  | 0, z => by simp [repl]
  | n + 1, z => by simp [repl, repl_len n z, Nat.add_mul]; omega

theorem repl_get {z : List SV} (hz : 0 < z.length) : ∀ (n k : Nat), k < n * z.length → (repl n z)[k]? = z[k % z.length]?
  | 0, k, h => by simp at h
  | n + 1, k, h => by
    simp only [repl]
    by_cases hk : k < z.length
    · rw [List.getElem?_append_left hk, Nat.mod_eq_of_lt hk]
    · have h' : k - z.length < n * z.length := by rw [Nat.add_mul] at h; omega
      rw [List.getElem?_append_right (by omega), repl_get hz n (k - z.length) h']
      rw [Nat.mod_eq_sub_mod (by omega : k ≥ z.length)]

theorem zeros_den {z : List SV} {zv : Array Value} (h : All2 (DenS m) z zv.toList) (hz : 0 < z.length) (n : Nat) : All2 (DenS m) (repl n z) ((Array.range (n * z.length)).map (zv[· % zv.size]!)).toList := by
  have hl := h.length
  simp only [Array.length_toList] at hl
  refine all2_of_get (by simp [repl_len]) (fun k x v h1 h2 => ?_)
  have hk : k < n * z.length := by have := (List.getElem?_eq_some_iff.1 h1).1; rwa [repl_len] at this
  rw [repl_get hz n k hk] at h1
  obtain ⟨u, hu, hd⟩ := h.get _ _ h1
  rw [Array.getElem?_toList] at h2 hu
  simp only [Array.getElem?_map, Array.getElem?_range, hk, if_true, Option.map_some, Option.some.injEq] at h2
  have hm : k % zv.size < zv.size := Nat.mod_lt _ (by omega)
  rw [hl] at hu
  simp [hm] at hu
  simp [hm] at h2
  rw [← h2, hu]
  exact hd

theorem sound_buildSlice {nid n : Nat} {t : TypeId} {ps : Array (Nat × Operand)} {vs : List SV} (hT : T.Ok P) (he : effBuildSlice T nid t n ps vs = some r) (hf : m nid = none) (hv : All2 (Den m) vs (ps.toList.map fun x => a.eval x.2)) (H : Holds B bad w0 m st a w) :
    Does P B bad w0 m st a w r (Instr.buildSlice t n (ps.map fun (i, x) => (i, a.eval x))) := by
  unfold effBuildSlice at he
  split at he
  rotate_left
  · cases he
  rename_i e _ _ _ _ _ hti
  have ht := (hT t _ hti).kind
  simp only [KindOk] at ht
  split at he
  rotate_left
  · cases he
  rename_i ei hei
  obtain ⟨ie, zv, hi, hz, hsz, hzd⟩ := zero_den (m := m) (hT e ei hei)
  split at he
  rotate_left
  · cases he
  rename_i l hl
  split at he
  rotate_left
  · cases he
  rename_i cs hcs
  split at he
  rotate_left
  · cases he
  rename_i hg
  simp only [Bool.and_eq_true] at hg
  obtain ⟨⟨⟨hg0, hg1⟩, hg2⟩, hg3⟩ := hg
  have hn1 : 1 ≤ n := Nat.le_of_ble_eq_true hg0
  have hpos : 1 ≤ ei.size := Nat.le_of_ble_eq_true hg1
  have hsm : n * ei.size ≤ 16777216 := Nat.le_of_ble_eq_true hg2
  have hzl := lenIs_eq hg3
  split at he
  rotate_left
  · cases he
  rename_i rows hrows
  obtain ⟨cells, hc1, hc2⟩ := layA_den (place := fun i => some (i * ie.size, ie.size)) (fun i => by rw [hsz]) hcs (zips_den hl hv) (zeros_den hzd (by omega) n)
  have hcl := hc2.length
  obtain ⟨q1, q2, q3⟩ := cut_get hrows
  simp only [Array.length_toList] at hcl
  rw [hzl, ← hsz] at hc1
  have hrun : (Instr.buildSlice t n (ps.map fun (i, x) => (i, a.eval x))).run P w = .ok (.slice (some ⟨w.heap.size, 0, none⟩) n n) (w.alloc (.cells cells e)) := by
    have hn : ¬ n * ie.size = 0 := by
      rw [hsz]; exact Nat.mul_ne_zero (by omega) (by omega)
    exact run_buildSlice w t e n _ cells ie zv ht hi hz (by rw [hsz]; omega) hn (by rw [evalParts]; exact hc1)
  have hmem : ∀ (b : Blk) id, m.set nid ⟨w.heap.size, 0, n⟩ id ≠ none → m id ≠ none ∨ id ∈ [(nid, b)].map (·.1) := fun b id hid => by
    by_cases e : id = nid
    · exact Or.inr (by simp [e])
    · exact Or.inl (by simpa [Map.set, e] using hid)
  have hden : ∀ esz, Den (m.set nid ⟨w.heap.size, 0, n⟩) (.sl nid esz 0 n) (.slice (some ⟨w.heap.size, 0, none⟩) n n) := fun esz =>
    ⟨⟨w.heap.size, 0, n⟩, _, n, by simp [Map.set], rfl, by simp, Nat.le_refl _, fun _ => by simp⟩
  split at he
  · rename_i xs hxs
    cases he
    obtain ⟨y1, y2⟩ := toRows_get hxs
    refine ⟨_, _, _, hrun, Map.le_set hf _, hmem _, H.new hf (blk_arr ?_ ?_ ?_ e), hden _⟩
    · rw [← hcl, q2]
    · omega
    · intro i j hi hj
      have hir : i < rows.length := by omega
      obtain ⟨ns, g1, g2⟩ := y2 i rows[i] (by simp [hir])
      obtain ⟨g3, g4⟩ := q3 i rows[i] (by simp [hir])
      have hj' : j < rows[i].length := by omega
      obtain ⟨k, g5, g6⟩ := toIs_get g2 j rows[i][j] (by simp [hj'])
      have g7 := g4 j hj
      rw [List.getElem?_eq_getElem hj'] at g7
      obtain ⟨u, hu, hd⟩ := hc2.get _ _ g7.symm
      rw [Array.getElem?_toList] at hu
      rw [hu, at2_of g1 g5, toI_den g6 hd.a.d]
  · cases he
    exact ⟨_, _, _, hrun, Map.le_set hf _, hmem _, H.new hf (blk_cells hf hc2 e), hden _⟩

theorem sound_make {nid : Nat} {t : TypeId} {l c : SV} {lv cv : Value} (hT : T.Ok P) (he : effMake T nid t l c = some r) (hp : ∀ q ∈ r.pre, q) (hf : m nid = none) (hl : Den m l lv) (hc : Den m c cv) (H : Holds B bad w0 m st a w) :
    Does P B bad w0 m st a w r (Instr.makeSlice t lv cv) := by
  unfold effMake at he
  split at he
  rotate_left
  · cases he
  rename_i e _ _ _ _ _ hti
  have ht := (hT t _ hti).kind
  simp only [KindOk] at ht
  split at he
  rotate_left
  · cases he
  rename_i ei hei
  obtain ⟨ie, zv, hi, hb1, hb2, hz, hzd⟩ := (hT e ei hei).info
  have hzd' := hzd.mono (fun _ _ k => k m)
  split at he
  rotate_left
  · cases he
  rename_i z hzz
  split at he
  rotate_left
  · cases he
  rename_i n hn
  split at he
  rotate_left
  · cases he
  rename_i n' hn'
  split at he
  rotate_left
  · cases he
  rename_i hg
  simp only [Bool.and_eq_true] at hg
  have hzl := lenIs_eq hg.1
  have hpos : 1 ≤ ei.size := Nat.le_of_ble_eq_true hg.2
  cases he
  have p1 : n' = n := hp _ (by simp)
  have p2 : 0 ≤ n := hp _ (by simp)
  have p3 : n * ei.bytes ≤ 1099511627776 := hp _ (by simp)
  have p4 : n ≤ 1099511627776 := hp _ (by simp)
  subst p1
  obtain rfl := toI_den hn hl
  obtain rfl := toI_den hn' hc
  have hw : IntKind.i64.wrap n' = n' := IntWalk.i64_in _ (by omega)
  have hbm : ie.bytes * n' = n' * ei.bytes := by rw [hb2, Int.mul_comm]
  have hrun : (Instr.makeSlice t (.int .i64 n') (.int .i64 n')).run P w = .ok (.slice (some ⟨w.heap.size, 0, none⟩) n'.toNat n'.toNat) (w.alloc (.cells ((Array.range (n'.toNat * ei.size)).map (zv.cells[· % zv.cells.size]!)) e)) := by
    have h1 : ¬ n' < 0 := by omega
    have h2 : ¬ (2 : Int) ^ 48 < ie.bytes * n' := by rw [hbm]; omega
    have h3 : ¬ (281474976710656 : Int) < ie.bytes * n' := by rw [hbm]; omega
    have hI : ∀ w, (typeInfo e).run P w = .ok ie w := fun w => by simp [typeInfo, hi]
    have hS : ∀ w, (sizeOf e).run P w = .ok ei.size w := fun w => (hT e ei hei).size
    have hZ : ∀ w, (zeroValue e).run P w = .ok zv w := fun w => by simp [zeroValue, hI, hz]
    by_cases h0 : n'.toNat * ei.size = 0
    · have e0 : ∀ f : Nat → Value, (Array.range 0).map f = #[] := fun f => by simp [Array.range]
      simp [Instr.makeSlice, run_underlying ht, asInt, asIntOf, hw, hI, hS, h1, h2, h3, h0, e0, newRow]
    · simp [Instr.makeSlice, run_underlying ht, asInt, asIntOf, hw, hI, hS, hZ, h1, h2, h3, h0, newRow]
  have hden : Den (m.set nid ⟨w.heap.size, 0, n'.toNat⟩) (.sl nid ei.size 0 n'.toNat) (.slice (some ⟨w.heap.size, 0, none⟩) n'.toNat n'.toNat) :=
    ⟨⟨w.heap.size, 0, n'.toNat⟩, _, n'.toNat, by simp [Map.set], rfl, by simp, Nat.le_refl _, fun _ => by simp⟩
  refine ⟨_, _, _, hrun, Map.le_set hf _, fun id hid => ?_, H.new hf (blk_arr (by simp) (by simp) ?_ e), hden⟩
  · by_cases e : id = nid
    · exact Or.inr (by simp [e])
    · exact Or.inl (by simpa [Map.set, e] using hid)
  · intro i j hi' hj
    have hi'' : i < n'.toNat := by simpa using hi'
    have hzl' := hzd'.length
    simp only [Array.length_toList] at hzl'
    have hlt : i * ei.size + j < n'.toNat * ei.size := by
      have : (i + 1) * ei.size ≤ n'.toNat * ei.size := Nat.mul_le_mul_right _ hi''
      rw [Nat.add_mul] at this; omega
    have hmod : (i * ei.size + j) % zv.cells.size = j := by
      rw [← hzl', hzl, Nat.add_comm, Nat.add_mul_mod_self_right, Nat.mod_eq_of_lt hj]
    have hjz : j < z.length := by rw [toIs_length hzz, hzl]; exact hj
    have hjs : j < ei.zero.length := by omega
    obtain ⟨k, g1, g2⟩ := toIs_get hzz j ei.zero[j] (by simp [hjs])
    obtain ⟨u, hu, hd⟩ := hzd'.get j ei.zero[j] (by simp [hjs])
    rw [Array.getElem?_toList] at hu
    have hat : at2 (List.replicate n'.toNat z) i j = k := at2_of (ns := z) (by simp [hi'']) g1
    rw [Array.getElem?_map, Array.getElem?_range, if_pos hlt, hat, Option.map_some, hmod]
    have hjv : j < zv.cells.size := by omega
    simp only [hjv, getElem!_pos, Option.some.injEq]
    rw [Array.getElem?_eq_getElem hjv, Option.some.injEq] at hu
    rw [hu, toI_den g2 hd.a.d]
end
end Go.Proofs.Ytapbegcmdiemoaa.Ev
