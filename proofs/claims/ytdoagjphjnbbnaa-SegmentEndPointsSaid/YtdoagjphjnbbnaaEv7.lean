/- The reckoning is sound, operation by operation (6): stores and appends. -/
import Derived.Test.YtdoagjphjnbbnaaEv6
namespace Go.Proofs.Ytdoagjphjnbbnaa.Ev
open Go.RowKit
set_option linter.unusedVariables false
set_option linter.unusedSimpArgs false

section
variable {P : Program} {T : Tab} {B : Nat} {bad : Nat → Prop} {w0 : World} {m : Map} {st : St} {a : Act} {w : World} {rd : Nat → Blk} {r : Res}

theorem store_many {g off : Nat} {ty : TypeId} : ∀ (us : List Value) (i : Nat) (w : World) (vs : Array Value), w.heap[g]? = some (.cells vs ty (0, 0)) → off + i + us.length ≤ vs.size → (∀ u ∈ us, u.oneCell' = true) →
    ∃ w' vs', (storeCells ⟨g, off, none⟩ us i).run P w = .ok () w' ∧ w'.heap[g]? = some (.cells vs' ty (0, 0)) ∧ vs'.size = vs.size ∧
      (∀ k, vs'[k]? = if off + i ≤ k ∧ k < off + i + us.length then us[k - (off + i)]? else vs[k]?) ∧ w'.os = w.os ∧ w'.tape = w.tape ∧ w'.output = w.output ∧ w'.heap.size = w.heap.size ∧ ∀ k, k ≠ g → w'.heap[k]? = w.heap[k]?
  | [], i, w, vs, hw, hl, h1 => by
    refine ⟨w, vs, rfl, hw, rfl, fun k => ?_, rfl, rfl, rfl, rfl, fun _ _ => rfl⟩
    rw [if_neg (by simp only [List.length_nil]; omega)]
  | u :: us, i, w, vs, hw, hl, h1 => by
    simp only [List.length_cons] at hl
    have hu : u.oneCell' = true := h1 u (by simp)
    have hlt : off + i < vs.size := by omega
    have hc : w.cell? ⟨g, off + i, none⟩ = some vs[off + i] := by rw [cell_of hw]; simp [hlt]
    have hfz : w.frozen? ⟨g, off + i, none⟩ = false := by simp [World.frozen?, hw]
    have hs : (store (Addr.add ⟨g, off, none⟩ i) u).run P w = .ok () (w.setCell ⟨g, off + i, none⟩ u) := by
      rw [add_off, run_store P w _ u .plain hu, hc]; simp [hfz]
    have hw1 : (w.setCell ⟨g, off + i, none⟩ u).heap[g]? = some (.cells (vs.setIfInBounds (off + i) u) ty (0, 0)) := by
      simp only [World.setCell, Array.getElem?_modify, hw]
      simp
    obtain ⟨w', vs', e1, e2, e3, e4, e5, e6, e7, e8, e9⟩ := store_many (off := off) us (i + 1) _ _ hw1 (by simp; omega) (fun x hx => h1 x (by simp [hx]))
    refine ⟨w', vs', ?_, e2, by rw [e3]; simp, fun k => ?_, e5, e6, e7, by rw [e8]; simp, fun k hk => ?_⟩
    · simp only [storeCells, Sem.run_bind, hs, Result.andThen_ok, e1]
    · rw [e4 k]
      simp only [List.length_cons]
      by_cases hk : k = off + i
      · subst hk
        rw [if_neg (by omega), if_pos (by omega)]
        simp [hlt]
      · by_cases h2 : off + (i + 1) ≤ k ∧ k < off + (i + 1) + us.length
        · rw [if_pos h2, if_pos (by omega)]
          have : k - (off + i) = (k - (off + (i + 1))) + 1 := by omega
          rw [this, List.getElem?_cons_succ]
        · rw [if_neg h2, if_neg (by omega)]
          simp [Ne.symm hk]
    · rw [e9 k hk]; exact Below.heap_setCell _ _ _ _ hk

theorem plain_den {s : SV} {v : Value} (h : plain s = true) (hd : DenS m s v) : v.oneCell' = true := by
  cases s <;> simp only [plain, DenS] at h hd
  case ptr => obtain ⟨l, _, rfl⟩ := hd; rfl
  case pti => obtain ⟨l, _, rfl⟩ := hd; rfl
  case sl => obtain ⟨l, ad, c, _, rfl, _⟩ := hd; rfl
  case osl b id esz len =>
    cases b
    · obtain ⟨l, ad, c, _, rfl, _⟩ := hd.2 rfl; rfl
    · rw [(hd.1 rfl).1]; rfl
  case any => cases h
  case cst => subst hd; exact h
  all_goals (subst hd; rfl)
theorem plains_den : ∀ {ss : List SV} {vs : List Value}, plains ss = true → All2 (DenS m) ss vs → ∀ u ∈ vs, u.oneCell' = true
  | [], [], _, _, u, hu => by simp at hu
  | s :: ss, v :: vs, h, ⟨h1, h2⟩, u, hu => by
    simp only [plains] at h
    split at h
    · rename_i hp
      rcases List.mem_cons.1 hu with rfl | hu
      · exact plain_den hp h1
      · exact plains_den h h2 u hu
    · cases h

theorem setInts_get : ∀ (vs l : List Int) (j k : Nat), (setInts l j vs).length = l.length ∧ (setInts l j vs)[k]? = if j ≤ k ∧ k < j + vs.length ∧ k < l.length then vs[k - j]? else l[k]?
  | [], l, j, k => by
    refine ⟨rfl, ?_⟩
    simp only [setInts, List.length_nil]
    rw [if_neg (by omega)]
  | v :: vs, l, j, k => by
    obtain ⟨h1, h2⟩ := setInts_get vs (l.set j v) (j + 1) k
    refine ⟨by simp [setInts, h1], ?_⟩
    simp only [setInts, h2, List.length_set, List.length_cons]
    by_cases hk : k = j
    · subst hk
      rw [if_neg (by omega)]
      by_cases hl : k < l.length
      · rw [if_pos (by omega)]; simp [hl]
      · rw [if_neg (by omega)]; simp [hl]
    · by_cases hA : j + 1 ≤ k ∧ k < j + 1 + vs.length ∧ k < l.length
      · rw [if_pos hA, if_pos (by omega)]
        have : k - j = (k - (j + 1)) + 1 := by omega
        rw [this, List.getElem?_cons_succ]
      · rw [if_neg hA, if_neg (by omega)]
        simp [Ne.symm hk]

theorem sound_store {t : TypeId} {p x : SV} {pv xv : Value} (hT : T.Ok P) (hrd : ∀ id, rd id = getB st.heap id ∨ rd id = .dead) (he : effStore T rd t p x = some r) (hp : ∀ q ∈ r.pre, q) (hpd : Den m p pv) (hx : Den m x xv) (H : Holds B bad w0 m st a w) :
    ∃ w', (Instr.storeAt t pv xv).run P w = .ok () w' ∧ Holds B bad w0 m ⟨st.tmps, setBs st.heap r.wr⟩ a w' ∧ r.val = .any := by
  unfold effStore at he
  split at he
  rotate_left
  · cases he
  rename_i ti hti
  have hsz := (hT t ti hti).size (w := w)
  split at he
  rotate_left
  · cases he
  rename_i vs hvs
  split at he
  rotate_left
  · cases he
  rename_i hg
  simp only [Bool.and_eq_true] at hg
  have hlen := lenIs_eq hg.1
  have hxd := cellsOf_den hvs hx
  have hone := plains_den hg.2 hxd
  have hxl := hxd.length
  simp only [Array.length_toList] at hxl
  have hstore : ∀ (g off : Nat), (Instr.storeAt t (.pointer (some ⟨g, off, none⟩)) xv).run P w = (storeCells ⟨g, off, none⟩ xv.cells.toList 0).run P w := fun g off => by
    have : xv.cells.size = ti.size := by omega
    simp [Instr.storeAt, Instr.sureAddr, storeVar, hsz, this]
  split at he
  · rename_i id off
    split at he
    rotate_left
    · cases he
    rename_i cs hcs
    split at he
    rotate_left
    · cases he
    rename_i cs' hov
    cases he
    have hbl : getB st.heap id = .cells cs := by rcases hrd id with h | h <;> rw [h] at hcs; exact hcs; cases hcs
    have hB := H.blk id
    rw [hbl] at hB
    obtain ⟨l, us, ty, hm, ho, hw, hd⟩ := hB
    obtain ⟨l', hm', rfl⟩ := hpd
    have e : l = l' := Option.some.inj (hm.symm.trans hm')
    subst e
    obtain ⟨o1, o2, o3⟩ := overlay_eq hov
    have hul := hd.length
    simp only [Array.length_toList] at hul
    rw [ho, Nat.zero_add]
    obtain ⟨w', vs', e1, e2, e3, e4, e5, e6, e7, e8, e9⟩ := store_many (P := P) (g := l.b) (off := off) (ty := ty) xv.cells.toList 0 w us hw (by simp; omega) hone
    refine ⟨w', by rw [hstore, e1], H.write hm (by rw [hbl]; rfl) ⟨l, vs', ty, hm, ho, e2, ?_⟩ e5 e6 e7 e8 e9, rfl⟩
    refine all2_of_get (by simp; omega) (fun k x y h1 h2 => ?_)
    rw [Array.getElem?_toList, e4 k] at h2
    simp only [Nat.add_zero, Array.length_toList] at h2
    rw [o3] at h1
    by_cases hA : off ≤ k ∧ k < off + xv.cells.size
    · rw [if_pos hA] at h2
      rw [List.append_assoc, List.getElem?_append_right (by simp; omega), List.getElem?_append_left (by simp; omega)] at h1
      have hmin : min off cs.length = off := by omega
      rw [List.length_take, hmin] at h1
      obtain ⟨y', hy', hd'⟩ := hxd.get _ _ h1
      rw [hy'] at h2; cases h2
      exact hd'
    · rw [if_neg hA] at h2
      have h1' : cs[k]? = some x := by
        by_cases hB : k < off
        · rw [List.append_assoc, List.getElem?_append_left (by simp; omega), List.getElem?_take_of_lt hB] at h1
          exact h1
        · rw [List.getElem?_append_right (by simp; omega), List.getElem?_drop] at h1
          rw [← h1]; congr 1; simp; omega
      obtain ⟨y', hy', hd'⟩ := hd.get _ _ h1'
      rw [Array.getElem?_toList] at hy'
      rw [hy'] at h2; cases h2
      exact hd'
  · rename_i id esz i j
    split at he
    rotate_left
    · cases he
    rename_i ok esz' xs hcs
    split at he
    rotate_left
    · cases he
    rename_i ns hns
    split at he
    rotate_left
    · cases he
    rename_i hg2
    cases he
    simp only [Bool.and_eq_true] at hg2
    have hesz := Nat.eq_of_beq_eq_true hg2.1
    subst hesz
    have hj := Nat.le_of_ble_eq_true hg2.2
    have hok : ok = true := hp _ (by simp)
    have hi : i < xs.length := hp _ (by simp)
    have hrow : (xs.getD i []).length = esz := hp _ (by simp)
    have hbl : getB st.heap id = .arr true ok esz xs := by rcases hrd id with h | h <;> rw [h] at hcs; exact hcs; cases hcs
    have hB := H.blk id
    rw [hbl] at hB
    obtain ⟨l, us, ty, fr, hm, hw, hd, hown⟩ := hB hok
    obtain ⟨rfl, ho, hus, hxl'⟩ := hown rfl
    obtain ⟨l', hm', rfl⟩ := hpd
    have e : l = l' := Option.some.inj (hm.symm.trans hm')
    subst e
    have hval := ints_of hns hxd
    have hnl : ns.length = ti.size := by rw [toIs_length hns, hlen]
    have hle : i * esz + esz ≤ us.size := by
      have : (i + 1) * esz ≤ l.c * esz := Nat.mul_le_mul_right _ (by omega)
      rw [Nat.add_mul] at this; omega
    rw [ho, Nat.zero_add]
    obtain ⟨w', vs', e1, e2, e3, e4, e5, e6, e7, e8, e9⟩ := store_many (P := P) (g := l.b) (off := i * esz + j) (ty := ty) xv.cells.toList 0 w us hw (by simp; omega) hone
    refine ⟨w', by rw [hstore, e1], H.write hm (by rw [hbl]; simp [Blk.own, hok]) (fun _ => ⟨l, vs', ty, (0, 0), hm, e2, fun i' j' hi' hj' => ?_, fun _ => ⟨rfl, ho, by rw [e3]; exact hus, by simp [upd2]; exact hxl'⟩⟩) e5 e6 e7 e8 e9, rfl⟩
    have hi'' : i' < xs.length := by simpa [upd2] using hi'
    rw [ho, Nat.zero_add, e4]
    simp only [Nat.add_zero, Array.length_toList]
    have hcs2 : xv.cells.size = ns.length := by omega
    have hold := hd i' j' hi'' hj'
    rw [ho, Nat.zero_add] at hold
    by_cases hii : i' = i
    · subst hii
      have hat : at2 (upd2 xs i' j ns) i' j' = ((setInts (xs.getD i' []) j ns)[j']?).getD 0 := by
        simp [at2, upd2, hi'']
      obtain ⟨_, hget⟩ := setInts_get ns (xs.getD i' []) j j'
      rw [hat, hget]
      by_cases hA : j ≤ j' ∧ j' < j + ns.length
      · rw [if_pos (by omega), if_pos (by omega)]
        have hv : xv.cells.toList = ns.map (Value.int .i64) := by rw [hval]; rfl
        have hlt : j' - j < ns.length := by omega
        rw [hv, show i' * esz + j' - (i' * esz + j) = j' - j by omega]
        simp [hlt]
      · rw [if_neg (by omega), if_neg (by omega), hold]
        simp [at2]
    · have hat : at2 (upd2 xs i j ns) i' j' = at2 xs i' j' := by
        simp [at2, upd2, Ne.symm hii]
      rw [hat, if_neg, hold]
      intro hA
      rcases Nat.lt_or_gt_of_ne hii with h | h
      · have : (i' + 1) * esz ≤ i * esz := Nat.mul_le_mul_right _ h
        rw [Nat.add_mul] at this; omega
      · have : (i + 1) * esz ≤ i' * esz := Nat.mul_le_mul_right _ h
        rw [Nat.add_mul] at this; omega
  · cases he

/-- A block gets another number. -/
theorem Holds.rename (h : Holds B bad w0 m st a w) {id nid : Nat} {l : Place} (hn : m nid = none) (hm : m id = some l) :
    Holds B bad w0 (m.set nid l) ⟨st.tmps, setB (setB st.heap nid (getB st.heap id)) id .dead⟩ a w := by
  have hle := Map.le_set hn l
  have hne : id ≠ nid := fun e => by rw [e, hn] at hm; cases hm
  have hold : ∀ i p, i ≠ nid → (m.set nid l) i = some p → m i = some p := fun i p hi e => by simpa [Map.set, hi] using e
  have hnew : ∀ p, (m.set nid l) nid = some p → p = l := fun p e => by simp [Map.set] at e; exact e.symm
  have hg : ∀ i, getB (setB (setB st.heap nid (getB st.heap id)) id .dead) i = if i = id then .dead else if i = nid then getB st.heap id else getB st.heap i := fun i => by
    rw [getB_setB, getB_setB]
  refine ⟨h.defers, h.size, fun t => (h.tmp t).le hle, fun i => ?_, fun i j p q hij h1 h2 h3 h4 => ?_, fun i p h1 h3 => ?_, h.below, h.base⟩
  · rw [hg]
    by_cases e : i = id
    · rw [if_pos e]; trivial
    · rw [if_neg e]
      by_cases e2 : i = nid
      · rw [if_pos e2]
        subst e2
        have hb := h.blk id
        cases hbb : getB st.heap id with
        | dead => trivial
        | cells cs =>
          rw [hbb] at hb
          obtain ⟨l', vs, ty, hm', ho, hw, hd⟩ := hb
          rw [hm] at hm'; cases hm'
          exact ⟨l, vs, ty, by simp [Map.set], ho, hw, hd.mono fun _ _ => DenS.le hle⟩
        | arr ow ok esz xs =>
          rw [hbb] at hb
          intro hok
          obtain ⟨l', vs, ty, fr, hm', hw, hd⟩ := hb hok
          rw [hm] at hm'; cases hm'
          exact ⟨l, vs, ty, fr, by simp [Map.set], hw, hd⟩
      · rw [if_neg e2]
        exact (h.blk i).keep hle (fun _ _ _ => rfl)
  · rw [hg] at h1 h2
    by_cases ei : i = id
    · rw [if_pos ei] at h1; cases h1
    by_cases ej : j = id
    · rw [if_pos ej] at h2; cases h2
    rw [if_neg ei] at h1
    rw [if_neg ej] at h2
    by_cases ei2 : i = nid
    · rw [if_pos ei2] at h1
      subst ei2
      rw [if_neg (Ne.symm hij)] at h2
      rw [hnew p h3]
      exact h.apart id j l q (Ne.symm ej) h1 h2 hm (hold j q (Ne.symm hij) h4)
    · rw [if_neg ei2] at h1
      by_cases ej2 : j = nid
      · rw [if_pos ej2] at h2
        subst ej2
        rw [hnew q h4]
        exact h.apart i id p l ei h1 h2 (hold i p ei2 h3) hm
      · rw [if_neg ej2] at h2
        exact h.apart i j p q hij h1 h2 (hold i p ei2 h3) (hold j q ej2 h4)
  · rw [hg] at h1
    by_cases ei : i = id
    · rw [if_pos ei] at h1; cases h1
    rw [if_neg ei] at h1
    by_cases ei2 : i = nid
    · rw [if_pos ei2] at h1
      subst ei2
      rw [hnew p h3]
      exact h.own id l h1 hm
    · rw [if_neg ei2] at h1
      exact h.own i p h1 (hold i p ei2 h3)
end
end Go.Proofs.Ytdoagjphjnbbnaa.Ev
