/- The reckoning is sound, operation by operation (8): append, its state; calls; all operations together. -/
import Derived.Test.YthbighklfajmdaaEv8
namespace Go.Proofs.Ythbighklfajmdaa.Ev
open Go.RowKit
set_option linter.unusedVariables false
set_option linter.unusedSimpArgs false

section
variable {P : Program} {T : Tab} {B : Nat} {bad : Nat → Prop} {w0 : World} {m : Map} {st : St} {a : Act} {w : World} {rd : Nat → Blk} {r : Res}

theorem at2_cat {xs ys : List (List Int)} {len off n i : Nat} (hx : len ≤ xs.length) (hi : i < len + n) (j : Nat) :
    at2 (xs.take len ++ (ys.drop off).take n) i j = if i < len then at2 xs i j else at2 ys (off + (i - len)) j := by
  have hl : (xs.take len).length = len := by simp; omega
  by_cases h : i < len
  · rw [if_pos h, at2_left (by omega), at2_take h]
  · rw [if_neg h, at2_right (by omega), hl, at2_take (by omega), at2_drop]

def deadOf : Option Nat → List (Nat × Blk)
  | some id => [(id, .dead)]
  | none => []

/-- Both arms of an append, to a state. old: the block that is used up, if there is one. -/
theorem append_does {t t2 e e2 : TypeId} {ei : TI} {ty : TypeId} {nid : Nat} (hT : T.Ok P) (ht : P.underlying t = some (.slice e)) (ht2 : P.underlying t2 = some (.slice e2)) (hei : T.get e = some ei)
    (hzl : lenIs ei.zero ei.size = true) (hpos : 1 ≤ ei.size) (hb1 : 1 ≤ ei.bytes) (hb2 : ei.bytes ≤ 1024)
    {s x : Value} {len n off : Nat} {xs ys : List (List Int)} (S : Src m w ei.size x n ys off) (hlen : len ≤ xs.length) (hbig : len + n ≤ 4294967296) (hys : off + n ≤ ys.length) (hf : m nid = none) (H : Holds B bad w0 m st a w)
    (old : Option Nat) (ps : List Prop)
    (hs : (s = .slice none 0 0 ∧ len = 0 ∧ (∀ id, old = some id → m id ≠ none → True)) ∨ ∃ id l ad, old = some id ∧ getB st.heap id = .arr true true ei.size xs ∧ m id = some l ∧ s = .slice (some ad) len l.c ∧ len ≤ l.c ∧ (0 < l.c → ad = ⟨l.b, l.o, none⟩)) :
    Does P B bad w0 m st a w ⟨ps, .sl nid ei.size 0 (len + n), (nid, .arr true true ei.size (xs.take len ++ (ys.drop off).take n)) :: deadOf old⟩ (Builtin.append_ #[t, t2] ty #[s, x]) := by
  obtain ⟨ie, zv, hi, hbs, hby, hz, hzd⟩ := (hT e ei hei).info
  have hzd' := hzd.length
  simp only [Array.length_toList] at hzd'
  have hzz := lenIs_eq hzl
  have hll : (xs.take len ++ (ys.drop off).take n).length = len + n := by simp; omega
  have dead : ∀ (mm : Map) (h1 : List Blk) (ww : World), Holds B bad w0 mm ⟨st.tmps, h1⟩ a ww → Holds B bad w0 mm ⟨st.tmps, setBs h1 (deadOf old)⟩ a ww := fun mm h1 ww h => by
    cases old with
    | none => exact h
    | some id => exact h.dead id
  have hmem : ∀ (l : Place) id, m.set nid l id ≠ none → m id ≠ none ∨ id ∈ ((nid, Blk.arr true true ei.size (xs.take len ++ (ys.drop off).take n)) :: deadOf old).map (·.1) := fun l id hid => by
    by_cases e : id = nid
    · exact Or.inr (by simp [e])
    · exact Or.inl (by simpa [Map.set, e] using hid)
  have hlen0 : ∃ cap, (s = .slice none 0 0 ∧ len = 0 ∧ cap = 0) ∨ ∃ g ad vs ty' fr, s = .slice (some ad) len cap ∧ (0 < cap → ad = ⟨g, 0, none⟩) ∧ len ≤ cap ∧ w.heap[g]? = some (.cells vs ty' fr) ∧ (∀ i j, i < xs.length → j < ei.size → vs[i * ei.size + j]? = some (.int .i64 (at2 xs i j))) := by
    rcases hs with ⟨rfl, rfl, _⟩ | ⟨id, l, ad, h1, h2, h3, rfl, h5, h6⟩
    · exact ⟨0, Or.inl ⟨rfl, rfl, rfl⟩⟩
    · have hB := H.blk id
      rw [h2] at hB
      obtain ⟨l', vs, ty', fr, hm, hw, hd, hown⟩ := hB rfl
      rw [h3] at hm; cases hm
      obtain ⟨rfl, ho, _, _⟩ := hown rfl
      refine ⟨l.c, Or.inr ⟨l.b, ad, vs, ty', (0, 0), rfl, fun h => by rw [h6 h, ho], h5, hw, fun i j hi hj => ?_⟩⟩
      have := hd i j hi hj
      rwa [ho, Nat.zero_add] at this
  obtain ⟨cap, hcs⟩ := hlen0
  rcases run_append (ty := ty) ht ht2 hi hz hbs hby (by omega) (by omega) hb1 hb2 S hlen hbig hcs with ⟨hcap, g, ad, rfl, had, hrun⟩ | ⟨k, cells, hk, hc1, hc2, hc3, hrun⟩
  · rcases hs with ⟨h, _⟩ | ⟨id, l, ad', h1, h2, h3, h4, h5, h6⟩
    · cases h
    cases h4
    have hpn := S.pos
    have had' := had (by omega)
    have had2 := h6 (by omega)
    rw [had'] at had2
    have hgl : g = l.b := congrArg Addr.block had2
    subst hgl
    have hB := H.blk id
    rw [h2] at hB
    obtain ⟨l', vs, ty', fr, hm, hw, hd, hown⟩ := hB rfl
    have he := Option.some.inj (h3.symm.trans hm)
    subst he
    obtain ⟨rfl, ho, hvs, hxl⟩ := hown rfl
    have hsz : len * ei.size + n * ei.size ≤ vs.size := by
      rw [hvs, ← Nat.add_mul]; exact Nat.mul_le_mul_right _ hcap
    obtain ⟨w', vs', e1, e2, e3, e4, e5, e6, e7, e8, e9⟩ := store_many (P := P) (g := l.b) (off := len * ei.size) (ty := ty') (rowCells ys off ei.size n).toList 0 w vs hw (by simp [rowCells_size]; omega) (rowCells_one _ _ _ _)
    have hb : BlkH m id w' (.arr true true ei.size (xs.take len ++ (ys.drop off).take n)) := by
      refine fun _ => ⟨l, vs', ty', (0, 0), h3, e2, fun i j hi' hj => ?_, fun _ => ⟨rfl, ho, by rw [e3, hvs], by omega⟩⟩
      rw [hll] at hi'
      rw [ho, Nat.zero_add, e4, at2_cat hlen hi']
      simp only [Nat.add_zero, Array.length_toList, rowCells_size, Array.getElem?_toList]
      by_cases hin : i < len
      · have hlt : i * ei.size + j < len * ei.size := by
          have : (i + 1) * ei.size ≤ len * ei.size := Nat.mul_le_mul_right _ hin
          rw [Nat.add_mul] at this; omega
        rw [if_neg (by omega), if_pos hin]
        have := hd i j (by omega) hj
        rwa [ho, Nat.zero_add] at this
      · have hlt : (i - len) * ei.size + j < n * ei.size := by
          have : (i - len + 1) * ei.size ≤ n * ei.size := Nat.mul_le_mul_right _ (by omega)
          rw [Nat.add_mul] at this; omega
        have hsplit : i * ei.size + j = len * ei.size + ((i - len) * ei.size + j) := by
          rw [← Nat.add_assoc, ← Nat.add_mul]; congr 2; omega
        rw [if_neg hin, if_pos (by omega), hsplit, Nat.add_sub_cancel_left]
        exact rowCells_get (by omega) hj
    have H1 := H.write h3 (by rw [h2]; rfl) hb e5 e6 e7 e8 e9
    have H2 := H1.rename hf h3
    refine ⟨_, w', m.set nid l, hrun w' e1, Map.le_set hf _, hmem l, ?_, ⟨l, _, l.c, by simp [Map.set], rfl, by simp, hcap, fun _ => by rw [ho]; simp⟩⟩
    refine H2.ext (Nat.le_refl _) (fun t => rfl) (fun i => ?_)
    rw [h1]
    simp only [deadOf, setBs, getB_setB]
    by_cases ei' : i = id
    · simp [ei']
    · by_cases ei2 : i = nid
      · simp [ei', ei2]
      · simp [ei', ei2]
  · have hsz0 : w.drew.heap.size = w.heap.size := rfl
    have Hd : Holds B bad w0 m st a w.drew := H.drew
    have hb : BlkH (m.set nid ⟨w.drew.heap.size, 0, k⟩) nid (w.drew.alloc (.cells cells e)) (.arr true true ei.size (xs.take len ++ (ys.drop off).take n)) := by
      refine blk_arr hc1 (by omega) (fun i j hi' hj => ?_) e
      rw [hll] at hi'
      rw [at2_cat hlen hi']
      by_cases hin : i < len
      · rw [if_pos hin]; exact hc2 i j hin hj
      · rw [if_neg hin]
        have := hc3 (i - len) j (by omega) hj
        rwa [show len + (i - len) = i by omega] at this
    refine ⟨_, _, m.set nid ⟨w.drew.heap.size, 0, k⟩, hrun, Map.le_set hf _, hmem _, ?_, ⟨⟨w.drew.heap.size, 0, k⟩, _, k, by simp [Map.set], rfl, by simp, hk, fun _ => by simp [hsz0]⟩⟩
    simp only [setBs]
    exact dead _ _ _ (Hd.new hf hb)

theorem consP_mem : ∀ {a b : List Prop} {p : Prop}, p ∈ consP a b ↔ p ∈ a ∨ p ∈ b
  | [], b, p => by simp [consP]
  | x :: a, b, p => by simp [consP, consP_mem (a := a), or_assoc]

/-- A block that is not there. -/
theorem Holds.gone (h : Holds B bad w0 m st a w) (id : Nat) {b : Blk} (hl : b.live = false) (hb : BlkH m id w b) : Holds B bad w0 m ⟨st.tmps, setB st.heap id b⟩ a w := by
  have ho : b.own = false := by
    cases e : b.own
    · rfl
    · rw [Blk.live_of_own e] at hl; cases hl
  refine ⟨h.defers, h.size, h.tmp, fun i => ?_, fun i j q q' hij h1 h2 h3 h4 => ?_, fun i q h1 h3 => ?_, h.below, h.base⟩
  · simp only [getB_setB]
    by_cases e : i = id
    · subst e; rw [if_pos rfl]; exact hb
    · rw [if_neg e]; exact h.blk i
  · simp only [getB_setB] at h1 h2
    by_cases e1 : i = id
    · rw [if_pos e1, ho] at h1; cases h1
    · by_cases e2 : j = id
      · rw [if_pos e2, hl] at h2; cases h2
      · rw [if_neg e1] at h1; rw [if_neg e2] at h2
        exact h.apart i j q q' hij h1 h2 h3 h4
  · simp only [getB_setB] at h1
    by_cases e1 : i = id
    · rw [if_pos e1, ho] at h1; cases h1
    · rw [if_neg e1] at h1; exact h.own i q h1 h3

/-- An empty slice's value. -/
def Empty (x : Value) : Prop := x = .slice none 0 0 ∨ ∃ a k, x = .slice (some a) 0 k

theorem src_ok {esz n : Nat} {x : SV} {xv : Value} {zs : List (List Int)} {ps : List Prop} {js : List Nat} (hrd : ∀ id, rd id = getB st.heap id ∨ rd id = .dead) (he : srcS rd esz x = some (n, zs, ps, js)) (hp : ∀ q ∈ ps, q) (hx : Den m x xv) (H : Holds B bad w0 m st a w) :
    (n = 0 ∧ zs = [] ∧ Empty xv) ∨ (0 < n ∧ ∃ ys off, Src m w esz xv n ys off ∧ off + n ≤ ys.length ∧ zs = (ys.drop off).take n) := by
  have hB : ∀ id ow ok e ys, rd id = .arr ow ok e ys → BlkH m id w (.arr ow ok e ys) := fun id ow ok e ys h => by
    rcases hrd id with k | k
    · rw [← h, k]; exact H.blk id
    · rw [k] at h; cases h
  unfold srcS at he
  split at he
  · cases he
    exact Or.inl ⟨rfl, rfl, Or.inl (nils_den hx)⟩
  · rename_i jd e off k
    split at he
    rotate_left
    · cases he
    rename_i ow ok e' ys hys
    split at he
    rotate_left
    · cases he
    rename_i hq
    simp only [Bool.and_eq_true] at hq
    obtain rfl := Nat.eq_of_beq_eq_true hq.1
    obtain rfl := Nat.eq_of_beq_eq_true hq.2
    cases he
    have p1 : n = 0 ∨ ok = true := hp _ (by simp)
    have p2 : off + n ≤ ys.length := hp _ (by simp)
    rcases Nat.eq_zero_or_pos n with rfl | hn
    · obtain ⟨l, ad, c, hm, rfl, _⟩ := hx
      exact Or.inl ⟨rfl, by simp, Or.inr ⟨_, _, rfl⟩⟩
    · exact Or.inr ⟨hn, ys, off, src_of (hB _ _ _ _ _ hys) hx (p1.resolve_left (by omega)) hn p2, p2, rfl⟩
  · rename_i b jd e k
    split at he
    rotate_left
    · cases he
    rename_i ow ok e' ys hys
    split at he
    rotate_left
    · cases he
    rename_i hq
    simp only [Bool.and_eq_true] at hq
    obtain rfl := Nat.eq_of_beq_eq_true hq.1
    obtain rfl := Nat.eq_of_beq_eq_true hq.2
    cases he
    have p1 : n = 0 ∨ ok = true := hp _ (by simp)
    have p2 : n ≤ ys.length := hp _ (by simp)
    cases b with
    | true =>
      obtain ⟨rfl, rfl⟩ := hx.1 rfl
      exact Or.inl ⟨rfl, by simp, Or.inl rfl⟩
    | false =>
      obtain ⟨l, ad, c, hm, rfl, hc, hlc, had⟩ := hx.2 rfl
      rcases Nat.eq_zero_or_pos n with rfl | hn
      · exact Or.inl ⟨rfl, by simp, Or.inr ⟨_, _, rfl⟩⟩
      · refine Or.inr ⟨hn, ys, 0, ?_, by omega, by simp⟩
        have hd : Den m (.sl jd e' 0 n) (.slice (some ad) n c) := ⟨l, ad, c, hm, rfl, by omega, hlc, fun h => by rw [had h]; simp⟩
        exact src_of (hB _ _ _ _ _ hys) hd (p1.resolve_left (by omega)) hn (by omega)
  · cases he

/-- Nothing is appended. -/
theorem run_append_zero {t t2 e e2 : TypeId} {ie : TypeInfo} {ty : TypeId} (ht : P.underlying t = some (.slice e)) (ht2 : P.underlying t2 = some (.slice e2)) (hi : P.info? e = some ie)
    {base : Option Addr} {len cap : Nat} {x : Value} (hx : Empty x) (hlc : len ≤ cap) (w : World) : (Builtin.append_ #[t, t2] ty #[.slice base len cap, x]).run P w = .ok (.slice base len cap) w := by
  have hI : ∀ w, (typeInfo e).run P w = .ok ie w := fun w => by simp [typeInfo, hi]
  have hS : ∀ w, (sizeOf e).run P w = .ok ie.size w := fun w => by simp [sizeOf, hI]
  have hF : ∀ w, (Builtin.firstCells ie.size 0 x).run P w = .ok #[] w := fun w => by
    rcases hx with rfl | ⟨ad, k, rfl⟩
    · simp [Builtin.firstCells]
    · simp [Builtin.firstCells, loadCells, loadCellsFrom]
  have hL : ∀ w, (Builtin.lenOf x).run P w = .ok 0 w := fun w => by
    rcases hx with rfl | ⟨ad, k, rfl⟩ <;> simp [Builtin.lenOf]
  cases base with
  | none => simp only [Builtin.append_, Sem.run_bind, run_underlying ht, Result.andThen_ok, hS, Sem.run_pure, List.getElem?_toArray, List.getElem?_cons_zero, List.getElem?_cons_succ, run_underlying ht2, Bool.false_eq_true, if_false, hL, Sem.run_ite, Nat.add_zero, if_pos hlc, hF, Bool.not_false, if_true]
  | some ad => simp only [Builtin.append_, Sem.run_bind, run_underlying ht, Result.andThen_ok, hS, Sem.run_pure, List.getElem?_toArray, List.getElem?_cons_zero, List.getElem?_cons_succ, run_underlying ht2, Bool.false_eq_true, if_false, hL, Sem.run_ite, Nat.add_zero, if_pos hlc, hF, Bool.not_false, if_true, storeCells]

theorem Does.osl {s : Sem Value} {id esz len : Nat} {ps : List Prop} {wr : List (Nat × Blk)} (h : Does P B bad w0 m st a w ⟨ps, .sl id esz 0 len, wr⟩ s) (ps' : List Prop) : Does P B bad w0 m st a w ⟨ps', .osl false id esz len, wr⟩ s := by
  obtain ⟨v, w', m', h1, h2, h3, h4, h5⟩ := h
  refine ⟨v, w', m', h1, h2, h3, h4, ?_⟩
  obtain ⟨l, ad, c, hm, rfl, hc, hlc, had⟩ := h5
  exact ⟨fun h => (by cases h), fun _ => ⟨l, ad, c, hm, rfl, by omega, hlc, fun h => by rw [had h]; simp⟩⟩
theorem Does.pre {s : Sem Value} {v : SV} {ps ps' : List Prop} {wr : List (Nat × Blk)} (h : Does P B bad w0 m st a w ⟨ps, v, wr⟩ s) : Does P B bad w0 m st a w ⟨ps', v, wr⟩ s := h

/-- Nothing is appended to a slice that is there. -/
theorem append_none {t t2 e e2 : TypeId} {ei : TI} {ty : TypeId} {nid : Nat} (hT : T.Ok P) (ht : P.underlying t = some (.slice e)) (ht2 : P.underlying t2 = some (.slice e2)) (hei : T.get e = some ei)
    {x : Value} (hx : Empty x) {len id : Nat} {l : Place} {ad : Addr} {xs : List (List Int)} (hf : m nid = none) (H : Holds B bad w0 m st a w)
    (h2 : getB st.heap id = .arr true true ei.size xs) (h3 : m id = some l) (hlen : len ≤ xs.length) (h5 : len ≤ l.c) (h6 : 0 < l.c → ad = ⟨l.b, l.o, none⟩) (ps : List Prop) :
    Does P B bad w0 m st a w ⟨ps, .sl nid ei.size 0 (len + 0), [(nid, .arr true true ei.size (xs.take len ++ [])), (id, .dead)]⟩ (Builtin.append_ #[t, t2] ty #[.slice (some ad) len l.c, x]) := by
  obtain ⟨ie, zv, hi, hbs, hby, hz, hzd⟩ := (hT e ei hei).info
  have hB := H.blk id
  rw [h2] at hB
  obtain ⟨l', vs, ty', fr, hm, hw, hd, hown⟩ := hB rfl
  have he := Option.some.inj (h3.symm.trans hm)
  subst he
  obtain ⟨rfl, ho, hvs, hxl⟩ := hown rfl
  have hb : BlkH m id w (.arr true true ei.size (xs.take len ++ [])) := by
    refine fun _ => ⟨l, vs, ty', (0, 0), h3, hw, fun i j hi' hj => ?_, fun _ => ⟨rfl, ho, hvs, by simp; omega⟩⟩
    have hi2 : i < len := by simp at hi'; omega
    rw [List.append_nil, at2_take hi2]
    exact hd i j (by omega) hj
  have H1 := H.write h3 (by rw [h2]; rfl) hb rfl rfl rfl rfl (fun _ _ => rfl)
  have H2 := H1.rename hf h3
  refine ⟨_, w, m.set nid l, run_append_zero ht ht2 hi hx h5 w, Map.le_set hf _, fun id' hid => ?_, ?_, ⟨l, _, l.c, by simp [Map.set], rfl, by simp, h5, fun hc => by rw [h6 hc]; simp⟩⟩
  · by_cases e : id' = nid
    · exact Or.inr (by simp [e])
    · exact Or.inl (by simpa [Map.set, e] using hid)
  · refine H2.ext (Nat.le_refl _) (fun t => rfl) (fun i => ?_)
    simp only [setBs, getB_setB]
    by_cases ei' : i = id
    · simp [ei']
    · by_cases ei2 : i = nid
      · simp [ei', ei2]
      · simp [ei', ei2]

theorem append_nil {t t2 e e2 : TypeId} {ei : TI} {ty : TypeId} {nid : Nat} (hT : T.Ok P) (ht : P.underlying t = some (.slice e)) (ht2 : P.underlying t2 = some (.slice e2)) (hei : T.get e = some ei)
    {x : Value} (hx : Empty x) (H : Holds B bad w0 m st a w) (ps : List Prop) (old : Option Nat) (xs : List (List Int)) :
    Does P B bad w0 m st a w ⟨ps, .osl true nid ei.size 0, (nid, .arr true false ei.size xs) :: deadOf old⟩ (Builtin.append_ #[t, t2] ty #[.slice none 0 0, x]) := by
  obtain ⟨ie, zv, hi, hbs, hby, hz, hzd⟩ := (hT e ei hei).info
  refine ⟨_, w, m, run_append_zero ht ht2 hi hx (Nat.le_refl _) w, Map.le.refl m, fun id h => Or.inl h, ?_, ⟨fun _ => ⟨rfl, rfl⟩, fun h => (by cases h)⟩⟩
  have h1 := H.gone nid (b := .arr true false ei.size xs) rfl (fun h => by cases h)
  cases old with
  | none => exact h1
  | some id => exact h1.dead id

theorem sound_append {nid : Nat} {ts : Array TypeId} {ty : TypeId} {s x : SV} {sv xv : Value} (hT : T.Ok P) (hrd : ∀ id, rd id = getB st.heap id ∨ rd id = .dead) (he : effAppend T rd nid ts s x = some r) (hp : ∀ q ∈ r.pre, q) (hf : m nid = none)
    (hs : Den m s sv) (hx : Den m x xv) (H : Holds B bad w0 m st a w) : Does P B bad w0 m st a w r (Builtin.append_ ts ty #[sv, xv]) := by
  unfold effAppend at he
  split at he
  rotate_left
  · cases he
  rename_i t t2 hts
  have hts' : ts = #[t, t2] := by apply Array.ext'; rw [hts]
  subst hts'
  split at he
  rotate_left
  · cases he
  rename_i e _ _ _ _ hti
  have ht := (hT t _ hti).kind
  simp only [KindOk] at ht
  split at he
  rotate_left
  · cases he
  rename_i ei hei
  split at he
  rotate_left
  · cases he
  rename_i e2 _ _ _ _ hti2
  have ht2 := (hT t2 _ hti2).kind
  simp only [KindOk] at ht2
  split at he
  rotate_left
  · cases he
  split at he
  rotate_left
  · cases he
  rename_i hg
  simp only [Bool.and_eq_true] at hg
  obtain ⟨⟨⟨g1, g2⟩, g3⟩, g4⟩ := hg
  have hpos : 1 ≤ ei.size := Nat.le_of_ble_eq_true g2
  have hb2 : ei.bytes ≤ 1024 := Nat.le_of_ble_eq_true g3
  have hb1 : 1 ≤ ei.bytes := Nat.le_of_ble_eq_true g4
  split at he
  rotate_left
  · cases he
  rename_i n zs ps js hsrc
  have hr : ∀ id ok xs, rd id = .arr true ok ei.size xs → getB st.heap id = .arr true ok ei.size xs := fun id ok xs h => by
    rcases hrd id with k | k
    · rw [← h, k]
    · rw [k] at h; cases h
  split at he
  · cases he
    have q1 : ∀ q ∈ ps, q := fun q hq => hp q (consP_mem.2 (Or.inl hq))
    have q2 : n ≤ 4294967296 := hp _ (consP_mem.2 (Or.inr (by simp)))
    obtain rfl := nils_den hs
    rcases src_ok hrd hsrc q1 hx H with ⟨rfl, rfl, hxe⟩ | ⟨hn, ys, off, S, hle, rfl⟩
    · exact append_nil hT ht ht2 hei hxe H _ none []
    · have := append_does (ty := ty) (len := 0) (xs := []) hT ht ht2 hei g1 hpos hb1 hb2 S (Nat.zero_le _) (by omega) hle hf H none [] (Or.inl ⟨rfl, rfl, fun _ _ _ => trivial⟩)
      have e1 : decide (n = 0) = false := decide_eq_false (by omega)
      have e2 : decide (0 < n) = true := decide_eq_true hn
      rw [e1, e2]
      simp only [deadOf, Nat.zero_add, List.take_nil, List.nil_append] at this
      exact this.osl _
  · rename_i id esz off len
    split at he
    rotate_left
    · cases he
    rename_i ok esz' xs hxs
    split at he
    rotate_left
    · cases he
    rename_i hq
    simp only [Bool.and_eq_true] at hq
    obtain rfl := Nat.eq_of_beq_eq_true hq.1.1
    obtain rfl := Nat.eq_of_beq_eq_true hq.1.2
    cases he
    have q1 : ∀ q ∈ ps, q := fun q hq => hp q (consP_mem.2 (Or.inl hq))
    have p0 : ok = true := hp _ (consP_mem.2 (Or.inr (by simp)))
    have p1 : off = 0 := hp _ (consP_mem.2 (Or.inr (by simp)))
    have p2 : len ≤ xs.length := hp _ (consP_mem.2 (Or.inr (by simp)))
    have p6 : len + n ≤ 4294967296 := hp _ (consP_mem.2 (Or.inr (by simp)))
    subst p0; subst p1
    have hri := hr _ _ _ hxs
    obtain ⟨l, ad, c, hm, rfl, hc, hlc, had⟩ := hs
    have hc' : c = l.c := by omega
    subst hc'
    rcases src_ok hrd hsrc q1 hx H with ⟨rfl, rfl, hxe⟩ | ⟨hn, ys, off, S, hle, rfl⟩
    · exact append_none hT ht ht2 hei hxe hf H hri hm p2 hlc (fun h => by rw [had h]; simp) _
    · exact append_does (ty := ty) hT ht ht2 hei g1 hpos hb1 hb2 S p2 p6 hle hf H (some id) _ (Or.inr ⟨id, l, ad, rfl, hri, hm, rfl, hlc, fun h => by rw [had h]; simp⟩)
  · rename_i b id esz len
    split at he
    rotate_left
    · cases he
    rename_i ok esz' xs hxs
    split at he
    rotate_left
    · cases he
    rename_i hq
    simp only [Bool.and_eq_true] at hq
    obtain rfl := Nat.eq_of_beq_eq_true hq.1.1
    obtain rfl := Nat.eq_of_beq_eq_true hq.1.2
    cases he
    have q1 : ∀ q ∈ ps, q := fun q hq => hp q (consP_mem.2 (Or.inl hq))
    have p0 : b = false → ok = true := hp _ (consP_mem.2 (Or.inr (by simp)))
    have p1 : b = true → xs.take len = [] := hp _ (consP_mem.2 (Or.inr (by simp)))
    have p2 : len ≤ xs.length := hp _ (consP_mem.2 (Or.inr (by simp)))
    have p6 : len + n ≤ 4294967296 := hp _ (consP_mem.2 (Or.inr (by simp)))
    have hri := hr _ _ _ hxs
    cases b
    · have p0' := p0 rfl
      subst p0'
      obtain ⟨l, ad, c, hm, rfl, rfl, hlc, had⟩ := hs.2 rfl
      rcases src_ok hrd hsrc q1 hx H with ⟨rfl, rfl, hxe⟩ | ⟨hn, ys, off, S, hle, rfl⟩
      · exact (append_none hT ht ht2 hei hxe hf H hri hm p2 hlc had []).osl _
      · exact (append_does (ty := ty) hT ht ht2 hei g1 hpos hb1 hb2 S p2 p6 hle hf H (some id) [] (Or.inr ⟨id, l, ad, rfl, hri, hm, rfl, hlc, had⟩)).osl _
    · obtain ⟨rfl, rfl⟩ := hs.1 rfl
      rcases src_ok hrd hsrc q1 hx H with ⟨rfl, rfl, hxe⟩ | ⟨hn, ys, off, S, hle, rfl⟩
      · exact append_nil hT ht ht2 hei hxe H _ (some id) _
      · have := append_does (ty := ty) hT ht ht2 hei g1 hpos hb1 hb2 S p2 p6 hle hf H (some id) [] (Or.inl ⟨rfl, rfl, fun _ _ _ => trivial⟩)
        have e1 : decide (n = 0) = false := decide_eq_false (by omega)
        have e2 : decide (0 < n) = true := decide_eq_true hn
        rw [e1, e2]
        exact this.osl _
  · cases he
/-- A slice of no elements, made. -/
theorem sound_build0 {nid : Nat} {t : TypeId} {ps : Array (Nat × Operand)} (hT : T.Ok P) (he : effBuild0 T nid t ps = some r) (hf : m nid = none) (H : Holds B bad w0 m st a w) (f : Nat × Operand → Nat × Value) :
    Does P B bad w0 m st a w r (Instr.buildSlice t 0 (ps.map f)) := by
  unfold effBuild0 at he
  split at he
  rotate_left
  · cases he
  rename_i e _ _ _ _ hti
  have ht := (hT t _ hti).kind
  simp only [KindOk] at ht
  split at he
  rotate_left
  · cases he
  rename_i ei hei
  obtain ⟨ie, zv, hi, hbs, hby, hz, hzd⟩ := (hT e ei hei).info
  split at he
  rotate_left
  · cases he
  rename_i hps
  cases he
  have hps' : ps = #[] := by apply Array.ext'; rw [hps]
  subst hps'
  have hI : ∀ w, (typeInfo e).run P w = .ok ie w := fun w => by simp [typeInfo, hi]
  have hS : ∀ w, (sizeOf e).run P w = .ok ie.size w := fun w => by simp [sizeOf, hI]
  have hrun : (Instr.buildSlice t 0 #[]).run P w = .ok (.slice (some ⟨w.heap.size, 0, none⟩) 0 0) (w.alloc (.cells #[] e)) := by
    simp [Instr.buildSlice, run_underlying ht, sizeOf, typeInfo, hi, Instr.fill, newRow]
    rw [show Array.range 0 = #[] from Array.eq_empty_of_size_eq_zero (by simp), Array.map_empty]
  refine ⟨.slice (some ⟨w.heap.size, 0, none⟩) 0 0, w.alloc (.cells #[] e), m.set nid ⟨w.heap.size, 0, 0⟩, by simpa using hrun, Map.le_set hf _, fun id hid => ?_, H.new hf (blk_arr (by simp) (by simp) (fun i j hi' _ => absurd hi' (by simp)) e), ⟨⟨w.heap.size, 0, 0⟩, _, 0, by simp [Map.set], rfl, by simp, Nat.le_refl _, fun h => absurd h (Nat.lt_irrefl _)⟩⟩
  by_cases e : id = nid
  · exact Or.inr (by simp [e])
  · exact Or.inl (by simpa [Map.set, e] using hid)
end
end Go.Proofs.Ythbighklfajmdaa.Ev
