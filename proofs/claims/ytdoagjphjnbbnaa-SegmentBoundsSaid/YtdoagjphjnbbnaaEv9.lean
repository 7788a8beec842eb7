/- The reckoning is sound, operation by operation (8): append, its state; calls; all operations together. -/
import Derived.Test.YtdoagjphjnbbnaaEv8
namespace Go.Proofs.Ytdoagjphjnbbnaa.Ev
open Go.RowKit
set_option linter.unusedVariables false
set_option linter.unusedSimpArgs false

section
variable {P : Program} {T : Tab} {B : Nat} {bad : Nat → Prop} {w0 : World} {m : Map} {st : St} {a : Act} {w : World} {rd : Nat → Blk} {r : Res}

theorem at2_cat {xs ys : List (List Int)} {len off n i : Nat} (hx : len ≤ xs.length) (hi : i < len + n) (j : Nat) :
    at2 (xs.take len ++ (ys.drop off).take n) i j = if i < len then at2 xs i j else at2 ys (off + (i - len)) j := by
  have hl : (xs.take len).length = len := by simp; omega
  by_cases h : i < len
  · rw [if_pos h, at2_left (by omega), at2_take h]
  · rw [if_neg h, at2_right (by omega), hl, at2_take (by omega), at2_drop]

def deadOf : Option Nat → List (Nat × Blk)
  | some id => [(id, .dead)]
  | none => []

/-- Both arms of an append, to a state. old: the block that is used up, if there is one. -/
theorem append_does {t t2 e e2 : TypeId} {ei : TI} {ty : TypeId} {nid : Nat} (hT : T.Ok P) (ht : P.underlying t = some (.slice e)) (ht2 : P.underlying t2 = some (.slice e2)) (hei : T.get e = some ei)
    (hzl : lenIs ei.zero ei.size = true) (hpos : 1 ≤ ei.size) (hb1 : 1 ≤ ei.bytes) (hb2 : ei.bytes ≤ 1024)
    {s x : Value} {len n off : Nat} {xs ys : List (List Int)} (S : Src m w ei.size x n ys off) (hlen : len ≤ xs.length) (hbig : len + n ≤ 4294967296) (hys : off + n ≤ ys.length) (hf : m nid = none) (H : Holds B bad w0 m st a w)
    (old : Option Nat) (ps : List Prop)
    (hs : (s = .slice none 0 0 ∧ len = 0 ∧ (∀ id, old = some id → m id ≠ none → True)) ∨ ∃ id l ad, old = some id ∧ getB st.heap id = .arr true true ei.size xs ∧ m id = some l ∧ s = .slice (some ad) len l.c ∧ len ≤ l.c ∧ (0 < l.c → ad = ⟨l.b, l.o, none⟩)) :
    Does P B bad w0 m st a w ⟨ps, .sl nid ei.size 0 (len + n), (nid, .arr true true ei.size (xs.take len ++ (ys.drop off).take n)) :: deadOf old⟩ (Builtin.append_ #[t, t2] ty #[s, x]) := by
  obtain ⟨ie, zv, hi, hbs, hby, hz, hzd⟩ := (hT e ei hei).info
  have hzd' := hzd.length
  simp only [Array.length_toList] at hzd'
  have hzz := lenIs_eq hzl
  have hll : (xs.take len ++ (ys.drop off).take n).length = len + n := by simp; omega
  have dead : ∀ (mm : Map) (h1 : List Blk) (ww : World), Holds B bad w0 mm ⟨st.tmps, h1⟩ a ww → Holds B bad w0 mm ⟨st.tmps, setBs h1 (deadOf old)⟩ a ww := fun mm h1 ww h => by
    cases old with
    | none => exact h
    | some id => exact h.dead id
  have hmem : ∀ (l : Place) id, m.set nid l id ≠ none → m id ≠ none ∨ id ∈ ((nid, Blk.arr true true ei.size (xs.take len ++ (ys.drop off).take n)) :: deadOf old).map (·.1) := fun l id hid => by
    by_cases e : id = nid
    · exact Or.inr (by simp [e])
    · exact Or.inl (by simpa [Map.set, e] using hid)
  have hlen0 : ∃ cap, (s = .slice none 0 0 ∧ len = 0 ∧ cap = 0) ∨ ∃ g ad vs ty' fr, s = .slice (some ad) len cap ∧ (0 < cap → ad = ⟨g, 0, none⟩) ∧ len ≤ cap ∧ w.heap[g]? = some (.cells vs ty' fr) ∧ (∀ i j, i < xs.length → j < ei.size → vs[i * ei.size + j]? = some (.int .i64 (at2 xs i j))) := by
    rcases hs with ⟨rfl, rfl, _⟩ | ⟨id, l, ad, h1, h2, h3, rfl, h5, h6⟩
    · exact ⟨0, Or.inl ⟨rfl, rfl, rfl⟩⟩
    · have hB := H.blk id
      rw [h2] at hB
      obtain ⟨l', vs, ty', fr, hm, hw, hd, hown⟩ := hB rfl
      rw [h3] at hm; cases hm
      obtain ⟨rfl, ho, _, _⟩ := hown rfl
      refine ⟨l.c, Or.inr ⟨l.b, ad, vs, ty', (0, 0), rfl, fun h => by rw [h6 h, ho], h5, hw, fun i j hi hj => ?_⟩⟩
      have := hd i j hi hj
      rwa [ho, Nat.zero_add] at this
  obtain ⟨cap, hcs⟩ := hlen0
  rcases run_append (ty := ty) ht ht2 hi hz hbs hby (by omega) (by omega) hb1 hb2 S hlen hbig hcs with ⟨hcap, g, ad, rfl, had, hrun⟩ | ⟨k, cells, hk, hc1, hc2, hc3, hrun⟩
  · rcases hs with ⟨h, _⟩ | ⟨id, l, ad', h1, h2, h3, h4, h5, h6⟩
    · cases h
    cases h4
    have hpn := S.pos
    have had' := had (by omega)
    have had2 := h6 (by omega)
    rw [had'] at had2
    have hgl : g = l.b := congrArg Addr.block had2
    subst hgl
    have hB := H.blk id
    rw [h2] at hB
    obtain ⟨l', vs, ty', fr, hm, hw, hd, hown⟩ := hB rfl
    have he := Option.some.inj (h3.symm.trans hm)
    subst he
    obtain ⟨rfl, ho, hvs, hxl⟩ := hown rfl
    have hsz : len * ei.size + n * ei.size ≤ vs.size := by
      rw [hvs, ← Nat.add_mul]; exact Nat.mul_le_mul_right _ hcap
    obtain ⟨w', vs', e1, e2, e3, e4, e5, e6, e7, e8, e9⟩ := store_many (P := P) (g := l.b) (off := len * ei.size) (ty := ty') (rowCells ys off ei.size n).toList 0 w vs hw (by simp [rowCells_size]; omega) (rowCells_one _ _ _ _)
    have hb : BlkH m id w' (.arr true true ei.size (xs.take len ++ (ys.drop off).take n)) := by
      refine fun _ => ⟨l, vs', ty', (0, 0), h3, e2, fun i j hi' hj => ?_, fun _ => ⟨rfl, ho, by rw [e3, hvs], by omega⟩⟩
      rw [hll] at hi'
      rw [ho, Nat.zero_add, e4, at2_cat hlen hi']
      simp only [Nat.add_zero, Array.length_toList, rowCells_size, Array.getElem?_toList]
      by_cases hin : i < len
      · have hlt : i * ei.size + j < len * ei.size := by
          have : (i + 1) * ei.size ≤ len * ei.size := Nat.mul_le_mul_right _ hin
          rw [Nat.add_mul] at this; omega
        rw [if_neg (by omega), if_pos hin]
        have := hd i j (by omega) hj
        rwa [ho, Nat.zero_add] at this
      · have hlt : (i - len) * ei.size + j < n * ei.size := by
          have : (i - len + 1) * ei.size ≤ n * ei.size := Nat.mul_le_mul_right _ (by omega)
          rw [Nat.add_mul] at this; omega
        have hsplit : i * ei.size + j = len * ei.size + ((i - len) * ei.size + j) := by
          rw [← Nat.add_assoc, ← Nat.add_mul]; congr 2; omega
        rw [if_neg hin, if_pos (by omega), hsplit, Nat.add_sub_cancel_left]
        exact rowCells_get (by omega) hj
    have H1 := H.write h3 (by rw [h2]; rfl) hb e5 e6 e7 e8 e9
    have H2 := H1.rename hf h3
    refine ⟨_, w', m.set nid l, hrun w' e1, Map.le_set hf _, hmem l, ?_, ⟨l, _, l.c, by simp [Map.set], rfl, by simp, hcap, fun _ => by rw [ho]; simp⟩⟩
    refine H2.ext (Nat.le_refl _) (fun t => rfl) (fun i => ?_)
    rw [h1]
    simp only [deadOf, setBs, getB_setB]
    by_cases ei' : i = id
    · simp [ei']
    · by_cases ei2 : i = nid
      · simp [ei', ei2]
      · simp [ei', ei2]
  · have hsz0 : w.drew.heap.size = w.heap.size := rfl
    have Hd : Holds B bad w0 m st a w.drew := H.drew
    have hb : BlkH (m.set nid ⟨w.drew.heap.size, 0, k⟩) nid (w.drew.alloc (.cells cells e)) (.arr true true ei.size (xs.take len ++ (ys.drop off).take n)) := by
      refine blk_arr hc1 (by omega) (fun i j hi' hj => ?_) e
      rw [hll] at hi'
      rw [at2_cat hlen hi']
      by_cases hin : i < len
      · rw [if_pos hin]; exact hc2 i j hin hj
      · rw [if_neg hin]
        have := hc3 (i - len) j (by omega) hj
        rwa [show len + (i - len) = i by omega] at this
    refine ⟨_, _, m.set nid ⟨w.drew.heap.size, 0, k⟩, hrun, Map.le_set hf _, hmem _, ?_, ⟨⟨w.drew.heap.size, 0, k⟩, _, k, by simp [Map.set], rfl, by simp, hk, fun _ => by simp [hsz0]⟩⟩
    simp only [setBs]
    exact dead _ _ _ (Hd.new hf hb)

theorem sound_append {nid : Nat} {ts : Array TypeId} {ty : TypeId} {s x : SV} {sv xv : Value} (hT : T.Ok P) (hrd : ∀ id, rd id = getB st.heap id ∨ rd id = .dead) (he : effAppend T rd nid ts s x = some r) (hp : ∀ q ∈ r.pre, q) (hf : m nid = none)
    (hs : Den m s sv) (hx : Den m x xv) (H : Holds B bad w0 m st a w) : Does P B bad w0 m st a w r (Builtin.append_ ts ty #[sv, xv]) := by
  unfold effAppend at he
  split at he
  rotate_left
  · cases he
  rename_i t t2 hts
  have hts' : ts = #[t, t2] := by apply Array.ext'; rw [hts]
  subst hts'
  split at he
  rotate_left
  · cases he
  rename_i e _ _ _ _ hti
  have ht := (hT t _ hti).kind
  simp only [KindOk] at ht
  split at he
  rotate_left
  · cases he
  rename_i ei hei
  split at he
  rotate_left
  · cases he
  rename_i e2 _ _ _ _ hti2
  have ht2 := (hT t2 _ hti2).kind
  simp only [KindOk] at ht2
  split at he
  rotate_left
  · cases he
  split at he
  rotate_left
  · cases he
  rename_i hg
  simp only [Bool.and_eq_true] at hg
  obtain ⟨⟨⟨g1, g2⟩, g3⟩, g4⟩ := hg
  have hpos : 1 ≤ ei.size := Nat.le_of_ble_eq_true g2
  have hb2 : ei.bytes ≤ 1024 := Nat.le_of_ble_eq_true g3
  have hb1 : 1 ≤ ei.bytes := Nat.le_of_ble_eq_true g4
  split at he
  rotate_left
  · cases he
  rename_i jd esz2 off2 len2
  split at he
  rotate_left
  · cases he
  rename_i hq2
  obtain rfl := Nat.eq_of_beq_eq_true hq2
  split at he
  rotate_left
  · cases he
  rename_i ow2 ok2 esz3 ys hys
  split at he
  rotate_left
  · cases he
  rename_i hq3
  obtain rfl := Nat.eq_of_beq_eq_true hq3
  have hBj := H.blk jd
  have hrj : getB st.heap jd = .arr ow2 ok2 ei.size ys := by
    rcases hrd jd with h | h
    · rw [← h]; exact hys
    · rw [h] at hys; cases hys
  rw [hrj] at hBj
  split at he
  · cases he
    have p1 : ok2 = true := hp _ (by simp)
    have p2 : 0 < len2 := hp _ (by simp)
    have p3 : off2 + len2 ≤ ys.length := hp _ (by simp)
    have p4 : len2 ≤ 4294967296 := hp _ (by simp)
    obtain rfl := nils_den hs
    have := append_does (ty := ty) (len := 0) (xs := []) hT ht ht2 hei g1 hpos hb1 hb2 (src_of hBj hx p1 p2 p3) (Nat.zero_le _) (by omega) p3 hf H none [ok2 = true, 0 < len2, off2 + len2 ≤ ys.length, len2 ≤ 4294967296] (Or.inl ⟨rfl, rfl, fun _ _ _ => trivial⟩)
    simpa only [deadOf, Nat.zero_add, List.take_nil, List.nil_append] using this
  · rename_i id esz off len
    split at he
    rotate_left
    · cases he
    rename_i ok esz' xs hxs
    split at he
    rotate_left
    · cases he
    rename_i hq
    simp only [Bool.and_eq_true] at hq
    obtain rfl := Nat.eq_of_beq_eq_true hq.1.1
    obtain rfl := Nat.eq_of_beq_eq_true hq.1.2
    cases he
    have p0 : ok = true := hp _ (by simp)
    have p1 : off = 0 := hp _ (by simp)
    have p2 : len ≤ xs.length := hp _ (by simp)
    have p3 : ok2 = true := hp _ (by simp)
    have p4 : 0 < len2 := hp _ (by simp)
    have p5 : off2 + len2 ≤ ys.length := hp _ (by simp)
    have p6 : len + len2 ≤ 4294967296 := hp _ (by simp)
    subst p0; subst p1
    have hri : getB st.heap id = .arr true true ei.size xs := by
      rcases hrd id with h | h
      · rw [← h]; exact hxs
      · rw [h] at hxs; cases hxs
    obtain ⟨l, ad, c, hm, rfl, hc, hlc, had⟩ := hs
    have hc' : c = l.c := by omega
    subst hc'
    exact append_does (ty := ty) hT ht ht2 hei g1 hpos hb1 hb2 (src_of hBj hx p3 p4 p5) p2 p6 p5 hf H (some id) _ (Or.inr ⟨id, l, ad, rfl, hri, hm, rfl, hlc, fun h => by rw [had h]; simp⟩)
  · rename_i b id esz len
    split at he
    rotate_left
    · cases he
    rename_i ok esz' xs hxs
    split at he
    rotate_left
    · cases he
    rename_i hq
    simp only [Bool.and_eq_true] at hq
    obtain rfl := Nat.eq_of_beq_eq_true hq.1.1
    obtain rfl := Nat.eq_of_beq_eq_true hq.1.2
    cases he
    have p0 : b = false → ok = true := hp _ (by simp)
    have p1 : b = true → xs.take len = [] := hp _ (by simp)
    have p2 : len ≤ xs.length := hp _ (by simp)
    have p3 : ok2 = true := hp _ (by simp)
    have p4 : 0 < len2 := hp _ (by simp)
    have p5 : off2 + len2 ≤ ys.length := hp _ (by simp)
    have p6 : len + len2 ≤ 4294967296 := hp _ (by simp)
    have hri : getB st.heap id = .arr true ok ei.size xs := by
      rcases hrd id with h | h
      · rw [← h]; exact hxs
      · rw [h] at hxs; cases hxs
    cases b
    · have p0' := p0 rfl
      subst p0'
      obtain ⟨l, ad, c, hm, rfl, rfl, hlc, had⟩ := hs.2 rfl
      exact append_does (ty := ty) hT ht ht2 hei g1 hpos hb1 hb2 (src_of hBj hx p3 p4 p5) p2 p6 p5 hf H (some id) _ (Or.inr ⟨id, l, ad, rfl, hri, hm, rfl, hlc, had⟩)
    · obtain ⟨rfl, rfl⟩ := hs.1 rfl
      exact append_does (ty := ty) hT ht ht2 hei g1 hpos hb1 hb2 (src_of hBj hx p3 p4 p5) p2 p6 p5 hf H (some id) _ (Or.inl ⟨rfl, rfl, fun _ _ _ => trivial⟩)
  · cases he
end
end Go.Proofs.Ytdoagjphjnbbnaa.Ev
