/- The reckoning is sound, operation by operation (7): append. -/
import Derived.Test.YtdoagjphjnbbnaaEv7
namespace Go.Proofs.Ytdoagjphjnbbnaa.Ev
open Go.RowKit
set_option linter.unusedVariables false
set_option linter.unusedSimpArgs false

section
variable {P : Program} {T : Tab} {B : Nat} {bad : Nat → Prop} {w0 : World} {m : Map} {st : St} {a : Act} {w : World} {rd : Nat → Blk} {r : Res}

/-- The cells of n elements of a row, from element off on. -/
def rowCells (xs : List (List Int)) (off esz n : Nat) : Array Value := ((List.range (n * esz)).map fun k => Value.int .i64 (at2 xs (off + k / esz) (k % esz))).toArray
theorem rowCells_size (xs : List (List Int)) (off esz n : Nat) : (rowCells xs off esz n).size = n * esz := by simp [rowCells]
theorem rowCells_get {xs : List (List Int)} {off esz n i j : Nat} (hi : i < n) (hj : j < esz) : (rowCells xs off esz n)[i * esz + j]? = some (.int .i64 (at2 xs (off + i) j)) := by
  have hlt : i * esz + j < n * esz := by
    have : (i + 1) * esz ≤ n * esz := Nat.mul_le_mul_right _ hi
    rw [Nat.add_mul] at this; omega
  have h1 : (i * esz + j) / esz = i := by
    rw [Nat.add_comm, Nat.add_mul_div_right _ _ (by omega), Nat.div_eq_of_lt hj, Nat.zero_add]
  have h2 : (i * esz + j) % esz = j := by
    rw [Nat.add_comm, Nat.add_mul_mod_self_right, Nat.mod_eq_of_lt hj]
  simp [rowCells, hlt, h1, h2]
theorem rowCells_one (xs : List (List Int)) (off esz n : Nat) : ∀ u ∈ (rowCells xs off esz n).toList, u.oneCell' = true := by
  intro u hu
  simp only [rowCells, List.mem_map] at hu
  obtain ⟨k, _, rfl⟩ := hu
  rfl

theorem load_row {g o off esz n : Nat} {xs : List (List Int)} {vs : Array Value} {ty : TypeId} {fr : Nat × Nat} (hw : w.heap[g]? = some (.cells vs ty fr)) (hz : 0 < esz)
    (h : ∀ i j, i < xs.length → j < esz → vs[o + (i * esz + j)]? = some (.int .i64 (at2 xs i j))) (hn : off + n ≤ xs.length) :
    (loadCells ⟨g, o + off * esz, none⟩ (n * esz)).run P w = .ok (rowCells xs off esz n) w := by
  refine run_loadCells w _ _ _ (fun k hk => ?_)
  have hj : k % esz < esz := Nat.mod_lt _ hz
  have hi : k / esz < n := (Nat.div_lt_iff_lt_mul hz).2 hk
  rw [add_off, cell_of hw, ← h (off + k / esz) (k % esz) (by omega) hj]
  congr 1
  have := Nat.div_add_mod k esz
  rw [Nat.add_mul, Nat.mul_comm (k / esz) esz]; omega

theorem at2_take {xs : List (List Int)} {n i : Nat} (h : i < n) (j : Nat) : at2 (xs.take n) i j = at2 xs i j := by
  simp [at2, List.getElem?_take_of_lt h]
theorem at2_drop (xs : List (List Int)) (n i j : Nat) : at2 (xs.drop n) i j = at2 xs (n + i) j := by
  simp [at2]
theorem at2_left {xs ys : List (List Int)} {i : Nat} (h : i < xs.length) (j : Nat) : at2 (xs ++ ys) i j = at2 xs i j := by
  simp [at2, List.getElem?_append_left h]
theorem at2_right {xs ys : List (List Int)} {i : Nat} (h : xs.length ≤ i) (j : Nat) : at2 (xs ++ ys) i j = at2 ys (i - xs.length) j := by
  simp [at2, List.getElem?_append_right h]

theorem next_le (need cap : Nat) (h : cap < need) : Builtin.nextslicecap need cap ≤ 4 * need + 4000 := by
  unfold Builtin.nextslicecap
  split
  · omega
  · split
    · omega
    · have g : ∀ (k c : Nat), Builtin.growBy need k c ≤ max c (need + (need + 768) / 4) := by
        intro k
        induction k with
        | zero => intro c; simp [Builtin.growBy]; omega
        | succ k ih =>
          intro c
          simp only [Builtin.growBy]
          split
          · omega
          · have := ih (c + (c + 768) / 4); omega
      have := g 4 cap
      omega

/-- The elements that are appended: where they lie. -/
structure Src (m : Map) (w : World) (esz : Nat) (x : Value) (n : Nat) (ys : List (List Int)) (off : Nat) : Prop where
  pos : 0 < n
  lies : ∃ b o k vs ty fr, x = .slice (some ⟨b, o + off * esz, none⟩) n k ∧ w.heap[b]? = some (.cells vs ty fr) ∧ (∀ i j, i < ys.length → j < esz → vs[o + (i * esz + j)]? = some (.int .i64 (at2 ys i j)))
  le : off + n ≤ ys.length

theorem src_of {jd esz off n : Nat} {ow ok : Bool} {ys : List (List Int)} {x : Value} (hB : BlkH m jd w (.arr ow ok esz ys)) (hx : Den m (.sl jd esz off n) x) (hok : ok = true) (hn : 0 < n) (hle : off + n ≤ ys.length) : Src m w esz x n ys off := by
  obtain ⟨l, vs, ty, fr, hm, hw, hd, _⟩ := hB hok
  obtain ⟨l', ad, c, hm', rfl, hc, hlc, had⟩ := hx
  rw [hm] at hm'; cases hm'
  refine ⟨hn, ⟨l.b, l.o, c, vs, ty, fr, ?_, hw, hd⟩, hle⟩
  rw [had (by omega)]

/-- append, whole: what it runs to. base: nil (len = cap = 0), or the head of block g, whose first cells are xs. -/
theorem run_append {t t2 e e2 : TypeId} {ei : TI} {ie : TypeInfo} {zv : Value} {ty : TypeId} (ht : P.underlying t = some (.slice e)) (ht2 : P.underlying t2 = some (.slice e2)) (hi : P.info? e = some ie) (hz : ie.zero = some zv)
    (hsz : ie.size = ei.size) (hby : ie.bytes = ei.bytes) (hzl : zv.cells.size = ei.size) (hpos : 0 < ei.size) (hb1 : 1 ≤ ei.bytes) (hb2 : ei.bytes ≤ 1024)
    {s x : Value} {len cap n off : Nat} {xs ys : List (List Int)} (S : Src m w ei.size x n ys off) (hlen : len ≤ xs.length) (hbig : len + n ≤ 4294967296)
    (hs : (s = .slice none 0 0 ∧ len = 0 ∧ cap = 0) ∨ ∃ g ad vs ty' fr, s = .slice (some ad) len cap ∧ (0 < cap → ad = ⟨g, 0, none⟩) ∧ len ≤ cap ∧ w.heap[g]? = some (.cells vs ty' fr) ∧ (∀ i j, i < xs.length → j < ei.size → vs[i * ei.size + j]? = some (.int .i64 (at2 xs i j)))) :
    (len + n ≤ cap ∧ ∃ g ad, s = .slice (some ad) len cap ∧ (0 < cap → ad = ⟨g, 0, none⟩) ∧ ∀ w', (storeCells ⟨g, len * ei.size, none⟩ (rowCells ys off ei.size n).toList 0).run P w = .ok () w' →
        (Builtin.append_ #[t, t2] ty #[s, x]).run P w = .ok (.slice (some ⟨g, 0, none⟩) (len + n) cap) w') ∨
    (∃ k cells, len + n ≤ k ∧ cells.size = k * ei.size ∧ (∀ i j, i < len → j < ei.size → cells[i * ei.size + j]? = some (.int .i64 (at2 xs i j))) ∧ (∀ i j, i < n → j < ei.size → cells[(len + i) * ei.size + j]? = some (.int .i64 (at2 ys (off + i) j))) ∧
        (Builtin.append_ #[t, t2] ty #[s, x]).run P w = .ok (.slice (some ⟨w.heap.size, 0, none⟩) (len + n) k) (w.drew.alloc (.cells cells e))) := by
  obtain ⟨hn, ⟨xb, xo, xk, xvs, xty, xfr, rfl, hxw, hxd⟩, hxle⟩ := S
  have hI : ∀ w, (typeInfo e).run P w = .ok ie w := fun w => by simp [typeInfo, hi]
  have hS : ∀ w, (sizeOf e).run P w = .ok ei.size w := fun w => by simp [sizeOf, hI, hsz]
  have hZ : ∀ w, (zeroValue e).run P w = .ok zv w := fun w => by simp [zeroValue, hI, hz]
  have hnew : (Builtin.firstCells ei.size n (.slice (some ⟨xb, xo + off * ei.size, none⟩) n xk)).run P w = .ok (rowCells ys off ei.size n) w := load_row hxw hpos hxd hxle
  have hnew' : (Builtin.firstCells ei.size n (.slice (some ⟨xb, xo + off * ei.size, none⟩) n xk)).run P w.drew = .ok (rowCells ys off ei.size n) w.drew := load_row (w := w.drew) hxw hpos hxd hxle
  have hgrow : cap < len + n → ∃ k, len + n ≤ k ∧ (choose (.appendCap (len + n) cap e)).run P w = .ok k w.drew := fun hc => by
    refine ⟨(Question.appendCap (len + n) cap e).cut (w.tape w.drawn (.appendCap (len + n) cap e)), ?_, ?_⟩
    · simp [Question.cut]
    · rfl
  have hcell : ∀ (old : Array Value) (k : Nat), old.size = len * ei.size → len + n ≤ k →
      (old ++ rowCells ys off ei.size n ++ Builtin.zeroCells zv.cells (k - (len + n))).size = k * ei.size ∧
      (∀ i j, i < n → j < ei.size → (old ++ rowCells ys off ei.size n ++ Builtin.zeroCells zv.cells (k - (len + n)))[(len + i) * ei.size + j]? = some (.int .i64 (at2 ys (off + i) j))) := fun old k ho hk => by
    have e1 : (len + n) * ei.size + (k - (len + n)) * ei.size = k * ei.size := by rw [← Nat.add_mul]; congr 1; omega
    refine ⟨?_, fun i j hi' hj => ?_⟩
    · simp only [Array.size_append, ho, rowCells_size, Builtin.zeroCells, Array.size_map, Array.size_range, hzl]
      rw [← Nat.add_mul]; exact e1
    · have h1 : i * ei.size + j < n * ei.size := by
        have : (i + 1) * ei.size ≤ n * ei.size := Nat.mul_le_mul_right _ hi'
        rw [Nat.add_mul] at this; omega
      have h2 : (len + i) * ei.size + j = len * ei.size + (i * ei.size + j) := by rw [Nat.add_mul]; omega
      rw [h2, Array.getElem?_append_left (by rw [Array.size_append, ho, rowCells_size]; omega), Array.getElem?_append_right (by omega), ho, Nat.add_sub_cancel_left]
      exact rowCells_get hi' hj
  have hnb : ∀ c, c < len + n → ¬ (2 : Nat) ^ 48 < Builtin.nextslicecap (len + n) c * ei.bytes := fun c hc => by
    have h1 := next_le (len + n) c hc
    have h2 : Builtin.nextslicecap (len + n) c * ei.bytes ≤ (4 * (len + n) + 4000) * 1024 := Nat.mul_le_mul h1 hb2
    omega
  rcases hs with ⟨rfl, rfl, rfl⟩ | ⟨g, ad, vs, ty', fr, rfl, had, hlc, hgw, hgd⟩
  · right
    obtain ⟨k, hk1, hk2⟩ := hgrow (by omega)
    obtain ⟨c1, c2⟩ := hcell #[] k (by simp) hk1
    refine ⟨k, _, hk1, c1, fun i j hi' => absurd hi' (Nat.not_lt_zero _), c2, ?_⟩
    simp only [Nat.zero_add] at *
    have hlt : ¬ n ≤ 0 := by omega
    have hb0 : ¬ ei.bytes = 0 := by omega
    have hnb' := hnb 0 (by omega)
    have hold : (Builtin.firstCells ei.size 0 (.slice none 0 0)).run P w.drew = .ok #[] w.drew := by simp [Builtin.firstCells]
    simp only [Builtin.append_, Sem.run_bind, run_underlying ht, Result.andThen_ok, hS, Sem.run_pure, List.getElem?_toArray, List.getElem?_cons_zero, List.getElem?_cons_succ, run_underlying ht2, Bool.false_eq_true, if_false, Builtin.lenOf, Nat.zero_add, Sem.run_ite, if_neg hlt, hI, hby, hb0, or_self, and_false, hnb', hk2, run_askRoom, hold, hnew', hZ, newRow, run_newObj, Bool.not_false, if_true]
    rfl
  · by_cases hcap : len + n ≤ cap
    · left
      refine ⟨hcap, g, ad, rfl, had, fun w' hw' => ?_⟩
      have had' := had (by omega)
      subst had'
      simp only [Builtin.append_, Sem.run_bind, run_underlying ht, Result.andThen_ok, hS, Sem.run_pure, List.getElem?_toArray, List.getElem?_cons_zero, List.getElem?_cons_succ, run_underlying ht2, Bool.false_eq_true, if_false, Builtin.lenOf, Sem.run_ite, if_pos hcap, hnew, add_off, Nat.zero_add, hw', Bool.not_false, if_true]
    · right
      obtain ⟨k, hk1, hk2⟩ := hgrow (by omega)
      have hold : (Builtin.firstCells ei.size len (.slice (some ad) len cap)).run P w.drew = .ok (rowCells xs 0 ei.size len) w.drew := by
        by_cases hc0 : 0 < cap
        · have had' := had hc0
          subst had'
          have := load_row (P := P) (w := w.drew) (g := g) (o := 0) (off := 0) (esz := ei.size) (n := len) (xs := xs) hgw hpos (fun i j h1 h2 => by rw [Nat.zero_add]; exact hgd i j h1 h2) (by omega)
          simpa [Builtin.firstCells] using this
        · have hl0 : len = 0 := by omega
          subst hl0
          simp [Builtin.firstCells, loadCells, loadCellsFrom, rowCells]
      obtain ⟨c1, c2⟩ := hcell (rowCells xs 0 ei.size len) k (rowCells_size _ _ _ _) hk1
      refine ⟨k, _, hk1, c1, fun i j hi' hj => ?_, c2, ?_⟩
      · have h1 : i * ei.size + j < len * ei.size := by
          have : (i + 1) * ei.size ≤ len * ei.size := Nat.mul_le_mul_right _ hi'
          rw [Nat.add_mul] at this; omega
        rw [Array.getElem?_append_left (by rw [Array.size_append, rowCells_size]; omega), Array.getElem?_append_left (by rw [rowCells_size]; omega)]
        have := rowCells_get (xs := xs) (off := 0) hi' hj
        rwa [Nat.zero_add] at this
      · have hb0 : ¬ ei.bytes = 0 := by omega
        have hnb' := hnb cap (by omega)
        simp only [Builtin.append_, Sem.run_bind, run_underlying ht, Result.andThen_ok, hS, Sem.run_pure, List.getElem?_toArray, List.getElem?_cons_zero, List.getElem?_cons_succ, run_underlying ht2, Bool.false_eq_true, if_false, Builtin.lenOf, Sem.run_ite, if_neg hcap, hI, hby, hb0, or_self, and_false, hnb', hk2, run_askRoom, hold, hnew', hZ, newRow, run_newObj, Bool.not_false, if_true]
        rfl
end
end Go.Proofs.Ytdoagjphjnbbnaa.Ev
