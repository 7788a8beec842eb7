/- The frame of a law's proof: an argument that is a struct whose cells name rows, whose cells name rows, however deep. -/
import Derived.Test.YtohjifnkajhhnaaGreatEX
import Derived.Test.YtohjifnkajhhnaaGreatFs
namespace Go.Proofs.YtohjifnkajhhnaaGreat.Frame
open Go.ChangeShapes Go.WideShapes Go.ChangeAt Go.RowKit Ev
set_option linter.unusedVariables false
set_option linter.unusedSimpArgs false

section
variable {H : Type} {enc : TypeId × Value → H} {P : Program}

/-- Does cell o of a value of type t read as this column says? -/
def colK (P : Program) : Nat → TypeId → Nat → Col → Bool
  | 0, _, _, _ => false
  | n + 1, t, o, c => match P.underlying t with
    | some (.int q) => match c with
      | .i k => decide (q = k) && (o == 0)
      | _ => false
    | some .bool => match c with
      | .b => o == 0
      | _ => false
    | some (.slice e) => match c with
      | .s cols => (o == 0) && (decide (P.cellsOf e = cols.length) && (decide (0 < cols.length) && (List.range cols.length).all fun j => colK P n e j (cols.getD j .b)))
      | _ => false
    | some (.struct fs) => fs.toList.any fun f => decide (f.offset ≤ o) && decide (o < f.offset + P.cellsOf f.type) && colK P n f.type (o - f.offset) c
    | some (.array k e) => decide (0 < P.cellsOf e) && decide (o / P.cellsOf e < k) && colK P n e (o % P.cellsOf e) c
    | _ => false

/-- What a cell holds, by letters. -/
def ColV (w : World) (c : Col) (d : DV) (v : Value) : Prop :=
  match c with
  | .i k => v = .int k d.i
  | .b => v = .bool d.b
  | .s cols => DsV (fun b => w.heap[b]?) d.nl cols d.D v
def dv0 : DV := ⟨0, false, true, .no⟩

theorem deep_cell {w : World} {base : Nat} {held : Bool} (n : Nat) : ∀ (fuel : Nat) (t : TypeId) (cs : List Value) (x : DataW H × List MemPlace) (o : Nat) (c : Col),
    DataW.trod enc P w base (fun _ => true) held fuel t cs = some x → colK P n t o c = true → ((∃ a l k, Value.slice (some a) l k ∈ cs) → ∃ (b : Nat) (vs : Array Value) (ty : TypeId) (fr : Nat × Nat), w.heap[b]? = some (Obj.cells vs ty fr)) → ∃ v d, cs[o]? = some v ∧ ColV w c d v := by
  induction n with
  | zero => intro fuel t cs x o c _ h; simp [colK] at h
  | succ n ih =>
    intro fuel t cs x o c hx h hex
    unfold colK at h
    split at h
    · rename_i q hu
      split at h
      · rename_i k
        simp only [Bool.and_eq_true, decide_eq_true_eq] at h
        obtain ⟨rfl, h⟩ := h
        obtain ⟨v, rfl, _, hw⟩ := DataW.trod_int hu hx
        have h0 : o = 0 := by simpa using h
        subst h0
        exact ⟨_, ⟨v, false, true, .no⟩, rfl, rfl⟩
      · cases h
    · rename_i hu
      split at h
      · obtain ⟨v, rfl, _⟩ := DataW.trod_bool hu hx
        have h0 : o = 0 := by simpa using h
        subst h0
        exact ⟨_, ⟨0, v, true, .no⟩, rfl, rfl⟩
      · cases h
    · rename_i e hu
      split at h
      rotate_left
      · cases h
      rename_i cols
      simp only [Bool.and_eq_true, decide_eq_true_eq] at h
      obtain ⟨h0, hc, hpos, hall⟩ := h
      have h0 : o = 0 := by simpa using h0
      subst h0
      rw [List.all_eq_true] at hall
      rcases Deep.open_slice hu hx with ⟨rfl, _⟩ | ⟨a, len, cap, mm, nn, D, Pl, rfl, hb, h1, h2, h3, hx', hel⟩
      · exact ⟨_, dv0, rfl, fun _ => ⟨rfl, rfl⟩, fun e => (by cases e)⟩
      have h3 : mm = cap := by simpa using h3
      subst h3
      -- the rows' cells, by letters
      have hrow : ∀ p : Nat × Nat, ∃ q : Value × DV, p.1 < mm → p.2 < cols.length → w.cell? ((a.add (p.1 * P.cellsOf e)).add p.2) = some q.1 ∧ ColV w (cols.getD p.2 .b) q.2 q.1 := by
        rintro ⟨i, j⟩
        by_cases hi : i < mm ∧ j < cols.length
        rotate_left
        · exact ⟨(.bool false, dv0), fun g1 g2 => absurd ⟨g1, g2⟩ hi⟩
        obtain ⟨hi, hj⟩ := hi
        obtain ⟨cs', e1, e2⟩ := hel i hi
        have e1' := e1
        unfold World.cells? at e1
        split at e1
        rotate_left
        · cases e1
        obtain ⟨f1, f2⟩ := mapM_get e1
        simp only [List.length_range] at f1
        obtain ⟨v, d, g1, g2⟩ := ih _ _ _ _ j (cols.getD j .b) e2 (hall j (by simpa using hj)) (fun _ => by
          obtain ⟨b, _, g2⟩ := f2 0 0 (by rw [hc, List.getElem?_range hpos])
          unfold World.cell? at g2
          split at g2
          · rename_i cc ty fr hw; exact ⟨_, cc, ty, fr, hw⟩
          · cases g2)
        refine ⟨(v, d), fun _ _ => ⟨?_, g2⟩⟩
        obtain ⟨b, k1, k2⟩ := f2 j j (by rw [hc]; simp [hj])
        rw [g1] at k1; cases k1
        exact k2
      obtain ⟨f, hf⟩ := Classical.axiomOfChoice hrow
      rcases Nat.eq_zero_or_pos mm with hz | hz
      · -- no room at all
        subst hz
        obtain rfl : len = 0 := by omega
        obtain ⟨b, vs, ty, fr, hw⟩ := hex ⟨a, 0, 0, by simp⟩
        refine ⟨_, ⟨0, false, false, .mk 0 b 0 (fun _ _ => 0) (fun _ _ => false) (fun _ _ => true) (fun _ _ => .no)⟩, rfl, fun e => (by cases e), fun _ => ⟨DAt.of hw (fun i j c hi => absurd hi (Nat.not_lt_zero _)), a, 0, rfl, Nat.le_refl _, fun h => absurd h (Nat.lt_irrefl 0)⟩⟩
      · obtain ⟨ab, ao, asp⟩ := a
        have hw : asp = none ∧ ∃ (vs : Array Value) (ty : TypeId) (fr : Nat × Nat), w.heap[ab]? = some (Obj.cells vs ty fr) := by
          have := (hf (0, 0) hz hpos).1
          simp only [Nat.zero_mul, Addr.add, if_true] at this
          unfold World.cell? at this
          split at this
          · rename_i cc ty fr hw
            cases asp with
            | none => exact ⟨rfl, cc, ty, fr, hw⟩
            | some s => simp [Addr.add] at this
          · cases this
        obtain ⟨rfl, vs, ty, fr, hw⟩ := hw
        refine ⟨_, ⟨0, false, false, .mk len ab ao (fun i j => (f (i, j)).2.i) (fun i j => (f (i, j)).2.b) (fun i j => (f (i, j)).2.nl) (fun i j => (f (i, j)).2.D)⟩, rfl, fun e => (by cases e), fun _ => ⟨DAt.of hw (fun i j c hi hc' => ?_), ⟨ab, ao, none⟩, mm, rfl, h1, fun _ => rfl⟩⟩
        have hj : j < cols.length := (List.getElem?_eq_some_iff.1 hc').1
        obtain ⟨k1, k2⟩ := hf (i, j) (Nat.lt_of_lt_of_le hi h1) hj
        rw [add_off, add_off] at k1
        simp only [World.cell?, hw, Option.isSome_none, Bool.false_eq_true, if_false, Nat.add_assoc] at k1
        rw [hc] at k1
        refine ⟨_, k1, ?_⟩
        have hcd : cols.getD j .b = c := by rw [List.getD_eq_getElem?_getD, hc']; rfl
        simp only [hcd] at k2
        cases c with
        | i k => exact k2
        | b => exact k2
        | s cols' => exact k2
    · rename_i fs hu
      obtain ⟨xs, m, rfl, _, hlen, hxl, hf⟩ := DataW.trod_struct hu hx
      rw [List.any_eq_true] at h
      obtain ⟨f, hmem, hc⟩ := h
      simp only [Bool.and_eq_true, decide_eq_true_eq] at hc
      obtain ⟨⟨h1, h2⟩, h3⟩ := hc
      obtain ⟨i, hi⟩ := List.mem_iff_getElem?.1 hmem
      have hi' : fs[i]? = some f := by simpa using hi
      have hlt : i < fs.size := (Array.getElem?_eq_some_iff.1 hi').1
      have hg := hf i f hi'
      rw [List.getElem?_eq_getElem (by omega)] at hg
      obtain ⟨v, d, hv, hw⟩ := ih _ _ _ _ _ _ hg h3 (fun ⟨a, l, k, hm⟩ => hex ⟨a, l, k, List.mem_of_mem_drop (List.mem_of_mem_take hm)⟩)
      refine ⟨v, d, ?_, hw⟩
      rw [List.getElem?_take_of_lt (by omega), List.getElem?_drop] at hv
      rw [← hv]
      congr 1
      omega
    · rename_i k e hu
      obtain ⟨xs, m, rfl, _, hlen, hxl, hf⟩ := DataW.trod_array hu hx
      simp only [Bool.and_eq_true, decide_eq_true_eq] at h
      obtain ⟨⟨h1, h2⟩, h3⟩ := h
      have hg := hf (o / P.cellsOf e) h2
      rw [List.getElem?_eq_getElem (by omega)] at hg
      obtain ⟨v, d, hv, hw⟩ := ih _ _ _ _ _ _ hg h3 (fun ⟨a, l, k, hm⟩ => hex ⟨a, l, k, List.mem_of_mem_drop (List.mem_of_mem_take hm)⟩)
      refine ⟨v, d, ?_, hw⟩
      rw [List.getElem?_take_of_lt (Nat.mod_lt _ h1), List.getElem?_drop] at hv
      rw [← hv]
      congr 1
      rw [Nat.mul_comm]
      exact (Nat.div_add_mod o (P.cellsOf e)).symm
    · cases h

/-- A slice's cell, well formed, names a block. -/
theorem slice_hex {w : World} {r : Reach} {b0 : Nat} {u : TypeId} {a : Addr} {l k : Nat} (h : Cell.okWide P w r b0 u (.slice (some a) l k)) : ∃ (b : Nat) (vs : Array Value) (ty : TypeId) (fr : Nat × Nat), w.heap[b]? = some (Obj.cells vs ty fr) := by
  unfold Cell.okWide at h
  split at h
  all_goals first | (rename_i h0; cases h0; done) | skip
  unfold Cell.ok at h
  split at h
  all_goals first | (rename_i h0; cases h0; done) | (exact h.elim) | skip
  · obtain ⟨_, _, _, _, row, cells, h5, _⟩ := h
    unfold World.shape? at h5
    split at h5
    · rename_i c elem fr hc; exact ⟨_, c, elem, _, hc⟩
    · cases h5
/-- An argument that is such a struct. -/
theorem open_deep {w : World} {base b0 : Nat} {held : Bool} {r : Reach} {t : TypeId} {fs : Array Field} {v : Value} {d : DataW H} {p : List MemPlace} (n : Nat) (cols : List Col) (ht : P.underlying t = some (.struct fs)) (hc : P.cellsOf t = cols.length)
    (hall : (List.range cols.length).all (fun j => colK P n t j (cols.getD j .b)) = true) (hv : Value.okWide P w r b0 t v) (h : DataW.Trod enc P w base (fun _ => true) held t v d p) :
    ∃ (ws : Array Value) (f : Nat → DV), v = .agg ws ∧ ws.size = cols.length ∧ ∀ j c, cols[j]? = some c → ∃ y, ws[j]? = some y ∧ ColV w c (f j) y := by
  obtain ⟨fuel, hf⟩ := h
  simp only [Value.okWide, ht] at hv
  obtain ⟨ws, rfl, hsz, ts, _, _, hrow⟩ := hv
  have hcs : (Value.agg ws).cells.toList = ws.toList := rfl
  rw [hcs] at hf
  rw [List.all_eq_true] at hall
  have hex : (∃ a l k, Value.slice (some a) l k ∈ ws.toList) → ∃ (b : Nat) (vs : Array Value) (ty : TypeId) (fr : Nat × Nat), w.heap[b]? = some (Obj.cells vs ty fr) := by
    rintro ⟨a, l, k, hm⟩
    obtain ⟨i, hi⟩ := List.mem_iff_getElem?.1 hm
    obtain ⟨u, _, hu⟩ := hrow i _ (by simpa using hi)
    exact slice_hex hu
  have each : ∀ j : Nat, ∃ q : DV, ∀ c, cols[j]? = some c → ∃ y, ws[j]? = some y ∧ ColV w c q y := by
    intro j
    by_cases hj : j < cols.length
    · obtain ⟨y, q, h1, h2⟩ := deep_cell n _ _ _ _ j (cols.getD j .b) hf (hall j (by simpa using hj)) hex
      refine ⟨q, fun c hc' => ⟨y, by simpa using h1, ?_⟩⟩
      have hcd : cols.getD j .b = c := by rw [List.getD_eq_getElem?_getD, hc']; rfl
      rw [hcd] at h2; exact h2
    · exact ⟨dv0, fun c hc' => absurd (List.getElem?_eq_some_iff.1 hc').1 hj⟩
  obtain ⟨f, hf'⟩ := Classical.axiomOfChoice each
  exact ⟨ws, f, rfl, by rw [hsz, hc], hf'⟩
end

/-- The map of a call whose rows are only read. -/
def mapW (w : World) : Ev.Map := ⟨fun _ => none, fun _ _ => none, fun _ _ _ _ _ h => (by cases h), ⟨none, fun b => w.heap[b]?⟩⟩
/-- From the contract of a law that looks into deep rows to its walk. -/
theorem calls_deep {P : Program} {f : FuncId} {ars : List Ar} {pre : List DV → List Prop} {g : List DV → List RS} (h : Con.Ok P ⟨f, dpRun ars pre g⟩) (args : List SV) (l : List DV) (vs : List Value) (hf : flatD (fun _ => .dead) ars args = some (l, [])) (hp : ∀ p ∈ pre l, p)
    (w : World) (hd : All2 (Den (mapW w)) args vs) (hg : g l = [.val (.bool true)]) :
    Calls P f vs.toArray w (fun e w' => e = .returned (.bool true) ∧ Below w.heap.size w w') := by
  refine (h.run 0 args (fun _ => .dead) ⟨appP [] (pre l), .bool true, [], [], [], false⟩ (by simp only [dpRun, hf, hg]; rfl) (fun p hm => (appP_mem.1 hm).elim (fun h => by cases h) (hp p)) (mapW w) w vs hd (fun _ => trivial) (fun i j p q _ h1 => by cases h1) (fun k hk => rfl) rfl (fun _ _ _ _ _ _ _ h => by cases h) (fun _ _ _ h => by cases h)
    ⟨fun s s' H H' h => (by cases h), fun b o e => e, fun id p b o h => (by cases h), fun k i b o h => (by cases h)⟩).mono ?_
  rintro e w' ⟨v, m', rfl, _, hv, _, _, _, hk, _⟩
  obtain rfl : v = .bool true := hv
  exact ⟨rfl, hk.below (fun k hb => by
    rcases hb with ⟨id, hid, _⟩ | ⟨id, hid, _⟩ | ⟨h, _⟩
    · cases hid
    · cases hid
    · cases h)⟩
end Go.Proofs.YtohjifnkajhhnaaGreat.Frame
