/- The frame of a law's proof: an argument that is a slice of rows whose columns are numbers of given kinds. -/
import Derived.Test.YtkfaflhhkmkdjaaEvW
import Derived.Test.YtkfaflhhkmkdjaaFs
namespace Go.Proofs.Ytkfaflhhkmkdjaa.Frame
open Go.ChangeShapes Go.WideShapes Go.ChangeAt Go.RowKit Ev
set_option linter.unusedVariables false
set_option linter.unusedSimpArgs false

section
variable {H : Type} {enc : TypeId × Value → H} {P : Program}

/-- Is cell o of a value of type t a number of kind q? -/
def cellK (P : Program) : Nat → TypeId → Nat → IntKind → Bool
  | 0, _, _, _ => false
  | n + 1, t, o, q => match P.underlying t with
    | some (.int q') => decide (q' = q) && (o == 0)
    | some (.struct fs) => fs.toList.any fun f => decide (f.offset ≤ o) && decide (o < f.offset + P.cellsOf f.type) && cellK P n f.type (o - f.offset) q
    | _ => false

theorem cellK_of {w : World} {base : Nat} {spare : Nat → Bool} {held : Bool} (n : Nat) : ∀ (fuel : Nat) (t : TypeId) (cs : List Value) (x : DataW H × List MemPlace) (o : Nat) (q : IntKind),
    DataW.trod enc P w base spare held fuel t cs = some x → cellK P n t o q = true → ∃ v, cs[o]? = some (.int q v) ∧ (Lit.int q v).wf = true := by
  induction n with
  | zero => intro fuel t cs x o q _ h; simp [cellK] at h
  | succ n ih =>
    intro fuel t cs x o q hx h
    unfold cellK at h
    split at h
    · rename_i q' hu
      simp only [Bool.and_eq_true, decide_eq_true_eq] at h
      obtain ⟨rfl, h⟩ := h
      obtain ⟨v, rfl, _, hw⟩ := DataW.trod_int hu hx
      have h0 : o = 0 := by simpa using h
      subst h0
      exact ⟨v, rfl, hw⟩
    · rename_i fs hu
      obtain ⟨xs, m, rfl, _, hlen, hxl, hf⟩ := DataW.trod_struct hu hx
      rw [List.any_eq_true] at h
      obtain ⟨f, hmem, hc⟩ := h
      simp only [Bool.and_eq_true, decide_eq_true_eq] at hc
      obtain ⟨⟨h1, h2⟩, h3⟩ := hc
      obtain ⟨i, hi⟩ := List.mem_iff_getElem?.1 hmem
      have hi' : fs[i]? = some f := by simpa using hi
      have hlt : i < fs.size := (Array.getElem?_eq_some_iff.1 hi').1
      have hg := hf i f hi'
      rw [List.getElem?_eq_getElem (by omega)] at hg
      obtain ⟨v, hv, hw⟩ := ih _ _ _ _ _ _ hg h3
      refine ⟨v, ?_, hw⟩
      rw [List.getElem?_take_of_lt (by omega), List.getElem?_drop] at hv
      rw [← hv]
      congr 1
      omega
    · cases h

/-- An argument that is a slice of rows of numbers of the kinds ks. -/
theorem open_rowsK {w : World} {base b0 : Nat} {spare : Nat → Bool} {held : Bool} {r : Reach} {t e : TypeId} {v : Value} {d : DataW H} {p : List MemPlace} (n : Nat) (ks : List IntKind) (ht : P.underlying t = some (.slice e)) (hc : P.cellsOf e = ks.length)
    (hall : (List.range ks.length).all (fun o => cellK P n e o (ks.getD o .i64)) = true) (hv : Value.okWide P w r b0 t v) (h : DataW.Trod enc P w base spare held t v d p) :
    v = .slice none 0 0 ∨ ∃ (xs : List (List Int)) (q : Ev.Place), (∀ i j k, i < xs.length → ks[j]? = some k → (Lit.int k (at2 xs i j)).wf = true) ∧
      ∀ (m : Ev.Map) (k : Nat), m k = some q → Den m (.sl k ks.length 0 xs.length) v ∧ BlkH m k w (.arrk ks xs) := by
  obtain ⟨fuel, hf⟩ := h
  have hcell : v = .slice none 0 0 ∨ ∃ a len cap, v = .slice (some a) len cap ∧ len ≤ cap ∧ a.spot = none ∧ ∃ vs ty fr, w.heap[a.block]? = some (.cells vs ty fr) := by
    simp only [Value.okWide, ht, Cell.okWide] at hv
    unfold Cell.ok at hv
    rw [ht] at hv
    split at hv <;> simp_all
    · obtain ⟨h1, h2, h3, h4, h5⟩ := hv
      obtain ⟨row, cells, h5, _⟩ := h5
      unfold World.shape? at h5
      split at h5
      · rename_i c elem fr hc; exact ⟨_, _, _, ⟨rfl, rfl, rfl⟩, h1, h4, c, elem, _, _, hc⟩
      · cases h5
  rcases hcell with rfl | ⟨a, len, cap, rfl, hlc, hsp, vs, ty, fr, hw⟩
  · exact .inl rfl
  right
  obtain ⟨ab, ao, asp⟩ := a
  simp only at hsp hw
  subst hsp
  have hcs : (Value.slice (some ⟨ab, ao, none⟩) len cap).cells.toList = [.slice (some ⟨ab, ao, none⟩) len cap] := rfl
  rw [hcs] at hf
  rcases Deep.open_slice ht hf with ⟨h0, _⟩ | ⟨a', len', cap', mm, nn, D, Pl, h0, hb, h1, h2, h3, hx, hel⟩
  · simp at h0
  simp only [List.cons.injEq, and_true, Value.slice.injEq, Option.some.injEq] at h0
  obtain ⟨rfl, rfl, rfl⟩ := h0
  have hmm : len ≤ mm := by rw [h3]; split <;> omega
  have hrow : ∀ i, i < len → ∃ l : List Int, ∀ j k, ks[j]? = some k → vs[ao + (i * ks.length + j)]? = some (.int k (l.getD j 0)) ∧ (Lit.int k (l.getD j 0)).wf = true := by
    intro i hi
    obtain ⟨cs', e1, e2⟩ := hel i (by omega)
    unfold World.cells? at e1
    split at e1
    rotate_left
    · cases e1
    obtain ⟨f1, f2⟩ := mapM_get e1
    simp only [List.length_range] at f1
    rw [List.all_eq_true] at hall
    have hcell : ∀ j, j < ks.length → ∃ y, cs'[j]? = some (.int (ks.getD j .i64) y) ∧ (Lit.int (ks.getD j .i64) y).wf = true := fun j hj => cellK_of n _ _ _ _ j _ e2 (hall j (by simpa using hj))
    let g : Nat → Int := fun j => if h : j < ks.length then (hcell j h).choose else 0
    refine ⟨(List.range ks.length).map g, fun j k hk => ?_⟩
    have hj : j < ks.length := (List.getElem?_eq_some_iff.1 hk).1
    have hkd : ks.getD j .i64 = k := by rw [List.getD_eq_getElem?_getD, hk]; rfl
    have hg : ((List.range ks.length).map g).getD j 0 = g j := by rw [List.getD_eq_getElem?_getD]; simp [hj]
    have hgs := (hcell j hj).choose_spec
    have hgj : g j = (hcell j hj).choose := by simp only [g, dif_pos hj]
    rw [← hgj, hkd] at hgs
    rw [hg]
    refine ⟨?_, hgs.2⟩
    obtain ⟨b, g1, g2⟩ := f2 j j (by rw [hc]; simp [hj])
    rw [hgs.1] at g1
    cases g1
    have hca : w.cell? (((⟨ab, ao, none⟩ : Addr).add (i * P.cellsOf e)).add j) = vs[ao + (i * ks.length + j)]? := by
      rw [add_off, add_off, hc]
      simp only [World.cell?, hw, Option.isSome_none, Bool.false_eq_true, if_false, Nat.add_assoc]
    rw [hca] at g2
    exact g2
  let f : Nat → List Int := fun i => if h : i < len then (hrow i h).choose else []
  have hfi : ∀ i, i < len → ∀ j k, ks[j]? = some k → vs[ao + (i * ks.length + j)]? = some (.int k ((f i).getD j 0)) ∧ (Lit.int k ((f i).getD j 0)).wf = true := fun i hi => by
    have := (hrow i hi).choose_spec
    simpa only [f, dif_pos hi] using this
  have hlen : ((List.range len).map f).length = len := by simp
  have hat : ∀ i j, i < len → at2 ((List.range len).map f) i j = (f i).getD j 0 := fun i j hi => by simp [at2, hi]
  refine ⟨(List.range len).map f, ⟨ab, ao, cap⟩, fun i j k hi hk => ?_, fun m k hk => ⟨⟨_, ⟨ab, ao, none⟩, cap, hk, by rw [hlen], by simp, by rw [hlen]; exact hlc, fun _ => by simp⟩, ⟨_, vs, ty, fr, hk, hw, fun i j k hi hk => ?_⟩⟩⟩
  · rw [hlen] at hi
    rw [hat i j hi]; exact (hfi i hi j k hk).2
  · rw [hlen] at hi
    rw [hat i j hi]
    exact (hfi i hi j k hk).1
end
end Go.Proofs.Ytkfaflhhkmkdjaa.Frame
