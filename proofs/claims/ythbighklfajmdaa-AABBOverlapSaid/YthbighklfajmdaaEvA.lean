/- The reckoning is sound: contracts; all operations together. -/
import Derived.Test.YthbighklfajmdaaEv9
namespace Go.Proofs.Ythbighklfajmdaa.Ev
open Go.RowKit
set_option linter.unusedVariables false
set_option linter.unusedSimpArgs false

/-- The places of the blocks that a call uses up. -/
def usedAt (m : Map) (l : List Nat) (k : Nat) : Prop := ∃ id ∈ l, ∃ p, m id = some p ∧ p.b = k

/-- What a contract says of a call. -/
def CallPost (rd : Nat → Blk) (m : Map) (nid : Nat) (r : CRes) (w : World) (e : Ending) (w' : World) : Prop :=
  ∃ v m', e = .returned v ∧ (∀ id, (id < nid ∨ nid + r.nb.length ≤ id) → m' id = m id) ∧ Den m' r.val v ∧ (∀ k b, r.nb[k]? = some b → BlkH m' (nid + k) w' b) ∧
    (∀ k b p, r.nb[k]? = some b → b.live = true → m' (nid + k) = some p → w.heap.size ≤ p.b ∨ usedAt m r.used p.b ∨ (b.own = false ∧ ∃ id q, (rd id).own = false ∧ (rd id).live = true ∧ m id = some q ∧ q.b = p.b)) ∧
    (∀ k k' b b' p p', k ≠ k' → r.nb[k]? = some b → r.nb[k']? = some b' → b.own = true → b'.live = true → m' (nid + k) = some p → m' (nid + k') = some p' → p.b ≠ p'.b) ∧
    Kept w.heap.size (usedAt m r.used) w w'

structure Con.Ok (P : Program) (c : Con) : Prop where
  fn : ∃ fn, P.funcs[c.f]? = some fn ∧ fn.body.isSome = true ∧ (fn.name == "runtime.NumGoroutine") = false
  run : ∀ (nid : Nat) (args : List SV) (rd : Nat → Blk) (r : CRes), c.run nid args rd = some r → (∀ p ∈ r.pre, p) → ∀ (m : Map) (w : World) (vs : List Value), All2 (Den m) args vs →
    (∀ id, BlkH m id w (rd id)) → (∀ i j p q, i ≠ j → (rd i).own = true → (rd j).live = true → m i = some p → m j = some q → p.b ≠ q.b) → (∀ k, k < r.nb.length → m (nid + k) = none) → (∀ id ∈ r.used, (rd id).own = true) →
    Calls P c.f vs.toArray w (CallPost rd m nid r w)

def Cons.Ok (P : Program) (C : List Con) : Prop := ∀ c ∈ C, c.Ok P

section
variable {P : Program} {T : Tab} {C : List Con} {B : Nat} {bad : Nat → Prop} {w0 : World} {m : Map} {st : St} {a : Act} {w : World} {rd : Nat → Blk} {r : Res}

theorem Does.after {s : Sem Value} (h : Does P B bad w0 m st a w r s) (dst : Option Tmp) : ∃ v w', s.run P w = .ok v w' ∧ After B bad w0 m (st.app dst r) (r.wr.map (·.1)) (a.put dst v) w' := by
  obtain ⟨v, w', m', h1, h2, h3, h4, h5⟩ := h
  exact ⟨v, w', h1, m', h2, h3, h4.put dst h5⟩

theorem wp_of_does {o : Oper} {Q : Exit → Act → World → Prop} {s : Sem Value} (hx : execOp a.eval o = (do pure (.value (← s)))) (h : Does P B bad w0 m st a w r s) :
    o.wp P a w (After B bad w0 m (st.app o.dst r) (r.wr.map (·.1))) Q := by
  obtain ⟨v, w', h1, h2⟩ := h.after o.dst
  unfold Oper.wp
  rw [hx]
  simp only [Sem.run_bind, h1, Result.andThen_ok, Sem.run_pure, Oper.upon_value]
  exact h2

theorem findC_eq : ∀ {C : List Con} {f : FuncId} {c : Con}, findC C f = some c → c ∈ C ∧ c.f = f
  | c' :: C, f, c, h => by
    simp only [findC] at h
    split at h
    · rename_i he; cases h; exact ⟨by simp, Nat.eq_of_beq_eq_true he⟩
    · obtain ⟨h1, h2⟩ := findC_eq h; exact ⟨by simp [h1], h2⟩

theorem numberN_mem : ∀ {nb : List Blk} {nid : Nat} {x : Nat × Blk}, x ∈ numberN nid nb → ∃ k, nb[k]? = some x.2 ∧ x.1 = nid + k
  | b :: nb, nid, x, h => by
    simp only [numberN, List.mem_cons] at h
    rcases h with rfl | h
    · exact ⟨0, rfl, rfl⟩
    · obtain ⟨k, h1, h2⟩ := numberN_mem h
      exact ⟨k + 1, by simpa using h1, by rw [h2]; omega⟩
theorem mem_numberN : ∀ {nb : List Blk} {nid k : Nat}, k < nb.length → nid + k ∈ (numberN nid nb).map (·.1)
  | b :: nb, nid, 0, h => by simp [numberN]
  | b :: nb, nid, k + 1, h => by
    have := mem_numberN (nb := nb) (nid := nid + 1) (k := k) (by simpa using h)
    simp only [numberN, List.map_cons, List.mem_cons]
    exact Or.inr (by rw [show nid + (k + 1) = nid + 1 + k by omega]; exact this)
theorem kill_eq : ∀ {l : List Nat} {z : List (Nat × Blk)}, kill rd l = some z → z = l.map (fun i => (i, .dead)) ∧ ∀ i ∈ l, (rd i).own = true
  | [], z, h => by simp only [kill] at h; cases h; simp
  | i :: l, z, h => by
    simp only [kill] at h
    split at h
    rotate_left
    · cases h
    rename_i ho
    split at h
    rotate_left
    · cases h
    rename_i z' hz
    cases h
    obtain ⟨rfl, h2⟩ := kill_eq hz
    exact ⟨rfl, fun j hj => by
      rcases List.mem_cons.1 hj with rfl | hj
      · exact ho
      · exact h2 j hj⟩

theorem getB_setBs_not : ∀ {wr : List (Nat × Blk)} {h : List Blk} {i : Nat}, (∀ x ∈ wr, x.1 ≠ i) → getB (setBs h wr) i = getB h i
  | [], h, i, _ => rfl
  | (j, b) :: wr, h, i, hn => by
    simp only [setBs]
    rw [getB_setBs_not (fun x hx => hn x (by simp [hx])), getB_setB, if_neg (Ne.symm (hn (j, b) (by simp)))]
theorem setBs_append : ∀ (x y : List (Nat × Blk)) (h : List Blk), setBs h (x ++ y) = setBs (setBs h x) y
  | [], y, h => rfl
  | (j, b) :: x, y, h => by simp only [List.cons_append, setBs, setBs_append x y]
theorem getB_number : ∀ {nb : List Blk} {nid : Nat} {h : List Blk} {k : Nat} {b : Blk}, nb[k]? = some b → getB (setBs h (numberN nid nb)) (nid + k) = b
  | b' :: nb, nid, h, 0, b, hk => by
    simp at hk; subst hk
    simp only [numberN, setBs]
    rw [getB_setBs_not, getB_setB, if_pos (by omega)]
    intro x hx
    obtain ⟨k, _, e⟩ := numberN_mem hx
    omega
  | b' :: nb, nid, h, k + 1, b, hk => by
    simp only [numberN, setBs]
    rw [show nid + (k + 1) = nid + 1 + k by omega]
    exact getB_number (by simpa using hk)
theorem getB_dead : ∀ {l : List Nat} {h : List Blk} {i : Nat}, getB (setBs h (l.map (fun i => (i, Blk.dead)))) i = if i ∈ l then .dead else getB h i
  | [], h, i => by simp [setBs]
  | j :: l, h, i => by
    simp only [List.map_cons, setBs, getB_dead (l := l), getB_setB, List.mem_cons]
    by_cases e1 : i ∈ l
    · simp [e1]
    · by_cases e2 : i = j
      · simp [e2]
      · simp [e1, e2]

/-- Behind a call, by its contract. -/
theorem sound_call {nid : Nat} {f : FuncId} {args : List SV} {vs : List Value} (hC : Cons.Ok P C) (hrd : ∀ id, rd id = getB st.heap id ∨ rd id = .dead) (he : effCall C rd nid f args = some r) (hp : ∀ q ∈ r.pre, q)
    (hf : ∀ id, id ∈ r.wr.map (·.1) → nid ≤ id → m id = none) (ha : All2 (Den m) args vs) (H : Holds B bad w0 m st a w) (dst : Option Tmp) :
    (∃ fn, P.funcs[f]? = some fn ∧ fn.body.isSome = true ∧ (fn.name == "runtime.NumGoroutine") = false) ∧
    Calls P f vs.toArray w (fun e w' => ∃ v, e = .returned v ∧ After B bad w0 m (st.app dst r) (r.wr.map (·.1)) (a.put dst v) w') := by
  unfold effCall at he
  split at he
  rotate_left
  · cases he
  rename_i c hc
  obtain ⟨hmem, rfl⟩ := findC_eq hc
  have hok := hC c hmem
  split at he
  rotate_left
  · cases he
  rename_i cr hcr
  split at he
  rotate_left
  · cases he
  rename_i z hz
  cases he
  obtain ⟨rfl, hown⟩ := kill_eq hz
  have hfresh : ∀ k, k < cr.nb.length → m (nid + k) = none := fun k hk => hf _ (by simp only [List.map_append, List.mem_append]; exact Or.inl (mem_numberN hk)) (by omega)
  have hrb : ∀ id, BlkH m id w (rd id) := fun id => by
    rcases hrd id with h | h <;> rw [h]
    · exact H.blk id
    · trivial
  have hrl : ∀ id, (rd id).live = true → rd id = getB st.heap id := fun id h => by
    rcases hrd id with e | e
    · exact e
    · rw [e] at h; cases h
  have hap : ∀ i j p q, i ≠ j → (rd i).own = true → (rd j).live = true → m i = some p → m j = some q → p.b ≠ q.b := fun i j p q hij h1 h2 h3 h4 => by
    refine H.apart i j p q hij ?_ ?_ h3 h4
    · rw [← hrl i (Blk.live_of_own h1)]; exact h1
    · rw [← hrl j h2]; exact h2
  refine ⟨hok.fn, (hok.run nid args rd cr hcr hp m w vs ha hrb hap hfresh hown).mono ?_⟩
  rintro e w' ⟨v, m', rfl, hm', hv, hnb, hnp, hnn, hk⟩
  refine ⟨v, rfl, ?_⟩
  have hle : m.le m' := fun id hid => by
    by_cases h : id < nid ∨ nid + cr.nb.length ≤ id
    · exact hm' id h
    · exfalso
      have := hfresh (id - nid) (by omega)
      rw [show nid + (id - nid) = id by omega] at this
      exact hid this
  have hback : ∀ id p, m' id = some p → m id = some p ∨ ∃ k, k < cr.nb.length ∧ id = nid + k := fun id p h => by
    by_cases h2 : id < nid ∨ nid + cr.nb.length ≤ id
    · left; rw [← hm' id h2]; exact h
    · right; exact ⟨id - nid, by omega, by omega⟩
  have hused : ∀ k, usedAt m cr.used k → B ≤ k ∨ bad k := by
    rintro k ⟨id, hid, p, hp1, rfl⟩
    have ho := hown id hid
    rw [hrl id (Blk.live_of_own ho)] at ho
    exact H.own id p ho hp1
  -- a block of the state, behind the call
  have hget : ∀ i, getB (setBs st.heap (numberN nid cr.nb ++ cr.used.map (fun i => (i, Blk.dead)))) i = if i ∈ cr.used then .dead else if h : nid ≤ i ∧ i < nid + cr.nb.length then cr.nb[i - nid]'(by omega) else getB st.heap i := fun i => by
    rw [setBs_append, getB_dead]
    by_cases h1 : i ∈ cr.used
    · simp [h1]
    · rw [if_neg h1, if_neg h1]
      by_cases h2 : nid ≤ i ∧ i < nid + cr.nb.length
      · rw [dif_pos h2]
        have := getB_number (nb := cr.nb) (nid := nid) (h := st.heap) (k := i - nid) (b := cr.nb[i - nid]'(by omega)) (List.getElem?_eq_getElem (by omega))
        rwa [show nid + (i - nid) = i by omega] at this
      · rw [dif_neg h2]
        apply getB_setBs_not
        intro x hx e
        obtain ⟨k, hk1, hk2⟩ := numberN_mem hx
        have := (List.getElem?_eq_some_iff.1 hk1).1
        omega
  have hold : ∀ i l, i ∉ cr.used → ¬ (nid ≤ i ∧ i < nid + cr.nb.length) → (getB st.heap i).live = true → m i = some l → w'.heap[l.b]? = w.heap[l.b]? := fun i l h1 h2 h3 h4 => by
    refine hk.block _ (H.place h3 h4) ?_
    rintro ⟨id, hid, p, hp1, hp2⟩
    have ho := hown id hid
    rw [hrl id (Blk.live_of_own ho)] at ho
    exact H.apart id i p l (fun e => h1 (e ▸ hid)) ho h3 hp1 h4 hp2
  refine ⟨m', hle, fun id hid => ?_, Holds.put (st := ⟨st.tmps, setBs st.heap (numberN nid cr.nb ++ cr.used.map (fun i => (i, Blk.dead)))⟩) ⟨H.defers, H.size, fun t => (H.tmp t).le hle, fun i => ?_, fun i j p q hij h1 h2 h3 h4 => ?_, fun i p h1 h3 => ?_, H.below.trans (hk.mono H.base_le (fun k hkB hu => (hused k hu).resolve_left (by omega))), H.base⟩ dst hv⟩
  · cases hmi : m' id with
    | none => exact absurd hmi hid
    | some p =>
      rcases hback id p hmi with h | ⟨k, hk1, rfl⟩
      · left; rw [h]; simp
      · right; simp only [List.map_append, List.mem_append]; exact Or.inl (mem_numberN hk1)
  · rw [hget]
    by_cases h1 : i ∈ cr.used
    · rw [if_pos h1]; trivial
    · rw [if_neg h1]
      by_cases h2 : nid ≤ i ∧ i < nid + cr.nb.length
      · rw [dif_pos h2]
        have := hnb (i - nid) (cr.nb[i - nid]'(by omega)) (List.getElem?_eq_getElem (by omega))
        rwa [show nid + (i - nid) = i by omega] at this
      · rw [dif_neg h2]
        exact (H.blk i).keep hle fun l hl hm => hold i l h1 h2 hl hm
  · rw [hget] at h1 h2
    by_cases u1 : i ∈ cr.used
    · rw [if_pos u1] at h1; cases h1
    by_cases u2 : j ∈ cr.used
    · rw [if_pos u2] at h2; cases h2
    rw [if_neg u1] at h1
    rw [if_neg u2] at h2
    -- an old block's place
    have oldp : ∀ x p, x ∉ cr.used → ¬ (nid ≤ x ∧ x < nid + cr.nb.length) → m' x = some p → m x = some p := fun x p _ hx h => by
      rcases hback x p h with h | ⟨k, hk1, rfl⟩
      · exact h
      · exact absurd ⟨by omega, by omega⟩ hx
    have oldnew : ∀ x y p q, x ∉ cr.used → ¬ (nid ≤ x ∧ x < nid + cr.nb.length) → (getB st.heap x).live = true → m' x = some p → (h : nid ≤ y ∧ y < nid + cr.nb.length) → (cr.nb[y - nid]'(by omega)).live = true → m' y = some q → ((getB st.heap x).own = true ∨ (cr.nb[y - nid]'(by omega)).own = true) → p.b ≠ q.b := fun x y p q hx1 hx2 hx3 hx4 hy1 hy2 hy3 hy4 e => by
      have hx5 := oldp x p hx1 hx2 hx4
      have hlt := H.place hx3 hx5
      rcases hnp (y - nid) _ q (List.getElem?_eq_getElem (by omega)) hy2 (by rw [show nid + (y - nid) = y by omega]; exact hy3) with h | ⟨id, hid, p', hp1, hp2⟩ | ⟨hno, id, p', hd1, hd2, hd3, hd4⟩
      · omega
      · have ho := hown id hid
        rw [hrl id (Blk.live_of_own ho)] at ho
        exact H.apart id x p' p (fun e => hx1 (e ▸ hid)) ho hx3 hp1 hx5 (by rw [hp2, e])
      · rcases hy4 with hy4 | hy4
        · have hid := hrl id hd2
          rw [hid] at hd1 hd2
          exact H.apart x id p p' (fun e2 => by rw [e2, hd1] at hy4; cases hy4) hy4 hd2 hx5 hd3 (by rw [hd4, e])
        · rw [hno] at hy4; cases hy4
    by_cases n1 : nid ≤ i ∧ i < nid + cr.nb.length
    · rw [dif_pos n1] at h1
      by_cases n2 : nid ≤ j ∧ j < nid + cr.nb.length
      · rw [dif_pos n2] at h2
        exact hnn (i - nid) (j - nid) _ _ p q (by omega) (List.getElem?_eq_getElem (by omega)) (List.getElem?_eq_getElem (by omega)) h1 h2 (by rw [show nid + (i - nid) = i by omega]; exact h3) (by rw [show nid + (j - nid) = j by omega]; exact h4)
      · rw [dif_neg n2] at h2
        exact (oldnew j i q p u2 n2 h2 h4 n1 (Blk.live_of_own h1) h3 (Or.inr h1)).symm
    · rw [dif_neg n1] at h1
      by_cases n2 : nid ≤ j ∧ j < nid + cr.nb.length
      · rw [dif_pos n2] at h2
        exact oldnew i j p q u1 n1 (Blk.live_of_own h1) h3 n2 h2 h4 (Or.inl h1)
      · rw [dif_neg n2] at h2
        exact H.apart i j p q hij h1 h2 (oldp i p u1 n1 h3) (oldp j q u2 n2 h4)
  · rw [hget] at h1
    by_cases u1 : i ∈ cr.used
    · rw [if_pos u1] at h1; cases h1
    rw [if_neg u1] at h1
    by_cases n1 : nid ≤ i ∧ i < nid + cr.nb.length
    · rw [dif_pos n1] at h1
      rcases hnp (i - nid) _ p (List.getElem?_eq_getElem (by omega)) (Blk.live_of_own h1) (by rw [show nid + (i - nid) = i by omega]; exact h3) with h | h | ⟨hno, _⟩
      · exact Or.inl (Nat.le_trans H.base_le h)
      · exact hused _ h
      · rw [hno] at h1; cases h1
    · rw [dif_neg n1] at h1
      rcases hback i p h3 with h | ⟨k, hk1, rfl⟩
      · exact H.own i p h1 h
      · exact absurd ⟨by omega, by omega⟩ n1
end
end Go.Proofs.Ythbighklfajmdaa.Ev
