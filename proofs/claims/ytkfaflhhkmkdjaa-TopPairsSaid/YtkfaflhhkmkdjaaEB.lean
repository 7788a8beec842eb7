/- The reckoning is sound: contracts; all operations together. The reckoning is sound: maps of the store. The reckoning is sound: every operation. A region in whatever order: one run in one order is enough, if no operation writes what another, unordered with it, reads or writes. A region in whatever order: the law. A region in whatever order: the law, proved. -/
import Derived.Test.YtkfaflhhkmkdjaaEA
import Derived.Laws.Cover1
namespace Go.Proofs.Ytkfaflhhkmkdjaa.Ev
open Go.RowKit
set_option linter.unusedVariables false
set_option linter.unusedSimpArgs false

/-- The places of the blocks that a call uses up. -/
def usedAt (rd : Nat → Blk) (m : Map) (l : List Nat) (k : Nat) : Prop := ∃ id ∈ l, (rd id).own = true ∧ ∃ p, m id = some p ∧ p.b = k

/-- The blocks of the caller's own that are written in place; and whether the store is. -/
def plainUpd : List (Nat × Blk) → List Nat
  | [] => []
  | (i, b) :: r => match b with
    | .store _ => plainUpd r
    | _ => i :: plainUpd r
def stoUpd : List (Nat × Blk) → Bool
  | [] => false
  | (_, b) :: r => match b with
    | .store _ => true
    | _ => stoUpd r
def touched (rd : Nat → Blk) (m : Map) (r : CRes) (k : Nat) : Prop := usedAt rd m r.used k ∨ usedAt rd m (plainUpd r.upd) k ∨ (stoUpd r.upd = true ∧ ∃ kk i, m.g kk i = some k)
/-- What a contract says of the store, and of the blocks that are written in place. -/
structure GPost (m m' : Map) (nid : Nat) (r : CRes) (w w' : World) : Prop where
  le : ∀ k i b, m.g k i = some b → m'.g k i = some b
  new : ∀ k i b, m'.g k i = some b → m.g k i = some b ∨ (stoUpd r.upd = true ∧ w.heap.size ≤ b ∧ b < w'.heap.size)
  upd : ∀ x ∈ r.upd, BlkH m' x.1 w' x.2
  apart : ∀ k b p, r.nb[k]? = some b → b.live = true → m' (nid + k) = some p → ∀ kk i c, m'.g kk i = some c → p.b ≠ c
  nosto : ∀ b ∈ r.nb, ∀ H, b ≠ .store H
  q : m'.q = m.q
theorem gpost_plain {rd : Nat → Blk} {m m' : Map} {nid : Nat} {r : CRes} {w w' : World} (hg : ∀ k i, m'.g k i = m.g k i) (hu : r.upd = [])
    (hnp : ∀ k b p, r.nb[k]? = some b → b.live = true → m' (nid + k) = some p → w.heap.size ≤ p.b ∨ usedAt rd m r.used p.b ∨ (b.own = false ∧ ∃ id q, (rd id).own = false ∧ (rd id).live = true ∧ m id = some q ∧ q.b = p.b))
    (hga : ∀ j p k i b, (rd j).live = true → m j = some p → m.g k i = some b → p.b ≠ b) (hgb : ∀ k i b, m.g k i = some b → b < w.heap.size) (hn : ∀ b ∈ r.nb, ∀ H, b ≠ .store H) (hqq : m'.q = m.q := by rfl) : GPost m m' nid r w w' :=
  ⟨fun k i b h => by rw [hg]; exact h, fun k i b h => Or.inl (by rw [← hg]; exact h), fun x hx => (by rw [hu] at hx; cases hx), fun k b p h1 h2 h3 kk i c h4 => by
    rw [hg] at h4
    rcases hnp k b p h1 h2 h3 with h | ⟨id, hid, ho, q, e1, e2⟩ | ⟨_, id, q, _, e0, e1, e2⟩
    · have := hgb kk i c h4; omega
    · rw [← e2]; exact hga id q kk i c (Blk.live_of_own ho) e1 h4
    · rw [← e2]; exact hga id q kk i c e0 e1 h4, hn, hqq⟩
/-- What a contract says of a call. -/
def CallPost (rd : Nat → Blk) (m : Map) (nid : Nat) (r : CRes) (w : World) (e : Ending) (w' : World) : Prop :=
  ∃ v m', e = .returned v ∧ (∀ id, (id < nid ∨ nid + r.nb.length ≤ id) → m' id = m id) ∧ Den m' r.val v ∧ (∀ k b, r.nb[k]? = some b → BlkH m' (nid + k) w' b) ∧
    (∀ k b p, r.nb[k]? = some b → b.live = true → m' (nid + k) = some p → w.heap.size ≤ p.b ∨ usedAt rd m r.used p.b ∨ (b.own = false ∧ ∃ id q, (rd id).own = false ∧ (rd id).live = true ∧ m id = some q ∧ q.b = p.b)) ∧
    (∀ k k' b b' p p', k ≠ k' → r.nb[k]? = some b → r.nb[k']? = some b' → b.own = true → b'.live = true → m' (nid + k) = some p → m' (nid + k') = some p' → p.b ≠ p'.b) ∧
    Kept w.heap.size (touched rd m r) w w' ∧ GPost m m' nid r w w'

structure Con.Ok (P : Program) (c : Con) : Prop where
  fn : ∃ fn, P.funcs[c.f]? = some fn ∧ fn.body.isSome = true ∧ (fn.name == "runtime.NumGoroutine") = false
  run : ∀ (nid : Nat) (args : List SV) (rd : Nat → Blk) (r : CRes), c.run nid args rd = some r → (∀ p ∈ r.pre, p) → ∀ (m : Map) (w : World) (vs : List Value), All2 (Den m) args vs →
    (∀ id, BlkH m id w (rd id)) → (∀ i j p q, i ≠ j → (rd i).own = true → (rd j).live = true → m i = some p → m j = some q → p.b ≠ q.b) → (∀ k, k < r.nb.length → m (nid + k) = none) → updOK rd r.used r.upd = true →
    (∀ j p k i b, (rd j).live = true → m j = some p → m.g k i = some b → p.b ≠ b) → (∀ k i b, m.g k i = some b → b < w.heap.size) → (∀ s s' H H', rd s = .store H → rd s' = .store H' → s = s') →
    Calls P c.f vs.toArray w (CallPost rd m nid r w)
  ro : ∀ (nid : Nat) (args : List SV) (rd : Nat → Blk) (r : CRes), c.run nid args rd = some r → r.ro = true → ∀ x ∈ r.upd, x.2 = rd x.1

def Cons.Ok (P : Program) (C : List Con) : Prop := ∀ c ∈ C, c.Ok P

section
variable {P : Program} {T : Tab} {C : List Con} {B : Nat} {bad : Bad} {w0 : World} {m : Map} {st : St} {a : Act} {w : World} {rd : Nat → Blk} {r : Res}

theorem Does.after {s : Sem Value} (h : Does P B bad w0 m st a w r s) (dst : Option Tmp) : ∃ v w', s.run P w = .ok v w' ∧ After B bad w0 m (st.app dst r) (r.wr.map (·.1)) (a.put dst v) w' := by
  obtain ⟨v, w', m', h1, h2, h3, h4, h5⟩ := h
  exact ⟨v, w', h1, m', h2, h3, h4.put dst h5⟩

theorem wp_of_does {o : Oper} {Q : Exit → Act → World → Prop} {s : Sem Value} (hx : execOp a.eval o = (do pure (.value (← s)))) (h : Does P B bad w0 m st a w r s) :
    o.wp P a w (After B bad w0 m (st.app o.dst r) (r.wr.map (·.1))) Q := by
  obtain ⟨v, w', h1, h2⟩ := h.after o.dst
  unfold Oper.wp
  rw [hx]
  simp only [Sem.run_bind, h1, Result.andThen_ok, Sem.run_pure, Oper.upon_value]
  exact h2

theorem findC_eq : ∀ {C : List Con} {f : FuncId} {c : Con}, findC C f = some c → c ∈ C ∧ c.f = f
  | c' :: C, f, c, h => by
    simp only [findC] at h
    split at h
    · rename_i he; cases h; exact ⟨by simp, Nat.eq_of_beq_eq_true he⟩
    · obtain ⟨h1, h2⟩ := findC_eq h; exact ⟨by simp [h1], h2⟩

theorem numberN_mem : ∀ {nb : List Blk} {nid : Nat} {x : Nat × Blk}, x ∈ numberN nid nb → ∃ k, nb[k]? = some x.2 ∧ x.1 = nid + k
  | b :: nb, nid, x, h => by
    simp only [numberN, List.mem_cons] at h
    rcases h with rfl | h
    · exact ⟨0, rfl, rfl⟩
    · obtain ⟨k, h1, h2⟩ := numberN_mem h
      exact ⟨k + 1, by simpa using h1, by rw [h2]; omega⟩
theorem mem_numberN : ∀ {nb : List Blk} {nid k : Nat}, k < nb.length → nid + k ∈ (numberN nid nb).map (·.1)
  | b :: nb, nid, 0, h => by simp [numberN]
  | b :: nb, nid, k + 1, h => by
    have := mem_numberN (nb := nb) (nid := nid + 1) (k := k) (by simpa using h)
    simp only [numberN, List.map_cons, List.mem_cons]
    exact Or.inr (by rw [show nid + (k + 1) = nid + 1 + k by omega]; exact this)
theorem kill_eq : ∀ {l : List Nat} {z : List (Nat × Blk)}, kill rd l = some z → z = l.map (fun i => (i, .dead))
  | [], z, h => by simp only [kill] at h; cases h; simp
  | i :: l, z, h => by
    simp only [kill] at h
    split at h
    rotate_left
    · cases h
    rename_i z' hz
    cases h
    rw [kill_eq hz]; rfl

theorem getB_setBs_not : ∀ {wr : List (Nat × Blk)} {h : List Blk} {i : Nat}, (∀ x ∈ wr, x.1 ≠ i) → getB (setBs h wr) i = getB h i
  | [], h, i, _ => rfl
  | (j, b) :: wr, h, i, hn => by
    simp only [setBs]
    rw [getB_setBs_not (fun x hx => hn x (by simp [hx])), getB_setB, if_neg (Ne.symm (hn (j, b) (by simp)))]
theorem setBs_append : ∀ (x y : List (Nat × Blk)) (h : List Blk), setBs h (x ++ y) = setBs (setBs h x) y
  | [], y, h => rfl
  | (j, b) :: x, y, h => by simp only [List.cons_append, setBs, setBs_append x y]
theorem getB_number : ∀ {nb : List Blk} {nid : Nat} {h : List Blk} {k : Nat} {b : Blk}, nb[k]? = some b → getB (setBs h (numberN nid nb)) (nid + k) = b
  | b' :: nb, nid, h, 0, b, hk => by
    simp at hk; subst hk
    simp only [numberN, setBs]
    rw [getB_setBs_not, getB_setB, if_pos (by omega)]
    intro x hx
    obtain ⟨k, _, e⟩ := numberN_mem hx
    omega
  | b' :: nb, nid, h, k + 1, b, hk => by
    simp only [numberN, setBs]
    rw [show nid + (k + 1) = nid + 1 + k by omega]
    exact getB_number (by simpa using hk)
theorem getB_dead : ∀ {l : List Nat} {h : List Blk} {i : Nat}, getB (setBs h (l.map (fun i => (i, Blk.dead)))) i = if i ∈ l then .dead else getB h i
  | [], h, i => by simp [setBs]
  | j :: l, h, i => by
    simp only [List.map_cons, setBs, getB_dead (l := l), getB_setB, List.mem_cons]
    by_cases e1 : i ∈ l
    · simp [e1]
    · by_cases e2 : i = j
      · simp [e2]
      · simp [e1, e2]

theorem isIn_iff {i : Nat} : ∀ {l : List Nat}, isIn i l = true ↔ i ∈ l
  | [] => by simp [isIn]
  | j :: l => by
    simp only [isIn, List.mem_cons]
    by_cases e : i = j
    · subst e; simp
    · have : Nat.beq i j = false := by cases h : Nat.beq i j; rfl; exact absurd (Nat.eq_of_beq_eq_true h) e
      rw [this]; simp [e, isIn_iff]
theorem updOK_eq : ∀ {upd : List (Nat × Blk)} {seen : List Nat}, updOK rd seen upd = true → (∀ x ∈ upd, x.1 ∉ seen ∧ (((∃ H H', x.2 = .store H ∧ rd x.1 = .store H') ∨ ((∀ H, x.2 ≠ .store H) ∧ (rd x.1).own = true ∧ x.2.own = true)))) ∧
    (∀ h i b, (i, b) ∈ upd → getB (setBs h upd) i = b)
  | [], seen, h => ⟨fun x hx => (by cases hx), fun h i b hx => (by cases hx)⟩
  | (i, b) :: r, seen, h => by
    simp only [updOK] at h
    split at h
    · cases h
    rename_i hin
    have hns : i ∉ seen := fun e => by rw [isIn_iff.2 e] at hin; cases hin
    have key : updOK rd (i :: seen) r = true ∧ ((∃ H H', b = .store H ∧ rd i = .store H') ∨ ((∀ H, b ≠ .store H) ∧ (rd i).own = true ∧ b.own = true)) := by
      split at h
      · split at h
        · rename_i H _ H' hr; exact ⟨h, Or.inl ⟨_, _, rfl, hr⟩⟩
        · cases h
      · split at h
        · rename_i hb _ hc
          simp only [Bool.and_eq_true] at hc
          exact ⟨h, Or.inr ⟨fun H e => hb H e, hc.1, hc.2⟩⟩
        · cases h
    obtain ⟨k1, k2⟩ := updOK_eq key.1
    refine ⟨fun x hx => ?_, fun h' j c hx => ?_⟩
    · rcases List.mem_cons.1 hx with rfl | hx
      · exact ⟨hns, key.2⟩
      · exact ⟨fun e => (k1 x hx).1 (List.mem_cons_of_mem _ e), (k1 x hx).2⟩
    · rcases List.mem_cons.1 hx with e | hx
      · cases e
        simp only [setBs]
        rw [getB_setBs_not (fun x hx e => (k1 x hx).1 (by rw [e]; exact List.mem_cons_self)), getB_setB, if_pos rfl]
      · simp only [setBs]; exact k2 _ j c hx
theorem plainUpd_mem {i : Nat} : ∀ {upd : List (Nat × Blk)}, i ∈ plainUpd upd → ∃ b, (i, b) ∈ upd ∧ ∀ H, b ≠ .store H
  | (j, b) :: r, h => by
    simp only [plainUpd] at h
    split at h
    · obtain ⟨c, h1, h2⟩ := plainUpd_mem h; exact ⟨c, List.mem_cons_of_mem _ h1, h2⟩
    · rename_i hb
      rcases List.mem_cons.1 h with rfl | h
      · exact ⟨b, List.mem_cons_self, fun H e => hb H e⟩
      · obtain ⟨c, h1, h2⟩ := plainUpd_mem h; exact ⟨c, List.mem_cons_of_mem _ h1, h2⟩
theorem stoUpd_mem : ∀ {upd : List (Nat × Blk)}, stoUpd upd = true → ∃ i H, (i, Blk.store H) ∈ upd
  | (j, b) :: r, h => by
    simp only [stoUpd] at h
    split at h
    · rename_i H; exact ⟨j, H, List.mem_cons_self⟩
    · obtain ⟨i, H, h1⟩ := stoUpd_mem h; exact ⟨i, H, List.mem_cons_of_mem _ h1⟩

/-- Behind a call, by its contract. -/
theorem sound_call0 {nid : Nat} {args : List SV} {vs : List Value} {c : Con} {cr : CRes} (hok : c.Ok P) (hrd : ∀ id, rd id = getB st.heap id ∨ rd id = .dead) (hcr : c.run nid args rd = some cr) (hupd : updOK rd cr.used cr.upd = true) (hp : ∀ q ∈ cr.pre, q)
    (hfresh : ∀ k, k < cr.nb.length → m (nid + k) = none) (ha : All2 (Den m) args vs) (H : Holds B bad w0 m st a w) (dst : Option Tmp) :
    (∃ fn, P.funcs[c.f]? = some fn ∧ fn.body.isSome = true ∧ (fn.name == "runtime.NumGoroutine") = false) ∧
    Calls P c.f vs.toArray w (fun e w' => ∃ v, e = .returned v ∧ After B bad w0 m (st.app dst ⟨cr.pre, cr.val, numberN nid cr.nb ++ (cr.used.map (fun i => (i, Blk.dead)) ++ cr.upd)⟩) ((numberN nid cr.nb ++ (cr.used.map (fun i => (i, Blk.dead)) ++ cr.upd)).map (·.1)) (a.put dst v) w') := by
  obtain ⟨u1, u2⟩ := updOK_eq hupd
  have hrb : ∀ id, BlkH m id w (rd id) := fun id => by
    rcases hrd id with h | h <;> rw [h]
    · exact H.blk id
    · trivial
  have hrl : ∀ id, (rd id).live = true → rd id = getB st.heap id := fun id h => by
    rcases hrd id with e | e
    · exact e
    · rw [e] at h; cases h
  have hrs : ∀ id H', rd id = .store H' → getB st.heap id = .store H' := fun id H' h => by
    rcases hrd id with e | e
    · rw [← e]; exact h
    · rw [e] at h; cases h
  have hap : ∀ i j p q, i ≠ j → (rd i).own = true → (rd j).live = true → m i = some p → m j = some q → p.b ≠ q.b := fun i j p q hij h1 h2 h3 h4 => by
    refine H.apart i j p q hij ?_ ?_ h3 h4
    · rw [← hrl i (Blk.live_of_own h1)]; exact h1
    · rw [← hrl j h2]; exact h2
  refine ⟨hok.fn, (hok.run nid args rd cr hcr hp m w vs ha hrb hap hfresh hupd (fun j p k i b h1 h2 h3 => H.gok.apart j p k i b (by rw [← hrl j h1]; exact h1) h2 h3) (fun k i b h => (H.gok.own k i b h).2)
    (fun s s' H1 H2 h1 h2 => H.gok.one s s' H1 H2 (hrs _ _ h1) (hrs _ _ h2))).mono ?_⟩
  rintro e w' ⟨v, m', rfl, hm', hv, hnb, hnp, hnn, hk, hG⟩
  refine ⟨v, rfl, ?_⟩
  have hle : m.le m' := ⟨fun id hid => by
    by_cases h : id < nid ∨ nid + cr.nb.length ≤ id
    · exact hm' id h
    · exfalso
      have := hfresh (id - nid) (by omega)
      rw [show nid + (id - nid) = id by omega] at this
      exact hid this, hG.le, hG.q⟩
  have hback : ∀ id p, m' id = some p → m id = some p ∨ ∃ k, k < cr.nb.length ∧ id = nid + k := fun id p h => by
    by_cases h2 : id < nid ∨ nid + cr.nb.length ≤ id
    · left; rw [← hm' id h2]; exact h
    · right; exact ⟨id - nid, by omega, by omega⟩
  have hused : ∀ k, usedAt rd m cr.used k → B ≤ k ∨ bad k := by
    rintro k ⟨id, hid, ho, p, hp1, rfl⟩
    rw [hrl id (Blk.live_of_own ho)] at ho
    exact H.own id p ho hp1
  -- a block that is written in place
  have uold : ∀ i b, (i, b) ∈ cr.upd → i ∉ cr.used ∧ ((∃ H1 H2, b = .store H1 ∧ getB st.heap i = .store H2) ∨ ((∀ H1, b ≠ .store H1) ∧ (getB st.heap i).own = true ∧ b.own = true)) := fun i b hx => by
    obtain ⟨k1, k2⟩ := u1 (i, b) hx
    refine ⟨k1, ?_⟩
    rcases k2 with ⟨H1, H2, e1, e2⟩ | ⟨e1, e2, e3⟩
    · exact Or.inl ⟨H1, H2, e1, hrs _ _ e2⟩
    · exact Or.inr ⟨e1, by rw [← hrl i (Blk.live_of_own e2)]; exact e2, e3⟩
  have unew : ∀ i b, (i, b) ∈ cr.upd → ¬ (nid ≤ i ∧ i < nid + cr.nb.length) := fun i b hx h => by
    have hn := hfresh (i - nid) (by omega)
    rw [show nid + (i - nid) = i by omega] at hn
    rcases (uold i b hx).2 with ⟨H1, H2, e1, e2⟩ | ⟨e1, e2, e3⟩
    · have := H.blk i; rw [e2] at this; exact this.1 hn
    · obtain ⟨l, e, _⟩ := (H.blk i).place (Blk.live_of_own e2); rw [hn] at e; cases e
  -- a block of the state, behind the call
  have hgetU : ∀ i b, (i, b) ∈ cr.upd → getB (setBs st.heap (numberN nid cr.nb ++ (cr.used.map (fun i => (i, Blk.dead)) ++ cr.upd))) i = b := fun i b hx => by
    rw [setBs_append, setBs_append]; exact u2 _ i b hx
  have hget : ∀ i, i ∉ cr.upd.map (·.1) → getB (setBs st.heap (numberN nid cr.nb ++ (cr.used.map (fun i => (i, Blk.dead)) ++ cr.upd))) i = if i ∈ cr.used then .dead else if h : nid ≤ i ∧ i < nid + cr.nb.length then cr.nb[i - nid]'(by omega) else getB st.heap i := fun i hiu => by
    rw [setBs_append, setBs_append, getB_setBs_not (fun x hx e => hiu (List.mem_map.2 ⟨x, hx, e⟩)), getB_dead]
    by_cases h1 : i ∈ cr.used
    · simp [h1]
    · rw [if_neg h1, if_neg h1]
      by_cases h2 : nid ≤ i ∧ i < nid + cr.nb.length
      · rw [dif_pos h2]
        have := getB_number (nb := cr.nb) (nid := nid) (h := st.heap) (k := i - nid) (b := cr.nb[i - nid]'(by omega)) (List.getElem?_eq_getElem (by omega))
        rwa [show nid + (i - nid) = i by omega] at this
      · rw [dif_neg h2]
        apply getB_setBs_not
        intro x hx e
        obtain ⟨k, hk1, hk2⟩ := numberN_mem hx
        have := (List.getElem?_eq_some_iff.1 hk1).1
        omega
  show After B bad w0 m (St.put ⟨st.tmps, setBs st.heap (numberN nid cr.nb ++ (cr.used.map (fun i => (i, Blk.dead)) ++ cr.upd))⟩ dst cr.val) _ _ w'
  generalize hfin : setBs st.heap (numberN nid cr.nb ++ (cr.used.map (fun i => (i, Blk.dead)) ++ cr.upd)) = hf' at hgetU hget ⊢
  -- each block is an old one (maybe written), a new one, or used up
  have kinds : ∀ i, (i ∉ cr.used ∧ ¬ (nid ≤ i ∧ i < nid + cr.nb.length) ∧ ((getB hf' i).own = true → (getB st.heap i).own = true) ∧ ((getB hf' i).live = true → (getB st.heap i).live = true) ∧ (∀ H1, getB hf' i = .store H1 → ∃ H2, getB st.heap i = .store H2)) ∨
      (∃ h : nid ≤ i ∧ i < nid + cr.nb.length, getB hf' i = cr.nb[i - nid]'(by omega)) ∨ getB hf' i = .dead := fun i => by
    by_cases hu : i ∈ cr.upd.map (·.1)
    · obtain ⟨⟨j, b⟩, hx, rfl⟩ := List.mem_map.1 hu
      obtain ⟨k1, k2⟩ := uold j b hx
      refine Or.inl ⟨k1, unew j b hx, ?_⟩
      rw [hgetU j b hx]
      rcases k2 with ⟨H1, H2, rfl, e2⟩ | ⟨e1, e2, e3⟩
      · exact ⟨fun h => (by cases h), fun h => (by cases h), fun H3 _ => ⟨H2, e2⟩⟩
      · exact ⟨fun _ => e2, fun _ => Blk.live_of_own e2, fun H3 h => absurd h (e1 H3)⟩
    · have := hget i hu
      by_cases h1 : i ∈ cr.used
      · rw [if_pos h1] at this; exact Or.inr (Or.inr this)
      · rw [if_neg h1] at this
        by_cases h2 : nid ≤ i ∧ i < nid + cr.nb.length
        · rw [dif_pos h2] at this; exact Or.inr (Or.inl ⟨h2, this⟩)
        · rw [dif_neg h2] at this
          exact Or.inl ⟨h1, h2, by rw [this]; exact id, by rw [this]; exact id, fun H1 h => ⟨H1, by rw [← this]; exact h⟩⟩
  have oldp : ∀ x p, ¬ (nid ≤ x ∧ x < nid + cr.nb.length) → m' x = some p → m x = some p := fun x p hx h => by
    rcases hback x p h with h | ⟨k, hk1, rfl⟩
    · exact h
    · exact absurd ⟨by omega, by omega⟩ hx
  have hold : ∀ i l, i ∉ cr.used → i ∉ cr.upd.map (·.1) → (getB st.heap i).live = true → m i = some l → w'.heap[l.b]? = w.heap[l.b]? := fun i l h1 h2 h3 h4 => by
    refine hk.block _ (H.place h3 h4) ?_
    rintro (⟨id, hid, ho, p, hp1, hp2⟩ | ⟨id, hid, _, p, hp1, hp2⟩ | ⟨_, kk, j, hg⟩)
    · rw [hrl id (Blk.live_of_own ho)] at ho
      exact H.apart id i p l (fun e => h1 (e ▸ hid)) ho h3 hp1 h4 hp2
    · obtain ⟨b, hx, hb⟩ := plainUpd_mem hid
      rcases (uold id b hx).2 with ⟨H1, _, e1, _⟩ | ⟨_, e2, _⟩
      · exact hb H1 e1
      · exact H.apart id i p l (fun e => h2 (List.mem_map.2 ⟨_, hx, e⟩)) e2 h3 hp1 h4 hp2
    · exact H.gok.apart i l kk j _ h3 h4 hg rfl
  refine ⟨m', hle, fun id hid => ?_, Holds.put (st := ⟨st.tmps, hf'⟩) ⟨H.defers, H.size, fun t => (H.tmp t).le hle, fun i => ?_, fun i j p q hij h1 h2 h3 h4 => ?_, fun i p h1 h3 => ?_, H.below.trans (hk.mono H.base_le (fun k hkB hu => ?_)), H.base,
    ⟨fun j p k i c h1 h2 h3 => ?_, fun k i c h => ?_, fun s s' H1 H2 h1 h2 => ?_, fun k i b e => hle.g k i b (H.gok.ext k i b e), hle.q.trans H.gok.q⟩⟩ dst hv⟩
  · cases hmi : m' id with
    | none => exact absurd hmi hid
    | some p =>
      rcases hback id p hmi with h | ⟨k, hk1, rfl⟩
      · left; rw [h]; simp
      · right; simp only [List.map_append, List.mem_append]; exact Or.inl (mem_numberN hk1)
  · by_cases hu : i ∈ cr.upd.map (·.1)
    · obtain ⟨⟨j, b⟩, hx, rfl⟩ := List.mem_map.1 hu
      show BlkH m' j w' (getB hf' j)
      rw [hgetU j b hx]
      exact hG.upd (j, b) hx
    show BlkH m' i w' (getB hf' i)
    rw [hget i hu]
    by_cases h1 : i ∈ cr.used
    · rw [if_pos h1]; trivial
    · rw [if_neg h1]
      by_cases h2 : nid ≤ i ∧ i < nid + cr.nb.length
      · rw [dif_pos h2]
        have := hnb (i - nid) (cr.nb[i - nid]'(by omega)) (List.getElem?_eq_getElem (by omega))
        rwa [show nid + (i - nid) = i by omega] at this
      · rw [dif_neg h2]
        refine (H.blk i).keep2 hle (fun l hl hm => hold i l h1 hu hl hm) fun H1 hs => ?_
        have hno : stoUpd cr.upd = false := by
          cases hst : stoUpd cr.upd
          · rfl
          · obtain ⟨j, H2, hx⟩ := stoUpd_mem hst
            rcases (uold j _ hx).2 with ⟨_, H3, _, e2⟩ | ⟨e1, _⟩
            · exact absurd (List.mem_map.2 ⟨_, hx, H.gok.one j i _ _ e2 hs⟩) hu
            · exact absurd rfl (e1 H2)
        refine ⟨fun k j => ?_, fun k j b hb => hk.block _ (H.gok.own k j b hb).2 ?_⟩
        · cases hg' : m'.g k j with
          | none => cases hg : m.g k j with
            | none => rfl
            | some b => rw [hG.le k j b hg] at hg'; cases hg'
          | some b =>
            rcases hG.new k j b hg' with h | ⟨h, _⟩
            · exact h.symm
            · rw [hno] at h; cases h
        · rintro (⟨id, hid, ho, p, hp1, hp2⟩ | ⟨id, hid, _, p, hp1, hp2⟩ | ⟨h, _⟩)
          · rw [hrl id (Blk.live_of_own ho)] at ho
            exact H.gok.apart id p k j b (Blk.live_of_own ho) hp1 hb hp2
          · obtain ⟨b', hx, hb'⟩ := plainUpd_mem hid
            rcases (uold id b' hx).2 with ⟨H1, _, e1, _⟩ | ⟨_, e2, _⟩
            · exact hb' H1 e1
            · exact H.gok.apart id p k j b (Blk.live_of_own e2) hp1 hb hp2
          · rw [hno] at h; cases h
  · have oldnew : ∀ x y p q, x ∉ cr.used → ¬ (nid ≤ x ∧ x < nid + cr.nb.length) → (getB st.heap x).live = true → m' x = some p → (h : nid ≤ y ∧ y < nid + cr.nb.length) → (cr.nb[y - nid]'(by omega)).live = true → m' y = some q → ((getB st.heap x).own = true ∨ (cr.nb[y - nid]'(by omega)).own = true) → p.b ≠ q.b := fun x y p q hx1 hx2 hx3 hx4 hy hy2 hy3 hy4 e => by
      have hx5 := oldp x p hx2 hx4
      have hlt := H.place hx3 hx5
      rcases hnp (y - nid) _ q (List.getElem?_eq_getElem (by omega)) hy2 (by rw [show nid + (y - nid) = y by omega]; exact hy3) with h | ⟨id, hid, ho, p', hp1, hp2⟩ | ⟨hno, id, p', hd1, hd2, hd3, hd4⟩
      · omega
      · rw [hrl id (Blk.live_of_own ho)] at ho
        exact H.apart id x p' p (fun e => hx1 (e ▸ hid)) ho hx3 hp1 hx5 (by rw [hp2, e])
      · rcases hy4 with hy4 | hy4
        · have hid := hrl id hd2
          rw [hid] at hd1 hd2
          exact H.apart x id p p' (fun e2 => by rw [e2, hd1] at hy4; cases hy4) hy4 hd2 hx5 hd3 (by rw [hd4, e])
        · rw [hno] at hy4; cases hy4
    have h1' : (getB hf' i).own = true := h1
    have h2' : (getB hf' j).live = true := h2
    rcases kinds i with ⟨a1, a2, a3, a4, _⟩ | ⟨n1, a1⟩ | a1
    · rcases kinds j with ⟨b1, b2, b3, b4, _⟩ | ⟨n2, b1⟩ | b1
      · exact H.apart i j p q hij (a3 h1') (b4 h2') (oldp i p a2 h3) (oldp j q b2 h4)
      · rw [b1] at h2'
        exact oldnew i j p q a1 a2 (a4 (Blk.live_of_own h1')) h3 n2 h2' h4 (Or.inl (a3 h1'))
      · rw [b1] at h2'; cases h2'
    · rw [a1] at h1'
      rcases kinds j with ⟨b1, b2, b3, b4, _⟩ | ⟨n2, b1⟩ | b1
      · exact (oldnew j i q p b1 b2 (b4 h2') h4 n1 (Blk.live_of_own h1') h3 (Or.inr h1')).symm
      · rw [b1] at h2'
        exact hnn (i - nid) (j - nid) _ _ p q (by omega) (List.getElem?_eq_getElem (by omega)) (List.getElem?_eq_getElem (by omega)) h1' h2' (by rw [show nid + (i - nid) = i by omega]; exact h3) (by rw [show nid + (j - nid) = j by omega]; exact h4)
      · rw [b1] at h2'; cases h2'
    · rw [a1] at h1'; cases h1'
  · have h1' : (getB hf' i).own = true := h1
    rcases kinds i with ⟨a1, a2, a3, a4, _⟩ | ⟨n1, a1⟩ | a1
    · exact H.own i p (a3 h1') (oldp i p a2 h3)
    · rw [a1] at h1'
      rcases hnp (i - nid) _ p (List.getElem?_eq_getElem (by omega)) (Blk.live_of_own h1') (by rw [show nid + (i - nid) = i by omega]; exact h3) with h | h | ⟨hno, _⟩
      · exact Or.inl (Nat.le_trans H.base_le h)
      · exact hused _ h
      · rw [hno] at h1'; cases h1'
    · rw [a1] at h1'; cases h1'
  · have hres : B ≤ k ∨ bad k := by
      rcases hu with h | ⟨id, hid, _, p, hp1, rfl⟩ | ⟨_, kk, i, hg⟩
      · exact hused k h
      · obtain ⟨b', hx, hb'⟩ := plainUpd_mem hid
        rcases (uold id b' hx).2 with ⟨H1, _, e1, _⟩ | ⟨_, e2, _⟩
        · exact absurd e1 (hb' H1)
        · exact H.own id p e2 hp1
      · exact H.gok.bad hg
    exact hres.resolve_left (by omega)
  · have h1' : (getB hf' j).live = true := h1
    rcases kinds j with ⟨b1, b2, b3, b4, _⟩ | ⟨n2, b1⟩ | b1
    · have hp' := oldp j p b2 h2
      rcases hG.new k i c h3 with h | ⟨_, h, _⟩
      · exact H.gok.apart j p k i c (b4 h1') hp' h
      · have := H.place (b4 h1') hp'; omega
    · rw [b1] at h1'
      exact hG.apart (j - nid) _ p (List.getElem?_eq_getElem (by omega)) h1' (by rw [show nid + (j - nid) = j by omega]; exact h2) k i c h3
    · rw [b1] at h1'; cases h1'
  · rcases hG.new k i c h with h | ⟨_, h4, h5⟩
    · exact ⟨(H.gok.own k i c h).1, Nat.lt_of_lt_of_le (H.gok.own k i c h).2 hk.size⟩
    · exact ⟨Or.inl (Nat.le_trans H.base_le h4), h5⟩
  · have h1' : getB hf' s = .store H1 := h1
    have h2' : getB hf' s' = .store H2 := h2
    have one : ∀ x X, getB hf' x = .store X → ∃ Y, getB st.heap x = .store Y := fun x X hx => by
      rcases kinds x with ⟨_, _, _, _, b5⟩ | ⟨n2, b1⟩ | b1
      · exact b5 X hx
      · rw [b1] at hx; exact absurd hx (hG.nosto _ (List.getElem_mem _) X)
      · rw [b1] at hx; cases hx
    obtain ⟨Y1, e1⟩ := one s H1 h1'
    obtain ⟨Y2, e2⟩ := one s' H2 h2'
    exact H.gok.one s s' Y1 Y2 e1 e2
theorem getB_same : ∀ {upd : List (Nat × Blk)} {h : List Blk}, (∀ x ∈ upd, x.2 = getB h x.1) → ∀ i, getB (setBs h upd) i = getB h i
  | [], h, _, i => rfl
  | (j, b) :: r, h, hx, i => by
    have e : ∀ k, getB (setB h j b) k = getB h k := fun k => by
      rw [getB_setB]
      split
      · rename_i e; rw [e]; exact hx (j, b) List.mem_cons_self
      · rfl
    simp only [setBs]
    rw [getB_same (fun x hm => by rw [e]; exact hx x (List.mem_cons_of_mem _ hm)), e]
theorem app_ext {st : St} {dst : Option Tmp} {x y : Res} (hv : x.val = y.val) (hb : ∀ i, getB (setBs st.heap x.wr) i = getB (setBs st.heap y.wr) i) :
    (st.app dst x).tmps = (st.app dst y).tmps ∧ ∀ i, getB (st.app dst x).heap i = getB (st.app dst y).heap i := by
  cases dst <;> simp only [St.app, St.put, hv, true_and] <;> exact hb
theorem sound_call {nid : Nat} {f : FuncId} {args : List SV} {vs : List Value} (hC : Cons.Ok P C) (hrd : ∀ id, rd id = getB st.heap id ∨ rd id = .dead) (he : effCall C rd nid f args = some r) (hp : ∀ q ∈ r.pre, q)
    (hf : ∀ id, id ∈ r.wr.map (·.1) → nid ≤ id → m id = none) (ha : All2 (Den m) args vs) (H : Holds B bad w0 m st a w) (dst : Option Tmp) :
    (∃ fn, P.funcs[f]? = some fn ∧ fn.body.isSome = true ∧ (fn.name == "runtime.NumGoroutine") = false) ∧
    Calls P f vs.toArray w (fun e w' => ∃ v, e = .returned v ∧ After B bad w0 m (st.app dst r) (r.wr.map (·.1)) (a.put dst v) w') := by
  unfold effCall at he
  split at he
  rotate_left
  · cases he
  rename_i c hc
  obtain ⟨hmem, rfl⟩ := findC_eq hc
  have hok := hC c hmem
  split at he
  rotate_left
  · cases he
  rename_i cr hcr
  split at he
  rotate_left
  · cases he
  rename_i z hz
  split at he
  rotate_left
  · cases he
  rename_i hupd
  cases he
  obtain rfl := kill_eq hz
  simp only [appW_eq] at hf hp ⊢
  have hfresh : ∀ k, k < cr.nb.length → m (nid + k) = none := fun k hk => hf _ (by simp only [List.map_append, List.mem_append]; exact Or.inl (mem_numberN hk)) (by omega)
  obtain ⟨k1, k2⟩ := sound_call0 hok hrd hcr hupd hp hfresh ha H dst
  refine ⟨k1, ?_⟩
  cases hro : cr.ro with
  | false => exact k2
  | true =>
    refine k2.mono ?_
    rintro e w' ⟨v, rfl, m', g1, g2, g3⟩
    have hsame := hok.ro nid args rd cr hcr hro
    obtain ⟨u1, u2⟩ := updOK_eq hupd
    have live : ∀ x ∈ cr.upd, rd x.1 ≠ .dead := fun x hx h => by
      rcases (u1 x hx).2 with ⟨H1, H2, e1, e2⟩ | ⟨e1, e2, e3⟩
      · rw [e2] at h; cases h
      · rw [h] at e2; cases e2
    have hst : ∀ x ∈ cr.upd, x.2 = getB st.heap x.1 := fun x hx => by
      rw [hsame x hx]
      exact (hrd x.1).resolve_right (live x hx)
    have hne : ∀ x ∈ cr.upd, m x.1 ≠ none := fun x hx hn => by
      have hb := H.blk x.1
      rw [← hst x hx] at hb
      rcases (u1 x hx).2 with ⟨H1, H2, e1, e2⟩ | ⟨e1, e2, e3⟩
      · rw [e1] at hb; exact hb.1 hn
      · obtain ⟨l, e, _⟩ := hb.place (Blk.live_of_own e3); rw [hn] at e; cases e
    have hout : ∀ x ∈ cr.upd, getB (setBs st.heap (numberN nid cr.nb ++ cr.used.map (fun i => (i, Blk.dead)))) x.1 = getB st.heap x.1 := fun x hx => by
      rw [setBs_append, getB_dead, if_neg (u1 x hx).1]
      refine getB_setBs_not fun y hy e => ?_
      obtain ⟨k, hk1, hk2⟩ := numberN_mem hy
      have hlt := (List.getElem?_eq_some_iff.1 hk1).1
      exact hne x hx (by rw [← e, hk2]; exact hfresh k hlt)
    obtain ⟨q1, q2⟩ := app_ext (st := st) (dst := dst) (x := ⟨cr.pre, cr.val, numberN nid cr.nb ++ (cr.used.map (fun i => (i, Blk.dead)) ++ roUpd true cr.upd)⟩) (y := ⟨cr.pre, cr.val, numberN nid cr.nb ++ (cr.used.map (fun i => (i, Blk.dead)) ++ cr.upd)⟩) rfl (fun i => by
      simp only [roUpd, List.append_nil]
      rw [← List.append_assoc, setBs_append _ cr.upd]
      exact (getB_same (fun x hx => by rw [hout x hx]; exact hst x hx) i).symm)
    refine ⟨v, rfl, m', g1, fun id hid => ?_, g3.ext (Nat.le_of_eq (by rw [q1])) (fun t => by rw [q1]) q2⟩
    rcases g2 id hid with h | h
    · exact Or.inl h
    · simp only [List.map_append, List.mem_append] at h ⊢
      rcases h with h | h | h
      · exact Or.inr (Or.inl h)
      · exact Or.inr (Or.inr (Or.inl h))
      · obtain ⟨x, hx, rfl⟩ := List.mem_map.1 h
        exact Or.inl (hne x hx)
end
end Go.Proofs.Ytkfaflhhkmkdjaa.Ev

namespace Go.Proofs.Ytkfaflhhkmkdjaa.Ev
open Go.RowKit
set_option linter.unusedVariables false
set_option linter.unusedSimpArgs false

abbrev EntH (g : Nat → Nat → Option Nat) (x : Int × Nat) (e : MapEntry) : Prop := e.key = .int .i64 x.1 ∧ NpV g 0 x.2 0 e.val

theorem find_ents {g : Nat → Nat → Option Nat} {n : Int} : ∀ {es : List (Int × Nat)} {l : List MapEntry} (i : Nat), All2 (EntH g) es l →
    (hasE es n = false ∧ Instr.findNow (.int .i64) (.int .i64 n) l i = some none ∧ lookE es n = 0 ∧ delE es n = es ∧ ∀ q v, NpV g 0 q 0 v → ∀ c, All2 (EntH g) (putE es n q) (l ++ [⟨.int .i64 n, v, c⟩])) ∨
    (hasE es n = true ∧ ∃ j e, l[j]? = some e ∧ e.key = .int .i64 n ∧ Instr.findNow (.int .i64) (.int .i64 n) l i = some (some (i + j, e.val)) ∧ NpV g 0 (lookE es n) 0 e.val ∧
      (∀ q v, NpV g 0 q 0 v → All2 (EntH g) (putE es n q) (l.set j ⟨.int .i64 n, v, e.born⟩)) ∧ All2 (EntH g) (delE es n) (l.eraseIdx j))
  | [], [], i, _ => Or.inl ⟨rfl, rfl, rfl, rfl, fun q v hv c => ⟨⟨rfl, hv⟩, trivial⟩⟩
  | (k, p) :: es, e :: l, i, ⟨⟨h1, h2⟩, h3⟩ => by
    by_cases hk : n = k
    · subst hk
      right
      refine ⟨by simp [hasE], 0, e, rfl, h1, ?_, by simp only [lookE, decide_true, cond_true]; exact h2, fun q v hv => ?_, ?_⟩
      · simp [Instr.findNow, Instr.sameNow, h1]
      · simp only [putE, decide_true, cond_true]; exact ⟨⟨rfl, hv⟩, h3⟩
      · simp only [delE, decide_true, cond_true]; exact h3
    · have hd : decide (n = k) = false := decide_eq_false hk
      have hb : (n == k) = false := by simp [hk]
      rcases find_ents (n := n) (i + 1) h3 with ⟨e1, e2, e3, e4, e5⟩ | ⟨e1, j, e', e2, e3, e4, e5, e6, e7⟩
      · left
        refine ⟨by simp only [hasE, hd, cond_false]; exact e1, ?_, by simp only [lookE, hd, cond_false]; exact e3, by simp only [delE, hd, cond_false, e4], fun q v hv c => ?_⟩
        · simp [Instr.findNow, Instr.sameNow, h1, hb, e2]
        · simp only [putE, hd, cond_false]; exact ⟨⟨h1, h2⟩, e5 q v hv c⟩
      · right
        refine ⟨by simp only [hasE, hd, cond_false]; exact e1, j + 1, e', by simpa using e2, e3, ?_, by simp only [lookE, hd, cond_false]; exact e5, fun q v hv => ?_, ?_⟩
        · simp [Instr.findNow, Instr.sameNow, h1, hb, e4]; omega
        · simp only [putE, hd, cond_false]; exact ⟨⟨h1, h2⟩, e6 q v hv⟩
        · simp only [delE, hd, cond_false]; exact ⟨⟨h1, h2⟩, e7⟩

section
variable {P : Program} {T : Tab} {B : Nat} {bad : Bad} {w0 : World} {m : Map} {st : St} {a : Act} {w : World} {rd : Nat → Blk} {r : Res}

theorem checkKey_int (e : Bool) (d : Nat) {t : TypeId} (h : P.underlying t = some (.int .i64)) (v : Value) (w : World) : (Instr.checkKey e (d + 1) t v).run P w = .ok () w := by
  unfold Instr.checkKey
  simp [run_underlying h]
theorem findKey_int {t : TypeId} (h : P.underlying t = some (.int .i64)) {n : Int} {l : List MapEntry} {x : Option (Nat × Value)} (hx : Instr.findNow (.int .i64) (.int .i64 n) l 0 = some x) (w : World) : (Instr.findKey t (.int .i64 n) l).run P w = .ok x w := by
  simp [Instr.findKey, run_underlying h, hx]

theorem getObj_at {b : Nat} {es : Array MapEntry} {c : Nat} (h : w.heap[b]? = some (.map es c)) : (getObj b).run P w = .ok (.map es c) w := by simp [getObj, Sem.run, h]
theorem setObj_at {b : Nat} {es : Array MapEntry} {c : Nat} (o : Obj) (h : w.heap[b]? = some (.map es c)) : (setObj b o).run P w = .ok () { w with heap := w.heap.setIfInBounds b o } := by simp [setObj, Sem.run, h]
theorem modify_set {α : Type} {l : List α} {j : Nat} {x : α} (f : α → α) (h : l[j]? = some x) : l.modify j f = l.set j (f x) := by
  apply List.ext_getElem?
  intro i
  rw [List.getElem?_modify, List.getElem?_set']
  by_cases e : j = i
  · subst e; simp [h]
  · simp [e]
theorem npV_nil {g : Nat → Nat → Option Nat} {k o : Nat} : NpV g k 0 o (.pointer none) := ⟨fun _ => rfl, fun i e => by omega⟩

/-- The entries of a map of the store, in the world. -/
theorem store_map {H : Hp} {p : Nat} {v : Value} (hB : StoreH m w H) (hv : MpV m.g p v) (hp : p ≤ H.mp.length) :
    (p = 0 ∧ v = .map none ∧ getM H.mp p = []) ∨ ∃ b ents cl, 0 < p ∧ m.g 2 (p - 1) = some b ∧ v = .map (some b) ∧ w.heap[b]? = some (.map ents cl) ∧ All2 (EntH m.g) (getM H.mp p) ents.toList := by
  cases p with
  | zero => exact Or.inl ⟨rfl, hv.1 rfl, rfl⟩
  | succ i =>
    right
    obtain ⟨b, e1, e2⟩ := hv.2 i rfl
    obtain ⟨b', ents, cl, f1, f2, f3⟩ := hB.mp i _ (mp_get (by omega))
    obtain rfl : b = b' := Option.some.inj (e1.symm.trans f1)
    exact ⟨b, ents, cl, by omega, e1, e2, f2, f3⟩

theorem isNilZero_eq {l : List SV} (h : isNilZero l = true) : l = [.cst (.pointer none)] := by
  unfold isNilZero at h
  repeat (split at h <;> try (cases h; done))
  rfl

theorem sound_lookup {t : TypeId} {x k : SV} {xv kv : Value} {ok : Bool} (hT : T.Ok P) (he : effLookup T rd t x k ok = some r) (hp : ∀ q ∈ r.pre, q) (hx : Den m x xv) (hk : Den m k kv) (hB : ∀ id, BlkH m id w (rd id)) :
    Yields P m (Instr.lookup t xv kv ok) w r := by
  unfold effLookup at he
  split at he
  rotate_left
  · cases he
  rename_i kt e _ _ _ _ _ _ _ hti
  obtain ⟨hu, hku⟩ := (hT t _ hti).kind
  split at he
  rotate_left
  · cases he
  rename_i ei hei
  split at he
  rotate_left
  · cases he
  rename_i hz
  simp only [Bool.and_eq_true, Bool.not_eq_true'] at hz
  obtain ⟨zv, hz1, hz2, hz3⟩ := (hT e ei hei).zero1 hz.2
  rw [isNilZero_eq hz.1] at hz2
  have hzv : zv = .pointer none := by
    have hc := cells_one hz3
    rw [hc] at hz2
    exact hz2.1 Map.none'
  subst hzv
  split at he
  rotate_left
  · cases he
  rename_i s p
  split at he
  rotate_left
  · cases he
  rename_i H hH
  obtain ⟨nd, tr, mp⟩ := H
  dsimp only at he
  split at he
  rotate_left
  · cases he
  rename_i n hn
  obtain rfl := toI_den hn hk
  have hS := hB s
  rw [hH] at hS
  have hpl : p ≤ mp.length := by cases ok <;> (cases he; exact hp _ (by simp))
  have hc : ∀ e v, (Instr.checkKey e 10000 kt v).run P w = .ok () w := fun e v => checkKey_int e 9999 hku v w
  -- the entries
  have key : ∀ (l : List MapEntry), All2 (EntH m.g) (getM mp p) l → ∃ v, (Instr.findKey kt (.int .i64 n) l).run P w = .ok (if hasE (getM mp p) n then some v else none) w ∧ (hasE (getM mp p) n = true → NpV m.g 0 (lookE (getM mp p) n) 0 v.2) ∧ (hasE (getM mp p) n = false → lookE (getM mp p) n = 0) := fun l hl => by
    rcases find_ents (n := n) 0 hl with ⟨e1, e2, e3, _⟩ | ⟨e1, j, e', e2, e3, e4, e5, _⟩
    · exact ⟨(0, .pointer none), (by rw [findKey_int hku e2, e1]; rfl), fun h => (by rw [e1] at h; cases h), fun _ => e3⟩
    · exact ⟨(0 + j, e'.val), (by rw [findKey_int hku e4, e1]; rfl), fun _ => e5, fun h => (by rw [e1] at h; cases h)⟩
  have fin : ∀ (l : List MapEntry), All2 (EntH m.g) (getM mp p) l → (∀ x : Option (Nat × Value), (Instr.findKey kt (.int .i64 n) l).run P w = .ok x w → (Instr.lookup t xv (.int .i64 n) ok).run P w = .ok (match x with | some v => (if ok then .tuple #[v.2, .bool true] else v.2) | none => (if ok then .tuple #[.pointer none, .bool false] else .pointer none)) w) →
      Yields P m (Instr.lookup t xv (.int .i64 n) ok) w r := fun l hl hrun => by
    obtain ⟨v, k1, k2, k3⟩ := key _ hl
    have hr := hrun _ k1
    cases hh : hasE (getM mp p) n with
    | true =>
      rw [hh] at hr
      cases ok with
      | true => cases he; exact ⟨_, hr, ⟨_, rfl, (k2 hh), hh ▸ rfl, trivial⟩, rfl⟩
      | false => cases he; exact ⟨_, hr, k2 hh, rfl⟩
    | false =>
      rw [hh] at hr
      have k3 := k3 hh
      cases ok with
      | true => cases he; rw [k3]; exact ⟨_, hr, ⟨_, rfl, npV_nil, hh ▸ rfl, trivial⟩, rfl⟩
      | false => cases he; rw [k3]; exact ⟨_, hr, npV_nil, rfl⟩
  rcases store_map hS.2 hx hpl with ⟨rfl, rfl, e3⟩ | ⟨b, ents, cl, e1, e2, rfl, e4, e5⟩
  · refine fin [] (by rw [e3]; trivial) (fun x hx => ?_)
    have hf : x = none := by
      have := findKey_int (P := P) hku (n := n) (l := []) (x := none) rfl w
      rw [this] at hx; cases hx; rfl
    subst hf
    cases ok <;> simp [Instr.lookup, run_underlying hu, hc, hx, hz1]
  · refine fin ents.toList e5 (fun x hx => ?_)
    cases x with
    | none => cases ok <;> simp [Instr.lookup, run_underlying hu, hc, hx, hz1, getObj_at e4]
    | some v => cases ok <;> simp [Instr.lookup, run_underlying hu, hc, hx, getObj_at e4]

theorem run_keyThatStays (n : Int) (w : World) : (Instr.keyThatStays (.int .i64 n) (.int .i64 n)).run P w = .ok (.int .i64 n) w := by
  simp [Instr.keyThatStays, Instr.sameBits]

/-- A map of the store, written. -/
theorem Holds.mwrite (H : Holds B bad w0 m st a w) {s p b : Nat} {H0 : Hp} {es : List (Int × Nat)} {ents : Array MapEntry} {cl : Nat} {o : Obj} (hs : getB st.heap s = .store H0) (hp : 0 < p) (hg : m.g 2 (p - 1) = some b) (ho : w.heap[b]? = some o)
    (hd : All2 (EntH m.g) es ents.toList) : Holds B bad w0 m ⟨st.tmps, setB st.heap s (.store ⟨H0.nd, H0.tr, setM H0.mp p es⟩)⟩ a { w with heap := w.heap.setIfInBounds b (.map ents cl) } := by
  have hB := H.blk s
  rw [hs] at hB
  have hlt : b < w.heap.size := (Array.getElem?_eq_some_iff.1 ho).1
  have e1 : ({ w with heap := w.heap.setIfInBounds b (.map ents cl) } : World).heap[b]? = some (.map ents cl) := by simp [hlt]
  have e2 : ∀ c, c ≠ b → ({ w with heap := w.heap.setIfInBounds b (.map ents cl) } : World).heap[c]? = w.heap[c]? := fun c hc => by simp [Array.getElem?_setIfInBounds, Ne.symm hc]
  exact H.swrite hs (Map.le.refl m) (fun _ => rfl) (hB.2.updM hp hg e1 e2 hd) rfl rfl rfl (by simp) (fun k _ hk => e2 k fun e => hk _ _ (e ▸ hg)) (fun _ _ _ h => Or.inl h)

theorem sound_mapUpdate {t : TypeId} {x k v : SV} {xv kv vv : Value} (hT : T.Ok P) (hrd : ∀ id, rd id = getB st.heap id ∨ rd id = .dead) (he : effMapUpdate T rd t x k v = some r) (hp : ∀ q ∈ r.pre, q) (hx : Den m x xv) (hk : Den m k kv) (hv : Den m v vv) (H : Holds B bad w0 m st a w) :
    ∃ w', (Instr.mapUpdate t xv kv vv).run P w = .ok () w' ∧ Holds B bad w0 m ⟨st.tmps, setBs st.heap r.wr⟩ a w' ∧ r.val = .any := by
  unfold effMapUpdate at he
  split at he
  rotate_left
  · cases he
  rename_i kt e _ _ _ _ _ _ _ hti
  obtain ⟨hu, hku⟩ := (hT t _ hti).kind
  split at he
  rotate_left
  · cases he
  rename_i s p
  split at he
  rotate_left
  · cases he
  rename_i H0 hH
  obtain ⟨nd, tr, mp⟩ := H0
  dsimp only at he
  split at he
  rotate_left
  · cases he
  rename_i n hn
  obtain rfl := toI_den hn hk
  split at he
  rotate_left
  · cases he
  rename_i q hq
  have hq' : NpV m.g 0 q 0 vv := by
    cases v with
    | np => exact toPt_den hq hv
    | cst => exact toPt_den hq hv
    | _ => cases hq
  cases he
  have hs : getB st.heap s = .store ⟨nd, tr, mp⟩ := by rcases hrd s with h | h <;> rw [h] at hH; exact hH; cases hH
  have hB := H.blk s
  rw [hs] at hB
  have h0 : 0 < p := hp _ (by simp)
  have hpl : p ≤ mp.length := hp _ (by simp)
  have hc : ∀ e v, (Instr.checkKey e 10000 kt v).run P w = .ok () w := fun e v => checkKey_int e 9999 hku v w
  rcases store_map hB.2 hx hpl with ⟨rfl, _, _⟩ | ⟨b, ents, cl, e1, e2, rfl, e4, e5⟩
  · omega
  rcases find_ents (n := n) 0 e5 with ⟨f1, f2, f3, f4, f5⟩ | ⟨f1, j, e', f2, f3, f4, f5, f6, f7⟩
  · have hf := findKey_int (P := P) hku f2 w
    refine ⟨_, by simp [Instr.mapUpdate, run_underlying hu, hc, hf, getObj_at e4, setObj_at _ e4]; rfl, H.mwrite (es := putE (getM mp p) n q) hs h0 e2 e4 ?_, rfl⟩
    simpa using f5 q vv hq' cl
  · have hf := findKey_int (P := P) hku f4 w
    have hj : ents[j]? = some e' := by rw [← Array.getElem?_toList]; exact f2
    have hjl : j < ents.size := (Array.getElem?_eq_some_iff.1 hj).1
    refine ⟨_, by simp [Instr.mapUpdate, run_underlying hu, hc, hf, getObj_at e4, setObj_at _ e4, hj, f3, run_keyThatStays]; rfl, H.mwrite (es := putE (getM mp p) n q) hs h0 e2 e4 ?_, rfl⟩
    have := f6 q vv hq'
    rw [Array.toList_modify]
    rw [modify_set _ f2]
    exact this

theorem sound_delete {ts : Array TypeId} {ty : TypeId} {x k : SV} {xv kv : Value} (hT : T.Ok P) (hrd : ∀ id, rd id = getB st.heap id ∨ rd id = .dead) (he : effDelete T rd ts x k = some r) (hp : ∀ q ∈ r.pre, q) (hx : Den m x xv) (hk : Den m k kv) (H : Holds B bad w0 m st a w) :
    Does P B bad w0 m st a w r (Builtin.delete_ ts ty #[xv, kv]) := by
  unfold effDelete at he
  split at he
  rotate_left
  · cases he
  rename_i t t2 hts
  have hts' : ts = #[t, t2] := by apply Array.ext'; rw [hts]
  subst hts'
  split at he
  rotate_left
  · cases he
  rename_i kt e _ _ _ _ _ _ _ hti
  obtain ⟨hu, hku⟩ := (hT t _ hti).kind
  split at he
  rotate_left
  · cases he
  rename_i s p
  split at he
  rotate_left
  · cases he
  rename_i H0 hH
  obtain ⟨nd, tr, mp⟩ := H0
  dsimp only at he
  split at he
  rotate_left
  · cases he
  rename_i n hn
  obtain rfl := toI_den hn hk
  cases he
  have hs : getB st.heap s = .store ⟨nd, tr, mp⟩ := by rcases hrd s with h | h <;> rw [h] at hH; exact hH; cases hH
  have hB := H.blk s
  rw [hs] at hB
  have h0 : 0 < p := hp _ (by simp)
  have hpl : p ≤ mp.length := hp _ (by simp)
  have hc : ∀ e v, (Instr.checkKey e 10000 kt v).run P w = .ok () w := fun e v => checkKey_int e 9999 hku v w
  rcases store_map hB.2 hx hpl with ⟨rfl, _, _⟩ | ⟨b, ents, cl, e1, e2, rfl, e4, e5⟩
  · omega
  have fin : ∀ (ents' : Array MapEntry), (Builtin.delete_ #[t, t2] ty #[.map (some b), .int .i64 n]).run P w = .ok (.tuple #[]) { w with heap := w.heap.setIfInBounds b (.map ents' cl) } → All2 (EntH m.g) (delE (getM mp p) n) ents'.toList →
      Does P B bad w0 m st a w ⟨[0 < p, p ≤ mp.length], .tup [], [(s, .store ⟨nd, tr, setM mp p (delE (getM mp p) n)⟩)]⟩ (Builtin.delete_ #[t, t2] ty #[.map (some b), .int .i64 n]) := fun ents' h1 h2 =>
    ⟨_, _, m, h1, Map.le.refl m, fun id h => Or.inl h, H.mwrite (es := delE (getM mp p) n) hs h0 e2 e4 h2, ⟨#[], rfl, trivial⟩⟩
  rcases find_ents (n := n) 0 e5 with ⟨f1, f2, f3, f4, f5⟩ | ⟨f1, j, e', f2, f3, f4, f5, f6, f7⟩
  · have hf := findKey_int (P := P) hku f2 w
    exact fin ents (by simp [Builtin.delete_, run_underlying hu, hc, hf, getObj_at e4, setObj_at _ e4]) (by rw [f4]; exact e5)
  · have hf := findKey_int (P := P) hku f4 w
    exact fin (ents.eraseIdxIfInBounds j) (by simp [Builtin.delete_, run_underlying hu, hc, hf, getObj_at e4, setObj_at _ e4]) (by
      have hjl : j < ents.size := by have := (List.getElem?_eq_some_iff.1 f2).1; simpa using this
      simpa [Array.eraseIdxIfInBounds, hjl] using f7)

theorem sound_lenMap {t : TypeId} {ti : TI} {k e : TypeId} {x : SV} {xv : Value} {ty : TypeId} (hT : T.Ok P) (ht : T.get t = some ti) (hk : ti.k = .map k e) (he : effLenMap rd x = some r) (hp : ∀ q ∈ r.pre, q) (hx : Den m x xv) (hB : ∀ id, BlkH m id w (rd id)) :
    Yields P m (Builtin.len_ #[t] ty #[xv]) w r := by
  unfold effLenMap at he
  split at he
  rotate_left
  · cases he
  rename_i s p
  split at he
  rotate_left
  · cases he
  rename_i H0 hH
  obtain ⟨nd, tr, mp⟩ := H0
  dsimp only at he
  cases he
  have hS := hB s
  rw [hH] at hS
  have hkk := (hT t _ ht).kind
  rw [hk] at hkk
  obtain ⟨hu, hku⟩ := hkk
  have hpl : p ≤ mp.length := hp _ (by simp)
  rcases store_map hS.2 hx hpl with ⟨rfl, rfl, e3⟩ | ⟨b, ents, cl, e1, e2, rfl, e4, e5⟩
  · exact ⟨goInt 0, by simp [Builtin.len_, run_underlying hu], by rw [e3]; rfl, rfl⟩
  · refine ⟨goInt ents.size, by simp [Builtin.len_, run_underlying hu, getObj_at e4], ?_, rfl⟩
    have := e5.length
    simp only [Array.length_toList] at this
    show goInt ents.size = .int .i64 _
    rw [this]; rfl
/- Maps of one's own, from numbers to truths. -/
theorem find_entb {n : Int} : ∀ {es : List (Int × Bool)} {l : List MapEntry} (i : Nat), All2 EntB es l →
    (Instr.findNow (.int .i64) (.int .i64 n) l i = some none ∧ lookB es n = false ∧ ∀ q c, All2 EntB (putB es n q) (l ++ [⟨.int .i64 n, .bool q, c⟩])) ∨
    (∃ j e, l[j]? = some e ∧ e.key = .int .i64 n ∧ Instr.findNow (.int .i64) (.int .i64 n) l i = some (some (i + j, e.val)) ∧ e.val = .bool (lookB es n) ∧
      (∀ q, All2 EntB (putB es n q) (l.set j ⟨.int .i64 n, .bool q, e.born⟩)))
  | [], [], i, _ => Or.inl ⟨rfl, rfl, fun q c => ⟨⟨rfl, rfl⟩, trivial⟩⟩
  | (k, p) :: es, e :: l, i, ⟨⟨h1, h2⟩, h3⟩ => by
    by_cases hk : n = k
    · subst hk
      right
      refine ⟨0, e, rfl, h1, ?_, by simp only [lookB, decide_true, cond_true]; exact h2, fun q => ?_⟩
      · simp [Instr.findNow, Instr.sameNow, h1]
      · simp only [putB, decide_true, cond_true]; exact ⟨⟨rfl, rfl⟩, h3⟩
    · have hd : decide (n = k) = false := decide_eq_false hk
      have hb : (n == k) = false := by simp [hk]
      rcases find_entb (n := n) (i + 1) h3 with ⟨e2, e3, e5⟩ | ⟨j, e', e2, e3, e4, e5, e6⟩
      · left
        refine ⟨?_, by simp only [lookB, hd, cond_false]; exact e3, fun q c => ?_⟩
        · simp [Instr.findNow, Instr.sameNow, h1, hb, e2]
        · simp only [putB, hd, cond_false]; exact ⟨⟨h1, h2⟩, e5 q c⟩
      · right
        refine ⟨j + 1, e', by simpa using e2, e3, ?_, by simp only [lookB, hd, cond_false]; exact e5, fun q => ?_⟩
        · simp [Instr.findNow, Instr.sameNow, h1, hb, e4]; omega
        · simp only [putB, hd, cond_false]; exact ⟨⟨h1, h2⟩, e6 q⟩
theorem isFalseZero_eq {l : List SV} (h : isFalseZero l = true) : l = [.blit false] := by
  unfold isFalseZero at h
  repeat' split at h
  all_goals first | rfl | cases h
theorem sound_lookup2 {t : TypeId} {x k : SV} {xv kv : Value} {ok : Bool} (hT : T.Ok P) (he : effLookup2 T rd t x k ok = some r) (hp : ∀ q ∈ r.pre, q) (hx : Den m x xv) (hk : Den m k kv) (hB : ∀ id, BlkH m id w (rd id)) :
    Yields P m (Instr.lookup t xv kv ok) w r := by
  unfold effLookup2 at he
  split at he
  rotate_left
  · exact sound_lookup hT he hp hx hk hB
  rename_i id
  split at he
  rotate_left
  · cases he
  rename_i kt e _ _ _ _ _ _ _ hti
  obtain ⟨hu, hku⟩ := (hT t _ hti).kind
  split at he
  rotate_left
  · cases he
  rename_i ei hei
  split at he
  rotate_left
  · cases he
  rename_i hz
  simp only [Bool.and_eq_true, Bool.not_eq_true'] at hz
  obtain ⟨zv, hz1, hz2, hz3⟩ := (hT e ei hei).zero1 hz.2
  rw [isFalseZero_eq hz.1] at hz2
  have hzv : zv = .bool false := by
    have hc := cells_one hz3
    rw [hc] at hz2
    exact hz2.1 Map.none'
  subst hzv
  split at he
  rotate_left
  · cases he
  rename_i es hes
  split at he
  rotate_left
  · cases he
  rename_i n hn
  obtain rfl := toI_den hn hk
  split at he
  · cases he
  have hS := hB id
  rw [hes] at hS
  obtain ⟨l, ents, ck, hm, hw, hd⟩ := hS
  obtain ⟨l', hm', rfl⟩ := hx
  have e0 : l = l' := Option.some.inj (hm.symm.trans hm')
  subst e0
  have hc : ∀ e v, (Instr.checkKey e 10000 kt v).run P w = .ok () w := fun e v => checkKey_int e 9999 hku v w
  cases he
  rcases find_entb (n := n) 0 hd with ⟨e2, e3, _⟩ | ⟨j, e', e2, e3, e4, e5, _⟩
  · have hf := findKey_int (P := P) hku e2 w
    refine ⟨.bool false, ?_, (by rw [e3]; rfl), rfl⟩
    simp [Instr.lookup, run_underlying hu, hc, hf, hz1, getObj_at hw]
  · have hf := findKey_int (P := P) hku e4 w
    refine ⟨.bool (lookB es n), ?_, rfl, rfl⟩
    simp [Instr.lookup, run_underlying hu, hc, hf, getObj_at hw, e5]
theorem sound_mapUpdate2 {t : TypeId} {x k v : SV} {xv kv vv : Value} (hT : T.Ok P) (hrd : ∀ id, rd id = getB st.heap id ∨ rd id = .dead) (he : effMapUpdate2 T rd t x k v = some r) (hp : ∀ q ∈ r.pre, q) (hx : Den m x xv) (hk : Den m k kv) (hv : Den m v vv) (H : Holds B bad w0 m st a w) :
    ∃ w', (Instr.mapUpdate t xv kv vv).run P w = .ok () w' ∧ Holds B bad w0 m ⟨st.tmps, setBs st.heap r.wr⟩ a w' ∧ r.val = .any := by
  unfold effMapUpdate2 at he
  split at he
  rotate_left
  · exact sound_mapUpdate hT hrd he hp hx hk hv H
  rename_i id
  split at he
  rotate_left
  · cases he
  rename_i kt e _ _ _ _ _ _ _ hti
  obtain ⟨hu, hku⟩ := (hT t _ hti).kind
  split at he
  rotate_left
  · cases he
  rename_i es hes
  split at he
  rotate_left
  · cases he
  rename_i n hn
  obtain rfl := toI_den hn hk
  split at he
  rotate_left
  · cases he
  rename_i b hb
  obtain rfl := toB_den hb hv
  cases he
  have hs : getB st.heap id = .mapb es := by rcases hrd id with h | h <;> rw [h] at hes; exact hes; cases hes
  have hS := H.blk id
  rw [hs] at hS
  obtain ⟨l, ents, cl, hm, hw, hd⟩ := hS
  obtain ⟨l', hm', rfl⟩ := hx
  have e0 : l = l' := Option.some.inj (hm.symm.trans hm')
  subst e0
  have hc : ∀ e v, (Instr.checkKey e 10000 kt v).run P w = .ok () w := fun e v => checkKey_int e 9999 hku v w
  have hlt : l.b < w.heap.size := (Array.getElem?_eq_some_iff.1 hw).1
  have write : ∀ (ents' : Array MapEntry) (cl' : Nat), All2 EntB (putB es n b) ents'.toList → Holds B bad w0 m ⟨st.tmps, setB st.heap id (.mapb (putB es n b))⟩ a { w with heap := w.heap.setIfInBounds l.b (.map ents' cl') } := fun ents' cl' h =>
    H.write hm (by rw [hs]; rfl) ⟨l, ents', cl', hm, by simp [hlt], h⟩ rfl rfl rfl (by simp) (fun k hk => by simp [Array.getElem?_setIfInBounds, Ne.symm hk])
  rcases find_entb (n := n) 0 hd with ⟨f2, f3, f5⟩ | ⟨j, e', f2, f3, f4, f5, f6⟩
  · have hf := findKey_int (P := P) hku f2 w
    refine ⟨_, by simp [Instr.mapUpdate, run_underlying hu, hc, hf, getObj_at hw, setObj_at _ hw]; rfl, write _ _ ?_, rfl⟩
    simpa using f5 b cl
  · have hf := findKey_int (P := P) hku f4 w
    have hj : ents[j]? = some e' := by rw [← Array.getElem?_toList]; exact f2
    have hjl : j < ents.size := (Array.getElem?_eq_some_iff.1 hj).1
    refine ⟨_, by simp [Instr.mapUpdate, run_underlying hu, hc, hf, getObj_at hw, setObj_at _ hw, hj, f3, run_keyThatStays]; rfl, write _ _ ?_, rfl⟩
    have := f6 b
    rw [Array.toList_modify]
    rw [modify_set _ f2]
    exact this
theorem sound_makeMap2 {nid : Nat} {t : TypeId} (hrd : ∀ id, rd id = getB st.heap id ∨ rd id = .dead) (he : effMakeMap2 T rd nid t = some r) (hf : isBoolMap T t = true → m nid = none) (H : Holds B bad w0 m st a w) : Does P B bad w0 m st a w r (Instr.makeMap t none) := by
  unfold effMakeMap2 at he
  split at he
  rotate_left
  · exact sound_makeMap hrd he H
  rename_i hb
  have hf := hf hb
  cases he
  refine ⟨.map (some w.heap.size), w.alloc (.map #[] 0), m.set nid ⟨w.heap.size, 0, 0⟩, rfl, Map.le_set hf _, fun id hi => ?_, H.new hf ⟨⟨w.heap.size, 0, 0⟩, #[], 0, by simp [Map.set_f], heap_new _ _, trivial⟩, ⟨⟨w.heap.size, 0, 0⟩, by simp [Map.set_f], rfl⟩⟩
  by_cases e : id = nid
  · exact Or.inr (by simp [e])
  · exact Or.inl (by simpa [Map.set_f, e] using hi)
end
end Go.Proofs.Ytkfaflhhkmkdjaa.Ev

namespace Go.Proofs.Ytkfaflhhkmkdjaa.Ev
open Go.RowKit
set_option linter.unusedVariables false
set_option linter.unusedSimpArgs false

section
variable {P : Program} {T : Tab} {C : List Con} {B : Nat} {bad : Bad} {w0 : World} {m : Map} {st : St} {a : Act} {w : World} {rd : Nat → Blk} {r : Res}

theorem vals_den (H : Holds B bad w0 m st a w) : ∀ (l : List Operand), All2 (Den m) (vals st.tmps l) (l.map a.eval)
  | [] => trivial
  | x :: l => ⟨evL_den H.tmp x, vals_den H l⟩

theorem wp_of_yields {o : Oper} {Q : Exit → Act → World → Prop} {s : Sem Value} (hx : execOp a.eval o = (do pure (.value (← s)))) (H : Holds B bad w0 m st a w) (h : Yields P m s w r) :
    o.wp P a w (After B bad w0 m (st.app o.dst r) (r.wr.map (·.1))) Q := wp_of_does hx (h.does H)

theorem append_nid {nid : Nat} {ts : Array TypeId} {s x : SV} (he : effAppend T rd nid ts s x = some r) : nid ∈ r.wr.map (·.1) := by
  unfold effAppend at he
  iterate 16 (all_goals (try (split at he)))
  all_goals (first | (cases he; done) | (cases he; exact List.mem_cons_self))
theorem buildSlice_nid {nid n : Nat} {t : TypeId} {ps : Array (Nat × Operand)} {vs : List SV} (he : effBuildSlice T nid t n ps vs = some r) : nid ∈ r.wr.map (·.1) := by
  unfold effBuildSlice at he
  iterate 8 (all_goals (try (split at he)))
  all_goals (first | (cases he; done) | (cases he; exact List.mem_cons_self))
theorem build0_nid {nid : Nat} {t : TypeId} {ps : Array (Nat × Operand)} (he : effBuild0 T nid t ps = some r) : nid ∈ r.wr.map (·.1) := by
  unfold effBuild0 at he
  iterate 4 (all_goals (try (split at he)))
  all_goals (first | (cases he; done) | (cases he; exact List.mem_cons_self))
theorem make_nid {nid : Nat} {t : TypeId} {l c : SV} (he : effMake T nid t l c = some r) : nid ∈ r.wr.map (·.1) := by
  unfold effMake at he
  iterate 8 (all_goals (try (split at he)))
  all_goals (first | (cases he; done) | (cases he; exact List.mem_cons_self))

theorem sound_builtin {nid : Nat} {b : Builtin} {ts : Array TypeId} {ty : TypeId} {cs : Array Bool} {l : List Operand} (hT : T.Ok P) (hrd : ∀ id, rd id = getB st.heap id ∨ rd id = .dead) (he : effBuiltin T rd nid b ts (vals st.tmps l) = some r) (hp : ∀ q ∈ r.pre, q)
    (hf : ∀ id, id ∈ r.wr.map (·.1) → nid ≤ id → m id = none) (H : Holds B bad w0 m st a w) :
    ∃ s : Sem Value, builtin b ts ty cs (l.map a.eval).toArray = (do pure (.value (← s))) ∧ Does P B bad w0 m st a w r s := by
  unfold effBuiltin at he
  split at he
  · split at he
    rotate_left
    · cases he
    rename_i x hvs
    match l, hvs with
    | [y], hvs =>
      simp only [vals, List.cons.injEq, and_true] at hvs
      split at he
      rotate_left
      · cases he
      rename_i t hts
      have hts' : ts = #[t] := by apply Array.ext'; rw [hts]
      subst hts'
      split at he
      · rename_i e _ _ _ _ _ _ _ hti
        split at he
        rotate_left
        · cases he
        rename_i v hv
        cases he
        subst hvs
        obtain ⟨z, h1, h2⟩ := sound_len (w := w) (ty := ty) hT hti rfl hv (evL_den H.tmp y)
        exact ⟨_, rfl, Yields.does ⟨z, h1, h2, rfl⟩ H⟩
      · rename_i k e _ _ _ _ _ _ _ hti
        subst hvs
        exact ⟨_, rfl, (sound_lenMap (ty := ty) hT hti rfl he hp (evL_den H.tmp y) (fun id => by
          rcases hrd id with h | h <;> rw [h]
          · exact H.blk id
          · trivial)).does H⟩
      · cases he
  · split at he
    rotate_left
    · cases he
    rename_i x y hvs
    match l, hvs with
    | [p, q], hvs =>
      simp only [vals, List.cons.injEq, and_true] at hvs
      obtain ⟨rfl, rfl⟩ := hvs
      exact ⟨_, rfl, sound_delete hT hrd he hp (evL_den H.tmp p) (evL_den H.tmp q) H⟩
  · split at he
    rotate_left
    · cases he
    rename_i x y hvs
    match l, hvs with
    | [p, q], hvs =>
      simp only [vals, List.cons.injEq, and_true] at hvs
      obtain ⟨rfl, rfl⟩ := hvs
      split at he
      rotate_left
      · cases he
      rename_i k u _ hu
      split at he
      rotate_left
      · cases he
      rename_i k' u' _ hu'
      cases he
      have e1 := toN_den hu (evL_den H.tmp p)
      have e2 := toN_den hu' (evL_den H.tmp q)
      refine ⟨_, rfl, Yields.does ⟨.int k (min u u'), ?_, rfl, rfl⟩ H⟩
      simp only [List.map_cons, List.map_nil, e1, e2]
      rw [run_min_int2, min_int]
  · split at he
    · rename_i x y hvs
      match l, hvs with
      | [p, q], hvs =>
        simp only [vals, List.cons.injEq, and_true] at hvs
        obtain ⟨rfl, rfl⟩ := hvs
        split at he
        rotate_left
        · cases he
        rename_i k u _ hu
        split at he
        rotate_left
        · cases he
        rename_i k' u' _ hu'
        cases he
        have e1 := toN_den hu (evL_den H.tmp p)
        have e2 := toN_den hu' (evL_den H.tmp q)
        refine ⟨_, rfl, Yields.does ⟨.int k (max u u'), ?_, rfl, rfl⟩ H⟩
        simp only [List.map_cons, List.map_nil, e1, e2]
        rw [run_max_int2, max_int]
    · rename_i x y z hvs
      match l, hvs with
      | [p, q, o], hvs =>
        simp only [vals, List.cons.injEq, and_true] at hvs
        obtain ⟨rfl, rfl, rfl⟩ := hvs
        split at he
        rotate_left
        · cases he
        rename_i k u _ hu
        split at he
        rotate_left
        · cases he
        rename_i k' u' _ hu'
        split at he
        rotate_left
        · cases he
        rename_i k'' u'' _ hu''
        cases he
        have e1 := toN_den hu (evL_den H.tmp p)
        have e2 := toN_den hu' (evL_den H.tmp q)
        have e3 := toN_den hu'' (evL_den H.tmp o)
        refine ⟨_, rfl, Yields.does ⟨.int k (max (max u u') u''), ?_, rfl, rfl⟩ H⟩
        simp only [List.map_cons, List.map_nil, e1, e2, e3]
        rw [run_max_int3, max_int, max_int]
    · cases he
  · split at he
    rotate_left
    · cases he
    rename_i x y hvs
    match l, hvs with
    | [p, q], hvs =>
      simp only [vals, List.cons.injEq, and_true] at hvs
      obtain ⟨rfl, rfl⟩ := hvs
      refine ⟨_, rfl, sound_append hT hrd he hp (hf nid ?_ (Nat.le_refl _)) (evL_den H.tmp p) (evL_den H.tmp q) H⟩
      exact append_nid he
  · split at he
    rotate_left
    · cases he
    rename_i x y hvs
    match l, hvs with
    | [p, q], hvs =>
      simp only [vals, List.cons.injEq, and_true] at hvs
      obtain ⟨rfl, rfl⟩ := hvs
      exact ⟨_, rfl, sound_copy hT hrd he hp (evL_den H.tmp p) (evL_den H.tmp q) H⟩
  · cases he

/-- THE LAW OF AN OPERATION. -/
theorem op_sound {nid : Nat} {o : Oper} {Q : Exit → Act → World → Prop} (hT : T.Ok P) (hC : Cons.Ok P C) (hrd : ∀ id, rd id = getB st.heap id ∨ rd id = .dead) (he : eff T C o.op (vals st.tmps (opnds o.op)) rd nid = some r) (hp : ∀ q ∈ r.pre, q)
    (hf : ∀ id, id ∈ r.wr.map (·.1) → nid ≤ id → m id = none) (H : Holds B bad w0 m st a w) : o.wp P a w (After B bad w0 m (st.app o.dst r) (r.wr.map (·.1))) Q := by
  have ev := fun x => evL_den H.tmp x
  have hB := fun id => (show BlkH m id w (rd id) from by
    rcases hrd id with h | h <;> rw [h]
    · exact H.blk id
    · trivial)
  have hx0 : execOp a.eval o = execOp a.eval { o with op := o.op } := rfl
  cases hop : o.op <;> rw [hop] at he
  case move x =>
    have he' : some (Res.mk [] (evL st.tmps x) []) = some r := he
    cases he'
    exact wp_of_yields (s := pure (a.eval x)) (by unfold execOp; rw [hop]; rfl) H ⟨_, rfl, ev x, rfl⟩
  case assign x =>
    have he' : some (Res.mk [] (evL st.tmps x) []) = some r := he
    cases he'
    exact wp_of_yields (s := pure (a.eval x)) (by unfold execOp; rw [hop]; rfl) H ⟨_, rfl, ev x, rfl⟩
  case pick c x y =>
    obtain ⟨z, h1, h2, h3⟩ := sound_pick (P := P) (w := w) (r := r) (show effPick (evL st.tmps c) (evL st.tmps x) (evL st.tmps y) = some r from he) hp (ev c) (ev x) (ev y)
    have D : Does P B bad w0 m st a w r (pure z) := Yields.does ⟨z, rfl, h2, h3⟩ H
    obtain ⟨v, w', h4, h5⟩ := D.after o.dst
    cases h4
    unfold Oper.wp execOp
    rw [hop]
    simp only
    rw [h1]
    exact h5
  case alloc t => exact wp_of_does (by unfold execOp; rw [hop]) (sound_alloc hT hrd (show effAlloc T rd nid t = some r from he) (fun h0 => hf nid (by
      have he' : effAlloc T rd nid t = some r := he
      unfold effAlloc at he'
      split at he'
      · rename_i ti hti
        unfold stOf at h0
        rw [hti] at h0
        simp only at h0
        rw [h0] at he'
        cases he'; simp
      · cases he') (Nat.le_refl _)) H)
  case box t x => exact wp_of_does (by unfold execOp; rw [hop]) (sound_box hrd (show effBox T rd nid t (evL st.tmps x) = some r from he) (fun h0 => hf nid (by
      have he' : effBox T rd nid t (evL st.tmps x) = some r := he
      unfold effBox at he'; split at he'
      · rw [h0] at he'; cases he'; simp
      · cases he') (Nat.le_refl _)) (ev x) H)
  case makeMap t x =>
    cases x with
    | some z => cases he
    | none => exact wp_of_does (by unfold execOp; rw [hop]; rfl) (sound_makeMap2 hrd (show effMakeMap2 T rd nid t = some r from he) (fun h0 => hf nid (by
      have he' : effMakeMap2 T rd nid t = some r := he
      unfold effMakeMap2 at he'; rw [h0] at he'; cases he'; simp) (Nat.le_refl _)) H)
  case lookup t x k ok => exact wp_of_yields (by unfold execOp; rw [hop]) H (sound_lookup2 hT (show effLookup2 T rd t (evL st.tmps x) (evL st.tmps k) ok = some r from he) hp (ev x) (ev k) hB)
  case mapUpdate t x k y =>
    obtain ⟨w', h1, h2, h3⟩ := sound_mapUpdate2 hT hrd (show effMapUpdate2 T rd t (evL st.tmps x) (evL st.tmps k) (evL st.tmps y) = some r from he) hp (ev x) (ev k) (ev y) H
    unfold Oper.wp execOp
    rw [hop]
    simp only [Sem.run_bind, h1, Result.andThen_ok, Sem.run_pure, Oper.upon_skip]
    refine ⟨m, Map.le.refl m, fun id h => Or.inl h, ?_⟩
    have := h2.put o.dst (s := r.val) (v := undef) (by rw [h3]; trivial)
    exact this
  case build t ps =>
    refine wp_of_yields (by unfold execOp; rw [hop]) H (sound_build hT (show effBuild T t ps (vals st.tmps (ps.toList.map (·.2))) = some r from he) ?_)
    have := vals_den H (ps.toList.map (·.2))
    rwa [List.map_map] at this
  case buildSlice t n ps =>
    cases n with
    | zero =>
      refine wp_of_does (by unfold execOp; rw [hop]) (sound_build0 hT (show effBuild0 T nid t ps = some r from he) (hf nid ?_ (Nat.le_refl _)) H _)
      exact build0_nid (show effBuild0 T nid t ps = some r from he)
    | succ n =>
    refine wp_of_does (by unfold execOp; rw [hop]) (sound_buildSlice hT (show effBuildSlice T nid t (n + 1) ps (vals st.tmps (ps.toList.map (·.2))) = some r from he) (hf nid ?_ (Nat.le_refl _)) ?_ H)
    · exact buildSlice_nid (show effBuildSlice T nid t (n + 1) ps (vals st.tmps (ps.toList.map (·.2))) = some r from he)
    · have := vals_den H (ps.toList.map (·.2))
      rwa [List.map_map] at this
  case load t x => exact wp_of_yields (by unfold execOp; rw [hop]) H (sound_load hT (show effLoad T rd t (evL st.tmps x) = some r from he) hp (ev x) hB)
  case store t x y =>
    obtain ⟨w', h1, h2, h3⟩ := sound_store hT hrd (show effStore T rd t (evL st.tmps x) (evL st.tmps y) = some r from he) hp (ev x) (ev y) H
    unfold Oper.wp execOp
    rw [hop]
    simp only [Sem.run_bind, h1, Result.andThen_ok, Sem.run_pure, Oper.upon_skip]
    refine ⟨m, Map.le.refl m, fun id h => Or.inl h, ?_⟩
    have := h2.put o.dst (s := r.val) (v := undef) (by rw [h3]; trivial)
    exact this
  case nilCheck x =>
    obtain ⟨⟨ad, h1⟩, h2, h3⟩ := sound_nil (r := r) (show effNil (evL st.tmps x) = some r from he) hp (ev x)
    obtain ⟨v, w', h4, h5⟩ := (Yields.does (s := pure (a.eval x)) ⟨a.eval x, rfl, h2, h3⟩ H : Does P B bad w0 m st a w r (pure (a.eval x))).after o.dst
    cases h4
    unfold Oper.wp execOp
    rw [hop]
    simp only [h1]
    rw [h1] at h5
    exact h5
  case binOp op t x y t2 =>
    exact wp_of_yields (by unfold execOp; rw [hop]) H (sound_bin2 (w := w) x y hT (show effBin T rd op t (evL st.tmps x) (evL st.tmps y) = some r from he) hp hB (ev x) (ev y))
  case unOp op t x => exact wp_of_yields (by unfold execOp; rw [hop]) H (sound_un (show effUn op (evL st.tmps x) = some r from he) hp (ev x))
  case convert s d x => exact wp_of_yields (by unfold execOp; rw [hop]) H (sound_conv hT (show effConv T s d (evL st.tmps x) = some r from he) hp (ev x))
  case makeSlice t l c =>
    refine wp_of_does (by unfold execOp; rw [hop]) (sound_make hT (show effMake T nid t (evL st.tmps l) (evL st.tmps c) = some r from he) hp (hf nid ?_ (Nat.le_refl _)) (ev l) (ev c) H)
    exact make_nid (show effMake T nid t (evL st.tmps l) (evL st.tmps c) = some r from he)
  case slice t x lo hi mx =>
    cases mx with
    | some z => exact absurd he (by cases lo <;> cases hi <;> exact fun h => by cases h)
    | none =>
      cases lo with
      | none =>
        cases hi with
        | none => exact wp_of_yields (by unfold execOp; rw [hop]; rfl) H (sound_slice (lv := none) (hv := none) hT (show effSlice T t none none (evL st.tmps x) [] = some r from he) hp (ev x) rfl rfl trivial)
        | some h => exact wp_of_yields (by unfold execOp; rw [hop]; rfl) H (sound_slice (lv := none) (hv := some (a.eval h)) hT (show effSlice T t none (some h) (evL st.tmps x) [evL st.tmps h] = some r from he) hp (ev x) rfl rfl ⟨ev h, trivial⟩)
      | some l =>
        cases hi with
        | none => exact wp_of_yields (by unfold execOp; rw [hop]; rfl) H (sound_slice (lv := some (a.eval l)) (hv := none) hT (show effSlice T t (some l) none (evL st.tmps x) [evL st.tmps l] = some r from he) hp (ev x) rfl rfl ⟨ev l, trivial⟩)
        | some h => exact wp_of_yields (by unfold execOp; rw [hop]; rfl) H (sound_slice (lv := some (a.eval l)) (hv := some (a.eval h)) hT (show effSlice T t (some l) (some h) (evL st.tmps x) [evL st.tmps l, evL st.tmps h] = some r from he) hp (ev x) rfl rfl ⟨ev l, ev h, trivial⟩)
  case fieldAddr t x f => exact wp_of_yields (by unfold execOp; rw [hop]) H (sound_fieldAddr hT (show effFieldAddr T t f (evL st.tmps x) = some r from he) hp (ev x))
  case field t x f => exact wp_of_yields (by unfold execOp; rw [hop]) H (sound_field hT (show effField T t f (evL st.tmps x) = some r from he) (ev x))
  case indexAddr t x i => exact wp_of_yields (by unfold execOp; rw [hop]) H (sound_indexAddr hT (show effIndexAddr T t (evL st.tmps x) (evL st.tmps i) = some r from he) hp (ev x) (ev i))
  case index t x i => exact wp_of_yields (by unfold execOp; rw [hop]) H (sound_index hT (show effIndex T t (evL st.tmps x) (evL st.tmps i) = some r from he) (ev x) (ev i))
  case extract x i => exact wp_of_yields (by unfold execOp; rw [hop]) H (sound_extract (show effExtract i (evL st.tmps x) = some r from he) (ev x))
  case call c =>
    obtain ⟨callee, args, ts⟩ := c
    cases callee with
    | value f =>
      cases f with
      | func f =>
        have he' : effCall C rd nid f (vals st.tmps args.toList) = some r := he
        obtain ⟨⟨fn, h1, h2, h3⟩, hc⟩ := sound_call hC hrd he' hp hf (vals_den H args.toList) H o.dst
        unfold Oper.wp execOp
        rw [hop]
        have hb : fn.body.isNone = false := by cases hb : fn.body <;> simp [hb] at h2 ⊢
        have harr : (args.toList.map a.eval).toArray = args.map a.eval := by apply Array.ext'; simp
        have hfn : a.eval (.func f) = .func (.func f) #[] #[] := rfl
        rw [harr] at hc
        simp only [resolve, hfn, Deferred.ofValue, Sem.run_bind, Sem.run_pure, Result.andThen_ok, invoke, callFunc, run_program, h1, h3, Bool.false_eq_true, if_false, hb, Array.append_empty, Array.empty_append, Oper.upon_enter]
        refine hc.mono ?_
        rintro e w' ⟨v, rfl, hv⟩
        exact hv
      | _ => cases he
    | invoke x n => cases he
    | builtin b =>
      obtain ⟨s, h1, h2⟩ := sound_builtin (ty := o.type) (cs := args.map fun | .const _ => true | _ => false) (l := args.toList) hT hrd (show effBuiltin T rd nid b ts (vals st.tmps args.toList) = some r from he) hp hf H
      refine wp_of_does ?_ h2
      have harr : (args.toList.map a.eval).toArray = args.map a.eval := by apply Array.ext'; simp
      rw [harr] at h1
      rw [← h1]
      unfold execOp
      rw [hop]
      rfl
  all_goals (cases he)
end
end Go.Proofs.Ytkfaflhhkmkdjaa.Ev

namespace Go.Proofs.Ytkfaflhhkmkdjaa.Ev
open Go.RowKit
set_option linter.unusedVariables false
set_option linter.unusedSimpArgs false

/-- What an operation did: its number, where its new blocks are numbered from, its effect (none: it was not wanted), the blocks it looked into. -/
structure Rec where
  i : Nat
  nid : Nat
  res : Option Res
  rds : List Nat

def dstOf (ops : Array Oper) (i : Nat) : Option Tmp := (ops[i]?).bind (·.dst)

def wantS (ops : Array Oper) (o : Oper) (tmps : List SV) : Option Bool :=
  match o.guard with
  | none => some true
  | some (j, b) => match dstOf ops j with
    | some d => match getL tmps d with
      | .blit c => some (c == b)
      | .bool c => some (c == b)
      | .cst v => match v with
        | .bool c => some (c == b)
        | _ => some false
      | _ => none
    | none => none

def rdS (ids : List Nat) (h : List Blk) (id : Nat) : Blk := if ids.contains id then getB h id else .dead

/-- A truth that is a letter may be told by its case. -/
def Ref (v v' : SV) : Prop := v' = v ∨ ∃ c, v = .bool c ∧ v' = .blit c

def appRec (ops : Array Oper) (st : St) (r : Rec) : St :=
  match r.res with
  | none => st.put (dstOf ops r.i) (.cst undef)
  | some x => st.app (dstOf ops r.i) x

def Step (T : Tab) (C : List Con) (ops : Array Oper) (st : St) (r : Rec) : Prop :=
  ∃ o, ops[r.i]? = some o ∧ match r.res with
    | none => wantS ops o st.tmps = some false
    | some x => wantS ops o st.tmps = some true ∧ (∀ p ∈ x.pre, p) ∧ r.rds = rids T o.op (vals st.tmps (opnds o.op)) ∧
      ∃ x0, eff T C o.op (vals st.tmps (opnds o.op)) (rdS (rids T o.op (vals st.tmps (opnds o.op))) st.heap) r.nid = some x0 ∧ x.pre = x0.pre ∧ x.wr = x0.wr ∧ Ref x0.val x.val

def Run (T : Tab) (C : List Con) (ops : Array Oper) : List Rec → St → St → Prop
  | [], st, st' => st' = st
  | r :: rs, st, st' => Step T C ops st r ∧ r.nid = st.heap.length ∧ Run T C ops rs (appRec ops st r) st'

theorem Ref.den {v v' : SV} (h : Ref v v') {m : Map} {x : Value} (d : Den m v x) : Den m v' x := by
  rcases h with rfl | ⟨c, rfl, rfl⟩ <;> exact d

section
variable {P : Program} {T : Tab} {C : List Con} {B : Nat} {bad : Bad} {w0 : World} {m : Map} {st : St} {a : Act} {w : World} {ops : Array Oper}

theorem want_den {o : Oper} {b : Bool} (H : Holds B bad w0 m st a w) (h : wantS ops o st.tmps = some b) : Region.wanted o (yielded ops a.tmps) = b := by
  unfold wantS at h
  unfold Region.wanted
  split at h
  · rename_i hg; cases h; rw [hg]
  · rename_i j want hg
    rw [hg]
    simp only
    split at h
    rotate_left
    · cases h
    rename_i d hd
    have key : ∀ c, a.tmps.getD d undef = .bool c → yielded ops a.tmps j = some c := fun c hc => by
      have hb : a.tmps[d]? = some (.bool c) := by
        rw [Array.getD_eq_getD_getElem?] at hc
        cases hx : a.tmps[d]? with
        | none => rw [hx] at hc; simp [undef] at hc
        | some v => rw [hx] at hc; simp at hc; rw [hc]
      unfold yielded
      unfold dstOf at hd
      rw [hd]
      simp [hb]
    have ht := H.tmp d
    split at h
    · rename_i c hc; cases h; rw [hc] at ht
      rw [key c ht]; cases c <;> cases want <;> rfl
    · rename_i c hc; cases h; rw [hc] at ht
      rw [key c ht]; cases c <;> cases want <;> rfl
    · rename_i v hc; rw [hc] at ht
      have ht : a.tmps.getD d undef = v := ht
      have non : (∀ c, v ≠ .bool c) → yielded ops a.tmps j = none := fun hv => by
        unfold yielded
        unfold dstOf at hd
        rw [hd]
        rw [Array.getD_eq_getD_getElem?] at ht
        cases hx : a.tmps[d]? with
        | none => simp [hx]
        | some u =>
          rw [hx] at ht
          simp at ht
          subst ht
          cases u <;> first | (simp [hx]; done) | exact absurd rfl (hv _)
      cases v with
      | bool c => cases h; rw [key c ht]; cases c <;> cases want <;> rfl
      | _ => cases h; rw [non (fun c e => by cases e)]; cases want <;> rfl
    · cases h

/-- One step, in the world. -/
theorem step_wp {Q : Exit → Act → World → Prop} {r : Rec} (hT : T.Ok P) (hC : Cons.Ok P C) (hs : Step T C ops st r) (hf : ∀ x id, r.res = some x → id ∈ x.wr.map (·.1) → r.nid ≤ id → m id = none) (H : Holds B bad w0 m st a w) :
    wpOp P ops Q r.i (After B bad w0 m (appRec ops st r) (match r.res with | some x => x.wr.map (·.1) | none => [])) a w := by
  obtain ⟨o, ho, hs⟩ := hs
  unfold wpOp
  simp only [ho]
  have hdst : dstOf ops r.i = o.dst := by simp [dstOf, ho]
  unfold appRec
  rw [hdst]
  cases hr : r.res with
  | none =>
    rw [hr] at hs
    rw [want_den H hs]
    simp only [Bool.false_eq_true, if_false]
    exact ⟨m, Map.le.refl m, fun id h => Or.inl h, H.put o.dst (s := .cst undef) rfl⟩
  | some x =>
    rw [hr] at hs
    obtain ⟨h1, h2, h3, x0, h4, h5, h6, h7⟩ := hs
    rw [want_den H h1]
    simp only [if_true]
    left
    have := op_sound (Q := Q) hT hC (rd := rdS (rids T o.op (vals st.tmps (opnds o.op))) st.heap) (fun id => by unfold rdS; split; exact Or.inl rfl; exact Or.inr rfl) h4 (fun q hq => h2 q (by rw [h5]; exact hq)) (fun id hid hn => hf x id hr (by rw [h6]; exact hid) hn) H
    refine Oper.wp_mono (fun a' w' h => ?_) this
    obtain ⟨m', g1, g2, g3⟩ := h
    refine ⟨m', g1, fun id hid => by rw [h6]; exact g2 id hid, ?_⟩
    have e : ∀ (s : St) (d : Option Tmp), s.app d x = St.put ⟨s.tmps, setBs s.heap x0.wr⟩ d x.val := fun s d => by simp only [St.app, h6]
    rw [e]
    refine ⟨g3.defers, ?_, fun t => ?_, ?_, ?_, ?_, g3.below, g3.base, ?_⟩
    · have := g3.size
      cases hd : o.dst <;> simp only [St.app, St.put, setL_length, hd] at this ⊢ <;> exact this
    · have := g3.tmp t
      cases hd : o.dst with
      | none => simp only [St.app, St.put, hd] at this ⊢; exact this
      | some d =>
        simp only [St.app, St.put, hd, getL_setL] at this ⊢
        split
        · rename_i hc; rw [if_pos hc] at this; exact h7.den this
        · rename_i hc; rw [if_neg hc] at this; exact this
    · have := g3.blk
      cases hd : o.dst <;> simp only [St.app, St.put, hd] at this ⊢ <;> exact this
    · have := g3.apart
      cases hd : o.dst <;> simp only [St.app, St.put, hd] at this ⊢ <;> exact this
    · have := g3.own
      cases hd : o.dst <;> simp only [St.app, St.put, hd] at this ⊢ <;> exact this
    · have := g3.gok
      cases hd : o.dst <;> simp only [St.app, St.put, hd] at this ⊢ <;> exact this

/-- The numbers of a state's blocks. -/
def Dom (m : Map) (n : Nat) : Prop := ∀ id, m id ≠ none → id < n

theorem setBs_len : ∀ {wr : List (Nat × Blk)} {h : List Blk}, h.length ≤ (setBs h wr).length ∧ ∀ id ∈ wr.map (·.1), id < (setBs h wr).length
  | [], h => by simp [setBs]
  | (i, b) :: wr, h => by
    obtain ⟨h1, h2⟩ := setBs_len (wr := wr) (h := setB h i b)
    have := setB_length h i b
    simp only [setBs]
    refine ⟨by omega, fun id hid => ?_⟩
    simp only [List.map_cons, List.mem_cons] at hid
    rcases hid with rfl | hid
    · omega
    · exact h2 id hid
theorem put_heap (st : St) (d : Option Tmp) (v : SV) : (st.put d v).heap = st.heap := by cases d <;> rfl
theorem put_len (st : St) (d : Option Tmp) (v : SV) : (st.put d v).tmps.length = st.tmps.length := by cases d <;> simp [St.put, setL_length]
theorem appRec_heap (st : St) (r : Rec) : (appRec ops st r).heap = match r.res with | some x => setBs st.heap x.wr | none => st.heap := by
  unfold appRec
  cases r.res <;> simp [St.app, put_heap]
theorem appRec_len (st : St) (r : Rec) : (appRec ops st r).tmps.length = st.tmps.length := by
  unfold appRec
  cases r.res <;> simp [St.app, put_len]
def recIds (r : Rec) : List Nat := match r.res with | some x => x.wr.map (·.1) | none => []
theorem appRec_dom {m m' : Map} {r : Rec} (h : Dom m st.heap.length) (h2 : ∀ id, m' id ≠ none → m id ≠ none ∨ id ∈ recIds r) : Dom m' (appRec ops st r).heap.length := by
  intro id hid
  rw [appRec_heap]
  unfold recIds at h2
  cases hr : r.res with
  | none => rw [hr] at h2; exact h id ((h2 id hid).resolve_right (by simp))
  | some x =>
    rw [hr] at h2
    obtain ⟨g1, g2⟩ := setBs_len (wr := x.wr) (h := st.heap)
    rcases h2 id hid with h3 | h3
    · exact Nat.lt_of_lt_of_le (h id h3) g1
    · exact g2 id h3

/-- In the order of the text. -/
theorem run_ops {Q : Exit → Act → World → Prop} (hT : T.Ok P) (hC : Cons.Ok P C) : ∀ (rs : List Rec) (m : Map) (st st' : St) (a : Act) (w : World), Run T C ops rs st st' → Dom m st.heap.length → Holds B bad w0 m st a w →
    (∀ m' a' w', m.le m' → Dom m' st'.heap.length → Holds B bad w0 m' st' a' w' → Q .normal a' w') → wpOps P ops Q (rs.map (·.i)) a w
  | [], m, st, st', a, w, hr, hd, H, hQ => by
    cases hr
    exact hQ m a w (Map.le.refl m) hd H
  | r :: rs, m, st, st', a, w, ⟨h1, h2, h3⟩, hd, H, hQ => by
    rw [List.map_cons, wpOps_cons]
    refine wpOp_mono (fun a' w' h => ?_) (step_wp (Q := Q) hT hC h1 (fun x id _ _ hn => ?_) H)
    · obtain ⟨m', g1, g2, g3⟩ := h
      exact run_ops hT hC rs m' _ st' a' w' h3 (appRec_dom hd g2) g3 (fun m'' a'' w'' k1 k2 k3 => hQ m'' a'' w'' (g1.trans k1) k2 k3)
    · cases hm : m id with
      | none => rfl
      | some p => exact absurd (hd id (by rw [hm]; simp)) (by omega)
end
end Go.Proofs.Ytkfaflhhkmkdjaa.Ev

namespace Go.Proofs.Ytkfaflhhkmkdjaa.Ev
open Go.RowKit
set_option linter.unusedVariables false
set_option linter.unusedSimpArgs false

/-- Equal, as far as a state is read. -/
structure EqSt (s s' : St) : Prop where
  len : s.tmps.length = s'.tmps.length
  tmp : ∀ t, getL s.tmps t = getL s'.tmps t
  blk : ∀ id, getB s.heap id = getB s'.heap id
theorem EqSt.refl (s : St) : EqSt s s := ⟨rfl, fun _ => rfl, fun _ => rfl⟩
theorem EqSt.trans {a b c : St} (h : EqSt a b) (k : EqSt b c) : EqSt a c := ⟨h.len.trans k.len, fun t => (h.tmp t).trans (k.tmp t), fun i => (h.blk i).trans (k.blk i)⟩
theorem EqSt.symm {a b : St} (h : EqSt a b) : EqSt b a := ⟨h.len.symm, fun t => (h.tmp t).symm, fun i => (h.blk i).symm⟩
theorem Holds.eqSt {B : Nat} {bad : Bad} {w0 : World} {m : Map} {s s' : St} {a : Act} {w : World} (h : Holds B bad w0 m s a w) (e : EqSt s s') : Holds B bad w0 m s' a w :=
  h.ext (Nat.le_of_eq e.len.symm) (fun t => (e.tmp t).symm) (fun i => (e.blk i).symm)

section
variable {ops : Array Oper}

def recVal (r : Rec) : SV := match r.res with | some x => x.val | none => .cst undef
def wrVal : List (Nat × Blk) → Nat → Blk
  | [], _ => .dead
  | (i, b) :: r, id => if id ∈ r.map (·.1) then wrVal r id else if i = id then b else .dead
def recBlk (r : Rec) (id : Nat) : Blk := match r.res with | some x => wrVal x.wr id | none => .dead

theorem getB_wr : ∀ (wr : List (Nat × Blk)) (h : List Blk) (id : Nat), getB (setBs h wr) id = if id ∈ wr.map (·.1) then wrVal wr id else getB h id
  | [], h, id => by simp [setBs]
  | (i, b) :: wr, h, id => by
    simp only [setBs, getB_wr wr, List.map_cons, List.mem_cons, wrVal, getB_setB]
    by_cases h1 : id ∈ wr.map (·.1)
    · simp [h1]
    · by_cases h2 : id = i
      · subst h2; simp [h1]
      · simp [h1, h2]

theorem appRec_tmp (s : St) (r : Rec) (t : Nat) : getL (appRec ops s r).tmps t = if dstOf ops r.i = some t ∧ t < s.tmps.length then recVal r else getL s.tmps t := by
  have key : ∀ (s' : St) (v : SV), s'.tmps = s.tmps → getL (s'.put (dstOf ops r.i) v).tmps t = if dstOf ops r.i = some t ∧ t < s.tmps.length then v else getL s.tmps t := fun s' v e => by
    cases hd : dstOf ops r.i with
    | none => simp [St.put, e]
    | some d =>
      simp only [St.put, getL_setL, e, Option.some.injEq]
      by_cases h : t = d
      · subst h; simp
      · have h' : ¬ d = t := fun e => h e.symm
        simp [h, h']
  unfold appRec recVal
  cases hr : r.res with
  | none => exact key s (.cst undef) rfl
  | some x => exact key ⟨s.tmps, setBs s.heap x.wr⟩ x.val rfl
theorem appRec_blk (s : St) (r : Rec) (id : Nat) : getB (appRec ops s r).heap id = if id ∈ recIds r then recBlk r id else getB s.heap id := by
  rw [appRec_heap]
  unfold recIds recBlk
  cases hr : r.res with
  | none => simp
  | some x => exact getB_wr _ _ _

theorem appRec_congr {s s' : St} (h : EqSt s s') (r : Rec) : EqSt (appRec ops s r) (appRec ops s' r) :=
  ⟨by rw [appRec_len, appRec_len, h.len], fun t => by rw [appRec_tmp, appRec_tmp, h.tmp, h.len], fun id => by rw [appRec_blk, appRec_blk, h.blk]⟩

/-- They write nothing in common. -/
def Apart (ops : Array Oper) (r r' : Rec) : Prop := (∀ t, dstOf ops r.i = some t → dstOf ops r'.i ≠ some t) ∧ ∀ id ∈ recIds r, id ∉ recIds r'

theorem appRec_comm {r r' : Rec} (h : Apart ops r r') (s : St) : EqSt (appRec ops (appRec ops s r) r') (appRec ops (appRec ops s r') r) := by
  refine ⟨by simp only [appRec_len], fun t => ?_, fun id => ?_⟩
  · simp only [appRec_tmp, appRec_len]
    by_cases h1 : dstOf ops r.i = some t
    · have h2 := h.1 t h1
      simp [h1, h2]
    · simp [h1]
  · simp only [appRec_blk]
    by_cases h1 : id ∈ recIds r
    · have h2 := h.2 id h1
      simp [h1, h2]
    · simp [h1]

/-- The state behind those that L names. -/
def stL (ops : Array Oper) (L : Nat → Bool) : List Rec → St → St
  | [], s => s
  | r :: rs, s => stL ops L rs (if L r.i then appRec ops s r else s)

theorem stL_append (L : Nat → Bool) : ∀ (x y : List Rec) (s : St), stL ops L (x ++ y) s = stL ops L y (stL ops L x s)
  | [], y, s => rfl
  | r :: x, y, s => by simp only [List.cons_append, stL, stL_append L x y]
theorem stL_congr (L : Nat → Bool) : ∀ (rs : List Rec) {s s' : St}, EqSt s s' → EqSt (stL ops L rs s) (stL ops L rs s')
  | [], s, s', h => h
  | r :: rs, s, s', h => by
    simp only [stL]
    split
    · exact stL_congr L rs (appRec_congr h r)
    · exact stL_congr L rs h
theorem stL_len (L : Nat → Bool) : ∀ (rs : List Rec) (s : St), (stL ops L rs s).tmps.length = s.tmps.length
  | [], s => rfl
  | r :: rs, s => by
    simp only [stL, stL_len L rs]
    split
    · rw [appRec_len]
    · rfl
theorem stL_eq {L L' : Nat → Bool} : ∀ (rs : List Rec) (s : St), (∀ r ∈ rs, L r.i = L' r.i) → stL ops L rs s = stL ops L' rs s
  | [], s, h => rfl
  | r :: rs, s, h => by
    simp only [stL]
    rw [h r (by simp), stL_eq rs _ (fun x hx => h x (by simp [hx]))]

/-- A slot that no operation writes in which L and L' differ. -/
theorem stL_tmp {L L' : Nat → Bool} {t : Nat} : ∀ (rs : List Rec) (s s' : St), s.tmps.length = s'.tmps.length → getL s.tmps t = getL s'.tmps t → (∀ r ∈ rs, L r.i ≠ L' r.i → dstOf ops r.i ≠ some t) →
    getL (stL ops L rs s).tmps t = getL (stL ops L' rs s').tmps t
  | [], s, s', hl, h, _ => h
  | r :: rs, s, s', hl, h, hn => by
    simp only [stL]
    refine stL_tmp rs _ _ ?_ ?_ (fun x hx => hn x (by simp [hx]))
    · split <;> split <;> simp [appRec_len, hl]
    · by_cases e : L r.i = L' r.i
      · rw [e]
        split
        · rw [appRec_tmp, appRec_tmp, hl, h]
        · exact h
      · have hd := hn r (by simp) e
        have h1 : ∀ x : St, getL (appRec ops x r).tmps t = getL x.tmps t := fun x => by rw [appRec_tmp, if_neg (fun c => hd c.1)]
        split <;> split <;> simp [h1, h]
theorem stL_blk {L L' : Nat → Bool} {id : Nat} : ∀ (rs : List Rec) (s s' : St), getB s.heap id = getB s'.heap id → (∀ r ∈ rs, L r.i ≠ L' r.i → id ∉ recIds r) →
    getB (stL ops L rs s).heap id = getB (stL ops L' rs s').heap id
  | [], s, s', h, _ => h
  | r :: rs, s, s', h, hn => by
    simp only [stL]
    refine stL_blk rs _ _ ?_ (fun x hx => hn x (by simp [hx]))
    by_cases e : L r.i = L' r.i
    · rw [e]
      split
      · rw [appRec_blk, appRec_blk, h]
      · exact h
    · have hd := hn r (by simp) e
      have h1 : ∀ x : St, getB (appRec ops x r).heap id = getB x.heap id := fun x => by rw [appRec_blk, if_neg hd]
      split <;> split <;> simp [h1, h]

/-- One more, behind others that are apart from it. -/
theorem stL_later {L : Nat → Bool} {r0 : Rec} : ∀ (rs : List Rec) (s : St), (∀ r ∈ rs, L r.i = true → Apart ops r0 r) → EqSt (stL ops L rs (appRec ops s r0)) (appRec ops (stL ops L rs s) r0)
  | [], s, _ => EqSt.refl _
  | r :: rs, s, h => by
    simp only [stL]
    by_cases e : L r.i = true
    · rw [if_pos e, if_pos e]
      exact (stL_congr L rs (appRec_comm (h r (by simp) e) s)).trans (stL_later rs _ (fun x hx => h x (by simp [hx])))
    · rw [if_neg e, if_neg e]
      exact stL_later rs _ (fun x hx => h x (by simp [hx]))
end

/-- Which operations come before one, whatever the order (bits). -/
def ancOK (ops : Array Oper) (ancs : List Nat) : Bool :=
  (List.range ops.size).all fun i => match ops[i]? with
    | some o => Nat.beq (ancs.getD i 0) (o.after.toList.foldl (fun s e => if Region.binds .any e then s ||| 2 ^ e.on ||| ancs.getD e.on 0 else s) 0)
    | none => false

def ord (ancs : List Nat) (i j : Nat) : Bool := (ancs.getD j 0).testBit i || (ancs.getD i 0).testBit j

/-- The slots that an operation looks into. -/
def tRead (ops : Array Oper) (i : Nat) : List Nat :=
  match ops[i]? with
  | some o => (opnds o.op).filterMap (fun | .tmp t => some t | _ => none) ++ (match o.guard with
    | some (j, _) => (dstOf ops j).toList
    | none => [])
  | none => []

/-- What is checked of a region once: its order, its slots. -/
def regOK (ops : Array Oper) (order : List Nat) (ancs : List Nat) : Bool :=
  ancOK ops ancs && Nat.beq order.length ops.size && order.all (fun i => Nat.blt i ops.size) && (List.range ops.size).all (fun i => order.contains i) &&
  goesOK order [] &&
  (List.range ops.size).all fun i => match dstOf ops i with
    | none => true
    | some d => (List.range ops.size).all fun j => Nat.beq i j || !((tRead ops j).contains d || dstOf ops j == some d) || ord ancs i j
 where
  goesOK : List Nat → List Nat → Bool
    | [], _ => true
    | i :: r, seen => !seen.contains i && (match ops[i]? with
      | some o => o.after.toList.all fun e => !Region.binds .any e || seen.contains e.on
      | none => false) && goesOK r (i :: seen)

end Go.Proofs.Ytkfaflhhkmkdjaa.Ev

namespace Go.Proofs.Ytkfaflhhkmkdjaa.Ev
open Go.RowKit
set_option linter.unusedVariables false
set_option linter.unusedSimpArgs false

/-- What is checked of a run: two operations of which one writes a block that the other reads or writes are ordered. -/
def confOK (ancs : List Nat) (recs : List Rec) : Bool :=
  recs.all fun r => (recIds r).isEmpty || recs.all fun r' => Nat.beq r.i r'.i || (recIds r).all (fun id => !(r'.rds.contains id || (recIds r').contains id)) || ord ancs r.i r'.i

section
variable {P : Program} {T : Tab} {C : List Con} {B : Nat} {bad : Bad} {w0 : World} {ops : Array Oper}

theorem vals_eq {s s' : List SV} : ∀ {l : List Operand}, (∀ t, Operand.tmp t ∈ l → getL s t = getL s' t) → vals s l = vals s' l
  | [], _ => rfl
  | x :: l, h => by
    simp only [vals]
    rw [vals_eq (l := l) (fun t ht => h t (by simp [ht]))]
    congr 1
    cases x with
    | tmp t => exact h t (by simp)
    | _ => rfl

theorem Step.move {s s' : St} {r : Rec} (h : Step T C ops s r) (ht : ∀ t ∈ tRead ops r.i, getL s.tmps t = getL s'.tmps t) (hb : ∀ id ∈ r.rds, getB s.heap id = getB s'.heap id) : Step T C ops s' r := by
  obtain ⟨o, ho, h⟩ := h
  have hread : tRead ops r.i = (opnds o.op).filterMap (fun | .tmp t => some t | _ => none) ++ (match o.guard with | some (j, _) => (dstOf ops j).toList | none => []) := by
    unfold tRead; rw [ho]; try rfl
  have hv : vals s.tmps (opnds o.op) = vals s'.tmps (opnds o.op) := vals_eq fun t hm => ht t (by
    rw [hread, List.mem_append]
    left
    exact List.mem_filterMap.2 ⟨_, hm, rfl⟩)
  have hw : wantS ops o s.tmps = wantS ops o s'.tmps := by
    unfold wantS
    cases hg : o.guard with
    | none => rfl
    | some g =>
      obtain ⟨j, b⟩ := g
      simp only
      cases hd : dstOf ops j with
      | none => rfl
      | some d =>
        have := ht d (by rw [hread, List.mem_append, hg]; right; simp [hd])
        simp only [this]
  refine ⟨o, ho, ?_⟩
  cases hr : r.res with
  | none => rw [hr] at h; rw [← hw]; exact h
  | some x =>
    rw [hr] at h
    obtain ⟨h1, h2, h3, x0, h4, h5⟩ := h
    have hrd : rdS (rids T o.op (vals s.tmps (opnds o.op))) s.heap = rdS (rids T o.op (vals s.tmps (opnds o.op))) s'.heap := by
      funext id
      unfold rdS
      split
      · rename_i hc
        exact hb id (by rw [h3]; simpa using hc)
      · rfl
    rw [hw] at h1
    rw [hrd, hv] at h4
    rw [hv] at h3
    exact ⟨h1, h2, h3, x0, h4, h5⟩

def yes : Nat → Bool := fun _ => true

theorem run_end : ∀ {rs : List Rec} {s s' : St}, Run T C ops rs s s' → s' = stL ops yes rs s
  | [], s, s', h => h
  | r :: rs, s, s', ⟨_, _, h⟩ => by simpa [stL, yes] using run_end h
theorem run_split : ∀ {x y : List Rec} {r : Rec} {s s' : St}, Run T C ops (x ++ r :: y) s s' → Step T C ops (stL ops yes x s) r ∧ r.nid = (stL ops yes x s).heap.length
  | [], y, r, s, s', ⟨h1, h2, _⟩ => ⟨h1, h2⟩
  | q :: x, y, r, s, s', ⟨_, _, h⟩ => by simpa [stL, yes] using run_split h
theorem appRec_grow (s : St) (r : Rec) : s.heap.length ≤ (appRec ops s r).heap.length ∧ ∀ id ∈ recIds r, id < (appRec ops s r).heap.length := by
  rw [appRec_heap]
  unfold recIds
  cases r.res with
  | none => simp
  | some x => exact setBs_len
theorem stL_grow : ∀ (rs : List Rec) (s : St), s.heap.length ≤ (stL ops yes rs s).heap.length ∧ ∀ r ∈ rs, ∀ id ∈ recIds r, id < (stL ops yes rs s).heap.length
  | [], s => by simp [stL]
  | r :: rs, s => by
    obtain ⟨h1, h2⟩ := stL_grow rs (appRec ops s r)
    obtain ⟨g1, g2⟩ := appRec_grow (ops := ops) s r
    have e : stL ops yes (r :: rs) s = stL ops yes rs (appRec ops s r) := by simp [stL, yes]
    rw [e]
    refine ⟨by omega, fun x hx id hid => ?_⟩
    rcases List.mem_cons.1 hx with rfl | hx
    · exact Nat.lt_of_lt_of_le (g2 id hid) h1
    · exact h2 x hx id hid

theorem goes_split : ∀ {x y : List Nat} {i : Nat} {seen : List Nat}, regOK.goesOK ops (x ++ i :: y) seen = true →
    i ∉ x ∧ i ∉ seen ∧ ∃ o, ops[i]? = some o ∧ ∀ e ∈ o.after, Region.binds .any e = true → e.on ∈ x ∨ e.on ∈ seen
  | [], y, i, seen, h => by
    simp only [List.nil_append, regOK.goesOK, Bool.and_eq_true, Bool.not_eq_true'] at h
    obtain ⟨⟨h1, h2⟩, _⟩ := h
    refine ⟨by simp, by simpa using h1, ?_⟩
    cases ho : ops[i]? with
    | none => rw [ho] at h2; cases h2
    | some o =>
      rw [ho] at h2
      refine ⟨o, rfl, fun e he hb => Or.inr ?_⟩
      have := List.all_eq_true.1 h2 e (Array.mem_toList_iff.2 he)
      simpa [hb] using this
  | z :: x, y, i, seen, h => by
    simp only [List.cons_append, regOK.goesOK, Bool.and_eq_true, Bool.not_eq_true'] at h
    obtain ⟨h1, h2, o, ho, h3⟩ := goes_split h.2
    simp only [List.mem_cons, not_or] at h2
    refine ⟨by simp [h1]; exact h2.1, h2.2, o, ho, fun e he hb => ?_⟩
    rcases h3 e he hb with h | h
    · left; simp [h]
    · rcases List.mem_cons.1 h with h | h
      · left; simp [h]
      · exact Or.inr h

theorem anc_closed {ops : Array Oper} {ancs order : List Nat} (h : ancOK ops ancs = true) (hg : regOK.goesOK ops order [] = true) (hall : ∀ i, i < ops.size → i ∈ order) {L : Nat → Bool} (hL : ∀ i o, L i = true → ops[i]? = some o → ∀ e ∈ o.after, Region.binds .any e = true → L e.on = true) :
    ∀ (i : Nat) (o : Oper), ops[i]? = some o → (∀ e ∈ o.after, Region.binds .any e = true → L e.on = true) → ∀ k, (ancs.getD i 0).testBit k = true → L k = true := by
  have main : ∀ (n : Nat) (x y : List Nat) (i : Nat) (o : Oper), x.length ≤ n → order = x ++ i :: y → ops[i]? = some o → (∀ e ∈ o.after, Region.binds .any e = true → L e.on = true) → ∀ k, (ancs.getD i 0).testBit k = true → L k = true := by
    intro n
    induction n with
    | zero =>
      intro x y i o hx hxy ho hd k hk
      have hlt : i < ops.size := (Array.getElem?_eq_some_iff.1 ho).1
      have g2 := List.all_eq_true.1 h i (List.mem_range.2 hlt)
      simp only [ho] at g2
      rw [Nat.eq_of_beq_eq_true g2] at hk
      obtain ⟨e, he, hb, hke⟩ := bits _ k hk
      rw [hxy] at hg
      obtain ⟨_, _, o', ho', h4⟩ := goes_split hg
      rw [ho] at ho'; cases ho'
      rcases h4 e (Array.mem_toList_iff.1 he) hb with h5 | h5
      · rw [List.length_eq_zero_iff.1 (Nat.le_zero.1 hx)] at h5; cases h5
      · cases h5
    | succ n ih =>
      intro x y i o hx hxy ho hd k hk
      have hlt : i < ops.size := (Array.getElem?_eq_some_iff.1 ho).1
      have g2 := List.all_eq_true.1 h i (List.mem_range.2 hlt)
      simp only [ho] at g2
      rw [Nat.eq_of_beq_eq_true g2] at hk
      obtain ⟨e, he, hb, hke⟩ := bits _ k hk
      have hin : e ∈ o.after := Array.mem_toList_iff.1 he
      have hon := hd e hin hb
      rcases hke with rfl | hke
      · exact hon
      · have hg' := hg
        rw [hxy] at hg'
        obtain ⟨_, _, o', ho', h4⟩ := goes_split hg'
        rw [ho] at ho'; cases ho'
        have hmem := (h4 e hin hb).resolve_right (by simp)
        obtain ⟨x1, x2, hx12⟩ := List.append_of_mem hmem
        have hord : order = x1 ++ e.on :: (x2 ++ i :: y) := by rw [hxy, hx12]; simp
        have hg2 := hg
        rw [hord] at hg2
        obtain ⟨_, _, o2, ho2, _⟩ := goes_split hg2
        exact ih x1 _ e.on o2 (by rw [hx12] at hx; simp at hx; omega) hord ho2 (fun e' he' hb' => hL e.on o2 hon ho2 e' he' hb') k hke
  intro i o ho hd k hk
  have hlt : i < ops.size := (Array.getElem?_eq_some_iff.1 ho).1
  obtain ⟨x, y, hxy⟩ := List.append_of_mem (hall i hlt)
  exact main x.length x y i o (Nat.le_refl _) hxy ho hd k hk
 where
  bits : ∀ (l : List Edge) (k : Nat), (l.foldl (fun s e => if Region.binds .any e then s ||| 2 ^ e.on ||| ancs.getD e.on 0 else s) 0).testBit k = true → ∃ e ∈ l, Region.binds .any e = true ∧ (k = e.on ∨ (ancs.getD e.on 0).testBit k = true) := by
    have gen : ∀ (l : List Edge) (s k : Nat), (l.foldl (fun s e => if Region.binds .any e then s ||| 2 ^ e.on ||| ancs.getD e.on 0 else s) s).testBit k = true → s.testBit k = true ∨ ∃ e ∈ l, Region.binds .any e = true ∧ (k = e.on ∨ (ancs.getD e.on 0).testBit k = true) := by
      intro l
      induction l with
      | nil => intro s k hk; exact Or.inl hk
      | cons e l ih =>
        intro s k hk
        simp only [List.foldl_cons] at hk
        rcases ih _ k hk with h1 | ⟨e', he', h2⟩
        · split at h1
          · rename_i hb
            simp only [Nat.testBit_or, Bool.or_eq_true, Nat.testBit_two_pow, decide_eq_true_eq] at h1
            rcases h1 with (h1 | h1) | h1
            · exact Or.inl h1
            · exact Or.inr ⟨e, by simp, hb, Or.inl h1.symm⟩
            · exact Or.inr ⟨e, by simp, hb, Or.inr h1⟩
          · exact Or.inl h1
        · exact Or.inr ⟨e', by simp [he'], h2⟩
    intro l k hk
    rcases gen l 0 k hk with h1 | h1
    · simp at h1
    · exact h1

theorem split_of_mem {α : Type} [DecidableEq α] : ∀ {l : List Rec} {r : Rec}, r ∈ l → ∃ x y, l = x ++ r :: y
  | l, r, h => by obtain ⟨x, y, e⟩ := List.append_of_mem h; exact ⟨x, y, e⟩

theorem first_not {L : Nat → Bool} : ∀ {l : List Rec}, (∃ r ∈ l, L r.i = false) → ∃ x r y, l = x ++ r :: y ∧ L r.i = false ∧ ∀ q ∈ x, L q.i = true
  | [], h => by simp at h
  | r :: l, h => by
    by_cases e : L r.i = true
    · have : ∃ q ∈ l, L q.i = false := by
        obtain ⟨q, hq, hl⟩ := h
        rcases List.mem_cons.1 hq with rfl | hq
        · rw [e] at hl; cases hl
        · exact ⟨q, hq, hl⟩
      obtain ⟨x, r', y, h1, h2, h3⟩ := first_not this
      refine ⟨r :: x, r', y, by rw [h1]; rfl, h2, fun q hq => ?_⟩
      rcases List.mem_cons.1 hq with rfl | hq
      · exact e
      · exact h3 q hq
    · exact ⟨[], r, l, rfl, by simpa using e, by simp⟩

/-- What regOK says. -/
structure RegOK (ops : Array Oper) (order ancs : List Nat) : Prop where
  anc : ancOK ops ancs = true
  goes : regOK.goesOK ops order [] = true
  all : ∀ i, i < ops.size → i ∈ order
  tmps : ∀ i j d, i < ops.size → j < ops.size → i ≠ j → dstOf ops i = some d → (d ∈ tRead ops j ∨ dstOf ops j = some d) → ord ancs i j = true
theorem regOK_spec {order ancs : List Nat} (h : regOK ops order ancs = true) : RegOK ops order ancs := by
  simp only [regOK, Bool.and_eq_true] at h
  obtain ⟨⟨⟨⟨⟨h1, h2⟩, h3⟩, h4⟩, h5⟩, h6⟩ := h
  refine ⟨h1, h5, fun i hi => ?_, fun i j d hi hj hij hd hr => ?_⟩
  · have := List.all_eq_true.1 h4 i (List.mem_range.2 hi)
    simpa using this
  · have g1 := List.all_eq_true.1 h6 i (List.mem_range.2 hi)
    rw [hd] at g1
    have g2 := List.all_eq_true.1 g1 j (List.mem_range.2 hj)
    simp only [Bool.or_eq_true, Bool.not_eq_true', Bool.or_eq_false_iff] at g2
    rcases g2 with (g2 | g2) | g2
    · exact absurd (Nat.eq_of_beq_eq_true g2) hij
    · rcases hr with hr | hr
      · have : (tRead ops j).contains d = true := by simpa using hr
        rw [this] at g2; cases g2.1
      · rw [hr] at g2; simp at g2
    · exact g2

theorem conf_spec {ancs : List Nat} {recs : List Rec} (h : confOK ancs recs = true) {r r' : Rec} (hr : r ∈ recs) (hr' : r' ∈ recs) (hne : r.i ≠ r'.i) {id : Nat} (hid : id ∈ recIds r) (h2 : id ∈ r'.rds ∨ id ∈ recIds r') : ord ancs r.i r'.i = true := by
  have h1 := List.all_eq_true.1 h r hr
  simp only [Bool.or_eq_true] at h1
  rcases h1 with h1 | h1
  · simp only [List.isEmpty_iff] at h1; rw [h1] at hid; cases hid
  · have h3 := List.all_eq_true.1 h1 r' hr'
    simp only [Bool.or_eq_true] at h3
    rcases h3 with (h3 | h3) | h3
    · exact absurd (Nat.eq_of_beq_eq_true h3) hne
    · have h4 := List.all_eq_true.1 h3 id hid
      simp only [Bool.not_eq_true', Bool.or_eq_false_iff] at h4
      rcases h2 with h2 | h2
      · have : r'.rds.contains id = true := by simpa using h2
        rw [this] at h4; cases h4.1
      · have : (recIds r').contains id = true := by simpa using h2
        rw [this] at h4; cases h4.2
    · exact h3

/-- THE LAW: whatever order the region's edges allow. -/
theorem any_order {Q : Exit → Act → World → Prop} {order ancs : List Nat} {recs : List Rec} {st st' : St} {m0 : Map} {a : Act} {w : World} (hT : T.Ok P) (hC : Cons.Ok P C) (hreg : regOK ops order ancs = true) (hrun : Run T C ops recs st st') (hord : recs.map (·.i) = order)
    (hconf : confOK ancs recs = true) (hd : Dom m0 st.heap.length) (H : Holds B bad w0 m0 st a w) (hQ : ∀ m' a' w', m0.le m' → Dom m' st'.heap.length → Holds B bad w0 m' st' a' w' → Q .normal a' w') :
    wpAny P .any ops Q ops.size (Array.replicate ops.size false) a w := by
  have R := regOK_spec hreg
  -- a record, by its place
  have place : ∀ x r0 y, recs = x ++ r0 :: y → r0.i ∉ x.map (·.i) ∧ ∃ o, ops[r0.i]? = some o ∧ ∀ e ∈ o.after, Region.binds .any e = true → e.on ∈ x.map (·.i) := fun x r0 y e => by
    have hg := R.goes
    rw [← hord, e, List.map_append, List.map_cons] at hg
    obtain ⟨h1, _, o, ho, h2⟩ := goes_split hg
    exact ⟨h1, o, ho, fun e he hb => (h2 e he hb).resolve_right (by simp)⟩
  have inj : ∀ r ∈ recs, ∀ r' ∈ recs, r.i = r'.i → r = r' := fun r hr r' hr' e => by
    obtain ⟨x, y, hx⟩ := List.append_of_mem hr
    have hp := (place x r y hx).1
    rw [hx] at hr'
    rcases List.mem_append.1 hr' with h | h
    · exact absurd (List.mem_map.2 ⟨r', h, e.symm⟩) hp
    · rcases List.mem_cons.1 h with h | h
      · exact h.symm
      · obtain ⟨y1, y2, hy⟩ := List.append_of_mem h
        have := (place (x ++ r :: y1) r' y2 (by rw [hx, hy]; simp)).1
        exact absurd (List.mem_map.2 ⟨r, by simp, e⟩) this
  have has : ∀ i, i < ops.size → ∃ r ∈ recs, r.i = i := fun i hi => by
    have := R.all i hi
    rw [← hord] at this
    exact List.mem_map.1 this
  have bound : ∀ r ∈ recs, r.i < ops.size := fun r hr => by
    obtain ⟨x, y, hx⟩ := List.append_of_mem hr
    obtain ⟨_, o, ho, _⟩ := place x r y hx
    exact (Array.getElem?_eq_some_iff.1 ho).1
  have main : ∀ (fuel : Nat) (listed : Array Bool) (m : Map) (a : Act) (w : World), listed.size = ops.size → ((List.range ops.size).countP fun i => !listed.getD i false) ≤ fuel →
      (∀ i o, listed.getD i false = true → ops[i]? = some o → ∀ e ∈ o.after, Region.binds .any e = true → listed.getD e.on false = true) → m0.le m →
      (∀ id, m id ≠ none → id < st.heap.length ∨ ∃ r ∈ recs, listed.getD r.i false = true ∧ id ∈ recIds r) → Holds B bad w0 m (stL ops (fun i => listed.getD i false) recs st) a w →
      wpAny P .any ops Q fuel listed a w := by
    intro fuel
    -- nothing is ready: all are listed
    have hdone : ∀ (listed : Array Bool), listed.size = ops.size → Region.ready .any ops listed = [] → ∀ r ∈ recs, listed.getD r.i false = true := fun listed hsz hr => by
      refine Classical.byContradiction fun hn => ?_
      have hn' : ∃ r ∈ recs, listed.getD r.i false = false := by
        refine Classical.byContradiction fun h2 => hn fun r hr => ?_
        cases hx : listed.getD r.i false with
        | true => rfl
        | false => exact absurd ⟨r, hr, hx⟩ h2
      obtain ⟨x, r0, y, e1, e2, e3⟩ := first_not (L := fun i => listed.getD i false) hn'
      obtain ⟨_, o, ho, he⟩ := place x r0 y e1
      have hlt : r0.i < ops.size := (Array.getElem?_eq_some_iff.1 ho).1
      have : r0.i ∈ Region.ready .any ops listed := mem_ready.2 ⟨by
        have hl : r0.i < listed.size := by omega
        simp only [Array.getD_eq_getD_getElem?, Array.getElem?_eq_getElem hl, Option.getD_some] at e2 ⊢
        exact e2, o, ho, fun e hm hb => by
          obtain ⟨q, hq, hqi⟩ := List.mem_map.1 (he e hm hb)
          rw [← hqi]; exact e3 q hq⟩
      rw [hr] at this; cases this
    have hfin : ∀ (listed : Array Bool) (m : Map) (a : Act) (w : World), (∀ r ∈ recs, listed.getD r.i false = true) → m0.le m → (∀ id, m id ≠ none → id < st.heap.length ∨ ∃ r ∈ recs, listed.getD r.i false = true ∧ id ∈ recIds r) →
        Holds B bad w0 m (stL ops (fun i => listed.getD i false) recs st) a w → Q .normal a w := fun listed m a w hall hm hdom Hh => by
      have e : stL ops (fun i => listed.getD i false) recs st = st' := by
        rw [run_end hrun]; exact stL_eq recs st (fun r hr => by rw [hall r hr]; rfl)
      rw [e] at Hh
      refine hQ m a w hm (fun id hid => ?_) Hh
      obtain ⟨g1, g2⟩ := stL_grow (ops := ops) recs st
      rw [run_end hrun]
      rcases hdom id hid with h | ⟨r, hr, _, hi⟩
      · omega
      · exact g2 r hr id hi
    induction fuel with
    | zero =>
      intro listed m a w hsz hcount hcl hm hdom Hh
      have hall : ∀ r ∈ recs, listed.getD r.i false = true := fun r hr => by
        have h0 : ((List.range ops.size).countP fun i => !listed.getD i false) = 0 := by omega
        have := List.countP_eq_zero.1 h0 r.i (List.mem_range.2 (bound r hr))
        simpa using this
      refine ⟨?_, hfin listed m a w hall hm hdom Hh⟩
      cases hrd : Region.ready .any ops listed with
      | nil => rfl
      | cons i l =>
        have hi : i ∈ Region.ready .any ops listed := by rw [hrd]; simp
        obtain ⟨h1, o, ho, _⟩ := mem_ready.1 hi
        have hlt : i < ops.size := (Array.getElem?_eq_some_iff.1 ho).1
        obtain ⟨r, hr, rfl⟩ := has i hlt
        have h2 := hall r hr
        have hl : r.i < listed.size := by omega
        simp only [Array.getD_eq_getD_getElem?, Array.getElem?_eq_getElem hl, Option.getD_some] at h1 h2
        rw [h1] at h2; cases h2
    | succ fuel ih =>
      intro listed m a w hsz hcount hcl hm hdom Hh
      refine ⟨fun hr => hfin listed m a w (hdone listed hsz hr) hm hdom Hh, fun i hi => ?_⟩
      obtain ⟨hun0, o, ho, hedges⟩ := mem_ready.1 hi
      have hlt : i < ops.size := (Array.getElem?_eq_some_iff.1 ho).1
      have hl : i < listed.size := by omega
      have hun : listed.getD i false = false := by
        simp only [Array.getD_eq_getD_getElem?, Array.getElem?_eq_getElem hl, Option.getD_some] at hun0 ⊢
        exact hun0
      obtain ⟨r0, hr0, rfl⟩ := has i hlt
      obtain ⟨pre, post, hsplit⟩ := List.append_of_mem hr0
      obtain ⟨hnp, o', ho', hpe⟩ := place pre r0 post hsplit
      have hstep := (run_split (hsplit ▸ hrun)).1
      have hnid := (run_split (hsplit ▸ hrun)).2
      -- what comes before, in any order
      have ancL : ∀ k, (ancs.getD r0.i 0).testBit k = true → listed.getD k false = true := anc_closed R.anc R.goes R.all hcl r0.i o ho hedges
      have preCl : ∀ k o, (pre.map (·.i)).contains k = true → ops[k]? = some o → ∀ e ∈ o.after, Region.binds .any e = true → (pre.map (·.i)).contains e.on = true := fun k o hk ho e he hb => by
        have hk' : k ∈ pre.map (·.i) := by simpa using hk
        obtain ⟨q, hq, rfl⟩ := List.mem_map.1 hk'
        obtain ⟨p1, p2, hp⟩ := List.append_of_mem hq
        obtain ⟨_, o2, ho2, h2⟩ := place p1 q (p2 ++ r0 :: post) (by rw [hsplit, hp]; simp)
        rw [ho] at ho2; cases ho2
        have := h2 e he hb
        rw [hp]; simp at this ⊢; exact Or.inl this
      have ancP : ∀ k, (ancs.getD r0.i 0).testBit k = true → k ∈ pre.map (·.i) := fun k hk => by
        have := anc_closed R.anc R.goes R.all (L := fun k => (pre.map (·.i)).contains k) preCl r0.i o ho (fun e he hb => by
          rw [ho] at ho'; cases ho'
          simpa using hpe e he hb) k hk
        simpa using this
      have ancPost : ∀ q ∈ pre, (ancs.getD q.i 0).testBit r0.i = false := fun q hq => by
        cases hx : (ancs.getD q.i 0).testBit r0.i with
        | false => rfl
        | true =>
          exfalso
          obtain ⟨p1, p2, hp⟩ := List.append_of_mem hq
          obtain ⟨_, o2, ho2, h2⟩ := place p1 q (p2 ++ r0 :: post) (by rw [hsplit, hp]; simp)
          have := anc_closed R.anc R.goes R.all (L := fun k => (pre.map (·.i)).contains k) preCl q.i o2 ho2 (fun e he hb => by
            have := h2 e he hb
            rw [hp]; simp at this ⊢; exact Or.inl this) r0.i hx
          exact hnp (by simpa using this)
      have ancListed : ∀ q ∈ recs, listed.getD q.i false = true → (ancs.getD q.i 0).testBit r0.i = false := fun q hq hql => by
        cases hx : (ancs.getD q.i 0).testBit r0.i with
        | false => rfl
        | true =>
          exfalso
          have hqlt := bound q hq
          have := anc_closed R.anc R.goes R.all hcl q.i ops[q.i] (by simp [hqlt]) (fun e he hb => hcl q.i ops[q.i] hql (by simp [hqlt]) e he hb) r0.i hx
          rw [this] at hun; cases hun
      -- a record that stands otherwise in the two orders is unordered with r0
      have unord : ∀ q ∈ recs, q.i ≠ r0.i → listed.getD q.i false ≠ (pre.map (·.i)).contains q.i → ord ancs q.i r0.i = false := fun q hq hne hdiff => by
        unfold ord
        rw [Bool.or_eq_false_iff]
        by_cases hql : listed.getD q.i false = true
        · have hnpre : (pre.map (·.i)).contains q.i = false := by
            cases hx : (pre.map (·.i)).contains q.i with
            | false => rfl
            | true => exact absurd (hql.trans hx.symm) hdiff
          refine ⟨?_, ancListed q hq hql⟩
          cases hx : (ancs.getD r0.i 0).testBit q.i with
          | false => rfl
          | true =>
            have := ancP q.i hx
            have h2 : (pre.map (·.i)).contains q.i = true := by simpa using this
            rw [h2] at hnpre; cases hnpre
        · have hql' : listed.getD q.i false = false := by simpa using hql
          have hpre : (pre.map (·.i)).contains q.i = true := by
            cases hx : (pre.map (·.i)).contains q.i with
            | true => rfl
            | false => exact absurd (hql'.trans hx.symm) hdiff
          have hqpre : q ∈ pre := by
            have : q.i ∈ pre.map (·.i) := by simpa using hpre
            obtain ⟨q', hq', e⟩ := List.mem_map.1 this
            rw [← inj q' (by rw [hsplit]; simp [hq']) q hq e]; exact hq'
          refine ⟨?_, ancPost q hqpre⟩
          cases hx : (ancs.getD r0.i 0).testBit q.i with
          | false => rfl
          | true => rw [ancL q.i hx] at hql'; cases hql'
      have contr : ∀ q ∈ recs, listed.getD q.i false ≠ (pre.map (·.i)).contains q.i → q.i ≠ r0.i := fun q hq hdiff e => by
        rw [e, hun] at hdiff
        have : (pre.map (·.i)).contains r0.i = false := by simpa using hnp
        exact hdiff this.symm
      have espre : stL ops (fun i => (pre.map (·.i)).contains i) recs st = stL ops yes pre st := by
        rw [hsplit, stL_append]
        have h1 : stL ops (fun i => (pre.map (·.i)).contains i) pre st = stL ops yes pre st := stL_eq pre st (fun q hq => by
          have : q.i ∈ pre.map (·.i) := List.mem_map.2 ⟨q, hq, rfl⟩
          simpa [yes] using this)
        have h2 : ∀ (l : List Rec) (s : St), (∀ q ∈ l, (pre.map (·.i)).contains q.i = false) → stL ops (fun i => (pre.map (·.i)).contains i) l s = s := by
          intro l
          induction l with
          | nil => intro s _; rfl
          | cons q l ihl =>
            intro s hq
            have hq0 := hq q (by simp)
            simp only [stL]
            rw [if_neg (by rw [hq0]; simp)]
            exact ihl s (fun x hx => hq x (by simp [hx]))
        rw [h2 _ _ (fun q hq => ?_), h1]
        rcases List.mem_cons.1 hq with rfl | hq
        · simpa using hnp
        · obtain ⟨p1, p2, hp⟩ := List.append_of_mem hq
          have := (place (pre ++ r0 :: p1) q p2 (by rw [hsplit, hp]; simp)).1
          cases hx : (pre.map (·.i)).contains q.i with
          | false => rfl
          | true =>
            exfalso
            apply this
            have : q.i ∈ pre.map (·.i) := by simpa using hx
            simp only [List.map_append, List.mem_append]
            exact Or.inl this
      -- the step, where it stands now
      have hstep' : Step T C ops (stL ops (fun i => listed.getD i false) recs st) r0 := by
        refine hstep.move (fun t ht => ?_) (fun id hid => ?_)
        · rw [← espre]
          refine stL_tmp recs st st rfl rfl (fun q hq hdiff hdst => ?_)
          have hdiff' := Ne.symm hdiff
          have hne := contr q hq hdiff'
          have h1 := R.tmps q.i r0.i t (bound q hq) hlt hne hdst (Or.inl ht)
          rw [unord q hq hne hdiff'] at h1; cases h1
        · rw [← espre]
          refine stL_blk recs st st rfl (fun q hq hdiff hin => ?_)
          have hdiff' := Ne.symm hdiff
          have hne := contr q hq hdiff'
          have h1 := conf_spec hconf hq hr0 hne hin (Or.inl hid)
          rw [unord q hq hne hdiff'] at h1; cases h1
      have hfresh : ∀ x id, r0.res = some x → id ∈ x.wr.map (·.1) → r0.nid ≤ id → m id = none := fun x id hx hid hn => by
        have hid' : id ∈ recIds r0 := by unfold recIds; rw [hx]; exact hid
        obtain ⟨g1, g2⟩ := stL_grow (ops := ops) pre st
        cases hmi : m id with
        | none => rfl
        | some p =>
          exfalso
          rcases hdom id (by rw [hmi]; simp) with h | ⟨q, hq, hql, hqi⟩
          · omega
          · have hne : q.i ≠ r0.i := fun e => by rw [e, hun] at hql; cases hql
            have h1 := conf_spec hconf hq hr0 hne hqi (Or.inr hid')
            unfold ord at h1
            rw [ancListed q hq hql, Bool.or_false] at h1
            have hpre := ancP q.i h1
            obtain ⟨q', hq', e⟩ := List.mem_map.1 hpre
            have := inj q' (by rw [hsplit]; simp [hq']) q hq e
            subst this
            have := g2 q' hq' id hqi
            omega
      refine wpOp_mono (fun a' w' hA => ?_) (step_wp (Q := Q) hT hC hstep' hfresh Hh)
      obtain ⟨m', k1, k2, k3⟩ := hA
      have hgetD : ∀ k, (listed.setIfInBounds r0.i true).getD k false = if k = r0.i then true else listed.getD k false := fun k => by
        simp only [Array.getD_eq_getD_getElem?, Array.getElem?_setIfInBounds]
        by_cases e : r0.i = k
        · subst e; simp [hl]
        · have e' : ¬ k = r0.i := fun h => e h.symm
          simp [e, e']
      refine ih (listed.setIfInBounds r0.i true) m' a' w' (by simp [hsz]) ?_ (fun k ok hk hok e he hb => ?_) (hm.trans k1) (fun id hid => ?_) ?_
      · -- one fewer
        have h1 : ((List.range ops.size).countP fun i => !(listed.setIfInBounds r0.i true).getD i false) + 1 ≤ (List.range ops.size).countP fun i => !listed.getD i false := by
          have e1 : ∀ (l : List Nat), r0.i ∈ l → l.countP (fun i => !(listed.setIfInBounds r0.i true).getD i false) + 1 ≤ l.countP fun i => !listed.getD i false := by
            intro l
            induction l with
            | nil => intro h; cases h
            | cons k l ihl =>
              intro hk
              have hle : l.countP (fun i => !(listed.setIfInBounds r0.i true).getD i false) ≤ l.countP fun i => !listed.getD i false := List.countP_mono_left (fun x _ hx => by
                rw [hgetD] at hx
                by_cases e : x = r0.i
                · rw [if_pos e] at hx; cases hx
                · rw [if_neg e] at hx; exact hx)
              simp only [List.countP_cons, hgetD]
              by_cases e : k = r0.i
              · subst e
                simp only [hun, if_true, Bool.not_true, Bool.not_false, Bool.false_eq_true, if_false]
                simp only [hgetD] at hle
                omega
              · rw [if_neg e]
                have := ihl ((List.mem_cons.1 hk).resolve_left (fun h => e h.symm))
                simp only [hgetD] at this
                omega
          exact e1 _ (List.mem_range.2 hlt)
        omega
      · rw [hgetD] at hk ⊢
        by_cases e2 : e.on = r0.i
        · rw [if_pos e2]
        · rw [if_neg e2]
          by_cases e3 : k = r0.i
          · subst e3
            rw [ho] at hok; cases hok
            exact hedges e he hb
          · rw [if_neg e3] at hk
            exact hcl k ok hk hok e he hb
      · have k2' : m id ≠ none ∨ id ∈ recIds r0 := by
          have := k2 id hid
          unfold recIds
          exact this
        rcases k2' with h | h
        · rcases hdom id h with h | ⟨q, hq, hql, hqi⟩
          · exact Or.inl h
          · exact Or.inr ⟨q, hq, by rw [hgetD]; split; rfl; exact hql, hqi⟩
        · exact Or.inr ⟨r0, hr0, by rw [hgetD, if_pos rfl], h⟩
      · refine k3.eqSt ?_
        -- the state with r0 among the listed
        have e1 : stL ops (fun i => (listed.setIfInBounds r0.i true).getD i false) pre st = stL ops (fun i => listed.getD i false) pre st := stL_eq pre st (fun q hq => by
          rw [hgetD, if_neg]
          intro e
          exact hnp (List.mem_map.2 ⟨q, hq, e⟩))
        have npost : ∀ q ∈ post, q.i ≠ r0.i := fun q hq e => by
          obtain ⟨p1, p2, hp⟩ := List.append_of_mem hq
          have := (place (pre ++ r0 :: p1) q p2 (by rw [hsplit, hp]; simp)).1
          exact this (by simp [e])
        have e2 : ∀ s, stL ops (fun i => (listed.setIfInBounds r0.i true).getD i false) post s = stL ops (fun i => listed.getD i false) post s := fun s => stL_eq post s (fun q hq => by
          rw [hgetD, if_neg (npost q hq)])
        rw [hsplit, stL_append, stL_append, e1]
        simp only [stL, hun, Bool.false_eq_true, if_false, hgetD, if_true]
        have e3 := e2 (appRec ops (stL ops (fun i => listed.getD i false) pre st) r0)
        simp only [hgetD] at e3
        rw [e3]
        refine (stL_later post _ (fun q hq hql => ?_)).symm
        have hqr : q ∈ recs := by rw [hsplit]; simp [hq]
        have hne := npost q hq
        have hun' : ord ancs q.i r0.i = false := by
          refine unord q hqr hne ?_
          rw [hql]
          intro hx
          obtain ⟨p1, p2, hp⟩ := List.append_of_mem hq
          have := (place (pre ++ r0 :: p1) q p2 (by rw [hsplit, hp]; simp)).1
          apply this
          have h3 : q.i ∈ pre.map (·.i) := by simpa using hx.symm
          simp only [List.map_append, List.mem_append]
          exact Or.inl h3
        refine ⟨fun t ht hq2 => ?_, fun id hid hq2 => ?_⟩
        · have h1 := R.tmps q.i r0.i t (bound q hqr) hlt hne hq2 (Or.inr ht)
          rw [hun'] at h1; cases h1
        · have h1 := conf_spec hconf hqr hr0 hne hq2 (Or.inr hid)
          rw [hun'] at h1; cases h1
  refine main ops.size (Array.replicate ops.size false) m0 a w (by simp) ?_ (fun i o hi => ?_) (Map.le.refl _) (fun id hid => Or.inl (hd id hid)) ?_
  · exact Nat.le_trans List.countP_le_length (by simp)
  · exfalso
    rw [Array.getD_eq_getD_getElem?] at hi
    by_cases h : i < ops.size
    · simp [h] at hi
    · simp [h] at hi
  · have h0 : ∀ k, (Array.replicate ops.size false).getD k false = false := fun k => by
      rw [Array.getD_eq_getD_getElem?]
      by_cases h : k < ops.size
      · simp [h]
      · simp [h]
    have : ∀ (l : List Rec) (s : St), stL ops (fun i => (Array.replicate ops.size false).getD i false) l s = s := by
      intro l
      induction l with
      | nil => intro s; rfl
      | cons q l ihl => intro s; simp only [stL, h0, Bool.false_eq_true, if_false]; have := ihl s; simp only [h0] at this; exact this
    rw [this]
    exact H
end
end Go.Proofs.Ytkfaflhhkmkdjaa.Ev
