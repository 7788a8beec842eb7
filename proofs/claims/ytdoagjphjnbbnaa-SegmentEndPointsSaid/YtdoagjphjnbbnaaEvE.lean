/- A region in whatever order: the law, proved. -/
import Derived.Test.YtdoagjphjnbbnaaEvD
namespace Go.Proofs.Ytdoagjphjnbbnaa.Ev
open Go.RowKit
set_option linter.unusedVariables false
set_option linter.unusedSimpArgs false

/-- What is checked of a run: two operations of which one writes a block that the other reads or writes are ordered. -/
def confOK (ancs : List Nat) (recs : List Rec) : Bool :=
  recs.all fun r => (recIds r).isEmpty || recs.all fun r' => Nat.beq r.i r'.i || (recIds r).all (fun id => !(r'.rds.contains id || (recIds r').contains id)) || ord ancs r.i r'.i

section
variable {P : Program} {T : Tab} {C : List Con} {B : Nat} {bad : Nat → Prop} {w0 : World} {ops : Array Oper}

theorem vals_eq {s s' : List SV} : ∀ {l : List Operand}, (∀ t, Operand.tmp t ∈ l → getL s t = getL s' t) → vals s l = vals s' l
  | [], _ => rfl
  | x :: l, h => by
    simp only [vals]
    rw [vals_eq (l := l) (fun t ht => h t (by simp [ht]))]
    congr 1
    cases x with
    | tmp t => exact h t (by simp)
    | _ => rfl

theorem Step.move {s s' : St} {r : Rec} (h : Step T C ops s r) (ht : ∀ t ∈ tRead ops r.i, getL s.tmps t = getL s'.tmps t) (hb : ∀ id ∈ r.rds, getB s.heap id = getB s'.heap id) : Step T C ops s' r := by
  obtain ⟨o, ho, h⟩ := h
  have hread : tRead ops r.i = (opnds o.op).filterMap (fun | .tmp t => some t | _ => none) ++ (match o.guard with | some (j, _) => (dstOf ops j).toList | none => []) := by
    unfold tRead; rw [ho]; rfl
  have hv : vals s.tmps (opnds o.op) = vals s'.tmps (opnds o.op) := vals_eq fun t hm => ht t (by
    rw [hread, List.mem_append]
    left
    exact List.mem_filterMap.2 ⟨_, hm, rfl⟩)
  have hw : wantS ops o s.tmps = wantS ops o s'.tmps := by
    unfold wantS
    cases hg : o.guard with
    | none => rfl
    | some g =>
      obtain ⟨j, b⟩ := g
      simp only
      cases hd : dstOf ops j with
      | none => rfl
      | some d =>
        have := ht d (by rw [hread, List.mem_append, hg]; right; simp [hd])
        simp only [this]
  refine ⟨o, ho, ?_⟩
  cases hr : r.res with
  | none => rw [hr] at h; rw [← hw]; exact h
  | some x =>
    rw [hr] at h
    obtain ⟨h1, h2, h3, x0, h4, h5⟩ := h
    have hrd : rdS (rids o.op (vals s.tmps (opnds o.op))) s.heap = rdS (rids o.op (vals s.tmps (opnds o.op))) s'.heap := by
      funext id
      unfold rdS
      split
      · rename_i hc
        exact hb id (by rw [h3]; simpa using hc)
      · rfl
    rw [hw] at h1
    rw [hrd, hv] at h4
    rw [hv] at h3
    exact ⟨h1, h2, h3, x0, h4, h5⟩

def yes : Nat → Bool := fun _ => true

theorem run_end : ∀ {rs : List Rec} {s s' : St}, Run T C ops rs s s' → s' = stL ops yes rs s
  | [], s, s', h => h
  | r :: rs, s, s', ⟨_, _, h⟩ => by simpa [stL, yes] using run_end h
theorem run_split : ∀ {x y : List Rec} {r : Rec} {s s' : St}, Run T C ops (x ++ r :: y) s s' → Step T C ops (stL ops yes x s) r ∧ r.nid = (stL ops yes x s).heap.length
  | [], y, r, s, s', ⟨h1, h2, _⟩ => ⟨h1, h2⟩
  | q :: x, y, r, s, s', ⟨_, _, h⟩ => by simpa [stL, yes] using run_split h
theorem appRec_grow (s : St) (r : Rec) : s.heap.length ≤ (appRec ops s r).heap.length ∧ ∀ id ∈ recIds r, id < (appRec ops s r).heap.length := by
  rw [appRec_heap]
  unfold recIds
  cases r.res with
  | none => simp
  | some x => exact setBs_len
theorem stL_grow : ∀ (rs : List Rec) (s : St), s.heap.length ≤ (stL ops yes rs s).heap.length ∧ ∀ r ∈ rs, ∀ id ∈ recIds r, id < (stL ops yes rs s).heap.length
  | [], s => by simp [stL]
  | r :: rs, s => by
    obtain ⟨h1, h2⟩ := stL_grow rs (appRec ops s r)
    obtain ⟨g1, g2⟩ := appRec_grow (ops := ops) s r
    have e : stL ops yes (r :: rs) s = stL ops yes rs (appRec ops s r) := by simp [stL, yes]
    rw [e]
    refine ⟨by omega, fun x hx id hid => ?_⟩
    rcases List.mem_cons.1 hx with rfl | hx
    · exact Nat.lt_of_lt_of_le (g2 id hid) h1
    · exact h2 x hx id hid

theorem goes_split : ∀ {x y : List Nat} {i : Nat} {seen : List Nat}, regOK.goesOK ops (x ++ i :: y) seen = true →
    i ∉ x ∧ i ∉ seen ∧ ∃ o, ops[i]? = some o ∧ ∀ e ∈ o.after, Region.binds .any e = true → e.on ∈ x ∨ e.on ∈ seen
  | [], y, i, seen, h => by
    simp only [List.nil_append, regOK.goesOK, Bool.and_eq_true, Bool.not_eq_true'] at h
    obtain ⟨⟨h1, h2⟩, _⟩ := h
    refine ⟨by simp, by simpa using h1, ?_⟩
    cases ho : ops[i]? with
    | none => rw [ho] at h2; cases h2
    | some o =>
      rw [ho] at h2
      refine ⟨o, rfl, fun e he hb => Or.inr ?_⟩
      have := List.all_eq_true.1 h2 e (Array.mem_toList_iff.2 he)
      simpa [hb] using this
  | z :: x, y, i, seen, h => by
    simp only [List.cons_append, regOK.goesOK, Bool.and_eq_true, Bool.not_eq_true'] at h
    obtain ⟨h1, h2, o, ho, h3⟩ := goes_split h.2
    simp only [List.mem_cons, not_or] at h2
    refine ⟨by simp [h1]; exact h2.1, h2.2, o, ho, fun e he hb => ?_⟩
    rcases h3 e he hb with h | h
    · left; simp [h]
    · rcases List.mem_cons.1 h with h | h
      · left; simp [h]
      · exact Or.inr h

theorem split_of_mem {α : Type} [DecidableEq α] : ∀ {l : List Rec} {r : Rec}, r ∈ l → ∃ x y, l = x ++ r :: y
  | l, r, h => by obtain ⟨x, y, e⟩ := List.append_of_mem h; exact ⟨x, y, e⟩

theorem first_not {L : Nat → Bool} : ∀ {l : List Rec}, (∃ r ∈ l, L r.i = false) → ∃ x r y, l = x ++ r :: y ∧ L r.i = false ∧ ∀ q ∈ x, L q.i = true
  | [], h => by simp at h
  | r :: l, h => by
    by_cases e : L r.i = true
    · have : ∃ q ∈ l, L q.i = false := by
        obtain ⟨q, hq, hl⟩ := h
        rcases List.mem_cons.1 hq with rfl | hq
        · rw [e] at hl; cases hl
        · exact ⟨q, hq, hl⟩
      obtain ⟨x, r', y, h1, h2, h3⟩ := first_not this
      refine ⟨r :: x, r', y, by rw [h1]; rfl, h2, fun q hq => ?_⟩
      rcases List.mem_cons.1 hq with rfl | hq
      · exact e
      · exact h3 q hq
    · exact ⟨[], r, l, rfl, by simpa using e, by simp⟩

/-- What regOK says. -/
structure RegOK (ops : Array Oper) (order ancs : List Nat) : Prop where
  anc : ancOK ops ancs = true
  goes : regOK.goesOK ops order [] = true
  all : ∀ i, i < ops.size → i ∈ order
  tmps : ∀ i j d, i < ops.size → j < ops.size → i ≠ j → dstOf ops i = some d → (d ∈ tRead ops j ∨ dstOf ops j = some d) → ord ancs i j = true
theorem regOK_spec {order ancs : List Nat} (h : regOK ops order ancs = true) : RegOK ops order ancs := by
  simp only [regOK, Bool.and_eq_true] at h
  obtain ⟨⟨⟨⟨⟨h1, h2⟩, h3⟩, h4⟩, h5⟩, h6⟩ := h
  refine ⟨h1, h5, fun i hi => ?_, fun i j d hi hj hij hd hr => ?_⟩
  · have := List.all_eq_true.1 h4 i (List.mem_range.2 hi)
    simpa using this
  · have g1 := List.all_eq_true.1 h6 i (List.mem_range.2 hi)
    rw [hd] at g1
    have g2 := List.all_eq_true.1 g1 j (List.mem_range.2 hj)
    simp only [Bool.or_eq_true, Bool.not_eq_true', Bool.or_eq_false_iff] at g2
    rcases g2 with (g2 | g2) | g2
    · exact absurd (Nat.eq_of_beq_eq_true g2) hij
    · rcases hr with hr | hr
      · have : (tRead ops j).contains d = true := by simpa using hr
        rw [this] at g2; cases g2.1
      · rw [hr] at g2; simp at g2
    · exact g2

theorem conf_spec {ancs : List Nat} {recs : List Rec} (h : confOK ancs recs = true) {r r' : Rec} (hr : r ∈ recs) (hr' : r' ∈ recs) (hne : r.i ≠ r'.i) {id : Nat} (hid : id ∈ recIds r) (h2 : id ∈ r'.rds ∨ id ∈ recIds r') : ord ancs r.i r'.i = true := by
  have h1 := List.all_eq_true.1 h r hr
  simp only [Bool.or_eq_true] at h1
  rcases h1 with h1 | h1
  · simp only [List.isEmpty_iff] at h1; rw [h1] at hid; cases hid
  · have h3 := List.all_eq_true.1 h1 r' hr'
    simp only [Bool.or_eq_true] at h3
    rcases h3 with (h3 | h3) | h3
    · exact absurd (Nat.eq_of_beq_eq_true h3) hne
    · have h4 := List.all_eq_true.1 h3 id hid
      simp only [Bool.not_eq_true', Bool.or_eq_false_iff] at h4
      rcases h2 with h2 | h2
      · have : r'.rds.contains id = true := by simpa using h2
        rw [this] at h4; cases h4.1
      · have : (recIds r').contains id = true := by simpa using h2
        rw [this] at h4; cases h4.2
    · exact h3

/-- THE LAW: whatever order the region's edges allow. -/
theorem any_order {Q : Exit → Act → World → Prop} {order ancs : List Nat} {recs : List Rec} {st st' : St} {m0 : Map} {a : Act} {w : World} (hT : T.Ok P) (hC : Cons.Ok P C) (hreg : regOK ops order ancs = true) (hrun : Run T C ops recs st st') (hord : recs.map (·.i) = order)
    (hconf : confOK ancs recs = true) (hd : Dom m0 st.heap.length) (H : Holds B bad w0 m0 st a w) (hQ : ∀ m' a' w', m0.le m' → Dom m' st'.heap.length → Holds B bad w0 m' st' a' w' → Q .normal a' w') :
    wpAny P .any ops Q ops.size (Array.replicate ops.size false) a w := by
  have R := regOK_spec hreg
  -- a record, by its place
  have place : ∀ x r0 y, recs = x ++ r0 :: y → r0.i ∉ x.map (·.i) ∧ ∃ o, ops[r0.i]? = some o ∧ ∀ e ∈ o.after, Region.binds .any e = true → e.on ∈ x.map (·.i) := fun x r0 y e => by
    have hg := R.goes
    rw [← hord, e, List.map_append, List.map_cons] at hg
    obtain ⟨h1, _, o, ho, h2⟩ := goes_split hg
    exact ⟨h1, o, ho, fun e he hb => (h2 e he hb).resolve_right (by simp)⟩
  have inj : ∀ r ∈ recs, ∀ r' ∈ recs, r.i = r'.i → r = r' := fun r hr r' hr' e => by
    obtain ⟨x, y, hx⟩ := List.append_of_mem hr
    have hp := (place x r y hx).1
    rw [hx] at hr'
    rcases List.mem_append.1 hr' with h | h
    · exact absurd (List.mem_map.2 ⟨r', h, e.symm⟩) hp
    · rcases List.mem_cons.1 h with h | h
      · exact h.symm
      · obtain ⟨y1, y2, hy⟩ := List.append_of_mem h
        have := (place (x ++ r :: y1) r' y2 (by rw [hx, hy]; simp)).1
        exact absurd (List.mem_map.2 ⟨r, by simp, e⟩) this
  have has : ∀ i, i < ops.size → ∃ r ∈ recs, r.i = i := fun i hi => by
    have := R.all i hi
    rw [← hord] at this
    exact List.mem_map.1 this
  have bound : ∀ r ∈ recs, r.i < ops.size := fun r hr => by
    obtain ⟨x, y, hx⟩ := List.append_of_mem hr
    obtain ⟨_, o, ho, _⟩ := place x r y hx
    exact (Array.getElem?_eq_some_iff.1 ho).1
  have main : ∀ (fuel : Nat) (listed : Array Bool) (m : Map) (a : Act) (w : World), listed.size = ops.size → ((List.range ops.size).countP fun i => !listed.getD i false) ≤ fuel →
      (∀ i o, listed.getD i false = true → ops[i]? = some o → ∀ e ∈ o.after, Region.binds .any e = true → listed.getD e.on false = true) → m0.le m →
      (∀ id, m id ≠ none → id < st.heap.length ∨ ∃ r ∈ recs, listed.getD r.i false = true ∧ id ∈ recIds r) → Holds B bad w0 m (stL ops (fun i => listed.getD i false) recs st) a w →
      wpAny P .any ops Q fuel listed a w := by
    intro fuel
    -- nothing is ready: all are listed
    have hdone : ∀ (listed : Array Bool), listed.size = ops.size → Region.ready .any ops listed = [] → ∀ r ∈ recs, listed.getD r.i false = true := fun listed hsz hr => by
      refine Classical.byContradiction fun hn => ?_
      have hn' : ∃ r ∈ recs, listed.getD r.i false = false := by
        refine Classical.byContradiction fun h2 => hn fun r hr => ?_
        cases hx : listed.getD r.i false with
        | true => rfl
        | false => exact absurd ⟨r, hr, hx⟩ h2
      obtain ⟨x, r0, y, e1, e2, e3⟩ := first_not (L := fun i => listed.getD i false) hn'
      obtain ⟨_, o, ho, he⟩ := place x r0 y e1
      have hlt : r0.i < ops.size := (Array.getElem?_eq_some_iff.1 ho).1
      have : r0.i ∈ Region.ready .any ops listed := mem_ready.2 ⟨by
        have hl : r0.i < listed.size := by omega
        simp only [Array.getD_eq_getD_getElem?, Array.getElem?_eq_getElem hl, Option.getD_some] at e2 ⊢
        exact e2, o, ho, fun e hm hb => by
          obtain ⟨q, hq, hqi⟩ := List.mem_map.1 (he e hm hb)
          rw [← hqi]; exact e3 q hq⟩
      rw [hr] at this; cases this
    have hfin : ∀ (listed : Array Bool) (m : Map) (a : Act) (w : World), (∀ r ∈ recs, listed.getD r.i false = true) → m0.le m → (∀ id, m id ≠ none → id < st.heap.length ∨ ∃ r ∈ recs, listed.getD r.i false = true ∧ id ∈ recIds r) →
        Holds B bad w0 m (stL ops (fun i => listed.getD i false) recs st) a w → Q .normal a w := fun listed m a w hall hm hdom Hh => by
      have e : stL ops (fun i => listed.getD i false) recs st = st' := by
        rw [run_end hrun]; exact stL_eq recs st (fun r hr => by rw [hall r hr]; rfl)
      rw [e] at Hh
      refine hQ m a w hm (fun id hid => ?_) Hh
      obtain ⟨g1, g2⟩ := stL_grow (ops := ops) recs st
      rw [run_end hrun]
      rcases hdom id hid with h | ⟨r, hr, _, hi⟩
      · omega
      · exact g2 r hr id hi
    induction fuel with
    | zero =>
      intro listed m a w hsz hcount hcl hm hdom Hh
      have hall : ∀ r ∈ recs, listed.getD r.i false = true := fun r hr => by
        have h0 : ((List.range ops.size).countP fun i => !listed.getD i false) = 0 := by omega
        have := List.countP_eq_zero.1 h0 r.i (List.mem_range.2 (bound r hr))
        simpa using this
      refine ⟨?_, hfin listed m a w hall hm hdom Hh⟩
      cases hrd : Region.ready .any ops listed with
      | nil => rfl
      | cons i l =>
        have hi : i ∈ Region.ready .any ops listed := by rw [hrd]; simp
        obtain ⟨h1, o, ho, _⟩ := mem_ready.1 hi
        have hlt : i < ops.size := (Array.getElem?_eq_some_iff.1 ho).1
        obtain ⟨r, hr, rfl⟩ := has i hlt
        have h2 := hall r hr
        have hl : r.i < listed.size := by omega
        simp only [Array.getD_eq_getD_getElem?, Array.getElem?_eq_getElem hl, Option.getD_some] at h1 h2
        rw [h1] at h2; cases h2
    | succ fuel ih =>
      intro listed m a w hsz hcount hcl hm hdom Hh
      refine ⟨fun hr => hfin listed m a w (hdone listed hsz hr) hm hdom Hh, fun i hi => ?_⟩
      obtain ⟨hun0, o, ho, hedges⟩ := mem_ready.1 hi
      have hlt : i < ops.size := (Array.getElem?_eq_some_iff.1 ho).1
      have hl : i < listed.size := by omega
      have hun : listed.getD i false = false := by
        simp only [Array.getD_eq_getD_getElem?, Array.getElem?_eq_getElem hl, Option.getD_some] at hun0 ⊢
        exact hun0
      obtain ⟨r0, hr0, rfl⟩ := has i hlt
      obtain ⟨pre, post, hsplit⟩ := List.append_of_mem hr0
      obtain ⟨hnp, o', ho', hpe⟩ := place pre r0 post hsplit
      have hstep := (run_split (hsplit ▸ hrun)).1
      have hnid := (run_split (hsplit ▸ hrun)).2
      -- what comes before, in any order
      have ancL : ∀ k, (ancs.getD r0.i 0).testBit k = true → listed.getD k false = true := anc_closed R.anc hcl r0.i r0.i o (Nat.le_refl _) ho hedges
      have preCl : ∀ k o, (pre.map (·.i)).contains k = true → ops[k]? = some o → ∀ e ∈ o.after, Region.binds .any e = true → (pre.map (·.i)).contains e.on = true := fun k o hk ho e he hb => by
        have hk' : k ∈ pre.map (·.i) := by simpa using hk
        obtain ⟨q, hq, rfl⟩ := List.mem_map.1 hk'
        obtain ⟨p1, p2, hp⟩ := List.append_of_mem hq
        obtain ⟨_, o2, ho2, h2⟩ := place p1 q (p2 ++ r0 :: post) (by rw [hsplit, hp]; simp)
        rw [ho] at ho2; cases ho2
        have := h2 e he hb
        rw [hp]; simp at this ⊢; exact Or.inl this
      have ancP : ∀ k, (ancs.getD r0.i 0).testBit k = true → k ∈ pre.map (·.i) := fun k hk => by
        have := anc_closed R.anc (L := fun k => (pre.map (·.i)).contains k) preCl r0.i r0.i o (Nat.le_refl _) ho (fun e he hb => by
          rw [ho] at ho'; cases ho'
          simpa using hpe e he hb) k hk
        simpa using this
      have ancPost : ∀ q ∈ pre, (ancs.getD q.i 0).testBit r0.i = false := fun q hq => by
        cases hx : (ancs.getD q.i 0).testBit r0.i with
        | false => rfl
        | true =>
          exfalso
          obtain ⟨p1, p2, hp⟩ := List.append_of_mem hq
          obtain ⟨_, o2, ho2, h2⟩ := place p1 q (p2 ++ r0 :: post) (by rw [hsplit, hp]; simp)
          have := anc_closed R.anc (L := fun k => (pre.map (·.i)).contains k) preCl q.i q.i o2 (Nat.le_refl _) ho2 (fun e he hb => by
            have := h2 e he hb
            rw [hp]; simp at this ⊢; exact Or.inl this) r0.i hx
          exact hnp (by simpa using this)
      have ancListed : ∀ q ∈ recs, listed.getD q.i false = true → (ancs.getD q.i 0).testBit r0.i = false := fun q hq hql => by
        cases hx : (ancs.getD q.i 0).testBit r0.i with
        | false => rfl
        | true =>
          exfalso
          have hqlt := bound q hq
          have := anc_closed R.anc hcl q.i q.i ops[q.i] (Nat.le_refl _) (by simp [hqlt]) (fun e he hb => hcl q.i ops[q.i] hql (by simp [hqlt]) e he hb) r0.i hx
          rw [this] at hun; cases hun
      -- a record that stands otherwise in the two orders is unordered with r0
      have unord : ∀ q ∈ recs, q.i ≠ r0.i → listed.getD q.i false ≠ (pre.map (·.i)).contains q.i → ord ancs q.i r0.i = false := fun q hq hne hdiff => by
        unfold ord
        rw [Bool.or_eq_false_iff]
        by_cases hql : listed.getD q.i false = true
        · have hnpre : (pre.map (·.i)).contains q.i = false := by
            cases hx : (pre.map (·.i)).contains q.i with
            | false => rfl
            | true => exact absurd (hql.trans hx.symm) hdiff
          refine ⟨?_, ancListed q hq hql⟩
          cases hx : (ancs.getD r0.i 0).testBit q.i with
          | false => rfl
          | true =>
            have := ancP q.i hx
            have h2 : (pre.map (·.i)).contains q.i = true := by simpa using this
            rw [h2] at hnpre; cases hnpre
        · have hql' : listed.getD q.i false = false := by simpa using hql
          have hpre : (pre.map (·.i)).contains q.i = true := by
            cases hx : (pre.map (·.i)).contains q.i with
            | true => rfl
            | false => exact absurd (hql'.trans hx.symm) hdiff
          have hqpre : q ∈ pre := by
            have : q.i ∈ pre.map (·.i) := by simpa using hpre
            obtain ⟨q', hq', e⟩ := List.mem_map.1 this
            rw [← inj q' (by rw [hsplit]; simp [hq']) q hq e]; exact hq'
          refine ⟨?_, ancPost q hqpre⟩
          cases hx : (ancs.getD r0.i 0).testBit q.i with
          | false => rfl
          | true => rw [ancL q.i hx] at hql'; cases hql'
      have contr : ∀ q ∈ recs, listed.getD q.i false ≠ (pre.map (·.i)).contains q.i → q.i ≠ r0.i := fun q hq hdiff e => by
        rw [e, hun] at hdiff
        have : (pre.map (·.i)).contains r0.i = false := by simpa using hnp
        exact hdiff this.symm
      have espre : stL ops (fun i => (pre.map (·.i)).contains i) recs st = stL ops yes pre st := by
        rw [hsplit, stL_append]
        have h1 : stL ops (fun i => (pre.map (·.i)).contains i) pre st = stL ops yes pre st := stL_eq pre st (fun q hq => by
          have : q.i ∈ pre.map (·.i) := List.mem_map.2 ⟨q, hq, rfl⟩
          simpa [yes] using this)
        have h2 : ∀ (l : List Rec) (s : St), (∀ q ∈ l, (pre.map (·.i)).contains q.i = false) → stL ops (fun i => (pre.map (·.i)).contains i) l s = s := by
          intro l
          induction l with
          | nil => intro s _; rfl
          | cons q l ihl =>
            intro s hq
            have hq0 := hq q (by simp)
            simp only [stL]
            rw [if_neg (by rw [hq0]; simp)]
            exact ihl s (fun x hx => hq x (by simp [hx]))
        rw [h2 _ _ (fun q hq => ?_), h1]
        rcases List.mem_cons.1 hq with rfl | hq
        · simpa using hnp
        · obtain ⟨p1, p2, hp⟩ := List.append_of_mem hq
          have := (place (pre ++ r0 :: p1) q p2 (by rw [hsplit, hp]; simp)).1
          cases hx : (pre.map (·.i)).contains q.i with
          | false => rfl
          | true =>
            exfalso
            apply this
            have : q.i ∈ pre.map (·.i) := by simpa using hx
            simp only [List.map_append, List.mem_append]
            exact Or.inl this
      -- the step, where it stands now
      have hstep' : Step T C ops (stL ops (fun i => listed.getD i false) recs st) r0 := by
        refine hstep.move (fun t ht => ?_) (fun id hid => ?_)
        · rw [← espre]
          refine stL_tmp recs st st rfl rfl (fun q hq hdiff hdst => ?_)
          have hdiff' := Ne.symm hdiff
          have hne := contr q hq hdiff'
          have h1 := R.tmps q.i r0.i t (bound q hq) hlt hne hdst (Or.inl ht)
          rw [unord q hq hne hdiff'] at h1; cases h1
        · rw [← espre]
          refine stL_blk recs st st rfl (fun q hq hdiff hin => ?_)
          have hdiff' := Ne.symm hdiff
          have hne := contr q hq hdiff'
          have h1 := conf_spec hconf hq hr0 hne hin (Or.inl hid)
          rw [unord q hq hne hdiff'] at h1; cases h1
      have hfresh : ∀ x id, r0.res = some x → id ∈ x.wr.map (·.1) → r0.nid ≤ id → m id = none := fun x id hx hid hn => by
        have hid' : id ∈ recIds r0 := by unfold recIds; rw [hx]; exact hid
        obtain ⟨g1, g2⟩ := stL_grow (ops := ops) pre st
        cases hmi : m id with
        | none => rfl
        | some p =>
          exfalso
          rcases hdom id (by rw [hmi]; simp) with h | ⟨q, hq, hql, hqi⟩
          · omega
          · have hne : q.i ≠ r0.i := fun e => by rw [e, hun] at hql; cases hql
            have h1 := conf_spec hconf hq hr0 hne hqi (Or.inr hid')
            unfold ord at h1
            rw [ancListed q hq hql, Bool.or_false] at h1
            have hpre := ancP q.i h1
            obtain ⟨q', hq', e⟩ := List.mem_map.1 hpre
            have := inj q' (by rw [hsplit]; simp [hq']) q hq e
            subst this
            have := g2 q' hq' id hqi
            omega
      refine wpOp_mono (fun a' w' hA => ?_) (step_wp (Q := Q) hT hC hstep' hfresh Hh)
      obtain ⟨m', k1, k2, k3⟩ := hA
      have hgetD : ∀ k, (listed.setIfInBounds r0.i true).getD k false = if k = r0.i then true else listed.getD k false := fun k => by
        simp only [Array.getD_eq_getD_getElem?, Array.getElem?_setIfInBounds]
        by_cases e : r0.i = k
        · subst e; simp [hl]
        · have e' : ¬ k = r0.i := fun h => e h.symm
          simp [e, e']
      refine ih (listed.setIfInBounds r0.i true) m' a' w' (by simp [hsz]) ?_ (fun k ok hk hok e he hb => ?_) (hm.trans k1) (fun id hid => ?_) ?_
      · -- one fewer
        have h1 : ((List.range ops.size).countP fun i => !(listed.setIfInBounds r0.i true).getD i false) + 1 ≤ (List.range ops.size).countP fun i => !listed.getD i false := by
          have e1 : ∀ (l : List Nat), r0.i ∈ l → l.countP (fun i => !(listed.setIfInBounds r0.i true).getD i false) + 1 ≤ l.countP fun i => !listed.getD i false := by
            intro l
            induction l with
            | nil => intro h; cases h
            | cons k l ihl =>
              intro hk
              have hle : l.countP (fun i => !(listed.setIfInBounds r0.i true).getD i false) ≤ l.countP fun i => !listed.getD i false := List.countP_mono_left (fun x _ hx => by
                rw [hgetD] at hx
                by_cases e : x = r0.i
                · rw [if_pos e] at hx; cases hx
                · rw [if_neg e] at hx; exact hx)
              simp only [List.countP_cons, hgetD]
              by_cases e : k = r0.i
              · subst e
                simp only [hun, if_true, Bool.not_true, Bool.not_false, Bool.false_eq_true, if_false]
                simp only [hgetD] at hle
                omega
              · rw [if_neg e]
                have := ihl ((List.mem_cons.1 hk).resolve_left (fun h => e h.symm))
                simp only [hgetD] at this
                omega
          exact e1 _ (List.mem_range.2 hlt)
        omega
      · rw [hgetD] at hk ⊢
        by_cases e2 : e.on = r0.i
        · rw [if_pos e2]
        · rw [if_neg e2]
          by_cases e3 : k = r0.i
          · subst e3
            rw [ho] at hok; cases hok
            exact hedges e he hb
          · rw [if_neg e3] at hk
            exact hcl k ok hk hok e he hb
      · have k2' : m id ≠ none ∨ id ∈ recIds r0 := by
          have := k2 id hid
          unfold recIds
          exact this
        rcases k2' with h | h
        · rcases hdom id h with h | ⟨q, hq, hql, hqi⟩
          · exact Or.inl h
          · exact Or.inr ⟨q, hq, by rw [hgetD]; split; rfl; exact hql, hqi⟩
        · exact Or.inr ⟨r0, hr0, by rw [hgetD, if_pos rfl], h⟩
      · refine k3.eqSt ?_
        -- the state with r0 among the listed
        have e1 : stL ops (fun i => (listed.setIfInBounds r0.i true).getD i false) pre st = stL ops (fun i => listed.getD i false) pre st := stL_eq pre st (fun q hq => by
          rw [hgetD, if_neg]
          intro e
          exact hnp (List.mem_map.2 ⟨q, hq, e⟩))
        have npost : ∀ q ∈ post, q.i ≠ r0.i := fun q hq e => by
          obtain ⟨p1, p2, hp⟩ := List.append_of_mem hq
          have := (place (pre ++ r0 :: p1) q p2 (by rw [hsplit, hp]; simp)).1
          exact this (by simp [e])
        have e2 : ∀ s, stL ops (fun i => (listed.setIfInBounds r0.i true).getD i false) post s = stL ops (fun i => listed.getD i false) post s := fun s => stL_eq post s (fun q hq => by
          rw [hgetD, if_neg (npost q hq)])
        rw [hsplit, stL_append, stL_append, e1]
        simp only [stL, hun, Bool.false_eq_true, if_false, hgetD, if_true]
        have e3 := e2 (appRec ops (stL ops (fun i => listed.getD i false) pre st) r0)
        simp only [hgetD] at e3
        rw [e3]
        refine (stL_later post _ (fun q hq hql => ?_)).symm
        have hqr : q ∈ recs := by rw [hsplit]; simp [hq]
        have hne := npost q hq
        have hun' : ord ancs q.i r0.i = false := by
          refine unord q hqr hne ?_
          rw [hql]
          intro hx
          obtain ⟨p1, p2, hp⟩ := List.append_of_mem hq
          have := (place (pre ++ r0 :: p1) q p2 (by rw [hsplit, hp]; simp)).1
          apply this
          have h3 : q.i ∈ pre.map (·.i) := by simpa using hx.symm
          simp only [List.map_append, List.mem_append]
          exact Or.inl h3
        refine ⟨fun t ht hq2 => ?_, fun id hid hq2 => ?_⟩
        · have h1 := R.tmps q.i r0.i t (bound q hqr) hlt hne hq2 (Or.inr ht)
          rw [hun'] at h1; cases h1
        · have h1 := conf_spec hconf hqr hr0 hne hq2 (Or.inr hid)
          rw [hun'] at h1; cases h1
  refine main ops.size (Array.replicate ops.size false) m0 a w (by simp) ?_ (fun i o hi => ?_) (Map.le.refl _) (fun id hid => Or.inl (hd id hid)) ?_
  · exact Nat.le_trans List.countP_le_length (by simp)
  · exfalso
    rw [Array.getD_eq_getD_getElem?] at hi
    by_cases h : i < ops.size
    · simp [h] at hi
    · simp [h] at hi
  · have h0 : ∀ k, (Array.replicate ops.size false).getD k false = false := fun k => by
      rw [Array.getD_eq_getD_getElem?]
      by_cases h : k < ops.size
      · simp [h]
      · simp [h]
    have : ∀ (l : List Rec) (s : St), stL ops (fun i => (Array.replicate ops.size false).getD i false) l s = s := by
      intro l
      induction l with
      | nil => intro s; rfl
      | cons q l ihl => intro s; simp only [stL, h0, Bool.false_eq_true, if_false]; have := ihl s; simp only [h0] at this; exact this
    rw [this]
    exact H
end
end Go.Proofs.Ytdoagjphjnbbnaa.Ev
