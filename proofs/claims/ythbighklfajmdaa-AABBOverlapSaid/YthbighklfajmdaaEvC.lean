/- A region in whatever order: one run in one order is enough, if no operation writes what another, unordered with it, reads or writes. -/
import Derived.Test.YthbighklfajmdaaEvB
namespace Go.Proofs.Ythbighklfajmdaa.Ev
open Go.RowKit
set_option linter.unusedVariables false
set_option linter.unusedSimpArgs false

/-- What an operation did: its number, where its new blocks are numbered from, its effect (none: it was not wanted), the blocks it looked into. -/
structure Rec where
  i : Nat
  nid : Nat
  res : Option Res
  rds : List Nat

def dstOf (ops : Array Oper) (i : Nat) : Option Tmp := (ops[i]?).bind (·.dst)

def wantS (ops : Array Oper) (o : Oper) (tmps : List SV) : Option Bool :=
  match o.guard with
  | none => some true
  | some (j, b) => match dstOf ops j with
    | some d => match getL tmps d with
      | .blit c => some (c == b)
      | .bool c => some (c == b)
      | .cst v => match v with
        | .bool c => some (c == b)
        | _ => some false
      | _ => none
    | none => none

def rdS (ids : List Nat) (h : List Blk) (id : Nat) : Blk := if ids.contains id then getB h id else .dead

/-- A truth that is a letter may be told by its case. -/
def Ref (v v' : SV) : Prop := v' = v ∨ ∃ c, v = .bool c ∧ v' = .blit c

def appRec (ops : Array Oper) (st : St) (r : Rec) : St :=
  match r.res with
  | none => st.put (dstOf ops r.i) (.cst undef)
  | some x => st.app (dstOf ops r.i) x

def Step (T : Tab) (C : List Con) (ops : Array Oper) (st : St) (r : Rec) : Prop :=
  ∃ o, ops[r.i]? = some o ∧ match r.res with
    | none => wantS ops o st.tmps = some false
    | some x => wantS ops o st.tmps = some true ∧ (∀ p ∈ x.pre, p) ∧ r.rds = rids o.op (vals st.tmps (opnds o.op)) ∧
      ∃ x0, eff T C o.op (vals st.tmps (opnds o.op)) (rdS (rids o.op (vals st.tmps (opnds o.op))) st.heap) r.nid = some x0 ∧ x.pre = x0.pre ∧ x.wr = x0.wr ∧ Ref x0.val x.val

def Run (T : Tab) (C : List Con) (ops : Array Oper) : List Rec → St → St → Prop
  | [], st, st' => st' = st
  | r :: rs, st, st' => Step T C ops st r ∧ r.nid = st.heap.length ∧ Run T C ops rs (appRec ops st r) st'

theorem Ref.den {v v' : SV} (h : Ref v v') {m : Map} {x : Value} (d : Den m v x) : Den m v' x := by
  rcases h with rfl | ⟨c, rfl, rfl⟩ <;> exact d

section
variable {P : Program} {T : Tab} {C : List Con} {B : Nat} {bad : Nat → Prop} {w0 : World} {m : Map} {st : St} {a : Act} {w : World} {ops : Array Oper}

theorem want_den {o : Oper} {b : Bool} (H : Holds B bad w0 m st a w) (h : wantS ops o st.tmps = some b) : Region.wanted o (yielded ops a.tmps) = b := by
  unfold wantS at h
  unfold Region.wanted
  split at h
  · rename_i hg; cases h; rw [hg]
  · rename_i j want hg
    rw [hg]
    simp only
    split at h
    rotate_left
    · cases h
    rename_i d hd
    have key : ∀ c, a.tmps.getD d undef = .bool c → yielded ops a.tmps j = some c := fun c hc => by
      have hb : a.tmps[d]? = some (.bool c) := by
        rw [Array.getD_eq_getD_getElem?] at hc
        cases hx : a.tmps[d]? with
        | none => rw [hx] at hc; simp [undef] at hc
        | some v => rw [hx] at hc; simp at hc; rw [hc]
      unfold yielded
      unfold dstOf at hd
      rw [hd]
      simp [hb]
    have ht := H.tmp d
    split at h
    · rename_i c hc; cases h; rw [hc] at ht
      rw [key c ht]; cases c <;> cases want <;> rfl
    · rename_i c hc; cases h; rw [hc] at ht
      rw [key c ht]; cases c <;> cases want <;> rfl
    · rename_i v hc; rw [hc] at ht
      have ht : a.tmps.getD d undef = v := ht
      have non : (∀ c, v ≠ .bool c) → yielded ops a.tmps j = none := fun hv => by
        unfold yielded
        unfold dstOf at hd
        rw [hd]
        rw [Array.getD_eq_getD_getElem?] at ht
        cases hx : a.tmps[d]? with
        | none => simp [hx]
        | some u =>
          rw [hx] at ht
          simp at ht
          subst ht
          cases u <;> first | (simp [hx]; done) | exact absurd rfl (hv _)
      cases v with
      | bool c => cases h; rw [key c ht]; cases c <;> cases want <;> rfl
      | _ => cases h; rw [non (fun c e => by cases e)]; cases want <;> rfl
    · cases h

/-- One step, in the world. -/
theorem step_wp {Q : Exit → Act → World → Prop} {r : Rec} (hT : T.Ok P) (hC : Cons.Ok P C) (hs : Step T C ops st r) (hf : ∀ x id, r.res = some x → id ∈ x.wr.map (·.1) → r.nid ≤ id → m id = none) (H : Holds B bad w0 m st a w) :
    wpOp P ops Q r.i (After B bad w0 m (appRec ops st r) (match r.res with | some x => x.wr.map (·.1) | none => [])) a w := by
  obtain ⟨o, ho, hs⟩ := hs
  unfold wpOp
  simp only [ho]
  have hdst : dstOf ops r.i = o.dst := by simp [dstOf, ho]
  unfold appRec
  rw [hdst]
  cases hr : r.res with
  | none =>
    rw [hr] at hs
    rw [want_den H hs]
    simp only [Bool.false_eq_true, if_false]
    exact ⟨m, Map.le.refl m, fun id h => Or.inl h, H.put o.dst (s := .cst undef) rfl⟩
  | some x =>
    rw [hr] at hs
    obtain ⟨h1, h2, h3, x0, h4, h5, h6, h7⟩ := hs
    rw [want_den H h1]
    simp only [if_true]
    left
    have := op_sound (Q := Q) hT hC (rd := rdS (rids o.op (vals st.tmps (opnds o.op))) st.heap) (fun id => by unfold rdS; split; exact Or.inl rfl; exact Or.inr rfl) h4 (fun q hq => h2 q (by rw [h5]; exact hq)) (fun id hid hn => hf x id hr (by rw [h6]; exact hid) hn) H
    refine Oper.wp_mono (fun a' w' h => ?_) this
    obtain ⟨m', g1, g2, g3⟩ := h
    refine ⟨m', g1, fun id hid => by rw [h6]; exact g2 id hid, ?_⟩
    have e : ∀ (s : St) (d : Option Tmp), s.app d x = St.put ⟨s.tmps, setBs s.heap x0.wr⟩ d x.val := fun s d => by simp only [St.app, h6]
    rw [e]
    refine ⟨g3.defers, ?_, fun t => ?_, ?_, ?_, ?_, g3.below, g3.base⟩
    · have := g3.size
      cases hd : o.dst <;> simp only [St.app, St.put, setL_length, hd] at this ⊢ <;> exact this
    · have := g3.tmp t
      cases hd : o.dst with
      | none => simp only [St.app, St.put, hd] at this ⊢; exact this
      | some d =>
        simp only [St.app, St.put, hd, getL_setL] at this ⊢
        split
        · rename_i hc; rw [if_pos hc] at this; exact h7.den this
        · rename_i hc; rw [if_neg hc] at this; exact this
    · have := g3.blk
      cases hd : o.dst <;> simp only [St.app, St.put, hd] at this ⊢ <;> exact this
    · have := g3.apart
      cases hd : o.dst <;> simp only [St.app, St.put, hd] at this ⊢ <;> exact this
    · have := g3.own
      cases hd : o.dst <;> simp only [St.app, St.put, hd] at this ⊢ <;> exact this

/-- The numbers of a state's blocks. -/
def Dom (m : Map) (n : Nat) : Prop := ∀ id, m id ≠ none → id < n

theorem setBs_len : ∀ {wr : List (Nat × Blk)} {h : List Blk}, h.length ≤ (setBs h wr).length ∧ ∀ id ∈ wr.map (·.1), id < (setBs h wr).length
  | [], h => by simp [setBs]
  | (i, b) :: wr, h => by
    obtain ⟨h1, h2⟩ := setBs_len (wr := wr) (h := setB h i b)
    have := setB_length h i b
    simp only [setBs]
    refine ⟨by omega, fun id hid => ?_⟩
    simp only [List.map_cons, List.mem_cons] at hid
    rcases hid with rfl | hid
    · omega
    · exact h2 id hid
theorem put_heap (st : St) (d : Option Tmp) (v : SV) : (st.put d v).heap = st.heap := by cases d <;> rfl
theorem put_len (st : St) (d : Option Tmp) (v : SV) : (st.put d v).tmps.length = st.tmps.length := by cases d <;> simp [St.put, setL_length]
theorem appRec_heap (st : St) (r : Rec) : (appRec ops st r).heap = match r.res with | some x => setBs st.heap x.wr | none => st.heap := by
  unfold appRec
  cases r.res <;> simp [St.app, put_heap]
theorem appRec_len (st : St) (r : Rec) : (appRec ops st r).tmps.length = st.tmps.length := by
  unfold appRec
  cases r.res <;> simp [St.app, put_len]
def recIds (r : Rec) : List Nat := match r.res with | some x => x.wr.map (·.1) | none => []
theorem appRec_dom {m m' : Map} {r : Rec} (h : Dom m st.heap.length) (h2 : ∀ id, m' id ≠ none → m id ≠ none ∨ id ∈ recIds r) : Dom m' (appRec ops st r).heap.length := by
  intro id hid
  rw [appRec_heap]
  unfold recIds at h2
  cases hr : r.res with
  | none => rw [hr] at h2; exact h id ((h2 id hid).resolve_right (by simp))
  | some x =>
    rw [hr] at h2
    obtain ⟨g1, g2⟩ := setBs_len (wr := x.wr) (h := st.heap)
    rcases h2 id hid with h3 | h3
    · exact Nat.lt_of_lt_of_le (h id h3) g1
    · exact g2 id h3

/-- In the order of the text. -/
theorem run_ops {Q : Exit → Act → World → Prop} (hT : T.Ok P) (hC : Cons.Ok P C) : ∀ (rs : List Rec) (m : Map) (st st' : St) (a : Act) (w : World), Run T C ops rs st st' → Dom m st.heap.length → Holds B bad w0 m st a w →
    (∀ m' a' w', m.le m' → Dom m' st'.heap.length → Holds B bad w0 m' st' a' w' → Q .normal a' w') → wpOps P ops Q (rs.map (·.i)) a w
  | [], m, st, st', a, w, hr, hd, H, hQ => by
    cases hr
    exact hQ m a w (Map.le.refl m) hd H
  | r :: rs, m, st, st', a, w, ⟨h1, h2, h3⟩, hd, H, hQ => by
    rw [List.map_cons, wpOps_cons]
    refine wpOp_mono (fun a' w' h => ?_) (step_wp (Q := Q) hT hC h1 (fun x id _ _ hn => ?_) H)
    · obtain ⟨m', g1, g2, g3⟩ := h
      exact run_ops hT hC rs m' _ st' a' w' h3 (appRec_dom hd g2) g3 (fun m'' a'' w'' k1 k2 k3 => hQ m'' a'' w'' (g1.trans k1) k2 k3)
    · cases hm : m id with
      | none => rfl
      | some p => exact absurd (hd id (by rw [hm]; simp)) (by omega)
end
end Go.Proofs.Ythbighklfajmdaa.Ev
