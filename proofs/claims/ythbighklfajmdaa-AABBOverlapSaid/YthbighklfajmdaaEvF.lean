/- The reckoning of code, and its soundness. -/
import Derived.Test.YthbighklfajmdaaEvE
import Derived.LoopN
namespace Go.Proofs.Ythbighklfajmdaa.Ev
open Go.RowKit
set_option linter.unusedVariables false
set_option linter.unusedSimpArgs false

/- Everything is laid out as it is reckoned: each function yields its result in full. -/
def nfS : SV → Option SV
  | .lit k n => some (.lit k n)
  | .int k n => some (.int k n)
  | .blit b => match b with
    | true => some (.blit true)
    | false => some (.blit false)
  | .bool b => some (.bool b)
  | .ptr a b => some (.ptr a b)
  | .pti a b c d => some (.pti a b c d)
  | .nils => some .nils
  | .sl a b c d => some (.sl a b c d)
  | .osl a b c d => some (.osl a b c d)
  | .cst v => some (.cst v)
  | .any => some .any
  | .agg _ => none
  | .tup _ => none
def nfL : List SV → Option (List SV)
  | [] => some []
  | s :: r => match nfS s with
    | some s' => match nfL r with
      | some r' => some (s' :: r')
      | none => none
    | none => none
def nfA : SV → Option SV
  | .agg cs => match nfL cs with
    | some l => some (.agg l)
    | none => none
  | s => nfS s
def nfM : List SV → Option (List SV)
  | [] => some []
  | s :: r => match nfA s with
    | some s' => match nfM r with
      | some r' => some (s' :: r')
      | none => none
    | none => none
def nf : SV → Option SV
  | .tup cs => match nfM cs with
    | some l => some (.tup l)
    | none => none
  | s => nfA s
theorem nfS_eq {s s' : SV} (h : nfS s = some s') : s' = s := by
  cases s <;> simp only [nfS] at h
  case blit b => cases b <;> simp only at h <;> cases h <;> rfl
  all_goals first | (cases h; rfl) | cases h
theorem nfL_eq : ∀ {l l' : List SV}, nfL l = some l' → l' = l
  | [], l', h => by simp only [nfL] at h; cases h; rfl
  | s :: r, l', h => by
    simp only [nfL] at h
    split at h
    rotate_left
    · cases h
    rename_i s' hs
    split at h
    rotate_left
    · cases h
    rename_i r' hr
    cases h
    rw [nfS_eq hs, nfL_eq hr]
theorem nfA_eq {s s' : SV} (h : nfA s = some s') : s' = s := by
  cases s
  case agg cs =>
    simp only [nfA] at h
    split at h
    · rename_i l hl; cases h; rw [nfL_eq hl]
    · cases h
  all_goals exact nfS_eq h
theorem nfM_eq : ∀ {l l' : List SV}, nfM l = some l' → l' = l
  | [], l', h => by simp only [nfM] at h; cases h; rfl
  | s :: r, l', h => by
    simp only [nfM] at h
    split at h
    rotate_left
    · cases h
    rename_i s' hs
    split at h
    rotate_left
    · cases h
    rename_i r' hr
    cases h
    rw [nfA_eq hs, nfM_eq hr]
theorem nf_eq {s s' : SV} (h : nf s = some s') : s' = s := by
  cases s
  case tup cs =>
    simp only [nf] at h
    split at h
    · rename_i l hl; cases h; rw [nfM_eq hl]
    · cases h
  all_goals exact nfA_eq h

def nfB : Blk → Option Blk
  | .dead => some .dead
  | .cells cs => match nfL cs with
    | some l => some (.cells l)
    | none => none
  | .arr ow ok esz xs => some (.arr ow ok esz xs)
theorem nfB_eq {b b' : Blk} (h : nfB b = some b') : b' = b := by
  cases b <;> simp only [nfB] at h
  case cells cs =>
    split at h
    · rename_i l hl; cases h; rw [nfL_eq hl]
    · cases h
  all_goals (cases h; rfl)
def nfW : List (Nat × Blk) → Option (List (Nat × Blk))
  | [] => some []
  | (i, b) :: r => match normN i nats with
    | some i' => match nfB b with
      | some b' => match nfW r with
        | some r' => some ((i', b') :: r')
        | none => none
      | none => none
    | none => none
theorem nfW_eq : ∀ {l l' : List (Nat × Blk)}, nfW l = some l' → l' = l
  | [], l', h => by simp only [nfW] at h; cases h; rfl
  | (i, b) :: r, l', h => by
    simp only [nfW] at h
    split at h
    rotate_left
    · cases h
    rename_i i' hi
    split at h
    rotate_left
    · cases h
    rename_i b' hb
    split at h
    rotate_left
    · cases h
    rename_i r' hr
    cases h
    rw [normN_eq hi, nfB_eq hb, nfW_eq hr]

def setO : List SV → Nat → SV → Option (List SV)
  | [], _, _ => some []
  | h :: t, n, v => match n with
    | 0 => some (v :: t)
    | n + 1 => match setO t n v with
      | some r => some (h :: r)
      | none => none
theorem setO_eq : ∀ {l : List SV} {n : Nat} {v : SV} {l' : List SV}, setO l n v = some l' → l' = setL l n v
  | [], n, v, l', h => by simp only [setO] at h; cases h; rfl
  | x :: t, 0, v, l', h => by simp only [setO] at h; cases h; rfl
  | x :: t, n + 1, v, l', h => by
    simp only [setO] at h
    split at h
    · rename_i r hr; cases h; rw [setO_eq hr]; rfl
    · cases h
def putO (l : List SV) (d : Option Tmp) (v : SV) : Option (List SV) :=
  match d with
  | some d => setO l d v
  | none => some l
def setBO : List Blk → Nat → Blk → Option (List Blk)
  | [], n, b => match n with
    | 0 => some [b]
    | n + 1 => match setBO [] n b with
      | some r => some (.dead :: r)
      | none => none
  | h :: t, n, b => match n with
    | 0 => some (b :: t)
    | n + 1 => match setBO t n b with
      | some r => some (h :: r)
      | none => none
theorem setBO_eq : ∀ {l : List Blk} {n : Nat} {v : Blk} {l' : List Blk}, setBO l n v = some l' → l' = setB l n v
  | [], 0, v, l', h => by simp only [setBO] at h; cases h; rfl
  | [], n + 1, v, l', h => by
    simp only [setBO] at h
    split at h
    · rename_i r hr; cases h; rw [setBO_eq hr]; rfl
    · cases h
  | x :: t, 0, v, l', h => by simp only [setBO] at h; cases h; rfl
  | x :: t, n + 1, v, l', h => by
    simp only [setBO] at h
    split at h
    · rename_i r hr; cases h; rw [setBO_eq hr]; rfl
    · cases h
def setBsO : List Blk → List (Nat × Blk) → Option (List Blk)
  | l, [] => some l
  | l, (i, b) :: r => match setBO l i b with
    | some l' => setBsO l' r
    | none => none
theorem setBsO_eq : ∀ {r : List (Nat × Blk)} {l l' : List Blk}, setBsO l r = some l' → l' = setBs l r
  | [], l, l', h => by simp only [setBsO] at h; cases h; rfl
  | (i, b) :: r, l, l', h => by
    simp only [setBsO] at h
    split at h
    · rename_i l1 h1
      rw [setBsO_eq h, setBO_eq h1]; rfl
    · cases h

def getO : List SV → Nat → Option SV
  | [], _ => some .any
  | h :: t, n => match n with
    | 0 => some h
    | n + 1 => getO t n
theorem getO_eq : ∀ {l : List SV} {n : Nat} {v : SV}, getO l n = some v → v = getL l n
  | [], n, v, h => by simp only [getO] at h; cases h; rfl
  | x :: t, 0, v, h => by simp only [getO] at h; cases h; rfl
  | x :: t, n + 1, v, h => by
    have h' : getO t n = some v := h
    exact getO_eq (l := t) h'
def evO (l : List SV) : Operand → Option SV
  | .tmp t => getO l t
  | .const v => nf (ofV v)
  | _ => some .any
theorem evO_eq {l : List SV} {x : Operand} {v : SV} (h : evO l x = some v) : v = evL l x := by
  cases x with
  | tmp t => exact getO_eq h
  | const c => exact nf_eq h
  | _ => cases h; rfl
def valsO (l : List SV) : List Operand → Option (List SV)
  | [] => some []
  | x :: r => match evO l x with
    | some v => match valsO l r with
      | some vs => some (v :: vs)
      | none => none
    | none => none
theorem valsO_eq {l : List SV} : ∀ {xs : List Operand} {vs : List SV}, valsO l xs = some vs → vs = vals l xs
  | [], vs, h => by simp only [valsO] at h; cases h; rfl
  | x :: r, vs, h => by
    simp only [valsO] at h
    split at h
    rotate_left
    · cases h
    rename_i v hv
    split at h
    rotate_left
    · cases h
    rename_i us hus
    cases h
    rw [evO_eq hv, valsO_eq hus]; rfl

def lenO : List Blk → List Nat → Option Nat
  | [], n :: _ => some n
  | _ :: r, _ :: ns => lenO r ns
  | _, [] => none
theorem lenO_gen : ∀ {l : List Blk} {ns : List Nat} {b n : Nat}, (∀ i k, ns[i]? = some k → k = b + i) → lenO l ns = some n → n = b + l.length
  | [], k :: ns, b, n, h, he => by simp only [lenO] at he; cases he; exact h 0 k rfl
  | x :: l, k :: ns, b, n, h, he => by
    simp only [lenO] at he
    have := lenO_gen (b := b + 1) (fun i k hi => by rw [h (i + 1) k (by simpa using hi)]; omega) he
    rw [this, List.length_cons]; omega
  | [], [], b, n, h, he => by simp [lenO] at he
  | x :: l, [], b, n, h, he => by simp [lenO] at he
theorem nats_range : nats = List.range 128 := by kernel_rfl
theorem nats_get : ∀ i k, nats[i]? = some k → k = 0 + i := by
  intro i k h
  rw [nats_range] at h
  have hl : i < 128 := by have := (List.getElem?_eq_some_iff.1 h).1; simpa using this
  rw [List.getElem?_range hl] at h
  cases h
  omega
theorem lenO_eq {l : List Blk} {n : Nat} (h : lenO l nats = some n) : n = l.length := by
  have := lenO_gen nats_get h; omega

/- By the recursor, as evRun below. -/
noncomputable def conj (ps : List Prop) (K : Prop) : Prop := List.rec (motive := fun _ => Prop) K (fun p _ ih => VC p ∧ (p → ih)) ps
theorem conj_out : ∀ {ps : List Prop} {K : Prop}, conj ps K → (∀ p ∈ ps, p) ∧ K
  | [], K, h => ⟨by simp, h⟩
  | p :: ps, K, h => by
    have h1 : VC p ∧ (p → conj ps K) := h
    obtain ⟨g1, g2⟩ := conj_out (h1.2 h1.1.out)
    exact ⟨fun q hq => by rcases List.mem_cons.1 hq with rfl | hq; exact h1.1.out; exact g1 q hq, g2⟩

def memN (n : Nat) : List Nat → Bool
  | [] => false
  | m :: r => match Nat.beq m n with
    | true => true
    | false => memN n r
theorem memN_eq (n : Nat) : ∀ l : List Nat, memN n l = l.contains n
  | [] => rfl
  | m :: r => by
    simp only [memN, List.contains_cons]
    split
    · rename_i h; rw [Nat.eq_of_beq_eq_true h]; simp
    · rename_i h
      have : m ≠ n := Nat.ne_of_beq_eq_false h
      rw [memN_eq n r]
      simp [Ne.symm this]
def rdO (ids : List Nat) (h : List Blk) (id : Nat) : Blk := match memN id ids with
  | true => getB h id
  | false => .dead
theorem rdO_eq (ids : List Nat) (h : List Blk) : rdO ids h = rdS ids h := by
  funext id
  unfold rdO rdS
  rw [memN_eq]
  cases ids.contains id <;> rfl

noncomputable def doOp (T : Tab) (C : List Con) (o : Oper) (tmps : List SV) (heap : List Blk) (K : Nat → Res → List Nat → List SV → List Blk → Prop) : Prop :=
  match valsO tmps (opnds o.op) with
  | some vs => match lenO heap nats with
    | some nid => match eff T C o.op vs (rdO (rids o.op vs) heap) nid with
      | some ⟨pre, val, wr⟩ => match nf val with
        | some v => match nfW wr with
          | some wr => match putO tmps o.dst v with
            | some t => match setBsO heap wr with
              | some h => conj pre (K nid ⟨pre, v, wr⟩ (rids o.op vs) t h)
              | none => False
            | none => False
          | none => False
        | none => False
      | none => False
    | none => False
  | none => False

theorem doOp_out {T : Tab} {C : List Con} {o : Oper} {st : St} {K : Nat → Res → List Nat → List SV → List Blk → Prop} (h : doOp T C o st.tmps st.heap K) :
    ∃ r, (∀ p ∈ r.pre, p) ∧ eff T C o.op (vals st.tmps (opnds o.op)) (rdS (rids o.op (vals st.tmps (opnds o.op))) st.heap) st.heap.length = some r ∧ K st.heap.length r (rids o.op (vals st.tmps (opnds o.op))) (st.app o.dst r).tmps (st.app o.dst r).heap := by
  unfold doOp at h
  split at h
  rotate_left
  · exact h.elim
  rename_i vs hvs
  obtain rfl := valsO_eq hvs
  split at h
  rotate_left
  · exact h.elim
  rename_i nid hnid
  obtain rfl := lenO_eq hnid
  rw [rdO_eq] at h
  split at h
  rotate_left
  · exact h.elim
  rename_i pre val wr0 hr
  split at h
  rotate_left
  · exact h.elim
  rename_i v hv
  obtain rfl := nf_eq hv
  split at h
  rotate_left
  · exact h.elim
  rename_i wr hwr
  obtain rfl := nfW_eq hwr
  split at h
  rotate_left
  · exact h.elim
  rename_i t ht
  split at h
  rotate_left
  · exact h.elim
  rename_i hh hhh
  obtain rfl := setBsO_eq hhh
  obtain ⟨h1, h2⟩ := conj_out h
  refine ⟨⟨pre, v, wr⟩, h1, hr, ?_⟩
  have e : st.app o.dst ⟨pre, v, wr⟩ = ⟨t, setBs st.heap wr⟩ := by
    unfold St.app St.put putO at *
    cases hd : o.dst with
    | none => rw [hd] at ht; cases ht; rfl
    | some d => rw [hd] at ht; rw [setO_eq ht]
  rw [e]
  exact h2

def getP : List Oper → Nat → Option Oper
  | [], _ => none
  | h :: t, n => match n with
    | 0 => some h
    | n + 1 => getP t n
theorem getP_eq : ∀ (l : List Oper) (n : Nat), getP l n = l[n]?
  | [], n => by simp [getP]
  | h :: t, 0 => rfl
  | h :: t, n + 1 => by simp [getP, getP_eq t n]

/-- Is operation i the guard of another? -/
def guards (i : Nat) : List Oper → Bool
  | [] => false
  | o :: r => match o.guard with
    | some (j, _) => match Nat.beq i j with
      | true => true
      | false => guards i r
    | none => guards i r

def wantO (l : List Oper) (o : Oper) (tmps : List SV) : Option Bool :=
  match o.guard with
  | none => some true
  | some (j, b) => match getP l j with
    | some oj => match oj.dst with
      | some d => match getO tmps d with
        | some (.blit c) => match c, b with
          | true, true => some true
          | false, false => some true
          | _, _ => some false
        | some (.cst v) => match v with
          | .bool _ => none
          | _ => some false
        | _ => none
      | none => none
    | none => none
theorem wantO_eq {ops : Array Oper} {o : Oper} {tmps : List SV} {c : Bool} (h : wantO ops.toList o tmps = some c) : wantS ops o tmps = some c := by
  unfold wantO at h
  unfold wantS
  split at h
  · rename_i hg; rw [hg]; exact h
  · rename_i j b hg
    rw [hg]
    split at h
    rotate_left
    · cases h
    rename_i oj hoj
    rw [getP_eq, Array.getElem?_toList] at hoj
    split at h
    rotate_left
    · cases h
    rename_i d hd
    have : dstOf ops j = some d := by simp [dstOf, hoj, hd]
    simp only [this]
    split at h
    · rename_i c' hc
      rw [← getO_eq hc]
      revert h
      cases c' <;> cases b <;> intro h <;> exact h
    · rename_i v hc
      rw [← getO_eq hc]
      cases v <;> first | exact h | cases h
    · cases h

abbrev KR := List Rec → List SV → List Blk → Prop
noncomputable def evStep (T : Tab) (C : List Con) (l : List Oper) (i : Nat) (ih : List SV → List Blk → List Rec → KR → Prop) (tmps : List SV) (heap : List Blk) (recs : List Rec) (K : KR) : Prop :=
  match getP l i with
  | none => False
  | some o => match wantO l o tmps with
    | none => False
    | some false => match lenO heap nats with
      | some nid => match putO tmps o.dst (.cst undef) with
        | some t => ih t heap (⟨i, nid, none, []⟩ :: recs) K
        | none => False
      | none => False
    | some true => doOp T C o tmps heap fun nid r ids tmps' heap' => match guards i l with
      | false => ih tmps' heap' (⟨i, nid, some r, ids⟩ :: recs) K
      | true => match r with
        | ⟨pre, val, wr⟩ => match val with
          | .bool c => (c = true → match putO tmps o.dst (.blit true) with
              | some t => ih t heap' (⟨i, nid, some ⟨pre, .blit true, wr⟩, ids⟩ :: recs) K
              | none => False) ∧
            (c = false → match putO tmps o.dst (.blit false) with
              | some t => ih t heap' (⟨i, nid, some ⟨pre, .blit false, wr⟩, ids⟩ :: recs) K
              | none => False)
          | _ => ih tmps' heap' (⟨i, nid, some ⟨pre, val, wr⟩, ids⟩ :: recs) K
/- By the recursor itself: so that what is left unreckoned reads alike wherever it is looked at. -/
noncomputable def evRun (T : Tab) (C : List Con) (l : List Oper) (order : List Nat) : List SV → List Blk → List Rec → KR → Prop :=
  List.rec (motive := fun _ => List SV → List Blk → List Rec → KR → Prop) (fun tmps heap recs K => K recs tmps heap) (fun i _ ih => evStep T C l i ih) order
theorem evRun_cons (T : Tab) (C : List Con) (l : List Oper) (i : Nat) (rest : List Nat) (tmps : List SV) (heap : List Blk) (recs : List Rec) (K : KR) : evRun T C l (i :: rest) tmps heap recs K = evStep T C l i (evRun T C l rest) tmps heap recs K := rfl

theorem putO_eq {st : St} {d : Option Tmp} {v : SV} {t : List SV} (h : putO st.tmps d v = some t) : (⟨t, st.heap⟩ : St) = st.put d v := by
  unfold putO at h
  unfold St.put
  cases d with
  | none => cases h; rfl
  | some d => rw [setO_eq h]

theorem evRun_out {T : Tab} {C : List Con} {ops : Array Oper} : ∀ {order : List Nat} {st : St} {recs : List Rec} {K : KR}, evRun T C ops.toList order st.tmps st.heap recs K →
    ∃ rs st', Run T C ops rs st st' ∧ rs.map (·.i) = order ∧ K (rs.reverse ++ recs) st'.tmps st'.heap
  | [], st, recs, K, h => ⟨[], st, rfl, rfl, h⟩
  | i :: rest, st, recs, K, h => by
    rw [evRun_cons] at h
    unfold evStep at h
    split at h
    · exact h.elim
    rename_i o ho
    rw [getP_eq, Array.getElem?_toList] at ho
    have hdst : dstOf ops i = o.dst := by simp [dstOf, ho]
    split at h
    · exact h.elim
    · rename_i hw
      have hw' := wantO_eq hw
      split at h
      rotate_left
      · exact h.elim
      rename_i nid hnid
      split at h
      rotate_left
      · exact h.elim
      rename_i t ht
      obtain ⟨rs, st', h1, h2, h3⟩ := evRun_out (st := ⟨t, st.heap⟩) h
      refine ⟨⟨i, nid, none, []⟩ :: rs, st', ⟨⟨o, ho, hw'⟩, lenO_eq hnid, ?_⟩, by simp [h2], by simpa using h3⟩
      have e : appRec ops st ⟨i, nid, none, []⟩ = ⟨t, st.heap⟩ := by
        rw [putO_eq ht]; simp only [appRec, hdst]
      rw [e]; exact h1
    · rename_i hw
      have hw' := wantO_eq hw
      obtain ⟨r, h1, h2, h3⟩ := doOp_out h
      have plainStep : evRun T C ops.toList rest (st.app o.dst r).tmps (st.app o.dst r).heap (⟨i, st.heap.length, some r, rids o.op (vals st.tmps (opnds o.op))⟩ :: recs) K →
          ∃ rs st', Run T C ops rs st st' ∧ rs.map (·.i) = i :: rest ∧ K (rs.reverse ++ recs) st'.tmps st'.heap := fun hh => by
        obtain ⟨rs, st', g1, g2, g3⟩ := evRun_out (st := st.app o.dst r) hh
        refine ⟨⟨i, st.heap.length, some r, rids o.op (vals st.tmps (opnds o.op))⟩ :: rs, st', ⟨⟨o, ho, hw', h1, rfl, r, h2, rfl, rfl, Or.inl rfl⟩, rfl, ?_⟩, by simp [g2], by simpa using g3⟩
        have e : appRec ops st ⟨i, st.heap.length, some r, rids o.op (vals st.tmps (opnds o.op))⟩ = st.app o.dst r := by simp only [appRec, hdst]
        rw [e]; exact g1
      split at h3
      · exact plainStep h3
      · obtain ⟨pre, val, wr⟩ := r
        split at h3
        · rename_i pre' val' wr' heq
          cases heq
          split at h3
          · rename_i c
            have hheap : (st.app o.dst ⟨pre, .bool c, wr⟩).heap = setBs st.heap wr := by simp [St.app, put_heap]
            have split1 : ∀ b : Bool, c = b → (match putO st.tmps o.dst (.blit b) with
                | some t => evRun T C ops.toList rest t (st.app o.dst ⟨pre, .bool c, wr⟩).heap (⟨i, st.heap.length, some ⟨pre, .blit b, wr⟩, rids o.op (vals st.tmps (opnds o.op))⟩ :: recs) K
                | none => False) → ∃ rs st', Run T C ops rs st st' ∧ rs.map (·.i) = i :: rest ∧ K (rs.reverse ++ recs) st'.tmps st'.heap := fun b hb hh => by
              subst hb
              split at hh
              rotate_left
              · exact hh.elim
              rename_i t ht
              obtain ⟨rs, st', g1, g2, g3⟩ := evRun_out (st := ⟨t, (st.app o.dst ⟨pre, .bool c, wr⟩).heap⟩) hh
              refine ⟨⟨i, st.heap.length, some ⟨pre, .blit c, wr⟩, rids o.op (vals st.tmps (opnds o.op))⟩ :: rs, st', ⟨⟨o, ho, hw', h1, rfl, ⟨pre, .bool c, wr⟩, h2, rfl, rfl, Or.inr ⟨c, rfl, rfl⟩⟩, rfl, ?_⟩, by simp [g2], by simpa using g3⟩
              have e : appRec ops st ⟨i, st.heap.length, some ⟨pre, .blit c, wr⟩, rids o.op (vals st.tmps (opnds o.op))⟩ = ⟨t, (st.app o.dst ⟨pre, .bool c, wr⟩).heap⟩ := by
                rw [hheap]
                simp only [appRec, hdst, St.app]
                have := putO_eq (st := ⟨st.tmps, setBs st.heap wr⟩) ht
                exact this.symm
              rw [e]; exact g1
            cases c
            · exact split1 false rfl (h3.2 rfl)
            · exact split1 true rfl (h3.1 rfl)
          · exact plainStep h3

/-- Plans: for a region that draws its order: its number, an order, what comes before each operation. -/
abbrev Plans := List (Nat × List Nat × List Nat)
def findPl : Plans → Nat → Option (List Nat × List Nat)
  | [], _ => none
  | (n, x) :: r, id => match Nat.beq n id with
    | true => some x
    | false => findPl r id

def plansOK (pl : Plans) : Code → Bool
  | .region id ops draw => !draw || (match findPl pl id with | some (order, ancs) => regOK ops order ancs | none => false)
  | .seq a b => plansOK pl a && plansOK pl b
  | .cond _ a b => plansOK pl a && plansOK pl b
  | .block _ a => plansOK pl a
  | .loop a => plansOK pl a
  | _ => true

/-- What code leaves. -/
def Post (B : Nat) (bad : Nat → Prop) (w0 : World) (K : Exit → List SV → List Blk → Prop) (e : Exit) (a : Act) (w : World) : Prop :=
  ∃ st m', Dom m' st.heap.length ∧ Holds B bad w0 m' st a w ∧ K e st.tmps st.heap

/-- What is said of code that is not reckoned: a loop. -/
structure Goes (P : Program) (c : Code) (t : List SV) (h : List Blk) (K : Exit → List SV → List Blk → Prop) : Prop where
  out : ∀ B bad w0 m a w, Dom m h.length → Holds B bad w0 m ⟨t, h⟩ a w → c.wp P (Post B bad w0 K) a w

def upTo (n : Nat) : List Nat → List Oper → Option (List Nat)
  | _, [] => some []
  | n :: ns, _ :: r => match upTo 0 ns r with
    | some l => some (n :: l)
    | none => none
  | [], _ :: _ => none

/- The check on blocks, laid out to be reckoned. -/
def firsts : List (Nat × Blk) → List Nat
  | [] => []
  | (i, _) :: r => i :: firsts r
theorem firsts_eq : ∀ l : List (Nat × Blk), firsts l = l.map (·.1)
  | [] => rfl
  | (i, b) :: r => by simp [firsts, firsts_eq r]
def widsO (r : Rec) : List Nat := match r with
  | ⟨_, _, res, _⟩ => match res with
    | some ⟨_, _, wr⟩ => firsts wr
    | none => []
theorem widsO_eq (r : Rec) : widsO r = recIds r := by
  obtain ⟨i, nid, res, rds⟩ := r
  cases res with
  | none => rfl
  | some x => exact firsts_eq x.wr
def getN : List Nat → Nat → Nat
  | [], _ => 0
  | h :: t, n => match n with
    | 0 => h
    | n + 1 => getN t n
theorem getN_eq : ∀ (l : List Nat) (n : Nat), getN l n = l.getD n 0
  | [], n => by simp [getN]
  | h :: t, 0 => by simp [getN]
  | h :: t, n + 1 => by simp [getN, getN_eq t n]
def bitO (m i : Nat) : Bool := match Nat.beq (Nat.land 1 (Nat.shiftRight m i)) 0 with
  | true => false
  | false => true
theorem bitO_eq (m i : Nat) : bitO m i = m.testBit i := by
  unfold bitO Nat.testBit
  have e : Nat.land 1 (Nat.shiftRight m i) = 1 &&& m >>> i := rfl
  rw [e]
  split
  · rename_i h; rw [Nat.eq_of_beq_eq_true h]; rfl
  · rename_i h
    have := Nat.ne_of_beq_eq_false h
    symm
    exact bne_iff_ne.2 this
def ordO (ancs : List Nat) (i j : Nat) : Bool := match bitO (getN ancs j) i with
  | true => true
  | false => bitO (getN ancs i) j
theorem ordO_eq (ancs : List Nat) (i j : Nat) : ordO ancs i j = ord ancs i j := by
  unfold ordO ord
  rw [bitO_eq, bitO_eq, getN_eq, getN_eq]
  cases (ancs.getD j 0).testBit i <;> rfl
def meetO : List Nat → List Nat → Bool
  | [], _ => false
  | x :: r, l => match memN x l with
    | true => true
    | false => meetO r l
theorem meetO_eq : ∀ (a b : List Nat), meetO a b = false → ∀ x ∈ a, b.contains x = false
  | [], b, _, x, hx => by cases hx
  | y :: a, b, h, x, hx => by
    simp only [meetO] at h
    split at h
    · cases h
    · rename_i hm
      rw [memN_eq] at hm
      rcases List.mem_cons.1 hx with rfl | hx
      · exact hm
      · exact meetO_eq a b h x hx
def confA (ancs : List Nat) (i : Nat) (w : List Nat) : List Rec → Bool
  | [] => true
  | ⟨i', n', res', rds'⟩ :: rest => match Nat.beq i i' with
    | true => confA ancs i w rest
    | false => match meetO w rds' with
      | true => match ordO ancs i i' with
        | true => confA ancs i w rest
        | false => false
      | false => match meetO w (widsO ⟨i', n', res', rds'⟩) with
        | true => match ordO ancs i i' with
          | true => confA ancs i w rest
          | false => false
        | false => confA ancs i w rest
def confB (ancs : List Nat) (all : List Rec) : List Rec → Bool
  | [] => true
  | ⟨i, n, res, rds⟩ :: rest => match widsO ⟨i, n, res, rds⟩ with
    | [] => confB ancs all rest
    | x :: w => match confA ancs i (x :: w) all with
      | true => confB ancs all rest
      | false => false
theorem confA_ok {ancs : List Nat} {i : Nat} {w : List Nat} : ∀ {l : List Rec}, confA ancs i w l = true → ∀ r' ∈ l, (Nat.beq i r'.i || w.all (fun id => !(r'.rds.contains id || (recIds r').contains id)) || ord ancs i r'.i) = true
  | [], _, r', hr => by cases hr
  | ⟨i', n', res', rds'⟩ :: rest, h, r', hr => by
    simp only [confA] at h
    have key : ∀ (b : Bool), (b = true → (Nat.beq i i' || w.all (fun id => !(rds'.contains id || (recIds ⟨i', n', res', rds'⟩).contains id)) || ord ancs i i') = true) → confA ancs i w rest = true → b = true →
        (Nat.beq i r'.i || w.all (fun id => !(r'.rds.contains id || (recIds r').contains id)) || ord ancs i r'.i) = true := fun b h1 h2 h3 => by
      rcases List.mem_cons.1 hr with rfl | hr
      · exact h1 h3
      · exact confA_ok h2 r' hr
    split at h
    · rename_i hb; exact key true (fun _ => by simp [hb]) h rfl
    · split at h
      · split at h
        · rename_i ho; rw [ordO_eq] at ho; exact key true (fun _ => by simp [ho]) h rfl
        · cases h
      · rename_i hm1
        split at h
        · split at h
          · rename_i ho; rw [ordO_eq] at ho; exact key true (fun _ => by simp [ho]) h rfl
          · cases h
        · rename_i hm2
          refine key true (fun _ => ?_) h rfl
          rw [widsO_eq] at hm2
          have : w.all (fun id => !(rds'.contains id || (recIds ⟨i', n', res', rds'⟩).contains id)) = true := List.all_eq_true.2 fun x hx => by
            rw [meetO_eq w _ hm1 x hx, meetO_eq w _ hm2 x hx]; rfl
          rw [this]; simp
theorem confB_ok {ancs : List Nat} {all : List Rec} : ∀ {l : List Rec}, confB ancs all l = true → ∀ r ∈ l, ((recIds r).isEmpty || all.all fun r' => Nat.beq r.i r'.i || (recIds r).all (fun id => !(r'.rds.contains id || (recIds r').contains id)) || ord ancs r.i r'.i) = true
  | [], _, r, hr => by cases hr
  | ⟨i, n, res, rds⟩ :: rest, h, r, hr => by
    simp only [confB] at h
    split at h
    · rename_i hw
      rcases List.mem_cons.1 hr with rfl | hr
      · rw [← widsO_eq, hw]; rfl
      · exact confB_ok h r hr
    · rename_i x w hw
      split at h
      · rename_i ha
        rcases List.mem_cons.1 hr with rfl | hr
        · rw [← widsO_eq, hw]
          have : (all.all fun r' => Nat.beq i r'.i || (x :: w).all (fun id => !(r'.rds.contains id || (recIds r').contains id)) || ord ancs i r'.i) = true := List.all_eq_true.2 (confA_ok ha)
          rw [this]; simp
        · exact confB_ok h r hr
      · cases h
theorem confB_conf {ancs : List Nat} {rs : List Rec} (h : confB ancs rs rs = true) : confOK ancs rs.reverse = true := by
  unfold confOK
  rw [List.all_reverse]
  refine List.all_eq_true.2 fun r hr => ?_
  have := confB_ok h r hr
  rw [List.all_reverse]
  exact this

abbrev KE := Exit → List SV → List Blk → Prop
noncomputable def evReg (T : Tab) (C : List Con) (pl : Plans) (id : Nat) (ops : Array Oper) (draw : Bool) (t : List SV) (h : List Blk) (K : KE) : Prop :=
  match draw with
  | false => match upTo 0 nats ops.toList with
    | some order => evRun T C ops.toList order t h [] fun _ t' h' => K .normal t' h'
    | none => False
  | true => match findPl pl id with
    | some (order, ancs) => evRun T C ops.toList order t h [] fun recs t' h' => match confB ancs recs recs with
      | true => K .normal t' h'
      | false => False
    | none => False
noncomputable def EV (P : Program) (T : Tab) (C : List Con) (pl : Plans) (c : Code) : List SV → List Blk → KE → Prop :=
  Code.rec (motive := fun _ => List SV → List Blk → KE → Prop)
    (fun t h K => K .normal t h)
    (fun id ops draw => evReg T C pl id ops draw)
    (fun _ _ ia ib t h K => ia t h fun e t' h' => match e with
      | .normal => ib t' h' K
      | e => K e t' h')
    (fun c _ _ ia ib t h K => match evO t c with
      | some (.blit x) => match x with
        | true => ia t h K
        | false => ib t h K
      | some (.bool x) => (x = true → ia t h K) ∧ (x = false → ib t h K)
      | _ => False)
    (fun id _ ia t h K => ia t h fun e t' h' => match e with
      | .exit id' => match Nat.beq id' id with
        | true => K .normal t' h'
        | false => K (.exit id') t' h'
      | e => K e t' h')
    (fun c _ t h K => Goes P (.loop c) t h K)
    (fun _ _ _ _ _ _ _ _ _ => False)
    (fun id t h K => K (.exit id) t h)
    (fun _ _ _ _ _ => False)
    (fun _ t h K => K .normal t h)
    (fun _ _ _ _ => False)
    (fun t h K => K .ret t h)
    (fun _ _ _ _ => False)
    c

theorem upTo_gen : ∀ {l : List Oper} {ns : List Nat} {b n : Nat} {r : List Nat}, (∀ i k, ns[i]? = some k → k = b + i) → upTo n ns l = some r → r = List.range' b l.length
  | [], ns, b, n, r, h, he => by
    have : some ([] : List Nat) = some r := by cases ns <;> exact he
    cases this; rfl
  | o :: l, k :: ns, b, n, r, h, he => by
    simp only [upTo] at he
    split at he
    · rename_i r' hr; cases he
      rw [upTo_gen (b := b + 1) (fun i k hi => by rw [h (i + 1) k (by simpa using hi)]; omega) hr, h 0 k rfl]
      simp [List.range'_succ]
    · cases he
  | o :: l, [], b, n, r, h, he => by simp [upTo] at he
theorem upTo_eq {ops : Array Oper} {r : List Nat} (h : upTo 0 nats ops.toList = some r) : r = List.range ops.size := by
  rw [upTo_gen nats_get h, List.range_eq_range']; simp

/-- THE RECKONING IS SOUND. -/
theorem EV_sound {P : Program} {T : Tab} {C : List Con} {pl : Plans} (hT : T.Ok P) (hC : Cons.Ok P C) (hm : P.follows .mixedOrders = true) : ∀ (c : Code) (t : List SV) (h : List Blk) (K : Exit → List SV → List Blk → Prop), plansOK pl c = true → EV P T C pl c t h K → Goes P c t h K := by
  intro c
  induction c with
  | skip => exact fun t h K _ hk => ⟨fun B bad w0 m a w hd H => wp_skip ⟨⟨t, h⟩, m, hd, H, hk⟩⟩
  | ret => exact fun t h K _ hk => ⟨fun B bad w0 m a w hd H => wp_ret ⟨⟨t, h⟩, m, hd, H, hk⟩⟩
  | exit id => exact fun t h K _ hk => ⟨fun B bad w0 m a w hd H => wp_exit ⟨⟨t, h⟩, m, hd, H, hk⟩⟩
  | label l => exact fun t h K _ hk => ⟨fun B bad w0 m a w hd H => wp_label ⟨⟨t, h⟩, m, hd, H, hk⟩⟩
  | seq x y ihx ihy =>
    intro t h K hpl hk
    simp only [plansOK, Bool.and_eq_true] at hpl
    refine ⟨fun B bad w0 m a w hd H => wp_seq (wp_mono ((ihx t h _ hpl.1 hk).out B bad w0 m a w hd H) fun e a' w' hq => ?_)⟩
    obtain ⟨st', m', h2, h3, h4⟩ := hq
    cases e with
    | normal =>
      exact (ihy st'.tmps st'.heap K hpl.2 h4).out B bad w0 m' a' w' h2 h3
    | _ => exact ⟨st', m', h2, h3, h4⟩
  | block id x ih =>
    intro t h K hpl hk
    refine ⟨fun B bad w0 m a w hd H => wp_block (wp_mono ((ih t h _ hpl hk).out B bad w0 m a w hd H) fun e a' w' hq => ?_)⟩
    obtain ⟨st', m', h2, h3, h4⟩ := hq
    cases e with
    | exit id' =>
      simp only [Exit.inBlock]
      simp only at h4
      split at h4
      · rename_i hb
        rw [if_pos (Nat.eq_of_beq_eq_true hb)]
        exact ⟨st', m', h2, h3, h4⟩
      · rename_i hb
        rw [if_neg (Nat.ne_of_beq_eq_false hb)]
        exact ⟨st', m', h2, h3, h4⟩
    | _ => exact ⟨st', m', h2, h3, h4⟩
  | cond c x y ihx ihy =>
    intro t h K hpl hk
    simp only [plansOK, Bool.and_eq_true] at hpl
    refine ⟨fun B bad w0 m a w hd H => ?_⟩
    have hk : (match evO t c with
      | some (.blit z) => match z with
        | true => EV P T C pl x t h K
        | false => EV P T C pl y t h K
      | some (.bool z) => (z = true → EV P T C pl x t h K) ∧ (z = false → EV P T C pl y t h K)
      | _ => False) := hk
    split at hk
    · rename_i b hb
      have hc := evL_den H.tmp c
      rw [← evO_eq hb] at hc
      refine wp_cond (t := b) hc ?_
      cases b
      · exact (ihy t h K hpl.2 hk).out B bad w0 m a w hd H
      · exact (ihx t h K hpl.1 hk).out B bad w0 m a w hd H
    · rename_i b hb
      have hc := evL_den H.tmp c
      rw [← evO_eq hb] at hc
      refine wp_cond (t := b) hc ?_
      cases b
      · exact (ihy t h K hpl.2 (hk.2 rfl)).out B bad w0 m a w hd H
      · exact (ihx t h K hpl.1 (hk.1 rfl)).out B bad w0 m a w hd H
    · exact hk.elim
  | region id ops draw =>
    intro t h K hpl hk
    refine ⟨fun B bad w0 m a w hd H => ?_⟩
    have hk : evReg T C pl id ops draw t h K := hk
    unfold evReg at hk
    cases draw with
    | false =>
      simp only at hk
      split at hk
      rotate_left
      · exact hk.elim
      rename_i order horder
      obtain ⟨rs, st', h1, h2, h3⟩ := evRun_out (st := ⟨t, h⟩) hk
      refine wp_region ?_
      rw [← upTo_eq horder, ← h2]
      exact run_ops hT hC rs m ⟨t, h⟩ st' a w h1 hd H fun m' a' w' _ k2 k3 => ⟨st', m', k2, k3, h3⟩
    | true =>
      simp only at hk
      split at hk
      rotate_left
      · exact hk.elim
      rename_i order ancs hp
      simp only [plansOK, hp, Bool.not_true, Bool.false_or] at hpl
      obtain ⟨rs, st', h1, h2, h3⟩ := evRun_out (st := ⟨t, h⟩) hk
      split at h3
      rotate_left
      · exact h3.elim
      rename_i hconf
      have hconf := confB_conf hconf
      simp only [List.append_nil, List.reverse_reverse] at hconf
      exact wp_region_any hm (any_order hT hC hpl h1 h2 hconf hd H.drew fun m' a' w' _ k2 k3 => ⟨st', m', k2, k3, h3⟩)
  | loop x ih => exact fun t h K _ hk => hk
  | _ => exact fun t h K _ hk => hk.elim
end Go.Proofs.Ythbighklfajmdaa.Ev
