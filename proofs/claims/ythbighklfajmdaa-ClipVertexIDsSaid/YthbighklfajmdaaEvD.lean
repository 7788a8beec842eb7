/- A region in whatever order: the law. -/
import Derived.Test.YthbighklfajmdaaEvC
namespace Go.Proofs.Ythbighklfajmdaa.Ev
open Go.RowKit
set_option linter.unusedVariables false
set_option linter.unusedSimpArgs false

/-- Equal, as far as a state is read. -/
structure EqSt (s s' : St) : Prop where
  len : s.tmps.length = s'.tmps.length
  tmp : ∀ t, getL s.tmps t = getL s'.tmps t
  blk : ∀ id, getB s.heap id = getB s'.heap id
theorem EqSt.refl (s : St) : EqSt s s := ⟨rfl, fun _ => rfl, fun _ => rfl⟩
theorem EqSt.trans {a b c : St} (h : EqSt a b) (k : EqSt b c) : EqSt a c := ⟨h.len.trans k.len, fun t => (h.tmp t).trans (k.tmp t), fun i => (h.blk i).trans (k.blk i)⟩
theorem EqSt.symm {a b : St} (h : EqSt a b) : EqSt b a := ⟨h.len.symm, fun t => (h.tmp t).symm, fun i => (h.blk i).symm⟩
theorem Holds.eqSt {B : Nat} {bad : Nat → Prop} {w0 : World} {m : Map} {s s' : St} {a : Act} {w : World} (h : Holds B bad w0 m s a w) (e : EqSt s s') : Holds B bad w0 m s' a w :=
  h.ext (Nat.le_of_eq e.len.symm) (fun t => (e.tmp t).symm) (fun i => (e.blk i).symm)

section
variable {ops : Array Oper}

def recVal (r : Rec) : SV := match r.res with | some x => x.val | none => .cst undef
def wrVal : List (Nat × Blk) → Nat → Blk
  | [], _ => .dead
  | (i, b) :: r, id => if id ∈ r.map (·.1) then wrVal r id else if i = id then b else .dead
def recBlk (r : Rec) (id : Nat) : Blk := match r.res with | some x => wrVal x.wr id | none => .dead

theorem getB_wr : ∀ (wr : List (Nat × Blk)) (h : List Blk) (id : Nat), getB (setBs h wr) id = if id ∈ wr.map (·.1) then wrVal wr id else getB h id
  | [], h, id => by simp [setBs]
  | (i, b) :: wr, h, id => by
    simp only [setBs, getB_wr wr, List.map_cons, List.mem_cons, wrVal, getB_setB]
    by_cases h1 : id ∈ wr.map (·.1)
    · simp [h1]
    · by_cases h2 : id = i
      · subst h2; simp [h1]
      · simp [h1, h2]

theorem appRec_tmp (s : St) (r : Rec) (t : Nat) : getL (appRec ops s r).tmps t = if dstOf ops r.i = some t ∧ t < s.tmps.length then recVal r else getL s.tmps t := by
  have key : ∀ (s' : St) (v : SV), s'.tmps = s.tmps → getL (s'.put (dstOf ops r.i) v).tmps t = if dstOf ops r.i = some t ∧ t < s.tmps.length then v else getL s.tmps t := fun s' v e => by
    cases hd : dstOf ops r.i with
    | none => simp [St.put, e]
    | some d =>
      simp only [St.put, getL_setL, e, Option.some.injEq]
      by_cases h : t = d
      · subst h; simp
      · have h' : ¬ d = t := fun e => h e.symm
        simp [h, h']
  unfold appRec recVal
  cases hr : r.res with
  | none => exact key s (.cst undef) rfl
  | some x => exact key ⟨s.tmps, setBs s.heap x.wr⟩ x.val rfl
theorem appRec_blk (s : St) (r : Rec) (id : Nat) : getB (appRec ops s r).heap id = if id ∈ recIds r then recBlk r id else getB s.heap id := by
  rw [appRec_heap]
  unfold recIds recBlk
  cases hr : r.res with
  | none => simp
  | some x => exact getB_wr _ _ _

theorem appRec_congr {s s' : St} (h : EqSt s s') (r : Rec) : EqSt (appRec ops s r) (appRec ops s' r) :=
  ⟨by rw [appRec_len, appRec_len, h.len], fun t => by rw [appRec_tmp, appRec_tmp, h.tmp, h.len], fun id => by rw [appRec_blk, appRec_blk, h.blk]⟩

/-- They write nothing in common. -/
def Apart (ops : Array Oper) (r r' : Rec) : Prop := (∀ t, dstOf ops r.i = some t → dstOf ops r'.i ≠ some t) ∧ ∀ id ∈ recIds r, id ∉ recIds r'

theorem appRec_comm {r r' : Rec} (h : Apart ops r r') (s : St) : EqSt (appRec ops (appRec ops s r) r') (appRec ops (appRec ops s r') r) := by
  refine ⟨by simp only [appRec_len], fun t => ?_, fun id => ?_⟩
  · simp only [appRec_tmp, appRec_len]
    by_cases h1 : dstOf ops r.i = some t
    · have h2 := h.1 t h1
      simp [h1, h2]
    · simp [h1]
  · simp only [appRec_blk]
    by_cases h1 : id ∈ recIds r
    · have h2 := h.2 id h1
      simp [h1, h2]
    · simp [h1]

/-- The state behind those that L names. -/
def stL (ops : Array Oper) (L : Nat → Bool) : List Rec → St → St
  | [], s => s
  | r :: rs, s => stL ops L rs (if L r.i then appRec ops s r else s)

theorem stL_append (L : Nat → Bool) : ∀ (x y : List Rec) (s : St), stL ops L (x ++ y) s = stL ops L y (stL ops L x s)
  | [], y, s => rfl
  | r :: x, y, s => by simp only [List.cons_append, stL, stL_append L x y]
theorem stL_congr (L : Nat → Bool) : ∀ (rs : List Rec) {s s' : St}, EqSt s s' → EqSt (stL ops L rs s) (stL ops L rs s')
  | [], s, s', h => h
  | r :: rs, s, s', h => by
    simp only [stL]
    split
    · exact stL_congr L rs (appRec_congr h r)
    · exact stL_congr L rs h
theorem stL_len (L : Nat → Bool) : ∀ (rs : List Rec) (s : St), (stL ops L rs s).tmps.length = s.tmps.length
  | [], s => rfl
  | r :: rs, s => by
    simp only [stL, stL_len L rs]
    split
    · rw [appRec_len]
    · rfl
theorem stL_eq {L L' : Nat → Bool} : ∀ (rs : List Rec) (s : St), (∀ r ∈ rs, L r.i = L' r.i) → stL ops L rs s = stL ops L' rs s
  | [], s, h => rfl
  | r :: rs, s, h => by
    simp only [stL]
    rw [h r (by simp), stL_eq rs _ (fun x hx => h x (by simp [hx]))]

/-- A slot that no operation writes in which L and L' differ. -/
theorem stL_tmp {L L' : Nat → Bool} {t : Nat} : ∀ (rs : List Rec) (s s' : St), s.tmps.length = s'.tmps.length → getL s.tmps t = getL s'.tmps t → (∀ r ∈ rs, L r.i ≠ L' r.i → dstOf ops r.i ≠ some t) →
    getL (stL ops L rs s).tmps t = getL (stL ops L' rs s').tmps t
  | [], s, s', hl, h, _ => h
  | r :: rs, s, s', hl, h, hn => by
    simp only [stL]
    refine stL_tmp rs _ _ ?_ ?_ (fun x hx => hn x (by simp [hx]))
    · split <;> split <;> simp [appRec_len, hl]
    · by_cases e : L r.i = L' r.i
      · rw [e]
        split
        · rw [appRec_tmp, appRec_tmp, hl, h]
        · exact h
      · have hd := hn r (by simp) e
        have h1 : ∀ x : St, getL (appRec ops x r).tmps t = getL x.tmps t := fun x => by rw [appRec_tmp, if_neg (fun c => hd c.1)]
        split <;> split <;> simp [h1, h]
theorem stL_blk {L L' : Nat → Bool} {id : Nat} : ∀ (rs : List Rec) (s s' : St), getB s.heap id = getB s'.heap id → (∀ r ∈ rs, L r.i ≠ L' r.i → id ∉ recIds r) →
    getB (stL ops L rs s).heap id = getB (stL ops L' rs s').heap id
  | [], s, s', h, _ => h
  | r :: rs, s, s', h, hn => by
    simp only [stL]
    refine stL_blk rs _ _ ?_ (fun x hx => hn x (by simp [hx]))
    by_cases e : L r.i = L' r.i
    · rw [e]
      split
      · rw [appRec_blk, appRec_blk, h]
      · exact h
    · have hd := hn r (by simp) e
      have h1 : ∀ x : St, getB (appRec ops x r).heap id = getB x.heap id := fun x => by rw [appRec_blk, if_neg hd]
      split <;> split <;> simp [h1, h]

/-- One more, behind others that are apart from it. -/
theorem stL_later {L : Nat → Bool} {r0 : Rec} : ∀ (rs : List Rec) (s : St), (∀ r ∈ rs, L r.i = true → Apart ops r0 r) → EqSt (stL ops L rs (appRec ops s r0)) (appRec ops (stL ops L rs s) r0)
  | [], s, _ => EqSt.refl _
  | r :: rs, s, h => by
    simp only [stL]
    by_cases e : L r.i = true
    · rw [if_pos e, if_pos e]
      exact (stL_congr L rs (appRec_comm (h r (by simp) e) s)).trans (stL_later rs _ (fun x hx => h x (by simp [hx])))
    · rw [if_neg e, if_neg e]
      exact stL_later rs _ (fun x hx => h x (by simp [hx]))
end

/-- Which operations come before one, whatever the order (bits). -/
def ancOK (ops : Array Oper) (ancs : List Nat) : Bool :=
  (List.range ops.size).all fun i => match ops[i]? with
    | some o => o.after.toList.all (fun e => !Region.binds .any e || Nat.blt e.on i) && Nat.beq (ancs.getD i 0) (o.after.toList.foldl (fun s e => if Region.binds .any e then s ||| 2 ^ e.on ||| ancs.getD e.on 0 else s) 0)
    | none => false

def ord (ancs : List Nat) (i j : Nat) : Bool := (ancs.getD j 0).testBit i || (ancs.getD i 0).testBit j

/-- The slots that an operation looks into. -/
def tRead (ops : Array Oper) (i : Nat) : List Nat :=
  match ops[i]? with
  | some o => (opnds o.op).filterMap (fun | .tmp t => some t | _ => none) ++ (match o.guard with
    | some (j, _) => (dstOf ops j).toList
    | none => [])
  | none => []

/-- What is checked of a region once: its order, its slots. -/
def regOK (ops : Array Oper) (order : List Nat) (ancs : List Nat) : Bool :=
  ancOK ops ancs && Nat.beq order.length ops.size && order.all (fun i => Nat.blt i ops.size) && (List.range ops.size).all (fun i => order.contains i) &&
  goesOK order [] &&
  (List.range ops.size).all fun i => match dstOf ops i with
    | none => true
    | some d => (List.range ops.size).all fun j => Nat.beq i j || !((tRead ops j).contains d || dstOf ops j == some d) || ord ancs i j
 where
  goesOK : List Nat → List Nat → Bool
    | [], _ => true
    | i :: r, seen => !seen.contains i && (match ops[i]? with
      | some o => o.after.toList.all fun e => !Region.binds .any e || seen.contains e.on
      | none => false) && goesOK r (i :: seen)

theorem anc_closed {ops : Array Oper} {ancs : List Nat} (h : ancOK ops ancs = true) {L : Nat → Bool} (hL : ∀ i o, L i = true → ops[i]? = some o → ∀ e ∈ o.after, Region.binds .any e = true → L e.on = true) :
    ∀ (n i : Nat) (o : Oper), i ≤ n → ops[i]? = some o → (∀ e ∈ o.after, Region.binds .any e = true → L e.on = true) → ∀ k, (ancs.getD i 0).testBit k = true → L k = true := by
  intro n
  induction n with
  | zero =>
    intro i o hi ho hd k hk
    have hlt : i < ops.size := (Array.getElem?_eq_some_iff.1 ho).1
    have h1 := List.all_eq_true.1 h i (List.mem_range.2 hlt)
    simp only [ho, Bool.and_eq_true] at h1
    obtain ⟨g1, g2⟩ := h1
    rw [Nat.eq_of_beq_eq_true g2] at hk
    obtain ⟨e, he, hb, hke⟩ := bits _ k hk
    have := List.all_eq_true.1 g1 e he
    simp only [hb, Bool.not_true, Bool.false_or] at this
    have := Nat.le_of_ble_eq_true this
    omega
  | succ n ih =>
    intro i o hi ho hd k hk
    have hlt : i < ops.size := (Array.getElem?_eq_some_iff.1 ho).1
    have h1 := List.all_eq_true.1 h i (List.mem_range.2 hlt)
    simp only [ho, Bool.and_eq_true] at h1
    obtain ⟨g1, g2⟩ := h1
    rw [Nat.eq_of_beq_eq_true g2] at hk
    obtain ⟨e, he, hb, hke⟩ := bits _ k hk
    have hin : e ∈ o.after := Array.mem_toList_iff.1 he
    have hon := hd e hin hb
    rcases hke with rfl | hke
    · exact hon
    · have hlt2 := List.all_eq_true.1 g1 e he
      simp only [hb, Bool.not_true, Bool.false_or] at hlt2
      have hlt2 : e.on < i := Nat.le_of_ble_eq_true hlt2
      have hsz : e.on < ops.size := by omega
      exact ih e.on ops[e.on] (by omega) (by simp [hsz]) (fun e' he' hb' => hL e.on ops[e.on] hon (by simp [hsz]) e' he' hb') k hke
 where
  bits : ∀ (l : List Edge) (k : Nat), (l.foldl (fun s e => if Region.binds .any e then s ||| 2 ^ e.on ||| ancs.getD e.on 0 else s) 0).testBit k = true → ∃ e ∈ l, Region.binds .any e = true ∧ (k = e.on ∨ (ancs.getD e.on 0).testBit k = true) := by
    have gen : ∀ (l : List Edge) (s k : Nat), (l.foldl (fun s e => if Region.binds .any e then s ||| 2 ^ e.on ||| ancs.getD e.on 0 else s) s).testBit k = true → s.testBit k = true ∨ ∃ e ∈ l, Region.binds .any e = true ∧ (k = e.on ∨ (ancs.getD e.on 0).testBit k = true) := by
      intro l
      induction l with
      | nil => intro s k hk; exact Or.inl hk
      | cons e l ih =>
        intro s k hk
        simp only [List.foldl_cons] at hk
        rcases ih _ k hk with h1 | ⟨e', he', h2⟩
        · split at h1
          · rename_i hb
            simp only [Nat.testBit_or, Bool.or_eq_true, Nat.testBit_two_pow, decide_eq_true_eq] at h1
            rcases h1 with (h1 | h1) | h1
            · exact Or.inl h1
            · exact Or.inr ⟨e, by simp, hb, Or.inl h1.symm⟩
            · exact Or.inr ⟨e, by simp, hb, Or.inr h1⟩
          · exact Or.inl h1
        · exact Or.inr ⟨e', by simp [he'], h2⟩
    intro l k hk
    rcases gen l 0 k hk with h1 | h1
    · simp at h1
    · exact h1
end Go.Proofs.Ythbighklfajmdaa.Ev
