/- The reckoning: contracts of functions that look into rows that are only read, however deep; function values as arguments. The reckoning, laid to a function that appends to a slice in a box of its caller's own. The reckoning: contracts of functions that append to a slice in a box of their caller's own. -/
import Derived.Test.YtohjifnkajhhnaaGreatEvW
namespace Go.Proofs.YtohjifnkajhhnaaGreat.Ev
open Go.RowKit
set_option linter.unusedVariables false
set_option linter.unusedSimpArgs false

/-- One cell of an argument: a number, a truth, or a slice (nil or not; its rows). -/
structure DV where
  i : Int
  b : Bool
  nl : Bool
  D : DT
mutual
def eqC : Col → Col → Bool
  | .i k, d => match d with
    | .i k' => decide (k = k')
    | _ => false
  | .b, d => match d with
    | .b => true
    | _ => false
  | .s cs, d => match d with
    | .s cs' => eqCs cs cs'
    | _ => false
def eqCs : List Col → List Col → Bool
  | [], l => match l with
    | [] => true
    | _ => false
  | c :: r, l => match l with
    | [] => false
    | d :: t => match eqC c d with
      | true => eqCs r t
      | false => false
end
mutual
theorem eqC_eq : ∀ {c d : Col}, eqC c d = true → d = c
  | .i k, d, h => by
    unfold eqC at h
    split at h
    · rw [of_decide_eq_true h]
    · cases h
  | .b, d, h => by
    unfold eqC at h
    split at h
    · rfl
    · cases h
  | .s cs, d, h => by
    unfold eqC at h
    split at h
    · rw [eqCs_eq h]
    · cases h
theorem eqCs_eq : ∀ {c d : List Col}, eqCs c d = true → d = c
  | [], l, h => by
    unfold eqCs at h
    split at h
    · rfl
    · cases h
  | c :: r, l, h => by
    unfold eqCs at h
    split at h
    · cases h
    · split at h
      · rename_i h1
        rw [eqC_eq h1, eqCs_eq h]
      · cases h
end
/-- The shape of an argument: one cell; a struct; a pointer to a struct in a box; a function with the boxes that it has captured; a slice of rows of intsC (of the caller's own, or not). -/
inductive Ar where
  | c (c : Col)
  | st (cs : List Col)
  | pt (cs : List Col)
  | fn (f : Nat) (cs : List (List Col))
  | rw (esz : Nat)
  /-- a slice of two such slices -/
  | r2 (esz : Nat)

def cellD (c : Col) (s : SV) : Option DV :=
  match c with
  | .i k => match toN s with
    | some (k', n, _) => match decide (k' = k) with
      | true => some ⟨n, false, true, .no⟩
      | false => none
    | none => none
  | .b => match toB s with
    | some b => some ⟨0, b, true, .no⟩
    | none => none
  | .s cols => match s with
    | .ds nil cols' D => match eqCs cols cols' with
      | true => some ⟨0, false, nil, D⟩
      | false => none
    | .nils => some ⟨0, false, true, .no⟩
    | _ => none
def cellsD : List Col → List SV → Option (List DV)
  | [], l => match l with
    | [] => some []
    | _ => none
  | c :: cs, l => match l with
    | [] => none
    | s :: r => match cellD c s with
      | some d => match cellsD cs r with
        | some ds => some (d :: ds)
        | none => none
      | none => none
def appV : List DV → List DV → List DV
  | [], l => l
  | x :: r, l => x :: appV r l
theorem appV_eq : ∀ (x y : List DV), appV x y = x ++ y
  | [], y => rfl
  | x :: r, y => by simp [appV, appV_eq r y]
/-- The cells behind a pointer. -/
def boxS (rd : Nat → Blk) (s : SV) (cs : List Col) : Option (List DV) :=
  match s with
  | .ptr id off => match rd id with
    | .cells l => match takeN l off cs.length with
      | some l' => cellsD cs l'
      | none => none
    | _ => none
  | .dp cols D i j => match cutC cols j cs.length with
    | some l => match eqCs cs l with
      | true => match mkC D i l j with
        | some l' => cellsD cs l'
        | none => none
      | false => none
    | none => none
  | _ => none
def boxesS (rd : Nat → Blk) : List SV → List (List Col) → Option (List DV)
  | l, [] => match l with
    | [] => some []
    | _ => none
  | l, c :: cs => match l with
    | [] => none
    | s :: r => match boxS rd s c with
      | some d => match boxesS rd r cs with
        | some ds => some (appV d ds)
        | none => none
      | none => none
def intsC : Nat → List Col
  | 0 => []
  | n + 1 => .i .i64 :: intsC n
/-- Rows of intsC, that lie there. -/
def rowT (pb po : Nat) (xs : List (List Int)) : DT := .mk xs.length pb po (at2 xs) (fun _ _ => false) (fun _ _ => true) (fun _ _ => .no)
def DT.at (pb po : Nat) (D : DT) : DT := .mk D.n pb po D.ci D.cb D.cn D.cs
/-- A row of two slices. -/
def twoT (pb po : Nat) (n0 : Bool) (D0 : DT) (n1 : Bool) (D1 : DT) : DT := .mk 2 pb po (fun _ _ => 0) (fun _ _ => false) (fun i _ => match i with | 0 => n0 | _ + 1 => n1) (fun i _ => match i with | 0 => D0 | _ + 1 => D1)
/-- The rows of an argument. -/
def rowD (rd : Nat → Blk) (s : SV) (esz : Nat) : Option (DV × List Prop) :=
  match s with
  | .ds nil cols D => match colsI cols esz with
    | true => some (⟨0, false, nil, D⟩, [])
    | false => none
  | s => match rowsOfG rd s esz with
    | some (x, ps) => some (⟨0, false, x.1, rowT 0 0 x.2⟩, ps)
    | none => none
def argD (rd : Nat → Blk) (a : Ar) (s : SV) : Option (List DV × List Prop) :=
  match a with
  | .c c => match cellD c s with
    | some d => some ([d], [])
    | none => none
  | .st cs => match s with
    | .agg l => match cellsD cs l with
      | some d => some (d, [])
      | none => none
    | _ => none
  | .pt cs => match boxS rd s cs with
    | some d => some (d, [])
    | none => none
  | .fn f cs => match s with
    | .clo g caps => match Nat.beq f g with
      | true => match boxesS rd caps cs with
        | some d => some (d, [])
        | none => none
      | false => none
    | .cst v => match v with
      | .func h a b => match h with
        | .func g => match Nat.beq f g && Nat.beq a.size 0 && Nat.beq b.size 0 with
          | true => match cs with
            | [] => some ([], [])
            | _ => none
          | false => none
        | _ => none
      | _ => none
    | _ => none
  | .rw esz => match rowD rd s esz with
    | some (d, ps) => some ([d], ps)
    | none => none
  | .r2 esz => match s with
    | .sl id e off len => match rd id with
      | .cells cs => match cs with
        | [s0, s1] => match Nat.beq e 1 && Nat.beq off 0 && Nat.beq len 2 with
          | true => match rowD rd s0 esz with
            | some (x, ps) => match rowD rd s1 esz with
              | some (y, qs) => some ([x, y], appP ps qs)
              | none => none
            | none => none
          | false => none
        | _ => none
      | _ => none
    | _ => none
def flatD (rd : Nat → Blk) : List Ar → List SV → Option (List DV × List Prop)
  | [], l => match l with
    | [] => some ([], [])
    | _ => none
  | a :: as, l => match l with
    | [] => none
    | s :: r => match argD rd a s with
      | some (d, p) => match flatD rd as r with
        | some (ds, ps) => some (appV d ds, appP p ps)
        | none => none
      | none => none

/- The arguments as the callee sees them. -/
def mkCell (c : Col) (d : DV) : SV :=
  match c with
  | .i k => .int k d.i
  | .b => .bool d.b
  | .s cols => .ds d.nl cols d.D
def takeV : List Col → List DV → Option (List SV × List DV)
  | [], l => some ([], l)
  | c :: cs, l => match l with
    | [] => none
    | d :: r => match takeV cs r with
      | some (a, b) => some (mkCell c d :: a, b)
      | none => none
def getV : List DV → Nat → DV
  | [], _ => ⟨0, false, true, .no⟩
  | d :: r, n => match n with
    | 0 => d
    | n + 1 => getV r n
/-- The box that holds these cells. -/
def boxT (pb po : Nat) (l : List DV) : DT := .mk 1 pb po (fun _ j => (getV l j).i) (fun _ j => (getV l j).b) (fun _ j => (getV l j).nl) (fun _ j => (getV l j).D)
def dropV : List Col → List DV → Option (List DV × List DV)
  | [], l => some ([], l)
  | c :: cs, l => match l with
    | [] => none
    | d :: r => match dropV cs r with
      | some (a, b) => some (d :: a, b)
      | none => none
def mkBoxes : List (List Col) → List (Nat × Nat) → List DV → Option (List SV × List (Nat × Nat) × List DV)
  | [], ps, l => some ([], ps, l)
  | c :: cs, ps, l => match ps with
    | [] => none
    | p :: ps => match dropV c l with
      | none => none
      | some (a, b) => match mkBoxes cs ps b with
        | some (x, y, z) => some (.dp c (boxT p.1 p.2 a) 0 0 :: x, y, z)
        | none => none
/-- One argument, the places that are left, the letters that are left. -/
def mkArg (a : Ar) (ps : List (Nat × Nat)) (l : List DV) : Option (SV × List (Nat × Nat) × List DV) :=
  match a with
  | .c c => match l with
    | [] => none
    | d :: r => some (mkCell c d, ps, r)
  | .st cs => match takeV cs l with
    | none => none
    | some (x, r) => some (.agg x, ps, r)
  | .pt cs => match ps with
    | [] => none
    | p :: ps => match dropV cs l with
      | none => none
      | some (x, r) => some (.dp cs (boxT p.1 p.2 x) 0 0, ps, r)
  | .fn f cs => match mkBoxes cs ps l with
    | none => none
    | some (x, ps, r) => some (.clo f x, ps, r)
  | .rw esz => match ps with
    | [] => none
    | p :: ps => match l with
      | [] => none
      | d :: r => some (.ds d.nl (intsC esz) (d.D.at p.1 p.2), ps, r)
  | .r2 esz => match ps with
    | [] => none
    | p :: ps => match ps with
      | [] => none
      | p1 :: ps => match ps with
        | [] => none
        | p2 :: ps => match l with
          | [] => none
          | d :: l => match l with
            | [] => none
            | d' :: r => some (.ds false [.s (intsC esz)] (twoT p.1 p.2 d.nl (d.D.at p1.1 p1.2) d'.nl (d'.D.at p2.1 p2.2)), ps, r)
def mkArgsD : List Ar → List (Nat × Nat) → List DV → Option (List SV)
  | [], _, l => match l with
    | [] => some []
    | _ => none
  | a :: as, ps, l => match mkArg a ps l with
    | none => none
    | some (x, ps, r) => match mkArgsD as ps r with
      | none => none
      | some y => some (x :: y)
def totC : List (List Col) → Nat
  | [] => 0
  | c :: r => c.length + totC r
def totA (a : Ar) : Nat :=
  match a with
  | .c _ => 1
  | .st cs => cs.length
  | .pt cs => cs.length
  | .fn _ cs => totC cs
  | .rw _ => 1
  | .r2 _ => 2
def totD : List Ar → Nat
  | [] => 0
  | a :: as => totA a + totD as
def boxA (a : Ar) : Nat :=
  match a with
  | .c _ => 0
  | .st _ => 0
  | .pt _ => 1
  | .fn _ cs => cs.length
  | .rw _ => 1
  | .r2 _ => 3
def boxD : List Ar → Nat
  | [] => 0
  | a :: as => boxA a + boxD as

/-- What one cell of an argument says of a value. -/
def DvV (sn : Nat → Option Obj) (c : Col) (d : DV) (v : Value) : Prop :=
  match c with
  | .i k => v = .int k d.i
  | .b => v = .bool d.b
  | .s cols => DsV sn d.nl cols d.D v
def DvVs (sn : Nat → Option Obj) : List Col → List DV → List Value → Prop
  | [], ds, vs => ds = [] ∧ vs = []
  | c :: cs, ds, vs => match ds, vs with
    | d :: ds, v :: vs => DvV sn c d v ∧ DvVs sn cs ds vs
    | _, _ => False
section
variable {m m1 : Map} {w : World} {rd : Nat → Blk}
theorem cellD_den (hs : ∀ b o, m.q.sn b = some o → m1.q.sn b = some o) {c : Col} {s : SV} {d : DV} {v : Value} (h : cellD c s = some d) (hd : DenS m s v) : DvV m1.q.sn c d v := by
  unfold cellD at h
  split at h
  · split at h
    rotate_left
    · cases h
    rename_i k' n u hn
    split at h
    rotate_left
    · cases h
    rename_i hk
    obtain rfl := of_decide_eq_true hk
    cases h
    exact toN_den hn hd.a.d
  · split at h
    rotate_left
    · cases h
    rename_i b hb
    cases h
    exact toB_den hb hd.a.d
  · split at h
    · split at h
      rotate_left
      · cases h
      rename_i hc
      cases h
      obtain rfl := eqCs_eq hc
      exact DsV.mono hs hd
    · cases h
      exact ⟨fun _ => ⟨hd, rfl⟩, fun e => (by cases e)⟩
    · cases h
theorem cellsD_den (hs : ∀ b o, m.q.sn b = some o → m1.q.sn b = some o) : ∀ {cs : List Col} {l : List SV} {ds : List DV} {vs : List Value}, cellsD cs l = some ds → All2 (DenS m) l vs → DvVs m1.q.sn cs ds vs
  | [], l, ds, vs, h, hd => by
    simp only [cellsD] at h
    split at h
    · cases h
      cases vs with
      | nil => exact ⟨rfl, rfl⟩
      | cons => exact hd.elim
    · cases h
  | c :: cs, l, ds, vs, h, hd => by
    simp only [cellsD] at h
    split at h
    · cases h
    rename_i s r
    split at h
    rotate_left
    · cases h
    rename_i d hc
    split at h
    rotate_left
    · cases h
    rename_i ds' hcs
    cases h
    cases vs with
    | nil => exact hd.elim
    | cons v vs => exact ⟨cellD_den hs hc hd.1, cellsD_den hs hcs hd.2⟩
theorem DvVs.len {sn : Nat → Option Obj} : ∀ {cs : List Col} {ds : List DV} {vs : List Value}, DvVs sn cs ds vs → ds.length = cs.length ∧ vs.length = cs.length
  | [], ds, vs, h => by obtain ⟨rfl, rfl⟩ := h; exact ⟨rfl, rfl⟩
  | c :: cs, [], vs, h => h.elim
  | c :: cs, d :: ds, [], h => h.elim
  | c :: cs, d :: ds, v :: vs, h => by
    obtain ⟨h1, h2⟩ := DvVs.len (cs := cs) h.2
    exact ⟨by simp [h1], by simp [h2]⟩
theorem DvVs.get {sn : Nat → Option Obj} : ∀ {cs : List Col} {ds : List DV} {vs : List Value}, DvVs sn cs ds vs → ∀ j c, cs[j]? = some c → ∃ v, vs[j]? = some v ∧ DvV sn c (getV ds j) v
  | [], ds, vs, h, j, c, hc => by simp at hc
  | c :: cs, [], vs, h, _, _, _ => h.elim
  | c :: cs, d :: ds, [], h, _, _, _ => h.elim
  | c :: cs, d :: ds, v :: vs, h, 0, c', hc => by
    simp at hc
    subst hc
    exact ⟨v, rfl, h.1⟩
  | c :: cs, d :: ds, v :: vs, h, j + 1, c', hc => by
    simp at hc
    simpa [getV] using DvVs.get h.2 j c' hc
theorem DvV.den {c : Col} {d : DV} {v : Value} (h : DvV m1.q.sn c d v) : DenS m1 (mkCell c d) v := by
  cases c with
  | i k => exact h
  | b => exact h
  | s cols => exact h
theorem takeV_den : ∀ {cs : List Col} {ds : List DV} {vs : List Value}, DvVs m1.q.sn cs ds vs → ∀ r, ∃ ss, takeV cs (ds ++ r) = some (ss, r) ∧ All2 (DenS m1) ss vs
  | [], ds, vs, h, r => by obtain ⟨rfl, rfl⟩ := h; exact ⟨[], rfl, trivial⟩
  | c :: cs, [], vs, h, r => h.elim
  | c :: cs, d :: ds, [], h, r => h.elim
  | c :: cs, d :: ds, v :: vs, h, r => by
    obtain ⟨ss, h1, h2⟩ := takeV_den h.2 r
    exact ⟨mkCell c d :: ss, by simp only [List.cons_append, takeV, h1], h.1.den, h2⟩
theorem dropV_app : ∀ {cs : List Col} {ds : List DV} (r : List DV), ds.length = cs.length → dropV cs (ds ++ r) = some (ds, r)
  | [], ds, r, h => by obtain rfl := List.eq_nil_of_length_eq_zero h; rfl
  | c :: cs, [], r, h => by simp at h
  | c :: cs, d :: ds, r, h => by simp only [List.cons_append, dropV, dropV_app r (by simpa using h)]

/-- A box of such cells is a row of one element. -/
theorem boxT_at {sn : Nat → Option Obj} {cs : List Col} {ds : List DV} {vs : List Value} {pb po : Nat} {ws : Array Value} {ty : TypeId} {fr : Nat × Nat} (h1 : sn pb = some (.cells ws ty fr)) (h : DvVs sn cs ds vs) (hv : ∀ j v, vs[j]? = some v → ws[po + j]? = some v) : DAt sn (boxT pb po ds) cs :=
  DAt.of h1 fun i j c hi hc => by
    obtain rfl : i = 0 := by omega
    obtain ⟨v, e1, e2⟩ := h.get j c hc
    refine ⟨v, by simpa using hv j v e1, ?_⟩
    cases c with
    | i k => exact e2
    | b => exact e2
    | s cols => exact e2
theorem boxS_den (hB : ∀ id, BlkH m id w (rd id)) (hs : ∀ b o, m.q.sn b = some o → m1.q.sn b = some o) (hw : ∀ id l o, (rd id).live = true → m id = some l → w.heap[l.b]? = some o → m1.q.sn l.b = some o) {s : SV} {cs : List Col} {ds : List DV} {v : Value} (h : boxS rd s cs = some ds) (hd : DenS m s v) :
    ds.length = cs.length ∧ ∃ p : Nat × Nat, DAt m1.q.sn (boxT p.1 p.2 ds) cs ∧ v = .pointer (some ⟨p.1, p.2, none⟩) := by
  unfold boxS at h
  split at h
  · rename_i id off
    split at h
    rotate_left
    · cases h
    rename_i l hrd
    split at h
    rotate_left
    · cases h
    rename_i l' hl
    obtain ⟨rfl, hle⟩ := takeN_eq hl
    have hb := hB id
    rw [hrd] at hb
    obtain ⟨q, vs, ty, hm, ho, hh, hall⟩ := hb
    obtain ⟨q', hm', rfl⟩ := hd
    rw [hm] at hm'
    cases hm'
    have hx := cellsD_den (m1 := m1) hs h ((hall.drop off).take cs.length)
    refine ⟨hx.len.1, (q.b, q.o + off), boxT_at (hw id q _ (by rw [hrd]; rfl) hm hh) hx (fun j v hj => ?_), rfl⟩
    rw [ho]
    have hj' : j < cs.length := by have := (List.getElem?_eq_some_iff.1 hj).1; rw [hx.len.2] at this; exact this
    rw [List.getElem?_take_of_lt hj', List.getElem?_drop] at hj
    simpa using hj
  · rename_i cols D i j
    split at h
    rotate_left
    · cases h
    rename_i l hl
    split at h
    rotate_left
    · cases h
    rename_i he
    obtain rfl := eqCs_eq he
    split at h
    rotate_left
    · cases h
    rename_i l' hmk
    obtain ⟨hcut, hlen⟩ := cutC_eq hl
    obtain ⟨hl1, hl2⟩ := mkC_get hmk
    obtain ⟨hD, hi, rfl⟩ := hd
    obtain ⟨ws, ty, fr, e1, e2⟩ := hD.cell
    have hcs : ∀ k c, l[k]? = some c → cols[j + k]? = some c := fun k c hk => by
      have hk' := (List.getElem?_eq_some_iff.1 hk).1
      rw [hcut, List.getElem?_take_of_lt hk', List.getElem?_drop] at hk
      exact hk
    have hcell : ∀ k c, l[k]? = some c → ∃ v, ws[D.po + (i * cols.length + j) + k]? = some v ∧ DcV m.q.sn D i (j + k) c v := fun k c hk => by
      obtain ⟨v, f1, f2⟩ := e2 i (j + k) c hi (hcs k c hk)
      exact ⟨v, by rw [← f1]; congr 1; omega, f2⟩
    -- the values
    have hvs : ∃ vs : List Value, vs.length = l.length ∧ All2 (DenS m) l' vs ∧ ∀ k v, vs[k]? = some v → ws[D.po + (i * cols.length + j) + k]? = some v := by
      have : ∀ n, n ≤ l.length → ∃ vs : List Value, vs.length = n ∧ All2 (DenS m) (l'.take n) vs ∧ ∀ k v, vs[k]? = some v → ws[D.po + (i * cols.length + j) + k]? = some v := by
        intro n
        induction n with
        | zero => exact fun _ => ⟨[], rfl, by simp [All2], fun k v h => by simp at h⟩
        | succ n ih =>
          intro hn
          obtain ⟨vs, g1, g2, g3⟩ := ih (by omega)
          have hlt : n < l.length := by omega
          obtain ⟨v, f1, f2⟩ := hcell n l[n] (by simp [hlt])
          have hc := hl2 n l[n] (by simp [hlt])
          refine ⟨vs ++ [v], by simp [g1], ?_, fun k u hk => ?_⟩
          · rw [List.take_add_one, hc]
            refine g2.append ⟨?_, trivial⟩
            revert f2
            generalize l[n] = c
            intro f2
            cases c with
            | i k => exact f2
            | b => exact f2
            | s cols => exact f2
          · by_cases hkn : k < n
            · rw [List.getElem?_append_left (by omega)] at hk
              exact g3 k u hk
            · rw [List.getElem?_append_right (by omega)] at hk
              have : k = n := by
                have := (List.getElem?_eq_some_iff.1 hk).1
                simp at this; omega
              subst this
              rw [g1] at hk
              simp at hk
              rw [← hk]; exact f1
      obtain ⟨vs, g1, g2, g3⟩ := this l.length (Nat.le_refl _)
      exact ⟨vs, g1, by rwa [← hl1, List.take_length] at g2, g3⟩
    obtain ⟨vs, _, g2, g3⟩ := hvs
    have hx := cellsD_den (m1 := m1) hs h g2
    refine ⟨hx.len.1, (D.pb, D.po + (i * cols.length + j)), boxT_at (hs _ _ e1) hx (fun k v hk => ?_), rfl⟩
    exact g3 k v hk
  · cases h
theorem boxesS_den (hB : ∀ id, BlkH m id w (rd id)) (hs : ∀ b o, m.q.sn b = some o → m1.q.sn b = some o) (hw : ∀ id l o, (rd id).live = true → m id = some l → w.heap[l.b]? = some o → m1.q.sn l.b = some o) : ∀ {cs : List (List Col)} {l : List SV} {ds : List DV} {vs : List Value}, boxesS rd l cs = some ds → All2 (DenS m) l vs →
    ds.length = totC cs ∧ ∃ ps : List (Nat × Nat), ps.length = cs.length ∧ ∀ (qs : List (Nat × Nat)) (r : List DV), ∃ ss, mkBoxes cs (ps ++ qs) (ds ++ r) = some (ss, qs, r) ∧ All2 (DenS m1) ss vs
  | [], l, ds, vs, h, hd => by
    unfold boxesS at h
    split at h
    · cases h
      cases vs with
      | nil => exact ⟨rfl, [], rfl, fun qs r => ⟨[], rfl, trivial⟩⟩
      | cons => exact hd.elim
    · cases h
  | c :: cs, l, ds, vs, h, hd => by
    unfold boxesS at h
    split at h
    · cases h
    rename_i s t
    split at h
    rotate_left
    · cases h
    rename_i d hb
    split at h
    rotate_left
    · cases h
    rename_i ds' hbs
    cases h
    cases vs with
    | nil => exact hd.elim
    | cons v vs =>
    obtain ⟨e1, p, e2, rfl⟩ := boxS_den (m1 := m1) hB hs hw hb hd.1
    obtain ⟨f1, ps, f2, f3⟩ := boxesS_den hB hs hw hbs hd.2
    refine ⟨by simp [appV_eq, totC, e1, f1], p :: ps, by simp [f2], fun qs r => ?_⟩
    obtain ⟨ss, g1, g2⟩ := f3 qs r
    refine ⟨.dp c (boxT p.1 p.2 d) 0 0 :: ss, ?_, ⟨⟨e2, Nat.zero_lt_one, by simp [DT.pb, DT.po, boxT]⟩, g2⟩⟩
    simp only [appV_eq, List.append_assoc, List.cons_append, mkBoxes, dropV_app _ e1, g1]
theorem intsC_get : ∀ {n j : Nat} {c : Col}, (intsC n)[j]? = some c → j < n ∧ c = .i .i64
  | 0, j, c, h => by simp [intsC] at h
  | n + 1, 0, c, h => by simp [intsC] at h; exact ⟨by omega, h.symm⟩
  | n + 1, j + 1, c, h => by
    simp only [intsC, List.getElem?_cons_succ] at h
    obtain ⟨h1, h2⟩ := intsC_get h
    exact ⟨by omega, h2⟩
theorem intsC_length : ∀ n, (intsC n).length = n
  | 0 => rfl
  | n + 1 => by simp [intsC, intsC_length n]
theorem rowD_den' (hB : ∀ id, BlkH m id w (rd id)) (hsn : ∀ b o, m.q.sn b = some o → w.heap[b]? = some o) (hw : ∀ b o, w.heap[b]? = some o → m1.q.sn b = some o) {s : SV} {esz : Nat} {x : Bool × List (List Int)} {ps : List Prop} {v : Value} (hx : rowsOfG rd s esz = some (x, ps)) (hp : ∀ p ∈ ps, p) (hd : Den m s v) :
    ∃ p : Nat × Nat, Den m1 (.ds x.1 (intsC esz) ((rowT 0 0 x.2).at p.1 p.2)) v := by
  obtain ⟨q, f1, f2⟩ := rowsOfG_mk hx hp hd ⟨hB, hsn⟩
  obtain ⟨e1, e2⟩ := f2 (Map.of fun _ => q) 0 rfl
  obtain ⟨b, xs⟩ := x
  cases b with
  | true =>
    obtain rfl := f1 rfl
    exact ⟨(0, 0), (show Den m1 (.ds true _ _) v from ⟨fun _ => ⟨e1, rfl⟩, fun e => (by cases e)⟩)⟩
  | false =>
    obtain ⟨l, vs, ty, fr, hm, hh, hcell, _⟩ := e2 rfl
    obtain ⟨l', ad, c, hm', hv, k1, k2, k3⟩ := e1
    rw [hm] at hm'
    cases hm'
    refine ⟨(l.b, l.o), (show Den m1 (.ds false _ _) v from ⟨fun e => (by cases e), fun _ => ⟨?_, ad, c, hv, k2, fun hc => by rw [k3 hc]; simp [rowT, DT.at, DT.pb, DT.po]⟩⟩)⟩
    refine DAt.of (hw _ _ hh) fun i j c hi hc => ?_
    obtain ⟨hj, rfl⟩ := intsC_get hc
    rw [intsC_length]
    exact ⟨_, hcell i j hi hj, rfl⟩
theorem colsI_ints : ∀ {cs : List Col} {n : Nat}, colsI cs n = true → cs = intsC n
  | cs, n, h => by
    obtain ⟨h1, h2⟩ := colsI_eq h
    apply List.ext_getElem?
    intro j
    by_cases hj : j < n
    · rw [h2 j hj]
      have : ∀ n j, j < n → (intsC n)[j]? = some (.i .i64) := by
        intro n
        induction n with
        | zero => intro j h; omega
        | succ n ih =>
          intro j h
          cases j with
          | zero => rfl
          | succ j => simpa [intsC] using ih j (by omega)
      exact (this n j hj).symm
    · rw [List.getElem?_eq_none (by omega), List.getElem?_eq_none (by rw [intsC_length]; omega)]
theorem DAt.at {sn : Nat → Option Obj} {D : DT} {cols : List Col} (h : DAt sn D cols) : DAt sn (D.at D.pb D.po) cols := by
  cases D with
  | no => unfold DAt at h; exact h.elim
  | mk => exact h
theorem rowD_den (hB : ∀ id, BlkH m id w (rd id)) (hsn : ∀ b o, m.q.sn b = some o → w.heap[b]? = some o) (hw : ∀ b o, w.heap[b]? = some o → m1.q.sn b = some o) {s : SV} {esz : Nat} {d : DV} {ps : List Prop} {v : Value} (hx : rowD rd s esz = some (d, ps)) (hp : ∀ p ∈ ps, p) (hd : Den m s v) :
    ∃ p : Nat × Nat, Den m1 (.ds d.nl (intsC esz) (d.D.at p.1 p.2)) v := by
  unfold rowD at hx
  split at hx
  · rename_i nil cols D
    split at hx
    rotate_left
    · cases hx
    rename_i hc
    cases hx
    obtain rfl := colsI_ints hc
    refine ⟨(D.pb, D.po), (show Den m1 (.ds nil _ _) v from ⟨hd.1, fun e => ?_⟩)⟩
    obtain ⟨h1, h2⟩ := hd.2 e
    exact ⟨(h1.mono fun b o e => hw _ _ (hsn _ _ e)).at, h2⟩
  · split at hx
    rotate_left
    · cases hx
    rename_i x ps' hr
    cases hx
    exact rowD_den' hB hsn hw hr hp hd
def noRw (a : Ar) : Bool :=
  match a with
  | .rw _ => false
  | .r2 _ => false
  | _ => true
theorem argD_den (hB : ∀ id, BlkH m id w (rd id)) (hsn : ∀ b o, m.q.sn b = some o → w.heap[b]? = some o) (hw : ∀ id l o, (rd id).live = true → m id = some l → w.heap[l.b]? = some o → m1.q.sn l.b = some o) (hs : ∀ b o, m.q.sn b = some o → m1.q.sn b = some o) {a : Ar} (hwr : noRw a = false → ∀ b o, w.heap[b]? = some o → m1.q.sn b = some o) {s : SV} {ds : List DV} {pp : List Prop} {v : Value} (h : argD rd a s = some (ds, pp)) (hp : ∀ p ∈ pp, p) (hd : Den m s v) :
    ds.length = totA a ∧ ∃ ps : List (Nat × Nat), ps.length = boxA a ∧ ∀ (qs : List (Nat × Nat)) (r : List DV), ∃ x, mkArg a (ps ++ qs) (ds ++ r) = some (x, qs, r) ∧ Den m1 x v := by
  unfold argD at h
  split at h
  · rename_i c
    split at h
    rotate_left
    · cases h
    rename_i d hc
    cases h
    have hd' : DenS m s v := by
      cases s <;> first | exact hd | (unfold cellD at hc; cases c <;> simp [toN, toB] at hc)
    exact ⟨rfl, [], rfl, fun qs r => ⟨_, rfl, (cellD_den hs hc hd').den.a.d⟩⟩
  · rename_i cs
    split at h
    rotate_left
    · cases h
    rename_i l
    split at h
    rotate_left
    · cases h
    rename_i d hc
    cases h
    obtain ⟨vs, rfl, hall⟩ := hd
    have hx := cellsD_den (m1 := m1) hs hc hall
    refine ⟨hx.len.1, [], rfl, fun qs r => ?_⟩
    obtain ⟨ss, e1, e2⟩ := takeV_den hx r
    exact ⟨.agg ss, by simp only [mkArg, e1, List.nil_append], ⟨vs, rfl, e2⟩⟩
  · rename_i cs
    split at h
    rotate_left
    · cases h
    rename_i d hc
    cases h
    have hd' : DenS m s v := by
      cases s <;> first | exact hd | simp [boxS] at hc
    obtain ⟨e1, p, e2, rfl⟩ := boxS_den (m1 := m1) hB hs hw hc hd'
    refine ⟨e1, [p], rfl, fun qs r => ⟨_, ?_, (show Den m1 (.dp cs (boxT p.1 p.2 _) 0 0) _ from ⟨e2, Nat.zero_lt_one, by simp [DT.pb, DT.po, boxT]⟩)⟩⟩
    simp only [mkArg, List.cons_append, List.nil_append, dropV_app _ e1]
  · rename_i f cs
    split at h
    · rename_i g caps
      split at h
      rotate_left
      · cases h
      rename_i hfg
      obtain rfl := Nat.eq_of_beq_eq_true hfg
      split at h
      rotate_left
      · cases h
      rename_i d hc
      cases h
      obtain ⟨vs, rfl, hall⟩ := hd
      obtain ⟨e1, ps, e2, e3⟩ := boxesS_den (m1 := m1) hB hs hw hc hall
      refine ⟨e1, ps, e2, fun qs r => ?_⟩
      obtain ⟨ss, g1, g2⟩ := e3 qs r
      exact ⟨.clo f ss, by simp only [mkArg, g1], ⟨vs, rfl, g2⟩⟩
    · rename_i u
      split at h
      rotate_left
      · cases h
      rename_i hh aa bb
      split at h
      rotate_left
      · cases h
      rename_i g
      split at h
      rotate_left
      · cases h
      rename_i hfg
      simp only [Bool.and_eq_true] at hfg
      obtain rfl := Nat.eq_of_beq_eq_true hfg.1.1
      have h1 : aa = #[] := Array.eq_empty_of_size_eq_zero (Nat.eq_of_beq_eq_true hfg.1.2)
      have h2 : bb = #[] := Array.eq_empty_of_size_eq_zero (Nat.eq_of_beq_eq_true hfg.2)
      subst h1; subst h2
      split at h
      · cases h
        refine ⟨rfl, [], rfl, fun qs r => ⟨.clo f [], rfl, ?_⟩⟩
        exact ⟨#[], hd, trivial⟩
      · cases h
    · cases h
  · rename_i esz
    split at h
    rotate_left
    · cases h
    rename_i x ps hx
    cases h
    obtain ⟨p, f⟩ := rowD_den (m1 := m1) hB hsn (hwr rfl) hx hp hd
    exact ⟨rfl, [p], rfl, fun qs r => ⟨_, rfl, f⟩⟩
  · rename_i esz
    split at h
    rotate_left
    · cases h
    rename_i id e off len
    split at h
    rotate_left
    · cases h
    rename_i cs hrd
    split at h
    rotate_left
    · cases h
    rename_i s0 s1
    split at h
    rotate_left
    · cases h
    rename_i hc
    simp only [Bool.and_eq_true] at hc
    obtain rfl := Nat.eq_of_beq_eq_true hc.1.1
    obtain rfl := Nat.eq_of_beq_eq_true hc.1.2
    obtain rfl := Nat.eq_of_beq_eq_true hc.2
    split at h
    rotate_left
    · cases h
    rename_i x ps hx
    split at h
    rotate_left
    · cases h
    rename_i y qs hy
    cases h
    have hb := hB id
    rw [hrd] at hb
    obtain ⟨q, vs, ty, hm, ho, hh, hall⟩ := hb
    obtain ⟨q', ad, c, hm', rfl, k1, k2, k3⟩ := hd
    rw [hm] at hm'
    cases hm'
    match hvs : vs.toList, hall with
    | [v0, v1], ⟨d0, d1, _⟩ =>
    obtain ⟨p0, f0⟩ := rowD_den (m1 := m1) hB hsn (hwr rfl) hx (fun p hq => hp p (appP_mem.2 (Or.inl hq))) d0.a.d
    obtain ⟨p1, f1⟩ := rowD_den (m1 := m1) hB hsn (hwr rfl) hy (fun p hq => hp p (appP_mem.2 (Or.inr hq))) d1.a.d
    refine ⟨rfl, [(q.b, q.o), p0, p1], rfl, fun qs r => ⟨_, rfl, (show Den m1 (.ds false _ _) _ from ⟨fun e => (by cases e), fun _ => ⟨?_, ad, c, rfl, k2, fun hc => by rw [k3 hc]; simp [twoT, DT.pb, DT.po]⟩⟩)⟩⟩
    have g0 : vs[0]? = some v0 := by rw [← Array.getElem?_toList, hvs]; rfl
    have g1 : vs[1]? = some v1 := by rw [← Array.getElem?_toList, hvs]; rfl
    refine DAt.of (hwr rfl _ _ hh) fun i j cc hi hc => ?_
    have hj : j = 0 := by
      have := (List.getElem?_eq_some_iff.1 hc).1
      simp at this; omega
    subst hj
    simp at hc
    subst hc
    rw [ho]
    match i, hi with
    | 0, _ => exact ⟨v0, by simpa using g0, f0⟩
    | 1, _ => exact ⟨v1, by simpa using g1, f1⟩
theorem flatD_mk (hB : ∀ id, BlkH m id w (rd id)) (hsn : ∀ b o, m.q.sn b = some o → w.heap[b]? = some o) (hs : ∀ b o, m.q.sn b = some o → m1.q.sn b = some o) (hw : ∀ id l o, (rd id).live = true → m id = some l → w.heap[l.b]? = some o → m1.q.sn l.b = some o) : ∀ {ars : List Ar} {args : List SV} {ds : List DV} {pp : List Prop} {vs : List Value}, flatD rd ars args = some (ds, pp) → (∀ a ∈ ars, noRw a = false → ∀ b o, w.heap[b]? = some o → m1.q.sn b = some o) → (∀ p ∈ pp, p) → All2 (Den m) args vs →
    ds.length = totD ars ∧ ∃ ps : List (Nat × Nat), ps.length = boxD ars ∧ ∃ ss, mkArgsD ars ps ds = some ss ∧ All2 (Den m1) ss vs
  | [], args, ds, pp, vs, h, hr0, hp, hd => by
    simp only [flatD] at h
    split at h
    · cases h
      cases vs with
      | nil => exact ⟨rfl, [], rfl, [], rfl, trivial⟩
      | cons => exact hd.elim
    · cases h
  | a :: ars, args, ds, pp, vs, h, hr0, hp, hd => by
    simp only [flatD] at h
    split at h
    · cases h
    rename_i s r
    split at h
    rotate_left
    · cases h
    rename_i d p1 ha
    split at h
    rotate_left
    · cases h
    rename_i ds' p2 hr
    cases h
    cases vs with
    | nil => exact hd.elim
    | cons v vs =>
    obtain ⟨e1, ps, e2, e3⟩ := argD_den (m1 := m1) hB hsn hw hs (hr0 a List.mem_cons_self) ha (fun p hq => hp p (appP_mem.2 (Or.inl hq))) hd.1
    obtain ⟨f1, qs, f2, ss, f3, f4⟩ := flatD_mk hB hsn hs hw hr (fun a h => hr0 a (List.mem_cons_of_mem _ h)) (fun p hq => hp p (appP_mem.2 (Or.inr hq))) hd.2
    obtain ⟨x, g1, g2⟩ := e3 qs ds'
    exact ⟨by simp [appV_eq, totD, e1, f1], ps ++ qs, by simp [boxD, e2, f2], x :: ss, by simp only [appV_eq, mkArgsD, g1, f3], g2, f4⟩
end

def dpRun (ars : List Ar) (pre : List DV → List Prop) (g : List DV → List RS) (nid : Nat) (args : List SV) (rd : Nat → Blk) : Option CRes :=
  match flatD rd ars args with
  | some (l, ps) => some ⟨appP ps (pre l), rsVal nid (g l), rsBlks (g l), [], [], false⟩
  | none => none
def GVD (P : Program) (T : Tab) (rs : List ResultVar) (n : Nat) (code : Code) (ars : List Ar) (ps : List (Nat × Nat)) (l : List DV) (spec : List RS) : Prop :=
  match mkArgsD ars ps l with
  | some ss => match padO ss n with
    | some ts => Goes P code ts [] (FinG T rs spec)
    | none => False
  | none => False
def EVD (P : Program) (T : Tab) (C : List Con) (pl : Plans) (rs : List ResultVar) (n : Nat) (code : Code) (ars : List Ar) (ps : List (Nat × Nat)) (l : List DV) (spec : List RS) : Prop :=
  match mkArgsD ars ps l with
  | some ss => match padO ss n with
    | some ts => EV P T C pl code ts [] (FinG T rs spec)
    | none => False
  | none => False
/-- A CONTRACT of a function that looks into rows that are only read, however deep. -/
theorem con_dpG {P : Program} {T : Tab} {f : FuncId} {fn : Func} {code : Code} (hf : P.funcs[f]? = some fn) (hb : fn.body = some code) (hn : (fn.name == "runtime.NumGoroutine") = false)
    (hT : T.Ok P) (ars : List Ar) (pre : List DV → List Prop) (g : List DV → List RS)
    (h : ∀ l ps, l.length = totD ars → ps.length = boxD ars → (∀ p ∈ pre l, p) → GVD P T fn.results.toList fn.ntmps code ars ps l (g l)) : Con.Ok P ⟨f, dpRun ars pre g⟩ := by
  refine ⟨⟨fn, hf, by rw [hb]; rfl, hn⟩, fun nid args rd r hr hp m w vs hd hB hap hfr hup hga hgb hone => ?_, fun nid args rd r hr hro => by
    replace hr : dpRun _ _ _ nid args rd = some r := hr
    unfold dpRun at hr
    repeat' split at hr
    all_goals first | (cases hr; done) | (injection hr with hr; rw [← hr] at hro; exact absurd hro Bool.false_ne_true)⟩
  simp only [dpRun] at hr
  split at hr
  rotate_left
  · cases hr
  rename_i l ps hl
  cases hr
  let m1 : Map := ⟨fun _ => none, fun _ _ => none, fun _ _ _ _ _ h => (by cases h), ⟨none, fun b => w.heap[b]?⟩⟩
  obtain ⟨h1, ps', h2, ss, j1, q1⟩ := flatD_mk (m1 := m1) hB hone.snap hone.snap (fun id l o _ _ e => e) hl (fun a _ _ b o e => e) (fun p hq => hp p (appP_mem.2 (Or.inl hq))) hd
  have hev := h l ps' h1 h2 (fun p hq => hp p (appP_mem.2 (Or.inr hq)))
  unfold GVD at hev
  rw [j1] at hev
  simp only at hev
  split at hev
  rotate_left
  · exact hev.elim
  rename_i ts hts
  have hs := hev.out w.heap.size (Bad.sn fun b => w.heap[b]?) w m1 _ w (fun id hid => absurd rfl hid)
    (holds_start (Nat.le_refl _) hts q1 (fun _ _ => rfl) (fun _ _ => rfl) rfl (fun b o e => ⟨(Array.getElem?_eq_some_iff.1 e).1, id, e⟩))
  refine calls_of_wp hf hb (wp_mono hs fun e a' w' hq => ?_)
  obtain ⟨st', m', k2, k3, k4⟩ := hq
  have hown : ∀ i p, (getB st'.heap i).own = true → m' i = some p → w.heap.size ≤ p.b := fun i p ho hp => (k3.own i p ho hp).resolve_right id
  have fin : RFin T fn.results.toList (g l) st'.tmps st'.heap → a'.defers = [] ∧ ∃ v, (results fn a'.tmps).run P w' = .ok v w' ∧ CallPost rd m nid ⟨appP ps (pre l), rsVal nid (g l), rsBlks (g l), [], [], false⟩ w (.returned v) w' := fun hfin => by
    unfold RFin at hfin
    split at hfin
    rotate_left
    · exact hfin.elim
    rename_i r hr
    -- the end, once the results' places are there
    have close : ∀ (v : Value) (Q' : List (Option Place)), (results fn a'.tmps).run P w' = .ok v w' → Q'.length = (rsBlks (g l)).length →
        (∀ (mm : Map), (∀ i q, Q'[i]? = some q → mm (nid + i) = q) → Den mm (rsVal nid (g l)) v ∧ ∀ k b, (rsBlks (g l))[k]? = some b → BlkH mm (nid + k) w' b) →
        (∀ (k : Nat) (p : Place), Q'[k]? = some (some p) → w.heap.size ≤ p.b) → (∀ (k k' : Nat) (p p' : Place), k ≠ k' → Q'[k]? = some (some p) → Q'[k']? = some (some p') → p.b ≠ p'.b) →
        a'.defers = [] ∧ ∃ v, (results fn a'.tmps).run P w' = .ok v w' ∧ CallPost rd m nid ⟨appP ps (pre l), rsVal nid (g l), rsBlks (g l), [], [], false⟩ w (.returned v) w' := fun v Q' hv hQ he hfr' hne => by
      have hmm : ∀ i q, Q'[i]? = some q → outMap m nid (rsBlks (g l)).length Q' (nid + i) = q := fun i q hi => by
        have hlt : i < Q'.length := (List.getElem?_eq_some_iff.1 hi).1
        simp only [outMap, Map.with]
        rw [if_pos ⟨by omega, by omega⟩, show nid + i - nid = i by omega, hi]; rfl
      obtain ⟨f1, f2⟩ := he _ hmm
      have hpl' : ∀ k b p, (rsBlks (g l))[k]? = some b → outMap m nid (rsBlks (g l)).length Q' (nid + k) = some p → Q'[k]? = some (some p) := fun k b p hk hp' => by
        have hlt := (List.getElem?_eq_some_iff.1 hk).1
        simp only [outMap, Map.with] at hp'
        rw [if_pos ⟨by omega, by omega⟩, show nid + k - nid = k by omega] at hp'
        rw [List.getElem?_eq_getElem (by omega)] at hp' ⊢
        simpa using hp'
      refine ⟨k3.defers, v, hv, v, _, rfl, fun id hid => ?_, f1, f2, fun k b p hk _ hp' => Or.inl (hfr' k p (hpl' k b p hk hp')), fun k k' b b' p p' hkk hk hk' _ _ hp1 hp2 => hne k k' p p' hkk (hpl' k b p hk hp1) (hpl' k' b' p' hk' hp2), ?_, gpost_plain (rd := rd) (fun _ _ => rfl) rfl (fun k b p hk _ hp' => Or.inl (hfr' k p (hpl' k b p hk hp'))) hga hgb (fun b h => rsBlks_nosto h)⟩
      · exact if_neg (fun ⟨e1, e2⟩ => by rcases hid with e | e <;> (try simp only at e) <;> omega)
      · exact k3.below.mono (Nat.le_refl _) (fun k _ hbad => hbad.elim)
    generalize hspec : g l = spec at hfin close ⊢
    cases spec with
    | nil => exact hfin.elim
    | cons x y =>
      cases y with
      | nil =>
        have hpart := RSim.part hfin
        simp only [partOK] at hpart
        have hnt : notTup r = true := by
          cases hh : notTup r
          · rw [hh] at hpart; cases hpart
          · rfl
        obtain ⟨v, e1, e2⟩ := resS_sound hT k3 hr (fun l' e => by subst e; cases hnt)
        obtain ⟨Q', o1, o2, o3, o4⟩ := RSim.out k3.blk k3.apart hown hfin (us := [v]) ⟨Den.of_notTup hnt e2, trivial⟩
        refine close v Q' e1 o1 (fun mm hmm => ?_) (fun k p hk => (o3 k p hk).1) o4
        obtain ⟨f1, f2⟩ := o2 mm nid hmm
        refine ⟨?_, f2⟩
        cases x with
        | val s => exact f1.1.d
        | rows b esz xs => exact f1.1.d
      | cons y z =>
        simp only at hfin
        split at hfin
        rotate_left
        · exact hfin.elim
        rename_i ll
        obtain ⟨v, e1, us, rfl, e2⟩ := resS_sound hT k3 hr (fun l' e => by cases e; exact RSim.part hfin)
        obtain ⟨Q', o1, o2, o3, o4⟩ := RSim.out k3.blk k3.apart hown hfin e2
        refine close _ Q' e1 o1 (fun mm hmm => ?_) (fun k p hk => (o3 k p hk).1) o4
        obtain ⟨f1, f2⟩ := o2 mm nid hmm
        exact ⟨⟨us, rfl, f1⟩, f2⟩
  cases e with
  | ret => exact fin k4
  | normal => exact fin k4
  | _ => exact k4.elim
theorem con_dp {P : Program} {T : Tab} {C : List Con} {pl : Plans} {f : FuncId} {fn : Func} {code : Code} (hf : P.funcs[f]? = some fn) (hb : fn.body = some code) (hn : (fn.name == "runtime.NumGoroutine") = false)
    (hT : T.Ok P) (hC : Cons.Ok P C) (hm : P.follows .mixedOrders = true) (hpl : plansOK pl code = true) (ars : List Ar) (pre : List DV → List Prop) (g : List DV → List RS)
    (h : ∀ l ps, l.length = totD ars → ps.length = boxD ars → (∀ p ∈ pre l, p) → EVD P T C pl fn.results.toList fn.ntmps code ars ps l (g l)) : Con.Ok P ⟨f, dpRun ars pre g⟩ :=
  con_dpG hf hb hn hT ars pre g fun l ps h1 h2 h3 => by
    have hev := h l ps h1 h2 h3
    unfold EVD at hev
    unfold GVD
    split at hev
    · split at hev
      · exact EV_sound hT hC hm code _ _ _ hpl hev
      · exact hev.elim
    · exact hev.elim
end Go.Proofs.YtohjifnkajhhnaaGreat.Ev

namespace Go.Proofs.YtohjifnkajhhnaaGreat.Ev
open Go.RowKit
set_option linter.unusedVariables false
set_option linter.unusedSimpArgs false

/-- What the box holds at the end: nil or not, and the rows. -/
def AFin (T : Tab) (rs : List ResultVar) (gs esz : Nat) (G : Bool × List (List Int)) (t : List SV) (h : List Blk) : Prop :=
  match resS T ⟨t, h⟩ rs with
  | some r => match r with
    | .tup l => match l with
      | [] => match getL t gs with
        | .here k => match getB h k with
          | .cells cs => match cs with
            | [a] => RSim h [k] [.rows G.1 esz G.2] [a]
            | _ => False
          | _ => False
        | _ => False
      | _ => False
    | _ => False
  | none => False
def FinA (T : Tab) (rs : List ResultVar) (gs esz : Nat) (G : Bool × List (List Int)) (e : Exit) (t : List SV) (h : List Blk) : Prop :=
  match e with
  | .ret => AFin T rs gs esz G t h
  | .normal => AFin T rs gs esz G t h
  | _ => False
def apBlks (esz : Nat) (b : Bool) (A : List (List Int)) : List Blk := [.cells [.osl b 1 esz A.length], .arr true (!b) esz A]
def apRes (ps : List Prop) (nid id : Nat) (used : List Nat) (esz : Nat) (G : Bool × List (List Int)) : CRes :=
  ⟨ps, .tup [], [.arr true (!G.1) esz G.2], used, [(id, .cells [.osl G.1 nid esz G.2.length])], false⟩

/-- The end of such a call. -/
theorem ap_end {P : Program} {T : Tab} (hT : T.Ok P) {fn : Func} {bad : Bad} {w w' : World} {m m' : Map} {st' : St} {a' : Act} {rd : Nat → Blk} {nid id : Nat} {used : List Nat} {q : Place} {gs esz : Nat}
    (k3 : Holds w.heap.size bad w m' st' a' w') (hbad : ∀ k, bad k → usedAt rd m (id :: used) k) (hq0 : bad.q0.pl = some q) (hq : m id = some q) (hqo : q.o = 0) (hown : (rd id).own = true)
    (hga : ∀ j p k i b, (rd j).live = true → m j = some p → m.g k i = some b → p.b ≠ b) (hgb : ∀ k i b, m.g k i = some b → b < w.heap.size)
    (ps : List Prop) (G : Bool × List (List Int)) (hfr : m nid = none)
    (hfin : AFin T fn.results.toList gs esz G st'.tmps st'.heap) :
    a'.defers = [] ∧ ∃ v, (results fn a'.tmps).run P w' = .ok v w' ∧ CallPost rd m nid (apRes ps nid id used esz G) w (.returned v) w' := by
  obtain ⟨gb, A⟩ := G
  unfold AFin at hfin
  split at hfin
  rotate_left
  · exact hfin.elim
  rename_i r hr
  split at hfin
  rotate_left
  · exact hfin.elim
  rename_i l
  split at hfin
  rotate_left
  · exact hfin.elim
  split at hfin
  rotate_left
  · exact hfin.elim
  rename_i kk hkk
  split at hfin
  rotate_left
  · exact hfin.elim
  rename_i cs hcs
  split at hfin
  rotate_left
  · exact hfin.elim
  rename_i ca
  have hh := k3.tmp gs
  rw [hkk] at hh
  obtain ⟨q', hm1, hm2⟩ := hh
  obtain rfl : q' = q := by
    have := congrArg Q.pl k3.gok.q
    rw [hm2, hq0] at this
    exact Option.some.inj this
  have hb0 := k3.blk kk
  rw [hcs] at hb0
  obtain ⟨l0, vs0, ty, f1, f2, f3, f4⟩ := hb0
  rw [hm1] at f1
  cases f1
  match hv0 : vs0.toList, f4 with
  | [va], ⟨da, _⟩ =>
  have livek : (getB st'.heap kk).live = true := by rw [hcs]; rfl
  have ownk : (getB st'.heap kk).own = true := by rw [hcs]; rfl
  have place : ∀ (i : Nat) (p : Place), i ≠ kk → (getB st'.heap i).own = true → m' i = some p → w.heap.size ≤ p.b ∨ usedAt rd m used p.b := fun i p hik h1 h2 => by
    rcases k3.own i p h1 h2 with h | h
    · exact Or.inl h
    · obtain ⟨j, hj, ho, p', e1, e2⟩ := hbad _ h
      rcases List.mem_cons.1 hj with rfl | hj
      · rw [hq] at e1; cases e1
        exact absurd e2.symm (k3.apart i kk p q' hik h1 livek h2 hm1)
      · exact Or.inr ⟨j, hj, ho, p', e1, e2⟩
  have hown0 : ∀ i p, (getB st'.heap i).own = true → m' i = some p → 0 ≤ p.b := fun _ _ _ _ => Nat.zero_le _
  obtain ⟨v, e1, us, rfl, e2⟩ := resS_sound hT k3 hr (fun l' e => by cases e; rfl)
  obtain ⟨Q, o1, o2, o3, o4⟩ := RSim.out (us := [va]) k3.blk k3.apart hown0 hfin ⟨da.a, trivial⟩
  have hn : (rsBlks [.rows gb esz A]).length = 1 := rfl
  rw [hn] at o1
  let mm : Map := outMap m nid 1 Q
  have hmm : ∀ i q, Q[i]? = some q → mm (nid + i) = q := fun i q hi => by
    have hlt : i < Q.length := (List.getElem?_eq_some_iff.1 hi).1
    simp only [mm, outMap, Map.with]
    rw [if_pos ⟨by omega, by omega⟩, show nid + i - nid = i by omega, hi]; rfl
  obtain ⟨⟨ea, _⟩, fb⟩ := o2 mm nid hmm
  have hold : ∀ j, (j < nid ∨ nid + 1 ≤ j) → mm j = m j := fun j hj => if_neg (fun ⟨e1, e2⟩ => by rcases hj with e | e <;> omega)
  have idne : id ≠ nid := fun e => by rw [e, hfr] at hq; cases hq
  have hid : mm id = some q' := by rw [← hq]; exact hold id (by omega)
  have hpl' : ∀ k b p, (rsBlks [.rows gb esz A])[k]? = some b → mm (nid + k) = some p → Q[k]? = some (some p) := fun k b p hk hp' => by
    have hlt := (List.getElem?_eq_some_iff.1 hk).1
    rw [hn] at hlt
    simp only [mm, outMap, Map.with] at hp'
    rw [if_pos ⟨by omega, by omega⟩, show nid + k - nid = k by omega] at hp'
    rw [List.getElem?_eq_getElem (by omega)] at hp' ⊢
    simpa using hp'
  have hpl : ∀ (k : Nat) (p : Place), Q[k]? = some (some p) → w.heap.size ≤ p.b ∨ usedAt rd m used p.b := fun k p hk => by
    obtain ⟨_, i, hi, h1, h2⟩ := o3 k p hk
    exact place i p (fun e => hi (by rw [e]; simp)) h1 h2
  refine ⟨k3.defers, _, e1, _, mm, rfl, hold, ⟨us, rfl, by revert e2; cases us.toList with | nil => exact fun _ => trivial | cons => exact fun h => h.elim⟩, fb, fun k b p hk _ hp' => ?_, fun k k' b b' p p' hkk' hk hk' _ _ hp1 hp2 => o4 k k' p p' hkk' (hpl' k b p hk hp1) (hpl' k' b' p' hk' hp2), ?_,
    ⟨fun _ _ _ h => h, fun _ _ _ h => Or.inl h, fun x hx => ?_, fun k b p hk _ hp' g i c hg => ?_, fun b h => rsBlks_nosto (l := [.rows gb esz A]) h, rfl⟩⟩
  · rcases hpl k p (hpl' k b p hk hp') with h | h
    · exact Or.inl h
    · exact Or.inr (Or.inl h)
  · refine k3.below.mono (Nat.le_refl _) (fun k _ hb => ?_)
    obtain ⟨j, hj, hr⟩ := hbad k hb
    rcases List.mem_cons.1 hj with rfl | hj
    · exact Or.inr (Or.inl ⟨j, List.mem_singleton.2 rfl, hr⟩)
    · exact Or.inl ⟨j, hj, hr⟩
  · simp only [apRes, List.mem_singleton] at hx
    subst hx
    exact ⟨q', vs0, ty, hid, hqo, f3, by rw [hv0]; exact ⟨ea, trivial⟩⟩
  · rcases hpl k p (hpl' k b p hk hp') with h | ⟨j, _, ho, p', e1, e2⟩
    · have := hgb g i c hg; omega
    · rw [← e2]; exact hga j p' g i c (Blk.live_of_own ho) e1 hg

/- The arguments, with the box's address taken off: the last one, or the last that a function value has captured. -/
def lastS : List SV → Option (List SV × SV)
  | [] => none
  | x :: r => match r with
    | [] => some ([], x)
    | _ => match lastS r with
      | some (i, l) => some (x :: i, l)
      | none => none
def lenS' : List SV → Nat → Bool
  | [], n => Nat.beq n 0
  | _ :: r, n => match n with
    | 0 => false
    | n + 1 => lenS' r n
def splitA (cl : Option (Nat × Nat)) (args : List SV) : Option (List SV × SV) :=
  match cl with
  | none => lastS args
  | some (f, n) => match lastS args with
    | some (pre, c) => match lenS' pre n with
      | true => match c with
        | .clo g caps => match Nat.beq f g with
          | true => match lastS caps with
            | some (ci, p) => some (appS pre ci, p)
            | none => none
          | false => none
        | _ => none
      | false => none
    | none => none
def allDp : List SV → Bool
  | [] => true
  | s :: r => match s with
    | .dp _ _ _ _ => allDp r
    | .ptr _ _ => allDp r
    | _ => false
def cutS : List SV → Nat → Option (List SV × List SV)
  | l, 0 => some ([], l)
  | [], _ + 1 => none
  | x :: r, n + 1 => match cutS r n with
    | some (a, b) => some (x :: a, b)
    | none => none
def joinA (cl : Option (Nat × Nat)) (ss : List SV) (p : SV) : Option (List SV) :=
  match cl with
  | none => some (appS ss [p])
  | some (f, n) => match cutS ss n with
    | some (a, b) => match allDp (appS b [p]) with
      | true => some (appS a [.clo f (appS b [p])])
      | false => none
    | none => none

theorem lastS_eq : ∀ {l i : List SV} {x : SV}, lastS l = some (i, x) → l = i ++ [x]
  | [], i, x, h => by cases h
  | [y], i, x, h => by simp only [lastS] at h; cases h; rfl
  | y :: z :: r, i, x, h => by
    simp only [lastS] at h
    split at h
    · rename_i i' l' h'
      cases h
      have := lastS_eq (l := z :: r) (by simpa only [lastS] using h')
      rw [this]; rfl
    · cases h
theorem lenS'_eq : ∀ {l : List SV} {n : Nat}, lenS' l n = true → l.length = n
  | [], n, h => (Nat.eq_of_beq_eq_true h).symm
  | x :: r, 0, h => by cases h
  | x :: r, n + 1, h => by simp [lenS'_eq (l := r) (n := n) h]
theorem cutS_eq : ∀ {l a b : List SV} {n : Nat}, cutS l n = some (a, b) → l = a ++ b ∧ a.length = n
  | l, a, b, 0, h => by
    have : some (([] : List SV), l) = some (a, b) := by cases l <;> exact h
    cases this; exact ⟨rfl, rfl⟩
  | [], a, b, n + 1, h => by cases h
  | x :: r, a, b, n + 1, h => by
    simp only [cutS] at h
    split at h
    · rename_i a' b' h'
      cases h
      obtain ⟨h1, h2⟩ := cutS_eq h'
      exact ⟨by rw [h1]; rfl, by simp [h2]⟩
    · cases h
theorem All2.parts {α β : Type} {R : α → β → Prop} : ∀ {a b : List α} {vs : List β}, All2 R (a ++ b) vs → ∃ v1 v2, vs = v1 ++ v2 ∧ All2 R a v1 ∧ All2 R b v2
  | [], b, vs, h => ⟨[], vs, rfl, trivial, h⟩
  | x :: a, b, [], h => h.elim
  | x :: a, b, v :: vs, h => by
    obtain ⟨v1, v2, h1, h2, h3⟩ := All2.parts (a := a) h.2
    exact ⟨v :: v1, v2, by rw [h1]; rfl, ⟨h.1, h2⟩, h3⟩
theorem All2.cut {α β : Type} {R : α → β → Prop} : ∀ {a b : List α} {v1 v2 : List β}, All2 R (a ++ b) (v1 ++ v2) → a.length = v1.length → All2 R a v1 ∧ All2 R b v2
  | [], b, [], v2, h, _ => ⟨trivial, h⟩
  | x :: a, b, v :: v1, v2, h, hl => by
    obtain ⟨h1, h2⟩ := All2.cut (a := a) (v1 := v1) h.2 (by simpa using hl)
    exact ⟨⟨h.1, h1⟩, h2⟩
  | [], b, v :: v1, v2, h, hl => by simp at hl
  | x :: a, b, [], v2, h, hl => by simp at hl
theorem allDp_den {m : Map} : ∀ {l : List SV} {vs : List Value}, allDp l = true → All2 (Den m) l vs → All2 (DenS m) l vs
  | [], [], _, _ => trivial
  | [], _ :: _, _, h => h.elim
  | s :: r, [], _, h => h.elim
  | s :: r, v :: vs, ha, h => by
    simp only [allDp] at ha
    split at ha
    · exact ⟨h.1, allDp_den ha h.2⟩
    · exact ⟨h.1, allDp_den ha h.2⟩
    · cases ha
theorem split_den {m : Map} {cl : Option (Nat × Nat)} {args as : List SV} {p : SV} {vs : List Value} (h : splitA cl args = some (as, p)) (hd : All2 (Den m) args vs) :
    ∃ (vs' : List Value) (hv : Value), All2 (Den m) as vs' ∧ (Den m p hv) ∧ ∀ (m1 : Map) (ss : List SV) (p' : SV) (full : List SV), joinA cl ss p' = some full → All2 (Den m1) ss vs' → Den m1 p' hv → All2 (Den m1) full vs := by
  unfold splitA at h
  split at h
  · obtain rfl := lastS_eq h
    obtain ⟨v1, v2, rfl, h1, h2⟩ := hd.parts
    match v2, h2 with
    | [hv], ⟨h3, _⟩ =>
    refine ⟨v1, hv, h1, h3, fun m1 ss p' full hj hs hp => ?_⟩
    simp only [joinA] at hj
    cases hj
    rw [appS_eq]
    exact hs.append ⟨hp, trivial⟩
  · rename_i f n
    split at h
    rotate_left
    · cases h
    rename_i pre c hl
    obtain rfl := lastS_eq hl
    split at h
    rotate_left
    · cases h
    rename_i hn
    have hn := lenS'_eq hn
    split at h
    rotate_left
    · cases h
    rename_i g caps
    split at h
    rotate_left
    · cases h
    rename_i hfg
    obtain rfl := Nat.eq_of_beq_eq_true hfg
    split at h
    rotate_left
    · cases h
    rename_i ci q hc
    obtain rfl := lastS_eq hc
    cases h
    obtain ⟨v1, v2, rfl, h1, h2⟩ := hd.parts
    match v2, h2 with
    | [vc], ⟨⟨arr, hvc, h3⟩, _⟩ =>
    subst hvc
    obtain ⟨w1, w2, hw, h4, h5⟩ := h3.parts
    match w2, h5 with
    | [hv], ⟨h6, _⟩ =>
    refine ⟨v1 ++ w1, hv, by rw [appS_eq]; exact h1.append (h4.mono fun _ _ d => d.a.d), h6.a.d, fun m1 ss p' full hj hs hp => ?_⟩
    simp only [joinA] at hj
    split at hj
    rotate_left
    · cases hj
    rename_i a b hcut
    split at hj
    rotate_left
    · cases hj
    rename_i had
    cases hj
    obtain ⟨rfl, hal⟩ := cutS_eq hcut
    obtain ⟨g1, g2⟩ := hs.cut (by rw [hal, ← hn]; exact h1.length)
    rw [appS_eq]
    refine g1.append ⟨⟨arr, rfl, ?_⟩, trivial⟩
    rw [hw]
    refine allDp_den had ?_
    rw [appS_eq]
    exact g2.append ⟨hp, trivial⟩
end Go.Proofs.YtohjifnkajhhnaaGreat.Ev

namespace Go.Proofs.YtohjifnkajhhnaaGreat.Ev
open Go.RowKit
set_option linter.unusedVariables false
set_option linter.unusedSimpArgs false

def rdX (rd : Nat → Blk) (i j k : Nat) : Blk :=
  match Nat.beq k i with
  | true => .dead
  | false => match Nat.beq k j with
    | true => .dead
    | false => rd k
def apRun (cl : Option (Nat × Nat)) (esz : Nat) (ars : List Ar) (pre : List DV → Bool → List (List Int) → List Prop) (g : List DV → Bool → List (List Int) → Bool × List (List Int)) (nid : Nat) (args : List SV) (rd : Nat → Blk) : Option CRes :=
  match splitA cl args with
  | some (as, s) => match s with
    | .ptr id o => match o with
      | 0 => match rd id with
        | .cells cs => match cs with
          | [ca] => match ca with
            | .nils => match flatD (rdX rd id id) ars as with
              | some (l, ps) => some (apRes (appP ps (pre l true [])) nid id [] esz (g l true []))
              | none => none
            | .osl b ia ea n => match rd ia with
              | .arr ow ok ea' xa => match ow && Nat.beq ea esz && Nat.beq ea' esz && !Nat.beq ia id with
                | true => match flatD (rdX rd id ia) ars as with
                  | some (l, ps) => some (apRes (consP [b = false → ok = true, n ≤ xa.length] (appP ps (pre l b (xa.take n)))) nid id [ia] esz (g l b (xa.take n)))
                  | none => none
                | false => none
              | _ => none
            | _ => none
          | _ => none
        | _ => none
      | _ => none
    | _ => none
  | none => none
def GVA (P : Program) (T : Tab) (rs : List ResultVar) (n : Nat) (code : Code) (gs : Nat) (cl : Option (Nat × Nat)) (esz : Nat) (ars : List Ar) (ps : List (Nat × Nat)) (l : List DV) (b : Bool) (A : List (List Int)) (spec : Bool × List (List Int)) : Prop :=
  match mkArgsD ars ps l with
  | some ss => match joinA cl ss (.ptr 0 0) with
    | some full => match padO full n with
      | some ts => Goes P code (setL ts gs (.here 0)) (apBlks esz b A) (FinA T rs gs esz spec)
      | none => False
    | none => False
  | none => False

/-- The heart: the box lies at q; its slice is nil, or lies in block ia. -/
theorem ap_core {P : Program} {T : Tab} {f : FuncId} {fn : Func} {code : Code} (hf : P.funcs[f]? = some fn) (hb : fn.body = some code) (hT : T.Ok P) (gs esz : Nat) (cl : Option (Nat × Nat)) {ars : List Ar} (hrw : ∀ a ∈ ars, noRw a = true)
    {nid id : Nat} {args as : List SV} {rd : Nat → Blk} {m : Map} {w : World} {vs : List Value} (hsp : splitA cl args = some (as, .ptr id 0)) (hd : All2 (Den m) args vs) (hB : ∀ id, BlkH m id w (rd id))
    (hap : ∀ i j p q, i ≠ j → (rd i).own = true → (rd j).live = true → m i = some p → m j = some q → p.b ≠ q.b) (hfr : m nid = none)
    (hga : ∀ j p k i b, (rd j).live = true → m j = some p → m.g k i = some b → p.b ≠ b) (hgb : ∀ k i b, m.g k i = some b → b < w.heap.size) (hone : COk m rd w)
    {ca : SV} (hcs : rd id = .cells [ca]) {used : List Nat} {ia : Nat} (hia : ∀ j, j ∈ id :: used → j = id ∨ j = ia) {l : List DV} {pp : List Prop} (hl : flatD (rdX rd id ia) ars as = some (l, pp)) (hpp : ∀ p ∈ pp, p)
    {b : Bool} {A : List (List Int)} {q1 : Option Place} (hq1 : ∀ p, q1 = some p → b = false ∧ ia ∈ used ∧ (rd ia).own = true ∧ m ia = some p ∧ ia ≠ id)
    (hca : ∀ (m0 : Map) (va : Value), m0 1 = q1 → DenS m ca va → DenS m0 (.osl b 1 esz A.length) va ∧ BlkH m0 1 w (.arr true (!b) esz A)) (ps : List Prop) (G : Bool × List (List Int))
    (h : ∀ ps', ps'.length = boxD ars → l.length = totD ars → GVA P T fn.results.toList fn.ntmps code gs cl esz ars ps' l b A G) : Calls P f vs.toArray w (CallPost rd m nid (apRes ps nid id used esz G) w) := by
  classical
  obtain ⟨vs', hv, d1, ⟨q, hq, rfl⟩, djoin⟩ := split_den hsp hd
  have hbi := hB id
  rw [hcs] at hbi
  obtain ⟨q', vs0, ty, e1, e2, e3, e4⟩ := hbi
  rw [hq] at e1; cases e1
  match hv0 : vs0.toList, e4 with
  | [va], ⟨da, _⟩ =>
  let sn : Nat → Option Obj := fun k => if usedAt rd m (id :: used) k then none else w.heap[k]?
  let fm : Nat → Option Place := fun i => if i = 0 then some q else if i = 1 then q1 else none
  let m0 : Map := ⟨fm, fun _ _ => none, fun _ _ _ _ _ h => (by cases h), ⟨some q, sn⟩⟩
  let bad : Bad := ⟨fun k => usedAt rd m (id :: used) k, fun _ _ => none, fun k i b e => (by cases e), ⟨some q, sn⟩⟩
  have nu : ∀ b o, m.q.sn b = some o → ¬ usedAt rd m (id :: used) b := fun b o e hu => by
    obtain ⟨j, hj, ho, p, e1, e2⟩ := hu
    exact hone.sown j p b o ho e1 e e2
  have hs : ∀ b o, m.q.sn b = some o → m0.q.sn b = some o := fun b o e => by
    show sn b = some o
    simp only [sn, if_neg (nu b o e)]
    exact hone.snap b o e
  have hX : ∀ k, rdX rd id ia k = .dead ∨ (rdX rd id ia k = rd k ∧ k ≠ id ∧ k ≠ ia) := fun k => by
    unfold rdX
    split
    · exact Or.inl rfl
    · rename_i h1
      split
      · exact Or.inl rfl
      · rename_i h2
        exact Or.inr ⟨rfl, Nat.ne_of_beq_eq_false h1, Nat.ne_of_beq_eq_false h2⟩
  have hw : ∀ k p o, (rdX rd id ia k).live = true → m k = some p → w.heap[p.b]? = some o → m0.q.sn p.b = some o := fun k p o hlive hk ho => by
    rcases hX k with h | ⟨h1, h2, h3⟩
    · rw [h] at hlive; cases hlive
    · rw [h1] at hlive
      have : ¬ usedAt rd m (id :: used) p.b := fun hu => by
        obtain ⟨j, hj, hjo, p', g1, g2⟩ := hu
        refine hap j k p' p (fun e => ?_) hjo hlive g1 hk g2
        rcases hia j hj with rfl | rfl
        · exact h2 e.symm
        · exact h3 e.symm
      show sn p.b = some o
      simp only [sn, if_neg this]; exact ho
  have hBX : ∀ k, BlkH m k w (rdX rd id ia k) := fun k => by
    rcases hX k with h | ⟨h1, _⟩
    · rw [h]; trivial
    · rw [h1]; exact hB k
  obtain ⟨hl1, ps', hl2, ss, hl3, hl4⟩ := flatD_mk (m1 := m0) hBX hone.snap hs hw hl (fun a ha hn => by rw [hrw a ha] at hn; cases hn) hpp d1
  have hev := h ps' hl2 hl1
  unfold GVA at hev
  rw [hl3] at hev
  simp only at hev
  split at hev
  rotate_left
  · exact hev.elim
  rename_i full hfull
  split at hev
  rotate_left
  · exact hev.elim
  rename_i ts hts
  have hd0 : All2 (Den m0) full vs := djoin m0 ss _ full hfull hl4 ⟨q, rfl, rfl⟩
  obtain ⟨t1, t2, t3⟩ := padO_eq hts
  have hvl := hd0.length
  obtain ⟨c1, c2⟩ := hca m0 va rfl da
  have lives : ∀ i p, (getB (apBlks esz b A) i).live = true → m0 i = some p → ∃ j, j ∈ id :: used ∧ (i = 0 ∧ j = id ∨ i = 1 ∧ j = ia ∧ ia ≠ id) ∧ (rd j).own = true ∧ m j = some p := fun i p hi hp' => by
    by_cases h0 : i = 0
    · subst h0
      have hp0 : some q = some p := hp'
      exact ⟨id, List.mem_cons_self, Or.inl ⟨rfl, rfl⟩, by rw [hcs]; rfl, by rw [hq]; exact hp0⟩
    · by_cases h1 : i = 1
      · subst h1
        have hp1 : q1 = some p := hp'
        obtain ⟨_, g1, g2, g3, g4⟩ := hq1 p hp1
        exact ⟨ia, List.mem_cons_of_mem _ g1, Or.inr ⟨rfl, rfl, g4⟩, g2, g3⟩
      · exact absurd hp' (by rw [show m0 i = none by simp [m0, fm, h0, h1]]; intro e; cases e)
  have dom : ∀ i, m0 i ≠ none → i < (apBlks esz b A).length := fun i hi => by
    by_cases h0 : i = 0
    · rw [h0]; exact Nat.zero_lt_succ _
    · by_cases h1 : i = 1
      · rw [h1]; exact Nat.succ_lt_succ (Nat.zero_lt_succ _)
      · exact absurd (show m0 i = none by simp [m0, fm, h0, h1]) hi
  have hs' := hev.out w.heap.size bad w m0 { tmps := vs.toArray ++ Array.replicate (fn.ntmps - vs.toArray.size) undef, defers := [] } w dom
    ⟨rfl, by rw [setL_length, t1]; simp; omega, fun t => ?_, fun i => ?_, fun i j p p' hij o1 o2 q1 q2 => ?_, fun i p o1 o2 => ?_, Kept.refl _ _ _, ⟨Nat.le_refl _, fun b o e => ?_⟩,
      ⟨fun j p k i c o1 o2 o3 => (by cases o3), fun k i c o1 => (by cases o1), fun s s' X X' o1 o2 => ?_, fun k i c o1 => (by cases o1), rfl⟩⟩
  rotate_left
  · rw [getL_setL]
    split
    · exact ⟨q, rfl, rfl⟩
    · rw [t3]
      have hg := getL_den hd0 t
      have e : ({ tmps := vs.toArray ++ Array.replicate (fn.ntmps - vs.toArray.size) undef, defers := [] } : Act).tmps.getD t undef = vs.getD t undef := by
        rw [Array.getD_eq_getD_getElem?]
        by_cases ht : t < vs.length
        · rw [Array.getElem?_append_left (by simpa using ht)]
          simp [List.getD_eq_getElem?_getD]
        · rw [Array.getElem?_append_right (by simpa using Nat.le_of_not_lt ht)]
          have : vs.getD t undef = undef := by rw [List.getD_eq_getElem?_getD, List.getElem?_eq_none (by omega)]; rfl
          rw [this]
          simp only [Array.getElem?_replicate]
          split <;> rfl
      rw [e]; exact hg
  · match i with
    | 0 => exact ⟨q, vs0, ty, rfl, e2, e3, by rw [hv0]; exact ⟨c1, trivial⟩⟩
    | 1 => exact c2
    | _ + 2 => trivial
  · obtain ⟨j1, _, k1, k2, k3⟩ := lives i p (Blk.live_of_own o1) q1
    obtain ⟨j2, _, k1', k2', k3'⟩ := lives j p' o2 q2
    exact hap j1 j2 p p' (fun e => by omega) k2 (Blk.live_of_own k2') k3 k3'
  · obtain ⟨j1, k0, _, k2, k3⟩ := lives i p (Blk.live_of_own o1) o2
    exact Or.inr ⟨j1, k0, k2, p, k3, rfl⟩
  · have e : sn b = some o := e
    simp only [sn] at e
    split at e
    · cases e
    · rename_i hn
      exact ⟨(Array.getElem?_eq_some_iff.1 e).1, hn, e⟩
  · exfalso
    match s with
    | 0 => cases o1
    | 1 => cases o1
    | _ + 2 => cases o1
  refine calls_of_wp hf hb (wp_mono hs' fun e a' w' hq' => ?_)
  obtain ⟨st', m', k2, k3, k4⟩ := hq'
  have fin := fun hfin : AFin T fn.results.toList gs esz G st'.tmps st'.heap =>
    ap_end hT (used := used) (id := id) k3 (fun k hk => hk) rfl hq e2 (by rw [hcs]; rfl) hga hgb ps G hfr hfin
  cases e with
  | ret => exact fin k4
  | normal => exact fin k4
  | _ => exact k4.elim

/-- A CONTRACT of a function that appends to a slice in a box of its caller's own. -/
theorem con_ap {P : Program} {T : Tab} {f : FuncId} {fn : Func} {code : Code} (hf : P.funcs[f]? = some fn) (hb : fn.body = some code) (hn : (fn.name == "runtime.NumGoroutine") = false)
    (hT : T.Ok P) (gs esz : Nat) (cl : Option (Nat × Nat)) (ars : List Ar) (hrw : ∀ a ∈ ars, noRw a = true) (pre : List DV → Bool → List (List Int) → List Prop) (g : List DV → Bool → List (List Int) → Bool × List (List Int))
    (h : ∀ l ps b A, l.length = totD ars → ps.length = boxD ars → (b = true → A = []) → (∀ p ∈ pre l b A, p) → GVA P T fn.results.toList fn.ntmps code gs cl esz ars ps l b A (g l b A)) : Con.Ok P ⟨f, apRun cl esz ars pre g⟩ := by
  refine ⟨⟨fn, hf, by rw [hb]; rfl, hn⟩, fun nid args rd r hr hp m w vs hd hB hap hfr hup hga hgb hone => ?_, fun nid args rd r hr hro => by
    replace hr : apRun _ _ _ _ _ nid args rd = some r := hr
    unfold apRun at hr
    repeat' split at hr
    all_goals first | (cases hr; done) | (injection hr with hr; rw [← hr] at hro; exact absurd hro Bool.false_ne_true)⟩
  replace hr : apRun cl esz ars pre g nid args rd = some r := hr
  unfold apRun at hr
  split at hr
  rotate_left
  · cases hr
  rename_i as s hsp
  split at hr
  rotate_left
  · cases hr
  rename_i id o
  split at hr
  rotate_left
  · cases hr
  split at hr
  rotate_left
  · cases hr
  rename_i cs hcs
  split at hr
  rotate_left
  · cases hr
  rename_i ca
  split at hr
  · split at hr
    rotate_left
    · cases hr
    rename_i l pp hl
    cases hr
    refine ap_core (ia := id) (q1 := none) (b := true) (A := []) hf hb hT gs esz cl hrw hsp hd hB hap (by simpa using hfr 0 (by simp [apRes])) hga hgb hone hcs (fun j hj => by simp at hj; exact Or.inl hj) hl (fun p hq => hp p (appP_mem.2 (Or.inl hq)))
      (fun p hq => (by cases hq)) (fun m0 va e d => ⟨⟨fun _ => ⟨d, rfl⟩, fun h => (by cases h)⟩, fun h => (by cases h)⟩) _ _ (fun ps' h1 h2 => h l ps' true [] h2 h1 (fun _ => rfl) (fun p hq => hp p (appP_mem.2 (Or.inr hq))))
  · rename_i b ia ea n
    split at hr
    rotate_left
    · cases hr
    rename_i ow ok ea' xa hxa
    split at hr
    rotate_left
    · cases hr
    rename_i hc
    simp only [Bool.and_eq_true, Bool.not_eq_true'] at hc
    obtain ⟨⟨⟨rfl, h1⟩, h2⟩, h3⟩ := hc
    obtain rfl := Nat.eq_of_beq_eq_true h1
    obtain rfl := Nat.eq_of_beq_eq_true h2
    have hne : ia ≠ id := Nat.ne_of_beq_eq_false h3
    split at hr
    rotate_left
    · cases hr
    rename_i l pp hl
    cases hr
    have p1 : b = false → ok = true := hp _ (consP_mem.2 (Or.inl (by simp)))
    have p2 : n ≤ xa.length := hp _ (consP_mem.2 (Or.inl (by simp)))
    have hn : (xa.take n).length = n := by simp; omega
    have hbi := hB id
    rw [hcs] at hbi
    obtain ⟨q, vs0, ty, _, _, _, e4⟩ := hbi
    match vs0.toList, e4 with
    | [va], ⟨da, _⟩ =>
    refine ap_core (ia := ia) (q1 := if b = true then none else m ia) (b := b) (A := xa.take n) hf hb hT gs ea' cl hrw hsp hd hB hap (by simpa using hfr 0 (by simp [apRes])) hga hgb hone hcs (fun j hj => by simpa using hj) hl (fun p hq => hp p (consP_mem.2 (Or.inr (appP_mem.2 (Or.inl hq)))))
      (fun p hq => ?_) (fun m0 va' e d => ?_) _ _ (fun ps' h1 h2 => h l ps' b (xa.take n) h2 h1 (fun e => ?_) (fun p hq => hp p (consP_mem.2 (Or.inr (appP_mem.2 (Or.inr hq))))))
    · cases b with
      | true => cases hq
      | false => exact ⟨rfl, List.mem_singleton.2 rfl, by rw [hxa, p1 rfl]; rfl, by simpa using hq, hne⟩
    · cases b with
      | true =>
        obtain ⟨g1, g2⟩ := d.1 rfl
        exact ⟨⟨fun _ => ⟨g1, by rw [hn]; exact g2⟩, fun h => (by cases h)⟩, fun h => (by cases h)⟩
      | false =>
        obtain ⟨p, ad, c, k1, k2, k3, k4, k5⟩ := d.2 rfl
        have e : m0 1 = m ia := by simpa using e
        refine ⟨⟨fun h => (by cases h), fun _ => ⟨p, ad, c, by rw [e]; exact k1, by rw [hn]; exact k2, k3, by rw [hn]; exact k4, k5⟩⟩, ?_⟩
        have hh := hB ia
        rw [hxa, p1 rfl] at hh
        exact blk_as hh e p2
    · obtain ⟨_, g2⟩ := da.1 e
      subst g2; simp
  · cases hr
end Go.Proofs.YtohjifnkajhhnaaGreat.Ev
