/- The reckoning, laid to a function that reads slices of rows: contracts. -/
import Derived.Test.YthbighklfajmdaaEvJ
namespace Go.Proofs.Ythbighklfajmdaa.Ev
open Go.RowKit
set_option linter.unusedVariables false
set_option linter.unusedSimpArgs false

/-- The shape of an argument: an int (num 0), a struct or an array of n ints (num n), a slice of elements of esz ints each. -/
inductive Sh where
  | num (n : Nat)
  | u8
  | rows (esz : Nat)

def totR : List Sh → Nat
  | [] => 0
  | x :: r => match x with
    | .num n => (match n with | 0 => 1 | k + 1 => k + 1) + totR r
    | .u8 => 1 + totR r
    | .rows _ => totR r
def nRows : List Sh → Nat
  | [] => 0
  | x :: r => match x with
    | .num n => nRows r
    | .u8 => nRows r
    | .rows _ => nRows r + 1

def toU : SV → Option Int
  | .lit .u8 n => some n
  | .int .u8 n => some n
  | _ => none
theorem toU_den {m : Map} {s : SV} {v : Value} {n : Int} (h : toU s = some n) (hd : Den m s v) : v = .int .u8 n := by
  cases s with
  | lit k n => cases k <;> simp only [toU] at h <;> first | (cases h; exact hd) | cases h
  | int k n => cases k <;> simp only [toU] at h <;> first | (cases h; exact hd) | cases h
  | _ => simp [toU] at h
/-- The rows that an argument shows, and what must hold of it. -/
def rowsOf (rd : Nat → Blk) (s : SV) (esz : Nat) : Option (List (List Int) × List Prop) :=
  match s with
  | .nils => some ([], [])
  | .sl id e off len => match rd id with
    | .arr _ ok e' xs => match Nat.beq e esz && Nat.beq e' esz with
      | true => some ((xs.drop off).take len, [ok = true ∧ off + len ≤ xs.length])
      | false => none
    | _ => none
  | .osl b id e len => match rd id with
    | .arr _ ok e' xs => match Nat.beq e esz && Nat.beq e' esz with
      | true => some (xs.take len, [(b = true ∨ ok = true) ∧ len ≤ xs.length])
      | false => none
    | _ => none
  | _ => none
def appP : List Prop → List Prop → List Prop
  | [], l => l
  | x :: r, l => x :: appP r l
def flatR (rd : Nat → Blk) : List Sh → List SV → Option (List Int × List (List (List Int)) × List Prop)
  | [], l => match l with
    | [] => some ([], [], [])
    | _ => none
  | x :: sh, l => match l with
    | [] => none
    | s :: r => match flatR rd sh r with
      | none => none
      | some (li, lr, lp) => match x with
        | .num n => match n with
          | 0 => match toI s with
            | some y => some (y :: li, lr, lp)
            | none => none
          | k + 1 => match s with
            | .agg cs => match lenIs cs (k + 1) with
              | true => match toIs cs with
                | some xs => match appI xs li with
                  | some z => some (z, lr, lp)
                  | none => none
                | none => none
              | false => none
            | _ => none
        | .u8 => match toU s with
          | some y => some (y :: li, lr, lp)
          | none => none
        | .rows esz => match rowsOf rd s esz with
          | some (xs, ps) => some (li, xs :: lr, appP ps lp)
          | none => none

def mkArgsR : List Sh → Nat → List Int → List (Bool × List (List Int)) → Option (List SV)
  | [], _, l, R => match l with
    | [] => match R with
      | [] => some []
      | _ => none
    | _ => none
  | x :: sh, k, l, R => match x with
    | .num n => match n with
      | 0 => match l with
        | y :: l => match mkArgsR sh k l R with
          | some r => some (.int .i64 y :: r)
          | none => none
        | [] => none
      | j + 1 => match takeI l (j + 1) with
        | some (a, b) => match mkArgsR sh k b R with
          | some r => some (.agg a :: r)
          | none => none
        | none => none
    | .u8 => match l with
      | y :: l => match mkArgsR sh k l R with
        | some r => some (.int .u8 y :: r)
        | none => none
      | [] => none
    | .rows esz => match R with
      | (b, xs) :: R => match mkArgsR sh (k + 1) l R with
        | some r => match b with
          | true => some (.nils :: r)
          | false => some (.sl k esz 0 xs.length :: r)
        | none => none
      | [] => none
def mkBlks : List Sh → List (Bool × List (List Int)) → List Blk
  | [], _ => []
  | x :: sh, R => match x with
    | .num _ => mkBlks sh R
    | .u8 => mkBlks sh R
    | .rows esz => match R with
      | (b, xs) :: R => .arr false (!b) esz xs :: mkBlks sh R
      | [] => []

def nilsOK (R : List (Bool × List (List Int))) : Prop := ∀ x ∈ R, x.1 = true → x.2 = []

def EVR (P : Program) (T : Tab) (C : List Con) (pl : Plans) (rs : List ResultVar) (n : Nat) (code : Code) (sh : List Sh) (l : List Int) (R : List (Bool × List (List Int))) (spec : SV) : Prop :=
  match mkArgsR sh 0 l R with
  | some ss => match padO ss n with
    | some ts => EV P T C pl code ts (mkBlks sh R) (Fin T rs spec)
    | none => False
  | none => False

def rowRun (sh : List Sh) (pre : List Int → List (List (List Int)) → List Prop) (g : List Int → List (List (List Int)) → SV) (nid : Nat) (args : List SV) (rd : Nat → Blk) : Option CRes :=
  match flatR rd sh args with
  | some (l, R, ps) => some ⟨appP ps (pre l R), g l R, [], []⟩
  | none => none

theorem appP_mem : ∀ {a b : List Prop} {p : Prop}, p ∈ appP a b ↔ p ∈ a ∨ p ∈ b
  | [], b, p => by simp [appP]
  | x :: a, b, p => by simp [appP, appP_mem (a := a), or_assoc]

def rowArg (b : Bool) (k esz : Nat) (xs : List (List Int)) : SV := match b with | true => .nils | false => .sl k esz 0 xs.length
/-- One slice, as the call sees it. -/
theorem rowsOf_mk {m : Map} {w : World} {rd : Nat → Blk} {s : SV} {esz : Nat} {xs : List (List Int)} {ps : List Prop} {v : Value} (h : rowsOf rd s esz = some (xs, ps)) (hp : ∀ p ∈ ps, p) (hd : Den m s v) (hB : ∀ id, BlkH m id w (rd id)) :
    ∃ (b : Bool) (q : Option Place), (b = true → xs = []) ∧ ∀ (m' : Map) (k : Nat), m' k = q → Den m' (rowArg b k esz xs) v ∧ BlkH m' k w (.arr false (!b) esz xs) := by
  unfold rowsOf at h
  split at h
  · cases h
    exact ⟨true, none, fun _ => rfl, fun m' k hk => ⟨hd, fun h => (by cases h)⟩⟩
  · rename_i id e off len
    split at h
    rotate_left
    · cases h
    rename_i ow ok e' zs hrd
    split at h
    rotate_left
    · cases h
    rename_i he
    simp only [Bool.and_eq_true] at he
    have h1 := Nat.eq_of_beq_eq_true he.1
    have h2 := Nat.eq_of_beq_eq_true he.2
    subst h1; subst h2
    cases h
    obtain ⟨rfl, hlen⟩ := hp _ (List.mem_singleton.2 rfl)
    have hb := hB id
    rw [hrd] at hb
    obtain ⟨l', vs, ty, fr, hm', hw, hc, _⟩ := hb rfl
    obtain ⟨l, ad, c, hm, rfl, k1, k2, k3⟩ := hd
    rw [hm] at hm'
    cases hm'
    have hl : ((zs.drop off).take len).length = len := by simp; omega
    refine ⟨false, some ⟨l'.b, l'.o + off * e', c⟩, fun h => (by cases h), fun m' k hk => ⟨⟨_, ad, c, hk, by rw [hl], by simp, by rw [hl]; exact k2, fun hc => by rw [k3 hc]; simp⟩, fun _ => ⟨_, vs, ty, fr, hk, hw, fun i j hi hj => ?_, fun h => (by cases h)⟩⟩⟩
    rw [hl] at hi
    have := hc (off + i) j (by omega) hj
    have e1 : at2 ((zs.drop off).take len) i j = at2 zs (off + i) j := by
      simp only [at2, List.getD_eq_getElem?_getD]
      rw [List.getElem?_take_of_lt hi, List.getElem?_drop]
    rw [e1, ← this]
    congr 1
    rw [Nat.add_mul]; simp only; omega
  · rename_i b id e len
    split at h
    rotate_left
    · cases h
    rename_i ow ok e' zs hrd
    split at h
    rotate_left
    · cases h
    rename_i he
    simp only [Bool.and_eq_true] at he
    have h1 := Nat.eq_of_beq_eq_true he.1
    have h2 := Nat.eq_of_beq_eq_true he.2
    subst h1; subst h2
    cases h
    obtain ⟨hbo, hlen⟩ := hp _ (List.mem_singleton.2 rfl)
    cases b with
    | true =>
      obtain ⟨rfl, rfl⟩ := hd.1 rfl
      exact ⟨true, none, fun _ => by simp, fun m' k hk => ⟨rfl, fun h => (by cases h)⟩⟩
    | false =>
      have hok : ok = true := by simpa using hbo
      subst hok
      have hb := hB id
      rw [hrd] at hb
      obtain ⟨l', vs, ty, fr, hm', hw, hc, _⟩ := hb rfl
      obtain ⟨l, ad, c, hm, rfl, k1, k2, k3⟩ := hd.2 rfl
      rw [hm] at hm'
      cases hm'
      have hl : (zs.take len).length = len := by simp; omega
      refine ⟨false, some ⟨l'.b, l'.o, c⟩, fun h => (by cases h), fun m' k hk => ⟨⟨_, ad, c, hk, by rw [hl], by simp, by rw [hl]; exact k2, fun hc => by rw [k3 hc]; simp⟩, fun _ => ⟨_, vs, ty, fr, hk, hw, fun i j hi hj => ?_, fun h => (by cases h)⟩⟩⟩
      rw [hl] at hi
      have := hc i j (by omega) hj
      have e1 : at2 (zs.take len) i j = at2 zs i j := by
        simp only [at2, List.getD_eq_getElem?_getD]
        rw [List.getElem?_take_of_lt hi]
      rw [e1, ← this]
  · cases h

/-- All arguments, as the call sees them. -/
theorem flatR_mk {m : Map} {w : World} {rd : Nat → Blk} (hB : ∀ id, BlkH m id w (rd id)) : ∀ {sh : List Sh} {args : List SV} {l : List Int} {Rs : List (List (List Int))} {ps : List Prop} {vs : List Value}, flatR rd sh args = some (l, Rs, ps) → (∀ p ∈ ps, p) → All2 (Den m) args vs →
    l.length = totR sh ∧ Rs.length = nRows sh ∧ ∃ (R : List (Bool × List (List Int))) (Q : List (Option Place)), R.map (·.2) = Rs ∧ nilsOK R ∧ Q.length = R.length ∧ (mkBlks sh R).length = R.length ∧
      ∀ (k : Nat), ∃ ss, mkArgsR sh k l R = some ss ∧ ∀ m' : Map, (∀ i q, Q[i]? = some q → m' (k + i) = q) → All2 (Den m') ss vs ∧ ∀ i, BlkH m' (k + i) w (getB (mkBlks sh R) i)
  | [], args, l, Rs, ps, vs, h, hp, hd => by
    simp only [flatR] at h
    split at h
    · cases h
      cases vs with
      | cons => exact hd.elim
      | nil => exact ⟨rfl, rfl, [], [], rfl, fun x hx => (by cases hx), rfl, rfl, fun k => ⟨[], rfl, fun m' _ => ⟨trivial, fun i => trivial⟩⟩⟩
    · cases h
  | x :: sh, args, l, Rs, ps, vs, h, hp, hd => by
    simp only [flatR] at h
    split at h
    · cases h
    rename_i s r
    cases vs with
    | nil => exact hd.elim
    | cons v vs =>
    obtain ⟨d1, d2⟩ := hd
    split at h
    · cases h
    rename_i li lr lp hfl
    split at h
    · rename_i n
      split at h
      · split at h
        rotate_left
        · cases h
        rename_i y hy
        cases h
        obtain ⟨g1, g2, R, Q, g3, g4, g5, g6, g7⟩ := flatR_mk hB hfl hp d2
        refine ⟨by simp [totR, g1]; omega, g2, R, Q, g3, g4, g5, g6, fun k => ?_⟩
        obtain ⟨ss, j1, j2⟩ := g7 k
        refine ⟨.int .i64 y :: ss, by simp only [mkArgsR, j1], fun m' hm' => ?_⟩
        obtain ⟨q1, q2⟩ := j2 m' hm'
        exact ⟨⟨toI_den hy d1, q1⟩, q2⟩
      · rename_i j
        split at h
        rotate_left
        · cases h
        rename_i cs
        split at h
        rotate_left
        · cases h
        rename_i hlen
        split at h
        rotate_left
        · cases h
        rename_i xs hxs
        split at h
        rotate_left
        · cases h
        rename_i z hz
        cases h
        obtain rfl := appI_eq hz
        have hxl : xs.length = j + 1 := by rw [toIs_length hxs, lenIs_eq hlen]
        obtain ⟨g1, g2, R, Q, g3, g4, g5, g6, g7⟩ := flatR_mk hB hfl hp d2
        refine ⟨by simp [totR, g1, hxl], g2, R, Q, g3, g4, g5, g6, fun k => ?_⟩
        obtain ⟨ss, j1, j2⟩ := g7 k
        have ht := takeI_app xs li
        rw [hxl] at ht
        refine ⟨.agg (xs.map (SV.int .i64)) :: ss, by simp only [mkArgsR, ht, j1], fun m' hm' => ?_⟩
        obtain ⟨q1, q2⟩ := j2 m' hm'
        obtain ⟨us, rfl, hu⟩ := d1
        exact ⟨⟨⟨us, rfl, ints_den (toIs_den hxs hu)⟩, q1⟩, q2⟩
    · split at h
      rotate_left
      · cases h
      rename_i y hy
      cases h
      obtain ⟨g1, g2, R, Q, g3, g4, g5, g6, g7⟩ := flatR_mk hB hfl hp d2
      refine ⟨by simp [totR, g1]; omega, g2, R, Q, g3, g4, g5, g6, fun k => ?_⟩
      obtain ⟨ss, j1, j2⟩ := g7 k
      refine ⟨.int .u8 y :: ss, by simp only [mkArgsR, j1], fun m' hm' => ?_⟩
      obtain ⟨q1, q2⟩ := j2 m' hm'
      exact ⟨⟨toU_den hy d1, q1⟩, q2⟩
    · rename_i esz
      split at h
      rotate_left
      · cases h
      rename_i xs ps' hxs
      cases h
      obtain ⟨g1, g2, R, Q, g3, g4, g5, g6, g7⟩ := flatR_mk hB hfl (fun p hq => hp p (appP_mem.2 (Or.inr hq))) d2
      obtain ⟨b, q, f1, f2⟩ := rowsOf_mk hxs (fun p hq => hp p (appP_mem.2 (Or.inl hq))) d1 hB
      refine ⟨by simp [totR, g1], by simp [nRows, g2], (b, xs) :: R, q :: Q, by simp [g3], fun x hx => ?_, by simp [g5], by simp [mkBlks, g6], fun k => ?_⟩
      · rcases List.mem_cons.1 hx with rfl | hx
        · exact f1
        · exact g4 x hx
      obtain ⟨ss, j1, j2⟩ := g7 (k + 1)
      refine ⟨rowArg b k esz xs :: ss, by simp only [mkArgsR, j1]; cases b <;> rfl, fun m' hm' => ?_⟩
      obtain ⟨q1, q2⟩ := j2 m' (fun i q hi => by rw [show k + 1 + i = k + (i + 1) by omega]; exact hm' (i + 1) q (by simpa using hi))
      obtain ⟨e1, e2⟩ := f2 m' k (hm' 0 q rfl)
      refine ⟨⟨e1, q1⟩, fun i => ?_⟩
      cases i with
      | zero => exact e2
      | succ i =>
        have := q2 i
        rw [show k + 1 + i = k + (i + 1) by omega] at this
        exact this

theorem mkBlks_own : ∀ {sh : List Sh} {R : List (Bool × List (List Int))} {i : Nat}, (getB (mkBlks sh R) i).own = false
  | [], R, i => rfl
  | .num _ :: sh, R, i => mkBlks_own (sh := sh)
  | .u8 :: sh, R, i => mkBlks_own (sh := sh)
  | .rows esz :: sh, [], i => rfl
  | .rows esz :: sh, (b, xs) :: R, 0 => rfl
  | .rows esz :: sh, (b, xs) :: R, i + 1 => mkBlks_own (sh := sh) (R := R) (i := i)

/-- As a call begins. -/
theorem holds_start' {m : Map} {w : World} {ss ts : List SV} {vs : List Value} {n : Nat} {h : List Blk} (hp : padO ss n = some ts) (hd : All2 (Den m) ss vs) (hb : ∀ i, BlkH m i w (getB h i)) (ho : ∀ i, (getB h i).own = false) :
    Holds w.heap.size (fun _ => False) w m ⟨ts, h⟩ { tmps := vs.toArray ++ Array.replicate (n - vs.toArray.size) undef, defers := [] } w := by
  have h0 := holds_start (bad := fun _ => False) (Nat.le_refl w.heap.size) hp hd
  exact ⟨h0.defers, h0.size, h0.tmp, hb, fun i j p q _ h1 => (by rw [ho] at h1; cases h1), fun i p h1 => (by rw [ho] at h1; cases h1), h0.below, h0.base⟩

/-- A CONTRACT of a function of ints, structs of ints and slices of those that only reads. -/
theorem con_rows {P : Program} {T : Tab} {C : List Con} {pl : Plans} {f : FuncId} {fn : Func} {code : Code} (hf : P.funcs[f]? = some fn) (hb : fn.body = some code) (hn : (fn.name == "runtime.NumGoroutine") = false)
    (hT : T.Ok P) (hC : Cons.Ok P C) (hm : P.follows .mixedOrders = true) (hpl : plansOK pl code = true) (sh : List Sh) (pre : List Int → List (List (List Int)) → List Prop) (g : List Int → List (List (List Int)) → SV)
    (h : ∀ l R, l.length = totR sh → R.length = nRows sh → nilsOK R → (∀ p ∈ pre l (R.map (·.2)), p) → EVR P T C pl fn.results.toList fn.ntmps code sh l R (g l (R.map (·.2)))) : Con.Ok P ⟨f, rowRun sh pre g⟩ := by
  refine ⟨⟨fn, hf, by rw [hb]; rfl, hn⟩, fun nid args rd r hr hp m w vs hd hB hap hfr hus => ?_⟩
  simp only [rowRun] at hr
  split at hr
  rotate_left
  · cases hr
  rename_i l Rs ps hl
  cases hr
  obtain ⟨h1, h2, R, Q, g3, g4, g5, g6, g7⟩ := flatR_mk hB hl (fun p hq => hp p (appP_mem.2 (Or.inl hq))) hd
  subst g3
  have hev := h l R h1 (by simpa using h2) g4 (fun p hq => hp p (appP_mem.2 (Or.inr hq)))
  obtain ⟨ss, j1, j2⟩ := g7 0
  unfold EVR at hev
  rw [j1] at hev
  simp only at hev
  split at hev
  rotate_left
  · exact hev.elim
  rename_i ts hts
  obtain ⟨q1, q2⟩ := j2 (fun i => (Q[i]?).join) (fun i q hi => by simp [hi])
  have hs := (EV_sound hT hC hm code _ _ _ hpl hev).out w.heap.size (fun _ => False) w (fun i => (Q[i]?).join) _ w (fun id hid => by
    rw [g6, ← g5]
    by_cases hlt : id < Q.length
    · exact hlt
    · exact absurd (by simp [List.getElem?_eq_none (Nat.le_of_not_lt hlt)]) hid) (holds_start' hts q1 (fun i => by have := q2 i; rwa [Nat.zero_add] at this) (fun i => mkBlks_own))
  refine calls_of_wp hf hb (wp_mono hs fun e a' w' hq => ?_)
  obtain ⟨st', m', k2, k3, k4⟩ := hq
  have fin : FinR T fn.results.toList (g l (R.map (·.2))) st'.tmps st'.heap → a'.defers = [] ∧ ∃ v, (results fn a'.tmps).run P w' = .ok v w' ∧ CallPost rd m nid ⟨appP ps (pre l (R.map (·.2))), g l (R.map (·.2)), [], []⟩ w (.returned v) w' := fun hfin => by
    unfold FinR at hfin
    split at hfin
    rotate_left
    · exact hfin.elim
    rename_i r hr
    obtain ⟨v, g1, g2⟩ := resS_sound hT k3 hr (fun l' e => by
      subst e
      unfold Sim at hfin
      split at hfin
      · rename_i heq; cases heq
        split at hfin
        · exact SimM.part hfin
        · exact hfin.elim
      · rename_i hne; exact absurd rfl (hne l'))
    refine ⟨k3.defers, v, g1, v, m, rfl, fun _ _ => rfl, hfin.den g2, fun k b hk => by simp at hk, fun k b p hk => by simp at hk, fun k k' b b' p p' _ hk => by simp at hk, ?_⟩
    exact k3.below.mono (Nat.le_refl _) (fun k _ hbad => hbad.elim)
  cases e with
  | ret => exact fin k4
  | normal => exact fin k4
  | _ => exact k4.elim
end Go.Proofs.Ythbighklfajmdaa.Ev
