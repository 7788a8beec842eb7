/- The reckoning, laid to a function that reads slices of rows and makes new ones: contracts. -/
import Derived.Test.YthbighklfajmdaaEvK
namespace Go.Proofs.Ythbighklfajmdaa.Ev
open Go.RowKit
set_option linter.unusedVariables false
set_option linter.unusedSimpArgs false

/-- A result: a number or numbers, or a new slice of rows (nil where b holds). -/
inductive RS where
  | val (s : SV)
  | rows (b : Bool) (esz : Nat) (xs : List (List Int))

def rsVals (n : Nat) : List RS → List SV
  | [] => []
  | x :: r => match x with
    | .val s => s :: rsVals n r
    | .rows b esz xs => .osl b n esz xs.length :: rsVals (n + 1) r
def rsBlks : List RS → List Blk
  | [] => []
  | x :: r => match x with
    | .val _ => rsBlks r
    | .rows b esz xs => .arr true (!b) esz xs :: rsBlks r
def rsVal (n : Nat) (l : List RS) : SV :=
  match l with
  | [] => .tup []
  | x :: r => match r with
    | [] => match x with
      | .val s => s
      | .rows b esz xs => .osl b n esz xs.length
    | _ => .tup (rsVals n l)

def RSim (h : List Blk) : List Nat → List RS → List SV → Prop
  | seen, [], vs => match vs with
    | [] => True
    | _ => False
  | seen, x :: r, vs => match vs with
    | [] => False
    | v :: vs => match x with
      | .val s => SimA v s ∧ RSim h seen r vs
      | .rows b esz xs => match v with
        | .nils => Leaf (b = true) ∧ Leaf (xs = []) ∧ RSim h seen r vs
        | .sl id e off len => match getB h id with
          | .arr true ok e' ys => match Nat.beq e esz && Nat.beq e' esz && !memN id seen with
            | true => Leaf (b = false) ∧ VC (ok = true) ∧ VC (off = 0) ∧ VC (len ≤ ys.length) ∧ Leaf (ys.take len = xs) ∧ RSim h (id :: seen) r vs
            | false => False
          | _ => False
        | .osl b' id e len => match getB h id with
          | .arr true ok e' ys => match Nat.beq e esz && Nat.beq e' esz && !memN id seen with
            | true => Leaf (b' = b) ∧ VC (b = false → ok = true) ∧ VC (len ≤ ys.length) ∧ Leaf (ys.take len = xs) ∧ RSim h (id :: seen) r vs
            | false => False
          | _ => False
        | _ => False

def RFin (T : Tab) (rs : List ResultVar) (spec : List RS) (t : List SV) (h : List Blk) : Prop :=
  match resS T ⟨t, h⟩ rs with
  | some r => match spec with
    | [] => False
    | x :: y => match y with
      | [] => RSim h [] [x] [r]
      | _ => match r with
        | .tup l => RSim h [] (x :: y) l
        | _ => False
  | none => False
def FinG (T : Tab) (rs : List ResultVar) (spec : List RS) (e : Exit) (t : List SV) (h : List Blk) : Prop :=
  match e with
  | .ret => RFin T rs spec t h
  | .normal => RFin T rs spec t h
  | _ => False

/-- The rows that an argument shows, whether it is nil, and what must hold of it. -/
def rowsOfG (rd : Nat → Blk) (s : SV) (esz : Nat) : Option ((Bool × List (List Int)) × List Prop) :=
  match s with
  | .nils => some ((true, []), [])
  | .sl id e off len => match rd id with
    | .arr _ ok e' xs => match Nat.beq e esz && Nat.beq e' esz with
      | true => some ((false, (xs.drop off).take len), [ok = true, off + len ≤ xs.length])
      | false => none
    | _ => none
  | .osl b id e len => match rd id with
    | .arr _ ok e' xs => match Nat.beq e esz && Nat.beq e' esz with
      | true => some ((b, xs.take len), [b = true ∨ ok = true, len ≤ xs.length])
      | false => none
    | _ => none
  | _ => none
def flatG (rd : Nat → Blk) : List Sh → List SV → Option (List Int × List (Bool × List (List Int)) × List Prop)
  | [], l => match l with
    | [] => some ([], [], [])
    | _ => none
  | x :: sh, l => match l with
    | [] => none
    | s :: r => match flatG rd sh r with
      | none => none
      | some (li, lr, lp) => match x with
        | .num n => match n with
          | 0 => match toI s with
            | some y => some (y :: li, lr, lp)
            | none => none
          | k + 1 => match s with
            | .agg cs => match lenIs cs (k + 1) with
              | true => match toIs cs with
                | some xs => match appI xs li with
                  | some z => some (z, lr, lp)
                  | none => none
                | none => none
              | false => none
            | _ => none
        | .u8 => match toU s with
          | some y => some (y :: li, lr, lp)
          | none => none
        | .rows esz => match rowsOfG rd s esz with
          | some (xs, ps) => some (li, xs :: lr, appP ps lp)
          | none => none
def genRun (sh : List Sh) (pre : List Int → List (Bool × List (List Int)) → List Prop) (g : List Int → List (Bool × List (List Int)) → List RS) (nid : Nat) (args : List SV) (rd : Nat → Blk) : Option CRes :=
  match flatG rd sh args with
  | some (l, R, ps) => some ⟨appP ps (pre l R), rsVal nid (g l R), rsBlks (g l R), []⟩
  | none => none

def EVG (P : Program) (T : Tab) (C : List Con) (pl : Plans) (rs : List ResultVar) (n : Nat) (code : Code) (sh : List Sh) (l : List Int) (R : List (Bool × List (List Int))) (spec : List RS) : Prop :=
  match mkArgsR sh 0 l R with
  | some ss => match padO ss n with
    | some ts => EV P T C pl code ts (mkBlks sh R) (FinG T rs spec)
    | none => False
  | none => False

theorem rowsOfG_mk {m : Map} {w : World} {rd : Nat → Blk} {s : SV} {esz : Nat} {x : Bool × List (List Int)} {ps : List Prop} {v : Value} (h : rowsOfG rd s esz = some (x, ps)) (hp : ∀ p ∈ ps, p) (hd : Den m s v) (hB : ∀ id, BlkH m id w (rd id)) :
    ∃ (q : Option Place), (x.1 = true → x.2 = []) ∧ ∀ (m' : Map) (k : Nat), m' k = q → Den m' (rowArg x.1 k esz x.2) v ∧ BlkH m' k w (.arr false (!x.1) esz x.2) := by
  unfold rowsOfG at h
  split at h
  · cases h
    exact ⟨none, fun _ => rfl, fun m' k hk => ⟨hd, fun h => (by cases h)⟩⟩
  · rename_i id e off len
    split at h
    rotate_left
    · cases h
    rename_i ow ok e' zs hrd
    split at h
    rotate_left
    · cases h
    rename_i he
    simp only [Bool.and_eq_true] at he
    have h1 := Nat.eq_of_beq_eq_true he.1
    have h2 := Nat.eq_of_beq_eq_true he.2
    subst h1; subst h2
    cases h
    have hok : ok = true := hp _ (by simp)
    have hlen : off + len ≤ zs.length := hp _ (by simp)
    have hr : rowsOf rd (.sl id e' off len) e' = some ((zs.drop off).take len, [ok = true ∧ off + len ≤ zs.length]) := by simp only [rowsOf, hrd, Nat.beq_refl, Bool.and_true]
    have hb := hB id
    rw [hrd] at hb
    obtain ⟨l', vs, ty, fr, hm', hw, hc, _⟩ := hb hok
    obtain ⟨l, ad, c, hm, rfl, k1, k2, k3⟩ := hd
    rw [hm] at hm'
    cases hm'
    have hl : ((zs.drop off).take len).length = len := by simp; omega
    refine ⟨some ⟨l'.b, l'.o + off * e', c⟩, fun h => (by cases h), fun m' k hk => ⟨⟨_, ad, c, hk, by rw [hl], by simp, by rw [hl]; exact k2, fun hc => by rw [k3 hc]; simp⟩, fun _ => ⟨_, vs, ty, fr, hk, hw, fun i j hi hj => ?_, fun h => (by cases h)⟩⟩⟩
    rw [hl] at hi
    have := hc (off + i) j (by omega) hj
    have e1 : at2 ((zs.drop off).take len) i j = at2 zs (off + i) j := by
      simp only [at2, List.getD_eq_getElem?_getD]
      rw [List.getElem?_take_of_lt hi, List.getElem?_drop]
    rw [e1, ← this]
    congr 1
    rw [Nat.add_mul]; simp only; omega
  · rename_i b id e len
    split at h
    rotate_left
    · cases h
    rename_i ow ok e' zs hrd
    split at h
    rotate_left
    · cases h
    rename_i he
    simp only [Bool.and_eq_true] at he
    have h1 := Nat.eq_of_beq_eq_true he.1
    have h2 := Nat.eq_of_beq_eq_true he.2
    subst h1; subst h2
    cases h
    have hbo : b = true ∨ ok = true := hp _ (by simp)
    have hlen : len ≤ zs.length := hp _ (by simp)
    cases b with
    | true =>
      obtain ⟨rfl, rfl⟩ := hd.1 rfl
      exact ⟨none, fun _ => by simp, fun m' k hk => ⟨rfl, fun h => (by cases h)⟩⟩
    | false =>
      have hok : ok = true := by simpa using hbo
      subst hok
      have hb := hB id
      rw [hrd] at hb
      obtain ⟨l', vs, ty, fr, hm', hw, hc, _⟩ := hb rfl
      obtain ⟨l, ad, c, hm, rfl, k1, k2, k3⟩ := hd.2 rfl
      rw [hm] at hm'
      cases hm'
      have hl : (zs.take len).length = len := by simp; omega
      refine ⟨some ⟨l'.b, l'.o, c⟩, fun h => (by cases h), fun m' k hk => ⟨⟨_, ad, c, hk, by rw [hl], by simp, by rw [hl]; exact k2, fun hc => by rw [k3 hc]; simp⟩, fun _ => ⟨_, vs, ty, fr, hk, hw, fun i j hi hj => ?_, fun h => (by cases h)⟩⟩⟩
      rw [hl] at hi
      have := hc i j (by omega) hj
      have e1 : at2 (zs.take len) i j = at2 zs i j := by
        simp only [at2, List.getD_eq_getElem?_getD]
        rw [List.getElem?_take_of_lt hi]
      rw [e1, ← this]
  · cases h

theorem flatG_mk {m : Map} {w : World} {rd : Nat → Blk} (hB : ∀ id, BlkH m id w (rd id)) : ∀ {sh : List Sh} {args : List SV} {l : List Int} {R : List (Bool × List (List Int))} {ps : List Prop} {vs : List Value}, flatG rd sh args = some (l, R, ps) → (∀ p ∈ ps, p) → All2 (Den m) args vs →
    l.length = totR sh ∧ R.length = nRows sh ∧ nilsOK R ∧ (mkBlks sh R).length = R.length ∧ ∃ (Q : List (Option Place)), Q.length = R.length ∧
      ∀ (k : Nat), ∃ ss, mkArgsR sh k l R = some ss ∧ ∀ m' : Map, (∀ i q, Q[i]? = some q → m' (k + i) = q) → All2 (Den m') ss vs ∧ ∀ i, BlkH m' (k + i) w (getB (mkBlks sh R) i)
  | [], args, l, R, ps, vs, h, hp, hd => by
    simp only [flatG] at h
    split at h
    · cases h
      cases vs with
      | cons => exact hd.elim
      | nil => exact ⟨rfl, rfl, fun x hx => (by cases hx), rfl, [], rfl, fun k => ⟨[], rfl, fun m' _ => ⟨trivial, fun i => trivial⟩⟩⟩
    · cases h
  | x :: sh, args, l, R, ps, vs, h, hp, hd => by
    simp only [flatG] at h
    split at h
    · cases h
    rename_i s r
    cases vs with
    | nil => exact hd.elim
    | cons v vs =>
    obtain ⟨d1, d2⟩ := hd
    split at h
    · cases h
    rename_i li lr lp hfl
    split at h
    · rename_i n
      split at h
      · split at h
        rotate_left
        · cases h
        rename_i y hy
        cases h
        obtain ⟨g1, g2, g4, g6, Q, g5, g7⟩ := flatG_mk hB hfl hp d2
        refine ⟨by simp [totR, g1]; omega, g2, g4, g6, Q, g5, fun k => ?_⟩
        obtain ⟨ss, j1, j2⟩ := g7 k
        refine ⟨.int .i64 y :: ss, by simp only [mkArgsR, j1], fun m' hm' => ?_⟩
        obtain ⟨q1, q2⟩ := j2 m' hm'
        exact ⟨⟨toI_den hy d1, q1⟩, q2⟩
      · rename_i j
        split at h
        rotate_left
        · cases h
        rename_i cs
        split at h
        rotate_left
        · cases h
        rename_i hlen
        split at h
        rotate_left
        · cases h
        rename_i xs hxs
        split at h
        rotate_left
        · cases h
        rename_i z hz
        cases h
        obtain rfl := appI_eq hz
        have hxl : xs.length = j + 1 := by rw [toIs_length hxs, lenIs_eq hlen]
        obtain ⟨g1, g2, g4, g6, Q, g5, g7⟩ := flatG_mk hB hfl hp d2
        refine ⟨by simp [totR, g1, hxl], g2, g4, g6, Q, g5, fun k => ?_⟩
        obtain ⟨ss, j1, j2⟩ := g7 k
        have ht := takeI_app xs li
        rw [hxl] at ht
        refine ⟨.agg (xs.map (SV.int .i64)) :: ss, by simp only [mkArgsR, ht, j1], fun m' hm' => ?_⟩
        obtain ⟨q1, q2⟩ := j2 m' hm'
        obtain ⟨us, rfl, hu⟩ := d1
        exact ⟨⟨⟨us, rfl, ints_den (toIs_den hxs hu)⟩, q1⟩, q2⟩
    · split at h
      rotate_left
      · cases h
      rename_i y hy
      cases h
      obtain ⟨g1, g2, g4, g6, Q, g5, g7⟩ := flatG_mk hB hfl hp d2
      refine ⟨by simp [totR, g1]; omega, g2, g4, g6, Q, g5, fun k => ?_⟩
      obtain ⟨ss, j1, j2⟩ := g7 k
      refine ⟨.int .u8 y :: ss, by simp only [mkArgsR, j1], fun m' hm' => ?_⟩
      obtain ⟨q1, q2⟩ := j2 m' hm'
      exact ⟨⟨toU_den hy d1, q1⟩, q2⟩
    · rename_i esz
      split at h
      rotate_left
      · cases h
      rename_i xs ps' hxs
      cases h
      obtain ⟨g1, g2, g4, g6, Q, g5, g7⟩ := flatG_mk hB hfl (fun p hq => hp p (appP_mem.2 (Or.inr hq))) d2
      obtain ⟨q, f1, f2⟩ := rowsOfG_mk hxs (fun p hq => hp p (appP_mem.2 (Or.inl hq))) d1 hB
      refine ⟨by simp [totR, g1], by simp [nRows, g2], fun x hx => ?_, by obtain ⟨b, xs⟩ := xs; simp [mkBlks, g6], q :: Q, by simp [g5], fun k => ?_⟩
      · rcases List.mem_cons.1 hx with rfl | hx
        · exact f1
        · exact g4 x hx
      obtain ⟨ss, j1, j2⟩ := g7 (k + 1)
      obtain ⟨b, xs⟩ := xs
      refine ⟨rowArg b k esz xs :: ss, by simp only [mkArgsR, j1]; cases b <;> rfl, fun m' hm' => ?_⟩
      obtain ⟨q1, q2⟩ := j2 m' (fun i q hi => by rw [show k + 1 + i = k + (i + 1) by omega]; exact hm' (i + 1) q (by simpa using hi))
      obtain ⟨e1, e2⟩ := f2 m' k (hm' 0 q rfl)
      refine ⟨⟨e1, q1⟩, fun i => ?_⟩
      cases i with
      | zero => exact e2
      | succ i =>
        have := q2 i
        rw [show k + 1 + i = k + (i + 1) by omega] at this
        exact this

theorem memN_no {i : Nat} : ∀ {l : List Nat}, memN i l = false → i ∉ l
  | [], _ => by simp
  | j :: l, h => by
    simp only [memN] at h
    split at h
    · cases h
    · rename_i hj
      simp only [List.mem_cons, not_or]
      exact ⟨(fun e => by { rw [e, Nat.beq_refl] at hj; cases hj }), memN_no h⟩

/-- A row, told by its first elements and under another name. -/
theorem blk_as {m mm : Map} {id n esz len : Nat} {ys : List (List Int)} {w : World} (hB : BlkH m id w (.arr true true esz ys)) (hq : mm n = m id) (hlen : len ≤ ys.length) : BlkH mm n w (.arr true true esz (ys.take len)) := by
  obtain ⟨l, vs, ty, fr, hm, hw, hd, hown⟩ := hB rfl
  obtain ⟨rfl, ho, hvs, hxl⟩ := hown rfl
  have hl : (ys.take len).length = len := by simp; omega
  refine fun _ => ⟨l, vs, ty, (0, 0), by rw [hq, hm], hw, fun i j hi hj => ?_, fun _ => ⟨rfl, ho, hvs, by omega⟩⟩
  rw [hl] at hi
  rw [at2_take hi]
  exact hd i j (by omega) hj

/-- The results, as the caller sees them. -/
theorem RSim.out {m : Map} {w : World} {h : List Blk} {B : Nat} (hB : ∀ id, BlkH m id w (getB h id)) (hap : ∀ i j p q, i ≠ j → (getB h i).own = true → (getB h j).live = true → m i = some p → m j = some q → p.b ≠ q.b) (hown : ∀ i p, (getB h i).own = true → m i = some p → B ≤ p.b) :
    ∀ {spec : List RS} {seen : List Nat} {vs : List SV} {us : List Value}, RSim h seen spec vs → All2 (DenA m) vs us →
    ∃ Q : List (Option Place), Q.length = (rsBlks spec).length ∧
      (∀ (mm : Map) (n : Nat), (∀ i q, Q[i]? = some q → mm (n + i) = q) → All2 (DenA mm) (rsVals n spec) us ∧ ∀ k b, (rsBlks spec)[k]? = some b → BlkH mm (n + k) w b) ∧
      (∀ (k : Nat) (p : Place), Q[k]? = some (some p) → B ≤ p.b ∧ ∃ id, id ∉ seen ∧ (getB h id).own = true ∧ m id = some p) ∧
      (∀ (k k' : Nat) (p p' : Place), k ≠ k' → Q[k]? = some (some p) → Q[k']? = some (some p') → p.b ≠ p'.b)
  | [], seen, vs, us, hs, hd => by
    simp only [RSim] at hs
    split at hs
    · cases us with
      | cons => exact hd.elim
      | nil => exact ⟨[], rfl, fun mm n _ => ⟨trivial, fun k b hk => by simp [rsBlks] at hk⟩, fun k p hk => by simp at hk, fun k k' p p' _ hk => by simp at hk⟩
    · exact hs.elim
  | x :: r, seen, vs, us, hs, hd => by
    simp only [RSim] at hs
    split at hs
    · exact hs.elim
    rename_i v vs
    cases us with
    | nil => exact hd.elim
    | cons u us =>
    obtain ⟨d1, d2⟩ := hd
    -- one more, with its place
    have step : ∀ (b : Bool) (esz : Nat) (xs : List (List Int)) (q : Option Place) (seen' : List Nat), x = .rows b esz xs → RSim h seen' r vs → (∀ i, i ∈ seen → i ∈ seen') →
        (∀ (mm : Map) (n : Nat), mm n = q → DenA mm (.osl b n esz xs.length) u ∧ BlkH mm n w (.arr true (!b) esz xs)) →
        (∀ p, q = some p → ∃ id, id ∈ seen' ∧ id ∉ seen ∧ (getB h id).own = true ∧ m id = some p) →
        ∃ Q : List (Option Place), Q.length = (rsBlks (x :: r)).length ∧
      (∀ (mm : Map) (n : Nat), (∀ i q, Q[i]? = some q → mm (n + i) = q) → All2 (DenA mm) (rsVals n (x :: r)) (u :: us) ∧ ∀ k b, (rsBlks (x :: r))[k]? = some b → BlkH mm (n + k) w b) ∧
      (∀ (k : Nat) (p : Place), Q[k]? = some (some p) → B ≤ p.b ∧ ∃ id, id ∉ seen ∧ (getB h id).own = true ∧ m id = some p) ∧
      (∀ (k k' : Nat) (p p' : Place), k ≠ k' → Q[k]? = some (some p) → Q[k']? = some (some p') → p.b ≠ p'.b) := by
      intro b esz xs q seen' hx hr hsub hq1 hq2
      subst hx
      obtain ⟨Q, e1, e2, e3, e4⟩ := RSim.out hB hap hown hr d2
      refine ⟨q :: Q, by simp [rsBlks, e1], fun mm n hmm => ?_, fun k p hk => ?_, fun k k' p p' hkk hk hk' => ?_⟩
      · obtain ⟨f1, f2⟩ := e2 mm (n + 1) (fun i q' hi => by rw [show n + 1 + i = n + (i + 1) by omega]; exact hmm (i + 1) q' (by simpa using hi))
        obtain ⟨g1, g2⟩ := hq1 mm n (hmm 0 q rfl)
        refine ⟨⟨g1, f1⟩, fun k b' hk => ?_⟩
        cases k with
        | zero => simp [rsBlks] at hk; subst hk; exact g2
        | succ k =>
          have := f2 k b' (by simpa [rsBlks] using hk)
          rwa [show n + 1 + k = n + (k + 1) by omega] at this
      · cases k with
        | zero =>
          simp at hk
          obtain ⟨id, h1, h2, h3, h4⟩ := hq2 p hk
          exact ⟨hown id p h3 h4, id, h2, h3, h4⟩
        | succ k =>
          obtain ⟨h1, id, h2, h3, h4⟩ := e3 k p (by simpa using hk)
          exact ⟨h1, id, fun hm => h2 (hsub _ hm), h3, h4⟩
      · cases k with
        | zero =>
          cases k' with
          | zero => exact absurd rfl hkk
          | succ k' =>
            simp at hk
            obtain ⟨id, h1, h2, h3, h4⟩ := hq2 p hk
            obtain ⟨_, id', h2', h3', h4'⟩ := e3 k' p' (by simpa using hk')
            exact hap id id' p p' (fun e => h2' (e ▸ h1)) h3 (Blk.live_of_own h3') h4 h4'
        | succ k =>
          cases k' with
          | zero =>
            simp at hk'
            obtain ⟨id, h1, h2, h3, h4⟩ := hq2 p' hk'
            obtain ⟨_, id', h2', h3', h4'⟩ := e3 k p (by simpa using hk)
            exact (hap id id' p' p (fun e => h2' (e ▸ h1)) h3 (Blk.live_of_own h3') h4 h4').symm
          | succ k' => exact e4 k k' p p' (by omega) (by simpa using hk) (by simpa using hk')
    split at hs
    · rename_i s
      obtain ⟨h1, h2⟩ := hs
      obtain ⟨Q, e1, e2, e3, e4⟩ := RSim.out hB hap hown h2 d2
      refine ⟨Q, by simpa [rsBlks] using e1, fun mm n hmm => ?_, e3, e4⟩
      obtain ⟨f1, f2⟩ := e2 mm n hmm
      exact ⟨⟨((h1.den (m' := mm) d1.d).2), f1⟩, f2⟩
    · rename_i b esz xs
      split at hs
      · obtain ⟨h1, h2, h3⟩ := hs
        obtain rfl := h1.out
        obtain rfl := h2.out
        exact step true esz [] none seen rfl h3 (fun _ h => h) (fun mm n hmm => ⟨⟨fun _ => ⟨d1, rfl⟩, fun h => (by cases h)⟩, fun h => (by cases h)⟩) (fun p h => by cases h)
      · rename_i id e off len
        split at hs
        rotate_left
        · exact hs.elim
        rename_i ok e' ys hg
        split at hs
        rotate_left
        · exact hs.elim
        rename_i hc
        simp only [Bool.and_eq_true, Bool.not_eq_true'] at hc
        obtain rfl := Nat.eq_of_beq_eq_true hc.1.1
        obtain rfl := Nat.eq_of_beq_eq_true hc.1.2
        obtain ⟨h1, h2, h3, h4, h5, h6⟩ := hs
        obtain rfl := h1.out
        obtain rfl := h2.out
        obtain rfl := h3.out
        obtain rfl := h5.out
        have hlen := h4.out
        have hBi := hB id
        rw [hg] at hBi
        obtain ⟨l, ad, c, hm, rfl, k1, k2, k3⟩ := d1
        have hl : (ys.take len).length = len := by simp; omega
        exact step false e' (ys.take len) (m id) (id :: seen) rfl h6 (fun _ h => List.mem_cons_of_mem _ h) (fun mm n hmm => ⟨⟨fun h => (by cases h), fun _ => ⟨l, ad, c, by rw [hmm, hm], by rw [hl], by omega, by omega, fun h => by rw [k3 h]; simp⟩⟩, blk_as hBi hmm hlen⟩)
          (fun p hp => ⟨id, List.mem_cons_self, memN_no hc.2, by rw [hg]; rfl, hp⟩)
      · rename_i b' id e len
        split at hs
        rotate_left
        · exact hs.elim
        rename_i ok e' ys hg
        split at hs
        rotate_left
        · exact hs.elim
        rename_i hc
        simp only [Bool.and_eq_true, Bool.not_eq_true'] at hc
        obtain rfl := Nat.eq_of_beq_eq_true hc.1.1
        obtain rfl := Nat.eq_of_beq_eq_true hc.1.2
        obtain ⟨h1, h2, h4, h5, h6⟩ := hs
        obtain rfl := h1.out
        obtain rfl := h5.out
        have hlen := h4.out
        have hl : (ys.take len).length = len := by simp; omega
        cases b' with
        | true =>
          obtain ⟨rfl, rfl⟩ := d1.1 rfl
          exact step true e' (ys.take 0) none (id :: seen) rfl h6 (fun _ h => List.mem_cons_of_mem _ h) (fun mm n hmm => ⟨⟨fun _ => ⟨rfl, by simp⟩, fun h => (by cases h)⟩, fun h => (by cases h)⟩) (fun p h => by cases h)
        | false =>
          obtain rfl := h2.out rfl
          have hBi := hB id
          rw [hg] at hBi
          obtain ⟨l, ad, c, hm, rfl, k1, k2, k3⟩ := d1.2 rfl
          exact step false e' (ys.take len) (m id) (id :: seen) rfl h6 (fun _ h => List.mem_cons_of_mem _ h) (fun mm n hmm => ⟨⟨fun h => (by cases h), fun _ => ⟨l, ad, c, by rw [hmm, hm], by rw [hl], k1, by omega, k3⟩⟩, blk_as hBi hmm hlen⟩)
            (fun p hp => ⟨id, List.mem_cons_self, memN_no hc.2, by rw [hg]; rfl, hp⟩)
      · exact hs.elim

/-- A result that is no tuple. -/
theorem RSim.part {h : List Blk} : ∀ {seen : List Nat} {spec : List RS} {vs : List SV}, RSim h seen spec vs → partOK vs = true
  | seen, [], vs, hs => by
    simp only [RSim] at hs
    split at hs
    · rfl
    · exact hs.elim
  | seen, x :: r, vs, hs => by
    simp only [RSim] at hs
    split at hs
    · exact hs.elim
    rename_i v vs
    simp only [partOK]
    split at hs
    · obtain ⟨h1, h2⟩ := hs
      have : notTup v = true := by
        cases v <;> first | rfl | (simp [SimA, SimS, toN, toB] at h1)
      rw [this]
      exact RSim.part h2
    · split at hs
      · exact RSim.part hs.2.2
      · split at hs
        rotate_left
        · exact hs.elim
        split at hs
        · exact RSim.part hs.2.2.2.2.2
        · exact hs.elim
      · split at hs
        rotate_left
        · exact hs.elim
        split at hs
        · exact RSim.part hs.2.2.2.2
        · exact hs.elim
      · exact hs.elim

def outMap (m : Map) (nid n : Nat) (Q : List (Option Place)) : Map := fun id => if nid ≤ id ∧ id < nid + n then (Q[id - nid]?).join else m id
/-- A CONTRACT of a function of ints, structs of ints and slices of those that reads them and makes new ones. -/
theorem con_gen {P : Program} {T : Tab} {C : List Con} {pl : Plans} {f : FuncId} {fn : Func} {code : Code} (hf : P.funcs[f]? = some fn) (hb : fn.body = some code) (hn : (fn.name == "runtime.NumGoroutine") = false)
    (hT : T.Ok P) (hC : Cons.Ok P C) (hm : P.follows .mixedOrders = true) (hpl : plansOK pl code = true) (sh : List Sh) (pre : List Int → List (Bool × List (List Int)) → List Prop) (g : List Int → List (Bool × List (List Int)) → List RS)
    (h : ∀ l R, l.length = totR sh → R.length = nRows sh → nilsOK R → (∀ p ∈ pre l R, p) → EVG P T C pl fn.results.toList fn.ntmps code sh l R (g l R)) : Con.Ok P ⟨f, genRun sh pre g⟩ := by
  refine ⟨⟨fn, hf, by rw [hb]; rfl, hn⟩, fun nid args rd r hr hp m w vs hd hB hap hfr hus => ?_⟩
  simp only [genRun] at hr
  split at hr
  rotate_left
  · cases hr
  rename_i l R ps hl
  cases hr
  obtain ⟨h1, h2, g4, g6, Q, g5, g7⟩ := flatG_mk hB hl (fun p hq => hp p (appP_mem.2 (Or.inl hq))) hd
  have hev := h l R h1 h2 g4 (fun p hq => hp p (appP_mem.2 (Or.inr hq)))
  obtain ⟨ss, j1, j2⟩ := g7 0
  unfold EVG at hev
  rw [j1] at hev
  simp only at hev
  split at hev
  rotate_left
  · exact hev.elim
  rename_i ts hts
  obtain ⟨q1, q2⟩ := j2 (fun i => (Q[i]?).join) (fun i q hi => by simp [hi])
  have hs := (EV_sound hT hC hm code _ _ _ hpl hev).out w.heap.size (fun _ => False) w (fun i => (Q[i]?).join) _ w (fun id hid => by
    rw [g6, ← g5]
    by_cases hlt : id < Q.length
    · exact hlt
    · exact absurd (by simp [List.getElem?_eq_none (Nat.le_of_not_lt hlt)]) hid) (holds_start' hts q1 (fun i => by have := q2 i; rwa [Nat.zero_add] at this) (fun i => mkBlks_own))
  refine calls_of_wp hf hb (wp_mono hs fun e a' w' hq => ?_)
  obtain ⟨st', m', k2, k3, k4⟩ := hq
  have hown : ∀ i p, (getB st'.heap i).own = true → m' i = some p → w.heap.size ≤ p.b := fun i p ho hp => (k3.own i p ho hp).resolve_right id
  have fin : RFin T fn.results.toList (g l R) st'.tmps st'.heap → a'.defers = [] ∧ ∃ v, (results fn a'.tmps).run P w' = .ok v w' ∧ CallPost rd m nid ⟨appP ps (pre l R), rsVal nid (g l R), rsBlks (g l R), []⟩ w (.returned v) w' := fun hfin => by
    unfold RFin at hfin
    split at hfin
    rotate_left
    · exact hfin.elim
    rename_i r hr
    -- the end, once the results' places are there
    have close : ∀ (v : Value) (Q' : List (Option Place)), (results fn a'.tmps).run P w' = .ok v w' → Q'.length = (rsBlks (g l R)).length →
        (∀ (mm : Map), (∀ i q, Q'[i]? = some q → mm (nid + i) = q) → Den mm (rsVal nid (g l R)) v ∧ ∀ k b, (rsBlks (g l R))[k]? = some b → BlkH mm (nid + k) w' b) →
        (∀ (k : Nat) (p : Place), Q'[k]? = some (some p) → w.heap.size ≤ p.b) → (∀ (k k' : Nat) (p p' : Place), k ≠ k' → Q'[k]? = some (some p) → Q'[k']? = some (some p') → p.b ≠ p'.b) →
        a'.defers = [] ∧ ∃ v, (results fn a'.tmps).run P w' = .ok v w' ∧ CallPost rd m nid ⟨appP ps (pre l R), rsVal nid (g l R), rsBlks (g l R), []⟩ w (.returned v) w' := fun v Q' hv hQ he hfr' hne => by
      have hmm : ∀ i q, Q'[i]? = some q → outMap m nid (rsBlks (g l R)).length Q' (nid + i) = q := fun i q hi => by
        have hlt : i < Q'.length := (List.getElem?_eq_some_iff.1 hi).1
        unfold outMap
        rw [if_pos ⟨by omega, by omega⟩, show nid + i - nid = i by omega, hi]; rfl
      obtain ⟨f1, f2⟩ := he _ hmm
      have hpl' : ∀ k b p, (rsBlks (g l R))[k]? = some b → outMap m nid (rsBlks (g l R)).length Q' (nid + k) = some p → Q'[k]? = some (some p) := fun k b p hk hp' => by
        have hlt := (List.getElem?_eq_some_iff.1 hk).1
        unfold outMap at hp'
        rw [if_pos ⟨by omega, by omega⟩, show nid + k - nid = k by omega] at hp'
        rw [List.getElem?_eq_getElem (by omega)] at hp' ⊢
        simpa using hp'
      refine ⟨k3.defers, v, hv, v, _, rfl, fun id hid => ?_, f1, f2, fun k b p hk _ hp' => Or.inl (hfr' k p (hpl' k b p hk hp')), fun k k' b b' p p' hkk hk hk' _ _ hp1 hp2 => hne k k' p p' hkk (hpl' k b p hk hp1) (hpl' k' b' p' hk' hp2), ?_⟩
      · exact if_neg (fun ⟨e1, e2⟩ => by rcases hid with e | e <;> (try simp only at e) <;> omega)
      · exact k3.below.mono (Nat.le_refl _) (fun k _ hbad => hbad.elim)
    generalize hspec : g l R = spec at hfin close ⊢
    cases spec with
    | nil => exact hfin.elim
    | cons x y =>
      cases y with
      | nil =>
        have hpart := RSim.part hfin
        simp only [partOK] at hpart
        have hnt : notTup r = true := by
          cases hh : notTup r
          · rw [hh] at hpart; cases hpart
          · rfl
        obtain ⟨v, e1, e2⟩ := resS_sound hT k3 hr (fun l' e => by subst e; cases hnt)
        obtain ⟨Q', o1, o2, o3, o4⟩ := RSim.out k3.blk k3.apart hown hfin (us := [v]) ⟨Den.of_notTup hnt e2, trivial⟩
        refine close v Q' e1 o1 (fun mm hmm => ?_) (fun k p hk => (o3 k p hk).1) o4
        obtain ⟨f1, f2⟩ := o2 mm nid hmm
        refine ⟨?_, f2⟩
        cases x with
        | val s => exact f1.1.d
        | rows b esz xs => exact f1.1.d
      | cons y z =>
        simp only at hfin
        split at hfin
        rotate_left
        · exact hfin.elim
        rename_i ll
        obtain ⟨v, e1, us, rfl, e2⟩ := resS_sound hT k3 hr (fun l' e => by cases e; exact RSim.part hfin)
        obtain ⟨Q', o1, o2, o3, o4⟩ := RSim.out k3.blk k3.apart hown hfin e2
        refine close _ Q' e1 o1 (fun mm hmm => ?_) (fun k p hk => (o3 k p hk).1) o4
        obtain ⟨f1, f2⟩ := o2 mm nid hmm
        exact ⟨⟨us, rfl, f1⟩, f2⟩
  cases e with
  | ret => exact fin k4
  | normal => exact fin k4
  | _ => exact k4.elim
end Go.Proofs.Ythbighklfajmdaa.Ev
