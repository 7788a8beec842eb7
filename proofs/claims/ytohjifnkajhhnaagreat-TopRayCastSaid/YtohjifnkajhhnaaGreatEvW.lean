/- The reckoning, laid to a function that works on a struct of two slices and a truth, of its caller's own. -/
import Derived.Test.YtohjifnkajhhnaaGreatEvV
namespace Go.Proofs.YtohjifnkajhhnaaGreat.Ev
open Go.RowKit
set_option linter.unusedVariables false
set_option linter.unusedSimpArgs false

/-- What such a function yields: its results; whether the struct's slices are nil, and their rows. -/
structure MR where
  res : List RS
  b : Bool
  A : List (List Int)
  B : List (List Int)
def MRes (h : List Blk) (kk : Nat) (G : MR) (a b r : SV) : Prop :=
  match G with
  | ⟨res, gb, A, B⟩ => match res with
    | [] => False
    | x :: y => match y with
      | [] => RSim h [kk] [.rows gb 1 A, .rows gb 4 B, x] [a, b, r]
      | _ => match r with
        | .tup l => RSim h [kk] (.rows gb 1 A :: .rows gb 4 B :: x :: y) (a :: b :: l)
        | _ => False
def MFin (T : Tab) (rs : List ResultVar) (gs : Nat) (z : Bool) (G : MR) (t : List SV) (h : List Blk) : Prop :=
  match resS T ⟨t, h⟩ rs with
  | some r => match getL t gs with
    | .here k => match getB h k with
      | .cells cs => match cs with
        | [a, b, c] => match toB c with
          | some z' => Leaf (z' = z) ∧ MRes h k G a b r
          | none => False
        | _ => False
      | _ => False
    | _ => False
  | none => False
def FinM (T : Tab) (rs : List ResultVar) (gs : Nat) (z : Bool) (G : MR) (e : Exit) (t : List SV) (h : List Blk) : Prop :=
  match e with
  | .ret => MFin T rs gs z G t h
  | .normal => MFin T rs gs z G t h
  | _ => False
def mdBlks (b z : Bool) (A B : List (List Int)) : List Blk := [.cells [.osl b 1 1 A.length, .osl b 2 4 B.length, .bool z], .arr true (!b) 1 A, .arr true (!b) 4 B]
/-- The struct's address stands ahead of the numbers; slot gs is one that the function never writes. -/
def GVM (P : Program) (T : Tab) (rs : List ResultVar) (n : Nat) (code : Code) (gs : Nat) (sh : List Nat) (l : List Int) (z b : Bool) (A B : List (List Int)) (spec : MR) : Prop :=
  match mkArgs sh l with
  | some ss => match padO (.ptr 0 0 :: ss) n with
    | some ts => Goes P code (setL ts gs (.here 0)) (mdBlks b z A B) (FinM T rs gs z spec)
    | none => False
  | none => False
def mdRes (ps : List Prop) (nid id : Nat) (used : List Nat) (z : Bool) (G : MR) : CRes :=
  match G with
  | ⟨res, b, A, B⟩ => ⟨ps, rsVal (nid + 1 + 1) res, .arr true (!b) 1 A :: .arr true (!b) 4 B :: rsBlks res, used, [(id, .cells [.osl b nid 1 A.length, .osl b (nid + 1) 4 B.length, .bool z])], false⟩
def mdRun (sh : List Nat) (pre : List Int → Bool → Bool → List (List Int) → List (List Int) → List Prop) (g : List Int → Bool → Bool → List (List Int) → List (List Int) → MR) (nid : Nat) (args : List SV) (rd : Nat → Blk) : Option CRes :=
  match args with
  | [] => none
  | s :: rest => match flatA sh rest with
    | none => none
    | some l => match s with
      | .ptr id o => match o with
        | 0 => match rd id with
          | .cells cs => match cs with
            | [ca, cb, cz] => match ca with
              | .osl b ia ea na => match cb with
                | .osl b' ib eb nb => match toB cz with
                  | some z => match rd ia with
                    | .arr owa oka ea' xa => match rd ib with
                      | .arr owb okb eb' xb => match owa && owb && Nat.beq ea 1 && Nat.beq ea' 1 && Nat.beq eb 4 && Nat.beq eb' 4 && !Nat.beq ia ib with
                        | true => some (mdRes (consP [b' = b, b = false → oka = true, b = false → okb = true, na ≤ xa.length, nb ≤ xb.length] (pre l z b (xa.take na) (xb.take nb))) nid id [ia, ib] z (g l z b (xa.take na) (xb.take nb)))
                        | false => none
                      | _ => none
                    | _ => none
                  | none => none
                | _ => none
              | _ => none
            | _ => none
          | _ => none
        | _ => none
      | _ => none

theorem toB_denS {m : Map} {c : SV} {z : Bool} {v : Value} (h : toB c = some z) (d : DenS m c v) : v = .bool z := by
  cases c <;> simp only [toB] at h <;> first | (cases h; exact d) | cases h

/-- The end of such a call. -/
theorem md_end {P : Program} {T : Tab} (hT : T.Ok P) {fn : Func} {bad : Bad} {w w' : World} {m m' : Map} {st' : St} {a' : Act} {rd : Nat → Blk} {nid id : Nat} {used : List Nat} {q : Place} {gs : Nat} {z : Bool}
    (k3 : Holds w.heap.size bad w m' st' a' w') (hbad : ∀ k, bad k → usedAt rd m (id :: used) k) (hq0 : bad.q0.pl = some q) (hq : m id = some q) (hqo : q.o = 0) (hown : (rd id).own = true)
    (hga : ∀ j p k i b, (rd j).live = true → m j = some p → m.g k i = some b → p.b ≠ b) (hgb : ∀ k i b, m.g k i = some b → b < w.heap.size)
    (ps : List Prop) (G : MR) (hfr : ∀ k, k < (rsBlks G.res).length + 2 → m (nid + k) = none)
    (hfin : MFin T fn.results.toList gs z G st'.tmps st'.heap) :
    a'.defers = [] ∧ ∃ v, (results fn a'.tmps).run P w' = .ok v w' ∧ CallPost rd m nid (mdRes ps nid id used z G) w (.returned v) w' := by
  obtain ⟨res, gb, A, B⟩ := G
  unfold MFin at hfin
  split at hfin
  rotate_left
  · exact hfin.elim
  rename_i r hr
  split at hfin
  rotate_left
  · exact hfin.elim
  rename_i kk hkk
  split at hfin
  rotate_left
  · exact hfin.elim
  rename_i cs hcs
  split at hfin
  rotate_left
  · exact hfin.elim
  rename_i ca cb cc
  split at hfin
  rotate_left
  · exact hfin.elim
  rename_i z' hz'
  obtain ⟨hz, hfin⟩ := hfin
  obtain rfl := hz.out
  have hh := k3.tmp gs
  rw [hkk] at hh
  obtain ⟨q', hm1, hm2⟩ := hh
  obtain rfl : q' = q := by
    have := congrArg Q.pl k3.gok.q
    rw [hm2, hq0] at this
    exact Option.some.inj this
  have hb0 := k3.blk kk
  rw [hcs] at hb0
  obtain ⟨l0, vs0, ty, f1, f2, f3, f4⟩ := hb0
  rw [hm1] at f1
  cases f1
  match hv0 : vs0.toList, f4 with
  | [va, vb, vc], ⟨da, db, dc, _⟩ =>
  have hvc := toB_denS hz' dc
  have livek : (getB st'.heap kk).live = true := by rw [hcs]; rfl
  have ownk : (getB st'.heap kk).own = true := by rw [hcs]; rfl
  have idout : ∀ k, k < (rsBlks res).length + 2 → id ≠ nid + k := fun k hk e => by
    have := hfr k hk
    rw [← e, hq] at this
    cases this
  have place : ∀ (i : Nat) (p : Place), i ≠ kk → (getB st'.heap i).own = true → m' i = some p → w.heap.size ≤ p.b ∨ usedAt rd m used p.b := fun i p hik h1 h2 => by
    rcases k3.own i p h1 h2 with h | h
    · exact Or.inl h
    · obtain ⟨j, hj, ho, p', e1, e2⟩ := hbad _ h
      rcases List.mem_cons.1 hj with rfl | hj
      · rw [hq] at e1; cases e1
        exact absurd e2.symm (k3.apart i kk p q' hik h1 livek h2 hm1)
      · exact Or.inr ⟨j, hj, ho, p', e1, e2⟩
  have hown0 : ∀ i p, (getB st'.heap i).own = true → m' i = some p → 0 ≤ p.b := fun _ _ _ _ => Nat.zero_le _
  have close : ∀ (v : Value) (us : List Value) (vsl : List SV), (results fn a'.tmps).run P w' = .ok v w' → RSim st'.heap [kk] (.rows gb 1 A :: .rows gb 4 B :: res) (ca :: cb :: vsl) → All2 (DenA m') vsl us →
      (∀ mm : Map, All2 (DenA mm) (rsVals (nid + 1 + 1) res) us → Den mm (rsVal (nid + 1 + 1) res) v) →
      a'.defers = [] ∧ ∃ v, (results fn a'.tmps).run P w' = .ok v w' ∧ CallPost rd m nid (mdRes ps nid id used z' ⟨res, gb, A, B⟩) w (.returned v) w' := fun v us vsl hv hsim hus hval => by
    obtain ⟨Q, o1, o2, o3, o4⟩ := RSim.out (us := va :: vb :: us) k3.blk k3.apart hown0 hsim ⟨da.a, db.a, hus⟩
    have hn : (rsBlks (.rows gb 1 A :: .rows gb 4 B :: res)).length = (rsBlks res).length + 2 := rfl
    rw [hn] at o1
    let mm : Map := outMap m nid ((rsBlks res).length + 2) Q
    have hmm : ∀ i q, Q[i]? = some q → mm (nid + i) = q := fun i q hi => by
      have hlt : i < Q.length := (List.getElem?_eq_some_iff.1 hi).1
      simp only [mm, outMap, Map.with]
      rw [if_pos ⟨by omega, by omega⟩, show nid + i - nid = i by omega, hi]; rfl
    obtain ⟨⟨ea, eb, er⟩, fb⟩ := o2 mm nid hmm
    have hold : ∀ j, (j < nid ∨ nid + ((rsBlks res).length + 2) ≤ j) → mm j = m j := fun j hj => if_neg (fun ⟨e1, e2⟩ => by rcases hj with e | e <;> omega)
    have hid : mm id = some q' := by
      rw [← hq]
      refine hold id ?_
      by_cases h1 : id < nid
      · exact Or.inl h1
      · by_cases h2 : nid + ((rsBlks res).length + 2) ≤ id
        · exact Or.inr h2
        · exact absurd (by omega) (idout (id - nid) (by omega))
    have hpl' : ∀ k b p, (rsBlks (.rows gb 1 A :: .rows gb 4 B :: res))[k]? = some b → mm (nid + k) = some p → Q[k]? = some (some p) := fun k b p hk hp' => by
      have hlt := (List.getElem?_eq_some_iff.1 hk).1
      rw [hn] at hlt
      simp only [mm, outMap, Map.with] at hp'
      rw [if_pos ⟨by omega, by omega⟩, show nid + k - nid = k by omega] at hp'
      rw [List.getElem?_eq_getElem (by omega)] at hp' ⊢
      simpa using hp'
    have hpl : ∀ (k : Nat) (p : Place), Q[k]? = some (some p) → w.heap.size ≤ p.b ∨ usedAt rd m used p.b := fun k p hk => by
      obtain ⟨_, i, hi, h1, h2⟩ := o3 k p hk
      exact place i p (fun e => hi (by rw [e]; simp)) h1 h2
    refine ⟨k3.defers, v, hv, v, mm, rfl, hold, hval mm er, fb, fun k b p hk _ hp' => ?_, fun k k' b b' p p' hkk' hk hk' _ _ hp1 hp2 => o4 k k' p p' hkk' (hpl' k b p hk hp1) (hpl' k' b' p' hk' hp2), ?_,
      ⟨fun _ _ _ h => h, fun _ _ _ h => Or.inl h, fun x hx => ?_, fun k b p hk _ hp' g i c hg => ?_, fun b h => rsBlks_nosto (l := .rows gb 1 A :: .rows gb 4 B :: res) h, rfl⟩⟩
    · rcases hpl k p (hpl' k b p hk hp') with h | h
      · exact Or.inl h
      · exact Or.inr (Or.inl h)
    · refine k3.below.mono (Nat.le_refl _) (fun k _ hb => ?_)
      obtain ⟨j, hj, hr⟩ := hbad k hb
      rcases List.mem_cons.1 hj with rfl | hj
      · exact Or.inr (Or.inl ⟨j, List.mem_singleton.2 rfl, hr⟩)
      · exact Or.inl ⟨j, hj, hr⟩
    · simp only [mdRes, List.mem_singleton] at hx
      subst hx
      exact ⟨q', vs0, ty, hid, hqo, f3, by rw [hv0]; exact ⟨ea, eb, hvc, trivial⟩⟩
    · rcases hpl k p (hpl' k b p hk hp') with h | ⟨j, _, ho, p', e1, e2⟩
      · have := hgb g i c hg; omega
      · rw [← e2]; exact hga j p' g i c (Blk.live_of_own ho) e1 hg
  unfold MRes at hfin
  dsimp only at hfin
  cases res with
  | nil => exact hfin.elim
  | cons x y =>
    cases y with
    | nil =>
      have hpart := RSim.part hfin
      simp only [partOK] at hpart
      have hnt : notTup r = true := by
        cases hh : notTup r
        · rw [hh] at hpart; revert hpart; cases notTup ca <;> cases notTup cb <;> simp
        · rfl
      obtain ⟨v, e1, e2⟩ := resS_sound hT k3 hr (fun l' e => by subst e; cases hnt)
      refine close v [v] [r] e1 hfin ⟨Den.of_notTup hnt e2, trivial⟩ (fun mm f => ?_)
      cases x with
      | val s => exact f.1.d
      | rows b esz xs => exact f.1.d
    | cons y t =>
      simp only at hfin
      split at hfin
      rotate_left
      · exact hfin.elim
      rename_i ll
      obtain ⟨v, e1, us, rfl, e2⟩ := resS_sound hT k3 hr (fun l' e => by
        cases e
        have := RSim.part hfin
        simp only [partOK] at this
        revert this
        cases notTup ca <;> cases notTup cb <;> simp)
      exact close _ us.toList ll e1 hfin e2 (fun mm f => ⟨us, rfl, f⟩)

/-- A CONTRACT of a function that works on such a struct. -/
theorem con_md {P : Program} {T : Tab} {f : FuncId} {fn : Func} {code : Code} (hf : P.funcs[f]? = some fn) (hb : fn.body = some code) (hn : (fn.name == "runtime.NumGoroutine") = false)
    (hT : T.Ok P) (gs : Nat) (sh : List Nat) (pre : List Int → Bool → Bool → List (List Int) → List (List Int) → List Prop) (g : List Int → Bool → Bool → List (List Int) → List (List Int) → MR)
    (h : ∀ l z b A B, l.length = tot sh → (b = true → A = [] ∧ B = []) → (∀ p ∈ pre l z b A B, p) → GVM P T fn.results.toList fn.ntmps code gs sh l z b A B (g l z b A B)) : Con.Ok P ⟨f, mdRun sh pre g⟩ := by
  refine ⟨⟨fn, hf, by rw [hb]; rfl, hn⟩, fun nid args rd r hr hp m w vs hd hB hap hfr hup hga hgb hone => ?_, fun nid args rd r hr hro => by
    replace hr : mdRun _ _ _ nid args rd = some r := hr
    unfold mdRun at hr
    repeat' split at hr
    all_goals first | (cases hr; done) | (injection hr with hr; rw [← hr] at hro; exact absurd hro Bool.false_ne_true)⟩
  replace hr : mdRun sh pre g nid args rd = some r := hr
  unfold mdRun at hr
  split at hr
  · cases hr
  rename_i s rest
  split at hr
  · cases hr
  rename_i l hl
  split at hr
  rotate_left
  · cases hr
  rename_i id o
  split at hr
  rotate_left
  · cases hr
  split at hr
  rotate_left
  · cases hr
  rename_i cs hcs
  split at hr
  rotate_left
  · cases hr
  rename_i ca cb cz
  split at hr
  rotate_left
  · cases hr
  rename_i b ia ea na
  split at hr
  rotate_left
  · cases hr
  rename_i b' ib eb nb
  split at hr
  rotate_left
  · cases hr
  rename_i z hz
  split at hr
  rotate_left
  · cases hr
  rename_i owa oka ea' xa hxa
  split at hr
  rotate_left
  · cases hr
  rename_i owb okb eb' xb hxb
  split at hr
  rotate_left
  · cases hr
  rename_i hc
  simp only [Bool.and_eq_true, Bool.not_eq_true'] at hc
  obtain ⟨⟨⟨⟨⟨⟨rfl, rfl⟩, h1⟩, h2⟩, h3⟩, h4⟩, h5⟩ := hc
  obtain rfl := Nat.eq_of_beq_eq_true h1
  obtain rfl := Nat.eq_of_beq_eq_true h2
  obtain rfl := Nat.eq_of_beq_eq_true h3
  obtain rfl := Nat.eq_of_beq_eq_true h4
  have hiab : ia ≠ ib := Nat.ne_of_beq_eq_false h5
  cases hr
  have p0 : b' = b := hp _ (by simp only [mdRes]; exact consP_mem.2 (Or.inl (by simp)))
  have p1 : b = false → oka = true := hp _ (by simp only [mdRes]; exact consP_mem.2 (Or.inl (by simp)))
  have p2 : b = false → okb = true := hp _ (by simp only [mdRes]; exact consP_mem.2 (Or.inl (by simp)))
  have p3 : na ≤ xa.length := hp _ (by simp only [mdRes]; exact consP_mem.2 (Or.inl (by simp)))
  have p4 : nb ≤ xb.length := hp _ (by simp only [mdRes]; exact consP_mem.2 (Or.inl (by simp)))
  have hpre : ∀ p ∈ pre l z b (xa.take na) (xb.take nb), p := fun p hpp => hp p (by simp only [mdRes]; exact consP_mem.2 (Or.inr hpp))
  subst p0
  cases vs with
  | nil => exact hd.elim
  | cons v vs =>
  obtain ⟨d1, d2⟩ := hd
  have hbi := hB id
  rw [hcs] at hbi
  obtain ⟨q, vs0, ty, e1, e2, e3, e4⟩ := hbi
  obtain ⟨q', eq', hv⟩ := d1
  rw [e1] at eq'; cases eq'
  match hv0 : vs0.toList, e4 with
  | [va, vb, vc], ⟨da, db, dc, _⟩ =>
  have idia : id ≠ ia := fun e => by rw [e, hxa] at hcs; cases hcs
  have idib : id ≠ ib := fun e => by rw [e, hxb] at hcs; cases hcs
  have hna : (xa.take na).length = na := by simp; omega
  have hnb : (xb.take nb).length = nb := by simp; omega
  let fm : Nat → Option Place := fun i => if i = 0 then some q else if i = 1 then (if b' = true then none else m ia) else if i = 2 then (if b' = true then none else m ib) else none
  let m0 : Map := ⟨fm, fun _ _ => none, fun _ _ _ _ _ h => (by cases h), ⟨some q, fun _ => none⟩⟩
  have f0 : m0 0 = some q := rfl
  have f1 : m0 1 = if b' = true then none else m ia := rfl
  have f2 : m0 2 = if b' = true then none else m ib := rfl
  have f3 : ∀ i, m0 i ≠ none → i < 3 := fun i hi => by
    by_cases h0 : i = 0
    · omega
    · by_cases h1 : i = 1
      · omega
      · by_cases h2 : i = 2
        · omega
        · exact absurd (show m0 i = none by simp [m0, fm, h0, h1, h2]) hi
  let bad : Bad := ⟨fun k => usedAt rd m (id :: [ia, ib]) k, fun _ _ => none, fun k i b e => (by cases e), ⟨some q, fun _ => none⟩⟩
  obtain ⟨hl1, ss, hl2, hl3⟩ := flatA_mk (m' := m0) hl d2
  have hbx : b' = true → xa.take na = [] ∧ xb.take nb = [] := fun e => by
    obtain ⟨_, e5⟩ := da.1 e
    obtain ⟨_, e6⟩ := db.1 e
    subst e5; subst e6
    exact ⟨by simp, by simp⟩
  have hev := h l z b' (xa.take na) (xb.take nb) hl1 hbx hpre
  unfold GVM at hev
  rw [hl2] at hev
  simp only at hev
  split at hev
  rotate_left
  · exact hev.elim
  rename_i ts hts
  obtain ⟨t1, t2, t3⟩ := padO_eq hts
  have hd0 : All2 (Den m0) (.ptr 0 0 :: ss) (v :: vs) := ⟨⟨q, rfl, hv⟩, hl3⟩
  have hvl := hd0.length
  have lives : ∀ i, (getB (mdBlks b' z (xa.take na) (xb.take nb)) i).live = true → i = 0 ∨ (i = 1 ∧ b' = false) ∨ (i = 2 ∧ b' = false) := fun i hi => by
    match i, hi with
    | 0, _ => exact Or.inl rfl
    | 1, hi => exact Or.inr (Or.inl ⟨rfl, by cases b'; rfl; cases hi⟩)
    | 2, hi => exact Or.inr (Or.inr ⟨rfl, by cases b'; rfl; cases hi⟩)
    | _ + 3, hi => cases hi
  -- where the live blocks lie
  have at_ : ∀ i p, (getB (mdBlks b' z (xa.take na) (xb.take nb)) i).live = true → m0 i = some p → ∃ j, (j = id ∧ i = 0 ∨ j = ia ∧ i = 1 ∨ j = ib ∧ i = 2) ∧ (rd j).own = true ∧ m j = some p := fun i p hi hp' => by
    rcases lives i hi with rfl | ⟨rfl, hb'⟩ | ⟨rfl, hb'⟩
    · exact ⟨id, Or.inl ⟨rfl, rfl⟩, by rw [hcs]; rfl, by rw [e1]; exact hp'⟩
    · refine ⟨ia, Or.inr (Or.inl ⟨rfl, rfl⟩), by rw [hxa, p1 hb']; rfl, ?_⟩
      rw [f1, hb'] at hp'; simpa using hp'
    · refine ⟨ib, Or.inr (Or.inr ⟨rfl, rfl⟩), by rw [hxb, p2 hb']; rfl, ?_⟩
      rw [f2, hb'] at hp'; simpa using hp'
  have hs := hev.out w.heap.size bad w m0 { tmps := (v :: vs).toArray ++ Array.replicate (fn.ntmps - (v :: vs).toArray.size) undef, defers := [] } w (fun i hi => f3 i hi) ⟨rfl, by rw [setL_length, t1]; simp; omega, fun t => ?_, fun i => ?_, fun i j p p' hij o1 o2 q1 q2 => ?_, fun i p o1 o2 => ?_, Kept.refl _ _ _, ⟨Nat.le_refl _, fun b o h => (by cases h)⟩,
      ⟨fun j p k i c o1 o2 o3 => (by cases o3), fun k i c o1 => (by cases o1), fun s s' X X' o1 o2 => ?_, fun k i c o1 => (by cases o1), rfl⟩⟩
  rotate_left
  · rw [getL_setL]
    split
    · exact ⟨q, rfl, rfl⟩
    · rw [t3]
      have hg := getL_den hd0 t
      have e : ({ tmps := (v :: vs).toArray ++ Array.replicate (fn.ntmps - (v :: vs).toArray.size) undef, defers := [] } : Act).tmps.getD t undef = (v :: vs).getD t undef := by
        rw [Array.getD_eq_getD_getElem?]
        by_cases ht : t < (v :: vs).length
        · rw [Array.getElem?_append_left (by simpa using ht)]
          simp [List.getD_eq_getElem?_getD]
        · rw [Array.getElem?_append_right (by simpa using Nat.le_of_not_lt ht)]
          have : (v :: vs).getD t undef = undef := by rw [List.getD_eq_getElem?_getD, List.getElem?_eq_none (by omega)]; rfl
          rw [this]
          simp only [Array.getElem?_replicate]
          split <;> rfl
      rw [e]; exact hg
  · match i with
    | 0 =>
      refine ⟨q, vs0, ty, rfl, e2, e3, ?_⟩
      rw [hv0]
      refine ⟨⟨fun e => ?_, fun e => ?_⟩, ⟨fun e => ?_, fun e => ?_⟩, toB_denS hz dc, trivial⟩
      · obtain ⟨e5, e6⟩ := da.1 e
        exact ⟨e5, by rw [hna]; exact e6⟩
      · obtain ⟨p, ad, c, g1, g2, g3, g4, g5⟩ := da.2 e
        exact ⟨p, ad, c, by rw [f1, e]; simpa using g1, by rw [hna]; exact g2, g3, by rw [hna]; exact g4, g5⟩
      · obtain ⟨e5, e6⟩ := db.1 e
        exact ⟨e5, by rw [hnb]; exact e6⟩
      · obtain ⟨p, ad, c, g1, g2, g3, g4, g5⟩ := db.2 e
        exact ⟨p, ad, c, by rw [f2, e]; simpa using g1, by rw [hnb]; exact g2, g3, by rw [hnb]; exact g4, g5⟩
    | 1 =>
      cases hbb : b' with
      | true => intro hh; cases hh
      | false =>
        have hh := hB ia
        rw [hxa, p1 hbb] at hh
        exact blk_as hh (by rw [f1, hbb]; simp) p3
    | 2 =>
      cases hbb : b' with
      | true => intro hh; cases hh
      | false =>
        have hh := hB ib
        rw [hxb, p2 hbb] at hh
        exact blk_as hh (by rw [f2, hbb]; simp) p4
    | _ + 3 => trivial
  · obtain ⟨j1, k1, k2, k3⟩ := at_ i p (Blk.live_of_own o1) q1
    obtain ⟨j2, k1', k2', k3'⟩ := at_ j p' o2 q2
    refine hap j1 j2 p p' (fun e => ?_) k2 (Blk.live_of_own k2') k3 k3'
    omega
  · obtain ⟨j1, k1, k2, k3⟩ := at_ i p (Blk.live_of_own o1) o2
    refine Or.inr ⟨j1, ?_, k2, p, k3, rfl⟩
    rcases k1 with ⟨rfl, _⟩ | ⟨rfl, _⟩ | ⟨rfl, _⟩ <;> simp
  · exfalso
    match s with
    | 0 => cases o1
    | 1 => cases o1
    | 2 => cases o1
    | _ + 3 => cases o1
  refine calls_of_wp hf hb (wp_mono hs fun e a' w' hq' => ?_)
  obtain ⟨st', m', k2, k3, k4⟩ := hq'
  have fin := fun hfin : MFin T fn.results.toList gs z (g l z b' (xa.take na) (xb.take nb)) st'.tmps st'.heap =>
    md_end hT (used := [ia, ib]) k3 (fun k hk => hk) rfl e1 e2 (by rw [hcs]; rfl) hga hgb (consP [b' = b', b' = false → oka = true, b' = false → okb = true, na ≤ xa.length, nb ≤ xb.length] (pre l z b' (xa.take na) (xb.take nb))) (g l z b' (xa.take na) (xb.take nb)) (fun k hk => hfr k hk) hfin
  cases e with
  | ret => exact fin k4
  | normal => exact fin k4
  | _ => exact k4.elim
end Go.Proofs.YtohjifnkajhhnaaGreat.Ev
