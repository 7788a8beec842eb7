/- The reckoning, laid to a program: the table of types, checked; contracts of functions that only compute. -/
import Derived.Test.YtdoagjphjnbbnaaEvG0
namespace Go.Proofs.Ytdoagjphjnbbnaa.Ev
open Go.RowKit
set_option linter.unusedVariables false
set_option linter.unusedSimpArgs false

def kindChk (P : Program) (t : TypeId) : TK → Bool
  | .int k => match P.underlying t with | some (.int k') => decide (k = k') | _ => false
  | .bool => match P.underlying t with | some .bool => true | _ => false
  | .slice e => match P.underlying t with | some (.slice e') => Nat.beq e e' | _ => false
  | .struct fs => match P.underlying t with | some (.struct fields) => decide (fields.toList.map (fun f => (f.offset, f.type)) = fs) && fields.toList.all (fun f => (P.info? f.type).isSome) | _ => false
  | .array n e => match P.underlying t with | some (.array n' e') => Nat.beq n n' && Nat.beq e e' | _ => false
  | .ptr e => match P.underlying t with | some (.pointer e') => Nat.beq e e' | _ => false
  | .other => match P.underlying t with | some (.struct _) => false | some (.array _ _) => false | some _ => true | none => false
def zeroChk : List SV → List Value → Bool
  | [], [] => true
  | .lit k n :: r, .int k' n' :: r' => decide (k = k') && decide (n = n') && zeroChk r r'
  | .blit b :: r, .bool b' :: r' => (b == b') && zeroChk r r'
  | .nils :: r, .slice none 0 0 :: r' => zeroChk r r'
  | .cst (.pointer none) :: r, .pointer none :: r' => zeroChk r r'
  | _, _ => false

def tiChk (P : Program) (t : TypeId) (ti : TI) : Bool :=
  match P.info? t with
  | some i => Nat.beq i.size ti.size && Nat.beq i.bytes ti.bytes && (match i.zero with | some zv => zeroChk ti.zero zv.cells.toList | none => false) && kindChk P t ti.k && (!ti.flat || (!P.eqGuardType P.depth t && isAggK ti.k && (match flatT P 8 t with | some n => Nat.beq n ti.size | none => false)))
  | none => false
def tabChk (P : Program) : Tab → Bool
  | [] => true
  | (t, ti) :: r => tiChk P t ti && tabChk P r

theorem mapM_some {P : Program} : ∀ {l : List Field}, l.all (fun f => (P.info? f.type).isSome) = true → ∃ places, l.mapM (fun f => (P.info? f.type).map fun i => (f.offset, i.size)) = some places
  | [], _ => ⟨[], rfl⟩
  | f :: l, h => by
    simp only [List.all_cons, Bool.and_eq_true] at h
    obtain ⟨pl, hpl⟩ := mapM_some h.2
    obtain ⟨i, hi⟩ := Option.isSome_iff_exists.1 h.1
    exact ⟨(f.offset, i.size) :: pl, by simp [List.mapM_cons, hi, hpl]⟩

theorem kindChk_ok {P : Program} {t : TypeId} {k : TK} (h : kindChk P t k = true) : KindOk P t k := by
  cases k with
  | int k =>
    simp only [kindChk] at h
    split at h
    · rename_i k' hu; simp only [KindOk]; rw [hu, of_decide_eq_true h]
    · cases h
  | bool =>
    simp only [kindChk] at h
    split at h
    · rename_i hu; exact hu
    · cases h
  | slice e =>
    simp only [kindChk] at h
    split at h
    · rename_i e' hu; simp only [KindOk]; rw [hu, Nat.eq_of_beq_eq_true h]
    · cases h
  | struct fs =>
    simp only [kindChk] at h
    split at h
    · rename_i fields hu
      simp only [Bool.and_eq_true, decide_eq_true_eq] at h
      exact ⟨fields, hu, h.1, mapM_some h.2⟩
    · cases h
  | array n e =>
    simp only [kindChk] at h
    split at h
    · rename_i n' e' hu
      simp only [Bool.and_eq_true] at h
      simp only [KindOk]; rw [hu, Nat.eq_of_beq_eq_true h.1, Nat.eq_of_beq_eq_true h.2]
    · cases h
  | ptr e =>
    simp only [kindChk] at h
    split at h
    · rename_i e' hu; simp only [KindOk]; rw [hu, Nat.eq_of_beq_eq_true h]
    · cases h
  | other =>
    simp only [kindChk] at h
    split at h
    · cases h
    · cases h
    · rename_i d h1 h2 hu; exact ⟨d, hu, fun fs e => h1 fs e, fun n el e => h2 n el e⟩
    · cases h

theorem zeroChk_ok : ∀ {l : List SV} {vs : List Value}, zeroChk l vs = true → All2 (fun s v => ∀ m, DenS m s v) l vs
  | [], [], _ => trivial
  | s :: l, v :: vs, h => by
    unfold zeroChk at h
    split at h
    · rename_i heq1 heq2; cases heq1
    · rename_i k n r k' n' r' heq1 heq2
      cases heq1; cases heq2
      simp only [Bool.and_eq_true, decide_eq_true_eq] at h
      obtain ⟨⟨rfl, rfl⟩, h3⟩ := h
      exact ⟨fun m => rfl, zeroChk_ok h3⟩
    · rename_i b r b' r' heq1 heq2
      cases heq1; cases heq2
      simp only [Bool.and_eq_true, beq_iff_eq] at h
      obtain ⟨rfl, h3⟩ := h
      exact ⟨fun m => rfl, zeroChk_ok h3⟩
    · rename_i r r' heq1 heq2
      cases heq1; cases heq2
      exact ⟨fun m => rfl, zeroChk_ok h⟩
    · rename_i r r' heq1 heq2
      cases heq1; cases heq2
      exact ⟨fun m => rfl, zeroChk_ok h⟩
    · cases h
  | [], _ :: _, h => by simp [zeroChk] at h
  | s :: l, [], h => by
    unfold zeroChk at h
    split at h
    · rename_i heq1 heq2; cases heq1
    all_goals first | (rename_i heq1 heq2; cases heq2; done) | cases h

theorem tiChk_ok {P : Program} {t : TypeId} {ti : TI} (h : tiChk P t ti = true) : ti.Ok P t := by
  unfold tiChk at h
  split at h
  rotate_left
  · cases h
  rename_i i hi
  simp only [Bool.and_eq_true] at h
  obtain ⟨⟨⟨⟨h1, h2⟩, h3⟩, h4⟩, h5⟩ := h
  split at h3
  rotate_left
  · cases h3
  rename_i zv hz
  refine ⟨⟨i, zv, hi, Nat.eq_of_beq_eq_true h1, Nat.eq_of_beq_eq_true h2, hz, zeroChk_ok h3⟩, kindChk_ok h4, fun hf => ?_⟩
  rw [hf] at h5
  simp only [Bool.not_true, Bool.false_or, Bool.and_eq_true, Bool.not_eq_true'] at h5
  obtain ⟨⟨g1, g2⟩, g3⟩ := h5
  refine ⟨g1, fun as bs r w ha hb hr => ?_⟩
  split at g3
  rotate_left
  · cases g3
  rename_i n hn
  have hnn := Nat.eq_of_beq_eq_true g3
  have hk := kindChk_ok h4
  have e : ∀ x : List Int, mkV P t x = .agg (ints x) := fun x => by
    unfold mkV
    split
    · rename_i k hu
      exfalso
      cases hkk : ti.k <;> rw [hkk] at hk g2 <;> first | (cases g2; done) | skip
      · obtain ⟨fields, hu2, _⟩ := hk; rw [hu] at hu2; cases hu2
      · simp only [KindOk] at hk; rw [hu] at hk; cases hk
    · rfl
  have := flat_run 8 hn 9992 as bs w (by omega) (by omega)
  rw [e, e, ← eqInts_all hr] at this
  exact this
theorem tabChk_ok {P : Program} : ∀ {T : Tab}, tabChk P T = true → T.Ok P
  | [], _, t, ti, h => by simp [Tab.get] at h
  | (n, i) :: r, hc, t, ti, h => by
    simp only [tabChk, Bool.and_eq_true] at hc
    simp only [Tab.get] at h
    split at h
    · rename_i hb
      cases h
      rw [← Nat.eq_of_beq_eq_true hb]
      exact tiChk_ok hc.1
    · exact tabChk_ok hc.2 t ti h

/- Results. -/
structure Leaf (p : Prop) : Prop where
  out : p
def SimS (r s : SV) : Prop :=
  match toN r with
  | some (k, a, _) => match toN s with
    | some (k', b, _) => match decide (k = k') with
      | true => Leaf (a = b)
      | false => False
    | none => False
  | none => match toB r with
    | some a => match toB s with
      | some b => Leaf (a = b)
      | none => False
    | none => False
def SimL : List SV → List SV → Prop
  | [], l => match l with
    | [] => True
    | _ => False
  | a :: as, l => match l with
    | [] => False
    | b :: bs => match as with
      | [] => match bs with
        | [] => SimS a b
        | _ => False
      | _ => SimS a b ∧ SimL as bs
def SimA (r s : SV) : Prop :=
  match r with
  | .agg a => match s with
    | .agg b => SimL a b
    | _ => False
  | r => SimS r s
def SimM : List SV → List SV → Prop
  | [], l => match l with
    | [] => True
    | _ => False
  | a :: as, l => match l with
    | [] => False
    | b :: bs => SimA a b ∧ SimM as bs
def Sim (r s : SV) : Prop :=
  match r with
  | .tup a => match s with
    | .tup b => SimM a b
    | _ => False
  | r => SimA r s

theorem SimS.den {r s : SV} (h : SimS r s) {m m' : Map} {v : Value} (d : Den m r v) : Den m' s v ∧ DenS m' s v := by
  unfold SimS at h
  split at h
  · rename_i k a u hr
    split at h
    · rename_i k' b u' hs
      split at h
      · rename_i hk
        obtain rfl := of_decide_eq_true hk
        have h := h.out
        subst h
        have := toN_den hr d
        subst this
        cases s <;> simp only [toN] at hs <;> first | (cases hs; exact ⟨rfl, rfl⟩) | cases hs
      · exact h.elim
    · exact h.elim
  · split at h
    · rename_i a hr
      split at h
      · rename_i b hs
        have h := h.out
        subst h
        have := toB_den hr d
        subst this
        cases s <;> simp only [toB] at hs <;> first | (cases hs; exact ⟨rfl, rfl⟩) | cases hs
      · exact h.elim
    · exact h.elim
theorem SimL.den : ∀ {r s : List SV}, SimL r s → ∀ {m m' : Map} {vs : List Value}, All2 (DenS m) r vs → All2 (DenS m') s vs
  | [], [], _, _, _, [], _ => trivial
  | [], _ :: _, h, _, _, _, _ => by simp [SimL] at h
  | _ :: _, [], h, _, _, _, _ => by simp [SimL] at h
  | a :: as, b :: bs, h, m, m', v :: vs, ⟨d1, d2⟩ => by
    have h2 : SimS a b ∧ SimL as bs := by
      simp only [SimL] at h
      split at h
      · split at h
        · exact ⟨h, trivial⟩
        · exact h.elim
      · exact h
    exact ⟨(h2.1.den d1.a.d).2, SimL.den h2.2 d2⟩
theorem SimA.den {r s : SV} (h : SimA r s) {m m' : Map} {v : Value} (d : Den m r v) : Den m' s v ∧ DenA m' s v := by
  unfold SimA at h
  split at h
  · split at h
    · obtain ⟨vs, rfl, hd⟩ := d
      have := SimL.den h hd (m' := m')
      exact ⟨⟨vs, rfl, this⟩, ⟨vs, rfl, this⟩⟩
    · exact h.elim
  · have := SimS.den h d (m' := m')
    exact ⟨this.1, this.2.a⟩
theorem SimM.den : ∀ {r s : List SV}, SimM r s → ∀ {m m' : Map} {vs : List Value}, All2 (DenA m) r vs → All2 (DenA m') s vs
  | [], [], _, _, _, [], _ => trivial
  | [], _ :: _, h, _, _, _, _ => by simp [SimM] at h
  | _ :: _, [], h, _, _, _, _ => by simp [SimM] at h
  | a :: as, b :: bs, h, m, m', v :: vs, ⟨d1, d2⟩ => ⟨(SimA.den (show SimA a b from h.1) d1.d).2, SimM.den h.2 d2⟩
theorem Sim.den {r s : SV} (h : Sim r s) {m m' : Map} {v : Value} (d : Den m r v) : Den m' s v := by
  unfold Sim at h
  split at h
  · split at h
    · obtain ⟨vs, rfl, hd⟩ := d
      exact ⟨vs, rfl, SimM.den h hd⟩
    · exact h.elim
  · exact (SimA.den h d).1

def resOne (T : Tab) (st : St) : ResultVar → Option SV
  | .tmp t => getO st.tmps t
  | .cell a t => match getO st.tmps a with
    | some (.ptr id off) => match effLoad T (getB st.heap) t (.ptr id off) with
      | some r => match r.pre with
        | [] => nf r.val
        | _ => none
      | none => none
    | _ => none
def resAll (T : Tab) (st : St) : List ResultVar → Option (List SV)
  | [] => some []
  | x :: r => match resOne T st x with
    | some v => match resAll T st r with
      | some vs => some (v :: vs)
      | none => none
    | none => none
def resS (T : Tab) (st : St) (l : List ResultVar) : Option SV :=
  match resAll T st l with
  | some vs => match vs with
    | [] => some (.tup [])
    | [v] => some v
    | v :: w :: r => some (.tup (v :: w :: r))
  | none => none

section
variable {P : Program} {T : Tab} {B : Nat} {bad : Nat → Prop} {w0 : World} {m : Map} {st : St} {a : Act} {w : World}

def notTup : SV → Bool
  | .tup _ => false
  | _ => true
theorem Den.of_notTup {s : SV} {v : Value} (h : notTup s = true) (d : Den m s v) : DenA m s v := by
  cases s <;> first | exact d | cases h

def resOf (tmps : Array Value) : ResultVar → Go.Sem Value
  | .tmp t => pure (tmps.getD t undef)
  | .cell p t => do loadVar t (← asAddr (tmps.getD p undef))

theorem resOne_sound (hT : T.Ok P) (H : Holds B bad w0 m st a w) {x : ResultVar} {s : SV} (h : resOne T st x = some s) : ∃ v, (resOf a.tmps x).run P w = .ok v w ∧ Den m s v := by
  cases x with
  | tmp t => exact ⟨_, rfl, by rw [getO_eq h]; exact H.tmp t⟩
  | cell p t =>
    simp only [resOne] at h
    split at h
    rotate_left
    · cases h
    rename_i id off hp
    have hp' := getO_eq hp
    split at h
    rotate_left
    · cases h
    rename_i r hr
    split at h
    rotate_left
    · cases h
    rename_i hpre
    have hd := H.tmp p
    rw [← hp'] at hd
    obtain ⟨v, h1, h2, _⟩ := sound_load hT hr (by rw [hpre]; simp) hd H.blk
    obtain ⟨l, hm, hv⟩ := hd
    refine ⟨v, ?_, by rw [nf_eq h]; exact h2⟩
    simp only [resOf]
    rw [hv] at h1 ⊢
    simpa [Instr.loadAt, Instr.sureAddr, asAddr] using h1

theorem resAll_sound (hT : T.Ok P) (H : Holds B bad w0 m st a w) : ∀ {l : List ResultVar} {ss : List SV}, resAll T st l = some ss → ∃ vs, (l.mapM (resOf a.tmps)).run P w = .ok vs w ∧ All2 (Den m) ss vs
  | [], ss, h => by simp only [resAll] at h; cases h; exact ⟨[], by simp, trivial⟩
  | x :: l, ss, h => by
    simp only [resAll] at h
    split at h
    rotate_left
    · cases h
    rename_i v hv
    split at h
    rotate_left
    · cases h
    rename_i vs hvs
    cases h
    obtain ⟨u, h1, h2⟩ := resOne_sound hT H hv
    obtain ⟨us, h3, h4⟩ := resAll_sound hT H hvs
    refine ⟨u :: us, ?_, h2, h4⟩
    rw [List.mapM_cons]
    simp only [Sem.run_bind, h1, Result.andThen_ok, h3, Sem.run_pure]

theorem results_eq (fn : Func) (tmps : Array Value) : results fn tmps = (do let vs ← fn.results.mapM (resOf tmps); pure (if h : vs.size = 1 then vs[0] else .tuple vs)) := by
  unfold results
  congr 2

/-- A value may be told as a part of a tuple. -/
def partOK : List SV → Bool
  | [] => true
  | s :: r => match notTup s with
    | true => partOK r
    | false => false
theorem all2_part : ∀ {ss : List SV} {vs : List Value}, partOK ss = true → All2 (Den m) ss vs → All2 (DenA m) ss vs
  | [], [], _, _ => trivial
  | s :: ss, v :: vs, h, ⟨h1, h2⟩ => by
    simp only [partOK] at h
    split at h
    · rename_i hn; exact ⟨h1.of_notTup hn, all2_part h h2⟩
    · cases h

theorem resS_sound {fn : Func} (hT : T.Ok P) (H : Holds B bad w0 m st a w) {s : SV} (h : resS T st fn.results.toList = some s) (hpart : ∀ l, s = .tup l → partOK l = true) :
    ∃ v, (results fn a.tmps).run P w = .ok v w ∧ Den m s v := by
  unfold resS at h
  split at h
  rotate_left
  · cases h
  rename_i ss hss
  obtain ⟨vs, h1, h2⟩ := resAll_sound hT H hss
  have hlen := h2.length
  have hrun : (results fn a.tmps).run P w = .ok (if h : vs.toArray.size = 1 then vs.toArray[0] else .tuple vs.toArray) w := by
    rw [results_eq, Array.mapM_eq_mapM_toList]
    simp only [Sem.run_bind, Sem.run_map, h1, Result.andThen_ok, Sem.run_pure]
  split at h
  · cases h
    cases vs with
    | nil => exact ⟨_, hrun, ⟨#[], by simp, trivial⟩⟩
    | cons v us => exact h2.elim
  · cases h
    cases vs with
    | nil => exact h2.elim
    | cons v us =>
      obtain ⟨h3, h4⟩ := h2
      cases us with
      | nil => exact ⟨v, by rw [hrun]; simp, h3⟩
      | cons u us => exact h4.elim
  · cases h
    cases vs with
    | nil => exact h2.elim
    | cons v us =>
      cases us with
      | nil => exact h2.2.elim
      | cons u us => exact ⟨_, hrun, ⟨(v :: u :: us).toArray, by simp, all2_part (hpart _ rfl) h2⟩⟩
end
end Go.Proofs.Ytdoagjphjnbbnaa.Ev
