/- The reckoning, laid to a function: contracts of functions that only compute. -/
import Derived.Test.YthbighklfajmdaaEvG
namespace Go.Proofs.Ythbighklfajmdaa.Ev
open Go.RowKit
set_option linter.unusedVariables false
set_option linter.unusedSimpArgs false

/-- How many numbers the arguments hold: 0 an int, n a struct or an array of n ints. -/
def tot : List Nat → Nat
  | [] => 0
  | n :: r => (match n with | 0 => 1 | k + 1 => k + 1) + tot r
def takeI : List Int → Nat → Option (List SV × List Int)
  | l, 0 => some ([], l)
  | [], _ + 1 => none
  | x :: l, n + 1 => match takeI l n with
    | some (a, b) => some (.int .i64 x :: a, b)
    | none => none
def mkArgs : List Nat → List Int → Option (List SV)
  | [], l => match l with
    | [] => some []
    | _ => none
  | n :: sh, l => match n with
    | 0 => match l with
      | x :: l => match mkArgs sh l with
        | some r => some (.int .i64 x :: r)
        | none => none
      | [] => none
    | k + 1 => match takeI l (k + 1) with
      | some (a, b) => match mkArgs sh b with
        | some r => some (.agg a :: r)
        | none => none
      | none => none
def appI : List Int → List Int → Option (List Int)
  | [], l => some l
  | x :: r, l => match appI r l with
    | some z => some (x :: z)
    | none => none
def flatA : List Nat → List SV → Option (List Int)
  | [], l => match l with
    | [] => some []
    | _ => none
  | n :: sh, l => match l with
    | [] => none
    | s :: r => match n with
      | 0 => match toI s with
        | some x => match flatA sh r with
          | some z => some (x :: z)
          | none => none
        | none => none
      | k + 1 => match s with
        | .agg cs => match lenIs cs (k + 1) with
          | true => match toIs cs with
            | some xs => match flatA sh r with
              | some z => appI xs z
              | none => none
            | none => none
          | false => none
        | _ => none
def padO : List SV → Nat → Option (List SV)
  | [], n => match n with
    | 0 => some []
    | n + 1 => match padO [] n with
      | some r => some (.any :: r)
      | none => none
  | s :: r, n => match n with
    | 0 => none
    | n + 1 => match padO r n with
      | some t => some (s :: t)
      | none => none

def FinR (T : Tab) (rs : List ResultVar) (spec : SV) (t : List SV) (h : List Blk) : Prop :=
  match resS T ⟨t, h⟩ rs with
  | some r => Sim r spec
  | none => False
def Fin (T : Tab) (rs : List ResultVar) (spec : SV) (e : Exit) (t : List SV) (h : List Blk) : Prop :=
  match e with
  | .ret => FinR T rs spec t h
  | .normal => FinR T rs spec t h
  | _ => False

def EVF (P : Program) (T : Tab) (C : List Con) (pl : Plans) (rs : List ResultVar) (n : Nat) (code : Code) (sh : List Nat) (l : List Int) (spec : SV) : Prop :=
  match mkArgs sh l with
  | some ss => match padO ss n with
    | some ts => EV P T C pl code ts [] (Fin T rs spec)
    | none => False
  | none => False

def pureRun (sh : List Nat) (pre : List Int → List Prop) (g : List Int → SV) (nid : Nat) (args : List SV) (rd : Nat → Blk) : Option CRes :=
  match flatA sh args with
  | some l => some ⟨pre l, g l, [], []⟩
  | none => none

theorem appI_eq : ∀ {a b c : List Int}, appI a b = some c → c = a ++ b
  | [], b, c, h => by simp only [appI] at h; cases h; rfl
  | x :: a, b, c, h => by
    simp only [appI] at h
    split at h
    · rename_i z hz; cases h; rw [appI_eq hz]; rfl
    · cases h
theorem takeI_app : ∀ (a b : List Int), takeI (a ++ b) a.length = some (a.map (SV.int .i64), b)
  | [], b => by simp [takeI]
  | x :: a, b => by simp [takeI, takeI_app a b]
theorem ints_den {m : Map} : ∀ {l : List Int} {vs : List Value}, vs = l.map (Value.int .i64) → All2 (DenS m) (l.map (SV.int .i64)) vs
  | [], _, h => by subst h; trivial
  | x :: l, _, h => by subst h; exact ⟨rfl, ints_den rfl⟩

theorem flatA_mk {m m' : Map} : ∀ {sh : List Nat} {args : List SV} {l : List Int} {vs : List Value}, flatA sh args = some l → All2 (Den m) args vs → l.length = tot sh ∧ ∃ ss, mkArgs sh l = some ss ∧ All2 (Den m') ss vs
  | [], args, l, vs, h, hd => by
    simp only [flatA] at h
    split at h
    · cases h; exact ⟨rfl, [], rfl, by cases vs with | nil => trivial | cons => exact hd.elim⟩
    · cases h
  | n :: sh, args, l, vs, h, hd => by
    simp only [flatA] at h
    split at h
    · cases h
    rename_i s r
    cases vs with
    | nil => exact hd.elim
    | cons v vs =>
    obtain ⟨d1, d2⟩ := hd
    split at h
    · split at h
      rotate_left
      · cases h
      rename_i x hx
      split at h
      rotate_left
      · cases h
      rename_i z hz
      cases h
      obtain ⟨h1, ss, h2, h3⟩ := flatA_mk hz d2
      refine ⟨by simp [tot, h1]; omega, .int .i64 x :: ss, by simp [mkArgs, h2], toI_den hx d1, h3⟩
    · rename_i k
      split at h
      rotate_left
      · cases h
      rename_i cs
      split at h
      rotate_left
      · cases h
      rename_i hlen
      split at h
      rotate_left
      · cases h
      rename_i xs hxs
      split at h
      rotate_left
      · cases h
      rename_i z hz
      obtain rfl := appI_eq h
      obtain ⟨h1, ss, h2, h3⟩ := flatA_mk hz d2
      have hl := lenIs_eq hlen
      have hxl : xs.length = k + 1 := by rw [toIs_length hxs, hl]
      refine ⟨by simp [tot, h1, hxl], .agg (xs.map (SV.int .i64)) :: ss, ?_, ?_, h3⟩
      · have := takeI_app xs z
        rw [hxl] at this
        simp only [mkArgs, this, h2]
      · obtain ⟨us, rfl, hu⟩ := d1
        exact ⟨us, rfl, ints_den (toIs_den hxs hu)⟩

theorem padO_eq : ∀ {ss : List SV} {n : Nat} {ts : List SV}, padO ss n = some ts → ts.length = n ∧ ss.length ≤ n ∧ ∀ t, getL ts t = getL ss t
  | [], 0, ts, h => by simp only [padO] at h; cases h; simp
  | [], n + 1, ts, h => by
    simp only [padO] at h
    split at h
    · rename_i r hr; cases h
      obtain ⟨h1, h2, h3⟩ := padO_eq hr
      refine ⟨by simp [h1], by simp, fun t => ?_⟩
      cases t with
      | zero => rfl
      | succ t => have := h3 t; simp only [getL] at this ⊢; exact this
    · cases h
  | s :: r, 0, ts, h => by simp [padO] at h
  | s :: r, n + 1, ts, h => by
    simp only [padO] at h
    split at h
    · rename_i t ht; cases h
      obtain ⟨h1, h2, h3⟩ := padO_eq ht
      refine ⟨by simp [h1], by simp; omega, fun t => ?_⟩
      cases t with
      | zero => rfl
      | succ t => have := h3 t; simp only [getL] at this ⊢; exact this
    · cases h

theorem getL_den {m : Map} : ∀ {ss : List SV} {vs : List Value}, All2 (Den m) ss vs → ∀ t, Den m (getL ss t) (vs.getD t undef)
  | [], [], _, t => by trivial
  | s :: ss, v :: vs, ⟨h1, h2⟩, 0 => h1
  | s :: ss, v :: vs, ⟨h1, h2⟩, t + 1 => by simpa [getL] using getL_den h2 t

/-- As a call begins. -/
theorem holds_start {B : Nat} {bad : Nat → Prop} {m : Map} {w : World} {ss ts : List SV} {vs : List Value} {n : Nat} (hB : B ≤ w.heap.size) (hp : padO ss n = some ts) (hd : All2 (Den m) ss vs) :
    Holds B bad w m ⟨ts, []⟩ { tmps := vs.toArray ++ Array.replicate (n - vs.toArray.size) undef, defers := [] } w := by
  obtain ⟨h1, h2, h3⟩ := padO_eq hp
  have hl := hd.length
  refine ⟨rfl, by simp; omega, fun t => ?_, fun id => trivial, fun i j p q _ h => (by cases h), fun i p h => (by cases h), Kept.refl _ _ _, hB⟩
  rw [h3]
  have hg := getL_den hd t
  have e : ({ tmps := vs.toArray ++ Array.replicate (n - vs.toArray.size) undef, defers := [] } : Act).tmps.getD t undef = vs.getD t undef := by
    rw [Array.getD_eq_getD_getElem?]
    by_cases ht : t < vs.length
    · rw [Array.getElem?_append_left (by simpa using ht)]
      simp [List.getD_eq_getElem?_getD]
    · rw [Array.getElem?_append_right (by simpa using Nat.le_of_not_lt ht)]
      have : vs.getD t undef = undef := by rw [List.getD_eq_getElem?_getD, List.getElem?_eq_none (by omega)]; rfl
      rw [this]
      rw [Array.getElem?_replicate]
      split <;> rfl
  rw [e]
  exact hg

theorem SimM.part : ∀ {l s : List SV}, SimM l s → partOK l = true
  | [], _, _ => rfl
  | a :: as, [], h => by simp [SimM] at h
  | a :: as, b :: bs, h => by
    have h1 : SimA a b := h.1
    simp only [partOK]
    have : notTup a = true := by
      cases a <;> first | rfl | (simp [SimA, SimS, toN, toB] at h1)
    rw [this]
    exact SimM.part h.2

/-- A CONTRACT of a function of ints and structs of ints that only computes. -/
theorem con_pure {P : Program} {T : Tab} {C : List Con} {pl : Plans} {f : FuncId} {fn : Func} {code : Code} (hf : P.funcs[f]? = some fn) (hb : fn.body = some code) (hn : (fn.name == "runtime.NumGoroutine") = false)
    (hT : T.Ok P) (hC : Cons.Ok P C) (hm : P.follows .mixedOrders = true) (hpl : plansOK pl code = true) (sh : List Nat) (pre : List Int → List Prop) (g : List Int → SV)
    (h : ∀ l, l.length = tot sh → (∀ p ∈ pre l, p) → EVF P T C pl fn.results.toList fn.ntmps code sh l (g l)) : Con.Ok P ⟨f, pureRun sh pre g⟩ := by
  refine ⟨⟨fn, hf, by rw [hb]; rfl, hn⟩, fun nid args rd r hr hp m w vs hd hB hap hfr hus => ?_⟩
  simp only [pureRun] at hr
  split at hr
  rotate_left
  · cases hr
  rename_i l hl
  cases hr
  obtain ⟨h1, ss, h2, h3⟩ := flatA_mk (m' := fun _ => none) hl hd
  have hev := h l h1 hp
  unfold EVF at hev
  rw [h2] at hev
  simp only at hev
  split at hev
  rotate_left
  · exact hev.elim
  rename_i ts hts
  have hs := (EV_sound hT hC hm code _ _ _ hpl hev).out w.heap.size (fun _ => False) w (fun _ => none) _ w (fun id hid => absurd rfl hid) (holds_start (Nat.le_refl _) hts h3)
  refine calls_of_wp hf hb (wp_mono hs fun e a' w' hq => ?_)
  obtain ⟨st', m', k2, k3, k4⟩ := hq
  have fin : FinR T fn.results.toList (g l) st'.tmps st'.heap → a'.defers = [] ∧ ∃ v, (results fn a'.tmps).run P w' = .ok v w' ∧ CallPost rd m nid ⟨pre l, g l, [], []⟩ w (.returned v) w' := fun hfin => by
    unfold FinR at hfin
    split at hfin
    rotate_left
    · exact hfin.elim
    rename_i r hr
    obtain ⟨v, g1, g2⟩ := resS_sound hT k3 hr (fun l' e => by
      subst e
      unfold Sim at hfin
      split at hfin
      · rename_i heq; cases heq
        split at hfin
        · exact SimM.part hfin
        · exact hfin.elim
      · rename_i hne; exact absurd rfl (hne l'))
    refine ⟨k3.defers, v, g1, v, m, rfl, fun _ _ => rfl, hfin.den g2, fun k b hk => by simp at hk, fun k b p hk => by simp at hk, fun k k' b b' p p' _ hk => by simp at hk, ?_⟩
    exact k3.below.mono (Nat.le_refl _) (fun k _ hbad => hbad.elim)
  cases e with
  | ret => exact fin k4
  | normal => exact fin k4
  | _ => exact k4.elim

theorem Cons.nil (P : Program) : Cons.Ok P [] := fun c h => by cases h
theorem Cons.cons {P : Program} {c : Con} {C : List Con} (h : c.Ok P) (k : Cons.Ok P C) : Cons.Ok P (c :: C) := fun d hd => by
  rcases List.mem_cons.1 hd with rfl | hd
  · exact h
  · exact k d hd
end Go.Proofs.Ythbighklfajmdaa.Ev
