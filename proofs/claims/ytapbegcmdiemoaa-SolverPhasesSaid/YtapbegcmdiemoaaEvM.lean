/- The reckoning: contracts of functions that may hand back an argument as it is. -/
import Derived.Test.YtapbegcmdiemoaaEvL
namespace Go.Proofs.Ytapbegcmdiemoaa.Ev
open Go.RowKit
set_option linter.unusedVariables false
set_option linter.unusedSimpArgs false

/-- A result: a number or numbers, a new slice of rows, or the k-th of the arguments that came in unread. -/
inductive RA where
  | val (s : SV)
  | rows (b : Bool) (esz : Nat) (xs : List (List Int))
  | arg (k : Nat)
def raVals (A : List SV) (n : Nat) : List RA → List SV
  | [] => []
  | x :: r => match x with
    | .val s => s :: raVals A n r
    | .rows b esz xs => .osl b n esz xs.length :: raVals A (n + 1) r
    | .arg k => getL A k :: raVals A n r
def raBlks : List RA → List Blk
  | [] => []
  | x :: r => match x with
    | .val _ => raBlks r
    | .rows b esz xs => .arr true (!b) esz xs :: raBlks r
    | .arg _ => raBlks r
def raVal (A : List SV) (n : Nat) (l : List RA) : SV :=
  match l with
  | [] => .tup []
  | x :: r => match r with
    | [] => match x with
      | .val s => s
      | .rows b esz xs => .osl b n esz xs.length
      | .arg k => getL A k
    | _ => .tup (raVals A n l)
/-- The arguments that are read, and those that come in unread (true). -/
def splitM : List Bool → List SV → Option (List SV × List SV)
  | [], l => match l with
    | [] => some ([], [])
    | _ => none
  | b :: ms, l => match l with
    | [] => none
    | s :: r => match splitM ms r with
      | some (p, o) => match b with
        | true => some (p, s :: o)
        | false => some (s :: p, o)
      | none => none
def mergeM : List Bool → List SV → List SV → List SV
  | [], _, _ => []
  | b :: ms, p, o => match b with
    | true => match o with
      | s :: o => s :: mergeM ms p o
      | [] => []
    | false => match p with
      | s :: p => s :: mergeM ms p o
      | [] => []
def lenN : SV → Option Nat
  | .nils => some 0
  | .sl _ _ _ n => some n
  | .osl _ _ _ n => some n
  | .cst v => match v with
    | .slice _ n _ => some n
    | _ => none
  | _ => none
def lensN : List SV → Option (List Nat)
  | [] => some []
  | s :: r => match lenN s with
    | some n => match lensN r with
      | some l => some (n :: l)
      | none => none
    | none => none
def cstL : List Nat → List (Option Addr × Nat) → List SV
  | [], _ => []
  | n :: ns, V => match V with
    | [] => []
    | (a, c) :: V => .cst (.slice a n c) :: cstL ns V

def nOps : List Bool → Nat
  | [] => 0
  | b :: r => match b with
    | true => nOps r + 1
    | false => nOps r
theorem splitM_len : ∀ {ms : List Bool} {args p o : List SV}, splitM ms args = some (p, o) → o.length = nOps ms
  | [], args, p, o, h => by
    simp only [splitM] at h
    split at h
    · cases h; rfl
    · cases h
  | b :: ms, args, p, o, h => by
    simp only [splitM] at h
    split at h
    · cases h
    split at h
    rotate_left
    · cases h
    rename_i hr
    have := splitM_len hr
    split at h
    · cases h; simp [nOps, this]
    · cases h; simp [nOps, this]
theorem lensN_len : ∀ {o : List SV} {ns : List Nat}, lensN o = some ns → ns.length = o.length
  | [], ns, h => by cases h; rfl
  | s :: o, ns, h => by
    simp only [lensN] at h
    split at h
    rotate_left
    · cases h
    split at h
    rotate_left
    · cases h
    rename_i hl
    cases h
    simp [lensN_len hl]
theorem splitM_den {m : Map} : ∀ {ms : List Bool} {args p o : List SV} {vs : List Value}, splitM ms args = some (p, o) → All2 (Den m) args vs →
    ∃ vp vo, All2 (Den m) p vp ∧ All2 (Den m) o vo ∧ ∀ (m' : Map) (ss oo : List SV), All2 (Den m') ss vp → All2 (Den m') oo vo → All2 (Den m') (mergeM ms ss oo) vs
  | [], args, p, o, vs, h, hd => by
    simp only [splitM] at h
    split at h
    · cases h
      cases vs with
      | cons => exact hd.elim
      | nil => exact ⟨[], [], trivial, trivial, fun _ _ _ _ _ => trivial⟩
    · cases h
  | b :: ms, args, p, o, vs, h, hd => by
    simp only [splitM] at h
    split at h
    · cases h
    rename_i s r
    cases vs with
    | nil => exact hd.elim
    | cons v vs =>
    obtain ⟨d1, d2⟩ := hd
    split at h
    rotate_left
    · cases h
    rename_i p' o' hr
    obtain ⟨vp, vo, e1, e2, e3⟩ := splitM_den hr d2
    split at h
    · cases h
      refine ⟨vp, v :: vo, e1, ⟨d1, e2⟩, fun m' ss oo h1 h2 => ?_⟩
      cases oo with
      | nil => exact h2.elim
      | cons x oo => exact ⟨h2.1, e3 m' ss oo h1 h2.2⟩
    · cases h
      refine ⟨v :: vp, vo, ⟨d1, e1⟩, e2, fun m' ss oo h1 h2 => ?_⟩
      cases ss with
      | nil => exact h1.elim
      | cons x ss => exact ⟨h1.1, e3 m' ss oo h1.2 h2⟩
theorem lenN_den {m : Map} {s : SV} {n : Nat} {v : Value} (h : lenN s = some n) (hd : Den m s v) : DenA m s v ∧ ∃ a c, v = .slice a n c := by
  cases s <;> simp only [lenN] at h
  all_goals first | (cases h; done) | skip
  · cases h; exact ⟨hd, _, _, hd⟩
  · cases h; obtain ⟨l, ad, c, h1, rfl, h2⟩ := hd; exact ⟨⟨l, ad, c, h1, rfl, h2⟩, _, _, rfl⟩
  · cases h
    rename_i b id esz
    refine ⟨hd, ?_⟩
    cases b
    · obtain ⟨l, ad, c, _, rfl, _⟩ := hd.2 rfl; exact ⟨_, _, rfl⟩
    · obtain ⟨rfl, rfl⟩ := hd.1 rfl; exact ⟨_, _, rfl⟩
  · split at h
    · cases h
      exact ⟨hd, _, _, hd⟩
    · cases h
theorem lensN_den {m : Map} : ∀ {o : List SV} {ns : List Nat} {vo : List Value}, lensN o = some ns → All2 (Den m) o vo →
    ∃ V : List (Option Addr × Nat), V.length = ns.length ∧ (∀ m', All2 (Den m') (cstL ns V) vo) ∧ ∀ (m' : Map) k u, DenA m' (getL (cstL ns V) k) u → DenA m (getL o k) u
  | [], ns, vo, h, hd => by
    cases h
    cases vo with
    | cons => exact hd.elim
    | nil => exact ⟨[], rfl, fun _ => trivial, fun _ _ _ _ => trivial⟩
  | s :: o, ns, vo, h, hd => by
    simp only [lensN] at h
    split at h
    rotate_left
    · cases h
    rename_i n hn
    split at h
    rotate_left
    · cases h
    rename_i l hl
    cases h
    cases vo with
    | nil => exact hd.elim
    | cons v vo =>
    obtain ⟨d1, d2⟩ := hd
    obtain ⟨e1, a, c, rfl⟩ := lenN_den hn d1
    obtain ⟨V, f1, f2, f3⟩ := lensN_den hl d2
    refine ⟨(a, c) :: V, by simp [f1], fun m' => ⟨rfl, f2 m'⟩, fun m' k u hu => ?_⟩
    cases k with
    | zero =>
      obtain rfl : u = _ := hu
      exact e1
    | succ k => exact f3 m' k u hu

def RSimA (O : List SV) (h : List Blk) : List Nat → List RA → List SV → Prop
  | seen, [], vs => match vs with
    | [] => True
    | _ => False
  | seen, x :: r, vs => match vs with
    | [] => False
    | v :: vs => match x with
      | .val s => SimA v s ∧ RSimA O h seen r vs
      | .arg k => Leaf (v = getL O k) ∧ RSimA O h seen r vs
      | .rows b esz xs => match v with
        | .nils => Leaf (b = true) ∧ Leaf (xs = []) ∧ RSimA O h seen r vs
        | .sl id e off len => match getB h id with
          | .arr true ok e' ys => match Nat.beq e esz && Nat.beq e' esz && !memN id seen with
            | true => Leaf (b = false) ∧ VC (ok = true) ∧ VC (off = 0) ∧ VC (len ≤ ys.length) ∧ Leaf (ys.take len = xs) ∧ RSimA O h (id :: seen) r vs
            | false => False
          | _ => False
        | .osl b' id e len => match getB h id with
          | .arr true ok e' ys => match Nat.beq e esz && Nat.beq e' esz && !memN id seen with
            | true => Leaf (b' = b) ∧ VC (b = false → ok = true) ∧ VC (len ≤ ys.length) ∧ Leaf (ys.take len = xs) ∧ RSimA O h (id :: seen) r vs
            | false => False
          | _ => False
        | _ => False
def RFinA (O : List SV) (T : Tab) (rs : List ResultVar) (spec : List RA) (t : List SV) (h : List Blk) : Prop :=
  match resS T ⟨t, h⟩ rs with
  | some r => match spec with
    | [] => False
    | x :: y => match y with
      | [] => RSimA O h [] [x] [r]
      | _ => match r with
        | .tup l => RSimA O h [] (x :: y) l
        | _ => False
  | none => False
def FinGA (O : List SV) (T : Tab) (rs : List ResultVar) (spec : List RA) (e : Exit) (t : List SV) (h : List Blk) : Prop :=
  match e with
  | .ret => RFinA O T rs spec t h
  | .normal => RFinA O T rs spec t h
  | _ => False
def genaRun (ms : List Bool) (sh : List Sh) (pre : List Int → List (Bool × List (List Int)) → List Nat → List Prop) (g : List Int → List (Bool × List (List Int)) → List Nat → List RA) (nid : Nat) (args : List SV) (rd : Nat → Blk) : Option CRes :=
  match splitM ms args with
  | some (p, o) => match lensN o with
    | some ns => match flatG rd sh p with
      | some (l, R, ps) => some ⟨appP ps (pre l R ns), raVal o nid (g l R ns), raBlks (g l R ns), []⟩
      | none => none
    | none => none
  | none => none
def EVGA (P : Program) (T : Tab) (C : List Con) (pl : Plans) (rs : List ResultVar) (n : Nat) (code : Code) (ms : List Bool) (sh : List Sh) (l : List Int) (R : List (Bool × List (List Int))) (O : List SV) (spec : List RA) : Prop :=
  match mkArgsR sh 0 l R with
  | some ss => match padO (mergeM ms ss O) n with
    | some ts => EV P T C pl code ts (mkBlks sh R) (FinGA O T rs spec)
    | none => False
  | none => False

/-- The results, as the caller sees them. -/
theorem RSimA.out {m mc : Map} {w : World} {h : List Blk} {B : Nat} {O A : List SV} (hA : ∀ (k : Nat) (u : Value), DenA m (getL O k) u → DenA mc (getL A k) u) (hB : ∀ id, BlkH m id w (getB h id)) (hap : ∀ i j p q, i ≠ j → (getB h i).own = true → (getB h j).live = true → m i = some p → m j = some q → p.b ≠ q.b) (hown : ∀ i p, (getB h i).own = true → m i = some p → B ≤ p.b) :
    ∀ {spec : List RA} {seen : List Nat} {vs : List SV} {us : List Value}, RSimA O h seen spec vs → All2 (DenA m) vs us →
    ∃ Q : List (Option Place), Q.length = (raBlks spec).length ∧
      (∀ (mm : Map) (n : Nat), mc.le mm → (∀ i q, Q[i]? = some q → mm (n + i) = q) → All2 (DenA mm) (raVals A n spec) us ∧ ∀ k b, (raBlks spec)[k]? = some b → BlkH mm (n + k) w b) ∧
      (∀ (k : Nat) (p : Place), Q[k]? = some (some p) → B ≤ p.b ∧ ∃ id, id ∉ seen ∧ (getB h id).own = true ∧ m id = some p) ∧
      (∀ (k k' : Nat) (p p' : Place), k ≠ k' → Q[k]? = some (some p) → Q[k']? = some (some p') → p.b ≠ p'.b)
  | [], seen, vs, us, hs, hd => by
    simp only [RSimA] at hs
    split at hs
    · cases us with
      | cons => exact hd.elim
      | nil => exact ⟨[], rfl, fun mm n _ _ => ⟨trivial, fun k b hk => by simp [raBlks] at hk⟩, fun k p hk => by simp at hk, fun k k' p p' _ hk => by simp at hk⟩
    · exact hs.elim
  | x :: r, seen, vs, us, hs, hd => by
    simp only [RSimA] at hs
    split at hs
    · exact hs.elim
    rename_i v vs
    cases us with
    | nil => exact hd.elim
    | cons u us =>
    obtain ⟨d1, d2⟩ := hd
    -- one more, with its place
    have step : ∀ (b : Bool) (esz : Nat) (xs : List (List Int)) (q : Option Place) (seen' : List Nat), x = .rows b esz xs → RSimA O h seen' r vs → (∀ i, i ∈ seen → i ∈ seen') →
        (∀ (mm : Map) (n : Nat), mm n = q → DenA mm (.osl b n esz xs.length) u ∧ BlkH mm n w (.arr true (!b) esz xs)) →
        (∀ p, q = some p → ∃ id, id ∈ seen' ∧ id ∉ seen ∧ (getB h id).own = true ∧ m id = some p) →
        ∃ Q : List (Option Place), Q.length = (raBlks (x :: r)).length ∧
      (∀ (mm : Map) (n : Nat), mc.le mm → (∀ i q, Q[i]? = some q → mm (n + i) = q) → All2 (DenA mm) (raVals A n (x :: r)) (u :: us) ∧ ∀ k b, (raBlks (x :: r))[k]? = some b → BlkH mm (n + k) w b) ∧
      (∀ (k : Nat) (p : Place), Q[k]? = some (some p) → B ≤ p.b ∧ ∃ id, id ∉ seen ∧ (getB h id).own = true ∧ m id = some p) ∧
      (∀ (k k' : Nat) (p p' : Place), k ≠ k' → Q[k]? = some (some p) → Q[k']? = some (some p') → p.b ≠ p'.b) := by
      intro b esz xs q seen' hx hr hsub hq1 hq2
      subst hx
      obtain ⟨Q, e1, e2, e3, e4⟩ := RSimA.out hA hB hap hown hr d2
      refine ⟨q :: Q, by simp [raBlks, e1], fun mm n hle hmm => ?_, fun k p hk => ?_, fun k k' p p' hkk hk hk' => ?_⟩
      · obtain ⟨f1, f2⟩ := e2 mm (n + 1) hle (fun i q' hi => by rw [show n + 1 + i = n + (i + 1) by omega]; exact hmm (i + 1) q' (by simpa using hi))
        obtain ⟨g1, g2⟩ := hq1 mm n (hmm 0 q rfl)
        refine ⟨⟨g1, f1⟩, fun k b' hk => ?_⟩
        cases k with
        | zero => simp [raBlks] at hk; subst hk; exact g2
        | succ k =>
          have := f2 k b' (by simpa [raBlks] using hk)
          rwa [show n + 1 + k = n + (k + 1) by omega] at this
      · cases k with
        | zero =>
          simp at hk
          obtain ⟨id, h1, h2, h3, h4⟩ := hq2 p hk
          exact ⟨hown id p h3 h4, id, h2, h3, h4⟩
        | succ k =>
          obtain ⟨h1, id, h2, h3, h4⟩ := e3 k p (by simpa using hk)
          exact ⟨h1, id, fun hm => h2 (hsub _ hm), h3, h4⟩
      · cases k with
        | zero =>
          cases k' with
          | zero => exact absurd rfl hkk
          | succ k' =>
            simp at hk
            obtain ⟨id, h1, h2, h3, h4⟩ := hq2 p hk
            obtain ⟨_, id', h2', h3', h4'⟩ := e3 k' p' (by simpa using hk')
            exact hap id id' p p' (fun e => h2' (e ▸ h1)) h3 (Blk.live_of_own h3') h4 h4'
        | succ k =>
          cases k' with
          | zero =>
            simp at hk'
            obtain ⟨id, h1, h2, h3, h4⟩ := hq2 p' hk'
            obtain ⟨_, id', h2', h3', h4'⟩ := e3 k p (by simpa using hk)
            exact (hap id id' p' p (fun e => h2' (e ▸ h1)) h3 (Blk.live_of_own h3') h4 h4').symm
          | succ k' => exact e4 k k' p p' (by omega) (by simpa using hk) (by simpa using hk')
    split at hs
    · rename_i s
      obtain ⟨h1, h2⟩ := hs
      obtain ⟨Q, e1, e2, e3, e4⟩ := RSimA.out hA hB hap hown h2 d2
      refine ⟨Q, by simpa [raBlks] using e1, fun mm n hle hmm => ?_, e3, e4⟩
      obtain ⟨f1, f2⟩ := e2 mm n hle hmm
      exact ⟨⟨((h1.den (m' := mm) d1.d).2), f1⟩, f2⟩
    · rename_i k
      obtain ⟨h1, h2⟩ := hs
      obtain rfl := h1.out
      obtain ⟨Q, e1, e2, e3, e4⟩ := RSimA.out hA hB hap hown h2 d2
      exact ⟨Q, by simpa [raBlks] using e1, fun mm n hle hmm => ⟨⟨(hA k u d1).le hle, (e2 mm n hle hmm).1⟩, (e2 mm n hle hmm).2⟩, e3, e4⟩
    · rename_i b esz xs
      split at hs
      · obtain ⟨h1, h2, h3⟩ := hs
        obtain rfl := h1.out
        obtain rfl := h2.out
        exact step true esz [] none seen rfl h3 (fun _ h => h) (fun mm n hmm => ⟨⟨fun _ => ⟨d1, rfl⟩, fun h => (by cases h)⟩, fun h => (by cases h)⟩) (fun p h => by cases h)
      · rename_i id e off len
        split at hs
        rotate_left
        · exact hs.elim
        rename_i ok e' ys hg
        split at hs
        rotate_left
        · exact hs.elim
        rename_i hc
        simp only [Bool.and_eq_true, Bool.not_eq_true'] at hc
        obtain rfl := Nat.eq_of_beq_eq_true hc.1.1
        obtain rfl := Nat.eq_of_beq_eq_true hc.1.2
        obtain ⟨h1, h2, h3, h4, h5, h6⟩ := hs
        obtain rfl := h1.out
        obtain rfl := h2.out
        obtain rfl := h3.out
        obtain rfl := h5.out
        have hlen := h4.out
        have hBi := hB id
        rw [hg] at hBi
        obtain ⟨l, ad, c, hm, rfl, k1, k2, k3⟩ := d1
        have hl : (ys.take len).length = len := by simp; omega
        exact step false e' (ys.take len) (m id) (id :: seen) rfl h6 (fun _ h => List.mem_cons_of_mem _ h) (fun mm n hmm => ⟨⟨fun h => (by cases h), fun _ => ⟨l, ad, c, by rw [hmm, hm], by rw [hl], by omega, by omega, fun h => by rw [k3 h]; simp⟩⟩, blk_as hBi hmm hlen⟩)
          (fun p hp => ⟨id, List.mem_cons_self, memN_no hc.2, by rw [hg]; rfl, hp⟩)
      · rename_i b' id e len
        split at hs
        rotate_left
        · exact hs.elim
        rename_i ok e' ys hg
        split at hs
        rotate_left
        · exact hs.elim
        rename_i hc
        simp only [Bool.and_eq_true, Bool.not_eq_true'] at hc
        obtain rfl := Nat.eq_of_beq_eq_true hc.1.1
        obtain rfl := Nat.eq_of_beq_eq_true hc.1.2
        obtain ⟨h1, h2, h4, h5, h6⟩ := hs
        obtain rfl := h1.out
        obtain rfl := h5.out
        have hlen := h4.out
        have hl : (ys.take len).length = len := by simp; omega
        cases b' with
        | true =>
          obtain ⟨rfl, rfl⟩ := d1.1 rfl
          exact step true e' (ys.take 0) none (id :: seen) rfl h6 (fun _ h => List.mem_cons_of_mem _ h) (fun mm n hmm => ⟨⟨fun _ => ⟨rfl, by simp⟩, fun h => (by cases h)⟩, fun h => (by cases h)⟩) (fun p h => by cases h)
        | false =>
          obtain rfl := h2.out rfl
          have hBi := hB id
          rw [hg] at hBi
          obtain ⟨l, ad, c, hm, rfl, k1, k2, k3⟩ := d1.2 rfl
          exact step false e' (ys.take len) (m id) (id :: seen) rfl h6 (fun _ h => List.mem_cons_of_mem _ h) (fun mm n hmm => ⟨⟨fun h => (by cases h), fun _ => ⟨l, ad, c, by rw [hmm, hm], by rw [hl], k1, by omega, k3⟩⟩, blk_as hBi hmm hlen⟩)
            (fun p hp => ⟨id, List.mem_cons_self, memN_no hc.2, by rw [hg]; rfl, hp⟩)
      · exact hs.elim

/-- A result that is no tuple. -/
theorem RSimA.part {O : List SV} {h : List Blk} (hO : ∀ k, notTup (getL O k) = true) : ∀ {seen : List Nat} {spec : List RA} {vs : List SV}, RSimA O h seen spec vs → partOK vs = true
  | seen, [], vs, hs => by
    simp only [RSimA] at hs
    split at hs
    · rfl
    · exact hs.elim
  | seen, x :: r, vs, hs => by
    simp only [RSimA] at hs
    split at hs
    · exact hs.elim
    rename_i v vs
    simp only [partOK]
    split at hs
    · obtain ⟨h1, h2⟩ := hs
      have : notTup v = true := by
        cases v <;> first | rfl | (simp [SimA, SimS, toN, toB] at h1)
      rw [this]
      exact RSimA.part hO h2
    · obtain ⟨h1, h2⟩ := hs
      rw [h1.out, hO]
      exact RSimA.part hO h2
    · split at hs
      · exact RSimA.part hO hs.2.2
      · split at hs
        rotate_left
        · exact hs.elim
        split at hs
        · exact RSimA.part hO hs.2.2.2.2.2
        · exact hs.elim
      · split at hs
        rotate_left
        · exact hs.elim
        split at hs
        · exact RSimA.part hO hs.2.2.2.2
        · exact hs.elim
      · exact hs.elim

theorem cst_noTup : ∀ (ns : List Nat) (V : List (Option Addr × Nat)) (k : Nat), notTup (getL (cstL ns V) k) = true
  | [], V, k => rfl
  | n :: ns, [], k => rfl
  | n :: ns, (a, c) :: V, 0 => rfl
  | n :: ns, (a, c) :: V, k + 1 => cst_noTup ns V k
/-- A CONTRACT of a function that may hand back arguments as they came in: these it does not read. -/
theorem con_gena {P : Program} {T : Tab} {C : List Con} {pl : Plans} {f : FuncId} {fn : Func} {code : Code} (hf : P.funcs[f]? = some fn) (hb : fn.body = some code) (hn : (fn.name == "runtime.NumGoroutine") = false)
    (hT : T.Ok P) (hC : Cons.Ok P C) (hm : P.follows .mixedOrders = true) (hpl : plansOK pl code = true) (ms : List Bool) (sh : List Sh) (pre : List Int → List (Bool × List (List Int)) → List Nat → List Prop) (g : List Int → List (Bool × List (List Int)) → List Nat → List RA)
    (h : ∀ l R ns V, l.length = totR sh → R.length = nRows sh → ns.length = nOps ms → V.length = nOps ms → nilsOK R → (∀ p ∈ pre l R ns, p) → EVGA P T C pl fn.results.toList fn.ntmps code ms sh l R (cstL ns V) (g l R ns)) : Con.Ok P ⟨f, genaRun ms sh pre g⟩ := by
  refine ⟨⟨fn, hf, by rw [hb]; rfl, hn⟩, fun nid args rd r hr hp m w vs hd hB hap hfr hus => ?_⟩
  simp only [genaRun] at hr
  split at hr
  rotate_left
  · cases hr
  rename_i pa o hsp
  split at hr
  rotate_left
  · cases hr
  rename_i ns hns
  split at hr
  rotate_left
  · cases hr
  rename_i l R ps hl
  cases hr
  obtain ⟨vp, vo, x1, x2, x3⟩ := splitM_den hsp hd
  obtain ⟨V, y1, y2, y3⟩ := lensN_den hns x2
  obtain ⟨h1, h2, g4, g6, Q, g5, g7⟩ := flatG_mk hB hl (fun p hq => hp p (appP_mem.2 (Or.inl hq))) x1
  have hnl : ns.length = nOps ms := (lensN_len hns).trans (splitM_len hsp)
  have hev := h l R ns V h1 h2 hnl (y1.trans hnl) g4 (fun p hq => hp p (appP_mem.2 (Or.inr hq)))
  obtain ⟨ss, j1, j2⟩ := g7 0
  unfold EVGA at hev
  rw [j1] at hev
  simp only at hev
  split at hev
  rotate_left
  · exact hev.elim
  rename_i ts hts
  obtain ⟨q1, q2⟩ := j2 (fun i => (Q[i]?).join) (fun i q hi => by simp [hi])
  have hs := (EV_sound hT hC hm code _ _ _ hpl hev).out w.heap.size (fun _ => False) w (fun i => (Q[i]?).join) _ w (fun id hid => by
    rw [g6, ← g5]
    by_cases hlt : id < Q.length
    · exact hlt
    · exact absurd (by simp [List.getElem?_eq_none (Nat.le_of_not_lt hlt)]) hid) (holds_start' hts (x3 _ _ _ q1 (y2 _)) (fun i => by have := q2 i; rwa [Nat.zero_add] at this) (fun i => mkBlks_own))
  refine calls_of_wp hf hb (wp_mono hs fun e a' w' hq => ?_)
  obtain ⟨st', m', k2, k3, k4⟩ := hq
  have hown : ∀ i p, (getB st'.heap i).own = true → m' i = some p → w.heap.size ≤ p.b := fun i p ho hp => (k3.own i p ho hp).resolve_right id
  have hA : ∀ (k : Nat) (u : Value), DenA m' (getL (cstL ns V) k) u → DenA m (getL o k) u := fun k u hu => y3 m' k u hu
  have fin : RFinA (cstL ns V) T fn.results.toList (g l R ns) st'.tmps st'.heap → a'.defers = [] ∧ ∃ v, (results fn a'.tmps).run P w' = .ok v w' ∧ CallPost rd m nid ⟨appP ps (pre l R ns), raVal o nid (g l R ns), raBlks (g l R ns), []⟩ w (.returned v) w' := fun hfin => by
    unfold RFinA at hfin
    split at hfin
    rotate_left
    · exact hfin.elim
    rename_i r hr
    -- the end, once the results' places are there
    have close : ∀ (v : Value) (Q' : List (Option Place)), (results fn a'.tmps).run P w' = .ok v w' → Q'.length = (raBlks (g l R ns)).length →
        (∀ (mm : Map), m.le mm → (∀ i q, Q'[i]? = some q → mm (nid + i) = q) → Den mm (raVal o nid (g l R ns)) v ∧ ∀ k b, (raBlks (g l R ns))[k]? = some b → BlkH mm (nid + k) w' b) →
        (∀ (k : Nat) (p : Place), Q'[k]? = some (some p) → w.heap.size ≤ p.b) → (∀ (k k' : Nat) (p p' : Place), k ≠ k' → Q'[k]? = some (some p) → Q'[k']? = some (some p') → p.b ≠ p'.b) →
        a'.defers = [] ∧ ∃ v, (results fn a'.tmps).run P w' = .ok v w' ∧ CallPost rd m nid ⟨appP ps (pre l R ns), raVal o nid (g l R ns), raBlks (g l R ns), []⟩ w (.returned v) w' := fun v Q' hv hQ he hfr' hne => by
      have hmm : ∀ i q, Q'[i]? = some q → outMap m nid (raBlks (g l R ns)).length Q' (nid + i) = q := fun i q hi => by
        have hlt : i < Q'.length := (List.getElem?_eq_some_iff.1 hi).1
        unfold outMap
        rw [if_pos ⟨by omega, by omega⟩, show nid + i - nid = i by omega, hi]; rfl
      have hle : m.le (outMap m nid (raBlks (g l R ns)).length Q') := fun id hid => by
        refine if_neg (fun ⟨e1, e2⟩ => hid ?_)
        have := hfr (id - nid) (by simp only; omega)
        rwa [show nid + (id - nid) = id by omega] at this
      obtain ⟨f1, f2⟩ := he _ hle hmm
      have hpl' : ∀ k b p, (raBlks (g l R ns))[k]? = some b → outMap m nid (raBlks (g l R ns)).length Q' (nid + k) = some p → Q'[k]? = some (some p) := fun k b p hk hp' => by
        have hlt := (List.getElem?_eq_some_iff.1 hk).1
        unfold outMap at hp'
        rw [if_pos ⟨by omega, by omega⟩, show nid + k - nid = k by omega] at hp'
        rw [List.getElem?_eq_getElem (by omega)] at hp' ⊢
        simpa using hp'
      refine ⟨k3.defers, v, hv, v, _, rfl, fun id hid => ?_, f1, f2, fun k b p hk _ hp' => Or.inl (hfr' k p (hpl' k b p hk hp')), fun k k' b b' p p' hkk hk hk' _ _ hp1 hp2 => hne k k' p p' hkk (hpl' k b p hk hp1) (hpl' k' b' p' hk' hp2), ?_⟩
      · exact if_neg (fun ⟨e1, e2⟩ => by rcases hid with e | e <;> (try simp only at e) <;> omega)
      · exact k3.below.mono (Nat.le_refl _) (fun k _ hbad => hbad.elim)
    generalize hspec : g l R ns = spec at hfin close ⊢
    cases spec with
    | nil => exact hfin.elim
    | cons x y =>
      cases y with
      | nil =>
        have hpart := RSimA.part (cst_noTup ns V) hfin
        simp only [partOK] at hpart
        have hnt : notTup r = true := by
          cases hh : notTup r
          · rw [hh] at hpart; cases hpart
          · rfl
        obtain ⟨v, e1, e2⟩ := resS_sound hT k3 hr (fun l' e => by subst e; cases hnt)
        obtain ⟨Q', o1, o2, o3, o4⟩ := RSimA.out hA k3.blk k3.apart hown hfin (us := [v]) ⟨Den.of_notTup hnt e2, trivial⟩
        refine close v Q' e1 o1 (fun mm hle hmm => ?_) (fun k p hk => (o3 k p hk).1) o4
        obtain ⟨f1, f2⟩ := o2 mm nid hle hmm
        refine ⟨?_, f2⟩
        cases x with
        | val s => exact f1.1.d
        | rows b esz xs => exact f1.1.d
        | arg k => exact f1.1.d
      | cons y z =>
        simp only at hfin
        split at hfin
        rotate_left
        · exact hfin.elim
        rename_i ll
        obtain ⟨v, e1, us, rfl, e2⟩ := resS_sound hT k3 hr (fun l' e => by cases e; exact RSimA.part (cst_noTup ns V) hfin)
        obtain ⟨Q', o1, o2, o3, o4⟩ := RSimA.out hA k3.blk k3.apart hown hfin e2
        refine close _ Q' e1 o1 (fun mm hle hmm => ?_) (fun k p hk => (o3 k p hk).1) o4
        obtain ⟨f1, f2⟩ := o2 mm nid hle hmm
        exact ⟨⟨us, rfl, f1⟩, f2⟩
  cases e with
  | ret => exact fin k4
  | normal => exact fin k4
  | _ => exact k4.elim
end Go.Proofs.Ytapbegcmdiemoaa.Ev
