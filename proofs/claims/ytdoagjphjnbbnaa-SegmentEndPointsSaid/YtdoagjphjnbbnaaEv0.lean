/- A walk that is reckoned: symbolic values, blocks and states, and what they say of a frame and a world. No program in sight. -/
import Derived.WalkKit
namespace Go.Proofs.Ytdoagjphjnbbnaa.Ev
open Go.RowKit
set_option linter.unusedVariables false
set_option linter.unusedSimpArgs false

/-- A value as the reckoning knows it. 'lit', 'blit': known numbers and truths; 'int', 'bool': numbers and truths that are letters; 'ptr': an address in a block of cells; 'pti': in element i of a row; 'sl': a slice of a row; 'osl': one that is nil where b holds. -/
inductive SV where
  | lit (k : IntKind) (n : Int)
  | int (k : IntKind) (n : Int)
  | blit (b : Bool)
  | bool (b : Bool)
  | agg (cs : List SV)
  | tup (vs : List SV)
  | ptr (id off : Nat)
  | pti (id esz i j : Nat)
  | nils
  | sl (id esz off len : Nat)
  | osl (b : Bool) (id esz len : Nat)
  | cst (v : Value)
  | any

/-- A block: cells that are known one by one, or a row of elements of esz numbers each (ow: it may be written; ok: it is there at all). -/
inductive Blk where
  | dead
  | cells (cs : List SV)
  | arr (ow ok : Bool) (esz : Nat) (xs : List (List Int))

structure St where
  tmps : List SV
  heap : List Blk

/-- Where a block lies: its number, the first cell, the capacity in elements. -/
structure Place where
  b : Nat
  o : Nat
  c : Nat

abbrev Map := Nat → Option Place

def at2 (xs : List (List Int)) (i j : Nat) : Int := (xs.getD i []).getD j 0

def All2 {α β : Type} (R : α → β → Prop) : List α → List β → Prop
  | [], [] => True
  | a :: as, b :: bs => R a b ∧ All2 R as bs
  | _, _ => False

section all2
variable {α β : Type} {R S : α → β → Prop}
theorem All2.mono (h : ∀ a b, R a b → S a b) : ∀ {as : List α} {bs : List β}, All2 R as bs → All2 S as bs
  | [], [], _ => trivial
  | _ :: _, _ :: _, ⟨h1, h2⟩ => ⟨h _ _ h1, All2.mono h h2⟩
theorem All2.length : ∀ {as : List α} {bs : List β}, All2 R as bs → as.length = bs.length
  | [], [], _ => rfl
  | _ :: _, _ :: _, ⟨_, h⟩ => by simp [All2.length h]
theorem All2.get : ∀ {as : List α} {bs : List β}, All2 R as bs → ∀ (i : Nat) (a : α), as[i]? = some a → ∃ b, bs[i]? = some b ∧ R a b
  | _ :: _, _ :: _, ⟨h1, _⟩, 0, a, h => ⟨_, rfl, by simp at h; exact h ▸ h1⟩
  | _ :: _, _ :: _, ⟨_, h2⟩, i + 1, a, h => by simpa using All2.get h2 i a (by simpa using h)
theorem All2.append : ∀ {as : List α} {bs : List β} {as' : List α} {bs' : List β}, All2 R as bs → All2 R as' bs' → All2 R (as ++ as') (bs ++ bs')
  | [], [], _, _, _, h => h
  | _ :: _, _ :: _, _, _, ⟨h1, h2⟩, h => ⟨h1, All2.append h2 h⟩
theorem All2.take : ∀ {as : List α} {bs : List β}, All2 R as bs → ∀ n, All2 R (as.take n) (bs.take n)
  | [], [], _, n => by simp [All2]
  | _ :: _, _ :: _, _, 0 => trivial
  | _ :: _, _ :: _, ⟨h1, h2⟩, n + 1 => ⟨h1, All2.take h2 n⟩
theorem All2.drop : ∀ {as : List α} {bs : List β}, All2 R as bs → ∀ n, All2 R (as.drop n) (bs.drop n)
  | [], [], _, n => by simp [All2]
  | _ :: _, _ :: _, h, 0 => h
  | _ :: _, _ :: _, ⟨_, h2⟩, n + 1 => All2.drop h2 n
theorem All2.set : ∀ {as : List α} {bs : List β}, All2 R as bs → ∀ (n : Nat) {a : α} {b : β}, R a b → All2 R (as.set n a) (bs.set n b)
  | [], [], _, n, _, _, _ => by simp [All2]
  | _ :: _, _ :: _, ⟨_, h2⟩, 0, _, _, h => ⟨h, h2⟩
  | _ :: _, _ :: _, ⟨h1, h2⟩, n + 1, _, _, h => ⟨h1, All2.set h2 n h⟩
end all2

/-- What a symbolic value says of a value. -/
def DenS (m : Map) : SV → Value → Prop
  | .lit k n, v => v = .int k n
  | .int k n, v => v = .int k n
  | .blit b, v => v = .bool b
  | .bool b, v => v = .bool b
  | .ptr id off, v => ∃ l, m id = some l ∧ v = .pointer (some ⟨l.b, l.o + off, none⟩)
  | .pti id esz i j, v => ∃ l, m id = some l ∧ v = .pointer (some ⟨l.b, l.o + (i * esz + j), none⟩)
  | .nils, v => v = .slice none 0 0
  | .sl id esz off len, v => ∃ l ad c, m id = some l ∧ v = .slice (some ad) len c ∧ off + c = l.c ∧ len ≤ c ∧ (0 < c → ad = ⟨l.b, l.o + off * esz, none⟩)
  | .osl b id esz len, v => (b = true → v = .slice none 0 0 ∧ len = 0) ∧ (b = false → ∃ l ad c, m id = some l ∧ v = .slice (some ad) len c ∧ c = l.c ∧ len ≤ c ∧ (0 < c → ad = ⟨l.b, l.o, none⟩))
  | .cst u, v => v = u
  | .any, _ => True
  | .agg _, _ => False
  | .tup _, _ => False

def DenA (m : Map) : SV → Value → Prop
  | .agg cs, v => ∃ vs : Array Value, v = .agg vs ∧ All2 (DenS m) cs vs.toList
  | s, v => DenS m s v

def Den (m : Map) : SV → Value → Prop
  | .tup ss, v => ∃ vs : Array Value, v = .tuple vs ∧ All2 (DenA m) ss vs.toList
  | s, v => DenA m s v

def Map.le (m m' : Map) : Prop := ∀ id, m id ≠ none → m' id = m id

theorem Map.le.some {m m' : Map} (h : m.le m') {id : Nat} {l : Place} (e : m id = some l) : m' id = some l := by rw [h id (by rw [e]; simp), e]
theorem Map.le.refl (m : Map) : m.le m := fun _ _ => rfl
theorem Map.le.trans {a b c : Map} (h : a.le b) (k : b.le c) : a.le c := fun id hn => by rw [k id (by rw [h id hn]; exact hn), h id hn]

theorem DenS.le {m m' : Map} (h : m.le m') {s : SV} {v : Value} (d : DenS m s v) : DenS m' s v := by
  cases s with
  | ptr id off => obtain ⟨l, e, hv⟩ := d; exact ⟨l, h.some e, hv⟩
  | pti id esz i j => obtain ⟨l, e, hv⟩ := d; exact ⟨l, h.some e, hv⟩
  | sl id esz off len => obtain ⟨l, ad, c, e, hv⟩ := d; exact ⟨l, ad, c, h.some e, hv⟩
  | osl b id esz len => exact ⟨d.1, fun hb => by obtain ⟨l, ad, c, e, hv⟩ := d.2 hb; exact ⟨l, ad, c, h.some e, hv⟩⟩
  | _ => exact d
theorem DenA_eq {m : Map} {s : SV} (h : ∀ cs, s ≠ .agg cs) (v : Value) : DenA m s v = DenS m s v := by
  cases s with
  | agg cs => exact absurd rfl (h cs)
  | _ => rfl
theorem Den_eq {m : Map} {s : SV} (h : ∀ cs, s ≠ .tup cs) (v : Value) : Den m s v = DenA m s v := by
  cases s with
  | tup cs => exact absurd rfl (h cs)
  | _ => rfl
theorem DenA.le {m m' : Map} (h : m.le m') {s : SV} {v : Value} (d : DenA m s v) : DenA m' s v := by
  cases s with
  | agg cs => obtain ⟨vs, hv, k⟩ := d; exact ⟨vs, hv, k.mono fun _ _ => DenS.le h⟩
  | _ =>
    rw [DenA_eq (by intro _ h; cases h)] at d ⊢
    exact DenS.le h d
theorem Den.le {m m' : Map} (h : m.le m') {s : SV} {v : Value} (d : Den m s v) : Den m' s v := by
  cases s with
  | tup cs => obtain ⟨vs, hv, k⟩ := d; exact ⟨vs, hv, k.mono fun _ _ => DenA.le h⟩
  | _ =>
    rw [Den_eq (by intro _ h; cases h)] at d ⊢
    exact DenA.le h d
theorem DenS.a {m : Map} {s : SV} {v : Value} (d : DenS m s v) : DenA m s v := by
  cases s with
  | agg => exact d.elim
  | _ => exact d
theorem DenA.d {m : Map} {s : SV} {v : Value} (d : DenA m s v) : Den m s v := by
  cases s with
  | tup => exact d.elim
  | _ => exact d

def Blk.own : Blk → Bool
  | .cells _ => true
  | .arr ow ok _ _ => ow && ok
  | .dead => false
def Blk.live : Blk → Bool
  | .cells _ => true
  | .arr _ ok _ _ => ok
  | .dead => false
theorem Blk.live_of_own {b : Blk} (h : b.own = true) : b.live = true := by
  cases b with
  | arr ow ok esz xs => simp only [Blk.own, Bool.and_eq_true] at h; exact h.2
  | _ => exact h

/-- What a block says of the world. -/
def BlkH (m : Map) (id : Nat) (w : World) : Blk → Prop
  | .dead => True
  | .cells cs => ∃ l vs ty, m id = some l ∧ l.o = 0 ∧ w.heap[l.b]? = some (.cells vs ty (0, 0)) ∧ All2 (DenS m) cs vs.toList
  | .arr ow ok esz xs => ok = true → ∃ l vs ty fr, m id = some l ∧ w.heap[l.b]? = some (.cells vs ty fr) ∧
      (∀ i j, i < xs.length → j < esz → vs[l.o + (i * esz + j)]? = some (.int .i64 (at2 xs i j))) ∧ (ow = true → fr = (0, 0) ∧ l.o = 0 ∧ vs.size = l.c * esz ∧ xs.length ≤ l.c)

theorem BlkH.place {m : Map} {id : Nat} {w : World} {b : Blk} (h : BlkH m id w b) (hl : b.live = true) : ∃ l, m id = some l ∧ l.b < w.heap.size := by
  cases b with
  | dead => cases hl
  | cells cs => obtain ⟨l, vs, ty, e, _, hw, _⟩ := h; exact ⟨l, e, (Array.getElem?_eq_some_iff.1 hw).1⟩
  | arr ow ok esz xs => obtain ⟨l, vs, ty, fr, e, hw, _⟩ := h hl; exact ⟨l, e, (Array.getElem?_eq_some_iff.1 hw).1⟩

/-- A block that the new world holds as the old one did. -/
theorem BlkH.keep {m m' : Map} {id : Nat} {w w' : World} {b : Blk} (h : BlkH m id w b) (hm : m.le m') (hw : ∀ l, b.live = true → m id = some l → w'.heap[l.b]? = w.heap[l.b]?) : BlkH m' id w' b := by
  cases b with
  | dead => trivial
  | cells cs =>
    obtain ⟨l, vs, ty, e, ho, hh, hd⟩ := h
    exact ⟨l, vs, ty, hm.some e, ho, (hw l rfl e).trans hh, hd.mono fun _ _ => DenS.le hm⟩
  | arr ow ok esz xs =>
    intro hok
    obtain ⟨l, vs, ty, fr, e, hh, hd⟩ := h hok
    exact ⟨l, vs, ty, fr, hm.some e, (hw l hok e).trans hh, hd⟩

def getL : List SV → Nat → SV
  | [], _ => .any
  | h :: t, n => match n with
    | 0 => h
    | n + 1 => getL t n
def setL : List SV → Nat → SV → List SV
  | [], _, _ => []
  | h :: t, n, v => match n with
    | 0 => v :: t
    | n + 1 => h :: setL t n v
def getB : List Blk → Nat → Blk
  | [], _ => .dead
  | h :: t, n => match n with
    | 0 => h
    | n + 1 => getB t n
def setB : List Blk → Nat → Blk → List Blk
  | [], n, b => match n with
    | 0 => [b]
    | n + 1 => .dead :: setB [] n b
  | h :: t, n, b => match n with
    | 0 => b :: t
    | n + 1 => h :: setB t n b

theorem getL_setL : ∀ (l : List SV) (n : Nat) (v : SV) (k : Nat), getL (setL l n v) k = if k = n ∧ n < l.length then v else getL l k
  | [], n, v, k => by simp [setL, getL]
  | h :: t, 0, v, 0 => by simp [setL, getL]
  | h :: t, 0, v, k + 1 => by simp [setL, getL]
  | h :: t, n + 1, v, 0 => by simp [setL, getL]
  | h :: t, n + 1, v, k + 1 => by
    simp only [setL, getL, getL_setL t n v k, List.length_cons]
    by_cases e : k = n ∧ n < t.length
    · rw [if_pos e, if_pos (by omega)]
    · rw [if_neg e, if_neg (by omega)]
theorem setL_length : ∀ (l : List SV) (n : Nat) (v : SV), (setL l n v).length = l.length
  | [], n, v => rfl
  | h :: t, 0, v => rfl
  | h :: t, n + 1, v => by simp [setL, setL_length t n v]
theorem getL_ge : ∀ (l : List SV) (n : Nat), l.length ≤ n → getL l n = .any
  | [], n, _ => rfl
  | h :: t, n + 1, hn => getL_ge t n (by simpa using hn)
theorem getB_setB : ∀ (l : List Blk) (n : Nat) (v : Blk) (k : Nat), getB (setB l n v) k = if k = n then v else getB l k
  | [], 0, v, 0 => by simp [setB, getB]
  | [], 0, v, k + 1 => by simp [setB, getB]
  | [], n + 1, v, 0 => by simp [setB, getB]
  | [], n + 1, v, k + 1 => by
    simp only [setB, getB, getB_setB [] n v k]
    by_cases e : k = n
    · rw [if_pos e, if_pos (by omega)]
    · rw [if_neg e, if_neg (by omega)]
  | h :: t, 0, v, 0 => by simp [setB, getB]
  | h :: t, 0, v, k + 1 => by simp [setB, getB]
  | h :: t, n + 1, v, 0 => by simp [setB, getB]
  | h :: t, n + 1, v, k + 1 => by
    simp only [setB, getB, getB_setB t n v k]
    by_cases e : k = n
    · rw [if_pos e, if_pos (by omega)]
    · rw [if_neg e, if_neg (by omega)]
theorem setB_length : ∀ (l : List Blk) (n : Nat) (v : Blk), (setB l n v).length = max l.length (n + 1)
  | [], 0, v => rfl
  | [], n + 1, v => by simp [setB, setB_length [] n v]
  | h :: t, 0, v => by simp [setB]
  | h :: t, n + 1, v => by simp [setB, setB_length t n v]
theorem getB_ge : ∀ (l : List Blk) (n : Nat), l.length ≤ n → getB l n = .dead
  | [], n, _ => rfl
  | h :: t, n + 1, hn => getB_ge t n (by simpa using hn)

/-- What is kept: the blocks below B that are not bad, and the streams. -/
structure Kept (B : Nat) (bad : Nat → Prop) (w w' : World) : Prop where
  os : w'.os = w.os
  tape : w'.tape = w.tape
  output : w'.output = w.output
  size : w.heap.size ≤ w'.heap.size
  block : ∀ k, k < B → ¬ bad k → w'.heap[k]? = w.heap[k]?
theorem Kept.refl (B : Nat) (bad : Nat → Prop) (w : World) : Kept B bad w w := ⟨rfl, rfl, rfl, Nat.le_refl _, fun _ _ _ => rfl⟩
theorem Kept.trans {B : Nat} {bad : Nat → Prop} {a b c : World} (h : Kept B bad a b) (k : Kept B bad b c) : Kept B bad a c :=
  ⟨k.os.trans h.os, k.tape.trans h.tape, k.output.trans h.output, Nat.le_trans h.size k.size, fun i hi hb => (k.block i hi hb).trans (h.block i hi hb)⟩
theorem Kept.mono {B B' : Nat} {bad bad' : Nat → Prop} {w w' : World} (h : Kept B bad w w') (hB : B' ≤ B) (hb : ∀ k, k < B' → bad k → bad' k) : Kept B' bad' w w' :=
  ⟨h.os, h.tape, h.output, h.size, fun k hk hn => h.block k (Nat.lt_of_lt_of_le hk hB) (fun e => hn (hb k hk e))⟩
theorem Kept.of_below {B : Nat} {bad : Nat → Prop} {w w' : World} (h : Below B w w') : Kept B bad w w' := ⟨h.os, h.tape, h.output, h.size, fun k hk _ => h.block k hk⟩
theorem Kept.below {B : Nat} {bad : Nat → Prop} {w w' : World} (h : Kept B bad w w') (hb : ∀ k, ¬ bad k) : Below B w w' := ⟨h.os, h.tape, h.output, h.size, fun k hk => h.block k hk (hb k)⟩

/-- WHAT A STATE SAYS of a frame and a world; B: from which block number on the call's own blocks lie; bad: the blocks below it that the call may use up; w0: the world as the call began. -/
structure Holds (B : Nat) (bad : Nat → Prop) (w0 : World) (m : Map) (st : St) (a : Act) (w : World) : Prop where
  defers : a.defers = []
  size : st.tmps.length ≤ a.tmps.size
  tmp : ∀ t, Den m (getL st.tmps t) (a.tmps.getD t undef)
  blk : ∀ id, BlkH m id w (getB st.heap id)
  apart : ∀ i j p q, i ≠ j → (getB st.heap i).own = true → (getB st.heap j).live = true → m i = some p → m j = some q → p.b ≠ q.b
  own : ∀ i p, (getB st.heap i).own = true → m i = some p → B ≤ p.b ∨ bad p.b
  below : Kept B bad w0 w
  base : B ≤ w0.heap.size

/-- The state matters by what its slots and blocks read alone. -/
theorem Holds.ext {B : Nat} {bad : Nat → Prop} {w0 : World} {m : Map} {st st' : St} {a : Act} {w : World} (h : Holds B bad w0 m st a w) (hl : st'.tmps.length ≤ st.tmps.length)
    (ht : ∀ t, getL st'.tmps t = getL st.tmps t) (hb : ∀ id, getB st'.heap id = getB st.heap id) : Holds B bad w0 m st' a w :=
  ⟨h.defers, Nat.le_trans hl h.size, fun t => by rw [ht]; exact h.tmp t, fun id => by rw [hb]; exact h.blk id,
    fun i j p q hij h1 h2 => by rw [hb] at h1 h2; exact h.apart i j p q hij h1 h2, fun i p h1 => by rw [hb] at h1; exact h.own i p h1, h.below, h.base⟩

/-- A draw turns nothing of it. -/
theorem Holds.drew {B : Nat} {bad : Nat → Prop} {w0 : World} {m : Map} {st : St} {a : Act} {w : World} (h : Holds B bad w0 m st a w) : Holds B bad w0 m st a { w with drawn := w.drawn + 1 } :=
  ⟨h.defers, h.size, h.tmp, fun id => (h.blk id).keep (Map.le.refl m) (fun _ _ _ => rfl), h.apart, h.own, ⟨h.below.os, h.below.tape, h.below.output, h.below.size, h.below.block⟩, h.base⟩

/-- A slot is written. -/
def St.put (st : St) (dst : Option Tmp) (v : SV) : St :=
  match dst with
  | some d => { st with tmps := setL st.tmps d v }
  | none => st

theorem Holds.put {B : Nat} {bad : Nat → Prop} {w0 : World} {m : Map} {st : St} {a : Act} {w : World} (h : Holds B bad w0 m st a w) (dst : Option Tmp) {s : SV} {v : Value} (hv : Den m s v) :
    Holds B bad w0 m (st.put dst s) (a.put dst v) w := by
  cases dst with
  | none => exact h
  | some d =>
    refine ⟨h.defers, ?_, fun t => ?_, h.blk, h.apart, h.own, h.below, h.base⟩
    · simp only [St.put, Act.put, setL_length, Array.size_setIfInBounds]; exact h.size
    · simp only [St.put, Act.put, getL_setL]
      by_cases e : t = d ∧ d < st.tmps.length
      · obtain ⟨rfl, hd⟩ := e
        have hs : t < a.tmps.size := Nat.lt_of_lt_of_le hd h.size
        rw [if_pos ⟨rfl, hd⟩]
        simpa [Array.getD_eq_getD_getElem?, hs] using hv
      · rw [if_neg e]
        by_cases e2 : t = d
        · subst e2
          rw [getL_ge _ _ (Nat.le_of_not_lt fun hlt => e ⟨rfl, hlt⟩)]
          trivial
        · have : (a.tmps.setIfInBounds d v).getD t undef = a.tmps.getD t undef := by
            simp [Array.getD_eq_getD_getElem?, Array.getElem?_setIfInBounds, Ne.symm e2]
          rw [this]
          exact h.tmp t
end Go.Proofs.Ytdoagjphjnbbnaa.Ev
