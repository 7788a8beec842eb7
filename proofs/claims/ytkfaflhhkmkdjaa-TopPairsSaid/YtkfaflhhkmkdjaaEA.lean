/- A walk that is reckoned: symbolic values, blocks and states, and what they say of a frame and a world. No program in sight. What an operation does to a state: the reckoning. No program in sight: the types come as a table, the callees as a list of contracts. The reckoning is sound, operation by operation (1): what only yields a value. The reckoning is sound, operation by operation (2): the other operations that only yield a value. The reckoning is sound, operation by operation (3): literals, slices, lengths; blocks that are made or written. The reckoning is sound, operation by operation (4): slices of slices; blocks that are made, written, used up. The reckoning is sound, operation by operation (5): makes, stores. The reckoning is sound, operation by operation (6): stores and appends. The reckoning is sound, operation by operation (7): append. The reckoning is sound, operation by operation (8): append, its state; calls; all operations together. -/
import Derived.WalkKit
import Derived.Laws.StructEq
import Derived.LaidEql
import Derived.Great.BuildSlice
namespace Go.Proofs.Ytkfaflhhkmkdjaa.Ev
open Go.RowKit
set_option linter.unusedVariables false
set_option linter.unusedSimpArgs false

/-- A value as the reckoning knows it. 'lit', 'blit': known numbers and truths; 'int', 'bool': numbers and truths that are letters; 'ptr': an address in a block of cells; 'pti': in element i of a row; 'sl': a slice of a row; 'osl': one that is nil where b holds. -/
inductive SV where
  | lit (k : IntKind) (n : Int)
  | int (k : IntKind) (n : Int)
  | blit (b : Bool)
  | bool (b : Bool)
  | agg (cs : List SV)
  | tup (vs : List SV)
  | ptr (id off : Nat)
  | pti (id esz i j : Nat)
  | nils
  | sl (id esz off len : Nat)
  | osl (b : Bool) (id esz len : Nat)
  | cst (v : Value)
  | any
  /-- an address in the store of block s: object number p - 1 of kind k (p = 0: nil) -/
  | np (s k p off : Nat)
  /-- a map in the store of block s -/
  | mv (s p : Nat)
  /-- no value: a mark that block id lies where the row lay that the call was handed to be written -/
  | here (id : Nat)
  /-- a map of its own: block id -/
  | bm (id : Nat)

/-- A node of a tree of boxes: its bounds, its neighbours, its height, its number. -/
structure Nd where
  b0 : Int
  b1 : Int
  b2 : Int
  b3 : Int
  par : Nat
  l : Nat
  r : Nat
  ht : Int
  id : Int
instance : Inhabited Nd := ⟨⟨0, 0, 0, 0, 0, 0, 0, 0, 0⟩⟩
/-- A store: nodes, trees (root and map), maps. An object is named by its place in its list, plus one. -/
structure Hp where
  nd : List Nd
  tr : List (Nat × Nat)
  mp : List (List (Int × Nat))

/-- A block: cells that are known one by one, or a row of elements of esz numbers each (ow: it may be written; ok: it is there at all). -/
inductive Blk where
  | dead
  | cells (cs : List SV)
  | arr (ow ok : Bool) (esz : Nat) (xs : List (List Int))
  | store (H : Hp)
  /-- a row of elements whose numbers are of these kinds; it is only read -/
  | arrk (ks : List IntKind) (xs : List (List Int))
  /-- a map of its own, from numbers to truths -/
  | mapb (es : List (Int × Bool))

structure St where
  tmps : List SV
  heap : List Blk

/-- Where a block lies: its number, the first cell, the capacity in elements. -/
structure Place where
  b : Nat
  o : Nat
  c : Nat

/-- Where the blocks lie; and where the objects of a store lie, by kind and number. -/
structure Map where
  f : Nat → Option Place
  g : Nat → Nat → Option Nat
  inj : ∀ k k' i i' b, g k i = some b → g k' i' = some b → k = k' ∧ i = i'
  q : Option Place
instance : CoeFun Map (fun _ => Nat → Option Place) := ⟨Map.f⟩
def Map.none' : Map := ⟨fun _ => none, fun _ _ => none, fun _ _ _ _ _ h => (by cases h), none⟩
def Map.of (f : Nat → Option Place) : Map := ⟨f, fun _ _ => none, fun _ _ _ _ _ h => (by cases h), none⟩
def Map.with (m : Map) (f : Nat → Option Place) : Map := ⟨f, m.g, m.inj, m.q⟩

def at2 (xs : List (List Int)) (i j : Nat) : Int := (xs.getD i []).getD j 0

def All2 {α β : Type} (R : α → β → Prop) : List α → List β → Prop
  | [], [] => True
  | a :: as, b :: bs => R a b ∧ All2 R as bs
  | _, _ => False

section all2
variable {α β : Type} {R S : α → β → Prop}
theorem All2.mono (h : ∀ a b, R a b → S a b) : ∀ {as : List α} {bs : List β}, All2 R as bs → All2 S as bs
  | [], [], _ => trivial
  | _ :: _, _ :: _, ⟨h1, h2⟩ => ⟨h _ _ h1, All2.mono h h2⟩
theorem All2.length : ∀ {as : List α} {bs : List β}, All2 R as bs → as.length = bs.length
  | [], [], _ => rfl
  | _ :: _, _ :: _, ⟨_, h⟩ => by simp [All2.length h]
theorem All2.get : ∀ {as : List α} {bs : List β}, All2 R as bs → ∀ (i : Nat) (a : α), as[i]? = some a → ∃ b, bs[i]? = some b ∧ R a b
  | _ :: _, _ :: _, ⟨h1, _⟩, 0, a, h => ⟨_, rfl, by simp at h; exact h ▸ h1⟩
  | _ :: _, _ :: _, ⟨_, h2⟩, i + 1, a, h => by simpa using All2.get h2 i a (by simpa using h)
theorem All2.append : ∀ {as : List α} {bs : List β} {as' : List α} {bs' : List β}, All2 R as bs → All2 R as' bs' → All2 R (as ++ as') (bs ++ bs')
  | [], [], _, _, _, h => h
  | _ :: _, _ :: _, _, _, ⟨h1, h2⟩, h => ⟨h1, All2.append h2 h⟩
theorem All2.take : ∀ {as : List α} {bs : List β}, All2 R as bs → ∀ n, All2 R (as.take n) (bs.take n)
  | [], [], _, n => by simp [All2]
  | _ :: _, _ :: _, _, 0 => trivial
  | _ :: _, _ :: _, ⟨h1, h2⟩, n + 1 => ⟨h1, All2.take h2 n⟩
theorem All2.drop : ∀ {as : List α} {bs : List β}, All2 R as bs → ∀ n, All2 R (as.drop n) (bs.drop n)
  | [], [], _, n => by simp [All2]
  | _ :: _, _ :: _, h, 0 => h
  | _ :: _, _ :: _, ⟨_, h2⟩, n + 1 => All2.drop h2 n
theorem All2.set : ∀ {as : List α} {bs : List β}, All2 R as bs → ∀ (n : Nat) {a : α} {b : β}, R a b → All2 R (as.set n a) (bs.set n b)
  | [], [], _, n, _, _, _ => by simp [All2]
  | _ :: _, _ :: _, ⟨_, h2⟩, 0, _, _, h => ⟨h, h2⟩
  | _ :: _, _ :: _, ⟨h1, h2⟩, n + 1, _, _, h => ⟨h1, All2.set h2 n h⟩
end all2

def NpV (g : Nat → Nat → Option Nat) (k p off : Nat) (v : Value) : Prop :=
  (p = 0 → v = .pointer none) ∧ ∀ i, p = i + 1 → ∃ b, g k i = some b ∧ v = .pointer (some ⟨b, off, none⟩)
def MpV (g : Nat → Nat → Option Nat) (p : Nat) (v : Value) : Prop :=
  (p = 0 → v = .map none) ∧ ∀ i, p = i + 1 → ∃ b, g 2 i = some b ∧ v = .map (some b)

/-- What a symbolic value says of a value. -/
def DenS (m : Map) : SV → Value → Prop
  | .lit k n, v => v = .int k n
  | .int k n, v => v = .int k n
  | .blit b, v => v = .bool b
  | .bool b, v => v = .bool b
  | .ptr id off, v => ∃ l, m id = some l ∧ v = .pointer (some ⟨l.b, l.o + off, none⟩)
  | .pti id esz i j, v => ∃ l, m id = some l ∧ v = .pointer (some ⟨l.b, l.o + (i * esz + j), none⟩)
  | .nils, v => v = .slice none 0 0
  | .sl id esz off len, v => ∃ l ad c, m id = some l ∧ v = .slice (some ad) len c ∧ off + c = l.c ∧ len ≤ c ∧ (0 < c → ad = ⟨l.b, l.o + off * esz, none⟩)
  | .osl b id esz len, v => (b = true → v = .slice none 0 0 ∧ len = 0) ∧ (b = false → ∃ l ad c, m id = some l ∧ v = .slice (some ad) len c ∧ c = l.c ∧ len ≤ c ∧ (0 < c → ad = ⟨l.b, l.o, none⟩))
  | .cst u, v => v = u
  | .any, _ => True
  | .np _ k p off, v => NpV m.g k p off v
  | .mv _ p, v => MpV m.g p v
  | .here id, _ => ∃ l, m id = some l ∧ m.q = some l
  | .bm id, v => ∃ l, m id = some l ∧ v = .map (some l.b)
  | .agg _, _ => False
  | .tup _, _ => False

def DenA (m : Map) : SV → Value → Prop
  | .agg cs, v => ∃ vs : Array Value, v = .agg vs ∧ All2 (DenS m) cs vs.toList
  | s, v => DenS m s v

def Den (m : Map) : SV → Value → Prop
  | .tup ss, v => ∃ vs : Array Value, v = .tuple vs ∧ All2 (DenA m) ss vs.toList
  | s, v => DenA m s v

structure Map.le (m m' : Map) : Prop where
  f : ∀ id, m id ≠ none → m' id = m id
  g : ∀ k i b, m.g k i = some b → m'.g k i = some b
  q : m'.q = m.q

theorem Map.le.some {m m' : Map} (h : m.le m') {id : Nat} {l : Place} (e : m id = some l) : m' id = some l := by rw [h.f id (by rw [e]; simp), e]
theorem Map.le.refl (m : Map) : m.le m := ⟨fun _ _ => rfl, fun _ _ _ h => h, rfl⟩
theorem Map.le.trans {a b c : Map} (h : a.le b) (k : b.le c) : a.le c := ⟨fun id hn => by rw [k.f id (by rw [h.f id hn]; exact hn), h.f id hn], fun i j b e => k.g i j b (h.g i j b e), k.q.trans h.q⟩
theorem NpV.le {g g' : Nat → Nat → Option Nat} (h : ∀ k i b, g k i = some b → g' k i = some b) {k p off : Nat} {v : Value} (d : NpV g k p off v) : NpV g' k p off v :=
  ⟨d.1, fun i e => by obtain ⟨b, h1, h2⟩ := d.2 i e; exact ⟨b, h _ _ _ h1, h2⟩⟩
theorem MpV.le {g g' : Nat → Nat → Option Nat} (h : ∀ k i b, g k i = some b → g' k i = some b) {p : Nat} {v : Value} (d : MpV g p v) : MpV g' p v :=
  ⟨d.1, fun i e => by obtain ⟨b, h1, h2⟩ := d.2 i e; exact ⟨b, h _ _ _ h1, h2⟩⟩

theorem DenS.le {m m' : Map} (h : m.le m') {s : SV} {v : Value} (d : DenS m s v) : DenS m' s v := by
  cases s with
  | ptr id off => obtain ⟨l, e, hv⟩ := d; exact ⟨l, h.some e, hv⟩
  | pti id esz i j => obtain ⟨l, e, hv⟩ := d; exact ⟨l, h.some e, hv⟩
  | sl id esz off len => obtain ⟨l, ad, c, e, hv⟩ := d; exact ⟨l, ad, c, h.some e, hv⟩
  | osl b id esz len => exact ⟨d.1, fun hb => by obtain ⟨l, ad, c, e, hv⟩ := d.2 hb; exact ⟨l, ad, c, h.some e, hv⟩⟩
  | np s k p off => exact NpV.le h.g d
  | mv s p => exact MpV.le h.g d
  | here id => obtain ⟨l, e1, e2⟩ := d; exact ⟨l, h.some e1, by rw [h.q]; exact e2⟩
  | bm id => obtain ⟨l, e, hv⟩ := d; exact ⟨l, h.some e, hv⟩
  | _ => exact d
theorem DenA_eq {m : Map} {s : SV} (h : ∀ cs, s ≠ .agg cs) (v : Value) : DenA m s v = DenS m s v := by
  cases s with
  | agg cs => exact absurd rfl (h cs)
  | _ => rfl
theorem Den_eq {m : Map} {s : SV} (h : ∀ cs, s ≠ .tup cs) (v : Value) : Den m s v = DenA m s v := by
  cases s with
  | tup cs => exact absurd rfl (h cs)
  | _ => rfl
theorem DenA.le {m m' : Map} (h : m.le m') {s : SV} {v : Value} (d : DenA m s v) : DenA m' s v := by
  cases s with
  | agg cs => obtain ⟨vs, hv, k⟩ := d; exact ⟨vs, hv, k.mono fun _ _ => DenS.le h⟩
  | _ =>
    rw [DenA_eq (by intro _ h; cases h)] at d ⊢
    exact DenS.le h d
theorem Den.le {m m' : Map} (h : m.le m') {s : SV} {v : Value} (d : Den m s v) : Den m' s v := by
  cases s with
  | tup cs => obtain ⟨vs, hv, k⟩ := d; exact ⟨vs, hv, k.mono fun _ _ => DenA.le h⟩
  | _ =>
    rw [Den_eq (by intro _ h; cases h)] at d ⊢
    exact DenA.le h d
theorem DenS.a {m : Map} {s : SV} {v : Value} (d : DenS m s v) : DenA m s v := by
  cases s with
  | agg => exact d.elim
  | _ => exact d
theorem DenA.d {m : Map} {s : SV} {v : Value} (d : DenA m s v) : Den m s v := by
  cases s with
  | tup => exact d.elim
  | _ => exact d

def Blk.own : Blk → Bool
  | .cells _ => true
  | .arr ow ok _ _ => ow && ok
  | .dead => false
  | .store _ => false
  | .arrk _ _ => false
  | .mapb _ => true
def Blk.live : Blk → Bool
  | .cells _ => true
  | .arr _ ok _ _ => ok
  | .dead => false
  | .store _ => false
  | .arrk _ _ => true
  | .mapb _ => true
theorem Blk.live_of_own {b : Blk} (h : b.own = true) : b.live = true := by
  cases b with
  | arr ow ok esz xs => simp only [Blk.own, Bool.and_eq_true] at h; exact h.2
  | arrk ks xs => rfl
  | _ => exact h

def ndCells (s : Nat) (x : Nd) : List SV := [.int .i64 x.b0, .int .i64 x.b1, .int .i64 x.b2, .int .i64 x.b3, .np s 0 x.par 0, .np s 0 x.l 0, .np s 0 x.r 0, .int .i64 x.ht, .int .i64 x.id]
def trCells (s : Nat) (x : Nat × Nat) : List SV := [.np s 0 x.1 0, .mv s x.2]
/-- What a store says of the world. -/
structure StoreH (m : Map) (w : World) (H : Hp) : Prop where
  nd : ∀ i x, H.nd[i]? = some x → ∃ b vs ty, m.g 0 i = some b ∧ w.heap[b]? = some (.cells vs ty (0, 0)) ∧ All2 (DenS m) (ndCells 0 x) vs.toList
  tr : ∀ i x, H.tr[i]? = some x → ∃ b vs ty, m.g 1 i = some b ∧ w.heap[b]? = some (.cells vs ty (0, 0)) ∧ All2 (DenS m) (trCells 0 x) vs.toList
  mp : ∀ i es, H.mp[i]? = some es → ∃ b ents clock, m.g 2 i = some b ∧ w.heap[b]? = some (.map ents clock) ∧ All2 (fun (x : Int × Nat) (e : MapEntry) => e.key = .int .i64 x.1 ∧ NpV m.g 0 x.2 0 e.val) es ents.toList
  dom : ∀ k i b, m.g k i = some b → (k = 0 ∧ i < H.nd.length) ∨ (k = 1 ∧ i < H.tr.length) ∨ (k = 2 ∧ i < H.mp.length)

abbrev EntB (x : Int × Bool) (e : MapEntry) : Prop := e.key = .int .i64 x.1 ∧ e.val = .bool x.2
/-- What a block says of the world. -/
def BlkH (m : Map) (id : Nat) (w : World) : Blk → Prop
  | .store H => m id ≠ none ∧ StoreH m w H
  | .dead => True
  | .arrk ks xs => ∃ l vs ty fr, m id = some l ∧ w.heap[l.b]? = some (.cells vs ty fr) ∧
      ∀ i j k, i < xs.length → ks[j]? = some k → vs[l.o + (i * ks.length + j)]? = some (.int k (at2 xs i j))
  | .mapb es => ∃ l ents clock, m id = some l ∧ w.heap[l.b]? = some (.map ents clock) ∧ All2 EntB es ents.toList
  | .cells cs => ∃ l vs ty, m id = some l ∧ l.o = 0 ∧ w.heap[l.b]? = some (.cells vs ty (0, 0)) ∧ All2 (DenS m) cs vs.toList
  | .arr ow ok esz xs => ok = true → ∃ l vs ty fr, m id = some l ∧ w.heap[l.b]? = some (.cells vs ty fr) ∧
      (∀ i j, i < xs.length → j < esz → vs[l.o + (i * esz + j)]? = some (.int .i64 (at2 xs i j))) ∧ (ow = true → fr = (0, 0) ∧ l.o = 0 ∧ vs.size = l.c * esz ∧ xs.length ≤ l.c)

theorem BlkH.place {m : Map} {id : Nat} {w : World} {b : Blk} (h : BlkH m id w b) (hl : b.live = true) : ∃ l, m id = some l ∧ l.b < w.heap.size := by
  cases b with
  | dead => cases hl
  | store H => cases hl
  | cells cs => obtain ⟨l, vs, ty, e, _, hw, _⟩ := h; exact ⟨l, e, (Array.getElem?_eq_some_iff.1 hw).1⟩
  | arr ow ok esz xs => obtain ⟨l, vs, ty, fr, e, hw, _⟩ := h hl; exact ⟨l, e, (Array.getElem?_eq_some_iff.1 hw).1⟩
  | arrk ks xs => obtain ⟨l, vs, ty, fr, e, hw, _⟩ := h; exact ⟨l, e, (Array.getElem?_eq_some_iff.1 hw).1⟩
  | mapb es => obtain ⟨l, ents, ck, e, hw, _⟩ := h; exact ⟨l, e, (Array.getElem?_eq_some_iff.1 hw).1⟩

/-- A block that the new world holds as the old one did. -/
theorem BlkH.keep2 {m m' : Map} {id : Nat} {w w' : World} {b : Blk} (h : BlkH m id w b) (hm : m.le m') (hw : ∀ l, b.live = true → m id = some l → w'.heap[l.b]? = w.heap[l.b]?)
    (hs : ∀ H, b = .store H → (∀ k i, m'.g k i = m.g k i) ∧ (∀ k i b, m.g k i = some b → w'.heap[b]? = w.heap[b]?)) : BlkH m' id w' b := by
  cases b with
  | dead => trivial
  | store H =>
    obtain ⟨h0, h⟩ := h
    obtain ⟨hg, hgw⟩ := hs H rfl
    refine ⟨fun e => h0 (by rw [← hm.f id h0]; exact e), fun i x hx => ?_, fun i x hx => ?_, fun i x hx => ?_, fun k i b hb => h.dom k i b (by rw [← hg]; exact hb)⟩
    · obtain ⟨b, vs, ty, e, hh, hd⟩ := h.nd i x hx
      exact ⟨b, vs, ty, hm.g _ _ _ e, (hgw _ _ _ e).trans hh, hd.mono fun _ _ => DenS.le hm⟩
    · obtain ⟨b, vs, ty, e, hh, hd⟩ := h.tr i x hx
      exact ⟨b, vs, ty, hm.g _ _ _ e, (hgw _ _ _ e).trans hh, hd.mono fun _ _ => DenS.le hm⟩
    · obtain ⟨b, vs, ty, e, hh, hd⟩ := h.mp i x hx
      exact ⟨b, vs, ty, hm.g _ _ _ e, (hgw _ _ _ e).trans hh, hd.mono fun _ _ k => ⟨k.1, NpV.le hm.g k.2⟩⟩
  | cells cs =>
    obtain ⟨l, vs, ty, e, ho, hh, hd⟩ := h
    exact ⟨l, vs, ty, hm.some e, ho, (hw l rfl e).trans hh, hd.mono fun _ _ => DenS.le hm⟩
  | arr ow ok esz xs =>
    intro hok
    obtain ⟨l, vs, ty, fr, e, hh, hd⟩ := h hok
    exact ⟨l, vs, ty, fr, hm.some e, (hw l hok e).trans hh, hd⟩
  | arrk ks xs =>
    obtain ⟨l, vs, ty, fr, e, hh, hd⟩ := h
    exact ⟨l, vs, ty, fr, hm.some e, (hw l rfl e).trans hh, hd⟩
  | mapb es =>
    obtain ⟨l, ents, ck, e, hh, hd⟩ := h
    exact ⟨l, ents, ck, hm.some e, (hw l rfl e).trans hh, hd⟩

theorem BlkH.keep {m m' : Map} {id : Nat} {w w' : World} {b : Blk} (h : BlkH m id w b) (hm : m.le m') (hw : ∀ l, b.live = true → m id = some l → w'.heap[l.b]? = w.heap[l.b]?)
    (hg : ∀ k i, m'.g k i = m.g k i) (hgw : ∀ k i b, m.g k i = some b → w'.heap[b]? = w.heap[b]?) : BlkH m' id w' b := h.keep2 hm hw fun _ _ => ⟨hg, hgw⟩

def getL : List SV → Nat → SV
  | [], _ => .any
  | h :: t, n => match n with
    | 0 => h
    | n + 1 => getL t n
def setL : List SV → Nat → SV → List SV
  | [], _, _ => []
  | h :: t, n, v => match n with
    | 0 => v :: t
    | n + 1 => h :: setL t n v
def getB : List Blk → Nat → Blk
  | [], _ => .dead
  | h :: t, n => match n with
    | 0 => h
    | n + 1 => getB t n
def setB : List Blk → Nat → Blk → List Blk
  | [], n, b => match n with
    | 0 => [b]
    | n + 1 => .dead :: setB [] n b
  | h :: t, n, b => match n with
    | 0 => b :: t
    | n + 1 => h :: setB t n b

theorem getL_setL : ∀ (l : List SV) (n : Nat) (v : SV) (k : Nat), getL (setL l n v) k = if k = n ∧ n < l.length then v else getL l k
  | [], n, v, k => by simp [setL, getL]
  | h :: t, 0, v, 0 => by simp [setL, getL]
  | h :: t, 0, v, k + 1 => by simp [setL, getL]
  | h :: t, n + 1, v, 0 => by simp [setL, getL]
  | h :: t, n + 1, v, k + 1 => by
    simp only [setL, getL, getL_setL t n v k, List.length_cons]
    by_cases e : k = n ∧ n < t.length
    · rw [if_pos e, if_pos (by omega)]
    · rw [if_neg e, if_neg (by omega)]
theorem setL_length : ∀ (l : List SV) (n : Nat) (v : SV), (setL l n v).length = l.length
  | [], n, v => rfl
  | h :: t, 0, v => rfl
  | h :: t, n + 1, v => by simp [setL, setL_length t n v]
theorem getL_ge : ∀ (l : List SV) (n : Nat), l.length ≤ n → getL l n = .any
  | [], n, _ => rfl
  | h :: t, n + 1, hn => getL_ge t n (by simpa using hn)
theorem getB_setB : ∀ (l : List Blk) (n : Nat) (v : Blk) (k : Nat), getB (setB l n v) k = if k = n then v else getB l k
  | [], 0, v, 0 => by simp [setB, getB]
  | [], 0, v, k + 1 => by simp [setB, getB]
  | [], n + 1, v, 0 => by simp [setB, getB]
  | [], n + 1, v, k + 1 => by
    simp only [setB, getB, getB_setB [] n v k]
    by_cases e : k = n
    · rw [if_pos e, if_pos (by omega)]
    · rw [if_neg e, if_neg (by omega)]
  | h :: t, 0, v, 0 => by simp [setB, getB]
  | h :: t, 0, v, k + 1 => by simp [setB, getB]
  | h :: t, n + 1, v, 0 => by simp [setB, getB]
  | h :: t, n + 1, v, k + 1 => by
    simp only [setB, getB, getB_setB t n v k]
    by_cases e : k = n
    · rw [if_pos e, if_pos (by omega)]
    · rw [if_neg e, if_neg (by omega)]
theorem setB_length : ∀ (l : List Blk) (n : Nat) (v : Blk), (setB l n v).length = max l.length (n + 1)
  | [], 0, v => rfl
  | [], n + 1, v => by simp [setB, setB_length [] n v]
  | h :: t, 0, v => by simp [setB]
  | h :: t, n + 1, v => by simp [setB, setB_length t n v]
theorem getB_ge : ∀ (l : List Blk) (n : Nat), l.length ≤ n → getB l n = .dead
  | [], n, _ => rfl
  | h :: t, n + 1, hn => getB_ge t n (by simpa using hn)

/-- The blocks that a call may use up, and where the objects of the store lay as it began (they are among these). -/
structure Bad where
  p : Nat → Prop
  g0 : Nat → Nat → Option Nat
  hg : ∀ k i b, g0 k i = some b → p b
  q0 : Option Place
instance : CoeFun Bad (fun _ => Nat → Prop) := ⟨Bad.p⟩
instance : Coe Bad (Nat → Prop) := ⟨Bad.p⟩
def Bad.no : Bad := ⟨fun _ => False, fun _ _ => none, fun _ _ _ h => (by cases h), none⟩
/-- What is kept: the blocks below B that are not bad, and the streams. -/
structure Kept (B : Nat) (bad : Nat → Prop) (w w' : World) : Prop where
  os : w'.os = w.os
  tape : w'.tape = w.tape
  output : w'.output = w.output
  size : w.heap.size ≤ w'.heap.size
  block : ∀ k, k < B → ¬ bad k → w'.heap[k]? = w.heap[k]?
  drawn : w.drawn ≤ w'.drawn
theorem Kept.refl (B : Nat) (bad : Nat → Prop) (w : World) : Kept B bad w w := ⟨rfl, rfl, rfl, Nat.le_refl _, fun _ _ _ => rfl, Nat.le_refl _⟩
theorem Kept.trans {B : Nat} {bad : Nat → Prop} {a b c : World} (h : Kept B bad a b) (k : Kept B bad b c) : Kept B bad a c :=
  ⟨k.os.trans h.os, k.tape.trans h.tape, k.output.trans h.output, Nat.le_trans h.size k.size, fun i hi hb => (k.block i hi hb).trans (h.block i hi hb), Nat.le_trans h.drawn k.drawn⟩
theorem Kept.mono {B B' : Nat} {bad bad' : Nat → Prop} {w w' : World} (h : Kept B bad w w') (hB : B' ≤ B) (hb : ∀ k, k < B' → bad k → bad' k) : Kept B' bad' w w' :=
  ⟨h.os, h.tape, h.output, h.size, fun k hk hn => h.block k (Nat.lt_of_lt_of_le hk hB) (fun e => hn (hb k hk e)), h.drawn⟩
theorem Kept.of_below {B : Nat} {bad : Nat → Prop} {w w' : World} (h : Below B w w') (hd : w.drawn ≤ w'.drawn) : Kept B bad w w' := ⟨h.os, h.tape, h.output, h.size, fun k hk _ => h.block k hk, hd⟩
theorem Kept.below {B : Nat} {bad : Nat → Prop} {w w' : World} (h : Kept B bad w w') (hb : ∀ k, ¬ bad k) : Below B w w' := ⟨h.os, h.tape, h.output, h.size, fun k hk => h.block k hk (hb k)⟩

/-- What holds of the objects of a store: they lie apart from the other blocks, and there is one store at most. -/
structure GOk (B : Nat) (bad : Bad) (m : Map) (heap : List Blk) (w : World) : Prop where
  apart : ∀ j p k i b, (getB heap j).live = true → m j = some p → m.g k i = some b → p.b ≠ b
  own : ∀ k i b, m.g k i = some b → (B ≤ b ∨ bad.g0 k i = some b) ∧ b < w.heap.size
  one : ∀ s s' H H', getB heap s = .store H → getB heap s' = .store H' → s = s'
  ext : ∀ k i b, bad.g0 k i = some b → m.g k i = some b
  q : m.q = bad.q0
theorem GOk.bad {B : Nat} {bad : Bad} {m : Map} {heap : List Blk} {w : World} (h : GOk B bad m heap w) {k i b : Nat} (e : m.g k i = some b) : B ≤ b ∨ bad b :=
  (h.own k i b e).1.imp id (bad.hg k i b)
structure Holds (B : Nat) (bad : Bad) (w0 : World) (m : Map) (st : St) (a : Act) (w : World) : Prop where
  defers : a.defers = []
  size : st.tmps.length ≤ a.tmps.size
  tmp : ∀ t, Den m (getL st.tmps t) (a.tmps.getD t undef)
  blk : ∀ id, BlkH m id w (getB st.heap id)
  apart : ∀ i j p q, i ≠ j → (getB st.heap i).own = true → (getB st.heap j).live = true → m i = some p → m j = some q → p.b ≠ q.b
  own : ∀ i p, (getB st.heap i).own = true → m i = some p → B ≤ p.b ∨ bad p.b
  below : Kept B bad w0 w
  base : B ≤ w0.heap.size
  gok : GOk B bad m st.heap w

/-- The state matters by what its slots and blocks read alone. -/
theorem Holds.ext {B : Nat} {bad : Bad} {w0 : World} {m : Map} {st st' : St} {a : Act} {w : World} (h : Holds B bad w0 m st a w) (hl : st'.tmps.length ≤ st.tmps.length)
    (ht : ∀ t, getL st'.tmps t = getL st.tmps t) (hb : ∀ id, getB st'.heap id = getB st.heap id) : Holds B bad w0 m st' a w :=
  ⟨h.defers, Nat.le_trans hl h.size, fun t => by rw [ht]; exact h.tmp t, fun id => by rw [hb]; exact h.blk id,
    fun i j p q hij h1 h2 => by rw [hb] at h1 h2; exact h.apart i j p q hij h1 h2, fun i p h1 => by rw [hb] at h1; exact h.own i p h1, h.below, h.base,
    ⟨fun j p k i b h1 => by rw [hb] at h1; exact h.gok.apart j p k i b h1, h.gok.own, fun s s' H H' h1 h2 => by rw [hb] at h1 h2; exact h.gok.one s s' H H' h1 h2, h.gok.ext, h.gok.q⟩⟩

/-- A draw turns nothing of it. -/
theorem Holds.drew {B : Nat} {bad : Bad} {w0 : World} {m : Map} {st : St} {a : Act} {w : World} (h : Holds B bad w0 m st a w) : Holds B bad w0 m st a { w with drawn := w.drawn + 1 } :=
  ⟨h.defers, h.size, h.tmp, fun id => (h.blk id).keep (Map.le.refl m) (fun _ _ _ => rfl) (fun _ _ => rfl) (fun _ _ _ _ => rfl), h.apart, h.own, ⟨h.below.os, h.below.tape, h.below.output, h.below.size, h.below.block, Nat.le_succ_of_le h.below.drawn⟩, h.base, ⟨h.gok.apart, h.gok.own, h.gok.one, h.gok.ext, h.gok.q⟩⟩

/-- A slot is written. -/
def St.put (st : St) (dst : Option Tmp) (v : SV) : St :=
  match dst with
  | some d => { st with tmps := setL st.tmps d v }
  | none => st

theorem Holds.put {B : Nat} {bad : Bad} {w0 : World} {m : Map} {st : St} {a : Act} {w : World} (h : Holds B bad w0 m st a w) (dst : Option Tmp) {s : SV} {v : Value} (hv : Den m s v) :
    Holds B bad w0 m (st.put dst s) (a.put dst v) w := by
  cases dst with
  | none => exact h
  | some d =>
    refine ⟨h.defers, ?_, fun t => ?_, h.blk, h.apart, h.own, h.below, h.base, h.gok⟩
    · simp only [St.put, Act.put, setL_length, Array.size_setIfInBounds]; exact h.size
    · simp only [St.put, Act.put, getL_setL]
      by_cases e : t = d ∧ d < st.tmps.length
      · obtain ⟨rfl, hd⟩ := e
        have hs : t < a.tmps.size := Nat.lt_of_lt_of_le hd h.size
        rw [if_pos ⟨rfl, hd⟩]
        simpa [Array.getD_eq_getD_getElem?, hs] using hv
      · rw [if_neg e]
        by_cases e2 : t = d
        · subst e2
          rw [getL_ge _ _ (Nat.le_of_not_lt fun hlt => e ⟨rfl, hlt⟩)]
          trivial
        · have : (a.tmps.setIfInBounds d v).getD t undef = a.tmps.getD t undef := by
            simp [Array.getD_eq_getD_getElem?, Array.getElem?_setIfInBounds, Ne.symm e2]
          rw [this]
          exact h.tmp t
end Go.Proofs.Ytkfaflhhkmkdjaa.Ev

namespace Go.Proofs.Ytkfaflhhkmkdjaa.Ev
open Go.RowKit
set_option linter.unusedVariables false
set_option linter.unusedSimpArgs false

inductive TK where
  | int (k : IntKind)
  | bool
  | slice (e : TypeId)
  | struct (fs : List (Nat × TypeId))
  | array (n : Nat) (e : TypeId)
  | ptr (e : TypeId)
  | map (k e : TypeId)
  | other

/-- What is known of a type: its kind, its cells, its bytes, its zero, and how many numbers it is made of if '==' compares just those. -/
structure TI where
  k : TK
  size : Nat
  bytes : Nat
  zero : List SV
  flat : Bool
  /-- sums of this type may wrap round (a table of one's own choice) -/
  wr : Bool := false
  /-- an object of the store: 0 no, 1 a node, 2 a tree -/
  st : Nat := 0
  /-- blocks that a call looks into whose first argument has this type (a table of one's own choice) -/
  rd : List Nat := []

abbrev Tab := List (Nat × TI)
def Tab.get : Tab → Nat → Option TI
  | [], _ => none
  | (n, i) :: r, t => match Nat.beq n t with
    | true => some i
    | false => Tab.get r t

/-- What is to be shown, and what follows then. -/
structure VC (p : Prop) : Prop where
  out : p

structure Res where
  pre : List Prop
  val : SV
  wr : List (Nat × Blk)

/-- What a contract tells: what it asks, its value (new blocks are numbered from nid on), its new blocks, and which of the arguments' blocks it uses up. -/
structure CRes where
  pre : List Prop
  val : SV
  nb : List Blk
  used : List Nat
  /-- blocks of the caller's that hold something else behind the call -/
  upd : List (Nat × Blk)
  /-- what is written stands as it stood -/
  ro : Bool

structure Con where
  f : FuncId
  run : Nat → List SV → (Nat → Blk) → Option CRes

def nats : List Nat := [0, 1, 2, 3, 4, 5, 6, 7, 8, 9, 10, 11, 12, 13, 14, 15, 16, 17, 18, 19, 20, 21, 22, 23, 24, 25, 26, 27, 28, 29, 30, 31, 32, 33, 34, 35, 36, 37, 38, 39, 40, 41, 42, 43, 44, 45, 46, 47, 48, 49, 50, 51, 52, 53, 54, 55, 56, 57, 58, 59, 60, 61, 62, 63, 64, 65, 66, 67, 68, 69, 70, 71, 72, 73, 74, 75, 76, 77, 78, 79, 80, 81, 82, 83, 84, 85, 86, 87, 88, 89, 90, 91, 92, 93, 94, 95, 96, 97, 98, 99, 100, 101, 102, 103, 104, 105, 106, 107, 108, 109, 110, 111, 112, 113, 114, 115, 116, 117, 118, 119, 120, 121, 122, 123, 124, 125, 126, 127]

/-- A small number, as a numeral. -/
def normN (n : Nat) : List Nat → Option Nat
  | [] => none
  | m :: ms => match Nat.beq m n with
    | true => some m
    | false => normN n ms
theorem normN_eq {n : Nat} : ∀ {l : List Nat} {k : Nat}, normN n l = some k → k = n
  | m :: ms, k, h => by
    simp only [normN] at h
    split at h
    · rename_i e; cases h; exact Nat.eq_of_beq_eq_true e
    · exact normN_eq h

def cellsOf : SV → Option (List SV)
  | .agg cs => some cs
  | .tup _ => none
  | .any => none
  | .here _ => none
  | .lit k n => some [.lit k n]
  | .int k n => some [.int k n]
  | .blit b => some [.blit b]
  | .bool b => some [.bool b]
  | .ptr i o => some [.ptr i o]
  | .pti a b c d => some [.pti a b c d]
  | .nils => some [.nils]
  | .sl a b c d => some [.sl a b c d]
  | .osl a b c d => some [.osl a b c d]
  | .np a b c d => some [.np a b c d]
  | .mv a b => some [.mv a b]
  | .bm a => some [.bm a]
  | .cst v => match v.oneCell' with
    | true => some [.cst v]
    | false => none

def toI : SV → Option Int
  | .lit .i64 n => some n
  | .int .i64 n => some n
  | _ => none
def toIs : List SV → Option (List Int)
  | [] => some []
  | s :: r => match toI s with
    | some n => match toIs r with
      | some ns => some (n :: ns)
      | none => none
    | none => none
def toRows : List (List SV) → Option (List (List Int))
  | [] => some []
  | s :: r => match toIs s with
    | some n => match toRows r with
      | some ns => some (n :: ns)
      | none => none
    | none => none
def toB : SV → Option Bool
  | .blit b => some b
  | .bool b => some b
  | _ => none
/-- A number, its kind, and whether it is known. -/
def toN : SV → Option (IntKind × Int × Bool)
  | .lit k n => some (k, n, true)
  | .int k n => some (k, n, false)
  | _ => none

/-- May it be stored in one cell? -/
def plain : SV → Bool
  | .lit _ _ | .int _ _ | .blit _ | .bool _ | .ptr _ _ | .pti _ _ _ _ | .nils | .sl _ _ _ _ | .osl _ _ _ _ | .np _ _ _ _ | .mv _ _ => true
  | .cst v => v.oneCell'
  | _ => false
def plains : List SV → Bool
  | [] => true
  | s :: r => match plain s with
    | true => plains r
    | false => false

def idOf : SV → List Nat
  | .ptr id _ => [id]
  | .pti id _ _ _ => [id]
  | .sl id _ _ _ => [id]
  | .osl _ id _ _ => [id]
  | .np id _ _ _ => [id]
  | .mv id _ => [id]
  | .bm id => [id]
  | _ => []
def idsOf : List SV → List Nat
  | [] => []
  | s :: r => idOf s ++ idsOf r

def npOf : SV → List Nat
  | .np id _ _ _ => [id]
  | _ => []
def stOf (T : Tab) (t : TypeId) : Nat :=
  match T.get t with
  | some ti => ti.st
  | none => 0
def stIds (T : Tab) (t : TypeId) : List Nat :=
  match stOf T t with
  | 0 => []
  | _ => [0]
def deepIds (T : Tab) : List TypeId → List Nat
  | [] => []
  | t :: _ => match T.get t with
    | some ti => ti.rd
    | none => []
/-- Which blocks an operation looks into. -/
def rids (T : Tab) : Op → List SV → List Nat
  | .load _ _, p :: _ => idOf p
  | .store _ _ _, p :: _ => idOf p
  | .alloc t, _ => stIds T t
  | .box t _, _ => stIds T t
  | .makeMap _ _, _ => [0]
  | .lookup _ _ _ _, p :: _ => idOf p
  | .mapUpdate _ _ _ _, p :: _ => idOf p
  | .binOp _ _ _ _ _, p :: _ => npOf p
  | .call c, vs => match vs with
    | [_] => [0]
    | _ => idsOf vs ++ deepIds T c.argTypes.toList
  | _, _ => []

def opnds : Op → List Operand
  | .move x | .assign x | .box _ x | .load _ x | .nilCheck x | .unOp _ _ x | .convert _ _ x | .fieldAddr _ x _ | .field _ x _ | .extract x _ => [x]
  | .pick c a b => [c, a, b]
  | .build _ ps | .buildSlice _ _ ps => ps.toList.map (·.2)
  | .store _ a v | .binOp _ _ a v _ | .makeSlice _ a v | .indexAddr _ a v | .index _ a v => [a, v]
  | .lookup _ a b _ => [a, b]
  | .mapUpdate _ a b c => [a, b, c]
  | .slice _ x none none none => [x]
  | .slice _ x (some l) none none => [x, l]
  | .slice _ x none (some h) none => [x, h]
  | .slice _ x (some l) (some h) none => [x, l, h]
  | .call { callee := .value f, args, .. } => f :: args.toList
  | .call { callee := .builtin _, args, .. } => args.toList
  | _ => []

/-- What must be shown so that a sum, a difference or a product does not wrap round. -/
def InR : IntKind → Int → Prop
  | .i64, e => -9223372036854775808 ≤ e ∧ e ≤ 9223372036854775807
  | k, e => k.wrap e = e

def overlay : List SV → Nat → List SV → Option (List SV)
  | cs, 0, [] => some cs
  | [], _, _ => none
  | c :: cs, 0, v :: vs => match overlay cs 0 vs with
    | some r => some (v :: r)
    | none => none
  | c :: cs, n + 1, vs => match overlay cs n vs with
    | some r => some (c :: r)
    | none => none

def takeN : List SV → Nat → Nat → Option (List SV)
  | _, 0, 0 => some []
  | [], _, _ => none
  | c :: cs, 0, n + 1 => match takeN cs 0 n with
    | some r => some (c :: r)
    | none => none
  | c :: cs, k + 1, n => takeN cs k n

def lenIs : List SV → Nat → Bool
  | [], 0 => true
  | _ :: r, n + 1 => lenIs r n
  | _, _ => false

/-- Numbers j .. j + n - 1 of element i. -/
def pick2 (xs : List (List Int)) (i : Nat) : Nat → Nat → List SV
  | _, 0 => []
  | j, n + 1 => .int .i64 (at2 xs i j) :: pick2 xs i (j + 1) n

def lenK : List IntKind → Nat → Bool
  | [], 0 => true
  | _ :: r, n + 1 => lenK r n
  | _, _ => false
/-- The numbers of element i, from number j on, of these kinds. -/
def pickK (xs : List (List Int)) (i : Nat) : List IntKind → Nat → List SV
  | [], _ => []
  | k :: ks, j => .int k (at2 xs i j) :: pickK xs i ks (j + 1)
def isAggK : TK → Bool
  | .struct _ => true
  | .array _ _ => true
  | _ => false

/-- A known number, reckoned. -/
def litO : Int → Option Int
  | .ofNat k => match normN k nats with
    | some k' => some (Int.ofNat k')
    | none => some (Int.ofNat k)
  | .negSucc k => some (Int.negSucc k)
theorem litO_eq {n k : Int} (h : litO n = some k) : k = n := by
  cases n with
  | ofNat n =>
    simp only [litO] at h
    split at h
    · rename_i k' hk; cases h; rw [normN_eq hk]
    · cases h; rfl
  | negSucc n => simp only [litO] at h; cases h; rfl

def binI (op : BinOp) (k : IntKind) (a b : Int) (known : Bool) : Option (List Prop × SV) :=
  match op with
  | .add => match known with | true => (match litO (k.wrap (a + b)) with | some n => some ([], .lit k n) | none => none) | false => some ([InR k (a + b)], .int k (a + b))
  | .sub => match known with | true => (match litO (k.wrap (a - b)) with | some n => some ([], .lit k n) | none => none) | false => some ([InR k (a - b)], .int k (a - b))
  | .mul => match known with | true => (match litO (k.wrap (a * b)) with | some n => some ([], .lit k n) | none => none) | false => some ([InR k (a * b)], .int k (a * b))
  | .quo => some ([b ≠ 0, InR k (a.tdiv b)], .int k (a.tdiv b))
  | .rem => some ([b ≠ 0], .int k (a.tmod b))
  | .eql => match known with | true => some ([], .blit (decide (a = b))) | false => some ([], .bool (decide (a = b)))
  | .neq => match known with | true => some ([], .blit (!decide (a = b))) | false => some ([], .bool (!decide (a = b)))
  | .lss => match known with | true => some ([], .blit (decide (a < b))) | false => some ([], .bool (decide (a < b)))
  | .leq => match known with | true => some ([], .blit (decide (a ≤ b))) | false => some ([], .bool (decide (a ≤ b)))
  | .gtr => match known with | true => some ([], .blit (decide (b < a))) | false => some ([], .bool (decide (b < a)))
  | .geq => match known with | true => some ([], .blit (decide (b ≤ a))) | false => some ([], .bool (decide (b ≤ a)))
  | _ => none

def eqInts : List Int → List Int → Option Bool
  | [], [] => some true
  | a :: as, b :: bs => match as with
    | [] => match bs with
      | [] => some (decide (a = b))
      | _ => none
    | _ => match eqInts as bs with
      | some r => some (decide (a = b) && r)
      | none => none
  | _, _ => none

def isEq : BinOp → Option Bool
  | .eql => some true
  | .neq => some false
  | _ => none

/-- '==' (e) or '!=' (not e) on slices, on aggregates, on truths. -/
def eqSl (e : Bool) : SV → SV → Option (List Prop × SV)
  | .nils, .nils => some ([], .blit e)
  | .sl _ _ _ _, .nils => some ([], .blit (!e))
  | .nils, .sl _ _ _ _ => some ([], .blit (!e))
  | .osl b _ _ _, .nils => match e with
    | true => some ([], .bool b)
    | false => some ([], .bool (!b))
  | .nils, .osl b _ _ _ => match e with
    | true => some ([], .bool b)
    | false => some ([], .bool (!b))
  | _, _ => none
def eqAgg (ti : TI) (e : Bool) : SV → SV → Option (List Prop × SV)
  | .agg cs, .agg ds => match ti.flat && lenIs cs ti.size && lenIs ds ti.size with
    | true => match toIs cs with
      | some as => match toIs ds with
        | some bs => match eqInts as bs with
          | some r => match e with
            | true => some ([], .bool r)
            | false => some ([], .bool (!r))
          | none => none
        | none => none
      | none => none
    | false => none
  | _, _ => none
def eqBool (e : Bool) (x y : SV) : Option (List Prop × SV) :=
  match toB x with
  | some a => match toB y with
    | some b => match e with
      | true => some ([], .bool (a == b))
      | false => some ([], .bool (!(a == b)))
    | none => none
  | none => none
def eqAns (e : Bool) (d : Bool) : Option (List Prop × SV) :=
  match e with
  | true => some ([], .bool d)
  | false => some ([], .bool (!d))
def isNilP : Value → Bool
  | .pointer a => match a with
    | none => true
    | some _ => false
  | .map a => match a with
    | none => true
    | some _ => false
  | _ => false
/-- '==' and '!=' on addresses of the store's objects, and on its maps against nil. -/
def eqPtr (rd : Nat → Blk) (e : Bool) (s k p : Nat) : SV → Option (List Prop × SV)
  | .np _ k' q o' => match o' with
    | 0 => match Nat.beq k k' with
      | true => match rd s with
        | .store H => match H with
          | ⟨nd, tr, mp⟩ => match k with
            | 0 => match eqAns e (decide (p = q)) with
              | some (_, v) => some ([p ≤ nd.length, q ≤ nd.length], v)
              | none => none
            | 1 => match eqAns e (decide (p = q)) with
              | some (_, v) => some ([p ≤ tr.length, q ≤ tr.length], v)
              | none => none
            | _ => none
        | _ => none
      | false => none
    | _ => none
  | .cst v => match v with
    | .pointer a => match a with
      | none => eqAns e (decide (p = 0))
      | some _ => none
    | _ => none
  | _ => none
def eqMap (e : Bool) (p : Nat) : SV → Option (List Prop × SV)
  | .cst v => match v with
    | .map a => match a with
      | none => eqAns e (decide (p = 0))
      | some _ => none
    | _ => none
  | _ => none
def wrOf (T : Tab) (t : TypeId) (op : BinOp) (known : Bool) : Bool :=
  match op with
  | .add => match known with
    | true => false
    | false => match T.get t with
      | some ti => ti.wr
      | none => false
  | _ => false
def wrAll : Tab → Tab
  | [] => []
  | (n, i) :: r => (n, ⟨i.k, i.size, i.bytes, i.zero, i.flat, true, i.st, i.rd⟩) :: wrAll r
def binS (T : Tab) (op : BinOp) (t : TypeId) (x y : SV) : Option (List Prop × SV) :=
  match toN x with
  | some (k, a, u) => match toN y with
    | some (k', b, v) => match decide (k = k') with
      | true => match wrOf T t op (u && v) with
        | true => some ([], .int k (k.wrap (a + b)))
        | false => binI op k a b (u && v)
      | false => none
    | none => none
  | none => match isEq op with
    | none => none
    | some e => match T.get t with
      | none => none
      | some ti => match ti.k with
        | .slice _ => eqSl e x y
        | .bool => eqBool e x y
        | _ => eqAgg ti e x y

/-- Parts laid into a struct's or an array's cells. -/
def layS (T : Tab) (fs : List (Nat × TypeId)) : List (Nat × SV) → List SV → Option (List SV)
  | [], cs => some cs
  | (i, v) :: r, cs => match fs[i]? with
    | some (off, t) => match T.get t with
      | some ti => match cellsOf v with
        | some vs => match lenIs vs ti.size with
          | true => match overlay cs off vs with
            | some cs' => layS T fs r cs'
            | none => none
          | false => none
        | none => none
      | none => none
    | none => none
def layA (size : Nat) : List (Nat × SV) → List SV → Option (List SV)
  | [], cs => some cs
  | (i, v) :: r, cs => match cellsOf v with
    | some vs => match lenIs vs size with
      | true => match overlay cs (i * size) vs with
        | some cs' => layA size r cs'
        | none => none
      | false => none
    | none => none
def repl : Nat → List SV → List SV
  | 0, _ => []
  | n + 1, z => z ++ repl n z
/-- Cells cut into rows. -/
def cut (size : Nat) : Nat → List SV → Option (List (List SV))
  | 0, [] => some []
  | n + 1, cs => match takeN cs 0 size with
    | some r => match cut size n (cs.drop size) with
      | some rs => some (r :: rs)
      | none => none
    | none => none
  | _, _ => none

def zips : List (Nat × Operand) → List SV → Option (List (Nat × SV))
  | [], [] => some []
  | (i, _) :: r, v :: vs => match zips r vs with
    | some l => some ((i, v) :: l)
    | none => none
  | _, _ => none

/-- A known index, as a number. -/
def litN : Int → Option Nat
  | .ofNat n => some n
  | .negSucc _ => none

def numberN (nid : Nat) : List Blk → List (Nat × Blk)
  | [] => []
  | b :: r => (nid, b) :: numberN (nid + 1) r

def kill (rd : Nat → Blk) : List Nat → Option (List (Nat × Blk))
  | [] => some []
  | i :: r => match kill rd r with
    | some l => some ((i, .dead) :: l)
    | none => none

def findC (C : List Con) (f : FuncId) : Option Con :=
  match C with
  | [] => none
  | c :: r => match Nat.beq c.f f with
    | true => some c
    | false => findC r f

def setInts (l : List Int) : Nat → List Int → List Int
  | _, [] => l
  | j, v :: vs => setInts (l.set j v) (j + 1) vs
def upd2 (xs : List (List Int)) (i j : Nat) (vs : List Int) : List (List Int) := xs.set i (setInts (xs.getD i []) j vs)

/-- A slice's length. -/
def lenS : SV → Option SV
  | .nils => some (.lit .i64 0)
  | .sl _ _ _ n => some (.int .i64 (n : Int))
  | .osl _ _ _ n => some (.int .i64 (n : Int))
  | .cst v => match v with
    | .slice _ n _ => some (.int .i64 (n : Int))
    | _ => none
  | _ => none

/-- The elements of a slice, as a list of rows. -/
def view (rd : Nat → Blk) : SV → Option (List (List Int))
  | .nils => some []
  | .sl id esz off len => match rd id with
    | .arr _ _ _ xs => some ((xs.drop off).take len)
    | _ => none
  | .osl _ id _ len => match rd id with
    | .arr _ _ _ xs => some (xs.take len)
    | _ => none
  | _ => none

def getN (nd : List Nd) (p : Nat) : Nd := nd.getD (p - 1) default
def setN (nd : List Nd) (p : Nat) (x : Nd) : List Nd := nd.set (p - 1) x
def getT (tr : List (Nat × Nat)) (p : Nat) : Nat × Nat := tr.getD (p - 1) (0, 0)
def setT (tr : List (Nat × Nat)) (p : Nat) (x : Nat × Nat) : List (Nat × Nat) := tr.set (p - 1) x
def getM (mp : List (List (Int × Nat))) (p : Nat) : List (Int × Nat) :=
  match p with
  | 0 => []
  | i + 1 => mp.getD i []
def setM (mp : List (List (Int × Nat))) (p : Nat) (x : List (Int × Nat)) : List (List (Int × Nat)) := mp.set (p - 1) x
/-- The map's operations, on its entries. -/
def hasE : List (Int × Nat) → Int → Bool
  | [], _ => false
  | (k, _) :: r, n => bif decide (n = k) then true else hasE r n
def lookE : List (Int × Nat) → Int → Nat
  | [], _ => 0
  | (k, p) :: r, n => bif decide (n = k) then p else lookE r n
def putE : List (Int × Nat) → Int → Nat → List (Int × Nat)
  | [], n, q => [(n, q)]
  | (k, p) :: r, n, q => bif decide (n = k) then (n, q) :: r else (k, p) :: putE r n q
def delE : List (Int × Nat) → Int → List (Int × Nat)
  | [], _ => []
  | (k, p) :: r, n => bif decide (n = k) then r else (k, p) :: delE r n

/-- A pointer to an object of kind k, from its start. -/
def toPt (k : Nat) : SV → Option Nat
  | .np _ k' p o => match o with
    | 0 => match Nat.beq k k' with
      | true => some p
      | false => none
    | _ => none
  | .cst v => match v with
    | .pointer a => match a with
      | none => some 0
      | some _ => none
    | _ => none
  | _ => none
def toMv : SV → Option Nat
  | .mv _ p => some p
  | .cst v => match v with
    | .map a => match a with
      | none => some 0
      | some _ => none
    | _ => none
  | _ => none
def ndOf (l : List SV) : Option Nd :=
  match l with
  | [c0, c1, c2, c3, c4, c5, c6, c7, c8] => match toI c0 with
    | some b0 => match toI c1 with
      | some b1 => match toI c2 with
        | some b2 => match toI c3 with
          | some b3 => match toPt 0 c4 with
            | some q0 => match toPt 0 c5 with
              | some q1 => match toPt 0 c6 with
                | some q2 => match toI c7 with
                  | some h => match toI c8 with
                    | some n => some ⟨b0, b1, b2, b3, q0, q1, q2, h, n⟩
                    | none => none
                  | none => none
                | none => none
              | none => none
            | none => none
          | none => none
        | none => none
      | none => none
    | none => none
  | _ => none
def trOf (l : List SV) : Option (Nat × Nat) :=
  match l with
  | [c0, c1] => match toPt 0 c0 with
    | some a => match toMv c1 with
      | some b => some (a, b)
      | none => none
    | none => none
  | _ => none
/-- The cells of an object of the store, and what must hold so that it is there. -/
def objS (s : Nat) (nd : List Nd) (tr : List (Nat × Nat)) (k p : Nat) : Option (List SV × List Prop) :=
  match k with
  | 0 => some (ndCells s (getN nd p), [0 < p, p ≤ nd.length])
  | 1 => some (trCells s (getT tr p), [0 < p, p ≤ tr.length])
  | _ => none
/-- One field of a node, of a tree, written. -/
def wB (nd : List Nd) (p : Nat) (b0 b1 b2 b3 : Int) : List Nd := setN nd p { getN nd p with b0 := b0, b1 := b1, b2 := b2, b3 := b3 }
def wPar (nd : List Nd) (p q : Nat) : List Nd := setN nd p { getN nd p with par := q }
def wL (nd : List Nd) (p q : Nat) : List Nd := setN nd p { getN nd p with l := q }
def wR (nd : List Nd) (p q : Nat) : List Nd := setN nd p { getN nd p with r := q }
def wHt (nd : List Nd) (p : Nat) (h : Int) : List Nd := setN nd p { getN nd p with ht := h }
def wId (nd : List Nd) (p : Nat) (h : Int) : List Nd := setN nd p { getN nd p with id := h }
def wRoot (tr : List (Nat × Nat)) (p q : Nat) : List (Nat × Nat) := setT tr p (q, (getT tr p).2)
def wMap (tr : List (Nat × Nat)) (p q : Nat) : List (Nat × Nat) := setT tr p ((getT tr p).1, q)
def putW (nd : List Nd) (tr : List (Nat × Nat)) (mp : List (List (Int × Nat))) (k p off : Nat) (vs : List SV) : Option Hp :=
  match k with
  | 0 => match vs with
    | [c0, c1, c2, c3] => match off with
      | 0 => match toI c0 with
        | some b0 => match toI c1 with
          | some b1 => match toI c2 with
            | some b2 => match toI c3 with
              | some b3 => some ⟨wB nd p b0 b1 b2 b3, tr, mp⟩
              | none => none
            | none => none
          | none => none
        | none => none
      | _ => none
    | [c] => match off with
      | 4 => match toPt 0 c with
        | some q => some ⟨wPar nd p q, tr, mp⟩
        | none => none
      | 5 => match toPt 0 c with
        | some q => some ⟨wL nd p q, tr, mp⟩
        | none => none
      | 6 => match toPt 0 c with
        | some q => some ⟨wR nd p q, tr, mp⟩
        | none => none
      | 7 => match toI c with
        | some h => some ⟨wHt nd p h, tr, mp⟩
        | none => none
      | 8 => match toI c with
        | some h => some ⟨wId nd p h, tr, mp⟩
        | none => none
      | _ => none
    | _ => none
  | 1 => match vs with
    | [c] => match off with
      | 0 => match toPt 0 c with
        | some q => some ⟨nd, wRoot tr p q, mp⟩
        | none => none
      | 1 => match toMv c with
        | some q => some ⟨nd, wMap tr p q, mp⟩
        | none => none
      | _ => none
    | _ => none
  | _ => none
def putS (H : Hp) (k p : Nat) (cs : List SV) : Option Hp :=
  match k with
  | 0 => match ndOf cs with
    | some x => some ⟨setN H.nd p x, H.tr, H.mp⟩
    | none => none
  | 1 => match trOf cs with
    | some x => some ⟨H.nd, setT H.tr p x, H.mp⟩
    | none => none
  | _ => none
/-- A new object of the store. -/
def newS (rd : Nat → Blk) (st : Nat) (cs : List SV) : Option Res :=
  match rd 0 with
  | .store H => match H with
    | ⟨nd, tr, mp⟩ => match st with
      | 1 => match ndOf cs with
        | some x => some ⟨[], .np 0 0 (nd.length + 1) 0, [(0, .store ⟨nd ++ [x], tr, mp⟩)]⟩
        | none => none
      | 2 => match trOf cs with
        | some x => some ⟨[], .np 0 1 (tr.length + 1) 0, [(0, .store ⟨nd, tr ++ [x], mp⟩)]⟩
        | none => none
      | _ => none
  | _ => none

def effPick (c a b : SV) : Option Res :=
  match c with
  | .blit true => some ⟨[], a, []⟩
  | .blit false => some ⟨[], b, []⟩
  | .bool p => match toB a with
    | some x => match toB b with
      | some y => some ⟨[], .bool (bif p then x else y), []⟩
      | none => some ⟨[p = true], a, []⟩
    | none => some ⟨[p = false], b, []⟩
  | _ => none

def effAlloc (T : Tab) (rd : Nat → Blk) (nid : Nat) (t : TypeId) : Option Res :=
  match T.get t with
  | some ti => match ti.st with
    | 0 => some ⟨[], .ptr nid 0, [(nid, .cells ti.zero)]⟩
    | k + 1 => newS rd (k + 1) ti.zero
  | none => none

def effBox (T : Tab) (rd : Nat → Blk) (nid : Nat) (t : TypeId) (x : SV) : Option Res :=
  match cellsOf x with
  | some cs => match stOf T t with
    | 0 => some ⟨[], .ptr nid 0, [(nid, .cells cs)]⟩
    | k + 1 => newS rd (k + 1) cs
  | none => none

def effMakeMap (T : Tab) (rd : Nat → Blk) (t : TypeId) : Option Res :=
  match rd 0 with
  | .store H => match H with
    | ⟨nd, tr, mp⟩ => some ⟨[], .mv 0 (mp.length + 1), [(0, .store ⟨nd, tr, mp ++ [[]]⟩)]⟩
  | _ => none
def isNilZero (l : List SV) : Bool :=
  match l with
  | [x] => match x with
    | .cst v => match v with
      | .pointer a => match a with
        | none => true
        | some _ => false
      | _ => false
    | _ => false
  | _ => false
def effLookup (T : Tab) (rd : Nat → Blk) (t : TypeId) (m k : SV) (ok : Bool) : Option Res :=
  match T.get t with
  | some { k := .map _ e, .. } => match T.get e with
    | some ei => match isNilZero ei.zero && !isAggK ei.k with
      | true => match m with
        | .mv s p => match rd s with
          | .store H => match H with
            | ⟨nd, tr, mp⟩ => match toI k with
              | some n => match ok with
                | true => some ⟨[p ≤ mp.length], .tup [.np s 0 (lookE (getM mp p) n) 0, .bool (hasE (getM mp p) n)], []⟩
                | false => some ⟨[p ≤ mp.length], .np s 0 (lookE (getM mp p) n) 0, []⟩
              | none => none
          | _ => none
        | _ => none
      | false => none
    | none => none
  | _ => none
def effMapUpdate (T : Tab) (rd : Nat → Blk) (t : TypeId) (m k v : SV) : Option Res :=
  match T.get t with
  | some { k := .map _ _, .. } => match m with
    | .mv s p => match rd s with
      | .store H => match H with
        | ⟨nd, tr, mp⟩ => match toI k with
          | some n => match toPt 0 v with
            | some q => some ⟨[0 < p, p ≤ mp.length], .any, [(s, .store ⟨nd, tr, setM mp p (putE (getM mp p) n q)⟩)]⟩
            | none => none
          | none => none
      | _ => none
    | _ => none
  | _ => none
def isBoolMap (T : Tab) (t : TypeId) : Bool :=
  match T.get t with
  | some ti => match ti.k with
    | .map _ e => match T.get e with
      | some ei => match ei.k with
        | .bool => true
        | _ => false
      | none => false
    | _ => false
  | none => false
def effMakeMap2 (T : Tab) (rd : Nat → Blk) (nid : Nat) (t : TypeId) : Option Res :=
  match isBoolMap T t with
  | true => some ⟨[], .bm nid, [(nid, .mapb [])]⟩
  | false => effMakeMap T rd t
def lookB : List (Int × Bool) → Int → Bool
  | [], _ => false
  | (k, b) :: r, n => bif decide (n = k) then b else lookB r n
def putB : List (Int × Bool) → Int → Bool → List (Int × Bool)
  | [], n, q => [(n, q)]
  | (k, b) :: r, n, q => bif decide (n = k) then (n, q) :: r else (k, b) :: putB r n q
def isFalseZero (l : List SV) : Bool :=
  match l with
  | [x] => match x with
    | .blit b => match b with
      | true => false
      | false => true
    | _ => false
  | _ => false
def effLookup2 (T : Tab) (rd : Nat → Blk) (t : TypeId) (m k : SV) (ok : Bool) : Option Res :=
  match m with
  | .bm id => match T.get t with
    | some { k := .map _ e, .. } => match T.get e with
      | some ei => match isFalseZero ei.zero && !isAggK ei.k with
        | true => match rd id with
          | .mapb es => match toI k with
            | some n => match ok with
              | true => none
              | false => some ⟨[], .bool (lookB es n), []⟩
            | none => none
          | _ => none
        | false => none
      | none => none
    | _ => none
  | _ => effLookup T rd t m k ok
def effMapUpdate2 (T : Tab) (rd : Nat → Blk) (t : TypeId) (m k v : SV) : Option Res :=
  match m with
  | .bm id => match T.get t with
    | some { k := .map _ _, .. } => match rd id with
      | .mapb es => match toI k with
        | some n => match toB v with
          | some b => some ⟨[], .any, [(id, .mapb (putB es n b))]⟩
          | none => none
        | none => none
      | _ => none
    | _ => none
  | _ => effMapUpdate T rd t m k v
def effDelete (T : Tab) (rd : Nat → Blk) (ts : Array TypeId) (m k : SV) : Option Res :=
  match ts.toList with
  | [t, _] => match T.get t with
    | some { k := .map _ _, .. } => match m with
      | .mv s p => match rd s with
        | .store H => match H with
          | ⟨nd, tr, mp⟩ => match toI k with
            | some n => some ⟨[0 < p, p ≤ mp.length], .tup [], [(s, .store ⟨nd, tr, setM mp p (delE (getM mp p) n)⟩)]⟩
            | none => none
        | _ => none
      | _ => none
    | _ => none
  | _ => none
def effLenMap (rd : Nat → Blk) (m : SV) : Option Res :=
  match m with
  | .mv s p => match rd s with
    | .store H => match H with
      | ⟨nd, tr, mp⟩ => some ⟨[p ≤ mp.length], .int .i64 ((getM mp p).length : Int), []⟩
    | _ => none
  | _ => none

def effBuild (T : Tab) (t : TypeId) (ps : Array (Nat × Operand)) (vs : List SV) : Option Res :=
  match T.get t with
  | some ti => match zips ps.toList vs with
    | some l => match ti.k with
      | .struct fs => match layS T fs l ti.zero with
        | some cs => some ⟨[], .agg cs, []⟩
        | none => none
      | .array _ e => match T.get e with
        | some ei => match layA ei.size l ti.zero with
          | some cs => some ⟨[], .agg cs, []⟩
          | none => none
        | none => none
      | _ => none
    | none => none
  | none => none

def effBuildSlice (T : Tab) (nid : Nat) (t : TypeId) (n : Nat) (ps : Array (Nat × Operand)) (vs : List SV) : Option Res :=
  match T.get t with
  | some { k := .slice e, .. } => match T.get e with
    | some ei => match zips ps.toList vs with
      | some l => match layA ei.size l (repl n ei.zero) with
        | some cs => match Nat.ble 1 n && Nat.ble 1 ei.size && Nat.ble (n * ei.size) 16777216 && lenIs ei.zero ei.size with
          | true => match cut ei.size n cs with
            | some rows => match toRows rows with
              | some xs => some ⟨[], .sl nid ei.size 0 n, [(nid, .arr true true ei.size xs)]⟩
              | none => some ⟨[], .sl nid ei.size 0 n, [(nid, .cells cs)]⟩
            | none => none
          | false => none
        | none => none
      | none => none
    | none => none
  | _ => none

def effLoad (T : Tab) (rd : Nat → Blk) (t : TypeId) (p : SV) : Option Res :=
  match T.get t with
  | some ti => match p with
    | .ptr id off => match rd id with
      | .cells cs => match isAggK ti.k with
        | true => match takeN cs off ti.size with
          | some l => some ⟨[], .agg l, []⟩
          | none => none
        | false => match cs[off]? with
          | some v => some ⟨[], v, []⟩
          | none => none
      | _ => none
    | .pti id esz i j => match rd id with
      | .arr ow ok esz' xs => match Nat.beq esz esz' && Nat.ble (j + ti.size) esz with
        | true => match isAggK ti.k with
          | true => some ⟨[ok = true, i < xs.length], .agg (pick2 xs i j ti.size), []⟩
          | false => some ⟨[ok = true, i < xs.length, ti.size = 1], .int .i64 (at2 xs i j), []⟩
        | false => none
      | .arrk ks xs => match j with
        | 0 => match lenK ks esz && Nat.beq ti.size esz && isAggK ti.k with
          | true => some ⟨[i < xs.length], .agg (pickK xs i ks 0), []⟩
          | false => none
        | _ => none
      | _ => none
    | .np s k q off => match rd s with
      | .store H => match H with
        | ⟨nd, tr, mp⟩ => match objS s nd tr k q with
          | some (cs, ps) => match isAggK ti.k with
            | true => match takeN cs off ti.size with
              | some l => some ⟨ps, .agg l, []⟩
              | none => none
            | false => match cs[off]? with
              | some v => some ⟨ps, v, []⟩
              | none => none
          | none => none
      | _ => none
    | _ => none
  | none => none

def effStore (T : Tab) (rd : Nat → Blk) (t : TypeId) (p x : SV) : Option Res :=
  match T.get t with
  | some ti => match cellsOf x with
    | some vs => match lenIs vs ti.size && plains vs with
      | true => match p with
        | .ptr id off => match rd id with
          | .cells cs => match overlay cs off vs with
            | some cs' => some ⟨[], .any, [(id, .cells cs')]⟩
            | none => none
          | _ => none
        | .pti id esz i j => match rd id with
          | .arr true ok esz' xs => match toIs vs with
            | some ns => match Nat.beq esz esz' && Nat.ble (j + ti.size) esz with
              | true => some ⟨[ok = true, i < xs.length, (xs.getD i []).length = esz], .any, [(id, .arr true ok esz (upd2 xs i j ns))]⟩
              | false => none
            | none => none
          | _ => none
        | .np s k q off => match rd s with
          | .store H => match H with
            | ⟨nd, tr, mp⟩ => match objS s nd tr k q with
              | some (cs, ps) => match putW nd tr mp k q off vs with
                | some H' => some ⟨ps, .any, [(s, .store H')]⟩
                | none => none
              | none => none
          | _ => none
        | _ => none
      | false => none
    | none => none
  | none => none

def effNil (x : SV) : Option Res :=
  match x with
  | .ptr id off => some ⟨[], .ptr id off, []⟩
  | .pti id esz i j => some ⟨[], .pti id esz i j, []⟩
  | .np s k p o => some ⟨[0 < p], .np s k p o, []⟩
  | _ => none

def effBin (T : Tab) (rd : Nat → Blk) (op : BinOp) (t : TypeId) (x y : SV) : Option Res :=
  match x with
  | .np s k p o => match isEq op with
    | some e => match T.get t with
      | some { k := .ptr _, .. } => match o with
        | 0 => match eqPtr rd e s k p y with
          | some (ps, v) => some ⟨ps, v, []⟩
          | none => none
        | _ => none
      | _ => none
    | none => none
  | .mv _ p => match isEq op with
    | some e => match T.get t with
      | some { k := .map _ _, .. } => match eqMap e p y with
        | some (ps, v) => some ⟨ps, v, []⟩
        | none => none
      | _ => none
    | none => none
  | _ => match binS T op t x y with
    | some (ps, v) => some ⟨ps, v, []⟩
    | none => none

def effUn (op : UnOp) (x : SV) : Option Res :=
  match op with
  | .not => match x with
    | .blit b => some ⟨[], .blit (!b), []⟩
    | .bool b => some ⟨[], .bool (!b), []⟩
    | _ => none
  | .neg => match x with
    | .lit k n => match litO (k.wrap (0 - n)) with
      | some z => some ⟨[], .lit k z, []⟩
      | none => none
    | .int k n => some ⟨[InR k (-n)], .int k (-n), []⟩
    | _ => none
  | _ => none

def effConv (T : Tab) (s d : TypeId) (x : SV) : Option Res :=
  match T.get s with
  | some _ => match T.get d with
    | some { k := .int k, .. } => match x with
      | .lit _ n => match litO (k.wrap n) with
        | some z => some ⟨[], .lit k z, []⟩
        | none => none
      | .int _ n => some ⟨[InR k n], .int k n, []⟩
      | _ => none
    | _ => none
  | none => none

def effFieldAddr (T : Tab) (t : TypeId) (f : Nat) (p : SV) : Option Res :=
  match T.get t with
  | some { k := .struct fs, .. } => match fs[f]? with
    | some (off, ft) => match T.get ft with
      | some fi => match Nat.ble 1 fi.size with
        | true => match p with
          | .ptr id o => match normN (o + off) nats with
            | some o' => some ⟨[], .ptr id o', []⟩
            | none => none
          | .pti id esz i j => match normN (j + off) nats with
            | some j' => some ⟨[], .pti id esz i j', []⟩
            | none => none
          | .np s k q o => match normN (o + off) nats with
            | some o' => some ⟨[0 < q], .np s k q o', []⟩
            | none => none
          | _ => none
        | false => none
      | none => none
    | none => none
  | _ => none

def effField (T : Tab) (t : TypeId) (f : Nat) (x : SV) : Option Res :=
  match T.get t with
  | some { k := .struct fs, .. } => match fs[f]? with
    | some (off, ft) => match T.get ft with
      | some fi => match x with
        | .agg cs => match isAggK fi.k with
          | true => match takeN cs off fi.size with
            | some l => some ⟨[], .agg l, []⟩
            | none => none
          | false => match cs[off]? with
            | some v => some ⟨[], v, []⟩
            | none => none
        | _ => none
      | none => none
    | none => none
  | _ => none

def effIndexAddr (T : Tab) (t : TypeId) (x ix : SV) : Option Res :=
  match T.get t with
  | some ti => match ti.k with
    | .slice e => match T.get e with
      | some ei => match x with
        | .sl id esz off len => match Nat.beq esz ei.size with
          | true => match ix with
            | .lit _ n => match litN n with
              | some k => some ⟨[k < len], .pti id esz (off + k) 0, []⟩
              | none => none
            | .int _ n => some ⟨[0 ≤ n, n < len], .pti id esz (off + n.toNat) 0, []⟩
            | _ => none
          | false => none
        | .osl b id esz len => match Nat.beq esz ei.size with
          | true => match ix with
            | .lit _ n => match litN n with
              | some k => some ⟨[k < len], .pti id esz k 0, []⟩
              | none => none
            | .int _ n => some ⟨[0 ≤ n, n < len], .pti id esz n.toNat 0, []⟩
            | _ => none
          | false => none
        | _ => none
      | none => none
    | .array n e => match T.get e with
      | some ei => match x with
        | .ptr id o => match ix with
          | .lit _ z => match litN z with
            | some k => match Nat.blt k n with
              | true => match normN (o + k * ei.size) nats with
                | some o' => some ⟨[], .ptr id o', []⟩
                | none => none
              | false => none
            | none => none
          | _ => none
        | .pti id esz i j => match ix with
          | .lit _ z => match litN z with
            | some k => match Nat.blt k n with
              | true => match normN (j + k * ei.size) nats with
                | some j' => some ⟨[], .pti id esz i j', []⟩
                | none => none
              | false => none
            | none => none
          | _ => none
        | _ => none
      | none => none
    | _ => none
  | none => none

def effIndex (T : Tab) (t : TypeId) (x ix : SV) : Option Res :=
  match T.get t with
  | some { k := .array n e, .. } => match T.get e with
    | some ei => match x with
      | .agg cs => match ix with
        | .lit _ z => match litN z with
          | some k => match Nat.blt k n with
            | true => match isAggK ei.k with
              | true => match takeN cs (k * ei.size) ei.size with
                | some l => some ⟨[], .agg l, []⟩
                | none => none
              | false => match cs[k * ei.size]? with
                | some v => some ⟨[], v, []⟩
                | none => none
            | false => none
          | none => none
        | _ => none
      | _ => none
    | none => none
  | _ => none

def effExtract (i : Nat) (x : SV) : Option Res :=
  match x with
  | .tup ss => match ss[i]? with
    | some v => some ⟨[], v, []⟩
    | none => none
  | _ => none

def effSlice (T : Tab) (t : TypeId) (lo hi : Option Operand) (x : SV) (bs : List SV) : Option Res :=
  match T.get t with
  | some { k := .slice e, .. } => match T.get e with
    | some ei => match x with
      | .nils => match lo, hi, bs with
        | none, none, [] => some ⟨[], .nils, []⟩
        | some _, none, [l] => match toI l with
          | some l => some ⟨[l = 0], .nils, []⟩
          | none => none
        | none, some _, [h] => match toI h with
          | some h => some ⟨[h = 0], .nils, []⟩
          | none => none
        | some _, some _, [l, h] => match toI l with
          | some l => match toI h with
            | some h => some ⟨[l = 0, h = 0], .nils, []⟩
            | none => none
          | none => none
        | _, _, _ => none
      | .sl id esz off len => match Nat.beq esz ei.size with
        | true => match lo, hi, bs with
          | none, none, [] => some ⟨[], .sl id esz off len, []⟩
          | some _, none, [l] => match toI l with
            | some l => some ⟨[0 ≤ l, l ≤ len], .sl id esz (off + l.toNat) (len - l.toNat), []⟩
            | none => none
          | none, some _, [h] => match toI h with
            | some h => some ⟨[0 ≤ h, h ≤ len], .sl id esz off h.toNat, []⟩
            | none => none
          | some _, some _, [l, h] => match toI l with
            | some l => match toI h with
              | some h => some ⟨[0 ≤ l, l ≤ h, h ≤ len], .sl id esz (off + l.toNat) (h.toNat - l.toNat), []⟩
              | none => none
            | none => none
          | _, _, _ => none
        | false => none
      | .osl b id esz len => match Nat.beq esz ei.size with
        | true => match lo, hi, bs with
          | none, some _, [h] => match toI h with
            | some h => some ⟨[0 ≤ h, h ≤ len], .osl b id esz h.toNat, []⟩
            | none => none
          | some _, none, [l] => match toI l with
            | some l => match b with
              | true => some ⟨[l = 0], .nils, []⟩
              | false => some ⟨[0 ≤ l, l ≤ len], .sl id esz l.toNat (len - l.toNat), []⟩
            | none => none
          | _, _, _ => none
        | false => none
      | _ => none
    | none => none
  | _ => none

def effMake (T : Tab) (nid : Nat) (t : TypeId) (l c : SV) : Option Res :=
  match T.get t with
  | some { k := .slice e, .. } => match T.get e with
    | some ei => match toIs ei.zero with
      | some z => match toI l with
        | some n => match toI c with
          | some n' => match lenIs ei.zero ei.size && Nat.ble 1 ei.size with
            | true => some ⟨[n' = n, 0 ≤ n, n * ei.bytes ≤ 1099511627776, n ≤ 1099511627776], .sl nid ei.size 0 n.toNat, [(nid, .arr true true ei.size (List.replicate n.toNat z))]⟩
            | false => none
          | none => none
        | none => none
      | none => none
    | none => none
  | _ => none

/-- What is appended: how many, which rows, what is asked, where they lie. -/
def srcS (rd : Nat → Blk) (esz : Nat) (x : SV) : Option (Nat × List (List Int) × List Prop × List Nat) :=
  match x with
  | .nils => some (0, [], [], [])
  | .sl jd e off n => match rd jd with
    | .arr _ ok e' ys => match Nat.beq e esz && Nat.beq e' esz with
      | true => some (n, (ys.drop off).take n, [n = 0 ∨ ok = true, off + n ≤ ys.length], [jd])
      | false => none
    | _ => none
  | .osl _ jd e n => match rd jd with
    | .arr _ ok e' ys => match Nat.beq e esz && Nat.beq e' esz with
      | true => some (n, ys.take n, [n = 0 ∨ ok = true, n ≤ ys.length], [jd])
      | false => none
    | _ => none
  | _ => none
def isIn (i : Nat) : List Nat → Bool
  | [] => false
  | j :: r => match Nat.beq i j with
    | true => true
    | false => isIn i r
def consP : List Prop → List Prop → List Prop
  | [], l => l
  | x :: r, l => x :: consP r l
def effAppend (T : Tab) (rd : Nat → Blk) (nid : Nat) (ts : Array TypeId) (s x : SV) : Option Res :=
  match ts.toList with
  | [t, t2] => match T.get t with
    | some { k := .slice e, .. } => match T.get e with
      | some ei => match T.get t2 with
        | some { k := .slice _, .. } => match toIs ei.zero with
          | some _ => match lenIs ei.zero ei.size && Nat.ble 1 ei.size && Nat.ble ei.bytes 1024 && Nat.ble 1 ei.bytes with
            | true => match srcS rd ei.size x with
              | some (n, zs, ps, js) => match s with
                | .nils => some ⟨consP ps [n ≤ 4294967296], .osl (decide (n = 0)) nid ei.size n, [(nid, .arr true (decide (0 < n)) ei.size zs)]⟩
                | .sl id esz off len => match rd id with
                  | .arr true ok esz' xs => match Nat.beq esz ei.size && Nat.beq esz' ei.size && !isIn id js with
                    | true => some ⟨consP ps [ok = true, off = 0, len ≤ xs.length, len + n ≤ 4294967296], .sl nid ei.size 0 (len + n), [(nid, .arr true true ei.size (xs.take len ++ zs)), (id, .dead)]⟩
                    | false => none
                  | _ => none
                | .osl b id esz len => match rd id with
                  | .arr true ok esz' xs => match Nat.beq esz ei.size && Nat.beq esz' ei.size && !isIn id js with
                    | true => some ⟨consP ps [b = false → ok = true, b = true → xs.take len = [], len ≤ xs.length, len + n ≤ 4294967296], .osl (b && decide (n = 0)) nid ei.size (len + n), [(nid, .arr true (!b || decide (0 < n)) ei.size (xs.take len ++ zs)), (id, .dead)]⟩
                    | false => none
                  | _ => none
                | _ => none
              | none => none
            | false => none
          | none => none
        | _ => none
      | none => none
    | _ => none
  | _ => none
/-- A copy into a slice of the same length. -/
def effCopy (T : Tab) (rd : Nat → Blk) (ts : Array TypeId) (s x : SV) : Option Res :=
  match ts.toList with
  | [t, _] => match T.get t with
    | some { k := .slice e, .. } => match T.get e with
      | some ei => match Nat.ble 1 ei.size with
        | true => match srcS rd ei.size x with
          | some (n, zs, ps, js) => match s with
            | .sl id esz off len => match rd id with
              | .arr true ok esz' xs => match Nat.beq esz ei.size && Nat.beq esz' ei.size && !isIn id js with
                | true => some ⟨consP ps [ok = true, off = 0, len = xs.length, n = len], .int .i64 n, [(id, .arr true ok esz zs)]⟩
                | false => none
              | _ => none
            | _ => none
          | none => none
        | false => none
      | none => none
    | _ => none
  | _ => none
/-- A slice of no elements, made. -/
def effBuild0 (T : Tab) (nid : Nat) (t : TypeId) (ps : Array (Nat × Operand)) : Option Res :=
  match T.get t with
  | some { k := .slice e, .. } => match T.get e with
    | some ei => match ps.toList with
      | [] => some ⟨[], .sl nid ei.size 0 0, [(nid, .arr true true ei.size [])]⟩
      | _ => none
    | none => none
  | _ => none

def effBuiltin (T : Tab) (rd : Nat → Blk) (nid : Nat) (b : Builtin) (ts : Array TypeId) (vs : List SV) : Option Res :=
  match b with
  | .len => match vs with
    | [x] => match ts.toList with
      | [t] => match T.get t with
        | some { k := .slice _, .. } => match lenS x with
          | some v => some ⟨[], v, []⟩
          | none => none
        | some { k := .map _ _, .. } => effLenMap rd x
        | _ => none
      | _ => none
    | _ => none
  | .delete => match vs with
    | [m, k] => effDelete T rd ts m k
    | _ => none
  | .min => match vs with
    | [x, y] => match toN x with
      | some (k, a, _) => match toN y with
        | some (k', b, _) => some ⟨[], .int k (min a b), []⟩
        | none => none
      | none => none
    | _ => none
  | .max => match vs with
    | [x, y] => match toN x with
      | some (k, a, _) => match toN y with
        | some (k', b, _) => some ⟨[], .int k (max a b), []⟩
        | none => none
      | none => none
    | [x, y, z] => match toN x with
      | some (k, a, _) => match toN y with
        | some (k', b, _) => match toN z with
          | some (k'', c, _) => some ⟨[], .int k (max (max a b) c), []⟩
          | none => none
        | none => none
      | none => none
    | _ => none
  | .append => match vs with
    | [s, x] => effAppend T rd nid ts s x
    | _ => none
  | .copy => match vs with
    | [s, x] => effCopy T rd ts s x
    | _ => none
  | _ => none

/-- Blocks that are written in place: of the caller's own, or the store; each once, none that is used up. -/
def updOK (rd : Nat → Blk) : List Nat → List (Nat × Blk) → Bool
  | _, [] => true
  | seen, x :: r => match x with
    | (i, b) => match isIn i seen with
      | true => false
      | false => match b with
        | .store _ => match rd i with
          | .store _ => updOK rd (i :: seen) r
          | _ => false
        | _ => match (rd i).own && b.own with
          | true => updOK rd (i :: seen) r
          | false => false
def appW : List (Nat × Blk) → List (Nat × Blk) → List (Nat × Blk)
  | [], l => l
  | x :: r, l => x :: appW r l
theorem appW_eq : ∀ (x y : List (Nat × Blk)), appW x y = x ++ y
  | [], y => rfl
  | x :: r, y => by simp [appW, appW_eq r y]
def roUpd (ro : Bool) (upd : List (Nat × Blk)) : List (Nat × Blk) := match ro with
  | true => []
  | false => upd
def effCall (C : List Con) (rd : Nat → Blk) (nid : Nat) (f : FuncId) (args : List SV) : Option Res :=
  match findC C f with
  | some c => match c.run nid args rd with
    | some r => match kill rd r.used with
      | some l => match updOK rd r.used r.upd with
        | true => some ⟨r.pre, r.val, appW (numberN nid r.nb) (appW l (roUpd r.ro r.upd))⟩
        | false => none
      | none => none
    | none => none
  | none => none

def eff (T : Tab) (C : List Con) (op : Op) (vs : List SV) (rd : Nat → Blk) (nid : Nat) : Option Res :=
  match op, vs with
  | .move _, [x] => some ⟨[], x, []⟩
  | .assign _, [x] => some ⟨[], x, []⟩
  | .pick _ _ _, [c, a, b] => effPick c a b
  | .alloc t, [] => effAlloc T rd nid t
  | .box t _, [x] => effBox T rd nid t x
  | .makeMap t none, [] => effMakeMap2 T rd nid t
  | .lookup t _ _ ok, [x, k] => effLookup2 T rd t x k ok
  | .mapUpdate t _ _ _, [x, k, v] => effMapUpdate2 T rd t x k v
  | .build t ps, vs => effBuild T t ps vs
  | .buildSlice t n ps, vs => match n with
    | 0 => effBuild0 T nid t ps
    | k + 1 => effBuildSlice T nid t (k + 1) ps vs
  | .load t _, [p] => effLoad T rd t p
  | .store t _ _, [p, x] => effStore T rd t p x
  | .nilCheck _, [x] => effNil x
  | .binOp op t _ _ _, [x, y] => effBin T rd op t x y
  | .unOp op _ _, [x] => effUn op x
  | .convert s d _, [x] => effConv T s d x
  | .fieldAddr t _ f, [p] => effFieldAddr T t f p
  | .field t _ f, [x] => effField T t f x
  | .indexAddr t _ _, [x, ix] => effIndexAddr T t x ix
  | .index t _ _, [x, ix] => effIndex T t x ix
  | .extract _ i, [x] => effExtract i x
  | .slice t _ lo hi none, x :: bs => effSlice T t lo hi x bs
  | .makeSlice t _ _, [l, c] => effMake T nid t l c
  | .call { callee := .builtin b, argTypes := ts, .. }, vs => effBuiltin T rd nid b ts vs
  | .call { callee := .value (.func f), .. }, _ :: args => effCall C rd nid f args
  | _, _ => none

/-- The value of an operand. -/
def ofV : Value → SV
  | .int k n => .lit k n
  | .bool b => .blit b
  | .slice none 0 0 => .nils
  | .agg cs => match toList cs.toList with
    | some l => .agg l
    | none => .any
  | v => .cst v
 where
  toList : List Value → Option (List SV)
    | [] => some []
    | .int k n :: r => match toList r with
      | some l => some (.lit k n :: l)
      | none => none
    | .bool b :: r => match toList r with
      | some l => some (.blit b :: l)
      | none => none
    | _ :: _ => none
def evL (l : List SV) : Operand → SV
  | .tmp t => getL l t
  | .const v => ofV v
  | .func f => .cst (.func (.func f) #[] #[])
  | _ => .any
def vals (l : List SV) : List Operand → List SV
  | [] => []
  | x :: r => evL l x :: vals l r
end Go.Proofs.Ytkfaflhhkmkdjaa.Ev

namespace Go.Proofs.Ytkfaflhhkmkdjaa.Ev
open Go.RowKit
set_option linter.unusedVariables false
set_option linter.unusedSimpArgs false

def KindOk (P : Program) (t : TypeId) : TK → Prop
  | .int k => P.underlying t = some (.int k)
  | .bool => P.underlying t = some .bool
  | .slice e => P.underlying t = some (.slice e)
  | .struct fs => ∃ fields : Array Field, P.underlying t = some (.struct fields) ∧ fields.toList.map (fun f => (f.offset, f.type)) = fs ∧ ∃ places, fields.toList.mapM (fun f => (P.info? f.type).map fun i => (f.offset, i.size)) = some places
  | .array n e => P.underlying t = some (.array n e)
  | .ptr e => P.underlying t = some (.pointer e) ∧ ∃ i, P.info? e = some i ∧ i.size ≠ 0
  | .map k e => P.underlying t = some (.map k e) ∧ P.underlying k = some (.int .i64)
  | .other => ∃ d, P.underlying t = some d ∧ (∀ fs, d ≠ .struct fs) ∧ (∀ n e, d ≠ .array n e)

def ints (l : List Int) : Array Value := (l.map (Value.int .i64)).toArray

structure TI.Ok (P : Program) (t : TypeId) (ti : TI) : Prop where
  info : ∃ i zv, P.info? t = some i ∧ i.size = ti.size ∧ i.bytes = ti.bytes ∧ i.zero = some zv ∧ All2 (fun s v => ∀ m, DenS m s v) ti.zero zv.cells.toList
  kind : KindOk P t ti.k
  flat : ti.flat = true → P.eqGuardType P.depth t = false ∧ ∀ (as bs : List Int) (r : Bool) (w : World), as.length = ti.size → bs.length = ti.size → eqInts as bs = some r →
    (Op.equal t (.agg (ints as)) (.agg (ints bs))).run P w = .ok r w
  one : isAggK ti.k = false → ∀ i zv, P.info? t = some i → i.zero = some zv → zv.oneCell' = true

def Tab.Ok (P : Program) (T : Tab) : Prop := ∀ t ti, T.get t = some ti → ti.Ok P t
/-- A table in which calls on a type look into more blocks. -/
def Tab.deep : Tab → Nat → List Nat → Tab
  | [], _, _ => []
  | (n, i) :: r, t, l => match Nat.beq n t with
    | true => (n, ⟨i.k, i.size, i.bytes, i.zero, i.flat, i.wr, i.st, l⟩) :: r
    | false => (n, i) :: Tab.deep r t l
theorem Tab.deep_get : ∀ {T : Tab} {t : Nat} {l : List Nat} {u : Nat} {ti : TI}, (T.deep t l).get u = some ti → ∃ ti', T.get u = some ti' ∧ ∃ l', ti = ⟨ti'.k, ti'.size, ti'.bytes, ti'.zero, ti'.flat, ti'.wr, ti'.st, l'⟩
  | [], t, l, u, ti, h => by cases h
  | (n, i) :: r, t, l, u, ti, h => by
    simp only [Tab.deep] at h
    split at h
    · simp only [Tab.get] at h ⊢
      split at h
      · cases h; exact ⟨i, rfl, l, rfl⟩
      · exact ⟨ti, h, ti.rd, rfl⟩
    · simp only [Tab.get] at h ⊢
      split at h
      · cases h; exact ⟨i, rfl, i.rd, rfl⟩
      · exact Tab.deep_get h
theorem Tab.deep_ok {P : Program} {T : Tab} (h : T.Ok P) (t : Nat) (l : List Nat) : (T.deep t l).Ok P := fun u ti hu => by
  obtain ⟨ti', h1, l', rfl⟩ := Tab.deep_get hu
  have k := h u ti' h1
  exact ⟨k.info, k.kind, k.flat, k.one⟩

section
variable {P : Program} {T : Tab} {t : TypeId} {ti : TI} {w : World}
theorem TI.Ok.size (h : ti.Ok P t) : (sizeOf t).run P w = .ok ti.size w := by
  obtain ⟨i, zv, h1, h2, _⟩ := h.info
  simp [sizeOf, typeInfo, h1, h2]
theorem TI.Ok.bytes (h : ti.Ok P t) : (typeInfo t).run P w = .ok ((P.info? t).get (by obtain ⟨i, zv, h1, _⟩ := h.info; simp [h1])) w := by
  obtain ⟨i, zv, h1, h2, _⟩ := h.info
  simp [typeInfo, h1]
theorem TI.Ok.zero (h : ti.Ok P t) : ∃ zv, (∀ w, (zeroValue t).run P w = .ok zv w) ∧ All2 (fun s v => ∀ m, DenS m s v) ti.zero zv.cells.toList := by
  obtain ⟨i, zv, h1, h2, h3, h4, h5⟩ := h.info
  exact ⟨zv, fun w => by simp [zeroValue, typeInfo, h1, h4], h5⟩
theorem TI.Ok.zero1 (h : ti.Ok P t) (hk : isAggK ti.k = false) : ∃ zv, (∀ w, (zeroValue t).run P w = .ok zv w) ∧ All2 (fun s v => ∀ m, DenS m s v) ti.zero zv.cells.toList ∧ zv.oneCell' = true := by
  obtain ⟨i, zv, h1, h2, h3, h4, h5⟩ := h.info
  exact ⟨zv, fun w => by simp [zeroValue, typeInfo, h1, h4], h5, h.one hk i zv h1 h4⟩
theorem TI.Ok.under (h : ti.Ok P t) : ∃ d, P.underlying t = some d := by
  have := h.kind
  cases hk : ti.k <;> rw [hk] at this <;> first | exact ⟨_, this⟩ | exact ⟨_, this.1⟩ | (obtain ⟨f, h, _⟩ := this; exact ⟨_, h⟩)
theorem TI.Ok.agg (h : ti.Ok P t) : (isAgg t).run P w = .ok (isAggK ti.k) w := by
  have := h.kind
  cases hk : ti.k <;> rw [hk] at this <;> simp only [KindOk] at this
  case struct fs => obtain ⟨f, h, _⟩ := this; simp [isAgg, run_underlying h, isAggK]
  case other =>
    obtain ⟨d, h, h1, h2⟩ := this
    cases d <;> first | (simp [isAgg, run_underlying h, isAggK]; done) | exact absurd rfl (h1 _) | exact absurd rfl (h2 _ _)
  all_goals first | simp [isAgg, run_underlying this, isAggK] | simp [isAgg, run_underlying this.1, isAggK]
end

theorem ofV_toList : ∀ {l : List Value} {ss : List SV}, ofV.toList l = some ss → ∀ m, All2 (DenS m) ss l
  | [], ss, h, m => by simp only [ofV.toList] at h; cases h; trivial
  | v :: r, ss, h, m => by
    cases v with
    | int k n =>
      simp only [ofV.toList] at h
      split at h
      · rename_i l hl; cases h; exact ⟨rfl, ofV_toList hl m⟩
      · cases h
    | bool b =>
      simp only [ofV.toList] at h
      split at h
      · rename_i l hl; cases h; exact ⟨rfl, ofV_toList hl m⟩
      · cases h
    | _ => simp [ofV.toList] at h
theorem ofV_den (m : Map) (v : Value) : Den m (ofV v) v := by
  unfold ofV
  split
  · rfl
  · rfl
  · rfl
  · split
    · rename_i l hl; exact ⟨_, rfl, ofV_toList hl m⟩
    · trivial
  · rfl
theorem evL_den {m : Map} {l : List SV} {a : Act} (h : ∀ t, Den m (getL l t) (a.tmps.getD t undef)) (x : Operand) : Den m (evL l x) (a.eval x) := by
  cases x with
  | tmp t => exact h t
  | const v => exact ofV_den m v
  | func f => rfl
  | _ => trivial

theorem getL_eq : ∀ (l : List SV) (n : Nat), getL l n = l.getD n .any
  | [], n => by simp [getL]
  | h :: t, 0 => by simp [getL]
  | h :: t, n + 1 => by simp [getL, getL_eq t n]

theorem lenIs_eq : ∀ {l : List SV} {n : Nat}, lenIs l n = true → l.length = n
  | [], 0, _ => rfl
  | [], n + 1, h => by simp [lenIs] at h
  | _ :: r, 0, h => by simp [lenIs] at h
  | _ :: r, n + 1, h => by simp [lenIs_eq (l := r) (n := n) (by simpa [lenIs] using h)]
theorem takeN_eq : ∀ {l : List SV} {k n : Nat} {r : List SV}, takeN l k n = some r → r = (l.drop k).take n ∧ k + n ≤ l.length
  | l, 0, 0, r, h => by
    have : some ([] : List SV) = some r := by cases l <;> exact h
    cases this; simp
  | [], 0, n + 1, r, h => by simp [takeN] at h
  | [], k + 1, n, r, h => by simp [takeN] at h
  | c :: cs, 0, n + 1, r, h => by
    simp only [takeN] at h
    split at h
    · rename_i r' h'; cases h
      obtain ⟨e, hl⟩ := takeN_eq h'
      simp only [List.drop_zero] at e ⊢
      exact ⟨by rw [e]; rfl, by simp; omega⟩
    · cases h
  | c :: cs, k + 1, n, r, h => by
    simp only [takeN] at h
    obtain ⟨e, hl⟩ := takeN_eq h
    exact ⟨e, by simp; omega⟩
theorem overlay_eq : ∀ {cs : List SV} {n : Nat} {vs r : List SV}, overlay cs n vs = some r → n + vs.length ≤ cs.length ∧ r.length = cs.length ∧ r = cs.take n ++ vs ++ cs.drop (n + vs.length)
  | cs, 0, [], r, h => by
    have : some cs = some r := by cases cs <;> exact h
    cases this; simp
  | [], 0, v :: vs, r, h => by simp [overlay] at h
  | [], n + 1, vs, r, h => by simp [overlay] at h
  | c :: cs, 0, v :: vs, r, h => by
    simp only [overlay] at h
    split at h
    · rename_i r' h'; cases h
      obtain ⟨e1, e2, e3⟩ := overlay_eq h'
      refine ⟨by simp at e1 ⊢; omega, by simp [e2], ?_⟩
      rw [e3]; simp
    · cases h
  | c :: cs, n + 1, vs, r, h => by
    simp only [overlay] at h
    split at h
    · rename_i r' h'; cases h
      obtain ⟨e1, e2, e3⟩ := overlay_eq h'
      refine ⟨by simp; omega, by simp [e2], ?_⟩
      rw [e3, Nat.succ_add]; simp
    · cases h

theorem cells_one {v : Value} (h : v.oneCell' = true) : v.cells = #[v] := by
  cases v <;> first | rfl | (simp [Value.oneCell'] at h)
theorem cellsOf_den {m : Map} {s : SV} {v : Value} {cs : List SV} (hc : cellsOf s = some cs) (hd : Den m s v) : All2 (DenS m) cs v.cells.toList := by
  cases s <;> simp only [cellsOf] at hc
  case cst u =>
    simp only [Den, DenA, DenS] at hd
    subst hd
    split at hc
    · rename_i h1; cases hc; rw [cells_one h1]; exact ⟨rfl, trivial⟩
    · cases hc
  all_goals (cases hc <;> simp only [Den, DenA, DenS] at hd)
  case agg => obtain ⟨vs, rfl, h⟩ := hd; exact h
  case sl => obtain ⟨l, ad, c, e, rfl, r⟩ := hd; exact ⟨⟨l, ad, c, e, rfl, r⟩, trivial⟩
  case np a b c d =>
    cases c with
    | zero => have e := hd.1 rfl; subst e; exact ⟨hd, trivial⟩
    | succ i => obtain ⟨b, e, rfl⟩ := id (hd.2 i rfl); exact ⟨hd, trivial⟩
  case mv a c =>
    cases c with
    | zero => have e := hd.1 rfl; subst e; exact ⟨hd, trivial⟩
    | succ i => obtain ⟨b, e, rfl⟩ := id (hd.2 i rfl); exact ⟨hd, trivial⟩
  case osl b id esz len =>
    cases b
    · have h2 := hd.2 rfl
      obtain ⟨l, ad, c, e, rfl, r⟩ := h2
      exact ⟨hd, trivial⟩
    · obtain ⟨rfl, h⟩ := hd.1 rfl
      exact ⟨hd, trivial⟩
  all_goals first
    | (subst hd; exact ⟨rfl, trivial⟩)
    | (obtain ⟨l, e, rfl⟩ := hd; exact ⟨⟨l, e, rfl⟩, trivial⟩)

theorem toI_den {m : Map} {s : SV} {v : Value} {n : Int} (h : toI s = some n) (hd : Den m s v) : v = .int .i64 n := by
  cases s with
  | lit k n => cases k <;> simp only [toI] at h <;> first | (cases h; exact hd) | cases h
  | int k n => cases k <;> simp only [toI] at h <;> first | (cases h; exact hd) | cases h
  | _ => simp [toI] at h
theorem toIs_den {m : Map} : ∀ {ss : List SV} {vs : List Value} {ns : List Int}, toIs ss = some ns → All2 (DenS m) ss vs → vs = ns.map (Value.int .i64)
  | [], [], ns, h, _ => by simp only [toIs] at h; cases h; rfl
  | s :: ss, v :: vs, ns, h, ⟨h1, h2⟩ => by
    simp only [toIs] at h
    split at h
    · rename_i n hn
      split at h
      · rename_i ns' hns
        cases h
        rw [toIs_den hns h2, toI_den hn h1.a.d]
        rfl
      · cases h
    · cases h
theorem toIs_length : ∀ {ss : List SV} {ns : List Int}, toIs ss = some ns → ns.length = ss.length
  | [], ns, h => by simp only [toIs] at h; cases h; rfl
  | s :: ss, ns, h => by
    simp only [toIs] at h
    split at h
    · split at h
      · rename_i ns' hns; cases h; simp [toIs_length hns]
      · cases h
    · cases h
theorem toN_den {m : Map} {s : SV} {v : Value} {k : IntKind} {n : Int} {u : Bool} (h : toN s = some (k, n, u)) (hd : Den m s v) : v = .int k n := by
  cases s <;> simp only [toN] at h <;> first | (cases h; exact hd) | cases h
theorem toB_den {m : Map} {s : SV} {v : Value} {b : Bool} (h : toB s = some b) (hd : Den m s v) : v = .bool b := by
  cases s <;> simp only [toB] at h <;> first | (cases h; exact hd) | cases h

/-- What only yields a value. -/
def Yields (P : Program) (m : Map) (s : Sem Value) (w : World) (r : Res) : Prop := ∃ v, s.run P w = .ok v w ∧ Den m r.val v ∧ r.wr = []

theorem cell_of {w : World} {g off : Nat} {vs : Array Value} {ty : TypeId} {fr : Nat × Nat} (h : w.heap[g]? = some (.cells vs ty fr)) : w.cell? ⟨g, off, none⟩ = vs[off]? := by
  simp [World.cell?, h]

theorem add_off (g o j : Nat) : (⟨g, o, none⟩ : Addr).add j = ⟨g, o + j, none⟩ := by
  unfold Addr.add
  split
  · rename_i h; subst h; rfl
  · rfl

section
variable {P : Program} {T : Tab} {m : Map} {w : World} {rd : Nat → Blk} {r : Res}

theorem lenK_eq : ∀ {ks : List IntKind} {n : Nat}, lenK ks n = true → ks.length = n
  | [], 0, _ => rfl
  | [], n + 1, h => by cases h
  | _ :: _, 0, h => by cases h
  | k :: ks, n + 1, h => by simp only [List.length_cons]; rw [lenK_eq (ks := ks) (n := n) h]
theorem pickK_get {xs : List (List Int)} {i : Nat} : ∀ (ks : List IntKind) (j : Nat), (pickK xs i ks j).length = ks.length ∧ ∀ k, k < ks.length → (pickK xs i ks j)[k]? = some (.int (ks.getD k .i64) (at2 xs i (j + k)))
  | [], j => ⟨rfl, fun k hk => by simp at hk⟩
  | q :: ks, j => by
    obtain ⟨h1, h2⟩ := pickK_get (xs := xs) (i := i) ks (j + 1)
    refine ⟨by simp [pickK, h1], fun k hk => ?_⟩
    cases k with
    | zero => rfl
    | succ k =>
      simp only [pickK, List.getElem?_cons_succ]
      rw [h2 k (by simpa using hk), show j + 1 + k = j + (k + 1) by omega]; rfl
theorem at2_pick {xs : List (List Int)} {i : Nat} : ∀ (n j : Nat), (pick2 xs i j n).length = n ∧ ∀ k, k < n → (pick2 xs i j n)[k]? = some (.int .i64 (at2 xs i (j + k)))
  | 0, j => ⟨rfl, fun k hk => by omega⟩
  | n + 1, j => by
    obtain ⟨h1, h2⟩ := at2_pick (xs := xs) (i := i) n (j + 1)
    refine ⟨by simp [pick2, h1], fun k hk => ?_⟩
    cases k with
    | zero => rfl
    | succ k => simp only [pick2, List.getElem?_cons_succ]; rw [h2 k (by omega), show j + 1 + k = j + (k + 1) by omega]

theorem all2_of_get {α β : Type} {R : α → β → Prop} : ∀ {as : List α} {bs : List β}, as.length = bs.length → (∀ (i : Nat) (a : α) (b : β), as[i]? = some a → bs[i]? = some b → R a b) → All2 R as bs
  | [], [], _, _ => trivial
  | a :: as, b :: bs, hl, h => ⟨h 0 a b rfl rfl, all2_of_get (by simpa using hl) (fun i a b h1 h2 => h (i + 1) a b (by simpa using h1) (by simpa using h2))⟩

/-- Cells known one by one, loaded. -/
theorem load_cells {l : Place} {vs : Array Value} {ty : TypeId} {fr : Nat × Nat} (hw : w.heap[l.b]? = some (.cells vs ty fr)) (off n : Nat) (h : off + n ≤ vs.size) :
    (loadCells ⟨l.b, off, none⟩ n).run P w = .ok ((vs.toList.drop off).take n).toArray w := by
  have hl : ((vs.toList.drop off).take n).length = n := by simp; omega
  have := run_loadCells_list (P := P) w ⟨l.b, off, none⟩ ((vs.toList.drop off).take n) (fun j v hj => by
    have hjn : j < n := by have := (List.getElem?_eq_some_iff.1 hj).1; omega
    rw [add_off, cell_of hw, ← hj]
    rw [List.getElem?_take_of_lt hjn, List.getElem?_drop, Array.getElem?_toList])
  rwa [hl] at this

theorem nd_get {nd : List Nd} {i : Nat} (h : i < nd.length) : nd[i]? = some (getN nd (i + 1)) := by
  simp [getN, List.getElem?_eq_getElem h]
theorem tr_get {tr : List (Nat × Nat)} {i : Nat} (h : i < tr.length) : tr[i]? = some (getT tr (i + 1)) := by
  simp [getT, List.getElem?_eq_getElem h]
theorem mp_get {mp : List (List (Int × Nat))} {i : Nat} (h : i < mp.length) : mp[i]? = some (getM mp (i + 1)) := by
  simp [getM, List.getElem?_eq_getElem h]

theorem All2.swap {α β : Type} {R : α → β → Prop} : ∀ {as as' : List α} {bs : List β}, All2 (fun a a' => ∀ v, R a v → R a' v) as as' → All2 R as bs → All2 R as' bs
  | [], [], [], _, _ => trivial
  | a :: as, a' :: as', b :: bs, ⟨h1, h2⟩, ⟨k1, k2⟩ => ⟨h1 _ k1, All2.swap h2 k2⟩
  | [], [], _ :: _, _, h => h.elim
  | _ :: _, _ :: _, [], _, h => h.elim
  | [], _ :: _, _, h, _ => h.elim
  | _ :: _, [], _, h, _ => h.elim
theorem nd_s {s s' : Nat} {x : Nd} {l : List Value} (h : All2 (DenS m) (ndCells s x) l) : All2 (DenS m) (ndCells s' x) l :=
  All2.swap (as := ndCells s x) ⟨fun _ h => h, fun _ h => h, fun _ h => h, fun _ h => h, fun _ h => h, fun _ h => h, fun _ h => h, fun _ h => h, fun _ h => h, trivial⟩ h
theorem tr_s {s s' : Nat} {x : Nat × Nat} {l : List Value} (h : All2 (DenS m) (trCells s x) l) : All2 (DenS m) (trCells s' x) l :=
  All2.swap (as := trCells s x) ⟨fun _ h => h, fun _ h => h, trivial⟩ h
/-- An object of the store, in the world. -/
theorem objS_den {s k p : Nat} {H : Hp} {cs : List SV} {ps : List Prop} (hs : objS s H.nd H.tr k p = some (cs, ps)) (hp : ∀ q ∈ ps, q) (hB : StoreH m w H) :
    ∃ i b vs ty, p = i + 1 ∧ m.g k i = some b ∧ w.heap[b]? = some (.cells vs ty (0, 0)) ∧ All2 (DenS m) cs vs.toList := by
  unfold objS at hs
  split at hs
  · cases hs
    have h1 : 0 < p := hp _ (by simp)
    have h2 : p ≤ H.nd.length := hp _ (by simp)
    obtain ⟨i, rfl⟩ : ∃ i, p = i + 1 := ⟨p - 1, by omega⟩
    obtain ⟨b, vs, ty, e1, e2, e3⟩ := hB.nd i _ (nd_get (by omega))
    exact ⟨i, b, vs, ty, rfl, e1, e2, nd_s e3⟩
  · cases hs
    have h1 : 0 < p := hp _ (by simp)
    have h2 : p ≤ H.tr.length := hp _ (by simp)
    obtain ⟨i, rfl⟩ : ∃ i, p = i + 1 := ⟨p - 1, by omega⟩
    obtain ⟨b, vs, ty, e1, e2, e3⟩ := hB.tr i _ (tr_get (by omega))
    exact ⟨i, b, vs, ty, rfl, e1, e2, tr_s e3⟩
  · cases hs

theorem sound_load {t : TypeId} {p : SV} {v : Value} (hT : T.Ok P) (he : effLoad T rd t p = some r) (hp : ∀ q ∈ r.pre, q) (hv : Den m p v) (hb : ∀ id, BlkH m id w (rd id)) :
    Yields P m (Instr.loadAt t v) w r := by
  unfold effLoad at he
  split at he
  rotate_left
  · cases he
  rename_i ti hti
  have ht := hT t ti hti
  split at he
  · rename_i id off
    split at he
    rotate_left
    · cases he
    rename_i cs hcs
    have hB := hb id
    rw [hcs] at hB
    obtain ⟨l, vs, ty, hm, ho, hw, hd⟩ := hB
    obtain ⟨l', hm', rfl⟩ := hv
    have e : l = l' := Option.some.inj (hm.symm.trans hm')
    subst e
    rw [ho, Nat.zero_add]
    split at he
    · rename_i hag
      split at he
      · rename_i q hq
        cases he
        obtain ⟨rfl, hle⟩ := takeN_eq hq
        have hlen := hd.length
        refine ⟨.agg ((vs.toList.drop off).take ti.size).toArray, ?_, ⟨_, rfl, by simpa using (hd.drop off).take ti.size⟩, rfl⟩
        have hls := load_cells (P := P) hw off ti.size (by simp at hlen; omega)
        simp only [Instr.loadAt, Instr.sureAddr, loadVar, Sem.run_bind, Sem.run_pure, Result.andThen_ok, ht.agg, hag, if_true, ht.size, hls]
      · cases he
    · rename_i hag
      split at he
      · rename_i q hq
        cases he
        obtain ⟨u, hu, hdu⟩ := hd.get off q hq
        refine ⟨u, ?_, hdu.a.d, rfl⟩
        have hc : w.cell? ⟨l.b, off, none⟩ = some u := by rw [cell_of hw, ← Array.getElem?_toList]; exact hu
        simp only [Instr.loadAt, Instr.sureAddr, loadVar, Sem.run_bind, Sem.run_pure, Result.andThen_ok, ht.agg, hag, Bool.false_eq_true, if_false, run_load, hc]
      · cases he
  · rename_i id esz i j
    split at he
    rotate_left
    · rename_i ks xs hcs
      have hB := hb id
      rw [hcs] at hB
      split at he
      rotate_left
      · cases he
      split at he
      rotate_left
      · cases he
      rename_i hg
      simp only [Bool.and_eq_true] at hg
      obtain ⟨⟨hg1, hg2⟩, hag⟩ := hg
      have hks := lenK_eq hg1
      have hsz := Nat.eq_of_beq_eq_true hg2
      cases he
      have hi : i < xs.length := hp _ (by simp)
      obtain ⟨l', hm', rfl⟩ := hv
      obtain ⟨l, vs, ty, fr, hm, hw, hd⟩ := hB
      have e : l = l' := Option.some.inj (hm.symm.trans hm')
      subst e
      obtain ⟨hpl, hpk⟩ := pickK_get (xs := xs) (i := i) ks 0
      have hls := run_loadCells (P := P) w ⟨l.b, l.o + (i * esz + 0), none⟩ ti.size (fun k => .int (ks.getD k .i64) (at2 xs i k)) (fun k hk => by
        have hkl : k < ks.length := by omega
        have h1 : ks[k]? = some (ks.getD k .i64) := by rw [List.getD_eq_getElem?_getD, List.getElem?_eq_getElem hkl]; rfl
        rw [add_off, cell_of hw, ← hd i k _ hi h1]; congr 1; rw [hks]; omega)
      refine ⟨_, by simp only [Instr.loadAt, Instr.sureAddr, loadVar, Sem.run_bind, Sem.run_pure, Result.andThen_ok, ht.agg, hag, if_true, ht.size, hls]; rfl, ⟨_, rfl, ?_⟩, rfl⟩
      refine all2_of_get (by simp [hpl]; omega) (fun k a b h1 h2 => ?_)
      have hk : k < ti.size := by have := (List.getElem?_eq_some_iff.1 h1).1; omega
      rw [hpk k (by omega), Nat.zero_add] at h1
      cases h1
      simp [hk] at h2
      rw [List.getD_eq_getElem?_getD]
      exact h2.symm
    · cases he
    rename_i ow ok esz' xs hcs
    have hB := hb id
    rw [hcs] at hB
    split at he
    rotate_left
    · cases he
    rename_i hg
    simp only [Bool.and_eq_true] at hg
    obtain ⟨hg1, hg2⟩ := hg
    have hesz := Nat.eq_of_beq_eq_true hg1
    subst hesz
    have hj := Nat.le_of_ble_eq_true hg2
    obtain ⟨l', hm', rfl⟩ := hv
    split at he
    · rename_i hag
      cases he
      have hok : ok = true := hp _ (by simp)
      have hi : i < xs.length := hp _ (by simp)
      obtain ⟨l, vs, ty, fr, hm, hw, hd, _⟩ := hB hok
      have e : l = l' := Option.some.inj (hm.symm.trans hm')
      subst e
      obtain ⟨hpl, hpk⟩ := at2_pick (xs := xs) (i := i) ti.size j
      have hls := run_loadCells (P := P) w ⟨l.b, l.o + (i * esz + j), none⟩ ti.size (fun k => .int .i64 (at2 xs i (j + k))) (fun k hk => by
        rw [add_off, cell_of hw, ← hd i (j + k) hi (by omega)]; congr 1; omega)
      refine ⟨_, by simp only [Instr.loadAt, Instr.sureAddr, loadVar, Sem.run_bind, Sem.run_pure, Result.andThen_ok, ht.agg, hag, if_true, ht.size, hls]; rfl, ⟨_, rfl, ?_⟩, rfl⟩
      refine all2_of_get (by simp [hpl]) (fun k a b h1 h2 => ?_)
      have hk : k < ti.size := by have := (List.getElem?_eq_some_iff.1 h1).1; omega
      rw [hpk k hk] at h1
      cases h1
      simp [hk] at h2
      exact h2.symm
    · rename_i hag
      cases he
      have hok : ok = true := hp _ (by simp)
      have hi : i < xs.length := hp _ (by simp)
      have hs : ti.size = 1 := hp _ (by simp)
      obtain ⟨l, vs, ty, fr, hm, hw, hd, _⟩ := hB hok
      have e : l = l' := Option.some.inj (hm.symm.trans hm')
      subst e
      have hc : w.cell? ⟨l.b, l.o + (i * esz + j), none⟩ = some (.int .i64 (at2 xs i j)) := by rw [cell_of hw]; exact hd i j hi (by omega)
      exact ⟨_, by simp only [Instr.loadAt, Instr.sureAddr, loadVar, Sem.run_bind, Sem.run_pure, Result.andThen_ok, ht.agg, hag, Bool.false_eq_true, if_false, run_load, hc], rfl, rfl⟩
  · rename_i s k q off
    split at he
    rotate_left
    · cases he
    rename_i H hH
    obtain ⟨nd, tr, mp⟩ := H
    dsimp only at he
    split at he
    rotate_left
    · cases he
    rename_i cs ps hos
    have hB := hb s
    rw [hH] at hB
    have hpre : ∀ q ∈ ps, q := fun q hq => by
      split at he
      · split at he
        · cases he; exact hp q hq
        · cases he
      · split at he
        · cases he; exact hp q hq
        · cases he
    obtain ⟨i, b, vs, ty, rfl, hg, hw, hd⟩ := objS_den hos hpre hB.2
    obtain ⟨b', hg', rfl⟩ := hv.2 i rfl
    have e : b = b' := Option.some.inj (hg.symm.trans hg')
    subst e
    split at he
    · rename_i hag
      split at he
      · rename_i q hq
        cases he
        obtain ⟨rfl, hle⟩ := takeN_eq hq
        have hlen := hd.length
        refine ⟨.agg ((vs.toList.drop off).take ti.size).toArray, ?_, ⟨_, rfl, by simpa using (hd.drop off).take ti.size⟩, rfl⟩
        have hls := load_cells (P := P) (l := ⟨b, 0, 0⟩) hw off ti.size (by simp at hlen; omega)
        simp only [Instr.loadAt, Instr.sureAddr, loadVar, Sem.run_bind, Sem.run_pure, Result.andThen_ok, ht.agg, hag, if_true, ht.size, hls]
      · cases he
    · rename_i hag
      split at he
      · rename_i q hq
        cases he
        obtain ⟨u, hu, hdu⟩ := hd.get off q hq
        refine ⟨u, ?_, hdu.a.d, rfl⟩
        have hc : w.cell? ⟨b, off, none⟩ = some u := by rw [cell_of hw, ← Array.getElem?_toList]; exact hu
        simp only [Instr.loadAt, Instr.sureAddr, loadVar, Sem.run_bind, Sem.run_pure, Result.andThen_ok, ht.agg, hag, Bool.false_eq_true, if_false, run_load, hc]
      · cases he
  · cases he

theorem inR {k : IntKind} {e : Int} (h : InR k e) : k.wrap e = e := by
  cases k <;> first | exact h | exact IntWalk.i64_in _ h

theorem min_int (a b : Int) : (if b < a then b else a) = min a b := by omega
theorem max_int (a b : Int) : (if b > a then b else a) = max a b := by omega

theorem eqGuard_num (op : BinOp) (t : TypeId) (x y : Operand) (k k' : IntKind) (a b : Int) : (eqGuard op t x y (.int k a) (.int k' b)).run P w = .ok () w := by
  cases op <;> simp [eqGuard]
theorem eqGuard_bool (op : BinOp) (t : TypeId) (x y : Operand) (a b : Bool) : (eqGuard op t x y (.bool a) (.bool b)).run P w = .ok () w := by
  cases op <;> simp [eqGuard]
theorem eqGuard_slice (op : BinOp) (t : TypeId) (x y : Operand) (p q : Option Addr) (a b c d : Nat) : (eqGuard op t x y (.slice p a b) (.slice q c d)).run P w = .ok () w := by
  cases op <;> simp [eqGuard]

theorem eqGuard_ptr (op : BinOp) (t : TypeId) (x y : Operand) (a b : Option Addr) : (eqGuard op t x y (.pointer a) (.pointer b)).run P w = .ok () w := by
  cases op <;> simp [eqGuard]
theorem eqGuard_map (op : BinOp) (t : TypeId) (x y : Operand) (a b : Option Nat) : (eqGuard op t x y (.map a) (.map b)).run P w = .ok () w := by
  cases op <;> simp [eqGuard]

theorem bin_int {op : BinOp} {t : TypeId} {k : IntKind} {a b : Int} {u : Bool} {ps : List Prop} {s : SV} (he : binI op k a b u = some (ps, s)) (hp : ∀ q ∈ ps, q) :
    ∃ v, (binOp op t (.int k a) (.int k b)).run P w = .ok v w ∧ Den m s v := by
  cases op <;> simp only [binI] at he <;> first | (cases he; done) | skip
  case add =>
    cases u <;> simp only at he
    · cases he
      have h1 : InR k (a + b) := hp _ (by simp)
      exact ⟨.int k (a + b), by simp [binOp, Op.intArith, inR h1], rfl⟩
    · split at he
      · rename_i n hn; cases he
        obtain rfl := litO_eq hn
        exact ⟨.int k (k.wrap (a + b)), by simp [binOp, Op.intArith], rfl⟩
      · cases he
  case sub =>
    cases u <;> simp only at he
    · cases he
      have h1 : InR k (a - b) := hp _ (by simp)
      exact ⟨.int k (a - b), by simp [binOp, Op.intArith, inR h1], rfl⟩
    · split at he
      · rename_i n hn; cases he
        obtain rfl := litO_eq hn
        exact ⟨.int k (k.wrap (a - b)), by simp [binOp, Op.intArith], rfl⟩
      · cases he
  case mul =>
    cases u <;> simp only at he
    · cases he
      have h1 : InR k (a * b) := hp _ (by simp)
      exact ⟨.int k (a * b), by simp [binOp, Op.intArith, inR h1], rfl⟩
    · split at he
      · rename_i n hn; cases he
        obtain rfl := litO_eq hn
        exact ⟨.int k (k.wrap (a * b)), by simp [binOp, Op.intArith], rfl⟩
      · cases he
  case quo =>
    cases he
    have h1 : b ≠ 0 := hp _ (by simp)
    have h2 : InR k (a.tdiv b) := hp _ (by simp)
    exact ⟨.int k (a.tdiv b), by simp [binOp, Op.intDiv, h1, inR h2], rfl⟩
  case rem =>
    cases he
    have h1 : b ≠ 0 := hp _ (by simp)
    exact ⟨.int k (a.tmod b), by simp [binOp, Op.intDiv, h1], rfl⟩
  all_goals
    (cases u <;> simp only at he <;> cases he <;> refine ⟨_, by simp [binOp, Op.intCmp]; rfl, ?_⟩ <;> simp [Den, DenA, DenS] <;> rfl)

theorem ints_of {ss : List SV} {ns : List Int} {vs : Array Value} (h : toIs ss = some ns) (hd : All2 (DenS m) ss vs.toList) : vs = ints ns := by
  apply Array.ext'
  rw [toIs_den h hd]
  rfl

theorem nils_den {v : Value} (h : Den m .nils v) : v = .slice none 0 0 := h
theorem sl_den {v : Value} {a b c d : Nat} (h : Den m (.sl a b c d) v) : ∃ ad n k, v = .slice (some ad) n k := by
  obtain ⟨l, ad, c, e, hv, _⟩ := h; exact ⟨ad, _, c, hv⟩
theorem osl_den {v : Value} {b : Bool} {a c d : Nat} (h : Den m (.osl b a c d) v) : (b = true ∧ v = .slice none 0 0) ∨ (b = false ∧ ∃ ad n k, v = .slice (some ad) n k) := by
  cases b
  · obtain ⟨l, ad, c, e, hv, _⟩ := h.2 rfl; exact Or.inr ⟨rfl, ad, _, c, hv⟩
  · exact Or.inl ⟨rfl, (h.1 rfl).1⟩
end
end Go.Proofs.Ytkfaflhhkmkdjaa.Ev

namespace Go.Proofs.Ytkfaflhhkmkdjaa.Ev
open Go.RowKit
set_option linter.unusedVariables false
set_option linter.unusedSimpArgs false

section
variable {P : Program} {T : Tab} {m : Map} {w : World} {rd : Nat → Blk} {r : Res}

theorem eqInts_length : ∀ {as bs : List Int} {q : Bool}, eqInts as bs = some q → as.length = bs.length
  | [], [], q, h => rfl
  | [], _ :: _, q, h => by simp [eqInts] at h
  | _ :: _, [], q, h => by simp [eqInts] at h
  | a :: [], b :: [], q, h => rfl
  | a :: [], b :: _ :: _, q, h => by simp [eqInts] at h
  | a :: a' :: as, b :: bs, q, h => by
    simp only [eqInts] at h
    split at h
    · rename_i q' hq; simpa using eqInts_length hq
    · cases h

theorem equalIn_none (d : Nat) {t el : TypeId} (h : P.underlying t = some (.slice el)) (q : Option Addr) (n k n' k' : Nat) : (Op.equalIn (d + 1) t (.slice none n k) (.slice q n' k')).run P w = .ok q.isNone w := by
  simp [Op.equalIn, run_underlying h]
theorem equalIn_some (d : Nat) {t el : TypeId} (h : P.underlying t = some (.slice el)) (p : Addr) (n k n' k' : Nat) : (Op.equalIn (d + 1) t (.slice (some p) n k) (.slice none n' k')).run P w = .ok false w := by
  simp [Op.equalIn, run_underlying h]
theorem sound_bin {op : BinOp} {t : TypeId} {x y : SV} {u v : Value} {ps : List Prop} {s : SV} (xo yo : Operand) (hT : T.Ok P)
    (he : binS T op t x y = some (ps, s)) (hp : ∀ q ∈ ps, q) (hu : Den m x u) (hv : Den m y v) :
    ∃ z, (do eqGuard op t xo yo u v; binOp op t u v : Sem Value).run P w = .ok z w ∧ Den m s z := by
  unfold binS at he
  split at he
  · rename_i k a ua hx
    split at he
    · rename_i k' b ub hy
      split at he
      · rename_i hk
        have hk' : k = k' := of_decide_eq_true hk
        subst hk'
        obtain rfl := toN_den hx hu
        obtain rfl := toN_den hy hv
        split at he
        · rename_i hw
          cases he
          have hop : op = .add := by
            cases op <;> first | rfl | (simp only [wrOf] at hw; cases hw)
          subst hop
          have hz : (binOp .add t (.int k a) (.int k b)).run P w = .ok (.int k (k.wrap (a + b))) w := by simp [binOp, Op.intArith]
          exact ⟨_, by simp only [Sem.run_bind, eqGuard_num, Result.andThen_ok, hz], rfl⟩
        obtain ⟨z, hz, hd⟩ := bin_int (P := P) (m := m) (w := w) (t := t) he hp
        exact ⟨z, by simp only [Sem.run_bind, eqGuard_num, Result.andThen_ok, hz], hd⟩
      · cases he
    · cases he
  · split at he
    · cases he
    · rename_i e hop
      have hop' : (op = .eql ∧ e = true) ∨ (op = .neq ∧ e = false) := by
        cases op <;> simp only [isEq] at hop <;> first | (cases hop; done) | (cases hop; simp)
      have fin : ∀ (d : Bool), (∀ w, (eqGuard op t xo yo u v).run P w = .ok () w) → (∀ w, (binOp .eql t u v).run P w = .ok (.bool d) w) → (∀ w, (binOp .neq t u v).run P w = .ok (.bool (!d)) w) →
          (∀ z, z = .bool (bif e then d else !d) → Den m s z) → ∃ z, (do eqGuard op t xo yo u v; binOp op t u v : Sem Value).run P w = .ok z w ∧ Den m s z := by
        intro d h1 h2 h3 h4
        rcases hop' with ⟨rfl, rfl⟩ | ⟨rfl, rfl⟩
        · exact ⟨.bool d, by simp only [Sem.run_bind, h1, Result.andThen_ok, h2], h4 _ rfl⟩
        · exact ⟨.bool !d, by simp only [Sem.run_bind, h1, Result.andThen_ok, h3], h4 _ rfl⟩
      clear hop hop'
      split at he
      · cases he
      rename_i ti hti
      have hk := (hT t ti hti).kind
      split at he
      · rename_i el hel
        rw [hel] at hk
        have ht : P.underlying t = some (.slice el) := hk
        have sl : ∀ (d : Bool) (p q : Option Addr) (n k n' k' : Nat), u = .slice p n k → v = .slice q n' k' → (p = none → d = q.isNone) → (p ≠ none → q = none ∧ d = false) →
            (∀ z, z = .bool (bif e then d else !d) → Den m s z) → ∃ z, (do eqGuard op t xo yo u v; binOp op t u v : Sem Value).run P w = .ok z w ∧ Den m s z := by
          intro d p q n k n' k' e1 e2 h1 h2 h4
          subst e1; subst e2
          have hq : ∀ w, (Op.equal t (.slice p n k) (.slice q n' k')).run P w = .ok d w := by
            intro w
            cases p with
            | none => rw [h1 rfl]; exact equalIn_none 9999 ht _ _ _ _ _
            | some p => obtain ⟨rfl, rfl⟩ := h2 (by simp); exact equalIn_some 9999 ht _ _ _ _ _
          refine fin d (fun w => eqGuard_slice _ _ _ _ _ _ _ _ _ _) (fun w => ?_) (fun w => ?_) h4
          · simp [binOp, hq]
          · simp [binOp, hq]
        clear fin
        unfold eqSl at he
        split at he
        · cases he
          obtain rfl := nils_den hu
          obtain rfl := nils_den hv
          exact sl true none none 0 0 0 0 rfl rfl (fun _ => rfl) (fun h => absurd rfl h) (fun z hz => by rw [hz]; cases e <;> rfl)
        · cases he
          obtain ⟨ad, n, k, rfl⟩ := sl_den hu
          obtain rfl := nils_den hv
          exact sl false (some ad) none n k 0 0 rfl rfl (fun h => by cases h) (fun _ => ⟨rfl, rfl⟩) (fun z hz => by rw [hz]; cases e <;> rfl)
        · cases he
          obtain ⟨ad, n, k, rfl⟩ := sl_den hv
          obtain rfl := nils_den hu
          exact sl false none (some ad) 0 0 n k rfl rfl (fun h => rfl) (fun h => absurd rfl h) (fun z hz => by rw [hz]; cases e <;> rfl)
        · rename_i b _ _ _ _
          obtain rfl := nils_den hv
          have h5 : ∀ z, z = Value.bool (bif e then b else !b) → Den m s z := by
            intro z hz
            cases e <;> simp only at he <;> cases he <;> rw [hz] <;> rfl
          rcases osl_den hu with ⟨rfl, rfl⟩ | ⟨rfl, ad, n, k, rfl⟩
          · exact sl true none none 0 0 0 0 rfl rfl (fun _ => rfl) (fun h => absurd rfl h) h5
          · exact sl false (some ad) none n k 0 0 rfl rfl (fun h => by cases h) (fun _ => ⟨rfl, rfl⟩) h5
        · rename_i b _ _ _ _
          obtain rfl := nils_den hu
          have h5 : ∀ z, z = Value.bool (bif e then b else !b) → Den m s z := by
            intro z hz
            cases e <;> simp only at he <;> cases he <;> rw [hz] <;> rfl
          rcases osl_den hv with ⟨rfl, rfl⟩ | ⟨rfl, ad, n, k, rfl⟩
          · exact sl true none none 0 0 0 0 rfl rfl (fun _ => rfl) (fun h => absurd rfl h) h5
          · exact sl false none (some ad) 0 0 n k rfl rfl (fun h => rfl) (fun h => absurd rfl h) h5
        · cases he
      · rename_i hkb
        rw [hkb] at hk
        have ht : P.underlying t = some .bool := hk
        unfold eqBool at he
        split at he
        rotate_left
        · cases he
        rename_i a ha
        split at he
        rotate_left
        · cases he
        rename_i b hb
        obtain rfl := toB_den ha hu
        obtain rfl := toB_den hb hv
        refine fin (a == b) (fun w => eqGuard_bool _ _ _ _ _ _) (fun w => run_eql_bool w t a b ht) (fun w => run_neq_bool w t a b ht) (fun z hz => ?_)
        cases e <;> simp only at he <;> cases he <;> rw [hz] <;> rfl
      · unfold eqAgg at he
        split at he
        rotate_left
        · cases he
        rename_i cs ds
        split at he
        rotate_left
        · cases he
        rename_i hlen
        simp only [Bool.and_eq_true] at hlen
        split at he
        rotate_left
        · cases he
        rename_i as has
        split at he
        rotate_left
        · cases he
        rename_i bs hbs
        split at he
        rotate_left
        · cases he
        rename_i d hd
        obtain ⟨us, rfl, hus⟩ := hu
        obtain ⟨vs, rfl, hvs⟩ := hv
        obtain ⟨hg, hq⟩ := (hT t ti hti).flat hlen.1.1
        have hq' := fun w => hq as bs d w (by rw [toIs_length has, lenIs_eq hlen.1.2]) (by rw [toIs_length hbs, lenIs_eq hlen.2]) hd
        rw [← ints_of has hus, ← ints_of hbs hvs] at hq'
        refine fin d (fun w => run_eqGuard_agg w _ _ _ _ _ _ hg) (fun w => ?_) (fun w => ?_) (fun z hz => ?_)
        · simp [binOp, hq']
        · simp [binOp, hq']
        · cases e <;> simp only at he <;> cases he <;> rw [hz] <;> rfl

theorem sound_pick {c a b : SV} {vc va vb : Value} (he : effPick c a b = some r) (hp : ∀ q ∈ r.pre, q) (hc : Den m c vc) (ha : Den m a va) (hb : Den m b vb) :
    ∃ z, (do pure (.value (if ← asBool vc then va else vb)) : Sem Next).run P w = .ok (.value z) w ∧ Den m r.val z ∧ r.wr = [] := by
  unfold effPick at he
  split at he
  · cases he; obtain rfl : vc = .bool true := hc; exact ⟨va, by simp [asBool], ha, rfl⟩
  · cases he; obtain rfl : vc = .bool false := hc; exact ⟨vb, by simp [asBool], hb, rfl⟩
  · rename_i p
    split at he
    · rename_i x hx
      split at he
      · rename_i y hy
        cases he
        obtain rfl := toB_den hx ha
        obtain rfl := toB_den hy hb
        obtain rfl : vc = .bool p := hc
        refine ⟨.bool (bif p then x else y), ?_, rfl, rfl⟩
        cases p <;> simp [asBool]
      · cases he
        obtain rfl : p = true := hp _ (List.mem_singleton.2 rfl)
        obtain rfl : vc = .bool true := hc
        exact ⟨va, by simp [asBool], ha, rfl⟩
    · cases he
      obtain rfl : p = false := hp _ (List.mem_singleton.2 rfl)
      obtain rfl : vc = .bool false := hc
      exact ⟨vb, by simp [asBool], hb, rfl⟩
  · cases he

theorem sound_nil {x : SV} {v : Value} (he : effNil x = some r) (hp : ∀ q ∈ r.pre, q) (hx : Den m x v) : (∃ ad, v = .pointer (some ad)) ∧ Den m r.val v ∧ r.wr = [] := by
  unfold effNil at he
  split at he
  · cases he; obtain ⟨l, e, rfl⟩ := hx; exact ⟨⟨_, rfl⟩, ⟨l, e, rfl⟩, rfl⟩
  · cases he; obtain ⟨l, e, rfl⟩ := hx; exact ⟨⟨_, rfl⟩, ⟨l, e, rfl⟩, rfl⟩
  · rename_i s k p o
    cases he
    have h1 : 0 < p := hp _ (by simp)
    obtain ⟨i, rfl⟩ : ∃ i, p = i + 1 := ⟨p - 1, by omega⟩
    obtain ⟨b, e, rfl⟩ := id (hx.2 i rfl)
    exact ⟨⟨_, rfl⟩, hx, rfl⟩
  · cases he

theorem equalIn_nilr (d : Nat) {t el : TypeId} (h : P.underlying t = some (.pointer el)) (a : Option Addr) : (Op.equalIn (d + 1) t (.pointer a) (.pointer none)).run P w = .ok a.isNone w := by
  cases a <;> simp [Op.equalIn, run_underlying h]
theorem equalIn_nill (d : Nat) {t el : TypeId} (h : P.underlying t = some (.pointer el)) (a : Option Addr) : (Op.equalIn (d + 1) t (.pointer none) (.pointer a)).run P w = .ok a.isNone w := by
  cases a <;> simp [Op.equalIn, run_underlying h]
theorem equalIn_same (d : Nat) {t el : TypeId} {i : TypeInfo} (h : P.underlying t = some (.pointer el)) (hi : P.info? el = some i) (hs : i.size ≠ 0) (a : Addr) : (Op.equalIn (d + 1) t (.pointer (some a)) (.pointer (some a))).run P w = .ok true w := by
  simp [Op.equalIn, run_underlying h, sizeOf, typeInfo, hi, hs, run_sameAddr_same]
theorem equalIn_other (d : Nat) {t el : TypeId} {i : TypeInfo} (h : P.underlying t = some (.pointer el)) (hi : P.info? el = some i) (hs : i.size ≠ 0) {a b : Addr} (hn : (sameAddr a b).run P w = .ok false w) : (Op.equalIn (d + 1) t (.pointer (some a)) (.pointer (some b))).run P w = .ok false w := by
  simp [Op.equalIn, run_underlying h, sizeOf, typeInfo, hi, hs, hn]
theorem equalIn_mapnil (d : Nat) {t k e : TypeId} (h : P.underlying t = some (.map k e)) (a : Option Nat) : (Op.equalIn (d + 1) t (.map a) (.map none)).run P w = .ok a.isNone w := by
  cases a <;> simp [Op.equalIn, run_underlying h]
theorem eqAns_val {e d : Bool} {ps : List Prop} {s : SV} (h : eqAns e d = some (ps, s)) : ps = [] ∧ s = .bool (bif e then d else !d) := by
  cases e <;> (cases h; exact ⟨rfl, rfl⟩)
theorem sound_bin2 {op : BinOp} {t : TypeId} {x y : SV} {u v : Value} (xo yo : Operand) (hT : T.Ok P)
    (he : effBin T rd op t x y = some r) (hp : ∀ q ∈ r.pre, q) (hB : ∀ id, BlkH m id w (rd id)) (hu : Den m x u) (hv : Den m y v) :
    Yields P m (do eqGuard op t xo yo u v; binOp op t u v : Sem Value) w r := by
  have fin : ∀ (e d : Bool), isEq op = some e → (eqGuard op t xo yo u v).run P w = .ok () w → (Op.equal t u v).run P w = .ok d w → (∀ c : IntKind, ∀ n, u ≠ .int c n) → (∀ c n, u ≠ .float c n) → (binOp .eql t u v).run P w = .ok (.bool d) w → (binOp .neq t u v).run P w = .ok (.bool !d) w →
      (do eqGuard op t xo yo u v; binOp op t u v : Sem Value).run P w = .ok (.bool (bif e then d else !d)) w := fun e d ho h1 h2 _ _ h3 h4 => by
    cases op <;> simp only [isEq] at ho <;> first | (cases ho; done) | (cases ho; simp only [Sem.run_bind, h1, Result.andThen_ok, h3, h4, cond_true, cond_false])
  unfold effBin at he
  split at he
  · rename_i s k p o
    split at he
    rotate_left
    · cases he
    rename_i e ho
    split at he
    rotate_left
    · cases he
    rename_i el _ _ _ _ _ _ _ hti
    obtain ⟨hk, i, hi, hsz⟩ := (hT t _ hti).kind
    split at he
    rotate_left
    · cases he
    split at he
    rotate_left
    · cases he
    rename_i ps z hz
    cases he
    have ptrs : ∀ (a b : Option Addr) (d : Bool), u = .pointer a → v = .pointer b → (Op.equal t (.pointer a) (.pointer b)).run P w = .ok d w → z = .bool (bif e then d else !d) → Yields P m (do eqGuard op t xo yo u v; binOp op t u v : Sem Value) w ⟨ps, z, []⟩ := fun a b d e1 e2 h3 h4 => by
      subst e1; subst e2
      refine ⟨_, fin e d ho (eqGuard_ptr _ _ _ _ _ _) h3 (fun _ _ h => by cases h) (fun _ _ h => by cases h) (by simp [binOp, h3]) (by simp [binOp, h3]), ?_, rfl⟩
      rw [h4]; exact rfl
    have nilr : ∀ (a : Option Addr), (Op.equal t (.pointer a) (.pointer none)).run P w = .ok a.isNone w := fun a => equalIn_nilr 9999 hk a
    have nill : ∀ (a : Option Addr), (Op.equal t (.pointer none) (.pointer a)).run P w = .ok a.isNone w := fun a => equalIn_nill 9999 hk a
    unfold eqPtr at hz
    split at hz
    · rename_i s' k' q o'
      split at hz
      rotate_left
      · cases hz
      split at hz
      rotate_left
      · cases hz
      rename_i hkk
      obtain rfl := Nat.eq_of_beq_eq_true hkk
      split at hz
      rotate_left
      · cases hz
      rename_i H hH
      have hS := hB s
      rw [hH] at hS
      obtain ⟨_, hS⟩ := hS
      obtain ⟨nd, tr, mp⟩ := H
      dsimp only at hz
      have both : (∀ i b, m.g k i = some b → ∃ ca ta, w.heap[b]? = some (.cells ca ta (0, 0))) → z = .bool (bif e then decide (p = q) else !decide (p = q)) → Yields P m (do eqGuard op t xo yo u v; binOp op t u v : Sem Value) w ⟨ps, z, []⟩ := fun hc hz2 => by
        cases p with
        | zero =>
          have hu0 := hu.1 rfl
          cases q with
          | zero => exact ptrs none none true hu0 (hv.1 rfl) (nilr none) hz2
          | succ j =>
            obtain ⟨b, _, hv1⟩ := hv.2 j rfl
            exact ptrs none _ false hu0 hv1 (nill _) (by rw [hz2]; simp)
        | succ i =>
          obtain ⟨b, hb1, hu1⟩ := hu.2 i rfl
          cases q with
          | zero => exact ptrs _ none false hu1 (hv.1 rfl) (nilr _) (by rw [hz2]; simp)
          | succ j =>
            obtain ⟨b', hb2, hv1⟩ := hv.2 j rfl
            obtain ⟨ca, ta, h1⟩ := hc i b hb1
            obtain ⟨cb, tb, h2⟩ := hc j b' hb2
            by_cases hij : i = j
            · subst hij
              obtain rfl : b = b' := Option.some.inj (hb1.symm.trans hb2)
              exact ptrs _ _ true hu1 hv1 (equalIn_same 9999 hk hi hsz _) (by rw [hz2]; simp)
            · have hbb : b ≠ b' := fun e => hij (m.inj _ _ _ _ b hb1 (e ▸ hb2)).2
              exact ptrs _ _ false hu1 hv1 (equalIn_other 9999 hk hi hsz (run_sameAddr_other (P := P) w (a := ⟨b, 0, none⟩) (b := ⟨b', 0, none⟩) (fun e => hbb (by cases e; rfl)) h1 h2)) (by rw [hz2]; simp [hij])
      split at hz
      · split at hz
        rotate_left
        · cases hz
        rename_i h; cases hz
        refine both (fun i b hb => ?_) (eqAns_val h).2
        rcases hS.dom _ _ _ hb with ⟨_, h⟩ | ⟨h, _⟩ | ⟨h, _⟩
        · obtain ⟨b', vs, ty, e1, e2, _⟩ := hS.nd i _ (List.getElem?_eq_getElem h)
          obtain rfl : b' = b := Option.some.inj (e1.symm.trans hb)
          exact ⟨_, _, e2⟩
        · cases h
        · cases h
      · split at hz
        rotate_left
        · cases hz
        rename_i h; cases hz
        refine both (fun i b hb => ?_) (eqAns_val h).2
        rcases hS.dom _ _ _ hb with ⟨h, _⟩ | ⟨_, h⟩ | ⟨h, _⟩
        · cases h
        · obtain ⟨b', vs, ty, e1, e2, _⟩ := hS.tr i _ (List.getElem?_eq_getElem h)
          obtain rfl : b' = b := Option.some.inj (e1.symm.trans hb)
          exact ⟨_, _, e2⟩
        · cases h
      · cases hz
    · split at hz
      rotate_left
      · cases hz
      split at hz
      rotate_left
      · cases hz
      have hv0 : v = .pointer none := hv
      cases p with
      | zero => exact ptrs none none true (hu.1 rfl) hv0 (nilr none) (eqAns_val hz).2
      | succ i =>
        obtain ⟨b, _, hu1⟩ := hu.2 i rfl
        exact ptrs _ none false hu1 hv0 (nilr _) (eqAns_val hz).2
    · cases hz
  · rename_i s p
    split at he
    rotate_left
    · cases he
    rename_i e ho
    split at he
    rotate_left
    · cases he
    rename_i kt el _ _ _ _ _ _ _ hti
    obtain ⟨hk, _⟩ := (hT t _ hti).kind
    split at he
    rotate_left
    · cases he
    rename_i ps z hz
    cases he
    unfold eqMap at hz
    split at hz
    rotate_left
    · cases hz
    split at hz
    rotate_left
    · cases hz
    split at hz
    rotate_left
    · cases hz
    have hv0 : v = .map none := hv
    have maps : ∀ (a : Option Nat), u = .map a → z = .bool (bif e then a.isNone else !a.isNone) → Yields P m (do eqGuard op t xo yo u v; binOp op t u v : Sem Value) w ⟨ps, z, []⟩ := fun a e1 h4 => by
      subst e1; subst hv0
      have h3 : (Op.equal t (.map a) (.map none)).run P w = .ok a.isNone w := equalIn_mapnil 9999 hk a
      refine ⟨_, fin e a.isNone ho (eqGuard_map _ _ _ _ _ _) h3 (fun _ _ h => by cases h) (fun _ _ h => by cases h) (by simp [binOp, h3]) (by simp [binOp, h3]), ?_, rfl⟩
      rw [h4]; exact rfl
    cases p with
    | zero => exact maps none (hu.1 rfl) (eqAns_val hz).2
    | succ i =>
      obtain ⟨b, _, hu1⟩ := hu.2 i rfl
      exact maps (some b) hu1 (eqAns_val hz).2
  · split at he
    · rename_i ps s hb
      cases he
      obtain ⟨z, h1, h2⟩ := sound_bin (w := w) xo yo hT hb hp hu hv
      exact ⟨z, h1, h2, rfl⟩
    · cases he

theorem sound_un {op : UnOp} {x : SV} {v : Value} (he : effUn op x = some r) (hp : ∀ q ∈ r.pre, q) (hx : Den m x v) : Yields P m (Op.unary op v) w r := by
  unfold effUn at he
  split at he
  · split at he
    · rename_i b; cases he; obtain rfl : v = .bool b := hx; exact ⟨.bool !b, by simp [Op.unary], rfl, rfl⟩
    · rename_i b; cases he; obtain rfl : v = .bool b := hx; exact ⟨.bool !b, by simp [Op.unary], rfl, rfl⟩
    · cases he
  · split at he
    · rename_i k n
      obtain rfl : v = .int k n := hx
      split at he
      · rename_i z hz; cases he
        obtain rfl := litO_eq hz
        exact ⟨.int k (k.wrap (0 - n)), by simp [Op.unary, Op.intArith], rfl, rfl⟩
      · cases he
    · rename_i k n
      cases he
      obtain rfl : v = .int k n := hx
      have h1 : InR k (-n) := hp _ (by simp)
      exact ⟨.int k (-n), by simp [Op.unary, Op.intArith, inR h1], rfl, rfl⟩
    · cases he
  · cases he

theorem sound_conv {s d : TypeId} {x : SV} {v : Value} (hT : T.Ok P) (he : effConv T s d x = some r) (hp : ∀ q ∈ r.pre, q) (hx : Den m x v) : Yields P m (convert s d v) w r := by
  unfold effConv at he
  split at he
  rotate_left
  · cases he
  rename_i si hsi
  obtain ⟨ds, hds⟩ := (hT s si hsi).under
  split at he
  rotate_left
  · cases he
  rename_i k _ _ _ _ _ _ _ hdi
  have hk := (hT d _ hdi).kind
  simp only [KindOk] at hk
  have hrun : ∀ k' n, (convert s d (.int k' n)).run P w = .ok (.int k (k.wrap n)) w := fun k' n => by
    simp [convert, run_underlying hds, run_underlying hk, Conv.intToInt]
  split at he
  · rename_i k' n
    obtain rfl : v = .int k' n := hx
    split at he
    · rename_i z hz; cases he
      obtain rfl := litO_eq hz
      exact ⟨_, hrun _ _, rfl, rfl⟩
    · cases he
  · rename_i k' n
    cases he
    obtain rfl : v = .int k' n := hx
    have h1 : InR k n := hp _ (by simp)
    exact ⟨_, hrun _ _, by rw [inR h1]; rfl, rfl⟩
  · cases he

theorem fields_get {fields : Array Field} {fs : List (Nat × TypeId)} (h : fields.toList.map (fun f => (f.offset, f.type)) = fs) {i off : Nat} {t : TypeId} (hi : fs[i]? = some (off, t)) :
    ∃ f, fields[i]? = some f ∧ f.offset = off ∧ f.type = t := by
  subst h
  rw [List.getElem?_map, Array.getElem?_toList] at hi
  cases hf : fields[i]? with
  | none => rw [hf] at hi; cases hi
  | some f => rw [hf] at hi; cases hi; exact ⟨f, rfl, rfl, rfl⟩

theorem sound_fieldAddr {t : TypeId} {f : Nat} {p : SV} {v : Value} (hT : T.Ok P) (he : effFieldAddr T t f p = some r) (hp : ∀ q ∈ r.pre, q) (hv : Den m p v) : Yields P m (Instr.fieldAt t v f) w r := by
  unfold effFieldAddr at he
  split at he
  rotate_left
  · cases he
  rename_i fs _ _ _ _ _ _ _ hti
  split at he
  rotate_left
  · cases he
  rename_i off ft hf
  split at he
  rotate_left
  · cases he
  rename_i fi hfi
  split at he
  rotate_left
  · cases he
  rename_i hpos
  have hpos' := Nat.le_of_ble_eq_true hpos
  have hk := (hT t _ hti).kind
  obtain ⟨fields, hu, hfs, _⟩ := hk
  obtain ⟨fd, hfd, rfl, rfl⟩ := fields_get hfs hf
  have hsz := (hT _ fi hfi).size (w := w)
  have hrun : ∀ g o, (Instr.fieldAt t (.pointer (some ⟨g, o, none⟩)) f).run P w = .ok (.pointer (some ⟨g, o + fd.offset, none⟩)) w := fun g o => by
    have hne : ¬ fi.size = 0 := by omega
    simp [Instr.fieldAt, run_underlying hu, hfd, Instr.sureAddr, fieldPlace, hsz, hne, add_off]
  split at he
  · rename_i id o
    split at he
    · rename_i o' ho; cases he
      obtain rfl := normN_eq ho
      obtain ⟨l, e, rfl⟩ := hv
      exact ⟨_, hrun _ _, ⟨l, e, by rw [Nat.add_assoc]⟩, rfl⟩
    · cases he
  · rename_i id esz i j
    split at he
    · rename_i o' ho; cases he
      obtain rfl := normN_eq ho
      obtain ⟨l, e, rfl⟩ := hv
      exact ⟨_, hrun _ _, ⟨l, e, by rw [Nat.add_assoc, Nat.add_assoc]⟩, rfl⟩
    · cases he
  · rename_i s k q o
    split at he
    · rename_i o' ho; cases he
      obtain rfl := normN_eq ho
      have h1 : 0 < q := hp _ (by simp)
      obtain ⟨i, rfl⟩ : ∃ i, q = i + 1 := ⟨q - 1, by omega⟩
      obtain ⟨b, e, rfl⟩ := hv.2 i rfl
      exact ⟨_, hrun _ _, ⟨fun h => by omega, fun j hj => by obtain rfl : i = j := by omega
                                                             exact ⟨b, e, rfl⟩⟩, rfl⟩
    · cases he
  · cases he

/-- A part of an aggregate. -/
theorem part_of {t : TypeId} {ti : TI} (h : ti.Ok P t) {cs : List SV} {vs : Array Value} (hd : All2 (DenS m) cs vs.toList) {off : Nat} :
    (isAggK ti.k = true → ∀ l, takeN cs off ti.size = some l → ∃ z, (part t vs off).run P w = .ok z w ∧ Den m (.agg l) z) ∧
    (isAggK ti.k = false → ∀ s, cs[off]? = some s → ∃ z, (part t vs off).run P w = .ok z w ∧ Den m s z) := by
  constructor
  · intro hag l hl
    obtain ⟨rfl, hle⟩ := takeN_eq hl
    refine ⟨.agg (vs.extract off (off + ti.size)), by simp [part, h.agg, hag, h.size], ⟨_, rfl, ?_⟩⟩
    have : (vs.extract off (off + ti.size)).toList = (vs.toList.drop off).take ti.size := by
      rw [Array.toList_extract, List.extract_eq_take_drop, Nat.add_sub_cancel_left]
    rw [this]
    exact (hd.drop off).take ti.size
  · intro hag s hs
    obtain ⟨z, hz, hdz⟩ := hd.get off s hs
    rw [Array.getElem?_toList] at hz
    exact ⟨z, by simp [part, h.agg, hag, hz], hdz.a.d⟩

theorem sound_field {t : TypeId} {f : Nat} {x : SV} {v : Value} (hT : T.Ok P) (he : effField T t f x = some r) (hv : Den m x v) : Yields P m (Instr.field t v f) w r := by
  unfold effField at he
  split at he
  rotate_left
  · cases he
  rename_i fs _ _ _ _ _ _ _ hti
  split at he
  rotate_left
  · cases he
  rename_i off ft hf
  split at he
  rotate_left
  · cases he
  rename_i fi hfi
  split at he
  rotate_left
  · cases he
  rename_i cs
  have hk := (hT t _ hti).kind
  obtain ⟨fields, hu, hfs, _⟩ := hk
  obtain ⟨fd, hfd, rfl, rfl⟩ := fields_get hfs hf
  obtain ⟨vs, rfl, hd⟩ := hv
  obtain ⟨h1, h2⟩ := part_of (w := w) (hT _ fi hfi) hd (off := fd.offset)
  split at he
  · rename_i hag
    split at he
    · rename_i l hl; cases he
      obtain ⟨z, hz, hdz⟩ := h1 hag l hl
      exact ⟨z, by simp [Instr.field, run_underlying hu, hfd, asAgg, hz], hdz, rfl⟩
    · cases he
  · rename_i hag
    split at he
    · rename_i s hs; cases he
      obtain ⟨z, hz, hdz⟩ := h2 hag s hs
      exact ⟨z, by simp [Instr.field, run_underlying hu, hfd, asAgg, hz], hdz, rfl⟩
    · cases he

theorem litN_eq {n : Int} {k : Nat} (h : litN n = some k) : n = k := by
  cases n <;> simp only [litN] at h <;> cases h; rfl

theorem sound_index {t : TypeId} {x ix : SV} {v z : Value} (hT : T.Ok P) (he : effIndex T t x ix = some r) (hv : Den m x v) (hz : Den m ix z) : Yields P m (Instr.index t v z) w r := by
  unfold effIndex at he
  split at he
  rotate_left
  · cases he
  rename_i n e _ _ _ _ _ _ _ hti
  split at he
  rotate_left
  · cases he
  rename_i ei hei
  split at he
  rotate_left
  · cases he
  rename_i cs
  split at he
  rotate_left
  · cases he
  rename_i kk i
  split at he
  rotate_left
  · cases he
  rename_i k hk
  obtain rfl := litN_eq hk
  split at he
  rotate_left
  · cases he
  rename_i hlt
  have hlt' : k < n := Nat.le_of_ble_eq_true hlt
  have hu := (hT t _ hti).kind
  simp only [KindOk] at hu
  obtain ⟨vs, rfl, hd⟩ := hv
  obtain rfl : z = .int kk k := hz
  obtain ⟨h1, h2⟩ := part_of (w := w) (hT _ ei hei) hd (off := k * ei.size)
  have hsz := (hT _ ei hei).size (w := w)
  split at he
  · rename_i hag
    split at he
    · rename_i l hl; cases he
      obtain ⟨z, hz, hdz⟩ := h1 hag l hl
      exact ⟨z, by simp [Instr.index, asIntOf, run_underlying hu, hlt', hsz, hz], hdz, rfl⟩
    · cases he
  · rename_i hag
    split at he
    · rename_i s hs; cases he
      obtain ⟨z, hz, hdz⟩ := h2 hag s hs
      exact ⟨z, by simp [Instr.index, asIntOf, run_underlying hu, hlt', hsz, hz], hdz, rfl⟩
    · cases he

theorem sound_extract {i : Nat} {x : SV} {v : Value} (he : effExtract i x = some r) (hv : Den m x v) : Yields P m (Instr.extract v i) w r := by
  unfold effExtract at he
  split at he
  rotate_left
  · cases he
  rename_i ss
  split at he
  rotate_left
  · cases he
  rename_i s hs
  cases he
  obtain ⟨vs, rfl, hd⟩ := hv
  obtain ⟨z, hz, hdz⟩ := hd.get i s hs
  rw [Array.getElem?_toList] at hz
  exact ⟨z, by simp [Instr.extract, hz], hdz.d, rfl⟩
end
end Go.Proofs.Ytkfaflhhkmkdjaa.Ev

namespace Go.Proofs.Ytkfaflhhkmkdjaa.Ev
open Go.RowKit
set_option linter.unusedVariables false
set_option linter.unusedSimpArgs false

section
variable {P : Program} {T : Tab} {m : Map} {w : World} {rd : Nat → Blk} {r : Res}

def PartDen (m : Map) (x : Nat × SV) (y : Nat × Value) : Prop := x.1 = y.1 ∧ Den m x.2 y.2

theorem zips_den {a : Act} : ∀ {ps : List (Nat × Operand)} {vs : List SV} {l : List (Nat × SV)}, zips ps vs = some l → All2 (Den m) vs (ps.map fun x => a.eval x.2) →
    All2 (PartDen m) l (ps.map fun x => (x.1, a.eval x.2))
  | [], [], l, h, _ => by simp only [zips] at h; cases h; trivial
  | (i, x) :: r, v :: vs, l, h, ⟨h1, h2⟩ => by
    simp only [zips] at h
    split at h
    · rename_i l' hl; cases h
      exact ⟨⟨rfl, h1⟩, zips_den hl h2⟩
    · cases h
  | _ :: _, [], l, h, _ => by simp [zips] at h
  | [], _ :: _, l, h, _ => by simp [zips] at h

theorem over_den {cs vs : List SV} {r : List SV} {off : Nat} {cells : Array Value} {us : Array Value} (h : overlay cs off vs = some r) (hc : All2 (DenS m) cs cells.toList) (hv : All2 (DenS m) vs us.toList) :
    off + us.size ≤ cells.size ∧ All2 (DenS m) r (us.zipIdx.foldl (fun cs (x : Value × Nat) => cs.setIfInBounds (off + x.2) x.1) cells).toList := by
  obtain ⟨h1, h2, h3⟩ := overlay_eq h
  have e1 := hc.length
  have e2 := hv.length
  simp only [Array.length_toList] at e1 e2
  refine ⟨by omega, ?_⟩
  have key : (us.zipIdx.foldl (fun cs (x : Value × Nat) => cs.setIfInBounds (off + x.2) x.1) cells).toList = cells.toList.take off ++ us.toList ++ cells.toList.drop (off + us.size) := by
    obtain ⟨g1, g2⟩ := Great.foldl_set off us.toList 0 cells
    rw [← Array.foldl_toList, Array.toList_zipIdx]
    apply List.ext_getElem?
    intro k
    rw [Array.getElem?_toList, g2 k]
    simp only [Nat.add_zero, Array.length_toList]
    by_cases hA : off ≤ k ∧ k < off + us.size ∧ k < cells.size
    · rw [if_pos hA, List.append_assoc, List.getElem?_append_right (by simp; omega), List.getElem?_append_left (by simp; omega)]
      congr 1; simp; omega
    · rw [if_neg hA]
      by_cases hB : k < off
      · rw [List.append_assoc, List.getElem?_append_left (by simp; omega), List.getElem?_take_of_lt hB, Array.getElem?_toList]
      · rw [List.getElem?_append_right (by simp; omega), List.getElem?_drop, Array.getElem?_toList]
        congr 1; simp; omega
  rw [key, h3]
  refine ((hc.take off).append hv).append ?_
  rw [e2]
  exact hc.drop _

theorem fill_cons {place : Nat → Option (Nat × Nat)} {i off size : Nat} {v : Value} {cells : Array Value} {rest : List (Nat × Value)} (hp : place i = some (off, size)) (h1 : v.cells.size = size) (h2 : off + size ≤ cells.size) :
    Instr.fill place cells ((i, v) :: rest) = Instr.fill place (v.cells.zipIdx.foldl (fun cs (x : Value × Nat) => cs.setIfInBounds (off + x.2) x.1) cells) rest := by
  simp only [Instr.fill, hp]
  rw [if_neg (by simp [h1]; omega)]

theorem layA_den {size : Nat} {place : Nat → Option (Nat × Nat)} (hpl : ∀ i, place i = some (i * size, size)) : ∀ {l : List (Nat × SV)} {cs cs' : List SV} {parts : List (Nat × Value)} {cells : Array Value},
    layA size l cs = some cs' → All2 (PartDen m) l parts → All2 (DenS m) cs cells.toList → ∃ cells', Instr.fill place cells parts = some cells' ∧ All2 (DenS m) cs' cells'.toList
  | [], cs, cs', [], cells, h, _, hc => by simp only [layA] at h; cases h; exact ⟨cells, rfl, hc⟩
  | (i, s) :: l, cs, cs', (j, v) :: parts, cells, h, ⟨⟨h1, h2⟩, h3⟩, hc => by
    simp only at h1; subst h1
    simp only [layA] at h
    split at h
    rotate_left
    · cases h
    rename_i vs hvs
    split at h
    rotate_left
    · cases h
    rename_i hlen
    split at h
    rotate_left
    · cases h
    rename_i cs1 hov
    have hd := cellsOf_den hvs h2
    obtain ⟨o1, o2⟩ := over_den hov hc hd
    have e2 := hd.length
    have e3 := lenIs_eq hlen
    simp only [Array.length_toList] at e2
    have o1' : i * size + v.cells.size ≤ cells.size := o1
    have e2' : vs.length = v.cells.size := e2
    rw [fill_cons (hpl i) (by omega) (by omega)]
    exact layA_den hpl h h3 o2

theorem layS_den (hT : T.Ok P) {fields : Array Field} {fs : List (Nat × TypeId)} (hfs : fields.toList.map (fun f => (f.offset, f.type)) = fs) {places : List (Nat × Nat)} (hplc : fields.toList.mapM (fun f => (P.info? f.type).map fun i => (f.offset, i.size)) = some places)
    : ∀ {l : List (Nat × SV)} {cs cs' : List SV} {parts : List (Nat × Value)} {cells : Array Value},
    layS T fs l cs = some cs' → All2 (PartDen m) l parts → All2 (DenS m) cs cells.toList → ∃ cells', Instr.fill (places.toArray[·]?) cells parts = some cells' ∧ All2 (DenS m) cs' cells'.toList
  | [], cs, cs', [], cells, h, _, hc => by simp only [layS] at h; cases h; exact ⟨cells, rfl, hc⟩
  | (i, s) :: l, cs, cs', (j, v) :: parts, cells, h, ⟨⟨h1, h2⟩, h3⟩, hc => by
    simp only at h1; subst h1
    simp only [layS] at h
    split at h
    rotate_left
    · cases h
    rename_i off t hi
    split at h
    rotate_left
    · cases h
    rename_i ti hti
    split at h
    rotate_left
    · cases h
    rename_i vs hvs
    split at h
    rotate_left
    · cases h
    rename_i hlen
    split at h
    rotate_left
    · cases h
    rename_i cs1 hov
    have hd := cellsOf_den hvs h2
    obtain ⟨o1, o2⟩ := over_den hov hc hd
    have e2 := hd.length
    have e3 := lenIs_eq hlen
    simp only [Array.length_toList] at e2
    obtain ⟨f, hf, rfl, rfl⟩ := fields_get hfs hi
    obtain ⟨ii, zv, hinfo, hsz, _⟩ := (hT _ ti hti).info
    have hpi : places[i]? = some (f.offset, ti.size) := by
      have := mapM_get hplc i f (by rw [Array.getElem?_toList]; exact hf)
      obtain ⟨y, hy1, hy2⟩ := this
      rw [hinfo] at hy2
      simp only [Option.map_some, Option.some.injEq] at hy2
      rw [hy1, ← hy2, hsz]
    have o1' : f.offset + v.cells.size ≤ cells.size := o1
    have e2' : vs.length = v.cells.size := e2
    rw [fill_cons (by simpa using hpi) (by omega) (by omega)]
    exact layS_den hT hfs hplc h h3 o2
 where
  mapM_get {f : Field → Option (Nat × Nat)} : ∀ {fl : List Field} {pl : List (Nat × Nat)}, fl.mapM f = some pl → ∀ (i : Nat) (x : Field), fl[i]? = some x → ∃ y, pl[i]? = some y ∧ f x = some y
    | [], pl, h, i, x, hx => by simp at hx
    | z :: zs, pl, h, i, x, hx => by
      simp only [List.mapM_cons, Option.bind_eq_bind, Option.pure_def] at h
      cases h1 : f z with
      | none => simp [h1] at h
      | some y =>
        cases h2 : zs.mapM f with
        | none => simp [h1, h2] at h
        | some ys =>
          simp [h1, h2] at h
          subst h
          cases i with
          | zero => simp at hx; subst hx; exact ⟨y, rfl, h1⟩
          | succ i => simpa using mapM_get h2 i x (by simpa using hx)

theorem evalParts (a : Act) (ps : Array (Nat × Operand)) : (ps.map fun (i, x) => (i, a.eval x)).toList = ps.toList.map fun x => (x.1, a.eval x.2) := by
  rw [Array.toList_map]

theorem zero_den {t : TypeId} {ti : TI} (h : ti.Ok P t) : ∃ i zv, P.info? t = some i ∧ i.zero = some zv ∧ i.size = ti.size ∧ All2 (DenS m) ti.zero zv.cells.toList := by
  obtain ⟨i, zv, h1, h2, _, h4, h5⟩ := h.info
  exact ⟨i, zv, h1, h4, h2, h5.mono fun _ _ k => k m⟩

theorem sound_build {a : Act} {t : TypeId} {ps : Array (Nat × Operand)} {vs : List SV} (hT : T.Ok P) (he : effBuild T t ps vs = some r) (hv : All2 (Den m) vs (ps.toList.map fun x => a.eval x.2)) :
    Yields P m (Instr.build t (ps.map fun (i, x) => (i, a.eval x))) w r := by
  unfold effBuild at he
  split at he
  rotate_left
  · cases he
  rename_i ti hti
  split at he
  rotate_left
  · cases he
  rename_i l hl
  have hd := zips_den hl hv
  obtain ⟨i, zv, hi, hz, hsz, hzd⟩ := zero_den (m := m) (hT t ti hti)
  have hk := (hT t ti hti).kind
  split at he
  · rename_i fs hfs
    rw [hfs] at hk
    obtain ⟨fields, hu, hfs', places, hpl⟩ := hk
    split at he
    · rename_i cs hcs; cases he
      obtain ⟨cells, h1, h2⟩ := layS_den hT hfs' hpl hcs hd hzd
      refine ⟨.agg cells, run_build w t _ cells ?_, ⟨_, rfl, h2⟩, rfl⟩
      simp only [Program.built, hi, hu, hz, hpl, evalParts]
      exact h1
    · cases he
  · rename_i n e hke
    rw [hke] at hk
    split at he
    rotate_left
    · cases he
    rename_i ei hei
    obtain ⟨ie, zve, hie, _, hse, _⟩ := zero_den (m := m) (hT e ei hei)
    split at he
    · rename_i cs hcs; cases he
      obtain ⟨cells, h1, h2⟩ := layA_den (place := fun i => some (i * ie.size, ie.size)) (fun i => by rw [hse]) hcs hd hzd
      refine ⟨.agg cells, run_build w t _ cells ?_, ⟨_, rfl, h2⟩, rfl⟩
      have hk' : P.underlying t = some (.array n e) := hk
      simp only [Program.built, hi, hk', hz, hie, evalParts]
      exact h1
    · cases he
  · cases he

theorem sound_len {t : TypeId} {ty : TypeId} {x s : SV} {v : Value} {ti : TI} {e : TypeId} (hT : T.Ok P) (hti : T.get t = some ti) (hk : ti.k = .slice e) (he : lenS x = some s) (hv : Den m x v) :
    ∃ z, (Builtin.len_ #[t] ty #[v]).run P w = .ok z w ∧ Den m s z := by
  have hk' := (hT t ti hti).kind
  rw [hk] at hk'
  have ht : P.underlying t = some (.slice e) := hk'
  have hrun : ∀ p n k, (Builtin.len_ #[t] ty #[.slice p n k]).run P w = .ok (.int .i64 (n : Int)) w := fun p n k => by
    simp [Builtin.len_, run_underlying ht, goInt]
  cases x <;> simp only [lenS] at he
  all_goals first | (cases he; done) | skip
  · cases he; obtain rfl := nils_den hv; exact ⟨_, hrun _ _ _, rfl⟩
  · cases he; obtain ⟨l, ad, c, _, rfl, _⟩ := hv; exact ⟨_, hrun _ _ _, rfl⟩
  · cases he
    rename_i b id esz len
    cases b
    · obtain ⟨l, ad, c, _, rfl, _⟩ := hv.2 rfl; exact ⟨_, hrun _ _ _, rfl⟩
    · obtain ⟨rfl, rfl⟩ := hv.1 rfl; exact ⟨_, hrun _ _ _, rfl⟩
  · split at he
    · cases he
      obtain rfl : v = _ := hv
      exact ⟨_, hrun _ _ _, rfl⟩
    · cases he

theorem sound_indexAddr {t : TypeId} {x ix : SV} {v z : Value} (hT : T.Ok P) (he : effIndexAddr T t x ix = some r) (hp : ∀ q ∈ r.pre, q) (hv : Den m x v) (hz : Den m ix z) : Yields P m (Instr.indexAt t v z) w r := by
  unfold effIndexAddr at he
  split at he
  rotate_left
  · cases he
  rename_i ti hti
  have hk := (hT t ti hti).kind
  split at he
  · rename_i e hke
    rw [hke] at hk
    have ht : P.underlying t = some (.slice e) := hk
    split at he
    rotate_left
    · cases he
    rename_i ei hei
    have hsz := (hT e ei hei).size (w := w)
    have hrun : ∀ ad n c k' (k : Nat), k < n → (Instr.indexAt t (.slice (some ad) n c) (.int k' (k : Int))).run P w = .ok (.pointer (some (ad.add (k * ei.size)))) w := fun ad n c k' k h => by
      simp [Instr.indexAt, asIntOf, run_underlying ht, hsz, h]
    split at he
    · rename_i id esz off len
      split at he
      rotate_left
      · cases he
      rename_i hesz
      obtain rfl := Nat.eq_of_beq_eq_true hesz
      obtain ⟨l, ad, c, hm, rfl, hc, hlc, had⟩ := hv
      split at he
      · rename_i k' n
        split at he
        · rename_i k hk; cases he
          obtain rfl := litN_eq hk
          obtain rfl : z = .int k' k := hz
          have hlt : k < len := hp _ (by simp)
          refine ⟨_, hrun _ _ _ _ _ hlt, ⟨l, hm, ?_⟩, rfl⟩
          rw [had (by omega), add_off, Nat.add_mul, Nat.add_zero, Nat.add_assoc]
        · cases he
      · rename_i k' n
        cases he
        have h0 : 0 ≤ n := hp _ (by simp)
        have h1 : n < len := hp _ (by simp)
        obtain rfl : z = .int k' n := hz
        obtain ⟨k, rfl⟩ := Int.eq_ofNat_of_zero_le h0
        have hlt : k < len := by omega
        refine ⟨_, hrun _ _ _ _ _ hlt, ⟨l, hm, ?_⟩, rfl⟩
        rw [had (by omega), add_off, Int.toNat_natCast, Nat.add_mul, Nat.add_zero, Nat.add_assoc]
      · cases he
    · rename_i b id esz len
      split at he
      rotate_left
      · cases he
      rename_i hesz
      obtain rfl := Nat.eq_of_beq_eq_true hesz
      split at he
      · rename_i k' n
        split at he
        · rename_i k hk; cases he
          obtain rfl := litN_eq hk
          obtain rfl : z = .int k' k := hz
          have hlt : k < len := hp _ (by simp)
          cases b
          · obtain ⟨l, ad, c, hm, rfl, hc, hlc, had⟩ := hv.2 rfl
            refine ⟨_, hrun _ _ _ _ _ hlt, ⟨l, hm, ?_⟩, rfl⟩
            rw [had (by omega), add_off, Nat.add_zero]
          · have := (hv.1 rfl).2; omega
        · cases he
      · rename_i k' n
        cases he
        have h0 : 0 ≤ n := hp _ (by simp)
        have h1 : n < len := hp _ (by simp)
        obtain rfl : z = .int k' n := hz
        obtain ⟨k, rfl⟩ := Int.eq_ofNat_of_zero_le h0
        have hlt : k < len := by omega
        cases b
        · obtain ⟨l, ad, c, hm, rfl, hc, hlc, had⟩ := hv.2 rfl
          refine ⟨_, hrun _ _ _ _ _ hlt, ⟨l, hm, ?_⟩, rfl⟩
          rw [had (by omega), add_off, Int.toNat_natCast, Nat.add_zero]
        · have := (hv.1 rfl).2; omega
      · cases he
    · cases he
  · rename_i n e hke
    rw [hke] at hk
    have ht : P.underlying t = some (.array n e) := hk
    split at he
    rotate_left
    · cases he
    rename_i ei hei
    have hsz := (hT e ei hei).size (w := w)
    split at he
    · rename_i id o
      split at he
      rotate_left
      · cases he
      rename_i k' zz
      split at he
      rotate_left
      · cases he
      rename_i k hk
      obtain rfl := litN_eq hk
      split at he
      rotate_left
      · cases he
      rename_i hlt
      have hlt' : k < n := Nat.le_of_ble_eq_true hlt
      split at he
      · rename_i o' ho; cases he
        obtain rfl := normN_eq ho
        obtain rfl : z = .int k' k := hz
        obtain ⟨l, hm, rfl⟩ := hv
        refine ⟨.pointer (some ⟨l.b, l.o + o + k * ei.size, none⟩), by simp [Instr.indexAt, asIntOf, run_underlying ht, hsz, hlt', Instr.sureAddr, add_off], ⟨l, hm, by rw [Nat.add_assoc]⟩, rfl⟩
      · cases he
    · rename_i id esz i0 j0
      split at he
      rotate_left
      · cases he
      rename_i k' zz
      split at he
      rotate_left
      · cases he
      rename_i k hk
      obtain rfl := litN_eq hk
      split at he
      rotate_left
      · cases he
      rename_i hlt
      have hlt' : k < n := Nat.le_of_ble_eq_true hlt
      split at he
      · rename_i o' ho; cases he
        obtain rfl := normN_eq ho
        obtain rfl : z = .int k' k := hz
        obtain ⟨l, hm, rfl⟩ := hv
        refine ⟨.pointer (some ⟨l.b, l.o + (i0 * esz + j0) + k * ei.size, none⟩), by simp [Instr.indexAt, asIntOf, run_underlying ht, hsz, hlt', Instr.sureAddr, add_off], ⟨l, hm, by rw [Nat.add_assoc, Nat.add_assoc]⟩, rfl⟩
      · cases he
    · cases he
  · cases he
end
end Go.Proofs.Ytkfaflhhkmkdjaa.Ev

namespace Go.Proofs.Ytkfaflhhkmkdjaa.Ev
open Go.RowKit
set_option linter.unusedVariables false
set_option linter.unusedSimpArgs false

section
variable {P : Program} {T : Tab} {m : Map} {w : World} {rd : Nat → Blk} {r : Res}

theorem run_sl {t e : TypeId} {ei : TI} (ht : P.underlying t = some (.slice e)) (hs : (sizeOf e).run P w = .ok ei.size w) (a : Option Addr) (len cap : Nat) (lo hi : Option Value) (l h : Nat)
    (hl : lo = none ∧ l = 0 ∨ ∃ k, lo = some (.int k l)) (hh : hi = none ∧ h = len ∨ ∃ k, hi = some (.int k h)) (h1 : l ≤ h) (h2 : h ≤ cap) :
    (Instr.sliceAt t (.slice a len cap) lo hi none).run P w = .ok (.slice (if cap = l then a else a.map (·.add (l * ei.size))) (h - l) (cap - l)) w := by
  have hb : (Instr.sliceBounds true len cap lo hi none).run P w = .ok (l, h, cap) w := by
    rcases hl with ⟨rfl, rfl⟩ | ⟨k, rfl⟩ <;> rcases hh with ⟨rfl, rfl⟩ | ⟨k', rfl⟩ <;> simp [Instr.sliceBounds, Instr.sliceBound, asIntOf, h1, h2]
  simp only [Instr.sliceAt, Sem.run_bind, run_underlying ht, Result.andThen_ok, Instr.slice, hb, hs, Sem.run_pure]

/-- A slice of a slice: what it says. -/
theorem sl_sub {id esz off len : Nat} {p : Place} {ad : Addr} {c : Nat} (hm : m id = some p) (hc : off + c = p.c) (hlc : len ≤ c) (had : 0 < c → ad = ⟨p.b, p.o + off * esz, none⟩) (l h : Nat) (h1 : l ≤ h) (h2 : h ≤ len) :
    Den m (.sl id esz (off + l) (h - l)) (.slice (if c = l then some ad else (some ad).map (·.add (l * esz))) (h - l) (c - l)) := by
  by_cases e : c = l
  · rw [if_pos e]
    exact ⟨p, ad, c - l, hm, rfl, by omega, by omega, fun hp => by omega⟩
  · rw [if_neg e]
    refine ⟨p, ad.add (l * esz), c - l, hm, rfl, by omega, by omega, fun hp => ?_⟩
    rw [had (by omega), add_off, Nat.add_mul, Nat.add_assoc]

theorem toI_val {s : SV} {n : Int} {v : Value} (h : toI s = some n) (h0 : 0 ≤ n) (hd : Den m s v) : v = .int .i64 (n.toNat : Int) := by
  rw [toI_den h hd, Int.toNat_of_nonneg h0]

theorem sound_slice {t : TypeId} {lo hi : Option Operand} {x : SV} {bs : List SV} {v : Value} {lv hv : Option Value} (hT : T.Ok P) (he : effSlice T t lo hi x bs = some r) (hp : ∀ q ∈ r.pre, q) (hx : Den m x v)
    (hl : lo.isSome = lv.isSome) (hh : hi.isSome = hv.isSome) (hb : All2 (Den m) bs (lv.toList ++ hv.toList)) : Yields P m (Instr.sliceAt t v lv hv none) w r := by
  unfold effSlice at he
  split at he
  rotate_left
  · cases he
  rename_i e _ _ _ _ _ _ _ hti
  have ht := (hT t _ hti).kind
  simp only [KindOk] at ht
  split at he
  rotate_left
  · cases he
  rename_i ei hei
  have hsz := (hT e ei hei).size (w := w)
  split at he
  · obtain rfl := nils_den hx
    split at he
    · cases he
      cases lv <;> cases hv <;> simp at hl hh
      exact ⟨_, run_sl ht hsz none 0 0 _ _ 0 0 (Or.inl ⟨rfl, rfl⟩) (Or.inl ⟨rfl, rfl⟩) (Nat.le_refl _) (Nat.le_refl _), rfl, rfl⟩
    · rename_i l
      cases lv <;> cases hv <;> simp at hl hh
      rename_i lval
      split at he
      rotate_left
      · cases he
      rename_i n hn
      cases he
      have h0 : n = 0 := hp _ (by simp)
      subst h0
      obtain rfl := toI_val hn (Int.le_refl _) hb.1
      exact ⟨_, run_sl ht hsz none 0 0 _ _ 0 0 (Or.inr ⟨_, rfl⟩) (Or.inl ⟨rfl, rfl⟩) (Nat.le_refl _) (Nat.le_refl _), rfl, rfl⟩
    · rename_i h
      cases lv <;> cases hv <;> simp at hl hh
      rename_i hval
      split at he
      rotate_left
      · cases he
      rename_i n hn
      cases he
      have h0 : n = 0 := hp _ (by simp)
      subst h0
      obtain rfl := toI_val hn (Int.le_refl _) hb.1
      exact ⟨_, run_sl ht hsz none 0 0 _ _ 0 0 (Or.inl ⟨rfl, rfl⟩) (Or.inr ⟨_, rfl⟩) (Nat.le_refl _) (Nat.le_refl _), rfl, rfl⟩
    · rename_i l h
      cases lv <;> cases hv <;> simp at hl hh
      rename_i lval hval
      split at he
      rotate_left
      · cases he
      rename_i n hn
      split at he
      rotate_left
      · cases he
      rename_i n' hn'
      cases he
      have h0 : n = 0 := hp _ (by simp)
      have h1 : n' = 0 := hp _ (by simp)
      subst h0; subst h1
      obtain rfl := toI_val hn (Int.le_refl _) hb.1
      obtain rfl := toI_val hn' (Int.le_refl _) hb.2.1
      exact ⟨_, run_sl ht hsz none 0 0 _ _ 0 0 (Or.inr ⟨_, rfl⟩) (Or.inr ⟨_, rfl⟩) (Nat.le_refl _) (Nat.le_refl _), rfl, rfl⟩
    · cases he
  · rename_i id esz off len
    split at he
    rotate_left
    · cases he
    rename_i hesz
    obtain rfl := Nat.eq_of_beq_eq_true hesz
    obtain ⟨p, ad, c, hm, rfl, hc, hlc, had⟩ := hx
    split at he
    · cases he
      cases lv <;> cases hv <;> simp at hl hh
      refine ⟨_, run_sl ht hsz _ _ _ _ _ 0 len (Or.inl ⟨rfl, rfl⟩) (Or.inl ⟨rfl, rfl⟩) (Nat.zero_le _) hlc, ?_, rfl⟩
      exact sl_sub hm hc hlc had 0 len (Nat.zero_le _) (Nat.le_refl _)
    · rename_i l
      cases lv <;> cases hv <;> simp at hl hh
      rename_i lval
      split at he
      rotate_left
      · cases he
      rename_i n hn
      cases he
      have h0 : 0 ≤ n := hp _ (by simp)
      have h1 : n ≤ len := hp _ (by simp)
      obtain rfl := toI_val hn h0 hb.1
      refine ⟨_, run_sl ht hsz _ _ _ _ _ n.toNat len (Or.inr ⟨_, rfl⟩) (Or.inl ⟨rfl, rfl⟩) (by omega) hlc, ?_, rfl⟩
      exact sl_sub hm hc hlc had n.toNat len (by omega) (Nat.le_refl _)
    · rename_i h
      cases lv <;> cases hv <;> simp at hl hh
      rename_i hval
      split at he
      rotate_left
      · cases he
      rename_i n hn
      cases he
      have h0 : 0 ≤ n := hp _ (by simp)
      have h1 : n ≤ len := hp _ (by simp)
      obtain rfl := toI_val hn h0 hb.1
      refine ⟨_, run_sl ht hsz _ _ _ _ _ 0 n.toNat (Or.inl ⟨rfl, rfl⟩) (Or.inr ⟨_, rfl⟩) (by omega) (by omega), ?_, rfl⟩
      exact sl_sub hm hc hlc had 0 n.toNat (by omega) (by omega)
    · rename_i l h
      cases lv <;> cases hv <;> simp at hl hh
      rename_i lval hval
      split at he
      rotate_left
      · cases he
      rename_i n hn
      split at he
      rotate_left
      · cases he
      rename_i k hk
      cases he
      have h0 : 0 ≤ n := hp _ (by simp)
      have h1 : n ≤ k := hp _ (by simp)
      have h2 : k ≤ len := hp _ (by simp)
      obtain rfl := toI_val hn h0 hb.1
      obtain rfl := toI_val hk (by omega) hb.2.1
      refine ⟨_, run_sl ht hsz _ _ _ _ _ n.toNat k.toNat (Or.inr ⟨_, rfl⟩) (Or.inr ⟨_, rfl⟩) (by omega) (by omega), ?_, rfl⟩
      exact sl_sub hm hc hlc had n.toNat k.toNat (by omega) (by omega)
    · cases he
  · rename_i b id esz len
    split at he
    rotate_left
    · cases he
    rename_i hesz
    obtain rfl := Nat.eq_of_beq_eq_true hesz
    split at he
    · rename_i h
      cases lv <;> cases hv <;> simp at hl hh
      rename_i hval
      split at he
      rotate_left
      · cases he
      rename_i n hn
      cases he
      have h0 : 0 ≤ n := hp _ (by simp)
      have h1 : n ≤ len := hp _ (by simp)
      obtain rfl := toI_val hn h0 hb.1
      cases b
      · obtain ⟨p, ad, c, hm, rfl, hc, hlc, had⟩ := hx.2 rfl
        refine ⟨_, run_sl ht hsz _ _ _ _ _ 0 n.toNat (Or.inl ⟨rfl, rfl⟩) (Or.inr ⟨_, rfl⟩) (by omega) (by omega), ?_, rfl⟩
        refine ⟨fun h => (by cases h), fun _ => ⟨p, ad, c, hm, ?_, hc, by omega, had⟩⟩
        by_cases e : c = 0
        · simp [e]
        · simp [e, had (by omega), Addr.add]
      · obtain ⟨rfl, rfl⟩ := hx.1 rfl
        have hz : n.toNat = 0 := by omega
        refine ⟨_, run_sl ht hsz _ _ _ _ _ 0 n.toNat (Or.inl ⟨rfl, rfl⟩) (Or.inr ⟨_, rfl⟩) (by omega) (by omega), ?_, rfl⟩
        refine ⟨fun _ => ⟨by simp [hz], hz⟩, fun h => (by cases h)⟩
    · rename_i l
      cases lv <;> cases hv <;> simp at hl hh
      rename_i lval
      split at he
      rotate_left
      · cases he
      rename_i n hn
      split at he
      · cases he
        have h0 : n = 0 := hp _ (by simp)
        subst h0
        obtain rfl := toI_val hn (Int.le_refl _) hb.1
        obtain ⟨rfl, rfl⟩ := hx.1 rfl
        exact ⟨_, run_sl ht hsz none 0 0 _ _ 0 0 (Or.inr ⟨_, rfl⟩) (Or.inl ⟨rfl, rfl⟩) (Nat.le_refl _) (Nat.le_refl _), rfl, rfl⟩
      · cases he
        have h0 : 0 ≤ n := hp _ (by simp)
        have h1 : n ≤ len := hp _ (by simp)
        obtain rfl := toI_val hn h0 hb.1
        obtain ⟨p, ad, c, hm, rfl, hc, hlc, had⟩ := hx.2 rfl
        refine ⟨_, run_sl ht hsz _ _ _ _ _ n.toNat len (Or.inr ⟨_, rfl⟩) (Or.inl ⟨rfl, rfl⟩) (by omega) hlc, ?_, rfl⟩
        have := sl_sub (m := m) (id := id) (esz := ei.size) (off := 0) (ad := ad) hm (by omega) hlc (fun h => by rw [had h]; simp) n.toNat len (by omega) (Nat.le_refl _)
        rwa [Nat.zero_add] at this
    · cases he
  · cases he
end

/-- A state after the blocks' change. -/
def setBs (l : List Blk) : List (Nat × Blk) → List Blk
  | [] => l
  | (i, b) :: r => setBs (setB l i b) r
def St.app (st : St) (dst : Option Tmp) (r : Res) : St := St.put ⟨st.tmps, setBs st.heap r.wr⟩ dst r.val

def Map.set (m : Map) (id : Nat) (p : Place) : Map := m.with fun i => if i = id then some p else m i
theorem Map.set_f (m : Map) (id : Nat) (p : Place) (i : Nat) : (m.set id p) i = if i = id then some p else m i := rfl
theorem Map.set_g (m : Map) (id : Nat) (p : Place) : (m.set id p).g = m.g := rfl
theorem Map.le_set {m : Map} {id : Nat} (h : m id = none) (p : Place) : m.le (m.set id p) := ⟨fun i hi => by
  rw [Map.set_f, if_neg]
  intro e; subst e; exact hi h, fun _ _ _ h => h, rfl⟩
/-- A new object of the store. -/
def Map.ext (m : Map) (k i b : Nat) (hf : ∀ k' i', m.g k' i' ≠ some b) (hn : m.g k i = none) : Map :=
  ⟨m.f, fun k' i' => if k' = k ∧ i' = i then some b else m.g k' i', fun k1 k2 i1 i2 c h1 h2 => (by
    by_cases e1 : k1 = k ∧ i1 = i
    · rw [if_pos e1] at h1
      cases h1
      by_cases e2 : k2 = k ∧ i2 = i
      · exact ⟨e1.1.trans e2.1.symm, e1.2.trans e2.2.symm⟩
      · rw [if_neg e2] at h2; exact absurd h2 (hf _ _)
    · rw [if_neg e1] at h1
      by_cases e2 : k2 = k ∧ i2 = i
      · rw [if_pos e2] at h2; cases h2; exact absurd h1 (hf _ _)
      · rw [if_neg e2] at h2; exact m.inj _ _ _ _ _ h1 h2), m.q⟩
theorem Map.le_ext {m : Map} {k i b : Nat} (hf : ∀ k' i', m.g k' i' ≠ some b) (hn : m.g k i = none) : m.le (m.ext k i b hf hn) :=
  ⟨fun _ _ => rfl, fun k' i' c h => (by
    show (if k' = k ∧ i' = i then some b else m.g k' i') = some c
    rw [if_neg]
    · exact h
    · rintro ⟨rfl, rfl⟩; rw [hn] at h; cases h), rfl⟩

section
variable {B : Nat} {bad : Bad} {w0 : World} {m : Map} {st : St} {a : Act} {w : World}

/-- What an operation leaves. -/
def After (B : Nat) (bad : Bad) (w0 : World) (m : Map) (st : St) (ids : List Nat) (a : Act) (w : World) : Prop :=
  ∃ m', m.le m' ∧ (∀ id, m' id ≠ none → m id ≠ none ∨ id ∈ ids) ∧ Holds B bad w0 m' st a w

theorem Holds.base_le (h : Holds B bad w0 m st a w) : B ≤ w.heap.size := Nat.le_trans h.base h.below.size
theorem Holds.place (h : Holds B bad w0 m st a w) {id : Nat} {p : Place} (hl : (getB st.heap id).live = true) (hm : m id = some p) : p.b < w.heap.size := by
  obtain ⟨l, e, hlt⟩ := (h.blk id).place hl
  rw [hm] at e; cases e
  exact hlt

/-- A new block. -/
theorem Holds.new (h : Holds B bad w0 m st a w) {id : Nat} (hid : m id = none) {o : Obj} {b : Blk} {c : Nat} (hb : BlkH (m.set id ⟨w.heap.size, 0, c⟩) id (w.alloc o) b) (hns : ∀ H, b ≠ .store H := by intro H h; cases h) :
    Holds B bad w0 (m.set id ⟨w.heap.size, 0, c⟩) ⟨st.tmps, setB st.heap id b⟩ a (w.alloc o) := by
  have hle := Map.le_set hid ⟨w.heap.size, 0, c⟩
  have hne : ∀ i p, i ≠ id → (m.set id ⟨w.heap.size, 0, c⟩) i = some p → m i = some p := fun i p hi e => by simpa [Map.set_f, hi] using e
  refine ⟨h.defers, h.size, fun t => (h.tmp t).le hle, fun i => ?_, fun i j p q hij h1 h2 h3 h4 => ?_, fun i p h1 h3 => ?_, h.below.trans ⟨rfl, rfl, rfl, by simp, fun k hk _ => Below.heap_alloc _ _ _ (Nat.lt_of_lt_of_le hk h.base_le), Nat.le_refl _⟩, h.base,
    ⟨fun j p k i b h1 h2 h3 => ?_, fun k i b h3 => ⟨(h.gok.own k i b h3).1, Nat.lt_of_lt_of_le (h.gok.own k i b h3).2 (by simp)⟩, fun s s' H H' h1 h2 => ?_, h.gok.ext, h.gok.q⟩⟩
  · simp only [getB_setB]
    by_cases e : i = id
    · subst e; rw [if_pos rfl]; exact hb
    · rw [if_neg e]
      exact (h.blk i).keep hle (fun l hl hm => Below.heap_alloc _ _ _ (h.place hl hm)) (fun _ _ => rfl) (fun k i b e => Below.heap_alloc _ _ _ (h.gok.own k i b e).2)
  · simp only [getB_setB] at h1 h2
    by_cases ei : i = id
    · subst ei
      have ej : j ≠ i := Ne.symm hij
      rw [if_neg ej] at h2
      have hq := h.place h2 (hne j q ej h4)
      have : p.b = w.heap.size := by simp [Map.set_f] at h3; rw [← h3]
      omega
    · rw [if_neg ei] at h1
      by_cases ej : j = id
      · subst ej
        have hp := h.place (Blk.live_of_own h1) (hne i p ei h3)
        have : q.b = w.heap.size := by simp [Map.set_f] at h4; rw [← h4]
        omega
      · rw [if_neg ej] at h2
        exact h.apart i j p q hij h1 h2 (hne i p ei h3) (hne j q ej h4)
  · simp only [getB_setB] at h1
    by_cases e : i = id
    · subst e
      have : p.b = w.heap.size := by simp [Map.set_f] at h3; rw [← h3]
      rw [this]; exact Or.inl h.base_le
    · rw [if_neg e] at h1
      exact h.own i p h1 (hne i p e h3)
  · simp only [getB_setB] at h1
    by_cases e : j = id
    · subst e
      have : p.b = w.heap.size := by simp [Map.set_f] at h2; rw [← h2]
      have := (h.gok.own k i b h3).2
      omega
    · rw [if_neg e] at h1
      exact h.gok.apart j p k i b h1 (hne j p e h2) h3
  · simp only [getB_setB] at h1 h2
    by_cases e1 : s = id
    · rw [if_pos e1] at h1; subst h1; exact absurd rfl (hns H)
    · by_cases e2 : s' = id
      · rw [if_pos e2] at h2; subst h2; exact absurd rfl (hns H')
      · rw [if_neg e1] at h1; rw [if_neg e2] at h2; exact h.gok.one s s' H H' h1 h2

/-- A block of the call's own is written. -/
theorem Holds.write (h : Holds B bad w0 m st a w) {id : Nat} {p : Place} (hm : m id = some p) (ho : (getB st.heap id).own = true) {b : Blk} {w' : World} (hb : BlkH m id w' b)
    (hos : w'.os = w.os) (ht : w'.tape = w.tape) (hout : w'.output = w.output) (hsz : w'.heap.size = w.heap.size) (hk : ∀ k, k ≠ p.b → w'.heap[k]? = w.heap[k]?) (hns : ∀ H, b ≠ .store H := by intro H h; cases h) (hdr : w.drawn ≤ w'.drawn := by exact Nat.le_refl _) :
    Holds B bad w0 m ⟨st.tmps, setB st.heap id b⟩ a w' := by
  refine ⟨h.defers, h.size, h.tmp, fun i => ?_, fun i j q q' hij h1 h2 h3 h4 => ?_, fun i q h1 h3 => ?_, h.below.trans ⟨hos, ht, hout, by omega, fun k hkB hbad => hk k ?_, hdr⟩, h.base,
    ⟨fun j p' k i b' h1 h2 h3 => ?_, fun k i b' h3 => ⟨(h.gok.own k i b' h3).1, by rw [hsz]; exact (h.gok.own k i b' h3).2⟩, fun s s' H H' h1 h2 => ?_, h.gok.ext, h.gok.q⟩⟩
  · simp only [getB_setB]
    by_cases e : i = id
    · subst e; rw [if_pos rfl]; exact hb
    · rw [if_neg e]
      refine (h.blk i).keep (Map.le.refl m) (fun l hl hml => hk _ fun e2 => ?_) (fun _ _ => rfl) (fun k i b e => hk _ fun e2 => ?_)
      · exact h.apart id i p l (Ne.symm e) ho hl hm hml e2.symm
      · exact h.gok.apart id p k i b (Blk.live_of_own ho) hm e e2.symm
  · simp only [getB_setB] at h1 h2
    by_cases ei : i = id
    · subst ei
      rw [if_neg (Ne.symm hij)] at h2
      exact h.apart i j q q' hij ho h2 h3 h4
    · rw [if_neg ei] at h1
      by_cases ej : j = id
      · subst ej
        exact h.apart i j q q' hij h1 (Blk.live_of_own ho) h3 h4
      · rw [if_neg ej] at h2
        exact h.apart i j q q' hij h1 h2 h3 h4
  · simp only [getB_setB] at h1
    by_cases e : i = id
    · subst e; exact h.own i q ho h3
    · rw [if_neg e] at h1; exact h.own i q h1 h3
  · intro e
    subst e
    rcases h.own id p ho hm with h1 | h1
    · omega
    · exact hbad h1
  · simp only [getB_setB] at h1
    by_cases e : j = id
    · subst e; exact h.gok.apart j p' k i b' (Blk.live_of_own ho) h2 h3
    · rw [if_neg e] at h1; exact h.gok.apart j p' k i b' h1 h2 h3
  · simp only [getB_setB] at h1 h2
    by_cases e1 : s = id
    · rw [if_pos e1] at h1; subst h1; exact absurd rfl (hns H)
    · by_cases e2 : s' = id
      · rw [if_pos e2] at h2; subst h2; exact absurd rfl (hns H')
      · rw [if_neg e1] at h1; rw [if_neg e2] at h2; exact h.gok.one s s' H H' h1 h2

/-- The store is written: the objects of 'at', and maybe one more. -/
theorem Holds.swrite (h : Holds B bad w0 m st a w) {s : Nat} {H H' : Hp} {m' : Map} {w' : World} (hs : getB st.heap s = .store H) (hle : m.le m') (hf : ∀ i, m' i = m i) (hH : StoreH m' w' H')
    (hos : w'.os = w.os) (ht : w'.tape = w.tape) (hout : w'.output = w.output) (hsz : w.heap.size ≤ w'.heap.size) (hk : ∀ k, k < w.heap.size → (∀ kk i, m.g kk i ≠ some k) → w'.heap[k]? = w.heap[k]?)
    (hg : ∀ k i b, m'.g k i = some b → m.g k i = some b ∨ (w.heap.size ≤ b ∧ b < w'.heap.size)) (hdr : w.drawn ≤ w'.drawn := by exact Nat.le_refl _) :
    Holds B bad w0 m' ⟨st.tmps, setB st.heap s (.store H')⟩ a w' := by
  have hB := h.blk s
  rw [hs] at hB
  have old : ∀ i b, (getB st.heap i).live = true → getB (setB st.heap s (.store H')) i = b → True := fun _ _ _ _ => trivial
  refine ⟨h.defers, h.size, fun t => (h.tmp t).le hle, fun i => ?_, fun i j q q' hij h1 h2 h3 h4 => ?_, fun i q h1 h3 => ?_, h.below.trans ⟨hos, ht, hout, hsz, fun k hkB hbad => hk k (Nat.lt_of_lt_of_le hkB h.base_le) fun kk i e => ?_, hdr⟩, h.base,
    ⟨fun j p k i b h1 h2 h3 => ?_, fun k i b h3 => ?_, fun s1 s2 H1 H2 h1 h2 => ?_, fun k i b e => hle.g k i b (h.gok.ext k i b e), hle.q.trans h.gok.q⟩⟩
  · simp only [getB_setB]
    by_cases e : i = s
    · rw [if_pos e]; subst e; exact ⟨by rw [hf]; exact hB.1, hH⟩
    · rw [if_neg e]
      have hi := h.blk i
      cases hb : getB st.heap i with
      | dead => trivial
      | store H1 => exact absurd (h.gok.one _ _ _ _ hb hs) e
      | cells cs =>
        rw [hb] at hi
        obtain ⟨l, vs, ty, e1, e2, e3, e4⟩ := hi
        have hlv : (getB st.heap i).live = true := by rw [hb]; rfl
        exact ⟨l, vs, ty, by rw [hf]; exact e1, e2, by rw [hk _ (h.place hlv e1) (fun kk j e5 => h.gok.apart i l kk j _ hlv e1 e5 rfl)]; exact e3, e4.mono fun _ _ => DenS.le hle⟩
      | arr ow ok esz xs =>
        rw [hb] at hi
        intro hok
        obtain ⟨l, vs, ty, fr, e1, e3, e4⟩ := hi hok
        have hlv : (getB st.heap i).live = true := by rw [hb]; exact hok
        exact ⟨l, vs, ty, fr, by rw [hf]; exact e1, by rw [hk _ (h.place hlv e1) (fun kk j e5 => h.gok.apart i l kk j _ hlv e1 e5 rfl)]; exact e3, e4⟩
      | arrk ks xs =>
        rw [hb] at hi
        obtain ⟨l, vs, ty, fr, e1, e3, e4⟩ := hi
        have hlv : (getB st.heap i).live = true := by rw [hb]; rfl
        exact ⟨l, vs, ty, fr, by rw [hf]; exact e1, by rw [hk _ (h.place hlv e1) (fun kk j e5 => h.gok.apart i l kk j _ hlv e1 e5 rfl)]; exact e3, e4⟩
      | mapb es =>
        rw [hb] at hi
        obtain ⟨l, ents, ck, e1, e3, e4⟩ := hi
        have hlv : (getB st.heap i).live = true := by rw [hb]; rfl
        exact ⟨l, ents, ck, by rw [hf]; exact e1, by rw [hk _ (h.place hlv e1) (fun kk j e5 => h.gok.apart i l kk j _ hlv e1 e5 rfl)]; exact e3, e4⟩
  · simp only [getB_setB] at h1 h2
    by_cases ei : i = s
    · rw [if_pos ei] at h1; cases h1
    · by_cases ej : j = s
      · rw [if_pos ej] at h2; cases h2
      · rw [if_neg ei] at h1; rw [if_neg ej] at h2
        exact h.apart i j q q' hij h1 h2 (by rw [← hf]; exact h3) (by rw [← hf]; exact h4)
  · simp only [getB_setB] at h1
    by_cases e : i = s
    · rw [if_pos e] at h1; cases h1
    · rw [if_neg e] at h1; exact h.own i q h1 (by rw [← hf]; exact h3)
  · rcases h.gok.bad e with h1 | h1
    · omega
    · exact hbad h1
  · simp only [getB_setB] at h1
    by_cases e : j = s
    · rw [if_pos e] at h1; cases h1
    · rw [if_neg e] at h1
      rw [hf] at h2
      rcases hg k i b h3 with h4 | h4
      · exact h.gok.apart j p k i b h1 h2 h4
      · have := h.place h1 h2; omega
  · rcases hg k i b h3 with h4 | h4
    · exact ⟨(h.gok.own k i b h4).1, Nat.lt_of_lt_of_le (h.gok.own k i b h4).2 hsz⟩
    · exact ⟨Or.inl (Nat.le_trans h.base_le h4.1), h4.2⟩
  · simp only [getB_setB] at h1 h2
    by_cases e1 : s1 = s
    · by_cases e2 : s2 = s
      · rw [e1, e2]
      · rw [if_neg e2] at h2; rw [e1]; exact h.gok.one _ _ _ _ hs h2
    · rw [if_neg e1] at h1
      by_cases e2 : s2 = s
      · rw [e2]; exact h.gok.one _ _ _ _ h1 hs
      · rw [if_neg e2] at h2; exact h.gok.one s1 s2 H1 H2 h1 h2

/-- A block is used up. -/
theorem Holds.dead (h : Holds B bad w0 m st a w) (id : Nat) : Holds B bad w0 m ⟨st.tmps, setB st.heap id .dead⟩ a w := by
  refine ⟨h.defers, h.size, h.tmp, fun i => ?_, fun i j q q' hij h1 h2 h3 h4 => ?_, fun i q h1 h3 => ?_, h.below, h.base, ⟨fun j p k i b h1 h2 h3 => ?_, h.gok.own, fun s s' H H' h1 h2 => ?_, h.gok.ext, h.gok.q⟩⟩
  · simp only [getB_setB]
    by_cases e : i = id
    · rw [if_pos e]; trivial
    · rw [if_neg e]; exact h.blk i
  · simp only [getB_setB] at h1 h2
    by_cases ei : i = id
    · rw [if_pos ei] at h1; cases h1
    · by_cases ej : j = id
      · rw [if_pos ej] at h2; cases h2
      · rw [if_neg ei] at h1; rw [if_neg ej] at h2
        exact h.apart i j q q' hij h1 h2 h3 h4
  · simp only [getB_setB] at h1
    by_cases e : i = id
    · rw [if_pos e] at h1; cases h1
    · rw [if_neg e] at h1; exact h.own i q h1 h3
  · simp only [getB_setB] at h1
    by_cases e : j = id
    · rw [if_pos e] at h1; cases h1
    · rw [if_neg e] at h1; exact h.gok.apart j p k i b h1 h2 h3
  · simp only [getB_setB] at h1 h2
    by_cases e1 : s = id
    · rw [if_pos e1] at h1; cases h1
    · by_cases e2 : s' = id
      · rw [if_pos e2] at h2; cases h2
      · rw [if_neg e1] at h1; rw [if_neg e2] at h2; exact h.gok.one s s' H H' h1 h2

end
end Go.Proofs.Ytkfaflhhkmkdjaa.Ev

namespace Go.Proofs.Ytkfaflhhkmkdjaa.Ev
open Go.RowKit
set_option linter.unusedVariables false
set_option linter.unusedSimpArgs false

section
variable {P : Program} {T : Tab} {B : Nat} {bad : Bad} {w0 : World} {m : Map} {st : St} {a : Act} {w : World} {rd : Nat → Blk} {r : Res}

/-- What an operation that runs no Go code does. -/
def Does (P : Program) (B : Nat) (bad : Bad) (w0 : World) (m : Map) (st : St) (a : Act) (w : World) (r : Res) (s : Sem Value) : Prop :=
  ∃ v w' m', s.run P w = .ok v w' ∧ m.le m' ∧ (∀ id, m' id ≠ none → m id ≠ none ∨ id ∈ r.wr.map (·.1)) ∧ Holds B bad w0 m' ⟨st.tmps, setBs st.heap r.wr⟩ a w' ∧ Den m' r.val v

theorem Yields.does {s : Sem Value} (h : Yields P m s w r) (H : Holds B bad w0 m st a w) : Does P B bad w0 m st a w r s := by
  obtain ⟨v, h1, h2, h3⟩ := h
  refine ⟨v, w, m, h1, Map.le.refl m, fun id h => Or.inl h, ?_, h2⟩
  rw [h3]; exact H

theorem heap_new (w : World) (o : Obj) : (w.alloc o).heap[w.heap.size]? = some o := by
  show (w.heap.push o)[w.heap.size]? = some o
  simp

theorem blk_cells {id : Nat} {c : Nat} (hid : m id = none) {cs : List SV} {vs : Array Value} (h : All2 (DenS m) cs vs.toList) (ty : TypeId) : BlkH (m.set id ⟨w.heap.size, 0, c⟩) id (w.alloc (.cells vs ty)) (.cells cs) :=
  ⟨⟨w.heap.size, 0, c⟩, vs, ty, by simp [Map.set_f], rfl, heap_new _ _, h.mono fun _ _ => DenS.le (Map.le_set hid _)⟩

theorem blk_arr {id : Nat} {c esz : Nat} {xs : List (List Int)} {vs : Array Value} (hsz : vs.size = c * esz) (hl : xs.length ≤ c) (h : ∀ i j, i < xs.length → j < esz → vs[i * esz + j]? = some (.int .i64 (at2 xs i j))) (ty : TypeId) :
    BlkH (m.set id ⟨w.heap.size, 0, c⟩) id (w.alloc (.cells vs ty)) (.arr true true esz xs) :=
  fun _ => ⟨⟨w.heap.size, 0, c⟩, vs, ty, (0, 0), by simp [Map.set_f], heap_new _ _, fun i j hi hj => by simpa using h i j hi hj, fun _ => ⟨rfl, rfl, hsz, hl⟩⟩

theorem toPt_den {k p : Nat} {s : SV} {v : Value} (h : toPt k s = some p) (hd : DenS m s v) : NpV m.g k p 0 v := by
  unfold toPt at h
  split at h
  · split at h
    · split at h
      · rename_i hk; cases h; rw [Nat.eq_of_beq_eq_true hk]; exact hd
      · cases h
    · cases h
  · split at h
    · split at h
      · cases h; exact ⟨fun _ => hd, fun i e => by omega⟩
      · cases h
    · cases h
  · cases h
theorem toMv_den {p : Nat} {s : SV} {v : Value} (h : toMv s = some p) (hd : DenS m s v) : MpV m.g p v := by
  unfold toMv at h
  split at h
  · cases h; exact hd
  · split at h
    · split at h
      · cases h; exact ⟨fun _ => hd, fun i e => by omega⟩
      · cases h
    · cases h
  · cases h
theorem toI_denS {s : SV} {v : Value} {n : Int} (h : toI s = some n) (hd : DenS m s v) : v = .int .i64 n := toI_den h hd.a.d
theorem ndOf_den {cs : List SV} {x : Nd} {vs : List Value} (h : ndOf cs = some x) (hd : All2 (DenS m) cs vs) : All2 (DenS m) (ndCells 0 x) vs := by
  unfold ndOf at h
  split at h
  rotate_left
  · cases h
  iterate 9 (split at h; rotate_left; cases h)
  cases h
  match vs, hd with
  | [v0, v1, v2, v3, v4, v5, v6, v7, v8], ⟨d0, d1, d2, d3, d4, d5, d6, d7, d8, _⟩ =>
    exact ⟨toI_denS (by assumption) d0, toI_denS (by assumption) d1, toI_denS (by assumption) d2, toI_denS (by assumption) d3, toPt_den (by assumption) d4, toPt_den (by assumption) d5, toPt_den (by assumption) d6, toI_denS (by assumption) d7, toI_denS (by assumption) d8, trivial⟩
theorem trOf_den {cs : List SV} {x : Nat × Nat} {vs : List Value} (h : trOf cs = some x) (hd : All2 (DenS m) cs vs) : All2 (DenS m) (trCells 0 x) vs := by
  unfold trOf at h
  split at h
  rotate_left
  · cases h
  iterate 2 (split at h; rotate_left; cases h)
  cases h
  match vs, hd with
  | [v0, v1], ⟨d0, d1, _⟩ => exact ⟨toPt_den (by assumption) d0, toMv_den (by assumption) d1, trivial⟩

/-- What a store says, with one object more. -/
theorem StoreH.ext {H H' : Hp} {m' : Map} {k i : Nat} {o : Obj} (h : StoreH m w H) (hle : m.le m') (hi : m.g k i = none) (hg : ∀ k' i', m'.g k' i' = if k' = k ∧ i' = i then some w.heap.size else m.g k' i')
    (hlt : ∀ k i b, m.g k i = some b → b < w.heap.size)
    (hn : ∀ j x, H'.nd[j]? = some x → H.nd[j]? = some x ∨ (k = 0 ∧ j = i ∧ ∃ vs ty, o = .cells vs ty (0, 0) ∧ All2 (DenS m') (ndCells 0 x) vs.toList))
    (ht : ∀ j x, H'.tr[j]? = some x → H.tr[j]? = some x ∨ (k = 1 ∧ j = i ∧ ∃ vs ty, o = .cells vs ty (0, 0) ∧ All2 (DenS m') (trCells 0 x) vs.toList))
    (hm : ∀ j x, H'.mp[j]? = some x → H.mp[j]? = some x ∨ (k = 2 ∧ j = i ∧ x = [] ∧ ∃ cl, o = .map #[] cl))
    (hl : H.nd.length ≤ H'.nd.length ∧ H.tr.length ≤ H'.tr.length ∧ H.mp.length ≤ H'.mp.length) (hk : (k = 0 ∧ i < H'.nd.length) ∨ (k = 1 ∧ i < H'.tr.length) ∨ (k = 2 ∧ i < H'.mp.length)) : StoreH m' (w.alloc o) H' := by
  have hnew : m'.g k i = some w.heap.size := by rw [hg, if_pos ⟨rfl, rfl⟩]
  refine ⟨fun j x hx => ?_, fun j x hx => ?_, fun j x hx => ?_, fun k' i' b hb => ?_⟩
  · rcases hn j x hx with h1 | ⟨rfl, rfl, vs, ty, rfl, h1⟩
    · obtain ⟨b, vs, ty, e, hh, hd⟩ := h.nd j x h1
      exact ⟨b, vs, ty, hle.g _ _ _ e, (Below.heap_alloc _ _ _ (hlt _ _ _ e)).trans hh, hd.mono fun _ _ => DenS.le hle⟩
    · exact ⟨_, vs, ty, hnew, heap_new _ _, h1⟩
  · rcases ht j x hx with h1 | ⟨rfl, rfl, vs, ty, rfl, h1⟩
    · obtain ⟨b, vs, ty, e, hh, hd⟩ := h.tr j x h1
      exact ⟨b, vs, ty, hle.g _ _ _ e, (Below.heap_alloc _ _ _ (hlt _ _ _ e)).trans hh, hd.mono fun _ _ => DenS.le hle⟩
    · exact ⟨_, vs, ty, hnew, heap_new _ _, h1⟩
  · rcases hm j x hx with h1 | ⟨rfl, rfl, rfl, cl, rfl⟩
    · obtain ⟨b, vs, ty, e, hh, hd⟩ := h.mp j x h1
      exact ⟨b, vs, ty, hle.g _ _ _ e, (Below.heap_alloc _ _ _ (hlt _ _ _ e)).trans hh, hd.mono fun _ _ k => ⟨k.1, NpV.le hle.g k.2⟩⟩
    · exact ⟨_, #[], cl, hnew, heap_new _ _, trivial⟩
  · rw [hg] at hb
    by_cases e : k' = k ∧ i' = i
    · obtain ⟨rfl, rfl⟩ := e; exact hk
    · rw [if_neg e] at hb
      rcases h.dom k' i' b hb with ⟨a1, a2⟩ | ⟨a1, a2⟩ | ⟨a1, a2⟩ <;> omega

/-- A new object of the store, in the state. -/
theorem Holds.snew (H : Holds B bad w0 m st a w) {H0 H' : Hp} {k i : Nat} {o : Obj} (hs : getB st.heap 0 = .store H0) (hi : m.g k i = none)
    (hn : ∀ m' : Map, m.le m' → ∀ j x, H'.nd[j]? = some x → H0.nd[j]? = some x ∨ (k = 0 ∧ j = i ∧ ∃ vs ty, o = .cells vs ty (0, 0) ∧ All2 (DenS m') (ndCells 0 x) vs.toList))
    (ht : ∀ m' : Map, m.le m' → ∀ j x, H'.tr[j]? = some x → H0.tr[j]? = some x ∨ (k = 1 ∧ j = i ∧ ∃ vs ty, o = .cells vs ty (0, 0) ∧ All2 (DenS m') (trCells 0 x) vs.toList))
    (hm : ∀ j x, H'.mp[j]? = some x → H0.mp[j]? = some x ∨ (k = 2 ∧ j = i ∧ x = [] ∧ ∃ cl, o = .map #[] cl))
    (hl : H0.nd.length ≤ H'.nd.length ∧ H0.tr.length ≤ H'.tr.length ∧ H0.mp.length ≤ H'.mp.length) (hk : (k = 0 ∧ i < H'.nd.length) ∨ (k = 1 ∧ i < H'.tr.length) ∨ (k = 2 ∧ i < H'.mp.length)) :
    ∃ m' : Map, m.le m' ∧ (∀ id, m' id = m id) ∧ m'.g k i = some w.heap.size ∧ Holds B bad w0 m' ⟨st.tmps, setB st.heap 0 (.store H')⟩ a (w.alloc o) := by
  have hf : ∀ k' i', m.g k' i' ≠ some w.heap.size := fun k' i' e => by have := (H.gok.own k' i' _ e).2; omega
  have hle := Map.le_ext hf hi
  have hg : ∀ k' i', (m.ext k i w.heap.size hf hi).g k' i' = if k' = k ∧ i' = i then some w.heap.size else m.g k' i' := fun _ _ => rfl
  have hB := H.blk 0
  rw [hs] at hB
  refine ⟨m.ext k i w.heap.size hf hi, hle, fun _ => rfl, by rw [hg, if_pos ⟨rfl, rfl⟩], H.swrite hs hle (fun _ => rfl) (hB.2.ext hle hi hg (fun k i b e => (H.gok.own k i b e).2) (hn _ hle) (ht _ hle) hm hl hk) rfl rfl rfl (by simp) (fun k' hk' _ => Below.heap_alloc _ _ _ hk') fun k' i' b hb => ?_⟩
  rw [hg] at hb
  by_cases e : k' = k ∧ i' = i
  · rw [if_pos e] at hb; cases hb; exact Or.inr ⟨Nat.le_refl _, by simp⟩
  · rw [if_neg e] at hb; exact Or.inl hb

theorem get_snoc {α : Type} {l : List α} {x y : α} {j : Nat} (h : (l ++ [y])[j]? = some x) : l[j]? = some x ∨ (j = l.length ∧ x = y) := by
  rcases Nat.lt_trichotomy j l.length with h1 | h1 | h1
  · left; rwa [List.getElem?_append_left h1] at h
  · subst h1; right; simp at h; exact ⟨rfl, h.symm⟩
  · rw [List.getElem?_append_right (by omega)] at h
    rw [List.getElem?_eq_none (by simp; omega)] at h; cases h

theorem sound_newS {k : Nat} {cs : List SV} {vs : Array Value} {t : TypeId} {s : Sem Value} (hrd : ∀ id, rd id = getB st.heap id ∨ rd id = .dead) (he : newS rd k cs = some r) (hd : All2 (DenS m) cs vs.toList)
    (hs : s.run P w = .ok (.pointer (some ⟨w.heap.size, 0, none⟩)) (w.alloc (.cells vs t))) (H : Holds B bad w0 m st a w) : Does P B bad w0 m st a w r s := by
  unfold newS at he
  split at he
  rotate_left
  · cases he
  rename_i H0 hH
  have hs0 : getB st.heap 0 = .store H0 := by
    rcases hrd 0 with h | h
    · rw [← h]; exact hH
    · rw [h] at hH; cases hH
  have hB := H.blk 0
  rw [hs0] at hB
  obtain ⟨hB0, hB⟩ := hB
  obtain ⟨nd, tr, mp⟩ := H0
  dsimp only at he
  split at he
  · split at he
    rotate_left
    · cases he
    rename_i x hx
    cases he
    obtain ⟨m', h1, h2, h3, h4⟩ := H.snew (o := .cells vs t) (H' := ⟨nd ++ [x], tr, mp⟩) (k := 0) (i := nd.length) hs0 (by
      cases hg : m.g 0 nd.length with
      | none => rfl
      | some b => rcases hB.dom _ _ _ hg with ⟨_, h⟩ | ⟨h, _⟩ | ⟨h, _⟩ <;> (try dsimp only at h) <;> omega) (fun m' hm' j y hy => by
        rcases get_snoc hy with h | ⟨h, rfl⟩
        · exact Or.inl h
        · exact Or.inr ⟨rfl, h, vs, t, rfl, (ndOf_den hx hd).mono fun _ _ => DenS.le hm'⟩) (fun _ _ _ _ h => Or.inl h) (fun _ _ h => Or.inl h) ⟨by simp, Nat.le_refl _, Nat.le_refl _⟩ (Or.inl ⟨rfl, by simp⟩)
    exact ⟨_, _, m', hs, h1, fun id hid => Or.inl (by rw [← h2]; exact hid), h4, ⟨fun h => by omega, fun j hj => ⟨_, Nat.succ.inj hj ▸ h3, rfl⟩⟩⟩
  · split at he
    rotate_left
    · cases he
    rename_i x hx
    cases he
    obtain ⟨m', h1, h2, h3, h4⟩ := H.snew (o := .cells vs t) (H' := ⟨nd, tr ++ [x], mp⟩) (k := 1) (i := tr.length) hs0 (by
      cases hg : m.g 1 tr.length with
      | none => rfl
      | some b => rcases hB.dom _ _ _ hg with ⟨h, _⟩ | ⟨_, h⟩ | ⟨h, _⟩ <;> (try dsimp only at h) <;> omega) (fun _ _ _ _ h => Or.inl h) (fun m' hm' j y hy => by
        rcases get_snoc hy with h | ⟨h, rfl⟩
        · exact Or.inl h
        · exact Or.inr ⟨rfl, h, vs, t, rfl, (trOf_den hx hd).mono fun _ _ => DenS.le hm'⟩) (fun _ _ h => Or.inl h) ⟨Nat.le_refl _, by simp, Nat.le_refl _⟩ (Or.inr (Or.inl ⟨rfl, by simp⟩))
    exact ⟨_, _, m', hs, h1, fun id hid => Or.inl (by rw [← h2]; exact hid), h4, ⟨fun h => by omega, fun j hj => ⟨_, Nat.succ.inj hj ▸ h3, rfl⟩⟩⟩
  · cases he

theorem sound_makeMap {t : TypeId} (hrd : ∀ id, rd id = getB st.heap id ∨ rd id = .dead) (he : effMakeMap T rd t = some r) (H : Holds B bad w0 m st a w) : Does P B bad w0 m st a w r (Instr.makeMap t none) := by
  unfold effMakeMap at he
  split at he
  rotate_left
  · cases he
  rename_i H0 hH
  have hs0 : getB st.heap 0 = .store H0 := by
    rcases hrd 0 with h | h
    · rw [← h]; exact hH
    · rw [h] at hH; cases hH
  have hB := H.blk 0
  rw [hs0] at hB
  obtain ⟨hB0, hB⟩ := hB
  obtain ⟨nd, tr, mp⟩ := H0
  dsimp only at he
  cases he
  obtain ⟨m', h1, h2, h3, h4⟩ := H.snew (o := .map #[] 0) (H' := ⟨nd, tr, mp ++ [[]]⟩) (k := 2) (i := mp.length) hs0 (by
    cases hg : m.g 2 mp.length with
    | none => rfl
    | some b => rcases hB.dom _ _ _ hg with ⟨h, _⟩ | ⟨h, _⟩ | ⟨_, h⟩ <;> (try dsimp only at h) <;> omega) (fun _ _ _ _ h => Or.inl h) (fun _ _ _ _ h => Or.inl h) (fun j y hy => by
      rcases get_snoc hy with h | ⟨h, rfl⟩
      · exact Or.inl h
      · exact Or.inr ⟨rfl, h, rfl, 0, rfl⟩) ⟨Nat.le_refl _, Nat.le_refl _, by simp⟩ (Or.inr (Or.inr ⟨rfl, by simp⟩))
  exact ⟨.map (some w.heap.size), _, m', rfl, h1, fun id hid => Or.inl (by rw [← h2]; exact hid), h4, ⟨fun h => by omega, fun j hj => ⟨_, Nat.succ.inj hj ▸ h3, rfl⟩⟩⟩

theorem sound_alloc {nid : Nat} {t : TypeId} (hT : T.Ok P) (hrd : ∀ id, rd id = getB st.heap id ∨ rd id = .dead) (he : effAlloc T rd nid t = some r) (hf : stOf T t = 0 → m nid = none) (H : Holds B bad w0 m st a w) : Does P B bad w0 m st a w r (Instr.alloc t true (.tuple #[])) := by
  unfold effAlloc at he
  split at he
  rotate_left
  · cases he
  rename_i ti hti
  split at he
  rotate_left
  · rename_i k hk
    obtain ⟨zv, h1, h2⟩ := (hT t ti hti).zero
    exact sound_newS (t := t) hrd he (by simpa using h2.mono fun _ _ k => k m) (s := Instr.alloc t true (.tuple #[])) (by simp [Instr.alloc, h1, newVar, newRow]) H
  rename_i hst
  have hf := hf (by unfold stOf; rw [hti]; exact hst)
  cases he
  obtain ⟨zv, h1, h2⟩ := (hT t ti hti).zero
  refine ⟨.pointer (some ⟨w.heap.size, 0, none⟩), w.alloc (.cells zv.cells t), m.set nid ⟨w.heap.size, 0, 0⟩, ?_, Map.le_set hf _, fun id hi => ?_, H.new hf (blk_cells hf (h2.mono fun _ _ k => k m) t), ⟨⟨w.heap.size, 0, 0⟩, by simp [Map.set_f], rfl⟩⟩
  · simp [Instr.alloc, h1, newVar, newRow]
  · by_cases e : id = nid
    · exact Or.inr (by simp [e])
    · exact Or.inl (by simpa [Map.set_f, e] using hi)

theorem sound_box {nid : Nat} {t : TypeId} {x : SV} {v : Value} (hrd : ∀ id, rd id = getB st.heap id ∨ rd id = .dead) (he : effBox T rd nid t x = some r) (hf : stOf T t = 0 → m nid = none) (hv : Den m x v) (H : Holds B bad w0 m st a w) : Does P B bad w0 m st a w r (Instr.box t v) := by
  unfold effBox at he
  split at he
  rotate_left
  · cases he
  rename_i cs hcs
  split at he
  rotate_left
  · rename_i k hk
    exact sound_newS (t := t) hrd he (cellsOf_den hcs hv) (s := Instr.box t v) (by simp [Instr.box, newVar, newRow]) H
  rename_i hst
  have hf := hf hst
  cases he
  refine ⟨.pointer (some ⟨w.heap.size, 0, none⟩), w.alloc (.cells v.cells t), m.set nid ⟨w.heap.size, 0, 0⟩, ?_, Map.le_set hf _, fun id hi => ?_, H.new hf (blk_cells hf (cellsOf_den hcs hv) t), ⟨⟨w.heap.size, 0, 0⟩, by simp [Map.set_f], rfl⟩⟩
  · simp [Instr.box, newVar, newRow]
  · by_cases e : id = nid
    · exact Or.inr (by simp [e])
    · exact Or.inl (by simpa [Map.set_f, e] using hi)

theorem cut_get {size : Nat} : ∀ {n : Nat} {cs : List SV} {rows : List (List SV)}, cut size n cs = some rows → rows.length = n ∧ cs.length = n * size ∧ ∀ (i : Nat) (row : List SV), rows[i]? = some row → row.length = size ∧ ∀ j, j < size → row[j]? = cs[i * size + j]?
  | 0, [], rows, h => by simp only [cut] at h; cases h; simp
  | 0, _ :: _, rows, h => by simp [cut] at h
  | n + 1, cs, rows, h => by
    simp only [cut] at h
    split at h
    rotate_left
    · cases h
    rename_i row hrow
    split at h
    rotate_left
    · cases h
    rename_i rs hrs
    cases h
    obtain ⟨rfl, hle⟩ := takeN_eq hrow
    obtain ⟨h1, h2, h3⟩ := cut_get hrs
    have hlen : cs.length = (n + 1) * size := by
      have : (cs.drop size).length = n * size := h2
      simp at this
      rw [Nat.add_mul]; omega
    refine ⟨by simp [h1], hlen, fun i rw' hi => ?_⟩
    cases i with
    | zero =>
      simp at hi; subst hi
      refine ⟨by simp; omega, fun j hj => ?_⟩
      simp [List.getElem?_take_of_lt hj]
    | succ i =>
      obtain ⟨g1, g2⟩ := h3 i rw' (by simpa using hi)
      refine ⟨g1, fun j hj => ?_⟩
      rw [g2 j hj, List.getElem?_drop, Nat.add_mul]
      congr 1; omega

theorem toRows_get : ∀ {rows : List (List SV)} {xs : List (List Int)}, toRows rows = some xs → xs.length = rows.length ∧ ∀ (i : Nat) (row : List SV), rows[i]? = some row → ∃ ns, xs[i]? = some ns ∧ toIs row = some ns
  | [], xs, h => by simp only [toRows] at h; cases h; simp
  | row :: rows, xs, h => by
    simp only [toRows] at h
    split at h
    rotate_left
    · cases h
    rename_i n hn
    split at h
    rotate_left
    · cases h
    rename_i ns hns
    cases h
    obtain ⟨h1, h2⟩ := toRows_get hns
    refine ⟨by simp [h1], fun i rw' hi => ?_⟩
    cases i with
    | zero => simp at hi; subst hi; exact ⟨n, rfl, hn⟩
    | succ i => simpa using h2 i rw' (by simpa using hi)

theorem toIs_get : ∀ {ss : List SV} {ns : List Int}, toIs ss = some ns → ∀ (j : Nat) (s : SV), ss[j]? = some s → ∃ n, ns[j]? = some n ∧ toI s = some n
  | [], ns, h, j, s, hj => by simp at hj
  | s :: ss, ns, h, j, s', hj => by
    simp only [toIs] at h
    split at h
    rotate_left
    · cases h
    rename_i n hn
    split at h
    rotate_left
    · cases h
    rename_i ns' hns
    cases h
    cases j with
    | zero => simp at hj; subst hj; exact ⟨n, rfl, hn⟩
    | succ j => simpa using toIs_get hns j s' (by simpa using hj)

theorem at2_of {xs : List (List Int)} {i j : Nat} {ns : List Int} {n : Int} (h1 : xs[i]? = some ns) (h2 : ns[j]? = some n) : at2 xs i j = n := by
  simp [at2, h1, h2]

theorem repl_len : ∀ (n : Nat) (z : List SV), (repl n z).length = n * z.length
  | 0, z => by simp [repl]
  | n + 1, z => by simp [repl, repl_len n z, Nat.add_mul]; omega

theorem repl_get {z : List SV} (hz : 0 < z.length) : ∀ (n k : Nat), k < n * z.length → (repl n z)[k]? = z[k % z.length]?
  | 0, k, h => by simp at h
  | n + 1, k, h => by
    simp only [repl]
    by_cases hk : k < z.length
    · rw [List.getElem?_append_left hk, Nat.mod_eq_of_lt hk]
    · have h' : k - z.length < n * z.length := by rw [Nat.add_mul] at h; omega
      rw [List.getElem?_append_right (by omega), repl_get hz n (k - z.length) h']
      rw [Nat.mod_eq_sub_mod (by omega : k ≥ z.length)]

theorem zeros_den {z : List SV} {zv : Array Value} (h : All2 (DenS m) z zv.toList) (hz : 0 < z.length) (n : Nat) : All2 (DenS m) (repl n z) ((Array.range (n * z.length)).map (zv[· % zv.size]!)).toList := by
  have hl := h.length
  simp only [Array.length_toList] at hl
  refine all2_of_get (by simp [repl_len]) (fun k x v h1 h2 => ?_)
  have hk : k < n * z.length := by have := (List.getElem?_eq_some_iff.1 h1).1; rwa [repl_len] at this
  rw [repl_get hz n k hk] at h1
  obtain ⟨u, hu, hd⟩ := h.get _ _ h1
  rw [Array.getElem?_toList] at h2 hu
  simp only [Array.getElem?_map, Array.getElem?_range, hk, if_true, Option.map_some, Option.some.injEq] at h2
  have hm : k % zv.size < zv.size := Nat.mod_lt _ (by omega)
  rw [hl] at hu
  simp [hm] at hu
  simp [hm] at h2
  rw [← h2, hu]
  exact hd

theorem sound_buildSlice {nid n : Nat} {t : TypeId} {ps : Array (Nat × Operand)} {vs : List SV} (hT : T.Ok P) (he : effBuildSlice T nid t n ps vs = some r) (hf : m nid = none) (hv : All2 (Den m) vs (ps.toList.map fun x => a.eval x.2)) (H : Holds B bad w0 m st a w) :
    Does P B bad w0 m st a w r (Instr.buildSlice t n (ps.map fun (i, x) => (i, a.eval x))) := by
  unfold effBuildSlice at he
  split at he
  rotate_left
  · cases he
  rename_i e _ _ _ _ _ _ _ hti
  have ht := (hT t _ hti).kind
  simp only [KindOk] at ht
  split at he
  rotate_left
  · cases he
  rename_i ei hei
  obtain ⟨ie, zv, hi, hz, hsz, hzd⟩ := zero_den (m := m) (hT e ei hei)
  split at he
  rotate_left
  · cases he
  rename_i l hl
  split at he
  rotate_left
  · cases he
  rename_i cs hcs
  split at he
  rotate_left
  · cases he
  rename_i hg
  simp only [Bool.and_eq_true] at hg
  obtain ⟨⟨⟨hg0, hg1⟩, hg2⟩, hg3⟩ := hg
  have hn1 : 1 ≤ n := Nat.le_of_ble_eq_true hg0
  have hpos : 1 ≤ ei.size := Nat.le_of_ble_eq_true hg1
  have hsm : n * ei.size ≤ 16777216 := Nat.le_of_ble_eq_true hg2
  have hzl := lenIs_eq hg3
  split at he
  rotate_left
  · cases he
  rename_i rows hrows
  obtain ⟨cells, hc1, hc2⟩ := layA_den (place := fun i => some (i * ie.size, ie.size)) (fun i => by rw [hsz]) hcs (zips_den hl hv) (zeros_den hzd (by omega) n)
  have hcl := hc2.length
  obtain ⟨q1, q2, q3⟩ := cut_get hrows
  simp only [Array.length_toList] at hcl
  rw [hzl, ← hsz] at hc1
  have hrun : (Instr.buildSlice t n (ps.map fun (i, x) => (i, a.eval x))).run P w = .ok (.slice (some ⟨w.heap.size, 0, none⟩) n n) (w.alloc (.cells cells e)) := by
    have hn : ¬ n * ie.size = 0 := by
      rw [hsz]; exact Nat.mul_ne_zero (by omega) (by omega)
    exact run_buildSlice w t e n _ cells ie zv ht hi hz (by rw [hsz]; omega) hn (by rw [evalParts]; exact hc1)
  have hmem : ∀ (b : Blk) id, m.set nid ⟨w.heap.size, 0, n⟩ id ≠ none → m id ≠ none ∨ id ∈ [(nid, b)].map (·.1) := fun b id hid => by
    by_cases e : id = nid
    · exact Or.inr (by simp [e])
    · exact Or.inl (by simpa [Map.set_f, e] using hid)
  have hden : ∀ esz, Den (m.set nid ⟨w.heap.size, 0, n⟩) (.sl nid esz 0 n) (.slice (some ⟨w.heap.size, 0, none⟩) n n) := fun esz =>
    ⟨⟨w.heap.size, 0, n⟩, _, n, by simp [Map.set_f], rfl, by simp, Nat.le_refl _, fun _ => by simp⟩
  split at he
  · rename_i xs hxs
    cases he
    obtain ⟨y1, y2⟩ := toRows_get hxs
    refine ⟨_, _, _, hrun, Map.le_set hf _, hmem _, H.new hf (blk_arr ?_ ?_ ?_ e), hden _⟩
    · rw [← hcl, q2]
    · omega
    · intro i j hi hj
      have hir : i < rows.length := by omega
      obtain ⟨ns, g1, g2⟩ := y2 i rows[i] (by simp [hir])
      obtain ⟨g3, g4⟩ := q3 i rows[i] (by simp [hir])
      have hj' : j < rows[i].length := by omega
      obtain ⟨k, g5, g6⟩ := toIs_get g2 j rows[i][j] (by simp [hj'])
      have g7 := g4 j hj
      rw [List.getElem?_eq_getElem hj'] at g7
      obtain ⟨u, hu, hd⟩ := hc2.get _ _ g7.symm
      rw [Array.getElem?_toList] at hu
      rw [hu, at2_of g1 g5, toI_den g6 hd.a.d]
  · cases he
    exact ⟨_, _, _, hrun, Map.le_set hf _, hmem _, H.new hf (blk_cells hf hc2 e), hden _⟩

theorem sound_make {nid : Nat} {t : TypeId} {l c : SV} {lv cv : Value} (hT : T.Ok P) (he : effMake T nid t l c = some r) (hp : ∀ q ∈ r.pre, q) (hf : m nid = none) (hl : Den m l lv) (hc : Den m c cv) (H : Holds B bad w0 m st a w) :
    Does P B bad w0 m st a w r (Instr.makeSlice t lv cv) := by
  unfold effMake at he
  split at he
  rotate_left
  · cases he
  rename_i e _ _ _ _ _ _ _ hti
  have ht := (hT t _ hti).kind
  simp only [KindOk] at ht
  split at he
  rotate_left
  · cases he
  rename_i ei hei
  obtain ⟨ie, zv, hi, hb1, hb2, hz, hzd⟩ := (hT e ei hei).info
  have hzd' := hzd.mono (fun _ _ k => k m)
  split at he
  rotate_left
  · cases he
  rename_i z hzz
  split at he
  rotate_left
  · cases he
  rename_i n hn
  split at he
  rotate_left
  · cases he
  rename_i n' hn'
  split at he
  rotate_left
  · cases he
  rename_i hg
  simp only [Bool.and_eq_true] at hg
  have hzl := lenIs_eq hg.1
  have hpos : 1 ≤ ei.size := Nat.le_of_ble_eq_true hg.2
  cases he
  have p1 : n' = n := hp _ (by simp)
  have p2 : 0 ≤ n := hp _ (by simp)
  have p3 : n * ei.bytes ≤ 1099511627776 := hp _ (by simp)
  have p4 : n ≤ 1099511627776 := hp _ (by simp)
  subst p1
  obtain rfl := toI_den hn hl
  obtain rfl := toI_den hn' hc
  have hw : IntKind.i64.wrap n' = n' := IntWalk.i64_in _ (by omega)
  have hbm : ie.bytes * n' = n' * ei.bytes := by rw [hb2, Int.mul_comm]
  have hrun : (Instr.makeSlice t (.int .i64 n') (.int .i64 n')).run P w = .ok (.slice (some ⟨w.heap.size, 0, none⟩) n'.toNat n'.toNat) (w.alloc (.cells ((Array.range (n'.toNat * ei.size)).map (zv.cells[· % zv.cells.size]!)) e)) := by
    have h1 : ¬ n' < 0 := by omega
    have h2 : ¬ (2 : Int) ^ 48 < ie.bytes * n' := by rw [hbm]; omega
    have h3 : ¬ (281474976710656 : Int) < ie.bytes * n' := by rw [hbm]; omega
    have hI : ∀ w, (typeInfo e).run P w = .ok ie w := fun w => by simp [typeInfo, hi]
    have hS : ∀ w, (sizeOf e).run P w = .ok ei.size w := fun w => (hT e ei hei).size
    have hZ : ∀ w, (zeroValue e).run P w = .ok zv w := fun w => by simp [zeroValue, hI, hz]
    by_cases h0 : n'.toNat * ei.size = 0
    · have e0 : ∀ f : Nat → Value, (Array.range 0).map f = #[] := fun f => by simp [Array.range]
      simp [Instr.makeSlice, run_underlying ht, asInt, asIntOf, hw, hI, hS, h1, h2, h3, h0, e0, newRow]
    · simp [Instr.makeSlice, run_underlying ht, asInt, asIntOf, hw, hI, hS, hZ, h1, h2, h3, h0, newRow]
  have hden : Den (m.set nid ⟨w.heap.size, 0, n'.toNat⟩) (.sl nid ei.size 0 n'.toNat) (.slice (some ⟨w.heap.size, 0, none⟩) n'.toNat n'.toNat) :=
    ⟨⟨w.heap.size, 0, n'.toNat⟩, _, n'.toNat, by simp [Map.set_f], rfl, by simp, Nat.le_refl _, fun _ => by simp⟩
  refine ⟨_, _, _, hrun, Map.le_set hf _, fun id hid => ?_, H.new hf (blk_arr (by simp) (by simp) ?_ e), hden⟩
  · by_cases e : id = nid
    · exact Or.inr (by simp [e])
    · exact Or.inl (by simpa [Map.set_f, e] using hid)
  · intro i j hi' hj
    have hi'' : i < n'.toNat := by simpa using hi'
    have hzl' := hzd'.length
    simp only [Array.length_toList] at hzl'
    have hlt : i * ei.size + j < n'.toNat * ei.size := by
      have : (i + 1) * ei.size ≤ n'.toNat * ei.size := Nat.mul_le_mul_right _ hi''
      rw [Nat.add_mul] at this; omega
    have hmod : (i * ei.size + j) % zv.cells.size = j := by
      rw [← hzl', hzl, Nat.add_comm, Nat.add_mul_mod_self_right, Nat.mod_eq_of_lt hj]
    have hjz : j < z.length := by rw [toIs_length hzz, hzl]; exact hj
    have hjs : j < ei.zero.length := by omega
    obtain ⟨k, g1, g2⟩ := toIs_get hzz j ei.zero[j] (by simp [hjs])
    obtain ⟨u, hu, hd⟩ := hzd'.get j ei.zero[j] (by simp [hjs])
    rw [Array.getElem?_toList] at hu
    have hat : at2 (List.replicate n'.toNat z) i j = k := at2_of (ns := z) (by simp [hi'']) g1
    rw [Array.getElem?_map, Array.getElem?_range, if_pos hlt, hat, Option.map_some, hmod]
    have hjv : j < zv.cells.size := by omega
    simp only [hjv, getElem!_pos, Option.some.injEq]
    rw [Array.getElem?_eq_getElem hjv, Option.some.injEq] at hu
    rw [hu, toI_den g2 hd.a.d]
end
end Go.Proofs.Ytkfaflhhkmkdjaa.Ev

namespace Go.Proofs.Ytkfaflhhkmkdjaa.Ev
open Go.RowKit
set_option linter.unusedVariables false
set_option linter.unusedSimpArgs false

section
variable {P : Program} {T : Tab} {B : Nat} {bad : Bad} {w0 : World} {m : Map} {st : St} {a : Act} {w : World} {rd : Nat → Blk} {r : Res}

theorem store_many {g off : Nat} {ty : TypeId} : ∀ (us : List Value) (i : Nat) (w : World) (vs : Array Value), w.heap[g]? = some (.cells vs ty (0, 0)) → off + i + us.length ≤ vs.size → (∀ u ∈ us, u.oneCell' = true) →
    ∃ w' vs', (storeCells ⟨g, off, none⟩ us i).run P w = .ok () w' ∧ w'.heap[g]? = some (.cells vs' ty (0, 0)) ∧ vs'.size = vs.size ∧
      (∀ k, vs'[k]? = if off + i ≤ k ∧ k < off + i + us.length then us[k - (off + i)]? else vs[k]?) ∧ w'.os = w.os ∧ w'.tape = w.tape ∧ w'.output = w.output ∧ w'.heap.size = w.heap.size ∧ (∀ k, k ≠ g → w'.heap[k]? = w.heap[k]?) ∧ w'.drawn = w.drawn
  | [], i, w, vs, hw, hl, h1 => by
    refine ⟨w, vs, rfl, hw, rfl, fun k => ?_, rfl, rfl, rfl, rfl, fun _ _ => rfl, rfl⟩
    rw [if_neg (by simp only [List.length_nil]; omega)]
  | u :: us, i, w, vs, hw, hl, h1 => by
    simp only [List.length_cons] at hl
    have hu : u.oneCell' = true := h1 u (by simp)
    have hlt : off + i < vs.size := by omega
    have hc : w.cell? ⟨g, off + i, none⟩ = some vs[off + i] := by rw [cell_of hw]; simp [hlt]
    have hfz : w.frozen? ⟨g, off + i, none⟩ = false := by simp [World.frozen?, hw]
    have hs : (store (Addr.add ⟨g, off, none⟩ i) u).run P w = .ok () (w.setCell ⟨g, off + i, none⟩ u) := by
      rw [add_off, run_store P w _ u .plain hu, hc]; simp [hfz]
    have hw1 : (w.setCell ⟨g, off + i, none⟩ u).heap[g]? = some (.cells (vs.setIfInBounds (off + i) u) ty (0, 0)) := by
      simp only [World.setCell, Array.getElem?_modify, hw]
      simp
    obtain ⟨w', vs', e1, e2, e3, e4, e5, e6, e7, e8, e9, e10⟩ := store_many (off := off) us (i + 1) _ _ hw1 (by simp; omega) (fun x hx => h1 x (by simp [hx]))
    refine ⟨w', vs', ?_, e2, by rw [e3]; simp, fun k => ?_, e5, e6, e7, by rw [e8]; simp, fun k hk => ?_, e10⟩
    · simp only [storeCells, Sem.run_bind, hs, Result.andThen_ok, e1]
    · rw [e4 k]
      simp only [List.length_cons]
      by_cases hk : k = off + i
      · subst hk
        rw [if_neg (by omega), if_pos (by omega)]
        simp [hlt]
      · by_cases h2 : off + (i + 1) ≤ k ∧ k < off + (i + 1) + us.length
        · rw [if_pos h2, if_pos (by omega)]
          have : k - (off + i) = (k - (off + (i + 1))) + 1 := by omega
          rw [this, List.getElem?_cons_succ]
        · rw [if_neg h2, if_neg (by omega)]
          simp [Ne.symm hk]
    · rw [e9 k hk]; exact Below.heap_setCell _ _ _ _ hk

theorem plain_den {s : SV} {v : Value} (h : plain s = true) (hd : DenS m s v) : v.oneCell' = true := by
  cases s <;> simp only [plain, DenS] at h hd
  case ptr => obtain ⟨l, _, rfl⟩ := hd; rfl
  case pti => obtain ⟨l, _, rfl⟩ := hd; rfl
  case sl => obtain ⟨l, ad, c, _, rfl, _⟩ := hd; rfl
  case osl b id esz len =>
    cases b
    · obtain ⟨l, ad, c, _, rfl, _⟩ := hd.2 rfl; rfl
    · rw [(hd.1 rfl).1]; rfl
  case any => cases h
  case cst => subst hd; exact h
  case np s k p off =>
    cases p with
    | zero => rw [hd.1 rfl]; rfl
    | succ i => obtain ⟨b, _, e⟩ := hd.2 i rfl; rw [e]; rfl
  case mv s p =>
    cases p with
    | zero => rw [hd.1 rfl]; rfl
    | succ i => obtain ⟨b, _, e⟩ := hd.2 i rfl; rw [e]; rfl
  case here id => cases h
  case bm id => cases h
  all_goals (subst hd; rfl)
theorem plains_den : ∀ {ss : List SV} {vs : List Value}, plains ss = true → All2 (DenS m) ss vs → ∀ u ∈ vs, u.oneCell' = true
  | [], [], _, _, u, hu => by simp at hu
  | s :: ss, v :: vs, h, ⟨h1, h2⟩, u, hu => by
    simp only [plains] at h
    split at h
    · rename_i hp
      rcases List.mem_cons.1 hu with rfl | hu
      · exact plain_den hp h1
      · exact plains_den h h2 u hu
    · cases h

theorem setInts_get : ∀ (vs l : List Int) (j k : Nat), (setInts l j vs).length = l.length ∧ (setInts l j vs)[k]? = if j ≤ k ∧ k < j + vs.length ∧ k < l.length then vs[k - j]? else l[k]?
  | [], l, j, k => by
    refine ⟨rfl, ?_⟩
    simp only [setInts, List.length_nil]
    rw [if_neg (by omega)]
  | v :: vs, l, j, k => by
    obtain ⟨h1, h2⟩ := setInts_get vs (l.set j v) (j + 1) k
    refine ⟨by simp [setInts, h1], ?_⟩
    simp only [setInts, h2, List.length_set, List.length_cons]
    by_cases hk : k = j
    · subst hk
      rw [if_neg (by omega)]
      by_cases hl : k < l.length
      · rw [if_pos (by omega)]; simp [hl]
      · rw [if_neg (by omega)]; simp [hl]
    · by_cases hA : j + 1 ≤ k ∧ k < j + 1 + vs.length ∧ k < l.length
      · rw [if_pos hA, if_pos (by omega)]
        have : k - j = (k - (j + 1)) + 1 := by omega
        rw [this, List.getElem?_cons_succ]
      · rw [if_neg hA, if_neg (by omega)]
        simp [Ne.symm hk]

/-- Some cells among others are written. -/
theorem overlay_den {cs cs' vs : List SV} {us vs' : Array Value} {xc : List Value} {off : Nat} (hov : overlay cs off vs = some cs') (hd : All2 (DenS m) cs us.toList) (hxd : All2 (DenS m) vs xc) (h3 : vs'.size = us.size)
    (e4 : ∀ k, vs'[k]? = if off + 0 ≤ k ∧ k < off + 0 + xc.length then xc[k - (off + 0)]? else us[k]?) : All2 (DenS m) cs' vs'.toList := by
  obtain ⟨o1, o2, o3⟩ := overlay_eq hov
  have hul := hd.length
  have hxl := hxd.length
  simp only [Array.length_toList] at hul
  refine all2_of_get (by simp; omega) (fun k x y h1 h2 => ?_)
  rw [Array.getElem?_toList, e4 k] at h2
  simp only [Nat.add_zero] at h2
  rw [o3] at h1
  by_cases hA : off ≤ k ∧ k < off + xc.length
  · rw [if_pos hA] at h2
    rw [List.append_assoc, List.getElem?_append_right (by simp; omega), List.getElem?_append_left (by simp; omega)] at h1
    have hmin : min off cs.length = off := by omega
    rw [List.length_take, hmin] at h1
    obtain ⟨y', hy', hd'⟩ := hxd.get _ _ h1
    rw [hy'] at h2; cases h2
    exact hd'
  · rw [if_neg hA] at h2
    have h1' : cs[k]? = some x := by
      by_cases hB : k < off
      · rw [List.append_assoc, List.getElem?_append_left (by simp; omega), List.getElem?_take_of_lt hB] at h1
        exact h1
      · rw [List.getElem?_append_right (by simp; omega), List.getElem?_drop] at h1
        rw [← h1]; congr 1; simp; omega
    obtain ⟨y', hy', hd'⟩ := hd.get _ _ h1'
    rw [Array.getElem?_toList] at hy'
    rw [hy'] at h2; cases h2
    exact hd'

/-- An object of the store is written. -/
theorem StoreH.upd {H H' : Hp} {w' : World} {k i b : Nat} {cs' : List SV} {vs' : Array Value} {ty : TypeId} (h : StoreH m w H) (hg : m.g k i = some b) (hw : w'.heap[b]? = some (.cells vs' ty (0, 0))) (hk : ∀ c, c ≠ b → w'.heap[c]? = w.heap[c]?)
    (hp : putS H k (i + 1) cs' = some H') (hd : All2 (DenS m) cs' vs'.toList) : StoreH m w' H' := by
  have other : ∀ k' i' b', m.g k' i' = some b' → ¬ (k' = k ∧ i' = i) → w'.heap[b']? = w.heap[b']? := fun k' i' b' h1 h2 => hk _ fun e => h2 (m.inj _ _ _ _ b' h1 (e ▸ hg))
  unfold putS at hp
  split at hp
  · split at hp
    rotate_left
    · cases hp
    rename_i x hx
    cases hp
    refine ⟨fun j y hy => ?_, fun j y hy => ?_, fun j y hy => ?_, fun k' j b' hb => ?_⟩
    · simp only [setN, Nat.add_sub_cancel] at hy
      by_cases e : j = i
      · subst e
        rw [List.getElem?_set_self'] at hy
        have : y = x := by
          cases hh : H.nd[j]? with
          | none => rw [hh] at hy; cases hy
          | some z => rw [hh] at hy; exact (Option.some.inj hy).symm
        subst this
        exact ⟨b, vs', ty, hg, hw, ndOf_den hx hd⟩
      · rw [List.getElem?_set_ne (Ne.symm e)] at hy
        obtain ⟨b', us, ty', e1, e2, e3⟩ := h.nd j y hy
        exact ⟨b', us, ty', e1, (other _ _ _ e1 (fun q => e q.2)).trans e2, e3⟩
    · obtain ⟨b', us, ty', e1, e2, e3⟩ := h.tr j y hy
      exact ⟨b', us, ty', e1, (other _ _ _ e1 (fun q => by cases q.1)).trans e2, e3⟩
    · obtain ⟨b', us, ty', e1, e2, e3⟩ := h.mp j y hy
      exact ⟨b', us, ty', e1, (other _ _ _ e1 (fun q => by cases q.1)).trans e2, e3⟩
    · have := h.dom k' j b' hb
      simpa [setN] using this
  · split at hp
    rotate_left
    · cases hp
    rename_i x hx
    cases hp
    refine ⟨fun j y hy => ?_, fun j y hy => ?_, fun j y hy => ?_, fun k' j b' hb => ?_⟩
    · obtain ⟨b', us, ty', e1, e2, e3⟩ := h.nd j y hy
      exact ⟨b', us, ty', e1, (other _ _ _ e1 (fun q => by cases q.1)).trans e2, e3⟩
    · simp only [setT, Nat.add_sub_cancel] at hy
      by_cases e : j = i
      · subst e
        rw [List.getElem?_set_self'] at hy
        have : y = x := by
          cases hh : H.tr[j]? with
          | none => rw [hh] at hy; cases hy
          | some z => rw [hh] at hy; exact (Option.some.inj hy).symm
        subst this
        exact ⟨b, vs', ty, hg, hw, trOf_den hx hd⟩
      · rw [List.getElem?_set_ne (Ne.symm e)] at hy
        obtain ⟨b', us, ty', e1, e2, e3⟩ := h.tr j y hy
        exact ⟨b', us, ty', e1, (other _ _ _ e1 (fun q => e q.2)).trans e2, e3⟩
    · obtain ⟨b', us, ty', e1, e2, e3⟩ := h.mp j y hy
      exact ⟨b', us, ty', e1, (other _ _ _ e1 (fun q => by cases q.1)).trans e2, e3⟩
    · have := h.dom k' j b' hb
      simpa [setT] using this
  · cases hp
/-- A map of the store is written. -/
theorem StoreH.updM {H : Hp} {w' : World} {p b : Nat} {es : List (Int × Nat)} {ents : Array MapEntry} {cl : Nat} (h : StoreH m w H) (hp : 0 < p) (hg : m.g 2 (p - 1) = some b) (hw : w'.heap[b]? = some (.map ents cl)) (hk : ∀ c, c ≠ b → w'.heap[c]? = w.heap[c]?)
    (hd : All2 (fun (x : Int × Nat) (e : MapEntry) => e.key = .int .i64 x.1 ∧ NpV m.g 0 x.2 0 e.val) es ents.toList) : StoreH m w' ⟨H.nd, H.tr, setM H.mp p es⟩ := by
  have other : ∀ k' i' b', m.g k' i' = some b' → ¬ (k' = 2 ∧ i' = p - 1) → w'.heap[b']? = w.heap[b']? := fun k' i' b' h1 h2 => hk _ fun e => h2 (m.inj _ _ _ _ b' h1 (e ▸ hg))
  refine ⟨fun j y hy => ?_, fun j y hy => ?_, fun j y hy => ?_, fun k' j b' hb => ?_⟩
  · obtain ⟨b', us, ty', e1, e2, e3⟩ := h.nd j y hy
    exact ⟨b', us, ty', e1, (other _ _ _ e1 (fun q => by cases q.1)).trans e2, e3⟩
  · obtain ⟨b', us, ty', e1, e2, e3⟩ := h.tr j y hy
    exact ⟨b', us, ty', e1, (other _ _ _ e1 (fun q => by cases q.1)).trans e2, e3⟩
  · simp only [setM] at hy
    by_cases e : j = p - 1
    · subst e
      rw [List.getElem?_set_self'] at hy
      have : y = es := by
        cases hh : H.mp[p - 1]? with
        | none => rw [hh] at hy; cases hy
        | some z => rw [hh] at hy; exact (Option.some.inj hy).symm
      subst this
      exact ⟨b, ents, cl, hg, hw, hd⟩
    · rw [List.getElem?_set_ne (Ne.symm e)] at hy
      obtain ⟨b', us, ty', e1, e2, e3⟩ := h.mp j y hy
      exact ⟨b', us, ty', e1, (other _ _ _ e1 (fun q => e q.2)).trans e2, e3⟩
  · have := h.dom k' j b' hb
    simpa [setM] using this

theorem toI_int (n : Int) : toI (.int .i64 n) = some n := rfl
theorem toPt_np (k s p : Nat) : toPt k (.np s k p 0) = some p := by simp [toPt]
theorem toMv_mv (s p : Nat) : toMv (.mv s p) = some p := rfl
/-- A field that is written, as cells that are laid over others. -/
theorem putW_eq {nd : List Nd} {tr : List (Nat × Nat)} {mp : List (List (Int × Nat))} {s k p off : Nat} {vs cs : List SV} {ps : List Prop} {H' : Hp} (ho : objS s nd tr k p = some (cs, ps)) (h : putW nd tr mp k p off vs = some H') :
    ∃ cs', overlay cs off vs = some cs' ∧ putS ⟨nd, tr, mp⟩ k p cs' = some H' := by
  unfold putW at h
  split at h
  · cases ho
    split at h
    · split at h
      · iterate 4 (split at h; rotate_left; cases h)
        rename_i h0 _ _ h1 _ _ h2 _ _ h3
        cases h
        exact ⟨_, rfl, by simp only [putS, ndOf, toI_int, toPt_np, *]; rfl⟩
      · cases h
    · split at h
      all_goals first | (cases h; done) | skip
      all_goals (split at h <;> first | (cases h; done) | skip)
      all_goals (cases h; exact ⟨_, rfl, by simp only [putS, ndOf, toI_int, toPt_np, *]; rfl⟩)
    · cases h
  · cases ho
    split at h
    · split at h
      all_goals first | (cases h; done) | skip
      all_goals (split at h <;> first | (cases h; done) | skip)
      all_goals (cases h; exact ⟨_, rfl, by simp only [putS, trOf, toMv_mv, toPt_np, *]; rfl⟩)
    · cases h
  · cases h

theorem sound_store {t : TypeId} {p x : SV} {pv xv : Value} (hT : T.Ok P) (hrd : ∀ id, rd id = getB st.heap id ∨ rd id = .dead) (he : effStore T rd t p x = some r) (hp : ∀ q ∈ r.pre, q) (hpd : Den m p pv) (hx : Den m x xv) (H : Holds B bad w0 m st a w) :
    ∃ w', (Instr.storeAt t pv xv).run P w = .ok () w' ∧ Holds B bad w0 m ⟨st.tmps, setBs st.heap r.wr⟩ a w' ∧ r.val = .any := by
  unfold effStore at he
  split at he
  rotate_left
  · cases he
  rename_i ti hti
  have hsz := (hT t ti hti).size (w := w)
  split at he
  rotate_left
  · cases he
  rename_i vs hvs
  split at he
  rotate_left
  · cases he
  rename_i hg
  simp only [Bool.and_eq_true] at hg
  have hlen := lenIs_eq hg.1
  have hxd := cellsOf_den hvs hx
  have hone := plains_den hg.2 hxd
  have hxl := hxd.length
  simp only [Array.length_toList] at hxl
  have hstore : ∀ (g off : Nat), (Instr.storeAt t (.pointer (some ⟨g, off, none⟩)) xv).run P w = (storeCells ⟨g, off, none⟩ xv.cells.toList 0).run P w := fun g off => by
    have : xv.cells.size = ti.size := by omega
    simp [Instr.storeAt, Instr.sureAddr, storeVar, hsz, this]
  split at he
  · rename_i id off
    split at he
    rotate_left
    · cases he
    rename_i cs hcs
    split at he
    rotate_left
    · cases he
    rename_i cs' hov
    cases he
    have hbl : getB st.heap id = .cells cs := by rcases hrd id with h | h <;> rw [h] at hcs; exact hcs; cases hcs
    have hB := H.blk id
    rw [hbl] at hB
    obtain ⟨l, us, ty, hm, ho, hw, hd⟩ := hB
    obtain ⟨l', hm', rfl⟩ := hpd
    have e : l = l' := Option.some.inj (hm.symm.trans hm')
    subst e
    obtain ⟨o1, o2, o3⟩ := overlay_eq hov
    have hul := hd.length
    simp only [Array.length_toList] at hul
    rw [ho, Nat.zero_add]
    obtain ⟨w', vs', e1, e2, e3, e4, e5, e6, e7, e8, e9, e10⟩ := store_many (P := P) (g := l.b) (off := off) (ty := ty) xv.cells.toList 0 w us hw (by simp; omega) hone
    refine ⟨w', by rw [hstore, e1], H.write hm (by rw [hbl]; rfl) ⟨l, vs', ty, hm, ho, e2, ?_⟩ e5 e6 e7 e8 e9 (hdr := Nat.le_of_eq e10.symm), rfl⟩
    refine all2_of_get (by simp; omega) (fun k x y h1 h2 => ?_)
    rw [Array.getElem?_toList, e4 k] at h2
    simp only [Nat.add_zero, Array.length_toList] at h2
    rw [o3] at h1
    by_cases hA : off ≤ k ∧ k < off + xv.cells.size
    · rw [if_pos hA] at h2
      rw [List.append_assoc, List.getElem?_append_right (by simp; omega), List.getElem?_append_left (by simp; omega)] at h1
      have hmin : min off cs.length = off := by omega
      rw [List.length_take, hmin] at h1
      obtain ⟨y', hy', hd'⟩ := hxd.get _ _ h1
      rw [hy'] at h2; cases h2
      exact hd'
    · rw [if_neg hA] at h2
      have h1' : cs[k]? = some x := by
        by_cases hB : k < off
        · rw [List.append_assoc, List.getElem?_append_left (by simp; omega), List.getElem?_take_of_lt hB] at h1
          exact h1
        · rw [List.getElem?_append_right (by simp; omega), List.getElem?_drop] at h1
          rw [← h1]; congr 1; simp; omega
      obtain ⟨y', hy', hd'⟩ := hd.get _ _ h1'
      rw [Array.getElem?_toList] at hy'
      rw [hy'] at h2; cases h2
      exact hd'
  · rename_i id esz i j
    split at he
    rotate_left
    · cases he
    rename_i ok esz' xs hcs
    split at he
    rotate_left
    · cases he
    rename_i ns hns
    split at he
    rotate_left
    · cases he
    rename_i hg2
    cases he
    simp only [Bool.and_eq_true] at hg2
    have hesz := Nat.eq_of_beq_eq_true hg2.1
    subst hesz
    have hj := Nat.le_of_ble_eq_true hg2.2
    have hok : ok = true := hp _ (by simp)
    have hi : i < xs.length := hp _ (by simp)
    have hrow : (xs.getD i []).length = esz := hp _ (by simp)
    have hbl : getB st.heap id = .arr true ok esz xs := by rcases hrd id with h | h <;> rw [h] at hcs; exact hcs; cases hcs
    have hB := H.blk id
    rw [hbl] at hB
    obtain ⟨l, us, ty, fr, hm, hw, hd, hown⟩ := hB hok
    obtain ⟨rfl, ho, hus, hxl'⟩ := hown rfl
    obtain ⟨l', hm', rfl⟩ := hpd
    have e : l = l' := Option.some.inj (hm.symm.trans hm')
    subst e
    have hval := ints_of hns hxd
    have hnl : ns.length = ti.size := by rw [toIs_length hns, hlen]
    have hle : i * esz + esz ≤ us.size := by
      have : (i + 1) * esz ≤ l.c * esz := Nat.mul_le_mul_right _ (by omega)
      rw [Nat.add_mul] at this; omega
    rw [ho, Nat.zero_add]
    obtain ⟨w', vs', e1, e2, e3, e4, e5, e6, e7, e8, e9, e10⟩ := store_many (P := P) (g := l.b) (off := i * esz + j) (ty := ty) xv.cells.toList 0 w us hw (by simp; omega) hone
    refine ⟨w', by rw [hstore, e1], H.write hm (by rw [hbl]; simp [Blk.own, hok]) (fun _ => ⟨l, vs', ty, (0, 0), hm, e2, fun i' j' hi' hj' => ?_, fun _ => ⟨rfl, ho, by rw [e3]; exact hus, by simp [upd2]; exact hxl'⟩⟩) e5 e6 e7 e8 e9 (hdr := Nat.le_of_eq e10.symm), rfl⟩
    have hi'' : i' < xs.length := by simpa [upd2] using hi'
    rw [ho, Nat.zero_add, e4]
    simp only [Nat.add_zero, Array.length_toList]
    have hcs2 : xv.cells.size = ns.length := by omega
    have hold := hd i' j' hi'' hj'
    rw [ho, Nat.zero_add] at hold
    by_cases hii : i' = i
    · subst hii
      have hat : at2 (upd2 xs i' j ns) i' j' = ((setInts (xs.getD i' []) j ns)[j']?).getD 0 := by
        simp [at2, upd2, hi'']
      obtain ⟨_, hget⟩ := setInts_get ns (xs.getD i' []) j j'
      rw [hat, hget]
      by_cases hA : j ≤ j' ∧ j' < j + ns.length
      · rw [if_pos (by omega), if_pos (by omega)]
        have hv : xv.cells.toList = ns.map (Value.int .i64) := by rw [hval]; rfl
        have hlt : j' - j < ns.length := by omega
        rw [hv, show i' * esz + j' - (i' * esz + j) = j' - j by omega]
        simp [hlt]
      · rw [if_neg (by omega), if_neg (by omega), hold]
        simp [at2]
    · have hat : at2 (upd2 xs i j ns) i' j' = at2 xs i' j' := by
        simp [at2, upd2, Ne.symm hii]
      rw [hat, if_neg, hold]
      intro hA
      rcases Nat.lt_or_gt_of_ne hii with h | h
      · have : (i' + 1) * esz ≤ i * esz := Nat.mul_le_mul_right _ h
        rw [Nat.add_mul] at this; omega
      · have : (i + 1) * esz ≤ i' * esz := Nat.mul_le_mul_right _ h
        rw [Nat.add_mul] at this; omega
  · rename_i s k q off
    split at he
    rotate_left
    · cases he
    rename_i H0 hH
    obtain ⟨nd, tr, mp⟩ := H0
    dsimp only at he
    split at he
    rotate_left
    · cases he
    rename_i cs ps hos
    split at he
    rotate_left
    · cases he
    rename_i H' hputw
    cases he
    obtain ⟨cs', hov, hH'⟩ := putW_eq hos hputw
    have hbl : getB st.heap s = .store ⟨nd, tr, mp⟩ := by rcases hrd s with h | h <;> rw [h] at hH; exact hH; cases hH
    have hB := H.blk s
    rw [hbl] at hB
    obtain ⟨hB0, hB⟩ := hB
    obtain ⟨i, b, us, ty, rfl, hg, hw, hd⟩ := objS_den hos hp hB
    obtain ⟨b', hg', rfl⟩ := hpd.2 i rfl
    have e : b = b' := Option.some.inj (hg.symm.trans hg')
    subst e
    obtain ⟨o1, o2, o3⟩ := overlay_eq hov
    have hul := hd.length
    simp only [Array.length_toList] at hul
    obtain ⟨w', vs', e1, e2, e3, e4, e5, e6, e7, e8, e9, e10⟩ := store_many (P := P) (g := b) (off := off) (ty := ty) xv.cells.toList 0 w us hw (by simp; omega) hone
    exact ⟨w', by rw [hstore, e1], H.swrite hbl (Map.le.refl m) (fun _ => rfl) (hB.upd hg e2 e9 hH' (overlay_den hov hd hxd e3 e4)) e5 e6 e7 (Nat.le_of_eq e8.symm) (fun k hk hkk => e9 k fun e => hkk _ _ (e ▸ hg)) (fun _ _ _ h => Or.inl h) (hdr := Nat.le_of_eq e10.symm), rfl⟩
  · cases he

/-- A block gets another number. -/
theorem Holds.rename (h : Holds B bad w0 m st a w) {id nid : Nat} {l : Place} (hn : m nid = none) (hm : m id = some l) (hns : (getB st.heap id).live = true) :
    Holds B bad w0 (m.set nid l) ⟨st.tmps, setB (setB st.heap nid (getB st.heap id)) id .dead⟩ a w := by
  have hle := Map.le_set hn l
  have hne : id ≠ nid := fun e => by rw [e, hn] at hm; cases hm
  have hold : ∀ i p, i ≠ nid → (m.set nid l) i = some p → m i = some p := fun i p hi e => by simpa [Map.set_f, hi] using e
  have hnew : ∀ p, (m.set nid l) nid = some p → p = l := fun p e => by simp [Map.set_f] at e; exact e.symm
  have hg : ∀ i, getB (setB (setB st.heap nid (getB st.heap id)) id .dead) i = if i = id then .dead else if i = nid then getB st.heap id else getB st.heap i := fun i => by
    rw [getB_setB, getB_setB]
  refine ⟨h.defers, h.size, fun t => (h.tmp t).le hle, fun i => ?_, fun i j p q hij h1 h2 h3 h4 => ?_, fun i p h1 h3 => ?_, h.below, h.base, ⟨fun j p k i b h1 h2 h3 => ?_, h.gok.own, fun s s' H H' h1 h2 => ?_, h.gok.ext, h.gok.q⟩⟩
  · rw [hg]
    by_cases e : i = id
    · rw [if_pos e]; trivial
    · rw [if_neg e]
      by_cases e2 : i = nid
      · rw [if_pos e2]
        subst e2
        have hb := h.blk id
        cases hbb : getB st.heap id with
        | dead => trivial
        | store H => rw [hbb] at hns; cases hns
        | cells cs =>
          rw [hbb] at hb
          obtain ⟨l', vs, ty, hm', ho, hw, hd⟩ := hb
          rw [hm] at hm'; cases hm'
          exact ⟨l, vs, ty, by simp [Map.set_f], ho, hw, hd.mono fun _ _ => DenS.le hle⟩
        | arr ow ok esz xs =>
          rw [hbb] at hb
          intro hok
          obtain ⟨l', vs, ty, fr, hm', hw, hd⟩ := hb hok
          rw [hm] at hm'; cases hm'
          exact ⟨l, vs, ty, fr, by simp [Map.set_f], hw, hd⟩
        | arrk ks xs =>
          rw [hbb] at hb
          obtain ⟨l', vs, ty, fr, hm', hw, hd⟩ := hb
          rw [hm] at hm'; cases hm'
          exact ⟨l, vs, ty, fr, by simp [Map.set_f], hw, hd⟩
        | mapb es =>
          rw [hbb] at hb
          obtain ⟨l', ents, ck, hm', hw, hd⟩ := hb
          rw [hm] at hm'; cases hm'
          exact ⟨l, ents, ck, by simp [Map.set_f], hw, hd⟩
      · rw [if_neg e2]
        exact (h.blk i).keep hle (fun _ _ _ => rfl) (fun _ _ => rfl) (fun _ _ _ _ => rfl)
  · rw [hg] at h1 h2
    by_cases ei : i = id
    · rw [if_pos ei] at h1; cases h1
    by_cases ej : j = id
    · rw [if_pos ej] at h2; cases h2
    rw [if_neg ei] at h1
    rw [if_neg ej] at h2
    by_cases ei2 : i = nid
    · rw [if_pos ei2] at h1
      subst ei2
      rw [if_neg (Ne.symm hij)] at h2
      rw [hnew p h3]
      exact h.apart id j l q (Ne.symm ej) h1 h2 hm (hold j q (Ne.symm hij) h4)
    · rw [if_neg ei2] at h1
      by_cases ej2 : j = nid
      · rw [if_pos ej2] at h2
        subst ej2
        rw [hnew q h4]
        exact h.apart i id p l ei h1 h2 (hold i p ei2 h3) hm
      · rw [if_neg ej2] at h2
        exact h.apart i j p q hij h1 h2 (hold i p ei2 h3) (hold j q ej2 h4)
  · rw [hg] at h1
    by_cases ei : i = id
    · rw [if_pos ei] at h1; cases h1
    rw [if_neg ei] at h1
    by_cases ei2 : i = nid
    · rw [if_pos ei2] at h1
      subst ei2
      rw [hnew p h3]
      exact h.own id l h1 hm
    · rw [if_neg ei2] at h1
      exact h.own i p h1 (hold i p ei2 h3)
  · rw [hg] at h1
    by_cases ei : j = id
    · rw [if_pos ei] at h1; cases h1
    rw [if_neg ei] at h1
    by_cases ei2 : j = nid
    · rw [if_pos ei2] at h1
      subst ei2
      rw [hnew p h2]
      exact h.gok.apart id l k i b h1 hm h3
    · rw [if_neg ei2] at h1
      exact h.gok.apart j p k i b h1 (hold j p ei2 h2) h3
  · rw [hg] at h1 h2
    have pick : ∀ x X, (if x = id then Blk.dead else if x = nid then getB st.heap id else getB st.heap x) = .store X → getB st.heap x = .store X := fun x X hx => by
      by_cases e : x = id
      · rw [if_pos e] at hx; cases hx
      · rw [if_neg e] at hx
        by_cases e2 : x = nid
        · rw [if_pos e2] at hx; rw [hx] at hns; cases hns
        · rwa [if_neg e2] at hx
    exact h.gok.one s s' H H' (pick s H h1) (pick s' H' h2)
end
end Go.Proofs.Ytkfaflhhkmkdjaa.Ev

namespace Go.Proofs.Ytkfaflhhkmkdjaa.Ev
open Go.RowKit
set_option linter.unusedVariables false
set_option linter.unusedSimpArgs false

section
variable {P : Program} {T : Tab} {B : Nat} {bad : Bad} {w0 : World} {m : Map} {st : St} {a : Act} {w : World} {rd : Nat → Blk} {r : Res}

/-- The cells of n elements of a row, from element off on. -/
def rowCells (xs : List (List Int)) (off esz n : Nat) : Array Value := ((List.range (n * esz)).map fun k => Value.int .i64 (at2 xs (off + k / esz) (k % esz))).toArray
theorem rowCells_size (xs : List (List Int)) (off esz n : Nat) : (rowCells xs off esz n).size = n * esz := by simp [rowCells]
theorem rowCells_get {xs : List (List Int)} {off esz n i j : Nat} (hi : i < n) (hj : j < esz) : (rowCells xs off esz n)[i * esz + j]? = some (.int .i64 (at2 xs (off + i) j)) := by
  have hlt : i * esz + j < n * esz := by
    have : (i + 1) * esz ≤ n * esz := Nat.mul_le_mul_right _ hi
    rw [Nat.add_mul] at this; omega
  have h1 : (i * esz + j) / esz = i := by
    rw [Nat.add_comm, Nat.add_mul_div_right _ _ (by omega), Nat.div_eq_of_lt hj, Nat.zero_add]
  have h2 : (i * esz + j) % esz = j := by
    rw [Nat.add_comm, Nat.add_mul_mod_self_right, Nat.mod_eq_of_lt hj]
  simp [rowCells, hlt, h1, h2]
theorem rowCells_one (xs : List (List Int)) (off esz n : Nat) : ∀ u ∈ (rowCells xs off esz n).toList, u.oneCell' = true := by
  intro u hu
  simp only [rowCells, List.mem_map] at hu
  obtain ⟨k, _, rfl⟩ := hu
  rfl

theorem load_row {g o off esz n : Nat} {xs : List (List Int)} {vs : Array Value} {ty : TypeId} {fr : Nat × Nat} (hw : w.heap[g]? = some (.cells vs ty fr)) (hz : 0 < esz)
    (h : ∀ i j, i < xs.length → j < esz → vs[o + (i * esz + j)]? = some (.int .i64 (at2 xs i j))) (hn : off + n ≤ xs.length) :
    (loadCells ⟨g, o + off * esz, none⟩ (n * esz)).run P w = .ok (rowCells xs off esz n) w := by
  refine run_loadCells w _ _ _ (fun k hk => ?_)
  have hj : k % esz < esz := Nat.mod_lt _ hz
  have hi : k / esz < n := (Nat.div_lt_iff_lt_mul hz).2 hk
  rw [add_off, cell_of hw, ← h (off + k / esz) (k % esz) (by omega) hj]
  congr 1
  have := Nat.div_add_mod k esz
  rw [Nat.add_mul, Nat.mul_comm (k / esz) esz]; omega

theorem at2_take {xs : List (List Int)} {n i : Nat} (h : i < n) (j : Nat) : at2 (xs.take n) i j = at2 xs i j := by
  simp [at2, List.getElem?_take_of_lt h]
theorem at2_drop (xs : List (List Int)) (n i j : Nat) : at2 (xs.drop n) i j = at2 xs (n + i) j := by
  simp [at2]
theorem at2_left {xs ys : List (List Int)} {i : Nat} (h : i < xs.length) (j : Nat) : at2 (xs ++ ys) i j = at2 xs i j := by
  simp [at2, List.getElem?_append_left h]
theorem at2_right {xs ys : List (List Int)} {i : Nat} (h : xs.length ≤ i) (j : Nat) : at2 (xs ++ ys) i j = at2 ys (i - xs.length) j := by
  simp [at2, List.getElem?_append_right h]

theorem next_le (need cap : Nat) (h : cap < need) : Builtin.nextslicecap need cap ≤ 4 * need + 4000 := by
  unfold Builtin.nextslicecap
  split
  · omega
  · split
    · omega
    · have g : ∀ (k c : Nat), Builtin.growBy need k c ≤ max c (need + (need + 768) / 4) := by
        intro k
        induction k with
        | zero => intro c; simp [Builtin.growBy]; omega
        | succ k ih =>
          intro c
          simp only [Builtin.growBy]
          split
          · omega
          · have := ih (c + (c + 768) / 4); omega
      have := g 4 cap
      omega

/-- The elements that are appended: where they lie. -/
structure Src (m : Map) (w : World) (esz : Nat) (x : Value) (n : Nat) (ys : List (List Int)) (off : Nat) : Prop where
  pos : 0 < n
  lies : ∃ b o k vs ty fr, x = .slice (some ⟨b, o + off * esz, none⟩) n k ∧ w.heap[b]? = some (.cells vs ty fr) ∧ (∀ i j, i < ys.length → j < esz → vs[o + (i * esz + j)]? = some (.int .i64 (at2 ys i j)))
  le : off + n ≤ ys.length

theorem src_of {jd esz off n : Nat} {ow ok : Bool} {ys : List (List Int)} {x : Value} (hB : BlkH m jd w (.arr ow ok esz ys)) (hx : Den m (.sl jd esz off n) x) (hok : ok = true) (hn : 0 < n) (hle : off + n ≤ ys.length) : Src m w esz x n ys off := by
  obtain ⟨l, vs, ty, fr, hm, hw, hd, _⟩ := hB hok
  obtain ⟨l', ad, c, hm', rfl, hc, hlc, had⟩ := hx
  rw [hm] at hm'; cases hm'
  refine ⟨hn, ⟨l.b, l.o, c, vs, ty, fr, ?_, hw, hd⟩, hle⟩
  rw [had (by omega)]

/-- append, whole: what it runs to. base: nil (len = cap = 0), or the head of block g, whose first cells are xs. -/
theorem run_append {t t2 e e2 : TypeId} {ei : TI} {ie : TypeInfo} {zv : Value} {ty : TypeId} (ht : P.underlying t = some (.slice e)) (ht2 : P.underlying t2 = some (.slice e2)) (hi : P.info? e = some ie) (hz : ie.zero = some zv)
    (hsz : ie.size = ei.size) (hby : ie.bytes = ei.bytes) (hzl : zv.cells.size = ei.size) (hpos : 0 < ei.size) (hb1 : 1 ≤ ei.bytes) (hb2 : ei.bytes ≤ 1024)
    {s x : Value} {len cap n off : Nat} {xs ys : List (List Int)} (S : Src m w ei.size x n ys off) (hlen : len ≤ xs.length) (hbig : len + n ≤ 4294967296)
    (hs : (s = .slice none 0 0 ∧ len = 0 ∧ cap = 0) ∨ ∃ g ad vs ty' fr, s = .slice (some ad) len cap ∧ (0 < cap → ad = ⟨g, 0, none⟩) ∧ len ≤ cap ∧ w.heap[g]? = some (.cells vs ty' fr) ∧ (∀ i j, i < xs.length → j < ei.size → vs[i * ei.size + j]? = some (.int .i64 (at2 xs i j)))) :
    (len + n ≤ cap ∧ ∃ g ad, s = .slice (some ad) len cap ∧ (0 < cap → ad = ⟨g, 0, none⟩) ∧ ∀ w', (storeCells ⟨g, len * ei.size, none⟩ (rowCells ys off ei.size n).toList 0).run P w = .ok () w' →
        (Builtin.append_ #[t, t2] ty #[s, x]).run P w = .ok (.slice (some ⟨g, 0, none⟩) (len + n) cap) w') ∨
    (∃ k cells, len + n ≤ k ∧ cells.size = k * ei.size ∧ (∀ i j, i < len → j < ei.size → cells[i * ei.size + j]? = some (.int .i64 (at2 xs i j))) ∧ (∀ i j, i < n → j < ei.size → cells[(len + i) * ei.size + j]? = some (.int .i64 (at2 ys (off + i) j))) ∧
        (Builtin.append_ #[t, t2] ty #[s, x]).run P w = .ok (.slice (some ⟨w.heap.size, 0, none⟩) (len + n) k) (w.drew.alloc (.cells cells e))) := by
  obtain ⟨hn, ⟨xb, xo, xk, xvs, xty, xfr, rfl, hxw, hxd⟩, hxle⟩ := S
  have hI : ∀ w, (typeInfo e).run P w = .ok ie w := fun w => by simp [typeInfo, hi]
  have hS : ∀ w, (sizeOf e).run P w = .ok ei.size w := fun w => by simp [sizeOf, hI, hsz]
  have hZ : ∀ w, (zeroValue e).run P w = .ok zv w := fun w => by simp [zeroValue, hI, hz]
  have hnew : (Builtin.firstCells ei.size n (.slice (some ⟨xb, xo + off * ei.size, none⟩) n xk)).run P w = .ok (rowCells ys off ei.size n) w := load_row hxw hpos hxd hxle
  have hnew' : (Builtin.firstCells ei.size n (.slice (some ⟨xb, xo + off * ei.size, none⟩) n xk)).run P w.drew = .ok (rowCells ys off ei.size n) w.drew := load_row (w := w.drew) hxw hpos hxd hxle
  have hgrow : cap < len + n → ∃ k, len + n ≤ k ∧ (choose (.appendCap (len + n) cap e)).run P w = .ok k w.drew := fun hc => by
    refine ⟨(Question.appendCap (len + n) cap e).cut (w.tape w.drawn (.appendCap (len + n) cap e)), ?_, ?_⟩
    · simp [Question.cut]
    · rfl
  have hcell : ∀ (old : Array Value) (k : Nat), old.size = len * ei.size → len + n ≤ k →
      (old ++ rowCells ys off ei.size n ++ Builtin.zeroCells zv.cells (k - (len + n))).size = k * ei.size ∧
      (∀ i j, i < n → j < ei.size → (old ++ rowCells ys off ei.size n ++ Builtin.zeroCells zv.cells (k - (len + n)))[(len + i) * ei.size + j]? = some (.int .i64 (at2 ys (off + i) j))) := fun old k ho hk => by
    have e1 : (len + n) * ei.size + (k - (len + n)) * ei.size = k * ei.size := by rw [← Nat.add_mul]; congr 1; omega
    refine ⟨?_, fun i j hi' hj => ?_⟩
    · simp only [Array.size_append, ho, rowCells_size, Builtin.zeroCells, Array.size_map, Array.size_range, hzl]
      rw [← Nat.add_mul]; exact e1
    · have h1 : i * ei.size + j < n * ei.size := by
        have : (i + 1) * ei.size ≤ n * ei.size := Nat.mul_le_mul_right _ hi'
        rw [Nat.add_mul] at this; omega
      have h2 : (len + i) * ei.size + j = len * ei.size + (i * ei.size + j) := by rw [Nat.add_mul]; omega
      rw [h2, Array.getElem?_append_left (by rw [Array.size_append, ho, rowCells_size]; omega), Array.getElem?_append_right (by omega), ho, Nat.add_sub_cancel_left]
      exact rowCells_get hi' hj
  have hnb : ∀ c, c < len + n → ¬ (2 : Nat) ^ 48 < Builtin.nextslicecap (len + n) c * ei.bytes := fun c hc => by
    have h1 := next_le (len + n) c hc
    have h2 : Builtin.nextslicecap (len + n) c * ei.bytes ≤ (4 * (len + n) + 4000) * 1024 := Nat.mul_le_mul h1 hb2
    omega
  rcases hs with ⟨rfl, rfl, rfl⟩ | ⟨g, ad, vs, ty', fr, rfl, had, hlc, hgw, hgd⟩
  · right
    obtain ⟨k, hk1, hk2⟩ := hgrow (by omega)
    obtain ⟨c1, c2⟩ := hcell #[] k (by simp) hk1
    refine ⟨k, _, hk1, c1, fun i j hi' => absurd hi' (Nat.not_lt_zero _), c2, ?_⟩
    simp only [Nat.zero_add] at *
    have hlt : ¬ n ≤ 0 := by omega
    have hb0 : ¬ ei.bytes = 0 := by omega
    have hnb' := hnb 0 (by omega)
    have hold : (Builtin.firstCells ei.size 0 (.slice none 0 0)).run P w.drew = .ok #[] w.drew := by simp [Builtin.firstCells]
    simp only [Builtin.append_, Sem.run_bind, run_underlying ht, Result.andThen_ok, hS, Sem.run_pure, List.getElem?_toArray, List.getElem?_cons_zero, List.getElem?_cons_succ, run_underlying ht2, Bool.false_eq_true, if_false, Builtin.lenOf, Nat.zero_add, Sem.run_ite, if_neg hlt, hI, hby, hb0, or_self, and_false, hnb', hk2, run_askRoom, hold, hnew', hZ, newRow, run_newObj, Bool.not_false, if_true]
    rfl
  · by_cases hcap : len + n ≤ cap
    · left
      refine ⟨hcap, g, ad, rfl, had, fun w' hw' => ?_⟩
      have had' := had (by omega)
      subst had'
      simp only [Builtin.append_, Sem.run_bind, run_underlying ht, Result.andThen_ok, hS, Sem.run_pure, List.getElem?_toArray, List.getElem?_cons_zero, List.getElem?_cons_succ, run_underlying ht2, Bool.false_eq_true, if_false, Builtin.lenOf, Sem.run_ite, if_pos hcap, hnew, add_off, Nat.zero_add, hw', Bool.not_false, if_true]
    · right
      obtain ⟨k, hk1, hk2⟩ := hgrow (by omega)
      have hold : (Builtin.firstCells ei.size len (.slice (some ad) len cap)).run P w.drew = .ok (rowCells xs 0 ei.size len) w.drew := by
        by_cases hc0 : 0 < cap
        · have had' := had hc0
          subst had'
          have := load_row (P := P) (w := w.drew) (g := g) (o := 0) (off := 0) (esz := ei.size) (n := len) (xs := xs) hgw hpos (fun i j h1 h2 => by rw [Nat.zero_add]; exact hgd i j h1 h2) (by omega)
          simpa [Builtin.firstCells] using this
        · have hl0 : len = 0 := by omega
          subst hl0
          simp [Builtin.firstCells, loadCells, loadCellsFrom, rowCells]
      obtain ⟨c1, c2⟩ := hcell (rowCells xs 0 ei.size len) k (rowCells_size _ _ _ _) hk1
      refine ⟨k, _, hk1, c1, fun i j hi' hj => ?_, c2, ?_⟩
      · have h1 : i * ei.size + j < len * ei.size := by
          have : (i + 1) * ei.size ≤ len * ei.size := Nat.mul_le_mul_right _ hi'
          rw [Nat.add_mul] at this; omega
        rw [Array.getElem?_append_left (by rw [Array.size_append, rowCells_size]; omega), Array.getElem?_append_left (by rw [rowCells_size]; omega)]
        have := rowCells_get (xs := xs) (off := 0) hi' hj
        rwa [Nat.zero_add] at this
      · have hb0 : ¬ ei.bytes = 0 := by omega
        have hnb' := hnb cap (by omega)
        simp only [Builtin.append_, Sem.run_bind, run_underlying ht, Result.andThen_ok, hS, Sem.run_pure, List.getElem?_toArray, List.getElem?_cons_zero, List.getElem?_cons_succ, run_underlying ht2, Bool.false_eq_true, if_false, Builtin.lenOf, Sem.run_ite, if_neg hcap, hI, hby, hb0, or_self, and_false, hnb', hk2, run_askRoom, hold, hnew', hZ, newRow, run_newObj, Bool.not_false, if_true]
        rfl
end
end Go.Proofs.Ytkfaflhhkmkdjaa.Ev

namespace Go.Proofs.Ytkfaflhhkmkdjaa.Ev
open Go.RowKit
set_option linter.unusedVariables false
set_option linter.unusedSimpArgs false

section
variable {P : Program} {T : Tab} {B : Nat} {bad : Bad} {w0 : World} {m : Map} {st : St} {a : Act} {w : World} {rd : Nat → Blk} {r : Res}

theorem at2_cat {xs ys : List (List Int)} {len off n i : Nat} (hx : len ≤ xs.length) (hi : i < len + n) (j : Nat) :
    at2 (xs.take len ++ (ys.drop off).take n) i j = if i < len then at2 xs i j else at2 ys (off + (i - len)) j := by
  have hl : (xs.take len).length = len := by simp; omega
  by_cases h : i < len
  · rw [if_pos h, at2_left (by omega), at2_take h]
  · rw [if_neg h, at2_right (by omega), hl, at2_take (by omega), at2_drop]

def deadOf : Option Nat → List (Nat × Blk)
  | some id => [(id, .dead)]
  | none => []

/-- Both arms of an append, to a state. old: the block that is used up, if there is one. -/
theorem append_does {t t2 e e2 : TypeId} {ei : TI} {ty : TypeId} {nid : Nat} (hT : T.Ok P) (ht : P.underlying t = some (.slice e)) (ht2 : P.underlying t2 = some (.slice e2)) (hei : T.get e = some ei)
    (hzl : lenIs ei.zero ei.size = true) (hpos : 1 ≤ ei.size) (hb1 : 1 ≤ ei.bytes) (hb2 : ei.bytes ≤ 1024)
    {s x : Value} {len n off : Nat} {xs ys : List (List Int)} (S : Src m w ei.size x n ys off) (hlen : len ≤ xs.length) (hbig : len + n ≤ 4294967296) (hys : off + n ≤ ys.length) (hf : m nid = none) (H : Holds B bad w0 m st a w)
    (old : Option Nat) (ps : List Prop)
    (hs : (s = .slice none 0 0 ∧ len = 0 ∧ (∀ id, old = some id → m id ≠ none → True)) ∨ ∃ id l ad, old = some id ∧ getB st.heap id = .arr true true ei.size xs ∧ m id = some l ∧ s = .slice (some ad) len l.c ∧ len ≤ l.c ∧ (0 < l.c → ad = ⟨l.b, l.o, none⟩)) :
    Does P B bad w0 m st a w ⟨ps, .sl nid ei.size 0 (len + n), (nid, .arr true true ei.size (xs.take len ++ (ys.drop off).take n)) :: deadOf old⟩ (Builtin.append_ #[t, t2] ty #[s, x]) := by
  obtain ⟨ie, zv, hi, hbs, hby, hz, hzd⟩ := (hT e ei hei).info
  have hzd' := hzd.length
  simp only [Array.length_toList] at hzd'
  have hzz := lenIs_eq hzl
  have hll : (xs.take len ++ (ys.drop off).take n).length = len + n := by simp; omega
  have dead : ∀ (mm : Map) (h1 : List Blk) (ww : World), Holds B bad w0 mm ⟨st.tmps, h1⟩ a ww → Holds B bad w0 mm ⟨st.tmps, setBs h1 (deadOf old)⟩ a ww := fun mm h1 ww h => by
    cases old with
    | none => exact h
    | some id => exact h.dead id
  have hmem : ∀ (l : Place) id, m.set nid l id ≠ none → m id ≠ none ∨ id ∈ ((nid, Blk.arr true true ei.size (xs.take len ++ (ys.drop off).take n)) :: deadOf old).map (·.1) := fun l id hid => by
    by_cases e : id = nid
    · exact Or.inr (by simp [e])
    · exact Or.inl (by simpa [Map.set_f, e] using hid)
  have hlen0 : ∃ cap, (s = .slice none 0 0 ∧ len = 0 ∧ cap = 0) ∨ ∃ g ad vs ty' fr, s = .slice (some ad) len cap ∧ (0 < cap → ad = ⟨g, 0, none⟩) ∧ len ≤ cap ∧ w.heap[g]? = some (.cells vs ty' fr) ∧ (∀ i j, i < xs.length → j < ei.size → vs[i * ei.size + j]? = some (.int .i64 (at2 xs i j))) := by
    rcases hs with ⟨rfl, rfl, _⟩ | ⟨id, l, ad, h1, h2, h3, rfl, h5, h6⟩
    · exact ⟨0, Or.inl ⟨rfl, rfl, rfl⟩⟩
    · have hB := H.blk id
      rw [h2] at hB
      obtain ⟨l', vs, ty', fr, hm, hw, hd, hown⟩ := hB rfl
      rw [h3] at hm; cases hm
      obtain ⟨rfl, ho, _, _⟩ := hown rfl
      refine ⟨l.c, Or.inr ⟨l.b, ad, vs, ty', (0, 0), rfl, fun h => by rw [h6 h, ho], h5, hw, fun i j hi hj => ?_⟩⟩
      have := hd i j hi hj
      rwa [ho, Nat.zero_add] at this
  obtain ⟨cap, hcs⟩ := hlen0
  rcases run_append (ty := ty) ht ht2 hi hz hbs hby (by omega) (by omega) hb1 hb2 S hlen hbig hcs with ⟨hcap, g, ad, rfl, had, hrun⟩ | ⟨k, cells, hk, hc1, hc2, hc3, hrun⟩
  · rcases hs with ⟨h, _⟩ | ⟨id, l, ad', h1, h2, h3, h4, h5, h6⟩
    · cases h
    cases h4
    have hpn := S.pos
    have had' := had (by omega)
    have had2 := h6 (by omega)
    rw [had'] at had2
    have hgl : g = l.b := congrArg Addr.block had2
    subst hgl
    have hB := H.blk id
    rw [h2] at hB
    obtain ⟨l', vs, ty', fr, hm, hw, hd, hown⟩ := hB rfl
    have he := Option.some.inj (h3.symm.trans hm)
    subst he
    obtain ⟨rfl, ho, hvs, hxl⟩ := hown rfl
    have hsz : len * ei.size + n * ei.size ≤ vs.size := by
      rw [hvs, ← Nat.add_mul]; exact Nat.mul_le_mul_right _ hcap
    obtain ⟨w', vs', e1, e2, e3, e4, e5, e6, e7, e8, e9, e10⟩ := store_many (P := P) (g := l.b) (off := len * ei.size) (ty := ty') (rowCells ys off ei.size n).toList 0 w vs hw (by simp [rowCells_size]; omega) (rowCells_one _ _ _ _)
    have hb : BlkH m id w' (.arr true true ei.size (xs.take len ++ (ys.drop off).take n)) := by
      refine fun _ => ⟨l, vs', ty', (0, 0), h3, e2, fun i j hi' hj => ?_, fun _ => ⟨rfl, ho, by rw [e3, hvs], by omega⟩⟩
      rw [hll] at hi'
      rw [ho, Nat.zero_add, e4, at2_cat hlen hi']
      simp only [Nat.add_zero, Array.length_toList, rowCells_size, Array.getElem?_toList]
      by_cases hin : i < len
      · have hlt : i * ei.size + j < len * ei.size := by
          have : (i + 1) * ei.size ≤ len * ei.size := Nat.mul_le_mul_right _ hin
          rw [Nat.add_mul] at this; omega
        rw [if_neg (by omega), if_pos hin]
        have := hd i j (by omega) hj
        rwa [ho, Nat.zero_add] at this
      · have hlt : (i - len) * ei.size + j < n * ei.size := by
          have : (i - len + 1) * ei.size ≤ n * ei.size := Nat.mul_le_mul_right _ (by omega)
          rw [Nat.add_mul] at this; omega
        have hsplit : i * ei.size + j = len * ei.size + ((i - len) * ei.size + j) := by
          rw [← Nat.add_assoc, ← Nat.add_mul]; congr 2; omega
        rw [if_neg hin, if_pos (by omega), hsplit, Nat.add_sub_cancel_left]
        exact rowCells_get (by omega) hj
    have H1 := H.write h3 (by rw [h2]; rfl) hb e5 e6 e7 e8 e9 (hdr := Nat.le_of_eq e10.symm)
    have H2 := H1.rename hf h3 (by simp only [getB_setB, if_true]; rfl)
    refine ⟨_, w', m.set nid l, hrun w' e1, Map.le_set hf _, hmem l, ?_, ⟨l, _, l.c, by simp [Map.set_f], rfl, by simp, hcap, fun _ => by rw [ho]; simp⟩⟩
    refine H2.ext (Nat.le_refl _) (fun t => rfl) (fun i => ?_)
    rw [h1]
    simp only [deadOf, setBs, getB_setB]
    by_cases ei' : i = id
    · simp [ei']
    · by_cases ei2 : i = nid
      · simp [ei', ei2]
      · simp [ei', ei2]
  · have hsz0 : w.drew.heap.size = w.heap.size := rfl
    have Hd : Holds B bad w0 m st a w.drew := H.drew
    have hb : BlkH (m.set nid ⟨w.drew.heap.size, 0, k⟩) nid (w.drew.alloc (.cells cells e)) (.arr true true ei.size (xs.take len ++ (ys.drop off).take n)) := by
      refine blk_arr hc1 (by omega) (fun i j hi' hj => ?_) e
      rw [hll] at hi'
      rw [at2_cat hlen hi']
      by_cases hin : i < len
      · rw [if_pos hin]; exact hc2 i j hin hj
      · rw [if_neg hin]
        have := hc3 (i - len) j (by omega) hj
        rwa [show len + (i - len) = i by omega] at this
    refine ⟨_, _, m.set nid ⟨w.drew.heap.size, 0, k⟩, hrun, Map.le_set hf _, hmem _, ?_, ⟨⟨w.drew.heap.size, 0, k⟩, _, k, by simp [Map.set_f], rfl, by simp, hk, fun _ => by simp [hsz0]⟩⟩
    simp only [setBs]
    exact dead _ _ _ (Hd.new hf hb)

theorem consP_mem : ∀ {a b : List Prop} {p : Prop}, p ∈ consP a b ↔ p ∈ a ∨ p ∈ b
  | [], b, p => by simp [consP]
  | x :: a, b, p => by simp [consP, consP_mem (a := a), or_assoc]

/-- A block that is not there. -/
theorem Holds.gone (h : Holds B bad w0 m st a w) (id : Nat) {b : Blk} (hl : b.live = false) (hb : BlkH m id w b) (hns : ∀ H, b ≠ .store H := by intro H h; cases h) : Holds B bad w0 m ⟨st.tmps, setB st.heap id b⟩ a w := by
  have ho : b.own = false := by
    cases e : b.own
    · rfl
    · rw [Blk.live_of_own e] at hl; cases hl
  refine ⟨h.defers, h.size, h.tmp, fun i => ?_, fun i j q q' hij h1 h2 h3 h4 => ?_, fun i q h1 h3 => ?_, h.below, h.base, ⟨fun j p k i b' h1 h2 h3 => ?_, h.gok.own, fun s s' H H' h1 h2 => ?_, h.gok.ext, h.gok.q⟩⟩
  · simp only [getB_setB]
    by_cases e : i = id
    · subst e; rw [if_pos rfl]; exact hb
    · rw [if_neg e]; exact h.blk i
  · simp only [getB_setB] at h1 h2
    by_cases e1 : i = id
    · rw [if_pos e1, ho] at h1; cases h1
    · by_cases e2 : j = id
      · rw [if_pos e2, hl] at h2; cases h2
      · rw [if_neg e1] at h1; rw [if_neg e2] at h2
        exact h.apart i j q q' hij h1 h2 h3 h4
  · simp only [getB_setB] at h1
    by_cases e1 : i = id
    · rw [if_pos e1, ho] at h1; cases h1
    · rw [if_neg e1] at h1; exact h.own i q h1 h3
  · simp only [getB_setB] at h1
    by_cases e1 : j = id
    · rw [if_pos e1, hl] at h1; cases h1
    · rw [if_neg e1] at h1; exact h.gok.apart j p k i b' h1 h2 h3
  · simp only [getB_setB] at h1 h2
    by_cases e1 : s = id
    · rw [if_pos e1] at h1; exact absurd h1 (hns H)
    · by_cases e2 : s' = id
      · rw [if_pos e2] at h2; exact absurd h2 (hns H')
      · rw [if_neg e1] at h1; rw [if_neg e2] at h2; exact h.gok.one s s' H H' h1 h2

/-- An empty slice's value. -/
def Empty (x : Value) : Prop := x = .slice none 0 0 ∨ ∃ a k, x = .slice (some a) 0 k

theorem src_ok {esz n : Nat} {x : SV} {xv : Value} {zs : List (List Int)} {ps : List Prop} {js : List Nat} (hrd : ∀ id, rd id = getB st.heap id ∨ rd id = .dead) (he : srcS rd esz x = some (n, zs, ps, js)) (hp : ∀ q ∈ ps, q) (hx : Den m x xv) (H : Holds B bad w0 m st a w) :
    (n = 0 ∧ zs = [] ∧ Empty xv) ∨ (0 < n ∧ ∃ ys off, Src m w esz xv n ys off ∧ off + n ≤ ys.length ∧ zs = (ys.drop off).take n) := by
  have hB : ∀ id ow ok e ys, rd id = .arr ow ok e ys → BlkH m id w (.arr ow ok e ys) := fun id ow ok e ys h => by
    rcases hrd id with k | k
    · rw [← h, k]; exact H.blk id
    · rw [k] at h; cases h
  unfold srcS at he
  split at he
  · cases he
    exact Or.inl ⟨rfl, rfl, Or.inl (nils_den hx)⟩
  · rename_i jd e off k
    split at he
    rotate_left
    · cases he
    rename_i ow ok e' ys hys
    split at he
    rotate_left
    · cases he
    rename_i hq
    simp only [Bool.and_eq_true] at hq
    obtain rfl := Nat.eq_of_beq_eq_true hq.1
    obtain rfl := Nat.eq_of_beq_eq_true hq.2
    cases he
    have p1 : n = 0 ∨ ok = true := hp _ (by simp)
    have p2 : off + n ≤ ys.length := hp _ (by simp)
    rcases Nat.eq_zero_or_pos n with rfl | hn
    · obtain ⟨l, ad, c, hm, rfl, _⟩ := hx
      exact Or.inl ⟨rfl, by simp, Or.inr ⟨_, _, rfl⟩⟩
    · exact Or.inr ⟨hn, ys, off, src_of (hB _ _ _ _ _ hys) hx (p1.resolve_left (by omega)) hn p2, p2, rfl⟩
  · rename_i b jd e k
    split at he
    rotate_left
    · cases he
    rename_i ow ok e' ys hys
    split at he
    rotate_left
    · cases he
    rename_i hq
    simp only [Bool.and_eq_true] at hq
    obtain rfl := Nat.eq_of_beq_eq_true hq.1
    obtain rfl := Nat.eq_of_beq_eq_true hq.2
    cases he
    have p1 : n = 0 ∨ ok = true := hp _ (by simp)
    have p2 : n ≤ ys.length := hp _ (by simp)
    cases b with
    | true =>
      obtain ⟨rfl, rfl⟩ := hx.1 rfl
      exact Or.inl ⟨rfl, by simp, Or.inl rfl⟩
    | false =>
      obtain ⟨l, ad, c, hm, rfl, hc, hlc, had⟩ := hx.2 rfl
      rcases Nat.eq_zero_or_pos n with rfl | hn
      · exact Or.inl ⟨rfl, by simp, Or.inr ⟨_, _, rfl⟩⟩
      · refine Or.inr ⟨hn, ys, 0, ?_, by omega, by simp⟩
        have hd : Den m (.sl jd e' 0 n) (.slice (some ad) n c) := ⟨l, ad, c, hm, rfl, by omega, hlc, fun h => by rw [had h]; simp⟩
        exact src_of (hB _ _ _ _ _ hys) hd (p1.resolve_left (by omega)) hn (by omega)
  · cases he

/-- Nothing is appended. -/
theorem run_append_zero {t t2 e e2 : TypeId} {ie : TypeInfo} {ty : TypeId} (ht : P.underlying t = some (.slice e)) (ht2 : P.underlying t2 = some (.slice e2)) (hi : P.info? e = some ie)
    {base : Option Addr} {len cap : Nat} {x : Value} (hx : Empty x) (hlc : len ≤ cap) (w : World) : (Builtin.append_ #[t, t2] ty #[.slice base len cap, x]).run P w = .ok (.slice base len cap) w := by
  have hI : ∀ w, (typeInfo e).run P w = .ok ie w := fun w => by simp [typeInfo, hi]
  have hS : ∀ w, (sizeOf e).run P w = .ok ie.size w := fun w => by simp [sizeOf, hI]
  have hF : ∀ w, (Builtin.firstCells ie.size 0 x).run P w = .ok #[] w := fun w => by
    rcases hx with rfl | ⟨ad, k, rfl⟩
    · simp [Builtin.firstCells]
    · simp [Builtin.firstCells, loadCells, loadCellsFrom]
  have hL : ∀ w, (Builtin.lenOf x).run P w = .ok 0 w := fun w => by
    rcases hx with rfl | ⟨ad, k, rfl⟩ <;> simp [Builtin.lenOf]
  cases base with
  | none => simp only [Builtin.append_, Sem.run_bind, run_underlying ht, Result.andThen_ok, hS, Sem.run_pure, List.getElem?_toArray, List.getElem?_cons_zero, List.getElem?_cons_succ, run_underlying ht2, Bool.false_eq_true, if_false, hL, Sem.run_ite, Nat.add_zero, if_pos hlc, hF, Bool.not_false, if_true]
  | some ad => simp only [Builtin.append_, Sem.run_bind, run_underlying ht, Result.andThen_ok, hS, Sem.run_pure, List.getElem?_toArray, List.getElem?_cons_zero, List.getElem?_cons_succ, run_underlying ht2, Bool.false_eq_true, if_false, hL, Sem.run_ite, Nat.add_zero, if_pos hlc, hF, Bool.not_false, if_true, storeCells]

theorem Does.osl {s : Sem Value} {id esz len : Nat} {ps : List Prop} {wr : List (Nat × Blk)} (h : Does P B bad w0 m st a w ⟨ps, .sl id esz 0 len, wr⟩ s) (ps' : List Prop) : Does P B bad w0 m st a w ⟨ps', .osl false id esz len, wr⟩ s := by
  obtain ⟨v, w', m', h1, h2, h3, h4, h5⟩ := h
  refine ⟨v, w', m', h1, h2, h3, h4, ?_⟩
  obtain ⟨l, ad, c, hm, rfl, hc, hlc, had⟩ := h5
  exact ⟨fun h => (by cases h), fun _ => ⟨l, ad, c, hm, rfl, by omega, hlc, fun h => by rw [had h]; simp⟩⟩
theorem Does.pre {s : Sem Value} {v : SV} {ps ps' : List Prop} {wr : List (Nat × Blk)} (h : Does P B bad w0 m st a w ⟨ps, v, wr⟩ s) : Does P B bad w0 m st a w ⟨ps', v, wr⟩ s := h

/-- Nothing is appended to a slice that is there. -/
theorem append_none {t t2 e e2 : TypeId} {ei : TI} {ty : TypeId} {nid : Nat} (hT : T.Ok P) (ht : P.underlying t = some (.slice e)) (ht2 : P.underlying t2 = some (.slice e2)) (hei : T.get e = some ei)
    {x : Value} (hx : Empty x) {len id : Nat} {l : Place} {ad : Addr} {xs : List (List Int)} (hf : m nid = none) (H : Holds B bad w0 m st a w)
    (h2 : getB st.heap id = .arr true true ei.size xs) (h3 : m id = some l) (hlen : len ≤ xs.length) (h5 : len ≤ l.c) (h6 : 0 < l.c → ad = ⟨l.b, l.o, none⟩) (ps : List Prop) :
    Does P B bad w0 m st a w ⟨ps, .sl nid ei.size 0 (len + 0), [(nid, .arr true true ei.size (xs.take len ++ [])), (id, .dead)]⟩ (Builtin.append_ #[t, t2] ty #[.slice (some ad) len l.c, x]) := by
  obtain ⟨ie, zv, hi, hbs, hby, hz, hzd⟩ := (hT e ei hei).info
  have hB := H.blk id
  rw [h2] at hB
  obtain ⟨l', vs, ty', fr, hm, hw, hd, hown⟩ := hB rfl
  have he := Option.some.inj (h3.symm.trans hm)
  subst he
  obtain ⟨rfl, ho, hvs, hxl⟩ := hown rfl
  have hb : BlkH m id w (.arr true true ei.size (xs.take len ++ [])) := by
    refine fun _ => ⟨l, vs, ty', (0, 0), h3, hw, fun i j hi' hj => ?_, fun _ => ⟨rfl, ho, hvs, by simp; omega⟩⟩
    have hi2 : i < len := by simp at hi'; omega
    rw [List.append_nil, at2_take hi2]
    exact hd i j (by omega) hj
  have H1 := H.write h3 (by rw [h2]; rfl) hb rfl rfl rfl rfl (fun _ _ => rfl)
  have H2 := H1.rename hf h3 (by simp only [getB_setB, if_true]; rfl)
  refine ⟨_, w, m.set nid l, run_append_zero ht ht2 hi hx h5 w, Map.le_set hf _, fun id' hid => ?_, ?_, ⟨l, _, l.c, by simp [Map.set_f], rfl, by simp, h5, fun hc => by rw [h6 hc]; simp⟩⟩
  · by_cases e : id' = nid
    · exact Or.inr (by simp [e])
    · exact Or.inl (by simpa [Map.set_f, e] using hid)
  · refine H2.ext (Nat.le_refl _) (fun t => rfl) (fun i => ?_)
    simp only [setBs, getB_setB]
    by_cases ei' : i = id
    · simp [ei']
    · by_cases ei2 : i = nid
      · simp [ei', ei2]
      · simp [ei', ei2]

theorem append_nil {t t2 e e2 : TypeId} {ei : TI} {ty : TypeId} {nid : Nat} (hT : T.Ok P) (ht : P.underlying t = some (.slice e)) (ht2 : P.underlying t2 = some (.slice e2)) (hei : T.get e = some ei)
    {x : Value} (hx : Empty x) (H : Holds B bad w0 m st a w) (ps : List Prop) (old : Option Nat) (xs : List (List Int)) :
    Does P B bad w0 m st a w ⟨ps, .osl true nid ei.size 0, (nid, .arr true false ei.size xs) :: deadOf old⟩ (Builtin.append_ #[t, t2] ty #[.slice none 0 0, x]) := by
  obtain ⟨ie, zv, hi, hbs, hby, hz, hzd⟩ := (hT e ei hei).info
  refine ⟨_, w, m, run_append_zero ht ht2 hi hx (Nat.le_refl _) w, Map.le.refl m, fun id h => Or.inl h, ?_, ⟨fun _ => ⟨rfl, rfl⟩, fun h => (by cases h)⟩⟩
  have h1 := H.gone nid (b := .arr true false ei.size xs) rfl (fun h => by cases h)
  cases old with
  | none => exact h1
  | some id => exact h1.dead id

theorem sound_append {nid : Nat} {ts : Array TypeId} {ty : TypeId} {s x : SV} {sv xv : Value} (hT : T.Ok P) (hrd : ∀ id, rd id = getB st.heap id ∨ rd id = .dead) (he : effAppend T rd nid ts s x = some r) (hp : ∀ q ∈ r.pre, q) (hf : m nid = none)
    (hs : Den m s sv) (hx : Den m x xv) (H : Holds B bad w0 m st a w) : Does P B bad w0 m st a w r (Builtin.append_ ts ty #[sv, xv]) := by
  unfold effAppend at he
  split at he
  rotate_left
  · cases he
  rename_i t t2 hts
  have hts' : ts = #[t, t2] := by apply Array.ext'; rw [hts]
  subst hts'
  split at he
  rotate_left
  · cases he
  rename_i e _ _ _ _ _ _ _ hti
  have ht := (hT t _ hti).kind
  simp only [KindOk] at ht
  split at he
  rotate_left
  · cases he
  rename_i ei hei
  split at he
  rotate_left
  · cases he
  rename_i e2 _ _ _ _ _ _ _ hti2
  have ht2 := (hT t2 _ hti2).kind
  simp only [KindOk] at ht2
  split at he
  rotate_left
  · cases he
  split at he
  rotate_left
  · cases he
  rename_i hg
  simp only [Bool.and_eq_true] at hg
  obtain ⟨⟨⟨g1, g2⟩, g3⟩, g4⟩ := hg
  have hpos : 1 ≤ ei.size := Nat.le_of_ble_eq_true g2
  have hb2 : ei.bytes ≤ 1024 := Nat.le_of_ble_eq_true g3
  have hb1 : 1 ≤ ei.bytes := Nat.le_of_ble_eq_true g4
  split at he
  rotate_left
  · cases he
  rename_i n zs ps js hsrc
  have hr : ∀ id ok xs, rd id = .arr true ok ei.size xs → getB st.heap id = .arr true ok ei.size xs := fun id ok xs h => by
    rcases hrd id with k | k
    · rw [← h, k]
    · rw [k] at h; cases h
  split at he
  · cases he
    have q1 : ∀ q ∈ ps, q := fun q hq => hp q (consP_mem.2 (Or.inl hq))
    have q2 : n ≤ 4294967296 := hp _ (consP_mem.2 (Or.inr (by simp)))
    obtain rfl := nils_den hs
    rcases src_ok hrd hsrc q1 hx H with ⟨rfl, rfl, hxe⟩ | ⟨hn, ys, off, S, hle, rfl⟩
    · exact append_nil hT ht ht2 hei hxe H _ none []
    · have := append_does (ty := ty) (len := 0) (xs := []) hT ht ht2 hei g1 hpos hb1 hb2 S (Nat.zero_le _) (by omega) hle hf H none [] (Or.inl ⟨rfl, rfl, fun _ _ _ => trivial⟩)
      have e1 : decide (n = 0) = false := decide_eq_false (by omega)
      have e2 : decide (0 < n) = true := decide_eq_true hn
      rw [e1, e2]
      simp only [deadOf, Nat.zero_add, List.take_nil, List.nil_append] at this
      exact this.osl _
  · rename_i id esz off len
    split at he
    rotate_left
    · cases he
    rename_i ok esz' xs hxs
    split at he
    rotate_left
    · cases he
    rename_i hq
    simp only [Bool.and_eq_true] at hq
    obtain rfl := Nat.eq_of_beq_eq_true hq.1.1
    obtain rfl := Nat.eq_of_beq_eq_true hq.1.2
    cases he
    have q1 : ∀ q ∈ ps, q := fun q hq => hp q (consP_mem.2 (Or.inl hq))
    have p0 : ok = true := hp _ (consP_mem.2 (Or.inr (by simp)))
    have p1 : off = 0 := hp _ (consP_mem.2 (Or.inr (by simp)))
    have p2 : len ≤ xs.length := hp _ (consP_mem.2 (Or.inr (by simp)))
    have p6 : len + n ≤ 4294967296 := hp _ (consP_mem.2 (Or.inr (by simp)))
    subst p0; subst p1
    have hri := hr _ _ _ hxs
    obtain ⟨l, ad, c, hm, rfl, hc, hlc, had⟩ := hs
    have hc' : c = l.c := by omega
    subst hc'
    rcases src_ok hrd hsrc q1 hx H with ⟨rfl, rfl, hxe⟩ | ⟨hn, ys, off, S, hle, rfl⟩
    · exact append_none hT ht ht2 hei hxe hf H hri hm p2 hlc (fun h => by rw [had h]; simp) _
    · exact append_does (ty := ty) hT ht ht2 hei g1 hpos hb1 hb2 S p2 p6 hle hf H (some id) _ (Or.inr ⟨id, l, ad, rfl, hri, hm, rfl, hlc, fun h => by rw [had h]; simp⟩)
  · rename_i b id esz len
    split at he
    rotate_left
    · cases he
    rename_i ok esz' xs hxs
    split at he
    rotate_left
    · cases he
    rename_i hq
    simp only [Bool.and_eq_true] at hq
    obtain rfl := Nat.eq_of_beq_eq_true hq.1.1
    obtain rfl := Nat.eq_of_beq_eq_true hq.1.2
    cases he
    have q1 : ∀ q ∈ ps, q := fun q hq => hp q (consP_mem.2 (Or.inl hq))
    have p0 : b = false → ok = true := hp _ (consP_mem.2 (Or.inr (by simp)))
    have p1 : b = true → xs.take len = [] := hp _ (consP_mem.2 (Or.inr (by simp)))
    have p2 : len ≤ xs.length := hp _ (consP_mem.2 (Or.inr (by simp)))
    have p6 : len + n ≤ 4294967296 := hp _ (consP_mem.2 (Or.inr (by simp)))
    have hri := hr _ _ _ hxs
    cases b
    · have p0' := p0 rfl
      subst p0'
      obtain ⟨l, ad, c, hm, rfl, rfl, hlc, had⟩ := hs.2 rfl
      rcases src_ok hrd hsrc q1 hx H with ⟨rfl, rfl, hxe⟩ | ⟨hn, ys, off, S, hle, rfl⟩
      · exact (append_none hT ht ht2 hei hxe hf H hri hm p2 hlc had []).osl _
      · exact (append_does (ty := ty) hT ht ht2 hei g1 hpos hb1 hb2 S p2 p6 hle hf H (some id) [] (Or.inr ⟨id, l, ad, rfl, hri, hm, rfl, hlc, had⟩)).osl _
    · obtain ⟨rfl, rfl⟩ := hs.1 rfl
      rcases src_ok hrd hsrc q1 hx H with ⟨rfl, rfl, hxe⟩ | ⟨hn, ys, off, S, hle, rfl⟩
      · exact append_nil hT ht ht2 hei hxe H _ (some id) _
      · have := append_does (ty := ty) hT ht ht2 hei g1 hpos hb1 hb2 S p2 p6 hle hf H (some id) [] (Or.inl ⟨rfl, rfl, fun _ _ _ => trivial⟩)
        have e1 : decide (n = 0) = false := decide_eq_false (by omega)
        have e2 : decide (0 < n) = true := decide_eq_true hn
        rw [e1, e2]
        exact this.osl _
  · cases he
/-- A copy, whole, into a slice of the same length. -/
theorem sound_copy {ts : Array TypeId} {ty : TypeId} {s x : SV} {sv xv : Value} (hT : T.Ok P) (hrd : ∀ id, rd id = getB st.heap id ∨ rd id = .dead) (he : effCopy T rd ts s x = some r) (hp : ∀ q ∈ r.pre, q)
    (hs : Den m s sv) (hx : Den m x xv) (H : Holds B bad w0 m st a w) : Does P B bad w0 m st a w r (Builtin.copy_ ts ty #[sv, xv]) := by
  unfold effCopy at he
  split at he
  rotate_left
  · cases he
  rename_i t t2 hts
  have hts' : ts = #[t, t2] := by apply Array.ext'; rw [hts]
  subst hts'
  split at he
  rotate_left
  · cases he
  rename_i e _ _ _ _ _ _ _ hti
  have ht := (hT t _ hti).kind
  simp only [KindOk] at ht
  split at he
  rotate_left
  · cases he
  rename_i ei hei
  obtain ⟨ie, zv, hi, hbs, hby, hz, hzd⟩ := (hT e ei hei).info
  split at he
  rotate_left
  · cases he
  rename_i hg
  have hpos : 1 ≤ ei.size := Nat.le_of_ble_eq_true hg
  split at he
  rotate_left
  · cases he
  rename_i n zs ps js hsrc
  have hr : ∀ id ok xs, rd id = .arr true ok ei.size xs → getB st.heap id = .arr true ok ei.size xs := fun id ok xs h => by
    rcases hrd id with k | k
    · rw [← h, k]
    · rw [k] at h; cases h
  split at he
  rotate_left
  · cases he
  rename_i id esz off len
  split at he
  rotate_left
  · cases he
  rename_i ok esz' xs hxs
  split at he
  rotate_left
  · cases he
  rename_i hq
  simp only [Bool.and_eq_true] at hq
  obtain rfl := Nat.eq_of_beq_eq_true hq.1.1
  obtain rfl := Nat.eq_of_beq_eq_true hq.1.2
  cases he
  have q1 : ∀ q ∈ ps, q := fun q hq => hp q (consP_mem.2 (Or.inl hq))
  have p0 : ok = true := hp _ (consP_mem.2 (Or.inr (by simp)))
  have p1 : off = 0 := hp _ (consP_mem.2 (Or.inr (by simp)))
  have p2 : len = xs.length := hp _ (consP_mem.2 (Or.inr (by simp)))
  have p3 : n = len := hp _ (consP_mem.2 (Or.inr (by simp)))
  subst p0; subst p1; subst p3
  have hri := hr _ _ _ hxs
  obtain ⟨l, ad, c, hm, rfl, hc, hlc, had⟩ := hs
  have hc' : c = l.c := by omega
  subst hc'
  have hI : ∀ w, (typeInfo e).run P w = .ok ie w := fun w => by simp [typeInfo, hi]
  have hS : ∀ w, (sizeOf e).run P w = .ok ei.size w := fun w => by simp [sizeOf, hI, hbs]
  have hB := H.blk id
  rw [hri] at hB
  obtain ⟨l', vs, ty', fr, hm', hw, hd, hown⟩ := hB rfl
  have he := Option.some.inj (hm.symm.trans hm')
  subst he
  obtain ⟨rfl, ho, hvs, hxl⟩ := hown rfl
  rcases src_ok hrd hsrc q1 hx H with ⟨rfl, rfl, hxe⟩ | ⟨hn, ys, off, S, hle, rfl⟩
  · have hxs0 : xs = [] := List.eq_nil_of_length_eq_zero p2.symm
    subst hxs0
    have hF : ∀ w, (Builtin.firstCells ei.size 0 xv).run P w = .ok #[] w := fun w => by
      rcases hxe with rfl | ⟨ad, k, rfl⟩
      · simp [Builtin.firstCells]
      · simp [Builtin.firstCells, loadCells, loadCellsFrom]
    have hL : ∀ w, (Builtin.lenOf xv).run P w = .ok 0 w := fun w => by
      rcases hxe with rfl | ⟨ad, k, rfl⟩ <;> simp [Builtin.lenOf]
    refine ⟨goInt 0, w, m, ?_, Map.le.refl m, fun id h => Or.inl h, H.write hm (by rw [hri]; rfl) (by have := H.blk id; rw [hri] at this; exact this) rfl rfl rfl rfl (fun _ _ => rfl), rfl⟩
    simp only [Builtin.copy_, List.getElem?_toArray, List.getElem?_cons_zero, List.getElem?_cons_succ, Sem.run_bind, run_underlying ht, Result.andThen_ok, hL, Sem.run_pure, hS, Nat.min_self, Nat.zero_min, hF, storeCells]
    rfl
  · obtain ⟨hn', ⟨xb, xo, xk, xvs, xty, xfr, rfl, hxw, hxd⟩, hxle⟩ := (show Src m w ei.size _ n ys off from S)
    have hF : (Builtin.firstCells ei.size n (.slice (some ⟨xb, xo + off * ei.size, none⟩) n xk)).run P w = .ok (rowCells ys off ei.size n) w := load_row hxw hpos hxd hxle
    have had' := had (by omega)
    rw [ho, Nat.zero_add, Nat.zero_mul] at had'
    subst had'
    obtain ⟨w', vs', e1, e2, e3, e4, e5, e6, e7, e8, e9, e10⟩ := store_many (P := P) (g := l.b) (off := 0) (ty := ty') (rowCells ys off ei.size n).toList 0 w vs hw (by simp [rowCells_size]; rw [hvs]; exact Nat.mul_le_mul_right _ hlc) (rowCells_one _ _ _ _)
    have hll : ((ys.drop off).take n).length = n := by simp; omega
    have hb : BlkH m id w' (.arr true true ei.size ((ys.drop off).take n)) := by
      refine fun _ => ⟨l, vs', ty', (0, 0), hm, e2, fun i j hi' hj => ?_, fun _ => ⟨rfl, ho, by rw [e3, hvs], by omega⟩⟩
      rw [hll] at hi'
      rw [ho, Nat.zero_add, e4, at2_take hi', at2_drop]
      simp only [Nat.add_zero, Nat.zero_add, Nat.sub_zero, Nat.zero_le, true_and, Array.length_toList, rowCells_size, Array.getElem?_toList]
      have hlt : i * ei.size + j < n * ei.size := by
        have : (i + 1) * ei.size ≤ n * ei.size := Nat.mul_le_mul_right _ hi'
        rw [Nat.add_mul] at this; omega
      rw [if_pos hlt]
      exact rowCells_get hi' hj
    refine ⟨goInt n, w', m, ?_, Map.le.refl m, fun id h => Or.inl h, H.write hm (by rw [hri]; rfl) hb e5 e6 e7 e8 e9 (hdr := Nat.le_of_eq e10.symm), rfl⟩
    simp only [Builtin.copy_, List.getElem?_toArray, List.getElem?_cons_zero, List.getElem?_cons_succ, Sem.run_bind, run_underlying ht, Result.andThen_ok, Builtin.lenOf, Sem.run_pure, hS, Nat.min_self, hF, e1]
/-- A slice of no elements, made. -/
theorem sound_build0 {nid : Nat} {t : TypeId} {ps : Array (Nat × Operand)} (hT : T.Ok P) (he : effBuild0 T nid t ps = some r) (hf : m nid = none) (H : Holds B bad w0 m st a w) (f : Nat × Operand → Nat × Value) :
    Does P B bad w0 m st a w r (Instr.buildSlice t 0 (ps.map f)) := by
  unfold effBuild0 at he
  split at he
  rotate_left
  · cases he
  rename_i e _ _ _ _ _ _ _ hti
  have ht := (hT t _ hti).kind
  simp only [KindOk] at ht
  split at he
  rotate_left
  · cases he
  rename_i ei hei
  obtain ⟨ie, zv, hi, hbs, hby, hz, hzd⟩ := (hT e ei hei).info
  split at he
  rotate_left
  · cases he
  rename_i hps
  cases he
  have hps' : ps = #[] := by apply Array.ext'; rw [hps]
  subst hps'
  have hI : ∀ w, (typeInfo e).run P w = .ok ie w := fun w => by simp [typeInfo, hi]
  have hS : ∀ w, (sizeOf e).run P w = .ok ie.size w := fun w => by simp [sizeOf, hI]
  have hrun : (Instr.buildSlice t 0 #[]).run P w = .ok (.slice (some ⟨w.heap.size, 0, none⟩) 0 0) (w.alloc (.cells #[] e)) := by
    simp [Instr.buildSlice, run_underlying ht, sizeOf, typeInfo, hi, Instr.fill, newRow]
    rw [show Array.range 0 = #[] from Array.eq_empty_of_size_eq_zero (by simp), Array.map_empty]
  refine ⟨.slice (some ⟨w.heap.size, 0, none⟩) 0 0, w.alloc (.cells #[] e), m.set nid ⟨w.heap.size, 0, 0⟩, by simpa using hrun, Map.le_set hf _, fun id hid => ?_, H.new hf (blk_arr (by simp) (by simp) (fun i j hi' _ => absurd hi' (by simp)) e), ⟨⟨w.heap.size, 0, 0⟩, _, 0, by simp [Map.set_f], rfl, by simp, Nat.le_refl _, fun h => absurd h (Nat.lt_irrefl _)⟩⟩
  by_cases e : id = nid
  · exact Or.inr (by simp [e])
  · exact Or.inl (by simpa [Map.set_f, e] using hid)
end
end Go.Proofs.Ytkfaflhhkmkdjaa.Ev
