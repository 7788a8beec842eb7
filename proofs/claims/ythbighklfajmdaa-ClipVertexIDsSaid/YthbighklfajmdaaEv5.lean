/- The reckoning is sound, operation by operation (4): slices of slices; blocks that are made, written, used up. -/
import Derived.Test.YthbighklfajmdaaEv4
namespace Go.Proofs.Ythbighklfajmdaa.Ev
open Go.RowKit
set_option linter.unusedVariables false
set_option linter.unusedSimpArgs false

section
variable {P : Program} {T : Tab} {m : Map} {w : World} {rd : Nat → Blk} {r : Res}

theorem run_sl {t e : TypeId} {ei : TI} (ht : P.underlying t = some (.slice e)) (hs : (sizeOf e).run P w = .ok ei.size w) (a : Option Addr) (len cap : Nat) (lo hi : Option Value) (l h : Nat)
    (hl : lo = none ∧ l = 0 ∨ ∃ k, lo = some (.int k l)) (hh : hi = none ∧ h = len ∨ ∃ k, hi = some (.int k h)) (h1 : l ≤ h) (h2 : h ≤ cap) :
    (Instr.sliceAt t (.slice a len cap) lo hi none).run P w = .ok (.slice (if cap = l then a else a.map (·.add (l * ei.size))) (h - l) (cap - l)) w := by
  have hb : (Instr.sliceBounds true len cap lo hi none).run P w = .ok (l, h, cap) w := by
    rcases hl with ⟨rfl, rfl⟩ | ⟨k, rfl⟩ <;> rcases hh with ⟨rfl, rfl⟩ | ⟨k', rfl⟩ <;> simp [Instr.sliceBounds, Instr.sliceBound, asIntOf, h1, h2]
  simp only [Instr.sliceAt, Sem.run_bind, run_underlying ht, Result.andThen_ok, Instr.slice, hb, hs, Sem.run_pure]

/-- A slice of a slice: what it says. -/
theorem sl_sub {id esz off len : Nat} {p : Place} {ad : Addr} {c : Nat} (hm : m id = some p) (hc : off + c = p.c) (hlc : len ≤ c) (had : 0 < c → ad = ⟨p.b, p.o + off * esz, none⟩) (l h : Nat) (h1 : l ≤ h) (h2 : h ≤ len) :
    Den m (.sl id esz (off + l) (h - l)) (.slice (if c = l then some ad else (some ad).map (·.add (l * esz))) (h - l) (c - l)) := by
  by_cases e : c = l
  · rw [if_pos e]
    exact ⟨p, ad, c - l, hm, rfl, by omega, by omega, fun hp => by omega⟩
  · rw [if_neg e]
    refine ⟨p, ad.add (l * esz), c - l, hm, rfl, by omega, by omega, fun hp => ?_⟩
    rw [had (by omega), add_off, Nat.add_mul, Nat.add_assoc]

theorem toI_val {s : SV} {n : Int} {v : Value} (h : toI s = some n) (h0 : 0 ≤ n) (hd : Den m s v) : v = .int .i64 (n.toNat : Int) := by
  rw [toI_den h hd, Int.toNat_of_nonneg h0]

theorem sound_slice {t : TypeId} {lo hi : Option Operand} {x : SV} {bs : List SV} {v : Value} {lv hv : Option Value} (hT : T.Ok P) (he : effSlice T t lo hi x bs = some r) (hp : ∀ q ∈ r.pre, q) (hx : Den m x v)
    (hl : lo.isSome = lv.isSome) (hh : hi.isSome = hv.isSome) (hb : All2 (Den m) bs (lv.toList ++ hv.toList)) : Yields P m (Instr.sliceAt t v lv hv none) w r := by
  unfold effSlice at he
  split at he
  rotate_left
  · cases he
  rename_i e _ _ _ _ hti
  have ht := (hT t _ hti).kind
  simp only [KindOk] at ht
  split at he
  rotate_left
  · cases he
  rename_i ei hei
  have hsz := (hT e ei hei).size (w := w)
  split at he
  · obtain rfl := nils_den hx
    split at he
    · cases he
      cases lv <;> cases hv <;> simp at hl hh
      exact ⟨_, run_sl ht hsz none 0 0 _ _ 0 0 (Or.inl ⟨rfl, rfl⟩) (Or.inl ⟨rfl, rfl⟩) (Nat.le_refl _) (Nat.le_refl _), rfl, rfl⟩
    · rename_i l
      cases lv <;> cases hv <;> simp at hl hh
      rename_i lval
      split at he
      rotate_left
      · cases he
      rename_i n hn
      cases he
      have h0 : n = 0 := hp _ (by simp)
      subst h0
      obtain rfl := toI_val hn (Int.le_refl _) hb.1
      exact ⟨_, run_sl ht hsz none 0 0 _ _ 0 0 (Or.inr ⟨_, rfl⟩) (Or.inl ⟨rfl, rfl⟩) (Nat.le_refl _) (Nat.le_refl _), rfl, rfl⟩
    · rename_i h
      cases lv <;> cases hv <;> simp at hl hh
      rename_i hval
      split at he
      rotate_left
      · cases he
      rename_i n hn
      cases he
      have h0 : n = 0 := hp _ (by simp)
      subst h0
      obtain rfl := toI_val hn (Int.le_refl _) hb.1
      exact ⟨_, run_sl ht hsz none 0 0 _ _ 0 0 (Or.inl ⟨rfl, rfl⟩) (Or.inr ⟨_, rfl⟩) (Nat.le_refl _) (Nat.le_refl _), rfl, rfl⟩
    · rename_i l h
      cases lv <;> cases hv <;> simp at hl hh
      rename_i lval hval
      split at he
      rotate_left
      · cases he
      rename_i n hn
      split at he
      rotate_left
      · cases he
      rename_i n' hn'
      cases he
      have h0 : n = 0 := hp _ (by simp)
      have h1 : n' = 0 := hp _ (by simp)
      subst h0; subst h1
      obtain rfl := toI_val hn (Int.le_refl _) hb.1
      obtain rfl := toI_val hn' (Int.le_refl _) hb.2.1
      exact ⟨_, run_sl ht hsz none 0 0 _ _ 0 0 (Or.inr ⟨_, rfl⟩) (Or.inr ⟨_, rfl⟩) (Nat.le_refl _) (Nat.le_refl _), rfl, rfl⟩
    · cases he
  · rename_i id esz off len
    split at he
    rotate_left
    · cases he
    rename_i hesz
    obtain rfl := Nat.eq_of_beq_eq_true hesz
    obtain ⟨p, ad, c, hm, rfl, hc, hlc, had⟩ := hx
    split at he
    · cases he
      cases lv <;> cases hv <;> simp at hl hh
      refine ⟨_, run_sl ht hsz _ _ _ _ _ 0 len (Or.inl ⟨rfl, rfl⟩) (Or.inl ⟨rfl, rfl⟩) (Nat.zero_le _) hlc, ?_, rfl⟩
      exact sl_sub hm hc hlc had 0 len (Nat.zero_le _) (Nat.le_refl _)
    · rename_i l
      cases lv <;> cases hv <;> simp at hl hh
      rename_i lval
      split at he
      rotate_left
      · cases he
      rename_i n hn
      cases he
      have h0 : 0 ≤ n := hp _ (by simp)
      have h1 : n ≤ len := hp _ (by simp)
      obtain rfl := toI_val hn h0 hb.1
      refine ⟨_, run_sl ht hsz _ _ _ _ _ n.toNat len (Or.inr ⟨_, rfl⟩) (Or.inl ⟨rfl, rfl⟩) (by omega) hlc, ?_, rfl⟩
      exact sl_sub hm hc hlc had n.toNat len (by omega) (Nat.le_refl _)
    · rename_i h
      cases lv <;> cases hv <;> simp at hl hh
      rename_i hval
      split at he
      rotate_left
      · cases he
      rename_i n hn
      cases he
      have h0 : 0 ≤ n := hp _ (by simp)
      have h1 : n ≤ len := hp _ (by simp)
      obtain rfl := toI_val hn h0 hb.1
      refine ⟨_, run_sl ht hsz _ _ _ _ _ 0 n.toNat (Or.inl ⟨rfl, rfl⟩) (Or.inr ⟨_, rfl⟩) (by omega) (by omega), ?_, rfl⟩
      exact sl_sub hm hc hlc had 0 n.toNat (by omega) (by omega)
    · rename_i l h
      cases lv <;> cases hv <;> simp at hl hh
      rename_i lval hval
      split at he
      rotate_left
      · cases he
      rename_i n hn
      split at he
      rotate_left
      · cases he
      rename_i k hk
      cases he
      have h0 : 0 ≤ n := hp _ (by simp)
      have h1 : n ≤ k := hp _ (by simp)
      have h2 : k ≤ len := hp _ (by simp)
      obtain rfl := toI_val hn h0 hb.1
      obtain rfl := toI_val hk (by omega) hb.2.1
      refine ⟨_, run_sl ht hsz _ _ _ _ _ n.toNat k.toNat (Or.inr ⟨_, rfl⟩) (Or.inr ⟨_, rfl⟩) (by omega) (by omega), ?_, rfl⟩
      exact sl_sub hm hc hlc had n.toNat k.toNat (by omega) (by omega)
    · cases he
  · rename_i b id esz len
    split at he
    rotate_left
    · cases he
    rename_i hesz
    obtain rfl := Nat.eq_of_beq_eq_true hesz
    split at he
    · rename_i h
      cases lv <;> cases hv <;> simp at hl hh
      rename_i hval
      split at he
      rotate_left
      · cases he
      rename_i n hn
      cases he
      have h0 : 0 ≤ n := hp _ (by simp)
      have h1 : n ≤ len := hp _ (by simp)
      obtain rfl := toI_val hn h0 hb.1
      cases b
      · obtain ⟨p, ad, c, hm, rfl, hc, hlc, had⟩ := hx.2 rfl
        refine ⟨_, run_sl ht hsz _ _ _ _ _ 0 n.toNat (Or.inl ⟨rfl, rfl⟩) (Or.inr ⟨_, rfl⟩) (by omega) (by omega), ?_, rfl⟩
        refine ⟨fun h => (by cases h), fun _ => ⟨p, ad, c, hm, ?_, hc, by omega, had⟩⟩
        by_cases e : c = 0
        · simp [e]
        · simp [e, had (by omega), Addr.add]
      · obtain ⟨rfl, rfl⟩ := hx.1 rfl
        have hz : n.toNat = 0 := by omega
        refine ⟨_, run_sl ht hsz _ _ _ _ _ 0 n.toNat (Or.inl ⟨rfl, rfl⟩) (Or.inr ⟨_, rfl⟩) (by omega) (by omega), ?_, rfl⟩
        refine ⟨fun _ => ⟨by simp [hz], hz⟩, fun h => (by cases h)⟩
    · cases he
  · cases he
end

/-- A state after the blocks' change. -/
def setBs (l : List Blk) : List (Nat × Blk) → List Blk
  | [] => l
  | (i, b) :: r => setBs (setB l i b) r
def St.app (st : St) (dst : Option Tmp) (r : Res) : St := St.put ⟨st.tmps, setBs st.heap r.wr⟩ dst r.val

def Map.set (m : Map) (id : Nat) (p : Place) : Map := fun i => if i = id then some p else m i
theorem Map.le_set {m : Map} {id : Nat} (h : m id = none) (p : Place) : m.le (m.set id p) := fun i hi => by
  unfold Map.set
  rw [if_neg]
  intro e; subst e; exact hi h

section
variable {B : Nat} {bad : Nat → Prop} {w0 : World} {m : Map} {st : St} {a : Act} {w : World}

/-- What an operation leaves. -/
def After (B : Nat) (bad : Nat → Prop) (w0 : World) (m : Map) (st : St) (ids : List Nat) (a : Act) (w : World) : Prop :=
  ∃ m', m.le m' ∧ (∀ id, m' id ≠ none → m id ≠ none ∨ id ∈ ids) ∧ Holds B bad w0 m' st a w

theorem Holds.base_le (h : Holds B bad w0 m st a w) : B ≤ w.heap.size := Nat.le_trans h.base h.below.size
theorem Holds.place (h : Holds B bad w0 m st a w) {id : Nat} {p : Place} (hl : (getB st.heap id).live = true) (hm : m id = some p) : p.b < w.heap.size := by
  obtain ⟨l, e, hlt⟩ := (h.blk id).place hl
  rw [hm] at e; cases e
  exact hlt

/-- A new block. -/
theorem Holds.new (h : Holds B bad w0 m st a w) {id : Nat} (hid : m id = none) {o : Obj} {b : Blk} {c : Nat} (hb : BlkH (m.set id ⟨w.heap.size, 0, c⟩) id (w.alloc o) b) :
    Holds B bad w0 (m.set id ⟨w.heap.size, 0, c⟩) ⟨st.tmps, setB st.heap id b⟩ a (w.alloc o) := by
  have hle := Map.le_set hid ⟨w.heap.size, 0, c⟩
  have hne : ∀ i p, i ≠ id → (m.set id ⟨w.heap.size, 0, c⟩) i = some p → m i = some p := fun i p hi e => by simpa [Map.set, hi] using e
  refine ⟨h.defers, h.size, fun t => (h.tmp t).le hle, fun i => ?_, fun i j p q hij h1 h2 h3 h4 => ?_, fun i p h1 h3 => ?_, h.below.trans ⟨rfl, rfl, rfl, by simp, fun k hk _ => Below.heap_alloc _ _ _ (Nat.lt_of_lt_of_le hk h.base_le)⟩, h.base⟩
  · simp only [getB_setB]
    by_cases e : i = id
    · subst e; rw [if_pos rfl]; exact hb
    · rw [if_neg e]
      refine (h.blk i).keep hle fun l hl hm => Below.heap_alloc _ _ _ (h.place hl hm)
  · simp only [getB_setB] at h1 h2
    by_cases ei : i = id
    · subst ei
      have ej : j ≠ i := Ne.symm hij
      rw [if_neg ej] at h2
      have hq := h.place h2 (hne j q ej h4)
      have : p.b = w.heap.size := by simp [Map.set] at h3; rw [← h3]
      omega
    · rw [if_neg ei] at h1
      by_cases ej : j = id
      · subst ej
        have hp := h.place (Blk.live_of_own h1) (hne i p ei h3)
        have : q.b = w.heap.size := by simp [Map.set] at h4; rw [← h4]
        omega
      · rw [if_neg ej] at h2
        exact h.apart i j p q hij h1 h2 (hne i p ei h3) (hne j q ej h4)
  · simp only [getB_setB] at h1
    by_cases e : i = id
    · subst e
      have : p.b = w.heap.size := by simp [Map.set] at h3; rw [← h3]
      rw [this]; exact Or.inl h.base_le
    · rw [if_neg e] at h1
      exact h.own i p h1 (hne i p e h3)

/-- A block of the call's own is written. -/
theorem Holds.write (h : Holds B bad w0 m st a w) {id : Nat} {p : Place} (hm : m id = some p) (ho : (getB st.heap id).own = true) {b : Blk} {w' : World} (hb : BlkH m id w' b)
    (hos : w'.os = w.os) (ht : w'.tape = w.tape) (hout : w'.output = w.output) (hsz : w'.heap.size = w.heap.size) (hk : ∀ k, k ≠ p.b → w'.heap[k]? = w.heap[k]?) :
    Holds B bad w0 m ⟨st.tmps, setB st.heap id b⟩ a w' := by
  refine ⟨h.defers, h.size, h.tmp, fun i => ?_, fun i j q q' hij h1 h2 h3 h4 => ?_, fun i q h1 h3 => ?_, h.below.trans ⟨hos, ht, hout, by omega, fun k hkB hbad => hk k ?_⟩, h.base⟩
  · simp only [getB_setB]
    by_cases e : i = id
    · subst e; rw [if_pos rfl]; exact hb
    · rw [if_neg e]
      refine (h.blk i).keep (Map.le.refl m) fun l hl hml => hk _ fun e2 => ?_
      exact h.apart id i p l (Ne.symm e) ho hl hm hml e2.symm
  · simp only [getB_setB] at h1 h2
    by_cases ei : i = id
    · subst ei
      rw [if_neg (Ne.symm hij)] at h2
      exact h.apart i j q q' hij ho h2 h3 h4
    · rw [if_neg ei] at h1
      by_cases ej : j = id
      · subst ej
        exact h.apart i j q q' hij h1 (Blk.live_of_own ho) h3 h4
      · rw [if_neg ej] at h2
        exact h.apart i j q q' hij h1 h2 h3 h4
  · simp only [getB_setB] at h1
    by_cases e : i = id
    · subst e; exact h.own i q ho h3
    · rw [if_neg e] at h1; exact h.own i q h1 h3
  · intro e
    subst e
    rcases h.own id p ho hm with h1 | h1
    · omega
    · exact hbad h1

/-- A block is used up. -/
theorem Holds.dead (h : Holds B bad w0 m st a w) (id : Nat) : Holds B bad w0 m ⟨st.tmps, setB st.heap id .dead⟩ a w := by
  refine ⟨h.defers, h.size, h.tmp, fun i => ?_, fun i j q q' hij h1 h2 h3 h4 => ?_, fun i q h1 h3 => ?_, h.below, h.base⟩
  · simp only [getB_setB]
    by_cases e : i = id
    · rw [if_pos e]; trivial
    · rw [if_neg e]; exact h.blk i
  · simp only [getB_setB] at h1 h2
    by_cases ei : i = id
    · rw [if_pos ei] at h1; cases h1
    · by_cases ej : j = id
      · rw [if_pos ej] at h2; cases h2
      · rw [if_neg ei] at h1; rw [if_neg ej] at h2
        exact h.apart i j q q' hij h1 h2 h3 h4
  · simp only [getB_setB] at h1
    by_cases e : i = id
    · rw [if_pos e] at h1; cases h1
    · rw [if_neg e] at h1; exact h.own i q h1 h3

end
end Go.Proofs.Ythbighklfajmdaa.Ev
