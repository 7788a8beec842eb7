/- The reckoning is sound, operation by operation (1): what only yields a value. -/
import Derived.Test.YtdoagjphjnbbnaaEv1
import Derived.Laws.StructEq
namespace Go.Proofs.Ytdoagjphjnbbnaa.Ev
open Go.RowKit
set_option linter.unusedVariables false
set_option linter.unusedSimpArgs false

def KindOk (P : Program) (t : TypeId) : TK → Prop
  | .int k => P.underlying t = some (.int k)
  | .bool => P.underlying t = some .bool
  | .slice e => P.underlying t = some (.slice e)
  | .struct fs => ∃ fields : Array Field, P.underlying t = some (.struct fields) ∧ fields.toList.map (fun f => (f.offset, f.type)) = fs ∧ ∃ places, fields.toList.mapM (fun f => (P.info? f.type).map fun i => (f.offset, i.size)) = some places
  | .array n e => P.underlying t = some (.array n e)
  | .ptr e => P.underlying t = some (.pointer e)
  | .other => ∃ d, P.underlying t = some d ∧ (∀ fs, d ≠ .struct fs) ∧ (∀ n e, d ≠ .array n e)

def ints (l : List Int) : Array Value := (l.map (Value.int .i64)).toArray

structure TI.Ok (P : Program) (t : TypeId) (ti : TI) : Prop where
  info : ∃ i zv, P.info? t = some i ∧ i.size = ti.size ∧ i.bytes = ti.bytes ∧ i.zero = some zv ∧ All2 (fun s v => ∀ m, DenS m s v) ti.zero zv.cells.toList
  kind : KindOk P t ti.k
  flat : ti.flat = true → P.eqGuardType P.depth t = false ∧ ∀ (as bs : List Int) (r : Bool) (w : World), as.length = ti.size → bs.length = ti.size → eqInts as bs = some r →
    (Op.equal t (.agg (ints as)) (.agg (ints bs))).run P w = .ok r w

def Tab.Ok (P : Program) (T : Tab) : Prop := ∀ t ti, T.get t = some ti → ti.Ok P t

section
variable {P : Program} {T : Tab} {t : TypeId} {ti : TI} {w : World}
theorem TI.Ok.size (h : ti.Ok P t) : (sizeOf t).run P w = .ok ti.size w := by
  obtain ⟨i, zv, h1, h2, _⟩ := h.info
  simp [sizeOf, typeInfo, h1, h2]
theorem TI.Ok.bytes (h : ti.Ok P t) : (typeInfo t).run P w = .ok ((P.info? t).get (by obtain ⟨i, zv, h1, _⟩ := h.info; simp [h1])) w := by
  obtain ⟨i, zv, h1, h2, _⟩ := h.info
  simp [typeInfo, h1]
theorem TI.Ok.zero (h : ti.Ok P t) : ∃ zv, (∀ w, (zeroValue t).run P w = .ok zv w) ∧ All2 (fun s v => ∀ m, DenS m s v) ti.zero zv.cells.toList := by
  obtain ⟨i, zv, h1, h2, h3, h4, h5⟩ := h.info
  exact ⟨zv, fun w => by simp [zeroValue, typeInfo, h1, h4], h5⟩
theorem TI.Ok.under (h : ti.Ok P t) : ∃ d, P.underlying t = some d := by
  have := h.kind
  cases hk : ti.k <;> rw [hk] at this <;> first | exact ⟨_, this⟩ | (obtain ⟨f, h, _⟩ := this; exact ⟨_, h⟩)
theorem TI.Ok.agg (h : ti.Ok P t) : (isAgg t).run P w = .ok (isAggK ti.k) w := by
  have := h.kind
  cases hk : ti.k <;> rw [hk] at this <;> simp only [KindOk] at this
  case struct fs => obtain ⟨f, h, _⟩ := this; simp [isAgg, run_underlying h, isAggK]
  case other =>
    obtain ⟨d, h, h1, h2⟩ := this
    cases d <;> first | (simp [isAgg, run_underlying h, isAggK]; done) | exact absurd rfl (h1 _) | exact absurd rfl (h2 _ _)
  all_goals simp [isAgg, run_underlying this, isAggK]
end

theorem ofV_toList : ∀ {l : List Value} {ss : List SV}, ofV.toList l = some ss → ∀ m, All2 (DenS m) ss l
  | [], ss, h, m => by simp only [ofV.toList] at h; cases h; trivial
  | v :: r, ss, h, m => by
    cases v with
    | int k n =>
      simp only [ofV.toList] at h
      split at h
      · rename_i l hl; cases h; exact ⟨rfl, ofV_toList hl m⟩
      · cases h
    | bool b =>
      simp only [ofV.toList] at h
      split at h
      · rename_i l hl; cases h; exact ⟨rfl, ofV_toList hl m⟩
      · cases h
    | _ => simp [ofV.toList] at h
theorem ofV_den (m : Map) (v : Value) : Den m (ofV v) v := by
  unfold ofV
  split
  · rfl
  · rfl
  · rfl
  · split
    · rename_i l hl; exact ⟨_, rfl, ofV_toList hl m⟩
    · trivial
  · rfl
theorem evL_den {m : Map} {l : List SV} {a : Act} (h : ∀ t, Den m (getL l t) (a.tmps.getD t undef)) (x : Operand) : Den m (evL l x) (a.eval x) := by
  cases x with
  | tmp t => exact h t
  | const v => exact ofV_den m v
  | _ => trivial

theorem getL_eq : ∀ (l : List SV) (n : Nat), getL l n = l.getD n .any
  | [], n => by simp [getL]
  | h :: t, 0 => by simp [getL]
  | h :: t, n + 1 => by simp [getL, getL_eq t n]

theorem lenIs_eq : ∀ {l : List SV} {n : Nat}, lenIs l n = true → l.length = n
  | [], 0, _ => rfl
  | [], n + 1, h => by simp [lenIs] at h
  | _ :: r, 0, h => by simp [lenIs] at h
  | _ :: r, n + 1, h => by simp [lenIs_eq (l := r) (n := n) (by simpa [lenIs] using h)]
theorem takeN_eq : ∀ {l : List SV} {k n : Nat} {r : List SV}, takeN l k n = some r → r = (l.drop k).take n ∧ k + n ≤ l.length
  | l, 0, 0, r, h => by
    have : some ([] : List SV) = some r := by cases l <;> exact h
    cases this; simp
  | [], 0, n + 1, r, h => by simp [takeN] at h
  | [], k + 1, n, r, h => by simp [takeN] at h
  | c :: cs, 0, n + 1, r, h => by
    simp only [takeN] at h
    split at h
    · rename_i r' h'; cases h
      obtain ⟨e, hl⟩ := takeN_eq h'
      simp only [List.drop_zero] at e ⊢
      exact ⟨by rw [e]; rfl, by simp; omega⟩
    · cases h
  | c :: cs, k + 1, n, r, h => by
    simp only [takeN] at h
    obtain ⟨e, hl⟩ := takeN_eq h
    exact ⟨e, by simp; omega⟩
theorem overlay_eq : ∀ {cs : List SV} {n : Nat} {vs r : List SV}, overlay cs n vs = some r → n + vs.length ≤ cs.length ∧ r.length = cs.length ∧ r = cs.take n ++ vs ++ cs.drop (n + vs.length)
  | cs, 0, [], r, h => by
    have : some cs = some r := by cases cs <;> exact h
    cases this; simp
  | [], 0, v :: vs, r, h => by simp [overlay] at h
  | [], n + 1, vs, r, h => by simp [overlay] at h
  | c :: cs, 0, v :: vs, r, h => by
    simp only [overlay] at h
    split at h
    · rename_i r' h'; cases h
      obtain ⟨e1, e2, e3⟩ := overlay_eq h'
      refine ⟨by simp at e1 ⊢; omega, by simp [e2], ?_⟩
      rw [e3]; simp
    · cases h
  | c :: cs, n + 1, vs, r, h => by
    simp only [overlay] at h
    split at h
    · rename_i r' h'; cases h
      obtain ⟨e1, e2, e3⟩ := overlay_eq h'
      refine ⟨by simp; omega, by simp [e2], ?_⟩
      rw [e3, Nat.succ_add]; simp
    · cases h

theorem cells_one {v : Value} (h : v.oneCell' = true) : v.cells = #[v] := by
  cases v <;> first | rfl | (simp [Value.oneCell'] at h)
theorem cellsOf_den {m : Map} {s : SV} {v : Value} {cs : List SV} (hc : cellsOf s = some cs) (hd : Den m s v) : All2 (DenS m) cs v.cells.toList := by
  cases s <;> simp only [cellsOf] at hc
  case cst u =>
    simp only [Den, DenA, DenS] at hd
    subst hd
    split at hc
    · rename_i h1; cases hc; rw [cells_one h1]; exact ⟨rfl, trivial⟩
    · cases hc
  all_goals (cases hc <;> simp only [Den, DenA, DenS] at hd)
  case agg => obtain ⟨vs, rfl, h⟩ := hd; exact h
  case sl => obtain ⟨l, ad, c, e, rfl, r⟩ := hd; exact ⟨⟨l, ad, c, e, rfl, r⟩, trivial⟩
  case osl b id esz len =>
    cases b
    · have h2 := hd.2 rfl
      obtain ⟨l, ad, c, e, rfl, r⟩ := h2
      exact ⟨hd, trivial⟩
    · obtain ⟨rfl, h⟩ := hd.1 rfl
      exact ⟨hd, trivial⟩
  all_goals first
    | (subst hd; exact ⟨rfl, trivial⟩)
    | (obtain ⟨l, e, rfl⟩ := hd; exact ⟨⟨l, e, rfl⟩, trivial⟩)

theorem toI_den {m : Map} {s : SV} {v : Value} {n : Int} (h : toI s = some n) (hd : Den m s v) : v = .int .i64 n := by
  cases s with
  | lit k n => cases k <;> simp only [toI] at h <;> first | (cases h; exact hd) | cases h
  | int k n => cases k <;> simp only [toI] at h <;> first | (cases h; exact hd) | cases h
  | _ => simp [toI] at h
theorem toIs_den {m : Map} : ∀ {ss : List SV} {vs : List Value} {ns : List Int}, toIs ss = some ns → All2 (DenS m) ss vs → vs = ns.map (Value.int .i64)
  | [], [], ns, h, _ => by simp only [toIs] at h; cases h; rfl
  | s :: ss, v :: vs, ns, h, ⟨h1, h2⟩ => by
    simp only [toIs] at h
    split at h
    · rename_i n hn
      split at h
      · rename_i ns' hns
        cases h
        rw [toIs_den hns h2, toI_den hn h1.a.d]
        rfl
      · cases h
    · cases h
theorem toIs_length : ∀ {ss : List SV} {ns : List Int}, toIs ss = some ns → ns.length = ss.length
  | [], ns, h => by simp only [toIs] at h; cases h; rfl
  | s :: ss, ns, h => by
    simp only [toIs] at h
    split at h
    · split at h
      · rename_i ns' hns; cases h; simp [toIs_length hns]
      · cases h
    · cases h
theorem toN_den {m : Map} {s : SV} {v : Value} {k : IntKind} {n : Int} {u : Bool} (h : toN s = some (k, n, u)) (hd : Den m s v) : v = .int k n := by
  cases s <;> simp only [toN] at h <;> first | (cases h; exact hd) | cases h
theorem toB_den {m : Map} {s : SV} {v : Value} {b : Bool} (h : toB s = some b) (hd : Den m s v) : v = .bool b := by
  cases s <;> simp only [toB] at h <;> first | (cases h; exact hd) | cases h

/-- What only yields a value. -/
def Yields (P : Program) (m : Map) (s : Sem Value) (w : World) (r : Res) : Prop := ∃ v, s.run P w = .ok v w ∧ Den m r.val v ∧ r.wr = []

theorem cell_of {w : World} {g off : Nat} {vs : Array Value} {ty : TypeId} {fr : Nat × Nat} (h : w.heap[g]? = some (.cells vs ty fr)) : w.cell? ⟨g, off, none⟩ = vs[off]? := by
  simp [World.cell?, h]

theorem add_off (g o j : Nat) : (⟨g, o, none⟩ : Addr).add j = ⟨g, o + j, none⟩ := by
  unfold Addr.add
  split
  · rename_i h; subst h; rfl
  · rfl

section
variable {P : Program} {T : Tab} {m : Map} {w : World} {rd : Nat → Blk} {r : Res}

theorem at2_pick {xs : List (List Int)} {i : Nat} : ∀ (n j : Nat), (pick2 xs i j n).length = n ∧ ∀ k, k < n → (pick2 xs i j n)[k]? = some (.int .i64 (at2 xs i (j + k)))
  | 0, j => ⟨rfl, fun k hk => by omega⟩
  | n + 1, j => by
    obtain ⟨h1, h2⟩ := at2_pick (xs := xs) (i := i) n (j + 1)
    refine ⟨by simp [pick2, h1], fun k hk => ?_⟩
    cases k with
    | zero => rfl
    | succ k => simp only [pick2, List.getElem?_cons_succ]; rw [h2 k (by omega), show j + 1 + k = j + (k + 1) by omega]

theorem all2_of_get {α β : Type} {R : α → β → Prop} : ∀ {as : List α} {bs : List β}, as.length = bs.length → (∀ (i : Nat) (a : α) (b : β), as[i]? = some a → bs[i]? = some b → R a b) → All2 R as bs
  | [], [], _, _ => trivial
  | a :: as, b :: bs, hl, h => ⟨h 0 a b rfl rfl, all2_of_get (by simpa using hl) (fun i a b h1 h2 => h (i + 1) a b (by simpa using h1) (by simpa using h2))⟩

/-- Cells known one by one, loaded. -/
theorem load_cells {l : Place} {vs : Array Value} {ty : TypeId} {fr : Nat × Nat} (hw : w.heap[l.b]? = some (.cells vs ty fr)) (off n : Nat) (h : off + n ≤ vs.size) :
    (loadCells ⟨l.b, off, none⟩ n).run P w = .ok ((vs.toList.drop off).take n).toArray w := by
  have hl : ((vs.toList.drop off).take n).length = n := by simp; omega
  have := run_loadCells_list (P := P) w ⟨l.b, off, none⟩ ((vs.toList.drop off).take n) (fun j v hj => by
    have hjn : j < n := by have := (List.getElem?_eq_some_iff.1 hj).1; omega
    rw [add_off, cell_of hw, ← hj]
    rw [List.getElem?_take_of_lt hjn, List.getElem?_drop, Array.getElem?_toList])
  rwa [hl] at this

theorem sound_load {t : TypeId} {p : SV} {v : Value} (hT : T.Ok P) (he : effLoad T rd t p = some r) (hp : ∀ q ∈ r.pre, q) (hv : Den m p v) (hb : ∀ id, BlkH m id w (rd id)) :
    Yields P m (Instr.loadAt t v) w r := by
  unfold effLoad at he
  split at he
  rotate_left
  · cases he
  rename_i ti hti
  have ht := hT t ti hti
  split at he
  · rename_i id off
    split at he
    rotate_left
    · cases he
    rename_i cs hcs
    have hB := hb id
    rw [hcs] at hB
    obtain ⟨l, vs, ty, hm, ho, hw, hd⟩ := hB
    obtain ⟨l', hm', rfl⟩ := hv
    have e : l = l' := Option.some.inj (hm.symm.trans hm')
    subst e
    rw [ho, Nat.zero_add]
    split at he
    · rename_i hag
      split at he
      · rename_i q hq
        cases he
        obtain ⟨rfl, hle⟩ := takeN_eq hq
        have hlen := hd.length
        refine ⟨.agg ((vs.toList.drop off).take ti.size).toArray, ?_, ⟨_, rfl, by simpa using (hd.drop off).take ti.size⟩, rfl⟩
        have hls := load_cells (P := P) hw off ti.size (by simp at hlen; omega)
        simp only [Instr.loadAt, Instr.sureAddr, loadVar, Sem.run_bind, Sem.run_pure, Result.andThen_ok, ht.agg, hag, if_true, ht.size, hls]
      · cases he
    · rename_i hag
      split at he
      · rename_i q hq
        cases he
        obtain ⟨u, hu, hdu⟩ := hd.get off q hq
        refine ⟨u, ?_, hdu.a.d, rfl⟩
        have hc : w.cell? ⟨l.b, off, none⟩ = some u := by rw [cell_of hw, ← Array.getElem?_toList]; exact hu
        simp only [Instr.loadAt, Instr.sureAddr, loadVar, Sem.run_bind, Sem.run_pure, Result.andThen_ok, ht.agg, hag, Bool.false_eq_true, if_false, run_load, hc]
      · cases he
  · rename_i id esz i j
    split at he
    rotate_left
    · cases he
    rename_i ow ok esz' xs hcs
    have hB := hb id
    rw [hcs] at hB
    split at he
    rotate_left
    · cases he
    rename_i hg
    simp only [Bool.and_eq_true] at hg
    obtain ⟨hg1, hg2⟩ := hg
    have hesz := Nat.eq_of_beq_eq_true hg1
    subst hesz
    have hj := Nat.le_of_ble_eq_true hg2
    obtain ⟨l', hm', rfl⟩ := hv
    split at he
    · rename_i hag
      cases he
      have hok : ok = true := hp _ (by simp)
      have hi : i < xs.length := hp _ (by simp)
      obtain ⟨l, vs, ty, fr, hm, hw, hd, _⟩ := hB hok
      have e : l = l' := Option.some.inj (hm.symm.trans hm')
      subst e
      obtain ⟨hpl, hpk⟩ := at2_pick (xs := xs) (i := i) ti.size j
      have hls := run_loadCells (P := P) w ⟨l.b, l.o + (i * esz + j), none⟩ ti.size (fun k => .int .i64 (at2 xs i (j + k))) (fun k hk => by
        rw [add_off, cell_of hw, ← hd i (j + k) hi (by omega)]; congr 1; omega)
      refine ⟨_, by simp only [Instr.loadAt, Instr.sureAddr, loadVar, Sem.run_bind, Sem.run_pure, Result.andThen_ok, ht.agg, hag, if_true, ht.size, hls]; rfl, ⟨_, rfl, ?_⟩, rfl⟩
      refine all2_of_get (by simp [hpl]) (fun k a b h1 h2 => ?_)
      have hk : k < ti.size := by have := (List.getElem?_eq_some_iff.1 h1).1; omega
      rw [hpk k hk] at h1
      cases h1
      simp [hk] at h2
      exact h2.symm
    · rename_i hag
      cases he
      have hok : ok = true := hp _ (by simp)
      have hi : i < xs.length := hp _ (by simp)
      have hs : ti.size = 1 := hp _ (by simp)
      obtain ⟨l, vs, ty, fr, hm, hw, hd, _⟩ := hB hok
      have e : l = l' := Option.some.inj (hm.symm.trans hm')
      subst e
      have hc : w.cell? ⟨l.b, l.o + (i * esz + j), none⟩ = some (.int .i64 (at2 xs i j)) := by rw [cell_of hw]; exact hd i j hi (by omega)
      exact ⟨_, by simp only [Instr.loadAt, Instr.sureAddr, loadVar, Sem.run_bind, Sem.run_pure, Result.andThen_ok, ht.agg, hag, Bool.false_eq_true, if_false, run_load, hc], rfl, rfl⟩
  · cases he

theorem inR {k : IntKind} {e : Int} (h : InR k e) : k.wrap e = e := by
  cases k <;> first | exact h | exact IntWalk.i64_in _ h

theorem min_int (a b : Int) : (if b < a then b else a) = min a b := by omega
theorem max_int (a b : Int) : (if b > a then b else a) = max a b := by omega

theorem eqGuard_num (op : BinOp) (t : TypeId) (x y : Operand) (k k' : IntKind) (a b : Int) : (eqGuard op t x y (.int k a) (.int k' b)).run P w = .ok () w := by
  cases op <;> simp [eqGuard]
theorem eqGuard_bool (op : BinOp) (t : TypeId) (x y : Operand) (a b : Bool) : (eqGuard op t x y (.bool a) (.bool b)).run P w = .ok () w := by
  cases op <;> simp [eqGuard]
theorem eqGuard_slice (op : BinOp) (t : TypeId) (x y : Operand) (p q : Option Addr) (a b c d : Nat) : (eqGuard op t x y (.slice p a b) (.slice q c d)).run P w = .ok () w := by
  cases op <;> simp [eqGuard]

theorem bin_int {op : BinOp} {t : TypeId} {k : IntKind} {a b : Int} {u : Bool} {ps : List Prop} {s : SV} (he : binI op k a b u = some (ps, s)) (hp : ∀ q ∈ ps, q) :
    ∃ v, (binOp op t (.int k a) (.int k b)).run P w = .ok v w ∧ Den m s v := by
  cases op <;> simp only [binI] at he <;> first | (cases he; done) | skip
  case add =>
    cases u <;> simp only at he
    · cases he
      have h1 : InR k (a + b) := hp _ (by simp)
      exact ⟨.int k (a + b), by simp [binOp, Op.intArith, inR h1], rfl⟩
    · split at he
      · rename_i n hn; cases he
        obtain rfl := litO_eq hn
        exact ⟨.int k (k.wrap (a + b)), by simp [binOp, Op.intArith], rfl⟩
      · cases he
  case sub =>
    cases u <;> simp only at he
    · cases he
      have h1 : InR k (a - b) := hp _ (by simp)
      exact ⟨.int k (a - b), by simp [binOp, Op.intArith, inR h1], rfl⟩
    · split at he
      · rename_i n hn; cases he
        obtain rfl := litO_eq hn
        exact ⟨.int k (k.wrap (a - b)), by simp [binOp, Op.intArith], rfl⟩
      · cases he
  case mul =>
    cases u <;> simp only at he
    · cases he
      have h1 : InR k (a * b) := hp _ (by simp)
      exact ⟨.int k (a * b), by simp [binOp, Op.intArith, inR h1], rfl⟩
    · split at he
      · rename_i n hn; cases he
        obtain rfl := litO_eq hn
        exact ⟨.int k (k.wrap (a * b)), by simp [binOp, Op.intArith], rfl⟩
      · cases he
  case quo =>
    cases he
    have h1 : b ≠ 0 := hp _ (by simp)
    have h2 : InR k (a.tdiv b) := hp _ (by simp)
    exact ⟨.int k (a.tdiv b), by simp [binOp, Op.intDiv, h1, inR h2], rfl⟩
  case rem =>
    cases he
    have h1 : b ≠ 0 := hp _ (by simp)
    exact ⟨.int k (a.tmod b), by simp [binOp, Op.intDiv, h1], rfl⟩
  all_goals
    (cases u <;> simp only at he <;> cases he <;> refine ⟨_, by simp [binOp, Op.intCmp]; rfl, ?_⟩ <;> simp [Den, DenA, DenS] <;> rfl)

theorem ints_of {ss : List SV} {ns : List Int} {vs : Array Value} (h : toIs ss = some ns) (hd : All2 (DenS m) ss vs.toList) : vs = ints ns := by
  apply Array.ext'
  rw [toIs_den h hd]
  rfl

theorem nils_den {v : Value} (h : Den m .nils v) : v = .slice none 0 0 := h
theorem sl_den {v : Value} {a b c d : Nat} (h : Den m (.sl a b c d) v) : ∃ ad n k, v = .slice (some ad) n k := by
  obtain ⟨l, ad, c, e, hv, _⟩ := h; exact ⟨ad, _, c, hv⟩
theorem osl_den {v : Value} {b : Bool} {a c d : Nat} (h : Den m (.osl b a c d) v) : (b = true ∧ v = .slice none 0 0) ∨ (b = false ∧ ∃ ad n k, v = .slice (some ad) n k) := by
  cases b
  · obtain ⟨l, ad, c, e, hv, _⟩ := h.2 rfl; exact Or.inr ⟨rfl, ad, _, c, hv⟩
  · exact Or.inl ⟨rfl, (h.1 rfl).1⟩
end
end Go.Proofs.Ytdoagjphjnbbnaa.Ev
