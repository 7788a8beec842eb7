/- The reckoning is sound, operation by operation (2): the other operations that only yield a value. -/
import Derived.Test.YtapbegcmdiemoaaEv2
namespace Go.Proofs.Ytapbegcmdiemoaa.Ev
open Go.RowKit
set_option linter.unusedVariables false
set_option linter.unusedSimpArgs false

section
variable {P : Program} {T : Tab} {m : Map} {w : World} {rd : Nat → Blk} {r : Res}

theorem eqInts_length : ∀ {as bs : List Int} {q : Bool}, eqInts as bs = some q → as.length = bs.length
  | [], [], q, h => rfl
  | [], _ :: _, q, h => by simp [eqInts] at h
  | _ :: _, [], q, h => by simp [eqInts] at h
  | a :: [], b :: [], q, h => rfl
  | a :: [], b :: _ :: _, q, h => by simp [eqInts] at h
  | a :: a' :: as, b :: bs, q, h => by
    simp only [eqInts] at h
    split at h
    · rename_i q' hq; simpa using eqInts_length hq
    · cases h

theorem equalIn_none (d : Nat) {t el : TypeId} (h : P.underlying t = some (.slice el)) (q : Option Addr) (n k n' k' : Nat) : (Op.equalIn (d + 1) t (.slice none n k) (.slice q n' k')).run P w = .ok q.isNone w := by
  simp [Op.equalIn, run_underlying h]
theorem equalIn_some (d : Nat) {t el : TypeId} (h : P.underlying t = some (.slice el)) (p : Addr) (n k n' k' : Nat) : (Op.equalIn (d + 1) t (.slice (some p) n k) (.slice none n' k')).run P w = .ok false w := by
  simp [Op.equalIn, run_underlying h]
theorem sound_bin {op : BinOp} {t : TypeId} {x y : SV} {u v : Value} {ps : List Prop} {s : SV} (xo yo : Operand) (hT : T.Ok P)
    (he : binS T op t x y = some (ps, s)) (hp : ∀ q ∈ ps, q) (hu : Den m x u) (hv : Den m y v) :
    ∃ z, (do eqGuard op t xo yo u v; binOp op t u v : Sem Value).run P w = .ok z w ∧ Den m s z := by
  unfold binS at he
  split at he
  · rename_i k a ua hx
    split at he
    · rename_i k' b ub hy
      split at he
      · rename_i hk
        have hk' : k = k' := of_decide_eq_true hk
        subst hk'
        obtain rfl := toN_den hx hu
        obtain rfl := toN_den hy hv
        split at he
        · rename_i hw
          cases he
          have hop : op = .add := by
            cases op <;> first | rfl | (simp only [wrOf] at hw; cases hw)
          subst hop
          have hz : (binOp .add t (.int k a) (.int k b)).run P w = .ok (.int k (k.wrap (a + b))) w := by simp [binOp, Op.intArith]
          exact ⟨_, by simp only [Sem.run_bind, eqGuard_num, Result.andThen_ok, hz], rfl⟩
        obtain ⟨z, hz, hd⟩ := bin_int (P := P) (m := m) (w := w) (t := t) he hp
        exact ⟨z, by simp only [Sem.run_bind, eqGuard_num, Result.andThen_ok, hz], hd⟩
      · cases he
    · cases he
  · split at he
    · cases he
    · rename_i e hop
      have hop' : (op = .eql ∧ e = true) ∨ (op = .neq ∧ e = false) := by
        cases op <;> simp only [isEq] at hop <;> first | (cases hop; done) | (cases hop; simp)
      have fin : ∀ (d : Bool), (∀ w, (eqGuard op t xo yo u v).run P w = .ok () w) → (∀ w, (binOp .eql t u v).run P w = .ok (.bool d) w) → (∀ w, (binOp .neq t u v).run P w = .ok (.bool (!d)) w) →
          (∀ z, z = .bool (bif e then d else !d) → Den m s z) → ∃ z, (do eqGuard op t xo yo u v; binOp op t u v : Sem Value).run P w = .ok z w ∧ Den m s z := by
        intro d h1 h2 h3 h4
        rcases hop' with ⟨rfl, rfl⟩ | ⟨rfl, rfl⟩
        · exact ⟨.bool d, by simp only [Sem.run_bind, h1, Result.andThen_ok, h2], h4 _ rfl⟩
        · exact ⟨.bool !d, by simp only [Sem.run_bind, h1, Result.andThen_ok, h3], h4 _ rfl⟩
      clear hop hop'
      split at he
      · cases he
      rename_i ti hti
      have hk := (hT t ti hti).kind
      split at he
      · rename_i el hel
        rw [hel] at hk
        have ht : P.underlying t = some (.slice el) := hk
        have sl : ∀ (d : Bool) (p q : Option Addr) (n k n' k' : Nat), u = .slice p n k → v = .slice q n' k' → (p = none → d = q.isNone) → (p ≠ none → q = none ∧ d = false) →
            (∀ z, z = .bool (bif e then d else !d) → Den m s z) → ∃ z, (do eqGuard op t xo yo u v; binOp op t u v : Sem Value).run P w = .ok z w ∧ Den m s z := by
          intro d p q n k n' k' e1 e2 h1 h2 h4
          subst e1; subst e2
          have hq : ∀ w, (Op.equal t (.slice p n k) (.slice q n' k')).run P w = .ok d w := by
            intro w
            cases p with
            | none => rw [h1 rfl]; exact equalIn_none 9999 ht _ _ _ _ _
            | some p => obtain ⟨rfl, rfl⟩ := h2 (by simp); exact equalIn_some 9999 ht _ _ _ _ _
          refine fin d (fun w => eqGuard_slice _ _ _ _ _ _ _ _ _ _) (fun w => ?_) (fun w => ?_) h4
          · simp [binOp, hq]
          · simp [binOp, hq]
        clear fin
        unfold eqSl at he
        split at he
        · cases he
          obtain rfl := nils_den hu
          obtain rfl := nils_den hv
          exact sl true none none 0 0 0 0 rfl rfl (fun _ => rfl) (fun h => absurd rfl h) (fun z hz => by rw [hz]; cases e <;> rfl)
        · cases he
          obtain ⟨ad, n, k, rfl⟩ := sl_den hu
          obtain rfl := nils_den hv
          exact sl false (some ad) none n k 0 0 rfl rfl (fun h => by cases h) (fun _ => ⟨rfl, rfl⟩) (fun z hz => by rw [hz]; cases e <;> rfl)
        · cases he
          obtain ⟨ad, n, k, rfl⟩ := sl_den hv
          obtain rfl := nils_den hu
          exact sl false none (some ad) 0 0 n k rfl rfl (fun h => rfl) (fun h => absurd rfl h) (fun z hz => by rw [hz]; cases e <;> rfl)
        · rename_i b _ _ _ _
          obtain rfl := nils_den hv
          have h5 : ∀ z, z = Value.bool (bif e then b else !b) → Den m s z := by
            intro z hz
            cases e <;> simp only at he <;> cases he <;> rw [hz] <;> rfl
          rcases osl_den hu with ⟨rfl, rfl⟩ | ⟨rfl, ad, n, k, rfl⟩
          · exact sl true none none 0 0 0 0 rfl rfl (fun _ => rfl) (fun h => absurd rfl h) h5
          · exact sl false (some ad) none n k 0 0 rfl rfl (fun h => by cases h) (fun _ => ⟨rfl, rfl⟩) h5
        · rename_i b _ _ _ _
          obtain rfl := nils_den hu
          have h5 : ∀ z, z = Value.bool (bif e then b else !b) → Den m s z := by
            intro z hz
            cases e <;> simp only at he <;> cases he <;> rw [hz] <;> rfl
          rcases osl_den hv with ⟨rfl, rfl⟩ | ⟨rfl, ad, n, k, rfl⟩
          · exact sl true none none 0 0 0 0 rfl rfl (fun _ => rfl) (fun h => absurd rfl h) h5
          · exact sl false none (some ad) 0 0 n k rfl rfl (fun h => rfl) (fun h => absurd rfl h) h5
        · cases he
      · rename_i hkb
        rw [hkb] at hk
        have ht : P.underlying t = some .bool := hk
        unfold eqBool at he
        split at he
        rotate_left
        · cases he
        rename_i a ha
        split at he
        rotate_left
        · cases he
        rename_i b hb
        obtain rfl := toB_den ha hu
        obtain rfl := toB_den hb hv
        refine fin (a == b) (fun w => eqGuard_bool _ _ _ _ _ _) (fun w => run_eql_bool w t a b ht) (fun w => run_neq_bool w t a b ht) (fun z hz => ?_)
        cases e <;> simp only at he <;> cases he <;> rw [hz] <;> rfl
      · unfold eqAgg at he
        split at he
        rotate_left
        · cases he
        rename_i cs ds
        split at he
        rotate_left
        · cases he
        rename_i hlen
        simp only [Bool.and_eq_true] at hlen
        split at he
        rotate_left
        · cases he
        rename_i as has
        split at he
        rotate_left
        · cases he
        rename_i bs hbs
        split at he
        rotate_left
        · cases he
        rename_i d hd
        obtain ⟨us, rfl, hus⟩ := hu
        obtain ⟨vs, rfl, hvs⟩ := hv
        obtain ⟨hg, hq⟩ := (hT t ti hti).flat hlen.1.1
        have hq' := fun w => hq as bs d w (by rw [toIs_length has, lenIs_eq hlen.1.2]) (by rw [toIs_length hbs, lenIs_eq hlen.2]) hd
        rw [← ints_of has hus, ← ints_of hbs hvs] at hq'
        refine fin d (fun w => run_eqGuard_agg w _ _ _ _ _ _ hg) (fun w => ?_) (fun w => ?_) (fun z hz => ?_)
        · simp [binOp, hq']
        · simp [binOp, hq']
        · cases e <;> simp only at he <;> cases he <;> rw [hz] <;> rfl

theorem sound_pick {c a b : SV} {vc va vb : Value} (he : effPick c a b = some r) (hp : ∀ q ∈ r.pre, q) (hc : Den m c vc) (ha : Den m a va) (hb : Den m b vb) :
    ∃ z, (do pure (.value (if ← asBool vc then va else vb)) : Sem Next).run P w = .ok (.value z) w ∧ Den m r.val z ∧ r.wr = [] := by
  unfold effPick at he
  split at he
  · cases he; obtain rfl : vc = .bool true := hc; exact ⟨va, by simp [asBool], ha, rfl⟩
  · cases he; obtain rfl : vc = .bool false := hc; exact ⟨vb, by simp [asBool], hb, rfl⟩
  · rename_i p
    split at he
    · rename_i x hx
      split at he
      · rename_i y hy
        cases he
        obtain rfl := toB_den hx ha
        obtain rfl := toB_den hy hb
        obtain rfl : vc = .bool p := hc
        refine ⟨.bool (bif p then x else y), ?_, rfl, rfl⟩
        cases p <;> simp [asBool]
      · cases he
        obtain rfl : p = true := hp _ (List.mem_singleton.2 rfl)
        obtain rfl : vc = .bool true := hc
        exact ⟨va, by simp [asBool], ha, rfl⟩
    · cases he
      obtain rfl : p = false := hp _ (List.mem_singleton.2 rfl)
      obtain rfl : vc = .bool false := hc
      exact ⟨vb, by simp [asBool], hb, rfl⟩
  · cases he

theorem sound_nil {x : SV} {v : Value} (he : effNil x = some r) (hx : Den m x v) : (∃ ad, v = .pointer (some ad)) ∧ Den m r.val v ∧ r.wr = [] := by
  unfold effNil at he
  split at he
  · cases he; obtain ⟨l, e, rfl⟩ := hx; exact ⟨⟨_, rfl⟩, ⟨l, e, rfl⟩, rfl⟩
  · cases he; obtain ⟨l, e, rfl⟩ := hx; exact ⟨⟨_, rfl⟩, ⟨l, e, rfl⟩, rfl⟩
  · cases he

theorem sound_un {op : UnOp} {x : SV} {v : Value} (he : effUn op x = some r) (hp : ∀ q ∈ r.pre, q) (hx : Den m x v) : Yields P m (Op.unary op v) w r := by
  unfold effUn at he
  split at he
  · split at he
    · rename_i b; cases he; obtain rfl : v = .bool b := hx; exact ⟨.bool !b, by simp [Op.unary], rfl, rfl⟩
    · rename_i b; cases he; obtain rfl : v = .bool b := hx; exact ⟨.bool !b, by simp [Op.unary], rfl, rfl⟩
    · cases he
  · split at he
    · rename_i k n
      obtain rfl : v = .int k n := hx
      split at he
      · rename_i z hz; cases he
        obtain rfl := litO_eq hz
        exact ⟨.int k (k.wrap (0 - n)), by simp [Op.unary, Op.intArith], rfl, rfl⟩
      · cases he
    · rename_i k n
      cases he
      obtain rfl : v = .int k n := hx
      have h1 : InR k (-n) := hp _ (by simp)
      exact ⟨.int k (-n), by simp [Op.unary, Op.intArith, inR h1], rfl, rfl⟩
    · cases he
  · cases he

theorem sound_conv {s d : TypeId} {x : SV} {v : Value} (hT : T.Ok P) (he : effConv T s d x = some r) (hp : ∀ q ∈ r.pre, q) (hx : Den m x v) : Yields P m (convert s d v) w r := by
  unfold effConv at he
  split at he
  rotate_left
  · cases he
  rename_i si hsi
  obtain ⟨ds, hds⟩ := (hT s si hsi).under
  split at he
  rotate_left
  · cases he
  rename_i k _ _ _ _ _ hdi
  have hk := (hT d _ hdi).kind
  simp only [KindOk] at hk
  have hrun : ∀ k' n, (convert s d (.int k' n)).run P w = .ok (.int k (k.wrap n)) w := fun k' n => by
    simp [convert, run_underlying hds, run_underlying hk, Conv.intToInt]
  split at he
  · rename_i k' n
    obtain rfl : v = .int k' n := hx
    split at he
    · rename_i z hz; cases he
      obtain rfl := litO_eq hz
      exact ⟨_, hrun _ _, rfl, rfl⟩
    · cases he
  · rename_i k' n
    cases he
    obtain rfl : v = .int k' n := hx
    have h1 : InR k n := hp _ (by simp)
    exact ⟨_, hrun _ _, by rw [inR h1]; rfl, rfl⟩
  · cases he

theorem fields_get {fields : Array Field} {fs : List (Nat × TypeId)} (h : fields.toList.map (fun f => (f.offset, f.type)) = fs) {i off : Nat} {t : TypeId} (hi : fs[i]? = some (off, t)) :
    ∃ f, fields[i]? = some f ∧ f.offset = off ∧ f.type = t := by
  subst h
  rw [List.getElem?_map, Array.getElem?_toList] at hi
  cases hf : fields[i]? with
  | none => rw [hf] at hi; cases hi
  | some f => rw [hf] at hi; cases hi; exact ⟨f, rfl, rfl, rfl⟩

theorem sound_fieldAddr {t : TypeId} {f : Nat} {p : SV} {v : Value} (hT : T.Ok P) (he : effFieldAddr T t f p = some r) (hv : Den m p v) : Yields P m (Instr.fieldAt t v f) w r := by
  unfold effFieldAddr at he
  split at he
  rotate_left
  · cases he
  rename_i fs _ _ _ _ _ hti
  split at he
  rotate_left
  · cases he
  rename_i off ft hf
  split at he
  rotate_left
  · cases he
  rename_i fi hfi
  split at he
  rotate_left
  · cases he
  rename_i hpos
  have hpos' := Nat.le_of_ble_eq_true hpos
  have hk := (hT t _ hti).kind
  obtain ⟨fields, hu, hfs, _⟩ := hk
  obtain ⟨fd, hfd, rfl, rfl⟩ := fields_get hfs hf
  have hsz := (hT _ fi hfi).size (w := w)
  have hrun : ∀ g o, (Instr.fieldAt t (.pointer (some ⟨g, o, none⟩)) f).run P w = .ok (.pointer (some ⟨g, o + fd.offset, none⟩)) w := fun g o => by
    have hne : ¬ fi.size = 0 := by omega
    simp [Instr.fieldAt, run_underlying hu, hfd, Instr.sureAddr, fieldPlace, hsz, hne, add_off]
  split at he
  · rename_i id o
    split at he
    · rename_i o' ho; cases he
      obtain rfl := normN_eq ho
      obtain ⟨l, e, rfl⟩ := hv
      exact ⟨_, hrun _ _, ⟨l, e, by rw [Nat.add_assoc]⟩, rfl⟩
    · cases he
  · rename_i id esz i j
    split at he
    · rename_i o' ho; cases he
      obtain rfl := normN_eq ho
      obtain ⟨l, e, rfl⟩ := hv
      exact ⟨_, hrun _ _, ⟨l, e, by rw [Nat.add_assoc, Nat.add_assoc]⟩, rfl⟩
    · cases he
  · cases he

/-- A part of an aggregate. -/
theorem part_of {t : TypeId} {ti : TI} (h : ti.Ok P t) {cs : List SV} {vs : Array Value} (hd : All2 (DenS m) cs vs.toList) {off : Nat} :
    (isAggK ti.k = true → ∀ l, takeN cs off ti.size = some l → ∃ z, (part t vs off).run P w = .ok z w ∧ Den m (.agg l) z) ∧
    (isAggK ti.k = false → ∀ s, cs[off]? = some s → ∃ z, (part t vs off).run P w = .ok z w ∧ Den m s z) := by
  constructor
  · intro hag l hl
    obtain ⟨rfl, hle⟩ := takeN_eq hl
    refine ⟨.agg (vs.extract off (off + ti.size)), by simp [part, h.agg, hag, h.size], ⟨_, rfl, ?_⟩⟩
    have : (vs.extract off (off + ti.size)).toList = (vs.toList.drop off).take ti.size := by
      rw [Array.toList_extract, List.extract_eq_take_drop, Nat.add_sub_cancel_left]
    rw [this]
    exact (hd.drop off).take ti.size
  · intro hag s hs
    obtain ⟨z, hz, hdz⟩ := hd.get off s hs
    rw [Array.getElem?_toList] at hz
    exact ⟨z, by simp [part, h.agg, hag, hz], hdz.a.d⟩

theorem sound_field {t : TypeId} {f : Nat} {x : SV} {v : Value} (hT : T.Ok P) (he : effField T t f x = some r) (hv : Den m x v) : Yields P m (Instr.field t v f) w r := by
  unfold effField at he
  split at he
  rotate_left
  · cases he
  rename_i fs _ _ _ _ _ hti
  split at he
  rotate_left
  · cases he
  rename_i off ft hf
  split at he
  rotate_left
  · cases he
  rename_i fi hfi
  split at he
  rotate_left
  · cases he
  rename_i cs
  have hk := (hT t _ hti).kind
  obtain ⟨fields, hu, hfs, _⟩ := hk
  obtain ⟨fd, hfd, rfl, rfl⟩ := fields_get hfs hf
  obtain ⟨vs, rfl, hd⟩ := hv
  obtain ⟨h1, h2⟩ := part_of (w := w) (hT _ fi hfi) hd (off := fd.offset)
  split at he
  · rename_i hag
    split at he
    · rename_i l hl; cases he
      obtain ⟨z, hz, hdz⟩ := h1 hag l hl
      exact ⟨z, by simp [Instr.field, run_underlying hu, hfd, asAgg, hz], hdz, rfl⟩
    · cases he
  · rename_i hag
    split at he
    · rename_i s hs; cases he
      obtain ⟨z, hz, hdz⟩ := h2 hag s hs
      exact ⟨z, by simp [Instr.field, run_underlying hu, hfd, asAgg, hz], hdz, rfl⟩
    · cases he

theorem litN_eq {n : Int} {k : Nat} (h : litN n = some k) : n = k := by
  cases n <;> simp only [litN] at h <;> cases h; rfl

theorem sound_index {t : TypeId} {x ix : SV} {v z : Value} (hT : T.Ok P) (he : effIndex T t x ix = some r) (hv : Den m x v) (hz : Den m ix z) : Yields P m (Instr.index t v z) w r := by
  unfold effIndex at he
  split at he
  rotate_left
  · cases he
  rename_i n e _ _ _ _ _ hti
  split at he
  rotate_left
  · cases he
  rename_i ei hei
  split at he
  rotate_left
  · cases he
  rename_i cs
  split at he
  rotate_left
  · cases he
  rename_i kk i
  split at he
  rotate_left
  · cases he
  rename_i k hk
  obtain rfl := litN_eq hk
  split at he
  rotate_left
  · cases he
  rename_i hlt
  have hlt' : k < n := Nat.le_of_ble_eq_true hlt
  have hu := (hT t _ hti).kind
  simp only [KindOk] at hu
  obtain ⟨vs, rfl, hd⟩ := hv
  obtain rfl : z = .int kk k := hz
  obtain ⟨h1, h2⟩ := part_of (w := w) (hT _ ei hei) hd (off := k * ei.size)
  have hsz := (hT _ ei hei).size (w := w)
  split at he
  · rename_i hag
    split at he
    · rename_i l hl; cases he
      obtain ⟨z, hz, hdz⟩ := h1 hag l hl
      exact ⟨z, by simp [Instr.index, asIntOf, run_underlying hu, hlt', hsz, hz], hdz, rfl⟩
    · cases he
  · rename_i hag
    split at he
    · rename_i s hs; cases he
      obtain ⟨z, hz, hdz⟩ := h2 hag s hs
      exact ⟨z, by simp [Instr.index, asIntOf, run_underlying hu, hlt', hsz, hz], hdz, rfl⟩
    · cases he

theorem sound_extract {i : Nat} {x : SV} {v : Value} (he : effExtract i x = some r) (hv : Den m x v) : Yields P m (Instr.extract v i) w r := by
  unfold effExtract at he
  split at he
  rotate_left
  · cases he
  rename_i ss
  split at he
  rotate_left
  · cases he
  rename_i s hs
  cases he
  obtain ⟨vs, rfl, hd⟩ := hv
  obtain ⟨z, hz, hdz⟩ := hd.get i s hs
  rw [Array.getElem?_toList] at hz
  exact ⟨z, by simp [Instr.extract, hz], hdz.d, rfl⟩
end
end Go.Proofs.Ytapbegcmdiemoaa.Ev
