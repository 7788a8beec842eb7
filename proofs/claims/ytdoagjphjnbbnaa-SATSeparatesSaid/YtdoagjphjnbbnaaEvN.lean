/- The reckoning, laid to a function that uses up a slice: its first argument. -/
import Derived.Test.YtdoagjphjnbbnaaEvL
namespace Go.Proofs.Ytdoagjphjnbbnaa.Ev
open Go.RowKit
set_option linter.unusedVariables false
set_option linter.unusedSimpArgs false

def ownRun (esz : Nat) (sh : List Nat) (pre : List Int → Bool → List (List Int) → List Prop) (g : List Int → Bool → List (List Int) → List RS) (nid : Nat) (args : List SV) (rd : Nat → Blk) : Option CRes :=
  match args with
  | s :: rest => match flatA sh rest with
    | some l => match s with
      | .nils => some ⟨pre l true [], rsVal nid (g l true []), rsBlks (g l true []), []⟩
      | .sl id e off len => match rd id with
        | .arr ow ok e' xs => match ow && ok && Nat.beq e esz && Nat.beq e' esz with
          | true => some ⟨consP [off = 0, len ≤ xs.length] (pre l false (xs.take len)), rsVal nid (g l false (xs.take len)), rsBlks (g l false (xs.take len)), [id]⟩
          | false => none
        | _ => none
      | .osl b id e len => match b with
        | true => some ⟨pre l true [], rsVal nid (g l true []), rsBlks (g l true []), []⟩
        | false => match rd id with
          | .arr ow ok e' xs => match ow && ok && Nat.beq e esz && Nat.beq e' esz with
            | true => some ⟨consP [len ≤ xs.length] (pre l false (xs.take len)), rsVal nid (g l false (xs.take len)), rsBlks (g l false (xs.take len)), [id]⟩
            | false => none
          | _ => none
      | _ => none
    | none => none
  | [] => none

def EVO (P : Program) (T : Tab) (C : List Con) (pl : Plans) (rs : List ResultVar) (n : Nat) (code : Code) (esz : Nat) (sh : List Nat) (l : List Int) (b : Bool) (xs : List (List Int)) (spec : List RS) : Prop :=
  match mkArgs sh l with
  | some ss => match padO (rowArg b 0 esz xs :: ss) n with
    | some ts => EV P T C pl code ts [.arr true (!b) esz xs] (FinG T rs spec)
    | none => False
  | none => False

/-- The end of a call whose results are told by G. -/
theorem gen_end {P : Program} {T : Tab} (hT : T.Ok P) {fn : Func} {bad : Nat → Prop} {w w' : World} {m m' : Map} {st' : St} {a' : Act} {rd : Nat → Blk} {nid : Nat} {used : List Nat} (k3 : Holds w.heap.size bad w m' st' a' w') (hbad : ∀ k, bad k → usedAt m used k)
    (pre : List Prop) (G : List RS) (hfin : RFin T fn.results.toList G st'.tmps st'.heap) :
    a'.defers = [] ∧ ∃ v, (results fn a'.tmps).run P w' = .ok v w' ∧ CallPost rd m nid ⟨pre, rsVal nid G, rsBlks G, used⟩ w (.returned v) w' := by
  have hown0 : ∀ i p, (getB st'.heap i).own = true → m' i = some p → 0 ≤ p.b := fun _ _ _ _ => Nat.zero_le _
  unfold RFin at hfin
  split at hfin
  rotate_left
  · exact hfin.elim
  rename_i r hr
  have close : ∀ (v : Value) (Q' : List (Option Place)), (results fn a'.tmps).run P w' = .ok v w' → Q'.length = (rsBlks G).length →
      (∀ (mm : Map), (∀ i q, Q'[i]? = some q → mm (nid + i) = q) → Den mm (rsVal nid G) v ∧ ∀ k b, (rsBlks G)[k]? = some b → BlkH mm (nid + k) w' b) →
      (∀ (k : Nat) (p : Place), Q'[k]? = some (some p) → w.heap.size ≤ p.b ∨ usedAt m used p.b) → (∀ (k k' : Nat) (p p' : Place), k ≠ k' → Q'[k]? = some (some p) → Q'[k']? = some (some p') → p.b ≠ p'.b) →
      a'.defers = [] ∧ ∃ v, (results fn a'.tmps).run P w' = .ok v w' ∧ CallPost rd m nid ⟨pre, rsVal nid G, rsBlks G, used⟩ w (.returned v) w' := fun v Q' hv hQ he hfr' hne => by
    have hmm : ∀ i q, Q'[i]? = some q → outMap m nid (rsBlks G).length Q' (nid + i) = q := fun i q hi => by
      have hlt : i < Q'.length := (List.getElem?_eq_some_iff.1 hi).1
      unfold outMap
      rw [if_pos ⟨by omega, by omega⟩, show nid + i - nid = i by omega, hi]; rfl
    obtain ⟨f1, f2⟩ := he _ hmm
    have hpl' : ∀ k b p, (rsBlks G)[k]? = some b → outMap m nid (rsBlks G).length Q' (nid + k) = some p → Q'[k]? = some (some p) := fun k b p hk hp' => by
      have hlt := (List.getElem?_eq_some_iff.1 hk).1
      unfold outMap at hp'
      rw [if_pos ⟨by omega, by omega⟩, show nid + k - nid = k by omega] at hp'
      rw [List.getElem?_eq_getElem (by omega)] at hp' ⊢
      simpa using hp'
    refine ⟨k3.defers, v, hv, v, _, rfl, fun id hid => ?_, f1, f2, fun k b p hk _ hp' => ?_, fun k k' b b' p p' hkk hk hk' _ _ hp1 hp2 => hne k k' p p' hkk (hpl' k b p hk hp1) (hpl' k' b' p' hk' hp2), ?_⟩
    · exact if_neg (fun ⟨e1, e2⟩ => by rcases hid with e | e <;> (try simp only at e) <;> omega)
    · rcases hfr' k p (hpl' k b p hk hp') with h | h
      · exact Or.inl h
      · exact Or.inr (Or.inl h)
    · exact k3.below.mono (Nat.le_refl _) (fun k _ hb => hbad k hb)
  have place : ∀ p : Place, (∃ id, (getB st'.heap id).own = true ∧ m' id = some p) → w.heap.size ≤ p.b ∨ usedAt m used p.b := fun p ⟨id, h1, h2⟩ => by
    rcases k3.own id p h1 h2 with h | h
    · exact Or.inl h
    · exact Or.inr (hbad _ h)
  cases G with
  | nil => exact hfin.elim
  | cons x y =>
    cases y with
    | nil =>
      have hpart := RSim.part hfin
      simp only [partOK] at hpart
      have hnt : notTup r = true := by
        cases hh : notTup r
        · rw [hh] at hpart; cases hpart
        · rfl
      obtain ⟨v, e1, e2⟩ := resS_sound hT k3 hr (fun l' e => by subst e; cases hnt)
      obtain ⟨Q', o1, o2, o3, o4⟩ := RSim.out k3.blk k3.apart hown0 hfin (us := [v]) ⟨Den.of_notTup hnt e2, trivial⟩
      refine close v Q' e1 o1 (fun mm hmm => ?_) (fun k p hk => by obtain ⟨_, id, _, h1, h2⟩ := o3 k p hk; exact place p ⟨id, h1, h2⟩) o4
      obtain ⟨f1, f2⟩ := o2 mm nid hmm
      refine ⟨?_, f2⟩
      cases x with
      | val s => exact f1.1.d
      | rows b esz xs => exact f1.1.d
    | cons y z =>
      simp only at hfin
      split at hfin
      rotate_left
      · exact hfin.elim
      rename_i ll
      obtain ⟨v, e1, us, rfl, e2⟩ := resS_sound hT k3 hr (fun l' e => by cases e; exact RSim.part hfin)
      obtain ⟨Q', o1, o2, o3, o4⟩ := RSim.out k3.blk k3.apart hown0 hfin e2
      refine close _ Q' e1 o1 (fun mm hmm => ?_) (fun k p hk => by obtain ⟨_, id, _, h1, h2⟩ := o3 k p hk; exact place p ⟨id, h1, h2⟩) o4
      obtain ⟨f1, f2⟩ := o2 mm nid hmm
      exact ⟨⟨us, rfl, f1⟩, f2⟩

/-- A CONTRACT of a function that uses up its first argument, a slice of rows of its caller's own. -/
theorem con_own {P : Program} {T : Tab} {C : List Con} {pl : Plans} {f : FuncId} {fn : Func} {code : Code} (hf : P.funcs[f]? = some fn) (hb : fn.body = some code) (hn : (fn.name == "runtime.NumGoroutine") = false)
    (hT : T.Ok P) (hC : Cons.Ok P C) (hm : P.follows .mixedOrders = true) (hpl : plansOK pl code = true) (esz : Nat) (sh : List Nat) (pre : List Int → Bool → List (List Int) → List Prop) (g : List Int → Bool → List (List Int) → List RS)
    (h : ∀ l b xs, l.length = tot sh → (b = true → xs = []) → (∀ p ∈ pre l b xs, p) → EVO P T C pl fn.results.toList fn.ntmps code esz sh l b xs (g l b xs)) : Con.Ok P ⟨f, ownRun esz sh pre g⟩ := by
  refine ⟨⟨fn, hf, by rw [hb]; rfl, hn⟩, fun nid args rd r hr hp m w vs hd hB hap hfr hus => ?_⟩
  have fin : ∀ (bad : Nat → Prop) (used : List Nat) (m0 : Map) (ts : List SV) (h0 : List Blk) (pr : List Prop) (G : List RS), (∀ k, bad k → usedAt m used k) → Dom m0 h0.length →
      Holds w.heap.size bad w m0 ⟨ts, h0⟩ { tmps := vs.toArray ++ Array.replicate (fn.ntmps - vs.toArray.size) undef, defers := [] } w → EV P T C pl code ts h0 (FinG T fn.results.toList G) →
      Calls P f vs.toArray w (CallPost rd m nid ⟨pr, rsVal nid G, rsBlks G, used⟩ w) := fun bad used m0 ts h0 pr G hbad hdom H hev => by
    have hs := (EV_sound hT hC hm code _ _ _ hpl hev).out w.heap.size bad w m0 _ w hdom H
    refine calls_of_wp hf hb (wp_mono hs fun e a' w' hq => ?_)
    obtain ⟨st', m', k2, k3, k4⟩ := hq
    cases e with
    | ret => exact gen_end hT k3 hbad pr G k4
    | normal => exact gen_end hT k3 hbad pr G k4
    | _ => exact k4.elim
  have nilcase : ∀ (l : List Int) (v : Value) (vr : List Value) (rest : List SV), vs = v :: vr → flatA sh rest = some l → All2 (Den m) rest vr → v = .slice none 0 0 → (∀ p ∈ pre l true [], p) →
      Calls P f vs.toArray w (CallPost rd m nid ⟨pre l true [], rsVal nid (g l true []), rsBlks (g l true []), []⟩ w) := fun l v vr rest hvs hl hdr hv hpre => by
    obtain ⟨h1, ss, h2, h3⟩ := flatA_mk (m' := fun _ => none) hl hdr
    have hev := h l true [] h1 (fun _ => rfl) hpre
    unfold EVO at hev
    rw [h2] at hev
    simp only at hev
    split at hev
    rotate_left
    · exact hev.elim
    rename_i ts hts
    have hd0 : All2 (Den (fun _ => none)) (rowArg true 0 esz [] :: ss) vs := by rw [hvs]; exact ⟨by rw [hv]; exact rfl, h3⟩
    refine fin (fun _ => False) [] (fun _ => none) ts _ _ _ (fun k hk => hk.elim) (fun id hid => absurd rfl hid) (holds_start' hts hd0 (fun i => ?_) (fun i => ?_)) hev
    · cases i with
      | zero => intro hh; cases hh
      | succ i => cases i <;> trivial
    · cases i with
      | zero => rfl
      | succ i => cases i <;> rfl
  have owncase : ∀ (l : List Int) (v : Value) (vr : List Value) (rest : List SV) (id len : Nat) (xs : List (List Int)) (pr : List Prop), vs = v :: vr → flatA sh rest = some l → All2 (Den m) rest vr → rd id = .arr true true esz xs → len ≤ xs.length →
      (∃ q ad, m id = some q ∧ v = .slice (some ad) len q.c ∧ len ≤ q.c ∧ (0 < q.c → ad = ⟨q.b, q.o, none⟩)) → (∀ p ∈ pre l false (xs.take len), p) →
      Calls P f vs.toArray w (CallPost rd m nid ⟨pr, rsVal nid (g l false (xs.take len)), rsBlks (g l false (xs.take len)), [id]⟩ w) := fun l v vr rest id len xs pr hvs hl hdr hrd hlen ⟨q, ad, hq, hv, hlc, had⟩ hpre => by
    obtain ⟨h1, ss, h2, h3⟩ := flatA_mk (m' := fun i => if i = 0 then some q else none) hl hdr
    have hev := h l false (xs.take len) h1 (fun hh => by cases hh) hpre
    unfold EVO at hev
    rw [h2] at hev
    simp only at hev
    split at hev
    rotate_left
    · exact hev.elim
    rename_i ts hts
    have hll : (xs.take len).length = len := by simp; omega
    have hd0 : All2 (Den (fun i => if i = 0 then some q else none)) (rowArg false 0 esz (xs.take len) :: ss) vs := by
      rw [hvs]
      refine ⟨⟨q, ad, q.c, rfl, by rw [hv, hll], by omega, by rw [hll]; exact hlc, fun hc => by rw [had hc]; simp⟩, h3⟩
    have hs0 := holds_start (bad := fun k => usedAt m [id] k) (Nat.le_refl w.heap.size) hts hd0
    have hB0 : BlkH (fun i => if i = 0 then some q else none) 0 w (.arr true (!false) esz (xs.take len)) := by
      have hb := hB id
      rw [hrd] at hb
      exact blk_as hb (by simp [hq]) hlen
    refine fin (fun k => usedAt m [id] k) [id] _ ts [.arr true (!false) esz (xs.take len)] _ _ (fun k hk => hk) (fun i hi => ?_) ⟨hs0.defers, hs0.size, hs0.tmp, fun i => ?_, fun i j p p' hij o1 o2 => ?_, fun i p o1 o2 => ?_, hs0.below, hs0.base⟩ hev
    · by_cases e : i = 0
      · simp [e]
      · simp [e] at hi
    · cases i with
      | zero => exact hB0
      | succ i => cases i <;> trivial
    · cases i with
      | zero => cases j with
        | zero => exact absurd rfl hij
        | succ j => cases j <;> cases o2
      | succ i => cases i <;> cases o1
    · cases i with
      | zero =>
        simp only [if_true] at o2
        cases o2
        exact Or.inr ⟨id, by simp, q, hq, rfl⟩
      | succ i => cases i <;> cases o1
  replace hr : ownRun esz sh pre g nid args rd = some r := hr
  unfold ownRun at hr
  split at hr
  rotate_left
  · cases hr
  rename_i s rest
  split at hr
  rotate_left
  · cases hr
  rename_i l hl
  cases vs with
  | nil => exact hd.elim
  | cons v vr =>
  obtain ⟨d1, d2⟩ := hd
  split at hr
  · cases hr
    exact nilcase l v vr rest rfl hl d2 (nils_den d1) hp
  · rename_i id e off len
    split at hr
    rotate_left
    · cases hr
    rename_i ow ok e' xs hrd
    split at hr
    rotate_left
    · cases hr
    rename_i hq
    simp only [Bool.and_eq_true] at hq
    obtain ⟨⟨⟨rfl, rfl⟩, he⟩, he'⟩ := hq
    obtain rfl := Nat.eq_of_beq_eq_true he
    obtain rfl := Nat.eq_of_beq_eq_true he'
    cases hr
    have p1 : off = 0 := hp _ (consP_mem.2 (Or.inl (by simp)))
    have p2 : len ≤ xs.length := hp _ (consP_mem.2 (Or.inl (by simp)))
    subst p1
    obtain ⟨q, ad, c, hm', rfl, hc, hlc, had⟩ := d1
    obtain rfl : c = q.c := by omega
    exact owncase l _ vr rest id len xs _ rfl hl d2 hrd p2 ⟨q, ad, hm', rfl, hlc, fun h => by rw [had h]; simp⟩ (fun p hpp => hp p (consP_mem.2 (Or.inr hpp)))
  · rename_i b id e len
    cases b with
    | true =>
      simp only at hr
      cases hr
      exact nilcase l v vr rest rfl hl d2 (d1.1 rfl).1 hp
    | false =>
      simp only at hr
      split at hr
      rotate_left
      · cases hr
      rename_i ow ok e' xs hrd
      split at hr
      rotate_left
      · cases hr
      rename_i hq
      simp only [Bool.and_eq_true] at hq
      obtain ⟨⟨⟨rfl, rfl⟩, he⟩, he'⟩ := hq
      obtain rfl := Nat.eq_of_beq_eq_true he
      obtain rfl := Nat.eq_of_beq_eq_true he'
      cases hr
      have p2 : len ≤ xs.length := hp _ (consP_mem.2 (Or.inl (by simp)))
      obtain ⟨q, ad, c, hm', rfl, rfl, hlc, had⟩ := d1.2 rfl
      exact owncase l _ vr rest id len xs _ rfl hl d2 hrd p2 ⟨q, ad, hm', rfl, hlc, had⟩ (fun p hpp => hp p (consP_mem.2 (Or.inr hpp)))
  · cases hr
end Go.Proofs.Ytdoagjphjnbbnaa.Ev
