/- The reckoning: a contract for slices.SortFunc, out of the shelf's law. -/
import Derived.Test.YtohjifnkajhhnaaGreatEC
import Derived.Test.YtohjifnkajhhnaaGreatEvV
import Derived.Shelf.SlSortCmp.WholeK
namespace Go.Proofs.YtohjifnkajhhnaaGreat.Ev
open Go.RowKit
set_option linter.unusedVariables false
set_option linter.unusedSimpArgs false

def norm (k : Nat) (x : List Int) : List Int := (x ++ List.replicate k 0).take k
def encK (k : Nat) (x : List Int) : List Value := (norm k x).map (Value.int .i64)
def cfK (cf : List Int → List Int → Int) (k : Nat) (x y : List Int) : Int := cf (norm k x) (norm k y)
def srtA (cf : List Int → List Int → Int) (k : Nat) (d : Array (List Int)) : Array (List Int) := Go.Sort.pdq (ltOf (cfK cf k)) d 0 d.size (Lib.bitLen d.size) true true
def srtK (cf : List Int → List Int → Int) (k : Nat) (xs : List (List Int)) : List (List Int) := (srtA cf k xs.toArray).toList

theorem norm_length (k : Nat) (x : List Int) : (norm k x).length = k := by simp [norm]
theorem norm_get (k : Nat) (x : List Int) (j : Nat) (h : j < k) : (norm k x)[j]? = some (x.getD j 0) := by
  unfold norm
  rw [List.getElem?_take_of_lt h]
  by_cases e : j < x.length
  · rw [List.getElem?_append_left e, List.getD_eq_getElem?_getD, List.getElem?_eq_getElem e]; rfl
  · rw [List.getElem?_append_right (by omega), List.getD_eq_getElem?_getD, List.getElem?_eq_none (by omega : x.length ≤ j), List.getElem?_replicate, if_pos (by omega)]; rfl
theorem encK_length (k : Nat) (x : List Int) : (encK k x).length = k := by simp [encK, norm_length]
theorem encK_get (k : Nat) (x : List Int) (j : Nat) (h : j < k) : (encK k x)[j]! = .int .i64 (x.getD j 0) := by
  have : (encK k x)[j]? = some (.int .i64 (x.getD j 0)) := by simp [encK, norm_get k x j h]
  rw [List.getElem!_eq_getElem?_getD, this]; rfl

theorem grown_of_kept {w w' : World} (h : Kept w.heap.size (fun _ => False) w w') : ∃ q os', w' = Go.Sort.grow (w.drewN q) os' := by
  refine ⟨w'.drawn - w.drawn, w'.heap.extract w.heap.size w'.heap.size, ?_⟩
  have hh : w'.heap = w.heap ++ w'.heap.extract w.heap.size w'.heap.size := by
    apply Array.ext_getElem?
    intro i
    have hs := h.size
    by_cases hi : i < w.heap.size
    · rw [Array.getElem?_append_left hi]; exact h.block i hi (fun e => e)
    · rw [Array.getElem?_append_right (by omega), Array.getElem?_extract]
      split
      · rw [show w.heap.size + (i - w.heap.size) = i by omega]
      · exact Array.getElem?_eq_none (by omega)
  have hd : w'.drawn = w.drawn + (w'.drawn - w.drawn) := by have := h.drawn; omega
  have h1 := h.os
  have h2 := h.tape
  have h3 := h.output
  cases w with
  | mk a1 a2 a3 a4 a5 =>
  cases w' with
  | mk b1 b2 b3 b4 b5 =>
  simp only at h1 h2 h3 hh hd
  subst h1; subst h2; subst h3
  unfold Go.Sort.grow World.drewN
  simp only
  rw [← hh, ← hd]

theorem all2_ints (m : Map) : ∀ xs : List Int, All2 (DenS m) (xs.map (SV.int .i64)) (xs.map (Value.int .i64))
  | [] => trivial
  | x :: xs => ⟨rfl, all2_ints m xs⟩

theorem lays_of_con {P : Program} {c : Con} (hc : c.Ok P) (xs ys : List Int) (z : Int) (ro : Bool)
    (hr : c.run 0 [.agg (xs.map (SV.int .i64)), .agg (ys.map (SV.int .i64))] (fun _ => .dead) = some ⟨[], .int .i64 z, [], [], [], ro⟩) (w : World) :
    Calls P c.f #[.agg (xs.map (Value.int .i64)).toArray, .agg (ys.map (Value.int .i64)).toArray] w fun e w' => e = .returned (.int .i64 z) ∧ ∃ q os', w' = Go.Sort.grow (w.drewN q) os' := by
  have h := hc.run 0 _ _ _ hr (by simp) Map.none' w [.agg (xs.map (Value.int .i64)).toArray, .agg (ys.map (Value.int .i64)).toArray]
    ⟨⟨_, rfl, by simpa using all2_ints _ xs⟩, ⟨_, rfl, by simpa using all2_ints _ ys⟩, trivial⟩
    (fun id => trivial) (fun i j p q _ h => by cases h) (fun k _ => rfl) rfl (fun j p k i b h => by cases h) (fun k i b h => by cases h) (COk.no (fun s s' H H' h => by cases h))
  refine Calls.mono h ?_
  rintro e w' ⟨v, m', rfl, _, hd, _, _, _, hk, _⟩
  refine ⟨by rw [show v = Value.int .i64 z from hd], grown_of_kept (hk.mono (Nat.le_refl _) fun k _ ht => ?_)⟩
  rcases ht with ⟨id, hid, _⟩ | ⟨id, hid, _⟩ | ⟨h, _⟩
  · cases hid
  · cases hid
  · cases h

def sortRun (g k : Nat) (cf : List Int → List Int → Int) (nid : Nat) (args : List SV) (rd : Nat → Blk) : Option CRes :=
  match args with
  | [] => none
  | s :: rest => match rest with
    | [] => none
    | c :: r2 => match r2 with
      | _ :: _ => none
      | [] => match c with
        | .cst v => match v with
          | .func h a b => match h with
            | .func g' => match Nat.beq g' g && Nat.beq a.size 0 && Nat.beq b.size 0 with
              | false => none
              | true => match s with
                | .nils => some ⟨[], .tup [], [], [], [], false⟩
                | .sl id e off len => match rd id with
                  | .arr ow ok e' xs => match ow && Nat.beq e k && Nat.beq e' k with
                    | true => some (uRes [ok = true, off = 0, len = xs.length, 0 < xs.length, xs.length < 4611686018427387904] id k (srtK cf k xs))
                    | false => none
                  | _ => none
                | .osl b id e len => match b with
                  | true => some ⟨[], .tup [], [], [], [], false⟩
                  | false => match rd id with
                    | .arr ow ok e' xs => match ow && Nat.beq e k && Nat.beq e' k with
                      | true => some (uRes [ok = true, len = xs.length, 0 < xs.length, xs.length < 4611686018427387904] id k (srtK cf k xs))
                      | false => none
                    | _ => none
                | _ => none
            | _ => none
          | _ => none
        | _ => none

/-- What the sort is asked: its law at a row, and at nil. -/
structure SortLaw (P : Program) (f g k : Nat) (cf : List Int → List Int → Int) : Prop where
  swo : Go.Sort.SWO (ltOf (cfK cf k))
  at_row : ∀ (blk cap : Nat) (d : Array (List Int)) (w : World), Go.Sort.HoldsK (encK k) k w blk 0 d → blk < w.heap.size → d.size < 4611686018427387904 →
    Calls P f #[.slice (some ⟨blk, 0, none⟩) d.size cap, .func (.func g) #[] #[]] w fun e w' => e = .returned (.tuple #[]) ∧ ∃ n os, w' = sortWorldK (encK k) k w blk 0 n (srtA cf k d) os
  at_nil : ∀ w, Calls P f #[.slice none 0 0, .func (.func g) #[] #[]] w fun e w' => e = .returned (.tuple #[]) ∧ Kept w.heap.size (fun _ => False) w w'

theorem srtA_size {cf : List Int → List Int → Int} {k : Nat} (hO : Go.Sort.SWO (ltOf (cfK cf k))) (d : Array (List Int)) : (srtA cf k d).size = d.size :=
  (Go.Sort.pdq_sorts (ltOf (cfK cf k)) hO d 0 d.size (Lib.bitLen d.size) true true (Nat.zero_le _) (Nat.le_refl _) (Or.inl rfl)).1.1

theorem con_sort {P : Program} {f g k : Nat} {cf : List Int → List Int → Int} (hf : ∃ fn, P.funcs[f]? = some fn ∧ fn.body.isSome = true ∧ (fn.name == "runtime.NumGoroutine") = false) (L : SortLaw P f g k cf) : Con.Ok P ⟨f, sortRun g k cf⟩ := by
  refine ⟨hf, fun nid args rd r hr hp m w vs hd hB hap hfr hup hga hgb hone => ?_, fun nid args rd r hr hro => by
    replace hr : sortRun g k cf nid args rd = some r := hr
    unfold sortRun at hr
    repeat' split at hr
    all_goals first | (cases hr; done) | (injection hr with hr; rw [← hr] at hro; exact absurd hro Bool.false_ne_true)⟩
  have nilc : ∀ (c : Value), c = .func (.func g) #[] #[] → Calls P f #[.slice none 0 0, c] w (CallPost rd m nid ⟨[], .tup [], [], [], [], false⟩ w) := by
    rintro c rfl
    refine Calls.mono (L.at_nil w) ?_
    rintro e w' ⟨rfl, hk⟩
    refine ⟨_, m, rfl, fun _ _ => rfl, ⟨_, rfl, trivial⟩, fun k b hk => by simp at hk, fun k b p hk => by simp at hk, fun k k' b b' p p' _ hk => by simp at hk, hk.mono (Nat.le_refl _) (fun _ _ h => h.elim),
      ⟨fun _ _ _ h => h, fun _ _ _ h => Or.inl h, fun x hx => by simp at hx, fun k b p hk => by simp at hk, fun b hb => by simp at hb, rfl⟩⟩
  have rowc : ∀ (id len : Nat) (xs : List (List Int)) (ps : List Prop) (q : Place) (ad : Addr) (c v : Value), rd id = .arr true true k xs → len = xs.length → 0 < xs.length → xs.length < 4611686018427387904 → m id = some q → v = .slice (some ad) len q.c → (0 < q.c → ad = ⟨q.b, q.o, none⟩) → len ≤ q.c → c = .func (.func g) #[] #[] →
      Calls P f #[v, c] w (CallPost rd m nid (uRes ps id k (srtK cf k xs)) w) := by
    rintro id len xs ps q ad c v hrd rfl h0 hlim hq rfl had hlc rfl
    have hB0 := hB id
    rw [hrd] at hB0
    obtain ⟨l0, vs0, ty, fr, e1, e2, e3, e4⟩ := hB0 rfl
    rw [hq] at e1
    cases e1
    obtain ⟨rfl, o0, z1, z2⟩ := e4 rfl
    have had := had (by omega)
    rw [o0] at had
    subst had
    have blt : q.b < w.heap.size := (Array.getElem?_eq_some_iff.1 e2).1
    have hH : Go.Sort.HoldsK (encK k) k w q.b 0 xs.toArray := by
      intro t ht
      rw [Go.Sort.size_flatK] at ht
      rw [Go.Sort.get_flatK _ _ _ _ ht]
      have ht' : t < xs.length * k := by simpa using ht
      have k0 : 0 < k := by rcases Nat.eq_zero_or_pos k with h | h; · subst h; simp at ht'
                            · exact h
      have i1 : t / k < xs.length := Nat.div_lt_of_lt_mul (by rw [Nat.mul_comm]; exact ht')
      have j1 : t % k < k := Nat.mod_lt _ k0
      have hv := e3 (t / k) (t % k) i1 j1
      rw [o0, Nat.zero_add, Nat.mul_comm, Nat.div_add_mod] at hv
      refine ⟨?_, ?_⟩
      · unfold World.cell?
        simp only [e2, Nat.zero_add, hv, _root_.id]
        rw [encK_get _ _ _ j1, at2, List.getD_eq_getElem?_getD]
        simp [i1]
      · unfold World.frozen?
        simp [e2]
    have hs := L.at_row q.b q.c xs.toArray w hH blt (by simpa using hlim)
    rw [show xs.toArray.size = xs.length by simp] at hs
    refine Calls.mono hs ?_
    rintro e w' ⟨rfl, n, os, rfl⟩
    have sz : (srtA cf k xs.toArray).size = xs.length := by rw [srtA_size L.swo]; simp
    have hw : ∀ b, b < w.heap.size → (sortWorldK (encK k) k w q.b 0 n (srtA cf k xs.toArray) os).heap[b]? = (w.heap.modify q.b (Go.Sort.onCells (Go.Sort.putCells _root_.id 0 (Go.Sort.flatK (encK k) k (srtA cf k xs.toArray)))))[b]? := fun b hb => by
      unfold sortWorldK Go.Sort.grow
      exact Array.getElem?_append_left (by simpa [Go.Sort.putRowK, Go.Sort.putRow, Go.Sort.mapBlock, Go.Sort.ahead] using hb)
    refine ⟨_, m, rfl, fun _ _ => rfl, ⟨_, rfl, trivial⟩, fun k b hk => by simp [uRes] at hk, fun k b p hk => by simp [uRes] at hk, fun k k' b b' p p' _ hk => by simp [uRes] at hk, ?_,
      ⟨fun _ _ _ h => h, fun _ _ _ h => Or.inl h, fun x hx => ?_, fun k b p hk => by simp [uRes] at hk, fun b hb => by simp [uRes] at hb, rfl⟩⟩
    · refine ⟨rfl, rfl, rfl, ?_, fun b hb hbad => ?_, ?_⟩
      · unfold sortWorldK Go.Sort.grow
        simp [Go.Sort.putRowK, Go.Sort.putRow, Go.Sort.mapBlock, Go.Sort.ahead]
      · rw [hw b hb, Array.getElem?_modify, if_neg]
        intro hbq
        subst hbq
        exact hbad (Or.inr (Or.inl ⟨id, by simp [uRes, plainUpd], by rw [hrd]; rfl, q, hq, rfl⟩))
      · show w.drawn ≤ w.drawn + n
        omega
    · simp only [uRes, List.mem_singleton] at hx
      subst hx
      refine fun _ => ⟨q, Go.Sort.putCells _root_.id 0 (Go.Sort.flatK (encK k) k (srtA cf k xs.toArray)) vs0, ty, (0, 0), hq, ?_, fun i j hi hj => ?_, fun _ => ⟨rfl, o0, ?_, ?_⟩⟩
      · rw [hw _ blt, Array.getElem?_modify, if_pos rfl, e2]; rfl
      · have hi' : i < xs.length := by rw [← sz]; simpa [srtK] using hi
        have lt : i * k + j < xs.length * k := by
          have := Nat.mul_le_mul_right k (show i + 1 ≤ xs.length from hi'); rw [Nat.add_mul, Nat.one_mul] at this; omega
        have lt2 : i * k + j < vs0.size := by
          rw [z1]
          have := Nat.mul_le_mul_right k hlc
          omega
        have k0 : 0 < k := by omega
        have d1 : (i * k + j) / k = i := (Go.Sort.blk_iff k i _ k0).1 ⟨by omega, by omega⟩
        have d2 : (i * k + j) % k = j := by rw [Nat.mod_eq_sub_div_mul, d1]; omega
        rw [o0, Nat.zero_add]
        unfold Go.Sort.putCells
        rw [Array.getElem?_mapIdx, Array.getElem?_eq_getElem lt2, Option.map_some, if_pos ⟨by omega, by rw [Go.Sort.size_flatK, sz]; omega⟩, Nat.sub_zero, Go.Sort.get_flatK _ _ _ _ (by rw [sz]; exact lt), d1, d2, encK_get _ _ _ hj]
        unfold at2 srtK
        rw [List.getD_eq_getElem?_getD]
        simp [sz, hi']
      · simp [Go.Sort.putCells, z1]
      · simp [srtK, sz]; exact hlc
  replace hr : sortRun g k cf nid args rd = some r := hr
  unfold sortRun at hr
  split at hr
  · cases hr
  rename_i s rest
  split at hr
  · cases hr
  rename_i c r2
  split at hr
  · cases hr
  split at hr
  rotate_left
  · cases hr
  rename_i u
  split at hr
  rotate_left
  · cases hr
  rename_i h a b
  split at hr
  rotate_left
  · cases hr
  rename_i g'
  split at hr
  · cases hr
  rename_i hb
  simp only [Bool.and_eq_true] at hb
  obtain ⟨⟨hg, ha⟩, hb⟩ := hb
  obtain rfl := Nat.eq_of_beq_eq_true hg
  obtain rfl := Array.eq_empty_of_size_eq_zero (Nat.eq_of_beq_eq_true ha)
  obtain rfl := Array.eq_empty_of_size_eq_zero (Nat.eq_of_beq_eq_true hb)
  obtain ⟨v1, v2, rfl⟩ : ∃ v1 v2, vs = [v1, v2] := by
    match vs, hd with
    | [v1, v2], _ => exact ⟨v1, v2, rfl⟩
  obtain ⟨d1, d2, _⟩ := hd
  have d2 : v2 = .func (.func g') #[] #[] := d2
  show Calls P f #[v1, v2] w _
  split at hr
  · cases hr
    obtain rfl : v1 = .slice none 0 0 := d1
    exact nilc _ d2
  · rename_i id e off len
    split at hr
    rotate_left
    · cases hr
    rename_i ow ok e' xs hrd
    split at hr
    rotate_left
    · cases hr
    rename_i hq
    simp only [Bool.and_eq_true] at hq
    obtain ⟨⟨rfl, he⟩, he'⟩ := hq
    obtain rfl := Nat.eq_of_beq_eq_true he
    obtain rfl := Nat.eq_of_beq_eq_true he'
    cases hr
    have p0 : ok = true := hp _ (by simp [uRes])
    have p1 : off = 0 := hp _ (by simp [uRes])
    have p2 : len = xs.length := hp _ (by simp [uRes])
    have p3 : 0 < xs.length := hp _ (by simp [uRes])
    have p4 : xs.length < 4611686018427387904 := hp _ (by simp [uRes])
    subst p0; subst p1
    obtain ⟨q, ad, c, hm', hv, hc, hlc, had⟩ := d1
    obtain rfl : c = q.c := by omega
    exact rowc id len xs _ q ad v2 v1 hrd p2 p3 p4 hm' hv (fun h => by rw [had h]; simp) hlc d2
  · rename_i b id e len
    split at hr
    · cases hr
      obtain ⟨rfl, _⟩ := d1.1 rfl
      exact nilc _ d2
    split at hr
    rotate_left
    · cases hr
    rename_i ow ok e' xs hrd
    split at hr
    rotate_left
    · cases hr
    rename_i hq
    simp only [Bool.and_eq_true] at hq
    obtain ⟨⟨rfl, he⟩, he'⟩ := hq
    obtain rfl := Nat.eq_of_beq_eq_true he
    obtain rfl := Nat.eq_of_beq_eq_true he'
    cases hr
    have p0 : ok = true := hp _ (by simp [uRes])
    have p2 : len = xs.length := hp _ (by simp [uRes])
    have p3 : 0 < xs.length := hp _ (by simp [uRes])
    have p4 : xs.length < 4611686018427387904 := hp _ (by simp [uRes])
    subst p0
    obtain ⟨q, ad, c, hm', hv, rfl, hlc, had⟩ := d1.2 rfl
    exact rowc id len xs _ q ad v2 v1 hrd p2 p3 p4 hm' hv had hlc d2
  · cases hr
end Go.Proofs.YtohjifnkajhhnaaGreat.Ev
