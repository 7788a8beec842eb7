/- sap.neighbors: the iterator's contract. -/
import Derived.RangeFuncNested
import Derived.RangeFuncBound
import Derived.RangeFuncCalls
import Derived.RangeFuncLeaves
import Derived.Shelf.Abstract
import Derived.Shelf.RegionOpen
import Derived.WalkKit
import Derived.OwnWalkIn
import Derived.TacticsInMore
import Derived.LoopNIn
import Derived.LoopIn
import Derived.Maps.AppendAt
import Derived.Test.YtkfaflhhkmkdjaaSw
namespace Go.Proofs.Ytkfaflhhkmkdjaa
open Go.RowKit Go.Shelf
open Ev (at2)
set_option linter.unusedVariables false
set_option linter.unusedSimpArgs false
attribute [local go_sem] Oper.semAt_some
set_option maxHeartbeats 1000000 in
/-- neighbors(l): the parameter is boxed; the function value captures the box. -/
theorem nb_in (F : Fence) (n : Nat) (h : F.fn 19) (hro : F.round = none) (p : Option Addr) (len cap : Nat) (w : World) :
    CallsIn F n Try.prog 19 #[.slice p len cap] w fun e w' => e = .returned (.func (.func 30) #[] #[.pointer (some ⟨w.heap.size, 0, none⟩)]) ∧ w' = w.alloc (.cells #[.slice p len cap] 26) := by
  refine callsIn_of_wp Try.func19 rfl h ?_ hro
  simp only [Try.ntmps19, List.size_toArray, List.length_cons, List.length_nil, Nat.reduceAdd, Nat.reduceSub, Array.replicate_succ, Array.replicate_zero, List.push_toArray, List.append_toArray, List.nil_append, List.cons_append]
  gi_wp2
  go_ret
  exact ⟨rfl, rfl⟩

/-- the neighbours of entry i; of the first k entries -/
def nbI (xs : List (List Int)) (i : Nat) : List (List Int × List Int) := (nbT (xs.getD i []) (xs.drop (i + 1))).map fun y => (xs.getD i [], y)
def nbU (xs : List (List Int)) (k : Nat) : List (List Int × List Int) := ((List.range k).map (nbI xs)).flatten
theorem nbU_succ (xs : List (List Int)) (k : Nat) : nbU xs (k + 1) = nbU xs k ++ nbI xs k := by simp [nbU, List.range_succ]
theorem nbU_all : ∀ xs : List (List Int), nbU xs xs.length = nbL xs
  | [] => rfl
  | a :: r => by
    unfold nbU
    rw [List.length_cons, List.range_succ_eq_map, List.map_cons, List.flatten_cons, List.map_map, nbL, ← nbU_all r]
    rfl
theorem nbT_get {a : List Int} : ∀ {r : List (List Int)} {j : Nat}, j < (nbT a r).length → (nbT a r).getD j [] = r.getD j []
  | [], j, h => by simp [nbT] at h
  | b :: r, j, h => by
    unfold nbT at *
    rw [List.takeWhile_cons] at *
    split at h
    · rename_i hc
      rw [if_pos hc]
      cases j with
      | zero => rfl
      | succ j => exact nbT_get (a := a) (r := r) (j := j) (by unfold nbT; simpa using h)
    · simp at h
theorem nbT_in {a : List Int} : ∀ {r : List (List Int)} {j : Nat}, j ≤ (nbT a r).length → j < r.length → ¬ (r.getD j []).getD 1 0 > a.getD 3 0 → j < (nbT a r).length
  | [], j, _, h, _ => by simp at h
  | b :: r, j, h1, h2, h3 => by
    unfold nbT at *
    rw [List.takeWhile_cons] at *
    cases j with
    | zero =>
      rw [if_pos (by simpa using h3)]
      simp
    | succ j =>
      split at h1
      · rename_i hc
        rw [if_pos hc]
        have := nbT_in (a := a) (r := r) (j := j) (by unfold nbT; simpa using h1) (by simpa using h2) (by simpa using h3)
        unfold nbT at this
        simpa using this
      · simp at h1
theorem nbT_out {a : List Int} : ∀ {r : List (List Int)} {j : Nat}, j ≤ (nbT a r).length → j < r.length → (r.getD j []).getD 1 0 > a.getD 3 0 → j = (nbT a r).length
  | [], j, _, h, _ => by simp at h
  | b :: r, j, h1, h2, h3 => by
    unfold nbT at *
    rw [List.takeWhile_cons] at *
    cases j with
    | zero =>
      rw [if_neg (by simpa using h3)]
      rfl
    | succ j =>
      split at h1
      · rename_i hc
        rw [if_pos hc]
        have := nbT_out (a := a) (r := r) (j := j) (by unfold nbT; simpa using h1) (by simpa using h2) (by simpa using h3)
        unfold nbT at this
        simpa using this
      · simp at h1
theorem nbT_le (a : List Int) (r : List (List Int)) : (nbT a r).length ≤ r.length := by
  unfold nbT; exact (List.takeWhile_sublist _).length_le
theorem cell_alloc_l {W : World} {a : Addr} {v : Value} (o : Obj) (h : W.cell? a = some v) : (W.alloc o).cell? a = some v := cell_kept h (World.grownBy_alloc W o none) (fun r e => by cases e)
theorem nbI_last {xs : List (List Int)} {k : Nat} (h : xs.length ≤ k + 1) : nbI xs k = [] := by
  unfold nbI; rw [List.drop_eq_nil_of_le h]; rfl
theorem nbI_take {xs : List (List Int)} {k q : Nat} (h : q < (nbT (xs.getD k []) (xs.drop (k + 1))).length) : (nbI xs k).take (q + 1) = (nbI xs k).take q ++ [(xs.getD k [], (xs.drop (k + 1)).getD q [])] := by
  have e : (nbI xs k)[q]? = some (xs.getD k [], (xs.drop (k + 1)).getD q []) := by
    unfold nbI
    generalize xs.getD k [] = a at *
    rw [List.getElem?_map, List.getElem?_eq_getElem h, ← nbT_get h, List.getD_eq_getElem?_getD, List.getElem?_eq_getElem h]; rfl
  rw [List.take_add_one, e]; rfl
def encs2 (p : List Int × List Int) : Array Value := #[.agg (Ev.encK 5 p.1).toArray, .agg (Ev.encK 5 p.2).toArray]
/-- What a round of the loop keeps: what lay below n₀ but out's box; whatever is tagged as an entry. -/
def Kp2 (n₀ Bo : Nat) (W W' : World) : Prop := (∀ k : Nat, k < n₀ → k ≠ Bo → W'.heap[k]? = W.heap[k]?) ∧ (∀ (k : Nat) (c : Array Value) (fr : Nat × Nat), W.heap[k]? = some (Obj.cells c 41 fr) → W'.heap[k]? = some (Obj.cells c 41 fr)) ∧ W.heap.size ≤ W'.heap.size
theorem Kp2.cell {n₀ Bo : Nat} {W W' : World} (h : Kp2 n₀ Bo W W') {k : Nat} (hk : k < n₀) (hb : k ≠ Bo) (o : Nat) : W'.cell? ⟨k, o, none⟩ = W.cell? ⟨k, o, none⟩ := by
  unfold World.cell?; rw [h.1 k hk hb]
theorem Kp2.refl (n₀ Bo : Nat) (W : World) : Kp2 n₀ Bo W W := ⟨fun _ _ _ => rfl, fun _ _ _ h => h, Nat.le_refl _⟩
theorem Kp2.trans {n₀ Bo : Nat} {A B C : World} (h : Kp2 n₀ Bo A B) (k : Kp2 n₀ Bo B C) : Kp2 n₀ Bo A C :=
  ⟨fun i hi hb => (k.1 i hi hb).trans (h.1 i hi hb), fun i c fr e => k.2.1 i c fr (h.2.1 i c fr e), Nat.le_trans h.2.2 k.2.2⟩
theorem Kp2.alloc (n₀ Bo : Nat) (W : World) (o : Obj) (h : n₀ ≤ W.heap.size) : Kp2 n₀ Bo W (W.alloc o) :=
  ⟨fun k hk _ => Below.heap_alloc W o k (by omega), fun k c fr e => (Below.heap_alloc W o k (Array.getElem?_eq_some_iff.1 e).1).trans e, by simp⟩
theorem encK_five (x : List Int) : (Ev.encK 5 x).toArray = #[.int .i64 (x.getD 0 0), .int .i64 (x.getD 1 0), .int .i64 (x.getD 2 0), .int .i64 (x.getD 3 0), .int .i64 (x.getD 4 0)] := by
  unfold Ev.encK Ev.norm
  match x with
  | [] => rfl
  | [_] => rfl
  | [_, _] => rfl
  | [_, _, _] => rfl
  | [_, _, _, _] => rfl
  | a :: b :: c :: d :: e :: r => simp
theorem encs2_eq (xs : List (List Int)) (i j : Nat) : encs2 (xs.getD i [], xs.getD j []) = #[.agg #[.int .i64 (Ev.at2 xs i 0), .int .i64 (Ev.at2 xs i 1), .int .i64 (Ev.at2 xs i 2), .int .i64 (Ev.at2 xs i 3), .int .i64 (Ev.at2 xs i 4)], .agg #[.int .i64 (Ev.at2 xs j 0), .int .i64 (Ev.at2 xs j 1), .int .i64 (Ev.at2 xs j 2), .int .i64 (Ev.at2 xs j 3), .int .i64 (Ev.at2 xs j 4)]] := by
  unfold encs2; rw [encK_five, encK_five]; rfl
theorem nbU_mono (xs : List (List Int)) {i j : Nat} (h : i ≤ j) : (nbU xs i).length ≤ (nbU xs j).length := by
  induction j with
  | zero => obtain rfl : i = 0 := by omega
            exact Nat.le_refl _
  | succ j ih =>
    by_cases e : i = j + 1
    · subst e; exact Nat.le_refl _
    · rw [nbU_succ, List.length_append]; have := ih (by omega); omega
theorem nbU_lt (xs : List (List Int)) {k q : Nat} (hk : k < xs.length) (hq : q < (nbI xs k).length) : (nbU xs k ++ (nbI xs k).take q).length < (nbL xs).length := by
  rw [← nbU_all]
  have := nbU_mono xs (show k + 1 ≤ xs.length by omega)
  rw [nbU_succ, List.length_append] at this
  rw [List.length_append, List.length_take]; omega
set_option maxRecDepth 100000 in
set_option maxHeartbeats 1000000 in
theorem nb1_in (F : Fence) (n : Nat) (h : F.fn 30) (hro : F.round = none) (hn : 1 ≤ n) (l Bs Bo n₀ b len cap : Nat) (xs : List (List Int)) (hlen : xs.length = len) (hlc : len ≤ cap) (hlim : len ≤ 1000000) (hb : b < n₀) (hbo : b ≠ Bo) (hBs0 : Bs < n₀) (hBso : Bs ≠ Bo) (J : List (List Int × List Int) → World → Prop) (hJ : ∀ s W o, J s W → J s (W.alloc o))
    (hY : ∀ pre x W, J pre W → pre.length < (nbL xs).length → YieldAt F (n - 1) Try.prog l (encs2 x) W fun e W' =>
      e = .returned (.bool true) ∧ J (pre ++ [x]) W' ∧ Kp2 n₀ Bo W W')
    (W : World) (hn0 : n₀ ≤ W.heap.size) (hBs : W.cell? ⟨Bs, 0, none⟩ = some (.slice (some ⟨b, 0, none⟩) len cap)) (hc : ∀ i j, i < len → j < 5 → W.cell? ⟨b, i * 5 + j, none⟩ = some (.int .i64 (Ev.at2 xs i j))) (h0 : J [] W) :
    CallsIn F n Try.prog 30 #[.func (.yield l) #[] #[], .pointer (some ⟨Bs, 0, none⟩)] W fun e W' => (∃ v, e = .returned v) ∧ J (nbL xs) W' := by
  refine callsIn_of_wp Try.func30 rfl h ?_ hro
  simp only [Try.ntmps30, List.size_toArray, List.length_cons, List.length_nil, Nat.reduceAdd, Nat.reduceSub, Array.replicate_succ, Array.replicate_zero, List.push_toArray, List.append_toArray, List.nil_append, List.cons_append]
  gi_wp2
  gi_loopw [9] (fun i wr => ∃ k : Nat, k ≤ len ∧ i = .int .i64 k ∧ J (nbU xs k) wr ∧ Kp2 n₀ Bo W wr)
    (fun i _ => len - (intOf i).toNat)
  case atStart => exact ⟨0, Nat.zero_le _, rfl, h0, Kp2.refl _ _ _⟩
  case round =>
    obtain ⟨k, hk, rfl, hJs, hkp⟩ := hrel
    by_cases hlt : k < len
    · have c0 : wr.cell? ⟨b, k * 5, none⟩ = _ := (hkp.cell hb hbo (k * 5)).trans (hc k 0 hlt (by omega))
      have c1 := (hkp.cell hb hbo (k * 5 + 1)).trans (hc k 1 hlt (by omega))
      have c2 := (hkp.cell hb hbo (k * 5 + 2)).trans (hc k 2 hlt (by omega))
      have c3 := (hkp.cell hb hbo (k * 5 + 3)).trans (hc k 3 hlt (by omega))
      have c4 := (hkp.cell hb hbo (k * 5 + 4)).trans (hc k 4 hlt (by omega))
      have cB := (hkp.cell hBs0 hBso 0).trans hBs
      have hltz : (k : Int) < (len : Int) := by omega
      have cB1 := cell_alloc_l (.cells #[.int .i64 (at2 xs k 0), .int .i64 (at2 xs k 1), .int .i64 (at2 xs k 2), .int .i64 (at2 xs k 3), .int .i64 (at2 xs k 4)] 41) cB
      have hk1 : (k : Int) + 1 ≤ (len : Int) := by omega
      have hw : IntKind.i64.wrap ((k : Int) + 1) = (k : Int) + 1 := IntWalk.i64_in _ ⟨by omega, by omega⟩
      have hJ1 := hJ _ wr ((.cells #[.int .i64 (at2 xs k 0), .int .i64 (at2 xs k 1), .int .i64 (at2 xs k 2), .int .i64 (at2 xs k 3), .int .i64 (at2 xs k 4)] 41)) hJs
      have kp1 := hkp.trans (Kp2.alloc n₀ Bo wr (.cells #[.int .i64 (at2 xs k 0), .int .i64 (at2 xs k 1), .int .i64 (at2 xs k 2), .int .i64 (at2 xs k 3), .int .i64 (at2 xs k 4)] 41) (Nat.le_trans hn0 hkp.2.2))
      have hA1 := World.alloc_heap_new wr (.cells #[.int .i64 (at2 xs k 0), .int .i64 (at2 xs k 1), .int .i64 (at2 xs k 2), .int .i64 (at2 xs k 3), .int .i64 (at2 xs k 4)] 41)
      have hsz : wr.heap.size < (wr.alloc (.cells #[.int .i64 (at2 xs k 0), .int .i64 (at2 xs k 1), .int .i64 (at2 xs k 2), .int .i64 (at2 xs k 3), .int .i64 (at2 xs k 4)] 41)).heap.size := by simp
      gi_wp2
      · -- the row ends behind this entry
        obtain rfl : len = k + 1 := by omega
        obtain rfl : cap = k + 1 := by assumption
        have e0 : nbU xs (k + 1) = nbU xs k := by rw [nbU_succ, nbI_last (by omega), List.append_nil]
        gi_loopw [19] (fun j wr' => j = .int .i64 0 ∧ J (nbU xs k) wr' ∧ Kp2 n₀ Bo W wr') (fun _ _ => 0)
        case atStart => exact ⟨rfl, hJ1, kp1⟩
        case round =>
          obtain ⟨rfl, hJ2, kp2⟩ := hrel
          gi_wp2
          refine ⟨⟨k + 1, Nat.le_refl _, by simp, ?_, kp2⟩, by simp [intOf]⟩
          rw [e0]; exact hJ2
      · obtain ⟨Ba, hBa⟩ : ∃ Ba, Ba = wr.heap.size := ⟨_, rfl⟩
        rw [← hBa] at hA1 hsz ⊢
        clear hBa
        have hnl : (nbI xs k).length = (nbT (xs.getD k []) (xs.drop (k + 1))).length := by unfold nbI; rw [List.length_map]
        have hle := nbT_le (xs.getD k []) (xs.drop (k + 1))
        rw [List.length_drop, hlen] at hle
        have hcz : ∀ q j, q < len - (k + 1) → j < 5 → ∀ wr' : World, Kp2 n₀ Bo W wr' → wr'.cell? ⟨b, (k + 1) * 5 + q * 5 + j, none⟩ = some (.int .i64 (at2 xs (k + 1 + q) j)) := fun q j hq hj wr' hkp' => by
          rw [show (k + 1) * 5 + q * 5 + j = (k + 1 + q) * 5 + j by omega]
          exact (hkp'.cell hb hbo _).trans (hc (k + 1 + q) j (by omega) hj)
        gi_loopw [19] (fun j wr' => ∃ q : Nat, q ≤ (nbI xs k).length ∧ j = .int .i64 q ∧ J (nbU xs k ++ (nbI xs k).take q) wr' ∧ Kp2 n₀ Bo W wr' ∧
            wr'.heap[Ba]? = some (.cells #[.int .i64 (at2 xs k 0), .int .i64 (at2 xs k 1), .int .i64 (at2 xs k 2), .int .i64 (at2 xs k 3), .int .i64 (at2 xs k 4)] 41 (0, 0)))
          (fun j _ => len - (intOf j).toNat)
        case atStart => exact ⟨0, Nat.zero_le _, rfl, by simpa using hJ1, kp1, hA1⟩
        case round =>
          obtain ⟨q, hq, rfl, hJ2, kp2, hA2⟩ := hrel
          by_cases hql : q < len - (k + 1)
          · have d0 : wr.cell? ⟨b, (k + 1) * 5 + q * 5, none⟩ = _ := hcz q 0 hql (by omega) wr kp2
            have d1 := hcz q 1 hql (by omega) wr kp2
            have d2 := hcz q 2 hql (by omega) wr kp2
            have d3 := hcz q 3 hql (by omega) wr kp2
            have d4 := hcz q 4 hql (by omega) wr kp2
            have hqz : (q : Int) < ((len - (k + 1) : Nat) : Int) := by omega
            obtain ⟨ob, hob⟩ : ∃ ob, ob = Obj.cells #[.int .i64 (at2 xs (k + 1 + q) 0), .int .i64 (at2 xs (k + 1 + q) 1), .int .i64 (at2 xs (k + 1 + q) 2), .int .i64 (at2 xs (k + 1 + q) 3), .int .i64 (at2 xs (k + 1 + q) 4)] 41 := ⟨_, rfl⟩
            have hlt := (Array.getElem?_eq_some_iff.1 hA2).1
            have hA3 : (wr.alloc ob).heap[Ba]? = _ := (Below.heap_alloc wr ob Ba hlt).trans hA2
            have kp3 := kp2.trans (Kp2.alloc n₀ Bo wr ob (Nat.le_trans hn0 kp2.2.2))
            have hJ3 := hJ _ wr (ob) hJ2
            have a0 : (wr.alloc ob).cell? ⟨Ba, 0, none⟩ = some (.int .i64 (at2 xs k 0)) := by simp [World.cell?, hA3]
            have a1 : (wr.alloc ob).cell? ⟨Ba, 1, none⟩ = some (.int .i64 (at2 xs k 1)) := by simp [World.cell?, hA3]
            have a2 : (wr.alloc ob).cell? ⟨Ba, 2, none⟩ = some (.int .i64 (at2 xs k 2)) := by simp [World.cell?, hA3]
            have a3 : (wr.alloc ob).cell? ⟨Ba, 3, none⟩ = some (.int .i64 (at2 xs k 3)) := by simp [World.cell?, hA3]
            have a4 : (wr.alloc ob).cell? ⟨Ba, 4, none⟩ = some (.int .i64 (at2 xs k 4)) := by simp [World.cell?, hA3]
            have hdr : (xs.drop (k + 1)).getD q [] = xs.getD (k + 1 + q) [] := by simp [List.getD_eq_getElem?_getD, List.getElem?_drop]
            have hdl : q < (xs.drop (k + 1)).length := by rw [List.length_drop, hlen]; exact hql
            by_cases hgt : at2 xs (k + 1 + q) 1 > at2 xs k 3
            · subst hob
              gi_wp2
              have hqe : q = (nbT (xs.getD k []) (xs.drop (k + 1))).length := nbT_out (by omega) hdl (by rw [hdr]; exact hgt)
              refine ⟨⟨k + 1, by omega, by simp, ?_, kp3⟩, by simp [intOf]; omega⟩
              rw [nbU_succ]
              have : (nbI xs k).take q = nbI xs k := List.take_of_length_le (by omega)
              rw [this] at hJ3; exact hJ3
            · have hqn : q < (nbT (xs.getD k []) (xs.drop (k + 1))).length := nbT_in (by omega) hdl (by rw [hdr]; exact hgt)
              have hlt2 := nbU_lt xs (k := k) (q := q) (by omega) (by omega)
              have hdr0 := hdr
              clear hdr hdl
              obtain ⟨fn, tmps, assign, body, hy, hR⟩ := hY _ (xs.getD k [], xs.getD (k + 1 + q) []) _ hJ3 hlt2
              rw [encs2_eq] at hy
              subst hob
              gi_wp2
              refine hR.mono ?_
              rintro e W3 ⟨rfl, hJ4, hk4⟩
              · have hA4 := hk4.2.1 _ _ _ hA3
                have hqb : (q : Int) + 1 ≤ (len : Int) := by omega
                have hwq : IntKind.i64.wrap ((q : Int) + 1) = (q : Int) + 1 := IntWalk.i64_in _ ⟨by omega, by omega⟩
                gi_wp2
                refine ⟨⟨q + 1, by omega, by simp, ?_, kp3.trans hk4, hA4⟩, by simp [intOf]; omega⟩
                rw [nbI_take hqn, ← List.append_assoc, hdr0]
                exact hJ4
          · gi_wp2
            have hqe : q = len - (k + 1) := by omega
            refine ⟨⟨k + 1, by omega, by simp, ?_, kp2⟩, by simp [intOf]; omega⟩
            rw [nbU_succ]
            have : (nbI xs k).take q = nbI xs k := List.take_of_length_le (by omega)
            rw [this] at hJ2; exact hJ2
    · obtain rfl : k = len := by omega
      gi_wp2
      go_end0
      exact ⟨⟨_, rfl⟩, by rw [← nbU_all xs, hlen]; exact hJs⟩
set_option maxRecDepth 100000 in
set_option maxHeartbeats 1000000 in
/-- the iterator at no entries -/
theorem nb1_nil (F : Fence) (n : Nat) (h : F.fn 30) (hro : F.round = none) (l Bs : Nat) (J : List (List Int × List Int) → World → Prop)
    (W : World) (hBs : W.cell? ⟨Bs, 0, none⟩ = some (.slice none 0 0)) (h0 : J [] W) :
    CallsIn F n Try.prog 30 #[.func (.yield l) #[] #[], .pointer (some ⟨Bs, 0, none⟩)] W fun e W' => (∃ v, e = .returned v) ∧ J [] W' := by
  refine callsIn_of_wp Try.func30 rfl h ?_ hro
  simp only [Try.ntmps30, List.size_toArray, List.length_cons, List.length_nil, Nat.reduceAdd, Nat.reduceSub, Array.replicate_succ, Array.replicate_zero, List.push_toArray, List.append_toArray, List.nil_append, List.cons_append]
  gi_wp2
  gi_loopw [9] (fun i wr => i = .int .i64 0 ∧ J [] wr) (fun _ _ => 0)
  case atStart => exact ⟨rfl, h0⟩
  case round =>
    obtain ⟨rfl, hJs⟩ := hrel
    gi_wp2
    go_end0
    exact ⟨⟨_, rfl⟩, hJs⟩
end Go.Proofs.Ytkfaflhhkmkdjaa
