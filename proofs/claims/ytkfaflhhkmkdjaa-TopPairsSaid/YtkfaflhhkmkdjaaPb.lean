/- sap.Pairs: its walk. -/
import Derived.Test.YtkfaflhhkmkdjaaPa
namespace Go.Proofs.Ytkfaflhhkmkdjaa
open Go.RowKit Go.Shelf
open Ev (at2 Kept)
open Bx (overlapsB)
set_option linter.unusedVariables false
set_option linter.unusedSimpArgs false
attribute [local go_sem] Oper.semAt_some
def fP (pre : List (List Int × List Int)) : List (List Int) := (pre.filter fun p => ovE p.1 p.2).map prE2
theorem fP_hit (pre : List (List Int × List Int)) {x : List Int × List Int} (h : ovE x.1 x.2 = true) : fP (pre ++ [x]) = fP pre ++ [prE2 x] := by simp [fP, h]
theorem fP_miss (pre : List (List Int × List Int)) {x : List Int × List Int} (h : ovE x.1 x.2 = false) : fP (pre ++ [x]) = fP pre := by simp [fP, h]
theorem fP_le (pre : List (List Int × List Int)) : (fP pre).length ≤ pre.length := by unfold fP; rw [List.length_map]; exact List.length_filter_le _ _
theorem nbL_le : ∀ xs : List (List Int), (nbL xs).length ≤ xs.length * xs.length
  | [] => Nat.le_refl _
  | a :: r => by
    have h1 := nbT_le a r
    have h2 := nbL_le r
    rw [nbL, List.length_append, List.length_map, List.length_cons, Nat.add_mul, Nat.mul_add]
    omega
theorem kept_alloc {B : Nat} {bad : Nat → Prop} {w W : World} (h : Kept B bad w W) (hB : B ≤ W.heap.size) (o : Obj) : Kept B bad w (W.alloc o) :=
  h.trans (Kept.of_below ((Below.refl B W).alloc hB o) (Nat.le_refl _))
theorem kept_put {B l : Nat} {bad : Nat → Prop} {w W : World} (h : Kept B bad w W) (hB : B ≤ l) (o : Obj) : Kept B bad w (W.putObj l o) :=
  h.trans ⟨rfl, rfl, rfl, by simp, fun k hk _ => World.putObj_heap_other (by omega), Nat.le_refl _⟩
theorem RowOut.slice {B k : Nat} {w : World} {v : Value} {ys : List (List Int)} (h : RowOut B w v k ys) : ∃ p l c, v = .slice p l c := by
  rcases h with ⟨_, rfl⟩ | ⟨g, cap, _, _, rfl, _⟩
  · exact ⟨_, _, _, rfl⟩
  · exact ⟨_, _, _, rfl⟩
theorem RowOut.kept {B k : Nat} {w w' : World} {v : Value} {ys : List (List Int)} (h : RowOut B w v k ys) (hk : ∀ i, i < w.heap.size → w'.heap[i]? = w.heap[i]?) : RowOut B w' v k ys := by
  rcases h with h | ⟨g, cap, vs, ty, e, hB, h0, hle, hw, hs⟩
  · exact .inl h
  · exact .inr ⟨g, cap, vs, ty, e, hB, h0, hle, (hk g (Array.getElem?_eq_some_iff.1 hw).1).trans hw, hs⟩
theorem Kp2.put (w0 : World) (Bo : Nat) (W : World) (l : Nat) (o o' : Obj) (hl : w0.heap.size ≤ l) (h : W.heap[l]? = some o) (hc : o.isCells = false) : Kp2 w0.heap.size Bo W (W.putObj l o') := by
  refine ⟨fun k hk _ => World.putObj_heap_other (by omega), fun k c fr hk => (World.putObj_heap_other ?_).trans hk, by simp⟩
  rintro rfl; rw [h] at hk; cases hk; cases hc
theorem kept_from {W W' : World} (h : Kept W.heap.size (fun _ => False) W W') (B : Nat) : KeepsFrom B W W' := ⟨h.size, fun k o _ hk _ => (h.block k (Array.getElem?_eq_some_iff.1 hk).1 id).trans hk⟩
theorem kept_kp2 {W W' : World} {n Bo : Nat} (h : Kept W.heap.size (fun _ => False) W W') (hn : n ≤ W.heap.size) : Kp2 n Bo W W' :=
  ⟨fun k hk _ => h.block k (by omega) id, fun k c fr hk => (h.block k (Array.getElem?_eq_some_iff.1 hk).1 id).trans hk, h.size⟩
theorem kept_box {W W' : World} {B : Nat} {t : TypeId} {v : Value} (h : Kept W.heap.size (fun _ => False) W W') (hv : Boxed W B t v) : Boxed W' B t v := (h.block B hv.lt id).trans hv
theorem kept_row {W W' : World} {base : Nat} {e : TypeId} {size : Nat} {v : Value} {k : Nat} {xs : List Value} (h : Kept W.heap.size (fun _ => False) W W') (hr : W.ownsRow base e size v k xs) : W'.ownsRow base e size v k xs :=
  hr.kept (row := none) ⟨h.os, h.tape, h.output, h.size, fun k hk _ => h.block k hk id⟩ (by cases v.ownBlock <;> simp)
theorem info50 : (Try.prog.info? 50).map (fun i => (i.zero, i.size, i.bytes)) = some (some (.agg #[.int .i64 0, .int .i64 0]), 2, 16) := by kernel_rfl
theorem two_new (w : World) (x y : Value) (t : TypeId) : ∀ j u, [x, y][j]? = some u → (w.alloc (.cells #[x, y] t)).cell? ((⟨w.heap.size, 0, none⟩ : Addr).add j) = some u := by
  intro j u hj
  match j, hj with
  | 0, hj => simp at hj; subst hj; simp [Addr.add]
  | 1, hj => simp at hj; subst hj; simp [Addr.add]
theorem row_ne {W : World} {base : Nat} {e : TypeId} {size : Nat} {v : Value} {k : Nat} {xs : List Value} {B : Nat} (hr : W.ownsRow base e size v k xs) (hB : B < base) : some B ≠ v.ownBlock := by
  intro h
  have := hr.lt B h.symm
  omega
def Mk (p : Prop) : Prop := p
theorem mk_intro {p : Prop} (h : Mk p) : p := h
theorem row_cells {W : World} {base : Nat} {e : TypeId} {size : Nat} {v : Value} {k : Nat} {xs : List Value} {B : Nat} (hr : W.ownsRow base e size v k xs) (h : v.ownBlock = some B) : ∃ cur, W.heap[B]? = some (.cells cur e (0, 0)) := by
  rcases hr.2 with ⟨rfl, _⟩ | ⟨g, cap, cur, rfl, _, hg, _⟩
  · cases h
  · cases h; exact ⟨cur, hg⟩
def encs5 (p : List Int × List Int) : Array Value := #[.agg #[.int .i64 (p.1.getD 0 0), .int .i64 (p.1.getD 1 0), .int .i64 (p.1.getD 2 0), .int .i64 (p.1.getD 3 0), .int .i64 (p.1.getD 4 0)], .agg #[.int .i64 (p.2.getD 0 0), .int .i64 (p.2.getD 1 0), .int .i64 (p.2.getD 2 0), .int .i64 (p.2.getD 3 0), .int .i64 (p.2.getD 4 0)]]
theorem encs2_5 (p : List Int × List Int) : encs2 p = encs5 p := by unfold encs2 encs5; rw [encK_five, encK_five]
/-- the iterator, as the loop's law wants it -/
theorem nb_seq (W3 : World) (Bo Bs : Nat) (ys : List (List Int)) (v : Value) (hBo : Bo < W3.heap.size) (hBs : Bs < W3.heap.size) (hne : Bs ≠ Bo) (bS : Boxed W3 Bs 26 v) (hrow : RowOut (Bo + 1) W3 v 5 ys) (hlim : ys.length ≤ 1000000) :
    ∀ (l : Nat) (J : List (List Int × List Int) → World → Prop) (W : World), Below W3.heap.size W3 W → (∀ s W o, J s W → J s (W.alloc o)) →
      (∀ pre x W, J pre W → pre.length < (nbL ys).length → YieldAt Fence.wide (3 - 1 - 1) Try.prog l (encs5 x) W fun e W' => e = .returned (.bool true) ∧ J (pre ++ [x]) W' ∧ Kp2 W3.heap.size Bo W W') → J [] W →
      CallsIn Fence.wide (3 - 1) Try.prog 30 (#[.func (.yield l) #[] #[]] ++ #[.pointer (some ⟨Bs, 0, none⟩)]) W fun e W' => (∃ v, e = .returned v) ∧ J (nbL ys) W' := by
  intro l J W hW hJ hY h0
  have bS' : Boxed W Bs 26 v := (hW.block Bs hBs).trans bS
  rcases hrow with ⟨rfl, rfl⟩ | ⟨g, cap, vs, ty, rfl, hg, hpos, hle, hw, hs, hv⟩
  · exact nb1_nil Fence.wide 2 trivial rfl l Bs J W bS'.cell h0
  · have hg3 : g < W3.heap.size := (Array.getElem?_eq_some_iff.1 hw).1
    refine nb1_in Fence.wide 2 trivial rfl (by omega) l Bs Bo W3.heap.size g ys.length cap ys rfl hle hlim hg3 (by omega) hBs hne J hJ (fun pre x W h1 h2 => by rw [encs2_5]; exact hY pre x W h1 h2) W hW.size bS'.cell (fun i j hi hj => ?_) h0
    simp only [World.cell?, (hW.block g hg3).trans hw]
    exact hv i j hi hj
set_option maxRecDepth 100000 in
set_option maxHeartbeats 2000000 in
theorem pairs_at (w : World) (v : Value) (b : Bool) (xs : List (List Int)) (hb : b = true → xs = []) (h0 : nodI xs = true) (h1 : vldI xs = true) (h2 : xs.length ≤ 1000) (h : RowIn w v b xs) :
    Calls Try.prog 9 #[v] w fun e W' => ∃ v', e = .returned v' ∧ RowOut w.heap.size W' v' 2 (sapP xs) ∧ Kept w.heap.size (fun _ => False) w W' := by
  refine (callsIn_wide (n := 3)).1 ?_
  refine callsIn_of_wp_marks Try.func9 rfl trivial ?_
  simp only [Try.ntmps9, List.size_toArray, List.length_cons, List.length_nil, Nat.reduceAdd, Nat.reduceSub, Array.replicate_succ, Array.replicate_zero, List.push_toArray, List.append_toArray, List.nil_append, List.cons_append]
  have hR := h.keep (w' := w.alloc (.cells #[.slice none 0 0] 35)) (fun k hk => Below.heap_alloc w _ k hk)
  gi_wp2_with (first
    | (refine ⟨trivial, ?_⟩; gi_at_call 20; refine (callsIn_wide.2 (sort_at _ v b xs hb h0 h1 (by omega) hR)).mono ?_; rintro e W2 ⟨v2, rfl, hrow, hk2⟩; obtain ⟨p2, l2, c2, rfl⟩ := hrow.slice)
    | (refine ⟨trivial, ?_⟩; gi_at_call 19; refine (nb_in _ _ trivial rfl _ _ _ _).mono ?_; rintro e w' ⟨rfl, rfl⟩))
  obtain ⟨ys, hys⟩ : ∃ ys, ys = Ev.srtK cfE 5 xs := ⟨_, rfl⟩
  have hyl : ys.length = xs.length := by rw [hys]; exact srtK_length xs
  have hsp : sapP xs = Ev.srtK cfP 2 (fP (nbL ys)) := by rw [hys]; rfl
  rw [← hys] at hrow
  clear hys h0 h1 hR h hb b
  have hs1 : (w.alloc (.cells #[.slice none 0 0] 35)).heap.size = w.heap.size + 1 := by simp
  have hBo2 : Boxed W2 w.heap.size 35 (.slice none 0 0) := (hk2.block w.heap.size (by omega) id).trans (Boxed.new w 35 _)
  have hkw2 : Kept w.heap.size (fun _ => False) w W2 := (kept_alloc (Kept.refl _ _ w) (Nat.le_refl _) _).trans (hk2.mono (by omega) (fun _ _ h => h))
  have hsz2 : w.heap.size + 1 ≤ W2.heap.size := by rw [← hs1]; exact hk2.size
  have bS := Boxed.new W2 26 (.slice p2 l2 c2)
  have bO := hBo2.alloc (.cells #[.slice p2 l2 c2] 26)
  have hk3 := kept_alloc hkw2 (by omega) (.cells #[.slice p2 l2 c2] 26)
  have hrow3 : RowOut (w.heap.size + 1) (W2.alloc (.cells #[.slice p2 l2 c2] 26)) (.slice p2 l2 c2) 5 ys := by
    rw [hs1] at hrow
    exact hrow.kept (fun k hk => Below.heap_alloc W2 _ k hk)
  have hsz3 : (W2.alloc (.cells #[.slice p2 l2 c2] 26)).heap.size = W2.heap.size + 1 := by simp
  obtain ⟨W3, hW3⟩ : ∃ W3, W2.alloc (.cells #[.slice p2 l2 c2] 26) = W3 := ⟨_, rfl⟩
  rw [hW3] at bS bO hk3 hrow3 hsz3 ⊢
  clear hW3
  have hnl := nbL_le ys
  have hll : (nbL ys).length ≤ 1000000 := Nat.le_trans hnl (by have := Nat.mul_le_mul (hyl ▸ h2 : ys.length ≤ 1000) (hyl ▸ h2 : ys.length ≤ 1000); omega)
  refine wpIn_range_all (w := W3) rfl (by omega) (gf := 30) (lb := #[.pointer (some ⟨W2.heap.size, 0, none⟩)]) rfl trivial (enters_of Try.func30 (by kernel_rfl) rfl)
    (encs := encs5) (fun _ => rfl) (nbL ys) (Kp := Kp2 W3.heap.size w.heap.size) Kp2.trans (Kp2.put W3 w.heap.size) (nb_seq W3 w.heap.size W2.heap.size ys (.slice p2 l2 c2) (by omega) (by omega) (by omega) bS hrow3 (by omega))
    (fun pre W => (∃ v, Boxed W w.heap.size 35 v ∧ W.ownsRow W3.heap.size 50 2 v (fP pre).length (encP (fP pre)) ∧ (fP pre = [] → v = .slice none 0 0)) ∧ Kept w.heap.size (fun _ => False) w W ∧ W3.heap.size ≤ W.heap.size)
    ?Ia ?Ip ?I0
    (fun x a' W => ∃ Ba Bb, W3.heap.size ≤ Ba ∧ W3.heap.size ≤ Bb ∧
      W.heap[Ba]? = some (.cells #[.int .i64 (x.1.getD 0 0), .int .i64 (x.1.getD 1 0), .int .i64 (x.1.getD 2 0), .int .i64 (x.1.getD 3 0), .int .i64 (x.1.getD 4 0)] 41 (0, 0)) ∧
      W.heap[Bb]? = some (.cells #[.int .i64 (x.2.getD 0 0), .int .i64 (x.2.getD 1 0), .int .i64 (x.2.getD 2 0), .int .i64 (x.2.getD 3 0), .int .i64 (x.2.getD 4 0)] 41 (0, 0)) ∧
      a' = { tmps := #[v, undef, .slice none 0 0, .pointer (some ⟨w.heap.size, 0, none⟩), .pointer (some ⟨Ba, 0, none⟩), .pointer (some ⟨Bb, 0, none⟩), v, .slice p2 l2 c2, .func (.func 30) #[] #[.pointer (some ⟨W2.heap.size, 0, none⟩)],
        .agg #[.int .i64 (x.1.getD 0 0), .int .i64 (x.1.getD 1 0), .int .i64 (x.1.getD 2 0), .int .i64 (x.1.getD 3 0), .int .i64 (x.1.getD 4 0)], .agg #[.int .i64 (x.2.getD 0 0), .int .i64 (x.2.getD 1 0), .int .i64 (x.2.getD 2 0), .int .i64 (x.2.getD 3 0), .int .i64 (x.2.getD 4 0)],
        undef, undef, undef, undef, undef, undef, undef, undef, undef, undef, undef, undef, undef, undef, undef, undef, undef, undef, undef, undef, undef, undef], defers := [] })
    ?Ax ?assign ?body ?done
  case Ia =>
    rintro s W o ⟨⟨v, hv, hr, hn⟩, hk, hs⟩
    exact ⟨⟨v, hv.alloc o, hr.alloc o, hn⟩, kept_alloc hk (by omega) o, by simp; omega⟩
  case Ip =>
    rintro s W l o o' ⟨⟨v, hv, hr, hn⟩, hk, hs⟩ hl ho hc
    exact ⟨⟨v, (World.putObj_heap_other (by omega)).trans hv, ownsRow_putObj hr o' ho hc, hn⟩, kept_put hk (by omega) o', by simpa using hs⟩
  case I0 => exact ⟨⟨_, bO, World.ownsRow_nil _ _ _ _, fun _ => rfl⟩, hk3, Nat.le_refl _⟩
  case Ax =>
    rintro x a' W l o o' ⟨Ba, Bb, hBa, hBb, hA, hB, rfl⟩ hl ho hc
    refine ⟨Ba, Bb, hBa, hBb, (World.putObj_heap_other ?_).trans hA, (World.putObj_heap_other ?_).trans hB, rfl⟩
    · rintro rfl; rw [ho] at hA; cases hA; cases hc
    · rintro rfl; rw [ho] at hB; cases hB; cases hc
  case assign =>
    rintro l pre x W K ⟨⟨v1, hv, hr, hn⟩, hk, hs⟩ hK
    simp only [encs5]
    gi_wp2
    refine hK _ _ (((KeepsOthers.alloc _ _).trans (KeepsOthers.alloc _ _)).from _) ((Kp2.alloc _ _ W _ hs).trans (Kp2.alloc _ _ _ _ (by simp; omega)))
      ⟨⟨v1, (hv.alloc _).alloc _, (hr.alloc _).alloc _, hn⟩, kept_alloc (kept_alloc hk (by omega) _) (by simp; omega) _, by simp; omega⟩
      ⟨W.heap.size, W.heap.size + 1, hs, by omega, (Below.heap_alloc _ _ _ (by simp)).trans (World.alloc_heap_new W _), by have := World.alloc_heap_new (W.alloc (.cells #[.int .i64 (x.1.getD 0 0), .int .i64 (x.1.getD 1 0), .int .i64 (x.1.getD 2 0), .int .i64 (x.1.getD 3 0), .int .i64 (x.1.getD 4 0)] 41)) (.cells #[.int .i64 (x.2.getD 0 0), .int .i64 (x.2.getD 1 0), .int .i64 (x.2.getD 2 0), .int .i64 (x.2.getD 3 0), .int .i64 (x.2.getD 4 0)] 41); rw [World.size_alloc] at this; exact this, rfl⟩
  case body =>
    rintro l pre x a' W ⟨⟨v1, hv, hr, hn⟩, hk, hs⟩ ⟨Ba, Bb, hBa, hBb, hA, hB, rfl⟩ hlen
    have hov : ovE x.1 x.2 = overlapsB (x.1.getD 1 0) (x.1.getD 2 0) (x.1.getD 3 0) (x.1.getD 4 0) (x.2.getD 1 0) (x.2.getD 2 0) (x.2.getD 3 0) (x.2.getD 4 0) := rfl
    have hpr : prE2 x = [min (x.1.getD 0 0) (x.2.getD 0 0), max (x.1.getD 0 0) (x.2.getD 0 0)] := rfl
    generalize x.1.getD 0 0 = a0 at *
    generalize x.1.getD 1 0 = a1 at *
    generalize x.1.getD 2 0 = a2 at *
    generalize x.1.getD 3 0 = a3 at *
    generalize x.1.getD 4 0 = a4 at *
    generalize x.2.getD 0 0 = b0 at *
    generalize x.2.getD 1 0 = b1 at *
    generalize x.2.getD 2 0 = b2 at *
    generalize x.2.getD 3 0 = b3 at *
    generalize x.2.getD 4 0 = b4 at *
    have ltA := (Array.getElem?_eq_some_iff.1 hA).1
    have ltB := (Array.getElem?_eq_some_iff.1 hB).1
    have hbody : ∀ W4, Kept W.heap.size (fun _ => False) W W4 → True := fun _ _ => trivial
    have cA1 : W.cell? ⟨Ba, 1, none⟩ = some (.int .i64 a1) := by simp [World.cell?, hA]
    have cA2 : W.cell? ⟨Ba, 2, none⟩ = some (.int .i64 a2) := by simp [World.cell?, hA]
    have cA3 : W.cell? ⟨Ba, 3, none⟩ = some (.int .i64 a3) := by simp [World.cell?, hA]
    have cA4 : W.cell? ⟨Ba, 4, none⟩ = some (.int .i64 a4) := by simp [World.cell?, hA]
    have cB1 : W.cell? ⟨Bb, 1, none⟩ = some (.int .i64 b1) := by simp [World.cell?, hB]
    have cB2 : W.cell? ⟨Bb, 2, none⟩ = some (.int .i64 b2) := by simp [World.cell?, hB]
    have cB3 : W.cell? ⟨Bb, 3, none⟩ = some (.int .i64 b3) := by simp [World.cell?, hB]
    have cB4 : W.cell? ⟨Bb, 4, none⟩ = some (.int .i64 b4) := by simp [World.cell?, hB]
    cases ho : overlapsB a1 a2 a3 a4 b1 b2 b3 b4 with
    | false =>
      rw [ho] at hov
      gi_wp2_with (refine ⟨trivial, ?_⟩; gi_at_call 11; refine (CallsIn.inRound l (callsIn_wide.2 (ov_at W a1 a2 a3 a4 b1 b2 b3 b4))).mono ?_; rw [ho]; rintro e W4 ⟨rfl, hk4⟩)
      exact ⟨kept_from hk4 _, kept_kp2 hk4 hs, ⟨v1, kept_box hk4 hv, by rw [fP_miss _ hov]; exact kept_row hk4 hr, by rw [fP_miss _ hov]; exact hn⟩, hk.trans (hk4.mono (by omega) (fun _ _ h => h)), by have := hk4.size; omega⟩
    | true =>
      rw [ho] at hov
      have hle := fP_le pre
      have hbm : (fP pre).length + 1 ≤ maxLen := by simp only [maxLen]; omega
      have hbb : ((fP pre).length + 1) * 16 ≤ 140737488355328 := by omega
      obtain ⟨i0, hi, hz0, hz1, hz2⟩ := info_parts info50
      have hBo3 : w.heap.size < W3.heap.size := by omega
      gi_wp2_with (first
        | (refine ⟨trivial, ?_⟩; gi_at_call 11; refine (CallsIn.inRound l (callsIn_wide.2 (ov_at W a1 a2 a3 a4 b1 b2 b3 b4))).mono ?_; rw [ho]; rintro e W4 ⟨rfl, hk4⟩; have hv4 := kept_box hk4 hv; have hc4 := hv4.cell; have hA4 := (hk4.block Ba ltA id).trans hA; have hB4 := (hk4.block Bb ltB id).trans hB; have hr4 := kept_row hk4 hr; have cA0 : W4.cell? ⟨Ba, 0, none⟩ = some (.int .i64 a0) := (by simp [World.cell?, hA4]); have cB0 : W4.cell? ⟨Bb, 0, none⟩ = some (.int .i64 b0) := (by simp [World.cell?, hB4]))
        | (gi_at_builtin; refine mk_intro ?_))
      unfold Mk
      refine wpListIn_append_ownD rfl _ _ 35 rfl W3.heap.size 50 i0 (.agg #[.int .i64 0, .int .i64 0]) 2 16 Try.underlying35 hi hz0 hz1 hz2 rfl (by decide) v1 (fP pre).length (encP (fP pre)) rfl (hr4.alloc _) ⟨W4.heap.size, 0, none⟩ 1 1 [.int .i64 (min a0 b0), .int .i64 (max a0 b0)] rfl rfl (two_new _ _ _ _) (by simp [Value.oneCell']) hbm hbb (by have := hk4.size; simp; omega) ?_
      intro v' w1 hown' hgrow _ hdr
      obtain ⟨g', cap', rfl⟩ := ownsRow_succ hown'
      have hv1 := (hv4.alloc _).kept hgrow (row_ne hr4 hBo3)
      have hc1 := hv1.cell
      have hf1 := hv1.frozen
      gi_wp2
      have hk5 : ∀ k : Nat, k < W4.heap.size → some k ≠ v1.ownBlock → k ≠ w.heap.size → (w1.setCell ⟨w.heap.size, 0, none⟩ (.slice (some ⟨g', 0, none⟩) ((fP pre).length + 1) cap')).heap[k]? = W4.heap[k]? := fun k hk hne hb =>
        (Below.heap_setCell _ _ _ k hb).trans ((hgrow.block k (by simp; omega) hne).trans (Below.heap_alloc W4 _ k hk))
      have hown5 := hown'.kept (grownBy_setCell' w1 w.heap.size (.slice (some ⟨g', 0, none⟩) ((fP pre).length + 1) cap')) (.inr (row_ne hown' hBo3).symm)
      have hsz5 : W4.heap.size ≤ (w1.setCell ⟨w.heap.size, 0, none⟩ (.slice (some ⟨g', 0, none⟩) ((fP pre).length + 1) cap')).heap.size := by
        have := hgrow.size; simp at this ⊢; omega
      have own1 : ∀ k, v1.ownBlock = some k → W3.heap.size ≤ k := fun k e => (hr4.lt k e).1
      have hs4 := hk4.size
      refine ⟨⟨by omega, fun k o hB hk hc => ?_⟩, ⟨fun k hk hne => ?_, fun k c fr hk => ?_, by omega⟩, ⟨_, hv1.set _, ?_, ?_⟩, ?_, by omega⟩
      · have hk' := (hk4.block k (Array.getElem?_eq_some_iff.1 hk).1 id).trans hk
        refine (hk5 k (Array.getElem?_eq_some_iff.1 hk').1 (fun e => ?_) (by omega)).trans hk'
        obtain ⟨cur, hcur⟩ := row_cells hr4 e.symm
        rw [hk'] at hcur; cases hcur; cases hc
      · exact (hk5 k (by omega) (fun e => by have := own1 k e.symm; omega) hne).trans (hk4.block k (by omega) id)
      · have hk' := (hk4.block k (Array.getElem?_eq_some_iff.1 hk).1 id).trans hk
        refine (hk5 k (Array.getElem?_eq_some_iff.1 hk').1 (fun e => ?_) (fun e => ?_)).trans hk'
        · obtain ⟨cur, hcur⟩ := row_cells hr4 e.symm
          rw [hk'] at hcur; cases hcur
        · subst e
          have hx := hk'.symm.trans (show W4.heap[w.heap.size]? = _ from hv4)
          cases hx
      · rw [fP_hit _ hov, encP_snoc, hpr, List.length_append]
        exact hown5
      · intro e; rw [fP_hit _ hov] at e; simp at e
      · refine (hk.trans (hk4.mono (by omega) (fun _ _ h => h))).trans ⟨hgrow.os, hgrow.tape, hgrow.output, hsz5, fun k hk _ => hk5 k (by omega) (fun e => by have := own1 k e.symm; omega) (by omega), hdr⟩
  case done =>
    rintro D W hD ⟨⟨v1, hv, hr, hn⟩, hk, hs⟩ hD0
    have hfl := fP_le (nbL ys)
    have hBo3 : w.heap.size < W3.heap.size := by omega
    have cv := hv.cell
    gi_wp2_with (refine ⟨trivial, ?_⟩; gi_at_call 21; refine (callsIn_wide.2 (sortP_at W _ v1 (fP (nbL ys)) (by omega) hn hr)).mono ?_; rintro e W5 ⟨rfl, hro, hk5⟩; have hv5 : Boxed W5 w.heap.size 35 v1 := (hk5.block w.heap.size hv.lt (fun e => row_ne hr hBo3 e.symm)).trans hv; have cv5 := hv5.cell)
    have hD5 : W5.heap[D]? = some (.deferred (some [])) := (hk5.block D (Array.getElem?_eq_some_iff.1 hD0).1 (fun e => by
      obtain ⟨cur, hcur⟩ := row_cells hr e
      rw [hD0] at hcur; cases hcur)).trans hD0
    refine ⟨by simp, .inl ⟨_, _, rfl, run_takeDeferred hD5, ?_⟩⟩
    refine ⟨_, results_tmp rfl _ _ _, v1, rfl, ?_, ?_⟩
    · rw [hsp]
      rcases hro with h | ⟨g, cap, vs, ty, e, hB, h0, hle, hw, hs⟩
      · exact .inl h
      · refine .inr ⟨g, cap, vs, ty, e, by omega, h0, hle, (World.putObj_heap_other ?_).trans hw, hs⟩
        rintro rfl; rw [hD5] at hw; cases hw
    · exact kept_put (hk.trans (hk5.mono (by have := hk.size; omega) (fun k hk e => by have := (hr.lt k e).1; omega))) (by omega) _
end Go.Proofs.Ytkfaflhhkmkdjaa
