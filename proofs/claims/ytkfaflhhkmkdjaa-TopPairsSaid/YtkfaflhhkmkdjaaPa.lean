/- sap.Pairs: what it calls, at a world. -/
import Derived.Test.YtkfaflhhkmkdjaaLw
namespace Go.Proofs.Ytkfaflhhkmkdjaa
open Go.RowKit Fx Vx Bx Ev
set_option linter.unusedVariables false
set_option linter.unusedSimpArgs false
def M1 (q : Option Ev.Place) : Map := Map.of fun i => match i with | 0 => q | _ => none
def R1 (b : Blk) : Nat → Blk := fun i => match i with | 0 => b | _ => .dead
/-- v is a slice of rows xs (nil where b) -/
def RowIn (w : World) (v : Value) (b : Bool) (xs : List (List Int)) : Prop := ∃ q, Den (M1 q) (rowArg b 0 5 xs) v ∧ BlkH (M1 q) 0 w (.arr false (!b) 5 xs)
theorem RowIn.keep {w w' : World} {v : Value} {b : Bool} {xs : List (List Int)} (h : RowIn w v b xs) (hk : ∀ k, k < w.heap.size → w'.heap[k]? = w.heap[k]?) : RowIn w' v b xs := by
  obtain ⟨q, h1, h2⟩ := h
  refine ⟨q, h1, h2.keep (Map.le.refl _) (fun l hl hm => hk _ ?_) (fun _ _ => rfl) (fun k i b h => by cases h)⟩
  obtain ⟨l', e, hlt⟩ := h2.place hl
  rw [hm] at e; cases e; exact hlt
/-- v is a slice of its own, of the rows ys -/
def RowOut (B : Nat) (w : World) (v : Value) (k : Nat) (ys : List (List Int)) : Prop :=
  (ys = [] ∧ v = .slice none 0 0) ∨ ∃ g cap vs ty, v = .slice (some ⟨g, 0, none⟩) ys.length cap ∧ B ≤ g ∧ 0 < ys.length ∧ ys.length ≤ cap ∧ w.heap[g]? = some (.cells vs ty (0, 0)) ∧ vs.size = cap * k ∧
    ∀ i j, i < ys.length → j < k → vs[i * k + j]? = some (.int .i64 (at2 ys i j))
theorem blkM1 (w : World) (q : Option Ev.Place) (b : Blk) (h : BlkH (M1 q) 0 w b) : ∀ id, BlkH (M1 q) id w (R1 b id)
  | 0 => h
  | _ + 1 => trivial
theorem apM1 (q : Option Ev.Place) (b : Blk) : ∀ (i j : Nat) (p p' : Ev.Place), i ≠ j → (R1 b i).own = true → (R1 b j).live = true → (M1 q) i = some p → (M1 q) j = some p' → p.b ≠ p'.b := by
  intro i j p p' hij _ _ h1 h2
  match i, j with
  | 0, 0 => exact absurd rfl hij
  | 0, _ + 1 => cases h2
  | _ + 1, _ => cases h1
/-- What a new row looks like, out of a contract's word. -/
theorem rowOut_of {B : Nat} {w : World} {m : Map} {nid k : Nat} {ys : List (List Int)} {v : Value} (hk : 0 < k) (hd : Den m (.osl ys.isEmpty nid k ys.length) v) (hb : BlkH m nid w (.arr true (!ys.isEmpty) k ys))
    (hn : ∀ p, m nid = some p → ys.isEmpty = false → B ≤ p.b) : RowOut B w v k ys := by
  cases h : ys.isEmpty with
  | true =>
    rw [h] at hd
    exact .inl ⟨List.isEmpty_iff.1 h, (hd.1 rfl).1⟩
  | false =>
    rw [h] at hd hb
    obtain ⟨l, ad, c, hm, rfl, rfl, hle, had⟩ := hd.2 rfl
    obtain ⟨l', vs, ty, fr, hm', hw, hv, ho⟩ := hb rfl
    rw [hm] at hm'; cases hm'
    obtain ⟨rfl, o0, hs, _⟩ := ho rfl
    have hpos : 0 < ys.length := by cases ys with | nil => simp at h | cons => simp
    have had := had (by omega)
    rw [o0] at had; subst had
    refine .inr ⟨l.b, l.c, vs, ty, rfl, hn l hm h, hpos, hle, hw, hs, fun i j hi hj => ?_⟩
    have := hv i j hi hj
    rwa [o0, Nat.zero_add] at this
theorem all0 {l : List Prop} (h : ∀ p ∈ l, p) (a : Prop) (ha : a) : ∀ p ∈ a :: l, p := by
  intro p hp
  rcases List.mem_cons.1 hp with rfl | hp
  · exact ha
  · exact h p hp
theorem alln : ∀ p ∈ ([] : List Prop), p := by intro p hp; cases hp
theorem alla {l l' : List Prop} (h : ∀ p ∈ l, p) (h' : ∀ p ∈ l', p) : ∀ p ∈ appP l l', p := fun p hp => (appP_mem.1 hp).elim (h p) (h' p)
theorem srt_emp (xs : List (List Int)) : (srtK cfE 5 xs).isEmpty = xs.isEmpty := by
  have := srtK_length xs
  cases h : srtK cfE 5 xs with
  | nil => rw [h] at this; cases xs with | nil => rfl | cons => simp at this
  | cons => rw [h] at this; cases xs with | nil => simp at this | cons => rfl
def sortG (ps : List Prop) (ys : List (List Int)) : CRes := ⟨appP (appP ps []) [nodI ys = true, vldI ys = true, ys.length ≤ 1000000], .osl ys.isEmpty 1 5 (srtK cfE 5 ys).length, [.arr true (!ys.isEmpty) 5 (srtK cfE 5 ys)], [], [], false⟩
theorem sort_at (W : World) (v : Value) (b : Bool) (xs : List (List Int)) (hb : b = true → xs = []) (h0 : nodI xs = true) (h1 : vldI xs = true) (h2 : xs.length ≤ 1000000) (h : RowIn W v b xs) :
    Calls Try.prog 20 #[v] W fun e W' => ∃ v', e = .returned v' ∧ RowOut W.heap.size W' v' 5 (srtK cfE 5 xs) ∧ Kept W.heap.size (fun _ => False) W W' := by
  obtain ⟨q, hd, hB⟩ := h
  have hrun : ∃ ps, c_sap_Sort.run 1 [rowArg b 0 5 xs] (R1 (.arr false (!b) 5 xs)) = some (sortG ps xs) ∧ ∀ p ∈ ps, p := by
    cases b with
    | true =>
      obtain rfl := hb rfl
      exact ⟨[], rfl, alln⟩
    | false =>
      have e : c_sap_Sort.run 1 [rowArg false 0 5 xs] (R1 (.arr false (!false) 5 xs)) = some (sortG [true = true, 0 + xs.length ≤ xs.length] ((xs.drop 0).take xs.length)) := rfl
      rw [show (xs.drop 0).take xs.length = xs by simp] at e
      exact ⟨_, e, all0 (all0 alln _ (by omega)) _ rfl⟩
  obtain ⟨ps, hr, hps⟩ := hrun
  refine (con_sap_Sort.run 1 _ _ _ hr (alla (alla hps alln) (all0 (all0 (all0 alln _ h2) _ h1) _ h0)) (M1 q) W [v] ⟨hd, trivial⟩ (blkM1 W q _ hB) (apM1 q _) (fun k hk => by rw [Nat.add_comm]; rfl) rfl
    (fun j p k i b _ _ h => by cases h) (fun k i b h => by cases h) (fun s s' H H' h => by
      match s with
      | 0 => cases h
      | _ + 1 => cases h)).mono ?_
  rintro e W' ⟨v', m', rfl, _, hd', hnb, hfr, _, hk, _⟩
  have hb' := hnb 0 _ rfl
  refine ⟨v', rfl, rowOut_of (by omega) (by rw [Nat.add_zero] at hb'; simpa [sortG, srtK_length, srt_emp] using hd') (by simpa [sortG, srt_emp] using hb') (fun p hp he => ?_), hk.mono (Nat.le_refl _) (fun k _ ht => ?_)⟩
  · rcases hfr 0 _ p rfl (by rw [srt_emp] at he; show (!xs.isEmpty) = true; rw [he]; rfl) (by simpa using hp) with h | ⟨_, h, _⟩ | ⟨h, _⟩
    · exact h
    · cases h
    · rw [srt_emp] at he
      have h : (true && !xs.isEmpty) = false := h
      rw [he] at h; cases h
  · rcases ht with ⟨_, h, _⟩ | ⟨_, h, _⟩ | ⟨h, _⟩ <;> cases h
theorem ov_at (W : World) (a1 a2 a3 a4 b1 b2 b3 b4 : Int) :
    Calls Try.prog 11 #[.agg #[.int .i64 a1, .int .i64 a2, .int .i64 a3, .int .i64 a4], .agg #[.int .i64 b1, .int .i64 b2, .int .i64 b3, .int .i64 b4]] W fun e W' => e = .returned (.bool (overlapsB a1 a2 a3 a4 b1 b2 b3 b4)) ∧ Kept W.heap.size (fun _ => False) W W' := by
  have hr : c_aabb_Overlaps.run 0 [.agg [.int .i64 a1, .int .i64 a2, .int .i64 a3, .int .i64 a4], .agg [.int .i64 b1, .int .i64 b2, .int .i64 b3, .int .i64 b4]] (fun _ => .dead) = some ⟨[], .bool (overlapsB a1 a2 a3 a4 b1 b2 b3 b4), [], [], [], false⟩ := rfl
  refine (con_aabb_Overlaps.run 0 _ _ _ hr alln Map.none' W [.agg #[.int .i64 a1, .int .i64 a2, .int .i64 a3, .int .i64 a4], .agg #[.int .i64 b1, .int .i64 b2, .int .i64 b3, .int .i64 b4]] ⟨⟨_, rfl, rfl, rfl, rfl, rfl, trivial⟩, ⟨_, rfl, rfl, rfl, rfl, rfl, trivial⟩, trivial⟩
    (fun id => trivial) (fun i j p q _ h => by cases h) (fun k _ => rfl) rfl (fun j p k i b h => by cases h) (fun k i b h => by cases h) (fun s s' H H' h => by cases h)).mono ?_
  rintro e w' ⟨v, m', rfl, _, hd, _, _, _, hk, _⟩
  refine ⟨by rw [show v = Value.bool _ from hd], hk.mono (Nat.le_refl _) fun k _ ht => ?_⟩
  rcases ht with ⟨id, hid, _⟩ | ⟨id, hid, _⟩ | ⟨h, _⟩
  · cases hid
  · cases hid
  · cases h
def encP (l : List (List Int)) : List Value := l.flatMap fun x => [.int .i64 (x.getD 0 0), .int .i64 (x.getD 1 0)]
theorem encP_snoc (l : List (List Int)) (x : List Int) : encP (l ++ [x]) = encP l ++ [.int .i64 (x.getD 0 0), .int .i64 (x.getD 1 0)] := by simp [encP]
theorem encP_length (l : List (List Int)) : (encP l).length = l.length * 2 := by
  unfold encP; rw [List.length_flatMap]; simp; induction l with
  | nil => rfl
  | cons a r ih => simp [ih]; omega
theorem encP_get : ∀ (l : List (List Int)) (i j : Nat), i < l.length → j < 2 → (encP l)[i * 2 + j]? = some (.int .i64 (at2 l i j))
  | [], _, _, h, _ => by cases h
  | a :: r, 0, j, _, hj => by
    match j, hj with
    | 0, _ => rfl
    | 1, _ => rfl
  | a :: r, i + 1, j, h, hj => by
    have := encP_get r i j (by simpa using h) hj
    rw [show (i + 1) * 2 + j = i * 2 + j + 2 by omega]
    exact this
theorem srtP_length (xs : List (List Int)) : (srtK cfP 2 xs).length = xs.length := by
  unfold srtK; rw [Array.length_toList, srtA_size law_sortP.swo]; simp
theorem srtP_nil : srtK cfP 2 [] = [] := List.eq_nil_of_length_eq_zero (srtP_length [])
theorem sortP_at (W : World) (B : Nat) (v : Value) (ys : List (List Int)) (hlim : ys.length < 4611686018427387904) (hnil : ys = [] → v = .slice none 0 0) (h : W.ownsRow B 50 2 v ys.length (encP ys)) :
    Calls Try.prog 21 #[v, .func (.func 22) #[] #[]] W fun e W' => e = .returned (.tuple #[]) ∧ RowOut B W' v 2 (srtK cfP 2 ys) ∧ Kept W.heap.size (fun k => v.ownBlock = some k) W W' := by
  rcases h.2 with ⟨rfl, h0⟩ | ⟨g, cap, cur, rfl, hg, hw, hle, _, hs, htk⟩
  · obtain rfl : ys = [] := List.eq_nil_of_length_eq_zero h0
    refine (law_sortP.at_nil W).mono ?_
    rintro e W' ⟨rfl, hk⟩
    exact ⟨rfl, .inl ⟨srtP_nil, rfl⟩, hk.mono (Nat.le_refl _) (fun _ _ h => h.elim)⟩
  · have hpos : 0 < ys.length := by
      cases ys with
      | nil => cases hnil rfl
      | cons => simp
    have hr : c_sortP.run 1 [.osl false 0 2 ys.length, .cst (.func (.func 22) #[] #[])] (R1 (.arr true true 2 ys)) = some (uRes [true = true, ys.length = ys.length, 0 < ys.length, ys.length < 4611686018427387904] 0 2 (srtK cfP 2 ys)) := rfl
    have hB : BlkH (M1 (some ⟨g, 0, cap⟩)) 0 W (.arr true true 2 ys) := fun _ => ⟨⟨g, 0, cap⟩, cur, 50, (0, 0), rfl, hw, fun i j hi hj => by
      have e := encP_get ys i j hi hj
      rw [← htk, List.getElem?_take_of_lt (by omega), Array.getElem?_toList] at e
      simpa using e, fun _ => ⟨rfl, rfl, hs, hle⟩⟩
    refine (con_sortP.run 1 _ _ _ hr (all0 (all0 (all0 (all0 alln _ hlim) _ hpos) _ rfl) _ rfl) (M1 (some ⟨g, 0, cap⟩)) W [.slice (some ⟨g, 0, none⟩) ys.length cap, .func (.func 22) #[] #[]]
      ⟨⟨fun h => (by cases h), fun _ => ⟨⟨g, 0, cap⟩, ⟨g, 0, none⟩, cap, rfl, rfl, rfl, hle, fun _ => rfl⟩⟩, rfl, trivial⟩ (blkM1 W _ _ hB) (apM1 _ _) (fun k hk => by simp [uRes] at hk) rfl
      (fun j p k i b _ _ h => by cases h) (fun k i b h => by cases h) (fun s s' H H' h => by
        match s with
        | 0 => cases h
        | _ + 1 => cases h)).mono ?_
    rintro e W' ⟨v', m', rfl, hm, hd', _, _, _, hk, hgp⟩
    obtain ⟨us, rfl, hus⟩ := hd'
    obtain rfl : us = #[] := by
      cases us with | mk l => cases l with | nil => rfl | cons => exact hus.elim
    have hu := hgp.upd (0, .arr true true 2 (srtK cfP 2 ys)) (by simp [uRes])
    have hm0 : m' 0 = some ⟨g, 0, cap⟩ := (hm 0 (.inl (by omega))).trans rfl
    refine ⟨rfl, ?_, hk.mono (Nat.le_refl _) (fun k _ ht => ?_)⟩
    · obtain ⟨l, vs, ty, fr, hm', hw', hv, ho⟩ := hu rfl
      rw [hm0] at hm'; cases hm'
      obtain ⟨rfl, _, hsz, hle'⟩ := ho rfl
      refine .inr ⟨g, cap, vs, ty, by rw [srtP_length], hg, by rw [srtP_length]; exact hpos, hle', hw', hsz, fun i j hi hj => by simpa using hv i j hi hj⟩
    · rcases ht with ⟨_, h, _⟩ | ⟨id, hid, _, p, hp, rfl⟩ | ⟨h, _⟩
      · cases h
      · simp [uRes, plainUpd] at hid
        subst hid
        cases hp
        rfl
      · cases h
end Go.Proofs.Ytkfaflhhkmkdjaa
