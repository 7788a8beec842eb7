/- sap.Pairs: its contract. -/
import Derived.Test.YtkfaflhhkmkdjaaPb
namespace Go.Proofs.Ytkfaflhhkmkdjaa
open Go.RowKit Fx Vx Bx Ev
set_option linter.unusedVariables false
set_option linter.unusedSimpArgs false
theorem post_rows {rd : Nat → Blk} {m : Map} {nid : Nat} {pre : List Prop} {k : Nat} {ys : List (List Int)} {w w' : World} {v : Value} (h : RowOut w.heap.size w' v k ys) (hk : Kept w.heap.size (fun _ => False) w w') (hfr : m nid = none)
    (hga : ∀ j p k i b, (rd j).live = true → m j = some p → m.g k i = some b → p.b ≠ b) (hgb : ∀ k i b, m.g k i = some b → b < w.heap.size) :
    CallPost rd m nid ⟨pre, .osl ys.isEmpty nid k ys.length, [.arr true (!ys.isEmpty) k ys], [], [], false⟩ w (.returned v) w' := by
  have one : ∀ (q : Option Ev.Place), Den (outMap m nid 1 [q]) (.osl ys.isEmpty nid k ys.length) v → BlkH (outMap m nid 1 [q]) nid w' (.arr true (!ys.isEmpty) k ys) → (∀ p, q = some p → w.heap.size ≤ p.b) →
      CallPost rd m nid ⟨pre, .osl ys.isEmpty nid k ys.length, [.arr true (!ys.isEmpty) k ys], [], [], false⟩ w (.returned v) w' := fun q h1 h2 h3 => by
    have hq : outMap m nid 1 [q] nid = q := by simp only [outMap, Map.with]; rw [if_pos ⟨by omega, by omega⟩, Nat.sub_self]; rfl
    have hnew : ∀ k' b p, ([Blk.arr true (!ys.isEmpty) k ys] : List Blk)[k']? = some b → outMap m nid 1 [q] (nid + k') = some p → w.heap.size ≤ p.b := fun k' b p hb hp => by
      match k', hb with
      | 0, _ => rw [Nat.add_zero, hq] at hp; exact h3 p hp
    refine ⟨v, outMap m nid 1 [q], rfl, fun id hid => ?_, h1, fun k' b hb => ?_, fun k' b p hb _ hp => Or.inl (hnew k' b p hb hp), fun k1 k2 b b' p p' hne hb hb' _ _ _ _ => ?_, hk.mono (Nat.le_refl _) (fun _ _ h => h.elim),
      gpost_plain (rd := rd) (fun _ _ => rfl) rfl (fun k' b p hb _ hp => Or.inl (hnew k' b p hb hp)) hga hgb (fun b hb H e => by rw [List.mem_singleton.1 hb] at e; cases e)⟩
    · exact if_neg (fun ⟨e1, e2⟩ => by rcases hid with e | e <;> (try simp only [List.length_cons, List.length_nil] at e) <;> omega)
    · match k', hb with
      | 0, hb => cases hb; exact h2
    · match k1, k2, hb, hb' with
      | 0, 0, _, _ => exact absurd rfl hne
  rcases h with ⟨rfl, rfl⟩ | ⟨g, cap, vs, ty, rfl, hB, h0, hle, hw, hs, hv⟩
  · exact one none ⟨fun _ => ⟨rfl, rfl⟩, fun h => (by cases h)⟩ (fun h => by cases h) (fun p h => by cases h)
  · have he : ys.isEmpty = false := by cases ys with | nil => simp at h0 | cons => rfl
    have hq : outMap m nid 1 [some ⟨g, 0, cap⟩] nid = some ⟨g, 0, cap⟩ := by simp only [outMap, Map.with]; rw [if_pos ⟨by omega, by omega⟩, Nat.sub_self]; rfl
    refine one (some ⟨g, 0, cap⟩) ?_ ?_ (fun p h => by cases h; exact hB)
    · rw [he]
      exact ⟨fun h => (by cases h), fun _ => ⟨⟨g, 0, cap⟩, ⟨g, 0, none⟩, cap, hq, rfl, rfl, hle, fun _ => rfl⟩⟩
    · exact fun _ => ⟨⟨g, 0, cap⟩, vs, ty, (0, 0), hq, hw, fun i j hi hj => by rw [Nat.zero_add]; exact hv i j hi hj, fun _ => ⟨rfl, rfl, hs, hle⟩⟩
def c_sap_Pairs : Con := ⟨9, genRun [.rows 5] (fun l R => match l, R with | [], [(bxs, xs)] => [nodI xs = true, vldI xs = true, xs.length ≤ 1000] | _, _ => [False]) fun l R => match l, R with
  | [], [(bxs, xs)] => [.rows (sapP xs).isEmpty 2 (sapP xs)]
  | _, _ => []⟩
theorem con_sap_Pairs : c_sap_Pairs.Ok Try.prog := by
  refine ⟨⟨_, Try.func9, rfl, by kernel_rfl⟩, fun nid args rd r hr hp m w vs hd hB hap hfr hup hga hgb hone => ?_, fun nid args rd r hr hro => by
    replace hr : genRun _ _ _ nid args rd = some r := hr
    unfold genRun at hr
    repeat' split at hr
    all_goals first | (cases hr; done) | (injection hr with hr; rw [← hr] at hro; exact absurd hro Bool.false_ne_true)⟩
  replace hr : genRun _ _ _ nid args rd = some r := hr
  simp only [genRun] at hr
  split at hr
  rotate_left
  · cases hr
  rename_i l R ps hl
  cases hr
  obtain ⟨h1, h2, g4, g6, Q, g5, g7⟩ := flatG_mk hB hl (fun p hq => hp p (appP_mem.2 (Or.inl hq))) hd
  match l, h1, R, h2, Q, g5 with
  | [], _, [(b, xs)], _, [q], _ =>
    have hpre : ∀ p ∈ [nodI xs = true, vldI xs = true, xs.length ≤ 1000], p := fun p hq => hp p (appP_mem.2 (Or.inr hq))
    have p0 := hpre _ (List.Mem.head _)
    have p1 := hpre _ (List.Mem.tail _ (List.Mem.head _))
    have p2 := hpre _ (List.Mem.tail _ (List.Mem.tail _ (List.Mem.head _)))
    obtain ⟨ss, j1, j2⟩ := g7 0
    obtain rfl : ss = [rowArg b 0 5 xs] := by cases b <;> (cases j1; rfl)
    obtain ⟨q1, q2⟩ := j2 (M1 q) (fun i q' hi => by
      match i, hi with
      | 0, hi => cases hi; rfl)
    match vs, q1 with
    | [v], q1 =>
      have hn : b = true → xs = [] := g4 (b, xs) (List.mem_singleton.2 rfl)
      have hin : RowIn w v b xs := ⟨q, q1.1, q2 0⟩
      refine (pairs_at w v b xs hn p0 p1 p2 hin).mono ?_
      rintro e w' ⟨v', rfl, hro, hk⟩
      exact post_rows hro hk (hfr 0 (by simp [rsBlks])) hga hgb
end Go.Proofs.Ytkfaflhhkmkdjaa
