/- The frame of a law's proof: an argument whose cells are all numbers of the kind int is opened to its numbers; a law that returns true and leaves all old memory alone meets its row. No program in sight. -/
import Derived.ProofKit
import Derived.OpenShut
import Derived.Below
import Derived.Carry
import Derived.ChangeSame
import Derived.WideKeyArgs
import Derived.Deep.Slices
namespace Go.Proofs.YtohjifnkajhhnaaGreat.Frame
open Go.ChangeShapes Go.WideShapes Go.ChangeAt Go.RowKit

section
variable {H : Type} {enc : TypeId × Value → H} {P : Program}

/-- Is cell o of a value of type t a number of the kind int? -/
def cellI64 (P : Program) : Nat → TypeId → Nat → Bool
  | 0, _, _ => false
  | n + 1, t, o => match P.underlying t with
    | some (.int .i64) => o == 0
    | some (.struct fs) => fs.toList.any fun f => decide (f.offset ≤ o) && decide (o < f.offset + P.cellsOf f.type) && cellI64 P n f.type (o - f.offset)
    | some (.array k e) => decide (0 < P.cellsOf e) && decide (o / P.cellsOf e < k) && cellI64 P n e (o % P.cellsOf e)
    | _ => false

theorem cellI64_of {w : World} {base : Nat} {spare : Nat → Bool} {held : Bool} (n : Nat) : ∀ (fuel : Nat) (t : TypeId) (cs : List Value) (x : DataW H × List MemPlace) (o : Nat),
    DataW.trod enc P w base spare held fuel t cs = some x → cellI64 P n t o = true → ∃ v, cs[o]? = some (.int .i64 v) ∧ (Lit.int .i64 v).wf = true := by
  induction n with
  | zero => intro fuel t cs x o _ h; simp [cellI64] at h
  | succ n ih =>
    intro fuel t cs x o hx h
    unfold cellI64 at h
    split at h
    · rename_i hu
      obtain ⟨v, rfl, _, hw⟩ := DataW.trod_int hu hx
      have h0 : o = 0 := by simpa using h
      subst h0
      exact ⟨v, rfl, hw⟩
    · rename_i fs hu
      obtain ⟨xs, m, rfl, _, hlen, hxl, hf⟩ := DataW.trod_struct hu hx
      rw [List.any_eq_true] at h
      obtain ⟨f, hmem, hc⟩ := h
      simp only [Bool.and_eq_true, decide_eq_true_eq] at hc
      obtain ⟨⟨h1, h2⟩, h3⟩ := hc
      obtain ⟨i, hi⟩ := List.mem_iff_getElem?.1 hmem
      have hi' : fs[i]? = some f := by simpa using hi
      have hlt : i < fs.size := (Array.getElem?_eq_some_iff.1 hi').1
      have hg := hf i f hi'
      rw [List.getElem?_eq_getElem (by omega)] at hg
      obtain ⟨v, hv, hw⟩ := ih _ _ _ _ _ hg h3
      refine ⟨v, ?_, hw⟩
      rw [List.getElem?_take_of_lt (by omega), List.getElem?_drop] at hv
      rw [← hv]
      congr 1
      omega
    · rename_i k e hu
      obtain ⟨xs, m, rfl, _, hlen, hxl, hf⟩ := DataW.trod_array hu hx
      simp only [Bool.and_eq_true, decide_eq_true_eq] at h
      obtain ⟨⟨h1, h2⟩, h3⟩ := h
      have hg := hf (o / P.cellsOf e) h2
      rw [List.getElem?_eq_getElem (by omega)] at hg
      obtain ⟨v, hv, hw⟩ := ih _ _ _ _ _ hg h3
      refine ⟨v, ?_, hw⟩
      rw [List.getElem?_take_of_lt (Nat.mod_lt _ h1), List.getElem?_drop] at hv
      rw [← hv]
      congr 1
      rw [Nat.mul_comm]
      exact (Nat.div_add_mod o (P.cellsOf e)).symm
    · cases h

def i64s (l : List Int) : Array Value := (l.map (Value.int .i64)).toArray

theorem i64_bd {v : Int} (h : (Lit.int .i64 v).wf = true) : -9223372036854775808 ≤ v ∧ v ≤ 9223372036854775807 := by
  simp only [Lit.wf, Bool.and_eq_true, decide_eq_true_eq] at h
  exact h

/-- The cells as a list of numbers. -/
theorem ints_of {w : World} {base : Nat} {spare : Nat → Bool} {held : Bool} {fuel n : Nat} {t : TypeId} {cs : List Value} {x : DataW H × List MemPlace} (h : DataW.trod enc P w base spare held fuel t cs = some x)
    (hall : ∀ o, o < cs.length → cellI64 P n t o = true) : ∃ l : List Int, cs = l.map (Value.int .i64) ∧ ∀ v ∈ l, -9223372036854775808 ≤ v ∧ v ≤ 9223372036854775807 := by
  have key : ∀ k, k ≤ cs.length → ∃ l : List Int, cs.take k = l.map (Value.int .i64) ∧ ∀ v ∈ l, -9223372036854775808 ≤ v ∧ v ≤ 9223372036854775807 := by
    intro k
    induction k with
    | zero => intro _; exact ⟨[], by simp, by simp⟩
    | succ k ih =>
      intro hk
      obtain ⟨l, hl, hb⟩ := ih (by omega)
      obtain ⟨v, hv, hw⟩ := cellI64_of n fuel t cs x k h (hall k (by omega))
      refine ⟨l ++ [v], ?_, ?_⟩
      · rw [List.take_add_one, hl, hv]; simp
      · intro u hu
        rcases List.mem_append.1 hu with hu | hu
        · exact hb u hu
        · have : u = v := by simpa using hu
          subst this; exact i64_bd hw
  obtain ⟨l, hl, hb⟩ := key cs.length (Nat.le_refl _)
  exact ⟨l, by rw [← hl, List.take_length], hb⟩

/-- An argument that is a struct or an array of numbers of the kind int, however deep. -/
theorem open_flat {w : World} {base b0 : Nat} {spare : Nat → Bool} {held : Bool} {r : Reach} {t : TypeId} {v : Value} {d : DataW H} {p : List MemPlace} (n : Nat)
    (hs : (match P.underlying t with | some (.struct _) | some (.array _ _) => true | _ => false) = true) (hall : (List.range (P.cellsOf t)).all (cellI64 P n t) = true)
    (hv : Value.okWide P w r b0 t v) (h : DataW.Trod enc P w base spare held t v d p) :
    ∃ l : List Int, v = .agg (i64s l) ∧ l.length = P.cellsOf t ∧ ∀ v ∈ l, -9223372036854775808 ≤ v ∧ v ≤ 9223372036854775807 := by
  have hcs : ∃ cs, v = .agg cs ∧ cs.size = P.cellsOf t := by
    unfold Value.okWide at hv
    split at hv <;> simp_all
    all_goals (obtain ⟨cs, h1, h2, _⟩ := hv; exact ⟨cs, h1, h2⟩)
  obtain ⟨cs, rfl, hsz⟩ := hcs
  obtain ⟨fuel, hf⟩ := h
  simp only [Value.cells] at hf
  rw [List.all_eq_true] at hall
  obtain ⟨l, hl, hb⟩ := ints_of (n := n) hf (fun o ho => hall o (by simp at ho ⊢; omega))
  refine ⟨l, ?_, ?_, hb⟩
  · unfold i64s; rw [← hl]
  · have := congrArg List.length hl
    simp at this
    omega

theorem list_two {α : Type} {l : List α} (h : l.length = 2) : ∃ a b, l = [a, b] := by
  match l, h with
  | [a, b], _ => exact ⟨a, b, rfl⟩
theorem list_three {α : Type} {l : List α} (h : l.length = 3) : ∃ a b c, l = [a, b, c] := by
  match l, h with
  | [a, b, c], _ => exact ⟨a, b, c, rfl⟩
theorem list_four {α : Type} {l : List α} (h : l.length = 4) : ∃ a b c d, l = [a, b, c, d] := by
  match l, h with
  | [a, b, c, d], _ => exact ⟨a, b, c, d, rfl⟩
theorem list_six {α : Type} {l : List α} (h : l.length = 6) : ∃ a b c d e f, l = [a, b, c, d, e, f] := by
  match l, h with
  | [a, b, c, d, e, f], _ => exact ⟨a, b, c, d, e, f, rfl⟩

/-- two numbers -/
theorem open_flat2 {w : World} {base b0 : Nat} {spare : Nat → Bool} {held : Bool} {r : Reach} {t : TypeId} {v : Value} {d : DataW H} {p : List MemPlace} (n : Nat)
    (hs : (match P.underlying t with | some (.struct _) | some (.array _ _) => true | _ => false) = true) (hall : (List.range (P.cellsOf t)).all (cellI64 P n t) = true) (hc : P.cellsOf t = 2)
    (hv : Value.okWide P w r b0 t v) (h : DataW.Trod enc P w base spare held t v d p) :
    ∃ x y : Int, v = .agg #[.int .i64 x, .int .i64 y] ∧ (-9223372036854775808 ≤ x ∧ x ≤ 9223372036854775807) ∧ (-9223372036854775808 ≤ y ∧ y ≤ 9223372036854775807) := by
  obtain ⟨l, rfl, hl, hb⟩ := open_flat n hs hall hv h
  obtain ⟨x, y, rfl⟩ := list_two (hl.trans hc)
  exact ⟨x, y, rfl, hb x (by simp), hb y (by simp)⟩
theorem open_flat3 {w : World} {base b0 : Nat} {spare : Nat → Bool} {held : Bool} {r : Reach} {t : TypeId} {v : Value} {d : DataW H} {p : List MemPlace} (n : Nat)
    (hs : (match P.underlying t with | some (.struct _) | some (.array _ _) => true | _ => false) = true) (hall : (List.range (P.cellsOf t)).all (cellI64 P n t) = true) (hc : P.cellsOf t = 3)
    (hv : Value.okWide P w r b0 t v) (h : DataW.Trod enc P w base spare held t v d p) :
    ∃ x y z : Int, v = .agg #[.int .i64 x, .int .i64 y, .int .i64 z] ∧ (-9223372036854775808 ≤ x ∧ x ≤ 9223372036854775807) ∧ (-9223372036854775808 ≤ y ∧ y ≤ 9223372036854775807) ∧ (-9223372036854775808 ≤ z ∧ z ≤ 9223372036854775807) := by
  obtain ⟨l, rfl, hl, hb⟩ := open_flat n hs hall hv h
  obtain ⟨x, y, z, rfl⟩ := list_three (hl.trans hc)
  exact ⟨x, y, z, rfl, hb x (by simp), hb y (by simp), hb z (by simp)⟩
theorem open_flat4 {w : World} {base b0 : Nat} {spare : Nat → Bool} {held : Bool} {r : Reach} {t : TypeId} {v : Value} {d : DataW H} {p : List MemPlace} (n : Nat)
    (hs : (match P.underlying t with | some (.struct _) | some (.array _ _) => true | _ => false) = true) (hall : (List.range (P.cellsOf t)).all (cellI64 P n t) = true) (hc : P.cellsOf t = 4)
    (hv : Value.okWide P w r b0 t v) (h : DataW.Trod enc P w base spare held t v d p) :
    ∃ x y z u : Int, v = .agg #[.int .i64 x, .int .i64 y, .int .i64 z, .int .i64 u] ∧ (-9223372036854775808 ≤ x ∧ x ≤ 9223372036854775807) ∧ (-9223372036854775808 ≤ y ∧ y ≤ 9223372036854775807) ∧
      (-9223372036854775808 ≤ z ∧ z ≤ 9223372036854775807) ∧ (-9223372036854775808 ≤ u ∧ u ≤ 9223372036854775807) := by
  obtain ⟨l, rfl, hl, hb⟩ := open_flat n hs hall hv h
  obtain ⟨x, y, z, u, rfl⟩ := list_four (hl.trans hc)
  exact ⟨x, y, z, u, rfl, hb x (by simp), hb y (by simp), hb z (by simp), hb u (by simp)⟩

/-- All arguments read as they did. -/
theorem trodAll_stays {W W' : World} {sp : Nat → Bool} (hl : laidOutB P = true) : ∀ (ts : List TypeId) (vs : List Value) (ds : List (DataW H)) (ps : List MemPlace),
    ts.all (fun t => P.readableRec t && decide (t < P.types.size)) = true → DataW.TrodAll enc P W 0 (fun _ => true) true ts vs ds ps → (∀ p ∈ ps, W.sameAt W' p) → (∀ p ∈ ps, sp p.block = true) →
    DataW.TrodAll enc P W' 0 sp true ts vs ds ps
  | [], _, _, _, _, h, _, _ => by
    obtain ⟨rfl, rfl, rfl⟩ := trodAll_nil h
    exact trodAll_mk0
  | t :: ts, _, _, _, hr, h, hs, hp => by
    obtain ⟨v, vs', d, ds', p, q, rfl, rfl, rfl, h0, h1⟩ := trodAll_cons h
    rw [List.all_cons, Bool.and_eq_true, Bool.and_eq_true, decide_eq_true_eq] at hr
    exact trodAll_cons_mk (WideElems.Trod_stays hl hr.1.1 hr.1.2 h0 (fun x hx => hs x (by simp [hx])) (fun x hx => hp x (by simp [hx])))
      (trodAll_stays hl ts vs' ds' q hr.2 h1 (fun x hx => hs x (by simp [hx])) (fun x hx => hp x (by simp [hx])))

theorem law_post {f : Func} {s : ChangeSpec} {apart fresh handsOn again : Bool} {W W' : World} {args : Array Value} {ds gs : List (DataW H)} {before : List MemPlace} {tb : TypeId}
    (hl : laidOutB P = true) (hres : f.resultTypes = #[tb]) (hub : P.underlying tb = some .bool) (hrd : f.params.toList.all (fun t => P.readableRec t && decide (t < P.types.size)) = true) (hv : s.vars = [])
    (hW : DataW.Whole enc P f.params.toList s.vars apart W args.toList ds gs before)
    (hfn : s.fn H (ds ++ gs) = { results := [.lit (.bool true)], args := ds }) (hb : Below W.heap.size W W') :
    s.post enc P f apart fresh handsOn again W args (.bool true) W' := by
  have hlt : ∀ p ∈ before, p.block < W.heap.size := fun p hp => hW.lt p hp
  have hW0 := hW
  obtain ⟨p, q, hA, hV, rfl, hz, hn⟩ := hW
  rw [hv] at hV
  obtain ⟨rfl, rfl⟩ := trodVars_none hV
  have hold : ∀ x ∈ p ++ [], (fun b => decide (b < W.heap.size)) x.block = true := fun x hx => by simpa using hlt x hx
  have hargs : ∀ sp : Nat → Bool, (∀ x ∈ p ++ [], sp x.block = true) → DataW.TrodAll enc P W' 0 sp true f.params.toList args.toList (s.fn H (ds ++ [])).args p := fun sp hsp => by
    rw [hfn]
    exact trodAll_stays hl _ _ _ _ hrd hA (fun x hx => hb.same (hlt x (by simpa using hx))) (fun x hx => hsp x (by simpa using hx))
  have hvars : ∀ sp : Nat → Bool, DataW.TrodVars enc P W' sp s.vars (s.fn H (ds ++ [])).vars [] := fun sp => by
    rw [hv, hfn]
    rfl
  have hresT : ∀ (b : Nat) (sp : Nat → Bool) (hd : Bool), DataW.TrodAll enc P W' b sp hd f.resultTypes.toList ((Value.bool true).resultList f.resultTypes.size) (s.fn H (ds ++ [])).results [] := fun b sp hd => by
    rw [hfn, hres]
    exact trodAll_cons_mk (shut_bool hub true) trodAll_mk0
  have hok := ok_one (P := P) (W' := W') (f := f) (v := .bool true) hres rfl (okWide_bool_mk hub true)
  refine ⟨ds, [], p ++ [], [], p, [], hW0, hresT _ _ _, hargs _ hold, hvars _, World.keptBut_mono (fun x hx => ⟨hx, ?_⟩) (hb.frame (· ∈ p ++ [])), fun _ => ?_⟩
  · exact Or.inr (by simpa using hx)
  · refine ⟨hok, _, _, ([] ++ p) ++ [], ⟨[] ++ p, [], trodAll_append (hargs _ (fun _ _ => rfl)) (hresT _ _ _), hvars _, rfl, ?_, ?_⟩, ?_⟩
    · intro b off hp
      have hin : MemPlace.cell b off ∈ p ++ [] := by simpa using hp
      rw [hb.frozen (hlt _ hin)]
      exact hz b off hin
    · intro ha
      have := hn ha
      simpa using this
    · intro x hx _
      simpa using hx
end
end Go.Proofs.YtohjifnkajhhnaaGreat.Frame
