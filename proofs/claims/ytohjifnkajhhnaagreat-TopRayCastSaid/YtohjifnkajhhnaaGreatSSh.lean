/- Contract of slices.SortFunc at hits of a ray. -/
import Derived.Test.YtohjifnkajhhnaaGreatCs
import Derived.Test.YtohjifnkajhhnaaGreatR1
import Derived.Test.YtohjifnkajhhnaaGreatSLh
import Derived.Test.YtohjifnkajhhnaaGreatSN
namespace Go.Proofs.YtohjifnkajhhnaaGreat
open Go.RowKit Fx Vx Bx Ev
set_option linter.unusedVariables false
set_option linter.unusedSimpArgs false
/-- the order of hits: by the fraction, then by the body's number, then by the fixture's -/
def cfH (x y : List Int) : Int := hitC (x.getD 0 0) (x.getD 1 0) (x.getD 2 0) (y.getD 0 0) (y.getD 1 0) (y.getD 2 0)
theorem orK_three (a b c : Int) : orK [[a], [b], [c]] 3 = if a = 0 then (if b = 0 then (if c = 0 then 0 else c) else b) else a := by
  simp [orK, at2]
theorem hitC_lt (a b c e f g : Int) : hitC a b c e f g < 0 ↔ c < g ∨ (c = g ∧ (a < e ∨ (a = e ∧ b < f))) := by
  unfold hitC
  rw [orK_three]; unfold cmpI
  repeat' split
  all_goals omega
theorem swo_hit : Go.Sort.SWO (ltOf (cfK cfH 7)) where
  irrefl x := by unfold ltOf cfK cfH; exact decide_eq_false (fun e => by rw [hitC_lt] at e; omega)
  trans x y z h1 h2 := by
    unfold ltOf cfK cfH at *
    simp only [decide_eq_true_eq, hitC_lt] at *; omega
  ntrans x y z h1 h2 := by
    unfold ltOf cfK cfH at *
    simp only [decide_eq_false_iff_not, hitC_lt] at *; omega
theorem seven (l : List Int) (h : l.length = 7) : ∃ a b c d e f g, l = [a, b, c, d, e, f, g] := by
  match l, h with
  | [a, b, c, d, e, f, g], _ => exact ⟨a, b, c, d, e, f, g, rfl⟩
theorem h1H (k : Nat) (x : List Int) : ∀ v ∈ encK k x, v.oneCell' = true := by
  intro v hv
  simp only [encK, List.mem_map] at hv
  obtain ⟨a, _, rfl⟩ := hv
  rfl
theorem kept_drewH (w : World) (n : Nat) : Kept w.heap.size (fun _ => False) w (w.drewN n) := ⟨rfl, rfl, rfl, Nat.le_refl _, fun _ _ _ => rfl, Nat.le_add_right _ _⟩
set_option maxRecDepth 100000 in
theorem law_sortH : SortLaw Tryz.prog 31 24 7 cfH where
  swo := swo_hit
  at_row blk cap d w hH hblk hsz := by
    have eg : ∀ args w, (callFunc 24 args).run Tryz.prog w = .ok (.enter 24 args) w := enters_of Tryz.func24 (by kernel_rfl) rfl
    exact AnyQ.slices_SortFunc_eq sortH 7 Tryz.isAgg35 Tryz.sizeOf35 (encK 7) (encK_length 7) (h1H 7) (cfK cfH 7) swo_hit 24 #[] blk 0 cap d w eg
      (fun m os dk _ x y => lays_of_con con_query_compare (norm 7 x) (norm 7 y) (cfK cfH 7 x y) false (by
        obtain ⟨a, b, c, d, e, f, g, h1⟩ := seven (norm 7 x) (norm_length 7 x)
        obtain ⟨a', b', c', d', e', f', g', h2⟩ := seven (norm 7 y) (norm_length 7 y)
        unfold cfK; rw [h1, h2]; rfl) _) hH hblk hsz
  at_nil w := (nil_sort sortH 24 w).mono fun e w' h => by
    obtain ⟨rfl, n, rfl⟩ := h
    exact ⟨rfl, kept_drewH w n⟩
def c_sortH : Con := ⟨31, sortRun 24 7 cfH⟩
set_option maxRecDepth 100000 in
theorem con_sortH : c_sortH.Ok Tryz.prog := con_sort ⟨_, Tryz.func31, rfl, by kernel_rfl⟩ law_sortH
end Go.Proofs.YtohjifnkajhhnaaGreat
