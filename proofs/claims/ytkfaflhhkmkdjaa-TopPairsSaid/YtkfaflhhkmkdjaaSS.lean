/- Contracts of slices.SortFunc at entries and at pairs. -/
import Derived.Test.YtkfaflhhkmkdjaaCs
import Derived.Test.YtkfaflhhkmkdjaaSA
import Derived.Test.YtkfaflhhkmkdjaaSL
import Derived.Test.YtkfaflhhkmkdjaaSN
namespace Go.Proofs.Ytkfaflhhkmkdjaa
open Go.RowKit Fx Vx Bx Ev
set_option linter.unusedVariables false
set_option linter.unusedSimpArgs false
/-- the order of entries: by the left side, then by the number -/
def cfE (x y : List Int) : Int := orK [[cmpI (x.getD 1 0) (y.getD 1 0)], [cmpI (x.getD 0 0) (y.getD 0 0)]] 2
def cfP (x y : List Int) : Int := orK [[cmpI (x.getD 0 0) (y.getD 0 0)], [cmpI (x.getD 1 0) (y.getD 1 0)]] 2
theorem orK_two (a b : Int) : orK [[a], [b]] 2 = if a = 0 then (if b = 0 then 0 else b) else a := by
  simp [orK, at2]
theorem lex_lt (a b c d : Int) : orK [[cmpI a b], [cmpI c d]] 2 < 0 ↔ a < b ∨ (a = b ∧ c < d) := by
  rw [orK_two]; unfold cmpI
  repeat' split
  all_goals omega
theorem swo_lex (f g : List Int → Int) (c : List Int → List Int → Int) (h : ∀ x y, c x y = orK [[cmpI (f x) (f y)], [cmpI (g x) (g y)]] 2) : Go.Sort.SWO (ltOf c) where
  irrefl x := by unfold ltOf; rw [h]; exact decide_eq_false (fun e => by rw [lex_lt] at e; omega)
  trans x y z h1 h2 := by
    unfold ltOf at *; rw [h] at *
    simp only [decide_eq_true_eq, lex_lt] at *; omega
  ntrans x y z h1 h2 := by
    unfold ltOf at *; rw [h] at *
    simp only [decide_eq_false_iff_not, lex_lt] at *; omega
theorem five (l : List Int) (h : l.length = 5) : ∃ a b c d e, l = [a, b, c, d, e] := by
  match l, h with
  | [a, b, c, d, e], _ => exact ⟨a, b, c, d, e, rfl⟩
theorem two (l : List Int) (h : l.length = 2) : ∃ a b, l = [a, b] := by
  match l, h with
  | [a, b], _ => exact ⟨a, b, rfl⟩
theorem h1K (k : Nat) (x : List Int) : ∀ v ∈ encK k x, v.oneCell' = true := by
  intro v hv
  simp only [encK, List.mem_map] at hv
  obtain ⟨a, _, rfl⟩ := hv
  rfl
theorem kept_drewN (w : World) (n : Nat) : Kept w.heap.size (fun _ => False) w (w.drewN n) := ⟨rfl, rfl, rfl, Nat.le_refl _, fun _ _ _ => rfl, Nat.le_add_right _ _⟩
theorem law_sortE : SortLaw Try.prog 31 32 5 cfE where
  swo := swo_lex (fun x => (norm 5 x).getD 1 0) (fun x => (norm 5 x).getD 0 0) _ (fun x y => rfl)
  at_row blk cap d w hH hblk hsz := by
    have eg : ∀ args w, (callFunc 32 args).run Try.prog w = .ok (.enter 32 args) w := enters_of Try.func32 (by kernel_rfl) rfl
    exact AnyQ.slices_SortFunc_eq sortE 5 Try.isAgg41 Try.sizeOf41 (encK 5) (encK_length 5) (h1K 5) (cfK cfE 5) (swo_lex (fun x => (norm 5 x).getD 1 0) (fun x => (norm 5 x).getD 0 0) _ (fun x y => rfl)) 32 #[] blk 0 cap d w eg
      (fun m os dk _ x y => lays_of_con con_sap_lessE (norm 5 x) (norm 5 y) (cfK cfE 5 x y) false (by
        obtain ⟨a, b, c, d, e, h1⟩ := five (norm 5 x) (norm_length 5 x)
        obtain ⟨a', b', c', d', e', h2⟩ := five (norm 5 y) (norm_length 5 y)
        unfold cfK; rw [h1, h2]; rfl) _) hH hblk hsz
  at_nil w := (nil_sort sortE 32 w).mono fun e w' h => by
    obtain ⟨rfl, n, rfl⟩ := h
    exact ⟨rfl, kept_drewN w n⟩
theorem law_sortP : SortLaw Try.prog 21 22 2 cfP where
  swo := swo_lex (fun x => (norm 2 x).getD 0 0) (fun x => (norm 2 x).getD 1 0) _ (fun x y => rfl)
  at_row blk cap d w hH hblk hsz := by
    have eg : ∀ args w, (callFunc 22 args).run Try.prog w = .ok (.enter 22 args) w := enters_of Try.func22 (by kernel_rfl) rfl
    exact AnyQ.slices_SortFunc_eq sortP 2 Try.isAgg50 Try.sizeOf50 (encK 2) (encK_length 2) (h1K 2) (cfK cfP 2) (swo_lex (fun x => (norm 2 x).getD 0 0) (fun x => (norm 2 x).getD 1 0) _ (fun x y => rfl)) 22 #[] blk 0 cap d w eg
      (fun m os dk _ x y => lays_of_con con_sap_lessP (norm 2 x) (norm 2 y) (cfK cfP 2 x y) false (by
        obtain ⟨a, b, h1⟩ := two (norm 2 x) (norm_length 2 x)
        obtain ⟨a', b', h2⟩ := two (norm 2 y) (norm_length 2 y)
        unfold cfK; rw [h1, h2]; rfl) _) hH hblk hsz
  at_nil w := (nil_sort sortP 22 w).mono fun e w' h => by
    obtain ⟨rfl, n, rfl⟩ := h
    exact ⟨rfl, kept_drewN w n⟩
def c_sortE : Con := ⟨31, sortRun 32 5 cfE⟩
theorem con_sortE : c_sortE.Ok Try.prog := con_sort ⟨_, Try.func31, rfl, by kernel_rfl⟩ law_sortE
def c_sortP : Con := ⟨21, sortRun 22 2 cfP⟩
theorem con_sortP : c_sortP.Ok Try.prog := con_sort ⟨_, Try.func21, rfl, by kernel_rfl⟩ law_sortP
end Go.Proofs.Ytkfaflhhkmkdjaa
