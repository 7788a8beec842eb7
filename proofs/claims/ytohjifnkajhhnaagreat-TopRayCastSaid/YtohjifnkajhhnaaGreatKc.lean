/- From the contract of a law to the walk of a law. -/
import Derived.Test.YtohjifnkajhhnaaGreatEC
namespace Go.Proofs.YtohjifnkajhhnaaGreat
open Go.RowKit Ev
theorem calls_con {P : Program} {f : FuncId} {sh : List Nat} {pre : List Int → List Prop} {g : List Int → SV} (h : Con.Ok P ⟨f, pureRun sh pre g⟩) (args : List SV) (l : List Int) (vs : List Value) (hf : flatA sh args = some l) (hp : ∀ p ∈ pre l, p) (hd : All2 (Den Ev.Map.none') args vs) (hg : g l = .bool true) (w : World) :
    Calls P f vs.toArray w (fun e w' => e = .returned (.bool true) ∧ Below w.heap.size w w') := by
  refine (h.run 0 args (fun _ => .dead) ⟨pre l, g l, [], [], [], false⟩ (by simp only [pureRun, hf]) hp Ev.Map.none' w vs hd (fun _ => trivial) (fun i j p q _ h1 => by cases h1) (fun k hk => rfl) rfl (fun _ _ _ _ _ _ _ h => by cases h) (fun _ _ _ h => by cases h) (COk.no (fun s s' H H' h => by cases h))).mono ?_
  rintro e w' ⟨v, m', rfl, _, hv, _, _, _, hk, _⟩
  rw [hg] at hv
  obtain rfl : v = .bool true := hv
  exact ⟨rfl, hk.below (fun k hb => by
    rcases hb with ⟨id, hid, _⟩ | ⟨id, hid, _⟩ | ⟨h, _⟩
    · cases hid
    · cases hid
    · cases h)⟩
end Go.Proofs.YtohjifnkajhhnaaGreat
