/- From the contract of a law to the walk of a law. -/
import Derived.Test.YtdoagjphjnbbnaaEvK
namespace Go.Proofs.Ytdoagjphjnbbnaa
open Go.RowKit Ev
theorem calls_con {P : Program} {f : FuncId} {sh : List Nat} {pre : List Int → List Prop} {g : List Int → SV} (h : Con.Ok P ⟨f, pureRun sh pre g⟩) (args : List SV) (l : List Int) (vs : List Value) (hf : flatA sh args = some l) (hp : ∀ p ∈ pre l, p) (hd : All2 (Den (fun _ => none)) args vs) (hg : g l = .bool true) (w : World) :
    Calls P f vs.toArray w (fun e w' => e = .returned (.bool true) ∧ Below w.heap.size w w') := by
  refine (h.run 0 args (fun _ => .dead) ⟨pre l, g l, [], []⟩ (by simp only [pureRun, hf]) hp (fun _ => none) w vs hd (fun _ => trivial) (fun i j p q _ h1 => by cases h1) (fun k hk => rfl) (fun id hid => by cases hid)).mono ?_
  rintro e w' ⟨v, m', rfl, _, hv, _, _, _, hk⟩
  rw [hg] at hv
  obtain rfl : v = .bool true := hv
  exact ⟨rfl, hk.below (fun k hb => by obtain ⟨id, hid, _⟩ := hb; cases hid)⟩
end Go.Proofs.Ytdoagjphjnbbnaa
