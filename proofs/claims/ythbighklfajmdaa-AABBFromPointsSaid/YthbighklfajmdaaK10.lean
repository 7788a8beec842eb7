/- Contracts of package caromlaw05: the example. -/
import Derived.Test.YthbighklfajmdaaK9
namespace Go.Proofs.Ythbighklfajmdaa
open Go.RowKit Fx Vx Bx Ev
set_option linter.unusedVariables false
set_option linter.unusedSimpArgs false

def c_law05_example : Con := ⟨23, pureRun [] (fun _ => []) fun | [] => .bool true | _ => .any⟩
set_option maxRecDepth 100000 in
set_option maxHeartbeats 1000000 in
theorem con_law05_example : c_law05_example.Ok Try.prog := by
  refine con_pure (C := [c_aabb_FromPoints, c_aabb_Valid, c_aabb_HalfPerimeter, c_aabb_IntersectsSegment]) (pl := []) Try.func23 rfl (by kernel_rfl) T_ok (Cons.cons con_aabb_FromPoints (Cons.cons con_aabb_Valid (Cons.cons con_aabb_HalfPerimeter (Cons.cons con_aabb_IntersectsSegment (Cons.nil _))))) mixed (by kernel_rfl) _ _ _ (fun l hl hpre => ?_)
  match l, hl with
  | [], _ =>
    repeat' (first | (with_reducible refine And.intro ?_ ?_) | (with_reducible intro h) | ((fail_if_success (with_reducible refine Leaf.mk ?_)); (fail_if_success (with_reducible refine VC.mk ?_)); (fail_if_success (with_reducible refine Goes.mk ?_)); (fail_if_success (with_reducible refine Again.mk ?_)); (fail_if_success (with_reducible refine Rounds.mk ?_)); (fail_if_success (with_reducible show False)); (fail_if_success (with_reducible show True)); conv => whnf))
    all_goals first | exact trivial | exact ⟨by decide +kernel⟩ | (exfalso; revert ‹_ = false›; decide +kernel) | (simp_all; done)

theorem calls_con {P : Program} {f : FuncId} {sh : List Nat} {pre : List Int → List Prop} {g : List Int → SV} (h : Con.Ok P ⟨f, pureRun sh pre g⟩) (args : List SV) (l : List Int) (vs : List Value) (hf : flatA sh args = some l) (hp : ∀ p ∈ pre l, p) (hd : All2 (Den (fun _ => none)) args vs) (hg : g l = .bool true) (w : World) :
    Calls P f vs.toArray w (fun e w' => e = .returned (.bool true) ∧ Below w.heap.size w w') := by
  refine (h.run 0 args (fun _ => .dead) ⟨pre l, g l, [], []⟩ (by simp only [pureRun, hf]) hp (fun _ => none) w vs hd (fun _ => trivial) (fun i j p q _ h1 => by cases h1) (fun k hk => rfl) (fun id hid => by cases hid)).mono ?_
  rintro e w' ⟨v, m', rfl, _, hv, _, _, _, hk⟩
  rw [hg] at hv
  obtain rfl : v = .bool true := hv
  exact ⟨rfl, hk.below (fun k hb => by obtain ⟨id, hid, _⟩ := hb; cases hid)⟩
end Go.Proofs.Ythbighklfajmdaa
