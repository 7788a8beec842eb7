/- The example of caromlaw11. -/
import Derived.Test.YtbichdbapkpjpaaG5
import Derived.Test.YtbichdbapkpjpaaKc
namespace Go.Proofs.Ytbichdbapkpjpaa
open Go.RowKit Fx Vx Bx Ev
set_option linter.unusedVariables false
set_option linter.unusedSimpArgs false

theorem wf_nil (e : Nat) : wf e [] := fun x hx => by cases hx
def sqr : List (List Int) := [[0, 0], [65536, 0], [65536, 65536], [0, 65536]]
theorem isq_one : isq 4294967296 = 65536 := isq_lit (by decide) (by decide) (by decide) (by decide) (by decide)
def edQ (xs : List (List Int)) (k : Nat) : Int := sat (sub (at2 xs ((k + 1) % xs.length) 0) (at2 xs k 0)) * sat (sub (at2 xs ((k + 1) % xs.length) 0) (at2 xs k 0)) + sat (sub (at2 xs ((k + 1) % xs.length) 1) (at2 xs k 1)) * sat (sub (at2 xs ((k + 1) % xs.length) 1) (at2 xs k 1))
theorem edL_q (xs : List (List Int)) (k : Nat) : edL xs k = isq (edQ xs k) := rfl
theorem ed_sq : ∀ k, k < 4 → edL sqr k = 65536
  | 0, _ => by rw [edL_q, show edQ sqr 0 = 4294967296 from by decide +kernel]; exact isq_one
  | 1, _ => by rw [edL_q, show edQ sqr 1 = 4294967296 from by decide +kernel]; exact isq_one
  | 2, _ => by rw [edL_q, show edQ sqr 2 = 4294967296 from by decide +kernel]; exact isq_one
  | 3, _ => by rw [edL_q, show edQ sqr 3 = 4294967296 from by decide +kernel]; exact isq_one
theorem sh_sq : shX [[0, 0], [65536, 0], [65536, 65536], [0, 65536]] = 65536 := by
  show shX sqr = 65536
  unfold shX
  rw [if_pos (by decide +kernel)]
  show shN sqr 4 = 65536
  rw [shN_s, shN_s, shN_s, shN_s, ed_sq 0 (by decide), ed_sq 1 (by decide), ed_sq 2 (by decide), ed_sq 3 (by decide)]
  decide
theorem sdR_wf (xs : List (List Int)) : wf 2 (sdR xs) := rws_wf _
theorem wf_app {e : Nat} {a b : List (List Int)} (ha : wf e a) (hb : wf e b) : wf e (a ++ b) := fun x hx => by
  rcases List.mem_append.1 hx with h | h
  · exact ha x h
  · exact hb x h
theorem wf_take {e : Nat} {a : List (List Int)} (ha : wf e a) (n : Nat) : wf e (a.take n) := fun x hx => ha x (List.mem_of_mem_take hx)
theorem extR_wf {xs : List (List Int)} (h : wf 2 xs) (k : Nat) (x y : Int) : wf 2 (extR xs k x y) := wf_app (wf_take h _) (fun r hr => by simp at hr; subst hr; rfl)
theorem loR_wf (ls : List (List Int)) : ∀ k, wf 2 (loR ls k)
  | 0 => wf_nil 2
  | k + 1 => extR_wf (loR_wf ls k) _ _ _
theorem hiR_wf (ls : List (List Int)) (n : Nat) : ∀ j, wf 2 (hiR ls n j)
  | 0 => loR_wf ls n
  | j + 1 => extR_wf (hiR_wf ls n j) _ _ _
theorem hullR_wf (xs : List (List Int)) : wf 2 (hullR xs) := by
  unfold hullR
  split
  · split
    · exact sdR_wf xs
    · unfold chainR; rw [List.dropLast_eq_take]; exact wf_take (hiR_wf _ _ _) _
  · exact wf_nil 2
theorem hullR_len (xs : List (List Int)) : (hullR xs).length ≤ 200 := by
  unfold hullR
  split
  · rename_i h
    have hl := hullOk_iff.1 h
    have sl := sdR_len xs
    split
    · omega
    · have := hiR_len (sdR xs) (sdR xs).length (by omega) ((sdR xs).length - 1)
      unfold chainR
      rw [List.length_dropLast]
      omega
  · simp
def c_law11_example : Con := ⟨9, pureRun [] (fun _ => []) fun | [] => .bool true | _ => .any⟩
set_option maxRecDepth 100000 in
set_option maxHeartbeats 1000000 in
theorem con_law11_example : c_law11_example.Ok Try.prog := by
  refine con_pure (C := [c_polygon_IsConvex, c_polygon_Area, c_polygon_Centroid, c_polygon_ShortestEdge, c_polygon_Contains, c_polygon_Support, c_ref11_EqualPoints, c_polygon_ConvexHull, c_law11_square]) (pl := [(2, [0, 1, 2, 3, 4, 5, 6, 7, 8, 9, 10, 11, 12, 13, 14, 15, 16, 17, 18, 19, 20, 21, 22, 23, 24, 25, 26, 27, 28, 29, 30, 31, 32, 33, 34, 35, 36, 37, 38, 39, 40, 41, 42, 43, 44, 45, 46, 47, 48, 49, 50, 51, 52, 53, 54], [0, 1, 3, 7, 15, 31, 63, 127, 255, 511, 255, 2047, 4095, 8191, 16383, 32767, 65535, 131071, 262143, 524287, 524287, 2097151, 4194303, 8388607, 16777215, 16777215, 67108863, 134217727, 268435455, 536870911, 1073741823, 1073741823, 4294967295, 8589934591, 17179869183, 34359738367, 68719476735, 137438953471, 274877906943, 68719476735, 618475290623, 1717986918399, 68719476735, 68719476735, 8864812498943, 26456998543359, 68719476735, 70437463654399, 211174952009727, 562949953421311, 1125899906842623, 68719476735, 4503599627370495, 9007199254740991, 18014398509481983])]) Try.func9 rfl (by kernel_rfl) T_ok (Cons.cons con_polygon_IsConvex (Cons.cons con_polygon_Area (Cons.cons con_polygon_Centroid (Cons.cons con_polygon_ShortestEdge (Cons.cons con_polygon_Contains (Cons.cons con_polygon_Support (Cons.cons con_ref11_EqualPoints (Cons.cons con_polygon_ConvexHull (Cons.cons con_law11_square (Cons.nil _)))))))))) mixed (by kernel_rfl) _ _ _ (fun l hl hpre => ?_)
  match l, hl with
  | [], _ =>
    repeat' (first | (with_reducible refine And.intro ?_ ?_) | (with_reducible intro h) | ((fail_if_success (with_reducible refine Leaf.mk ?_)); (fail_if_success (with_reducible refine VC.mk ?_)); (fail_if_success (with_reducible refine Goes.mk ?_)); (fail_if_success (with_reducible refine Again.mk ?_)); (fail_if_success (with_reducible refine Rounds.mk ?_)); (fail_if_success (with_reducible show False)); (fail_if_success (with_reducible show True)); conv => whnf))
    all_goals try exact trivial
    all_goals try (refine VC.mk ?_; first | decide | (simp [wf]; done) | (simp; done) | decide +kernel | exact hullR_wf _ | exact wf_take (hullR_wf _) _)
    all_goals try simp only [sh_sq] at *
    all_goals first | exact trivial | exact ⟨by decide +kernel⟩ | (exfalso; revert ‹_ = false›; decide +kernel) | (refine Leaf.mk ?_; have hh := sh_sq; simp_all; done) | (refine Leaf.mk ?_; simp_all; done)

end Go.Proofs.Ytbichdbapkpjpaa
