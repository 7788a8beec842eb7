/- Plain facts on vectors. No program in sight. -/
import Derived.Test.YtohjifnkajhhnaaGreatFx
namespace Go.Proofs.YtohjifnkajhhnaaGreat.Vx
open Fx
def dot (a b c d : Int) : Int := sat (rd (sat a * sat c + sat b * sat d) 65536)
def cross (a b c d : Int) : Int := sat (rd (sat a * sat d - sat b * sat c) 65536)
def dist2 (a b c d : Int) : Int := (sat c - sat a) * (sat c - sat a) + (sat d - sat b) * (sat d - sat b)
def len (a b : Int) : Int := isq (sat a * sat a + sat b * sat b)
def norm (a b x : Int) : Int := if len a b = 0 then 0 else dv x (len a b)
def orientN (a b c d e f : Int) : Int := (sat c - sat a) * (sat f - sat b) - (sat d - sat b) * (sat e - sat a)
def sign (n : Int) : Int := if 0 < n then 1 else if n < 0 then -1 else 0
def orient (a b c d e f : Int) : Int := sign (orientN a b c d e f)
theorem sqd_bd (a b : Int) : 0 ≤ (sat b - sat a) * (sat b - sat a) ∧ (sat b - sat a) * (sat b - sat a) ≤ 1152921500311879684 := by
  have := sat_bd a
  have := sat_bd b
  exact ⟨sq_nonneg _, (mul_bd (A := 1073741822) (by omega) (by omega) (by omega) (by omega)).2⟩
theorem dif_bd (a b c d : Int) : -1152921500311879684 ≤ (sat b - sat a) * (sat d - sat c) ∧ (sat b - sat a) * (sat d - sat c) ≤ 1152921500311879684 := by
  have := sat_bd a
  have := sat_bd b
  have := sat_bd c
  have := sat_bd d
  exact mul_bd (A := 1073741822) (by omega) (by omega) (by omega) (by omega)
theorem len_dist2 (a b : Int) : len a b = isq (dist2 0 0 a b) := by
  unfold len dist2
  rw [show sat 0 = 0 by decide, Int.sub_zero, Int.sub_zero]
theorem orient_minmax (a b c d e f : Int) : (0 < orientN a b c d e f → orient a b c d e f = 1) ∧ (orientN a b c d e f < 0 → orient a b c d e f = -1) ∧ (orientN a b c d e f = 0 → orient a b c d e f = 0) := by
  unfold orient sign
  refine ⟨fun h => if_pos h, fun h => by rw [if_neg (by omega), if_pos h], fun h => by rw [if_neg (by omega), if_neg (by omega)]⟩
def rotx (c s x y : Int) : Int := sat (rd (sat c * sat x - sat s * sat y) 65536)
def roty (c s x y : Int) : Int := sat (rd (sat s * sat x + sat c * sat y) 65536)
def irotx (c s x y : Int) : Int := sat (rd (sat c * sat x + sat s * sat y) 65536)
def iroty (c s x y : Int) : Int := sat (rd (sat c * sat y - sat s * sat x) 65536)
end Go.Proofs.YtohjifnkajhhnaaGreat.Vx
