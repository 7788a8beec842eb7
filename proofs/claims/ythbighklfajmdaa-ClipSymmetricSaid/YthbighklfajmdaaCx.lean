/- Plain facts on clipping (chapter 15). No program in sight. -/
import Derived.Test.YthbighklfajmdaaVy
namespace Go.Proofs.Ythbighklfajmdaa.Cx
open Fx Vx
/-- the distance of a point from the boundary -/
def far (x y ox oy nx ny : Int) : Int := dot nx ny (sub x ox) (sub y oy)
theorem far_bd (x y ox oy nx ny : Int) : -536870911 ≤ far x y ox oy nx ny ∧ far x y ox oy nx ny ≤ 536870911 := dot_bd _ _ _ _
/-- a coordinate moved along the segment -/
def cut (x u d e : Int) : Int := lerp x u (ratio d (d - e))
def keep (x u d e : Int) : Int := if 0 < d then cut x u d e else x
end Go.Proofs.Ythbighklfajmdaa.Cx
