/- Plain facts on boxes (chapter 5). No program in sight. -/
import Derived.Test.YtohjifnkajhhnaaGreatVy
namespace Go.Proofs.YtohjifnkajhhnaaGreat.Bx
open Fx Vx
def satB (x y : Int) : Bool := (sat x == x) && (sat y == y)
def validB (a b c d : Int) : Bool := decide (a ≤ c) && decide (b ≤ d) && satB a b && satB c d
def overB (a b c d e f g h : Int) : Bool := decide (a ≤ g) && decide (e ≤ c) && decide (b ≤ h) && decide (f ≤ d)
def overlapsB (a b c d e f g h : Int) : Bool := validB a b c d && validB e f g h && overB a b c d e f g h
def inB (a b c d e f g h : Int) : Bool := decide (a ≤ e) && decide (b ≤ f) && decide (g ≤ c) && decide (h ≤ d)
def containsB (a b c d e f g h : Int) : Bool := validB a b c d && validB e f g h && inB a b c d e f g h
def hasB (a b c d x y : Int) : Bool := validB a b c d && (decide (a ≤ sat x) && decide (sat x ≤ c) && decide (b ≤ sat y) && decide (sat y ≤ d))
def uni (va vb : Bool) (m x y : Int) : Int := if va then (if vb then m else x) else (if vb then y else 0)
def grownB (a b c d m : Int) : Bool := validB (sub a m) (sub b m) (add c m) (add d m)
def exq (ok : Bool) (x : Int) : Int := if ok then x else 0
def halfP (a b c d : Int) : Int := if validB a b c d then add (sub c a) (sub d b) else 0
end Go.Proofs.YtohjifnkajhhnaaGreat.Bx
