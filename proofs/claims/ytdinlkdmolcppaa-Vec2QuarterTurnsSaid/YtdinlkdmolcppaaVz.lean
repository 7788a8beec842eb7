/- Plain facts on quarter turns. No program in sight. -/
import Derived.Test.YtdinlkdmolcppaaVy
namespace Go.Proofs.Ytdinlkdmolcppaa.Vx
open Fx
theorem rd_one {x : Int} (h : -536870911 ≤ x) (h' : x ≤ 536870911) : rd (x * 65536) 65536 = x := rd_exact (by omega) (by omega) (by omega) (by omega)
theorem turn_of {n x : Int} (hn : n = x * 65536) (h : -536870911 ≤ x) (h' : x ≤ 536870911) : sat (rd n 65536) = x := by rw [hn, rd_one h h', sat_id h h']
theorem s0 : sat 0 = 0 := by decide
theorem s1 : sat 65536 = 65536 := by decide
theorem s2 : sat (-65536) = -65536 := by decide
theorem rot0 (x y : Int) : rotx 65536 0 x y = sat x ∧ roty 65536 0 x y = sat y ∧ irotx 65536 0 (sat x) (sat y) = sat x ∧ iroty 65536 0 (sat x) (sat y) = sat y := by
  have := sat_bd x
  have := sat_bd y
  unfold rotx roty irotx iroty
  rw [s0, s1, sat_sat, sat_sat]
  refine ⟨turn_of (by omega) (by omega) (by omega), turn_of (by omega) (by omega) (by omega), turn_of (by omega) (by omega) (by omega), turn_of (by omega) (by omega) (by omega)⟩
theorem rot1 (x y : Int) : rotx 0 65536 x y = -sat y ∧ roty 0 65536 x y = sat x ∧ irotx 0 65536 (-sat y) (sat x) = sat x ∧ iroty 0 65536 (-sat y) (sat x) = sat y := by
  have := sat_bd x
  have := sat_bd y
  unfold rotx roty irotx iroty
  rw [s0, s1, sat_sat, sat_nsat]
  refine ⟨turn_of (by omega) (by omega) (by omega), turn_of (by omega) (by omega) (by omega), turn_of (by omega) (by omega) (by omega), turn_of (by omega) (by omega) (by omega)⟩
theorem rot2 (x y : Int) : rotx (-65536) 0 x y = -sat x ∧ roty (-65536) 0 x y = -sat y ∧ irotx (-65536) 0 (-sat x) (-sat y) = sat x ∧ iroty (-65536) 0 (-sat x) (-sat y) = sat y := by
  have := sat_bd x
  have := sat_bd y
  unfold rotx roty irotx iroty
  rw [s0, s2, sat_nsat, sat_nsat]
  refine ⟨turn_of (by omega) (by omega) (by omega), turn_of (by omega) (by omega) (by omega), turn_of (by omega) (by omega) (by omega), turn_of (by omega) (by omega) (by omega)⟩
theorem rot3 (x y : Int) : rotx 0 (-65536) x y = sat y ∧ roty 0 (-65536) x y = -sat x ∧ irotx 0 (-65536) (sat y) (-sat x) = sat x ∧ iroty 0 (-65536) (sat y) (-sat x) = sat y := by
  have := sat_bd x
  have := sat_bd y
  unfold rotx roty irotx iroty
  rw [s0, s2, sat_sat, sat_nsat]
  refine ⟨turn_of (by omega) (by omega) (by omega), turn_of (by omega) (by omega) (by omega), turn_of (by omega) (by omega) (by omega), turn_of (by omega) (by omega) (by omega)⟩
end Go.Proofs.Ytdinlkdmolcppaa.Vx
