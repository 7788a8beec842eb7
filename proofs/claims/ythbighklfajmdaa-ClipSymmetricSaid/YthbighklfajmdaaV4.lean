/- The walks of package vec2 and of its reference, continued: the functions that write their parameters anew. -/
import Derived.Test.YthbighklfajmdaaV3
namespace Go.Proofs.Ythbighklfajmdaa
open Go.RowKit Fx Vx

theorem vec2_product (n : Int) (w : World) : Calls Try.prog 65 #[.int .i64 n] w fun e w' => e = .returned (.int .i64 (sat (rd n 65536))) ∧ ∃ k, w' = w.drewN k := by
  go_enter Try.func65, Try.ntmps65
  go_wp2_with (first | (go_at_call 70; refine (fixed_Saturate _ _).mono ?_; rintro e w' ⟨rfl, rfl⟩) | (go_at_call 76; refine (fixed_RoundDiv _ _ _).mono ?_; rintro e w' ⟨rfl, nd, rfl⟩))
  go_ret
  exact ⟨rfl, _, rfl⟩

def TwoBox (w : World) (p q x y : Value) (wx : World) : Prop := Below w.heap.size w wx ∧ Box2 wx w.heap.size p q ∧ Box2 wx (w.heap.size + 1) x y
theorem two_start {w : World} (p q x y : Value) (t t' : TypeId) : Box2 ((w.alloc (.cells #[p, q] t)).alloc (.cells #[x, y] t')) w.heap.size p q ∧ Box2 ((w.alloc (.cells #[p, q] t)).alloc (.cells #[x, y] t')) (w.heap.size + 1) x y := by
  constructor <;> constructor <;> simp [go_sem]
theorem set_two {w wx : World} {t t' : TypeId} {p q x y p' q' x' y' : Value} (h : At (w.heap.size + 1 + 1) ((w.alloc (.cells #[p', q'] t)).alloc (.cells #[x', y'] t')) wx) :
    TwoBox w p q x y ((((wx.setCell ⟨w.heap.size, 0, none⟩ p).setCell ⟨w.heap.size, 1, none⟩ q).setCell ⟨w.heap.size + 1, 0, none⟩ x).setCell ⟨w.heap.size + 1, 1, none⟩ y) := by
  obtain ⟨h1, h2⟩ := two_start (w := w) p' q' x' y' t t'
  have h1 := h1.at h (by omega)
  have h2 := h2.at h (by omega)
  refine ⟨?_, (((h1.set p q).far x (by omega)).far y (by omega)), (((h2.far p (by omega)).far q (by omega)).set x y)⟩
  have hb := (((Below.refl w.heap.size w).alloc (Nat.le_refl _) (.cells #[p', q'] t)).alloc (by simp) (.cells #[x', y'] t')).trans (h.below.mono (by omega))
  exact (((hb.setCell (by simp) _).setCell (by simp) _).setCell (by simp) _).setCell (by simp) _
def ThreeBox (w : World) (p q x y u v : Value) (wx : World) : Prop := Below w.heap.size w wx ∧ Box2 wx w.heap.size p q ∧ Box2 wx (w.heap.size + 1) x y ∧ Box2 wx (w.heap.size + 1 + 1) u v
theorem three_start {w : World} (p q x y u v : Value) (t t' t'' : TypeId) :
    ThreeBox w p q x y u v (((w.alloc (.cells #[p, q] t)).alloc (.cells #[x, y] t')).alloc (.cells #[u, v] t'')) := by
  refine ⟨(((Below.refl _ _).alloc (by simp) _).alloc (by simp) _).alloc (by simp <;> omega) _, ?_, ?_, ?_⟩ <;> constructor <;> simp [go_sem]
theorem ThreeBox.at {w U wx : World} {p q x y u v : Value} (hU : ThreeBox w p q x y u v U) (h : At (w.heap.size + 1 + 1 + 1) U wx) : ThreeBox w p q x y u v wx :=
  ⟨hU.1.trans (h.below.mono (by omega)), hU.2.1.at h (by omega), hU.2.2.1.at h (by omega), hU.2.2.2.at h (by omega)⟩
theorem ThreeBox.set0 {w wx : World} {p q x y u v : Value} (p' q' : Value) (h : ThreeBox w p q x y u v wx) : ThreeBox w p' q' x y u v ((wx.setCell ⟨w.heap.size, 0, none⟩ p').setCell ⟨w.heap.size, 1, none⟩ q') :=
  ⟨(h.1.setCell (by simp) _).setCell (by simp) _, h.2.1.set p' q', (h.2.2.1.far p' (by omega)).far q' (by omega), (h.2.2.2.far p' (by omega)).far q' (by omega)⟩
theorem ThreeBox.set1 {w wx : World} {p q x y u v : Value} (p' q' : Value) (h : ThreeBox w p q x y u v wx) : ThreeBox w p q p' q' u v ((wx.setCell ⟨w.heap.size + 1, 0, none⟩ p').setCell ⟨w.heap.size + 1, 1, none⟩ q') :=
  ⟨(h.1.setCell (by simp) _).setCell (by simp) _, (h.2.1.far p' (by omega)).far q' (by omega), h.2.2.1.set p' q', (h.2.2.2.far p' (by omega)).far q' (by omega)⟩
theorem ThreeBox.set2 {w wx : World} {p q x y u v : Value} (p' q' : Value) (h : ThreeBox w p q x y u v wx) : ThreeBox w p q x y p' q' ((wx.setCell ⟨w.heap.size + 1 + 1, 0, none⟩ p').setCell ⟨w.heap.size + 1 + 1, 1, none⟩ q') :=
  ⟨(h.1.setCell (by simp <;> omega) _).setCell (by simp <;> omega) _, (h.2.1.far p' (by omega)).far q' (by omega), (h.2.2.1.far p' (by omega)).far q' (by omega), h.2.2.2.set p' q'⟩

set_option maxHeartbeats 1000000 in
theorem vec2_Dot (a b c d : Int) (w : World) : Calls Try.prog 41 #[.agg #[.int .i64 a, .int .i64 b], .agg #[.int .i64 c, .int .i64 d]] w (IntIs w.heap.size (dot a b c d) w) := by
  have a1 := satmul_lo a c
  have a2 := satmul_hi a c
  have b1 := satmul_lo b d
  have b2 := satmul_hi b d
  go_enter Try.func41, Try.ntmps41
  go_wp2_with fail
  have hB := At.refl ((w.alloc (.cells #[.int .i64 a, .int .i64 b] 24)).alloc (.cells #[.int .i64 c, .int .i64 d] 24))
  simp only [World.size_alloc] at hB
  go_cut [] (fun wx => TwoBox w (.int .i64 (sat a)) (.int .i64 (sat b)) (.int .i64 (sat c)) (.int .i64 (sat d)) wx)
  case first =>
    go_region_with (first | (go_at_call 64; refine (vec2_saturate _ _ _).mono ?_; rintro e w' ⟨rfl, hb⟩; obtain ⟨hB, hc, hf⟩ := at_next hb (by first | exact hB | exact hB.drew | exact hB.drewN _ | exact (hB.drewN _).drew | exact hB.drew.drewN _)))
    all_goals (go_wp2_with fail; go_meet; exact set_two hB)
  case rest =>
    obtain ⟨g1, ⟨c1, c2, _, _⟩, ⟨c3, c4, _, _⟩⟩ := hcut
    clear hB
    go_wp2_with (go_at_call 65; refine (vec2_product _ _).mono ?_; rintro e w' ⟨rfl, nd, rfl⟩)
    go_ret
    exact ⟨rfl, (by repeat (first | exact Below.refl _ _ | assumption | apply Below.drew | apply below_drewN | refine below_grow ?_ (by simp <;> omega) _ _ | refine Below.alloc ?_ (by simp <;> omega) _ | refine Below.setCell ?_ (by simp <;> omega) _))⟩
set_option maxHeartbeats 1000000 in
theorem vec2_DistanceSquared (a b c d : Int) (w : World) : Calls Try.prog 84 #[.agg #[.int .i64 a, .int .i64 b], .agg #[.int .i64 c, .int .i64 d]] w (IntIs w.heap.size (dist2 a b c d) w) := by
  have a1 := sat_lo a
  have a2 := sat_hi a
  have b1 := sat_lo b
  have b2 := sat_hi b
  have c1 := sat_lo c
  have c2 := sat_hi c
  have d1 := sat_lo d
  have d2 := sat_hi d
  have m1 := sqd_bd a c
  have m2 := sqd_bd b d
  obtain ⟨m3, m4⟩ := m1
  obtain ⟨m5, m6⟩ := m2
  go_enter Try.func84, Try.ntmps84
  go_wp2_with fail
  have hB := At.refl ((w.alloc (.cells #[.int .i64 a, .int .i64 b] 24)).alloc (.cells #[.int .i64 c, .int .i64 d] 24))
  simp only [World.size_alloc] at hB
  go_cut [] (fun wx => TwoBox w (.int .i64 (sat a)) (.int .i64 (sat b)) (.int .i64 (sat c)) (.int .i64 (sat d)) wx)
  case first =>
    go_region_with (first | (go_at_call 64; refine (vec2_saturate _ _ _).mono ?_; rintro e w' ⟨rfl, hb⟩; obtain ⟨hB, hc, hf⟩ := at_next hb (by first | exact hB | exact hB.drew | exact hB.drewN _ | exact (hB.drewN _).drew | exact hB.drew.drewN _)))
    all_goals (go_wp2_with fail; go_meet; exact set_two hB)
  case rest =>
    obtain ⟨g1, ⟨c1, c2, _, _⟩, ⟨c3, c4, _, _⟩⟩ := hcut
    clear hB
    go_wp2_with fail
    go_quiet (fail)
    go_wp2_with fail
    go_ret
    exact ⟨rfl, (by repeat (first | exact Below.refl _ _ | assumption | apply Below.drew | apply below_drewN | refine below_grow ?_ (by simp <;> omega) _ _ | refine Below.alloc ?_ (by simp <;> omega) _ | refine Below.setCell ?_ (by simp <;> omega) _))⟩
set_option maxHeartbeats 4000000 in
theorem vec2_Orientation (a b c d e f : Int) (w : World) : Calls Try.prog 54 #[.agg #[.int .i64 a, .int .i64 b], .agg #[.int .i64 c, .int .i64 d], .agg #[.int .i64 e, .int .i64 f]] w (IntIs w.heap.size (orient a b c d e f) w) := by
  obtain ⟨m1, m2⟩ := dif_bd a c b f
  obtain ⟨m3, m4⟩ := dif_bd b d a e
  have a1 := sat_lo a
  have a2 := sat_hi a
  have b1 := sat_lo b
  have b2 := sat_hi b
  have c1 := sat_lo c
  have c2 := sat_hi c
  have d1 := sat_lo d
  have d2 := sat_hi d
  have e1 := sat_lo e
  have e2 := sat_hi e
  have f1 := sat_lo f
  have f2 := sat_hi f
  go_enter Try.func54, Try.ntmps54
  go_wp2_with fail
  have hU := three_start (w := w) (.int .i64 a) (.int .i64 b) (.int .i64 c) (.int .i64 d) (.int .i64 e) (.int .i64 f) 24 24 24
  have hB := At.refl (((w.alloc (.cells #[.int .i64 a, .int .i64 b] 24)).alloc (.cells #[.int .i64 c, .int .i64 d] 24)).alloc (.cells #[.int .i64 e, .int .i64 f] 24))
  simp only [World.size_alloc] at hB
  go_cut [] (fun wx => ThreeBox w (.int .i64 (sat a)) (.int .i64 (sat b)) (.int .i64 (sat c)) (.int .i64 (sat d)) (.int .i64 (sat e)) (.int .i64 (sat f)) wx)
  case first =>
    go_region_with (first | (go_at_call 64; refine (vec2_saturate _ _ _).mono ?_; rintro e w' ⟨rfl, hb⟩; obtain ⟨hB, hc, hf⟩ := at_next hb (by first | exact hB | exact hB.drew | exact hB.drewN _ | exact (hB.drewN _).drew | exact hB.drew.drewN _)))
    all_goals (go_wp2_with fail; go_meet; exact (((hU.at hB).set0 _ _).set1 _ _).set2 _ _)
  case rest =>
    obtain ⟨g1, ⟨c1, c2, _, _⟩, ⟨c3, c4, _, _⟩, ⟨c5, c6, _, _⟩⟩ := hcut
    clear hB hU
    have hs := orient_minmax a b c d e f
    have H := Lib.hid hs
    clear hs
    go_wp2_with fail
    all_goals (go_ret; exact ⟨ret_int (by have := H.out; unfold orientN at this; omega), (by repeat (first | exact Below.refl _ _ | assumption | apply Below.drew | apply below_drewN | refine below_grow ?_ (by simp <;> omega) _ _ | refine Below.alloc ?_ (by simp <;> omega) _ | refine Below.setCell ?_ (by simp <;> omega) _))⟩)
theorem vec2_Length (a b : Int) (w : World) : Calls Try.prog 79 #[.agg #[.int .i64 a, .int .i64 b]] w (IntIs w.heap.size (len a b) w) := by
  have hl := len_dist2 a b
  have H := Lib.hid hl
  clear hl
  go_enter Try.func79, Try.ntmps79
  go_wp2_with (first | (go_at_call 84; refine (vec2_DistanceSquared _ _ _ _ _).mono ?_; rintro e w' ⟨rfl, hb⟩) | (go_at_call 83; refine (fixed_Isqrt _ _).mono ?_; rintro e w' ⟨rfl, rfl⟩))
  go_ret
  exact ⟨ret_int H.out.symm, (((Below.refl _ _).alloc (Nat.le_refl _) _).trans (hb.mono (by simp)))⟩
end Go.Proofs.Ythbighklfajmdaa

