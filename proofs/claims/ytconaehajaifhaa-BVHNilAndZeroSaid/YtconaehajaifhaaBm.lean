/- A tree that is copied, in plain Lean. No program in sight. -/
import Derived.Test.YtconaehajaifhaaBl
namespace Go.Proofs.Ytconaehajaifhaa
open Fx Vx Bx Ev
set_option linter.unusedVariables false
set_option linter.unusedSimpArgs false

namespace BT
def sz : BT → Nat
  | lf _ => 1
  | nd _ l r => 1 + l.sz + r.sz
/-- The copy, laid behind b nodes. -/
def cp (b : Nat) : BT → BT
  | lf x => lf { x with p := b + 1 }
  | nd _ l r => nd (b + 1) (l.cp (b + 1)) (r.cp (b + 1 + l.sz))
theorem cp_root (b : Nat) (T : BT) : (T.cp b).root = b + 1 := by cases T <;> rfl
theorem cp_ht : ∀ (T : BT) (b : Nat), (T.cp b).ht = T.ht
  | lf _, _ => rfl
  | nd _ l r, b => by simp only [cp, ht, cp_ht l, cp_ht r]
theorem cp_x0 : ∀ (T : BT) (b : Nat), (T.cp b).x0 = T.x0
  | lf _, _ => rfl
  | nd _ l r, b => by simp only [cp, x0, cp_x0 l, cp_x0 r]
theorem cp_x1 : ∀ (T : BT) (b : Nat), (T.cp b).x1 = T.x1
  | lf _, _ => rfl
  | nd _ l r, b => by simp only [cp, x1, cp_x1 l, cp_x1 r]
theorem cp_x2 : ∀ (T : BT) (b : Nat), (T.cp b).x2 = T.x2
  | lf _, _ => rfl
  | nd _ l r, b => by simp only [cp, x2, cp_x2 l, cp_x2 r]
theorem cp_x3 : ∀ (T : BT) (b : Nat), (T.cp b).x3 = T.x3
  | lf _, _ => rfl
  | nd _ l r, b => by simp only [cp, x3, cp_x3 l, cp_x3 r]
theorem cp_bal : ∀ (T : BT) (b : Nat), T.bal → (T.cp b).bal
  | lf _, _, _ => trivial
  | nd _ l r, b, h => by
    obtain ⟨h1, h2, h3, h4⟩ := h
    exact ⟨cp_bal l _ h1, cp_bal r _ h2, by rw [cp_ht, cp_ht]; exact h3, by rw [cp_ht, cp_ht]; exact h4⟩
theorem cp_en : ∀ (T : BT) (b : Nat), (T.cp b).lvs.map Lv.en = T.lvs.map Lv.en
  | lf _, _ => rfl
  | nd _ l r, b => by simp only [cp, lvs, List.map_append, cp_en l, cp_en r]
theorem cp_val {T : BT} (b : Nat) (h : T.val) : (T.cp b).val := fun x hx => by
  have h1 : x.en ∈ (T.cp b).lvs.map Lv.en := List.mem_map.2 ⟨x, hx, rfl⟩
  rw [cp_en] at h1
  obtain ⟨y, hy, e⟩ := List.mem_map.1 h1
  have := h y hy
  simp only [Lv.en, En.mk.injEq] at e
  obtain ⟨_, e1, e2, e3, e4⟩ := e
  rw [← e1, ← e2, ← e3, ← e4]
  exact this
theorem cp_fp : ∀ (T : BT) (b : Nat), (∀ p ∈ (T.cp b).fp, b < p ∧ p ≤ b + T.sz) ∧ (T.cp b).fp.Nodup
  | lf _, b => by simp [cp, fp, sz]
  | nd _ l r, b => by
    obtain ⟨l1, l2⟩ := cp_fp l (b + 1)
    obtain ⟨r1, r2⟩ := cp_fp r (b + 1 + l.sz)
    simp only [cp, fp, sz]
    refine ⟨fun p hp => ?_, List.nodup_cons.2 ⟨fun h => ?_, List.nodup_append.2 ⟨l2, r2, fun x hx y hy e => ?_⟩⟩⟩
    · rcases List.mem_cons.1 hp with rfl | hp
      · omega
      · rcases List.mem_append.1 hp with hp | hp
        · have := l1 p hp; omega
        · have := r1 p hp; omega
    · rcases List.mem_append.1 h with hp | hp
      · have := l1 _ hp; omega
      · have := r1 _ hp; omega
    · have := l1 x hx
      have := r1 y hy
      omega
end BT

theorem cloOK_0 (k : Nat) (nd : List Nd) : cloOK (k + 1) nd 0 = true := by simp only [cloOK, decide_true, Bool.true_or]
structure ClR (k : Nat) (nd : List Nd) (T : BT) : Prop where
  ok : cloOK k nd T.root = true
  len : (cloN k nd T.root).length = nd.length + T.sz
  ag : Ag nd (cloN k nd T.root) (fun _ => False)
  sh : Sh (cloN k nd T.root) 0 (T.cp nd.length)
theorem ag_app (nd : List Nd) (x : Nd) : Ag nd (nd ++ [x]) (fun _ => False) := ⟨by simp, fun q h1 h2 _ => getN_app _ h1 h2⟩
theorem clo_ok : ∀ (T : BT) (k : Nat) (nd : List Nd) (q : Nat), Sh nd q T → T.ht ≤ k → ClR k nd T
  | .lf x, 0, nd, q, h, hk => absurd hk (by simp [BT.ht])
  | .lf x, k + 1, nd, q, h, hk => by
    obtain ⟨h1, h2⟩ := h
    have hn : decide (x.p = 0) = false := by simp; omega
    have hl : decide ((getN nd x.p).l = 0) = true := by rw [h2]; rfl
    have e := (clo_1 (k := k) (nd := nd) (mi := 0) (mp := []) hn hl).1
    have ec : clN nd x.p = ⟨x.a, x.b, x.c, x.d, 0, 0, 0, 1, x.id⟩ := by simp only [clN, h2]
    refine ⟨?_, ?_, ?_, ?_⟩
    · show cloOK (k + 1) nd x.p = true
      have hl' : (getN nd x.p).l = 0 := by simpa using hl
      simp only [cloOK, Bool.or_eq_true, Bool.and_eq_true, okN_iff, hl, hl', true_or, and_true, Nat.ble_eq]
      exact Or.inr ⟨h1, Nat.zero_le _, Or.inl (by simp)⟩
    · show (cloN (k + 1) nd x.p).length = _
      rw [e]; simp [BT.sz]
    · show Ag nd (cloN (k + 1) nd x.p) _
      rw [e]; exact ag_app nd _
    · show Sh (cloN (k + 1) nd x.p) 0 _
      rw [e]
      exact ⟨⟨Nat.succ_pos _, by simp⟩, by rw [getN_new, ec]⟩
  | .nd p l r, 0, nd, q, h, hk => absurd hk (by simp [BT.ht])
  | .nd p l r, k + 1, nd, q, h, hk => by
    obtain ⟨h1, ⟨i, h2⟩, h3, h4⟩ := h
    simp only [BT.ht] at hk
    have hlr := h3.top.1
    have hrr := h4.top.1
    have el : (getN nd p).l = l.root := by rw [h2]
    have er : (getN nd p).r = r.root := by rw [h2]
    have hn : decide (p = 0) = false := by simp; omega
    have hl : decide ((getN nd p).l = 0) = false := by rw [el]; simp; omega
    have e := (clo_2 (k := k) (nd := nd) (mi := 0) (mp := []) hn hl).1
    rw [el, er] at e
    have ec : clN nd p = ⟨(BT.nd p l r).x0, (BT.nd p l r).x1, (BT.nd p l r).x2, (BT.nd p l r).x3, 0, 0, 0, ((BT.nd p l r).ht : Int), i⟩ := by simp only [clN, h2]
    have a1 := ag_app nd (clN nd p)
    have len1 : (nd ++ [clN nd p]).length = nd.length + 1 := by simp
    have hm1 := getN_new nd (clN nd p)
    generalize hnd1 : nd ++ [clN nd p] = nd1 at *
    obtain ⟨i1, i2, i3, i4⟩ := clo_ok l k nd1 p (h3.ag a1 fun _ _ h => h) (by omega)
    have pl : cloP nd1 l.root = nd.length + 2 := by rw [cloP_pos (by omega)]; omega
    rw [pl] at e
    generalize hnd2 : cloN k nd1 l.root = nd2 at *
    have sr2 : Sh nd2 p r := (h4.ag a1 fun _ _ h => h).ag i3 fun _ _ h => h
    obtain ⟨j1, j2, j3, j4⟩ := clo_ok r k nd2 p sr2 (by omega)
    have pr : cloP nd2 r.root = nd.length + 2 + l.sz := by rw [cloP_pos (by omega)]; omega
    rw [pr] at e
    have okk : cloOK (k + 1) nd p = true := by
      simp only [cloOK, Bool.or_eq_true, Bool.and_eq_true, okN_iff, Nat.ble_eq]
      rw [hnd1, el, er, hnd2]
      exact Or.inr ⟨h1, by omega, Or.inr ⟨hrr, i1, j1⟩⟩
    generalize hnd3 : cloN k nd2 r.root = nd3 at *
    rw [len1] at i2 i4
    have lenN3 : nd3.length = nd.length + 1 + l.sz + r.sz := by omega
    have hx1 := BT.cp_fp l (nd.length + 1)
    have hy1 := BT.cp_fp r nd2.length
    rw [i2] at hy1 j4
    have szl : 0 < l.sz := by cases l <;> simp [BT.sz] <;> omega
    have szr : 0 < r.sz := by cases r <;> simp [BT.sz] <;> omega
    have sX : Sh nd3 0 (l.cp (nd.length + 1)) := i4.ag j3 fun _ _ h => h
    have rX := BT.cp_root (nd.length + 1) l
    have rY := BT.cp_root (nd.length + 1 + l.sz) r
    generalize hX : l.cp (nd.length + 1) = X at *
    generalize hY : r.cp (nd.length + 1 + l.sz) = Y at *
    -- the four writes
    have g4 : Ag nd3 (wR (wL nd3 (nd.length + 1) (nd.length + 2)) (nd.length + 1) (nd.length + 2 + l.sz)) (· = nd.length + 1) :=
      (Ag.set nd3 (Nat.succ_pos _) _).trans (Ag.set _ (Nat.succ_pos _) _) (fun _ _ h => h) (fun _ _ h => h)
    have len5 : (wR (wL nd3 (nd.length + 1) (nd.length + 2)) (nd.length + 1) (nd.length + 2 + l.sz)).length = nd3.length := by rw [len_wR, len_wL]
    have m5 : getN (wR (wL nd3 (nd.length + 1) (nd.length + 2)) (nd.length + 1) (nd.length + 2 + l.sz)) (nd.length + 1) = ⟨(BT.nd p l r).x0, (BT.nd p l r).x1, (BT.nd p l r).x2, (BT.nd p l r).x3, 0, nd.length + 2, nd.length + 2 + l.sz, ((BT.nd p l r).ht : Int), i⟩ := by
      have m3 : getN nd3 (nd.length + 1) = clN nd p := by rw [j3.eq _ (Nat.succ_pos _) (by omega) (fun h => h), i3.eq _ (Nat.succ_pos _) (by omega) (fun h => h), hm1]
      have m4 : getN (wL nd3 (nd.length + 1) (nd.length + 2)) (nd.length + 1) = { getN nd3 (nd.length + 1) with l := nd.length + 2 } := by rw [wL, getN_setN, if_pos ⟨rfl, by omega⟩]
      rw [wR, getN_setN, if_pos ⟨rfl, by rw [len_wL]; omega⟩, m4, m3, ec]
    generalize hnd5 : wR (wL nd3 (nd.length + 1) (nd.length + 2)) (nd.length + 1) (nd.length + 2 + l.sz) = nd5 at *
    have X5 : Sh nd5 0 X := sX.ag g4 fun q hq e => by have := hx1.1 q hq; omega
    have Y5 : Sh nd5 0 Y := j4.ag g4 fun q hq e => by have := hy1.1 q hq; omega
    have g6 : Ag nd5 (wPar nd5 (nd.length + 2) (nd.length + 1)) (· = nd.length + 2) := Ag.set nd5 (by omega) _
    have X6 : Sh (wPar nd5 (nd.length + 2) (nd.length + 1)) (nd.length + 1) X := X5.move g6 hx1.2 (fun q hq hne e => hne (by rw [rX]; omega)) (by rw [rX, wPar, getN_setN, if_pos ⟨rfl, by omega⟩])
    have Y6 : Sh (wPar nd5 (nd.length + 2) (nd.length + 1)) 0 Y := Y5.ag g6 fun q hq e => by have := hy1.1 q hq; omega
    have m6 := g6.eq (nd.length + 1) (Nat.succ_pos _) (by omega) (by omega)
    have len6 : (wPar nd5 (nd.length + 2) (nd.length + 1)).length = nd5.length := by rw [len_wPar]
    have e7 : cloN (k + 1) nd p = wPar (wPar nd5 (nd.length + 2) (nd.length + 1)) (nd.length + 2 + l.sz) (nd.length + 1) := by rw [e, ← hnd5]; rfl
    generalize hnd6 : wPar nd5 (nd.length + 2) (nd.length + 1) = nd6 at *
    have g7 : Ag nd6 (wPar nd6 (nd.length + 2 + l.sz) (nd.length + 1)) (· = nd.length + 2 + l.sz) := Ag.set nd6 (by omega) _
    have X7 : Sh (wPar nd6 (nd.length + 2 + l.sz) (nd.length + 1)) (nd.length + 1) X := X6.ag g7 fun q hq e => by have := hx1.1 q hq; omega
    have Y7 : Sh (wPar nd6 (nd.length + 2 + l.sz) (nd.length + 1)) (nd.length + 1) Y := Y6.move g7 hy1.2 (fun q hq hne e => hne (by rw [rY]; omega)) (by rw [rY, wPar, show nd.length + 1 + l.sz + 1 = nd.length + 2 + l.sz by omega, getN_setN, if_pos ⟨rfl, by omega⟩])
    have m7 := g7.eq (nd.length + 1) (Nat.succ_pos _) (by omega) (by omega)
    have len7 : (wPar nd6 (nd.length + 2 + l.sz) (nd.length + 1)).length = nd6.length := by rw [len_wPar]
    refine ⟨okk, ?_, ?_, ?_⟩
    · show (cloN (k + 1) nd p).length = _
      rw [e7, len7, len6, len5]
      simp only [BT.sz]; omega
    · show Ag nd (cloN (k + 1) nd p) _
      rw [e7]
      have a2 : Ag nd nd3 (fun _ => False) := (a1.trans i3 (fun _ _ h => h) (fun _ _ h => h)).trans j3 (fun _ _ h => h) (fun _ _ h => h)
      refine ⟨by omega, fun q q1 q2 _ => ?_⟩
      rw [g7.eq q q1 (by omega) (by omega), g6.eq q q1 (by omega) (by omega), g4.eq q q1 (by omega) (by omega), a2.eq q q1 q2 (fun h => h)]
    · show Sh (cloN (k + 1) nd p) 0 (.nd (nd.length + 1) (l.cp (nd.length + 1)) (r.cp (nd.length + 1 + l.sz)))
      rw [e7, hX, hY]
      have f0 : (BT.nd (nd.length + 1) X Y).x0 = (BT.nd p l r).x0 := by simp only [BT.x0]; rw [← hX, ← hY, BT.cp_x0, BT.cp_x0]
      have f1 : (BT.nd (nd.length + 1) X Y).x1 = (BT.nd p l r).x1 := by simp only [BT.x1]; rw [← hX, ← hY, BT.cp_x1, BT.cp_x1]
      have f2 : (BT.nd (nd.length + 1) X Y).x2 = (BT.nd p l r).x2 := by simp only [BT.x2]; rw [← hX, ← hY, BT.cp_x2, BT.cp_x2]
      have f3 : (BT.nd (nd.length + 1) X Y).x3 = (BT.nd p l r).x3 := by simp only [BT.x3]; rw [← hX, ← hY, BT.cp_x3, BT.cp_x3]
      have f4 : (BT.nd (nd.length + 1) X Y).ht = (BT.nd p l r).ht := by simp only [BT.ht]; rw [← hX, ← hY, BT.cp_ht, BT.cp_ht]
      refine ⟨⟨Nat.succ_pos _, by omega⟩, ⟨i, ?_⟩, X7, Y7⟩
      rw [m7, m6, m5, f0, f1, f2, f3, f4, rX, rY, show nd.length + 1 + l.sz + 1 = nd.length + 2 + l.sz by omega]

/-- The copy's leaves, laid into a map. -/
theorem clo_map : ∀ (T : BT) (k : Nat) (nd : List Nd) (q : Nat) (mi : Nat) (mp : List (List (Int × Nat))), Sh nd q T → T.ht ≤ k → (0 < mi ∧ mi ≤ mp.length) → (T.lvs.map (·.id)).Nodup → (∀ x ∈ T.lvs, x.id ∉ (getM mp mi).map (·.1)) →
    getM (cloM k nd mi mp T.root) mi = getM mp mi ++ (T.cp nd.length).lvs.map (fun x => (x.id, x.p)) ∧ ∀ j, 0 < j → j ≠ mi → getM (cloM k nd mi mp T.root) j = getM mp j
  | .lf x, 0, nd, q, mi, mp, h, hk, hm, hid, hnew => absurd hk (by simp [BT.ht])
  | .lf x, k + 1, nd, q, mi, mp, h, hk, hm, hid, hnew => by
    obtain ⟨h1, h2⟩ := h
    have hn : decide (x.p = 0) = false := by simp; omega
    have hl : decide ((getN nd x.p).l = 0) = true := by rw [h2]; rfl
    have e := (clo_1 (k := k) (nd := nd) (mi := mi) (mp := mp) hn hl).2.1
    show getM (cloM (k + 1) nd mi mp x.p) mi = _ ∧ ∀ j, 0 < j → j ≠ mi → getM (cloM (k + 1) nd mi mp x.p) j = _
    rw [e]
    refine ⟨?_, fun j h0 hj => getM_other h0 hj hm.1 _⟩
    rw [getM_set hm, h2, putE_new (hnew x (by simp [BT.lvs]))]; rfl
  | .nd p l r, 0, nd, q, mi, mp, h, hk, hm, hid, hnew => absurd hk (by simp [BT.ht])
  | .nd p l r, k + 1, nd, q, mi, mp, h, hk, hm, hid, hnew => by
    obtain ⟨h1, ⟨i, h2⟩, h3, h4⟩ := h
    simp only [BT.ht] at hk
    have hlr := h3.top.1
    have el : (getN nd p).l = l.root := by rw [h2]
    have er : (getN nd p).r = r.root := by rw [h2]
    have hn : decide (p = 0) = false := by simp; omega
    have hl : decide ((getN nd p).l = 0) = false := by rw [el]; simp; omega
    have e := (clo_2 (k := k) (nd := nd) (mi := mi) (mp := mp) hn hl).2.1
    rw [el, er] at e
    have a1 := ag_app nd (clN nd p)
    have len1 : (nd ++ [clN nd p]).length = nd.length + 1 := by simp
    obtain ⟨i1, i2, i3, i4⟩ := clo_ok l k (nd ++ [clN nd p]) p (h3.ag a1 fun _ _ h => h) (by omega)
    have sr2 : Sh (cloN k (nd ++ [clN nd p]) l.root) p r := (h4.ag a1 fun _ _ h => h).ag i3 fun _ _ h => h
    simp only [BT.lvs, List.map_append] at hid
    obtain ⟨n1, n2, n3⟩ := List.nodup_append.1 hid
    obtain ⟨m1, m2⟩ := clo_map l k (nd ++ [clN nd p]) p mi mp (h3.ag a1 fun _ _ h => h) (by omega) hm n1 (fun x hx => hnew x (by simp [BT.lvs, hx]))
    have lm : (cloM k (nd ++ [clN nd p]) mi mp l.root).length = mp.length := len_cloM _ _ _ _ _
    obtain ⟨w1, w2⟩ := clo_map r k (cloN k (nd ++ [clN nd p]) l.root) p mi (cloM k (nd ++ [clN nd p]) mi mp l.root) sr2 (by omega) (by rw [lm]; exact hm) n2 (fun x hx hh => by
      rw [m1, List.map_append] at hh
      rcases List.mem_append.1 hh with hh | hh
      · exact hnew x (by simp [BT.lvs, hx]) hh
      · rw [List.map_map] at hh
        have h5 : (l.cp (nd ++ [clN nd p]).length).lvs.map (fun x => x.id) = l.lvs.map (fun x => x.id) := by
          have := congrArg (List.map En.id) (BT.cp_en l (nd ++ [clN nd p]).length)
          rwa [List.map_map, List.map_map] at this
        have h6 : x.id ∈ l.lvs.map (fun x => x.id) := by rw [← h5]; exact hh
        exact n3 _ h6 _ (List.mem_map.2 ⟨x, hx, rfl⟩) rfl)
    show getM (cloM (k + 1) nd mi mp p) mi = _ ∧ ∀ j, 0 < j → j ≠ mi → getM (cloM (k + 1) nd mi mp p) j = _
    rw [e]
    refine ⟨?_, fun j h0 hj => (w2 j h0 hj).trans (m2 j h0 hj)⟩
    rw [w1, m1, i2, len1, List.append_assoc]
    show _ = _ ++ List.map _ ((l.cp (nd.length + 1)).lvs ++ (r.cp (nd.length + 1 + l.sz)).lvs)
    rw [List.map_append]

/-- A clone holds the same boxes; the two trees lie apart. -/
theorem Rp.clone {nd : List Nd} {tr : List (Nat × Nat)} {mp : List (List (Int × Nat))} {t : Nat} {o : Option BT} {M : List En} (h : Rp nd tr mp t o M) :
    clOK nd tr t = true ∧ clE tr t = tr.length + 1 ∧ ∃ o', Two (clNd nd tr t) (clTr nd tr mp t) (clMp nd tr mp t) t (tr.length + 1) o M o' M := by
  obtain ⟨c1, c2, c3, c4⟩ := cl_1 (nd := nd) (mp := mp) h.tpos
  have ht := h.t0
  have hmi := h.mi
  have gT : ∀ r, getT (wRoot (clT tr mp) (tr.length + 1) r) (tr.length + 1) = (r, mp.length + 1) := fun r => by
    have hl : 0 < tr.length + 1 ∧ tr.length + 1 ≤ (clT tr mp).length := ⟨Nat.succ_pos _, by simp [clT]⟩
    rw [wRoot, getT_set hl]
    have := getT_new tr (0, mp.length + 1)
    rw [show getT (clT tr mp) (tr.length + 1) = (0, mp.length + 1) from this]
  have gO : ∀ r, getT (wRoot (clT tr mp) (tr.length + 1) r) t = getT tr t := fun r => by
    rw [wRoot_o (Nat.succ_pos _) ht.1 (by omega)]
    exact getT_app _ ht.1 ht.2
  have lenT : ∀ r, (wRoot (clT tr mp) (tr.length + 1) r).length = tr.length + 1 := fun r => by simp [wRoot, setT, clT]
  refine ⟨?_, c1, ?_⟩
  · cases o with
    | none =>
      have hr : (getT tr t).1 = 0 := h.root
      simp only [clOK, Bool.or_eq_true, Bool.and_eq_true, okT_iff, hr, Nat.ble_eq]
      refine Or.inr ⟨ht, Nat.zero_le _, ?_⟩
      exact cloOK_0 63 nd
    | some T =>
      have hr : (getT tr t).1 = T.root := h.root
      have hh : T.ht ≤ 26 := h.htok.small h.len
      have := (clo_ok T FU nd 0 h.good.1 (by rw [FU_eq]; exact Nat.le_trans hh (by decide))).ok
      have hb := h.good.root_pos
      simp only [clOK, Bool.or_eq_true, Bool.and_eq_true, okT_iff, hr, Nat.ble_eq]
      exact Or.inr ⟨ht, hb.2, this⟩
  · rw [c2, c3, c4]
    cases o with
    | none =>
      have hr : (getT tr t).1 = 0 := h.root
      have hM : M = [] := List.length_eq_zero_iff.1 h.ens.length_eq.symm
      have eN : cloN FU nd (getT tr t).1 = nd := by rw [hr]; exact (clo_0 (k := 63) (nd := nd) (mi := 0) (mp := []) (by rfl)).1
      have eM : cloM FU nd (mp.length + 1) (mp ++ [[]]) (getT tr t).1 = mp ++ [[]] := by rw [hr]; exact (clo_0 (k := 63) (nd := nd) (mi := mp.length + 1) (mp := mp ++ [[]]) (by rfl)).2.1
      have eP : cloP nd (getT tr t).1 = 0 := by rw [hr]; rfl
      rw [eN, eM, eP]
      refine ⟨none, ⟨⟨⟨ht.1, by rw [lenT]; omega⟩, by rw [gO]; exact h.root, h.good, by rw [gO]; simp; omega, by rw [gO, getM_app hmi]; exact h.ents, h.ens, h.asc, h.len⟩, ?_, by omega, (fun q hq => by cases hq), by rw [gO, gT]; exact Or.inr (by show (getT tr t).2 ≠ mp.length + 1; omega)⟩⟩
      subst hM
      exact ⟨⟨Nat.succ_pos _, by rw [lenT]; exact Nat.le_refl _⟩, by rw [gT]; rfl, trivial, by rw [gT]; simp, by rw [gT]; simp [getM, lvsO], List.Perm.refl _, List.Pairwise.nil, Nat.zero_le _⟩
    | some T =>
      have hr : (getT tr t).1 = T.root := h.root
      have hh : T.ht ≤ 26 := h.htok.small h.len
      have hk : T.ht ≤ FU := by rw [FU_eq]; exact Nat.le_trans hh (by decide)
      obtain ⟨i1, i2, i3, i4⟩ := clo_ok T FU nd 0 h.good.1 hk
      have hids := h.ids
      have gm : getM (mp ++ [[]]) (mp.length + 1) = [] := by simp [getM]
      obtain ⟨m1, m2⟩ := clo_map T FU nd 0 (mp.length + 1) (mp ++ [[]]) h.good.1 hk ⟨Nat.succ_pos _, by simp⟩ hids (fun x hx => by rw [gm]; simp)
      have eP : cloP nd (getT tr t).1 = nd.length + 1 := by rw [hr]; exact cloP_pos (by have := h.good.root_pos; omega)
      have hfp := BT.cp_fp T nd.length
      have lm : (cloM FU nd (mp.length + 1) (mp ++ [[]]) T.root).length = mp.length + 1 := by rw [len_cloM]; simp
      rw [eP, hr]
      rw [gm, List.nil_append] at m1
      refine ⟨some (T.cp nd.length), ⟨⟨⟨ht.1, by rw [lenT]; omega⟩, by rw [gO]; exact h.root, h.good.ag i3 (fun _ _ h => h), by rw [gO, lm]; omega, ?_, h.ens, h.asc, h.len⟩, ?_, by omega, (fun q hq hq' => ?_), by rw [gO, gT]; exact Or.inr (by show (getT tr t).2 ≠ mp.length + 1; omega)⟩⟩
      · rw [gO]
        cases hz : (getT tr t).2 with
        | zero => have := h.ents; rw [hz] at this; exact this
        | succ i =>
          rw [m2 (i + 1) (Nat.succ_pos _) (by omega), getM_app (by omega), ← hz]
          exact h.ents
      · refine ⟨⟨Nat.succ_pos _, by rw [lenT]; exact Nat.le_refl _⟩, by rw [gT]; exact (BT.cp_root _ _).symm, ⟨i4, hfp.2, BT.cp_bal _ _ h.good.2.2.1, BT.cp_val _ h.good.2.2.2⟩, by rw [gT, lm]; exact Nat.le_refl _, ?_, ?_, h.asc, h.len⟩
        · rw [gT, m1]; exact List.Perm.refl _
        · show ((T.cp nd.length).lvs.map Lv.en).Perm M
          rw [BT.cp_en]; exact h.ens
      · have h5 := (h.good.le q hq).2
        have h6 := (hfp.1 q hq').1
        omega
end Go.Proofs.Ytconaehajaifhaa
