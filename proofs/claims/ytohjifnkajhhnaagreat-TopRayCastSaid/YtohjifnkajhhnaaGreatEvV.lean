/- The reckoning, told in parts inside of blocks and branches. -/
import Derived.Test.YtohjifnkajhhnaaGreatEC
namespace Go.Proofs.YtohjifnkajhhnaaGreat.Ev
open Go.RowKit
set_option linter.unusedVariables false
set_option linter.unusedSimpArgs false

theorem goes_seq {P : Program} {x y : Code} {t : List SV} {h : List Blk} {K : KE}
    (hx : Goes P x t h fun e t' h' => match e with
      | .normal => Goes P y t' h' K
      | e => K e t' h') : Goes P (.seq x y) t h K := by
  refine ⟨fun B bad w0 m a w hd H => wp_seq (wp_mono (hx.out B bad w0 m a w hd H) fun e a' w' hq => ?_)⟩
  obtain ⟨st', m', h2, h3, h4⟩ := hq
  cases e with
  | normal => exact h4.out B bad w0 m' a' w' h2 h3
  | _ => exact ⟨st', m', h2, h3, h4⟩
theorem goes_block {P : Program} {id : Nat} {x : Code} {t : List SV} {h : List Blk} {K : KE}
    (hx : Goes P x t h fun e t' h' => match e with
      | .exit id' => match Nat.beq id' id with
        | true => K .normal t' h'
        | false => K (.exit id') t' h'
      | e => K e t' h') : Goes P (.block id x) t h K := by
  refine ⟨fun B bad w0 m a w hd H => wp_block (wp_mono (hx.out B bad w0 m a w hd H) fun e a' w' hq => ?_)⟩
  obtain ⟨st', m', h2, h3, h4⟩ := hq
  cases e with
  | exit id' =>
    simp only [Exit.inBlock]
    simp only at h4
    split at h4
    · rename_i hb
      rw [if_pos (Nat.eq_of_beq_eq_true hb)]
      exact ⟨st', m', h2, h3, h4⟩
    · rename_i hb
      rw [if_neg (Nat.ne_of_beq_eq_false hb)]
      exact ⟨st', m', h2, h3, h4⟩
  | _ => exact ⟨st', m', h2, h3, h4⟩
/-- The first part reckoned; each way through it ends in one state, told by letters. -/
theorem goes_cutM {P : Program} {T : Tab} {C : List Con} {pl : Plans} (hT : T.Ok P) (hC : Cons.Ok P C) (hm : P.follows .mixedOrders = true) {x y : Code} (hpl : plansOK pl x = true) {t : List SV} {h : List Blk} {K : KE} {X : Type} (I : X → List SV × List Blk) (p : X → Prop)
    (hx : EV P T C pl x t h fun e t' h' => match e with
      | .normal => Again I p (fun _ => 0) 1 t' h'
      | e => K e t' h') (hy : ∀ x, p x → Goes P y (I x).1 (I x).2 K) : Goes P (.seq x y) t h K := by
  refine goes_seq ⟨fun B bad w0 m a w hd H => wp_mono ((EV_sound hT hC hm x t h _ hpl hx).out B bad w0 m a w hd H) fun e a' w' hq => ?_⟩
  obtain ⟨st', m', h2, h3, h4⟩ := hq
  cases e with
  | normal =>
    obtain ⟨z, r, k1, _, k3, k4⟩ := (show Again I p (fun _ => 0) 1 st'.tmps st'.heap from h4).out
    exact ⟨st', m', h2, h3, goes_mid I p z r k1 k3 k4 hy⟩
  | _ => exact ⟨st', m', h2, h3, h4⟩
end Go.Proofs.YtohjifnkajhhnaaGreat.Ev
