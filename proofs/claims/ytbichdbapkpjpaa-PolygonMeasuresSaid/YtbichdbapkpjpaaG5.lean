/- Contract of polygon.ConvexHull. -/
import Derived.Test.YtbichdbapkpjpaaG4
namespace Go.Proofs.Ytbichdbapkpjpaa
open Go.RowKit Fx Vx Bx Ev
set_option linter.unusedVariables false
set_option linter.unusedSimpArgs false


def isZ : Nat → Bool
  | 0 => true
  | _ + 1 => false
def hullOk (xs : List (List Int)) : Bool := decide (1 ≤ xs.length) && decide (xs.length ≤ 64) && decide (AllR xs xs.length)
/-- The lower chain after k points of ls; the whole path after j more, backwards. -/
def loR (ls : List (List Int)) : Nat → List (List Int)
  | 0 => []
  | k + 1 => extR (loR ls k) 1 (at2 ls k 0) (at2 ls k 1)
def hiR (ls : List (List Int)) (n : Nat) : Nat → List (List Int)
  | 0 => loR ls n
  | j + 1 => extR (hiR ls n j) (loR ls n).length (at2 ls (n - 2 - j) 0) (at2 ls (n - 2 - j) 1)
def chainR (ls : List (List Int)) : List (List Int) := (hiR ls ls.length (ls.length - 1)).dropLast
def hullR (xs : List (List Int)) : List (List Int) := if hullOk xs then (if (sdR xs).length = 1 then sdR xs else chainR (sdR xs)) else []
theorem hullOk_iff {xs : List (List Int)} : hullOk xs = true ↔ 1 ≤ xs.length ∧ xs.length ≤ 64 ∧ AllR xs xs.length := by
  unfold hullOk; simp only [Bool.and_eq_true, decide_eq_true_eq, and_assoc]
theorem hullOk_no {xs : List (List Int)} (h : xs.length < 1 ∨ 64 < xs.length ∨ ¬ AllR xs xs.length) : hullOk xs = false := by
  rw [Bool.eq_false_iff]; intro hc
  obtain ⟨h1, h2, h3⟩ := hullOk_iff.1 hc
  rcases h with h | h | h
  · omega
  · omega
  · exact h h3
theorem insP_len (a : Hl.P) : ∀ l : List Hl.P, (insP a l).length ≤ l.length + 1
  | [] => by simp [insP]
  | b :: l => by
    have := insP_len a l
    unfold insP
    split
    · simp
    · split
      · simp
      · simp; omega
theorem sd_len : ∀ l : List Hl.P, (sd l).length ≤ l.length
  | [] => by simp [sd]
  | a :: l => by
    have := sd_len l
    have := insP_len a (sd l)
    simp [sd]; omega
theorem sdR_len (xs : List (List Int)) : (sdR xs).length ≤ xs.length ∧ (1 ≤ xs.length → 1 ≤ (sdR xs).length) := by
  have h1 := sd_len (pts xs)
  rw [pts_len] at h1
  unfold sdR
  rw [rws_len]
  refine ⟨h1, fun h => ?_⟩
  have : pt xs 0 ∈ sd (pts xs) := mem_sd.2 (pt_mem (by omega))
  exact List.length_pos_of_mem this
theorem loR_len (ls : List (List Int)) : ∀ k, (loR ls k).length ≤ k ∧ (1 ≤ k → 1 ≤ (loR ls k).length)
  | 0 => by simp [loR]
  | k + 1 => by
    have := loR_len ls k
    have := extR_len (loR ls k) 1 (at2 ls k 0) (at2 ls k 1)
    simp only [loR]; omega
theorem hiR_len (ls : List (List Int)) (n : Nat) (hn : 1 ≤ n) : ∀ j, (hiR ls n j).length ≤ n + j ∧ 1 ≤ (hiR ls n j).length
  | 0 => by have := loR_len ls n; simp only [hiR]; omega
  | j + 1 => by
    have := hiR_len ls n hn j
    have := extR_len (hiR ls n j) (loR ls n).length (at2 ls (n - 2 - j) 0) (at2 ls (n - 2 - j) 1)
    simp only [hiR]; omega
theorem tnj (n j : Nat) : ((n : Int) - 2 - (j : Int)).toNat = n - 2 - j := by omega
theorem isZ_pos {n : Nat} (h : 1 ≤ n) : isZ n = false := by cases n with | zero => omega | succ n => rfl

def c_polygon_ConvexHull : Con := ⟨10, genRun [.rows 2] (fun l R => match l, R with | [], [(bxs, xs)] => [xs.length ≤ 100000, wf 2 xs] | _, _ => [False]) fun l R => match l, R with
  | [], [(bxs, xs)] => [.rows (!hullOk xs) 2 (hullR xs)]
  | _, _ => []⟩
set_option maxRecDepth 100000 in
set_option maxHeartbeats 4000000 in
theorem con_polygon_ConvexHull : c_polygon_ConvexHull.Ok Try.prog := by
  refine con_gen (C := [c_polygon_allInReach, c_polygon_sorted, c_polygon_extend]) (pl := []) Try.func10 rfl (by kernel_rfl) T_ok (Cons.cons con_polygon_allInReach (Cons.cons con_polygon_sorted (Cons.cons con_polygon_extend (Cons.nil _)))) mixed (by kernel_rfl) _ _ _ (fun l R hl hR hn hpre => ?_)
  match l, hl, R, hR with
  | [], zl, [(true, xs)], zr =>
    clear zl zr
    obtain rfl : xs = [] := hn _ (List.Mem.head _) rfl
    have hp0 := hpre _ (List.Mem.head _); try dsimp only at hp0
    have hp1 := hpre _ (List.Mem.tail _ (List.Mem.head _)); try dsimp only at hp1
    repeat' (first | (with_reducible refine And.intro ?_ ?_) | (with_reducible intro h) | ((fail_if_success (with_reducible refine Leaf.mk ?_)); (fail_if_success (with_reducible refine VC.mk ?_)); (fail_if_success (with_reducible refine Goes.mk ?_)); (fail_if_success (with_reducible refine Again.mk ?_)); (fail_if_success (with_reducible refine Rounds.mk ?_)); (fail_if_success (with_reducible show False)); (fail_if_success (with_reducible show True)); conv => whnf))
    all_goals try simp only [Bool.not_eq_true', Bool.not_eq_false', Bool.and_eq_true, decide_eq_true_eq, decide_eq_false_iff_not, tkA, Nat.zero_add, Nat.reduceAdd, Int.toNat_natCast, tmN] at *
    all_goals try first | exact trivial | (show False; omega) | exact Leaf.mk trivial | exact Leaf.mk rfl | (refine VC.mk ?_; first | trivial | assumption | ((try simp only [InR] at *); omega) | (simp; done) | (simp; omega))
    all_goals (refine Leaf.mk ?_; first | rfl | decide)
  | [], zl, [(false, xs)], zr =>
    clear zl zr
    have hp0 := hpre _ (List.Mem.head _); try dsimp only at hp0
    have hp1 := hpre _ (List.Mem.tail _ (List.Mem.head _)); try dsimp only at hp1
    have sl := sdR_len xs
    repeat' (first | (with_reducible refine And.intro ?_ ?_) | (with_reducible intro h) | ((fail_if_success (with_reducible refine Leaf.mk ?_)); (fail_if_success (with_reducible refine VC.mk ?_)); (fail_if_success (with_reducible refine Goes.mk ?_)); (fail_if_success (with_reducible refine Again.mk ?_)); (fail_if_success (with_reducible refine Rounds.mk ?_)); (fail_if_success (with_reducible show False)); (fail_if_success (with_reducible show True)); conv => whnf))
    all_goals try simp only [Bool.not_eq_true', Bool.not_eq_false', Bool.and_eq_true, decide_eq_true_eq, decide_eq_false_iff_not, tkA, Nat.zero_add, Nat.reduceAdd, Int.toNat_natCast, tmN] at *
    all_goals try first | exact trivial | (show False; omega) | exact Leaf.mk trivial | exact Leaf.mk rfl | (refine VC.mk ?_; first | trivial | assumption | ((try simp only [InR] at *); omega) | (simp; done) | (simp; omega))
    all_goals try (refine Leaf.mk ?_; first | exact hullOk_no (by first | (left; omega) | (right; left; omega) | (right; right; assumption) | (left; simp; done)) | (simp only [hullR]; rw [hullOk_no (by first | (left; omega) | (right; left; omega) | (right; right; assumption) | (left; simp; done))]; rfl) | exact hullOk_iff.2 ⟨by omega, by omega, by assumption⟩ | (rw [hullOk_iff.2 ⟨by omega, by omega, by assumption⟩]; rfl) | (unfold hullR; rw [if_pos (hullOk_iff.2 ⟨by omega, by omega, by assumption⟩), if_pos (by omega), List.take_of_length_le (Nat.le_refl _)]))
    all_goals try (refine VC.mk ?_; omega)
    refine goes_inv (X := Nat) (pl := []) T_ok (Cons.cons con_polygon_allInReach (Cons.cons con_polygon_sorted (Cons.cons con_polygon_extend (Cons.nil _)))) mixed (by kernel_rfl)
      (fun k => (.any :: .any :: .any :: .osl false 1 2 (sdR xs).length :: .osl (isZ k) 2 2 (loR (sdR xs) k).length :: .any :: .any :: .any :: .any :: .any :: .any :: .any :: .any :: .any :: .any :: .any :: .any :: .any :: .any :: .any :: .any :: .any :: .any :: .any :: .any :: .any :: .any :: .any :: .osl false 1 2 (sdR xs).length :: .int .i64 ((sdR xs).length : Int) :: .int .i64 (k : Int) :: .any :: .any :: .any :: .any :: .any :: .any :: .any :: .any :: .any :: .any :: .any :: .any :: .any :: .any :: .any :: .any :: .any :: .any :: .any :: .any :: .any :: .any :: .any :: .any :: .any :: .any :: .any :: .any :: [], [.arr false true 2 xs, .arr true true 2 (sdR xs), .arr true (!isZ k) 2 (loR (sdR xs) k)]))
      (fun k => k ≤ (sdR xs).length) (fun k => (sdR xs).length - k) 0 [0, 1, 2] (Nat.zero_le _) ?_ ?_ ?_
    · repeat' (first | (with_reducible refine And.intro ?_ ?_) | (with_reducible intro h) | ((fail_if_success (with_reducible refine Leaf.mk ?_)); (fail_if_success (with_reducible refine VC.mk ?_)); (fail_if_success (with_reducible refine Goes.mk ?_)); (fail_if_success (with_reducible refine Again.mk ?_)); (fail_if_success (with_reducible refine Rounds.mk ?_)); (fail_if_success (with_reducible show False)); (fail_if_success (with_reducible show True)); conv => whnf))
      all_goals first | exact trivial | (refine Leaf.mk ?_; first | rfl | exact ⟨rfl, rfl⟩ | (simp; done))
    · repeat' (first | (with_reducible refine And.intro ?_ ?_) | (with_reducible intro h) | ((fail_if_success (with_reducible refine Leaf.mk ?_)); (fail_if_success (with_reducible refine VC.mk ?_)); (fail_if_success (with_reducible refine Goes.mk ?_)); (fail_if_success (with_reducible refine Again.mk ?_)); (fail_if_success (with_reducible refine Rounds.mk ?_)); (fail_if_success (with_reducible show False)); (fail_if_success (with_reducible show True)); conv => whnf))
      all_goals first | exact trivial | (refine Leaf.mk ?_; first | rfl | exact ⟨rfl, rfl⟩ | (simp; done))
    · intro k hx
      rcases k with _ | k
      · repeat' (first | (with_reducible refine And.intro ?_ ?_) | (with_reducible intro h) | ((fail_if_success (with_reducible refine Leaf.mk ?_)); (fail_if_success (with_reducible refine VC.mk ?_)); (fail_if_success (with_reducible refine Goes.mk ?_)); (fail_if_success (with_reducible refine Again.mk ?_)); (fail_if_success (with_reducible refine Rounds.mk ?_)); (fail_if_success (with_reducible show False)); (fail_if_success (with_reducible show True)); conv => whnf))
        all_goals try simp only [Bool.not_eq_true', Bool.not_eq_false', Bool.and_eq_true, decide_eq_true_eq, decide_eq_false_iff_not, tkA, Nat.zero_add, Nat.reduceAdd, Int.toNat_natCast, tmN] at *
        all_goals try first | exact trivial | (show False; omega) | exact Leaf.mk trivial | exact Leaf.mk rfl | (refine VC.mk ?_; first | trivial | assumption | ((try simp only [InR] at *); omega) | (simp; done) | (simp; omega))
        all_goals try (refine VC.mk ?_; first | omega | (simp; omega))
        all_goals try (exfalso; omega)
        all_goals (refine Again.mk ⟨1, [0, 1, 4], (by show 1 ≤ (sdR xs).length; omega), (by show (sdR xs).length - 1 < (sdR xs).length - 0; omega), ?_, ?_⟩ <;> (repeat' (first | (with_reducible refine And.intro ?_ ?_) | (with_reducible intro h) | ((fail_if_success (with_reducible refine Leaf.mk ?_)); (fail_if_success (with_reducible refine VC.mk ?_)); (fail_if_success (with_reducible refine Goes.mk ?_)); (fail_if_success (with_reducible refine Again.mk ?_)); (fail_if_success (with_reducible refine Rounds.mk ?_)); (fail_if_success (with_reducible show False)); (fail_if_success (with_reducible show True)); conv => whnf))) <;> first | exact trivial | (refine Leaf.mk ?_; first | rfl | (simp; done) | (simp only [loR, List.take_length]; rfl) | (refine ⟨rfl, ?_⟩; simp only [loR, List.take_length]; rfl) | (show _ = (loR (sdR xs) _).length; simp only [loR, List.take_length]; rfl)))
      · have ll := loR_len (sdR xs) (k + 1)
        repeat' (first | (with_reducible refine And.intro ?_ ?_) | (with_reducible intro h) | ((fail_if_success (with_reducible refine Leaf.mk ?_)); (fail_if_success (with_reducible refine VC.mk ?_)); (fail_if_success (with_reducible refine Goes.mk ?_)); (fail_if_success (with_reducible refine Again.mk ?_)); (fail_if_success (with_reducible refine Rounds.mk ?_)); (fail_if_success (with_reducible show False)); (fail_if_success (with_reducible show True)); conv => whnf))
        all_goals try simp only [Bool.not_eq_true', Bool.not_eq_false', Bool.and_eq_true, decide_eq_true_eq, decide_eq_false_iff_not, tkA, Nat.zero_add, Nat.reduceAdd, Int.toNat_natCast, tmN] at *
        all_goals try first | exact trivial | (show False; omega) | exact Leaf.mk trivial | exact Leaf.mk rfl | (refine VC.mk ?_; first | trivial | assumption | ((try simp only [InR] at *); omega) | (simp; done) | (simp; omega))
        all_goals try (refine VC.mk ?_; first | omega | (simp; omega))
        all_goals try (refine Again.mk ⟨k + 2, [0, 1, 4], (by show k + 2 ≤ (sdR xs).length; omega), (by show (sdR xs).length - (k + 2) < (sdR xs).length - (k + 1); omega), ?_, ?_⟩ <;> (repeat' (first | (with_reducible refine And.intro ?_ ?_) | (with_reducible intro h) | ((fail_if_success (with_reducible refine Leaf.mk ?_)); (fail_if_success (with_reducible refine VC.mk ?_)); (fail_if_success (with_reducible refine Goes.mk ?_)); (fail_if_success (with_reducible refine Again.mk ?_)); (fail_if_success (with_reducible refine Rounds.mk ?_)); (fail_if_success (with_reducible show False)); (fail_if_success (with_reducible show True)); conv => whnf))) <;> first | exact trivial | (refine Leaf.mk ?_; first | rfl | (simp; done) | (simp only [loR, List.take_length]; rfl) | (refine ⟨rfl, ?_⟩; simp only [loR, List.take_length]; rfl) | (show _ = (loR (sdR xs) _).length; simp only [loR, List.take_length]; rfl)))
        have hk : k + 1 = (sdR xs).length := by omega
        refine goes_inv (X := Nat) (pl := []) T_ok (Cons.cons con_polygon_allInReach (Cons.cons con_polygon_sorted (Cons.cons con_polygon_extend (Cons.nil _)))) mixed (by kernel_rfl)
          (fun j => (.any :: .any :: .any :: .osl false 1 2 (sdR xs).length :: .osl false 2 2 (hiR (sdR xs) (sdR xs).length j).length :: .any :: .any :: .int .i64 ((loR (sdR xs) (sdR xs).length).length : Int) :: .int .i64 (((sdR xs).length : Int) - 2 - (j : Int)) :: .any :: .any :: .any :: .any :: .any :: .any :: .any :: .any :: .any :: .any :: .any :: .any :: .any :: .any :: .any :: .any :: .any :: .any :: .any :: .any :: .any :: .any :: .any :: .any :: .any :: .any :: .any :: .any :: .any :: .any :: .any :: .any :: .any :: .any :: .any :: .any :: .any :: .any :: .any :: .any :: .any :: .any :: .any :: .any :: .any :: .any :: .any :: .any :: .any :: .any :: [], [.arr false true 2 xs, .arr true true 2 (sdR xs), .arr true true 2 (hiR (sdR xs) (sdR xs).length j)]))
          (fun j => j + 1 ≤ (sdR xs).length) (fun j => (sdR xs).length - j) 0 [0, 1, 2] (by show 0 + 1 ≤ (sdR xs).length; omega) ?_ ?_ ?_
        · repeat' (first | (with_reducible refine And.intro ?_ ?_) | (with_reducible intro h) | ((fail_if_success (with_reducible refine Leaf.mk ?_)); (fail_if_success (with_reducible refine VC.mk ?_)); (fail_if_success (with_reducible refine Goes.mk ?_)); (fail_if_success (with_reducible refine Again.mk ?_)); (fail_if_success (with_reducible refine Rounds.mk ?_)); (fail_if_success (with_reducible show False)); (fail_if_success (with_reducible show True)); conv => whnf))
          all_goals first | exact trivial | (refine Leaf.mk ?_; first | rfl | exact ⟨rfl, rfl⟩ | (simp; done) | (simp only [hk, isZ_pos (show 1 ≤ (sdR xs).length by omega)]; done) | (simp only [hk, isZ_pos (show 1 ≤ (sdR xs).length by omega)]; exact ⟨rfl, rfl⟩) | (rw [hk]; exact ⟨isZ_pos (by omega), rfl⟩) | (rw [hk]; rfl) | (rw [hk, isZ_pos (by omega)]; exact ⟨rfl, rfl⟩) | omega)
        · repeat' (first | (with_reducible refine And.intro ?_ ?_) | (with_reducible intro h) | ((fail_if_success (with_reducible refine Leaf.mk ?_)); (fail_if_success (with_reducible refine VC.mk ?_)); (fail_if_success (with_reducible refine Goes.mk ?_)); (fail_if_success (with_reducible refine Again.mk ?_)); (fail_if_success (with_reducible refine Rounds.mk ?_)); (fail_if_success (with_reducible show False)); (fail_if_success (with_reducible show True)); conv => whnf))
          all_goals first | exact trivial | (refine Leaf.mk ?_; first | rfl | exact ⟨rfl, rfl⟩ | (simp; done) | (simp only [hk, isZ_pos (show 1 ≤ (sdR xs).length by omega)]; done) | (simp only [hk, isZ_pos (show 1 ≤ (sdR xs).length by omega)]; exact ⟨rfl, rfl⟩) | (rw [hk]; exact ⟨isZ_pos (by omega), rfl⟩) | (rw [hk]; rfl) | (rw [hk, isZ_pos (by omega)]; exact ⟨rfl, rfl⟩) | omega)
        · intro j hx
          repeat' (first | (with_reducible refine And.intro ?_ ?_) | (with_reducible intro h) | ((fail_if_success (with_reducible refine Leaf.mk ?_)); (fail_if_success (with_reducible refine VC.mk ?_)); (fail_if_success (with_reducible refine Goes.mk ?_)); (fail_if_success (with_reducible refine Again.mk ?_)); (fail_if_success (with_reducible refine Rounds.mk ?_)); (fail_if_success (with_reducible show False)); (fail_if_success (with_reducible show True)); conv => whnf))
          all_goals try simp only [Bool.not_eq_true', Bool.not_eq_false', Bool.and_eq_true, decide_eq_true_eq, decide_eq_false_iff_not, tkA, Nat.zero_add, Nat.reduceAdd, Int.toNat_natCast, tmN] at *
          all_goals try simp only [tnj, tnm] at *
          all_goals try (have hl3 := loR_len (sdR xs) (sdR xs).length; have hl2 := hiR_len (sdR xs) (sdR xs).length (by omega) j)
          all_goals try first | exact trivial | (show False; omega) | exact Leaf.mk trivial | exact Leaf.mk rfl | (refine VC.mk ?_; first | trivial | assumption | ((try simp only [InR] at *); omega) | (simp; done) | (simp; omega))
          all_goals try (refine VC.mk ?_; first | omega | (simp only [InR]; omega) | (simp; omega))
          all_goals first
            | (refine Leaf.mk ?_; have hj : j = (sdR xs).length - 1 := by omega
               first
                 | (rw [hullOk_iff.2 ⟨by omega, by omega, by assumption⟩]; rfl)
                 | exact hullOk_iff.2 ⟨by omega, by omega, by assumption⟩
                 | (unfold hullR; rw [if_pos (hullOk_iff.2 ⟨by omega, by omega, by assumption⟩), if_neg (by omega)]
                    unfold chainR
                    rw [List.dropLast_eq_take, hj]))
            | (refine Again.mk ⟨j + 1, [0, 1, 3], (by show j + 1 + 1 ≤ (sdR xs).length; omega), (by show (sdR xs).length - (j + 1) < (sdR xs).length - j; omega), ?_, ?_⟩ <;> (repeat' (first | (with_reducible refine And.intro ?_ ?_) | (with_reducible intro h) | ((fail_if_success (with_reducible refine Leaf.mk ?_)); (fail_if_success (with_reducible refine VC.mk ?_)); (fail_if_success (with_reducible refine Goes.mk ?_)); (fail_if_success (with_reducible refine Again.mk ?_)); (fail_if_success (with_reducible refine Rounds.mk ?_)); (fail_if_success (with_reducible show False)); (fail_if_success (with_reducible show True)); conv => whnf))) <;> first | exact trivial | (refine Leaf.mk ?_; first | rfl | (simp; done) | (simp only [hiR, List.take_length, tnj, Int.toNat_natCast]; done) | (simp only [hiR, List.take_length, tnj, Int.toNat_natCast]; rfl) | (refine ⟨rfl, ?_⟩; simp only [hiR, List.take_length, tnj, Int.toNat_natCast]; done) | (refine ⟨rfl, ?_⟩; simp only [hiR, List.take_length, tnj, Int.toNat_natCast]; rfl) | (show _ = ((sdR xs).length : Int) - 2 - ((j + 1 : Nat) : Int); omega)))
end Go.Proofs.Ytbichdbapkpjpaa
