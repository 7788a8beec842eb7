/- '==' on structs of i64 numbers: all numbers equal. -/
import Derived.Test.YtdoagjphjnbbnaaEvF
namespace Go.Proofs.Ytdoagjphjnbbnaa.Ev
open Go.RowKit
set_option linter.unusedVariables false
set_option linter.unusedSimpArgs false

def allEq : List Int → List Int → Bool
  | [], [] => true
  | a :: as, b :: bs => (a == b) && allEq as bs
  | _, _ => false
theorem allEq_append : ∀ {a b c d : List Int}, a.length = c.length → allEq (a ++ b) (c ++ d) = (allEq a c && allEq b d)
  | [], b, [], d, _ => by simp [allEq]
  | x :: a, b, y :: c, d, h => by simp [allEq, allEq_append (a := a) (b := b) (c := c) (d := d) (by simpa using h), Bool.and_assoc]
theorem eqInts_all : ∀ {as bs : List Int} {r : Bool}, eqInts as bs = some r → r = allEq as bs
  | [], [], r, h => by simp only [eqInts] at h; cases h; rfl
  | [], _ :: _, r, h => by simp [eqInts] at h
  | _ :: _, [], r, h => by simp [eqInts] at h
  | a :: [], b :: [], r, h => by simp only [eqInts] at h; cases h; simp [allEq]; rfl
  | a :: [], b :: _ :: _, r, h => by simp [eqInts] at h
  | a :: a' :: as, b :: bs, r, h => by
    simp only [eqInts] at h
    split at h
    · rename_i q hq
      cases h
      rw [eqInts_all hq]
      simp only [allEq]
      rfl
    · cases h

def flatGo (fT : TypeId → Option Nat) : List Field → Nat → Option Nat
  | [], off => some off
  | f :: fs, off => match f.name != "_" && Nat.beq f.offset off with
    | true => match fT f.type with
      | some n => flatGo fT fs (off + n)
      | none => none
    | false => none
/-- The size of a type of i64 numbers alone. -/
def flatT (P : Program) : Nat → TypeId → Option Nat
  | 0, _ => none
  | d + 1, t => match P.underlying t with
    | some (.int .i64) => some 1
    | some (.struct fs) => match P.stoodInHeld t with
      | true => none
      | false => match flatGo (flatT P d) fs.toList 0 with
        | some n => match (P.info? t).map (·.size) with
          | some s => match Nat.beq s n with
            | true => some n
            | false => none
          | none => none
        | none => none
    | _ => none

def mkV (P : Program) (t : TypeId) (l : List Int) : Value :=
  match P.underlying t with
  | some (.int _) => .int .i64 (l.getD 0 0)
  | _ => .agg (ints l)

theorem ints_extract (l : List Int) (off n : Nat) : (ints l).extract off (off + n) = ints ((l.drop off).take n) := by
  apply Array.ext'
  simp [ints, List.map_take, List.map_drop, List.extract_eq_take_drop]

theorem part_flat {P : Program} {d : Nat} {t : TypeId} {n : Nat} (h : flatT P d t = some n) {l : List Int} {off : Nat} (hl : off + n ≤ l.length) (w : World) : (part t (ints l) off).run P w = .ok (mkV P t ((l.drop off).take n)) w := by
  cases d with
  | zero => simp [flatT] at h
  | succ d =>
    simp only [flatT] at h
    split at h
    · rename_i hu; cases h
      have hag : (isAgg t).run P w = .ok false w := by simp [isAgg, run_underlying hu]
      have hlt : off < l.length := by omega
      have hget : (ints l)[off]? = some (.int .i64 l[off]) := by simp [ints, hlt]
      simp only [part, Sem.run_bind, hag, Result.andThen_ok, Bool.false_eq_true, if_false, hget, mkV, hu, Sem.run_pure]
      congr 2
      simp [hlt]
    · rename_i fs hu
      split at h
      · cases h
      split at h
      rotate_left
      · cases h
      split at h
      rotate_left
      · cases h
      rename_i s hs
      split at h
      rotate_left
      · cases h
      rename_i hb
      have e := Nat.eq_of_beq_eq_true hb
      cases h
      subst e
      have hag : (isAgg t).run P w = .ok true w := by simp [isAgg, run_underlying hu]
      have hsz : (sizeOf t).run P w = .ok s w := by
        cases hi : P.info? t with
        | none => rw [hi] at hs; cases hs
        | some i => rw [hi] at hs; simp at hs; simp [sizeOf, typeInfo, hi, hs]
      simp only [part, Sem.run_bind, hag, Result.andThen_ok, if_true, hsz, mkV, hu, Sem.run_pure, ints_extract]
    · cases h

theorem go_le {P : Program} {d : Nat} : ∀ {fs : List Field} {off n : Nat}, flatGo (flatT P d) fs off = some n → off ≤ n
  | [], off, n, h => by simp only [flatGo] at h; cases h; exact Nat.le_refl _
  | f :: fs, off, n, h => by
    simp only [flatGo] at h
    split at h
    rotate_left
    · cases h
    split at h
    rotate_left
    · cases h
    have := go_le h
    omega

theorem flat_fields {P : Program} {d : Nat} (ih : ∀ {t : TypeId} {n : Nat}, flatT P d t = some n → ∀ (k : Nat) (as bs : List Int) (w : World), as.length = n → bs.length = n → (Op.equalIn (k + d) t (mkV P t as) (mkV P t bs)).run P w = .ok (allEq as bs) w) :
    ∀ {fs : List Field} {off n : Nat}, flatGo (flatT P d) fs off = some n → ∀ (k : Nat) (as bs : List Int) (w : World), as.length = n → bs.length = n → off ≤ n →
    (Op.eqFields (k + d) (ints as) (ints bs) fs).run P w = .ok (allEq (as.drop off) (bs.drop off)) w
  | [], off, n, h, k, as, bs, w, ha, hb, _ => by
    simp only [flatGo] at h
    cases h
    rw [List.drop_of_length_le (by omega), List.drop_of_length_le (by omega)]
    simp [Op.eqFields, allEq]
  | f :: fs, off, n, h, k, as, bs, w, ha, hb, ho => by
    simp only [flatGo] at h
    split at h
    rotate_left
    · cases h
    rename_i hc
    simp only [Bool.and_eq_true, bne_iff_ne, ne_eq] at hc
    obtain ⟨hname, hoff⟩ := hc
    have hoff := Nat.eq_of_beq_eq_true hoff
    split at h
    rotate_left
    · cases h
    rename_i m hm
    have hle := go_le h
    have h1 := part_flat hm (l := as) (off := f.offset) (by omega) w
    have h2 := part_flat hm (l := bs) (off := f.offset) (by omega) w
    have h3 := ih hm k ((as.drop f.offset).take m) ((bs.drop f.offset).take m) w (by simp; omega) (by simp; omega)
    have h4 := flat_fields ih h k as bs w ha hb hle
    have hsplit : allEq (as.drop off) (bs.drop off) = (allEq ((as.drop off).take m) ((bs.drop off).take m) && allEq (as.drop (off + m)) (bs.drop (off + m))) := by
      rw [← allEq_append (by simp; omega), ← List.drop_drop, ← List.drop_drop, List.take_append_drop, List.take_append_drop]
    rw [hoff] at h1 h2 h3
    simp only [Op.eqFields, ne_eq, hname, not_false_eq_true, if_true, Sem.run_bind, hoff, h1, h2, h3, Result.andThen_ok, Sem.run_ite, h4, hsplit]
    cases allEq ((as.drop off).take m) ((bs.drop off).take m) <;> simp

theorem flat_run {P : Program} : ∀ (d : Nat) {t : TypeId} {n : Nat}, flatT P d t = some n → ∀ (k : Nat) (as bs : List Int) (w : World), as.length = n → bs.length = n →
    (Op.equalIn (k + d) t (mkV P t as) (mkV P t bs)).run P w = .ok (allEq as bs) w := by
  intro d
  induction d with
  | zero => intro t n h; simp [flatT] at h
  | succ d ih =>
    intro t n h k as bs w ha hb
    simp only [flatT] at h
    split at h
    · rename_i hu; cases h
      obtain ⟨a, rfl⟩ := List.length_eq_one_iff.1 ha
      obtain ⟨b, rfl⟩ := List.length_eq_one_iff.1 hb
      have e : ∀ x : Int, mkV P t [x] = .int .i64 x := fun x => by simp only [mkV, hu]; rfl
      rw [e, e, show k + (d + 1) = k + d + 1 by omega, run_equalIn_int w (k + d) t .i64 .i64 a b hu]
      simp [allEq]
    · rename_i fs hu
      split at h
      · cases h
      rename_i hst
      split at h
      rotate_left
      · cases h
      rename_i n' hgo
      split at h
      rotate_left
      · cases h
      split at h
      rotate_left
      · cases h
      cases h
      have hfo : P.fieldsOf t = fs := by simp only [Program.fieldsOf, hu]
      have e : ∀ x : List Int, mkV P t x = .agg (ints x) := fun x => by simp only [mkV, hu]
      rw [e, e, show k + (d + 1) = k + d + 1 by omega, run_equalIn_struct w (k + d) t (ints as) (ints bs) (by rw [hfo]; exact hu) hst, hfo]
      have := flat_fields (fun {t n} h => ih h) hgo k as bs w (by omega) (by omega) (Nat.zero_le _)
      simpa using this
    · cases h
end Go.Proofs.Ytdoagjphjnbbnaa.Ev
