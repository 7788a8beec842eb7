/- What an operation does to a state: the reckoning. No program in sight: the types come as a table, the callees as a list of contracts. -/
import Derived.Test.YthbighklfajmdaaEv0
namespace Go.Proofs.Ythbighklfajmdaa.Ev
open Go.RowKit
set_option linter.unusedVariables false
set_option linter.unusedSimpArgs false

inductive TK where
  | int (k : IntKind)
  | bool
  | slice (e : TypeId)
  | struct (fs : List (Nat × TypeId))
  | array (n : Nat) (e : TypeId)
  | ptr (e : TypeId)
  | other

/-- What is known of a type: its kind, its cells, its bytes, its zero, and how many numbers it is made of if '==' compares just those. -/
structure TI where
  k : TK
  size : Nat
  bytes : Nat
  zero : List SV
  flat : Bool

abbrev Tab := List (Nat × TI)
def Tab.get : Tab → Nat → Option TI
  | [], _ => none
  | (n, i) :: r, t => match Nat.beq n t with
    | true => some i
    | false => Tab.get r t

/-- What is to be shown, and what follows then. -/
structure VC (p : Prop) : Prop where
  out : p

structure Res where
  pre : List Prop
  val : SV
  wr : List (Nat × Blk)

/-- What a contract tells: what it asks, its value (new blocks are numbered from nid on), its new blocks, and which of the arguments' blocks it uses up. -/
structure CRes where
  pre : List Prop
  val : SV
  nb : List Blk
  used : List Nat

structure Con where
  f : FuncId
  run : Nat → List SV → (Nat → Blk) → Option CRes

def nats : List Nat := [0, 1, 2, 3, 4, 5, 6, 7, 8, 9, 10, 11, 12, 13, 14, 15, 16, 17, 18, 19, 20, 21, 22, 23, 24, 25, 26, 27, 28, 29, 30, 31, 32, 33, 34, 35, 36, 37, 38, 39, 40, 41, 42, 43, 44, 45, 46, 47, 48, 49, 50, 51, 52, 53, 54, 55, 56, 57, 58, 59, 60, 61, 62, 63, 64, 65, 66, 67, 68, 69, 70, 71, 72, 73, 74, 75, 76, 77, 78, 79, 80, 81, 82, 83, 84, 85, 86, 87, 88, 89, 90, 91, 92, 93, 94, 95, 96, 97, 98, 99, 100, 101, 102, 103, 104, 105, 106, 107, 108, 109, 110, 111, 112, 113, 114, 115, 116, 117, 118, 119, 120, 121, 122, 123, 124, 125, 126, 127]

/-- A small number, as a numeral. -/
def normN (n : Nat) : List Nat → Option Nat
  | [] => none
  | m :: ms => match Nat.beq m n with
    | true => some m
    | false => normN n ms
theorem normN_eq {n : Nat} : ∀ {l : List Nat} {k : Nat}, normN n l = some k → k = n
  | m :: ms, k, h => by
    simp only [normN] at h
    split at h
    · rename_i e; cases h; exact Nat.eq_of_beq_eq_true e
    · exact normN_eq h

def cellsOf : SV → Option (List SV)
  | .agg cs => some cs
  | .tup _ => none
  | .any => none
  | .lit k n => some [.lit k n]
  | .int k n => some [.int k n]
  | .blit b => some [.blit b]
  | .bool b => some [.bool b]
  | .ptr i o => some [.ptr i o]
  | .pti a b c d => some [.pti a b c d]
  | .nils => some [.nils]
  | .sl a b c d => some [.sl a b c d]
  | .osl a b c d => some [.osl a b c d]
  | .cst v => match v.oneCell' with
    | true => some [.cst v]
    | false => none

def toI : SV → Option Int
  | .lit .i64 n => some n
  | .int .i64 n => some n
  | _ => none
def toIs : List SV → Option (List Int)
  | [] => some []
  | s :: r => match toI s with
    | some n => match toIs r with
      | some ns => some (n :: ns)
      | none => none
    | none => none
def toRows : List (List SV) → Option (List (List Int))
  | [] => some []
  | s :: r => match toIs s with
    | some n => match toRows r with
      | some ns => some (n :: ns)
      | none => none
    | none => none
def toB : SV → Option Bool
  | .blit b => some b
  | .bool b => some b
  | _ => none
/-- A number, its kind, and whether it is known. -/
def toN : SV → Option (IntKind × Int × Bool)
  | .lit k n => some (k, n, true)
  | .int k n => some (k, n, false)
  | _ => none

/-- May it be stored in one cell? -/
def plain : SV → Bool
  | .lit _ _ | .int _ _ | .blit _ | .bool _ | .ptr _ _ | .pti _ _ _ _ | .nils | .sl _ _ _ _ | .osl _ _ _ _ => true
  | .cst v => v.oneCell'
  | _ => false
def plains : List SV → Bool
  | [] => true
  | s :: r => match plain s with
    | true => plains r
    | false => false

def idOf : SV → List Nat
  | .ptr id _ => [id]
  | .pti id _ _ _ => [id]
  | .sl id _ _ _ => [id]
  | .osl _ id _ _ => [id]
  | _ => []
def idsOf : List SV → List Nat
  | [] => []
  | s :: r => idOf s ++ idsOf r

/-- Which blocks an operation looks into. -/
def rids : Op → List SV → List Nat
  | .load _ _, p :: _ => idOf p
  | .store _ _ _, p :: _ => idOf p
  | .call _, vs => idsOf vs
  | _, _ => []

def opnds : Op → List Operand
  | .move x | .assign x | .box _ x | .load _ x | .nilCheck x | .unOp _ _ x | .convert _ _ x | .fieldAddr _ x _ | .field _ x _ | .extract x _ => [x]
  | .pick c a b => [c, a, b]
  | .build _ ps | .buildSlice _ _ ps => ps.toList.map (·.2)
  | .store _ a v | .binOp _ _ a v _ | .makeSlice _ a v | .indexAddr _ a v | .index _ a v => [a, v]
  | .slice _ x none none none => [x]
  | .slice _ x (some l) none none => [x, l]
  | .slice _ x none (some h) none => [x, h]
  | .slice _ x (some l) (some h) none => [x, l, h]
  | .call { callee := .value f, args, .. } => f :: args.toList
  | .call { callee := .builtin _, args, .. } => args.toList
  | _ => []

/-- What must be shown so that a sum, a difference or a product does not wrap round. -/
def InR : IntKind → Int → Prop
  | .i64, e => -9223372036854775808 ≤ e ∧ e ≤ 9223372036854775807
  | k, e => k.wrap e = e

def overlay : List SV → Nat → List SV → Option (List SV)
  | cs, 0, [] => some cs
  | [], _, _ => none
  | c :: cs, 0, v :: vs => match overlay cs 0 vs with
    | some r => some (v :: r)
    | none => none
  | c :: cs, n + 1, vs => match overlay cs n vs with
    | some r => some (c :: r)
    | none => none

def takeN : List SV → Nat → Nat → Option (List SV)
  | _, 0, 0 => some []
  | [], _, _ => none
  | c :: cs, 0, n + 1 => match takeN cs 0 n with
    | some r => some (c :: r)
    | none => none
  | c :: cs, k + 1, n => takeN cs k n

def lenIs : List SV → Nat → Bool
  | [], 0 => true
  | _ :: r, n + 1 => lenIs r n
  | _, _ => false

/-- Numbers j .. j + n - 1 of element i. -/
def pick2 (xs : List (List Int)) (i : Nat) : Nat → Nat → List SV
  | _, 0 => []
  | j, n + 1 => .int .i64 (at2 xs i j) :: pick2 xs i (j + 1) n

def isAggK : TK → Bool
  | .struct _ => true
  | .array _ _ => true
  | _ => false

/-- A known number, reckoned. -/
def litO : Int → Option Int
  | .ofNat k => match normN k nats with
    | some k' => some (Int.ofNat k')
    | none => some (Int.ofNat k)
  | .negSucc k => some (Int.negSucc k)
theorem litO_eq {n k : Int} (h : litO n = some k) : k = n := by
  cases n with
  | ofNat n =>
    simp only [litO] at h
    split at h
    · rename_i k' hk; cases h; rw [normN_eq hk]
    · cases h; rfl
  | negSucc n => simp only [litO] at h; cases h; rfl

def binI (op : BinOp) (k : IntKind) (a b : Int) (known : Bool) : Option (List Prop × SV) :=
  match op with
  | .add => match known with | true => (match litO (k.wrap (a + b)) with | some n => some ([], .lit k n) | none => none) | false => some ([InR k (a + b)], .int k (a + b))
  | .sub => match known with | true => (match litO (k.wrap (a - b)) with | some n => some ([], .lit k n) | none => none) | false => some ([InR k (a - b)], .int k (a - b))
  | .mul => match known with | true => (match litO (k.wrap (a * b)) with | some n => some ([], .lit k n) | none => none) | false => some ([InR k (a * b)], .int k (a * b))
  | .quo => some ([b ≠ 0, InR k (a.tdiv b)], .int k (a.tdiv b))
  | .rem => some ([b ≠ 0], .int k (a.tmod b))
  | .eql => match known with | true => some ([], .blit (decide (a = b))) | false => some ([], .bool (decide (a = b)))
  | .neq => match known with | true => some ([], .blit (!decide (a = b))) | false => some ([], .bool (!decide (a = b)))
  | .lss => match known with | true => some ([], .blit (decide (a < b))) | false => some ([], .bool (decide (a < b)))
  | .leq => match known with | true => some ([], .blit (decide (a ≤ b))) | false => some ([], .bool (decide (a ≤ b)))
  | .gtr => match known with | true => some ([], .blit (decide (b < a))) | false => some ([], .bool (decide (b < a)))
  | .geq => match known with | true => some ([], .blit (decide (b ≤ a))) | false => some ([], .bool (decide (b ≤ a)))
  | _ => none

def eqInts : List Int → List Int → Option Bool
  | [], [] => some true
  | a :: as, b :: bs => match as with
    | [] => match bs with
      | [] => some (decide (a = b))
      | _ => none
    | _ => match eqInts as bs with
      | some r => some (decide (a = b) && r)
      | none => none
  | _, _ => none

def isEq : BinOp → Option Bool
  | .eql => some true
  | .neq => some false
  | _ => none

/-- '==' (e) or '!=' (not e) on slices, on aggregates, on truths. -/
def eqSl (e : Bool) : SV → SV → Option (List Prop × SV)
  | .nils, .nils => some ([], .blit e)
  | .sl _ _ _ _, .nils => some ([], .blit (!e))
  | .nils, .sl _ _ _ _ => some ([], .blit (!e))
  | .osl b _ _ _, .nils => match e with
    | true => some ([], .bool b)
    | false => some ([], .bool (!b))
  | .nils, .osl b _ _ _ => match e with
    | true => some ([], .bool b)
    | false => some ([], .bool (!b))
  | _, _ => none
def eqAgg (ti : TI) (e : Bool) : SV → SV → Option (List Prop × SV)
  | .agg cs, .agg ds => match ti.flat && lenIs cs ti.size && lenIs ds ti.size with
    | true => match toIs cs with
      | some as => match toIs ds with
        | some bs => match eqInts as bs with
          | some r => match e with
            | true => some ([], .bool r)
            | false => some ([], .bool (!r))
          | none => none
        | none => none
      | none => none
    | false => none
  | _, _ => none
def eqBool (e : Bool) (x y : SV) : Option (List Prop × SV) :=
  match toB x with
  | some a => match toB y with
    | some b => match e with
      | true => some ([], .bool (a == b))
      | false => some ([], .bool (!(a == b)))
    | none => none
  | none => none
def binS (T : Tab) (op : BinOp) (t : TypeId) (x y : SV) : Option (List Prop × SV) :=
  match toN x with
  | some (k, a, u) => match toN y with
    | some (k', b, v) => match decide (k = k') with
      | true => binI op k a b (u && v)
      | false => none
    | none => none
  | none => match isEq op with
    | none => none
    | some e => match T.get t with
      | none => none
      | some ti => match ti.k with
        | .slice _ => eqSl e x y
        | .bool => eqBool e x y
        | _ => eqAgg ti e x y

/-- Parts laid into a struct's or an array's cells. -/
def layS (T : Tab) (fs : List (Nat × TypeId)) : List (Nat × SV) → List SV → Option (List SV)
  | [], cs => some cs
  | (i, v) :: r, cs => match fs[i]? with
    | some (off, t) => match T.get t with
      | some ti => match cellsOf v with
        | some vs => match lenIs vs ti.size with
          | true => match overlay cs off vs with
            | some cs' => layS T fs r cs'
            | none => none
          | false => none
        | none => none
      | none => none
    | none => none
def layA (size : Nat) : List (Nat × SV) → List SV → Option (List SV)
  | [], cs => some cs
  | (i, v) :: r, cs => match cellsOf v with
    | some vs => match lenIs vs size with
      | true => match overlay cs (i * size) vs with
        | some cs' => layA size r cs'
        | none => none
      | false => none
    | none => none
def repl : Nat → List SV → List SV
  | 0, _ => []
  | n + 1, z => z ++ repl n z
/-- Cells cut into rows. -/
def cut (size : Nat) : Nat → List SV → Option (List (List SV))
  | 0, [] => some []
  | n + 1, cs => match takeN cs 0 size with
    | some r => match cut size n (cs.drop size) with
      | some rs => some (r :: rs)
      | none => none
    | none => none
  | _, _ => none

def zips : List (Nat × Operand) → List SV → Option (List (Nat × SV))
  | [], [] => some []
  | (i, _) :: r, v :: vs => match zips r vs with
    | some l => some ((i, v) :: l)
    | none => none
  | _, _ => none

/-- A known index, as a number. -/
def litN : Int → Option Nat
  | .ofNat n => some n
  | .negSucc _ => none

def numberN (nid : Nat) : List Blk → List (Nat × Blk)
  | [] => []
  | b :: r => (nid, b) :: numberN (nid + 1) r

def kill (rd : Nat → Blk) : List Nat → Option (List (Nat × Blk))
  | [] => some []
  | i :: r => match (rd i).own with
    | true => match kill rd r with
      | some l => some ((i, .dead) :: l)
      | none => none
    | false => none

def findC (C : List Con) (f : FuncId) : Option Con :=
  match C with
  | [] => none
  | c :: r => match Nat.beq c.f f with
    | true => some c
    | false => findC r f

def setInts (l : List Int) : Nat → List Int → List Int
  | _, [] => l
  | j, v :: vs => setInts (l.set j v) (j + 1) vs
def upd2 (xs : List (List Int)) (i j : Nat) (vs : List Int) : List (List Int) := xs.set i (setInts (xs.getD i []) j vs)

/-- A slice's length. -/
def lenS : SV → Option SV
  | .nils => some (.lit .i64 0)
  | .sl _ _ _ n => some (.int .i64 (n : Int))
  | .osl _ _ _ n => some (.int .i64 (n : Int))
  | _ => none

/-- The elements of a slice, as a list of rows. -/
def view (rd : Nat → Blk) : SV → Option (List (List Int))
  | .nils => some []
  | .sl id esz off len => match rd id with
    | .arr _ _ _ xs => some ((xs.drop off).take len)
    | _ => none
  | .osl _ id _ len => match rd id with
    | .arr _ _ _ xs => some (xs.take len)
    | _ => none
  | _ => none

def effPick (c a b : SV) : Option Res :=
  match c with
  | .blit true => some ⟨[], a, []⟩
  | .blit false => some ⟨[], b, []⟩
  | .bool p => match toB a with
    | some x => match toB b with
      | some y => some ⟨[], .bool (bif p then x else y), []⟩
      | none => some ⟨[p = true], a, []⟩
    | none => some ⟨[p = false], b, []⟩
  | _ => none

def effAlloc (T : Tab) (nid : Nat) (t : TypeId) : Option Res :=
  match T.get t with
  | some ti => some ⟨[], .ptr nid 0, [(nid, .cells ti.zero)]⟩
  | none => none

def effBox (nid : Nat) (x : SV) : Option Res :=
  match cellsOf x with
  | some cs => some ⟨[], .ptr nid 0, [(nid, .cells cs)]⟩
  | none => none

def effBuild (T : Tab) (t : TypeId) (ps : Array (Nat × Operand)) (vs : List SV) : Option Res :=
  match T.get t with
  | some ti => match zips ps.toList vs with
    | some l => match ti.k with
      | .struct fs => match layS T fs l ti.zero with
        | some cs => some ⟨[], .agg cs, []⟩
        | none => none
      | .array _ e => match T.get e with
        | some ei => match layA ei.size l ti.zero with
          | some cs => some ⟨[], .agg cs, []⟩
          | none => none
        | none => none
      | _ => none
    | none => none
  | none => none

def effBuildSlice (T : Tab) (nid : Nat) (t : TypeId) (n : Nat) (ps : Array (Nat × Operand)) (vs : List SV) : Option Res :=
  match T.get t with
  | some { k := .slice e, .. } => match T.get e with
    | some ei => match zips ps.toList vs with
      | some l => match layA ei.size l (repl n ei.zero) with
        | some cs => match Nat.ble 1 n && Nat.ble 1 ei.size && Nat.ble (n * ei.size) 16777216 && lenIs ei.zero ei.size with
          | true => match cut ei.size n cs with
            | some rows => match toRows rows with
              | some xs => some ⟨[], .sl nid ei.size 0 n, [(nid, .arr true true ei.size xs)]⟩
              | none => some ⟨[], .sl nid ei.size 0 n, [(nid, .cells cs)]⟩
            | none => none
          | false => none
        | none => none
      | none => none
    | none => none
  | _ => none

def effLoad (T : Tab) (rd : Nat → Blk) (t : TypeId) (p : SV) : Option Res :=
  match T.get t with
  | some ti => match p with
    | .ptr id off => match rd id with
      | .cells cs => match isAggK ti.k with
        | true => match takeN cs off ti.size with
          | some l => some ⟨[], .agg l, []⟩
          | none => none
        | false => match cs[off]? with
          | some v => some ⟨[], v, []⟩
          | none => none
      | _ => none
    | .pti id esz i j => match rd id with
      | .arr ow ok esz' xs => match Nat.beq esz esz' && Nat.ble (j + ti.size) esz with
        | true => match isAggK ti.k with
          | true => some ⟨[ok = true, i < xs.length], .agg (pick2 xs i j ti.size), []⟩
          | false => some ⟨[ok = true, i < xs.length, ti.size = 1], .int .i64 (at2 xs i j), []⟩
        | false => none
      | _ => none
    | _ => none
  | none => none

def effStore (T : Tab) (rd : Nat → Blk) (t : TypeId) (p x : SV) : Option Res :=
  match T.get t with
  | some ti => match cellsOf x with
    | some vs => match lenIs vs ti.size && plains vs with
      | true => match p with
        | .ptr id off => match rd id with
          | .cells cs => match overlay cs off vs with
            | some cs' => some ⟨[], .any, [(id, .cells cs')]⟩
            | none => none
          | _ => none
        | .pti id esz i j => match rd id with
          | .arr true ok esz' xs => match toIs vs with
            | some ns => match Nat.beq esz esz' && Nat.ble (j + ti.size) esz with
              | true => some ⟨[ok = true, i < xs.length, (xs.getD i []).length = esz], .any, [(id, .arr true ok esz (upd2 xs i j ns))]⟩
              | false => none
            | none => none
          | _ => none
        | _ => none
      | false => none
    | none => none
  | none => none

def effNil (x : SV) : Option Res :=
  match x with
  | .ptr id off => some ⟨[], .ptr id off, []⟩
  | .pti id esz i j => some ⟨[], .pti id esz i j, []⟩
  | _ => none

def effBin (T : Tab) (op : BinOp) (t : TypeId) (x y : SV) : Option Res :=
  match binS T op t x y with
  | some (ps, v) => some ⟨ps, v, []⟩
  | none => none

def effUn (op : UnOp) (x : SV) : Option Res :=
  match op with
  | .not => match x with
    | .blit b => some ⟨[], .blit (!b), []⟩
    | .bool b => some ⟨[], .bool (!b), []⟩
    | _ => none
  | .neg => match x with
    | .lit k n => match litO (k.wrap (0 - n)) with
      | some z => some ⟨[], .lit k z, []⟩
      | none => none
    | .int k n => some ⟨[InR k (-n)], .int k (-n), []⟩
    | _ => none
  | _ => none

def effConv (T : Tab) (s d : TypeId) (x : SV) : Option Res :=
  match T.get s with
  | some _ => match T.get d with
    | some { k := .int k, .. } => match x with
      | .lit _ n => match litO (k.wrap n) with
        | some z => some ⟨[], .lit k z, []⟩
        | none => none
      | .int _ n => some ⟨[InR k n], .int k n, []⟩
      | _ => none
    | _ => none
  | none => none

def effFieldAddr (T : Tab) (t : TypeId) (f : Nat) (p : SV) : Option Res :=
  match T.get t with
  | some { k := .struct fs, .. } => match fs[f]? with
    | some (off, ft) => match T.get ft with
      | some fi => match Nat.ble 1 fi.size with
        | true => match p with
          | .ptr id o => match normN (o + off) nats with
            | some o' => some ⟨[], .ptr id o', []⟩
            | none => none
          | .pti id esz i j => match normN (j + off) nats with
            | some j' => some ⟨[], .pti id esz i j', []⟩
            | none => none
          | _ => none
        | false => none
      | none => none
    | none => none
  | _ => none

def effField (T : Tab) (t : TypeId) (f : Nat) (x : SV) : Option Res :=
  match T.get t with
  | some { k := .struct fs, .. } => match fs[f]? with
    | some (off, ft) => match T.get ft with
      | some fi => match x with
        | .agg cs => match isAggK fi.k with
          | true => match takeN cs off fi.size with
            | some l => some ⟨[], .agg l, []⟩
            | none => none
          | false => match cs[off]? with
            | some v => some ⟨[], v, []⟩
            | none => none
        | _ => none
      | none => none
    | none => none
  | _ => none

def effIndexAddr (T : Tab) (t : TypeId) (x ix : SV) : Option Res :=
  match T.get t with
  | some ti => match ti.k with
    | .slice e => match T.get e with
      | some ei => match x with
        | .sl id esz off len => match Nat.beq esz ei.size with
          | true => match ix with
            | .lit _ n => match litN n with
              | some k => some ⟨[k < len], .pti id esz (off + k) 0, []⟩
              | none => none
            | .int _ n => some ⟨[0 ≤ n, n < len], .pti id esz (off + n.toNat) 0, []⟩
            | _ => none
          | false => none
        | .osl b id esz len => match Nat.beq esz ei.size with
          | true => match ix with
            | .lit _ n => match litN n with
              | some k => some ⟨[k < len], .pti id esz k 0, []⟩
              | none => none
            | .int _ n => some ⟨[0 ≤ n, n < len], .pti id esz n.toNat 0, []⟩
            | _ => none
          | false => none
        | _ => none
      | none => none
    | .array n e => match T.get e with
      | some ei => match x with
        | .ptr id o => match ix with
          | .lit _ z => match litN z with
            | some k => match Nat.blt k n with
              | true => match normN (o + k * ei.size) nats with
                | some o' => some ⟨[], .ptr id o', []⟩
                | none => none
              | false => none
            | none => none
          | _ => none
        | _ => none
      | none => none
    | _ => none
  | none => none

def effIndex (T : Tab) (t : TypeId) (x ix : SV) : Option Res :=
  match T.get t with
  | some { k := .array n e, .. } => match T.get e with
    | some ei => match x with
      | .agg cs => match ix with
        | .lit _ z => match litN z with
          | some k => match Nat.blt k n with
            | true => match isAggK ei.k with
              | true => match takeN cs (k * ei.size) ei.size with
                | some l => some ⟨[], .agg l, []⟩
                | none => none
              | false => match cs[k * ei.size]? with
                | some v => some ⟨[], v, []⟩
                | none => none
            | false => none
          | none => none
        | _ => none
      | _ => none
    | none => none
  | _ => none

def effExtract (i : Nat) (x : SV) : Option Res :=
  match x with
  | .tup ss => match ss[i]? with
    | some v => some ⟨[], v, []⟩
    | none => none
  | _ => none

def effSlice (T : Tab) (t : TypeId) (lo hi : Option Operand) (x : SV) (bs : List SV) : Option Res :=
  match T.get t with
  | some { k := .slice e, .. } => match T.get e with
    | some ei => match x with
      | .nils => match lo, hi, bs with
        | none, none, [] => some ⟨[], .nils, []⟩
        | some _, none, [l] => match toI l with
          | some l => some ⟨[l = 0], .nils, []⟩
          | none => none
        | none, some _, [h] => match toI h with
          | some h => some ⟨[h = 0], .nils, []⟩
          | none => none
        | some _, some _, [l, h] => match toI l with
          | some l => match toI h with
            | some h => some ⟨[l = 0, h = 0], .nils, []⟩
            | none => none
          | none => none
        | _, _, _ => none
      | .sl id esz off len => match Nat.beq esz ei.size with
        | true => match lo, hi, bs with
          | none, none, [] => some ⟨[], .sl id esz off len, []⟩
          | some _, none, [l] => match toI l with
            | some l => some ⟨[0 ≤ l, l ≤ len], .sl id esz (off + l.toNat) (len - l.toNat), []⟩
            | none => none
          | none, some _, [h] => match toI h with
            | some h => some ⟨[0 ≤ h, h ≤ len], .sl id esz off h.toNat, []⟩
            | none => none
          | some _, some _, [l, h] => match toI l with
            | some l => match toI h with
              | some h => some ⟨[0 ≤ l, l ≤ h, h ≤ len], .sl id esz (off + l.toNat) (h.toNat - l.toNat), []⟩
              | none => none
            | none => none
          | _, _, _ => none
        | false => none
      | .osl b id esz len => match Nat.beq esz ei.size with
        | true => match lo, hi, bs with
          | none, some _, [h] => match toI h with
            | some h => some ⟨[0 ≤ h, h ≤ len], .osl b id esz h.toNat, []⟩
            | none => none
          | _, _, _ => none
        | false => none
      | _ => none
    | none => none
  | _ => none

def effMake (T : Tab) (nid : Nat) (t : TypeId) (l c : SV) : Option Res :=
  match T.get t with
  | some { k := .slice e, .. } => match T.get e with
    | some ei => match toIs ei.zero with
      | some z => match toI l with
        | some n => match toI c with
          | some n' => match lenIs ei.zero ei.size && Nat.ble 1 ei.size with
            | true => some ⟨[n' = n, 0 ≤ n, n * ei.bytes ≤ 1099511627776, n ≤ 1099511627776], .sl nid ei.size 0 n.toNat, [(nid, .arr true true ei.size (List.replicate n.toNat z))]⟩
            | false => none
          | none => none
        | none => none
      | none => none
    | none => none
  | _ => none

/-- What is appended: how many, which rows, what is asked, where they lie. -/
def srcS (rd : Nat → Blk) (esz : Nat) (x : SV) : Option (Nat × List (List Int) × List Prop × List Nat) :=
  match x with
  | .nils => some (0, [], [], [])
  | .sl jd e off n => match rd jd with
    | .arr _ ok e' ys => match Nat.beq e esz && Nat.beq e' esz with
      | true => some (n, (ys.drop off).take n, [n = 0 ∨ ok = true, off + n ≤ ys.length], [jd])
      | false => none
    | _ => none
  | .osl _ jd e n => match rd jd with
    | .arr _ ok e' ys => match Nat.beq e esz && Nat.beq e' esz with
      | true => some (n, ys.take n, [n = 0 ∨ ok = true, n ≤ ys.length], [jd])
      | false => none
    | _ => none
  | _ => none
def isIn (i : Nat) : List Nat → Bool
  | [] => false
  | j :: r => match Nat.beq i j with
    | true => true
    | false => isIn i r
def consP : List Prop → List Prop → List Prop
  | [], l => l
  | x :: r, l => x :: consP r l
def effAppend (T : Tab) (rd : Nat → Blk) (nid : Nat) (ts : Array TypeId) (s x : SV) : Option Res :=
  match ts.toList with
  | [t, t2] => match T.get t with
    | some { k := .slice e, .. } => match T.get e with
      | some ei => match T.get t2 with
        | some { k := .slice _, .. } => match toIs ei.zero with
          | some _ => match lenIs ei.zero ei.size && Nat.ble 1 ei.size && Nat.ble ei.bytes 1024 && Nat.ble 1 ei.bytes with
            | true => match srcS rd ei.size x with
              | some (n, zs, ps, js) => match s with
                | .nils => some ⟨consP ps [n ≤ 4294967296], .osl (decide (n = 0)) nid ei.size n, [(nid, .arr true (decide (0 < n)) ei.size zs)]⟩
                | .sl id esz off len => match rd id with
                  | .arr true ok esz' xs => match Nat.beq esz ei.size && Nat.beq esz' ei.size && !isIn id js with
                    | true => some ⟨consP ps [ok = true, off = 0, len ≤ xs.length, len + n ≤ 4294967296], .sl nid ei.size 0 (len + n), [(nid, .arr true true ei.size (xs.take len ++ zs)), (id, .dead)]⟩
                    | false => none
                  | _ => none
                | .osl b id esz len => match rd id with
                  | .arr true ok esz' xs => match Nat.beq esz ei.size && Nat.beq esz' ei.size && !isIn id js with
                    | true => some ⟨consP ps [b = false → ok = true, b = true → xs.take len = [], len ≤ xs.length, len + n ≤ 4294967296], .osl (b && decide (n = 0)) nid ei.size (len + n), [(nid, .arr true (!b || decide (0 < n)) ei.size (xs.take len ++ zs)), (id, .dead)]⟩
                    | false => none
                  | _ => none
                | _ => none
              | none => none
            | false => none
          | none => none
        | _ => none
      | none => none
    | _ => none
  | _ => none
/-- A slice of no elements, made. -/
def effBuild0 (T : Tab) (nid : Nat) (t : TypeId) (ps : Array (Nat × Operand)) : Option Res :=
  match T.get t with
  | some { k := .slice e, .. } => match T.get e with
    | some ei => match ps.toList with
      | [] => some ⟨[], .sl nid ei.size 0 0, [(nid, .arr true true ei.size [])]⟩
      | _ => none
    | none => none
  | _ => none

def effBuiltin (T : Tab) (rd : Nat → Blk) (nid : Nat) (b : Builtin) (ts : Array TypeId) (vs : List SV) : Option Res :=
  match b with
  | .len => match vs with
    | [x] => match ts.toList with
      | [t] => match T.get t with
        | some { k := .slice _, .. } => match lenS x with
          | some v => some ⟨[], v, []⟩
          | none => none
        | _ => none
      | _ => none
    | _ => none
  | .min => match vs with
    | [x, y] => match toN x with
      | some (k, a, _) => match toN y with
        | some (k', b, _) => some ⟨[], .int k (min a b), []⟩
        | none => none
      | none => none
    | _ => none
  | .max => match vs with
    | [x, y] => match toN x with
      | some (k, a, _) => match toN y with
        | some (k', b, _) => some ⟨[], .int k (max a b), []⟩
        | none => none
      | none => none
    | [x, y, z] => match toN x with
      | some (k, a, _) => match toN y with
        | some (k', b, _) => match toN z with
          | some (k'', c, _) => some ⟨[], .int k (max (max a b) c), []⟩
          | none => none
        | none => none
      | none => none
    | _ => none
  | .append => match vs with
    | [s, x] => effAppend T rd nid ts s x
    | _ => none
  | _ => none

def effCall (C : List Con) (rd : Nat → Blk) (nid : Nat) (f : FuncId) (args : List SV) : Option Res :=
  match findC C f with
  | some c => match c.run nid args rd with
    | some r => match kill rd r.used with
      | some l => some ⟨r.pre, r.val, numberN nid r.nb ++ l⟩
      | none => none
    | none => none
  | none => none

def eff (T : Tab) (C : List Con) (op : Op) (vs : List SV) (rd : Nat → Blk) (nid : Nat) : Option Res :=
  match op, vs with
  | .move _, [x] => some ⟨[], x, []⟩
  | .assign _, [x] => some ⟨[], x, []⟩
  | .pick _ _ _, [c, a, b] => effPick c a b
  | .alloc t, [] => effAlloc T nid t
  | .box _ _, [x] => effBox nid x
  | .build t ps, vs => effBuild T t ps vs
  | .buildSlice t n ps, vs => match n with
    | 0 => effBuild0 T nid t ps
    | k + 1 => effBuildSlice T nid t (k + 1) ps vs
  | .load t _, [p] => effLoad T rd t p
  | .store t _ _, [p, x] => effStore T rd t p x
  | .nilCheck _, [x] => effNil x
  | .binOp op t _ _ _, [x, y] => effBin T op t x y
  | .unOp op _ _, [x] => effUn op x
  | .convert s d _, [x] => effConv T s d x
  | .fieldAddr t _ f, [p] => effFieldAddr T t f p
  | .field t _ f, [x] => effField T t f x
  | .indexAddr t _ _, [x, ix] => effIndexAddr T t x ix
  | .index t _ _, [x, ix] => effIndex T t x ix
  | .extract _ i, [x] => effExtract i x
  | .slice t _ lo hi none, x :: bs => effSlice T t lo hi x bs
  | .makeSlice t _ _, [l, c] => effMake T nid t l c
  | .call { callee := .builtin b, argTypes := ts, .. }, vs => effBuiltin T rd nid b ts vs
  | .call { callee := .value (.func f), .. }, _ :: args => effCall C rd nid f args
  | _, _ => none

/-- The value of an operand. -/
def ofV : Value → SV
  | .int k n => .lit k n
  | .bool b => .blit b
  | .slice none 0 0 => .nils
  | .agg cs => match toList cs.toList with
    | some l => .agg l
    | none => .any
  | v => .cst v
 where
  toList : List Value → Option (List SV)
    | [] => some []
    | .int k n :: r => match toList r with
      | some l => some (.lit k n :: l)
      | none => none
    | .bool b :: r => match toList r with
      | some l => some (.blit b :: l)
      | none => none
    | _ :: _ => none
def evL (l : List SV) : Operand → SV
  | .tmp t => getL l t
  | .const v => ofV v
  | _ => .any
def vals (l : List SV) : List Operand → List SV
  | [] => []
  | x :: r => evL l x :: vals l r
end Go.Proofs.Ythbighklfajmdaa.Ev
