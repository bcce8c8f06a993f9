/- Texts of this claim, put together: Abs Res Rel Ops. -/
import Derived.WalkKit
/- The abstract machine: Go values without addresses of the world, a heap of numbered blocks, and a big-step evaluator with fuel. Plain definitions; nothing of any program. -/
namespace PAbs
open Go
set_option linter.unusedVariables false

/-- A value of one cell. 'ptr b o': cell o of block b. 'slc b o n sz': n elements of sz cells each, from cell o of block b on. -/
inductive Cell where
  | bool (b : Bool)
  | int (k : IntKind) (n : Int)
  | str (s : List UInt8)
  | pnil
  | ptr (b o : Nat)
  | snil
  | slc (b o n sz : Nat)
  | fnil
  | fn (f : Nat)
  deriving DecidableEq, Inhabited

/-- A part of a tuple. -/
inductive TV where
  | c (x : Cell)
  | agg (cs : List Cell)
  deriving Inhabited

inductive AV where
  | c (x : Cell)
  | agg (cs : List Cell)
  | tup (vs : List TV)
  | clo (f : Nat) (caps : List Cell)
  deriving Inhabited

def TV.av : TV → AV
  | .c x => .c x
  | .agg cs => .agg cs

def AV.tv : AV → Option TV
  | .c x => some (.c x)
  | .agg cs => some (.agg cs)
  | .tup _ => none
  | .clo _ _ => none

def AV.cells : AV → Option (List Cell)
  | .c x => some [x]
  | .agg cs => some cs
  | .tup _ => none
  | .clo _ _ => none

def aundef : AV := .tup []

/-- A block: what came in (only read), what the call made, what is to be looked at no more. -/
inductive Blk where
  | ro (cs : List Cell)
  | own (cs : List Cell)
  | dead
  deriving Inhabited

abbrev AHeap := List Blk

def hcells (H : AHeap) (b : Nat) : Option (List Cell) :=
  match H[b]? with
  | some (.ro cs) => some cs
  | some (.own cs) => some cs
  | _ => none

def hown (H : AHeap) (b : Nat) : Option (List Cell) :=
  match H[b]? with
  | some (.own cs) => some cs
  | _ => none

inductive AOpd where
  | t (i : Nat)
  | k (v : AV)
  deriving Inhabited

abbrev AFrame := List AV

def AOpd.ev (fr : AFrame) : AOpd → AV
  | .t i => fr.getD i aundef
  | .k v => v

/-- Kinds of cells that are compared as they are. -/
inductive CK where
  | int (k : IntKind)
  | str
  | bool
  deriving DecidableEq, Inhabited

def CK.fits : CK → Cell → Bool
  | .int k, .int k' _ => decide (k' = k)
  | .str, .str _ => true
  | .bool, .bool _ => true
  | _, _ => false

def fitsAll : List CK → List Cell → Bool
  | [], [] => true
  | k :: sh, c :: cs => k.fits c && fitsAll sh cs
  | _, _ => false

/-- so many of one thing (not unfolded by simp) -/
def rep {α : Type} (n : Nat) (x : α) : List α := List.replicate n x

/-- What '==' looks at. -/
inductive EqT where
  | bool
  | ptr
  | slice
  | agg (sh : List CK)
  deriving DecidableEq, Inhabited

inductive AOp where
  | mv (x : AOpd)
  | pick (c a b : AOpd)
  | alloc (zero : List Cell)
  | box (x : AOpd)
  | build (zero : List Cell) (parts : List (Nat × Nat × AOpd))
  | buildSlice (zero : List Cell) (sz len : Nat) (parts : List (Nat × Nat × AOpd))
  | load1 (a : AOpd)
  | loadN (n : Nat) (a : AOpd)
  | store (n : Nat) (a x : AOpd)
  | nilCheck (x : AOpd)
  | bin (op : BinOp) (x y : AOpd)
  | eq (neg : Bool) (t : EqT) (x y : AOpd)
  | un (op : UnOp) (x : AOpd)
  | convInt (k : IntKind) (x : AOpd)
  | convStr (x : AOpd)
  | strBytes (x : AOpd)
  | bytesStr (x : AOpd)
  | arrPtr (n : Nat) (x : AOpd)
  | makeSlice (zero : List Cell) (bytes : Nat) (l c : AOpd)
  | sliceS (sz : Nat) (x : AOpd) (lo hi : Option AOpd)
  | sliceStr (x : AOpd) (lo hi : Option AOpd)
  | sliceArr (n sz : Nat) (x : AOpd) (lo hi : Option AOpd)
  | fieldAddr (off : Nat) (x : AOpd)
  | field1 (off : Nat) (x : AOpd)
  | fieldN (off n : Nat) (x : AOpd)
  | idxSlc (sz : Nat) (x i : AOpd)
  | idxArr (n sz : Nat) (x i : AOpd)
  | elemStr (x i : AOpd)
  | elem1 (n : Nat) (x i : AOpd)
  | elemN (n sz : Nat) (x i : AOpd)
  | extract (x : AOpd) (i : Nat)
  | len (st : Bool) (x : AOpd)
  | lenK (n : Nat)
  | append (zero : List Cell) (bytes : Nat) (s x : AOpd)
  | copy (sz : Nat) (d s : AOpd)
  | max (xs : List AOpd)
  | min (xs : List AOpd)
  | call (f : Nat) (args : List AOpd)
  | callV (f : AOpd) (args : List AOpd)
  | blk (b : Nat)
  | carry (sub : Bool) (x y c : AOpd)
  | mkClo (f : Nat) (caps : List AOpd)
  deriving Inhabited

structure AOper where
  dst : Option Nat
  op : AOp
  guard : Option (Nat × Bool)
  deriving Inhabited

inductive ACode where
  | skip
  | region (ops : List AOper)
  | draw (head tail : List AOper)
  | drawA (zero : List Cell) (q d : Nat) (ops : List AOper) (n : Nat)
  | draw3 (head tail : List AOper)
  | defers (ops : List AOper) (f : Nat) (args : List AOpd) (rest : ACode)
  | seq (a b : ACode)
  | cond (c : AOpd) (thn els : ACode)
  | block (id : Nat) (body : ACode)
  | loop (body : ACode)
  | exit (id : Nat)
  | ret
  deriving Inhabited

inductive ARes where
  | tmp (t : Nat)
  | cell1 (a : Nat)
  | cellN (a n : Nat)
  deriving Inhabited

structure AFn where
  ntmps : Nat
  results : List ARes
  body : ACode
  deriving Inhabited

/-! ### the operations -/

def bitsA (op : BinOp) (k : IntKind) (x y : Int) : Int :=
  match op with
  | .and => k.wrap ((BitVec.ofInt k.bits x &&& BitVec.ofInt k.bits y).toNat : Int)
  | .or => k.wrap ((BitVec.ofInt k.bits x ||| BitVec.ofInt k.bits y).toNat : Int)
  | .xor => k.wrap ((BitVec.ofInt k.bits x ^^^ BitVec.ofInt k.bits y).toNat : Int)
  | _ => k.wrap ((BitVec.ofInt k.bits x &&& ~~~ BitVec.ofInt k.bits y).toNat : Int)

def shlA (k : IntKind) (x y : Int) : Int := k.wrap (x * 2 ^ min y.toNat k.bits)
def shrA (k : IntKind) (x y : Int) : Int := x.fdiv (2 ^ min y.toNat k.bits)

def binInt (op : BinOp) (k : IntKind) (a b : Int) : Option Cell :=
  match op with
  | .add => some (.int k (k.wrap (a + b)))
  | .sub => some (.int k (k.wrap (a - b)))
  | .mul => some (.int k (k.wrap (a * b)))
  | .quo => if b = 0 then none else some (.int k (k.wrap (a.tdiv b)))
  | .rem => if b = 0 then none else some (.int k (a.tmod b))
  | .and => some (.int k (bitsA .and k a b))
  | .or => some (.int k (bitsA .or k a b))
  | .xor => some (.int k (bitsA .xor k a b))
  | .andNot => some (.int k (bitsA .andNot k a b))
  | .eql => some (.bool (a == b))
  | .neq => some (.bool (a != b))
  | .lss => some (.bool (decide (a < b)))
  | .leq => some (.bool (decide (a ≤ b)))
  | .gtr => some (.bool (decide (a > b)))
  | .geq => some (.bool (decide (a ≥ b)))
  | .shl => if b < 0 then none else some (.int k (shlA k a b))
  | .shr => if b < 0 then none else some (.int k (shrA k a b))

def binStr (op : BinOp) (a b : List UInt8) : Option Cell :=
  match op with
  | .add => if a.length + b.length ≤ 9223372036854775807 then some (.str (a ++ b)) else none
  | .eql => some (.bool (a == b))
  | .neq => some (.bool (!(a == b)))
  | .lss => some (.bool (Op.bytesLess a b))
  | .leq => some (.bool (Op.bytesLess a b || a == b))
  | .gtr => some (.bool (!(Op.bytesLess a b || a == b)))
  | .geq => some (.bool (!Op.bytesLess a b))
  | _ => none

def binA (op : BinOp) (x y : AV) : Option Cell :=
  match x, y with
  | .c (.int k a), .c (.int k' b) => if k = k' ∨ op = .shl ∨ op = .shr then binInt op k a b else none
  | .c (.str a), .c (.str b) => binStr op a b
  | _, _ => none

def eqA (H : AHeap) (t : EqT) (x y : AV) : Option Bool :=
  match t, x, y with
  | .bool, .c (.bool a), .c (.bool b) => some (a == b)
  | .ptr, .c .pnil, .c .pnil => some true
  | .ptr, .c (.ptr b _), .c .pnil => (hcells H b).map fun _ => false
  | .ptr, .c .pnil, .c (.ptr b _) => (hcells H b).map fun _ => false
  | .ptr, .c (.ptr b o), .c (.ptr b' o') => if b = b' ∧ o = o' then (hcells H b).map fun _ => true else none
  | .slice, .c .snil, .c .snil => some true
  | .slice, .c (.slc b _ n _), .c .snil => if n = 0 then none else (hcells H b).map fun _ => false
  | .agg sh, .agg a, .agg b => if fitsAll sh a ∧ fitsAll sh b then some (a == b) else none
  | _, _, _ => none

theorem eqA_touch (H : AHeap) (t : EqT) (x y : AV) (h : eqA H t x y = some true) : eqA H t x y ≠ none := by
  unfold eqA at h ⊢
  split at h <;> first | (rw [h]; simp; done) | cases h
def unA (op : UnOp) (x : AV) : Option Cell :=
  match op, x with
  | .neg, .c (.int k n) => some (.int k (k.wrap (-n)))
  | .xor, .c (.int k n) => some (.int k (bitsA .xor k (if k.signed then -1 else k.max) n))
  | .not, .c (.bool b) => some (.bool (!b))
  | _, _ => none

def fillA (cells : List Cell) : List (Nat × Nat × AV) → Option (List Cell)
  | [] => some cells
  | (off, sz, v) :: rest =>
    match v.cells with
    | some cs => if cs.length = sz ∧ off + sz ≤ cells.length then fillA (cells.take off ++ cs ++ cells.drop (off + sz)) rest else none
    | none => none

/-- a bound of a slice: low, high -/
def loA (x : Option AV) : Option Nat :=
  match x with
  | none => some 0
  | some (.c (.int _ i)) => if 0 ≤ i then some i.toNat else none
  | _ => none
def hiA (x : Option AV) (n : Nat) : Option Nat :=
  match x with
  | none => some n
  | some (.c (.int _ i)) => if 0 ≤ i ∧ i ≤ n then some i.toNat else none
  | _ => none

def readN (H : AHeap) (b o n : Nat) : Option (List Cell) :=
  match hcells H b with
  | some cs => if o + n ≤ cs.length then some ((cs.drop o).take n) else none
  | none => none

/-- the cells of a slice or a string, of so many elements -/
def sliceCells (H : AHeap) (sz : Nat) (x : AV) : Option (List Cell) :=
  match x with
  | .c .snil => some []
  | .c (.slc b o n sz') => if sz' = sz then readN H b o (n * sz) else none
  | .c (.str s) => if sz = 1 then some (s.map fun u => .int .u8 u.toNat) else none
  | _ => none

def byteOf : Cell → Option UInt8
  | .int .u8 n => some (UInt8.ofNat n.toNat)
  | _ => none

def bytesOf : List Cell → Option (List UInt8)
  | [] => some []
  | c :: r =>
    match byteOf c, bytesOf r with
    | some u, some l => some (u :: l)
    | _, _ => none

/-- a write; 'fl': blocks below this number are not to be written now -/
def writeN (fl : Nat) (H : AHeap) (b o : Nat) (vs : List Cell) : Option AHeap :=
  match hown H b with
  | some cs => if fl ≤ b ∧ o + vs.length ≤ cs.length then some (H.set b (.own (cs.take o ++ vs ++ cs.drop (o + vs.length)))) else none
  | none => none

def maxA : AV → AV → Option AV
  | .c (.int k x), .c (.int k' y) => if k = k' then some (.c (.int k (if y > x then y else x))) else none
  | _, _ => none
def minA : AV → AV → Option AV
  | .c (.int k x), .c (.int k' y) => if k = k' then some (.c (.int k (if y < x then y else x))) else none
  | _, _ => none
def foldA (f : AV → AV → Option AV) : AV → List AV → Option AV
  | a, [] => some a
  | a, x :: r => match f a x with | some b => foldA f b r | none => none

def lenA (x : AV) : Option Nat :=
  match x with
  | .c .snil => some 0
  | .c (.slc _ _ n _) => some n
  | .c (.str s) => some s.length
  | _ => none

def appendA (fl : Nat) (H : AHeap) (zero : List Cell) (bytes : Nat) (s x : AV) : Option (AV × AHeap) :=
  match sliceCells H zero.length x with
  | none => none
  | some news =>
    match s with
    | .c .snil =>
      if news.length * bytes ≤ 140737488355328 then some (.c (.slc H.length 0 (news.length / zero.length) zero.length), H ++ [.own news]) else none
    | .c (.slc b o n sz) =>
      match hown H b with
      | some cs =>
        if fl ≤ b ∧ sz = zero.length ∧ o + n * sz = cs.length ∧ (n * sz + news.length) * bytes ≤ 140737488355328 then
          some (.c (.slc H.length 0 (n + news.length / sz) sz), H.set b .dead ++ [.own (cs.drop o ++ news)]) else none
      | none => none
    | _ => none

def i64 (n : Int) : AV := .c (.int .i64 n)

/-- a sum, or a difference, of words of 64 bits, and what is carried -/
def carryA (sub : Bool) (a b k : Int) : Option AV :=
  if 0 ≤ a ∧ 0 ≤ b ∧ 0 ≤ k ∧ k ≤ 1 ∧ b < 18446744073709551616 then
    (if sub then some (.tup [.c (.int .u64 ((a + 18446744073709551616 - b - k) % 18446744073709551616)), .c (.int .u64 (if a < b + k then 1 else 0))])
     else some (.tup [.c (.int .u64 ((a + b + k) % 18446744073709551616)), .c (.int .u64 ((a + b + k) / 18446744073709551616))]))
  else none

/-- so many values of one cell -/
def cellsAV : List AV → Option (List Cell)
  | [] => some []
  | .c c :: r => match cellsAV r with | some l => some (c :: l) | none => none
  | _ :: _ => none

/-- An operation that calls nothing. -/
def stepA (fl : Nat) (H : AHeap) (ev : AOpd → AV) : AOp → Option (AV × AHeap)
  | .mv x => match ev x with | .c q => some (.c q, H) | .agg l => some (.agg l, H) | .tup l => some (.tup l, H) | .clo f l => some (.clo f l, H)
  | .pick c a b =>
    match ev c with
    | .c (.bool true) => (match ev a with | .c q => some (.c q, H) | .agg l => some (.agg l, H) | .tup l => some (.tup l, H) | .clo f l => some (.clo f l, H))
    | .c (.bool false) => (match ev b with | .c q => some (.c q, H) | .agg l => some (.agg l, H) | .tup l => some (.tup l, H) | .clo f l => some (.clo f l, H))
    | _ => none
  | .alloc zero => some (.c (.ptr H.length 0), H ++ [.own zero])
  | .box x => match (ev x).cells with | some cs => some (.c (.ptr H.length 0), H ++ [.own cs]) | none => none
  | .build zero parts => match fillA zero (parts.map fun (o, n, x) => (o, n, ev x)) with | some cs => some (.agg cs, H) | none => none
  | .buildSlice zero sz len parts =>
    match fillA zero (parts.map fun (o, n, x) => (o, n, ev x)) with
    | some cs => some (.c (.slc H.length 0 len sz), H ++ [.own cs])
    | none => none
  | .load1 a =>
    match ev a with
    | .c (.ptr b o) => match hcells H b with | some cs => (cs[o]?).map fun x => (.c x, H) | none => none
    | _ => none
  | .loadN n a => match ev a with | .c (.ptr b o) => (readN H b o n).map fun l => (.agg l, H) | _ => none
  | .store n a x =>
    match ev a, (ev x).cells with
    | .c (.ptr b o), some vs => if vs.length = n then (writeN fl H b o vs).map fun H' => (aundef, H') else none
    | _, _ => none
  | .nilCheck x => match ev x with | .c (.ptr b o) => (hcells H b).map fun _ => (.c (.ptr b o), H) | _ => none
  | .bin op x y => (binA op (ev x) (ev y)).map fun c => (.c c, H)
  | .eq neg t x y => (eqA H t (ev x) (ev y)).map fun r => (.c (.bool (if neg then !r else r)), H)
  | .un op x => (unA op (ev x)).map fun c => (.c c, H)
  | .convInt k x => match ev x with | .c (.int _ n) => some (.c (.int k (k.wrap n)), H) | _ => none
  | .convStr x => match ev x with | .c (.str s) => some (.c (.str s), H) | _ => none
  | .strBytes x => match ev x with | .c (.str s) => some (.c (.slc H.length 0 s.length 1), H ++ [.own (s.map fun u => .int .u8 u.toNat)]) | _ => none
  | .bytesStr x =>
    match ev x with
    | .c (.str _) => none
    | v => match sliceCells H 1 v with | some cs => (bytesOf cs).map fun l => (.c (.str l), H) | none => none
  | .arrPtr n x =>
    match ev x with
    | .c (.slc b o m _) => if n ≤ m ∧ 0 < m then (hcells H b).map fun _ => (.c (.ptr b o), H) else none
    | _ => none
  | .makeSlice zero bytes l c =>
    match ev l, ev c with
    | .c (.int .i64 l), .c (.int .i64 c) =>
      if 0 ≤ l ∧ l ≤ c ∧ c * bytes ≤ 140737488355328 then
        some (.c (.slc H.length 0 l.toNat zero.length), H ++ [.own (List.replicate l.toNat zero).flatten]) else none
    | _, _ => none
  | .sliceS sz' x lo hi =>
    match ev x with
    | .c (.slc b o n sz) =>
      match hiA (hi.map ev) n, loA (lo.map ev) with
      | some h, some l => if sz = sz' ∧ l ≤ h then (hcells H b).map fun _ => (.c (.slc b (o + l * sz) (h - l) sz), H) else none
      | _, _ => none
    | .c .snil =>
      match hiA (hi.map ev) 0, loA (lo.map ev) with
      | some _, some l => if l ≤ 0 then some (.c .snil, H) else none
      | _, _ => none
    | _ => none
  | .sliceStr x lo hi =>
    match ev x with
    | .c (.str s) =>
      match hiA (hi.map ev) s.length, loA (lo.map ev) with
      | some h, some l => if l ≤ h then some (.c (.str ((s.drop l).take (h - l))), H) else none
      | _, _ => none
    | _ => none
  | .sliceArr n sz x lo hi =>
    match ev x with
    | .c (.ptr b o) =>
      match hiA (hi.map ev) n, loA (lo.map ev), hcells H b with
      | some h, some l, some cs => if l ≤ h ∧ o + n * sz ≤ cs.length then some (.c (.slc b (o + l * sz) (h - l) sz), H) else none
      | _, _, _ => none
    | _ => none
  | .fieldAddr off x => match ev x with | .c (.ptr b o) => (hcells H b).map fun _ => (.c (.ptr b (o + off)), H) | _ => none
  | .field1 off x => match ev x with | .agg cs => (cs[off]?).map fun x => (.c x, H) | _ => none
  | .fieldN off n x => match ev x with | .agg cs => if off + n ≤ cs.length then some (.agg ((cs.drop off).take n), H) else none | _ => none
  | .idxSlc sz x i =>
    match ev x, ev i with
    | .c (.slc b o n sz'), .c (.int _ i) => if sz' = sz ∧ 0 ≤ i ∧ i < n then (hcells H b).map fun _ => (.c (.ptr b (o + i.toNat * sz)), H) else none
    | _, _ => none
  | .idxArr n sz x i =>
    match ev x, ev i with
    | .c (.ptr b o), .c (.int _ i) => if 0 ≤ i ∧ i < n then (hcells H b).map fun _ => (.c (.ptr b (o + i.toNat * sz)), H) else none
    | _, _ => none
  | .elemStr x i =>
    match ev x, ev i with
    | .c (.str s), .c (.int _ i) => if 0 ≤ i then (s[i.toNat]?).map fun u => (.c (.int .u8 u.toNat), H) else none
    | _, _ => none
  | .elem1 n x i =>
    match ev x, ev i with
    | .agg cs, .c (.int _ i) => if 0 ≤ i ∧ i < n then (cs[i.toNat]?).map fun x => (.c x, H) else none
    | _, _ => none
  | .elemN n sz x i =>
    match ev x, ev i with
    | .agg cs, .c (.int _ i) => if 0 ≤ i ∧ i < n ∧ i.toNat * sz + sz ≤ cs.length then some (.agg ((cs.drop (i.toNat * sz)).take sz), H) else none
    | _, _ => none
  | .extract x i => match ev x with | .tup vs => (match vs[i]? with | some (.c q) => some (.c q, H) | some (.agg l) => some (.agg l, H) | none => none) | _ => none
  | .len st x =>
    match st, ev x with
    | true, .c (.str s) => some (i64 s.length, H)
    | false, .c .snil => some (i64 0, H)
    | false, .c (.slc b _ n _) => (hcells H b).map fun _ => (i64 n, H)
    | _, _ => none
  | .lenK n => some (i64 n, H)
  | .append zero bytes s x => appendA fl H zero bytes (ev s) (ev x)
  | .copy sz d s =>
    match ev d, lenA (ev s), sliceCells H sz (ev s) with
    | .c (.slc b o n sz'), some m, some cs =>
      if sz' = sz then (writeN fl H b o (cs.take (min m n * sz))).map fun H' => (i64 (min m n : Nat), H') else none
    | _, _, _ => none
  | .max xs => match xs.map ev with | x :: r => (foldA maxA x r).map fun v => (v, H) | [] => none
  | .min xs => match xs.map ev with | x :: r => (foldA minA x r).map fun v => (v, H) | [] => none
  | .call _ _ => none
  | .callV _ _ => none
  | .blk b => some (.c (.ptr b 0), H)
  | .carry sub x y c =>
    match ev x, ev y, ev c with
    | .c (.int .u64 a), .c (.int .u64 b), .c (.int .u64 k) => (carryA sub a b k).map fun v => (v, H)
    | _, _, _ => none
  | .mkClo f caps => (cellsAV (caps.map ev)).map fun l => (.clo f l, H)

/-! ### the evaluator -/

/-- a call: the floor, the function, its arguments, the heap -/
abbrev ACall := Nat → Nat → List AV → AHeap → Option (AV × AHeap)

def putA (fr : AFrame) (dst : Option Nat) (v : AV) : AFrame :=
  match dst with
  | some d => fr.set d v
  | none => fr

def wantedA (fr : AFrame) (g : Option (Nat × Bool)) : Bool :=
  match g with
  | none => true
  | some (t, want) => match fr[t]? with | some (.c (.bool b)) => b == want | _ => false

def execA (call : ACall) (fl : Nat) (fr : AFrame) (H : AHeap) : AOp → Option (AV × AHeap)
  | .call f args => call fl f (args.map (·.ev fr)) H
  | .callV f args => match f.ev fr with | .c (.fn g) => call fl g (args.map (·.ev fr)) H | .clo g caps => call fl g (args.map (·.ev fr) ++ caps.map AV.c) H | _ => none
  | o => stepA fl H (·.ev fr) o

def evalOps (call : ACall) (fl : Nat) : List AOper → AFrame → AHeap → Option (AFrame × AHeap)
  | [], fr, H => some (fr, H)
  | o :: rest, fr, H =>
    if wantedA fr o.guard then
      match execA call fl fr H o.op with
      | some (v, H') => evalOps call fl rest (putA fr o.dst v) H'
      | none => none
    else evalOps call fl rest (putA fr o.dst aundef) H

/-- The head of a statement whose order is open: nothing that is there is changed. -/
def evalHead (call : ACall) : List AOper → AFrame → AHeap → Option (AFrame × AHeap)
  | [], fr, H => some (fr, H)
  | o :: rest, fr, H =>
    if wantedA fr o.guard then
      match execA call H.length fr H o.op with
      | some (v, H') => evalHead call rest (putA fr o.dst v) H'
      | none => none
    else evalHead call rest (putA fr o.dst aundef) H

/-- the operation at place q gives the block that was made ahead -/
def atBlk (q d b : Nat) (ops : List AOper) : List AOper := ops.set q ⟨some d, .blk b, none⟩

inductive AExit where
  | normal
  | exit (id : Nat)
  | ret
  deriving DecidableEq, Inhabited

abbrev ARet := Option (AExit × AFrame × AHeap)

def iterA (body : AFrame → AHeap → ARet) : Nat → AFrame → AHeap → ARet
  | 0, _, _ => none
  | n + 1, fr, H =>
    match body fr H with
    | some (.normal, fr', H') => iterA body n fr' H'
    | r => r

def evalCode (call : ACall) (fl n : Nat) : ACode → AFrame → AHeap → ARet
  | .skip, fr, H => some (.normal, fr, H)
  | .region ops, fr, H => match evalOps call fl ops fr H with | some (fr', H') => some (.normal, fr', H') | none => none
  | .draw hd tl, fr, H =>
    match evalHead call hd fr H with
    | some (fr1, H1) => (match evalOps call fl tl fr1 H1 with | some (fr', H') => some (.normal, fr', H') | none => none)
    | none => none
  | .drawA z q d ops m, fr, H =>
    match evalHead call ((atBlk q d H.length ops).take m) fr (H ++ [.own z]) with
    | some (fr1, H1) => (match evalOps call fl ((atBlk q d H.length ops).drop m) fr1 H1 with | some (fr', H') => some (.normal, fr', H') | none => none)
    | none => none
  | .draw3 hd tl, fr, H =>
    match evalOps call H.length hd fr H with
    | some (fr1, H1) => (match evalOps call fl tl fr1 H1 with | some (fr', H') => some (.normal, fr', H') | none => none)
    | none => none
  | .defers ops f args rest, fr, H =>
    match evalOps call fl ops fr H with
    | some (fr1, H1) =>
      (match evalCode call fl n rest fr1 H1 with
       | some (e, fr2, H2) => (match call fl f (args.map (·.ev fr1)) H2 with | some (_, H3) => some (e, fr2, H3) | none => none)
       | none => none)
    | none => none
  | .seq a b, fr, H =>
    match evalCode call fl n a fr H with
    | some (.normal, fr', H') => evalCode call fl n b fr' H'
    | r => r
  | .cond c a b, fr, H =>
    match c.ev fr with
    | .c (.bool true) => evalCode call fl n a fr H
    | .c (.bool false) => evalCode call fl n b fr H
    | _ => none
  | .block id c, fr, H =>
    match evalCode call fl n c fr H with
    | some (.exit i, fr', H') => if i = id then some (.normal, fr', H') else some (.exit i, fr', H')
    | r => r
  | .loop c, fr, H => iterA (evalCode call fl n c) n fr H
  | .exit id, fr, H => some (.exit id, fr, H)
  | .ret, fr, H => some (.ret, fr, H)

def resA (fr : AFrame) (H : AHeap) : ARes → Option AV
  | .tmp t => some (fr.getD t aundef)
  | .cell1 a => match fr.getD a aundef with | .c (.ptr b o) => (match hcells H b with | some cs => (cs[o]?).map AV.c | none => none) | _ => none
  | .cellN a n => match fr.getD a aundef with | .c (.ptr b o) => (readN H b o n).map AV.agg | _ => none

def ressA (fr : AFrame) (H : AHeap) : List ARes → Option (List TV)
  | [] => some []
  | r :: l =>
    match resA fr H r, ressA fr H l with
    | some v, some vs => (v.tv).map (· :: vs)
    | _, _ => none

def outA (fr : AFrame) (H : AHeap) : List ARes → Option AV
  | [r] => resA fr H r
  | l => (ressA fr H l).map AV.tup

def enterA (fn : AFn) (args : List AV) : AFrame := args ++ List.replicate (fn.ntmps - args.length) aundef

def callFn (A : Nat → Option AFn) : Nat → ACall
  | 0 => fun _ _ _ _ => none
  | k + 1 => fun fl f args H =>
    match A f with
    | none => none
    | some fn =>
      match evalCode (callFn A k) fl k fn.body (enterA fn args) H with
      | some (.normal, fr, H') => (outA fr H' fn.results).map fun v => (v, H')
      | some (.ret, fr, H') => (outA fr H' fn.results).map fun v => (v, H')
      | _ => none

end PAbs

/- How a loaded program's functions become functions of the abstract machine: types are looked up once, here. -/
namespace PAbs
open Go
set_option linter.unusedVariables false

def absCell : Value → Option Cell
  | .bool b => some (.bool b)
  | .int k n => some (.int k n)
  | .string s => some (.str s.data.toList)
  | .pointer none => some .pnil
  | .slice none 0 0 => some .snil
  | .nilFunc => some .fnil
  | .func (.func f) a b => if a.size = 0 ∧ b.size = 0 then some (.fn f) else none
  | _ => none

def optMap {α β : Type} (f : α → Option β) : List α → Option (List β)
  | [] => some []
  | a :: l => match f a, optMap f l with | some b, some r => some (b :: r) | _, _ => none

def absVal : Value → Option AV
  | .agg cs => (optMap absCell cs.toList).map AV.agg
  | .tuple vs => if vs.size = 0 then some aundef else none
  | v => (absCell v).map AV.c

def absOpd : Operand → Option AOpd
  | .tmp t => some (.t t)
  | .const v => (absVal v).map AOpd.k
  | .func f => some (.k (.c (.fn f)))
  | .global _ => none

variable (P : Program)

def zeroA (t : TypeId) : Option (List Cell) :=
  match P.info? t with
  | some i => (match i.zero with | some z => (match optMap absCell z.cells.toList with | some l => if l.length = i.size then some l else none | none => none) | none => none)
  | none => none

/-- an element's zero cells, where it has any -/
def zeroE (t : TypeId) : Option (List Cell) :=
  match zeroA P t with
  | some (c :: l) => some (c :: l)
  | _ => none

def aggT (t : TypeId) : Option Bool :=
  match P.underlying t with
  | some (.struct _) => some true
  | some (.array _ _) => some true
  | some _ => some false
  | none => none

def sizeT (t : TypeId) : Option Nat := (P.info? t).map (·.size)
def bytesT (t : TypeId) : Option Nat := match (P.info? t).map (·.bytes) with | some (n + 1) => some (n + 1) | _ => none

/-- the kinds of a type's cells, where its values are compared cell by cell: whole numbers, texts, bools, and arrays and structs of these -/
def shapeT : Nat → TypeId → Option (List CK)
  | 0, _ => none
  | d + 1, t =>
    match P.underlying t with
    | some .bool => some [.bool]
    | some (.int k) => some [.int k]
    | some .string => some [.str]
    | some (.array n e) => (match shapeT d e with | some sh => if P.cellsOf e = sh.length ∧ sizeT P e = some sh.length then some (List.replicate n sh).flatten else none | none => none)
    | some (.struct fs) => if P.stoodInHeld t then none else shapeFs (shapeT d) 0 fs.toList
    | _ => none
where
  shapeFs (f : TypeId → Option (List CK)) : Nat → List Field → Option (List CK)
  | _, [] => some []
  | off, x :: r =>
    match f x.type, shapeFs f (off + ((sizeT P x.type).getD 0)) r with
    | some sh, some sh' => if x.name ≠ "_" ∧ x.offset = off ∧ sizeT P x.type = some sh.length then some (sh ++ sh') else none
    | _, _ => none

def absParts (place : Nat → Option (Nat × Nat)) : List (Nat × Operand) → Option (List (Nat × Nat × AOpd))
  | [] => some []
  | (i, x) :: r =>
    match place i, absOpd x, absParts place r with
    | some (o, n), some y, some l => some ((o, n, y) :: l)
    | _, _, _ => none

def fieldPlaces (fs : List Field) : Option (List (Nat × Nat)) := optMap (fun f => (sizeT P f.type).map fun n => (f.offset, n)) fs

def absOptOpd : Option Operand → Option (Option AOpd)
  | none => some none
  | some x => (absOpd x).map some

def resBin (op : BinOp) (t : TypeId) (x y : AOpd) : Option AOp :=
  match op, P.underlying t with
  | .shl, _ => some (.bin op x y)
  | .shr, _ => some (.bin op x y)
  | _, some (.int _) => some (.bin op x y)
  | _, some .string => some (.bin op x y)
  | .eql, some .bool => some (.eq false .bool x y)
  | .neq, some .bool => some (.eq true .bool x y)
  | .eql, some (.pointer e) => (match P.info? e with | some _ => some (.eq false .ptr x y) | none => none)
  | .neq, some (.pointer e) => (match P.info? e with | some _ => some (.eq true .ptr x y) | none => none)
  | .eql, some (.slice _) => some (.eq false .slice x y)
  | .neq, some (.slice _) => some (.eq true .slice x y)
  | .eql, some _ => (match shapeT P 20 t, aggT P t with | some sh, some true => if !P.eqGuardType P.depth t then some (.eq false (.agg sh) x y) else none | _, _ => none)
  | .neq, some _ => (match shapeT P 20 t, aggT P t with | some sh, some true => if !P.eqGuardType P.depth t then some (.eq true (.agg sh) x y) else none | _, _ => none)
  | _, _ => none

def resConv (s d : TypeId) (x : AOpd) : Option AOp :=
  match P.underlying s, P.underlying d with
  | some (.int _), some (.int k) => some (.convInt k x)
  | some .string, some .string => some (.convStr x)
  | some .string, some (.slice e) => (match P.underlying e with | some (.int .u8) => some (.strBytes x) | _ => none)
  | some (.slice e), some .string => (match P.underlying e with | some (.int .u8) => some (.bytesStr x) | _ => none)
  | _, _ => none

def resBuiltin (b : Builtin) (ts : List TypeId) (as : List AOpd) : Option AOp :=
  match b, ts, as with
  | .len, [t], [x] =>
    (match P.underlying t with
     | some .string => some (.len true x)
     | some (.slice _) => some (.len false x)
     | some (.array n _) => some (.lenK n)
     | some (.pointer a) => (match P.underlying a with | some (.array n _) => some (.lenK n) | _ => none)
     | _ => none)
  | .append, [t, u], [s, x] =>
    (match P.underlying t, P.underlying u with
     | some (.slice e), some (.slice _) => (match zeroE P e, bytesT P e with | some z, some b => some (.append z b s x) | _, _ => none)
     | some (.slice e), some .string => (match zeroE P e, bytesT P e with | some z, some b => some (.append z b s x) | _, _ => none)
     | _, _ => none)
  | .copy, _ :: _ , [d, s] =>
    (match P.underlying (ts.headD 0) with
     | some (.slice e) => (match sizeT P e with | some n => if 0 < n then some (.copy n d s) else none | none => none)
     | _ => none)
  | .max, _, _ => some (.max as)
  | .min, _, _ => some (.min as)
  | _, _, _ => none

/-- the library's sums with a carry, which have no body -/
def externA (f : Nat) : Option Bool :=
  match P.funcs[f]? with
  | some fn =>
    if fn.body.isNone = true ∧ fn.origin = "" then
      (if fn.name = "math/bits.Add64" then some false else if fn.name = "math/bits.Sub64" then some true else none) else none
  | none => none
def resCall (f : Nat) (as : List AOpd) : Option AOp :=
  match externA P f with
  | none => some (.call f as)
  | some sub => (match as with | [x, y, c] => some (.carry sub x y c) | _ => none)

def resClo (fn : Fn) (first caps : Array Operand) : Option AOp :=
  match fn with
  | .func f => if first.size = 0 then (optMap absOpd caps.toList).map (.mkClo f) else none
  | _ => none

def resOp (o : Oper) : Option AOp :=
  match o.op with
  | .move x => (absOpd x).map .mv
  | .assign x => (absOpd x).map .mv
  | .pick c a b => match absOpd c, absOpd a, absOpd b with | some c, some a, some b => some (.pick c a b) | _, _, _ => none
  | .alloc t => (zeroA P t).map .alloc
  | .box _ x => (absOpd x).map .box
  | .build t ps =>
    match zeroA P t, P.underlying t with
    | some z, some (.struct fs) =>
      (match fieldPlaces P fs.toList with | some pl => (absParts (pl[·]?) ps.toList).map (.build z) | none => none)
    | some z, some (.array _ e) =>
      (match sizeT P e with | some n => (absParts (fun i => some (i * n, n)) ps.toList).map (.build z) | none => none)
    | _, _ => none
  | .buildSlice t len ps =>
    match P.underlying t with
    | some (.slice e) =>
      (match zeroE P e with
       | some z => if len * z.length ≤ 16777216 then (absParts (fun i => some (i * z.length, z.length)) ps.toList).map (.buildSlice (List.replicate len z).flatten z.length len) else none
       | none => none)
    | _ => none
  | .load t a => match aggT P t, sizeT P t, absOpd a with | some true, some n, some a => some (.loadN n a) | some false, _, some a => some (.load1 a) | _, _, _ => none
  | .store t a x => match sizeT P t, absOpd a, absOpd x with | some n, some a, some x => some (.store n a x) | _, _, _ => none
  | .nilCheck x => (absOpd x).map .nilCheck
  | .binOp op t x y _ => match absOpd x, absOpd y with | some x, some y => resBin P op t x y | _, _ => none
  | .unOp op _ x => (absOpd x).map (.un op)
  | .convert s d x => match absOpd x with | some x => resConv P s d x | none => none
  | .sliceToArrayPointer t x => match P.underlying t, absOpd x with | some (.array n _), some x => some (.arrPtr n x) | _, _ => none
  | .makeSlice t l c =>
    match P.underlying t, absOpd l, absOpd c with
    | some (.slice e), some l, some c => (match zeroE P e, bytesT P e with | some z, some b => some (.makeSlice z b l c) | _, _ => none)
    | _, _, _ => none
  | .slice t x lo hi none =>
    match P.underlying t, absOpd x, absOptOpd lo, absOptOpd hi with
    | some (.slice e), some x, some lo, some hi => (match zeroE P e with | some z => some (.sliceS z.length x lo hi) | none => none)
    | some .string, some x, some lo, some hi => some (.sliceStr x lo hi)
    | some (.array n e), some x, some lo, some hi => (match zeroE P e with | some z => some (.sliceArr n z.length x lo hi) | none => none)
    | some (.pointer a), some x, some lo, some hi =>
      (match P.underlying a with | some (.array n e) => (match zeroE P e with | some z => some (.sliceArr n z.length x lo hi) | none => none) | _ => none)
    | _, _, _, _ => none
  | .fieldAddr s x f =>
    match P.underlying s, absOpd x with
    | some (.struct fs), some x => (match fs[f]? with | some f => (match sizeT P f.type with | some (_ + 1) => some (.fieldAddr f.offset x) | _ => none) | none => none)
    | _, _ => none
  | .field s x f =>
    match P.underlying s, absOpd x with
    | some (.struct fs), some x =>
      (match fs[f]? with
       | some f => (match aggT P f.type, sizeT P f.type with | some true, some n => some (.fieldN f.offset n x) | some false, _ => some (.field1 f.offset x) | _, _ => none)
       | none => none)
    | _, _ => none
  | .indexAddr t x i =>
    match P.underlying t, absOpd x, absOpd i with
    | some (.array n e), some x, some i => (sizeT P e).map fun z => .idxArr n z x i
    | some (.slice e), some x, some i => (sizeT P e).map fun z => .idxSlc z x i
    | _, _, _ => none
  | .index t x i =>
    match P.underlying t, absOpd x, absOpd i with
    | some (.array n e), some x, some i =>
      (match aggT P e, sizeT P e with | some true, some z => some (.elemN n z x i) | some false, some 1 => some (.elem1 n x i) | _, _ => none)
    | some .string, some x, some i => some (.elemStr x i)
    | _, _, _ => none
  | .extract x i => (absOpd x).map fun x => .extract x i
  | .call { callee := .builtin b, args, argTypes } => match optMap absOpd args.toList with | some as => resBuiltin P b argTypes.toList as | none => none
  | .call { callee := .value (.func f), args, .. } => match optMap absOpd args.toList with | some as => resCall P f as | none => none
  | .call { callee := .value (.tmp t), args, .. } => (optMap absOpd args.toList).map (.callV (.t t))
  | .makeFunc fn first caps => resClo fn first caps
  | _ => none

def resOper (ops : List Oper) (o : Oper) : Option AOper :=
  match resOp P o with
  | none => none
  | some p =>
    match o.guard with
    | none => some { dst := o.dst, op := p, guard := none }
    | some (j, want) =>
      match (ops[j]?).bind (·.dst) with
      | some t => some { dst := o.dst, op := p, guard := some (t, want) }
      | none => none

/-! Statements whose order is open. -/

/-- does this operation make memory, or call? (the others only look) -/
def AOp.makes : AOp → Bool
  | .alloc _ | .box _ | .buildSlice .. | .strBytes _ | .makeSlice .. | .append .. | .store .. | .copy .. | .call .. | .callV .. => true
  | _ => false

def force {α : Type} (n : Nat) (f : Nat → α) : α :=
  match n with
  | 0 => f 0
  | k + 1 => f (k + 1)

/-- the operations that must stand ahead (bits) -/
def oneA (acc : Nat → Nat) (o : Oper) : Nat := o.after.toList.foldl (fun s e => if Region.binds .any e then s ||| 2 ^ e.on ||| acc e.on else s) 0
def aheadA : List Oper → List Nat → List Nat
  | [], acc => acc
  | o :: r, acc => force (oneA (fun k => acc.getD k 0) o) fun n => aheadA r (acc ++ [n])

/-- the operands -/
def AOp.opds : AOp → List AOpd
  | .mv x => [x]
  | .pick c a b => [c, a, b]
  | .alloc _ => []
  | .box x => [x]
  | .build _ ps => ps.map (·.2.2)
  | .buildSlice _ _ _ ps => ps.map (·.2.2)
  | .load1 a => [a]
  | .loadN _ a => [a]
  | .store _ a x => [a, x]
  | .nilCheck x => [x]
  | .bin _ x y => [x, y]
  | .eq _ _ x y => [x, y]
  | .un _ x => [x]
  | .convInt _ x => [x]
  | .convStr x => [x]
  | .strBytes x => [x]
  | .bytesStr x => [x]
  | .arrPtr _ x => [x]
  | .makeSlice _ _ l c => [l, c]
  | .sliceS _ x lo hi => x :: (lo.toList ++ hi.toList)
  | .sliceStr x lo hi => x :: (lo.toList ++ hi.toList)
  | .sliceArr _ _ x lo hi => x :: (lo.toList ++ hi.toList)
  | .fieldAddr _ x => [x]
  | .field1 _ x => [x]
  | .fieldN _ _ x => [x]
  | .idxSlc _ x i => [x, i]
  | .idxArr _ _ x i => [x, i]
  | .elemStr x i => [x, i]
  | .elem1 _ x i => [x, i]
  | .elemN _ _ x i => [x, i]
  | .extract x _ => [x]
  | .len _ x => [x]
  | .lenK _ => []
  | .append _ _ s x => [s, x]
  | .copy _ d s => [d, s]
  | .max xs => xs
  | .min xs => xs
  | .call _ as => as
  | .callV f as => f :: as
  | .blk _ => []
  | .carry _ x y c => [x, y, c]
  | .mkClo _ xs => xs

/-- the slots that an operation looks at, and the one that it writes -/
def AOper.sees (o : AOper) : List Nat := (o.op.opds.filterMap fun | .t i => some i | _ => none) ++ (match o.guard with | some (t, _) => [t] | none => [])
def AOper.names (o : AOper) : List Nat := o.dst.toList ++ o.sees

/-- operations that look at no cell (some at whether a block is there) -/
def AOp.light : AOp → Bool
  | .mv _ | .pick _ _ _ | .bin _ _ _ | .un _ _ | .convInt _ _ | .convStr _ | .field1 _ _ | .fieldN _ _ _ | .elemStr _ _ | .elem1 _ _ _ | .elemN _ _ _ _ | .extract _ _ | .lenK _ | .max _ | .min _ | .build _ _
  | .fieldAddr _ _ | .idxArr _ _ _ _ | .idxSlc _ _ _ | .nilCheck _ => true
  | _ => false
def AOp.kills : AOp → Bool
  | .call _ _ | .callV _ _ | .append _ _ _ _ => true
  | _ => false
def AOp.writes : AOp → Bool
  | .store _ _ _ | .copy _ _ _ => true
  | _ => false
def lightAt (lt : Bool) (as : List AOper) (k : Nat) : Bool := lt && (match as[k]? with | some a => a.op.light | none => false)
def killsAt (as : List AOper) (k : Nat) : Bool := match as[k]? with | some a => a.op.kills | none => false

/-- must all of the first i stand ahead of i? (but for the light ones) -/
def lastOne (lt : Bool) (as : List AOper) (bs : List Nat) (i : Nat) : Bool := (List.range i).all fun j => lightAt lt as j || (bs.getD i 0).testBit j

def tailFrom (lt : Bool) (as : List AOper) (bs : List Nat) : Nat → Nat
  | 0 => 0
  | i + 1 => if lightAt lt as i || lastOne lt as bs i then tailFrom lt as bs i else i + 1

/-- i and j < i write and look at nothing of each other's, or j stands ahead -/
def pairOk (as : List AOper) (bs : List Nat) (i j : Nat) : Bool :=
  match as[i]?, as[j]? with
  | some x, some y =>
    (!(match x.dst with | some d => y.names.contains d | none => false) && !(match y.dst with | some d => x.names.contains d | none => false)) || (bs.getD i 0).testBit j
  | _, _ => true

/-- the makers of the first n stand in a row -/
def rowOk (as : List AOper) (bs : List Nat) (i j : Nat) : Bool :=
  match as[i]?, as[j]? with
  | some x, some y => !(x.op.makes && y.op.makes) || (bs.getD i 0).testBit j
  | _, _ => true

/-- constants among the operands name no block -/
def constOk (o : AOper) : Bool := o.op.opds.all fun | .k (.c (.ptr _ _)) => false | .k (.c (.slc _ _ _ _)) => false | _ => true

/-- behind the last one that may kill a block -/
def lastKill (as : List AOper) : Nat := (List.range as.length).foldl (fun m k => if killsAt as k then k + 1 else m) 0
def drawWith (lt : Bool) (ops : List Oper) (as : List AOper) : Option Nat :=
  let bs := aheadA ops []
  let n := max (tailFrom lt as bs ops.length) (if lt then lastKill as else 0)
  if decide (n ≤ ops.length) && ((List.range ops.length).all fun i => (List.range i).all fun j => pairOk as bs i j && (decide (n ≤ i) || rowOk as bs i j)) &&
    (ops.zipIdx.all fun (o, i) => o.after.all fun e => !Region.binds .any e || decide (e.on < i)) && as.all constOk &&
    (!lt || (List.range ops.length).all fun k => decide (k < n) || !killsAt as k)
  then some n else none

def drawOk (ops : List Oper) (as : List AOper) : Option Nat :=
  match drawWith false ops as with
  | some n => if (as.take n).any (·.op.writes) then (match drawWith true ops as with | some m => some m | none => some n) else some n
  | none => drawWith true ops as

/-- an allocation that may go at any time, ahead of all that is forced: its place, its slot, its cells, and how many are the head -/
def floats (ops : List Oper) (as : List AOper) (q : Nat) : Bool :=
  match ops[q]?, as[q]? with
  | some o, some ⟨some _, .alloc _, none⟩ => o.after.all fun e => !Region.binds .any e
  | _, _ => false
def drawATry (lt : Bool) (ops : List Oper) (as : List AOper) (q : Nat) : Option Nat :=
  match drawWith lt ops as with
  | some n => if q < n ∧ ((List.range ops.length).all fun i => decide (i < n) || lightAt lt as i || ((aheadA ops []).getD i 0).testBit q) = true then some n else none
  | none => none
def drawAOk (ops : List Oper) (as : List AOper) : Option (List Cell × Nat × Nat × Nat) :=
  match (List.range ops.length).find? (floats ops as) with
  | none => none
  | some q =>
    match as[q]? with
    | some ⟨some d, .alloc z, none⟩ =>
      (match drawATry true ops (as.set q ⟨some d, .blk 0, none⟩) q with
       | some n => some (z, q, d, n)
       | none => (match drawATry false ops (as.set q ⟨some d, .blk 0, none⟩) q with | some n => some (z, q, d, n) | none => none))
    | _ => none

/-! statements in which a call may change what an earlier one made -/
def makesAt (as : List AOper) (k : Nat) : Bool := match as[k]? with | some a => a.op.makes | none => false
def plainC : Cell → Bool
  | .ptr _ _ => false
  | .slc _ _ _ _ => false
  | _ => true
def plainK : AV → Bool
  | .c x => plainC x
  | .agg cs => cs.all plainC
  | .tup l => l.isEmpty
  | .clo _ _ => false
/-- does it look at nothing but what was there ahead of the statement? -/
def freeAt (as : List AOper) (fs : List Bool) (a : AOper) : Bool :=
  !a.op.makes && a.op.opds.all fun | .t s => (List.range as.length).all fun k => !(match as[k]? with | some x => x.dst == some s | none => false) || fs.getD k false | .k v => plainK v
def freesA (as : List AOper) : List AOper → List Bool → List Bool
  | [], fs => fs
  | a :: r, fs => freesA as r (fs ++ [freeAt as fs a])
/-- do all makers stand ahead of it or behind it? -/
def tiedAt (as : List AOper) (bs : List Nat) (i : Nat) : Bool := (List.range as.length).all fun j => !makesAt as j || j == i || (if j < i then (bs.getD i 0).testBit j else (bs.getD j 0).testBit i)
def draw3Ok (ops : List Oper) (as : List AOper) : Option Nat :=
  let bs := aheadA ops []
  let fs := freesA as as []
  let n := tailFrom false as bs ops.length
  if decide (n ≤ ops.length) && ((List.range ops.length).all fun i => (List.range i).all fun j => pairOk as bs i j && rowOk as bs i j) &&
    (ops.zipIdx.all fun (o, i) => o.after.all fun e => !Region.binds .any e || decide (e.on < i)) && as.all constOk &&
    ((List.range ops.length).all fun i => makesAt as i || decide (n ≤ i) || tiedAt as bs i || fs.getD i false)
  then some n else none
/-- is something handed to a call that another call of the statement made? -/
def callsOn (as : List AOper) : Bool := as.any fun a => match a.op with
  | .call _ xs => xs.any fun | .t s => as.any fun b => b.dst == some s && (match b.op with | .call _ _ => true | _ => false) | _ => false
  | _ => false
def drawC (ops : List Oper) (as : List AOper) : Option Nat := if callsOn as then draw3Ok ops as else none

def resCode : Code → Option ACode
  | .skip => some .skip
  | .region _ ops draw =>
    match optMap (resOper P ops.toList) ops.toList with
    | none => none
    | some as =>
      if draw then (match drawC ops.toList as with | some n => some (.draw3 (as.take n) (as.drop n)) | none => match drawOk ops.toList as with | some n => some (.draw (as.take n) (as.drop n)) | none => (match drawAOk ops.toList as with | some (z, q, d, n) => some (.drawA z q d as n) | none => none))
      else some (.region as)
  | .seq a b => match resCode a, resCode b with | some a, some b => some (.seq a b) | _, _ => none
  | .cond c a b => match absOpd c, resCode a, resCode b with | some c, some a, some b => some (.cond c a b) | _, _, _ => none
  | .block id c => (resCode c).map (.block id)
  | .loop c => (resCode c).map .loop
  | .exit id => some (.exit id)
  | .scope c => resCode c
  | .label _ => some .skip
  | .ret => some .ret
  | _ => none

def resRes : ResultVar → Option ARes
  | .tmp t => some (.tmp t)
  | .cell a t => match aggT P t, sizeT P t with | some true, some n => some (.cellN a n) | some false, _ => some (.cell1 a) | _, _ => none

/-- a function that defers nothing -/
def resFn0 (fn : Func) : Option AFn :=
  match fn.body, optMap (resRes P) fn.results.toList with
  | some c, some rs => if fn.name == "runtime.NumGoroutine" then none else (resCode P c).map fun b => { ntmps := fn.ntmps, results := rs, body := b }
  | _, _ => none
def plainFn (f : Nat) : Bool := ((P.funcs[f]?).bind (resFn0 P)).isSome
/-- a statement that defers a call at its end: what stands ahead, the function, its arguments -/
def deferOf (ops : List Oper) : Option (List Oper × Oper × Nat × List Operand) :=
  match ops.getLast? with
  | some o => (match o.op, o.guard, o.dst with
    | .defer { callee := .value (.func f), args, .. }, none, none => some (ops.dropLast, o, f, args.toList)
    | _, _, _ => none)
  | none => none
/-- a body in which one call is deferred, on the way that all goes -/
def resSpine : Code → Option ACode
  | .seq a b =>
    (match a with
     | .region _ ops false =>
       (match deferOf ops.toList with
        | some (pre, _, f, args) =>
          (match optMap (resOper P ops.toList) pre, optMap absOpd args, resCode P b with
           | some as, some xs, some r => if plainFn P f then some (.defers as f xs r) else none
           | _, _, _ => none)
        | none => (match resCode P a, resSpine b with | some a, some b => some (.seq a b) | _, _ => none))
     | _ => (match resCode P a, resSpine b with | some a, some b => some (.seq a b) | _, _ => none))
  | .scope c => resSpine c
  | _ => none

def resFn (fn : Func) : Option AFn :=
  match resFn0 P fn with
  | some f => some f
  | none =>
    (match fn.body, optMap (resRes P) fn.results.toList with
     | some c, some rs => if fn.name == "runtime.NumGoroutine" then none else (resSpine P c).map fun b => { ntmps := fn.ntmps, results := rs, body := b }
     | _, _ => none)

def tableA (f : Nat) : Option AFn := (P.funcs[f]?).bind (resFn P)

end PAbs

/- What the abstract machine's values and heaps stand for in a world of the model; how this is kept. -/
namespace PAbs
open Go Go.RowKit
set_option linter.unusedSimpArgs false
set_option linter.unusedVariables false

/-! ### lists, side by side -/
def L2 {α β : Type} (R : α → β → Prop) (l : List α) (l' : List β) : Prop :=
  l.length = l'.length ∧ ∀ (i : Nat) (x : α), l[i]? = some x → ∃ y, l'[i]? = some y ∧ R x y

section
variable {α β : Type} {R : α → β → Prop} {l : List α} {l' : List β}
theorem L2.nil : L2 R [] [] := ⟨rfl, fun i x h => by simp at h⟩
theorem L2.get (h : L2 R l l') {i : Nat} {x : α} (hx : l[i]? = some x) : ∃ y, l'[i]? = some y ∧ R x y := h.2 i x hx
theorem L2.none (h : L2 R l l') {i : Nat} (hx : l[i]? = none) : l'[i]? = none := by
  rw [List.getElem?_eq_none_iff] at hx ⊢; have := h.1; omega
theorem L2.mono {R' : α → β → Prop} (h : L2 R l l') (hr : ∀ x y, R x y → R' x y) : L2 R' l l' :=
  ⟨h.1, fun i x hx => by obtain ⟨y, hy, hR⟩ := h.2 i x hx; exact ⟨y, hy, hr _ _ hR⟩⟩
theorem L2.cons {x : α} {y : β} (h : L2 R l l') (hxy : R x y) : L2 R (x :: l) (y :: l') := by
  refine ⟨by simp [h.1], fun i z hz => ?_⟩
  cases i with
  | zero => simp at hz; subst hz; exact ⟨y, by simp, hxy⟩
  | succ i => simpa using h.2 i z (by simpa using hz)
theorem L2.set (h : L2 R l l') (i : Nat) {x : α} {y : β} (hxy : R x y) : L2 R (l.set i x) (l'.set i y) := by
  refine ⟨by simp [h.1], fun j z hz => ?_⟩
  rw [List.getElem?_set] at hz
  by_cases hij : i = j
  · subst hij
    rw [if_pos rfl] at hz
    split at hz
    · rename_i hlt
      have : z = x := by simpa using hz.symm
      subst this
      exact ⟨y, by rw [List.getElem?_set, if_pos rfl, if_pos (by have := h.1; omega)], hxy⟩
    · cases hz
  · rw [if_neg hij] at hz
    obtain ⟨u, hu, hR⟩ := h.2 j z hz
    exact ⟨u, by rw [List.getElem?_set, if_neg hij]; exact hu, hR⟩
theorem L2.append {m : List α} {m' : List β} (h : L2 R l l') (k : L2 R m m') : L2 R (l ++ m) (l' ++ m') := by
  refine ⟨by simp [h.1, k.1], fun i x hx => ?_⟩
  rw [List.getElem?_append] at hx
  split at hx
  · obtain ⟨y, hy, hR⟩ := h.2 i x hx
    exact ⟨y, by rw [List.getElem?_append, if_pos (by have := h.1; omega)]; exact hy, hR⟩
  · obtain ⟨y, hy, hR⟩ := k.2 _ x hx
    exact ⟨y, by rw [List.getElem?_append, if_neg (by have := h.1; omega), ← h.1]; exact hy, hR⟩
theorem L2.drop (h : L2 R l l') (n : Nat) : L2 R (l.drop n) (l'.drop n) := by
  refine ⟨by simp [h.1], fun i x hx => ?_⟩
  rw [List.getElem?_drop] at hx
  obtain ⟨y, hy, hR⟩ := h.2 _ x hx
  exact ⟨y, by rw [List.getElem?_drop]; exact hy, hR⟩
theorem L2.take (h : L2 R l l') (n : Nat) : L2 R (l.take n) (l'.take n) := by
  refine ⟨by simp [h.1], fun i x hx => ?_⟩
  rw [List.getElem?_take] at hx
  split at hx
  · rename_i hi
    obtain ⟨y, hy, hR⟩ := h.2 _ x hx
    exact ⟨y, by rw [List.getElem?_take, if_pos hi]; exact hy, hR⟩
  · cases hx
theorem L2.replicate {x : α} {y : β} (n : Nat) (h : R x y) : L2 R (List.replicate n x) (List.replicate n y) := by
  refine ⟨by simp, fun i z hz => ?_⟩
  rw [List.getElem?_replicate] at hz
  split at hz
  · rename_i hi
    have : z = x := by simpa using hz.symm
    subst this
    exact ⟨y, by rw [List.getElem?_replicate, if_pos hi], h⟩
  · cases hz
theorem L2.map {γ δ : Type} {S : γ → δ → Prop} {f : α → γ} {g : β → δ} (h : L2 R l l') (hr : ∀ x y, R x y → S (f x) (g y)) : L2 S (l.map f) (l'.map g) := by
  refine ⟨by simp [h.1], fun i z hz => ?_⟩
  rw [List.getElem?_map] at hz
  cases hx : l[i]? with
  | none => rw [hx] at hz; cases hz
  | some x =>
    rw [hx] at hz
    have : z = f x := by simpa using hz.symm
    subst this
    obtain ⟨y, hy, hR⟩ := h.2 i x hx
    exact ⟨g y, by rw [List.getElem?_map, hy]; rfl, hr _ _ hR⟩
end

/-! ### regions: where a block lies -/
inductive Reg where
  | dead
  | empty
  | at (g f c : Nat)
  | future
  deriving DecidableEq, Inhabited

def CR (ρ : List Reg) : Cell → Value → Prop
  | .bool b, v => v = .bool b
  | .int k n, v => v = .int k n
  | .str s, v => v = .string ⟨s.toArray⟩
  | .pnil, v => v = .pointer none
  | .ptr b o, v =>
    match ρ[b]? with
    | some (.at g f _) => v = .pointer (some ⟨g, f + o, none⟩)
    | some .dead => ∃ a, v = .pointer a
    | _ => False
  | .snil, v => v = .slice none 0 0
  | .slc b o n sz, v =>
    match ρ[b]? with
    | some (.at g f c) => (∃ k, v = .slice (some ⟨g, f + o, none⟩) n k ∧ n ≤ k ∧ o + k * sz ≤ c) ∨ (n = 0 ∧ ∃ a, v = .slice a 0 0)
    | some .empty => n = 0 ∧ ∃ a, v = .slice a 0 0
    | some .dead => ∃ a m k, v = .slice a m k
    | _ => False
  | .fnil, v => v = .nilFunc
  | .fn f, v => v = .func (.func f) #[] #[]

theorem CR.one {ρ : List Reg} {x : Cell} {v : Value} (h : CR ρ x v) : v.oneCell' = true := by
  cases x <;> simp only [CR] at h
  case ptr b o => split at h <;> first | (subst h; rfl) | (obtain ⟨a, rfl⟩ := h; rfl) | exact h.elim
  case slc b o n sz =>
    split at h
    · rcases h with ⟨k, rfl, _⟩ | ⟨_, a, rfl⟩ <;> rfl
    · obtain ⟨_, a, rfl⟩ := h; rfl
    · obtain ⟨a, m, k, rfl⟩ := h; rfl
    · exact h.elim
  all_goals (subst h; rfl)

theorem CR.cells {ρ : List Reg} {x : Cell} {v : Value} (h : CR ρ x v) : v.cells = #[v] := by
  have := h.one
  cases v <;> first | rfl | (simp [Value.oneCell'] at this)

def AggR (ρ : List Reg) (cs : List Cell) (v : Value) : Prop := ∃ l : List Value, v = .agg l.toArray ∧ L2 (CR ρ) cs l

def TR (ρ : List Reg) : TV → Value → Prop
  | .c x, v => CR ρ x v
  | .agg cs, v => AggR ρ cs v

def VR (ρ : List Reg) : AV → Value → Prop
  | .c x, v => CR ρ x v
  | .agg cs, v => AggR ρ cs v
  | .tup vs, v => ∃ l : List Value, v = .tuple l.toArray ∧ L2 (TR ρ) vs l
  | .clo f caps, v => ∃ l : List Value, v = .func (.func f) #[] l.toArray ∧ L2 (CR ρ) caps l

theorem TR.av {ρ : List Reg} {t : TV} {v : Value} (h : TR ρ t v) : VR ρ t.av v := by cases t <;> exact h
theorem VR.tv {ρ : List Reg} {x : AV} {t : TV} {v : Value} (h : VR ρ x v) (e : x.tv = some t) : TR ρ t v := by
  cases x <;> simp [AV.tv] at e <;> subst e <;> exact h
theorem VR.undef (ρ : List Reg) : VR ρ aundef undef := ⟨[], rfl, L2.nil⟩
theorem VR.cells {ρ : List Reg} {x : AV} {v : Value} {cs : List Cell} (h : VR ρ x v) (e : x.cells = some cs) : L2 (CR ρ) cs v.cells.toList := by
  cases x with
  | c x =>
    simp [AV.cells] at e; subst e
    rw [CR.cells h]
    exact L2.cons L2.nil h
  | agg l =>
    simp [AV.cells] at e; subst e
    obtain ⟨m, rfl, hm⟩ := h
    simpa [Value.cells] using hm
  | tup _ => simp [AV.cells] at e
  | clo _ _ => simp [AV.cells] at e

/-- Later regions: more of them, some of them dead. -/
def RExt (ρ ρ' : List Reg) : Prop := ∀ (b : Nat) (r : Reg), ρ[b]? = some r → ρ'[b]? = some r ∨ ρ'[b]? = some .dead

theorem RExt.refl (ρ : List Reg) : RExt ρ ρ := fun _ _ h => .inl h
theorem RExt.trans {a b c : List Reg} (h : RExt a b) (k : RExt b c) : RExt a c := fun i r hr => by
  rcases h i r hr with h | h
  · exact k i r h
  · rcases k i _ h with h | h <;> exact .inr h
theorem RExt.push (ρ : List Reg) (r : List Reg) : RExt ρ (ρ ++ r) := fun i x h => .inl (by
  rw [List.getElem?_append, if_pos (List.getElem?_eq_some_iff.1 h).1]; exact h)
theorem RExt.kill (ρ : List Reg) (b : Nat) : RExt ρ (ρ.set b .dead) := fun i x h => by
  rw [List.getElem?_set]
  by_cases hb : b = i
  · subst hb; exact .inr (by rw [if_pos rfl, if_pos (List.getElem?_eq_some_iff.1 h).1])
  · exact .inl (by rw [if_neg hb]; exact h)

theorem CR.ext {ρ ρ' : List Reg} {x : Cell} {v : Value} (h : CR ρ x v) (e : RExt ρ ρ') : CR ρ' x v := by
  cases x <;> simp only [CR] at h ⊢ <;> try exact h
  case ptr b o =>
    cases hb : ρ[b]? with
    | none => rw [hb] at h; exact h.elim
    | some r =>
      rw [hb] at h
      rcases e b r hb with e | e <;> rw [e]
      · exact h
      · cases r <;> simp only at h ⊢
        · exact h
        · exact ⟨_, h⟩
  case slc b o n sz =>
    cases hb : ρ[b]? with
    | none => rw [hb] at h; exact h.elim
    | some r =>
      rw [hb] at h
      rcases e b r hb with e | e <;> rw [e]
      · exact h
      · cases r <;> simp only at h ⊢
        · exact h
        · obtain ⟨_, a, rfl⟩ := h; exact ⟨_, _, _, rfl⟩
        · rcases h with ⟨k, rfl, _⟩ | ⟨_, a, rfl⟩ <;> exact ⟨_, _, _, rfl⟩

theorem AggR.ext {ρ ρ' : List Reg} {x : List Cell} {v : Value} (h : AggR ρ x v) (e : RExt ρ ρ') : AggR ρ' x v := by
  obtain ⟨l, rfl, hl⟩ := h; exact ⟨l, rfl, hl.mono fun _ _ h => h.ext e⟩
theorem TR.ext {ρ ρ' : List Reg} {x : TV} {v : Value} (h : TR ρ x v) (e : RExt ρ ρ') : TR ρ' x v := by
  cases x with
  | c x => exact CR.ext h e
  | agg l => exact AggR.ext h e
theorem VR.ext {ρ ρ' : List Reg} {x : AV} {v : Value} (h : VR ρ x v) (e : RExt ρ ρ') : VR ρ' x v := by
  cases x with
  | c x => exact CR.ext h e
  | agg l => exact AggR.ext h e
  | tup l => obtain ⟨m, rfl, hm⟩ := h; exact ⟨m, rfl, hm.mono fun _ _ h => h.ext e⟩
  | clo f l => obtain ⟨m, rfl, hm⟩ := h; exact ⟨m, rfl, hm.mono fun _ _ h => CR.ext h e⟩

/-! ### frames and operands -/
def FR (ρ : List Reg) (fr : AFrame) (tmps : Array Value) : Prop := L2 (VR ρ) fr tmps.toList

theorem FR.ext {ρ ρ' : List Reg} {fr : AFrame} {tmps : Array Value} (h : FR ρ fr tmps) (e : RExt ρ ρ') : FR ρ' fr tmps := L2.mono h fun _ _ h => h.ext e
theorem FR.getD {ρ : List Reg} {fr : AFrame} {tmps : Array Value} (h : FR ρ fr tmps) (i : Nat) : VR ρ (fr.getD i aundef) (tmps.getD i undef) := by
  rw [List.getD_eq_getElem?_getD, Array.getD_eq_getD_getElem?]
  cases hx : fr[i]? with
  | none =>
    have : tmps[i]? = none := by simpa using L2.none h hx
    rw [this]; exact VR.undef ρ
  | some x =>
    obtain ⟨y, hy, hR⟩ := L2.get h hx
    have : tmps[i]? = some y := by simpa using hy
    rw [this]; exact hR
theorem FR.put {ρ : List Reg} {fr : AFrame} {a : Act} {x : AV} {v : Value} (h : FR ρ fr a.tmps) (dst : Option Nat) (hv : VR ρ x v) : FR ρ (putA fr dst x) (a.put dst v).tmps := by
  cases dst with
  | none => exact h
  | some d =>
    have := L2.set h d hv
    simpa [putA, Act.put, FR] using this

theorem optMap_L2 {α β : Type} {f : α → Option β} {R : β → α → Prop} (hf : ∀ a b, f a = some b → R b a) : ∀ {l : List α} {r : List β}, optMap f l = some r → L2 R r l
  | [], r, h => by simp [optMap] at h; subst h; exact L2.nil
  | a :: l, r, h => by
    simp only [optMap] at h
    split at h
    · rename_i b r' h1 h2
      simp at h; subst h
      exact L2.cons (optMap_L2 hf h2) (hf _ _ h1)
    · cases h

theorem absCell_CR {ρ : List Reg} {v : Value} {x : Cell} (h : absCell v = some x) : CR ρ x v := by
  unfold absCell at h
  split at h
  case h_7 f a b =>
    split at h
    · rename_i hab
      simp at h; subst h
      obtain ⟨ha, hb⟩ := hab
      have ha : a = #[] := by simpa using ha
      have hb : b = #[] := by simpa using hb
      subst ha hb; rfl
    · cases h
  all_goals first | (simp at h; subst h; first | rfl | simp [CR]) | cases h

theorem absVal_VR {ρ : List Reg} {v : Value} {x : AV} (h : absVal v = some x) : VR ρ x v := by
  unfold absVal at h
  split at h
  · rename_i cs
    cases ho : optMap absCell cs.toList with
    | none => rw [ho] at h; cases h
    | some l =>
      rw [ho] at h; simp at h; subst h
      exact ⟨cs.toList, by simp, optMap_L2 (R := CR ρ) (fun _ _ h => absCell_CR h) ho⟩
  · rename_i vs
    split at h
    · rename_i hs
      have hs : vs = #[] := by simpa using hs
      simp at h; subst h hs; exact VR.undef ρ
    · cases h
  · cases ho : absCell v with
    | none => rw [ho] at h; cases h
    | some c => rw [ho] at h; simp at h; subst h; exact absCell_CR (ρ := ρ) ho

theorem absOpd_VR {ρ : List Reg} {fr : AFrame} {a : Act} {x : Operand} {y : AOpd} (hF : FR ρ fr a.tmps) (h : absOpd x = some y) : VR ρ (y.ev fr) (a.eval x) := by
  cases x <;> simp only [absOpd] at h
  case tmp t => simp at h; subst h; exact hF.getD t
  case const v =>
    cases ho : absVal v with
    | none => rw [ho] at h; cases h
    | some z => rw [ho] at h; simp at h; subst h; exact absVal_VR ho
  case func f => simp at h; subst h; simp [AOpd.ev, Act.eval, VR, CR]
  case global g => cases h

theorem absOpd_evs {ρ : List Reg} {fr : AFrame} {a : Act} {xs : List Operand} {ys : List AOpd} (hF : FR ρ fr a.tmps) (h : optMap absOpd xs = some ys) :
    L2 (VR ρ) (ys.map (·.ev fr)) (xs.map a.eval) := by
  have := optMap_L2 (R := fun y x => VR ρ (y.ev fr) (a.eval x)) (fun x y h => absOpd_VR hF h) h
  exact this.map fun _ _ h => h

/-! ### heaps -/
def Holds (ρ : List Reg) (arr : Array Value) (f : Nat) (cs : List Cell) : Prop := ∀ (i : Nat) (x : Cell), cs[i]? = some x → ∃ v, arr[f + i]? = some v ∧ CR ρ x v

theorem Holds.ext {ρ ρ' : List Reg} {arr : Array Value} {f : Nat} {cs : List Cell} (h : Holds ρ arr f cs) (e : RExt ρ ρ') : Holds ρ' arr f cs :=
  fun i x hx => by obtain ⟨v, hv, hc⟩ := h i x hx; exact ⟨v, hv, hc.ext e⟩

def Thawed (fz : Nat × Nat) (n : Nat) : Prop := ∀ o, o < n → ¬ (fz.1 ≤ o ∧ o < fz.2)

def BR (base : Nat) (ρ : List Reg) (w : World) : Reg → Blk → Prop
  | .at g f c, .own cs => base ≤ g ∧ ∃ arr ty fz, w.heap[g]? = some (.cells arr ty fz) ∧ Thawed fz arr.size ∧ f + c ≤ arr.size ∧ cs.length ≤ c ∧ Holds ρ arr f cs
  | .at g f c, .ro cs => g < base ∧ cs.length ≤ c ∧ ∃ arr ty fz, w.heap[g]? = some (.cells arr ty fz) ∧ Holds ρ arr f cs
  | .empty, .own cs => cs = []
  | .empty, .ro cs => cs = []
  | .dead, .dead => True
  | .future, .own _ => True
  | _, _ => False

structure HR (base : Nat) (ρ : List Reg) (H : AHeap) (w : World) : Prop where
  len : ρ.length = H.length
  blk : ∀ (b : Nat) (x : Blk) (r : Reg), H[b]? = some x → ρ[b]? = some r → BR base ρ w r x
  apart : ∀ (b b' : Nat) (cs cs' : List Cell) (g f c f' c' : Nat), H[b]? = some (.own cs) → H[b']? = some (.own cs') → ρ[b]? = some (.at g f c) → ρ[b']? = some (.at g f' c') → b = b'
  base_le : base ≤ w.heap.size

theorem HR.reg {base : Nat} {ρ : List Reg} {H : AHeap} {w : World} (h : HR base ρ H w) {b : Nat} {x : Blk} (hb : H[b]? = some x) : ∃ r, ρ[b]? = some r ∧ BR base ρ w r x := by
  have hlt : b < ρ.length := by rw [h.len]; exact (List.getElem?_eq_some_iff.1 hb).1
  exact ⟨_, List.getElem?_eq_getElem hlt, h.blk b x _ hb (List.getElem?_eq_getElem hlt)⟩

theorem hcells_some {H : AHeap} {b : Nat} {cs : List Cell} (h : hcells H b = some cs) : H[b]? = some (.ro cs) ∨ H[b]? = some (.own cs) := by
  unfold hcells at h
  split at h <;> first | (simp at h; subst h; simp [*]) | cases h
theorem hown_some {H : AHeap} {b : Nat} {cs : List Cell} (h : hown H b = some cs) : H[b]? = some (.own cs) := by
  unfold hown at h
  split at h <;> first | (simp at h; subst h; simp [*]) | cases h

/-- A block that may be read, and a pointer into it. -/
theorem HR.at_ptr {base : Nat} {ρ : List Reg} {H : AHeap} {w : World} (h : HR base ρ H w) {b o : Nat} {cs : List Cell} {v : Value} (hc : hcells H b = some cs) (hv : CR ρ (.ptr b o) v) :
    ∃ g f c, ρ[b]? = some (.at g f c) ∧ v = .pointer (some ⟨g, f + o, none⟩) ∧ ∃ arr ty fz, w.heap[g]? = some (.cells arr ty fz) ∧ Holds ρ arr f cs := by
  simp only [CR] at hv
  rcases hcells_some hc with hb | hb <;> obtain ⟨r, hr, hB⟩ := h.reg hb <;> rw [hr] at hv <;> cases r <;> simp only [BR] at hB hv <;>
    first
    | exact hB.elim
    | exact hv.elim
    | (obtain ⟨_, _, arr, ty, fz, h1, h2⟩ := hB; exact ⟨_, _, _, hr, hv, arr, ty, fz, h1, h2⟩)
    | (obtain ⟨_, arr, ty, fz, h1, _, _, _, h2⟩ := hB; exact ⟨_, _, _, hr, hv, arr, ty, fz, h1, h2⟩)

/-- A block that may be read, and a slice of it that is not empty. -/
theorem HR.at_slc {base : Nat} {ρ : List Reg} {H : AHeap} {w : World} (h : HR base ρ H w) {b o n sz : Nat} {cs : List Cell} {v : Value} (hc : hcells H b = some cs) (hv : CR ρ (.slc b o n sz) v) :
    (∃ g f c k, ρ[b]? = some (.at g f c) ∧ v = .slice (some ⟨g, f + o, none⟩) n k ∧ n ≤ k ∧ o + k * sz ≤ c ∧ ∃ arr ty fz, w.heap[g]? = some (.cells arr ty fz) ∧ Holds ρ arr f cs) ∨
    (n = 0 ∧ ∃ a, v = .slice a 0 0) := by
  simp only [CR] at hv
  rcases hcells_some hc with hb | hb <;> obtain ⟨r, hr, hB⟩ := h.reg hb <;> rw [hr] at hv <;> cases r <;> simp only [BR] at hB hv <;>
    first
    | exact hB.elim
    | exact .inr hv
    | (rcases hv with ⟨k, h1, h2, h3⟩ | hv
       · first
         | (obtain ⟨_, _, arr, ty, fz, h4, h5⟩ := hB; exact .inl ⟨_, _, _, k, hr, h1, h2, h3, arr, ty, fz, h4, h5⟩)
         | (obtain ⟨_, arr, ty, fz, h4, _, _, _, h5⟩ := hB; exact .inl ⟨_, _, _, k, hr, h1, h2, h3, arr, ty, fz, h4, h5⟩)
       · exact .inr hv)

theorem cell_of {w : World} {g o : Nat} {arr : Array Value} {ty : TypeId} {fz : Nat × Nat} (h : w.heap[g]? = some (.cells arr ty fz)) : w.cell? ⟨g, o, none⟩ = arr[o]? := by
  simp [World.cell?, h]
theorem addr_add (g f n : Nat) : (⟨g, f, none⟩ : Addr).add n = ⟨g, f + n, none⟩ := by unfold Addr.add; split <;> simp_all

/-- n cells read in a row -/
theorem HR.reads {base : Nat} {ρ : List Reg} {H : AHeap} {w : World} {b g f c : Nat} {cs : List Cell} {arr : Array Value} {ty : TypeId} {fz : Nat × Nat} {o n : Nat}
    (_h : HR base ρ H w) (_hr : ρ[b]? = some (.at g f c)) (hg : w.heap[g]? = some (.cells arr ty fz)) (hh : Holds ρ arr f cs) (hn : o + n ≤ cs.length) :
    ∃ l : List Value, L2 (CR ρ) ((cs.drop o).take n) l ∧ l.length = n ∧ ∀ j v, l[j]? = some v → w.cell? ((⟨g, f + o, none⟩ : Addr).add j) = some v := by
  have hx : ∀ i, i < n → ∃ v, arr[f + o + i]? = some v ∧ CR ρ (cs[o + i]?.getD .pnil) v := fun i hi => by
    have hlt : o + i < cs.length := by omega
    obtain ⟨v, h1, h2⟩ := hh (o + i) _ (List.getElem?_eq_getElem hlt)
    exact ⟨v, by rw [Nat.add_assoc]; exact h1, by rw [List.getElem?_eq_getElem hlt]; exact h2⟩
  refine ⟨(arr.toList.drop (f + o)).take n, ⟨?_, ?_⟩, ?_, ?_⟩
  · have h1 : f + o + n ≤ arr.size ∨ n = 0 := by
      rcases Nat.eq_zero_or_pos n with h0 | h0
      · exact .inr h0
      · obtain ⟨v, hv, _⟩ := hx (n - 1) (by omega)
        have := (Array.getElem?_eq_some_iff.1 hv).1
        exact .inl (by omega)
    simp only [List.length_take, List.length_drop, Array.length_toList]
    omega
  · intro i x hi
    rw [List.getElem?_take] at hi
    split at hi
    · rename_i hin
      rw [List.getElem?_drop] at hi
      obtain ⟨v, h1, h2⟩ := hx i hin
      rw [hi] at h2
      exact ⟨v, by rw [List.getElem?_take, if_pos hin, List.getElem?_drop, Array.getElem?_toList]; exact h1, h2⟩
    · cases hi
  · have h1 : f + o + n ≤ arr.size ∨ n = 0 := by
      rcases Nat.eq_zero_or_pos n with h0 | h0
      · exact .inr h0
      · obtain ⟨v, hv, _⟩ := hx (n - 1) (by omega)
        have := (Array.getElem?_eq_some_iff.1 hv).1
        exact .inl (by omega)
    simp only [List.length_take, List.length_drop, Array.length_toList]
    omega
  · intro j v hj
    rw [List.getElem?_take] at hj
    split at hj
    · rw [List.getElem?_drop, Array.getElem?_toList] at hj
      rw [addr_add, cell_of hg]; exact hj
    · cases hj

/-! ### what the steps do to a heap -/
section
variable {base : Nat} {ρ : List Reg} {H : AHeap} {w : World}

theorem BR.ext {ρ' : List Reg} {r : Reg} {x : Blk} (h : BR base ρ w r x) (e : RExt ρ ρ') : BR base ρ' w r x := by
  cases r <;> cases x <;> simp only [BR] at h ⊢ <;> try exact h
  · obtain ⟨h1, h0, arr, ty, fz, h2, h3⟩ := h; exact ⟨h1, h0, arr, ty, fz, h2, h3.ext e⟩
  · obtain ⟨h1, arr, ty, fz, h2, h3, h4, h5, h6⟩ := h; exact ⟨h1, arr, ty, fz, h2, h3, h4, h5, h6.ext e⟩

theorem BR.world {w' : World} {r : Reg} {x : Blk} (h : BR base ρ w r x) (hw : ∀ g f c, r = .at g f c → w'.heap[g]? = w.heap[g]?) : BR base ρ w' r x := by
  cases r <;> cases x <;> simp only [BR] at h ⊢ <;> try exact h
  · obtain ⟨h1, h0, arr, ty, fz, h2, h3⟩ := h; exact ⟨h1, h0, arr, ty, fz, (hw _ _ _ rfl).trans h2, h3⟩
  · obtain ⟨h1, arr, ty, fz, h2, h3, h4, h5, h6⟩ := h; exact ⟨h1, arr, ty, fz, (hw _ _ _ rfl).trans h2, h3, h4, h5, h6⟩

theorem BR.lt {g f c : Nat} {x : Blk} (h : BR base ρ w (.at g f c) x) : g < w.heap.size := by
  cases x <;> simp only [BR] at h
  · obtain ⟨_, _, arr, ty, fz, h2, _⟩ := h; exact (Array.getElem?_eq_some_iff.1 h2).1
  · obtain ⟨_, arr, ty, fz, h2, _⟩ := h; exact (Array.getElem?_eq_some_iff.1 h2).1

theorem HR.drew (h : HR base ρ H w) : HR base ρ H w.drew :=
  ⟨h.len, fun b x r hx hr => (h.blk b x r hx hr).world fun _ _ _ _ => rfl, h.apart, h.base_le⟩

theorem HR.world (h : HR base ρ H w) {w' : World} (hs : w.heap.size ≤ w'.heap.size) (hw : ∀ g, g < w.heap.size → w'.heap[g]? = w.heap[g]?) : HR base ρ H w' :=
  ⟨h.len, fun b x r hx hr => (h.blk b x r hx hr).world fun g f c e => hw g (by subst e; exact (h.blk b x _ hx hr).lt), h.apart, Nat.le_trans h.base_le hs⟩

/-- A new block of the call's own. -/
theorem HR.push (h : HR base ρ H w) {arr : Array Value} {ty : TypeId} {fz : Nat × Nat} {cs : List Cell} {c : Nat} (hfz : Thawed fz arr.size) (hc : c ≤ arr.size) (hl : cs.length ≤ c)
    (hh : Holds ρ arr 0 cs) : HR base (ρ ++ [.at w.heap.size 0 c]) (H ++ [.own cs]) (w.alloc (.cells arr ty fz)) := by
  have hx := RExt.push ρ [.at w.heap.size 0 c]
  refine ⟨by simp [h.len], fun b x r hb hr => ?_, ?_, ?_⟩
  · rw [List.getElem?_append] at hb hr
    by_cases hlt : b < H.length
    · rw [if_pos hlt] at hb
      rw [if_pos (by rw [h.len]; exact hlt)] at hr
      refine ((h.blk b x r hb hr).world fun g f c e => ?_).ext hx
      subst e
      exact Below.heap_alloc w _ g (h.blk b x _ hb hr).lt
    · rw [if_neg hlt] at hb
      rw [if_neg (by rw [h.len]; exact hlt), h.len] at hr
      have hb0 : b - H.length = 0 := by
        have := (List.getElem?_eq_some_iff.1 hb).1; simp at this; omega
      rw [hb0] at hb hr
      simp at hb hr
      subst hb hr
      exact ⟨h.base_le, arr, ty, fz, heap_alloc_new w _, hfz, by omega, hl, hh.ext hx⟩
  · intro b b' cs1 cs2 g f c1 f' c2 hb hb' hr hr'
    rw [List.getElem?_append] at hb hb' hr hr'
    rw [h.len] at hr hr'
    by_cases h1 : b < H.length <;> by_cases h2 : b' < H.length
    · rw [if_pos h1] at hb hr; rw [if_pos h2] at hb' hr'
      exact h.apart _ _ _ _ _ _ _ _ _ hb hb' hr hr'
    · rw [if_pos h1] at hb hr; rw [if_neg h2] at hb' hr'
      have h0 : b' - H.length = 0 := by have := (List.getElem?_eq_some_iff.1 hb').1; simp at this; omega
      rw [h0] at hr'; simp at hr'
      have := (h.blk _ _ _ hb hr).lt
      omega
    · rw [if_neg h1] at hb hr; rw [if_pos h2] at hb' hr'
      have h0 : b - H.length = 0 := by have := (List.getElem?_eq_some_iff.1 hb).1; simp at this; omega
      rw [h0] at hr; simp at hr
      have := (h.blk _ _ _ hb' hr').lt
      omega
    · rw [if_neg h1] at hb; rw [if_neg h2] at hb'
      have := (List.getElem?_eq_some_iff.1 hb).1
      have := (List.getElem?_eq_some_iff.1 hb').1
      simp at *; omega
  · have := h.base_le; simp; omega

/-- An empty block that lies nowhere. -/
theorem HR.push_empty (h : HR base ρ H w) : HR base (ρ ++ [.empty]) (H ++ [.own []]) w := by
  have hx := RExt.push ρ [.empty]
  refine ⟨by simp [h.len], fun b x r hb hr => ?_, ?_, h.base_le⟩
  · rw [List.getElem?_append] at hb hr
    by_cases hlt : b < H.length
    · rw [if_pos hlt] at hb
      rw [if_pos (by rw [h.len]; exact hlt)] at hr
      exact (h.blk b x r hb hr).ext hx
    · rw [if_neg hlt] at hb
      rw [if_neg (by rw [h.len]; exact hlt), h.len] at hr
      have hb0 : b - H.length = 0 := by
        have := (List.getElem?_eq_some_iff.1 hb).1; simp at this; omega
      rw [hb0] at hb hr
      simp at hb hr
      subst hb hr
      rfl
  · intro b b' cs1 cs2 g f c1 f' c2 hb hb' hr hr'
    rw [List.getElem?_append] at hb hb' hr hr'
    rw [h.len] at hr hr'
    by_cases h1 : b < H.length <;> by_cases h2 : b' < H.length
    · rw [if_pos h1] at hb hr; rw [if_pos h2] at hb' hr'
      exact h.apart _ _ _ _ _ _ _ _ _ hb hb' hr hr'
    · rw [if_neg h2] at hr'
      have h0 : b' - H.length = 0 := by have := (List.getElem?_eq_some_iff.1 hr').1; simp at this; omega
      rw [h0] at hr'; simp at hr'
    · rw [if_neg h1] at hr
      have h0 : b - H.length = 0 := by have := (List.getElem?_eq_some_iff.1 hr).1; simp at this; omega
      rw [h0] at hr; simp at hr
    · rw [if_neg h1] at hr
      have h0 : b - H.length = 0 := by have := (List.getElem?_eq_some_iff.1 hr).1; simp at this; omega
      rw [h0] at hr; simp at hr

/-- A block that is looked at no more. -/
theorem HR.kill (h : HR base ρ H w) (b : Nat) : HR base (ρ.set b .dead) (H.set b .dead) w := by
  have hx := RExt.kill ρ b
  refine ⟨by simp [h.len], fun i x r hi hr => ?_, ?_, h.base_le⟩
  · rw [List.getElem?_set] at hi hr
    by_cases hbi : b = i
    · subst hbi
      rw [if_pos rfl] at hi hr
      split at hi <;> split at hr <;> simp at hi hr
      subst hi hr; trivial
    · rw [if_neg hbi] at hi hr
      exact (h.blk i x r hi hr).ext hx
  · intro i i' cs1 cs2 g f c1 f' c2 hi hi' hr hr'
    rw [List.getElem?_set] at hi hi' hr hr'
    by_cases h1 : b = i
    · rw [if_pos h1] at hi; split at hi <;> simp at hi
    · by_cases h2 : b = i'
      · rw [if_pos h2] at hi'; split at hi' <;> simp at hi'
      · rw [if_neg h1] at hi hr; rw [if_neg h2] at hi' hr'
        exact h.apart _ _ _ _ _ _ _ _ _ hi hi' hr hr'

/-- cells, written over -/
def overAt (arr : Array Value) (k : Nat) (vs : List Value) : Array Value := (arr.toList.take k ++ vs ++ arr.toList.drop (k + vs.length)).toArray

theorem overAt_size (arr : Array Value) (k : Nat) (vs : List Value) (h : k + vs.length ≤ arr.size) : (overAt arr k vs).size = arr.size := by
  simp only [overAt, List.size_toArray, List.length_append, List.length_take, List.length_drop, Array.length_toList]; omega

theorem overAt_get (arr : Array Value) (k : Nat) (vs : List Value) (h : k + vs.length ≤ arr.size) (j : Nat) :
    (overAt arr k vs)[j]? = if j < k then arr[j]? else if j < k + vs.length then vs[j - k]? else arr[j]? := by
  simp only [overAt, List.getElem?_toArray, List.getElem?_append, List.getElem?_take, List.length_take, List.getElem?_drop, List.length_append, Array.length_toList, Array.getElem?_toList]
  have hk : min k arr.size = k := by omega
  rw [hk]
  by_cases h1 : j < k
  · rw [if_pos (by omega), if_pos h1, if_pos h1, if_pos h1]
  · by_cases h2 : j < k + vs.length
    · rw [if_pos (by omega), if_neg h1, if_neg h1, if_pos h2]
    · rw [if_neg (by omega), if_neg h1, if_neg h2]; congr 1; omega

theorem run_storeCells_thawed (P : Program) (g o : Nat) (t : TypeId) (fz : Nat × Nat) : ∀ (vs : List Value) (i : Nat) (cur : Array Value) (w : World), w.heap[g]? = some (.cells cur t fz) → Thawed fz cur.size → o + i + vs.length ≤ cur.size → (∀ v ∈ vs, v.oneCell' = true) →
    (storeCells ⟨g, o, none⟩ vs i).run P w = .ok () (w.setRow g (overAt cur (o + i) vs))
  | [], i, cur, w, hg, _, _, _ => by
    simp only [storeCells, overAt, List.append_nil, List.length_nil, Nat.add_zero, List.take_append_drop, Array.toArray_toList]
    rw [setRow_self w g cur t fz hg]
    rfl
  | v :: rest, i, cur, w, hg, hz, hl, h1 => by
    have hi : o + i < cur.size := by simp at hl; omega
    have hcell : w.cell? ⟨g, o + i, none⟩ = some cur[o + i] := by simp [World.cell?, hg, hi]
    have hfro : w.frozen? ⟨g, o + i, none⟩ = false := by
      have := hz (o + i) hi
      simp only [World.frozen?, hg]
      simp only [not_and, Nat.not_lt] at this
      by_cases h : fz.1 ≤ o + i
      · have := this h; simp; omega
      · simp; omega
    have hst : (store ((⟨g, o, none⟩ : Addr).add i) v).run P w = .ok () (w.setRow g (cur.setIfInBounds (o + i) v)) := by
      rw [addr_add, run_store P w _ v _ (h1 v (by simp)), hcell]
      simp [hfro, setCell_eq_setRow w g (o + i) cur t fz v hg]
    have ih := run_storeCells_thawed P g o t fz rest (i + 1) (cur.setIfInBounds (o + i) v) (w.setRow g (cur.setIfInBounds (o + i) v)) (setRow_heap w g cur _ t _ hg) (by simpa using hz) (by simp at hl ⊢; omega) (fun x hx => h1 x (by simp [hx]))
    simp only [storeCells, Sem.run_bind, hst, Result.andThen_ok, ih, setRow_setRow]
    have e := list_seg_step cur.toList (o + i) v rest (by simp at hl ⊢; omega)
    have e' : overAt (cur.setIfInBounds (o + i) v) (o + (i + 1)) rest = overAt cur (o + i) (v :: rest) := by
      unfold overAt
      congr 1
      simpa [Array.toList_setIfInBounds, Nat.add_assoc] using e
    rw [e']

theorem L2.one {cs : List Cell} {l : List Value} (h : L2 (CR ρ) cs l) : ∀ v ∈ l, v.oneCell' = true := by
  intro v hv
  obtain ⟨i, hi, rfl⟩ := List.mem_iff_getElem.1 hv
  have hlt : i < cs.length := by rw [h.1]; exact hi
  obtain ⟨y, hy, hR⟩ := h.2 i _ (List.getElem?_eq_getElem hlt)
  rw [List.getElem?_eq_getElem hi] at hy
  have : l[i] = y := by simpa using hy
  rw [this]; exact hR.one

/-- A write into a block of the call's own. -/
theorem HR.write (h : HR base ρ H w) {b g f c o : Nat} {cs : List Cell} {vs : List Cell} {l : List Value} {arr : Array Value} {ty : TypeId} {fz : Nat × Nat}
    (hb : H[b]? = some (.own cs)) (hr : ρ[b]? = some (.at g f c)) (hg : w.heap[g]? = some (.cells arr ty fz)) (hl : L2 (CR ρ) vs l) (ho : o + vs.length ≤ cs.length) :
    HR base ρ (H.set b (.own (cs.take o ++ vs ++ cs.drop (o + vs.length)))) (w.setRow g (overAt arr (f + o) l)) := by
  have hB := h.blk b _ _ hb hr
  simp only [BR] at hB
  obtain ⟨hbase, arr', ty', fz', hg', hz, hfc, hcl, hh⟩ := hB
  rw [hg] at hg'
  simp at hg'
  obtain ⟨rfl, rfl, rfl⟩ := hg'
  have hfit : f + o + l.length ≤ arr.size := by have := hl.1; omega
  have hlt : b < H.length := (List.getElem?_eq_some_iff.1 hb).1
  refine ⟨by simp [h.len], fun i x r hi hri => ?_, ?_, by simpa using h.base_le⟩
  · rw [List.getElem?_set] at hi
    by_cases hbi : b = i
    · subst hbi
      rw [if_pos rfl, if_pos hlt] at hi
      rw [hr] at hri
      have hx : x = .own (cs.take o ++ vs ++ cs.drop (o + vs.length)) := by simpa using hi.symm
      have hrr : r = .at g f c := by simpa using hri.symm
      subst hx hrr
      refine ⟨hbase, _, ty, fz, setRow_heap w g arr _ ty fz hg, by rw [overAt_size _ _ _ hfit]; exact hz, by rw [overAt_size _ _ _ hfit]; exact hfc, ?_, ?_⟩
      · simp only [List.length_append, List.length_take, List.length_drop]; omega
      · intro j y hj
        rw [List.append_assoc, List.getElem?_append, List.length_take] at hj
        have hmin : min o cs.length = o := by omega
        rw [hmin] at hj
        rw [overAt_get _ _ _ hfit]
        by_cases hjo : j < o
        · rw [if_pos hjo, List.getElem?_take, if_pos hjo] at hj
          rw [if_pos (by omega)]
          exact hh j y hj
        · rw [if_neg hjo, List.getElem?_append] at hj
          rw [if_neg (by omega)]
          by_cases hjv : j - o < vs.length
          · rw [if_pos hjv] at hj
            rw [if_pos (by have := hl.1; omega)]
            obtain ⟨v, hv, hc⟩ := hl.2 _ _ hj
            exact ⟨v, by rw [← hv]; congr 1; omega, hc⟩
          · rw [if_neg hjv, List.getElem?_drop] at hj
            rw [if_neg (by have := hl.1; omega)]
            refine hh j y ?_
            rw [← hj]; congr 1; omega
    · rw [if_neg hbi] at hi
      refine (h.blk i x r hi hri).world fun g' f' c' e => ?_
      subst e
      refine setRow_other w g g' _ fun e => hbi ?_
      subst e
      have hBi := h.blk i x _ hi hri
      cases x with
      | own cs' => exact h.apart b i _ _ _ _ _ _ _ hb hi hr hri
      | ro cs' => simp only [BR] at hBi; omega
      | dead => simp only [BR] at hBi
  · intro i i' cs1 cs2 g1 f1 c1 f2 c2 hi hi' hri hri'
    have key : ∀ {k : Nat} {x : List Cell}, (H.set b (.own (cs.take o ++ vs ++ cs.drop (o + vs.length))))[k]? = some (.own x) → ∃ y, H[k]? = some (.own y) := fun {k x} hk => by
      rw [List.getElem?_set] at hk
      by_cases hbk : b = k
      · subst hbk; exact ⟨cs, hb⟩
      · rw [if_neg hbk] at hk; exact ⟨x, hk⟩
    obtain ⟨y1, h1⟩ := key hi
    obtain ⟨y2, h2⟩ := key hi'
    exact h.apart _ _ _ _ _ _ _ _ _ h1 h2 hri hri'

/-- What an append leaves that found room: the old block is dead, a new one lies where its last cells lay. -/
theorem HR.moved (h : HR base ρ H w) {b g f c o m : Nat} {cs news : List Cell} {l : List Value} {arr : Array Value} {ty : TypeId} {fz : Nat × Nat}
    (hb : H[b]? = some (.own cs)) (hr : ρ[b]? = some (.at g f c)) (hg : w.heap[g]? = some (.cells arr ty fz)) (hl : L2 (CR ρ) news l) (ho : o ≤ cs.length) (hm : cs.length - o + news.length ≤ m) (hmc : o + m ≤ c) :
    HR base (ρ.set b .dead ++ [.at g (f + o) m]) (H.set b .dead ++ [.own (cs.drop o ++ news)]) (w.setRow g (overAt arr (f + cs.length) l)) := by
  have hB := h.blk b _ _ hb hr
  simp only [BR] at hB
  obtain ⟨hbase, arr', ty', fz', hg', hz, hfc, hcl, hh⟩ := hB
  rw [hg] at hg'
  simp at hg'
  obtain ⟨rfl, rfl, rfl⟩ := hg'
  have hfit : f + cs.length + l.length ≤ arr.size := by have := hl.1; omega
  have hlt : b < H.length := (List.getElem?_eq_some_iff.1 hb).1
  have hx : RExt ρ (ρ.set b .dead ++ [.at g (f + o) m]) := (RExt.kill ρ b).trans (RExt.push _ _)
  refine ⟨by simp [h.len], fun i x r hi hri => ?_, ?_, by simpa using h.base_le⟩
  · rw [List.getElem?_append] at hi hri
    simp only [List.length_set] at hi hri
    rw [h.len] at hri
    by_cases hiH : i < H.length
    · rw [if_pos hiH, List.getElem?_set] at hi hri
      by_cases hbi : b = i
      · subst hbi
        rw [if_pos rfl] at hi hri
        split at hi <;> split at hri <;> simp at hi hri <;> first | omega | (subst hi hri; trivial)
      · rw [if_neg hbi] at hi hri
        refine ((h.blk i x r hi hri).world fun g' f' c' e => ?_).ext hx
        subst e
        refine setRow_other w g g' _ fun e => hbi ?_
        subst e
        have hBi := h.blk i x _ hi hri
        cases x with
        | own cs' => exact h.apart b i _ _ _ _ _ _ _ hb hi hr hri
        | ro cs' => simp only [BR] at hBi; omega
        | dead => simp only [BR] at hBi
    · rw [if_neg hiH] at hi hri
      have h0 : i - H.length = 0 := by have := (List.getElem?_eq_some_iff.1 hi).1; simp at this; omega
      rw [h0] at hi hri
      simp at hi hri
      subst hi hri
      refine ⟨hbase, _, ty, fz, setRow_heap w g arr _ ty fz hg, by rw [overAt_size _ _ _ hfit]; exact hz, by rw [overAt_size _ _ _ hfit]; omega, ?_, ?_⟩
      · simp only [List.length_append, List.length_drop]; omega
      · intro j y hj
        rw [List.getElem?_append, List.length_drop] at hj
        rw [overAt_get _ _ _ hfit]
        by_cases hjo : j < cs.length - o
        · rw [if_pos hjo, List.getElem?_drop] at hj
          rw [if_pos (by omega)]
          obtain ⟨v, hv, hc⟩ := hh _ _ hj
          exact ⟨v, by rw [← hv]; congr 1; omega, hc.ext hx⟩
        · rw [if_neg hjo] at hj
          have hjl := (List.getElem?_eq_some_iff.1 hj).1
          rw [if_neg (by omega), if_pos (by have := hl.1; omega)]
          obtain ⟨v, hv, hc⟩ := hl.2 _ _ hj
          exact ⟨v, by rw [← hv]; congr 1; omega, hc.ext hx⟩
  · intro i i' cs1 cs2 g1 f1 c1 f2 c2 hi hi' hri hri'
    have key : ∀ {k : Nat} {x : List Cell} {g' f' c' : Nat}, (H.set b Blk.dead ++ [.own (cs.drop o ++ news)])[k]? = some (.own x) → (ρ.set b .dead ++ [.at g (f + o) m])[k]? = some (.at g' f' c') →
        (k < H.length ∧ k ≠ b ∧ H[k]? = some (.own x) ∧ ρ[k]? = some (.at g' f' c')) ∨ (k = H.length ∧ g' = g) := fun {k x g' f' c'} hk hrk => by
      rw [List.getElem?_append] at hk hrk
      simp only [List.length_set] at hk hrk
      rw [h.len] at hrk
      by_cases hkH : k < H.length
      · rw [if_pos hkH, List.getElem?_set] at hk hrk
        by_cases hbk : b = k
        · rw [if_pos hbk] at hk; split at hk <;> simp at hk
        · rw [if_neg hbk] at hk hrk
          exact .inl ⟨hkH, fun e => hbk e.symm, hk, hrk⟩
      · rw [if_neg hkH] at hk hrk
        have h0 : k - H.length = 0 := by have := (List.getElem?_eq_some_iff.1 hk).1; simp at this; omega
        rw [h0] at hrk
        simp at hrk
        exact .inr ⟨by omega, hrk.1.symm⟩
    rcases key hi hri with ⟨a1, a2, a3, a4⟩ | ⟨a1, a2⟩ <;> rcases key hi' hri' with ⟨b1, b2, b3, b4⟩ | ⟨b1, b2⟩
    · exact h.apart _ _ _ _ _ _ _ _ _ a3 b3 a4 b4
    · subst b2; exact absurd (h.apart _ _ _ _ _ _ _ _ _ hb a3 hr a4) (fun e => a2 e.symm)
    · subst a2; exact absurd (h.apart _ _ _ _ _ _ _ _ _ hb b3 hr b4) (fun e => b2 e.symm)
    · omega
end
end PAbs

/- Each operation of the abstract machine, against the model's own. -/
namespace PAbs
open Go Go.RowKit
set_option linter.unusedSimpArgs false
set_option linter.unusedVariables false

section types
variable {P : Program} {w : World} {t e : TypeId}

theorem run_isAgg {b : Bool} (h : aggT P t = some b) : (isAgg t).run P w = .ok b w := by
  unfold aggT at h
  split at h <;> first | (rename_i hu; simp at h; subst h; simp [isAgg, run_underlying hu]) | (rename_i d hu; simp at h; subst h; simp [isAgg, run_underlying hu]; split <;> simp_all) | cases h

theorem sizeT_info {n : Nat} (h : sizeT P t = some n) : ∃ i, P.info? t = some i ∧ i.size = n := by
  unfold sizeT at h
  cases hi : P.info? t with
  | none => rw [hi] at h; cases h
  | some i => rw [hi] at h; exact ⟨i, rfl, by simpa using h⟩

theorem run_sizeOf {n : Nat} (h : sizeT P t = some n) : (Go.sizeOf t).run P w = .ok n w := by
  obtain ⟨i, hi, rfl⟩ := sizeT_info h
  simp [Go.sizeOf, typeInfo, hi]

theorem bytesT_info {n : Nat} (h : bytesT P t = some n) : ∃ i, P.info? t = some i ∧ i.bytes = n ∧ 0 < n := by
  unfold bytesT at h
  cases hi : P.info? t with
  | none => rw [hi] at h; cases h
  | some i =>
    rw [hi] at h
    simp only [Option.map_some] at h
    split at h
    · rename_i k hk
      simp at hk h
      exact ⟨i, rfl, by omega, by omega⟩
    · cases h

/-- what a type's zero cells are -/
theorem zeroA_info {l : List Cell} (h : zeroA P t = some l) : ∃ i z, P.info? t = some i ∧ i.zero = some z ∧ l.length = i.size ∧ (∀ ρ, L2 (CR ρ) l z.cells.toList) := by
  unfold zeroA at h
  split at h
  · rename_i i hi
    split at h
    · rename_i z hz
      split at h
      · rename_i l' ho
        split at h
        · rename_i hl
          have e : l' = l := by simpa using h
          subst e
          exact ⟨i, z, hi, hz, hl, fun ρ => optMap_L2 (R := CR ρ) (fun _ _ h => absCell_CR h) ho⟩
        · cases h
      · cases h
    · cases h
  · cases h

theorem zeroE_zeroA {l : List Cell} (h : zeroE P t = some l) : zeroA P t = some l ∧ 0 < l.length := by
  unfold zeroE at h
  split at h
  · rename_i c r hz
    have e : c :: r = l := by simpa using h
    subst e
    exact ⟨hz, by simp⟩
  · cases h

theorem run_zeroValue {z : Value} {i : TypeInfo} (hi : P.info? t = some i) (hz : i.zero = some z) : (zeroValue t).run P w = .ok z w := by
  simp [zeroValue, typeInfo, hi, hz]

theorem run_loadVar1 {a : Addr} {v : Value} (h : aggT P t = some false) (hc : w.cell? a = some v) : (loadVar t a).run P w = .ok v w := by
  simp [loadVar, run_isAgg h, hc]

theorem run_loadVarN {a : Addr} {l : List Value} (h : aggT P t = some true) (hs : sizeT P t = some l.length) (hc : ∀ (j : Nat) v, l[j]? = some v → w.cell? (a.add j) = some v) :
    (loadVar t a).run P w = .ok (.agg l.toArray) w := by
  simp [loadVar, run_isAgg h, run_sizeOf hs, run_loadCells_list w a l hc]
end types

/-! ### writing parts into cells -/
theorem fold_over (off : Nat) : ∀ (vs : List Value) (k : Nat) (arr : Array Value), off + k + vs.length ≤ arr.size →
    (vs.zipIdx k).foldl (fun cs (p : Value × Nat) => cs.setIfInBounds (off + p.2) p.1) arr = overAt arr (off + k) vs
  | [], k, arr, _ => by simp [overAt]
  | v :: rest, k, arr, h => by
    simp only [List.zipIdx_cons, List.foldl_cons]
    rw [fold_over off rest (k + 1) _ (by simp at h ⊢; omega)]
    have e := list_seg_step arr.toList (off + k) v rest (by simp at h ⊢; omega)
    unfold overAt
    congr 1
    simpa [Array.toList_setIfInBounds, Nat.add_assoc] using e

theorem L2.over {ρ : List Reg} {cs vs : List Cell} {arr : Array Value} {l : List Value} {o : Nat} (h : L2 (CR ρ) cs arr.toList) (hv : L2 (CR ρ) vs l) (ho : o + vs.length ≤ cs.length) :
    L2 (CR ρ) (cs.take o ++ vs ++ cs.drop (o + vs.length)) (overAt arr o l).toList := by
  simp only [overAt]
  rw [show (o + l.length) = (o + vs.length) by rw [hv.1]]
  exact ((h.take o).append hv).append (h.drop _)

theorem fill_sound {ρ : List Reg} {fr : AFrame} {a : Act} (hF : FR ρ fr a.tmps) (place : Nat → Option (Nat × Nat)) :
    ∀ (ps : List (Nat × Operand)) (l : List (Nat × Nat × AOpd)) (cs cs' : List Cell) (arr : Array Value), absParts place ps = some l → fillA cs (l.map fun (o, n, x) => (o, n, x.ev fr)) = some cs' → L2 (CR ρ) cs arr.toList →
      ∃ arr', Instr.fill place arr (ps.map fun (i, x) => (i, a.eval x)) = some arr' ∧ L2 (CR ρ) cs' arr'.toList
  | [], l, cs, cs', arr, hp, hf, hL => by
    simp [absParts] at hp; subst hp
    simp [fillA] at hf; subst hf
    exact ⟨arr, rfl, hL⟩
  | (i, x) :: r, l, cs, cs', arr, hp, hf, hL => by
    simp only [absParts] at hp
    split at hp
    · rename_i o n y l' h1 h2 h3
      have e : (o, n, y) :: l' = l := by simpa using hp
      subst e
      simp only [List.map_cons, fillA] at hf
      split at hf
      · rename_i vs hvs
        split at hf
        · rename_i hc
          obtain ⟨hc1, hc2⟩ := hc
          have hv := VR.cells (absOpd_VR hF h2) hvs
          subst hc1
          have hL' := hL.over hv hc2
          obtain ⟨arr', ha, hL''⟩ := fill_sound hF place r l' _ cs' (overAt arr o (a.eval x).cells.toList) h3 hf hL'
          refine ⟨arr', ?_, hL''⟩
          have hsz : (a.eval x).cells.size = vs.length := by have := hv.1; simpa using this.symm
          have hbig : o + vs.length ≤ arr.size := by have := hL.1; simp at this; omega
          simp only [List.map_cons, Instr.fill, h1]
          rw [if_neg (by rw [hsz]; simp; omega)]
          have hfo := fold_over o (a.eval x).cells.toList 0 arr (by simpa [hsz] using hbig)
          rw [Nat.add_zero] at hfo
          rw [← hfo] at ha
          rw [← ha]
          congr 1
          rw [← Array.foldl_toList]
          simp [Array.toList_zipIdx]
        · cases hf
      · cases hf
    · cases hp

/-- WHAT A STEP COMES TO. -/
def Stepped (P : Program) (o : Oper) (a : Act) (base : Nat) (ρ : List Reg) (w : World) (v : AV) (H' : AHeap) : Prop :=
  ∃ u w' ρ', ((execOp a.eval o).run P w = .ok (.value u) w' ∨ ((execOp a.eval o).run P w = .ok .skip w' ∧ u = undef)) ∧
    HR base ρ' H' w' ∧ RExt ρ ρ' ∧ VR ρ' v u ∧ Below base w w'

section steps
variable {P : Program} {o : Oper} {a : Act} {base : Nat} {ρ : List Reg} {H : AHeap} {w : World} {fr : AFrame}

/-- nothing but a value -/
theorem Stepped.pure {v : AV} {u : Value} (hH : HR base ρ H w) (hr : (execOp a.eval o).run P w = .ok (.value u) w) (hv : VR ρ v u) : Stepped P o a base ρ w v H :=
  ⟨u, w, ρ, .inl hr, hH, RExt.refl ρ, hv, Below.refl _ _⟩

/-- a new block, and a pointer to it -/
theorem Stepped.new {cs : List Cell} {l : List Value} {ty : TypeId} {c : Nat} {v : AV} {u : Value} {w1 : World} (hH : HR base ρ H w) (hw1 : w1 = w ∨ w1 = w.drew) (hl : L2 (CR ρ) cs (l.take cs.length)) (hc : c ≤ l.length) (hcs : cs.length ≤ c)
    (hr : (execOp a.eval o).run P w = .ok (.value u) (w1.alloc (.cells l.toArray ty))) (hv : VR (ρ ++ [.at w.heap.size 0 c]) v u) : Stepped P o a base ρ w v (H ++ [.own cs]) := by
  have hs : w1.heap.size = w.heap.size := by rcases hw1 with rfl | rfl <;> rfl
  have hH1 : HR base ρ H w1 := by rcases hw1 with rfl | rfl; exact hH; exact hH.drew
  have hB : Below base w w1 := by rcases hw1 with rfl | rfl; exact Below.refl _ _; exact (Below.refl _ _).drew
  refine ⟨u, _, _, .inl hr, ?_, RExt.push ρ _, hv, hB.alloc (by rw [hs]; exact hH.base_le) _⟩
  have := hH1.push (arr := l.toArray) (ty := ty) (fz := (0, 0)) (cs := cs) (c := c) (fun o _ h => by omega) (by simpa using hc) hcs (fun i x hx => by
    obtain ⟨y, hy, hR⟩ := hl.2 i x hx
    rw [List.getElem?_take] at hy
    split at hy
    · exact ⟨y, by simpa using hy, hR⟩
    · cases hy)
  rwa [hs] at this

theorem sliceCells_run {size sz : Nat} {x : AV} {u : Value} {cs : List Cell} (hH : HR base ρ H w) (hx : VR ρ x u) (hc : sliceCells H sz x = some cs) (hsz : size = sz) (hp : 0 < sz) :
    ∃ (l : List Value) (n : Nat), L2 (CR ρ) cs l ∧ l.length = n * size ∧ (Builtin.lenOf u).run P w = .ok n w ∧ (∀ w' : World, (∀ g, g < w.heap.size → w'.heap[g]? = w.heap[g]?) → (Builtin.firstCells size n u).run P w' = .ok l.toArray w') ∧
      (∀ m, m ≤ n → (Builtin.firstCells size m u).run P w = .ok (l.take (m * size)).toArray w) ∧ lenA x = some n := by
  subst hsz
  cases x with
  | agg _ => simp [sliceCells] at hc
  | tup _ => simp [sliceCells] at hc
  | clo _ _ => simp [sliceCells] at hc
  | c x =>
    cases x <;> simp only [sliceCells] at hc <;> try (cases hc; done)
    case snil =>
      simp at hc; subst hc
      have hu : u = .slice none 0 0 := hx
      subst hu
      exact ⟨[], 0, L2.nil, by simp, by simp [Builtin.lenOf], fun w' _ => by simp [Builtin.firstCells], fun m hm => by simp [Builtin.firstCells], rfl⟩
    case str s =>
      split at hc
      · rename_i h1
        subst h1
        have e : (s.map fun u => Cell.int .u8 u.toNat) = cs := by simpa using hc
        subst e
        have hu : u = .string ⟨s.toArray⟩ := hx
        subst hu
        refine ⟨s.map fun u => Value.int .u8 u.toNat, s.length, ⟨by simp, fun i x hx => ?_⟩, by simp, by simp [Builtin.lenOf, ByteArray.size], fun w' _ => ?_, fun m hm => ?_, rfl⟩
        · rw [List.getElem?_map] at hx ⊢
          cases hs : s[i]? with
          | none => rw [hs] at hx; cases hx
          | some q => rw [hs] at hx; simp at hx; subst hx; exact ⟨_, rfl, rfl⟩
        · simp [Builtin.firstCells]
        · simp only [Builtin.firstCells, Sem.run_pure, Nat.mul_one]
          congr 1
          apply Array.ext'
          simp [List.map_take]
      · cases hc
    case slc b o n sz' =>
      split at hc
      · rename_i h1
        subst h1
        simp only [readN] at hc
        split at hc
        · rename_i bs hb
          split at hc
          · rename_i hle
            have e : (bs.drop o).take (n * sz') = cs := by simpa using hc
            subst e
            rcases hH.at_slc hb hx with ⟨g, f, c, k, hr, rfl, hnk, hk, arr, ty, fz, hg, hh⟩ | ⟨rfl, ad, rfl⟩
            · obtain ⟨l, hl, hll, hcell⟩ := hH.reads hr hg hh hle
              have hlt : g < w.heap.size := (Array.getElem?_eq_some_iff.1 hg).1
              refine ⟨l, n, hl, hll, by simp [Builtin.lenOf], fun w' hw' => ?_, fun m hm => ?_, rfl⟩
              · refine run_firstCells_some w' sz' n _ n k l hll fun j v hj => ?_
                rw [World.cell?_of_block (w := w) (by rw [addr_add]; exact hw' g hlt)]
                exact hcell j v hj
              · refine run_firstCells_some w sz' m _ n k (l.take (m * sz')) ?_ fun j v hj => ?_
                · rw [List.length_take, hll]; exact Nat.min_eq_left (Nat.mul_le_mul_right _ hm)
                · rw [List.getElem?_take] at hj
                  split at hj
                  · exact hcell j v hj
                  · cases hj
            · refine ⟨[], 0, ?_, by simp, by simp [Builtin.lenOf], fun w' _ => ?_, fun m hm => ?_, rfl⟩
              · simp only [Nat.zero_mul, List.take_zero]; exact L2.nil
              · cases ad <;> simp [Builtin.firstCells, loadCells, loadCellsFrom]
              · have : m = 0 := by omega
                subst this
                cases ad <;> simp [Builtin.firstCells, loadCells, loadCellsFrom]
          · cases hc
        · cases hc
      · cases hc

end steps
end PAbs
