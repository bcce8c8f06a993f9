/- The abstract machine: Go values without addresses of the world, a heap of numbered blocks, and a big-step evaluator with fuel. Plain definitions; nothing of any program. -/
import Derived.WalkKit
namespace PAbs
open Go
set_option linter.unusedVariables false

/-- A value of one cell. 'ptr b o': cell o of block b. 'slc b o n sz': n elements of sz cells each, from cell o of block b on. -/
inductive Cell where
  | bool (b : Bool)
  | int (k : IntKind) (n : Int)
  | str (s : List UInt8)
  | pnil
  | ptr (b o : Nat)
  | snil
  | slc (b o n sz : Nat)
  | fnil
  | fn (f : Nat)
  deriving DecidableEq, Inhabited

/-- A part of a tuple. -/
inductive TV where
  | c (x : Cell)
  | agg (cs : List Cell)
  deriving Inhabited

inductive AV where
  | c (x : Cell)
  | agg (cs : List Cell)
  | tup (vs : List TV)
  deriving Inhabited

def TV.av : TV → AV
  | .c x => .c x
  | .agg cs => .agg cs

def AV.tv : AV → Option TV
  | .c x => some (.c x)
  | .agg cs => some (.agg cs)
  | .tup _ => none

def AV.cells : AV → Option (List Cell)
  | .c x => some [x]
  | .agg cs => some cs
  | .tup _ => none

def aundef : AV := .tup []

/-- A block: what came in (only read), what the call made, what is to be looked at no more. -/
inductive Blk where
  | ro (cs : List Cell)
  | own (cs : List Cell)
  | dead
  deriving Inhabited

abbrev AHeap := List Blk

def hcells (H : AHeap) (b : Nat) : Option (List Cell) :=
  match H[b]? with
  | some (.ro cs) => some cs
  | some (.own cs) => some cs
  | _ => none

def hown (H : AHeap) (b : Nat) : Option (List Cell) :=
  match H[b]? with
  | some (.own cs) => some cs
  | _ => none

inductive AOpd where
  | t (i : Nat)
  | k (v : AV)
  deriving Inhabited

abbrev AFrame := List AV

def AOpd.ev (fr : AFrame) : AOpd → AV
  | .t i => fr.getD i aundef
  | .k v => v

/-- Kinds of cells that are compared as they are. -/
inductive CK where
  | int (k : IntKind)
  | str
  | bool
  deriving DecidableEq, Inhabited

def CK.fits : CK → Cell → Bool
  | .int k, .int k' _ => decide (k' = k)
  | .str, .str _ => true
  | .bool, .bool _ => true
  | _, _ => false

def fitsAll : List CK → List Cell → Bool
  | [], [] => true
  | k :: sh, c :: cs => k.fits c && fitsAll sh cs
  | _, _ => false

/-- so many of one thing (not unfolded by simp) -/
def rep {α : Type} (n : Nat) (x : α) : List α := List.replicate n x

/-- What '==' looks at. -/
inductive EqT where
  | bool
  | ptr
  | slice
  | agg (sh : List CK)
  deriving DecidableEq, Inhabited

inductive AOp where
  | mv (x : AOpd)
  | pick (c a b : AOpd)
  | alloc (zero : List Cell)
  | box (x : AOpd)
  | build (zero : List Cell) (parts : List (Nat × Nat × AOpd))
  | buildSlice (zero : List Cell) (sz len : Nat) (parts : List (Nat × Nat × AOpd))
  | load1 (a : AOpd)
  | loadN (n : Nat) (a : AOpd)
  | store (n : Nat) (a x : AOpd)
  | nilCheck (x : AOpd)
  | bin (op : BinOp) (x y : AOpd)
  | eq (neg : Bool) (t : EqT) (x y : AOpd)
  | un (op : UnOp) (x : AOpd)
  | convInt (k : IntKind) (x : AOpd)
  | convStr (x : AOpd)
  | strBytes (x : AOpd)
  | bytesStr (x : AOpd)
  | arrPtr (n : Nat) (x : AOpd)
  | makeSlice (zero : List Cell) (bytes : Nat) (l c : AOpd)
  | sliceS (sz : Nat) (x : AOpd) (lo hi : Option AOpd)
  | sliceStr (x : AOpd) (lo hi : Option AOpd)
  | sliceArr (n sz : Nat) (x : AOpd) (lo hi : Option AOpd)
  | fieldAddr (off : Nat) (x : AOpd)
  | field1 (off : Nat) (x : AOpd)
  | fieldN (off n : Nat) (x : AOpd)
  | idxSlc (sz : Nat) (x i : AOpd)
  | idxArr (n sz : Nat) (x i : AOpd)
  | elemStr (x i : AOpd)
  | elem1 (n : Nat) (x i : AOpd)
  | elemN (n sz : Nat) (x i : AOpd)
  | extract (x : AOpd) (i : Nat)
  | len (st : Bool) (x : AOpd)
  | lenK (n : Nat)
  | append (zero : List Cell) (bytes : Nat) (s x : AOpd)
  | copy (sz : Nat) (d s : AOpd)
  | max (xs : List AOpd)
  | min (xs : List AOpd)
  | call (f : Nat) (args : List AOpd)
  | callV (f : AOpd) (args : List AOpd)
  deriving Inhabited

structure AOper where
  dst : Option Nat
  op : AOp
  guard : Option (Nat × Bool)
  deriving Inhabited

inductive ACode where
  | skip
  | region (ops : List AOper)
  | draw (head tail : List AOper)
  | seq (a b : ACode)
  | cond (c : AOpd) (thn els : ACode)
  | block (id : Nat) (body : ACode)
  | loop (body : ACode)
  | exit (id : Nat)
  | ret
  deriving Inhabited

inductive ARes where
  | tmp (t : Nat)
  | cell1 (a : Nat)
  | cellN (a n : Nat)
  deriving Inhabited

structure AFn where
  ntmps : Nat
  results : List ARes
  body : ACode
  deriving Inhabited

/-! ### the operations -/

def bitsA (op : BinOp) (k : IntKind) (x y : Int) : Int :=
  match op with
  | .and => k.wrap ((BitVec.ofInt k.bits x &&& BitVec.ofInt k.bits y).toNat : Int)
  | .or => k.wrap ((BitVec.ofInt k.bits x ||| BitVec.ofInt k.bits y).toNat : Int)
  | .xor => k.wrap ((BitVec.ofInt k.bits x ^^^ BitVec.ofInt k.bits y).toNat : Int)
  | _ => k.wrap ((BitVec.ofInt k.bits x &&& ~~~ BitVec.ofInt k.bits y).toNat : Int)

def shlA (k : IntKind) (x y : Int) : Int := k.wrap (x * 2 ^ min y.toNat k.bits)
def shrA (k : IntKind) (x y : Int) : Int := x.fdiv (2 ^ min y.toNat k.bits)

def binInt (op : BinOp) (k : IntKind) (a b : Int) : Option Cell :=
  match op with
  | .add => some (.int k (k.wrap (a + b)))
  | .sub => some (.int k (k.wrap (a - b)))
  | .mul => some (.int k (k.wrap (a * b)))
  | .quo => if b = 0 then none else some (.int k (k.wrap (a.tdiv b)))
  | .rem => if b = 0 then none else some (.int k (a.tmod b))
  | .and => some (.int k (bitsA .and k a b))
  | .or => some (.int k (bitsA .or k a b))
  | .xor => some (.int k (bitsA .xor k a b))
  | .andNot => some (.int k (bitsA .andNot k a b))
  | .eql => some (.bool (a == b))
  | .neq => some (.bool (a != b))
  | .lss => some (.bool (decide (a < b)))
  | .leq => some (.bool (decide (a ≤ b)))
  | .gtr => some (.bool (decide (a > b)))
  | .geq => some (.bool (decide (a ≥ b)))
  | .shl => if b < 0 then none else some (.int k (shlA k a b))
  | .shr => if b < 0 then none else some (.int k (shrA k a b))

def binStr (op : BinOp) (a b : List UInt8) : Option Cell :=
  match op with
  | .add => if a.length + b.length ≤ 9223372036854775807 then some (.str (a ++ b)) else none
  | .eql => some (.bool (a == b))
  | .neq => some (.bool (!(a == b)))
  | .lss => some (.bool (Op.bytesLess a b))
  | .leq => some (.bool (Op.bytesLess a b || a == b))
  | .gtr => some (.bool (!(Op.bytesLess a b || a == b)))
  | .geq => some (.bool (!Op.bytesLess a b))
  | _ => none

def binA (op : BinOp) (x y : AV) : Option Cell :=
  match x, y with
  | .c (.int k a), .c (.int k' b) => if k = k' ∨ op = .shl ∨ op = .shr then binInt op k a b else none
  | .c (.str a), .c (.str b) => binStr op a b
  | _, _ => none

def eqA (H : AHeap) (t : EqT) (x y : AV) : Option Bool :=
  match t, x, y with
  | .bool, .c (.bool a), .c (.bool b) => some (a == b)
  | .ptr, .c .pnil, .c .pnil => some true
  | .ptr, .c (.ptr b _), .c .pnil => (hcells H b).map fun _ => false
  | .ptr, .c .pnil, .c (.ptr b _) => (hcells H b).map fun _ => false
  | .slice, .c .snil, .c .snil => some true
  | .slice, .c (.slc b _ n _), .c .snil => if n = 0 then none else (hcells H b).map fun _ => false
  | .agg sh, .agg a, .agg b => if fitsAll sh a ∧ fitsAll sh b then some (a == b) else none
  | _, _, _ => none

def unA (op : UnOp) (x : AV) : Option Cell :=
  match op, x with
  | .neg, .c (.int k n) => some (.int k (k.wrap (-n)))
  | .xor, .c (.int k n) => some (.int k (bitsA .xor k (if k.signed then -1 else k.max) n))
  | .not, .c (.bool b) => some (.bool (!b))
  | _, _ => none

def fillA (cells : List Cell) : List (Nat × Nat × AV) → Option (List Cell)
  | [] => some cells
  | (off, sz, v) :: rest =>
    match v.cells with
    | some cs => if cs.length = sz ∧ off + sz ≤ cells.length then fillA (cells.take off ++ cs ++ cells.drop (off + sz)) rest else none
    | none => none

/-- a bound of a slice: low, high -/
def loA (x : Option AV) : Option Nat :=
  match x with
  | none => some 0
  | some (.c (.int _ i)) => if 0 ≤ i then some i.toNat else none
  | _ => none
def hiA (x : Option AV) (n : Nat) : Option Nat :=
  match x with
  | none => some n
  | some (.c (.int _ i)) => if 0 ≤ i ∧ i ≤ n then some i.toNat else none
  | _ => none

def readN (H : AHeap) (b o n : Nat) : Option (List Cell) :=
  match hcells H b with
  | some cs => if o + n ≤ cs.length then some ((cs.drop o).take n) else none
  | none => none

/-- the cells of a slice or a string, of so many elements -/
def sliceCells (H : AHeap) (sz : Nat) (x : AV) : Option (List Cell) :=
  match x with
  | .c .snil => some []
  | .c (.slc b o n sz') => if sz' = sz then readN H b o (n * sz) else none
  | .c (.str s) => if sz = 1 then some (s.map fun u => .int .u8 u.toNat) else none
  | _ => none

def byteOf : Cell → Option UInt8
  | .int .u8 n => some (UInt8.ofNat n.toNat)
  | _ => none

def bytesOf : List Cell → Option (List UInt8)
  | [] => some []
  | c :: r =>
    match byteOf c, bytesOf r with
    | some u, some l => some (u :: l)
    | _, _ => none

/-- a write; 'fl': blocks below this number are not to be written now -/
def writeN (fl : Nat) (H : AHeap) (b o : Nat) (vs : List Cell) : Option AHeap :=
  match hown H b with
  | some cs => if fl ≤ b ∧ o + vs.length ≤ cs.length then some (H.set b (.own (cs.take o ++ vs ++ cs.drop (o + vs.length)))) else none
  | none => none

def maxA : AV → AV → Option AV
  | .c (.int k x), .c (.int k' y) => if k = k' then some (.c (.int k (if y > x then y else x))) else none
  | _, _ => none
def minA : AV → AV → Option AV
  | .c (.int k x), .c (.int k' y) => if k = k' then some (.c (.int k (if y < x then y else x))) else none
  | _, _ => none
def foldA (f : AV → AV → Option AV) : AV → List AV → Option AV
  | a, [] => some a
  | a, x :: r => match f a x with | some b => foldA f b r | none => none

def lenA (x : AV) : Option Nat :=
  match x with
  | .c .snil => some 0
  | .c (.slc _ _ n _) => some n
  | .c (.str s) => some s.length
  | _ => none

def appendA (fl : Nat) (H : AHeap) (zero : List Cell) (bytes : Nat) (s x : AV) : Option (AV × AHeap) :=
  match sliceCells H zero.length x with
  | none => none
  | some news =>
    match s with
    | .c .snil =>
      if news.length * bytes ≤ 140737488355328 then some (.c (.slc H.length 0 (news.length / zero.length) zero.length), H ++ [.own news]) else none
    | .c (.slc b o n sz) =>
      match hown H b with
      | some cs =>
        if fl ≤ b ∧ sz = zero.length ∧ o + n * sz = cs.length ∧ (n * sz + news.length) * bytes ≤ 140737488355328 then
          some (.c (.slc H.length 0 (n + news.length / sz) sz), H.set b .dead ++ [.own (cs.drop o ++ news)]) else none
      | none => none
    | _ => none

def i64 (n : Int) : AV := .c (.int .i64 n)

/-- An operation that calls nothing. -/
def stepA (fl : Nat) (H : AHeap) (ev : AOpd → AV) : AOp → Option (AV × AHeap)
  | .mv x => match ev x with | .c q => some (.c q, H) | .agg l => some (.agg l, H) | .tup l => some (.tup l, H)
  | .pick c a b =>
    match ev c with
    | .c (.bool true) => (match ev a with | .c q => some (.c q, H) | .agg l => some (.agg l, H) | .tup l => some (.tup l, H))
    | .c (.bool false) => (match ev b with | .c q => some (.c q, H) | .agg l => some (.agg l, H) | .tup l => some (.tup l, H))
    | _ => none
  | .alloc zero => some (.c (.ptr H.length 0), H ++ [.own zero])
  | .box x => match (ev x).cells with | some cs => some (.c (.ptr H.length 0), H ++ [.own cs]) | none => none
  | .build zero parts => match fillA zero (parts.map fun (o, n, x) => (o, n, ev x)) with | some cs => some (.agg cs, H) | none => none
  | .buildSlice zero sz len parts =>
    match fillA zero (parts.map fun (o, n, x) => (o, n, ev x)) with
    | some cs => some (.c (.slc H.length 0 len sz), H ++ [.own cs])
    | none => none
  | .load1 a =>
    match ev a with
    | .c (.ptr b o) => match hcells H b with | some cs => (cs[o]?).map fun x => (.c x, H) | none => none
    | _ => none
  | .loadN n a => match ev a with | .c (.ptr b o) => (readN H b o n).map fun l => (.agg l, H) | _ => none
  | .store n a x =>
    match ev a, (ev x).cells with
    | .c (.ptr b o), some vs => if vs.length = n then (writeN fl H b o vs).map fun H' => (aundef, H') else none
    | _, _ => none
  | .nilCheck x => match ev x with | .c (.ptr b o) => (hcells H b).map fun _ => (.c (.ptr b o), H) | _ => none
  | .bin op x y => (binA op (ev x) (ev y)).map fun c => (.c c, H)
  | .eq neg t x y => (eqA H t (ev x) (ev y)).map fun r => (.c (.bool (if neg then !r else r)), H)
  | .un op x => (unA op (ev x)).map fun c => (.c c, H)
  | .convInt k x => match ev x with | .c (.int _ n) => some (.c (.int k (k.wrap n)), H) | _ => none
  | .convStr x => match ev x with | .c (.str s) => some (.c (.str s), H) | _ => none
  | .strBytes x => match ev x with | .c (.str s) => some (.c (.slc H.length 0 s.length 1), H ++ [.own (s.map fun u => .int .u8 u.toNat)]) | _ => none
  | .bytesStr x =>
    match ev x with
    | .c (.str _) => none
    | v => match sliceCells H 1 v with | some cs => (bytesOf cs).map fun l => (.c (.str l), H) | none => none
  | .arrPtr n x =>
    match ev x with
    | .c (.slc b o m _) => if n ≤ m ∧ 0 < m then (hcells H b).map fun _ => (.c (.ptr b o), H) else none
    | _ => none
  | .makeSlice zero bytes l c =>
    match ev l, ev c with
    | .c (.int .i64 l), .c (.int .i64 c) =>
      if 0 ≤ l ∧ l ≤ c ∧ c * bytes ≤ 140737488355328 then
        some (.c (.slc H.length 0 l.toNat zero.length), H ++ [.own (List.replicate l.toNat zero).flatten]) else none
    | _, _ => none
  | .sliceS sz' x lo hi =>
    match ev x with
    | .c (.slc b o n sz) =>
      match hiA (hi.map ev) n, loA (lo.map ev) with
      | some h, some l => if sz = sz' ∧ l ≤ h then (hcells H b).map fun _ => (.c (.slc b (o + l * sz) (h - l) sz), H) else none
      | _, _ => none
    | .c .snil =>
      match hiA (hi.map ev) 0, loA (lo.map ev) with
      | some _, some l => if l ≤ 0 then some (.c .snil, H) else none
      | _, _ => none
    | _ => none
  | .sliceStr x lo hi =>
    match ev x with
    | .c (.str s) =>
      match hiA (hi.map ev) s.length, loA (lo.map ev) with
      | some h, some l => if l ≤ h then some (.c (.str ((s.drop l).take (h - l))), H) else none
      | _, _ => none
    | _ => none
  | .sliceArr n sz x lo hi =>
    match ev x with
    | .c (.ptr b o) =>
      match hiA (hi.map ev) n, loA (lo.map ev), hcells H b with
      | some h, some l, some cs => if l ≤ h ∧ o + n * sz ≤ cs.length then some (.c (.slc b (o + l * sz) (h - l) sz), H) else none
      | _, _, _ => none
    | _ => none
  | .fieldAddr off x => match ev x with | .c (.ptr b o) => (hcells H b).map fun _ => (.c (.ptr b (o + off)), H) | _ => none
  | .field1 off x => match ev x with | .agg cs => (cs[off]?).map fun x => (.c x, H) | _ => none
  | .fieldN off n x => match ev x with | .agg cs => if off + n ≤ cs.length then some (.agg ((cs.drop off).take n), H) else none | _ => none
  | .idxSlc sz x i =>
    match ev x, ev i with
    | .c (.slc b o n sz'), .c (.int _ i) => if sz' = sz ∧ 0 ≤ i ∧ i < n then (hcells H b).map fun _ => (.c (.ptr b (o + i.toNat * sz)), H) else none
    | _, _ => none
  | .idxArr n sz x i =>
    match ev x, ev i with
    | .c (.ptr b o), .c (.int _ i) => if 0 ≤ i ∧ i < n then (hcells H b).map fun _ => (.c (.ptr b (o + i.toNat * sz)), H) else none
    | _, _ => none
  | .elemStr x i =>
    match ev x, ev i with
    | .c (.str s), .c (.int _ i) => if 0 ≤ i then (s[i.toNat]?).map fun u => (.c (.int .u8 u.toNat), H) else none
    | _, _ => none
  | .elem1 n x i =>
    match ev x, ev i with
    | .agg cs, .c (.int _ i) => if 0 ≤ i ∧ i < n then (cs[i.toNat]?).map fun x => (.c x, H) else none
    | _, _ => none
  | .elemN n sz x i =>
    match ev x, ev i with
    | .agg cs, .c (.int _ i) => if 0 ≤ i ∧ i < n ∧ i.toNat * sz + sz ≤ cs.length then some (.agg ((cs.drop (i.toNat * sz)).take sz), H) else none
    | _, _ => none
  | .extract x i => match ev x with | .tup vs => (match vs[i]? with | some (.c q) => some (.c q, H) | some (.agg l) => some (.agg l, H) | none => none) | _ => none
  | .len st x =>
    match st, ev x with
    | true, .c (.str s) => some (i64 s.length, H)
    | false, .c .snil => some (i64 0, H)
    | false, .c (.slc b _ n _) => (hcells H b).map fun _ => (i64 n, H)
    | _, _ => none
  | .lenK n => some (i64 n, H)
  | .append zero bytes s x => appendA fl H zero bytes (ev s) (ev x)
  | .copy sz d s =>
    match ev d, lenA (ev s), sliceCells H sz (ev s) with
    | .c (.slc b o n sz'), some m, some cs =>
      if sz' = sz then (writeN fl H b o (cs.take (min m n * sz))).map fun H' => (i64 (min m n : Nat), H') else none
    | _, _, _ => none
  | .max xs => match xs.map ev with | x :: r => (foldA maxA x r).map fun v => (v, H) | [] => none
  | .min xs => match xs.map ev with | x :: r => (foldA minA x r).map fun v => (v, H) | [] => none
  | .call _ _ => none
  | .callV _ _ => none

/-! ### the evaluator -/

/-- a call: the floor, the function, its arguments, the heap -/
abbrev ACall := Nat → Nat → List AV → AHeap → Option (AV × AHeap)

def putA (fr : AFrame) (dst : Option Nat) (v : AV) : AFrame :=
  match dst with
  | some d => fr.set d v
  | none => fr

def wantedA (fr : AFrame) (g : Option (Nat × Bool)) : Bool :=
  match g with
  | none => true
  | some (t, want) => match fr[t]? with | some (.c (.bool b)) => b == want | _ => false

def execA (call : ACall) (fl : Nat) (fr : AFrame) (H : AHeap) : AOp → Option (AV × AHeap)
  | .call f args => call fl f (args.map (·.ev fr)) H
  | .callV f args => match f.ev fr with | .c (.fn g) => call fl g (args.map (·.ev fr)) H | _ => none
  | o => stepA fl H (·.ev fr) o

def evalOps (call : ACall) (fl : Nat) : List AOper → AFrame → AHeap → Option (AFrame × AHeap)
  | [], fr, H => some (fr, H)
  | o :: rest, fr, H =>
    if wantedA fr o.guard then
      match execA call fl fr H o.op with
      | some (v, H') => evalOps call fl rest (putA fr o.dst v) H'
      | none => none
    else evalOps call fl rest (putA fr o.dst aundef) H

/-- The head of a statement whose order is open: nothing that is there is changed. -/
def evalHead (call : ACall) : List AOper → AFrame → AHeap → Option (AFrame × AHeap)
  | [], fr, H => some (fr, H)
  | o :: rest, fr, H =>
    if wantedA fr o.guard then
      match execA call H.length fr H o.op with
      | some (v, H') => evalHead call rest (putA fr o.dst v) H'
      | none => none
    else evalHead call rest (putA fr o.dst aundef) H

inductive AExit where
  | normal
  | exit (id : Nat)
  | ret
  deriving DecidableEq, Inhabited

abbrev ARet := Option (AExit × AFrame × AHeap)

def iterA (body : AFrame → AHeap → ARet) : Nat → AFrame → AHeap → ARet
  | 0, _, _ => none
  | n + 1, fr, H =>
    match body fr H with
    | some (.normal, fr', H') => iterA body n fr' H'
    | r => r

def evalCode (call : ACall) (fl n : Nat) : ACode → AFrame → AHeap → ARet
  | .skip, fr, H => some (.normal, fr, H)
  | .region ops, fr, H => match evalOps call fl ops fr H with | some (fr', H') => some (.normal, fr', H') | none => none
  | .draw hd tl, fr, H =>
    match evalHead call hd fr H with
    | some (fr1, H1) => (match evalOps call fl tl fr1 H1 with | some (fr', H') => some (.normal, fr', H') | none => none)
    | none => none
  | .seq a b, fr, H =>
    match evalCode call fl n a fr H with
    | some (.normal, fr', H') => evalCode call fl n b fr' H'
    | r => r
  | .cond c a b, fr, H =>
    match c.ev fr with
    | .c (.bool true) => evalCode call fl n a fr H
    | .c (.bool false) => evalCode call fl n b fr H
    | _ => none
  | .block id c, fr, H =>
    match evalCode call fl n c fr H with
    | some (.exit i, fr', H') => if i = id then some (.normal, fr', H') else some (.exit i, fr', H')
    | r => r
  | .loop c, fr, H => iterA (evalCode call fl n c) n fr H
  | .exit id, fr, H => some (.exit id, fr, H)
  | .ret, fr, H => some (.ret, fr, H)

def resA (fr : AFrame) (H : AHeap) : ARes → Option AV
  | .tmp t => some (fr.getD t aundef)
  | .cell1 a => match fr.getD a aundef with | .c (.ptr b o) => (match hcells H b with | some cs => (cs[o]?).map AV.c | none => none) | _ => none
  | .cellN a n => match fr.getD a aundef with | .c (.ptr b o) => (readN H b o n).map AV.agg | _ => none

def ressA (fr : AFrame) (H : AHeap) : List ARes → Option (List TV)
  | [] => some []
  | r :: l =>
    match resA fr H r, ressA fr H l with
    | some v, some vs => (v.tv).map (· :: vs)
    | _, _ => none

def outA (fr : AFrame) (H : AHeap) : List ARes → Option AV
  | [r] => resA fr H r
  | l => (ressA fr H l).map AV.tup

def enterA (fn : AFn) (args : List AV) : AFrame := args ++ List.replicate (fn.ntmps - args.length) aundef

def callFn (A : Nat → Option AFn) : Nat → ACall
  | 0 => fun _ _ _ _ => none
  | k + 1 => fun fl f args H =>
    match A f with
    | none => none
    | some fn =>
      match evalCode (callFn A k) fl k fn.body (enterA fn args) H with
      | some (.normal, fr, H') => (outA fr H' fn.results).map fun v => (v, H')
      | some (.ret, fr, H') => (outA fr H' fn.results).map fun v => (v, H')
      | _ => none

end PAbs
