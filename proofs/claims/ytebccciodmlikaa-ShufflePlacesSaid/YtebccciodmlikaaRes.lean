/- How a loaded program's functions become functions of the abstract machine: types are looked up once, here. -/
import Derived.Test.YtebccciodmlikaaAbs
namespace PAbs
open Go
set_option linter.unusedVariables false

def absCell : Value → Option Cell
  | .bool b => some (.bool b)
  | .int k n => some (.int k n)
  | .string s => some (.str s.data.toList)
  | .pointer none => some .pnil
  | .slice none 0 0 => some .snil
  | .nilFunc => some .fnil
  | .func (.func f) a b => if a.size = 0 ∧ b.size = 0 then some (.fn f) else none
  | _ => none

def optMap {α β : Type} (f : α → Option β) : List α → Option (List β)
  | [] => some []
  | a :: l => match f a, optMap f l with | some b, some r => some (b :: r) | _, _ => none

def absVal : Value → Option AV
  | .agg cs => (optMap absCell cs.toList).map AV.agg
  | .tuple vs => if vs.size = 0 then some aundef else none
  | v => (absCell v).map AV.c

def absOpd : Operand → Option AOpd
  | .tmp t => some (.t t)
  | .const v => (absVal v).map AOpd.k
  | .func f => some (.k (.c (.fn f)))
  | .global _ => none

variable (P : Program)

def zeroA (t : TypeId) : Option (List Cell) :=
  match P.info? t with
  | some i => (match i.zero with | some z => (match optMap absCell z.cells.toList with | some l => if l.length = i.size then some l else none | none => none) | none => none)
  | none => none

/-- an element's zero cells, where it has any -/
def zeroE (t : TypeId) : Option (List Cell) :=
  match zeroA P t with
  | some (c :: l) => some (c :: l)
  | _ => none

def aggT (t : TypeId) : Option Bool :=
  match P.underlying t with
  | some (.struct _) => some true
  | some (.array _ _) => some true
  | some _ => some false
  | none => none

def sizeT (t : TypeId) : Option Nat := (P.info? t).map (·.size)
def bytesT (t : TypeId) : Option Nat := match (P.info? t).map (·.bytes) with | some (n + 1) => some (n + 1) | _ => none

/-- the kinds of a type's cells, where its values are compared cell by cell: whole numbers, texts, bools, and arrays and structs of these -/
def shapeT : Nat → TypeId → Option (List CK)
  | 0, _ => none
  | d + 1, t =>
    match P.underlying t with
    | some .bool => some [.bool]
    | some (.int k) => some [.int k]
    | some .string => some [.str]
    | some (.array n e) => (match shapeT d e with | some sh => if P.cellsOf e = sh.length ∧ sizeT P e = some sh.length then some (List.replicate n sh).flatten else none | none => none)
    | some (.struct fs) => if P.stoodInHeld t then none else shapeFs (shapeT d) 0 fs.toList
    | _ => none
where
  shapeFs (f : TypeId → Option (List CK)) : Nat → List Field → Option (List CK)
  | _, [] => some []
  | off, x :: r =>
    match f x.type, shapeFs f (off + ((sizeT P x.type).getD 0)) r with
    | some sh, some sh' => if x.name ≠ "_" ∧ x.offset = off ∧ sizeT P x.type = some sh.length then some (sh ++ sh') else none
    | _, _ => none

def absParts (place : Nat → Option (Nat × Nat)) : List (Nat × Operand) → Option (List (Nat × Nat × AOpd))
  | [] => some []
  | (i, x) :: r =>
    match place i, absOpd x, absParts place r with
    | some (o, n), some y, some l => some ((o, n, y) :: l)
    | _, _, _ => none

def fieldPlaces (fs : List Field) : Option (List (Nat × Nat)) := optMap (fun f => (sizeT P f.type).map fun n => (f.offset, n)) fs

def absOptOpd : Option Operand → Option (Option AOpd)
  | none => some none
  | some x => (absOpd x).map some

def resBin (op : BinOp) (t : TypeId) (x y : AOpd) : Option AOp :=
  match op, P.underlying t with
  | .shl, _ => some (.bin op x y)
  | .shr, _ => some (.bin op x y)
  | _, some (.int _) => some (.bin op x y)
  | _, some .string => some (.bin op x y)
  | .eql, some .bool => some (.eq false .bool x y)
  | .neq, some .bool => some (.eq true .bool x y)
  | .eql, some (.pointer _) => some (.eq false .ptr x y)
  | .neq, some (.pointer _) => some (.eq true .ptr x y)
  | .eql, some (.slice _) => some (.eq false .slice x y)
  | .neq, some (.slice _) => some (.eq true .slice x y)
  | .eql, some _ => (match shapeT P 20 t, aggT P t with | some sh, some true => if !P.eqGuardType P.depth t then some (.eq false (.agg sh) x y) else none | _, _ => none)
  | .neq, some _ => (match shapeT P 20 t, aggT P t with | some sh, some true => if !P.eqGuardType P.depth t then some (.eq true (.agg sh) x y) else none | _, _ => none)
  | _, _ => none

def resConv (s d : TypeId) (x : AOpd) : Option AOp :=
  match P.underlying s, P.underlying d with
  | some (.int _), some (.int k) => some (.convInt k x)
  | some .string, some .string => some (.convStr x)
  | some .string, some (.slice e) => (match P.underlying e with | some (.int .u8) => some (.strBytes x) | _ => none)
  | some (.slice e), some .string => (match P.underlying e with | some (.int .u8) => some (.bytesStr x) | _ => none)
  | _, _ => none

def resBuiltin (b : Builtin) (ts : List TypeId) (as : List AOpd) : Option AOp :=
  match b, ts, as with
  | .len, [t], [x] =>
    (match P.underlying t with
     | some .string => some (.len true x)
     | some (.slice _) => some (.len false x)
     | some (.array n _) => some (.lenK n)
     | some (.pointer a) => (match P.underlying a with | some (.array n _) => some (.lenK n) | _ => none)
     | _ => none)
  | .append, [t, u], [s, x] =>
    (match P.underlying t, P.underlying u with
     | some (.slice e), some (.slice _) => (match zeroE P e, bytesT P e with | some z, some b => some (.append z b s x) | _, _ => none)
     | some (.slice e), some .string => (match zeroE P e, bytesT P e with | some z, some b => some (.append z b s x) | _, _ => none)
     | _, _ => none)
  | .copy, _ :: _ , [d, s] =>
    (match P.underlying (ts.headD 0) with
     | some (.slice e) => (match sizeT P e with | some n => if 0 < n then some (.copy n d s) else none | none => none)
     | _ => none)
  | .max, _, _ => some (.max as)
  | .min, _, _ => some (.min as)
  | _, _, _ => none

def resOp (o : Oper) : Option AOp :=
  match o.op with
  | .move x => (absOpd x).map .mv
  | .assign x => (absOpd x).map .mv
  | .pick c a b => match absOpd c, absOpd a, absOpd b with | some c, some a, some b => some (.pick c a b) | _, _, _ => none
  | .alloc t => (zeroA P t).map .alloc
  | .box _ x => (absOpd x).map .box
  | .build t ps =>
    match zeroA P t, P.underlying t with
    | some z, some (.struct fs) =>
      (match fieldPlaces P fs.toList with | some pl => (absParts (pl[·]?) ps.toList).map (.build z) | none => none)
    | some z, some (.array _ e) =>
      (match sizeT P e with | some n => (absParts (fun i => some (i * n, n)) ps.toList).map (.build z) | none => none)
    | _, _ => none
  | .buildSlice t len ps =>
    match P.underlying t with
    | some (.slice e) =>
      (match zeroE P e with
       | some z => if len * z.length ≤ 16777216 then (absParts (fun i => some (i * z.length, z.length)) ps.toList).map (.buildSlice (List.replicate len z).flatten z.length len) else none
       | none => none)
    | _ => none
  | .load t a => match aggT P t, sizeT P t, absOpd a with | some true, some n, some a => some (.loadN n a) | some false, _, some a => some (.load1 a) | _, _, _ => none
  | .store t a x => match sizeT P t, absOpd a, absOpd x with | some n, some a, some x => some (.store n a x) | _, _, _ => none
  | .nilCheck x => (absOpd x).map .nilCheck
  | .binOp op t x y _ => match absOpd x, absOpd y with | some x, some y => resBin P op t x y | _, _ => none
  | .unOp op _ x => (absOpd x).map (.un op)
  | .convert s d x => match absOpd x with | some x => resConv P s d x | none => none
  | .sliceToArrayPointer t x => match P.underlying t, absOpd x with | some (.array n _), some x => some (.arrPtr n x) | _, _ => none
  | .makeSlice t l c =>
    match P.underlying t, absOpd l, absOpd c with
    | some (.slice e), some l, some c => (match zeroE P e, bytesT P e with | some z, some b => some (.makeSlice z b l c) | _, _ => none)
    | _, _, _ => none
  | .slice t x lo hi none =>
    match P.underlying t, absOpd x, absOptOpd lo, absOptOpd hi with
    | some (.slice e), some x, some lo, some hi => (match zeroE P e with | some z => some (.sliceS z.length x lo hi) | none => none)
    | some .string, some x, some lo, some hi => some (.sliceStr x lo hi)
    | some (.array n e), some x, some lo, some hi => (match zeroE P e with | some z => some (.sliceArr n z.length x lo hi) | none => none)
    | some (.pointer a), some x, some lo, some hi =>
      (match P.underlying a with | some (.array n e) => (match zeroE P e with | some z => some (.sliceArr n z.length x lo hi) | none => none) | _ => none)
    | _, _, _, _ => none
  | .fieldAddr s x f =>
    match P.underlying s, absOpd x with
    | some (.struct fs), some x => (match fs[f]? with | some f => (match sizeT P f.type with | some (_ + 1) => some (.fieldAddr f.offset x) | _ => none) | none => none)
    | _, _ => none
  | .field s x f =>
    match P.underlying s, absOpd x with
    | some (.struct fs), some x =>
      (match fs[f]? with
       | some f => (match aggT P f.type, sizeT P f.type with | some true, some n => some (.fieldN f.offset n x) | some false, _ => some (.field1 f.offset x) | _, _ => none)
       | none => none)
    | _, _ => none
  | .indexAddr t x i =>
    match P.underlying t, absOpd x, absOpd i with
    | some (.array n e), some x, some i => (sizeT P e).map fun z => .idxArr n z x i
    | some (.slice e), some x, some i => (sizeT P e).map fun z => .idxSlc z x i
    | _, _, _ => none
  | .index t x i =>
    match P.underlying t, absOpd x, absOpd i with
    | some (.array n e), some x, some i =>
      (match aggT P e, sizeT P e with | some true, some z => some (.elemN n z x i) | some false, some 1 => some (.elem1 n x i) | _, _ => none)
    | some .string, some x, some i => some (.elemStr x i)
    | _, _, _ => none
  | .extract x i => (absOpd x).map fun x => .extract x i
  | .call { callee := .builtin b, args, argTypes } => match optMap absOpd args.toList with | some as => resBuiltin P b argTypes.toList as | none => none
  | .call { callee := .value (.func f), args, .. } => (optMap absOpd args.toList).map (.call f)
  | .call { callee := .value (.tmp t), args, .. } => (optMap absOpd args.toList).map (.callV (.t t))
  | _ => none

def resOper (ops : List Oper) (o : Oper) : Option AOper :=
  match resOp P o with
  | none => none
  | some p =>
    match o.guard with
    | none => some { dst := o.dst, op := p, guard := none }
    | some (j, want) =>
      match (ops[j]?).bind (·.dst) with
      | some t => some { dst := o.dst, op := p, guard := some (t, want) }
      | none => none

/-! Statements whose order is open. -/

/-- does this operation make memory, or call? (the others only look) -/
def AOp.makes : AOp → Bool
  | .alloc _ | .box _ | .buildSlice .. | .strBytes _ | .makeSlice .. | .append .. | .store .. | .copy .. | .call .. | .callV .. => true
  | _ => false

def force {α : Type} (n : Nat) (f : Nat → α) : α :=
  match n with
  | 0 => f 0
  | k + 1 => f (k + 1)

/-- the operations that must stand ahead (bits) -/
def oneA (acc : Nat → Nat) (o : Oper) : Nat := o.after.toList.foldl (fun s e => if Region.binds .any e then s ||| 2 ^ e.on ||| acc e.on else s) 0
def aheadA : List Oper → List Nat → List Nat
  | [], acc => acc
  | o :: r, acc => force (oneA (fun k => acc.getD k 0) o) fun n => aheadA r (acc ++ [n])

/-- the operands -/
def AOp.opds : AOp → List AOpd
  | .mv x => [x]
  | .pick c a b => [c, a, b]
  | .alloc _ => []
  | .box x => [x]
  | .build _ ps => ps.map (·.2.2)
  | .buildSlice _ _ _ ps => ps.map (·.2.2)
  | .load1 a => [a]
  | .loadN _ a => [a]
  | .store _ a x => [a, x]
  | .nilCheck x => [x]
  | .bin _ x y => [x, y]
  | .eq _ _ x y => [x, y]
  | .un _ x => [x]
  | .convInt _ x => [x]
  | .convStr x => [x]
  | .strBytes x => [x]
  | .bytesStr x => [x]
  | .arrPtr _ x => [x]
  | .makeSlice _ _ l c => [l, c]
  | .sliceS _ x lo hi => x :: (lo.toList ++ hi.toList)
  | .sliceStr x lo hi => x :: (lo.toList ++ hi.toList)
  | .sliceArr _ _ x lo hi => x :: (lo.toList ++ hi.toList)
  | .fieldAddr _ x => [x]
  | .field1 _ x => [x]
  | .fieldN _ _ x => [x]
  | .idxSlc _ x i => [x, i]
  | .idxArr _ _ x i => [x, i]
  | .elemStr x i => [x, i]
  | .elem1 _ x i => [x, i]
  | .elemN _ _ x i => [x, i]
  | .extract x _ => [x]
  | .len _ x => [x]
  | .lenK _ => []
  | .append _ _ s x => [s, x]
  | .copy _ d s => [d, s]
  | .max xs => xs
  | .min xs => xs
  | .call _ as => as
  | .callV f as => f :: as

/-- the slots that an operation looks at, and the one that it writes -/
def AOper.sees (o : AOper) : List Nat := (o.op.opds.filterMap fun | .t i => some i | _ => none) ++ (match o.guard with | some (t, _) => [t] | none => [])
def AOper.names (o : AOper) : List Nat := o.dst.toList ++ o.sees

/-- operations that look at no cell (some at whether a block is there) -/
def AOp.light : AOp → Bool
  | .mv _ | .pick _ _ _ | .bin _ _ _ | .un _ _ | .convInt _ _ | .convStr _ | .field1 _ _ | .fieldN _ _ _ | .elemStr _ _ | .elem1 _ _ _ | .elemN _ _ _ _ | .extract _ _ | .lenK _ | .max _ | .min _ | .build _ _
  | .fieldAddr _ _ | .idxArr _ _ _ _ | .idxSlc _ _ _ | .nilCheck _ => true
  | _ => false
def AOp.kills : AOp → Bool
  | .call _ _ | .callV _ _ | .append _ _ _ _ => true
  | _ => false
def AOp.writes : AOp → Bool
  | .store _ _ _ | .copy _ _ _ => true
  | _ => false
def lightAt (lt : Bool) (as : List AOper) (k : Nat) : Bool := lt && (match as[k]? with | some a => a.op.light | none => false)
def killsAt (as : List AOper) (k : Nat) : Bool := match as[k]? with | some a => a.op.kills | none => false

/-- must all of the first i stand ahead of i? (but for the light ones) -/
def lastOne (lt : Bool) (as : List AOper) (bs : List Nat) (i : Nat) : Bool := (List.range i).all fun j => lightAt lt as j || (bs.getD i 0).testBit j

def tailFrom (lt : Bool) (as : List AOper) (bs : List Nat) : Nat → Nat
  | 0 => 0
  | i + 1 => if lightAt lt as i || lastOne lt as bs i then tailFrom lt as bs i else i + 1

/-- i and j < i write and look at nothing of each other's, or j stands ahead -/
def pairOk (as : List AOper) (bs : List Nat) (i j : Nat) : Bool :=
  match as[i]?, as[j]? with
  | some x, some y =>
    (!(match x.dst with | some d => y.names.contains d | none => false) && !(match y.dst with | some d => x.names.contains d | none => false)) || (bs.getD i 0).testBit j
  | _, _ => true

/-- the makers of the first n stand in a row -/
def rowOk (as : List AOper) (bs : List Nat) (i j : Nat) : Bool :=
  match as[i]?, as[j]? with
  | some x, some y => !(x.op.makes && y.op.makes) || (bs.getD i 0).testBit j
  | _, _ => true

/-- constants among the operands name no block -/
def constOk (o : AOper) : Bool := o.op.opds.all fun | .k (.c (.ptr _ _)) => false | .k (.c (.slc _ _ _ _)) => false | _ => true

/-- behind the last one that may kill a block -/
def lastKill (as : List AOper) : Nat := (List.range as.length).foldl (fun m k => if killsAt as k then k + 1 else m) 0
def drawWith (lt : Bool) (ops : List Oper) (as : List AOper) : Option Nat :=
  let bs := aheadA ops []
  let n := max (tailFrom lt as bs ops.length) (if lt then lastKill as else 0)
  if decide (n ≤ ops.length) && ((List.range ops.length).all fun i => (List.range i).all fun j => pairOk as bs i j && (decide (n ≤ i) || rowOk as bs i j)) &&
    (ops.zipIdx.all fun (o, i) => o.after.all fun e => !Region.binds .any e || decide (e.on < i)) && as.all constOk &&
    (!lt || (List.range ops.length).all fun k => decide (k < n) || !killsAt as k)
  then some n else none

def drawOk (ops : List Oper) (as : List AOper) : Option Nat :=
  match drawWith false ops as with
  | some n => if (as.take n).any (·.op.writes) then (match drawWith true ops as with | some m => some m | none => some n) else some n
  | none => drawWith true ops as

def resCode : Code → Option ACode
  | .skip => some .skip
  | .region _ ops draw =>
    match optMap (resOper P ops.toList) ops.toList with
    | none => none
    | some as =>
      if draw then (match drawOk ops.toList as with | some n => some (.draw (as.take n) (as.drop n)) | none => none)
      else some (.region as)
  | .seq a b => match resCode a, resCode b with | some a, some b => some (.seq a b) | _, _ => none
  | .cond c a b => match absOpd c, resCode a, resCode b with | some c, some a, some b => some (.cond c a b) | _, _, _ => none
  | .block id c => (resCode c).map (.block id)
  | .loop c => (resCode c).map .loop
  | .exit id => some (.exit id)
  | .ret => some .ret
  | _ => none

def resRes : ResultVar → Option ARes
  | .tmp t => some (.tmp t)
  | .cell a t => match aggT P t, sizeT P t with | some true, some n => some (.cellN a n) | some false, _ => some (.cell1 a) | _, _ => none

def resFn (fn : Func) : Option AFn :=
  match fn.body, optMap (resRes P) fn.results.toList with
  | some c, some rs => if fn.name == "runtime.NumGoroutine" then none else (resCode P c).map fun b => { ntmps := fn.ntmps, results := rs, body := b }
  | _, _ => none

def tableA (f : Nat) : Option AFn := (P.funcs[f]?).bind (resFn P)

end PAbs
