/- The operations over abstract values: what each yields, and how the model's operations are read as such. Definitions alone; no statement of the seed is proved here. -/
import Derived.Test.YtdbikamciedfdaaDlA
namespace Go.DL

/-- An operand. -/
inductive AO where
  | t (k : Nat)
  | c (v : AV)
deriving Inhabited

def evA (e : Env) : AO → AV
  | .t k => e k
  | .c v => v

def ofVal1 : Value → AV
  | .int k n => .int k n
  | .bool b => .bool b
  | .string s => .str s
  | .pointer none => .nilpt
  | .slice none 0 0 => .nilsl
  | .map none => .nilmap
  | .nilFunc => .nilfn
  | .nilIface => .nilifc
  | _ => .any

def oneCells (cs : Array Value) : Bool := cs.toList.all Value.oneCell'
def ofVal : Value → AV
  | .agg cs => if oneCells cs then .agg (cs.toList.map ofVal1) else .any
  | v => ofVal1 v

def cellsOf : AV → Option (List AV)
  | .agg cs => some cs
  | .tup _ => none
  | .any => none
  | v => some [v]

def splice (z : List AV) (off : Nat) (cs : List AV) : List AV := z.take off ++ cs ++ z.drop (off + cs.length)

def fillA (z : List AV) : List (Nat × Nat × AV) → Option (List AV)
  | [] => some z
  | (off, n, v) :: rest =>
    match cellsOf v with
    | some cs => if cs.length = n ∧ off + n ≤ z.length then fillA (splice z off cs) rest else none
    | none => none

/-- What lies at a place of a row of cells. -/
def readA (agg : Bool) (n : Nat) (cs : List AV) (o : Nat) : Option AV :=
  if agg then (if o + n ≤ cs.length then some (.agg ((cs.drop o).take n)) else none) else cs[o]?

def loadA (agg : Bool) (n : Nat) (H : Hp) : AV → Option AV
  | .pt b o => match H b with
    | some (.cells _ cs) => readA agg n cs o
    | _ => none
  | .fp rows i o => match rows[i]? with
    | some r => readA agg n r o
    | none => none
  | _ => none

/-- Equality of keys: integers, or strings. -/
def keyEqA : Bool → AV → AV → Option Bool
  | false, .int k a, .int k' b => if k = k' then some (a == b) else none
  | true, .str a, .str b => some (a == b)
  | _, _, _ => none

def findA (q : Bool) (k : AV) : List (AV × AV) → Option (Option AV)
  | [] => some none
  | (a, v) :: r => match keyEqA q k a with
    | some true => some (some v)
    | some false => findA q k r
    | none => none

def bitsA (op : BinOp) (k : IntKind) (x y : Int) : Int :=
  let a := BitVec.ofInt k.bits x
  let b := BitVec.ofInt k.bits y
  match op with
  | .and => k.wrap (a &&& b).toNat
  | .or => k.wrap (a ||| b).toNat
  | .xor => k.wrap (a ^^^ b).toNat
  | _ => k.wrap (a &&& ~~~b).toNat

/-- Two integers under an operator. -/
def intA (op : BinOp) (k : IntKind) (a : Int) (k' : IntKind) (b : Int) : Option AV :=
  match op with
  | .shl => if b < 0 then none else some (.int k (k.wrap (a * 2 ^ min b.toNat k.bits)))
  | .shr => if b < 0 then none else some (.int k (a.fdiv (2 ^ min b.toNat k.bits)))
  | .add => if k = k' then some (.int k (k.wrap (a + b))) else none
  | .sub => if k = k' then some (.int k (k.wrap (a - b))) else none
  | .mul => if k = k' then some (.int k (k.wrap (a * b))) else none
  | .quo => if k = k' ∧ b ≠ 0 then some (.int k (k.wrap (a.tdiv b))) else none
  | .rem => if k = k' ∧ b ≠ 0 then some (.int k (a.tmod b)) else none
  | .and => if k = k' then some (.int k (bitsA .and k a b)) else none
  | .or => if k = k' then some (.int k (bitsA .or k a b)) else none
  | .xor => if k = k' then some (.int k (bitsA .xor k a b)) else none
  | .andNot => if k = k' then some (.int k (bitsA .andNot k a b)) else none
  | .eql => if k = k' then some (.bool (a == b)) else none
  | .neq => if k = k' then some (.bool (a != b)) else none
  | .lss => if k = k' then some (.bool (decide (a < b))) else none
  | .leq => if k = k' then some (.bool (decide (a ≤ b))) else none
  | .gtr => if k = k' then some (.bool (decide (b < a))) else none
  | .geq => if k = k' then some (.bool (decide (b ≤ a))) else none

def strA (op : BinOp) (a b : ByteArray) : Option AV :=
  match op with
  | .add => if ((a.size + b.size : Nat) : Int) > IntKind.i64.max then none else some (.str (a ++ b))
  | .eql => some (.bool (a.toList == b.toList))
  | .neq => some (.bool !(a.toList == b.toList))
  | .lss => some (.bool (Op.bytesLess a.toList b.toList))
  | _ => none

def binA (op : BinOp) : AV → AV → Option AV
  | .int k a, .int k' b => intA op k a k' b
  | .str a, .str b => strA op a b
  | _, _ => none

/-- Equality of cells: 0: integers, 1: bools, 2: strings. -/
def cellEq : Nat → AV → AV → Option Bool
  | 0, .int k a, .int k' b => if k = k' then some (a == b) else none
  | 1, .bool a, .bool b => some (a == b)
  | 2, .str a, .str b => some (a == b)
  | _, _, _ => none
def cellsEq : List Nat → List AV → List AV → Option Bool
  | [], [], [] => some true
  | k :: ks, a :: r, b :: s => match cellEq k a b, cellsEq ks r s with
    | some x, some y => some (x && y)
    | _, _ => none
  | _, _, _ => none

/-- A value against nil: 0: slices, 1: maps, 2: functions, 3: pointers, 4: interfaces. -/
def eqnA : Nat → AV → AV → Option Bool
  | 0, .nilsl, .nilsl => some true
  | 0, .sl .., .nilsl => some false
  | 0, .fs (_ :: _), .nilsl => some false
  | 1, .nilmap, .nilmap => some true
  | 1, .mp _, .nilmap => some false
  | 2, .nilfn, .nilfn => some true
  | 2, .fn .., .nilfn => some false
  | 3, .nilpt, .nilpt => some true
  | 3, .pt .., .nilpt => some false
  | 3, .fp .., .nilpt => some false
  | 4, .ifc .., .nilifc => some false
  | _, _, _ => none

inductive DOp where
  | mv (x : AO)
  | pick (c a b : AO)
  | alloc (z : List AV)
  | box (x : AO)
  | build (z : List AV) (parts : List (Nat × Nat × AO))
  | bslice (s len : Nat) (z : List AV) (parts : List (Nat × Nat × AO))
  | load (agg : Bool) (n : Nat) (x : AO)
  | nilck (x : AO)
  | bin (op : BinOp) (x y : AO)
  | binb (neg : Bool) (x y : AO)
  | eqag (neg : Bool) (ks : List Nat) (x y : AO)
  | eqn (kd : Nat) (neg : Bool) (x y : AO)
  | not (x : AO)
  | neg (x : AO)
  | conv (k : IntKind) (x : AO)
  | mkf (f : Fn) (first cap : List AO)
  | fld (off : Nat) (x : AO)
  | fldv (agg : Bool) (off n : Nat) (x : AO)
  | idxa (len s : Nat) (x i : AO)
  | idx (s : Nat) (x i : AO)
  | idxv (agg : Bool) (len s : Nat) (x i : AO)
  | idxs (x i : AO)
  | mksl (s bytes : Nat) (z : List AV) (l c : AO)
  | slarr (len s : Nat) (x : AO) (lo hi : Option AO)
  | slsl (s : Nat) (x : AO) (lo hi : Option AO)
  | slstr (x : AO) (lo hi : Option AO)
  | mkmap
  | lookup (q ok : Bool) (z : AV) (m k : AO)
  | ext (x : AO) (i : Nat)
  | len (q : Bool) (x : AO)
  | app (s bytes : Nat) (x y : AO)
  | mm (mx : Bool) (x y : AO)
  | mkifc (t : TypeId) (x : AO)
  | bytes (x : AO)
  | stuck
  | store (n : Nat) (p x : AO) (away : List Nat)
  | copy (s : Nat) (x y : AO)
  | mapup (q : Bool) (m k x : AO)
  | callf (quiet : Bool) (f : AO) (args : List AO) (away : List Nat)

/-- What an operation yields: a value; or a block (a new one, or an own one that grows) and a value that may name it. -/
inductive Eff where
  | val (v : AV)
  | new (own : Option Nat) (x : ABlk) (f : Nat → AV)

def boundA (cap : Nat) (d : Nat) (e : Env) : Option AO → Option Nat
  | none => some d
  | some x => match evA e x with
    | .int _ n => if 0 ≤ n ∧ n ≤ (cap : Int) then some n.toNat else none
    | _ => none

/-- The cells that a source of 'append' holds: how many elements, and their cells. -/
def srcA (s : Nat) (H : Hp) : AV → Option (Nat × List AV)
  | .nilsl => some (0, [])
  | .fs rows => if rows.all (fun r => r.length == s) then some (rows.length, rows.flatten) else none
  | .sl b o s' len => match H b with
    | some (.cells _ cs) => if s' = s ∧ o + len * s ≤ cs.length then some (len, (cs.drop o).take (len * s)) else none
    | _ => none
  | _ => none

def appA (s bytes : Nat) (H : Hp) (x y : AV) : Option Eff :=
  match srcA s H y with
  | none => none
  | some (n, new) =>
    match x with
    | .nilsl => if n * bytes ≤ 1099511627776 ∧ n ≤ 1099511627776 then (if n = 0 then some (.val .nilsl) else some (.new none (.cells true new) fun b => .sl b 0 s n)) else none
    | .sl b 0 s' len => match H b with
      | some (.cells true cs) => if s' = s ∧ len * s = cs.length ∧ (len + n) * bytes ≤ 1099511627776 ∧ len + n ≤ 1099511627776 then some (.new (some b) (.cells true (cs ++ new)) fun b => .sl b 0 s (len + n)) else none
      | _ => none
    | _ => none

/-- A slice expression over a slice. -/
def slslA (s : Nat) (e : Env) (lo hi : Option AO) : AV → Option AV
  | .fs rows => if rows.all (fun r => r.length == s) then (match boundA rows.length rows.length e hi with
    | some h => match boundA h 0 e lo with
      | some l => some (.fs ((rows.drop l).take (h - l)))
      | none => none
    | none => none) else none
  | .sl b o s' len => if s' = s then (match boundA len len e hi with
    | some h => match boundA h 0 e lo with
      | some l => if l < h then some (.sl b (o + l * s) s (h - l)) else some (.fs [])
      | none => none
    | none => none) else none
  | .nilsl => match boundA 0 0 e hi with
    | some h => match boundA h 0 e lo with
      | some _ => some .nilsl
      | none => none
    | none => none
  | _ => none

/-- What a map holds at a key. -/
def lookA (q : Bool) (H : Hp) (k : AV) : AV → Option (Option AV)
  | .mp b => match H b with
    | some (.map _ es) => findA q k es
    | _ => none
  | .nilmap => some none
  | _ => none

/-- What a look-up yields. -/
def lookR (ok : Bool) (z : AV) : Option AV → AV
  | some v => if ok then .tup [v, .bool true] else v
  | none => if ok then .tup [z, .bool false] else z

def evalQ (op : DOp) (e : Env) (H : Hp) : Option Eff :=
  match op with
  | .mv x => some (.val (evA e x))
  | .pick c a b => match evA e c with
    | .bool t => some (.val (if t then evA e a else evA e b))
    | _ => none
  | .alloc z => some (.new none (.cells true z) fun b => .pt b 0)
  | .box x => match cellsOf (evA e x) with
    | some cs => some (.new none (.cells true cs) fun b => .pt b 0)
    | none => none
  | .build z parts => match fillA z (parts.map fun p => (p.1, p.2.1, evA e p.2.2)) with
    | some cs => some (.val (.agg cs))
    | none => none
  | .bslice s len z parts => match fillA (List.replicate len z).flatten (parts.map fun p => (p.1, p.2.1, evA e p.2.2)) with
    | some cs => some (.new none (.cells true cs) fun b => .sl b 0 s len)
    | none => none
  | .load agg n x => match loadA agg n H (evA e x) with
    | some v => some (.val v)
    | none => none
  | .nilck x => match evA e x with
    | .pt b o => some (.val (.pt b o))
    | .fp r i o => some (.val (.fp r i o))
    | _ => none
  | .bin op x y => match binA op (evA e x) (evA e y) with
    | some v => some (.val v)
    | none => none
  | .binb neg x y => match evA e x, evA e y with
    | .bool a, .bool b => some (.val (.bool (if neg then a != b else a == b)))
    | _, _ => none
  | .eqag neg ks x y => match evA e x, evA e y with
    | .agg cs, .agg ds => match cellsEq ks cs ds with
      | some b => some (.val (.bool (if neg then !b else b)))
      | none => none
    | _, _ => none
  | .eqn kd neg x y => match eqnA kd (evA e x) (evA e y) with
    | some b => some (.val (.bool (if neg then !b else b)))
    | none => none
  | .not x => match evA e x with
    | .bool b => some (.val (.bool !b))
    | _ => none
  | .neg x => match evA e x with
    | .int k n => some (.val (.int k (k.wrap (0 - n))))
    | _ => none
  | .conv k x => match evA e x with
    | .int _ n => some (.val (.int k (k.wrap n)))
    | _ => none
  | .mkf f first cap => some (.val (.fn f (first.map (evA e)) (cap.map (evA e))))
  | .fld off x => match evA e x with
    | .pt b o => some (.val (.pt b (o + off)))
    | .fp r i o => some (.val (.fp r i (o + off)))
    | _ => none
  | .fldv agg off n x => match evA e x with
    | .agg cs => match readA agg n cs off with
      | some v => some (.val v)
      | none => none
    | _ => none
  | .idxa len s x i => match evA e x, evA e i with
    | .pt b o, .int _ n => if 0 ≤ n ∧ n < (len : Int) then some (.val (.pt b (o + n.toNat * s))) else none
    | .fp r j o, .int _ n => if 0 ≤ n ∧ n < (len : Int) then some (.val (.fp r j (o + n.toNat * s))) else none
    | _, _ => none
  | .idx s x i => match evA e x, evA e i with
    | .sl b o s' len, .int _ n => if s' = s ∧ 0 ≤ n ∧ n < (len : Int) then some (.val (.pt b (o + n.toNat * s))) else none
    | .fs rows, .int _ n => if 0 ≤ n ∧ n < (rows.length : Int) ∧ (rows.getD n.toNat []).length = s then some (.val (.fp rows n.toNat 0)) else none
    | _, _ => none
  | .idxv agg len s x i => match evA e x, evA e i with
    | .agg cs, .int _ n => if 0 ≤ n ∧ n < (len : Int) then (match readA agg s cs (n.toNat * s) with
      | some v => some (.val v)
      | none => none) else none
    | _, _ => none
  | .idxs x i => match evA e x, evA e i with
    | .str s, .int _ n => if 0 ≤ n ∧ n < (s.size : Int) then some (.val (.int .u8 ((s.data.toList.getD n.toNat 0).toNat : Int))) else none
    | _, _ => none
  | .mksl s bytes z l c => match evA e l, evA e c with
    | .int .i64 l, .int .i64 c => if 0 ≤ l ∧ l ≤ c ∧ (bytes : Int) * c ≤ 281474976710656 ∧ c ≤ 9223372036854775807 then
        some (.new none (.cells true (List.replicate c.toNat z).flatten) fun b => .sl b 0 s l.toNat) else none
    | _, _ => none
  | .slarr len s x lo hi => match evA e x with
    | .pt b o => match H b, boundA len len e hi with
      | some (.cells _ cs), some h => match boundA h 0 e lo with
        | some l => if o + len * s ≤ cs.length ∧ l < len then some (.val (.sl b (o + l * s) s (h - l))) else none
        | none => none
      | _, _ => none
    | _ => none
  | .slsl s x lo hi => match slslA s e lo hi (evA e x) with
    | some v => some (.val v)
    | none => none
  | .slstr x lo hi => match evA e x with
    | .str s => match boundA s.size s.size e hi with
      | some h => match boundA h 0 e lo with
        | some l => some (.val (.str (s.extract l h)))
        | none => none
      | none => none
    | _ => none
  | .mkmap => some (.new none (.map true []) fun b => .mp b)
  | .lookup q ok z m k => match lookA q H (evA e k) (evA e m) with
    | some r => some (.val (lookR ok z r))
    | none => none
  | .ext x i => match evA e x with
    | .tup vs => match vs[i]? with
      | some v => some (.val v)
      | none => none
    | _ => none
  | .len q x => match q, evA e x with
    | true, .str s => some (.val (.int .i64 (s.size : Int)))
    | false, .fs rows => some (.val (.int .i64 (rows.length : Int)))
    | false, .sl _ _ _ n => some (.val (.int .i64 (n : Int)))
    | false, .nilsl => some (.val (.int .i64 0))
    | _, _ => none
  | .app s bytes x y => appA s bytes H (evA e x) (evA e y)
  | .mm mx x y => match evA e x, evA e y with
    | .int k a, .int _ b => some (.val (.int k (if mx then (if b > a then b else a) else (if b < a then b else a))))
    | _, _ => none
  | .mkifc t x => some (.val (.ifc t (evA e x)))
  | .bytes x => match evA e x with
    | .str s => some (.new none (.cells true (s.data.toList.map fun b => .int .u8 (b.toNat : Int))) fun b => .sl b 0 1 s.size)
    | _ => none
  | .stuck | .store .. | .copy .. | .mapup .. | .callf .. => none

/-- What a store, a copy, a map's update make of the heap. -/
def storeA (n : Nat) (H : Hp) (p x : AV) : Option Hp :=
  match p with
  | .pt b o => match H b, cellsOf x with
    | some (.cells true cs), some vs => if vs.length = n ∧ o + n ≤ cs.length then some (hset H b (.cells true (splice cs o vs))) else none
    | _, _ => none
  | _ => none

def blkA : AV → Option Nat
  | .pt b _ => some b
  | .sl b _ _ _ => some b
  | .mp b => some b
  | _ => none

def putA (q : Bool) (k v : AV) : List (AV × AV) → Option (List (AV × AV))
  | [] => some [(k, v)]
  | (a, x) :: r => match keyEqA q k a with
    | some true => some ((a, v) :: r)
    | some false => (putA q k v r).map ((a, x) :: ·)
    | none => none

def mapupA (q : Bool) (H : Hp) (m k x : AV) : Option Hp :=
  match m with
  | .mp b => match H b with
    | some (.map true es) => (putA q k x es).map fun es' => hset H b (.map true es')
    | _ => none
  | _ => none

def copyA (s : Nat) (H : Hp) (x y : AV) : Option (Nat × Hp) :=
  match x, srcA s H y with
  | .sl b o s' len, some (n, new) => match H b with
    | some (.cells true cs) => if s' = s ∧ o + len * s ≤ cs.length then some (min n len, hset H b (.cells true (splice cs o (new.take (min n len * s))))) else none
    | _ => none
  | _, _ => none

end Go.DL
