/- The model's operations and code, read as the operations over abstract values. Definitions alone; no statement of the seed is proved here. -/
import Derived.Test.YtdbikamciedfdaaDlB
namespace Go.DL

def co : Operand → Option AO
  | .tmp t => some (.t t)
  | .const v => some (.c (ofVal v))
  | .func f => some (.c (.fn (.func f) [] []))
  | .global _ => none

def coO : Option Operand → Option (Option AO)
  | none => some none
  | some x => (co x).map some

def coL (xs : Array Operand) : Option (List AO) := xs.toList.mapM co

def isAggT (P : Program) (t : TypeId) : Option Bool :=
  match P.underlying t with
  | some (.struct _) => some true
  | some (.array ..) => some true
  | some _ => some false
  | none => none
def szT (P : Program) (t : TypeId) : Option Nat := (P.info? t).map (·.size)
def zeroT (P : Program) (t : TypeId) : Option (List AV) :=
  match P.info? t with
  | some i => match i.zero with
    | some v => if oneCells v.cells then some (v.cells.toList.map ofVal1) else none
    | none => none
  | none => none

/-- The zero value of a type of one cell. -/
def zeroT1 (P : Program) (t : TypeId) : Option AV :=
  match P.info? t with
  | some i => match i.zero with
    | some v => if v.oneCell' then some (ofVal1 v) else none
    | none => none
  | none => none

/-- Where the parts of a struct or an array lie. -/
def placesT (P : Program) (t : TypeId) (i : Nat) : Option (Nat × Nat) :=
  match P.underlying t with
  | some (.struct fields) => match fields[i]? with
    | some f => (szT P f.type).map fun n => (f.offset, n)
    | none => none
  | some (.array _ e) => (szT P e).map fun n => (i * n, n)
  | _ => none

def partsT (place : Nat → Option (Nat × Nat)) (ps : Array (Nat × Operand)) : Option (List (Nat × Nat × AO)) :=
  ps.toList.mapM fun p => match place p.1, co p.2 with
    | some (off, n), some x => some (off, n, x)
    | _, _ => none

/-- A type of plain cells: where they lie, and of what kind they are. -/
def flatL (P : Program) : Nat → TypeId → Option (List (Nat × Nat))
  | 0, _ => none
  | d + 1, t =>
    match P.underlying t with
    | some .bool => some [(0, 1)]
    | some (.int _) => some [(0, 0)]
    | some .string => some [(0, 2)]
    | some (.struct fs) => if P.stoodInHeld t then none else
      match szT P t, fs.toList.mapM fun f => if f.name = "_" then none else (flatL P d f.type).map fun l => l.map fun p => (f.offset + p.1, p.2) with
      | some n, some ls => if ls.flatten.all fun p => decide (p.1 < n) then some ls.flatten else none
      | _, _ => none
    | some (.array len e) =>
      match szT P t, szT P e, flatL P d e with
      | some n, some s, some l =>
        let ls := (List.range len).flatMap fun i => l.map fun p => (i * s + p.1, p.2)
        if ls.all fun p => decide (p.1 < n) then some ls else none
      | _, _, _ => none
    | _ => none

/-- The kinds of the cells of a type whose equality is that of its cells, in their order. -/
def kindsT (P : Program) (t : TypeId) : Option (List Nat) :=
  if P.eqGuardType P.depth t then none else
  match isAggT P t, flatL P 100 t with
  | some true, some l => if l.map (·.1) = List.range l.length ∧ szT P t = some l.length then some (l.map (·.2)) else none
  | _, _ => none

def compCall (P : Program) (c : Call) : Option DOp :=
  match c.callee with
  | .builtin .len => match c.args.toList, c.argTypes.toList with
    | [x], [t] => match P.underlying t, co x with
      | some (.array n _), _ => some (.mv (.c (.int .i64 (n : Int))))
      | some .string, some x => some (.len true x)
      | some (.slice _), some x => some (.len false x)
      | _, _ => none
    | _, _ => none
  | .builtin .append => match c.args.toList, c.argTypes.toList with
    | [x, y], [t, u] => match P.underlying t, co x, co y with
      | some (.slice e), some x, some y => match P.info? e, P.underlying u, zeroT P e with
        | some i, some (.slice _), some z => if z.length = i.size ∧ i.bytes ≤ 1048576 then some (.app i.size i.bytes x y) else none
        | _, _, _ => none
      | _, _, _ => none
    | _, _ => none
  | .builtin .copy => match c.args.toList, c.argTypes.toList with
    | [x, y], [t, _] => match P.underlying t, co x, co y with
      | some (.slice e), some x, some y => (szT P e).map fun s => .copy s x y
      | _, _, _ => none
    | _, _ => none
  | .builtin .min => match c.args.toList with
    | [x, y] => match co x, co y with
      | some x, some y => some (.mm false x y)
      | _, _ => none
    | _ => none
  | .builtin .max => match c.args.toList with
    | [x, y] => match co x, co y with
      | some x, some y => some (.mm true x y)
      | _, _ => none
    | _ => none
  | .value f => match co f, coL c.args with
    | some f, some xs => some (.callf false f xs [])
    | _, _ => none
  | _ => none

def comp0 (P : Program) (o : Oper) : Option DOp :=
  match o.op with
  | .move x => (co x).map .mv
  | .assign x => (co x).map .mv
  | .pick c a b => match co c, co a, co b with
    | some c, some a, some b => some (.pick c a b)
    | _, _, _ => none
  | .alloc t => (zeroT P t).map .alloc
  | .box _ x => (co x).map .box
  | .build t parts => match zeroT P t, isAggT P t, partsT (placesT P t) parts with
    | some z, some true, some ps => match P.underlying t with
      | some (.struct fields) => if fields.toList.all fun f => (szT P f.type).isSome then some (.build z ps) else none
      | some (.array _ e) => if (szT P e).isSome then some (.build z ps) else none
      | _ => none
    | _, _, _ => none
  | .buildSlice t len parts => match P.underlying t with
    | some (.slice e) => match szT P e, zeroT P e with
      | some s, some z => match partsT (fun i => some (i * s, s)) parts with
        | some ps => if len * s ≤ 16777216 ∧ z.length = s then some (.bslice s len z ps) else none
        | none => none
      | _, _ => none
    | _ => none
  | .load t a => match isAggT P t, szT P t, co a with
    | some g, some n, some x => some (.load g n x)
    | _, _, _ => none
  | .store t a x => match szT P t, co a, co x with
    | some n, some a, some x => some (.store n a x [])
    | _, _, _ => none
  | .nilCheck x => (co x).map .nilck
  | .binOp op t x y _ => match co x, co y with
    | some x, some y => match op, P.underlying t with
      | .eql, some .bool => some (.binb false x y)
      | .neq, some .bool => some (.binb true x y)
      | .eql, some (.struct _) => (kindsT P t).map fun ks => .eqag false ks x y
      | .eql, some (.array ..) => (kindsT P t).map fun ks => .eqag false ks x y
      | .neq, some (.struct _) => (kindsT P t).map fun ks => .eqag true ks x y
      | .neq, some (.array ..) => (kindsT P t).map fun ks => .eqag true ks x y
      | .eql, some (.slice _) => some (.eqn 0 false x y)
      | .neq, some (.slice _) => some (.eqn 0 true x y)
      | .eql, some (.map ..) => some (.eqn 1 false x y)
      | .neq, some (.map ..) => some (.eqn 1 true x y)
      | .eql, some (.func ..) => some (.eqn 2 false x y)
      | .neq, some (.func ..) => some (.eqn 2 true x y)
      | .eql, some (.pointer _) => some (.eqn 3 false x y)
      | .neq, some (.pointer _) => some (.eqn 3 true x y)
      | .eql, some (.interface _) => some (.eqn 4 false x y)
      | .neq, some (.interface _) => some (.eqn 4 true x y)
      | op, _ => some (.bin op x y)
    | _, _ => none
  | .unOp .not _ x => (co x).map .not
  | .unOp .neg _ x => (co x).map .neg
  | .convert src dst x => match P.underlying src, P.underlying dst, co x with
    | some (.int _), some (.int k), some x => some (.conv k x)
    | some .string, some (.slice e), some x => match P.underlying e with
      | some (.int .u8) => some (.bytes x)
      | _ => none
    | _, _, _ => none
  | .makeFunc fn first cap => match coL first, coL cap with
    | some f, some c => some (.mkf fn f c)
    | _, _ => none
  | .fieldAddr s x f => match P.underlying s, co x with
    | some (.struct fields), some x => match fields[f]? with
      | some fd => match szT P fd.type with
        | some (_ + 1) => some (.fld fd.offset x)
        | _ => none
      | none => none
    | _, _ => none
  | .field s x f => match P.underlying s, co x with
    | some (.struct fields), some x => match fields[f]? with
      | some fd => match isAggT P fd.type, szT P fd.type with
        | some g, some n => some (.fldv g fd.offset n x)
        | _, _ => none
      | none => none
    | _, _ => none
  | .indexAddr t x i => match P.underlying t, co x, co i with
    | some (.array len e), some x, some i => (szT P e).map fun s => .idxa len s x i
    | some (.slice e), some x, some i => (szT P e).map fun s => .idx s x i
    | _, _, _ => none
  | .index t x i => match P.underlying t, co x, co i with
    | some (.array len e), some x, some i => match isAggT P e, szT P e with
      | some g, some s => some (.idxv g len s x i)
      | _, _ => none
    | some .string, some x, some i => some (.idxs x i)
    | _, _, _ => none
  | .makeSlice t l c => match P.underlying t, co l, co c with
    | some (.slice e), some l, some c => match P.info? e, zeroT P e with
      | some i, some z => if z.length = i.size then some (.mksl i.size i.bytes z l c) else none
      | _, _ => none
    | _, _, _ => none
  | .slice t x lo hi none => match P.underlying t, co x, coO lo, coO hi with
    | some (.array len e), some x, some lo, some hi => (szT P e).map fun s => .slarr len s x lo hi
    | some (.slice e), some x, some lo, some hi => (szT P e).map fun s => .slsl s x lo hi
    | some .string, some x, some lo, some hi => some (.slstr x lo hi)
    | _, _, _, _ => none
  | .makeMap _ none => some .mkmap
  | .lookup t m k ok => match P.underlying t, co m, co k with
    | some (.map kt e), some m, some k => match zeroT1 P e, P.underlying kt with
      | some z, some (.int _) => some (.lookup false ok z m k)
      | some z, some .string => some (.lookup true ok z m k)
      | _, _ => none
    | _, _, _ => none
  | .mapUpdate t m k x => match P.underlying t, co m, co k, co x with
    | some (.map kt _), some m, some k, some x => match P.underlying kt with
      | some (.int _) => some (.mapup false m k x)
      | some .string => some (.mapup true m k x)
      | _ => none
    | _, _, _, _ => none
  | .extract x i => (co x).map fun x => .ext x i
  | .makeInterface t x => match P.underlying t, co x with
    | some (.interface _), _ => none
    | some _, some x => some (.mkifc t x)
    | _, _ => none
  | .call c => compCall P c
  | _ => none

/-- What is not read is taken for an operation that ends no way. -/
def comp (P : Program) (o : Oper) : DOp := (comp0 P o).getD .stuck

/-- An operation with its number in its region, its temporary and its guard (the temporary that it looks at, and what it must hold). -/
structure DOper where
  ix : Nat
  dst : Option Nat
  op : DOp
  guard : Option (Nat × Bool)

def compO (P : Program) (ops : Array Oper) (o : Oper) : Option DOper :=
  match o.op with
  | .defer _ => none
  | _ => match o.guard with
    | none => some ⟨0, o.dst, comp P o, none⟩
    | some (j, w) => match (ops[j]?).bind (·.dst) with
      | some d => some ⟨0, o.dst, comp P o, some (d, w)⟩
      | none => none

/-- The operations that one waits for. -/
def afterOf (o : Oper) : List Nat := (o.after.toList.filter fun e => Region.binds .any e).map (·.on)

def compR (P : Program) (ops : Array Oper) : Option (List DOper) := ops.toList.mapM (compO P ops)

inductive DCode where
  | skip
  | reg (draw : Bool) (ops : List DOper)
  | seq (a b : DCode)
  | cond (c : AO) (a b : DCode)
  | block (id : Nat) (a : DCode)
  | loop (a : DCode)
  | scope (a : DCode)
  | rng (f : AO) (ps : List Nat) (assign body : DCode)
  | exit (id : Nat)
  | ret

/-- Which temporaries an operand, an operation looks at. -/
def AO.sees : AO → List Nat
  | .t k => [k]
  | .c _ => []
def seesO : Option AO → List Nat
  | some x => x.sees
  | none => []
def seesL (l : List AO) : List Nat := l.flatMap AO.sees
def DOp.sees : DOp → List Nat
  | .mv x | .box x | .load _ _ x | .nilck x | .not x | .neg x | .conv _ x | .fld _ x | .fldv _ _ _ x | .ext x _ | .len _ x | .mkifc _ x | .bytes x => x.sees
  | .pick c a b => c.sees ++ a.sees ++ b.sees
  | .alloc _ | .mkmap | .stuck => []
  | .build _ ps | .bslice _ _ _ ps => ps.flatMap fun p => p.2.2.sees
  | .bin _ x y | .binb _ x y | .eqag _ _ x y | .eqn _ _ x y | .idxa _ _ x y | .idx _ x y | .idxv _ _ _ x y | .idxs x y | .mksl _ _ _ x y | .lookup _ _ _ x y | .app _ _ x y
  | .mm _ x y | .copy _ x y => x.sees ++ y.sees
  | .store _ x y _ => x.sees ++ y.sees
  | .mkf _ f c => seesL f ++ seesL c
  | .slarr _ _ x lo hi | .slsl _ x lo hi | .slstr x lo hi => x.sees ++ seesO lo ++ seesO hi
  | .mapup _ m k x => m.sees ++ k.sees ++ x.sees
  | .callf _ f xs _ => f.sees ++ seesL xs
def DOper.sees (o : DOper) : List Nat := o.op.sees ++ (match o.guard with | some (g, _) => [g] | none => [])

/-- 0: yields a value, the heap not looked at; 1: looks at the heap; 2: makes a block; 3: append; 4: a call that turns nothing; 5: turns the heap; 6: a call that may; 7: makes a block, whatever there is. -/
def DOp.kind : DOp → Nat
  | .load .. | .lookup .. | .slarr .. => 1
  | .box _ | .bslice .. | .mksl .. | .bytes _ => 2
  | .alloc _ | .mkmap => 7
  | .app .. => 3
  | .callf true .. => 4
  | .callf false .. => 6
  | .store .. | .copy .. | .mapup .. => 5
  | _ => 0

/-- May the second, which stands later, be carried out ahead of the first? -/
def kindsOk : Nat → Nat → Bool
  | 0, _ => true
  | 1, k => k ≤ 4 || k == 7
  | 2, k => k ≤ 3 || k == 7
  | 7, k => k ≤ 3 || k == 7
  | 3, k => k ≤ 2 || k == 7
  | 4, k => k ≤ 4 || k == 7
  | 6, k => k == 7
  | _, k => k == 0

def apartD (x y : DOper) : Bool :=
  (match x.dst with
   | some d => !(y.sees).contains d && y.dst != some d
   | none => true) &&
  (match y.dst with
   | some d => !(x.sees).contains d
   | none => true)

/-- The first looks at a place that the second, which turns the heap, is known to stay away from. -/
def awayOk (x y : DOper) : Bool :=
  match x.op, y.op with
  | .load .., .store _ _ _ l => l.contains x.ix
  | .load .., .callf false _ _ l => l.contains x.ix
  | _, _ => false

def swapOk (x y : DOper) : Bool := (kindsOk x.op.kind y.op.kind || awayOk x y) && apartD x y && (x.op.kind != 6 || y.guard.isNone)

/-- For each operation, all that must have come up ahead of it, as bits. -/
def closure (afs : List (List Nat)) : List Nat :=
  afs.foldl (fun acc o => acc ++ [o.foldl (fun s j => s ||| (2 ^ j ||| acc.getD j 0)) 0]) []

/-- At which call's height an operation stands: calls count up; what only computes or looks stands as low as what it waits for lets it. -/
def levels (afs : List (List Nat)) (ops : List DOper) : List Nat :=
  (ops.zip afs).foldl (fun acc p =>
    let low := p.2.foldl (fun m j => max m (acc.getD j 0)) 0
    let high := acc.foldl max 0
    acc ++ [match p.1.op.kind with
      | 0 | 1 => (low + 1) / 2 * 2
      | 4 | 6 => (high + 1) / 2 * 2 + 1
      | _ => (high + 1) / 2 * 2]) []

/-- The operations by their heights, each height in the text's order. -/
def byLevel (lv : List Nat) (ops : List DOper) : List DOper :=
  (List.range (lv.foldl max 0 + 1)).flatMap fun h => ops.filter fun o => lv.getD o.ix 0 == h

/-- What an operation that turns the heap is to stay away from; and whether a call must turn nothing. -/
def tuneO (cl : List Nat) (before after : List DOper) (o : DOper) : DOper :=
  let c := cl.getD o.ix 0
  let away := before.filterMap fun x => if c.testBit x.ix then none else match x.op with
    | .load .. => some x.ix
    | _ => none
  match o.op with
  | .store n p x _ => { o with op := .store n p x away }
  | .callf _ f xs _ =>
    if after.all fun y => (cl.getD y.ix 0).testBit o.ix || y.op.kind == 7 then { o with op := .callf false f xs away } else { o with op := .callf true f xs [] }
  | _ => o

def tune (cl : List Nat) : List DOper → List DOper → List DOper
  | _, [] => []
  | before, o :: rest => tuneO cl before rest o :: tune cl (before ++ [o]) rest

/-- Each pair: the later one is not waited for; and it waits for the earlier one, or the two may change places. -/
def pairsOk (cl : List Nat) : List DOper → Bool
  | [] => true
  | x :: rest => (rest.all fun y => !(cl.getD x.ix 0).testBit y.ix && ((cl.getD y.ix 0).testBit x.ix || swapOk x y)) && pairsOk cl rest

def numbered (ops : List DOper) : List DOper := ops.zipIdx.map fun p => { p.1 with ix := p.2 }

def afterOk (afs : List (List Nat)) : Bool := (List.range afs.length).all fun i => (afs.getD i []).all (· < i)

def dstOk (N : Nat) (ops : List DOper) : Bool := ops.all fun o => match o.dst with
  | some d => decide (d < N)
  | none => true

def nodupB : List Nat → Bool
  | [] => true
  | x :: r => !r.contains x && nodupB r

/-- A region as it is read: as it stands, where the text's order is the order; else tuned, if the text's order serves. -/
def compG (P : Program) (N : Nat) (ops : Array Oper) (draw : Bool) : Option (List DOper) :=
  match compR P ops with
  | none => none
  | some l =>
    if !dstOk N l then none else
    if draw then
      let afs := ops.toList.map afterOf
      let cl := closure afs
      let l' := tune cl [] (byLevel (levels afs l) (numbered l))
      if afterOk afs && pairsOk cl l' && (l'.map (·.ix)).length == l.length && nodupB (l'.map (·.ix)) && (List.range l.length).all (fun i => (l'.map (·.ix)).contains i) then some l' else none
    else some l

def compC (P : Program) (N : Nat) : Code → Option DCode
  | .skip => some .skip
  | .region _ ops draw => match compG P N ops draw with
    | some l => some (.reg draw l)
    | none => none
  | .seq a b => match compC P N a, compC P N b with
    | some a, some b => some (.seq a b)
    | _, _ => none
  | .cond c a b => match co c, compC P N a, compC P N b with
    | some c, some a, some b => some (.cond c a b)
    | _, _, _ => none
  | .block id a => match compC P N a with
    | some a => some (.block id a)
    | none => none
  | .loop a => match compC P N a with
    | some a => some (.loop a)
    | none => none
  | .scope a => match compC P N a with
    | some a => some (.scope a)
    | none => none
  | .label _ => some .skip
  | .rangeFunc f ps assign body => match co f, compC P N assign, compC P N body with
    | some f, some x, some y => if ps.toList.all (· < N) then some (.rng f ps.toList x y) else none
    | _, _, _ => none
  | .exit id => some (.exit id)
  | .ret => some .ret
  | _ => none

end Go.DL
