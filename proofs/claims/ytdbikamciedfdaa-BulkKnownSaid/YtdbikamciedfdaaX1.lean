/- Codes carried out over abstract values with a heap of their own, step by step, by a function: definitions alone. No statement of the seed is proved here. -/
import Derived.Test.YtdbikamciedfdaaDlT
namespace Go.DL

/-- A code with remarks: what is alive at a loop's head, what is frozen ahead of a region. -/
inductive XCode where
  | skip
  | reg (fz : List (Nat × Bool)) (draw : Bool) (ops : List DOper)
  | seq (a b : XCode)
  | cond (c : AO) (a b : XCode)
  | block (id : Nat) (a : XCode)
  | loop (live : List Nat) (a : XCode)
  | scope (a : XCode)
  | rng (site : Nat) (live : List Nat) (f : AO) (ps : List Nat) (assign body : XCode)
  | exit (id : Nat)
  | ret

def XCode.erase : XCode → DCode
  | .skip => .skip
  | .reg _ d ops => .reg d ops
  | .seq a b => .seq a.erase b.erase
  | .cond c a b => .cond c a.erase b.erase
  | .block id a => .block id a.erase
  | .loop _ a => .loop a.erase
  | .scope a => .scope a.erase
  | .rng _ _ f ps a b => .rng f ps a.erase b.erase
  | .exit id => .exit id
  | .ret => .ret

/-- A function with its remarks: are its slices its own, are those that it returns its caller's own? -/
structure XFn where
  N : Nat
  res : List (Nat × Option (Bool × Nat))
  ownA : Bool
  ownR : Bool
  body : XCode

def XFn.fn (x : XFn) : DFn := ⟨x.N, x.res, x.body.erase⟩

inductive LSt where
  | ready
  | busy
  | done (x : DX)

/-- A block of the heap: 'g': its cells name no block. -/
inductive XB where
  | blk (g : Bool) (x : ABlk)
  | loop (K site : Nat) (vs : List AV) (s : LSt)
abbrev XH := List (Option XB)

/-! ### Names -/
mutual
def nmA : AV → List Nat
  | .agg cs => nmL cs
  | .tup vs => nmL vs
  | .sl b _ _ _ => [b]
  | .pt b _ => [b]
  | .mp b => [b]
  | .fn f first cap => (match f with | .yield l => [l] | _ => []) ++ (nmL first ++ nmL cap)
  | .ifc _ v => nmA v
  | _ => []
def nmL : List AV → List Nat
  | [] => []
  | v :: r => nmA v ++ nmL r
end

mutual
/-- No name, and all is known. -/
def grA : AV → Bool
  | .agg cs => grL cs
  | .tup vs => grL vs
  | .sl .. | .pt .. | .mp _ | .any => false
  | .fn f first cap => (match f with | .yield _ => false | _ => true) && (grL first && grL cap)
  | .ifc _ v => grA v
  | _ => true
def grL : List AV → Bool
  | [] => true
  | v :: r => grA v && grL r
end

mutual
/-- No name at all, and all is known. -/
def gdA : AV → Bool
  | .agg cs => gdL cs
  | .tup vs => gdL vs
  | .fs rows => gdR rows
  | .fp rows _ _ => gdR rows
  | .sl .. | .pt .. | .mp _ | .any => false
  | .fn f first cap => (match f with | .yield _ => false | _ => true) && (gdL first && gdL cap)
  | .ifc _ v => gdA v
  | _ => true
def gdL : List AV → Bool
  | [] => true
  | v :: r => gdA v && gdL r
def gdR : List (List AV) → Bool
  | [] => true
  | v :: r => gdL v && gdR r
end

mutual
/-- Other names. -/
def rnA (s : Nat → Option Nat) : AV → AV
  | .agg cs => .agg (rnL s cs)
  | .tup vs => .tup (rnL s vs)
  | .sl b o z n => match s b with
    | some c => .sl c o z n
    | none => .any
  | .pt b o => match s b with
    | some c => .pt c o
    | none => .any
  | .mp b => match s b with
    | some c => .mp c
    | none => .any
  | .fn f first cap => match f with
    | .yield l => match s l with
      | some c => .fn (.yield c) (rnL s first) (rnL s cap)
      | none => .any
    | f => .fn f (rnL s first) (rnL s cap)
  | .ifc t v => .ifc t (rnA s v)
  | v => v
def rnL (s : Nat → Option Nat) : List AV → List AV
  | [] => []
  | v :: r => rnA s v :: rnL s r
end

mutual
/-- The slices in a value (not those that a function holds). -/
def slN : AV → List Nat
  | .agg cs => slL cs
  | .tup vs => slL vs
  | .sl b _ _ _ => [b]
  | .ifc _ v => slN v
  | _ => []
def slL : List AV → List Nat
  | [] => []
  | v :: r => slN v ++ slL r
end

def chunks (cs : List AV) (off s : Nat) : Nat → List (List AV)
  | 0 => []
  | n + 1 => (cs.drop off).take s :: chunks cs (off + s) s n

mutual
/-- A value, where a block is frozen. -/
def fzA (b : Nat) (cs : List AV) : AV → AV
  | .agg vs => .agg (fzL b cs vs)
  | .tup vs => .tup (fzL b cs vs)
  | .sl c o s n => if c = b ∧ o + n * s ≤ cs.length then .fs (chunks cs o s n) else .sl c o s n
  | .fn f first cap => match f with
    | .yield l => .fn (.yield l) first cap
    | f => .fn f (fzL b cs first) (fzL b cs cap)
  | v => v
def fzL (b : Nat) (cs : List AV) : List AV → List AV
  | [] => []
  | v :: r => fzA b cs v :: fzL b cs r
end

mutual
/-- A slice that is none may be taken for one without elements. -/
def nzA : AV → AV
  | .agg vs => .agg (nzL vs)
  | .tup vs => .tup (nzL vs)
  | .nilsl => .fs []
  | v => v
def nzL : List AV → List AV
  | [] => []
  | v :: r => nzA v :: nzL r
end

mutual
/-- The same, and all of it is known. -/
def sameA : AV → AV → Bool
  | .int k n, .int k' n' => decide (k = k') && decide (n = n')
  | .bool a, .bool b => a == b
  | .str s, .str t => s.data.toList == t.data.toList
  | .agg xs, .agg ys => sameL xs ys
  | .tup xs, .tup ys => sameL xs ys
  | .sl b o s n, .sl b' o' s' n' => decide (b = b') && (decide (o = o') && (decide (s = s') && decide (n = n')))
  | .pt b o, .pt b' o' => decide (b = b') && decide (o = o')
  | .mp b, .mp b' => decide (b = b')
  | .nilsl, .nilsl => true
  | .nilpt, .nilpt => true
  | .nilmap, .nilmap => true
  | .nilfn, .nilfn => true
  | .nilifc, .nilifc => true
  | .fn f xs us, .fn g ys vs => decide (f = g) && (sameL xs ys && sameL us vs)
  | _, _ => false
def sameL : List AV → List AV → Bool
  | [], [] => true
  | x :: xs, y :: ys => sameA x y && sameL xs ys
  | _, _ => false
end
def sameO : Option XB → Option XB → Bool
  | some (.blk _ (.cells w xs)), some (.blk _ (.cells w' ys)) => w == w' && sameL xs ys
  | _, _ => false

def nmB : XB → List Nat
  | .blk false (.cells _ cs) => nmL cs
  | .blk false (.map _ es) => es.flatMap fun p => nmA p.1 ++ nmA p.2
  | .loop _ _ vs _ => nmL vs
  | _ => []
def nmO : Option XB → List Nat
  | some x => nmB x
  | none => []
def rnB (s : Nat → Option Nat) : XB → XB
  | .blk false (.cells w cs) => .blk false (.cells w (rnL s cs))
  | .blk false (.map w es) => .blk false (.map w (es.map fun p => (rnA s p.1, rnA s p.2)))
  | .loop K site vs st => .loop K site (rnL s vs) st
  | x => x
def rnO (s : Nat → Option Nat) : Option XB → Option XB
  | some x => some (rnB s x)
  | none => none
def fzB (b : Nat) (cs : List AV) : XB → XB
  | .blk false (.cells w vs) => .blk (grL (fzL b cs vs)) (.cells w (fzL b cs vs))
  | .blk false (.map w es) => .blk false (.map w (es.map fun p => (fzA b cs p.1, fzA b cs p.2)))
  | x => x
def fzO (b : Nat) (cs : List AV) : Option XB → Option XB
  | some x => some (fzB b cs x)
  | none => none

def hat (h : XH) (b : Nat) : Option XB := h.getD b none
def hpOf (h : XH) : Hp := fun b => match hat h b with
  | some (.blk _ x) => some x
  | _ => none

/-- The blocks that are reached, each once, in order; those below k are passed by. -/
def reachX (h : XH) (k : Nat) : Nat → List Nat → List Nat → List Nat
  | 0, _, acc => acc
  | _ + 1, [], acc => acc
  | n + 1, b :: r, acc => if b < k ∨ b ∈ acc then reachX h k n r acc else
    match hat h b with
    | none => reachX h k n r acc
    | some x => reachX h k n (nmB x ++ r) (acc ++ [b])
def reachFuel : Nat := 4096

def posOf (b : Nat) : List Nat → Option Nat
  | [] => none
  | c :: r => if b = c then some 0 else (posOf b r).map (· + 1)

def envL : List Nat → List AV → Env
  | k :: ks, v :: vs => fun j => if j = k then v else envL ks vs j
  | _, _ => anyE

/-- What is kept of a heap: the first k blocks, and what is reached. -/
def keepS (k : Nat) (acc : List Nat) : Nat → Option Nat := fun b => if b < k then some b else (posOf b acc).map (· + k)
def padTake : Nat → XH → XH
  | 0, _ => []
  | n + 1, [] => none :: padTake n []
  | n + 1, x :: xs => x :: padTake n xs
def keepH (k : Nat) (acc : List Nat) (h : XH) : XH := (padTake k h).map (rnO (keepS k acc)) ++ acc.map fun b => rnO (keepS k acc) (hat h b)
def keepAcc (k : Nat) (vs : List AV) (h : XH) : List Nat := reachX h k reachFuel (nmL vs ++ (padTake k h).flatMap nmO) []

def canonE (k : Nat) (L : List Nat) (e : Env) (h : XH) : Env := envL L (rnL (keepS k (keepAcc k (L.map e) h)) (L.map e))
def canonH (k : Nat) (L : List Nat) (e : Env) (h : XH) : XH := keepH k (keepAcc k (L.map e) h) h

/-! ### Freezing -/
def fz1 (b : Nat) (e : Env) (h : XH) : Env × XH := match hat h b with
  | some (.blk true (.cells _ cs)) => (fun j => fzA b cs (e j), (h.map (fzO b cs)).set b none)
  | _ => (e, h)
def fzNs : List Nat → Env → XH → Env × XH
  | [], e, h => (e, h)
  | b :: r, e, h => fzNs r (fz1 b e h).1 (fz1 b e h).2
def fzOf (e : Env) (h : XH) : Nat × Bool → List Nat
  | (j, false) => slN (e j)
  | (j, true) => match e j with
    | .pt b _ => match hat h b with
      | some (.blk false (.cells _ cs)) => slL cs
      | _ => []
    | _ => []
def fzX (fz : List (Nat × Bool)) (e : Env) (h : XH) : Env × XH := fzNs (fz.flatMap (fzOf e h)) e h

/-! ### Operations -/
def flagH (h : XH) : AV → Bool
  | .sl b _ _ _ => match hat h b with
    | some (.blk g _) => g
    | _ => false
  | .any => false
  | _ => true
def flagNew (op : DOp) (e : Env) (h : XH) : Bool := match op with
  | .alloc z => grL z
  | .box x => grA (evA e x)
  | .bslice _ _ z ps => grL z && ps.all fun p => grA (evA e p.2.2)
  | .mksl _ _ z _ _ => grL z
  | .mkmap => true
  | .bytes _ => true
  | .app _ _ x y => flagH h (evA e x) && flagH h (evA e y)
  | _ => false

def xNew (h : XH) (own : Option Nat) (g : Bool) (x : ABlk) : XH := (match own with
  | some b => h.set b none
  | none => h) ++ [some (.blk g x)]

def xStore (n : Nat) (h : XH) (p x : AV) : Option XH := match p with
  | .pt b o => match hat h b, cellsOf x with
    | some (.blk g (.cells true cs)), some vs => if vs.length = n ∧ o + n ≤ cs.length then some (h.set b (some (.blk (g && grL vs) (.cells true (splice cs o vs))))) else none
    | _, _ => none
  | _ => none

def xMapup (q : Bool) (h : XH) (m k x : AV) : Option XH := match m with
  | .mp b => match hat h b with
    | some (.blk g (.map true es)) => (putA q k x es).map fun es' => h.set b (some (.blk (g && (grA k && grA x)) (.map true es')))
    | _ => none
  | _ => none

def xCopy (s : Nat) (h : XH) (x y : AV) : Option (Nat × XH) := match x, srcA s (hpOf h) y with
  | .sl b o s' len, some (n, new) => match hat h b with
    | some (.blk g (.cells true cs)) => if s' = s ∧ o + len * s ≤ cs.length then some (min n len, h.set b (some (.blk (g && flagH h y) (.cells true (splice cs o (new.take (min n len * s))))))) else none
    | _ => none
  | _, _ => none

def roX : Option XB → Option XB
  | some (.blk g x) => some (.blk g x.ro)
  | _ => none

abbrev XRun := Nat → List AV → XH → Option (AV × XH)
abbrev YRun := AV → List AV → XH → Option (AV × XH)

/-- The blocks that a call is handed. -/
def passed (xs : List AV) (h : XH) : List Nat := reachX h 0 reachFuel (nmL xs) []
def passedOf (fv : AV) (as : List AV) (h : XH) : List Nat := match fv with
  | .fn (.func _) first cap => passed (first ++ as ++ cap) h
  | v => passed (v :: as) h
def localH (acc : List Nat) (h : XH) : XH := acc.map fun b => rnO (fun b => posOf b acc) (hat h b)
def backS (acc : List Nat) (n : Nat) : Nat → Option Nat := fun i => if i < acc.length then acc[i]? else some (n + (i - acc.length))
def setL (h : XH) : List Nat → XH → XH
  | b :: bs, x :: xs => setL (h.set b x) bs xs
  | _, _ => h
def mergeH (acc : List Nat) (h hl : XH) : XH := setL h acc ((padTake acc.length hl).map (rnO (backS acc h.length))) ++ (hl.drop acc.length).map (rnO (backS acc h.length))
def mergeR (acc : List Nat) (h : XH) (r : AV × XH) : AV × XH := (rnA (backS acc h.length) r.1, mergeH acc h r.2)

def callX (run : XRun) (runY : YRun) (fv : AV) (as : List AV) (h : XH) : Option (AV × XH) := match fv with
  | .fn (.func g) first cap =>
    let all := first ++ as ++ cap
    let acc := passedOf (.fn (.func g) first cap) as h
    (run g (rnL (fun b => posOf b acc) all) (localH acc h)).map (mergeR acc h)
  | .fn (.yield l) [] [] =>
    let acc := passedOf (.fn (.yield l) [] []) as h
    (runY (rnA (fun b => posOf b acc) (.fn (.yield l) [] [])) (rnL (fun b => posOf b acc) as) (localH acc h)).map (mergeR acc h)
  | _ => none

def keptB : XH → XH → Bool
  | x :: xs, y :: ys => (x.isNone || y.isSome) && keptB xs ys
  | [], _ => true
  | _, [] => false

/-- A call that turns nothing. -/
def callQ (run : XRun) (fv : AV) (as : List AV) (h : XH) : Option AV := match fv with
  | .fn (.func g) first cap =>
    let all := first ++ as ++ cap
    let acc := passedOf (.fn (.func g) first cap) as h
    match run g (rnL (fun b => posOf b acc) all) ((localH acc h).map roX) with
    | some (v, hl) => if gdA v && keptB (localH acc h) hl then some v else none
    | none => none
  | _ => none

def xcore (run : XRun) (runY : YRun) (d : Option Nat) (op : DOp) (e : Env) (h : XH) : Option (Env × XH) := match op with
  | .store n p x _ => (xStore n h (evA e p) (evA e x)).map fun h' => (updo e d .any, h')
  | .copy s x y => (xCopy s h (evA e x) (evA e y)).map fun r => (updo e d (.int .i64 (r.1 : Int)), r.2)
  | .mapup q m k x => (xMapup q h (evA e m) (evA e k) (evA e x)).map fun h' => (updo e d .any, h')
  | .callf true f xs _ => (callQ run (evA e f) (xs.map (evA e)) h).map fun v => (updo e d v, h)
  | .callf false f xs _ => (callX run runY (evA e f) (xs.map (evA e)) h).map fun r => (updo e d r.1, r.2)
  | op => match evalQ op e (hpOf h) with
    | some (.val v) => some (updo e d v, h)
    | some (.new own x f) => some (updo e d (f h.length), xNew h own (flagNew op e h) x)
    | none => none

def xops (run : XRun) (runY : YRun) : List DOper → Env → XH → Option (Env × XH)
  | [], e, h => some (e, h)
  | o :: r, e, h => match gd o e with
    | some true => (xcore run runY o.dst o.op e h).bind fun s => xops run runY r s.1 s.2
    | some false => xops run runY r (updo e o.dst (.tup [])) h
    | none => none

/-- The log of a region that draws its order: which operation looked at which block. -/
def logX (ix : Nat) (op : DOp) (e : Env) (L : List (Nat × Nat)) : List (Nat × Nat) := match op with
  | .load _ _ x => match blkA (evA e x) with
    | some b => (ix, b) :: L
    | none => L
  | _ => L
def logOk (op : DOp) (e : Env) (h : XH) (L : List (Nat × Nat)) : Bool := match op with
  | .store _ p _ l => L.all fun q => !l.contains q.1 || blkA (evA e p) != some q.2
  | .app _ _ x _ => L.all fun q => blkA (evA e x) != some q.2
  | _ => true
/-- Behind a call: the blocks that were looked at lie as they lay. -/
def logPost (op : DOp) (e : Env) (h h' : XH) (L : List (Nat × Nat)) : Bool := match op with
  | .callf false f xs l => L.all fun q => (hat h' q.2).isSome && (!l.contains q.1 || (!(passedOf (evA e f) (xs.map (evA e)) h).contains q.2 || sameO (hat h q.2) (hat h' q.2)))
  | _ => true
def xopsD (run : XRun) (runY : YRun) : List DOper → Env → XH → List (Nat × Nat) → Option (Env × XH)
  | [], e, h, _ => some (e, h)
  | o :: r, e, h, L => match gd o e with
    | some true => if logOk o.op e h L then (xcore run runY o.dst o.op e h).bind fun s => if logPost o.op e h s.2 L then xopsD run runY r s.1 s.2 (logX o.ix o.op e L) else none else none
    | some false => xopsD run runY r (updo e o.dst (.tup [])) h L
    | none => none

/-! ### Codes -/
def loopX (step : Env → XH → Option (DX × Env × XH)) (k : Nat) (L : List Nat) : Nat → Env → XH → Option (DX × Env × XH)
  | 0, _, _ => none
  | n + 1, e, h => match step (canonE k L e h) (canonH k L e h) with
    | some (.normal, e', h') => loopX step k L n e' h'
    | r => r

def loopSt (h : XH) (l : Nat) : Option LSt := match hat h l with
  | some (.loop _ _ _ s) => some s
  | _ => none
def loopTo (h : XH) (l : Nat) (s : LSt) : XH := match hat h l with
  | some (.loop K site vs _) => h.set l (some (.loop K site vs s))
  | _ => h
def isFunc : AV → Bool
  | .fn (.func _) _ _ => true
  | _ => false
def inLoop (rd : Option Nat) (h : XH) : Bool := match rd with
  | none => true
  | some l => match loopSt h l with
    | some .busy => true
    | _ => false

def execX (run : XRun) (runY : YRun) (K k n : Nat) (rd : Option Nat) : XCode → Env → XH → Option (DX × Env × XH)
  | .skip, e, h => some (.normal, e, h)
  | .reg fz draw ops, e, h => (if draw then xopsD run runY ops (fzX fz e h).1 (fzX fz e h).2 [] else xops run runY ops (fzX fz e h).1 (fzX fz e h).2).map fun r => (.normal, r.1, r.2)
  | .seq a b, e, h => match execX run runY K k n rd a e h with
    | some (.normal, e', h') => execX run runY K k n rd b e' h'
    | r => r
  | .cond c a b, e, h => match evA e c with
    | .bool true => execX run runY K k n rd a e h
    | .bool false => execX run runY K k n rd b e h
    | _ => none
  | .block id a, e, h => match execX run runY K k n rd a e h with
    | some (.exit j, e', h') => if j = id then some (.normal, e', h') else some (.exit j, e', h')
    | r => r
  | .loop L a, e, h => loopX (execX run runY K k n rd a) k L n e h
  | .scope a, e, h => execX run runY K k n rd a e h
  | .rng site L f _ _ _, e, h => if inLoop rd h && isFunc (evA e f) then
    match callX run runY (evA e f) [.fn (.yield h.length) [] []] (h ++ [some (.loop K site (L.map e) .ready)]) with
    | some (_, h') => match loopSt h' h.length with
      | some .ready => some (.normal, e, h'.set h.length none)
      | some (.done x) => some (x, e, h'.set h.length none)
      | _ => none
    | none => none
    else none
  | .exit id, e, h => some (.exit id, e, h)
  | .ret, e, h => some (.ret, e, h)

/-- A loop over a function: its place in the text. -/
def siteX : XCode → Nat → Option (List Nat × List Nat × XCode × XCode)
  | .seq a b, s | .cond _ a b, s => match siteX a s with
    | some r => some r
    | none => siteX b s
  | .block _ a, s | .loop _ a, s | .scope a, s => siteX a s
  | .rng s' L _ ps a b, s => if s' = s then some (L, ps, a, b) else match siteX a s with
    | some r => some r
    | none => siteX b s
  | _, _ => none

/-- A function's results, as they are handed out. -/
def finX (own : Bool) (k : Nat) (v : AV) (h : XH) : AV × XH :=
  let p := if own then (upd anyE 0 v, h) else fzNs (slN v) (upd anyE 0 v) h
  let u := if own then p.1 0 else nzA (p.1 0)
  let acc := keepAcc k [u] p.2
  (rnA (keepS k acc) u, keepH k acc p.2)

mutual
def runX (D : Nat → Option XFn) : Nat → Nat → List AV → XH → Option (AV × XH)
  | 0, _, _, _ => none
  | n + 1, K, as, h => match D K with
    | none => none
    | some d => if as.length ≤ d.N then match execX (runX D n) (runYX D n) K h.length n none d.body (argEnv (if d.ownA then as else nzL as)) h with
      | some (.exit _, _, _) => none
      | some (_, e, h') => (resA d.res e (hpOf h')).map fun v => finX d.ownR h.length v h'
      | none => none
      else none
def runYX (D : Nat → Option XFn) : Nat → AV → List AV → XH → Option (AV × XH)
  | 0, _, _, _ => none
  | n + 1, fv, as, h => match fv with
    | .fn (.yield l) [] [] => match hat h l with
      | some (.loop K site vs .ready) => match (D K).bind fun d => siteX d.body site with
        | none => none
        | some (L, ps, a, b) => if as.length = ps.length then match execX (runX D n) (runYX D n) K h.length n (some l) a (putL (envL L vs) ps as) h with
          | some (.normal, e1, h1) => match loopSt h1 l with
            | some .ready => match execX (runX D n) (runYX D n) K h.length n (some l) b e1 (loopTo h1 l .busy) with
              | some (x, _, h2) => match loopSt h2 l with
                | some .busy => some (match x with
                  | .normal => finX true h.length (.bool true) (loopTo h2 l .ready)
                  | x => finX true h.length (.bool false) (loopTo h2 l (.done x)))
                | _ => none
              | none => none
            | _ => none
          | _ => none
          else none
      | _ => none
    | _ => none
end

end Go.DL
