/- Parts of a proof, joined: XF XG DlX. No statement of the seed is proved here. -/
import Derived.RecoverIn
import Derived.Test.YtmapgnepfgnphaaGreatDoorH3
set_option linter.unusedSimpArgs false
set_option linter.unusedVariables false
set_option linter.unusedSectionVars false
namespace Go.DL
section
variable {run:bZ} {runY:cO} {d:Option Nat} {e:aF} {h:XH} {ix:Nat} {r:List DOper} {D:Nat→Option XFn} {K k:Nat} {rd:Option Nat} {m:Option (List (Nat×Nat))} {op:DOp} {v:AV}

theorem Za {j:Nat}:upd e k v j=if j=k then v else e j:=rfl
theorem Zb:aN e (some k) v=upd e k v:=rfl
theorem Zc:aN e none v=e:=rfl
theorem Zd {α β:Type} {a:α} {b:β}:(a,b).fst=a:=rfl
theorem Ze {α β:Type} {a:α} {b:β}:(a,b).snd=b:=rfl

def aGo (r:Option (aF×XH)):Option (DX×aF×XH):=r.map fun r=>(.normal,r.1,r.2)
theorem Zf:aGo (some (e,h))=some (.normal,e,h):=rfl
def xo (m:Option (List (Nat×Nat))) (run:bZ) (runY:cO) (ops:List DOper) (e:aF) (h:XH):Option (aF×XH):=match m with
 | none=>dS run runY ops e h
 | some L=>dF run runY ops e h L
def aJs (m:Option (List (Nat×Nat))) (run:bZ) (runY:cO) (ops:List DOper) (p:aF×XH):Option (DX×aF×XH):=aGo (xo m run runY ops p.1 p.2)
theorem Zg {ops:List DOper}:aJs m run runY ops (e,h)=aGo (xo m run runY ops e h):=rfl
theorem Zh {ops:List DOper}:execW D K k rd (.reg [] false ops) e h=aGo (xo none (runW D) (runYW D) ops e h):=vP
theorem Zi {ops:List DOper}:execW D K k rd (.reg [] true ops) e h=aGo (xo (some []) (runW D) (runYW D) ops e h):=vQ
theorem Zj {a:Nat×Bool} {fz:List (Nat×Bool)} {ops:List DOper}:execW D K k rd (.reg (a::fz) false ops) e h=aJs none (runW D) (runYW D) ops (fzX (a::fz) e h):=vP
theorem Zk {a:Nat×Bool} {fz:List (Nat×Bool)} {ops:List DOper}:execW D K k rd (.reg (a::fz) true ops) e h=aJs (some []) (runW D) (runYW D) ops (fzX (a::fz) e h):=vQ
theorem Zl:xo m run runY [] e h=some (e,h):=by cases m<;>rfl

def kV (m:Option (List (Nat×Nat))) (run:bZ) (runY:cO) (r:List DOper) (d:Option Nat) (e:aF) (h:XH):Option AV→Option (aF×XH)
 | some v=>xo m run runY r (aN e d v) h
 | none=>none
theorem Zm:kV m run runY r d e h (some v)=xo m run runY r (aN e d v) h:=rfl
def kE (m:Option (List (Nat×Nat))) (run:bZ) (runY:cO) (r:List DOper) (d:Option Nat) (e:aF) (h:XH) (g:Bool):Option Eff→Option (aF×XH)
 | some (.val v)=>xo m run runY r (aN e d v) h
 | some (.new own x f)=>xo m run runY r (aN e d (f h.length)) (nV h own g x)
 | none=>none
theorem Zn {g:Bool}:kE m run runY r d e h g (some (.val v))=xo m run runY r (aN e d v) h:=rfl
theorem Zo {g:Bool} {own:Option Nat} {x:ABlk} {f:Nat→AV}:kE m run runY r d e h g (some (.new own x f))=xo m run runY r (aN e d (f h.length)) (nV h own g x):=rfl
theorem aIG {g:Bool} {q:Option Eff}:(match q with
 | some (.val v)=>some (aN e d v,h)
 | some (.new own x f)=>some (aN e d (f h.length),nV h own g x)
 | none=>none).bind (fun s=>xo m run runY r s.1 s.2)=kE m run runY r d e h g q:=by cases q with
 | none=>rfl
 | some q=>cases q<;>rfl
theorem wK (h1:bQ run runY d op e h=match aD op e (cF h)with
 | some (.val v)=>some (aN e d v,h)
 | some (.new own x f)=>some (aN e d (f h.length),nV h own (eO op e h) x)
 | none=>none) (h2:∀ L,aEi ix op e L=L) (h3:∀ L,oF op e h L=true) (h4:∀ L h',sV op e h h' L=true) :
 xo m run runY (⟨ix,d,op,none⟩::r) e h=kE m run runY r d e h (eO op e h) (aD op e (cF h)):=by
 rw[←aIG]
 cases m with
 | none=>simp only[xo,dS,gd,h1]
 | some L=>simp only[xo,dF,gd,h1,h2,h3,h4,if_true]

def oI (q:Option AV):Option Eff:=q.map .val
theorem pC {q:Option AV} (h1:bQ run runY d op e h=match aD op e (cF h)with
 | some (.val v)=>some (aN e d v,h)
 | some (.new own x f)=>some (aN e d (f h.length),nV h own (eO op e h) x)
 | none=>none) (h5:aD op e (cF h)=oI q) (h2:∀ L,aEi ix op e L=L) (h3:∀ L,oF op e h L=true) (h4:∀ L h',sV op e h h' L=true) :
 xo m run runY (⟨ix,d,op,none⟩::r) e h=kV m run runY r d e h q:=by
 rw[wK h1 h2 h3 h4,h5]
 cases q<;>rfl
def aCX (c a b:AV):Option AV:=match c with
 | .bool t=>some (if t then a else b)
 | _=>none
def aOA (neg:Bool) (x y:AV):Option AV:=match x,y with
 | .bool a,.bool b=>some (.bool (if neg then a != b else a==b))
 | _,_=>none
def aJC (x:AV):Option AV:=match x with
 | .bool b=>some (.bool !b)
 | _=>none
def aNl (x:AV):Option AV:=match x with
 | .int k n=>some (.int k (k.wrap (0-n)))
 | _=>none
def aGu (k:IntKind) (x:AV):Option AV:=match x with
 | .int _ n=>some (.int k (k.wrap n))
 | _=>none
def aJY (off:Nat) (x:AV):Option AV:=match x with
 | .pt b o=>some (.pt b (o+off))
 | .fp r i o=>some (.fp r i (o+off))
 | _=>none
def aFV (q:Bool) (x:AV):Option AV:=match q,x with
 | true,.str s=>some (.int .i64 (s.size:Int))
 | false,.fs rows=>some (.int .i64 (rows.length:Int))
 | false,.sl _ _ _ n=>some (.int .i64 (n:Int))
 | false,.nilsl=>some (.int .i64 0)
 | _,_=>none
def aGe (s:Nat) (x i:AV):Option AV:=match x,i with
    | .sl b o s' len,.int _ n=>if s'=s∧0≤n∧n<(len:Int) then some (.pt b (o+n.toNat*s)) else none
    | .fs rows,.int _ n=>if 0≤n∧n<(rows.length:Int)∧(rows.getD n.toNat []).length=s then some (.fp rows n.toNat 0) else none
    | _,_=>none
def aJO (s:Nat) (rows:List (List AV)) (j:Nat):Option (List AV)→Option AV
 | some r=>if r.length=s then some (.fp rows j 0) else none
 | none=>none
def aKe (x:AV) (i:Nat):Option AV:=match x with
 | .tup vs=>vs[i]?
 | _=>none

def aGd (len s:Nat) (x i:AV):Option AV:=match x,i with
    | .pt b o,.int _ n=>if 0≤n∧n<(len:Int) then some (.pt b (o+n.toNat*s)) else none
    | .fp r j o,.int _ n=>if 0≤n∧n<(len:Int) then some (.fp r j (o+n.toNat*s)) else none
    | _,_=>none
def aDv (neg:Bool) (ks:List Nat) (x y:AV):Option AV:=match x,y with
    | .agg cs,.agg ds=>(bW ks cs ds).map fun b=>.bool (if neg then !b else b)
    | _,_=>none
def aHR (neg:Bool) (x:Option Bool):Option AV:=match x with
    | some b=>some (.bool (if neg then !b else b))
    | none=>none
def aGc (agg:Bool) (len s:Nat) (x i:AV):Option AV:=match x,i with
    | .agg cs,.int _ n=>if 0≤n∧n<(len:Int) then eE agg s cs (n.toNat*s) else none
    | _,_=>none
def aBZ (x:AV):Option AV:=match x with
    | .pt b o=>some (.pt b o)
    | .bp b=>some (.pt b 0)
    | .fp r i o=>some (.fp r i o)
    | .ifc t v=>some (.ifc t v)
    | _=>none
def kG (m:Option (List (Nat×Nat))) (run:bZ) (runY:cO) (o:DOper) (r:List DOper) (e:aF) (h:XH) (b:Bool):AV→Option (aF×XH)
 | .bool t=>if t==b then xo m run runY (o::r) e h else xo m run runY r (aN e o.dst (.tup [])) h
 | .tup _=>xo m run runY r (aN e o.dst (.tup [])) h
 | _=>none
theorem Zp {s:Nat} {b:Bool}:xo m run runY (⟨ix,d,op,some (s,b)⟩::r) e h=kG m run runY ⟨ix,d,op,none⟩ r e h b (e s):=by
 cases m with
 | none =>
   simp only[xo,dS,gd]
   cases e s with
   | bool t=>cases ht:t==b<;>simp[kG,xo,dS,gd,ht]
   | _=>rfl
 | some L =>
   simp only[xo,dF,gd]
   cases e s with
   | bool t=>cases ht:t==b<;>simp[kG,xo,dF,gd,ht]
   | _=>rfl
theorem Zq {o:DOper}:kG m run runY o r e h true (.bool true)=xo m run runY (o::r) e h:=rfl
theorem Zr {o:DOper}:kG m run runY o r e h false (.bool false)=xo m run runY (o::r) e h:=rfl
theorem Zs {q:DOp}:kG m run runY ⟨ix,d,q,none⟩ r e h true (.bool false)=xo m run runY r (aN e d (.tup [])) h:=rfl
theorem Zt {q:DOp}:kG m run runY ⟨ix,d,q,none⟩ r e h false (.bool true)=xo m run runY r (aN e d (.tup [])) h:=rfl
theorem Zu {a:AO}:xo m run runY (⟨ix,d,.mv a,none⟩::r) e h=xo m run runY r (aN e d (aJ e a)) h:=(wK rfl (fun _=>rfl) (fun _=>rfl) fun _ _=>rfl).trans rfl
theorem Zv {z:List AV}:xo m run runY (⟨ix,d,.alloc z,none⟩::r) e h=xo m run runY r (aN e d (.pt h.length 0)) (h++[some (.blk (gZ z) (.cells true z))]):=(wK rfl (fun _=>rfl) (fun _=>rfl) fun _ _=>rfl).trans rfl
theorem T8:xo m run runY (⟨ix,d,.allocb,none⟩::r) e h=xo m run runY r (aN e d (.bp h.length)) (h++[some (.blk true (.cells true [.nilpt,.nilsl]))]):=(wK rfl (fun _=>rfl) (fun _=>rfl) fun _ _=>rfl).trans rfl
theorem Zw {p1:_} {p2:_} {p3:_}:xo m run runY (⟨ix,d,(DOp.pick p1 p2 p3),none⟩::r) e h=kV m run runY r d e h (aCX (aJ e p1) (aJ e p2) (aJ e p3)):=pC rfl (by simp only[aD,oI,aCX];cases aJ e p1<;>rfl) (fun _=>rfl) (fun _=>rfl) fun _ _=>rfl
theorem Zx {p1:_}:xo m run runY (⟨ix,d,(DOp.box p1),none⟩::r) e h=kE m run runY r d e h (fR (aJ e p1)) (aD (DOp.box p1) e (cF h)):=wK rfl (fun _=>rfl) (fun _=>rfl) fun _ _=>rfl
theorem Zy {p1:_} {p2:_} {p3:_} {p4:_}:xo m run runY (⟨ix,d,(DOp.bslice p1 p2 p3 p4),none⟩::r) e h=kE m run runY r d e h (gZ p3&&p4.all fun p=>fR (aJ e p.2.2)) (aD (DOp.bslice p1 p2 p3 p4) e (cF h)):=wK rfl (fun _=>rfl) (fun _=>rfl) fun _ _=>rfl
theorem Zz {p1:_}:xo m run runY (⟨ix,d,(DOp.nilck p1),none⟩::r) e h=kV m run runY r d e h (aBZ (aJ e p1)):=pC rfl (by simp only[aD,oI,aBZ];cases aJ e p1<;>rfl) (fun _=>rfl) (fun _=>rfl) fun _ _=>rfl
theorem Z0 {p1:_} {p2:_} {p3:_}:xo m run runY (⟨ix,d,(DOp.bin p1 p2 p3),none⟩::r) e h=kV m run runY r d e h (wF p1 (aJ e p2) (aJ e p3)):=pC rfl (by simp only[aD,oI];cases wF p1 (aJ e p2) (aJ e p3)<;>rfl) (fun _=>rfl) (fun _=>rfl) fun _ _=>rfl
theorem Z7 {p1:_} {p2:_} {p3:_} {p4:_}:xo m run runY (⟨ix,d,(DOp.eqag p1 p2 p3 p4),none⟩::r) e h=kV m run runY r d e h (aDv p1 p2 (aJ e p3) (aJ e p4)):=pC rfl (by simp only[aD,oI,aDv];cases aJ e p3<;>cases aJ e p4<;>first|rfl|(simp only[];split<;>simp_all)) (fun _=>rfl) (fun _=>rfl) fun _ _=>rfl
theorem Z8 {p1:_}:xo m run runY (⟨ix,d,(DOp.not p1),none⟩::r) e h=kV m run runY r d e h (aJC (aJ e p1)):=pC rfl (by simp only[aD,oI,aJC];cases aJ e p1<;>rfl) (fun _=>rfl) (fun _=>rfl) fun _ _=>rfl
theorem Z9 {p1:_}:xo m run runY (⟨ix,d,(DOp.neg p1),none⟩::r) e h=kV m run runY r d e h (aNl (aJ e p1)):=pC rfl (by simp only[aD,oI,aNl];cases aJ e p1<;>rfl) (fun _=>rfl) (fun _=>rfl) fun _ _=>rfl
theorem ZA {p1:_} {p2:_}:xo m run runY (⟨ix,d,(DOp.conv p1 p2),none⟩::r) e h=kV m run runY r d e h (aGu p1 (aJ e p2)):=pC rfl (by simp only[aD,oI,aGu];cases aJ e p2<;>rfl) (fun _=>rfl) (fun _=>rfl) fun _ _=>rfl
theorem ZB {p1:_} {p2:_}:xo m run runY (⟨ix,d,(DOp.fld p1 p2),none⟩::r) e h=kV m run runY r d e h (aJY p1 (aJ e p2)):=pC rfl (by simp only[aD,oI,aJY];cases aJ e p2<;>rfl) (fun _=>rfl) (fun _=>rfl) fun _ _=>rfl
theorem ZC {p1:_} {p2:_} {p3:_} {p4:_}:xo m run runY (⟨ix,d,(DOp.idxa p1 p2 p3 p4),none⟩::r) e h=kV m run runY r d e h (aGd p1 p2 (aJ e p3) (aJ e p4)):=pC rfl (by simp only[aD,oI,aGd];cases aJ e p3<;>cases aJ e p4<;>first|rfl|(simp only[];split<;>rfl)) (fun _=>rfl) (fun _=>rfl) fun _ _=>rfl
theorem ZD {p1:_} {p2:_} {p3:_}:xo m run runY (⟨ix,d,(DOp.idx p1 p2 p3),none⟩::r) e h=kV m run runY r d e h (aGe p1 (aJ e p2) (aJ e p3)):=pC rfl (by simp only[aD,oI,aGe];cases aJ e p2<;>cases aJ e p3<;>first|rfl|(simp only[];split<;>rfl)) (fun _=>rfl) (fun _=>rfl) fun _ _=>rfl
theorem ZE {p1:_} {p2:_} {p3:_} {p4:_} {p5:_}:xo m run runY (⟨ix,d,(DOp.idxv p1 p2 p3 p4 p5),none⟩::r) e h=kV m run runY r d e h (aGc p1 p2 p3 (aJ e p4) (aJ e p5)):=pC rfl (by simp only[aD,oI,aGc];cases aJ e p4<;>cases aJ e p5<;>first|rfl|(simp only[];split<;>first|rfl|(split<;>simp_all))) (fun _=>rfl) (fun _=>rfl) fun _ _=>rfl
theorem ZF {p1:_} {p2:_} {p3:_} {p4:_} {p5:_}:xo m run runY (⟨ix,d,(DOp.slarr p1 p2 p3 p4 p5),none⟩::r) e h=kE m run runY r d e h false (aD (DOp.slarr p1 p2 p3 p4 p5) e (cF h)):=wK rfl (fun _=>rfl) (fun _=>rfl) fun _ _=>rfl
theorem ZG {p1:_} {p2:_} {p3:_} {p4:_}:xo m run runY (⟨ix,d,(DOp.slsl p1 p2 p3 p4),none⟩::r) e h=kE m run runY r d e h false (aD (DOp.slsl p1 p2 p3 p4) e (cF h)):=wK rfl (fun _=>rfl) (fun _=>rfl) fun _ _=>rfl
theorem ZH {p1:_} {p2:_} {p3:_}:xo m run runY (⟨ix,d,(DOp.slstr p1 p2 p3),none⟩::r) e h=kE m run runY r d e h false (aD (DOp.slstr p1 p2 p3) e (cF h)):=wK rfl (fun _=>rfl) (fun _=>rfl) fun _ _=>rfl
theorem ZI {p1:_} {p2:_}:xo m run runY (⟨ix,d,(DOp.ext p1 p2),none⟩::r) e h=kV m run runY r d e h (aKe (aJ e p1) p2):=pC rfl (by simp only[aD,oI,aKe];cases aJ e p1<;>first|rfl|(simp only[];split<;>simp_all)) (fun _=>rfl) (fun _=>rfl) fun _ _=>rfl
theorem ZJ {p1:_} {p2:_}:xo m run runY (⟨ix,d,(DOp.len p1 p2),none⟩::r) e h=kV m run runY r d e h (aFV p1 (aJ e p2)):=pC rfl (by simp only[aD,oI,aFV];cases p1<;>cases aJ e p2<;>rfl) (fun _=>rfl) (fun _=>rfl) fun _ _=>rfl
theorem ZK {p1:_}:xo m run runY (⟨ix,d,(DOp.bytes p1),none⟩::r) e h=kE m run runY r d e h true (aD (DOp.bytes p1) e (cF h)):=wK rfl (fun _=>rfl) (fun _=>rfl) fun _ _=>rfl
theorem ZL {a:Bool} {n:Nat} {x:AO}:xo none run runY (⟨ix,d,.load a n x,none⟩::r) e h=kV none run runY r d e h (dA a n (cF h) (aJ e x)):=by
 show dS run runY _ e h=_
 simp only[dS,gd,bQ,aD]
 cases dA a n (cF h) (aJ e x)<;>rfl
def aJI (ix:Nat) (v:AV) (L:List (Nat×Nat)):List (Nat×Nat):=match dO v with
 | some b=>(ix,b)::L
 | none=>L
theorem ZM {b o:Nat} {L:List (Nat×Nat)}:aJI ix (.pt b o) L=(ix,b)::L:=rfl
theorem ZN {rows:List (List AV)} {i o:Nat} {L:List (Nat×Nat)}:aJI ix (.fp rows i o) L=L:=rfl
theorem ZO {a:Bool} {n:Nat} {x:AO} {L:List (Nat×Nat)}:xo (some L) run runY (⟨ix,d,.load a n x,none⟩::r) e h=kV (some (aJI ix (aJ e x) L)) run runY r d e h (dA a n (cF h) (aJ e x)):=by
 show dF run runY _ e h L=_
 simp only[dF,gd,bQ,aD,oF,if_true]
 cases dA a n (cF h) (aJ e x)<;>rfl

def kH (m:Option (List (Nat×Nat))) (run:bZ) (runY:cO) (r:List DOper) (d:Option Nat) (e:aF) (v:AV):Option XH→Option (aF×XH)
 | some h=>xo m run runY r (aN e d v) h
 | none=>none
theorem ZP:kH m run runY r d e v (some h)=xo m run runY r (aN e d v) h:=rfl
theorem ZQ {n:Nat} {p x:AO} {l:List Nat}:xo none run runY (⟨ix,d,.store n p x l,none⟩::r) e h=kH none run runY r d e .any (iM n h (aJ e p) (aJ e x)):=by
 show dS run runY _ e h=_
 simp only[dS,gd,bQ]
 cases iM n h (aJ e p) (aJ e x)<;>rfl
def vF {α:Type} (b:Bool) (x:Option α):Option α:=if b then x else none
theorem ZR {α:Type} {x:Option α}:vF true x=x:=rfl
theorem ZS {n:Nat} {p x:AO} {l:List Nat} {L:List (Nat×Nat)}:xo (some L) run runY (⟨ix,d,.store n p x l,none⟩::r) e h=vF (L.all fun q => !l.contains q.1||dO (aJ e p) != some q.2) (kH (some L) run runY r d e .any (iM n h (aJ e p) (aJ e x))):=by
 show dF run runY _ e h L=_
 simp only[dF,gd,bQ,oF,vF]
 cases iM n h (aJ e p) (aJ e x)<;>rfl
def kR (m:Option (List (Nat×Nat))) (run:bZ) (runY:cO) (r:List DOper) (d:Option Nat) (e:aF):Option (AV×XH)→Option (aF×XH)
 | some (v,h)=>xo m run runY r (aN e d v) h
 | none=>none
theorem ZT:kR m run runY r d e (some (v,h))=xo m run runY r (aN e d v) h:=rfl
def zF (s:Nat) (h:XH) (x y:AV):Option (AV×XH):=(tF s h x y).map fun r=>(.int .i64 (r.1:Int),r.2)
theorem ZU {s:Nat} {x y:AO}:xo none run runY (⟨ix,d,.copy s x y,none⟩::r) e h=kR none run runY r d e (zF s h (aJ e x) (aJ e y)):=by
 show dS run runY _ e h=_
 simp only[dS,gd,bQ,zF]
 cases tF s h (aJ e x) (aJ e y)<;>rfl
theorem ZV {f:AO} {xs:List AO} {l:List Nat}:xo none run runY (⟨ix,d,.callf false f xs l,none⟩::r) e h=kR none run runY r d e (fY run runY (aJ e f) (xs.map (aJ e)) h):=by
 show dS run runY _ e h=_
 simp only[dS,gd,bQ]
 cases fY run runY (aJ e f) (xs.map (aJ e)) h<;>rfl
def kRL (L:List (Nat×Nat)) (l:List Nat) (run:bZ) (runY:cO) (r:List DOper) (d:Option Nat) (e:aF) (h:XH) (ps:List Nat):Option (AV×XH)→Option (aF×XH)
 | some (v,h')=>vF (L.all fun q=>(bC h' q.2).isSome&&(!l.contains q.1||(!ps.contains q.2||aAC (bC h q.2) (bC h' q.2)))) (xo (some L) run runY r (aN e d v) h')
 | none=>none
theorem ZW {f:AO} {xs:List AO} {l:List Nat} {L:List (Nat×Nat)}:xo (some L) run runY (⟨ix,d,.callf false f xs l,none⟩::r) e h=kRL L l run runY r d e h (bU (aJ e f) (xs.map (aJ e)) h) (fY run runY (aJ e f) (xs.map (aJ e)) h):=by
 show dF run runY _ e h L=_
 simp only[dF,gd,bQ,oF,if_true]
 cases fY run runY (aJ e f) (xs.map (aJ e)) h<;>rfl
theorem ZX {L:List (Nat×Nat)} {l:List Nat} {h':XH} {ps:List Nat}:kRL L l run runY r d e h ps (some (v,h'))=vF (L.all fun q=>(bC h' q.2).isSome&&(!l.contains q.1||(!ps.contains q.2||aAC (bC h q.2) (bC h' q.2)))) (xo (some L) run runY r (aN e d v) h'):=rfl
theorem ZY {f:AO} {xs:List AO} {l:List Nat}:xo m run runY (⟨ix,d,.callf true f xs l,none⟩::r) e h=kV m run runY r d e h (hG run (aJ e f) (xs.map (aJ e)) h):=by
 cases m with
 | none =>
   show dS run runY _ e h=_
   simp only[dS,gd,bQ]
   cases hG run (aJ e f) (xs.map (aJ e)) h<;>rfl
 | some L =>
   show dF run runY _ e h L=_
   simp only[dF,gd,bQ,oF,if_true]
   cases hG run (aJ e f) (xs.map (aJ e)) h<;>rfl
theorem ZZ {s b:Nat} {x y:AO}:xo none run runY (⟨ix,d,.app s b x y,none⟩::r) e h=kE none run runY r d e h (gG h (aJ e x)&&gG h (aJ e y)) (kT s b (cF h) (aJ e x) (aJ e y)):=by
 rw[←aIG];rfl

def aJv (acc:List Nat) (b:Nat):Option Nat:=eI b acc
def aIJ (acc:List Nat) (run:bZ) (g:Nat) (all:List AV) (h:XH):Option (AV×XH):=(run g (jB (fun b=>eI b acc) all) (fL acc h)).map (mD acc h)
theorem Ya {g:Nat} {first cap as:List AV}:fY run runY (.fn (.func g) first cap) as h=aIJ (lZ (first++as++cap) h) run g (first++as++cap) h:=rfl
def kM (acc:List Nat) (h:XH) (r:Option (AV×XH)):Option (AV×XH):=r.map (mD acc h)
theorem Yb {acc:List Nat} {g:Nat} {all:List AV}:aIJ acc run g all h=kM acc h (run g (jB (aJv acc) all) (fL acc h)):=rfl
end
theorem Yc {x y:AV}:aCX (.bool true) x y=some x:=rfl
theorem Yd {x y:AV}:aCX (.bool false) x y=some y:=rfl
theorem Ye {a b:Bool}:aOA false (.bool a) (.bool b)=some (.bool (a==b)):=rfl
theorem Yf {b:Bool}:aJC (.bool b)=some (.bool !b):=rfl
theorem Yg {k k':IntKind} {n:Int}:aGu k (.int k' n)=some (.int k (k.wrap n)):=rfl
theorem Yh {off b o:Nat}:aJY off (.pt b o)=some (.pt b (o+off)):=rfl
theorem Yi {rows:List (List AV)}:aFV false (.fs rows)=some (.int .i64 (rows.length:Int)):=rfl
theorem Yj {b o s n:Nat}:aFV false (.sl b o s n)=some (.int .i64 (n:Int)):=rfl
theorem Yk {s:ByteArray}:aFV true (.str s)=some (.int .i64 (s.size:Int)):=rfl
theorem Yl {b o s s' len:Nat} {k:IntKind} {n:Int}:aGe s (.sl b o s' len) (.int k n)=if s'=s∧0≤n∧n<(len:Int) then some (.pt b (o+n.toNat*s)) else none:=rfl
theorem Ym {s:Nat} {rows:List (List AV)} {k:IntKind} {n:Int}:aGe s (.fs rows) (.int k n)=if 0≤n∧n<(rows.length:Int) then aJO s rows n.toNat rows[n.toNat]? else none:=by
 simp only[aGe,aJO]
 by_cases h:0≤n∧n<(rows.length:Int)
 ·have h2:n.toNat<rows.length:=by omega
  rw[List.getElem?_eq_getElem h2,List.getD_eq_getElem?_getD,List.getElem?_eq_getElem h2,Option.getD_some]
  simp only[h,true_and]
  simp only[and_self,if_true]
 ·rw[if_neg h,if_neg (fun hc=>h ⟨hc.1,hc.2.1⟩)]
theorem Yn {s j:Nat} {rows:List (List AV)} {r:List AV}:aJO s rows j (some r)=if r.length=s then some (.fp rows j 0) else none:=rfl
theorem Yo {vs:List AV} {i:Nat}:aKe (.tup vs) i=vs[i]?:=rfl
theorem Yp {k:IntKind} {a b:Int}:gD .add k a k b=some (.int k (k.wrap (a+b))):=by simp[gD]
theorem Yq {k:IntKind} {a b:Int}:gD .sub k a k b=some (.int k (k.wrap (a-b))):=by simp[gD]
theorem Yr {k:IntKind} {a b:Int}:gD .mul k a k b=some (.int k (k.wrap (a*b))):=by simp[gD]
theorem Ys {k:IntKind} {a b:Int}:gD .eql k a k b=some (.bool (decide (a=b))):=by simp[gD];rfl
theorem Yt {k:IntKind} {a b:Int}:gD .neq k a k b=some (.bool !(decide (a=b))):=by simp[gD];rfl
theorem Yu {k:IntKind} {a b:Int}:gD .lss k a k b=some (.bool (decide (a<b))):=by simp[gD]
theorem Yv {k:IntKind} {a b:Int}:gD .leq k a k b=some (.bool (decide (a≤b))):=by simp[gD]
theorem Yw {k:IntKind} {a b:Int}:gD .gtr k a k b=some (.bool (decide (b<a))):=by simp[gD]
theorem Yx {n:Int}:(n=n)=True:=by simp
theorem Yy {n:Nat}:(0≤(n:Int))=True:=by simp
theorem Yz {n:Nat}:(n:Int).toNat=n:=by simp
theorem Y2:IntKind.i64.wrap 0=0:=rfl
theorem Y3:IntKind.i64.wrap 1=1:=rfl
theorem Y4:IntKind.i64.wrap 2=2:=rfl
theorem Y5:(0:Int).toNat=0:=rfl
theorem Y6:((0:Nat):Int)=0:=rfl
theorem Y7:((1:Nat):Int)=1:=rfl
theorem Y8:(4:Int).toNat=4:=rfl
theorem Y9 {len s b o:Nat} {k:IntKind} {n:Int}:aGd len s (.pt b o) (.int k n)=if 0≤n∧n<(len:Int) then some (.pt b (o+n.toNat*s)) else none:=rfl
theorem YA {neg:Bool} {ks:List Nat} {cs ds:List AV}:aDv neg ks (.agg cs) (.agg ds)=aHR neg (bW ks cs ds):=by cases h:bW ks cs ds<;>simp[aDv,aHR,h]
theorem YB {b:Bool}:aHR true (some b)=some (.bool !b):=rfl
theorem YC {b:Bool}:aHR false (some b)=some (.bool b):=rfl
theorem YD {agg:Bool} {len s:Nat} {cs:List AV} {k:IntKind} {n:Int}:aGc agg len s (.agg cs) (.int k n)=if 0≤n∧n<(len:Int) then eE agg s cs (n.toNat*s) else none:=rfl
theorem T9 {b:Nat}:aBZ (.bp b)=some (.pt b 0):=rfl
theorem YE {k:IntKind} {n:Int}:rR (.int k n)=([]:List Nat):=rfl
theorem YF {t:Bool}:rR (.bool t)=([]:List Nat):=rfl
theorem YG {t:ByteArray}:rR (.str t)=([]:List Nat):=rfl
theorem YH {cs:List AV}:rR (.agg cs)=(qA cs:List Nat):=rfl
theorem YJ {cs:List AV}:rR (.tup cs)=(qA cs:List Nat):=rfl
theorem YK {rows:List (List AV)}:rR (.fs rows)=([]:List Nat):=rfl
theorem YL {b o s n:Nat}:rR (.sl b o s n)=([b]:List Nat):=rfl
theorem YM {b o:Nat}:rR (.pt b o)=([b]:List Nat):=rfl
theorem YN  : rR .nilsl=([]:List Nat):=rfl
theorem YO {g:Nat} {fs us:List AV}:rR (.fn (.func g) fs us)=(qA fs++qA us:List Nat):=rfl
theorem YP {ty:TypeId} {v:AV}:rR (.ifc ty v)=(rR v:List Nat):=rfl
theorem YQ  : rR .nilifc=([]:List Nat):=rfl
theorem YR  : rR .any=([]:List Nat):=rfl
theorem YT {k:IntKind} {n:Int}:fR (.int k n)=(true:Bool):=rfl
theorem YU {t:ByteArray}:fR (.str t)=(true:Bool):=rfl
theorem YV {cs:List AV}:fR (.agg cs)=(gZ cs:Bool):=rfl
theorem YX {b o:Nat}:fR (.pt b o)=(false:Bool):=rfl
theorem YY {s:Nat→Option Nat} {k:IntKind} {n:Int}:rnA s (.int k n)=((.int k n):AV):=rfl
theorem YZ {s:Nat→Option Nat} {t:Bool}:rnA s (.bool t)=((.bool t):AV):=rfl
theorem Xa {s:Nat→Option Nat} {t:ByteArray}:rnA s (.str t)=((.str t):AV):=rfl
theorem Xb {s:Nat→Option Nat} {cs:List AV}:rnA s (.agg cs)=(.agg (jB s cs):AV):=rfl
theorem Xc {s:Nat→Option Nat} {cs:List AV}:rnA s (.tup cs)=(.tup (jB s cs):AV):=rfl
theorem Xd {s:Nat→Option Nat} {rows:List (List AV)}:rnA s (.fs rows)=((.fs rows):AV):=rfl
theorem Xe {s:Nat→Option Nat} {b o s2 n:Nat}:rnA s (.sl b o s2 n)=((match s b with|some c=>.sl c o s2 n|none=>.any):AV):=by simp only[rnA]<;>rfl
theorem Xf {s:Nat→Option Nat} {b o:Nat}:rnA s (.pt b o)=((match s b with|some c=>.pt c o|none=>.any):AV):=by simp only[rnA]<;>rfl
theorem Xg {s:Nat→Option Nat}  : rnA s .nilsl=(.nilsl:AV):=rfl
theorem Xh {s:Nat→Option Nat} {g:Nat} {fs us:List AV}:rnA s (.fn (.func g) fs us)=(.fn (.func g) (jB s fs) (jB s us):AV):=rfl
theorem Xi {s:Nat→Option Nat}  : rnA s .nilifc=(.nilifc:AV):=rfl
theorem Xj {k:IntKind} {n:Int}:rN (.int k n)=([]:List Nat):=rfl
theorem Xk {t:Bool}:rN (.bool t)=([]:List Nat):=rfl
theorem Xl {t:ByteArray}:rN (.str t)=([]:List Nat):=rfl
theorem Xm {cs:List AV}:rN (.agg cs)=(slL cs:List Nat):=rfl
theorem Xn {cs:List AV}:rN (.tup cs)=(slL cs:List Nat):=rfl
theorem Xo {rows:List (List AV)}:rN (.fs rows)=([]:List Nat):=rfl
theorem Xp {b o s n:Nat}:rN (.sl b o s n)=([b]:List Nat):=rfl
theorem Xq  : rN .nilsl=([]:List Nat):=rfl
theorem Xr  : rN .nilpt=([]:List Nat):=rfl
theorem Xs {g:Nat} {fs us:List AV}:rN (.fn (.func g) fs us)=([]:List Nat):=rfl
theorem Xt {ty:TypeId} {v:AV}:rN (.ifc ty v)=(rN v:List Nat):=rfl
theorem Xu  : rN .nilifc=([]:List Nat):=rfl
theorem Xv {B:Nat} {C:List AV} {k:IntKind} {n:Int}:fzA B C (.int k n)=((.int k n):AV):=rfl
theorem Xw {B:Nat} {C:List AV} {b o s n:Nat}:fzA B C (.sl b o s n)=((if b=B∧o+n*s≤C.length then .fs (bY C o s n) else .sl b o s n):AV):=rfl
theorem Xx {B:Nat} {C:List AV} {b o:Nat}:fzA B C (.pt b o)=((.pt b o):AV):=rfl
theorem Xy {k:IntKind} {n:Int}:nX (.int k n)=((.int k n):AV):=rfl
theorem Xz {t:Bool}:nX (.bool t)=((.bool t):AV):=rfl
theorem X0 {t:ByteArray}:nX (.str t)=((.str t):AV):=rfl
theorem XI {cs:List AV}:nX (.agg cs)=(.agg (hZ cs):AV):=rfl
theorem XJ {cs:List AV}:nX (.tup cs)=(.tup (hZ cs):AV):=rfl
theorem XK {rows:List (List AV)}:nX (.fs rows)=((.fs rows):AV):=rfl
theorem XL {b o s n:Nat}:nX (.sl b o s n)=((.sl b o s n):AV):=rfl
theorem XM  : nX .nilsl=(.fs []:AV):=rfl
theorem XN  : nX .nilifc=(.nilifc:AV):=rfl
theorem XO {k:IntKind} {n:Int}:cellsOf (.int k n)=(some [(.int k n)]:Option (List AV)):=rfl
theorem XV {t:ByteArray}:cellsOf (.str t)=(some [(.str t)]:Option (List AV)):=rfl
theorem XW {cs:List AV}:cellsOf (.agg cs)=(some cs:Option (List AV)):=rfl
theorem XX {b o:Nat}:dO (.pt b o)=(some b:Option Nat):=rfl
def aDn (k:Nat) (acc:List Nat) (h:XH) (r:List Nat):XH:=r.map fun b=>zS (fD k acc) (bC h b)
def aHD (acc:List Nat) (h:XH) (r:List Nat):XH:=r.map fun b=>zS (fun b=>eI b acc) (bC h b)
def fzQ (fz:List (Nat×Bool)) (e:aF) (h:XH):List Nat:=fz.flatMap (aHM e h)
def kF (own:Bool) (k:Nat) (h:XH) (r:Option AV):Option (AV×XH):=r.map fun v=>jK own k v h
def aKc (k:Nat) (h:XH) (v:AV) (acc:List Nat):AV×XH:=(rnA (fD k acc) v,kZ k acc h)
def aOx (k:Nat) (p:aF×XH):AV×XH:=aKc k p.2 (nX (p.1 0)) (dD k [nX (p.1 0)] p.2)
def aHo:Option (List AV)→Option AV
 | some [v]=>some v
 | some vs=>some (.tup vs)
 | none=>none
def aFw:Option AV→Option (List AV)→Option (List AV)
 | some v,some vs=>some (v::vs)
 | _,_=>none
def aDz (v:AV) (a b:aF→XH→Option (DX×aF×XH)) (e:aF) (h:XH):Option (DX×aF×XH):=match v with
 | .bool true=>a e h
 | .bool false=>b e h
 | _=>none
def ldM (agg:Bool) (n o:Nat):Option ABlk→Option AV
 | some (.cells _ cs)=>eE agg n cs o
 | _=>none
def ldR (agg:Bool) (n o:Nat):Option (List AV)→Option AV
 | some r=>eE agg n r o
 | none=>none
def stM (n b o:Nat) (h:XH):Option XB→Option (List AV)→Option XH
 | some (.blk g (.cells true cs)),some vs=>if vs.length=n∧o+n≤cs.length then some (h.set b (some (.blk (g&&gZ vs) (.cells true (bG cs o vs))))) else none
 | _,_=>none
def flM:Option XB→Bool
 | some (.blk g _)=>g
 | _=>false

theorem XY {x:Option XB} {h:XH} {b:Nat}:bC (x::h) b=if b=0 then x else bC h (b-1):=by cases b<;>simp[bC]
def hpM:Option XB→Option ABlk
 | some (.blk _ x)=>some x
 | _=>none
theorem XZ {h:XH} {b:Nat}:cF h b=hpM (bC h b):=rfl
theorem Wa {g:Bool} {x:ABlk}:hpM (some (.blk g x))=some x:=rfl
theorem Wb {α:Type} {x y:α} {h:List α} {b:Nat}:(x::h).set b y=if b=0 then y::h else x::h.set (b-1) y:=by cases b<;>simp
theorem Wc {α:Type} {x:α} {l:List α} {n:Nat}:(x::l).take n=if n=0 then [] else x::l.take (n-1):=by cases n<;>simp
theorem Wd {α:Type} {n:Nat}:([]:List α).take n=[]:=by simp
theorem We {α:Type} {x:α} {l:List α} {n:Nat}:(x::l).drop n=if n=0 then x::l else l.drop (n-1):=by cases n<;>simp
theorem Wf {α:Type} {n:Nat}:([]:List α).drop n=[]:=by simp
theorem Wg {α:Type} {x d:α} {l:List α} {n:Nat}:(x::l).getD n d=if n=0 then x else l.getD (n-1) d:=by cases n<;>simp
theorem Wh {α:Type} {x:α} {l:List α} {n:Nat}:(x::l)[n]?=if n=0 then some x else l[n-1]?:=by cases n<;>simp
theorem Wi {α:Type} {a:α}:(a∈([]:List α))=False:=by simp
theorem Wj {α:Type} {a b:α} {l:List α}:(a∈b::l)=(a=b∨a∈l):=by simp
theorem Wk {acc:List Nat} {b:Nat}:aJv acc b=eI b acc:=rfl
theorem Wl {b c:Nat} {r:List Nat}:eI b (c::r)=if b=c then some 0 else (eI b r).map (· + 1):=rfl
theorem Wm {k:Nat} {acc:List Nat} {b:Nat}:fD k acc b=if b<k then some b else (eI b acc).map (· + k):=rfl
theorem Wn {acc:List Nat} {n i:Nat}:fZ acc n i=if i<acc.length then acc[i]? else some (n+(i-acc.length)):=rfl
theorem Wo {h:XH} {k n:Nat} {acc:List Nat}:dU h k n [] acc=acc:=by cases n<;>rfl
def aFy (h:XH) (k n:Nat) (r:List Nat) (acc:List Nat) (b:Nat):Option XB→List Nat
 | none=>dU h k n r acc
 | some x=>dU h k n (nmB x++r) (acc++[b])
theorem Wp {h:XH} {k n:Nat} {r acc:List Nat} {b:Nat} {x:XB}:aFy h k n r acc b (some x)=dU h k n (nmB x++r) (acc++[b]):=rfl
theorem Wq {h:XH} {k n:Nat} {b:Nat} {r acc:List Nat}:dU h k n (b::r) acc=if n=0 then acc else if b<k∨b∈acc then dU h k (n-1) r acc else aFy h k (n-1) r acc b (bC h b):=by
 cases n with
 | zero=>rfl
 | succ n=>simp only[dU,Nat.add_one_ne_zero,if_false,Nat.add_sub_cancel];cases bC h b<;>rfl
theorem Wr {xs:List AV} {h:XH}:lZ xs h=dU h 0 4096 (qA xs) []:=rfl
theorem Ws {k:Nat} {vs:List AV} {h:XH}:dD k vs h=dU h k 4096 (qA vs++(cA k h).flatMap nmO) []:=rfl
theorem Wt {n:Nat}:cA n []=List.replicate n none:=by induction n with
 | zero=>rfl
 | succ n ih=>simp[cA,ih,List.replicate_succ]
theorem Wu {x:Option XB} {h:XH} {n:Nat}:cA n (x::h)=if n=0 then [] else x::cA (n-1) h:=by cases n<;>rfl
theorem Wv {k:Nat} {acc:List Nat} {h:XH}:kZ k acc h=(cA k h).map (zS (fD k acc))++aDn k acc h acc:=rfl
theorem Ww {k:Nat} {acc:List Nat} {h:XH}:aDn k acc h []=[]:=rfl
theorem Wx {k:Nat} {acc:List Nat} {h:XH} {b:Nat} {r:List Nat}:aDn k acc h (b::r)=zS (fD k acc) (bC h b)::aDn k acc h r:=rfl
theorem Wy {acc:List Nat} {h:XH}:fL acc h=aHD acc h acc:=rfl
theorem Wz {acc:List Nat} {h:XH}:aHD acc h []=[]:=rfl
theorem WB {acc:List Nat} {h:XH} {b:Nat} {r:List Nat}:aHD acc h (b::r)=zS (aJv acc) (bC h b)::aHD acc h r:=rfl
theorem WC {s:Nat→Option Nat}:zS s none=none:=rfl
theorem WE {s:Nat→Option Nat} {x:XB}:zS s (some x)=some (rnB s x):=rfl
theorem WF {s:Nat→Option Nat} {x:ABlk}:rnB s (.blk true x) = .blk true x:=by cases x<;>rfl
theorem WG {s:Nat→Option Nat} {w:Bool} {cs:List AV}:rnB s (.blk false (.cells w cs)) = .blk false (.cells w (jB s cs)):=rfl
theorem WH:nmO none=[]:=rfl
theorem WI {x:XB}:nmO (some x)=nmB x:=rfl
theorem WJ {x:ABlk}:nmB (.blk true x)=[]:=by cases x<;>rfl
theorem WK {w:Bool} {cs:List AV}:nmB (.blk false (.cells w cs))=qA cs:=rfl
theorem WL {acc:List Nat} {h hl:XH} {v:AV}:kM acc h (some (v,hl))=some (rnA (fZ acc h.length) v,fB acc h hl):=rfl
theorem WM {acc:List Nat} {h hl:XH}:fB acc h hl=nW h acc ((cA acc.length hl).map (zS (fZ acc h.length)))++(hl.drop acc.length).map (zS (fZ acc h.length)):=rfl
theorem WN {h:XH} {xs:XH}:nW h [] xs=h:=by cases xs<;>rfl
theorem WO {h:XH} {b:Nat} {bs:List Nat} {x:Option XB} {xs:XH}:nW h (b::bs) (x::xs)=nW (h.set b x) bs xs:=rfl
theorem WP {a:Nat}:List.elem a []=false:=rfl
theorem WQ {a b:Nat} {l:List Nat}:List.elem a (b::l)=if a=b then true else List.elem a l:=by
 by_cases h:a=b
 ·simp only[List.elem,h,if_true,beq_self_eq_true]
 ·simp only[List.elem,show (a==b)=false by simpa using h,if_neg h]
theorem WR {g:Nat} {first cap as:List AV} {h:XH}:bU (.fn (.func g) first cap) as h=lZ (first++as++cap) h:=rfl
theorem WS {α:Type} {x:α}:(some x).isSome=true:=rfl
theorem WT {b:Bool}:(b==true)=b:=by cases b<;>rfl
def fzE (b:Nat) (cs:List AV) (e:aF):aF:=fun j=>fzA b cs (e j)
theorem WU {b:Nat} {cs:List AV} {e:aF} {j:Nat}:fzE b cs e j=fzA b cs (e j):=rfl
def aHN (b:Nat) (e:aF) (h:XH):Option XB→aF×XH
 | some (.blk true (.cells _ cs))=>(fzE b cs e,(h.map (fzO b cs)).set b none)
 | _=>(e,h)
theorem WV {b:Nat} {e:aF} {h:XH} {w:Bool} {cs:List AV}:aHN b e h (some (.blk true (.cells w cs)))=(fzE b cs e,(h.map (fzO b cs)).set b none):=rfl
theorem aJX {b:Nat} {e:aF} {h:XH}:fz1 b e h=aHN b e h (bC h b):=by
 unfold fz1 aHN
 cases bC h b with
 | none=>rfl
 | some x=>cases x with
   | loop=>rfl
   | blk g x=>cases g<;>cases x<;>rfl
def fzP (r:List Nat) (p:aF×XH):aF×XH:=rC r p.1 p.2
theorem WW {r:List Nat} {e:aF} {h:XH}:fzP r (e,h)=rC r e h:=rfl
theorem WX {e:aF} {h:XH}:rC [] e h=(e,h):=rfl
theorem Va {b:Nat} {r:List Nat} {e:aF} {h:XH}:rC (b::r) e h=fzP r (aHN b e h (bC h b)):=by rw[←aJX];rfl
def nzP (fz:List (Nat×Bool)) (p:aF×XH):aF×XH:=(xY fz p.1,p.2)
theorem T2 {fz:List (Nat×Bool)} {e:aF} {h:XH}:nzP fz (e,h)=(xY fz e,h):=rfl
theorem T3 {e:aF}:xY [] e=e:=rfl
theorem T4 {k j:Nat} {r:List (Nat×Bool)} {e:aF}:xY ((k,false)::r) e j=if j=k then nX (xY r e j) else xY r e j:=rfl
def fzY (fz:List (Nat×Bool)) (e:aF) (h:XH):aF×XH:=nzP fz (rC (fzQ fz e h) e h)
theorem Vb {fz:List (Nat×Bool)} {e:aF} {h:XH}:fzX fz e h=fzY fz e (nY fz e h):=rfl
theorem T5 {fz:List (Nat×Bool)} {e:aF} {h:XH}:fzY fz e h=nzP fz (rC (fzQ fz e h) e h):=rfl
theorem T6 {e:aF} {h:XH}:nY [] e h=h:=rfl
theorem T7 {k:Nat} {b:Bool} {r:List (Nat×Bool)} {e:aF} {h:XH}:nY ((k,b)::r) e h=if 1000000≤k then aCL (e (k-1000000)) (nY r e h) else nY r e h:=rfl
theorem Vc {e:aF} {h:XH}:fzQ [] e h=[]:=rfl
theorem Vd {j:Nat} {r:List (Nat×Bool)} {e:aF} {h:XH}:fzQ ((j,false)::r) e h=jM h 2 (rN (e j))++fzQ r e h:=rfl
def dpM (h:XH) (n b:Nat) (x:Option XB):List Nat:=aII (jM h n) b x
theorem Tw {h:XH} {n:Nat}:jM h n []=[]:=by cases n<;>rfl
theorem Tx {h:XH} {b:Nat} {r:List Nat}:jM h 2 (b::r)=dpM h 1 b (bC h b)++jM h 2 r:=by simp only[jM,List.flatMap_cons,dpM]
theorem Ty {h:XH} {n b:Nat} {x:ABlk}:dpM h n b (some (.blk true x))=[b]:=by cases x<;>rfl
theorem Ve {b:Nat} {cs:List AV}:fzO b cs none=none:=rfl
theorem Vf {b:Nat} {cs:List AV} {x:XB}:fzO b cs (some x)=some (fzB b cs x):=rfl
theorem Vg {b:Nat} {cs vs:List AV} {w:Bool}:fzB b cs (.blk false (.cells w vs)) = .blk (gZ (fzL b cs vs)) (.cells w (fzL b cs vs)):=rfl
theorem Vh {b:Nat} {cs:List AV} {x:ABlk}:fzB b cs (.blk true x) = .blk true x:=by cases x<;>rfl
theorem Tt {cs:List AV} {o s:Nat}:bY cs o s 0=[]:=rfl
theorem Tu {cs:List AV} {o s:Nat}:bY cs o s 1=(cs.drop o).take s::bY cs (o+s) s 0:=rfl
theorem Vi {res:List (Nat×Option (Bool×Nat))} {own:Bool} {k:Nat} {e:aF} {h:XH}:eA none res own k (some (.ret,e,h))=kF own k h (jC res e (cF h)):=rfl
theorem Vj {own:Bool} {k:Nat} {h:XH} {v:AV}:kF own k h (some v)=some (jK own k v h):=rfl
theorem Vk {k:Nat} {h:XH} {v:AV}:jK false k v h=aOx k (rC (jM h 2 (rN v)) (upd anyE 0 v) h):=rfl
theorem Vl {k:Nat} {h:XH} {e:aF}:aOx k (e,h)=aKc k h (nX (e 0)) (dD k [nX (e 0)] h):=rfl
theorem Vm {k:Nat} {h:XH} {v:AV} {acc:List Nat}:aKc k h v acc=(rnA (fD k acc) v,kZ k acc h):=rfl
theorem Vn {rs:List (Nat×Option (Bool×Nat))} {e:aF} {h:Hp}:jC rs e h=aHo (lT e h rs):=by unfold jC aHo;cases lT e h rs<;>rfl
theorem Vo {v:AV}:aHo (some [v])=some v:=rfl
theorem Vp {v u:AV} {r:List AV}:aHo (some (v::u::r))=some (.tup (v::u::r)):=rfl
theorem Vq {e:aF} {h:Hp}:lT e h []=some []:=rfl
theorem Vr {e:aF} {h:Hp} {x:Nat×Option (Bool×Nat)} {r:List (Nat×Option (Bool×Nat))}:lT e h (x::r)=aFw (lU e h x) (lT e h r):=by simp only[lT,aFw]<;>rfl
theorem Vs {v:AV} {vs:List AV}:aFw (some v) (some vs)=some (v::vs):=rfl
theorem Vt {e:aF} {h:Hp} {t:Nat}:lU e h (t,none)=some (e t):=rfl
theorem Vu {e:aF} {h:Hp} {a n:Nat} {g:Bool}:lU e h (a,some (g,n))=dA g n h (e a):=rfl
theorem Vv {as:List AV} {k:Nat}:aW as k=as.getD k .any:=rfl
theorem Vw {k:Nat} {ks:List Nat} {v:AV} {vs:List AV} {j:Nat}:lD (k::ks) (v::vs) j=if j=k then v else lD ks vs j:=rfl
theorem Vx {k:Nat} {L:List Nat} {e:aF} {h:XH}:aCB k L e h=jB (fD k (dD k (L.map e) h)) (L.map e):=rfl
theorem Vy {k:Nat} {L:List Nat} {e:aF} {h:XH}:kQ k L e h=kZ k (dD k (L.map e) h) h:=rfl
theorem Vz {D:Nat→Option XFn} {K k:Nat} {rd:Option Nat} {e:aF} {h:XH} {c:AO} {a b:XCode}:execW D K k rd (.cond c a b) e h=aDz (aJ e c) (execW D K k rd a) (execW D K k rd b) e h:=by
 rw[aCq];unfold aDz
 cases aJ e c with
 | bool t=>cases t<;>rfl
 | _=>rfl
theorem V0 {a b:aF→XH→Option (DX×aF×XH)} {e:aF} {h:XH}:aDz (.bool true) a b e h=a e h:=rfl
theorem V4 {a b:aF→XH→Option (DX×aF×XH)} {e:aF} {h:XH}:aDz (.bool false) a b e h=b e h:=rfl
theorem V5 {id:Nat} {e:aF} {h:XH}:aAf (some (.exit id,e,h))=true:=rfl
theorem V6 {e:aF} {h:XH}:aAf (some (.ret,e,h))=true:=rfl
def aKh (x:AV):Option Eff:=match x with
    | .str s=>some (.new none (.cells true (s.data.toList.map fun b=>.int .u8 (b.toNat:Int))) fun b=>.sl b 0 1 s.size)
    | _=>none
def aKk:Option (List AV)→Option Eff
    | some cs=>some (.new none (.cells true cs) fun b=>.pt b 0)
    | none=>none
def aKj (s n:Nat):Option (List AV)→Option Eff
    | some cs=>some (.new none (.cells true cs) fun b=>.sl b 0 s n)
    | none=>none
theorem V7:(false=true)=False:=by simp
theorem V8 {α β:Type} {f:α→β} {a:α} {l:List α}:(a::l).map f=f a::l.map f:=rfl
theorem V9 {α β:Type} {f:α→β}:([]:List α).map f=[]:=rfl
theorem VA {α:Type} {a:α} {l s:List α}:(a::l)++s=a::(l++s):=rfl
theorem VB {α:Type} {s:List α}:[]++s=s:=rfl
theorem VC {α:Type} {s:List α}:s++[]=s:=by simp
theorem VD {α β:Type} {f:α→List β} {a:α} {l:List α}:(a::l).flatMap f=f a++l.flatMap f:=by simp
theorem VE {α β:Type} {f:α→List β}:([]:List α).flatMap f=[]:=rfl
theorem VF {α:Type} {a:α} {l:List α}:(a::l).length=l.length+1:=rfl
theorem VG {α:Type}:([]:List α).length=0:=rfl
theorem VH {α β:Type} {f:α→β} {a:α}:(some a).map f=some (f a):=rfl
theorem VI {b:Bool}:(true&&b)=b:=by simp
theorem VJ {b:Bool}:(b&&true)=b:=by simp
theorem VK {b:Bool}:(false&&b)=false:=by simp
theorem VL {b:Bool}:(b&&false)=false:=by simp
theorem VM:(!true)=false:=rfl
theorem VN:(!false)=true:=rfl
theorem VO {b:Bool}:(true||b)=true:=by simp
theorem VP {b:Bool}:(b||true)=true:=by simp
theorem VQ {p:Prop}:(p∧True)=p:=by simp
theorem VR {p:Prop}:(p∨True)=True:=by simp
theorem VS {p:Prop}:(p∨False)=p:=by simp
theorem VT {i:Decidable True}:decide True=true:=by simp
theorem VU {i:Decidable False}:decide False=false:=by simp
theorem VV {α:Type} {f:α→Bool}:[].all f=true:=rfl
theorem VW {α:Type} {f:α→Bool} {a:α} {l:List α}:(a::l).all f=(f a&&l.all f):=rfl
theorem VX {α:Type} {a:α}:List.replicate 0 a=[]:=rfl
theorem Ts {α:Type} {a:α}:List.replicate 1 a=[a]:=rfl
theorem VY:qA []=[]:=by simp only[qA]
theorem VZ {v:AV} {r:List AV}:qA (v::r)=(rR v++qA r):=by simp only[qA]
theorem Ua {s:Nat→Option Nat}:jB s []=[]:=by simp only[jB]
theorem Ub {s:Nat→Option Nat} {v:AV} {r:List AV}:jB s (v::r)=(rnA s v::jB s r):=by simp only[jB]
theorem Uc:gZ []=true:=by simp only[gZ]
theorem Ud {v:AV} {r:List AV}:gZ (v::r)=(fR v&&gZ r):=by simp only[gZ]
theorem Ue:slL []=[]:=by simp only[slL]
theorem Uf {v:AV} {r:List AV}:slL (v::r)=(rN v++slL r):=by simp only[slL]
theorem Ug {B:Nat} {C:List AV}:fzL B C []=[]:=by simp only[fzL]
theorem Uh {B:Nat} {C:List AV} {v:AV} {r:List AV}:fzL B C (v::r)=(fzA B C v::fzL B C r):=by simp only[fzL]
theorem Ui:hZ []=[]:=by simp only[hZ]
theorem Uj {v:AV} {r:List AV}:hZ (v::r)=(nX v::hZ r):=by simp only[hZ]
theorem Uk {a:AV} {z cs:List AV} {off:Nat}:bG (a::z) off cs=(a::z).take off++cs++(a::z).drop (off+cs.length):=rfl
theorem Ul {z:List AV}:dQ z []=some z:=rfl
def aKd (z:List AV) (off n:Nat) (rest:List (Nat×Nat×AV)):Option (List AV)→Option (List AV)
 | some cs=>if cs.length=n∧off+n≤z.length then dQ (bG z off cs) rest else none
 | none=>none
theorem Um {z:List AV} {off n:Nat} {v:AV} {rest:List (Nat×Nat×AV)}:dQ z ((off,n,v)::rest)=aKd z off n rest (cellsOf v):=by simp only[dQ,aKd]<;>rfl
theorem Un {z cs:List AV} {off n:Nat} {rest:List (Nat×Nat×AV)}:aKd z off n rest (some cs)=if cs.length=n∧off+n≤z.length then dQ (bG z off cs) rest else none:=rfl
theorem Uo {c d:Nat} {e:aF}:aM c d e none=some d:=rfl
def boM (cap:Nat):AV→Option Nat
 | .int _ n=>if 0≤n∧n≤(cap:Int) then some n.toNat else none
 | _=>none
theorem Uq {c d:Nat} {e:aF} {x:AO}:aM c d e (some x)=boM c (aJ e x):=by simp only[aM,boM]<;>rfl
theorem Ur {c:Nat} {k:IntKind} {n:Int}:boM c (.int k n)=if 0≤n∧n≤(c:Int) then some n.toNat else none:=rfl
theorem Us {H:Hp} {x:AO} {e:aF}:aD (.box x) e H=aKk (cellsOf (aJ e x)):=by simp only[aD,aKk]<;>rfl
theorem Ut {cs:List AV}:aKk (some cs)=some (.new none (.cells true cs) fun b=>.pt b 0):=rfl
theorem Uu {s n:Nat} {z:List AV} {ps:List (Nat×Nat×AO)} {e:aF} {H:Hp}:aD (.bslice s n z ps) e H=aKj s n (dQ (List.replicate n z).flatten (ps.map fun p=>(p.1,p.2.1,aJ e p.2.2))):=by simp only[aD,aKj]<;>rfl
theorem Uv {s n:Nat} {cs:List AV}:aKj s n (some cs)=some (.new none (.cells true cs) fun b=>.sl b 0 s n):=rfl
theorem Uw {α:Type}:([]:List (List α)).flatten=[]:=rfl
theorem Ux {α:Type} {a:List α} {l:List (List α)}:(a::l).flatten=a++l.flatten:=rfl
def aJj (s o s' len:Nat):Option ABlk→Option (Nat×List AV)
    | some (.cells _ cs)=>if s'=s∧o+len*s≤cs.length then some (len,(cs.drop o).take (len*s)) else none
    | _=>none
theorem Uy {s b o s' n:Nat} {H:Hp}:dJ s H (.sl b o s' n)=aJj s o s' n (H b):=by simp only[dJ,aJj]<;>rfl
theorem Uz {s o s' len:Nat} {w:Bool} {cs:List AV}:aJj s o s' len (some (.cells w cs))=if s'=s∧o+len*s≤cs.length then some (len,(cs.drop o).take (len*s)) else none:=rfl
def aCF (s bytes:Nat) (H:Hp) (x:AV):Option (Nat×List AV)→Option Eff
 | none=>none
 | some (n,new) =>
   match x with
   | .nilsl=>if n*bytes≤1099511627776∧n≤1099511627776 then (if n=0 then some (.val .nilsl) else some (.new none (.cells true new) fun b=>if bytes=1048577 then .sb b n else .sl b 0 s n)) else none
   | .sb b len=>match H b with
     | some (.cells true cs)=>if bytes=1048577∧s=1∧len=cs.length∧len+n≤1099511627776 then some (.new (some b) (.cells true (cs++new)) fun b=>.sb b (len+n)) else none
     | _=>none
   | .sl b 0 s' len=>match H b with
     | some (.cells true cs)=>if s'=s∧len*s=cs.length∧(len+n)*bytes≤1099511627776∧len+n≤1099511627776 then some (.new (some b) (.cells true (cs++new)) fun b=>.sl b 0 s (len+n)) else none
     | _=>none
   | _=>none
def aGG (s bytes n:Nat) (new:List AV) (b len:Nat):Option ABlk→Option Eff
 | some (.cells true cs)=>if bytes=1048577∧s=1∧len=cs.length∧len+n≤1099511627776 then some (.new (some b) (.cells true (cs++new)) fun b=>.sb b (len+n)) else none
 | _=>none
def aGH (s bytes n:Nat) (new:List AV) (b s' len:Nat):Option ABlk→Option Eff
 | some (.cells true cs)=>if s'=s∧len*s=cs.length∧(len+n)*bytes≤1099511627776∧len+n≤1099511627776 then some (.new (some b) (.cells true (cs++new)) fun b=>.sl b 0 s (len+n)) else none
 | _=>none
theorem U0 {s bytes:Nat} {H:Hp} {x y:AV}:kT s bytes H x y=aCF s bytes H x (dJ s H y):=by
 unfold kT aCF
 cases dJ s H y<;>rfl
theorem U1 {s bytes n:Nat} {H:Hp} {new:List AV}:aCF s bytes H .nilsl (some (n,new))=if n*bytes≤1099511627776∧n≤1099511627776 then (if n=0 then some (.val .nilsl) else some (.new none (.cells true new) fun b=>if bytes=1048577 then .sb b n else .sl b 0 s n)) else none:=rfl
theorem TA {s bytes n b len:Nat} {H:Hp} {new:List AV}:aCF s bytes H (.sb b len) (some (n,new))=aGG s bytes n new b len (H b):=by simp only[aCF,aGG]<;>rfl
theorem TB {s bytes n b len:Nat} {cs new:List AV}:aGG s bytes n new b len (some (.cells true cs))=if bytes=1048577∧s=1∧len=cs.length∧len+n≤1099511627776 then some (.new (some b) (.cells true (cs++new)) fun b=>.sb b (len+n)) else none:=rfl
theorem U2 {s bytes n b s' len:Nat} {H:Hp} {new:List AV}:aCF s bytes H (.sl b 0 s' len) (some (n,new))=aGH s bytes n new b s' len (H b):=by simp only[aCF,aGH]<;>rfl
theorem U3 {s bytes n b s' len:Nat} {cs new:List AV}:aGH s bytes n new b s' len (some (.cells true cs))=if s'=s∧len*s=cs.length∧(len+n)*bytes≤1099511627776∧len+n≤1099511627776 then some (.new (some b) (.cells true (cs++new)) fun b=>.sl b 0 s (len+n)) else none:=rfl
theorem UW {e:aF} {n:Nat}:aJ e (.t n)=e n:=rfl
theorem UX {e:aF} {v:AV}:aJ e (.c v)=v:=rfl
def aHd (len s b o n h:Nat):Option Nat→Option Eff
 | some l=>if o+len*s≤n∧l<len then some (.val (.sl b (o+l*s) s (h-l))) else none
 | none=>none
def aHe (len s:Nat) (e:aF) (lo:Option AO) (b o:Nat):Option ABlk→Option Nat→Option Eff
 | some (.cells _ cs),some h=>aHd len s b o cs.length h (aM h 0 e lo)
 | _,_=>none
def aJl (len s:Nat) (e:aF) (lo:Option AO) (H:Hp) (r:Option Nat):AV→Option Eff
 | .pt b o=>aHe len s e lo b o (H b) r
 | _=>none
theorem UY {len s:Nat} {x:AO} {lo hi:Option AO} {e:aF} {H:Hp}:aD (.slarr len s x lo hi) e H=aJl len s e lo H (aM len len e hi) (aJ e x):=by
 simp only[aD,aJl]
 cases aJ e x with
 | pt b o =>
   simp only[]
   cases H b with
   | none=>rfl
   | some c =>
     cases c with
     | cells w cs =>
       cases aM len len e hi with
       | none=>rfl
       | some h=>simp only[aHe,aHd];cases aM h 0 e lo<;>rfl
     | _=>rfl
 | _=>rfl
theorem UZ {len s b o:Nat} {e:aF} {lo:Option AO} {H:Hp} {r:Option Nat}:aJl len s e lo H r (.pt b o)=aHe len s e lo b o (H b) r:=rfl
theorem Ta {len s b o h:Nat} {e:aF} {lo:Option AO} {w:Bool} {cs:List AV}:aHe len s e lo b o (some (.cells w cs)) (some h)=aHd len s b o cs.length h (aM h 0 e lo):=rfl
theorem Tb {len s b o n h l:Nat}:aHd len s b o n h (some l)=if o+len*s≤n∧l<len then some (.val (.sl b (o+l*s) s (h-l))) else none:=rfl
def aLR (rows:List (List AV)) (h:Nat):Option Nat→Option Eff
 | some l=>some (.val (.fs ((rows.drop l).take (h-l))))
 | none=>none
def aLS (rows:List (List AV)) (e:aF) (lo:Option AO):Option Nat→Option Eff
 | some h=>aLR rows h (aM h 0 e lo)
 | none=>none
def aHb (b o s h:Nat):Option Nat→Option Eff
 | some l=>if l<h then some (.val (.sl b (o+l*s) s (h-l))) else if l=0 then some (.val (.sl b o s 0)) else some (.val (.fs []))
 | none=>none
def aHc (b o s:Nat) (e:aF) (lo:Option AO):Option Nat→Option Eff
 | some h=>aHb b o s h (aM h 0 e lo)
 | none=>none
def aLT:Option Nat→Option Eff
 | some _=>some (.val .nilsl)
 | none=>none
def aLU (e:aF) (lo:Option AO):Option Nat→Option Eff
 | some h=>aLT (aM h 0 e lo)
 | none=>none
def aEZ (s:Nat) (e:aF) (lo hi:Option AO):AV→Option Eff
 | .fs rows=>if rows.all (fun r=>r.length==s) then aLS rows e lo (aM rows.length rows.length e hi) else none
 | .sl b o s' len=>if s'=s then aHc b o s e lo (aM len len e hi) else none
 | .nilsl=>aLU e lo (aM 0 0 e hi)
 | _=>none
theorem Tc {s:Nat} {x:AO} {lo hi:Option AO} {e:aF} {H:Hp}:aD (.slsl s x lo hi) e H=aEZ s e lo hi (aJ e x):=by
 simp only[aD]
 cases aJ e x with
 | fs rows =>
   simp only[fT,aEZ]
   by_cases hr:(rows.all fun r=>r.length==s)=true
   ·simp only[hr,if_true]
    cases aM rows.length rows.length e hi with
    | none=>rfl
    | some h=>simp only[aLS,aLR];cases aM h 0 e lo<;>rfl
   ·simp only[hr];rfl
 | sl b o s' len =>
   simp only[fT,aEZ]
   by_cases hr:s'=s
   ·simp only[hr,if_true]
    cases aM len len e hi with
    | none=>rfl
    | some h =>
      simp only[aHc,aHb]
      cases aM h 0 e lo with
      | none=>rfl
      | some l =>
        by_cases hl:l<h
        ·simp only[hl,if_true]
        ·by_cases h0:l=0
         ·simp only[hl,h0,if_true,if_false]
          subst h0
          simp only[hl,if_false]
         ·simp only[hl,h0,if_false]
   ·simp only[hr,if_false]
 | nilsl =>
   simp only[fT,aEZ]
   cases aM 0 0 e hi with
   | none=>rfl
   | some h=>simp only[aLU,aLT];cases aM h 0 e lo<;>rfl
 | _=>rfl
theorem Td {s b o s' len:Nat} {e:aF} {lo hi:Option AO}:aEZ s e lo hi (.sl b o s' len)=if s'=s then aHc b o s e lo (aM len len e hi) else none:=rfl
theorem Te {b o s h:Nat} {e:aF} {lo:Option AO}:aHc b o s e lo (some h)=aHb b o s h (aM h 0 e lo):=rfl
theorem Tf {b o s h l:Nat}:aHb b o s h (some l)=if l<h then some (.val (.sl b (o+l*s) s (h-l))) else if l=0 then some (.val (.sl b o s 0)) else some (.val (.fs [])):=rfl
def aGY (s:ByteArray) (h:Nat):Option Nat→Option Eff
 | some l=>some (.val (.str (qJ s l h)))
 | none=>none
def aGZ (s:ByteArray) (e:aF) (lo:Option AO):Option Nat→Option Eff
 | some h=>aGY s h (aM h 0 e lo)
 | none=>none
def aJi (e:aF) (lo hi:Option AO):AV→Option Eff
 | .str s=>aGZ s e lo (aM s.size s.size e hi)
 | _=>none
theorem Tg {x:AO} {lo hi:Option AO} {e:aF} {H:Hp}:aD (.slstr x lo hi) e H=aJi e lo hi (aJ e x):=by
 simp only[aD,aJi]
 cases aJ e x with
 | str s =>
   simp only[]
   cases aM s.size s.size e hi with
   | none=>rfl
   | some h=>simp only[aGZ,aGY];cases aM h 0 e lo<;>rfl
 | _=>rfl
theorem Th {e:aF} {lo hi:Option AO} {s:ByteArray}:aJi e lo hi (.str s)=aGZ s e lo (aM s.size s.size e hi):=rfl
theorem Ti {e:aF} {lo:Option AO} {s:ByteArray} {h:Nat}:aGZ s e lo (some h)=aGY s h (aM h 0 e lo):=rfl
theorem Tj {s:ByteArray} {h l:Nat}:aGY s h (some l)=some (.val (.str (qJ s l h))):=rfl
theorem Tk {x:AO} {e:aF} {H:Hp}:aD (.bytes x) e H=aKh (aJ e x):=by simp only[aD,aKh]<;>rfl
theorem Tl {s:ByteArray}:aKh (.str s)=some (.new none (.cells true (s.data.toList.map fun b=>.int .u8 (b.toNat:Int))) fun b=>.sl b 0 1 s.size):=rfl
theorem ptf (p:Prop):(p=True)∨(p=False):=by by_cases h:p<;>simp[h]
theorem dR {α:Type} {l:List α} {i:Nat} (h:i<l.length):∃ x,l[i]?=some x:=⟨l[i],List.getElem?_eq_getElem h⟩
theorem U4 {n:Int}:(n<n)=False:=eq_false (by omega)
theorem iA {i n:Nat} (h:i<n) (hn:n<1000000000000):IntKind.i64.wrap ((i:Int)+1)=(i:Int)+1:=aX (by omega) (by omega)
theorem U5 {agg:Bool} {n b o:Nat} {H:Hp}:dA agg n H (.pt b o)=ldM agg n o (H b):=by unfold dA ldM;rfl
theorem U6 {agg w:Bool} {n o:Nat} {cs:List AV}:ldM agg n o (some (.cells w cs))=eE agg n cs o:=rfl
theorem U7 {agg:Bool} {n i o:Nat} {rows:List (List AV)} {H:Hp}:dA agg n H (.fp rows i o)=ldR agg n o (rows[i]?):=by unfold dA ldR;rfl
theorem U8 {agg:Bool} {n o:Nat} {r:List AV}:ldR agg n o (some r)=eE agg n r o:=rfl
theorem U9 {n o:Nat} {cs:List AV}:eE true n cs o=if o+n≤cs.length then some (.agg ((cs.drop o).take n)) else none:=rfl
theorem UA {n o:Nat} {cs:List AV}:eE false n cs o=cs[o]?:=rfl
theorem UB {n b o:Nat} {h:XH} {x:AV}:iM n h (.pt b o) x=stM n b o h (bC h b) (cellsOf x):=by
 simp only[iM,stM]<;>rfl
theorem UC {n b o:Nat} {h:XH} {g:Bool} {cs vs:List AV}:stM n b o h (some (.blk g (.cells true cs))) (some vs)=if vs.length=n∧o+n≤cs.length then some (h.set b (some (.blk (g&&gZ vs) (.cells true (bG cs o vs))))) else none:=rfl
theorem UD {h:XH} {g:Bool} {x:ABlk}:nV h none g x=h++[some (.blk g x)]:=rfl
theorem UE {h:XH} {b:Nat} {g:Bool} {x:ABlk}:nV h (some b) g x=h.set b none++[some (.blk g x)]:=rfl
theorem UF {h:XH} {b o s n:Nat}:gG h (.sl b o s n)=flM (bC h b):=by simp only[gG,flM]<;>rfl
theorem UG {g:Bool} {x:ABlk}:flM (some (.blk g x))=g:=rfl
theorem UH {h:XH}:gG h .nilsl=true:=rfl
theorem UI {op:BinOp} {k k':IntKind} {a b:Int}:wF op (.int k a) (.int k' b)=gD op k a k' b:=rfl
theorem UJ {op:BinOp} {a b:ByteArray}:wF op (.str a) (.str b)=tL op a b:=rfl

theorem Tm {n:Nat}:n*1=n:=by simp
theorem Tn {n:Nat}:0+n=n:=by simp
theorem Tp {n:Nat}:n+0=n:=by simp
theorem Tq {n:Nat}:(n≤n)=True:=by simp
theorem Tr {n:Nat}:n-0=n:=by simp
theorem aDB {α:Type} {f:α→AV}:∀ (l pre:List α),bY ((pre++l).map f) pre.length 1 l.length=l.map fun v=>[f v]
 | [],pre=>rfl
 | a::r,pre=>by
   have h:=aDB (f:=f) r (pre++[a])
   simp only[List.append_assoc,List.cons_append,List.nil_append,List.length_append,List.length_cons,List.length_nil]at h
   rw[List.length_cons,bY]
   simp only[Nat.zero_add]at h
   rw[h,List.map_append,List.drop_left' (by simp),List.map_cons,List.map_cons]
   rfl
section
variable {D:Nat→Option XFn} {K k:Nat} {rd:Option Nat} {e:aF} {h:XH} {run:bZ} {runY:cO}
variable {d:Option Nat} {ix:Nat} {r:List DOper} {L:List (Nat×Nat)}
theorem Tv {a b:Nat}:(some a != some b) = !(decide (a=b)):=by by_cases h:a=b<;>simp[h]
end
theorem Tz {g g' w w':Bool} {xs ys:List AV}:aAC (some (.blk g (.cells w xs))) (some (.blk g' (.cells w' ys)))=(w==w'&&eD xs ys):=rfl
theorem T0:((40:Nat):Int)=40:=rfl
theorem T1:((45:Nat):Int)=45:=rfl
section
variable {run:bZ} {runY:cO} {d:Option Nat} {e:aF} {h:XH} {ix:Nat} {r:List DOper} {m:Option (List (Nat×Nat))}
theorem TC {b n:Nat}:rR (.sb b n)=([b]:List Nat):=rfl
theorem TD {b n:Nat}:fR (.sb b n)=(false:Bool):=rfl
theorem TE {s:Nat→Option Nat} {b n:Nat}:rnA s (.sb b n)=((match s b with|some c=>.sb c n|none=>.any):AV):=by simp only[rnA]<;>rfl
theorem TF {B:Nat} {C:List AV} {b n:Nat}:fzA B C (.sb b n)=((.sb b n):AV):=rfl
theorem TG {b n:Nat}:cellsOf (.sb b n)=(some [(.sb b n)]:Option (List AV)):=rfl
theorem TH {b:Nat}:rR (.bp b)=([b]:List Nat):=rfl
theorem TI {s:Nat→Option Nat} {b:Nat}:rnA s (.bp b)=((match s b with|some c=>.bp c|none=>.any):AV):=by simp only[rnA]<;>rfl
theorem TJ {b:Nat}:rN (.bp b)=([]:List Nat):=rfl
theorem TK {B:Nat} {C:List AV} {b:Nat}:fzA B C (.bp b)=((.bp b):AV):=rfl
theorem TL {b:Nat}:nX (.bp b)=((.bp b):AV):=rfl
theorem TM {p:AO}:xo m run runY (⟨ix,d,(DOp.strof p),none⟩::r) e h=kV m run runY r d e h (eF (cF h) (aJ e p)):=pC rfl (by cases hs:eF (cF h) (aJ e p)<;>simp[aD,oI,hs]) (fun _=>rfl) (fun _=>rfl) fun _ _=>rfl
theorem TN {H:Hp} {b o s n:Nat}:eF H (.sl b o s n)=gS (dJ 1 H (.sl b o s n)):=rfl
theorem TO {n:Nat} {cs:List AV}:gS (some (n,cs))=(eT cs).map fun l=>.str ⟨⟨l⟩⟩:=rfl
end
theorem aNm {p:Prop} (h:p):p:=h
variable {P:Program} {B:Base} {F:Nat→Prop} {w:World} {H:Hp} {env:aF} {a:Act}

theorem wL {Fe:Fence} {n:Nat} {id:Nat} {ops:Array Oper} {Q:Exit→Act→List Frame→World→Prop} {cs:List Frame} {o:Oper} (ho:ops[0]?=some o)
 (hg:o.guard=none) (hab:∀ f,o.about P w a.eval=some f→Fe.fn f) (hr:(execOp a.eval o).run P w = .ok .recover w) (hro:Fe.round=none)
 (h:match recoverD cs with
  | some (v,cs')=>wpOpsIn Fe n P ops (fun e a w=>Q e a cs' w) (List.range' 1 (ops.size-1)) (a.put o.dst v) w
  | none=>wpOpsIn Fe n P ops (fun e a w=>Q e a cs w) (List.range' 1 (ops.size-1)) (a.put o.dst .nilIface) w) :
 (Code.region id ops false).wpSIn Fe n P Q a cs w:=by
 intro b k hb hrd hF hroom
 have hsz:0<ops.size:=(Array.getElem?_eq_some_iff.1 ho).1
 have hrange:List.range ops.size=0::List.range' 1 (ops.size-1):=by
  rw[List.range_eq_range']
  obtain⟨m,hm⟩:∃ m,ops.size=m+1:=⟨ops.size-1,by omega⟩
  rw[hm,List.range'_succ];simp
 have i0:(lone (b.atR a (.code (.region id ops false)::k)) cs w).fenced P Fe:=fenced_calm hF hroom rfl
 have s0:=stepR_region (P:=P) (b:=b) (a:=a) (k:=k) (cs:=cs) (w:=w) (id:=id) (ops:=ops)
 rw[hrange]at s0
 have hw:Region.wanted o (yielded ops a.tmps)=true:=by unfold Region.wanted;rw[hg]
 have h0:(lone (b.atR a (.inRegion ops (0::List.range' 1 (ops.size-1))::k)) cs w).fenced P Fe:=fenced_oper hF hroom ho hab
 have hgg:=stepGR_op (P:=P) (b:=b) (k:=k) (cs:=cs) (w:=w) (rest:=List.range' 1 (ops.size-1)) ho hw
 rw[hrd,Oper.semAt_none]at hgg
 have hfin:∀ v,(b.atR a (.inRegion ops (0::List.range' 1 (ops.size-1))::k)).finish v=b.atR (a.put o.dst v) (.inRegion ops (List.range' 1 (ops.size-1))::k):=by
  intro v;rw[Frame.finish_atR,ho];rfl
 have hk:(b.atR a (.inRegion ops (0::List.range' 1 (ops.size-1))::k)).kind = .deferred:=hb
 have htr:=tryRecover_deferred hk cs
 split at h
 ·rename_i v cs' hrec
  have hlen:=recoverD_length hrec
  obtain⟨e,a',w'',hq,harr⟩:=wp_opsIn _ _ _ h b k cs' (hrd.trans hro.symm) hF (by rw[hlen];exact hroom)
  refine⟨e,a',cs',w'',hlen,hq,.of_steps (.one i0 s0) (.of_steps (.one h0 (step_lone_go ?_)) harr)⟩
  rw[hgg,←hfin]
  simp only[Frame.atR,hrd]at htr ⊢
  simp[stepG.apply,hr,htr,hrec]
 ·rename_i hrec
  obtain⟨e,a',w'',hq,harr⟩:=wp_opsIn _ _ _ h b k cs (hrd.trans hro.symm) hF hroom
  refine⟨e,a',cs,w'',rfl,hq,.of_steps (.one i0 s0) (.of_steps (.one h0 (step_lone_go ?_)) harr)⟩
  rw[hgg,←hfin]
  simp only[Frame.atR,hrd]at htr ⊢
  simp[stepG.apply,hr,htr,hrec]

theorem wV {fn:Func} {tmps:Array Value} {n0:Nat} {F0:Nat→Prop} {w0:World} {H0:Hp} {R:Ending→World→Prop} {T:List Deferred} {u:FrameMode} {S:World→Prop} (hS:∀ w w',Up F w F w'→S w→S w') (hu:u ≠ .run) (hn0:w0.heap.size≤n0)
 (hT:∀ w,S w→Ext F0 w0 H0 F w H→St F w H→RE F w env { tmps:=tmps,defers:=[] }→LeavesInM Fence.wide 0 P fn tmps R T u w) :
 ∀ (ms:List Deferred) (w:World),S w→Ext F0 w0 H0 F w H→St F w H→RE F w env { tmps:=tmps,defers:=[] }→ms.Nodup→(∀ d∈ms,Mk1 n0 F H w d)→LeavesInM Fence.wide 0 P fn tmps R (ms++T) u w:=by
 intro ms
 induction ms with
 | nil=>intro w hs he st re _ _;exact hT w hs he st re
 | cons d ds ih =>
   intro w hs he st re hnd hm
   obtain⟨D,rfl,h2,h3,h4,h5⟩:=hm d (by simp)
   obtain⟨k1,k2,k3⟩:=oL (n0:=0) (x:=none) he st (Nat.le_trans hn0 h2) h3 h4 h5
   have hnd:=List.nodup_cons.1 hnd
   refine⟨hu,.inl ⟨D,_,rfl,run_takeDeferred h3,ih _ (hS _ _ k3 hs) k1 k2 (re.up k3) hnd.2 fun d' hd'=>?_⟩⟩
   obtain⟨D',rfl,l2,l3,l4,l5⟩:=hm d' (by simp[hd'])
   refine⟨D',rfl,l2,?_,l4,l5⟩
   rw[World.putObj_heap_other fun e=>hnd.1 (by rw[←e];exact hd')]
   exact l3
end Go.DL
