/- Parts of a proof, joined: XF XG DlX. No statement of the seed is proved here. -/
import Derived.RecoverIn
import Derived.Test.YtmapgnepfgnphaaGreatDoorH3
set_option linter.unusedSimpArgs false
set_option linter.unusedVariables false
set_option linter.unusedSectionVars false
namespace Go.DL
section
variable {run:bZ} {runY:cN} {d:Option Nat} {e:aF} {h:XH} {ix:Nat} {r:List DOper} {D:Nat→Option XFn} {K k:Nat} {rd:Option Nat} {m:Option (List (Nat×Nat))} {op:DOp} {v:AV}

theorem Za {j:Nat}:upd e k v j=if j=k then v else e j:=rfl
theorem Zb:aQ e (some k) v=upd e k v:=rfl
theorem Zc:aQ e none v=e:=rfl
theorem Zd {α β:Type} {a:α} {b:β}:(a,b).fst=a:=rfl
theorem Ze {α β:Type} {a:α} {b:β}:(a,b).snd=b:=rfl

def aGj (r:Option (aF×XH)):Option (DX×aF×XH):=r.map fun r=>(.normal,r.1,r.2)
theorem Zf:aGj (some (e,h))=some (.normal,e,h):=rfl
def xo (m:Option (List (Nat×Nat))) (run:bZ) (runY:cN) (ops:List DOper) (e:aF) (h:XH):Option (aF×XH):=match m with
 | none=>dR run runY ops e h
 | some L=>dF run runY ops e h L
def aJn (m:Option (List (Nat×Nat))) (run:bZ) (runY:cN) (ops:List DOper) (p:aF×XH):Option (DX×aF×XH):=aGj (xo m run runY ops p.1 p.2)
theorem Zg {ops:List DOper}:aJn m run runY ops (e,h)=aGj (xo m run runY ops e h):=rfl
theorem Zh {ops:List DOper}:execW D K k rd (.reg [] false ops) e h=aGj (xo none (runW D) (runYW D) ops e h):=vV
theorem Zi {ops:List DOper}:execW D K k rd (.reg [] true ops) e h=aGj (xo (some []) (runW D) (runYW D) ops e h):=vW
theorem Zj {a:Nat×Bool} {fz:List (Nat×Bool)} {ops:List DOper}:execW D K k rd (.reg (a::fz) false ops) e h=aJn none (runW D) (runYW D) ops (fzX (a::fz) e h):=vV
theorem Zk {a:Nat×Bool} {fz:List (Nat×Bool)} {ops:List DOper}:execW D K k rd (.reg (a::fz) true ops) e h=aJn (some []) (runW D) (runYW D) ops (fzX (a::fz) e h):=vW
theorem Zl:xo m run runY [] e h=some (e,h):=by cases m<;>rfl

def kV (m:Option (List (Nat×Nat))) (run:bZ) (runY:cN) (r:List DOper) (d:Option Nat) (e:aF) (h:XH):Option AV→Option (aF×XH)
 | some v=>xo m run runY r (aQ e d v) h
 | none=>none
theorem Zm:kV m run runY r d e h (some v)=xo m run runY r (aQ e d v) h:=rfl
def kE (m:Option (List (Nat×Nat))) (run:bZ) (runY:cN) (r:List DOper) (d:Option Nat) (e:aF) (h:XH) (g:Bool):Option Eff→Option (aF×XH)
 | some (.val v)=>xo m run runY r (aQ e d v) h
 | some (.new own x f)=>xo m run runY r (aQ e d (f h.length)) (nX h own g x)
 | none=>none
theorem Zn {g:Bool}:kE m run runY r d e h g (some (.val v))=xo m run runY r (aQ e d v) h:=rfl
theorem Zo {g:Bool} {own:Option Nat} {x:ABlk} {f:Nat→AV}:kE m run runY r d e h g (some (.new own x f))=xo m run runY r (aQ e d (f h.length)) (nX h own g x):=rfl
theorem aIA {g:Bool} {q:Option Eff}:(match q with
 | some (.val v)=>some (aQ e d v,h)
 | some (.new own x f)=>some (aQ e d (f h.length),nX h own g x)
 | none=>none).bind (fun s=>xo m run runY r s.1 s.2)=kE m run runY r d e h g q:=by cases q with
 | none=>rfl
 | some q=>cases q<;>rfl
theorem wO (h1:bR run runY d op e h=match aD op e (cF h)with
 | some (.val v)=>some (aQ e d v,h)
 | some (.new own x f)=>some (aQ e d (f h.length),nX h own (eP op e h) x)
 | none=>none) (h2:∀ L,aEh ix op e L=L) (h3:∀ L,oI op e h L=true) (h4:∀ L h',tH op e h h' L=true) :
 xo m run runY (⟨ix,d,op,none⟩::r) e h=kE m run runY r d e h (eP op e h) (aD op e (cF h)):=by
 rw[←aIA]
 cases m with
 | none=>simp only[xo,dR,gd,h1]
 | some L=>simp only[xo,dF,gd,h1,h2,h3,h4,if_true]

def oK (q:Option AV):Option Eff:=q.map .val
theorem pF {q:Option AV} (h1:bR run runY d op e h=match aD op e (cF h)with
 | some (.val v)=>some (aQ e d v,h)
 | some (.new own x f)=>some (aQ e d (f h.length),nX h own (eP op e h) x)
 | none=>none) (h5:aD op e (cF h)=oK q) (h2:∀ L,aEh ix op e L=L) (h3:∀ L,oI op e h L=true) (h4:∀ L h',tH op e h h' L=true) :
 xo m run runY (⟨ix,d,op,none⟩::r) e h=kV m run runY r d e h q:=by
 rw[wO h1 h2 h3 h4,h5]
 cases q<;>rfl
def aCZ (c a b:AV):Option AV:=match c with
 | .bool t=>some (if t then a else b)
 | _=>none
def aOw (neg:Bool) (x y:AV):Option AV:=match x,y with
 | .bool a,.bool b=>some (.bool (if neg then a != b else a==b))
 | _,_=>none
def aJx (x:AV):Option AV:=match x with
 | .bool b=>some (.bool !b)
 | _=>none
def aNh (x:AV):Option AV:=match x with
 | .int k n=>some (.int k (k.wrap (0-n)))
 | _=>none
def aGo (k:IntKind) (x:AV):Option AV:=match x with
 | .int _ n=>some (.int k (k.wrap n))
 | _=>none
def aJQ (off:Nat) (x:AV):Option AV:=match x with
 | .pt b o=>some (.pt b (o+off))
 | .fp r i o=>some (.fp r i (o+off))
 | _=>none
def aFQ (q:Bool) (x:AV):Option AV:=match q,x with
 | true,.str s=>some (.int .i64 (s.size:Int))
 | false,.fs rows=>some (.int .i64 (rows.length:Int))
 | false,.sl _ _ _ n=>some (.int .i64 (n:Int))
 | false,.nilsl=>some (.int .i64 0)
 | _,_=>none
def aFZ (s:Nat) (x i:AV):Option AV:=match x,i with
    | .sl b o s' len,.int _ n=>if s'=s∧0≤n∧n<(len:Int) then some (.pt b (o+n.toNat*s)) else none
    | .fs rows,.int _ n=>if 0≤n∧n<(rows.length:Int)∧(rows.getD n.toNat []).length=s then some (.fp rows n.toNat 0) else none
    | _,_=>none
def aJH (s:Nat) (rows:List (List AV)) (j:Nat):Option (List AV)→Option AV
 | some r=>if r.length=s then some (.fp rows j 0) else none
 | none=>none
def aJW (x:AV) (i:Nat):Option AV:=match x with
 | .tup vs=>vs[i]?
 | _=>none

def aFY (len s:Nat) (x i:AV):Option AV:=match x,i with
    | .pt b o,.int _ n=>if 0≤n∧n<(len:Int) then some (.pt b (o+n.toNat*s)) else none
    | .fp r j o,.int _ n=>if 0≤n∧n<(len:Int) then some (.fp r j (o+n.toNat*s)) else none
    | _,_=>none
def aDu (neg:Bool) (ks:List Nat) (x y:AV):Option AV:=match x,y with
    | .agg cs,.agg ds=>(bW ks cs ds).map fun b=>.bool (if neg then !b else b)
    | _,_=>none
def aHK (neg:Bool) (x:Option Bool):Option AV:=match x with
    | some b=>some (.bool (if neg then !b else b))
    | none=>none
def aFX (agg:Bool) (len s:Nat) (x i:AV):Option AV:=match x,i with
    | .agg cs,.int _ n=>if 0≤n∧n<(len:Int) then eE agg s cs (n.toNat*s) else none
    | _,_=>none
def aCc (x:AV):Option AV:=match x with
    | .pt b o=>some (.pt b o)
    | .bp b=>some (.pt b 0)
    | .fp r i o=>some (.fp r i o)
    | .ifc t v=>some (.ifc t v)
    | _=>none
def kG (m:Option (List (Nat×Nat))) (run:bZ) (runY:cN) (o:DOper) (r:List DOper) (e:aF) (h:XH) (b:Bool):AV→Option (aF×XH)
 | .bool t=>if t==b then xo m run runY (o::r) e h else xo m run runY r (aQ e o.dst (.tup [])) h
 | .tup _=>xo m run runY r (aQ e o.dst (.tup [])) h
 | _=>none
theorem Zp {s:Nat} {b:Bool}:xo m run runY (⟨ix,d,op,some (s,b)⟩::r) e h=kG m run runY ⟨ix,d,op,none⟩ r e h b (e s):=by
 cases m with
 | none =>
   simp only[xo,dR,gd]
   cases e s with
   | bool t=>cases ht:t==b<;>simp[kG,xo,dR,gd,ht]
   | _=>rfl
 | some L =>
   simp only[xo,dF,gd]
   cases e s with
   | bool t=>cases ht:t==b<;>simp[kG,xo,dF,gd,ht]
   | _=>rfl
theorem Zq {o:DOper}:kG m run runY o r e h true (.bool true)=xo m run runY (o::r) e h:=rfl
theorem Zr {o:DOper}:kG m run runY o r e h false (.bool false)=xo m run runY (o::r) e h:=rfl
theorem Zs {q:DOp}:kG m run runY ⟨ix,d,q,none⟩ r e h true (.bool false)=xo m run runY r (aQ e d (.tup [])) h:=rfl
theorem Zt {q:DOp}:kG m run runY ⟨ix,d,q,none⟩ r e h false (.bool true)=xo m run runY r (aQ e d (.tup [])) h:=rfl
theorem Zu {a:AO}:xo m run runY (⟨ix,d,.mv a,none⟩::r) e h=xo m run runY r (aQ e d (aK e a)) h:=(wO rfl (fun _=>rfl) (fun _=>rfl) fun _ _=>rfl).trans rfl
theorem Zv {z:List AV}:xo m run runY (⟨ix,d,.alloc z,none⟩::r) e h=xo m run runY r (aQ e d (.pt h.length 0)) (h++[some (.blk (hO z) (.cells true z))]):=(wO rfl (fun _=>rfl) (fun _=>rfl) fun _ _=>rfl).trans rfl
theorem TE:xo m run runY (⟨ix,d,.allocb,none⟩::r) e h=xo m run runY r (aQ e d (.bp h.length)) (h++[some (.blk true (.cells true [.nilpt,.nilsl]))]):=(wO rfl (fun _=>rfl) (fun _=>rfl) fun _ _=>rfl).trans rfl
theorem Zw {p1:_} {p2:_} {p3:_}:xo m run runY (⟨ix,d,(DOp.pick p1 p2 p3),none⟩::r) e h=kV m run runY r d e h (aCZ (aK e p1) (aK e p2) (aK e p3)):=pF rfl (by simp only[aD,oK,aCZ];cases aK e p1<;>rfl) (fun _=>rfl) (fun _=>rfl) fun _ _=>rfl
theorem Zx {p1:_}:xo m run runY (⟨ix,d,(DOp.box p1),none⟩::r) e h=kE m run runY r d e h (fT (aK e p1)) (aD (DOp.box p1) e (cF h)):=wO rfl (fun _=>rfl) (fun _=>rfl) fun _ _=>rfl
theorem Zy {p1:_} {p2:_} {p3:_} {p4:_}:xo m run runY (⟨ix,d,(DOp.bslice p1 p2 p3 p4),none⟩::r) e h=kE m run runY r d e h (hO p3&&p4.all fun p=>fT (aK e p.2.2)) (aD (DOp.bslice p1 p2 p3 p4) e (cF h)):=wO rfl (fun _=>rfl) (fun _=>rfl) fun _ _=>rfl
theorem Zz {p1:_}:xo m run runY (⟨ix,d,(DOp.nilck p1),none⟩::r) e h=kV m run runY r d e h (aCc (aK e p1)):=pF rfl (by simp only[aD,oK,aCc];cases aK e p1<;>rfl) (fun _=>rfl) (fun _=>rfl) fun _ _=>rfl
theorem Z0 {p1:_} {p2:_} {p3:_}:xo m run runY (⟨ix,d,(DOp.bin p1 p2 p3),none⟩::r) e h=kV m run runY r d e h (wK p1 (aK e p2) (aK e p3)):=pF rfl (by simp only[aD,oK];cases wK p1 (aK e p2) (aK e p3)<;>rfl) (fun _=>rfl) (fun _=>rfl) fun _ _=>rfl
theorem Z7 {p1:_} {p2:_} {p3:_} {p4:_}:xo m run runY (⟨ix,d,(DOp.eqag p1 p2 p3 p4),none⟩::r) e h=kV m run runY r d e h (aDu p1 p2 (aK e p3) (aK e p4)):=pF rfl (by simp only[aD,oK,aDu];cases aK e p3<;>cases aK e p4<;>first|rfl|(simp only[];split<;>simp_all)) (fun _=>rfl) (fun _=>rfl) fun _ _=>rfl
theorem Z8 {p1:_}:xo m run runY (⟨ix,d,(DOp.not p1),none⟩::r) e h=kV m run runY r d e h (aJx (aK e p1)):=pF rfl (by simp only[aD,oK,aJx];cases aK e p1<;>rfl) (fun _=>rfl) (fun _=>rfl) fun _ _=>rfl
theorem Z9 {p1:_}:xo m run runY (⟨ix,d,(DOp.neg p1),none⟩::r) e h=kV m run runY r d e h (aNh (aK e p1)):=pF rfl (by simp only[aD,oK,aNh];cases aK e p1<;>rfl) (fun _=>rfl) (fun _=>rfl) fun _ _=>rfl
theorem ZA {p1:_} {p2:_}:xo m run runY (⟨ix,d,(DOp.conv p1 p2),none⟩::r) e h=kV m run runY r d e h (aGo p1 (aK e p2)):=pF rfl (by simp only[aD,oK,aGo];cases aK e p2<;>rfl) (fun _=>rfl) (fun _=>rfl) fun _ _=>rfl
theorem ZB {p1:_} {p2:_}:xo m run runY (⟨ix,d,(DOp.fld p1 p2),none⟩::r) e h=kV m run runY r d e h (aJQ p1 (aK e p2)):=pF rfl (by simp only[aD,oK,aJQ];cases aK e p2<;>rfl) (fun _=>rfl) (fun _=>rfl) fun _ _=>rfl
theorem ZC {p1:_} {p2:_} {p3:_} {p4:_}:xo m run runY (⟨ix,d,(DOp.idxa p1 p2 p3 p4),none⟩::r) e h=kV m run runY r d e h (aFY p1 p2 (aK e p3) (aK e p4)):=pF rfl (by simp only[aD,oK,aFY];cases aK e p3<;>cases aK e p4<;>first|rfl|(simp only[];split<;>rfl)) (fun _=>rfl) (fun _=>rfl) fun _ _=>rfl
theorem ZD {p1:_} {p2:_} {p3:_}:xo m run runY (⟨ix,d,(DOp.idx p1 p2 p3),none⟩::r) e h=kV m run runY r d e h (aFZ p1 (aK e p2) (aK e p3)):=pF rfl (by simp only[aD,oK,aFZ];cases aK e p2<;>cases aK e p3<;>first|rfl|(simp only[];split<;>rfl)) (fun _=>rfl) (fun _=>rfl) fun _ _=>rfl
theorem ZE {p1:_} {p2:_} {p3:_} {p4:_} {p5:_}:xo m run runY (⟨ix,d,(DOp.idxv p1 p2 p3 p4 p5),none⟩::r) e h=kV m run runY r d e h (aFX p1 p2 p3 (aK e p4) (aK e p5)):=pF rfl (by simp only[aD,oK,aFX];cases aK e p4<;>cases aK e p5<;>first|rfl|(simp only[];split<;>first|rfl|(split<;>simp_all))) (fun _=>rfl) (fun _=>rfl) fun _ _=>rfl
theorem ZF {p1:_} {p2:_} {p3:_} {p4:_} {p5:_}:xo m run runY (⟨ix,d,(DOp.slarr p1 p2 p3 p4 p5),none⟩::r) e h=kE m run runY r d e h false (aD (DOp.slarr p1 p2 p3 p4 p5) e (cF h)):=wO rfl (fun _=>rfl) (fun _=>rfl) fun _ _=>rfl
theorem ZG {p1:_} {p2:_} {p3:_} {p4:_}:xo m run runY (⟨ix,d,(DOp.slsl p1 p2 p3 p4),none⟩::r) e h=kE m run runY r d e h false (aD (DOp.slsl p1 p2 p3 p4) e (cF h)):=wO rfl (fun _=>rfl) (fun _=>rfl) fun _ _=>rfl
theorem ZH {p1:_} {p2:_} {p3:_}:xo m run runY (⟨ix,d,(DOp.slstr p1 p2 p3),none⟩::r) e h=kE m run runY r d e h false (aD (DOp.slstr p1 p2 p3) e (cF h)):=wO rfl (fun _=>rfl) (fun _=>rfl) fun _ _=>rfl
theorem ZI {p1:_} {p2:_}:xo m run runY (⟨ix,d,(DOp.ext p1 p2),none⟩::r) e h=kV m run runY r d e h (aJW (aK e p1) p2):=pF rfl (by simp only[aD,oK,aJW];cases aK e p1<;>first|rfl|(simp only[];split<;>simp_all)) (fun _=>rfl) (fun _=>rfl) fun _ _=>rfl
theorem ZJ {p1:_} {p2:_}:xo m run runY (⟨ix,d,(DOp.len p1 p2),none⟩::r) e h=kV m run runY r d e h (aFQ p1 (aK e p2)):=pF rfl (by simp only[aD,oK,aFQ];cases p1<;>cases aK e p2<;>rfl) (fun _=>rfl) (fun _=>rfl) fun _ _=>rfl
theorem ZK {p1:_}:xo m run runY (⟨ix,d,(DOp.bytes p1),none⟩::r) e h=kE m run runY r d e h true (aD (DOp.bytes p1) e (cF h)):=wO rfl (fun _=>rfl) (fun _=>rfl) fun _ _=>rfl
theorem ZL {a:Bool} {n:Nat} {x:AO}:xo none run runY (⟨ix,d,.load a n x,none⟩::r) e h=kV none run runY r d e h (cZ a n (cF h) (aK e x)):=by
 show dR run runY _ e h=_
 simp only[dR,gd,bR,aD]
 cases cZ a n (cF h) (aK e x)<;>rfl
def aNm (ix:Nat) (v:AV) (L:List (Nat×Nat)):List (Nat×Nat):=match dM v with
 | some b=>(ix,b)::L
 | none=>L
theorem ZM {b o:Nat} {L:List (Nat×Nat)}:aNm ix (.pt b o) L=(ix,b)::L:=rfl
theorem ZN {a:Bool} {n:Nat} {x:AO} {L:List (Nat×Nat)}:xo (some L) run runY (⟨ix,d,.load a n x,none⟩::r) e h=kV (some (aNm ix (aK e x) L)) run runY r d e h (cZ a n (cF h) (aK e x)):=by
 show dF run runY _ e h L=_
 simp only[dF,gd,bR,aD,oI,if_true]
 cases cZ a n (cF h) (aK e x)<;>rfl

def kH (m:Option (List (Nat×Nat))) (run:bZ) (runY:cN) (r:List DOper) (d:Option Nat) (e:aF) (v:AV):Option XH→Option (aF×XH)
 | some h=>xo m run runY r (aQ e d v) h
 | none=>none
theorem ZO:kH m run runY r d e v (some h)=xo m run runY r (aQ e d v) h:=rfl
theorem ZP {n:Nat} {p x:AO} {l:List Nat}:xo none run runY (⟨ix,d,.store n p x l,none⟩::r) e h=kH none run runY r d e .any (iP n h (aK e p) (aK e x)):=by
 show dR run runY _ e h=_
 simp only[dR,gd,bR]
 cases iP n h (aK e p) (aK e x)<;>rfl
def vL {α:Type} (b:Bool) (x:Option α):Option α:=if b then x else none
theorem ZQ {α:Type} {x:Option α}:vL true x=x:=rfl
theorem ZR {n:Nat} {p x:AO} {l:List Nat} {L:List (Nat×Nat)}:xo (some L) run runY (⟨ix,d,.store n p x l,none⟩::r) e h=vL (L.all fun q => !l.contains q.1||dM (aK e p) != some q.2) (kH (some L) run runY r d e .any (iP n h (aK e p) (aK e x))):=by
 show dF run runY _ e h L=_
 simp only[dF,gd,bR,oI,vL]
 cases iP n h (aK e p) (aK e x)<;>rfl
def kR (m:Option (List (Nat×Nat))) (run:bZ) (runY:cN) (r:List DOper) (d:Option Nat) (e:aF):Option (AV×XH)→Option (aF×XH)
 | some (v,h)=>xo m run runY r (aQ e d v) h
 | none=>none
theorem ZS:kR m run runY r d e (some (v,h))=xo m run runY r (aQ e d v) h:=rfl
def zI (s:Nat) (h:XH) (x y:AV):Option (AV×XH):=(tR s h x y).map fun r=>(.int .i64 (r.1:Int),r.2)
theorem ZT {s:Nat} {x y:AO}:xo none run runY (⟨ix,d,.copy s x y,none⟩::r) e h=kR none run runY r d e (zI s h (aK e x) (aK e y)):=by
 show dR run runY _ e h=_
 simp only[dR,gd,bR,zI]
 cases tR s h (aK e x) (aK e y)<;>rfl
theorem ZU {f:AO} {xs:List AO} {l:List Nat}:xo none run runY (⟨ix,d,.callf false f xs l,none⟩::r) e h=kR none run runY r d e (gD run runY (aK e f) (xs.map (aK e)) h):=by
 show dR run runY _ e h=_
 simp only[dR,gd,bR]
 cases gD run runY (aK e f) (xs.map (aK e)) h<;>rfl
def kRL (L:List (Nat×Nat)) (l:List Nat) (run:bZ) (runY:cN) (r:List DOper) (d:Option Nat) (e:aF) (h:XH) (ps:List Nat):Option (AV×XH)→Option (aF×XH)
 | some (v,h')=>vL (L.all fun q=>(bF h' q.2).isSome&&(!l.contains q.1||(!ps.contains q.2||aAF (bF h q.2) (bF h' q.2)))) (xo (some L) run runY r (aQ e d v) h')
 | none=>none
theorem ZV {f:AO} {xs:List AO} {l:List Nat} {L:List (Nat×Nat)}:xo (some L) run runY (⟨ix,d,.callf false f xs l,none⟩::r) e h=kRL L l run runY r d e h (bT (aK e f) (xs.map (aK e)) h) (gD run runY (aK e f) (xs.map (aK e)) h):=by
 show dF run runY _ e h L=_
 simp only[dF,gd,bR,oI,if_true]
 cases gD run runY (aK e f) (xs.map (aK e)) h<;>rfl
theorem ZW {L:List (Nat×Nat)} {l:List Nat} {h':XH} {ps:List Nat}:kRL L l run runY r d e h ps (some (v,h'))=vL (L.all fun q=>(bF h' q.2).isSome&&(!l.contains q.1||(!ps.contains q.2||aAF (bF h q.2) (bF h' q.2)))) (xo (some L) run runY r (aQ e d v) h'):=rfl
theorem ZX {f:AO} {xs:List AO} {l:List Nat}:xo m run runY (⟨ix,d,.callf true f xs l,none⟩::r) e h=kV m run runY r d e h (hZ run (aK e f) (xs.map (aK e)) h):=by
 cases m with
 | none =>
   show dR run runY _ e h=_
   simp only[dR,gd,bR]
   cases hZ run (aK e f) (xs.map (aK e)) h<;>rfl
 | some L =>
   show dF run runY _ e h L=_
   simp only[dF,gd,bR,oI,if_true]
   cases hZ run (aK e f) (xs.map (aK e)) h<;>rfl
theorem ZY {s b:Nat} {x y:AO}:xo none run runY (⟨ix,d,.app s b x y,none⟩::r) e h=kE none run runY r d e h (gL h (aK e x)&&gL h (aK e y)) (kZ s b (cF h) (aK e x) (aK e y)):=by
 rw[←aIA];rfl

def aJq (acc:List Nat) (b:Nat):Option Nat:=eJ b acc
def aIE (acc:List Nat) (run:bZ) (g:Nat) (all:List AV) (h:XH):Option (AV×XH):=(run g (jE (fun b=>eJ b acc) all) (fO acc h)).map (mH acc h)
theorem ZZ {g:Nat} {first cap as:List AV}:gD run runY (.fn (.func g) first cap) as h=aIE (mD (first++as++cap) h) run g (first++as++cap) h:=rfl
def kM (acc:List Nat) (h:XH) (r:Option (AV×XH)):Option (AV×XH):=r.map (mH acc h)
theorem Ya {acc:List Nat} {g:Nat} {all:List AV}:aIE acc run g all h=kM acc h (run g (jE (aJq acc) all) (fO acc h)):=rfl
end
theorem Yb {x y:AV}:aCZ (.bool true) x y=some x:=rfl
theorem Yc {x y:AV}:aCZ (.bool false) x y=some y:=rfl
theorem Yd {a b:Bool}:aOw false (.bool a) (.bool b)=some (.bool (a==b)):=rfl
theorem Ye {b:Bool}:aJx (.bool b)=some (.bool !b):=rfl
theorem Yf {k k':IntKind} {n:Int}:aGo k (.int k' n)=some (.int k (k.wrap n)):=rfl
theorem Yg {off b o:Nat}:aJQ off (.pt b o)=some (.pt b (o+off)):=rfl
theorem Yh {rows:List (List AV)}:aFQ false (.fs rows)=some (.int .i64 (rows.length:Int)):=rfl
theorem Yi {b o s n:Nat}:aFQ false (.sl b o s n)=some (.int .i64 (n:Int)):=rfl
theorem Yj {s:ByteArray}:aFQ true (.str s)=some (.int .i64 (s.size:Int)):=rfl
theorem Yk {b o s s' len:Nat} {k:IntKind} {n:Int}:aFZ s (.sl b o s' len) (.int k n)=if s'=s∧0≤n∧n<(len:Int) then some (.pt b (o+n.toNat*s)) else none:=rfl
theorem Yl {s:Nat} {rows:List (List AV)} {k:IntKind} {n:Int}:aFZ s (.fs rows) (.int k n)=if 0≤n∧n<(rows.length:Int) then aJH s rows n.toNat rows[n.toNat]? else none:=by
 simp only[aFZ,aJH]
 by_cases h:0≤n∧n<(rows.length:Int)
 ·have h2:n.toNat<rows.length:=by omega
  rw[List.getElem?_eq_getElem h2,List.getD_eq_getElem?_getD,List.getElem?_eq_getElem h2,Option.getD_some]
  simp only[h,true_and]
  simp only[and_self,if_true]
 ·rw[if_neg h,if_neg (fun hc=>h ⟨hc.1,hc.2.1⟩)]
theorem Ym {s j:Nat} {rows:List (List AV)} {r:List AV}:aJH s rows j (some r)=if r.length=s then some (.fp rows j 0) else none:=rfl
theorem Yn {vs:List AV} {i:Nat}:aJW (.tup vs) i=vs[i]?:=rfl
theorem Yo {k:IntKind} {a b:Int}:gI .add k a k b=some (.int k (k.wrap (a+b))):=by simp[gI]
theorem Yp {k:IntKind} {a b:Int}:gI .sub k a k b=some (.int k (k.wrap (a-b))):=by simp[gI]
theorem Yq {k:IntKind} {a b:Int}:gI .mul k a k b=some (.int k (k.wrap (a*b))):=by simp[gI]
theorem Yr {k:IntKind} {a b:Int}:gI .eql k a k b=some (.bool (decide (a=b))):=by simp[gI];rfl
theorem Ys {k:IntKind} {a b:Int}:gI .neq k a k b=some (.bool !(decide (a=b))):=by simp[gI];rfl
theorem Yt {k:IntKind} {a b:Int}:gI .lss k a k b=some (.bool (decide (a<b))):=by simp[gI]
theorem Yu {k:IntKind} {a b:Int}:gI .leq k a k b=some (.bool (decide (a≤b))):=by simp[gI]
theorem Yv {k:IntKind} {a b:Int}:gI .gtr k a k b=some (.bool (decide (b<a))):=by simp[gI]
theorem Yw {n:Int}:(n=n)=True:=by simp
theorem Yx {n:Nat}:(0≤(n:Int))=True:=by simp
theorem Yy {n:Nat}:(n:Int).toNat=n:=by simp
theorem Yz:IntKind.i64.wrap 0=0:=rfl
theorem Y2:IntKind.i64.wrap 1=1:=rfl
theorem Y3:IntKind.i64.wrap 2=2:=rfl
theorem Y4:(0:Int).toNat=0:=rfl
theorem Y5:((0:Nat):Int)=0:=rfl
theorem Y6:(1:Int).toNat=1:=rfl
theorem Y7:((1:Nat):Int)=1:=rfl
theorem Y8:((2:Nat):Int)=2:=rfl
theorem Y9:(4:Int).toNat=4:=rfl
theorem YA {len s b o:Nat} {k:IntKind} {n:Int}:aFY len s (.pt b o) (.int k n)=if 0≤n∧n<(len:Int) then some (.pt b (o+n.toNat*s)) else none:=rfl
theorem YB {neg:Bool} {ks:List Nat} {cs ds:List AV}:aDu neg ks (.agg cs) (.agg ds)=aHK neg (bW ks cs ds):=by cases h:bW ks cs ds<;>simp[aDu,aHK,h]
theorem YC {b:Bool}:aHK true (some b)=some (.bool !b):=rfl
theorem YD {b:Bool}:aHK false (some b)=some (.bool b):=rfl
theorem YE {agg:Bool} {len s:Nat} {cs:List AV} {k:IntKind} {n:Int}:aFX agg len s (.agg cs) (.int k n)=if 0≤n∧n<(len:Int) then eE agg s cs (n.toNat*s) else none:=rfl
theorem TF {b:Nat}:aCc (.bp b)=some (.pt b 0):=rfl
theorem YF {k:IntKind} {n:Int}:sD (.int k n)=([]:List Nat):=rfl
theorem YG {t:Bool}:sD (.bool t)=([]:List Nat):=rfl
theorem YH {t:ByteArray}:sD (.str t)=([]:List Nat):=rfl
theorem YJ {cs:List AV}:sD (.agg cs)=(qI cs:List Nat):=rfl
theorem YK {cs:List AV}:sD (.tup cs)=(qI cs:List Nat):=rfl
theorem YL {rows:List (List AV)}:sD (.fs rows)=([]:List Nat):=rfl
theorem YM {b o s n:Nat}:sD (.sl b o s n)=([b]:List Nat):=rfl
theorem YN {b o:Nat}:sD (.pt b o)=([b]:List Nat):=rfl
theorem YO  : sD .nilsl=([]:List Nat):=rfl
theorem YP {g:Nat} {fs us:List AV}:sD (.fn (.func g) fs us)=(qI fs++qI us:List Nat):=rfl
theorem YQ {ty:TypeId} {v:AV}:sD (.ifc ty v)=(sD v:List Nat):=rfl
theorem YR  : sD .nilifc=([]:List Nat):=rfl
theorem YT  : sD .any=([]:List Nat):=rfl
theorem YU {k:IntKind} {n:Int}:fT (.int k n)=(true:Bool):=rfl
theorem YV {t:ByteArray}:fT (.str t)=(true:Bool):=rfl
theorem YX {cs:List AV}:fT (.agg cs)=(hO cs:Bool):=rfl
theorem YY {b o:Nat}:fT (.pt b o)=(false:Bool):=rfl
theorem YZ {s:Nat→Option Nat} {k:IntKind} {n:Int}:rnA s (.int k n)=((.int k n):AV):=rfl
theorem Xa {s:Nat→Option Nat} {t:Bool}:rnA s (.bool t)=((.bool t):AV):=rfl
theorem Xb {s:Nat→Option Nat} {t:ByteArray}:rnA s (.str t)=((.str t):AV):=rfl
theorem Xc {s:Nat→Option Nat} {cs:List AV}:rnA s (.agg cs)=(.agg (jE s cs):AV):=rfl
theorem Xd {s:Nat→Option Nat} {cs:List AV}:rnA s (.tup cs)=(.tup (jE s cs):AV):=rfl
theorem Xe {s:Nat→Option Nat} {rows:List (List AV)}:rnA s (.fs rows)=((.fs rows):AV):=rfl
theorem Xf {s:Nat→Option Nat} {b o s2 n:Nat}:rnA s (.sl b o s2 n)=((match s b with|some c=>.sl c o s2 n|none=>.any):AV):=by simp only[rnA]<;>rfl
theorem Xg {s:Nat→Option Nat} {b o:Nat}:rnA s (.pt b o)=((match s b with|some c=>.pt c o|none=>.any):AV):=by simp only[rnA]<;>rfl
theorem Xh {s:Nat→Option Nat}  : rnA s .nilsl=(.nilsl:AV):=rfl
theorem Xi {s:Nat→Option Nat} {g:Nat} {fs us:List AV}:rnA s (.fn (.func g) fs us)=(.fn (.func g) (jE s fs) (jE s us):AV):=rfl
theorem Xj {s:Nat→Option Nat}  : rnA s .nilifc=(.nilifc:AV):=rfl
theorem Xk {k:IntKind} {n:Int}:rX (.int k n)=([]:List Nat):=rfl
theorem Xl {t:Bool}:rX (.bool t)=([]:List Nat):=rfl
theorem Xm {t:ByteArray}:rX (.str t)=([]:List Nat):=rfl
theorem Xn {cs:List AV}:rX (.agg cs)=(slL cs:List Nat):=rfl
theorem Xo {cs:List AV}:rX (.tup cs)=(slL cs:List Nat):=rfl
theorem Xp {rows:List (List AV)}:rX (.fs rows)=([]:List Nat):=rfl
theorem Xq {b o s n:Nat}:rX (.sl b o s n)=([b]:List Nat):=rfl
theorem Xr  : rX .nilsl=([]:List Nat):=rfl
theorem Xs  : rX .nilpt=([]:List Nat):=rfl
theorem Xt {g:Nat} {fs us:List AV}:rX (.fn (.func g) fs us)=([]:List Nat):=rfl
theorem Xu {ty:TypeId} {v:AV}:rX (.ifc ty v)=(rX v:List Nat):=rfl
theorem Xv  : rX .nilifc=([]:List Nat):=rfl
theorem Xw {B:Nat} {C:List AV} {k:IntKind} {n:Int}:fzA B C (.int k n)=((.int k n):AV):=rfl
theorem Xx {B:Nat} {C:List AV} {b o s n:Nat}:fzA B C (.sl b o s n)=((if b=B∧o+n*s≤C.length then .fs (bY C o s n) else .sl b o s n):AV):=rfl
theorem Xy {B:Nat} {C:List AV} {b o:Nat}:fzA B C (.pt b o)=((.pt b o):AV):=rfl
theorem Xz {k:IntKind} {n:Int}:nZ (.int k n)=((.int k n):AV):=rfl
theorem X0 {t:Bool}:nZ (.bool t)=((.bool t):AV):=rfl
theorem XI {t:ByteArray}:nZ (.str t)=((.str t):AV):=rfl
theorem XJ {cs:List AV}:nZ (.agg cs)=(.agg (iF cs):AV):=rfl
theorem XK {cs:List AV}:nZ (.tup cs)=(.tup (iF cs):AV):=rfl
theorem XL {rows:List (List AV)}:nZ (.fs rows)=((.fs rows):AV):=rfl
theorem XM {b o s n:Nat}:nZ (.sl b o s n)=((.sl b o s n):AV):=rfl
theorem XN  : nZ .nilsl=(.fs []:AV):=rfl
theorem XO  : nZ .nilifc=(.nilifc:AV):=rfl
theorem XV {k:IntKind} {n:Int}:cellsOf (.int k n)=(some [(.int k n)]:Option (List AV)):=rfl
theorem XW {t:ByteArray}:cellsOf (.str t)=(some [(.str t)]:Option (List AV)):=rfl
theorem XX {cs:List AV}:cellsOf (.agg cs)=(some cs:Option (List AV)):=rfl
theorem XY {b o:Nat}:dM (.pt b o)=(some b:Option Nat):=rfl
def aDn (k:Nat) (acc:List Nat) (h:XH) (r:List Nat):XH:=r.map fun b=>zU (fH k acc) (bF h b)
def aHz (acc:List Nat) (h:XH) (r:List Nat):XH:=r.map fun b=>zU (fun b=>eJ b acc) (bF h b)
def fzQ (fz:List (Nat×Bool)) (e:aF) (h:XH):List Nat:=fz.flatMap (aHG e h)
def kF (own:Bool) (k:Nat) (h:XH) (r:Option AV):Option (AV×XH):=r.map fun v=>jP own k v h
def aJU (k:Nat) (h:XH) (v:AV) (acc:List Nat):AV×XH:=(rnA (fH k acc) v,lI k acc h)
def aOt (k:Nat) (p:aF×XH):AV×XH:=aJU k p.2 (nZ (p.1 0)) (dD k [nZ (p.1 0)] p.2)
def aHj:Option (List AV)→Option AV
 | some [v]=>some v
 | some vs=>some (.tup vs)
 | none=>none
def aFs:Option AV→Option (List AV)→Option (List AV)
 | some v,some vs=>some (v::vs)
 | _,_=>none
def aDy (v:AV) (a b:aF→XH→Option (DX×aF×XH)) (e:aF) (h:XH):Option (DX×aF×XH):=match v with
 | .bool true=>a e h
 | .bool false=>b e h
 | _=>none
def ldM (agg:Bool) (n o:Nat):Option ABlk→Option AV
 | some (.cells _ cs)=>eE agg n cs o
 | _=>none
def ldR (agg:Bool) (n o:Nat):Option (List AV)→Option AV
 | some r=>eE agg n r o
 | none=>none
def stM (n b o:Nat) (h:XH):Option XB→Option (List AV)→Option XH
 | some (.blk g (.cells true cs)),some vs=>if vs.length=n∧o+n≤cs.length then some (h.set b (some (.blk (g&&hO vs) (.cells true (bL cs o vs))))) else none
 | _,_=>none
def flM:Option XB→Bool
 | some (.blk g _)=>g
 | _=>false

theorem XZ {x:Option XB} {h:XH} {b:Nat}:bF (x::h) b=if b=0 then x else bF h (b-1):=by cases b<;>simp[bF]
def hpM:Option XB→Option ABlk
 | some (.blk _ x)=>some x
 | _=>none
theorem Wa {h:XH} {b:Nat}:cF h b=hpM (bF h b):=rfl
theorem Wb {g:Bool} {x:ABlk}:hpM (some (.blk g x))=some x:=rfl
theorem Wc {α:Type} {x y:α} {h:List α} {b:Nat}:(x::h).set b y=if b=0 then y::h else x::h.set (b-1) y:=by cases b<;>simp
theorem Wd {α:Type} {x:α} {l:List α} {n:Nat}:(x::l).take n=if n=0 then [] else x::l.take (n-1):=by cases n<;>simp
theorem We {α:Type} {n:Nat}:([]:List α).take n=[]:=by simp
theorem Wf {α:Type} {x:α} {l:List α} {n:Nat}:(x::l).drop n=if n=0 then x::l else l.drop (n-1):=by cases n<;>simp
theorem Wg {α:Type} {n:Nat}:([]:List α).drop n=[]:=by simp
theorem Wh {α:Type} {x d:α} {l:List α} {n:Nat}:(x::l).getD n d=if n=0 then x else l.getD (n-1) d:=by cases n<;>simp
theorem Wi {α:Type} {x:α} {l:List α} {n:Nat}:(x::l)[n]?=if n=0 then some x else l[n-1]?:=by cases n<;>simp
theorem Wj {α:Type} {a:α}:(a∈([]:List α))=False:=by simp
theorem Wk {α:Type} {a b:α} {l:List α}:(a∈b::l)=(a=b∨a∈l):=by simp
theorem Wl {acc:List Nat} {b:Nat}:aJq acc b=eJ b acc:=rfl
theorem Wm {b c:Nat} {r:List Nat}:eJ b (c::r)=if b=c then some 0 else (eJ b r).map (· + 1):=rfl
theorem Wn {k:Nat} {acc:List Nat} {b:Nat}:fH k acc b=if b<k then some b else (eJ b acc).map (· + k):=rfl
theorem Wo {acc:List Nat} {n i:Nat}:gF acc n i=if i<acc.length then acc[i]? else some (n+(i-acc.length)):=rfl
theorem Wp {h:XH} {k n:Nat} {acc:List Nat}:dT h k n [] acc=acc:=by cases n<;>rfl
def aFu (h:XH) (k n:Nat) (r:List Nat) (acc:List Nat) (b:Nat):Option XB→List Nat
 | none=>dT h k n r acc
 | some x=>dT h k n (nmB x++r) (acc++[b])
theorem Wq {h:XH} {k n:Nat} {r acc:List Nat} {b:Nat} {x:XB}:aFu h k n r acc b (some x)=dT h k n (nmB x++r) (acc++[b]):=rfl
theorem Wr {h:XH} {k n:Nat} {b:Nat} {r acc:List Nat}:dT h k n (b::r) acc=if n=0 then acc else if b<k∨b∈acc then dT h k (n-1) r acc else aFu h k (n-1) r acc b (bF h b):=by
 cases n with
 | zero=>rfl
 | succ n=>simp only[dT,Nat.add_one_ne_zero,if_false,Nat.add_sub_cancel];cases bF h b<;>rfl
theorem Ws {xs:List AV} {h:XH}:mD xs h=dT h 0 4096 (qI xs) []:=rfl
theorem Wt {k:Nat} {vs:List AV} {h:XH}:dD k vs h=dT h k 4096 (qI vs++(cA k h).flatMap nmO) []:=rfl
theorem Wu {n:Nat}:cA n []=List.replicate n none:=by induction n with
 | zero=>rfl
 | succ n ih=>simp[cA,ih,List.replicate_succ]
theorem Wv {x:Option XB} {h:XH} {n:Nat}:cA n (x::h)=if n=0 then [] else x::cA (n-1) h:=by cases n<;>rfl
theorem Ww {k:Nat} {acc:List Nat} {h:XH}:lI k acc h=(cA k h).map (zU (fH k acc))++aDn k acc h acc:=rfl
theorem Wx {k:Nat} {acc:List Nat} {h:XH}:aDn k acc h []=[]:=rfl
theorem Wy {k:Nat} {acc:List Nat} {h:XH} {b:Nat} {r:List Nat}:aDn k acc h (b::r)=zU (fH k acc) (bF h b)::aDn k acc h r:=rfl
theorem Wz {acc:List Nat} {h:XH}:fO acc h=aHz acc h acc:=rfl
theorem WB {acc:List Nat} {h:XH}:aHz acc h []=[]:=rfl
theorem WC {acc:List Nat} {h:XH} {b:Nat} {r:List Nat}:aHz acc h (b::r)=zU (aJq acc) (bF h b)::aHz acc h r:=rfl
theorem WE {s:Nat→Option Nat}:zU s none=none:=rfl
theorem WF {s:Nat→Option Nat} {x:XB}:zU s (some x)=some (rnB s x):=rfl
theorem WG {s:Nat→Option Nat} {x:ABlk}:rnB s (.blk true x) = .blk true x:=by cases x<;>rfl
theorem WH {s:Nat→Option Nat} {w:Bool} {cs:List AV}:rnB s (.blk false (.cells w cs)) = .blk false (.cells w (jE s cs)):=rfl
theorem WI:nmO none=[]:=rfl
theorem WJ {x:XB}:nmO (some x)=nmB x:=rfl
theorem WK {x:ABlk}:nmB (.blk true x)=[]:=by cases x<;>rfl
theorem WL {w:Bool} {cs:List AV}:nmB (.blk false (.cells w cs))=qI cs:=rfl
theorem WM {acc:List Nat} {h hl:XH} {v:AV}:kM acc h (some (v,hl))=some (rnA (gF acc h.length) v,fF acc h hl):=rfl
theorem WN {acc:List Nat} {h hl:XH}:fF acc h hl=nY h acc ((cA acc.length hl).map (zU (gF acc h.length)))++(hl.drop acc.length).map (zU (gF acc h.length)):=rfl
theorem WO {h:XH} {xs:XH}:nY h [] xs=h:=by cases xs<;>rfl
theorem WP {h:XH} {b:Nat} {bs:List Nat} {x:Option XB} {xs:XH}:nY h (b::bs) (x::xs)=nY (h.set b x) bs xs:=rfl
theorem WQ {a:Nat}:List.elem a []=false:=rfl
theorem WR {a b:Nat} {l:List Nat}:List.elem a (b::l)=if a=b then true else List.elem a l:=by
 by_cases h:a=b
 ·simp only[List.elem,h,if_true,beq_self_eq_true]
 ·simp only[List.elem,show (a==b)=false by simpa using h,if_neg h]
theorem WS {g:Nat} {first cap as:List AV} {h:XH}:bT (.fn (.func g) first cap) as h=mD (first++as++cap) h:=rfl
theorem WT {α:Type} {x:α}:(some x).isSome=true:=rfl
theorem WU {b:Bool}:(b==true)=b:=by cases b<;>rfl
def fzE (b:Nat) (cs:List AV) (e:aF):aF:=fun j=>fzA b cs (e j)
theorem WV {b:Nat} {cs:List AV} {e:aF} {j:Nat}:fzE b cs e j=fzA b cs (e j):=rfl
def aHH (b:Nat) (e:aF) (h:XH):Option XB→aF×XH
 | some (.blk true (.cells _ cs))=>(fzE b cs e,(h.map (fzO b cs)).set b none)
 | _=>(e,h)
theorem WW {b:Nat} {e:aF} {h:XH} {w:Bool} {cs:List AV}:aHH b e h (some (.blk true (.cells w cs)))=(fzE b cs e,(h.map (fzO b cs)).set b none):=rfl
theorem aJP {b:Nat} {e:aF} {h:XH}:fz1 b e h=aHH b e h (bF h b):=by
 unfold fz1 aHH
 cases bF h b with
 | none=>rfl
 | some x=>cases x with
   | loop=>rfl
   | blk g x=>cases g<;>cases x<;>rfl
def fzP (r:List Nat) (p:aF×XH):aF×XH:=rK r p.1 p.2
theorem WX {r:List Nat} {e:aF} {h:XH}:fzP r (e,h)=rK r e h:=rfl
theorem Va {e:aF} {h:XH}:rK [] e h=(e,h):=rfl
theorem Vb {b:Nat} {r:List Nat} {e:aF} {h:XH}:rK (b::r) e h=fzP r (aHH b e h (bF h b)):=by rw[←aJP];rfl
def nzP (fz:List (Nat×Bool)) (p:aF×XH):aF×XH:=(yC fz p.1,p.2)
theorem T8 {fz:List (Nat×Bool)} {e:aF} {h:XH}:nzP fz (e,h)=(yC fz e,h):=rfl
theorem T9 {e:aF}:yC [] e=e:=rfl
theorem TA {k j:Nat} {r:List (Nat×Bool)} {e:aF}:yC ((k,false)::r) e j=if j=k then nZ (yC r e j) else yC r e j:=rfl
def fzY (fz:List (Nat×Bool)) (e:aF) (h:XH):aF×XH:=nzP fz (rK (fzQ fz e h) e h)
theorem Vc {fz:List (Nat×Bool)} {e:aF} {h:XH}:fzX fz e h=fzY fz e (oF fz e h):=rfl
theorem TB {fz:List (Nat×Bool)} {e:aF} {h:XH}:fzY fz e h=nzP fz (rK (fzQ fz e h) e h):=rfl
theorem TC {e:aF} {h:XH}:oF [] e h=h:=rfl
theorem TD {k:Nat} {b:Bool} {r:List (Nat×Bool)} {e:aF} {h:XH}:oF ((k,b)::r) e h=if 1000000≤k then aCK (e (k-1000000)) (oF r e h) else oF r e h:=rfl
theorem Vd {e:aF} {h:XH}:fzQ [] e h=[]:=rfl
theorem Ve {j:Nat} {r:List (Nat×Bool)} {e:aF} {h:XH}:fzQ ((j,false)::r) e h=jR h 2 (rX (e j))++fzQ r e h:=rfl
def dpM (h:XH) (n b:Nat) (x:Option XB):List Nat:=aID (jR h n) b x
theorem Tx {h:XH} {n:Nat}:jR h n []=[]:=by cases n<;>rfl
theorem Ty {h:XH} {b:Nat} {r:List Nat}:jR h 2 (b::r)=dpM h 1 b (bF h b)++jR h 2 r:=by simp only[jR,List.flatMap_cons,dpM]
theorem Tz {h:XH} {n b:Nat} {x:ABlk}:dpM h n b (some (.blk true x))=[b]:=by cases x<;>rfl
theorem Vf {b:Nat} {cs:List AV}:fzO b cs none=none:=rfl
theorem Vg {b:Nat} {cs:List AV} {x:XB}:fzO b cs (some x)=some (fzB b cs x):=rfl
theorem Vh {b:Nat} {cs vs:List AV} {w:Bool}:fzB b cs (.blk false (.cells w vs)) = .blk (hO (fzL b cs vs)) (.cells w (fzL b cs vs)):=rfl
theorem Vi {b:Nat} {cs:List AV} {x:ABlk}:fzB b cs (.blk true x) = .blk true x:=by cases x<;>rfl
theorem Tu {cs:List AV} {o s:Nat}:bY cs o s 0=[]:=rfl
theorem Tv {cs:List AV} {o s:Nat}:bY cs o s 1=(cs.drop o).take s::bY cs (o+s) s 0:=rfl
theorem Vj {res:List (Nat×Option (Bool×Nat))} {own:Bool} {k:Nat} {e:aF} {h:XH}:eG none res own k (some (.ret,e,h))=kF own k h (jF res e (cF h)):=rfl
theorem Vk {own:Bool} {k:Nat} {h:XH} {v:AV}:kF own k h (some v)=some (jP own k v h):=rfl
theorem Vl {k:Nat} {h:XH} {v:AV}:jP false k v h=aOt k (rK (jR h 2 (rX v)) (upd anyE 0 v) h):=rfl
theorem Vm {k:Nat} {h:XH} {e:aF}:aOt k (e,h)=aJU k h (nZ (e 0)) (dD k [nZ (e 0)] h):=rfl
theorem Vn {k:Nat} {h:XH} {v:AV} {acc:List Nat}:aJU k h v acc=(rnA (fH k acc) v,lI k acc h):=rfl
theorem Vo {rs:List (Nat×Option (Bool×Nat))} {e:aF} {h:Hp}:jF rs e h=aHj (lW e h rs):=by unfold jF aHj;cases lW e h rs<;>rfl
theorem Vp {v:AV}:aHj (some [v])=some v:=rfl
theorem Vq {v u:AV} {r:List AV}:aHj (some (v::u::r))=some (.tup (v::u::r)):=rfl
theorem Vr {e:aF} {h:Hp}:lW e h []=some []:=rfl
theorem Vs {e:aF} {h:Hp} {x:Nat×Option (Bool×Nat)} {r:List (Nat×Option (Bool×Nat))}:lW e h (x::r)=aFs (lX e h x) (lW e h r):=by simp only[lW,aFs]<;>rfl
theorem Vt {v:AV} {vs:List AV}:aFs (some v) (some vs)=some (v::vs):=rfl
theorem Vu {e:aF} {h:Hp} {t:Nat}:lX e h (t,none)=some (e t):=rfl
theorem Vv {e:aF} {h:Hp} {a n:Nat} {g:Bool}:lX e h (a,some (g,n))=cZ g n h (e a):=rfl
theorem Vw {as:List AV} {k:Nat}:aY as k=as.getD k .any:=rfl
theorem Vx {k:Nat} {ks:List Nat} {v:AV} {vs:List AV} {j:Nat}:lL (k::ks) (v::vs) j=if j=k then v else lL ks vs j:=rfl
theorem Vy {k:Nat} {L:List Nat} {e:aF} {h:XH}:aCA k L e h=jE (fH k (dD k (L.map e) h)) (L.map e):=rfl
theorem Vz {k:Nat} {L:List Nat} {e:aF} {h:XH}:kX k L e h=lI k (dD k (L.map e) h) h:=rfl
theorem V0 {D:Nat→Option XFn} {K k:Nat} {rd:Option Nat} {e:aF} {h:XH} {c:AO} {a b:XCode}:execW D K k rd (.cond c a b) e h=aDy (aK e c) (execW D K k rd a) (execW D K k rd b) e h:=by
 rw[aCq];unfold aDy
 cases aK e c with
 | bool t=>cases t<;>rfl
 | _=>rfl
theorem V4 {a b:aF→XH→Option (DX×aF×XH)} {e:aF} {h:XH}:aDy (.bool true) a b e h=a e h:=rfl
theorem V5 {a b:aF→XH→Option (DX×aF×XH)} {e:aF} {h:XH}:aDy (.bool false) a b e h=b e h:=rfl
theorem V6 {id:Nat} {e:aF} {h:XH}:aAg (some (.exit id,e,h))=true:=rfl
theorem V7 {e:aF} {h:XH}:aAg (some (.ret,e,h))=true:=rfl
def aKa (x:AV):Option Eff:=match x with
    | .str s=>some (.new none (.cells true (s.data.toList.map fun b=>.int .u8 (b.toNat:Int))) fun b=>.sl b 0 1 s.size)
    | _=>none
def aKd:Option (List AV)→Option Eff
    | some cs=>some (.new none (.cells true cs) fun b=>.pt b 0)
    | none=>none
def aKc (s n:Nat):Option (List AV)→Option Eff
    | some cs=>some (.new none (.cells true cs) fun b=>.sl b 0 s n)
    | none=>none
theorem V8:(false=true)=False:=by simp
theorem V9 {α β:Type} {f:α→β} {a:α} {l:List α}:(a::l).map f=f a::l.map f:=rfl
theorem VA {α β:Type} {f:α→β}:([]:List α).map f=[]:=rfl
theorem VB {α:Type} {a:α} {l s:List α}:(a::l)++s=a::(l++s):=rfl
theorem VC {α:Type} {s:List α}:[]++s=s:=rfl
theorem VD {α:Type} {s:List α}:s++[]=s:=by simp
theorem VE {α β:Type} {f:α→List β} {a:α} {l:List α}:(a::l).flatMap f=f a++l.flatMap f:=by simp
theorem VF {α β:Type} {f:α→List β}:([]:List α).flatMap f=[]:=rfl
theorem VG {α:Type} {a:α} {l:List α}:(a::l).length=l.length+1:=rfl
theorem VH {α:Type}:([]:List α).length=0:=rfl
theorem VI {α β:Type} {f:α→β} {a:α}:(some a).map f=some (f a):=rfl
theorem VJ {b:Bool}:(true&&b)=b:=by simp
theorem VK {b:Bool}:(b&&true)=b:=by simp
theorem VL {b:Bool}:(false&&b)=false:=by simp
theorem VM {b:Bool}:(b&&false)=false:=by simp
theorem VN:(!true)=false:=rfl
theorem VO:(!false)=true:=rfl
theorem VP {b:Bool}:(true||b)=true:=by simp
theorem VQ {b:Bool}:(b||true)=true:=by simp
theorem VR {p:Prop}:(p∧True)=p:=by simp
theorem VS {p:Prop}:(p∨True)=True:=by simp
theorem VT {p:Prop}:(p∨False)=p:=by simp
theorem VU {i:Decidable True}:decide True=true:=by simp
theorem VV {i:Decidable False}:decide False=false:=by simp
theorem VW {α:Type} {f:α→Bool}:[].all f=true:=rfl
theorem VX {α:Type} {f:α→Bool} {a:α} {l:List α}:(a::l).all f=(f a&&l.all f):=rfl
theorem VY {α:Type} {a:α}:List.replicate 0 a=[]:=rfl
theorem Tt {α:Type} {a:α}:List.replicate 1 a=[a]:=rfl
theorem VZ:qI []=[]:=by simp only[qI]
theorem Ua {v:AV} {r:List AV}:qI (v::r)=(sD v++qI r):=by simp only[qI]
theorem Ub {s:Nat→Option Nat}:jE s []=[]:=by simp only[jE]
theorem Uc {s:Nat→Option Nat} {v:AV} {r:List AV}:jE s (v::r)=(rnA s v::jE s r):=by simp only[jE]
theorem Ud:hO []=true:=by simp only[hO]
theorem Ue {v:AV} {r:List AV}:hO (v::r)=(fT v&&hO r):=by simp only[hO]
theorem Uf:slL []=[]:=by simp only[slL]
theorem Ug {v:AV} {r:List AV}:slL (v::r)=(rX v++slL r):=by simp only[slL]
theorem Uh {B:Nat} {C:List AV}:fzL B C []=[]:=by simp only[fzL]
theorem Ui {B:Nat} {C:List AV} {v:AV} {r:List AV}:fzL B C (v::r)=(fzA B C v::fzL B C r):=by simp only[fzL]
theorem Uj:iF []=[]:=by simp only[iF]
theorem Uk {v:AV} {r:List AV}:iF (v::r)=(nZ v::iF r):=by simp only[iF]
theorem Ul {a:AV} {z cs:List AV} {off:Nat}:bL (a::z) off cs=(a::z).take off++cs++(a::z).drop (off+cs.length):=rfl
theorem Um {z:List AV}:dQ z []=some z:=rfl
def aJV (z:List AV) (off n:Nat) (rest:List (Nat×Nat×AV)):Option (List AV)→Option (List AV)
 | some cs=>if cs.length=n∧off+n≤z.length then dQ (bL z off cs) rest else none
 | none=>none
theorem Un {z:List AV} {off n:Nat} {v:AV} {rest:List (Nat×Nat×AV)}:dQ z ((off,n,v)::rest)=aJV z off n rest (cellsOf v):=by simp only[dQ,aJV]<;>rfl
theorem Uo {z cs:List AV} {off n:Nat} {rest:List (Nat×Nat×AV)}:aJV z off n rest (some cs)=if cs.length=n∧off+n≤z.length then dQ (bL z off cs) rest else none:=rfl
theorem Uq {c d:Nat} {e:aF}:aM c d e none=some d:=rfl
def boM (cap:Nat):AV→Option Nat
 | .int _ n=>if 0≤n∧n≤(cap:Int) then some n.toNat else none
 | _=>none
theorem Ur {c d:Nat} {e:aF} {x:AO}:aM c d e (some x)=boM c (aK e x):=by simp only[aM,boM]<;>rfl
theorem Us {c:Nat} {k:IntKind} {n:Int}:boM c (.int k n)=if 0≤n∧n≤(c:Int) then some n.toNat else none:=rfl
theorem Ut {H:Hp} {x:AO} {e:aF}:aD (.box x) e H=aKd (cellsOf (aK e x)):=by simp only[aD,aKd]<;>rfl
theorem Uu {cs:List AV}:aKd (some cs)=some (.new none (.cells true cs) fun b=>.pt b 0):=rfl
theorem Uv {s n:Nat} {z:List AV} {ps:List (Nat×Nat×AO)} {e:aF} {H:Hp}:aD (.bslice s n z ps) e H=aKc s n (dQ (List.replicate n z).flatten (ps.map fun p=>(p.1,p.2.1,aK e p.2.2))):=by simp only[aD,aKc]<;>rfl
theorem Uw {s n:Nat} {cs:List AV}:aKc s n (some cs)=some (.new none (.cells true cs) fun b=>.sl b 0 s n):=rfl
theorem Ux {α:Type}:([]:List (List α)).flatten=[]:=rfl
theorem Uy {α:Type} {a:List α} {l:List (List α)}:(a::l).flatten=a++l.flatten:=rfl
def aJf (s o s' len:Nat):Option ABlk→Option (Nat×List AV)
    | some (.cells _ cs)=>if s'=s∧o+len*s≤cs.length then some (len,(cs.drop o).take (len*s)) else none
    | _=>none
theorem Uz {s b o s' n:Nat} {H:Hp}:dJ s H (.sl b o s' n)=aJf s o s' n (H b):=by simp only[dJ,aJf]<;>rfl
theorem U0 {s o s' len:Nat} {w:Bool} {cs:List AV}:aJf s o s' len (some (.cells w cs))=if s'=s∧o+len*s≤cs.length then some (len,(cs.drop o).take (len*s)) else none:=rfl
def aCE (s bytes:Nat) (H:Hp) (x:AV):Option (Nat×List AV)→Option Eff
 | none=>none
 | some (n,new) =>
   match x with
   | .nilsl=>if n*bytes≤1099511627776∧n≤1099511627776 then (if n=0 then some (.val .nilsl) else some (.new none (.cells true new) fun b=>if bytes=1048577 then .sb b n else .sl b 0 s n)) else none
   | .sb b len=>match H b with
     | some (.cells true cs)=>if bytes=1048577∧s=1∧len=cs.length∧len+n≤1099511627776 then some (.new (some b) (.cells true (cs++new)) fun b=>.sb b (len+n)) else none
     | _=>none
   | .sl b 0 s' len=>match H b with
     | some (.cells true cs)=>if s'=s∧len*s=cs.length∧(len+n)*bytes≤1099511627776∧len+n≤1099511627776 then some (.new (some b) (.cells true (cs++new)) fun b=>.sl b 0 s (len+n)) else none
     | _=>none
   | _=>none
def aGA (s bytes n:Nat) (new:List AV) (b len:Nat):Option ABlk→Option Eff
 | some (.cells true cs)=>if bytes=1048577∧s=1∧len=cs.length∧len+n≤1099511627776 then some (.new (some b) (.cells true (cs++new)) fun b=>.sb b (len+n)) else none
 | _=>none
def aGB (s bytes n:Nat) (new:List AV) (b s' len:Nat):Option ABlk→Option Eff
 | some (.cells true cs)=>if s'=s∧len*s=cs.length∧(len+n)*bytes≤1099511627776∧len+n≤1099511627776 then some (.new (some b) (.cells true (cs++new)) fun b=>.sl b 0 s (len+n)) else none
 | _=>none
theorem U1 {s bytes:Nat} {H:Hp} {x y:AV}:kZ s bytes H x y=aCE s bytes H x (dJ s H y):=by
 unfold kZ aCE
 cases dJ s H y<;>rfl
theorem U2 {s bytes n:Nat} {H:Hp} {new:List AV}:aCE s bytes H .nilsl (some (n,new))=if n*bytes≤1099511627776∧n≤1099511627776 then (if n=0 then some (.val .nilsl) else some (.new none (.cells true new) fun b=>if bytes=1048577 then .sb b n else .sl b 0 s n)) else none:=rfl
theorem TG {s bytes n b len:Nat} {H:Hp} {new:List AV}:aCE s bytes H (.sb b len) (some (n,new))=aGA s bytes n new b len (H b):=by simp only[aCE,aGA]<;>rfl
theorem TH {s bytes n b len:Nat} {cs new:List AV}:aGA s bytes n new b len (some (.cells true cs))=if bytes=1048577∧s=1∧len=cs.length∧len+n≤1099511627776 then some (.new (some b) (.cells true (cs++new)) fun b=>.sb b (len+n)) else none:=rfl
theorem U3 {s bytes n b s' len:Nat} {H:Hp} {new:List AV}:aCE s bytes H (.sl b 0 s' len) (some (n,new))=aGB s bytes n new b s' len (H b):=by simp only[aCE,aGB]<;>rfl
theorem U4 {s bytes n b s' len:Nat} {cs new:List AV}:aGB s bytes n new b s' len (some (.cells true cs))=if s'=s∧len*s=cs.length∧(len+n)*bytes≤1099511627776∧len+n≤1099511627776 then some (.new (some b) (.cells true (cs++new)) fun b=>.sl b 0 s (len+n)) else none:=rfl
theorem UX {e:aF} {n:Nat}:aK e (.t n)=e n:=rfl
theorem UY {e:aF} {v:AV}:aK e (.c v)=v:=rfl
def aGY (len s b o n h:Nat):Option Nat→Option Eff
 | some l=>if o+len*s≤n∧l<len then some (.val (.sl b (o+l*s) s (h-l))) else none
 | none=>none
def aGZ (len s:Nat) (e:aF) (lo:Option AO) (b o:Nat):Option ABlk→Option Nat→Option Eff
 | some (.cells _ cs),some h=>aGY len s b o cs.length h (aM h 0 e lo)
 | _,_=>none
def aJh (len s:Nat) (e:aF) (lo:Option AO) (H:Hp) (r:Option Nat):AV→Option Eff
 | .pt b o=>aGZ len s e lo b o (H b) r
 | _=>none
theorem UZ {len s:Nat} {x:AO} {lo hi:Option AO} {e:aF} {H:Hp}:aD (.slarr len s x lo hi) e H=aJh len s e lo H (aM len len e hi) (aK e x):=by
 simp only[aD,aJh]
 cases aK e x with
 | pt b o =>
   simp only[]
   cases H b with
   | none=>rfl
   | some c =>
     cases c with
     | cells w cs =>
       cases aM len len e hi with
       | none=>rfl
       | some h=>simp only[aGZ,aGY];cases aM h 0 e lo<;>rfl
     | _=>rfl
 | _=>rfl
theorem Ta {len s b o:Nat} {e:aF} {lo:Option AO} {H:Hp} {r:Option Nat}:aJh len s e lo H r (.pt b o)=aGZ len s e lo b o (H b) r:=rfl
theorem Tb {len s b o h:Nat} {e:aF} {lo:Option AO} {w:Bool} {cs:List AV}:aGZ len s e lo b o (some (.cells w cs)) (some h)=aGY len s b o cs.length h (aM h 0 e lo):=rfl
theorem Tc {len s b o n h l:Nat}:aGY len s b o n h (some l)=if o+len*s≤n∧l<len then some (.val (.sl b (o+l*s) s (h-l))) else none:=rfl
def aLL (rows:List (List AV)) (h:Nat):Option Nat→Option Eff
 | some l=>some (.val (.fs ((rows.drop l).take (h-l))))
 | none=>none
def aLM (rows:List (List AV)) (e:aF) (lo:Option AO):Option Nat→Option Eff
 | some h=>aLL rows h (aM h 0 e lo)
 | none=>none
def aGW (b o s h:Nat):Option Nat→Option Eff
 | some l=>if l<h then some (.val (.sl b (o+l*s) s (h-l))) else if l=0 then some (.val (.sl b o s 0)) else some (.val (.fs []))
 | none=>none
def aGX (b o s:Nat) (e:aF) (lo:Option AO):Option Nat→Option Eff
 | some h=>aGW b o s h (aM h 0 e lo)
 | none=>none
def aLN:Option Nat→Option Eff
 | some _=>some (.val .nilsl)
 | none=>none
def aLO (e:aF) (lo:Option AO):Option Nat→Option Eff
 | some h=>aLN (aM h 0 e lo)
 | none=>none
def aEW (s:Nat) (e:aF) (lo hi:Option AO):AV→Option Eff
 | .fs rows=>if rows.all (fun r=>r.length==s) then aLM rows e lo (aM rows.length rows.length e hi) else none
 | .sl b o s' len=>if s'=s then aGX b o s e lo (aM len len e hi) else none
 | .nilsl=>aLO e lo (aM 0 0 e hi)
 | _=>none
theorem Td {s:Nat} {x:AO} {lo hi:Option AO} {e:aF} {H:Hp}:aD (.slsl s x lo hi) e H=aEW s e lo hi (aK e x):=by
 simp only[aD]
 cases aK e x with
 | fs rows =>
   simp only[fV,aEW]
   by_cases hr:(rows.all fun r=>r.length==s)=true
   ·simp only[hr,if_true]
    cases aM rows.length rows.length e hi with
    | none=>rfl
    | some h=>simp only[aLM,aLL];cases aM h 0 e lo<;>rfl
   ·simp only[hr];rfl
 | sl b o s' len =>
   simp only[fV,aEW]
   by_cases hr:s'=s
   ·simp only[hr,if_true]
    cases aM len len e hi with
    | none=>rfl
    | some h =>
      simp only[aGX,aGW]
      cases aM h 0 e lo with
      | none=>rfl
      | some l =>
        by_cases hl:l<h
        ·simp only[hl,if_true]
        ·by_cases h0:l=0
         ·simp only[hl,h0,if_true,if_false]
          subst h0
          simp only[hl,if_false]
         ·simp only[hl,h0,if_false]
   ·simp only[hr,if_false]
 | nilsl =>
   simp only[fV,aEW]
   cases aM 0 0 e hi with
   | none=>rfl
   | some h=>simp only[aLO,aLN];cases aM h 0 e lo<;>rfl
 | _=>rfl
theorem Te {s b o s' len:Nat} {e:aF} {lo hi:Option AO}:aEW s e lo hi (.sl b o s' len)=if s'=s then aGX b o s e lo (aM len len e hi) else none:=rfl
theorem Tf {b o s h:Nat} {e:aF} {lo:Option AO}:aGX b o s e lo (some h)=aGW b o s h (aM h 0 e lo):=rfl
theorem Tg {b o s h l:Nat}:aGW b o s h (some l)=if l<h then some (.val (.sl b (o+l*s) s (h-l))) else if l=0 then some (.val (.sl b o s 0)) else some (.val (.fs [])):=rfl
def aGT (s:ByteArray) (h:Nat):Option Nat→Option Eff
 | some l=>some (.val (.str (oA s l h)))
 | none=>none
def aGU (s:ByteArray) (e:aF) (lo:Option AO):Option Nat→Option Eff
 | some h=>aGT s h (aM h 0 e lo)
 | none=>none
def aJe (e:aF) (lo hi:Option AO):AV→Option Eff
 | .str s=>aGU s e lo (aM s.size s.size e hi)
 | _=>none
theorem Th {x:AO} {lo hi:Option AO} {e:aF} {H:Hp}:aD (.slstr x lo hi) e H=aJe e lo hi (aK e x):=by
 simp only[aD,aJe]
 cases aK e x with
 | str s =>
   simp only[]
   cases aM s.size s.size e hi with
   | none=>rfl
   | some h=>simp only[aGU,aGT];cases aM h 0 e lo<;>rfl
 | _=>rfl
theorem Ti {e:aF} {lo hi:Option AO} {s:ByteArray}:aJe e lo hi (.str s)=aGU s e lo (aM s.size s.size e hi):=rfl
theorem Tj {e:aF} {lo:Option AO} {s:ByteArray} {h:Nat}:aGU s e lo (some h)=aGT s h (aM h 0 e lo):=rfl
theorem Tk {s:ByteArray} {h l:Nat}:aGT s h (some l)=some (.val (.str (oA s l h))):=rfl
theorem Tl {x:AO} {e:aF} {H:Hp}:aD (.bytes x) e H=aKa (aK e x):=by simp only[aD,aKa]<;>rfl
theorem Tm {s:ByteArray}:aKa (.str s)=some (.new none (.cells true (s.data.toList.map fun b=>.int .u8 (b.toNat:Int))) fun b=>.sl b 0 1 s.size):=rfl
theorem wW (p:Prop):(p=True)∨(p=False):=by by_cases h:p<;>simp[h]
theorem iA {α:Type} {l:List α} {i:Nat} (h:i<l.length):∃ x,l[i]?=some x:=⟨l[i],List.getElem?_eq_getElem h⟩
theorem U5 {n:Int}:(n<n)=False:=eq_false (by omega)
theorem gJ {i n:Nat} (h:i<n) (hn:n<1000000000000):IntKind.i64.wrap ((i:Int)+1)=(i:Int)+1:=aL (by omega) (by omega)
theorem U6 {agg:Bool} {n b o:Nat} {H:Hp}:cZ agg n H (.pt b o)=ldM agg n o (H b):=by unfold cZ ldM;rfl
theorem U7 {agg w:Bool} {n o:Nat} {cs:List AV}:ldM agg n o (some (.cells w cs))=eE agg n cs o:=rfl
theorem U8 {agg:Bool} {n i o:Nat} {rows:List (List AV)} {H:Hp}:cZ agg n H (.fp rows i o)=ldR agg n o (rows[i]?):=by unfold cZ ldR;rfl
theorem U9 {agg:Bool} {n o:Nat} {r:List AV}:ldR agg n o (some r)=eE agg n r o:=rfl
theorem UA {n o:Nat} {cs:List AV}:eE true n cs o=if o+n≤cs.length then some (.agg ((cs.drop o).take n)) else none:=rfl
theorem UB {n o:Nat} {cs:List AV}:eE false n cs o=cs[o]?:=rfl
theorem UC {n b o:Nat} {h:XH} {x:AV}:iP n h (.pt b o) x=stM n b o h (bF h b) (cellsOf x):=by
 simp only[iP,stM]<;>rfl
theorem UD {n b o:Nat} {h:XH} {g:Bool} {cs vs:List AV}:stM n b o h (some (.blk g (.cells true cs))) (some vs)=if vs.length=n∧o+n≤cs.length then some (h.set b (some (.blk (g&&hO vs) (.cells true (bL cs o vs))))) else none:=rfl
theorem UE {h:XH} {g:Bool} {x:ABlk}:nX h none g x=h++[some (.blk g x)]:=rfl
theorem UF {h:XH} {b:Nat} {g:Bool} {x:ABlk}:nX h (some b) g x=h.set b none++[some (.blk g x)]:=rfl
theorem UG {h:XH} {b o s n:Nat}:gL h (.sl b o s n)=flM (bF h b):=by simp only[gL,flM]<;>rfl
theorem UH {g:Bool} {x:ABlk}:flM (some (.blk g x))=g:=rfl
theorem UI {h:XH}:gL h .nilsl=true:=rfl
theorem UJ {op:BinOp} {k k':IntKind} {a b:Int}:wK op (.int k a) (.int k' b)=gI op k a k' b:=rfl
theorem UK {op:BinOp} {a b:ByteArray}:wK op (.str a) (.str b)=zM op a b:=rfl

theorem Tn {n:Nat}:n*1=n:=by simp
theorem Tp {n:Nat}:0+n=n:=by simp
theorem Tq {n:Nat}:n+0=n:=by simp
theorem Tr {n:Nat}:(n≤n)=True:=by simp
theorem Ts {n:Nat}:n-0=n:=by simp
theorem aDA {α:Type} {f:α→AV}:∀ (l pre:List α),bY ((pre++l).map f) pre.length 1 l.length=l.map fun v=>[f v]
 | [],pre=>rfl
 | a::r,pre=>by
   have h:=aDA (f:=f) r (pre++[a])
   simp only[List.append_assoc,List.cons_append,List.nil_append,List.length_append,List.length_cons,List.length_nil]at h
   rw[List.length_cons,bY]
   simp only[Nat.zero_add]at h
   rw[h,List.map_append,List.drop_left' (by simp),List.map_cons,List.map_cons]
   rfl
section
variable {D:Nat→Option XFn} {K k:Nat} {rd:Option Nat} {e:aF} {h:XH} {run:bZ} {runY:cN}
variable {d:Option Nat} {ix:Nat} {r:List DOper} {L:List (Nat×Nat)}
theorem Tw {a b:Nat}:(some a != some b) = !(decide (a=b)):=by by_cases h:a=b<;>simp[h]
end
theorem T5 {g g' w w':Bool} {xs ys:List AV}:aAF (some (.blk g (.cells w xs))) (some (.blk g' (.cells w' ys)))=(w==w'&&eD xs ys):=rfl
theorem T6:((40:Nat):Int)=40:=rfl
theorem T7:((45:Nat):Int)=45:=rfl
section
variable {run:bZ} {runY:cN} {d:Option Nat} {e:aF} {h:XH} {ix:Nat} {r:List DOper} {m:Option (List (Nat×Nat))}
theorem TI {b n:Nat}:sD (.sb b n)=([b]:List Nat):=rfl
theorem TJ {b n:Nat}:fT (.sb b n)=(false:Bool):=rfl
theorem TK {s:Nat→Option Nat} {b n:Nat}:rnA s (.sb b n)=((match s b with|some c=>.sb c n|none=>.any):AV):=by simp only[rnA]<;>rfl
theorem TL {B:Nat} {C:List AV} {b n:Nat}:fzA B C (.sb b n)=((.sb b n):AV):=rfl
theorem TM {b n:Nat}:cellsOf (.sb b n)=(some [(.sb b n)]:Option (List AV)):=rfl
theorem TN {b:Nat}:sD (.bp b)=([b]:List Nat):=rfl
theorem TO {s:Nat→Option Nat} {b:Nat}:rnA s (.bp b)=((match s b with|some c=>.bp c|none=>.any):AV):=by simp only[rnA]<;>rfl
theorem TP {b:Nat}:rX (.bp b)=([]:List Nat):=rfl
theorem TQ {B:Nat} {C:List AV} {b:Nat}:fzA B C (.bp b)=((.bp b):AV):=rfl
theorem TR {b:Nat}:nZ (.bp b)=((.bp b):AV):=rfl
theorem TS {p:AO}:xo m run runY (⟨ix,d,(DOp.strof p),none⟩::r) e h=kV m run runY r d e h (eF (cF h) (aK e p)):=pF rfl (by cases hs:eF (cF h) (aK e p)<;>simp[aD,oK,hs]) (fun _=>rfl) (fun _=>rfl) fun _ _=>rfl
theorem TT {H:Hp} {b o s n:Nat}:eF H (.sl b o s n)=gX (dJ 1 H (.sl b o s n)):=rfl
theorem TU {n:Nat} {cs:List AV}:gX (some (n,cs))=(eV cs).map fun l=>.str ⟨⟨l⟩⟩:=rfl
end
theorem aNi {p:Prop} (h:p):p:=h
variable {P:Program} {B:Base} {F:Nat→Prop} {w:World} {H:Hp} {env:aF} {a:Act}

theorem wP {Fe:Fence} {n:Nat} {id:Nat} {ops:Array Oper} {Q:Exit→Act→List Frame→World→Prop} {cs:List Frame} {o:Oper} (ho:ops[0]?=some o)
 (hg:o.guard=none) (hab:∀ f,o.about P w a.eval=some f→Fe.fn f) (hr:(execOp a.eval o).run P w = .ok .recover w) (hro:Fe.round=none)
 (h:match recoverD cs with
  | some (v,cs')=>wpOpsIn Fe n P ops (fun e a w=>Q e a cs' w) (List.range' 1 (ops.size-1)) (a.put o.dst v) w
  | none=>wpOpsIn Fe n P ops (fun e a w=>Q e a cs w) (List.range' 1 (ops.size-1)) (a.put o.dst .nilIface) w) :
 (Code.region id ops false).wpSIn Fe n P Q a cs w:=by
 intro b k hb hrd hF hroom
 have hsz:0<ops.size:=(Array.getElem?_eq_some_iff.1 ho).1
 have hrange:List.range ops.size=0::List.range' 1 (ops.size-1):=by
  rw[List.range_eq_range']
  obtain⟨m,hm⟩:∃ m,ops.size=m+1:=⟨ops.size-1,by omega⟩
  rw[hm,List.range'_succ];simp
 have i0:(lone (b.atR a (.code (.region id ops false)::k)) cs w).fenced P Fe:=fenced_calm hF hroom rfl
 have s0:=stepR_region (P:=P) (b:=b) (a:=a) (k:=k) (cs:=cs) (w:=w) (id:=id) (ops:=ops)
 rw[hrange]at s0
 have hw:Region.wanted o (yielded ops a.tmps)=true:=by unfold Region.wanted;rw[hg]
 have h0:(lone (b.atR a (.inRegion ops (0::List.range' 1 (ops.size-1))::k)) cs w).fenced P Fe:=fenced_oper hF hroom ho hab
 have hgg:=stepGR_op (P:=P) (b:=b) (k:=k) (cs:=cs) (w:=w) (rest:=List.range' 1 (ops.size-1)) ho hw
 rw[hrd,Oper.semAt_none]at hgg
 have hfin:∀ v,(b.atR a (.inRegion ops (0::List.range' 1 (ops.size-1))::k)).finish v=b.atR (a.put o.dst v) (.inRegion ops (List.range' 1 (ops.size-1))::k):=by
  intro v;rw[Frame.finish_atR,ho];rfl
 have hk:(b.atR a (.inRegion ops (0::List.range' 1 (ops.size-1))::k)).kind = .deferred:=hb
 have htr:=tryRecover_deferred hk cs
 split at h
 ·rename_i v cs' hrec
  have hlen:=recoverD_length hrec
  obtain⟨e,a',w'',hq,harr⟩:=wp_opsIn _ _ _ h b k cs' (hrd.trans hro.symm) hF (by rw[hlen];exact hroom)
  refine⟨e,a',cs',w'',hlen,hq,.of_steps (.one i0 s0) (.of_steps (.one h0 (step_lone_go ?_)) harr)⟩
  rw[hgg,←hfin]
  simp only[Frame.atR,hrd]at htr ⊢
  simp[stepG.apply,hr,htr,hrec]
 ·rename_i hrec
  obtain⟨e,a',w'',hq,harr⟩:=wp_opsIn _ _ _ h b k cs (hrd.trans hro.symm) hF hroom
  refine⟨e,a',cs,w'',rfl,hq,.of_steps (.one i0 s0) (.of_steps (.one h0 (step_lone_go ?_)) harr)⟩
  rw[hgg,←hfin]
  simp only[Frame.atR,hrd]at htr ⊢
  simp[stepG.apply,hr,htr,hrec]

theorem wZ {fn:Func} {tmps:Array Value} {n0:Nat} {F0:Nat→Prop} {w0:World} {H0:Hp} {R:Ending→World→Prop} {T:List Deferred} {u:FrameMode} {S:World→Prop} (hS:∀ w w',Up F w F w'→S w→S w') (hu:u ≠ .run) (hn0:w0.heap.size≤n0)
 (hT:∀ w,S w→Ext F0 w0 H0 F w H→St F w H→RE F w env { tmps:=tmps,defers:=[] }→LeavesInM Fence.wide 0 P fn tmps R T u w) :
 ∀ (ms:List Deferred) (w:World),S w→Ext F0 w0 H0 F w H→St F w H→RE F w env { tmps:=tmps,defers:=[] }→ms.Nodup→(∀ d∈ms,Mk1 n0 F H w d)→LeavesInM Fence.wide 0 P fn tmps R (ms++T) u w:=by
 intro ms
 induction ms with
 | nil=>intro w hs he st re _ _;exact hT w hs he st re
 | cons d ds ih =>
   intro w hs he st re hnd hm
   obtain⟨D,rfl,h2,h3,h4,h5⟩:=hm d (by simp)
   obtain⟨k1,k2,k3⟩:=oO (n0:=0) (x:=none) he st (Nat.le_trans hn0 h2) h3 h4 h5
   have hnd:=List.nodup_cons.1 hnd
   refine⟨hu,.inl ⟨D,_,rfl,run_takeDeferred h3,ih _ (hS _ _ k3 hs) k1 k2 (re.up k3) hnd.2 fun d' hd'=>?_⟩⟩
   obtain⟨D',rfl,l2,l3,l4,l5⟩:=hm d' (by simp[hd'])
   refine⟨D',rfl,l2,?_,l4,l5⟩
   rw[World.putObj_heap_other fun e=>hnd.1 (by rw[←e];exact hd')]
   exact l3
end Go.DL
