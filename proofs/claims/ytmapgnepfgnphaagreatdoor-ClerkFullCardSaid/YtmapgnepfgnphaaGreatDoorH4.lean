/- Parts of a proof, joined: XF XG DlX XV RSX. No statement of the seed is proved here. -/
import Derived.RecoverIn
import Derived.Test.YtmapgnepfgnphaaGreatDoorH3
set_option linter.unusedSimpArgs false
set_option linter.unusedVariables false
set_option linter.unusedSectionVars false
namespace Go.DL
section
variable {run:bZ} {runY:cV} {d:Option Nat} {e:aD} {h:XH} {ix:Nat} {r:List DOper} {D:Nat→Option XFn} {K k:Nat} {rd:Option Nat} {m:Option (List (Nat×Nat))} {op:DOp} {v:AV}

theorem Za {j:Nat}:upd e k v j=if j=k then v else e j:=rfl
theorem Zb:aP e (some k) v=upd e k v:=rfl
theorem Zc:aP e none v=e:=rfl
theorem Zd {α β:Type} {a:α} {b:β}:(a,b).fst=a:=rfl
theorem Ze {α β:Type} {a:α} {b:β}:(a,b).snd=b:=rfl

def aKj (r:Option (aD×XH)):Option (DX×aD×XH):=r.map fun r=>(.normal,r.1,r.2)
theorem Zf:aKj (some (e,h))=some (.normal,e,h):=rfl
def xo (m:Option (List (Nat×Nat))) (run:bZ) (runY:cV) (ops:List DOper) (e:aD) (h:XH):Option (aD×XH):=match m with
 | none=>dM run runY ops e h
 | some L=>dK run runY ops e h L
def aOi (m:Option (List (Nat×Nat))) (run:bZ) (runY:cV) (ops:List DOper) (p:aD×XH):Option (DX×aD×XH):=aKj (xo m run runY ops p.1 p.2)
theorem Zg {ops:List DOper}:aOi m run runY ops (e,h)=aKj (xo m run runY ops e h):=rfl
theorem Zh {ops:List DOper}:execW D K k rd (.reg [] false ops) e h=aKj (xo none (runW D) (runYW D) ops e h):=zO
theorem Zi {ops:List DOper}:execW D K k rd (.reg [] true ops) e h=aKj (xo (some []) (runW D) (runYW D) ops e h):=zP
theorem Zj {a:Nat×Bool} {fz:List (Nat×Bool)} {ops:List DOper}:execW D K k rd (.reg (a::fz) false ops) e h=aOi none (runW D) (runYW D) ops (sE (a::fz) e h):=zO
theorem Zk {a:Nat×Bool} {fz:List (Nat×Bool)} {ops:List DOper}:execW D K k rd (.reg (a::fz) true ops) e h=aOi (some []) (runW D) (runYW D) ops (sE (a::fz) e h):=zP
theorem Zl:xo m run runY [] e h=some (e,h):=by cases m<;>rfl

def lkM (q:Bool) (k:AV):Option ABlk→Option (Option AV)
 | some (.map _ es)=>eC q k es
 | _=>none
def kV (m:Option (List (Nat×Nat))) (run:bZ) (runY:cV) (r:List DOper) (d:Option Nat) (e:aD) (h:XH):Option AV→Option (aD×XH)
 | some v=>xo m run runY r (aP e d v) h
 | none=>none
theorem Zm:kV m run runY r d e h (some v)=xo m run runY r (aP e d v) h:=rfl
def kE (m:Option (List (Nat×Nat))) (run:bZ) (runY:cV) (r:List DOper) (d:Option Nat) (e:aD) (h:XH) (g:Bool):Option Eff→Option (aD×XH)
 | some (.val v)=>xo m run runY r (aP e d v) h
 | some (.new own x f)=>xo m run runY r (aP e d (f h.length)) (oL h own g x)
 | none=>none
theorem Zn {g:Bool}:kE m run runY r d e h g (some (.val v))=xo m run runY r (aP e d v) h:=rfl
theorem Zo {g:Bool} {own:Option Nat} {x:ABlk} {f:Nat→AV}:kE m run runY r d e h g (some (.new own x f))=xo m run runY r (aP e d (f h.length)) (oL h own g x):=rfl
theorem aJN {g:Bool} {q:Option Eff}:(match q with
 | some (.val v)=>some (aP e d v,h)
 | some (.new own x f)=>some (aP e d (f h.length),oL h own g x)
 | none=>none).bind (fun s=>xo m run runY r s.1 s.2)=kE m run runY r d e h g q:=by cases q with
 | none=>rfl
 | some q=>cases q<;>rfl
theorem wJ (h1:bT run runY d op e h=match aA op e (aF h)with
 | some (.val v)=>some (aP e d v,h)
 | some (.new own x f)=>some (aP e d (f h.length),oL h own (gF op e h) x)
 | none=>none) (h2:∀ L,aHi ix op e L=L) (h3:∀ L,pP op e h L=true) (h4:∀ L h',wV op e h h' L=true) :
 xo m run runY (⟨ix,d,op,none⟩::r) e h=kE m run runY r d e h (gF op e h) (aA op e (aF h)):=by
 rw[←aJN]
 cases m with
 | none=>simp only[xo,dM,gd,h1]
 | some L=>simp only[xo,dK,gd,h1,h2,h3,h4,if_true]

def mC (q:Option AV):Option Eff:=q.map .val
theorem nF {q:Option AV} (h1:bT run runY d op e h=match aA op e (aF h)with
 | some (.val v)=>some (aP e d v,h)
 | some (.new own x f)=>some (aP e d (f h.length),oL h own (gF op e h) x)
 | none=>none) (h5:aA op e (aF h)=mC q) (h2:∀ L,aHi ix op e L=L) (h3:∀ L,pP op e h L=true) (h4:∀ L h',wV op e h h' L=true) :
 xo m run runY (⟨ix,d,op,none⟩::r) e h=kV m run runY r d e h q:=by
 rw[wJ h1 h2 h3 h4,h5]
 cases q<;>rfl
def aFW (c a b:AV):Option AV:=match c with
 | .bool t=>some (if t then a else b)
 | _=>none
def aTH (neg:Bool) (x y:AV):Option AV:=match x,y with
 | .bool a,.bool b=>some (.bool (if neg then a != b else a==b))
 | _,_=>none
def aOy (x:AV):Option AV:=match x with
 | .bool b=>some (.bool !b)
 | _=>none
def aSk (x:AV):Option AV:=match x with
 | .int k n=>some (.int k (k.wrap (0-n)))
 | _=>none
def aKr (k:IntKind) (x:AV):Option AV:=match x with
 | .int _ n=>some (.int k (k.wrap n))
 | _=>none
def aOU (off:Nat) (x:AV):Option AV:=match x with
 | .pt b o=>some (.pt b (o+off))
 | .fp r i o=>some (.fp r i (o+off))
 | _=>none
def aHj (q:Bool) (x:AV):Option AV:=match q,x with
 | true,.str s=>some (.int .i64 (s.size:Int))
 | false,.fs rows=>some (.int .i64 (rows.length:Int))
 | false,.sl _ _ _ n=>some (.int .i64 (n:Int))
 | false,.nilsl=>some (.int .i64 0)
 | _,_=>none
def aJS (s:Nat) (x i:AV):Option AV:=match x,i with
    | .sl b o s' len,.int _ n=>if s'=s∧0≤n∧n<(len:Int) then some (.pt b (o+n.toNat*s)) else none
    | .fs rows,.int _ n=>if 0≤n∧n<(rows.length:Int)∧(rows.getD n.toNat []).length=s then some (.fp rows n.toNat 0) else none
    | _,_=>none
def aOK (s:Nat) (rows:List (List AV)) (j:Nat):Option (List AV)→Option AV
 | some r=>if r.length=s then some (.fp rows j 0) else none
 | none=>none
def aOW (x:AV) (i:Nat):Option AV:=match x with
 | .tup vs=>vs[i]?
 | _=>none

def aJR (len s:Nat) (x i:AV):Option AV:=match x,i with
    | .pt b o,.int _ n=>if 0≤n∧n<(len:Int) then some (.pt b (o+n.toNat*s)) else none
    | .fp r j o,.int _ n=>if 0≤n∧n<(len:Int) then some (.fp r j (o+n.toNat*s)) else none
    | _,_=>none
def mmM (mx:Bool) (x y:AV):Option AV:=match x,y with
    | .int k a,.int _ b=>some (.int k (if mx then (if b>a then b else a) else (if b<a then b else a)))
    | _,_=>none
def aGo (neg:Bool) (ks:List Nat) (x y:AV):Option AV:=match x,y with
    | .agg cs,.agg ds=>(cK ks cs ds).map fun b=>.bool (if neg then !b else b)
    | _,_=>none
def aHw (neg:Bool) (x:Option Bool):Option AV:=match x with
    | some b=>some (.bool (if neg then !b else b))
    | none=>none
def aJG (ok:Bool) (z:AV) (x:Option (Option AV)):Option AV:=match x with
    | some r=>some (rM ok z r)
    | none=>none
def aPk (x:Option (List AV)):Option AV:=match x with
    | some cs=>some (.agg cs)
    | none=>none
def aJP (agg:Bool) (len s:Nat) (x i:AV):Option AV:=match x,i with
    | .agg cs,.int _ n=>if 0≤n∧n<(len:Int) then fN agg s cs (n.toNat*s) else none
    | _,_=>none
def aJQ (x i:AV):Option AV:=match x,i with
    | .str s,.int _ n=>if 0≤n∧n<(s.size:Int) then some (.int .u8 ((s.data.toList.getD n.toNat 0).toNat:Int)) else none
    | _,_=>none
def aCg (x:AV):Option AV:=match x with
    | .pt b o=>some (.pt b o)
    | .bp b=>some (.pt b 0)
    | .fp r i o=>some (.fp r i o)
    | .ifc t v=>some (.ifc t v)
    | _=>none
def kG (m:Option (List (Nat×Nat))) (run:bZ) (runY:cV) (o:DOper) (r:List DOper) (e:aD) (h:XH) (b:Bool):AV→Option (aD×XH)
 | .bool t=>if t==b then xo m run runY (o::r) e h else xo m run runY r (aP e o.dst (.tup [])) h
 | .tup _=>xo m run runY r (aP e o.dst (.tup [])) h
 | _=>none
theorem Zp {s:Nat} {b:Bool}:xo m run runY (⟨ix,d,op,some (s,b)⟩::r) e h=kG m run runY ⟨ix,d,op,none⟩ r e h b (e s):=by
 cases m with
 | none =>
   simp only[xo,dM,gd]
   cases e s with
   | bool t=>cases ht:t==b<;>simp[kG,xo,dM,gd,ht]
   | _=>rfl
 | some L =>
   simp only[xo,dK,gd]
   cases e s with
   | bool t=>cases ht:t==b<;>simp[kG,xo,dK,gd,ht]
   | _=>rfl
theorem Zq {o:DOper}:kG m run runY o r e h true (.bool true)=xo m run runY (o::r) e h:=rfl
theorem Zr {o:DOper}:kG m run runY o r e h false (.bool false)=xo m run runY (o::r) e h:=rfl
theorem Zs {q:DOp}:kG m run runY ⟨ix,d,q,none⟩ r e h true (.bool false)=xo m run runY r (aP e d (.tup [])) h:=rfl
theorem Zt {q:DOp}:kG m run runY ⟨ix,d,q,none⟩ r e h false (.bool true)=xo m run runY r (aP e d (.tup [])) h:=rfl
theorem Zu {q:DOp} {b:Bool} {vs:List AV}:kG m run runY ⟨ix,d,q,none⟩ r e h b (.tup vs)=xo m run runY r (aP e d (.tup [])) h:=rfl

theorem Zv {a:AO}:xo m run runY (⟨ix,d,.mv a,none⟩::r) e h=xo m run runY r (aP e d (aG e a)) h:=(wJ rfl (fun _=>rfl) (fun _=>rfl) fun _ _=>rfl).trans rfl
theorem Zw {z:List AV}:xo m run runY (⟨ix,d,.alloc z,none⟩::r) e h=xo m run runY r (aP e d (.pt h.length 0)) (h++[some (.blk (jK z) (.cells true z))]):=(wJ rfl (fun _=>rfl) (fun _=>rfl) fun _ _=>rfl).trans rfl
theorem RR:xo m run runY (⟨ix,d,.allocb,none⟩::r) e h=xo m run runY r (aP e d (.bp h.length)) (h++[some (.blk true (.cells true [.nilpt,.nilsl]))]):=(wJ rfl (fun _=>rfl) (fun _=>rfl) fun _ _=>rfl).trans rfl
theorem Zx {f:Fn} {a b:List AO}:xo m run runY (⟨ix,d,.mkf f a b,none⟩::r) e h=xo m run runY r (aP e d (.fn f (a.map (aG e)) (b.map (aG e)))) h:=(wJ rfl (fun _=>rfl) (fun _=>rfl) fun _ _=>rfl).trans rfl
theorem Zy {p1:_} {p2:_} {p3:_}:xo m run runY (⟨ix,d,(DOp.pick p1 p2 p3),none⟩::r) e h=kV m run runY r d e h (aFW (aG e p1) (aG e p2) (aG e p3)):=nF rfl (by simp only[aA,mC,aFW];cases aG e p1<;>rfl) (fun _=>rfl) (fun _=>rfl) fun _ _=>rfl
theorem Zz {p1:_}:xo m run runY (⟨ix,d,(DOp.box p1),none⟩::r) e h=kE m run runY r d e h (fX (aG e p1)) (aA (DOp.box p1) e (aF h)):=wJ rfl (fun _=>rfl) (fun _=>rfl) fun _ _=>rfl
theorem Z0 {p1:_} {p2:_}:xo m run runY (⟨ix,d,(DOp.build p1 p2),none⟩::r) e h=kV m run runY r d e h (aPk (eO p1 (p2.map fun p=>(p.1,p.2.1,aG e p.2.2)))):=nF rfl (by simp only[aA,mC,aPk];split<;>simp_all) (fun _=>rfl) (fun _=>rfl) fun _ _=>rfl
theorem Z8 {p1:_} {p2:_} {p3:_} {p4:_}:xo m run runY (⟨ix,d,(DOp.bslice p1 p2 p3 p4),none⟩::r) e h=kE m run runY r d e h (jK p3&&p4.all fun p=>fX (aG e p.2.2)) (aA (DOp.bslice p1 p2 p3 p4) e (aF h)):=wJ rfl (fun _=>rfl) (fun _=>rfl) fun _ _=>rfl
theorem Z9 {p1:_}:xo m run runY (⟨ix,d,(DOp.nilck p1),none⟩::r) e h=kV m run runY r d e h (aCg (aG e p1)):=nF rfl (by simp only[aA,mC,aCg];cases aG e p1<;>rfl) (fun _=>rfl) (fun _=>rfl) fun _ _=>rfl
theorem ZA {p1:_} {p2:_} {p3:_}:xo m run runY (⟨ix,d,(DOp.bin p1 p2 p3),none⟩::r) e h=kV m run runY r d e h (aAh p1 (aG e p2) (aG e p3)):=nF rfl (by simp only[aA,mC];cases aAh p1 (aG e p2) (aG e p3)<;>rfl) (fun _=>rfl) (fun _=>rfl) fun _ _=>rfl
theorem ZB {p1:_} {p2:_} {p3:_} {p4:_}:xo m run runY (⟨ix,d,(DOp.eqag p1 p2 p3 p4),none⟩::r) e h=kV m run runY r d e h (aGo p1 p2 (aG e p3) (aG e p4)):=nF rfl (by simp only[aA,mC,aGo];cases aG e p3<;>cases aG e p4<;>first|rfl|(simp only[];split<;>simp_all)) (fun _=>rfl) (fun _=>rfl) fun _ _=>rfl
theorem ZC {p1:_} {p2:_} {p3:_} {p4:_}:xo m run runY (⟨ix,d,(DOp.eqn p1 p2 p3 p4),none⟩::r) e h=kV m run runY r d e h (aHw p2 (wL p1 (aG e p3) (aG e p4))):=nF rfl (by simp only[aA,mC,aHw];cases wL p1 (aG e p3) (aG e p4)<;>rfl) (fun _=>rfl) (fun _=>rfl) fun _ _=>rfl
theorem ZD {p1:_}:xo m run runY (⟨ix,d,(DOp.not p1),none⟩::r) e h=kV m run runY r d e h (aOy (aG e p1)):=nF rfl (by simp only[aA,mC,aOy];cases aG e p1<;>rfl) (fun _=>rfl) (fun _=>rfl) fun _ _=>rfl
theorem ZE {p1:_}:xo m run runY (⟨ix,d,(DOp.neg p1),none⟩::r) e h=kV m run runY r d e h (aSk (aG e p1)):=nF rfl (by simp only[aA,mC,aSk];cases aG e p1<;>rfl) (fun _=>rfl) (fun _=>rfl) fun _ _=>rfl
theorem ZF {p1:_} {p2:_}:xo m run runY (⟨ix,d,(DOp.conv p1 p2),none⟩::r) e h=kV m run runY r d e h (aKr p1 (aG e p2)):=nF rfl (by simp only[aA,mC,aKr];cases aG e p2<;>rfl) (fun _=>rfl) (fun _=>rfl) fun _ _=>rfl
theorem ZG {p1:_} {p2:_}:xo m run runY (⟨ix,d,(DOp.fld p1 p2),none⟩::r) e h=kV m run runY r d e h (aOU p1 (aG e p2)):=nF rfl (by simp only[aA,mC,aOU];cases aG e p2<;>rfl) (fun _=>rfl) (fun _=>rfl) fun _ _=>rfl
theorem ZH {p1:_} {p2:_} {p3:_} {p4:_}:xo m run runY (⟨ix,d,(DOp.idxa p1 p2 p3 p4),none⟩::r) e h=kV m run runY r d e h (aJR p1 p2 (aG e p3) (aG e p4)):=nF rfl (by simp only[aA,mC,aJR];cases aG e p3<;>cases aG e p4<;>first|rfl|(simp only[];split<;>rfl)) (fun _=>rfl) (fun _=>rfl) fun _ _=>rfl
theorem ZI {p1:_} {p2:_} {p3:_}:xo m run runY (⟨ix,d,(DOp.idx p1 p2 p3),none⟩::r) e h=kV m run runY r d e h (aJS p1 (aG e p2) (aG e p3)):=nF rfl (by simp only[aA,mC,aJS];cases aG e p2<;>cases aG e p3<;>first|rfl|(simp only[];split<;>rfl)) (fun _=>rfl) (fun _=>rfl) fun _ _=>rfl
theorem ZJ {p1:_} {p2:_} {p3:_} {p4:_} {p5:_}:xo m run runY (⟨ix,d,(DOp.idxv p1 p2 p3 p4 p5),none⟩::r) e h=kV m run runY r d e h (aJP p1 p2 p3 (aG e p4) (aG e p5)):=nF rfl (by simp only[aA,mC,aJP];cases aG e p4<;>cases aG e p5<;>first|rfl|(simp only[];split<;>first|rfl|(split<;>simp_all))) (fun _=>rfl) (fun _=>rfl) fun _ _=>rfl
theorem ZK {p1:_} {p2:_}:xo m run runY (⟨ix,d,(DOp.idxs p1 p2),none⟩::r) e h=kV m run runY r d e h (aJQ (aG e p1) (aG e p2)):=nF rfl (by simp only[aA,mC,aJQ];cases aG e p1<;>cases aG e p2<;>first|rfl|(simp only[];split<;>rfl)) (fun _=>rfl) (fun _=>rfl) fun _ _=>rfl
theorem ZL {p1:_} {p2:_} {p3:_} {p4:_} {p5:_}:xo m run runY (⟨ix,d,(DOp.slarr p1 p2 p3 p4 p5),none⟩::r) e h=kE m run runY r d e h false (aA (DOp.slarr p1 p2 p3 p4 p5) e (aF h)):=wJ rfl (fun _=>rfl) (fun _=>rfl) fun _ _=>rfl
theorem ZM {p1:_} {p2:_} {p3:_} {p4:_}:xo m run runY (⟨ix,d,(DOp.slsl p1 p2 p3 p4),none⟩::r) e h=kE m run runY r d e h false (aA (DOp.slsl p1 p2 p3 p4) e (aF h)):=wJ rfl (fun _=>rfl) (fun _=>rfl) fun _ _=>rfl
theorem ZN {p1:_} {p2:_} {p3:_}:xo m run runY (⟨ix,d,(DOp.slstr p1 p2 p3),none⟩::r) e h=kE m run runY r d e h false (aA (DOp.slstr p1 p2 p3) e (aF h)):=wJ rfl (fun _=>rfl) (fun _=>rfl) fun _ _=>rfl
theorem ZO:xo m run runY (⟨ix,d,(DOp.mkmap),none⟩::r) e h=kE m run runY r d e h true (aA (DOp.mkmap) e (aF h)):=wJ rfl (fun _=>rfl) (fun _=>rfl) fun _ _=>rfl
theorem ZP {p1:_} {p2:_} {p3:_} {p4:_} {p5:_}:xo m run runY (⟨ix,d,(DOp.lookup p1 p2 p3 p4 p5),none⟩::r) e h=kV m run runY r d e h (aJG p2 p3 (iW p1 (aF h) (aG e p5) (aG e p4))):=nF rfl (by simp only[aA,mC,aJG];cases iW p1 (aF h) (aG e p5) (aG e p4)<;>rfl) (fun _=>rfl) (fun _=>rfl) fun _ _=>rfl
theorem ZQ {p1:_} {p2:_}:xo m run runY (⟨ix,d,(DOp.ext p1 p2),none⟩::r) e h=kV m run runY r d e h (aOW (aG e p1) p2):=nF rfl (by simp only[aA,mC,aOW];cases aG e p1<;>first|rfl|(simp only[];split<;>simp_all)) (fun _=>rfl) (fun _=>rfl) fun _ _=>rfl
theorem ZR {p1:_} {p2:_}:xo m run runY (⟨ix,d,(DOp.len p1 p2),none⟩::r) e h=kV m run runY r d e h (aHj p1 (aG e p2)):=nF rfl (by simp only[aA,mC,aHj];cases p1<;>cases aG e p2<;>rfl) (fun _=>rfl) (fun _=>rfl) fun _ _=>rfl
theorem ZS {p1:_} {p2:_} {p3:_}:xo m run runY (⟨ix,d,(DOp.mm p1 p2 p3),none⟩::r) e h=kV m run runY r d e h (mmM p1 (aG e p2) (aG e p3)):=nF rfl (by simp only[aA,mC,mmM];cases aG e p2<;>cases aG e p3<;>rfl) (fun _=>rfl) (fun _=>rfl) fun _ _=>rfl
theorem ZT {p1:_}:xo m run runY (⟨ix,d,(DOp.bytes p1),none⟩::r) e h=kE m run runY r d e h true (aA (DOp.bytes p1) e (aF h)):=wJ rfl (fun _=>rfl) (fun _=>rfl) fun _ _=>rfl
theorem ZU {a:Bool} {n:Nat} {x:AO}:xo none run runY (⟨ix,d,.load a n x,none⟩::r) e h=kV none run runY r d e h (dX a n (aF h) (aG e x)):=by
 show dM run runY _ e h=_
 simp only[dM,gd,bT,aA]
 cases dX a n (aF h) (aG e x)<;>rfl
def aOE (ix:Nat) (v:AV) (L:List (Nat×Nat)):List (Nat×Nat):=match dZ v with
 | some b=>(ix,b)::L
 | none=>L
theorem ZV {b o:Nat} {L:List (Nat×Nat)}:aOE ix (.pt b o) L=(ix,b)::L:=rfl
theorem ZW {rows:List (List AV)} {i o:Nat} {L:List (Nat×Nat)}:aOE ix (.fp rows i o) L=L:=rfl
theorem ZX {a:Bool} {n:Nat} {x:AO} {L:List (Nat×Nat)}:xo (some L) run runY (⟨ix,d,.load a n x,none⟩::r) e h=kV (some (aOE ix (aG e x) L)) run runY r d e h (dX a n (aF h) (aG e x)):=by
 show dK run runY _ e h L=_
 simp only[dK,gd,bT,aA,pP,if_true]
 cases dX a n (aF h) (aG e x)<;>rfl

def kH (m:Option (List (Nat×Nat))) (run:bZ) (runY:cV) (r:List DOper) (d:Option Nat) (e:aD) (v:AV):Option XH→Option (aD×XH)
 | some h=>xo m run runY r (aP e d v) h
 | none=>none
theorem ZY:kH m run runY r d e v (some h)=xo m run runY r (aP e d v) h:=rfl
theorem ZZ {n:Nat} {p x:AO} {l:List Nat}:xo none run runY (⟨ix,d,.store n p x l,none⟩::r) e h=kH none run runY r d e .any (lU n h (aG e p) (aG e x)):=by
 show dM run runY _ e h=_
 simp only[dM,gd,bT]
 cases lU n h (aG e p) (aG e x)<;>rfl
def sA {α:Type} (b:Bool) (x:Option α):Option α:=if b then x else none
theorem Ya {α:Type} {x:Option α}:sA true x=x:=rfl
theorem Yb {n:Nat} {p x:AO} {l:List Nat} {L:List (Nat×Nat)}:xo (some L) run runY (⟨ix,d,.store n p x l,none⟩::r) e h=sA (L.all fun q => !l.contains q.1||dZ (aG e p) != some q.2) (kH (some L) run runY r d e .any (lU n h (aG e p) (aG e x))):=by
 show dK run runY _ e h L=_
 simp only[dK,gd,bT,pP,sA]
 cases lU n h (aG e p) (aG e x)<;>rfl
def kR (m:Option (List (Nat×Nat))) (run:bZ) (runY:cV) (r:List DOper) (d:Option Nat) (e:aD):Option (AV×XH)→Option (aD×XH)
 | some (v,h)=>xo m run runY r (aP e d v) h
 | none=>none
theorem Yc:kR m run runY r d e (some (v,h))=xo m run runY r (aP e d v) h:=rfl
def aBD (s:Nat) (h:XH) (x y:AV):Option (AV×XH):=(xF s h x y).map fun r=>(.int .i64 (r.1:Int),r.2)
theorem Yd {s:Nat} {x y:AO}:xo none run runY (⟨ix,d,.copy s x y,none⟩::r) e h=kR none run runY r d e (aBD s h (aG e x) (aG e y)):=by
 show dM run runY _ e h=_
 simp only[dM,gd,bT,aBD]
 cases xF s h (aG e x) (aG e y)<;>rfl
theorem Ye {q:Bool} {a k x:AO}:xo none run runY (⟨ix,d,.mapup q a k x,none⟩::r) e h=kH none run runY r d e .any (oX q h (aG e a) (aG e k) (aG e x)):=by
 show dM run runY _ e h=_
 simp only[dM,gd,bT]
 cases oX q h (aG e a) (aG e k) (aG e x)<;>rfl
theorem Yf {f:AO} {xs:List AO} {l:List Nat}:xo none run runY (⟨ix,d,.callf false f xs l,none⟩::r) e h=kR none run runY r d e (eQ run runY (aG e f) (xs.map (aG e)) h):=by
 show dM run runY _ e h=_
 simp only[dM,gd,bT]
 cases eQ run runY (aG e f) (xs.map (aG e)) h<;>rfl
def kRL (L:List (Nat×Nat)) (l:List Nat) (run:bZ) (runY:cV) (r:List DOper) (d:Option Nat) (e:aD) (h:XH) (ps:List Nat):Option (AV×XH)→Option (aD×XH)
 | some (v,h')=>sA (L.all fun q=>(aJ h' q.2).isSome&&(!l.contains q.1||(!ps.contains q.2||aCM (aJ h q.2) (aJ h' q.2)))) (xo (some L) run runY r (aP e d v) h')
 | none=>none
theorem Yg {f:AO} {xs:List AO} {l:List Nat} {L:List (Nat×Nat)}:xo (some L) run runY (⟨ix,d,.callf false f xs l,none⟩::r) e h=kRL L l run runY r d e h (fW (aG e f) (xs.map (aG e)) h) (eQ run runY (aG e f) (xs.map (aG e)) h):=by
 show dK run runY _ e h L=_
 simp only[dK,gd,bT,pP,if_true]
 cases eQ run runY (aG e f) (xs.map (aG e)) h<;>rfl
theorem Yh {L:List (Nat×Nat)} {l:List Nat} {h':XH} {ps:List Nat}:kRL L l run runY r d e h ps (some (v,h'))=sA (L.all fun q=>(aJ h' q.2).isSome&&(!l.contains q.1||(!ps.contains q.2||aCM (aJ h q.2) (aJ h' q.2)))) (xo (some L) run runY r (aP e d v) h'):=rfl
theorem Yi {f:AO} {xs:List AO} {l:List Nat}:xo m run runY (⟨ix,d,.callf true f xs l,none⟩::r) e h=kV m run runY r d e h (lE run (aG e f) (xs.map (aG e)) h):=by
 cases m with
 | none =>
   show dM run runY _ e h=_
   simp only[dM,gd,bT]
   cases lE run (aG e f) (xs.map (aG e)) h<;>rfl
 | some L =>
   show dK run runY _ e h L=_
   simp only[dK,gd,bT,pP,if_true]
   cases lE run (aG e f) (xs.map (aG e)) h<;>rfl
theorem Yj {s b:Nat} {x y:AO}:xo none run runY (⟨ix,d,.app s b x y,none⟩::r) e h=kE none run runY r d e h (gZ h (aG e x)&&gZ h (aG e y)) (nE s b (aF h) (aG e x) (aG e y)):=by
 rw[←aJN];rfl

def aJp (acc:List Nat) (b:Nat):Option Nat:=fO b acc
def aKx (acc:List Nat) (run:bZ) (g:Nat) (all:List AV) (h:XH):Option (AV×XH):=(run g (lI (fun b=>fO b acc) all) (fS acc h)).map (rW acc h)
def aKy (run:bZ) (g:Nat) (all:List AV) (h:XH):Bool→Option (AV×XH)
 | true=>run g all h
 | false=>aKx (dT all h) run g all h
theorem Yk {g:Nat} {first cap as:List AV}:eQ run runY (.fn (.func g) first cap) as h=aKy run g (first++as++cap) h (fP g):=by
 unfold eQ
 dsimp only
 cases fP g<;>rfl
theorem Ql {g:Nat} {all:List AV}:aKy run g all h true=run g all h:=rfl
theorem Qm {g:Nat} {all:List AV}:aKy run g all h false=aKx (dT all h) run g all h:=rfl
theorem Qn {g:Nat}:fP g=aHh g [59,61,62,87,88,89,90,91,92,93,94,95,96,97,98,128,129,130,131,132,133,134,135,136]:=rfl
theorem Qo {g:Nat}:aHh g []=false:=rfl
theorem Qp {g k:Nat} {l:List Nat}:aHh g (k::l)=if g=k then true else aHh g l:=rfl
def kM (acc:List Nat) (h:XH) (r:Option (AV×XH)):Option (AV×XH):=r.map (rW acc h)
theorem Yl {acc:List Nat} {g:Nat} {all:List AV}:aKx acc run g all h=kM acc h (run g (lI (aJp acc) all) (fS acc h)):=rfl
end
theorem Ym {x y:AV}:aFW (.bool true) x y=some x:=rfl
theorem Yn {x y:AV}:aFW (.bool false) x y=some y:=rfl
theorem Yo {a b:Bool}:aTH false (.bool a) (.bool b)=some (.bool (a==b)):=rfl
theorem Yp {b:Bool}:aOy (.bool b)=some (.bool !b):=rfl
theorem Yq {k k':IntKind} {n:Int}:aKr k (.int k' n)=some (.int k (k.wrap n)):=rfl
theorem Yr {off b o:Nat}:aOU off (.pt b o)=some (.pt b (o+off)):=rfl
theorem Ys {rows:List (List AV)}:aHj false (.fs rows)=some (.int .i64 (rows.length:Int)):=rfl
theorem Yt {b o s n:Nat}:aHj false (.sl b o s n)=some (.int .i64 (n:Int)):=rfl
theorem Yu:aHj false .nilsl=some (.int .i64 0):=rfl
theorem Yv {s:ByteArray}:aHj true (.str s)=some (.int .i64 (s.size:Int)):=rfl
theorem Yw {b o s s' len:Nat} {k:IntKind} {n:Int}:aJS s (.sl b o s' len) (.int k n)=if s'=s∧0≤n∧n<(len:Int) then some (.pt b (o+n.toNat*s)) else none:=rfl
theorem Yx {s:Nat} {rows:List (List AV)} {k:IntKind} {n:Int}:aJS s (.fs rows) (.int k n)=if 0≤n∧n<(rows.length:Int) then aOK s rows n.toNat rows[n.toNat]? else none:=by
 simp only[aJS,aOK]
 by_cases h:0≤n∧n<(rows.length:Int)
 ·have h2:n.toNat<rows.length:=by omega
  rw[List.getElem?_eq_getElem h2,List.getD_eq_getElem?_getD,List.getElem?_eq_getElem h2,Option.getD_some]
  simp only[h,true_and]
  simp only[and_self,if_true]
 ·rw[if_neg h,if_neg (fun hc=>h ⟨hc.1,hc.2.1⟩)]
theorem Yy {s j:Nat} {rows:List (List AV)} {r:List AV}:aOK s rows j (some r)=if r.length=s then some (.fp rows j 0) else none:=rfl
theorem Yz {vs:List AV} {i:Nat}:aOW (.tup vs) i=vs[i]?:=rfl
theorem Y4 {k:IntKind} {a b:Int}:gW .add k a k b=some (.int k (k.wrap (a+b))):=by simp[gW]
theorem Y5 {k:IntKind} {a b:Int}:gW .sub k a k b=some (.int k (k.wrap (a-b))):=by simp[gW]
theorem Y6 {k:IntKind} {a b:Int}:gW .mul k a k b=some (.int k (k.wrap (a*b))):=by simp[gW]
theorem Y7 {k:IntKind} {a b:Int}:gW .rem k a k b=if b=0 then none else some (.int k (a.tmod b)):=by by_cases h:b=0<;>simp[gW,h]
theorem Y8 {k:IntKind} {a b:Int}:gW .eql k a k b=some (.bool (decide (a=b))):=by simp[gW];rfl
theorem Y9 {k:IntKind} {a b:Int}:gW .neq k a k b=some (.bool !(decide (a=b))):=by simp[gW];rfl
theorem YA {k:IntKind} {a b:Int}:gW .lss k a k b=some (.bool (decide (a<b))):=by simp[gW]
theorem YB {k:IntKind} {a b:Int}:gW .leq k a k b=some (.bool (decide (a≤b))):=by simp[gW]
theorem YC {k:IntKind} {a b:Int}:gW .gtr k a k b=some (.bool (decide (b<a))):=by simp[gW]
theorem YD {k:IntKind} {a b:Int}:gW .geq k a k b=some (.bool (decide (b≤a))):=by simp[gW]
theorem YE {n:Int}:(n=n)=True:=by simp
theorem YF {n:Nat}:(0≤(n:Int))=True:=by simp
theorem YG {n:Nat}:(n:Int).toNat=n:=by simp
theorem YH:IntKind.i64.wrap 0=0:=rfl
theorem YJ:IntKind.i64.wrap 1=1:=rfl
theorem YK:IntKind.i64.wrap 2=2:=rfl
theorem YL:IntKind.i64.wrap 6=6:=rfl
theorem YM:(0:Int).toNat=0:=rfl
theorem YN:((0:Nat):Int)=0:=rfl
theorem YO:(1:Int).toNat=1:=rfl
theorem YP:((1:Nat):Int)=1:=rfl
theorem YQ:(2:Int).toNat=2:=rfl
theorem YR:((2:Nat):Int)=2:=rfl
theorem YT:(3:Int).toNat=3:=rfl
theorem YU:((3:Nat):Int)=3:=rfl
theorem YV:(4:Int).toNat=4:=rfl
theorem YX:((4:Nat):Int)=4:=rfl
theorem YY:(5:Int).toNat=5:=rfl
theorem YZ:((6:Nat):Int)=6:=rfl
theorem Xa {len s b o:Nat} {k:IntKind} {n:Int}:aJR len s (.pt b o) (.int k n)=if 0≤n∧n<(len:Int) then some (.pt b (o+n.toNat*s)) else none:=rfl
theorem Xb {k k':IntKind} {a b:Int}:mmM false (.int k a) (.int k' b)=some (.int k (if b<a then b else a)):=rfl
theorem Xc {neg:Bool} {ks:List Nat} {cs ds:List AV}:aGo neg ks (.agg cs) (.agg ds)=aHw neg (cK ks cs ds):=by cases h:cK ks cs ds<;>simp[aGo,aHw,h]
theorem Xd {b:Bool}:aHw true (some b)=some (.bool !b):=rfl
theorem Xe {b:Bool}:aHw false (some b)=some (.bool b):=rfl
theorem Xf {ok:Bool} {z:AV} {r:Option AV}:aJG ok z (some r)=some (rM ok z r):=rfl
theorem Xg {z v:AV}:rM false z (some v)=v:=rfl
theorem Xh {z:AV}:rM false z none=z:=rfl
theorem Xi {q:Bool} {b:Nat} {H:Hp} {k:AV}:iW q H k (.mp b)=lkM q k (H b):=by simp only[iW,lkM]<;>rfl
theorem Xj {q w:Bool} {k:AV} {es:List (AV×AV)}:lkM q k (some (.map w es))=eC q k es:=rfl
theorem Xk {cs:List AV}:aPk (some cs)=some (.agg cs):=rfl
theorem Xl {agg:Bool} {len s:Nat} {cs:List AV} {k:IntKind} {n:Int}:aJP agg len s (.agg cs) (.int k n)=if 0≤n∧n<(len:Int) then fN agg s cs (n.toNat*s) else none:=rfl
theorem Xm {s:ByteArray} {k:IntKind} {n:Int}:aJQ (.str s) (.int k n)=if 0≤n∧n<(s.size:Int) then some (.int .u8 ((s.data.toList.getD n.toNat 0).toNat:Int)) else none:=rfl
theorem Xn {b o:Nat}:aCg (.pt b o)=some (.pt b o):=rfl
theorem RU {b:Nat}:aCg (.bp b)=some (.pt b 0):=rfl
theorem Xo {k:IntKind} {n:Int}:kU (.int k n)=([]:List Nat):=rfl
theorem Xp {t:Bool}:kU (.bool t)=([]:List Nat):=rfl
theorem Xq {t:ByteArray}:kU (.str t)=([]:List Nat):=rfl
theorem Xr {cs:List AV}:kU (.agg cs)=(nP cs:List Nat):=rfl
theorem Xs {cs:List AV}:kU (.tup cs)=(nP cs:List Nat):=rfl
theorem Xt {rows:List (List AV)}:kU (.fs rows)=([]:List Nat):=rfl
theorem Xu {b o s n:Nat}:kU (.sl b o s n)=([b]:List Nat):=rfl
theorem Xv {b o:Nat}:kU (.pt b o)=([b]:List Nat):=rfl
theorem Xw {b:Nat}:kU (.mp b)=([b]:List Nat):=rfl
theorem Xx  : kU .nilsl=([]:List Nat):=rfl
theorem Xy  : kU .nilpt=([]:List Nat):=rfl
theorem Xz {g:Nat} {fs us:List AV}:kU (.fn (.func g) fs us)=(nP fs++nP us:List Nat):=rfl
theorem XI {l:Nat} {fs us:List AV}:kU (.fn (.yield l) fs us)=([l]++(nP fs++nP us):List Nat):=rfl
theorem XJ {ty:TypeId} {v:AV}:kU (.ifc ty v)=(kU v:List Nat):=rfl
theorem XK  : kU .nilifc=([]:List Nat):=rfl
theorem XL  : kU .any=([]:List Nat):=rfl
theorem XM {k:IntKind} {n:Int}:fX (.int k n)=(true:Bool):=rfl
theorem XN {t:Bool}:fX (.bool t)=(true:Bool):=rfl
theorem XO {t:ByteArray}:fX (.str t)=(true:Bool):=rfl
theorem XW {cs:List AV}:fX (.agg cs)=(jK cs:Bool):=rfl
theorem XX {rows:List (List AV)}:fX (.fs rows)=(true:Bool):=rfl
theorem XY {b o s n:Nat}:fX (.sl b o s n)=(false:Bool):=rfl
theorem XZ {b o:Nat}:fX (.pt b o)=(false:Bool):=rfl
theorem Wa {b:Nat}:fX (.mp b)=(false:Bool):=rfl
theorem Wb  : fX .nilsl=(true:Bool):=rfl
theorem Wc  : fX .nilpt=(true:Bool):=rfl
theorem We {s:Nat→Option Nat} {k:IntKind} {n:Int}:rnA s (.int k n)=((.int k n):AV):=rfl
theorem Wf {s:Nat→Option Nat} {t:Bool}:rnA s (.bool t)=((.bool t):AV):=rfl
theorem Wg {s:Nat→Option Nat} {t:ByteArray}:rnA s (.str t)=((.str t):AV):=rfl
theorem Wh {s:Nat→Option Nat} {cs:List AV}:rnA s (.agg cs)=(.agg (lI s cs):AV):=rfl
theorem Wi {s:Nat→Option Nat} {cs:List AV}:rnA s (.tup cs)=(.tup (lI s cs):AV):=rfl
theorem Wj {s:Nat→Option Nat} {rows:List (List AV)}:rnA s (.fs rows)=((.fs rows):AV):=rfl
theorem Wk {s:Nat→Option Nat} {b o s2 n:Nat}:rnA s (.sl b o s2 n)=((match s b with|some c=>.sl c o s2 n|none=>.any):AV):=by simp only[rnA]<;>rfl
theorem Wl {s:Nat→Option Nat} {b o:Nat}:rnA s (.pt b o)=((match s b with|some c=>.pt c o|none=>.any):AV):=by simp only[rnA]<;>rfl
theorem Wm {s:Nat→Option Nat} {b:Nat}:rnA s (.mp b)=((match s b with|some c=>.mp c|none=>.any):AV):=by simp only[rnA]<;>rfl
theorem Wn {s:Nat→Option Nat}  : rnA s .nilsl=(.nilsl:AV):=rfl
theorem Wo {s:Nat→Option Nat}  : rnA s .nilpt=(.nilpt:AV):=rfl
theorem Wp {s:Nat→Option Nat} {g:Nat} {fs us:List AV}:rnA s (.fn (.func g) fs us)=(.fn (.func g) (lI s fs) (lI s us):AV):=rfl
theorem Wq {s:Nat→Option Nat} {l:Nat} {fs us:List AV}:rnA s (.fn (.yield l) fs us)=((match s l with|some c=>.fn (.yield c) (lI s fs) (lI s us)|none=>.any):AV):=by simp only[rnA]<;>rfl
theorem Wr {s:Nat→Option Nat}  : rnA s .nilifc=(.nilifc:AV):=rfl
theorem Ws {s:Nat→Option Nat}  : rnA s .any=(.any:AV):=rfl
theorem Wt {k:IntKind} {n:Int}:uM (.int k n)=([]:List Nat):=rfl
theorem Wu {t:Bool}:uM (.bool t)=([]:List Nat):=rfl
theorem Wv {t:ByteArray}:uM (.str t)=([]:List Nat):=rfl
theorem Ww {cs:List AV}:uM (.agg cs)=(slL cs:List Nat):=rfl
theorem Wx {cs:List AV}:uM (.tup cs)=(slL cs:List Nat):=rfl
theorem Wy {rows:List (List AV)}:uM (.fs rows)=([]:List Nat):=rfl
theorem Wz {b o s n:Nat}:uM (.sl b o s n)=([b]:List Nat):=rfl
theorem WB {b o:Nat}:uM (.pt b o)=([]:List Nat):=rfl
theorem WC  : uM .nilsl=([]:List Nat):=rfl
theorem WE  : uM .nilpt=([]:List Nat):=rfl
theorem WF {g:Nat} {fs us:List AV}:uM (.fn (.func g) fs us)=([]:List Nat):=rfl
theorem WG {ty:TypeId} {v:AV}:uM (.ifc ty v)=(uM v:List Nat):=rfl
theorem WH  : uM .nilifc=([]:List Nat):=rfl
theorem WI {B:Nat} {C:List AV} {k:IntKind} {n:Int}:uZ B C (.int k n)=((.int k n):AV):=rfl
theorem WJ {B:Nat} {C:List AV} {b o s n:Nat}:uZ B C (.sl b o s n)=((if b=B∧o+n*s≤C.length then .fs (bP C o s n) else .sl b o s n):AV):=rfl
theorem WK {B:Nat} {C:List AV} {b o:Nat}:uZ B C (.pt b o)=((.pt b o):AV):=rfl
theorem WL {k:IntKind} {n:Int}:oI (.int k n)=((.int k n):AV):=rfl
theorem WM {t:Bool}:oI (.bool t)=((.bool t):AV):=rfl
theorem WN {t:ByteArray}:oI (.str t)=((.str t):AV):=rfl
theorem WO {cs:List AV}:oI (.agg cs)=(.agg (jJ cs):AV):=rfl
theorem WP {cs:List AV}:oI (.tup cs)=(.tup (jJ cs):AV):=rfl
theorem WQ {rows:List (List AV)}:oI (.fs rows)=((.fs rows):AV):=rfl
theorem WR {b o s n:Nat}:oI (.sl b o s n)=((.sl b o s n):AV):=rfl
theorem WS {b o:Nat}:oI (.pt b o)=((.pt b o):AV):=rfl
theorem WT {b:Nat}:oI (.mp b)=((.mp b):AV):=rfl
theorem WU  : oI .nilsl=(.fs []:AV):=rfl
theorem WV  : oI .nilpt=(.nilpt:AV):=rfl
theorem WW {g:Nat} {fs us:List AV}:oI (.fn (.func g) fs us)=((.fn (.func g) fs us):AV):=rfl
theorem WX {l:Nat} {fs us:List AV}:oI (.fn (.yield l) fs us)=((.fn (.yield l) fs us):AV):=rfl
theorem Va  : oI .nilifc=(.nilifc:AV):=rfl
theorem Vb {k:IntKind} {n:Int}:cellsOf (.int k n)=(some [(.int k n)]:Option (List AV)):=rfl
theorem Vc {t:Bool}:cellsOf (.bool t)=(some [(.bool t)]:Option (List AV)):=rfl
theorem Vd {t:ByteArray}:cellsOf (.str t)=(some [(.str t)]:Option (List AV)):=rfl
theorem Ve {cs:List AV}:cellsOf (.agg cs)=(some cs:Option (List AV)):=rfl
theorem Vf {b o s n:Nat}:cellsOf (.sl b o s n)=(some [(.sl b o s n)]:Option (List AV)):=rfl
theorem Vg {b o:Nat}:cellsOf (.pt b o)=(some [(.pt b o)]:Option (List AV)):=rfl
theorem Vh {b:Nat}:cellsOf (.mp b)=(some [(.mp b)]:Option (List AV)):=rfl
theorem Vi  : cellsOf .nilsl=(some [.nilsl]:Option (List AV)):=rfl
theorem Vj {b o s n:Nat}:dZ (.sl b o s n)=(some b:Option Nat):=rfl
theorem Vk {b o:Nat}:dZ (.pt b o)=(some b:Option Nat):=rfl
theorem Vl  : dZ .nilsl=(none:Option Nat):=rfl
def aGf (k:Nat) (acc:List Nat) (h:XH) (r:List Nat):XH:=r.map fun b=>rnO (keepS k acc) (aJ h b)
def aLS (acc:List Nat) (h:XH) (r:List Nat):XH:=r.map fun b=>rnO (fun b=>fO b acc) (aJ h b)
def fzQ (fz:List (Nat×Bool)) (e:aD) (h:XH):List Nat:=fz.flatMap (aKb e h)
def aOR (h:XH):Option XB→List Nat
 | some (.blk false (.cells _ cs))=>jW h 2 (slL cs)
 | _=>[]
def fzD (h:XH) (v:AV):List Nat:=match v with
 | .pt b _=>match aJ h b with
  | some (.blk false (.cells _ cs))=>jW h 2 (slL cs)
  | _=>[]
 | _=>[]
def kF (own:Bool) (k:Nat) (h:XH) (r:Option AV):Option (AV×XH):=r.map fun v=>iZ own k v h
def aKk (k:Nat) (h:XH) (v:AV) (acc:List Nat):AV×XH:=(rnA (keepS k acc) v,mX k acc h)
def aTz (k:Nat) (p:aD×XH):AV×XH:=aKk k p.2 (oI (p.1 0)) (dP k [oI (p.1 0)] p.2)
def aIQ:Option (List AV)→Option AV
 | some [v]=>some v
 | some vs=>some (.tup vs)
 | none=>none
def aIR:Option AV→Option (List AV)→Option (List AV)
 | some v,some vs=>some (v::vs)
 | _,_=>none
def aGt (v:AV) (a b:aD→XH→Option (DX×aD×XH)) (e:aD) (h:XH):Option (DX×aD×XH):=match v with
 | .bool true=>a e h
 | .bool false=>b e h
 | _=>none
def ldM (agg:Bool) (n o:Nat):Option ABlk→Option AV
 | some (.cells _ cs)=>fN agg n cs o
 | _=>none
def ldR (agg:Bool) (n o:Nat):Option (List AV)→Option AV
 | some r=>fN agg n r o
 | none=>none
def stM (n b o:Nat) (h:XH):Option XB→Option (List AV)→Option XH
 | some (.blk g (.cells true cs)),some vs=>if vs.length=n∧o+n≤cs.length then some (h.set b (some (.blk (g&&jK vs) (.cells true (bH cs o vs))))) else none
 | _,_=>none
def muM (q:Bool) (b:Nat) (h:XH) (k x:AV):Option XB→Option XH
 | some (.blk g (.map true es))=>(kS q k x es).map fun es'=>h.set b (some (.blk (g&&(fX k&&fX x)) (.map true es')))
 | _=>none
def flM:Option XB→Bool
 | some (.blk g _)=>g
 | _=>false

theorem Vm {x:Option XB} {h:XH} {b:Nat}:aJ (x::h) b=if b=0 then x else aJ h (b-1):=by cases b<;>simp[aJ]
def hpM:Option XB→Option ABlk
 | some (.blk _ x)=>some x
 | _=>none
theorem Vn {h:XH} {b:Nat}:aF h b=hpM (aJ h b):=rfl
theorem Vo {g:Bool} {x:ABlk}:hpM (some (.blk g x))=some x:=rfl
theorem Vp {α:Type} {x y:α} {h:List α} {b:Nat}:(x::h).set b y=if b=0 then y::h else x::h.set (b-1) y:=by cases b<;>simp
theorem Vq {α:Type} {x:α} {l:List α} {n:Nat}:(x::l).take n=if n=0 then [] else x::l.take (n-1):=by cases n<;>simp
theorem Vr {α:Type} {n:Nat}:([]:List α).take n=[]:=by simp
theorem Vs {α:Type} {x:α} {l:List α} {n:Nat}:(x::l).drop n=if n=0 then x::l else l.drop (n-1):=by cases n<;>simp
theorem Vt {α:Type} {n:Nat}:([]:List α).drop n=[]:=by simp
theorem Vu {α:Type} {x d:α} {l:List α} {n:Nat}:(x::l).getD n d=if n=0 then x else l.getD (n-1) d:=by cases n<;>simp
theorem Vv {α:Type} {x:α} {l:List α} {n:Nat}:(x::l)[n]?=if n=0 then some x else l[n-1]?:=by cases n<;>simp
theorem Vw {α:Type} {a:α}:(a∈([]:List α))=False:=by simp
theorem Vx {α:Type} {a b:α} {l:List α}:(a∈b::l)=(a=b∨a∈l):=by simp
theorem Vy {acc:List Nat} {b:Nat}:aJp acc b=fO b acc:=rfl
theorem Vz {b:Nat}:fO b []=none:=rfl
theorem V0 {b c:Nat} {r:List Nat}:fO b (c::r)=if b=c then some 0 else (fO b r).map (· + 1):=rfl
theorem V4 {k:Nat} {acc:List Nat} {b:Nat}:keepS k acc b=if b<k then some b else (fO b acc).map (· + k):=rfl
theorem V5 {acc:List Nat} {n i:Nat}:eX acc n i=if i<acc.length then acc[i]? else some (n+(i-acc.length)):=rfl
theorem V6 {h:XH} {k n:Nat} {acc:List Nat}:eT h k n [] acc=acc:=by cases n<;>rfl
def aED (h:XH) (k n:Nat) (r:List Nat) (acc:List Nat) (b:Nat):Option XB→List Nat
 | none=>eT h k n r acc
 | some x=>eT h k n (nmB x++r) (acc++[b])
theorem V7 {h:XH} {k n:Nat} {r acc:List Nat} {b:Nat}:aED h k n r acc b none=eT h k n r acc:=rfl
theorem V8 {h:XH} {k n:Nat} {r acc:List Nat} {b:Nat} {x:XB}:aED h k n r acc b (some x)=eT h k n (nmB x++r) (acc++[b]):=rfl
theorem V9 {h:XH} {k n:Nat} {b:Nat} {r acc:List Nat}:eT h k n (b::r) acc=if n=0 then acc else if b<k∨b∈acc then eT h k (n-1) r acc else aED h k (n-1) r acc b (aJ h b):=by
 cases n with
 | zero=>rfl
 | succ n=>simp only[eT,Nat.add_one_ne_zero,if_false,Nat.add_sub_cancel];cases aJ h b<;>rfl
theorem VA {xs:List AV} {h:XH}:dT xs h=eT h 0 4096 (nP xs) []:=rfl
theorem VB {k:Nat} {vs:List AV} {h:XH}:dP k vs h=eT h k 4096 (nP vs++(cN k h).flatMap nmO) []:=rfl
theorem VC {n:Nat}:cN n []=List.replicate n none:=by induction n with
 | zero=>rfl
 | succ n ih=>simp[cN,ih,List.replicate_succ]
theorem VD {x:Option XB} {h:XH} {n:Nat}:cN n (x::h)=if n=0 then [] else x::cN (n-1) h:=by cases n<;>rfl
theorem VE {k:Nat} {acc:List Nat} {h:XH}:mX k acc h=(cN k h).map (rnO (keepS k acc))++aGf k acc h acc:=rfl
theorem VF {k:Nat} {acc:List Nat} {h:XH}:aGf k acc h []=[]:=rfl
theorem VG {k:Nat} {acc:List Nat} {h:XH} {b:Nat} {r:List Nat}:aGf k acc h (b::r)=rnO (keepS k acc) (aJ h b)::aGf k acc h r:=rfl
theorem VH {acc:List Nat} {h:XH}:fS acc h=aLS acc h acc:=rfl
theorem VI {acc:List Nat} {h:XH}:aLS acc h []=[]:=rfl
theorem VJ {acc:List Nat} {h:XH} {b:Nat} {r:List Nat}:aLS acc h (b::r)=rnO (aJp acc) (aJ h b)::aLS acc h r:=rfl
theorem VK {s:Nat→Option Nat}:rnO s none=none:=rfl
theorem VL {s:Nat→Option Nat} {x:XB}:rnO s (some x)=some (rnB s x):=rfl
theorem VM {s:Nat→Option Nat} {x:ABlk}:rnB s (.blk true x) = .blk true x:=by cases x<;>rfl
theorem VN {s:Nat→Option Nat} {w:Bool} {cs:List AV}:rnB s (.blk false (.cells w cs)) = .blk false (.cells w (lI s cs)):=rfl
theorem Qr {s:Nat→Option Nat} {st:dR} {p:Hp→Nat→Prop}:rnB s (.gh st p) = .gh st p:=rfl
theorem VO {s:Nat→Option Nat} {K site:Nat} {vs:List AV} {st:LSt}:rnB s (.loop K site vs st) = .loop K site (lI s vs) st:=rfl
theorem VP:nmO none=[]:=rfl
theorem VQ {x:XB}:nmO (some x)=nmB x:=rfl
theorem VR {x:ABlk}:nmB (.blk true x)=[]:=by cases x<;>rfl
theorem VS {w:Bool} {cs:List AV}:nmB (.blk false (.cells w cs))=nP cs:=rfl
theorem Qs {st:dR} {p:Hp→Nat→Prop}:nmB (.gh st p)=[]:=rfl
theorem VT {K site:Nat} {vs:List AV} {st:LSt}:nmB (.loop K site vs st)=nP vs:=rfl
theorem VU {acc:List Nat} {h hl:XH} {v:AV}:kM acc h (some (v,hl))=some (rnA (eX acc h.length) v,gJ acc h hl):=rfl
theorem VV {acc:List Nat} {h hl:XH}:gJ acc h hl=rG h acc ((cN acc.length hl).map (rnO (eX acc h.length)))++(hl.drop acc.length).map (rnO (eX acc h.length)):=rfl
theorem VW {h:XH} {xs:XH}:rG h [] xs=h:=by cases xs<;>rfl
theorem VX {h:XH} {b:Nat} {bs:List Nat} {x:Option XB} {xs:XH}:rG h (b::bs) (x::xs)=rG (h.set b x) bs xs:=rfl
theorem VY {a:Nat}:List.elem a []=false:=rfl
theorem VZ {a b:Nat} {l:List Nat}:List.elem a (b::l)=if a=b then true else List.elem a l:=by
 by_cases h:a=b
 ·simp only[List.elem,h,if_true,beq_self_eq_true]
 ·simp only[List.elem,show (a==b)=false by simpa using h,if_neg h]
theorem Ua {g:Nat} {first cap as:List AV} {h:XH}:fW (.fn (.func g) first cap) as h=qO (fP g) (first++as++cap) h:=rfl
theorem Qq {all:List AV} {h:XH}:qO false all h=dT all h:=rfl
theorem Ub {α:Type} {x:α}:(some x).isSome=true:=rfl
theorem Uc {b:Bool}:(b==true)=b:=by cases b<;>rfl
def fzE (b:Nat) (cs:List AV) (e:aD):aD:=fun j=>uZ b cs (e j)
theorem Ud {b:Nat} {cs:List AV} {e:aD} {j:Nat}:fzE b cs e j=uZ b cs (e j):=rfl
def aMd (b:Nat) (e:aD) (h:XH):Option XB→aD×XH
 | some (.blk true (.cells _ cs))=>(fzE b cs e,(h.map (fzO b cs)).set b none)
 | _=>(e,h)
theorem Ue {b:Nat} {e:aD} {h:XH} {w:Bool} {cs:List AV}:aMd b e h (some (.blk true (.cells w cs)))=(fzE b cs e,(h.map (fzO b cs)).set b none):=rfl
theorem aOS {b:Nat} {e:aD} {h:XH}:fz1 b e h=aMd b e h (aJ h b):=by
 unfold fz1 aMd
 cases aJ h b with
 | none=>rfl
 | some x=>cases x with
   | loop=>rfl
   | gh=>rfl
   | blk g x=>cases g<;>cases x<;>rfl
def fzP (r:List Nat) (p:aD×XH):aD×XH:=uX r p.1 p.2
theorem Uf {r:List Nat} {e:aD} {h:XH}:fzP r (e,h)=uX r e h:=rfl
theorem Ug {e:aD} {h:XH}:uX [] e h=(e,h):=rfl
theorem Uh {b:Nat} {r:List Nat} {e:aD} {h:XH}:uX (b::r) e h=fzP r (aMd b e h (aJ h b)):=by rw[←aOS];rfl
def nzP (fz:List (Nat×Bool)) (p:aD×XH):aD×XH:=(nzE fz p.1,p.2)
theorem RJ {fz:List (Nat×Bool)} {e:aD} {h:XH}:nzP fz (e,h)=(nzE fz e,h):=rfl
theorem RK {e:aD}:nzE [] e=e:=rfl
theorem RM {k:Nat} {r:List (Nat×Bool)} {e:aD}:nzE ((k,true)::r) e=nzE r e:=rfl
theorem RN {k j:Nat} {r:List (Nat×Bool)} {e:aD}:nzE ((k,false)::r) e j=if j=k then oI (nzE r e j) else nzE r e j:=rfl
def fzY (fz:List (Nat×Bool)) (e:aD) (h:XH):aD×XH:=nzP fz (uX (fzQ fz e h) e h)
theorem Ui {fz:List (Nat×Bool)} {e:aD} {h:XH}:sE fz e h=fzY fz e (rK fz e h):=rfl
theorem RO {fz:List (Nat×Bool)} {e:aD} {h:XH}:fzY fz e h=nzP fz (uX (fzQ fz e h) e h):=rfl
theorem RP {e:aD} {h:XH}:rK [] e h=h:=rfl
theorem RQ {k:Nat} {b:Bool} {r:List (Nat×Bool)} {e:aD} {h:XH}:rK ((k,b)::r) e h=if 1000000≤k then aFA (e (k-1000000)) (rK r e h) else rK r e h:=rfl
theorem Uj {e:aD} {h:XH}:fzQ [] e h=[]:=rfl
theorem Uk {j:Nat} {r:List (Nat×Bool)} {e:aD} {h:XH}:fzQ ((j,false)::r) e h=jW h 2 (uM (e j))++fzQ r e h:=rfl
theorem Ul {j:Nat} {r:List (Nat×Bool)} {e:aD} {h:XH}:fzQ ((j,true)::r) e h=fzD h (e j)++fzQ r e h:=by
 simp only[fzQ,List.flatMap_cons,aKb,fzD]<;>rfl
theorem Um {b o:Nat} {h:XH}:fzD h (.pt b o)=aOR h (aJ h b):=rfl
theorem Un {h:XH} {w:Bool} {cs:List AV}:aOR h (some (.blk false (.cells w cs)))=jW h 2 (slL cs):=rfl
theorem Uo {h:XH} {x:ABlk}:aOR h (some (.blk true x))=[]:=by cases x<;>rfl
def dpM (h:XH) (n b:Nat) (x:Option XB):List Nat:=aNn (jW h n) b x
theorem R5 {h:XH} {n:Nat}:jW h n []=[]:=by cases n<;>rfl
theorem R6 {h:XH} {b:Nat} {r:List Nat}:jW h 2 (b::r)=dpM h 1 b (aJ h b)++jW h 2 r:=by simp only[jW,List.flatMap_cons,dpM]
theorem R7 {h:XH} {n b:Nat} {x:ABlk}:dpM h n b (some (.blk true x))=[b]:=by cases x<;>rfl
theorem Uq {b:Nat} {cs:List AV}:fzO b cs none=none:=rfl
theorem Ur {b:Nat} {cs:List AV} {x:XB}:fzO b cs (some x)=some (fzB b cs x):=rfl
theorem Us {b:Nat} {cs vs:List AV} {w:Bool}:fzB b cs (.blk false (.cells w vs)) = .blk (jK (uY b cs vs)) (.cells w (uY b cs vs)):=rfl
theorem Ut {b:Nat} {cs:List AV} {x:ABlk}:fzB b cs (.blk true x) = .blk true x:=by cases x<;>rfl
theorem Re {cs:List AV} {o s:Nat}:bP cs o s 0=[]:=rfl
theorem Rf {cs:List AV} {o s:Nat}:bP cs o s 1=(cs.drop o).take s::bP cs (o+s) s 0:=rfl
theorem Rg {cs:List AV} {o s:Nat}:bP cs o s 2=(cs.drop o).take s::bP cs (o+s) s 1:=rfl
theorem Rh {cs:List AV} {o s:Nat}:bP cs o s 3=(cs.drop o).take s::bP cs (o+s) s 2:=rfl
theorem Ri {cs:List AV} {o s:Nat}:bP cs o s 4=(cs.drop o).take s::bP cs (o+s) s 3:=rfl
theorem Uu {res:List (Nat×Option (Bool×Nat))} {own:Bool} {k:Nat} {e:aD} {h:XH}:fV none res own k (some (.normal,e,h))=kF own k h (fD res e (aF h)):=rfl
theorem Uv {res:List (Nat×Option (Bool×Nat))} {own:Bool} {k:Nat} {e:aD} {h:XH}:fV none res own k (some (.ret,e,h))=kF own k h (fD res e (aF h)):=rfl
theorem Uw {own:Bool} {k:Nat} {h:XH} {v:AV}:kF own k h (some v)=some (iZ own k v h):=rfl
theorem Ux {k:Nat} {h:XH} {v:AV}:iZ true k v h=aKk k h v (dP k [v] h):=by simp[iZ,aKk,upd]
theorem Uy {k:Nat} {h:XH} {v:AV}:iZ false k v h=aTz k (uX (jW h 2 (uM v)) (upd anyE 0 v) h):=rfl
theorem Uz {k:Nat} {h:XH} {e:aD}:aTz k (e,h)=aKk k h (oI (e 0)) (dP k [oI (e 0)] h):=rfl
theorem U0 {k:Nat} {h:XH} {v:AV} {acc:List Nat}:aKk k h v acc=(rnA (keepS k acc) v,mX k acc h):=rfl
theorem UA {rs:List (Nat×Option (Bool×Nat))} {e:aD} {h:Hp}:fD rs e h=aIQ (pI e h rs):=by unfold fD aIQ;cases pI e h rs<;>rfl
theorem UB {v:AV}:aIQ (some [v])=some v:=rfl
theorem UC:aIQ (some [])=some (.tup []):=rfl
theorem UD {v u:AV} {r:List AV}:aIQ (some (v::u::r))=some (.tup (v::u::r)):=rfl
theorem UE {e:aD} {h:Hp}:pI e h []=some []:=rfl
theorem UF {e:aD} {h:Hp} {x:Nat×Option (Bool×Nat)} {r:List (Nat×Option (Bool×Nat))}:pI e h (x::r)=aIR (pJ e h x) (pI e h r):=by simp only[pI,aIR]<;>rfl
theorem UG {v:AV} {vs:List AV}:aIR (some v) (some vs)=some (v::vs):=rfl
theorem UH {e:aD} {h:Hp} {t:Nat}:pJ e h (t,none)=some (e t):=rfl
theorem UI {e:aD} {h:Hp} {a n:Nat} {g:Bool}:pJ e h (a,some (g,n))=dX g n h (e a):=rfl
theorem UJ {as:List AV} {k:Nat}:aM as k=as.getD k .any:=rfl
theorem UK {k:Nat} {ks:List Nat} {v:AV} {vs:List AV} {j:Nat}:eD (k::ks) (v::vs) j=if j=k then v else eD ks vs j:=rfl
theorem UL {k:Nat} {L:List Nat} {e:aD} {h:XH}:aFn k L e h=lI (keepS k (dP k (L.map e) h)) (L.map e):=rfl
theorem UM {k:Nat} {L:List Nat} {e:aD} {h:XH}:oF k L e h=mX k (dP k (L.map e) h) h:=rfl
theorem UN {D:Nat→Option XFn} {K k:Nat} {rd:Option Nat} {e:aD} {h:XH} {c:AO} {a b:XCode}:execW D K k rd (.cond c a b) e h=aGt (aG e c) (execW D K k rd a) (execW D K k rd b) e h:=by
 rw[aFb];unfold aGt
 cases aG e c with
 | bool t=>cases t<;>rfl
 | _=>rfl
theorem UO {a b:aD→XH→Option (DX×aD×XH)} {e:aD} {h:XH}:aGt (.bool true) a b e h=a e h:=rfl
theorem UP {a b:aD→XH→Option (DX×aD×XH)} {e:aD} {h:XH}:aGt (.bool false) a b e h=b e h:=rfl
theorem UQ {id:Nat} {e:aD} {h:XH}:aCm (some (.exit id,e,h))=true:=rfl
theorem UR {e:aD} {h:XH}:aCm (some (.ret,e,h))=true:=rfl
def aPb (x:AV):Option Eff:=match x with
    | .str s=>some (.new none (.cells true (s.data.toList.map fun b=>.int .u8 (b.toNat:Int))) fun b=>.sl b 0 1 s.size)
    | _=>none
def aPd:Option (List AV)→Option Eff
    | some cs=>some (.new none (.cells true cs) fun b=>.pt b 0)
    | none=>none
def aPc (s n:Nat):Option (List AV)→Option Eff
    | some cs=>some (.new none (.cells true cs) fun b=>.sl b 0 s n)
    | none=>none
theorem US:(false=true)=False:=by simp
theorem UT {α β:Type} {f:α→β} {a:α} {l:List α}:(a::l).map f=f a::l.map f:=rfl
theorem UU {α β:Type} {f:α→β}:([]:List α).map f=[]:=rfl
theorem UV {α:Type} {a:α} {l s:List α}:(a::l)++s=a::(l++s):=rfl
theorem UW {α:Type} {s:List α}:[]++s=s:=rfl
theorem UX {α:Type} {s:List α}:s++[]=s:=by simp
theorem UY {α β:Type} {f:α→List β} {a:α} {l:List α}:(a::l).flatMap f=f a++l.flatMap f:=by simp
theorem UZ {α β:Type} {f:α→List β}:([]:List α).flatMap f=[]:=rfl
theorem Ta {α:Type} {a:α} {l:List α}:(a::l).length=l.length+1:=rfl
theorem Tb {α:Type}:([]:List α).length=0:=rfl
theorem Tc {α β:Type} {f:α→β} {l:List α}:(l.map f).length=l.length:=by simp
theorem Td {α β:Type} {f:α→β} {l:List α} {i:Nat}:(l.map f)[i]?=l[i]?.map f:=by simp
theorem Te {α β:Type} {f:α→β} {a:α}:(some a).map f=some (f a):=rfl
theorem Tf {α β:Type} {f:α→β}:(none:Option α).map f=none:=rfl
theorem Tg {b:Bool}:(true&&b)=b:=by simp
theorem Th {b:Bool}:(b&&true)=b:=by simp
theorem Ti {b:Bool}:(false&&b)=false:=by simp
theorem Tj {b:Bool}:(b&&false)=false:=by simp
theorem Tl:(!true)=false:=rfl
theorem Tm:(!false)=true:=rfl
theorem Tn {b:Bool}:(true||b)=true:=by simp
theorem Tp {b:Bool}:(b||true)=true:=by simp
theorem Tq {p:Prop}:(p∧True)=p:=by simp
theorem Tr {p:Prop}:(p∨True)=True:=by simp
theorem Ts {p:Prop}:(p∨False)=p:=by simp
theorem Tt {i:Decidable True}:decide True=true:=by simp
theorem Tu {i:Decidable False}:decide False=false:=by simp
theorem Tv {α:Type} {f:α→Bool}:[].all f=true:=rfl
theorem Tw {α:Type} {f:α→Bool} {a:α} {l:List α}:(a::l).all f=(f a&&l.all f):=rfl
theorem Tx {α:Type} {a:α}:List.replicate 0 a=[]:=rfl
theorem Rc {α:Type} {a:α}:List.replicate 1 a=[a]:=rfl
theorem Rd {α:Type} {a:α}:List.replicate 3 a=[a,a,a]:=rfl
theorem Ty:nP []=[]:=by simp only[nP]
theorem Tz {v:AV} {r:List AV}:nP (v::r)=(kU v++nP r):=by simp only[nP]
theorem T0 {s:Nat→Option Nat}:lI s []=[]:=by simp only[lI]
theorem T1 {s:Nat→Option Nat} {v:AV} {r:List AV}:lI s (v::r)=(rnA s v::lI s r):=by simp only[lI]
theorem T2:jK []=true:=by simp only[jK]
theorem T3 {v:AV} {r:List AV}:jK (v::r)=(fX v&&jK r):=by simp only[jK]
theorem T4:slL []=[]:=by simp only[slL]
theorem T5 {v:AV} {r:List AV}:slL (v::r)=(uM v++slL r):=by simp only[slL]
theorem T6 {B:Nat} {C:List AV}:uY B C []=[]:=by simp only[uY]
theorem T7 {B:Nat} {C:List AV} {v:AV} {r:List AV}:uY B C (v::r)=(uZ B C v::uY B C r):=by simp only[uY]
theorem T8:jJ []=[]:=by simp only[jJ]
theorem T9 {v:AV} {r:List AV}:jJ (v::r)=(oI v::jJ r):=by simp only[jJ]
theorem TA {a:AV} {z cs:List AV} {off:Nat}:bH (a::z) off cs=(a::z).take off++cs++(a::z).drop (off+cs.length):=rfl
theorem TB {z:List AV}:eO z []=some z:=rfl
def aOV (z:List AV) (off n:Nat) (rest:List (Nat×Nat×AV)):Option (List AV)→Option (List AV)
 | some cs=>if cs.length=n∧off+n≤z.length then eO (bH z off cs) rest else none
 | none=>none
theorem TC {z:List AV} {off n:Nat} {v:AV} {rest:List (Nat×Nat×AV)}:eO z ((off,n,v)::rest)=aOV z off n rest (cellsOf v):=by simp only[eO,aOV]<;>rfl
theorem TD {z cs:List AV} {off n:Nat} {rest:List (Nat×Nat×AV)}:aOV z off n rest (some cs)=if cs.length=n∧off+n≤z.length then eO (bH z off cs) rest else none:=rfl
theorem TE {c d:Nat} {e:aD}:aK c d e none=some d:=rfl
def boM (cap:Nat):AV→Option Nat
 | .int _ n=>if 0≤n∧n≤(cap:Int) then some n.toNat else none
 | _=>none
theorem TF {c d:Nat} {e:aD} {x:AO}:aK c d e (some x)=boM c (aG e x):=by simp only[aK,boM]<;>rfl
theorem TG {c:Nat} {k:IntKind} {n:Int}:boM c (.int k n)=if 0≤n∧n≤(c:Int) then some n.toNat else none:=rfl
theorem TH {e:aD} {p:Nat} {ps:List Nat} {v:AV} {vs:List AV}:nL e (p::ps) (v::vs)=nL (upd e p v) ps vs:=rfl
theorem TI {e:aD} {vs:List AV}:nL e [] vs=e:=rfl
theorem TJ {H:Hp} {x:AO} {e:aD}:aA (.box x) e H=aPd (cellsOf (aG e x)):=by simp only[aA,aPd]<;>rfl
theorem TK {cs:List AV}:aPd (some cs)=some (.new none (.cells true cs) fun b=>.pt b 0):=rfl
theorem TL {s n:Nat} {z:List AV} {ps:List (Nat×Nat×AO)} {e:aD} {H:Hp}:aA (.bslice s n z ps) e H=aPc s n (eO (List.replicate n z).flatten (ps.map fun p=>(p.1,p.2.1,aG e p.2.2))):=by simp only[aA,aPc]<;>rfl
theorem TM {s n:Nat} {cs:List AV}:aPc s n (some cs)=some (.new none (.cells true cs) fun b=>.sl b 0 s n):=rfl
theorem TN {α:Type}:([]:List (List α)).flatten=[]:=rfl
theorem TO {α:Type} {a:List α} {l:List (List α)}:(a::l).flatten=a++l.flatten:=rfl
theorem TP {e:aD} {H:Hp}:aA .mkmap e H=some (.new none (.map true []) fun b=>.mp b):=rfl
theorem TQ {s:Nat} {H:Hp} {rows:List (List AV)}:eF s H (.fs rows)=if rows.all (fun r=>r.length==s) then some (rows.length,rows.flatten) else none:=rfl
def aNW (s o s' len:Nat):Option ABlk→Option (Nat×List AV)
    | some (.cells _ cs)=>if s'=s∧o+len*s≤cs.length then some (len,(cs.drop o).take (len*s)) else none
    | _=>none
theorem TR {s b o s' n:Nat} {H:Hp}:eF s H (.sl b o s' n)=aNW s o s' n (H b):=by simp only[eF,aNW]<;>rfl
theorem TS {s o s' len:Nat} {w:Bool} {cs:List AV}:aNW s o s' len (some (.cells w cs))=if s'=s∧o+len*s≤cs.length then some (len,(cs.drop o).take (len*s)) else none:=rfl
def aFs (s bytes:Nat) (H:Hp) (x:AV):Option (Nat×List AV)→Option Eff
 | none=>none
 | some (n,new) =>
   match x with
   | .nilsl=>if n*bytes≤1099511627776∧n≤1099511627776 then (if n=0 then some (.val .nilsl) else some (.new none (.cells true new) fun b=>if bytes=1048577 then .sb b n else .sl b 0 s n)) else none
   | .sb b len=>match H b with
     | some (.cells true cs)=>if bytes=1048577∧s=1∧len=cs.length∧len+n≤1099511627776 then some (.new (some b) (.cells true (cs++new)) fun b=>.sb b (len+n)) else none
     | _=>none
   | .sl b 0 s' len=>match H b with
     | some (.cells true cs)=>if s'=s∧len*s=cs.length∧(len+n)*bytes≤1099511627776∧len+n≤1099511627776 then some (.new (some b) (.cells true (cs++new)) fun b=>.sl b 0 s (len+n)) else none
     | _=>none
   | _=>none
def aKG (s bytes n:Nat) (new:List AV) (b len:Nat):Option ABlk→Option Eff
 | some (.cells true cs)=>if bytes=1048577∧s=1∧len=cs.length∧len+n≤1099511627776 then some (.new (some b) (.cells true (cs++new)) fun b=>.sb b (len+n)) else none
 | _=>none
def aKH (s bytes n:Nat) (new:List AV) (b s' len:Nat):Option ABlk→Option Eff
 | some (.cells true cs)=>if s'=s∧len*s=cs.length∧(len+n)*bytes≤1099511627776∧len+n≤1099511627776 then some (.new (some b) (.cells true (cs++new)) fun b=>.sl b 0 s (len+n)) else none
 | _=>none
theorem TT {s bytes:Nat} {H:Hp} {x y:AV}:nE s bytes H x y=aFs s bytes H x (eF s H y):=by
 unfold nE aFs
 cases eF s H y<;>rfl
theorem TU {s bytes n:Nat} {H:Hp} {new:List AV}:aFs s bytes H .nilsl (some (n,new))=if n*bytes≤1099511627776∧n≤1099511627776 then (if n=0 then some (.val .nilsl) else some (.new none (.cells true new) fun b=>if bytes=1048577 then .sb b n else .sl b 0 s n)) else none:=rfl
theorem RV {s bytes n b len:Nat} {H:Hp} {new:List AV}:aFs s bytes H (.sb b len) (some (n,new))=aKG s bytes n new b len (H b):=by simp only[aFs,aKG]<;>rfl
theorem RW {s bytes n b len:Nat} {cs new:List AV}:aKG s bytes n new b len (some (.cells true cs))=if bytes=1048577∧s=1∧len=cs.length∧len+n≤1099511627776 then some (.new (some b) (.cells true (cs++new)) fun b=>.sb b (len+n)) else none:=rfl
theorem TV {s bytes n b s' len:Nat} {H:Hp} {new:List AV}:aFs s bytes H (.sl b 0 s' len) (some (n,new))=aKH s bytes n new b s' len (H b):=by simp only[aFs,aKH]<;>rfl
theorem TW {s bytes n b s' len:Nat} {cs new:List AV}:aKH s bytes n new b s' len (some (.cells true cs))=if s'=s∧len*s=cs.length∧(len+n)*bytes≤1099511627776∧len+n≤1099511627776 then some (.new (some b) (.cells true (cs++new)) fun b=>.sl b 0 s (len+n)) else none:=rfl
theorem S8 {e:aD} {n:Nat}:aG e (.t n)=e n:=rfl
theorem S9 {e:aD} {v:AV}:aG e (.c v)=v:=rfl
theorem SA:wL 2 .nilfn .nilfn=some true:=rfl
theorem SB {f:Fn} {a b:List AV}:wL 2 (.fn f a b) .nilfn=some false:=rfl
theorem SC:wL 3 .nilpt .nilpt=some true:=rfl
theorem SD {b o:Nat}:wL 3 (.pt b o) .nilpt=some false:=rfl
def aLo (len s b o n h:Nat):Option Nat→Option Eff
 | some l=>if o+len*s≤n∧l<len then some (.val (.sl b (o+l*s) s (h-l))) else none
 | none=>none
def aLp (len s:Nat) (e:aD) (lo:Option AO) (b o:Nat):Option ABlk→Option Nat→Option Eff
 | some (.cells _ cs),some h=>aLo len s b o cs.length h (aK h 0 e lo)
 | _,_=>none
def aNY (len s:Nat) (e:aD) (lo:Option AO) (H:Hp) (r:Option Nat):AV→Option Eff
 | .pt b o=>aLp len s e lo b o (H b) r
 | _=>none
theorem SE {len s:Nat} {x:AO} {lo hi:Option AO} {e:aD} {H:Hp}:aA (.slarr len s x lo hi) e H=aNY len s e lo H (aK len len e hi) (aG e x):=by
 simp only[aA,aNY]
 cases aG e x with
 | pt b o =>
   simp only[]
   cases H b with
   | none=>rfl
   | some c =>
     cases c with
     | cells w cs =>
       cases aK len len e hi with
       | none=>rfl
       | some h=>simp only[aLp,aLo];cases aK h 0 e lo<;>rfl
     | _=>rfl
 | _=>rfl
theorem SF {len s b o:Nat} {e:aD} {lo:Option AO} {H:Hp} {r:Option Nat}:aNY len s e lo H r (.pt b o)=aLp len s e lo b o (H b) r:=rfl
theorem SG {len s b o h:Nat} {e:aD} {lo:Option AO} {w:Bool} {cs:List AV}:aLp len s e lo b o (some (.cells w cs)) (some h)=aLo len s b o cs.length h (aK h 0 e lo):=rfl
theorem SI {len s b o n h l:Nat}:aLo len s b o n h (some l)=if o+len*s≤n∧l<len then some (.val (.sl b (o+l*s) s (h-l))) else none:=rfl
def aRI (rows:List (List AV)) (h:Nat):Option Nat→Option Eff
 | some l=>some (.val (.fs ((rows.drop l).take (h-l))))
 | none=>none
def aRJ (rows:List (List AV)) (e:aD) (lo:Option AO):Option Nat→Option Eff
 | some h=>aRI rows h (aK h 0 e lo)
 | none=>none
def aLm (b o s h:Nat):Option Nat→Option Eff
 | some l=>if l<h then some (.val (.sl b (o+l*s) s (h-l))) else if l=0 then some (.val (.sl b o s 0)) else some (.val (.fs []))
 | none=>none
def aLn (b o s:Nat) (e:aD) (lo:Option AO):Option Nat→Option Eff
 | some h=>aLm b o s h (aK h 0 e lo)
 | none=>none
def aRK:Option Nat→Option Eff
 | some _=>some (.val .nilsl)
 | none=>none
def aRL (e:aD) (lo:Option AO):Option Nat→Option Eff
 | some h=>aRK (aK h 0 e lo)
 | none=>none
def aIj (s:Nat) (e:aD) (lo hi:Option AO):AV→Option Eff
 | .fs rows=>if rows.all (fun r=>r.length==s) then aRJ rows e lo (aK rows.length rows.length e hi) else none
 | .sl b o s' len=>if s'=s then aLn b o s e lo (aK len len e hi) else none
 | .nilsl=>aRL e lo (aK 0 0 e hi)
 | _=>none
theorem SJ {s:Nat} {x:AO} {lo hi:Option AO} {e:aD} {H:Hp}:aA (.slsl s x lo hi) e H=aIj s e lo hi (aG e x):=by
 simp only[aA]
 cases aG e x with
 | fs rows =>
   simp only[iP,aIj]
   by_cases hr:(rows.all fun r=>r.length==s)=true
   ·simp only[hr,if_true]
    cases aK rows.length rows.length e hi with
    | none=>rfl
    | some h=>simp only[aRJ,aRI];cases aK h 0 e lo<;>rfl
   ·simp only[hr];rfl
 | sl b o s' len =>
   simp only[iP,aIj]
   by_cases hr:s'=s
   ·simp only[hr,if_true]
    cases aK len len e hi with
    | none=>rfl
    | some h =>
      simp only[aLn,aLm]
      cases aK h 0 e lo with
      | none=>rfl
      | some l =>
        by_cases hl:l<h
        ·simp only[hl,if_true]
        ·by_cases h0:l=0
         ·simp only[hl,h0,if_true,if_false]
          subst h0
          simp only[hl,if_false]
         ·simp only[hl,h0,if_false]
   ·simp only[hr,if_false]
 | nilsl =>
   simp only[iP,aIj]
   cases aK 0 0 e hi with
   | none=>rfl
   | some h=>simp only[aRL,aRK];cases aK h 0 e lo<;>rfl
 | _=>rfl
theorem SK {s b o s' len:Nat} {e:aD} {lo hi:Option AO}:aIj s e lo hi (.sl b o s' len)=if s'=s then aLn b o s e lo (aK len len e hi) else none:=rfl
theorem SL {b o s h:Nat} {e:aD} {lo:Option AO}:aLn b o s e lo (some h)=aLm b o s h (aK h 0 e lo):=rfl
theorem SM {b o s h l:Nat}:aLm b o s h (some l)=if l<h then some (.val (.sl b (o+l*s) s (h-l))) else if l=0 then some (.val (.sl b o s 0)) else some (.val (.fs [])):=rfl
def aLj (s:ByteArray) (h:Nat):Option Nat→Option Eff
 | some l=>some (.val (.str (lA s l h)))
 | none=>none
def aLk (s:ByteArray) (e:aD) (lo:Option AO):Option Nat→Option Eff
 | some h=>aLj s h (aK h 0 e lo)
 | none=>none
def aNV (e:aD) (lo hi:Option AO):AV→Option Eff
 | .str s=>aLk s e lo (aK s.size s.size e hi)
 | _=>none
theorem SN {x:AO} {lo hi:Option AO} {e:aD} {H:Hp}:aA (.slstr x lo hi) e H=aNV e lo hi (aG e x):=by
 simp only[aA,aNV]
 cases aG e x with
 | str s =>
   simp only[]
   cases aK s.size s.size e hi with
   | none=>rfl
   | some h=>simp only[aLk,aLj];cases aK h 0 e lo<;>rfl
 | _=>rfl
theorem SO {e:aD} {lo hi:Option AO} {s:ByteArray}:aNV e lo hi (.str s)=aLk s e lo (aK s.size s.size e hi):=rfl
theorem SP {e:aD} {lo:Option AO} {s:ByteArray} {h:Nat}:aLk s e lo (some h)=aLj s h (aK h 0 e lo):=rfl
theorem SQ {s:ByteArray} {h l:Nat}:aLj s h (some l)=some (.val (.str (lA s l h))):=rfl
theorem SS {x:AO} {e:aD} {H:Hp}:aA (.bytes x) e H=aPb (aG e x):=by simp only[aA,aPb]<;>rfl
theorem SU {s:ByteArray}:aPb (.str s)=some (.new none (.cells true (s.data.toList.map fun b=>.int .u8 (b.toNat:Int))) fun b=>.sl b 0 1 s.size):=rfl
theorem ptf (p:Prop):(p=True)∨(p=False):=by by_cases h:p<;>simp[h]
theorem qH {α:Type} {l:List α} {i:Nat} (h:i<l.length):∃ x,l[i]?=some x:=⟨l[i],List.getElem?_eq_getElem h⟩
theorem TX {n:Int}:(n<n)=False:=eq_false (by omega)
theorem oZ {i n:Nat} (h:i<n) (hn:n<1000000000000):IntKind.i64.wrap ((i:Int)+1)=(i:Int)+1:=bB (by omega) (by omega)
theorem TY {agg:Bool} {n b o:Nat} {H:Hp}:dX agg n H (.pt b o)=ldM agg n o (H b):=by unfold dX ldM;rfl
theorem TZ {agg w:Bool} {n o:Nat} {cs:List AV}:ldM agg n o (some (.cells w cs))=fN agg n cs o:=rfl
theorem Sa {agg:Bool} {n i o:Nat} {rows:List (List AV)} {H:Hp}:dX agg n H (.fp rows i o)=ldR agg n o (rows[i]?):=by unfold dX ldR;rfl
theorem Sc {agg:Bool} {n o:Nat} {r:List AV}:ldR agg n o (some r)=fN agg n r o:=rfl
theorem Sd {n o:Nat} {cs:List AV}:fN true n cs o=if o+n≤cs.length then some (.agg ((cs.drop o).take n)) else none:=rfl
theorem Se {n o:Nat} {cs:List AV}:fN false n cs o=cs[o]?:=rfl
theorem Sf {n b o:Nat} {h:XH} {x:AV}:lU n h (.pt b o) x=stM n b o h (aJ h b) (cellsOf x):=by
 simp only[lU,stM]<;>rfl
theorem Sg {n b o:Nat} {h:XH} {g:Bool} {cs vs:List AV}:stM n b o h (some (.blk g (.cells true cs))) (some vs)=if vs.length=n∧o+n≤cs.length then some (h.set b (some (.blk (g&&jK vs) (.cells true (bH cs o vs))))) else none:=rfl
theorem Si {q:Bool} {h:XH} {b:Nat} {k x:AV}:oX q h (.mp b) k x=muM q b h k x (aJ h b):=by simp only[oX,muM]<;>rfl
theorem Sj {q g:Bool} {h:XH} {b:Nat} {k x:AV} {es:List (AV×AV)}:muM q b h k x (some (.blk g (.map true es)))=(kS q k x es).map fun es'=>h.set b (some (.blk (g&&(fX k&&fX x)) (.map true es'))):=rfl
theorem Sk {h:XH} {g:Bool} {x:ABlk}:oL h none g x=h++[some (.blk g x)]:=rfl
theorem Sl {h:XH} {b:Nat} {g:Bool} {x:ABlk}:oL h (some b) g x=h.set b none++[some (.blk g x)]:=rfl
theorem Sm {h:XH} {b o s n:Nat}:gZ h (.sl b o s n)=flM (aJ h b):=by simp only[gZ,flM]<;>rfl
theorem Sn {g:Bool} {x:ABlk}:flM (some (.blk g x))=g:=rfl
theorem Sp {h:XH} {rows:List (List AV)}:gZ h (.fs rows)=true:=rfl
theorem Sq {h:XH}:gZ h .nilsl=true:=rfl
theorem Sr {op:BinOp} {k k':IntKind} {a b:Int}:aAh op (.int k a) (.int k' b)=gW op k a k' b:=rfl
theorem Ss {op:BinOp} {a b:ByteArray}:aAh op (.str a) (.str b)=eZ op a b:=rfl

abbrev rB (hs:List Bool):AV:=.fs (hs.map fun v=>[.bool v])
theorem SV {α β:Type} {f:α→β} {a b:List α}:(a++b).map f=a.map f++b.map f:=by simp
theorem SW {α:Type} {a b:List α}:(a++b).length=a.length+b.length:=by simp
theorem SX {n:Nat}:n*1=n:=by simp
theorem SY {n:Nat}:0+n=n:=by simp
theorem SZ {n:Nat}:n+0=n:=by simp
theorem Ra {n:Nat}:(n≤n)=True:=by simp
theorem Rb {n:Nat}:n-0=n:=by simp
theorem aGu {α:Type} {f:α→AV}:∀ (l pre:List α),bP ((pre++l).map f) pre.length 1 l.length=l.map fun v=>[f v]
 | [],pre=>rfl
 | a::r,pre=>by
   have h:=aGu (f:=f) r (pre++[a])
   simp only[List.append_assoc,List.cons_append,List.nil_append,List.length_append,List.length_cons,List.length_nil]at h
   rw[List.length_cons,bP]
   simp only[Nat.zero_add]at h
   rw[h,List.map_append,List.drop_left' (by simp),List.map_cons,List.map_cons]
   rfl
section
variable {D:Nat→Option XFn} {K k:Nat} {rd:Option Nat} {e:aD} {h:XH} {run:bZ} {runY:cV}
variable {d:Option Nat} {ix:Nat} {r:List DOper} {L:List (Nat×Nat)}
theorem R2 {s b:Nat} {x y:AO}:xo (some L) run runY (⟨ix,d,.app s b x y,none⟩::r) e h=sA (L.all fun q=>dZ (aG e x) != some q.2) (kE (some L) run runY r d e h (gZ h (aG e x)&&gZ h (aG e y)) (nE s b (aF h) (aG e x) (aG e y))):=by
 show dK run runY _ e h L=_
 rw[←aJN]
 simp only[dK,gd,pP,sA]
 rfl
theorem R3 {b:Nat}:((none:Option Nat) != some b)=true:=rfl
theorem R4 {a b:Nat}:(some a != some b) = !(decide (a=b)):=by by_cases h:a=b<;>simp[h]
def lsM:Option XB→Option LSt
 | some (.loop _ _ _ s)=>some s
 | _=>none
theorem Rj {h:XH} {l:Nat}:fE h l=lsM (aJ h l):=by unfold fE lsM;rfl
theorem Rk {K site:Nat} {vs:List AV} {s:LSt}:lsM (some (.loop K site vs s))=some s:=rfl
def ltM (h:XH) (l:Nat) (s:LSt):Option XB→XH
 | some (.loop K site vs _)=>h.set l (some (.loop K site vs s))
 | _=>h
theorem Rl {h:XH} {l:Nat} {s:LSt}:loopTo h l s=ltM h l s (aJ h l):=by unfold loopTo ltM;rfl
theorem Rm {h:XH} {l K site:Nat} {vs:List AV} {s s':LSt}:ltM h l s (some (.loop K site vs s'))=h.set l (some (.loop K site vs s)):=rfl
theorem Ro {h:XH}:uU none h=true:=rfl
theorem Rp {g:Nat} {a b:List AV}:uT (.fn (.func g) a b)=true:=rfl
def aRR (b:Bool) (n:Nat) (e:aD) (r:Option (AV×XH)):Option (DX×aD×XH):=if b then aCT n e r else none
theorem Rq {site:Nat} {L:List Nat} {f:AO} {ps:List Nat} {a b:XCode}:execW D K k rd (.rng site L f ps a b) e h=aRR (uU rd h&&uT (aG e f)) h.length e (eQ (runW D) (runYW D) (aG e f) [.fn (.yield h.length) [] []] (h++[some (.loop K site (L.map e) .ready)])):=aHu
theorem Rr {n:Nat} {r:Option (AV×XH)}:aRR true n e r=aCT n e r:=rfl
def rgM (n:Nat) (e:aD) (h:XH):Option LSt→Option (DX×aD×XH)
 | some .ready=>some (.normal,e,h.set n none)
 | some (.done x)=>some (x,e,h.set n none)
 | _=>none
theorem Rs {n:Nat} {v:AV}:aCT n e (some (v,h))=rgM n e h (fE h n):=by unfold aCT rgM;rfl
theorem Rt {n:Nat}:rgM n e h (some .ready)=some (.normal,e,h.set n none):=rfl
theorem Ru {l:Nat} {as:List AV}:eQ run runY (.fn (.yield l) [] []) as h=kM (dT (.fn (.yield l) [] []::as) h) h (runY (rnA (aJp (dT (.fn (.yield l) [] []::as) h)) (.fn (.yield l) [] [])) (lI (aJp (dT (.fn (.yield l) [] []::as) h)) as) (fS (dT (.fn (.yield l) [] []::as) h) h)):=rfl
def yM2 (x:Option (AV×XH)):Option LSt→Option (AV×XH)
 | some .ready=>x
 | _=>none
theorem Rw {l:Nat} {f:aD→XH→Option (AV×XH)}:aEg l (some (.normal,e,h)) f=yM2 (f e (loopTo h l .busy)) (fE h l):=by unfold aEg yM2;rfl
theorem Rx {x:Option (AV×XH)}:yM2 x (some .ready)=x:=rfl
def yE2 (l k:Nat) (x:DX) (h:XH):Option LSt→Option (AV×XH)
 | some .busy=>some (match x with
  | .normal=>iZ true k (.bool true) (loopTo h l .ready)
  | x=>iZ true k (.bool false) (loopTo h l (.done x)))
 | _=>none
theorem Ry {l:Nat} {x:DX}:aGD l k (some (x,e,h))=yE2 l k x h (fE h l):=by unfold aGD yE2;rfl
theorem Rz {l:Nat}:yE2 l k .normal h (some .busy)=some (iZ true k (.bool true) (loopTo h l .ready)):=rfl
end
theorem R8 {g g' w w':Bool} {xs ys:List AV}:aCM (some (.blk g (.cells w xs))) (some (.blk g' (.cells w' ys)))=(w==w'&&eN xs ys):=rfl
theorem R9:eN [] []=true:=rfl
theorem RA {x y:AV} {xs ys:List AV}:eN (x::xs) (y::ys)=(bW x y&&eN xs ys):=rfl
theorem RC {k:IntKind} {n:Int}:bW (.int k n) (.int k n)=true:=by simp[bW]
theorem RF {b:Bool}:bW (.bool b) (.bool b)=true:=by cases b<;>rfl
theorem RG {b o:Nat}:bW (.pt b o) (.pt b o)=true:=by simp[bW]
theorem RH:((40:Nat):Int)=40:=rfl
theorem RI:((45:Nat):Int)=45:=rfl
section
variable {run:bZ} {runY:cV} {d:Option Nat} {e:aD} {h:XH} {ix:Nat} {r:List DOper} {m:Option (List (Nat×Nat))}
theorem RX {b n:Nat}:kU (.sb b n)=([b]:List Nat):=rfl
theorem RY {b n:Nat}:fX (.sb b n)=(false:Bool):=rfl
theorem RZ {s:Nat→Option Nat} {b n:Nat}:rnA s (.sb b n)=((match s b with|some c=>.sb c n|none=>.any):AV):=by simp only[rnA]<;>rfl
theorem Qa {B:Nat} {C:List AV} {b n:Nat}:uZ B C (.sb b n)=((.sb b n):AV):=rfl
theorem Qb {b n:Nat}:cellsOf (.sb b n)=(some [(.sb b n)]:Option (List AV)):=rfl
theorem Qd {b:Nat}:kU (.bp b)=([b]:List Nat):=rfl
theorem Qe {s:Nat→Option Nat} {b:Nat}:rnA s (.bp b)=((match s b with|some c=>.bp c|none=>.any):AV):=by simp only[rnA]<;>rfl
theorem Qf {b:Nat}:uM (.bp b)=([]:List Nat):=rfl
theorem Qg {B:Nat} {C:List AV} {b:Nat}:uZ B C (.bp b)=((.bp b):AV):=rfl
theorem Qh {b:Nat}:oI (.bp b)=((.bp b):AV):=rfl
theorem Qi {p:AO}:xo m run runY (⟨ix,d,(DOp.strof p),none⟩::r) e h=kV m run runY r d e h (gG (aF h) (aG e p)):=nF rfl (by cases hs:gG (aF h) (aG e p)<;>simp[aA,mC,hs]) (fun _=>rfl) (fun _=>rfl) fun _ _=>rfl
theorem Qj {H:Hp} {b o s n:Nat}:gG H (.sl b o s n)=kQ (eF 1 H (.sl b o s n)):=rfl
theorem Qk {n:Nat} {cs:List AV}:kQ (some (n,cs))=(hP cs).map fun l=>.str ⟨⟨l⟩⟩:=rfl
end
theorem aOC {p:Prop} (h:p):p:=h
theorem Qt {h:XH} {b j:Nat} {x:Option XB}:aJ (h.set b x) j=if j=b then (if b<h.length then x else aJ h j) else aJ h j:=by
 rw[dH]
 by_cases h1:j=b
 ·by_cases h2:b<h.length
  ·rw[if_pos ⟨h1,h2⟩,if_pos h1,if_pos h2]
  ·rw[if_neg (fun hh=>h2 hh.2),if_pos h1,if_neg h2]
 ·rw[if_neg (fun hh=>h1 hh.1),if_neg h1]
theorem Qu {h k:XH} {j:Nat}:aJ (h++k) j=if j<h.length then aJ h j else aJ k (j-h.length):=dV h k j
theorem Qw {h k:XH} {b:Nat} {x:Option XB}:(h++k).set b x=if b<h.length then h.set b x++k else h++k.set (b-h.length) x:=by
 rw[List.set_append]
theorem Qx {h k l:XH}:(h++k)++l=h++(k++l):=List.append_assoc h k l
theorem Qy {h:XH} {b:Nat} {x:Option XB}:(h.set b x).length=h.length:=List.length_set
theorem Qz {n:Nat}:(n<n)=False:=eq_false (Nat.lt_irrefl n)
theorem Q0 {n k:Nat}:(n+k<n)=False:=eq_false (by omega)
theorem QA {n:Nat}:n-n=0:=Nat.sub_self n
theorem QB {n k:Nat}:n+k-n=k:=by omega
def kGm (h:XH):Option AV→Option (AV×XH)
 | some v=>some (v,h)
 | none=>none
theorem QD {res:List (Nat×Option (Bool×Nat))} {e:aD} {h:XH}:aAv res (some (.normal,e,h))=kGm h (fD res e (aF h)):=by
 show (fD res e (aF h)).map (fun v=>(v,h))=_
 cases fD res e (aF h)<;>rfl
theorem QE {res:List (Nat×Option (Bool×Nat))} {e:aD} {h:XH}:aAv res (some (.ret,e,h))=kGm h (fD res e (aF h)):=by
 show (fD res e (aF h)).map (fun v=>(v,h))=_
 cases fD res e (aF h)<;>rfl
theorem QF {h:XH} {v:AV}:kGm h (some v)=some (v,h):=rfl
variable {P:Program} {B:Base} {F:Nat→Prop} {w:World} {H:Hp} {env:aD} {a:Act}

theorem aAm {Fe:Fence} {n:Nat} {id:Nat} {ops:Array Oper} {Q:Exit→Act→List Frame→World→Prop} {cs:List Frame} {o:Oper} (ho:ops[0]?=some o)
 (hg:o.guard=none) (hab:∀ f,o.about P w a.eval=some f→Fe.fn f) (hr:(execOp a.eval o).run P w = .ok .recover w) (hro:Fe.round=none)
 (h:match recoverD cs with
  | some (v,cs')=>wpOpsIn Fe n P ops (fun e a w=>Q e a cs' w) (List.range' 1 (ops.size-1)) (a.put o.dst v) w
  | none=>wpOpsIn Fe n P ops (fun e a w=>Q e a cs w) (List.range' 1 (ops.size-1)) (a.put o.dst .nilIface) w) :
 (Code.region id ops false).wpSIn Fe n P Q a cs w:=by
 intro b k hb hrd hF hroom
 have hsz:0<ops.size:=(Array.getElem?_eq_some_iff.1 ho).1
 have hrange:List.range ops.size=0::List.range' 1 (ops.size-1):=by
  rw[List.range_eq_range']
  obtain⟨m,hm⟩:∃ m,ops.size=m+1:=⟨ops.size-1,by omega⟩
  rw[hm,List.range'_succ];simp
 have i0:(lone (b.atR a (.code (.region id ops false)::k)) cs w).fenced P Fe:=fenced_calm hF hroom rfl
 have s0:=stepR_region (P:=P) (b:=b) (a:=a) (k:=k) (cs:=cs) (w:=w) (id:=id) (ops:=ops)
 rw[hrange]at s0
 have hw:Region.wanted o (yielded ops a.tmps)=true:=by unfold Region.wanted;rw[hg]
 have h0:(lone (b.atR a (.inRegion ops (0::List.range' 1 (ops.size-1))::k)) cs w).fenced P Fe:=fenced_oper hF hroom ho hab
 have hgg:=stepGR_op (P:=P) (b:=b) (k:=k) (cs:=cs) (w:=w) (rest:=List.range' 1 (ops.size-1)) ho hw
 rw[hrd,Oper.semAt_none]at hgg
 have hfin:∀ v,(b.atR a (.inRegion ops (0::List.range' 1 (ops.size-1))::k)).finish v=b.atR (a.put o.dst v) (.inRegion ops (List.range' 1 (ops.size-1))::k):=by
  intro v;rw[Frame.finish_atR,ho];rfl
 have hk:(b.atR a (.inRegion ops (0::List.range' 1 (ops.size-1))::k)).kind = .deferred:=hb
 have htr:=tryRecover_deferred hk cs
 split at h
 ·rename_i v cs' hrec
  have hlen:=recoverD_length hrec
  obtain⟨e,a',w'',hq,harr⟩:=wp_opsIn _ _ _ h b k cs' (hrd.trans hro.symm) hF (by rw[hlen];exact hroom)
  refine⟨e,a',cs',w'',hlen,hq,.of_steps (.one i0 s0) (.of_steps (.one h0 (step_lone_go ?_)) harr)⟩
  rw[hgg,←hfin]
  simp only[Frame.atR,hrd]at htr ⊢
  simp[stepG.apply,hr,htr,hrec]
 ·rename_i hrec
  obtain⟨e,a',w'',hq,harr⟩:=wp_opsIn _ _ _ h b k cs (hrd.trans hro.symm) hF hroom
  refine⟨e,a',cs,w'',rfl,hq,.of_steps (.one i0 s0) (.of_steps (.one h0 (step_lone_go ?_)) harr)⟩
  rw[hgg,←hfin]
  simp only[Frame.atR,hrd]at htr ⊢
  simp[stepG.apply,hr,htr,hrec]

theorem rN {fn:Func} {tmps:Array Value} {n0:Nat} {F0:Nat→Prop} {w0:World} {H0:Hp} {R:Ending→World→Prop} {T:List Deferred} {u:FrameMode} {S:World→Prop} (hS:∀ w w',Up F w F w'→S w→S w') (hu:u ≠ .run) (hn0:w0.heap.size≤n0)
 (hT:∀ w,S w→Ext F0 w0 H0 F w H→St F w H→RE F w env { tmps:=tmps,defers:=[] }→LeavesInM Fence.wide 0 P fn tmps R T u w) :
 ∀ (ms:List Deferred) (w:World),S w→Ext F0 w0 H0 F w H→St F w H→RE F w env { tmps:=tmps,defers:=[] }→ms.Nodup→(∀ d∈ms,Mk1 n0 F H w d)→LeavesInM Fence.wide 0 P fn tmps R (ms++T) u w:=by
 intro ms
 induction ms with
 | nil=>intro w hs he st re _ _;exact hT w hs he st re
 | cons d ds ih =>
   intro w hs he st re hnd hm
   obtain⟨D,rfl,h2,h3,h4,h5⟩:=hm d (by simp)
   obtain⟨k1,k2,k3⟩:=rU (n0:=0) (x:=none) he st (Nat.le_trans hn0 h2) h3 h4 h5
   have hnd:=List.nodup_cons.1 hnd
   refine⟨hu,.inl ⟨D,_,rfl,run_takeDeferred h3,ih _ (hS _ _ k3 hs) k1 k2 (re.up k3) hnd.2 fun d' hd'=>?_⟩⟩
   obtain⟨D',rfl,l2,l3,l4,l5⟩:=hm d' (by simp[hd'])
   refine⟨D',rfl,l2,?_,l4,l5⟩
   rw[World.putObj_heap_other fun e=>hnd.1 (by rw[←e];exact hd')]
   exact l3
section
variable {P:Program} {D:Nat→Option XFn} {d:XFn} {K k:Nat} {e:aD} {h:XH}

def PanX (P:Program) (D:Nat→Option XFn) (d:XFn) (k:Nat) (c:XCode) (e:aD) (h:XH) (v:AV) (e':aD) (h':XH):Prop :=
 kT c=true→eS d c→∀ (B:Base) (Y:Nat→Option YI) (r:Nat→Option Nat) (env:aD) (H:Hp) (Q:QP),YOk P B D Y→SR D Y r e h env H→aNt D Y k r v e' h' Q→WPD B P none d.N c.erase Q env H
def CalP (P:Program) (D:Nat→Option XFn) (g:Nat) (all:List AV) (h:XH) (v:AV) (h':XH):Prop :=
 ∀ (B:Base) (Y:Nat→Option YI) (r:Nat→Option Nat) (H:Hp) (all':List AV),YOk P B D Y→SH D Y r h H→RnL D Y r all all'→FnP B P g all' H (bR D Y r v h')

def zV (L:List Nat) (r:Option (DX×aD×XH)):Option (DX×List AV×XH):=r.map fun q=>(q.1,L.map q.2.1,q.2.2)
theorem SR.cut {Y:Nat→Option YI} {r:Nat→Option Nat} {env:aD} {H:Hp} (sr:SR D Y r e h env H) (L:List Nat):SR D Y r (eD L (L.map e)) h env H:=⟨sr.sh,fun j=>by
 rcases zR e L j with h1|h1
 ·rw[h1];exact sr.re j
 ·rw[h1];exact .any _⟩

theorem pV (ok:XOk P D) (hD:D K=some d) {code:XCode} {x:DX} {e':aD} {h':XH} (hx:execW D K k none code e h=some (x,e',h')) {B:Base} {Y:Nat→Option YI} {r:Nat→Option Nat} {env:aD} {H:Hp} {Q:QC}
 (hY:YOk P B D Y) (hok:kT code=true) (hs:eS d code) (sr:SR D Y r e h env H) (hK:∀ r' env' H',Agree k r r'→SR D Y r' e' h' env' H'→Q x env' H'):WD B P none d.N code.erase Q env H:=by
 obtain⟨n,hn⟩:=aQ.1 hx
 exact eM hD ok.mixed (fun B Y hY=>kI ok n B Y hY) k n none none code B Y r e h env H x e' h' Q hY hok hs rfl sr hn hK

theorem PanX.seqR (ok:XOk P D) (hD:D K=some d) {a b:XCode} (L:List Nat) {vs:List AV} {h1 h':XH} {v:AV} {e':aD} (hx:zV L (execW D K k none a e h)=some (.normal,vs,h1)) (hb:PanX P D d k b (eD L vs) h1 v e' h'):PanX P D d k (.seq a b) e h v e' h':=by
 intro hok hs B Y r env H Q hY sr hK
 simp only[kT,Bool.and_eq_true]at hok
 unfold zV at hx
 rw[Option.map_eq_some_iff]at hx
 obtain⟨⟨x,e1,h2⟩,hx,he⟩:=hx
 simp only[Prod.mk.injEq]at he
 obtain⟨rfl,rfl,rfl⟩:=he
 exact WPD.seq2 (pV ok hD hx hY hok.1 hs.1 sr fun r' env' H' ha sr'=>⟨rfl,hb hok.2 hs.2 B Y r' env' H' Q hY (sr'.cut L) fun r2 v2 env2 H2 ha2 sr2 hv2=>hK r2 v2 env2 H2 (ha.trans ha2) sr2 hv2⟩)
theorem PanX.seqL {a b:XCode} {v:AV} {e':aD} {h':XH} (ha:PanX P D d k a e h v e' h'):PanX P D d k (.seq a b) e h v e' h':=by
 intro hok hs B Y r env H Q hY sr hK
 simp only[kT,Bool.and_eq_true]at hok
 exact WPD.seq1 (ha hok.1 hs.1 B Y r env H Q hY sr hK)
theorem PanX.condT {c:AO} {a b:XCode} {v:AV} {e':aD} {h':XH} (hc:aG e c = .bool true) (ha:PanX P D d k a e h v e' h'):PanX P D d k (.cond c a b) e h v e' h':=by
 intro hok hs B Y r env H Q hY sr hK
 simp only[kT,Bool.and_eq_true]at hok
 have h1:=aI sr.re (x:=c) hok.1
 rw[hc]at h1
 exact WPD.cond (t:=true) (dG h1) (ha hok.2.1 hs.1 B Y r env H Q hY sr hK)
theorem PanX.condF {c:AO} {a b:XCode} {v:AV} {e':aD} {h':XH} (hc:aG e c = .bool false) (hb:PanX P D d k b e h v e' h'):PanX P D d k (.cond c a b) e h v e' h':=by
 intro hok hs B Y r env H Q hY sr hK
 simp only[kT,Bool.and_eq_true]at hok
 have h1:=aI sr.re (x:=c) hok.1
 rw[hc]at h1
 exact WPD.cond (t:=false) (dG h1) (hb hok.2.2 hs.2 B Y r env H Q hY sr hK)
theorem PanX.block {id:Nat} {a:XCode} {v:AV} {e':aD} {h':XH} (ha:PanX P D d k a e h v e' h'):PanX P D d k (.block id a) e h v e' h' :=
 fun hok hs B Y r env H Q hY sr hK=>WPD.block (ha (by simpa [kT]using hok) hs B Y r env H Q hY sr hK)
theorem PanX.loop (ok:XOk P D) (hD:D K=some d) {L:List Nat} {a:XCode} {v:AV} {e':aD} {h':XH} (n:Nat) (S:Nat→List AV) (G:Nat→XH) (h0:gY k L (some (.normal,e,h))=some (S 0,G 0))
 (hs:∀ i,i<n→gY k L (execW D K k none a (eD L (S i)) (G i))=some (S (i+1),G (i+1))) (hp:PanX P D d k a (eD L (S n)) (G n) v e' h'):PanX P D d k (.loop L a) e h v e' h':=by
 intro hok hst B Y r env H Q hY sr hK
 have key:∀ (m i:Nat) (e:aD) (h:XH) (r1:Nat→Option Nat) (env1:aD) (H1:Hp),m+i=n→gY k L (some (.normal,e,h))=some (S i,G i)→Agree k r r1→SR D Y r1 e h env1 H1→aEc B P none d.N a.erase Q m env1 H1:=by
  intro m
  induction m with
  | zero =>
    intro i e h r1 env1 H1 hi h0 ha sr1
    have:i=n:=by omega
    subst this
    simp only[gY,oSI,Prod.mk.injEq]at h0
    obtain⟨r2,ha2,sr2⟩:=jD sr1 k L
    have e1:lD k L e h=eD L (S i):=by rw[←h0.1];rfl
    rw[e1,h0.2]at sr2
    exact hp (by simpa [kT]using hok) hst B Y r2 env1 H1 Q hY sr2 fun r3 v3 env3 H3 ha3 sr3 hv3=>hK r3 v3 env3 H3 ((ha.trans ha2).trans ha3) sr3 hv3
  | succ m ih =>
    intro i e h r1 env1 H1 hi h0 ha sr1
    simp only[gY,oSI,Prod.mk.injEq]at h0
    obtain⟨r2,ha2,sr2⟩:=jD sr1 k L
    have e1:lD k L e h=eD L (S i):=by rw[←h0.1];rfl
    rw[e1,h0.2]at sr2
    have hx:=hs i (by omega)
    cases hq:execW D K k none a (eD L (S i)) (G i)with
    | none=>rw[hq]at hx;simp[gY]at hx
    | some q =>
      obtain⟨x,e3,h3⟩:=q
      rw[hq]at hx
      cases x with
      | normal=>exact pV ok hD hq hY (by simpa [kT]using hok) hst sr2 fun r3 env3 H3 ha3 sr3=>⟨rfl,ih (i+1) e3 h3 r3 env3 H3 (by omega) hx ((ha.trans ha2).trans ha3) sr3⟩
      | exit id=>simp[gY]at hx
      | ret=>simp[gY]at hx
 exact WPD.loop (key n 0 e h r env H (by omega) h0 (Agree.refl _ _) sr)

theorem aOg {B:Base} {Y:Nat→Option YI} {run:bZ} {runY:cV} (hf:FnS P B D Y run) (hy:YS P B D Y runY):∀ (p rest:List DOper) (r:Nat→Option Nat) (e:aD) (h:XH) (env:aD) (H:Hp) (e1:aD) (h1:XH) (Q:QP),lM p=true→SR D Y r e h env H →
 dM run runY p e h=some (e1,h1)→(∀ r' env' H',Sub r r'→SR D Y r' e1 h1 env' H'→RSP B P rest Q env' H')→RSP B P (p++rest) Q env H:=by
 intro p
 induction p with
 | nil =>
   intro rest r e h env H e1 h1 Q _ sr hx hK
   simp only[dM,oSI,Prod.mk.injEq]at hx
   obtain⟨rfl,rfl⟩:=hx
   exact hK r env H (Sub.refl r) sr
 | cons o p ih =>
   intro rest r e h env H e1 h1 Q hok sr hx hK
   simp only[lM,List.all_cons,Bool.and_eq_true]at hok
   simp only[dM]at hx
   refine .inr ?_
   split at hx
   ·rename_i hg
    simp only[Option.bind_eq_some_iff]at hx
    obtain⟨s,hx1,hx2⟩:=hx
    simp only[opW,uC sr hg]
    exact dN hf hy sr hok.1 (e':=s.1) (h':=s.2) hx1 fun r' env' H' hs sr'=>ih rest r' s.1 s.2 env' H' e1 h1 Q hok.2 sr' hx2 fun r2 env2 H2 hs2 sr2=>hK r2 env2 H2 (hs.trans hs2) sr2
   ·rename_i hg
    simp only[opW,uC sr hg]
    exact ih rest r _ h _ H e1 h1 Q hok.2 (sr.put (Sub.refl r) sr.sh (.tup [] [] rfl (by simp)) o.dst) hx hK
   ·simp at hx
def atX (f:AO) (xs:List AO) (L:List Nat) (r:Option (aD×XH)):Option (AV×List AV×List AV×XH):=r.map fun s=>(aG s.1 f,xs.map (aG s.1),L.map s.1,s.2)
theorem aJs {B:Base} {Y:Nat→Option YI} {r:Nat→Option Nat} {env:aD} {H:Hp} (sr:SR D Y r e h env H) (hY:YOk P B D Y) {ix:Nat} {dst:Option Nat} {f:AO} {xs:List AO} {l:List Nat} (hok:fA (.callf false f xs l)=true) (hm:nO f=true)
 {g:Nat} {first cap:List AV} (hf:aG e f = .fn (.func g) first cap) {v:AV} {h':XH} (hp:CalP P D g (first++xs.map (aG e)++cap) h v h') {Q:QP} (L:List Nat) (hK:aKN D Y r v (eD L (L.map e)) h' Q):opP B P ⟨ix,dst,.callf false f xs l,none⟩ Q env H:=by
 refine⟨rfl,fun tab k hh=>by subst hh;simp[nO]at hm,?_⟩
 simp only[fA,Bool.and_eq_true]at hok
 have h1:=aI sr.re (x:=f) hok.1
 rw[hf]at h1
 cases hv:aG env f<;>rw[hv]at h1<;>cases h1
 rename_i first' cap' hf0 hl1 k1 hl2 k2
 show FnP B P g (first'++xs.map (aG env)++cap') H _
 refine FnP.mono ?_ (hp B Y r H _ hY sr.sh (RnL.append (RnL.append ⟨hl1,k1⟩ (nI sr.re hok.2)) ⟨hl2,k2⟩))
 rintro v' H' ⟨r',q1,q2,q3⟩
 exact hK r' v' env H' q1 ⟨q2,fun j=>((sr.cut L).re j).mono q1⟩ q3
theorem PanX.reg (ok:XOk P D) {fz:List (Nat×Bool)} {p post:List DOper} {ix:Nat} {dst:Option Nat} {f:AO} {xs:List AO} {l:List Nat} (L:List Nat) {g:Nat} {first cap args vs:List AV} {h1 h':XH} {v:AV} (hm:nO f=true)
 (hcm:(p++⟨ix,dst,.callf false f xs l,none⟩::post).any (fun o=>o.op.isComm)=false) (hx:atX f xs L (xo none (runW D) (runYW D) p (sE fz e h).1 (sE fz e h).2)=some (.fn (.func g) first cap,args,vs,h1))
 (hp:CalP P D g (first++args++cap) h1 v h'):PanX P D d k (.reg fz false (p++⟨ix,dst,.callf false f xs l,none⟩::post)) e h v (eD L vs) h':=by
 intro hok hs B Y r env H Q hY sr hK
 simp only[kT]at hok
 obtain⟨env1,H1,k1,k2⟩:=qU sr fz
 refine WPD.shift k1 (WPD.reg (fun o ho=>?_) ?_)
 ·rw[List.any_eq_false]at hcm
  simpa using hcm o ho
 ·unfold atX at hx
  rw[Option.map_eq_some_iff]at hx
  obtain⟨⟨e2,h2⟩,hx,he⟩:=hx
  simp only[Prod.mk.injEq]at he
  obtain⟨q1,rfl,rfl,rfl⟩:=he
  have hx:dM (runW D) (runYW D) p (sE fz e h).1 (sE fz e h).2=some (e2,h2):=hx
  obtain⟨n,hn⟩:=aCz.1 hx
  simp only[lM,List.all_append,List.all_cons,Bool.and_eq_true]at hok
  obtain⟨s1,s2⟩:=kI ok n B Y hY
  refine aOg s1 s2 p _ r _ _ env1 H1 e2 h2 Q hok.1 k2 hn fun r' env' H' hs sr'=>.inl (aJs sr' hY hok.2.1 hm q1 hp L fun r2 v2 env2 H2 hs2 sr2 hv2=>hK r2 v2 env2 H2 ((hs.trans hs2).agree k) sr2 hv2)
theorem PanX.regD (ok:XOk P D) {fz:List (Nat×Bool)} {p post:List DOper} {ix:Nat} {dst:Option Nat} {f:AO} {xs:List AO} {l:List Nat} (L:List Nat) {g:Nat} {first cap args vs:List AV} {h1 h':XH} {v:AV} (hm:nO f=true)
 (hpan:aBg p ⟨ix,dst,.callf false f xs l,none⟩ post=true) (hx:atX f xs L (xo (some []) (runW D) (runYW D) p (qI (jV post) (sE fz e h).1) (sE fz e h).2)=some (.fn (.func g) first cap,args,vs,h1))
 (hp:CalP P D g (first++args++cap) h1 v h'):PanX P D d k (.reg fz true (p++⟨ix,dst,.callf false f xs l,none⟩::post)) e h v (eD L vs) h':=by
 intro hok hs B Y r env H Q hY sr hK
 simp only[kT]at hok
 obtain⟨env1,H1,k1,k2⟩:=qU sr fz
 refine WPD.shift k1 (WPD.regD ok.mixed hpan ?_)
 have k3:SR D Y r (qI (jV post) (sE fz e h).1) (sE fz e h).2 (qI (jV post) env1) H1:=⟨k2.sh,fun j=>by
  simp only[qI]
  split
  ·exact .any _
  ·exact k2.re j⟩
 unfold atX at hx
 rw[Option.map_eq_some_iff]at hx
 obtain⟨⟨e2,h2⟩,hx,he⟩:=hx
 simp only[Prod.mk.injEq]at he
 obtain⟨q1,rfl,rfl,rfl⟩:=he
 have hx:dK (runW D) (runYW D) p (qI (jV post) (sE fz e h).1) (sE fz e h).2 []=some (e2,h2):=hx
 obtain⟨n,hn⟩:=aAF.1 hx
 simp only[lM,List.all_append,List.all_cons,Bool.and_eq_true]at hok
 obtain⟨s1,s2⟩:=kI ok n B Y hY
 exact oW s1 s2 p r _ _ [] _ H1 noL e2 h2 _ hok.1 k3 ⟨by simp,fun j c hj=>by simp[noL]at hj⟩ hn fun r' env' H' hs sr' =>
  aJs sr' hY hok.2.1 hm q1 hp L fun r2 v2 env2 H2 hs2 sr2 hv2=>hK r2 v2 env2 H2 ((hs.trans hs2).agree k) sr2 hv2

def aHG:List Nat→aD→aD
 | [],e=>e
 | j::l,e=>upd (aHG l e) j .any
theorem aGm {e:aD}:aHG [] e=e:=rfl
theorem aCr {j:Nat} {l:List Nat} {e:aD}:aHG (j::l) e=upd (aHG l e) j .any:=rfl
theorem aKJ (e:aD):∀ (l:List Nat),qI l e=aHG l e
 | []=>rfl
 | j::l=>by
   funext i
   have ih:=congrFun (aKJ e l) i
   simp only[qI]at ih
   simp only[qI,aCr,upd,List.contains_cons]
   by_cases h:i=j
   ·simp[h]
   ·simp only[beq_iff_eq,h,Bool.false_or,if_false]
    simpa [h]using ih
theorem PanX.regU (ok:XOk P D) {fz:List (Nat×Bool)} {p post:List DOper} {ix:Nat} {dst:Option Nat} {f:AO} {xs:List AO} {l:List Nat} (L:List Nat) (fr:List Nat) {g:Nat} {first cap args vs:List AV} {h1 h':XH} {v:AV} (hm:nO f=true)
 (hpan:aBg p ⟨ix,dst,.callf false f xs l,none⟩ post=true) (hfr:jV post=fr) (hx:atX f xs L (xo (some []) (runW D) (runYW D) p (aHG fr (sE fz e h).1) (sE fz e h).2)=some (.fn (.func g) first cap,args,vs,h1))
 (hp:CalP P D g (first++args++cap) h1 v h'):PanX P D d k (.reg fz true (p++⟨ix,dst,.callf false f xs l,none⟩::post)) e h v (eD L vs) h' :=
 PanX.regD ok L hm hpan (by rw[aKJ,hfr];exact hx) hp
theorem CalP.of (ok:XOk P D) (hD:D K=some d) {as:List AV} {v:AV} {e':aD} {h':XH} (hl:as.length≤d.N) (hdf:d.dfr=none) (hp:PanX P D d h.length d.body (aM (if d.ownA then as else jJ as)) h v e' h') (hpr:d.prm=none:=by rfl):CalP P D K as h v h':=by
 intro B Y r H as' hY sh hA
 have main:∀ (as1 as1':List AV),RnL D Y r as1 as1'→as1.length≤d.N→PanX P D d h.length d.body (aM as1) h v e' h'→FnP B P K as1' H (bR D Y r v h'):=by
  intro as1 as1' hA1 hN1 hp
  refine FnP.of (ok.is K d hD hpr) (by rw[←hA1.1];exact hN1) hdf ?_
  refine hp (ok.body hD) (ok.sites K d hD) B Y r (aM as1') H _ hY ⟨sh,gN hA1⟩ ?_
  intro r1 v1 env1 H1 ha1 sr1 hv1
  exact⟨r1,fun b c hb=>ha1 b c (sh.dom b c hb) hb,sr1.sh,hv1⟩
 cases hown:d.ownA with
 | true =>
   rw[hown]at hp
   simp only[if_true]at hp
   exact main as as' hA hl hp
 | false =>
   rw[hown]at hp
   simp only[Bool.false_eq_true,if_false]at hp
   exact FnP.nz (main _ _ hA.nz (by rw[fJ];simpa using hl) hp)
end
end Go.DL
namespace Go.DL
set_option maxRecDepth 100000
theorem aC:(0:Nat).succ.pred.succ=(1:Nat):=rfl
theorem oS {q0 q1 q2 q3 q4 q5 q6 q7 q8 q9 q10 q11 q12 q13 q14 q15 q16 q17 q18 q19 q20 q21 q22 q23 q24 q25 p:Prop} (x0:q0) (x1:q1) (x2:q2) (x3:q3) (x4:q4) (x5:q5) (x6:q6) (x7:q7) (x8:q8) (x9:q9) (x10:q10) (x11:q11) (x12:q12) (sN:q13) (vK:q14) (x15:q15) (x16:q16) (x17:q17) (x18:q18) (x19:q19) (x20:q20) (x21:q21) (x22:q22) (x23:q23) (x24:q24) (x25:q25) (h:q0→q1→q2→q3→q4→q5→q6→q7→q8→q9→q10→q11→q12→q13→q14→q15→q16→q17→q18→q19→q20→q21→q22→q23→q24→q25→p:=by intro x0 x1 x2 x3 x4 x5 x6 x7 x8 x9 x10 x11 x12 sN vK x15 x16 x17 x18 x19 x20 x21 x22 x23 x24 x25; (sym=>(simp[x0,x1,x2,x3,x4,x5,x6,x7,x8,x9,x10,x11,x12,sN,vK,x15,x16,x17,x18,x19,x20,x21,x22,x23,x24,x25,Za,Zb,Zc,Zd,Ze,Zf,Zg,Zh,Zi,Zj,Zk,Zl,Zm,Zn,Zo,Zp,Zq,Zr,Zs,Zt,Zu,Zv,Zw,Zx,Zy,Zz,Z0,Z8,Z9,ZA,ZB,ZC,ZD,ZF,ZG,ZH,ZI,ZJ,ZK,ZL,ZM,ZN,ZO,ZP,ZQ,ZR,ZS,ZT,ZU,ZV,ZW,ZX,ZY,ZZ,Ya,Yb,Yc,Yd,Ye,Yf,Yg,Yh,Yi,Yj,Yk,Yl,Ym,Yn,Yp,Yq,Yr,Ys,Yt,Yu,Yv,Yw,Yx,Yy,Yz,Y4,Y5,Y6,Y7,Y8,Y9,YA,YB,YC,YD,YF,YG,YH,YJ,YL,YM,YN,YO,YP,YQ,YR,YT,YU,YV,YX,YY,YZ,Xa,Xb,Xc,Xd,Xe,Xf,Xg,Xh,Xi,Xj,Xk,Xl,Xm,Xn,Xo,Xp,Xq,Xr,Xs,Xt,Xu,Xv,Xw,Xx,Xy,Xz,XI,XK,XL,XM,XN,XO,XW,XX,XY,XZ,Wa,Wb,Wc,We,Wf,Wg,Wh,Wi,Wj,Wk,Wl,Wm,Wn,Wo,Wp,Wq,Wr,Ws,Wt,Wu,Wv,Ww,Wx,Wy,Wz,WB,WC,WE,WF,WH,WI,WJ,WK,WL,WM,WN,WO,WP,WQ,WR,WS,WU,WV,WW,WX,Va,Vb,Vc,Vd,Ve,Vf,Vg,Vh,Vi,Vj,Vk,Vl,Vm,Vn,Vo,Vp,Vq,Vr,Vs,Vt,Vu,Vv,Vw,Vx,Vy,Vz,V0,V4,V5,V6,V7,V8,V9,VA,VB,VC,VD,VE,VF,VG,VH,VI,VJ,VK,VL,VM,VN,VO,VP,VQ,VR,VS,VT,VU,VV,VW,VX,VY,VZ,Ua,Ub,Uc,Ud,Ue,Uf,Ug,Uh,Ui,Uj,Uk,Ul,Um,Un,Uo,Uq,Ur,Us,Ut,Uu,Uv,Uw,Ux,Uy,Uz,U0,UA,UB,UC,UD,UE,UF,UG,UH,UI,UJ,UK,UL,UM,UN,UO,UP,UQ,UR,US,UT,UU,UV,UW,UX,UY,UZ,Ta,Tb,Tc,Td,Te,Tf,Tg,Th,Ti,Tj,Tl,Tm,Tn,Tp,Tq,Tr,Ts,Tt,Tu,Tv,Tw,Tx,Ty,Tz,T0,T1,T2,T3,T4,T5,T6,T7,T8,T9,TA,TB,TC,TD,TE,TF,TG,TH,TI,TJ,TK,TL,TM,TN,TO,TP,TQ,TR,TS,TT,TU,TV,TW,TX,TY,TZ,Sa,Sc,Sd,Se,Sf,Sg,Si,Sj,Sk,Sl,Sm,Sn,Sp,Sq,Sr,Ss,Su,Sv,Sw,Sx,Sy,Sz,S2,S3,S4,S5,S6,S7,S8,S9,SA,SB,SC,SD,SE,SF,SG,SI,SJ,SK,SL,SM,SN,SO,SP,SQ,SS,SU,SV,SW,SX,SY,SZ,Ra,Rb,Rc,Rd,Re,Rf,Rg,Rh,Ri,Rj,Rk,Rl,Rm,Ro,Rp,Rq,Rr,Rs,Rt,Ru,Rw,Rx,Ry,Rz,R2,R3,R4,R5,R6,R7,R8,R9,RA,RC,RF,RG,RH,RI,RJ,RK,RM,RN,RO,RP,RQ,RR,RU,RV,RW,RX,RY,RZ,Qa,Qb,Qd,Qe,Qf,Qg,Qh,Qi,Qj,Qk,Ql,Qm,Qn,Qo,Qp,Qq,Qr,Qs,Qt,Qu,Qw,Qx,Qy,Qz,Q0,QA,QB,QD,QE,QF,aGm,aCr];all_goals tactic=>exact rfl))):p:=h x0 x1 x2 x3 x4 x5 x6 x7 x8 x9 x10 x11 x12 sN vK x15 x16 x17 x18 x19 x20 x21 x22 x23 x24 x25
theorem RS0 {p:Prop} (h:p:=by exact oS aC aC aC aC aC aC aC aC aC aC aC aC aC aC aC aC aC aC aC aC aC aC aC aC aC aC):p:=h
theorem wN {q0 p:Prop} (x0:q0) (h:q0→p:=by intro x0;exact oS x0 aC aC aC aC aC aC aC aC aC aC aC aC aC aC aC aC aC aC aC aC aC aC aC aC aC):p:=h x0
theorem RS2 {q0 q1 p:Prop} (x0:q0) (x1:q1) (h:q0→q1→p:=by intro x0 x1;exact oS x0 x1 aC aC aC aC aC aC aC aC aC aC aC aC aC aC aC aC aC aC aC aC aC aC aC aC):p:=h x0 x1
theorem RS3 {q0 q1 q2 p:Prop} (x0:q0) (x1:q1) (x2:q2) (h:q0→q1→q2→p:=by intro x0 x1 x2;exact oS x0 x1 x2 aC aC aC aC aC aC aC aC aC aC aC aC aC aC aC aC aC aC aC aC aC aC aC):p:=h x0 x1 x2
theorem RS4 {q0 q1 q2 q3 p:Prop} (x0:q0) (x1:q1) (x2:q2) (x3:q3) (h:q0→q1→q2→q3→p:=by intro x0 x1 x2 x3;exact oS x0 x1 x2 x3 aC aC aC aC aC aC aC aC aC aC aC aC aC aC aC aC aC aC aC aC aC aC):p:=h x0 x1 x2 x3
theorem RS5 {q0 q1 q2 q3 q4 p:Prop} (x0:q0) (x1:q1) (x2:q2) (x3:q3) (x4:q4) (h:q0→q1→q2→q3→q4→p:=by intro x0 x1 x2 x3 x4;exact oS x0 x1 x2 x3 x4 aC aC aC aC aC aC aC aC aC aC aC aC aC aC aC aC aC aC aC aC aC):p:=h x0 x1 x2 x3 x4
theorem RS6 {q0 q1 q2 q3 q4 q5 p:Prop} (x0:q0) (x1:q1) (x2:q2) (x3:q3) (x4:q4) (x5:q5) (h:q0→q1→q2→q3→q4→q5→p:=by intro x0 x1 x2 x3 x4 x5;exact oS x0 x1 x2 x3 x4 x5 aC aC aC aC aC aC aC aC aC aC aC aC aC aC aC aC aC aC aC aC):p:=h x0 x1 x2 x3 x4 x5
theorem RS7 {q0 q1 q2 q3 q4 q5 q6 p:Prop} (x0:q0) (x1:q1) (x2:q2) (x3:q3) (x4:q4) (x5:q5) (x6:q6) (h:q0→q1→q2→q3→q4→q5→q6→p:=by intro x0 x1 x2 x3 x4 x5 x6;exact oS x0 x1 x2 x3 x4 x5 x6 aC aC aC aC aC aC aC aC aC aC aC aC aC aC aC aC aC aC aC):p:=h x0 x1 x2 x3 x4 x5 x6
theorem RS8 {q0 q1 q2 q3 q4 q5 q6 q7 p:Prop} (x0:q0) (x1:q1) (x2:q2) (x3:q3) (x4:q4) (x5:q5) (x6:q6) (x7:q7) (h:q0→q1→q2→q3→q4→q5→q6→q7→p:=by intro x0 x1 x2 x3 x4 x5 x6 x7;exact oS x0 x1 x2 x3 x4 x5 x6 x7 aC aC aC aC aC aC aC aC aC aC aC aC aC aC aC aC aC aC):p:=h x0 x1 x2 x3 x4 x5 x6 x7
theorem RS9 {q0 q1 q2 q3 q4 q5 q6 q7 q8 p:Prop} (x0:q0) (x1:q1) (x2:q2) (x3:q3) (x4:q4) (x5:q5) (x6:q6) (x7:q7) (x8:q8) (h:q0→q1→q2→q3→q4→q5→q6→q7→q8→p:=by intro x0 x1 x2 x3 x4 x5 x6 x7 x8;exact oS x0 x1 x2 x3 x4 x5 x6 x7 x8 aC aC aC aC aC aC aC aC aC aC aC aC aC aC aC aC aC):p:=h x0 x1 x2 x3 x4 x5 x6 x7 x8
theorem aHI {q0 q1 q2 q3 q4 q5 q6 q7 q8 q9 p:Prop} (x0:q0) (x1:q1) (x2:q2) (x3:q3) (x4:q4) (x5:q5) (x6:q6) (x7:q7) (x8:q8) (x9:q9) (h:q0→q1→q2→q3→q4→q5→q6→q7→q8→q9→p:=by intro x0 x1 x2 x3 x4 x5 x6 x7 x8 x9;exact oS x0 x1 x2 x3 x4 x5 x6 x7 x8 x9 aC aC aC aC aC aC aC aC aC aC aC aC aC aC aC aC):p:=h x0 x1 x2 x3 x4 x5 x6 x7 x8 x9
theorem aHH {q0 q1 q2 q3 q4 q5 q6 q7 q8 q9 q10 q11 p:Prop} (x0:q0) (x1:q1) (x2:q2) (x3:q3) (x4:q4) (x5:q5) (x6:q6) (x7:q7) (x8:q8) (x9:q9) (x10:q10) (x11:q11) (h:q0→q1→q2→q3→q4→q5→q6→q7→q8→q9→q10→q11→p:=by intro x0 x1 x2 x3 x4 x5 x6 x7 x8 x9 x10 x11;exact oS x0 x1 x2 x3 x4 x5 x6 x7 x8 x9 x10 x11 aC aC aC aC aC aC aC aC aC aC aC aC aC aC):p:=h x0 x1 x2 x3 x4 x5 x6 x7 x8 x9 x10 x11
theorem aMz {q0 q1 q2 q3 q4 q5 q6 q7 q8 q9 q10 q11 q12 q13 p:Prop} (x0:q0) (x1:q1) (x2:q2) (x3:q3) (x4:q4) (x5:q5) (x6:q6) (x7:q7) (x8:q8) (x9:q9) (x10:q10) (x11:q11) (x12:q12) (sN:q13) (h:q0→q1→q2→q3→q4→q5→q6→q7→q8→q9→q10→q11→q12→q13→p:=by intro x0 x1 x2 x3 x4 x5 x6 x7 x8 x9 x10 x11 x12 sN;exact oS x0 x1 x2 x3 x4 x5 x6 x7 x8 x9 x10 x11 x12 sN aC aC aC aC aC aC aC aC aC aC aC aC):p:=h x0 x1 x2 x3 x4 x5 x6 x7 x8 x9 x10 x11 x12 sN
theorem aXd {q0 q1 q2 q3 q4 q5 q6 q7 q8 q9 q10 q11 q12 q13 q14 q15 q16 p:Prop} (x0:q0) (x1:q1) (x2:q2) (x3:q3) (x4:q4) (x5:q5) (x6:q6) (x7:q7) (x8:q8) (x9:q9) (x10:q10) (x11:q11) (x12:q12) (sN:q13) (vK:q14) (x15:q15) (x16:q16) (h:q0→q1→q2→q3→q4→q5→q6→q7→q8→q9→q10→q11→q12→q13→q14→q15→q16→p:=by intro x0 x1 x2 x3 x4 x5 x6 x7 x8 x9 x10 x11 x12 sN vK x15 x16;exact oS x0 x1 x2 x3 x4 x5 x6 x7 x8 x9 x10 x11 x12 sN vK x15 x16 aC aC aC aC aC aC aC aC aC):p:=h x0 x1 x2 x3 x4 x5 x6 x7 x8 x9 x10 x11 x12 sN vK x15 x16
theorem aAk {q0 q1 q2 q3 q4 q5 q6 q7 q8 q9 q10 q11 q12 q13 q14 q15 q16 q17 q18 q19 p:Prop} (x0:q0) (x1:q1) (x2:q2) (x3:q3) (x4:q4) (x5:q5) (x6:q6) (x7:q7) (x8:q8) (x9:q9) (x10:q10) (x11:q11) (x12:q12) (sN:q13) (vK:q14) (x15:q15) (x16:q16) (x17:q17) (x18:q18) (x19:q19) (h:q0→q1→q2→q3→q4→q5→q6→q7→q8→q9→q10→q11→q12→q13→q14→q15→q16→q17→q18→q19→p:=by intro x0 x1 x2 x3 x4 x5 x6 x7 x8 x9 x10 x11 x12 sN vK x15 x16 x17 x18 x19;exact oS x0 x1 x2 x3 x4 x5 x6 x7 x8 x9 x10 x11 x12 sN vK x15 x16 x17 x18 x19 aC aC aC aC aC aC):p:=h x0 x1 x2 x3 x4 x5 x6 x7 x8 x9 x10 x11 x12 sN vK x15 x16 x17 x18 x19
end Go.DL
