/- Parts of a proof, joined: XF XG DlX. No statement of the seed is proved here. -/
import Derived.RecoverIn
import Derived.Test.YtmapgnepfgnphaaGreatDoorH3
set_option linter.unusedSimpArgs false
set_option linter.unusedVariables false
set_option linter.unusedSectionVars false
namespace Go.DL
section
variable {run:cF} {runY:cU} {d:Option Nat} {e:aC} {h:XH} {ix:Nat} {r:List DOper} {D:Nat→Option XFn} {K k:Nat} {rd:Option Nat} {m:Option (List (Nat×Nat))} {op:DOp} {v:AV}

theorem Za {j:Nat}:upd e k v j=if j=k then v else e j:=rfl
theorem Zb:aR e (some k) v=upd e k v:=rfl
theorem Zc:aR e none v=e:=rfl
theorem Zd {α β:Type} {a:α} {b:β}:(a,b).fst=a:=rfl
theorem Ze {α β:Type} {a:α} {b:β}:(a,b).snd=b:=rfl

def aGi (r:Option (aC×XH)):Option (DX×aC×XH):=r.map fun r=>(.normal,r.1,r.2)
theorem Zf:aGi (some (e,h))=some (.normal,e,h):=rfl
def xo (m:Option (List (Nat×Nat))) (run:cF) (runY:cU) (ops:List DOper) (e:aC) (h:XH):Option (aC×XH):=match m with
 | none=>eF run runY ops e h
 | some L=>dO run runY ops e h L
def aJc (m:Option (List (Nat×Nat))) (run:cF) (runY:cU) (ops:List DOper) (p:aC×XH):Option (DX×aC×XH):=aGi (xo m run runY ops p.1 p.2)
theorem Zg {ops:List DOper}:aJc m run runY ops (e,h)=aGi (xo m run runY ops e h):=rfl
theorem Zh {ops:List DOper}:execW D K k rd (.reg [] false ops) e h=aGi (xo none (runW D) (runYW D) ops e h):=vX
theorem Zi {ops:List DOper}:execW D K k rd (.reg [] true ops) e h=aGi (xo (some []) (runW D) (runYW D) ops e h):=vY
theorem Zj {a:Nat×Bool} {fz:List (Nat×Bool)} {ops:List DOper}:execW D K k rd (.reg (a::fz) false ops) e h=aJc none (runW D) (runYW D) ops (fzX (a::fz) e h):=vX
theorem Zk {a:Nat×Bool} {fz:List (Nat×Bool)} {ops:List DOper}:execW D K k rd (.reg (a::fz) true ops) e h=aJc (some []) (runW D) (runYW D) ops (fzX (a::fz) e h):=vY
theorem Zl:xo m run runY [] e h=some (e,h):=by cases m<;>rfl

def kV (m:Option (List (Nat×Nat))) (run:cF) (runY:cU) (r:List DOper) (d:Option Nat) (e:aC) (h:XH):Option AV→Option (aC×XH)
 | some v=>xo m run runY r (aR e d v) h
 | none=>none
theorem Zm:kV m run runY r d e h (some v)=xo m run runY r (aR e d v) h:=rfl
def kE (m:Option (List (Nat×Nat))) (run:cF) (runY:cU) (r:List DOper) (d:Option Nat) (e:aC) (h:XH) (g:Bool):Option Eff→Option (aC×XH)
 | some (.val v)=>xo m run runY r (aR e d v) h
 | some (.new own x f)=>xo m run runY r (aR e d (f h.length)) (oM h own g x)
 | none=>none
theorem Zn {g:Bool}:kE m run runY r d e h g (some (.val v))=xo m run runY r (aR e d v) h:=rfl
theorem Zo {g:Bool} {own:Option Nat} {x:ABlk} {f:Nat→AV}:kE m run runY r d e h g (some (.new own x f))=xo m run runY r (aR e d (f h.length)) (oM h own g x):=rfl
theorem aIo {g:Bool} {q:Option Eff}:(match q with
 | some (.val v)=>some (aR e d v,h)
 | some (.new own x f)=>some (aR e d (f h.length),oM h own g x)
 | none=>none).bind (fun s=>xo m run runY r s.1 s.2)=kE m run runY r d e h g q:=by cases q with
 | none=>rfl
 | some q=>cases q<;>rfl
theorem zG (h1:bR run runY d op e h=match aB op e (cQ h)with
 | some (.val v)=>some (aR e d v,h)
 | some (.new own x f)=>some (aR e d (f h.length),oM h own (fD op e h) x)
 | none=>none) (h2:∀ L,aEg ix op e L=L) (h3:∀ L,oW op e h L=true) (h4:∀ L h',tJ op e h h' L=true) :
 xo m run runY (⟨ix,d,op,none⟩::r) e h=kE m run runY r d e h (fD op e h) (aB op e (cQ h)):=by
 rw[←aIo]
 cases m with
 | none=>simp only[xo,eF,gd,h1]
 | some L=>simp only[xo,dO,gd,h1,h2,h3,h4,if_true]

def oO (q:Option AV):Option Eff:=q.map .val
theorem oZ {q:Option AV} (h1:bR run runY d op e h=match aB op e (cQ h)with
 | some (.val v)=>some (aR e d v,h)
 | some (.new own x f)=>some (aR e d (f h.length),oM h own (fD op e h) x)
 | none=>none) (h5:aB op e (cQ h)=oO q) (h2:∀ L,aEg ix op e L=L) (h3:∀ L,oW op e h L=true) (h4:∀ L h',tJ op e h h' L=true) :
 xo m run runY (⟨ix,d,op,none⟩::r) e h=kV m run runY r d e h q:=by
 rw[zG h1 h2 h3 h4,h5]
 cases q<;>rfl
def aDa (c a b:AV):Option AV:=match c with
 | .bool t=>some (if t then a else b)
 | _=>none
def aNi (neg:Bool) (x y:AV):Option AV:=match x,y with
 | .bool a,.bool b=>some (.bool (if neg then a != b else a==b))
 | _,_=>none
def aJm (x:AV):Option AV:=match x with
 | .bool b=>some (.bool !b)
 | _=>none
def aLT (x:AV):Option AV:=match x with
 | .int k n=>some (.int k (k.wrap (0-n)))
 | _=>none
def aGn (k:IntKind) (x:AV):Option AV:=match x with
 | .int _ n=>some (.int k (k.wrap n))
 | _=>none
def aJC (off:Nat) (x:AV):Option AV:=match x with
 | .pt b o=>some (.pt b (o+off))
 | .fp r i o=>some (.fp r i (o+off))
 | _=>none
def aFR (q:Bool) (x:AV):Option AV:=match q,x with
 | true,.str s=>some (.int .i64 (s.size:Int))
 | false,.fs rows=>some (.int .i64 (rows.length:Int))
 | false,.sl _ _ _ n=>some (.int .i64 (n:Int))
 | false,.nilsl=>some (.int .i64 0)
 | _,_=>none
def aGb (s:Nat) (x i:AV):Option AV:=match x,i with
    | .sl b o s' len,.int _ n=>if s'=s∧0≤n∧n<(len:Int) then some (.pt b (o+n.toNat*s)) else none
    | .fs rows,.int _ n=>if 0≤n∧n<(rows.length:Int)∧(rows.getD n.toNat []).length=s then some (.fp rows n.toNat 0) else none
    | _,_=>none
def aJv (s:Nat) (rows:List (List AV)) (j:Nat):Option (List AV)→Option AV
 | some r=>if r.length=s then some (.fp rows j 0) else none
 | none=>none
def aJG (x:AV) (i:Nat):Option AV:=match x with
 | .tup vs=>vs[i]?
 | _=>none

def aGa (len s:Nat) (x i:AV):Option AV:=match x,i with
    | .pt b o,.int _ n=>if 0≤n∧n<(len:Int) then some (.pt b (o+n.toNat*s)) else none
    | .fp r j o,.int _ n=>if 0≤n∧n<(len:Int) then some (.fp r j (o+n.toNat*s)) else none
    | _,_=>none
def aDu (neg:Bool) (ks:List Nat) (x y:AV):Option AV:=match x,y with
    | .agg cs,.agg ds=>(cD ks cs ds).map fun b=>.bool (if neg then !b else b)
    | _,_=>none
def aHs (neg:Bool) (x:Option Bool):Option AV:=match x with
    | some b=>some (.bool (if neg then !b else b))
    | none=>none
def aFY (agg:Bool) (len s:Nat) (x i:AV):Option AV:=match x,i with
    | .agg cs,.int _ n=>if 0≤n∧n<(len:Int) then eU agg s cs (n.toNat*s) else none
    | _,_=>none
def aFZ (x i:AV):Option AV:=match x,i with
    | .str s,.int _ n=>if 0≤n∧n<(s.size:Int) then some (.int .u8 ((s.data.toList.getD n.toNat 0).toNat:Int)) else none
    | _,_=>none
def aCf (x:AV):Option AV:=match x with
    | .pt b o=>some (.pt b o)
    | .bp b=>some (.pt b 0)
    | .fp r i o=>some (.fp r i o)
    | .ifc t v=>some (.ifc t v)
    | _=>none
def kG (m:Option (List (Nat×Nat))) (run:cF) (runY:cU) (o:DOper) (r:List DOper) (e:aC) (h:XH) (b:Bool):AV→Option (aC×XH)
 | .bool t=>if t==b then xo m run runY (o::r) e h else xo m run runY r (aR e o.dst (.tup [])) h
 | .tup _=>xo m run runY r (aR e o.dst (.tup [])) h
 | _=>none
theorem Zp {s:Nat} {b:Bool}:xo m run runY (⟨ix,d,op,some (s,b)⟩::r) e h=kG m run runY ⟨ix,d,op,none⟩ r e h b (e s):=by
 cases m with
 | none =>
   simp only[xo,eF,gd]
   cases e s with
   | bool t=>cases ht:t==b<;>simp[kG,xo,eF,gd,ht]
   | _=>rfl
 | some L =>
   simp only[xo,dO,gd]
   cases e s with
   | bool t=>cases ht:t==b<;>simp[kG,xo,dO,gd,ht]
   | _=>rfl
theorem Zq {o:DOper}:kG m run runY o r e h true (.bool true)=xo m run runY (o::r) e h:=rfl
theorem Zr {o:DOper}:kG m run runY o r e h false (.bool false)=xo m run runY (o::r) e h:=rfl
theorem Zs {q:DOp}:kG m run runY ⟨ix,d,q,none⟩ r e h true (.bool false)=xo m run runY r (aR e d (.tup [])) h:=rfl
theorem Zt {q:DOp}:kG m run runY ⟨ix,d,q,none⟩ r e h false (.bool true)=xo m run runY r (aR e d (.tup [])) h:=rfl
theorem Zu {a:AO}:xo m run runY (⟨ix,d,.mv a,none⟩::r) e h=xo m run runY r (aR e d (aJ e a)) h:=(zG rfl (fun _=>rfl) (fun _=>rfl) fun _ _=>rfl).trans rfl
theorem Zv {z:List AV}:xo m run runY (⟨ix,d,.alloc z,none⟩::r) e h=xo m run runY r (aR e d (.pt h.length 0)) (h++[some (.blk (iR z) (.cells true z))]):=(zG rfl (fun _=>rfl) (fun _=>rfl) fun _ _=>rfl).trans rfl
theorem TD:xo m run runY (⟨ix,d,.allocb,none⟩::r) e h=xo m run runY r (aR e d (.bp h.length)) (h++[some (.blk true (.cells true [.nilpt,.nilsl]))]):=(zG rfl (fun _=>rfl) (fun _=>rfl) fun _ _=>rfl).trans rfl
theorem Zw {p1:_} {p2:_} {p3:_}:xo m run runY (⟨ix,d,(DOp.pick p1 p2 p3),none⟩::r) e h=kV m run runY r d e h (aDa (aJ e p1) (aJ e p2) (aJ e p3)):=oZ rfl (by simp only[aB,oO,aDa];cases aJ e p1<;>rfl) (fun _=>rfl) (fun _=>rfl) fun _ _=>rfl
theorem Zx {p1:_}:xo m run runY (⟨ix,d,(DOp.box p1),none⟩::r) e h=kE m run runY r d e h (eH (aJ e p1)) (aB (DOp.box p1) e (cQ h)):=zG rfl (fun _=>rfl) (fun _=>rfl) fun _ _=>rfl
theorem Zy {p1:_} {p2:_} {p3:_} {p4:_}:xo m run runY (⟨ix,d,(DOp.bslice p1 p2 p3 p4),none⟩::r) e h=kE m run runY r d e h (iR p3&&p4.all fun p=>eH (aJ e p.2.2)) (aB (DOp.bslice p1 p2 p3 p4) e (cQ h)):=zG rfl (fun _=>rfl) (fun _=>rfl) fun _ _=>rfl
theorem Zz {p1:_}:xo m run runY (⟨ix,d,(DOp.nilck p1),none⟩::r) e h=kV m run runY r d e h (aCf (aJ e p1)):=oZ rfl (by simp only[aB,oO,aCf];cases aJ e p1<;>rfl) (fun _=>rfl) (fun _=>rfl) fun _ _=>rfl
theorem Z0 {p1:_} {p2:_} {p3:_}:xo m run runY (⟨ix,d,(DOp.bin p1 p2 p3),none⟩::r) e h=kV m run runY r d e h (wM p1 (aJ e p2) (aJ e p3)):=oZ rfl (by simp only[aB,oO];cases wM p1 (aJ e p2) (aJ e p3)<;>rfl) (fun _=>rfl) (fun _=>rfl) fun _ _=>rfl
theorem Z7 {p1:_} {p2:_} {p3:_} {p4:_}:xo m run runY (⟨ix,d,(DOp.eqag p1 p2 p3 p4),none⟩::r) e h=kV m run runY r d e h (aDu p1 p2 (aJ e p3) (aJ e p4)):=oZ rfl (by simp only[aB,oO,aDu];cases aJ e p3<;>cases aJ e p4<;>first|rfl|(simp only[];split<;>simp_all)) (fun _=>rfl) (fun _=>rfl) fun _ _=>rfl
theorem Z8 {p1:_}:xo m run runY (⟨ix,d,(DOp.not p1),none⟩::r) e h=kV m run runY r d e h (aJm (aJ e p1)):=oZ rfl (by simp only[aB,oO,aJm];cases aJ e p1<;>rfl) (fun _=>rfl) (fun _=>rfl) fun _ _=>rfl
theorem Z9 {p1:_}:xo m run runY (⟨ix,d,(DOp.neg p1),none⟩::r) e h=kV m run runY r d e h (aLT (aJ e p1)):=oZ rfl (by simp only[aB,oO,aLT];cases aJ e p1<;>rfl) (fun _=>rfl) (fun _=>rfl) fun _ _=>rfl
theorem ZA {p1:_} {p2:_}:xo m run runY (⟨ix,d,(DOp.conv p1 p2),none⟩::r) e h=kV m run runY r d e h (aGn p1 (aJ e p2)):=oZ rfl (by simp only[aB,oO,aGn];cases aJ e p2<;>rfl) (fun _=>rfl) (fun _=>rfl) fun _ _=>rfl
theorem ZB {p1:_} {p2:_}:xo m run runY (⟨ix,d,(DOp.fld p1 p2),none⟩::r) e h=kV m run runY r d e h (aJC p1 (aJ e p2)):=oZ rfl (by simp only[aB,oO,aJC];cases aJ e p2<;>rfl) (fun _=>rfl) (fun _=>rfl) fun _ _=>rfl
theorem ZC {p1:_} {p2:_} {p3:_} {p4:_}:xo m run runY (⟨ix,d,(DOp.idxa p1 p2 p3 p4),none⟩::r) e h=kV m run runY r d e h (aGa p1 p2 (aJ e p3) (aJ e p4)):=oZ rfl (by simp only[aB,oO,aGa];cases aJ e p3<;>cases aJ e p4<;>first|rfl|(simp only[];split<;>rfl)) (fun _=>rfl) (fun _=>rfl) fun _ _=>rfl
theorem ZD {p1:_} {p2:_} {p3:_}:xo m run runY (⟨ix,d,(DOp.idx p1 p2 p3),none⟩::r) e h=kV m run runY r d e h (aGb p1 (aJ e p2) (aJ e p3)):=oZ rfl (by simp only[aB,oO,aGb];cases aJ e p2<;>cases aJ e p3<;>first|rfl|(simp only[];split<;>rfl)) (fun _=>rfl) (fun _=>rfl) fun _ _=>rfl
theorem ZE {p1:_} {p2:_} {p3:_} {p4:_} {p5:_}:xo m run runY (⟨ix,d,(DOp.idxv p1 p2 p3 p4 p5),none⟩::r) e h=kV m run runY r d e h (aFY p1 p2 p3 (aJ e p4) (aJ e p5)):=oZ rfl (by simp only[aB,oO,aFY];cases aJ e p4<;>cases aJ e p5<;>first|rfl|(simp only[];split<;>first|rfl|(split<;>simp_all))) (fun _=>rfl) (fun _=>rfl) fun _ _=>rfl
theorem ZF {p1:_} {p2:_}:xo m run runY (⟨ix,d,(DOp.idxs p1 p2),none⟩::r) e h=kV m run runY r d e h (aFZ (aJ e p1) (aJ e p2)):=oZ rfl (by simp only[aB,oO,aFZ];cases aJ e p1<;>cases aJ e p2<;>first|rfl|(simp only[];split<;>rfl)) (fun _=>rfl) (fun _=>rfl) fun _ _=>rfl
theorem ZG {p1:_} {p2:_} {p3:_} {p4:_} {p5:_}:xo m run runY (⟨ix,d,(DOp.slarr p1 p2 p3 p4 p5),none⟩::r) e h=kE m run runY r d e h false (aB (DOp.slarr p1 p2 p3 p4 p5) e (cQ h)):=zG rfl (fun _=>rfl) (fun _=>rfl) fun _ _=>rfl
theorem ZH {p1:_} {p2:_} {p3:_} {p4:_}:xo m run runY (⟨ix,d,(DOp.slsl p1 p2 p3 p4),none⟩::r) e h=kE m run runY r d e h false (aB (DOp.slsl p1 p2 p3 p4) e (cQ h)):=zG rfl (fun _=>rfl) (fun _=>rfl) fun _ _=>rfl
theorem ZI {p1:_} {p2:_} {p3:_}:xo m run runY (⟨ix,d,(DOp.slstr p1 p2 p3),none⟩::r) e h=kE m run runY r d e h false (aB (DOp.slstr p1 p2 p3) e (cQ h)):=zG rfl (fun _=>rfl) (fun _=>rfl) fun _ _=>rfl
theorem ZJ {p1:_} {p2:_}:xo m run runY (⟨ix,d,(DOp.ext p1 p2),none⟩::r) e h=kV m run runY r d e h (aJG (aJ e p1) p2):=oZ rfl (by simp only[aB,oO,aJG];cases aJ e p1<;>first|rfl|(simp only[];split<;>simp_all)) (fun _=>rfl) (fun _=>rfl) fun _ _=>rfl
theorem ZK {p1:_} {p2:_}:xo m run runY (⟨ix,d,(DOp.len p1 p2),none⟩::r) e h=kV m run runY r d e h (aFR p1 (aJ e p2)):=oZ rfl (by simp only[aB,oO,aFR];cases p1<;>cases aJ e p2<;>rfl) (fun _=>rfl) (fun _=>rfl) fun _ _=>rfl
theorem ZL {a:Bool} {n:Nat} {x:AO}:xo none run runY (⟨ix,d,.load a n x,none⟩::r) e h=kV none run runY r d e h (dI a n (cQ h) (aJ e x)):=by
 show eF run runY _ e h=_
 simp only[eF,gd,bR,aB]
 cases dI a n (cQ h) (aJ e x)<;>rfl
def aJq (ix:Nat) (v:AV) (L:List (Nat×Nat)):List (Nat×Nat):=match dZ v with
 | some b=>(ix,b)::L
 | none=>L
theorem ZM {b o:Nat} {L:List (Nat×Nat)}:aJq ix (.pt b o) L=(ix,b)::L:=rfl
theorem ZN {rows:List (List AV)} {i o:Nat} {L:List (Nat×Nat)}:aJq ix (.fp rows i o) L=L:=rfl
theorem ZO {a:Bool} {n:Nat} {x:AO} {L:List (Nat×Nat)}:xo (some L) run runY (⟨ix,d,.load a n x,none⟩::r) e h=kV (some (aJq ix (aJ e x) L)) run runY r d e h (dI a n (cQ h) (aJ e x)):=by
 show dO run runY _ e h L=_
 simp only[dO,gd,bR,aB,oW,if_true]
 cases dI a n (cQ h) (aJ e x)<;>rfl

def kH (m:Option (List (Nat×Nat))) (run:cF) (runY:cU) (r:List DOper) (d:Option Nat) (e:aC) (v:AV):Option XH→Option (aC×XH)
 | some h=>xo m run runY r (aR e d v) h
 | none=>none
theorem ZP:kH m run runY r d e v (some h)=xo m run runY r (aR e d v) h:=rfl
theorem ZQ {n:Nat} {p x:AO} {l:List Nat}:xo none run runY (⟨ix,d,.store n p x l,none⟩::r) e h=kH none run runY r d e .any (jG n h (aJ e p) (aJ e x)):=by
 show eF run runY _ e h=_
 simp only[eF,gd,bR]
 cases jG n h (aJ e p) (aJ e x)<;>rfl
def vN {α:Type} (b:Bool) (x:Option α):Option α:=if b then x else none
theorem ZR {α:Type} {x:Option α}:vN true x=x:=rfl
theorem ZS {n:Nat} {p x:AO} {l:List Nat} {L:List (Nat×Nat)}:xo (some L) run runY (⟨ix,d,.store n p x l,none⟩::r) e h=vN (L.all fun q => !l.contains q.1||dZ (aJ e p) != some q.2) (kH (some L) run runY r d e .any (jG n h (aJ e p) (aJ e x))):=by
 show dO run runY _ e h L=_
 simp only[dO,gd,bR,oW,vN]
 cases jG n h (aJ e p) (aJ e x)<;>rfl
def kR (m:Option (List (Nat×Nat))) (run:cF) (runY:cU) (r:List DOper) (d:Option Nat) (e:aC):Option (AV×XH)→Option (aC×XH)
 | some (v,h)=>xo m run runY r (aR e d v) h
 | none=>none
theorem ZT:kR m run runY r d e (some (v,h))=xo m run runY r (aR e d v) h:=rfl
def zI (s:Nat) (h:XH) (x y:AV):Option (AV×XH):=(tU s h x y).map fun r=>(.int .i64 (r.1:Int),r.2)
theorem ZU {s:Nat} {x y:AO}:xo none run runY (⟨ix,d,.copy s x y,none⟩::r) e h=kR none run runY r d e (zI s h (aJ e x) (aJ e y)):=by
 show eF run runY _ e h=_
 simp only[eF,gd,bR,zI]
 cases tU s h (aJ e x) (aJ e y)<;>rfl
theorem ZV {f:AO} {xs:List AO} {l:List Nat}:xo none run runY (⟨ix,d,.callf false f xs l,none⟩::r) e h=kR none run runY r d e (gZ run runY (aJ e f) (xs.map (aJ e)) h):=by
 show eF run runY _ e h=_
 simp only[eF,gd,bR]
 cases gZ run runY (aJ e f) (xs.map (aJ e)) h<;>rfl
def kRL (L:List (Nat×Nat)) (l:List Nat) (run:cF) (runY:cU) (r:List DOper) (d:Option Nat) (e:aC) (h:XH) (ps:List Nat):Option (AV×XH)→Option (aC×XH)
 | some (v,h')=>vN (L.all fun q=>(bB h' q.2).isSome&&(!l.contains q.1||(!ps.contains q.2||aAI (bB h q.2) (bB h' q.2)))) (xo (some L) run runY r (aR e d v) h')
 | none=>none
theorem ZW {f:AO} {xs:List AO} {l:List Nat} {L:List (Nat×Nat)}:xo (some L) run runY (⟨ix,d,.callf false f xs l,none⟩::r) e h=kRL L l run runY r d e h (cA (aJ e f) (xs.map (aJ e)) h) (gZ run runY (aJ e f) (xs.map (aJ e)) h):=by
 show dO run runY _ e h L=_
 simp only[dO,gd,bR,oW,if_true]
 cases gZ run runY (aJ e f) (xs.map (aJ e)) h<;>rfl
theorem ZX {L:List (Nat×Nat)} {l:List Nat} {h':XH} {ps:List Nat}:kRL L l run runY r d e h ps (some (v,h'))=vN (L.all fun q=>(bB h' q.2).isSome&&(!l.contains q.1||(!ps.contains q.2||aAI (bB h q.2) (bB h' q.2)))) (xo (some L) run runY r (aR e d v) h'):=rfl
theorem ZY {f:AO} {xs:List AO} {l:List Nat}:xo m run runY (⟨ix,d,.callf true f xs l,none⟩::r) e h=kV m run runY r d e h (iS run (aJ e f) (xs.map (aJ e)) h):=by
 cases m with
 | none =>
   show eF run runY _ e h=_
   simp only[eF,gd,bR]
   cases iS run (aJ e f) (xs.map (aJ e)) h<;>rfl
 | some L =>
   show dO run runY _ e h L=_
   simp only[dO,gd,bR,oW,if_true]
   cases iS run (aJ e f) (xs.map (aJ e)) h<;>rfl
theorem ZZ {s b:Nat} {x y:AO}:xo none run runY (⟨ix,d,.app s b x y,none⟩::r) e h=kE none run runY r d e h (iB h (aJ e x)&&iB h (aJ e y)) (lT s b (cQ h) (aJ e x) (aJ e y)):=by
 rw[←aIo];rfl

def aJh (acc:List Nat) (b:Nat):Option Nat:=eY b acc
def aIs (acc:List Nat) (run:cF) (g:Nat) (all:List AV) (h:XH):Option (AV×XH):=(run g (jX (fun b=>eY b acc) all) (gL acc h)).map (mU acc h)
theorem Ya {g:Nat} {first cap as:List AV}:gZ run runY (.fn (.func g) first cap) as h=aIs (mQ (first++as++cap) h) run g (first++as++cap) h:=rfl
def kM (acc:List Nat) (h:XH) (r:Option (AV×XH)):Option (AV×XH):=r.map (mU acc h)
theorem Yb {acc:List Nat} {g:Nat} {all:List AV}:aIs acc run g all h=kM acc h (run g (jX (aJh acc) all) (gL acc h)):=rfl
end
theorem Yc {x y:AV}:aDa (.bool true) x y=some x:=rfl
theorem Yd {x y:AV}:aDa (.bool false) x y=some y:=rfl
theorem Ye {a b:Bool}:aNi false (.bool a) (.bool b)=some (.bool (a==b)):=rfl
theorem Yf {b:Bool}:aJm (.bool b)=some (.bool !b):=rfl
theorem Yg {k k':IntKind} {n:Int}:aGn k (.int k' n)=some (.int k (k.wrap n)):=rfl
theorem Yh {off b o:Nat}:aJC off (.pt b o)=some (.pt b (o+off)):=rfl
theorem Yi {rows:List (List AV)}:aFR false (.fs rows)=some (.int .i64 (rows.length:Int)):=rfl
theorem Yj {b o s n:Nat}:aFR false (.sl b o s n)=some (.int .i64 (n:Int)):=rfl
theorem Yk {s:ByteArray}:aFR true (.str s)=some (.int .i64 (s.size:Int)):=rfl
theorem Yl {b o s s' len:Nat} {k:IntKind} {n:Int}:aGb s (.sl b o s' len) (.int k n)=if s'=s∧0≤n∧n<(len:Int) then some (.pt b (o+n.toNat*s)) else none:=rfl
theorem Ym {s:Nat} {rows:List (List AV)} {k:IntKind} {n:Int}:aGb s (.fs rows) (.int k n)=if 0≤n∧n<(rows.length:Int) then aJv s rows n.toNat rows[n.toNat]? else none:=by
 simp only[aGb,aJv]
 by_cases h:0≤n∧n<(rows.length:Int)
 ·have h2:n.toNat<rows.length:=by omega
  rw[List.getElem?_eq_getElem h2,List.getD_eq_getElem?_getD,List.getElem?_eq_getElem h2,Option.getD_some]
  simp only[h,true_and]
  simp only[and_self,if_true]
 ·rw[if_neg h,if_neg (fun hc=>h ⟨hc.1,hc.2.1⟩)]
theorem Yn {s j:Nat} {rows:List (List AV)} {r:List AV}:aJv s rows j (some r)=if r.length=s then some (.fp rows j 0) else none:=rfl
theorem Yo {vs:List AV} {i:Nat}:aJG (.tup vs) i=vs[i]?:=rfl
theorem Yp {k:IntKind} {a b:Int}:gM .add k a k b=some (.int k (k.wrap (a+b))):=by simp[gM]
theorem Yq {k:IntKind} {a b:Int}:gM .sub k a k b=some (.int k (k.wrap (a-b))):=by simp[gM]
theorem Yr {k:IntKind} {a b:Int}:gM .mul k a k b=some (.int k (k.wrap (a*b))):=by simp[gM]
theorem Ys {k:IntKind} {a b:Int}:gM .eql k a k b=some (.bool (decide (a=b))):=by simp[gM];rfl
theorem Yt {k:IntKind} {a b:Int}:gM .neq k a k b=some (.bool !(decide (a=b))):=by simp[gM];rfl
theorem Yu {k:IntKind} {a b:Int}:gM .lss k a k b=some (.bool (decide (a<b))):=by simp[gM]
theorem Yv {k:IntKind} {a b:Int}:gM .leq k a k b=some (.bool (decide (a≤b))):=by simp[gM]
theorem Yw {k:IntKind} {a b:Int}:gM .gtr k a k b=some (.bool (decide (b<a))):=by simp[gM]
theorem Yx {k:IntKind} {a b:Int}:gM .geq k a k b=some (.bool (decide (b≤a))):=by simp[gM]
theorem Yy {n:Int}:(n=n)=True:=by simp
theorem Yz {n:Nat}:(0≤(n:Int))=True:=by simp
theorem Y2 {n:Nat}:(n:Int).toNat=n:=by simp
theorem Y3:IntKind.i64.wrap 0=0:=rfl
theorem Y4:IntKind.i64.wrap 1=1:=rfl
theorem Y5:IntKind.i64.wrap 2=2:=rfl
theorem Y6:(0:Int).toNat=0:=rfl
theorem Y7:((0:Nat):Int)=0:=rfl
theorem Y8:((1:Nat):Int)=1:=rfl
theorem Y9:(4:Int).toNat=4:=rfl
theorem YA {len s b o:Nat} {k:IntKind} {n:Int}:aGa len s (.pt b o) (.int k n)=if 0≤n∧n<(len:Int) then some (.pt b (o+n.toNat*s)) else none:=rfl
theorem YB {neg:Bool} {ks:List Nat} {cs ds:List AV}:aDu neg ks (.agg cs) (.agg ds)=aHs neg (cD ks cs ds):=by cases h:cD ks cs ds<;>simp[aDu,aHs,h]
theorem YC {b:Bool}:aHs true (some b)=some (.bool !b):=rfl
theorem YD {b:Bool}:aHs false (some b)=some (.bool b):=rfl
theorem YE {agg:Bool} {len s:Nat} {cs:List AV} {k:IntKind} {n:Int}:aFY agg len s (.agg cs) (.int k n)=if 0≤n∧n<(len:Int) then eU agg s cs (n.toNat*s) else none:=rfl
theorem YF {s:ByteArray} {k:IntKind} {n:Int}:aFZ (.str s) (.int k n)=if 0≤n∧n<(s.size:Int) then some (.int .u8 ((s.data.toList.getD n.toNat 0).toNat:Int)) else none:=rfl
theorem TE {b:Nat}:aCf (.bp b)=some (.pt b 0):=rfl
theorem YG {k:IntKind} {n:Int}:sD (.int k n)=([]:List Nat):=rfl
theorem YH {t:Bool}:sD (.bool t)=([]:List Nat):=rfl
theorem YJ {t:ByteArray}:sD (.str t)=([]:List Nat):=rfl
theorem YK {cs:List AV}:sD (.agg cs)=(qM cs:List Nat):=rfl
theorem YL {cs:List AV}:sD (.tup cs)=(qM cs:List Nat):=rfl
theorem YM {rows:List (List AV)}:sD (.fs rows)=([]:List Nat):=rfl
theorem YN {b o s n:Nat}:sD (.sl b o s n)=([b]:List Nat):=rfl
theorem YO {b o:Nat}:sD (.pt b o)=([b]:List Nat):=rfl
theorem YP  : sD .nilsl=([]:List Nat):=rfl
theorem YQ {g:Nat} {fs us:List AV}:sD (.fn (.func g) fs us)=(qM fs++qM us:List Nat):=rfl
theorem YR {ty:TypeId} {v:AV}:sD (.ifc ty v)=(sD v:List Nat):=rfl
theorem YT  : sD .nilifc=([]:List Nat):=rfl
theorem YU  : sD .any=([]:List Nat):=rfl
theorem YV {k:IntKind} {n:Int}:eH (.int k n)=(true:Bool):=rfl
theorem YX {t:ByteArray}:eH (.str t)=(true:Bool):=rfl
theorem YY {cs:List AV}:eH (.agg cs)=(iR cs:Bool):=rfl
theorem YZ {b o:Nat}:eH (.pt b o)=(false:Bool):=rfl
theorem Xa {s:Nat→Option Nat} {k:IntKind} {n:Int}:rnA s (.int k n)=((.int k n):AV):=rfl
theorem Xb {s:Nat→Option Nat} {t:Bool}:rnA s (.bool t)=((.bool t):AV):=rfl
theorem Xc {s:Nat→Option Nat} {t:ByteArray}:rnA s (.str t)=((.str t):AV):=rfl
theorem Xd {s:Nat→Option Nat} {cs:List AV}:rnA s (.agg cs)=(.agg (jX s cs):AV):=rfl
theorem Xe {s:Nat→Option Nat} {cs:List AV}:rnA s (.tup cs)=(.tup (jX s cs):AV):=rfl
theorem Xf {s:Nat→Option Nat} {rows:List (List AV)}:rnA s (.fs rows)=((.fs rows):AV):=rfl
theorem Xg {s:Nat→Option Nat} {b o s2 n:Nat}:rnA s (.sl b o s2 n)=((match s b with|some c=>.sl c o s2 n|none=>.any):AV):=by simp only[rnA]<;>rfl
theorem Xh {s:Nat→Option Nat} {b o:Nat}:rnA s (.pt b o)=((match s b with|some c=>.pt c o|none=>.any):AV):=by simp only[rnA]<;>rfl
theorem Xi {s:Nat→Option Nat}  : rnA s .nilsl=(.nilsl:AV):=rfl
theorem Xj {s:Nat→Option Nat} {g:Nat} {fs us:List AV}:rnA s (.fn (.func g) fs us)=(.fn (.func g) (jX s fs) (jX s us):AV):=rfl
theorem Xk {s:Nat→Option Nat}  : rnA s .nilifc=(.nilifc:AV):=rfl
theorem Xl {k:IntKind} {n:Int}:rW (.int k n)=([]:List Nat):=rfl
theorem Xm {t:Bool}:rW (.bool t)=([]:List Nat):=rfl
theorem Xn {t:ByteArray}:rW (.str t)=([]:List Nat):=rfl
theorem Xo {cs:List AV}:rW (.agg cs)=(slL cs:List Nat):=rfl
theorem Xp {cs:List AV}:rW (.tup cs)=(slL cs:List Nat):=rfl
theorem Xq {rows:List (List AV)}:rW (.fs rows)=([]:List Nat):=rfl
theorem Xr {b o s n:Nat}:rW (.sl b o s n)=([b]:List Nat):=rfl
theorem Xs  : rW .nilsl=([]:List Nat):=rfl
theorem Xt  : rW .nilpt=([]:List Nat):=rfl
theorem Xu {g:Nat} {fs us:List AV}:rW (.fn (.func g) fs us)=([]:List Nat):=rfl
theorem Xv {ty:TypeId} {v:AV}:rW (.ifc ty v)=(rW v:List Nat):=rfl
theorem Xw  : rW .nilifc=([]:List Nat):=rfl
theorem Xx {B:Nat} {C:List AV} {k:IntKind} {n:Int}:xB B C (.int k n)=((.int k n):AV):=rfl
theorem Xy {B:Nat} {C:List AV} {t:ByteArray}:xB B C (.str t)=((.str t):AV):=rfl
theorem Xz {B:Nat} {C:List AV} {cs:List AV}:xB B C (.tup cs)=(.tup (fzL B C cs):AV):=rfl
theorem X0 {B:Nat} {C:List AV} {rows:List (List AV)}:xB B C (.fs rows)=((.fs rows):AV):=rfl
theorem XI {B:Nat} {C:List AV} {b o s n:Nat}:xB B C (.sl b o s n)=((if b=B∧o+n*s≤C.length then .fs (cV C o s n) else .sl b o s n):AV):=rfl
theorem XJ {B:Nat} {C:List AV} {b o:Nat}:xB B C (.pt b o)=((.pt b o):AV):=rfl
theorem XK {k:IntKind} {n:Int}:oS (.int k n)=((.int k n):AV):=rfl
theorem XL {t:Bool}:oS (.bool t)=((.bool t):AV):=rfl
theorem XM {t:ByteArray}:oS (.str t)=((.str t):AV):=rfl
theorem XN {cs:List AV}:oS (.agg cs)=(.agg (fY cs):AV):=rfl
theorem XO {cs:List AV}:oS (.tup cs)=(.tup (fY cs):AV):=rfl
theorem XV {rows:List (List AV)}:oS (.fs rows)=((.fs rows):AV):=rfl
theorem XW {b o s n:Nat}:oS (.sl b o s n)=((.sl b o s n):AV):=rfl
theorem XX  : oS .nilsl=(.fs []:AV):=rfl
theorem XY  : oS .nilifc=(.nilifc:AV):=rfl
theorem XZ {k:IntKind} {n:Int}:cellsOf (.int k n)=(some [(.int k n)]:Option (List AV)):=rfl
theorem Wa {t:ByteArray}:cellsOf (.str t)=(some [(.str t)]:Option (List AV)):=rfl
theorem Wb {cs:List AV}:cellsOf (.agg cs)=(some cs:Option (List AV)):=rfl
theorem Wc {b o:Nat}:dZ (.pt b o)=(some b:Option Nat):=rfl
def aDm (k:Nat) (acc:List Nat) (h:XH) (r:List Nat):XH:=r.map fun b=>zT (gE k acc) (bB h b)
def aHj (acc:List Nat) (h:XH) (r:List Nat):XH:=r.map fun b=>zT (fun b=>eY b acc) (bB h b)
def fzQ (fz:List (Nat×Bool)) (e:aC) (h:XH):List Nat:=fz.flatMap (aHp e h)
def kF (own:Bool) (k:Nat) (h:XH) (r:Option AV):Option (AV×XH):=r.map fun v=>kJ own k v h
def aJE (k:Nat) (h:XH) (v:AV) (acc:List Nat):AV×XH:=(rnA (gE k acc) v,lX k acc h)
def aNd (k:Nat) (p:aC×XH):AV×XH:=aJE k p.2 (oS (p.1 0)) (dM k [oS (p.1 0)] p.2)
def aHc:Option (List AV)→Option AV
 | some [v]=>some v
 | some vs=>some (.tup vs)
 | none=>none
def aFu:Option AV→Option (List AV)→Option (List AV)
 | some v,some vs=>some (v::vs)
 | _,_=>none
def aDy (v:AV) (a b:aC→XH→Option (DX×aC×XH)) (e:aC) (h:XH):Option (DX×aC×XH):=match v with
 | .bool true=>a e h
 | .bool false=>b e h
 | _=>none
def ldM (agg:Bool) (n o:Nat):Option ABlk→Option AV
 | some (.cells _ cs)=>eU agg n cs o
 | _=>none
def ldR (agg:Bool) (n o:Nat):Option (List AV)→Option AV
 | some r=>eU agg n r o
 | none=>none
def stM (n b o:Nat) (h:XH):Option XB→Option (List AV)→Option XH
 | some (.blk g (.cells true cs)),some vs=>if vs.length=n∧o+n≤cs.length then some (h.set b (some (.blk (g&&iR vs) (.cells true (bK cs o vs))))) else none
 | _,_=>none
def flM:Option XB→Bool
 | some (.blk g _)=>g
 | _=>false

theorem Wd {x:Option XB} {h:XH} {b:Nat}:bB (x::h) b=if b=0 then x else bB h (b-1):=by cases b<;>simp[bB]
def hpM:Option XB→Option ABlk
 | some (.blk _ x)=>some x
 | _=>none
theorem We {h:XH} {b:Nat}:cQ h b=hpM (bB h b):=rfl
theorem Wf {g:Bool} {x:ABlk}:hpM (some (.blk g x))=some x:=rfl
theorem Wg {α:Type} {x y:α} {h:List α} {b:Nat}:(x::h).set b y=if b=0 then y::h else x::h.set (b-1) y:=by cases b<;>simp
theorem Wh {α:Type} {x:α} {l:List α} {n:Nat}:(x::l).take n=if n=0 then [] else x::l.take (n-1):=by cases n<;>simp
theorem Wi {α:Type} {n:Nat}:([]:List α).take n=[]:=by simp
theorem Wj {α:Type} {x:α} {l:List α} {n:Nat}:(x::l).drop n=if n=0 then x::l else l.drop (n-1):=by cases n<;>simp
theorem Wk {α:Type} {n:Nat}:([]:List α).drop n=[]:=by simp
theorem Wl {α:Type} {x d:α} {l:List α} {n:Nat}:(x::l).getD n d=if n=0 then x else l.getD (n-1) d:=by cases n<;>simp
theorem Wm {α:Type} {x:α} {l:List α} {n:Nat}:(x::l)[n]?=if n=0 then some x else l[n-1]?:=by cases n<;>simp
theorem Wn {α:Type} {a:α}:(a∈([]:List α))=False:=by simp
theorem Wo {α:Type} {a b:α} {l:List α}:(a∈b::l)=(a=b∨a∈l):=by simp
theorem Wp {acc:List Nat} {b:Nat}:aJh acc b=eY b acc:=rfl
theorem Wq {b c:Nat} {r:List Nat}:eY b (c::r)=if b=c then some 0 else (eY b r).map (· + 1):=rfl
theorem Wr {k:Nat} {acc:List Nat} {b:Nat}:gE k acc b=if b<k then some b else (eY b acc).map (· + k):=rfl
theorem Ws {acc:List Nat} {n i:Nat}:hJ acc n i=if i<acc.length then acc[i]? else some (n+(i-acc.length)):=rfl
theorem Wt {h:XH} {k n:Nat} {acc:List Nat}:eJ h k n [] acc=acc:=by cases n<;>rfl
def aFw (h:XH) (k n:Nat) (r:List Nat) (acc:List Nat) (b:Nat):Option XB→List Nat
 | none=>eJ h k n r acc
 | some x=>eJ h k n (nmB x++r) (acc++[b])
theorem Wu {h:XH} {k n:Nat} {r acc:List Nat} {b:Nat} {x:XB}:aFw h k n r acc b (some x)=eJ h k n (nmB x++r) (acc++[b]):=rfl
theorem Wv {h:XH} {k n:Nat} {b:Nat} {r acc:List Nat}:eJ h k n (b::r) acc=if n=0 then acc else if b<k∨b∈acc then eJ h k (n-1) r acc else aFw h k (n-1) r acc b (bB h b):=by
 cases n with
 | zero=>rfl
 | succ n=>simp only[eJ,Nat.add_one_ne_zero,if_false,Nat.add_sub_cancel];cases bB h b<;>rfl
theorem Ww {xs:List AV} {h:XH}:mQ xs h=eJ h 0 4096 (qM xs) []:=rfl
theorem Wx {k:Nat} {vs:List AV} {h:XH}:dM k vs h=eJ h k 4096 (qM vs++(cG k h).flatMap nmO) []:=rfl
theorem Wy {n:Nat}:cG n []=List.replicate n none:=by induction n with
 | zero=>rfl
 | succ n ih=>simp[cG,ih,List.replicate_succ]
theorem Wz {x:Option XB} {h:XH} {n:Nat}:cG n (x::h)=if n=0 then [] else x::cG (n-1) h:=by cases n<;>rfl
theorem WB {k:Nat} {acc:List Nat} {h:XH}:lX k acc h=(cG k h).map (zT (gE k acc))++aDm k acc h acc:=rfl
theorem WC {k:Nat} {acc:List Nat} {h:XH}:aDm k acc h []=[]:=rfl
theorem WE {k:Nat} {acc:List Nat} {h:XH} {b:Nat} {r:List Nat}:aDm k acc h (b::r)=zT (gE k acc) (bB h b)::aDm k acc h r:=rfl
theorem WF {acc:List Nat} {h:XH}:gL acc h=aHj acc h acc:=rfl
theorem WG {acc:List Nat} {h:XH}:aHj acc h []=[]:=rfl
theorem WH {acc:List Nat} {h:XH} {b:Nat} {r:List Nat}:aHj acc h (b::r)=zT (aJh acc) (bB h b)::aHj acc h r:=rfl
theorem WI {s:Nat→Option Nat}:zT s none=none:=rfl
theorem WJ {s:Nat→Option Nat} {x:XB}:zT s (some x)=some (rnB s x):=rfl
theorem WK {s:Nat→Option Nat} {x:ABlk}:rnB s (.blk true x) = .blk true x:=by cases x<;>rfl
theorem WL {s:Nat→Option Nat} {w:Bool} {cs:List AV}:rnB s (.blk false (.cells w cs)) = .blk false (.cells w (jX s cs)):=rfl
theorem WM:nmO none=[]:=rfl
theorem WN {x:XB}:nmO (some x)=nmB x:=rfl
theorem WO {x:ABlk}:nmB (.blk true x)=[]:=by cases x<;>rfl
theorem WP {w:Bool} {cs:List AV}:nmB (.blk false (.cells w cs))=qM cs:=rfl
theorem WQ {acc:List Nat} {h hl:XH} {v:AV}:kM acc h (some (v,hl))=some (rnA (hJ acc h.length) v,fZ acc h hl):=rfl
theorem WR {acc:List Nat} {h hl:XH}:fZ acc h hl=oP h acc ((cG acc.length hl).map (zT (hJ acc h.length)))++(hl.drop acc.length).map (zT (hJ acc h.length)):=rfl
theorem WS {h:XH} {xs:XH}:oP h [] xs=h:=by cases xs<;>rfl
theorem WT {h:XH} {b:Nat} {bs:List Nat} {x:Option XB} {xs:XH}:oP h (b::bs) (x::xs)=oP (h.set b x) bs xs:=rfl
theorem WU {a:Nat}:List.elem a []=false:=rfl
theorem WV {a b:Nat} {l:List Nat}:List.elem a (b::l)=if a=b then true else List.elem a l:=by
 by_cases h:a=b
 ·simp only[List.elem,h,if_true,beq_self_eq_true]
 ·simp only[List.elem,show (a==b)=false by simpa using h,if_neg h]
theorem WW {g:Nat} {first cap as:List AV} {h:XH}:cA (.fn (.func g) first cap) as h=mQ (first++as++cap) h:=rfl
theorem WX {α:Type} {x:α}:(some x).isSome=true:=rfl
theorem Va {b:Bool}:(b==true)=b:=by cases b<;>rfl
def fzE (b:Nat) (cs:List AV) (e:aC):aC:=fun j=>xB b cs (e j)
theorem Vb {b:Nat} {cs:List AV} {e:aC} {j:Nat}:fzE b cs e j=xB b cs (e j):=rfl
def aHq (b:Nat) (e:aC) (h:XH):Option XB→aC×XH
 | some (.blk true (.cells _ cs))=>(fzE b cs e,(h.map (fzO b cs)).set b none)
 | _=>(e,h)
theorem Vc {b:Nat} {e:aC} {h:XH} {w:Bool} {cs:List AV}:aHq b e h (some (.blk true (.cells w cs)))=(fzE b cs e,(h.map (fzO b cs)).set b none):=rfl
theorem aJB {b:Nat} {e:aC} {h:XH}:fz1 b e h=aHq b e h (bB h b):=by
 unfold fz1 aHq
 cases bB h b with
 | none=>rfl
 | some x=>cases x with
   | loop=>rfl
   | blk g x=>cases g<;>cases x<;>rfl
def fzP (r:List Nat) (p:aC×XH):aC×XH:=rI r p.1 p.2
theorem Vd {r:List Nat} {e:aC} {h:XH}:fzP r (e,h)=rI r e h:=rfl
theorem Ve {e:aC} {h:XH}:rI [] e h=(e,h):=rfl
theorem Vf {b:Nat} {r:List Nat} {e:aC} {h:XH}:rI (b::r) e h=fzP r (aHq b e h (bB h b)):=by rw[←aJB];rfl
def nzP (fz:List (Nat×Bool)) (p:aC×XH):aC×XH:=(yD fz p.1,p.2)
theorem T7 {fz:List (Nat×Bool)} {e:aC} {h:XH}:nzP fz (e,h)=(yD fz e,h):=rfl
theorem T8 {e:aC}:yD [] e=e:=rfl
theorem T9 {k j:Nat} {r:List (Nat×Bool)} {e:aC}:yD ((k,false)::r) e j=if j=k then oS (yD r e j) else yD r e j:=rfl
def fzY (fz:List (Nat×Bool)) (e:aC) (h:XH):aC×XH:=nzP fz (rI (fzQ fz e h) e h)
theorem Vg {fz:List (Nat×Bool)} {e:aC} {h:XH}:fzX fz e h=fzY fz e (oU fz e h):=rfl
theorem TA {fz:List (Nat×Bool)} {e:aC} {h:XH}:fzY fz e h=nzP fz (rI (fzQ fz e h) e h):=rfl
theorem TB {e:aC} {h:XH}:oU [] e h=h:=rfl
theorem TC {k:Nat} {b:Bool} {r:List (Nat×Bool)} {e:aC} {h:XH}:oU ((k,b)::r) e h=if 1000000≤k then aCM (e (k-1000000)) (oU r e h) else oU r e h:=rfl
theorem Vh {e:aC} {h:XH}:fzQ [] e h=[]:=rfl
theorem Vi {j:Nat} {r:List (Nat×Bool)} {e:aC} {h:XH}:fzQ ((j,false)::r) e h=kL h 2 (rW (e j))++fzQ r e h:=rfl
def dpM (h:XH) (n b:Nat) (x:Option XB):List Nat:=aIr (kL h n) b x
theorem Ty {h:XH} {n:Nat}:kL h n []=[]:=by cases n<;>rfl
theorem Tz {h:XH} {b:Nat} {r:List Nat}:kL h 2 (b::r)=dpM h 1 b (bB h b)++kL h 2 r:=by simp only[kL,List.flatMap_cons,dpM]
theorem T2 {h:XH} {n b:Nat} {x:ABlk}:dpM h n b (some (.blk true x))=[b]:=by cases x<;>rfl
theorem Vj {b:Nat} {cs:List AV} {x:XB}:fzO b cs (some x)=some (fzB b cs x):=rfl
theorem Vk {b:Nat} {cs vs:List AV} {w:Bool}:fzB b cs (.blk false (.cells w vs)) = .blk (iR (fzL b cs vs)) (.cells w (fzL b cs vs)):=rfl
theorem Vl {b:Nat} {cs:List AV} {x:ABlk}:fzB b cs (.blk true x) = .blk true x:=by cases x<;>rfl
theorem Vm {res:List (Nat×Option (Bool×Nat))} {own:Bool} {k:Nat} {e:aC} {h:XH}:cR none res own k (some (.ret,e,h))=kF own k h (jY res e (cQ h)):=rfl
theorem Vn {own:Bool} {k:Nat} {h:XH} {v:AV}:kF own k h (some v)=some (kJ own k v h):=rfl
theorem Vo {k:Nat} {h:XH} {v:AV}:kJ false k v h=aNd k (rI (kL h 2 (rW v)) (upd anyE 0 v) h):=rfl
theorem Vp {k:Nat} {h:XH} {e:aC}:aNd k (e,h)=aJE k h (oS (e 0)) (dM k [oS (e 0)] h):=rfl
theorem Vq {k:Nat} {h:XH} {v:AV} {acc:List Nat}:aJE k h v acc=(rnA (gE k acc) v,lX k acc h):=rfl
theorem Vr {rs:List (Nat×Option (Bool×Nat))} {e:aC} {h:Hp}:jY rs e h=aHc (mJ e h rs):=by unfold jY aHc;cases mJ e h rs<;>rfl
theorem Vs {v:AV}:aHc (some [v])=some v:=rfl
theorem Vt {v u:AV} {r:List AV}:aHc (some (v::u::r))=some (.tup (v::u::r)):=rfl
theorem Vu {e:aC} {h:Hp}:mJ e h []=some []:=rfl
theorem Vv {e:aC} {h:Hp} {x:Nat×Option (Bool×Nat)} {r:List (Nat×Option (Bool×Nat))}:mJ e h (x::r)=aFu (mK e h x) (mJ e h r):=by simp only[mJ,aFu]<;>rfl
theorem Vw {v:AV} {vs:List AV}:aFu (some v) (some vs)=some (v::vs):=rfl
theorem Vx {e:aC} {h:Hp} {t:Nat}:mK e h (t,none)=some (e t):=rfl
theorem Vy {e:aC} {h:Hp} {a n:Nat} {g:Bool}:mK e h (a,some (g,n))=dI g n h (e a):=rfl
theorem Vz {as:List AV} {k:Nat}:aP as k=as.getD k .any:=rfl
theorem V0 {k:Nat} {ks:List Nat} {v:AV} {vs:List AV} {j:Nat}:lL (k::ks) (v::vs) j=if j=k then v else lL ks vs j:=rfl
theorem V4 {k:Nat} {L:List Nat} {e:aC} {h:XH}:aCB k L e h=jX (gE k (dM k (L.map e) h)) (L.map e):=rfl
theorem V5 {k:Nat} {L:List Nat} {e:aC} {h:XH}:lQ k L e h=lX k (dM k (L.map e) h) h:=rfl
theorem V6 {D:Nat→Option XFn} {K k:Nat} {rd:Option Nat} {e:aC} {h:XH} {c:AO} {a b:XCode}:execW D K k rd (.cond c a b) e h=aDy (aJ e c) (execW D K k rd a) (execW D K k rd b) e h:=by
 rw[aCr];unfold aDy
 cases aJ e c with
 | bool t=>cases t<;>rfl
 | _=>rfl
theorem V7 {a b:aC→XH→Option (DX×aC×XH)} {e:aC} {h:XH}:aDy (.bool true) a b e h=a e h:=rfl
theorem V8 {a b:aC→XH→Option (DX×aC×XH)} {e:aC} {h:XH}:aDy (.bool false) a b e h=b e h:=rfl
theorem V9 {id:Nat} {e:aC} {h:XH}:aAj (some (.exit id,e,h))=true:=rfl
theorem VA {e:aC} {h:XH}:aAj (some (.ret,e,h))=true:=rfl
def aJL:Option (List AV)→Option Eff
    | some cs=>some (.new none (.cells true cs) fun b=>.pt b 0)
    | none=>none
def aJK (s n:Nat):Option (List AV)→Option Eff
    | some cs=>some (.new none (.cells true cs) fun b=>.sl b 0 s n)
    | none=>none
theorem VB:(false=true)=False:=by simp
theorem VC {α β:Type} {f:α→β} {a:α} {l:List α}:(a::l).map f=f a::l.map f:=rfl
theorem VD {α β:Type} {f:α→β}:([]:List α).map f=[]:=rfl
theorem VE {α:Type} {a:α} {l s:List α}:(a::l)++s=a::(l++s):=rfl
theorem VF {α:Type} {s:List α}:[]++s=s:=rfl
theorem VG {α:Type} {s:List α}:s++[]=s:=by simp
theorem VH {α β:Type} {f:α→List β} {a:α} {l:List α}:(a::l).flatMap f=f a++l.flatMap f:=by simp
theorem VI {α β:Type} {f:α→List β}:([]:List α).flatMap f=[]:=rfl
theorem VJ {α:Type} {a:α} {l:List α}:(a::l).length=l.length+1:=rfl
theorem VK {α:Type}:([]:List α).length=0:=rfl
theorem VL {α β:Type} {f:α→β} {a:α}:(some a).map f=some (f a):=rfl
theorem VM {b:Bool}:(true&&b)=b:=by simp
theorem VN {b:Bool}:(b&&true)=b:=by simp
theorem VO {b:Bool}:(false&&b)=false:=by simp
theorem VP {b:Bool}:(b&&false)=false:=by simp
theorem VQ:(!true)=false:=rfl
theorem VR:(!false)=true:=rfl
theorem VS {b:Bool}:(true||b)=true:=by simp
theorem VT {b:Bool}:(b||true)=true:=by simp
theorem VU {p:Prop}:(p∧True)=p:=by simp
theorem VV {p:Prop}:(False∧p)=False:=by simp
theorem VW {p:Prop}:(p∨True)=True:=by simp
theorem VX {p:Prop}:(p∨False)=p:=by simp
theorem VY {i:Decidable True}:decide True=true:=by simp
theorem VZ {i:Decidable False}:decide False=false:=by simp
theorem Ua {α:Type} {f:α→Bool}:[].all f=true:=rfl
theorem Ub {α:Type} {f:α→Bool} {a:α} {l:List α}:(a::l).all f=(f a&&l.all f):=rfl
theorem Uc {α:Type} {a:α}:List.replicate 0 a=[]:=rfl
theorem Tv {α:Type} {a:α}:List.replicate 1 a=[a]:=rfl
theorem Tw {α:Type} {a:α}:List.replicate 4 a=[a,a,a,a]:=rfl
theorem Ud:qM []=[]:=by simp only[qM]
theorem Ue {v:AV} {r:List AV}:qM (v::r)=(sD v++qM r):=by simp only[qM]
theorem Uf {s:Nat→Option Nat}:jX s []=[]:=by simp only[jX]
theorem Ug {s:Nat→Option Nat} {v:AV} {r:List AV}:jX s (v::r)=(rnA s v::jX s r):=by simp only[jX]
theorem Uh:iR []=true:=by simp only[iR]
theorem Ui {v:AV} {r:List AV}:iR (v::r)=(eH v&&iR r):=by simp only[iR]
theorem Uj:slL []=[]:=by simp only[slL]
theorem Uk {v:AV} {r:List AV}:slL (v::r)=(rW v++slL r):=by simp only[slL]
theorem Ul {B:Nat} {C:List AV}:fzL B C []=[]:=by simp only[fzL]
theorem Um {B:Nat} {C:List AV} {v:AV} {r:List AV}:fzL B C (v::r)=(xB B C v::fzL B C r):=by simp only[fzL]
theorem Un:fY []=[]:=by simp only[fY]
theorem Uo {v:AV} {r:List AV}:fY (v::r)=(oS v::fY r):=by simp only[fY]
theorem Uq {a:AV} {z cs:List AV} {off:Nat}:bK (a::z) off cs=(a::z).take off++cs++(a::z).drop (off+cs.length):=rfl
theorem Ur {z:List AV}:eE z []=some z:=rfl
def aJF (z:List AV) (off n:Nat) (rest:List (Nat×Nat×AV)):Option (List AV)→Option (List AV)
 | some cs=>if cs.length=n∧off+n≤z.length then eE (bK z off cs) rest else none
 | none=>none
theorem Us {z:List AV} {off n:Nat} {v:AV} {rest:List (Nat×Nat×AV)}:eE z ((off,n,v)::rest)=aJF z off n rest (cellsOf v):=by simp only[eE,aJF]<;>rfl
theorem Ut {z cs:List AV} {off n:Nat} {rest:List (Nat×Nat×AV)}:aJF z off n rest (some cs)=if cs.length=n∧off+n≤z.length then eE (bK z off cs) rest else none:=rfl
theorem Uu {c d:Nat} {e:aC}:aO c d e none=some d:=rfl
def boM (cap:Nat):AV→Option Nat
 | .int _ n=>if 0≤n∧n≤(cap:Int) then some n.toNat else none
 | _=>none
theorem Uv {c d:Nat} {e:aC} {x:AO}:aO c d e (some x)=boM c (aJ e x):=by simp only[aO,boM]<;>rfl
theorem Uw {c:Nat} {k:IntKind} {n:Int}:boM c (.int k n)=if 0≤n∧n≤(c:Int) then some n.toNat else none:=rfl
theorem Ux {H:Hp} {x:AO} {e:aC}:aB (.box x) e H=aJL (cellsOf (aJ e x)):=by simp only[aB,aJL]<;>rfl
theorem Uy {cs:List AV}:aJL (some cs)=some (.new none (.cells true cs) fun b=>.pt b 0):=rfl
theorem Uz {s n:Nat} {z:List AV} {ps:List (Nat×Nat×AO)} {e:aC} {H:Hp}:aB (.bslice s n z ps) e H=aJK s n (eE (List.replicate n z).flatten (ps.map fun p=>(p.1,p.2.1,aJ e p.2.2))):=by simp only[aB,aJK]<;>rfl
theorem U0 {s n:Nat} {cs:List AV}:aJK s n (some cs)=some (.new none (.cells true cs) fun b=>.sl b 0 s n):=rfl
theorem U1 {α:Type}:([]:List (List α)).flatten=[]:=rfl
theorem U2 {α:Type} {a:List α} {l:List (List α)}:(a::l).flatten=a++l.flatten:=rfl
def aIV (s o s' len:Nat):Option ABlk→Option (Nat×List AV)
    | some (.cells _ cs)=>if s'=s∧o+len*s≤cs.length then some (len,(cs.drop o).take (len*s)) else none
    | _=>none
theorem U3 {s b o s' n:Nat} {H:Hp}:dU s H (.sl b o s' n)=aIV s o s' n (H b):=by simp only[dU,aIV]<;>rfl
theorem U4 {s o s' len:Nat} {w:Bool} {cs:List AV}:aIV s o s' len (some (.cells w cs))=if s'=s∧o+len*s≤cs.length then some (len,(cs.drop o).take (len*s)) else none:=rfl
def aCF (s bytes:Nat) (H:Hp) (x:AV):Option (Nat×List AV)→Option Eff
 | none=>none
 | some (n,new) =>
   match x with
   | .nilsl=>if n*bytes≤1099511627776∧n≤1099511627776 then (if n=0 then some (.val .nilsl) else some (.new none (.cells true new) fun b=>if bytes=1048577 then .sb b n else .sl b 0 s n)) else none
   | .sb b len=>match H b with
     | some (.cells true cs)=>if bytes=1048577∧s=1∧len=cs.length∧len+n≤1099511627776 then some (.new (some b) (.cells true (cs++new)) fun b=>.sb b (len+n)) else none
     | _=>none
   | .sl b 0 s' len=>match H b with
     | some (.cells true cs)=>if s'=s∧len*s=cs.length∧(len+n)*bytes≤1099511627776∧len+n≤1099511627776 then some (.new (some b) (.cells true (cs++new)) fun b=>.sl b 0 s (len+n)) else none
     | _=>none
   | _=>none
def aGv (s bytes n:Nat) (new:List AV) (b len:Nat):Option ABlk→Option Eff
 | some (.cells true cs)=>if bytes=1048577∧s=1∧len=cs.length∧len+n≤1099511627776 then some (.new (some b) (.cells true (cs++new)) fun b=>.sb b (len+n)) else none
 | _=>none
def aGw (s bytes n:Nat) (new:List AV) (b s' len:Nat):Option ABlk→Option Eff
 | some (.cells true cs)=>if s'=s∧len*s=cs.length∧(len+n)*bytes≤1099511627776∧len+n≤1099511627776 then some (.new (some b) (.cells true (cs++new)) fun b=>.sl b 0 s (len+n)) else none
 | _=>none
theorem U5 {s bytes:Nat} {H:Hp} {x y:AV}:lT s bytes H x y=aCF s bytes H x (dU s H y):=by
 unfold lT aCF
 cases dU s H y<;>rfl
theorem U6 {s bytes n:Nat} {H:Hp} {new:List AV}:aCF s bytes H .nilsl (some (n,new))=if n*bytes≤1099511627776∧n≤1099511627776 then (if n=0 then some (.val .nilsl) else some (.new none (.cells true new) fun b=>if bytes=1048577 then .sb b n else .sl b 0 s n)) else none:=rfl
theorem TF {s bytes n b len:Nat} {H:Hp} {new:List AV}:aCF s bytes H (.sb b len) (some (n,new))=aGv s bytes n new b len (H b):=by simp only[aCF,aGv]<;>rfl
theorem TG {s bytes n b len:Nat} {cs new:List AV}:aGv s bytes n new b len (some (.cells true cs))=if bytes=1048577∧s=1∧len=cs.length∧len+n≤1099511627776 then some (.new (some b) (.cells true (cs++new)) fun b=>.sb b (len+n)) else none:=rfl
theorem U7 {s bytes n b s' len:Nat} {H:Hp} {new:List AV}:aCF s bytes H (.sl b 0 s' len) (some (n,new))=aGw s bytes n new b s' len (H b):=by simp only[aCF,aGw]<;>rfl
theorem U8 {s bytes n b s' len:Nat} {cs new:List AV}:aGw s bytes n new b s' len (some (.cells true cs))=if s'=s∧len*s=cs.length∧(len+n)*bytes≤1099511627776∧len+n≤1099511627776 then some (.new (some b) (.cells true (cs++new)) fun b=>.sl b 0 s (len+n)) else none:=rfl
theorem Tb {e:aC} {n:Nat}:aJ e (.t n)=e n:=rfl
theorem Tc {e:aC} {v:AV}:aJ e (.c v)=v:=rfl
def aGT (len s b o n h:Nat):Option Nat→Option Eff
 | some l=>if o+len*s≤n∧l<len then some (.val (.sl b (o+l*s) s (h-l))) else none
 | none=>none
def aGU (len s:Nat) (e:aC) (lo:Option AO) (b o:Nat):Option ABlk→Option Nat→Option Eff
 | some (.cells _ cs),some h=>aGT len s b o cs.length h (aO h 0 e lo)
 | _,_=>none
def aIY (len s:Nat) (e:aC) (lo:Option AO) (H:Hp) (r:Option Nat):AV→Option Eff
 | .pt b o=>aGU len s e lo b o (H b) r
 | _=>none
theorem Td {len s:Nat} {x:AO} {lo hi:Option AO} {e:aC} {H:Hp}:aB (.slarr len s x lo hi) e H=aIY len s e lo H (aO len len e hi) (aJ e x):=by
 simp only[aB,aIY]
 cases aJ e x with
 | pt b o =>
   simp only[]
   cases H b with
   | none=>rfl
   | some c =>
     cases c with
     | cells w cs =>
       cases aO len len e hi with
       | none=>rfl
       | some h=>simp only[aGU,aGT];cases aO h 0 e lo<;>rfl
     | _=>rfl
 | _=>rfl
theorem Te {len s b o:Nat} {e:aC} {lo:Option AO} {H:Hp} {r:Option Nat}:aIY len s e lo H r (.pt b o)=aGU len s e lo b o (H b) r:=rfl
theorem Tf {len s b o h:Nat} {e:aC} {lo:Option AO} {w:Bool} {cs:List AV}:aGU len s e lo b o (some (.cells w cs)) (some h)=aGT len s b o cs.length h (aO h 0 e lo):=rfl
theorem Tg {len s b o n h l:Nat}:aGT len s b o n h (some l)=if o+len*s≤n∧l<len then some (.val (.sl b (o+l*s) s (h-l))) else none:=rfl
def aLx (rows:List (List AV)) (h:Nat):Option Nat→Option Eff
 | some l=>some (.val (.fs ((rows.drop l).take (h-l))))
 | none=>none
def aLy (rows:List (List AV)) (e:aC) (lo:Option AO):Option Nat→Option Eff
 | some h=>aLx rows h (aO h 0 e lo)
 | none=>none
def aGR (b o s h:Nat):Option Nat→Option Eff
 | some l=>if l<h then some (.val (.sl b (o+l*s) s (h-l))) else if l=0 then some (.val (.sl b o s 0)) else some (.val (.fs []))
 | none=>none
def aGS (b o s:Nat) (e:aC) (lo:Option AO):Option Nat→Option Eff
 | some h=>aGR b o s h (aO h 0 e lo)
 | none=>none
def aLz:Option Nat→Option Eff
 | some _=>some (.val .nilsl)
 | none=>none
def aLA (e:aC) (lo:Option AO):Option Nat→Option Eff
 | some h=>aLz (aO h 0 e lo)
 | none=>none
def aFa (s:Nat) (e:aC) (lo hi:Option AO):AV→Option Eff
 | .fs rows=>if rows.all (fun r=>r.length==s) then aLy rows e lo (aO rows.length rows.length e hi) else none
 | .sl b o s' len=>if s'=s then aGS b o s e lo (aO len len e hi) else none
 | .nilsl=>aLA e lo (aO 0 0 e hi)
 | _=>none
theorem Th {s:Nat} {x:AO} {lo hi:Option AO} {e:aC} {H:Hp}:aB (.slsl s x lo hi) e H=aFa s e lo hi (aJ e x):=by
 simp only[aB]
 cases aJ e x with
 | fs rows =>
   simp only[gT,aFa]
   by_cases hr:(rows.all fun r=>r.length==s)=true
   ·simp only[hr,if_true]
    cases aO rows.length rows.length e hi with
    | none=>rfl
    | some h=>simp only[aLy,aLx];cases aO h 0 e lo<;>rfl
   ·simp only[hr];rfl
 | sl b o s' len =>
   simp only[gT,aFa]
   by_cases hr:s'=s
   ·simp only[hr,if_true]
    cases aO len len e hi with
    | none=>rfl
    | some h =>
      simp only[aGS,aGR]
      cases aO h 0 e lo with
      | none=>rfl
      | some l =>
        by_cases hl:l<h
        ·simp only[hl,if_true]
        ·by_cases h0:l=0
         ·simp only[hl,h0,if_true,if_false]
          subst h0
          simp only[hl,if_false]
         ·simp only[hl,h0,if_false]
   ·simp only[hr,if_false]
 | nilsl =>
   simp only[gT,aFa]
   cases aO 0 0 e hi with
   | none=>rfl
   | some h=>simp only[aLA,aLz];cases aO h 0 e lo<;>rfl
 | _=>rfl
theorem Ti {s b o s' len:Nat} {e:aC} {lo hi:Option AO}:aFa s e lo hi (.sl b o s' len)=if s'=s then aGS b o s e lo (aO len len e hi) else none:=rfl
theorem Tj {b o s h:Nat} {e:aC} {lo:Option AO}:aGS b o s e lo (some h)=aGR b o s h (aO h 0 e lo):=rfl
theorem Tk {b o s h l:Nat}:aGR b o s h (some l)=if l<h then some (.val (.sl b (o+l*s) s (h-l))) else if l=0 then some (.val (.sl b o s 0)) else some (.val (.fs [])):=rfl
def aGN (s:ByteArray) (h:Nat):Option Nat→Option Eff
 | some l=>some (.val (.str (mA s l h)))
 | none=>none
def aGO (s:ByteArray) (e:aC) (lo:Option AO):Option Nat→Option Eff
 | some h=>aGN s h (aO h 0 e lo)
 | none=>none
def aIU (e:aC) (lo hi:Option AO):AV→Option Eff
 | .str s=>aGO s e lo (aO s.size s.size e hi)
 | _=>none
theorem Tl {x:AO} {lo hi:Option AO} {e:aC} {H:Hp}:aB (.slstr x lo hi) e H=aIU e lo hi (aJ e x):=by
 simp only[aB,aIU]
 cases aJ e x with
 | str s =>
   simp only[]
   cases aO s.size s.size e hi with
   | none=>rfl
   | some h=>simp only[aGO,aGN];cases aO h 0 e lo<;>rfl
 | _=>rfl
theorem Tm {e:aC} {lo hi:Option AO} {s:ByteArray}:aIU e lo hi (.str s)=aGO s e lo (aO s.size s.size e hi):=rfl
theorem Tn {e:aC} {lo:Option AO} {s:ByteArray} {h:Nat}:aGO s e lo (some h)=aGN s h (aO h 0 e lo):=rfl
theorem Tp {s:ByteArray} {h l:Nat}:aGN s h (some l)=some (.val (.str (mA s l h))):=rfl
theorem tE (p:Prop):(p=True)∨(p=False):=by by_cases h:p<;>simp[h]
theorem eC {α:Type} {l:List α} {i:Nat} (h:i<l.length):∃ x,l[i]?=some x:=⟨l[i],List.getElem?_eq_getElem h⟩
theorem U9 {n:Int}:(n<n)=False:=eq_false (by omega)
theorem eS {i n:Nat} (h:i<n) (hn:n<1000000000000):IntKind.i64.wrap ((i:Int)+1)=(i:Int)+1:=aG (by omega) (by omega)
theorem UA {agg:Bool} {n b o:Nat} {H:Hp}:dI agg n H (.pt b o)=ldM agg n o (H b):=by unfold dI ldM;rfl
theorem UB {agg w:Bool} {n o:Nat} {cs:List AV}:ldM agg n o (some (.cells w cs))=eU agg n cs o:=rfl
theorem UC {agg:Bool} {n i o:Nat} {rows:List (List AV)} {H:Hp}:dI agg n H (.fp rows i o)=ldR agg n o (rows[i]?):=by unfold dI ldR;rfl
theorem UD {agg:Bool} {n o:Nat} {r:List AV}:ldR agg n o (some r)=eU agg n r o:=rfl
theorem UE {n o:Nat} {cs:List AV}:eU true n cs o=if o+n≤cs.length then some (.agg ((cs.drop o).take n)) else none:=rfl
theorem UF {n o:Nat} {cs:List AV}:eU false n cs o=cs[o]?:=rfl
theorem UG {n b o:Nat} {h:XH} {x:AV}:jG n h (.pt b o) x=stM n b o h (bB h b) (cellsOf x):=by
 simp only[jG,stM]<;>rfl
theorem UH {n b o:Nat} {h:XH} {g:Bool} {cs vs:List AV}:stM n b o h (some (.blk g (.cells true cs))) (some vs)=if vs.length=n∧o+n≤cs.length then some (h.set b (some (.blk (g&&iR vs) (.cells true (bK cs o vs))))) else none:=rfl
theorem UI {h:XH} {g:Bool} {x:ABlk}:oM h none g x=h++[some (.blk g x)]:=rfl
theorem UJ {h:XH} {b:Nat} {g:Bool} {x:ABlk}:oM h (some b) g x=h.set b none++[some (.blk g x)]:=rfl
theorem UK {h:XH} {b o s n:Nat}:iB h (.sl b o s n)=flM (bB h b):=by simp only[iB,flM]<;>rfl
theorem UL {g:Bool} {x:ABlk}:flM (some (.blk g x))=g:=rfl
theorem UM {h:XH}:iB h .nilsl=true:=rfl
theorem UN {op:BinOp} {k k':IntKind} {a b:Int}:wM op (.int k a) (.int k' b)=gM op k a k' b:=rfl
theorem UO {op:BinOp} {a b:ByteArray}:wM op (.str a) (.str b)=sT op a b:=rfl

theorem Tq {n:Nat}:n*1=n:=by simp
theorem Tr {n:Nat}:0+n=n:=by simp
theorem Ts {n:Nat}:n+0=n:=by simp
theorem Tt {n:Nat}:(n≤n)=True:=by simp
theorem Tu {n:Nat}:n-0=n:=by simp
theorem aDA {α:Type} {f:α→AV}:∀ (l pre:List α),cV ((pre++l).map f) pre.length 1 l.length=l.map fun v=>[f v]
 | [],pre=>rfl
 | a::r,pre=>by
   have h:=aDA (f:=f) r (pre++[a])
   simp only[List.append_assoc,List.cons_append,List.nil_append,List.length_append,List.length_cons,List.length_nil]at h
   rw[List.length_cons,cV]
   simp only[Nat.zero_add]at h
   rw[h,List.map_append,List.drop_left' (by simp),List.map_cons,List.map_cons]
   rfl
section
variable {D:Nat→Option XFn} {K k:Nat} {rd:Option Nat} {e:aC} {h:XH} {run:cF} {runY:cU}
variable {d:Option Nat} {ix:Nat} {r:List DOper} {L:List (Nat×Nat)}
theorem Tx {a b:Nat}:(some a != some b) = !(decide (a=b)):=by by_cases h:a=b<;>simp[h]
end
theorem T3 {g g' w w':Bool} {xs ys:List AV}:aAI (some (.blk g (.cells w xs))) (some (.blk g' (.cells w' ys)))=(w==w'&&eT xs ys):=rfl
theorem T4:((32:Nat):Int)=32:=rfl
theorem T5:((40:Nat):Int)=40:=rfl
theorem T6:((45:Nat):Int)=45:=rfl
section
variable {run:cF} {runY:cU} {d:Option Nat} {e:aC} {h:XH} {ix:Nat} {r:List DOper} {m:Option (List (Nat×Nat))}
theorem TH {b n:Nat}:sD (.sb b n)=([b]:List Nat):=rfl
theorem TI {b n:Nat}:eH (.sb b n)=(false:Bool):=rfl
theorem TJ {s:Nat→Option Nat} {b n:Nat}:rnA s (.sb b n)=((match s b with|some c=>.sb c n|none=>.any):AV):=by simp only[rnA]<;>rfl
theorem TK {B:Nat} {C:List AV} {b n:Nat}:xB B C (.sb b n)=((.sb b n):AV):=rfl
theorem TL {b n:Nat}:cellsOf (.sb b n)=(some [(.sb b n)]:Option (List AV)):=rfl
theorem TM {b:Nat}:sD (.bp b)=([b]:List Nat):=rfl
theorem TN {s:Nat→Option Nat} {b:Nat}:rnA s (.bp b)=((match s b with|some c=>.bp c|none=>.any):AV):=by simp only[rnA]<;>rfl
theorem TO {b:Nat}:rW (.bp b)=([]:List Nat):=rfl
theorem TP {B:Nat} {C:List AV} {b:Nat}:xB B C (.bp b)=((.bp b):AV):=rfl
theorem TQ {b:Nat}:oS (.bp b)=((.bp b):AV):=rfl
theorem TR {p:AO}:xo m run runY (⟨ix,d,(DOp.strof p),none⟩::r) e h=kV m run runY r d e h (fF (cQ h) (aJ e p)):=oZ rfl (by cases hs:fF (cQ h) (aJ e p)<;>simp[aB,oO,hs]) (fun _=>rfl) (fun _=>rfl) fun _ _=>rfl
theorem TS {H:Hp} {b o s n:Nat}:fF H (.sl b o s n)=iL (dU 1 H (.sl b o s n)):=rfl
theorem TT {n:Nat} {cs:List AV}:iL (some (n,cs))=(eV cs).map fun l=>.str ⟨⟨l⟩⟩:=rfl
end
theorem aLU {p:Prop} (h:p):p:=h
variable {P:Program} {B:Base} {F:Nat→Prop} {w:World} {H:Hp} {env:aC} {a:Act}

theorem wR {Fe:Fence} {n:Nat} {id:Nat} {ops:Array Oper} {Q:Exit→Act→List Frame→World→Prop} {cs:List Frame} {o:Oper} (ho:ops[0]?=some o)
 (hg:o.guard=none) (hab:∀ f,o.about P w a.eval=some f→Fe.fn f) (hr:(execOp a.eval o).run P w = .ok .recover w) (hro:Fe.round=none)
 (h:match recoverD cs with
  | some (v,cs')=>wpOpsIn Fe n P ops (fun e a w=>Q e a cs' w) (List.range' 1 (ops.size-1)) (a.put o.dst v) w
  | none=>wpOpsIn Fe n P ops (fun e a w=>Q e a cs w) (List.range' 1 (ops.size-1)) (a.put o.dst .nilIface) w) :
 (Code.region id ops false).wpSIn Fe n P Q a cs w:=by
 intro b k hb hrd hF hroom
 have hsz:0<ops.size:=(Array.getElem?_eq_some_iff.1 ho).1
 have hrange:List.range ops.size=0::List.range' 1 (ops.size-1):=by
  rw[List.range_eq_range']
  obtain⟨m,hm⟩:∃ m,ops.size=m+1:=⟨ops.size-1,by omega⟩
  rw[hm,List.range'_succ];simp
 have i0:(lone (b.atR a (.code (.region id ops false)::k)) cs w).fenced P Fe:=fenced_calm hF hroom rfl
 have s0:=stepR_region (P:=P) (b:=b) (a:=a) (k:=k) (cs:=cs) (w:=w) (id:=id) (ops:=ops)
 rw[hrange]at s0
 have hw:Region.wanted o (yielded ops a.tmps)=true:=by unfold Region.wanted;rw[hg]
 have h0:(lone (b.atR a (.inRegion ops (0::List.range' 1 (ops.size-1))::k)) cs w).fenced P Fe:=fenced_oper hF hroom ho hab
 have hgg:=stepGR_op (P:=P) (b:=b) (k:=k) (cs:=cs) (w:=w) (rest:=List.range' 1 (ops.size-1)) ho hw
 rw[hrd,Oper.semAt_none]at hgg
 have hfin:∀ v,(b.atR a (.inRegion ops (0::List.range' 1 (ops.size-1))::k)).finish v=b.atR (a.put o.dst v) (.inRegion ops (List.range' 1 (ops.size-1))::k):=by
  intro v;rw[Frame.finish_atR,ho];rfl
 have hk:(b.atR a (.inRegion ops (0::List.range' 1 (ops.size-1))::k)).kind = .deferred:=hb
 have htr:=tryRecover_deferred hk cs
 split at h
 ·rename_i v cs' hrec
  have hlen:=recoverD_length hrec
  obtain⟨e,a',w'',hq,harr⟩:=wp_opsIn _ _ _ h b k cs' (hrd.trans hro.symm) hF (by rw[hlen];exact hroom)
  refine⟨e,a',cs',w'',hlen,hq,.of_steps (.one i0 s0) (.of_steps (.one h0 (step_lone_go ?_)) harr)⟩
  rw[hgg,←hfin]
  simp only[Frame.atR,hrd]at htr ⊢
  simp[stepG.apply,hr,htr,hrec]
 ·rename_i hrec
  obtain⟨e,a',w'',hq,harr⟩:=wp_opsIn _ _ _ h b k cs (hrd.trans hro.symm) hF hroom
  refine⟨e,a',cs,w'',rfl,hq,.of_steps (.one i0 s0) (.of_steps (.one h0 (step_lone_go ?_)) harr)⟩
  rw[hgg,←hfin]
  simp only[Frame.atR,hrd]at htr ⊢
  simp[stepG.apply,hr,htr,hrec]

theorem xA {fn:Func} {tmps:Array Value} {n0:Nat} {F0:Nat→Prop} {w0:World} {H0:Hp} {R:Ending→World→Prop} {T:List Deferred} {u:FrameMode} {S:World→Prop} (hS:∀ w w',Up F w F w'→S w→S w') (hu:u ≠ .run) (hn0:w0.heap.size≤n0)
 (hT:∀ w,S w→Ext F0 w0 H0 F w H→St F w H→RE F w env { tmps:=tmps,defers:=[] }→LeavesInM Fence.wide 0 P fn tmps R T u w) :
 ∀ (ms:List Deferred) (w:World),S w→Ext F0 w0 H0 F w H→St F w H→RE F w env { tmps:=tmps,defers:=[] }→ms.Nodup→(∀ d∈ms,Mk1 n0 F H w d)→LeavesInM Fence.wide 0 P fn tmps R (ms++T) u w:=by
 intro ms
 induction ms with
 | nil=>intro w hs he st re _ _;exact hT w hs he st re
 | cons d ds ih =>
   intro w hs he st re hnd hm
   obtain⟨D,rfl,h2,h3,h4,h5⟩:=hm d (by simp)
   obtain⟨k1,k2,k3⟩:=pD (n0:=0) (x:=none) he st (Nat.le_trans hn0 h2) h3 h4 h5
   have hnd:=List.nodup_cons.1 hnd
   refine⟨hu,.inl ⟨D,_,rfl,run_takeDeferred h3,ih _ (hS _ _ k3 hs) k1 k2 (re.up k3) hnd.2 fun d' hd'=>?_⟩⟩
   obtain⟨D',rfl,l2,l3,l4,l5⟩:=hm d' (by simp[hd'])
   refine⟨D',rfl,l2,?_,l4,l5⟩
   rw[World.putObj_heap_other fun e=>hnd.1 (by rw[←e];exact hd')]
   exact l3
end Go.DL
