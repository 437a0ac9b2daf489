/- Parts of a proof, joined: XF XG DlX XV RSX. No statement of the seed is proved here. -/
import Derived.RecoverIn
import Derived.Test.YtmapgnepfgnphaaGreatDoorH3
set_option linter.unusedSimpArgs false
set_option linter.unusedVariables false
set_option linter.unusedSectionVars false
namespace Go.DL
section
variable {run:bT} {runY:cO} {d:Option Nat} {e:aB} {h:XH} {ix:Nat} {r:List DOper} {D:Nat→Option XFn} {K k:Nat} {rd:Option Nat} {m:Option (List (Nat×Nat))} {op:DOp} {v:AV}

theorem Za {j:Nat}:upd e k v j=if j=k then v else e j:=rfl
theorem Zb:aM e (some k) v=upd e k v:=rfl
theorem Zc:aM e none v=e:=rfl
theorem Zd {α β:Type} {a:α} {b:β}:(a,b).fst=a:=rfl
theorem Ze {α β:Type} {a:α} {b:β}:(a,b).snd=b:=rfl

def aKi (r:Option (aB×XH)):Option (DX×aB×XH):=r.map fun r=>(.normal,r.1,r.2)
theorem Zf:aKi (some (e,h))=some (.normal,e,h):=rfl
def xo (m:Option (List (Nat×Nat))) (run:bT) (runY:cO) (ops:List DOper) (e:aB) (h:XH):Option (aB×XH):=match m with
 | none=>cZ run runY ops e h
 | some L=>dB run runY ops e h L
def aOu (m:Option (List (Nat×Nat))) (run:bT) (runY:cO) (ops:List DOper) (p:aB×XH):Option (DX×aB×XH):=aKi (xo m run runY ops p.1 p.2)
theorem Zg {ops:List DOper}:aOu m run runY ops (e,h)=aKi (xo m run runY ops e h):=rfl
theorem Zh {ops:List DOper}:execW D K k rd (.reg [] false ops) e h=aKi (xo none (runW D) (runYW D) ops e h):=zE
theorem Zi {ops:List DOper}:execW D K k rd (.reg [] true ops) e h=aKi (xo (some []) (runW D) (runYW D) ops e h):=zF
theorem Zj {a:Nat×Bool} {fz:List (Nat×Bool)} {ops:List DOper}:execW D K k rd (.reg (a::fz) false ops) e h=aOu none (runW D) (runYW D) ops (yZ (a::fz) e h):=zE
theorem Zk {a:Nat×Bool} {fz:List (Nat×Bool)} {ops:List DOper}:execW D K k rd (.reg (a::fz) true ops) e h=aOu (some []) (runW D) (runYW D) ops (yZ (a::fz) e h):=zF
theorem Zl:xo m run runY [] e h=some (e,h):=by cases m<;>rfl

def lkM (q:Bool) (k:AV):Option ABlk→Option (Option AV)
 | some (.map _ es)=>bZ q k es
 | _=>none
def kV (m:Option (List (Nat×Nat))) (run:bT) (runY:cO) (r:List DOper) (d:Option Nat) (e:aB) (h:XH):Option AV→Option (aB×XH)
 | some v=>xo m run runY r (aM e d v) h
 | none=>none
theorem Zm:kV m run runY r d e h (some v)=xo m run runY r (aM e d v) h:=rfl
def kE (m:Option (List (Nat×Nat))) (run:bT) (runY:cO) (r:List DOper) (d:Option Nat) (e:aB) (h:XH) (g:Bool):Option Eff→Option (aB×XH)
 | some (.val v)=>xo m run runY r (aM e d v) h
 | some (.new own x f)=>xo m run runY r (aM e d (f h.length)) (nN h own g x)
 | none=>none
theorem Zn {g:Bool}:kE m run runY r d e h g (some (.val v))=xo m run runY r (aM e d v) h:=rfl
theorem Zo {g:Bool} {own:Option Nat} {x:ABlk} {f:Nat→AV}:kE m run runY r d e h g (some (.new own x f))=xo m run runY r (aM e d (f h.length)) (nN h own g x):=rfl
theorem aJN {g:Bool} {q:Option Eff}:(match q with
 | some (.val v)=>some (aM e d v,h)
 | some (.new own x f)=>some (aM e d (f h.length),nN h own g x)
 | none=>none).bind (fun s=>xo m run runY r s.1 s.2)=kE m run runY r d e h g q:=by cases q with
 | none=>rfl
 | some q=>cases q<;>rfl
theorem qI (h1:bI run runY d op e h=match aA op e (aE h)with
 | some (.val v)=>some (aM e d v,h)
 | some (.new own x f)=>some (aM e d (f h.length),nN h own (fM op e h) x)
 | none=>none) (h2:∀ L,aHa ix op e L=L) (h3:∀ L,oT op e h L=true) (h4:∀ L h',vU op e h h' L=true) :
 xo m run runY (⟨ix,d,op,none⟩::r) e h=kE m run runY r d e h (fM op e h) (aA op e (aE h)):=by
 rw[←aJN]
 cases m with
 | none=>simp only[xo,cZ,gd,h1]
 | some L=>simp only[xo,dB,gd,h1,h2,h3,h4,if_true]

def mL (q:Option AV):Option Eff:=q.map .val
theorem nM {q:Option AV} (h1:bI run runY d op e h=match aA op e (aE h)with
 | some (.val v)=>some (aM e d v,h)
 | some (.new own x f)=>some (aM e d (f h.length),nN h own (fM op e h) x)
 | none=>none) (h5:aA op e (aE h)=mL q) (h2:∀ L,aHa ix op e L=L) (h3:∀ L,oT op e h L=true) (h4:∀ L h',vU op e h h' L=true) :
 xo m run runY (⟨ix,d,op,none⟩::r) e h=kV m run runY r d e h q:=by
 rw[qI h1 h2 h3 h4,h5]
 cases q<;>rfl
def aFO (c a b:AV):Option AV:=match c with
 | .bool t=>some (if t then a else b)
 | _=>none
def aTp (neg:Bool) (x y:AV):Option AV:=match x,y with
 | .bool a,.bool b=>some (.bool (if neg then a != b else a==b))
 | _,_=>none
def aOM (x:AV):Option AV:=match x with
 | .bool b=>some (.bool !b)
 | _=>none
def aRX (x:AV):Option AV:=match x with
 | .int k n=>some (.int k (k.wrap (0-n)))
 | _=>none
def aKq (k:IntKind) (x:AV):Option AV:=match x with
 | .int _ n=>some (.int k (k.wrap n))
 | _=>none
def aMB (off:Nat) (x:AV):Option AV:=match x with
 | .pt b o=>some (.pt b (o+off))
 | .fp r i o=>some (.fp r i (o+off))
 | _=>none
def aHb (q:Bool) (x:AV):Option AV:=match q,x with
 | true,.str s=>some (.int .i64 (s.size:Int))
 | false,.fs rows=>some (.int .i64 (rows.length:Int))
 | false,.sl _ _ _ n=>some (.int .i64 (n:Int))
 | false,.nilsl=>some (.int .i64 0)
 | _,_=>none
def aJS (s:Nat) (x i:AV):Option AV:=match x,i with
    | .sl b o s' len,.int _ n=>if s'=s∧0≤n∧n<(len:Int) then some (.pt b (o+n.toNat*s)) else none
    | .fs rows,.int _ n=>if 0≤n∧n<(rows.length:Int)∧(rows.getD n.toNat []).length=s then some (.fp rows n.toNat 0) else none
    | _,_=>none
def aOY (s:Nat) (rows:List (List AV)) (j:Nat):Option (List AV)→Option AV
 | some r=>if r.length=s then some (.fp rows j 0) else none
 | none=>none
def aPl (x:AV) (i:Nat):Option AV:=match x with
 | .tup vs=>vs[i]?
 | _=>none

def aFZ (len s:Nat) (x i:AV):Option AV:=match x,i with
    | .pt b o,.int _ n=>if 0≤n∧n<(len:Int) then some (.pt b (o+n.toNat*s)) else none
    | .fp r j o,.int _ n=>if 0≤n∧n<(len:Int) then some (.fp r j (o+n.toNat*s)) else none
    | _,_=>none
def aGg (neg:Bool) (ks:List Nat) (x y:AV):Option AV:=match x,y with
    | .agg cs,.agg ds=>(cV ks cs ds).map fun b=>.bool (if neg then !b else b)
    | _,_=>none
def aHm (neg:Bool) (x:Option Bool):Option AV:=match x with
    | some b=>some (.bool (if neg then !b else b))
    | none=>none
def aJH (ok:Bool) (z:AV) (x:Option (Option AV)):Option AV:=match x with
    | some r=>some (oS ok z r)
    | none=>none
def aPD (x:Option (List AV)):Option AV:=match x with
    | some cs=>some (.agg cs)
    | none=>none
def aJQ (agg:Bool) (len s:Nat) (x i:AV):Option AV:=match x,i with
    | .agg cs,.int _ n=>if 0≤n∧n<(len:Int) then eX agg s cs (n.toNat*s) else none
    | _,_=>none
def aJR (x i:AV):Option AV:=match x,i with
    | .str s,.int _ n=>if 0≤n∧n<(s.size:Int) then some (.int .u8 ((s.data.toList.getD n.toNat 0).toNat:Int)) else none
    | _,_=>none
def yJ (x:AV):Option AV:=match x with
    | .pt b o=>some (.pt b o)
    | .bp b=>some (.pt b 0)
    | .fp r i o=>some (.fp r i o)
    | .ifc t v=>some (.ifc t v)
    | _=>none
def kG (m:Option (List (Nat×Nat))) (run:bT) (runY:cO) (o:DOper) (r:List DOper) (e:aB) (h:XH) (b:Bool):AV→Option (aB×XH)
 | .bool t=>if t==b then xo m run runY (o::r) e h else xo m run runY r (aM e o.dst (.tup [])) h
 | .tup _=>xo m run runY r (aM e o.dst (.tup [])) h
 | _=>none
theorem Zp {s:Nat} {b:Bool}:xo m run runY (⟨ix,d,op,some (s,b)⟩::r) e h=kG m run runY ⟨ix,d,op,none⟩ r e h b (e s):=by
 cases m with
 | none =>
   simp only[xo,cZ,gd]
   cases e s with
   | bool t=>cases ht:t==b<;>simp[kG,xo,cZ,gd,ht]
   | _=>rfl
 | some L =>
   simp only[xo,dB,gd]
   cases e s with
   | bool t=>cases ht:t==b<;>simp[kG,xo,dB,gd,ht]
   | _=>rfl
theorem Zq {o:DOper}:kG m run runY o r e h true (.bool true)=xo m run runY (o::r) e h:=rfl
theorem Zr {o:DOper}:kG m run runY o r e h false (.bool false)=xo m run runY (o::r) e h:=rfl
theorem Zs {q:DOp}:kG m run runY ⟨ix,d,q,none⟩ r e h true (.bool false)=xo m run runY r (aM e d (.tup [])) h:=rfl
theorem Zt {q:DOp}:kG m run runY ⟨ix,d,q,none⟩ r e h false (.bool true)=xo m run runY r (aM e d (.tup [])) h:=rfl
theorem Zu {q:DOp} {b:Bool} {vs:List AV}:kG m run runY ⟨ix,d,q,none⟩ r e h b (.tup vs)=xo m run runY r (aM e d (.tup [])) h:=rfl

theorem Zv {a:AO}:xo m run runY (⟨ix,d,.mv a,none⟩::r) e h=xo m run runY r (aM e d (aG e a)) h:=(qI rfl (fun _=>rfl) (fun _=>rfl) fun _ _=>rfl).trans rfl
theorem Zw {z:List AV}:xo m run runY (⟨ix,d,.alloc z,none⟩::r) e h=xo m run runY r (aM e d (.pt h.length 0)) (h++[some (.blk (iN z) (.cells true z))]):=(qI rfl (fun _=>rfl) (fun _=>rfl) fun _ _=>rfl).trans rfl
theorem QB:xo m run runY (⟨ix,d,.allocb,none⟩::r) e h=xo m run runY r (aM e d (.bp h.length)) (h++[some (.blk true (.cells true [.nilpt,.nilsl]))]):=(qI rfl (fun _=>rfl) (fun _=>rfl) fun _ _=>rfl).trans rfl
theorem Zx {f:Fn} {a b:List AO}:xo m run runY (⟨ix,d,.mkf f a b,none⟩::r) e h=xo m run runY r (aM e d (.fn f (a.map (aG e)) (b.map (aG e)))) h:=(qI rfl (fun _=>rfl) (fun _=>rfl) fun _ _=>rfl).trans rfl
theorem Zy {p1:_} {p2:_} {p3:_}:xo m run runY (⟨ix,d,(DOp.pick p1 p2 p3),none⟩::r) e h=kV m run runY r d e h (aFO (aG e p1) (aG e p2) (aG e p3)):=nM rfl (by simp only[aA,mL,aFO];cases aG e p1<;>rfl) (fun _=>rfl) (fun _=>rfl) fun _ _=>rfl
theorem Zz {p1:_}:xo m run runY (⟨ix,d,(DOp.box p1),none⟩::r) e h=kE m run runY r d e h (eY (aG e p1)) (aA (DOp.box p1) e (aE h)):=qI rfl (fun _=>rfl) (fun _=>rfl) fun _ _=>rfl
theorem Z0 {p1:_} {p2:_}:xo m run runY (⟨ix,d,(DOp.build p1 p2),none⟩::r) e h=kV m run runY r d e h (aPD (dX p1 (p2.map fun p=>(p.1,p.2.1,aG e p.2.2)))):=nM rfl (by simp only[aA,mL,aPD];split<;>simp_all) (fun _=>rfl) (fun _=>rfl) fun _ _=>rfl
theorem Z8 {p1:_} {p2:_} {p3:_} {p4:_}:xo m run runY (⟨ix,d,(DOp.bslice p1 p2 p3 p4),none⟩::r) e h=kE m run runY r d e h (iN p3&&p4.all fun p=>eY (aG e p.2.2)) (aA (DOp.bslice p1 p2 p3 p4) e (aE h)):=qI rfl (fun _=>rfl) (fun _=>rfl) fun _ _=>rfl
theorem Z9 {p1:_}:xo m run runY (⟨ix,d,(DOp.nilck p1),none⟩::r) e h=kV m run runY r d e h (yJ (aG e p1)):=nM rfl (by simp only[aA,mL,yJ];cases aG e p1<;>rfl) (fun _=>rfl) (fun _=>rfl) fun _ _=>rfl
theorem ZA {p1:_} {p2:_} {p3:_}:xo m run runY (⟨ix,d,(DOp.bin p1 p2 p3),none⟩::r) e h=kV m run runY r d e h (zW p1 (aG e p2) (aG e p3)):=nM rfl (by simp only[aA,mL];cases zW p1 (aG e p2) (aG e p3)<;>rfl) (fun _=>rfl) (fun _=>rfl) fun _ _=>rfl
theorem ZB {p1:_} {p2:_} {p3:_} {p4:_}:xo m run runY (⟨ix,d,(DOp.eqag p1 p2 p3 p4),none⟩::r) e h=kV m run runY r d e h (aGg p1 p2 (aG e p3) (aG e p4)):=nM rfl (by simp only[aA,mL,aGg];cases aG e p3<;>cases aG e p4<;>first|rfl|(simp only[];split<;>simp_all)) (fun _=>rfl) (fun _=>rfl) fun _ _=>rfl
theorem ZC {p1:_} {p2:_} {p3:_} {p4:_}:xo m run runY (⟨ix,d,(DOp.eqn p1 p2 p3 p4),none⟩::r) e h=kV m run runY r d e h (aHm p2 (sN p1 (aG e p3) (aG e p4))):=nM rfl (by simp only[aA,mL,aHm];cases sN p1 (aG e p3) (aG e p4)<;>rfl) (fun _=>rfl) (fun _=>rfl) fun _ _=>rfl
theorem ZD {p1:_}:xo m run runY (⟨ix,d,(DOp.not p1),none⟩::r) e h=kV m run runY r d e h (aOM (aG e p1)):=nM rfl (by simp only[aA,mL,aOM];cases aG e p1<;>rfl) (fun _=>rfl) (fun _=>rfl) fun _ _=>rfl
theorem ZE {p1:_}:xo m run runY (⟨ix,d,(DOp.neg p1),none⟩::r) e h=kV m run runY r d e h (aRX (aG e p1)):=nM rfl (by simp only[aA,mL,aRX];cases aG e p1<;>rfl) (fun _=>rfl) (fun _=>rfl) fun _ _=>rfl
theorem ZF {p1:_} {p2:_}:xo m run runY (⟨ix,d,(DOp.conv p1 p2),none⟩::r) e h=kV m run runY r d e h (aKq p1 (aG e p2)):=nM rfl (by simp only[aA,mL,aKq];cases aG e p2<;>rfl) (fun _=>rfl) (fun _=>rfl) fun _ _=>rfl
theorem ZG {p1:_} {p2:_}:xo m run runY (⟨ix,d,(DOp.fld p1 p2),none⟩::r) e h=kV m run runY r d e h (aMB p1 (aG e p2)):=nM rfl (by simp only[aA,mL,aMB];cases aG e p2<;>rfl) (fun _=>rfl) (fun _=>rfl) fun _ _=>rfl
theorem ZH {p1:_} {p2:_} {p3:_} {p4:_}:xo m run runY (⟨ix,d,(DOp.idxa p1 p2 p3 p4),none⟩::r) e h=kV m run runY r d e h (aFZ p1 p2 (aG e p3) (aG e p4)):=nM rfl (by simp only[aA,mL,aFZ];cases aG e p3<;>cases aG e p4<;>first|rfl|(simp only[];split<;>rfl)) (fun _=>rfl) (fun _=>rfl) fun _ _=>rfl
theorem ZI {p1:_} {p2:_} {p3:_}:xo m run runY (⟨ix,d,(DOp.idx p1 p2 p3),none⟩::r) e h=kV m run runY r d e h (aJS p1 (aG e p2) (aG e p3)):=nM rfl (by simp only[aA,mL,aJS];cases aG e p2<;>cases aG e p3<;>first|rfl|(simp only[];split<;>rfl)) (fun _=>rfl) (fun _=>rfl) fun _ _=>rfl
theorem ZJ {p1:_} {p2:_} {p3:_} {p4:_} {p5:_}:xo m run runY (⟨ix,d,(DOp.idxv p1 p2 p3 p4 p5),none⟩::r) e h=kV m run runY r d e h (aJQ p1 p2 p3 (aG e p4) (aG e p5)):=nM rfl (by simp only[aA,mL,aJQ];cases aG e p4<;>cases aG e p5<;>first|rfl|(simp only[];split<;>first|rfl|(split<;>simp_all))) (fun _=>rfl) (fun _=>rfl) fun _ _=>rfl
theorem ZK {p1:_} {p2:_}:xo m run runY (⟨ix,d,(DOp.idxs p1 p2),none⟩::r) e h=kV m run runY r d e h (aJR (aG e p1) (aG e p2)):=nM rfl (by simp only[aA,mL,aJR];cases aG e p1<;>cases aG e p2<;>first|rfl|(simp only[];split<;>rfl)) (fun _=>rfl) (fun _=>rfl) fun _ _=>rfl
theorem ZL {p1:_} {p2:_} {p3:_} {p4:_} {p5:_}:xo m run runY (⟨ix,d,(DOp.mksl p1 p2 p3 p4 p5),none⟩::r) e h=kE m run runY r d e h (iN p3) (aA (DOp.mksl p1 p2 p3 p4 p5) e (aE h)):=qI rfl (fun _=>rfl) (fun _=>rfl) fun _ _=>rfl
theorem ZM {p1:_} {p2:_} {p3:_} {p4:_} {p5:_}:xo m run runY (⟨ix,d,(DOp.slarr p1 p2 p3 p4 p5),none⟩::r) e h=kE m run runY r d e h false (aA (DOp.slarr p1 p2 p3 p4 p5) e (aE h)):=qI rfl (fun _=>rfl) (fun _=>rfl) fun _ _=>rfl
theorem ZN {p1:_} {p2:_} {p3:_} {p4:_}:xo m run runY (⟨ix,d,(DOp.slsl p1 p2 p3 p4),none⟩::r) e h=kE m run runY r d e h false (aA (DOp.slsl p1 p2 p3 p4) e (aE h)):=qI rfl (fun _=>rfl) (fun _=>rfl) fun _ _=>rfl
theorem ZO {p1:_} {p2:_} {p3:_}:xo m run runY (⟨ix,d,(DOp.slstr p1 p2 p3),none⟩::r) e h=kE m run runY r d e h false (aA (DOp.slstr p1 p2 p3) e (aE h)):=qI rfl (fun _=>rfl) (fun _=>rfl) fun _ _=>rfl
theorem ZP:xo m run runY (⟨ix,d,(DOp.mkmap),none⟩::r) e h=kE m run runY r d e h true (aA (DOp.mkmap) e (aE h)):=qI rfl (fun _=>rfl) (fun _=>rfl) fun _ _=>rfl
theorem ZQ {p1:_} {p2:_} {p3:_} {p4:_} {p5:_}:xo m run runY (⟨ix,d,(DOp.lookup p1 p2 p3 p4 p5),none⟩::r) e h=kV m run runY r d e h (aJH p2 p3 (iD p1 (aE h) (aG e p5) (aG e p4))):=nM rfl (by simp only[aA,mL,aJH];cases iD p1 (aE h) (aG e p5) (aG e p4)<;>rfl) (fun _=>rfl) (fun _=>rfl) fun _ _=>rfl
theorem ZR {p1:_} {p2:_}:xo m run runY (⟨ix,d,(DOp.ext p1 p2),none⟩::r) e h=kV m run runY r d e h (aPl (aG e p1) p2):=nM rfl (by simp only[aA,mL,aPl];cases aG e p1<;>first|rfl|(simp only[];split<;>simp_all)) (fun _=>rfl) (fun _=>rfl) fun _ _=>rfl
theorem ZS {p1:_} {p2:_}:xo m run runY (⟨ix,d,(DOp.len p1 p2),none⟩::r) e h=kV m run runY r d e h (aHb p1 (aG e p2)):=nM rfl (by simp only[aA,mL,aHb];cases p1<;>cases aG e p2<;>rfl) (fun _=>rfl) (fun _=>rfl) fun _ _=>rfl
theorem ZT {p1:_} {p2:_}:xo m run runY (⟨ix,d,(DOp.mkifc p1 p2),none⟩::r) e h=kE m run runY r d e h false (aA (DOp.mkifc p1 p2) e (aE h)):=qI rfl (fun _=>rfl) (fun _=>rfl) fun _ _=>rfl
theorem ZU {p1:_}:xo m run runY (⟨ix,d,(DOp.bytes p1),none⟩::r) e h=kE m run runY r d e h true (aA (DOp.bytes p1) e (aE h)):=qI rfl (fun _=>rfl) (fun _=>rfl) fun _ _=>rfl
theorem ZV {a:Bool} {n:Nat} {x:AO}:xo none run runY (⟨ix,d,.load a n x,none⟩::r) e h=kV none run runY r d e h (dI a n (aE h) (aG e x)):=by
 show cZ run runY _ e h=_
 simp only[cZ,gd,bI,aA]
 cases dI a n (aE h) (aG e x)<;>rfl
def aOU (ix:Nat) (v:AV) (L:List (Nat×Nat)):List (Nat×Nat):=match dK v with
 | some b=>(ix,b)::L
 | none=>L
theorem ZW {b o:Nat} {L:List (Nat×Nat)}:aOU ix (.pt b o) L=(ix,b)::L:=rfl
theorem ZX {rows:List (List AV)} {i o:Nat} {L:List (Nat×Nat)}:aOU ix (.fp rows i o) L=L:=rfl
theorem ZY {a:Bool} {n:Nat} {x:AO} {L:List (Nat×Nat)}:xo (some L) run runY (⟨ix,d,.load a n x,none⟩::r) e h=kV (some (aOU ix (aG e x) L)) run runY r d e h (dI a n (aE h) (aG e x)):=by
 show dB run runY _ e h L=_
 simp only[dB,gd,bI,aA,oT,if_true]
 cases dI a n (aE h) (aG e x)<;>rfl

def kH (m:Option (List (Nat×Nat))) (run:bT) (runY:cO) (r:List DOper) (d:Option Nat) (e:aB) (v:AV):Option XH→Option (aB×XH)
 | some h=>xo m run runY r (aM e d v) h
 | none=>none
theorem ZZ:kH m run runY r d e v (some h)=xo m run runY r (aM e d v) h:=rfl
theorem Ya {n:Nat} {p x:AO} {l:List Nat}:xo none run runY (⟨ix,d,.store n p x l,none⟩::r) e h=kH none run runY r d e .any (kT n h (aG e p) (aG e x)):=by
 show cZ run runY _ e h=_
 simp only[cZ,gd,bI]
 cases kT n h (aG e p) (aG e x)<;>rfl
def qS {α:Type} (b:Bool) (x:Option α):Option α:=if b then x else none
theorem Yb {α:Type} {x:Option α}:qS true x=x:=rfl
theorem Yc {n:Nat} {p x:AO} {l:List Nat} {L:List (Nat×Nat)}:xo (some L) run runY (⟨ix,d,.store n p x l,none⟩::r) e h=qS (L.all fun q => !l.contains q.1||dK (aG e p) != some q.2) (kH (some L) run runY r d e .any (kT n h (aG e p) (aG e x))):=by
 show dB run runY _ e h L=_
 simp only[dB,gd,bI,oT,qS]
 cases kT n h (aG e p) (aG e x)<;>rfl
def kR (m:Option (List (Nat×Nat))) (run:bT) (runY:cO) (r:List DOper) (d:Option Nat) (e:aB):Option (AV×XH)→Option (aB×XH)
 | some (v,h)=>xo m run runY r (aM e d v) h
 | none=>none
theorem Ye:kR m run runY r d e (some (v,h))=xo m run runY r (aM e d v) h:=rfl
def aHB (s:Nat) (h:XH) (x y:AV):Option (AV×XH):=(aAy s h x y).map fun r=>(.int .i64 (r.1:Int),r.2)
theorem Yf {s:Nat} {x y:AO}:xo none run runY (⟨ix,d,.copy s x y,none⟩::r) e h=kR none run runY r d e (aHB s h (aG e x) (aG e y)):=by
 show cZ run runY _ e h=_
 simp only[cZ,gd,bI,aHB]
 cases aAy s h (aG e x) (aG e y)<;>rfl
theorem Yg {q:Bool} {a k x:AO}:xo none run runY (⟨ix,d,.mapup q a k x,none⟩::r) e h=kH none run runY r d e .any (nZ q h (aG e a) (aG e k) (aG e x)):=by
 show cZ run runY _ e h=_
 simp only[cZ,gd,bI]
 cases nZ q h (aG e a) (aG e k) (aG e x)<;>rfl
theorem Yh {f:AO} {xs:List AO} {l:List Nat}:xo none run runY (⟨ix,d,.callf false f xs l,none⟩::r) e h=kR none run runY r d e (dQ run runY (aG e f) (xs.map (aG e)) h):=by
 show cZ run runY _ e h=_
 simp only[cZ,gd,bI]
 cases dQ run runY (aG e f) (xs.map (aG e)) h<;>rfl
def kRL (L:List (Nat×Nat)) (l:List Nat) (run:bT) (runY:cO) (r:List DOper) (d:Option Nat) (e:aB) (h:XH) (ps:List Nat):Option (AV×XH)→Option (aB×XH)
 | some (v,h')=>qS (L.all fun q=>(hat h' q.2).isSome&&(!l.contains q.1||(!ps.contains q.2||aCR (hat h q.2) (hat h' q.2)))) (xo (some L) run runY r (aM e d v) h')
 | none=>none
theorem Yi {f:AO} {xs:List AO} {l:List Nat} {L:List (Nat×Nat)}:xo (some L) run runY (⟨ix,d,.callf false f xs l,none⟩::r) e h=kRL L l run runY r d e h (fF (aG e f) (xs.map (aG e)) h) (dQ run runY (aG e f) (xs.map (aG e)) h):=by
 show dB run runY _ e h L=_
 simp only[dB,gd,bI,oT,if_true]
 cases dQ run runY (aG e f) (xs.map (aG e)) h<;>rfl
theorem Yj {L:List (Nat×Nat)} {l:List Nat} {h':XH} {ps:List Nat}:kRL L l run runY r d e h ps (some (v,h'))=qS (L.all fun q=>(hat h' q.2).isSome&&(!l.contains q.1||(!ps.contains q.2||aCR (hat h q.2) (hat h' q.2)))) (xo (some L) run runY r (aM e d v) h'):=rfl
theorem Yk {f:AO} {xs:List AO} {l:List Nat}:xo m run runY (⟨ix,d,.callf true f xs l,none⟩::r) e h=kV m run runY r d e h (iP run (aG e f) (xs.map (aG e)) h):=by
 cases m with
 | none =>
   show cZ run runY _ e h=_
   simp only[cZ,gd,bI]
   cases iP run (aG e f) (xs.map (aG e)) h<;>rfl
 | some L =>
   show dB run runY _ e h L=_
   simp only[dB,gd,bI,oT,if_true]
   cases iP run (aG e f) (xs.map (aG e)) h<;>rfl
theorem Yl {s b:Nat} {x y:AO}:xo none run runY (⟨ix,d,.app s b x y,none⟩::r) e h=kE none run runY r d e h (iO h (aG e x)&&iO h (aG e y)) (mJ s b (aE h) (aG e x) (aG e y)):=by
 rw[←aJN];rfl

def aJq (acc:List Nat) (b:Nat):Option Nat:=dW b acc
def aKu (acc:List Nat) (run:bT) (g:Nat) (all:List AV) (h:XH):Option (AV×XH):=(run g (kC (fun b=>dW b acc) all) (fB acc h)).map (qQ acc h)
def aKv (run:bT) (g:Nat) (all:List AV) (h:XH):Bool→Option (AV×XH)
 | true=>run g all h
 | false=>aKu (dG all h) run g all h
theorem Ym {g:Nat} {first cap as:List AV}:dQ run runY (.fn (.func g) first cap) as h=aKv run g (first++as++cap) h (eZ g):=by
 unfold dQ
 dsimp only
 cases eZ g<;>rfl
theorem QV {g:Nat} {all:List AV}:aKv run g all h true=run g all h:=rfl
theorem QW {g:Nat} {all:List AV}:aKv run g all h false=aKu (dG all h) run g all h:=rfl
theorem QX {g:Nat}:eZ g=aGZ g [59,61,62,87,88,89,90,91,92,93,94,95,96,97,98,128,129,130,131,132,133,134,135,136]:=rfl
theorem QY {g:Nat}:aGZ g []=false:=rfl
theorem QZ {g k:Nat} {l:List Nat}:aGZ g (k::l)=if g=k then true else aGZ g l:=rfl
def kM (acc:List Nat) (h:XH) (r:Option (AV×XH)):Option (AV×XH):=r.map (qQ acc h)
theorem Yn {acc:List Nat} {g:Nat} {all:List AV}:aKu acc run g all h=kM acc h (run g (kC (aJq acc) all) (fB acc h)):=rfl
end
theorem Yo {x y:AV}:aFO (.bool true) x y=some x:=rfl
theorem Yp {x y:AV}:aFO (.bool false) x y=some y:=rfl
theorem Yq {a b:Bool}:aTp false (.bool a) (.bool b)=some (.bool (a==b)):=rfl
theorem Yr {b:Bool}:aOM (.bool b)=some (.bool !b):=rfl
theorem Ys {k k':IntKind} {n:Int}:aKq k (.int k' n)=some (.int k (k.wrap n)):=rfl
theorem Yt {off b o:Nat}:aMB off (.pt b o)=some (.pt b (o+off)):=rfl
theorem Yu {off i o:Nat} {rows:List (List AV)}:aMB off (.fp rows i o)=some (.fp rows i (o+off)):=rfl
theorem Yv {rows:List (List AV)}:aHb false (.fs rows)=some (.int .i64 (rows.length:Int)):=rfl
theorem Yw {b o s n:Nat}:aHb false (.sl b o s n)=some (.int .i64 (n:Int)):=rfl
theorem Yx:aHb false .nilsl=some (.int .i64 0):=rfl
theorem Yy {s:ByteArray}:aHb true (.str s)=some (.int .i64 (s.size:Int)):=rfl
theorem Yz {b o s s' len:Nat} {k:IntKind} {n:Int}:aJS s (.sl b o s' len) (.int k n)=if s'=s∧0≤n∧n<(len:Int) then some (.pt b (o+n.toNat*s)) else none:=rfl
theorem Y4 {s:Nat} {rows:List (List AV)} {k:IntKind} {n:Int}:aJS s (.fs rows) (.int k n)=if 0≤n∧n<(rows.length:Int) then aOY s rows n.toNat rows[n.toNat]? else none:=by
 simp only[aJS,aOY]
 by_cases h:0≤n∧n<(rows.length:Int)
 ·have h2:n.toNat<rows.length:=by omega
  rw[List.getElem?_eq_getElem h2,List.getD_eq_getElem?_getD,List.getElem?_eq_getElem h2,Option.getD_some]
  simp only[h,true_and]
  simp only[and_self,if_true]
 ·rw[if_neg h,if_neg (fun hc=>h ⟨hc.1,hc.2.1⟩)]
theorem Y5 {s j:Nat} {rows:List (List AV)} {r:List AV}:aOY s rows j (some r)=if r.length=s then some (.fp rows j 0) else none:=rfl
theorem Y6 {vs:List AV} {i:Nat}:aPl (.tup vs) i=vs[i]?:=rfl
theorem Y7 {k:IntKind} {a b:Int}:eF .add k a k b=some (.int k (k.wrap (a+b))):=by simp[eF]
theorem Y8 {k:IntKind} {a b:Int}:eF .sub k a k b=some (.int k (k.wrap (a-b))):=by simp[eF]
theorem Y9 {k:IntKind} {a b:Int}:eF .mul k a k b=some (.int k (k.wrap (a*b))):=by simp[eF]
theorem YA {k:IntKind} {a b:Int}:eF .rem k a k b=if b=0 then none else some (.int k (a.tmod b)):=by by_cases h:b=0<;>simp[eF,h]
theorem YB {k:IntKind} {a b:Int}:eF .and k a k b=some (.int k (iQ .and k a b)):=by simp[eF]
theorem YC {k:IntKind} {a b:Int}:eF .or k a k b=some (.int k (iQ .or k a b)):=by simp[eF]
theorem YD {k k':IntKind} {a b:Int}:eF .shl k a k' b=if b<0 then none else some (.int k (k.wrap (a*2^min b.toNat k.bits))):=rfl
theorem YE {k:IntKind} {a b:Int}:eF .eql k a k b=some (.bool (decide (a=b))):=by simp[eF];rfl
theorem YF {k:IntKind} {a b:Int}:eF .neq k a k b=some (.bool !(decide (a=b))):=by simp[eF];rfl
theorem YG {k:IntKind} {a b:Int}:eF .lss k a k b=some (.bool (decide (a<b))):=by simp[eF]
theorem YH {k:IntKind} {a b:Int}:eF .leq k a k b=some (.bool (decide (a≤b))):=by simp[eF]
theorem YJ {k:IntKind} {a b:Int}:eF .gtr k a k b=some (.bool (decide (b<a))):=by simp[eF]
theorem YK {k:IntKind} {a b:Int}:eF .geq k a k b=some (.bool (decide (b≤a))):=by simp[eF]
theorem YL {n:Int}:(n=n)=True:=by simp
theorem YM {n:Nat}:(0≤(n:Int))=True:=by simp
theorem YN {n:Nat}:(n:Int).toNat=n:=by simp
theorem YO:IntKind.i64.wrap 0=0:=rfl
theorem YP:IntKind.i64.wrap 1=1:=rfl
theorem YQ:IntKind.i64.wrap 2=2:=rfl
theorem YR:(0:Int).toNat=0:=rfl
theorem YT:((0:Nat):Int)=0:=rfl
theorem YU:(1:Int).toNat=1:=rfl
theorem YV:((1:Nat):Int)=1:=rfl
theorem YX:(2:Int).toNat=2:=rfl
theorem YY:((2:Nat):Int)=2:=rfl
theorem YZ:(3:Int).toNat=3:=rfl
theorem Xa:((3:Nat):Int)=3:=rfl
theorem Xb:(4:Int).toNat=4:=rfl
theorem Xc:((4:Nat):Int)=4:=rfl
theorem Xd:((5:Nat):Int)=5:=rfl
theorem Xe:((8:Nat):Int)=8:=rfl
theorem Xf {len s b o:Nat} {k:IntKind} {n:Int}:aFZ len s (.pt b o) (.int k n)=if 0≤n∧n<(len:Int) then some (.pt b (o+n.toNat*s)) else none:=rfl
theorem Xg {len s j o:Nat} {r:List (List AV)} {k:IntKind} {n:Int}:aFZ len s (.fp r j o) (.int k n)=if 0≤n∧n<(len:Int) then some (.fp r j (o+n.toNat*s)) else none:=rfl
theorem Xh {neg:Bool} {ks:List Nat} {cs ds:List AV}:aGg neg ks (.agg cs) (.agg ds)=aHm neg (cV ks cs ds):=by cases h:cV ks cs ds<;>simp[aGg,aHm,h]
theorem Xi {b:Bool}:aHm true (some b)=some (.bool !b):=rfl
theorem Xj {b:Bool}:aHm false (some b)=some (.bool b):=rfl
theorem Xk {ok:Bool} {z:AV} {r:Option AV}:aJH ok z (some r)=some (oS ok z r):=rfl
theorem Xl {z v:AV}:oS true z (some v) = .tup [v,.bool true]:=rfl
theorem Xm {z v:AV}:oS false z (some v)=v:=rfl
theorem Xn {z:AV}:oS false z none=z:=rfl
theorem Xo {q:Bool} {b:Nat} {H:Hp} {k:AV}:iD q H k (.mp b)=lkM q k (H b):=by simp only[iD,lkM]<;>rfl
theorem Xp {q w:Bool} {k:AV} {es:List (AV×AV)}:lkM q k (some (.map w es))=bZ q k es:=rfl
theorem Xq {cs:List AV}:aPD (some cs)=some (.agg cs):=rfl
theorem Xr {agg:Bool} {len s:Nat} {cs:List AV} {k:IntKind} {n:Int}:aJQ agg len s (.agg cs) (.int k n)=if 0≤n∧n<(len:Int) then eX agg s cs (n.toNat*s) else none:=rfl
theorem Xs {s:ByteArray} {k:IntKind} {n:Int}:aJR (.str s) (.int k n)=if 0≤n∧n<(s.size:Int) then some (.int .u8 ((s.data.toList.getD n.toNat 0).toNat:Int)) else none:=rfl
theorem Xt {b o:Nat}:yJ (.pt b o)=some (.pt b o):=rfl
theorem QD {b:Nat}:yJ (.bp b)=some (.pt b 0):=rfl
theorem QE {t:TypeId} {v:AV}:yJ (.ifc t v)=some (.ifc t v):=rfl
theorem Xu {k:IntKind} {n:Int}:gI (.int k n)=([]:List Nat):=rfl
theorem Xv {t:Bool}:gI (.bool t)=([]:List Nat):=rfl
theorem Xw {t:ByteArray}:gI (.str t)=([]:List Nat):=rfl
theorem Xx {cs:List AV}:gI (.agg cs)=(iK cs:List Nat):=rfl
theorem Xy {cs:List AV}:gI (.tup cs)=(iK cs:List Nat):=rfl
theorem Xz {rows:List (List AV)}:gI (.fs rows)=([]:List Nat):=rfl
theorem XI {b o s n:Nat}:gI (.sl b o s n)=([b]:List Nat):=rfl
theorem XJ {b o:Nat}:gI (.pt b o)=([b]:List Nat):=rfl
theorem XK {b:Nat}:gI (.mp b)=([b]:List Nat):=rfl
theorem XL  : gI .nilsl=([]:List Nat):=rfl
theorem XM {g:Nat} {fs us:List AV}:gI (.fn (.func g) fs us)=(iK fs++iK us:List Nat):=rfl
theorem XN {l:Nat} {fs us:List AV}:gI (.fn (.yield l) fs us)=([l]++(iK fs++iK us):List Nat):=rfl
theorem XO {ty:TypeId} {v:AV}:gI (.ifc ty v)=(gI v:List Nat):=rfl
theorem XW  : gI .nilifc=([]:List Nat):=rfl
theorem XX  : gI .any=([]:List Nat):=rfl
theorem XY {k:IntKind} {n:Int}:eY (.int k n)=(true:Bool):=rfl
theorem XZ {t:Bool}:eY (.bool t)=(true:Bool):=rfl
theorem Wa {t:ByteArray}:eY (.str t)=(true:Bool):=rfl
theorem Wb {cs:List AV}:eY (.agg cs)=(iN cs:Bool):=rfl
theorem Wc {rows:List (List AV)}:eY (.fs rows)=(true:Bool):=rfl
theorem We {b o s n:Nat}:eY (.sl b o s n)=(false:Bool):=rfl
theorem Wf {b o:Nat}:eY (.pt b o)=(false:Bool):=rfl
theorem Wg {b:Nat}:eY (.mp b)=(false:Bool):=rfl
theorem Wh  : eY .nilsl=(true:Bool):=rfl
theorem Wi  : eY .nilpt=(true:Bool):=rfl
theorem Wj {g:Nat} {fs us:List AV}:eY (.fn (.func g) fs us)=((iN fs&&iN us):Bool):=rfl
theorem Wk {ty:TypeId} {v:AV}:eY (.ifc ty v)=(eY v:Bool):=rfl
theorem Wl  : eY .nilifc=(true:Bool):=rfl
theorem Wm {s:Nat→Option Nat} {k:IntKind} {n:Int}:rnA s (.int k n)=((.int k n):AV):=rfl
theorem Wn {s:Nat→Option Nat} {t:Bool}:rnA s (.bool t)=((.bool t):AV):=rfl
theorem Wo {s:Nat→Option Nat} {t:ByteArray}:rnA s (.str t)=((.str t):AV):=rfl
theorem Wp {s:Nat→Option Nat} {cs:List AV}:rnA s (.agg cs)=(.agg (kC s cs):AV):=rfl
theorem Wq {s:Nat→Option Nat} {cs:List AV}:rnA s (.tup cs)=(.tup (kC s cs):AV):=rfl
theorem Wr {s:Nat→Option Nat} {rows:List (List AV)}:rnA s (.fs rows)=((.fs rows):AV):=rfl
theorem Wt {s:Nat→Option Nat} {b o s2 n:Nat}:rnA s (.sl b o s2 n)=((match s b with|some c=>.sl c o s2 n|none=>.any):AV):=by simp only[rnA]<;>rfl
theorem Wu {s:Nat→Option Nat} {b o:Nat}:rnA s (.pt b o)=((match s b with|some c=>.pt c o|none=>.any):AV):=by simp only[rnA]<;>rfl
theorem Wv {s:Nat→Option Nat} {b:Nat}:rnA s (.mp b)=((match s b with|some c=>.mp c|none=>.any):AV):=by simp only[rnA]<;>rfl
theorem Ww {s:Nat→Option Nat}  : rnA s .nilsl=(.nilsl:AV):=rfl
theorem Wx {s:Nat→Option Nat} {g:Nat} {fs us:List AV}:rnA s (.fn (.func g) fs us)=(.fn (.func g) (kC s fs) (kC s us):AV):=rfl
theorem Wy {s:Nat→Option Nat} {l:Nat} {fs us:List AV}:rnA s (.fn (.yield l) fs us)=((match s l with|some c=>.fn (.yield c) (kC s fs) (kC s us)|none=>.any):AV):=by simp only[rnA]<;>rfl
theorem Wz {s:Nat→Option Nat} {ty:TypeId} {v:AV}:rnA s (.ifc ty v)=(.ifc ty (rnA s v):AV):=rfl
theorem WB {s:Nat→Option Nat}  : rnA s .nilifc=(.nilifc:AV):=rfl
theorem WC {s:Nat→Option Nat}  : rnA s .any=(.any:AV):=rfl
theorem WE {k:IntKind} {n:Int}:vK (.int k n)=([]:List Nat):=rfl
theorem WF {t:Bool}:vK (.bool t)=([]:List Nat):=rfl
theorem WG {t:ByteArray}:vK (.str t)=([]:List Nat):=rfl
theorem WH {cs:List AV}:vK (.agg cs)=(slL cs:List Nat):=rfl
theorem WI {cs:List AV}:vK (.tup cs)=(slL cs:List Nat):=rfl
theorem WJ {rows:List (List AV)}:vK (.fs rows)=([]:List Nat):=rfl
theorem WK {b o s n:Nat}:vK (.sl b o s n)=([b]:List Nat):=rfl
theorem WL {b o:Nat}:vK (.pt b o)=([]:List Nat):=rfl
theorem WM  : vK .nilsl=([]:List Nat):=rfl
theorem WN  : vK .nilpt=([]:List Nat):=rfl
theorem WO {g:Nat} {fs us:List AV}:vK (.fn (.func g) fs us)=([]:List Nat):=rfl
theorem WP {ty:TypeId} {v:AV}:vK (.ifc ty v)=(vK v:List Nat):=rfl
theorem WQ  : vK .nilifc=([]:List Nat):=rfl
theorem WR {B:Nat} {C:List AV} {k:IntKind} {n:Int}:qU B C (.int k n)=((.int k n):AV):=rfl
theorem WS {B:Nat} {C:List AV} {t:ByteArray}:qU B C (.str t)=((.str t):AV):=rfl
theorem WT {B:Nat} {C:List AV} {cs:List AV}:qU B C (.agg cs)=(.agg (sV B C cs):AV):=rfl
theorem WU {B:Nat} {C:List AV} {rows:List (List AV)}:qU B C (.fs rows)=((.fs rows):AV):=rfl
theorem WV {B:Nat} {C:List AV} {b o s n:Nat}:qU B C (.sl b o s n)=((if b=B∧o+n*s≤C.length then .fs (bX C o s n) else .sl b o s n):AV):=rfl
theorem WW {B:Nat} {C:List AV} {b o:Nat}:qU B C (.pt b o)=((.pt b o):AV):=rfl
theorem WX {B:Nat} {C:List AV} {l:Nat} {fs us:List AV}:qU B C (.fn (.yield l) fs us)=((.fn (.yield l) fs us):AV):=rfl
theorem Va {k:IntKind} {n:Int}:nP (.int k n)=((.int k n):AV):=rfl
theorem Vb {t:Bool}:nP (.bool t)=((.bool t):AV):=rfl
theorem Vc {t:ByteArray}:nP (.str t)=((.str t):AV):=rfl
theorem Vd {cs:List AV}:nP (.agg cs)=(.agg (nJ cs):AV):=rfl
theorem Ve {cs:List AV}:nP (.tup cs)=(.tup (nJ cs):AV):=rfl
theorem Vf {rows:List (List AV)}:nP (.fs rows)=((.fs rows):AV):=rfl
theorem Vg {b o s n:Nat}:nP (.sl b o s n)=((.sl b o s n):AV):=rfl
theorem Vh {b o:Nat}:nP (.pt b o)=((.pt b o):AV):=rfl
theorem Vi {b:Nat}:nP (.mp b)=((.mp b):AV):=rfl
theorem Vj  : nP .nilsl=(.fs []:AV):=rfl
theorem Vk {g:Nat} {fs us:List AV}:nP (.fn (.func g) fs us)=((.fn (.func g) fs us):AV):=rfl
theorem Vl {l:Nat} {fs us:List AV}:nP (.fn (.yield l) fs us)=((.fn (.yield l) fs us):AV):=rfl
theorem Vm {ty:TypeId} {v:AV}:nP (.ifc ty v)=((.ifc ty v):AV):=rfl
theorem Vn  : nP .nilifc=(.nilifc:AV):=rfl
theorem Vo {k:IntKind} {n:Int}:cellsOf (.int k n)=(some [(.int k n)]:Option (List AV)):=rfl
theorem Vp {t:Bool}:cellsOf (.bool t)=(some [(.bool t)]:Option (List AV)):=rfl
theorem Vq {t:ByteArray}:cellsOf (.str t)=(some [(.str t)]:Option (List AV)):=rfl
theorem Vr {cs:List AV}:cellsOf (.agg cs)=(some cs:Option (List AV)):=rfl
theorem Vs {rows:List (List AV)}:cellsOf (.fs rows)=(some [(.fs rows)]:Option (List AV)):=rfl
theorem Vt {b o s n:Nat}:cellsOf (.sl b o s n)=(some [(.sl b o s n)]:Option (List AV)):=rfl
theorem Vu {b o:Nat}:cellsOf (.pt b o)=(some [(.pt b o)]:Option (List AV)):=rfl
theorem Vv {b:Nat}:cellsOf (.mp b)=(some [(.mp b)]:Option (List AV)):=rfl
theorem Vw  : cellsOf .nilsl=(some [.nilsl]:Option (List AV)):=rfl
theorem Vx {g:Nat} {fs us:List AV}:cellsOf (.fn (.func g) fs us)=(some [(.fn (.func g) fs us)]:Option (List AV)):=rfl
theorem Vy {ty:TypeId} {v:AV}:cellsOf (.ifc ty v)=(some [(.ifc ty v)]:Option (List AV)):=rfl
theorem Vz {b o s n:Nat}:dK (.sl b o s n)=(some b:Option Nat):=rfl
theorem V0 {b o:Nat}:dK (.pt b o)=(some b:Option Nat):=rfl
theorem V4  : dK .nilsl=(none:Option Nat):=rfl
def aFY (k:Nat) (acc:List Nat) (h:XH) (r:List Nat):XH:=r.map fun b=>xN (keepS k acc) (hat h b)
def aMn (acc:List Nat) (h:XH) (r:List Nat):XH:=r.map fun b=>xN (fun b=>dW b acc) (hat h b)
def fzQ (fz:List (Nat×Bool)) (e:aB) (h:XH):List Nat:=fz.flatMap (aKc e h)
def aPf (h:XH):Option XB→List Nat
 | some (.blk false (.cells _ cs))=>fV h 2 (slL cs)
 | _=>[]
def fzD (h:XH) (v:AV):List Nat:=match v with
 | .pt b _=>match hat h b with
  | some (.blk false (.cells _ cs))=>fV h 2 (slL cs)
  | _=>[]
 | _=>[]
def kF (own:Bool) (k:Nat) (h:XH) (r:Option AV):Option (AV×XH):=r.map fun v=>gL own k v h
def aKj (k:Nat) (h:XH) (v:AV) (acc:List Nat):AV×XH:=(rnA (keepS k acc) v,iM k acc h)
def aTi (k:Nat) (p:aB×XH):AV×XH:=aKj k p.2 (nP (p.1 0)) (bS k [nP (p.1 0)] p.2)
def aIR:Option (List AV)→Option AV
 | some [v]=>some v
 | some vs=>some (.tup vs)
 | none=>none
def aIS:Option AV→Option (List AV)→Option (List AV)
 | some v,some vs=>some (v::vs)
 | _,_=>none
def aGm (v:AV) (a b:aB→XH→Option (DX×aB×XH)) (e:aB) (h:XH):Option (DX×aB×XH):=match v with
 | .bool true=>a e h
 | .bool false=>b e h
 | _=>none
def ldM (agg:Bool) (n o:Nat):Option ABlk→Option AV
 | some (.cells _ cs)=>eX agg n cs o
 | _=>none
def ldR (agg:Bool) (n o:Nat):Option (List AV)→Option AV
 | some r=>eX agg n r o
 | none=>none
def stM (n b o:Nat) (h:XH):Option XB→Option (List AV)→Option XH
 | some (.blk g (.cells true cs)),some vs=>if vs.length=n∧o+n≤cs.length then some (h.set b (some (.blk (g&&iN vs) (.cells true (bV cs o vs))))) else none
 | _,_=>none
def muM (q:Bool) (b:Nat) (h:XH) (k x:AV):Option XB→Option XH
 | some (.blk g (.map true es))=>(iJ q k x es).map fun es'=>h.set b (some (.blk (g&&(eY k&&eY x)) (.map true es')))
 | _=>none
def flM:Option XB→Bool
 | some (.blk g _)=>g
 | _=>false

theorem V5 {x:Option XB} {h:XH} {b:Nat}:hat (x::h) b=if b=0 then x else hat h (b-1):=by cases b<;>simp[hat]
def hpM:Option XB→Option ABlk
 | some (.blk _ x)=>some x
 | _=>none
theorem V6 {h:XH} {b:Nat}:aE h b=hpM (hat h b):=rfl
theorem V7 {g:Bool} {x:ABlk}:hpM (some (.blk g x))=some x:=rfl
theorem V8 {α:Type} {x y:α} {h:List α} {b:Nat}:(x::h).set b y=if b=0 then y::h else x::h.set (b-1) y:=by cases b<;>simp
theorem V9 {α:Type} {x:α} {l:List α} {n:Nat}:(x::l).take n=if n=0 then [] else x::l.take (n-1):=by cases n<;>simp
theorem VA {α:Type} {n:Nat}:([]:List α).take n=[]:=by simp
theorem VB {α:Type} {x:α} {l:List α} {n:Nat}:(x::l).drop n=if n=0 then x::l else l.drop (n-1):=by cases n<;>simp
theorem VC {α:Type} {n:Nat}:([]:List α).drop n=[]:=by simp
theorem VD {α:Type} {x d:α} {l:List α} {n:Nat}:(x::l).getD n d=if n=0 then x else l.getD (n-1) d:=by cases n<;>simp
theorem VE {α:Type} {x:α} {l:List α} {n:Nat}:(x::l)[n]?=if n=0 then some x else l[n-1]?:=by cases n<;>simp
theorem VF {α:Type} {a:α}:(a∈([]:List α))=False:=by simp
theorem VG {α:Type} {a b:α} {l:List α}:(a∈b::l)=(a=b∨a∈l):=by simp
theorem VH {acc:List Nat} {b:Nat}:aJq acc b=dW b acc:=rfl
theorem VI {b c:Nat} {r:List Nat}:dW b (c::r)=if b=c then some 0 else (dW b r).map (· + 1):=rfl
theorem VJ {k:Nat} {acc:List Nat} {b:Nat}:keepS k acc b=if b<k then some b else (dW b acc).map (· + k):=rfl
theorem VK {acc:List Nat} {n i:Nat}:eC acc n i=if i<acc.length then acc[i]? else some (n+(i-acc.length)):=rfl
theorem VL {h:XH} {k n:Nat} {acc:List Nat}:bR h k n [] acc=acc:=by cases n<;>rfl
def aIU (h:XH) (k n:Nat) (r:List Nat) (acc:List Nat) (b:Nat):Option XB→List Nat
 | none=>bR h k n r acc
 | some x=>bR h k n (nmB x++r) (acc++[b])
theorem VM {h:XH} {k n:Nat} {r acc:List Nat} {b:Nat} {x:XB}:aIU h k n r acc b (some x)=bR h k n (nmB x++r) (acc++[b]):=rfl
theorem VN {h:XH} {k n:Nat} {b:Nat} {r acc:List Nat}:bR h k n (b::r) acc=if n=0 then acc else if b<k∨b∈acc then bR h k (n-1) r acc else aIU h k (n-1) r acc b (hat h b):=by
 cases n with
 | zero=>rfl
 | succ n=>simp only[bR,Nat.add_one_ne_zero,if_false,Nat.add_sub_cancel];cases hat h b<;>rfl
theorem VO {xs:List AV} {h:XH}:dG xs h=bR h 0 4096 (iK xs) []:=rfl
theorem VP {k:Nat} {vs:List AV} {h:XH}:bS k vs h=bR h k 4096 (iK vs++(bK k h).flatMap nmO) []:=rfl
theorem VQ {n:Nat}:bK n []=List.replicate n none:=by induction n with
 | zero=>rfl
 | succ n ih=>simp[bK,ih,List.replicate_succ]
theorem VR {x:Option XB} {h:XH} {n:Nat}:bK n (x::h)=if n=0 then [] else x::bK (n-1) h:=by cases n<;>rfl
theorem VS {k:Nat} {acc:List Nat} {h:XH}:iM k acc h=(bK k h).map (xN (keepS k acc))++aFY k acc h acc:=rfl
theorem VT {k:Nat} {acc:List Nat} {h:XH}:aFY k acc h []=[]:=rfl
theorem VU {k:Nat} {acc:List Nat} {h:XH} {b:Nat} {r:List Nat}:aFY k acc h (b::r)=xN (keepS k acc) (hat h b)::aFY k acc h r:=rfl
theorem VV {acc:List Nat} {h:XH}:fB acc h=aMn acc h acc:=rfl
theorem VW {acc:List Nat} {h:XH}:aMn acc h []=[]:=rfl
theorem VX {acc:List Nat} {h:XH} {b:Nat} {r:List Nat}:aMn acc h (b::r)=xN (aJq acc) (hat h b)::aMn acc h r:=rfl
theorem VY {s:Nat→Option Nat}:xN s none=none:=rfl
theorem VZ {s:Nat→Option Nat} {x:XB}:xN s (some x)=some (rnB s x):=rfl
theorem Ua {s:Nat→Option Nat} {x:ABlk}:rnB s (.blk true x) = .blk true x:=by cases x<;>rfl
theorem Ub {s:Nat→Option Nat} {w:Bool} {cs:List AV}:rnB s (.blk false (.cells w cs)) = .blk false (.cells w (kC s cs)):=rfl
theorem Pb {s:Nat→Option Nat} {st:dA} {p:Hp→Nat→Prop}:rnB s (.gh st p) = .gh st p:=rfl
theorem Uc {s:Nat→Option Nat} {K site:Nat} {vs:List AV} {st:LSt}:rnB s (.loop K site vs st) = .loop K site (kC s vs) st:=rfl
theorem Ud:nmO none=[]:=rfl
theorem Ue {x:XB}:nmO (some x)=nmB x:=rfl
theorem Uf {x:ABlk}:nmB (.blk true x)=[]:=by cases x<;>rfl
theorem Ug {w:Bool} {cs:List AV}:nmB (.blk false (.cells w cs))=iK cs:=rfl
theorem Pc {st:dA} {p:Hp→Nat→Prop}:nmB (.gh st p)=[]:=rfl
theorem Uh {K site:Nat} {vs:List AV} {st:LSt}:nmB (.loop K site vs st)=iK vs:=rfl
theorem Ui {acc:List Nat} {h hl:XH} {v:AV}:kM acc h (some (v,hl))=some (rnA (eC acc h.length) v,fQ acc h hl):=rfl
theorem Uj {acc:List Nat} {h hl:XH}:fQ acc h hl=qC h acc ((bK acc.length hl).map (xN (eC acc h.length)))++(hl.drop acc.length).map (xN (eC acc h.length)):=rfl
theorem Uk {h:XH} {xs:XH}:qC h [] xs=h:=by cases xs<;>rfl
theorem Ul {h:XH} {b:Nat} {bs:List Nat} {x:Option XB} {xs:XH}:qC h (b::bs) (x::xs)=qC (h.set b x) bs xs:=rfl
theorem Um {a:Nat}:List.elem a []=false:=rfl
theorem Un {a b:Nat} {l:List Nat}:List.elem a (b::l)=if a=b then true else List.elem a l:=by
 by_cases h:a=b
 ·simp only[List.elem,h,if_true,beq_self_eq_true]
 ·simp only[List.elem,show (a==b)=false by simpa using h,if_neg h]
theorem Uo {g:Nat} {first cap as:List AV} {h:XH}:fF (.fn (.func g) first cap) as h=pO (eZ g) (first++as++cap) h:=rfl
theorem Pa {all:List AV} {h:XH}:pO false all h=dG all h:=rfl
theorem Ur {α:Type} {x:α}:(some x).isSome=true:=rfl
theorem Us {b:Bool}:(b==true)=b:=by cases b<;>rfl
def fzE (b:Nat) (cs:List AV) (e:aB):aB:=fun j=>qU b cs (e j)
theorem Ut {b:Nat} {cs:List AV} {e:aB} {j:Nat}:fzE b cs e j=qU b cs (e j):=rfl
def aMx (b:Nat) (e:aB) (h:XH):Option XB→aB×XH
 | some (.blk true (.cells _ cs))=>(fzE b cs e,(h.map (fzO b cs)).set b none)
 | _=>(e,h)
theorem Uu {b:Nat} {e:aB} {h:XH} {w:Bool} {cs:List AV}:aMx b e h (some (.blk true (.cells w cs)))=(fzE b cs e,(h.map (fzO b cs)).set b none):=rfl
theorem aPg {b:Nat} {e:aB} {h:XH}:fz1 b e h=aMx b e h (hat h b):=by
 unfold fz1 aMx
 cases hat h b with
 | none=>rfl
 | some x=>cases x with
   | loop=>rfl
   | gh=>rfl
   | blk g x=>cases g<;>cases x<;>rfl
def fzP (r:List Nat) (p:aB×XH):aB×XH:=tU r p.1 p.2
theorem Uv {r:List Nat} {e:aB} {h:XH}:fzP r (e,h)=tU r e h:=rfl
theorem Uw {e:aB} {h:XH}:tU [] e h=(e,h):=rfl
theorem Ux {b:Nat} {r:List Nat} {e:aB} {h:XH}:tU (b::r) e h=fzP r (aMx b e h (hat h b)):=by rw[←aPg];rfl
def nzP (fz:List (Nat×Bool)) (p:aB×XH):aB×XH:=(nzE fz p.1,p.2)
theorem Qu {fz:List (Nat×Bool)} {e:aB} {h:XH}:nzP fz (e,h)=(nzE fz e,h):=rfl
theorem Qw {e:aB}:nzE [] e=e:=rfl
theorem Qx {k:Nat} {r:List (Nat×Bool)} {e:aB}:nzE ((k,true)::r) e=nzE r e:=rfl
theorem Qy {k j:Nat} {r:List (Nat×Bool)} {e:aB}:nzE ((k,false)::r) e j=if j=k then nP (nzE r e j) else nzE r e j:=rfl
def fzY (fz:List (Nat×Bool)) (e:aB) (h:XH):aB×XH:=nzP fz (tU (fzQ fz e h) e h)
theorem Uy {fz:List (Nat×Bool)} {e:aB} {h:XH}:yZ fz e h=fzY fz e (qE fz e h):=rfl
theorem Qz {fz:List (Nat×Bool)} {e:aB} {h:XH}:fzY fz e h=nzP fz (tU (fzQ fz e h) e h):=rfl
theorem Q0 {e:aB} {h:XH}:qE [] e h=h:=rfl
theorem QA {k:Nat} {b:Bool} {r:List (Nat×Bool)} {e:aB} {h:XH}:qE ((k,b)::r) e h=if 1000000≤k then aFu (e (k-1000000)) (qE r e h) else qE r e h:=rfl
theorem Uz {e:aB} {h:XH}:fzQ [] e h=[]:=rfl
theorem U0 {j:Nat} {r:List (Nat×Bool)} {e:aB} {h:XH}:fzQ ((j,false)::r) e h=fV h 2 (vK (e j))++fzQ r e h:=rfl
theorem U1 {j:Nat} {r:List (Nat×Bool)} {e:aB} {h:XH}:fzQ ((j,true)::r) e h=fzD h (e j)++fzQ r e h:=by
 simp only[fzQ,List.flatMap_cons,aKc,fzD]<;>rfl
theorem U2 {b o:Nat} {h:XH}:fzD h (.pt b o)=aPf h (hat h b):=rfl
theorem U3 {h:XH} {w:Bool} {cs:List AV}:aPf h (some (.blk false (.cells w cs)))=fV h 2 (slL cs):=rfl
theorem U4 {h:XH} {x:ABlk}:aPf h (some (.blk true x))=[]:=by cases x<;>rfl
def dpM (h:XH) (n b:Nat) (x:Option XB):List Nat:=aNI (fV h n) b x
theorem Qg {h:XH} {n:Nat}:fV h n []=[]:=by cases n<;>rfl
theorem Qh {h:XH} {b:Nat} {r:List Nat}:fV h 1 (b::r)=dpM h 0 b (hat h b)++fV h 1 r:=by simp only[fV,List.flatMap_cons,dpM]
theorem Qi {h:XH} {b:Nat} {r:List Nat}:fV h 2 (b::r)=dpM h 1 b (hat h b)++fV h 2 r:=by simp only[fV,List.flatMap_cons,dpM]
theorem Qj {h:XH} {n b:Nat} {w:Bool} {cs:List AV}:dpM h n b (some (.blk false (.cells w cs)))=fV h n (slL cs)++[b]:=rfl
theorem Qk {h:XH} {n b:Nat} {x:ABlk}:dpM h n b (some (.blk true x))=[b]:=by cases x<;>rfl
theorem U5 {b:Nat} {cs:List AV}:fzO b cs none=none:=rfl
theorem U6 {b:Nat} {cs:List AV} {x:XB}:fzO b cs (some x)=some (fzB b cs x):=rfl
theorem U7 {b:Nat} {cs vs:List AV} {w:Bool}:fzB b cs (.blk false (.cells w vs)) = .blk (iN (sV b cs vs)) (.cells w (sV b cs vs)):=rfl
theorem U8 {b:Nat} {cs:List AV} {x:ABlk}:fzB b cs (.blk true x) = .blk true x:=by cases x<;>rfl
theorem U9 {b:Nat} {cs vs:List AV} {K site:Nat} {st:LSt}:fzB b cs (.loop K site vs st) = .loop K site vs st:=rfl
theorem RF {cs:List AV} {o s:Nat}:bX cs o s 0=[]:=rfl
theorem RG {cs:List AV} {o s:Nat}:bX cs o s 1=(cs.drop o).take s::bX cs (o+s) s 0:=rfl
theorem RH {cs:List AV} {o s:Nat}:bX cs o s 2=(cs.drop o).take s::bX cs (o+s) s 1:=rfl
theorem RI {cs:List AV} {o s:Nat}:bX cs o s 3=(cs.drop o).take s::bX cs (o+s) s 2:=rfl
theorem RJ {cs:List AV} {o s:Nat}:bX cs o s 4=(cs.drop o).take s::bX cs (o+s) s 3:=rfl
theorem UA {res:List (Nat×Option (Bool×Nat))} {own:Bool} {k:Nat} {e:aB} {h:XH}:lN none res own k (some (.normal,e,h))=kF own k h (eL res e (aE h)):=rfl
theorem UB {res:List (Nat×Option (Bool×Nat))} {own:Bool} {k:Nat} {e:aB} {h:XH}:lN none res own k (some (.ret,e,h))=kF own k h (eL res e (aE h)):=rfl
theorem UC {own:Bool} {k:Nat} {h:XH} {v:AV}:kF own k h (some v)=some (gL own k v h):=rfl
theorem UD {k:Nat} {h:XH} {v:AV}:gL true k v h=aKj k h v (bS k [v] h):=by simp[gL,aKj,upd]
theorem UE {k:Nat} {h:XH} {v:AV}:gL false k v h=aTi k (tU (fV h 2 (vK v)) (upd anyE 0 v) h):=rfl
theorem UF {k:Nat} {h:XH} {e:aB}:aTi k (e,h)=aKj k h (nP (e 0)) (bS k [nP (e 0)] h):=rfl
theorem UG {k:Nat} {h:XH} {v:AV} {acc:List Nat}:aKj k h v acc=(rnA (keepS k acc) v,iM k acc h):=rfl
theorem UH {rs:List (Nat×Option (Bool×Nat))} {e:aB} {h:Hp}:eL rs e h=aIR (oJ e h rs):=by unfold eL aIR;cases oJ e h rs<;>rfl
theorem UI {v:AV}:aIR (some [v])=some v:=rfl
theorem UJ:aIR (some [])=some (.tup []):=rfl
theorem UK {v u:AV} {r:List AV}:aIR (some (v::u::r))=some (.tup (v::u::r)):=rfl
theorem UL {e:aB} {h:Hp}:oJ e h []=some []:=rfl
theorem UM {e:aB} {h:Hp} {x:Nat×Option (Bool×Nat)} {r:List (Nat×Option (Bool×Nat))}:oJ e h (x::r)=aIS (oK e h x) (oJ e h r):=by simp only[oJ,aIS]<;>rfl
theorem UN {v:AV} {vs:List AV}:aIS (some v) (some vs)=some (v::vs):=rfl
theorem UO {e:aB} {h:Hp} {t:Nat}:oK e h (t,none)=some (e t):=rfl
theorem UP {e:aB} {h:Hp} {a n:Nat} {g:Bool}:oK e h (a,some (g,n))=dI g n h (e a):=rfl
theorem UQ {as:List AV} {k:Nat}:aW as k=as.getD k .any:=rfl
theorem UR {k:Nat} {ks:List Nat} {v:AV} {vs:List AV} {j:Nat}:dV (k::ks) (v::vs) j=if j=k then v else dV ks vs j:=rfl
theorem US {k:Nat} {L:List Nat} {e:aB} {h:XH}:rB k L e h=kC (keepS k (bS k (L.map e) h)) (L.map e):=rfl
theorem UT {k:Nat} {L:List Nat} {e:aB} {h:XH}:gU k L e h=iM k (bS k (L.map e) h) h:=rfl
theorem UU {D:Nat→Option XFn} {K k:Nat} {rd:Option Nat} {e:aB} {h:XH} {c:AO} {a b:XCode}:execW D K k rd (.cond c a b) e h=aGm (aG e c) (execW D K k rd a) (execW D K k rd b) e h:=by
 rw[aEV];unfold aGm
 cases aG e c with
 | bool t=>cases t<;>rfl
 | _=>rfl
theorem UV {a b:aB→XH→Option (DX×aB×XH)} {e:aB} {h:XH}:aGm (.bool true) a b e h=a e h:=rfl
theorem UW {a b:aB→XH→Option (DX×aB×XH)} {e:aB} {h:XH}:aGm (.bool false) a b e h=b e h:=rfl
theorem UX {id:Nat} {e:aB} {h:XH}:aCn (some (.exit id,e,h))=true:=rfl
theorem UY {e:aB} {h:XH}:aCn (some (.ret,e,h))=true:=rfl
def aPw (x:AV):Option Eff:=match x with
    | .str s=>some (.new none (.cells true (s.data.toList.map fun b=>.int .u8 (b.toNat:Int))) fun b=>.sl b 0 1 s.size)
    | _=>none
def aPy:Option (List AV)→Option Eff
    | some cs=>some (.new none (.cells true cs) fun b=>.pt b 0)
    | none=>none
def aPx (s n:Nat):Option (List AV)→Option Eff
    | some cs=>some (.new none (.cells true cs) fun b=>.sl b 0 s n)
    | none=>none
def aOQ (s bytes:Nat) (z:List AV) (l c:AV):Option Eff:=match l,c with
    | .int .i64 l,.int .i64 c=>if 0≤l∧l≤c∧(bytes:Int)*c≤281474976710656∧c≤9223372036854775807 then
     some (.new none (.cells true (List.replicate c.toNat z).flatten) fun b=>.sl b 0 s l.toNat) else none
    | _,_=>none
theorem UZ:(false=true)=False:=by simp
theorem Ta {α β:Type} {f:α→β} {a:α} {l:List α}:(a::l).map f=f a::l.map f:=rfl
theorem Tb {α β:Type} {f:α→β}:([]:List α).map f=[]:=rfl
theorem Tc {α:Type} {a:α} {l s:List α}:(a::l)++s=a::(l++s):=rfl
theorem Td {α:Type} {s:List α}:[]++s=s:=rfl
theorem Te {α:Type} {s:List α}:s++[]=s:=by simp
theorem Tf {α β:Type} {f:α→List β} {a:α} {l:List α}:(a::l).flatMap f=f a++l.flatMap f:=by simp
theorem Tg {α β:Type} {f:α→List β}:([]:List α).flatMap f=[]:=rfl
theorem Th {α:Type} {a:α} {l:List α}:(a::l).length=l.length+1:=rfl
theorem Ti {α:Type}:([]:List α).length=0:=rfl
theorem Tj {α β:Type} {f:α→β} {l:List α}:(l.map f).length=l.length:=by simp
theorem Tl {α β:Type} {f:α→β} {l:List α} {i:Nat}:(l.map f)[i]?=l[i]?.map f:=by simp
theorem Tm {α β:Type} {f:α→β} {a:α}:(some a).map f=some (f a):=rfl
theorem Tn {b:Bool}:(true&&b)=b:=by simp
theorem Tp {b:Bool}:(b&&true)=b:=by simp
theorem Tq {b:Bool}:(false&&b)=false:=by simp
theorem Tr {b:Bool}:(b&&false)=false:=by simp
theorem Ts:(!true)=false:=rfl
theorem Tt:(!false)=true:=rfl
theorem Tu {b:Bool}:(true||b)=true:=by simp
theorem Tv {b:Bool}:(b||true)=true:=by simp
theorem Tw {p:Prop}:(p∧True)=p:=by simp
theorem Tx {p:Prop}:(False∧p)=False:=by simp
theorem Ty {p:Prop}:(p∨True)=True:=by simp
theorem Tz {p:Prop}:(p∨False)=p:=by simp
theorem T0 {i:Decidable True}:decide True=true:=by simp
theorem T1 {i:Decidable False}:decide False=false:=by simp
theorem T2 {α:Type} {f:α→Bool}:[].all f=true:=rfl
theorem T3 {α:Type} {f:α→Bool} {a:α} {l:List α}:(a::l).all f=(f a&&l.all f):=rfl
theorem T4 {α:Type} {a:α}:List.replicate 0 a=[]:=rfl
theorem Rz {α:Type} {a:α}:List.replicate 1 a=[a]:=rfl
theorem RA {α:Type} {a:α}:List.replicate 3 a=[a,a,a]:=rfl
theorem RC {α:Type} {a:α}:List.replicate 5 a=[a,a,a,a,a]:=rfl
theorem T5:iK []=[]:=by simp only[iK]
theorem T6 {v:AV} {r:List AV}:iK (v::r)=(gI v++iK r):=by simp only[iK]
theorem T7 {s:Nat→Option Nat}:kC s []=[]:=by simp only[kC]
theorem T8 {s:Nat→Option Nat} {v:AV} {r:List AV}:kC s (v::r)=(rnA s v::kC s r):=by simp only[kC]
theorem T9:iN []=true:=by simp only[iN]
theorem TA {v:AV} {r:List AV}:iN (v::r)=(eY v&&iN r):=by simp only[iN]
theorem TB:slL []=[]:=by simp only[slL]
theorem TC {v:AV} {r:List AV}:slL (v::r)=(vK v++slL r):=by simp only[slL]
theorem TD {B:Nat} {C:List AV}:sV B C []=[]:=by simp only[sV]
theorem TE {B:Nat} {C:List AV} {v:AV} {r:List AV}:sV B C (v::r)=(qU B C v::sV B C r):=by simp only[sV]
theorem TF:nJ []=[]:=by simp only[nJ]
theorem TG {v:AV} {r:List AV}:nJ (v::r)=(nP v::nJ r):=by simp only[nJ]
theorem TH {a:AV} {z cs:List AV} {off:Nat}:bV (a::z) off cs=(a::z).take off++cs++(a::z).drop (off+cs.length):=rfl
theorem TI {z:List AV}:dX z []=some z:=rfl
def aPj (z:List AV) (off n:Nat) (rest:List (Nat×Nat×AV)):Option (List AV)→Option (List AV)
 | some cs=>if cs.length=n∧off+n≤z.length then dX (bV z off cs) rest else none
 | none=>none
theorem TJ {z:List AV} {off n:Nat} {v:AV} {rest:List (Nat×Nat×AV)}:dX z ((off,n,v)::rest)=aPj z off n rest (cellsOf v):=by simp only[dX,aPj]<;>rfl
theorem TK {z cs:List AV} {off n:Nat} {rest:List (Nat×Nat×AV)}:aPj z off n rest (some cs)=if cs.length=n∧off+n≤z.length then dX (bV z off cs) rest else none:=rfl
theorem TL {c d:Nat} {e:aB}:aK c d e none=some d:=rfl
def boM (cap:Nat):AV→Option Nat
 | .int _ n=>if 0≤n∧n≤(cap:Int) then some n.toNat else none
 | _=>none
theorem TM {c d:Nat} {e:aB} {x:AO}:aK c d e (some x)=boM c (aG e x):=by simp only[aK,boM]<;>rfl
theorem TN {c:Nat} {k:IntKind} {n:Int}:boM c (.int k n)=if 0≤n∧n≤(c:Int) then some n.toNat else none:=rfl
theorem TO {e:aB} {p:Nat} {ps:List Nat} {v:AV} {vs:List AV}:mQ e (p::ps) (v::vs)=mQ (upd e p v) ps vs:=rfl
theorem TP {e:aB} {vs:List AV}:mQ e [] vs=e:=rfl
theorem TQ {H:Hp} {x:AO} {e:aB}:aA (.box x) e H=aPy (cellsOf (aG e x)):=by simp only[aA,aPy]<;>rfl
theorem TR {cs:List AV}:aPy (some cs)=some (.new none (.cells true cs) fun b=>.pt b 0):=rfl
theorem TS {s n:Nat} {z:List AV} {ps:List (Nat×Nat×AO)} {e:aB} {H:Hp}:aA (.bslice s n z ps) e H=aPx s n (dX (List.replicate n z).flatten (ps.map fun p=>(p.1,p.2.1,aG e p.2.2))):=by simp only[aA,aPx]<;>rfl
theorem TT {s n:Nat} {cs:List AV}:aPx s n (some cs)=some (.new none (.cells true cs) fun b=>.sl b 0 s n):=rfl
theorem TU {α:Type}:([]:List (List α)).flatten=[]:=rfl
theorem TV {α:Type} {a:List α} {l:List (List α)}:(a::l).flatten=a++l.flatten:=rfl
theorem TW {e:aB} {H:Hp}:aA .mkmap e H=some (.new none (.map true []) fun b=>.mp b):=rfl
theorem TX {s b:Nat} {z:List AV} {l c:AO} {e:aB} {H:Hp}:aA (.mksl s b z l c) e H=aOQ s b z (aG e l) (aG e c):=by simp only[aA,aOQ]<;>rfl
theorem TY {s b:Nat} {z:List AV} {l c:Int}:aOQ s b z (I l) (I c)=if 0≤l∧l≤c∧(b:Int)*c≤281474976710656∧c≤9223372036854775807 then
        some (.new none (.cells true (List.replicate c.toNat z).flatten) fun b=>.sl b 0 s l.toNat) else none:=rfl
def aOm (s o s' len:Nat):Option ABlk→Option (Nat×List AV)
    | some (.cells _ cs)=>if s'=s∧o+len*s≤cs.length then some (len,(cs.drop o).take (len*s)) else none
    | _=>none
theorem TZ {s b o s' n:Nat} {H:Hp}:dZ s H (.sl b o s' n)=aOm s o s' n (H b):=by simp only[dZ,aOm]<;>rfl
theorem Sa {s o s' len:Nat} {w:Bool} {cs:List AV}:aOm s o s' len (some (.cells w cs))=if s'=s∧o+len*s≤cs.length then some (len,(cs.drop o).take (len*s)) else none:=rfl
def aFj (s bytes:Nat) (H:Hp) (x:AV):Option (Nat×List AV)→Option Eff
 | none=>none
 | some (n,new) =>
   match x with
   | .nilsl=>if n*bytes≤1099511627776∧n≤1099511627776 then (if n=0 then some (.val .nilsl) else some (.new none (.cells true new) fun b=>if bytes=1048577 then .sb b n else .sl b 0 s n)) else none
   | .sb b len=>match H b with
     | some (.cells true cs)=>if bytes=1048577∧s=1∧len=cs.length∧len+n≤1099511627776 then some (.new (some b) (.cells true (cs++new)) fun b=>.sb b (len+n)) else none
     | _=>none
   | .sl b 0 s' len=>match H b with
     | some (.cells true cs)=>if s'=s∧len*s=cs.length∧(len+n)*bytes≤1099511627776∧len+n≤1099511627776 then some (.new (some b) (.cells true (cs++new)) fun b=>.sl b 0 s (len+n)) else none
     | _=>none
   | _=>none
def aKE (s bytes n:Nat) (new:List AV) (b len:Nat):Option ABlk→Option Eff
 | some (.cells true cs)=>if bytes=1048577∧s=1∧len=cs.length∧len+n≤1099511627776 then some (.new (some b) (.cells true (cs++new)) fun b=>.sb b (len+n)) else none
 | _=>none
def aKF (s bytes n:Nat) (new:List AV) (b s' len:Nat):Option ABlk→Option Eff
 | some (.cells true cs)=>if s'=s∧len*s=cs.length∧(len+n)*bytes≤1099511627776∧len+n≤1099511627776 then some (.new (some b) (.cells true (cs++new)) fun b=>.sl b 0 s (len+n)) else none
 | _=>none
theorem Sc {s bytes:Nat} {H:Hp} {x y:AV}:mJ s bytes H x y=aFj s bytes H x (dZ s H y):=by
 unfold mJ aFj
 cases dZ s H y<;>rfl
theorem Sd {s bytes n:Nat} {H:Hp} {new:List AV}:aFj s bytes H .nilsl (some (n,new))=if n*bytes≤1099511627776∧n≤1099511627776 then (if n=0 then some (.val .nilsl) else some (.new none (.cells true new) fun b=>if bytes=1048577 then .sb b n else .sl b 0 s n)) else none:=rfl
theorem QF {s bytes n b len:Nat} {H:Hp} {new:List AV}:aFj s bytes H (.sb b len) (some (n,new))=aKE s bytes n new b len (H b):=by simp only[aFj,aKE]<;>rfl
theorem QG {s bytes n b len:Nat} {cs new:List AV}:aKE s bytes n new b len (some (.cells true cs))=if bytes=1048577∧s=1∧len=cs.length∧len+n≤1099511627776 then some (.new (some b) (.cells true (cs++new)) fun b=>.sb b (len+n)) else none:=rfl
theorem Se {s bytes n b s' len:Nat} {H:Hp} {new:List AV}:aFj s bytes H (.sl b 0 s' len) (some (n,new))=aKF s bytes n new b s' len (H b):=by simp only[aFj,aKF]<;>rfl
theorem Sf {s bytes n b s' len:Nat} {cs new:List AV}:aKF s bytes n new b s' len (some (.cells true cs))=if s'=s∧len*s=cs.length∧(len+n)*bytes≤1099511627776∧len+n≤1099511627776 then some (.new (some b) (.cells true (cs++new)) fun b=>.sl b 0 s (len+n)) else none:=rfl
theorem SN {e:aB} {n:Nat}:aG e (.t n)=e n:=rfl
theorem SO {e:aB} {v:AV}:aG e (.c v)=v:=rfl
theorem SP:sN 2 .nilfn .nilfn=some true:=rfl
theorem SQ {f:Fn} {a b:List AV}:sN 2 (.fn f a b) .nilfn=some false:=rfl
theorem SS:sN 3 .nilpt .nilpt=some true:=rfl
theorem SU {b o:Nat}:sN 3 (.pt b o) .nilpt=some false:=rfl
def aLM (len s b o n h:Nat):Option Nat→Option Eff
 | some l=>if o+len*s≤n∧l<len then some (.val (.sl b (o+l*s) s (h-l))) else none
 | none=>none
def aLN (len s:Nat) (e:aB) (lo:Option AO) (b o:Nat):Option ABlk→Option Nat→Option Eff
 | some (.cells _ cs),some h=>aLM len s b o cs.length h (aK h 0 e lo)
 | _,_=>none
def aOo (len s:Nat) (e:aB) (lo:Option AO) (H:Hp) (r:Option Nat):AV→Option Eff
 | .pt b o=>aLN len s e lo b o (H b) r
 | _=>none
theorem SV {len s:Nat} {x:AO} {lo hi:Option AO} {e:aB} {H:Hp}:aA (.slarr len s x lo hi) e H=aOo len s e lo H (aK len len e hi) (aG e x):=by
 simp only[aA,aOo]
 cases aG e x with
 | pt b o =>
   simp only[]
   cases H b with
   | none=>rfl
   | some c =>
     cases c with
     | cells w cs =>
       cases aK len len e hi with
       | none=>rfl
       | some h=>simp only[aLN,aLM];cases aK h 0 e lo<;>rfl
     | _=>rfl
 | _=>rfl
theorem SW {len s b o:Nat} {e:aB} {lo:Option AO} {H:Hp} {r:Option Nat}:aOo len s e lo H r (.pt b o)=aLN len s e lo b o (H b) r:=rfl
theorem SX {len s b o h:Nat} {e:aB} {lo:Option AO} {w:Bool} {cs:List AV}:aLN len s e lo b o (some (.cells w cs)) (some h)=aLM len s b o cs.length h (aK h 0 e lo):=rfl
theorem SY {len s b o n h l:Nat}:aLM len s b o n h (some l)=if o+len*s≤n∧l<len then some (.val (.sl b (o+l*s) s (h-l))) else none:=rfl
def aLK (rows:List (List AV)) (h:Nat):Option Nat→Option Eff
 | some l=>some (.val (.fs ((rows.drop l).take (h-l))))
 | none=>none
def aLL (rows:List (List AV)) (e:aB) (lo:Option AO):Option Nat→Option Eff
 | some h=>aLK rows h (aK h 0 e lo)
 | none=>none
def aLI (b o s h:Nat):Option Nat→Option Eff
 | some l=>if l<h then some (.val (.sl b (o+l*s) s (h-l))) else if l=0 then some (.val (.sl b o s 0)) else some (.val (.fs []))
 | none=>none
def aLJ (b o s:Nat) (e:aB) (lo:Option AO):Option Nat→Option Eff
 | some h=>aLI b o s h (aK h 0 e lo)
 | none=>none
def aRA:Option Nat→Option Eff
 | some _=>some (.val .nilsl)
 | none=>none
def aRB (e:aB) (lo:Option AO):Option Nat→Option Eff
 | some h=>aRA (aK h 0 e lo)
 | none=>none
def aGI (s:Nat) (e:aB) (lo hi:Option AO):AV→Option Eff
 | .fs rows=>if rows.all (fun r=>r.length==s) then aLL rows e lo (aK rows.length rows.length e hi) else none
 | .sl b o s' len=>if s'=s then aLJ b o s e lo (aK len len e hi) else none
 | .nilsl=>aRB e lo (aK 0 0 e hi)
 | _=>none
theorem SZ {s:Nat} {x:AO} {lo hi:Option AO} {e:aB} {H:Hp}:aA (.slsl s x lo hi) e H=aGI s e lo hi (aG e x):=by
 simp only[aA]
 cases aG e x with
 | fs rows =>
   simp only[hC,aGI]
   by_cases hr:(rows.all fun r=>r.length==s)=true
   ·simp only[hr,if_true]
    cases aK rows.length rows.length e hi with
    | none=>rfl
    | some h=>simp only[aLL,aLK];cases aK h 0 e lo<;>rfl
   ·simp only[hr];rfl
 | sl b o s' len =>
   simp only[hC,aGI]
   by_cases hr:s'=s
   ·simp only[hr,if_true]
    cases aK len len e hi with
    | none=>rfl
    | some h =>
      simp only[aLJ,aLI]
      cases aK h 0 e lo with
      | none=>rfl
      | some l =>
        by_cases hl:l<h
        ·simp only[hl,if_true]
        ·by_cases h0:l=0
         ·simp only[hl,h0,if_true,if_false]
          subst h0
          simp only[hl,if_false]
         ·simp only[hl,h0,if_false]
   ·simp only[hr,if_false]
 | nilsl =>
   simp only[hC,aGI]
   cases aK 0 0 e hi with
   | none=>rfl
   | some h=>simp only[aRB,aRA];cases aK h 0 e lo<;>rfl
 | _=>rfl
theorem Ra {s:Nat} {e:aB} {lo hi:Option AO} {rows:List (List AV)}:aGI s e lo hi (.fs rows)=if rows.all (fun r=>r.length==s) then aLL rows e lo (aK rows.length rows.length e hi) else none:=rfl
theorem Rb {s b o s' len:Nat} {e:aB} {lo hi:Option AO}:aGI s e lo hi (.sl b o s' len)=if s'=s then aLJ b o s e lo (aK len len e hi) else none:=rfl
theorem Rc {rows:List (List AV)} {e:aB} {lo:Option AO} {h:Nat}:aLL rows e lo (some h)=aLK rows h (aK h 0 e lo):=rfl
theorem Rd {rows:List (List AV)} {h l:Nat}:aLK rows h (some l)=some (.val (.fs ((rows.drop l).take (h-l)))):=rfl
theorem Re {b o s h:Nat} {e:aB} {lo:Option AO}:aLJ b o s e lo (some h)=aLI b o s h (aK h 0 e lo):=rfl
theorem Rf {b o s h l:Nat}:aLI b o s h (some l)=if l<h then some (.val (.sl b (o+l*s) s (h-l))) else if l=0 then some (.val (.sl b o s 0)) else some (.val (.fs [])):=rfl
def aLE (s:ByteArray) (h:Nat):Option Nat→Option Eff
 | some l=>some (.val (.str (aCt s l h)))
 | none=>none
def aLF (s:ByteArray) (e:aB) (lo:Option AO):Option Nat→Option Eff
 | some h=>aLE s h (aK h 0 e lo)
 | none=>none
def aOl (e:aB) (lo hi:Option AO):AV→Option Eff
 | .str s=>aLF s e lo (aK s.size s.size e hi)
 | _=>none
theorem Rg {x:AO} {lo hi:Option AO} {e:aB} {H:Hp}:aA (.slstr x lo hi) e H=aOl e lo hi (aG e x):=by
 simp only[aA,aOl]
 cases aG e x with
 | str s =>
   simp only[]
   cases aK s.size s.size e hi with
   | none=>rfl
   | some h=>simp only[aLF,aLE];cases aK h 0 e lo<;>rfl
 | _=>rfl
theorem Rh {e:aB} {lo hi:Option AO} {s:ByteArray}:aOl e lo hi (.str s)=aLF s e lo (aK s.size s.size e hi):=rfl
theorem Ri {e:aB} {lo:Option AO} {s:ByteArray} {h:Nat}:aLF s e lo (some h)=aLE s h (aK h 0 e lo):=rfl
theorem Rj {s:ByteArray} {h l:Nat}:aLE s h (some l)=some (.val (.str (aCt s l h))):=rfl
theorem Rk {x:AO} {e:aB} {H:Hp}:aA (.bytes x) e H=aPw (aG e x):=by simp only[aA,aPw]<;>rfl
theorem Rl {s:ByteArray}:aPw (.str s)=some (.new none (.cells true (s.data.toList.map fun b=>.int .u8 (b.toNat:Int))) fun b=>.sl b 0 1 s.size):=rfl
theorem Rm {t:TypeId} {x:AO} {e:aB} {H:Hp}:aA (.mkifc t x) e H=some (.val (.ifc t (aG e x))):=rfl
theorem ptf (p:Prop):(p=True)∨(p=False):=by by_cases h:p<;>simp[h]
theorem Sg {n:Int}:(n<n)=False:=eq_false (by omega)
theorem aNf {i n:Nat} (h:i<n) (hn:n<1000000000000):IntKind.i64.wrap ((i:Int)+1)=(i:Int)+1:=aS (by omega) (by omega)
theorem Si {agg:Bool} {n b o:Nat} {H:Hp}:dI agg n H (.pt b o)=ldM agg n o (H b):=by unfold dI ldM;rfl
theorem Sj {agg w:Bool} {n o:Nat} {cs:List AV}:ldM agg n o (some (.cells w cs))=eX agg n cs o:=rfl
theorem Sk {agg:Bool} {n i o:Nat} {rows:List (List AV)} {H:Hp}:dI agg n H (.fp rows i o)=ldR agg n o (rows[i]?):=by unfold dI ldR;rfl
theorem Sl {agg:Bool} {n o:Nat} {r:List AV}:ldR agg n o (some r)=eX agg n r o:=rfl
theorem Sm {n o:Nat} {cs:List AV}:eX true n cs o=if o+n≤cs.length then some (.agg ((cs.drop o).take n)) else none:=rfl
theorem Sn {n o:Nat} {cs:List AV}:eX false n cs o=cs[o]?:=rfl
theorem Sp {n b o:Nat} {h:XH} {x:AV}:kT n h (.pt b o) x=stM n b o h (hat h b) (cellsOf x):=by
 simp only[kT,stM]<;>rfl
theorem Sq {n b o:Nat} {h:XH} {g:Bool} {cs vs:List AV}:stM n b o h (some (.blk g (.cells true cs))) (some vs)=if vs.length=n∧o+n≤cs.length then some (h.set b (some (.blk (g&&iN vs) (.cells true (bV cs o vs))))) else none:=rfl
theorem Sr {q:Bool} {h:XH} {b:Nat} {k x:AV}:nZ q h (.mp b) k x=muM q b h k x (hat h b):=by simp only[nZ,muM]<;>rfl
theorem Ss {q g:Bool} {h:XH} {b:Nat} {k x:AV} {es:List (AV×AV)}:muM q b h k x (some (.blk g (.map true es)))=(iJ q k x es).map fun es'=>h.set b (some (.blk (g&&(eY k&&eY x)) (.map true es'))):=rfl
theorem Su {h:XH} {g:Bool} {x:ABlk}:nN h none g x=h++[some (.blk g x)]:=rfl
theorem Sv {h:XH} {b:Nat} {g:Bool} {x:ABlk}:nN h (some b) g x=h.set b none++[some (.blk g x)]:=rfl
theorem Sw {h:XH} {b o s n:Nat}:iO h (.sl b o s n)=flM (hat h b):=by simp only[iO,flM]<;>rfl
theorem Sx {g:Bool} {x:ABlk}:flM (some (.blk g x))=g:=rfl
theorem Sy {h:XH}:iO h .nilsl=true:=rfl
theorem Sz {op:BinOp} {k k':IntKind} {a b:Int}:zW op (.int k a) (.int k' b)=eF op k a k' b:=rfl
theorem S9 {op:BinOp} {a b:ByteArray}:zW op (.str a) (.str b)=cF op a b:=rfl

theorem Ro {α β:Type} {f:α→β} {a b:List α}:(a++b).map f=a.map f++b.map f:=by simp
theorem Rp {α:Type} {a b:List α}:(a++b).length=a.length+b.length:=by simp
theorem Rq {n:Nat}:n*1=n:=by simp
theorem Rr {n:Nat}:0+n=n:=by simp
theorem Rs {n:Nat}:n+0=n:=by simp
theorem Rt {n:Nat}:(n≤n)=True:=by simp
theorem Ru {n:Nat}:n-0=n:=by simp
def aIw {α:Type} (l:List α) (o:Nat) (v:α):List α:=l.take o++v::l.drop (o+1)
theorem aIv {α:Type} {l:List α} {o:Nat} {v:α} (h:o<l.length):aIw l o v=l.set o v:=by
 rw[aIw,List.set_eq_take_append_cons_drop,if_pos h]
theorem Rw {hs:List Int} {o:Nat} {v:Int}:bV (hs.map I) o [I v]=(aIw hs o v).map I:=by
 simp[bV,aIw,List.map_take,List.map_drop]
theorem vY {α:Type} {f:α→AV}:∀ (l pre:List α),bX ((pre++l).map f) pre.length 1 l.length=l.map fun v=>[f v]
 | [],pre=>rfl
 | a::r,pre=>by
   have h:=vY (f:=f) r (pre++[a])
   simp only[List.append_assoc,List.cons_append,List.nil_append,List.length_append,List.length_cons,List.length_nil]at h
   rw[List.length_cons,bX]
   simp only[Nat.zero_add]at h
   rw[h,List.map_append,List.drop_left' (by simp),List.map_cons,List.map_cons]
   rfl
theorem Rx {hs:List Int}:bX (hs.map I) 0 1 hs.length=hs.map fun v=>[I v]:=vY (f:=I) hs []
theorem Ry {n:Nat} {v:Int}:(List.replicate n [I v]).flatten=(List.replicate n v).map I:=by
 induction n with
 | zero=>rfl
 | succ n ih=>simp[List.replicate_succ,ih]
section
variable {D:Nat→Option XFn} {K k:Nat} {rd:Option Nat} {e:aB} {h:XH} {run:bT} {runY:cO}
variable {d:Option Nat} {ix:Nat} {r:List DOper} {L:List (Nat×Nat)}
theorem Qd {s b:Nat} {x y:AO}:xo (some L) run runY (⟨ix,d,.app s b x y,none⟩::r) e h=qS (L.all fun q=>dK (aG e x) != some q.2) (kE (some L) run runY r d e h (iO h (aG e x)&&iO h (aG e y)) (mJ s b (aE h) (aG e x) (aG e y))):=by
 show dB run runY _ e h L=_
 rw[←aJN]
 simp only[dB,gd,oT,qS]
 rfl
theorem Qe {b:Nat}:((none:Option Nat) != some b)=true:=rfl
theorem Qf {a b:Nat}:(some a != some b) = !(decide (a=b)):=by by_cases h:a=b<;>simp[h]
def lsM:Option XB→Option LSt
 | some (.loop _ _ _ s)=>some s
 | _=>none
theorem RK {h:XH} {l:Nat}:eO h l=lsM (hat h l):=by unfold eO lsM;rfl
theorem RM {K site:Nat} {vs:List AV} {s:LSt}:lsM (some (.loop K site vs s))=some s:=rfl
def ltM (h:XH) (l:Nat) (s:LSt):Option XB→XH
 | some (.loop K site vs _)=>h.set l (some (.loop K site vs s))
 | _=>h
theorem RN {h:XH} {l:Nat} {s:LSt}:loopTo h l s=ltM h l s (hat h l):=by unfold loopTo ltM;rfl
theorem RO {h:XH} {l K site:Nat} {vs:List AV} {s s':LSt}:ltM h l s (some (.loop K site vs s'))=h.set l (some (.loop K site vs s)):=rfl
theorem RP {h:XH}:tO none h=true:=rfl
theorem RQ {g:Nat} {a b:List AV}:tN (.fn (.func g) a b)=true:=rfl
def aRI (b:Bool) (n:Nat) (e:aB) (r:Option (AV×XH)):Option (DX×aB×XH):=if b then aDc n e r else none
theorem RR {site:Nat} {L:List Nat} {f:AO} {ps:List Nat} {a b:XCode}:execW D K k rd (.rng site L f ps a b) e h=aRI (tO rd h&&tN (aG e f)) h.length e (dQ (runW D) (runYW D) (aG e f) [.fn (.yield h.length) [] []] (h++[some (.loop K site (L.map e) .ready)])):=aHk
theorem RU {n:Nat} {r:Option (AV×XH)}:aRI true n e r=aDc n e r:=rfl
def rgM (n:Nat) (e:aB) (h:XH):Option LSt→Option (DX×aB×XH)
 | some .ready=>some (.normal,e,h.set n none)
 | some (.done x)=>some (x,e,h.set n none)
 | _=>none
theorem RV {n:Nat} {v:AV}:aDc n e (some (v,h))=rgM n e h (eO h n):=by unfold aDc rgM;rfl
theorem RW {n:Nat}:rgM n e h (some .ready)=some (.normal,e,h.set n none):=rfl
theorem RX {l:Nat} {as:List AV}:dQ run runY (.fn (.yield l) [] []) as h=kM (dG (.fn (.yield l) [] []::as) h) h (runY (rnA (aJq (dG (.fn (.yield l) [] []::as) h)) (.fn (.yield l) [] [])) (kC (aJq (dG (.fn (.yield l) [] []::as) h)) as) (fB (dG (.fn (.yield l) [] []::as) h) h)):=rfl
def yM2 (x:Option (AV×XH)):Option LSt→Option (AV×XH)
 | some .ready=>x
 | _=>none
theorem RY {l:Nat} {f:aB→XH→Option (AV×XH)}:aEd l (some (.normal,e,h)) f=yM2 (f e (loopTo h l .busy)) (eO h l):=by unfold aEd yM2;rfl
theorem RZ {x:Option (AV×XH)}:yM2 x (some .ready)=x:=rfl
def yE2 (l k:Nat) (x:DX) (h:XH):Option LSt→Option (AV×XH)
 | some .busy=>some (match x with
  | .normal=>gL true k (.bool true) (loopTo h l .ready)
  | x=>gL true k (.bool false) (loopTo h l (.done x)))
 | _=>none
theorem Qa {l:Nat} {x:DX}:aGu l k (some (x,e,h))=yE2 l k x h (eO h l):=by unfold aGu yE2;rfl
theorem Qb {l:Nat}:yE2 l k .normal h (some .busy)=some (gL true k (.bool true) (loopTo h l .ready)):=rfl
end
theorem Ql {g g' w w':Bool} {xs ys:List AV}:aCR (some (.blk g (.cells w xs))) (some (.blk g' (.cells w' ys)))=(w==w'&&eJ xs ys):=rfl
theorem Qm:eJ [] []=true:=rfl
theorem Qn {x y:AV} {xs ys:List AV}:eJ (x::xs) (y::ys)=(bU x y&&eJ xs ys):=rfl
theorem Qo {k:IntKind} {n:Int}:bU (.int k n) (.int k n)=true:=by simp[bU]
theorem Qp {b:Bool}:bU (.bool b) (.bool b)=true:=by cases b<;>rfl
theorem Qq {b o:Nat}:bU (.pt b o) (.pt b o)=true:=by simp[bU]
theorem Qr:((40:Nat):Int)=40:=rfl
theorem Qs:((45:Nat):Int)=45:=rfl
theorem Qt {k:IntKind} {a b:Int}:eF .andNot k a k b=some (.int k (iQ .andNot k a b)):=by simp[eF]
section
variable {run:bT} {runY:cO} {d:Option Nat} {e:aB} {h:XH} {ix:Nat} {r:List DOper} {m:Option (List (Nat×Nat))}
theorem QH {b n:Nat}:gI (.sb b n)=([b]:List Nat):=rfl
theorem QI {b n:Nat}:eY (.sb b n)=(false:Bool):=rfl
theorem QJ {s:Nat→Option Nat} {b n:Nat}:rnA s (.sb b n)=((match s b with|some c=>.sb c n|none=>.any):AV):=by simp only[rnA]<;>rfl
theorem QK {B:Nat} {C:List AV} {b n:Nat}:qU B C (.sb b n)=((.sb b n):AV):=rfl
theorem QL {b n:Nat}:cellsOf (.sb b n)=(some [(.sb b n)]:Option (List AV)):=rfl
theorem QM {b:Nat}:gI (.bp b)=([b]:List Nat):=rfl
theorem QN {s:Nat→Option Nat} {b:Nat}:rnA s (.bp b)=((match s b with|some c=>.bp c|none=>.any):AV):=by simp only[rnA]<;>rfl
theorem QO {b:Nat}:vK (.bp b)=([]:List Nat):=rfl
theorem QQ {B:Nat} {C:List AV} {b:Nat}:qU B C (.bp b)=((.bp b):AV):=rfl
theorem QR {b:Nat}:nP (.bp b)=((.bp b):AV):=rfl
theorem QS {p:AO}:xo m run runY (⟨ix,d,(DOp.strof p),none⟩::r) e h=kV m run runY r d e h (fN (aE h) (aG e p)):=nM rfl (by cases hs:fN (aE h) (aG e p)<;>simp[aA,mL,hs]) (fun _=>rfl) (fun _=>rfl) fun _ _=>rfl
theorem QT {H:Hp} {b o s n:Nat}:fN H (.sl b o s n)=jO (dZ 1 H (.sl b o s n)):=rfl
theorem QU {n:Nat} {cs:List AV}:jO (some (n,cs))=(fR cs).map fun l=>.str ⟨⟨l⟩⟩:=rfl
end
theorem aOR {p:Prop} (h:p):p:=h
theorem Pd {h:XH} {b j:Nat} {x:Option XB}:hat (h.set b x) j=if j=b then (if b<h.length then x else hat h j) else hat h j:=by
 rw[cY]
 by_cases h1:j=b
 ·by_cases h2:b<h.length
  ·rw[if_pos ⟨h1,h2⟩,if_pos h1,if_pos h2]
  ·rw[if_neg (fun hh=>h2 hh.2),if_pos h1,if_neg h2]
 ·rw[if_neg (fun hh=>h1 hh.1),if_neg h1]
theorem Pe {h k:XH} {j:Nat}:hat (h++k) j=if j<h.length then hat h j else hat k (j-h.length):=bO h k j
theorem Pf {h k:XH} {b:Nat} {x:Option XB}:(h++k).set b x=if b<h.length then h.set b x++k else h++k.set (b-h.length) x:=by
 rw[List.set_append]
theorem Pg {h k l:XH}:(h++k)++l=h++(k++l):=List.append_assoc h k l
theorem Ph {h:XH} {b:Nat} {x:Option XB}:(h.set b x).length=h.length:=List.length_set
theorem Pj {n:Nat}:(n<n)=False:=eq_false (Nat.lt_irrefl n)
theorem Pk {n k:Nat}:(n+k<n)=False:=eq_false (by omega)
theorem Pl {n:Nat}:n-n=0:=Nat.sub_self n
theorem Pm {n k:Nat}:n+k-n=k:=by omega
def kGm (h:XH):Option AV→Option (AV×XH)
 | some v=>some (v,h)
 | none=>none
theorem Pn {res:List (Nat×Option (Bool×Nat))} {e:aB} {h:XH}:aAm res (some (.normal,e,h))=kGm h (eL res e (aE h)):=by
 show (eL res e (aE h)).map (fun v=>(v,h))=_
 cases eL res e (aE h)<;>rfl
theorem Po {res:List (Nat×Option (Bool×Nat))} {e:aB} {h:XH}:aAm res (some (.ret,e,h))=kGm h (eL res e (aE h)):=by
 show (eL res e (aE h)).map (fun v=>(v,h))=_
 cases eL res e (aE h)<;>rfl
theorem Pp {h:XH} {v:AV}:kGm h (some v)=some (v,h):=rfl
variable {P:Program} {B:Base} {F:Nat→Prop} {w:World} {H:Hp} {env:aB} {a:Act}

theorem aAc {Fe:Fence} {n:Nat} {id:Nat} {ops:Array Oper} {Q:Exit→Act→List Frame→World→Prop} {cs:List Frame} {o:Oper} (ho:ops[0]?=some o)
 (hg:o.guard=none) (hab:∀ f,o.about P w a.eval=some f→Fe.fn f) (hr:(execOp a.eval o).run P w = .ok .recover w) (hro:Fe.round=none)
 (h:match recoverD cs with
  | some (v,cs')=>wpOpsIn Fe n P ops (fun e a w=>Q e a cs' w) (List.range' 1 (ops.size-1)) (a.put o.dst v) w
  | none=>wpOpsIn Fe n P ops (fun e a w=>Q e a cs w) (List.range' 1 (ops.size-1)) (a.put o.dst .nilIface) w) :
 (Code.region id ops false).wpSIn Fe n P Q a cs w:=by
 intro b k hb hrd hF hroom
 have hsz:0<ops.size:=(Array.getElem?_eq_some_iff.1 ho).1
 have hrange:List.range ops.size=0::List.range' 1 (ops.size-1):=by
  rw[List.range_eq_range']
  obtain⟨m,hm⟩:∃ m,ops.size=m+1:=⟨ops.size-1,by omega⟩
  rw[hm,List.range'_succ];simp
 have i0:(lone (b.atR a (.code (.region id ops false)::k)) cs w).fenced P Fe:=fenced_calm hF hroom rfl
 have s0:=stepR_region (P:=P) (b:=b) (a:=a) (k:=k) (cs:=cs) (w:=w) (id:=id) (ops:=ops)
 rw[hrange]at s0
 have hw:Region.wanted o (yielded ops a.tmps)=true:=by unfold Region.wanted;rw[hg]
 have h0:(lone (b.atR a (.inRegion ops (0::List.range' 1 (ops.size-1))::k)) cs w).fenced P Fe:=fenced_oper hF hroom ho hab
 have hgg:=stepGR_op (P:=P) (b:=b) (k:=k) (cs:=cs) (w:=w) (rest:=List.range' 1 (ops.size-1)) ho hw
 rw[hrd,Oper.semAt_none]at hgg
 have hfin:∀ v,(b.atR a (.inRegion ops (0::List.range' 1 (ops.size-1))::k)).finish v=b.atR (a.put o.dst v) (.inRegion ops (List.range' 1 (ops.size-1))::k):=by
  intro v;rw[Frame.finish_atR,ho];rfl
 have hk:(b.atR a (.inRegion ops (0::List.range' 1 (ops.size-1))::k)).kind = .deferred:=hb
 have htr:=tryRecover_deferred hk cs
 split at h
 ·rename_i v cs' hrec
  have hlen:=recoverD_length hrec
  obtain⟨e,a',w'',hq,harr⟩:=wp_opsIn _ _ _ h b k cs' (hrd.trans hro.symm) hF (by rw[hlen];exact hroom)
  refine⟨e,a',cs',w'',hlen,hq,.of_steps (.one i0 s0) (.of_steps (.one h0 (step_lone_go ?_)) harr)⟩
  rw[hgg,←hfin]
  simp only[Frame.atR,hrd]at htr ⊢
  simp[stepG.apply,hr,htr,hrec]
 ·rename_i hrec
  obtain⟨e,a',w'',hq,harr⟩:=wp_opsIn _ _ _ h b k cs (hrd.trans hro.symm) hF hroom
  refine⟨e,a',cs,w'',rfl,hq,.of_steps (.one i0 s0) (.of_steps (.one h0 (step_lone_go ?_)) harr)⟩
  rw[hgg,←hfin]
  simp only[Frame.atR,hrd]at htr ⊢
  simp[stepG.apply,hr,htr,hrec]

theorem qG {fn:Func} {tmps:Array Value} {n0:Nat} {F0:Nat→Prop} {w0:World} {H0:Hp} {R:Ending→World→Prop} {T:List Deferred} {u:FrameMode} {S:World→Prop} (hS:∀ w w',Up F w F w'→S w→S w') (hu:u ≠ .run) (hn0:w0.heap.size≤n0)
 (hT:∀ w,S w→Ext F0 w0 H0 F w H→St F w H→RE F w env { tmps:=tmps,defers:=[] }→LeavesInM Fence.wide 0 P fn tmps R T u w) :
 ∀ (ms:List Deferred) (w:World),S w→Ext F0 w0 H0 F w H→St F w H→RE F w env { tmps:=tmps,defers:=[] }→ms.Nodup→(∀ d∈ms,Mk1 n0 F H w d)→LeavesInM Fence.wide 0 P fn tmps R (ms++T) u w:=by
 intro ms
 induction ms with
 | nil=>intro w hs he st re _ _;exact hT w hs he st re
 | cons d ds ih =>
   intro w hs he st re hnd hm
   obtain⟨D,rfl,h2,h3,h4,h5⟩:=hm d (by simp)
   obtain⟨k1,k2,k3⟩:=qN (n0:=0) (x:=none) he st (Nat.le_trans hn0 h2) h3 h4 h5
   have hnd:=List.nodup_cons.1 hnd
   refine⟨hu,.inl ⟨D,_,rfl,run_takeDeferred h3,ih _ (hS _ _ k3 hs) k1 k2 (re.up k3) hnd.2 fun d' hd'=>?_⟩⟩
   obtain⟨D',rfl,l2,l3,l4,l5⟩:=hm d' (by simp[hd'])
   refine⟨D',rfl,l2,?_,l4,l5⟩
   rw[World.putObj_heap_other fun e=>hnd.1 (by rw[←e];exact hd')]
   exact l3
section
variable {P:Program} {D:Nat→Option XFn} {d:XFn} {K k:Nat} {e:aB} {h:XH}

def PanX (P:Program) (D:Nat→Option XFn) (d:XFn) (k:Nat) (c:XCode) (e:aB) (h:XH) (v:AV) (e':aB) (h':XH):Prop :=
 lB c=true→eA d c→∀ (B:Base) (Y:Nat→Option YI) (r:Nat→Option Nat) (env:aB) (H:Hp) (Q:QP),YOk P B D Y→SR D Y r e h env H→aNM D Y k r v e' h' Q→WPD B P none d.N c.erase Q env H
def CalP (P:Program) (D:Nat→Option XFn) (g:Nat) (all:List AV) (h:XH) (v:AV) (h':XH):Prop :=
 ∀ (B:Base) (Y:Nat→Option YI) (r:Nat→Option Nat) (H:Hp) (all':List AV),YOk P B D Y→SH D Y r h H→RnL D Y r all all'→FnP B P g all' H (cS D Y r v h')

def tV (L:List Nat) (r:Option (DX×aB×XH)):Option (DX×List AV×XH):=r.map fun q=>(q.1,L.map q.2.1,q.2.2)
theorem SR.cut {Y:Nat→Option YI} {r:Nat→Option Nat} {env:aB} {H:Hp} (sr:SR D Y r e h env H) (L:List Nat):SR D Y r (dV L (L.map e)) h env H:=⟨sr.sh,fun j=>by
 rcases zG e L j with h1|h1
 ·rw[h1];exact sr.re j
 ·rw[h1];exact .any _⟩

theorem uS (ok:XOk P D) (hD:D K=some d) {code:XCode} {x:DX} {e':aB} {h':XH} (hx:execW D K k none code e h=some (x,e',h')) {B:Base} {Y:Nat→Option YI} {r:Nat→Option Nat} {env:aB} {H:Hp} {Q:QC}
 (hY:YOk P B D Y) (hok:lB code=true) (hs:eA d code) (sr:SR D Y r e h env H) (hK:∀ r' env' H',Agree k r r'→SR D Y r' e' h' env' H'→Q x env' H'):WD B P none d.N code.erase Q env H:=by
 obtain⟨n,hn⟩:=aO.1 hx
 exact dU hD ok.mixed (fun B Y hY=>lH ok n B Y hY) k n none none code B Y r e h env H x e' h' Q hY hok hs rfl sr hn hK

theorem PanX.block {id:Nat} {a:XCode} {v:AV} {e':aB} {h':XH} (ha:PanX P D d k a e h v e' h'):PanX P D d k (.block id a) e h v e' h' :=
 fun hok hs B Y r env H Q hY sr hK=>WPD.block (ha (by simpa [lB]using hok) hs B Y r env H Q hY sr hK)
theorem PanX.loop (ok:XOk P D) (hD:D K=some d) {L:List Nat} {a:XCode} {v:AV} {e':aB} {h':XH} (n:Nat) (S:Nat→List AV) (G:Nat→XH) (h0:cG k L (some (.normal,e,h))=some (S 0,G 0))
 (hs:∀ i,i<n→cG k L (execW D K k none a (dV L (S i)) (G i))=some (S (i+1),G (i+1))) (hp:PanX P D d k a (dV L (S n)) (G n) v e' h'):PanX P D d k (.loop L a) e h v e' h':=by
 intro hok hst B Y r env H Q hY sr hK
 have key:∀ (m i:Nat) (e:aB) (h:XH) (r1:Nat→Option Nat) (env1:aB) (H1:Hp),m+i=n→cG k L (some (.normal,e,h))=some (S i,G i)→Agree k r r1→SR D Y r1 e h env1 H1→aDZ B P none d.N a.erase Q m env1 H1:=by
  intro m
  induction m with
  | zero =>
    intro i e h r1 env1 H1 hi h0 ha sr1
    have:i=n:=by omega
    subst this
    simp only[cG,oSI,Prod.mk.injEq]at h0
    obtain⟨r2,ha2,sr2⟩:=iH sr1 k L
    have e1:kA k L e h=dV L (S i):=by rw[←h0.1];rfl
    rw[e1,h0.2]at sr2
    exact hp (by simpa [lB]using hok) hst B Y r2 env1 H1 Q hY sr2 fun r3 v3 env3 H3 ha3 sr3 hv3=>hK r3 v3 env3 H3 ((ha.trans ha2).trans ha3) sr3 hv3
  | succ m ih =>
    intro i e h r1 env1 H1 hi h0 ha sr1
    simp only[cG,oSI,Prod.mk.injEq]at h0
    obtain⟨r2,ha2,sr2⟩:=iH sr1 k L
    have e1:kA k L e h=dV L (S i):=by rw[←h0.1];rfl
    rw[e1,h0.2]at sr2
    have hx:=hs i (by omega)
    cases hq:execW D K k none a (dV L (S i)) (G i)with
    | none=>rw[hq]at hx;simp[cG]at hx
    | some q =>
      obtain⟨x,e3,h3⟩:=q
      rw[hq]at hx
      cases x with
      | normal=>exact uS ok hD hq hY (by simpa [lB]using hok) hst sr2 fun r3 env3 H3 ha3 sr3=>⟨rfl,ih (i+1) e3 h3 r3 env3 H3 (by omega) hx ((ha.trans ha2).trans ha3) sr3⟩
      | exit id=>simp[cG]at hx
      | ret=>simp[cG]at hx
 exact WPD.loop (key n 0 e h r env H (by omega) h0 (Agree.refl _ _) sr)

theorem aOs {B:Base} {Y:Nat→Option YI} {run:bT} {runY:cO} (hf:FnS P B D Y run) (hy:YS P B D Y runY):∀ (p rest:List DOper) (r:Nat→Option Nat) (e:aB) (h:XH) (env:aB) (H:Hp) (e1:aB) (h1:XH) (Q:QP),lU p=true→SR D Y r e h env H →
 cZ run runY p e h=some (e1,h1)→(∀ r' env' H',Sub r r'→SR D Y r' e1 h1 env' H'→RSP B P rest Q env' H')→RSP B P (p++rest) Q env H:=by
 intro p
 induction p with
 | nil =>
   intro rest r e h env H e1 h1 Q _ sr hx hK
   simp only[cZ,oSI,Prod.mk.injEq]at hx
   obtain⟨rfl,rfl⟩:=hx
   exact hK r env H (Sub.refl r) sr
 | cons o p ih =>
   intro rest r e h env H e1 h1 Q hok sr hx hK
   simp only[lU,List.all_cons,Bool.and_eq_true]at hok
   simp only[cZ]at hx
   refine .inr ?_
   split at hx
   ·rename_i hg
    simp only[Option.bind_eq_some_iff]at hx
    obtain⟨s,hx1,hx2⟩:=hx
    simp only[opW,sK sr hg]
    exact dC hf hy sr hok.1 (e':=s.1) (h':=s.2) hx1 fun r' env' H' hs sr'=>ih rest r' s.1 s.2 env' H' e1 h1 Q hok.2 sr' hx2 fun r2 env2 H2 hs2 sr2=>hK r2 env2 H2 (hs.trans hs2) sr2
   ·rename_i hg
    simp only[opW,sK sr hg]
    exact ih rest r _ h _ H e1 h1 Q hok.2 (sr.put (Sub.refl r) sr.sh (.tup [] [] rfl (by simp)) o.dst) hx hK
   ·simp at hx
def atX (f:AO) (xs:List AO) (L:List Nat) (r:Option (aB×XH)):Option (AV×List AV×List AV×XH):=r.map fun s=>(aG s.1 f,xs.map (aG s.1),L.map s.1,s.2)
theorem aOI {B:Base} {Y:Nat→Option YI} {r:Nat→Option Nat} {env:aB} {H:Hp} (sr:SR D Y r e h env H) (hY:YOk P B D Y) {ix:Nat} {dst:Option Nat} {f:AO} {xs:List AO} {l:List Nat} (hok:eE (.callf false f xs l)=true) (hm:rX f=true)
 {g:Nat} {first cap:List AV} (hf:aG e f = .fn (.func g) first cap) {v:AV} {h':XH} (hp:CalP P D g (first++xs.map (aG e)++cap) h v h') {Q:QP} (L:List Nat) (hK:aKK D Y r v (dV L (L.map e)) h' Q):opP B P ⟨ix,dst,.callf false f xs l,none⟩ Q env H:=by
 refine⟨rfl,fun tab k hh=>by subst hh;simp[rX]at hm,?_⟩
 simp only[eE,Bool.and_eq_true]at hok
 have h1:=aJ sr.re (x:=f) hok.1
 rw[hf]at h1
 cases hv:aG env f<;>rw[hv]at h1<;>cases h1
 rename_i first' cap' hf0 hl1 k1 hl2 k2
 show FnP B P g (first'++xs.map (aG env)++cap') H _
 refine FnP.mono ?_ (hp B Y r H _ hY sr.sh (RnL.append (RnL.append ⟨hl1,k1⟩ (mO sr.re hok.2)) ⟨hl2,k2⟩))
 rintro v' H' ⟨r',q1,q2,q3⟩
 exact hK r' v' env H' q1 ⟨q2,fun j=>((sr.cut L).re j).mono q1⟩ q3
theorem PanX.reg (ok:XOk P D) {fz:List (Nat×Bool)} {p post:List DOper} {ix:Nat} {dst:Option Nat} {f:AO} {xs:List AO} {l:List Nat} (L:List Nat) {g:Nat} {first cap args vs:List AV} {h1 h':XH} {v:AV} (hm:rX f=true)
 (hcm:(p++⟨ix,dst,.callf false f xs l,none⟩::post).any (fun o=>o.op.isComm)=false) (hx:atX f xs L (xo none (runW D) (runYW D) p (yZ fz e h).1 (yZ fz e h).2)=some (.fn (.func g) first cap,args,vs,h1))
 (hp:CalP P D g (first++args++cap) h1 v h'):PanX P D d k (.reg fz false (p++⟨ix,dst,.callf false f xs l,none⟩::post)) e h v (dV L vs) h':=by
 intro hok hs B Y r env H Q hY sr hK
 simp only[lB]at hok
 obtain⟨env1,H1,k1,k2⟩:=tT sr fz
 refine WPD.shift k1 (WPD.reg (fun o ho=>?_) ?_)
 ·rw[List.any_eq_false]at hcm
  simpa using hcm o ho
 ·unfold atX at hx
  rw[Option.map_eq_some_iff]at hx
  obtain⟨⟨e2,h2⟩,hx,he⟩:=hx
  simp only[Prod.mk.injEq]at he
  obtain⟨q1,rfl,rfl,rfl⟩:=he
  have hx:cZ (runW D) (runYW D) p (yZ fz e h).1 (yZ fz e h).2=some (e2,h2):=hx
  obtain⟨n,hn⟩:=aCC.1 hx
  simp only[lU,List.all_append,List.all_cons,Bool.and_eq_true]at hok
  obtain⟨s1,s2⟩:=lH ok n B Y hY
  refine aOs s1 s2 p _ r _ _ env1 H1 e2 h2 Q hok.1 k2 hn fun r' env' H' hs sr'=>.inl (aOI sr' hY hok.2.1 hm q1 hp L fun r2 v2 env2 H2 hs2 sr2 hv2=>hK r2 v2 env2 H2 ((hs.trans hs2).agree k) sr2 hv2)
theorem CalP.of (ok:XOk P D) (hD:D K=some d) {as:List AV} {v:AV} {e':aB} {h':XH} (hl:as.length≤d.N) (hdf:d.dfr=none) (hp:PanX P D d h.length d.body (aW (if d.ownA then as else nJ as)) h v e' h') (hpr:d.prm=none:=by rfl):CalP P D K as h v h':=by
 intro B Y r H as' hY sh hA
 have main:∀ (as1 as1':List AV),RnL D Y r as1 as1'→as1.length≤d.N→PanX P D d h.length d.body (aW as1) h v e' h'→FnP B P K as1' H (cS D Y r v h'):=by
  intro as1 as1' hA1 hN1 hp
  refine FnP.of (ok.is K d hD hpr) (by rw[←hA1.1];exact hN1) hdf ?_
  refine hp (ok.body hD) (ok.sites K d hD) B Y r (aW as1') H _ hY ⟨sh,fX hA1⟩ ?_
  intro r1 v1 env1 H1 ha1 sr1 hv1
  exact⟨r1,fun b c hb=>ha1 b c (sh.dom b c hb) hb,sr1.sh,hv1⟩
 cases hown:d.ownA with
 | true =>
   rw[hown]at hp
   simp only[if_true]at hp
   exact main as as' hA hl hp
 | false =>
   rw[hown]at hp
   simp only[Bool.false_eq_true,if_false]at hp
   exact FnP.nz (main _ _ hA.nz (by rw[eV];simpa using hl) hp)
end
end Go.DL
namespace Go.DL
set_option maxRecDepth 100000
theorem rs0:(0:Nat).succ.pred.succ=(1:Nat):=rfl
theorem RS0 {p:Prop} (h:p:=by (sym=>(simp[Za,Zb,Zc,Zd,Ze,Zf,Zg,Zh,Zi,Zj,Zk,Zl,Zm,Zn,Zo,Zp,Zq,Zr,Zs,Zt,Zu,Zv,Zw,Zx,Zy,Zz,Z0,Z8,Z9,ZA,ZB,ZC,ZD,ZF,ZG,ZH,ZI,ZJ,ZK,ZL,ZM,ZN,ZO,ZP,ZQ,ZR,ZS,ZT,ZU,ZV,ZW,ZX,ZY,ZZ,Ya,Yb,Yc,Ye,Yf,Yg,Yh,Yi,Yj,Yk,Yl,Ym,Yn,Yo,Yp,Yr,Ys,Yt,Yu,Yv,Yw,Yx,Yy,Yz,Y4,Y5,Y6,Y7,Y8,Y9,YA,YB,YC,YD,YE,YF,YG,YH,YJ,YK,YM,YN,YO,YP,YR,YT,YU,YV,YX,YY,YZ,Xa,Xb,Xc,Xd,Xe,Xf,Xg,Xh,Xi,Xj,Xk,Xl,Xm,Xn,Xo,Xp,Xq,Xr,Xs,Xt,Xu,Xv,Xw,Xx,Xy,Xz,XI,XJ,XK,XL,XM,XN,XO,XW,XY,XZ,Wa,Wb,Wc,We,Wf,Wg,Wh,Wi,Wj,Wk,Wl,Wm,Wn,Wo,Wp,Wq,Wr,Wt,Wu,Wv,Ww,Wx,Wy,Wz,WB,WC,WE,WF,WG,WH,WI,WJ,WK,WL,WM,WO,WP,WQ,WR,WS,WT,WU,WV,WW,WX,Va,Vb,Vc,Vd,Ve,Vf,Vg,Vh,Vj,Vk,Vl,Vm,Vn,Vo,Vp,Vq,Vr,Vs,Vt,Vu,Vv,Vw,Vx,Vy,Vz,V0,V4,V5,V6,V7,V8,V9,VA,VB,VC,VD,VE,VF,VG,VH,VI,VJ,VK,VL,VM,VN,VO,VP,VQ,VR,VS,VT,VU,VV,VW,VX,VY,VZ,Ua,Ub,Uc,Ud,Ue,Uf,Ug,Uh,Ui,Uj,Uk,Ul,Um,Un,Uo,Ur,Us,Ut,Uu,Uv,Uw,Ux,Uy,Uz,U0,U1,U2,U3,U4,U5,U6,U7,U8,U9,UA,UB,UC,UD,UE,UF,UG,UH,UI,UJ,UK,UL,UM,UN,UO,UP,UQ,UR,US,UT,UU,UV,UW,UX,UY,UZ,Ta,Tb,Tc,Td,Te,Tf,Tg,Th,Ti,Tj,Tl,Tm,Tn,Tp,Tq,Tr,Ts,Tt,Tu,Tv,Tw,Tx,Ty,Tz,T0,T1,T2,T3,T4,T5,T6,T7,T8,T9,TA,TB,TC,TD,TE,TF,TG,TH,TI,TJ,TK,TL,TM,TN,TO,TP,TQ,TR,TS,TT,TU,TV,TW,TX,TY,TZ,Sa,Sc,Sd,Se,Sf,Sg,Si,Sj,Sk,Sl,Sm,Sn,Sp,Sq,Sr,Ss,Su,Sv,Sw,Sx,Sy,Sz,S9,SA,SB,SC,SD,SE,SF,SG,SI,SJ,SK,SL,SM,SN,SO,SP,SQ,SS,SU,SV,SW,SX,SY,SZ,Ra,Rb,Rc,Rd,Re,Rf,Rg,Rh,Ri,Rj,Rk,Rl,Rm,Ro,Rp,Rq,Rr,Rs,Rt,Ru,Rw,Rx,Ry,Rz,RA,RC,RF,RG,RH,RI,RJ,RK,RM,RN,RO,RP,RQ,RR,RU,RV,RW,RX,RY,RZ,Qa,Qb,Qd,Qe,Qf,Qg,Qh,Qi,Qj,Qk,Ql,Qm,Qn,Qo,Qp,Qq,Qr,Qs,Qt,Qu,Qw,Qx,Qy,Qz,Q0,QA,QB,QD,QE,QF,QG,QH,QI,QJ,QK,QL,QM,QN,QO,QQ,QR,QS,QT,QU,QV,QW,QX,QY,QZ,Pa,Pb,Pc,Pd,Pe,Pf,Pg,Ph,Pj,Pk,Pl,Pm,Pn,Po,Pp];all_goals tactic=>exact rfl))):p:=h
theorem wC {q0 p:Prop} (x0:q0) (h:q0→p:=by intro x0; (sym=>(simp[x0,Za,Zb,Zc,Zd,Ze,Zf,Zg,Zh,Zi,Zj,Zk,Zl,Zm,Zn,Zo,Zp,Zq,Zr,Zs,Zt,Zu,Zv,Zw,Zx,Zy,Zz,Z0,Z8,Z9,ZA,ZB,ZC,ZD,ZF,ZG,ZH,ZI,ZJ,ZK,ZL,ZM,ZN,ZO,ZP,ZQ,ZR,ZS,ZT,ZU,ZV,ZW,ZX,ZY,ZZ,Ya,Yb,Yc,Ye,Yf,Yg,Yh,Yi,Yj,Yk,Yl,Ym,Yn,Yo,Yp,Yr,Ys,Yt,Yu,Yv,Yw,Yx,Yy,Yz,Y4,Y5,Y6,Y7,Y8,Y9,YA,YB,YC,YD,YE,YF,YG,YH,YJ,YK,YM,YN,YO,YP,YR,YT,YU,YV,YX,YY,YZ,Xa,Xb,Xc,Xd,Xe,Xf,Xg,Xh,Xi,Xj,Xk,Xl,Xm,Xn,Xo,Xp,Xq,Xr,Xs,Xt,Xu,Xv,Xw,Xx,Xy,Xz,XI,XJ,XK,XL,XM,XN,XO,XW,XY,XZ,Wa,Wb,Wc,We,Wf,Wg,Wh,Wi,Wj,Wk,Wl,Wm,Wn,Wo,Wp,Wq,Wr,Wt,Wu,Wv,Ww,Wx,Wy,Wz,WB,WC,WE,WF,WG,WH,WI,WJ,WK,WL,WM,WO,WP,WQ,WR,WS,WT,WU,WV,WW,WX,Va,Vb,Vc,Vd,Ve,Vf,Vg,Vh,Vj,Vk,Vl,Vm,Vn,Vo,Vp,Vq,Vr,Vs,Vt,Vu,Vv,Vw,Vx,Vy,Vz,V0,V4,V5,V6,V7,V8,V9,VA,VB,VC,VD,VE,VF,VG,VH,VI,VJ,VK,VL,VM,VN,VO,VP,VQ,VR,VS,VT,VU,VV,VW,VX,VY,VZ,Ua,Ub,Uc,Ud,Ue,Uf,Ug,Uh,Ui,Uj,Uk,Ul,Um,Un,Uo,Ur,Us,Ut,Uu,Uv,Uw,Ux,Uy,Uz,U0,U1,U2,U3,U4,U5,U6,U7,U8,U9,UA,UB,UC,UD,UE,UF,UG,UH,UI,UJ,UK,UL,UM,UN,UO,UP,UQ,UR,US,UT,UU,UV,UW,UX,UY,UZ,Ta,Tb,Tc,Td,Te,Tf,Tg,Th,Ti,Tj,Tl,Tm,Tn,Tp,Tq,Tr,Ts,Tt,Tu,Tv,Tw,Tx,Ty,Tz,T0,T1,T2,T3,T4,T5,T6,T7,T8,T9,TA,TB,TC,TD,TE,TF,TG,TH,TI,TJ,TK,TL,TM,TN,TO,TP,TQ,TR,TS,TT,TU,TV,TW,TX,TY,TZ,Sa,Sc,Sd,Se,Sf,Sg,Si,Sj,Sk,Sl,Sm,Sn,Sp,Sq,Sr,Ss,Su,Sv,Sw,Sx,Sy,Sz,S9,SA,SB,SC,SD,SE,SF,SG,SI,SJ,SK,SL,SM,SN,SO,SP,SQ,SS,SU,SV,SW,SX,SY,SZ,Ra,Rb,Rc,Rd,Re,Rf,Rg,Rh,Ri,Rj,Rk,Rl,Rm,Ro,Rp,Rq,Rr,Rs,Rt,Ru,Rw,Rx,Ry,Rz,RA,RC,RF,RG,RH,RI,RJ,RK,RM,RN,RO,RP,RQ,RR,RU,RV,RW,RX,RY,RZ,Qa,Qb,Qd,Qe,Qf,Qg,Qh,Qi,Qj,Qk,Ql,Qm,Qn,Qo,Qp,Qq,Qr,Qs,Qt,Qu,Qw,Qx,Qy,Qz,Q0,QA,QB,QD,QE,QF,QG,QH,QI,QJ,QK,QL,QM,QN,QO,QQ,QR,QS,QT,QU,QV,QW,QX,QY,QZ,Pa,Pb,Pc,Pd,Pe,Pf,Pg,Ph,Pj,Pk,Pl,Pm,Pn,Po,Pp];all_goals tactic=>exact rfl))):p:=h x0
theorem RS2 {q0 q1 p:Prop} (x0:q0) (x1:q1) (h:q0→q1→p:=by intro x0 x1; (sym=>(simp[x0,x1,Za,Zb,Zc,Zd,Ze,Zf,Zg,Zh,Zi,Zj,Zk,Zl,Zm,Zn,Zo,Zp,Zq,Zr,Zs,Zt,Zu,Zv,Zw,Zx,Zy,Zz,Z0,Z8,Z9,ZA,ZB,ZC,ZD,ZF,ZG,ZH,ZI,ZJ,ZK,ZL,ZM,ZN,ZO,ZP,ZQ,ZR,ZS,ZT,ZU,ZV,ZW,ZX,ZY,ZZ,Ya,Yb,Yc,Ye,Yf,Yg,Yh,Yi,Yj,Yk,Yl,Ym,Yn,Yo,Yp,Yr,Ys,Yt,Yu,Yv,Yw,Yx,Yy,Yz,Y4,Y5,Y6,Y7,Y8,Y9,YA,YB,YC,YD,YE,YF,YG,YH,YJ,YK,YM,YN,YO,YP,YR,YT,YU,YV,YX,YY,YZ,Xa,Xb,Xc,Xd,Xe,Xf,Xg,Xh,Xi,Xj,Xk,Xl,Xm,Xn,Xo,Xp,Xq,Xr,Xs,Xt,Xu,Xv,Xw,Xx,Xy,Xz,XI,XJ,XK,XL,XM,XN,XO,XW,XY,XZ,Wa,Wb,Wc,We,Wf,Wg,Wh,Wi,Wj,Wk,Wl,Wm,Wn,Wo,Wp,Wq,Wr,Wt,Wu,Wv,Ww,Wx,Wy,Wz,WB,WC,WE,WF,WG,WH,WI,WJ,WK,WL,WM,WO,WP,WQ,WR,WS,WT,WU,WV,WW,WX,Va,Vb,Vc,Vd,Ve,Vf,Vg,Vh,Vj,Vk,Vl,Vm,Vn,Vo,Vp,Vq,Vr,Vs,Vt,Vu,Vv,Vw,Vx,Vy,Vz,V0,V4,V5,V6,V7,V8,V9,VA,VB,VC,VD,VE,VF,VG,VH,VI,VJ,VK,VL,VM,VN,VO,VP,VQ,VR,VS,VT,VU,VV,VW,VX,VY,VZ,Ua,Ub,Uc,Ud,Ue,Uf,Ug,Uh,Ui,Uj,Uk,Ul,Um,Un,Uo,Ur,Us,Ut,Uu,Uv,Uw,Ux,Uy,Uz,U0,U1,U2,U3,U4,U5,U6,U7,U8,U9,UA,UB,UC,UD,UE,UF,UG,UH,UI,UJ,UK,UL,UM,UN,UO,UP,UQ,UR,US,UT,UU,UV,UW,UX,UY,UZ,Ta,Tb,Tc,Td,Te,Tf,Tg,Th,Ti,Tj,Tl,Tm,Tn,Tp,Tq,Tr,Ts,Tt,Tu,Tv,Tw,Tx,Ty,Tz,T0,T1,T2,T3,T4,T5,T6,T7,T8,T9,TA,TB,TC,TD,TE,TF,TG,TH,TI,TJ,TK,TL,TM,TN,TO,TP,TQ,TR,TS,TT,TU,TV,TW,TX,TY,TZ,Sa,Sc,Sd,Se,Sf,Sg,Si,Sj,Sk,Sl,Sm,Sn,Sp,Sq,Sr,Ss,Su,Sv,Sw,Sx,Sy,Sz,S9,SA,SB,SC,SD,SE,SF,SG,SI,SJ,SK,SL,SM,SN,SO,SP,SQ,SS,SU,SV,SW,SX,SY,SZ,Ra,Rb,Rc,Rd,Re,Rf,Rg,Rh,Ri,Rj,Rk,Rl,Rm,Ro,Rp,Rq,Rr,Rs,Rt,Ru,Rw,Rx,Ry,Rz,RA,RC,RF,RG,RH,RI,RJ,RK,RM,RN,RO,RP,RQ,RR,RU,RV,RW,RX,RY,RZ,Qa,Qb,Qd,Qe,Qf,Qg,Qh,Qi,Qj,Qk,Ql,Qm,Qn,Qo,Qp,Qq,Qr,Qs,Qt,Qu,Qw,Qx,Qy,Qz,Q0,QA,QB,QD,QE,QF,QG,QH,QI,QJ,QK,QL,QM,QN,QO,QQ,QR,QS,QT,QU,QV,QW,QX,QY,QZ,Pa,Pb,Pc,Pd,Pe,Pf,Pg,Ph,Pj,Pk,Pl,Pm,Pn,Po,Pp];all_goals tactic=>exact rfl))):p:=h x0 x1
theorem RS3 {q0 q1 q2 p:Prop} (x0:q0) (x1:q1) (x2:q2) (h:q0→q1→q2→p:=by intro x0 x1 x2; (sym=>(simp[x0,x1,x2,Za,Zb,Zc,Zd,Ze,Zf,Zg,Zh,Zi,Zj,Zk,Zl,Zm,Zn,Zo,Zp,Zq,Zr,Zs,Zt,Zu,Zv,Zw,Zx,Zy,Zz,Z0,Z8,Z9,ZA,ZB,ZC,ZD,ZF,ZG,ZH,ZI,ZJ,ZK,ZL,ZM,ZN,ZO,ZP,ZQ,ZR,ZS,ZT,ZU,ZV,ZW,ZX,ZY,ZZ,Ya,Yb,Yc,Ye,Yf,Yg,Yh,Yi,Yj,Yk,Yl,Ym,Yn,Yo,Yp,Yr,Ys,Yt,Yu,Yv,Yw,Yx,Yy,Yz,Y4,Y5,Y6,Y7,Y8,Y9,YA,YB,YC,YD,YE,YF,YG,YH,YJ,YK,YM,YN,YO,YP,YR,YT,YU,YV,YX,YY,YZ,Xa,Xb,Xc,Xd,Xe,Xf,Xg,Xh,Xi,Xj,Xk,Xl,Xm,Xn,Xo,Xp,Xq,Xr,Xs,Xt,Xu,Xv,Xw,Xx,Xy,Xz,XI,XJ,XK,XL,XM,XN,XO,XW,XY,XZ,Wa,Wb,Wc,We,Wf,Wg,Wh,Wi,Wj,Wk,Wl,Wm,Wn,Wo,Wp,Wq,Wr,Wt,Wu,Wv,Ww,Wx,Wy,Wz,WB,WC,WE,WF,WG,WH,WI,WJ,WK,WL,WM,WO,WP,WQ,WR,WS,WT,WU,WV,WW,WX,Va,Vb,Vc,Vd,Ve,Vf,Vg,Vh,Vj,Vk,Vl,Vm,Vn,Vo,Vp,Vq,Vr,Vs,Vt,Vu,Vv,Vw,Vx,Vy,Vz,V0,V4,V5,V6,V7,V8,V9,VA,VB,VC,VD,VE,VF,VG,VH,VI,VJ,VK,VL,VM,VN,VO,VP,VQ,VR,VS,VT,VU,VV,VW,VX,VY,VZ,Ua,Ub,Uc,Ud,Ue,Uf,Ug,Uh,Ui,Uj,Uk,Ul,Um,Un,Uo,Ur,Us,Ut,Uu,Uv,Uw,Ux,Uy,Uz,U0,U1,U2,U3,U4,U5,U6,U7,U8,U9,UA,UB,UC,UD,UE,UF,UG,UH,UI,UJ,UK,UL,UM,UN,UO,UP,UQ,UR,US,UT,UU,UV,UW,UX,UY,UZ,Ta,Tb,Tc,Td,Te,Tf,Tg,Th,Ti,Tj,Tl,Tm,Tn,Tp,Tq,Tr,Ts,Tt,Tu,Tv,Tw,Tx,Ty,Tz,T0,T1,T2,T3,T4,T5,T6,T7,T8,T9,TA,TB,TC,TD,TE,TF,TG,TH,TI,TJ,TK,TL,TM,TN,TO,TP,TQ,TR,TS,TT,TU,TV,TW,TX,TY,TZ,Sa,Sc,Sd,Se,Sf,Sg,Si,Sj,Sk,Sl,Sm,Sn,Sp,Sq,Sr,Ss,Su,Sv,Sw,Sx,Sy,Sz,S9,SA,SB,SC,SD,SE,SF,SG,SI,SJ,SK,SL,SM,SN,SO,SP,SQ,SS,SU,SV,SW,SX,SY,SZ,Ra,Rb,Rc,Rd,Re,Rf,Rg,Rh,Ri,Rj,Rk,Rl,Rm,Ro,Rp,Rq,Rr,Rs,Rt,Ru,Rw,Rx,Ry,Rz,RA,RC,RF,RG,RH,RI,RJ,RK,RM,RN,RO,RP,RQ,RR,RU,RV,RW,RX,RY,RZ,Qa,Qb,Qd,Qe,Qf,Qg,Qh,Qi,Qj,Qk,Ql,Qm,Qn,Qo,Qp,Qq,Qr,Qs,Qt,Qu,Qw,Qx,Qy,Qz,Q0,QA,QB,QD,QE,QF,QG,QH,QI,QJ,QK,QL,QM,QN,QO,QQ,QR,QS,QT,QU,QV,QW,QX,QY,QZ,Pa,Pb,Pc,Pd,Pe,Pf,Pg,Ph,Pj,Pk,Pl,Pm,Pn,Po,Pp];all_goals tactic=>exact rfl))):p:=h x0 x1 x2
theorem RS4 {q0 q1 q2 q3 p:Prop} (x0:q0) (x1:q1) (x2:q2) (x3:q3) (h:q0→q1→q2→q3→p:=by intro x0 x1 x2 x3; (sym=>(simp[x0,x1,x2,x3,Za,Zb,Zc,Zd,Ze,Zf,Zg,Zh,Zi,Zj,Zk,Zl,Zm,Zn,Zo,Zp,Zq,Zr,Zs,Zt,Zu,Zv,Zw,Zx,Zy,Zz,Z0,Z8,Z9,ZA,ZB,ZC,ZD,ZF,ZG,ZH,ZI,ZJ,ZK,ZL,ZM,ZN,ZO,ZP,ZQ,ZR,ZS,ZT,ZU,ZV,ZW,ZX,ZY,ZZ,Ya,Yb,Yc,Ye,Yf,Yg,Yh,Yi,Yj,Yk,Yl,Ym,Yn,Yo,Yp,Yr,Ys,Yt,Yu,Yv,Yw,Yx,Yy,Yz,Y4,Y5,Y6,Y7,Y8,Y9,YA,YB,YC,YD,YE,YF,YG,YH,YJ,YK,YM,YN,YO,YP,YR,YT,YU,YV,YX,YY,YZ,Xa,Xb,Xc,Xd,Xe,Xf,Xg,Xh,Xi,Xj,Xk,Xl,Xm,Xn,Xo,Xp,Xq,Xr,Xs,Xt,Xu,Xv,Xw,Xx,Xy,Xz,XI,XJ,XK,XL,XM,XN,XO,XW,XY,XZ,Wa,Wb,Wc,We,Wf,Wg,Wh,Wi,Wj,Wk,Wl,Wm,Wn,Wo,Wp,Wq,Wr,Wt,Wu,Wv,Ww,Wx,Wy,Wz,WB,WC,WE,WF,WG,WH,WI,WJ,WK,WL,WM,WO,WP,WQ,WR,WS,WT,WU,WV,WW,WX,Va,Vb,Vc,Vd,Ve,Vf,Vg,Vh,Vj,Vk,Vl,Vm,Vn,Vo,Vp,Vq,Vr,Vs,Vt,Vu,Vv,Vw,Vx,Vy,Vz,V0,V4,V5,V6,V7,V8,V9,VA,VB,VC,VD,VE,VF,VG,VH,VI,VJ,VK,VL,VM,VN,VO,VP,VQ,VR,VS,VT,VU,VV,VW,VX,VY,VZ,Ua,Ub,Uc,Ud,Ue,Uf,Ug,Uh,Ui,Uj,Uk,Ul,Um,Un,Uo,Ur,Us,Ut,Uu,Uv,Uw,Ux,Uy,Uz,U0,U1,U2,U3,U4,U5,U6,U7,U8,U9,UA,UB,UC,UD,UE,UF,UG,UH,UI,UJ,UK,UL,UM,UN,UO,UP,UQ,UR,US,UT,UU,UV,UW,UX,UY,UZ,Ta,Tb,Tc,Td,Te,Tf,Tg,Th,Ti,Tj,Tl,Tm,Tn,Tp,Tq,Tr,Ts,Tt,Tu,Tv,Tw,Tx,Ty,Tz,T0,T1,T2,T3,T4,T5,T6,T7,T8,T9,TA,TB,TC,TD,TE,TF,TG,TH,TI,TJ,TK,TL,TM,TN,TO,TP,TQ,TR,TS,TT,TU,TV,TW,TX,TY,TZ,Sa,Sc,Sd,Se,Sf,Sg,Si,Sj,Sk,Sl,Sm,Sn,Sp,Sq,Sr,Ss,Su,Sv,Sw,Sx,Sy,Sz,S9,SA,SB,SC,SD,SE,SF,SG,SI,SJ,SK,SL,SM,SN,SO,SP,SQ,SS,SU,SV,SW,SX,SY,SZ,Ra,Rb,Rc,Rd,Re,Rf,Rg,Rh,Ri,Rj,Rk,Rl,Rm,Ro,Rp,Rq,Rr,Rs,Rt,Ru,Rw,Rx,Ry,Rz,RA,RC,RF,RG,RH,RI,RJ,RK,RM,RN,RO,RP,RQ,RR,RU,RV,RW,RX,RY,RZ,Qa,Qb,Qd,Qe,Qf,Qg,Qh,Qi,Qj,Qk,Ql,Qm,Qn,Qo,Qp,Qq,Qr,Qs,Qt,Qu,Qw,Qx,Qy,Qz,Q0,QA,QB,QD,QE,QF,QG,QH,QI,QJ,QK,QL,QM,QN,QO,QQ,QR,QS,QT,QU,QV,QW,QX,QY,QZ,Pa,Pb,Pc,Pd,Pe,Pf,Pg,Ph,Pj,Pk,Pl,Pm,Pn,Po,Pp];all_goals tactic=>exact rfl))):p:=h x0 x1 x2 x3
theorem RS5 {q0 q1 q2 q3 q4 p:Prop} (x0:q0) (x1:q1) (x2:q2) (x3:q3) (x4:q4) (h:q0→q1→q2→q3→q4→p:=by intro x0 x1 x2 x3 x4; (sym=>(simp[x0,x1,x2,x3,x4,Za,Zb,Zc,Zd,Ze,Zf,Zg,Zh,Zi,Zj,Zk,Zl,Zm,Zn,Zo,Zp,Zq,Zr,Zs,Zt,Zu,Zv,Zw,Zx,Zy,Zz,Z0,Z8,Z9,ZA,ZB,ZC,ZD,ZF,ZG,ZH,ZI,ZJ,ZK,ZL,ZM,ZN,ZO,ZP,ZQ,ZR,ZS,ZT,ZU,ZV,ZW,ZX,ZY,ZZ,Ya,Yb,Yc,Ye,Yf,Yg,Yh,Yi,Yj,Yk,Yl,Ym,Yn,Yo,Yp,Yr,Ys,Yt,Yu,Yv,Yw,Yx,Yy,Yz,Y4,Y5,Y6,Y7,Y8,Y9,YA,YB,YC,YD,YE,YF,YG,YH,YJ,YK,YM,YN,YO,YP,YR,YT,YU,YV,YX,YY,YZ,Xa,Xb,Xc,Xd,Xe,Xf,Xg,Xh,Xi,Xj,Xk,Xl,Xm,Xn,Xo,Xp,Xq,Xr,Xs,Xt,Xu,Xv,Xw,Xx,Xy,Xz,XI,XJ,XK,XL,XM,XN,XO,XW,XY,XZ,Wa,Wb,Wc,We,Wf,Wg,Wh,Wi,Wj,Wk,Wl,Wm,Wn,Wo,Wp,Wq,Wr,Wt,Wu,Wv,Ww,Wx,Wy,Wz,WB,WC,WE,WF,WG,WH,WI,WJ,WK,WL,WM,WO,WP,WQ,WR,WS,WT,WU,WV,WW,WX,Va,Vb,Vc,Vd,Ve,Vf,Vg,Vh,Vj,Vk,Vl,Vm,Vn,Vo,Vp,Vq,Vr,Vs,Vt,Vu,Vv,Vw,Vx,Vy,Vz,V0,V4,V5,V6,V7,V8,V9,VA,VB,VC,VD,VE,VF,VG,VH,VI,VJ,VK,VL,VM,VN,VO,VP,VQ,VR,VS,VT,VU,VV,VW,VX,VY,VZ,Ua,Ub,Uc,Ud,Ue,Uf,Ug,Uh,Ui,Uj,Uk,Ul,Um,Un,Uo,Ur,Us,Ut,Uu,Uv,Uw,Ux,Uy,Uz,U0,U1,U2,U3,U4,U5,U6,U7,U8,U9,UA,UB,UC,UD,UE,UF,UG,UH,UI,UJ,UK,UL,UM,UN,UO,UP,UQ,UR,US,UT,UU,UV,UW,UX,UY,UZ,Ta,Tb,Tc,Td,Te,Tf,Tg,Th,Ti,Tj,Tl,Tm,Tn,Tp,Tq,Tr,Ts,Tt,Tu,Tv,Tw,Tx,Ty,Tz,T0,T1,T2,T3,T4,T5,T6,T7,T8,T9,TA,TB,TC,TD,TE,TF,TG,TH,TI,TJ,TK,TL,TM,TN,TO,TP,TQ,TR,TS,TT,TU,TV,TW,TX,TY,TZ,Sa,Sc,Sd,Se,Sf,Sg,Si,Sj,Sk,Sl,Sm,Sn,Sp,Sq,Sr,Ss,Su,Sv,Sw,Sx,Sy,Sz,S9,SA,SB,SC,SD,SE,SF,SG,SI,SJ,SK,SL,SM,SN,SO,SP,SQ,SS,SU,SV,SW,SX,SY,SZ,Ra,Rb,Rc,Rd,Re,Rf,Rg,Rh,Ri,Rj,Rk,Rl,Rm,Ro,Rp,Rq,Rr,Rs,Rt,Ru,Rw,Rx,Ry,Rz,RA,RC,RF,RG,RH,RI,RJ,RK,RM,RN,RO,RP,RQ,RR,RU,RV,RW,RX,RY,RZ,Qa,Qb,Qd,Qe,Qf,Qg,Qh,Qi,Qj,Qk,Ql,Qm,Qn,Qo,Qp,Qq,Qr,Qs,Qt,Qu,Qw,Qx,Qy,Qz,Q0,QA,QB,QD,QE,QF,QG,QH,QI,QJ,QK,QL,QM,QN,QO,QQ,QR,QS,QT,QU,QV,QW,QX,QY,QZ,Pa,Pb,Pc,Pd,Pe,Pf,Pg,Ph,Pj,Pk,Pl,Pm,Pn,Po,Pp];all_goals tactic=>exact rfl))):p:=h x0 x1 x2 x3 x4
theorem RS6 {q0 q1 q2 q3 q4 q5 p:Prop} (x0:q0) (x1:q1) (x2:q2) (x3:q3) (x4:q4) (x5:q5) (h:q0→q1→q2→q3→q4→q5→p:=by intro x0 x1 x2 x3 x4 x5; (sym=>(simp[x0,x1,x2,x3,x4,x5,Za,Zb,Zc,Zd,Ze,Zf,Zg,Zh,Zi,Zj,Zk,Zl,Zm,Zn,Zo,Zp,Zq,Zr,Zs,Zt,Zu,Zv,Zw,Zx,Zy,Zz,Z0,Z8,Z9,ZA,ZB,ZC,ZD,ZF,ZG,ZH,ZI,ZJ,ZK,ZL,ZM,ZN,ZO,ZP,ZQ,ZR,ZS,ZT,ZU,ZV,ZW,ZX,ZY,ZZ,Ya,Yb,Yc,Ye,Yf,Yg,Yh,Yi,Yj,Yk,Yl,Ym,Yn,Yo,Yp,Yr,Ys,Yt,Yu,Yv,Yw,Yx,Yy,Yz,Y4,Y5,Y6,Y7,Y8,Y9,YA,YB,YC,YD,YE,YF,YG,YH,YJ,YK,YM,YN,YO,YP,YR,YT,YU,YV,YX,YY,YZ,Xa,Xb,Xc,Xd,Xe,Xf,Xg,Xh,Xi,Xj,Xk,Xl,Xm,Xn,Xo,Xp,Xq,Xr,Xs,Xt,Xu,Xv,Xw,Xx,Xy,Xz,XI,XJ,XK,XL,XM,XN,XO,XW,XY,XZ,Wa,Wb,Wc,We,Wf,Wg,Wh,Wi,Wj,Wk,Wl,Wm,Wn,Wo,Wp,Wq,Wr,Wt,Wu,Wv,Ww,Wx,Wy,Wz,WB,WC,WE,WF,WG,WH,WI,WJ,WK,WL,WM,WO,WP,WQ,WR,WS,WT,WU,WV,WW,WX,Va,Vb,Vc,Vd,Ve,Vf,Vg,Vh,Vj,Vk,Vl,Vm,Vn,Vo,Vp,Vq,Vr,Vs,Vt,Vu,Vv,Vw,Vx,Vy,Vz,V0,V4,V5,V6,V7,V8,V9,VA,VB,VC,VD,VE,VF,VG,VH,VI,VJ,VK,VL,VM,VN,VO,VP,VQ,VR,VS,VT,VU,VV,VW,VX,VY,VZ,Ua,Ub,Uc,Ud,Ue,Uf,Ug,Uh,Ui,Uj,Uk,Ul,Um,Un,Uo,Ur,Us,Ut,Uu,Uv,Uw,Ux,Uy,Uz,U0,U1,U2,U3,U4,U5,U6,U7,U8,U9,UA,UB,UC,UD,UE,UF,UG,UH,UI,UJ,UK,UL,UM,UN,UO,UP,UQ,UR,US,UT,UU,UV,UW,UX,UY,UZ,Ta,Tb,Tc,Td,Te,Tf,Tg,Th,Ti,Tj,Tl,Tm,Tn,Tp,Tq,Tr,Ts,Tt,Tu,Tv,Tw,Tx,Ty,Tz,T0,T1,T2,T3,T4,T5,T6,T7,T8,T9,TA,TB,TC,TD,TE,TF,TG,TH,TI,TJ,TK,TL,TM,TN,TO,TP,TQ,TR,TS,TT,TU,TV,TW,TX,TY,TZ,Sa,Sc,Sd,Se,Sf,Sg,Si,Sj,Sk,Sl,Sm,Sn,Sp,Sq,Sr,Ss,Su,Sv,Sw,Sx,Sy,Sz,S9,SA,SB,SC,SD,SE,SF,SG,SI,SJ,SK,SL,SM,SN,SO,SP,SQ,SS,SU,SV,SW,SX,SY,SZ,Ra,Rb,Rc,Rd,Re,Rf,Rg,Rh,Ri,Rj,Rk,Rl,Rm,Ro,Rp,Rq,Rr,Rs,Rt,Ru,Rw,Rx,Ry,Rz,RA,RC,RF,RG,RH,RI,RJ,RK,RM,RN,RO,RP,RQ,RR,RU,RV,RW,RX,RY,RZ,Qa,Qb,Qd,Qe,Qf,Qg,Qh,Qi,Qj,Qk,Ql,Qm,Qn,Qo,Qp,Qq,Qr,Qs,Qt,Qu,Qw,Qx,Qy,Qz,Q0,QA,QB,QD,QE,QF,QG,QH,QI,QJ,QK,QL,QM,QN,QO,QQ,QR,QS,QT,QU,QV,QW,QX,QY,QZ,Pa,Pb,Pc,Pd,Pe,Pf,Pg,Ph,Pj,Pk,Pl,Pm,Pn,Po,Pp];all_goals tactic=>exact rfl))):p:=h x0 x1 x2 x3 x4 x5
theorem RS7 {q0 q1 q2 q3 q4 q5 q6 p:Prop} (x0:q0) (x1:q1) (x2:q2) (x3:q3) (x4:q4) (x5:q5) (x6:q6) (h:q0→q1→q2→q3→q4→q5→q6→p:=by intro x0 x1 x2 x3 x4 x5 x6; (sym=>(simp[x0,x1,x2,x3,x4,x5,x6,Za,Zb,Zc,Zd,Ze,Zf,Zg,Zh,Zi,Zj,Zk,Zl,Zm,Zn,Zo,Zp,Zq,Zr,Zs,Zt,Zu,Zv,Zw,Zx,Zy,Zz,Z0,Z8,Z9,ZA,ZB,ZC,ZD,ZF,ZG,ZH,ZI,ZJ,ZK,ZL,ZM,ZN,ZO,ZP,ZQ,ZR,ZS,ZT,ZU,ZV,ZW,ZX,ZY,ZZ,Ya,Yb,Yc,Ye,Yf,Yg,Yh,Yi,Yj,Yk,Yl,Ym,Yn,Yo,Yp,Yr,Ys,Yt,Yu,Yv,Yw,Yx,Yy,Yz,Y4,Y5,Y6,Y7,Y8,Y9,YA,YB,YC,YD,YE,YF,YG,YH,YJ,YK,YM,YN,YO,YP,YR,YT,YU,YV,YX,YY,YZ,Xa,Xb,Xc,Xd,Xe,Xf,Xg,Xh,Xi,Xj,Xk,Xl,Xm,Xn,Xo,Xp,Xq,Xr,Xs,Xt,Xu,Xv,Xw,Xx,Xy,Xz,XI,XJ,XK,XL,XM,XN,XO,XW,XY,XZ,Wa,Wb,Wc,We,Wf,Wg,Wh,Wi,Wj,Wk,Wl,Wm,Wn,Wo,Wp,Wq,Wr,Wt,Wu,Wv,Ww,Wx,Wy,Wz,WB,WC,WE,WF,WG,WH,WI,WJ,WK,WL,WM,WO,WP,WQ,WR,WS,WT,WU,WV,WW,WX,Va,Vb,Vc,Vd,Ve,Vf,Vg,Vh,Vj,Vk,Vl,Vm,Vn,Vo,Vp,Vq,Vr,Vs,Vt,Vu,Vv,Vw,Vx,Vy,Vz,V0,V4,V5,V6,V7,V8,V9,VA,VB,VC,VD,VE,VF,VG,VH,VI,VJ,VK,VL,VM,VN,VO,VP,VQ,VR,VS,VT,VU,VV,VW,VX,VY,VZ,Ua,Ub,Uc,Ud,Ue,Uf,Ug,Uh,Ui,Uj,Uk,Ul,Um,Un,Uo,Ur,Us,Ut,Uu,Uv,Uw,Ux,Uy,Uz,U0,U1,U2,U3,U4,U5,U6,U7,U8,U9,UA,UB,UC,UD,UE,UF,UG,UH,UI,UJ,UK,UL,UM,UN,UO,UP,UQ,UR,US,UT,UU,UV,UW,UX,UY,UZ,Ta,Tb,Tc,Td,Te,Tf,Tg,Th,Ti,Tj,Tl,Tm,Tn,Tp,Tq,Tr,Ts,Tt,Tu,Tv,Tw,Tx,Ty,Tz,T0,T1,T2,T3,T4,T5,T6,T7,T8,T9,TA,TB,TC,TD,TE,TF,TG,TH,TI,TJ,TK,TL,TM,TN,TO,TP,TQ,TR,TS,TT,TU,TV,TW,TX,TY,TZ,Sa,Sc,Sd,Se,Sf,Sg,Si,Sj,Sk,Sl,Sm,Sn,Sp,Sq,Sr,Ss,Su,Sv,Sw,Sx,Sy,Sz,S9,SA,SB,SC,SD,SE,SF,SG,SI,SJ,SK,SL,SM,SN,SO,SP,SQ,SS,SU,SV,SW,SX,SY,SZ,Ra,Rb,Rc,Rd,Re,Rf,Rg,Rh,Ri,Rj,Rk,Rl,Rm,Ro,Rp,Rq,Rr,Rs,Rt,Ru,Rw,Rx,Ry,Rz,RA,RC,RF,RG,RH,RI,RJ,RK,RM,RN,RO,RP,RQ,RR,RU,RV,RW,RX,RY,RZ,Qa,Qb,Qd,Qe,Qf,Qg,Qh,Qi,Qj,Qk,Ql,Qm,Qn,Qo,Qp,Qq,Qr,Qs,Qt,Qu,Qw,Qx,Qy,Qz,Q0,QA,QB,QD,QE,QF,QG,QH,QI,QJ,QK,QL,QM,QN,QO,QQ,QR,QS,QT,QU,QV,QW,QX,QY,QZ,Pa,Pb,Pc,Pd,Pe,Pf,Pg,Ph,Pj,Pk,Pl,Pm,Pn,Po,Pp];all_goals tactic=>exact rfl))):p:=h x0 x1 x2 x3 x4 x5 x6
theorem RS8 {q0 q1 q2 q3 q4 q5 q6 q7 p:Prop} (x0:q0) (x1:q1) (x2:q2) (x3:q3) (x4:q4) (x5:q5) (x6:q6) (x7:q7) (h:q0→q1→q2→q3→q4→q5→q6→q7→p:=by intro x0 x1 x2 x3 x4 x5 x6 x7; (sym=>(simp[x0,x1,x2,x3,x4,x5,x6,x7,Za,Zb,Zc,Zd,Ze,Zf,Zg,Zh,Zi,Zj,Zk,Zl,Zm,Zn,Zo,Zp,Zq,Zr,Zs,Zt,Zu,Zv,Zw,Zx,Zy,Zz,Z0,Z8,Z9,ZA,ZB,ZC,ZD,ZF,ZG,ZH,ZI,ZJ,ZK,ZL,ZM,ZN,ZO,ZP,ZQ,ZR,ZS,ZT,ZU,ZV,ZW,ZX,ZY,ZZ,Ya,Yb,Yc,Ye,Yf,Yg,Yh,Yi,Yj,Yk,Yl,Ym,Yn,Yo,Yp,Yr,Ys,Yt,Yu,Yv,Yw,Yx,Yy,Yz,Y4,Y5,Y6,Y7,Y8,Y9,YA,YB,YC,YD,YE,YF,YG,YH,YJ,YK,YM,YN,YO,YP,YR,YT,YU,YV,YX,YY,YZ,Xa,Xb,Xc,Xd,Xe,Xf,Xg,Xh,Xi,Xj,Xk,Xl,Xm,Xn,Xo,Xp,Xq,Xr,Xs,Xt,Xu,Xv,Xw,Xx,Xy,Xz,XI,XJ,XK,XL,XM,XN,XO,XW,XY,XZ,Wa,Wb,Wc,We,Wf,Wg,Wh,Wi,Wj,Wk,Wl,Wm,Wn,Wo,Wp,Wq,Wr,Wt,Wu,Wv,Ww,Wx,Wy,Wz,WB,WC,WE,WF,WG,WH,WI,WJ,WK,WL,WM,WO,WP,WQ,WR,WS,WT,WU,WV,WW,WX,Va,Vb,Vc,Vd,Ve,Vf,Vg,Vh,Vj,Vk,Vl,Vm,Vn,Vo,Vp,Vq,Vr,Vs,Vt,Vu,Vv,Vw,Vx,Vy,Vz,V0,V4,V5,V6,V7,V8,V9,VA,VB,VC,VD,VE,VF,VG,VH,VI,VJ,VK,VL,VM,VN,VO,VP,VQ,VR,VS,VT,VU,VV,VW,VX,VY,VZ,Ua,Ub,Uc,Ud,Ue,Uf,Ug,Uh,Ui,Uj,Uk,Ul,Um,Un,Uo,Ur,Us,Ut,Uu,Uv,Uw,Ux,Uy,Uz,U0,U1,U2,U3,U4,U5,U6,U7,U8,U9,UA,UB,UC,UD,UE,UF,UG,UH,UI,UJ,UK,UL,UM,UN,UO,UP,UQ,UR,US,UT,UU,UV,UW,UX,UY,UZ,Ta,Tb,Tc,Td,Te,Tf,Tg,Th,Ti,Tj,Tl,Tm,Tn,Tp,Tq,Tr,Ts,Tt,Tu,Tv,Tw,Tx,Ty,Tz,T0,T1,T2,T3,T4,T5,T6,T7,T8,T9,TA,TB,TC,TD,TE,TF,TG,TH,TI,TJ,TK,TL,TM,TN,TO,TP,TQ,TR,TS,TT,TU,TV,TW,TX,TY,TZ,Sa,Sc,Sd,Se,Sf,Sg,Si,Sj,Sk,Sl,Sm,Sn,Sp,Sq,Sr,Ss,Su,Sv,Sw,Sx,Sy,Sz,S9,SA,SB,SC,SD,SE,SF,SG,SI,SJ,SK,SL,SM,SN,SO,SP,SQ,SS,SU,SV,SW,SX,SY,SZ,Ra,Rb,Rc,Rd,Re,Rf,Rg,Rh,Ri,Rj,Rk,Rl,Rm,Ro,Rp,Rq,Rr,Rs,Rt,Ru,Rw,Rx,Ry,Rz,RA,RC,RF,RG,RH,RI,RJ,RK,RM,RN,RO,RP,RQ,RR,RU,RV,RW,RX,RY,RZ,Qa,Qb,Qd,Qe,Qf,Qg,Qh,Qi,Qj,Qk,Ql,Qm,Qn,Qo,Qp,Qq,Qr,Qs,Qt,Qu,Qw,Qx,Qy,Qz,Q0,QA,QB,QD,QE,QF,QG,QH,QI,QJ,QK,QL,QM,QN,QO,QQ,QR,QS,QT,QU,QV,QW,QX,QY,QZ,Pa,Pb,Pc,Pd,Pe,Pf,Pg,Ph,Pj,Pk,Pl,Pm,Pn,Po,Pp];all_goals tactic=>exact rfl))):p:=h x0 x1 x2 x3 x4 x5 x6 x7
theorem RS9 {q0 q1 q2 q3 q4 q5 q6 q7 q8 p:Prop} (x0:q0) (x1:q1) (x2:q2) (x3:q3) (x4:q4) (x5:q5) (x6:q6) (x7:q7) (x8:q8) (h:q0→q1→q2→q3→q4→q5→q6→q7→q8→p:=by intro x0 x1 x2 x3 x4 x5 x6 x7 x8; (sym=>(simp[x0,x1,x2,x3,x4,x5,x6,x7,x8,Za,Zb,Zc,Zd,Ze,Zf,Zg,Zh,Zi,Zj,Zk,Zl,Zm,Zn,Zo,Zp,Zq,Zr,Zs,Zt,Zu,Zv,Zw,Zx,Zy,Zz,Z0,Z8,Z9,ZA,ZB,ZC,ZD,ZF,ZG,ZH,ZI,ZJ,ZK,ZL,ZM,ZN,ZO,ZP,ZQ,ZR,ZS,ZT,ZU,ZV,ZW,ZX,ZY,ZZ,Ya,Yb,Yc,Ye,Yf,Yg,Yh,Yi,Yj,Yk,Yl,Ym,Yn,Yo,Yp,Yr,Ys,Yt,Yu,Yv,Yw,Yx,Yy,Yz,Y4,Y5,Y6,Y7,Y8,Y9,YA,YB,YC,YD,YE,YF,YG,YH,YJ,YK,YM,YN,YO,YP,YR,YT,YU,YV,YX,YY,YZ,Xa,Xb,Xc,Xd,Xe,Xf,Xg,Xh,Xi,Xj,Xk,Xl,Xm,Xn,Xo,Xp,Xq,Xr,Xs,Xt,Xu,Xv,Xw,Xx,Xy,Xz,XI,XJ,XK,XL,XM,XN,XO,XW,XY,XZ,Wa,Wb,Wc,We,Wf,Wg,Wh,Wi,Wj,Wk,Wl,Wm,Wn,Wo,Wp,Wq,Wr,Wt,Wu,Wv,Ww,Wx,Wy,Wz,WB,WC,WE,WF,WG,WH,WI,WJ,WK,WL,WM,WO,WP,WQ,WR,WS,WT,WU,WV,WW,WX,Va,Vb,Vc,Vd,Ve,Vf,Vg,Vh,Vj,Vk,Vl,Vm,Vn,Vo,Vp,Vq,Vr,Vs,Vt,Vu,Vv,Vw,Vx,Vy,Vz,V0,V4,V5,V6,V7,V8,V9,VA,VB,VC,VD,VE,VF,VG,VH,VI,VJ,VK,VL,VM,VN,VO,VP,VQ,VR,VS,VT,VU,VV,VW,VX,VY,VZ,Ua,Ub,Uc,Ud,Ue,Uf,Ug,Uh,Ui,Uj,Uk,Ul,Um,Un,Uo,Ur,Us,Ut,Uu,Uv,Uw,Ux,Uy,Uz,U0,U1,U2,U3,U4,U5,U6,U7,U8,U9,UA,UB,UC,UD,UE,UF,UG,UH,UI,UJ,UK,UL,UM,UN,UO,UP,UQ,UR,US,UT,UU,UV,UW,UX,UY,UZ,Ta,Tb,Tc,Td,Te,Tf,Tg,Th,Ti,Tj,Tl,Tm,Tn,Tp,Tq,Tr,Ts,Tt,Tu,Tv,Tw,Tx,Ty,Tz,T0,T1,T2,T3,T4,T5,T6,T7,T8,T9,TA,TB,TC,TD,TE,TF,TG,TH,TI,TJ,TK,TL,TM,TN,TO,TP,TQ,TR,TS,TT,TU,TV,TW,TX,TY,TZ,Sa,Sc,Sd,Se,Sf,Sg,Si,Sj,Sk,Sl,Sm,Sn,Sp,Sq,Sr,Ss,Su,Sv,Sw,Sx,Sy,Sz,S9,SA,SB,SC,SD,SE,SF,SG,SI,SJ,SK,SL,SM,SN,SO,SP,SQ,SS,SU,SV,SW,SX,SY,SZ,Ra,Rb,Rc,Rd,Re,Rf,Rg,Rh,Ri,Rj,Rk,Rl,Rm,Ro,Rp,Rq,Rr,Rs,Rt,Ru,Rw,Rx,Ry,Rz,RA,RC,RF,RG,RH,RI,RJ,RK,RM,RN,RO,RP,RQ,RR,RU,RV,RW,RX,RY,RZ,Qa,Qb,Qd,Qe,Qf,Qg,Qh,Qi,Qj,Qk,Ql,Qm,Qn,Qo,Qp,Qq,Qr,Qs,Qt,Qu,Qw,Qx,Qy,Qz,Q0,QA,QB,QD,QE,QF,QG,QH,QI,QJ,QK,QL,QM,QN,QO,QQ,QR,QS,QT,QU,QV,QW,QX,QY,QZ,Pa,Pb,Pc,Pd,Pe,Pf,Pg,Ph,Pj,Pk,Pl,Pm,Pn,Po,Pp];all_goals tactic=>exact rfl))):p:=h x0 x1 x2 x3 x4 x5 x6 x7 x8
theorem aHw {q0 q1 q2 q3 q4 q5 q6 q7 q8 q9 p:Prop} (x0:q0) (x1:q1) (x2:q2) (x3:q3) (x4:q4) (x5:q5) (x6:q6) (x7:q7) (x8:q8) (x9:q9) (h:q0→q1→q2→q3→q4→q5→q6→q7→q8→q9→p:=by intro x0 x1 x2 x3 x4 x5 x6 x7 x8 x9; (sym=>(simp[x0,x1,x2,x3,x4,x5,x6,x7,x8,x9,Za,Zb,Zc,Zd,Ze,Zf,Zg,Zh,Zi,Zj,Zk,Zl,Zm,Zn,Zo,Zp,Zq,Zr,Zs,Zt,Zu,Zv,Zw,Zx,Zy,Zz,Z0,Z8,Z9,ZA,ZB,ZC,ZD,ZF,ZG,ZH,ZI,ZJ,ZK,ZL,ZM,ZN,ZO,ZP,ZQ,ZR,ZS,ZT,ZU,ZV,ZW,ZX,ZY,ZZ,Ya,Yb,Yc,Ye,Yf,Yg,Yh,Yi,Yj,Yk,Yl,Ym,Yn,Yo,Yp,Yr,Ys,Yt,Yu,Yv,Yw,Yx,Yy,Yz,Y4,Y5,Y6,Y7,Y8,Y9,YA,YB,YC,YD,YE,YF,YG,YH,YJ,YK,YM,YN,YO,YP,YR,YT,YU,YV,YX,YY,YZ,Xa,Xb,Xc,Xd,Xe,Xf,Xg,Xh,Xi,Xj,Xk,Xl,Xm,Xn,Xo,Xp,Xq,Xr,Xs,Xt,Xu,Xv,Xw,Xx,Xy,Xz,XI,XJ,XK,XL,XM,XN,XO,XW,XY,XZ,Wa,Wb,Wc,We,Wf,Wg,Wh,Wi,Wj,Wk,Wl,Wm,Wn,Wo,Wp,Wq,Wr,Wt,Wu,Wv,Ww,Wx,Wy,Wz,WB,WC,WE,WF,WG,WH,WI,WJ,WK,WL,WM,WO,WP,WQ,WR,WS,WT,WU,WV,WW,WX,Va,Vb,Vc,Vd,Ve,Vf,Vg,Vh,Vj,Vk,Vl,Vm,Vn,Vo,Vp,Vq,Vr,Vs,Vt,Vu,Vv,Vw,Vx,Vy,Vz,V0,V4,V5,V6,V7,V8,V9,VA,VB,VC,VD,VE,VF,VG,VH,VI,VJ,VK,VL,VM,VN,VO,VP,VQ,VR,VS,VT,VU,VV,VW,VX,VY,VZ,Ua,Ub,Uc,Ud,Ue,Uf,Ug,Uh,Ui,Uj,Uk,Ul,Um,Un,Uo,Ur,Us,Ut,Uu,Uv,Uw,Ux,Uy,Uz,U0,U1,U2,U3,U4,U5,U6,U7,U8,U9,UA,UB,UC,UD,UE,UF,UG,UH,UI,UJ,UK,UL,UM,UN,UO,UP,UQ,UR,US,UT,UU,UV,UW,UX,UY,UZ,Ta,Tb,Tc,Td,Te,Tf,Tg,Th,Ti,Tj,Tl,Tm,Tn,Tp,Tq,Tr,Ts,Tt,Tu,Tv,Tw,Tx,Ty,Tz,T0,T1,T2,T3,T4,T5,T6,T7,T8,T9,TA,TB,TC,TD,TE,TF,TG,TH,TI,TJ,TK,TL,TM,TN,TO,TP,TQ,TR,TS,TT,TU,TV,TW,TX,TY,TZ,Sa,Sc,Sd,Se,Sf,Sg,Si,Sj,Sk,Sl,Sm,Sn,Sp,Sq,Sr,Ss,Su,Sv,Sw,Sx,Sy,Sz,S9,SA,SB,SC,SD,SE,SF,SG,SI,SJ,SK,SL,SM,SN,SO,SP,SQ,SS,SU,SV,SW,SX,SY,SZ,Ra,Rb,Rc,Rd,Re,Rf,Rg,Rh,Ri,Rj,Rk,Rl,Rm,Ro,Rp,Rq,Rr,Rs,Rt,Ru,Rw,Rx,Ry,Rz,RA,RC,RF,RG,RH,RI,RJ,RK,RM,RN,RO,RP,RQ,RR,RU,RV,RW,RX,RY,RZ,Qa,Qb,Qd,Qe,Qf,Qg,Qh,Qi,Qj,Qk,Ql,Qm,Qn,Qo,Qp,Qq,Qr,Qs,Qt,Qu,Qw,Qx,Qy,Qz,Q0,QA,QB,QD,QE,QF,QG,QH,QI,QJ,QK,QL,QM,QN,QO,QQ,QR,QS,QT,QU,QV,QW,QX,QY,QZ,Pa,Pb,Pc,Pd,Pe,Pf,Pg,Ph,Pj,Pk,Pl,Pm,Pn,Po,Pp];all_goals tactic=>exact rfl))):p:=h x0 x1 x2 x3 x4 x5 x6 x7 x8 x9
theorem aMW {q0 q1 q2 q3 q4 q5 q6 q7 q8 q9 q10 q11 p:Prop} (x0:q0) (x1:q1) (x2:q2) (x3:q3) (x4:q4) (x5:q5) (x6:q6) (x7:q7) (x8:q8) (x9:q9) (x10:q10) (x11:q11) (h:q0→q1→q2→q3→q4→q5→q6→q7→q8→q9→q10→q11→p:=by intro x0 x1 x2 x3 x4 x5 x6 x7 x8 x9 x10 x11; (sym=>(simp[x0,x1,x2,x3,x4,x5,x6,x7,x8,x9,x10,x11,Za,Zb,Zc,Zd,Ze,Zf,Zg,Zh,Zi,Zj,Zk,Zl,Zm,Zn,Zo,Zp,Zq,Zr,Zs,Zt,Zu,Zv,Zw,Zx,Zy,Zz,Z0,Z8,Z9,ZA,ZB,ZC,ZD,ZF,ZG,ZH,ZI,ZJ,ZK,ZL,ZM,ZN,ZO,ZP,ZQ,ZR,ZS,ZT,ZU,ZV,ZW,ZX,ZY,ZZ,Ya,Yb,Yc,Ye,Yf,Yg,Yh,Yi,Yj,Yk,Yl,Ym,Yn,Yo,Yp,Yr,Ys,Yt,Yu,Yv,Yw,Yx,Yy,Yz,Y4,Y5,Y6,Y7,Y8,Y9,YA,YB,YC,YD,YE,YF,YG,YH,YJ,YK,YM,YN,YO,YP,YR,YT,YU,YV,YX,YY,YZ,Xa,Xb,Xc,Xd,Xe,Xf,Xg,Xh,Xi,Xj,Xk,Xl,Xm,Xn,Xo,Xp,Xq,Xr,Xs,Xt,Xu,Xv,Xw,Xx,Xy,Xz,XI,XJ,XK,XL,XM,XN,XO,XW,XY,XZ,Wa,Wb,Wc,We,Wf,Wg,Wh,Wi,Wj,Wk,Wl,Wm,Wn,Wo,Wp,Wq,Wr,Wt,Wu,Wv,Ww,Wx,Wy,Wz,WB,WC,WE,WF,WG,WH,WI,WJ,WK,WL,WM,WO,WP,WQ,WR,WS,WT,WU,WV,WW,WX,Va,Vb,Vc,Vd,Ve,Vf,Vg,Vh,Vj,Vk,Vl,Vm,Vn,Vo,Vp,Vq,Vr,Vs,Vt,Vu,Vv,Vw,Vx,Vy,Vz,V0,V4,V5,V6,V7,V8,V9,VA,VB,VC,VD,VE,VF,VG,VH,VI,VJ,VK,VL,VM,VN,VO,VP,VQ,VR,VS,VT,VU,VV,VW,VX,VY,VZ,Ua,Ub,Uc,Ud,Ue,Uf,Ug,Uh,Ui,Uj,Uk,Ul,Um,Un,Uo,Ur,Us,Ut,Uu,Uv,Uw,Ux,Uy,Uz,U0,U1,U2,U3,U4,U5,U6,U7,U8,U9,UA,UB,UC,UD,UE,UF,UG,UH,UI,UJ,UK,UL,UM,UN,UO,UP,UQ,UR,US,UT,UU,UV,UW,UX,UY,UZ,Ta,Tb,Tc,Td,Te,Tf,Tg,Th,Ti,Tj,Tl,Tm,Tn,Tp,Tq,Tr,Ts,Tt,Tu,Tv,Tw,Tx,Ty,Tz,T0,T1,T2,T3,T4,T5,T6,T7,T8,T9,TA,TB,TC,TD,TE,TF,TG,TH,TI,TJ,TK,TL,TM,TN,TO,TP,TQ,TR,TS,TT,TU,TV,TW,TX,TY,TZ,Sa,Sc,Sd,Se,Sf,Sg,Si,Sj,Sk,Sl,Sm,Sn,Sp,Sq,Sr,Ss,Su,Sv,Sw,Sx,Sy,Sz,S9,SA,SB,SC,SD,SE,SF,SG,SI,SJ,SK,SL,SM,SN,SO,SP,SQ,SS,SU,SV,SW,SX,SY,SZ,Ra,Rb,Rc,Rd,Re,Rf,Rg,Rh,Ri,Rj,Rk,Rl,Rm,Ro,Rp,Rq,Rr,Rs,Rt,Ru,Rw,Rx,Ry,Rz,RA,RC,RF,RG,RH,RI,RJ,RK,RM,RN,RO,RP,RQ,RR,RU,RV,RW,RX,RY,RZ,Qa,Qb,Qd,Qe,Qf,Qg,Qh,Qi,Qj,Qk,Ql,Qm,Qn,Qo,Qp,Qq,Qr,Qs,Qt,Qu,Qw,Qx,Qy,Qz,Q0,QA,QB,QD,QE,QF,QG,QH,QI,QJ,QK,QL,QM,QN,QO,QQ,QR,QS,QT,QU,QV,QW,QX,QY,QZ,Pa,Pb,Pc,Pd,Pe,Pf,Pg,Ph,Pj,Pk,Pl,Pm,Pn,Po,Pp];all_goals tactic=>exact rfl))):p:=h x0 x1 x2 x3 x4 x5 x6 x7 x8 x9 x10 x11
theorem aTx {q0 q1 q2 q3 q4 q5 q6 q7 q8 q9 q10 q11 q12 q13 p:Prop} (x0:q0) (x1:q1) (x2:q2) (x3:q3) (x4:q4) (x5:q5) (x6:q6) (x7:q7) (x8:q8) (x9:q9) (x10:q10) (x11:q11) (x12:q12) (x13:q13) (h:q0→q1→q2→q3→q4→q5→q6→q7→q8→q9→q10→q11→q12→q13→p:=by intro x0 x1 x2 x3 x4 x5 x6 x7 x8 x9 x10 x11 x12 x13; (sym=>(simp[x0,x1,x2,x3,x4,x5,x6,x7,x8,x9,x10,x11,x12,x13,Za,Zb,Zc,Zd,Ze,Zf,Zg,Zh,Zi,Zj,Zk,Zl,Zm,Zn,Zo,Zp,Zq,Zr,Zs,Zt,Zu,Zv,Zw,Zx,Zy,Zz,Z0,Z8,Z9,ZA,ZB,ZC,ZD,ZF,ZG,ZH,ZI,ZJ,ZK,ZL,ZM,ZN,ZO,ZP,ZQ,ZR,ZS,ZT,ZU,ZV,ZW,ZX,ZY,ZZ,Ya,Yb,Yc,Ye,Yf,Yg,Yh,Yi,Yj,Yk,Yl,Ym,Yn,Yo,Yp,Yr,Ys,Yt,Yu,Yv,Yw,Yx,Yy,Yz,Y4,Y5,Y6,Y7,Y8,Y9,YA,YB,YC,YD,YE,YF,YG,YH,YJ,YK,YM,YN,YO,YP,YR,YT,YU,YV,YX,YY,YZ,Xa,Xb,Xc,Xd,Xe,Xf,Xg,Xh,Xi,Xj,Xk,Xl,Xm,Xn,Xo,Xp,Xq,Xr,Xs,Xt,Xu,Xv,Xw,Xx,Xy,Xz,XI,XJ,XK,XL,XM,XN,XO,XW,XY,XZ,Wa,Wb,Wc,We,Wf,Wg,Wh,Wi,Wj,Wk,Wl,Wm,Wn,Wo,Wp,Wq,Wr,Wt,Wu,Wv,Ww,Wx,Wy,Wz,WB,WC,WE,WF,WG,WH,WI,WJ,WK,WL,WM,WO,WP,WQ,WR,WS,WT,WU,WV,WW,WX,Va,Vb,Vc,Vd,Ve,Vf,Vg,Vh,Vj,Vk,Vl,Vm,Vn,Vo,Vp,Vq,Vr,Vs,Vt,Vu,Vv,Vw,Vx,Vy,Vz,V0,V4,V5,V6,V7,V8,V9,VA,VB,VC,VD,VE,VF,VG,VH,VI,VJ,VK,VL,VM,VN,VO,VP,VQ,VR,VS,VT,VU,VV,VW,VX,VY,VZ,Ua,Ub,Uc,Ud,Ue,Uf,Ug,Uh,Ui,Uj,Uk,Ul,Um,Un,Uo,Ur,Us,Ut,Uu,Uv,Uw,Ux,Uy,Uz,U0,U1,U2,U3,U4,U5,U6,U7,U8,U9,UA,UB,UC,UD,UE,UF,UG,UH,UI,UJ,UK,UL,UM,UN,UO,UP,UQ,UR,US,UT,UU,UV,UW,UX,UY,UZ,Ta,Tb,Tc,Td,Te,Tf,Tg,Th,Ti,Tj,Tl,Tm,Tn,Tp,Tq,Tr,Ts,Tt,Tu,Tv,Tw,Tx,Ty,Tz,T0,T1,T2,T3,T4,T5,T6,T7,T8,T9,TA,TB,TC,TD,TE,TF,TG,TH,TI,TJ,TK,TL,TM,TN,TO,TP,TQ,TR,TS,TT,TU,TV,TW,TX,TY,TZ,Sa,Sc,Sd,Se,Sf,Sg,Si,Sj,Sk,Sl,Sm,Sn,Sp,Sq,Sr,Ss,Su,Sv,Sw,Sx,Sy,Sz,S9,SA,SB,SC,SD,SE,SF,SG,SI,SJ,SK,SL,SM,SN,SO,SP,SQ,SS,SU,SV,SW,SX,SY,SZ,Ra,Rb,Rc,Rd,Re,Rf,Rg,Rh,Ri,Rj,Rk,Rl,Rm,Ro,Rp,Rq,Rr,Rs,Rt,Ru,Rw,Rx,Ry,Rz,RA,RC,RF,RG,RH,RI,RJ,RK,RM,RN,RO,RP,RQ,RR,RU,RV,RW,RX,RY,RZ,Qa,Qb,Qd,Qe,Qf,Qg,Qh,Qi,Qj,Qk,Ql,Qm,Qn,Qo,Qp,Qq,Qr,Qs,Qt,Qu,Qw,Qx,Qy,Qz,Q0,QA,QB,QD,QE,QF,QG,QH,QI,QJ,QK,QL,QM,QN,QO,QQ,QR,QS,QT,QU,QV,QW,QX,QY,QZ,Pa,Pb,Pc,Pd,Pe,Pf,Pg,Ph,Pj,Pk,Pl,Pm,Pn,Po,Pp];all_goals tactic=>exact rfl))):p:=h x0 x1 x2 x3 x4 x5 x6 x7 x8 x9 x10 x11 x12 x13
theorem aMV {q0 q1 q2 q3 q4 q5 q6 q7 q8 q9 q10 q11 q12 q13 q14 q15 q16 p:Prop} (x0:q0) (x1:q1) (x2:q2) (x3:q3) (x4:q4) (x5:q5) (x6:q6) (x7:q7) (x8:q8) (x9:q9) (x10:q10) (x11:q11) (x12:q12) (x13:q13) (x14:q14) (x15:q15) (x16:q16) (h:q0→q1→q2→q3→q4→q5→q6→q7→q8→q9→q10→q11→q12→q13→q14→q15→q16→p:=by intro x0 x1 x2 x3 x4 x5 x6 x7 x8 x9 x10 x11 x12 x13 x14 x15 x16; (sym=>(simp[x0,x1,x2,x3,x4,x5,x6,x7,x8,x9,x10,x11,x12,x13,x14,x15,x16,Za,Zb,Zc,Zd,Ze,Zf,Zg,Zh,Zi,Zj,Zk,Zl,Zm,Zn,Zo,Zp,Zq,Zr,Zs,Zt,Zu,Zv,Zw,Zx,Zy,Zz,Z0,Z8,Z9,ZA,ZB,ZC,ZD,ZF,ZG,ZH,ZI,ZJ,ZK,ZL,ZM,ZN,ZO,ZP,ZQ,ZR,ZS,ZT,ZU,ZV,ZW,ZX,ZY,ZZ,Ya,Yb,Yc,Ye,Yf,Yg,Yh,Yi,Yj,Yk,Yl,Ym,Yn,Yo,Yp,Yr,Ys,Yt,Yu,Yv,Yw,Yx,Yy,Yz,Y4,Y5,Y6,Y7,Y8,Y9,YA,YB,YC,YD,YE,YF,YG,YH,YJ,YK,YM,YN,YO,YP,YR,YT,YU,YV,YX,YY,YZ,Xa,Xb,Xc,Xd,Xe,Xf,Xg,Xh,Xi,Xj,Xk,Xl,Xm,Xn,Xo,Xp,Xq,Xr,Xs,Xt,Xu,Xv,Xw,Xx,Xy,Xz,XI,XJ,XK,XL,XM,XN,XO,XW,XY,XZ,Wa,Wb,Wc,We,Wf,Wg,Wh,Wi,Wj,Wk,Wl,Wm,Wn,Wo,Wp,Wq,Wr,Wt,Wu,Wv,Ww,Wx,Wy,Wz,WB,WC,WE,WF,WG,WH,WI,WJ,WK,WL,WM,WO,WP,WQ,WR,WS,WT,WU,WV,WW,WX,Va,Vb,Vc,Vd,Ve,Vf,Vg,Vh,Vj,Vk,Vl,Vm,Vn,Vo,Vp,Vq,Vr,Vs,Vt,Vu,Vv,Vw,Vx,Vy,Vz,V0,V4,V5,V6,V7,V8,V9,VA,VB,VC,VD,VE,VF,VG,VH,VI,VJ,VK,VL,VM,VN,VO,VP,VQ,VR,VS,VT,VU,VV,VW,VX,VY,VZ,Ua,Ub,Uc,Ud,Ue,Uf,Ug,Uh,Ui,Uj,Uk,Ul,Um,Un,Uo,Ur,Us,Ut,Uu,Uv,Uw,Ux,Uy,Uz,U0,U1,U2,U3,U4,U5,U6,U7,U8,U9,UA,UB,UC,UD,UE,UF,UG,UH,UI,UJ,UK,UL,UM,UN,UO,UP,UQ,UR,US,UT,UU,UV,UW,UX,UY,UZ,Ta,Tb,Tc,Td,Te,Tf,Tg,Th,Ti,Tj,Tl,Tm,Tn,Tp,Tq,Tr,Ts,Tt,Tu,Tv,Tw,Tx,Ty,Tz,T0,T1,T2,T3,T4,T5,T6,T7,T8,T9,TA,TB,TC,TD,TE,TF,TG,TH,TI,TJ,TK,TL,TM,TN,TO,TP,TQ,TR,TS,TT,TU,TV,TW,TX,TY,TZ,Sa,Sc,Sd,Se,Sf,Sg,Si,Sj,Sk,Sl,Sm,Sn,Sp,Sq,Sr,Ss,Su,Sv,Sw,Sx,Sy,Sz,S9,SA,SB,SC,SD,SE,SF,SG,SI,SJ,SK,SL,SM,SN,SO,SP,SQ,SS,SU,SV,SW,SX,SY,SZ,Ra,Rb,Rc,Rd,Re,Rf,Rg,Rh,Ri,Rj,Rk,Rl,Rm,Ro,Rp,Rq,Rr,Rs,Rt,Ru,Rw,Rx,Ry,Rz,RA,RC,RF,RG,RH,RI,RJ,RK,RM,RN,RO,RP,RQ,RR,RU,RV,RW,RX,RY,RZ,Qa,Qb,Qd,Qe,Qf,Qg,Qh,Qi,Qj,Qk,Ql,Qm,Qn,Qo,Qp,Qq,Qr,Qs,Qt,Qu,Qw,Qx,Qy,Qz,Q0,QA,QB,QD,QE,QF,QG,QH,QI,QJ,QK,QL,QM,QN,QO,QQ,QR,QS,QT,QU,QV,QW,QX,QY,QZ,Pa,Pb,Pc,Pd,Pe,Pf,Pg,Ph,Pj,Pk,Pl,Pm,Pn,Po,Pp];all_goals tactic=>exact rfl))):p:=h x0 x1 x2 x3 x4 x5 x6 x7 x8 x9 x10 x11 x12 x13 x14 x15 x16
theorem aPG {q0 q1 q2 q3 q4 q5 q6 q7 q8 q9 q10 q11 q12 q13 q14 q15 q16 q17 q18 q19 p:Prop} (x0:q0) (x1:q1) (x2:q2) (x3:q3) (x4:q4) (x5:q5) (x6:q6) (x7:q7) (x8:q8) (x9:q9) (x10:q10) (x11:q11) (x12:q12) (x13:q13) (x14:q14) (x15:q15) (x16:q16) (x17:q17) (x18:q18) (x19:q19) (h:q0→q1→q2→q3→q4→q5→q6→q7→q8→q9→q10→q11→q12→q13→q14→q15→q16→q17→q18→q19→p:=by intro x0 x1 x2 x3 x4 x5 x6 x7 x8 x9 x10 x11 x12 x13 x14 x15 x16 x17 x18 x19; (sym=>(simp[x0,x1,x2,x3,x4,x5,x6,x7,x8,x9,x10,x11,x12,x13,x14,x15,x16,x17,x18,x19,Za,Zb,Zc,Zd,Ze,Zf,Zg,Zh,Zi,Zj,Zk,Zl,Zm,Zn,Zo,Zp,Zq,Zr,Zs,Zt,Zu,Zv,Zw,Zx,Zy,Zz,Z0,Z8,Z9,ZA,ZB,ZC,ZD,ZF,ZG,ZH,ZI,ZJ,ZK,ZL,ZM,ZN,ZO,ZP,ZQ,ZR,ZS,ZT,ZU,ZV,ZW,ZX,ZY,ZZ,Ya,Yb,Yc,Ye,Yf,Yg,Yh,Yi,Yj,Yk,Yl,Ym,Yn,Yo,Yp,Yr,Ys,Yt,Yu,Yv,Yw,Yx,Yy,Yz,Y4,Y5,Y6,Y7,Y8,Y9,YA,YB,YC,YD,YE,YF,YG,YH,YJ,YK,YM,YN,YO,YP,YR,YT,YU,YV,YX,YY,YZ,Xa,Xb,Xc,Xd,Xe,Xf,Xg,Xh,Xi,Xj,Xk,Xl,Xm,Xn,Xo,Xp,Xq,Xr,Xs,Xt,Xu,Xv,Xw,Xx,Xy,Xz,XI,XJ,XK,XL,XM,XN,XO,XW,XY,XZ,Wa,Wb,Wc,We,Wf,Wg,Wh,Wi,Wj,Wk,Wl,Wm,Wn,Wo,Wp,Wq,Wr,Wt,Wu,Wv,Ww,Wx,Wy,Wz,WB,WC,WE,WF,WG,WH,WI,WJ,WK,WL,WM,WO,WP,WQ,WR,WS,WT,WU,WV,WW,WX,Va,Vb,Vc,Vd,Ve,Vf,Vg,Vh,Vj,Vk,Vl,Vm,Vn,Vo,Vp,Vq,Vr,Vs,Vt,Vu,Vv,Vw,Vx,Vy,Vz,V0,V4,V5,V6,V7,V8,V9,VA,VB,VC,VD,VE,VF,VG,VH,VI,VJ,VK,VL,VM,VN,VO,VP,VQ,VR,VS,VT,VU,VV,VW,VX,VY,VZ,Ua,Ub,Uc,Ud,Ue,Uf,Ug,Uh,Ui,Uj,Uk,Ul,Um,Un,Uo,Ur,Us,Ut,Uu,Uv,Uw,Ux,Uy,Uz,U0,U1,U2,U3,U4,U5,U6,U7,U8,U9,UA,UB,UC,UD,UE,UF,UG,UH,UI,UJ,UK,UL,UM,UN,UO,UP,UQ,UR,US,UT,UU,UV,UW,UX,UY,UZ,Ta,Tb,Tc,Td,Te,Tf,Tg,Th,Ti,Tj,Tl,Tm,Tn,Tp,Tq,Tr,Ts,Tt,Tu,Tv,Tw,Tx,Ty,Tz,T0,T1,T2,T3,T4,T5,T6,T7,T8,T9,TA,TB,TC,TD,TE,TF,TG,TH,TI,TJ,TK,TL,TM,TN,TO,TP,TQ,TR,TS,TT,TU,TV,TW,TX,TY,TZ,Sa,Sc,Sd,Se,Sf,Sg,Si,Sj,Sk,Sl,Sm,Sn,Sp,Sq,Sr,Ss,Su,Sv,Sw,Sx,Sy,Sz,S9,SA,SB,SC,SD,SE,SF,SG,SI,SJ,SK,SL,SM,SN,SO,SP,SQ,SS,SU,SV,SW,SX,SY,SZ,Ra,Rb,Rc,Rd,Re,Rf,Rg,Rh,Ri,Rj,Rk,Rl,Rm,Ro,Rp,Rq,Rr,Rs,Rt,Ru,Rw,Rx,Ry,Rz,RA,RC,RF,RG,RH,RI,RJ,RK,RM,RN,RO,RP,RQ,RR,RU,RV,RW,RX,RY,RZ,Qa,Qb,Qd,Qe,Qf,Qg,Qh,Qi,Qj,Qk,Ql,Qm,Qn,Qo,Qp,Qq,Qr,Qs,Qt,Qu,Qw,Qx,Qy,Qz,Q0,QA,QB,QD,QE,QF,QG,QH,QI,QJ,QK,QL,QM,QN,QO,QQ,QR,QS,QT,QU,QV,QW,QX,QY,QZ,Pa,Pb,Pc,Pd,Pe,Pf,Pg,Ph,Pj,Pk,Pl,Pm,Pn,Po,Pp];all_goals tactic=>exact rfl))):p:=h x0 x1 x2 x3 x4 x5 x6 x7 x8 x9 x10 x11 x12 x13 x14 x15 x16 x17 x18 x19
theorem aPF {q0 q1 q2 q3 q4 q5 q6 q7 q8 q9 q10 q11 q12 q13 q14 q15 q16 q17 q18 q19 q20 q21 q22 q23 q24 q25 p:Prop} (x0:q0) (x1:q1) (x2:q2) (x3:q3) (x4:q4) (x5:q5) (x6:q6) (x7:q7) (x8:q8) (x9:q9) (x10:q10) (x11:q11) (x12:q12) (x13:q13) (x14:q14) (x15:q15) (x16:q16) (x17:q17) (x18:q18) (x19:q19) (x20:q20) (x21:q21) (x22:q22) (x23:q23) (x24:q24) (x25:q25) (h:q0→q1→q2→q3→q4→q5→q6→q7→q8→q9→q10→q11→q12→q13→q14→q15→q16→q17→q18→q19→q20→q21→q22→q23→q24→q25→p:=by intro x0 x1 x2 x3 x4 x5 x6 x7 x8 x9 x10 x11 x12 x13 x14 x15 x16 x17 x18 x19 x20 x21 x22 x23 x24 x25; (sym=>(simp[x0,x1,x2,x3,x4,x5,x6,x7,x8,x9,x10,x11,x12,x13,x14,x15,x16,x17,x18,x19,x20,x21,x22,x23,x24,x25,Za,Zb,Zc,Zd,Ze,Zf,Zg,Zh,Zi,Zj,Zk,Zl,Zm,Zn,Zo,Zp,Zq,Zr,Zs,Zt,Zu,Zv,Zw,Zx,Zy,Zz,Z0,Z8,Z9,ZA,ZB,ZC,ZD,ZF,ZG,ZH,ZI,ZJ,ZK,ZL,ZM,ZN,ZO,ZP,ZQ,ZR,ZS,ZT,ZU,ZV,ZW,ZX,ZY,ZZ,Ya,Yb,Yc,Ye,Yf,Yg,Yh,Yi,Yj,Yk,Yl,Ym,Yn,Yo,Yp,Yr,Ys,Yt,Yu,Yv,Yw,Yx,Yy,Yz,Y4,Y5,Y6,Y7,Y8,Y9,YA,YB,YC,YD,YE,YF,YG,YH,YJ,YK,YM,YN,YO,YP,YR,YT,YU,YV,YX,YY,YZ,Xa,Xb,Xc,Xd,Xe,Xf,Xg,Xh,Xi,Xj,Xk,Xl,Xm,Xn,Xo,Xp,Xq,Xr,Xs,Xt,Xu,Xv,Xw,Xx,Xy,Xz,XI,XJ,XK,XL,XM,XN,XO,XW,XY,XZ,Wa,Wb,Wc,We,Wf,Wg,Wh,Wi,Wj,Wk,Wl,Wm,Wn,Wo,Wp,Wq,Wr,Wt,Wu,Wv,Ww,Wx,Wy,Wz,WB,WC,WE,WF,WG,WH,WI,WJ,WK,WL,WM,WO,WP,WQ,WR,WS,WT,WU,WV,WW,WX,Va,Vb,Vc,Vd,Ve,Vf,Vg,Vh,Vj,Vk,Vl,Vm,Vn,Vo,Vp,Vq,Vr,Vs,Vt,Vu,Vv,Vw,Vx,Vy,Vz,V0,V4,V5,V6,V7,V8,V9,VA,VB,VC,VD,VE,VF,VG,VH,VI,VJ,VK,VL,VM,VN,VO,VP,VQ,VR,VS,VT,VU,VV,VW,VX,VY,VZ,Ua,Ub,Uc,Ud,Ue,Uf,Ug,Uh,Ui,Uj,Uk,Ul,Um,Un,Uo,Ur,Us,Ut,Uu,Uv,Uw,Ux,Uy,Uz,U0,U1,U2,U3,U4,U5,U6,U7,U8,U9,UA,UB,UC,UD,UE,UF,UG,UH,UI,UJ,UK,UL,UM,UN,UO,UP,UQ,UR,US,UT,UU,UV,UW,UX,UY,UZ,Ta,Tb,Tc,Td,Te,Tf,Tg,Th,Ti,Tj,Tl,Tm,Tn,Tp,Tq,Tr,Ts,Tt,Tu,Tv,Tw,Tx,Ty,Tz,T0,T1,T2,T3,T4,T5,T6,T7,T8,T9,TA,TB,TC,TD,TE,TF,TG,TH,TI,TJ,TK,TL,TM,TN,TO,TP,TQ,TR,TS,TT,TU,TV,TW,TX,TY,TZ,Sa,Sc,Sd,Se,Sf,Sg,Si,Sj,Sk,Sl,Sm,Sn,Sp,Sq,Sr,Ss,Su,Sv,Sw,Sx,Sy,Sz,S9,SA,SB,SC,SD,SE,SF,SG,SI,SJ,SK,SL,SM,SN,SO,SP,SQ,SS,SU,SV,SW,SX,SY,SZ,Ra,Rb,Rc,Rd,Re,Rf,Rg,Rh,Ri,Rj,Rk,Rl,Rm,Ro,Rp,Rq,Rr,Rs,Rt,Ru,Rw,Rx,Ry,Rz,RA,RC,RF,RG,RH,RI,RJ,RK,RM,RN,RO,RP,RQ,RR,RU,RV,RW,RX,RY,RZ,Qa,Qb,Qd,Qe,Qf,Qg,Qh,Qi,Qj,Qk,Ql,Qm,Qn,Qo,Qp,Qq,Qr,Qs,Qt,Qu,Qw,Qx,Qy,Qz,Q0,QA,QB,QD,QE,QF,QG,QH,QI,QJ,QK,QL,QM,QN,QO,QQ,QR,QS,QT,QU,QV,QW,QX,QY,QZ,Pa,Pb,Pc,Pd,Pe,Pf,Pg,Ph,Pj,Pk,Pl,Pm,Pn,Po,Pp];all_goals tactic=>exact rfl))):p:=h x0 x1 x2 x3 x4 x5 x6 x7 x8 x9 x10 x11 x12 x13 x14 x15 x16 x17 x18 x19 x20 x21 x22 x23 x24 x25
end Go.DL
