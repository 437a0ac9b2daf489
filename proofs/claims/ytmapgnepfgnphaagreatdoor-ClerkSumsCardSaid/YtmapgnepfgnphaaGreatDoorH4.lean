/- Parts of a proof, joined: XG DlX XV RSX. No statement of the seed is proved here. -/
import Derived.RecoverIn
import Derived.Test.YtmapgnepfgnphaaGreatDoorH3
set_option linter.unusedSimpArgs false
set_option linter.unusedVariables false
set_option linter.unusedSectionVars false
set_option maxRecDepth 100000
namespace Go.DL

theorem Ry{α β:Type}{f:α→β}{a b:List α}:(a++b).map f=a.map f++b.map f:=by simp
theorem Rz{α:Type}{a b:List α}:(a++b).length=a.length+b.length:=by simp
theorem R0{n:Nat}:n*1=n:=by simp
theorem RA{n:Nat}:0+n=n:=by simp
theorem RC{n:Nat}:n+0=n:=by simp
theorem RF{n:Nat}:(n≤n)=True:=by simp
theorem RG{n:Nat}:n-0=n:=by simp
def aKZ{α:Type}(l:List α)(o:Nat)(v:α):List α:=l.take o++v::l.drop (o+1)
theorem aKY{α:Type}{l:List α}{o:Nat}{v:α}(h:o<l.length):aKZ l o v=l.set o v:=by
 rw[aKZ,aB7,if_pos h]
theorem RH{hs:List Int}{o:Nat}{v:Int}:bR (hs.map I) o [I v]=(aKZ hs o v).map I:=by
 simp[bR,aKZ,List.map_take,List.map_drop]
theorem zW{α:Type}{f:α→AV}:∀(l pre:List α),dB ((pre++l).map f) pre.length 1 l.length=l.map fun v=>[f v]
 | [],pre=>rfl
 | a::r,pre=>by
   have h:=zW (f:=f) r (pre++[a]);simp only[O6,M8,J9,C2,C6,I1]at h;rw[C6,dB];simp only[H8]at h;rw[h,F7,List.drop_left' (by simp),C4,C4];rfl
theorem RI{hs:List Int}:dB (hs.map I) 0 1 hs.length=hs.map fun v=>[I v]:=zW (f:=I) hs []
theorem RJ{n:Nat}{v:Int}:(List.replicate n [I v]).flatten=(List.replicate n v).map I:=by
 induction n with
 | zero=>rfl
 | succ n ih=>simp[M0,ih]
section
variable{D:Nat→Option XFn}{K k:Nat}{rd:Option Nat}{e:aH}{h:XH}{run:cV}{runY:dJ}
variable{d:Option Nat}{ix:Nat}{r:List DOper}{L:List (Nat×Nat)}
theorem Qm{s b:Nat}{x y:AO}:xo (some L) run runY (⟨ix,d,.app s b x y,none⟩::r) e h=uF (L.all fun q=>eI (aK e x) != some q.2) (kE (some L) run runY r d e h (lF h (aK e x)&&lF h (aK e y)) (oP s b (aG h) (aK e x) (aK e y))):=by
 show dW run runY _ e h L=_;rw[←aMy];simp only[dW,gd,rM,uF];rfl
theorem Qp:(true != true)=false:=rfl
theorem Qq:(false != false)=false:=rfl
theorem Qn{b:Nat}:((none:Option Nat) != some b)=true:=rfl
theorem Qo{a b:Nat}:(some a != some b) = !(decide (a=b)):=by by_cases h:a=b<;>simp[h]
def lsM:Option XB→Option LSt
 | some (.loop _ _ _ s)=>some s
 | _=>none
theorem RW{h:XH}{l:Nat}:fU h l=lsM (hat h l):=by unfold fU lsM;rfl
theorem RX{K site:Nat}{vs:List AV}{s:LSt}:lsM (some (.loop K site vs s))=some s:=rfl
def ltM(h:XH)(l:Nat)(s:LSt):Option XB→XH
 | some (.loop K site vs _)=>h.set l (some (.loop K site vs s))
 | _=>h
theorem RY{h:XH}{l:Nat}{s:LSt}:loopTo h l s=ltM h l s (hat h l):=by unfold loopTo ltM;rfl
theorem RZ{h:XH}{l K site:Nat}{vs:List AV}{s s':LSt}:ltM h l s (some (.loop K site vs s'))=h.set l (some (.loop K site vs s)):=rfl
theorem Qa{h:XH}:xO none h=true:=rfl
theorem Qb{g:Nat}{a b:List AV}:xN (.fn (.func g) a b)=true:=rfl
def aUU(b:Bool)(n:Nat)(e:aH)(r:Option (AV×XH)):Option (DX×aH×XH):=if b then aFk n e r else none
theorem Qd{site:Nat}{L:List Nat}{f:AO}{ps:List Nat}{a b:XCode}:execW D K k rd (.rng site L f ps a b) e h=aUU (xO rd h&&xN (aK e f)) h.length e (eP (runW D) (runYW D) (aK e f) [.fn (.yield h.length) [] []] (h++[some (.loop K site (L.map e) .ready)])):=aJK
theorem Qe{n:Nat}{r:Option (AV×XH)}:aUU true n e r=aFk n e r:=rfl
def rgM(n:Nat)(e:aH)(h:XH):Option LSt→Option (DX×aH×XH)
 | some .ready=>some (.normal,e,h.set n none)
 | some (.done x)=>some (x,e,h.set n none)
 | _=>none
theorem Qf{n:Nat}{v:AV}:aFk n e (some (v,h))=rgM n e h (fU h n):=by unfold aFk rgM;rfl
theorem Qg{n:Nat}:rgM n e h (some .ready)=some (.normal,e,h.set n none):=rfl
theorem Qh{l:Nat}{as:List AV}:eP run runY (.fn (.yield l) [] []) as h=kM (eS (.fn (.yield l) [] []::as) h) h (runY (rnA (aMa (eS (.fn (.yield l) [] []::as) h)) (.fn (.yield l) [] [])) (lQ (aMa (eS (.fn (.yield l) [] []::as) h)) as) (gO (eS (.fn (.yield l) [] []::as) h) h)):=rfl
def yM2(x:Option (AV×XH)):Option LSt→Option (AV×XH)
 | some .ready=>x
 | _=>none
theorem Qi{l:Nat}{f:aH→XH→Option (AV×XH)}:aGy l (some (.normal,e,h)) f=yM2 (f e (loopTo h l .busy)) (fU h l):=by unfold aGy yM2;rfl
theorem Qj{x:Option (AV×XH)}:yM2 x (some .ready)=x:=rfl
def yE2(l k:Nat)(x:DX)(h:XH):Option LSt→Option (AV×XH)
 | some .busy=>some (match x with
  | .normal=>iS true k (.bool true) (loopTo h l .ready)
  | x=>iS true k (.bool false) (loopTo h l (.done x)))
 | _=>none
theorem Qk{l:Nat}{x:DX}:aIQ l k (some (x,e,h))=yE2 l k x h (fU h l):=by unfold aIQ yE2;rfl
theorem Ql{l:Nat}:yE2 l k .normal h (some .busy)=some (iS true k (.bool true) (loopTo h l .ready)):=rfl
end
theorem Qx{g g' w w':Bool}{xs ys:List AV}:aFa (some (.blk g (.cells w xs))) (some (.blk g' (.cells w' ys)))=(w==w'&&fS xs ys):=rfl
theorem Qy:fS [] []=true:=rfl
theorem Qz{x y:AV}{xs ys:List AV}:fS (x::xs) (y::ys)=(cN x y&&fS xs ys):=rfl
theorem Q0{k:IntKind}{n:Int}:cN (.int k n) (.int k n)=true:=by simp[cN]
theorem QA{b:Bool}:cN (.bool b) (.bool b)=true:=by cases b<;>rfl
theorem QB{b o:Nat}:cN (.pt b o) (.pt b o)=true:=by simp[cN]
theorem QD:((10:Nat):Int)=10:=rfl
theorem QE:((40:Nat):Int)=40:=rfl
theorem QF:((45:Nat):Int)=45:=rfl
theorem QG{k:IntKind}{a b:Int}:fL .andNot k a k b=some (.int k (nC .andNot k a b)):=by simp[fL]
section
variable{run:cV}{runY:dJ}{d:Option Nat}{e:aH}{h:XH}{ix:Nat}{r:List DOper}{m:Option (List (Nat×Nat))}
theorem QU{b n:Nat}:iP (.sb b n)=([b]:List Nat):=rfl
theorem QV{b n:Nat}:iG (.sb b n)=(false:Bool):=rfl
theorem QW{s:Nat→Option Nat}{b n:Nat}:rnA s (.sb b n)=((match s b with|some c=>.sb c n|none=>.any):AV):=by simp only[rnA]<;>rfl
theorem QX{B:Nat}{C:List AV}{b n:Nat}:uI B C (.sb b n)=((.sb b n):AV):=rfl
theorem QY{b n:Nat}:cellsOf (.sb b n)=(some [(.sb b n)]:Option (List AV)):=rfl
theorem QZ{b:Nat}:iP (.bp b)=([b]:List Nat):=rfl
theorem Pa{s:Nat→Option Nat}{b:Nat}:rnA s (.bp b)=((match s b with|some c=>.bp c|none=>.any):AV):=by simp only[rnA]<;>rfl
theorem Pb{b:Nat}:zJ (.bp b)=([]:List Nat):=rfl
theorem Pc{B:Nat}{C:List AV}{b:Nat}:uI B C (.bp b)=((.bp b):AV):=rfl
theorem Pd{b:Nat}:qE (.bp b)=((.bp b):AV):=rfl
theorem Pe{p:AO}:xo m run runY (⟨ix,d,(DOp.strof p),none⟩::r) e h=kV m run runY r d e h (hP (aG h) (aK e p)):=oS rfl (by cases hs:hP (aG h) (aK e p)<;>simp[aC,nO,hs]) (fun _=>rfl) (fun _=>rfl) fun _ _=>rfl
theorem Pf{H:Hp}{b o s n:Nat}:hP H (.sl b o s n)=lY (fE 1 H (.sl b o s n)):=rfl
theorem Pg{n:Nat}{cs:List AV}:lY (some (n,cs))=(gQ cs).map fun l=>.str ⟨⟨l⟩⟩:=rfl
end
theorem aRZ{p:Prop}(h:p):p:=h
theorem Pq{h:XH}{b j:Nat}{x:Option XB}:hat (h.set b x) j=if j=b then (if b<h.length then x else hat h j) else hat h j:=by
 rw[eT];by_cases h1:j=b
 ·by_cases h2:b<h.length
  ·rw[if_pos ⟨h1,h2⟩,if_pos h1,if_pos h2]
  ·rw[if_neg (fun hh=>h2 hh.2),if_pos h1,if_neg h2]
 ·rw[if_neg (fun hh=>h1 hh.1),if_neg h1]
theorem Pr{h k:XH}{j:Nat}:hat (h++k) j=if j<h.length then hat h j else hat k (j-h.length):=cF h k j
theorem Ps{h k:XH}{b:Nat}{x:Option XB}:(h++k).set b x=if b<h.length then h.set b x++k else h++k.set (b-h.length) x:=by
 rw[List.set_append]
theorem Pt{h k l:XH}:(h++k)++l=h++(k++l):=O6 h k l
theorem Pu{h:XH}{b:Nat}{x:Option XB}:(h.set b x).length=h.length:=C0
theorem Pv{n:Nat}:(n<n)=False:=AAn (aE2 n)
theorem Pw{n k:Nat}:(n+k<n)=False:=AAb
theorem Px{n:Nat}:n-n=0:=aD2 n
theorem Py{n k:Nat}:n+k-n=k:=by omega
def kGm(h:XH):Option AV→Option (AV×XH)
 | some v=>some (v,h)
 | none=>none
theorem Pz{res:List (Nat×Option (Bool×Nat))}{e:aH}{h:XH}:aCr res (some (.normal,e,h))=kGm h (gT res e (aG h)):=by
 show (gT res e (aG h)).map (fun v=>(v,h))=_;cases gT res e (aG h)<;>rfl
theorem P0{res:List (Nat×Option (Bool×Nat))}{e:aH}{h:XH}:aCr res (some (.ret,e,h))=kGm h (gT res e (aG h)):=by
 show (gT res e (aG h)).map (fun v=>(v,h))=_;cases gT res e (aG h)<;>rfl
theorem P8{h:XH}{v:AV}:kGm h (some v)=some (v,h):=rfl
variable{P:Program}{B:Base}{F:Nat→Prop}{w:World}{H:Hp}{env:aH}{a:Act}

theorem aCb{Fe:Fence}{n:Nat}{id:Nat}{ops:Array Oper}{Q:Exit→Act→List Frame→World→Prop}{cs:List Frame}{o:Oper}(ho:ops[0]?=some o)
 (hg:o.guard=none) (hab:∀ f,o.about P w a.eval=some f→Fe.fn f) (hr:(execOp a.eval o).run P w = .ok .recover w) (hro:Fe.round=none)
 (h:match recoverD cs with
  | some (v,cs')=>wpOpsIn Fe n P ops (fun e a w=>Q e a cs' w) (List.range' 1 (ops.size-1)) (a.put o.dst v) w
  | none=>wpOpsIn Fe n P ops (fun e a w=>Q e a cs w) (List.range' 1 (ops.size-1)) (a.put o.dst .nilIface) w) :
 (Code.region id ops false).wpSIn Fe n P Q a cs w:=by
 intro b k hb hrd hF hroom;have hsz:0<ops.size:=(B6.1 ho).1;have hrange:List.range ops.size=0::List.range' 1 (ops.size-1):=by
  rw[O9];obtain⟨m,hm⟩:∃ m,ops.size=m+1:=⟨ops.size-1,by omega⟩;rw[hm,aA4];simp
 have i0:(lone (b.atR a (.code (.region id ops false)::k)) cs w).fenced P Fe:=fenced_calm hF hroom rfl;have s0:=stepR_region (P:=P) (b:=b) (a:=a) (k:=k) (cs:=cs) (w:=w) (id:=id) (ops:=ops);rw[hrange]at s0;have hw:Region.wanted o (yielded ops a.tmps)=true:=by unfold Region.wanted;rw[hg]
 have h0:(lone (b.atR a (.inRegion ops (0::List.range' 1 (ops.size-1))::k)) cs w).fenced P Fe:=fenced_oper hF hroom ho hab;have hgg:=stepGR_op (P:=P) (b:=b) (k:=k) (cs:=cs) (w:=w) (rest:=List.range' 1 (ops.size-1)) ho hw;rw[hrd,Oper.semAt_none]at hgg;have hfin:∀ v,(b.atR a (.inRegion ops (0::List.range' 1 (ops.size-1))::k)).finish v=b.atR (a.put o.dst v) (.inRegion ops (List.range' 1 (ops.size-1))::k):=by
  intro v;rw[Frame.finish_atR,ho];rfl
 have hk:(b.atR a (.inRegion ops (0::List.range' 1 (ops.size-1))::k)).kind = .deferred:=hb;have htr:=tryRecover_deferred hk cs;split at h
 ·rename_i v cs' hrec
  have hlen:=recoverD_length hrec;obtain⟨e,a',w'',hq,harr⟩:=wp_opsIn _ _ _ h b k cs' (hrd.trans hro.symm) hF (by rw[hlen];exact hroom);refine⟨e,a',cs',w'',hlen,hq,.of_steps (.one i0 s0) (.of_steps (.one h0 (step_lone_go ?_)) harr)⟩;rw[hgg,←hfin];simp only[Frame.atR,hrd]at htr ⊢;simp[stepG.apply,hr,htr,hrec]
 ·rename_i hrec
  obtain⟨e,a',w'',hq,harr⟩:=wp_opsIn _ _ _ h b k cs (hrd.trans hro.symm) hF hroom;refine⟨e,a',cs,w'',rfl,hq,.of_steps (.one i0 s0) (.of_steps (.one h0 (step_lone_go ?_)) harr)⟩;rw[hgg,←hfin];simp only[Frame.atR,hrd]at htr ⊢;simp[stepG.apply,hr,htr,hrec]

theorem tQ{fn:Func}{tmps:Array Value}{n0:Nat}{F0:Nat→Prop}{w0:World}{H0:Hp}{R:Ending→World→Prop}{T:List Deferred}{u:FrameMode}{S:World→Prop}(hS:∀ w w',Up F w F w'→S w→S w')(hu:u ≠ .run)(hn0:w0.heap.size≤n0)
 (hT:∀ w,S w→Ext F0 w0 H0 F w H→St F w H→RE F w env { tmps:=tmps,defers:=[] }→LeavesInM Fence.wide 0 P fn tmps R T u w) :
 ∀(ms:List Deferred)(w:World),S w→Ext F0 w0 H0 F w H→St F w H→RE F w env { tmps:=tmps,defers:=[] }→ms.Nodup→(∀ d∈ms,Mk1 n0 F H w d)→LeavesInM Fence.wide 0 P fn tmps R (ms++T) u w:=by
 intro ms;induction ms with
 | nil=>intro w hs he st re _ _;exact hT w hs he st re
 | cons d ds ih =>
   intro w hs he st re hnd hm;obtain⟨D,rfl,h2,h3,h4,h5⟩:=hm d (by simp);obtain⟨k1,k2,k3⟩:=tX (n0:=0) (x:=none) he st (F8 hn0 h2) h3 h4 h5;have hnd:=G1.1 hnd;refine⟨hu,.inl ⟨D,_,rfl,run_takeDeferred h3,ih _ (hS _ _ k3 hs) k1 k2 (re.up k3) hnd.2 fun d' hd'=>?_⟩⟩;obtain⟨D',rfl,l2,l3,l4,l5⟩:=hm d' (by simp[hd']);refine⟨D',rfl,l2,?_,l4,l5⟩;rw[World.putObj_heap_other fun e=>hnd.1 (by rw[←e];exact hd')];exact l3
section
variable{P:Program}{D:Nat→Option XFn}{d:XFn}{K k:Nat}{e:aH}{h:XH}

def PanX(P:Program)(D:Nat→Option XFn)(d:XFn)(k:Nat)(c:XCode)(e:aH)(h:XH)(v:AV)(e':aH)(h':XH):Prop :=
 mE c=true→fG d c→∀(B:Base)(Y:Nat→Option YI)(r:Nat→Option Nat)(env:aH)(H:Hp)(Q:QP),YOk P B D Y→SR D Y r e h env H→aRb D Y k r v e' h' Q→WPD B P none d.N c.erase Q env H
def CalP(P:Program)(D:Nat→Option XFn)(g:Nat)(all:List AV)(h:XH)(v:AV)(h':XH):Prop :=
 ∀(B:Base)(Y:Nat→Option YI)(r:Nat→Option Nat)(H:Hp)(all':List AV),YOk P B D Y→SH D Y r h H→RnL D Y r all all'→FnP B P g all' H (dP D Y r v h')

def qH(L:List Nat)(r:Option (DX×aH×XH)):Option (DX×List AV×XH):=r.map fun q=>(q.1,L.map q.2.1,q.2.2)
theorem SR.cut{Y:Nat→Option YI}{r:Nat→Option Nat}{env:aH}{H:Hp}(sr:SR D Y r e h env H)(L:List Nat):SR D Y r (bW L (L.map e)) h env H:=⟨sr.sh,fun j=>by
 rcases aBC e L j with h1|h1;·rw[h1];exact sr.re j
 ·rw[h1];exact .any _⟩

theorem rU(ok:XOk P D)(hD:D K=some d){code:XCode}{x:DX}{e':aH}{h':XH}(hx:execW D K k none code e h=some (x,e',h')){B:Base}{Y:Nat→Option YI}{r:Nat→Option Nat}{env:aH}{H:Hp}{Q:QC}
 (hY:YOk P B D Y) (hok:mE code=true) (hs:fG d code) (sr:SR D Y r e h env H) (hK:∀ r' env' H',Agree k r r'→SR D Y r' e' h' env' H'→Q x env' H'):WD B P none d.N code.erase Q env H:=by
 obtain⟨n,hn⟩:=aS.1 hx;exact fV hD ok.mixed (fun B Y hY=>lP ok n B Y hY) k n none none code B Y r e h env H x e' h' Q hY hok hs rfl sr hn hK

theorem PanX.seqR(ok:XOk P D)(hD:D K=some d){a b:XCode}(L:List Nat){vs:List AV}{h1 h':XH}{v:AV}{e':aH}(hx:qH L (execW D K k none a e h)=some (.normal,vs,h1))(hb:PanX P D d k b (bW L vs) h1 v e' h'):PanX P D d k (.seq a b) e h v e' h':=by
 intro hok hs B Y r env H Q hY sr hK;simp only[mE,A4]at hok;unfold qH at hx;rw[A0]at hx;obtain⟨⟨x,e1,h2⟩,hx,he⟩:=hx;simp only[B3]at he;obtain⟨rfl,rfl,rfl⟩:=he;exact WPD.seq2 (rU ok hD hx hY hok.1 hs.1 sr fun r' env' H' ha sr'=>⟨rfl,hb hok.2 hs.2 B Y r' env' H' Q hY (sr'.cut L) fun r2 v2 env2 H2 ha2 sr2 hv2=>hK r2 v2 env2 H2 (ha.trans ha2) sr2 hv2⟩)
theorem PanX.seqL{a b:XCode}{v:AV}{e':aH}{h':XH}(ha:PanX P D d k a e h v e' h'):PanX P D d k (.seq a b) e h v e' h':=by
 intro hok hs B Y r env H Q hY sr hK;simp only[mE,A4]at hok;exact WPD.seq1 (ha hok.1 hs.1 B Y r env H Q hY sr hK)
theorem PanX.condT{c:AO}{a b:XCode}{v:AV}{e':aH}{h':XH}(hc:aK e c = .bool true)(ha:PanX P D d k a e h v e' h'):PanX P D d k (.cond c a b) e h v e' h':=by
 intro hok hs B Y r env H Q hY sr hK;simp only[mE,A4]at hok;have h1:=aM sr.re (x:=c) hok.1;rw[hc]at h1;exact WPD.cond (t:=true) (dU h1) (ha hok.2.1 hs.1 B Y r env H Q hY sr hK)
theorem PanX.condF{c:AO}{a b:XCode}{v:AV}{e':aH}{h':XH}(hc:aK e c = .bool false)(hb:PanX P D d k b e h v e' h'):PanX P D d k (.cond c a b) e h v e' h':=by
 intro hok hs B Y r env H Q hY sr hK;simp only[mE,A4]at hok;have h1:=aM sr.re (x:=c) hok.1;rw[hc]at h1;exact WPD.cond (t:=false) (dU h1) (hb hok.2.2 hs.2 B Y r env H Q hY sr hK)
theorem PanX.block{id:Nat}{a:XCode}{v:AV}{e':aH}{h':XH}(ha:PanX P D d k a e h v e' h'):PanX P D d k (.block id a) e h v e' h' :=
 fun hok hs B Y r env H Q hY sr hK=>WPD.block (ha (by simpa [mE]using hok) hs B Y r env H Q hY sr hK)
theorem PanX.loop(ok:XOk P D)(hD:D K=some d){L:List Nat}{a:XCode}{v:AV}{e':aH}{h':XH}(n:Nat)(S:Nat→List AV)(G:Nat→XH)(h0:dL k L (some (.normal,e,h))=some (S 0,G 0))
 (hs:∀ i,i<n→dL k L (execW D K k none a (bW L (S i)) (G i))=some (S (i+1),G (i+1))) (hp:PanX P D d k a (bW L (S n)) (G n) v e' h'):PanX P D d k (.loop L a) e h v e' h':=by
 intro hok hst B Y r env H Q hY sr hK;have key:∀(m i:Nat)(e:aH)(h:XH)(r1:Nat→Option Nat)(env1:aH)(H1:Hp),m+i=n→dL k L (some (.normal,e,h))=some (S i,G i)→Agree k r r1→SR D Y r1 e h env1 H1→aGu B P none d.N a.erase Q m env1 H1:=by
  intro m;induction m with
  | zero =>
    intro i e h r1 env1 H1 hi h0 ha sr1;have:i=n:=by omega
    subst this;simp only[dL,oSI,B3]at h0;obtain⟨r2,ha2,sr2⟩:=kQ sr1 k L;have e1:mL k L e h=bW L (S i):=by rw[←h0.1];rfl
    rw[e1,h0.2]at sr2;exact hp (by simpa [mE]using hok) hst B Y r2 env1 H1 Q hY sr2 fun r3 v3 env3 H3 ha3 sr3 hv3=>hK r3 v3 env3 H3 ((ha.trans ha2).trans ha3) sr3 hv3
  | succ m ih =>
    intro i e h r1 env1 H1 hi h0 ha sr1;simp only[dL,oSI,B3]at h0;obtain⟨r2,ha2,sr2⟩:=kQ sr1 k L;have e1:mL k L e h=bW L (S i):=by rw[←h0.1];rfl
    rw[e1,h0.2]at sr2;have hx:=hs i (by omega);cases hq:execW D K k none a (bW L (S i)) (G i)with
    | none=>rw[hq]at hx;simp[dL]at hx
    | some q =>
      obtain⟨x,e3,h3⟩:=q;rw[hq]at hx;cases x with
      | normal=>exact rU ok hD hq hY (by simpa [mE]using hok) hst sr2 fun r3 env3 H3 ha3 sr3=>⟨rfl,ih (i+1) e3 h3 r3 env3 H3 (by omega) hx ((ha.trans ha2).trans ha3) sr3⟩
      | exit id=>simp[dL]at hx
      | ret=>simp[dL]at hx
 exact WPD.loop (key n 0 e h r env H (by omega) h0 (Agree.refl _ _) sr)

theorem aRH{B:Base}{Y:Nat→Option YI}{run:cV}{runY:dJ}(hf:FnS P B D Y run)(hy:YS P B D Y runY):∀(p rest:List DOper)(r:Nat→Option Nat)(e:aH)(h:XH)(env:aH)(H:Hp)(e1:aH)(h1:XH)(Q:QP),pU p=true→SR D Y r e h env H →
 eE run runY p e h=some (e1,h1)→(∀ r' env' H',Sub r r'→SR D Y r' e1 h1 env' H'→RSP B P rest Q env' H')→RSP B P (p++rest) Q env H:=by
 intro p;induction p with
 | nil =>
   intro rest r e h env H e1 h1 Q _ sr hx hK;simp only[eE,oSI,B3]at hx;obtain⟨rfl,rfl⟩:=hx;exact hK r env H (Sub.refl r) sr
 | cons o p ih =>
   intro rest r e h env H e1 h1 Q hok sr hx hK;simp only[pU,I4,A4]at hok;simp only[eE]at hx;refine .inr ?_;split at hx
   ·rename_i hg
    simp only[D7]at hx;obtain⟨s,hx1,hx2⟩:=hx;simp only[opW,wF sr hg];exact fP hf hy sr hok.1 (e':=s.1) (h':=s.2) hx1 fun r' env' H' hs sr'=>ih rest r' s.1 s.2 env' H' e1 h1 Q hok.2 sr' hx2 fun r2 env2 H2 hs2 sr2=>hK r2 env2 H2 (hs.trans hs2) sr2
   ·rename_i hg
    simp only[opW,wF sr hg];exact ih rest r _ h _ H e1 h1 Q hok.2 (sr.put (Sub.refl r) sr.sh (.tup [] [] rfl (by simp)) o.dst) hx hK
   ·simp at hx
def atX(f:AO)(xs:List AO)(L:List Nat)(r:Option (aH×XH)):Option (AV×List AV×List AV×XH):=r.map fun s=>(aK s.1 f,xs.map (aK s.1),L.map s.1,s.2)
theorem aMf{B:Base}{Y:Nat→Option YI}{r:Nat→Option Nat}{env:aH}{H:Hp}(sr:SR D Y r e h env H)(hY:YOk P B D Y){ix:Nat}{dst:Option Nat}{f:AO}{xs:List AO}{l:List Nat}(hok:gC (.callf false f xs l)=true)(hm:pA f=true)
 {g:Nat} {first cap:List AV} (hf:aK e f = .fn (.func g) first cap) {v:AV} {h':XH} (hp:CalP P D g (first++xs.map (aK e)++cap) h v h') {Q:QP} (L:List Nat) (hK:aNF D Y r v (bW L (L.map e)) h' Q):opP B P ⟨ix,dst,.callf false f xs l,none⟩ Q env H:=by
 refine⟨rfl,fun tab k hh=>by subst hh;simp[pA]at hm,?_⟩;simp only[gC,A4]at hok;have h1:=aM sr.re (x:=f) hok.1;rw[hf]at h1;cases hv:aK env f<;>rw[hv]at h1<;>cases h1
 rename_i first' cap' hf0 hl1 k1 hl2 k2;show FnP B P g (first'++xs.map (aK env)++cap') H _;refine FnP.mono ?_ (hp B Y r H _ hY sr.sh (RnL.append (RnL.append ⟨hl1,k1⟩ (oW sr.re hok.2)) ⟨hl2,k2⟩));rintro v' H' ⟨r',q1,q2,q3⟩;exact hK r' v' env H' q1 ⟨q2,fun j=>((sr.cut L).re j).mono q1⟩ q3
theorem PanX.reg(ok:XOk P D){fz:List (Nat×Bool)}{p post:List DOper}{ix:Nat}{dst:Option Nat}{f:AO}{xs:List AO}{l:List Nat}(L:List Nat){g:Nat}{first cap args vs:List AV}{h1 h':XH}{v:AV}(hm:pA f=true)
 (hcm:(p++⟨ix,dst,.callf false f xs l,none⟩::post).any (fun o=>o.op.isComm)=false) (hx:atX f xs L (xo none (runW D) (runYW D) p (uH fz e h).1 (uH fz e h).2)=some (.fn (.func g) first cap,args,vs,h1))
 (hp:CalP P D g (first++args++cap) h1 v h'):PanX P D d k (.reg fz false (p++⟨ix,dst,.callf false f xs l,none⟩::post)) e h v (bW L vs) h':=by
 intro hok hs B Y r env H Q hY sr hK;simp only[mE]at hok;obtain⟨env1,H1,k1,k2⟩:=sS sr fz;refine WPD.shift k1 (WPD.reg (fun o ho=>?_) ?_)
 ·rw[List.any_eq_false]at hcm
  simpa using hcm o ho
 ·unfold atX at hx
  rw[A0]at hx;obtain⟨⟨e2,h2⟩,hx,he⟩:=hx;simp only[B3]at he;obtain⟨q1,rfl,rfl,rfl⟩:=he;have hx:eE (runW D) (runYW D) p (uH fz e h).1 (uH fz e h).2=some (e2,h2):=hx;obtain⟨n,hn⟩:=aEI.1 hx;simp only[pU,aB1,I4,A4]at hok;obtain⟨s1,s2⟩:=lP ok n B Y hY;refine aRH s1 s2 p _ r _ _ env1 H1 e2 h2 Q hok.1 k2 hn fun r' env' H' hs sr'=>.inl (aMf sr' hY hok.2.1 hm q1 hp L fun r2 v2 env2 H2 hs2 sr2 hv2=>hK r2 v2 env2 H2 ((hs.trans hs2).agree k) sr2 hv2)
theorem PanX.regD(ok:XOk P D){fz:List (Nat×Bool)}{p post:List DOper}{ix:Nat}{dst:Option Nat}{f:AO}{xs:List AO}{l:List Nat}(L:List Nat){g:Nat}{first cap args vs:List AV}{h1 h':XH}{v:AV}(hm:pA f=true)
 (hpan:aDa p ⟨ix,dst,.callf false f xs l,none⟩ post=true) (hx:atX f xs L (xo (some []) (runW D) (runYW D) p (sE (lE post) (uH fz e h).1) (uH fz e h).2)=some (.fn (.func g) first cap,args,vs,h1))
 (hp:CalP P D g (first++args++cap) h1 v h'):PanX P D d k (.reg fz true (p++⟨ix,dst,.callf false f xs l,none⟩::post)) e h v (bW L vs) h':=by
 intro hok hs B Y r env H Q hY sr hK;simp only[mE]at hok;obtain⟨env1,H1,k1,k2⟩:=sS sr fz;refine WPD.shift k1 (WPD.regD ok.mixed hpan ?_);have k3:SR D Y r (sE (lE post) (uH fz e h).1) (uH fz e h).2 (sE (lE post) env1) H1:=⟨k2.sh,fun j=>by
  simp only[sE];split;·exact .any _
  ·exact k2.re j⟩
 unfold atX at hx;rw[A0]at hx;obtain⟨⟨e2,h2⟩,hx,he⟩:=hx;simp only[B3]at he;obtain⟨q1,rfl,rfl,rfl⟩:=he;have hx:dW (runW D) (runYW D) p (sE (lE post) (uH fz e h).1) (uH fz e h).2 []=some (e2,h2):=hx;obtain⟨n,hn⟩:=aCB.1 hx;simp only[pU,aB1,I4,A4]at hok;obtain⟨s1,s2⟩:=lP ok n B Y hY;exact qK s1 s2 p r _ _ [] _ H1 noL e2 h2 _ hok.1 k3 ⟨by simp,fun j c hj=>by simp[noL]at hj⟩ hn fun r' env' H' hs sr' =>
  aMf sr' hY hok.2.1 hm q1 hp L fun r2 v2 env2 H2 hs2 sr2 hv2=>hK r2 v2 env2 H2 ((hs.trans hs2).agree k) sr2 hv2

def aKa:List Nat→aH→aH
 | [],e=>e
 | j::l,e=>upd (aKa l e) j .any
theorem aID{e:aH}:aKa [] e=e:=rfl
theorem aEx{j:Nat}{l:List Nat}{e:aH}:aKa (j::l) e=upd (aKa l e) j .any:=rfl
theorem aNA(e:aH):∀(l:List Nat),sE l e=aKa l e
 | []=>rfl
 | j::l=>by
   funext i;have ih:=congrFun (aNA e l) i;simp only[sE]at ih;simp only[sE,aEx,upd,List.contains_cons];by_cases h:i=j;·simp[h]
   ·simp only[beq_iff_eq,h,aG0,AAd]
    simpa [h]using ih
theorem PanX.regU(ok:XOk P D){fz:List (Nat×Bool)}{p post:List DOper}{ix:Nat}{dst:Option Nat}{f:AO}{xs:List AO}{l:List Nat}(L:List Nat)(fr:List Nat){g:Nat}{first cap args vs:List AV}{h1 h':XH}{v:AV}(hm:pA f=true)
 (hpan:aDa p ⟨ix,dst,.callf false f xs l,none⟩ post=true) (hfr:lE post=fr) (hx:atX f xs L (xo (some []) (runW D) (runYW D) p (aKa fr (uH fz e h).1) (uH fz e h).2)=some (.fn (.func g) first cap,args,vs,h1))
 (hp:CalP P D g (first++args++cap) h1 v h'):PanX P D d k (.reg fz true (p++⟨ix,dst,.callf false f xs l,none⟩::post)) e h v (bW L vs) h' :=
 PanX.regD ok L hm hpan (by rw[aNA,hfr];exact hx) hp
theorem CalP.of(ok:XOk P D)(hD:D K=some d){as:List AV}{v:AV}{e':aH}{h':XH}(hl:as.length≤d.N)(hdf:d.dfr=none)(hp:PanX P D d h.length d.body (bM (if d.ownA then as else qD as)) h v e' h')(hpr:d.prm=none:=by rfl):CalP P D K as h v h':=by
 intro B Y r H as' hY sh hA;have main:∀(as1 as1':List AV),RnL D Y r as1 as1'→as1.length≤d.N→PanX P D d h.length d.body (bM as1) h v e' h'→FnP B P K as1' H (dP D Y r v h'):=by
  intro as1 as1' hA1 hN1 hp;refine FnP.of (ok.is K d hD hpr) (by rw[←hA1.1];exact hN1) hdf ?_;refine hp (ok.body hD) (ok.sites K d hD) B Y r (bM as1') H _ hY ⟨sh,jG hA1⟩ ?_;intro r1 v1 env1 H1 ha1 sr1 hv1;exact⟨r1,fun b c hb=>ha1 b c (sh.dom b c hb) hb,sr1.sh,hv1⟩
 cases hown:d.ownA with
 | true =>
   rw[hown]at hp;simp only[AAe]at hp;exact main as as' hA hl hp
 | false =>
   rw[hown]at hp;simp only[B8,AAd]at hp;exact FnP.nz (main _ _ hA.nz (by rw[gE];simpa using hl) hp)
theorem CalP.pure{g:Nat}{as:List AV}{v:AV}{h0:XH}(hp:CalP P D g as [] v h0)(ha:∀ a∈as,Gd a)(hv:Gd v)(h:XH):CalP P D g as h v h:=by
 intro B Y r H as' hY sh hA;have he:as'=as:=by
  apply N5;intro i;cases hi:as[i]? with
  | none=>rw[G5];rw[←hA.1];exact I9.1 hi
  | some a =>
    cases hi2:as'[i]? with
    | none=>have h1:=(A5.1 hi).1;have h2:=I9.1 hi2;have:=hA.1;omega
    | some b=>rw[((hA.2 i a b hi hi2).same (ha a (A8 hi)).gr).1]
 rw[he];have s0:SH D Y (fun _=>none) [] noH:=⟨fun b c hb=>by simp at hb,fun b c c' x y hx=>by simp[hat]at hx,fun b x hx=>by simp[hat]at hx,GhR.no fun b st p hx=>by simp[hat]at hx⟩;have h1:=hp B Y (fun _=>none) noH as hY s0 (RnL.self fun a h=>(ha a h).rn);have e0:(fun c=>if (fun _:Nat=>False) c then H c else none)=noH:=by funext c;exact if_neg (fun h=>h)
 refine FnP.mono ?_ (FnP.frameS (H:=H) (fun _=>False) (by rw[e0];exact h1));rintro v' H'' ⟨H',⟨r',k1,k2,k3⟩,e1,e2⟩;obtain⟨rfl,_⟩:=k3.same hv.gr;obtain⟨G,hG⟩:=sh.gh;refine⟨r,Sub.refl r,⟨sh.dom,sh.inj,fun b x hb=>?_,_,hG.via id (fun b st p hb=>⟨hb,rfl⟩) (fun b x hb=>.inl ⟨x,hb,rfl,fun st p e=>e⟩) (fun _ _ _ _ _ _ _ hne=>hne) fun b st p n y _ _ hy=>(e2 n (fun h=>h) y hy).1⟩,hv.rn⟩;obtain⟨c,y,a1,a2,a3⟩:=sh.blk b x hb;exact⟨c,y,a1,(e2 c (fun h=>h) y a2).1,a3⟩
end
end Go.DL
namespace Go.DL
theorem aE:(0:Nat).succ.pred.succ=(1:Nat):=rfl
theorem wU{q0 q1 q2 q3 q4 q5 q6 q7 q8 q9 q10 q11 q12 q13 q14 q15 q16 q17 q18 q19 q20 q21 q22 q23 q24 q25 p:Prop}(x0:q0)(x1:q1)(x2:q2)(x3:q3)(x4:q4)(x5:q5)(x6:q6)(x7:q7)(x8:q8)(x9:q9)(x10:q10)(x11:q11)(x12:q12)(x13:q13)(x14:q14)(x15:q15)(x16:q16)(x17:q17)(x18:q18)(x19:q19)(x20:q20)(x21:q21)(x22:q22)(x23:q23)(x24:q24)(x25:q25)(h:q0→q1→q2→q3→q4→q5→q6→q7→q8→q9→q10→q11→q12→q13→q14→q15→q16→q17→q18→q19→q20→q21→q22→q23→q24→q25→p:=by intro x0 x1 x2 x3 x4 x5 x6 x7 x8 x9 x10 x11 x12 x13 x14 x15 x16 x17 x18 x19 x20 x21 x22 x23 x24 x25; (sym=>(simp[x0,x1,x2,x3,x4,x5,x6,x7,x8,x9,x10,x11,x12,x13,x14,x15,x16,x17,x18,x19,x20,x21,x22,x23,x24,x25,Za,Zb,Zc,Zd,Ze,Zf,Zg,Zh,Zi,Zj,Zk,Zl,Zm,Zn,Zo,Zp,Zq,Zr,Zs,Zt,Zu,Zv,Zw,Zx,Zy,Zz,Z0,Z8,Z9,ZA,ZB,ZC,ZD,ZE,ZF,ZG,ZH,ZI,ZJ,ZK,ZL,ZM,ZN,ZO,ZP,ZQ,ZR,ZS,ZT,ZU,ZV,ZW,ZX,ZY,ZZ,Ya,Yb,Yc,Ye,Yf,Yg,Yh,Yi,Yj,Yk,Yl,Ym,Yn,Yo,Yp,Yq,Ys,Yt,Yu,Yv,Yw,Yx,Yy,Yz,Y4,Y5,Y6,Y7,Y8,Y9,YA,YB,YC,YD,YE,YF,YG,YH,YJ,YK,YL,YM,YO,YP,YQ,YR,YU,YV,YX,YY,YZ,Xa,Xb,Xc,Xd,Xe,Xf,Xg,Xh,Xi,Xj,Xk,Xl,Xm,Xn,Xo,Xp,Xq,Xr,Xs,Xt,Xu,Xv,Xw,Xx,Xy,Xz,XI,XJ,XL,XM,XN,XO,XW,XX,XY,XZ,Wa,Wb,We,Wf,Wg,Wh,Wi,Wj,Wk,Wl,Wm,Wn,Wo,Wp,Wq,Wr,Wt,Wu,Wv,Ww,Wx,Wy,Wz,WB,WC,WE,WF,WG,WH,WI,WJ,WK,WL,WM,WN,WO,WP,WQ,WR,WT,WU,WV,WW,WX,Va,Vb,Vc,Vd,Ve,Vf,Vg,Vh,Vi,Vj,Vk,Vl,Vm,Vo,Vp,Vq,Vr,Vs,Vt,Vu,Vv,Vw,Vx,Vy,Vz,V0,V4,V5,V6,V7,V8,V9,VA,VB,VC,VD,VE,VF,VG,VH,VI,VJ,VK,VL,VM,VN,VO,VP,VQ,VR,VS,VT,VU,VV,VW,VX,VY,VZ,Ua,Ub,Uc,Ud,Ue,Uf,Ug,Uh,Ui,Uj,Uk,Ul,Um,Un,Uo,Ur,Us,Ut,Uu,Uv,Uw,Ux,Uy,Uz,U0,U1,U2,U3,U4,U5,U6,U7,U8,U9,UA,UB,UC,UD,UE,UF,UG,UH,UI,UJ,UK,UL,UM,UN,UO,UP,UQ,UR,US,UT,UU,UV,UW,UX,UY,UZ,Ta,Tb,Tc,Td,Te,Tf,Tg,Th,Ti,Tj,Tl,Tm,Tn,Tp,Tq,Tr,Ts,Tt,Tu,Tv,Tw,Tx,Ty,Tz,TA,TB,TC,TD,TE,TF,TG,TH,TI,TJ,TK,TL,TM,TN,TO,TP,TQ,TR,TS,TT,TU,TV,TW,TX,TY,TZ,Sa,Sc,Sd,Se,Sf,Sg,Si,Sj,Sk,Sl,Sm,Sn,Sp,Sq,Sr,Ss,Su,Sv,Sw,Sx,Sy,Sz,S2,S3,S4,S5,S6,S7,S8,S9,SA,SB,SC,SD,SE,SF,SG,SI,SJ,SK,SL,SM,SN,SO,SP,SQ,SS,SU,SV,SW,SX,SY,SZ,Ra,Rb,Rc,Re,Rf,Rg,Rh,Ri,Rj,Rk,Rl,Rm,Ro,Rp,Rq,Rr,Rs,Rt,Ru,Rw,Rx,Ry,Rz,R0,RA,RC,RF,RG,RH,RI,RJ,RK,RN,RO,RP,RQ,RR,RU,RV,RW,RX,RY,RZ,Qa,Qb,Qd,Qe,Qf,Qg,Qh,Qi,Qj,Qk,Ql,Qm,Qn,Qo,Qp,Qq,Qr,Qs,Qt,Qu,Qw,Qx,Qy,Qz,Q0,QA,QB,QD,QE,QF,QG,QH,QI,QJ,QK,QL,QM,QN,QO,QQ,QR,QS,QT,QU,QV,QW,QX,QY,QZ,Pa,Pb,Pc,Pd,Pe,Pf,Pg,Ph,Pj,Pk,Pl,Pm,Pn,Po,Pp,Pq,Pr,Ps,Pt,Pu,Pv,Pw,Px,Py,Pz,P0,P8,aID,aEx];all_goals tactic=>exact rfl))):p:=h x0 x1 x2 x3 x4 x5 x6 x7 x8 x9 x10 x11 x12 x13 x14 x15 x16 x17 x18 x19 x20 x21 x22 x23 x24 x25
theorem zF{p:Prop}(h:p:=by exact wU aE aE aE aE aE aE aE aE aE aE aE aE aE aE aE aE aE aE aE aE aE aE aE aE aE aE):p:=h
theorem eD{q0 p:Prop}(x0:q0)(h:q0→p:=by intro x0;exact wU @x0 aE aE aE aE aE aE aE aE aE aE aE aE aE aE aE aE aE aE aE aE aE aE aE aE aE):p:=h x0
theorem RS2{q0 q1 p:Prop}(x0:q0)(x1:q1)(h:q0→q1→p:=by intro x0 x1;exact wU @x0 @x1 aE aE aE aE aE aE aE aE aE aE aE aE aE aE aE aE aE aE aE aE aE aE aE aE):p:=h x0 x1
theorem RS3{q0 q1 q2 p:Prop}(x0:q0)(x1:q1)(x2:q2)(h:q0→q1→q2→p:=by intro x0 x1 x2;exact wU @x0 @x1 @x2 aE aE aE aE aE aE aE aE aE aE aE aE aE aE aE aE aE aE aE aE aE aE aE):p:=h x0 x1 x2
theorem zY{q0 q1 q2 q3 p:Prop}(x0:q0)(x1:q1)(x2:q2)(x3:q3)(h:q0→q1→q2→q3→p:=by intro x0 x1 x2 x3;exact wU @x0 @x1 @x2 @x3 aE aE aE aE aE aE aE aE aE aE aE aE aE aE aE aE aE aE aE aE aE aE):p:=h x0 x1 x2 x3
theorem RS5{q0 q1 q2 q3 q4 p:Prop}(x0:q0)(x1:q1)(x2:q2)(x3:q3)(x4:q4)(h:q0→q1→q2→q3→q4→p:=by intro x0 x1 x2 x3 x4;exact wU @x0 @x1 @x2 @x3 @x4 aE aE aE aE aE aE aE aE aE aE aE aE aE aE aE aE aE aE aE aE aE):p:=h x0 x1 x2 x3 x4
theorem RS7{q0 q1 q2 q3 q4 q5 q6 p:Prop}(x0:q0)(x1:q1)(x2:q2)(x3:q3)(x4:q4)(x5:q5)(x6:q6)(h:q0→q1→q2→q3→q4→q5→q6→p:=by intro x0 x1 x2 x3 x4 x5 x6;exact wU @x0 @x1 @x2 @x3 @x4 @x5 @x6 aE aE aE aE aE aE aE aE aE aE aE aE aE aE aE aE aE aE aE):p:=h x0 x1 x2 x3 x4 x5 x6
theorem RS9{q0 q1 q2 q3 q4 q5 q6 q7 q8 p:Prop}(x0:q0)(x1:q1)(x2:q2)(x3:q3)(x4:q4)(x5:q5)(x6:q6)(x7:q7)(x8:q8)(h:q0→q1→q2→q3→q4→q5→q6→q7→q8→p:=by intro x0 x1 x2 x3 x4 x5 x6 x7 x8;exact wU @x0 @x1 @x2 @x3 @x4 @x5 @x6 @x7 @x8 aE aE aE aE aE aE aE aE aE aE aE aE aE aE aE aE aE):p:=h x0 x1 x2 x3 x4 x5 x6 x7 x8
theorem xY{q0 q1 q2 q3 q4 q5 q6 q7 q8 q9 p:Prop}(x0:q0)(x1:q1)(x2:q2)(x3:q3)(x4:q4)(x5:q5)(x6:q6)(x7:q7)(x8:q8)(x9:q9)(h:q0→q1→q2→q3→q4→q5→q6→q7→q8→q9→p:=by intro x0 x1 x2 x3 x4 x5 x6 x7 x8 x9;exact wU @x0 @x1 @x2 @x3 @x4 @x5 @x6 @x7 @x8 @x9 aE aE aE aE aE aE aE aE aE aE aE aE aE aE aE aE):p:=h x0 x1 x2 x3 x4 x5 x6 x7 x8 x9
theorem aBY{q0 q1 q2 q3 q4 q5 q6 q7 q8 q9 q10 q11 q12 p:Prop}(x0:q0)(x1:q1)(x2:q2)(x3:q3)(x4:q4)(x5:q5)(x6:q6)(x7:q7)(x8:q8)(x9:q9)(x10:q10)(x11:q11)(x12:q12)(h:q0→q1→q2→q3→q4→q5→q6→q7→q8→q9→q10→q11→q12→p:=by intro x0 x1 x2 x3 x4 x5 x6 x7 x8 x9 x10 x11 x12;exact wU @x0 @x1 @x2 @x3 @x4 @x5 @x6 @x7 @x8 @x9 @x10 @x11 @x12 aE aE aE aE aE aE aE aE aE aE aE aE aE):p:=h x0 x1 x2 x3 x4 x5 x6 x7 x8 x9 x10 x11 x12
theorem xX{q0 q1 q2 q3 q4 q5 q6 q7 q8 q9 q10 q11 q12 q13 q14 q15 q16 q17 q18 q19 p:Prop}(x0:q0)(x1:q1)(x2:q2)(x3:q3)(x4:q4)(x5:q5)(x6:q6)(x7:q7)(x8:q8)(x9:q9)(x10:q10)(x11:q11)(x12:q12)(x13:q13)(x14:q14)(x15:q15)(x16:q16)(x17:q17)(x18:q18)(x19:q19)(h:q0→q1→q2→q3→q4→q5→q6→q7→q8→q9→q10→q11→q12→q13→q14→q15→q16→q17→q18→q19→p:=by intro x0 x1 x2 x3 x4 x5 x6 x7 x8 x9 x10 x11 x12 x13 x14 x15 x16 x17 x18 x19;exact wU @x0 @x1 @x2 @x3 @x4 @x5 @x6 @x7 @x8 @x9 @x10 @x11 @x12 @x13 @x14 @x15 @x16 @x17 @x18 @x19 aE aE aE aE aE aE):p:=h x0 x1 x2 x3 x4 x5 x6 x7 x8 x9 x10 x11 x12 x13 x14 x15 x16 x17 x18 x19
end Go.DL
