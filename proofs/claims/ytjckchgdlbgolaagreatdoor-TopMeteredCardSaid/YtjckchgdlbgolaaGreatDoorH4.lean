/- Parts of a proof, joined: XV RSX. No statement of the seed is proved here. -/
import Derived.Test.YtjckchgdlbgolaaGreatDoorH3
set_option linter.unusedSimpArgs false
set_option linter.unusedVariables false
set_option linter.unusedSectionVars false
set_option maxRecDepth 100000
namespace Go.DL
section
section
variable{P:Program}{D:Nat→Option XFn}{d:XFn}{K k:Nat}{e:aH}{h:XH}

def PanX(P:Program)(D:Nat→Option XFn)(d:XFn)(k:Nat)(c:XCode)(e:aH)(h:XH)(v:AV)(e':aH)(h':XH):Prop :=
 nA c=true→fW d c→∀(B:Base)(Y:Nat→Option YI)(r:Nat→Option Nat)(env:aH)(H:Hp)(Q:QP),YOk P B D Y→SR D Y r e h env H→bDv D Y k r v e' h' Q→WPD B P none d.N c.erase Q env H
def CalP(P:Program)(D:Nat→Option XFn)(g:Nat)(all:List AV)(h:XH)(v:AV)(h':XH):Prop :=
 ∀(B:Base)(Y:Nat→Option YI)(r:Nat→Option Nat)(H:Hp)(all':List AV),YOk P B D Y→SH D Y r h H→RnL D Y r all all'→FnP B P g all' H (fH D Y r v h')

def rJ(L:List Nat)(r:Option (DX×aH×XH)):Option (DX×List AV×XH):=r.map fun q=>(q.1,L.map q.2.1,q.2.2)
theorem SR.cut{Y:Nat→Option YI}{r:Nat→Option Nat}{env:aH}{H:Hp}(sr:SR D Y r e h env H)(L:List Nat):SR D Y r (aZ L (L.map e)) h env H:=⟨sr.sh,fun j=>by
 rcases aDJ e L j with h1|h1;·rw[h1];exact sr.re j
 ·rw[h1];exact .any _⟩

theorem uV(ok:XOk P D)(hD:D K=some d){code:XCode}{x:DX}{e':aH}{h':XH}(hx:execW D K k none code e h=some (x,e',h')){B:Base}{Y:Nat→Option YI}{r:Nat→Option Nat}{env:aH}{H:Hp}{Q:QC}
 (hY:YOk P B D Y) (hok:nA code=true) (hs:fW d code) (sr:SR D Y r e h env H) (hK:∀ r' env' H',Agree k r r'→SR D Y r' e' h' env' H'→Q x env' H'):WD B P none d.N code.erase Q env H:=by
 obtain⟨n,hn⟩:=aN.1 hx;exact lL hD ok.mixed (fun B Y hY=>mY ok n B Y hY) k n none none code B Y r e h env H x e' h' Q hY hok hs rfl sr hn hK

theorem PanX.seqR(ok:XOk P D)(hD:D K=some d){a b:XCode}(L:List Nat){vs:List AV}{h1 h':XH}{v:AV}{e':aH}(hx:rJ L (execW D K k none a e h)=some (.normal,vs,h1))(hb:PanX P D d k b (aZ L vs) h1 v e' h'):PanX P D d k (.seq a b) e h v e' h':=by
 intro hok hs B Y r env H Q hY sr hK;simp only[nA,A4]at hok;unfold rJ at hx;rw[A3]at hx;obtain⟨⟨x,e1,h2⟩,hx,he⟩:=hx;simp only[A7]at he;obtain⟨rfl,rfl,rfl⟩:=he;exact WPD.seq2 (uV ok hD hx hY hok.1 hs.1 sr fun r' env' H' ha sr'=>⟨rfl,hb hok.2 hs.2 B Y r' env' H' Q hY (sr'.cut L) fun r2 v2 env2 H2 ha2 sr2 hv2=>hK r2 v2 env2 H2 (ha.trans ha2) sr2 hv2⟩)
theorem PanX.seqL{a b:XCode}{v:AV}{e':aH}{h':XH}(ha:PanX P D d k a e h v e' h'):PanX P D d k (.seq a b) e h v e' h':=by
 intro hok hs B Y r env H Q hY sr hK;simp only[nA,A4]at hok;exact WPD.seq1 (ha hok.1 hs.1 B Y r env H Q hY sr hK)
theorem PanX.condT{c:AO}{a b:XCode}{v:AV}{e':aH}{h':XH}(hc:aL e c = .bool true)(ha:PanX P D d k a e h v e' h'):PanX P D d k (.cond c a b) e h v e' h':=by
 intro hok hs B Y r env H Q hY sr hK;simp only[nA,A4]at hok;have h1:=aP sr.re (x:=c) hok.1;rw[hc]at h1;exact WPD.cond (t:=true) (eW h1) (ha hok.2.1 hs.1 B Y r env H Q hY sr hK)
theorem PanX.condF{c:AO}{a b:XCode}{v:AV}{e':aH}{h':XH}(hc:aL e c = .bool false)(hb:PanX P D d k b e h v e' h'):PanX P D d k (.cond c a b) e h v e' h':=by
 intro hok hs B Y r env H Q hY sr hK;simp only[nA,A4]at hok;have h1:=aP sr.re (x:=c) hok.1;rw[hc]at h1;exact WPD.cond (t:=false) (eW h1) (hb hok.2.2 hs.2 B Y r env H Q hY sr hK)
theorem PanX.block{id:Nat}{a:XCode}{v:AV}{e':aH}{h':XH}(ha:PanX P D d k a e h v e' h'):PanX P D d k (.block id a) e h v e' h' :=
 fun hok hs B Y r env H Q hY sr hK=>WPD.block (ha (by simpa [nA]using hok) hs B Y r env H Q hY sr hK)
theorem PanX.loop(ok:XOk P D)(hD:D K=some d){L:List Nat}{a:XCode}{v:AV}{e':aH}{h':XH}(n:Nat)(S:Nat→List AV)(G:Nat→XH)(h0:bP k L (some (.normal,e,h))=some (S 0,G 0))
 (hs:∀ i,i<n→bP k L (execW D K k none a (aZ L (S i)) (G i))=some (S (i+1),G (i+1))) (hp:PanX P D d k a (aZ L (S n)) (G n) v e' h'):PanX P D d k (.loop L a) e h v e' h':=by
 intro hok hst B Y r env H Q hY sr hK;have key:∀(m i:Nat)(e:aH)(h:XH)(r1:Nat→Option Nat)(env1:aH)(H1:Hp),m+i=n→bP k L (some (.normal,e,h))=some (S i,G i)→Agree k r r1→SR D Y r1 e h env1 H1→aLv B P none d.N a.erase Q m env1 H1:=by
  intro m;induction m with
  | zero =>
    intro i e h r1 env1 H1 hi h0 ha sr1;have:i=n:=AM
    subst this;simp only[bP,oSI,A7]at h0;obtain⟨r2,ha2,sr2⟩:=mH sr1 k L;have e1:jO k L e h=aZ L (S i):=by rw[←h0.1];rfl
    rw[e1,h0.2]at sr2;exact hp (by simpa [nA]using hok) hst B Y r2 env1 H1 Q hY sr2 fun r3 v3 env3 H3 ha3 sr3 hv3=>hK r3 v3 env3 H3 ((ha.trans ha2).trans ha3) sr3 hv3
  | succ m ih =>
    intro i e h r1 env1 H1 hi h0 ha sr1;simp only[bP,oSI,A7]at h0;obtain⟨r2,ha2,sr2⟩:=mH sr1 k L;have e1:jO k L e h=aZ L (S i):=by rw[←h0.1];rfl
    rw[e1,h0.2]at sr2;have hx:=hs i AM;cases hq:execW D K k none a (aZ L (S i)) (G i)with
    | none=>rw[hq]at hx;simp[bP]at hx
    | some q =>
      obtain⟨x,e3,h3⟩:=q;rw[hq]at hx;cases x with
      | normal=>exact uV ok hD hq hY (by simpa [nA]using hok) hst sr2 fun r3 env3 H3 ha3 sr3=>⟨rfl,ih (i+1) e3 h3 r3 env3 H3 AM hx ((ha.trans ha2).trans ha3) sr3⟩
      | exit id=>simp[bP]at hx
      | ret=>simp[bP]at hx
      | goto l=>simp[bP]at hx
 exact WPD.loop (key n 0 e h r env H AM h0 (Agree.refl _ _) sr)

theorem aVy{B:Base}{Y:Nat→Option YI}{run:eA}{runY:fA}(hf:FnS P B D Y run)(hy:YS P B D Y runY):∀(p rest:List DOper)(r:Nat→Option Nat)(e:aH)(h:XH)(env:aH)(H:Hp)(e1:aH)(h1:XH)(Q:QP),uE p=true→SR D Y r e h env H →
 fI run runY p e h=some (e1,h1)→(∀ r' env' H',Sub r r'→SR D Y r' e1 h1 env' H'→RSP B P rest Q env' H')→RSP B P (p++rest) Q env H:=by
 intro p;induction p with
 | nil =>
   intro rest r e h env H e1 h1 Q _ sr hx hK;simp only[fI,oSI,A7]at hx
   grind [Sub.refl]
 | cons o p ih =>
   intro rest r e h env H e1 h1 Q hok sr hx hK;simp only[uE,N5,A4]at hok;simp only[fI]at hx;refine .inr ?_;split at hx
   ·rename_i hg
    simp only[B9]at hx;obtain⟨s,hx1,hx2⟩:=hx;simp only[opW,aAl sr hg];exact gV hf hy sr hok.1 (e':=s.1) (h':=s.2) hx1 fun r' env' H' hs sr'=>ih rest r' s.1 s.2 env' H' e1 h1 Q hok.2 sr' hx2 fun r2 env2 H2 hs2 sr2=>hK r2 env2 H2 (hs.trans hs2) sr2
   ·rename_i hg
    simp only[opW,aAl sr hg];exact ih rest r _ h _ H e1 h1 Q hok.2 (sr.put (Sub.refl r) sr.sh (.tup [] [] rfl (by simp)) o.dst) hx hK
   ·simp at hx
def atX(f:AO)(xs:List AO)(L:List Nat)(r:Option (aH×XH)):Option (AV×List AV×List AV×XH):=r.map fun s=>(aL s.1 f,xs.map (aL s.1),L.map s.1,s.2)
theorem aPf{B:Base}{Y:Nat→Option YI}{r:Nat→Option Nat}{env:aH}{H:Hp}(sr:SR D Y r e h env H)(hY:YOk P B D Y){ix:Nat}{dst:Option Nat}{f:AO}{xs:List AO}{l:List Nat}(hok:iE (.callf false f xs l)=true)(hm:zZ f=true)
 {g:Nat} {first cap:List AV} (hf:aL e f = .fn (.func g) first cap) {v:AV} {h':XH} (hp:CalP P D g (first++xs.map (aL e)++cap) h v h') {Q:QP} (L:List Nat) (hK:bDu D Y r v (aZ L (L.map e)) h' Q):opP B P ⟨ix,dst,.callf false f xs l,none⟩ Q env H:=by
 refine⟨rfl,fun tab k hh=>by subst hh;simp[zZ]at hm,?_⟩;simp only[iE,A4]at hok;have h1:=aP sr.re (x:=f) hok.1;rw[hf]at h1;cases hv:aL env f<;>rw[hv]at h1<;>cases h1
 rename_i first' cap' hf0 hl1 k1 hl2 k2;show FnP B P g (first'++xs.map (aL env)++cap') H _;refine FnP.mono ?_ (hp B Y r H _ hY sr.sh (RnL.append (RnL.append ⟨hl1,k1⟩ (vO sr.re hok.2)) ⟨hl2,k2⟩));rintro v' H' ⟨r',q1,q2,q3⟩;exact hK r' v' env H' q1 ⟨q2,fun j=>((sr.cut L).re j).mono q1⟩ q3
theorem PanX.reg(ok:XOk P D){fz:List (Nat×Bool)}{p post:List DOper}{ix:Nat}{dst:Option Nat}{f:AO}{xs:List AO}{l:List Nat}(L:List Nat){g:Nat}{first cap args vs:List AV}{h1 h':XH}{v:AV}(hm:zZ f=true)
 (hcm:(p++⟨ix,dst,.callf false f xs l,none⟩::post).any (fun o=>o.op.isComm)=false) (hx:atX f xs L (xo none (runW D) (runYW D) p (fzX fz e h).1 (fzX fz e h).2)=some (.fn (.func g) first cap,args,vs,h1))
 (hp:CalP P D g (first++args++cap) h1 v h'):PanX P D d k (.reg fz false (p++⟨ix,dst,.callf false f xs l,none⟩::post)) e h v (aZ L vs) h':=by
 intro hok hs B Y r env H Q hY sr hK;simp only[nA]at hok;obtain⟨env1,H1,k1,k2⟩:=vZ sr fz;refine WPD.shift k1 (WPD.reg (fun o ho=>?_) ?_);·rfl
 ·unfold atX at hx
  rw[A3]at hx;obtain⟨⟨e2,h2⟩,hx,he⟩:=hx;simp only[A7]at he;obtain⟨q1,rfl,rfl,rfl⟩:=he;have hx:fI (runW D) (runYW D) p (fzX fz e h).1 (fzX fz e h).2=some (e2,h2):=hx;obtain⟨n,hn⟩:=aHf.1 hx;simp only[uE,aD4,N5,A4]at hok;obtain⟨s1,s2⟩:=mY ok n B Y hY;refine aVy s1 s2 p _ r _ _ env1 H1 e2 h2 Q hok.1 k2 hn fun r' env' H' hs sr'=>.inl (aPf sr' hY hok.2.1 hm q1 hp L fun r2 v2 env2 H2 hs2 sr2 hv2=>hK r2 v2 env2 H2 ((hs.trans hs2).agree k) sr2 hv2)
theorem PanX.regD(ok:XOk P D){fz:List (Nat×Bool)}{p post:List DOper}{ix:Nat}{dst:Option Nat}{f:AO}{xs:List AO}{l:List Nat}(L:List Nat){g:Nat}{first cap args vs:List AV}{h1 h':XH}{v:AV}(hm:zZ f=true)
 (hpan:aKK p ⟨ix,dst,.callf false f xs l,none⟩ post=true) (hx:atX f xs L (xo (some []) (runW D) (runYW D) p (aBH (sJ post) (fzX fz e h).1) (fzX fz e h).2)=some (.fn (.func g) first cap,args,vs,h1))
 (hp:CalP P D g (first++args++cap) h1 v h'):PanX P D d k (.reg fz true (p++⟨ix,dst,.callf false f xs l,none⟩::post)) e h v (aZ L vs) h':=by
 intro hok hs B Y r env H Q hY sr hK;simp only[nA]at hok;obtain⟨env1,H1,k1,k2⟩:=vZ sr fz;refine WPD.shift k1 (WPD.regD ok.mixed hpan ?_);have k3:SR D Y r (aBH (sJ post) (fzX fz e h).1) (fzX fz e h).2 (aBH (sJ post) env1) H1:=⟨k2.sh,fun j=>by
  simp only[aBH];split;·exact .any _
  ·exact k2.re j⟩
 unfold atX at hx;rw[A3]at hx;obtain⟨⟨e2,h2⟩,hx,he⟩:=hx;simp only[A7]at he;obtain⟨q1,rfl,rfl,rfl⟩:=he;have hx:fM (runW D) (runYW D) p (aBH (sJ post) (fzX fz e h).1) (fzX fz e h).2 []=some (e2,h2):=hx;obtain⟨n,hn⟩:=aEG.1 hx;simp only[uE,aD4,N5,A4]at hok;obtain⟨s1,s2⟩:=mY ok n B Y hY;exact aBb s1 s2 p r _ _ [] _ H1 noL e2 h2 _ hok.1 k3 ⟨by simp,fun j c hj=>by simp[noL]at hj⟩ hn fun r' env' H' hs sr' =>
  aPf sr' hY hok.2.1 hm q1 hp L fun r2 v2 env2 H2 hs2 sr2 hv2=>hK r2 v2 env2 H2 ((hs.trans hs2).agree k) sr2 hv2

def aMN:List Nat→aH→aH
 | [],e=>e
 | j::l,e=>upd (aMN l e) j .any
theorem aLd{e:aH}:aMN [] e=e:=rfl
theorem aGR{j:Nat}{l:List Nat}{e:aH}:aMN (j::l) e=upd (aMN l e) j .any:=rfl
theorem aQL(e:aH):∀(l:List Nat),aBH l e=aMN l e
 | []=>rfl
 | j::l=>by
   funext i;have ih:=congrFun (aQL e l) i;simp only[aBH]at ih;simp only[aBH,aGR,upd,List.contains_cons]
   grind
theorem PanX.regU(ok:XOk P D){fz:List (Nat×Bool)}{p post:List DOper}{ix:Nat}{dst:Option Nat}{f:AO}{xs:List AO}{l:List Nat}(L:List Nat)(fr:List Nat){g:Nat}{first cap args vs:List AV}{h1 h':XH}{v:AV}(hm:zZ f=true)
 (hpan:aKK p ⟨ix,dst,.callf false f xs l,none⟩ post=true) (hfr:sJ post=fr) (hx:atX f xs L (xo (some []) (runW D) (runYW D) p (aMN fr (fzX fz e h).1) (fzX fz e h).2)=some (.fn (.func g) first cap,args,vs,h1))
 (hp:CalP P D g (first++args++cap) h1 v h'):PanX P D d k (.reg fz true (p++⟨ix,dst,.callf false f xs l,none⟩::post)) e h v (aZ L vs) h' :=
 PanX.regD ok L hm hpan (by grind [aQL]) hp
theorem CalP.of(ok:XOk P D)(hD:D K=some d){as:List AV}{v:AV}{e':aH}{h':XH}(hl:as.length≤d.N)(hdf:d.dfr=none)(hp:PanX P D d h.length d.body (aV (if d.ownA then as else lT as)) h v e' h')(hpr:d.prm=none:=by rfl):CalP P D K as h v h':=by
 intro B Y r H as' hY sh hA;have main:∀(as1 as1':List AV),RnL D Y r as1 as1'→as1.length≤d.N→PanX P D d h.length d.body (aV as1) h v e' h'→FnP B P K as1' H (fH D Y r v h'):=by
  intro as1 as1' hA1 hN1 hp;refine FnP.of (ok.is K d hD hpr) (by rw[←hA1.1];exact hN1) rfl ?_;refine hp (ok.body hD) (ok.sites K d hD) B Y r (aV as1') H _ hY ⟨sh,nE hA1⟩ ?_;intro r1 v1 env1 H1 ha1 sr1 hv1;exact⟨r1,fun b c hb=>ha1 b c (sh.dom b c hb) hb,sr1.sh,hv1⟩
 cases hown:d.ownA with
 | true =>
   grind
 | false =>
   rw[hown]at hp;simp only[B8,AAd]at hp;exact FnP.nz (main _ _ hA.nz (by grind [lS]) hp)
theorem CalP.pure{g:Nat}{as:List AV}{v:AV}{h0:XH}(hp:CalP P D g as [] v h0)(ha:∀ a∈as,Gd a)(hv:Gd v)(h:XH):CalP P D g as h v h:=by
 intro B Y r H as' hY sh hA;have he:as'=as:=by
  apply J1;intro i;cases hi:as[i]? with
  | none=>simp_all [RnL]
  | some a =>
    cases hi2:as'[i]? with
    | none=>simp_all [RnL]
    | some b=>rw[((hA.2 i a b hi hi2).same (ha a (A5 hi)).gr).1]
 rw[he];have s0:SH D Y (fun _=>none) [] noH:=⟨fun b c hb=>by simp at hb,fun b c c' x y hx=>by grind,fun b x hx=>by simp[hat]at hx,GhR.no fun b st p hx=>by simp[hat]at hx⟩;have h1:=hp B Y (fun _=>none) noH as hY s0 (RnL.self fun a h=>(ha a h).rn);have e0:(fun c=>if (fun _:Nat=>False) c then H c else none)=noH:=by rfl
 refine FnP.mono ?_ (FnP.frameS (H:=H) (fun _=>False) (by rw[e0];exact h1));rintro v' H'' ⟨H',⟨r',k1,k2,k3⟩,e1,e2⟩;obtain⟨rfl,_⟩:=k3.same hv.gr;obtain⟨G,hG⟩:=sh.gh;refine⟨r,Sub.refl r,⟨sh.dom,sh.inj,fun b x hb=>?_,_,hG.via id (fun b st p hb=>⟨hb,rfl⟩) (fun b x hb=>.inl ⟨x,hb,rfl,fun st p e=>e⟩) (fun _ _ _ _ _ _ _ hne=>hne) fun b st p n y _ _ hy=>(e2 n (fun h=>h) y hy).1⟩,hv.rn⟩;obtain⟨c,y,a1,a2,a3⟩:=sh.blk b x hb
 grind
end
end
section
theorem aG:(0:Nat).succ.pred.succ=(1:Nat):=rfl
theorem vG{q0 q1 q2 q3 q4 q5 q6 q7 q8 q9 q10 q11 q12 q13 q14 q15 q16 q17 q18 q19 q20 q21 q22 q23 q24 q25 p:Prop}(x0:q0)(x1:q1)(x2:q2)(x3:q3)(x4:q4)(x5:q5)(x6:q6)(x7:q7)(x8:q8)(x9:q9)(sW:q10)(x11:q11)(x12:q12)(x13:q13)(x14:q14)(x15:q15)(x16:q16)(x17:q17)(x18:q18)(x19:q19)(x20:q20)(x21:q21)(x22:q22)(x23:q23)(x24:q24)(x25:q25)(h:q0→q1→q2→q3→q4→q5→q6→q7→q8→q9→q10→q11→q12→q13→q14→q15→q16→q17→q18→q19→q20→q21→q22→q23→q24→q25→p:=by intro x0 x1 x2 x3 x4 x5 x6 x7 x8 x9 sW x11 x12 x13 x14 x15 x16 x17 x18 x19 x20 x21 x22 x23 x24 x25; (sym=>(simp[x0,x1,x2,x3,x4,x5,x6,x7,x8,x9,sW,x11,x12,x13,x14,x15,x16,x17,x18,x19,x20,x21,x22,x23,x24,x25,Za,Zb,Zc,Zd,Ze,Zf,Zg,Zh,Zi,Zj,Zk,Zl,Zm,Zn,Zo,Zp,Zq,Zr,Zs,Zt,Zu,Zv,Zw,Zx,Zy,Zz,Z0,Z8,Z9,ZA,ZB,ZC,ZD,ZE,ZF,ZG,ZH,ZI,ZJ,ZK,ZL,ZM,ZN,ZO,ZP,ZQ,ZR,ZS,ZT,ZU,ZV,ZW,ZX,ZY,ZZ,Ya,Yb,Yc,Ye,Yf,Yg,Yh,Yi,Yj,Yk,Yl,Ym,Yn,Yo,Yp,Yq,Yr,Ys,Yt,Yu,Yv,Yw,Yx,Yy,Yz,Y4,Y5,Y6,Y7,Y8,Y9,YA,YB,YC,YD,YE,YF,YG,YH,YJ,YK,YL,YM,YN,YO,YP,YQ,YR,YT,YU,YV,YX,YY,YZ,Xa,Xb,Xc,Xd,Xe,Xf,Xg,Xh,Xi,Xj,Xk,Xl,Xm,Xn,Xo,Xp,Xq,Xr,Xs,Xt,Xu,Xv,Xw,Xx,Xy,Xz,XI,XJ,XL,XM,XN,XO,XW,XX,XY,XZ,Wa,Wb,Wc,We,Wf,Wg,Wh,Wi,Wj,Wk,Wl,Wm,Wn,Wo,Wp,Wq,Wr,Wu,Wv,Ww,Wy,Wz,W3,W4,W5,W6,W7,W8,W9,WA,WB,WC,WE,WF,WG,WH,WI,WJ,WK,WL,WM,WN,WO,WP,WQ,WR,WS,WT,WU,WV,WW,WX,WY,WZ,Va,Vb,Vc,Vd,Ve,Vf,Vg,Vh,Vi,Vj,Vk,Vl,Vm,Vn,Vo,Vp,Vq,Vr,Vs,Vt,Vu,Vv,Vw,Vx,Vy,Vz,V0,V1,V2,V3,V4,V5,V6,V7,V8,V9,VA,VB,VC,VD,VE,VF,VG,VH,VI,VJ,VK,VL,VM,VN,VO,VP,VQ,VR,VS,VT,VU,VV,VW,VX,VY,VZ,Ua,Ub,Uc,Ud,Ue,Uf,Ug,Uh,Ui,Uj,Uk,Ul,Um,Un,Uo,Ur,Us,Ut,Uu,Uv,Uw,Ux,Uy,Uz,U0,U6,U7,U8,U9,UA,UB,UC,UD,UE,UF,UG,UH,UI,UJ,UK,UL,UM,UN,UO,UP,UQ,UR,US,UT,UU,UV,UW,UX,UY,UZ,Ta,Tb,Tc,Td,Te,Tf,Tg,Th,Ti,Tj,Tl,Tm,Tn,Tp,Tq,Tr,Ts,Tt,Tu,Tv,Tw,Tx,Ty,Tz,T0,T1,T2,T3,T4,T5,T6,T7,T8,T9,TR,TS,TT,TU,TV,TW,TX,TY,TZ,Sa,Sc,Sd,Se,Sf,Sg,Si,Sj,Sk,Sl,Sm,Sn,Sp,Sq,Sr,Ss,Su,Sv,Sw,Sx,Sy,Sz,S2,S3,S4,S5,S6,S7,S8,S9,SA,SB,SC,SD,SE,SF,SG,SI,SJ,SK,SL,SM,SN,SO,SP,SQ,SS,SU,SV,SW,SX,SY,SZ,Ra,Rb,Rc,Re,Rf,Rg,Rh,Ri,Rj,Rk,Rl,Rm,Ro,Rp,Rq,Rr,Rs,Rt,Ru,Rw,Rx,Ry,Rz,RA,RC,RF,RG,RH,RI,RJ,RK,RN,RO,RP,RQ,RR,RU,RV,RW,RX,RY,RZ,Qa,Qb,Qd,Qe,Qf,Qg,Qh,Qi,Qj,Qk,Ql,Qm,Qn,Qo,Qp,Qq,Qr,Qs,Qt,Qu,Qw,Qx,Qy,Qz,Q0,QA,QB,QD,QE,QF,QG,QH,QI,QJ,QK,QL,QM,QN,QO,QQ,QR,QS,QT,QU,QV,QW,QX,QY,QZ,Pa,Pb,Pc,Pd,Pe,Pf,Pg,Ph,Pj,Pk,Pl,Pm,Pn,Po,Pp,Pq,Pr,Ps,Pt,Pu,Pv,Pw,Px,Py,Pz,P0,P8,P9,PA,PB,PC,PD,PE,PG,PH,PI,PJ,PK,PL,PM,PN,PO,PP,PQ,PR,PS,PT,PU,PV,PW,PX,PY,aLd,aGR];all_goals tactic=>exact rfl))):p:=h x0 x1 x2 x3 x4 x5 x6 x7 x8 x9 sW x11 x12 x13 x14 x15 x16 x17 x18 x19 x20 x21 x22 x23 x24 x25
theorem RS0{p:Prop}(h:p:=by exact vG aG aG aG aG aG aG aG aG aG aG aG aG aG aG aG aG aG aG aG aG aG aG aG aG aG aG):p:=h
theorem dG{q0 p:Prop}(x0:q0)(h:q0→p:=by intro x0;exact vG @x0 aG aG aG aG aG aG aG aG aG aG aG aG aG aG aG aG aG aG aG aG aG aG aG aG aG):p:=h x0
theorem RS2{q0 q1 p:Prop}(x0:q0)(x1:q1)(h:q0→q1→p:=by intro x0 x1;exact vG @x0 @x1 aG aG aG aG aG aG aG aG aG aG aG aG aG aG aG aG aG aG aG aG aG aG aG aG):p:=h x0 x1
theorem RS3{q0 q1 q2 p:Prop}(x0:q0)(x1:q1)(x2:q2)(h:q0→q1→q2→p:=by intro x0 x1 x2;exact vG @x0 @x1 @x2 aG aG aG aG aG aG aG aG aG aG aG aG aG aG aG aG aG aG aG aG aG aG aG):p:=h x0 x1 x2
theorem RS4{q0 q1 q2 q3 p:Prop}(x0:q0)(x1:q1)(x2:q2)(x3:q3)(h:q0→q1→q2→q3→p:=by intro x0 x1 x2 x3;exact vG @x0 @x1 @x2 @x3 aG aG aG aG aG aG aG aG aG aG aG aG aG aG aG aG aG aG aG aG aG aG):p:=h x0 x1 x2 x3
theorem RS5{q0 q1 q2 q3 q4 p:Prop}(x0:q0)(x1:q1)(x2:q2)(x3:q3)(x4:q4)(h:q0→q1→q2→q3→q4→p:=by intro x0 x1 x2 x3 x4;exact vG @x0 @x1 @x2 @x3 @x4 aG aG aG aG aG aG aG aG aG aG aG aG aG aG aG aG aG aG aG aG aG):p:=h x0 x1 x2 x3 x4
theorem RS7{q0 q1 q2 q3 q4 q5 q6 p:Prop}(x0:q0)(x1:q1)(x2:q2)(x3:q3)(x4:q4)(x5:q5)(x6:q6)(h:q0→q1→q2→q3→q4→q5→q6→p:=by intro x0 x1 x2 x3 x4 x5 x6;exact vG @x0 @x1 @x2 @x3 @x4 @x5 @x6 aG aG aG aG aG aG aG aG aG aG aG aG aG aG aG aG aG aG aG):p:=h x0 x1 x2 x3 x4 x5 x6
theorem RS9{q0 q1 q2 q3 q4 q5 q6 q7 q8 p:Prop}(x0:q0)(x1:q1)(x2:q2)(x3:q3)(x4:q4)(x5:q5)(x6:q6)(x7:q7)(x8:q8)(h:q0→q1→q2→q3→q4→q5→q6→q7→q8→p:=by intro x0 x1 x2 x3 x4 x5 x6 x7 x8;exact vG @x0 @x1 @x2 @x3 @x4 @x5 @x6 @x7 @x8 aG aG aG aG aG aG aG aG aG aG aG aG aG aG aG aG aG):p:=h x0 x1 x2 x3 x4 x5 x6 x7 x8
theorem pE{q0 q1 q2 q3 q4 q5 q6 q7 q8 q9 p:Prop}(x0:q0)(x1:q1)(x2:q2)(x3:q3)(x4:q4)(x5:q5)(x6:q6)(x7:q7)(x8:q8)(x9:q9)(h:q0→q1→q2→q3→q4→q5→q6→q7→q8→q9→p:=by intro x0 x1 x2 x3 x4 x5 x6 x7 x8 x9;exact vG @x0 @x1 @x2 @x3 @x4 @x5 @x6 @x7 @x8 @x9 aG aG aG aG aG aG aG aG aG aG aG aG aG aG aG aG):p:=h x0 x1 x2 x3 x4 x5 x6 x7 x8 x9
theorem oI{q0 q1 q2 q3 q4 q5 q6 q7 q8 q9 q10 q11 q12 p:Prop}(x0:q0)(x1:q1)(x2:q2)(x3:q3)(x4:q4)(x5:q5)(x6:q6)(x7:q7)(x8:q8)(x9:q9)(sW:q10)(x11:q11)(x12:q12)(h:q0→q1→q2→q3→q4→q5→q6→q7→q8→q9→q10→q11→q12→p:=by intro x0 x1 x2 x3 x4 x5 x6 x7 x8 x9 sW x11 x12;exact vG @x0 @x1 @x2 @x3 @x4 @x5 @x6 @x7 @x8 @x9 @sW @x11 @x12 aG aG aG aG aG aG aG aG aG aG aG aG aG):p:=h x0 x1 x2 x3 x4 x5 x6 x7 x8 x9 sW x11 x12
theorem lR{q0 q1 q2 q3 q4 q5 q6 q7 q8 q9 q10 q11 q12 q13 q14 q15 q16 q17 q18 q19 p:Prop}(x0:q0)(x1:q1)(x2:q2)(x3:q3)(x4:q4)(x5:q5)(x6:q6)(x7:q7)(x8:q8)(x9:q9)(sW:q10)(x11:q11)(x12:q12)(x13:q13)(x14:q14)(x15:q15)(x16:q16)(x17:q17)(x18:q18)(x19:q19)(h:q0→q1→q2→q3→q4→q5→q6→q7→q8→q9→q10→q11→q12→q13→q14→q15→q16→q17→q18→q19→p:=by intro x0 x1 x2 x3 x4 x5 x6 x7 x8 x9 sW x11 x12 x13 x14 x15 x16 x17 x18 x19;exact vG @x0 @x1 @x2 @x3 @x4 @x5 @x6 @x7 @x8 @x9 @sW @x11 @x12 @x13 @x14 @x15 @x16 @x17 @x18 @x19 aG aG aG aG aG aG):p:=h x0 x1 x2 x3 x4 x5 x6 x7 x8 x9 sW x11 x12 x13 x14 x15 x16 x17 x18 x19
end
end Go.DL
