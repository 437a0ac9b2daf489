/- Parts of a proof, joined. No statement of the seed is proved here. -/
import Derived.OpenShut
import Derived.RecoverIn
import Derived.Test.YtmapgnepfgnphaaGreatDoorH2
set_option linter.unusedSimpArgs false
set_option linter.unusedVariables false
set_option linter.unusedSectionVars false
set_option maxRecDepth 100000
namespace Go.DL
section
section
variable{P:Program}{B:Base}{D:Nat→Option XFn}{Y:Nat→Option YI}{r:Nat→Option Nat}{e env:aI}{h:XH}{H:Hp}
theorem sL{as as':List AV}(h:RnL D Y r as as')(j:Nat):Rn D Y r (aT as j) (aT as' j):=by
 unfold aT;rw[C9,C9];cases hx:as[j]? with
 | none=>exact .any _
 | some x =>
   grind [RnL]
theorem aGK(sr:SR D Y r e h env H){rs:List (Nat×Option (Bool×Nat))}{v:AV}(hv:iZ rs e (aG h)=some v):∃ v',iZ rs env H=some v'∧Rn D Y r v v':=by
 have one:∀{p:Nat×Option (Bool×Nat)}{v:AV},vX e (aG h) p=some v→∃ v',vX env H p=some v'∧Rn D Y r v v':=by
  intro p v hv;obtain⟨t,o⟩:=p;cases o with
  | none=>simp only[vX,oSI]at hv ⊢;subst hv;exact⟨_,rfl,sr.re t⟩
  | some q =>
    obtain⟨g,n⟩:=q;simp only[vX]at hv ⊢;exact aIk sr.sh (sr.re t) hv
 have lst:∀(rs:List (Nat×Option (Bool×Nat)))(vs:List AV),yI e (aG h) rs=some vs→∃ vs',yI env H rs=some vs'∧RnL D Y r vs vs':=by
  intro rs;induction rs with
  | nil=>intro vs hv;simp only[yI,oSI]at hv;subst hv;exact⟨[],rfl,RnL.nil⟩
  | cons p rs ih =>
    intro vs hv;simp only[yI]at hv ⊢
    grind [RnL.cons]
 unfold iZ at hv ⊢;split at hv
 ·rename_i v0 h1
  simp only[oSI]at hv;subst hv;obtain⟨vs',k1,k2⟩:=lst rs _ h1;obtain⟨y,ys,rfl,k3,k4⟩:=k2.inv;obtain rfl:=k4.nil_inv
  grind
 ·rename_i vs hne h1
  simp only[oSI]at hv;subst hv;obtain⟨vs',k1,k2⟩:=lst rs _ h1;rw[k1];refine⟨.tup vs',?_,.tup _ _ k2.1 k2.2⟩;split
  ·rename_i v0 h2
   simp only[oSI]at h2;subst h2;exfalso;have:=k2.1;cases vs with
   | nil=>simp at this
   | cons a vs=>simp_all
  all_goals grind
 ·simp at hv
theorem aKO:∀(ps:List Nat)(as as':List AV)(e env:aI),RnL D Y r as as'→(∀ j,Rn D Y r (e j) (env j))→∀ j,Rn D Y r (rP e ps as j) (rP env ps as' j)
 | [],as,as',e,env,_,re,j=>by unfold rP;exact re j
 | p::ps,[],as',e,env,h,re,j=>by rw[h.nil_inv];unfold rP;exact re j
 | p::ps,a::as,as',e,env,h,re,j=>by
   obtain⟨a',as2,rfl,h1,h2⟩:=h.inv;unfold rP;refine aKO ps as as2 _ _ h2 (fun i=>?_) j;simp only[upd];split;·exact h1
   ·exact re i
theorem aLu:∀(L:List Nat)(vs:List AV)(env:aI),RnL D Y r vs (L.map env)→∀ j,Rn D Y r (bB L vs j) (env j)
 | [],[],env,h,j=>.any _
 | [],_::_,env,h,j=>.any _
 | _::_,[],env,h,j=>.any _
 | k::L,v::vs,env,h,j=>by
   obtain⟨a',as2,h0,h1,h2⟩:=h.inv;simp only[E5,aF5]at h0;obtain⟨rfl,rfl⟩:=h0;simp only[bB];split;·rename_i hj;subst hj;exact h1
   ·exact aLu L vs env h2 j
theorem aFP(sh:SH D Y r h H){k:Nat}{u u':AV}(hu:Rn D Y r u u'):∃ r',Agree k r r'∧SH D Y r' (nI k (dA k [u] h) h) H∧Rn D Y r' (rnA (keepS k (dA k [u] h)) u) u':=by
 obtain⟨h1,h2⟩:=aDS k [u] h;obtain⟨k1,k2,k3⟩:=aDR sh h1 h2
 grind
def okD(d:XFn):Bool:=sQ d.body&&d.dfr.isNone
structure XOk(P:Program)(D:Nat→Option XFn):Prop where
 mixed:P.follows .mixedOrders=true
 is:∀ K d,D K=some d→d.prm=none→aUJ P K d.fn
 prm:∀ K d f,D K=some d→d.prm=some f→∀(B:Base)(Y:Nat→Option YI),YOk P B D Y→∀(r:Nat→Option Nat)(h:XH)(H:Hp)(as as':List AV)(v:AV)(h':XH),SH D Y r h H→RnL D Y r as as'→f as h=some (v,h')→FnW B P K as' H (eO D Y r v h')
 ok:∀ K d,D K=some d→okD d=true
 sites:∀ K d,D K=some d→gW d d.body
theorem XOk.body(ok:XOk P D){K:Nat}{d:XFn}(h:D K=some d):sQ d.body=true:=by
 have:=ok.ok K d h
 simp_all [okD]
theorem aJj(ok:XOk P D){run:eC}{runY:eT}(n:Nat)(ih:∀(B:Base)(Y:Nat→Option YI),YOk P B D Y→FnS P B D Y run∧YS P B D Y runY):∀(B:Base)(Y:Nat→Option YI),YOk P B D Y→FnS P B D Y (aCQ D run runY n)∧YS P B D Y (aFo D run runY n):=by
 intro B Y hY;refine⟨fun r h H K as as' v h' sh hA hx=>?_,fun r h H fv fv' as as' v h' sh hfv hA hx=>?_⟩
 ·simp only[aCQ]at hx
  split at hx;·simp at hx
  ·rename_i d hD
   split at hx
   ·rename_i f hf
    exact ok.prm K d f hD hf B Y hY r h H as as' v h' sh hA hx
   rename_i hpr;split at hx
   ·rename_i hN
    have main:∀(as1 as1':List AV),RnL D Y r as1 as1'→as1.length≤d.N→(match d.dfr with
     | none=>aJv (kJ K) d.res d.ownR h.length (aZ run runY K h.length n none d.body (aT as1) h)
     | some _=>none)=some (v,h')→FnW B P K as1' H (eO D Y r v h'):=by
     intro as1 as1' hA1 hN1 hx
     have goal:∀(r1:Nat→Option Nat)(env1:aI)(H1:Hp)(e1:aI)(h1:XH)(v0:AV),Agree h.length r r1→SR D Y r1 e1 h1 env1 H1→iZ d.res e1 (aG h1)=some v0→nV d.ownR h.length v0 h1=(v,h') →
      mR (iZ d.res env1 H1) fun v_1=>∃ v' H'',Shift (upd anyE 0 v_1) H1 (upd anyE 0 v') H''∧eO D Y r v h' v' H'':=by
      intro r1 env1 H1 e1 h1 v0 ha1 sr1 hv0 hfin;have goal:mR (iZ d.res env1 H1) fun v=>∃ v' H'',Shift (upd anyE 0 v) H1 (upd anyE 0 v') H''∧eO D Y r (nV d.ownR h.length v0 h1).1 (nV d.ownR h.length v0 h1).2 v' H'':=by
       obtain⟨v0',k1,k2⟩:=aGK sr1 hv0;rw[k1,optW_some];have sr2:SR D Y r1 (upd anyE 0 v0) h1 (upd anyE 0 v0') H1:=⟨sr1.sh,fun j=>by
        simp only[upd];split;·exact k2
        ·exact .any _⟩
       have post:∀(u u':AV)(h2:XH)(H2:Hp),SH D Y r1 h2 H2→Rn D Y r1 u u'→eO D Y r (rnA (keepS h.length (dA h.length [u] h2)) u) (nI h.length (dA h.length [u] h2) h2) u' H2:=by
        intro u u' h2 H2 s1 s2;obtain⟨r2,m1,m2,m3⟩:=aFP s1 s2 (k:=h.length);exact⟨r2,fun b c hb=>m1 b c (sh.dom b c hb) (ha1 b c (sh.dom b c hb) hb),m2,m3⟩
       unfold nV;cases d.ownR with
       | true =>
         simp only[AAe];exact⟨v0',H1,Shift.le (Le.refl _),by
          have:=post v0 v0' h1 H1 sr1.sh k2
          simp_all⟩
       | false =>
         simp only[C8,AAd];obtain⟨env2,H2,s1,s2⟩:=zO (kO h1 2 (slN v0)) _ _ _ _ sr2;have hz:=(s2.re 0).nz;refine⟨uR (env2 0),H2,s1.trans ?_,post _ _ _ _ s2.sh hz⟩;intro F w a st re;refine⟨F,Ext.refl _ _ _,st,fun j=>?_,re.gi⟩;simp only[upd];split;·rename_i hj;subst hj;exact(re.rv 0).nz
         ·exact .any _
      grind
     refine FnW.shift (FnW.of (ok.is K d hD hpr) (by rw[←hA1.1];exact hN1) ?_);cases hd:d.dfr with
     | none =>
       rw[hd]at hx;simp only at hx;show WD B P none d.N d.fn.body _ _ _;cases hgc:kJ K with
       | true =>
         rw[hgc]at hx;simp only[aJv]at hx;unfold aEV at hx;split at hx;·simp at hx
         ·rename_i x e1 h1 hne hex
          simp only[B2,B9]at hx;obtain⟨v0,hv0,rfl,rfl⟩:=hx;refine pI hD ok.mixed ih h.length n none none d.body B Y r (aT as1) h (aT as1') H x e1 h1 _ hY (ok.body hD) (ok.sites K d hD) rfl ⟨sh,sL hA1⟩ hex ?_;intro r1 env1 H1 ha1 sr1;obtain⟨v0',k1,k2⟩:=aGK sr1 hv0;have g:mR (iZ d.res env1 H1) fun v_1=>∃ v' H'',Shift (upd anyE 0 v_1) H1 (upd anyE 0 v') H''∧eO D Y r v0 h1 v' H'':=by
           rw[k1,optW_some];exact⟨v0',H1,Shift.le (Le.refl _),r1,fun b c hb=>ha1 b c (sh.dom b c hb) hb,sr1.sh,k2⟩
          cases x with
          | exit id=>grind
          | normal=>exact g
          | ret=>exact g
         ·simp at hx
       | false =>
       rw[hgc]at hx;simp only[aJv]at hx;unfold gN at hx;split at hx;·simp at hx
       ·rename_i x e1 h1 hne hex
        simp only[B2]at hx;obtain⟨v0,hv0,hfin⟩:=hx;refine pI hD ok.mixed ih h.length n none none d.body B Y r (aT as1) h (aT as1') H x e1 h1 _ hY (ok.body hD) (ok.sites K d hD) rfl ⟨sh,sL hA1⟩ hex ?_;intro r1 env1 H1 ha1 sr1;have g:=goal r1 env1 H1 e1 h1 v0 ha1 sr1 hv0 hfin;cases x with
        | exit id=>grind
        | normal=>exact g
        | ret=>exact g
       ·simp at hx
     | some p=>grind
    cases hown:d.ownA with
    | true =>
      grind
    | false =>
      rw[hown]at hx;simp only[C8,AAd]at hx;exact FnW.nz (main _ _ hA.nz (by grind [lQ]) hx)
   ·simp at hx
 ·simp only[aFo]at hx
  split at hx
  ·rename_i l
   cases hfv with
   | fn _ _ _ _ _ hf=>grind
   | yield _ c hr =>
   show YW B P c as' H _;split at hx
   ·rename_i K site vs hl
    split at hx;·simp at hx
    ·rename_i L ps a b hDs
     simp only[E7]at hDs;obtain⟨d,hD,hsite⟩:=hDs;split at hx
     ·rename_i hlen
      split at hx
      ·rename_i e1 h1 hex1
       split at hx
       ·rename_i hst1
        split at hx
        ·rename_i x e2 h2 hex2
         split at hx
         ·rename_i hst2
          simp only[oSI]at hx;obtain⟨c',i,o,g1,g2,g3,g4,vs',d',L',ps',a',b',g5,g6,g7,g8⟩:=sh.loopAt (l:=l) (st:=.ready) (by unfold gY;rw[hl]);rw[hr]at g1;simp only[oSI]at g1;subst g1;rw[hl]at g5;simp only[oSI,XB.loop.injEq,and_true]at g5;obtain⟨rfl,rfl,rfl⟩:=g5;rw[hD]at g6;simp only[oSI]at g6;subst g6;rw[hsite]at g7;simp only[oSI,B9]at g7;obtain⟨rfl,rfl,rfl,rfl⟩:=g7;simp only[uV]at g4;subst g4;obtain⟨⟨q,hq⟩,prov⟩:=hY c i g2;have hrd:RdOk Y r h.length (some l) (some c):=⟨sh.dom l c hr,c,i,q,hr,rfl,g2,hq⟩;obtain⟨hs1,hs2⟩:gW d a∧gW d b:=by
           have aux:∀(code:XCode),gW d code→∀ s L ps a b,dZ code s=some (L,ps,a,b)→gW d a∧gW d b:=by
            intro code;induction code with
            | seq a b iha ihb =>
              intro hs s L ps a' b' h;simp only[dZ]at h;split at h;·rename_i r0 h0;simp only[oSI]at h;subst h;exact iha hs.1 s _ _ _ _ h0
              ·exact ihb hs.2 s _ _ _ _ h
            | cond c a b iha ihb =>
              intro hs s L ps a' b' h;simp only[dZ]at h;split at h;·rename_i r0 h0;simp only[oSI]at h;subst h;exact iha hs.1 s _ _ _ _ h0
              ·exact ihb hs.2 s _ _ _ _ h
            | block id a iha=>intro hs s L ps a' b' h;exact iha hs s _ _ _ _ (by simpa [dZ]using h)
            | loop l a iha=>intro hs s L ps a' b' h;exact iha hs s _ _ _ _ (by simpa [dZ]using h)
            | scope a iha=>intro hs s L ps a' b' h;exact iha hs s _ _ _ _ (by simpa [dZ]using h)
            | rng s' L' f ps' a b iha ihb =>
              intro hs s L ps a' b' h;simp only[dZ]at h;split at h
              ·simp only[oSI,B9]at h
               obtain⟨rfl,rfl,rfl,rfl⟩:=h;exact hs.2
              ·split at h
               ·rename_i r0 h0;simp only[oSI]at h;subst h;exact iha hs.2.1 s _ _ _ _ h0
               ·exact ihb hs.2.2 s _ _ _ _ h
            | skip=>intro hs s L ps a' b' h;simp[dZ]at h
            | exit id=>intro hs s L ps a' b' h;simp[dZ]at h
            | ret=>intro hs s L ps a' b' h;simp[dZ]at h
            | reg fz dr ops=>intro hs s L ps a' b' h;simp[dZ]at h
           exact aux d.body (ok.sites _ d hD) _ _ _ _ _ hsite
          obtain⟨hok1,hok2⟩:sQ a=true∧sQ b=true:=by
           have aux:∀(code:XCode),sQ code=true→∀ s L ps a b,dZ code s=some (L,ps,a,b)→sQ a=true∧sQ b=true:=by
            intro code;induction code with
            | seq a b iha ihb =>
              intro hs s L ps a' b' h;simp only[sQ,B4]at hs;simp only[dZ]at h
              grind
            | cond c a b iha ihb =>
              intro hs s L ps a' b' h;simp only[sQ,B4]at hs;simp only[dZ]at h
              grind
            | block id a iha=>intro hs s L ps a' b' h;exact iha (by simpa [sQ]using hs) s _ _ _ _ (by simpa [dZ]using h)
            | loop l a iha=>intro hs s L ps a' b' h;exact iha (by simpa [sQ]using hs) s _ _ _ _ (by simpa [dZ]using h)
            | scope a iha=>intro hs s L ps a' b' h;exact iha (by simpa [sQ]using hs) s _ _ _ _ (by simpa [dZ]using h)
            | rng s' L' f ps' a b iha ihb =>
              intro hs s L ps a' b' h;simp only[sQ,B4]at hs;simp only[dZ]at h
              grind
            | skip=>intro hs s L ps a' b' h;simp[dZ]at h
            | exit id=>intro hs s L ps a' b' h;simp[dZ]at h
            | ret=>intro hs s L ps a' b' h;simp[dZ]at h
            | reg fz dr ops=>intro hs s L ps a' b' h;simp[dZ]at h
           exact aux d.body (ok.body hD) _ _ _ _ _ hsite
          refine prov d L ps a b hD hsite B (Up.refl _ _) as' H _ g3 (by rw[←hA.1];exact hlen) ?_;refine pI hD ok.mixed ih h.length n (some l) (some c) a B Y r _ h _ H .normal e1 h1 _ hY hok1 hs1 hrd ⟨sh,aKO ps as as' _ _ hA (aLu L vs i.env g8)⟩ hex1 ?_;intro r1 env1 H1 ha1 sr1;obtain⟨c1,i1,o1,m1,m2,m3,m4,_⟩:=sr1.sh.loopAt hst1;have hr1:r1 l=some c:=ha1 l c (sh.dom l c hr) hr;rw[hr1]at m1;simp only[oSI]at m1;subst m1;rw[g2]at m2;simp only[oSI]at m2;subst m2;simp only[uV]at m4;subst m4;refine⟨rfl,m3,?_⟩;have sh1':=sr1.sh.loopTo (st':=.busy) (o:=i.oB) hst1 hr1 g2 rfl;refine pI hD ok.mixed ih h.length n (some l) (some c) b B Y r1 e1 _ env1 _ x e2 h2 _ hY hok2 hs2 (hrd.agree ha1) ⟨sh1',sr1.re⟩ hex2 ?_;intro r2 env2 H2 ha2 sr2;obtain⟨c2,i2,o2,p1,p2,p3,p4,_⟩:=sr2.sh.loopAt hst2;have hr2:r2 l=some c:=ha2 l c (sh.dom l c hr) hr1;rw[hr2]at p1;simp only[oSI]at p1;subst p1;rw[g2]at p2;simp only[oSI]at p2;subst p2;simp only[uV]at p4;subst p4;refine⟨p3,?_⟩;have post:∀(bv:Bool)(st':LSt)(o:Obj),uV i st' o→eO D Y r (nV true h.length (.bool bv) (loopTo h2 l st')).1 (nV true h.length (.bool bv) (loopTo h2 l st')).2 (.bool bv) (hset H2 c (.obj true o)):=by
           intro bv st' o ho;have sh2':=sr2.sh.loopTo (st':=st') (o:=o) hst2 hr2 g2 ho;obtain⟨r3,s1,s2,s3⟩:=aFP sh2' (k:=h.length) (u:=.bool bv) (.bool bv);refine⟨r3,fun b c hb=>s1 b c (sh.dom b c hb) (ha2 b c (sh.dom b c hb) (ha1 b c (sh.dom b c hb) hb)),?_,?_⟩;·simpa [nV,upd]using s2
           ·simpa [nV,upd]using s3
          cases x with
          | normal =>
            have:=post true .ready i.oR rfl
            grind
          | ret =>
            have:=post false (.done .ret) (i.oD .ret) rfl
            grind
          | exit id =>
            have:=post false (.done (.exit id)) (i.oD (.exit id)) rfl
            grind
         ·simp at hx
        ·simp at hx
       ·simp at hx
      ·simp at hx
     ·simp at hx
   ·simp at hx
  ·simp at hx
theorem oA(ok:XOk P D):∀(n:Nat)(B:Base)(Y:Nat→Option YI),YOk P B D Y→FnS P B D Y (dC D n)∧YS P B D Y (bV D n):=by
 intro n;induction n with
 | zero =>
   simp[FnS,dC,YS,bV]
 | succ n ih =>
   grind [aJj,dC,bV]
end
def wC:XCode→Bool
 | .seq a b | .cond _ a b=>wC a&&wC b
 | .block _ a | .loop _ a | .scope a=>wC a
 | .rng .. => false
 | _=>true
theorem aV{d:XFn}:∀{c:XCode},wC c=true→gW d c
 | .seq a b,h=>by simp only[wC,B4]at h;exact⟨aV h.1,aV h.2⟩
 | .cond c a b,h=>by simp only[wC,B4]at h;exact⟨aV h.1,aV h.2⟩
 | .block id a,h=>aV (c:=a) (by grind [wC])
 | .loop l a,h=>aV (c:=a) (by grind [wC])
 | .scope a,h=>aV (c:=a) (by grind [wC])
 | .rng ..,h=>by simp[wC]at h
 | .skip,_=>trivial
 | .exit _,_=>trivial
 | .ret,_=>trivial
 | .reg ..,_=>trivial
def LeR(f g:eC):Prop:=∀ K as h q,f K as h=some q→g K as h=some q
def LeY(f g:eT):Prop:=∀ v as h q,f v as h=some q→g v as h=some q
section
variable{run run':eC}{runY runY':eT}
theorem zW(hr:LeR run run')(hy:LeY runY runY'){fv:AV}{as:List AV}{h:XH}{q:AV×XH}(hx:fW run runY fv as h=some q):fW run' runY' fv as h=some q:=by
 unfold fW at hx ⊢;split at hx
 ·rename_i g first cap
  cases hg:kJ g with
  | true=>rw[hg]at hx;exact hr _ _ _ _ hx
  | false =>
    rw[hg]at hx;simp only[aEw,B2]at hx ⊢;obtain⟨a,h1,h2⟩:=hx;exact⟨a,hr _ _ _ _ h1,h2⟩
 ·simp only[B2]at hx ⊢
  obtain⟨a,h1,h2⟩:=hx;exact⟨a,hy _ _ _ _ h1,h2⟩
 ·simp at hx
theorem aEv(hr:LeR run run'){fv:AV}{as:List AV}{h:XH}{q:AV}(hx:pP run fv as h=some q):pP run' fv as h=some q:=by
 unfold pP at hx ⊢;split at hx
 ·simp only at hx ⊢
  split at hx
  ·rename_i v hl h1
   rw[hr _ _ _ _ h1];exact hx
  ·simp at hx
 ·simp at hx
theorem oK(hr:LeR run run')(hy:LeY runY runY'){d:Option Nat}{op:DOp}{e:aI}{h:XH}{q:aI×XH}(hx:cV run runY d op e h=some q):cV run' runY' d op e h=some q:=by
 cases op with
 | callf b f xs l =>
   cases b with
   | true =>
     simp only[cV,B2]at hx ⊢
     grind [aEv]
   | false =>
     simp only[cV,B2]at hx ⊢
     grind [zW]
 | _=>exact hx
theorem rF(hr:LeR run run')(hy:LeY runY runY'):∀(ops:List DOper)(e:aI)(h:XH)(q:aI×XH),eU run runY ops e h=some q→eU run' runY' ops e h=some q
 | [],e,h,q,hx=>hx
 | o::ops,e,h,q,hx=>by
   simp only[eU]at hx ⊢;split at hx
   ·simp only[E7]at hx ⊢
    obtain⟨s,h1,h2⟩:=hx;exact⟨s,oK hr hy h1,rF hr hy ops _ _ q h2⟩
   ·exact rF hr hy ops _ _ q hx
   ·simp at hx
theorem oJ(hr:LeR run run')(hy:LeY runY runY'):∀(ops:List DOper)(e:aI)(h:XH)(L:List (Nat×Nat))(q:aI×XH),fB run runY ops e h L=some q→fB run' runY' ops e h L=some q
 | [],e,h,L,q,hx=>hx
 | o::ops,e,h,L,q,hx=>by
   simp only[fB]at hx ⊢;split at hx
   ·split at hx
    ·rename_i hl
     rw[if_pos hl];simp only[E7]at hx ⊢;obtain⟨s,h1,h2⟩:=hx;refine⟨s,oK hr hy h1,?_⟩;split at h2;·rename_i hp;rw[if_pos hp];exact oJ hr hy ops _ _ _ q h2
     ·simp at h2
    ·simp at hx
   ·exact oJ hr hy ops _ _ _ q hx
   ·simp at hx
theorem tP{step step':aI→XH→Option (DX×aI×XH)}(hs:∀ e h q,step e h=some q→step' e h=some q){k:Nat}{L:List Nat}:∀(n m:Nat),n≤m→∀(e:aI)(h:XH)(q:DX×aI×XH),nH step k L n e h=some q→nH step' k L m e h=some q
 | 0,_,_,e,h,q,hx=>by simp[nH]at hx
 | n+1,0,hnm,e,h,q,hx=>by omega
 | n+1,m+1,hnm,e,h,q,hx=>by
   simp only[nH]at hx ⊢;split at hx
   ·rename_i e' h' h1
    rw[hs _ _ _ h1];exact tP hs n m AT e' h' q hx
   ·rename_i hne
    rw[hs _ _ _ hx];obtain⟨x,e',h'⟩:=q;cases x with
    | normal=>exact absurd hx (hne e' h')
    | _=>rfl
theorem pJ(hr:LeR run run')(hy:LeY runY runY'){K k n m:Nat}(hnm:n≤m){rd:Option Nat}:∀(c:XCode)(e:aI)(h:XH)(q:DX×aI×XH),aZ run runY K k n rd c e h=some q→aZ run' runY' K k m rd c e h=some q:=by
 intro c;induction c with
 | skip=>intro e h q hx;exact hx
 | exit id=>intro e h q hx;exact hx
 | ret=>intro e h q hx;exact hx
 | reg fz draw ops =>
   intro e h q hx;simp only[aZ,B2]at hx ⊢;obtain⟨s,h1,h2⟩:=hx;refine⟨s,?_,h2⟩;split at h1;·rename_i hd;rw[if_pos hd];grind [oJ]
   ·rename_i hd;rw[if_neg hd];grind [rF]
 | seq a b iha ihb =>
   intro e h q hx;simp only[aZ]at hx ⊢
   grind
 | cond c a b iha ihb =>
   intro e h q hx;simp only[aZ]at hx ⊢
   grind
 | block id a iha =>
   intro e h q hx;simp only[aZ]at hx ⊢
   grind
 | scope a iha=>intro e h q hx;exact iha _ _ _ hx
 | loop L a iha=>intro e h q hx;exact tP iha n m hnm e h q hx
 | rng site L f ps a b _ _ =>
   intro e h q hx;simp only[aZ]at hx ⊢;split at hx
   ·rename_i hc
    rw[if_pos hc]
    grind [zW]
   ·simp at hx
end
theorem aMj(D:Nat→Option XFn):∀ n,LeR (dC D n) (dC D (n+1))∧LeY (bV D n) (bV D (n+1)):=by
 intro n;induction n with
 | zero=>simp[LeR,dC,LeY,bV]
 | succ n ih =>
   refine⟨fun K as h q hx=>?_,fun v as h q hx=>?_⟩
   ·rw[dC]at hx ⊢
    unfold aCQ at hx ⊢;split at hx;·simp at hx
    ·rename_i d hd
     split at hx;·exact hx
     split at hx
     ·rename_i hl
      rw[if_pos hl];have ret:∀(c:Option Nat) e1 h1 q,gN c d.res d.ownR h.length (aZ (dC D n) (bV D n) K h.length n none d.body e1 h1)=some q→gN c d.res d.ownR h.length (aZ (dC D (n+1)) (bV D (n+1)) K h.length (n+1) none d.body e1 h1)=some q:=by
       intro c e1 h1 q hq;cases he:aZ (dC D n) (bV D n) K h.length n none d.body e1 h1 with
       | none=>rw[he]at hq;simp[gN]at hq
       | some s=>rw[pJ ih.1 ih.2 (aF9 n) _ _ _ _ he,←he];exact hq
      split at hx
      ·cases hgc:kJ K with
       | true =>
         rw[hgc]at hx;simp only[aJv]at hx ⊢;cases he:aZ (dC D n) (bV D n) K h.length n none d.body (aT (if d.ownA then as else kQ as)) h with
         | none=>rw[he]at hx;simp[aEV]at hx
         | some s=>rw[pJ ih.1 ih.2 (aF9 n) _ _ _ _ he,←he];exact hx
       | false=>rw[hgc]at hx;exact ret none _ _ _ hx
      ·simp at hx
     ·simp at hx
   ·simp only[bV]at hx
    unfold aFo at hx;split at hx
    ·rename_i l
     split at hx
     ·rename_i K site vs hl
      rw[bV];unfold aFo;simp only[hl];split at hx;·simp at hx
      ·rename_i L ps a b h1
       split at hx
       ·rename_i hc
        simp only[h1,hc,AAe];split at hx
        ·rename_i e1 h1' h2
         rw[pJ ih.1 ih.2 (aF9 n) _ _ _ _ h2];simp only;split at hx
         ·rename_i hst
          split at hx
          ·rename_i x e2 h2' h3
           rw[pJ ih.1 ih.2 (aF9 n) _ _ _ _ h3];exact hx
          ·simp at hx
         ·simp at hx
        ·simp at hx
       ·simp at hx
     ·simp at hx
    ·simp at hx
theorem iR(D:Nat→Option XFn){n m:Nat}(h:n≤m):LeR (dC D n) (dC D m)∧LeY (bV D n) (bV D m):=by
 induction h with
 | refl=>simp[LeR,LeY]
 | step _ ih=>grind [aMj,LeR,LeY]
section
variable{α β:Type}
def aIU(f:Nat→Option α):Prop:=∀ n m q,n≤m→f n=some q→f m=some q
noncomputable def lim(f:Nat→Option α):Option α:=open Classical in if h:∃ q n,f n=some q then some h.choose else none
theorem aGY{f:Nat→Option α}(hm:aIU f){q:α}:lim f=some q↔∃ n,f n=some q:=by
 unfold lim;constructor
 ·intro h
  split at h;all_goals grind
 ·rintro ⟨n,hn⟩
  have hx:∃ q n,f n=some q:=⟨q,n,hn⟩
  grind [aIU]
theorem kA{x y:Option α}(h:∀ q,x=some q↔y=some q):x=y:=by
 cases x with
 | none=>cases y with
   | none=>rfl
   | some b=>simp_all
 | some a=>grind
end
variable(D:Nat→Option XFn)
noncomputable def runW:eC:=fun K as h=>lim fun n=>dC D n K as h
noncomputable def runYW:eT:=fun v as h=>lim fun n=>bV D n v as h
noncomputable def execW(K k:Nat)(rd:Option Nat)(c:XCode)(e:aI)(h:XH):Option (DX×aI×XH):=lim fun n=>aZ (dC D n) (bV D n) K k n rd c e h
theorem aJs(K:Nat)(as:List AV)(h:XH):aIU fun n=>dC D n K as h:=fun _ _ _ hnm hx=>(iR D hnm).1 _ _ _ _ hx
theorem aHN(v:AV)(as:List AV)(h:XH):aIU fun n=>bV D n v as h:=fun _ _ _ hnm hx=>(iR D hnm).2 _ _ _ _ hx
theorem fV(K k:Nat)(rd:Option Nat)(c:XCode)(e:aI)(h:XH):aIU fun n=>aZ (dC D n) (bV D n) K k n rd c e h :=
 fun _ _ _ hnm hx=>pJ (iR D hnm).1 (iR D hnm).2 hnm _ _ _ _ hx
variable{D}
theorem bI{K:Nat}{as:List AV}{h:XH}{q:AV×XH}:runW D K as h=some q↔∃ n,dC D n K as h=some q:=aGY (aJs D K as h)
theorem xJ{v:AV}{as:List AV}{h:XH}{q:AV×XH}:runYW D v as h=some q↔∃ n,bV D n v as h=some q:=aGY (aHN D v as h)
theorem aW{K k:Nat}{rd:Option Nat}{c:XCode}{e:aI}{h:XH}{q:DX×aI×XH}:execW D K k rd c e h=some q↔∃ n,aZ (dC D n) (bV D n) K k n rd c e h=some q:=aGY (fV D K k rd c e h)
theorem aIo(n:Nat):LeR (dC D n) (runW D):=fun _ _ _ _ hx=>bI.2 ⟨n,hx⟩
theorem aLe(n:Nat):LeY (bV D n) (runYW D):=fun _ _ _ _ hx=>xJ.2 ⟨n,hx⟩
theorem aBE{fv:AV}{as:List AV}{h:XH}{q:AV×XH}:fW (runW D) (runYW D) fv as h=some q↔∃ n,fW (dC D n) (bV D n) fv as h=some q:=by
 constructor
 ·intro hx
  unfold fW at hx;split at hx
  ·rename_i g first cap
   cases hg:kJ g with
   | true =>
     rw[hg]at hx;obtain⟨n,h1⟩:=bI.1 hx;exact⟨n,by simp only[fW,hg];exact h1⟩
   | false =>
     rw[hg]at hx;simp only[aEw,B2]at hx;obtain⟨a,h1,h2⟩:=hx;obtain⟨n,h1⟩:=bI.1 h1;exact⟨n,by simp only[fW,hg,aEw,B2];grind⟩
  ·simp only[B2]at hx
   obtain⟨a,h1,h2⟩:=hx;obtain⟨n,h1⟩:=xJ.1 h1;exact⟨n,by simp only[fW,B2];grind⟩
  ·simp at hx
 grind [zW,aIo,aLe]
theorem aMT{fv:AV}{as:List AV}{h:XH}{q:AV}:pP (runW D) fv as h=some q↔∃ n,pP (dC D n) fv as h=some q:=by
 constructor
 ·intro hx
  unfold pP at hx;split at hx
  ·simp only at hx
   split at hx
   ·rename_i v hl h1
    obtain⟨n,h1⟩:=bI.1 h1;exact⟨n,by simp only[pP,h1];exact hx⟩
   ·simp at hx
  ·simp at hx
 grind [aEv,aIo]
theorem aFf{d:Option Nat}{op:DOp}{e:aI}{h:XH}{q:aI×XH}:cV (runW D) (runYW D) d op e h=some q↔∃ n,cV (dC D n) (bV D n) d op e h=some q:=by
 constructor
 ·intro hx
  cases op with
  | callf b f xs l =>
    cases b with
    | true =>
      simp only[cV,B2]at hx ⊢
      grind [aMT]
    | false =>
      simp only[cV,B2]at hx ⊢
      grind [aBE]
  | _=>exact⟨0,hx⟩
 grind [oK,aIo,aLe]
theorem aHq:∀{ops:List DOper}{e:aI}{h:XH}{q:aI×XH},eU (runW D) (runYW D) ops e h=some q↔∃ n,eU (dC D n) (bV D n) ops e h=some q:=by
 intro ops e h q;refine⟨?_,fun⟨n,hx⟩=>rF (aIo n) (aLe n) _ _ _ _ hx⟩;induction ops generalizing e h with
 | nil=>exact fun hx=>⟨0,hx⟩
 | cons o ops ih =>
   intro hx;simp only[eU]at hx ⊢;split at hx
   ·simp only[E7]at hx ⊢
    obtain⟨s,h1,h2⟩:=hx;obtain⟨n,h1⟩:=aFf.1 h1;obtain⟨m,h2⟩:=ih h2;exact⟨max n m,s,oK (iR D AT).1 (iR D AT).2 h1,rF (iR D AT).1 (iR D AT).2 _ _ _ _ h2⟩
   all_goals grind
theorem aFe:∀{ops:List DOper}{e:aI}{h:XH}{L:List (Nat×Nat)}{q:aI×XH},fB (runW D) (runYW D) ops e h L=some q↔∃ n,fB (dC D n) (bV D n) ops e h L=some q:=by
 intro ops e h L q;refine⟨?_,fun⟨n,hx⟩=>oJ (aIo n) (aLe n) _ _ _ _ _ hx⟩;induction ops generalizing e h L with
 | nil=>exact fun hx=>⟨0,hx⟩
 | cons o ops ih =>
   intro hx;simp only[fB]at hx ⊢;split at hx
   ·split at hx
    ·rename_i hl
     simp only[hl,AAe];simp only[E7]at hx ⊢;obtain⟨s,h1,h2⟩:=hx;obtain⟨n,h1⟩:=aFf.1 h1;split at h2
     ·rename_i hp
      obtain⟨m,h2⟩:=ih h2;exact⟨max n m,s,oK (iR D AT).1 (iR D AT).2 h1,by rw[if_pos hp];exact oJ (iR D AT).1 (iR D AT).2 _ _ _ _ _ h2⟩
     ·simp at h2
    ·simp at hx
   all_goals grind
section
variable{K k:Nat}{rd:Option Nat}{e:aI}{h:XH}
theorem SI:execW D K k rd .skip e h=some (.normal,e,h):=aW.2 ⟨0,rfl⟩
theorem SJ{id:Nat}:execW D K k rd (.exit id) e h=some (.exit id,e,h):=aW.2 ⟨0,rfl⟩
theorem SG:execW D K k rd .ret e h=some (.ret,e,h):=aW.2 ⟨0,rfl⟩
theorem aEi{fz:List (Nat×Bool)}{ops:List DOper}:execW D K k rd (.reg fz false ops) e h=(eU (runW D) (runYW D) ops (fzX fz e h).1 (fzX fz e h).2).map fun r=>(.normal,r.1,r.2):=kA fun q=>by
 rw[aW];simp only[aZ,C8,AAd,B2,aHq]
 grind
theorem aEj{fz:List (Nat×Bool)}{ops:List DOper}:execW D K k rd (.reg fz true ops) e h=(fB (runW D) (runYW D) ops (fzX fz e h).1 (fzX fz e h).2 []).map fun r=>(.normal,r.1,r.2):=kA fun q=>by
 rw[aW];simp only[aZ,AAe,B2,aFe]
 grind
def yN(r:Option (DX×aI×XH))(f:aI→XH→Option (DX×aI×XH)):Option (DX×aI×XH):=match r with
 | some (.normal,e,h)=>f e h
 | r=>r
theorem SL(f:aI→XH→Option (DX×aI×XH))(e:aI)(h:XH):yN (some (.normal,e,h)) f=f e h:=rfl
theorem SN(f:aI→XH→Option (DX×aI×XH))(id:Nat)(e:aI)(h:XH):yN (some (.exit id,e,h)) f=some (.exit id,e,h):=rfl
theorem SO(f:aI→XH→Option (DX×aI×XH))(e:aI)(h:XH):yN (some (.ret,e,h)) f=some (.ret,e,h):=rfl
theorem rH{r:Option (DX×aI×XH)}{f:aI→XH→Option (DX×aI×XH)}{q:DX×aI×XH}:yN r f=some q↔(∃ e h,r=some (.normal,e,h)∧f e h=some q)∨(q.1 ≠ .normal∧r=some q):=by
 unfold yN
 grind
theorem aMG{run:eC}{runY:eT}{n:Nat}{a b:XCode}:aZ run runY K k n rd (.seq a b) e h=yN (aZ run runY K k n rd a e h) (aZ run runY K k n rd b):=rfl
theorem SF{a b:XCode}:execW D K k rd (.seq a b) e h=yN (execW D K k rd a e h) (execW D K k rd b):=kA fun q=>by
 rw[aW];simp only[aMG,rH,aW];constructor;·grind
 ·rintro (⟨e1,h1,⟨n,h2⟩,⟨m,h3⟩⟩|⟨h1,n,h2⟩)
  ·exact⟨max n m,.inl ⟨e1,h1,fV D K k rd a e h n _ _ AT h2,fV D K k rd b e1 h1 m _ _ AT h3⟩⟩
  grind
theorem aKa{c:AO}{a b:XCode}:execW D K k rd (.cond c a b) e h=match aK e c with
 | .bool true=>execW D K k rd a e h
 | .bool false=>execW D K k rd b e h
 | _=>none:=kA fun q=>by
 rw[aW];simp only[aZ];cases aK e c with
 | bool t=>cases t<;>simp only[aW]
 | _=>simp
def zY(id:Nat)(r:Option (DX×aI×XH)):Option (DX×aI×XH):=match r with
 | some (.exit j,e',h')=>if j=id then some (.normal,e',h') else some (.exit j,e',h')
 | r=>r
theorem SP(id:Nat)(e:aI)(h:XH):zY id (some (.normal,e,h))=some (.normal,e,h):=rfl
theorem SQ(id:Nat)(e:aI)(h:XH):zY id (some (.ret,e,h))=some (.ret,e,h):=rfl
theorem SS(id j:Nat)(e:aI)(h:XH):zY id (some (.exit j,e,h))=if j=id then some (.normal,e,h) else some (.exit j,e,h):=rfl
theorem SK{id:Nat}{a:XCode}:execW D K k rd (.block id a) e h=zY id (execW D K k rd a e h):=kA fun q=>by
 have he:∀ n,aZ (dC D n) (bV D n) K k n rd (.block id a) e h=zY id (aZ (dC D n) (bV D n) K k n rd a e h):=fun _=>rfl;rw[aW];simp only[he];constructor
 ·rintro ⟨n,hn⟩
  cases hx:aZ (dC D n) (bV D n) K k n rd a e h with
  | none=>rw[hx]at hn;simp[zY]at hn
  | some s=>grind [aW]
 ·intro hq
  cases hx:execW D K k rd a e h with
  | none=>rw[hx]at hq;simp[zY]at hq
  | some s =>
    grind [aW]
theorem zP{L:List Nat}{a:XCode}:execW D K k rd (.loop L a) e h=yN (execW D K k rd a (pO k L e h) (lK k L e h)) (execW D K k rd (.loop L a)):=kA fun q=>by
 have he:∀ n m e h,nH (aZ (dC D n) (bV D n) K k n rd a) k L (m+1) e h=yN (aZ (dC D n) (bV D n) K k n rd a (pO k L e h) (lK k L e h)) (nH (aZ (dC D n) (bV D n) K k n rd a) k L m):=fun n m e h=>rfl;rw[aW,rH];constructor
 ·rintro ⟨n,hn⟩
  have hn:nH (aZ (dC D n) (bV D n) K k n rd a) k L n e h=some q:=hn;cases n with
  | zero=>simp[nH]at hn
  | succ n =>
    rw[he,rH]at hn;rcases hn with ⟨e1,h1,h2,h3⟩|⟨h1,h2⟩;·exact .inl ⟨e1,h1,aW.2 ⟨n+1,h2⟩,aW.2 ⟨n+1,tP (fun _ _ _ h=>h) n (n+1) AT _ _ _ h3⟩⟩
    grind [aW]
 ·rintro (⟨e1,h1,h2,h3⟩|⟨h1,h2⟩)
  ·obtain⟨n,h2⟩:=aW.1 h2
   obtain⟨m,h3⟩:=aW.1 h3;have h3:nH (aZ (dC D m) (bV D m) K k m rd a) k L m e1 h1=some q:=h3;refine⟨max n m+1,?_⟩;show nH _ k L (max n m+1) e h=some q;rw[he,rH];refine .inl ⟨e1,h1,fV D K k rd a _ _ n _ _ AT h2,?_⟩;exact tP (fun e h q hq=>fV D K k rd a e h m _ _ AT hq) m (max n m) AT _ _ _ h3
  ·obtain⟨n,h2⟩:=aW.1 h2
   refine⟨n+1,?_⟩;show nH _ k L (n+1) e h=some q;rw[he,rH];exact .inr ⟨h1,fV D K k rd a _ _ n _ _ AT h2⟩
def aHP(n:Nat)(e:aI)(r:Option (AV×XH)):Option (DX×aI×XH):=match r with
 | some (_,h')=>match gY h' n with
   | some .ready=>some (.normal,e,h'.set n none)
   | some (.done x)=>some (x,e,h'.set n none)
   | _=>none
 | none=>none
theorem aMH{site:Nat}{L:List Nat}{f:AO}{ps:List Nat}{a b:XCode}:execW D K k rd (.rng site L f ps a b) e h=if aBv rd h&&aBu (aK e f) then
 aHP h.length e (fW (runW D) (runYW D) (aK e f) [.fn (.yield h.length) [] []] (h++[some (.loop K site (L.map e) .ready)])) else none:=kA fun q=>by
 rw[aW]
 have he:∀ n,aZ (dC D n) (bV D n) K k n rd (.rng site L f ps a b) e h=if aBv rd h&&aBu (aK e f) then
  aHP h.length e (fW (dC D n) (bV D n) (aK e f) [.fn (.yield h.length) [] []] (h++[some (.loop K site (L.map e) .ready)])) else none:=fun _=>rfl
 simp only[he];split
 ·constructor
  ·rintro ⟨n,hn⟩
   cases hx:fW (dC D n) (bV D n) (aK e f) [.fn (.yield h.length) [] []] (h++[some (.loop K site (L.map e) .ready)])with
   | none=>rw[hx]at hn;simp[aHP]at hn
   | some s=>grind [aBE]
  ·intro hq
   cases hx:fW (runW D) (runYW D) (aK e f) [.fn (.yield h.length) [] []] (h++[some (.loop K site (L.map e) .ready)])with
   | none=>rw[hx]at hq;simp[aHP]at hq
   | some s =>
     grind [aBE]
 ·simp
end
theorem aPh{c:Option Nat}{K:Nat}{d:XFn}{k:Nat}{e:aI}{h:XH}{q:AV×XH}:gN c d.res d.ownR k (execW D K k none d.body e h)=some q↔∃ n,gN c d.res d.ownR k (aZ (dC D n) (bV D n) K k n none d.body e h)=some q:=by
 constructor
 ·intro hq
  cases hx:execW D K k none d.body e h with
  | none=>rw[hx]at hq;simp[gN]at hq
  | some s =>
    grind [aW]
 ·rintro ⟨n,hn⟩
  cases hx:aZ (dC D n) (bV D n) K k n none d.body e h with
  | none=>rw[hx]at hn;simp[gN]at hn
  | some s=>grind [aW]
theorem aOL{K:Nat}{d:XFn}(hD:D K=some d){as:List AV}(hl:as.length≤d.N)(h:XH)(hdf:d.dfr=none)(hg:kJ K=true)(hpr:d.prm=none:=by rfl):runW D K as h=aEV d.res (execW D K h.length none d.body (aT (if d.ownA then as else kQ as)) h):=kA fun q=>by
 rw[bI];have he:∀ n,dC D (n+1) K as h=aEV d.res (aZ (dC D n) (bV D n) K h.length n none d.body (aT (if d.ownA then as else kQ as)) h):=fun n=>by
  rw[dC];unfold aCQ;rw[hD];simp only[hpr,hl,AAe,hdf,hg,aJv]
 constructor
 ·rintro ⟨n,hn⟩
  cases n with
  | zero=>simp[dC]at hn
  | succ n =>
    rw[he]at hn;cases hx:aZ (dC D n) (bV D n) K h.length n none d.body (aT (if d.ownA then as else kQ as)) h with
    | none=>rw[hx]at hn;simp[aEV]at hn
    | some s=>grind [aW]
 ·intro hq
  cases hx:execW D K h.length none d.body (aT (if d.ownA then as else kQ as)) h with
  | none=>rw[hx]at hq;simp[aEV]at hq
  | some s =>
    grind [aW]
theorem cX{K:Nat}{d:XFn}(hD:D K=some d){as:List AV}(hl:as.length≤d.N)(h:XH)(hdf:d.dfr=none)(hpr:d.prm=none:=by rfl)(hg:kJ K=false:=by rfl):runW D K as h=gN none d.res d.ownR h.length (execW D K h.length none d.body (aT (if d.ownA then as else kQ as)) h):=kA fun q=>by
 rw[bI,aPh];have he:∀ n,dC D (n+1) K as h=gN none d.res d.ownR h.length (aZ (dC D n) (bV D n) K h.length n none d.body (aT (if d.ownA then as else kQ as)) h):=fun n=>by
  rw[dC];unfold aCQ;rw[hD];simp only[hpr,hl,AAe,hdf,hg,aJv]
 constructor
 ·rintro ⟨n,hn⟩
  cases n with
  | zero=>simp[dC]at hn
  | succ n=>grind
 grind
theorem dF{K:Nat}{d:XFn}(hD:D K=some d){f:List AV→XH→Option (AV×XH)}(hp:d.prm=some f)(as:List AV)(h:XH):runW D K as h=f as h:=kA fun q=>by
 rw[bI];have he:∀ n,dC D (n+1) K as h=f as h:=fun n=>by
  rw[dC];unfold aCQ
  grind
 constructor
 ·rintro ⟨n,hn⟩
  cases n with
  | zero=>simp[dC]at hn
  | succ n=>grind
 ·intro hq
  exact⟨1,by grind⟩
def aLJ(l k:Nat)(r:Option (DX×aI×XH)):Option (AV×XH):=match r with
 | some (x,_,h2)=>match gY h2 l with
   | some .busy=>some (match x with
     | .normal=>nV true k (.bool true) (loopTo h2 l .ready)
     | x=>nV true k (.bool false) (loopTo h2 l (.done x)))
   | _=>none
 | none=>none
def aIW(l:Nat)(r:Option (DX×aI×XH))(f:aI→XH→Option (AV×XH)):Option (AV×XH):=match r with
 | some (.normal,e1,h1)=>match gY h1 l with
   | some .ready=>f e1 (loopTo h1 l .busy)
   | _=>none
 | _=>none
theorem aDl{K:Nat}{d:XFn}(hD:D K=some d){l site:Nat}{vs:List AV}{h:XH}(hl:hat h l=some (.loop K site vs .ready)){L ps:List Nat}{a b:XCode}(hs:dZ d.body site=some (L,ps,a,b)){as:List AV}(hn:as.length=ps.length) :
 runYW D (.fn (.yield l) [] []) as h=aIW l (execW D K h.length (some l) a (rP (bB L vs) ps as) h) fun e1 h1=>aLJ l h.length (execW D K h.length (some l) b e1 h1):=kA fun q=>by
 rw[xJ];have he:∀ n,bV D (n+1) (.fn (.yield l) [] []) as h=aIW l (aZ (dC D n) (bV D n) K h.length n (some l) a (rP (bB L vs) ps as) h) fun e1 h1=>aLJ l h.length (aZ (dC D n) (bV D n) K h.length n (some l) b e1 h1):=fun n=>by
  rw[bV];unfold aFo;simp only[hl,hD,D8,hs,hn,AAe];rfl
 constructor
 ·rintro ⟨n,hn⟩
  cases n with
  | zero=>simp[bV]at hn
  | succ n =>
    rw[he]at hn;unfold aIW at hn ⊢;split at hn
    ·rename_i e1 h1 hx
     rw[aW.2 ⟨n,hx⟩];simp only;split at hn
     ·rename_i hst
      simp only at hn;cases hx2:aZ (dC D n) (bV D n) K h.length n (some l) b e1 (loopTo h1 l .busy)with
      | none=>rw[hx2]at hn;simp[aLJ]at hn
      | some s=>grind [aW]
     ·simp at hn
    ·simp at hn
 ·intro hq
  unfold aIW at hq;split at hq
  ·rename_i e1 h1 hx
   obtain⟨n,hn⟩:=aW.1 hx;split at hq
   ·rename_i hst
    simp only at hq;cases hx2:execW D K h.length (some l) b e1 (loopTo h1 l .busy)with
    | none=>rw[hx2]at hq;simp[aLJ]at hq
    | some s =>
      obtain⟨m,hm⟩:=aW.1 hx2;refine⟨max n m+1,?_⟩;rw[he];have e1':=fV D K h.length (some l) a (rP (bB L vs) ps as) h n (max n m) _ AT hn;have e2':=fV D K h.length (some l) b e1 (loopTo h1 l .busy) m (max n m) _ AT hm;simp only at e1' e2';unfold aIW
      grind
   ·simp at hq
  ·simp at hq
def aP(P:Program)(p:Nat×XFn):Prop:=aUJ P p.1 p.2.fn∧(okD p.2=true∧(gW p.2 p.2.body∧p.2.prm=none))
theorem aS{P:Program}{p:Nat×XFn}{l:List (Nat×XFn)}(h:aP P p)(hl:∀ q∈l,aP P q):∀ q∈p::l,aP P q:=by grind
theorem bFo{P:Program}:∀ q∈([]:List (Nat×XFn)),aP P q:=by grind
def aIB:List (Nat×XFn)→Nat→Option XFn
 | [],_=>none
 | (k,d)::r,K=>match Nat.beq K k with
   | true=>some d
   | false=>aIB r K
theorem sE{K:Nat}{d:XFn}:∀{l:List (Nat×XFn)},aIB l K=some d→(K,d)∈l
 | [],h=>by simp[aIB]at h
 | (k,e)::r,h=>by
   simp only[aIB]at h;split at h
   ·rename_i hb
    have:=Nat.eq_of_beq_eq_true hb;simp only[oSI]at h;subst h this;exact aD4 ..
   ·exact D7 _ (sE h)
structure RM where
 fz:List (Nat×List (Nat×Bool))
 lv:List (List Nat)
 sv:List (List Nat)
def bBt(r:Nat):List (Nat×List (Nat×Bool))→List (Nat×Bool)
 | []=>[]
 | (k,l)::t=>if k=r then l else bBt r t
def aMs{α:Type}(d:α):List α→Nat→α
 | [],_=>d
 | a::_,0=>a
 | _::t,n+1=>aMs d t n
structure MS where
 r:Nat
 l:Nat
 s:Nat
 acc:List XCode
def mkC(m:RM)(ls:List XCode):DCode→MS→XCode×MS
 | .skip,s=>(.skip,s)
 | .reg d ops,s=>(.reg (bBt s.r m.fz) d ops,⟨s.r+1,s.l,s.s,s.acc⟩)
 | .seq a b,s=>match mkC m ls a s with|(x,s)=>match mkC m ls b s with|(y,s)=>(.seq x y,s)
 | .cond c a b,s=>match mkC m ls a s with|(x,s)=>match mkC m ls b s with|(y,s)=>(.cond c x y,s)
 | .block id a,s=>match mkC m ls a s with|(x,s)=>(.block id x,s)
 | .loop a,s=>match mkC m ls a s with|(x,s)=>(aMs (.loop (aMs [] m.lv s.l) x) ls s.l,⟨s.r,s.l+1,s.s,s.acc++[.loop (aMs [] m.lv s.l) x]⟩)
 | .scope a,s=>match mkC m ls a s with|(x,s)=>(.scope x,s)
 | .rng f ps a b,s=>match mkC m ls a ⟨s.r,s.l,s.s+1,s.acc⟩with|(x,s1)=>match mkC m ls b s1 with|(y,s2)=>(.rng s.s (aMs [] m.sv s.s) f ps x y,s2)
 | .exit id,s=>(.exit id,s)
 | .ret,s=>(.ret,s)
noncomputable def mkG(P:Program)(fn:Func)(m:RM)(oa or:Bool)(ls:List XCode):XFn×List XCode:=match fn.body with
 | none=>(⟨0,[],oa,or,.skip,none,none⟩,[])
 | some c=>match aIH P fn.ntmps c with
   | none=>(⟨0,[],oa,or,.skip,none,none⟩,[])
   | some (dfr,b)=>match mkC m ls b ⟨0,0,0,[]⟩with
     | (x,s)=>(⟨fn.ntmps,(fn.results.toList.mapM (aCk P)).getD [],oa,or,x,dfr,none⟩,s.acc)
noncomputable def mkF(P:Program)(fn:Func)(m:RM)(oa or:Bool)(ls:List XCode):XFn:=(mkG P fn m oa or ls).1
noncomputable def mkL(P:Program)(fn:Func)(m:RM)(j:Nat)(ls:List XCode):XCode:=aMs .skip (mkG P fn m false false ls).2 j
end
section
open Go.RowKit
variable{P:Program}{D:Nat→Option XFn}
theorem SH.none:SH D (fun _=>Option.none) (fun _=>Option.none) [] noH :=
 ⟨fun b c hb=>by simp at hb,fun b c c' x y hx=>by grind,fun b x hx=>by simp[hat]at hx,GhR.no fun b st p hx=>by simp[hat]at hx⟩
theorem bCV(ok:XOk P D){n K:Nat}{as:List AV}{v:AV}{h':XH}(hrun:dC D n K as []=some (v,h'))(has:∀ a∈as,Gd a)(hv:Gd v){w:World}{vs:Array Value}(gi:GI (fun b=>b<w.heap.size) w)(hA:Args (fun b=>b<w.heap.size) w as vs) :
 Calls P K vs w fun e w'=>∃ F' q,e = .returned q∧Rv F' w' v q∧Below w.heap.size w w':=by
 have hfn:=(oA ok n ⟨fun b=>b<w.heap.size,w,gi⟩ (fun _=>Option.none) (fun l i h=>by simp at h)).1 (fun _=>Option.none) [] noH K as as v h' SH.none (RnL.self fun a ha=>(has a ha).rn) hrun;have hc:=hfn.2 (fun b=>b<w.heap.size) w vs (Up.refl _ _) ⟨fun b hb=>hb,fun b x hb=>by simp[noH]at hb,fun b x hb=>by simp[noH]at hb⟩ hA;refine(callsIn_wide.1 hc).mono ?_;rintro e w' ⟨q,v',F',H',rfl,h1,h2,h3,r',_,_,h4⟩;obtain⟨rfl,_⟩:=h4.same hv.gr;exact⟨F',q,rfl,h3,h1.io.os,h1.io.tape,h1.io.output,h1.le,fun k hk=>h1.same k hk (by rfl)⟩
theorem aTe{F:Nat→Prop}{w:World}{b:Bool}{q:Value}(h:Rv F w (.bool b) q):q = .bool b:=by cases h;rfl
section
variable{H:Type}{enc:TypeId×Value→H}
theorem aEB(hl:laidOutB P=true){W W':World}(hb:Below W.heap.size W W'):∀(ts:List TypeId)(vs:List Value)(ds:List (DataW H))(ps:List MemPlace),(ts.all fun t=>P.readableRec t&&decide (t<P.types.size))=true →
 (∀ x∈ps,x.block<W.heap.size)→DataW.TrodAll enc P W 0 (fun _=>true) true ts vs ds ps→DataW.TrodAll enc P W' 0 (fun b=>decide (b<W.heap.size)) true ts vs ds ps
 | [],[],[],ps,_,_,h=>h
 | t::ts,v::vs,d::ds,ps,ht,hlt,h=>by
   obtain⟨p,q,h1,h2,rfl⟩:=h;simp only[O3,B4,AAf]at ht;exact⟨p,q,Below.trod hl ht.1.1 ht.1.2 h1 hb (fun x hx=>hlt x (by simp[hx])),aEB hl hb ts vs ds q ht.2 (fun x hx=>hlt x (by simp[hx])) h2,rfl⟩
 | [],[],_::_,_,_,_,h=>h.elim
 | [],_::_,_,_,_,_,h=>h.elim
 | _::_,[],_,_,_,_,h=>h.elim
 | _::_,_::_,[],_,_,_,h=>h.elim
theorem aPX(hl:laidOutB P=true){f:Func}{s:ChangeSpec}{W W':World}{args:Array Value}{ds gs:List (DataW H)}{before:List MemPlace}{t:TypeId}
 (hW:DataW.Whole enc P f.params.toList s.vars false W args.toList ds gs before) (hv:s.vars=[]) (hs:(s.fn H (ds++gs)).results=[.lit (.bool true)]) (hs2:(s.fn H (ds++gs)).args=ds) (hs3:(s.fn H (ds++gs)).vars=[])
 (ht:f.resultTypes = #[t]) (hu:P.underlying t=some .bool) (hp:(f.params.toList.all fun t=>P.readableRec t&&decide (t<P.types.size))=true) (hb:Below W.heap.size W W') :
 s.post enc P f false true false false W args (.bool true) W':=by
 have hlt:=hW.lt;have hW0:=hW;obtain⟨p,q,h1,h2,rfl,h4,h5⟩:=hW;rw[hv]at h2;cases gs with
 | cons g gs=>exact h2.elim
 | nil =>
   have hq:q=[]:=h2;subst hq;refine⟨ds,[],p++[],[],p,[],hW0,?_,?_,?_,?_,fun h=>by cases h⟩
   ·rw[hs,ht]
    exact⟨[],[],RowKit.shut_bool hu true,rfl,rfl⟩
   ·grind [aEB]
   ·rw[hs3,hv]
    exact rfl
   ·exact World.keptBut_mono (fun x hx=>⟨by grind,.inr (.inl hx)⟩) (hb.frame (· ∈ p))
end
variable{P:Program}{H:Type}{enc:TypeId×Value→H}{w:World}{spare:Nat→Bool}{held:Bool}
inductive CT where
 | int (k:IntKind)
 | bool
 | str
 | sl (r:List CT)
inductive Sh:CT→AV→Prop where
 | int (k:IntKind) (n:Int) (h:(Lit.int k n).wf=true):Sh (.int k) (.int k n)
 | bool (b:Bool):Sh .bool (.bool b)
 | str (s:ByteArray) (h:s.size≤maxLen):Sh .str (.str s)
 | sl (r:List CT) (rows:List (List AV)) (hl:∀ row∈rows,row.length=r.length) (hn:rows.length≤maxLen) (h:∀ row∈rows,∀(i:Nat)(c:CT)(a:AV),r[i]?=some c→row[i]?=some a→Sh c a):Sh (.sl r) (.fs rows)
inductive Flat(P:Program):TypeId→List CT→Prop where
 | int {t:TypeId} {k:IntKind} (h:P.underlying t=some (.int k)):Flat P t [.int k]
 | bool {t:TypeId} (h:P.underlying t=some .bool):Flat P t [.bool]
 | str {t:TypeId} (h:P.underlying t=some .string):Flat P t [.str]
 | sl {t e:TypeId} {r:List CT} (h:P.underlying t=some (.slice e)) (he:Flat P e r) (hc:P.cellsOf e=r.length) (h0:0<r.length):Flat P t [.sl r]
 | struct {t:TypeId} {fs:Array Field} (rs:List (List CT)) (h:P.underlying t=some (.struct fs)) (hl:rs.length=fs.size) (hf:∀(i:Nat)(f:Field)(r:List CT),fs[i]?=some f→rs[i]?=some r→Flat P f.type r)
  (hc:∀(i:Nat)(f:Field)(r:List CT),fs[i]?=some f→rs[i]?=some r→P.cellsOf f.type=r.length∧f.offset=((rs.take i).flatten).length) (ht:P.cellsOf t=rs.flatten.length):Flat P t rs.flatten
 | array {t e:TypeId} {n:Nat} {r:List CT} (h:P.underlying t=some (.array n e)) (he:Flat P e r) (hc:P.cellsOf e=r.length) (ht:P.cellsOf t=n*r.length):Flat P t (List.replicate n r).flatten
inductive DecL(F:Nat→Prop)(w:World):List CT→List AV→List Value→Prop where
 | nil:DecL F w [] [] []
 | cons {c:CT} {a:AV} {v:Value} {cs:List CT} {as:List AV} {vs:List Value} (h1:Sh c a) (h2:Rv F w a v) (h3:v.oneCell'=true) (h:DecL F w cs as vs):DecL F w (c::cs) (a::as) (v::vs)
theorem DecL.append{F:Nat→Prop}{cs cs':List CT}{as as':List AV}{vs vs':List Value}(h:DecL F w cs as vs)(h':DecL F w cs' as' vs'):DecL F w (cs++cs') (as++as') (vs++vs'):=by
 induction h with
 | nil=>exact h'
 | cons h1 h2 h3 _ ih=>exact .cons h1 h2 h3 ih
theorem DecL.len{F:Nat→Prop}{cs:List CT}{as:List AV}{vs:List Value}(h:DecL F w cs as vs):as.length=cs.length∧vs.length=cs.length:=by
 induction h with
 | nil=>omega
 | cons _ _ _ _ ih=>simp[ih]
theorem DecL.sh{F:Nat→Prop}{cs:List CT}{as:List AV}{vs:List Value}(h:DecL F w cs as vs):∀(i:Nat)(c:CT)(a:AV),cs[i]?=some c→as[i]?=some a→Sh c a:=by
 induction h with
 | nil=>grind
 | cons h1 _ _ _ ih =>
   grind
theorem DecL.rv{F:Nat→Prop}{cs:List CT}{as:List AV}{vs:List Value}(h:DecL F w cs as vs):∀(i:Nat)(a:AV)(v:Value),as[i]?=some a→vs[i]?=some v→Rv F w a v∧v.oneCell'=true:=by
 induction h with
 | nil=>grind
 | cons h1 h4 h5 _ ih =>
   grind
theorem trod_array{fuel:Nat}{t e:TypeId}{n:Nat}{cs:List Value}{x:DataW H×List MemPlace}(ht:P.underlying t=some (.array n e))(h:DataW.trod enc P w 0 spare held fuel t cs=some x) :
 cs.length=P.cellsOf t∧∃ m,∀ i,i<n→∃ y,DataW.trod enc P w 0 spare held m e ((cs.drop (i*P.cellsOf e)).take (P.cellsOf e))=some y:=by
 cases fuel with
 | zero=>simp[DataW.trod]at h
 | succ m =>
   unfold DataW.trod at h;rw[ht]at h;split at h<;>simp_all
   obtain⟨hl,xs,hp,hd⟩:=h;refine⟨m,fun i hi=>?_⟩;have hlen:=mapM_some_length hp;have:=mapM_some_get hp i i (by simp[hi])
   grind
theorem aKm{b o:Nat}{sp:Option Nat}{v:Value}(h:w.cell? ⟨b,o,sp⟩=some v):sp=none∧b<w.heap.size:=by
 unfold World.cell? at h;split at h
 ·rename_i c _ _ hb
  refine⟨?_,?_⟩;·simp_all
  grind
 ·simp at h
theorem aUx{b o i j:Nat}:((⟨b,o,none⟩:Addr).add i).add j=⟨b,o+i+j,none⟩:=by
 unfold Addr.add
 grind
theorem aJx{t:TypeId}{tys:List CT}(hf:Flat P t tys):∀{fuel:Nat}{cs:List Value}{x:DataW H×List MemPlace},DataW.trod enc P w 0 spare held fuel t cs=some x→∃ as,DecL (fun b=>b<w.heap.size) w tys as cs:=by
 induction hf with
 | int h =>
   intro fuel cs x hx;obtain⟨n,rfl,_,hw⟩:=DataW.trod_int h hx;exact⟨_,.cons (.int _ n hw) (.int _ n) rfl .nil⟩
 | bool h =>
   intro fuel cs x hx;obtain⟨b,rfl,_⟩:=DataW.trod_bool h hx;exact⟨_,.cons (.bool b) (.bool b) rfl .nil⟩
 | str h =>
   intro fuel cs x hx;obtain⟨s,rfl,_,hs⟩:=DataW.trod_string h hx;exact⟨_,.cons (.str s hs) (.str s) rfl .nil⟩
 | @sl t e r h he hc h0 ih =>
   intro fuel cs x hx;rcases DataW.trod_slice h hx with ⟨rfl,_⟩|⟨a,len,cap,elems,rest,n,_,rfl,_,_,hlc,hcm,hel,hg,_,_⟩;·exact⟨_,.cons (.sl r [] (by simp) (by simp) (by simp)) (.fs0 none 0) rfl .nil⟩
   ·rcases aB2 len with hz|hz
    ·subst hz
     exact⟨_,.cons (.sl r [] (by simp) (by simp) (by simp)) (.fs0 (some a) cap) rfl .nil⟩
    ·have hrow:∀ i,∃ p:List AV×List Value,i<len→DecL (fun b=>b<w.heap.size) w r p.1 p.2∧w.cells? 0 (a.add (i*r.length)) r.length=some p.2:=by
      intro i;by_cases hi:i<len
      ·have:=hg i hi
       rw[B6 AT,hc,E7]at this;obtain⟨vs,h1,h2⟩:=this;obtain⟨as,h3⟩:=ih h2;exact⟨(as,vs),fun _=>⟨h3,h1⟩⟩
      ·exact⟨([],[]),fun hh=>absurd hh hi⟩
     obtain⟨f,hfr⟩:=Classical.axiomOfChoice hrow;obtain⟨blk,off,sp⟩:=a;have hsp:sp=none∧blk<w.heap.size:=by
      obtain⟨h1,h2⟩:=hfr 0 hz;obtain⟨_,h4,h5⟩:=World.cells?_some h2;have h6:=h5 0 h0;rw[B6 AT]at h6;simp only[Nat.zero_mul]at h6;unfold Addr.add at h6;simp only[AAe]at h6;exact aKm h6
     obtain⟨rfl,hblk⟩:=hsp;have hcell:∀ i,i<len→∀ j,j<r.length→w.cell? ⟨blk,off+i*r.length+j,none⟩=(f i).2[j]?:=by
      intro i hi j hj;obtain⟨_,h2⟩:=hfr i hi;obtain⟨_,_,h5⟩:=World.cells?_some h2
      grind [aUx]
     have hrl:((List.range len).map fun i=>(f i).1).length=len:=by simp
     have hget:∀(i:Nat)(row:List AV),((List.range len).map fun i=>(f i).1)[i]?=some row→i<len∧row=(f i).1:=by
      grind
     refine⟨[.fs ((List.range len).map fun i=>(f i).1)],.cons (.sl r _ ?_ ?_ ?_) ?_ rfl .nil⟩
     ·intro row hm
      simp only[F7,I3]at hm;obtain⟨i,hi,rfl⟩:=hm;exact(hfr i hi).1.len.1
     ·omega
     ·intro row hm
      simp only[F7,I3]at hm;obtain⟨i,hi,rfl⟩:=hm;exact(hfr i hi).1.sh
     ·have:=Rv.fs (F:=fun b=>b<w.heap.size) (w:=w) ((List.range len).map fun i=>(f i).1) blk off r.length cap (fun i j=>if i<len∧j<r.length then ((f i).2[j]?).getD (.bool false) else .bool false)
       AT hblk ?_ ?_ ?_ ?_
      ·grind
      ·intro row hm
       simp only[F7,I3]at hm;obtain⟨i,hi,rfl⟩:=hm;exact(hfr i hi).1.len.1
      ·intro i row j c h1 h2
       obtain⟨hi,rfl⟩:=hget i row h1;have hl:=(hfr i hi).1.len
       grind
      ·intro i j
       by_cases hij:i<len∧j<r.length
       ·rw[if_pos hij]
        have hl:=(hfr i hij.1).1.len;rw[B6 AT];simp only[G3];exact((hfr i hij.1).1.rv j _ _ (B6 AT) (B6 AT)).2
       ·rw[if_neg hij];rfl
      ·intro i row j c h1 h2
       obtain⟨hi,rfl⟩:=hget i row h1;have hl:=(hfr i hi).1.len;have hj:j<r.length:=by
        grind
       rw[if_pos ⟨hi,hj⟩,B6 AT];exact((hfr i hi).1.rv j c _ h2 (B6 AT)).1
 | @struct t fs rs h hl hf hc ht ih =>
   intro fuel cs x hx;obtain⟨xs,n,_,_,hlen,hxs,hfld⟩:=DataW.trod_struct h hx;have key:∀ k,k≤rs.length→∃ as,DecL (fun b=>b<w.heap.size) w (rs.take k).flatten as (cs.take ((rs.take k).flatten).length):=by
    intro k;induction k with
    | zero=>intro _;exact⟨[],by simpa using DecL.nil⟩
    | succ k ihk =>
      intro hk;obtain⟨as,h1⟩:=ihk AT;have hr:rs[k]?=some rs[k]:=B6 AT;have hfk:fs[k]?=some fs[k]:=E6 AT;obtain⟨c1,c2⟩:=hc k _ _ hfk hr;have h2:=hfld k _ hfk;rw[B6 AT]at h2;obtain⟨as',h3⟩:=ih k _ _ hfk hr h2;refine⟨as++as',?_⟩;rw[D6,hr,Option.toList_some,aC9,F6,aG3];simp only[J8,aA7,J1];rw[c1,c2]at h3;exact h1.append h3
   obtain⟨as,h1⟩:=key rs.length (B5 _)
   grind
 | @array t e n r h he hc ht ih =>
   intro fuel cs x hx;obtain⟨hlen,m,hy⟩:=trod_array h hx;have key:∀ k,k≤n→∃ as,DecL (fun b=>b<w.heap.size) w (List.replicate k r).flatten as (cs.take (k*r.length)):=by
    intro k;induction k with
    | zero=>intro _;exact⟨[],by simpa using DecL.nil⟩
    | succ k ihk =>
      intro hk;obtain⟨as,h1⟩:=ihk AT;obtain⟨y,h2⟩:=hy k AT;obtain⟨as',h3⟩:=ih h2;refine⟨as++as',?_⟩;rw[aC3,aC9,aF8,aG3];simp only[J8,aA7,J1,Nat.one_mul];rw[hc]at h3;exact h1.append h3
   obtain⟨as,h1⟩:=key n (B5 _)
   grind
def FF(P:Program):Nat→List Field→List (List CT)→Prop
 | _,[],[]=>True
 | o,f::fs,r::rs=>Flat P f.type r∧P.cellsOf f.type=r.length∧f.offset=o∧FF P (o+r.length) fs rs
 | _,_,_=>False
theorem FF.get:∀{o:Nat}{fs:List Field}{rs:List (List CT)},FF P o fs rs→rs.length=fs.length∧∀(i:Nat)(f:Field)(r:List CT),fs[i]?=some f→rs[i]?=some r→Flat P f.type r∧P.cellsOf f.type=r.length∧f.offset=o+((rs.take i).flatten).length
 | o,[],[],_=>⟨rfl,fun i f r h=>by simp at h⟩
 | o,f::fs,r::rs,h=>by
   obtain⟨h1,h2,h3,h4⟩:=h;obtain⟨l1,l2⟩:=FF.get h4;refine⟨by simp[l1],fun i f' r' e1 e2=>?_⟩;cases i with
   | zero =>
     simp only[E8,oSI]at e1 e2;subst e1;subst e2;exact⟨h1,h2,by simpa using h3⟩
   | succ i =>
     obtain⟨k1,k2,k3⟩:=l2 i f' r' (by simpa using e1) (by simpa using e2);refine⟨k1,k2,?_⟩;rw[k3,List.take_succ_cons,J8,F6];omega
 | _,[],_::_,h=>h.elim
 | _,_::_,[],h=>h.elim
theorem Flat.mk{t:TypeId}{fs:Array Field}{rs:List (List CT)}(h:P.underlying t=some (.struct fs))(hf:FF P 0 fs.toList rs)(ht:P.cellsOf t=rs.flatten.length):Flat P t rs.flatten:=by
 obtain⟨l1,l2⟩:=hf.get;refine .struct rs h AT (fun i f r h1 h2=>(l2 i f r (by grind) h2).1) (fun i f r h1 h2=>?_) ht
 grind
theorem Sh.gd{c:CT}{a:AV}(h:Sh c a):Gd a:=by
 induction h with
 | int k n h=>exact .int k n
 | bool b=>exact .bool b
 | str s h=>exact .str s
 | sl r rows hl hn h ih =>
   refine .fs rows fun row hr c hc=>?_;obtain⟨i,hi,he⟩:=List.mem_iff_getElem.1 hc;have hi':i<r.length:=by grind
   exact ih row hr i r[i] c (B6 hi') (by grind)
theorem aUs{t:TypeId}{c:CT}(hf:Flat P t [c]){v:Value}(hv:v.cells.toList=[v]){d:DataW H}{ps:List MemPlace}(hd:DataW.Trod enc P w 0 spare held t v d ps) :
 ∃ a,Sh c a∧Rv (fun b=>b<w.heap.size) w a v:=by
 obtain⟨fuel,h⟩:=hd;rw[hv]at h;obtain⟨as,h1⟩:=aJx hf h;cases h1 with
 | cons h1 h2 h3 h4=>grind
theorem aPW{D:Nat→Option XFn}(ok:XOk P D){K:Nat}{as:List AV}(hrun:runW D K as []=some (.bool true,[]))(has:∀ a∈as,Gd a){vs:Array Value}(gi:GI (fun b=>b<w.heap.size) w)(hA:Args (fun b=>b<w.heap.size) w as vs) :
 Calls P K vs w fun e w'=>e = .returned (.bool true)∧Below w.heap.size w w':=by
 obtain⟨n,hn⟩:=bI.1 hrun;refine(bCV ok hn has (.bool true) gi hA).mono ?_
 grind [aTe]
variable{P:Program}{D:Nat→Option XFn}{F F':Nat→Prop}{w w':World}{H:Hp}
theorem zK{b:Nat}{o:Obj}(h:w.heap[b]?=some o):b<w.heap.size:=by
 grind
theorem Up.below(hs:∀ b,F b→F' b)(hl:∀ b,F b→b<w.heap.size)(hb:Below w.heap.size w w'):Up F w F' w' :=
 ⟨hs,fun b h=>hb.block b (hl b h),fun b c e fr h=>⟨c,e,fr,by rw[hb.block b (zK h)];exact h,rfl⟩,hb.size⟩
theorem Ext.below(hs:∀ b,F b→F' b)(hn:∀ b,F' b→F b∨w.heap.size≤b)(hb:Below w.heap.size w w'):Ext F w H F' w' H where
 sub:=hs
 fnew:=fun b h=>(hn b h).elim .inl fun h=>.inr (.inr h)
 hdom:=fun _ h=>.inl h
 hnew:=fun _ h=>.inl h
 le:=hb.size
 same:=fun b h _=>hb.block b h
 cells:=fun b c e fr h=>⟨c,e,fr,by rw[hb.block b (zK h)];exact h,rfl⟩
 io:=⟨hb.os,hb.tape,hb.output⟩
theorem St.below(hs:∀ b,F b→F' b)(hn:∀ b,F' b→F b∨w.heap.size≤b)(hl:∀ b,F' b→b<w'.heap.size)(st:St F w H)(hb:Below w.heap.size w w'):St F' w' H :=
 ⟨hl,fun b x h hf=>by
  obtain⟨o,h1,_⟩:=st.blk b x h;rcases hn b hf with h2|h2;·exact st.dis b x h h2
  grind,
 fun b x h=>by
  obtain⟨o,h1,h2⟩:=st.blk b x h;exact⟨o,by rw[hb.block b (zK h1)];exact h1,h2.up (Up.below hs st.lt hb)⟩⟩
theorem FnW.shelfG{B:Base}{f:FuncId}{as:List AV}{v:AV}{Q:AV→Hp→Prop}
 (hq:∀(vs:Array Value)(w:World),(callFunc f vs).run P w = .ok (.enter f vs) w)
 (hc:∀(F:Nat→Prop)(w:World)(vs:Array Value),GI F w→(∀ b,F b→b<w.heap.size)→Args F w as vs→Calls P f vs w fun e w'=>∃ r F',e = .returned r∧Below w.heap.size w w' ∧
  (∀ b,F b→F' b)∧(∀ b,F' b→F b∨w.heap.size≤b)∧(∀ b,F' b→b<w'.heap.size)∧Rv F' w' v r)
 (hQ:Q v H):FnW B P f as H Q :=
 ⟨hq,fun F w vs hB st ha=>callsIn_wide.2 ((hc F w vs (B.gi.up hB) st.lt ha).mono fun e w' ⟨r,F',he,hb,hs,hn,hl,hr⟩=>⟨r,v,F',H,he,Ext.below hs hn hb,St.below hs hn hl st hb,hr,hQ⟩)⟩
theorem FnW.shelfN{B:Base}{f:FuncId}{as:List AV}{v:AV}{Q:AV→Hp→Prop}
 (hq:∀(vs:Array Value)(w:World),(callFunc f vs).run P w = .ok (.enter f vs) w)
 (hc:∀(F:Nat→Prop)(w:World)(vs:Array Value),(∀ b,F b→b<w.heap.size)→Args F w as vs→Calls P f vs w fun e w'=>∃ r F',e = .returned r∧Below w.heap.size w w' ∧
  (∀ b,F b→F' b)∧(∀ b,F' b→F b∨w.heap.size≤b)∧(∀ b,F' b→b<w'.heap.size)∧Rv F' w' v r)
 (hQ:Q v H):FnW B P f as H Q :=
 ⟨hq,fun F w vs _ st ha=>callsIn_wide.2 ((hc F w vs st.lt ha).mono fun e w' ⟨r,F',he,hb,hs,hn,hl,hr⟩=>⟨r,v,F',H,he,Ext.below hs hn hb,St.below hs hn hl st hb,hr,hQ⟩)⟩
theorem FnW.shelf{B:Base}{f:FuncId}{as:List AV}{v:AV}{r:Array Value→Value}{Q:AV→Hp→Prop}
 (hq:∀(vs:Array Value)(w:World),(callFunc f vs).run P w = .ok (.enter f vs) w)
 (hr:∀(F:Nat→Prop)(w:World)(vs:Array Value),Rv F w v (r vs))
 (hc:∀(F:Nat→Prop)(w:World)(vs:Array Value),(∀ b,F b→b<w.heap.size)→Args F w as vs→Calls P f vs w fun e w'=>e = .returned (r vs)∧Below w.heap.size w w')
 (hQ:Q v H):FnW B P f as H Q :=
 FnW.shelfN hq (fun F w vs hl ha=>(hc F w vs hl ha).mono fun e w' ⟨he,hb⟩=>⟨r vs,F,he,hb,fun _ h=>h,fun _ h=>.inl h,fun b h=>D9 (hl b h) hb.size,hr _ _ _⟩) hQ
theorem Args.cons1{F:Nat→Prop}{w:World}{a:AV}{as:List AV}{vs:Array Value}(h:Args F w (a::as) vs):∃ v vs',vs = #[v]++vs'∧Rv F w a v∧Args F w as vs':=by
 obtain⟨hl,h⟩:=h;rcases vs with ⟨_|⟨v,r⟩⟩;·simp at hl
 ·refine⟨v,r.toArray,by simp,h 0 a v rfl (by simp),by grind,fun i x y hx hy=>h (i+1) x y (by grind) (by grind)⟩
theorem Args.nil1{F:Nat→Prop}{w:World}{vs:Array Value}(h:Args F w [] vs):vs = #[]:=by
 grind [Args]
theorem Args.strInt{F:Nat→Prop}{w:World}{s:ByteArray}{k:IntKind}{n:Int}{vs:Array Value}(h:Args F w [.str s,.int k n] vs):vs = #[.string s,.int k n]:=by
 obtain⟨a,as,rfl,h1,h2⟩:=h.cons1;obtain⟨b,bs,rfl,h3,h4⟩:=h2.cons1;cases h1;cases h3;rw[h4.nil1];rfl
theorem Args.strStr{F:Nat→Prop}{w:World}{s t:ByteArray}{vs:Array Value}(h:Args F w [.str s,.str t] vs):vs = #[.string s,.string t]:=by
 obtain⟨a,as,rfl,h1,h2⟩:=h.cons1;obtain⟨b,bs,rfl,h3,h4⟩:=h2.cons1;cases h1;cases h3;rw[h4.nil1];rfl
end
section
abbrev I(n:Int):AV:=.int .i64 n
theorem aF{n:Int}(h1 : -9223372036854775808≤n)(h2:n≤9223372036854775807):IntKind.i64.wrap n=n:=by
 simp[IntKind.wrap,IntKind.bits,IntKind.signed];omega
def zV(k:Nat)(L:List Nat)(e:aI)(h:XH):List AV:=lO (keepS k (dA k (L.map e) h)) (L.map e)
def cC(k:Nat)(L:List Nat)(r:Option (DX×aI×XH)):Option (List AV×XH):=match r with
 | some (.normal,e,h)=>some (zV k L e h,lK k L e h)
 | _=>none
theorem SU(k:Nat)(L:List Nat)(e:aI)(h:XH):cC k L (some (.normal,e,h))=some (zV k L e h,lK k L e h):=rfl
def aHb(r:Option (DX×aI×XH)):Bool:=match r with
 | some (.normal,_,_)=>false
 | some _=>true
 | none=>false
theorem aJ{D:Nat→Option XFn}{K k:Nat}{rd:Option Nat}{L:List Nat}{a:XCode}{e:aI}{h:XH}(n:Nat)(S:Nat→List AV)(G:Nat→XH)(h0:cC k L (some (.normal,e,h))=some (S 0,G 0))
 (hs:∀ i,i<n→cC k L (execW D K k rd a (bB L (S i)) (G i))=some (S (i+1),G (i+1))) (hl:aHb (execW D K k rd a (bB L (S n)) (G n))=true) :
 execW D K k rd (.loop L a) e h=execW D K k rd a (bB L (S n)) (G n):=by
 have key:∀(m i:Nat)(e:aI)(h:XH),m+i=n→cC k L (some (.normal,e,h))=some (S i,G i)→execW D K k rd (.loop L a) e h=execW D K k rd a (bB L (S n)) (G n):=by
  intro m;induction m with
  | zero =>
    intro i e h hi h0;have:i=n:=AT
    subst this;rw[zP];simp only[cC,oSI,B9]at h0;have e1:pO k L e h=bB L (S i):=by rw[←h0.1];rfl
    rw[e1,h0.2];revert hl;cases execW D K k rd a (bB L (S i)) (G i)with
    | none=>intro hl;rfl
    | some q =>
      obtain⟨x,e',h'⟩:=q;cases x with
      | normal=>intro hl;simp[aHb]at hl
      | exit id=>intro _;rfl
      | ret=>intro _;rfl
  | succ m ih =>
    intro i e h hi h0;rw[zP];simp only[cC,oSI,B9]at h0;have e1:pO k L e h=bB L (S i):=by rw[←h0.1];rfl
    rw[e1,h0.2];have h1:=hs i AT;revert h1;cases execW D K k rd a (bB L (S i)) (G i)with
    | none=>intro h1;simp[cC]at h1
    | some q =>
      obtain⟨x,e',h'⟩:=q;cases x with
      | normal=>intro h1;exact ih (i+1) e' h' AT h1
      | exit id=>intro h1;simp[cC]at h1
      | ret=>intro h1;simp[cC]at h1
 exact key n 0 e h AT h0
section
variable{run:eC}{runY:eT}{d:Option Nat}{e:aI}{h:XH}{ix:Nat}{r:List DOper}{D:Nat→Option XFn}{K k:Nat}{rd:Option Nat}{m:Option (List (Nat×Nat))}{op:DOp}{v:AV}
theorem Za{j:Nat}:upd e k v j=if j=k then v else e j:=rfl
theorem Zb:aX e (some k) v=upd e k v:=rfl
theorem Zc:aX e none v=e:=rfl
theorem Zd{α β:Type}{a:α}{b:β}:(a,b).fst=a:=rfl
theorem Ze{α β:Type}{a:α}{b:β}:(a,b).snd=b:=rfl
def aQz(r:Option (aI×XH)):Option (DX×aI×XH):=r.map fun r=>(.normal,r.1,r.2)
theorem Zf:aQz (some (e,h))=some (.normal,e,h):=rfl
def xo(m:Option (List (Nat×Nat)))(run:eC)(runY:eT)(ops:List DOper)(e:aI)(h:XH):Option (aI×XH):=match m with
 | none=>eU run runY ops e h
 | some L=>fB run runY ops e h L
def aWz(m:Option (List (Nat×Nat)))(run:eC)(runY:eT)(ops:List DOper)(p:aI×XH):Option (DX×aI×XH):=aQz (xo m run runY ops p.1 p.2)
theorem Zg{ops:List DOper}:aWz m run runY ops (e,h)=aQz (xo m run runY ops e h):=rfl
theorem Zh{ops:List DOper}:execW D K k rd (.reg [] false ops) e h=aQz (xo none (runW D) (runYW D) ops e h):=aEi
theorem Zi{ops:List DOper}:execW D K k rd (.reg [] true ops) e h=aQz (xo (some []) (runW D) (runYW D) ops e h):=aEj
theorem Zj{a:Nat×Bool}{fz:List (Nat×Bool)}{ops:List DOper}:execW D K k rd (.reg (a::fz) false ops) e h=aWz none (runW D) (runYW D) ops (fzX (a::fz) e h):=aEi
theorem Zk{a:Nat×Bool}{fz:List (Nat×Bool)}{ops:List DOper}:execW D K k rd (.reg (a::fz) true ops) e h=aWz (some []) (runW D) (runYW D) ops (fzX (a::fz) e h):=aEj
theorem Zl:xo m run runY [] e h=some (e,h):=by cases m<;>rfl
def lkM(q:Bool)(k:AV):Option ABlk→Option (Option AV)
 | some (.map _ es)=>aQ q k es
 | _=>none
def kV(m:Option (List (Nat×Nat)))(run:eC)(runY:eT)(r:List DOper)(d:Option Nat)(e:aI)(h:XH):Option AV→Option (aI×XH)
 | some v=>xo m run runY r (aX e d v) h
 | none=>none
theorem Zm:kV m run runY r d e h (some v)=xo m run runY r (aX e d v) h:=rfl
def kE(m:Option (List (Nat×Nat)))(run:eC)(runY:eT)(r:List DOper)(d:Option Nat)(e:aI)(h:XH)(g:Bool):Option Eff→Option (aI×XH)
 | some (.val v)=>xo m run runY r (aX e d v) h
 | some (.new own x f)=>xo m run runY r (aX e d (f h.length)) (uX h own g x)
 | none=>none
theorem Zn{g:Bool}:kE m run runY r d e h g (some (.val v))=xo m run runY r (aX e d v) h:=rfl
theorem Zo{g:Bool}{own:Option Nat}{x:ABlk}{f:Nat→AV}:kE m run runY r d e h g (some (.new own x f))=xo m run runY r (aX e d (f h.length)) (uX h own g x):=rfl
theorem aQa{g:Bool}{q:Option Eff}:(match q with
 | some (.val v)=>some (aX e d v,h)
 | some (.new own x f)=>some (aX e d (f h.length),uX h own g x)
 | none=>none).bind (fun s=>xo m run runY r s.1 s.2)=kE m run runY r d e h g q:=by cases q with
 | none=>rfl
 | some q=>cases q<;>rfl
theorem yZ (h1:cV run runY d op e h=match aD op e (aG h)with
 | some (.val v)=>some (aX e d v,h)
 | some (.new own x f)=>some (aX e d (f h.length),uX h own (iV op e h) x)
 | none=>none) (h2:∀ L,aMv ix op e L=L) (h3:∀ L,yU op e h L=true) (h4:∀ L h',aCv op e h h' L=true) :
 xo m run runY (⟨ix,d,op,none⟩::r) e h=kE m run runY r d e h (iV op e h) (aD op e (aG h)):=by
 rw[←aQa];cases m with
 | none=>simp only[xo,eU,gd,h1]
 | some L=>simp only[xo,fB,gd,h1,h2,h3,h4,AAe]
def sS(q:Option AV):Option Eff:=q.map .val
theorem uW{q:Option AV} (h1:cV run runY d op e h=match aD op e (aG h)with
 | some (.val v)=>some (aX e d v,h)
 | some (.new own x f)=>some (aX e d (f h.length),uX h own (iV op e h) x)
 | none=>none) (h5:aD op e (aG h)=sS q) (h2:∀ L,aMv ix op e L=L) (h3:∀ L,yU op e h L=true) (h4:∀ L h',aCv op e h h' L=true) :
 xo m run runY (⟨ix,d,op,none⟩::r) e h=kV m run runY r d e h q:=by
 rw[yZ h1 h2 h3 h4,h5];cases q<;>rfl
def aKS(c a b:AV):Option AV:=match c with
 | .bool t=>some (if t then a else b)
 | _=>none
def aWR(x:AV):Option AV:=match x with
 | .bool b=>some (.bool !b)
 | _=>none
def aQL(k:IntKind)(x:AV):Option AV:=match x with
 | .int _ n=>some (.int k (k.wrap n))
 | _=>none
def aTZ(off:Nat)(x:AV):Option AV:=match x with
 | .pt b o=>some (.pt b (o+off))
 | .fp r i o=>some (.fp r i (o+off))
 | _=>none
def aMw(q:Bool)(x:AV):Option AV:=match q,x with
 | true,.str s=>some (.int .i64 (s.size:Int))
 | false,.fs rows=>some (.int .i64 (rows.length:Int))
 | false,.sl _ _ _ n=>some (.int .i64 (n:Int))
 | false,.nilsl=>some (.int .i64 0)
 | _,_=>none
def aQf(s:Nat)(x i:AV):Option AV:=match x,i with
    | .sl b o s' len,.int _ n=>if s'=s∧0≤n∧n<(len:Int) then some (.pt b (o+n.toNat*s)) else none
    | .fs rows,.int _ n=>if 0≤n∧n<(rows.length:Int)∧(rows.getD n.toNat []).length=s then some (.fp rows n.toNat 0) else none
    | _,_=>none
def aXg(s:Nat)(rows:List (List AV))(j:Nat):Option (List AV)→Option AV
 | some r=>if r.length=s then some (.fp rows j 0) else none
 | none=>none
def aXx(x:AV)(i:Nat):Option AV:=match x with
 | .tup vs=>vs[i]?
 | _=>none
def aQe(len s:Nat)(x i:AV):Option AV:=match x,i with
    | .pt b o,.int _ n=>if 0≤n∧n<(len:Int) then some (.pt b (o+n.toNat*s)) else none
    | .fp r j o,.int _ n=>if 0≤n∧n<(len:Int) then some (.fp r j (o+n.toNat*s)) else none
    | _,_=>none
def mmM(mx:Bool)(x y:AV):Option AV:=match x,y with
    | .int k a,.int _ b=>some (.int k (if mx then (if b>a then b else a) else (if b<a then b else a)))
    | _,_=>none
def aLt(neg:Bool)(ks:List Nat)(x y:AV):Option AV:=match x,y with
    | .agg cs,.agg ds=>(dP ks cs ds).map fun b=>.bool (if neg then !b else b)
    | _,_=>none
def aMJ(neg:Bool)(x:Option Bool):Option AV:=match x with
    | some b=>some (.bool (if neg then !b else b))
    | none=>none
def aAM(ok:Bool)(z:AV)(x:Option (Option AV)):Option AV:=match x with
    | some r=>some (wF ok z r)
    | none=>none
def aXV(x:Option (List AV)):Option AV:=match x with
    | some cs=>some (.agg cs)
    | none=>none
def aQc(agg:Bool)(len s:Nat)(x i:AV):Option AV:=match x,i with
    | .agg cs,.int _ n=>if 0≤n∧n<(len:Int) then iJ agg s cs (n.toNat*s) else none
    | _,_=>none
def aQd(x i:AV):Option AV:=match x,i with
    | .str s,.int _ n=>if 0≤n∧n<(s.size:Int) then some (.int .u8 ((s.data.toList.getD n.toNat 0).toNat:Int)) else none
    | _,_=>none
def aDM(x:AV):Option AV:=match x with
    | .pt b o=>some (.pt b o)
    | .bp b=>some (.pt b 0)
    | .fp r i o=>some (.fp r i o)
    | .ifc t v=>some (.ifc t v)
    | _=>none
def kG(m:Option (List (Nat×Nat)))(run:eC)(runY:eT)(o:DOper)(r:List DOper)(e:aI)(h:XH)(b:Bool):AV→Option (aI×XH)
 | .bool t=>if t==b then xo m run runY (o::r) e h else xo m run runY r (aX e o.dst (.tup [])) h
 | .tup _=>xo m run runY r (aX e o.dst (.tup [])) h
 | _=>none
theorem Zp{s:Nat}{b:Bool}:xo m run runY (⟨ix,d,op,some (s,b)⟩::r) e h=kG m run runY ⟨ix,d,op,none⟩ r e h b (e s):=by
 cases m with
 | none =>
   simp only[xo,eU,gd];cases e s with
   | bool t=>cases ht:t==b<;>simp[kG,xo,eU,gd,ht]
   | _=>rfl
 | some L =>
   simp only[xo,fB,gd];cases e s with
   | bool t=>cases ht:t==b<;>simp[kG,xo,fB,gd,ht]
   | _=>rfl
theorem Zq{o:DOper}:kG m run runY o r e h true (.bool true)=xo m run runY (o::r) e h:=rfl
theorem Zr{o:DOper}:kG m run runY o r e h false (.bool false)=xo m run runY (o::r) e h:=rfl
theorem Zs{q:DOp}:kG m run runY ⟨ix,d,q,none⟩ r e h true (.bool false)=xo m run runY r (aX e d (.tup [])) h:=rfl
theorem Zt{q:DOp}:kG m run runY ⟨ix,d,q,none⟩ r e h false (.bool true)=xo m run runY r (aX e d (.tup [])) h:=rfl
theorem Zu{q:DOp}{b:Bool}{vs:List AV}:kG m run runY ⟨ix,d,q,none⟩ r e h b (.tup vs)=xo m run runY r (aX e d (.tup [])) h:=rfl
theorem Zv{a:AO}:xo m run runY (⟨ix,d,.mv a,none⟩::r) e h=xo m run runY r (aX e d (aK e a)) h:=(yZ rfl (fun _=>rfl) (fun _=>rfl) fun _ _=>rfl).trans rfl
theorem Zw{z:List AV}:xo m run runY (⟨ix,d,.alloc z,none⟩::r) e h=xo m run runY r (aX e d (.pt h.length 0)) (h++[some (.blk (kI z) (.cells true z))]):=(yZ rfl (fun _=>rfl) (fun _=>rfl) fun _ _=>rfl).trans rfl
theorem Pa:xo m run runY (⟨ix,d,.allocb,none⟩::r) e h=xo m run runY r (aX e d (.bp h.length)) (h++[some (.blk true (.cells true [.nilpt,.nilsl]))]):=(yZ rfl (fun _=>rfl) (fun _=>rfl) fun _ _=>rfl).trans rfl
theorem Zx{f:Fn}{a b:List AO}:xo m run runY (⟨ix,d,.mkf f a b,none⟩::r) e h=xo m run runY r (aX e d (.fn f (a.map (aK e)) (b.map (aK e)))) h:=(yZ rfl (fun _=>rfl) (fun _=>rfl) fun _ _=>rfl).trans rfl
theorem Zy{p1:_}{p2:_}{p3:_}:xo m run runY (⟨ix,d,(DOp.pick p1 p2 p3),none⟩::r) e h=kV m run runY r d e h (aKS (aK e p1) (aK e p2) (aK e p3)):=uW rfl (by simp only[aD,sS,aKS];cases aK e p1<;>rfl) (fun _=>rfl) (fun _=>rfl) fun _ _=>rfl
theorem Zz{p1:_}:xo m run runY (⟨ix,d,(DOp.box p1),none⟩::r) e h=kE m run runY r d e h (iU (aK e p1)) (aD (DOp.box p1) e (aG h)):=yZ rfl (fun _=>rfl) (fun _=>rfl) fun _ _=>rfl
theorem Z0{p1:_}{p2:_}:xo m run runY (⟨ix,d,(DOp.build p1 p2),none⟩::r) e h=kV m run runY r d e h (aXV (gJ p1 (p2.map fun p=>(p.1,p.2.1,aK e p.2.2)))):=uW rfl (by simp only[aD,sS,aXV];split<;>simp_all) (fun _=>rfl) (fun _=>rfl) fun _ _=>rfl
theorem Z8{p1:_}{p2:_}{p3:_}{p4:_}:xo m run runY (⟨ix,d,(DOp.bslice p1 p2 p3 p4),none⟩::r) e h=kE m run runY r d e h (kI p3&&p4.all fun p=>iU (aK e p.2.2)) (aD (DOp.bslice p1 p2 p3 p4) e (aG h)):=yZ rfl (fun _=>rfl) (fun _=>rfl) fun _ _=>rfl
theorem Z9{p1:_}:xo m run runY (⟨ix,d,(DOp.nilck p1),none⟩::r) e h=kV m run runY r d e h (aDM (aK e p1)):=uW rfl (by simp only[aD,sS,aDM];cases aK e p1<;>rfl) (fun _=>rfl) (fun _=>rfl) fun _ _=>rfl
theorem ZA{p1:_}{p2:_}{p3:_}:xo m run runY (⟨ix,d,(DOp.bin p1 p2 p3),none⟩::r) e h=kV m run runY r d e h (aEz p1 (aK e p2) (aK e p3)):=uW rfl (by simp only[aD,sS];cases aEz p1 (aK e p2) (aK e p3)<;>rfl) (fun _=>rfl) (fun _=>rfl) fun _ _=>rfl
theorem ZB{p1:_}{p2:_}{p3:_}{p4:_}:xo m run runY (⟨ix,d,(DOp.eqag p1 p2 p3 p4),none⟩::r) e h=kV m run runY r d e h (aLt p1 p2 (aK e p3) (aK e p4)):=uW rfl (by simp only[aD,sS,aLt];cases aK e p3<;>cases aK e p4<;>first|rfl|(simp only[];split<;>simp_all)) (fun _=>rfl) (fun _=>rfl) fun _ _=>rfl
theorem ZC{p1:_}{p2:_}{p3:_}{p4:_}:xo m run runY (⟨ix,d,(DOp.eqn p1 p2 p3 p4),none⟩::r) e h=kV m run runY r d e h (aMJ p2 (aAW p1 (aK e p3) (aK e p4))):=uW rfl (by simp only[aD,sS,aMJ];cases aAW p1 (aK e p3) (aK e p4)<;>rfl) (fun _=>rfl) (fun _=>rfl) fun _ _=>rfl
theorem ZD{p1:_}:xo m run runY (⟨ix,d,(DOp.not p1),none⟩::r) e h=kV m run runY r d e h (aWR (aK e p1)):=uW rfl (by simp only[aD,sS,aWR];cases aK e p1<;>rfl) (fun _=>rfl) (fun _=>rfl) fun _ _=>rfl
theorem ZE{p1:_}{p2:_}:xo m run runY (⟨ix,d,(DOp.conv p1 p2),none⟩::r) e h=kV m run runY r d e h (aQL p1 (aK e p2)):=uW rfl (by simp only[aD,sS,aQL];cases aK e p2<;>rfl) (fun _=>rfl) (fun _=>rfl) fun _ _=>rfl
theorem ZF{p1:_}{p2:_}:xo m run runY (⟨ix,d,(DOp.fld p1 p2),none⟩::r) e h=kV m run runY r d e h (aTZ p1 (aK e p2)):=uW rfl (by simp only[aD,sS,aTZ];cases aK e p2<;>rfl) (fun _=>rfl) (fun _=>rfl) fun _ _=>rfl
theorem ZG{p1:_}{p2:_}{p3:_}{p4:_}:xo m run runY (⟨ix,d,(DOp.idxa p1 p2 p3 p4),none⟩::r) e h=kV m run runY r d e h (aQe p1 p2 (aK e p3) (aK e p4)):=uW rfl (by simp only[aD,sS,aQe];cases aK e p3<;>cases aK e p4<;>first|rfl|(simp only[];split<;>rfl)) (fun _=>rfl) (fun _=>rfl) fun _ _=>rfl
theorem ZH{p1:_}{p2:_}{p3:_}:xo m run runY (⟨ix,d,(DOp.idx p1 p2 p3),none⟩::r) e h=kV m run runY r d e h (aQf p1 (aK e p2) (aK e p3)):=uW rfl (by simp only[aD,sS,aQf];cases aK e p2<;>cases aK e p3<;>first|rfl|(simp only[];split<;>rfl)) (fun _=>rfl) (fun _=>rfl) fun _ _=>rfl
theorem ZI{p1:_}{p2:_}{p3:_}{p4:_}{p5:_}:xo m run runY (⟨ix,d,(DOp.idxv p1 p2 p3 p4 p5),none⟩::r) e h=kV m run runY r d e h (aQc p1 p2 p3 (aK e p4) (aK e p5)):=uW rfl (by simp only[aD,sS,aQc];cases aK e p4<;>cases aK e p5<;>first|rfl|(simp only[];split<;>first|rfl|(split<;>simp_all))) (fun _=>rfl) (fun _=>rfl) fun _ _=>rfl
theorem ZJ{p1:_}{p2:_}:xo m run runY (⟨ix,d,(DOp.idxs p1 p2),none⟩::r) e h=kV m run runY r d e h (aQd (aK e p1) (aK e p2)):=uW rfl (by simp only[aD,sS,aQd];cases aK e p1<;>cases aK e p2<;>first|rfl|(simp only[];split<;>rfl)) (fun _=>rfl) (fun _=>rfl) fun _ _=>rfl
theorem ZK{p1:_}{p2:_}{p3:_}{p4:_}{p5:_}:xo m run runY (⟨ix,d,(DOp.mksl p1 p2 p3 p4 p5),none⟩::r) e h=kE m run runY r d e h (kI p3) (aD (DOp.mksl p1 p2 p3 p4 p5) e (aG h)):=yZ rfl (fun _=>rfl) (fun _=>rfl) fun _ _=>rfl
theorem ZL{p1:_}{p2:_}{p3:_}{p4:_}{p5:_}:xo m run runY (⟨ix,d,(DOp.slarr p1 p2 p3 p4 p5),none⟩::r) e h=kE m run runY r d e h false (aD (DOp.slarr p1 p2 p3 p4 p5) e (aG h)):=yZ rfl (fun _=>rfl) (fun _=>rfl) fun _ _=>rfl
theorem ZM{p1:_}{p2:_}{p3:_}{p4:_}:xo m run runY (⟨ix,d,(DOp.slsl p1 p2 p3 p4),none⟩::r) e h=kE m run runY r d e h false (aD (DOp.slsl p1 p2 p3 p4) e (aG h)):=yZ rfl (fun _=>rfl) (fun _=>rfl) fun _ _=>rfl
theorem ZN{p1:_}{p2:_}{p3:_}:xo m run runY (⟨ix,d,(DOp.slstr p1 p2 p3),none⟩::r) e h=kE m run runY r d e h false (aD (DOp.slstr p1 p2 p3) e (aG h)):=yZ rfl (fun _=>rfl) (fun _=>rfl) fun _ _=>rfl
theorem ZO:xo m run runY (⟨ix,d,(DOp.mkmap),none⟩::r) e h=kE m run runY r d e h true (aD (DOp.mkmap) e (aG h)):=yZ rfl (fun _=>rfl) (fun _=>rfl) fun _ _=>rfl
theorem ZP{p1:_}{p2:_}{p3:_}{p4:_}{p5:_}:xo m run runY (⟨ix,d,(DOp.lookup p1 p2 p3 p4 p5),none⟩::r) e h=kV m run runY r d e h (aAM p2 p3 (mC p1 (aG h) (aK e p5) (aK e p4))):=uW rfl (by simp only[aD,sS,aAM];cases mC p1 (aG h) (aK e p5) (aK e p4)<;>rfl) (fun _=>rfl) (fun _=>rfl) fun _ _=>rfl
theorem ZQ{p1:_}{p2:_}:xo m run runY (⟨ix,d,(DOp.ext p1 p2),none⟩::r) e h=kV m run runY r d e h (aXx (aK e p1) p2):=uW rfl (by simp only[aD,sS,aXx];cases aK e p1<;>first|rfl|(simp only[];split<;>simp_all)) (fun _=>rfl) (fun _=>rfl) fun _ _=>rfl
theorem ZR{p1:_}{p2:_}:xo m run runY (⟨ix,d,(DOp.len p1 p2),none⟩::r) e h=kV m run runY r d e h (aMw p1 (aK e p2)):=uW rfl (by simp only[aD,sS,aMw];cases p1<;>cases aK e p2<;>rfl) (fun _=>rfl) (fun _=>rfl) fun _ _=>rfl
theorem ZS{p1:_}{p2:_}{p3:_}:xo m run runY (⟨ix,d,(DOp.mm p1 p2 p3),none⟩::r) e h=kV m run runY r d e h (mmM p1 (aK e p2) (aK e p3)):=uW rfl (by simp only[aD,sS,mmM];cases aK e p2<;>cases aK e p3<;>rfl) (fun _=>rfl) (fun _=>rfl) fun _ _=>rfl
theorem ZT{p1:_}{p2:_}:xo m run runY (⟨ix,d,(DOp.mkifc p1 p2),none⟩::r) e h=kE m run runY r d e h false (aD (DOp.mkifc p1 p2) e (aG h)):=yZ rfl (fun _=>rfl) (fun _=>rfl) fun _ _=>rfl
theorem ZU{p1:_}:xo m run runY (⟨ix,d,(DOp.bytes p1),none⟩::r) e h=kE m run runY r d e h true (aD (DOp.bytes p1) e (aG h)):=yZ rfl (fun _=>rfl) (fun _=>rfl) fun _ _=>rfl
theorem ZV{a:Bool}{n:Nat}{x:AO}:xo none run runY (⟨ix,d,.load a n x,none⟩::r) e h=kV none run runY r d e h (fC a n (aG h) (aK e x)):=by
 show eU run runY _ e h=_;simp only[eU,gd,cV,aD];cases fC a n (aG h) (aK e x)<;>rfl
def aXa(ix:Nat)(v:AV)(L:List (Nat×Nat)):List (Nat×Nat):=match eQ v with
 | some b=>(ix,b)::L
 | none=>L
theorem ZW{b o:Nat}{L:List (Nat×Nat)}:aXa ix (.pt b o) L=(ix,b)::L:=rfl
theorem ZX{rows:List (List AV)}{i o:Nat}{L:List (Nat×Nat)}:aXa ix (.fp rows i o) L=L:=rfl
theorem ZY{a:Bool}{n:Nat}{x:AO}{L:List (Nat×Nat)}:xo (some L) run runY (⟨ix,d,.load a n x,none⟩::r) e h=kV (some (aXa ix (aK e x) L)) run runY r d e h (fC a n (aG h) (aK e x)):=by
 show fB run runY _ e h L=_;simp only[fB,gd,cV,aD,yU,AAe];cases fC a n (aG h) (aK e x)<;>rfl
def kH(m:Option (List (Nat×Nat)))(run:eC)(runY:eT)(r:List DOper)(d:Option Nat)(e:aI)(v:AV):Option XH→Option (aI×XH)
 | some h=>xo m run runY r (aX e d v) h
 | none=>none
theorem ZZ:kH m run runY r d e v (some h)=xo m run runY r (aX e d v) h:=rfl
theorem Ya{n:Nat}{p x:AO}{l:List Nat}:xo none run runY (⟨ix,d,.store n p x l,none⟩::r) e h=kH none run runY r d e .any (qF n h (aK e p) (aK e x)):=by
 show eU run runY _ e h=_;simp only[eU,gd,cV];cases qF n h (aK e p) (aK e x)<;>rfl
def aBw{α:Type}(b:Bool)(x:Option α):Option α:=if b then x else none
theorem Yb{α:Type}{x:Option α}:aBw true x=x:=rfl
theorem Yc{n:Nat}{p x:AO}{l:List Nat}{L:List (Nat×Nat)}:xo (some L) run runY (⟨ix,d,.store n p x l,none⟩::r) e h=aBw (L.all fun q => !l.contains q.1||eQ (aK e p) != some q.2) (kH (some L) run runY r d e .any (qF n h (aK e p) (aK e x))):=by
 show fB run runY _ e h L=_;simp only[fB,gd,cV,yU,aBw];cases qF n h (aK e p) (aK e x)<;>rfl
def kR(m:Option (List (Nat×Nat)))(run:eC)(runY:eT)(r:List DOper)(d:Option Nat)(e:aI):Option (AV×XH)→Option (aI×XH)
 | some (v,h)=>xo m run runY r (aX e d v) h
 | none=>none
theorem Ye:kR m run runY r d e (some (v,h))=xo m run runY r (aX e d v) h:=rfl
def aGf(s:Nat)(h:XH)(x y:AV):Option (AV×XH):=(aCE s h x y).map fun r=>(.int .i64 (r.1:Int),r.2)
theorem Yf{s:Nat}{x y:AO}:xo none run runY (⟨ix,d,.copy s x y,none⟩::r) e h=kR none run runY r d e (aGf s h (aK e x) (aK e y)):=by
 show eU run runY _ e h=_;simp only[eU,gd,cV,aGf];cases aCE s h (aK e x) (aK e y)<;>rfl
theorem Yg{q:Bool}{a k x:AO}:xo none run runY (⟨ix,d,.mapup q a k x,none⟩::r) e h=kH none run runY r d e .any (vE q h (aK e a) (aK e k) (aK e x)):=by
 show eU run runY _ e h=_;simp only[eU,gd,cV];cases vE q h (aK e a) (aK e k) (aK e x)<;>rfl
theorem Yh{f:AO}{xs:List AO}{l:List Nat}:xo none run runY (⟨ix,d,.callf false f xs l,none⟩::r) e h=kR none run runY r d e (fW run runY (aK e f) (xs.map (aK e)) h):=by
 show eU run runY _ e h=_;simp only[eU,gd,cV];cases fW run runY (aK e f) (xs.map (aK e)) h<;>rfl
def kRL(L:List (Nat×Nat))(l:List Nat)(run:eC)(runY:eT)(r:List DOper)(d:Option Nat)(e:aI)(h:XH)(ps:List Nat):Option (AV×XH)→Option (aI×XH)
 | some (v,h')=>aBw (L.all fun q=>(hat h' q.2).isSome&&(!l.contains q.1||(!ps.contains q.2||aHI (hat h q.2) (hat h' q.2)))) (xo (some L) run runY r (aX e d v) h')
 | none=>none
theorem Yi{f:AO}{xs:List AO}{l:List Nat}{L:List (Nat×Nat)}:xo (some L) run runY (⟨ix,d,.callf false f xs l,none⟩::r) e h=kRL L l run runY r d e h (iK (aK e f) (xs.map (aK e)) h) (fW run runY (aK e f) (xs.map (aK e)) h):=by
 show fB run runY _ e h L=_;simp only[fB,gd,cV,yU,AAe];cases fW run runY (aK e f) (xs.map (aK e)) h<;>rfl
theorem Yj{L:List (Nat×Nat)}{l:List Nat}{h':XH}{ps:List Nat}:kRL L l run runY r d e h ps (some (v,h'))=aBw (L.all fun q=>(hat h' q.2).isSome&&(!l.contains q.1||(!ps.contains q.2||aHI (hat h q.2) (hat h' q.2)))) (xo (some L) run runY r (aX e d v) h'):=rfl
theorem Yk{f:AO}{xs:List AO}{l:List Nat}:xo m run runY (⟨ix,d,.callf true f xs l,none⟩::r) e h=kV m run runY r d e h (pP run (aK e f) (xs.map (aK e)) h):=by
 cases m with
 | none =>
   show eU run runY _ e h=_;simp only[eU,gd,cV];cases pP run (aK e f) (xs.map (aK e)) h<;>rfl
 | some L =>
   show fB run runY _ e h L=_;simp only[fB,gd,cV,yU,AAe];cases pP run (aK e f) (xs.map (aK e)) h<;>rfl
theorem Yl{s b:Nat}{x y:AO}:xo none run runY (⟨ix,d,.app s b x y,none⟩::r) e h=kE none run runY r d e h (kN h (aK e x)&&kN h (aK e y)) (sN s b (aG h) (aK e x) (aK e y)):=by
 rw[←aQa];rfl
def aPz(acc:List Nat)(b:Nat):Option Nat:=fQ b acc
def aQT(acc:List Nat)(run:eC)(g:Nat)(all:List AV)(h:XH):Option (AV×XH):=(run g (lO (fun b=>fQ b acc) all) (iC acc h)).map (aBr acc h)
def aQU(run:eC)(g:Nat)(all:List AV)(h:XH):Bool→Option (AV×XH)
 | true=>run g all h
 | false=>aQT (gX all h) run g all h
theorem Ym{g:Nat}{first cap as:List AV}:fW run runY (.fn (.func g) first cap) as h=aQU run g (first++as++cap) h (kJ g):=by
 unfold fW;dsimp only;cases kJ g<;>rfl
theorem Pt{g:Nat}{all:List AV}:aQU run g all h true=run g all h:=rfl
theorem Pu{g:Nat}{all:List AV}:aQU run g all h false=aQT (gX all h) run g all h:=rfl
theorem Pv{g:Nat}:kJ g=aMt g [59,61,62,87,88,89,90,91,92,93,94,95,96,97,98,128,129,130,131,132,133,134,135,136]:=rfl
theorem Pw{g:Nat}:aMt g []=false:=rfl
theorem Px{g k:Nat}{l:List Nat}:aMt g (k::l)=if g=k then true else aMt g l:=rfl
def kM(acc:List Nat)(h:XH)(r:Option (AV×XH)):Option (AV×XH):=r.map (aBr acc h)
theorem Yn{acc:List Nat}{g:Nat}{all:List AV}:aQT acc run g all h=kM acc h (run g (lO (aPz acc) all) (iC acc h)):=rfl
end
theorem Yo{x y:AV}:aKS (.bool true) x y=some x:=rfl
theorem Yp{x y:AV}:aKS (.bool false) x y=some y:=rfl
theorem Yq{b:Bool}:aWR (.bool b)=some (.bool !b):=rfl
theorem Yr{k k':IntKind}{n:Int}:aQL k (.int k' n)=some (.int k (k.wrap n)):=rfl
theorem Ys{off b o:Nat}:aTZ off (.pt b o)=some (.pt b (o+off)):=rfl
theorem Yt{off i o:Nat}{rows:List (List AV)}:aTZ off (.fp rows i o)=some (.fp rows i (o+off)):=rfl
theorem Yu{rows:List (List AV)}:aMw false (.fs rows)=some (.int .i64 (rows.length:Int)):=rfl
theorem Yv{b o s n:Nat}:aMw false (.sl b o s n)=some (.int .i64 (n:Int)):=rfl
theorem Yw:aMw false .nilsl=some (.int .i64 0):=rfl
theorem Yx{s:ByteArray}:aMw true (.str s)=some (.int .i64 (s.size:Int)):=rfl
theorem Yy{b o s s' len:Nat}{k:IntKind}{n:Int}:aQf s (.sl b o s' len) (.int k n)=if s'=s∧0≤n∧n<(len:Int) then some (.pt b (o+n.toNat*s)) else none:=rfl
theorem Yz{s:Nat}{rows:List (List AV)}{k:IntKind}{n:Int}:aQf s (.fs rows) (.int k n)=if 0≤n∧n<(rows.length:Int) then aXg s rows n.toNat rows[n.toNat]? else none:=by
 simp only[aQf,aXg];by_cases h:0≤n∧n<(rows.length:Int)
 ·have h2:n.toNat<rows.length:=AT
  rw[B6 h2,C9,B6 h2,G3];simp only[h,AAi];simp only[and_self,AAe]
 ·rw[if_neg h,if_neg (fun hc=>h ⟨hc.1,hc.2.1⟩)]
theorem Y4{s j:Nat}{rows:List (List AV)}{r:List AV}:aXg s rows j (some r)=if r.length=s then some (.fp rows j 0) else none:=rfl
theorem Y5{vs:List AV}{i:Nat}:aXx (.tup vs) i=vs[i]?:=rfl
theorem Y6{k:IntKind}{a b:Int}:gO .add k a k b=some (.int k (k.wrap (a+b))):=by simp[gO]
theorem Y7{k:IntKind}{a b:Int}:gO .sub k a k b=some (.int k (k.wrap (a-b))):=by simp[gO]
theorem Y8{k:IntKind}{a b:Int}:gO .mul k a k b=some (.int k (k.wrap (a*b))):=by simp[gO]
theorem Y9{k:IntKind}{a b:Int}:gO .rem k a k b=if b=0 then none else some (.int k (a.tmod b)):=by by_cases h:b=0<;>simp[gO,h]
theorem YA{k:IntKind}{a b:Int}:gO .and k a k b=some (.int k (nK .and k a b)):=by simp[gO]
theorem YB{k:IntKind}{a b:Int}:gO .or k a k b=some (.int k (nK .or k a b)):=by simp[gO]
theorem YC{k k':IntKind}{a b:Int}:gO .shl k a k' b=if b<0 then none else some (.int k (k.wrap (a*2^min b.toNat k.bits))):=rfl
theorem YD{k k':IntKind}{a b:Int}:gO .shr k a k' b=if b<0 then none else some (.int k (a.fdiv (2^min b.toNat k.bits))):=rfl
theorem YE{k:IntKind}{a b:Int}:gO .eql k a k b=some (.bool (decide (a=b))):=by simp[gO];rfl
theorem YF{k:IntKind}{a b:Int}:gO .neq k a k b=some (.bool !(decide (a=b))):=by simp[gO];rfl
theorem YG{k:IntKind}{a b:Int}:gO .lss k a k b=some (.bool (decide (a<b))):=by simp[gO]
theorem YH{k:IntKind}{a b:Int}:gO .leq k a k b=some (.bool (decide (a≤b))):=by simp[gO]
theorem YJ{k:IntKind}{a b:Int}:gO .gtr k a k b=some (.bool (decide (b<a))):=by simp[gO]
theorem YK{k:IntKind}{a b:Int}:gO .geq k a k b=some (.bool (decide (b≤a))):=by simp[gO]
theorem YL{n:Nat}:(0≤(n:Int))=True:=by simp
theorem YM{n:Nat}:(n:Int).toNat=n:=by simp
theorem YN:IntKind.i64.wrap 0=0:=rfl
theorem YO:IntKind.i64.wrap 1=1:=rfl
theorem YP:IntKind.i64.wrap 6=6:=rfl
theorem YQ:(0:Int).toNat=0:=rfl
theorem YR:((0:Nat):Int)=0:=rfl
theorem YT:(1:Int).toNat=1:=rfl
theorem YU:((1:Nat):Int)=1:=rfl
theorem YV:(2:Int).toNat=2:=rfl
theorem YX:((2:Nat):Int)=2:=rfl
theorem YY:(3:Int).toNat=3:=rfl
theorem YZ:((3:Nat):Int)=3:=rfl
theorem Xa:(4:Int).toNat=4:=rfl
theorem Xb:((4:Nat):Int)=4:=rfl
theorem Xc:(5:Int).toNat=5:=rfl
theorem Xd:((5:Nat):Int)=5:=rfl
theorem Xe:(6:Int).toNat=6:=rfl
theorem Xf:((6:Nat):Int)=6:=rfl
theorem Xg:((7:Nat):Int)=7:=rfl
theorem Xh:((8:Nat):Int)=8:=rfl
theorem Xi{len s b o:Nat}{k:IntKind}{n:Int}:aQe len s (.pt b o) (.int k n)=if 0≤n∧n<(len:Int) then some (.pt b (o+n.toNat*s)) else none:=rfl
theorem Xj{k k':IntKind}{a b:Int}:mmM false (.int k a) (.int k' b)=some (.int k (if b<a then b else a)):=rfl
theorem Xk{neg:Bool}{ks:List Nat}{cs ds:List AV}:aLt neg ks (.agg cs) (.agg ds)=aMJ neg (dP ks cs ds):=by cases h:dP ks cs ds<;>simp[aLt,aMJ,h]
theorem Xl{b:Bool}:aMJ true (some b)=some (.bool !b):=rfl
theorem Xm{b:Bool}:aMJ false (some b)=some (.bool b):=rfl
theorem Xn{ok:Bool}{z:AV}{r:Option AV}:aAM ok z (some r)=some (wF ok z r):=rfl
theorem Xo{z v:AV}:wF true z (some v) = .tup [v,.bool true]:=rfl
theorem Xp{z v:AV}:wF false z (some v)=v:=rfl
theorem Xq{z:AV}:wF false z none=z:=rfl
theorem Xr{q:Bool}{b:Nat}{H:Hp}{k:AV}:mC q H k (.mp b)=lkM q k (H b):=by simp only[mC,lkM]<;>rfl
theorem Xs{q w:Bool}{k:AV}{es:List (AV×AV)}:lkM q k (some (.map w es))=aQ q k es:=rfl
theorem Xt{cs:List AV}:aXV (some cs)=some (.agg cs):=rfl
theorem Xu{agg:Bool}{len s:Nat}{cs:List AV}{k:IntKind}{n:Int}:aQc agg len s (.agg cs) (.int k n)=if 0≤n∧n<(len:Int) then iJ agg s cs (n.toNat*s) else none:=rfl
theorem Xv{s:ByteArray}{k:IntKind}{n:Int}:aQd (.str s) (.int k n)=if 0≤n∧n<(s.size:Int) then some (.int .u8 ((s.data.toList.getD n.toNat 0).toNat:Int)) else none:=rfl
theorem Xw{b o:Nat}:aDM (.pt b o)=some (.pt b o):=rfl
theorem Pb{b:Nat}:aDM (.bp b)=some (.pt b 0):=rfl
theorem Pc{t:TypeId}{v:AV}:aDM (.ifc t v)=some (.ifc t v):=rfl
theorem Xx{k:IntKind}{n:Int}:jS (.int k n)=([]:List Nat):=rfl
theorem Xy{t:Bool}:jS (.bool t)=([]:List Nat):=rfl
theorem Xz{t:ByteArray}:jS (.str t)=([]:List Nat):=rfl
theorem XI{cs:List AV}:jS (.agg cs)=(lE cs:List Nat):=rfl
theorem XJ{cs:List AV}:jS (.tup cs)=(lE cs:List Nat):=rfl
theorem XL{rows:List (List AV)}:jS (.fs rows)=([]:List Nat):=rfl
theorem XM{b o s n:Nat}:jS (.sl b o s n)=([b]:List Nat):=rfl
theorem XN{b o:Nat}:jS (.pt b o)=([b]:List Nat):=rfl
theorem XO{b:Nat}:jS (.mp b)=([b]:List Nat):=rfl
theorem XW  : jS .nilsl=([]:List Nat):=rfl
theorem XX  : jS .nilpt=([]:List Nat):=rfl
theorem XY{g:Nat}{fs us:List AV}:jS (.fn (.func g) fs us)=(lE fs++lE us:List Nat):=rfl
theorem XZ{l:Nat}{fs us:List AV}:jS (.fn (.yield l) fs us)=([l]++(lE fs++lE us):List Nat):=rfl
theorem Wa{ty:TypeId}{v:AV}:jS (.ifc ty v)=(jS v:List Nat):=rfl
theorem Wb  : jS .nilifc=([]:List Nat):=rfl
theorem Wc  : jS .any=([]:List Nat):=rfl
theorem We{k:IntKind}{n:Int}:iU (.int k n)=(true:Bool):=rfl
theorem Wf{t:Bool}:iU (.bool t)=(true:Bool):=rfl
theorem Wg{t:ByteArray}:iU (.str t)=(true:Bool):=rfl
theorem Wh{cs:List AV}:iU (.agg cs)=(kI cs:Bool):=rfl
theorem Wi{rows:List (List AV)}:iU (.fs rows)=(true:Bool):=rfl
theorem Wj{b o s n:Nat}:iU (.sl b o s n)=(false:Bool):=rfl
theorem Wk{b o:Nat}:iU (.pt b o)=(false:Bool):=rfl
theorem Wl{b:Nat}:iU (.mp b)=(false:Bool):=rfl
theorem Wm  : iU .nilsl=(true:Bool):=rfl
theorem Wn  : iU .nilpt=(true:Bool):=rfl
theorem Wo{g:Nat}{fs us:List AV}:iU (.fn (.func g) fs us)=((kI fs&&kI us):Bool):=rfl
theorem Wp{ty:TypeId}{v:AV}:iU (.ifc ty v)=(iU v:Bool):=rfl
theorem Wq  : iU .nilifc=(true:Bool):=rfl
theorem Wr{s:Nat→Option Nat}{k:IntKind}{n:Int}:rnA s (.int k n)=((.int k n):AV):=rfl
theorem Wt{s:Nat→Option Nat}{t:Bool}:rnA s (.bool t)=((.bool t):AV):=rfl
theorem Wu{s:Nat→Option Nat}{t:ByteArray}:rnA s (.str t)=((.str t):AV):=rfl
theorem Wv{s:Nat→Option Nat}{cs:List AV}:rnA s (.agg cs)=(.agg (lO s cs):AV):=rfl
theorem Ww{s:Nat→Option Nat}{cs:List AV}:rnA s (.tup cs)=(.tup (lO s cs):AV):=rfl
theorem Wx{s:Nat→Option Nat}{rows:List (List AV)}:rnA s (.fs rows)=((.fs rows):AV):=rfl
theorem Wy{s:Nat→Option Nat}{b o s2 n:Nat}:rnA s (.sl b o s2 n)=((match s b with|some c=>.sl c o s2 n|none=>.any):AV):=by simp only[rnA]<;>rfl
theorem Wz{s:Nat→Option Nat}{b o:Nat}:rnA s (.pt b o)=((match s b with|some c=>.pt c o|none=>.any):AV):=by simp only[rnA]<;>rfl
theorem W3{s:Nat→Option Nat}{b:Nat}:rnA s (.mp b)=((match s b with|some c=>.mp c|none=>.any):AV):=by simp only[rnA]<;>rfl
theorem W4{s:Nat→Option Nat}  : rnA s .nilsl=(.nilsl:AV):=rfl
theorem W5{s:Nat→Option Nat}  : rnA s .nilpt=(.nilpt:AV):=rfl
theorem W6{s:Nat→Option Nat}{g:Nat}{fs us:List AV}:rnA s (.fn (.func g) fs us)=(.fn (.func g) (lO s fs) (lO s us):AV):=rfl
theorem W7{s:Nat→Option Nat}{l:Nat}{fs us:List AV}:rnA s (.fn (.yield l) fs us)=((match s l with|some c=>.fn (.yield c) (lO s fs) (lO s us)|none=>.any):AV):=by simp only[rnA]<;>rfl
theorem W8{s:Nat→Option Nat}{ty:TypeId}{v:AV}:rnA s (.ifc ty v)=(.ifc ty (rnA s v):AV):=rfl
theorem W9{s:Nat→Option Nat}  : rnA s .nilifc=(.nilifc:AV):=rfl
theorem WA{s:Nat→Option Nat}  : rnA s .any=(.any:AV):=rfl
theorem WB{k:IntKind}{n:Int}:slN (.int k n)=([]:List Nat):=rfl
theorem WC{t:Bool}:slN (.bool t)=([]:List Nat):=rfl
theorem WE{t:ByteArray}:slN (.str t)=([]:List Nat):=rfl
theorem WF{cs:List AV}:slN (.agg cs)=(slL cs:List Nat):=rfl
theorem WG{cs:List AV}:slN (.tup cs)=(slL cs:List Nat):=rfl
theorem WH{rows:List (List AV)}:slN (.fs rows)=([]:List Nat):=rfl
theorem WI{b o s n:Nat}:slN (.sl b o s n)=([b]:List Nat):=rfl
theorem WJ{b o:Nat}:slN (.pt b o)=([]:List Nat):=rfl
theorem WK  : slN .nilsl=([]:List Nat):=rfl
theorem WL  : slN .nilpt=([]:List Nat):=rfl
theorem WM{g:Nat}{fs us:List AV}:slN (.fn (.func g) fs us)=([]:List Nat):=rfl
theorem WN{ty:TypeId}{v:AV}:slN (.ifc ty v)=(slN v:List Nat):=rfl
theorem WO  : slN .nilifc=([]:List Nat):=rfl
theorem WP{B:Nat}{C:List AV}{k:IntKind}{n:Int}:wJ B C (.int k n)=((.int k n):AV):=rfl
theorem WQ{B:Nat}{C:List AV}{t:Bool}:wJ B C (.bool t)=((.bool t):AV):=rfl
theorem WR{B:Nat}{C:List AV}{t:ByteArray}:wJ B C (.str t)=((.str t):AV):=rfl
theorem WS{B:Nat}{C:List AV}{cs:List AV}:wJ B C (.agg cs)=(.agg (fzL B C cs):AV):=rfl
theorem WT{B:Nat}{C:List AV}{cs:List AV}:wJ B C (.tup cs)=(.tup (fzL B C cs):AV):=rfl
theorem WU{B:Nat}{C:List AV}{rows:List (List AV)}:wJ B C (.fs rows)=((.fs rows):AV):=rfl
theorem WV{B:Nat}{C:List AV}{b o s n:Nat}:wJ B C (.sl b o s n)=((if b=B∧o+n*s≤C.length then .fs (bG C o s n) else .sl b o s n):AV):=rfl
theorem WW{B:Nat}{C:List AV}{b o:Nat}:wJ B C (.pt b o)=((.pt b o):AV):=rfl
theorem WX{B:Nat}{C:List AV}{l:Nat}{fs us:List AV}:wJ B C (.fn (.yield l) fs us)=((.fn (.yield l) fs us):AV):=rfl
theorem WY{k:IntKind}{n:Int}:uR (.int k n)=((.int k n):AV):=rfl
theorem WZ{t:Bool}:uR (.bool t)=((.bool t):AV):=rfl
theorem Va{t:ByteArray}:uR (.str t)=((.str t):AV):=rfl
theorem Vb{cs:List AV}:uR (.agg cs)=(.agg (kQ cs):AV):=rfl
theorem Vc{cs:List AV}:uR (.tup cs)=(.tup (kQ cs):AV):=rfl
theorem Vd{rows:List (List AV)}:uR (.fs rows)=((.fs rows):AV):=rfl
theorem Ve{b o s n:Nat}:uR (.sl b o s n)=((.sl b o s n):AV):=rfl
theorem Vf{b o:Nat}:uR (.pt b o)=((.pt b o):AV):=rfl
theorem Vg  : uR .nilsl=(.fs []:AV):=rfl
theorem Vh  : uR .nilpt=(.nilpt:AV):=rfl
theorem Vi{g:Nat}{fs us:List AV}:uR (.fn (.func g) fs us)=((.fn (.func g) fs us):AV):=rfl
theorem Vj{l:Nat}{fs us:List AV}:uR (.fn (.yield l) fs us)=((.fn (.yield l) fs us):AV):=rfl
theorem Vk{ty:TypeId}{v:AV}:uR (.ifc ty v)=((.ifc ty v):AV):=rfl
theorem Vl  : uR .nilifc=(.nilifc:AV):=rfl
theorem Vm{k:IntKind}{n:Int}:cellsOf (.int k n)=(some [(.int k n)]:Option (List AV)):=rfl
theorem Vn{t:Bool}:cellsOf (.bool t)=(some [(.bool t)]:Option (List AV)):=rfl
theorem Vo{t:ByteArray}:cellsOf (.str t)=(some [(.str t)]:Option (List AV)):=rfl
theorem Vp{cs:List AV}:cellsOf (.agg cs)=(some cs:Option (List AV)):=rfl
theorem Vq{rows:List (List AV)}:cellsOf (.fs rows)=(some [(.fs rows)]:Option (List AV)):=rfl
theorem Vr{b o s n:Nat}:cellsOf (.sl b o s n)=(some [(.sl b o s n)]:Option (List AV)):=rfl
theorem Vs{b o:Nat}:cellsOf (.pt b o)=(some [(.pt b o)]:Option (List AV)):=rfl
theorem Vt{b:Nat}:cellsOf (.mp b)=(some [(.mp b)]:Option (List AV)):=rfl
theorem Vu  : cellsOf .nilsl=(some [.nilsl]:Option (List AV)):=rfl
theorem Vv{g:Nat}{fs us:List AV}:cellsOf (.fn (.func g) fs us)=(some [(.fn (.func g) fs us)]:Option (List AV)):=rfl
theorem Vw{ty:TypeId}{v:AV}:cellsOf (.ifc ty v)=(some [(.ifc ty v)]:Option (List AV)):=rfl
theorem Vx{b o s n:Nat}:eQ (.sl b o s n)=(some b:Option Nat):=rfl
theorem Vy{b o:Nat}:eQ (.pt b o)=(some b:Option Nat):=rfl
theorem Vz  : eQ .nilsl=(none:Option Nat):=rfl
def aLf(k:Nat)(acc:List Nat)(h:XH)(r:List Nat):XH:=r.map fun b=>rnO (keepS k acc) (hat h b)
def aTH(acc:List Nat)(h:XH)(r:List Nat):XH:=r.map fun b=>rnO (fun b=>fQ b acc) (hat h b)
def fzQ(fz:List (Nat×Bool))(e:aI)(h:XH):List Nat:=fz.flatMap (aQq e h)
def aXp(h:XH):Option XB→List Nat
 | some (.blk false (.cells _ cs))=>kO h 2 (slL cs)
 | _=>[]
def fzD(h:XH)(v:AV):List Nat:=match v with
 | .pt b _=>match hat h b with
  | some (.blk false (.cells _ cs))=>kO h 2 (slL cs)
  | _=>[]
 | _=>[]
def kF(own:Bool)(k:Nat)(h:XH)(r:Option AV):Option (AV×XH):=r.map fun v=>nV own k v h
def aQA(k:Nat)(h:XH)(v:AV)(acc:List Nat):AV×XH:=(rnA (keepS k acc) v,nI k acc h)
def bBw(k:Nat)(p:aI×XH):AV×XH:=aQA k p.2 (uR (p.1 0)) (dA k [uR (p.1 0)] p.2)
def aPi:Option (List AV)→Option AV
 | some [v]=>some v
 | some vs=>some (.tup vs)
 | none=>none
def aPj:Option AV→Option (List AV)→Option (List AV)
 | some v,some vs=>some (v::vs)
 | _,_=>none
def aLy(v:AV)(a b:aI→XH→Option (DX×aI×XH))(e:aI)(h:XH):Option (DX×aI×XH):=match v with
 | .bool true=>a e h
 | .bool false=>b e h
 | _=>none
def ldM(agg:Bool)(n o:Nat):Option ABlk→Option AV
 | some (.cells _ cs)=>iJ agg n cs o
 | _=>none
def ldR(agg:Bool)(n o:Nat):Option (List AV)→Option AV
 | some r=>iJ agg n r o
 | none=>none
def stM(n b o:Nat)(h:XH):Option XB→Option (List AV)→Option XH
 | some (.blk g (.cells true cs)),some vs=>if vs.length=n∧o+n≤cs.length then some (h.set b (some (.blk (g&&kI vs) (.cells true (bJ cs o vs))))) else none
 | _,_=>none
def muM(q:Bool)(b:Nat)(h:XH)(k x:AV):Option XB→Option XH
 | some (.blk g (.map true es))=>(jY q k x es).map fun es'=>h.set b (some (.blk (g&&(iU k&&iU x)) (.map true es')))
 | _=>none
def flM:Option XB→Bool
 | some (.blk g _)=>g
 | _=>false
theorem V0{x:Option XB}{h:XH}{b:Nat}:hat (x::h) b=if b=0 then x else hat h (b-1):=by cases b<;>simp[hat]
def hpM:Option XB→Option ABlk
 | some (.blk _ x)=>some x
 | _=>none
theorem V1{h:XH}{b:Nat}:aG h b=hpM (hat h b):=rfl
theorem V2{g:Bool}{x:ABlk}:hpM (some (.blk g x))=some x:=rfl
theorem V3{α:Type}{x y:α}{h:List α}{b:Nat}:(x::h).set b y=if b=0 then y::h else x::h.set (b-1) y:=by cases b<;>simp
theorem V4{α:Type}{x:α}{l:List α}{n:Nat}:(x::l).take n=if n=0 then [] else x::l.take (n-1):=by cases n<;>simp
theorem V5{α:Type}{n:Nat}:([]:List α).take n=[]:=by simp
theorem V6{α:Type}{x:α}{l:List α}{n:Nat}:(x::l).drop n=if n=0 then x::l else l.drop (n-1):=by cases n<;>simp
theorem V7{α:Type}{n:Nat}:([]:List α).drop n=[]:=by simp
theorem V8{α:Type}{x d:α}{l:List α}{n:Nat}:(x::l).getD n d=if n=0 then x else l.getD (n-1) d:=by cases n<;>simp
theorem V9{α:Type}{x:α}{l:List α}{n:Nat}:(x::l)[n]?=if n=0 then some x else l[n-1]?:=by cases n<;>simp
theorem VA{α:Type}{a:α}:(a∈([]:List α))=False:=by simp
theorem VB{α:Type}{a b:α}{l:List α}:(a∈b::l)=(a=b∨a∈l):=by simp
theorem VC{acc:List Nat}{b:Nat}:aPz acc b=fQ b acc:=rfl
theorem VD{b:Nat}:fQ b []=none:=rfl
theorem VE{b c:Nat}{r:List Nat}:fQ b (c::r)=if b=c then some 0 else (fQ b r).map (· + 1):=rfl
theorem VF{k:Nat}{acc:List Nat}{b:Nat}:keepS k acc b=if b<k then some b else (fQ b acc).map (· + k):=rfl
theorem VG{acc:List Nat}{n i:Nat}:gT acc n i=if i<acc.length then acc[i]? else some (n+(i-acc.length)):=rfl
theorem VH{h:XH}{k n:Nat}{acc:List Nat}:cL h k n [] acc=acc:=by cases n<;>rfl
def aJz(h:XH)(k n:Nat)(r:List Nat)(acc:List Nat)(b:Nat):Option XB→List Nat
 | none=>cL h k n r acc
 | some x=>cL h k n (nmB x++r) (acc++[b])
theorem VI{h:XH}{k n:Nat}{r acc:List Nat}{b:Nat}:aJz h k n r acc b none=cL h k n r acc:=rfl
theorem VJ{h:XH}{k n:Nat}{r acc:List Nat}{b:Nat}{x:XB}:aJz h k n r acc b (some x)=cL h k n (nmB x++r) (acc++[b]):=rfl
theorem VK{h:XH}{k n:Nat}{b:Nat}{r acc:List Nat}:cL h k n (b::r) acc=if n=0 then acc else if b<k∨b∈acc then cL h k (n-1) r acc else aJz h k (n-1) r acc b (hat h b):=by
 cases n with
 | zero=>rfl
 | succ n=>simp only[cL,Nat.add_one_ne_zero,AAd,aD1];cases hat h b<;>rfl
theorem VL{xs:List AV}{h:XH}:gX xs h=cL h 0 4096 (lE xs) []:=rfl
theorem VM{k:Nat}{vs:List AV}{h:XH}:dA k vs h=cL h k 4096 (lE vs++(cY k h).flatMap nmO) []:=rfl
theorem VN{n:Nat}:cY n []=List.replicate n none:=by induction n with
 | zero=>rfl
 | succ n ih=>simp[cY,ih,O4]
theorem VO{x:Option XB}{h:XH}{n:Nat}:cY n (x::h)=if n=0 then [] else x::cY (n-1) h:=by cases n<;>rfl
theorem VP{k:Nat}{acc:List Nat}{h:XH}:nI k acc h=(cY k h).map (rnO (keepS k acc))++aLf k acc h acc:=rfl
theorem VQ{k:Nat}{acc:List Nat}{h:XH}:aLf k acc h []=[]:=rfl
theorem VR{k:Nat}{acc:List Nat}{h:XH}{b:Nat}{r:List Nat}:aLf k acc h (b::r)=rnO (keepS k acc) (hat h b)::aLf k acc h r:=rfl
theorem VS{acc:List Nat}{h:XH}:iC acc h=aTH acc h acc:=rfl
theorem VT{acc:List Nat}{h:XH}:aTH acc h []=[]:=rfl
theorem VU{acc:List Nat}{h:XH}{b:Nat}{r:List Nat}:aTH acc h (b::r)=rnO (aPz acc) (hat h b)::aTH acc h r:=rfl
theorem VV{s:Nat→Option Nat}:rnO s none=none:=rfl
theorem VW{s:Nat→Option Nat}{x:XB}:rnO s (some x)=some (rnB s x):=rfl
theorem VX{s:Nat→Option Nat}{x:ABlk}:rnB s (.blk true x) = .blk true x:=by cases x<;>rfl
theorem VY{s:Nat→Option Nat}{w:Bool}{cs:List AV}:rnB s (.blk false (.cells w cs)) = .blk false (.cells w (lO s cs)):=rfl
theorem Pz{s:Nat→Option Nat}{st:CSt}{p:Hp→Nat→Prop}:rnB s (.gh st p) = .gh st p:=rfl
theorem VZ{s:Nat→Option Nat}{K site:Nat}{vs:List AV}{st:LSt}:rnB s (.loop K site vs st) = .loop K site (lO s vs) st:=rfl
theorem Ua:nmO none=[]:=rfl
theorem Ub{x:XB}:nmO (some x)=nmB x:=rfl
theorem Uc{x:ABlk}:nmB (.blk true x)=[]:=by cases x<;>rfl
theorem Ud{w:Bool}{cs:List AV}:nmB (.blk false (.cells w cs))=lE cs:=rfl
theorem P0{st:CSt}{p:Hp→Nat→Prop}:nmB (.gh st p)=[]:=rfl
theorem Ue{K site:Nat}{vs:List AV}{st:LSt}:nmB (.loop K site vs st)=lE vs:=rfl
theorem Uf{acc:List Nat}{h hl:XH}{v:AV}:kM acc h (some (v,hl))=some (rnA (gT acc h.length) v,jB acc h hl):=rfl
theorem Ug{acc:List Nat}{h hl:XH}:jB acc h hl=aAj h acc ((cY acc.length hl).map (rnO (gT acc h.length)))++(hl.drop acc.length).map (rnO (gT acc h.length)):=rfl
theorem Uh{h:XH}{xs:XH}:aAj h [] xs=h:=by cases xs<;>rfl
theorem Ui{h:XH}{b:Nat}{bs:List Nat}{x:Option XB}{xs:XH}:aAj h (b::bs) (x::xs)=aAj (h.set b x) bs xs:=rfl
theorem Uj{a:Nat}:List.elem a []=false:=rfl
theorem Uk{a b:Nat}{l:List Nat}:List.elem a (b::l)=if a=b then true else List.elem a l:=by
 by_cases h:a=b;·simp only[List.elem,h,AAe,beq_self_eq_true]
 ·simp only[List.elem,show (a==b)=false by simpa using h,if_neg h]
theorem Ul{g:Nat}{first cap as:List AV}{h:XH}:iK (.fn (.func g) first cap) as h=xO (kJ g) (first++as++cap) h:=rfl
theorem Py{all:List AV}{h:XH}:xO false all h=gX all h:=rfl
theorem Um{α:Type}{x:α}:(some x).isSome=true:=rfl
theorem Un{b:Bool}:(b==true)=b:=by cases b<;>rfl
def fzE(b:Nat)(cs:List AV)(e:aI):aI:=fun j=>wJ b cs (e j)
theorem Uo{b:Nat}{cs:List AV}{e:aI}{j:Nat}:fzE b cs e j=wJ b cs (e j):=rfl
def aTT(b:Nat)(e:aI)(h:XH):Option XB→aI×XH
 | some (.blk true (.cells _ cs))=>(fzE b cs e,(h.map (fzO b cs)).set b none)
 | _=>(e,h)
theorem Ur{b:Nat}{e:aI}{h:XH}{w:Bool}{cs:List AV}:aTT b e h (some (.blk true (.cells w cs)))=(fzE b cs e,(h.map (fzO b cs)).set b none):=rfl
theorem aXr{b:Nat}{e:aI}{h:XH}:fz1 b e h=aTT b e h (hat h b):=by
 unfold fz1 aTT;cases hat h b with
 | none=>rfl
 | some x=>cases x with
   | loop=>rfl
   | gh=>rfl
   | blk g x=>cases g<;>cases x<;>rfl
def fzP(r:List Nat)(p:aI×XH):aI×XH:=aBz r p.1 p.2
theorem Us{r:List Nat}{e:aI}{h:XH}:fzP r (e,h)=aBz r e h:=rfl
theorem Ut{e:aI}{h:XH}:aBz [] e h=(e,h):=rfl
theorem Uu{b:Nat}{r:List Nat}{e:aI}{h:XH}:aBz (b::r) e h=fzP r (aTT b e h (hat h b)):=by rw[←aXr];rfl
def nzP(fz:List (Nat×Bool))(p:aI×XH):aI×XH:=(nzE fz p.1,p.2)
theorem QS{fz:List (Nat×Bool)}{e:aI}{h:XH}:nzP fz (e,h)=(nzE fz e,h):=rfl
theorem QU{e:aI}:nzE [] e=e:=rfl
theorem QV{k:Nat}{r:List (Nat×Bool)}{e:aI}:nzE ((k,true)::r) e=nzE r e:=rfl
theorem QW{k j:Nat}{r:List (Nat×Bool)}{e:aI}:nzE ((k,false)::r) e j=if j=k then uR (nzE r e j) else nzE r e j:=rfl
def fzY(fz:List (Nat×Bool))(e:aI)(h:XH):aI×XH:=nzP fz (aBz (fzQ fz e h) e h)
theorem Uv{fz:List (Nat×Bool)}{e:aI}{h:XH}:fzX fz e h=fzY fz e (yM fz e h):=rfl
theorem QX{fz:List (Nat×Bool)}{e:aI}{h:XH}:fzY fz e h=nzP fz (aBz (fzQ fz e h) e h):=rfl
theorem QY{e:aI}{h:XH}:yM [] e h=h:=rfl
theorem QZ{k:Nat}{b:Bool}{r:List (Nat×Bool)}{e:aI}{h:XH}:yM ((k,b)::r) e h=if 1000000≤k then aKA (e (k-1000000)) (yM r e h) else yM r e h:=rfl
theorem Uw{e:aI}{h:XH}:fzQ [] e h=[]:=rfl
theorem Ux{j:Nat}{r:List (Nat×Bool)}{e:aI}{h:XH}:fzQ ((j,false)::r) e h=kO h 2 (slN (e j))++fzQ r e h:=rfl
theorem Uy{j:Nat}{r:List (Nat×Bool)}{e:aI}{h:XH}:fzQ ((j,true)::r) e h=fzD h (e j)++fzQ r e h:=by
 simp only[fzQ,aB4,aQq,fzD]<;>rfl
theorem Uz{b o:Nat}{h:XH}:fzD h (.pt b o)=aXp h (hat h b):=rfl
theorem U0{h:XH}{w:Bool}{cs:List AV}:aXp h (some (.blk false (.cells w cs)))=kO h 2 (slL cs):=rfl
theorem U6{h:XH}{x:ABlk}:aXp h (some (.blk true x))=[]:=by cases x<;>rfl
def dpM(h:XH)(n b:Nat)(x:Option XB):List Nat:=aVD (kO h n) b x
theorem Qx{h:XH}{n:Nat}:kO h n []=[]:=by cases n<;>rfl
theorem Qy{h:XH}{b:Nat}{r:List Nat}:kO h 1 (b::r)=dpM h 0 b (hat h b)++kO h 1 r:=by simp only[kO,aB4,dpM]
theorem Qz{h:XH}{b:Nat}{r:List Nat}:kO h 2 (b::r)=dpM h 1 b (hat h b)++kO h 2 r:=by simp only[kO,aB4,dpM]
theorem Q0{h:XH}{n b:Nat}{w:Bool}{cs:List AV}:dpM h n b (some (.blk false (.cells w cs)))=kO h n (slL cs)++[b]:=rfl
theorem QA{h:XH}{n b:Nat}{x:ABlk}:dpM h n b (some (.blk true x))=[b]:=by cases x<;>rfl
theorem U7{b:Nat}{cs:List AV}:fzO b cs none=none:=rfl
theorem U8{b:Nat}{cs:List AV}{x:XB}:fzO b cs (some x)=some (fzB b cs x):=rfl
theorem U9{b:Nat}{cs vs:List AV}{w:Bool}:fzB b cs (.blk false (.cells w vs)) = .blk (kI (fzL b cs vs)) (.cells w (fzL b cs vs)):=rfl
theorem UA{b:Nat}{cs:List AV}{x:ABlk}:fzB b cs (.blk true x) = .blk true x:=by cases x<;>rfl
theorem P8{b:Nat}{cs:List AV}{st:CSt}{p:Hp→Nat→Prop}:fzB b cs (.gh st p) = .gh st p:=rfl
theorem UB{b:Nat}{cs vs:List AV}{K site:Nat}{st:LSt}:fzB b cs (.loop K site vs st) = .loop K site vs st:=rfl
theorem RY{cs:List AV}{o s:Nat}:bG cs o s 0=[]:=rfl
theorem RZ{cs:List AV}{o s:Nat}:bG cs o s 1=(cs.drop o).take s::bG cs (o+s) s 0:=rfl
theorem Qa{cs:List AV}{o s:Nat}:bG cs o s 2=(cs.drop o).take s::bG cs (o+s) s 1:=rfl
theorem Qb{cs:List AV}{o s:Nat}:bG cs o s 3=(cs.drop o).take s::bG cs (o+s) s 2:=rfl
theorem Qd{cs:List AV}{o s:Nat}:bG cs o s 4=(cs.drop o).take s::bG cs (o+s) s 3:=rfl
theorem UC{res:List (Nat×Option (Bool×Nat))}{own:Bool}{k:Nat}{e:aI}{h:XH}:gN none res own k (some (.normal,e,h))=kF own k h (iZ res e (aG h)):=rfl
theorem UD{res:List (Nat×Option (Bool×Nat))}{own:Bool}{k:Nat}{e:aI}{h:XH}:gN none res own k (some (.ret,e,h))=kF own k h (iZ res e (aG h)):=rfl
theorem UE{own:Bool}{k:Nat}{h:XH}{v:AV}:kF own k h (some v)=some (nV own k v h):=rfl
theorem UF{k:Nat}{h:XH}{v:AV}:nV true k v h=aQA k h v (dA k [v] h):=by simp[nV,aQA,upd]
theorem UG{k:Nat}{h:XH}{v:AV}:nV false k v h=bBw k (aBz (kO h 2 (slN v)) (upd anyE 0 v) h):=rfl
theorem UH{k:Nat}{h:XH}{e:aI}:bBw k (e,h)=aQA k h (uR (e 0)) (dA k [uR (e 0)] h):=rfl
theorem UI{k:Nat}{h:XH}{v:AV}{acc:List Nat}:aQA k h v acc=(rnA (keepS k acc) v,nI k acc h):=rfl
theorem UJ{rs:List (Nat×Option (Bool×Nat))}{e:aI}{h:Hp}:iZ rs e h=aPi (yI e h rs):=by unfold iZ aPi;cases yI e h rs<;>rfl
theorem UK{v:AV}:aPi (some [v])=some v:=rfl
theorem UL:aPi (some [])=some (.tup []):=rfl
theorem UM{v u:AV}{r:List AV}:aPi (some (v::u::r))=some (.tup (v::u::r)):=rfl
theorem UN{e:aI}{h:Hp}:yI e h []=some []:=rfl
theorem UO{e:aI}{h:Hp}{x:Nat×Option (Bool×Nat)}{r:List (Nat×Option (Bool×Nat))}:yI e h (x::r)=aPj (vX e h x) (yI e h r):=by simp only[yI,aPj]<;>rfl
theorem UP{v:AV}{vs:List AV}:aPj (some v) (some vs)=some (v::vs):=rfl
theorem UQ{e:aI}{h:Hp}{t:Nat}:vX e h (t,none)=some (e t):=rfl
theorem UR{e:aI}{h:Hp}{a n:Nat}{g:Bool}:vX e h (a,some (g,n))=fC g n h (e a):=rfl
theorem US{as:List AV}{k:Nat}:aT as k=as.getD k .any:=rfl
theorem UT{k:Nat}{ks:List Nat}{v:AV}{vs:List AV}{j:Nat}:bB (k::ks) (v::vs) j=if j=k then v else bB ks vs j:=rfl
theorem UU{k:Nat}{L:List Nat}{e:aI}{h:XH}:zV k L e h=lO (keepS k (dA k (L.map e) h)) (L.map e):=rfl
theorem UV{k:Nat}{L:List Nat}{e:aI}{h:XH}:lK k L e h=nI k (dA k (L.map e) h) h:=rfl
theorem UW{D:Nat→Option XFn}{K k:Nat}{rd:Option Nat}{e:aI}{h:XH}{c:AO}{a b:XCode}:execW D K k rd (.cond c a b) e h=aLy (aK e c) (execW D K k rd a) (execW D K k rd b) e h:=by
 rw[aKa];unfold aLy;cases aK e c with
 | bool t=>cases t<;>rfl
 | _=>rfl
theorem UX{a b:aI→XH→Option (DX×aI×XH)}{e:aI}{h:XH}:aLy (.bool true) a b e h=a e h:=rfl
theorem UY{a b:aI→XH→Option (DX×aI×XH)}{e:aI}{h:XH}:aLy (.bool false) a b e h=b e h:=rfl
theorem UZ{id:Nat}{e:aI}{h:XH}:aHb (some (.exit id,e,h))=true:=rfl
theorem Ta{e:aI}{h:XH}:aHb (some (.ret,e,h))=true:=rfl
def aXK(x:AV):Option Eff:=match x with
    | .str s=>some (.new none (.cells true (s.data.toList.map fun b=>.int .u8 (b.toNat:Int))) fun b=>.sl b 0 1 s.size)
    | _=>none
def aXM:Option (List AV)→Option Eff
    | some cs=>some (.new none (.cells true cs) fun b=>.pt b 0)
    | none=>none
def aXL(s n:Nat):Option (List AV)→Option Eff
    | some cs=>some (.new none (.cells true cs) fun b=>.sl b 0 s n)
    | none=>none
def aWW(s bytes:Nat)(z:List AV)(l c:AV):Option Eff:=match l,c with
    | .int .i64 l,.int .i64 c=>if 0≤l∧l≤c∧(bytes:Int)*c≤281474976710656∧c≤9223372036854775807 then
     some (.new none (.cells true (List.replicate c.toNat z).flatten) fun b=>.sl b 0 s l.toNat) else none
    | _,_=>none
theorem Tb:(false=true)=False:=by simp
theorem Tc{α β:Type}{f:α→β}{a:α}{l:List α}:(a::l).map f=f a::l.map f:=rfl
theorem Td{α β:Type}{f:α→β}:([]:List α).map f=[]:=rfl
theorem Te{α:Type}{a:α}{l s:List α}:(a::l)++s=a::(l++s):=rfl
theorem Tf{α:Type}{s:List α}:[]++s=s:=rfl
theorem Tg{α:Type}{s:List α}:s++[]=s:=by simp
theorem Th{α β:Type}{f:α→List β}{a:α}{l:List α}:(a::l).flatMap f=f a++l.flatMap f:=by simp
theorem Ti{α β:Type}{f:α→List β}:([]:List α).flatMap f=[]:=rfl
theorem Tj{α:Type}{a:α}{l:List α}:(a::l).length=l.length+1:=rfl
theorem Tl{α:Type}:([]:List α).length=0:=rfl
theorem Tm{α β:Type}{f:α→β}{l:List α}:(l.map f).length=l.length:=by simp
theorem Tn{α β:Type}{f:α→β}{l:List α}{i:Nat}:(l.map f)[i]?=l[i]?.map f:=by simp
theorem Tp{α β:Type}{f:α→β}{a:α}:(some a).map f=some (f a):=rfl
theorem Tq{α β:Type}{f:α→β}:(none:Option α).map f=none:=rfl
theorem Tr{b:Bool}:(true&&b)=b:=by simp
theorem Ts{b:Bool}:(b&&true)=b:=by simp
theorem Tt{b:Bool}:(false&&b)=false:=by simp
theorem Tu{b:Bool}:(b&&false)=false:=by simp
theorem Tv:(!true)=false:=rfl
theorem Tw:(!false)=true:=rfl
theorem Tx{b:Bool}:(true||b)=true:=by simp
theorem Ty{b:Bool}:(b||true)=true:=by simp
theorem Tz{p:Prop}:(p∧True)=p:=by simp
theorem T2{p:Prop}:(False∧p)=False:=by simp
theorem T3{p:Prop}:(p∨True)=True:=by simp
theorem T4{p:Prop}:(p∨False)=p:=by simp
theorem T5{i:Decidable True}:decide True=true:=by simp
theorem T6{i:Decidable False}:decide False=false:=by simp
theorem T7{α:Type}{f:α→Bool}:[].all f=true:=rfl
theorem T8{α:Type}{f:α→Bool}{a:α}{l:List α}:(a::l).all f=(f a&&l.all f):=rfl
theorem T9{α:Type}{a:α}:List.replicate 0 a=[]:=rfl
theorem RR{α:Type}{a:α}:List.replicate 1 a=[a]:=rfl
theorem RU{α:Type}{a:α}:List.replicate 2 a=[a,a]:=rfl
theorem RV{α:Type}{a:α}:List.replicate 3 a=[a,a,a]:=rfl
theorem RW{α:Type}{a:α}:List.replicate 4 a=[a,a,a,a]:=rfl
theorem RX{α:Type}{a:α}:List.replicate 7 a=[a,a,a,a,a,a,a]:=rfl
theorem TA:lE []=[]:=by simp only[lE]
theorem TB{v:AV}{r:List AV}:lE (v::r)=(jS v++lE r):=by simp only[lE]
theorem TC{s:Nat→Option Nat}:lO s []=[]:=by simp only[lO]
theorem TD{s:Nat→Option Nat}{v:AV}{r:List AV}:lO s (v::r)=(rnA s v::lO s r):=by simp only[lO]
theorem TE:kI []=true:=by simp only[kI]
theorem TF{v:AV}{r:List AV}:kI (v::r)=(iU v&&kI r):=by simp only[kI]
theorem TG:slL []=[]:=by simp only[slL]
theorem TH{v:AV}{r:List AV}:slL (v::r)=(slN v++slL r):=by simp only[slL]
theorem TI{B:Nat}{C:List AV}:fzL B C []=[]:=by simp only[fzL]
theorem TJ{B:Nat}{C:List AV}{v:AV}{r:List AV}:fzL B C (v::r)=(wJ B C v::fzL B C r):=by simp only[fzL]
theorem TK:kQ []=[]:=by simp only[kQ]
theorem TL{v:AV}{r:List AV}:kQ (v::r)=(uR v::kQ r):=by simp only[kQ]
theorem TM{a:AV}{z cs:List AV}{off:Nat}:bJ (a::z) off cs=(a::z).take off++cs++(a::z).drop (off+cs.length):=rfl
theorem TN{z:List AV}:gJ z []=some z:=rfl
def aXv(z:List AV)(off n:Nat)(rest:List (Nat×Nat×AV)):Option (List AV)→Option (List AV)
 | some cs=>if cs.length=n∧off+n≤z.length then gJ (bJ z off cs) rest else none
 | none=>none
theorem TO{z:List AV}{off n:Nat}{v:AV}{rest:List (Nat×Nat×AV)}:gJ z ((off,n,v)::rest)=aXv z off n rest (cellsOf v):=by simp only[gJ,aXv]<;>rfl
theorem TP{z cs:List AV}{off n:Nat}{rest:List (Nat×Nat×AV)}:aXv z off n rest (some cs)=if cs.length=n∧off+n≤z.length then gJ (bJ z off cs) rest else none:=rfl
theorem TQ{c d:Nat}{e:aI}:aR c d e none=some d:=rfl
def boM(cap:Nat):AV→Option Nat
 | .int _ n=>if 0≤n∧n≤(cap:Int) then some n.toNat else none
 | _=>none
theorem TR{c d:Nat}{e:aI}{x:AO}:aR c d e (some x)=boM c (aK e x):=by simp only[aR,boM]<;>rfl
theorem TS{c:Nat}{k:IntKind}{n:Int}:boM c (.int k n)=if 0≤n∧n≤(c:Int) then some n.toNat else none:=rfl
theorem TT{e:aI}{p:Nat}{ps:List Nat}{v:AV}{vs:List AV}:rP e (p::ps) (v::vs)=rP (upd e p v) ps vs:=rfl
theorem TU{e:aI}{vs:List AV}:rP e [] vs=e:=rfl
theorem TV{H:Hp}{x:AO}{e:aI}:aD (.box x) e H=aXM (cellsOf (aK e x)):=by simp only[aD,aXM]<;>rfl
theorem TX{cs:List AV}:aXM (some cs)=some (.new none (.cells true cs) fun b=>.pt b 0):=rfl
theorem TY{s n:Nat}{z:List AV}{ps:List (Nat×Nat×AO)}{e:aI}{H:Hp}:aD (.bslice s n z ps) e H=aXL s n (gJ (List.replicate n z).flatten (ps.map fun p=>(p.1,p.2.1,aK e p.2.2))):=by simp only[aD,aXL]<;>rfl
theorem TZ{s n:Nat}{cs:List AV}:aXL s n (some cs)=some (.new none (.cells true cs) fun b=>.sl b 0 s n):=rfl
theorem Sa{α:Type}:([]:List (List α)).flatten=[]:=rfl
theorem Sc{α:Type}{a:List α}{l:List (List α)}:(a::l).flatten=a++l.flatten:=rfl
theorem Sd{e:aI}{H:Hp}:aD .mkmap e H=some (.new none (.map true []) fun b=>.mp b):=rfl
theorem Se{s b:Nat}{z:List AV}{l c:AO}{e:aI}{H:Hp}:aD (.mksl s b z l c) e H=aWW s b z (aK e l) (aK e c):=by simp only[aD,aWW]<;>rfl
theorem Sf{s b:Nat}{z:List AV}{l c:Int}:aWW s b z (I l) (I c)=if 0≤l∧l≤c∧(b:Int)*c≤281474976710656∧c≤9223372036854775807 then
        some (.new none (.cells true (List.replicate c.toNat z).flatten) fun b=>.sl b 0 s l.toNat) else none:=rfl
theorem Sg{s:Nat}{H:Hp}:fK s H .nilsl=some (0,[]):=rfl
theorem Si{s:Nat}{H:Hp}{rows:List (List AV)}:fK s H (.fs rows)=if rows.all (fun r=>r.length==s) then some (rows.length,rows.flatten) else none:=rfl
def aWl(s o s' len:Nat):Option ABlk→Option (Nat×List AV)
    | some (.cells _ cs)=>if s'=s∧o+len*s≤cs.length then some (len,(cs.drop o).take (len*s)) else none
    | _=>none
theorem Sj{s b o s' n:Nat}{H:Hp}:fK s H (.sl b o s' n)=aWl s o s' n (H b):=by simp only[fK,aWl]<;>rfl
theorem Sk{s o s' len:Nat}{w:Bool}{cs:List AV}:aWl s o s' len (some (.cells w cs))=if s'=s∧o+len*s≤cs.length then some (len,(cs.drop o).take (len*s)) else none:=rfl
def aKs(s bytes:Nat)(H:Hp)(x:AV):Option (Nat×List AV)→Option Eff
 | none=>none
 | some (n,new) =>
   match x with
   | .nilsl=>if n*bytes≤1099511627776∧n≤1099511627776 then (if n=0 then some (.val .nilsl) else some (.new none (.cells true new) fun b=>if bytes=1048577 then .sb b n else .sl b 0 s n)) else none
   | .sb b len=>match H b with
     | some (.cells true cs)=>if bytes=1048577∧s=1∧len=cs.length∧len+n≤1099511627776 then some (.new (some b) (.cells true (cs++new)) fun b=>.sb b (len+n)) else none
     | _=>none
   | .sl b 0 s' len=>match H b with
     | some (.cells true cs)=>if s'=s∧len*s=cs.length∧(len+n)*bytes≤1099511627776∧len+n≤1099511627776 then some (.new (some b) (.cells true (cs++new)) fun b=>.sl b 0 s (len+n)) else none
     | _=>none
   | _=>none
def aRk(s bytes n:Nat)(new:List AV)(b len:Nat):Option ABlk→Option Eff
 | some (.cells true cs)=>if bytes=1048577∧s=1∧len=cs.length∧len+n≤1099511627776 then some (.new (some b) (.cells true (cs++new)) fun b=>.sb b (len+n)) else none
 | _=>none
def aRl(s bytes n:Nat)(new:List AV)(b s' len:Nat):Option ABlk→Option Eff
 | some (.cells true cs)=>if s'=s∧len*s=cs.length∧(len+n)*bytes≤1099511627776∧len+n≤1099511627776 then some (.new (some b) (.cells true (cs++new)) fun b=>.sl b 0 s (len+n)) else none
 | _=>none
theorem Sl{s bytes:Nat}{H:Hp}{x y:AV}:sN s bytes H x y=aKs s bytes H x (fK s H y):=by
 unfold sN aKs;cases fK s H y<;>rfl
theorem Sn{s bytes n:Nat}{H:Hp}{new:List AV}:aKs s bytes H .nilsl (some (n,new))=if n*bytes≤1099511627776∧n≤1099511627776 then (if n=0 then some (.val .nilsl) else some (.new none (.cells true new) fun b=>if bytes=1048577 then .sb b n else .sl b 0 s n)) else none:=rfl
theorem Pd{s bytes n b len:Nat}{H:Hp}{new:List AV}:aKs s bytes H (.sb b len) (some (n,new))=aRk s bytes n new b len (H b):=by simp only[aKs,aRk]<;>rfl
theorem Pe{s bytes n b len:Nat}{cs new:List AV}:aRk s bytes n new b len (some (.cells true cs))=if bytes=1048577∧s=1∧len=cs.length∧len+n≤1099511627776 then some (.new (some b) (.cells true (cs++new)) fun b=>.sb b (len+n)) else none:=rfl
theorem Sp{s bytes n b s' len:Nat}{H:Hp}{new:List AV}:aKs s bytes H (.sl b 0 s' len) (some (n,new))=aRl s bytes n new b s' len (H b):=by simp only[aKs,aRl]<;>rfl
theorem Sq{s bytes n b s' len:Nat}{cs new:List AV}:aRl s bytes n new b s' len (some (.cells true cs))=if s'=s∧len*s=cs.length∧(len+n)*bytes≤1099511627776∧len+n≤1099511627776 then some (.new (some b) (.cells true (cs++new)) fun b=>.sl b 0 s (len+n)) else none:=rfl
theorem SV{e:aI}{n:Nat}:aK e (.t n)=e n:=rfl
theorem SW{e:aI}{v:AV}:aK e (.c v)=v:=rfl
theorem SX:aAW 2 .nilfn .nilfn=some true:=rfl
theorem SY{f:Fn}{a b:List AV}:aAW 2 (.fn f a b) .nilfn=some false:=rfl
theorem SZ:aAW 3 .nilpt .nilpt=some true:=rfl
theorem Ra{b o:Nat}:aAW 3 (.pt b o) .nilpt=some false:=rfl
def aSQ(len s b o n h:Nat):Option Nat→Option Eff
 | some l=>if o+len*s≤n∧l<len then some (.val (.sl b (o+l*s) s (h-l))) else none
 | none=>none
def aSR(len s:Nat)(e:aI)(lo:Option AO)(b o:Nat):Option ABlk→Option Nat→Option Eff
 | some (.cells _ cs),some h=>aSQ len s b o cs.length h (aR h 0 e lo)
 | _,_=>none
def aWm(len s:Nat)(e:aI)(lo:Option AO)(H:Hp)(r:Option Nat):AV→Option Eff
 | .pt b o=>aSR len s e lo b o (H b) r
 | _=>none
theorem Rb{len s:Nat}{x:AO}{lo hi:Option AO}{e:aI}{H:Hp}:aD (.slarr len s x lo hi) e H=aWm len s e lo H (aR len len e hi) (aK e x):=by
 simp only[aD,aWm];cases aK e x with
 | pt b o =>
   simp only[];cases H b with
   | none=>rfl
   | some c =>
     cases c with
     | cells w cs =>
       cases aR len len e hi with
       | none=>rfl
       | some h=>simp only[aSR,aSQ];cases aR h 0 e lo<;>rfl
     | _=>rfl
 | _=>rfl
theorem Rc{len s b o:Nat}{e:aI}{lo:Option AO}{H:Hp}{r:Option Nat}:aWm len s e lo H r (.pt b o)=aSR len s e lo b o (H b) r:=rfl
theorem Re{len s b o h:Nat}{e:aI}{lo:Option AO}{w:Bool}{cs:List AV}:aSR len s e lo b o (some (.cells w cs)) (some h)=aSQ len s b o cs.length h (aR h 0 e lo):=rfl
theorem Rf{len s b o n h l:Nat}:aSQ len s b o n h (some l)=if o+len*s≤n∧l<len then some (.val (.sl b (o+l*s) s (h-l))) else none:=rfl
def aSO(rows:List (List AV))(h:Nat):Option Nat→Option Eff
 | some l=>some (.val (.fs ((rows.drop l).take (h-l))))
 | none=>none
def aSP(rows:List (List AV))(e:aI)(lo:Option AO):Option Nat→Option Eff
 | some h=>aSO rows h (aR h 0 e lo)
 | none=>none
def aSM(b o s h:Nat):Option Nat→Option Eff
 | some l=>if l<h then some (.val (.sl b (o+l*s) s (h-l))) else if l=0 then some (.val (.sl b o s 0)) else some (.val (.fs []))
 | none=>none
def aSN(b o s:Nat)(e:aI)(lo:Option AO):Option Nat→Option Eff
 | some h=>aSM b o s h (aR h 0 e lo)
 | none=>none
def aYP:Option Nat→Option Eff
 | some _=>some (.val .nilsl)
 | none=>none
def aYQ(e:aI)(lo:Option AO):Option Nat→Option Eff
 | some h=>aYP (aR h 0 e lo)
 | none=>none
def aMd(s:Nat)(e:aI)(lo hi:Option AO):AV→Option Eff
 | .fs rows=>if rows.all (fun r=>r.length==s) then aSP rows e lo (aR rows.length rows.length e hi) else none
 | .sl b o s' len=>if s'=s then aSN b o s e lo (aR len len e hi) else none
 | .nilsl=>aYQ e lo (aR 0 0 e hi)
 | _=>none
theorem Rg{s:Nat}{x:AO}{lo hi:Option AO}{e:aI}{H:Hp}:aD (.slsl s x lo hi) e H=aMd s e lo hi (aK e x):=by
 simp only[aD];cases aK e x with
 | fs rows =>
   simp only[lV,aMd];by_cases hr:(rows.all fun r=>r.length==s)=true
   ·simp only[hr,AAe]
    cases aR rows.length rows.length e hi with
    | none=>rfl
    | some h=>simp only[aSP,aSO];cases aR h 0 e lo<;>rfl
   ·simp only[hr];rfl
 | sl b o s' len =>
   simp only[lV,aMd];by_cases hr:s'=s
   ·simp only[hr,AAe]
    cases aR len len e hi with
    | none=>rfl
    | some h =>
      simp only[aSN,aSM];cases aR h 0 e lo with
      | none=>rfl
      | some l =>
        by_cases hl:l<h;·simp only[hl,AAe]
        ·by_cases h0:l=0
         ·simp only[hl,h0,AAe,AAd]
          subst h0;simp only[hl,AAd]
         ·simp only[hl,h0,AAd]
   ·simp only[hr,AAd]
 | nilsl =>
   simp only[lV,aMd];cases aR 0 0 e hi with
   | none=>rfl
   | some h=>simp only[aYQ,aYP];cases aR h 0 e lo<;>rfl
 | _=>rfl
theorem Rh{s:Nat}{e:aI}{lo hi:Option AO}{rows:List (List AV)}:aMd s e lo hi (.fs rows)=if rows.all (fun r=>r.length==s) then aSP rows e lo (aR rows.length rows.length e hi) else none:=rfl
theorem Ri{s b o s' len:Nat}{e:aI}{lo hi:Option AO}:aMd s e lo hi (.sl b o s' len)=if s'=s then aSN b o s e lo (aR len len e hi) else none:=rfl
theorem Rj{rows:List (List AV)}{e:aI}{lo:Option AO}{h:Nat}:aSP rows e lo (some h)=aSO rows h (aR h 0 e lo):=rfl
theorem Rk{rows:List (List AV)}{h l:Nat}:aSO rows h (some l)=some (.val (.fs ((rows.drop l).take (h-l)))):=rfl
theorem Rl{b o s h:Nat}{e:aI}{lo:Option AO}:aSN b o s e lo (some h)=aSM b o s h (aR h 0 e lo):=rfl
theorem Rm{b o s h l:Nat}:aSM b o s h (some l)=if l<h then some (.val (.sl b (o+l*s) s (h-l))) else if l=0 then some (.val (.sl b o s 0)) else some (.val (.fs [])):=rfl
def aSI(s:ByteArray)(h:Nat):Option Nat→Option Eff
 | some l=>some (.val (.str (jD s l h)))
 | none=>none
def aSJ(s:ByteArray)(e:aI)(lo:Option AO):Option Nat→Option Eff
 | some h=>aSI s h (aR h 0 e lo)
 | none=>none
def aWk(e:aI)(lo hi:Option AO):AV→Option Eff
 | .str s=>aSJ s e lo (aR s.size s.size e hi)
 | _=>none
theorem Ro{x:AO}{lo hi:Option AO}{e:aI}{H:Hp}:aD (.slstr x lo hi) e H=aWk e lo hi (aK e x):=by
 simp only[aD,aWk];cases aK e x with
 | str s =>
   simp only[];cases aR s.size s.size e hi with
   | none=>rfl
   | some h=>simp only[aSJ,aSI];cases aR h 0 e lo<;>rfl
 | _=>rfl
theorem Rp{e:aI}{lo hi:Option AO}{s:ByteArray}:aWk e lo hi (.str s)=aSJ s e lo (aR s.size s.size e hi):=rfl
theorem Rq{e:aI}{lo:Option AO}{s:ByteArray}{h:Nat}:aSJ s e lo (some h)=aSI s h (aR h 0 e lo):=rfl
theorem Rr{s:ByteArray}{h l:Nat}:aSI s h (some l)=some (.val (.str (jD s l h))):=rfl
theorem Rs{x:AO}{e:aI}{H:Hp}:aD (.bytes x) e H=aXK (aK e x):=by simp only[aD,aXK]<;>rfl
theorem Rt{s:ByteArray}:aXK (.str s)=some (.new none (.cells true (s.data.toList.map fun b=>.int .u8 (b.toNat:Int))) fun b=>.sl b 0 1 s.size):=rfl
theorem Ru{t:TypeId}{x:AO}{e:aI}{H:Hp}:aD (.mkifc t x) e H=some (.val (.ifc t (aK e x))):=rfl
theorem oC(p:Prop):(p=True)∨(p=False):=by by_cases h:p<;>simp[h]
theorem dD{α:Type}{l:List α}{i:Nat}(h:i<l.length):∃ x,l[i]?=some x:=⟨l[i],B6 h⟩
theorem Sr{n:Int}:(n<n)=False:=AAb
theorem dU{i n:Nat}(h:i<n)(hn:n<1000000000000):IntKind.i64.wrap ((i:Int)+1)=(i:Int)+1:=aF AT AT
theorem Ss{agg:Bool}{n b o:Nat}{H:Hp}:fC agg n H (.pt b o)=ldM agg n o (H b):=by unfold fC ldM;rfl
theorem Su{agg w:Bool}{n o:Nat}{cs:List AV}:ldM agg n o (some (.cells w cs))=iJ agg n cs o:=rfl
theorem Sv{agg:Bool}{n i o:Nat}{rows:List (List AV)}{H:Hp}:fC agg n H (.fp rows i o)=ldR agg n o (rows[i]?):=by unfold fC ldR;rfl
theorem Sw{agg:Bool}{n o:Nat}{r:List AV}:ldR agg n o (some r)=iJ agg n r o:=rfl
theorem Sx{n o:Nat}{cs:List AV}:iJ true n cs o=if o+n≤cs.length then some (.agg ((cs.drop o).take n)) else none:=rfl
theorem Sy{n o:Nat}{cs:List AV}:iJ false n cs o=cs[o]?:=rfl
theorem Sz{n b o:Nat}{h:XH}{x:AV}:qF n h (.pt b o) x=stM n b o h (hat h b) (cellsOf x):=by
 simp only[qF,stM]<;>rfl
theorem S3{n b o:Nat}{h:XH}{g:Bool}{cs vs:List AV}:stM n b o h (some (.blk g (.cells true cs))) (some vs)=if vs.length=n∧o+n≤cs.length then some (h.set b (some (.blk (g&&kI vs) (.cells true (bJ cs o vs))))) else none:=rfl
theorem S4{q:Bool}{h:XH}{b:Nat}{k x:AV}:vE q h (.mp b) k x=muM q b h k x (hat h b):=by simp only[vE,muM]<;>rfl
theorem S5{q g:Bool}{h:XH}{b:Nat}{k x:AV}{es:List (AV×AV)}:muM q b h k x (some (.blk g (.map true es)))=(jY q k x es).map fun es'=>h.set b (some (.blk (g&&(iU k&&iU x)) (.map true es'))):=rfl
theorem S6{h:XH}{g:Bool}{x:ABlk}:uX h none g x=h++[some (.blk g x)]:=rfl
theorem S7{h:XH}{b:Nat}{g:Bool}{x:ABlk}:uX h (some b) g x=h.set b none++[some (.blk g x)]:=rfl
theorem S8{h:XH}{b o s n:Nat}:kN h (.sl b o s n)=flM (hat h b):=by simp only[kN,flM]<;>rfl
theorem S9{g:Bool}{x:ABlk}:flM (some (.blk g x))=g:=rfl
theorem SA{h:XH}{rows:List (List AV)}:kN h (.fs rows)=true:=rfl
theorem SC{h:XH}:kN h .nilsl=true:=rfl
theorem SD{op:BinOp}{k k':IntKind}{a b:Int}:aEz op (.int k a) (.int k' b)=gO op k a k' b:=rfl
theorem SE{op:BinOp}{a b:ByteArray}:aEz op (.str a) (.str b)=aN op a b:=rfl
abbrev rB(hs:List Bool):AV:=.fs (hs.map fun v=>[.bool v])
theorem Rx{α β:Type}{f:α→β}{a b:List α}:(a++b).map f=a.map f++b.map f:=by simp
theorem Ry{α:Type}{a b:List α}:(a++b).length=a.length+b.length:=by simp
theorem Rz{n:Nat}:n*1=n:=by simp
theorem R0{n:Nat}:0+n=n:=by simp
theorem RC{n:Nat}:n+0=n:=by simp
theorem RG{n:Nat}:(n≤n)=True:=by simp
theorem RH{n:Nat}:n-0=n:=by simp
def aCU{α:Type}(l:List α)(o:Nat)(v:α):List α:=l.take o++v::l.drop (o+1)
theorem aAi{α:Type}{l:List α}{o:Nat}{v:α}(h:o<l.length):aCU l o v=l.set o v:=by
 rw[aCU,N6,if_pos h]
theorem RI{hs:List Int}{o:Nat}{v:Int}:bJ (hs.map I) o [I v]=(aCU hs o v).map I:=by
 simp[bJ,aCU]
theorem xZ{α:Type}{f:α→AV}:∀(l pre:List α),bG ((pre++l).map f) pre.length 1 l.length=l.map fun v=>[f v]
 | [],pre=>rfl
 | a::r,pre=>by
   have h:=xZ (f:=f) r (pre++[a])
   grind [bG]
theorem RJ{hs:List Int}:bG (hs.map I) 0 1 hs.length=hs.map fun v=>[I v]:=xZ (f:=I) hs []
theorem RO{n:Nat}{v:Int}:(List.replicate n [I v]).flatten=(List.replicate n v).map I:=by
 simp_all
section
variable{D:Nat→Option XFn}{K k:Nat}{rd:Option Nat}{e:aI}{h:XH}{run:eC}{runY:eT}
variable{d:Option Nat}{ix:Nat}{r:List DOper}{L:List (Nat×Nat)}
theorem Qt{s b:Nat}{x y:AO}:xo (some L) run runY (⟨ix,d,.app s b x y,none⟩::r) e h=aBw (L.all fun q=>eQ (aK e x) != some q.2) (kE (some L) run runY r d e h (kN h (aK e x)&&kN h (aK e y)) (sN s b (aG h) (aK e x) (aK e y))):=by
 show fB run runY _ e h L=_;rw[←aQa];rfl
theorem Qu{b:Nat}:((none:Option Nat) != some b)=true:=rfl
theorem Qw{a b:Nat}:(some a != some b) = !(decide (a=b)):=by by_cases h:a=b<;>simp[h]
def lsM:Option XB→Option LSt
 | some (.loop _ _ _ s)=>some s
 | _=>none
theorem Qe{h:XH}{l:Nat}:gY h l=lsM (hat h l):=by unfold gY lsM;rfl
theorem Qf{K site:Nat}{vs:List AV}{s:LSt}:lsM (some (.loop K site vs s))=some s:=rfl
def ltM(h:XH)(l:Nat)(s:LSt):Option XB→XH
 | some (.loop K site vs _)=>h.set l (some (.loop K site vs s))
 | _=>h
theorem Qg{h:XH}{l:Nat}{s:LSt}:loopTo h l s=ltM h l s (hat h l):=by unfold loopTo ltM;rfl
theorem Qh{h:XH}{l K site:Nat}{vs:List AV}{s s':LSt}:ltM h l s (some (.loop K site vs s'))=h.set l (some (.loop K site vs s)):=rfl
theorem Qi{h:XH}:aBv none h=true:=rfl
theorem Qj{g:Nat}{a b:List AV}:aBu (.fn (.func g) a b)=true:=rfl
def aYV(b:Bool)(n:Nat)(e:aI)(r:Option (AV×XH)):Option (DX×aI×XH):=if b then aHP n e r else none
theorem Qk{site:Nat}{L:List Nat}{f:AO}{ps:List Nat}{a b:XCode}:execW D K k rd (.rng site L f ps a b) e h=aYV (aBv rd h&&aBu (aK e f)) h.length e (fW (runW D) (runYW D) (aK e f) [.fn (.yield h.length) [] []] (h++[some (.loop K site (L.map e) .ready)])):=aMH
theorem Ql{n:Nat}{r:Option (AV×XH)}:aYV true n e r=aHP n e r:=rfl
def rgM(n:Nat)(e:aI)(h:XH):Option LSt→Option (DX×aI×XH)
 | some .ready=>some (.normal,e,h.set n none)
 | some (.done x)=>some (x,e,h.set n none)
 | _=>none
theorem Qm{n:Nat}{v:AV}:aHP n e (some (v,h))=rgM n e h (gY h n):=by unfold aHP rgM;rfl
theorem Qn{n:Nat}:rgM n e h (some .ready)=some (.normal,e,h.set n none):=rfl
theorem Qo{l:Nat}{as:List AV}:fW run runY (.fn (.yield l) [] []) as h=kM (gX (.fn (.yield l) [] []::as) h) h (runY (rnA (aPz (gX (.fn (.yield l) [] []::as) h)) (.fn (.yield l) [] [])) (lO (aPz (gX (.fn (.yield l) [] []::as) h)) as) (iC (gX (.fn (.yield l) [] []::as) h) h)):=rfl
def yM2(x:Option (AV×XH)):Option LSt→Option (AV×XH)
 | some .ready=>x
 | _=>none
theorem Qp{l:Nat}{f:aI→XH→Option (AV×XH)}:aIW l (some (.normal,e,h)) f=yM2 (f e (loopTo h l .busy)) (gY h l):=by unfold aIW yM2;rfl
theorem Qq{x:Option (AV×XH)}:yM2 x (some .ready)=x:=rfl
def yE2(l k:Nat)(x:DX)(h:XH):Option LSt→Option (AV×XH)
 | some .busy=>some (match x with
  | .normal=>nV true k (.bool true) (loopTo h l .ready)
  | x=>nV true k (.bool false) (loopTo h l (.done x)))
 | _=>none
theorem Qr{l:Nat}{x:DX}:aLJ l k (some (x,e,h))=yE2 l k x h (gY h l):=by unfold aLJ yE2;rfl
theorem Qs{l:Nat}:yE2 l k .normal h (some .busy)=some (nV true k (.bool true) (loopTo h l .ready)):=rfl
end
theorem QB{g g' w w':Bool}{xs ys:List AV}:aHI (some (.blk g (.cells w xs))) (some (.blk g' (.cells w' ys)))=(w==w'&&iH xs ys):=rfl
theorem QD:iH [] []=true:=rfl
theorem QE{x y:AV}{xs ys:List AV}:iH (x::xs) (y::ys)=(cG x y&&iH xs ys):=rfl
theorem QG{k:IntKind}{n:Int}:cG (.int k n) (.int k n)=true:=by simp[cG]
theorem QH{b:Bool}:cG (.bool b) (.bool b)=true:=by cases b<;>rfl
theorem QI{b o:Nat}:cG (.pt b o) (.pt b o)=true:=by simp[cG]
theorem QJ{b o s n:Nat}:cG (.sl b o s n) (.sl b o s n)=true:=by simp[cG]
theorem QL:cG .nilsl .nilsl=true:=rfl
theorem QN:((32:Nat):Int)=32:=rfl
theorem QO:((40:Nat):Int)=40:=rfl
theorem QQ:((45:Nat):Int)=45:=rfl
theorem QR{k:IntKind}{a b:Int}:gO .andNot k a k b=some (.int k (nK .andNot k a b)):=by simp[gO]
section
variable{run:eC}{runY:eT}{d:Option Nat}{e:aI}{h:XH}{ix:Nat}{r:List DOper}{m:Option (List (Nat×Nat))}
theorem Pf{b n:Nat}:jS (.sb b n)=([b]:List Nat):=rfl
theorem Pg{b n:Nat}:iU (.sb b n)=(false:Bool):=rfl
theorem Ph{s:Nat→Option Nat}{b n:Nat}:rnA s (.sb b n)=((match s b with|some c=>.sb c n|none=>.any):AV):=by simp only[rnA]<;>rfl
theorem Pj{B:Nat}{C:List AV}{b n:Nat}:wJ B C (.sb b n)=((.sb b n):AV):=rfl
theorem Pk{b n:Nat}:cellsOf (.sb b n)=(some [(.sb b n)]:Option (List AV)):=rfl
theorem Pl{b:Nat}:jS (.bp b)=([b]:List Nat):=rfl
theorem Pm{s:Nat→Option Nat}{b:Nat}:rnA s (.bp b)=((match s b with|some c=>.bp c|none=>.any):AV):=by simp only[rnA]<;>rfl
theorem Pn{b:Nat}:slN (.bp b)=([]:List Nat):=rfl
theorem Po{B:Nat}{C:List AV}{b:Nat}:wJ B C (.bp b)=((.bp b):AV):=rfl
theorem Pp{b:Nat}:uR (.bp b)=((.bp b):AV):=rfl
theorem Pq{p:AO}:xo m run runY (⟨ix,d,(DOp.strof p),none⟩::r) e h=kV m run runY r d e h (iW (aG h) (aK e p)):=uW rfl (by cases hs:iW (aG h) (aK e p)<;>simp[aD,sS,hs]) (fun _=>rfl) (fun _=>rfl) fun _ _=>rfl
theorem Pr{H:Hp}{b o s n:Nat}:iW H (.sl b o s n)=oM (fK 1 H (.sl b o s n)):=rfl
theorem Ps{n:Nat}{cs:List AV}:oM (some (n,cs))=(iE cs).map fun l=>.str ⟨⟨l⟩⟩:=rfl
end
theorem aZA{p:Prop}(h:p):p:=h
theorem P9{h:XH}{b j:Nat}{x:Option XB}:hat (h.set b x) j=if j=b then (if b<h.length then x else hat h j) else hat h j:=by
 rw[gE]
 grind
theorem PA{h k:XH}{j:Nat}:hat (h++k) j=if j<h.length then hat h j else hat k (j-h.length):=cM h k j
theorem PB{h k:XH}{b:Nat}{x:Option XB}:(h++k).set b x=if b<h.length then h.set b x++k else h++k.set (b-h.length) x:=by
 grind
theorem PC{h k l:XH}:(h++k)++l=h++(k++l):=aB3 h k l
theorem PD{h:XH}{b:Nat}{x:Option XB}:(h.set b x).length=h.length:=G5
theorem PE{n:Nat}:(n<n)=False:=AAo (Nat.lt_irrefl n)
theorem PH{n k:Nat}:(n+k<n)=False:=AAb
theorem PI{n:Nat}:n-n=0:=M5 n
theorem PJ{n k:Nat}:n+k-n=k:=AT
def kGm(h:XH):Option AV→Option (AV×XH)
 | some v=>some (v,h)
 | none=>none
theorem PK{res:List (Nat×Option (Bool×Nat))}{e:aI}{h:XH}:aEV res (some (.normal,e,h))=kGm h (iZ res e (aG h)):=by
 show (iZ res e (aG h)).map (fun v=>(v,h))=_;cases iZ res e (aG h)<;>rfl
theorem PL{res:List (Nat×Option (Bool×Nat))}{e:aI}{h:XH}:aEV res (some (.ret,e,h))=kGm h (iZ res e (aG h)):=by
 show (iZ res e (aG h)).map (fun v=>(v,h))=_;cases iZ res e (aG h)<;>rfl
theorem PM{h:XH}{v:AV}:kGm h (some v)=some (v,h):=rfl
variable{P:Program}{B:Base}{F:Nat→Prop}{w:World}{H:Hp}{env:aI}{a:Act}
def pnc(c:Value):List PanicEntry:=[{ v:=c,recovered:=false }]
def aLG(F:Nat→Prop)(w:World)(H:Hp)(Q:AV→Hp→Prop):Ending→World→Prop:=fun e w' =>
 ∃ c v F' H',e = .panicked (pnc c)∧Ext F w H F' w' H'∧St F' w' H'∧Rv F' w' v c∧Q v H'
def FnP(B:Base)(P:Program)(f:FuncId)(as:List AV)(H:Hp)(Q:AV→Hp→Prop):Prop :=
 (∀(vs:Array Value)(w:World),(callFunc f vs).run P w = .ok (.enter f vs) w)∧∀(F:Nat→Prop)(w:World)(vs:Array Value),B.Up F w→St F w H→Args F w as vs→CallsIn Fence.wide 0 P f vs w (aLG F w H Q)
def aRG(B:Base)(P:Program)(fv:AV)(as:List AV)(H:Hp)(Q:AV→Hp→Prop):Prop :=
 match fv with
 | .fn (.func g) first cap=>FnP B P g (first++as++cap) H Q
 | _=>False
abbrev QP:=AV→aI→Hp→Prop
def opP(B:Base)(P:Program)(o:DOper)(Q:QP)(env:aI)(H:Hp):Prop :=
 gd o env=some true∧match o.op with
 | .callf false f xs _=>(∀ tab k,f ≠ .meth tab k)∧aRG B P (aK env f) (xs.map (aK env)) H fun v H'=>Q v env H'
 | _=>False
def RSP(B:Base)(P:Program):List DOper→QP→aI→Hp→Prop
 | [],_,_,_=>False
 | o::rest,Q,env,H=>opP B P o Q env H∨opW B P o (RSP B P rest Q) env H
def LandP(n0:Nat)(T:List Deferred)(F:Nat→Prop)(w:World)(H:Hp)(Q:QP):Exit→Act→World→Prop:=fun e a' w' =>
 ∃ c v env' F' H',e = .panic (pnc c)∧Ext F w H F' w' H'∧St F' w' H'∧RE F' w' env' a'∧Rv F' w' v c∧Mk n0 T F' H' w' a'.defers∧Q v env' H'
theorem LandP.step{n0:Nat}{T:List Deferred}{Q:QP}{F':Nat→Prop}{w':World}{H':Hp}(he:Ext F w H F' w' H'){e:Exit}{a':Act}{w'':World}(hl:LandP n0 T F' w' H' Q e a' w''):LandP n0 T F w H Q e a' w'':=by
 obtain⟨c,v,env',F'',H'',h1,h2,h3⟩:=hl;exact⟨c,v,env',F'',H'',h1,he.trans h2,h3⟩
def WPD(B:Base)(P:Program)(r:Option Nat)(N:Nat)(dc:DCode)(Q:QP)(env:aI)(H:Hp):Prop :=
 ∀ c,eA P N c=some dc→∀(F:Nat→Prop)(w:World)(a:Act)(n0:Nat)(T:List Deferred),B.Up F w→n0≤w.heap.size→a.tmps.size=N→St F w H→RE F w env a→Mk n0 T F H w a.defers→c.wpIn (FW r) 0 P (LandP n0 T F w H Q) a w
variable{r:Option Nat}{N:Nat}{Q:QP}
theorem WPD.seq1{x y:DCode}(h:WPD B P r N x Q env H):WPD B P r N (.seq x y) Q env H:=by
 intro c hc;cases c<;>simp only[eA]at hc
 case seq a b =>
  split at hc
  ·rename_i a' b' ha hb
   simp only[oSI,DCode.seq.injEq]at hc;obtain⟨rfl,rfl⟩:=hc;intro F w act n0 T h1 h2 h3 h4 h5 h6;refine wpIn_seq (wpIn_mono (h a ha F w act n0 T h1 h2 h3 h4 h5 h6) ?_);rintro e a' w' ⟨c,v,env',F',H',rfl,k⟩;exact⟨c,v,env',F',H',rfl,k⟩
  ·simp at hc
 all_goals grind
theorem WPD.seq2{x y:DCode}(h:WD B P r N x (fun e env' H'=>e = .normal∧WPD B P r N y Q env' H') env H):WPD B P r N (.seq x y) Q env H:=by
 intro c hc;cases c<;>simp only[eA]at hc
 case seq a b =>
  split at hc
  ·rename_i a' b' ha hb
   simp only[oSI,DCode.seq.injEq]at hc;obtain⟨rfl,rfl⟩:=hc;intro F w act n0 T h1 h2 h3 h4 h5 h6;refine wpIn_seq (wpIn_mono (h a ha F w act n0 T h1 h2 h3 h4 h5 h6) ?_);rintro e a' w' ⟨x,env',F',H',k1,k2,k3,k4,k5,k6,rfl,k7⟩;cases e with
   | normal=>exact wpIn_mono (k7 b hb F' w' a' n0 T (h1.step h4 k3) (I1 h2 k3.le) k2 k4 k5 k6) fun _ _ _=>LandP.step k3
   | exit id=>simp at k1
   | ret=>simp at k1
   | goto l=>grind
   | panic c=>grind
   | outgrown=>grind
  ·simp at hc
 all_goals grind
theorem WPD.cond{o:AO}{x y:DCode}{t:Bool}(he:aK env o = .bool t)(h:WPD B P r N (if t then x else y) Q env H):WPD B P r N (.cond o x y) Q env H:=by
 intro c hc;cases c<;>simp only[eA]at hc
 case cond o' a b =>
  split at hc
  ·rename_i o'' a' b' ho ha hb
   simp only[oSI,DCode.cond.injEq]at hc;obtain⟨rfl,rfl,rfl⟩:=hc;intro F w act n0 T h1 h2 h3 h4 h5 h6;have hv:=bH h5 ho;rw[he]at hv;have ht:act.eval o' = .bool t:=by
    generalize act.eval o'=z at hv;cases hv;rfl
   refine wpIn_cond ht ?_;cases t with
   | true=>exact h a ha F w act n0 T h1 h2 h3 h4 h5 h6
   | false=>exact h b hb F w act n0 T h1 h2 h3 h4 h5 h6
  ·simp at hc
 all_goals exfalso;first|(simp at hc;done)|((repeat' split at hc)<;>simp at hc;done)
theorem WPD.block{id:Nat}{x:DCode}(h:WPD B P r N x Q env H):WPD B P r N (.block id x) Q env H:=by
 intro c hc;cases c<;>simp only[eA]at hc
 case block j a =>
  split at hc
  ·rename_i a' ha
   simp only[oSI,DCode.block.injEq]at hc;obtain⟨rfl,rfl⟩:=hc;intro F w act n0 T h1 h2 h3 h4 h5 h6;refine wpIn_block (wpIn_mono (h a ha F w act n0 T h1 h2 h3 h4 h5 h6) ?_);rintro e a' w' ⟨c,v,env',F',H',rfl,k⟩;exact⟨c,v,env',F',H',rfl,k⟩
  ·simp at hc
 all_goals exfalso;first|(simp at hc;done)|((repeat' split at hc)<;>simp at hc;done)
theorem WPD.scope{x:DCode}(h:WPD B P r N x Q env H):WPD B P r N (.scope x) Q env H:=by
 intro c hc;cases c<;>simp only[eA]at hc
 case scope a =>
  split at hc
  ·rename_i a' ha
   simp only[oSI,DCode.scope.injEq]at hc;subst hc;intro F w act n0 T h1 h2 h3 h4 h5 h6;refine aCK (wpIn_mono (h a ha F w act n0 T h1 h2 h3 h4 h5 h6) ?_);rintro e a' w' ⟨c,v,env',F',H',rfl,k⟩;exact⟨c,v,env',F',H',rfl,k⟩
  ·simp at hc
 all_goals exfalso;first|(simp at hc;done)|((repeat' split at hc)<;>simp at hc;done)
def aLH(B:Base)(P:Program)(r:Option Nat)(N:Nat)(x:DCode)(Q:QP):Nat→aI→Hp→Prop
 | 0,env,H=>WPD B P r N x Q env H
 | n+1,env,H=>WD B P r N x (fun e env' H'=>e = .normal∧aLH B P r N x Q n env' H') env H
theorem WPD.loop{x:DCode}{n:Nat}(h:aLH B P r N x Q n env H):WPD B P r N (.loop x) Q env H:=by
 intro c hc;cases c<;>simp only[eA]at hc
 case loop a =>
  split at hc
  ·rename_i dx ha
   simp only[oSI,DCode.loop.injEq]at hc;subst hc;intro F w act n0 T h1 h2 h3 h4 h5 h6
   let good:Nat→Act→World→Prop:=fun m a' w'=>∃ env' F' H',a'.tmps.size=N∧Ext F w H F' w' H'∧St F' w' H'∧RE F' w' env' a'∧Mk n0 T F' H' w' a'.defers∧aLH B P r N dx Q m env' H'
   have hex:∀ a' w',(∃ m,good m a' w')→∃ m,good m a' w'∧∀ k,good k a' w'→m≤k:=by
    intro a' w' ⟨m,hm⟩;induction m using Nat.strongRecOn with
    | _ m ih =>
      by_cases hk:∃ k,k<m∧good k a' w';·obtain⟨k,hk1,hk2⟩:=hk;grind
      grind
   let μ:Act→World→Nat:=fun a' w'=>open Classical in if h:∃ m,good m a' w' then (hex a' w' h).choose else 0
   have hμ:∀ a' w' (h:∃ m,good m a' w'),good (μ a' w') a' w'∧∀ k,good k a' w'→μ a' w'≤k:=fun a' w' h=>by
    have:μ a' w'=(hex a' w' h).choose:=by simp only[μ,AAq h]
    grind
   refine wpIn_loop (fun a' w'=>∃ m,good m a' w') μ ⟨n,env,F,H,h3,Ext.refl _ _ _,h4,h5,h6,h⟩ ?_;intro a1 w1 hg;obtain⟨env',F',H',k2,k3,k4,k5,k6,k7⟩:=(hμ a1 w1 hg).1;generalize hm:μ a1 w1=m at *;cases m with
   | zero =>
     refine wpIn_mono (k7 a ha F' w1 a1 n0 T (h1.step h4 k3) (I1 h2 k3.le) k2 k4 k5 k6) ?_;rintro e a2 w2 ⟨c,v,env2,F2,H2,rfl,j1,j2⟩;exact⟨c,v,env2,F2,H2,rfl,k3.trans j1,j2⟩
   | succ m =>
     refine wpIn_mono (k7 a ha F' w1 a1 n0 T (h1.step h4 k3) (I1 h2 k3.le) k2 k4 k5 k6) ?_;rintro e a2 w2 ⟨x,env2,F2,H2,l1,l2,l3,l4,l5,l6,rfl,l7⟩;cases e with
     | normal =>
       have hg':good m a2 w2:=⟨env2,F2,H2,l2,k3.trans l3,l4,l5,l6,l7⟩;exact⟨⟨m,hg'⟩,aD6 ((hμ a2 w2 ⟨m,hg'⟩).2 m hg') AT⟩
     | exit j=>simp at l1
     | ret=>simp at l1
     | goto l=>grind
     | panic c=>grind
     | outgrown=>grind
  ·simp at hc
 all_goals grind
theorem aMS(hB:B.Up F w)(st:St F w H)(re:RE F w env a){o:Oper}{f:Operand}{args:Array Operand}{ts:Array TypeId}{f':AO}{xs:List AO}
 (ho:o.op = .call { callee:=.value f,args:=args,argTypes:=ts }) (hf:co f=some f') (hx:coL args=some xs) {Qv:AV→Hp→Prop}
 (h:aRG B P (aK env f') (xs.map (aK env)) H Qv) {next:Act→World→Prop} {Qc:Exit→Act→World→Prop}
 (hn:∀ v c F' w' H',Ext F w H F' w' H'→St F' w' H'→Rv F' w' v c→Qv v H'→Qc (.panic (pnc c)) a w') :
 o.wpIn (FW r) 0 P a w next Qc:=by
 refine⟨sO r o,?_⟩;rw[Oper.semAt_eq _ _ _ (by grind)];have hfv:=bH re hf;obtain⟨vf,hvf⟩:∃ v,a.eval f=v:=⟨_,rfl⟩;rw[hvf]at hfv;have hargs:=aBD re hx;unfold aRG at h;split at h
 ·rename_i g first cap hev
  rw[hev]at hfv;cases hfv with
  | fn _ _ _ fv cv hl1 hl2 h1 h2 =>
    have hA:Args F w (first++xs.map (aK env)++cap) (fv++args.map a.eval++cv):=eS (eS ⟨hl1,h1⟩ hargs) ⟨hl2,h2⟩;have hc:=h.2 F w _ hB st hA;have hrun:(execOp a.eval o).run P w = .ok (.enter g (fv++args.map a.eval++cv)) w:=by
     simp only[execOp,ho,resolve,hvf,Deferred.ofValue,Sem.run_bind,Sem.run_pure,Result.andThen_ok,invoke];exact h.1 _ _
    rw[hrun,Oper.uponIn_enter];exact⟨fun h=>by simp[FW,Fence.wide]at h,CallsIn.mono hc (by rintro e w' ⟨c,v,F',H',rfl,h1,h2,h3,h4⟩;grind)⟩
 grind
theorem aOx{ops:Array Oper}{i:Nat}{d:DOper}(hr:Reads P ops i d)(hB:B.Up F w)(st:St F w H)(re:RE F w env a)(h:opP B P d Q env H){Kc:Act→World→Prop}{Qc:Exit→Act→World→Prop}
 (hK:∀ F' w' H' c v,Ext F w H F' w' H'→St F' w' H'→RE F' w' env a→Rv F' w' v c→Q v env H'→Qc (.panic (pnc c)) a w') :
 wpOpIn (FW r) 0 P ops Qc i Kc a w:=by
 obtain⟨o,ho,hdst,hguard,hop,hdef⟩:=hr.get;obtain⟨hg,h⟩:=h;unfold wpOpIn;simp only[ho];have hgd:Region.wanted o (yielded ops a.tmps)=true:=by
  unfold gd at hg;unfold Region.wanted;split at hguard;·grind
  ·rename_i j want hg2
   rw[hg2];obtain⟨g,h1,h2⟩:=hguard;rw[h2]at hg;simp only at hg;split at hg
   ·rename_i t ht
    have hrt:=re.rv g;rw[ht]at hrt;have hy:yielded ops a.tmps j=some t:=by
     unfold yielded;rw[h1];simp only[D8];cases hx:a.tmps[g]? with
     | none=>rw[E9,hx]at hrt;cases hrt
     | some x =>
       rw[E9,hx]at hrt;simp only[G3]at hrt;cases hrt;rfl
    grind
   all_goals grind
 rw[if_pos hgd];split at h
 ·rename_i f xs l hcf
  obtain⟨hnm,h⟩:=h;have hc0:cS P o=some (.callf false f xs []):=by
   rcases hop with h1|⟨n,p,x,l,h1,h2⟩|⟨q,f1,xs1,l1,h1,h2⟩
   ·rw[hcf]at h1
    unfold aAY at h1;cases hx:cS P o with
    | none=>grind
    | some y =>
      rw[hx]at h1;simp only[G3]at h1;subst h1;rcases mE hx rfl rfl with ⟨t,pa,xa,n',p',x',_,_,_,_,hh⟩|⟨t,m,k,xx,m',k',x',kt,e,_,_,_,_,_,⟨_,_,hh⟩|⟨_,hh⟩⟩|⟨_,_,_,_,hh⟩|⟨c,_,hh⟩;·simp at hh
      ·simp at hh
      ·simp at hh
      ·simp at hh
      ·rcases wH hh rfl with ⟨_,_,_,_,_,_,_,_,_,_,_,_,_,_,_,hh⟩|⟨_,_,_,_,_,_,hh⟩|⟨_,_,_,_,_,hh⟩
       all_goals grind
   ·grind
   ·rw[hcf]at h2
    simp only[DOp.callf.injEq]at h2;obtain⟨rfl,rfl,rfl,rfl⟩:=h2;unfold aAY at h1;cases hx:cS P o with
    | none=>grind
    | some y=>grind
  obtain⟨dst,oo,ty,pos,after,guard⟩:=o;rcases mE hc0 rfl rfl with ⟨t,pa,xa,n',p',x',_,_,_,_,hh⟩|⟨t,m,k,xx,m',k',x',kt,e,_,_,_,_,_,⟨_,_,hh⟩|⟨_,hh⟩⟩|⟨_,_,_,_,hh⟩|⟨c,hoo,hcc⟩;·simp at hh
  ·simp at hh
  ·simp at hh
  ·simp at hh
  ·simp only at hoo
   subst hoo;rcases wH hcc rfl with ⟨_,_,_,_,_,_,_,_,_,_,_,_,_,_,_,hh⟩|⟨f0,f',xs',e1,g1,g2,hh⟩|⟨k,name,xs',e1,g2,hh⟩;·simp at hh
   ·simp only[DOp.callf.injEq]at hh
    obtain⟨_,rfl,rfl,_⟩:=hh;obtain⟨callee,args,argTypes⟩:=c;simp only at e1;subst e1;refine aMS hB st re rfl g1 g2 h ?_;intro v c F' w' H' k1 k2 k3 k4;exact hK F' w' H' c v k1 k2 (re.up (k1.up st)) k3 k4
   grind
 grind
theorem aHU{ops:Array Oper}{Qc:Exit→Act→World→Prop}:∀(l:List DOper)(i:Nat),(∀ j d,l[j]?=some d→Reads P ops (i+j) d)→(∀ d∈l,aFT N d) →
 ∀(F:Nat→Prop)(w:World)(H:Hp)(env:aI)(a:Act),a.tmps.size=N→B.Up F w→St F w H→RE F w env a→RSP B P l Q env H →
   (∀ a' env' F' w' H' c v,a'.defers=a.defers→Ext F w H F' w' H'→St F' w' H'→RE F' w' env' a'→Rv F' w' v c→Q v env' H'→Qc (.panic (pnc c)) a' w') →
 wpOpsIn (FW r) 0 P ops Qc (List.range' i l.length) a w:=by
 intro l;induction l with
 | nil=>intro i _ _ F w H env a hsz hB st re h;exact h.elim
 | cons d l ih =>
   intro i hr hd F w H env a hsz hB st re h hQ;rw[D5,aA9,wpOpsIn_cons];rcases h with h|h;·exact aOx (hr 0 d rfl) hB st re h fun F' w' H' c v k1 k2 k3 k4 k5=>hQ a env F' w' H' c v rfl k1 k2 k3 k4 k5
   ·refine aCT (hr 0 d rfl) (hd d (by simp)).2 (hd d (by simp)).1 hsz hB st re h ?_
    intro a' F' w' env' H' h1 h2 h3 h4 h5 h6;refine ih (i+1) (fun j d' hj=>by have:=hr (j+1) d' (by grind);grind) (fun d' hd'=>hd d' (by simp[hd'])) F' w' H' env' a' h1 (hB.step st h3) h4 h5 h6 ?_;intro a2 env2 F2 w2 H2 c v k0 k1 k2 k3 k4 k5;exact hQ a2 env2 F2 w2 H2 c v (k0.trans h2) (h3.trans k1) k2 k3 k4 k5
theorem WPD.reg{l:List DOper}(hcm:∀ o∈l,o.op.isComm=false)(h:RSP B P l Q env H):WPD B P r N (.reg false l) Q env H:=by
 intro c hc;cases c<;>simp only[eA]at hc
 case region id ops d =>
  split at hc
  ·rename_i l' hl
   simp only[oSI,DCode.reg.injEq]at hc;obtain⟨rfl,rfl⟩:=hc;unfold wX at hl;split at hl;·simp at hl
   ·rename_i l0 hl0
    obtain⟨hlen,hreads⟩:=wW hl0;split at hl;·simp at hl
    ·rename_i hdst
     simp only[J9,aE2]at hdst;simp only[C8,AAd,oSI]at hl;subst hl;intro F w act n0 T h1 h2 h3 h4 h5 h6;refine wpIn_region ?_;rw[←hlen,aA4];refine aHU l0 0 (fun j d hj=>by grind) (fun d hd=>⟨aEn hdst d hd,hcm d hd⟩) F w H env act h3 h1 h4 h5 h ?_;intro a' env' F' w' H' c v k0 k1 k2 k3 k4 k5;exact⟨c,v,env',F',H',rfl,k1,k2,k3,k4,by rw[k0];exact h6.ext k1,k5⟩
  ·simp at hc
 all_goals grind
theorem aEX{fn:Func}{tmps:Array Value}{n0:Nat}{F0:Nat→Prop}{w0:World}{H0:Hp}{R:Ending→World→Prop}{c:Value}{v:AV}(hn0:w0.heap.size≤n0)
 (hT:∀ w,Ext F0 w0 H0 F w H→St F w H→Rv F w v c→R (.panicked (pnc c)) w) :
 ∀(ms:List Deferred)(w:World),Ext F0 w0 H0 F w H→St F w H→Rv F w v c→ms.Nodup→(∀ d∈ms,Mk1 n0 F H w d)→LeavesInM Fence.wide 0 P fn tmps R ms (.panicking (pnc c)) w:=by
 intro ms;induction ms with
 | nil=>intro w he st hu _ _;exact hT w he st hu
 | cons d ds ih =>
   intro w he st hu hnd hm;obtain⟨D,rfl,h2,h3,h4,h5⟩:=hm d (by simp);obtain⟨k1,k2,k3⟩:=zF (n0:=0) (x:=none) he st (I1 hn0 h2) h3 h4 h5;have hnd:=J5.1 hnd;refine⟨by simp,.inl ⟨D,_,rfl,run_takeDeferred h3,ih _ k1 k2 (hu.up k3) hnd.2 fun d' hd'=>?_⟩⟩;obtain⟨D',rfl,l2,l3,l4,l5⟩:=hm d' (by simp[hd']);refine⟨D',rfl,l2,?_,l4,l5⟩
   grind [World.putObj_heap_other]
theorem FnP.of{f:FuncId}{d:DFn}{as:List AV}{Qv:AV→Hp→Prop}(hf:aUJ P f d)(hN:as.length≤d.N)(hdf:d.dfr=none)(h:WPD B P none d.N d.body (fun v _ H'=>Qv v H') (aT as) H):FnP B P f as H Qv:=by
 refine⟨hf.call,fun F w vs hB st hA=>?_⟩;obtain⟨fn,c,h1,h2,h3,h4,h5⟩:=hf.code;have hsz:(vs++Array.replicate (fn.ntmps-vs.size) undef).size=d.N:=by
  have:=hA.1
  grind
 have hre:=aCD (N:=d.N) (nt:=fn.ntmps-vs.size) hB hA;rw[hdf]at h5;have h5':eA P d.N c=some d.body:=by
  simp only[aIH,B2,B9]at h5
  grind
 refine callsIn_of_wp_marks h1 h2 trivial (wpIn_mono (h c h5' F w { tmps:=vs++Array.replicate (fn.ntmps-vs.size) undef,defers:=[] } w.heap.size [] hB (B5 _) hsz st hre Mk.nil) ?_);rintro e a' w' ⟨cv,v,env',F',H',rfl,k2,k3,k4,k5,k6,k7⟩;obtain⟨ms,e1,e2,e3⟩:=k6.ex;rw[J1]at e1;show LeavesInM Fence.wide 0 P fn a'.tmps (aLG F w H Qv) a'.defers (.panicking (pnc cv)) w';rw[e1];exact aEX (B5 _) (fun w'' he st' rv'=>⟨cv,v,F',H',rfl,he,st',rv',k7⟩) ms w' k2 k3 k5 e2 e3
variable{P:Program}{B:Base}{F:Nat→Prop}{w:World}{H:Hp}{env:aI}{a:Act}
def aFM(z:DOper):Bool:=z.op.kind==7&&z.guard.isNone
def sD(post:List DOper):List Nat:=(post.filter aFM).filterMap (·.dst)
def aBG(ds:List Nat)(e:aI):aI:=fun j=>if ds.contains j then .any else e j
def aEr(y:DOper):List DOper→Bool
 | []=>true
 | x::r=>aEr y r&&(r++[y]).any fun z => !qI x z
def aBC:List DOper→List DOper→Bool
 | _,[]=>true
 | prev,z::r=>if aFM z then aBC prev r else (prev.any fun x => !qI x z)&&aBC (z::prev) r
def aIb(pre:List DOper)(y:DOper)(post:List DOper):Bool:=aEr y pre&&(aBC [y] post&&pre.all fun x=>match x.dst with
 | some d => !(sD post).contains d
 | none=>true)
theorem aKz{d:Option Nat}{u:AV}{j:Nat}(h:d≠some j):aX env d u j=env j:=by
 cases d with
 | none=>rfl
 | some k=>simp only[aX,upd];grind
theorem aMr{o:DOper}{K:aI→Hp→Prop}(h:opW B P o K env H):opW B P o (fun env' H'=>K env' H'∧∀ j,o.dst≠some j→env' j=env j) env H:=by
 have g:∀(u:AV)(H':Hp),K (aX env o.dst u) H'→K (aX env o.dst u) H'∧∀ j,o.dst≠some j→aX env o.dst u j=env j:=fun u H' hk=>⟨hk,fun j hj=>aKz hj⟩;unfold opW at *;split at h
 ·revert h
  generalize o.op=op;intro h;cases op
  case store n p x l=>exact cP (fun H' hK=>g _ _ hK) h
  case copy s x y=>exact cP (fun r hK=>g _ _ hK) h
  case mapup q m k x=>exact cP (fun H' hK=>g _ _ hK) h
  case nxts x=>exact cP (fun r hK=>g _ _ hK) h
  case callf q f xs l =>
   cases q with
   | true=>obtain⟨v,h1,h2⟩:=h;exact⟨v,h1,g _ _ h2⟩
   | false=>exact CallV.mono h fun v H' hq=>g _ _ hq
  all_goals
   rw[uF rfl]at h ⊢;refine cP (fun e he=>?_) h;unfold gQ at *;split;·exact g _ _ he
   ·exact fun b hb=>g _ _ (he b hb)
 all_goals grind
theorem aQr{z:DOper}(hz:aFM z=true)(hd:∀ d,z.dst=some d→env d = .any):opW B P z (fun env' H'=>Shift env' H' env H) env H:=by
 simp only[aFM,B4,beq_iff_eq,Option.isNone_iff_eq_none]at hz;obtain⟨x,f,hx⟩:=aBX hz.1;have hg:gd z env=some true:=by unfold gd;rw[hz.2]
 unfold opW;rw[hg];simp only;rw[uF (mD (.inr hz.1)),hx,optW_some];intro b hb;simp only[reduceCtorEq,AAh]at hb;have h1:Shift (aX env z.dst (f b)) (hset H b x) env (hset H b x):=fun F w a st re=>⟨F,Ext.refl _ _ _,st,fun k=>by
  have:=re.rv k;by_cases hk:z.dst=some k;·rw[hd k hk];exact .any _
  grind [aKz],re.gi⟩
 refine h1.trans (Shift.forget fun c y hc=>?_)
 grind [aL]
theorem aNF{ops:Array Oper}{listed:Array Bool}(hc:∀ i,listed.getD i false=true→∀ m∈(ops.toList.map cJ).getD i [],listed.getD m false=true){x z:DOper}
 (hp:aCd (kP (ops.toList.map cJ)) x z) (hs:qI x z=false) (hz:∀ m∈(ops.toList.map cJ).getD z.ix [],listed.getD m false=true):listed.getD x.ix false=true:=by
 rcases hp with hp|hp;·exact qW _ (fun i=>listed.getD i false=true) hc z.ix x.ix hz hp
 grind
theorem aAZ{ops:Array Oper}{listed:Array Bool}{y:DOper}{post:List DOper}(hc:∀ i,listed.getD i false=true→∀ m∈(ops.toList.map cJ).getD i [],listed.getD m false=true)
 (hy:∀ m∈(ops.toList.map cJ).getD y.ix [],listed.getD m false=true) :
 ∀(pre:List DOper),(pre++y::post).Pairwise (aCd (kP (ops.toList.map cJ)))→aEr y pre=true→∀ x∈pre,listed.getD x.ix false=true
 | [],_,_,x,hx=>by simp at hx
 | x0::r,hp,hch,x,hx=>by
   simp only[aEr,B4]at hch;rw[J3]at hp;obtain⟨hp1,hp2⟩:=aD7.1 hp;have ih:=aAZ hc hy r hp2 hch.1;rcases C3.1 hx with rfl|hx
   ·obtain⟨z,hz,hsw⟩:=List.any_eq_true.1 hch.2
    simp only[J9]at hsw;rcases C7.1 hz with hz|hz;·exact aNF hc (hp1 z (by simp[hz])) hsw (hc z.ix (ih z hz))
    ·simp only[D1]at hz
     subst hz;exact aNF hc (hp1 z (by simp)) hsw hy
   grind
theorem uH{ops:Array Oper}{listed:Array Bool}{y:DOper}(hc:∀ i,listed.getD i false=true→∀ m∈(ops.toList.map cJ).getD i [],listed.getD m false=true) :
 ∀(post prev:List DOper),(∀ x∈prev,∀ z∈post,aCd (kP (ops.toList.map cJ)) x z)→post.Pairwise (aCd (kP (ops.toList.map cJ)))→aBC prev post=true →
   (∀ x∈prev,listed.getD x.ix false=true→listed.getD y.ix false=true)→∀ z∈post,aFM z=false→(∀ m∈(ops.toList.map cJ).getD z.ix [],listed.getD m false=true)→listed.getD y.ix false=true
 | [],_,_,_,_,_,z,hz,_,_=>by simp at hz
 | z0::r,prev,hpr,hpw,hch,hyes,z,hz,hf,hm=>by
   obtain⟨hp1,hp2⟩:=aD7.1 hpw;simp only[aBC]at hch;split at hch
   ·rename_i hf0
    rcases C3.1 hz with rfl|hz;·rw[hf0]at hf;cases hf
    ·exact uH hc r prev (fun x hx u hu=>hpr x hx u (by simp[hu])) hp2 hch hyes z hz hf hm
   ·simp only[B4]at hch
    have one:(∀ m∈(ops.toList.map cJ).getD z0.ix [],listed.getD m false=true)→listed.getD y.ix false=true:=fun hm=>by
     obtain⟨x,hx,hsw⟩:=List.any_eq_true.1 hch.1;simp only[J9]at hsw;exact hyes x hx (aNF hc (hpr x hx z0 (by simp)) hsw hm)
    rcases C3.1 hz with rfl|hz;·exact one hm
    ·refine uH hc r (z0::prev) (fun x hx u hu=>?_) hp2 hch.2 (fun x hx hl=>?_) z hz hf hm
     ·rcases C3.1 hx with rfl|hx
      ·exact hp1 u hu
      ·exact hpr x hx u (by simp[hu])
     ·rcases C3.1 hx with rfl|hx
      ·exact one (hc _ hl)
      ·exact hyes x hx hl
theorem Drawn.drop{N:Nat}{ops:Array Oper}{p1 p2:List DOper}{z:DOper}{listed:Array Bool}(hd:Drawn P N ops (p1++z::p2) listed)(hlt:z.ix<ops.size)(h2:∀ m∈(ops.toList.map cJ).getD z.ix [],listed.getD m false=true) :
 (∀ x∈p1++p2,x.ix≠z.ix)∧Drawn P N ops (p1++p2) (listed.setIfInBounds z.ix true):=by
 have hsub:(p1++p2).Sublist (p1++z::p2):=O2 (O8 _ _) _;have hnd:∀ x∈p1++p2,x.ix≠z.ix:=by
  intro x hx e;have hn:=hd.nodup
  grind
 refine⟨hnd,fun x hx=>hd.reads x (hsub.mem hx),fun x hx=>?_,fun j hj=>?_,hd.nodup.sublist (hsub.map _),hd.pairs.sublist hsub,fun j hj m hm=>?_,by simp[hd.size]⟩;·rw[getD_set_ne true (Ne.symm (hnd x hx))];exact hd.open_ x (hsub.mem hx)
 ·by_cases hjy:j=z.ix
  ·simp_all
  ·rw[getD_set_ne true (Ne.symm hjy)]at hj
   obtain⟨x,hx,hxj⟩:=hd.all j hj
   grind
 ·by_cases hjy:j=z.ix
  ·grind [getD_set_true]
  ·rw[getD_set_ne false (Ne.symm hjy)]at hj
   exact getD_set_true (hd.closed j hj m hm)
theorem aHV{ops:Array Oper}{r:Option Nat}{N:Nat}{Q:QP}{Qc:Exit→Act→World→Prop}(ha:yB (ops.toList.map cJ)=true){y:DOper}{post0 pre0:List DOper}
 (hp0:(pre0++y::post0).Pairwise (aCd (kP (ops.toList.map cJ)))) (hB0:aEr y pre0=true) (hA0:aBC [y] post0=true) (hF0:∀ x∈pre0,∀ d,x.dst=some d→d∉sD post0) :
 ∀(fuel:Nat)(pre post:List DOper)(listed:Array Bool)(F:Nat→Prop)(w:World)(H:Hp)(env:aI)(a:Act)(L:Log),(pre++y::post).length≤fuel→pre.Sublist pre0→post.Sublist post0→Drawn P N ops (pre++y::post) listed→(∀ o∈pre,L o.ix=none) →
   (∀ d∈sD post0,env d = .any)→a.tmps.size=N→B.Up F w→St F w H→RE F w env a→RD B P pre (fun env H=>opP B P y Q env H) env H L →
   (∀ a' env' F' w' H' c v,a'.defers=a.defers→Ext F w H F' w' H'→St F' w' H'→RE F' w' env' a'→Rv F' w' v c→Q v env' H'→Qc (.panic (pnc c)) a' w')→wpAnyIn (FW r) 0 P .any ops Qc fuel listed a w:=by
 intro fuel;induction fuel with
 | zero=>grind
 | succ fuel ih =>
   intro pre post listed F w H env a L hl hsub0 hsub1 hd hL hE hsz hB st re h hQ;refine⟨fun hr=>absurd hr (hd.ready_ne ha (by simp)),fun i hi=>?_⟩;obtain⟨h1,hlt,h2⟩:=tO.1 hi;obtain⟨z,hz,rfl⟩:=hd.all i h1;have shut:∀ x∈pre++y::post,listed.getD x.ix false=true→False:=fun x hx hl=>by
    have hx':=hd.open_ x hx
    grind
   by_cases hzp:z∈pre
   ·obtain⟨p1,p2,rfl⟩:=aD5 hzp
    have hd':Drawn P N ops (p1++z::(p2++y::post)) listed:=by grind
    have hsw:∀ x∈p1,qI x z=true:=fun x hx=>by
     have hp:=(aC2.1 hd'.pairs).2.2 x hx z (by simp);rcases hp with hp|hp
     ·exfalso
      exact shut x (by simp[hx]) (qW _ (fun i=>listed.getD i false=true) hd.closed z.ix x.ix h2 hp)
     ·exact hp
    have hndp:((p1++z::p2).map (·.ix)).Nodup:=by
     have:=hd.nodup
     grind
    have hp:=aZf p1 env H L st.fin hsw hndp hL h;refine aCT (hd.reads z hz).1 (hd.reads z hz).2.2 (hd.reads z hz).2.1 hsz hB st re (aMr (aKT hp)) ?_;rintro a' F' w' env' H' k1 k2 k3 k4 k5 ⟨⟨L',k6,k7⟩,k8⟩;have hsub:(p1++p2).Sublist (p1++z::p2):=O2 (O8 _ _) _;obtain⟨hnd,hdn⟩:=hd'.drop hlt h2
    refine ih (p1++p2) post _ F' w' H' env' a' L' (by simp at hl ⊢;omega) (hsub.trans hsub0) hsub1 (by grind)
     (fun x hx=>by grind)
     (fun d hdd=>by grind) k1 (hB.step st k3) k4 k5 k7 (fun a2 env2 F2 w2 H2 c v m0 m1 m2 m3 m4 m5=>hQ a2 env2 F2 w2 H2 c v (m0.trans k2) (k3.trans m1) m2 m3 m4 m5)
   ·rcases C7.1 hz with hz'|hz'
    ·grind
    ·rcases C3.1 hz' with rfl|hz'
     ·have hall:=aAZ hd.closed h2 pre0 hp0 hB0
      have hnil:pre=[]:=by
       cases pre with
       | nil=>rfl
       | cons x pr=>exact(shut x (by simp) (hall x (hsub0.mem (by simp)))).elim
      subst hnil;exact aOx (hd.reads z hz).1 hB st re h fun F' w' H' c v k1 k2 k3 k4 k5=>hQ a env F' w' H' c v rfl k1 k2 k3 k4 k5
     ·cases hfz:aFM z with
      | true =>
        obtain⟨p1,p2,rfl⟩:=aD5 hz';have hd':Drawn P N ops ((pre++y::p1)++z::p2) listed:=by grind
        have hzd:∀ d,z.dst=some d→env d = .any:=fun d hdz=>hE d (by
         unfold sD
         grind)
        refine aCT (hd.reads z hz).1 (hd.reads z hz).2.2 (hd.reads z hz).2.1 hsz hB st re (aQr hfz hzd) ?_;intro a' F' w' env' H' k1 k2 k3 k4 k5 k6;obtain⟨F2,m1,m2,m3⟩:=k6 F' w' a' k4 k5;obtain⟨hnd,hdn⟩:=hd'.drop hlt h2;have hsub:(p1++p2).Sublist (p1++z::p2):=O2 (O8 _ _) _;have he:=k3.trans m1;exact ih pre (p1++p2) _ F2 w' H env a' L (by grind) hsub0 (hsub.trans hsub1) (by grind) hL hE k1 (hB.step st he) m2 m3 h (fun a2 env2 F3 w2 H2 c v n0 n1 n2 n3 n4 n5=>hQ a2 env2 F3 w2 H2 c v (n0.trans k2) (he.trans n1) n2 n3 n4 n5)
      | false =>
        exfalso;obtain⟨_,hp2,_⟩:=aC2.1 hp0;obtain⟨hp3,hp4⟩:=aD7.1 hp2;refine shut y (by simp) (uH hd.closed post0 [y] (fun x hx u hu=>?_) hp4 hA0 (fun x hx hlx=>?_) z (hsub1.mem hz') hfz h2);all_goals grind
variable{r:Option Nat}{N:Nat}{Q:QP}
theorem WPD.regD{pre post:List DOper}{y:DOper}(hm:P.follows .mixedOrders=true)(hch:aIb pre y post=true)(h:RD B P pre (fun env H=>opP B P y Q env H) (aBG (sD post) env) H noL):WPD B P r N (.reg true (pre++y::post)) Q env H:=by
 intro c hc;cases c<;>simp only[eA]at hc
 case region id ops d =>
  split at hc
  ·rename_i l' hl
   simp only[oSI,DCode.reg.injEq]at hc;obtain⟨rfl,rfl⟩:=hc;simp only[aIb,B4]at hch;have hF:∀ x∈pre,∀ d,x.dst=some d→d∉sD post:=fun x hx d hd hmem=>by
    grind
   obtain⟨c1,c2,c3,c4,c5,c6⟩:=aBZ hl;intro F w act n0 T h1 h2 h3 h4 h5 h6;refine wpIn_region_any hm ?_;have hlist:∀ i,(Array.replicate ops.size false).getD i true=false↔i<ops.size:=fun i=>by
    by_cases h:i<ops.size<;>simp[h]
   refine aHV c2 (lD c3) hch.1 hch.2.1 hF ops.size pre post _ F w.drew H (aBG (sD post) env) act noL AT (List.Sublist.refl _) (List.Sublist.refl _) ⟨c1,fun y hy=>?_,fun i hi=>?_,aAJ c5,lD c3,fun i hi=>?_,by simp⟩ (fun _ _=>rfl) (fun d hd=>by simp[aBG,hd]) h3
    (h1.step h4 (iN F w H)) (aAh h4) ⟨fun k=>by
     have:=(h5.up ((iN F w H).up h4)).rv k;simp only[aBG];split;·exact .any _
     omega,(h5.up ((iN F w H).up h4)).gi⟩ h ?_
   ·obtain⟨o,ho,_⟩:=(c1 y hy).1.get
    grind
   ·grind
   ·grind
   ·intro a' env' F' w' H' c v k0 k1 k2 k3 k4 k5
    exact⟨c,v,env',F',H',rfl,(iN F w H).trans k1,k2,k3,k4,by rw[k0];exact h6.ext ((iN F w H).trans k1),k5⟩
  ·simp at hc
 all_goals grind
theorem WPD.shift{env':aI}{H':Hp}{c:DCode}(hs:Shift env H env' H')(h:WPD B P r N c Q env' H'):WPD B P r N c Q env H:=by
 intro c hc F w act n0 T h1 h2 h3 h4 h5 h6;obtain⟨F',k1,k2,k3⟩:=hs F w act h4 h5;refine wpIn_mono (h c hc F' w act n0 T (h1.step h4 k1) h2 h3 k2 k3 (h6.ext k1)) ?_
 grind [LandP.step]
theorem LandP.mono{n0:Nat}{T:List Deferred}{Q':QP}(hq:∀ v e H',Q v e H'→Q' v e H'){e:Exit}{a':Act}{w':World}(h:LandP n0 T F w H Q e a' w'):LandP n0 T F w H Q' e a' w':=by
 obtain⟨c,v,env',F',H',h1,h2,h3,h4,h5,h6,h7⟩:=h;exact⟨c,v,env',F',H',h1,h2,h3,h4,h5,h6,hq _ _ _ h7⟩
theorem WPD.mono{c:DCode}{Q':QP}(hq:∀ v e H',Q v e H'→Q' v e H')(h:WPD B P r N c Q env H):WPD B P r N c Q' env H :=
 fun c hc F w act n0 T h1 h2 h3 h4 h5 h6=>wpIn_mono (h c hc F w act n0 T h1 h2 h3 h4 h5 h6) fun _ _ _=>LandP.mono hq
abbrev aIT:=Nat→List AV→XH→Option (AV×XH)
def aXH(runP:aIT)(fv:AV)(as:List AV)(h:XH):Option (AV×XH):=match fv with
 | .fn (.func g) first cap=>aEw runP g (first++as++cap) h (kJ g)
 | _=>none
def xP:AO→Bool
 | .meth _ _=>false
 | _=>true
def aZu(runP:aIT)(op:DOp)(e:aI)(h:XH):Option (AV×aI×XH):=match op with
 | .callf false f xs _=>if xP f then (aXH runP (aK e f) (xs.map (aK e)) h).map fun q=>(q.1,e,q.2) else none
 | _=>none
def aNk(run:eC)(runY:eT)(runP:aIT):List DOper→aI→XH→Option (AV×aI×XH)
 | [],_,_=>none
 | o::r,e,h=>match gd o e with
   | some true=>match cV run runY o.dst o.op e h with
     | some s=>aNk run runY runP r s.1 s.2
     | none=>aZu runP o.op e h
   | some false=>aNk run runY runP r (aX e o.dst (.tup [])) h
   | none=>none
def aNl(run:eC)(runY:eT)(runP:aIT)(e:aI)(h:XH):List DOper→List DOper→Option (AV×aI×XH)
 | _,[]=>none
 | pre,y::post=>match (if y.op.kind=6∧aIb pre y post=true then match fB run runY pre (aBG (sD post) e) h []with
    | some s=>match gd y s.1 with
      | some true=>aZu runP y.op s.1 s.2
      | _=>none
    | none=>none
    else none)with
   | some q=>some q
   | none=>aNl run runY runP e h (pre++[y]) post
def aVA(step:aI→XH→Option (DX×aI×XH))(stepP:aI→XH→Option (AV×aI×XH))(k:Nat)(L:List Nat):Nat→aI→XH→Option (AV×aI×XH)
 | 0,_,_=>none
 | n+1,e,h=>match step (pO k L e h) (lK k L e h)with
   | some (.normal,e',h')=>aVA step stepP k L n e' h'
   | some _=>none
   | none=>stepP (pO k L e h) (lK k L e h)
def aBW(run:eC)(runY:eT)(runP:aIT)(K k n:Nat)(rd:Option Nat):XCode→aI→XH→Option (AV×aI×XH)
 | .reg fz true ops,e,h=>aNl run runY runP (fzX fz e h).1 (fzX fz e h).2 [] ops
 | .reg fz false ops,e,h=>if ops.any (fun o=>o.op.isComm) then none else aNk run runY runP ops (fzX fz e h).1 (fzX fz e h).2
 | .seq a b,e,h=>match aZ run runY K k n rd a e h with
   | some (.normal,e',h')=>aBW run runY runP K k n rd b e' h'
   | some _=>none
   | none=>aBW run runY runP K k n rd a e h
 | .cond c a b,e,h=>match aK e c with
   | .bool true=>aBW run runY runP K k n rd a e h
   | .bool false=>aBW run runY runP K k n rd b e h
   | _=>none
 | .block _ a,e,h=>aBW run runY runP K k n rd a e h
 | .loop L a,e,h=>aVA (aZ run runY K k n rd a) (aBW run runY runP K k n rd a) k L n e h
 | .scope a,e,h=>aBW run runY runP K k n rd a e h
 | _,_,_=>none
structure aIS where
 N:Nat
 res:List (Nat×Option (Bool×Nat))
 pre:List DOper
 cell:Nat
 fn:Nat
 body:XCode
 ty:TypeId
 zero:AV
 hops:List DOper
 is:Nat
 hlast:List DOper
def aOG(i:aIS)(k:Nat)(e:aI)(h:XH):Option (AV×XH):=(iZ i.res e (aG h)).map fun v=>nV false k v h
def aBU(cell v:AV)(t:Bool):aI:=fun j=>if j=0 then cell else if j=5 then .tup [v,.bool t] else .any
def uU(i:aIS)(run:eC)(runY:eT)(cell v:AV)(t:Bool)(h:XH):Option XH:=match eU run runY i.hops (aBU cell v t) h with
 | some (e1,h1)=>match e1 i.is with
   | .bool true=>(eU run runY i.hlast e1 h1).map (·.2)
   | .bool false=>some h1
   | _=>none
 | none=>none
def bCS(i:aIS)(run:eC)(runY:eT)(runP:aIT)(K n:Nat)(as:List AV)(h:XH):Option (AV×XH):=if as.length≤i.N then
 match eU run runY i.pre (aT (kQ as)) h with
 | some (e1,h1)=>match e1 i.cell with
   | .pt c o=>if c<h1.length then
     match aZ run runY K h1.length n none i.body (upd e1 i.fn .any) h1 with
     | some (.exit _,_,_)=>none
     | some (_,e2,h2)=>(uU i run runY (.pt c o) i.zero false h2).bind (aOG i h.length e2)
     | none=>match aBW run runY runP K h1.length n none i.body (upd e1 i.fn .any) h1 with
       | some (.ifc t v,e2,h2)=>if t=i.ty then (uU i run runY (.pt c o) v true h2).bind (aOG i h.length e2) else none
       | _=>none
     else none
   | _=>none
 | none=>none
 else none
section
variable{P:Program}{B:Base}{D:Nat→Option XFn}{Y:Nat→Option YI}{r:Nat→Option Nat}{e env:aI}{h:XH}{H:Hp}
def bFq(P:Program)(B:Base)(D:Nat→Option XFn)(Y:Nat→Option YI)(runP:aIT):Prop :=
 ∀(r:Nat→Option Nat)(h:XH)(H:Hp)(K:Nat)(as as':List AV)(v:AV)(h':XH),SH D Y r h H→RnL D Y r as as'→runP K as h=some (v,h')→FnP B P K as' H (eO D Y r v h')
theorem aFx{F:Nat→Prop}{w:World}{Q:AV→Hp→Prop}{e:Ending}{w':World}:aLG F w H Q e w'↔∃ c,e = .panicked (pnc c)∧xG F w H Q (.returned c) w':=by
 simp[aLG,xG]
theorem FnP.mono{f:FuncId}{as:List AV}{Q Q':AV→Hp→Prop}(hq:∀ v H',Q v H'→Q' v H')(hp:FnP B P f as H Q):FnP B P f as H Q' :=
 ⟨hp.1,fun F w vs h1 h2 h3=>(hp.2 F w vs h1 h2 h3).mono fun e w' ⟨c,v,F',H',k1,k2,k3,k4,k5⟩=>⟨c,v,F',H',k1,k2,k3,k4,hq _ _ k5⟩⟩
theorem FnP.frameS{f:FuncId}{as:List AV}{Q:AV→Hp→Prop}(S:Nat→Prop)[DecidablePred S](hp:FnP B P f as (fun c=>if S c then H c else none) Q) :
 FnP B P f as H fun v H''=>∃ H',Q v H'∧(∀ c,S c∨H c=none→H'' c=H' c)∧(∀ c,¬S c→∀ x,H c=some x→H'' c=some x∧H' c=none):=by
 refine⟨hp.1,fun F w vs h1 h2 h3=>(hp.2 F w vs h1 ?_ h3).mono fun e w' hw0=>?_⟩
 ·exact h2.forget fun c x hc=>by
   grind
 ·obtain⟨c,rfl,hw1⟩:=aFx.1 hw0
  exact aFx.2 ⟨c,rfl,aBQ S h2 _ _ hw1⟩
def bBP(D:Nat→Option XFn)(Y:Nat→Option YI)(r:Nat→Option Nat)(v:AV)(e:aI)(h:XH)(Q:QP):Prop:=∀ r' v' env' H',Sub r r'→SR D Y r' e h env' H'→Rn D Y r' v v'→Q v' env' H'
def bBQ(D:Nat→Option XFn)(Y:Nat→Option YI)(k:Nat)(r:Nat→Option Nat)(v:AV)(e:aI)(h:XH)(Q:QP):Prop:=∀ r' v' env' H',Agree k r r'→SR D Y r' e h env' H'→Rn D Y r' v v'→Q v' env' H'
theorem FnP.nz{f:FuncId}{as:List AV}{Q:AV→Hp→Prop}(h:FnP B P f (kQ as) H Q):FnP B P f as H Q:=⟨h.1,fun F w vs h1 h2 h3=>h.2 F w vs h1 h2 h3.nz⟩
def aLE(P:Program)(D:Nat→Option XFn)(i:aIS)(K:Nat):Prop :=
 ∀(run:eC)(runY:eT)(runP:aIT)(n:Nat),(∀(B:Base)(Y:Nat→Option YI),YOk P B D Y→FnS P B D Y run∧YS P B D Y runY)→(∀(B:Base)(Y:Nat→Option YI),YOk P B D Y→bFq P B D Y runP) →
   ∀(B:Base)(Y:Nat→Option YI),YOk P B D Y→∀(r:Nat→Option Nat)(h:XH)(H:Hp)(as as':List AV)(v:AV)(h':XH),SH D Y r h H→RnL D Y r as as'→bCS i run runY runP K n as h=some (v,h')→FnW B P K as' H (eO D Y r v h')
end
variable{P:Program}{B:Base}{F:Nat→Prop}{w:World}{H:Hp}{env:aI}{a:Act}
theorem aEG{Fe:Fence}{n:Nat}{id:Nat}{ops:Array Oper}{Q:Exit→Act→List Frame→World→Prop}{cs:List Frame}{o:Oper}(ho:ops[0]?=some o)
 (hg:o.guard=none) (hab:∀ f,o.about P w a.eval=some f→Fe.fn f) (hr:(execOp a.eval o).run P w = .ok .recover w) (hro:Fe.round=none)
 (h:match recoverD cs with
  | some (v,cs')=>wpOpsIn Fe n P ops (fun e a w=>Q e a cs' w) (List.range' 1 (ops.size-1)) (a.put o.dst v) w
  | none=>wpOpsIn Fe n P ops (fun e a w=>Q e a cs w) (List.range' 1 (ops.size-1)) (a.put o.dst .nilIface) w) :
 (Code.region id ops false).wpSIn Fe n P Q a cs w:=by
 intro b k hb hrd hF hroom;have hsz:0<ops.size:=(F8.1 ho).1;have hrange:List.range ops.size=0::List.range' 1 (ops.size-1):=by
  rw[aA4];obtain⟨m,hm⟩:∃ m,ops.size=m+1:=⟨ops.size-1,by omega⟩;rw[hm,aA9];simp
 have i0:(lone (b.atR a (.code (.region id ops false)::k)) cs w).fenced P Fe:=fenced_calm hF hroom rfl;have s0:=stepR_region (P:=P) (b:=b) (a:=a) (k:=k) (cs:=cs) (w:=w) (id:=id) (ops:=ops);rw[hrange]at s0;have hw:Region.wanted o (yielded ops a.tmps)=true:=by unfold Region.wanted;rw[hg]
 have h0:(lone (b.atR a (.inRegion ops (0::List.range' 1 (ops.size-1))::k)) cs w).fenced P Fe:=fenced_oper hF hroom ho hab;have hgg:=stepGR_op (P:=P) (b:=b) (k:=k) (cs:=cs) (w:=w) (rest:=List.range' 1 (ops.size-1)) ho hw;rw[hrd,Oper.semAt_none]at hgg;have hfin:∀ v,(b.atR a (.inRegion ops (0::List.range' 1 (ops.size-1))::k)).finish v=b.atR (a.put o.dst v) (.inRegion ops (List.range' 1 (ops.size-1))::k):=by
  intro v;rw[Frame.finish_atR,ho];rfl
 have hk:(b.atR a (.inRegion ops (0::List.range' 1 (ops.size-1))::k)).kind = .deferred:=hb;have htr:=tryRecover_deferred hk cs;split at h
 ·rename_i v cs' hrec
  have hlen:=recoverD_length hrec;obtain⟨e,a',w'',hq,harr⟩:=wp_opsIn _ _ _ h b k cs' (hrd.trans hro.symm) hF (by rw[hlen];exact hroom);refine⟨e,a',cs',w'',hlen,hq,.of_steps (.one i0 s0) (.of_steps (.one h0 (step_lone_go ?_)) harr)⟩;rw[hgg,←hfin];simp only[Frame.atR,hrd]at htr ⊢;simp[stepG.apply,hr,htr,hrec]
 ·rename_i hrec
  obtain⟨e,a',w'',hq,harr⟩:=wp_opsIn _ _ _ h b k cs (hrd.trans hro.symm) hF hroom;refine⟨e,a',cs,w'',rfl,hq,.of_steps (.one i0 s0) (.of_steps (.one h0 (step_lone_go ?_)) harr)⟩;rw[hgg,←hfin];simp only[Frame.atR,hrd]at htr ⊢;simp[stepG.apply,hr,htr,hrec]
theorem aEY{fn:Func}{tmps:Array Value}{n0:Nat}{F0:Nat→Prop}{w0:World}{H0:Hp}{R:Ending→World→Prop}{T:List Deferred}{u:FrameMode}{S:World→Prop}(hS:∀ w w',Up F w F w'→S w→S w')(hu:u ≠ .run)(hn0:w0.heap.size≤n0)
 (hT:∀ w,S w→Ext F0 w0 H0 F w H→St F w H→RE F w env { tmps:=tmps,defers:=[] }→LeavesInM Fence.wide 0 P fn tmps R T u w) :
 ∀(ms:List Deferred)(w:World),S w→Ext F0 w0 H0 F w H→St F w H→RE F w env { tmps:=tmps,defers:=[] }→ms.Nodup→(∀ d∈ms,Mk1 n0 F H w d)→LeavesInM Fence.wide 0 P fn tmps R (ms++T) u w:=by
 intro ms;induction ms with
 | nil=>intro w hs he st re _ _;exact hT w hs he st re
 | cons d ds ih =>
   intro w hs he st re hnd hm;obtain⟨D,rfl,h2,h3,h4,h5⟩:=hm d (by simp);obtain⟨k1,k2,k3⟩:=zF (n0:=0) (x:=none) he st (I1 hn0 h2) h3 h4 h5;have hnd:=J5.1 hnd;refine⟨hu,.inl ⟨D,_,rfl,run_takeDeferred h3,ih _ (hS _ _ k3 hs) k1 k2 (re.up k3) hnd.2 fun d' hd'=>?_⟩⟩;obtain⟨D',rfl,l2,l3,l4,l5⟩:=hm d' (by simp[hd']);refine⟨D',rfl,l2,?_,l4,l5⟩;rw[World.putObj_heap_other fun e=>hnd.1 (by rw[←e];exact hd')];exact l3
section
variable{P:Program}{D:Nat→Option XFn}{d:XFn}{K k:Nat}{e:aI}{h:XH}
def PanX(P:Program)(D:Nat→Option XFn)(d:XFn)(k:Nat)(c:XCode)(e:aI)(h:XH)(v:AV)(e':aI)(h':XH):Prop :=
 sQ c=true→gW d c→∀(B:Base)(Y:Nat→Option YI)(r:Nat→Option Nat)(env:aI)(H:Hp)(Q:QP),YOk P B D Y→SR D Y r e h env H→bBQ D Y k r v e' h' Q→WPD B P none d.N c.erase Q env H
def CalP(P:Program)(D:Nat→Option XFn)(g:Nat)(all:List AV)(h:XH)(v:AV)(h':XH):Prop :=
 ∀(B:Base)(Y:Nat→Option YI)(r:Nat→Option Nat)(H:Hp)(all':List AV),YOk P B D Y→SH D Y r h H→RnL D Y r all all'→FnP B P g all' H (eO D Y r v h')
def uE(L:List Nat)(r:Option (DX×aI×XH)):Option (DX×List AV×XH):=r.map fun q=>(q.1,L.map q.2.1,q.2.2)
theorem SR.cut{Y:Nat→Option YI}{r:Nat→Option Nat}{env:aI}{H:Hp}(sr:SR D Y r e h env H)(L:List Nat):SR D Y r (bB L (L.map e)) h env H:=⟨sr.sh,fun j=>by
 rcases aEk e L j with h1|h1;·rw[h1];exact sr.re j
 ·rw[h1];exact .any _⟩
theorem wO(ok:XOk P D)(hD:D K=some d){code:XCode}{x:DX}{e':aI}{h':XH}(hx:execW D K k none code e h=some (x,e',h')){B:Base}{Y:Nat→Option YI}{r:Nat→Option Nat}{env:aI}{H:Hp}{Q:QC}
 (hY:YOk P B D Y) (hok:sQ code=true) (hs:gW d code) (sr:SR D Y r e h env H) (hK:∀ r' env' H',Agree k r r'→SR D Y r' e' h' env' H'→Q x env' H'):WD B P none d.N code.erase Q env H:=by
 obtain⟨n,hn⟩:=aW.1 hx;exact pI hD ok.mixed (fun B Y hY=>oA ok n B Y hY) k n none none code B Y r e h env H x e' h' Q hY hok hs rfl sr hn hK
theorem PanX.seqR(ok:XOk P D)(hD:D K=some d){a b:XCode}(L:List Nat){vs:List AV}{h1 h':XH}{v:AV}{e':aI}(hx:uE L (execW D K k none a e h)=some (.normal,vs,h1))(hb:PanX P D d k b (bB L vs) h1 v e' h'):PanX P D d k (.seq a b) e h v e' h':=by
 intro hok hs B Y r env H Q hY sr hK;simp only[sQ,B4]at hok;unfold uE at hx;rw[B2]at hx;obtain⟨⟨x,e1,h2⟩,hx,he⟩:=hx;simp only[B9]at he;obtain⟨rfl,rfl,rfl⟩:=he;exact WPD.seq2 (wO ok hD hx hY hok.1 hs.1 sr fun r' env' H' ha sr'=>⟨rfl,hb hok.2 hs.2 B Y r' env' H' Q hY (sr'.cut L) fun r2 v2 env2 H2 ha2 sr2 hv2=>hK r2 v2 env2 H2 (ha.trans ha2) sr2 hv2⟩)
theorem PanX.seqL{a b:XCode}{v:AV}{e':aI}{h':XH}(ha:PanX P D d k a e h v e' h'):PanX P D d k (.seq a b) e h v e' h':=by
 intro hok hs B Y r env H Q hY sr hK;simp only[sQ,B4]at hok;exact WPD.seq1 (ha hok.1 hs.1 B Y r env H Q hY sr hK)
theorem PanX.condT{c:AO}{a b:XCode}{v:AV}{e':aI}{h':XH}(hc:aK e c = .bool true)(ha:PanX P D d k a e h v e' h'):PanX P D d k (.cond c a b) e h v e' h':=by
 intro hok hs B Y r env H Q hY sr hK;simp only[sQ,B4]at hok;have h1:=aO sr.re (x:=c) hok.1;rw[hc]at h1;exact WPD.cond (t:=true) (fZ h1) (ha hok.2.1 hs.1 B Y r env H Q hY sr hK)
theorem PanX.condF{c:AO}{a b:XCode}{v:AV}{e':aI}{h':XH}(hc:aK e c = .bool false)(hb:PanX P D d k b e h v e' h'):PanX P D d k (.cond c a b) e h v e' h':=by
 intro hok hs B Y r env H Q hY sr hK;simp only[sQ,B4]at hok;have h1:=aO sr.re (x:=c) hok.1;rw[hc]at h1;exact WPD.cond (t:=false) (fZ h1) (hb hok.2.2 hs.2 B Y r env H Q hY sr hK)
theorem PanX.block{id:Nat}{a:XCode}{v:AV}{e':aI}{h':XH}(ha:PanX P D d k a e h v e' h'):PanX P D d k (.block id a) e h v e' h' :=
 fun hok hs B Y r env H Q hY sr hK=>WPD.block (ha (by simpa [sQ]using hok) hs B Y r env H Q hY sr hK)
theorem PanX.loop(ok:XOk P D)(hD:D K=some d){L:List Nat}{a:XCode}{v:AV}{e':aI}{h':XH}(n:Nat)(S:Nat→List AV)(G:Nat→XH)(h0:cC k L (some (.normal,e,h))=some (S 0,G 0))
 (hs:∀ i,i<n→cC k L (execW D K k none a (bB L (S i)) (G i))=some (S (i+1),G (i+1))) (hp:PanX P D d k a (bB L (S n)) (G n) v e' h'):PanX P D d k (.loop L a) e h v e' h':=by
 intro hok hst B Y r env H Q hY sr hK;have key:∀(m i:Nat)(e:aI)(h:XH)(r1:Nat→Option Nat)(env1:aI)(H1:Hp),m+i=n→cC k L (some (.normal,e,h))=some (S i,G i)→Agree k r r1→SR D Y r1 e h env1 H1→aLH B P none d.N a.erase Q m env1 H1:=by
  intro m;induction m with
  | zero =>
    intro i e h r1 env1 H1 hi h0 ha sr1;have:i=n:=AT
    subst this;simp only[cC,oSI,B9]at h0;obtain⟨r2,ha2,sr2⟩:=xA sr1 k L;have e1:pO k L e h=bB L (S i):=by rw[←h0.1];rfl
    rw[e1,h0.2]at sr2;exact hp (by simpa [sQ]using hok) hst B Y r2 env1 H1 Q hY sr2 fun r3 v3 env3 H3 ha3 sr3 hv3=>hK r3 v3 env3 H3 ((ha.trans ha2).trans ha3) sr3 hv3
  | succ m ih =>
    intro i e h r1 env1 H1 hi h0 ha sr1;simp only[cC,oSI,B9]at h0;obtain⟨r2,ha2,sr2⟩:=xA sr1 k L;have e1:pO k L e h=bB L (S i):=by rw[←h0.1];rfl
    rw[e1,h0.2]at sr2;have hx:=hs i AT;cases hq:execW D K k none a (bB L (S i)) (G i)with
    | none=>rw[hq]at hx;simp[cC]at hx
    | some q =>
      obtain⟨x,e3,h3⟩:=q;rw[hq]at hx;cases x with
      | normal=>exact wO ok hD hq hY (by simpa [sQ]using hok) hst sr2 fun r3 env3 H3 ha3 sr3=>⟨rfl,ih (i+1) e3 h3 r3 env3 H3 AT hx ((ha.trans ha2).trans ha3) sr3⟩
      | exit id=>simp[cC]at hx
      | ret=>simp[cC]at hx
 exact WPD.loop (key n 0 e h r env H AT h0 (Agree.refl _ _) sr)
theorem aWv{B:Base}{Y:Nat→Option YI}{run:eC}{runY:eT}(hf:FnS P B D Y run)(hy:YS P B D Y runY):∀(p rest:List DOper)(r:Nat→Option Nat)(e:aI)(h:XH)(env:aI)(H:Hp)(e1:aI)(h1:XH)(Q:QP),aAH p=true→SR D Y r e h env H →
 eU run runY p e h=some (e1,h1)→(∀ r' env' H',Sub r r'→SR D Y r' e1 h1 env' H'→RSP B P rest Q env' H')→RSP B P (p++rest) Q env H:=by
 intro p;induction p with
 | nil =>
   intro rest r e h env H e1 h1 Q _ sr hx hK;simp only[eU,oSI,B9]at hx
   grind [Sub.refl]
 | cons o p ih =>
   intro rest r e h env H e1 h1 Q hok sr hx hK;simp only[aAH,O3,B4]at hok;simp only[eU]at hx;refine .inr ?_;split at hx
   ·rename_i hg
    simp only[E7]at hx;obtain⟨s,hx1,hx2⟩:=hx;simp only[opW,aFL sr hg];exact jG hf hy sr hok.1 (e':=s.1) (h':=s.2) hx1 fun r' env' H' hs sr'=>ih rest r' s.1 s.2 env' H' e1 h1 Q hok.2 sr' hx2 fun r2 env2 H2 hs2 sr2=>hK r2 env2 H2 (hs.trans hs2) sr2
   ·rename_i hg
    simp only[opW,aFL sr hg];exact ih rest r _ h _ H e1 h1 Q hok.2 (sr.put (Sub.refl r) sr.sh (.tup [] [] rfl (by simp)) o.dst) hx hK
   ·simp at hx
def atX(f:AO)(xs:List AO)(L:List Nat)(r:Option (aI×XH)):Option (AV×List AV×List AV×XH):=r.map fun s=>(aK s.1 f,xs.map (aK s.1),L.map s.1,s.2)
theorem aPD{B:Base}{Y:Nat→Option YI}{r:Nat→Option Nat}{env:aI}{H:Hp}(sr:SR D Y r e h env H)(hY:YOk P B D Y){ix:Nat}{dst:Option Nat}{f:AO}{xs:List AO}{l:List Nat}(hok:iL (.callf false f xs l)=true)(hm:xP f=true)
 {g:Nat} {first cap:List AV} (hf:aK e f = .fn (.func g) first cap) {v:AV} {h':XH} (hp:CalP P D g (first++xs.map (aK e)++cap) h v h') {Q:QP} (L:List Nat) (hK:bBP D Y r v (bB L (L.map e)) h' Q):opP B P ⟨ix,dst,.callf false f xs l,none⟩ Q env H:=by
 refine⟨rfl,fun tab k hh=>by subst hh;simp[xP]at hm,?_⟩;simp only[iL,B4]at hok;have h1:=aO sr.re (x:=f) hok.1;rw[hf]at h1;cases hv:aK env f<;>rw[hv]at h1<;>cases h1
 rename_i first' cap' hf0 hl1 k1 hl2 k2;show FnP B P g (first'++xs.map (aK env)++cap') H _;refine FnP.mono ?_ (hp B Y r H _ hY sr.sh (RnL.append (RnL.append ⟨hl1,k1⟩ (xK sr.re hok.2)) ⟨hl2,k2⟩));rintro v' H' ⟨r',q1,q2,q3⟩;exact hK r' v' env H' q1 ⟨q2,fun j=>((sr.cut L).re j).mono q1⟩ q3
theorem PanX.reg(ok:XOk P D){fz:List (Nat×Bool)}{p post:List DOper}{ix:Nat}{dst:Option Nat}{f:AO}{xs:List AO}{l:List Nat}(L:List Nat){g:Nat}{first cap args vs:List AV}{h1 h':XH}{v:AV}(hm:xP f=true)
 (hcm:(p++⟨ix,dst,.callf false f xs l,none⟩::post).any (fun o=>o.op.isComm)=false) (hx:atX f xs L (xo none (runW D) (runYW D) p (fzX fz e h).1 (fzX fz e h).2)=some (.fn (.func g) first cap,args,vs,h1))
 (hp:CalP P D g (first++args++cap) h1 v h'):PanX P D d k (.reg fz false (p++⟨ix,dst,.callf false f xs l,none⟩::post)) e h v (bB L vs) h':=by
 intro hok hs B Y r env H Q hY sr hK;simp only[sQ]at hok;obtain⟨env1,H1,k1,k2⟩:=aBy sr fz;refine WPD.shift k1 (WPD.reg (fun o ho=>?_) ?_);·rfl
 ·unfold atX at hx
  rw[B2]at hx;obtain⟨⟨e2,h2⟩,hx,he⟩:=hx;simp only[B9]at he;obtain⟨q1,rfl,rfl,rfl⟩:=he;have hx:eU (runW D) (runYW D) p (fzX fz e h).1 (fzX fz e h).2=some (e2,h2):=hx;obtain⟨n,hn⟩:=aHq.1 hx;simp only[aAH,aC4,O3,B4]at hok;obtain⟨s1,s2⟩:=oA ok n B Y hY;refine aWv s1 s2 p _ r _ _ env1 H1 e2 h2 Q hok.1 k2 hn fun r' env' H' hs sr'=>.inl (aPD sr' hY hok.2.1 hm q1 hp L fun r2 v2 env2 H2 hs2 sr2 hv2=>hK r2 v2 env2 H2 ((hs.trans hs2).agree k) sr2 hv2)
theorem PanX.regD(ok:XOk P D){fz:List (Nat×Bool)}{p post:List DOper}{ix:Nat}{dst:Option Nat}{f:AO}{xs:List AO}{l:List Nat}(L:List Nat){g:Nat}{first cap args vs:List AV}{h1 h':XH}{v:AV}(hm:xP f=true)
 (hpan:aIb p ⟨ix,dst,.callf false f xs l,none⟩ post=true) (hx:atX f xs L (xo (some []) (runW D) (runYW D) p (aBG (sD post) (fzX fz e h).1) (fzX fz e h).2)=some (.fn (.func g) first cap,args,vs,h1))
 (hp:CalP P D g (first++args++cap) h1 v h'):PanX P D d k (.reg fz true (p++⟨ix,dst,.callf false f xs l,none⟩::post)) e h v (bB L vs) h':=by
 intro hok hs B Y r env H Q hY sr hK;simp only[sQ]at hok;obtain⟨env1,H1,k1,k2⟩:=aBy sr fz;refine WPD.shift k1 (WPD.regD ok.mixed hpan ?_);have k3:SR D Y r (aBG (sD post) (fzX fz e h).1) (fzX fz e h).2 (aBG (sD post) env1) H1:=⟨k2.sh,fun j=>by
  simp only[aBG];split;·exact .any _
  ·exact k2.re j⟩
 unfold atX at hx;rw[B2]at hx;obtain⟨⟨e2,h2⟩,hx,he⟩:=hx;simp only[B9]at he;obtain⟨q1,rfl,rfl,rfl⟩:=he;have hx:fB (runW D) (runYW D) p (aBG (sD post) (fzX fz e h).1) (fzX fz e h).2 []=some (e2,h2):=hx;obtain⟨n,hn⟩:=aFe.1 hx;simp only[aAH,aC4,O3,B4]at hok;obtain⟨s1,s2⟩:=oA ok n B Y hY;exact aBI s1 s2 p r _ _ [] _ H1 noL e2 h2 _ hok.1 k3 ⟨by simp,fun j c hj=>by simp[noL]at hj⟩ hn fun r' env' H' hs sr' =>
  aPD sr' hY hok.2.1 hm q1 hp L fun r2 v2 env2 H2 hs2 sr2 hv2=>hK r2 v2 env2 H2 ((hs.trans hs2).agree k) sr2 hv2
def aMY:List Nat→aI→aI
 | [],e=>e
 | j::l,e=>upd (aMY l e) j .any
theorem aLp{e:aI}:aMY [] e=e:=rfl
theorem aHf{j:Nat}{l:List Nat}{e:aI}:aMY (j::l) e=upd (aMY l e) j .any:=rfl
theorem aRn(e:aI):∀(l:List Nat),aBG l e=aMY l e
 | []=>rfl
 | j::l=>by
   funext i;have ih:=congrFun (aRn e l) i;simp only[aBG]at ih;simp only[aBG,aHf,upd,List.contains_cons]
   grind
theorem PanX.regU(ok:XOk P D){fz:List (Nat×Bool)}{p post:List DOper}{ix:Nat}{dst:Option Nat}{f:AO}{xs:List AO}{l:List Nat}(L:List Nat)(fr:List Nat){g:Nat}{first cap args vs:List AV}{h1 h':XH}{v:AV}(hm:xP f=true)
 (hpan:aIb p ⟨ix,dst,.callf false f xs l,none⟩ post=true) (hfr:sD post=fr) (hx:atX f xs L (xo (some []) (runW D) (runYW D) p (aMY fr (fzX fz e h).1) (fzX fz e h).2)=some (.fn (.func g) first cap,args,vs,h1))
 (hp:CalP P D g (first++args++cap) h1 v h'):PanX P D d k (.reg fz true (p++⟨ix,dst,.callf false f xs l,none⟩::post)) e h v (bB L vs) h' :=
 PanX.regD ok L hm hpan (by grind [aRn]) hp
theorem CalP.of(ok:XOk P D)(hD:D K=some d){as:List AV}{v:AV}{e':aI}{h':XH}(hl:as.length≤d.N)(hdf:d.dfr=none)(hp:PanX P D d h.length d.body (aT (if d.ownA then as else kQ as)) h v e' h')(hpr:d.prm=none:=by rfl):CalP P D K as h v h':=by
 intro B Y r H as' hY sh hA;have main:∀(as1 as1':List AV),RnL D Y r as1 as1'→as1.length≤d.N→PanX P D d h.length d.body (aT as1) h v e' h'→FnP B P K as1' H (eO D Y r v h'):=by
  intro as1 as1' hA1 hN1 hp;refine FnP.of (ok.is K d hD hpr) (by rw[←hA1.1];exact hN1) hdf ?_;refine hp (ok.body hD) (ok.sites K d hD) B Y r (aT as1') H _ hY ⟨sh,sL hA1⟩ ?_;intro r1 v1 env1 H1 ha1 sr1 hv1;exact⟨r1,fun b c hb=>ha1 b c (sh.dom b c hb) hb,sr1.sh,hv1⟩
 cases hown:d.ownA with
 | true =>
   grind
 | false =>
   rw[hown]at hp;simp only[C8,AAd]at hp;exact FnP.nz (main _ _ hA.nz (by grind [lQ]) hp)
theorem CalP.pure{g:Nat}{as:List AV}{v:AV}{h0:XH}(hp:CalP P D g as [] v h0)(ha:∀ a∈as,Gd a)(hv:Gd v)(h:XH):CalP P D g as h v h:=by
 intro B Y r H as' hY sh hA;have he:as'=as:=by
  apply I2;intro i;cases hi:as[i]? with
  | none=>simp_all [RnL]
  | some a =>
    cases hi2:as'[i]? with
    | none=>simp_all [RnL]
    | some b=>rw[((hA.2 i a b hi hi2).same (ha a (B3 hi)).gr).1]
 rw[he];have s0:SH D Y (fun _=>none) [] noH:=⟨fun b c hb=>by simp at hb,fun b c c' x y hx=>by grind,fun b x hx=>by simp[hat]at hx,GhR.no fun b st p hx=>by simp[hat]at hx⟩;have h1:=hp B Y (fun _=>none) noH as hY s0 (RnL.self fun a h=>(ha a h).rn);have e0:(fun c=>if (fun _:Nat=>False) c then H c else none)=noH:=by rfl
 refine FnP.mono ?_ (FnP.frameS (H:=H) (fun _=>False) (by rw[e0];exact h1));rintro v' H'' ⟨H',⟨r',k1,k2,k3⟩,e1,e2⟩;obtain⟨rfl,_⟩:=k3.same hv.gr;obtain⟨G,hG⟩:=sh.gh;refine⟨r,Sub.refl r,⟨sh.dom,sh.inj,fun b x hb=>?_,_,hG.via id (fun b st p hb=>⟨hb,rfl⟩) (fun b x hb=>.inl ⟨x,hb,rfl,fun st p e=>e⟩) (fun _ _ _ _ _ _ _ hne=>hne) fun b st p n y _ _ hy=>(e2 n (fun h=>h) y hy).1⟩,hv.rn⟩;obtain⟨c,y,a1,a2,a3⟩:=sh.blk b x hb
 grind
end
end
section
theorem aE:(0:Nat).succ.pred.succ=(1:Nat):=rfl
theorem rA{q0 q1 q2 q3 q4 q5 q6 q7 q8 q9 q10 q11 q12 q13 q14 q15 q16 q17 q18 q19 q20 q21 q22 q23 q24 q25 p:Prop}(x0:q0)(x1:q1)(x2:q2)(x3:q3)(x4:q4)(x5:q5)(x6:q6)(x7:q7)(x8:q8)(x9:q9)(x10:q10)(x11:q11)(x12:q12)(x13:q13)(x14:q14)(x15:q15)(x16:q16)(x17:q17)(x18:q18)(x19:q19)(x20:q20)(x21:q21)(x22:q22)(x23:q23)(x24:q24)(x25:q25)(h:q0→q1→q2→q3→q4→q5→q6→q7→q8→q9→q10→q11→q12→q13→q14→q15→q16→q17→q18→q19→q20→q21→q22→q23→q24→q25→p:=by intro x0 x1 x2 x3 x4 x5 x6 x7 x8 x9 x10 x11 x12 x13 x14 x15 x16 x17 x18 x19 x20 x21 x22 x23 x24 x25; (sym=>(simp[x0,x1,x2,x3,x4,x5,x6,x7,x8,x9,x10,x11,x12,x13,x14,x15,x16,x17,x18,x19,x20,x21,x22,x23,x24,x25,Za,Zb,Zc,Zd,Ze,Zf,Zg,Zh,Zi,Zj,Zk,Zl,Zm,Zn,Zo,Zp,Zq,Zr,Zs,Zt,Zu,Zv,Zw,Zx,Zy,Zz,Z0,Z8,Z9,ZA,ZB,ZC,ZD,ZE,ZF,ZG,ZH,ZI,ZJ,ZK,ZL,ZM,ZN,ZO,ZP,ZQ,ZR,ZS,ZT,ZU,ZV,ZW,ZX,ZY,ZZ,Ya,Yb,Yc,Ye,Yf,Yg,Yh,Yi,Yj,Yk,Yl,Ym,Yn,Yo,Yp,Yq,Yr,Ys,Yt,Yu,Yv,Yw,Yx,Yy,Yz,Y4,Y5,Y6,Y7,Y8,Y9,YA,YB,YC,YD,YE,YF,YG,YH,YJ,YK,YL,YM,YN,YO,YP,YQ,YR,YT,YU,YV,YX,YY,YZ,Xa,Xb,Xc,Xd,Xe,Xf,Xg,Xh,Xi,Xj,Xk,Xl,Xm,Xn,Xo,Xp,Xq,Xr,Xs,Xt,Xu,Xv,Xw,Xx,Xy,Xz,XI,XJ,XL,XM,XN,XO,XW,XX,XY,XZ,Wa,Wb,Wc,We,Wf,Wg,Wh,Wi,Wj,Wk,Wl,Wm,Wn,Wo,Wp,Wq,Wr,Wt,Wu,Wv,Ww,Wx,Wy,Wz,W3,W4,W5,W6,W7,W8,W9,WA,WB,WC,WE,WF,WG,WH,WI,WJ,WK,WL,WM,WN,WO,WP,WQ,WR,WS,WT,WU,WV,WW,WX,WY,WZ,Va,Vb,Vc,Vd,Ve,Vf,Vg,Vh,Vi,Vj,Vk,Vl,Vm,Vn,Vo,Vp,Vq,Vr,Vs,Vt,Vu,Vv,Vw,Vx,Vy,Vz,V0,V1,V2,V3,V4,V5,V6,V7,V8,V9,VA,VB,VC,VD,VE,VF,VG,VH,VI,VJ,VK,VL,VM,VN,VO,VP,VQ,VR,VS,VT,VU,VV,VW,VX,VY,VZ,Ua,Ub,Uc,Ud,Ue,Uf,Ug,Uh,Ui,Uj,Uk,Ul,Um,Un,Uo,Ur,Us,Ut,Uu,Uv,Uw,Ux,Uy,Uz,U0,U6,U7,U8,U9,UA,UB,UC,UD,UE,UF,UG,UH,UI,UJ,UK,UL,UM,UN,UO,UP,UQ,UR,US,UT,UU,UV,UW,UX,UY,UZ,Ta,Tb,Tc,Td,Te,Tf,Tg,Th,Ti,Tj,Tl,Tm,Tn,Tp,Tq,Tr,Ts,Tt,Tu,Tv,Tw,Tx,Ty,Tz,T2,T3,T4,T5,T6,T7,T8,T9,TA,TB,TC,TD,TE,TF,TG,TH,TI,TJ,TK,TL,TM,TN,TO,TP,TQ,TR,TS,TT,TU,TV,TX,TY,TZ,Sa,Sc,Sd,Se,Sf,Sg,Si,Sj,Sk,Sl,Sn,Sp,Sq,Sr,Ss,Su,Sv,Sw,Sx,Sy,Sz,S3,S4,S5,S6,S7,S8,S9,SA,SC,SD,SE,SF,SG,SI,SJ,SK,SL,SN,SO,SP,SQ,SS,SU,SV,SW,SX,SY,SZ,Ra,Rb,Rc,Re,Rf,Rg,Rh,Ri,Rj,Rk,Rl,Rm,Ro,Rp,Rq,Rr,Rs,Rt,Ru,Rx,Ry,Rz,R0,RC,RG,RH,RI,RJ,RO,RR,RU,RV,RW,RX,RY,RZ,Qa,Qb,Qd,Qe,Qf,Qg,Qh,Qi,Qj,Qk,Ql,Qm,Qn,Qo,Qp,Qq,Qr,Qs,Qt,Qu,Qw,Qx,Qy,Qz,Q0,QA,QB,QD,QE,QG,QH,QI,QJ,QL,QN,QO,QQ,QR,QS,QU,QV,QW,QX,QY,QZ,Pa,Pb,Pc,Pd,Pe,Pf,Pg,Ph,Pj,Pk,Pl,Pm,Pn,Po,Pp,Pq,Pr,Ps,Pt,Pu,Pv,Pw,Px,Py,Pz,P0,P8,P9,PA,PB,PC,PD,PE,PH,PI,PJ,PK,PL,PM,aLp,aHf];all_goals tactic=>exact rfl))):p:=h x0 x1 x2 x3 x4 x5 x6 x7 x8 x9 x10 x11 x12 x13 x14 x15 x16 x17 x18 x19 x20 x21 x22 x23 x24 x25
theorem yC{p:Prop}(h:p:=by exact rA aE aE aE aE aE aE aE aE aE aE aE aE aE aE aE aE aE aE aE aE aE aE aE aE aE aE):p:=h
theorem cK{q0 p:Prop}(x0:q0)(h:q0→p:=by intro x0;exact rA @x0 aE aE aE aE aE aE aE aE aE aE aE aE aE aE aE aE aE aE aE aE aE aE aE aE aE):p:=h x0
theorem pY{q0 q1 p:Prop}(x0:q0)(x1:q1)(h:q0→q1→p:=by intro x0 x1;exact rA @x0 @x1 aE aE aE aE aE aE aE aE aE aE aE aE aE aE aE aE aE aE aE aE aE aE aE aE):p:=h x0 x1
theorem yK{q0 q1 q2 p:Prop}(x0:q0)(x1:q1)(x2:q2)(h:q0→q1→q2→p:=by intro x0 x1 x2;exact rA @x0 @x1 @x2 aE aE aE aE aE aE aE aE aE aE aE aE aE aE aE aE aE aE aE aE aE aE aE):p:=h x0 x1 x2
theorem vB{q0 q1 q2 q3 p:Prop}(x0:q0)(x1:q1)(x2:q2)(x3:q3)(h:q0→q1→q2→q3→p:=by intro x0 x1 x2 x3;exact rA @x0 @x1 @x2 @x3 aE aE aE aE aE aE aE aE aE aE aE aE aE aE aE aE aE aE aE aE aE aE):p:=h x0 x1 x2 x3
theorem uJ{q0 q1 q2 q3 q4 p:Prop}(x0:q0)(x1:q1)(x2:q2)(x3:q3)(x4:q4)(h:q0→q1→q2→q3→q4→p:=by intro x0 x1 x2 x3 x4;exact rA @x0 @x1 @x2 @x3 @x4 aE aE aE aE aE aE aE aE aE aE aE aE aE aE aE aE aE aE aE aE aE):p:=h x0 x1 x2 x3 x4
theorem mK{q0 q1 q2 q3 q4 q5 q6 p:Prop}(x0:q0)(x1:q1)(x2:q2)(x3:q3)(x4:q4)(x5:q5)(x6:q6)(h:q0→q1→q2→q3→q4→q5→q6→p:=by intro x0 x1 x2 x3 x4 x5 x6;exact rA @x0 @x1 @x2 @x3 @x4 @x5 @x6 aE aE aE aE aE aE aE aE aE aE aE aE aE aE aE aE aE aE aE):p:=h x0 x1 x2 x3 x4 x5 x6
theorem vA{q0 q1 q2 q3 q4 q5 q6 q7 q8 p:Prop}(x0:q0)(x1:q1)(x2:q2)(x3:q3)(x4:q4)(x5:q5)(x6:q6)(x7:q7)(x8:q8)(h:q0→q1→q2→q3→q4→q5→q6→q7→q8→p:=by intro x0 x1 x2 x3 x4 x5 x6 x7 x8;exact rA @x0 @x1 @x2 @x3 @x4 @x5 @x6 @x7 @x8 aE aE aE aE aE aE aE aE aE aE aE aE aE aE aE aE aE):p:=h x0 x1 x2 x3 x4 x5 x6 x7 x8
theorem jE{q0 q1 q2 q3 q4 q5 q6 q7 q8 q9 p:Prop}(x0:q0)(x1:q1)(x2:q2)(x3:q3)(x4:q4)(x5:q5)(x6:q6)(x7:q7)(x8:q8)(x9:q9)(h:q0→q1→q2→q3→q4→q5→q6→q7→q8→q9→p:=by intro x0 x1 x2 x3 x4 x5 x6 x7 x8 x9;exact rA @x0 @x1 @x2 @x3 @x4 @x5 @x6 @x7 @x8 @x9 aE aE aE aE aE aE aE aE aE aE aE aE aE aE aE aE):p:=h x0 x1 x2 x3 x4 x5 x6 x7 x8 x9
theorem gF{q0 q1 q2 q3 q4 q5 q6 q7 q8 q9 q10 q11 q12 p:Prop}(x0:q0)(x1:q1)(x2:q2)(x3:q3)(x4:q4)(x5:q5)(x6:q6)(x7:q7)(x8:q8)(x9:q9)(x10:q10)(x11:q11)(x12:q12)(h:q0→q1→q2→q3→q4→q5→q6→q7→q8→q9→q10→q11→q12→p:=by intro x0 x1 x2 x3 x4 x5 x6 x7 x8 x9 x10 x11 x12;exact rA @x0 @x1 @x2 @x3 @x4 @x5 @x6 @x7 @x8 @x9 @x10 @x11 @x12 aE aE aE aE aE aE aE aE aE aE aE aE aE):p:=h x0 x1 x2 x3 x4 x5 x6 x7 x8 x9 x10 x11 x12
theorem fN{q0 q1 q2 q3 q4 q5 q6 q7 q8 q9 q10 q11 q12 q13 q14 q15 q16 q17 q18 q19 p:Prop}(x0:q0)(x1:q1)(x2:q2)(x3:q3)(x4:q4)(x5:q5)(x6:q6)(x7:q7)(x8:q8)(x9:q9)(x10:q10)(x11:q11)(x12:q12)(x13:q13)(x14:q14)(x15:q15)(x16:q16)(x17:q17)(x18:q18)(x19:q19)(h:q0→q1→q2→q3→q4→q5→q6→q7→q8→q9→q10→q11→q12→q13→q14→q15→q16→q17→q18→q19→p:=by intro x0 x1 x2 x3 x4 x5 x6 x7 x8 x9 x10 x11 x12 x13 x14 x15 x16 x17 x18 x19;exact rA @x0 @x1 @x2 @x3 @x4 @x5 @x6 @x7 @x8 @x9 @x10 @x11 @x12 @x13 @x14 @x15 @x16 @x17 @x18 @x19 aE aE aE aE aE aE):p:=h x0 x1 x2 x3 x4 x5 x6 x7 x8 x9 x10 x11 x12 x13 x14 x15 x16 x17 x18 x19
end
end Go.DL
