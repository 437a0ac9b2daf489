/- Parts of a proof, joined. No statement of the seed is proved here. -/
import Derived.OpenShut
import Derived.RecoverIn
import Derived.Test.YtfcdcgplogojbaaGreatDoorH2
set_option linter.unusedSimpArgs false
set_option linter.unusedVariables false
set_option linter.unusedSectionVars false
set_option maxRecDepth 100000
namespace Go.DL
section
section
variable{P:Program}{B:Base}{D:Nat->Option XFn}{Y:Nat->Option YI}{r:Nat->Option Nat}{e env:aJ}{h:XH}{H:Hp}
theorem tN{as as':List AV}(h:RnL D Y r as as')(j:Nat):Rn D Y r (aX as j) (aX as' j):=by
 unfold aX;rw[C7,C7];cases hx:as[j]? with
 | none=>exact .any _
 | some x =>
   grind [RnL]
theorem aHg(sr:SR D Y r e h env H){rs:List (Nat×Option (Bool×Nat))}{v:AV}(hv:kD rs e (aH h)=some v):∃ v',kD rs env H=some v'/\Rn D Y r v v':=by
 have one:∀{p:Nat×Option (Bool×Nat)}{v:AV},wY e (aH h) p=some v->∃ v',wY env H p=some v'/\Rn D Y r v v':=by
  intro p v hv;obtain⟨t,o⟩:=p;cases o with
  | none=>simp only[wY,oSI]at hv ⊢;subst hv;exact⟨_,rfl,sr.re t⟩
  | some q =>
    obtain⟨g,n⟩:=q;simp only[wY]at hv ⊢;exact aIT sr.sh (sr.re t) hv
 have lst:∀(rs:List (Nat×Option (Bool×Nat)))(vs:List AV),zE e (aH h) rs=some vs->∃ vs',zE env H rs=some vs'/\RnL D Y r vs vs':=by
  intro rs;induction rs with
  | nil=>intro vs hv;simp only[zE,oSI]at hv;subst hv;exact⟨[],rfl,RnL.nil⟩
  | cons p rs ih =>
    intro vs hv;simp only[zE]at hv ⊢
    grind [RnL.cons]
 unfold kD at hv ⊢;split at hv
 .rename_i v0 h1
  simp only[oSI]at hv;subst hv;obtain⟨vs',k1,k2⟩:=lst rs _ h1;obtain⟨y,ys,rfl,k3,k4⟩:=k2.inv;obtain rfl:=k4.nil_inv
  grind
 .rename_i vs hne h1
  simp only[oSI]at hv;subst hv;obtain⟨vs',k1,k2⟩:=lst rs _ h1;rw[k1];refine⟨.tup vs',?_,.tup _ _ k2.1 k2.2⟩;split
  .rename_i v0 h2
   simp only[oSI]at h2;subst h2;exfalso;have:=k2.1;cases vs with
   | nil=>simp at this
   | cons a vs=>simp_all
  all_goals grind
 .simp at hv
theorem aLu:∀(ps:List Nat)(as as':List AV)(e env:aJ),RnL D Y r as as'->(∀ j,Rn D Y r (e j) (env j))->∀ j,Rn D Y r (sK e ps as j) (sK env ps as' j)
 | [],as,as',e,env,_,re,j=>by unfold sK;exact re j
 | p::ps,[],as',e,env,h,re,j=>by rw[h.nil_inv];unfold sK;exact re j
 | p::ps,a::as,as',e,env,h,re,j=>by
   obtain⟨a',as2,rfl,h1,h2⟩:=h.inv;unfold sK;refine aLu ps as as2 _ _ h2 (λi=>?_) j;simp only[upd];split;·exact h1
   .exact re i
theorem aMc:∀(L:List Nat)(vs:List AV)(env:aJ),RnL D Y r vs (L.map env)->∀ j,Rn D Y r (aY L vs j) (env j)
 | [],[],env,h,j=>.any _
 | [],_::_,env,h,j=>.any _
 | _::_,[],env,h,j=>.any _
 | k::L,v::vs,env,h,j=>by
   obtain⟨a',as2,h0,h1,h2⟩:=h.inv;simp only[E7,aF8]at h0;obtain⟨rfl,rfl⟩:=h0;simp only[aY];split;·rename_i hj;subst hj;exact h1
   .exact aMc L vs env h2 j
theorem aGh(sh:SH D Y r h H){k:Nat}{u u':AV}(hu:Rn D Y r u u'):∃ r',Agree k r r'/\SH D Y r' (oF k (dH k [u] h) h) H/\Rn D Y r' (rnA (keepS k (dH k [u] h)) u) u':=by
 obtain⟨h1,h2⟩:=aEl k [u] h;obtain⟨k1,k2,k3⟩:=aEk sh h1 h2
 grind
def okD(d:XFn):Bool:=tQ d.body&&d.dfr.isNone
structure XOk(P:Program)(D:Nat->Option XFn):Prop where
 mixed:P.follows .mixedOrders=true
 is:∀ K d,D K=some d->d.prm=none->aUT P K d.fn
 prm:∀ K d f,D K=some d->d.prm=some f->∀(B:Base)(Y:Nat->Option YI),YOk P B D Y->∀(r:Nat->Option Nat)(h:XH)(H:Hp)(as as':List AV)(v:AV)(h':XH),SH D Y r h H->RnL D Y r as as'->f as h=some (v,h')->FnW B P K as' H (fO D Y r v h')
 ok:∀ K d,D K=some d->okD d=true
 sites:∀ K d,D K=some d->iG d d.body
theorem XOk.body(ok:XOk P D){K:Nat}{d:XFn}(h:D K=some d):tQ d.body=true:=by
 have:=ok.ok K d h
 simp_all [okD]
theorem aJQ(ok:XOk P D){run:fC}{runY:gR}(n:Nat)(ih:∀(B:Base)(Y:Nat->Option YI),YOk P B D Y->FnS P B D Y run/\YS P B D Y runY):∀(B:Base)(Y:Nat->Option YI),YOk P B D Y->FnS P B D Y (aDl D run runY n)/\YS P B D Y (aFF D run runY n):=by
 intro B Y hY;refine⟨λr h H K as as' v h' sh hA hx=>?_,λr h H fv fv' as as' v h' sh hfv hA hx=>?_⟩
 .simp only[aDl]at hx
  split at hx;·simp at hx
  .rename_i d hD
   split at hx
   .rename_i f hf
    exact ok.prm K d f hD hf B Y hY r h H as as' v h' sh hA hx
   rename_i hpr;split at hx
   .rename_i hN
    have main:∀(as1 as1':List AV),RnL D Y r as1 as1'->as1.length<=d.N->(match d.dfr with
     | none=>aKa (lU K) d.res d.ownR h.length (bO run runY K h.length n none d.body (aX as1) h)
     | some _=>none)=some (v,h')->FnW B P K as1' H (fO D Y r v h'):=by
     intro as1 as1' hA1 hN1 hx
     have goal:∀(r1:Nat->Option Nat)(env1:aJ)(H1:Hp)(e1:aJ)(h1:XH)(v0:AV),Agree h.length r r1->SR D Y r1 e1 h1 env1 H1->kD d.res e1 (aH h1)=some v0->pT d.ownR h.length v0 h1=(v,h') ->
      nL (kD d.res env1 H1) λv_1=>∃ v' H'',Shift (upd anyE 0 v_1) H1 (upd anyE 0 v') H''/\fO D Y r v h' v' H'':=by
      intro r1 env1 H1 e1 h1 v0 ha1 sr1 hv0 hfin;have goal:nL (kD d.res env1 H1) λv=>∃ v' H'',Shift (upd anyE 0 v) H1 (upd anyE 0 v') H''/\fO D Y r (pT d.ownR h.length v0 h1).1 (pT d.ownR h.length v0 h1).2 v' H'':=by
       obtain⟨v0',k1,k2⟩:=aHg sr1 hv0;rw[k1,optW_some];have sr2:SR D Y r1 (upd anyE 0 v0) h1 (upd anyE 0 v0') H1:=⟨sr1.sh,λj=>by
        simp only[upd];split;·exact k2
        .exact .any _⟩
       have post:∀(u u':AV)(h2:XH)(H2:Hp),SH D Y r1 h2 H2->Rn D Y r1 u u'->fO D Y r (rnA (keepS h.length (dH h.length [u] h2)) u) (oF h.length (dH h.length [u] h2) h2) u' H2:=by
        intro u u' h2 H2 s1 s2;obtain⟨r2,m1,m2,m3⟩:=aGh s1 s2 (k:=h.length);exact⟨r2,λb c hb=>m1 b c (sh.dom b c hb) (ha1 b c (sh.dom b c hb) hb),m2,m3⟩
       unfold pT;cases d.ownR with
       | true =>
         simp only[AAe];exact⟨v0',H1,Shift.le (Le.refl _),by
          have:=post v0 v0' h1 H1 sr1.sh k2
          simp_all⟩
       | false =>
         simp only[C6,AAd];obtain⟨env2,H2,s1,s2⟩:=aAn (lI h1 2 (slN v0)) _ _ _ _ sr2;have hz:=(s2.re 0).nz;refine⟨vN (env2 0),H2,s1.trans ?_,post _ _ _ _ s2.sh hz⟩;intro F w a st re;refine⟨F,Ext.refl _ _ _,st,λj=>?_,re.gi⟩;simp only[upd];split;·rename_i hj;subst hj;exact(re.rv 0).nz
         .exact .any _
      grind
     refine FnW.shift (FnW.of (ok.is K d hD hpr) (by rw[<-hA1.1];exact hN1) ?_);cases hd:d.dfr with
     | none =>
       rw[hd]at hx;simp only at hx;show WD B P none d.N d.fn.body _ _ _;cases hgc:lU K with
       | true =>
         rw[hgc]at hx;simp only[aKa]at hx;unfold aFl at hx;split at hx;·simp at hx
         .rename_i x e1 h1 hne hex
          simp only[B2,B9]at hx;obtain⟨v0,hv0,rfl,rfl⟩:=hx;refine pU hD ok.mixed ih h.length n none none d.body B Y r (aX as1) h (aX as1') H x e1 h1 _ hY (ok.body hD) (ok.sites K d hD) rfl ⟨sh,tN hA1⟩ hex ?_;intro r1 env1 H1 ha1 sr1;obtain⟨v0',k1,k2⟩:=aHg sr1 hv0;have g:nL (kD d.res env1 H1) λv_1=>∃ v' H'',Shift (upd anyE 0 v_1) H1 (upd anyE 0 v') H''/\fO D Y r v0 h1 v' H'':=by
           rw[k1,optW_some];exact⟨v0',H1,Shift.le (Le.refl _),r1,λb c hb=>ha1 b c (sh.dom b c hb) hb,sr1.sh,k2⟩
          cases x with
          | exit id=>grind
          | normal=>exact g
          | ret=>exact g
         .simp at hx
       | false =>
       rw[hgc]at hx;simp only[aKa]at hx;unfold eY at hx;split at hx;·simp at hx
       .rename_i x e1 h1 hne hex
        simp only[B2]at hx;obtain⟨v0,hv0,hfin⟩:=hx;refine pU hD ok.mixed ih h.length n none none d.body B Y r (aX as1) h (aX as1') H x e1 h1 _ hY (ok.body hD) (ok.sites K d hD) rfl ⟨sh,tN hA1⟩ hex ?_;intro r1 env1 H1 ha1 sr1;have g:=goal r1 env1 H1 e1 h1 v0 ha1 sr1 hv0 hfin;cases x with
        | exit id=>grind
        | normal=>exact g
        | ret=>exact g
       .simp at hx
     | some p=>grind
    cases hown:d.ownA with
    | true =>
      grind
    | false =>
      rw[hown]at hx;simp only[C6,AAd]at hx;exact FnW.nz (main _ _ hA.nz (by grind [mU]) hx)
   .simp at hx
 .simp only[aFF]at hx
  split at hx
  .rename_i l
   cases hfv with
   | fn _ _ _ _ _ hf=>grind
   | yield _ c hr =>
   show YW B P c as' H _;split at hx
   .rename_i K site vs hl
    split at hx;·simp at hx
    .rename_i L ps a b hDs
     simp only[E9]at hDs;obtain⟨d,hD,hsite⟩:=hDs;split at hx
     .rename_i hlen
      split at hx
      .rename_i e1 h1 hex1
       split at hx
       .rename_i hst1
        split at hx
        .rename_i x e2 h2 hex2
         split at hx
         .rename_i hst2
          simp only[oSI]at hx;obtain⟨c',i,o,g1,g2,g3,g4,vs',d',L',ps',a',b',g5,g6,g7,g8⟩:=sh.loopAt (l:=l) (st:=.ready) (by unfold iJ;rw[hl]);rw[hr]at g1;simp only[oSI]at g1;subst g1;rw[hl]at g5;simp only[oSI,XB.loop.injEq,and_true]at g5;obtain⟨rfl,rfl,rfl⟩:=g5;rw[hD]at g6;simp only[oSI]at g6;subst g6;rw[hsite]at g7;simp only[oSI,B9]at g7;obtain⟨rfl,rfl,rfl,rfl⟩:=g7;simp only[vU]at g4;subst g4;obtain⟨⟨q,hq⟩,prov⟩:=hY c i g2;have hrd:RdOk Y r h.length (some l) (some c):=⟨sh.dom l c hr,c,i,q,hr,rfl,g2,hq⟩;obtain⟨hs1,hs2⟩:iG d a/\iG d b:=by
           have aux:∀(code:XCode),iG d code->∀ s L ps a b,eJ code s=some (L,ps,a,b)->iG d a/\iG d b:=by
            intro code;induction code with
            | seq a b iha ihb =>
              intro hs s L ps a' b' h;simp only[eJ]at h;split at h;·rename_i r0 h0;simp only[oSI]at h;subst h;exact iha hs.1 s _ _ _ _ h0
              .exact ihb hs.2 s _ _ _ _ h
            | cond c a b iha ihb =>
              intro hs s L ps a' b' h;simp only[eJ]at h;split at h;·rename_i r0 h0;simp only[oSI]at h;subst h;exact iha hs.1 s _ _ _ _ h0
              .exact ihb hs.2 s _ _ _ _ h
            | block id a iha=>intro hs s L ps a' b' h;exact iha hs s _ _ _ _ (by simpa [eJ]using h)
            | loop l a iha=>intro hs s L ps a' b' h;exact iha hs s _ _ _ _ (by simpa [eJ]using h)
            | scope a iha=>intro hs s L ps a' b' h;exact iha hs s _ _ _ _ (by simpa [eJ]using h)
            | rng s' L' f ps' a b iha ihb =>
              intro hs s L ps a' b' h;simp only[eJ]at h;split at h
              .simp only[oSI,B9]at h
               obtain⟨rfl,rfl,rfl,rfl⟩:=h;exact hs.2
              .split at h
               .rename_i r0 h0;simp only[oSI]at h;subst h;exact iha hs.2.1 s _ _ _ _ h0
               .exact ihb hs.2.2 s _ _ _ _ h
            | skip=>intro hs s L ps a' b' h;simp[eJ]at h
            | exit id=>intro hs s L ps a' b' h;simp[eJ]at h
            | ret=>intro hs s L ps a' b' h;simp[eJ]at h
            | reg fz dr ops=>intro hs s L ps a' b' h;simp[eJ]at h
           exact aux d.body (ok.sites _ d hD) _ _ _ _ _ hsite
          obtain⟨hok1,hok2⟩:tQ a=true/\tQ b=true:=by
           have aux:∀(code:XCode),tQ code=true->∀ s L ps a b,eJ code s=some (L,ps,a,b)->tQ a=true/\tQ b=true:=by
            intro code;induction code with
            | seq a b iha ihb =>
              intro hs s L ps a' b' h;simp only[tQ,B4]at hs;simp only[eJ]at h
              grind
            | cond c a b iha ihb =>
              intro hs s L ps a' b' h;simp only[tQ,B4]at hs;simp only[eJ]at h
              grind
            | block id a iha=>intro hs s L ps a' b' h;exact iha (by simpa [tQ]using hs) s _ _ _ _ (by simpa [eJ]using h)
            | loop l a iha=>intro hs s L ps a' b' h;exact iha (by simpa [tQ]using hs) s _ _ _ _ (by simpa [eJ]using h)
            | scope a iha=>intro hs s L ps a' b' h;exact iha (by simpa [tQ]using hs) s _ _ _ _ (by simpa [eJ]using h)
            | rng s' L' f ps' a b iha ihb =>
              intro hs s L ps a' b' h;simp only[tQ,B4]at hs;simp only[eJ]at h
              grind
            | skip=>intro hs s L ps a' b' h;simp[eJ]at h
            | exit id=>intro hs s L ps a' b' h;simp[eJ]at h
            | ret=>intro hs s L ps a' b' h;simp[eJ]at h
            | reg fz dr ops=>intro hs s L ps a' b' h;simp[eJ]at h
           exact aux d.body (ok.body hD) _ _ _ _ _ hsite
          refine prov d L ps a b hD hsite B (Up.refl _ _) as' H _ g3 (by rw[<-hA.1];exact hlen) ?_;refine pU hD ok.mixed ih h.length n (some l) (some c) a B Y r _ h _ H .normal e1 h1 _ hY hok1 hs1 hrd ⟨sh,aLu ps as as' _ _ hA (aMc L vs i.env g8)⟩ hex1 ?_;intro r1 env1 H1 ha1 sr1;obtain⟨c1,i1,o1,m1,m2,m3,m4,_⟩:=sr1.sh.loopAt hst1;have hr1:r1 l=some c:=ha1 l c (sh.dom l c hr) hr;rw[hr1]at m1;simp only[oSI]at m1;subst m1;rw[g2]at m2;simp only[oSI]at m2;subst m2;simp only[vU]at m4;subst m4;refine⟨rfl,m3,?_⟩;have sh1':=sr1.sh.loopTo (st':=.busy) (o:=i.oB) hst1 hr1 g2 rfl;refine pU hD ok.mixed ih h.length n (some l) (some c) b B Y r1 e1 _ env1 _ x e2 h2 _ hY hok2 hs2 (hrd.agree ha1) ⟨sh1',sr1.re⟩ hex2 ?_;intro r2 env2 H2 ha2 sr2;obtain⟨c2,i2,o2,p1,p2,p3,p4,_⟩:=sr2.sh.loopAt hst2;have hr2:r2 l=some c:=ha2 l c (sh.dom l c hr) hr1;rw[hr2]at p1;simp only[oSI]at p1;subst p1;rw[g2]at p2;simp only[oSI]at p2;subst p2;simp only[vU]at p4;subst p4;refine⟨p3,?_⟩;have post:∀(bv:Bool)(st':LSt)(o:Obj),vU i st' o->fO D Y r (pT true h.length (.bool bv) (loopTo h2 l st')).1 (pT true h.length (.bool bv) (loopTo h2 l st')).2 (.bool bv) (hset H2 c (.obj true o)):=by
           intro bv st' o ho;have sh2':=sr2.sh.loopTo (st':=st') (o:=o) hst2 hr2 g2 ho;obtain⟨r3,s1,s2,s3⟩:=aGh sh2' (k:=h.length) (u:=.bool bv) (.bool bv);refine⟨r3,λb c hb=>s1 b c (sh.dom b c hb) (ha2 b c (sh.dom b c hb) (ha1 b c (sh.dom b c hb) hb)),?_,?_⟩;·simpa [pT,upd]using s2
           .simpa [pT,upd]using s3
          cases x with
          | normal =>
            have:=post true .ready i.oR rfl
            grind
          | ret =>
            have:=post false (.done .ret) (i.oD .ret) rfl
            grind
          | exit id =>
            have:=post false (.done (.exit id)) (i.oD (.exit id)) rfl
            grind
         .simp at hx
        .simp at hx
       .simp at hx
      .simp at hx
     .simp at hx
   .simp at hx
  .simp at hx
theorem oP(ok:XOk P D):∀(n:Nat)(B:Base)(Y:Nat->Option YI),YOk P B D Y->FnS P B D Y (dL D n)/\YS P B D Y (cB D n):=by
 intro n;induction n with
 | zero =>
   simp[FnS,dL,YS,cB]
 | succ n ih =>
   grind [aJQ,dL,cB]
end
def xD:XCode->Bool
 | .seq a b | .cond _ a b=>xD a&&xD b
 | .block _ a | .loop _ a | .scope a=>xD a
 | .rng .. => false
 | _=>true
theorem bB{d:XFn}:∀{c:XCode},xD c=true->iG d c
 | .seq a b,h=>by simp only[xD,B4]at h;exact⟨bB h.1,bB h.2⟩
 | .cond c a b,h=>by simp only[xD,B4]at h;exact⟨bB h.1,bB h.2⟩
 | .block id a,h=>bB (c:=a) (by grind [xD])
 | .loop l a,h=>bB (c:=a) (by grind [xD])
 | .scope a,h=>bB (c:=a) (by grind [xD])
 | .rng ..,h=>by simp[xD]at h
 | .skip,_=>trivial
 | .exit _,_=>trivial
 | .ret,_=>trivial
 | .reg ..,_=>trivial
def LeR(f g:fC):Prop:=∀ K as h q,f K as h=some q->g K as h=some q
def LeY(f g:gR):Prop:=∀ v as h q,f v as h=some q->g v as h=some q
section
variable{run run':fC}{runY runY':gR}
theorem aAu(hr:LeR run run')(hy:LeY runY runY'){fv:AV}{as:List AV}{h:XH}{q:AV×XH}(hx:gJ run runY fv as h=some q):gJ run' runY' fv as h=some q:=by
 unfold gJ at hx ⊢;split at hx
 .rename_i g first cap
  cases hg:lU g with
  | true=>rw[hg]at hx;exact hr _ _ _ _ hx
  | false =>
    rw[hg]at hx;simp only[aGs,B2]at hx ⊢;obtain⟨a,h1,h2⟩:=hx;exact⟨a,hr _ _ _ _ h1,h2⟩
 .simp only[B2]at hx ⊢
  obtain⟨a,h1,h2⟩:=hx;exact⟨a,hy _ _ _ _ h1,h2⟩
 .simp at hx
theorem aEO(hr:LeR run run'){fv:AV}{as:List AV}{h:XH}{q:AV}(hx:qC run fv as h=some q):qC run' fv as h=some q:=by
 unfold qC at hx ⊢;split at hx
 .simp only at hx ⊢
  split at hx
  .rename_i v hl h1
   rw[hr _ _ _ _ h1];exact hx
  .simp at hx
 .simp at hx
theorem oW(hr:LeR run run')(hy:LeY runY runY'){d:Option Nat}{op:DOp}{e:aJ}{h:XH}{q:aJ×XH}(hx:dJ run runY d op e h=some q):dJ run' runY' d op e h=some q:=by
 cases op with
 | callf b f xs l =>
   cases b with
   | true =>
     simp only[dJ,B2]at hx ⊢
     grind [aEO]
   | false =>
     simp only[dJ,B2]at hx ⊢
     grind [aAu]
 | _=>exact hx
theorem rW(hr:LeR run run')(hy:LeY runY runY'):∀(ops:List DOper)(e:aJ)(h:XH)(q:aJ×XH),fP run runY ops e h=some q->fP run' runY' ops e h=some q
 | [],e,h,q,hx=>hx
 | o::ops,e,h,q,hx=>by
   simp only[fP]at hx ⊢;split at hx
   .simp only[E9]at hx ⊢
    obtain⟨s,h1,h2⟩:=hx;exact⟨s,oW hr hy h1,rW hr hy ops _ _ q h2⟩
   .exact rW hr hy ops _ _ q hx
   .simp at hx
theorem oV(hr:LeR run run')(hy:LeY runY runY'):∀(ops:List DOper)(e:aJ)(h:XH)(L:List (Nat×Nat))(q:aJ×XH),fV run runY ops e h L=some q->fV run' runY' ops e h L=some q
 | [],e,h,L,q,hx=>hx
 | o::ops,e,h,L,q,hx=>by
   simp only[fV]at hx ⊢;split at hx
   .split at hx
    .rename_i hl
     rw[if_pos hl];simp only[E9]at hx ⊢;obtain⟨s,h1,h2⟩:=hx;refine⟨s,oW hr hy h1,?_⟩;split at h2;·rename_i hp;rw[if_pos hp];exact oV hr hy ops _ _ _ q h2
     .simp at h2
    .simp at hx
   .exact oV hr hy ops _ _ _ q hx
   .simp at hx
theorem uH{step step':aJ->XH->Option (DX×aJ×XH)}(hs:∀ e h q,step e h=some q->step' e h=some q){k:Nat}{L:List Nat}:∀(n m:Nat),n<=m->∀(e:aJ)(h:XH)(q:DX×aJ×XH),oE step k L n e h=some q->oE step' k L m e h=some q
 | 0,_,_,e,h,q,hx=>by simp[oE]at hx
 | n+1,0,hnm,e,h,q,hx=>by omega
 | n+1,m+1,hnm,e,h,q,hx=>by
   simp only[oE]at hx ⊢;split at hx
   .rename_i e' h' h1
    rw[hs _ _ _ h1];exact uH hs n m AS e' h' q hx
   .rename_i hne
    rw[hs _ _ _ hx];obtain⟨x,e',h'⟩:=q;cases x with
    | normal=>exact absurd hx (hne e' h')
    | _=>rfl
theorem pW(hr:LeR run run')(hy:LeY runY runY'){K k n m:Nat}(hnm:n<=m){rd:Option Nat}:∀(c:XCode)(e:aJ)(h:XH)(q:DX×aJ×XH),bO run runY K k n rd c e h=some q->bO run' runY' K k m rd c e h=some q:=by
 intro c;induction c with
 | skip=>intro e h q hx;exact hx
 | exit id=>intro e h q hx;exact hx
 | ret=>intro e h q hx;exact hx
 | reg fz draw ops =>
   intro e h q hx;simp only[bO,B2]at hx ⊢;obtain⟨s,h1,h2⟩:=hx;refine⟨s,?_,h2⟩;split at h1;·rename_i hd;rw[if_pos hd];grind [oV]
   .rename_i hd;rw[if_neg hd];grind [rW]
 | seq a b iha ihb =>
   intro e h q hx;simp only[bO]at hx ⊢
   grind
 | cond c a b iha ihb =>
   intro e h q hx;simp only[bO]at hx ⊢
   grind
 | block id a iha =>
   intro e h q hx;simp only[bO]at hx ⊢
   grind
 | scope a iha=>intro e h q hx;exact iha _ _ _ hx
 | loop L a iha=>intro e h q hx;exact uH iha n m hnm e h q hx
 | rng site L f ps a b _ _ =>
   intro e h q hx;simp only[bO]at hx ⊢;split at hx
   .rename_i hc
    rw[if_pos hc]
    grind [aAu]
   .simp at hx
end
theorem aMP(D:Nat->Option XFn):∀ n,LeR (dL D n) (dL D (n+1))/\LeY (cB D n) (cB D (n+1)):=by
 intro n;induction n with
 | zero=>simp[LeR,dL,LeY,cB]
 | succ n ih =>
   refine⟨λK as h q hx=>?_,λv as h q hx=>?_⟩
   .rw[dL]at hx ⊢
    unfold aDl at hx ⊢;split at hx;·simp at hx
    .rename_i d hd
     split at hx;·exact hx
     split at hx
     .rename_i hl
      rw[if_pos hl];have ret:∀(c:Option Nat) e1 h1 q,eY c d.res d.ownR h.length (bO (dL D n) (cB D n) K h.length n none d.body e1 h1)=some q->eY c d.res d.ownR h.length (bO (dL D (n+1)) (cB D (n+1)) K h.length (n+1) none d.body e1 h1)=some q:=by
       intro c e1 h1 q hq;cases he:bO (dL D n) (cB D n) K h.length n none d.body e1 h1 with
       | none=>rw[he]at hq;simp[eY]at hq
       | some s=>rw[pW ih.1 ih.2 (aG2 n) _ _ _ _ he,<-he];exact hq
      split at hx
      .cases hgc:lU K with
       | true =>
         rw[hgc]at hx;simp only[aKa]at hx ⊢;cases he:bO (dL D n) (cB D n) K h.length n none d.body (aX (if d.ownA then as else kI as)) h with
         | none=>rw[he]at hx;simp[aFl]at hx
         | some s=>rw[pW ih.1 ih.2 (aG2 n) _ _ _ _ he,<-he];exact hx
       | false=>rw[hgc]at hx;exact ret none _ _ _ hx
      .simp at hx
     .simp at hx
   .simp only[cB]at hx
    unfold aFF at hx;split at hx
    .rename_i l
     split at hx
     .rename_i K site vs hl
      rw[cB];unfold aFF;simp only[hl];split at hx;·simp at hx
      .rename_i L ps a b h1
       split at hx
       .rename_i hc
        simp only[h1,hc,AAe];split at hx
        .rename_i e1 h1' h2
         rw[pW ih.1 ih.2 (aG2 n) _ _ _ _ h2];simp only;split at hx
         .rename_i hst
          split at hx
          .rename_i x e2 h2' h3
           rw[pW ih.1 ih.2 (aG2 n) _ _ _ _ h3];exact hx
          .simp at hx
         .simp at hx
        .simp at hx
       .simp at hx
     .simp at hx
    .simp at hx
theorem jK(D:Nat->Option XFn){n m:Nat}(h:n<=m):LeR (dL D n) (dL D m)/\LeY (cB D n) (cB D m):=by
 induction h with
 | refl=>simp[LeR,LeY]
 | step _ ih=>grind [aMP,LeR,LeY]
section
variable{α β:Type}
def aJC(f:Nat->Option α):Prop:=∀ n m q,n<=m->f n=some q->f m=some q
noncomputable def lim(f:Nat->Option α):Option α:=open Classical in if h:∃ q n,f n=some q then some h.choose else none
theorem aHA{f:Nat->Option α}(hm:aJC f){q:α}:lim f=some q↔∃ n,f n=some q:=by
 unfold lim;constructor
 .intro h
  split at h;all_goals grind
 .rintro ⟨n,hn⟩
  have hx:∃ q n,f n=some q:=⟨q,n,hn⟩
  grind [aJC]
theorem kW{x y:Option α}(h:∀ q,x=some q↔y=some q):x=y:=by
 cases x with
 | none=>cases y with
   | none=>rfl
   | some b=>simp_all
 | some a=>grind
end
variable(D:Nat->Option XFn)
noncomputable def runW:fC:=λK as h=>lim λn=>dL D n K as h
noncomputable def runYW:gR:=λv as h=>lim λn=>cB D n v as h
noncomputable def execW(K k:Nat)(rd:Option Nat)(c:XCode)(e:aJ)(h:XH):Option (DX×aJ×XH):=lim λn=>bO (dL D n) (cB D n) K k n rd c e h
theorem aJX(K:Nat)(as:List AV)(h:XH):aJC λn=>dL D n K as h:=λ_ _ _ hnm hx=>(jK D hnm).1 _ _ _ _ hx
theorem aIv(v:AV)(as:List AV)(h:XH):aJC λn=>cB D n v as h:=λ_ _ _ hnm hx=>(jK D hnm).2 _ _ _ _ hx
theorem gI(K k:Nat)(rd:Option Nat)(c:XCode)(e:aJ)(h:XH):aJC λn=>bO (dL D n) (cB D n) K k n rd c e h :=
 λ_ _ _ hnm hx=>pW (jK D hnm).1 (jK D hnm).2 hnm _ _ _ _ hx
variable{D}
theorem bU{K:Nat}{as:List AV}{h:XH}{q:AV×XH}:runW D K as h=some q↔∃ n,dL D n K as h=some q:=aHA (aJX D K as h)
theorem yG{v:AV}{as:List AV}{h:XH}{q:AV×XH}:runYW D v as h=some q↔∃ n,cB D n v as h=some q:=aHA (aIv D v as h)
theorem bC{K k:Nat}{rd:Option Nat}{c:XCode}{e:aJ}{h:XH}{q:DX×aJ×XH}:execW D K k rd c e h=some q↔∃ n,bO (dL D n) (cB D n) K k n rd c e h=some q:=aHA (gI D K k rd c e h)
theorem aIW(n:Nat):LeR (dL D n) (runW D):=λ_ _ _ _ hx=>bU.2 ⟨n,hx⟩
theorem aLL(n:Nat):LeY (cB D n) (runYW D):=λ_ _ _ _ hx=>yG.2 ⟨n,hx⟩
theorem aCa{fv:AV}{as:List AV}{h:XH}{q:AV×XH}:gJ (runW D) (runYW D) fv as h=some q↔∃ n,gJ (dL D n) (cB D n) fv as h=some q:=by
 constructor
 .intro hx
  unfold gJ at hx;split at hx
  .rename_i g first cap
   cases hg:lU g with
   | true =>
     rw[hg]at hx;obtain⟨n,h1⟩:=bU.1 hx;exact⟨n,by simp only[gJ,hg];exact h1⟩
   | false =>
     rw[hg]at hx;simp only[aGs,B2]at hx;obtain⟨a,h1,h2⟩:=hx;obtain⟨n,h1⟩:=bU.1 h1;exact⟨n,by simp only[gJ,hg,aGs,B2];grind⟩
  .simp only[B2]at hx
   obtain⟨a,h1,h2⟩:=hx;obtain⟨n,h1⟩:=yG.1 h1;exact⟨n,by simp only[gJ,B2];grind⟩
  .simp at hx
 grind [aAu,aIW,aLL]
theorem aNy{fv:AV}{as:List AV}{h:XH}{q:AV}:qC (runW D) fv as h=some q↔∃ n,qC (dL D n) fv as h=some q:=by
 constructor
 .intro hx
  unfold qC at hx;split at hx
  .simp only at hx
   split at hx
   .rename_i v hl h1
    obtain⟨n,h1⟩:=bU.1 h1;exact⟨n,by simp only[qC,h1];exact hx⟩
   .simp at hx
  .simp at hx
 grind [aEO,aIW]
theorem aFv{d:Option Nat}{op:DOp}{e:aJ}{h:XH}{q:aJ×XH}:dJ (runW D) (runYW D) d op e h=some q↔∃ n,dJ (dL D n) (cB D n) d op e h=some q:=by
 constructor
 .intro hx
  cases op with
  | callf b f xs l =>
    cases b with
    | true =>
      simp only[dJ,B2]at hx ⊢
      grind [aNy]
    | false =>
      simp only[dJ,B2]at hx ⊢
      grind [aCa]
  | _=>exact⟨0,hx⟩
 grind [oW,aIW,aLL]
theorem aHW:∀{ops:List DOper}{e:aJ}{h:XH}{q:aJ×XH},fP (runW D) (runYW D) ops e h=some q↔∃ n,fP (dL D n) (cB D n) ops e h=some q:=by
 intro ops e h q;refine⟨?_,λ⟨n,hx⟩=>rW (aIW n) (aLL n) _ _ _ _ hx⟩;induction ops generalizing e h with
 | nil=>exact λhx=>⟨0,hx⟩
 | cons o ops ih =>
   intro hx;simp only[fP]at hx ⊢;split at hx
   .simp only[E9]at hx ⊢
    obtain⟨s,h1,h2⟩:=hx;obtain⟨n,h1⟩:=aFv.1 h1;obtain⟨m,h2⟩:=ih h2;exact⟨max n m,s,oW (jK D AS).1 (jK D AS).2 h1,rW (jK D AS).1 (jK D AS).2 _ _ _ _ h2⟩
   all_goals grind
theorem aFu:∀{ops:List DOper}{e:aJ}{h:XH}{L:List (Nat×Nat)}{q:aJ×XH},fV (runW D) (runYW D) ops e h L=some q↔∃ n,fV (dL D n) (cB D n) ops e h L=some q:=by
 intro ops e h L q;refine⟨?_,λ⟨n,hx⟩=>oV (aIW n) (aLL n) _ _ _ _ _ hx⟩;induction ops generalizing e h L with
 | nil=>exact λhx=>⟨0,hx⟩
 | cons o ops ih =>
   intro hx;simp only[fV]at hx ⊢;split at hx
   .split at hx
    .rename_i hl
     simp only[hl,AAe];simp only[E9]at hx ⊢;obtain⟨s,h1,h2⟩:=hx;obtain⟨n,h1⟩:=aFv.1 h1;split at h2
     .rename_i hp
      obtain⟨m,h2⟩:=ih h2;exact⟨max n m,s,oW (jK D AS).1 (jK D AS).2 h1,by rw[if_pos hp];exact oV (jK D AS).1 (jK D AS).2 _ _ _ _ _ h2⟩
     .simp at h2
    .simp at hx
   all_goals grind
section
variable{K k:Nat}{rd:Option Nat}{e:aJ}{h:XH}
theorem SZ:execW D K k rd .skip e h=some (.normal,e,h):=bC.2 ⟨0,rfl⟩
theorem Ra{id:Nat}:execW D K k rd (.exit id) e h=some (.exit id,e,h):=bC.2 ⟨0,rfl⟩
theorem SY:execW D K k rd .ret e h=some (.ret,e,h):=bC.2 ⟨0,rfl⟩
theorem aEB{fz:List (Nat×Bool)}{ops:List DOper}:execW D K k rd (.reg fz false ops) e h=(fP (runW D) (runYW D) ops (fzX fz e h).1 (fzX fz e h).2).map λr=>(.normal,r.1,r.2):=kW λq=>by
 rw[bC];simp only[bO,C6,AAd,B2,aHW]
 grind
theorem aEC{fz:List (Nat×Bool)}{ops:List DOper}:execW D K k rd (.reg fz true ops) e h=(fV (runW D) (runYW D) ops (fzX fz e h).1 (fzX fz e h).2 []).map λr=>(.normal,r.1,r.2):=kW λq=>by
 rw[bC];simp only[bO,AAe,B2,aFu]
 grind
def qJ(r:Option (DX×aJ×XH))(f:aJ->XH->Option (DX×aJ×XH)):Option (DX×aJ×XH):=match r with
 | some (.normal,e,h)=>f e h
 | r=>r
theorem Rc(f:aJ->XH->Option (DX×aJ×XH))(e:aJ)(h:XH):qJ (some (.normal,e,h)) f=f e h:=rfl
theorem Re(f:aJ->XH->Option (DX×aJ×XH))(id:Nat)(e:aJ)(h:XH):qJ (some (.exit id,e,h)) f=some (.exit id,e,h):=rfl
theorem Rf(f:aJ->XH->Option (DX×aJ×XH))(e:aJ)(h:XH):qJ (some (.ret,e,h)) f=some (.ret,e,h):=rfl
theorem sD{r:Option (DX×aJ×XH)}{f:aJ->XH->Option (DX×aJ×XH)}{q:DX×aJ×XH}:qJ r f=some q↔(∃ e h,r=some (.normal,e,h)/\f e h=some q)\/(q.1 ≠ .normal/\r=some q):=by
 unfold qJ
 grind
theorem aNl{run:fC}{runY:gR}{n:Nat}{a b:XCode}:bO run runY K k n rd (.seq a b) e h=qJ (bO run runY K k n rd a e h) (bO run runY K k n rd b):=rfl
theorem SX{a b:XCode}:execW D K k rd (.seq a b) e h=qJ (execW D K k rd a e h) (execW D K k rd b):=kW λq=>by
 rw[bC];simp only[aNl,sD,bC];constructor;·grind
 .rintro (⟨e1,h1,⟨n,h2⟩,⟨m,h3⟩⟩|⟨h1,n,h2⟩)
  .exact⟨max n m,.inl ⟨e1,h1,gI D K k rd a e h n _ _ AS h2,gI D K k rd b e1 h1 m _ _ AS h3⟩⟩
  grind
theorem aKD{c:AO}{a b:XCode}:execW D K k rd (.cond c a b) e h=match aK e c with
 | .bool true=>execW D K k rd a e h
 | .bool false=>execW D K k rd b e h
 | _=>none:=kW λq=>by
 rw[bC];simp only[bO];cases aK e c with
 | bool t=>cases t<;>simp only[bC]
 | _=>simp
def vB(id:Nat)(r:Option (DX×aJ×XH)):Option (DX×aJ×XH):=match r with
 | some (.exit j,e',h')=>if j=id then some (.normal,e',h') else some (.exit j,e',h')
 | r=>r
theorem Rg(id:Nat)(e:aJ)(h:XH):vB id (some (.normal,e,h))=some (.normal,e,h):=rfl
theorem Rh(id:Nat)(e:aJ)(h:XH):vB id (some (.ret,e,h))=some (.ret,e,h):=rfl
theorem Ri(id j:Nat)(e:aJ)(h:XH):vB id (some (.exit j,e,h))=if j=id then some (.normal,e,h) else some (.exit j,e,h):=rfl
theorem Rb{id:Nat}{a:XCode}:execW D K k rd (.block id a) e h=vB id (execW D K k rd a e h):=kW λq=>by
 have he:∀ n,bO (dL D n) (cB D n) K k n rd (.block id a) e h=vB id (bO (dL D n) (cB D n) K k n rd a e h):=λ_=>rfl;rw[bC];simp only[he];constructor
 .rintro ⟨n,hn⟩
  cases hx:bO (dL D n) (cB D n) K k n rd a e h with
  | none=>rw[hx]at hn;simp[vB]at hn
  | some s=>grind [bC]
 .intro hq
  cases hx:execW D K k rd a e h with
  | none=>rw[hx]at hq;simp[vB]at hq
  | some s =>
    grind [bC]
theorem uN{L:List Nat}{a:XCode}:execW D K k rd (.loop L a) e h=qJ (execW D K k rd a (rQ k L e h) (qB k L e h)) (execW D K k rd (.loop L a)):=kW λq=>by
 have he:∀ n m e h,oE (bO (dL D n) (cB D n) K k n rd a) k L (m+1) e h=qJ (bO (dL D n) (cB D n) K k n rd a (rQ k L e h) (qB k L e h)) (oE (bO (dL D n) (cB D n) K k n rd a) k L m):=λn m e h=>rfl;rw[bC,sD];constructor
 .rintro ⟨n,hn⟩
  have hn:oE (bO (dL D n) (cB D n) K k n rd a) k L n e h=some q:=hn;cases n with
  | zero=>simp[oE]at hn
  | succ n =>
    rw[he,sD]at hn;rcases hn with ⟨e1,h1,h2,h3⟩|⟨h1,h2⟩;·exact .inl ⟨e1,h1,bC.2 ⟨n+1,h2⟩,bC.2 ⟨n+1,uH (λ_ _ _ h=>h) n (n+1) AS _ _ _ h3⟩⟩
    grind [bC]
 .rintro (⟨e1,h1,h2,h3⟩|⟨h1,h2⟩)
  .obtain⟨n,h2⟩:=bC.1 h2
   obtain⟨m,h3⟩:=bC.1 h3;have h3:oE (bO (dL D m) (cB D m) K k m rd a) k L m e1 h1=some q:=h3;refine⟨max n m+1,?_⟩;show oE _ k L (max n m+1) e h=some q;rw[he,sD];refine .inl ⟨e1,h1,gI D K k rd a _ _ n _ _ AS h2,?_⟩;exact uH (λe h q hq=>gI D K k rd a e h m _ _ AS hq) m (max n m) AS _ _ _ h3
  .obtain⟨n,h2⟩:=bC.1 h2
   refine⟨n+1,?_⟩;show oE _ k L (n+1) e h=some q;rw[he,sD];exact .inr ⟨h1,gI D K k rd a _ _ n _ _ AS h2⟩
def aIy(n:Nat)(e:aJ)(r:Option (AV×XH)):Option (DX×aJ×XH):=match r with
 | some (_,h')=>match iJ h' n with
   | some .ready=>some (.normal,e,h'.set n none)
   | some (.done x)=>some (x,e,h'.set n none)
   | _=>none
 | none=>none
theorem aNm{site:Nat}{L:List Nat}{f:AO}{ps:List Nat}{a b:XCode}:execW D K k rd (.rng site L f ps a b) e h=if aBQ rd h&&aBP (aK e f) then
 aIy h.length e (gJ (runW D) (runYW D) (aK e f) [.fn (.yield h.length) [] []] (h++[some (.loop K site (L.map e) .ready)])) else none:=kW λq=>by
 rw[bC]
 have he:∀ n,bO (dL D n) (cB D n) K k n rd (.rng site L f ps a b) e h=if aBQ rd h&&aBP (aK e f) then
  aIy h.length e (gJ (dL D n) (cB D n) (aK e f) [.fn (.yield h.length) [] []] (h++[some (.loop K site (L.map e) .ready)])) else none:=λ_=>rfl
 simp only[he];split
 .constructor
  .rintro ⟨n,hn⟩
   cases hx:gJ (dL D n) (cB D n) (aK e f) [.fn (.yield h.length) [] []] (h++[some (.loop K site (L.map e) .ready)])with
   | none=>rw[hx]at hn;simp[aIy]at hn
   | some s=>grind [aCa]
  .intro hq
   cases hx:gJ (runW D) (runYW D) (aK e f) [.fn (.yield h.length) [] []] (h++[some (.loop K site (L.map e) .ready)])with
   | none=>rw[hx]at hq;simp[aIy]at hq
   | some s =>
     grind [aCa]
 .simp
end
theorem aPI{c:Option Nat}{K:Nat}{d:XFn}{k:Nat}{e:aJ}{h:XH}{q:AV×XH}:eY c d.res d.ownR k (execW D K k none d.body e h)=some q↔∃ n,eY c d.res d.ownR k (bO (dL D n) (cB D n) K k n none d.body e h)=some q:=by
 constructor
 .intro hq
  cases hx:execW D K k none d.body e h with
  | none=>rw[hx]at hq;simp[eY]at hq
  | some s =>
    grind [bC]
 .rintro ⟨n,hn⟩
  cases hx:bO (dL D n) (cB D n) K k n none d.body e h with
  | none=>rw[hx]at hn;simp[eY]at hn
  | some s=>grind [bC]
theorem aPo{K:Nat}{d:XFn}(hD:D K=some d){as:List AV}(hl:as.length<=d.N)(h:XH)(hdf:d.dfr=none)(hg:lU K=true)(hpr:d.prm=none:=by rfl):runW D K as h=aFl d.res (execW D K h.length none d.body (aX (if d.ownA then as else kI as)) h):=kW λq=>by
 rw[bU];have he:∀ n,dL D (n+1) K as h=aFl d.res (bO (dL D n) (cB D n) K h.length n none d.body (aX (if d.ownA then as else kI as)) h):=λn=>by
  rw[dL];unfold aDl;rw[hD];simp only[hpr,hl,AAe,hdf,hg,aKa]
 constructor
 .rintro ⟨n,hn⟩
  cases n with
  | zero=>simp[dL]at hn
  | succ n =>
    rw[he]at hn;cases hx:bO (dL D n) (cB D n) K h.length n none d.body (aX (if d.ownA then as else kI as)) h with
    | none=>rw[hx]at hn;simp[aFl]at hn
    | some s=>grind [bC]
 .intro hq
  cases hx:execW D K h.length none d.body (aX (if d.ownA then as else kI as)) h with
  | none=>rw[hx]at hq;simp[aFl]at hq
  | some s =>
    grind [bC]
theorem cJ{K:Nat}{d:XFn}(hD:D K=some d){as:List AV}(hl:as.length<=d.N)(h:XH)(hdf:d.dfr=none)(hpr:d.prm=none:=by rfl)(hg:lU K=false:=by rfl):runW D K as h=eY none d.res d.ownR h.length (execW D K h.length none d.body (aX (if d.ownA then as else kI as)) h):=kW λq=>by
 rw[bU,aPI];have he:∀ n,dL D (n+1) K as h=eY none d.res d.ownR h.length (bO (dL D n) (cB D n) K h.length n none d.body (aX (if d.ownA then as else kI as)) h):=λn=>by
  rw[dL];unfold aDl;rw[hD];simp only[hpr,hl,AAe,hdf,hg,aKa]
 constructor
 .rintro ⟨n,hn⟩
  cases n with
  | zero=>simp[dL]at hn
  | succ n=>grind
 grind
theorem cM{K:Nat}{d:XFn}(hD:D K=some d){f:List AV->XH->Option (AV×XH)}(hp:d.prm=some f)(as:List AV)(h:XH):runW D K as h=f as h:=kW λq=>by
 rw[bU];have he:∀ n,dL D (n+1) K as h=f as h:=λn=>by
  rw[dL];unfold aDl
  grind
 constructor
 .rintro ⟨n,hn⟩
  cases n with
  | zero=>simp[dL]at hn
  | succ n=>grind
 .intro hq
  exact⟨1,by grind⟩
def aMt(l k:Nat)(r:Option (DX×aJ×XH)):Option (AV×XH):=match r with
 | some (x,_,h2)=>match iJ h2 l with
   | some .busy=>some (match x with
     | .normal=>pT true k (.bool true) (loopTo h2 l .ready)
     | x=>pT true k (.bool false) (loopTo h2 l (.done x)))
   | _=>none
 | none=>none
def aJE(l:Nat)(r:Option (DX×aJ×XH))(f:aJ->XH->Option (AV×XH)):Option (AV×XH):=match r with
 | some (.normal,e1,h1)=>match iJ h1 l with
   | some .ready=>f e1 (loopTo h1 l .busy)
   | _=>none
 | _=>none
theorem aDF{K:Nat}{d:XFn}(hD:D K=some d){l site:Nat}{vs:List AV}{h:XH}(hl:hat h l=some (.loop K site vs .ready)){L ps:List Nat}{a b:XCode}(hs:eJ d.body site=some (L,ps,a,b)){as:List AV}(hn:as.length=ps.length) :
 runYW D (.fn (.yield l) [] []) as h=aJE l (execW D K h.length (some l) a (sK (aY L vs) ps as) h) λe1 h1=>aMt l h.length (execW D K h.length (some l) b e1 h1):=kW λq=>by
 rw[yG];have he:∀ n,cB D (n+1) (.fn (.yield l) [] []) as h=aJE l (bO (dL D n) (cB D n) K h.length n (some l) a (sK (aY L vs) ps as) h) λe1 h1=>aMt l h.length (bO (dL D n) (cB D n) K h.length n (some l) b e1 h1):=λn=>by
  rw[cB];unfold aFF;simp only[hl,hD,D9,hs,hn,AAe];rfl
 constructor
 .rintro ⟨n,hn⟩
  cases n with
  | zero=>simp[cB]at hn
  | succ n =>
    rw[he]at hn;unfold aJE at hn ⊢;split at hn
    .rename_i e1 h1 hx
     rw[bC.2 ⟨n,hx⟩];simp only;split at hn
     .rename_i hst
      simp only at hn;cases hx2:bO (dL D n) (cB D n) K h.length n (some l) b e1 (loopTo h1 l .busy)with
      | none=>rw[hx2]at hn;simp[aMt]at hn
      | some s=>grind [bC]
     .simp at hn
    .simp at hn
 .intro hq
  unfold aJE at hq;split at hq
  .rename_i e1 h1 hx
   obtain⟨n,hn⟩:=bC.1 hx;split at hq
   .rename_i hst
    simp only at hq;cases hx2:execW D K h.length (some l) b e1 (loopTo h1 l .busy)with
    | none=>rw[hx2]at hq;simp[aMt]at hq
    | some s =>
      obtain⟨m,hm⟩:=bC.1 hx2;refine⟨max n m+1,?_⟩;rw[he];have e1':=gI D K h.length (some l) a (sK (aY L vs) ps as) h n (max n m) _ AS hn;have e2':=gI D K h.length (some l) b e1 (loopTo h1 l .busy) m (max n m) _ AS hm;simp only at e1' e2';unfold aJE
      grind
   .simp at hq
  .simp at hq
def aO(P:Program)(p:Nat×XFn):Prop:=aUT P p.1 p.2.fn/\(okD p.2=true/\(iG p.2 p.2.body/\p.2.prm=none))
theorem aQ{P:Program}{p:Nat×XFn}{l:List (Nat×XFn)}(h:aO P p)(hl:∀ q∈l,aO P q):∀ q∈p::l,aO P q:=by grind
theorem bFl{P:Program}:∀ q∈([]:List (Nat×XFn)),aO P q:=by grind
def aJk:List (Nat×XFn)->Nat->Option XFn
 | [],_=>none
 | (k,d)::r,K=>match Nat.beq K k with
   | true=>some d
   | false=>aJk r K
theorem tH{K:Nat}{d:XFn}:∀{l:List (Nat×XFn)},aJk l K=some d->(K,d)∈l
 | [],h=>by simp[aJk]at h
 | (k,e)::r,h=>by
   simp only[aJk]at h;split at h
   .rename_i hb
    have:=Nat.eq_of_beq_eq_true hb;simp only[oSI]at h;subst h this;exact aD3 ..
   .exact D8 _ (tH h)
structure RM where
 fz:List (Nat×List (Nat×Bool))
 lv:List (List Nat)
 sv:List (List Nat)
def bBi(r:Nat):List (Nat×List (Nat×Bool))->List (Nat×Bool)
 | []=>[]
 | (k,l)::t=>if k=r then l else bBi r t
def aMX{α:Type}(d:α):List α->Nat->α
 | [],_=>d
 | a::_,0=>a
 | _::t,n+1=>aMX d t n
structure MS where
 r:Nat
 l:Nat
 s:Nat
 acc:List XCode
def mkC(m:RM)(ls:List XCode):DCode->MS->XCode×MS
 | .skip,s=>(.skip,s)
 | .reg d ops,s=>(.reg (bBi s.r m.fz) d ops,⟨s.r+1,s.l,s.s,s.acc⟩)
 | .seq a b,s=>match mkC m ls a s with|(x,s)=>match mkC m ls b s with|(y,s)=>(.seq x y,s)
 | .cond c a b,s=>match mkC m ls a s with|(x,s)=>match mkC m ls b s with|(y,s)=>(.cond c x y,s)
 | .block id a,s=>match mkC m ls a s with|(x,s)=>(.block id x,s)
 | .loop a,s=>match mkC m ls a s with|(x,s)=>(aMX (.loop (aMX [] m.lv s.l) x) ls s.l,⟨s.r,s.l+1,s.s,s.acc++[.loop (aMX [] m.lv s.l) x]⟩)
 | .scope a,s=>match mkC m ls a s with|(x,s)=>(.scope x,s)
 | .rng f ps a b,s=>match mkC m ls a ⟨s.r,s.l,s.s+1,s.acc⟩with|(x,s1)=>match mkC m ls b s1 with|(y,s2)=>(.rng s.s (aMX [] m.sv s.s) f ps x y,s2)
 | .exit id,s=>(.exit id,s)
 | .ret,s=>(.ret,s)
noncomputable def mkG(P:Program)(fn:Func)(m:RM)(oa or:Bool)(ls:List XCode):XFn×List XCode:=match fn.body with
 | none=>(⟨0,[],oa,or,.skip,none,none⟩,[])
 | some c=>match aJq P fn.ntmps c with
   | none=>(⟨0,[],oa,or,.skip,none,none⟩,[])
   | some (dfr,b)=>match mkC m ls b ⟨0,0,0,[]⟩with
     | (x,s)=>(⟨fn.ntmps,(fn.results.toList.mapM (aCF P)).getD [],oa,or,x,dfr,none⟩,s.acc)
noncomputable def mkF(P:Program)(fn:Func)(m:RM)(oa or:Bool)(ls:List XCode):XFn:=(mkG P fn m oa or ls).1
noncomputable def mkL(P:Program)(fn:Func)(m:RM)(j:Nat)(ls:List XCode):XCode:=aMX .skip (mkG P fn m false false ls).2 j
end
section
open Go.RowKit
variable{P:Program}{D:Nat->Option XFn}
theorem SH.none:SH D (λ_=>Option.none) (λ_=>Option.none) [] noH :=
 ⟨λb c hb=>by simp at hb,λb c c' x y hx=>by grind,λb x hx=>by simp[hat]at hx,GhR.no λb st p hx=>by simp[hat]at hx⟩
theorem bCD(ok:XOk P D){n K:Nat}{as:List AV}{v:AV}{h':XH}(hrun:dL D n K as []=some (v,h'))(has:∀ a∈as,Gd a)(hv:Gd v){w:World}{vs:Array Value}(gi:GI (λb=>b<w.heap.size) w)(hA:Args (λb=>b<w.heap.size) w as vs) :
 Calls P K vs w λe w'=>∃ F' q,e = .returned q/\Rv F' w' v q/\Below w.heap.size w w':=by
 have hfn:=(oP ok n ⟨λb=>b<w.heap.size,w,gi⟩ (λ_=>Option.none) (λl i h=>by simp at h)).1 (λ_=>Option.none) [] noH K as as v h' SH.none (RnL.self λa ha=>(has a ha).rn) hrun;have hc:=hfn.2 (λb=>b<w.heap.size) w vs (Up.refl _ _) ⟨λb hb=>hb,λb x hb=>by simp[noH]at hb,λb x hb=>by simp[noH]at hb⟩ hA;refine(callsIn_wide.1 hc).mono ?_;rintro e w' ⟨q,v',F',H',rfl,h1,h2,h3,r',_,_,h4⟩;obtain⟨rfl,_⟩:=h4.same hv.gr;exact⟨F',q,rfl,h3,h1.io.os,h1.io.tape,h1.io.output,h1.le,λk hk=>h1.same k hk (by rfl)⟩
theorem aTv{F:Nat->Prop}{w:World}{b:Bool}{q:Value}(h:Rv F w (.bool b) q):q = .bool b:=by cases h;rfl
section
variable{H:Type}{enc:TypeId×Value->H}
theorem aES(hl:laidOutB P=true){W W':World}(hb:Below W.heap.size W W'):∀(ts:List TypeId)(vs:List Value)(ds:List (DataW H))(ps:List MemPlace),(ts.all λt=>P.readableRec t&&decide (t<P.types.size))=true ->
 (∀ x∈ps,x.block<W.heap.size)->DataW.TrodAll enc P W 0 (λ_=>true) true ts vs ds ps->DataW.TrodAll enc P W' 0 (λb=>decide (b<W.heap.size)) true ts vs ds ps
 | [],[],[],ps,_,_,h=>h
 | t::ts,v::vs,d::ds,ps,ht,hlt,h=>by
   obtain⟨p,q,h1,h2,rfl⟩:=h;simp only[O3,B4,AAf]at ht;exact⟨p,q,Below.trod hl ht.1.1 ht.1.2 h1 hb (λx hx=>hlt x (by simp[hx])),aES hl hb ts vs ds q ht.2 (λx hx=>hlt x (by simp[hx])) h2,rfl⟩
 | [],[],_::_,_,_,_,h=>h.elim
 | [],_::_,_,_,_,_,h=>h.elim
 | _::_,[],_,_,_,_,h=>h.elim
 | _::_,_::_,[],_,_,_,h=>h.elim
theorem aQx(hl:laidOutB P=true){f:Func}{s:ChangeSpec}{W W':World}{args:Array Value}{ds gs:List (DataW H)}{before:List MemPlace}{t:TypeId}
 (hW:DataW.Whole enc P f.params.toList s.vars false W args.toList ds gs before) (hv:s.vars=[]) (hs:(s.fn H (ds++gs)).results=[.lit (.bool true)]) (hs2:(s.fn H (ds++gs)).args=ds) (hs3:(s.fn H (ds++gs)).vars=[])
 (ht:f.resultTypes = #[t]) (hu:P.underlying t=some .bool) (hp:(f.params.toList.all λt=>P.readableRec t&&decide (t<P.types.size))=true) (hb:Below W.heap.size W W') :
 s.post enc P f false true false false W args (.bool true) W':=by
 have hlt:=hW.lt;have hW0:=hW;obtain⟨p,q,h1,h2,rfl,h4,h5⟩:=hW;rw[hv]at h2;cases gs with
 | cons g gs=>exact h2.elim
 | nil =>
   have hq:q=[]:=h2;subst hq;refine⟨ds,[],p++[],[],p,[],hW0,?_,?_,?_,?_,λh=>by cases h⟩
   .rw[hs,ht]
    exact⟨[],[],RowKit.shut_bool hu true,rfl,rfl⟩
   .grind [aES]
   .rw[hs3,hv]
    exact rfl
   .exact World.keptBut_mono (λx hx=>⟨by grind,.inr (.inl hx)⟩) (hb.frame (· ∈ p))
end
variable{P:Program}{H:Type}{enc:TypeId×Value->H}{w:World}{spare:Nat->Bool}{held:Bool}
inductive CT where
 | int (k:IntKind)
 | bool
 | str
 | sl (r:List CT)
inductive Sh:CT->AV->Prop where
 | int (k:IntKind) (n:Int) (h:(Lit.int k n).wf=true):Sh (.int k) (.int k n)
 | bool (b:Bool):Sh .bool (.bool b)
 | str (s:ByteArray) (h:s.size<=maxLen):Sh .str (.str s)
 | sl (r:List CT) (rows:List (List AV)) (hl:∀ row∈rows,row.length=r.length) (hn:rows.length<=maxLen) (h:∀ row∈rows,∀(i:Nat)(c:CT)(a:AV),r[i]?=some c->row[i]?=some a->Sh c a):Sh (.sl r) (.fs rows)
inductive Flat(P:Program):TypeId->List CT->Prop where
 | int {t:TypeId} {k:IntKind} (h:P.underlying t=some (.int k)):Flat P t [.int k]
 | bool {t:TypeId} (h:P.underlying t=some .bool):Flat P t [.bool]
 | str {t:TypeId} (h:P.underlying t=some .string):Flat P t [.str]
 | sl {t e:TypeId} {r:List CT} (h:P.underlying t=some (.slice e)) (he:Flat P e r) (hc:P.cellsOf e=r.length) (h0:0<r.length):Flat P t [.sl r]
 | struct {t:TypeId} {fs:Array Field} (rs:List (List CT)) (h:P.underlying t=some (.struct fs)) (hl:rs.length=fs.size) (hf:∀(i:Nat)(f:Field)(r:List CT),fs[i]?=some f->rs[i]?=some r->Flat P f.type r)
  (hc:∀(i:Nat)(f:Field)(r:List CT),fs[i]?=some f->rs[i]?=some r->P.cellsOf f.type=r.length/\f.offset=((rs.take i).flatten).length) (ht:P.cellsOf t=rs.flatten.length):Flat P t rs.flatten
 | array {t e:TypeId} {n:Nat} {r:List CT} (h:P.underlying t=some (.array n e)) (he:Flat P e r) (hc:P.cellsOf e=r.length) (ht:P.cellsOf t=n*r.length):Flat P t (List.replicate n r).flatten
inductive DecL(F:Nat->Prop)(w:World):List CT->List AV->List Value->Prop where
 | nil:DecL F w [] [] []
 | cons {c:CT} {a:AV} {v:Value} {cs:List CT} {as:List AV} {vs:List Value} (h1:Sh c a) (h2:Rv F w a v) (h3:v.oneCell'=true) (h:DecL F w cs as vs):DecL F w (c::cs) (a::as) (v::vs)
theorem DecL.append{F:Nat->Prop}{cs cs':List CT}{as as':List AV}{vs vs':List Value}(h:DecL F w cs as vs)(h':DecL F w cs' as' vs'):DecL F w (cs++cs') (as++as') (vs++vs'):=by
 induction h with
 | nil=>exact h'
 | cons h1 h2 h3 _ ih=>exact .cons h1 h2 h3 ih
theorem DecL.len{F:Nat->Prop}{cs:List CT}{as:List AV}{vs:List Value}(h:DecL F w cs as vs):as.length=cs.length/\vs.length=cs.length:=by
 induction h with
 | nil=>omega
 | cons _ _ _ _ ih=>simp[ih]
theorem DecL.sh{F:Nat->Prop}{cs:List CT}{as:List AV}{vs:List Value}(h:DecL F w cs as vs):∀(i:Nat)(c:CT)(a:AV),cs[i]?=some c->as[i]?=some a->Sh c a:=by
 induction h with
 | nil=>grind
 | cons h1 _ _ _ ih =>
   grind
theorem DecL.rv{F:Nat->Prop}{cs:List CT}{as:List AV}{vs:List Value}(h:DecL F w cs as vs):∀(i:Nat)(a:AV)(v:Value),as[i]?=some a->vs[i]?=some v->Rv F w a v/\v.oneCell'=true:=by
 induction h with
 | nil=>grind
 | cons h1 h4 h5 _ ih =>
   grind
theorem trod_array{fuel:Nat}{t e:TypeId}{n:Nat}{cs:List Value}{x:DataW H×List MemPlace}(ht:P.underlying t=some (.array n e))(h:DataW.trod enc P w 0 spare held fuel t cs=some x) :
 cs.length=P.cellsOf t/\∃ m,∀ i,i<n->∃ y,DataW.trod enc P w 0 spare held m e ((cs.drop (i*P.cellsOf e)).take (P.cellsOf e))=some y:=by
 cases fuel with
 | zero=>simp[DataW.trod]at h
 | succ m =>
   unfold DataW.trod at h;rw[ht]at h;split at h<;>simp_all
   obtain⟨hl,xs,hp,hd⟩:=h;refine⟨m,λi hi=>?_⟩;have hlen:=mapM_some_length hp;have:=mapM_some_get hp i i (by simp[hi])
   grind
theorem aKQ{b o:Nat}{sp:Option Nat}{v:Value}(h:w.cell? ⟨b,o,sp⟩=some v):sp=none/\b<w.heap.size:=by
 unfold World.cell? at h;split at h
 .rename_i c _ _ hb
  refine⟨?_,?_⟩;·simp_all
  grind
 .simp at h
theorem aUH{b o i j:Nat}:((⟨b,o,none⟩:Addr).add i).add j=⟨b,o+i+j,none⟩:=by
 unfold Addr.add
 grind
theorem aKc{t:TypeId}{tys:List CT}(hf:Flat P t tys):∀{fuel:Nat}{cs:List Value}{x:DataW H×List MemPlace},DataW.trod enc P w 0 spare held fuel t cs=some x->∃ as,DecL (λb=>b<w.heap.size) w tys as cs:=by
 induction hf with
 | int h =>
   intro fuel cs x hx;obtain⟨n,rfl,_,hw⟩:=DataW.trod_int h hx;exact⟨_,.cons (.int _ n hw) (.int _ n) rfl .nil⟩
 | bool h =>
   intro fuel cs x hx;obtain⟨b,rfl,_⟩:=DataW.trod_bool h hx;exact⟨_,.cons (.bool b) (.bool b) rfl .nil⟩
 | str h =>
   intro fuel cs x hx;obtain⟨s,rfl,_,hs⟩:=DataW.trod_string h hx;exact⟨_,.cons (.str s hs) (.str s) rfl .nil⟩
 | @sl t e r h he hc h0 ih =>
   intro fuel cs x hx;rcases DataW.trod_slice h hx with ⟨rfl,_⟩|⟨a,len,cap,elems,rest,n,_,rfl,_,_,hlc,hcm,hel,hg,_,_⟩;·exact⟨_,.cons (.sl r [] (by simp) (by simp) (by simp)) (.fs0 none 0) rfl .nil⟩
   .rcases aD6 len with hz|hz
    .subst hz
     exact⟨_,.cons (.sl r [] (by simp) (by simp) (by simp)) (.fs0 (some a) cap) rfl .nil⟩
    .have hrow:∀ i,∃ p:List AV×List Value,i<len->DecL (λb=>b<w.heap.size) w r p.1 p.2/\w.cells? 0 (a.add (i*r.length)) r.length=some p.2:=by
      intro i;by_cases hi:i<len
      .have:=hg i hi
       rw[B7 AS,hc,E9]at this;obtain⟨vs,h1,h2⟩:=this;obtain⟨as,h3⟩:=ih h2;exact⟨(as,vs),λ_=>⟨h3,h1⟩⟩
      .exact⟨([],[]),λhh=>absurd hh hi⟩
     obtain⟨f,hfr⟩:=Classical.axiomOfChoice hrow;obtain⟨blk,off,sp⟩:=a;have hsp:sp=none/\blk<w.heap.size:=by
      obtain⟨h1,h2⟩:=hfr 0 hz;obtain⟨_,h4,h5⟩:=World.cells?_some h2;have h6:=h5 0 h0;rw[B7 AS]at h6;simp only[Nat.zero_mul]at h6;unfold Addr.add at h6;simp only[AAe]at h6;exact aKQ h6
     obtain⟨rfl,hblk⟩:=hsp;have hcell:∀ i,i<len->∀ j,j<r.length->w.cell? ⟨blk,off+i*r.length+j,none⟩=(f i).2[j]?:=by
      intro i hi j hj;obtain⟨_,h2⟩:=hfr i hi;obtain⟨_,_,h5⟩:=World.cells?_some h2
      grind [aUH]
     have hrl:((List.range len).map λi=>(f i).1).length=len:=by simp
     have hget:∀(i:Nat)(row:List AV),((List.range len).map λi=>(f i).1)[i]?=some row->i<len/\row=(f i).1:=by
      grind
     refine⟨[.fs ((List.range len).map λi=>(f i).1)],.cons (.sl r _ ?_ ?_ ?_) ?_ rfl .nil⟩
     .intro row hm
      simp only[F8,I2]at hm;obtain⟨i,hi,rfl⟩:=hm;exact(hfr i hi).1.len.1
     .omega
     .intro row hm
      simp only[F8,I2]at hm;obtain⟨i,hi,rfl⟩:=hm;exact(hfr i hi).1.sh
     .have:=Rv.fs (F:=λb=>b<w.heap.size) (w:=w) ((List.range len).map λi=>(f i).1) blk off r.length cap (λi j=>if i<len/\j<r.length then ((f i).2[j]?).getD (.bool false) else .bool false)
       AS hblk ?_ ?_ ?_ ?_
      .grind
      .intro row hm
       simp only[F8,I2]at hm;obtain⟨i,hi,rfl⟩:=hm;exact(hfr i hi).1.len.1
      .intro i row j c h1 h2
       obtain⟨hi,rfl⟩:=hget i row h1;have hl:=(hfr i hi).1.len
       grind
      .intro i j
       by_cases hij:i<len/\j<r.length
       .rw[if_pos hij]
        have hl:=(hfr i hij.1).1.len;rw[B7 AS];simp only[G5];exact((hfr i hij.1).1.rv j _ _ (B7 AS) (B7 AS)).2
       .rw[if_neg hij];rfl
      .intro i row j c h1 h2
       obtain⟨hi,rfl⟩:=hget i row h1;have hl:=(hfr i hi).1.len;have hj:j<r.length:=by
        grind
       rw[if_pos ⟨hi,hj⟩,B7 AS];exact((hfr i hi).1.rv j c _ h2 (B7 AS)).1
 | @struct t fs rs h hl hf hc ht ih =>
   intro fuel cs x hx;obtain⟨xs,n,_,_,hlen,hxs,hfld⟩:=DataW.trod_struct h hx;have key:∀ k,k<=rs.length->∃ as,DecL (λb=>b<w.heap.size) w (rs.take k).flatten as (cs.take ((rs.take k).flatten).length):=by
    intro k;induction k with
    | zero=>intro _;exact⟨[],by simpa using DecL.nil⟩
    | succ k ihk =>
      intro hk;obtain⟨as,h1⟩:=ihk AS;have hr:rs[k]?=some rs[k]:=B7 AS;have hfk:fs[k]?=some fs[k]:=E8 AS;obtain⟨c1,c2⟩:=hc k _ _ hfk hr;have h2:=hfld k _ hfk;rw[B7 AS]at h2;obtain⟨as',h3⟩:=ih k _ _ hfk hr h2;refine⟨as++as',?_⟩;rw[D6,hr,Option.toList_some,aC8,E6,List.take_add];simp only[M6,aA7,J3];rw[c1,c2]at h3;exact h1.append h3
   obtain⟨as,h1⟩:=key rs.length (B5 _)
   grind
 | @array t e n r h he hc ht ih =>
   intro fuel cs x hx;obtain⟨hlen,m,hy⟩:=trod_array h hx;have key:∀ k,k<=n->∃ as,DecL (λb=>b<w.heap.size) w (List.replicate k r).flatten as (cs.take (k*r.length)):=by
    intro k;induction k with
    | zero=>intro _;exact⟨[],by simpa using DecL.nil⟩
    | succ k ihk =>
      intro hk;obtain⟨as,h1⟩:=ihk AS;obtain⟨y,h2⟩:=hy k AS;obtain⟨as',h3⟩:=ih h2;refine⟨as++as',?_⟩;rw[aC1,aC8,aG1,List.take_add];simp only[M6,aA7,J3,Nat.one_mul];rw[hc]at h3;exact h1.append h3
   obtain⟨as,h1⟩:=key n (B5 _)
   grind
def FF(P:Program):Nat->List Field->List (List CT)->Prop
 | _,[],[]=>True
 | o,f::fs,r::rs=>Flat P f.type r/\P.cellsOf f.type=r.length/\f.offset=o/\FF P (o+r.length) fs rs
 | _,_,_=>False
theorem FF.get:∀{o:Nat}{fs:List Field}{rs:List (List CT)},FF P o fs rs->rs.length=fs.length/\∀(i:Nat)(f:Field)(r:List CT),fs[i]?=some f->rs[i]?=some r->Flat P f.type r/\P.cellsOf f.type=r.length/\f.offset=o+((rs.take i).flatten).length
 | o,[],[],_=>⟨rfl,λi f r h=>by simp at h⟩
 | o,f::fs,r::rs,h=>by
   obtain⟨h1,h2,h3,h4⟩:=h;obtain⟨l1,l2⟩:=FF.get h4;refine⟨by simp[l1],λi f' r' e1 e2=>?_⟩;cases i with
   | zero =>
     simp only[F6,oSI]at e1 e2;subst e1;subst e2;exact⟨h1,h2,by simpa using h3⟩
   | succ i =>
     obtain⟨k1,k2,k3⟩:=l2 i f' r' (by simpa using e1) (by simpa using e2);refine⟨k1,k2,?_⟩;rw[k3,List.take_succ_cons,M6,E6];omega
 | _,[],_::_,h=>h.elim
 | _,_::_,[],h=>h.elim
theorem Flat.mk{t:TypeId}{fs:Array Field}{rs:List (List CT)}(h:P.underlying t=some (.struct fs))(hf:FF P 0 fs.toList rs)(ht:P.cellsOf t=rs.flatten.length):Flat P t rs.flatten:=by
 obtain⟨l1,l2⟩:=hf.get;refine .struct rs h AS (λi f r h1 h2=>(l2 i f r (by grind) h2).1) (λi f r h1 h2=>?_) ht
 grind
theorem Sh.gd{c:CT}{a:AV}(h:Sh c a):Gd a:=by
 induction h with
 | int k n h=>exact .int k n
 | bool b=>exact .bool b
 | str s h=>exact .str s
 | sl r rows hl hn h ih =>
   refine .fs rows λrow hr c hc=>?_;obtain⟨i,hi,he⟩:=List.mem_iff_getElem.1 hc;have hi':i<r.length:=by grind
   exact ih row hr i r[i] c (B7 hi') (by grind)
theorem aMm{t:TypeId}{c:CT}(hf:Flat P t [c]){v:Value}(hv:v.cells.toList=[v]){d:DataW H}{ps:List MemPlace}(hd:DataW.Trod enc P w 0 spare held t v d ps) :
 ∃ a,Sh c a/\Rv (λb=>b<w.heap.size) w a v:=by
 obtain⟨fuel,h⟩:=hd;rw[hv]at h;obtain⟨as,h1⟩:=aKc hf h;cases h1 with
 | cons h1 h2 h3 h4=>grind
theorem aQw{D:Nat->Option XFn}(ok:XOk P D){K:Nat}{as:List AV}(hrun:runW D K as []=some (.bool true,[]))(has:∀ a∈as,Gd a){vs:Array Value}(gi:GI (λb=>b<w.heap.size) w)(hA:Args (λb=>b<w.heap.size) w as vs) :
 Calls P K vs w λe w'=>e = .returned (.bool true)/\Below w.heap.size w w':=by
 obtain⟨n,hn⟩:=bU.1 hrun;refine(bCD ok hn has (.bool true) gi hA).mono ?_
 grind [aTv]
variable{P:Program}{D:Nat->Option XFn}{F F':Nat->Prop}{w w':World}{H:Hp}
theorem aAk{b:Nat}{o:Obj}(h:w.heap[b]?=some o):b<w.heap.size:=by
 grind
theorem Up.below(hs:∀ b,F b->F' b)(hl:∀ b,F b->b<w.heap.size)(hb:Below w.heap.size w w'):Up F w F' w' :=
 ⟨hs,λb h=>hb.block b (hl b h),λb c e fr h=>⟨c,e,fr,by rw[hb.block b (aAk h)];exact h,rfl⟩,hb.size⟩
theorem Ext.below(hs:∀ b,F b->F' b)(hn:∀ b,F' b->F b\/w.heap.size<=b)(hb:Below w.heap.size w w'):Ext F w H F' w' H where
 sub:=hs
 fnew:=λb h=>(hn b h).elim .inl λh=>.inr (.inr h)
 hdom:=λ_ h=>.inl h
 hnew:=λ_ h=>.inl h
 le:=hb.size
 same:=λb h _=>hb.block b h
 cells:=λb c e fr h=>⟨c,e,fr,by rw[hb.block b (aAk h)];exact h,rfl⟩
 io:=⟨hb.os,hb.tape,hb.output⟩
theorem St.below(hs:∀ b,F b->F' b)(hn:∀ b,F' b->F b\/w.heap.size<=b)(hl:∀ b,F' b->b<w'.heap.size)(st:St F w H)(hb:Below w.heap.size w w'):St F' w' H :=
 ⟨hl,λb x h hf=>by
  obtain⟨o,h1,_⟩:=st.blk b x h;rcases hn b hf with h2|h2;·exact st.dis b x h h2
  grind,
 λb x h=>by
  obtain⟨o,h1,h2⟩:=st.blk b x h;exact⟨o,by rw[hb.block b (aAk h1)];exact h1,h2.up (Up.below hs st.lt hb)⟩⟩
theorem FnW.shelfG{B:Base}{f:FuncId}{as:List AV}{v:AV}{Q:AV->Hp->Prop}
 (hq:∀(vs:Array Value)(w:World),(callFunc f vs).run P w = .ok (.enter f vs) w)
 (hc:∀(F:Nat->Prop)(w:World)(vs:Array Value),GI F w->(∀ b,F b->b<w.heap.size)->Args F w as vs->Calls P f vs w λe w'=>∃ r F',e = .returned r/\Below w.heap.size w w' /\
  (∀ b,F b->F' b)/\(∀ b,F' b->F b\/w.heap.size<=b)/\(∀ b,F' b->b<w'.heap.size)/\Rv F' w' v r)
 (hQ:Q v H):FnW B P f as H Q :=
 ⟨hq,λF w vs hB st ha=>callsIn_wide.2 ((hc F w vs (B.gi.up hB) st.lt ha).mono λe w' ⟨r,F',he,hb,hs,hn,hl,hr⟩=>⟨r,v,F',H,he,Ext.below hs hn hb,St.below hs hn hl st hb,hr,hQ⟩)⟩
theorem FnW.shelfN{B:Base}{f:FuncId}{as:List AV}{v:AV}{Q:AV->Hp->Prop}
 (hq:∀(vs:Array Value)(w:World),(callFunc f vs).run P w = .ok (.enter f vs) w)
 (hc:∀(F:Nat->Prop)(w:World)(vs:Array Value),(∀ b,F b->b<w.heap.size)->Args F w as vs->Calls P f vs w λe w'=>∃ r F',e = .returned r/\Below w.heap.size w w' /\
  (∀ b,F b->F' b)/\(∀ b,F' b->F b\/w.heap.size<=b)/\(∀ b,F' b->b<w'.heap.size)/\Rv F' w' v r)
 (hQ:Q v H):FnW B P f as H Q :=
 ⟨hq,λF w vs _ st ha=>callsIn_wide.2 ((hc F w vs st.lt ha).mono λe w' ⟨r,F',he,hb,hs,hn,hl,hr⟩=>⟨r,v,F',H,he,Ext.below hs hn hb,St.below hs hn hl st hb,hr,hQ⟩)⟩
theorem FnW.shelf{B:Base}{f:FuncId}{as:List AV}{v:AV}{r:Array Value->Value}{Q:AV->Hp->Prop}
 (hq:∀(vs:Array Value)(w:World),(callFunc f vs).run P w = .ok (.enter f vs) w)
 (hr:∀(F:Nat->Prop)(w:World)(vs:Array Value),Rv F w v (r vs))
 (hc:∀(F:Nat->Prop)(w:World)(vs:Array Value),(∀ b,F b->b<w.heap.size)->Args F w as vs->Calls P f vs w λe w'=>e = .returned (r vs)/\Below w.heap.size w w')
 (hQ:Q v H):FnW B P f as H Q :=
 FnW.shelfN hq (λF w vs hl ha=>(hc F w vs hl ha).mono λe w' ⟨he,hb⟩=>⟨r vs,F,he,hb,λ_ h=>h,λ_ h=>.inl h,λb h=>E5 (hl b h) hb.size,hr _ _ _⟩) hQ
theorem Args.cons1{F:Nat->Prop}{w:World}{a:AV}{as:List AV}{vs:Array Value}(h:Args F w (a::as) vs):∃ v vs',vs = #[v]++vs'/\Rv F w a v/\Args F w as vs':=by
 obtain⟨hl,h⟩:=h;rcases vs with ⟨_|⟨v,r⟩⟩;·simp at hl
 .refine⟨v,r.toArray,by simp,h 0 a v rfl (by simp),by grind,λi x y hx hy=>h (i+1) x y (by grind) (by grind)⟩
theorem Args.nil1{F:Nat->Prop}{w:World}{vs:Array Value}(h:Args F w [] vs):vs = #[]:=by
 grind [Args]
theorem Args.strInt{F:Nat->Prop}{w:World}{s:ByteArray}{k:IntKind}{n:Int}{vs:Array Value}(h:Args F w [.str s,.int k n] vs):vs = #[.string s,.int k n]:=by
 obtain⟨a,as,rfl,h1,h2⟩:=h.cons1;obtain⟨b,bs,rfl,h3,h4⟩:=h2.cons1;cases h1;cases h3;rw[h4.nil1];rfl
theorem Args.strStr{F:Nat->Prop}{w:World}{s t:ByteArray}{vs:Array Value}(h:Args F w [.str s,.str t] vs):vs = #[.string s,.string t]:=by
 obtain⟨a,as,rfl,h1,h2⟩:=h.cons1;obtain⟨b,bs,rfl,h3,h4⟩:=h2.cons1;cases h1;cases h3;rw[h4.nil1];rfl
end
section
abbrev I(n:Int):AV:=.int .i64 n
theorem aE{n:Int}(h1 : -9223372036854775808<=n)(h2:n<=9223372036854775807):IntKind.i64.wrap n=n:=by
 simp[IntKind.wrap,IntKind.bits,IntKind.signed];omega
def aAt(k:Nat)(L:List Nat)(e:aJ)(h:XH):List AV:=mR (keepS k (dH k (L.map e) h)) (L.map e)
def bT(k:Nat)(L:List Nat)(r:Option (DX×aJ×XH)):Option (List AV×XH):=match r with
 | some (.normal,e,h)=>some (aAt k L e h,qB k L e h)
 | _=>none
theorem Rj(k:Nat)(L:List Nat)(e:aJ)(h:XH):bT k L (some (.normal,e,h))=some (aAt k L e h,qB k L e h):=rfl
def aHD(r:Option (DX×aJ×XH)):Bool:=match r with
 | some (.normal,_,_)=>false
 | some _=>true
 | none=>false
theorem aG{D:Nat->Option XFn}{K k:Nat}{rd:Option Nat}{L:List Nat}{a:XCode}{e:aJ}{h:XH}(n:Nat)(S:Nat->List AV)(G:Nat->XH)(h0:bT k L (some (.normal,e,h))=some (S 0,G 0))
 (hs:∀ i,i<n->bT k L (execW D K k rd a (aY L (S i)) (G i))=some (S (i+1),G (i+1))) (hl:aHD (execW D K k rd a (aY L (S n)) (G n))=true) :
 execW D K k rd (.loop L a) e h=execW D K k rd a (aY L (S n)) (G n):=by
 have key:∀(m i:Nat)(e:aJ)(h:XH),m+i=n->bT k L (some (.normal,e,h))=some (S i,G i)->execW D K k rd (.loop L a) e h=execW D K k rd a (aY L (S n)) (G n):=by
  intro m;induction m with
  | zero =>
    intro i e h hi h0;have:i=n:=AS
    subst this;rw[uN];simp only[bT,oSI,B9]at h0;have e1:rQ k L e h=aY L (S i):=by rw[<-h0.1];rfl
    rw[e1,h0.2];revert hl;cases execW D K k rd a (aY L (S i)) (G i)with
    | none=>intro hl;rfl
    | some q =>
      obtain⟨x,e',h'⟩:=q;cases x with
      | normal=>intro hl;simp[aHD]at hl
      | exit id=>intro _;rfl
      | ret=>intro _;rfl
  | succ m ih =>
    intro i e h hi h0;rw[uN];simp only[bT,oSI,B9]at h0;have e1:rQ k L e h=aY L (S i):=by rw[<-h0.1];rfl
    rw[e1,h0.2];have h1:=hs i AS;revert h1;cases execW D K k rd a (aY L (S i)) (G i)with
    | none=>intro h1;simp[bT]at h1
    | some q =>
      obtain⟨x,e',h'⟩:=q;cases x with
      | normal=>intro h1;exact ih (i+1) e' h' AS h1
      | exit id=>intro h1;simp[bT]at h1
      | ret=>intro h1;simp[bT]at h1
 exact key n 0 e h AS h0
section
variable{run:fC}{runY:gR}{d:Option Nat}{e:aJ}{h:XH}{ix:Nat}{r:List DOper}{D:Nat->Option XFn}{K k:Nat}{rd:Option Nat}{m:Option (List (Nat×Nat))}{op:DOp}{v:AV}
theorem Za{j:Nat}:upd e k v j=if j=k then v else e j:=rfl
theorem Zb:bD e (some k) v=upd e k v:=rfl
theorem Zc:bD e none v=e:=rfl
theorem Zd{α β:Type}{a:α}{b:β}:(a,b).fst=a:=rfl
theorem Ze{α β:Type}{a:α}{b:β}:(a,b).snd=b:=rfl
def aQW(r:Option (aJ×XH)):Option (DX×aJ×XH):=r.map λr=>(.normal,r.1,r.2)
theorem Zf:aQW (some (e,h))=some (.normal,e,h):=rfl
def xo(m:Option (List (Nat×Nat)))(run:fC)(runY:gR)(ops:List DOper)(e:aJ)(h:XH):Option (aJ×XH):=match m with
 | none=>fP run runY ops e h
 | some L=>fV run runY ops e h L
def aWO(m:Option (List (Nat×Nat)))(run:fC)(runY:gR)(ops:List DOper)(p:aJ×XH):Option (DX×aJ×XH):=aQW (xo m run runY ops p.1 p.2)
theorem Zg{ops:List DOper}:aWO m run runY ops (e,h)=aQW (xo m run runY ops e h):=rfl
theorem Zh{ops:List DOper}:execW D K k rd (.reg [] false ops) e h=aQW (xo none (runW D) (runYW D) ops e h):=aEB
theorem Zi{ops:List DOper}:execW D K k rd (.reg [] true ops) e h=aQW (xo (some []) (runW D) (runYW D) ops e h):=aEC
theorem Zj{a:Nat×Bool}{fz:List (Nat×Bool)}{ops:List DOper}:execW D K k rd (.reg (a::fz) false ops) e h=aWO none (runW D) (runYW D) ops (fzX (a::fz) e h):=aEB
theorem Zk{a:Nat×Bool}{fz:List (Nat×Bool)}{ops:List DOper}:execW D K k rd (.reg (a::fz) true ops) e h=aWO (some []) (runW D) (runYW D) ops (fzX (a::fz) e h):=aEC
theorem Zl:xo m run runY [] e h=some (e,h):=by cases m<;>rfl
def lkM(q:Bool)(k:AV):Option ABlk->Option (Option AV)
 | some (.map _ es)=>aV q k es
 | _=>none
def kV(m:Option (List (Nat×Nat)))(run:fC)(runY:gR)(r:List DOper)(d:Option Nat)(e:aJ)(h:XH):Option AV->Option (aJ×XH)
 | some v=>xo m run runY r (bD e d v) h
 | none=>none
theorem Zm:kV m run runY r d e h (some v)=xo m run runY r (bD e d v) h:=rfl
def kE(m:Option (List (Nat×Nat)))(run:fC)(runY:gR)(r:List DOper)(d:Option Nat)(e:aJ)(h:XH)(g:Bool):Option Eff->Option (aJ×XH)
 | some (.val v)=>xo m run runY r (bD e d v) h
 | some (.new own x f)=>xo m run runY r (bD e d (f h.length)) (vV h own g x)
 | none=>none
theorem Zn{g:Bool}:kE m run runY r d e h g (some (.val v))=xo m run runY r (bD e d v) h:=rfl
theorem Zo{g:Bool}{own:Option Nat}{x:ABlk}{f:Nat->AV}:kE m run runY r d e h g (some (.new own x f))=xo m run runY r (bD e d (f h.length)) (vV h own g x):=rfl
theorem aQA{g:Bool}{q:Option Eff}:(match q with
 | some (.val v)=>some (bD e d v,h)
 | some (.new own x f)=>some (bD e d (f h.length),vV h own g x)
 | none=>none).bind (λs=>xo m run runY r s.1 s.2)=kE m run runY r d e h g q:=by cases q with
 | none=>rfl
 | some q=>cases q<;>rfl
theorem zX (h1:dJ run runY d op e h=match aD op e (aH h)with
 | some (.val v)=>some (bD e d v,h)
 | some (.new own x f)=>some (bD e d (f h.length),vV h own (jQ op e h) x)
 | none=>none) (h2:∀ L,aNa ix op e L=L) (h3:∀ L,zQ op e h L=true) (h4:∀ L h',aCU op e h h' L=true) :
 xo m run runY (⟨ix,d,op,none⟩::r) e h=kE m run runY r d e h (jQ op e h) (aD op e (aH h)):=by
 rw[<-aQA];cases m with
 | none=>simp only[xo,fP,gd,h1]
 | some L=>simp only[xo,fV,gd,h1,h2,h3,h4,AAe]
def rY(q:Option AV):Option Eff:=q.map .val
theorem tR{q:Option AV} (h1:dJ run runY d op e h=match aD op e (aH h)with
 | some (.val v)=>some (bD e d v,h)
 | some (.new own x f)=>some (bD e d (f h.length),vV h own (jQ op e h) x)
 | none=>none) (h5:aD op e (aH h)=rY q) (h2:∀ L,aNa ix op e L=L) (h3:∀ L,zQ op e h L=true) (h4:∀ L h',aCU op e h h' L=true) :
 xo m run runY (⟨ix,d,op,none⟩::r) e h=kV m run runY r d e h q:=by
 rw[zX h1 h2 h3 h4,h5];cases q<;>rfl
def aLx(c a b:AV):Option AV:=match c with
 | .bool t=>some (if t then a else b)
 | _=>none
def aRD(neg:Bool)(x y:AV):Option AV:=match x,y with
 | .bool a,.bool b=>some (.bool (if neg then a != b else a==b))
 | _,_=>none
def aXf(x:AV):Option AV:=match x with
 | .bool b=>some (.bool !b)
 | _=>none
def aRj(k:IntKind)(x:AV):Option AV:=match x with
 | .int _ n=>some (.int k (k.wrap n))
 | _=>none
def aUl(off:Nat)(x:AV):Option AV:=match x with
 | .pt b o=>some (.pt b (o+off))
 | .fp r i o=>some (.fp r i (o+off))
 | _=>none
def aNb(q:Bool)(x:AV):Option AV:=match q,x with
 | true,.str s=>some (.int .i64 (s.size:Int))
 | false,.fs rows=>some (.int .i64 (rows.length:Int))
 | false,.sl _ _ _ n=>some (.int .i64 (n:Int))
 | false,.nilsl=>some (.int .i64 0)
 | _,_=>none
def aQF(s:Nat)(x i:AV):Option AV:=match x,i with
    | .sl b o s' len,.int _ n=>if s'=s/\0<=n/\n<(len:Int) then some (.pt b (o+n.toNat*s)) else none
    | .fs rows,.int _ n=>if 0<=n/\n<(rows.length:Int)/\(rows.getD n.toNat []).length=s then some (.fp rows n.toNat 0) else none
    | _,_=>none
def aXr(s:Nat)(rows:List (List AV))(j:Nat):Option (List AV)->Option AV
 | some r=>if r.length=s then some (.fp rows j 0) else none
 | none=>none
def aXI(x:AV)(i:Nat):Option AV:=match x with
 | .tup vs=>vs[i]?
 | _=>none
def aQE(len s:Nat)(x i:AV):Option AV:=match x,i with
    | .pt b o,.int _ n=>if 0<=n/\n<(len:Int) then some (.pt b (o+n.toNat*s)) else none
    | .fp r j o,.int _ n=>if 0<=n/\n<(len:Int) then some (.fp r j (o+n.toNat*s)) else none
    | _,_=>none
def mmM(mx:Bool)(x y:AV):Option AV:=match x,y with
    | .int k a,.int _ b=>some (.int k (if mx then (if b>a then b else a) else (if b<a then b else a)))
    | _,_=>none
def aMb(neg:Bool)(ks:List Nat)(x y:AV):Option AV:=match x,y with
    | .agg cs,.agg ds=>(dX ks cs ds).map λb=>.bool (if neg then !b else b)
    | _,_=>none
def aNo(neg:Bool)(x:Option Bool):Option AV:=match x with
    | some b=>some (.bool (if neg then !b else b))
    | none=>none
def aBi(ok:Bool)(z:AV)(x:Option (Option AV)):Option AV:=match x with
    | some r=>some (xF ok z r)
    | none=>none
def aYe(x:Option (List AV)):Option AV:=match x with
    | some cs=>some (.agg cs)
    | none=>none
def aQC(agg:Bool)(len s:Nat)(x i:AV):Option AV:=match x,i with
    | .agg cs,.int _ n=>if 0<=n/\n<(len:Int) then iZ agg s cs (n.toNat*s) else none
    | _,_=>none
def aQD(x i:AV):Option AV:=match x,i with
    | .str s,.int _ n=>if 0<=n/\n<(s.size:Int) then some (.int .u8 ((s.data.toList.getD n.toNat 0).toNat:Int)) else none
    | _,_=>none
def aEe(x:AV):Option AV:=match x with
    | .pt b o=>some (.pt b o)
    | .bp b=>some (.pt b 0)
    | .fp r i o=>some (.fp r i o)
    | .ifc t v=>some (.ifc t v)
    | _=>none
def kG(m:Option (List (Nat×Nat)))(run:fC)(runY:gR)(o:DOper)(r:List DOper)(e:aJ)(h:XH)(b:Bool):AV->Option (aJ×XH)
 | .bool t=>if t==b then xo m run runY (o::r) e h else xo m run runY r (bD e o.dst (.tup [])) h
 | .tup _=>xo m run runY r (bD e o.dst (.tup [])) h
 | _=>none
theorem Zp{s:Nat}{b:Bool}:xo m run runY (⟨ix,d,op,some (s,b)⟩::r) e h=kG m run runY ⟨ix,d,op,none⟩ r e h b (e s):=by
 cases m with
 | none =>
   simp only[xo,fP,gd];cases e s with
   | bool t=>cases ht:t==b<;>simp[kG,xo,fP,gd,ht]
   | _=>rfl
 | some L =>
   simp only[xo,fV,gd];cases e s with
   | bool t=>cases ht:t==b<;>simp[kG,xo,fV,gd,ht]
   | _=>rfl
theorem Zq{o:DOper}:kG m run runY o r e h true (.bool true)=xo m run runY (o::r) e h:=rfl
theorem Zr{o:DOper}:kG m run runY o r e h false (.bool false)=xo m run runY (o::r) e h:=rfl
theorem Zs{q:DOp}:kG m run runY ⟨ix,d,q,none⟩ r e h true (.bool false)=xo m run runY r (bD e d (.tup [])) h:=rfl
theorem Zt{q:DOp}:kG m run runY ⟨ix,d,q,none⟩ r e h false (.bool true)=xo m run runY r (bD e d (.tup [])) h:=rfl
theorem Zu{q:DOp}{b:Bool}{vs:List AV}:kG m run runY ⟨ix,d,q,none⟩ r e h b (.tup vs)=xo m run runY r (bD e d (.tup [])) h:=rfl
theorem Zv{a:AO}:xo m run runY (⟨ix,d,.mv a,none⟩::r) e h=xo m run runY r (bD e d (aK e a)) h:=(zX rfl (λ_=>rfl) (λ_=>rfl) λ_ _=>rfl).trans rfl
theorem Zw{z:List AV}:xo m run runY (⟨ix,d,.alloc z,none⟩::r) e h=xo m run runY r (bD e d (.pt h.length 0)) (h++[some (.blk (lE z) (.cells true z))]):=(zX rfl (λ_=>rfl) (λ_=>rfl) λ_ _=>rfl).trans rfl
theorem Pq:xo m run runY (⟨ix,d,.allocb,none⟩::r) e h=xo m run runY r (bD e d (.bp h.length)) (h++[some (.blk true (.cells true [.nilpt,.nilsl]))]):=(zX rfl (λ_=>rfl) (λ_=>rfl) λ_ _=>rfl).trans rfl
theorem Zx{f:Fn}{a b:List AO}:xo m run runY (⟨ix,d,.mkf f a b,none⟩::r) e h=xo m run runY r (bD e d (.fn f (a.map (aK e)) (b.map (aK e)))) h:=(zX rfl (λ_=>rfl) (λ_=>rfl) λ_ _=>rfl).trans rfl
theorem Zy{p1:_}{p2:_}{p3:_}:xo m run runY (⟨ix,d,(DOp.pick p1 p2 p3),none⟩::r) e h=kV m run runY r d e h (aLx (aK e p1) (aK e p2) (aK e p3)):=tR rfl (by simp only[aD,rY,aLx];cases aK e p1<;>rfl) (λ_=>rfl) (λ_=>rfl) λ_ _=>rfl
theorem Zz{p1:_}:xo m run runY (⟨ix,d,(DOp.box p1),none⟩::r) e h=kE m run runY r d e h (iD (aK e p1)) (aD (DOp.box p1) e (aH h)):=zX rfl (λ_=>rfl) (λ_=>rfl) λ_ _=>rfl
theorem Z0{p1:_}{p2:_}:xo m run runY (⟨ix,d,(DOp.build p1 p2),none⟩::r) e h=kV m run runY r d e h (aYe (gU p1 (p2.map λp=>(p.1,p.2.1,aK e p.2.2)))):=tR rfl (by simp only[aD,rY,aYe];split<;>simp_all) (λ_=>rfl) (λ_=>rfl) λ_ _=>rfl
theorem Z8{p1:_}{p2:_}{p3:_}{p4:_}:xo m run runY (⟨ix,d,(DOp.bslice p1 p2 p3 p4),none⟩::r) e h=kE m run runY r d e h (lE p3&&p4.all λp=>iD (aK e p.2.2)) (aD (DOp.bslice p1 p2 p3 p4) e (aH h)):=zX rfl (λ_=>rfl) (λ_=>rfl) λ_ _=>rfl
theorem Z9{p1:_}:xo m run runY (⟨ix,d,(DOp.nilck p1),none⟩::r) e h=kV m run runY r d e h (aEe (aK e p1)):=tR rfl (by simp only[aD,rY,aEe];cases aK e p1<;>rfl) (λ_=>rfl) (λ_=>rfl) λ_ _=>rfl
theorem ZA{p1:_}{p2:_}{p3:_}:xo m run runY (⟨ix,d,(DOp.bin p1 p2 p3),none⟩::r) e h=kV m run runY r d e h (aER p1 (aK e p2) (aK e p3)):=tR rfl (by simp only[aD,rY];cases aER p1 (aK e p2) (aK e p3)<;>rfl) (λ_=>rfl) (λ_=>rfl) λ_ _=>rfl
theorem ZB{p1:_}{p2:_}{p3:_}:xo m run runY (⟨ix,d,(DOp.binb p1 p2 p3),none⟩::r) e h=kV m run runY r d e h (aRD p1 (aK e p2) (aK e p3)):=tR rfl (by simp only[aD,rY,aRD];cases aK e p2<;>cases aK e p3<;>rfl) (λ_=>rfl) (λ_=>rfl) λ_ _=>rfl
theorem ZC{p1:_}{p2:_}{p3:_}{p4:_}:xo m run runY (⟨ix,d,(DOp.eqag p1 p2 p3 p4),none⟩::r) e h=kV m run runY r d e h (aMb p1 p2 (aK e p3) (aK e p4)):=tR rfl (by simp only[aD,rY,aMb];cases aK e p3<;>cases aK e p4<;>first|rfl|(simp only[];split<;>simp_all)) (λ_=>rfl) (λ_=>rfl) λ_ _=>rfl
theorem ZD{p1:_}{p2:_}{p3:_}{p4:_}:xo m run runY (⟨ix,d,(DOp.eqn p1 p2 p3 p4),none⟩::r) e h=kV m run runY r d e h (aNo p2 (aBr p1 (aK e p3) (aK e p4))):=tR rfl (by simp only[aD,rY,aNo];cases aBr p1 (aK e p3) (aK e p4)<;>rfl) (λ_=>rfl) (λ_=>rfl) λ_ _=>rfl
theorem ZE{p1:_}:xo m run runY (⟨ix,d,(DOp.not p1),none⟩::r) e h=kV m run runY r d e h (aXf (aK e p1)):=tR rfl (by simp only[aD,rY,aXf];cases aK e p1<;>rfl) (λ_=>rfl) (λ_=>rfl) λ_ _=>rfl
theorem ZF{p1:_}{p2:_}:xo m run runY (⟨ix,d,(DOp.conv p1 p2),none⟩::r) e h=kV m run runY r d e h (aRj p1 (aK e p2)):=tR rfl (by simp only[aD,rY,aRj];cases aK e p2<;>rfl) (λ_=>rfl) (λ_=>rfl) λ_ _=>rfl
theorem ZG{p1:_}{p2:_}:xo m run runY (⟨ix,d,(DOp.fld p1 p2),none⟩::r) e h=kV m run runY r d e h (aUl p1 (aK e p2)):=tR rfl (by simp only[aD,rY,aUl];cases aK e p2<;>rfl) (λ_=>rfl) (λ_=>rfl) λ_ _=>rfl
theorem ZH{p1:_}{p2:_}{p3:_}{p4:_}:xo m run runY (⟨ix,d,(DOp.idxa p1 p2 p3 p4),none⟩::r) e h=kV m run runY r d e h (aQE p1 p2 (aK e p3) (aK e p4)):=tR rfl (by simp only[aD,rY,aQE];cases aK e p3<;>cases aK e p4<;>first|rfl|(simp only[];split<;>rfl)) (λ_=>rfl) (λ_=>rfl) λ_ _=>rfl
theorem ZI{p1:_}{p2:_}{p3:_}:xo m run runY (⟨ix,d,(DOp.idx p1 p2 p3),none⟩::r) e h=kV m run runY r d e h (aQF p1 (aK e p2) (aK e p3)):=tR rfl (by simp only[aD,rY,aQF];cases aK e p2<;>cases aK e p3<;>first|rfl|(simp only[];split<;>rfl)) (λ_=>rfl) (λ_=>rfl) λ_ _=>rfl
theorem ZJ{p1:_}{p2:_}{p3:_}{p4:_}{p5:_}:xo m run runY (⟨ix,d,(DOp.idxv p1 p2 p3 p4 p5),none⟩::r) e h=kV m run runY r d e h (aQC p1 p2 p3 (aK e p4) (aK e p5)):=tR rfl (by simp only[aD,rY,aQC];cases aK e p4<;>cases aK e p5<;>first|rfl|(simp only[];split<;>first|rfl|(split<;>simp_all))) (λ_=>rfl) (λ_=>rfl) λ_ _=>rfl
theorem ZK{p1:_}{p2:_}:xo m run runY (⟨ix,d,(DOp.idxs p1 p2),none⟩::r) e h=kV m run runY r d e h (aQD (aK e p1) (aK e p2)):=tR rfl (by simp only[aD,rY,aQD];cases aK e p1<;>cases aK e p2<;>first|rfl|(simp only[];split<;>rfl)) (λ_=>rfl) (λ_=>rfl) λ_ _=>rfl
theorem ZL{p1:_}{p2:_}{p3:_}{p4:_}{p5:_}:xo m run runY (⟨ix,d,(DOp.mksl p1 p2 p3 p4 p5),none⟩::r) e h=kE m run runY r d e h (lE p3) (aD (DOp.mksl p1 p2 p3 p4 p5) e (aH h)):=zX rfl (λ_=>rfl) (λ_=>rfl) λ_ _=>rfl
theorem ZM{p1:_}{p2:_}{p3:_}{p4:_}{p5:_}:xo m run runY (⟨ix,d,(DOp.slarr p1 p2 p3 p4 p5),none⟩::r) e h=kE m run runY r d e h false (aD (DOp.slarr p1 p2 p3 p4 p5) e (aH h)):=zX rfl (λ_=>rfl) (λ_=>rfl) λ_ _=>rfl
theorem ZN{p1:_}{p2:_}{p3:_}{p4:_}:xo m run runY (⟨ix,d,(DOp.slsl p1 p2 p3 p4),none⟩::r) e h=kE m run runY r d e h false (aD (DOp.slsl p1 p2 p3 p4) e (aH h)):=zX rfl (λ_=>rfl) (λ_=>rfl) λ_ _=>rfl
theorem ZO{p1:_}{p2:_}{p3:_}:xo m run runY (⟨ix,d,(DOp.slstr p1 p2 p3),none⟩::r) e h=kE m run runY r d e h false (aD (DOp.slstr p1 p2 p3) e (aH h)):=zX rfl (λ_=>rfl) (λ_=>rfl) λ_ _=>rfl
theorem ZP:xo m run runY (⟨ix,d,(DOp.mkmap),none⟩::r) e h=kE m run runY r d e h true (aD (DOp.mkmap) e (aH h)):=zX rfl (λ_=>rfl) (λ_=>rfl) λ_ _=>rfl
theorem ZQ{p1:_}{p2:_}{p3:_}{p4:_}{p5:_}:xo m run runY (⟨ix,d,(DOp.lookup p1 p2 p3 p4 p5),none⟩::r) e h=kV m run runY r d e h (aBi p2 p3 (nA p1 (aH h) (aK e p5) (aK e p4))):=tR rfl (by simp only[aD,rY,aBi];cases nA p1 (aH h) (aK e p5) (aK e p4)<;>rfl) (λ_=>rfl) (λ_=>rfl) λ_ _=>rfl
theorem ZR{p1:_}{p2:_}:xo m run runY (⟨ix,d,(DOp.ext p1 p2),none⟩::r) e h=kV m run runY r d e h (aXI (aK e p1) p2):=tR rfl (by simp only[aD,rY,aXI];cases aK e p1<;>first|rfl|(simp only[];split<;>simp_all)) (λ_=>rfl) (λ_=>rfl) λ_ _=>rfl
theorem ZS{p1:_}{p2:_}:xo m run runY (⟨ix,d,(DOp.len p1 p2),none⟩::r) e h=kV m run runY r d e h (aNb p1 (aK e p2)):=tR rfl (by simp only[aD,rY,aNb];cases p1<;>cases aK e p2<;>rfl) (λ_=>rfl) (λ_=>rfl) λ_ _=>rfl
theorem ZT{p1:_}{p2:_}{p3:_}:xo m run runY (⟨ix,d,(DOp.mm p1 p2 p3),none⟩::r) e h=kV m run runY r d e h (mmM p1 (aK e p2) (aK e p3)):=tR rfl (by simp only[aD,rY,mmM];cases aK e p2<;>cases aK e p3<;>rfl) (λ_=>rfl) (λ_=>rfl) λ_ _=>rfl
theorem ZU{p1:_}{p2:_}:xo m run runY (⟨ix,d,(DOp.mkifc p1 p2),none⟩::r) e h=kE m run runY r d e h false (aD (DOp.mkifc p1 p2) e (aH h)):=zX rfl (λ_=>rfl) (λ_=>rfl) λ_ _=>rfl
theorem ZV{p1:_}:xo m run runY (⟨ix,d,(DOp.bytes p1),none⟩::r) e h=kE m run runY r d e h true (aD (DOp.bytes p1) e (aH h)):=zX rfl (λ_=>rfl) (λ_=>rfl) λ_ _=>rfl
theorem ZW{a:Bool}{n:Nat}{x:AO}:xo none run runY (⟨ix,d,.load a n x,none⟩::r) e h=kV none run runY r d e h (fM a n (aH h) (aK e x)):=by
 show fP run runY _ e h=_;simp only[fP,gd,dJ,aD];cases fM a n (aH h) (aK e x)<;>rfl
def aXn(ix:Nat)(v:AV)(L:List (Nat×Nat)):List (Nat×Nat):=match fB v with
 | some b=>(ix,b)::L
 | none=>L
theorem ZX{b o:Nat}{L:List (Nat×Nat)}:aXn ix (.pt b o) L=(ix,b)::L:=rfl
theorem ZY{rows:List (List AV)}{i o:Nat}{L:List (Nat×Nat)}:aXn ix (.fp rows i o) L=L:=rfl
theorem ZZ{a:Bool}{n:Nat}{x:AO}{L:List (Nat×Nat)}:xo (some L) run runY (⟨ix,d,.load a n x,none⟩::r) e h=kV (some (aXn ix (aK e x) L)) run runY r d e h (fM a n (aH h) (aK e x)):=by
 show fV run runY _ e h L=_;simp only[fV,gd,dJ,aD,zQ,AAe];cases fM a n (aH h) (aK e x)<;>rfl
def kH(m:Option (List (Nat×Nat)))(run:fC)(runY:gR)(r:List DOper)(d:Option Nat)(e:aJ)(v:AV):Option XH->Option (aJ×XH)
 | some h=>xo m run runY r (bD e d v) h
 | none=>none
theorem Ya:kH m run runY r d e v (some h)=xo m run runY r (bD e d v) h:=rfl
theorem Yb{n:Nat}{p x:AO}{l:List Nat}:xo none run runY (⟨ix,d,.store n p x l,none⟩::r) e h=kH none run runY r d e .any (qS n h (aK e p) (aK e x)):=by
 show fP run runY _ e h=_;simp only[fP,gd,dJ];cases qS n h (aK e p) (aK e x)<;>rfl
def aBS{α:Type}(b:Bool)(x:Option α):Option α:=if b then x else none
theorem Yc{α:Type}{x:Option α}:aBS true x=x:=rfl
theorem Ye{n:Nat}{p x:AO}{l:List Nat}{L:List (Nat×Nat)}:xo (some L) run runY (⟨ix,d,.store n p x l,none⟩::r) e h=aBS (L.all λq => !l.contains q.1||fB (aK e p) != some q.2) (kH (some L) run runY r d e .any (qS n h (aK e p) (aK e x))):=by
 show fV run runY _ e h L=_;simp only[fV,gd,dJ,zQ,aBS];cases qS n h (aK e p) (aK e x)<;>rfl
def kR(m:Option (List (Nat×Nat)))(run:fC)(runY:gR)(r:List DOper)(d:Option Nat)(e:aJ):Option (AV×XH)->Option (aJ×XH)
 | some (v,h)=>xo m run runY r (bD e d v) h
 | none=>none
theorem Yf:kR m run runY r d e (some (v,h))=xo m run runY r (bD e d v) h:=rfl
def aGA(s:Nat)(h:XH)(x y:AV):Option (AV×XH):=(aDe s h x y).map λr=>(.int .i64 (r.1:Int),r.2)
theorem Yg{s:Nat}{x y:AO}:xo none run runY (⟨ix,d,.copy s x y,none⟩::r) e h=kR none run runY r d e (aGA s h (aK e x) (aK e y)):=by
 show fP run runY _ e h=_;simp only[fP,gd,dJ,aGA];cases aDe s h (aK e x) (aK e y)<;>rfl
theorem Yh{q:Bool}{a k x:AO}:xo none run runY (⟨ix,d,.mapup q a k x,none⟩::r) e h=kH none run runY r d e .any (wD q h (aK e a) (aK e k) (aK e x)):=by
 show fP run runY _ e h=_;simp only[fP,gd,dJ];cases wD q h (aK e a) (aK e k) (aK e x)<;>rfl
theorem Yi{f:AO}{xs:List AO}{l:List Nat}:xo none run runY (⟨ix,d,.callf false f xs l,none⟩::r) e h=kR none run runY r d e (gJ run runY (aK e f) (xs.map (aK e)) h):=by
 show fP run runY _ e h=_;simp only[fP,gd,dJ];cases gJ run runY (aK e f) (xs.map (aK e)) h<;>rfl
def kRL(L:List (Nat×Nat))(l:List Nat)(run:fC)(runY:gR)(r:List DOper)(d:Option Nat)(e:aJ)(h:XH)(ps:List Nat):Option (AV×XH)->Option (aJ×XH)
 | some (v,h')=>aBS (L.all λq=>(hat h' q.2).isSome&&(!l.contains q.1||(!ps.contains q.2||aIq (hat h q.2) (hat h' q.2)))) (xo (some L) run runY r (bD e d v) h')
 | none=>none
theorem Yj{f:AO}{xs:List AO}{l:List Nat}{L:List (Nat×Nat)}:xo (some L) run runY (⟨ix,d,.callf false f xs l,none⟩::r) e h=kRL L l run runY r d e h (jB (aK e f) (xs.map (aK e)) h) (gJ run runY (aK e f) (xs.map (aK e)) h):=by
 show fV run runY _ e h L=_;simp only[fV,gd,dJ,zQ,AAe];cases gJ run runY (aK e f) (xs.map (aK e)) h<;>rfl
theorem Yk{L:List (Nat×Nat)}{l:List Nat}{h':XH}{ps:List Nat}:kRL L l run runY r d e h ps (some (v,h'))=aBS (L.all λq=>(hat h' q.2).isSome&&(!l.contains q.1||(!ps.contains q.2||aIq (hat h q.2) (hat h' q.2)))) (xo (some L) run runY r (bD e d v) h'):=rfl
theorem Yl{f:AO}{xs:List AO}{l:List Nat}:xo m run runY (⟨ix,d,.callf true f xs l,none⟩::r) e h=kV m run runY r d e h (qC run (aK e f) (xs.map (aK e)) h):=by
 cases m with
 | none =>
   show fP run runY _ e h=_;simp only[fP,gd,dJ];cases qC run (aK e f) (xs.map (aK e)) h<;>rfl
 | some L =>
   show fV run runY _ e h L=_;simp only[fV,gd,dJ,zQ,AAe];cases qC run (aK e f) (xs.map (aK e)) h<;>rfl
theorem Ym{s b:Nat}{x y:AO}:xo none run runY (⟨ix,d,.app s b x y,none⟩::r) e h=kE none run runY r d e h (lH h (aK e x)&&lH h (aK e y)) (tO s b (aH h) (aK e x) (aK e y)):=by
 rw[<-aQA];rfl
def aPY(acc:List Nat)(b:Nat):Option Nat:=gH b acc
def aRr(acc:List Nat)(run:fC)(g:Nat)(all:List AV)(h:XH):Option (AV×XH):=(run g (mR (λb=>gH b acc) all) (iU acc h)).map (aBM acc h)
def aRs(run:fC)(g:Nat)(all:List AV)(h:XH):Bool->Option (AV×XH)
 | true=>run g all h
 | false=>aRr (iH all h) run g all h
theorem Yn{g:Nat}{first cap as:List AV}:gJ run runY (.fn (.func g) first cap) as h=aRs run g (first++as++cap) h (lU g):=by
 unfold gJ;dsimp only;cases lU g<;>rfl
theorem PH{g:Nat}{all:List AV}:aRs run g all h true=run g all h:=rfl
theorem PI{g:Nat}{all:List AV}:aRs run g all h false=aRr (iH all h) run g all h:=rfl
theorem PJ{g:Nat}:lU g=aMY g [25,27,28,64,65,66,67,68,69,70,71,72,73,74,75,108,109,110,111,112,113,114,115,116]:=rfl
theorem PK{g:Nat}:aMY g []=false:=rfl
theorem PL{g k:Nat}{l:List Nat}:aMY g (k::l)=if g=k then true else aMY g l:=rfl
def kM(acc:List Nat)(h:XH)(r:Option (AV×XH)):Option (AV×XH):=r.map (aBM acc h)
theorem Yo{acc:List Nat}{g:Nat}{all:List AV}:aRr acc run g all h=kM acc h (run g (mR (aPY acc) all) (iU acc h)):=rfl
end
theorem Yp{x y:AV}:aLx (.bool true) x y=some x:=rfl
theorem Yq{x y:AV}:aLx (.bool false) x y=some y:=rfl
theorem Yr{a b:Bool}:aRD true (.bool a) (.bool b)=some (.bool (a != b)):=rfl
theorem Ys{b:Bool}:aXf (.bool b)=some (.bool !b):=rfl
theorem Yt{k k':IntKind}{n:Int}:aRj k (.int k' n)=some (.int k (k.wrap n)):=rfl
theorem Yu{off b o:Nat}:aUl off (.pt b o)=some (.pt b (o+off)):=rfl
theorem Yv{off i o:Nat}{rows:List (List AV)}:aUl off (.fp rows i o)=some (.fp rows i (o+off)):=rfl
theorem Yw{rows:List (List AV)}:aNb false (.fs rows)=some (.int .i64 (rows.length:Int)):=rfl
theorem Yx{b o s n:Nat}:aNb false (.sl b o s n)=some (.int .i64 (n:Int)):=rfl
theorem Yy:aNb false .nilsl=some (.int .i64 0):=rfl
theorem Yz{s:ByteArray}:aNb true (.str s)=some (.int .i64 (s.size:Int)):=rfl
theorem Y4{b o s s' len:Nat}{k:IntKind}{n:Int}:aQF s (.sl b o s' len) (.int k n)=if s'=s/\0<=n/\n<(len:Int) then some (.pt b (o+n.toNat*s)) else none:=rfl
theorem Y5{s:Nat}{rows:List (List AV)}{k:IntKind}{n:Int}:aQF s (.fs rows) (.int k n)=if 0<=n/\n<(rows.length:Int) then aXr s rows n.toNat rows[n.toNat]? else none:=by
 simp only[aQF,aXr];by_cases h:0<=n/\n<(rows.length:Int)
 .have h2:n.toNat<rows.length:=AS
  rw[B7 h2,C7,B7 h2,G5];simp only[h,AAi];simp only[and_self,AAe]
 .rw[if_neg h,if_neg (λhc=>h ⟨hc.1,hc.2.1⟩)]
theorem Y6{s j:Nat}{rows:List (List AV)}{r:List AV}:aXr s rows j (some r)=if r.length=s then some (.fp rows j 0) else none:=rfl
theorem Y7{vs:List AV}{i:Nat}:aXI (.tup vs) i=vs[i]?:=rfl
theorem Y8{k:IntKind}{a b:Int}:iK .add k a k b=some (.int k (k.wrap (a+b))):=by simp[iK]
theorem Y9{k:IntKind}{a b:Int}:iK .sub k a k b=some (.int k (k.wrap (a-b))):=by simp[iK]
theorem YA{k:IntKind}{a b:Int}:iK .mul k a k b=some (.int k (k.wrap (a*b))):=by simp[iK]
theorem YB{k:IntKind}{a b:Int}:iK .and k a k b=some (.int k (oG .and k a b)):=by simp[iK]
theorem YC{k:IntKind}{a b:Int}:iK .or k a k b=some (.int k (oG .or k a b)):=by simp[iK]
theorem YD{k k':IntKind}{a b:Int}:iK .shl k a k' b=if b<0 then none else some (.int k (k.wrap (a*2^min b.toNat k.bits))):=rfl
theorem YE{k k':IntKind}{a b:Int}:iK .shr k a k' b=if b<0 then none else some (.int k (a.fdiv (2^min b.toNat k.bits))):=rfl
theorem YF{k:IntKind}{a b:Int}:iK .eql k a k b=some (.bool (decide (a=b))):=by simp[iK];rfl
theorem YG{k:IntKind}{a b:Int}:iK .neq k a k b=some (.bool !(decide (a=b))):=by simp[iK];rfl
theorem YH{k:IntKind}{a b:Int}:iK .lss k a k b=some (.bool (decide (a<b))):=by simp[iK]
theorem YJ{k:IntKind}{a b:Int}:iK .leq k a k b=some (.bool (decide (a<=b))):=by simp[iK]
theorem YK{k:IntKind}{a b:Int}:iK .gtr k a k b=some (.bool (decide (b<a))):=by simp[iK]
theorem YL{k:IntKind}{a b:Int}:iK .geq k a k b=some (.bool (decide (b<=a))):=by simp[iK]
theorem YM{n:Nat}:(0<=(n:Int))=True:=by simp
theorem YN{n:Nat}:(n:Int).toNat=n:=by simp
theorem YO:IntKind.i64.wrap 0=0:=rfl
theorem YP:IntKind.i64.wrap 1=1:=rfl
theorem YQ:IntKind.i64.wrap 2=2:=rfl
theorem YR:IntKind.i64.wrap 3=3:=rfl
theorem YT:IntKind.i64.wrap 4=4:=rfl
theorem YU:IntKind.i64.wrap 6=6:=rfl
theorem YV:(0:Int).toNat=0:=rfl
theorem YX:((0:Nat):Int)=0:=rfl
theorem YY:(1:Int).toNat=1:=rfl
theorem YZ:((1:Nat):Int)=1:=rfl
theorem Xa:(2:Int).toNat=2:=rfl
theorem Xb:((2:Nat):Int)=2:=rfl
theorem Xc:(3:Int).toNat=3:=rfl
theorem Xd:((3:Nat):Int)=3:=rfl
theorem Xe:(4:Int).toNat=4:=rfl
theorem Xf:((4:Nat):Int)=4:=rfl
theorem Xg:(5:Int).toNat=5:=rfl
theorem Xh:((5:Nat):Int)=5:=rfl
theorem Xi:((6:Nat):Int)=6:=rfl
theorem Xj:((8:Nat):Int)=8:=rfl
theorem Xk:(9:Int).toNat=9:=rfl
theorem Xl{len s b o:Nat}{k:IntKind}{n:Int}:aQE len s (.pt b o) (.int k n)=if 0<=n/\n<(len:Int) then some (.pt b (o+n.toNat*s)) else none:=rfl
theorem Xm{k k':IntKind}{a b:Int}:mmM false (.int k a) (.int k' b)=some (.int k (if b<a then b else a)):=rfl
theorem Xn{neg:Bool}{ks:List Nat}{cs ds:List AV}:aMb neg ks (.agg cs) (.agg ds)=aNo neg (dX ks cs ds):=by cases h:dX ks cs ds<;>simp[aMb,aNo,h]
theorem Xo{b:Bool}:aNo true (some b)=some (.bool !b):=rfl
theorem Xp{b:Bool}:aNo false (some b)=some (.bool b):=rfl
theorem Xq{ok:Bool}{z:AV}{r:Option AV}:aBi ok z (some r)=some (xF ok z r):=rfl
theorem Xr{z v:AV}:xF true z (some v) = .tup [v,.bool true]:=rfl
theorem Xs{z v:AV}:xF false z (some v)=v:=rfl
theorem Xt{z:AV}:xF false z none=z:=rfl
theorem Xu{q:Bool}{b:Nat}{H:Hp}{k:AV}:nA q H k (.mp b)=lkM q k (H b):=by simp only[nA,lkM]<;>rfl
theorem Xv{q w:Bool}{k:AV}{es:List (AV×AV)}:lkM q k (some (.map w es))=aV q k es:=rfl
theorem Xw{cs:List AV}:aYe (some cs)=some (.agg cs):=rfl
theorem Xx{agg:Bool}{len s:Nat}{cs:List AV}{k:IntKind}{n:Int}:aQC agg len s (.agg cs) (.int k n)=if 0<=n/\n<(len:Int) then iZ agg s cs (n.toNat*s) else none:=rfl
theorem Xy{s:ByteArray}{k:IntKind}{n:Int}:aQD (.str s) (.int k n)=if 0<=n/\n<(s.size:Int) then some (.int .u8 ((s.data.toList.getD n.toNat 0).toNat:Int)) else none:=rfl
theorem Xz{b o:Nat}:aEe (.pt b o)=some (.pt b o):=rfl
theorem Pr{b:Nat}:aEe (.bp b)=some (.pt b 0):=rfl
theorem Ps{t:TypeId}{v:AV}:aEe (.ifc t v)=some (.ifc t v):=rfl
theorem XI{k:IntKind}{n:Int}:kK (.int k n)=([]:List Nat):=rfl
theorem XJ{t:Bool}:kK (.bool t)=([]:List Nat):=rfl
theorem XL{t:ByteArray}:kK (.str t)=([]:List Nat):=rfl
theorem XM{cs:List AV}:kK (.agg cs)=(mI cs:List Nat):=rfl
theorem XN{cs:List AV}:kK (.tup cs)=(mI cs:List Nat):=rfl
theorem XO{rows:List (List AV)}:kK (.fs rows)=([]:List Nat):=rfl
theorem XW{b o s n:Nat}:kK (.sl b o s n)=([b]:List Nat):=rfl
theorem XX{b o:Nat}:kK (.pt b o)=([b]:List Nat):=rfl
theorem XY{b:Nat}:kK (.mp b)=([b]:List Nat):=rfl
theorem XZ  : kK .nilsl=([]:List Nat):=rfl
theorem Wa  : kK .nilpt=([]:List Nat):=rfl
theorem Wb{g:Nat}{fs us:List AV}:kK (.fn (.func g) fs us)=(mI fs++mI us:List Nat):=rfl
theorem Wc{l:Nat}{fs us:List AV}:kK (.fn (.yield l) fs us)=([l]++(mI fs++mI us):List Nat):=rfl
theorem We{ty:TypeId}{v:AV}:kK (.ifc ty v)=(kK v:List Nat):=rfl
theorem Wf  : kK .nilifc=([]:List Nat):=rfl
theorem Wg  : kK .any=([]:List Nat):=rfl
theorem Wh{k:IntKind}{n:Int}:iD (.int k n)=(true:Bool):=rfl
theorem Wi{t:Bool}:iD (.bool t)=(true:Bool):=rfl
theorem Wj{t:ByteArray}:iD (.str t)=(true:Bool):=rfl
theorem Wk{cs:List AV}:iD (.agg cs)=(lE cs:Bool):=rfl
theorem Wl{rows:List (List AV)}:iD (.fs rows)=(true:Bool):=rfl
theorem Wm{b o s n:Nat}:iD (.sl b o s n)=(false:Bool):=rfl
theorem Wn{b o:Nat}:iD (.pt b o)=(false:Bool):=rfl
theorem Wo{b:Nat}:iD (.mp b)=(false:Bool):=rfl
theorem Wp  : iD .nilsl=(true:Bool):=rfl
theorem Wq  : iD .nilpt=(true:Bool):=rfl
theorem Wr{g:Nat}{fs us:List AV}:iD (.fn (.func g) fs us)=((lE fs&&lE us):Bool):=rfl
theorem Wt{ty:TypeId}{v:AV}:iD (.ifc ty v)=(iD v:Bool):=rfl
theorem Wu  : iD .nilifc=(true:Bool):=rfl
theorem Wv{s:Nat->Option Nat}{k:IntKind}{n:Int}:rnA s (.int k n)=((.int k n):AV):=rfl
theorem Ww{s:Nat->Option Nat}{t:Bool}:rnA s (.bool t)=((.bool t):AV):=rfl
theorem Wx{s:Nat->Option Nat}{t:ByteArray}:rnA s (.str t)=((.str t):AV):=rfl
theorem Wy{s:Nat->Option Nat}{cs:List AV}:rnA s (.agg cs)=(.agg (mR s cs):AV):=rfl
theorem Wz{s:Nat->Option Nat}{cs:List AV}:rnA s (.tup cs)=(.tup (mR s cs):AV):=rfl
theorem W3{s:Nat->Option Nat}{rows:List (List AV)}:rnA s (.fs rows)=((.fs rows):AV):=rfl
theorem W4{s:Nat->Option Nat}{b o s2 n:Nat}:rnA s (.sl b o s2 n)=((match s b with|some c=>.sl c o s2 n|none=>.any):AV):=by simp only[rnA]<;>rfl
theorem W5{s:Nat->Option Nat}{b o:Nat}:rnA s (.pt b o)=((match s b with|some c=>.pt c o|none=>.any):AV):=by simp only[rnA]<;>rfl
theorem W6{s:Nat->Option Nat}{b:Nat}:rnA s (.mp b)=((match s b with|some c=>.mp c|none=>.any):AV):=by simp only[rnA]<;>rfl
theorem W7{s:Nat->Option Nat}  : rnA s .nilsl=(.nilsl:AV):=rfl
theorem W8{s:Nat->Option Nat}  : rnA s .nilpt=(.nilpt:AV):=rfl
theorem W9{s:Nat->Option Nat}{g:Nat}{fs us:List AV}:rnA s (.fn (.func g) fs us)=(.fn (.func g) (mR s fs) (mR s us):AV):=rfl
theorem WA{s:Nat->Option Nat}{l:Nat}{fs us:List AV}:rnA s (.fn (.yield l) fs us)=((match s l with|some c=>.fn (.yield c) (mR s fs) (mR s us)|none=>.any):AV):=by simp only[rnA]<;>rfl
theorem WB{s:Nat->Option Nat}{ty:TypeId}{v:AV}:rnA s (.ifc ty v)=(.ifc ty (rnA s v):AV):=rfl
theorem WC{s:Nat->Option Nat}  : rnA s .nilifc=(.nilifc:AV):=rfl
theorem WE{s:Nat->Option Nat}  : rnA s .any=(.any:AV):=rfl
theorem WF{k:IntKind}{n:Int}:slN (.int k n)=([]:List Nat):=rfl
theorem WG{t:Bool}:slN (.bool t)=([]:List Nat):=rfl
theorem WH{t:ByteArray}:slN (.str t)=([]:List Nat):=rfl
theorem WI{cs:List AV}:slN (.agg cs)=(slL cs:List Nat):=rfl
theorem WJ{cs:List AV}:slN (.tup cs)=(slL cs:List Nat):=rfl
theorem WK{rows:List (List AV)}:slN (.fs rows)=([]:List Nat):=rfl
theorem WL{b o s n:Nat}:slN (.sl b o s n)=([b]:List Nat):=rfl
theorem WM{b o:Nat}:slN (.pt b o)=([]:List Nat):=rfl
theorem WN  : slN .nilsl=([]:List Nat):=rfl
theorem WO  : slN .nilpt=([]:List Nat):=rfl
theorem WP{g:Nat}{fs us:List AV}:slN (.fn (.func g) fs us)=([]:List Nat):=rfl
theorem WQ{ty:TypeId}{v:AV}:slN (.ifc ty v)=(slN v:List Nat):=rfl
theorem WR  : slN .nilifc=([]:List Nat):=rfl
theorem WS{B:Nat}{C:List AV}{k:IntKind}{n:Int}:xJ B C (.int k n)=((.int k n):AV):=rfl
theorem WT{B:Nat}{C:List AV}{t:Bool}:xJ B C (.bool t)=((.bool t):AV):=rfl
theorem WU{B:Nat}{C:List AV}{t:ByteArray}:xJ B C (.str t)=((.str t):AV):=rfl
theorem WV{B:Nat}{C:List AV}{cs:List AV}:xJ B C (.agg cs)=(.agg (fzL B C cs):AV):=rfl
theorem WW{B:Nat}{C:List AV}{cs:List AV}:xJ B C (.tup cs)=(.tup (fzL B C cs):AV):=rfl
theorem WX{B:Nat}{C:List AV}{rows:List (List AV)}:xJ B C (.fs rows)=((.fs rows):AV):=rfl
theorem WY{B:Nat}{C:List AV}{b o s n:Nat}:xJ B C (.sl b o s n)=((if b=B/\o+n*s<=C.length then .fs (bK C o s n) else .sl b o s n):AV):=rfl
theorem WZ{B:Nat}{C:List AV}{b o:Nat}:xJ B C (.pt b o)=((.pt b o):AV):=rfl
theorem Va{B:Nat}{C:List AV}{l:Nat}{fs us:List AV}:xJ B C (.fn (.yield l) fs us)=((.fn (.yield l) fs us):AV):=rfl
theorem Vb{k:IntKind}{n:Int}:vN (.int k n)=((.int k n):AV):=rfl
theorem Vc{t:Bool}:vN (.bool t)=((.bool t):AV):=rfl
theorem Vd{t:ByteArray}:vN (.str t)=((.str t):AV):=rfl
theorem Ve{cs:List AV}:vN (.agg cs)=(.agg (kI cs):AV):=rfl
theorem Vf{cs:List AV}:vN (.tup cs)=(.tup (kI cs):AV):=rfl
theorem Vg{rows:List (List AV)}:vN (.fs rows)=((.fs rows):AV):=rfl
theorem Vh{b o s n:Nat}:vN (.sl b o s n)=((.sl b o s n):AV):=rfl
theorem Vi{b o:Nat}:vN (.pt b o)=((.pt b o):AV):=rfl
theorem Vj  : vN .nilsl=(.fs []:AV):=rfl
theorem Vk  : vN .nilpt=(.nilpt:AV):=rfl
theorem Vl{g:Nat}{fs us:List AV}:vN (.fn (.func g) fs us)=((.fn (.func g) fs us):AV):=rfl
theorem Vm{l:Nat}{fs us:List AV}:vN (.fn (.yield l) fs us)=((.fn (.yield l) fs us):AV):=rfl
theorem Vn{ty:TypeId}{v:AV}:vN (.ifc ty v)=((.ifc ty v):AV):=rfl
theorem Vo  : vN .nilifc=(.nilifc:AV):=rfl
theorem Vp{k:IntKind}{n:Int}:cellsOf (.int k n)=(some [(.int k n)]:Option (List AV)):=rfl
theorem Vq{t:Bool}:cellsOf (.bool t)=(some [(.bool t)]:Option (List AV)):=rfl
theorem Vr{t:ByteArray}:cellsOf (.str t)=(some [(.str t)]:Option (List AV)):=rfl
theorem Vs{cs:List AV}:cellsOf (.agg cs)=(some cs:Option (List AV)):=rfl
theorem Vt{rows:List (List AV)}:cellsOf (.fs rows)=(some [(.fs rows)]:Option (List AV)):=rfl
theorem Vu{b o s n:Nat}:cellsOf (.sl b o s n)=(some [(.sl b o s n)]:Option (List AV)):=rfl
theorem Vv{b o:Nat}:cellsOf (.pt b o)=(some [(.pt b o)]:Option (List AV)):=rfl
theorem Vw{b:Nat}:cellsOf (.mp b)=(some [(.mp b)]:Option (List AV)):=rfl
theorem Vx  : cellsOf .nilsl=(some [.nilsl]:Option (List AV)):=rfl
theorem Vy{g:Nat}{fs us:List AV}:cellsOf (.fn (.func g) fs us)=(some [(.fn (.func g) fs us)]:Option (List AV)):=rfl
theorem Vz{ty:TypeId}{v:AV}:cellsOf (.ifc ty v)=(some [(.ifc ty v)]:Option (List AV)):=rfl
theorem V1{b o s n:Nat}:fB (.sl b o s n)=(some b:Option Nat):=rfl
theorem V2{b o:Nat}:fB (.pt b o)=(some b:Option Nat):=rfl
theorem V3  : fB .nilsl=(none:Option Nat):=rfl
def aLM(k:Nat)(acc:List Nat)(h:XH)(r:List Nat):XH:=r.map λb=>rnO (keepS k acc) (hat h b)
def aTW(acc:List Nat)(h:XH)(r:List Nat):XH:=r.map λb=>rnO (λb=>gH b acc) (hat h b)
def fzQ(fz:List (Nat×Bool))(e:aJ)(h:XH):List Nat:=fz.flatMap (aQQ e h)
def aXA(h:XH):Option XB->List Nat
 | some (.blk false (.cells _ cs))=>lI h 2 (slL cs)
 | _=>[]
def fzD(h:XH)(v:AV):List Nat:=match v with
 | .pt b _=>match hat h b with
  | some (.blk false (.cells _ cs))=>lI h 2 (slL cs)
  | _=>[]
 | _=>[]
def kF(own:Bool)(k:Nat)(h:XH)(r:Option AV):Option (AV×XH):=r.map λv=>pT own k v h
def aQX(k:Nat)(h:XH)(v:AV)(acc:List Nat):AV×XH:=(rnA (keepS k acc) v,oF k acc h)
def bBk(k:Nat)(p:aJ×XH):AV×XH:=aQX k p.2 (vN (p.1 0)) (dH k [vN (p.1 0)] p.2)
def aPJ:Option (List AV)->Option AV
 | some [v]=>some v
 | some vs=>some (.tup vs)
 | none=>none
def aPK:Option AV->Option (List AV)->Option (List AV)
 | some v,some vs=>some (v::vs)
 | _,_=>none
def aMg(v:AV)(a b:aJ->XH->Option (DX×aJ×XH))(e:aJ)(h:XH):Option (DX×aJ×XH):=match v with
 | .bool true=>a e h
 | .bool false=>b e h
 | _=>none
def ldM(agg:Bool)(n o:Nat):Option ABlk->Option AV
 | some (.cells _ cs)=>iZ agg n cs o
 | _=>none
def ldR(agg:Bool)(n o:Nat):Option (List AV)->Option AV
 | some r=>iZ agg n r o
 | none=>none
def stM(n b o:Nat)(h:XH):Option XB->Option (List AV)->Option XH
 | some (.blk g (.cells true cs)),some vs=>if vs.length=n/\o+n<=cs.length then some (h.set b (some (.blk (g&&lE vs) (.cells true (bJ cs o vs))))) else none
 | _,_=>none
def muM(q:Bool)(b:Nat)(h:XH)(k x:AV):Option XB->Option XH
 | some (.blk g (.map true es))=>(kU q k x es).map λes'=>h.set b (some (.blk (g&&(iD k&&iD x)) (.map true es')))
 | _=>none
def flM:Option XB->Bool
 | some (.blk g _)=>g
 | _=>false
theorem V4{b:Nat}:hat [] b=none:=by simp[hat]
theorem V5{x:Option XB}{h:XH}{b:Nat}:hat (x::h) b=if b=0 then x else hat h (b-1):=by cases b<;>simp[hat]
def hpM:Option XB->Option ABlk
 | some (.blk _ x)=>some x
 | _=>none
theorem V6{h:XH}{b:Nat}:aH h b=hpM (hat h b):=rfl
theorem V7{g:Bool}{x:ABlk}:hpM (some (.blk g x))=some x:=rfl
theorem V8{α:Type}{x y:α}{h:List α}{b:Nat}:(x::h).set b y=if b=0 then y::h else x::h.set (b-1) y:=by cases b<;>simp
theorem V9{α:Type}{x:α}{l:List α}{n:Nat}:(x::l).take n=if n=0 then [] else x::l.take (n-1):=by cases n<;>simp
theorem VD{α:Type}{n:Nat}:([]:List α).take n=[]:=by simp
theorem VF{α:Type}{x:α}{l:List α}{n:Nat}:(x::l).drop n=if n=0 then x::l else l.drop (n-1):=by cases n<;>simp
theorem VG{α:Type}{n:Nat}:([]:List α).drop n=[]:=by simp
theorem VH{α:Type}{x d:α}{l:List α}{n:Nat}:(x::l).getD n d=if n=0 then x else l.getD (n-1) d:=by cases n<;>simp
theorem VI{α:Type}{x:α}{l:List α}{n:Nat}:(x::l)[n]?=if n=0 then some x else l[n-1]?:=by cases n<;>simp
theorem VJ{α:Type}{a:α}:(a∈([]:List α))=False:=by simp
theorem VK{α:Type}{a b:α}{l:List α}:(a∈b::l)=(a=b\/a∈l):=by simp
theorem VL{acc:List Nat}{b:Nat}:aPY acc b=gH b acc:=rfl
theorem VM{b:Nat}:gH b []=none:=rfl
theorem VN{b c:Nat}{r:List Nat}:gH b (c::r)=if b=c then some 0 else (gH b r).map (· + 1):=rfl
theorem VO{k:Nat}{acc:List Nat}{b:Nat}:keepS k acc b=if b<k then some b else (gH b acc).map (· + k):=rfl
theorem VP{acc:List Nat}{n i:Nat}:iA acc n i=if i<acc.length then acc[i]? else some (n+(i-acc.length)):=rfl
theorem VQ{h:XH}{k n:Nat}{acc:List Nat}:cW h k n [] acc=acc:=by cases n<;>rfl
def aKe(h:XH)(k n:Nat)(r:List Nat)(acc:List Nat)(b:Nat):Option XB->List Nat
 | none=>cW h k n r acc
 | some x=>cW h k n (nmB x++r) (acc++[b])
theorem VU{h:XH}{k n:Nat}{r acc:List Nat}{b:Nat}:aKe h k n r acc b none=cW h k n r acc:=rfl
theorem VV{h:XH}{k n:Nat}{r acc:List Nat}{b:Nat}{x:XB}:aKe h k n r acc b (some x)=cW h k n (nmB x++r) (acc++[b]):=rfl
theorem VW{h:XH}{k n:Nat}{b:Nat}{r acc:List Nat}:cW h k n (b::r) acc=if n=0 then acc else if b<k\/b∈acc then cW h k (n-1) r acc else aKe h k (n-1) r acc b (hat h b):=by
 cases n with
 | zero=>rfl
 | succ n=>simp only[cW,Nat.add_one_ne_zero,AAd,aD0];cases hat h b<;>rfl
theorem VX{xs:List AV}{h:XH}:iH xs h=cW h 0 4096 (mI xs) []:=rfl
theorem VY{k:Nat}{vs:List AV}{h:XH}:dH k vs h=cW h k 4096 (mI vs++(dF k h).flatMap nmO) []:=rfl
theorem VZ{n:Nat}:dF n []=List.replicate n none:=by induction n with
 | zero=>rfl
 | succ n ih=>simp[dF,ih,O4]
theorem Ua{x:Option XB}{h:XH}{n:Nat}:dF n (x::h)=if n=0 then [] else x::dF (n-1) h:=by cases n<;>rfl
theorem Ub{k:Nat}{acc:List Nat}{h:XH}:oF k acc h=(dF k h).map (rnO (keepS k acc))++aLM k acc h acc:=rfl
theorem Uc{k:Nat}{acc:List Nat}{h:XH}:aLM k acc h []=[]:=rfl
theorem Ud{k:Nat}{acc:List Nat}{h:XH}{b:Nat}{r:List Nat}:aLM k acc h (b::r)=rnO (keepS k acc) (hat h b)::aLM k acc h r:=rfl
theorem Ue{acc:List Nat}{h:XH}:iU acc h=aTW acc h acc:=rfl
theorem Uf{acc:List Nat}{h:XH}:aTW acc h []=[]:=rfl
theorem Ug{acc:List Nat}{h:XH}{b:Nat}{r:List Nat}:aTW acc h (b::r)=rnO (aPY acc) (hat h b)::aTW acc h r:=rfl
theorem Uh{s:Nat->Option Nat}:rnO s none=none:=rfl
theorem Ui{s:Nat->Option Nat}{x:XB}:rnO s (some x)=some (rnB s x):=rfl
theorem Uj{s:Nat->Option Nat}{x:ABlk}:rnB s (.blk true x) = .blk true x:=by cases x<;>rfl
theorem Uk{s:Nat->Option Nat}{w:Bool}{cs:List AV}:rnB s (.blk false (.cells w cs)) = .blk false (.cells w (mR s cs)):=rfl
theorem PN{s:Nat->Option Nat}{st:CSt}{p:Hp->Nat->Prop}:rnB s (.gh st p) = .gh st p:=rfl
theorem Ul{s:Nat->Option Nat}{K site:Nat}{vs:List AV}{st:LSt}:rnB s (.loop K site vs st) = .loop K site (mR s vs) st:=rfl
theorem Um:nmO none=[]:=rfl
theorem Un{x:XB}:nmO (some x)=nmB x:=rfl
theorem Uo{x:ABlk}:nmB (.blk true x)=[]:=by cases x<;>rfl
theorem Ur{w:Bool}{cs:List AV}:nmB (.blk false (.cells w cs))=mI cs:=rfl
theorem PO{st:CSt}{p:Hp->Nat->Prop}:nmB (.gh st p)=[]:=rfl
theorem Us{K site:Nat}{vs:List AV}{st:LSt}:nmB (.loop K site vs st)=mI vs:=rfl
theorem Ut{acc:List Nat}{h hl:XH}{v:AV}:kM acc h (some (v,hl))=some (rnA (iA acc h.length) v,jW acc h hl):=rfl
theorem Uu{acc:List Nat}{h hl:XH}:jW acc h hl=aAG h acc ((dF acc.length hl).map (rnO (iA acc h.length)))++(hl.drop acc.length).map (rnO (iA acc h.length)):=rfl
theorem Uv{h:XH}{xs:XH}:aAG h [] xs=h:=by cases xs<;>rfl
theorem Uw{h:XH}{b:Nat}{bs:List Nat}{x:Option XB}{xs:XH}:aAG h (b::bs) (x::xs)=aAG (h.set b x) bs xs:=rfl
theorem Ux{a:Nat}:List.elem a []=false:=rfl
theorem Uy{a b:Nat}{l:List Nat}:List.elem a (b::l)=if a=b then true else List.elem a l:=by
 by_cases h:a=b;·simp only[List.elem,h,AAe,beq_self_eq_true]
 .simp only[List.elem,show (a==b)=false by simpa using h,if_neg h]
theorem Uz{g:Nat}{first cap as:List AV}{h:XH}:jB (.fn (.func g) first cap) as h=yK (lU g) (first++as++cap) h:=rfl
theorem PM{all:List AV}{h:XH}:yK false all h=iH all h:=rfl
theorem U0{α:Type}{x:α}:(some x).isSome=true:=rfl
theorem U7{α:Type}:(none:Option α).isSome=false:=rfl
theorem U8{b:Bool}:(b==true)=b:=by cases b<;>rfl
def fzE(b:Nat)(cs:List AV)(e:aJ):aJ:=λj=>xJ b cs (e j)
theorem U9{b:Nat}{cs:List AV}{e:aJ}{j:Nat}:fzE b cs e j=xJ b cs (e j):=rfl
def aUg(b:Nat)(e:aJ)(h:XH):Option XB->aJ×XH
 | some (.blk true (.cells _ cs))=>(fzE b cs e,(h.map (fzO b cs)).set b none)
 | _=>(e,h)
theorem UA{b:Nat}{e:aJ}{h:XH}{w:Bool}{cs:List AV}:aUg b e h (some (.blk true (.cells w cs)))=(fzE b cs e,(h.map (fzO b cs)).set b none):=rfl
theorem aXC{b:Nat}{e:aJ}{h:XH}:fz1 b e h=aUg b e h (hat h b):=by
 unfold fz1 aUg;cases hat h b with
 | none=>rfl
 | some x=>cases x with
   | loop=>rfl
   | gh=>rfl
   | blk g x=>cases g<;>cases x<;>rfl
def fzP(r:List Nat)(p:aJ×XH):aJ×XH:=aBV r p.1 p.2
theorem UB{r:List Nat}{e:aJ}{h:XH}:fzP r (e,h)=aBV r e h:=rfl
theorem UC{e:aJ}{h:XH}:aBV [] e h=(e,h):=rfl
theorem UD{b:Nat}{r:List Nat}{e:aJ}{h:XH}:aBV (b::r) e h=fzP r (aUg b e h (hat h b)):=by rw[<-aXC];rfl
def nzP(fz:List (Nat×Bool))(p:aJ×XH):aJ×XH:=(nzE fz p.1,p.2)
theorem Pj{fz:List (Nat×Bool)}{e:aJ}{h:XH}:nzP fz (e,h)=(nzE fz e,h):=rfl
theorem Pk{e:aJ}:nzE [] e=e:=rfl
theorem Pl{k:Nat}{r:List (Nat×Bool)}{e:aJ}:nzE ((k,true)::r) e=nzE r e:=rfl
theorem Pm{k j:Nat}{r:List (Nat×Bool)}{e:aJ}:nzE ((k,false)::r) e j=if j=k then vN (nzE r e j) else nzE r e j:=rfl
def fzY(fz:List (Nat×Bool))(e:aJ)(h:XH):aJ×XH:=nzP fz (aBV (fzQ fz e h) e h)
theorem UE{fz:List (Nat×Bool)}{e:aJ}{h:XH}:fzX fz e h=fzY fz e (zI fz e h):=rfl
theorem Pn{fz:List (Nat×Bool)}{e:aJ}{h:XH}:fzY fz e h=nzP fz (aBV (fzQ fz e h) e h):=rfl
theorem Po{e:aJ}{h:XH}:zI [] e h=h:=rfl
theorem Pp{k:Nat}{b:Bool}{r:List (Nat×Bool)}{e:aJ}{h:XH}:zI ((k,b)::r) e h=if 1000000<=k then aLf (e (k-1000000)) (zI r e h) else zI r e h:=rfl
theorem UF{e:aJ}{h:XH}:fzQ [] e h=[]:=rfl
theorem UG{j:Nat}{r:List (Nat×Bool)}{e:aJ}{h:XH}:fzQ ((j,false)::r) e h=lI h 2 (slN (e j))++fzQ r e h:=rfl
theorem UH{j:Nat}{r:List (Nat×Bool)}{e:aJ}{h:XH}:fzQ ((j,true)::r) e h=fzD h (e j)++fzQ r e h:=by
 simp only[fzQ,aB2,aQQ,fzD]<;>rfl
theorem UI{b o:Nat}{h:XH}:fzD h (.pt b o)=aXA h (hat h b):=rfl
theorem UJ{h:XH}{w:Bool}{cs:List AV}:aXA h (some (.blk false (.cells w cs)))=lI h 2 (slL cs):=rfl
theorem UK{h:XH}{x:ABlk}:aXA h (some (.blk true x))=[]:=by cases x<;>rfl
def dpM(h:XH)(n b:Nat)(x:Option XB):List Nat:=aVV (lI h n) b x
theorem QQ{h:XH}{n:Nat}:lI h n []=[]:=by cases n<;>rfl
theorem QR{h:XH}{b:Nat}{r:List Nat}:lI h 1 (b::r)=dpM h 0 b (hat h b)++lI h 1 r:=by simp only[lI,aB2,dpM]
theorem QS{h:XH}{b:Nat}{r:List Nat}:lI h 2 (b::r)=dpM h 1 b (hat h b)++lI h 2 r:=by simp only[lI,aB2,dpM]
theorem QU{h:XH}{n b:Nat}{w:Bool}{cs:List AV}:dpM h n b (some (.blk false (.cells w cs)))=lI h n (slL cs)++[b]:=rfl
theorem QV{h:XH}{n b:Nat}{x:ABlk}:dpM h n b (some (.blk true x))=[b]:=by cases x<;>rfl
theorem UL{b:Nat}{cs:List AV}:fzO b cs none=none:=rfl
theorem UM{b:Nat}{cs:List AV}{x:XB}:fzO b cs (some x)=some (fzB b cs x):=rfl
theorem UN{b:Nat}{cs vs:List AV}{w:Bool}:fzB b cs (.blk false (.cells w vs)) = .blk (lE (fzL b cs vs)) (.cells w (fzL b cs vs)):=rfl
theorem UO{b:Nat}{cs:List AV}{x:ABlk}:fzB b cs (.blk true x) = .blk true x:=by cases x<;>rfl
theorem PP{b:Nat}{cs:List AV}{st:CSt}{p:Hp->Nat->Prop}:fzB b cs (.gh st p) = .gh st p:=rfl
theorem UP{b:Nat}{cs vs:List AV}{K site:Nat}{st:LSt}:fzB b cs (.loop K site vs st) = .loop K site vs st:=rfl
theorem Qm{cs:List AV}{o s:Nat}:bK cs o s 0=[]:=rfl
theorem Qn{cs:List AV}{o s:Nat}:bK cs o s 1=(cs.drop o).take s::bK cs (o+s) s 0:=rfl
theorem Qo{cs:List AV}{o s:Nat}:bK cs o s 2=(cs.drop o).take s::bK cs (o+s) s 1:=rfl
theorem Qp{cs:List AV}{o s:Nat}:bK cs o s 3=(cs.drop o).take s::bK cs (o+s) s 2:=rfl
theorem Qq{cs:List AV}{o s:Nat}:bK cs o s 4=(cs.drop o).take s::bK cs (o+s) s 3:=rfl
theorem UQ{res:List (Nat×Option (Bool×Nat))}{own:Bool}{k:Nat}{e:aJ}{h:XH}:eY none res own k (some (.normal,e,h))=kF own k h (kD res e (aH h)):=rfl
theorem UR{res:List (Nat×Option (Bool×Nat))}{own:Bool}{k:Nat}{e:aJ}{h:XH}:eY none res own k (some (.ret,e,h))=kF own k h (kD res e (aH h)):=rfl
theorem US{own:Bool}{k:Nat}{h:XH}{v:AV}:kF own k h (some v)=some (pT own k v h):=rfl
theorem UT{k:Nat}{h:XH}{v:AV}:pT true k v h=aQX k h v (dH k [v] h):=by simp[pT,aQX,upd]
theorem UU{k:Nat}{h:XH}{v:AV}:pT false k v h=bBk k (aBV (lI h 2 (slN v)) (upd anyE 0 v) h):=rfl
theorem UV{k:Nat}{h:XH}{e:aJ}:bBk k (e,h)=aQX k h (vN (e 0)) (dH k [vN (e 0)] h):=rfl
theorem UW{k:Nat}{h:XH}{v:AV}{acc:List Nat}:aQX k h v acc=(rnA (keepS k acc) v,oF k acc h):=rfl
theorem UX{rs:List (Nat×Option (Bool×Nat))}{e:aJ}{h:Hp}:kD rs e h=aPJ (zE e h rs):=by unfold kD aPJ;cases zE e h rs<;>rfl
theorem UY{v:AV}:aPJ (some [v])=some v:=rfl
theorem UZ:aPJ (some [])=some (.tup []):=rfl
theorem Ta{v u:AV}{r:List AV}:aPJ (some (v::u::r))=some (.tup (v::u::r)):=rfl
theorem Tb{e:aJ}{h:Hp}:zE e h []=some []:=rfl
theorem Tc{e:aJ}{h:Hp}{x:Nat×Option (Bool×Nat)}{r:List (Nat×Option (Bool×Nat))}:zE e h (x::r)=aPK (wY e h x) (zE e h r):=by simp only[zE,aPK]<;>rfl
theorem Td{v:AV}{vs:List AV}:aPK (some v) (some vs)=some (v::vs):=rfl
theorem Te{e:aJ}{h:Hp}{t:Nat}:wY e h (t,none)=some (e t):=rfl
theorem Tf{e:aJ}{h:Hp}{a n:Nat}{g:Bool}:wY e h (a,some (g,n))=fM g n h (e a):=rfl
theorem Tg{as:List AV}{k:Nat}:aX as k=as.getD k .any:=rfl
theorem Th{k:Nat}{ks:List Nat}{v:AV}{vs:List AV}{j:Nat}:aY (k::ks) (v::vs) j=if j=k then v else aY ks vs j:=rfl
theorem Ti{k:Nat}{L:List Nat}{e:aJ}{h:XH}:aAt k L e h=mR (keepS k (dH k (L.map e) h)) (L.map e):=rfl
theorem Tj{k:Nat}{L:List Nat}{e:aJ}{h:XH}:qB k L e h=oF k (dH k (L.map e) h) h:=rfl
theorem Tl{D:Nat->Option XFn}{K k:Nat}{rd:Option Nat}{e:aJ}{h:XH}{c:AO}{a b:XCode}:execW D K k rd (.cond c a b) e h=aMg (aK e c) (execW D K k rd a) (execW D K k rd b) e h:=by
 rw[aKD];unfold aMg;cases aK e c with
 | bool t=>cases t<;>rfl
 | _=>rfl
theorem Tm{a b:aJ->XH->Option (DX×aJ×XH)}{e:aJ}{h:XH}:aMg (.bool true) a b e h=a e h:=rfl
theorem Tn{a b:aJ->XH->Option (DX×aJ×XH)}{e:aJ}{h:XH}:aMg (.bool false) a b e h=b e h:=rfl
theorem Tp{id:Nat}{e:aJ}{h:XH}:aHD (some (.exit id,e,h))=true:=rfl
theorem Tq{e:aJ}{h:XH}:aHD (some (.ret,e,h))=true:=rfl
def aXT(x:AV):Option Eff:=match x with
    | .str s=>some (.new none (.cells true (s.data.toList.map λb=>.int .u8 (b.toNat:Int))) λb=>.sl b 0 1 s.size)
    | _=>none
def aXV:Option (List AV)->Option Eff
    | some cs=>some (.new none (.cells true cs) λb=>.pt b 0)
    | none=>none
def aXU(s n:Nat):Option (List AV)->Option Eff
    | some cs=>some (.new none (.cells true cs) λb=>.sl b 0 s n)
    | none=>none
def aXj(s bytes:Nat)(z:List AV)(l c:AV):Option Eff:=match l,c with
    | .int .i64 l,.int .i64 c=>if 0<=l/\l<=c/\(bytes:Int)*c<=281474976710656/\c<=9223372036854775807 then
     some (.new none (.cells true (List.replicate c.toNat z).flatten) λb=>.sl b 0 s l.toNat) else none
    | _,_=>none
theorem Tr:(false=true)=False:=by simp
theorem Ts{α β:Type}{f:α->β}{a:α}{l:List α}:(a::l).map f=f a::l.map f:=rfl
theorem Tt{α β:Type}{f:α->β}:([]:List α).map f=[]:=rfl
theorem Tu{α:Type}{a:α}{l s:List α}:(a::l)++s=a::(l++s):=rfl
theorem Tv{α:Type}{s:List α}:[]++s=s:=rfl
theorem Tw{α:Type}{s:List α}:s++[]=s:=by simp
theorem Tx{α β:Type}{f:α->List β}{a:α}{l:List α}:(a::l).flatMap f=f a++l.flatMap f:=by simp
theorem Ty{α β:Type}{f:α->List β}:([]:List α).flatMap f=[]:=rfl
theorem Tz{α:Type}{a:α}{l:List α}:(a::l).length=l.length+1:=rfl
theorem T2{α:Type}:([]:List α).length=0:=rfl
theorem T3{α β:Type}{f:α->β}{l:List α}:(l.map f).length=l.length:=by simp
theorem T4{α β:Type}{f:α->β}{l:List α}{i:Nat}:(l.map f)[i]?=l[i]?.map f:=by simp
theorem T5{α β:Type}{f:α->β}{a:α}:(some a).map f=some (f a):=rfl
theorem T6{α β:Type}{f:α->β}:(none:Option α).map f=none:=rfl
theorem T7{b:Bool}:(true&&b)=b:=by simp
theorem T8{b:Bool}:(b&&true)=b:=by simp
theorem T9{b:Bool}:(false&&b)=false:=by simp
theorem TA{b:Bool}:(b&&false)=false:=by simp
theorem TB:(!true)=false:=rfl
theorem TC:(!false)=true:=rfl
theorem TD{b:Bool}:(true||b)=true:=by simp
theorem TE{b:Bool}:(b||true)=true:=by simp
theorem TF{p:Prop}:(p/\True)=p:=by simp
theorem TG{p:Prop}:(False/\p)=False:=by simp
theorem TH{p:Prop}:(p\/True)=True:=by simp
theorem TI{p:Prop}:(p\/False)=p:=by simp
theorem TJ{i:Decidable True}:decide True=true:=by simp
theorem TK{i:Decidable False}:decide False=false:=by simp
theorem TL{α:Type}{f:α->Bool}:[].all f=true:=rfl
theorem TM{α:Type}{f:α->Bool}{a:α}{l:List α}:(a::l).all f=(f a&&l.all f):=rfl
theorem TN{α:Type}{a:α}:List.replicate 0 a=[]:=rfl
theorem Qi{α:Type}{a:α}:List.replicate 1 a=[a]:=rfl
theorem Qj{α:Type}{a:α}:List.replicate 2 a=[a,a]:=rfl
theorem Qk{α:Type}{a:α}:List.replicate 3 a=[a,a,a]:=rfl
theorem Ql{α:Type}{a:α}:List.replicate 4 a=[a,a,a,a]:=rfl
theorem TO:mI []=[]:=by simp only[mI]
theorem TP{v:AV}{r:List AV}:mI (v::r)=(kK v++mI r):=by simp only[mI]
theorem TQ{s:Nat->Option Nat}:mR s []=[]:=by simp only[mR]
theorem TR{s:Nat->Option Nat}{v:AV}{r:List AV}:mR s (v::r)=(rnA s v::mR s r):=by simp only[mR]
theorem TS:lE []=true:=by simp only[lE]
theorem TT{v:AV}{r:List AV}:lE (v::r)=(iD v&&lE r):=by simp only[lE]
theorem TU:slL []=[]:=by simp only[slL]
theorem TV{v:AV}{r:List AV}:slL (v::r)=(slN v++slL r):=by simp only[slL]
theorem TX{B:Nat}{C:List AV}:fzL B C []=[]:=by simp only[fzL]
theorem TY{B:Nat}{C:List AV}{v:AV}{r:List AV}:fzL B C (v::r)=(xJ B C v::fzL B C r):=by simp only[fzL]
theorem TZ:kI []=[]:=by simp only[kI]
theorem Sa{v:AV}{r:List AV}:kI (v::r)=(vN v::kI r):=by simp only[kI]
theorem Sc{a:AV}{z cs:List AV}{off:Nat}:bJ (a::z) off cs=(a::z).take off++cs++(a::z).drop (off+cs.length):=rfl
theorem Sd{z:List AV}:gU z []=some z:=rfl
def aXF(z:List AV)(off n:Nat)(rest:List (Nat×Nat×AV)):Option (List AV)->Option (List AV)
 | some cs=>if cs.length=n/\off+n<=z.length then gU (bJ z off cs) rest else none
 | none=>none
theorem Se{z:List AV}{off n:Nat}{v:AV}{rest:List (Nat×Nat×AV)}:gU z ((off,n,v)::rest)=aXF z off n rest (cellsOf v):=by simp only[gU,aXF]<;>rfl
theorem Sf{z cs:List AV}{off n:Nat}{rest:List (Nat×Nat×AV)}:aXF z off n rest (some cs)=if cs.length=n/\off+n<=z.length then gU (bJ z off cs) rest else none:=rfl
theorem Sg{c d:Nat}{e:aJ}:aW c d e none=some d:=rfl
def boM(cap:Nat):AV->Option Nat
 | .int _ n=>if 0<=n/\n<=(cap:Int) then some n.toNat else none
 | _=>none
theorem Si{c d:Nat}{e:aJ}{x:AO}:aW c d e (some x)=boM c (aK e x):=by simp only[aW,boM]<;>rfl
theorem Sj{c:Nat}{k:IntKind}{n:Int}:boM c (.int k n)=if 0<=n/\n<=(c:Int) then some n.toNat else none:=rfl
theorem Sk{e:aJ}{p:Nat}{ps:List Nat}{v:AV}{vs:List AV}:sK e (p::ps) (v::vs)=sK (upd e p v) ps vs:=rfl
theorem Sl{e:aJ}{vs:List AV}:sK e [] vs=e:=rfl
theorem Sn{H:Hp}{x:AO}{e:aJ}:aD (.box x) e H=aXV (cellsOf (aK e x)):=by simp only[aD,aXV]<;>rfl
theorem Sp{cs:List AV}:aXV (some cs)=some (.new none (.cells true cs) λb=>.pt b 0):=rfl
theorem Sq{s n:Nat}{z:List AV}{ps:List (Nat×Nat×AO)}{e:aJ}{H:Hp}:aD (.bslice s n z ps) e H=aXU s n (gU (List.replicate n z).flatten (ps.map λp=>(p.1,p.2.1,aK e p.2.2))):=by simp only[aD,aXU]<;>rfl
theorem Sr{s n:Nat}{cs:List AV}:aXU s n (some cs)=some (.new none (.cells true cs) λb=>.sl b 0 s n):=rfl
theorem Ss{α:Type}:([]:List (List α)).flatten=[]:=rfl
theorem Su{α:Type}{a:List α}{l:List (List α)}:(a::l).flatten=a++l.flatten:=rfl
theorem Sv{e:aJ}{H:Hp}:aD .mkmap e H=some (.new none (.map true []) λb=>.mp b):=rfl
theorem Sw{s b:Nat}{z:List AV}{l c:AO}{e:aJ}{H:Hp}:aD (.mksl s b z l c) e H=aXj s b z (aK e l) (aK e c):=by simp only[aD,aXj]<;>rfl
theorem Sx{s b:Nat}{z:List AV}{l c:Int}:aXj s b z (I l) (I c)=if 0<=l/\l<=c/\(b:Int)*c<=281474976710656/\c<=9223372036854775807 then
        some (.new none (.cells true (List.replicate c.toNat z).flatten) λb=>.sl b 0 s l.toNat) else none:=rfl
theorem Sy{s:Nat}{H:Hp}:fX s H .nilsl=some (0,[]):=rfl
theorem Sz{s:Nat}{H:Hp}{rows:List (List AV)}:fX s H (.fs rows)=if rows.all (λr=>r.length==s) then some (rows.length,rows.flatten) else none:=rfl
def aWD(s o s' len:Nat):Option ABlk->Option (Nat×List AV)
    | some (.cells _ cs)=>if s'=s/\o+len*s<=cs.length then some (len,(cs.drop o).take (len*s)) else none
    | _=>none
theorem S3{s b o s' n:Nat}{H:Hp}:fX s H (.sl b o s' n)=aWD s o s' n (H b):=by simp only[fX,aWD]<;>rfl
theorem S4{s o s' len:Nat}{w:Bool}{cs:List AV}:aWD s o s' len (some (.cells w cs))=if s'=s/\o+len*s<=cs.length then some (len,(cs.drop o).take (len*s)) else none:=rfl
def aKV(s bytes:Nat)(H:Hp)(x:AV):Option (Nat×List AV)->Option Eff
 | none=>none
 | some (n,new) =>
   match x with
   | .nilsl=>if n*bytes<=1099511627776/\n<=1099511627776 then (if n=0 then some (.val .nilsl) else some (.new none (.cells true new) λb=>if bytes=1048577 then .sb b n else .sl b 0 s n)) else none
   | .sb b len=>match H b with
     | some (.cells true cs)=>if bytes=1048577/\s=1/\len=cs.length/\len+n<=1099511627776 then some (.new (some b) (.cells true (cs++new)) λb=>.sb b (len+n)) else none
     | _=>none
   | .sl b 0 s' len=>match H b with
     | some (.cells true cs)=>if s'=s/\len*s=cs.length/\(len+n)*bytes<=1099511627776/\len+n<=1099511627776 then some (.new (some b) (.cells true (cs++new)) λb=>.sl b 0 s (len+n)) else none
     | _=>none
   | _=>none
def aRH(s bytes n:Nat)(new:List AV)(b len:Nat):Option ABlk->Option Eff
 | some (.cells true cs)=>if bytes=1048577/\s=1/\len=cs.length/\len+n<=1099511627776 then some (.new (some b) (.cells true (cs++new)) λb=>.sb b (len+n)) else none
 | _=>none
def aRI(s bytes n:Nat)(new:List AV)(b s' len:Nat):Option ABlk->Option Eff
 | some (.cells true cs)=>if s'=s/\len*s=cs.length/\(len+n)*bytes<=1099511627776/\len+n<=1099511627776 then some (.new (some b) (.cells true (cs++new)) λb=>.sl b 0 s (len+n)) else none
 | _=>none
theorem S5{s bytes:Nat}{H:Hp}{x y:AV}:tO s bytes H x y=aKV s bytes H x (fX s H y):=by
 unfold tO aKV;cases fX s H y<;>rfl
theorem S6{s bytes n:Nat}{H:Hp}{new:List AV}:aKV s bytes H .nilsl (some (n,new))=if n*bytes<=1099511627776/\n<=1099511627776 then (if n=0 then some (.val .nilsl) else some (.new none (.cells true new) λb=>if bytes=1048577 then .sb b n else .sl b 0 s n)) else none:=rfl
theorem Pt{s bytes n b len:Nat}{H:Hp}{new:List AV}:aKV s bytes H (.sb b len) (some (n,new))=aRH s bytes n new b len (H b):=by simp only[aKV,aRH]<;>rfl
theorem Pu{s bytes n b len:Nat}{cs new:List AV}:aRH s bytes n new b len (some (.cells true cs))=if bytes=1048577/\s=1/\len=cs.length/\len+n<=1099511627776 then some (.new (some b) (.cells true (cs++new)) λb=>.sb b (len+n)) else none:=rfl
theorem S7{s bytes n b s' len:Nat}{H:Hp}{new:List AV}:aKV s bytes H (.sl b 0 s' len) (some (n,new))=aRI s bytes n new b s' len (H b):=by simp only[aKV,aRI]<;>rfl
theorem S8{s bytes n b s' len:Nat}{cs new:List AV}:aRI s bytes n new b s' len (some (.cells true cs))=if s'=s/\len*s=cs.length/\(len+n)*bytes<=1099511627776/\len+n<=1099511627776 then some (.new (some b) (.cells true (cs++new)) λb=>.sl b 0 s (len+n)) else none:=rfl
theorem Rk{e:aJ}{n:Nat}:aK e (.t n)=e n:=rfl
theorem Rl{e:aJ}{v:AV}:aK e (.c v)=v:=rfl
theorem Rm:aBr 2 .nilfn .nilfn=some true:=rfl
theorem Ro{f:Fn}{a b:List AV}:aBr 2 (.fn f a b) .nilfn=some false:=rfl
theorem Rp:aBr 3 .nilpt .nilpt=some true:=rfl
theorem Rq{b o:Nat}:aBr 3 (.pt b o) .nilpt=some false:=rfl
def aTj(len s b o n h:Nat):Option Nat->Option Eff
 | some l=>if o+len*s<=n/\l<len then some (.val (.sl b (o+l*s) s (h-l))) else none
 | none=>none
def aTk(len s:Nat)(e:aJ)(lo:Option AO)(b o:Nat):Option ABlk->Option Nat->Option Eff
 | some (.cells _ cs),some h=>aTj len s b o cs.length h (aW h 0 e lo)
 | _,_=>none
def aWG(len s:Nat)(e:aJ)(lo:Option AO)(H:Hp)(r:Option Nat):AV->Option Eff
 | .pt b o=>aTk len s e lo b o (H b) r
 | _=>none
theorem Rr{len s:Nat}{x:AO}{lo hi:Option AO}{e:aJ}{H:Hp}:aD (.slarr len s x lo hi) e H=aWG len s e lo H (aW len len e hi) (aK e x):=by
 simp only[aD,aWG];cases aK e x with
 | pt b o =>
   simp only[];cases H b with
   | none=>rfl
   | some c =>
     cases c with
     | cells w cs =>
       cases aW len len e hi with
       | none=>rfl
       | some h=>simp only[aTk,aTj];cases aW h 0 e lo<;>rfl
     | _=>rfl
 | _=>rfl
theorem Rs{len s b o:Nat}{e:aJ}{lo:Option AO}{H:Hp}{r:Option Nat}:aWG len s e lo H r (.pt b o)=aTk len s e lo b o (H b) r:=rfl
theorem Rt{len s b o h:Nat}{e:aJ}{lo:Option AO}{w:Bool}{cs:List AV}:aTk len s e lo b o (some (.cells w cs)) (some h)=aTj len s b o cs.length h (aW h 0 e lo):=rfl
theorem Ru{len s b o n h l:Nat}:aTj len s b o n h (some l)=if o+len*s<=n/\l<len then some (.val (.sl b (o+l*s) s (h-l))) else none:=rfl
def aTh(rows:List (List AV))(h:Nat):Option Nat->Option Eff
 | some l=>some (.val (.fs ((rows.drop l).take (h-l))))
 | none=>none
def aTi(rows:List (List AV))(e:aJ)(lo:Option AO):Option Nat->Option Eff
 | some h=>aTh rows h (aW h 0 e lo)
 | none=>none
def aTf(b o s h:Nat):Option Nat->Option Eff
 | some l=>if l<h then some (.val (.sl b (o+l*s) s (h-l))) else if l=0 then some (.val (.sl b o s 0)) else some (.val (.fs []))
 | none=>none
def aTg(b o s:Nat)(e:aJ)(lo:Option AO):Option Nat->Option Eff
 | some h=>aTf b o s h (aW h 0 e lo)
 | none=>none
def aZd:Option Nat->Option Eff
 | some _=>some (.val .nilsl)
 | none=>none
def aZe(e:aJ)(lo:Option AO):Option Nat->Option Eff
 | some h=>aZd (aW h 0 e lo)
 | none=>none
def aMJ(s:Nat)(e:aJ)(lo hi:Option AO):AV->Option Eff
 | .fs rows=>if rows.all (λr=>r.length==s) then aTi rows e lo (aW rows.length rows.length e hi) else none
 | .sl b o s' len=>if s'=s then aTg b o s e lo (aW len len e hi) else none
 | .nilsl=>aZe e lo (aW 0 0 e hi)
 | _=>none
theorem Rx{s:Nat}{x:AO}{lo hi:Option AO}{e:aJ}{H:Hp}:aD (.slsl s x lo hi) e H=aMJ s e lo hi (aK e x):=by
 simp only[aD];cases aK e x with
 | fs rows =>
   simp only[mX,aMJ];by_cases hr:(rows.all λr=>r.length==s)=true
   .simp only[hr,AAe]
    cases aW rows.length rows.length e hi with
    | none=>rfl
    | some h=>simp only[aTi,aTh];cases aW h 0 e lo<;>rfl
   .simp only[hr];rfl
 | sl b o s' len =>
   simp only[mX,aMJ];by_cases hr:s'=s
   .simp only[hr,AAe]
    cases aW len len e hi with
    | none=>rfl
    | some h =>
      simp only[aTg,aTf];cases aW h 0 e lo with
      | none=>rfl
      | some l =>
        by_cases hl:l<h;·simp only[hl,AAe]
        .by_cases h0:l=0
         .simp only[hl,h0,AAe,AAd]
          subst h0;simp only[hl,AAd]
         .simp only[hl,h0,AAd]
   .simp only[hr,AAd]
 | nilsl =>
   simp only[mX,aMJ];cases aW 0 0 e hi with
   | none=>rfl
   | some h=>simp only[aZe,aZd];cases aW h 0 e lo<;>rfl
 | _=>rfl
theorem Ry{s:Nat}{e:aJ}{lo hi:Option AO}{rows:List (List AV)}:aMJ s e lo hi (.fs rows)=if rows.all (λr=>r.length==s) then aTi rows e lo (aW rows.length rows.length e hi) else none:=rfl
theorem Rz{s b o s' len:Nat}{e:aJ}{lo hi:Option AO}:aMJ s e lo hi (.sl b o s' len)=if s'=s then aTg b o s e lo (aW len len e hi) else none:=rfl
theorem R0{rows:List (List AV)}{e:aJ}{lo:Option AO}{h:Nat}:aTi rows e lo (some h)=aTh rows h (aW h 0 e lo):=rfl
theorem RC{rows:List (List AV)}{h l:Nat}:aTh rows h (some l)=some (.val (.fs ((rows.drop l).take (h-l)))):=rfl
theorem RG{b o s h:Nat}{e:aJ}{lo:Option AO}:aTg b o s e lo (some h)=aTf b o s h (aW h 0 e lo):=rfl
theorem RH{b o s h l:Nat}:aTf b o s h (some l)=if l<h then some (.val (.sl b (o+l*s) s (h-l))) else if l=0 then some (.val (.sl b o s 0)) else some (.val (.fs [])):=rfl
def aTb(s:ByteArray)(h:Nat):Option Nat->Option Eff
 | some l=>some (.val (.str (fK s l h)))
 | none=>none
def aTc(s:ByteArray)(e:aJ)(lo:Option AO):Option Nat->Option Eff
 | some h=>aTb s h (aW h 0 e lo)
 | none=>none
def aWC(e:aJ)(lo hi:Option AO):AV->Option Eff
 | .str s=>aTc s e lo (aW s.size s.size e hi)
 | _=>none
theorem RI{x:AO}{lo hi:Option AO}{e:aJ}{H:Hp}:aD (.slstr x lo hi) e H=aWC e lo hi (aK e x):=by
 simp only[aD,aWC];cases aK e x with
 | str s =>
   simp only[];cases aW s.size s.size e hi with
   | none=>rfl
   | some h=>simp only[aTc,aTb];cases aW h 0 e lo<;>rfl
 | _=>rfl
theorem RJ{e:aJ}{lo hi:Option AO}{s:ByteArray}:aWC e lo hi (.str s)=aTc s e lo (aW s.size s.size e hi):=rfl
theorem RO{e:aJ}{lo:Option AO}{s:ByteArray}{h:Nat}:aTc s e lo (some h)=aTb s h (aW h 0 e lo):=rfl
theorem RR{s:ByteArray}{h l:Nat}:aTb s h (some l)=some (.val (.str (fK s l h))):=rfl
theorem RU{x:AO}{e:aJ}{H:Hp}:aD (.bytes x) e H=aXT (aK e x):=by simp only[aD,aXT]<;>rfl
theorem RV{s:ByteArray}:aXT (.str s)=some (.new none (.cells true (s.data.toList.map λb=>.int .u8 (b.toNat:Int))) λb=>.sl b 0 1 s.size):=rfl
theorem RW{t:TypeId}{x:AO}{e:aJ}{H:Hp}:aD (.mkifc t x) e H=some (.val (.ifc t (aK e x))):=rfl
theorem mC(p:Prop):(p=True)\/(p=False):=by by_cases h:p<;>simp[h]
theorem dO{α:Type}{l:List α}{i:Nat}(h:i<l.length):∃ x,l[i]?=some x:=⟨l[i],B7 h⟩
theorem S9{n:Int}:(n<n)=False:=AAb
theorem cV{i n:Nat}(h:i<n)(hn:n<1000000000000):IntKind.i64.wrap ((i:Int)+1)=(i:Int)+1:=aE AS AS
theorem SA{agg:Bool}{n b o:Nat}{H:Hp}:fM agg n H (.pt b o)=ldM agg n o (H b):=by unfold fM ldM;rfl
theorem SC{agg w:Bool}{n o:Nat}{cs:List AV}:ldM agg n o (some (.cells w cs))=iZ agg n cs o:=rfl
theorem SD{agg:Bool}{n i o:Nat}{rows:List (List AV)}{H:Hp}:fM agg n H (.fp rows i o)=ldR agg n o (rows[i]?):=by unfold fM ldR;rfl
theorem SE{agg:Bool}{n o:Nat}{r:List AV}:ldR agg n o (some r)=iZ agg n r o:=rfl
theorem SF{n o:Nat}{cs:List AV}:iZ true n cs o=if o+n<=cs.length then some (.agg ((cs.drop o).take n)) else none:=rfl
theorem SG{n o:Nat}{cs:List AV}:iZ false n cs o=cs[o]?:=rfl
theorem SI{n b o:Nat}{h:XH}{x:AV}:qS n h (.pt b o) x=stM n b o h (hat h b) (cellsOf x):=by
 simp only[qS,stM]<;>rfl
theorem SJ{n b o:Nat}{h:XH}{g:Bool}{cs vs:List AV}:stM n b o h (some (.blk g (.cells true cs))) (some vs)=if vs.length=n/\o+n<=cs.length then some (h.set b (some (.blk (g&&lE vs) (.cells true (bJ cs o vs))))) else none:=rfl
theorem SK{q:Bool}{h:XH}{b:Nat}{k x:AV}:wD q h (.mp b) k x=muM q b h k x (hat h b):=by simp only[wD,muM]<;>rfl
theorem SL{q g:Bool}{h:XH}{b:Nat}{k x:AV}{es:List (AV×AV)}:muM q b h k x (some (.blk g (.map true es)))=(kU q k x es).map λes'=>h.set b (some (.blk (g&&(iD k&&iD x)) (.map true es'))):=rfl
theorem SN{h:XH}{g:Bool}{x:ABlk}:vV h none g x=h++[some (.blk g x)]:=rfl
theorem SO{h:XH}{b:Nat}{g:Bool}{x:ABlk}:vV h (some b) g x=h.set b none++[some (.blk g x)]:=rfl
theorem SP{h:XH}{b o s n:Nat}:lH h (.sl b o s n)=flM (hat h b):=by simp only[lH,flM]<;>rfl
theorem SQ{g:Bool}{x:ABlk}:flM (some (.blk g x))=g:=rfl
theorem SS{h:XH}{rows:List (List AV)}:lH h (.fs rows)=true:=rfl
theorem SU{h:XH}:lH h .nilsl=true:=rfl
theorem SV{op:BinOp}{k k':IntKind}{a b:Int}:aER op (.int k a) (.int k' b)=iK op k a k' b:=rfl
theorem SW{op:BinOp}{a b:ByteArray}:aER op (.str a) (.str b)=aN op a b:=rfl
theorem RX{α β:Type}{f:α->β}{a b:List α}:(a++b).map f=a.map f++b.map f:=by simp
theorem RY{α:Type}{a b:List α}:(a++b).length=a.length+b.length:=by simp
theorem RZ{n:Nat}:n*1=n:=by simp
theorem Qa{n:Nat}:0+n=n:=by simp
theorem Qb{n:Nat}:n+0=n:=by simp
theorem Qd{n:Nat}:(n<=n)=True:=by simp
theorem Qe{n:Nat}:n-0=n:=by simp
def aDp{α:Type}(l:List α)(o:Nat)(v:α):List α:=l.take o++v::l.drop (o+1)
theorem aAF{α:Type}{l:List α}{o:Nat}{v:α}(h:o<l.length):aDp l o v=l.set o v:=by
 rw[aDp,J5,if_pos h]
theorem Qf{hs:List Int}{o:Nat}{v:Int}:bJ (hs.map I) o [I v]=(aDp hs o v).map I:=by
 simp[bJ,aDp]
theorem yW{α:Type}{f:α->AV}:∀(l pre:List α),bK ((pre++l).map f) pre.length 1 l.length=l.map λv=>[f v]
 | [],pre=>rfl
 | a::r,pre=>by
   have h:=yW (f:=f) r (pre++[a])
   grind [bK]
theorem Qg{hs:List Int}:bK (hs.map I) 0 1 hs.length=hs.map λv=>[I v]:=yW (f:=I) hs []
theorem Qh{n:Nat}{v:Int}:(List.replicate n [I v]).flatten=(List.replicate n v).map I:=by
 simp_all
section
variable{D:Nat->Option XFn}{K k:Nat}{rd:Option Nat}{e:aJ}{h:XH}{run:fC}{runY:gR}
variable{d:Option Nat}{ix:Nat}{r:List DOper}{L:List (Nat×Nat)}
theorem QI{s b:Nat}{x y:AO}:xo (some L) run runY (⟨ix,d,.app s b x y,none⟩::r) e h=aBS (L.all λq=>fB (aK e x) != some q.2) (kE (some L) run runY r d e h (lH h (aK e x)&&lH h (aK e y)) (tO s b (aH h) (aK e x) (aK e y))):=by
 show fV run runY _ e h L=_;rw[<-aQA];rfl
theorem QN:(true != true)=false:=rfl
theorem QO:(false != false)=false:=rfl
theorem QJ{b:Nat}:((none:Option Nat) != some b)=true:=rfl
theorem QL{a b:Nat}:(some a != some b) = !(decide (a=b)):=by by_cases h:a=b<;>simp[h]
def lsM:Option XB->Option LSt
 | some (.loop _ _ _ s)=>some s
 | _=>none
theorem Qr{h:XH}{l:Nat}:iJ h l=lsM (hat h l):=by unfold iJ lsM;rfl
theorem Qs{K site:Nat}{vs:List AV}{s:LSt}:lsM (some (.loop K site vs s))=some s:=rfl
def ltM(h:XH)(l:Nat)(s:LSt):Option XB->XH
 | some (.loop K site vs _)=>h.set l (some (.loop K site vs s))
 | _=>h
theorem Qt{h:XH}{l:Nat}{s:LSt}:loopTo h l s=ltM h l s (hat h l):=by unfold loopTo ltM;rfl
theorem Qu{h:XH}{l K site:Nat}{vs:List AV}{s s':LSt}:ltM h l s (some (.loop K site vs s'))=h.set l (some (.loop K site vs s)):=rfl
theorem Qw{h:XH}:aBQ none h=true:=rfl
theorem Qx{g:Nat}{a b:List AV}:aBP (.fn (.func g) a b)=true:=rfl
def aZl(b:Bool)(n:Nat)(e:aJ)(r:Option (AV×XH)):Option (DX×aJ×XH):=if b then aIy n e r else none
theorem Qy{site:Nat}{L:List Nat}{f:AO}{ps:List Nat}{a b:XCode}:execW D K k rd (.rng site L f ps a b) e h=aZl (aBQ rd h&&aBP (aK e f)) h.length e (gJ (runW D) (runYW D) (aK e f) [.fn (.yield h.length) [] []] (h++[some (.loop K site (L.map e) .ready)])):=aNm
theorem Qz{n:Nat}{r:Option (AV×XH)}:aZl true n e r=aIy n e r:=rfl
def rgM(n:Nat)(e:aJ)(h:XH):Option LSt->Option (DX×aJ×XH)
 | some .ready=>some (.normal,e,h.set n none)
 | some (.done x)=>some (x,e,h.set n none)
 | _=>none
theorem Q0{n:Nat}{v:AV}:aIy n e (some (v,h))=rgM n e h (iJ h n):=by unfold aIy rgM;rfl
theorem QA{n:Nat}:rgM n e h (some .ready)=some (.normal,e,h.set n none):=rfl
theorem QB{l:Nat}{as:List AV}:gJ run runY (.fn (.yield l) [] []) as h=kM (iH (.fn (.yield l) [] []::as) h) h (runY (rnA (aPY (iH (.fn (.yield l) [] []::as) h)) (.fn (.yield l) [] [])) (mR (aPY (iH (.fn (.yield l) [] []::as) h)) as) (iU (iH (.fn (.yield l) [] []::as) h) h)):=rfl
def yM2(x:Option (AV×XH)):Option LSt->Option (AV×XH)
 | some .ready=>x
 | _=>none
theorem QD{l:Nat}{f:aJ->XH->Option (AV×XH)}:aJE l (some (.normal,e,h)) f=yM2 (f e (loopTo h l .busy)) (iJ h l):=by unfold aJE yM2;rfl
theorem QE{x:Option (AV×XH)}:yM2 x (some .ready)=x:=rfl
def yE2(l k:Nat)(x:DX)(h:XH):Option LSt->Option (AV×XH)
 | some .busy=>some (match x with
  | .normal=>pT true k (.bool true) (loopTo h l .ready)
  | x=>pT true k (.bool false) (loopTo h l (.done x)))
 | _=>none
theorem QG{l:Nat}{x:DX}:aMt l k (some (x,e,h))=yE2 l k x h (iJ h l):=by unfold aMt yE2;rfl
theorem QH{l:Nat}:yE2 l k .normal h (some .busy)=some (pT true k (.bool true) (loopTo h l .ready)):=rfl
end
theorem QW{g g' w w':Bool}{xs ys:List AV}:aIq (some (.blk g (.cells w xs))) (some (.blk g' (.cells w' ys)))=(w==w'&&iY xs ys):=rfl
theorem QX:iY [] []=true:=rfl
theorem QY{x y:AV}{xs ys:List AV}:iY (x::xs) (y::ys)=(cP x y&&iY xs ys):=rfl
theorem QZ{k:IntKind}{n:Int}:cP (.int k n) (.int k n)=true:=by simp[cP]
theorem Pa{b:Bool}:cP (.bool b) (.bool b)=true:=by cases b<;>rfl
theorem Pb{b o:Nat}:cP (.pt b o) (.pt b o)=true:=by simp[cP]
theorem Pc{b o s n:Nat}:cP (.sl b o s n) (.sl b o s n)=true:=by simp[cP]
theorem Pd:cP .nilsl .nilsl=true:=rfl
theorem Pe:((32:Nat):Int)=32:=rfl
theorem Pf:((40:Nat):Int)=40:=rfl
theorem Pg:((45:Nat):Int)=45:=rfl
theorem Ph{k:IntKind}{a b:Int}:iK .andNot k a k b=some (.int k (oG .andNot k a b)):=by simp[iK]
section
variable{run:fC}{runY:gR}{d:Option Nat}{e:aJ}{h:XH}{ix:Nat}{r:List DOper}{m:Option (List (Nat×Nat))}
theorem Pv{b n:Nat}:kK (.sb b n)=([b]:List Nat):=rfl
theorem Pw{b n:Nat}:iD (.sb b n)=(false:Bool):=rfl
theorem Px{s:Nat->Option Nat}{b n:Nat}:rnA s (.sb b n)=((match s b with|some c=>.sb c n|none=>.any):AV):=by simp only[rnA]<;>rfl
theorem Py{B:Nat}{C:List AV}{b n:Nat}:xJ B C (.sb b n)=((.sb b n):AV):=rfl
theorem Pz{b n:Nat}:cellsOf (.sb b n)=(some [(.sb b n)]:Option (List AV)):=rfl
theorem P0{b:Nat}:kK (.bp b)=([b]:List Nat):=rfl
theorem P8{s:Nat->Option Nat}{b:Nat}:rnA s (.bp b)=((match s b with|some c=>.bp c|none=>.any):AV):=by simp only[rnA]<;>rfl
theorem P9{b:Nat}:slN (.bp b)=([]:List Nat):=rfl
theorem PA{B:Nat}{C:List AV}{b:Nat}:xJ B C (.bp b)=((.bp b):AV):=rfl
theorem PB{b:Nat}:vN (.bp b)=((.bp b):AV):=rfl
theorem PC{p:AO}:xo m run runY (⟨ix,d,(DOp.strof p),none⟩::r) e h=kV m run runY r d e h (jS (aH h) (aK e p)):=tR rfl (by cases hs:jS (aH h) (aK e p)<;>simp[aD,rY,hs]) (λ_=>rfl) (λ_=>rfl) λ_ _=>rfl
theorem PD{H:Hp}{b o s n:Nat}:jS H (.sl b o s n)=oY (fX 1 H (.sl b o s n)):=rfl
theorem PE{n:Nat}{cs:List AV}:oY (some (n,cs))=(iL cs).map λl=>.str ⟨⟨l⟩⟩:=rfl
end
theorem aZP{p:Prop}(h:p):p:=h
theorem PQ{h:XH}{b j:Nat}{x:Option XB}:hat (h.set b x) j=if j=b then (if b<h.length then x else hat h j) else hat h j:=by
 rw[gO]
 grind
theorem PR{h k:XH}{j:Nat}:hat (h++k) j=if j<h.length then hat h j else hat k (j-h.length):=cX h k j
theorem PS{h k:XH}{b:Nat}{x:Option XB}:(h++k).set b x=if b<h.length then h.set b x++k else h++k.set (b-h.length) x:=by
 grind
theorem PT{h k l:XH}:(h++k)++l=h++(k++l):=aE2 h k l
theorem PU{h:XH}{b:Nat}{x:Option XB}:(h.set b x).length=h.length:=G6
theorem PV{n:Nat}:(n<n)=False:=AAo (Nat.lt_irrefl n)
theorem PW{n k:Nat}:(n+k<n)=False:=AAb
theorem PX{n:Nat}:n-n=0:=N8 n
theorem PY{n k:Nat}:n+k-n=k:=AS
def kGm(h:XH):Option AV->Option (AV×XH)
 | some v=>some (v,h)
 | none=>none
theorem PZ{res:List (Nat×Option (Bool×Nat))}{e:aJ}{h:XH}:aFl res (some (.normal,e,h))=kGm h (kD res e (aH h)):=by
 show (kD res e (aH h)).map (λv=>(v,h))=_;cases kD res e (aH h)<;>rfl
theorem Oa{res:List (Nat×Option (Bool×Nat))}{e:aJ}{h:XH}:aFl res (some (.ret,e,h))=kGm h (kD res e (aH h)):=by
 show (kD res e (aH h)).map (λv=>(v,h))=_;cases kD res e (aH h)<;>rfl
theorem Ob{h:XH}{v:AV}:kGm h (some v)=some (v,h):=rfl
variable{P:Program}{B:Base}{F:Nat->Prop}{w:World}{H:Hp}{env:aJ}{a:Act}
def pnc(c:Value):List PanicEntry:=[{ v:=c,recovered:=false }]
def aMq(F:Nat->Prop)(w:World)(H:Hp)(Q:AV->Hp->Prop):Ending->World->Prop:=λe w' =>
 ∃ c v F' H',e = .panicked (pnc c)/\Ext F w H F' w' H'/\St F' w' H'/\Rv F' w' v c/\Q v H'
def FnP(B:Base)(P:Program)(f:FuncId)(as:List AV)(H:Hp)(Q:AV->Hp->Prop):Prop :=
 (∀(vs:Array Value)(w:World),(callFunc f vs).run P w = .ok (.enter f vs) w)/\∀(F:Nat->Prop)(w:World)(vs:Array Value),B.Up F w->St F w H->Args F w as vs->CallsIn Fence.wide 0 P f vs w (aMq F w H Q)
def aSd(B:Base)(P:Program)(fv:AV)(as:List AV)(H:Hp)(Q:AV->Hp->Prop):Prop :=
 match fv with
 | .fn (.func g) first cap=>FnP B P g (first++as++cap) H Q
 | _=>False
abbrev QP:=AV->aJ->Hp->Prop
def opP(B:Base)(P:Program)(o:DOper)(Q:QP)(env:aJ)(H:Hp):Prop :=
 gd o env=some true/\match o.op with
 | .callf false f xs _=>(∀ tab k,f ≠ .meth tab k)/\aSd B P (aK env f) (xs.map (aK env)) H λv H'=>Q v env H'
 | _=>False
def RSP(B:Base)(P:Program):List DOper->QP->aJ->Hp->Prop
 | [],_,_,_=>False
 | o::rest,Q,env,H=>opP B P o Q env H\/opW B P o (RSP B P rest Q) env H
def LandP(n0:Nat)(T:List Deferred)(F:Nat->Prop)(w:World)(H:Hp)(Q:QP):Exit->Act->World->Prop:=λe a' w' =>
 ∃ c v env' F' H',e = .panic (pnc c)/\Ext F w H F' w' H'/\St F' w' H'/\RE F' w' env' a'/\Rv F' w' v c/\Mk n0 T F' H' w' a'.defers/\Q v env' H'
theorem LandP.step{n0:Nat}{T:List Deferred}{Q:QP}{F':Nat->Prop}{w':World}{H':Hp}(he:Ext F w H F' w' H'){e:Exit}{a':Act}{w'':World}(hl:LandP n0 T F' w' H' Q e a' w''):LandP n0 T F w H Q e a' w'':=by
 obtain⟨c,v,env',F'',H'',h1,h2,h3⟩:=hl;exact⟨c,v,env',F'',H'',h1,he.trans h2,h3⟩
def WPD(B:Base)(P:Program)(r:Option Nat)(N:Nat)(dc:DCode)(Q:QP)(env:aJ)(H:Hp):Prop :=
 ∀ c,eS P N c=some dc->∀(F:Nat->Prop)(w:World)(a:Act)(n0:Nat)(T:List Deferred),B.Up F w->n0<=w.heap.size->a.tmps.size=N->St F w H->RE F w env a->Mk n0 T F H w a.defers->c.wpIn (FW r) 0 P (LandP n0 T F w H Q) a w
variable{r:Option Nat}{N:Nat}{Q:QP}
theorem WPD.seq1{x y:DCode}(h:WPD B P r N x Q env H):WPD B P r N (.seq x y) Q env H:=by
 intro c hc;cases c<;>simp only[eS]at hc
 case seq a b =>
  split at hc
  .rename_i a' b' ha hb
   simp only[oSI,DCode.seq.injEq]at hc;obtain⟨rfl,rfl⟩:=hc;intro F w act n0 T h1 h2 h3 h4 h5 h6;refine wpIn_seq (wpIn_mono (h a ha F w act n0 T h1 h2 h3 h4 h5 h6) ?_);rintro e a' w' ⟨c,v,env',F',H',rfl,k⟩;exact⟨c,v,env',F',H',rfl,k⟩
  .simp at hc
 all_goals grind
theorem WPD.seq2{x y:DCode}(h:WD B P r N x (λe env' H'=>e = .normal/\WPD B P r N y Q env' H') env H):WPD B P r N (.seq x y) Q env H:=by
 intro c hc;cases c<;>simp only[eS]at hc
 case seq a b =>
  split at hc
  .rename_i a' b' ha hb
   simp only[oSI,DCode.seq.injEq]at hc;obtain⟨rfl,rfl⟩:=hc;intro F w act n0 T h1 h2 h3 h4 h5 h6;refine wpIn_seq (wpIn_mono (h a ha F w act n0 T h1 h2 h3 h4 h5 h6) ?_);rintro e a' w' ⟨x,env',F',H',k1,k2,k3,k4,k5,k6,rfl,k7⟩;cases e with
   | normal=>exact wpIn_mono (k7 b hb F' w' a' n0 T (h1.step h4 k3) (H9 h2 k3.le) k2 k4 k5 k6) λ_ _ _=>LandP.step k3
   | exit id=>simp at k1
   | ret=>simp at k1
   | goto l=>grind
   | panic c=>grind
   | outgrown=>grind
  .simp at hc
 all_goals grind
theorem WPD.cond{o:AO}{x y:DCode}{t:Bool}(he:aK env o = .bool t)(h:WPD B P r N (if t then x else y) Q env H):WPD B P r N (.cond o x y) Q env H:=by
 intro c hc;cases c<;>simp only[eS]at hc
 case cond o' a b =>
  split at hc
  .rename_i o'' a' b' ho ha hb
   simp only[oSI,DCode.cond.injEq]at hc;obtain⟨rfl,rfl,rfl⟩:=hc;intro F w act n0 T h1 h2 h3 h4 h5 h6;have hv:=bM h5 ho;rw[he]at hv;have ht:act.eval o' = .bool t:=by
    generalize act.eval o'=z at hv;cases hv;rfl
   refine wpIn_cond ht ?_;cases t with
   | true=>exact h a ha F w act n0 T h1 h2 h3 h4 h5 h6
   | false=>exact h b hb F w act n0 T h1 h2 h3 h4 h5 h6
  .simp at hc
 all_goals exfalso;first|(simp at hc;done)|((repeat' split at hc)<;>simp at hc;done)
theorem WPD.block{id:Nat}{x:DCode}(h:WPD B P r N x Q env H):WPD B P r N (.block id x) Q env H:=by
 intro c hc;cases c<;>simp only[eS]at hc
 case block j a =>
  split at hc
  .rename_i a' ha
   simp only[oSI,DCode.block.injEq]at hc;obtain⟨rfl,rfl⟩:=hc;intro F w act n0 T h1 h2 h3 h4 h5 h6;refine wpIn_block (wpIn_mono (h a ha F w act n0 T h1 h2 h3 h4 h5 h6) ?_);rintro e a' w' ⟨c,v,env',F',H',rfl,k⟩;exact⟨c,v,env',F',H',rfl,k⟩
  .simp at hc
 all_goals exfalso;first|(simp at hc;done)|((repeat' split at hc)<;>simp at hc;done)
def aMr(B:Base)(P:Program)(r:Option Nat)(N:Nat)(x:DCode)(Q:QP):Nat->aJ->Hp->Prop
 | 0,env,H=>WPD B P r N x Q env H
 | n+1,env,H=>WD B P r N x (λe env' H'=>e = .normal/\aMr B P r N x Q n env' H') env H
theorem WPD.loop{x:DCode}{n:Nat}(h:aMr B P r N x Q n env H):WPD B P r N (.loop x) Q env H:=by
 intro c hc;cases c<;>simp only[eS]at hc
 case loop a =>
  split at hc
  .rename_i dx ha
   simp only[oSI,DCode.loop.injEq]at hc;subst hc;intro F w act n0 T h1 h2 h3 h4 h5 h6
   let good:Nat->Act->World->Prop:=λm a' w'=>∃ env' F' H',a'.tmps.size=N/\Ext F w H F' w' H'/\St F' w' H'/\RE F' w' env' a'/\Mk n0 T F' H' w' a'.defers/\aMr B P r N dx Q m env' H'
   have hex:∀ a' w',(∃ m,good m a' w')->∃ m,good m a' w'/\∀ k,good k a' w'->m<=k:=by
    intro a' w' ⟨m,hm⟩;induction m using Nat.strongRecOn with
    | _ m ih =>
      by_cases hk:∃ k,k<m/\good k a' w';·obtain⟨k,hk1,hk2⟩:=hk;grind
      grind
   let μ:Act->World->Nat:=λa' w'=>open Classical in if h:∃ m,good m a' w' then (hex a' w' h).choose else 0
   have hμ:∀ a' w' (h:∃ m,good m a' w'),good (μ a' w') a' w'/\∀ k,good k a' w'->μ a' w'<=k:=λa' w' h=>by
    have:μ a' w'=(hex a' w' h).choose:=by simp only[μ,AAq h]
    grind
   refine wpIn_loop (λa' w'=>∃ m,good m a' w') μ ⟨n,env,F,H,h3,Ext.refl _ _ _,h4,h5,h6,h⟩ ?_;intro a1 w1 hg;obtain⟨env',F',H',k2,k3,k4,k5,k6,k7⟩:=(hμ a1 w1 hg).1;generalize hm:μ a1 w1=m at *;cases m with
   | zero =>
     refine wpIn_mono (k7 a ha F' w1 a1 n0 T (h1.step h4 k3) (H9 h2 k3.le) k2 k4 k5 k6) ?_;rintro e a2 w2 ⟨c,v,env2,F2,H2,rfl,j1,j2⟩;exact⟨c,v,env2,F2,H2,rfl,k3.trans j1,j2⟩
   | succ m =>
     refine wpIn_mono (k7 a ha F' w1 a1 n0 T (h1.step h4 k3) (H9 h2 k3.le) k2 k4 k5 k6) ?_;rintro e a2 w2 ⟨x,env2,F2,H2,l1,l2,l3,l4,l5,l6,rfl,l7⟩;cases e with
     | normal =>
       have hg':good m a2 w2:=⟨env2,F2,H2,l2,k3.trans l3,l4,l5,l6,l7⟩;exact⟨⟨m,hg'⟩,aD5 ((hμ a2 w2 ⟨m,hg'⟩).2 m hg') AS⟩
     | exit j=>simp at l1
     | ret=>simp at l1
     | goto l=>grind
     | panic c=>grind
     | outgrown=>grind
  .simp at hc
 all_goals grind
theorem aNx(hB:B.Up F w)(st:St F w H)(re:RE F w env a){o:Oper}{f:Operand}{args:Array Operand}{ts:Array TypeId}{f':AO}{xs:List AO}
 (ho:o.op = .call { callee:=.value f,args:=args,argTypes:=ts }) (hf:co f=some f') (hx:coL args=some xs) {Qv:AV->Hp->Prop}
 (h:aSd B P (aK env f') (xs.map (aK env)) H Qv) {next:Act->World->Prop} {Qc:Exit->Act->World->Prop}
 (hn:∀ v c F' w' H',Ext F w H F' w' H'->St F' w' H'->Rv F' w' v c->Qv v H'->Qc (.panic (pnc c)) a w') :
 o.wpIn (FW r) 0 P a w next Qc:=by
 refine⟨tP r o,?_⟩;rw[Oper.semAt_eq _ _ _ (by grind)];have hfv:=bM re hf;obtain⟨vf,hvf⟩:∃ v,a.eval f=v:=⟨_,rfl⟩;rw[hvf]at hfv;have hargs:=aBZ re hx;unfold aSd at h;split at h
 .rename_i g first cap hev
  rw[hev]at hfv;cases hfv with
  | fn _ _ _ fv cv hl1 hl2 h1 h2 =>
    have hA:Args F w (first++xs.map (aK env)++cap) (fv++args.map a.eval++cv):=fE (fE ⟨hl1,h1⟩ hargs) ⟨hl2,h2⟩;have hc:=h.2 F w _ hB st hA;have hrun:(execOp a.eval o).run P w = .ok (.enter g (fv++args.map a.eval++cv)) w:=by
     simp only[execOp,ho,resolve,hvf,Deferred.ofValue,Sem.run_bind,Sem.run_pure,Result.andThen_ok,invoke];exact h.1 _ _
    rw[hrun,Oper.uponIn_enter];exact⟨λh=>by simp[FW,Fence.wide]at h,CallsIn.mono hc (by rintro e w' ⟨c,v,F',H',rfl,h1,h2,h3,h4⟩;grind)⟩
 grind
theorem aPa{ops:Array Oper}{i:Nat}{d:DOper}(hr:Reads P ops i d)(hB:B.Up F w)(st:St F w H)(re:RE F w env a)(h:opP B P d Q env H){Kc:Act->World->Prop}{Qc:Exit->Act->World->Prop}
 (hK:∀ F' w' H' c v,Ext F w H F' w' H'->St F' w' H'->RE F' w' env a->Rv F' w' v c->Q v env H'->Qc (.panic (pnc c)) a w') :
 wpOpIn (FW r) 0 P ops Qc i Kc a w:=by
 obtain⟨o,ho,hdst,hguard,hop,hdef⟩:=hr.get;obtain⟨hg,h⟩:=h;unfold wpOpIn;simp only[ho];have hgd:Region.wanted o (yielded ops a.tmps)=true:=by
  unfold gd at hg;unfold Region.wanted;split at hguard;·grind
  .rename_i j want hg2
   rw[hg2];obtain⟨g,h1,h2⟩:=hguard;rw[h2]at hg;simp only at hg;split at hg
   .rename_i t ht
    have hrt:=re.rv g;rw[ht]at hrt;have hy:yielded ops a.tmps j=some t:=by
     unfold yielded;rw[h1];simp only[D9];cases hx:a.tmps[g]? with
     | none=>rw[F7,hx]at hrt;cases hrt
     | some x =>
       rw[F7,hx]at hrt;simp only[G5]at hrt;cases hrt;rfl
    grind
   all_goals grind
 rw[if_pos hgd];split at h
 .rename_i f xs l hcf
  obtain⟨hnm,h⟩:=h;have hc0:dD P o=some (.callf false f xs []):=by
   rcases hop with h1|⟨n,p,x,l,h1,h2⟩|⟨q,f1,xs1,l1,h1,h2⟩
   .rw[hcf]at h1
    unfold aBt at h1;cases hx:dD P o with
    | none=>grind
    | some y =>
      rw[hx]at h1;simp only[G5]at h1;subst h1;rcases nD hx rfl rfl with ⟨t,pa,xa,n',p',x',_,_,_,_,hh⟩|⟨t,m,k,xx,m',k',x',kt,e,_,_,_,_,_,⟨_,_,hh⟩|⟨_,hh⟩⟩|⟨_,_,_,_,hh⟩|⟨c,_,hh⟩;·simp at hh
      .simp at hh
      .simp at hh
      .simp at hh
      .rcases xH hh rfl with ⟨_,_,_,_,_,_,_,_,_,_,_,_,_,_,_,hh⟩|⟨_,_,_,_,_,_,hh⟩|⟨_,_,_,_,_,hh⟩
       all_goals grind
   .grind
   .rw[hcf]at h2
    simp only[DOp.callf.injEq]at h2;obtain⟨rfl,rfl,rfl,rfl⟩:=h2;unfold aBt at h1;cases hx:dD P o with
    | none=>grind
    | some y=>grind
  obtain⟨dst,oo,ty,pos,after,guard⟩:=o;rcases nD hc0 rfl rfl with ⟨t,pa,xa,n',p',x',_,_,_,_,hh⟩|⟨t,m,k,xx,m',k',x',kt,e,_,_,_,_,_,⟨_,_,hh⟩|⟨_,hh⟩⟩|⟨_,_,_,_,hh⟩|⟨c,hoo,hcc⟩;·simp at hh
  .simp at hh
  .simp at hh
  .simp at hh
  .simp only at hoo
   subst hoo;rcases xH hcc rfl with ⟨_,_,_,_,_,_,_,_,_,_,_,_,_,_,_,hh⟩|⟨f0,f',xs',e1,g1,g2,hh⟩|⟨k,name,xs',e1,g2,hh⟩;·simp at hh
   .simp only[DOp.callf.injEq]at hh
    obtain⟨_,rfl,rfl,_⟩:=hh;obtain⟨callee,args,argTypes⟩:=c;simp only at e1;subst e1;refine aNx hB st re rfl g1 g2 h ?_;intro v c F' w' H' k1 k2 k3 k4;exact hK F' w' H' c v k1 k2 (re.up (k1.up st)) k3 k4
   grind
 grind
theorem aID{ops:Array Oper}{Qc:Exit->Act->World->Prop}:∀(l:List DOper)(i:Nat),(∀ j d,l[j]?=some d->Reads P ops (i+j) d)->(∀ d∈l,aGl N d) ->
 ∀(F:Nat->Prop)(w:World)(H:Hp)(env:aJ)(a:Act),a.tmps.size=N->B.Up F w->St F w H->RE F w env a->RSP B P l Q env H ->
   (∀ a' env' F' w' H' c v,a'.defers=a.defers->Ext F w H F' w' H'->St F' w' H'->RE F' w' env' a'->Rv F' w' v c->Q v env' H'->Qc (.panic (pnc c)) a' w') ->
 wpOpsIn (FW r) 0 P ops Qc (List.range' i l.length) a w:=by
 intro l;induction l with
 | nil=>intro i _ _ F w H env a hsz hB st re h;exact h.elim
 | cons d l ih =>
   intro i hr hd F w H env a hsz hB st re h hQ;rw[D7,aA9,wpOpsIn_cons];rcases h with h|h;·exact aPa (hr 0 d rfl) hB st re h λF' w' H' c v k1 k2 k3 k4 k5=>hQ a env F' w' H' c v rfl k1 k2 k3 k4 k5
   .refine aDo (hr 0 d rfl) (hd d (by simp)).2 (hd d (by simp)).1 hsz hB st re h ?_
    intro a' F' w' env' H' h1 h2 h3 h4 h5 h6;refine ih (i+1) (λj d' hj=>by have:=hr (j+1) d' (by grind);grind) (λd' hd'=>hd d' (by simp[hd'])) F' w' H' env' a' h1 (hB.step st h3) h4 h5 h6 ?_;intro a2 env2 F2 w2 H2 c v k0 k1 k2 k3 k4 k5;exact hQ a2 env2 F2 w2 H2 c v (k0.trans h2) (h3.trans k1) k2 k3 k4 k5
theorem WPD.reg{l:List DOper}(hcm:∀ o∈l,o.op.isComm=false)(h:RSP B P l Q env H):WPD B P r N (.reg false l) Q env H:=by
 intro c hc;cases c<;>simp only[eS]at hc
 case region id ops d =>
  split at hc
  .rename_i l' hl
   simp only[oSI,DCode.reg.injEq]at hc;obtain⟨rfl,rfl⟩:=hc;unfold xW at hl;split at hl;·simp at hl
   .rename_i l0 hl0
    obtain⟨hlen,hreads⟩:=xV hl0;split at hl;·simp at hl
    .rename_i hdst
     simp only[J7,aE4]at hdst;simp only[C6,AAd,oSI]at hl;subst hl;intro F w act n0 T h1 h2 h3 h4 h5 h6;refine wpIn_region ?_;rw[<-hlen,aA3];refine aID l0 0 (λj d hj=>by grind) (λd hd=>⟨aEG hdst d hd,hcm d hd⟩) F w H env act h3 h1 h4 h5 h ?_;intro a' env' F' w' H' c v k0 k1 k2 k3 k4 k5;exact⟨c,v,env',F',H',rfl,k1,k2,k3,k4,by rw[k0];exact h6.ext k1,k5⟩
  .simp at hc
 all_goals grind
theorem aFn{fn:Func}{tmps:Array Value}{n0:Nat}{F0:Nat->Prop}{w0:World}{H0:Hp}{R:Ending->World->Prop}{c:Value}{v:AV}(hn0:w0.heap.size<=n0)
 (hT:∀ w,Ext F0 w0 H0 F w H->St F w H->Rv F w v c->R (.panicked (pnc c)) w) :
 ∀(ms:List Deferred)(w:World),Ext F0 w0 H0 F w H->St F w H->Rv F w v c->ms.Nodup->(∀ d∈ms,Mk1 n0 F H w d)->LeavesInM Fence.wide 0 P fn tmps R ms (.panicking (pnc c)) w:=by
 intro ms;induction ms with
 | nil=>intro w he st hu _ _;exact hT w he st hu
 | cons d ds ih =>
   intro w he st hu hnd hm;obtain⟨D,rfl,h2,h3,h4,h5⟩:=hm d (by simp);obtain⟨k1,k2,k3⟩:=aAf (n0:=0) (x:=none) he st (H9 hn0 h2) h3 h4 h5;have hnd:=J9.1 hnd;refine⟨by simp,.inl ⟨D,_,rfl,run_takeDeferred h3,ih _ k1 k2 (hu.up k3) hnd.2 λd' hd'=>?_⟩⟩;obtain⟨D',rfl,l2,l3,l4,l5⟩:=hm d' (by simp[hd']);refine⟨D',rfl,l2,?_,l4,l5⟩
   grind [World.putObj_heap_other]
theorem FnP.of{f:FuncId}{d:DFn}{as:List AV}{Qv:AV->Hp->Prop}(hf:aUT P f d)(hN:as.length<=d.N)(hdf:d.dfr=none)(h:WPD B P none d.N d.body (λv _ H'=>Qv v H') (aX as) H):FnP B P f as H Qv:=by
 refine⟨hf.call,λF w vs hB st hA=>?_⟩;obtain⟨fn,c,h1,h2,h3,h4,h5⟩:=hf.code;have hsz:(vs++Array.replicate (fn.ntmps-vs.size) undef).size=d.N:=by
  have:=hA.1
  grind
 have hre:=aDd (N:=d.N) (nt:=fn.ntmps-vs.size) hB hA;rw[hdf]at h5;have h5':eS P d.N c=some d.body:=by
  simp only[aJq,B2,B9]at h5
  grind
 refine callsIn_of_wp_marks h1 h2 trivial (wpIn_mono (h c h5' F w { tmps:=vs++Array.replicate (fn.ntmps-vs.size) undef,defers:=[] } w.heap.size [] hB (B5 _) hsz st hre Mk.nil) ?_);rintro e a' w' ⟨cv,v,env',F',H',rfl,k2,k3,k4,k5,k6,k7⟩;obtain⟨ms,e1,e2,e3⟩:=k6.ex;rw[J3]at e1;show LeavesInM Fence.wide 0 P fn a'.tmps (aMq F w H Qv) a'.defers (.panicking (pnc cv)) w';rw[e1];exact aFn (B5 _) (λw'' he st' rv'=>⟨cv,v,F',H',rfl,he,st',rv',k7⟩) ms w' k2 k3 k5 e2 e3
variable{P:Program}{B:Base}{F:Nat->Prop}{w:World}{H:Hp}{env:aJ}{a:Act}
def aGe(z:DOper):Bool:=z.op.kind==7&&z.guard.isNone
def vQ(post:List DOper):List Nat:=(post.filter aGe).filterMap (·.dst)
def aCI(ds:List Nat)(e:aJ):aJ:=λj=>if ds.contains j then .any else e j
def aEK(y:DOper):List DOper->Bool
 | []=>true
 | x::r=>aEK y r&&(r++[y]).any λz => !qV x z
def aBY:List DOper->List DOper->Bool
 | _,[]=>true
 | prev,z::r=>if aGe z then aBY prev r else (prev.any λx => !qV x z)&&aBY (z::prev) r
def aLy(pre:List DOper)(y:DOper)(post:List DOper):Bool:=aEK y pre&&(aBY [y] post&&pre.all λx=>match x.dst with
 | some d => !(vQ post).contains d
 | none=>true)
theorem aLe{d:Option Nat}{u:AV}{j:Nat}(h:d≠some j):bD env d u j=env j:=by
 cases d with
 | none=>rfl
 | some k=>simp only[bD,upd];grind
theorem aMW{o:DOper}{K:aJ->Hp->Prop}(h:opW B P o K env H):opW B P o (λenv' H'=>K env' H'/\∀ j,o.dst≠some j->env' j=env j) env H:=by
 have g:∀(u:AV)(H':Hp),K (bD env o.dst u) H'->K (bD env o.dst u) H'/\∀ j,o.dst≠some j->bD env o.dst u j=env j:=λu H' hk=>⟨hk,λj hj=>aLe hj⟩;unfold opW at *;split at h
 .revert h
  generalize o.op=op;intro h;cases op
  case store n p x l=>exact dB (λH' hK=>g _ _ hK) h
  case copy s x y=>exact dB (λr hK=>g _ _ hK) h
  case mapup q m k x=>exact dB (λH' hK=>g _ _ hK) h
  case nxts x=>exact dB (λr hK=>g _ _ hK) h
  case callf q f xs l =>
   cases q with
   | true=>obtain⟨v,h1,h2⟩:=h;exact⟨v,h1,g _ _ h2⟩
   | false=>exact CallV.mono h λv H' hq=>g _ _ hq
  all_goals
   rw[uX rfl]at h ⊢;refine dB (λe he=>?_) h;unfold gY at *;split;·exact g _ _ he
   .exact λb hb=>g _ _ (he b hb)
 all_goals grind
theorem aQR{z:DOper}(hz:aGe z=true)(hd:∀ d,z.dst=some d->env d = .any):opW B P z (λenv' H'=>Shift env' H' env H) env H:=by
 simp only[aGe,B4,beq_iff_eq,Option.isNone_iff_eq_none]at hz;obtain⟨x,f,hx⟩:=aCt hz.1;have hg:gd z env=some true:=by unfold gd;rw[hz.2]
 unfold opW;rw[hg];simp only;rw[uX (nC (.inr hz.1)),hx,optW_some];intro b hb;simp only[reduceCtorEq,AAh]at hb;have h1:Shift (bD env z.dst (f b)) (hset H b x) env (hset H b x):=λF w a st re=>⟨F,Ext.refl _ _ _,st,λk=>by
  have:=re.rv k;by_cases hk:z.dst=some k;·rw[hd k hk];exact .any _
  grind [aLe],re.gi⟩
 refine h1.trans (Shift.forget λc y hc=>?_)
 grind [aL]
theorem aOj{ops:Array Oper}{listed:Array Bool}(hc:∀ i,listed.getD i false=true->∀ m∈(ops.toList.map cT).getD i [],listed.getD m false=true){x z:DOper}
 (hp:aCz (lJ (ops.toList.map cT)) x z) (hs:qV x z=false) (hz:∀ m∈(ops.toList.map cT).getD z.ix [],listed.getD m false=true):listed.getD x.ix false=true:=by
 rcases hp with hp|hp;·exact rP _ (λi=>listed.getD i false=true) hc z.ix x.ix hz hp
 grind
theorem aBu{ops:Array Oper}{listed:Array Bool}{y:DOper}{post:List DOper}(hc:∀ i,listed.getD i false=true->∀ m∈(ops.toList.map cT).getD i [],listed.getD m false=true)
 (hy:∀ m∈(ops.toList.map cT).getD y.ix [],listed.getD m false=true) :
 ∀(pre:List DOper),(pre++y::post).Pairwise (aCz (lJ (ops.toList.map cT)))->aEK y pre=true->∀ x∈pre,listed.getD x.ix false=true
 | [],_,_,x,hx=>by simp at hx
 | x0::r,hp,hch,x,hx=>by
   simp only[aEK,B4]at hch;rw[M5]at hp;obtain⟨hp1,hp2⟩:=aD7.1 hp;have ih:=aBu hc hy r hp2 hch.1;rcases C4.1 hx with rfl|hx
   .obtain⟨z,hz,hsw⟩:=List.any_eq_true.1 hch.2
    simp only[J7]at hsw;rcases C8.1 hz with hz|hz;·exact aOj hc (hp1 z (by simp[hz])) hsw (hc z.ix (ih z hz))
    .simp only[D2]at hz
     subst hz;exact aOj hc (hp1 z (by simp)) hsw hy
   grind
theorem uZ{ops:Array Oper}{listed:Array Bool}{y:DOper}(hc:∀ i,listed.getD i false=true->∀ m∈(ops.toList.map cT).getD i [],listed.getD m false=true) :
 ∀(post prev:List DOper),(∀ x∈prev,∀ z∈post,aCz (lJ (ops.toList.map cT)) x z)->post.Pairwise (aCz (lJ (ops.toList.map cT)))->aBY prev post=true ->
   (∀ x∈prev,listed.getD x.ix false=true->listed.getD y.ix false=true)->∀ z∈post,aGe z=false->(∀ m∈(ops.toList.map cT).getD z.ix [],listed.getD m false=true)->listed.getD y.ix false=true
 | [],_,_,_,_,_,z,hz,_,_=>by simp at hz
 | z0::r,prev,hpr,hpw,hch,hyes,z,hz,hf,hm=>by
   obtain⟨hp1,hp2⟩:=aD7.1 hpw;simp only[aBY]at hch;split at hch
   .rename_i hf0
    rcases C4.1 hz with rfl|hz;·rw[hf0]at hf;cases hf
    .exact uZ hc r prev (λx hx u hu=>hpr x hx u (by simp[hu])) hp2 hch hyes z hz hf hm
   .simp only[B4]at hch
    have one:(∀ m∈(ops.toList.map cT).getD z0.ix [],listed.getD m false=true)->listed.getD y.ix false=true:=λhm=>by
     obtain⟨x,hx,hsw⟩:=List.any_eq_true.1 hch.1;simp only[J7]at hsw;exact hyes x hx (aOj hc (hpr x hx z0 (by simp)) hsw hm)
    rcases C4.1 hz with rfl|hz;·exact one hm
    .refine uZ hc r (z0::prev) (λx hx u hu=>?_) hp2 hch.2 (λx hx hl=>?_) z hz hf hm
     .rcases C4.1 hx with rfl|hx
      .exact hp1 u hu
      .exact hpr x hx u (by simp[hu])
     .rcases C4.1 hx with rfl|hx
      .exact one (hc _ hl)
      .exact hyes x hx hl
theorem Drawn.drop{N:Nat}{ops:Array Oper}{p1 p2:List DOper}{z:DOper}{listed:Array Bool}(hd:Drawn P N ops (p1++z::p2) listed)(hlt:z.ix<ops.size)(h2:∀ m∈(ops.toList.map cT).getD z.ix [],listed.getD m false=true) :
 (∀ x∈p1++p2,x.ix≠z.ix)/\Drawn P N ops (p1++p2) (listed.setIfInBounds z.ix true):=by
 have hsub:(p1++p2).Sublist (p1++z::p2):=O2 (O7 _ _) _;have hnd:∀ x∈p1++p2,x.ix≠z.ix:=by
  intro x hx e;have hn:=hd.nodup
  grind
 refine⟨hnd,λx hx=>hd.reads x (hsub.mem hx),λx hx=>?_,λj hj=>?_,hd.nodup.sublist (hsub.map _),hd.pairs.sublist hsub,λj hj m hm=>?_,by simp[hd.size]⟩;·rw[getD_set_ne true (Ne.symm (hnd x hx))];exact hd.open_ x (hsub.mem hx)
 .by_cases hjy:j=z.ix
  .simp_all
  .rw[getD_set_ne true (Ne.symm hjy)]at hj
   obtain⟨x,hx,hxj⟩:=hd.all j hj
   grind
 .by_cases hjy:j=z.ix
  .grind [getD_set_true]
  .rw[getD_set_ne false (Ne.symm hjy)]at hj
   exact getD_set_true (hd.closed j hj m hm)
theorem aIE{ops:Array Oper}{r:Option Nat}{N:Nat}{Q:QP}{Qc:Exit->Act->World->Prop}(ha:yY (ops.toList.map cT)=true){y:DOper}{post0 pre0:List DOper}
 (hp0:(pre0++y::post0).Pairwise (aCz (lJ (ops.toList.map cT)))) (hB0:aEK y pre0=true) (hA0:aBY [y] post0=true) (hF0:∀ x∈pre0,∀ d,x.dst=some d->d∉vQ post0) :
 ∀(fuel:Nat)(pre post:List DOper)(listed:Array Bool)(F:Nat->Prop)(w:World)(H:Hp)(env:aJ)(a:Act)(L:Log),(pre++y::post).length<=fuel->pre.Sublist pre0->post.Sublist post0->Drawn P N ops (pre++y::post) listed->(∀ o∈pre,L o.ix=none) ->
   (∀ d∈vQ post0,env d = .any)->a.tmps.size=N->B.Up F w->St F w H->RE F w env a->RD B P pre (λenv H=>opP B P y Q env H) env H L ->
   (∀ a' env' F' w' H' c v,a'.defers=a.defers->Ext F w H F' w' H'->St F' w' H'->RE F' w' env' a'->Rv F' w' v c->Q v env' H'->Qc (.panic (pnc c)) a' w')->wpAnyIn (FW r) 0 P .any ops Qc fuel listed a w:=by
 intro fuel;induction fuel with
 | zero=>grind
 | succ fuel ih =>
   intro pre post listed F w H env a L hl hsub0 hsub1 hd hL hE hsz hB st re h hQ;refine⟨λhr=>absurd hr (hd.ready_ne ha (by simp)),λi hi=>?_⟩;obtain⟨h1,hlt,h2⟩:=uF.1 hi;obtain⟨z,hz,rfl⟩:=hd.all i h1;have shut:∀ x∈pre++y::post,listed.getD x.ix false=true->False:=λx hx hl=>by
    have hx':=hd.open_ x hx
    grind
   by_cases hzp:z∈pre
   .obtain⟨p1,p2,rfl⟩:=aD4 hzp
    have hd':Drawn P N ops (p1++z::(p2++y::post)) listed:=by grind
    have hsw:∀ x∈p1,qV x z=true:=λx hx=>by
     have hp:=(aC0.1 hd'.pairs).2.2 x hx z (by simp);rcases hp with hp|hp
     .exfalso
      exact shut x (by simp[hx]) (rP _ (λi=>listed.getD i false=true) hd.closed z.ix x.ix h2 hp)
     .exact hp
    have hndp:((p1++z::p2).map (·.ix)).Nodup:=by
     have:=hd.nodup
     grind
    have hp:=aZt p1 env H L st.fin hsw hndp hL h;refine aDo (hd.reads z hz).1 (hd.reads z hz).2.2 (hd.reads z hz).2.1 hsz hB st re (aMW (aLz hp)) ?_;rintro a' F' w' env' H' k1 k2 k3 k4 k5 ⟨⟨L',k6,k7⟩,k8⟩;have hsub:(p1++p2).Sublist (p1++z::p2):=O2 (O7 _ _) _;obtain⟨hnd,hdn⟩:=hd'.drop hlt h2
    refine ih (p1++p2) post _ F' w' H' env' a' L' (by simp at hl ⊢;omega) (hsub.trans hsub0) hsub1 (by grind)
     (λx hx=>by grind)
     (λd hdd=>by grind) k1 (hB.step st k3) k4 k5 k7 (λa2 env2 F2 w2 H2 c v m0 m1 m2 m3 m4 m5=>hQ a2 env2 F2 w2 H2 c v (m0.trans k2) (k3.trans m1) m2 m3 m4 m5)
   .rcases C8.1 hz with hz'|hz'
    .grind
    .rcases C4.1 hz' with rfl|hz'
     .have hall:=aBu hd.closed h2 pre0 hp0 hB0
      have hnil:pre=[]:=by
       cases pre with
       | nil=>rfl
       | cons x pr=>exact(shut x (by simp) (hall x (hsub0.mem (by simp)))).elim
      subst hnil;exact aPa (hd.reads z hz).1 hB st re h λF' w' H' c v k1 k2 k3 k4 k5=>hQ a env F' w' H' c v rfl k1 k2 k3 k4 k5
     .cases hfz:aGe z with
      | true =>
        obtain⟨p1,p2,rfl⟩:=aD4 hz';have hd':Drawn P N ops ((pre++y::p1)++z::p2) listed:=by grind
        have hzd:∀ d,z.dst=some d->env d = .any:=λd hdz=>hE d (by
         unfold vQ
         grind)
        refine aDo (hd.reads z hz).1 (hd.reads z hz).2.2 (hd.reads z hz).2.1 hsz hB st re (aQR hfz hzd) ?_;intro a' F' w' env' H' k1 k2 k3 k4 k5 k6;obtain⟨F2,m1,m2,m3⟩:=k6 F' w' a' k4 k5;obtain⟨hnd,hdn⟩:=hd'.drop hlt h2;have hsub:(p1++p2).Sublist (p1++z::p2):=O2 (O7 _ _) _;have he:=k3.trans m1;exact ih pre (p1++p2) _ F2 w' H env a' L (by grind) hsub0 (hsub.trans hsub1) (by grind) hL hE k1 (hB.step st he) m2 m3 h (λa2 env2 F3 w2 H2 c v n0 n1 n2 n3 n4 n5=>hQ a2 env2 F3 w2 H2 c v (n0.trans k2) (he.trans n1) n2 n3 n4 n5)
      | false =>
        exfalso;obtain⟨_,hp2,_⟩:=aC0.1 hp0;obtain⟨hp3,hp4⟩:=aD7.1 hp2;refine shut y (by simp) (uZ hd.closed post0 [y] (λx hx u hu=>?_) hp4 hA0 (λx hx hlx=>?_) z (hsub1.mem hz') hfz h2);all_goals grind
variable{r:Option Nat}{N:Nat}{Q:QP}
theorem WPD.regD{pre post:List DOper}{y:DOper}(hm:P.follows .mixedOrders=true)(hch:aLy pre y post=true)(h:RD B P pre (λenv H=>opP B P y Q env H) (aCI (vQ post) env) H noL):WPD B P r N (.reg true (pre++y::post)) Q env H:=by
 intro c hc;cases c<;>simp only[eS]at hc
 case region id ops d =>
  split at hc
  .rename_i l' hl
   simp only[oSI,DCode.reg.injEq]at hc;obtain⟨rfl,rfl⟩:=hc;simp only[aLy,B4]at hch;have hF:∀ x∈pre,∀ d,x.dst=some d->d∉vQ post:=λx hx d hd hmem=>by
    grind
   obtain⟨c1,c2,c3,c4,c5,c6⟩:=aCv hl;intro F w act n0 T h1 h2 h3 h4 h5 h6;refine wpIn_region_any hm ?_;have hlist:∀ i,(Array.replicate ops.size false).getD i true=false↔i<ops.size:=λi=>by
    by_cases h:i<ops.size<;>simp[h]
   refine aIE c2 (mH c3) hch.1 hch.2.1 hF ops.size pre post _ F w.drew H (aCI (vQ post) env) act noL AS (List.Sublist.refl _) (List.Sublist.refl _) ⟨c1,λy hy=>?_,λi hi=>?_,aBf c5,mH c3,λi hi=>?_,by simp⟩ (λ_ _=>rfl) (λd hd=>by simp[aCI,hd]) h3
    (h1.step h4 (jE F w H)) (aAE h4) ⟨λk=>by
     have:=(h5.up ((jE F w H).up h4)).rv k;simp only[aCI];split;·exact .any _
     omega,(h5.up ((jE F w H).up h4)).gi⟩ h ?_
   .obtain⟨o,ho,_⟩:=(c1 y hy).1.get
    grind
   .grind
   .grind
   .intro a' env' F' w' H' c v k0 k1 k2 k3 k4 k5
    exact⟨c,v,env',F',H',rfl,(jE F w H).trans k1,k2,k3,k4,by rw[k0];exact h6.ext ((jE F w H).trans k1),k5⟩
  .simp at hc
 all_goals grind
theorem WPD.shift{env':aJ}{H':Hp}{c:DCode}(hs:Shift env H env' H')(h:WPD B P r N c Q env' H'):WPD B P r N c Q env H:=by
 intro c hc F w act n0 T h1 h2 h3 h4 h5 h6;obtain⟨F',k1,k2,k3⟩:=hs F w act h4 h5;refine wpIn_mono (h c hc F' w act n0 T (h1.step h4 k1) h2 h3 k2 k3 (h6.ext k1)) ?_
 grind [LandP.step]
theorem LandP.mono{n0:Nat}{T:List Deferred}{Q':QP}(hq:∀ v e H',Q v e H'->Q' v e H'){e:Exit}{a':Act}{w':World}(h:LandP n0 T F w H Q e a' w'):LandP n0 T F w H Q' e a' w':=by
 obtain⟨c,v,env',F',H',h1,h2,h3,h4,h5,h6,h7⟩:=h;exact⟨c,v,env',F',H',h1,h2,h3,h4,h5,h6,hq _ _ _ h7⟩
theorem WPD.mono{c:DCode}{Q':QP}(hq:∀ v e H',Q v e H'->Q' v e H')(h:WPD B P r N c Q env H):WPD B P r N c Q' env H :=
 λc hc F w act n0 T h1 h2 h3 h4 h5 h6=>wpIn_mono (h c hc F w act n0 T h1 h2 h3 h4 h5 h6) λ_ _ _=>LandP.mono hq
def aBe:AO->Bool
 | .meth _ _=>false
 | _=>true
structure aSb where
 N:Nat
 res:List (Nat×Option (Bool×Nat))
 pre:List DOper
 cell:Nat
 fn:Nat
 body:XCode
 ty:TypeId
 zero:AV
 hops:List DOper
 is:Nat
 hlast:List DOper
def aCq(cell v:AV)(t:Bool):aJ:=λj=>if j=0 then cell else if j=5 then .tup [v,.bool t] else .any
def zR(i:aSb)(run:fC)(runY:gR)(cell v:AV)(t:Bool)(h:XH):Option XH:=match fP run runY i.hops (aCq cell v t) h with
 | some (e1,h1)=>match e1 i.is with
   | .bool true=>(fP run runY i.hlast e1 h1).map (·.2)
   | .bool false=>some h1
   | _=>none
 | none=>none
section
variable{P:Program}{B:Base}{D:Nat->Option XFn}{Y:Nat->Option YI}{r:Nat->Option Nat}{e env:aJ}{h:XH}{H:Hp}
theorem aFQ{F:Nat->Prop}{w:World}{Q:AV->Hp->Prop}{e:Ending}{w':World}:aMq F w H Q e w'↔∃ c,e = .panicked (pnc c)/\yD F w H Q (.returned c) w':=by
 simp[aMq,yD]
theorem FnP.mono{f:FuncId}{as:List AV}{Q Q':AV->Hp->Prop}(hq:∀ v H',Q v H'->Q' v H')(hp:FnP B P f as H Q):FnP B P f as H Q' :=
 ⟨hp.1,λF w vs h1 h2 h3=>(hp.2 F w vs h1 h2 h3).mono λe w' ⟨c,v,F',H',k1,k2,k3,k4,k5⟩=>⟨c,v,F',H',k1,k2,k3,k4,hq _ _ k5⟩⟩
theorem FnP.frameS{f:FuncId}{as:List AV}{Q:AV->Hp->Prop}(S:Nat->Prop)[DecidablePred S](hp:FnP B P f as (λc=>if S c then H c else none) Q) :
 FnP B P f as H λv H''=>∃ H',Q v H'/\(∀ c,S c\/H c=none->H'' c=H' c)/\(∀ c,¬S c->∀ x,H c=some x->H'' c=some x/\H' c=none):=by
 refine⟨hp.1,λF w vs h1 h2 h3=>(hp.2 F w vs h1 ?_ h3).mono λe w' hw0=>?_⟩
 .exact h2.forget λc x hc=>by
   grind
 .obtain⟨c,rfl,hw1⟩:=aFQ.1 hw0
  exact aFQ.2 ⟨c,rfl,aCm S h2 _ _ hw1⟩
def bBD(D:Nat->Option XFn)(Y:Nat->Option YI)(r:Nat->Option Nat)(v:AV)(e:aJ)(h:XH)(Q:QP):Prop:=∀ r' v' env' H',Sub r r'->SR D Y r' e h env' H'->Rn D Y r' v v'->Q v' env' H'
def bBE(D:Nat->Option XFn)(Y:Nat->Option YI)(k:Nat)(r:Nat->Option Nat)(v:AV)(e:aJ)(h:XH)(Q:QP):Prop:=∀ r' v' env' H',Agree k r r'->SR D Y r' e h env' H'->Rn D Y r' v v'->Q v' env' H'
theorem FnP.nz{f:FuncId}{as:List AV}{Q:AV->Hp->Prop}(h:FnP B P f (kI as) H Q):FnP B P f as H Q:=⟨h.1,λF w vs h1 h2 h3=>h.2 F w vs h1 h2 h3.nz⟩
end
variable{P:Program}{B:Base}{F:Nat->Prop}{w:World}{H:Hp}{env:aJ}{a:Act}
theorem aEW{Fe:Fence}{n:Nat}{id:Nat}{ops:Array Oper}{Q:Exit->Act->List Frame->World->Prop}{cs:List Frame}{o:Oper}(ho:ops[0]?=some o)
 (hg:o.guard=none) (hab:∀ f,o.about P w a.eval=some f->Fe.fn f) (hr:(execOp a.eval o).run P w = .ok .recover w) (hro:Fe.round=none)
 (h:match recoverD cs with
  | some (v,cs')=>wpOpsIn Fe n P ops (λe a w=>Q e a cs' w) (List.range' 1 (ops.size-1)) (a.put o.dst v) w
  | none=>wpOpsIn Fe n P ops (λe a w=>Q e a cs w) (List.range' 1 (ops.size-1)) (a.put o.dst .nilIface) w) :
 (Code.region id ops false).wpSIn Fe n P Q a cs w:=by
 intro b k hb hrd hF hroom;have hsz:0<ops.size:=(F9.1 ho).1;have hrange:List.range ops.size=0::List.range' 1 (ops.size-1):=by
  rw[aA3];obtain⟨m,hm⟩:∃ m,ops.size=m+1:=⟨ops.size-1,by omega⟩;rw[hm,aA9];simp
 have i0:(lone (b.atR a (.code (.region id ops false)::k)) cs w).fenced P Fe:=fenced_calm hF hroom rfl;have s0:=stepR_region (P:=P) (b:=b) (a:=a) (k:=k) (cs:=cs) (w:=w) (id:=id) (ops:=ops);rw[hrange]at s0;have hw:Region.wanted o (yielded ops a.tmps)=true:=by unfold Region.wanted;rw[hg]
 have h0:(lone (b.atR a (.inRegion ops (0::List.range' 1 (ops.size-1))::k)) cs w).fenced P Fe:=fenced_oper hF hroom ho hab;have hgg:=stepGR_op (P:=P) (b:=b) (k:=k) (cs:=cs) (w:=w) (rest:=List.range' 1 (ops.size-1)) ho hw;rw[hrd,Oper.semAt_none]at hgg;have hfin:∀ v,(b.atR a (.inRegion ops (0::List.range' 1 (ops.size-1))::k)).finish v=b.atR (a.put o.dst v) (.inRegion ops (List.range' 1 (ops.size-1))::k):=by
  intro v;rw[Frame.finish_atR,ho];rfl
 have hk:(b.atR a (.inRegion ops (0::List.range' 1 (ops.size-1))::k)).kind = .deferred:=hb;have htr:=tryRecover_deferred hk cs;split at h
 .rename_i v cs' hrec
  have hlen:=recoverD_length hrec;obtain⟨e,a',w'',hq,harr⟩:=wp_opsIn _ _ _ h b k cs' (hrd.trans hro.symm) hF (by rw[hlen];exact hroom);refine⟨e,a',cs',w'',hlen,hq,.of_steps (.one i0 s0) (.of_steps (.one h0 (step_lone_go ?_)) harr)⟩;rw[hgg,<-hfin];simp only[Frame.atR,hrd]at htr ⊢;simp[stepG.apply,hr,htr,hrec]
 .rename_i hrec
  obtain⟨e,a',w'',hq,harr⟩:=wp_opsIn _ _ _ h b k cs (hrd.trans hro.symm) hF hroom;refine⟨e,a',cs,w'',rfl,hq,.of_steps (.one i0 s0) (.of_steps (.one h0 (step_lone_go ?_)) harr)⟩;rw[hgg,<-hfin];simp only[Frame.atR,hrd]at htr ⊢;simp[stepG.apply,hr,htr,hrec]
theorem aFo{fn:Func}{tmps:Array Value}{n0:Nat}{F0:Nat->Prop}{w0:World}{H0:Hp}{R:Ending->World->Prop}{T:List Deferred}{u:FrameMode}{S:World->Prop}(hS:∀ w w',Up F w F w'->S w->S w')(hu:u ≠ .run)(hn0:w0.heap.size<=n0)
 (hT:∀ w,S w->Ext F0 w0 H0 F w H->St F w H->RE F w env { tmps:=tmps,defers:=[] }->LeavesInM Fence.wide 0 P fn tmps R T u w) :
 ∀(ms:List Deferred)(w:World),S w->Ext F0 w0 H0 F w H->St F w H->RE F w env { tmps:=tmps,defers:=[] }->ms.Nodup->(∀ d∈ms,Mk1 n0 F H w d)->LeavesInM Fence.wide 0 P fn tmps R (ms++T) u w:=by
 intro ms;induction ms with
 | nil=>intro w hs he st re _ _;exact hT w hs he st re
 | cons d ds ih =>
   intro w hs he st re hnd hm;obtain⟨D,rfl,h2,h3,h4,h5⟩:=hm d (by simp);obtain⟨k1,k2,k3⟩:=aAf (n0:=0) (x:=none) he st (H9 hn0 h2) h3 h4 h5;have hnd:=J9.1 hnd;refine⟨hu,.inl ⟨D,_,rfl,run_takeDeferred h3,ih _ (hS _ _ k3 hs) k1 k2 (re.up k3) hnd.2 λd' hd'=>?_⟩⟩;obtain⟨D',rfl,l2,l3,l4,l5⟩:=hm d' (by simp[hd']);refine⟨D',rfl,l2,?_,l4,l5⟩;rw[World.putObj_heap_other λe=>hnd.1 (by rw[<-e];exact hd')];exact l3
section
variable{P:Program}{D:Nat->Option XFn}{d:XFn}{K k:Nat}{e:aJ}{h:XH}
def PanX(P:Program)(D:Nat->Option XFn)(d:XFn)(k:Nat)(c:XCode)(e:aJ)(h:XH)(v:AV)(e':aJ)(h':XH):Prop :=
 tQ c=true->iG d c->∀(B:Base)(Y:Nat->Option YI)(r:Nat->Option Nat)(env:aJ)(H:Hp)(Q:QP),YOk P B D Y->SR D Y r e h env H->bBE D Y k r v e' h' Q->WPD B P none d.N c.erase Q env H
def CalP(P:Program)(D:Nat->Option XFn)(g:Nat)(all:List AV)(h:XH)(v:AV)(h':XH):Prop :=
 ∀(B:Base)(Y:Nat->Option YI)(r:Nat->Option Nat)(H:Hp)(all':List AV),YOk P B D Y->SH D Y r h H->RnL D Y r all all'->FnP B P g all' H (fO D Y r v h')
def uW(L:List Nat)(r:Option (DX×aJ×XH)):Option (DX×List AV×XH):=r.map λq=>(q.1,L.map q.2.1,q.2.2)
theorem SR.cut{Y:Nat->Option YI}{r:Nat->Option Nat}{env:aJ}{H:Hp}(sr:SR D Y r e h env H)(L:List Nat):SR D Y r (aY L (L.map e)) h env H:=⟨sr.sh,λj=>by
 rcases aED e L j with h1|h1;·rw[h1];exact sr.re j
 .rw[h1];exact .any _⟩
theorem xO(ok:XOk P D)(hD:D K=some d){code:XCode}{x:DX}{e':aJ}{h':XH}(hx:execW D K k none code e h=some (x,e',h')){B:Base}{Y:Nat->Option YI}{r:Nat->Option Nat}{env:aJ}{H:Hp}{Q:QC}
 (hY:YOk P B D Y) (hok:tQ code=true) (hs:iG d code) (sr:SR D Y r e h env H) (hK:∀ r' env' H',Agree k r r'->SR D Y r' e' h' env' H'->Q x env' H'):WD B P none d.N code.erase Q env H:=by
 obtain⟨n,hn⟩:=bC.1 hx;exact pU hD ok.mixed (λB Y hY=>oP ok n B Y hY) k n none none code B Y r e h env H x e' h' Q hY hok hs rfl sr hn hK
theorem PanX.seqR(ok:XOk P D)(hD:D K=some d){a b:XCode}(L:List Nat){vs:List AV}{h1 h':XH}{v:AV}{e':aJ}(hx:uW L (execW D K k none a e h)=some (.normal,vs,h1))(hb:PanX P D d k b (aY L vs) h1 v e' h'):PanX P D d k (.seq a b) e h v e' h':=by
 intro hok hs B Y r env H Q hY sr hK;simp only[tQ,B4]at hok;unfold uW at hx;rw[B2]at hx;obtain⟨⟨x,e1,h2⟩,hx,he⟩:=hx;simp only[B9]at he;obtain⟨rfl,rfl,rfl⟩:=he;exact WPD.seq2 (xO ok hD hx hY hok.1 hs.1 sr λr' env' H' ha sr'=>⟨rfl,hb hok.2 hs.2 B Y r' env' H' Q hY (sr'.cut L) λr2 v2 env2 H2 ha2 sr2 hv2=>hK r2 v2 env2 H2 (ha.trans ha2) sr2 hv2⟩)
theorem PanX.seqL{a b:XCode}{v:AV}{e':aJ}{h':XH}(ha:PanX P D d k a e h v e' h'):PanX P D d k (.seq a b) e h v e' h':=by
 intro hok hs B Y r env H Q hY sr hK;simp only[tQ,B4]at hok;exact WPD.seq1 (ha hok.1 hs.1 B Y r env H Q hY sr hK)
theorem PanX.condT{c:AO}{a b:XCode}{v:AV}{e':aJ}{h':XH}(hc:aK e c = .bool true)(ha:PanX P D d k a e h v e' h'):PanX P D d k (.cond c a b) e h v e' h':=by
 intro hok hs B Y r env H Q hY sr hK;simp only[tQ,B4]at hok;have h1:=aP sr.re (x:=c) hok.1;rw[hc]at h1;exact WPD.cond (t:=true) (gN h1) (ha hok.2.1 hs.1 B Y r env H Q hY sr hK)
theorem PanX.condF{c:AO}{a b:XCode}{v:AV}{e':aJ}{h':XH}(hc:aK e c = .bool false)(hb:PanX P D d k b e h v e' h'):PanX P D d k (.cond c a b) e h v e' h':=by
 intro hok hs B Y r env H Q hY sr hK;simp only[tQ,B4]at hok;have h1:=aP sr.re (x:=c) hok.1;rw[hc]at h1;exact WPD.cond (t:=false) (gN h1) (hb hok.2.2 hs.2 B Y r env H Q hY sr hK)
theorem PanX.block{id:Nat}{a:XCode}{v:AV}{e':aJ}{h':XH}(ha:PanX P D d k a e h v e' h'):PanX P D d k (.block id a) e h v e' h' :=
 λhok hs B Y r env H Q hY sr hK=>WPD.block (ha (by simpa [tQ]using hok) hs B Y r env H Q hY sr hK)
theorem PanX.loop(ok:XOk P D)(hD:D K=some d){L:List Nat}{a:XCode}{v:AV}{e':aJ}{h':XH}(n:Nat)(S:Nat->List AV)(G:Nat->XH)(h0:bT k L (some (.normal,e,h))=some (S 0,G 0))
 (hs:∀ i,i<n->bT k L (execW D K k none a (aY L (S i)) (G i))=some (S (i+1),G (i+1))) (hp:PanX P D d k a (aY L (S n)) (G n) v e' h'):PanX P D d k (.loop L a) e h v e' h':=by
 intro hok hst B Y r env H Q hY sr hK;have key:∀(m i:Nat)(e:aJ)(h:XH)(r1:Nat->Option Nat)(env1:aJ)(H1:Hp),m+i=n->bT k L (some (.normal,e,h))=some (S i,G i)->Agree k r r1->SR D Y r1 e h env1 H1->aMr B P none d.N a.erase Q m env1 H1:=by
  intro m;induction m with
  | zero =>
    intro i e h r1 env1 H1 hi h0 ha sr1;have:i=n:=AS
    subst this;simp only[bT,oSI,B9]at h0;obtain⟨r2,ha2,sr2⟩:=xZ sr1 k L;have e1:rQ k L e h=aY L (S i):=by rw[<-h0.1];rfl
    rw[e1,h0.2]at sr2;exact hp (by simpa [tQ]using hok) hst B Y r2 env1 H1 Q hY sr2 λr3 v3 env3 H3 ha3 sr3 hv3=>hK r3 v3 env3 H3 ((ha.trans ha2).trans ha3) sr3 hv3
  | succ m ih =>
    intro i e h r1 env1 H1 hi h0 ha sr1;simp only[bT,oSI,B9]at h0;obtain⟨r2,ha2,sr2⟩:=xZ sr1 k L;have e1:rQ k L e h=aY L (S i):=by rw[<-h0.1];rfl
    rw[e1,h0.2]at sr2;have hx:=hs i AS;cases hq:execW D K k none a (aY L (S i)) (G i)with
    | none=>rw[hq]at hx;simp[bT]at hx
    | some q =>
      obtain⟨x,e3,h3⟩:=q;rw[hq]at hx;cases x with
      | normal=>exact xO ok hD hq hY (by simpa [tQ]using hok) hst sr2 λr3 env3 H3 ha3 sr3=>⟨rfl,ih (i+1) e3 h3 r3 env3 H3 AS hx ((ha.trans ha2).trans ha3) sr3⟩
      | exit id=>simp[bT]at hx
      | ret=>simp[bT]at hx
 exact WPD.loop (key n 0 e h r env H AS h0 (Agree.refl _ _) sr)
theorem aWK{B:Base}{Y:Nat->Option YI}{run:fC}{runY:gR}(hf:FnS P B D Y run)(hy:YS P B D Y runY):∀(p rest:List DOper)(r:Nat->Option Nat)(e:aJ)(h:XH)(env:aJ)(H:Hp)(e1:aJ)(h1:XH)(Q:QP),aBc p=true->SR D Y r e h env H ->
 fP run runY p e h=some (e1,h1)->(∀ r' env' H',Sub r r'->SR D Y r' e1 h1 env' H'->RSP B P rest Q env' H')->RSP B P (p++rest) Q env H:=by
 intro p;induction p with
 | nil =>
   intro rest r e h env H e1 h1 Q _ sr hx hK;simp only[fP,oSI,B9]at hx
   grind [Sub.refl]
 | cons o p ih =>
   intro rest r e h env H e1 h1 Q hok sr hx hK;simp only[aBc,O3,B4]at hok;simp only[fP]at hx;refine .inr ?_;split at hx
   .rename_i hg
    simp only[E9]at hx;obtain⟨s,hx1,hx2⟩:=hx;simp only[opW,aGd sr hg];exact jX hf hy sr hok.1 (e':=s.1) (h':=s.2) hx1 λr' env' H' hs sr'=>ih rest r' s.1 s.2 env' H' e1 h1 Q hok.2 sr' hx2 λr2 env2 H2 hs2 sr2=>hK r2 env2 H2 (hs.trans hs2) sr2
   .rename_i hg
    simp only[opW,aGd sr hg];exact ih rest r _ h _ H e1 h1 Q hok.2 (sr.put (Sub.refl r) sr.sh (.tup [] [] rfl (by simp)) o.dst) hx hK
   .simp at hx
def atX(f:AO)(xs:List AO)(L:List Nat)(r:Option (aJ×XH)):Option (AV×List AV×List AV×XH):=r.map λs=>(aK s.1 f,xs.map (aK s.1),L.map s.1,s.2)
theorem aQc{B:Base}{Y:Nat->Option YI}{r:Nat->Option Nat}{env:aJ}{H:Hp}(sr:SR D Y r e h env H)(hY:YOk P B D Y){ix:Nat}{dst:Option Nat}{f:AO}{xs:List AO}{l:List Nat}(hok:jD (.callf false f xs l)=true)(hm:aBe f=true)
 {g:Nat} {first cap:List AV} (hf:aK e f = .fn (.func g) first cap) {v:AV} {h':XH} (hp:CalP P D g (first++xs.map (aK e)++cap) h v h') {Q:QP} (L:List Nat) (hK:bBD D Y r v (aY L (L.map e)) h' Q):opP B P ⟨ix,dst,.callf false f xs l,none⟩ Q env H:=by
 refine⟨rfl,λtab k hh=>by subst hh;simp[aBe]at hm,?_⟩;simp only[jD,B4]at hok;have h1:=aP sr.re (x:=f) hok.1;rw[hf]at h1;cases hv:aK env f<;>rw[hv]at h1<;>cases h1
 rename_i first' cap' hf0 hl1 k1 hl2 k2;show FnP B P g (first'++xs.map (aK env)++cap') H _;refine FnP.mono ?_ (hp B Y r H _ hY sr.sh (RnL.append (RnL.append ⟨hl1,k1⟩ (yH sr.re hok.2)) ⟨hl2,k2⟩));rintro v' H' ⟨r',q1,q2,q3⟩;exact hK r' v' env H' q1 ⟨q2,λj=>((sr.cut L).re j).mono q1⟩ q3
theorem PanX.reg(ok:XOk P D){fz:List (Nat×Bool)}{p post:List DOper}{ix:Nat}{dst:Option Nat}{f:AO}{xs:List AO}{l:List Nat}(L:List Nat){g:Nat}{first cap args vs:List AV}{h1 h':XH}{v:AV}(hm:aBe f=true)
 (hcm:(p++⟨ix,dst,.callf false f xs l,none⟩::post).any (λo=>o.op.isComm)=false) (hx:atX f xs L (xo none (runW D) (runYW D) p (fzX fz e h).1 (fzX fz e h).2)=some (.fn (.func g) first cap,args,vs,h1))
 (hp:CalP P D g (first++args++cap) h1 v h'):PanX P D d k (.reg fz false (p++⟨ix,dst,.callf false f xs l,none⟩::post)) e h v (aY L vs) h':=by
 intro hok hs B Y r env H Q hY sr hK;simp only[tQ]at hok;obtain⟨env1,H1,k1,k2⟩:=aBU sr fz;refine WPD.shift k1 (WPD.reg (λo ho=>?_) ?_);·rfl
 .unfold atX at hx
  rw[B2]at hx;obtain⟨⟨e2,h2⟩,hx,he⟩:=hx;simp only[B9]at he;obtain⟨q1,rfl,rfl,rfl⟩:=he;have hx:fP (runW D) (runYW D) p (fzX fz e h).1 (fzX fz e h).2=some (e2,h2):=hx;obtain⟨n,hn⟩:=aHW.1 hx;simp only[aBc,aC2,O3,B4]at hok;obtain⟨s1,s2⟩:=oP ok n B Y hY;refine aWK s1 s2 p _ r _ _ env1 H1 e2 h2 Q hok.1 k2 hn λr' env' H' hs sr'=>.inl (aQc sr' hY hok.2.1 hm q1 hp L λr2 v2 env2 H2 hs2 sr2 hv2=>hK r2 v2 env2 H2 ((hs.trans hs2).agree k) sr2 hv2)
theorem PanX.regD(ok:XOk P D){fz:List (Nat×Bool)}{p post:List DOper}{ix:Nat}{dst:Option Nat}{f:AO}{xs:List AO}{l:List Nat}(L:List Nat){g:Nat}{first cap args vs:List AV}{h1 h':XH}{v:AV}(hm:aBe f=true)
 (hpan:aLy p ⟨ix,dst,.callf false f xs l,none⟩ post=true) (hx:atX f xs L (xo (some []) (runW D) (runYW D) p (aCI (vQ post) (fzX fz e h).1) (fzX fz e h).2)=some (.fn (.func g) first cap,args,vs,h1))
 (hp:CalP P D g (first++args++cap) h1 v h'):PanX P D d k (.reg fz true (p++⟨ix,dst,.callf false f xs l,none⟩::post)) e h v (aY L vs) h':=by
 intro hok hs B Y r env H Q hY sr hK;simp only[tQ]at hok;obtain⟨env1,H1,k1,k2⟩:=aBU sr fz;refine WPD.shift k1 (WPD.regD ok.mixed hpan ?_);have k3:SR D Y r (aCI (vQ post) (fzX fz e h).1) (fzX fz e h).2 (aCI (vQ post) env1) H1:=⟨k2.sh,λj=>by
  simp only[aCI];split;·exact .any _
  .exact k2.re j⟩
 unfold atX at hx;rw[B2]at hx;obtain⟨⟨e2,h2⟩,hx,he⟩:=hx;simp only[B9]at he;obtain⟨q1,rfl,rfl,rfl⟩:=he;have hx:fV (runW D) (runYW D) p (aCI (vQ post) (fzX fz e h).1) (fzX fz e h).2 []=some (e2,h2):=hx;obtain⟨n,hn⟩:=aFu.1 hx;simp only[aBc,aC2,O3,B4]at hok;obtain⟨s1,s2⟩:=oP ok n B Y hY;exact aCe s1 s2 p r _ _ [] _ H1 noL e2 h2 _ hok.1 k3 ⟨by simp,λj c hj=>by simp[noL]at hj⟩ hn λr' env' H' hs sr' =>
  aQc sr' hY hok.2.1 hm q1 hp L λr2 v2 env2 H2 hs2 sr2 hv2=>hK r2 v2 env2 H2 ((hs.trans hs2).agree k) sr2 hv2
def aNE:List Nat->aJ->aJ
 | [],e=>e
 | j::l,e=>upd (aNE l e) j .any
theorem aUm{e:aJ}:aNE [] e=e:=rfl
theorem aLW{j:Nat}{l:List Nat}{e:aJ}:aNE (j::l) e=upd (aNE l e) j .any:=rfl
theorem aRK(e:aJ):∀(l:List Nat),aCI l e=aNE l e
 | []=>rfl
 | j::l=>by
   funext i;have ih:=congrFun (aRK e l) i;simp only[aCI]at ih;simp only[aCI,aLW,upd,List.contains_cons]
   grind
theorem PanX.regU(ok:XOk P D){fz:List (Nat×Bool)}{p post:List DOper}{ix:Nat}{dst:Option Nat}{f:AO}{xs:List AO}{l:List Nat}(L:List Nat)(fr:List Nat){g:Nat}{first cap args vs:List AV}{h1 h':XH}{v:AV}(hm:aBe f=true)
 (hpan:aLy p ⟨ix,dst,.callf false f xs l,none⟩ post=true) (hfr:vQ post=fr) (hx:atX f xs L (xo (some []) (runW D) (runYW D) p (aNE fr (fzX fz e h).1) (fzX fz e h).2)=some (.fn (.func g) first cap,args,vs,h1))
 (hp:CalP P D g (first++args++cap) h1 v h'):PanX P D d k (.reg fz true (p++⟨ix,dst,.callf false f xs l,none⟩::post)) e h v (aY L vs) h' :=
 PanX.regD ok L hm hpan (by grind [aRK]) hp
theorem CalP.of(ok:XOk P D)(hD:D K=some d){as:List AV}{v:AV}{e':aJ}{h':XH}(hl:as.length<=d.N)(hdf:d.dfr=none)(hp:PanX P D d h.length d.body (aX (if d.ownA then as else kI as)) h v e' h')(hpr:d.prm=none:=by rfl):CalP P D K as h v h':=by
 intro B Y r H as' hY sh hA;have main:∀(as1 as1':List AV),RnL D Y r as1 as1'->as1.length<=d.N->PanX P D d h.length d.body (aX as1) h v e' h'->FnP B P K as1' H (fO D Y r v h'):=by
  intro as1 as1' hA1 hN1 hp;refine FnP.of (ok.is K d hD hpr) (by rw[<-hA1.1];exact hN1) hdf ?_;refine hp (ok.body hD) (ok.sites K d hD) B Y r (aX as1') H _ hY ⟨sh,tN hA1⟩ ?_;intro r1 v1 env1 H1 ha1 sr1 hv1;exact⟨r1,λb c hb=>ha1 b c (sh.dom b c hb) hb,sr1.sh,hv1⟩
 cases hown:d.ownA with
 | true =>
   grind
 | false =>
   rw[hown]at hp;simp only[C6,AAd]at hp;exact FnP.nz (main _ _ hA.nz (by grind [mU]) hp)
theorem CalP.pure{g:Nat}{as:List AV}{v:AV}{h0:XH}(hp:CalP P D g as [] v h0)(ha:∀ a∈as,Gd a)(hv:Gd v)(h:XH):CalP P D g as h v h:=by
 intro B Y r H as' hY sh hA;have he:as'=as:=by
  apply I7;intro i;cases hi:as[i]? with
  | none=>simp_all [RnL]
  | some a =>
    cases hi2:as'[i]? with
    | none=>simp_all [RnL]
    | some b=>rw[((hA.2 i a b hi hi2).same (ha a (B3 hi)).gr).1]
 rw[he];have s0:SH D Y (λ_=>none) [] noH:=⟨λb c hb=>by simp at hb,λb c c' x y hx=>by grind,λb x hx=>by simp[hat]at hx,GhR.no λb st p hx=>by simp[hat]at hx⟩;have h1:=hp B Y (λ_=>none) noH as hY s0 (RnL.self λa h=>(ha a h).rn);have e0:(λc=>if (λ_:Nat=>False) c then H c else none)=noH:=by rfl
 refine FnP.mono ?_ (FnP.frameS (H:=H) (λ_=>False) (by rw[e0];exact h1));rintro v' H'' ⟨H',⟨r',k1,k2,k3⟩,e1,e2⟩;obtain⟨rfl,_⟩:=k3.same hv.gr;obtain⟨G,hG⟩:=sh.gh;refine⟨r,Sub.refl r,⟨sh.dom,sh.inj,λb x hb=>?_,_,hG.via id (λb st p hb=>⟨hb,rfl⟩) (λb x hb=>.inl ⟨x,hb,rfl,λst p e=>e⟩) (λ_ _ _ _ _ _ _ hne=>hne) λb st p n y _ _ hy=>(e2 n (λh=>h) y hy).1⟩,hv.rn⟩;obtain⟨c,y,a1,a2,a3⟩:=sh.blk b x hb
 grind
end
end
section
theorem aF:(0:Nat).succ.pred.succ=(1:Nat):=rfl
end
end Go.DL
