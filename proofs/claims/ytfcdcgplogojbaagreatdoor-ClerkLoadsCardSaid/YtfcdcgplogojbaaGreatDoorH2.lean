/- Parts of a proof, joined. No statement of the seed is proved here. -/
import Derived.RangeFuncNested
import Derived.Test.YtfcdcgplogojbaaGreatDoorH1
set_option linter.unusedSimpArgs false
set_option linter.unusedVariables false
set_option linter.unusedSectionVars false
namespace Go.DL
variable{P:Program}{B:Base}{F:Nat->Prop}{w:World}{H:Hp}{env:aJ}{a:Act}
theorem aBN{α β:Type}{f:α->Option β}:∀{l:List α}{r:List β},l.mapM f=some r->r.length=l.length/\∀(i:Nat)(y:β),r[i]?=some y->∃ x,l[i]?=some x/\f x=some y:=by
 intro l;induction l with
 | nil=>grind
 | cons x l ih =>
   intro r h;rw[aA2]at h;cases hx:f x with
   | none=>grind
   | some y =>
     rw[hx]at h;cases hl:l.mapM f with
     | none=>grind
     | some ys =>
       grind
theorem qO{ops:Array Oper}{i:Nat}{o:Oper}{d:DOper}(ho:ops[i]?=some o)(h:aGm P ops o=some d):Reads P ops i d:=by
 unfold aGm at h;split at h;·simp at h
 .rename_i hnd
  refine⟨o,ho,?_⟩
  grind
theorem xV{ops:Array Oper}{l:List DOper}(h:aRk P ops=some l):l.length=ops.size/\∀ i d,l[i]?=some d->Reads P ops i d:=by
 unfold aRk at h;obtain⟨h1,h2⟩:=aBN h
 grind [qO]
def aGl(N:Nat)(d:DOper):Prop:=(∀ k,d.dst=some k->k<N)/\d.op.isComm=false
theorem aEG{N:Nat}{l:List DOper}(h:aRf N l=true):∀ d∈l,∀ k,d.dst=some k->k<N:=by
 intro d hd k hk;unfold aRf at h
 grind
def Ends(N:Nat)(a:Act)(F:Nat->Prop)(w:World)(H:Hp)(K:aJ->Hp->Prop)(Q:Act->World->Prop):Prop :=
 ∀ a' F' w' env' H',a'.tmps.size=N->a'.defers=a.defers->Ext F w H F' w' H'->St F' w' H'->RE F' w' env' a'->K env' H'->Q a' w'
theorem Base.Up.step{F':Nat->Prop}{w':World}{H':Hp}(hB:B.Up F w)(st:St F w H)(h:Ext F w H F' w' H'):B.Up F' w':=Go.DL.Up.trans hB (h.up st)
theorem Ends.step{N:Nat}{K:aJ->Hp->Prop}{Q:Act->World->Prop}{a':Act}{F':Nat->Prop}{w':World}{H':Hp}(h:Ends N a F w H K Q)(hd:a'.defers=a.defers)(he:Ext F w H F' w' H') :
 Ends N a' F' w' H' K Q:=λa'' F'' w'' env'' H'' h1 h2 h3 h4 h5 h6=>h a'' F'' w'' env'' H'' h1 (h2.trans hd) (he.trans h3) h4 h5 h6
theorem aDN{ops:Array Oper}{r:Option Nat}{N:Nat}{Q:Exit->Act->World->Prop}{K:aJ->Hp->Prop}:∀(l:List DOper)(i:Nat),(∀ j d,l[j]?=some d->Reads P ops (i+j) d)->(∀ d∈l,aGl N d) ->
 ∀(F:Nat->Prop)(w:World)(H:Hp)(env:aJ)(a:Act),a.tmps.size=N->B.Up F w->St F w H->RE F w env a->RS B P l K env H->Ends N a F w H K (Q .normal) ->
 wpOpsIn (FW r) 0 P ops Q (List.range' i l.length) a w:=by
 intro l;induction l with
 | nil=>intro i _ _ F w H env a hsz hB st re h hQ;exact hQ a F w env H hsz rfl (Ext.refl _ _ _) st re h
 | cons d l ih =>
   intro i hr hd F w H env a hsz hB st re h hQ;rw[D7,aA9,wpOpsIn_cons];refine aDo (hr 0 d rfl) (hd d (by simp)).2 (hd d (by simp)).1 hsz hB st re h ?_;intro a' F' w' env' H' h1 h2 h3 h4 h5 h6;exact ih (i+1) (λj d' hj=>by have:=hr (j+1) d' (by grind);grind) (λd' hd'=>hd d' (by simp[hd'])) F' w' H' env' a' h1 (hB.step st h3) h4 h5 h6 (hQ.step h2 h3)
theorem Reads.congr{ops:Array Oper}{i:Nat}{d e:DOper}(h:Reads P ops i d)(h1:e.dst=d.dst)(h2:e.guard=d.guard)(h3:e.op=d.op\/(∃ n p x l l',d.op = .store n p x l/\e.op = .store n p x l')\/(∃ q q' f xs l l',d.op = .callf q f xs l/\e.op = .callf q' f xs l')):Reads P ops i e:=by
 obtain⟨o,ho,g1,g2,g3,g4⟩:=h.get;refine⟨o,ho,h1.trans g1,by grind,?_,g4⟩;rcases h3 with h3|⟨n,p,x,l,l',h3,h4⟩|⟨q,q',f,xs,l,l',h3,h4⟩;·grind
 .rw[h3]at g3
  rw[h4];rcases g3 with g3|⟨n',p',x',l'',g3,g5⟩|⟨q,f,xs,l'',g3,g5⟩
  .unfold aBt at g3
   cases hc:dD P o with
   | none=>grind
   | some y =>
     rw[hc]at g3;simp at g3;subst g3;rcases nD hc rfl rfl with ⟨t,pa,xa,n',p',x',_,_,_,_,hh⟩|⟨t,m,k,xx,m',k',x',kt,e,_,_,_,_,_,⟨_,_,hh⟩|⟨_,hh⟩⟩|⟨_,_,_,_,hh⟩|⟨c,_,hh⟩
     .simp only[DOp.store.injEq]at hh;obtain⟨rfl,rfl,rfl,rfl⟩:=hh
      exact .inr (.inl ⟨_,_,_,l',by unfold aBt;rw[hc];rfl,rfl⟩)
     .simp at hh
     .simp at hh
     .simp at hh
     .rcases xH hh rfl with ⟨_,_,_,_,_,_,_,_,_,_,_,_,_,_,_,hh⟩|⟨_,_,_,_,_,_,hh⟩|⟨_,_,_,_,_,hh⟩<;>simp at hh
  all_goals grind
 .rw[h3]at g3
  rw[h4];rcases g3 with g3|⟨n',p',x',l'',g3,g5⟩|⟨q1,f1,xs1,l'',g3,g5⟩
  .unfold aBt at g3
   cases hc:dD P o with
   | none=>grind
   | some y =>
     rw[hc]at g3;simp at g3;subst g3;rcases nD hc rfl rfl with ⟨t,pa,xa,n',p',x',_,_,_,_,hh⟩|⟨t,m,k,xx,m',k',x',kt,e,_,_,_,_,_,⟨_,_,hh⟩|⟨_,hh⟩⟩|⟨_,_,_,_,hh⟩|⟨c,_,hh⟩;·simp at hh
     .simp at hh
     .simp at hh
     .simp at hh
     .rcases xH hh rfl with ⟨_,_,_,_,_,_,_,_,_,_,_,_,_,_,_,hh⟩|⟨_,_,_,_,_,_,hh⟩|⟨_,_,_,_,_,hh⟩
      .simp at hh
      .simp only[DOp.callf.injEq]at hh;obtain⟨rfl,rfl,rfl,rfl⟩:=hh
       exact .inr (.inr ⟨q',_,_,l',by unfold aBt;rw[hc];rfl,rfl⟩)
      .simp only[DOp.callf.injEq]at hh;obtain⟨rfl,rfl,rfl,rfl⟩:=hh
       exact .inr (.inr ⟨q',_,_,l',by unfold aBt;rw[hc];rfl,rfl⟩)
  all_goals grind
theorem aIj{ops:Array Oper}{cl:List Nat}{b r:List DOper}{o:DOper}(h:Reads P ops o.ix o):Reads P ops (aFB cl b r o).ix (aFB cl b r o)/\(aFB cl b r o).dst=o.dst:=by
 unfold aFB;simp only;split
 .rename_i n p x l hop
  exact⟨h.congr rfl rfl (.inr (.inl ⟨_,_,_,_,_,hop,rfl⟩)),rfl⟩
 .rename_i q f xs l hop
  split;·exact⟨h.congr rfl rfl (.inr (.inr ⟨_,_,_,_,_,_,hop,rfl⟩)),rfl⟩
  .exact⟨h.congr rfl rfl (.inr (.inr ⟨_,_,_,_,_,_,hop,rfl⟩)),rfl⟩
 grind
theorem aOB{cl:List Nat}:∀(l b:List DOper)(d:DOper),d∈aOC cl b l->∃ o b' r',o∈l/\d=aFB cl b' r' o:=by
 intro l;induction l with
 | nil=>simp[aOC]
 | cons o l ih =>
   grind [aOC]
theorem aCv{N:Nat}{ops:Array Oper}{l:List DOper}(h:xW P N ops true=some l) :
 (∀ d∈l,Reads P ops d.ix d/\aGl N d)/\yY (ops.toList.map cT)=true/\aAY (lJ (ops.toList.map cT)) l=true/\l.length=ops.size/\aEc (l.map (·.ix))=true /\
 ∀ i,i<ops.size->i∈l.map (·.ix):=by
 unfold xW at h;split at h;·simp at h
 .rename_i l0 hl0
  obtain⟨hlen,hreads⟩:=xV hl0;split at h;·simp at h
  .rename_i hdst
   simp only[J7,aE4]at hdst;have hcomm:∀ o∈l0,o.op.isComm=false:=λ_ _=>rfl;simp only[AAe]at h;split at h
   .rename_i hc
    simp only[oSI]at h;simp only[B4,beq_iff_eq,D5,I2,List.contains_iff_mem]at hc;obtain⟨⟨⟨⟨c1,c2⟩,c3⟩,c4⟩,c5⟩:=hc;rw[h]at c2 c3 c4 c5;refine⟨λd hd=>?_,c1,c2,by grind,c4,λi hi=>c5 i AS⟩;rw[<-h]at hd;obtain⟨o,b',r',h1,h2⟩:=aOB _ _ _ hd;unfold aMj at h1;rw[O5]at h1;obtain⟨_,_,h1⟩:=h1;have h3:o∈aEa l0:=(aC5.1 h1).1;unfold aEa at h3;rw[F8]at h3;obtain⟨⟨o0,i⟩,h3,h4⟩:=h3;have h5:l0[i]?=some o0:=by
     grind
    have hro:Reads P ops o.ix o:=by
     subst h4;exact(hreads i o0 h5).congr rfl rfl (.inl rfl)
    obtain⟨h6,h7⟩:=aIj (cl:=lJ (ops.toList.map cT)) (b:=b') (r:=r') hro;rw[h2];refine⟨h6,λk hk=>?_,?_⟩
    .rw[h7]at hk
     subst h4;exact aEG hdst o0 (B3 h5) k hk
    rfl
   .simp at h
theorem rP(afs:List (List Nat))(S:Nat->Prop)(hS:∀ i,S i->∀ m∈afs.getD i [],S m) :
 ∀ i j,(∀ m∈afs.getD i [],S m)->((lJ afs).getD i 0).testBit j=true->S j:=by
 have bits:∀(acc:List Nat),(∀ i j,(∀ m∈afs.getD i [],S m)->(acc.getD i 0).testBit j=true->S j)->∀(o:List Nat)(s:Nat)(j:Nat),(∀ m∈o,S m) ->
  (o.foldl (λs j=>s|||(2^j|||acc.getD j 0)) s).testBit j=true->s.testBit j=true\/S j:=by
  intro acc hacc o;induction o with
  | nil=>grind
  | cons m o ih =>
    intro s j ho h;rw[aB1]at h;rcases ih _ j (λm hm=>ho m (by simp[hm])) h with h1|h1;all_goals grind
 have main:∀(rest:List (List Nat))(acc:List Nat),(∀ k,rest.getD k []=afs.getD (acc.length+k) [])->(∀ i j,(∀ m∈afs.getD i [],S m)->(acc.getD i 0).testBit j=true->S j) ->
  ∀ i j,(∀ m∈afs.getD i [],S m)->((rest.foldl (λacc o=>acc++[o.foldl (λs j=>s|||(2^j|||acc.getD j 0)) 0]) acc).getD i 0).testBit j=true->S j:=by
  intro rest;induction rest with
  | nil=>grind
  | cons o rest ih =>
    intro acc hr hacc;rw[aB1];refine ih _ (λk=>?_) λi j hi hb=>?_
    .have:=hr (k+1)
     grind
    .by_cases h1:i<acc.length
     .refine hacc i j hi ?_
      grind
     .by_cases h2:i=acc.length
      .subst h2
       rw[C7,I8 (B5 _)]at hb;simp only[N8,F6,G5]at hb;have ho:∀ m∈o,S m:=by
        have:=hr 0
        grind
       rcases bits acc hacc o 0 j ho hb with h3|h3;all_goals grind
      grind
 grind [lJ]
theorem aBf:∀{l:List Nat},aEc l=true->l.Nodup:=by
 intro l;induction l with
 | nil=>grind
 | cons x r ih =>
   grind [aEc]
def aCz(cl:List Nat)(x y:DOper):Prop:=(cl.getD y.ix 0).testBit x.ix=true\/qV x y=true
theorem mH{cl:List Nat}:∀{l:List DOper},aAY cl l=true->l.Pairwise (aCz cl):=by
 intro l;induction l with
 | nil=>intro _;simp
 | cons x r ih =>
   simp_all [aAY,aCz]
theorem aKC:∀(l:List DOper),l≠[]->∃ y∈l,∀ z∈l,y.ix<=z.ix:=by
 intro l;induction l with
 | nil=>grind
 | cons x r ih =>
   intro _;by_cases hr:r=[];·simp_all
   grind
structure Drawn(P:Program)(N:Nat)(ops:Array Oper)(l:List DOper)(listed:Array Bool):Prop where
 reads:∀ y∈l,Reads P ops y.ix y/\aGl N y
 open_:∀ y∈l,listed.getD y.ix true=false
 all:∀ i,listed.getD i true=false->∃ y∈l,y.ix=i
 nodup:(l.map (·.ix)).Nodup
 pairs:l.Pairwise (aCz (lJ (ops.toList.map cT)))
 closed:∀ i,listed.getD i false=true->∀ m∈(ops.toList.map cT).getD i [],listed.getD m false=true
 size:listed.size=ops.size
theorem aIR{o:Oper}{m:Nat}:m∈cT o↔∃ e∈o.after,Region.binds .any e=true/\e.on=m:=by
 grind [cT]
theorem uF{ops:Array Oper}{j:Nat}{listed:Array Bool}:j∈Region.ready .any ops listed ↔
 listed.getD j true=false/\j<ops.size/\∀ m∈(ops.toList.map cT).getD j [],listed.getD m false=true:=by
 grind [mem_ready,aIR]
theorem aNj{listed:Array Bool}{i:Nat}(h:i<listed.size):listed.getD i true=listed.getD i false:=by
 simp[h]
theorem Drawn.ready_ne{N:Nat}{ops:Array Oper}{l:List DOper}{listed:Array Bool}(hd:Drawn P N ops l listed)(ha:yY (ops.toList.map cT)=true)(hl:l≠[]):Region.ready .any ops listed≠[]:=by
 obtain⟨y,hy,hmin⟩:=aKC l hl;obtain⟨o,ho,_⟩:=(hd.reads y hy).1.get;have hlt:y.ix<ops.size:=(F9.1 ho).1;have:y.ix∈Region.ready .any ops listed:=by
  rw[uF];refine⟨hd.open_ y hy,hlt,λm hm=>?_⟩;have hm':m<y.ix:=by
   unfold yY at ha
   grind
  rw[<-aNj (by rw[hd.size];omega)];cases hx:listed.getD m true with
  | true=>rfl
  | false =>
    obtain⟨z,hz,hzm⟩:=hd.all m hx
    grind
 grind
theorem aKb{ops:Array Oper}{r:Option Nat}{N:Nat}{Q:Exit->Act->World->Prop}{K:aJ->Hp->Prop}(ha:yY (ops.toList.map cT)=true) :
 ∀(fuel:Nat)(l:List DOper)(listed:Array Bool)(F:Nat->Prop)(w:World)(H:Hp)(env:aJ)(a:Act)(L:Log),l.length<=fuel->Drawn P N ops l listed->(∀ o∈l,L o.ix=none) ->
   a.tmps.size=N->B.Up F w->St F w H->RE F w env a->RD B P l K env H L->Ends N a F w H K (Q .normal)->wpAnyIn (FW r) 0 P .any ops Q fuel listed a w:=by
 intro fuel;induction fuel with
 | zero =>
   intro l listed F w H env a L hl hd _ hsz hB st re h hQ;have hnil:l=[]:=List.length_eq_zero_iff.1 AS;subst hnil;refine⟨?_,hQ a F w env H hsz rfl (Ext.refl _ _ _) st re h⟩;cases hr:Region.ready .any ops listed with
   | nil=>rfl
   | cons i rs =>
     have hi:i∈Region.ready .any ops listed:=by grind
     obtain⟨y,hy,_⟩:=hd.all i (uF.1 hi).1;simp at hy
 | succ fuel ih =>
   intro l listed F w H env a L hl hd hL hsz hB st re h hQ;refine⟨λhr=>?_,λi hi=>?_⟩
   .have hnil:l=[]:=by
     cases l with
     | nil=>rfl
     | cons x r=>exact absurd hr (hd.ready_ne ha (by simp))
    subst hnil;exact hQ a F w env H hsz rfl (Ext.refl _ _ _) st re h
   .obtain⟨h1,hlt,h2⟩:=uF.1 hi
    obtain⟨y,hy,rfl⟩:=hd.all i h1;obtain⟨pre,post,rfl⟩:=aD4 hy;have hsw:∀ x∈pre,qV x y=true:=λx hx=>by
     have hp:=(aC0.1 hd.pairs).2.2 x hx y (by simp);rcases hp with hp|hp
     .exfalso
      have:=rP _ (λi=>listed.getD i false=true) hd.closed y.ix x.ix h2 hp;have hx':=hd.open_ x (by simp[hx])
      grind
     .exact hp
    have hp:=aZt pre env H L st.fin hsw hd.nodup hL h;refine aDo (hd.reads y hy).1 (hd.reads y hy).2.2 (hd.reads y hy).2.1 hsz hB st re (aLz hp) ?_;rintro a' F' w' env' H' k1 k2 k3 k4 k5 ⟨L',k6,k7⟩;have hsub:(pre++post).Sublist (pre++y::post):=O2 (O7 _ _) _;have hnd:∀ z∈pre++post,z.ix≠y.ix:=by
     intro z hz e;have hn:=hd.nodup
     grind
    refine ih (pre++post) _ F' w' H' env' a' L' (by grind) ⟨λz hz=>hd.reads z (hsub.mem hz),λz hz=>?_,λj hj=>?_,hd.nodup.sublist (hsub.map _),hd.pairs.sublist hsub,λj hj m hm=>?_,by simp[hd.size]⟩
     (λz hz=>by grind) k1 (hB.step st k3) k4 k5 k7 (hQ.step k2 k3)
    .rw[getD_set_ne true (Ne.symm (hnd z hz))];exact hd.open_ z (hsub.mem hz)
    .by_cases hjy:j=y.ix
     .simp_all
     .rw[getD_set_ne true (Ne.symm hjy)]at hj
      obtain⟨z,hz,hzj⟩:=hd.all j hj
      grind
    .by_cases hjy:j=y.ix
     .grind [getD_set_true]
     .rw[getD_set_ne false (Ne.symm hjy)]at hj
      exact getD_set_true (hd.closed j hj m hm)
theorem oZ{ops:Array Oper}{r:Option Nat}{N:Nat}{draw:Bool}{id:Nat}{l:List DOper}{Q:Exit->Act->World->Prop}{K:aJ->Hp->Prop}(hm:P.follows .mixedOrders=true)
 (hc:xW P N ops draw=some l) (hsz:a.tmps.size=N) (hB:B.Up F w) (st:St F w H) (re:RE F w env a)
 (h:if draw then RD B P l K env H noL else RS B P l K env H) (hQ:Ends N a F w H K (Q .normal)):(Code.region id ops draw).wpIn (FW r) 0 P Q a w:=by
 cases draw with
 | false =>
   unfold xW at hc;split at hc;·simp at hc
   .rename_i l0 hl0
    obtain⟨hlen,hreads⟩:=xV hl0;split at hc;·simp at hc
    .rename_i hdst
     simp only[J7,aE4]at hdst;simp only[C6,AAd,oSI]at hc;subst hc;refine wpIn_region ?_;rw[<-hlen,aA3];exact aDN l0 0 (λj d hj=>by grind) (λd hd=>⟨aEG hdst d hd,rfl⟩) F w H env a hsz hB st re h hQ
 | true =>
   obtain⟨c1,c2,c3,c4,c5,c6⟩:=aCv hc;refine wpIn_region_any hm ?_;have hlist:∀ i,(Array.replicate ops.size false).getD i true=false↔i<ops.size:=λi=>by
    by_cases h:i<ops.size<;>simp[h]
   refine aKb c2 ops.size l _ F w.drew H env a noL AS ⟨c1,λy hy=>?_,λi hi=>?_,aBf c5,mH c3,λi hi=>?_,by simp⟩ (λ_ _=>rfl) hsz
    (hB.step st (jE F w H)) (aAE st) (re.up ((jE F w H).up st)) h (hQ.step rfl (jE F w H))
   .obtain⟨o,ho,_⟩:=(c1 y hy).1.get
    grind
   all_goals grind
def Mk1(n0:Nat)(F:Nat->Prop)(H:Hp)(w:World)(d:Deferred):Prop:=∃ D,d={ target:=.collected D,args := #[] }/\n0<=D/\w.heap[D]?=some (.deferred (some []))/\¬F D/\H D=none
structure Mk(n0:Nat)(T:List Deferred)(F:Nat->Prop)(H:Hp)(w:World)(ds:List Deferred):Prop where
 ex:∃ ms,ds=ms++T/\ms.Nodup/\∀ d∈ms,Mk1 n0 F H w d
theorem Mk.ext{n0:Nat}{T ds:List Deferred}{F':Nat->Prop}{w':World}{H':Hp}(h:Mk n0 T F H w ds)(he:Ext F w H F' w' H'):Mk n0 T F' H' w' ds:=by
 obtain⟨ms,e,hn,hm⟩:=h.ex;refine⟨ms,e,hn,λd hd=>?_⟩;obtain⟨D,h1,h2,h3,h4,h5⟩:=hm d hd;have hlt:D<w.heap.size:=(F9.1 h3).1;refine⟨D,h1,h2,by rw[he.same D hlt (by simp[wE,h5])];exact h3,λh6=>?_,?_⟩
 .rcases he.fnew D h6 with h7|h7|h7
  all_goals grind
 .cases hx:H' D with
  | none=>rfl
  | some x =>
    rcases he.hdom D (by simp[hx])with h7|h7;all_goals grind
theorem Mk.nil{n0:Nat}{T:List Deferred}:Mk n0 T F H w T:=⟨[],rfl,aA6,λd hd=>by simp at hd⟩
theorem Mk.sub{n0:Nat}{T ds:List Deferred}{H':Hp}(h:Mk n0 T F H w ds)(hs:∀ b x,H' b=some x->H b=some x):Mk n0 T F H' w ds:=by
 obtain⟨ms,e,hn,hm⟩:=h.ex;refine⟨ms,e,hn,λd hd=>?_⟩;obtain⟨D,h1,h2,h3,h4,h5⟩:=hm d hd;refine⟨D,h1,h2,h3,h4,?_⟩;cases hx:H' D with
 | none=>rfl
 | some x=>grind
theorem Mk.cons{n0 D:Nat}{T ds:List Deferred}(h:Mk n0 T F H w ds)(hn:∀ d,Mk1 n0 F H w d->d≠{ target:=.collected D,args := #[] }){F':Nat->Prop}{w':World}{H':Hp}(he:Ext F w H F' w' H')
 (h1:Mk1 n0 F' H' w' { target:=.collected D,args := #[] }):Mk n0 T F' H' w' ({ target:=.collected D,args := #[] }::ds):=by
 obtain⟨ms,rfl,hnd,hm⟩:=h.ex;obtain⟨ms',e',hnd',hm'⟩:=(h.ext he).ex;have:ms'=ms:=by simp_all
 subst this;refine⟨{ target:=.collected D,args := #[] }::ms',rfl,J9.2 ⟨λhd=>hn _ (hm _ hd) rfl,hnd⟩,λd hd=>?_⟩
 grind
inductive DX where
 | normal
 | exit (id:Nat)
 | ret
abbrev QC:=DX->aJ->Hp->Prop
def Land(N n0:Nat)(T:List Deferred)(F:Nat->Prop)(w:World)(H:Hp)(Q:QC):Exit->Act->World->Prop:=λe a' w' =>
 ∃ x env' F' H',(match e with | .normal=>x=DX.normal | .exit id=>x = .exit id | .ret=>x = .ret|_=>False) /\
   a'.tmps.size=N/\Ext F w H F' w' H'/\St F' w' H'/\RE F' w' env' a'/\Mk n0 T F' H' w' a'.defers/\Q x env' H'
def W(B:Base)(P:Program)(r:Option Nat)(N:Nat)(c:Code)(Q:QC)(env:aJ)(H:Hp):Prop :=
 ∀(F:Nat->Prop)(w:World)(a:Act)(n0:Nat)(T:List Deferred),B.Up F w->n0<=w.heap.size->a.tmps.size=N->St F w H->RE F w env a->Mk n0 T F H w a.defers->c.wpIn (FW r) 0 P (Land N n0 T F w H Q) a w
variable{r:Option Nat}{N:Nat}{Q Q':QC}{n0:Nat}{T:List Deferred}
theorem Land.mono(h:∀ e env H,Q e env H->Q' e env H){e:Exit}{a':Act}{w':World}(hl:Land N n0 T F w H Q e a' w'):Land N n0 T F w H Q' e a' w':=by
 obtain⟨x,env',F',H',h1,h2,h3,h4,h5,h6,h7⟩:=hl;exact⟨x,env',F',H',h1,h2,h3,h4,h5,h6,h _ _ _ h7⟩
theorem Land.step{F':Nat->Prop}{w':World}{H':Hp}(he:Ext F w H F' w' H'){e:Exit}{a':Act}{w'':World}(hl:Land N n0 T F' w' H' Q e a' w''):Land N n0 T F w H Q e a' w'':=by
 obtain⟨x,env',F'',H'',h1,h2,h3,h4,h5,h6,h7⟩:=hl;exact⟨x,env',F'',H'',h1,h2,he.trans h3,h4,h5,h6,h7⟩
theorem W.mono{c:Code}(h:W B P r N c Q env H)(hq:∀ e env H,Q e env H->Q' e env H):W B P r N c Q' env H :=
 λF w a n0 T h1 h2 h3 h4 h5 h6=>wpIn_mono (h F w a n0 T h1 h2 h3 h4 h5 h6) λ_ _ _=>Land.mono hq
theorem yP{x:DX}{e:Exit}(hx:match e with | .normal=>x=DX.normal | .exit id=>x = .exit id | .ret=>x = .ret|_=>False)(h3:a.tmps.size=N)(h4:St F w H)(h5:RE F w env a)(h6:Mk n0 T F H w a.defers)
 (h:Q x env H):Land N n0 T F w H Q e a w:=⟨x,env,F,H,hx,h3,Ext.refl _ _ _,h4,h5,h6,h⟩
theorem W.skip(h:Q .normal env H):W B P r N .skip Q env H:=λF w a n0 T h1 h2 h3 h4 h5 h6=>wpIn_skip (yP rfl h3 h4 h5 h6 h)
theorem W.label{l:Nat}(h:Q .normal env H):W B P r N (.label l) Q env H:=λF w a n0 T h1 h2 h3 h4 h5 h6=>wpIn_label (yP rfl h3 h4 h5 h6 h)
theorem W.exit{id:Nat}(h:Q (.exit id) env H):W B P r N (.exit id) Q env H:=λF w a n0 T h1 h2 h3 h4 h5 h6=>wpIn_exit (yP rfl h3 h4 h5 h6 h)
theorem W.ret(h:Q .ret env H):W B P r N .ret Q env H:=λF w a n0 T h1 h2 h3 h4 h5 h6=>wpIn_ret (yP rfl h3 h4 h5 h6 h)
def QC.then(K:aJ->Hp->Prop)(Q:QC):QC:=λx env H=>match x with
 | .normal=>K env H
 | x=>Q x env H
theorem W.seq{x y:Code}(h:W B P r N x (QC.then (W B P r N y Q) Q) env H):W B P r N (.seq x y) Q env H:=by
 intro F w a n0 T h1 h2 h3 h4 h5 h6;refine wpIn_seq (wpIn_mono (h F w a n0 T h1 h2 h3 h4 h5 h6) ?_);rintro e a' w' ⟨x,env',F',H',k1,k2,k3,k4,k5,k6,k7⟩;cases e with
 | normal =>
   simp only at k1;subst k1;exact wpIn_mono (k7 F' w' a' n0 T (h1.step h4 k3) (H9 h2 k3.le) k2 k4 k5 k6) λ_ _ _=>Land.step k3
 | exit id=>simp only at k1;subst k1;exact⟨_,env',F',H',rfl,k2,k3,k4,k5,k6,k7⟩
 | ret=>simp only at k1;subst k1;exact⟨_,env',F',H',rfl,k2,k3,k4,k5,k6,k7⟩
 | goto l=>grind
 | panic c=>grind
 | outgrown=>grind
theorem W.cond{c:Operand}{c':AO}{x y:Code}{t:Bool}(hc:co c=some c')(he:aK env c' = .bool t)(h:W B P r N (if t then x else y) Q env H):W B P r N (.cond c x y) Q env H:=by
 intro F w a n0 T h1 h2 h3 h4 h5 h6;have hv:=bM h5 hc;rw[he]at hv;have:a.eval c = .bool t:=by
  generalize a.eval c=z at hv;cases hv;rfl
 exact wpIn_cond this (h F w a n0 T h1 h2 h3 h4 h5 h6)
def QC.block(id:Nat)(Q:QC):QC:=λx env H=>match x with
 | .exit j=>if j=id then Q .normal env H else Q (.exit j) env H
 | x=>Q x env H
theorem W.block{id:Nat}{x:Code}(h:W B P r N x (QC.block id Q) env H):W B P r N (.block id x) Q env H:=by
 intro F w a n0 T h1 h2 h3 h4 h5 h6;refine wpIn_block (wpIn_mono (h F w a n0 T h1 h2 h3 h4 h5 h6) ?_);rintro e a' w' ⟨x,env',F',H',k1,k2,k3,k4,k5,k6,k7⟩;cases e with
 | normal=>simp only at k1;subst k1;exact⟨_,env',F',H',rfl,k2,k3,k4,k5,k6,k7⟩
 | exit j =>
   simp only at k1;subst k1;simp only[Exit.inBlock];by_cases hj:j=id;·simp only[QC.block,hj,AAe]at k7 ⊢;exact⟨_,env',F',H',rfl,k2,k3,k4,k5,k6,k7⟩
   .simp only[QC.block,hj,AAd]at k7 ⊢;exact⟨_,env',F',H',rfl,k2,k3,k4,k5,k6,k7⟩
 | ret=>simp only at k1;subst k1;exact⟨_,env',F',H',rfl,k2,k3,k4,k5,k6,k7⟩
 | goto l=>grind
 | panic c=>grind
 | outgrown=>grind
theorem W.loop{x:Code}(I:Nat->aJ->Hp->Prop){m:Nat}(hI:I m env H)(hr:∀ m env H,I m env H->W B P r N x (QC.then (λenv' H'=>∃ m',m'<m/\I m' env' H') Q) env H):W B P r N (.loop x) Q env H:=by
 intro F w a n0 T h1 h2 h3 h4 h5 h6
 let good:Nat->Act->World->Prop:=λm a' w'=>∃ env' F' H',a'.tmps.size=N/\Ext F w H F' w' H'/\St F' w' H'/\RE F' w' env' a'/\Mk n0 T F' H' w' a'.defers/\I m env' H'
 have hex:∀ a' w',(∃ m,good m a' w')->∃ m,good m a' w'/\∀ k,good k a' w'->m<=k:=by
  intro a' w' ⟨m,hm⟩;induction m using Nat.strongRecOn with
  | _ m ih =>
    by_cases hk:∃ k,k<m/\good k a' w';·obtain⟨k,hk1,hk2⟩:=hk;grind
    grind
 let μ:Act->World->Nat:=λa' w'=>open Classical in if h:∃ m,good m a' w' then (hex a' w' h).choose else 0
 have hμ:∀ a' w' (h:∃ m,good m a' w'),good (μ a' w') a' w'/\∀ k,good k a' w'->μ a' w'<=k:=λa' w' h=>by
  have:μ a' w'=(hex a' w' h).choose:=by simp only[μ,AAq h]
  grind
 refine wpIn_loop (λa' w'=>∃ m,good m a' w') μ ⟨m,env,F,H,h3,Ext.refl _ _ _,h4,h5,h6,hI⟩ ?_;intro a' w' hg;obtain⟨env',F',H',k2,k3,k4,k5,k6,k7⟩:=(hμ a' w' hg).1;refine wpIn_mono (hr _ env' H' k7 F' w' a' n0 T (h1.step h4 k3) (H9 h2 k3.le) k2 k4 k5 k6) ?_;rintro e a'' w'' ⟨x,env'',F'',H'',l1,l2,l3,l4,l5,l6,l7⟩;cases e with
 | normal =>
   simp only at l1;subst l1;obtain⟨m',hlt,hI'⟩:=l7;have hg':good m' a'' w'':=⟨env'',F'',H'',l2,k3.trans l3,l4,l5,l6,hI'⟩;exact⟨⟨m',hg'⟩,aD5 ((hμ a'' w'' ⟨m',hg'⟩).2 m' hg') hlt⟩
 | exit j=>simp only at l1;subst l1;exact⟨_,env'',F'',H'',rfl,l2,k3.trans l3,l4,l5,l6,l7⟩
 | ret=>simp only at l1;subst l1;exact⟨_,env'',F'',H'',rfl,l2,k3.trans l3,l4,l5,l6,l7⟩
 | goto l=>grind
 | panic c=>grind
 | outgrown=>grind
theorem jZ{b:Frame}{k:List Item}{cs:List Frame}{c:Code}:step P (lone (b.atR a (.code (.scope c)::k)) cs w) = .next (lone (b.atR a (.code c :: .inScope c::k)) cs w) :=
 step_lone_go (by rfl)
theorem aEZ{b:Frame}{k:List Item}{cs:List Frame}{c:Code}:step P (lone (b.atR a (.inScope c::k)) cs w) = .next (lone (b.atR a k) cs w) :=
 step_lone_go (by rfl)
theorem aJJ{F:Fence}{n:Nat}{Q:Exit->Act->World->Prop}{c:Code}(h:c.wpIn F n P (Exit.noGoto Q) a w):(Code.scope c).wpIn F n P Q a w:=by
 intro b k cs hro hb hr;have h0:(lone (b.atR a (.code (.scope c)::k)) cs w).fenced P F:=fenced_calm hb hr rfl;obtain⟨e,a₁,w₁,hq,harr⟩:=h b (.inScope c::k) cs hro hb hr;cases e with
 | normal=>exact⟨.normal,a₁,w₁,hq,.head h0 jZ (StepsIn.trans harr (.one (fenced_calm hb hr rfl) aEZ))⟩
 | exit id =>
   have hx:exitTo id (.inScope c::k)=exitTo id k:=by rfl
   exact⟨.exit id,a₁,w₁,hq,λk' hk=>.head h0 jZ (harr.1 k' (by grind)),
    λhr' hk=>let ⟨k₁,h1,h2⟩:=harr.2 hr' (by grind); ⟨k₁,h1,.head h0 jZ h2⟩⟩
 | goto l=>exact hq.elim
 | ret=>exact⟨_,a₁,w₁,hq,.of_steps (.one h0 jZ) harr⟩
 | panic ch=>exact⟨_,a₁,w₁,hq,.of_steps (.one h0 jZ) harr⟩
 | outgrown=>exact⟨_,a₁,w₁,hq,.of_steps (.one h0 jZ) harr⟩
theorem W.scope{c:Code}(h:W B P r N c Q env H):W B P r N (.scope c) Q env H:=by
 intro F w a n0 T h1 h2 h3 h4 h5 h6;refine aJJ (wpIn_mono (h F w a n0 T h1 h2 h3 h4 h5 h6) ?_);intro e a' w' hl;cases e with
 | goto l=>obtain⟨x,_,_,_,k1,_⟩:=hl;grind
 | normal=>exact hl
 | exit id=>exact hl
 | ret=>exact hl
 | panic c=>exact hl
 | outgrown=>exact hl
theorem W.region{id:Nat}{ops:Array Oper}{draw:Bool}{l:List DOper}(hm:P.follows .mixedOrders=true)(hc:xW P N ops draw=some l)
 (h:if draw then RD B P l (Q .normal) env H noL else RS B P l (Q .normal) env H):W B P r N (.region id ops draw) Q env H:=by
 intro F w a n0 T h1 h2 h3 h4 h5 h6;refine oZ hm hc h3 h1 h4 h5 h ?_;intro a' F' w' env' H' k1 k2 k3 k4 k5 k6;exact⟨.normal,env',F',H',rfl,k1,k3,k4,k5,by rw[k2];exact h6.ext k3,k6⟩
theorem W.le{env':aJ}{c:Code}(hl:Le env env')(h:W B P r N c Q env' H):W B P r N c Q env H :=
 λF w a n0 T h1 h2 h3 h4 h5 h6=>h F w a n0 T h1 h2 h3 h4 (h5.le hl) h6
def Shift(env:aJ)(H:Hp)(env':aJ)(H':Hp):Prop:=∀(F:Nat->Prop)(w:World)(a:Act),St F w H->RE F w env a->∃ F',Ext F w H F' w H'/\St F' w H'/\RE F' w env' a
theorem Shift.le{env':aJ}(h:Le env env'):Shift env H env' H:=λF w a st re=>⟨F,Ext.refl _ _ _,st,re.le h⟩
theorem Shift.forget{H':Hp}(h:∀ b x,H' b=some x->H b=some x):Shift env H env H':=λF w a st re=>⟨F,(Ext.refl _ _ _).forget h,st.forget h,re⟩
theorem Shift.trans{env' env'':aJ}{H' H'':Hp}(h:Shift env H env' H')(k:Shift env' H' env'' H''):Shift env H env'' H'':=λF w a st re=>by
 obtain⟨F',h1,h2,h3⟩:=h F w a st re;obtain⟨F'',k1,k2,k3⟩:=k F' w a h2 h3;exact⟨F'',h1.trans k1,k2,k3⟩
theorem W.shift{env':aJ}{H':Hp}{c:Code}(hs:Shift env H env' H')(h:W B P r N c Q env' H'):W B P r N c Q env H:=by
 intro F w a n0 T h1 h2 h3 h4 h5 h6;obtain⟨F',k1,k2,k3⟩:=hs F w a h4 h5;exact wpIn_mono (h F' w a n0 T (h1.step h4 k1) h2 h3 k2 k3 (h6.ext k1)) λ_ _ _=>Land.step k1
def WD(B:Base)(P:Program)(r:Option Nat)(N:Nat)(dc:DCode)(Q:QC)(env:aJ)(H:Hp):Prop :=
 ∀ c,eS P N c=some dc->W B P r N c Q env H
theorem WD.mono{c:DCode}(h:WD B P r N c Q env H)(hq:∀ e env H,Q e env H->Q' e env H):WD B P r N c Q' env H:=λc hc=>(h c hc).mono hq
theorem WD.le{env':aJ}{c:DCode}(hl:Le env env')(h:WD B P r N c Q env' H):WD B P r N c Q env H:=λc hc=>(h c hc).le hl
theorem WD.shift{env':aJ}{H':Hp}{c:DCode}(hs:Shift env H env' H')(h:WD B P r N c Q env' H'):WD B P r N c Q env H:=λc hc=>(h c hc).shift hs
theorem WD.skip(h:Q .normal env H):WD B P r N .skip Q env H:=by
 intro c hc;cases c<;>simp only[eS]at hc
 case skip=>exact W.skip h
 case label l=>exact W.label h
 all_goals exfalso;first|(simp at hc;done)|((repeat' split at hc)<;>simp at hc;done)
theorem WD.exit{id:Nat}(h:Q (.exit id) env H):WD B P r N (.exit id) Q env H:=by
 intro c hc;cases c<;>simp only[eS]at hc
 case exit j=>simp only[oSI,DCode.exit.injEq]at hc;subst hc;exact W.exit h
 all_goals exfalso;first|(simp at hc;done)|((repeat' split at hc)<;>simp at hc;done)
theorem WD.ret(h:Q .ret env H):WD B P r N .ret Q env H:=by
 intro c hc;cases c<;>simp only[eS]at hc
 case ret=>exact W.ret h
 all_goals exfalso;first|(simp at hc;done)|((repeat' split at hc)<;>simp at hc;done)
theorem WD.seq{x y:DCode}(h:WD B P r N x (QC.then (WD B P r N y Q) Q) env H):WD B P r N (.seq x y) Q env H:=by
 intro c hc;cases c<;>simp only[eS]at hc
 case seq a b =>
  split at hc
  .rename_i a' b' ha hb
   simp only[oSI,DCode.seq.injEq]at hc;obtain⟨rfl,rfl⟩:=hc;refine W.seq ((h a ha).mono λe env H hq=>?_);cases e with
   | normal=>exact hq b hb
   | exit id=>exact hq
   | ret=>exact hq
  .simp at hc
 all_goals grind
theorem WD.cond{o:AO}{x y:DCode}{t:Bool}(he:aK env o = .bool t)(h:WD B P r N (if t then x else y) Q env H):WD B P r N (.cond o x y) Q env H:=by
 intro c hc;cases c<;>simp only[eS]at hc
 case cond o' a b =>
  split at hc
  .rename_i o'' a' b' ho ha hb
   simp only[oSI,DCode.cond.injEq]at hc;obtain⟨rfl,rfl,rfl⟩:=hc;refine W.cond ho he ?_;cases t with
   | true=>exact h a ha
   | false=>exact h b hb
  .simp at hc
 all_goals exfalso;first|(simp at hc;done)|((repeat' split at hc)<;>simp at hc;done)
theorem WD.block{id:Nat}{x:DCode}(h:WD B P r N x (QC.block id Q) env H):WD B P r N (.block id x) Q env H:=by
 intro c hc;cases c<;>simp only[eS]at hc
 case block j a =>
  split at hc
  .rename_i a' ha
   simp only[oSI,DCode.block.injEq]at hc;obtain⟨rfl,rfl⟩:=hc;exact W.block (h a ha)
  .simp at hc
 all_goals exfalso;first|(simp at hc;done)|((repeat' split at hc)<;>simp at hc;done)
theorem WD.loop{x:DCode}(I:Nat->aJ->Hp->Prop){m:Nat}(hI:I m env H)(hr:∀ m env H,I m env H->WD B P r N x (QC.then (λenv' H'=>∃ m',m'<m/\I m' env' H') Q) env H):WD B P r N (.loop x) Q env H:=by
 intro c hc;cases c<;>simp only[eS]at hc
 case loop a =>
  split at hc
  .rename_i a' ha
   simp only[oSI,DCode.loop.injEq]at hc;subst hc;exact W.loop I hI λm env H hi=>hr m env H hi a ha
  .simp at hc
 all_goals grind
theorem WD.scope{x:DCode}(h:WD B P r N x Q env H):WD B P r N (.scope x) Q env H:=by
 intro c hc;cases c<;>simp only[eS]at hc
 case scope a =>
  split at hc
  .rename_i a' ha
   simp only[oSI,DCode.scope.injEq]at hc;subst hc;exact W.scope (h a ha)
  .simp at hc
 all_goals exfalso;first|(simp at hc;done)|((repeat' split at hc)<;>simp at hc;done)
theorem WD.reg{draw:Bool}{l:List DOper}(hm:P.follows .mixedOrders=true)(h:if draw then RD B P l (Q .normal) env H noL else RS B P l (Q .normal) env H):WD B P r N (.reg draw l) Q env H:=by
 intro c hc;cases c<;>simp only[eS]at hc
 all_goals grind [W.region]
variable{P:Program}{B:Base}{F:Nat->Prop}{w:World}{H:Hp}{env:aJ}{a:Act}
def aCF(P:Program):ResultVar->Option (Nat×Option (Bool×Nat))
 | .tmp t=>some (t,none)
 | .cell a t=>match eQ P t,nH P t with
   | some g,some n=>some (a,some (g,n))
   | _,_=>none
def wY(env:aJ)(H:Hp):Nat×Option (Bool×Nat)->Option AV
 | (t,none)=>some (env t)
 | (a,some (g,n))=>fM g n H (env a)
def zE(env:aJ)(H:Hp):List (Nat×Option (Bool×Nat))->Option (List AV)
 | []=>some []
 | x::r=>match wY env H x,zE env H r with
   | some v,some vs=>some (v::vs)
   | _,_=>none
def kD(rs:List (Nat×Option (Bool×Nat)))(env:aJ)(H:Hp):Option AV:=match zE env H rs with
 | some [v]=>some v
 | some vs=>some (.tup vs)
 | none=>none
structure DFn where
 N:Nat
 res:List (Nat×Option (Bool×Nat))
 body:DCode
 dfr:Option (List DOper×Nat):=none
structure aUT(P:Program)(f:FuncId)(d:DFn):Prop where
 call:∀(vs:Array Value)(w:World),(callFunc f vs).run P w = .ok (.enter f vs) w
 code:∃ fn c,P.funcs[f]?=some fn/\fn.body=some c/\fn.ntmps=d.N/\fn.results.toList.mapM (aCF P)=some d.res/\aJq P d.N c=some (d.dfr,d.body)
def aX(as:List AV):aJ:=λk=>as.getD k .any
def fnQ(rs:List (Nat×Option (Bool×Nat)))(Q:AV->Hp->Prop):QC:=λe env H=>match e with
 | .exit _=>False
 | _=>nL (kD rs env H) λv=>Q v H
theorem aHa{tmps:Array Value}{x:ResultVar}{y:Nat×Option (Bool×Nat)}{v:AV}(st:St F w H)(re:RE F w env { tmps:=tmps,defers:=[] })(hx:aCF P x=some y)(hv:wY env H y=some v) :
 ∃ c,(match x with
   | .tmp t=>pure (tmps.getD t undef)
   | .cell a t=>do loadVar t (<-asAddr (tmps.getD a undef)):Sem Value).run P w = .ok c w/\Rv F w v c:=by
 cases x with
 | tmp t =>
   simp only[aCF,oSI]at hx;subst hx;simp only[wY,oSI]at hv;subst hv;exact⟨_,by rfl,re.rv t⟩
 | cell p t =>
   simp only[aCF]at hx;split at hx
   .rename_i g n hg hn
    simp only[oSI]at hx;subst hx;simp only[wY]at hv;obtain⟨c,h1,h2⟩:=aFK (P:=P) st hg hn (re.rv p) hv;refine⟨c,?_,h2⟩;have hz:∃ ad,tmps.getD p undef = .pointer (some ad):=by
     have hp:=re.rv p;cases hq:env p<;>rw[hq]at hv hp<;>simp only[fM,reduceCtorEq]at hv
     .generalize hy:({ tmps:=tmps,defers:=[] }:Act).tmps.getD p undef=z at hp
      cases hp
      grind
     .generalize hy:({ tmps:=tmps,defers:=[] }:Act).tmps.getD p undef=z at hp
      cases hp
      grind
    obtain⟨ad,hz⟩:=hz;simp only[hz,Instr.loadAt,Instr.sureAddr,asAddr,Sem.run_bind,Sem.run_pure,Result.andThen_ok]at h1 ⊢;exact h1
   .simp at hx
theorem aGZ{tmps:Array Value}(st:St F w H)(re:RE F w env { tmps:=tmps,defers:=[] }):∀(xs:List ResultVar)(ys:List (Nat×Option (Bool×Nat)))(vs:List AV),xs.mapM (aCF P)=some ys->zE env H ys=some vs ->
 ∃ cs:List Value,(xs.mapM λx=>(match x with
   | .tmp t=>pure (tmps.getD t undef)
   | .cell a t=>do loadVar t (<-asAddr (tmps.getD a undef)):Sem Value)).run P w = .ok cs w/\vs.length=cs.length/\∀(i:Nat)(v:AV)(c:Value),vs[i]?=some v->cs[i]?=some c->Rv F w v c:=by
 intro xs;induction xs with
 | nil =>
   simp_all [zE]
 | cons x xs ih =>
   intro ys vs hx hv;rw[aA2]at hx;cases h1:aCF P x with
   | none=>grind
   | some y =>
     rw[h1]at hx;cases h2:xs.mapM (aCF P)with
     | none=>grind
     | some ys' =>
       rw[h2]at hx;simp at hx;subst hx;simp only[zE]at hv;split at hv
       .rename_i v' vs' h3 h4
        simp only[oSI]at hv;subst hv;obtain⟨c,k1,k2⟩:=aHa st re h1 h3;obtain⟨cs,k3,k4,k5⟩:=ih ys' vs' h2 h4;refine⟨c::cs,?_,by simp[k4],λi v c' hv' hc'=>?_⟩;all_goals grind [Sem.run_bind,Result.andThen_ok,Sem.run_pure]
       .simp at hv
theorem aCk{fn:Func}{tmps:Array Value}{rs:List (Nat×Option (Bool×Nat))}{v:AV}(st:St F w H)(re:RE F w env { tmps:=tmps,defers:=[] })(hr:fn.results.toList.mapM (aCF P)=some rs)(hv:kD rs env H=some v) :
 ∃ c,(results fn tmps).run P w = .ok c w/\Rv F w v c:=by
 unfold kD at hv;obtain⟨vs,hvs⟩:∃ vs,zE env H rs=some vs:=by
  grind
 obtain⟨cs,h1,h2,h3⟩:=aGZ st re _ _ _ hr hvs;have h4:(results fn tmps).run P w = .ok (if h:cs.toArray.size=1 then cs.toArray[0] else .tuple cs.toArray) w:=by
  unfold results;have hmap:∀{α β:Type}(f:α->β)(m:Sem α),f <$> m=(m >>= λx=>pure (f x)):=λf m=>rfl;rw[Sem.run_bind,<-Array.toArray_toList (xs:=fn.results),List.mapM_toArray,hmap,Sem.run_bind];exact(AAs (λr:Result (List Value)=>((r.andThen λa w'=>Sem.run P (pure a.toArray) w').andThen λa w'=>Sem.run P (pure (if h:a.size=1 then a[0] else Value.tuple a)) w')) h1).trans (by rfl)
 refine⟨_,h4,?_⟩;rw[hvs]at hv;cases vs with
 | nil =>
   cases cs with
   | nil=>simp at hv;subst hv;exact .tup _ _ (by simp) (by simp)
   | cons c cs=>simp at h2
 | cons v1 vs =>
   cases cs with
   | nil=>simp at h2
   | cons c cs =>
     cases vs with
     | nil =>
       cases cs with
       | nil=>simp at hv;subst hv;exact h3 0 _ _ rfl rfl
       | cons c' cs=>simp at h2
     | cons v2 vs =>
       cases cs with
       | nil=>simp at h2
       | cons c' cs =>
         simp at hv;subst hv;simp only[List.size_toArray,D7,show ¬(cs.length+1+1=1) by omega,AAr,AAp];exact .tup _ _ AS λi x y hx hy=>h3 i x y hx (by grind)
theorem aAf{n0 D:Nat}{w0:World}{F0:Nat->Prop}{H0:Hp}{x:Option (List Deferred)}(he:Ext F0 w0 H0 F w H)(st:St F w H)(hn:w0.heap.size<=D)(hD:w.heap[D]?=some (.deferred (some [])))(hF:¬F D)(hH:H D=none) :
 Ext F0 w0 H0 F (w.putObj D (.deferred x)) H/\St F (w.putObj D (.deferred x)) H/\Up F w F (w.putObj D (.deferred x)):=by
 have oth:∀ b,b≠D->(w.putObj D (.deferred x)).heap[b]?=w.heap[b]?:=λb hb=>World.putObj_heap_other hb;have hu:Up F w F (w.putObj D (.deferred x)):=⟨λ_ h=>h,λb hb=>oth b λe=>hF (e▸hb),λb c e fr hb=>⟨c,e,fr,by grind,rfl⟩,by simp⟩;refine⟨⟨he.sub,he.fnew,he.hdom,he.hnew,by simpa using he.le,λb hb hw=>by rw[oth b AS];exact he.same b hb hw,λb c e fr hb=>?_,he.io.trans ⟨rfl,rfl,rfl⟩⟩,⟨λb hb=>by simpa using st.lt b hb,st.dis,λb y hb=>?_⟩,hu⟩
 .have hlt:b<w0.heap.size:=(F9.1 hb).1
  rw[oth b AS];exact he.cells b c e fr hb
 .obtain⟨o,h1,h2⟩:=st.blk b y hb
  exact⟨o,by grind,h2.up hu⟩
theorem aIV{fn:Func}{tmps:Array Value}{rs:List (Nat×Option (Bool×Nat))}{v:AV}{F0:Nat->Prop}{w0:World}{H0:Hp}{Q:AV->Hp->Prop}(hr:fn.results.toList.mapM (aCF P)=some rs)(hv:kD rs env H=some v)(hQ:Q v H)
 (he:Ext F0 w0 H0 F w H) (st:St F w H) (re:RE F w env { tmps:=tmps,defers:=[] }):LeavesInM Fence.wide 0 P fn tmps (yD F0 w0 H0 Q) [] .returning w:=by
 obtain⟨c,h1,h2⟩:=aCk st re hr hv;exact⟨c,h1,c,v,F,H,rfl,he,st,h2,hQ⟩
theorem aHC{fn:Func}{tmps:Array Value}{n0:Nat}{F0:Nat->Prop}{w0:World}{H0:Hp}{R:Ending->World->Prop}(hn0:w0.heap.size<=n0)
 (hT:∀ w,Ext F0 w0 H0 F w H->St F w H->RE F w env { tmps:=tmps,defers:=[] }->LeavesInM Fence.wide 0 P fn tmps R [] .returning w) :
 ∀(ms:List Deferred)(w:World),Ext F0 w0 H0 F w H->St F w H->RE F w env { tmps:=tmps,defers:=[] }->ms.Nodup->(∀ d∈ms,Mk1 n0 F H w d)->LeavesInM Fence.wide 0 P fn tmps R ms .returning w:=by
 intro ms;induction ms with
 | nil=>grind
 | cons d ds ih =>
   intro w he st re hnd hm;obtain⟨D,rfl,h2,h3,h4,h5⟩:=hm d (by simp);obtain⟨k1,k2,k3⟩:=aAf (n0:=0) (x:=none) he st (H9 hn0 h2) h3 h4 h5;have hnd:=J9.1 hnd;refine⟨by simp,.inl ⟨D,_,rfl,run_takeDeferred h3,ih _ k1 k2 (re.up k3) hnd.2 λd' hd'=>?_⟩⟩;obtain⟨D',rfl,l2,l3,l4,l5⟩:=hm d' (by simp[hd']);refine⟨D',rfl,l2,?_,l4,l5⟩
   grind [World.putObj_heap_other]
theorem aMQ{l1 l2:List DOper}{K:aJ->Hp->Prop}:∀{env:aJ}{H:Hp},RS B P (l1++l2) K env H->RS B P l1 (RS B P l2 K) env H:=by
 induction l1 with
 | nil=>exact λh=>h
 | cons o l1 ih=>exact λh=>aQa (λ_ _ h=>ih h) h
theorem aDd{N:Nat}{as:List AV}{vs:Array Value}{nt:Nat}(hB:B.Up F w)(hA:Args F w as vs):RE F w (aX as) { tmps:=vs++Array.replicate nt undef,defers:=[] }:=by
 refine⟨λk=>?_,B.gi.up hB⟩;simp only[aX];cases hk:as[k]? with
 | none=>rw[C7,hk];exact .any _
 | some x =>
   have hlt:k<vs.size:=by grind [Args]
   rw[C7,hk];simp only[G5,F7]
   grind [Args]
theorem FnW.of{f:FuncId}{d:DFn}{as:List AV}{Q:AV->Hp->Prop}(hf:aUT P f d)(hN:as.length<=d.N)
 (h:WD B P none d.N d.body (fnQ d.res Q) (aX as) H):FnW B P f as H Q:=by
 refine⟨hf.call,λF w vs hB st hA=>?_⟩;obtain⟨fn,c,h1,h2,h3,h4,h5⟩:=hf.code;have hsz:(vs++Array.replicate (fn.ntmps-vs.size) undef).size=d.N:=by
  have:=hA.1
  grind
 have hre:=aDd (N:=d.N) (nt:=fn.ntmps-vs.size) hB hA;have h5':eS P d.N c=some d.body:=by
  simp only[aJq,B2,B9]at h5
  grind
 refine callsIn_of_wp_marks h1 h2 trivial (wpIn_mono (h c h5' F w { tmps:=vs++Array.replicate (fn.ntmps-vs.size) undef,defers:=[] } w.heap.size [] hB (B5 _) hsz st hre Mk.nil) ?_);rintro e a' w' ⟨x,env',F',H',k1,k2,k3,k4,k5,k6,k7⟩;have fin:nL (kD d.res env' H') (λv=>Q v H')->LeavesInM Fence.wide 0 P fn a'.tmps (yD F w H Q) a'.defers .returning w':=λhq=>by
  rw[dN]at hq;obtain⟨v,hv,hQ⟩:=hq;obtain⟨ms,e1,e2,e3⟩:=k6.ex;rw[J3]at e1;rw[e1];exact aHC (B5 _) (λw'' he st' re'=>aIV h4 hv hQ he st' re') ms w' k3 k4 k5 e2 e3
 cases e with
 | normal=>simp only at k1;subst k1;exact fin k7
 | ret=>simp only at k1;subst k1;exact fin k7
 | exit id=>simp only at k1;subst k1;exact k7.elim
 | goto l=>grind
 | panic c=>grind
 | outgrown=>grind
inductive Fz(b:Nat)(cs:List AV):AV->AV->Prop where
 | same (v:AV):Fz b cs v v
 | sl (off s len:Nat) (rows:List (List AV)) (hl:rows.length=len) (hs:∀ r∈rows,r.length=s)
  (hc:∀(i:Nat)(r:List AV)(j:Nat)(c:AV),rows[i]?=some r->r[j]?=some c->cs[off+i*s+j]?=some c):Fz b cs (.sl b off s len) (.fs rows)
 | pt (off s i o:Nat) (rows:List (List AV)) (hs:∀ r∈rows,r.length=s)
  (hc:∀(i:Nat)(r:List AV)(j:Nat)(c:AV),rows[i]?=some r->r[j]?=some c->cs[off+i*s+j]?=some c):Fz b cs (.pt b (off+i*s+o)) (.fp rows i o)
 | agg (xs ys:List AV) (hl:xs.length=ys.length) (h:∀(i:Nat)(x y:AV),xs[i]?=some x->ys[i]?=some y->Fz b cs x y):Fz b cs (.agg xs) (.agg ys)
 | tup (xs ys:List AV) (hl:xs.length=ys.length) (h:∀(i:Nat)(x y:AV),xs[i]?=some x->ys[i]?=some y->Fz b cs x y):Fz b cs (.tup xs) (.tup ys)
 | fn (f:Fn) (xs ys xs' ys':List AV) (hl:xs.length=ys.length) (h:∀(i:Nat)(x y:AV),xs[i]?=some x->ys[i]?=some y->Fz b cs x y)
  (hl':xs'.length=ys'.length) (h':∀(i:Nat)(x y:AV),xs'[i]?=some x->ys'[i]?=some y->Fz b cs x y):Fz b cs (.fn f xs xs') (.fn f ys ys')
theorem Rv.fz{b:Nat}{cs:List AV}{x y:AV}(hf:Fz b cs x y){c:Array Value}{e:TypeId}{fr:Nat×Nat}(hb:w.heap[b]?=some (.cells c e fr))(hF:F b)(hl:cs.length<=c.size)
 (ho:∀(i:Nat)(v:Value),c[i]?=some v->v.oneCell'=true) (hc:∀(i:Nat)(a:AV)(v:Value),cs[i]?=some a->c[i]?=some v->Rv F w a v):∀{v:Value},Rv F w x v->Rv F w y v:=by
 have cell:∀(k:Nat)(x:AV),cs[k]?=some x->w.cell? ⟨b,k,none⟩=some (c[k]?.getD (Value.bool false))/\Rv F w x (c[k]?.getD (Value.bool false)):=λk x hk=>by
  have hlt:k<c.size:=E5 (B6.1 hk).1 hl;have hg:c[k]?=some c[k]:=E8 hlt;refine⟨?_,?_⟩;·simp[World.cell?,hb,hg]
  grind
 have one:∀ k:Nat,(c[k]?.getD (Value.bool false)).oneCell'=true:=λk=>by
  cases hk:c[k]? with
  | none=>rfl
  | some v=>grind
 induction hf with
 | same v=>grind
 | sl off s len rows hl' hs h =>
   intro v hv;cases hv with
   | sl _ _ _ _ cap c' e' fr' hb' hcap hlen =>
     subst hl';exact .fs rows b off s cap (λi j=>c[off+i*s+j]?.getD (Value.bool false)) hlen hF hs (λi r j x h1 h2=>(cell _ x (h i r j x h1 h2)).1) (λi j=>one _) (λi r j x h1 h2=>(cell _ x (h i r j x h1 h2)).2)
 | pt off s i o rows hs h =>
   intro v hv;cases hv with
   | pt =>
     exact .fp rows i o b off s (λi j=>c[off+i*s+j]?.getD (Value.bool false)) hF hs (λi r j x h1 h2=>(cell _ x (h i r j x h1 h2)).1) (λi j=>one _) (λi r j x h1 h2=>(cell _ x (h i r j x h1 h2)).2)
 | agg xs ys hl' h ih =>
   intro v hv;cases hv with
   | agg _ vs h1 h2 h3 =>
     refine .agg _ _ (hl'.symm.trans h1) h2 λi x v hx hv=>?_
     grind
 | tup xs ys hl' h ih =>
   intro v hv;cases hv with
   | tup _ vs h1 h3 =>
     refine .tup _ _ (hl'.symm.trans h1) λi x v hx hv=>?_
     grind
 | fn f xs ys xs' ys' hl1 h1 hl2 h2 ih1 ih2 =>
   intro v hv;cases hv with
   | fn _ _ _ fv cv k1 k2 k3 k4 =>
     refine .fn _ _ _ _ _ (hl1.symm.trans k1) (hl2.symm.trans k2) (λi x v hx hv=>?_) (λi x v hx hv=>?_);all_goals grind
inductive FzB(b:Nat)(cs:List AV):ABlk->ABlk->Prop where
 | same (x:ABlk):FzB b cs x x
 | cells (p:Bool) (xs ys:List AV) (hl:xs.length=ys.length) (h:∀(i:Nat)(x y:AV),xs[i]?=some x->ys[i]?=some y->Fz b cs x y):FzB b cs (.cells p xs) (.cells p ys)
 | map (p:Bool) (xs ys:List (AV×AV)) (hl:xs.length=ys.length) (h:∀(i:Nat)(x y:AV×AV),xs[i]?=some x->ys[i]?=some y->Fz b cs x.1 y.1/\Fz b cs x.2 y.2):FzB b cs (.map p xs) (.map p ys)
theorem Shift.freeze{b:Nat}{wr:Bool}{cs:List AV}{env':aJ}{H':Hp}(hb:H b=some (.cells wr cs))(he:∀ k,Fz b cs (env k) (env' k))(hb':H' b=none)
 (hH:∀ c,c≠b->H' c=none\/∃ x y,H c=some x/\H' c=some y/\FzB b cs x y):Shift env H env' H':=by
 intro F w a st re;obtain⟨o,h1,h2⟩:=st.blk b _ hb;cases h2 with
 | cells _ _ c e fr hfr hl ho hc =>
   have hu:Up F w (λx=>F x\/x=b) w:=⟨λ_ h=>.inl h,λ_ _=>rfl,λb c e fr h=>⟨c,e,fr,h,rfl⟩,B5 _⟩;have hc':∀(i:Nat)(a:AV)(v:Value),cs[i]?=some a->c[i]?=some v->Rv (λx=>F x\/x=b) w a v:=λi a v h1 h2=>(hc i a v h1 h2).up hu;have rv:∀{x y:AV}{v:Value},Fz b cs x y->Rv F w x v->Rv (λx=>F x\/x=b) w y v:=λhf h=>Rv.fz hf h1 (.inr rfl) hl ho hc' (h.up hu);refine⟨λx=>F x\/x=b,⟨λ_ h=>.inl h,λx hx=>?_,λx hx=>?_,λx hx=>?_,B5 _,λ_ _ _=>rfl,λb c e fr h=>⟨c,e,fr,h,rfl⟩,SameIO.refl w⟩,⟨λx hx=>?_,λx y hx hF=>?_,λx y hx=>?_⟩,⟨λk=>rv (he k) (re.rv k),re.gi.up hu⟩⟩;·grind
   .grind
   .by_cases hxb:x=b
    .subst hxb;simp[wE,hb']at hx
    .rcases hH x hxb with h|⟨y,z,h3,h4,h5⟩
     .simp[wE,h]at hx
     .left
      simp only[wE,h3,h4]at hx ⊢;cases h5<;>exact hx
   .rcases hx with hx|rfl
    .exact st.lt x hx
    grind
   .by_cases hxb:x=b
    .grind
    .rcases hH x hxb with h|⟨y',z,h3,h4,h5⟩
     .grind
     .rcases hF with hF|hF
      .exact st.dis x y' h3 hF
      omega
   .by_cases hxb:x=b
    .grind
    .rcases hH x hxb with h|⟨y',z,h3,h4,h5⟩
     .grind
     .rw[h4]at hx
      simp only[oSI]at hx;subst hx;obtain⟨o',k1,k2⟩:=st.blk x y' h3;refine⟨o',k1,?_⟩;cases h5 with
      | same=>exact k2.up hu
      | cells p xs ys hl' h =>
        cases k2 with
        | cells _ _ c' e' fr' hfr' hl'' ho' hc'' =>
          refine .cells _ _ _ _ _ hfr' AS ho' λi a v ha hv=>?_;have hlt:i<xs.length:=by grind
          have hg:xs[i]?=some xs[i]:=B7 hlt
          grind
      | map p xs ys hl' h =>
        cases k2 with
        | map _ _ m clock hl'' hm =>
          refine .map _ _ _ _ AS λi a v ha hv=>?_;have hlt:i<xs.length:=by grind
          have hg:xs[i]?=some xs[i]:=B7 hlt
          grind
variable{P:Program}{B:Base}{F:Nat->Prop}{w:World}{H:Hp}{env:aJ}{a:Act}{N:Nat}
theorem FnW.base{B':Base}{f:FuncId}{as:List AV}{Q:AV->Hp->Prop}(h:FnW B P f as H Q)(hB:B.Up B'.F B'.w):FnW B' P f as H Q :=
 ⟨h.1,λF w vs h1 h2 h3=>h.2 F w vs (Up.trans hB h1) h2 h3⟩
theorem CallV.base{B':Base}{fv:AV}{as:List AV}{Q:AV->Hp->Prop}(h:CallV B P fv as H Q)(hB:B.Up B'.F B'.w):CallV B' P fv as H Q:=by
 unfold CallV at *;split at h;·exact FnW.base h hB
 .exact λF w vs h1 h2 h3=>h F w vs (Up.trans hB h1) h2 h3
 omega
def sK(env:aJ):List Nat->List AV->aJ
 | p::ps,v::vs=>sK (upd env p v) ps vs
 | _,_=>env
theorem aLr:∀(ps:List Nat)(as:List AV)(vs:List Value)(env:aJ)(t:Array Value),as.length=vs.length->(∀(i:Nat)(a:AV)(v:Value),as[i]?=some a->vs[i]?=some v->Rv F w a v)->(∀ p∈ps,p<t.size) ->
 RE F w env { tmps:=t,defers:=[] }->RE F w (sK env ps as) { tmps:=(ps.zip vs).foldl (λt p=>t.setIfInBounds p.1 p.2) t,defers:=[] }/\((ps.zip vs).foldl (λt p=>t.setIfInBounds p.1 p.2) t).size=t.size:=by
 intro ps;induction ps with
 | nil=>simp[sK]
 | cons p ps ih =>
   intro as vs env t hl hv hp re;cases as with
   | nil=>cases vs with
     | nil=>exact⟨re,rfl⟩
     | cons v vs=>simp at hl
   | cons a as=>cases vs with
     | nil=>simp at hl
     | cons v vs =>
       have h1:RE F w (upd env p a) { tmps:=t.setIfInBounds p v,defers:=[] }:=by
        have:=RE.put (d:=some p) re (hv 0 a v rfl rfl) (λk hk=>by simp_all);exact this
       obtain⟨h2,h3⟩:=ih as vs (upd env p a) (t.setIfInBounds p v) (by grind) (λi a v h1 h2=>hv (i+1) a v (by grind) (by grind)) (λp hp'=>by grind) h1;exact⟨h2,by simpa using h3⟩
theorem aGf(ps:Array Tmp)(vs:Array Value)(t:Array Value):(ps.zip vs).foldl (λt (p:Tmp×Value)=>t.setIfInBounds p.1 p.2) t=(ps.toList.zip vs.toList).foldl (λt p=>t.setIfInBounds p.1 p.2) t:=by
 grind [Array.toList_zip]
def aPC(l:Nat)(oR oB:Obj)(oD:Code->Obj)(Q':AV->Hp->Prop):QC:=λe _ H3=>H3 l=some (.obj true oB)/\match e with
 | .normal=>Q' (.bool true) (hset H3 l (.obj true oR))
 | .ret=>Q' (.bool false) (hset H3 l (.obj true (oD .ret)))
 | .exit id=>Q' (.bool false) (hset H3 l (.obj true (oD (.exit id))))
def aPB(l:Nat)(oR:Obj)(oD:Code->Obj)(Q:QC)(env:aJ):AV->Hp->Prop:=λ_ H' =>
 (H' l=some (.obj true oR)/\Q .normal env (pP H' l))\/(H' l=some (.obj true (oD .ret))/\Q .ret env (pP H' l))\/∃ id,H' l=some (.obj true (oD (.exit id)))/\Q (.exit id) env (pP H' l)
theorem oT(H:Hp)(b:Nat)(x:ABlk):∀ c y,pP H b c=some y->hset H b x c=some y:=by
 simp_all [pP,hset]
theorem mZ{l:Nat}{o o':Obj}(st:St F w H)(hl:H l=some (.obj true o))(hc:o.isCells=false):Ext F w H F (w.putObj l o') (hset H l (.obj true o'))/\St F (w.putObj l o') (hset H l (.obj true o'))/\w.heap[l]?=some o:=by
 obtain⟨o1,h1,h2⟩:=st.blk l _ hl;cases h2 with
 | obj => 
   have:=nE (w':=w.putObj l o') (y:=.obj true o') (o':=o') st hl rfl h1 rfl ⟨rfl,rfl,rfl⟩ (λc e fr h=>by subst h;simp[Obj.isCells]at hc) (λF' w' _=>.obj true o')
   grind
theorem W.rng{g:Operand}{f':AO}{ps:Array Tmp}{assign body:Code}{Q:QC}{gf:FuncId}{first cap:List AV}(hg:co g=some f')(hev:aK env f' = .fn (.func gf) first cap)(hps:∀ p∈ps.toList,p<N)
 (h:∀(B':Base)(l:Nat)(oR oB:Obj)(oD:Code->Obj),B.Up B'.F B'.w->H l=none->B.w.heap.size<=l->l<B'.w.heap.size->(∃ q,oB = .loop q) ->
  (∀(B1:Base),B'.Up B1.F B1.w->∀(as:List AV)(H':Hp)(Q':AV->Hp->Prop),H' l=some (.obj true oR)->as.length=ps.size ->
   W B1 P (some l) N assign (λe env2 H2=>e = .normal/\H2 l=some (.obj true oR)/\W B1 P (some l) N body (aPC l oR oB oD Q') env2 (hset H2 l (.obj true oB))) (sK env ps.toList as) H'->YW B1 P l as H' Q') ->
  FnW B' P gf (first++[.fn (.yield l) [] []]++cap) (hset H l (.obj true oR)) (aPB l oR oD Q env)):W B P none N (.rangeFunc g ps assign body) Q env H:=by
 intro F w a n0 T hB hn0 hsz st re mk;refine wpIn_rangeFunc ?_;intro fn _;obtain⟨rec,hrec⟩:∃ rec:LoopState->Option Code->Loop,rec=λst pe=>{ state:=st,pending:=pe,fn,tmps:=a.tmps,params:=ps,assign,body,defers:=w.heap.size }:=⟨_,rfl⟩;have e0:=oU (x:=.obj true (.deferred (some []))) (o:=.deferred (some [])) st (.obj _ _) st.size_none;have hD0:H w.heap.size=none:=by
  cases hx:H w.heap.size with
  | none=>rfl
  | some x=>exact absurd rfl (st.size_none _ (by simp[hx]))
 have hf0:∀ b x,H b=some x->hset H w.heap.size (.obj true (.deferred (some []))) b=some x:=λb x hb=>by
  grind [aL]
 have E0:Ext F w H F (w.alloc (.deferred (some []))) H:=e0.1.forget hf0;have S0:St F (w.alloc (.deferred (some []))) H:=e0.2.forget hf0;have e1:=oU (x:=.obj true (.loop (rec .ready none))) (o:=.loop (rec .ready none)) S0 (.obj _ _) S0.size_none;rw[World.size_alloc]at e1;obtain⟨W1,hW1⟩:∃ W1,(w.alloc (.deferred (some []))).alloc (.loop (rec .ready none))=W1:=⟨_,rfl⟩;rw[hW1]at e1;obtain⟨E1,S1⟩:=e1;have E01:=E0.trans E1;obtain⟨l,hl⟩:∃ l,w.heap.size+1=l:=⟨_,rfl⟩;rw[hl]at E1 S1 E01;have hlH:H l=none:=by
  cases hx:H l with
  | none=>rfl
  | some x=>exact absurd (st.own_lt hx) AS
 have hW1D:W1.heap[w.heap.size]?=some (.deferred (some [])):=by
  rw[<-hW1];show ((w.heap.push _).push _)[w.heap.size]?=_
  grind
 have hB1:B.Up F W1:=hB.step st E01;have re1:RE F W1 env a:=re.up (E01.up st);have hW1s:W1.heap.size=w.heap.size+2:=by rw[<-hW1];simp
 have hcall:=h ⟨F,W1,re1.gi⟩ l (.loop (rec .ready none)) (.loop (rec .busy none)) (λc=>.loop (rec .done (some c))) hB1 hlH (by have:=hB.le;omega) (by grind) ⟨_,rfl⟩ ?_
 .have hgv:=bM re1 hg
  rw[hev]at hgv;obtain⟨vg,hvg⟩:∃ v,a.eval g=v:=⟨_,rfl⟩;rw[hvg]at hgv;cases hgv with
  | fn _ _ _ fv cv k1 k2 k3 k4 =>
    have hA:Args F W1 (first++[.fn (.yield l) [] []]++cap) (fv ++ #[.func (.yield l) #[] #[]]++cv) :=
     fE (fE ⟨k1,k3⟩ ⟨rfl,λi x v hx hv=>by
      cases i with
      | zero=>simp at hx hv;subst hx hv;exact .fn _ _ _ _ _ rfl rfl (by simp) (by simp)
      | succ i=>simp at hx⟩) ⟨k2,k4⟩
    have hc:=hcall.2 F W1 _ (Up.refl _ _) S1 hA
    refine⟨l,[{ target:=.collected w.heap.size,args := #[] }],W1,{ target:=.fn (.func gf) cv,args:=fv ++ #[.func (.yield l) #[] #[]] },W1,gf,
     fv ++ #[.func (.yield l) #[] #[]]++cv,W1,?_,?_,?_,?_,?_,?_⟩
    .rw[<-hW1,hrec,<-hl];exact run_enterLoop_outer _ _ _ _ _
    .simp only[resolve,hvg]
     simp[go_sem,Deferred.ofValue]
    .exact λ_ _=>trivial
    .simp only[invoke]
     exact hcall.1 _ _
    .exact λh=>by simp[FW,Fence.wide]at h
    .have hc':CallsIn (FW none) (0-1) P gf (fv ++ #[.func (.yield l) #[] #[]]++cv) W1 (yD F W1 (hset H l (.obj true (.loop (rec .ready none)))) (aPB l (.loop (rec .ready none)) (λc=>.loop (rec .done (some c))) Q env)):=hc
     refine CallsIn.mono hc' ?_;rintro e W2 ⟨rv,v,F2,H2,rfl,l1,l2,l3,l4⟩
     have fin:∀(o:Obj)(st':LoopState)(pe:Option Code),o = .loop (rec st' pe)->st' ≠ .busy->H2 l=some (.obj true o)->∃ w4,(Instr.endLoop l).run P W2 = .ok pe w4/\Ext F w H F2 w4 (pP H2 l)/\St F2 w4 (pP H2 l) /\
      RE F2 w4 env a/\Mk n0 T F2 (pP H2 l) w4 ({ target:=.collected w.heap.size,args := #[] }::a.defers):=by
      intro o st' pe ho hst hHl;subst ho;obtain⟨m1,m2,m3⟩:=mZ (o':=.loop { rec st' pe with state:=.exhausted }) l2 hHl (by rfl);have hrun:=run_endLoop (P:=P) m3 (by grind);have M1:=E01.trans (l1.trans m1);have M2:=M1.forget (oT H2 l _);refine⟨_,by grind,M2,m2.forget (oT H2 l _),re.up (M1.up st),?_⟩;have mk0:Mk n0 T F (hset H l (.obj true (.loop (rec .ready none)))) W1 ({ target:=.collected w.heap.size,args := #[] }::a.defers):=by
       refine mk.cons (λd hd e=>?_) E01 ⟨w.heap.size,rfl,hn0,hW1D,λhF=>absurd (st.lt _ hF) AS,by grind [aL]⟩;obtain⟨D,q1,_,q3,_⟩:=hd
       grind
      exact(mk0.ext (l1.trans m1)).sub (oT H2 l _)
     rcases l4 with ⟨q1,q2⟩|⟨q1,q2⟩|⟨id,q1,q2⟩
     .obtain⟨w4,r1,r2,r3,r4,r5⟩:=fin _ .ready none rfl (by simp) q1
      exact⟨none,w4,r1,.normal,env,F2,_,rfl,hsz,r2,r3,r4,r5,q2⟩
     .obtain⟨w4,r1,r2,r3,r4,r5⟩:=fin _ .done (some .ret) rfl (by simp) q1
      exact⟨some .ret,w4,r1,wpIn_ret ⟨.ret,env,F2,_,rfl,hsz,r2,r3,r4,r5,q2⟩⟩
     .obtain⟨w4,r1,r2,r3,r4,r5⟩:=fin _ .done (some (.exit id)) rfl (by simp) q1
      exact⟨some (.exit id),w4,r1,wpIn_exit ⟨.exit id,env,F2,_,rfl,hsz,r2,r3,r4,r5,q2⟩⟩
 ·-- a round
  intro B1 hB1' as H' Q' hHl hlen hass F2 w2 vs hB2' st2 hA;have hB2:Up F W1 F2 w2:=Up.trans hB1' hB2';obtain⟨m1,_,m3⟩:=mZ (o':=.loop (rec .ready none)) st2 hHl (by rfl);have hsize:vs.size=ps.size:=by rw[<-hlen];exact hA.1.symm
  have hy:=run_yield (P:=P) (args:=vs) m3 (by grind);have hre:RE F2 w2 env { tmps:=a.tmps,defers:=[] }:=re1.up hB2;obtain⟨p1,p2⟩:=aLr ps.toList as vs.toList env a.tmps (by grind) (λi x v hx hv=>hA.2 i x v hx (by grind)) (λp hp=>by grind) hre;rw[<-aGf]at p1 p2;rw[hrec]at hy;refine⟨fn,_,assign,body,hy,roundIn_of_wpIn (by trivial) ?_⟩;refine wpIn_mono (hass F2 w2 { tmps:=_,defers:=[] } w2.heap.size [] hB2' (B5 _) (p2.trans hsz) st2 p1 Mk.nil) ?_;rintro e a3 w3 ⟨x,env3,F3,H3,q1,q2,q3,q4,q5,q6,q7,q8,q9⟩;subst q7;cases e with
  | normal =>
    obtain⟨s1,s2,s3⟩:=mZ (o':=.loop (rec .busy none)) q4 q8 (by rfl);refine⟨_,run_beginRound s3 (by rw[hrec]),?_⟩;have hbusy:({ rec .ready none with state:=.busy }:Loop)=rec .busy none:=by rw[hrec]
    rw[hbusy];have E3:=q3.trans s1;refine wpIn_mono (q9 F3 _ a3 w2.heap.size [] (Base.Up.step (B:=B1) hB2' st2 E3) E3.le q2 s2 (q5.up (s1.up q4)) (q6.ext s1)) ?_;rintro e a4 w4 ⟨x,env4,F4,H4,t1,t2,t3,t4,t5,t6,t7,t8⟩
    have fin:∀(jump:Option Code)(o:Obj),o = .loop (rec (if jump.isNone then .ready else .done) jump)->Q' (.bool jump.isNone) (hset H4 l (.obj true o)) ->
     ∃ v w',(Instr.endRound l jump).run P w4 = .ok v w'/\yD F2 w2 H' Q' (.returned v) w':=by
     intro jump o ho hQ;obtain⟨u1,u2,u3⟩:=mZ (o':=o) t4 t7 (by rfl);refine⟨_,_,run_endRound jump u3,_,.bool jump.isNone,F4,hset H4 l (.obj true o),rfl,?_,?_,.bool _,hQ⟩
     .have:({ rec .busy none with state:=if jump.isNone then .ready else .done,pending:=jump }:Loop)=rec (if jump.isNone then .ready else .done) jump:=by rw[hrec]
      rw[this,<-ho];exact E3.trans (t3.trans u1)
     grind
    cases e with
    | normal=>simp only at t1;subst t1;exact fin none _ rfl t8
    | ret=>simp only at t1;subst t1;exact fin (some .ret) _ rfl t8
    | exit id=>simp only at t1;subst t1;exact fin (some (.exit id)) _ rfl t8
    | goto l=>grind
    | panic c=>grind
    | outgrown=>grind
  | exit id=>simp at q1
  | ret=>simp at q1
  | goto l=>grind
  | panic c=>grind
  | outgrown=>grind
theorem W.rngIn{l0:Nat}{r0:Loop}(hl0:H l0=some (.obj true (.loop r0))){g:Operand}{f':AO}{ps:Array Tmp}{assign body:Code}{Q:QC}{gf:FuncId}{first cap:List AV}(hg:co g=some f')(hev:aK env f' = .fn (.func gf) first cap)(hps:∀ p∈ps.toList,p<N)
 (h:∀(B':Base)(l:Nat)(oR oB:Obj)(oD:Code->Obj),B.Up B'.F B'.w->H l=none->B.w.heap.size<=l->l<B'.w.heap.size->(∃ q,oB = .loop q) ->
  (∀(B1:Base),B'.Up B1.F B1.w->∀(as:List AV)(H':Hp)(Q':AV->Hp->Prop),H' l=some (.obj true oR)->as.length=ps.size ->
   W B1 P (some l) N assign (λe env2 H2=>e = .normal/\H2 l=some (.obj true oR)/\W B1 P (some l) N body (aPC l oR oB oD Q') env2 (hset H2 l (.obj true oB))) (sK env ps.toList as) H'->YW B1 P l as H' Q') ->
  FnW B' P gf (first++[.fn (.yield l) [] []]++cap) (hset H l (.obj true oR)) (aPB l oR oD Q env)):W B P (some l0) N (.rangeFunc g ps assign body) Q env H:=by
 intro F w a n0 T hB hn0 hsz st re mk;refine wpIn_rangeFunc ?_;intro fn _;obtain⟨rec,hrec⟩:∃ rec:LoopState->Option Code->Loop,rec=λst pe=>{ state:=st,pending:=pe,fn,tmps:=a.tmps,params:=ps,assign,body,defers:=r0.defers }:=⟨_,rfl⟩;have hw0:w.heap[l0]?=some (.loop r0):=by
  obtain⟨o1,h1,h2⟩:=st.blk l0 _ hl0;cases h2 with
  | obj=>exact h1
 have e1:=oU (x:=.obj true (.loop (rec .ready none))) (o:=.loop (rec .ready none)) st (.obj _ _) st.size_none;obtain⟨W1,hW1⟩:∃ W1,w.alloc (.loop (rec .ready none))=W1:=⟨_,rfl⟩;rw[hW1]at e1;obtain⟨E1,S1⟩:=e1;obtain⟨l,hl⟩:∃ l,w.heap.size=l:=⟨_,rfl⟩;rw[hl]at E1 S1;have E01:=E1;have hlH:H l=none:=by
  cases hx:H l with
  | none=>rfl
  | some x=>exact absurd (st.own_lt hx) AS
 have hB1:B.Up F W1:=hB.step st E01;have re1:RE F W1 env a:=re.up (E01.up st);have hW1s:W1.heap.size=w.heap.size+1:=by rw[<-hW1];simp
 have hcall:=h ⟨F,W1,re1.gi⟩ l (.loop (rec .ready none)) (.loop (rec .busy none)) (λc=>.loop (rec .done (some c))) hB1 hlH (by have:=hB.le;omega) (by grind) ⟨_,rfl⟩ ?_
 .have hgv:=bM re1 hg
  rw[hev]at hgv;obtain⟨vg,hvg⟩:∃ v,a.eval g=v:=⟨_,rfl⟩;rw[hvg]at hgv;cases hgv with
  | fn _ _ _ fv cv k1 k2 k3 k4 =>
    have hA:Args F W1 (first++[.fn (.yield l) [] []]++cap) (fv ++ #[.func (.yield l) #[] #[]]++cv) :=
     fE (fE ⟨k1,k3⟩ ⟨rfl,λi x v hx hv=>by
      cases i with
      | zero=>simp at hx hv;subst hx hv;exact .fn _ _ _ _ _ rfl rfl (by simp) (by simp)
      | succ i=>simp at hx⟩) ⟨k2,k4⟩
    have hc:=hcall.2 F W1 _ (Up.refl _ _) S1 hA
    refine⟨l,[],W1,{ target:=.fn (.func gf) cv,args:=fv ++ #[.func (.yield l) #[] #[]] },W1,gf,
     fv ++ #[.func (.yield l) #[] #[]]++cv,W1,?_,?_,?_,?_,?_,?_⟩
    .rw[<-hW1,hrec,<-hl];exact run_enterLoop_inner hw0 _ _ _ _ _
    .simp only[resolve,hvg]
     simp[go_sem,Deferred.ofValue]
    .exact λ_ _=>trivial
    .simp only[invoke]
     exact hcall.1 _ _
    .exact λh=>by simp[FW,Fence.wide]at h
    .have hc':CallsIn (FW none) (0-1) P gf (fv ++ #[.func (.yield l) #[] #[]]++cv) W1 (yD F W1 (hset H l (.obj true (.loop (rec .ready none)))) (aPB l (.loop (rec .ready none)) (λc=>.loop (rec .done (some c))) Q env)):=hc
     refine CallsIn.mono hc' ?_;rintro e W2 ⟨rv,v,F2,H2,rfl,l1,l2,l3,l4⟩
     have fin:∀(o:Obj)(st':LoopState)(pe:Option Code),o = .loop (rec st' pe)->st' ≠ .busy->H2 l=some (.obj true o)->∃ w4,(Instr.endLoop l).run P W2 = .ok pe w4/\Ext F w H F2 w4 (pP H2 l)/\St F2 w4 (pP H2 l) /\
      RE F2 w4 env a/\Mk n0 T F2 (pP H2 l) w4 a.defers:=by
      intro o st' pe ho hst hHl;subst ho;obtain⟨m1,m2,m3⟩:=mZ (o':=.loop { rec st' pe with state:=.exhausted }) l2 hHl (by rfl);have hrun:=run_endLoop (P:=P) m3 (by grind);have M1:=E01.trans (l1.trans m1);have M2:=M1.forget (oT H2 l _);refine⟨_,by grind,M2,m2.forget (oT H2 l _),re.up (M1.up st),?_⟩;have mk0:=mk.ext E01;exact(mk0.ext (l1.trans m1)).sub (oT H2 l _)
     rcases l4 with ⟨q1,q2⟩|⟨q1,q2⟩|⟨id,q1,q2⟩
     .obtain⟨w4,r1,r2,r3,r4,r5⟩:=fin _ .ready none rfl (by simp) q1
      exact⟨none,w4,r1,.normal,env,F2,_,rfl,hsz,r2,r3,r4,r5,q2⟩
     .obtain⟨w4,r1,r2,r3,r4,r5⟩:=fin _ .done (some .ret) rfl (by simp) q1
      exact⟨some .ret,w4,r1,wpIn_ret ⟨.ret,env,F2,_,rfl,hsz,r2,r3,r4,r5,q2⟩⟩
     .obtain⟨w4,r1,r2,r3,r4,r5⟩:=fin _ .done (some (.exit id)) rfl (by simp) q1
      exact⟨some (.exit id),w4,r1,wpIn_exit ⟨.exit id,env,F2,_,rfl,hsz,r2,r3,r4,r5,q2⟩⟩
 ·-- a round
  intro B1 hB1' as H' Q' hHl hlen hass F2 w2 vs hB2' st2 hA;have hB2:Up F W1 F2 w2:=Up.trans hB1' hB2';obtain⟨m1,_,m3⟩:=mZ (o':=.loop (rec .ready none)) st2 hHl (by rfl);have hsize:vs.size=ps.size:=by rw[<-hlen];exact hA.1.symm
  have hy:=run_yield (P:=P) (args:=vs) m3 (by grind);have hre:RE F2 w2 env { tmps:=a.tmps,defers:=[] }:=re1.up hB2;obtain⟨p1,p2⟩:=aLr ps.toList as vs.toList env a.tmps (by grind) (λi x v hx hv=>hA.2 i x v hx (by grind)) (λp hp=>by grind) hre;rw[<-aGf]at p1 p2;rw[hrec]at hy;refine⟨fn,_,assign,body,hy,roundIn_of_wpIn (by trivial) ?_⟩;refine wpIn_mono (hass F2 w2 { tmps:=_,defers:=[] } w2.heap.size [] hB2' (B5 _) (p2.trans hsz) st2 p1 Mk.nil) ?_;rintro e a3 w3 ⟨x,env3,F3,H3,q1,q2,q3,q4,q5,q6,q7,q8,q9⟩;subst q7;cases e with
  | normal =>
    obtain⟨s1,s2,s3⟩:=mZ (o':=.loop (rec .busy none)) q4 q8 (by rfl);refine⟨_,run_beginRound s3 (by rw[hrec]),?_⟩;have hbusy:({ rec .ready none with state:=.busy }:Loop)=rec .busy none:=by rw[hrec]
    rw[hbusy];have E3:=q3.trans s1;refine wpIn_mono (q9 F3 _ a3 w2.heap.size [] (Base.Up.step (B:=B1) hB2' st2 E3) E3.le q2 s2 (q5.up (s1.up q4)) (q6.ext s1)) ?_;rintro e a4 w4 ⟨x,env4,F4,H4,t1,t2,t3,t4,t5,t6,t7,t8⟩
    have fin:∀(jump:Option Code)(o:Obj),o = .loop (rec (if jump.isNone then .ready else .done) jump)->Q' (.bool jump.isNone) (hset H4 l (.obj true o)) ->
     ∃ v w',(Instr.endRound l jump).run P w4 = .ok v w'/\yD F2 w2 H' Q' (.returned v) w':=by
     intro jump o ho hQ;obtain⟨u1,u2,u3⟩:=mZ (o':=o) t4 t7 (by rfl);refine⟨_,_,run_endRound jump u3,_,.bool jump.isNone,F4,hset H4 l (.obj true o),rfl,?_,?_,.bool _,hQ⟩
     .have:({ rec .busy none with state:=if jump.isNone then .ready else .done,pending:=jump }:Loop)=rec (if jump.isNone then .ready else .done) jump:=by rw[hrec]
      rw[this,<-ho];exact E3.trans (t3.trans u1)
     grind
    cases e with
    | normal=>simp only at t1;subst t1;exact fin none _ rfl t8
    | ret=>simp only at t1;subst t1;exact fin (some .ret) _ rfl t8
    | exit id=>simp only at t1;subst t1;exact fin (some (.exit id)) _ rfl t8
    | goto l=>grind
    | panic c=>grind
    | outgrown=>grind
  | exit id=>simp at q1
  | ret=>simp at q1
  | goto l=>grind
  | panic c=>grind
  | outgrown=>grind
theorem WD.rng{r:Option Nat}{f':AO}{ps:List Nat}{assign body:DCode}{Q:QC}{gf:FuncId}{first cap:List AV}(hr:r=none\/∃ l0 r0,r=some l0/\H l0=some (.obj true (.loop r0)))(hev:aK env f' = .fn (.func gf) first cap)
 (h:∀(B':Base)(l:Nat)(oR oB:Obj)(oD:Code->Obj),B.Up B'.F B'.w->H l=none->B.w.heap.size<=l->l<B'.w.heap.size->(∃ q,oB = .loop q) ->
  (∀(B1:Base),B'.Up B1.F B1.w->∀(as:List AV)(H':Hp)(Q':AV->Hp->Prop),H' l=some (.obj true oR)->as.length=ps.length ->
   WD B1 P (some l) N assign (λe env2 H2=>e = .normal/\H2 l=some (.obj true oR)/\WD B1 P (some l) N body (aPC l oR oB oD Q') env2 (hset H2 l (.obj true oB))) (sK env ps as) H'->YW B1 P l as H' Q') ->
  FnW B' P gf (first++[.fn (.yield l) [] []]++cap) (hset H l (.obj true oR)) (aPB l oR oD Q env)):WD B P r N (.rng f' ps assign body) Q env H:=by
 intro c hc;cases c<;>simp only[eS]at hc
 case rangeFunc g qs x y =>
  split at hc
  .rename_i g' x' y' hg hx hy
   split at hc
   .rename_i hall
    simp only[oSI,DCode.rng.injEq]at hc;obtain⟨rfl,rfl,rfl,rfl⟩:=hc;have hps:∀ p∈qs.toList,p<N:=λp hp=>by grind
    have h':=λ(B':Base) (l:Nat) (oR oB:Obj) (oD:Code->Obj) (h1:B.Up B'.F B'.w) (h2:H l=none) (h3:B.w.heap.size<=l) (h3':l<B'.w.heap.size) (h4:∃ q,oB = .loop q)
     (hround:∀(B1:Base),B'.Up B1.F B1.w->∀(as:List AV)(H':Hp)(Q':AV->Hp->Prop),H' l=some (.obj true oR)->as.length=qs.size ->
      W B1 P (some l) N x (λe env2 H2=>e = .normal/\H2 l=some (.obj true oR)/\W B1 P (some l) N y (aPC l oR oB oD Q') env2 (hset H2 l (.obj true oB))) (sK env qs.toList as) H'->YW B1 P l as H' Q') =>
     h B' l oR oB oD h1 h2 h3 h3' h4 λB1 hB1 as H' Q' h5 h6 h7=>hround B1 hB1 as H' Q' h5 AS ((h7 x hx).mono λe env2 H2 ⟨k1,k2,k3⟩=>⟨k1,k2,k3 y hy⟩)
    rcases hr with rfl|⟨l0,r0,rfl,hl0⟩;·exact W.rng hg hev hps h'
    .exact W.rngIn hl0 hg hev hps h'
   .simp at hc
  .simp at hc
 all_goals exfalso;first|(simp at hc;done)|grind
variable{P:Program}{B:Base}{H:Hp}{env:aJ}{r:Option Nat}{N:Nat}{Q:QC}
theorem CallV.fn{f:FuncId}{first cap as:List AV}{Q Q':AV->Hp->Prop}(h:FnW B P f (first++as++cap) H Q')(hq:∀ v H',Q' v H'->Q v H'):CallV B P (.fn (.func f) first cap) as H Q :=
 CallV.mono (fv:=.fn (.func f) first cap) h hq
theorem aQb(ix:Nat)(d:Option Nat)(op:DOp)(K:aJ->Hp->Prop)(env:aJ)(H:Hp):opW B P ⟨ix,d,op,none⟩ K env H=iR B P d op K env H:=rfl
theorem WD.regD{l:List DOper}(hm:P.follows .mixedOrders=true)(h:∀ K:aJ->Hp->Prop,(∀ e h,Q .normal e h->K e h)->RD B P l K env H noL):WD B P r N (.reg true l) Q env H :=
 WD.reg hm (h _ λ_ _ h=>h)
theorem FnW.shift{f:FuncId}{as:List AV}{Q:AV->Hp->Prop}(h:FnW B P f as H λv H'=>∃ v' H'',Shift (upd anyE 0 v) H' (upd anyE 0 v') H''/\Q v' H''):FnW B P f as H Q:=by
 refine⟨h.1,λF w vs h1 h2 h3=>(h.2 F w vs h1 h2 h3).mono ?_⟩;rintro e w' ⟨r,v,F',H',rfl,k1,k2,k3,v',H'',k4,k5⟩;obtain⟨F'',l1,l2,l3⟩:=k4 F' w' { tmps := #[r],defers:=[] } k2 ⟨λk=>by
  by_cases hk:k=0;·simp_all
  .simp only[upd,hk,AAd,anyE];exact .any _,(B.gi.up h1).up (k1.up h2)⟩
 have:=l3.rv 0;exact⟨r,v',F'',H'',rfl,k1.trans l1,l2,by simp_all,k5⟩
theorem FnW.forget{f:FuncId}{as:List AV}{Q:AV->Hp->Prop}(h:FnW B P f as H λv H'=>∃ H'',(∀ b x,H'' b=some x->H' b=some x)/\Q v H''):FnW B P f as H Q:=by
 refine FnW.shift ⟨h.1,λF w vs h1 h2 h3=>(h.2 F w vs h1 h2 h3).mono ?_⟩;rintro e w' ⟨r,v,F',H',rfl,k1,k2,k3,H'',k4,k5⟩;exact⟨r,v,F',H',rfl,k1,k2,k3,v,H'',Shift.forget k4,k5⟩
structure zH where
 wagon:ByteArray
 farmer:ByteArray
 net:Int
 void:Bool
structure CSt where
 farmers:List (ByteArray×Int)
 meters:List (ByteArray×Int×Int)
 pans:List (ByteArray×Int)
 wagons:List (ByteArray×Int)
 tickets:List zH
 closed:Nat
 book:List ByteArray
def aXw:List Nat:=[25,27,28,64,65,66,67,68,69,70,71,72,73,74,75,108,109,110,111,112,113,114,115,116]
def aMY(g:Nat):List Nat->Bool
 | []=>false
 | k::r=>if g=k then true else aMY g r
def lU(g:Nat):Bool:=aMY g aXw
inductive XCode where
 | skip
 | reg (fz:List (Nat×Bool)) (draw:Bool) (ops:List DOper)
 | seq (a b:XCode)
 | cond (c:AO) (a b:XCode)
 | block (id:Nat) (a:XCode)
 | loop (live:List Nat) (a:XCode)
 | scope (a:XCode)
 | rng (site:Nat) (live:List Nat) (f:AO) (ps:List Nat) (assign body:XCode)
 | exit (id:Nat)
 | ret
def XCode.erase:XCode->DCode
 | .skip=>.skip
 | .reg _ d ops=>.reg d ops
 | .seq a b=>.seq a.erase b.erase
 | .cond c a b=>.cond c a.erase b.erase
 | .block id a=>.block id a.erase
 | .loop _ a=>.loop a.erase
 | .scope a=>.scope a.erase
 | .rng _ _ f ps a b=>.rng f ps a.erase b.erase
 | .exit id=>.exit id
 | .ret=>.ret
inductive LSt where
 | ready
 | busy
 | done (x:DX)
inductive XB where
 | blk (g:Bool) (x:ABlk)
 | loop (K site:Nat) (vs:List AV) (s:LSt)
 | gh (st:CSt) (p:Hp->Nat->Prop)
abbrev XH:=List (Option XB)
structure XFn where
 N:Nat
 res:List (Nat×Option (Bool×Nat))
 ownA:Bool
 ownR:Bool
 body:XCode
 dfr:Option (List DOper×Nat):=none
 prm:Option (List AV->List (Option XB)->Option (AV×List (Option XB))):=none
def XFn.fn(x:XFn):DFn:=⟨x.N,x.res,x.body.erase,x.dfr⟩
mutual
def kK:AV->List Nat
 | .agg cs=>mI cs
 | .tup vs=>mI vs
 | .sl b _ _ _=>[b]
 | .pt b _=>[b]
 | .mp b=>[b]
 | .sb b _=>[b]
 | .bp b=>[b]
 | .fn f first cap=>(match f with | .yield l=>[l]|_=>[])++(mI first++mI cap)
 | .ifc _ v=>kK v
 | _=>[]
def mI:List AV->List Nat
 | []=>[]
 | v::r=>kK v++mI r
end
mutual
def iD:AV->Bool
 | .agg cs=>lE cs
 | .tup vs=>lE vs
 | .sl .. | .pt .. | .mp _ | .sb .. | .bp _ | .any=>false
 | .fn f first cap=>(match f with | .yield _=>false|_=>true)&&(lE first&&lE cap)
 | .ifc _ v=>iD v
 | _=>true
def lE:List AV->Bool
 | []=>true
 | v::r=>iD v&&lE r
end
mutual
def gdA:AV->Bool
 | .agg cs=>gdL cs
 | .tup vs=>gdL vs
 | .fs rows=>gdR rows
 | .fp rows _ _=>gdR rows
 | .sl .. | .pt .. | .mp _ | .sb .. | .bp _ | .any=>false
 | .fn f first cap=>(match f with | .yield _=>false|_=>true)&&(gdL first&&gdL cap)
 | .ifc _ v=>gdA v
 | _=>true
def gdL:List AV->Bool
 | []=>true
 | v::r=>gdA v&&gdL r
def gdR:List (List AV)->Bool
 | []=>true
 | v::r=>gdL v&&gdR r
end
mutual
def rnA(s:Nat->Option Nat):AV->AV
 | .agg cs=>.agg (mR s cs)
 | .tup vs=>.tup (mR s vs)
 | .sl b o z n=>match s b with
   | some c=>.sl c o z n
   | none=>.any
 | .pt b o=>match s b with
   | some c=>.pt c o
   | none=>.any
 | .mp b=>match s b with
   | some c=>.mp c
   | none=>.any
 | .sb b n=>match s b with
   | some c=>.sb c n
   | none=>.any
 | .bp b=>match s b with
   | some c=>.bp c
   | none=>.any
 | .fn f first cap=>match f with
   | .yield l=>match s l with
     | some c=>.fn (.yield c) (mR s first) (mR s cap)
     | none=>.any
   | f=>.fn f (mR s first) (mR s cap)
 | .ifc t v=>.ifc t (rnA s v)
 | v=>v
def mR(s:Nat->Option Nat):List AV->List AV
 | []=>[]
 | v::r=>rnA s v::mR s r
end
mutual
def slN:AV->List Nat
 | .agg cs=>slL cs
 | .tup vs=>slL vs
 | .sl b _ _ _=>[b]
 | .ifc _ v=>slN v
 | _=>[]
def slL:List AV->List Nat
 | []=>[]
 | v::r=>slN v++slL r
end
def bK(cs:List AV)(off s:Nat):Nat->List (List AV)
 | 0=>[]
 | n+1=>(cs.drop off).take s::bK cs (off+s) s n
mutual
def xJ(b:Nat)(cs:List AV):AV->AV
 | .agg vs=>.agg (fzL b cs vs)
 | .tup vs=>.tup (fzL b cs vs)
 | .sl c o s n=>if c=b/\o+n*s<=cs.length then .fs (bK cs o s n) else .sl c o s n
 | .fn f first cap=>match f with
   | .yield l=>.fn (.yield l) first cap
   | f=>.fn f (fzL b cs first) (fzL b cs cap)
 | v=>v
def fzL(b:Nat)(cs:List AV):List AV->List AV
 | []=>[]
 | v::r=>xJ b cs v::fzL b cs r
end
mutual
def vN:AV->AV
 | .agg vs=>.agg (kI vs)
 | .tup vs=>.tup (kI vs)
 | .nilsl=>.fs []
 | v=>v
def kI:List AV->List AV
 | []=>[]
 | v::r=>vN v::kI r
end
mutual
def cP:AV->AV->Bool
 | .int k n,.int k' n'=>decide (k=k')&&decide (n=n')
 | .bool a,.bool b=>a==b
 | .str s,.str t=>s.data.toList==t.data.toList
 | .agg xs,.agg ys=>iY xs ys
 | .tup xs,.tup ys=>iY xs ys
 | .sl b o s n,.sl b' o' s' n'=>decide (b=b')&&(decide (o=o')&&(decide (s=s')&&decide (n=n')))
 | .pt b o,.pt b' o'=>decide (b=b')&&decide (o=o')
 | .mp b,.mp b'=>decide (b=b')
 | .nilsl,.nilsl=>true
 | .nilpt,.nilpt=>true
 | .nilmap,.nilmap=>true
 | .nilfn,.nilfn=>true
 | .nilifc,.nilifc=>true
 | .fn f xs us,.fn g ys vs=>decide (f=g)&&(iY xs ys&&iY us vs)
 | .fs xs,.fs ys=>aFI xs ys
 | _,_=>false
def iY:List AV->List AV->Bool
 | [],[]=>true
 | x::xs,y::ys=>cP x y&&iY xs ys
 | _,_=>false
def aFI:List (List AV)->List (List AV)->Bool
 | [],[]=>true
 | x::xs,y::ys=>iY x y&&aFI xs ys
 | _,_=>false
end
def aIq:Option XB->Option XB->Bool
 | some (.blk _ (.cells w xs)),some (.blk _ (.cells w' ys))=>w==w'&&iY xs ys
 | _,_=>false
def nmB:XB->List Nat
 | .blk false (.cells _ cs)=>mI cs
 | .blk false (.map _ es)=>es.flatMap λp=>kK p.1++kK p.2
 | .loop _ _ vs _=>mI vs
 | _=>[]
def nmO:Option XB->List Nat
 | some x=>nmB x
 | none=>[]
def rnB(s:Nat->Option Nat):XB->XB
 | .blk false (.cells w cs)=>.blk false (.cells w (mR s cs))
 | .blk false (.map w es)=>.blk false (.map w (es.map λp=>(rnA s p.1,rnA s p.2)))
 | .loop K site vs st=>.loop K site (mR s vs) st
 | x=>x
def rnO(s:Nat->Option Nat):Option XB->Option XB
 | some x=>some (rnB s x)
 | none=>none
def fzB(b:Nat)(cs:List AV):XB->XB
 | .blk false (.cells w vs)=>.blk (lE (fzL b cs vs)) (.cells w (fzL b cs vs))
 | .blk false (.map w es)=>.blk false (.map w (es.map λp=>(xJ b cs p.1,xJ b cs p.2)))
 | x=>x
def fzO(b:Nat)(cs:List AV):Option XB->Option XB
 | some x=>some (fzB b cs x)
 | none=>none
def hat(h:XH)(b:Nat):Option XB:=h.getD b none
def aH(h:XH):Hp:=λb=>match hat h b with
 | some (.blk _ x)=>some x
 | _=>none
def cW(h:XH)(k:Nat):Nat->List Nat->List Nat->List Nat
 | 0,_,acc=>acc
 | _+1,[],acc=>acc
 | n+1,b::r,acc=>if b<k\/b∈acc then cW h k n r acc else
   match hat h b with
   | none=>cW h k n r acc
   | some x=>cW h k n (nmB x++r) (acc++[b])
def yI:Nat:=4096
def gH(b:Nat):List Nat->Option Nat
 | []=>none
 | c::r=>if b=c then some 0 else (gH b r).map (· + 1)
def aY:List Nat->List AV->aJ
 | k::ks,v::vs=>λj=>if j=k then v else aY ks vs j
 | _,_=>anyE
def keepS(k:Nat)(acc:List Nat):Nat->Option Nat:=λb=>if b<k then some b else (gH b acc).map (· + k)
def dF:Nat->XH->XH
 | 0,_=>[]
 | n+1,[]=>none::dF n []
 | n+1,x::xs=>x::dF n xs
def oF(k:Nat)(acc:List Nat)(h:XH):XH:=(dF k h).map (rnO (keepS k acc))++acc.map λb=>rnO (keepS k acc) (hat h b)
def dH(k:Nat)(vs:List AV)(h:XH):List Nat:=cW h k yI (mI vs++(dF k h).flatMap nmO) []
def rQ(k:Nat)(L:List Nat)(e:aJ)(h:XH):aJ:=aY L (mR (keepS k (dH k (L.map e) h)) (L.map e))
def qB(k:Nat)(L:List Nat)(e:aJ)(h:XH):XH:=oF k (dH k (L.map e) h) h
def fz1(b:Nat)(e:aJ)(h:XH):aJ×XH:=match hat h b with
 | some (.blk true (.cells _ cs))=>(λj=>xJ b cs (e j),(h.map (fzO b cs)).set b none)
 | _=>(e,h)
def aBV:List Nat->aJ->XH->aJ×XH
 | [],e,h=>(e,h)
 | b::r,e,h=>aBV r (fz1 b e h).1 (fz1 b e h).2
def aVV(f:List Nat->List Nat)(b:Nat):Option XB->List Nat
 | some (.blk false (.cells _ cs))=>f (slL cs)++[b]
 | _=>[b]
def lI(h:XH):Nat->List Nat->List Nat
 | 0,l=>l
 | n+1,l=>l.flatMap λb=>aVV (lI h n) b (hat h b)
def aQQ(e:aJ)(h:XH):Nat×Bool->List Nat
 | (j,false)=>lI h 2 (slN (e j))
 | (j,true)=>match e j with
   | .pt b _=>match hat h b with
     | some (.blk false (.cells _ cs))=>lI h 2 (slL cs)
     | _=>[]
   | _=>[]
def nzE:List (Nat×Bool)->aJ->aJ
 | [],e=>e
 | (_,true)::r,e=>nzE r e
 | (k,false)::r,e=>λj=>if j=k then vN (nzE r e j) else nzE r e j
def aLf(v:AV)(h:XH):XH:=match v with
 | .sl b 0 s n=>match hat h b with
   | some (.blk g (.cells w cs))=>h.set b (some (.blk g (.cells w (cs.take (n*s)))))
   | _=>h
 | _=>h
def zI:List (Nat×Bool)->aJ->XH->XH
 | [],_,h=>h
 | (k,_)::r,e,h=>if 1000000<=k then aLf (e (k-1000000)) (zI r e h) else zI r e h
def aXz(fz:List (Nat×Bool))(e:aJ)(h:XH):aJ×XH:=(nzE fz (aBV (fz.flatMap (aQQ e h)) e h).1,(aBV (fz.flatMap (aQQ e h)) e h).2)
def fzX(fz:List (Nat×Bool))(e:aJ)(h:XH):aJ×XH:=aXz fz e (zI fz e h)
def lH(h:XH):AV->Bool
 | .sb b _=>match hat h b with
   | some (.blk g _)=>g
   | _=>false
 | .sl b _ _ _=>match hat h b with
   | some (.blk g _)=>g
   | _=>false
 | .any=>false
 | _=>true
def jQ(op:DOp)(e:aJ)(h:XH):Bool:=match op with
 | .alloc z=>lE z
 | .box x=>iD (aK e x)
 | .bslice _ _ z ps=>lE z&&ps.all λp=>iD (aK e p.2.2)
 | .mksl _ _ z _ _=>lE z
 | .mkmap=>true
 | .allocb=>true
 | .bytes _=>true
 | .rngs _=>true
 | .app _ _ x y=>lH h (aK e x)&&lH h (aK e y)
 | _=>false
def vV(h:XH)(own:Option Nat)(g:Bool)(x:ABlk):XH:=(match own with
 | some b=>h.set b none
 | none=>h)++[some (.blk g x)]
def qS(n:Nat)(h:XH)(p x:AV):Option XH:=match p with
 | .pt b o=>match hat h b,cellsOf x with
   | some (.blk g (.cells true cs)),some vs=>if vs.length=n/\o+n<=cs.length then some (h.set b (some (.blk (g&&lE vs) (.cells true (bJ cs o vs))))) else none
   | _,_=>none
 | _=>none
def wD(q:Bool)(h:XH)(m k x:AV):Option XH:=match m with
 | .mp b=>match hat h b with
   | some (.blk g (.map true es))=>(kU q k x es).map λes'=>h.set b (some (.blk (g&&(iD k&&iD x)) (.map true es')))
   | _=>none
 | _=>none
def aHX(h:XH)(x:AV):Option (AV×XH):=match x with
 | .pt b 0=>match hat h b with
   | some (.blk g (.obj true (.stringIter s pos)))=>if pos<s.size then some (.tup [.bool true,.int .i64 (pos:Int),.int .i32 (Utf8.decode s pos).1],h.set b (some (.blk g (.obj true (.stringIter s (pos+(Utf8.decode s pos).2)))))) else some (.tup [.bool false],h)
   | _=>none
 | _=>none
def aDe(s:Nat)(h:XH)(x y:AV):Option (Nat×XH):=match x,fX s (aH h) y with
 | .sl b o s' len,some (n,new)=>match hat h b with
   | some (.blk g (.cells true cs))=>if s'=s/\o+len*s<=cs.length then some (min n len,h.set b (some (.blk (g&&lH h y) (.cells true (bJ cs o (new.take (min n len*s))))))) else none
   | _=>none
 | _,_=>none
def roX:Option XB->Option XB
 | some (.blk g x)=>some (.blk g x.ro)
 | _=>none
abbrev fC:=Nat->List AV->XH->Option (AV×XH)
abbrev gR:=AV->List AV->XH->Option (AV×XH)
def iH(xs:List AV)(h:XH):List Nat:=cW h 0 yI (mI xs) []
def yK(b:Bool)(all:List AV)(h:XH):List Nat:=match b with
 | true=>(List.range h.length).filter λb=>(hat h b).isSome
 | false=>iH all h
def jB(fv:AV)(as:List AV)(h:XH):List Nat:=match fv with
 | .fn (.func g) first cap=>yK (lU g) (first++as++cap) h
 | v=>iH (v::as) h
def iU(acc:List Nat)(h:XH):XH:=acc.map λb=>rnO (λb=>gH b acc) (hat h b)
def iA(acc:List Nat)(n:Nat):Nat->Option Nat:=λi=>if i<acc.length then acc[i]? else some (n+(i-acc.length))
def aAG(h:XH):List Nat->XH->XH
 | b::bs,x::xs=>aAG (h.set b x) bs xs
 | _,_=>h
def jW(acc:List Nat)(h hl:XH):XH:=aAG h acc ((dF acc.length hl).map (rnO (iA acc h.length)))++(hl.drop acc.length).map (rnO (iA acc h.length))
def aBM(acc:List Nat)(h:XH)(r:AV×XH):AV×XH:=(rnA (iA acc h.length) r.1,jW acc h r.2)
def aGs(run:fC)(g:Nat)(all:List AV)(h:XH):Bool->Option (AV×XH)
 | true=>run g all h
 | false=>let acc:=iH all h
   (run g (mR (λb=>gH b acc) all) (iU acc h)).map (aBM acc h)
def gJ(run:fC)(runY:gR)(fv:AV)(as:List AV)(h:XH):Option (AV×XH):=match fv with
 | .fn (.func g) first cap=>aGs run g (first++as++cap) h (lU g)
 | .fn (.yield l) [] [] =>
   let acc:=jB (.fn (.yield l) [] []) as h
   (runY (rnA (λb=>gH b acc) (.fn (.yield l) [] [])) (mR (λb=>gH b acc) as) (iU acc h)).map (aBM acc h)
 | _=>none
def ghO:Option XB->Bool
 | some (.gh _ _)=>true
 | _=>false
def aGa:XH->XH->Bool
 | x::xs,y::ys=>(x.isNone||(y.isSome && !ghO x))&&aGa xs ys
 | [],_=>true
 | _,[]=>false
def qC(run:fC)(fv:AV)(as:List AV)(h:XH):Option AV:=match fv with
 | .fn (.func g) first cap =>
   let all:=first++as++cap
   let acc:=iH all h
   match run g (mR (λb=>gH b acc) all) ((iU acc h).map roX)with
   | some (v,hl)=>if gdA v&&aGa (iU acc h) hl then some v else none
   | none=>none
 | _=>none
def dJ(run:fC)(runY:gR)(d:Option Nat)(op:DOp)(e:aJ)(h:XH):Option (aJ×XH):=match op with
 | .store n p x _=>(qS n h (aK e p) (aK e x)).map λh'=>(bD e d .any,h')
 | .copy s x y=>(aDe s h (aK e x) (aK e y)).map λr=>(bD e d (.int .i64 (r.1:Int)),r.2)
 | .mapup q m k x=>(wD q h (aK e m) (aK e k) (aK e x)).map λh'=>(bD e d .any,h')
 | .nxts x=>(aHX h (aK e x)).map λr=>(bD e d r.1,r.2)
 | .callf true f xs _=>(qC run (aK e f) (xs.map (aK e)) h).map λv=>(bD e d v,h)
 | .callf false f xs _=>(gJ run runY (aK e f) (xs.map (aK e)) h).map λr=>(bD e d r.1,r.2)
 | op=>match aD op e (aH h)with
   | some (.val v)=>some (bD e d v,h)
   | some (.new own x f)=>some (bD e d (f h.length),vV h own (jQ op e h) x)
   | none=>none
def fP(run:fC)(runY:gR):List DOper->aJ->XH->Option (aJ×XH)
 | [],e,h=>some (e,h)
 | o::r,e,h=>match gd o e with
   | some true=>(dJ run runY o.dst o.op e h).bind λs=>fP run runY r s.1 s.2
   | some false=>fP run runY r (bD e o.dst (.tup [])) h
   | none=>none
def aNa(ix:Nat)(op:DOp)(e:aJ)(L:List (Nat×Nat)):List (Nat×Nat):=match op with
 | .load _ _ x=>match fB (aK e x)with
   | some b=>(ix,b)::L
   | none=>L
 | _=>L
def zQ(op:DOp)(e:aJ)(h:XH)(L:List (Nat×Nat)):Bool:=match op with
 | .store _ p _ l=>L.all λq => !l.contains q.1||fB (aK e p) != some q.2
 | .app _ _ x _=>L.all λq=>fB (aK e x) != some q.2
 | _=>true
def aCU(op:DOp)(e:aJ)(h h':XH)(L:List (Nat×Nat)):Bool:=match op with
 | .callf false f xs l=>L.all λq=>(hat h' q.2).isSome&&(!l.contains q.1||(!(jB (aK e f) (xs.map (aK e)) h).contains q.2||aIq (hat h q.2) (hat h' q.2)))
 | _=>true
def fV(run:fC)(runY:gR):List DOper->aJ->XH->List (Nat×Nat)->Option (aJ×XH)
 | [],e,h,_=>some (e,h)
 | o::r,e,h,L=>match gd o e with
   | some true=>if zQ o.op e h L then (dJ run runY o.dst o.op e h).bind λs=>if aCU o.op e h s.2 L then fV run runY r s.1 s.2 (aNa o.ix o.op e L) else none else none
   | some false=>fV run runY r (bD e o.dst (.tup [])) h L
   | none=>none
def oE(step:aJ->XH->Option (DX×aJ×XH))(k:Nat)(L:List Nat):Nat->aJ->XH->Option (DX×aJ×XH)
 | 0,_,_=>none
 | n+1,e,h=>match step (rQ k L e h) (qB k L e h)with
   | some (.normal,e',h')=>oE step k L n e' h'
   | r=>r
def iJ(h:XH)(l:Nat):Option LSt:=match hat h l with
 | some (.loop _ _ _ s)=>some s
 | _=>none
def loopTo(h:XH)(l:Nat)(s:LSt):XH:=match hat h l with
 | some (.loop K site vs _)=>h.set l (some (.loop K site vs s))
 | _=>h
def aBP:AV->Bool
 | .fn (.func _) _ _=>true
 | _=>false
def aBQ(rd:Option Nat)(h:XH):Bool:=match rd with
 | none=>true
 | some l=>match iJ h l with
   | some .busy=>true
   | _=>false
def bO(run:fC)(runY:gR)(K k n:Nat)(rd:Option Nat):XCode->aJ->XH->Option (DX×aJ×XH)
 | .skip,e,h=>some (.normal,e,h)
 | .reg fz draw ops,e,h=>(if draw then fV run runY ops (fzX fz e h).1 (fzX fz e h).2 [] else fP run runY ops (fzX fz e h).1 (fzX fz e h).2).map λr=>(.normal,r.1,r.2)
 | .seq a b,e,h=>match bO run runY K k n rd a e h with
   | some (.normal,e',h')=>bO run runY K k n rd b e' h'
   | r=>r
 | .cond c a b,e,h=>match aK e c with
   | .bool true=>bO run runY K k n rd a e h
   | .bool false=>bO run runY K k n rd b e h
   | _=>none
 | .block id a,e,h=>match bO run runY K k n rd a e h with
   | some (.exit j,e',h')=>if j=id then some (.normal,e',h') else some (.exit j,e',h')
   | r=>r
 | .loop L a,e,h=>oE (bO run runY K k n rd a) k L n e h
 | .scope a,e,h=>bO run runY K k n rd a e h
 | .rng site L f _ _ _,e,h=>if aBQ rd h&&aBP (aK e f) then
   match gJ run runY (aK e f) [.fn (.yield h.length) [] []] (h++[some (.loop K site (L.map e) .ready)])with
   | some (_,h')=>match iJ h' h.length with
     | some .ready=>some (.normal,e,h'.set h.length none)
     | some (.done x)=>some (x,e,h'.set h.length none)
     | _=>none
   | none=>none
   else none
 | .exit id,e,h=>some (.exit id,e,h)
 | .ret,e,h=>some (.ret,e,h)
def eJ:XCode->Nat->Option (List Nat×List Nat×XCode×XCode)
 | .seq a b,s | .cond _ a b,s=>match eJ a s with
   | some r=>some r
   | none=>eJ b s
 | .block _ a,s | .loop _ a,s | .scope a,s=>eJ a s
 | .rng s' L _ ps a b,s=>if s'=s then some (L,ps,a,b) else match eJ a s with
   | some r=>some r
   | none=>eJ b s
 | _,_=>none
def pT(own:Bool)(k:Nat)(v:AV)(h:XH):AV×XH :=
 let p:=if own then (upd anyE 0 v,h) else aBV (lI h 2 (slN v)) (upd anyE 0 v) h
 let u:=if own then p.1 0 else vN (p.1 0)
 let acc:=dH k [u] p.2
 (rnA (keepS k acc) u,oF k acc p.2)
def eY(c:Option Nat)(res:List (Nat×Option (Bool×Nat)))(own:Bool)(k:Nat)(r:Option (DX×aJ×XH)):Option (AV×XH):=match r with
 | some (.exit _,_,_)=>none
 | some (_,e,h')=>(kD res e (aH h')).map λv=>pT own k v h'
 | none=>none
def aFl(res:List (Nat×Option (Bool×Nat)))(r:Option (DX×aJ×XH)):Option (AV×XH):=match r with
 | some (.exit _,_,_)=>none
 | some (_,e,h')=>(kD res e (aH h')).map λv=>(v,h')
 | none=>none
def aKa(g:Bool)(res:List (Nat×Option (Bool×Nat)))(own:Bool)(k:Nat)(r:Option (DX×aJ×XH)):Option (AV×XH):=match g with
 | true=>aFl res r
 | false=>eY none res own k r
def aDl(D:Nat->Option XFn)(run:fC)(runY:gR)(n:Nat):fC:=λK as h=>match D K with
 | none=>none
 | some d=>match d.prm with
   | some f=>f as h
   | none=>if as.length<=d.N then match d.dfr with
     | none=>aKa (lU K) d.res d.ownR h.length (bO run runY K h.length n none d.body (aX (if d.ownA then as else kI as)) h)
     | some _=>none
     else none
def aFF(D:Nat->Option XFn)(run:fC)(runY:gR)(n:Nat):gR:=λfv as h=>match fv with
 | .fn (.yield l) [] []=>match hat h l with
   | some (.loop K site vs .ready)=>match (D K).bind λd=>eJ d.body site with
     | none=>none
     | some (L,ps,a,b)=>if as.length=ps.length then match bO run runY K h.length n (some l) a (sK (aY L vs) ps as) h with
       | some (.normal,e1,h1)=>match iJ h1 l with
         | some .ready=>match bO run runY K h.length n (some l) b e1 (loopTo h1 l .busy)with
           | some (x,_,h2)=>match iJ h2 l with
             | some .busy=>some (match x with
               | .normal=>pT true h.length (.bool true) (loopTo h2 l .ready)
               | x=>pT true h.length (.bool false) (loopTo h2 l (.done x)))
             | _=>none
           | none=>none
         | _=>none
       | _=>none
       else none
   | _=>none
 | _=>none
mutual
def dL(D:Nat->Option XFn):Nat->fC
 | 0=>λ_ _ _=>none
 | n+1=>aDl D (dL D n) (cB D n) n
def cB(D:Nat->Option XFn):Nat->gR
 | 0=>λ_ _ _=>none
 | n+1=>aFF D (dL D n) (cB D n) n
end
structure YI where
 K:Nat
 site:Nat
 env:aJ
 oR:Obj
 oB:Obj
 oD:Code->Obj
inductive Gd:AV->Prop where
 | int (k:IntKind) (n:Int):Gd (.int k n)
 | bool (b:Bool):Gd (.bool b)
 | str (s:ByteArray):Gd (.str s)
 | agg (cs:List AV) (h:∀ c∈cs,Gd c):Gd (.agg cs)
 | tup (cs:List AV) (h:∀ c∈cs,Gd c):Gd (.tup cs)
 | fs (rows:List (List AV)) (h:∀ r∈rows,∀ c∈r,Gd c):Gd (.fs rows)
 | fp (rows:List (List AV)) (i o:Nat) (h:∀ r∈rows,∀ c∈r,Gd c):Gd (.fp rows i o)
 | nilsl:Gd .nilsl
 | nilpt:Gd .nilpt
 | nilmap:Gd .nilmap
 | nilfn:Gd .nilfn
 | nilifc:Gd .nilifc
 | fn (f:Fn) (first cap:List AV) (hf:∀ l,f ≠ .yield l) (h1:∀ c∈first,Gd c) (h2:∀ c∈cap,Gd c):Gd (.fn f first cap)
 | ifc (t:TypeId) (v:AV) (h:Gd v):Gd (.ifc t v)
inductive Rn(D:Nat->Option XFn)(Y:Nat->Option YI)(r:Nat->Option Nat):AV->AV->Prop where
 | any (v:AV):Rn D Y r .any v
 | int (k:IntKind) (n:Int):Rn D Y r (.int k n) (.int k n)
 | bool (b:Bool):Rn D Y r (.bool b) (.bool b)
 | str (s:ByteArray):Rn D Y r (.str s) (.str s)
 | agg (xs ys:List AV) (hl:xs.length=ys.length) (h:∀(i:Nat)(x y:AV),xs[i]?=some x->ys[i]?=some y->Rn D Y r x y):Rn D Y r (.agg xs) (.agg ys)
 | tup (xs ys:List AV) (hl:xs.length=ys.length) (h:∀(i:Nat)(x y:AV),xs[i]?=some x->ys[i]?=some y->Rn D Y r x y):Rn D Y r (.tup xs) (.tup ys)
 | fs (rows:List (List AV)) (h:∀ r∈rows,∀ c∈r,Gd c):Rn D Y r (.fs rows) (.fs rows)
 | fp (rows:List (List AV)) (i o:Nat) (h:∀ r∈rows,∀ c∈r,Gd c):Rn D Y r (.fp rows i o) (.fp rows i o)
 | sl (b c o s n:Nat) (hr:r b=some c):Rn D Y r (.sl b o s n) (.sl c o s n)
 | pt (b c o:Nat) (hr:r b=some c):Rn D Y r (.pt b o) (.pt c o)
 | mp (b c:Nat) (hr:r b=some c):Rn D Y r (.mp b) (.mp c)
 | sb (b c n:Nat) (hr:r b=some c):Rn D Y r (.sb b n) (.sb c n)
 | bp (b c:Nat) (hr:r b=some c):Rn D Y r (.bp b) (.bp c)
 | nilsl:Rn D Y r .nilsl .nilsl
 | nilpt:Rn D Y r .nilpt .nilpt
 | nilmap:Rn D Y r .nilmap .nilmap
 | nilfn:Rn D Y r .nilfn .nilfn
 | nilifc:Rn D Y r .nilifc .nilifc
 | fn (f:Fn) (xs ys us vs:List AV) (hf:∀ l,f ≠ .yield l) (hl1:xs.length=ys.length) (h1:∀(i:Nat)(x y:AV),xs[i]?=some x->ys[i]?=some y->Rn D Y r x y)
  (hl2:us.length=vs.length) (h2:∀(i:Nat)(x y:AV),us[i]?=some x->vs[i]?=some y->Rn D Y r x y):Rn D Y r (.fn f xs us) (.fn f ys vs)
 | yield (l c:Nat) (hr:r l=some c):Rn D Y r (.fn (.yield l) [] []) (.fn (.yield c) [] [])
 | ifc (t:TypeId) (x y:AV) (h:Rn D Y r x y):Rn D Y r (.ifc t x) (.ifc t y)
def RnL(D:Nat->Option XFn)(Y:Nat->Option YI)(r:Nat->Option Nat)(xs ys:List AV):Prop:=xs.length=ys.length/\∀(i:Nat)(x y:AV),xs[i]?=some x->ys[i]?=some y->Rn D Y r x y
section
variable{D:Nat->Option XFn}{Y:Nat->Option YI}{r:Nat->Option Nat}
theorem RnL.nil:RnL D Y r [] []:=⟨rfl,by simp⟩
theorem RnL.cons{x y:AV}{xs ys:List AV}(h:Rn D Y r x y)(hs:RnL D Y r xs ys):RnL D Y r (x::xs) (y::ys):=⟨by simp[hs.1],λi a b ha hb=>by
 grind [RnL]⟩
theorem RnL.inv{x:AV}{xs ys:List AV}(h:RnL D Y r (x::xs) ys):∃ y ys',ys=y::ys'/\Rn D Y r x y/\RnL D Y r xs ys':=by
 cases ys with
 | nil=>grind [RnL]
 | cons y ys'=>exact⟨y,ys',rfl,h.2 0 x y rfl rfl,by grind [RnL],λi a b ha hb=>h.2 (i+1) a b (by grind) (by grind)⟩
theorem RnL.nil_inv{ys:List AV}(h:RnL D Y r [] ys):ys=[]:=D0 (by grind [RnL])
theorem RnL.append{xs ys xs' ys':List AV}(h:RnL D Y r xs ys)(h':RnL D Y r xs' ys'):RnL D Y r (xs++xs') (ys++ys'):=⟨by simp[h.1,h'.1],λi a b ha hb=>by
 grind [RnL]⟩
theorem RnL.take{xs ys:List AV}(h:RnL D Y r xs ys)(n:Nat):RnL D Y r (xs.take n) (ys.take n):=⟨by simp[h.1],λi a b ha hb=>by
 grind [RnL]⟩
theorem RnL.drop{xs ys:List AV}(h:RnL D Y r xs ys)(n:Nat):RnL D Y r (xs.drop n) (ys.drop n):=⟨by simp[h.1],λi a b ha hb=>by
 grind [RnL]⟩
theorem RnL.map{α:Type}{f g:α->AV}{l:List α}(h:∀ x∈l,Rn D Y r (f x) (g x)):RnL D Y r (l.map f) (l.map g):=by
 induction l with
 | nil=>exact RnL.nil
 | cons x l ih=>grind [RnL]
theorem RnL.get{xs ys:List AV}(h:RnL D Y r xs ys){i:Nat}{x:AV}(hx:xs[i]?=some x):∃ y,ys[i]?=some y/\Rn D Y r x y:=by
 grind [RnL]
theorem RnL.self{xs:List AV}(h:∀ x∈xs,Rn D Y r x x):RnL D Y r xs xs:=⟨rfl,λi x y hx hy=>by
 grind⟩
theorem Gd.rn{v:AV}(h:Gd v):Rn D Y r v v:=by
 induction h with
 | int k n=>exact .int k n
 | bool b=>exact .bool b
 | str s=>exact .str s
 | agg cs _ ih=>exact .agg cs cs rfl (RnL.self ih).2
 | tup cs _ ih=>exact .tup cs cs rfl (RnL.self ih).2
 | fs rows h _=>exact .fs rows h
 | fp rows i o h _=>exact .fp rows i o h
 | nilsl=>exact .nilsl
 | nilpt=>exact .nilpt
 | nilmap=>exact .nilmap
 | nilfn=>exact .nilfn
 | nilifc=>exact .nilifc
 | fn f first cap hf _ _ ih1 ih2=>exact .fn f first first cap cap hf rfl (RnL.self ih1).2 rfl (RnL.self ih2).2
 | ifc t v _ ih=>exact .ifc t v v ih
theorem jO:∀{l:List AV},lE l=true->∀ x∈l,iD x=true
 | [],_,x,hx=>by simp at hx
 | v::l,h,x,hx=>by
   simp only[lE,B4]at h;rcases C4.1 hx with rfl|hx;·exact h.1
   .exact jO h.2 x hx
theorem fJ:∀{l:List AV},(∀ x∈l,iD x=true)->lE l=true
 | [],_=>rfl
 | v::l,h=>by simp[lE,h v (by simp),fJ (l:=l) λx hx=>h x (by simp[hx])]
theorem sZ{xs ys:List AV}(hl:xs.length=ys.length)(h:∀(i:Nat)(x y:AV),xs[i]?=some x->ys[i]?=some y->y=x/\Gd x):ys=xs/\∀ x∈xs,Gd x:=by
 have h1:∀ i:Nat,ys[i]?=xs[i]?:=λi=>by
  grind
 have h2:ys=xs:=I7 h1
 grind [List.mem_iff_getElem?]
theorem Rn.same{v v':AV}(h:Rn D Y r v v'):iD v=true->v'=v/\Gd v:=by
 induction h with
 | any v=>simp[iD]
 | int k n=>exact λ_=>⟨rfl,.int k n⟩
 | bool b=>exact λ_=>⟨rfl,.bool b⟩
 | str s=>exact λ_=>⟨rfl,.str s⟩
 | agg xs ys hl _ ih =>
   intro h;simp only[iD]at h;obtain⟨rfl,h2⟩:=sZ hl λi x y hx hy=>ih i x y hx hy (jO h x (B3 hx));exact⟨rfl,.agg _ h2⟩
 | tup xs ys hl _ ih =>
   intro h;simp only[iD]at h;obtain⟨rfl,h2⟩:=sZ hl λi x y hx hy=>ih i x y hx hy (jO h x (B3 hx));exact⟨rfl,.tup _ h2⟩
 | fs rows h=>exact λ_=>⟨rfl,.fs rows h⟩
 | fp rows i o h=>exact λ_=>⟨rfl,.fp rows i o h⟩
 | sl=>simp[iD]
 | pt=>simp[iD]
 | mp=>simp[iD]
 | sb=>simp[iD]
 | bp=>simp[iD]
 | nilsl=>exact λ_=>⟨rfl,.nilsl⟩
 | nilpt=>exact λ_=>⟨rfl,.nilpt⟩
 | nilmap=>exact λ_=>⟨rfl,.nilmap⟩
 | nilfn=>exact λ_=>⟨rfl,.nilfn⟩
 | nilifc=>exact λ_=>⟨rfl,.nilifc⟩
 | fn f xs ys us vs hf hl1 _ hl2 _ ih1 ih2 =>
   intro h;have h:lE xs=true/\lE us=true:=by
    simp_all [iD]
   obtain⟨rfl,h2⟩:=sZ hl1 λi x y hx hy=>ih1 i x y hx hy (jO h.1 x (B3 hx));obtain⟨rfl,h3⟩:=sZ hl2 λi x y hx hy=>ih2 i x y hx hy (jO h.2 x (B3 hx));exact⟨rfl,.fn f _ _ hf h2 h3⟩
 | yield=>simp[iD]
 | ifc t x y _ ih =>
   intro h;simp only[iD]at h;obtain⟨rfl,h2⟩:=ih h;exact⟨rfl,.ifc t _ h2⟩
theorem RnL.same{xs ys:List AV}(h:RnL D Y r xs ys)(hg:lE xs=true):ys=xs/\∀ x∈xs,Gd x :=
 sZ h.1 λi x y hx hy=>(h.2 i x y hx hy).same (jO hg x (B3 hx))
mutual
theorem aKw:∀ v:AV,gdA v=true->Gd v
 | .agg cs,h=>.agg cs (aBT cs (by simpa [gdA]using h))
 | .tup cs,h=>.tup cs (aBT cs (by simpa [gdA]using h))
 | .fs rows,h=>.fs rows (aKv rows (by simpa [gdA]using h))
 | .fp rows i o,h=>.fp rows i o (aKv rows (by simpa [gdA]using h))
 | .sl ..,h=>by simp[gdA]at h
 | .pt ..,h=>by simp[gdA]at h
 | .mp _,h=>by simp[gdA]at h
 | .sb ..,h=>by simp[gdA]at h
 | .bp ..,h=>by simp[gdA]at h
 | .any,h=>by simp[gdA]at h
 | .fn f first cap,h=>by
   simp only[gdA,B4]at h;exact .fn f first cap (λl e=>by subst e;simp at h) (aBT first h.2.1) (aBT cap h.2.2)
 | .ifc t v,h=>.ifc t v (aKw v (by simpa [gdA]using h))
 | .int k n,_=>.int k n
 | .bool b,_=>.bool b
 | .str s,_=>.str s
 | .nilsl,_=>.nilsl
 | .nilpt,_=>.nilpt
 | .nilmap,_=>.nilmap
 | .nilfn,_=>.nilfn
 | .nilifc,_=>.nilifc
theorem aBT:∀ l:List AV,gdL l=true->∀ c∈l,Gd c
 | [],_=>by simp
 | v::l,h=>by
   have h1:=aKw v (by simp only[gdL,B4]at h;exact h.1);have h2:=aBT l (by simp only[gdL,B4]at h;exact h.2);intro c hc;rcases C4.1 hc with rfl|hc;·exact h1
   .exact h2 c hc
theorem aKv:∀ l:List (List AV),gdR l=true->∀ r∈l,∀ c∈r,Gd c
 | [],_=>by simp
 | v::l,h=>by
   have h1:=aBT v (by simp only[gdR,B4]at h;exact h.1);have h2:=aKv l (by simp only[gdR,B4]at h;exact h.2);intro c hc;rcases C4.1 hc with rfl|hc;·exact h1
   .exact h2 c hc
end
theorem Gd.gr{v:AV}(hv:Gd v):iD v=true:=by
 induction hv with
 | agg cs _ ih=>grind [fJ,iD]
 | tup cs _ ih=>grind [fJ,iD]
 | fn f first cap hf _ _ ih1 ih2=>cases f<;>simp only[iD,fJ ih1,fJ ih2,aG5]<;>exact absurd rfl (hf _)
 | ifc t v _ ih=>grind [iD]
 | _=>rfl
theorem aAU(s:Nat->Option Nat):∀ l:List AV,mR s l=l.map (rnA s)
 | []=>rfl
 | v::l=>by simp[mR,aAU s l]
theorem Gd.rnA{v:AV}(h:Gd v)(s:Nat->Option Nat):rnA s v=v:=by
 have ls:∀{cs:List AV},(∀ c∈cs,Go.DL.rnA s c=c)->mR s cs=cs:=λ{cs} h=>by
  rw[aAU];induction cs with
  | nil=>rfl
  | cons c cs ih=>simp only[E7,h c (by simp),ih λx hx=>h x (by simp[hx])]
 induction h with
 | agg cs _ ih=>simp only[Go.DL.rnA,ls ih]
 | tup cs _ ih=>simp only[Go.DL.rnA,ls ih]
 | fn f first cap hf _ _ ih1 ih2=>cases f<;>simp only[Go.DL.rnA,ls ih1,ls ih2]<;>exact absurd rfl (hf _)
 | ifc t v _ ih=>simp only[Go.DL.rnA,ih]
 | _=>rfl
theorem Rn.renum{r':Nat->Option Nat}{s:Nat->Option Nat}(hs:∀ b c d,s b=some c->r b=some d->r' c=some d){v v':AV}(h:Rn D Y r v v'):Rn D Y r' (rnA s v) v':=by
 have ls:∀{xs ys:List AV},xs.length=ys.length->(∀(i:Nat)(x y:AV),xs[i]?=some x->ys[i]?=some y->Rn D Y r' (Go.DL.rnA s x) y)->RnL D Y r' (mR s xs) ys:=λ{xs ys} hl h=>by
  grind [aAU,RnL]
 induction h with
 | any v=>exact .any v
 | int k n=>exact .int k n
 | bool b=>exact .bool b
 | str t=>exact .str t
 | agg xs ys hl _ ih=>exact .agg _ _ (ls hl ih).1 (ls hl ih).2
 | tup xs ys hl _ ih=>exact .tup _ _ (ls hl ih).1 (ls hl ih).2
 | fs rows h=>exact .fs rows h
 | fp rows i o h=>exact .fp rows i o h
 | sl b d o z n hr =>
   simp only[rnA];split;·rename_i c hc;exact .sl c d o z n (hs b c d hc hr)
   .exact .any _
 | pt b d o hr =>
   simp only[rnA];split;·rename_i c hc;exact .pt c d o (hs b c d hc hr)
   .exact .any _
 | mp b d hr =>
   simp only[rnA];split;·rename_i c hc;exact .mp c d (hs b c d hc hr)
   .exact .any _
 | sb b d n hr =>
   simp only[rnA];split;·rename_i c hc;exact .sb c d n (hs b c d hc hr)
   .exact .any _
 | bp b d hr =>
   simp only[rnA];split;·rename_i c hc;exact .bp c d (hs b c d hc hr)
   .exact .any _
 | nilsl=>exact .nilsl
 | nilpt=>exact .nilpt
 | nilmap=>exact .nilmap
 | nilfn=>exact .nilfn
 | nilifc=>exact .nilifc
 | fn f xs ys us vs hf hl1 _ hl2 _ ih1 ih2 =>
   cases f with
   | yield l=>grind
   | _=>exact .fn _ _ _ _ _ hf (ls hl1 ih1).1 (ls hl1 ih1).2 (ls hl2 ih2).1 (ls hl2 ih2).2
 | yield l c0 hr =>
   simp only[rnA];split;·rename_i c hc;exact .yield c c0 (hs l c c0 hc hr)
   .exact .any _
 | ifc t x y _ ih=>exact .ifc t _ _ ih
theorem RnL.renum{r':Nat->Option Nat}{s:Nat->Option Nat}(hs:∀ b c d,s b=some c->r b=some d->r' c=some d){xs ys:List AV}(h:RnL D Y r xs ys):RnL D Y r' (mR s xs) ys:=by
 rw[aAU];refine⟨by simpa using h.1,λi x y hx hy=>?_⟩;rw[C3,B2]at hx;obtain⟨z,hz,rfl⟩:=hx;exact(h.2 i z y hz hy).renum hs
theorem Rn.mono{r':Nat->Option Nat}{Y':Nat->Option YI}(hr:∀ b c,r b=some c->r' b=some c){v v':AV}(h:Rn D Y r v v'):Rn D Y' r' v v':=by
 induction h with
 | any v=>exact .any v
 | int k n=>exact .int k n
 | bool b=>exact .bool b
 | str t=>exact .str t
 | agg xs ys hl _ ih=>exact .agg _ _ hl ih
 | tup xs ys hl _ ih=>exact .tup _ _ hl ih
 | fs rows h=>exact .fs rows h
 | fp rows i o h=>exact .fp rows i o h
 | sl b c o z n h=>exact .sl b c o z n (hr _ _ h)
 | pt b c o h=>exact .pt b c o (hr _ _ h)
 | mp b c h=>exact .mp b c (hr _ _ h)
 | sb b c n h=>exact .sb b c n (hr _ _ h)
 | bp b c h=>exact .bp b c (hr _ _ h)
 | nilsl=>exact .nilsl
 | nilpt=>exact .nilpt
 | nilmap=>exact .nilmap
 | nilfn=>exact .nilfn
 | nilifc=>exact .nilifc
 | fn f xs ys us vs hf hl1 _ hl2 _ ih1 ih2=>exact .fn f _ _ _ _ hf hl1 ih1 hl2 ih2
 | yield l c h1=>exact .yield l c (hr _ _ h1)
 | ifc t x y _ ih=>exact .ifc t _ _ ih
theorem RnL.mono{r':Nat->Option Nat}{Y':Nat->Option YI}(hr:∀ b c,r b=some c->r' b=some c){xs ys:List AV}(h:RnL D Y r xs ys):RnL D Y' r' xs ys :=
 ⟨h.1,λi x y hx hy=>(h.2 i x y hx hy).mono hr⟩
def bBe:AV->Bool
 | .int _ _=>true
 | _=>false
mutual
def okA:AV->Bool
 | .agg cs=>okL cs
 | .tup vs=>okL vs
 | .sl .. | .pt .. | .mp _ | .sb .. | .bp _=>false
 | .fp rows _ _=>rows.all λr=>r.all bBe
 | .fs rows=>rows.isEmpty
 | .fn f first cap=>(match f with | .yield _=>false|_=>true)&&(okL first&&okL cap)
 | .ifc _ v=>okA v
 | _=>true
def okL:List AV->Bool
 | []=>true
 | v::r=>okA v&&okL r
end
mutual
theorem aDZ:∀ v:AV,okA v=true->Rn D Y r v v
 | .agg cs,h=>.agg cs cs rfl (uC cs (by simpa [okA]using h)).2
 | .tup cs,h=>.tup cs cs rfl (uC cs (by simpa [okA]using h)).2
 | .sl ..,h=>by simp[okA]at h
 | .pt ..,h=>by simp[okA]at h
 | .mp _,h=>by simp[okA]at h
 | .sb ..,h=>by simp[okA]at h
 | .bp ..,h=>by simp[okA]at h
 | .fp rows i o,h=>.fp rows i o λr hr c hc=>by
   simp only[okA]at h;have:=D5.1 (D5.1 h r hr) c hc;cases c<;>simp[bBe]at this
   exact .int _ _
 | .fs rows,h=>by
   simp only[okA,List.isEmpty_iff]at h;subst h;exact .fs [] (by simp)
 | .fn f first cap,h=>by
   simp only[okA,B4]at h;exact .fn f first first cap cap (λl e=>by subst e;simp at h) rfl (uC first h.2.1).2 rfl (uC cap h.2.2).2
 | .ifc t v,h=>.ifc t v v (aDZ v (by simpa [okA]using h))
 | .int k n,_=>.int k n
 | .bool b,_=>.bool b
 | .str s,_=>.str s
 | .nilsl,_=>.nilsl
 | .nilpt,_=>.nilpt
 | .nilmap,_=>.nilmap
 | .nilfn,_=>.nilfn
 | .nilifc,_=>.nilifc
 | .any,_=>.any _
theorem uC:∀ l:List AV,okL l=true->RnL D Y r l l
 | [],_=>RnL.nil
 | v::l,h=>by
   simp only[okL,B4]at h;exact RnL.cons (aDZ v h.1) (uC l h.2)
end
end
section
variable{D:Nat->Option XFn}{Y:Nat->Option YI}{r:Nat->Option Nat}{e env:aJ}{h:XH}{H:Hp}
def vU(i:YI):LSt->Obj->Prop
 | .ready,o=>o=i.oR
 | .busy,o=>o=i.oB
 | .done (.exit id),o=>o=i.oD (.exit id)
 | .done .ret,o=>o=i.oD .ret
 | .done .normal,_=>False
def RnP(D:Nat->Option XFn)(Y:Nat->Option YI)(r:Nat->Option Nat)(xs ys:List (AV×AV)):Prop :=
 xs.length=ys.length/\∀(i:Nat)(x y:AV×AV),xs[i]?=some x->ys[i]?=some y->Rn D Y r x.1 y.1/\Rn D Y r x.2 y.2
inductive RnB(D:Nat->Option XFn)(Y:Nat->Option YI)(r:Nat->Option Nat):Nat->XB->ABlk->Prop where
 | cells (c:Nat) (g w:Bool) (xs ys:List AV) (h:RnL D Y r xs ys) (hg:g=true->lE xs=true):RnB D Y r c (.blk g (.cells w xs)) (.cells w ys)
 | map (c:Nat) (g w:Bool) (xs ys:List (AV×AV)) (h:RnP D Y r xs ys) (hg:g=true->∀ p∈xs,iD p.1=true/\iD p.2=true):RnB D Y r c (.blk g (.map w xs)) (.map w ys)
 | obj (c:Nat) (g w:Bool) (o:Obj):RnB D Y r c (.blk g (.obj w o)) (.obj w o)
 | loop (c:Nat) (i:YI) (vs:List AV) (s:LSt) (o:Obj) (d:XFn) (L ps:List Nat) (a b:XCode) (hY:Y c=some i) (h:vU i s o) (hD:D i.K=some d) (hs:eJ d.body i.site=some (L,ps,a,b))
  (hv:RnL D Y r vs (L.map i.env)):RnB D Y r c (.loop i.K i.site vs s) (.obj true o)
 | gh (c:Nat) (st:CSt) (p:Hp->Nat->Prop) (y:ABlk):RnB D Y r c (.gh st p) y
structure SHb(D:Nat->Option XFn)(Y:Nat->Option YI)(r:Nat->Option Nat)(h:XH)(H:Hp):Prop where
 dom:∀ b c,r b=some c->b<h.length
 inj:∀ b b' c x y,hat h b=some x->hat h b'=some y->r b=some c->r b'=some c->b=b'
 blk:∀ b x,hat h b=some x->(∃ g y,x = .blk g y)/\∃ c y,r b=some c/\H c=some y/\RnB D Y r c x y
def GInv(p:Hp->Nat->Prop)(c:Nat)(S:Nat->Prop)(H:Hp):Prop :=
 ∃(h0:XH)(r0:Nat->Option Nat)(b0:Nat),(∀ D Y,SHb D Y r0 h0 H)/\r0 b0=some c/\p (aH h0) b0/\∀ n,S n↔∃ i x,hat h0 i=some x/\r0 i=some n
theorem GInv.live{p:Hp->Nat->Prop}{c n:Nat}{S:Nat->Prop}(h:GInv p c S H)(hn:S n):∃ y,H n=some y:=by
 obtain⟨h0,r0,b0,h1,h2,h3,h4⟩:=h;obtain⟨i,x,k1,k2⟩:=(h4 n).1 hn;obtain⟨_,c',y,k3,k4,_⟩:=(h1 (λ_=>none) (λ_=>none)).blk i x k1
 grind
theorem GInv.mono{p:Hp->Nat->Prop}{c:Nat}{S:Nat->Prop}{H':Hp}(h:GInv p c S H)(hH:∀ n y,S n->H n=some y->H' n=some y):GInv p c S H':=by
 obtain⟨h0,r0,b0,h1,h2,h3,h4⟩:=h;refine⟨h0,r0,b0,λD Y=>⟨(h1 D Y).dom,(h1 D Y).inj,λb x hb=>?_⟩,h2,h3,h4⟩;obtain⟨k0,c',y,k1,k2,k3⟩:=(h1 D Y).blk b x hb
 grind
theorem GInv.congr{p:Hp->Nat->Prop}{c:Nat}{S S':Nat->Prop}(h:GInv p c S H)(hS:∀ n,S' n↔S n):GInv p c S' H:=by
 simp_all [GInv]
def GhR(h:XH)(r:Nat->Option Nat)(G:Nat->Nat->Prop)(H:Hp):Prop :=
 (∀ b st p,hat h b=some (.gh st p)->∃ c,r b=some c/\GInv p c (G b) H) /\
 ∀ b b' st p x n,hat h b=some (.gh st p)->hat h b'=some x->b≠b'->G b n->r b'≠some n/\∀ st' p',x = .gh st' p'->¬G b' n
theorem GhR.no{h:XH}{r:Nat->Option Nat}{H:Hp}(hn:∀ b st p,hat h b≠some (.gh st p)):∃ G,GhR h r G H :=
 ⟨λ_ _=>False,λb st p hx=>absurd hx (hn b st p),λb _ st p _ _ hx=>absurd hx (hn b st p)⟩
theorem GhR.via{h h':XH}{r r':Nat->Option Nat}{G:Nat->Nat->Prop}{H H':Hp}(g:GhR h r G H)(σ:Nat->Nat)
 (h1:∀ b st p,hat h' b=some (.gh st p)->hat h (σ b)=some (.gh st p)/\r' b=r (σ b))
 (h2:∀ b x,hat h' b=some x->(∃ x0,hat h (σ b)=some x0/\r' b=r (σ b)/\∀ st p,x = .gh st p->x0 = .gh st p) \/
  ∃ c,r' b=some c/\(∀ a st p,hat h' a=some (.gh st p)->¬G (σ a) c)/\∀ st p,x ≠ .gh st p)
 (hi:∀ b b' st p x,hat h' b=some (.gh st p)->hat h' b'=some x->b≠b'->σ b≠σ b')
 (hH:∀ b st p n y,hat h' b=some (.gh st p)->G (σ b) n->H n=some y->H' n=some y):GhR h' r' (λb=>G (σ b)) H':=by
 refine⟨λb st p hb=>?_,λb b' st p x n hb hb' hne hn=>?_⟩
 .obtain⟨k1,k2⟩:=h1 b st p hb
  obtain⟨c,e1,e2⟩:=g.1 (σ b) st p k1;exact⟨c,k2.trans e1,e2.mono λn y hn hy=>hH b st p n y hb hn hy⟩
 .obtain⟨k1,k2⟩:=h1 b st p hb
  rcases h2 b' x hb' with ⟨x0,m1,m2,m3⟩|⟨c,m1,m2,m3⟩
  .have:=g.2 (σ b) (σ b') st p x0 n k1 m1 (hi b b' st p x hb hb' hne) hn
   grind
  grind
def ghX:XB->Bool
 | .gh _ _=>true
 | _=>false
structure SH(D:Nat->Option XFn)(Y:Nat->Option YI)(r:Nat->Option Nat)(h:XH)(H:Hp):Prop where
 dom:∀ b c,r b=some c->b<h.length
 inj:∀ b b' c x y,hat h b=some x->hat h b'=some y->r b=some c->r b'=some c->b=b'
 blk:∀ b x,hat h b=some x->∃ c y,r b=some c/\H c=some y/\RnB D Y r c x y
 gh:∃ G,GhR h r G H
theorem SH.cells(sh:SH D Y r h H){b c:Nat}(hr:r b=some c){w:Bool}{cs:List AV}(hb:aH h b=some (.cells w cs)):∃ g cs',hat h b=some (.blk g (.cells w cs))/\H c=some (.cells w cs')/\RnL D Y r cs cs'/\(g=true->lE cs=true):=by
 unfold aH at hb;split at hb<;>simp only[oSI,reduceCtorEq]at hb
 rename_i g x hx;subst hb;obtain⟨c',y,h0,h1,h2⟩:=sh.blk b _ hx;rw[hr]at h0;simp only[oSI]at h0;subst h0;cases h2 with
 | cells _ _ _ ys h3 h4=>exact⟨g,ys,hx,h1,h3,h4⟩
theorem SH.map(sh:SH D Y r h H){b c:Nat}(hr:r b=some c){w:Bool}{es:List (AV×AV)}(hb:aH h b=some (.map w es)):∃ g es',hat h b=some (.blk g (.map w es))/\H c=some (.map w es')/\RnP D Y r es es'/\(g=true->∀ p∈es,iD p.1=true/\iD p.2=true):=by
 unfold aH at hb;split at hb<;>simp only[oSI,reduceCtorEq]at hb
 rename_i g x hx;subst hb;obtain⟨c',y,h0,h1,h2⟩:=sh.blk b _ hx;rw[hr]at h0;simp only[oSI]at h0;subst h0;cases h2 with
 | map _ _ _ ys h3 h4=>exact⟨g,ys,hx,h1,h3,h4⟩
theorem SH.obj(sh:SH D Y r h H){b c:Nat}(hr:r b=some c){w:Bool}{o:Obj}(hb:aH h b=some (.obj w o)):∃ g,hat h b=some (.blk g (.obj w o))/\H c=some (.obj w o):=by
 unfold aH at hb;split at hb<;>simp only[oSI,reduceCtorEq]at hb
 rename_i g x hx;subst hb;obtain⟨c',y,h0,h1,h2⟩:=sh.blk b _ hx;rw[hr]at h0;simp only[oSI]at h0;subst h0;cases h2 with
 | obj=>exact⟨g,hx,h1⟩
theorem eU{k:IntKind}{n:Int}{v:AV}(h:Rn D Y r (.int k n) v):v = .int k n:=by cases h;rfl
theorem gN{b:Bool}{v:AV}(h:Rn D Y r (.bool b) v):v = .bool b:=by cases h;rfl
theorem dM{s:ByteArray}{v:AV}(h:Rn D Y r (.str s) v):v = .str s:=by cases h;rfl
theorem oA{b o:Nat}{v:AV}(h:Rn D Y r (.pt b o) v):∃ c,v = .pt c o/\r b=some c:=by cases h;grind
theorem aAS{b o s n:Nat}{v:AV}(h:Rn D Y r (.sl b o s n) v):∃ c,v = .sl c o s n/\r b=some c:=by cases h;grind
theorem aPF{b:Nat}{v:AV}(h:Rn D Y r (.bp b) v):∃ c,v = .bp c/\r b=some c:=by cases h;grind
theorem aPD{b n:Nat}{v:AV}(h:Rn D Y r (.sb b n) v):∃ c,v = .sb c n/\r b=some c:=by cases h;grind
theorem aIA{b:Nat}{v:AV}(h:Rn D Y r (.mp b) v):∃ c,v = .mp c/\r b=some c:=by cases h;grind
theorem aAT{rows:List (List AV)}{v:AV}(h:Rn D Y r (.fs rows) v):v = .fs rows/\∀ r∈rows,∀ c∈r,Gd c:=by cases h;grind
theorem aCl{rows:List (List AV)}{i o:Nat}{v:AV}(h:Rn D Y r (.fp rows i o) v):v = .fp rows i o/\∀ r∈rows,∀ c∈r,Gd c:=by cases h;grind
theorem aDJ{xs:List AV}{v:AV}(h:Rn D Y r (.agg xs) v):∃ ys,v = .agg ys/\RnL D Y r xs ys:=by cases h;grind [RnL]
theorem aHc{xs:List AV}{v:AV}(h:Rn D Y r (.tup xs) v):∃ ys,v = .tup ys/\RnL D Y r xs ys:=by cases h;grind [RnL]
theorem sI{v:AV}(h:Rn D Y r .nilsl v):v = .nilsl:=by cases h;rfl
theorem aDI{v:AV}(h:Rn D Y r .nilpt v):v = .nilpt:=by cases h;rfl
theorem aBI{v:AV}(h:Rn D Y r .nilmap v):v = .nilmap:=by cases h;rfl
theorem aIz{v:AV}(h:Rn D Y r .nilfn v):v = .nilfn:=by cases h;rfl
theorem aFM{v:AV}(h:Rn D Y r .nilifc v):v = .nilifc:=by cases h;rfl
def okO:AO->Bool
 | .t _=>true
 | .c v=>okA v
 | .meth _ _=>true
def aQe:Option AO->Bool
 | some x=>okO x
 | none=>true
theorem aIO{t:TypeId}{v v':AV}(h:Rn D Y r v v'):∀ tab:List (TypeId×FuncId),Rn D Y r (xE t v tab) (xE t v' tab)
 | []=>.any _
 | (u, f)::l=>by
   simp only[xE];split
   .exact .fn _ _ _ _ _ (λl e=>by cases e) rfl (λi x y hx hy=>by
     match i with
     | 0=>simp at hx hy;subst hx hy;exact h
     | i+1=>simp at hx) rfl (λi x y hx hy=>by simp at hx)
   .exact aIO h l
theorem aQo{tab:List (TypeId×FuncId)}{v v':AV}(h:Rn D Y r v v'):Rn D Y r (aEg tab v) (aEg tab v'):=by
 cases h with
 | ifc t x y hx=>exact aIO hx tab
 | _=>exact .any _
theorem aP(re:∀ j,Rn D Y r (e j) (env j)){x:AO}(hx:okO x=true):Rn D Y r (aK e x) (aK env x):=by
 cases x with
 | t k=>exact re k
 | c v=>exact aDZ v hx
 | meth tab k=>exact aQo (re k)
theorem yH(re:∀ j,Rn D Y r (e j) (env j)){xs:List AO}(hx:xs.all okO=true):RnL D Y r (xs.map (aK e)) (xs.map (aK env)) :=
 RnL.map λx hm=>aP re (D5.1 hx x hm)
theorem aAs{v v':AV}{cs:List AV}(h:Rn D Y r v v')(hc:cellsOf v=some cs):∃ cs',cellsOf v'=some cs'/\RnL D Y r cs cs':=by
 have one:∀{v v':AV},Rn D Y r v v'->RnL D Y r [v] [v']:=λh=>RnL.cons h RnL.nil;cases h<;>simp only[cellsOf,oSI,reduceCtorEq]at hc
 case agg xs ys hl h=>grind [cellsOf,RnL]
 all_goals
  subst hc;exact⟨_,rfl,one (by first|constructor<;>assumption|exact Rn.yield _ _ ‹_›)⟩
theorem aBD{z z' cs cs':List AV}{o:Nat}(hz:RnL D Y r z z')(hc:RnL D Y r cs cs'):RnL D Y r (bJ z o cs) (bJ z' o cs'):=by
 grind [RnL,bJ]
theorem aJl{parts:List (Nat×Nat×AO)}(re:∀ j,Rn D Y r (e j) (env j)):∀(ps:List (Nat×Nat×AO))(z z' cs:List AV),(ps.all λp=>okO p.2.2)=true->RnL D Y r z z'->gU z (ps.map λp=>(p.1,p.2.1,aK e p.2.2))=some cs ->
 ∃ cs',gU z' (ps.map λp=>(p.1,p.2.1,aK env p.2.2))=some cs'/\RnL D Y r cs cs':=by
 intro ps;induction ps with
 | nil=>simp_all [gU]
 | cons p ps ih =>
   intro z z' cs hok hz hf;simp only[O3,B4]at hok;simp only[E7,gU]at hf ⊢;split at hf
   .rename_i vs hvs
    obtain⟨vs',h1,h2⟩:=aAs (aP re hok.1) hvs;rw[h1];simp only;split at hf
    .rename_i hc
     rw[if_pos (by rw[<-h2.1,<-hz.1];exact hc)];exact ih _ _ _ hok.2 (aBD hz h2) hf
    .simp at hf
   .simp at hf
theorem aDO{g:Bool}{n o:Nat}{cs cs':List AV}{v:AV}(hc:RnL D Y r cs cs')(hv:iZ g n cs o=some v):∃ v',iZ g n cs' o=some v'/\Rn D Y r v v':=by
 unfold iZ at hv ⊢;split at hv
 .split at hv
  .rename_i hg hle
   simp only[oSI]at hv;subst hv;rw[if_pos hg,if_pos (by grind [RnL])];have:=(hc.drop o).take n;exact⟨_,rfl,.agg _ _ this.1 this.2⟩
  .simp at hv
 grind [RnL]
theorem aUf{rows:List (List AV)}(hr:∀ r∈rows,∀ c∈r,Gd c){i:Nat}{row:List AV}(h:rows[i]?=some row):RnL D Y r row row:=RnL.self λc hc=>(hr row (B3 h) c hc).rn
theorem aIT(sh:SH D Y r h H){g:Bool}{n:Nat}{p p' v:AV}(hp:Rn D Y r p p')(hv:fM g n (aH h) p=some v):∃ v',fM g n H p'=some v'/\Rn D Y r v v':=by
 unfold fM at hv;split at hv
 .rename_i b o
  split at hv
  .rename_i w cs hb
   obtain⟨c,rfl,hr⟩:=oA hp;obtain⟨g',cs',_,h1,h2,_⟩:=sh.cells hr hb;simp only[fM,h1]
   grind [aDO]
  .simp at hv
 .rename_i rows i o
  obtain⟨rfl,hg⟩:=aCl hp;split at hv
  .rename_i row hrow
   simp only[fM,hrow];exact aDO (aUf hg hrow) hv
  .simp at hv
 .simp at hv
theorem aBO{q b:Bool}{x x' y y':AV}(hx:Rn D Y r x x')(hy:Rn D Y r y y')(hb:iV q x y=some b):iV q x' y'=some b:=by
 unfold iV at hb;split at hb;all_goals grind [eU,dM,iV]
def aNL(D:Nat->Option XFn)(Y:Nat->Option YI)(r:Nat->Option Nat):Option AV->Option AV->Prop
 | some v,some v'=>Rn D Y r v v'
 | none,none=>True
 | _,_=>False
theorem aQT{q:Bool}{k k':AV}(hk:Rn D Y r k k'):∀(es es':List (AV×AV))(o:Option AV),RnP D Y r es es'->aV q k es=some o->∃ o',aV q k' es'=some o'/\aNL D Y r o o':=by
 intro es;induction es with
 | nil =>
   grind [RnP,aV,aNL]
 | cons p es ih =>
   intro es' o hp hf;cases es' with
   | nil=>have:=hp.1;simp at this
   | cons p' es' =>
     obtain⟨h1,h2⟩:=hp.2 0 p p' rfl rfl;obtain⟨a,v⟩:=p;obtain⟨a',v'⟩:=p';simp only[aV]at hf ⊢;split at hf
     .rename_i hb
      rw[aBO hk h1 hb];simp only[oSI]at hf;subst hf;exact⟨some v',rfl,h2⟩
     .rename_i hb
      rw[aBO hk h1 hb];exact ih es' o ⟨by have:=hp.1;grind,λi x y hx hy=>hp.2 (i+1) x y (by grind) (by grind)⟩ hf
     .simp at hf
theorem eH(re:∀ j,Rn D Y r (e j) (env j)){c d n:Nat}{x:Option AO}(hx:aQe x=true)(hb:aW c d e x=some n):aW c d env x=some n:=by
 cases x with
 | none=>exact hb
 | some x =>
   simp only[aW]at hb ⊢;have hr:=aP re (x:=x) hx
   grind [eU]
theorem aNw{k:Nat}{x x' y y':AV}{b:Bool}(hx:Rn D Y r x x')(hy:Rn D Y r y y')(hb:vA k x y=some b):vA k x' y'=some b:=by
 unfold vA at hb;split at hb;all_goals grind [eU,gN,dM,vA]
theorem aKP:∀(ks:List Nat)(xs xs' ys ys':List AV)(b:Bool),RnL D Y r xs xs'->RnL D Y r ys ys'->dX ks xs ys=some b->dX ks xs' ys'=some b:=by
 intro ks;induction ks with
 | nil =>
   grind [RnL,dX]
 | cons k ks ih =>
   intro xs xs' ys ys' b hx hy hb;cases xs with
   | nil=>simp[dX]at hb
   | cons x xs=>cases ys with
     | nil=>simp[dX]at hb
     | cons y ys =>
       obtain⟨x',xs2,rfl,hx1,hx2⟩:=hx.inv;obtain⟨y',ys2,rfl,hy1,hy2⟩:=hy.inv;simp only[dX]at hb ⊢;split at hb
       .rename_i p q hp hq
        rw[aNw hx1 hy1 hp,ih _ _ _ _ _ hx2 hy2 hq];exact hb
       .simp at hb
theorem aGN(sh:SH D Y r h H){s n:Nat}{v v':AV}{new:List AV}(hv:Rn D Y r v v')(hs:fX s (aH h) v=some (n,new)):∃ new',fX s H v'=some (n,new')/\RnL D Y r new new'/\(lH h v=true->lE new=true):=by
 unfold fX at hs;split at hs
 .simp only[oSI,B9]at hs
  obtain⟨rfl,rfl⟩:=hs;rw[sI hv];exact⟨[],rfl,RnL.nil,λ_=>rfl⟩
 .rename_i x
  rw[dM hv];split at hs<;>simp only[oSI,B9,reduceCtorEq]at hs
  rename_i h1;obtain⟨rfl,rfl⟩:=hs;refine⟨x.data.toList.map λb=>.int .u8 (b.toNat:Int),by simp_all [fX],RnL.self λy hy=>?_,λ_=>fJ λy hy=>?_⟩;·obtain⟨b,_,rfl⟩:=F8.1 hy;exact .int _ _
  .obtain⟨b,_,rfl⟩:=F8.1 hy;rfl
 .rename_i rows
  obtain⟨rfl,hg⟩:=aAT hv;split at hs
  .rename_i hall
   simp only[oSI,B9]at hs;obtain⟨rfl,rfl⟩:=hs;have hgd:∀ x∈rows.flatten,Gd x:=λx hx=>by
    grind [List.mem_flatten]
   refine⟨rows.flatten,by simp_all [fX],RnL.self λx hx=>(hgd x hx).rn,λ_=>fJ λx hx=>?_⟩;have:∀ v,Gd v->iD v=true:=λv hv=>by
    induction hv with
    | agg cs _ ih=>simp only[iD];exact fJ ih
    | tup cs _ ih=>simp only[iD];exact fJ ih
    | fn f first cap hf _ _ ih1 ih2=>cases f<;>simp only[iD,fJ ih1,fJ ih2,aG5]<;>exact absurd rfl (hf _)
    | ifc t v _ ih=>simpa [iD]using ih
    | _=>rfl
   grind
  .simp at hs
 .rename_i b o s' len
  split at hs
  .rename_i w cs hb
   obtain⟨c,rfl,hr⟩:=aAS hv;obtain⟨g,cs',h0,h1,h2,h3⟩:=sh.cells hr hb;split at hs
   .rename_i hc
    simp only[oSI,B9]at hs;obtain⟨rfl,rfl⟩:=hs;refine⟨(cs'.drop o).take (len*s),by simp only[fX,h1];rw[if_pos (by rw[<-h2.1];exact hc)],(h2.drop o).take _,λhf=>?_⟩;simp only[lH,h0]at hf
    grind [fJ,jO]
   .simp at hs
  .simp at hs
 .simp at hs
theorem aNA{cs cs':List AV}{l:List UInt8}(h:RnL D Y r cs cs')(hb:iL cs=some l):iL cs'=some l:=by
 induction cs generalizing cs' l with
 | nil=>grind [RnL]
 | cons c cs ih =>
   obtain⟨c',cs2,rfl,h1,h2⟩:=h.inv;unfold iL at hb;split at hb;all_goals grind [Option.map_eq_some_iff,eU,iL]
theorem aME(sh:SH D Y r h H){v v' u:AV}(hv:Rn D Y r v v')(hs:jS (aH h) v=some u):jS H v'=some u/\Gd u:=by
 unfold jS at hs;split at hs;·simp at hs
 .rename_i hne
  unfold oY at hs;split at hs
  .rename_i n cs hsrc
   obtain⟨new',k1,k2,_⟩:=aGN sh hv hsrc;simp only[B2]at hs;obtain⟨l,h1,rfl⟩:=hs;refine⟨?_,.str _⟩;have hne':∀ s,v' ≠ .str s:=by
    intro s e;subst e;cases hv with
    | str=>grind
    | any=>simp[fX]at hsrc
   unfold jS;split;·grind
   .rw[k1];simp only[oY,aNA k2 h1,D1]
  .simp at hs
theorem aOT(re:∀ j,Rn D Y r (e j) (env j)){s:Nat}{lo hi:Option AO}(h1:aQe lo=true)(h2:aQe hi=true){v v' u:AV}(hv:Rn D Y r v v')(hs:mX s e lo hi v=some u):∃ u',mX s env lo hi v'=some u'/\Rn D Y r u u':=by
 unfold mX at hs;split at hs
 .rename_i rows
  obtain⟨rfl,hg⟩:=aAT hv;split at hs
  .rename_i hall
   split at hs
   .rename_i m hm
    split at hs
    .rename_i l hl
     simp only[oSI]at hs;subst hs;refine⟨_,by simp only[mX,hall,AAe,eH re h2 hm,eH re h1 hl],.fs _ λrow hrow=>?_⟩
     grind
    .simp at hs
   .simp at hs
  .simp at hs
 .rename_i b o s' len
  obtain⟨c,rfl,hr⟩:=aAS hv;split at hs
  .rename_i hc
   split at hs
   .rename_i m hm
    split at hs
    .rename_i l hl
     split at hs
     .rename_i hlt
      simp only[oSI]at hs;subst hs;exact⟨_,by simp only[mX,hc,AAe,eH re h2 hm,eH re h1 hl,hlt],.sl _ _ _ _ _ hr⟩
     .rename_i hlt
      split at hs<;>simp only[oSI]at hs<;>subst hs
      .rename_i h0
       subst h0;exact⟨_,by simp only[mX,hc,AAe,eH re h2 hm,eH re h1 hl,hlt,AAd],.sl _ _ _ _ _ hr⟩
      .rename_i h0
       exact⟨_,by simp only[mX,hc,AAe,eH re h2 hm,eH re h1 hl,hlt,AAd,h0],.fs [] (by simp)⟩
    .simp at hs
   .simp at hs
  .simp at hs
 .rw[sI hv]
  split at hs
  .rename_i m hm
   split at hs
   .rename_i l hl
    simp only[oSI]at hs;subst hs;exact⟨_,by simp only[mX,eH re h2 hm,eH re h1 hl],.nilsl⟩
   .simp at hs
  .simp at hs
 .simp at hs
theorem aUF{op:BinOp}{x x' y y' v:AV}(hx:Rn D Y r x x')(hy:Rn D Y r y y')(hb:aER op x y=some v):aER op x' y'=some v/\Rn D Y r v v:=by
 unfold aER at hb;split at hb
 .rw[eU hx,eU hy]
  refine⟨hb,?_⟩;cases op<;>simp only[iK]at hb<;>(try split at hb)<;>simp only[oSI,reduceCtorEq]at hb<;>subst hb<;>constructor
 .rw[dM hx,dM hy]
  refine⟨hb,?_⟩;cases op<;>simp only[aN,reduceCtorEq]at hb<;>(try split at hb)<;>simp only[oSI,reduceCtorEq]at hb<;>subst hb<;>constructor
 .simp at hb
theorem aUn{k:Nat}{x x' y y':AV}{b:Bool}(hx:Rn D Y r x x')(hy:Rn D Y r y y')(hb:aBr k x y=some b):aBr k x' y'=some b:=by
 unfold aBr at hb;split at hb
 all_goals first
  | (simp only[reduceCtorEq]at hb;done)
  | (cases hx<;>cases hy<;>exact hb)
inductive RnE(D:Nat->Option XFn)(Y:Nat->Option YI)(r:Nat->Option Nat)(h:XH)(g:Bool):Eff->Eff->Prop where
 | val (v v':AV) (hv:Rn D Y r v v'):RnE D Y r h g (.val v) (.val v')
 | new (own:Option Nat) (cs cs':List AV) (f:Nat->AV) (hf:∀(q:Nat->Option Nat)(b c:Nat),q b=some c->Rn D Y q (f b) (f c)) (hc:RnL D Y r cs cs') (hg:g=true->lE cs=true)
  (ho:∀ b,own=some b->∃ c g' cs0,r b=some c/\hat h b=some (.blk g' (.cells true cs0))):RnE D Y r h g (.new own (.cells true cs) f) (.new (own.bind r) (.cells true cs') f)
 | newObj (o:Obj) (f:Nat->AV) (hf:∀(q:Nat->Option Nat)(b c:Nat),q b=some c->Rn D Y q (f b) (f c)):RnE D Y r h g (.new none (.obj true o) f) (.new none (.obj true o) f)
 | newMap (es:List (AV×AV)) (f:Nat->AV) (hf:∀(q:Nat->Option Nat)(b c:Nat),q b=some c->Rn D Y q (f b) (f c)) (he:∀ p∈es,Gd p.1/\Gd p.2):RnE D Y r h g (.new none (.map true es) f) (.new none (.map true es) f)
def jD:DOp->Bool
 | .mv x | .box x | .load _ _ x | .nilck x | .not x | .neg x | .conv _ x | .fld _ x | .ext x _ | .len _ x | .mkifc _ x | .bytes x | .strof x | .rngs x | .nxts x=>okO x
 | .pick c a b=>okO c&&okO a&&okO b
 | .alloc z=>okL z
 | .mkmap | .allocb | .stuck=>true
 | .build z ps | .bslice _ _ z ps=>okL z&&ps.all λp=>okO p.2.2
 | .bin _ x y | .binb _ x y | .eqag _ _ x y | .eqn _ _ x y | .idxa _ _ x y | .idx _ x y | .idxv _ _ _ x y | .idxs x y | .app _ _ x y | .mm _ x y | .copy _ x y=>okO x&&okO y
 | .mksl _ _ z x y=>okL z&&(okO x&&okO y)
 | .lookup _ _ z x y=>okA z&&(okO x&&okO y)
 | .store _ x y _=>okO x&&okO y
 | .mkf f c1 c2=>(match f with | .yield _=>false|_=>true)&&(c1.all okO&&c2.all okO)
 | .slarr _ _ x lo hi | .slsl _ x lo hi | .slstr x lo hi=>okO x&&(aQe lo&&aQe hi)
 | .mapup _ m k x=>okO m&&okO k&&okO x
 | .callf _ f xs _=>okO f&&xs.all okO
theorem aQt(sh:SH D Y r h H){q:Bool}{k k' m m':AV}{o:Option AV}(hk:Rn D Y r k k')(hm:Rn D Y r m m')(hl:nA q (aH h) k m=some o) :
 ∃ o',nA q H k' m'=some o'/\aNL D Y r o o':=by
 unfold nA at hl;split at hl
 .rename_i b
  split at hl
  .rename_i w es hb
   obtain⟨c,rfl,hr⟩:=aIA hm;obtain⟨g,es',_,h1,h2,_⟩:=sh.map hr hb;simp only[nA,h1]
   grind [aQT]
  .simp at hl
 .rw[aBI hm]
  simp only[oSI]at hl;subst hl;exact⟨none,rfl,trivial⟩
 .simp at hl
theorem aQs{ok:Bool}{z:AV}(hz:okA z=true){o o':Option AV}(ho:aNL D Y r o o'):Rn D Y r (xF ok z o) (xF ok z o'):=by
 have two:∀{v v':AV}(b:Bool),Rn D Y r v v'->Rn D Y r (.tup [v,.bool b]) (.tup [v',.bool b]):=λb h=>by
  have:=RnL.cons h (RnL.cons (.bool b) RnL.nil);exact .tup _ _ this.1 this.2
 cases o with
 | none=>grind [aDZ,xF,aNL]
 | some v=>cases o' with
   | none=>exact ho.elim
   | some v'=>grind [xF,aNL]
theorem xM{z z':List AV}(hz:RnL D Y r z z'):∀ n:Nat,RnL D Y r (List.replicate n z).flatten (List.replicate n z').flatten
 | 0=>RnL.nil
 | n+1=>by simpa [O4]using hz.append (xM hz n)
theorem aEs{xs ys:List AV}(h1:lE xs=true)(h2:lE ys=true):lE (xs++ys)=true:=fJ λx hx=>by
 grind [jO]
theorem aAm{z cs:List AV}{o:Nat}(h1:lE z=true)(h2:lE cs=true):lE (bJ z o cs)=true:=fJ λx hx=>by
 grind [jO,bJ]
theorem aEL{v:AV}{cs:List AV}(hc:cellsOf v=some cs)(hg:iD v=true):lE cs=true:=by
 cases v<;>simp only[cellsOf,oSI,reduceCtorEq]at hc<;>subst hc<;>first|(simp[iD]at hg;done)|(simpa [iD]using hg)|simp_all [lE]
theorem aQY:∀(ps:List (Nat×Nat×AO))(z cs:List AV),(ps.all λp=>iD (aK e p.2.2))=true->lE z=true->gU z (ps.map λp=>(p.1,p.2.1,aK e p.2.2))=some cs->lE cs=true:=by
 intro ps;induction ps with
 | nil=>simp[gU]
 | cons p ps ih =>
   intro z cs hok hz hf;simp only[O3,B4]at hok;simp only[E7,gU]at hf
   grind [aAm,aEL]
theorem aLP{z:List AV}(hz:lE z=true)(n:Nat):lE (List.replicate n z).flatten=true:=fJ λx hx=>by
 grind [List.mem_flatten,jO]
theorem aUG(sh:SH D Y r h H){s n:Nat}{x x' y y':AV}{eff:Eff}(hx:Rn D Y r x x')(hy:Rn D Y r y y')(ha:tO s n (aH h) x y=some eff) :
 ∃ eff',tO s n H x' y'=some eff'/\RnE D Y r h (lH h x&&lH h y) eff eff':=by
 unfold tO at ha;split at ha;·simp at ha
 .rename_i m new hs
  obtain⟨new',k1,k2,k3⟩:=aGN sh hy hs;split at ha
  .rw[sI hx]
   split at ha
   .rename_i hc
    split at ha<;>simp only[oSI]at ha<;>subst ha
    .rename_i h0
     subst h0;refine⟨_,by simp only[tO,k1];grind,.val _ _ .nilsl⟩
    .rename_i h0
     refine⟨_,by simp only[tO,k1];grind,.new none new new' _ (λq b c hq=>by
      split;·exact .sb _ _ _ hq
      .exact .sl _ _ _ _ _ hq) k2 (λhg=>?_) (by simp)⟩
     grind
   .simp at ha
  .rename_i b len
   obtain⟨c,rfl,hr⟩:=aPD hx;split at ha
   .rename_i cs hb
    obtain⟨g,cs',h0,h1,h2,h3⟩:=sh.cells hr hb;split at ha
    .rename_i hc
     simp only[oSI]at ha;subst ha;refine⟨_,by simp only[tO,k1,h1];rw[if_pos (by rw[<-h2.1];exact hc)];grind,.new (some b) (cs++new) (cs'++new') _ (λq b c hq=>.sb _ _ _ hq) (h2.append k2) (λhg=>?_) (λc hc'=>?_)⟩
     .simp only[B4,lH,h0]at hg
      exact aEs (h3 hg.1) (k3 hg.2)
     grind
    .simp at ha
   .simp at ha
  .rename_i b s' len
   obtain⟨c,rfl,hr⟩:=aAS hx;split at ha
   .rename_i cs hb
    obtain⟨g,cs',h0,h1,h2,h3⟩:=sh.cells hr hb;split at ha
    .rename_i hc
     simp only[oSI]at ha;subst ha;refine⟨_,by simp only[tO,k1,h1];rw[if_pos (by rw[<-h2.1];exact hc)];grind,.new (some b) (cs++new) (cs'++new') _ (λq b c hq=>.sl _ _ _ _ _ hq) (h2.append k2) (λhg=>?_) (λc hc'=>?_)⟩
     .simp only[B4,lH,h0]at hg
      exact aEs (h3 hg.1) (k3 hg.2)
     grind
    .simp at ha
   .simp at ha
  .simp at ha
theorem aJn(sh:SH D Y r h H)(re:∀ j,Rn D Y r (e j) (env j)){op:DOp}(hok:jD op=true){eff:Eff}(he:aD op e (aH h)=some eff) :
 ∃ eff',aD op env H=some eff'/\RnE D Y r h (jQ op e h) eff eff':=by
 cases op with
 | mv x =>
   simp only[aD,oSI]at he;subst he;exact⟨_,rfl,.val _ _ (aP re hok)⟩
 | pick c a b =>
   simp only[jD,B4]at hok;simp only[aD]at he;split at he<;>simp only[oSI,reduceCtorEq]at he
   rename_i t ht;subst he;have hc:=aP re hok.1.1;rw[ht]at hc;refine⟨_,by simp only[aD,gN hc];rfl,.val _ _ ?_⟩
   grind [aP]
 | alloc z =>
   simp only[aD,oSI]at he;subst he;exact⟨_,rfl,.new none z z _ (λq b c hq=>.pt _ _ _ hq) (uC z hok) (λhg=>hg) (by simp)⟩
 | box x =>
   simp only[aD]at he;split at he<;>simp only[oSI,reduceCtorEq]at he
   rename_i cs hc;subst he;obtain⟨cs',h1,h2⟩:=aAs (aP re hok) hc;exact⟨_,by simp only[aD,h1];rfl,.new none cs cs' _ (λq b c hq=>.pt _ _ _ hq) h2 (λhg=>aEL hc hg) (by simp)⟩
 | build z ps =>
   simp only[jD,B4]at hok;simp only[aD]at he;split at he<;>simp only[oSI,reduceCtorEq]at he
   rename_i cs hc;subst he;obtain⟨cs',h1,h2⟩:=aJl (parts:=ps) re ps z z cs hok.2 (uC z hok.1) hc;exact⟨_,by simp only[aD,h1],.val _ _ (.agg _ _ h2.1 h2.2)⟩
 | bslice s len z ps =>
   simp only[jD,B4]at hok;simp only[aD]at he;split at he<;>simp only[oSI,reduceCtorEq]at he
   rename_i cs hc;subst he;obtain⟨cs',h1,h2⟩:=aJl (parts:=ps) re ps _ _ cs hok.2 (xM (uC z hok.1) len) hc;refine⟨_,by simp only[aD,h1];rfl,.new none cs cs' _ (λq b c hq=>.sl _ _ _ _ _ hq) h2 (λhg=>?_) (by simp)⟩;simp only[jQ,B4]at hg;exact aQY ps _ _ hg.2 (aLP hg.1 len) hc
 | load g n x =>
   simp only[aD]at he;split at he<;>simp only[oSI,reduceCtorEq]at he
   rename_i v hv;subst he;obtain⟨v',h1,h2⟩:=aIT sh (aP re hok) hv;exact⟨_,by simp only[aD,h1],.val _ _ h2⟩
 | nilck x =>
   have hx:=aP re (x:=x) hok;simp only[aD]at he;split at he<;>simp only[oSI,reduceCtorEq]at he<;>rename_i h1<;>subst he<;>rw[h1]at hx
   .obtain⟨c,e1,hr⟩:=oA hx
    exact⟨_,by simp only[aD,e1],.val _ _ (.pt _ _ _ hr)⟩
   .obtain⟨c,e1,hr⟩:=aPF hx
    exact⟨_,by simp only[aD,e1],.val _ _ (.pt _ _ _ hr)⟩
   .exact⟨_,by simp only[aD,(aCl hx).1],.val _ _ (.fp _ _ _ (aCl hx).2)⟩
   .rename_i tt vv
    obtain⟨v',hv1,hv2⟩:∃ v',aK env x = .ifc tt v'/\Rn D Y r (.ifc tt vv) (.ifc tt v'):=by
     generalize aK env x=v' at hx;have hx':=hx;cases hx with
     | ifc t x y hv=>grind
    exact⟨_,by simp only[aD,hv1],.val _ _ hv2⟩
 | bin op x y =>
   simp only[jD,B4]at hok;simp only[aD]at he;split at he<;>simp only[oSI,reduceCtorEq]at he
   rename_i v hv;subst he;obtain⟨h1,h2⟩:=aUF (aP re hok.1) (aP re hok.2) hv;exact⟨_,by simp only[aD,h1],.val _ _ h2⟩
 | binb neg x y =>
   simp only[jD,B4]at hok;have hx:=aP re hok.1;have hy:=aP re hok.2;simp only[aD]at he;split at he<;>simp only[oSI,reduceCtorEq]at he
   rename_i a b h1 h2;subst he;rw[h1]at hx;rw[h2]at hy;exact⟨_,by simp only[aD,gN hx,gN hy],.val _ _ (.bool _)⟩
 | eqag neg ks x y =>
   simp only[jD,B4]at hok;have hx:=aP re hok.1;have hy:=aP re hok.2;simp only[aD]at he;split at he
   .rename_i cs ds h1 h2
    rw[h1]at hx;rw[h2]at hy;obtain⟨cs',e1,k1⟩:=aDJ hx;obtain⟨ds',e2,k2⟩:=aDJ hy;split at he<;>simp only[oSI,reduceCtorEq]at he
    rename_i b hb;subst he;exact⟨_,by simp only[aD,e1,e2,aKP _ _ _ _ _ _ k1 k2 hb],.val _ _ (.bool _)⟩
   .simp at he
 | eqn kd neg x y =>
   simp only[jD,B4]at hok;simp only[aD]at he;split at he<;>simp only[oSI,reduceCtorEq]at he
   rename_i b hb;subst he;exact⟨_,by simp only[aD,aUn (aP re hok.1) (aP re hok.2) hb],.val _ _ (.bool _)⟩
 | not x =>
   have hx:=aP re (x:=x) hok;simp only[aD]at he;split at he<;>simp only[oSI,reduceCtorEq]at he
   rename_i b h1;subst he;rw[h1]at hx;exact⟨_,by simp only[aD,gN hx],.val _ _ (.bool _)⟩
 | neg x =>
   have hx:=aP re (x:=x) hok;simp only[aD]at he;split at he<;>simp only[oSI,reduceCtorEq]at he
   rename_i k n h1;subst he;rw[h1]at hx;exact⟨_,by simp only[aD,eU hx],.val _ _ (.int ..)⟩
 | conv k x =>
   have hx:=aP re (x:=x) hok;simp only[aD]at he;split at he<;>simp only[oSI,reduceCtorEq]at he
   rename_i k n h1;subst he;rw[h1]at hx;exact⟨_,by simp only[aD,eU hx],.val _ _ (.int ..)⟩
 | mkf f c1 c2 =>
   simp only[jD,B4]at hok;simp only[aD,oSI]at he;subst he;have h1:=yH re hok.2.1;have h2:=yH re hok.2.2;exact⟨_,rfl,.val _ _ (.fn f _ _ _ _ (λl e=>by grind) h1.1 h1.2 h2.1 h2.2)⟩
 | fld off x =>
   have hx:=aP re (x:=x) hok;simp only[aD]at he;split at he<;>simp only[oSI,reduceCtorEq]at he<;>rename_i h1<;>subst he<;>rw[h1]at hx
   .obtain⟨c,e1,hr⟩:=oA hx
    exact⟨_,by simp only[aD,e1],.val _ _ (.pt _ _ _ hr)⟩
   .exact⟨_,by simp only[aD,(aCl hx).1],.val _ _ (.fp _ _ _ (aCl hx).2)⟩
 | idxa len s x i =>
   simp only[jD,B4]at hok;have hx:=aP re hok.1;have hi:=aP re hok.2;simp only[aD]at he;split at he
   .rename_i b o k n h1 h2
    rw[h1]at hx;rw[h2]at hi;split at he<;>simp only[oSI,reduceCtorEq]at he
    rename_i hc;subst he;obtain⟨c,e1,hr⟩:=oA hx;exact⟨_,by simp only[aD,e1,eU hi];grind,.val _ _ (.pt _ _ _ hr)⟩
   .rename_i rows j o k n h1 h2
    rw[h1]at hx;rw[h2]at hi;split at he<;>simp only[oSI,reduceCtorEq]at he
    rename_i hc;subst he;exact⟨_,by simp only[aD,(aCl hx).1,eU hi];grind,.val _ _ (.fp _ _ _ (aCl hx).2)⟩
   .simp at he
 | idx s x i =>
   simp only[jD,B4]at hok;have hx:=aP re hok.1;have hi:=aP re hok.2;simp only[aD]at he;split at he
   .rename_i b o s' len k n h1 h2
    rw[h1]at hx;rw[h2]at hi;split at he<;>simp only[oSI,reduceCtorEq]at he
    rename_i hc;subst he;obtain⟨c,e1,hr⟩:=aAS hx;exact⟨_,by simp only[aD,e1,eU hi];grind,.val _ _ (.pt _ _ _ hr)⟩
   .rename_i rows k n h1 h2
    rw[h1]at hx;rw[h2]at hi;split at he<;>simp only[oSI,reduceCtorEq]at he
    rename_i hc;subst he;exact⟨_,by simp only[aD,(aAT hx).1,eU hi];grind,.val _ _ (.fp _ _ _ (aAT hx).2)⟩
   .simp at he
 | idxv agg len s x i =>
   simp only[jD,B4]at hok;have hx:=aP re hok.1;have hi:=aP re hok.2;simp only[aD]at he;split at he
   .rename_i cs k n h1 h2
    rw[h1]at hx;rw[h2]at hi;obtain⟨cs',e1,k1⟩:=aDJ hx;split at he
    .rename_i hc
     split at he<;>simp only[oSI,reduceCtorEq]at he
     rename_i v hv;subst he;obtain⟨v',h3,h4⟩:=aDO k1 hv;exact⟨_,by simp only[aD,e1,eU hi];grind,.val _ _ h4⟩
    .simp at he
   .simp at he
 | idxs x i =>
   simp only[jD,B4]at hok;have hx:=aP re hok.1;have hi:=aP re hok.2;simp only[aD]at he;split at he
   .rename_i t k n h1 h2
    rw[h1]at hx;rw[h2]at hi;split at he<;>simp only[oSI,reduceCtorEq]at he
    rename_i hc;subst he;exact⟨_,by simp only[aD,dM hx,eU hi];grind,.val _ _ (.int ..)⟩
   .simp at he
 | mksl s bytes z l c =>
   simp only[jD,B4]at hok;have hl:=aP re hok.2.1;have hc:=aP re hok.2.2;simp only[aD]at he;split at he
   .rename_i l c h1 h2
    rw[h1]at hl;rw[h2]at hc;split at he<;>simp only[oSI,reduceCtorEq]at he
    rename_i hcond;subst he;exact⟨_,by simp only[aD,eU hl,eU hc];grind,.new none _ _ _ (λq b c hq=>.sl _ _ _ _ _ hq) (xM (uC z hok.1) _) (λhg=>aLP (by simpa [jQ]using hg) _) (by simp)⟩
   .simp at he
 | slarr len s x lo hi =>
   simp only[jD,B4]at hok;have hx:=aP re hok.1;simp only[aD]at he;split at he
   .rename_i b o h1
    rw[h1]at hx;obtain⟨c,e1,hr⟩:=oA hx;split at he
    .rename_i w cs m hb hm
     obtain⟨g,cs',h0,k1,k2,k3⟩:=sh.cells hr hb;split at he
     .rename_i l hl
      split at he<;>simp only[oSI,reduceCtorEq]at he
      rename_i hc;subst he;exact⟨_,by simp only[aD,e1,k1,eH re hok.2.2 hm,eH re hok.2.1 hl];rw[if_pos (by rw[<-k2.1];exact hc)],.val _ _ (.sl _ _ _ _ _ hr)⟩
     .simp at he
    .simp at he
   .simp at he
 | slsl s x lo hi =>
   simp only[jD,B4]at hok;simp only[aD]at he;split at he<;>simp only[oSI,reduceCtorEq]at he
   rename_i v hv;subst he;obtain⟨v',h1,h2⟩:=aOT re hok.2.1 hok.2.2 (aP re hok.1) hv;exact⟨_,by simp only[aD,h1],.val _ _ h2⟩
 | slstr x lo hi =>
   simp only[jD,B4]at hok;have hx:=aP re hok.1;simp only[aD]at he;split at he
   .rename_i t h1
    rw[h1]at hx;split at he
    .rename_i m hm
     split at he<;>simp only[oSI,reduceCtorEq]at he
     rename_i l hl;subst he;exact⟨_,by simp only[aD,dM hx,eH re hok.2.2 hm,eH re hok.2.1 hl],.val _ _ (.str _)⟩
    .simp at he
   .simp at he
 | allocb =>
   simp only[aD,oSI]at he;subst he;exact⟨_,rfl,.new none [.nilpt,.nilsl] [.nilpt,.nilsl] _ (λq b c hq=>.bp _ _ hq) (RnL.cons .nilpt (RnL.cons .nilsl RnL.nil)) (λ_=>rfl) (by simp)⟩
 | mkmap =>
   simp only[aD,oSI]at he;subst he;exact⟨_,rfl,.newMap [] _ (λq b c hq=>.mp _ _ hq) (by simp)⟩
 | lookup q ok z m k =>
   simp only[jD,B4]at hok;simp only[aD]at he;split at he<;>simp only[oSI,reduceCtorEq]at he
   rename_i o ho;subst he;obtain⟨o',h1,h2⟩:=aQt sh (aP re hok.2.2) (aP re hok.2.1) ho;exact⟨_,by simp only[aD,h1],.val _ _ (aQs hok.1 h2)⟩
 | ext x i =>
   have hx:=aP re (x:=x) hok;simp only[aD]at he;split at he
   .rename_i vs h1
    rw[h1]at hx;obtain⟨vs',e1,k1⟩:=aHc hx;split at he<;>simp only[oSI,reduceCtorEq]at he
    rename_i v hv;subst he;obtain⟨v',h2,h3⟩:=k1.get hv;exact⟨_,by simp only[aD,e1,h2],.val _ _ h3⟩
   .simp at he
 | len q x =>
   have hx:=aP re (x:=x) hok;simp only[aD]at he;split at he<;>simp only[oSI,reduceCtorEq]at he<;>rename_i h1<;>subst he<;>rw[h1]at hx
   .exact⟨_,by simp only[aD,dM hx],.val _ _ (.int ..)⟩
   .exact⟨_,by simp only[aD,(aAT hx).1],.val _ _ (.int ..)⟩
   .obtain⟨c,e1,hr⟩:=aAS hx
    exact⟨_,by simp only[aD,e1],.val _ _ (.int ..)⟩
   .exact⟨_,by simp only[aD,sI hx],.val _ _ (.int ..)⟩
 | app s n x y =>
   simp only[jD,B4]at hok;simp only[aD]at he ⊢;obtain⟨eff',h1,h2⟩:=aUG sh (aP re hok.1) (aP re hok.2) he;exact⟨eff',h1,h2⟩
 | mm mx x y =>
   simp only[jD,B4]at hok;have hx:=aP re hok.1;have hy:=aP re hok.2;simp only[aD]at he;split at he<;>simp only[oSI,reduceCtorEq]at he
   rename_i k a k' b h1 h2;subst he;rw[h1]at hx;rw[h2]at hy;exact⟨_,by simp only[aD,eU hx,eU hy],.val _ _ (.int ..)⟩
 | mkifc t x =>
   simp only[aD,oSI]at he;subst he;exact⟨_,rfl,.val _ _ (.ifc t _ _ (aP re hok))⟩
 | bytes x =>
   have hx:=aP re (x:=x) hok;simp only[aD]at he;split at he<;>simp only[oSI,reduceCtorEq]at he
   rename_i t h1;subst he;rw[h1]at hx;have hg:∀ x∈(t.data.toList.map λb=>AV.int .u8 (b.toNat:Int)),Gd x:=λx hx=>by
    obtain⟨b,_,rfl⟩:=F8.1 hx;exact .int ..
   exact⟨_,by simp only[aD,dM hx];rfl,.new none _ _ _ (λq b c hq=>.sl _ _ _ _ _ hq) (RnL.self λx hx=>(hg x hx).rn) (λ_=>fJ λx hx=>by
    obtain⟨b,_,rfl⟩:=F8.1 hx;rfl) (by simp)⟩
 | strof x =>
   have hx:=aP re (x:=x) hok;simp only[aD,B2]at he;obtain⟨u,h1,rfl⟩:=he;obtain⟨k1,k2⟩:=aME sh hx h1;exact⟨_,by simp only[aD,k1,D1],.val _ _ k2.rn⟩
 | rngs x =>
   have hx:=aP re (x:=x) hok;simp only[aD]at he;split at he<;>simp only[oSI,reduceCtorEq]at he
   rename_i t h1;subst he;rw[h1]at hx;exact⟨_,by simp only[aD,dM hx],.newObj _ _ (λq b c hq=>.pt _ _ _ hq)⟩
 | nxts x=>simp[aD]at he
 | stuck=>simp[aD]at he
 | store n p x l=>simp[aD]at he
 | copy s x y=>simp[aD]at he
 | mapup q m k x=>simp[aD]at he
 | callf q f xs l=>simp[aD]at he
end
section
variable{P:Program}{B:Base}
theorem aCm{F:Nat->Prop}{w:World}{H:Hp}{Q:AV->Hp->Prop}(S:Nat->Prop)[DecidablePred S](st:St F w H):∀(e:Ending)(w':World),yD F w (λc=>if S c then H c else none) Q e w' ->
 yD F w H (λv H''=>∃ H',Q v H'/\(∀ c,S c\/H c=none->H'' c=H' c)/\(∀ c,¬S c->∀ x,H c=some x->H'' c=some x/\H' c=none)) e w':=by
 rintro e w' ⟨r,v,F',H',rfl,h2,h3,h4,h5⟩;have st1:St F w (λc=>if S c then H c else none):=st.forget λc x hc=>by
  grind
 have hlow:∀ c x,H c=some x->c<w.heap.size:=λc x hc=>st.own_lt hc;have hn:∀ c,¬S c->∀ x,H c=some x->H' c=none:=λc hs x hc=>by
  cases hx:H' c with
  | none=>rfl
  | some y =>
    rcases h2.hdom c (by simp[hx])with h6|h6;all_goals grind
 have hsame:∀ c,¬S c->∀ x,H c=some x->w'.heap[c]?=w.heap[c]?:=λc hs x hc=>h2.same c (hlow c x hc) (by simp[wE,hs]);have hnF:∀ c,¬S c->∀ x,H c=some x->¬F' c:=λc hs x hc hF=>by
  rcases h2.fnew c hF with h6|h6|h6;·exact st.dis c x hc h6
  all_goals grind
 obtain⟨H'',hH⟩:∃ H'':Hp,H''=λc=>if ¬S c/\(H c).isSome=true then H c else H' c:=⟨_,rfl⟩
 have e1:∀ c,S c\/H c=none->H'' c=H' c:=λc hc=>by
  grind
 have e2:∀ c,¬S c->∀ x,H c=some x->H'' c=some x:=λc hs x hc=>by grind
 have cas:∀ c,(S c\/H c=none)\/(¬S c/\∃ x,H c=some x):=λc=>by
  by_cases hs:S c;·grind
  .cases hx:H c with
   | none=>grind
   | some x=>grind
 have hl:∀ c,(if S c then H c else none).isSome=true->(H c).isSome=true:=λc hc=>by
  grind
 refine⟨r,v,F',H'',rfl,⟨h2.sub,λc hc=>?_,λc hc=>?_,λc hc=>?_,h2.le,λc hc hw=>?_,h2.cells,h2.io⟩,⟨h3.lt,λc x hc=>?_,λc x hc=>?_⟩,h4,H',h5,e1,λc hs x hc=>⟨e2 c hs x hc,hn c hs x hc⟩⟩
 .rcases h2.fnew c hc with h6|h6|h6
  all_goals grind
 .rcases cas c with h6|⟨h6,x,h7⟩
  .rw[e1 c h6]at hc
   rcases h2.hdom c hc with h8|h8;all_goals grind
  grind
 .rcases cas c with h6|⟨h6,x,h7⟩
  .simp only[wE,e1 c h6]at hc
   rcases h2.hnew c (by simpa only[wE]using hc)with h8|h8
   .left
    simp only[wE]at h8 ⊢
    grind
   omega
  simp_all [wE]
 .refine h2.same c hc ?_
  simp only[wE]at hw ⊢
  grind
 .rcases cas c with h6|⟨h6,y,h7⟩
  .rw[e1 c h6]at hc;exact h3.dis c x hc
  grind
 .rcases cas c with h6|⟨h6,y,h7⟩
  .rw[e1 c h6]at hc;exact h3.blk c x hc
  .rw[e2 c h6 y h7]at hc
   simp only[oSI]at hc;subst hc;obtain⟨o,k1,k2⟩:=st.blk c y h7;exact⟨o,by grind,k2.up (h2.up st1)⟩
theorem CallV.frameS{fv:AV}{as:List AV}{H:Hp}{Q:AV->Hp->Prop}(S:Nat->Prop)[DecidablePred S](h:CallV B P fv as (λc=>if S c then H c else none) Q) :
 CallV B P fv as H λv H''=>∃ H',Q v H'/\(∀ c,S c\/H c=none->H'' c=H' c)/\(∀ c,¬S c->∀ x,H c=some x->H'' c=some x/\H' c=none):=by
 refine h.conv λF w st=>⟨st.forget λc x hc=>?_,aCm S st⟩
 grind
end
theorem aFO(h:XH)(k:Nat):∀(n:Nat)(todo acc:List Nat),acc.Nodup->(∀ b∈acc,(hat h b).isSome=true/\k<=b)->(cW h k n todo acc).Nodup/\∀ b∈cW h k n todo acc,(hat h b).isSome=true/\k<=b:=by
 intro n;induction n with
 | zero=>simp_all [cW]
 | succ n ih =>
   intro todo acc h1 h2;cases todo with
   | nil=>exact⟨h1,h2⟩
   | cons b rest =>
     simp only[cW]
     grind
theorem yJ(xs:List AV)(h:XH):(iH xs h).Nodup/\∀ b∈iH xs h,(hat h b).isSome=true:=by
 obtain⟨h1,h2⟩:=aFO h 0 yI (mI xs) [] aA6 (by simp);exact⟨h1,λb hb=>(h2 b hb).1⟩
theorem aIJ(fv:AV)(xs:List AV)(h:XH):(jB fv xs h).Nodup/\∀ b∈jB fv xs h,(hat h b).isSome=true:=by
 unfold jB;split
 .unfold yK
  grind [List.nodup_range,yJ]
 grind [yJ]
theorem aFR{b i:Nat}:∀{l:List Nat},gH b l=some i->l[i]?=some b:=by
 intro l;induction l generalizing i with
 | nil=>simp[gH]
 | cons c l ih =>
   grind [Option.map_eq_some_iff,gH]
theorem sS{l:List Nat}(h:l.Nodup){i j b:Nat}(hi:l[i]?=some b)(hj:l[j]?=some b):i=j:=by
 grind [List.pairwise_iff_getElem]
theorem cX(h l:XH)(b:Nat):hat (h++l) b=if b<h.length then hat h b else hat l (b-h.length):=by
 unfold hat
 grind
theorem aBm(f:Option XB->Option XB)(hf:f none=none)(h:XH)(b:Nat):hat (h.map f) b=f (hat h b):=by
 unfold hat
 grind
theorem gO(h:XH)(b:Nat)(x:Option XB)(c:Nat):hat (h.set b x) c=if c=b/\b<h.length then x else hat h c:=by
 unfold hat
 grind
theorem uL{h:XH}{b:Nat}{x:XB}(hx:hat h b=some x):b<h.length:=by
 unfold hat at hx
 grind
theorem aCp:∀(k:Nat)(h:XH)(b:Nat),hat (dF k h) b=if b<k then hat h b else none:=by
 intro k;induction k with
 | zero=>simp[hat,dF]
 | succ k ih =>
   intro h b;cases h with
   | nil =>
     cases b with
     | zero=>rfl
     | succ b =>
       simp_all [hat,dF]
   | cons x xs =>
     cases b with
     | zero=>rfl
     | succ b =>
       simp_all [hat,dF]
@[simp] theorem padTake_length:∀(k:Nat)(h:XH),(dF k h).length=k:=by
  intro k;induction k with
  | zero=>intro h;rfl
  | succ k ih=>intro h;cases h<;>simp[dF,ih]
theorem tF(f:Option XB->Option XB)(acc:List Nat)(h:XH)(hf:f none=none)(i:Nat):hat (acc.map λb=>f (hat h b)) i=match acc[i]? with
 | some b=>f (hat h b)
 | none=>none:=by
 unfold hat
 grind
theorem wL:∀(bs:List Nat)(xs h:XH),(aAG h bs xs).length=h.length
 | [],_,h=>by unfold aAG;rfl
 | b::bs,[],h=>by rfl
 | b::bs,x::xs,h=>by unfold aAG;rw[wL bs xs];simp
theorem pQ:∀(bs:List Nat)(xs h:XH)(c:Nat),c∉bs->hat (aAG h bs xs) c=hat h c
 | [],_,h,c,_=>by unfold aAG;rfl
 | b::bs,[],h,c,_=>by rfl
 | b::bs,x::xs,h,c,hc=>by
   unfold aAG;rw[pQ bs xs _ c (λe=>hc (by simp[e])),gO,if_neg (λe=>hc (by simp[e.1]))]
theorem aCo:∀(bs:List Nat)(xs h:XH)(i c:Nat),bs.Nodup->bs.length=xs.length->(∀ b∈bs,b<h.length)->bs[i]?=some c->hat (aAG h bs xs) c=hat xs i
 | [],_,h,i,c,_,_,_,hi=>by simp at hi
 | b::bs,[],h,i,c,_,hl,_,_=>by simp at hl
 | b::bs,x::xs,h,i,c,hn,hl,hlt,hi=>by
   unfold aAG;rw[J9]at hn;cases i with
   | zero =>
     simp at hi;subst hi;rw[pQ bs xs _ b hn.1,gO,if_pos ⟨rfl,hlt b (by simp)⟩];simp[hat]
   | succ i =>
     rw[aCo bs xs _ i c hn.2 (by grind) (λb hb=>by grind) (by grind)];simp[hat]
section
variable{D:Nat->Option XFn}{Y:Nat->Option YI}{r:Nat->Option Nat}
theorem RnB.renum{r':Nat->Option Nat}{s:Nat->Option Nat}(hs:∀ b c d,s b=some c->r b=some d->r' c=some d){c:Nat}{x:XB}{y:ABlk}(h:RnB D Y r c x y):RnB D Y r' c (rnB s x) y:=by
 cases h with
 | cells g w xs ys h hg =>
   cases g with
   | false=>exact .cells c false w _ _ (h.renum hs) (by simp)
   | true =>
     obtain⟨rfl,h2⟩:=h.same (hg rfl);exact .cells c true w _ _ (RnL.self λx hx=>(h2 x hx).rn) hg
 | map g w xs ys h hg =>
   cases g with
   | false =>
     refine .map c false w _ _ ⟨by simpa using h.1,λi p q hp hq=>?_⟩ (by simp);rw[C3,B2]at hp;obtain⟨z,hz,rfl⟩:=hp;exact⟨(h.2 i z q hz hq).1.renum hs,(h.2 i z q hz hq).2.renum hs⟩
   | true =>
     refine .map c true w _ _ ⟨h.1,λi p q hp hq=>?_⟩ hg;obtain⟨h1,h2⟩:=h.2 i p q hp hq;obtain⟨h3,h4⟩:=hg rfl p (B3 hp);obtain⟨e1,g1⟩:=h1.same h3;obtain⟨e2,g2⟩:=h2.same h4;rw[e1,e2];exact⟨g1.rn,g2.rn⟩
 | obj g w o=>cases g<;>exact .obj c _ w o
 | loop i vs s o d L ps a b hY h hD hsite hv=>exact .loop c i _ s o d L ps a b hY h hD hsite (hv.renum hs)
 | gh st p=>exact .gh c st p y
theorem RnB.mono{x:XB}{r':Nat->Option Nat}{Y':Nat->Option YI}(hr:∀ b c,r b=some c->r' b=some c){c:Nat}(hY:(∃ K s vs st,x = .loop K s vs st)->Y' c=Y c){y:ABlk}(h:RnB D Y r c x y):RnB D Y' r' c x y:=by
 cases h with
 | cells g w xs ys h hg=>exact .cells c g w _ _ (h.mono hr) hg
 | map g w xs ys h hg=>exact .map c g w _ _ ⟨h.1,λi p q hp hq=>⟨(h.2 i p q hp hq).1.mono hr,(h.2 i p q hp hq).2.mono hr⟩⟩ hg
 | obj g w o=>exact .obj c g w o
 | loop i vs s o d L ps a b h1 h hD hsite hv=>exact .loop c i _ s o d L ps a b (by rw[hY ⟨_,_,_,_,rfl⟩];exact h1) h hD hsite (hv.mono hr)
 | gh st p=>exact .gh c st p y
theorem uB{s:Nat->Option Nat}{x:XB}{st:CSt}{p:Hp->Nat->Prop}(h:rnB s x = .gh st p):x = .gh st p:=by
 unfold rnB at h
 grind
theorem sJ{s:Nat->Option Nat}{o:Option XB}{x:XB}(h:rnO s o=some x):∃ y,o=some y/\x=rnB s y:=by
 cases o with
 | none=>simp[rnO]at h
 | some y=>grind [rnO]
end
def Sub(r r':Nat->Option Nat):Prop:=∀ b c,r b=some c->r' b=some c
theorem Sub.refl(r:Nat->Option Nat):Sub r r:=λ_ _ h=>h
theorem Sub.trans{r r' r'':Nat->Option Nat}(h:Sub r r')(k:Sub r' r''):Sub r r'':=λb c hb=>k b c (h b c hb)
def fO(D:Nat->Option XFn)(Y:Nat->Option YI)(r:Nat->Option Nat)(v:AV)(h:XH):AV->Hp->Prop:=λv' H' =>
 ∃ r',Sub r r'/\SH D Y r' h H'/\Rn D Y r' v v'
def FnS(P:Program)(B:Base)(D:Nat->Option XFn)(Y:Nat->Option YI)(run:fC):Prop :=
 ∀(r:Nat->Option Nat)(h:XH)(H:Hp)(K:Nat)(as as':List AV)(v:AV)(h':XH),SH D Y r h H->RnL D Y r as as'->run K as h=some (v,h')->FnW B P K as' H (fO D Y r v h')
def YS(P:Program)(B:Base)(D:Nat->Option XFn)(Y:Nat->Option YI)(runY:gR):Prop :=
 ∀(r:Nat->Option Nat)(h:XH)(H:Hp)(fv fv':AV)(as as':List AV)(v:AV)(h':XH),SH D Y r h H->Rn D Y r fv fv'->RnL D Y r as as' ->
   runY fv as h=some (v,h')->CallV B P fv' as' H (fO D Y r v h')
section
variable{P:Program}{B:Base}{D:Nat->Option XFn}{Y:Nat->Option YI}{r:Nat->Option Nat}{h:XH}{H:Hp}
theorem aQL(h:XH)(k b:Nat):hat (h.drop k) b=hat h (k+b):=by
 simp[hat]
def aBj(r:Nat->Option Nat)(acc:List Nat):Nat->Option Nat:=λi=>(acc[i]?).bind r
def aFq(h:XH)(r:Nat->Option Nat)(G:Nat->Nat->Prop)(b c:Nat):Prop:=r b=some c\/((∃ st p,hat h b=some (.gh st p))/\G b c)
theorem xG(sh:SH D Y r h H){G:Nat->Nat->Prop}(hG:GhR h r G H){acc:List Nat}(hn:acc.Nodup)(hlive:∀ b∈acc,(hat h b).isSome=true)(S:Nat->Prop)[DecidablePred S](hS:∀ c,S c↔∃ b∈acc,aFq h r G b c) :
 SH D Y (aBj r acc) (iU acc h) (λc=>if S c then H c else none)/\(∀ v v',Rn D Y r v v'->Rn D Y (aBj r acc) (rnA (λb=>gH b acc) v) v')/\(∀ v v',RnL D Y r v v'->RnL D Y (aBj r acc) (mR (λb=>gH b acc) v) v'):=by
 have hs:∀ b c d,gH b acc=some c->r b=some d->aBj r acc c=some d:=λb c d h1 h2=>by
  simp only[aBj,aFR h1,D9,h2]
 have lat:∀ i x,hat (iU acc h) i=some x->∃ b y,acc[i]?=some b/\hat h b=some y/\x=rnB (λb=>gH b acc) y:=λi x hx=>by
  unfold iU at hx;rw[tF _ _ _ rfl]at hx
  grind [sJ]
 have gD:∀ i b,acc[i]?=some b->acc.getD i 0=b:=λi b hi=>by grind
 refine⟨⟨λi c hi=>?_,λi j c x y hx hy h1 h2=>?_,λi x hx=>?_,λi=>G (acc.getD i 0),hG.via (λi=>acc.getD i 0) (λi st p hi=>?_) (λi x hi=>?_) (λi j st p x hi hj hne he=>?_) λi st p n y hi hnn hy=>?_⟩,λv v' hv=>hv.renum hs,λv v' hv=>hv.renum hs⟩
 .simp only[aBj]at hi
  cases ha:acc[i]? with
  | none=>grind
  | some b=>simpa [iU]using (B6.1 ha).1
 .simp only[aBj]at h1 h2
  cases ha:acc[i]? with
  | none=>grind
  | some b=>cases hb:acc[j]? with
    | none=>grind
    | some b' =>
      rw[ha]at h1;rw[hb]at h2;simp only[D9]at h1 h2;obtain⟨x1,hx1⟩:=C5.1 (hlive b (B3 ha));obtain⟨x2,hx2⟩:=C5.1 (hlive b' (B3 hb));have:=sh.inj b b' c x1 x2 hx1 hx2 h1 h2
      grind [sS]
 .unfold iU at hx
  rw[tF _ _ _ rfl]at hx;split at hx
  .rename_i b hb
   obtain⟨y,hy,rfl⟩:=sJ hx;obtain⟨c,z,h1,h2,h3⟩:=sh.blk b y hy;refine⟨c,z,by simp only[aBj,hb,D9,h1],?_,h3.renum hs⟩;rw[if_pos ((hS c).2 ⟨b,B3 hb,.inl h1⟩)];exact h2
  .simp at hx
 .obtain⟨b,y,k1,k2,k3⟩:=lat i _ hi
  have:=uB k3.symm;subst this;rw[gD i b k1];exact⟨k2,by simp only[aBj,k1,D9]⟩
 .obtain⟨b,y,k1,k2,k3⟩:=lat i _ hi
  rw[gD i b k1];exact .inl ⟨y,k2,by simp only[aBj,k1,D9],λst p e=>uB (k3.symm.trans e)⟩
 .grind [sS]
 .obtain⟨b,y',k1,k2,k3⟩:=lat i _ hi
  have:=uB k3.symm;subst this;rw[gD i b k1]at hnn;rw[if_pos ((hS n).2 ⟨b,B3 k1,.inr ⟨⟨st,p,k2⟩,hnn⟩⟩)];exact hy
theorem aIQ(sh:SH D Y r h H){G:Nat->Nat->Prop}(hG:GhR h r G H){acc:List Nat}(hn:acc.Nodup)(hlive:∀ b∈acc,(hat h b).isSome=true){S:Nat->Prop}(hS:∀ c,S c↔∃ b∈acc,aFq h r G b c)
 {rl:Nat->Option Nat} {hl:XH} {H' H'':Hp} (hsub:Sub (aBj r acc) rl) (sh':SH D Y rl hl H') (e1:∀ c,S c\/H c=none->H'' c=H' c) (e2:∀ c,¬S c->∀ x,H c=some x->H'' c=some x/\H' c=none) :
 ∃ r',Sub r r'/\SH D Y r' (jW acc h hl) H''/\(∀ v v',Rn D Y rl v v'->Rn D Y r' (rnA (iA acc h.length) v) v')/\(∀ b c,r b=some c->(hat h b).isSome=true->b∉acc->H'' c=H c):=by
 obtain⟨r',hr'⟩:∃ r':Nat->Option Nat,r'=λb=>if b<h.length then r b else rl (b-h.length+acc.length):=⟨_,rfl⟩
 have hlt:∀ b∈acc,b<h.length:=λb hb=>by
  obtain⟨x,hx⟩:=C5.1 (hlive b hb);exact uL hx
 have r1:∀ b,b<h.length->r' b=r b:=λb hb=>by grind
 have r2:∀ i,acc.length<=i->r' (h.length+(i-acc.length))=rl i:=λi hi=>by
  grind
 have at1:∀ i b,acc[i]?=some b->∃ c,r b=some c/\rl i=some c:=λi b hi=>by
  obtain⟨x,hx⟩:=C5.1 (hlive b (B3 hi));obtain⟨c,y,h1,_,_⟩:=sh.blk b x hx;exact⟨c,h1,hsub i c (by simp only[aBj,hi,D9,h1])⟩
 have hs:∀ i b d,iA acc h.length i=some b->rl i=some d->r' b=some d:=λi b d h1 h2=>by
  unfold iA at h1
  grind
 have len:(jW acc h hl).length=h.length+(hl.length-acc.length):=by simp[jW,wL]
 have hat1:∀ i b,acc[i]?=some b->hat (jW acc h hl) b=rnO (iA acc h.length) (hat hl i):=λi b hi=>by
  have hb:=hlt b (B3 hi);have hi':=(B6.1 hi).1;unfold jW;rw[cX,wL,if_pos hb,aCo acc _ h i b hn (by simp) hlt hi,aBm _ rfl,aCp,if_pos hi']
 have hat2:∀ b,b<h.length->b∉acc->hat (jW acc h hl) b=hat h b:=λb hb hna=>by
  unfold jW;rw[cX,wL,if_pos hb,pQ _ _ _ _ hna]
 have hat3:∀ b,h.length<=b->hat (jW acc h hl) b=rnO (iA acc h.length) (hat hl (acc.length+(b-h.length))):=λb hb=>by
  unfold jW;rw[cX,wL,if_neg AS,aBm _ rfl,aQL]
 have from1:∀ b x,hat (jW acc h hl) b=some x->(b<h.length/\b∉acc/\hat h b=some x)\/∃ i y,iA acc h.length i=some b/\hat hl i=some y/\x=rnB (iA acc h.length) y/\(b<h.length->b∈acc):=λb x hx=>by
  by_cases hb:b<h.length
  .by_cases ha:b∈acc
   .obtain⟨i,hi⟩:=I5.1 ha
    rw[hat1 i b hi]at hx;obtain⟨y,hy,rfl⟩:=sJ hx;refine .inr ⟨i,y,?_,hy,rfl,λ_=>ha⟩;unfold iA
    grind
   grind
  .rw[hat3 b AS]at hx
   obtain⟨y,hy,rfl⟩:=sJ hx;refine .inr ⟨acc.length+(b-h.length),y,?_,hy,rfl,λh=>absurd h hb⟩;unfold iA
   grind
 have far:∀ b c,r b=some c->(hat h b).isSome=true->b∉acc->¬S c/\∃ x,H c=some x:=λb c hb hl2 hna=>by
  obtain⟨x,hx⟩:=C5.1 hl2;obtain⟨c',y,h1,h2,_⟩:=sh.blk b x hx;rw[hb]at h1;simp only[oSI]at h1;subst h1;refine⟨λhSc=>?_,y,h2⟩;obtain⟨b',h3,h4⟩:=(hS c).1 hSc;obtain⟨x',hx'⟩:=C5.1 (hlive b' h3);rcases h4 with h4|⟨⟨st,p,h4⟩,h5⟩
  .have:=sh.inj b b' c x x' hx hx' hb h4
   grind
  .exact(hG.2 b' b st p x c h4 hx (λe=>hna (e▸h3)) h5).1 hb
 have farG:∀ b st p n,hat h b=some (.gh st p)->b∉acc->G b n->¬S n/\∃ x,H n=some x:=λb st p n hb hna hn'=>by
  obtain⟨c,_,k2⟩:=hG.1 b st p hb;refine⟨λhSn=>?_,k2.live hn'⟩;obtain⟨b',h3,h4⟩:=(hS n).1 hSn;obtain⟨x',hx'⟩:=C5.1 (hlive b' h3);have:=hG.2 b b' st p x' n hb hx' (λe=>hna (e▸h3)) hn';rcases h4 with h4|⟨⟨st',p',h4⟩,h5⟩;all_goals grind
 have bl:∀ i y,hat hl i=some y->∃ c z,rl i=some c/\H'' c=some z/\H' c=some z/\RnB D Y rl c y z:=λi y hy=>by
  obtain⟨c,z,h1,h2,h3⟩:=sh'.blk i y hy;refine⟨c,z,h1,?_,h2,h3⟩;by_cases hSc:S c\/H c=none;·grind
  .simp only[not_or]at hSc
   obtain⟨x,hx⟩:=M9.1 hSc.2
   grind
 obtain⟨G',hG'⟩:=sh'.gh;have backI:∀ i i' j,iA acc h.length i=some j->iA acc h.length i'=some j->i=i':=λi i' j k1 k2=>by
  unfold iA at k1 k2
  grind [sS]
 have gA:∀ j n,j<h.length->j∉acc->((((j<h.length/\j∉acc)/\G j n)\/∃ i,iA acc h.length i=some j/\G' i n/\(j<h.length->j∈acc))↔G j n):=λj n h1 h2 =>
  ⟨λh=>h.elim (λh=>h.2) λ⟨i,_,_,k3⟩=>absurd (k3 h1) h2,λh=>.inl ⟨⟨h1,h2⟩,h⟩⟩
 have gB:∀ i j n,iA acc h.length i=some j->(j<h.length->j∈acc)->((((j<h.length/\j∉acc)/\G j n)\/∃ i,iA acc h.length i=some j/\G' i n/\(j<h.length->j∈acc))↔G' i n):=λi j n h1 h2 =>
  ⟨λh=>h.elim (λh=>absurd (h2 h.1.1) h.1.2) λ⟨i',k1,k2,_⟩=>by grind,λh=>.inr ⟨i,h1,h,h2⟩⟩
 have gB2:∀ i st p n,hat hl i=some (.gh st p)->G' i n->(∃ x,H' n=some x)/\∀ y,H' n=some y->H'' n=some y:=λi st p n hi hn'=>by
  obtain⟨c,_,k2⟩:=hG'.1 i st p hi;obtain⟨x,hx⟩:=k2.live hn';refine⟨⟨x,hx⟩,λy hy=>?_⟩;by_cases hSc:S n\/H n=none;·grind
  .simp only[not_or]at hSc
   obtain⟨x',hx'⟩:=M9.1 hSc.2
   grind
 have ghs:∃ G2,GhR (jW acc h hl) r' G2 H'':=by
  refine⟨λj n=>((j<h.length/\j∉acc)/\G j n)\/∃ i,iA acc h.length i=some j/\G' i n/\(j<h.length->j∈acc),λj st p hj=>?_,λj j' st p x n hj hj' hne hn'=>?_⟩
  .rcases from1 j _ hj with ⟨h1,h2,h3⟩|⟨i,y,h1,h2,h3,h4⟩
   .obtain⟨c,k1,k2⟩:=hG.1 j st p h3
    refine⟨c,by grind,(k2.congr λn=>gA j n h1 h2).mono λn y hn' hy=>?_⟩
    grind
   .have:=uB h3.symm
    subst this;obtain⟨c,k1,k2⟩:=hG'.1 i st p h2;exact⟨c,hs i j c h1 k1,(k2.congr λn=>gB i j n h1 h4).mono λn y hn' hy=>(gB2 i st p n h2 ((gB i j n h1 h4).1 hn')).2 y hy⟩
  .rcases from1 j _ hj with ⟨h1,h2,h3⟩|⟨i,y,h1,h2,h3,h4⟩
   .have hn2:=(gA j n h1 h2).1 hn'
    obtain⟨f1,z,f2⟩:=farG j st p n h3 h2 hn2;have f3:=(e2 n f1 z f2).2;rcases from1 j' _ hj' with ⟨g1,g2,g3⟩|⟨i',y',g1,g2,g3,g4⟩
    .have:=hG.2 j j' st p x n h3 g3 hne hn2
     grind
    .refine⟨λhr2=>?_,λst' p' hx hh=>?_⟩
     .obtain⟨c',z',k1,_,k3,_⟩:=bl i' y' g2
      grind
     .rw[hx]at g3
      have:=uB g3.symm;subst this;obtain⟨⟨w,hw⟩,_⟩:=gB2 i' st' p' n g2 ((gB i' j' n g1 g4).1 hh)
      grind
   .have:=uB h3.symm
    subst this;have hn2:=(gB i j n h1 h4).1 hn';obtain⟨⟨w,hw⟩,_⟩:=gB2 i st p n h2 hn2;rcases from1 j' _ hj' with ⟨g1,g2,g3⟩|⟨i',y',g1,g2,g3,g4⟩
    .refine⟨λhr2=>?_,λst' p' hx hh=>?_⟩
     .rw[r1 j' g1]at hr2
      obtain⟨k1,z,k2⟩:=far j' n hr2 (by simp[g3]) g2
      grind
     .subst hx
      obtain⟨k1,z,k2⟩:=farG j' st' p' n g3 g2 ((gA j' n g1 g2).1 hh)
      grind
    .have hii:i≠i':=λe=>by grind
     have:=hG'.2 i i' st p y' n h2 g2 hii hn2;refine⟨λhr2=>?_,λst' p' hx hh=>?_⟩
     .obtain⟨c',z',k1,_,_,_⟩:=bl i' y' g2
      grind
     grind [uB]
 refine⟨r',λb c hb=>by rw[r1 b (sh.dom b c hb)];exact hb,⟨λb c hb=>?_,λb b' c x x' hx hx' hb hb'=>?_,λb x hx=>?_,ghs⟩,λv v' hv=>hv.renum hs,λb c hb hl2 hna=>?_⟩
 .rw[len]
  by_cases hlt':b<h.length;·omega
  .rw[hr']at hb
   simp only[hlt',AAd]at hb;have:=sh'.dom _ _ hb;omega
 .rcases from1 b x hx with ⟨h1,h2,h3⟩|⟨i,y,h1,h2,_,_⟩
  .rcases from1 b' x' hx' with ⟨k1,k2,k3⟩|⟨j,y',k1,k2,_,k4⟩
   .rw[r1 b h1]at hb;rw[r1 b' k1]at hb'
    exact sh.inj b b' c x x' h3 k3 hb hb'
   .exfalso
    rw[r1 b h1]at hb
    grind
  .rcases from1 b' x' hx' with ⟨k1,k2,k3⟩|⟨j,y',k1,k2,_,_⟩
   .exfalso
    rw[r1 b' k1]at hb'
    grind
   .obtain⟨c1,_,g1,_⟩:=bl i y h2
    obtain⟨c2,_,g2,_⟩:=bl j y' k2;have e3:=hs i b c1 h1 g1;have e4:=hs j b' c2 k1 g2;rw[hb]at e3;rw[hb']at e4;simp only[oSI]at e3 e4;subst e3;subst e4;have:=sh'.inj i j c y y' h2 k2 g1 g2
    grind
 .rcases from1 b x hx with ⟨h1,h2,h3⟩|⟨i,y,h1,h2,rfl,_⟩
  .obtain⟨c,z,g1,g2,g3⟩:=sh.blk b x h3
   obtain⟨k1,z',k2⟩:=far b c g1 (by simp[h3]) h2;refine⟨c,z,by grind,(e2 c k1 z g2).1,g3.mono (λb c hb=>by rw[r1 b (sh.dom b c hb)];exact hb) (λ_=>rfl)⟩
  .obtain⟨c,z,g1,g2,_,g4⟩:=bl i y h2
   exact⟨c,z,hs i b c h1 g1,g2,g4.renum hs⟩
 grind
def aWc(D:Nat->Option XFn)(Y:Nat->Option YI)(r:Nat->Option Nat)(h:XH)(H:Hp)(acc:List Nat)(v:AV)(h':XH):AV->Hp->Prop:=λv' H' =>
 fO D Y r v h' v' H'/\∀ b c,r b=some c->(hat h b).isSome=true->b∉acc->H' c=H c
theorem aEN(sh:SH D Y r h H){acc:List Nat}(hn:acc.Nodup)(hlive:∀ b∈acc,(hat h b).isSome=true){fv:AV}{as:List AV}{v:AV}{hl:XH}
 (hc:∀ G,GhR h r G H->∀ S:Nat->Prop,[DecidablePred S]->(∀ c,S c↔∃ b∈acc,aFq h r G b c)->CallV B P fv as (λc=>if S c then H c else none) (fO D Y (aBj r acc) v hl)) :
 CallV B P fv as H (aWc D Y r h H acc (rnA (iA acc h.length) v) (jW acc h hl)):=by
 classical
 obtain⟨G,hG⟩:=sh.gh;refine CallV.mono (CallV.frameS (λc=>∃ b∈acc,aFq h r G b c) (hc G hG _ λc=>Iff.rfl)) ?_;rintro v' H'' ⟨H',⟨rl,h1,h2,h3⟩,e1,e2⟩;obtain⟨r',k1,k2,k3,k4⟩:=aIQ sh hG hn hlive (λc=>Iff.rfl) h1 h2 e1 e2;exact⟨⟨r',k1,k2,k3 v v' h3⟩,k4⟩
theorem yA{run:fC}{runY:gR}(hf:FnS P B D Y run)(hy:YS P B D Y runY)(sh:SH D Y r h H){fv fv':AV}{as as':List AV}(h1:Rn D Y r fv fv')(h2:RnL D Y r as as'){v:AV}{h':XH}
 (hx:gJ run runY fv as h=some (v,h')):CallV B P fv' as' H (aWc D Y r h H (jB fv as h) v h'):=by
 unfold gJ at hx;split at hx
 .rename_i g first cap
  cases h1 with
  | fn _ _ ys _ vs hf0 hl1 k1 hl2 k2 =>
  have hA:=RnL.append (RnL.append ⟨hl1,k1⟩ h2) ⟨hl2,k2⟩;cases hg:lU g with
  | true =>
    rw[hg]at hx;simp only[aGs]at hx;have:=hf _ _ _ g _ (ys++as'++vs) v h' sh hA hx;refine CallV.mono (fv:=.fn (.func g) ys vs) this λv' H' hp=>⟨hp,λb c _ hb hna=>absurd ?_ hna⟩;simp only[jB,hg,yK,aC5,I2];obtain⟨x,hx⟩:=C5.1 hb;exact⟨uL hx,hb⟩
  | false =>
    rw[hg]at hx;simp only[aGs,B2]at hx;obtain⟨⟨v0,hl⟩,hrun,hm⟩:=hx;simp only[aBM,B9]at hm;obtain⟨rfl,rfl⟩:=hm;obtain⟨hn,hlive⟩:=yJ (first++as++cap) h;simp only[jB,hg,yK];refine aEN sh hn hlive λG hG S _ hS=>?_;obtain⟨g1,g2,g3⟩:=xG sh hG hn hlive S hS;have:=hf _ _ _ g _ (ys++as'++vs) v0 hl g1 (g3 _ _ hA) hrun;exact this
 .rename_i l
  simp only[B2]at hx;obtain⟨⟨v0,hl⟩,hrun,hm⟩:=hx;simp only[aBM,B9]at hm;obtain⟨rfl,rfl⟩:=hm;obtain⟨hn,hlive⟩:=aIJ (.fn (.yield l) [] []) as h;refine aEN sh hn hlive λG hG S _ hS=>?_;obtain⟨g1,g2,g3⟩:=xG sh hG hn hlive S hS;exact hy _ _ _ _ _ _ _ v0 hl g1 (g2 _ _ h1) (g3 _ _ h2) hrun
 .simp at hx
end
section
variable{P:Program}{B:Base}{D:Nat->Option XFn}{Y:Nat->Option YI}{r:Nat->Option Nat}{e env:aJ}{h:XH}{H:Hp}
theorem SH.ro(sh:SH D Y r h H):SH D Y r (h.map roX) (jV H):=by
 have live:∀ b x,hat (h.map roX) b=some x->∃ g y,hat h b=some (.blk g y)/\x = .blk g y.ro:=λb x hx=>by
  rw[aBm _ rfl]at hx;cases hb:hat h b with
  | none=>rw[hb]at hx;simp[roX]at hx
  | some y =>
    rw[hb]at hx;cases y with
    | blk g y=>simp only[roX,oSI]at hx;grind
    | loop _ _ _ s=>simp[roX]at hx
    | gh _ _=>simp[roX]at hx
 refine⟨λb c hb=>by simpa using sh.dom b c hb,λb b' c x x' hx hx' h1 h2=>?_,λb x hx=>?_,GhR.no λb st p hx=>?_⟩
 .obtain⟨g,y,k1,_⟩:=live b x hx
  obtain⟨g',y',k2,_⟩:=live b' x' hx';exact sh.inj b b' c _ _ k1 k2 h1 h2
 .obtain⟨g,y,k1,rfl⟩:=live b x hx
  obtain⟨c,z,k2,k3,k4⟩:=sh.blk b _ k1;refine⟨c,z.ro,k2,by simp[jV,k3],?_⟩;cases k4 with
  | cells g w xs ys h hg=>exact .cells c _ false _ _ h hg
  | map g w xs ys h hg=>exact .map c _ false _ _ h hg
  | obj g w o=>exact .obj c _ false o
 grind
theorem CallV.quietOf{fv:AV}{as:List AV}{v:AV}(h:CallV B P fv as (jV H) λv' H'=>v'=v/\∀ c,(jV H c).isSome=true->(H' c).isSome=true) :
 CallV B P fv as (jV H) λv' H'=>v'=v/\H'=jV H:=by
 refine h.conv λF w st=>⟨st,?_⟩;rintro e w' ⟨q,v',F',H',rfl,h2,h3,h4,rfl,h5⟩;have hE:Ext F w (jV H) F' w' (jV H):=⟨h2.sub,h2.fnew,λb hb=>.inl hb,λb hb=>.inl hb,h2.le,h2.same,h2.cells,h2.io⟩;refine⟨q,v',F',jV H,rfl,hE,⟨h3.lt,λb x hb=>?_,λb x hb=>?_⟩,h4,rfl,rfl⟩
 .obtain⟨y,hy⟩:=C5.1 (h5 b (by simp[hb]))
  exact h3.dis b y hy
 .obtain⟨o,k1,k2⟩:=st.blk b x hb
  exact⟨o,by rw[h2.same b (st.own_lt hb) (aJI H b)];exact k1,k2.up (h2.up st)⟩
theorem aFZ:∀(xs ys:XH),aGa xs ys=true->∀ i x,hat xs i=some x->(∃ y,hat ys i=some y)/\∀ st p,x ≠ .gh st p
 | [],ys,_,i,x,hx=>by simp[hat]at hx
 | x0::xs,[],hk,i,x,hx=>by simp[aGa]at hk
 | x0::xs,y0::ys,hk,i,x,hx=>by
   simp only[aGa,B4,aC4]at hk;cases i with
   | zero =>
     simp only[hat,aC7]at hx ⊢;subst hx;rcases hk.1 with h1|h1;·simp at h1
     .refine⟨C5.1 h1.1,λst p e=>?_⟩
      rw[e]at h1;simp[ghO]at h1
   | succ i =>
     have:=aFZ xs ys hk.2 i x (by simpa [hat]using hx);simpa [hat]using this
theorem aJx{run:fC}(hf:FnS P B D Y run)(sh:SH D Y r h H){fv fv':AV}{as as':List AV}(h1:Rn D Y r fv fv')(h2:RnL D Y r as as'){v:AV}
 (hx:qC run fv as h=some v):Gd v/\CallV B P fv' as' (jV H) λv' H'=>v'=v/\H'=jV H:=by
 classical
 unfold qC at hx;split at hx
 .rename_i g first cap
  obtain⟨hn,hlive⟩:=yJ (first++as++cap) h;simp only at hx;split at hx
  .rename_i v0 hl hrun
   split at hx
   .rename_i hcond
    simp only[B4]at hcond;simp only[oSI]at hx;subst hx;cases h1 with
    | fn _ _ ys _ vs hf0 hl1 k1 hl2 k2 =>
      obtain⟨acc,hacc⟩:∃ acc,acc=iH (first++as++cap) h:=⟨_,rfl⟩;rw[<-hacc]at hn hlive hrun hcond;obtain⟨G,hG⟩:=sh.gh;obtain⟨g1,g2,g3⟩:=xG sh hG hn hlive (λc=>∃ b∈acc,aFq h r G b c) (λc=>Iff.rfl);have hfn:=hf _ _ _ g _ (ys++as'++vs) v0 hl g1.ro (g3 _ _ (RnL.append (RnL.append ⟨hl1,k1⟩ h2) ⟨hl2,k2⟩)) hrun;have hgd:Gd v0:=aKw _ hcond.1;refine⟨hgd,?_⟩;refine CallV.quietOf ?_;have hro:(jV λc=>if ∃ b∈acc,aFq h r G b c then H c else none)=λc=>if ∃ b∈acc,aFq h r G b c then jV H c else none:=by
       funext c;by_cases hc:∃ b∈acc,aFq h r G b c;·simp only[jV,hc,AAe]
       .simp only[jV,hc,AAd];rfl
      rw[hro]at hfn;refine CallV.mono (CallV.frameS (fv:=.fn (.func g) ys vs) (λc=>∃ b∈acc,aFq h r G b c) hfn) ?_;rintro v' H'' ⟨H',⟨rl,m1,m2,m3⟩,e1,e2⟩;refine⟨(m3.same hgd.gr).1,λc hc=>?_⟩;obtain⟨x,hx⟩:=C5.1 hc;by_cases hS:∃ b∈acc,aFq h r G b c
      .rw[e1 c (.inl hS)]
       obtain⟨b,hb,hrb⟩:=hS;obtain⟨i,hi⟩:=I5.1 hb;obtain⟨y,hy⟩:=C5.1 (hlive b hb);have hloc:∃ z,hat (iU acc h) i=some z:=by
        unfold iU;rw[tF _ _ _ rfl,hi];simp only[hy];exact⟨_,rfl⟩
       obtain⟨z,hz⟩:=hloc;obtain⟨⟨z',hz'⟩,hng⟩:=aFZ _ _ hcond.2 i z hz;have hrb:r b=some c:=by
        rcases hrb with h|⟨⟨st,p,h⟩,_⟩;·exact h
        .unfold iU at hz
         rw[tF _ _ _ rfl,hi]at hz;simp only[h,rnO,rnB,oSI]at hz
         grind
       obtain⟨c',y',n1,n2,_⟩:=m2.blk i z' hz';have:=m1 i c (by simp only[aBj,hi,D9,hrb])
       grind
      simp_all
   .simp at hx
  .simp at hx
 .simp at hx
theorem SH.turn(sh:SH D Y r h H){b c:Nat}{x0 x:XB}{y:ABlk}(hb:hat h b=some x0)(hr:r b=some c)(hx:RnB D Y r c x y)(hng:ghX x=false:=by rfl):SH D Y r (h.set b (some x)) (hset H c y):=by
 have live:∀ b' z,hat (h.set b (some x)) b'=some z->(b'=b/\z=x)\/(b'≠b/\hat h b'=some z):=λb' z hz=>by
  grind [gO,uL]
 have liv:∀ b' z,hat (h.set b (some x)) b'=some z->∃ z',hat h b'=some z':=λb' z hz=>by
  grind
 have lg:∀ b' st p,hat (h.set b (some x)) b'=some (.gh st p)->b'≠b/\hat h b'=some (.gh st p):=λb' st p hz=>by
  rcases live b' _ hz with ⟨_,e⟩|h1;·rw[<-e]at hng;cases hng
  .exact h1
 obtain⟨G,hG⟩:=sh.gh;refine⟨λb c hb=>by simpa using sh.dom b c hb,λb1 b2 c' x1 x2 h1 h2 k1 k2=>?_,λb' z hz=>?_,_,hG.via id (λb' st p hb'=>⟨(lg b' st p hb').2,rfl⟩) (λb' z hz=>?_) (λ_ _ _ _ _ _ _ hne=>hne) λb' st p n y' hb' hnn hy=>?_⟩
 .obtain⟨z1,h1⟩:=liv _ _ h1
  obtain⟨z2,h2⟩:=liv _ _ h2;exact sh.inj b1 b2 c' z1 z2 h1 h2 k1 k2
 .rcases live b' z hz with ⟨rfl,rfl⟩|⟨h1,h2⟩
  .simp_all
  .obtain⟨c',y',k1,k2,k3⟩:=sh.blk b' z h2
   refine⟨c',y',k1,?_,k3⟩;rw[aL _ _ (λe=>?_)];·exact k2
   .subst e;exact h1 (sh.inj b' b c' _ _ h2 hb k1 hr)
 .grind
 .obtain⟨k1,k2⟩:=lg b' st p hb'
  rw[aL _ _ (λe=>?_)];·exact hy
  .subst e;exact(hG.2 b' b st p x0 n k2 hb k1 hnn).1 hr
theorem GhR.drop{G:Nat->Nat->Prop}(hG:GhR h r G H){g gc:Nat}{x0:XB}(hg:hat h g=some x0)(hr:r g=some gc):GhR (h.set g none) r (λb=>G (id b)) (pP H gc):=by
 have live:∀ b z,hat (h.set g none) b=some z->b≠g/\hat h b=some z:=λb z hz=>by
  grind [gO,uL]
 refine hG.via id (λb st p hb=>⟨(live b _ hb).2,rfl⟩) (λb z hb=>.inl ⟨z,(live b z hb).2,rfl,λst p e=>e⟩) (λ_ _ _ _ _ _ _ hne=>hne) λb st p n y hb hn hy=>?_;obtain⟨k1,k2⟩:=live b _ hb;have hne:n≠gc:=λe=>by subst e;exact(hG.2 b g st p x0 n k2 hg k1 hn).1 hr
 simp_all [pP]
theorem aFw(sh:SH D Y r h H){n:Nat}{p p' x x':AV}(hp:Rn D Y r p p')(hx:Rn D Y r x x'){h':XH}(hs:qS n h p x=some h'):∃ H',qW n H p' x'=some H'/\SH D Y r h' H'/\∃ b x0,fB p=some b/\hat h b=some x0:=by
 unfold qS at hs;split at hs
 .rename_i b o
  split at hs
  .rename_i g cs vs hb hv
   split at hs
   .rename_i hc
    simp only[oSI]at hs;subst hs;obtain⟨c,rfl,hr⟩:=oA hp;obtain⟨vs',k1,k2⟩:=aAs hx hv;obtain⟨g',cs',k3,k4,k5,k6⟩:=sh.cells hr (w:=true) (cs:=cs) (by unfold aH;rw[hb]);rw[hb]at k3;simp only[oSI,XB.blk.injEq,ABlk.cells.injEq,AAi,and_true]at k3;subst k3;refine⟨_,by simp only[qW,k4,k1];rw[if_pos (by rw[<-k2.1,<-k5.1];exact hc)],sh.turn hb hr (.cells c _ true _ _ (aBD k5 k2) λhg=>?_),b,_,rfl,hb⟩;simp only[B4]at hg
    grind [aAm]
   .simp at hs
  .simp at hs
 .simp at hs
theorem aTI{q:Bool}{k k' v v':AV}(hk:Rn D Y r k k')(hv:Rn D Y r v v'):∀(es es' es2:List (AV×AV)),RnP D Y r es es'->kU q k v es=some es2->∃ es2',kU q k' v' es'=some es2'/\RnP D Y r es2 es2':=by
 have cons:∀{p p':AV×AV}{es es':List (AV×AV)},Rn D Y r p.1 p'.1->Rn D Y r p.2 p'.2->RnP D Y r es es'->RnP D Y r (p::es) (p'::es'):=λh1 h2 h3=>⟨by simp[h3.1],λi x y hx hy=>by
  grind [RnP]⟩
 intro es;induction es with
 | nil =>
   grind [RnP,kU]
 | cons p es ih =>
   intro es' es2 hp hf;cases es' with
   | nil=>grind [RnP]
   | cons p' es' =>
     obtain⟨h1,h2⟩:=hp.2 0 p p' rfl rfl;have hrest:RnP D Y r es es':=⟨by grind [RnP],λi x y hx hy=>hp.2 (i+1) x y (by grind) (by grind)⟩;obtain⟨a,u⟩:=p;obtain⟨a',u'⟩:=p';simp only[kU]at hf ⊢
     grind [aBO,Option.map_eq_some_iff]
theorem aPS{q:Bool}{k v:AV}:∀(es es2:List (AV×AV)),kU q k v es=some es2->∀ p∈es2,(p.1=k\/∃ p0∈es,p.1=p0.1)/\(p.2=v\/∃ p0∈es,p.2=p0.2):=by
 intro es;induction es with
 | nil=>simp[kU]
 | cons p0 es ih =>
   grind [Option.map_eq_some_iff,kU]
theorem aMu(sh:SH D Y r h H){q:Bool}{m m' k k' x x':AV}(hm:Rn D Y r m m')(hk:Rn D Y r k k')(hx:Rn D Y r x x'){h':XH}(hs:wD q h m k x=some h'):∃ H',aAj q H m' k' x'=some H'/\SH D Y r h' H':=by
 unfold wD at hs;split at hs
 .rename_i b
  split at hs
  .rename_i g es hb
   simp only[B2]at hs;obtain⟨es2,h2,rfl⟩:=hs;obtain⟨c,rfl,hr⟩:=aIA hm;obtain⟨g',es',k3,k4,k5,k6⟩:=sh.map hr (w:=true) (es:=es) (by unfold aH;rw[hb]);rw[hb]at k3;simp only[oSI,XB.blk.injEq,ABlk.map.injEq,AAi,and_true]at k3;subst k3;obtain⟨es2',k7,k8⟩:=aTI hk hx es es' es2 k5 h2;refine⟨_,by simp only[aAj,k4,k7,D1],sh.turn hb hr (.map c _ true _ _ k8 λhg p hp=>?_)⟩;simp only[B4]at hg
   grind [aPS]
  .simp at hs
 .simp at hs
theorem aSf(sh:SH D Y r h H){x x' v:AV}(hx:Rn D Y r x x'){h':XH}(hs:aHX h x=some (v,h')):∃ H',aIL H x'=some (v,H')/\Rn D Y r v v/\SH D Y r h' H':=by
 have g3:∀ n m:Int,Rn D Y r (.tup [.bool true,.int .i64 n,.int .i32 m]) (.tup [.bool true,.int .i64 n,.int .i32 m]):=λn m=>.tup _ _ rfl λi a b ha hb=>by
  match i with
  | 0=>simp at ha hb;subst ha hb;exact .bool _
  | 1=>simp at ha hb;subst ha hb;exact .int _ _
  | 2=>simp at ha hb;subst ha hb;exact .int _ _
  | i+3=>simp at ha
 have g1:Rn D Y r (.tup [.bool false]) (.tup [.bool false]):=.tup _ _ rfl λi a b ha hb=>by
  match i with
  | 0=>simp at ha hb;subst ha hb;exact .bool _
  | i+1=>simp at ha
 unfold aHX at hs;split at hs
 .rename_i b
  split at hs
  .rename_i g s pos hb
   obtain⟨c,rfl,hr⟩:=oA hx;obtain⟨g',k3,k4⟩:=sh.obj hr (w:=true) (o:=.stringIter s pos) (by unfold aH;rw[hb]);split at hs<;>simp only[oSI,B9]at hs<;>obtain⟨rfl,rfl⟩:=hs
   .rename_i hlt
    exact⟨_,by simp only[aIL,k4];grind,g3 _ _,sh.turn hb hr (.obj c _ true _)⟩
   .rename_i hlt
    exact⟨H,by simp_all [aIL],g1,sh⟩
  .simp at hs
 .simp at hs
theorem aNO(sh:SH D Y r h H){s:Nat}{x x' y y':AV}(hx:Rn D Y r x x')(hy:Rn D Y r y y'){n:Nat}{h':XH}(hs:aDe s h x y=some (n,h')):∃ H',aEH s H x' y'=some (n,H')/\SH D Y r h' H':=by
 unfold aDe at hs;split at hs
 .rename_i b o s' len m new hsrc
  obtain⟨new',k1,k2,k3⟩:=aGN sh hy hsrc;split at hs
  .rename_i g cs hb
   split at hs
   .rename_i hc
    simp only[oSI,B9]at hs;obtain⟨rfl,rfl⟩:=hs;obtain⟨c,rfl,hr⟩:=aAS hx;obtain⟨g',cs',j3,j4,j5,j6⟩:=sh.cells hr (w:=true) (cs:=cs) (by unfold aH;rw[hb]);rw[hb]at j3;simp only[oSI,XB.blk.injEq,ABlk.cells.injEq,AAi,and_true]at j3;subst j3;refine⟨_,by simp only[aEH,k1,j4];rw[if_pos (by rw[<-j5.1];exact hc)],sh.turn hb hr (.cells c _ true _ _ (aBD j5 (k2.take _)) λhg=>?_)⟩;simp only[B4]at hg
    grind [aAm,fJ,jO]
   .simp at hs
  .simp at hs
 .simp at hs
theorem SH.fresh(sh:SH D Y r h H){own:Option Nat}(g:Bool){x:ABlk}{y:ABlk}{b':Nat}(hb:H b'=none\/own.bind r=some b')
 (ho:∀ b,own=some b->∃ c x0,r b=some c/\hat h b=some x0) (hxy:∀ c,RnB D Y r c (.blk g x) y) :
 Sub r (λb=>if b=h.length then some b' else r b)/\SH D Y (λb=>if b=h.length then some b' else r b) (vV h own g x) (hset H b' y):=by
 have hsub:Sub r (λb=>if b=h.length then some b' else r b):=λb c hb=>by
  have:=sh.dom b c hb
  grind
 have len:(vV h own g x).length=h.length+1:=by unfold vV;grind
 have live:∀ b z,hat (vV h own g x) b=some z->(b=h.length/\z = .blk g x)\/(b<h.length/\own≠some b/\hat h b=some z):=λb z hz=>by
  unfold vV at hz;cases own with
  | none =>
    simp only at hz;rw[cX]at hz;split at hz;·grind
    .by_cases he:b=h.length
     .simp_all [hat]
     .have:b-h.length=(b-h.length-1)+1:=AS
      rw[this]at hz;simp[hat]at hz
  | some b0 =>
    simp only at hz;rw[cX]at hz;simp only[G6]at hz;split at hz;·grind [gO]
    .by_cases he:b=h.length
     .simp_all [hat]
     .have:b-h.length=(b-h.length-1)+1:=AS
      rw[this]at hz;simp[hat]at hz
 have other:∀ b c z,hat h b=some z->own≠some b->r b=some c->c≠b':=λb c z hz hne hr e=>by
  subst e;obtain⟨c',y',h1,h2,_⟩:=sh.blk b z hz;rw[hr]at h1;simp only[oSI]at h1;subst h1;rcases hb with hb|hb;·grind
  .cases own with
   | none=>simp at hb
   | some b0 =>
     simp only[D9]at hb;obtain⟨_,x0,_,h4⟩:=ho b0 rfl;exact hne (by rw[sh.inj b b0 c z x0 hz h4 hr hb])
 obtain⟨G,hG⟩:=sh.gh;have lg:∀ b st p,hat (vV h own g x) b=some (.gh st p)->b<h.length/\own≠some b/\hat h b=some (.gh st p):=λb st p hz=>by
  grind
 have gne:∀ b st p n,hat (vV h own g x) b=some (.gh st p)->G b n->n≠b':=λb st p n hz hnn e=>by
  obtain⟨k1,k2,k3⟩:=lg b st p hz;subst e;obtain⟨c,_,k4⟩:=hG.1 b st p k3;obtain⟨y1,k5⟩:=k4.live hnn;rcases hb with hb|hb;·grind
  .cases own with
   | none=>simp at hb
   | some b0 =>
     simp only[D9]at hb;obtain⟨_,x0,_,h4⟩:=ho b0 rfl;exact(hG.2 b b0 st p x0 n k3 h4 (λe=>k2 (by rw[e])) hnn).1 hb
 refine⟨hsub,λb c hb=>?_,λb1 b2 c x1 x2 h1 h2 k1 k2=>?_,λb z hz=>?_,_,hG.via id (λb st p hz=>?_) (λb z hz=>?_) (λ_ _ _ _ _ _ _ hne=>hne) λb st p n y' hz hnn hy=>?_⟩
 .rw[len]
  split at hb;·omega
  .have:=sh.dom b c hb;omega
 .rcases live b1 x1 h1 with ⟨rfl,_⟩|⟨l1,n1,m1⟩
  .grind
  .rcases live b2 x2 h2 with ⟨rfl,_⟩|⟨l2,n2,m2⟩
   .grind
   .simp only[show b1≠h.length by omega,AAd]at k1
    simp only[show b2≠h.length by omega,AAd]at k2;exact sh.inj b1 b2 c x1 x2 m1 m2 k1 k2
 .rcases live b z hz with ⟨rfl,rfl⟩|⟨l1,n1,m1⟩
  .exact⟨b',y,by simp,hset_same _ _ _,(hxy b').mono hsub (λ_=>rfl)⟩
  .obtain⟨c,y',g1,g2,g3⟩:=sh.blk b z m1
   refine⟨c,y',hsub b c g1,?_,g3.mono hsub (λ_=>rfl)⟩
   grind [aL]
 .grind
 .grind
 grind [aL]
structure SR(D:Nat->Option XFn)(Y:Nat->Option YI)(r:Nat->Option Nat)(e:aJ)(h:XH)(env:aJ)(H:Hp):Prop where
 sh:SH D Y r h H
 re:∀ j,Rn D Y r (e j) (env j)
theorem SR.put{r':Nat->Option Nat}{h':XH}{H':Hp}(sr:SR D Y r e h env H)(hs:Sub r r')(sh:SH D Y r' h' H'){v v':AV}(hv:Rn D Y r' v v')(d:Option Nat):SR D Y r' (bD e d v) h' (bD env d v') H':=by
 refine⟨sh,λj=>?_⟩;cases d with
 | none=>exact(sr.re j).mono hs
 | some d =>
   simp only[bD,upd];split;·exact hv
   .exact(sr.re j).mono hs
theorem aGd(sr:SR D Y r e h env H){o:DOper}{b:Bool}(hb:gd o e=some b):gd o env=some b:=by
 unfold gd at hb ⊢;split at hb;·exact hb
 .rename_i g want hg
  have hr:=sr.re g
  grind [gN,aHc]
def aUS(D:Nat->Option XFn)(Y:Nat->Option YI)(r:Nat->Option Nat)(e:aJ)(h:XH)(K:aJ->Hp->Prop):Prop:=∀ r' env' H',Sub r r'->SR D Y r' e h env' H'->K env' H'
theorem aAy{run:fC}{runY:gR}(sr:SR D Y r e h env H){d:Option Nat}{op:DOp}(hq:op.isQ=true)(hok:jD op=true){e':aJ}{h':XH}(hx:dJ run runY d op e h=some (e',h')){K:aJ->Hp->Prop}
 (hK:aUS D Y r e' h' K):iR B P d op K env H:=by
 have hx':(match aD op e (aH h)with
  | some (.val v)=>some (bD e d v,h)
  | some (.new own x f)=>some (bD e d (f h.length),vV h own (jQ op e h) x)
  | none=>none)=some (e',h'):=by
  rw[<-hx];cases op<;>first|rfl|(simp[DOp.isQ]at hq)
 rw[uX hq,dN];split at hx'
 .rename_i v hv
  simp only[oSI,B9]at hx';obtain⟨rfl,rfl⟩:=hx';obtain⟨eff',h1,h2⟩:=aJn sr.sh sr.re hok hv;refine⟨eff',h1,?_⟩;cases h2 with
  | val _ v' hv'=>exact hK r _ _ (Sub.refl r) (sr.put (Sub.refl r) sr.sh hv' d)
 .rename_i own x f hv
  simp only[oSI,B9]at hx';obtain⟨rfl,rfl⟩:=hx';obtain⟨eff',h1,h2⟩:=aJn sr.sh sr.re hok hv;refine⟨eff',h1,?_⟩;cases h2 with
  | new _ cs cs' _ hf hc hg ho =>
    intro b' hb';obtain⟨k1,k2⟩:=sr.sh.fresh (own:=own) (jQ op e h) (x:=.cells true cs) (y:=.cells true cs') (b':=b') hb' (λb hb=>by
     grind) (λc=>.cells c _ true _ _ hc hg)
    exact hK _ _ _ k1 (sr.put k1 k2 (hf _ _ _ (by simp)) d)
  | newObj o _ hf =>
    intro b' hb';obtain⟨k1,k2⟩:=sr.sh.fresh (own:=none) (jQ op e h) (x:=.obj true o) (y:=.obj true o) (b':=b') (by grind) (λb hb=>by simp at hb) (λc=>.obj c _ true o);exact hK _ _ _ k1 (sr.put k1 k2 (hf _ _ _ (by simp)) d)
  | newMap es _ hf hes =>
    intro b' hb';obtain⟨k1,k2⟩:=sr.sh.fresh (own:=none) (jQ op e h) (x:=.map true es) (y:=.map true es) (b':=b') (by grind) (λb hb=>by simp at hb) (λc=>.map c _ true _ _ ⟨rfl,λi x y hx hy=>by
     rw[hx]at hy;simp at hy;subst hy;have:=hes x (B3 hx);exact⟨this.1.rn,this.2.rn⟩⟩ (λ_ p hp=>⟨(hes p hp).1.gr,(hes p hp).2.gr⟩))
    exact hK _ _ _ k1 (sr.put k1 k2 (hf _ _ _ (by simp)) d)
 grind
theorem jX{run:fC}{runY:gR}(hf:FnS P B D Y run)(hy:YS P B D Y runY)(sr:SR D Y r e h env H){d:Option Nat}{op:DOp}(hok:jD op=true){e':aJ}{h':XH}
 (hx:dJ run runY d op e h=some (e',h')) {K:aJ->Hp->Prop} (hK:aUS D Y r e' h' K):iR B P d op K env H:=by
 by_cases hq:op.isQ=true;·grind [aAy]
 .cases op with
  | store n p x l =>
    simp only[jD,B4]at hok;simp only[dJ,B2]at hx;obtain⟨h2,hs,heq⟩:=hx;simp only[B9]at heq;obtain⟨rfl,rfl⟩:=heq;obtain⟨H',k1,k2,_⟩:=aFw sr.sh (aP sr.re hok.1) (aP sr.re hok.2) hs;simp only[iR,k1,optW_some];exact hK r _ _ (Sub.refl r) (sr.put (Sub.refl r) k2 (.any _) d)
  | copy s x y =>
    simp only[jD,B4]at hok;simp only[dJ,B2]at hx;obtain⟨⟨n,h2⟩,hs,heq⟩:=hx;simp only[B9]at heq;obtain⟨rfl,rfl⟩:=heq;obtain⟨H',k1,k2⟩:=aNO sr.sh (aP sr.re hok.1) (aP sr.re hok.2) hs;simp only[iR,k1,optW_some];exact hK r _ _ (Sub.refl r) (sr.put (Sub.refl r) k2 (.int _ _) d)
  | mapup q m k x =>
    simp only[jD,B4]at hok;simp only[dJ,B2]at hx;obtain⟨h2,hs,heq⟩:=hx;simp only[B9]at heq;obtain⟨rfl,rfl⟩:=heq;obtain⟨H',k1,k2⟩:=aMu sr.sh (aP sr.re hok.1.1) (aP sr.re hok.1.2) (aP sr.re hok.2) hs;simp only[iR,k1,optW_some];exact hK r _ _ (Sub.refl r) (sr.put (Sub.refl r) k2 (.any _) d)
  | nxts x =>
    simp only[dJ,B2]at hx;obtain⟨⟨v,h2⟩,hs,heq⟩:=hx;simp only[B9]at heq;obtain⟨rfl,rfl⟩:=heq;obtain⟨H',k1,k2,k3⟩:=aSf sr.sh (aP sr.re (x:=x) hok) hs;simp only[iR,k1,optW_some];exact hK r _ _ (Sub.refl r) (sr.put (Sub.refl r) k3 k2 d)
  | callf q f xs l =>
    simp only[jD,B4]at hok;cases q with
    | true =>
      simp only[dJ,B2]at hx;obtain⟨v,hs,heq⟩:=hx;simp only[B9]at heq;obtain⟨rfl,rfl⟩:=heq;obtain⟨k1,k2⟩:=aJx (P:=P) (B:=B) hf sr.sh (aP sr.re hok.1) (yH sr.re hok.2) hs;exact⟨v,k2,hK r _ _ (Sub.refl r) (sr.put (Sub.refl r) sr.sh k1.rn d)⟩
    | false =>
      simp only[dJ,B2]at hx;obtain⟨⟨v,h2⟩,hs,heq⟩:=hx;simp only[B9]at heq;obtain⟨rfl,rfl⟩:=heq;refine CallV.mono (yA (P:=P) (B:=B) hf hy sr.sh (aP sr.re hok.1) (yH sr.re hok.2) hs) ?_;rintro v' H' ⟨⟨r',k1,k2,k3⟩,_⟩;exact hK r' _ _ k1 (sr.put k1 k2 k3 d)
  | _=>exact absurd rfl hq
def aBc(ops:List DOper):Bool:=ops.all λo=>jD o.op
theorem lW{run:fC}{runY:gR}(hf:FnS P B D Y run)(hy:YS P B D Y runY):∀(ops:List DOper)(r:Nat->Option Nat)(e:aJ)(h:XH)(env:aJ)(H:Hp)(e':aJ)(h':XH)(K:aJ->Hp->Prop),aBc ops=true->SR D Y r e h env H ->
 fP run runY ops e h=some (e',h')->aUS D Y r e' h' K->RS B P ops K env H:=by
 intro ops;induction ops with
 | nil =>
   intro r e h env H e' h' K _ sr hx hK;simp only[fP,oSI,B9]at hx;obtain⟨rfl,rfl⟩:=hx;exact hK r env H (Sub.refl r) sr
 | cons o ops ih =>
   intro r e h env H e' h' K hok sr hx hK;simp only[aBc,O3,B4]at hok;simp only[fP]at hx;simp only[RS,opW];split at hx
   .rename_i hg
    rw[aGd sr hg];simp only[E9]at hx;obtain⟨⟨e1,h1⟩,hx1,hx2⟩:=hx;refine jX hf hy sr hok.1 hx1 λr' env' H' hs sr'=>?_;exact ih r' e1 h1 env' H' e' h' K hok.2 sr' hx2 λr2 env2 H2 hs2 sr2=>hK r2 env2 H2 (hs.trans hs2) sr2
   .rename_i hg
    rw[aGd sr hg];simp only;exact ih r _ h _ H e' h' K hok.2 (sr.put (Sub.refl r) sr.sh (.tup [] [] rfl (by simp)) o.dst) hx hK
   .simp at hx
def LogR(r:Nat->Option Nat)(h:XH)(L:List (Nat×Nat))(L':Log):Prop:=(∀ q∈L,(hat h q.2).isSome=true)/\∀ j c,L' j=some c->∃ b,(j,b)∈L/\r b=some c
theorem yV{ix:Nat}{d:Option Nat}{op:DOp}{K:KL}{L:Log}(h1:∀ n p x l,op ≠ .store n p x l)(h2:∀ f xs l,op ≠ .callf false f xs l) :
 bE B P ix d op K env H L=iR B P d op (λe h=>K e h (eV ix op env L)) env H:=by
 cases op<;>first
  | rfl
  | (exact absurd rfl (h1 _ _ _ _))
  | (rename_i q f xs l;cases q;exact absurd rfl (h2 _ _ _);rfl)
mutual
theorem aPk:∀(x y:AV),cP x y=true->x=y
 | .int k n,.int k' n',h=>by simp[cP]at h;obtain⟨rfl,rfl⟩:=h;rfl
 | .bool a,.bool b,h=>by simp[cP]at h;subst h;rfl
 | .str s,.str t,h=>by
   simp[cP]at h;obtain⟨s⟩:=s;obtain⟨t⟩:=t;obtain⟨s⟩:=s;obtain⟨t⟩:=t;simp at h;subst h;rfl
 | .agg xs,.agg ys,h=>by rw[sE xs ys (by simpa [cP]using h)]
 | .tup xs,.tup ys,h=>by rw[sE xs ys (by simpa [cP]using h)]
 | .sl b o s n,.sl b' o' s' n',h=>by simp[cP]at h;obtain⟨rfl,rfl,rfl,rfl⟩:=h;rfl
 | .pt b o,.pt b' o',h=>by simp[cP]at h;obtain⟨rfl,rfl⟩:=h;rfl
 | .mp b,.mp b',h=>by simp[cP]at h;subst h;rfl
 | .nilsl,.nilsl,_=>rfl
 | .nilpt,.nilpt,_=>rfl
 | .nilmap,.nilmap,_=>rfl
 | .nilfn,.nilfn,_=>rfl
 | .nilifc,.nilifc,_=>rfl
 | .fn f xs us,.fn g ys vs,h=>by
   simp only[cP,B4,AAf]at h;rw[h.1,sE xs ys h.2.1,sE us vs h.2.2]
 | .fs xs,.fs ys,h=>by rw[aDs xs ys (by simpa [cP]using h)]
 | .any,y,h=>by cases y<;>simp[cP]at h
 | .fp ..,y,h=>by cases y<;>simp[cP]at h
 | .ifc ..,y,h=>by cases y<;>simp[cP]at h
theorem sE:∀(xs ys:List AV),iY xs ys=true->xs=ys
 | [],[],_=>rfl
 | x::xs,y::ys,h=>by
   simp only[iY,B4]at h;rw[aPk x y h.1,sE xs ys h.2]
 | [],_::_,h=>by simp[iY]at h
 | _::_,[],h=>by simp[iY]at h
theorem aDs:∀(xs ys:List (List AV)),aFI xs ys=true->xs=ys
 | [],[],_=>rfl
 | x::xs,y::ys,h=>by
   simp only[aFI,B4]at h;rw[sE x y h.1,aDs xs ys h.2]
 | [],_::_,h=>by simp[aFI]at h
 | _::_,[],h=>by simp[aFI]at h
end
mutual
theorem aPl{r':Nat->Option Nat}(hs:Sub r r'):∀(x y x' y':AV),cP x y=true->Rn D Y r x x'->Rn D Y r' y y'->x'=y'
 | .int k n,.int k' n',x',y',h,h1,h2=>by simp[cP]at h;obtain⟨rfl,rfl⟩:=h;rw[eU h1,eU h2]
 | .bool a,.bool b,x',y',h,h1,h2=>by simp[cP]at h;subst h;rw[gN h1,gN h2]
 | .str s,.str t,x',y',h,h1,h2=>by
   simp[cP]at h;have:s=t:=by cases s;cases t;simp_all
   subst this;rw[dM h1,dM h2]
 | .agg xs,.agg ys,x',y',h,h1,h2=>by
   obtain⟨xs',rfl,k1⟩:=aDJ h1;obtain⟨ys',rfl,k2⟩:=aDJ h2;rw[sG hs xs ys xs' ys' (by simpa [cP]using h) k1 k2]
 | .tup xs,.tup ys,x',y',h,h1,h2=>by
   obtain⟨xs',rfl,k1⟩:=aHc h1;obtain⟨ys',rfl,k2⟩:=aHc h2;rw[sG hs xs ys xs' ys' (by simpa [cP]using h) k1 k2]
 | .sl b o s n,.sl b' o' s' n',x',y',h,h1,h2=>by
   simp[cP]at h;obtain⟨rfl,rfl,rfl,rfl⟩:=h;obtain⟨c,rfl,k1⟩:=aAS h1;obtain⟨c',rfl,k2⟩:=aAS h2;rw[hs b c k1]at k2;simp at k2;rw[k2]
 | .pt b o,.pt b' o',x',y',h,h1,h2=>by
   simp[cP]at h;obtain⟨rfl,rfl⟩:=h;obtain⟨c,rfl,k1⟩:=oA h1;obtain⟨c',rfl,k2⟩:=oA h2;rw[hs b c k1]at k2;simp at k2;rw[k2]
 | .mp b,.mp b',x',y',h,h1,h2=>by
   simp[cP]at h;subst h;obtain⟨c,rfl,k1⟩:=aIA h1;obtain⟨c',rfl,k2⟩:=aIA h2;rw[hs b c k1]at k2;simp at k2;rw[k2]
 | .nilsl,.nilsl,x',y',h,h1,h2=>by rw[sI h1,sI h2]
 | .nilpt,.nilpt,x',y',h,h1,h2=>by rw[aDI h1,aDI h2]
 | .nilmap,.nilmap,x',y',h,h1,h2=>by rw[aBI h1,aBI h2]
 | .nilfn,.nilfn,x',y',h,h1,h2=>by rw[aIz h1,aIz h2]
 | .nilifc,.nilifc,x',y',h,h1,h2=>by rw[aFM h1,aFM h2]
 | .fn f xs us,.fn g ys vs,x',y',h,h1,h2=>by
   simp only[cP,B4,AAf]at h;obtain⟨rfl,h3,h4⟩:=h;cases h1 with
   | fn _ _ xs' _ us' hf1 a1 a2 a3 a4 =>
     cases h2 with
     | fn _ _ ys' _ vs' hf2 b1 b2 b3 b4 =>
       rw[sG hs xs ys xs' ys' h3 ⟨a1,a2⟩ ⟨b1,b2⟩,sG hs us vs us' vs' h4 ⟨a3,a4⟩ ⟨b3,b4⟩]
     | yield=>exact absurd rfl (hf1 _)
   | yield l c hr =>
     cases h2 with
     | fn _ _ ys' _ vs' hf2=>exact absurd rfl (hf2 _)
     | yield _ c' hr' =>
       rw[hs l c hr]at hr';simp at hr';rw[hr']
 | .any,y,_,_,h,_,_=>by cases y<;>simp[cP]at h
 | .fs xs,.fs ys,x',y',h,h1,h2=>by
   simp only[cP]at h;rw[(aAT h1).1,(aAT h2).1,aDs xs ys h]
 | .fp ..,y,_,_,h,_,_=>by cases y<;>simp[cP]at h
 | .ifc ..,y,_,_,h,_,_=>by cases y<;>simp[cP]at h
theorem sG{r':Nat->Option Nat}(hs:Sub r r'):∀(xs ys xs' ys':List AV),iY xs ys=true->RnL D Y r xs xs'->RnL D Y r' ys ys'->xs'=ys'
 | [],[],xs',ys',_,h1,h2=>by rw[h1.nil_inv,h2.nil_inv]
 | x::xs,y::ys,xs',ys',h,h1,h2=>by
   simp only[iY,B4]at h;obtain⟨x',xs2,rfl,k1,k2⟩:=h1.inv;obtain⟨y',ys2,rfl,k3,k4⟩:=h2.inv;rw[aPl hs x y x' y' h.1 k1 k3,sG hs xs ys xs2 ys2 h.2 k2 k4]
 | [],_::_,_,_,h,_,_=>by simp[iY]at h
 | _::_,[],_,_,h,_,_=>by simp[iY]at h
end
end
section
variable{P:Program}{B:Base}{D:Nat->Option XFn}{Y:Nat->Option YI}{r:Nat->Option Nat}{e env:aJ}{h:XH}{H:Hp}
theorem LogR.mono{r':Nat->Option Nat}{h':XH}{L:List (Nat×Nat)}{L':Log}(hl:LogR r h L L')(hs:Sub r r')(hk:∀ q∈L,(hat h q.2).isSome=true->(hat h' q.2).isSome=true):LogR r' h' L L' :=
 ⟨λq hq=>hk q hq (hl.1 q hq),λj c hj=>let ⟨b,h1,h2⟩:=hl.2 j c hj; ⟨b,h1,hs b c h2⟩⟩
theorem aLJ(sr:SR D Y r e h env H){ix:Nat}{op:DOp}(hok:jD op=true){L:List (Nat×Nat)}{L':Log}(hl:LogR r h L L'){eff:Eff}(he:aD op e (aH h)=some eff):LogR r h (aNa ix op e L) (eV ix op env L'):=by
 cases op with
 | load g n x =>
   have hx:=aP sr.re (x:=x) hok;simp only[aNa,eV];simp only[aD]at he;split at he<;>simp only[oSI,reduceCtorEq]at he
   rename_i v hv;unfold fM at hv;split at hv
   .rename_i b o hb
    rw[hb]at hx;obtain⟨c,k1,k2⟩:=oA hx;simp only[fB,hb,k1];have hlive:(hat h b).isSome=true:=by
     split at hv
     .rename_i w cs hc
      obtain⟨g',cs',k3,_⟩:=sr.sh.cells k2 hc;simp[k3]
     .simp at hv
    refine⟨λq hq=>?_,λj c' hj=>?_⟩
    .rcases C4.1 hq with rfl|hq
     .exact hlive
     .exact hl.1 q hq
    .simp only at hj
     split at hj;·grind
     .obtain⟨b',k3,k4⟩:=hl.2 j c' hj
      grind
   .rename_i rows i o hb
    rw[hb]at hx;simp only[fB,hb,(aCl hx).1];refine⟨hl.1,λj c' hj=>?_⟩;simp only at hj;split at hj;·simp at hj
    .exact hl.2 j c' hj
   .simp at hv
 | _=>exact hl
theorem aCe{run:fC}{runY:gR}(hf:FnS P B D Y run)(hy:YS P B D Y runY):∀(ops:List DOper)(r:Nat->Option Nat)(e:aJ)(h:XH)(L:List (Nat×Nat))(env:aJ)(H:Hp)(L':Log)(e':aJ)(h':XH)(K:aJ->Hp->Prop),aBc ops=true->SR D Y r e h env H ->
 LogR r h L L'->fV run runY ops e h L=some (e',h')->aUS D Y r e' h' K->RD B P ops K env H L':=by
 intro ops;induction ops with
 | nil =>
   intro r e h L env H L' e' h' K _ sr _ hx hK;simp only[fV,oSI,B9]at hx;obtain⟨rfl,rfl⟩:=hx;exact hK r env H (Sub.refl r) sr
 | cons o ops ih =>
   intro r e h L env H L' e' h' K hok sr hl hx hK;simp only[aBc,O3,B4]at hok;simp only[fV]at hx;simp only[RD,opD];split at hx
   .rename_i hg
    rw[aGd sr hg];simp only[optW_some,aEF,AAe];split at hx
    .rename_i hlog
     simp only[E9]at hx;obtain⟨⟨e1,h1⟩,hx1,hx2⟩:=hx;split at hx2
     .rename_i hpost
      have next:∀ r' env' H' L2,Sub r r'->SR D Y r' e1 h1 env' H'->LogR r' h1 (aNa o.ix o.op e L) L2->RD B P ops K env' H' L2:=λr' env' H' L2 hs sr' hl' =>
       ih r' e1 h1 _ env' H' L2 e' h' K hok.2 sr' hl' hx2 λr2 env2 H2 hs2 sr2=>hK r2 env2 H2 (hs.trans hs2) sr2
      revert hx1 hlog hpost next;generalize o.op=op at hok ⊢;intro hlog hx1 hpost next;have hok:=hok.1;by_cases hq:op.isQ=true
      .rw[yV (λn p x l e=>by subst e;simp[DOp.isQ]at hq) (λf xs l e=>by subst e;simp[DOp.isQ]at hq)]
       refine aAy sr hq hok hx1 λr' env' H' hs sr'=>next r' env' H' _ hs sr' ?_;have hx':(match aD op e (aH h)with
        | some (.val v)=>some (bD e o.dst v,h)
        | some (.new own x f)=>some (bD e o.dst (f h.length),vV h own (jQ op e h) x)
        | none=>none)=some (e1,h1):=by
        rw[<-hx1];cases op<;>first|rfl|(simp[DOp.isQ]at hq)
       split at hx'
       .rename_i v hv
        simp only[oSI,B9]at hx';obtain⟨_,rfl⟩:=hx';exact(aLJ sr hok hl hv).mono hs λ_ _ h=>h
       .rename_i own x f hv
        simp only[oSI,B9]at hx';obtain⟨_,rfl⟩:=hx';refine(aLJ sr hok hl hv).mono hs λq hq' hlive=>?_;unfold vV;rw[cX];cases own with
        | none =>
          obtain⟨x,hx⟩:=C5.1 hlive;simp only[uL hx,AAe,hlive]
        | some b0 =>
          obtain⟨x,hx⟩:=C5.1 hlive;simp only[G6,uL hx,AAe];rw[gO];split
          .rename_i hc
           exfalso;cases op with
           | app s n x y =>
             simp only[aD,tO]at hv;split at hv;·simp at hv
             .split at hv
              .grind
              .rename_i b' len hbx
               split at hv
               .split at hv
                .simp only[oSI,Eff.new.injEq]at hv
                 obtain⟨h1,_⟩:=hv;subst h1;simp only[zQ,D5]at hlog;have:=hlog q hq';rw[hbx]at this;simp[fB,hc.1]at this
                .simp at hv
               .simp at hv
              .rename_i b' s' len hbx
               split at hv
               .split at hv
                .simp only[oSI,Eff.new.injEq]at hv
                 obtain⟨h1,_⟩:=hv;subst h1;simp only[zQ,D5]at hlog;have:=hlog q hq';rw[hbx]at this;simp[fB,hc.1]at this
                .simp at hv
               .simp at hv
              .simp at hv
           | _ =>
             simp only[aD]at hv
             first
              | (simp at hv;done)
              | ((repeat' split at hv)<;>simp at hv)
          omega
       grind
      .cases op with
       | store n p x l =>
         simp only[jD,B4]at hok;simp only[dJ,B2]at hx1;obtain⟨h2,hs,heq⟩:=hx1;simp only[B9]at heq;obtain⟨rfl,rfl⟩:=heq;obtain⟨H',k1,k2,b0,x0,k3,k4⟩:=aFw sr.sh (aP sr.re hok.1) (aP sr.re hok.2) hs;refine⟨λj hj c hc hbl=>?_,?_⟩
         .obtain⟨b,m1,m2⟩:=hl.2 j c hc
          simp only[zQ,D5]at hlog;have h3:=hlog (j,b) m1;simp only[hj,List.contains_iff_mem,aC4,J7,bne_iff_ne,ne_eq]at h3;have h3:fB (aK e p)≠some b:=by
           grind
          have hp:=aP sr.re hok.1;cases hv:aK e p<;>rw[hv]at k3 hp h3<;>simp only[fB,oSI,reduceCtorEq]at k3
          all_goals
           subst k3
           first
            | obtain⟨c',e1,e2⟩:=oA hp
            | obtain⟨c',e1,e2⟩:=aAS hp
            | obtain⟨c',e1,e2⟩:=aIA hp
            | obtain⟨c',e1,e2⟩:=aPD hp
            | obtain⟨c',e1,e2⟩:=rn_ch hp
           rw[e1]at hbl;simp only[fB,oSI]at hbl h3;subst hbl;obtain⟨y,hy⟩:=C5.1 (hl.1 _ m1);exact h3 (by rw[sr.sh.inj _ _ c' _ _ k4 hy e2 m2])
         .simp only[k1,optW_some]
          refine next r _ _ L' (Sub.refl r) (sr.put (Sub.refl r) k2 (.any _) o.dst) (hl.mono (Sub.refl r) λq hq hlive=>?_);unfold qS at hs
          grind [gO]
       | copy s x y =>
         rw[yV (by simp) (by simp)];refine jX hf hy sr hok hx1 λr' env' H' hs sr'=>next r' env' H' L' hs sr' (hl.mono hs λq hq hlive=>?_);simp only[dJ,B2]at hx1;obtain⟨⟨n,h2⟩,hc,heq⟩:=hx1;simp only[B9]at heq;obtain⟨_,rfl⟩:=heq;unfold aDe at hc
         grind [gO]
       | mapup q m k x =>
         rw[yV (by simp) (by simp)];refine jX hf hy sr hok hx1 λr' env' H' hs sr'=>next r' env' H' L' hs sr' (hl.mono hs λq hq hlive=>?_);simp only[dJ,B2]at hx1;obtain⟨h2,hc,heq⟩:=hx1;simp only[B9]at heq;obtain⟨_,rfl⟩:=heq;unfold wD at hc
         grind [Option.map_eq_some_iff,gO]
       | nxts x =>
         rw[yV (by simp) (by simp)];refine jX hf hy sr hok hx1 λr' env' H' hs sr'=>next r' env' H' L' hs sr' (hl.mono hs λq hq hlive=>?_);simp only[dJ,B2]at hx1;obtain⟨⟨v,h2⟩,hc,heq⟩:=hx1;simp only[B9]at heq;obtain⟨_,rfl⟩:=heq;unfold aHX at hc
         grind [gO]
       | callf q f xs l =>
         cases q with
         | true =>
           rw[yV (by simp) (by simp)];refine jX hf hy sr hok hx1 λr' env' H' hs sr'=>next r' env' H' L' hs sr' (hl.mono hs λq hq hlive=>?_);simp only[dJ,B2]at hx1
           grind
         | false =>
           simp only[jD,B4]at hok;simp only[dJ,B2]at hx1;obtain⟨⟨v,h2⟩,hs,heq⟩:=hx1;simp only[B9]at heq;obtain⟨rfl,rfl⟩:=heq;refine CallV.mono (yA (P:=P) (B:=B) hf hy sr.sh (aP sr.re hok.1) (yH sr.re hok.2) hs) ?_;rintro v' H' ⟨⟨r',k1,k2,k3⟩,k4⟩;simp only[aCU,D5,B4,aC4,J7]at hpost;refine⟨λj hj c hc=>?_,next r' _ _ L' k1 (sr.put k1 k2 k3 o.dst) (hl.mono k1 λq hq _=>(hpost q hq).1)⟩;obtain⟨b,m1,m2⟩:=hl.2 j c hc;obtain⟨p1,p2⟩:=hpost (j,b) m1;simp only at p1 p2;rcases p2 with p2|p2|p2;·grind
           .exact k4 b c m2 (hl.1 _ m1) (by grind)
           ·-- the block lies as it lay
            obtain⟨x1,q1⟩:=C5.1 (hl.1 _ m1);obtain⟨x2,q2⟩:=C5.1 p1;simp only at q1 q2;rw[q1,q2]at p2;obtain⟨c1,y1,g1,g2,g3⟩:=sr.sh.blk b x1 q1;obtain⟨c2,y2,f1,f2,f3⟩:=k2.blk b x2 q2;rw[m2]at g1;simp only[oSI]at g1;subst g1;rw[k1 b c m2]at f1;simp only[oSI]at f1;subst f1;rw[g2,f2];unfold aIq at p2;split at p2
            .rename_i _ _ _ _ w xs w' ys e1 e2
             simp only[oSI]at e1 e2;subst e1;subst e2;simp only[B4,beq_iff_eq]at p2;cases g3 with
             | cells _ _ _ xs' n1 _ =>
               cases f3 with
               | cells _ _ _ ys' n2 _ =>
                 grind [sG]
            .simp at p2
       | _=>exact absurd rfl hq
     grind
    .simp at hx
   .rename_i hg
    rw[aGd sr hg];simp only[optW_some,aEF,C6,AAd];rw[yV (by simp) (by simp)];simp only[iR,aD,aK,optW_some,gY,eV];exact ih r _ h L _ H L' e' h' K hok.2 (sr.put (Sub.refl r) sr.sh (.tup [] [] rfl (by simp)) o.dst) hl hx hK
   .simp at hx
def Agree(k:Nat)(r r':Nat->Option Nat):Prop:=∀ b c,b<k->r b=some c->r' b=some c
theorem Agree.refl(k:Nat)(r:Nat->Option Nat):Agree k r r:=λ_ _ _ h=>h
theorem Agree.trans{k:Nat}{r r' r'':Nat->Option Nat}(h:Agree k r r')(g:Agree k r' r''):Agree k r r'':=λb c hb hr=>g b c hb (h b c hb hr)
theorem Sub.agree{r r':Nat->Option Nat}(h:Sub r r')(k:Nat):Agree k r r':=λb c _ hr=>h b c hr
def vP(k:Nat)(r:Nat->Option Nat)(acc:List Nat):Nat->Option Nat:=λi=>if i<k then r i else (acc[i-k]?).bind r
theorem aEk(sh:SH D Y r h H){k:Nat}{acc:List Nat}(hn:acc.Nodup)(hok:∀ b∈acc,(hat h b).isSome=true/\k<=b) :
 Agree k r (vP k r acc)/\SH D Y (vP k r acc) (oF k acc h) H/\∀ v v',Rn D Y r v v'->Rn D Y (vP k r acc) (rnA (keepS k acc) v) v':=by
 have hs:∀ b c d,keepS k acc b=some c->r b=some d->vP k r acc c=some d:=λb c d h1 h2=>by
  unfold keepS at h1;split at h1;·simp_all [vP]
  .rw[B2]at h1
   obtain⟨p,h3,rfl⟩:=h1;simp only[vP,show ¬(p+k<k) by omega,AAd,aD0,aFR h3,D9,h2]
 have hat1:∀ i x,hat (oF k acc h) i=some x->∃ b y,hat h b=some y/\x=rnB (keepS k acc) y/\vP k r acc i=r b/\((i<k/\b=i)\/(k<=i/\acc[i-k]?=some b)):=λi x hx=>by
  unfold oF at hx;rw[cX]at hx;simp only[B8,padTake_length]at hx;split at hx
  .rename_i hi
   rw[aBm _ rfl,aCp,if_pos hi]at hx;obtain⟨y,hy,rfl⟩:=sJ hx;exact⟨i,y,hy,rfl,by simp only[vP,hi,AAe],.inl ⟨hi,rfl⟩⟩
  .rename_i hi
   rw[tF _ _ _ rfl]at hx;split at hx
   .rename_i b hb
    obtain⟨y,hy,rfl⟩:=sJ hx;exact⟨b,y,hy,rfl,by simp only[vP,hi,AAd,hb,D9],.inr ⟨by omega,hb⟩⟩
   .simp at hx
 obtain⟨G,hG⟩:=sh.gh;have hat2:∀ i x,hat (oF k acc h) i=some x->∃ y,hat h (if i<k then i else acc.getD (i-k) 0)=some y/\x=rnB (keepS k acc) y/\vP k r acc i=r (if i<k then i else acc.getD (i-k) 0)/\(k<=i->acc[i-k]?=some (acc.getD (i-k) 0)):=λi x hx=>by
  grind
 refine⟨λb c hb hr=>by simp only[vP,hb,AAe];exact hr,⟨λi c hi=>?_,λi j c x y hx hy h1 h2=>?_,λi x hx=>?_,_,hG.via (λi=>if i<k then i else acc.getD (i-k) 0) (λi st p hi=>?_) (λi x hi=>?_) (λi j st p x hi hj hne he=>?_) λi st p n y hi hnn hy=>hy⟩,λv v' hv=>hv.renum hs⟩
 .unfold oF
  simp only[E6,B8,padTake_length];by_cases hk:i<k;·omega
  .simp only[vP,hk,AAd]at hi
   grind
 .obtain⟨b1,y1,p1,_,p2,p3⟩:=hat1 i x hx
  obtain⟨b2,y2,q1,_,q2,q3⟩:=hat1 j y hy;rw[p2]at h1;rw[q2]at h2;have:=sh.inj b1 b2 c y1 y2 p1 q1 h1 h2
  grind [sS]
 .obtain⟨b,y,p1,rfl,p2,_⟩:=hat1 i x hx
  obtain⟨c,z,q1,q2,q3⟩:=sh.blk b y p1;exact⟨c,z,by grind,q2,q3.renum hs⟩
 .grind [uB]
 .grind [uB]
 .obtain⟨y,q1,q2,q3,q4⟩:=hat2 i _ hi
  obtain⟨y',m1,m2,m3,m4⟩:=hat2 j _ hj;by_cases hik:i<k;·grind
  .by_cases hjk:j<k
   .grind
   .rw[if_neg hik,if_neg hjk]at he
    grind [sS]
theorem aEl(k:Nat)(vs:List AV)(h:XH):(dH k vs h).Nodup/\∀ b∈dH k vs h,(hat h b).isSome=true/\k<=b :=
 aFO h k yI _ [] aA6 (by simp)
theorem aED(f:Nat->AV):∀(L:List Nat)(j:Nat),aY L (L.map f) j=f j\/aY L (L.map f) j = .any
 | [],j=>.inr rfl
 | k::L,j=>by
   simp only[E7,aY];split;·rename_i hj;subst hj;exact .inl rfl
   .exact aED f L j
theorem xZ(sr:SR D Y r e h env H)(k:Nat)(L:List Nat):∃ r',Agree k r r'/\SR D Y r' (rQ k L e h) (qB k L e h) env H:=by
 obtain⟨h1,h2⟩:=aEl k (L.map e) h;obtain⟨k1,k2,k3⟩:=aEk sr.sh h1 h2;refine⟨_,k1,k2,λj=>?_⟩;unfold rQ;rw[aAU,aB0];rcases aED (rnA (keepS k (dH k (L.map e) h))∘e) L j with h3|h3;·rw[h3];exact k3 _ _ (sr.re j)
 .rw[h3];exact .any _
theorem uM(b:Nat)(cs:List AV):∀ l:List AV,fzL b cs l=l.map (xJ b cs)
 | []=>rfl
 | v::l=>by simp[fzL,uM b cs l]
theorem qN{p:AV->AV->Prop}{q:AV->AV->Prop}:∀(xs ys:List AV),xs.length=ys.length->(∀(i:Nat)(x y:AV),xs[i]?=some x->ys[i]?=some y->∃ z,p y z/\q x z) ->
 ∃ zs:List AV,ys.length=zs.length/\xs.length=zs.length/\(∀(i:Nat)(y z:AV),ys[i]?=some y->zs[i]?=some z->p y z)/\∀(i:Nat)(x z:AV),xs[i]?=some x->zs[i]?=some z->q x z
 | [],[],_,_=>⟨[],rfl,rfl,by simp,by simp⟩
 | [],_::_,hl,_=>by simp at hl
 | _::_,[],hl,_=>by simp at hl
 | x::xs,y::ys,hl,h=>by
   obtain⟨z,h1,h2⟩:=h 0 x y rfl rfl;obtain⟨zs,k1,k2,k3,k4⟩:=qN xs ys (by grind) λi x y hx hy=>h (i+1) x y (by grind) (by grind);refine⟨z::zs,by simp[k1],by simp[k2],λi y' z' hy hz=>?_,λi x' z' hx hz=>?_⟩;all_goals grind
theorem aAr{cs:List AV}{s:Nat}:∀{n o:Nat},o+n*s<=cs.length->(bK cs o s n).length=n/\(∀ row∈bK cs o s n,row.length=s/\∀ c∈row,c∈cs) /\
 ∀(i:Nat)(row:List AV)(j:Nat)(c:AV),(bK cs o s n)[i]?=some row->row[j]?=some c->cs[o+i*s+j]?=some c
 | 0,o,_=>⟨rfl,by simp[bK],by simp[bK]⟩
 | n+1,o,hl=>by
   rw[aG1,Nat.one_mul]at hl;obtain⟨h1,h2,h3⟩:=aAr (cs:=cs) (s:=s) (n:=n) (o:=o+s) AS;refine⟨by simp[bK,h1],λrow hrow=>?_,λi row j c hi hj=>?_⟩;·grind [bK]
   .cases i with
    | zero =>
      grind [bK]
    | succ i =>
      grind [bK]
theorem Rn.fz{b c:Nat}{cs:List AV}(hr:r b=some c)(hg:∀ x∈cs,Gd x){v v':AV}(h:Rn D Y r v v'):∃ v'',Fz c cs v' v''/\Rn D Y r (xJ b cs v) v'':=by
 induction h with
 | any v=>exact⟨v,.same v,.any v⟩
 | int k n=>exact⟨_,.same _,.int k n⟩
 | bool b=>exact⟨_,.same _,.bool b⟩
 | str t=>exact⟨_,.same _,.str t⟩
 | agg xs ys hl _ ih =>
   obtain⟨zs,k1,k2,k3,k4⟩:=qN xs ys hl ih;refine⟨.agg zs,.agg _ _ k1 k3,?_⟩;simp only[xJ,uM];refine .agg _ _ (by grind) λi x z hx hz=>?_
   grind
 | tup xs ys hl _ ih =>
   obtain⟨zs,k1,k2,k3,k4⟩:=qN xs ys hl ih;refine⟨.tup zs,.tup _ _ k1 k3,?_⟩;simp only[xJ,uM];refine .tup _ _ (by grind) λi x z hx hz=>?_
   grind
 | fs rows h=>exact⟨_,.same _,.fs rows h⟩
 | fp rows i o h=>exact⟨_,.same _,.fp rows i o h⟩
 | sl b0 c0 o s n h0 =>
   simp only[xJ];split
   .rename_i hc
    obtain⟨rfl,hle⟩:=hc;rw[hr]at h0;simp only[oSI]at h0;subst h0;obtain⟨m1,m2,m3⟩:=aAr hle;exact⟨_,.sl o s n (bK cs o s n) m1 (λrow hrow=>(m2 row hrow).1) m3,.fs _ λrow hrow c hc=>hg c ((m2 row hrow).2 c hc)⟩
   .exact⟨_,.same _,.sl b0 c0 o s n h0⟩
 | pt b0 c0 o h0=>exact⟨_,.same _,.pt b0 c0 o h0⟩
 | mp b0 c0 h0=>exact⟨_,.same _,.mp b0 c0 h0⟩
 | sb b0 c0 n0 h0=>exact⟨_,.same _,.sb b0 c0 n0 h0⟩
 | bp b0 c0 h0=>exact⟨_,.same _,.bp b0 c0 h0⟩
 | nilsl=>exact⟨_,.same _,.nilsl⟩
 | nilpt=>exact⟨_,.same _,.nilpt⟩
 | nilmap=>exact⟨_,.same _,.nilmap⟩
 | nilfn=>exact⟨_,.same _,.nilfn⟩
 | nilifc=>exact⟨_,.same _,.nilifc⟩
 | fn f xs ys us vs hf hl1 _ hl2 _ ih1 ih2 =>
   obtain⟨zs,k1,k2,k3,k4⟩:=qN xs ys hl1 ih1;obtain⟨ws,j1,j2,j3,j4⟩:=qN us vs hl2 ih2;refine⟨.fn f zs ws,.fn f _ _ _ _ k1 k3 j1 j3,?_⟩;have e1:xJ b cs (.fn f xs us) = .fn f (fzL b cs xs) (fzL b cs us):=by
    simp[xJ]
   rw[e1,uM,uM];refine .fn f _ _ _ _ hf (by grind) (λi x z hx hz=>?_) (by grind) (λi x z hx hz=>?_);all_goals grind
 | yield l c0 h0=>exact⟨_,.same _,.yield l c0 h0⟩
 | ifc t x y h _=>exact⟨_,.same _,.ifc t x y h⟩
theorem RnB.fz{b c d:Nat}{cs:List AV}(hr:r b=some c)(hg:∀ x∈cs,Gd x){x:XB}{y:ABlk}(h:RnB D Y r d x y):∃ z,FzB c cs y z/\RnB D Y r d (fzB b cs x) z:=by
 cases h with
 | cells g w xs ys h hgr =>
   cases g with
   | true=>exact⟨_,.same _,.cells d true w xs ys h hgr⟩
   | false =>
     obtain⟨zs,k1,k2,k3,k4⟩:=qN xs ys h.1 λi x y hx hy=>(h.2 i x y hx hy).fz hr hg;refine⟨.cells w zs,.cells w _ _ k1 k3,?_⟩;simp only[fzB];refine .cells d _ w _ _ ⟨by grind [uM],λi x z hx hz=>?_⟩ (λh=>h)
     grind [uM]
 | map g w xs ys h hgr =>
   cases g with
   | true=>exact⟨_,.same _,.map d true w xs ys h hgr⟩
   | false =>
     have hk:∀(i:Nat)(x y:AV),(xs.map (·.1))[i]?=some x->(ys.map (·.1))[i]?=some y->Rn D Y r x y:=λi x y hx hy=>by
      grind [RnP]
     have hv:∀(i:Nat)(x y:AV),(xs.map (·.2))[i]?=some x->(ys.map (·.2))[i]?=some y->Rn D Y r x y:=λi x y hx hy=>by
      grind [RnP]
     obtain⟨zs,k1,k2,k3,k4⟩:=qN (xs.map (·.1)) (ys.map (·.1)) (by simpa using h.1) λi x y hx hy=>(hk i x y hx hy).fz hr hg;obtain⟨ws,j1,j2,j3,j4⟩:=qN (xs.map (·.2)) (ys.map (·.2)) (by grind) λi x y hx hy=>(hv i x y hx hy).fz hr hg;simp only[B8]at k1 k2 j1 j2;have hz:∀(i:Nat)(p:AV×AV),(zs.zip ws)[i]?=some p->zs[i]?=some p.1/\ws[i]?=some p.2:=λi p hp=>by
      grind
     refine⟨.map w (zs.zip ws),.map w _ _ (by simp;omega) λi y p hy hp=>?_,?_⟩;·grind
     .simp only[fzB]
      refine .map d false w _ _ ⟨by simp;omega,λi x p hx hp=>?_⟩ (by simp)
      grind
 | obj g w o=>cases g<;>exact⟨_,.same _,.obj d _ w o⟩
 | loop i vs s o d' L ps a b' hY h hD hs hv=>exact⟨_,.same _,.loop d i vs s o d' L ps a b' hY h hD hs hv⟩
 | gh st p=>exact⟨_,.same _,.gh d st p y⟩
theorem aXB{b:Nat}{cs:List AV}{x:XB}{st:CSt}{p:Hp->Nat->Prop}(h:fzB b cs x = .gh st p):x = .gh st p:=by
 unfold fzB at h
 grind
theorem aNk(sr:SR D Y r e h env H)(b:Nat):∃ env' H',Shift env H env' H'/\SR D Y r (fz1 b e h).1 (fz1 b e h).2 env' H':=by
 unfold fz1;split
 .rename_i w cs hb
  obtain⟨c,y,hr,h1,h2⟩:=sr.sh.blk b _ hb;cases h2 with
  | cells _ _ _ ys h3 h4 =>
    obtain⟨rfl,hg⟩:=h3.same (h4 rfl);obtain⟨env',henv⟩:=Classical.skolem.1 λj=>(sr.re j).fz hr hg;obtain⟨G,hG⟩:=sr.sh.gh;have gne:∀ a st p n,hat h a=some (.gh st p)->G a n->n≠c:=λa st p n ha hn e=>by
     subst e;exact(hG.2 a b st p _ n ha hb (λe=>by grind) hn).1 hr
    have hH:∀ d,∃ o:Option ABlk,(d=c->o=none)/\(d≠c->(o=none\/∃ x y,H d=some x/\o=some y/\FzB c ys x y))/\(∀ b' x,hat h b'=some x->b'≠b->r b'=some d->∃ y,o=some y/\RnB D Y r d (fzB b ys x) y) /\
     ∀ a st p,hat h a=some (.gh st p)->G a d->o=H d:=by
     intro d;by_cases hd:d=c
     .refine⟨none,λ_=>rfl,λh=>absurd hd h,λb' x hx hne hr'=>?_,λa st p ha hn=>absurd hd (gne a st p d ha hn)⟩
      subst hd;exact absurd (sr.sh.inj b' b d x _ hx hb hr' hr) hne
     by_cases hpv:∃ a st p,hat h a=some (.gh st p)/\G a d
     .obtain⟨a,st,p,ha,hn⟩:=hpv
      obtain⟨_,_,k1⟩:=hG.1 a st p ha;obtain⟨x0,k2⟩:=k1.live hn;refine⟨H d,λh=>absurd h hd,λ_=>.inr ⟨x0,x0,k2,k2,.same _⟩,λb' x hx hne hr'=>?_,λ_ _ _ _ _=>rfl⟩;by_cases hab:a=b'
      .subst hab
       rw[ha]at hx;cases hx;exact⟨x0,k2,.gh d st p x0⟩
      .exact absurd hr' (hG.2 a b' st p x d ha hx hab hn).1
     .have hpn:∀ a st p,hat h a=some (.gh st p)->¬G a d:=λa st p ha hn=>hpv ⟨a,st,p,ha,hn⟩
      by_cases hex:∃ b' x,hat h b'=some x/\r b'=some d
      .obtain⟨b1,x1,k1,k2⟩:=hex
       obtain⟨d',y1,k3,k4,k5⟩:=sr.sh.blk b1 x1 k1;rw[k2]at k3;simp only[oSI]at k3;subst k3;obtain⟨z,k6,k7⟩:=k5.fz hr hg;refine⟨some z,λh=>absurd h hd,λ_=>.inr ⟨y1,z,k4,rfl,k6⟩,λb' x hx hne hr'=>?_,λa st p ha hn=>absurd hn (hpn a st p ha)⟩;have:=sr.sh.inj b' b1 d x x1 hx k1 hr' k2
       grind
      .exact⟨none,λ_=>rfl,λ_=>.inl rfl,λb' x hx hne hr'=>absurd ⟨b',x,hx,hr'⟩ hex,λa st p ha hn=>absurd hn (hpn a st p ha)⟩
    obtain⟨H',hH'⟩:=Classical.skolem.1 hH;refine⟨env',H',Shift.freeze (b:=c) (wr:=w) (cs:=ys) h1 (λj=>(henv j).1) ((hH' c).1 rfl) (λd hd=>(hH' d).2.1 hd),⟨⟨λb c hb=>by simpa using sr.sh.dom b c hb,λb1 b2 c' x1 x2 g1 g2 k1 k2=>?_,λb' x hx=>?_,_,hG.via id (λb' st p hb'=>?_) (λb' x hx=>?_) (λ_ _ _ _ _ _ _ hne=>hne) λb' st p n y' hb' hnn hy=>?_⟩,λj=>(henv j).2⟩⟩
    all_goals
     have live:∀ b' x,hat ((h.map (fzO b ys)).set b none) b'=some x->b'≠b/\∃ x0,hat h b'=some x0/\x=fzB b ys x0:=λb' x hx=>by
      rw[gO]at hx;split at hx;·simp at hx
      .rename_i hc
       rw[aBm _ rfl]at hx;cases hx0:hat h b' with
       | none=>rw[hx0]at hx;simp[fzO]at hx
       | some x0 =>
         rw[hx0]at hx;simp only[fzO,oSI]at hx;exact⟨λe=>hc ⟨e,by simpa using uL hb⟩,x0,rfl,hx.symm⟩
    .obtain⟨_,y1,m1,_⟩:=live b1 x1 g1
     obtain⟨_,y2,m2,_⟩:=live b2 x2 g2;exact sr.sh.inj b1 b2 c' y1 y2 m1 m2 k1 k2
    .obtain⟨hne,x0,m1,rfl⟩:=live b' x hx
     obtain⟨c',y',m2,_,_⟩:=sr.sh.blk b' x0 m1
     grind
    all_goals grind [aXB]
 grind [Shift.le,Le.refl]
theorem aAn:∀(ns:List Nat)(e:aJ)(h:XH)(env:aJ)(H:Hp),SR D Y r e h env H->∃ env' H',Shift env H env' H'/\SR D Y r (aBV ns e h).1 (aBV ns e h).2 env' H'
 | [],e,h,env,H,sr=>⟨env,H,Shift.le (Le.refl _),sr⟩
 | b::ns,e,h,env,H,sr=>by
   obtain⟨env1,H1,k1,k2⟩:=aNk sr b;obtain⟨env2,H2,k3,k4⟩:=aAn ns _ _ env1 H1 k2;exact⟨env2,H2,k1.trans k3,k4⟩
theorem mU:∀ l:List AV,kI l=l.map vN
 | []=>rfl
 | v::l=>by simp[kI,mU l]
theorem Rv.nz{F:Nat->Prop}{w:World}{a:AV}{v:Value}(h:Rv F w a v):Rv F w (vN a) v:=by
 induction h with
 | agg cs vs hl ho _ ih =>
   simp only[vN,mU];refine .agg _ _ (by grind) ho λi c v hc hv=>?_
   grind
 | tup cs vs hl _ ih =>
   simp only[vN,mU];refine .tup _ _ (by grind) λi c v hc hv=>?_
   grind
 | nilsl=>exact .fs0 none 0
 | int k n=>exact .int k n
 | bool b=>exact .bool b
 | str s=>exact .str s
 | fs0 a cap=>exact .fs0 a cap
 | fs rows blk off s cap g h1 h2 h3 h4 h5 h6=>exact .fs rows blk off s cap g h1 h2 h3 h4 h5 h6
 | fp rows i o blk off s g h1 h2 h3 h4 h5=>exact .fp rows i o blk off s g h1 h2 h3 h4 h5
 | sl b off s len cap c e fr h1 h2 h3=>exact .sl b off s len cap c e fr h1 h2 h3
 | pt b off=>exact .pt b off
 | mp b=>exact .mp b
 | sb b n cap c fr hb h1 h2=>exact .sb b n cap c fr hb h1 h2
 | bp b c fr hb h1=>exact .bp b c fr hb h1
 | nilpt=>exact .nilpt
 | nilmap=>exact .nilmap
 | fn f first cap fv cv h1 h2 h3 h4=>exact .fn f first cap fv cv h1 h2 h3 h4
 | nilfn=>exact .nilfn
 | ifc t a v h=>exact .ifc t a v h
 | nilifc=>exact .nilifc
 | any v=>exact .any v
theorem Args.nz{F:Nat->Prop}{w:World}{as:List AV}{vs:Array Value}(h:Args F w as vs):Args F w (kI as) vs:=by
 rw[mU];refine⟨by simpa using h.1,λi c v hc hv=>?_⟩;rw[C3,B2]at hc;obtain⟨c0,hc0,rfl⟩:=hc;exact(h.2 i c0 v hc0 hv).nz
theorem FnW.nz{f:FuncId}{as:List AV}{Q:AV->Hp->Prop}(h:FnW B P f (kI as) H Q):FnW B P f as H Q:=⟨h.1,λF w vs h1 h2 h3=>h.2 F w vs h1 h2 h3.nz⟩
theorem Rn.nz{v v':AV}(h:Rn D Y r v v'):Rn D Y r (vN v) (vN v'):=by
 have ls:∀{xs ys:List AV},xs.length=ys.length->(∀(i:Nat)(x y:AV),xs[i]?=some x->ys[i]?=some y->Rn D Y r (vN x) (vN y))->RnL D Y r (kI xs) (kI ys):=λ{xs ys} hl h=>by
  grind [mU,RnL]
 induction h with
 | any v=>exact .any _
 | agg xs ys hl _ ih=>exact .agg _ _ (ls hl ih).1 (ls hl ih).2
 | tup xs ys hl _ ih=>exact .tup _ _ (ls hl ih).1 (ls hl ih).2
 | nilsl=>exact .fs [] (by simp)
 | int k n=>exact .int k n
 | bool b=>exact .bool b
 | str s=>exact .str s
 | fs rows h=>exact .fs rows h
 | fp rows i o h=>exact .fp rows i o h
 | sl b c o s n h=>exact .sl b c o s n h
 | pt b c o h=>exact .pt b c o h
 | mp b c h=>exact .mp b c h
 | sb b c n h=>exact .sb b c n h
 | bp b c h=>exact .bp b c h
 | nilpt=>exact .nilpt
 | nilmap=>exact .nilmap
 | nilfn=>exact .nilfn
 | nilifc=>exact .nilifc
 | fn f xs ys us vs h1 h2 h3 h4 h5=>exact .fn f xs ys us vs h1 h2 h3 h4 h5
 | yield l c h=>exact .yield l c h
 | ifc t x y h=>exact .ifc t x y h
theorem RnL.nz{xs ys:List AV}(h:RnL D Y r xs ys):RnL D Y r (kI xs) (kI ys):=by
 rw[mU,mU];refine⟨by simpa using h.1,λi x y hx hy=>?_⟩;rw[C3,B2]at hx hy;obtain⟨x0,hx0,rfl⟩:=hx;obtain⟨y0,hy0,rfl⟩:=hy;exact(h.2 i x0 y0 hx0 hy0).nz
theorem aKh{F:Nat->Prop}{w:World}:∀(fz:List (Nat×Bool))(env:aJ)(j:Nat)(v:Value),Rv F w (env j) v->Rv F w (nzE fz env j) v
 | [],env,j,v,h=>h
 | (k,true)::fz,env,j,v,h=>aKh fz env j v h
 | (k,false)::fz,env,j,v,h=>by
   have ih:=aKh fz env j v h;show Rv F w (if j=k then vN (nzE fz env j) else nzE fz env j) v;split;·exact ih.nz
   .exact ih
theorem aKi:∀(fz:List (Nat×Bool))(e env:aJ)(j:Nat),Rn D Y r (e j) (env j)->Rn D Y r (nzE fz e j) (nzE fz env j)
 | [],e,env,j,h=>h
 | (k,true)::fz,e,env,j,h=>aKi fz e env j h
 | (k,false)::fz,e,env,j,h=>by
   have ih:=aKi fz e env j h;show Rn D Y r (if j=k then vN (nzE fz e j) else nzE fz e j) (if j=k then vN (nzE fz env j) else nzE fz env j);split;·exact ih.nz
   .exact ih
theorem aKx(sr:SR D Y r e h env H)(fz:List (Nat×Bool)):∃ env' H',Shift env H env' H'/\SR D Y r (aXz fz e h).1 (aXz fz e h).2 env' H':=by
 obtain⟨env1,H1,k1,k2⟩:=aAn (fz.flatMap (aQQ e h)) e h env H sr;refine⟨nzE fz env1,H1,k1.trans ?_,⟨k2.sh,λj=>aKi fz _ _ j (k2.re j)⟩⟩;intro F w a st re;exact⟨F,Ext.refl _ _ _,st,λj=>aKh fz env1 j _ (re.rv j),re.gi⟩
theorem Shift.trim{c:Nat}{w0:Bool}{cs:List AV}(hc:H c=some (.cells w0 cs))(m:Nat):Shift env H env (hset H c (.cells w0 (cs.take m))):=by
 intro F w a st re;have hwr:∀ b,wE (hset H c (.cells w0 (cs.take m))) b=wE H b:=λb=>by
  by_cases hb:b=c;·subst hb;simp[wE,hc,ABlk.wr]
  .simp only[wE,aL _ _ hb]
 refine⟨F,⟨λ_ h=>h,λ_ h=>.inl h,λb hb=>.inl ?_,λb hb=>.inl (by grind),B5 _,λ_ _ _=>rfl,λ_ c e fr h=>⟨c,e,fr,h,rfl⟩,SameIO.refl w⟩,⟨st.lt,λb x hb=>?_,λb x hb=>?_⟩,re⟩;·grind [aL]
 .by_cases h1:b=c
  .subst h1;exact st.dis b _ hc
  .rw[aL _ _ h1]at hb;exact st.dis b x hb
 .by_cases h1:b=c
  .subst h1
   simp only[hset_same,oSI]at hb;subst hb;obtain⟨o,k1,k2⟩:=st.blk b _ hc;refine⟨o,k1,?_⟩;cases k2 with
   | cells p cs c e fr hfr hl ho h =>
     refine .cells _ _ _ _ _ hfr (by simp;omega) ho λi a v ha hv=>h i a v ?_ hv
     grind
  .rw[aL _ _ h1]at hb;exact st.blk b x hb
theorem aIl(sr:SR D Y r e h env H)(v:AV):∃ H',Shift env H env H'/\SR D Y r e (aLf v h) env H':=by
 unfold aLf;split
 .rename_i b s n
  split
  .rename_i g w cs hb
   obtain⟨c,y,hr,h1,h2⟩:=sr.sh.blk b _ hb;cases h2 with
   | cells _ _ _ ys h3 h4 =>
     refine⟨_,Shift.trim h1 (n*s),sr.sh.turn hb hr (.cells c g w _ _ (h3.take _) λhg=>fJ λx hx=>jO (h4 hg) x (aA5 hx)),sr.re⟩
  grind [Shift.le,Le.refl]
 grind [Shift.le,Le.refl]
theorem aCg(sr:SR D Y r e h env H):∀ fz:List (Nat×Bool),∃ H',Shift env H env H'/\SR D Y r e (zI fz e h) env H'
 | []=>⟨H,Shift.le (Le.refl _),sr⟩
 | (k,b)::fz=>by
   obtain⟨H1,k1,k2⟩:=aCg sr fz;simp only[zI];split
   .obtain⟨H2,k3,k4⟩:=aIl k2 (e (k-1000000))
    exact⟨H2,k1.trans k3,k4⟩
   grind
theorem aBU(sr:SR D Y r e h env H)(fz:List (Nat×Bool)):∃ env' H',Shift env H env' H'/\SR D Y r (fzX fz e h).1 (fzX fz e h).2 env' H':=by
 obtain⟨H1,k1,k2⟩:=aCg sr fz;obtain⟨env2,H2,k3,k4⟩:=aKx k2 fz;exact⟨env2,H2,k1.trans k3,k4⟩
def bBB(P:Program)(B:Base)(D:Nat->Option XFn)(l:Nat)(i:YI):Prop :=
 (∃ q,i.oB = .loop q)/\∀(d:XFn)(L ps:List Nat)(a b:XCode),D i.K=some d->eJ d.body i.site=some (L,ps,a,b)->∀(B1:Base),B.Up B1.F B1.w->∀(as:List AV)(H':Hp)(Q':AV->Hp->Prop),
  H' l=some (.obj true i.oR)->as.length=ps.length ->
  WD B1 P (some l) d.N a.erase (λe env2 H2=>e = .normal/\H2 l=some (.obj true i.oR)/\WD B1 P (some l) d.N b.erase (aPC l i.oR i.oB i.oD Q') env2 (hset H2 l (.obj true i.oB))) (sK i.env ps as) H'->YW B1 P l as H' Q'
def YOk(P:Program)(B:Base)(D:Nat->Option XFn)(Y:Nat->Option YI):Prop:=∀ l i,Y l=some i->bBB P B D l i
theorem YOk.up{B':Base}(h:YOk P B D Y)(hB:B.Up B'.F B'.w):YOk P B' D Y:=λl i hY =>
 ⟨(h l i hY).1,λd L ps a b h1 h2 B1 hB1=>(h l i hY).2 d L ps a b h1 h2 B1 (Up.trans hB hB1)⟩
def tQ:XCode->Bool
 | .skip | .exit _ | .ret=>true
 | .reg _ _ ops=>aBc ops
 | .seq a b=>tQ a&&tQ b
 | .cond c a b=>okO c&&(tQ a&&tQ b)
 | .block _ a | .loop _ a | .scope a=>tQ a
 | .rng _ _ f _ a b=>okO f&&(tQ a&&tQ b)
def iG(d:XFn):XCode->Prop
 | .seq a b | .cond _ a b=>iG d a/\iG d b
 | .block _ a | .loop _ a | .scope a=>iG d a
 | .rng s L _ ps a b=>eJ d.body s=some (L,ps,a,b)/\iG d a/\iG d b
 | _=>True
def RdOk(Y:Nat->Option YI)(r:Nat->Option Nat)(k:Nat)(rd rr:Option Nat):Prop:=match rd with
 | none=>rr=none
 | some l=>l<k/\∃ c i q,r l=some c/\rr=some c/\Y c=some i/\i.oB = .loop q
theorem RdOk.agree{k:Nat}{rd rr:Option Nat}{r':Nat->Option Nat}(h:RdOk Y r k rd rr)(ha:Agree k r r'):RdOk Y r' k rd rr:=by
 cases rd with
 | none=>exact h
 | some l =>
   grind [RdOk,Agree]
theorem SH.loopAt(sh:SH D Y r h H){l:Nat}{st:LSt}(hl:iJ h l=some st):∃ c i o,r l=some c/\Y c=some i/\H c=some (.obj true o)/\vU i st o/\∃(vs:List AV)(d:XFn)(L ps:List Nat)(a b:XCode),
 hat h l=some (.loop i.K i.site vs st)/\D i.K=some d/\eJ d.body i.site=some (L,ps,a,b)/\RnL D Y r vs (L.map i.env):=by
 unfold iJ at hl;split at hl<;>simp only[oSI,reduceCtorEq]at hl
 rename_i K s vs st' hx;subst hl;obtain⟨c,y,h1,h2,h3⟩:=sh.blk l _ hx;cases h3 with
 | loop i _ _ o d L ps a b hY ho hD hs hv=>grind
theorem SH.loopTo(sh:SH D Y r h H){l c:Nat}{i:YI}{st st':LSt}(hl:iJ h l=some st)(hr:r l=some c)(hY:Y c=some i){o:Obj}(ho:vU i st' o):SH D Y r (loopTo h l st') (hset H c (.obj true o)):=by
 obtain⟨c',i',o',h1,h2,h3,h4,vs,d,L,ps,a,b,h5,h6,h7,h8⟩:=sh.loopAt hl;rw[hr]at h1;simp only[oSI]at h1;subst h1;rw[hY]at h2;simp only[oSI]at h2;subst h2;unfold Go.DL.loopTo;rw[h5];exact sh.turn h5 hr (.loop c i vs st' o d L ps a b hY ho h6 h7 h8)
theorem SH.push{Y':Nat->Option YI}(sh:SH D Y r h H){l:Nat}{x:XB}{y:ABlk}(hl:H l=none)(hY:∀ c,c≠l->Y' c=Y c)(hx:RnB D Y' r l x y)(hng:ghX x=false:=by rfl) :
 Sub r (λb=>if b=h.length then some l else r b)/\SH D Y' (λb=>if b=h.length then some l else r b) (h++[some x]) (hset H l y):=by
 have hsub:Sub r (λb=>if b=h.length then some l else r b):=λb c hb=>by
  have:=sh.dom b c hb
  grind
 have live:∀ b z,hat (h++[some x]) b=some z->(b=h.length/\z=x)\/(b<h.length/\hat h b=some z):=λb z hz=>by
  rw[cX]at hz;split at hz;·grind
  .by_cases he:b=h.length
   .simp_all [hat]
   .have:b-h.length=(b-h.length-1)+1:=AS
    rw[this]at hz;simp[hat]at hz
 have other:∀ b c z,hat h b=some z->r b=some c->c≠l:=λb c z hz hr e=>by
  subst e;obtain⟨c',y',h1,h2,_⟩:=sh.blk b z hz
  grind
 obtain⟨G,hG⟩:=sh.gh;have lg:∀ b st p,hat (h++[some x]) b=some (.gh st p)->b<h.length/\hat h b=some (.gh st p):=λb st p hz=>by
  rcases live b _ hz with ⟨_,e⟩|h1;·rw[<-e]at hng;cases hng
  .exact h1
 have gne:∀ b st p n,hat (h++[some x]) b=some (.gh st p)->G b n->n≠l:=λb st p n hz hnn e=>by
  obtain⟨k1,k3⟩:=lg b st p hz;subst e;obtain⟨c,_,k4⟩:=hG.1 b st p k3;obtain⟨y1,k5⟩:=k4.live hnn
  grind
 refine⟨hsub,λb c hb=>?_,λb1 b2 c x1 x2 h1 h2 k1 k2=>?_,λb z hz=>?_,_,hG.via id (λb st p hz=>?_) (λb z hz=>?_) (λ_ _ _ _ _ _ _ hne=>hne) λb st p n y' hz hnn hy=>?_⟩
 .simp only[E6,D7,aF7]
  split at hb;·omega
  .have:=sh.dom b c hb;omega
 .rcases live b1 x1 h1 with ⟨rfl,_⟩|⟨l1,m1⟩
  .grind
  .rcases live b2 x2 h2 with ⟨rfl,_⟩|⟨l2,m2⟩
   .grind
   .simp only[show b1≠h.length by omega,AAd]at k1
    simp only[show b2≠h.length by omega,AAd]at k2;exact sh.inj b1 b2 c x1 x2 m1 m2 k1 k2
 .rcases live b z hz with ⟨rfl,rfl⟩|⟨l1,m1⟩
  .exact⟨l,y,by simp,hset_same _ _ _,hx.mono hsub (λ_=>rfl)⟩
  .obtain⟨c,y',g1,g2,g3⟩:=sh.blk b z m1
   have hne:=other b c z m1 g1;refine⟨c,y',hsub b c g1,?_,g3.mono hsub (λ_=>hY c hne)⟩
   grind [aL]
 .grind
 .grind
 grind [aL]
theorem pU{run:fC}{runY:gR}{d:XFn}{K:Nat}(hD:D K=some d)(hm:P.follows .mixedOrders=true)(hall:∀(B:Base)(Y:Nat->Option YI),YOk P B D Y->FnS P B D Y run/\YS P B D Y runY)(k n:Nat)(rd rr:Option Nat) :
 ∀(code:XCode)(B:Base)(Y:Nat->Option YI)(r:Nat->Option Nat)(e:aJ)(h:XH)(env:aJ)(H:Hp)(x:DX)(e':aJ)(h':XH)(Q:QC),YOk P B D Y->tQ code=true->iG d code->RdOk Y r k rd rr->SR D Y r e h env H ->
   bO run runY K k n rd code e h=some (x,e',h')->(∀ r' env' H',Agree k r r'->SR D Y r' e' h' env' H'->Q x env' H')->WD B P rr d.N code.erase Q env H:=by
 intro code;induction code with
 | skip =>
   intro B Y r e h env H x e' h' Q hY hok hs hrd sr hx hK;simp only[bO,oSI,B9]at hx;obtain⟨rfl,rfl,rfl⟩:=hx;exact WD.skip (hK r env H (Agree.refl _ _) sr)
 | exit id =>
   intro B Y r e h env H x e' h' Q hY hok hs hrd sr hx hK;simp only[bO,oSI,B9]at hx;obtain⟨rfl,rfl,rfl⟩:=hx;exact WD.exit (hK r env H (Agree.refl _ _) sr)
 | ret =>
   intro B Y r e h env H x e' h' Q hY hok hs hrd sr hx hK;simp only[bO,oSI,B9]at hx;obtain⟨rfl,rfl,rfl⟩:=hx;exact WD.ret (hK r env H (Agree.refl _ _) sr)
 | reg fz draw ops =>
   intro B Y r e h env H x e' h' Q hY hok hs hrd sr hx hK;simp only[tQ]at hok;obtain⟨hf,hy⟩:=hall B Y hY;simp only[bO,B2,B9]at hx;obtain⟨⟨e1,h1⟩,hx,rfl,rfl,rfl⟩:=hx;obtain⟨env1,H1,k1,k2⟩:=aBU sr fz;refine WD.shift k1 (WD.reg hm ?_);cases draw with
   | true =>
     simp only[AAe]at hx ⊢;exact aCe hf hy ops r _ _ [] env1 H1 noL e1 h1 _ hok k2 ⟨by simp,λj c hj=>by simp[noL]at hj⟩ hx λr' env' H' hs sr'=>hK r' env' H' (hs.agree k) sr'
   | false =>
     simp only[C6,AAd]at hx ⊢;exact lW hf hy ops r _ _ env1 H1 e1 h1 _ hok k2 hx λr' env' H' hs sr'=>hK r' env' H' (hs.agree k) sr'
 | seq a b iha ihb =>
   intro B Y r e h env H x e' h' Q hY hok hs hrd sr hx hK;simp only[tQ,B4]at hok;simp only[bO]at hx;refine WD.seq ?_;split at hx
   .rename_i e1 h1 hx1
    exact iha B Y r e h env H .normal e1 h1 _ hY hok.1 hs.1 hrd sr hx1 λr' env' H' ha sr' =>
     ihb B Y r' e1 h1 env' H' x e' h' Q hY hok.2 hs.2 (hrd.agree ha) sr' hx λr2 env2 H2 ha2 sr2=>hK r2 env2 H2 (ha.trans ha2) sr2
   .rename_i hne
    refine iha B Y r e h env H x e' h' _ hY hok.1 hs.1 hrd sr hx λr' env' H' ha sr'=>?_;cases x with
    | normal=>grind
    | exit id=>exact hK r' env' H' ha sr'
    | ret=>exact hK r' env' H' ha sr'
 | cond c a b iha ihb =>
   intro B Y r e h env H x e' h' Q hY hok hs hrd sr hx hK;simp only[tQ,B4]at hok;have hc:=aP sr.re (x:=c) hok.1;simp only[bO]at hx;split at hx
   .rename_i hv
    rw[hv]at hc;exact WD.cond (t:=true) (gN hc) (iha B Y r e h env H x e' h' Q hY hok.2.1 hs.1 hrd sr hx hK)
   .rename_i hv
    rw[hv]at hc;exact WD.cond (t:=false) (gN hc) (ihb B Y r e h env H x e' h' Q hY hok.2.2 hs.2 hrd sr hx hK)
   .simp at hx
 | block id a iha =>
   intro B Y r e h env H x e' h' Q hY hok hs hrd sr hx hK;simp only[tQ]at hok;simp only[bO]at hx;refine WD.block ?_;split at hx
   .rename_i j e1 h1 hx1
    refine iha B Y r e h env H (.exit j) e1 h1 _ hY hok hs hrd sr hx1 λr' env' H' ha sr'=>?_;simp only[QC.block]
    grind
   .rename_i hne
    refine iha B Y r e h env H x e' h' _ hY hok hs hrd sr hx λr' env' H' ha sr'=>?_;cases x with
    | exit id=>grind
    | normal=>exact hK r' env' H' ha sr'
    | ret=>exact hK r' env' H' ha sr'
 | scope a iha =>
   intro B Y r e h env H x e' h' Q hY hok hs hrd sr hx hK;exact WD.scope (iha B Y r e h env H x e' h' Q hY (by simpa [tQ]using hok) hs hrd sr (by simpa [bO]using hx) hK)
 | loop L a iha =>
   intro B Y r e h env H x e' h' Q hY hok hs hrd sr hx hK;simp only[tQ]at hok;simp only[bO]at hx;refine WD.loop (λm env1 H1=>∃ r1 e1 h1,Agree k r r1/\SR D Y r1 e1 h1 env1 H1/\oE (bO run runY K k n rd a) k L m e1 h1=some (x,e',h')) (m:=n) ⟨r,e,h,Agree.refl _ _,sr,hx⟩ ?_;rintro m env1 H1 ⟨r1,e1,h1,ha,sr1,hx1⟩;cases m with
   | zero=>simp[oE]at hx1
   | succ m =>
     simp only[oE]at hx1;obtain⟨r2,ha2,sr2⟩:=xZ sr1 k L;split at hx1
     .rename_i e2 h2 hx2
      exact iha B Y r2 _ _ env1 H1 .normal e2 h2 _ hY hok hs ((hrd.agree ha).agree ha2) sr2 hx2 λr3 env3 H3 ha3 sr3=>⟨m,by omega,r3,e2,h2,(ha.trans ha2).trans ha3,sr3,hx1⟩
     .rename_i hne
      refine iha B Y r2 _ _ env1 H1 x e' h' _ hY hok hs ((hrd.agree ha).agree ha2) sr2 hx1 λr3 env3 H3 ha3 sr3=>?_;cases x with
      | normal=>grind
      | exit id=>exact hK r3 env3 H3 ((ha.trans ha2).trans ha3) sr3
      | ret=>exact hK r3 env3 H3 ((ha.trans ha2).trans ha3) sr3
 | rng site L f ps a b iha ihb =>
   intro B Y r e h env H x e' h' Q hY hok hs hrd sr hx hK;simp only[tQ,B4]at hok;obtain⟨hs1,hs2,hs3⟩:=hs;simp only[bO]at hx;split at hx
   .rename_i hcond
    simp only[B4]at hcond;have hfv:=aP sr.re (x:=f) hok.1;obtain⟨gf,first,cap,hev⟩:∃ g a b,aK e f = .fn (.func g) a b:=by
     have:=hcond.2;unfold aBP at this
     grind
    rw[hev]at hfv hx;cases hv:aK env f<;>rw[hv]at hfv<;>cases hfv
    rename_i first' cap' hf0 hl1 k1 hl2 k2;split at hx
    .rename_i v h1 hcall
     refine WD.rng (gf:=gf) (first:=first') (cap:=cap') ?_ hv ?_
     .unfold RdOk at hrd
      split at hrd;·grind
      .rename_i l
       obtain⟨_,c,i,q,g1,g2,g3,g4⟩:=hrd;right;refine⟨c,q,g2,?_⟩;have hin:=hcond.1;simp only[aBQ]at hin;split at hin
       .rename_i hst
        obtain⟨c',i',o',m1,m2,m3,m4,_⟩:=sr.sh.loopAt hst;rw[g1]at m1;simp only[oSI]at m1;subst m1;rw[g3]at m2;simp only[oSI]at m2;subst m2;simp only[vU]at m4
        grind
       grind
     .intro B' l oR oB oD hB' hl _ _ hbusy hround
      obtain⟨i,hi⟩:∃ i:YI,i=⟨K,site,env,oR,oB,oD⟩:=⟨_,rfl⟩;obtain⟨Y',hY'⟩:∃ Y':Nat->Option YI,Y'=λc=>if c=l then some i else Y c:=⟨_,rfl⟩
      have y1:Y' l=some i:=by grind
      have y2:∀ c,c≠l->Y' c=Y c:=λc hc=>by grind
      have hYok:YOk P B' D Y':=λc j hj=>by
       by_cases hc:c=l
       .subst hc
        rw[y1]at hj;simp only[oSI]at hj;subst hj;rw[hi];refine⟨hbusy,λd' L' ps' a' b' g1 g2 B1 hB1 as H' Q' g3 g4 g5=>?_⟩
        grind
       .rw[y2 c hc]at hj
        exact(hY.up hB') c j hj
      obtain⟨hf,hy⟩:=hall B' Y' hYok;have hx0:RnB D Y' r l (.loop K site (L.map e) .ready) (.obj true oR):=by
       have:=RnB.loop (D:=D) (Y:=Y') (r:=r) l i (L.map e) .ready oR d L ps a b y1 (by rw[hi];exact rfl) (by grind) (by grind) (by
        rw[hi];exact RnL.map λj _=>(sr.re j).mono (λ_ _ h=>h))
       grind
      obtain⟨p1,p2⟩:=sr.sh.push hl y2 hx0
      have hcs:=yA (P:=P) (B:=B') hf hy p2 (fv:=.fn (.func gf) first cap) (fv':=.fn (.func gf) first' cap') (as:=[.fn (.yield h.length) [] []]) (as':=[.fn (.yield l) [] []])
       (.fn _ _ _ _ _ hf0 hl1 (λi x y hx hy=>(k1 i x y hx hy).mono p1) hl2 (λi x y hx hy=>(k2 i x y hx hy).mono p1)) (RnL.cons (.yield _ _ (by simp)) RnL.nil) hcall
      refine CallV.mono (fv:=.fn (.func gf) first' cap') (as:=[.fn (.yield l) [] []]) hcs ?_;rintro v' H' ⟨⟨r2,q1,q2,q3⟩,_⟩;have hr2:r2 h.length=some l:=q1 h.length l (by simp);have fin:∀(st:LSt),iJ h1 h.length=some st->(∃ o,H' l=some (.obj true o)/\vU i st o)/\SR D Y r2 e (h1.set h.length none) env (pP H' l):=by
       intro st hst;obtain⟨c',i',o',m1,m2,m3,m4,vs,d',L',ps',a',b',m5,_⟩:=q2.loopAt hst;rw[hr2]at m1;simp only[oSI]at m1;subst m1;rw[y1]at m2;simp only[oSI]at m2;subst m2;obtain⟨G,hG⟩:=q2.gh;refine⟨⟨o',m3,m4⟩,⟨λb c hb=>by simpa using q2.dom b c hb,λb1 b2 c x1 x2 g1 g2 g3 g4=>?_,λb2 x hx=>?_,_,hG.via id (λb st p hz=>?_) (λb z hz=>?_) (λ_ _ _ _ _ _ _ hne=>hne) λb st p n y' hz hnn hy=>?_⟩,λj=>(sr.re j).mono (p1.trans q1)⟩
       all_goals
        have live:∀ b z,hat (h1.set h.length none) b=some z->b≠h.length/\hat h1 b=some z:=λb z hz=>by
         grind [gO,uL]
       .exact q2.inj b1 b2 c x1 x2 (live _ _ g1).2 (live _ _ g2).2 g3 g4
       .obtain⟨n1,n2⟩:=live _ _ hx
        obtain⟨c,y,w1,w2,w3⟩:=q2.blk b2 x n2;have hcl:c≠l:=λe=>by
         subst e;exact n1 (q2.inj b2 h.length c x _ n2 m5 w1 hr2)
        exact⟨c,y,w1,by simp only[pP,hcl,AAd];exact w2,w3.mono (λ_ _ h=>h) (λ_=>(y2 c hcl).symm)⟩
       .grind
       .grind
       .obtain⟨n1,n2⟩:=live _ _ hz
        have hnl:n≠l:=λe=>by
         subst e;exact(hG.2 b h.length st p _ n n2 m5 n1 hnn).1 hr2
        simp only[pP,hnl,AAd];exact hy
      split at hx
      .rename_i hst
       simp only[oSI,B9]at hx;obtain⟨rfl,rfl,rfl⟩:=hx;obtain⟨⟨o,u1,u2⟩,u3⟩:=fin _ hst;simp only[vU,hi]at u2;subst u2;exact .inl ⟨u1,hK r2 env _ ((p1.trans q1).agree k) u3⟩
      .rename_i x0 hst
       simp only[oSI,B9]at hx;obtain⟨rfl,rfl,rfl⟩:=hx;obtain⟨⟨o,u1,u2⟩,u3⟩:=fin _ hst;cases x0 with
       | normal=>exact u2.elim
       | ret =>
         simp only[vU,hi]at u2;subst u2;exact .inr (.inl ⟨u1,hK r2 env _ ((p1.trans q1).agree k) u3⟩)
       | exit id =>
         simp only[vU,hi]at u2;subst u2;exact .inr (.inr ⟨id,u1,hK r2 env _ ((p1.trans q1).agree k) u3⟩)
      .simp at hx
    .simp at hx
   .simp at hx
end
end Go.DL
