/- Parts of a proof, joined. No statement of the seed is proved here. -/
import Derived.Test.YtfcdcgplogojbaaGreatDoorH7
set_option linter.unusedSimpArgs false
set_option linter.unusedVariables false
set_option linter.unusedSectionVars false
set_option maxRecDepth 100000
set_option maxHeartbeats 4000000
namespace Go.Proofs.YtfcdcgplogojbaaGreatDoor
open Go Go.DL
variable{s:CSt}{x line:ByteArray}{w:Wd}{v:AV}
theorem sX{α:Type}{f:α->α}{z:α}:∀{l:List (ByteArray×α)}{p:ByteArray×α},p∈nO f z x l->p∈l\/p=(x,z)\/∃ y,(x,y)∈l/\p=(x,f y)
 | [],p,h=>.inr (.inl (by grind [nO]))
 | (k, y)::r,p,h=>by
   unfold nO at h;split at h
   .rename_i hk
    rcases C4.1 h with h|h;·exact .inr (.inr ⟨y,by rw[<-hk];simp,by rw[h,hk]⟩)
    .exact .inl (D8 _ h)
   .rcases C4.1 h with h|h
    .exact .inl (by rw[h];simp)
    .rcases sX h with h|h|⟨y',h1,h2⟩
     .exact .inl (D8 _ h)
     .exact .inr (.inl h)
     .exact .inr (.inr ⟨y',D8 _ h1,h2⟩)
theorem aBg{α:Type}{f:α->α}{z:α}:∀(l:List (ByteArray×α)),(nO f z x l).length=if (dW l x).isNone then l.length+1 else l.length
 | []=>rfl
 | (k, y)::r=>by
   have ih:=aBg (f:=f) (z:=z) r;have e:dW ((k,y)::r) x=if k=x then some y else dW r x:=by
    unfold dW;show (if k=x then some 0 else (bR (r.map (·.1)) x).map (· + 1)).bind _=_;by_cases hk:k=x;·grind
    .rw[if_neg hk,if_neg hk]
     cases bR (r.map (·.1)) x<;>rfl
   grind [nO]
theorem kC{d:Int}:∀(l:List (ByteArray×Int)),iE l x d=nO (· + d) d x l
 | []=>rfl
 | (k,y)::r=>by unfold iE nO;rw[kC r]
theorem aBL{α:Type}{f:α->α}{z y:α}{l:List (ByteArray×α)}(h:dW l x=some y):(nO f z x l).map (·.1)=l.map (·.1):=by
 obtain⟨i,h1,h2⟩:=eT h;rw[oS h1 h2];exact lD (dG h1) rfl
theorem aHT{d:Int}:∀{l:List (ByteArray×Int)}{p:ByteArray×Int},(l.map (·.1)).Nodup->x∈l.map (·.1)->p∈iE l x d->∃ y,(p.1,y)∈l/\p.2=y+if p.1=x then d else 0
 | [],p,_,hx,_=>by cases hx
 | (k, y)::r,p,nd,hx,h=>by
   rw[E7,J9]at nd;unfold iE at h;split at h;·grind
   .rename_i hk
    rcases C4.1 h with h|h;·exact⟨y,by rw[h];simp,by rw[h];simp[hk]⟩
    .have hx2:x∈r.map (·.1):=by
      rw[E7]at hx;rcases C4.1 hx with e|e;·exact absurd e.symm hk
      .exact e
     obtain⟨y',h1,h2⟩:=aHT nd.2 hx2 h;exact⟨y',D8 _ h1,h2⟩
theorem aIk(l:List zH)(k:zH)(x:ByteArray):oI (l++[k]) x=oI l x+if k.farmer=x/\k.void=false then k.net else 0:=by
 simp[oI]
theorem aFD{x:ByteArray}:∀{l:List zH},(∀ k∈l,k.farmer≠x)->oI l x=0
 | [],_=>rfl
 | k::r,h=>by
   have ih:=aFD (l:=r) λk hk=>h k (D8 _ hk)
   simp_all [oI]
theorem aFC{x:ByteArray}:∀{l:List zH}{i:Nat}{k:zH},l[i]?=some k->k.void=false->oI (l.set i { k with void:=true }) x=oI l x-if k.farmer=x then k.net else 0
 | [],i,k,h,_=>by simp at h
 | k'::r,0,k,h,hv=>by
   rw[F6,oSI]at h;subst h;unfold oI
   grind
 | k'::r,i+1,k,h,hv=>by
   have ih:=aFC (x:=x) (l:=r) (i:=i) (by simpa using h) hv;unfold oI at ih ⊢;rw[List.set_cons_succ,E7,E7,aB8,aB8,ih];omega
theorem aJc{x:ByteArray}(gs:cY s)(hw:IsW (.farmer x) v)(hc:dC s (.farmer x)=none)(hlt:s.book.length<300):cY { fL s (.farmer x)with book:=s.book++[line] }:=by
 have hl:(s.book++[line]).length=s.book.length+1:=by simp
 have bf':∀ p∈s.farmers,-(100000*(s.book.length+1:Nat):Int)<=p.2/\p.2<=100000*(s.book.length+1:Nat):=λp hp=>by have:=gs.bf p hp;omega
 have bm':∀ p∈s.meters,0<=p.2.1/\p.2.1<=99999/\0<=p.2.2/\p.2.2<=100000*(s.book.length+1:Nat):=λp hp=>by have:=gs.bm p hp;omega
 have bp':∀ p∈s.pans,0<=p.2/\p.2<=100000*(s.book.length+1:Nat):=λp hp=>by have:=gs.bp p hp;omega
 have lw':=gs.lw;have lt':=gs.lt;unfold dC at hc;dsimp only at hc;split at hc;·cases hc
 .rename_i hs
  split at hc;·cases hc
  .rename_i h9
   have hx:x∉s.farmers.map (·.1):=kY.1 (cQ.1 (aEn hs));have l9:=gs.lf;unfold fL;refine⟨by grind,?_,?_,gs.lm,gs.lp,by grind,by grind,gs.cl,λp hp=>?_,by grind,by grind,gs.bw,λk hk=>?_,λp hp=>?_⟩
   .show ((s.farmers++[(x,(0:Int))]).map (λp=>p.1)).Nodup
    rw[M3,aE7];exact⟨gs.nf,by simp,λa ha b hb=>by
     grind⟩
   .grind
   .grind
   .obtain⟨a1,a2,a3,a4⟩:=gs.bt k hk
    grind
   .rcases C8.1 hp with hp|hp
    .exact gs.fs p hp
    .rw[D2]at hp;rw[hp]
     exact(aFD (x:=x) λk hk e=>hx (by rw[<-e];exact(gs.bt k hk).2.2.1)).symm
theorem aKs{x y:ByteArray}{a b:Int}(gs:cY s)(hw:IsW (.wagon x y a b) v)(hc:dC s (.wagon x y a b)=none)(hlt:s.book.length<300):cY { fL s (.wagon x y a b)with book:=s.book++[line] }:=by
 have hl:(s.book++[line]).length=s.book.length+1:=by simp
 have bf':∀ p∈s.farmers,-(100000*(s.book.length+1:Nat):Int)<=p.2/\p.2<=100000*(s.book.length+1:Nat):=λp hp=>by have:=gs.bf p hp;omega
 have bm':∀ p∈s.meters,0<=p.2.1/\p.2.1<=99999/\0<=p.2.2/\p.2.2<=100000*(s.book.length+1:Nat):=λp hp=>by have:=gs.bm p hp;omega
 have bp':∀ p∈s.pans,0<=p.2/\p.2<=100000*(s.book.length+1:Nat):=λp hp=>by have:=gs.bp p hp;omega
 have lw':=gs.lw;have lt':=gs.lt;obtain⟨hb,_⟩:=hw;unfold dC at hc;dsimp only at hc;split at hc;·cases hc
 .rename_i f hf
  split at hc;·cases hc
  .rename_i hle
   have hle:=N9.1 hle;have hkf:(iE s.farmers y (a-b)).map (·.1)=s.farmers.map (·.1):=by grind [kC,aBL]
   have hlf:(iE s.farmers y (a-b)).length=s.farmers.length:=by
    have:=AAs List.length hkf
    grind
   unfold fL fF;refine⟨by grind,?_,?_,gs.lm,gs.lp,?_,?_,?_,λp hp=>?_,by grind,by grind,λp hp=>?_,λk hk=>?_,λp hp=>?_⟩
   .show ((iE s.farmers y (a-b)).map (·.1)).Nodup
    rw[hkf];exact gs.nf
   .show (iE s.farmers y (a-b)).length<=9
    rw[hlf];exact gs.lf
   .grind [aBg]
   .grind
   .show s.closed<=(s.tickets++[_]).length
    have:=gs.cl
    grind
   .rw[hl]
    have hp:p∈iE s.farmers y (a-b):=hp;rw[kC]at hp;rcases sX hp with hp|hp|⟨q,hq,hp⟩;·grind
    .grind
    .have:=gs.bf _ hq
     grind
   .rcases sX hp with hp|hp|⟨q,hq,hp⟩
    .exact gs.bw p hp
    .grind
    .have:=gs.bw _ hq
     grind
   .show _/\_/\k.farmer∈(iE s.farmers y (a-b)).map (·.1)/\_
    rw[hkf];rcases C8.1 hk with hk|hk;·exact gs.bt k hk
    grind [eT]
   .obtain⟨i,h1,_⟩:=eT hf
    obtain⟨v0,e1,e2⟩:=aHT gs.nf (B3 (dG h1)) hp;have e3:=gs.fs _ e1;show p.2=oI (s.tickets++[_]) p.1;rw[aIk,e2]
    grind
theorem aQM{x:ByteArray}{a b:Int}(gs:cY s)(hw:IsW (.pan x a b) v)(hc:dC s (.pan x a b)=none)(hlt:s.book.length<300):cY { fL s (.pan x a b)with book:=s.book++[line] }:=by
 have hl:(s.book++[line]).length=s.book.length+1:=by simp
 have bf':∀ p∈s.farmers,-(100000*(s.book.length+1:Nat):Int)<=p.2/\p.2<=100000*(s.book.length+1:Nat):=λp hp=>by have:=gs.bf p hp;omega
 have bm':∀ p∈s.meters,0<=p.2.1/\p.2.1<=99999/\0<=p.2.2/\p.2.2<=100000*(s.book.length+1:Nat):=λp hp=>by have:=gs.bm p hp;omega
 have bp':∀ p∈s.pans,0<=p.2/\p.2<=100000*(s.book.length+1:Nat):=λp hp=>by have:=gs.bp p hp;omega
 have lw':=gs.lw;have lt':=gs.lt;obtain⟨hb,_⟩:=hw;unfold dC at hc;dsimp only at hc;split at hc;·cases hc
 .rename_i hle
  have hle:=N9.1 hle;split at hc;·cases hc
  .rename_i hn
   have l5:=gs.lp;unfold fL;refine⟨by grind,gs.nf,gs.lf,gs.lm,?_,by grind,by grind,gs.cl,by grind,by grind,λp hp=>?_,gs.bw,gs.bt,gs.fs⟩;·grind [kC,aBg]
   .rw[hl]
    have hp:p∈iE s.pans x (a-b):=hp;rw[kC]at hp;rcases sX hp with hp|hp|⟨q,hq,hp⟩;·grind
    .grind
    .have:=gs.bp _ hq
     grind
theorem aNi{i:Nat}(gs:cY s)(hw:IsW (.void i) v)(hc:dC s (.void i)=none)(hlt:s.book.length<300):cY { fL s (.void i)with book:=s.book++[line] }:=by
 have hl:(s.book++[line]).length=s.book.length+1:=by simp
 have bf':∀ p∈s.farmers,-(100000*(s.book.length+1:Nat):Int)<=p.2/\p.2<=100000*(s.book.length+1:Nat):=λp hp=>by have:=gs.bf p hp;omega
 have bm':∀ p∈s.meters,0<=p.2.1/\p.2.1<=99999/\0<=p.2.2/\p.2.2<=100000*(s.book.length+1:Nat):=λp hp=>by have:=gs.bm p hp;omega
 have bp':∀ p∈s.pans,0<=p.2/\p.2<=100000*(s.book.length+1:Nat):=λp hp=>by have:=gs.bp p hp;omega
 have lw':=gs.lw;have lt':=gs.lt;unfold dC at hc;dsimp only at hc;split at hc;·cases hc
 .rename_i k hk
  obtain⟨a1,a2,a3,a4⟩:=gs.bt k (B3 hk);obtain⟨j,hj⟩:=yM a3;obtain⟨f,hjf⟩:=rF hj;have hf:dW s.farmers k.farmer=some f:=by unfold dW;grind
  have hkf:(iE s.farmers k.farmer (-k.net)).map (·.1)=s.farmers.map (·.1):=by grind [kC,aBL]
  have hlf:(iE s.farmers k.farmer (-k.net)).length=s.farmers.length:=by
   have:=AAs List.length hkf
   grind
  have hd:fL s (.void i)={ s with tickets:=s.tickets.set i { k with void:=true },farmers:=iE s.farmers k.farmer (-k.net) }:=by
   unfold fL;grind
  rw[hd];refine⟨by grind,?_,?_,gs.lm,gs.lp,by grind,?_,?_,λp hp=>?_,by grind,by grind,gs.bw,λk' hk'=>?_,λp hp=>?_⟩
  .show ((iE s.farmers k.farmer (-k.net)).map (·.1)).Nodup
   rw[hkf];exact gs.nf
  .show (iE s.farmers k.farmer (-k.net)).length<=9
   rw[hlf];exact gs.lf
  .grind
  .grind
  .rw[hl]
   have hp:p∈iE s.farmers k.farmer (-k.net):=hp;rw[kC]at hp;rcases sX hp with hp|hp|⟨q,hq,hp⟩;·grind
   .grind
   .have:=gs.bf _ hq
    grind
  .show _/\_/\k'.farmer∈(iE s.farmers k.farmer (-k.net)).map (·.1)/\_
   rw[hkf];rcases aE1 hk' with hk'|hk';·exact gs.bt k' hk'
   grind
  .obtain⟨v0,e1,e2⟩:=aHT gs.nf a3 hp
   have e3:v0=oI s.tickets p.1:=gs.fs _ e1;have hvd:k.void=false:=by
    grind
   show p.2=oI (s.tickets.set i _) p.1;rw[aFC hk hvd,e2,e3]
   grind
theorem aKu(gs:cY s)(hw:IsW (.close) v)(hc:dC s (.close)=none)(hlt:s.book.length<300):cY { fL s (.close)with book:=s.book++[line] }:=by
 have hl:(s.book++[line]).length=s.book.length+1:=by simp
 have bf':∀ p∈s.farmers,-(100000*(s.book.length+1:Nat):Int)<=p.2/\p.2<=100000*(s.book.length+1:Nat):=λp hp=>by have:=gs.bf p hp;omega
 have bm':∀ p∈s.meters,0<=p.2.1/\p.2.1<=99999/\0<=p.2.2/\p.2.2<=100000*(s.book.length+1:Nat):=λp hp=>by have:=gs.bm p hp;omega
 have bp':∀ p∈s.pans,0<=p.2/\p.2<=100000*(s.book.length+1:Nat):=λp hp=>by have:=gs.bp p hp;omega
 have lw':=gs.lw;have lt':=gs.lt;unfold fL;exact⟨by grind,gs.nf,gs.lf,gs.lm,gs.lp,by grind,by grind,B5 _,by grind,by grind,by grind,gs.bw,gs.bt,gs.fs⟩
theorem aKt{x:ByteArray}{n:Int}(gs:cY s)(hw:IsW (.meter x n) v)(hc:dC s (.meter x n)=none)(hlt:s.book.length<300):cY { fL s (.meter x n)with book:=s.book++[line] }:=by
 have hl:(s.book++[line]).length=s.book.length+1:=by simp
 have bf':∀ p∈s.farmers,-(100000*(s.book.length+1:Nat):Int)<=p.2/\p.2<=100000*(s.book.length+1:Nat):=λp hp=>by have:=gs.bf p hp;omega
 have bm':∀ p∈s.meters,0<=p.2.1/\p.2.1<=99999/\0<=p.2.2/\p.2.2<=100000*(s.book.length+1:Nat):=λp hp=>by have:=gs.bm p hp;omega
 have bp':∀ p∈s.pans,0<=p.2/\p.2<=100000*(s.book.length+1:Nat):=λp hp=>by have:=gs.bp p hp;omega
 have lw':=gs.lw;have lt':=gs.lt;obtain⟨hb,_⟩:=hw;unfold dC at hc;dsimp only at hc;split at hc;·cases hc
 .rename_i hn
  have l5:=gs.lm;unfold fL;refine⟨by grind,gs.nf,gs.lf,?_,gs.lp,by grind,by grind,gs.cl,by grind,λp hp=>?_,by grind,gs.bw,gs.bt,gs.fs⟩;·grind [aBg]
  .rw[hl]
   rcases sX hp with hp|hp|⟨q,hq,hp⟩;·grind
   .grind
   .have:=gs.bm _ hq
    rw[hp];unfold mtr;grind
theorem aUd(gs:cY s)(hw:IsW w v)(ha:w.asks=false)(hc:dC s w=none)(hlt:s.book.length<300):cY { fL s w with book:=s.book++[line] }:=by
 cases w with
 | farmer x=>grind [aJc]
 | wagon x y a b=>grind [aKs]
 | void i=>grind [aNi]
 | close=>grind [aKu]
 | meter x n=>grind [aKt]
 | pan x a b=>grind [aQM]
 | _=>cases ha
theorem aJa{P:CSt->ByteArray->Int}(gs:cY s){r:Int ⊕ Wd}(hr:∀ w,r = .inr w->∃ v,IsW w v):cY (qZ P s line r).2:=by
 cases r with
 | inl e=>exact gs
 | inr w =>
   obtain⟨v,hw⟩:=hr w rfl;unfold qZ;dsimp only;cases ha:w.asks with
   | true =>
     grind
   | false =>
     simp only[C6,AAd];cases hc:dC s w with
     | some e=>exact gs
     | none =>
       dsimp only;by_cases hl:s.book.length=300;·grind
       .rw[if_neg hl];exact aUd gs hw ha hc (by have:=gs.book;omega)
end Go.Proofs.YtfcdcgplogojbaaGreatDoor
namespace Go.DL
section
variable{D:Nat->Option XFn}{Y:Nat->Option YI}{r:Nat->Option Nat}
theorem aHr{b:Nat}:∀{vs:List AV},b∈mI vs->∃(i:Nat)(v:AV),vs[i]?=some v/\b∈kK v
 | [],h=>by simp[mI]at h
 | v::l,h=>by
   simp only[mI,C8]at h;rcases h with h|h;·exact⟨0,v,rfl,h⟩
   .obtain⟨i,v',h1,h2⟩:=aHr h
    exact⟨i+1,v',h1,h2⟩
theorem aPE{v v':AV}(h:Rn D Y r v v'):∀ b∈kK v,∃ c,r b=some c:=by
 have many:∀{xs ys:List AV},xs.length=ys.length->(∀(i:Nat)(x y:AV),xs[i]?=some x->ys[i]?=some y->∀ b∈kK x,∃ c,r b=some c)->∀ b∈mI xs,∃ c,r b=some c:=λ{xs ys} hl ih b hb=>by
  grind [aHr]
 induction h with
 | agg xs ys hl h ih=>grind [kK]
 | tup xs ys hl h ih=>grind [kK]
 | fn f xs ys us vs hf hl1 h1 hl2 h2 ih1 ih2 =>
   intro b hb;simp only[kK,C8]at hb
   grind
 | ifc t x y h ih=>grind [kK]
 | yield l c hr=>grind [kK]
 | sl b c o s n hr=>grind [kK]
 | pt b c o hr=>grind [kK]
 | mp b c hr=>grind [kK]
 | sb b c n hr=>grind [kK]
 | bp b c hr=>grind [kK]
 | _=>intro b hb;simp[kK]at hb
theorem aWN{xs ys:List AV}(h:RnL D Y r xs ys):∀ b∈mI xs,∃ c,r b=some c:=λb hb=>by
 grind [aHr,aPE,RnL]
theorem bBs{h:XH}{H:Hp}(sh:SHb D Y r h H):Cd h:=by
 intro x hx b hb;cases x with
 | none=>simp[nmO]at hb
 | some x =>
   obtain⟨i,hi⟩:=G9 hx;have ha:hat h i=some x:=by simp_all [hat]
   obtain⟨⟨g,y,rfl⟩,c,z,h1,h2,h3⟩:=sh.blk i x ha;have hb:b∈nmB (.blk g y):=hb;cases h3 with
   | cells _ w xs ys hl hg =>
     cases g with
     | true=>simp[nmB]at hb
     | false =>
       obtain⟨c',hc'⟩:=aWN hl b hb;exact sh.dom b c' hc'
   | map _ w xs ys hl hg =>
     cases g with
     | true=>simp[nmB]at hb
     | false =>
       have hb:b∈xs.flatMap λp=>kK p.1++kK p.2:=hb;obtain⟨p,hp,hb⟩:=O5.1 hb;obtain⟨j,hj⟩:=G9 hp;have hlt:j<ys.length:=by rw[<-hl.1];grind
       obtain⟨k1,k2⟩:=hl.2 j p _ hj (B7 hlt);rcases C8.1 hb with hb|hb
       .obtain⟨c',hc'⟩:=aPE k1 b hb
        exact sh.dom b c' hc'
       .obtain⟨c',hc'⟩:=aPE k2 b hb
        exact sh.dom b c' hc'
   | obj _ w o=>cases g<;>simp[nmB]at hb
end
end Go.DL
namespace Go.Proofs.YtfcdcgplogojbaaGreatDoor
open Go Go.DL
variable{h h':XH}{L:CL}{s:CSt}
def IsClk(s:CSt):Hp->Nat->Prop:=λH b=>cY s/\∃ h L,aH h=H/\Lays h L s/\L.c=b
theorem Od.hp{l:OL}{ks:List ByteArray}{vs:List (List AV)}{t:Int}(e:aH h=aH h')(od:Od h l ks vs t):Od h' l ks vs t:=⟨⟨λp hp=>by rw[<-e];exact od.hd.1 p hp,od.hd.2⟩,od.ek,od.vk⟩
theorem Lays.hp(e:aH h=aH h')(ly:Lays h L s):Lays h' L s where
 hc:=by rw[<-e];exact ly.hc
 tk:=⟨ly.tk.el,λhk=>by rw[<-e];exact ly.tk.hb hk,λi a k h1 h2=>by rw[<-e];exact ly.tk.he i a k h1 h2,ly.tk.nd,ly.tk.nb⟩
 bk hk:=by rw[<-e];exact ly.bk hk
 f:=ly.f.hp e
 m:=ly.m.hp e
 p:=ly.p.hp e
 w:=ly.w.hp e
 dj:=ly.dj
theorem IsClk.open{c:Nat}(hi:IsClk s (aH h) c):cY s/\∃ L,Lays h L s/\L.c=c:=by
 obtain⟨gs,h0,L,e,ly,hc⟩:=hi;exact⟨gs,L,ly.hp e,hc⟩
end Go.Proofs.YtfcdcgplogojbaaGreatDoor
namespace Go.DL
section
variable{D D':Nat->Option XFn}{Y Y':Nat->Option YI}{r:Nat->Option Nat}
theorem aPG{v v':AV}(h:Rn D Y r v v'):Rn D' Y' r v v':=by
 induction h with
 | any v=>exact .any v
 | int k n=>exact .int k n
 | bool b=>exact .bool b
 | str s=>exact .str s
 | agg xs ys hl h ih=>exact .agg xs ys hl ih
 | tup xs ys hl h ih=>exact .tup xs ys hl ih
 | fs rows h=>exact .fs rows h
 | fp rows i o h=>exact .fp rows i o h
 | sl b c o s n hr=>exact .sl b c o s n hr
 | pt b c o hr=>exact .pt b c o hr
 | mp b c hr=>exact .mp b c hr
 | sb b c n hr=>exact .sb b c n hr
 | bp b c hr=>exact .bp b c hr
 | nilsl=>exact .nilsl
 | nilpt=>exact .nilpt
 | nilmap=>exact .nilmap
 | nilfn=>exact .nilfn
 | nilifc=>exact .nilifc
 | fn f xs ys us vs hf hl1 h1 hl2 h2 ih1 ih2=>exact .fn f xs ys us vs hf hl1 ih1 hl2 ih2
 | yield l c hr=>exact .yield l c hr
 | ifc t x y h ih=>exact .ifc t x y ih
def aCn(J:List Nat)(h:XH):XH:=h.mapIdx λi x=>if i∈J then x else none
theorem aEp{J:List Nat}{h:XH}{i:Nat}:hat (aCn J h) i=if i∈J then hat h i else none:=by
 unfold aCn hat
 grind
theorem aPc{h:XH}{H:Hp}(sh:SH D Y r h H){J:List Nat}(hJ:∀ i∈J,∃ x,aH h i=some x):SHb D' Y' r (aCn J h) H:=by
 refine⟨λb c hb=>by unfold aCn;rw[List.length_mapIdx];exact sh.dom b c hb,λb b' c x y hx hy h1 h2=>?_,λb x hx=>?_⟩
 .rw[aEp]at hx hy
  split at hx
  .split at hy
   .exact sh.inj b b' c x y hx hy h1 h2
   .cases hy
  .cases hx
 .rw[aEp]at hx
  split at hx
  .rename_i hb
   obtain⟨c,y,k1,k2,k3⟩:=sh.blk b x hx;obtain⟨z,hz⟩:=hJ b hb;unfold aH at hz;rw[hx]at hz;cases x with
   | blk g w =>
     refine⟨⟨g,w,rfl⟩,c,y,k1,k2,?_⟩;cases k3 with
     | cells _ w xs ys hl hg=>exact .cells c _ _ _ _ ⟨hl.1,λi a b ha hb=>aPG (hl.2 i a b ha hb)⟩ hg
     | map _ w xs ys hl hg=>exact .map c _ _ _ _ ⟨hl.1,λi a b ha hb=>⟨aPG (hl.2 i a b ha hb).1,aPG (hl.2 i a b ha hb).2⟩⟩ hg
     | obj _ w o=>exact .obj c _ _ _
   | _=>cases hz
  .cases hx
end
end Go.DL
namespace Go.Proofs.YtfcdcgplogojbaaGreatDoor
open Go Go.DL
section
variable{h h':XH}{L:CL}{s:CSt}
theorem Lays.only(ly:Lays h L s):Lays (aCn (zF L s) h) L s:=by
 refine ly.fr (J:=(List.range h.length).filter λb=>decide (b∉zF L s)) ⟨λb hb hn=>?_,by simp[aCn]⟩ λj b hb hm=>?_
 .have:b∈zF L s:=Classical.byContradiction λq=>hn (by grind)
  unfold aH;rw[aEp,if_pos this]
 grind [bI]
section
variable{D:Nat->Option XFn}{P:CSt->ByteArray->Int}{rd:ByteArray->Int ⊕ Wd}
open Classical in
noncomputable def pmSay(P:CSt->ByteArray->Int)(rd:ByteArray->Int ⊕ Wd):List AV->XH->Option (AV×XH):=λxs h=>match xs,h with
 | [.pt 0 0,.str line],[some (.gh s p)]=>if p=IsClk s then some (.str (qZ P s line (rd line)).1,[some (.gh (qZ P s line (rd line)).2 (IsClk (qZ P s line (rd line)).2))]) else none
 | _,_=>none
def RdOk(rd:ByteArray->Int ⊕ Wd):Prop:=∀ line,Prs line (rd line)/\∀ e,rd line = .inl e->e∈lV
theorem yT{x:XB}{b:Nat}{y:XB}(h:hat [some x] b=some y):b=0/\y=x:=by
 grind [hat]
theorem aJd{Y:Nat->Option YI}{r:Nat->Option Nat}{H':Hp}{c:Nat}{s':CSt}(hdm:∀ b c,r b=some c->b<1)(hrc:r 0=some c){D3:Nat->Option XFn}{Y3:Nat->Option YI}{r3:Nat->Option Nat}{h3:XH}{L3:CL}(sh3:SH D3 Y3 r3 h3 H')(h3c:r3 L3.c=some c)(ly3:Lays h3 L3 s')(gs:cY s') :
 SH D Y r [some (.gh s' (IsClk s'))] H':=by
 have hJ:∀ i∈zF L3 s',∃ x,aH h3 i=some x:=λi hi=>by
  obtain⟨j,hj⟩:=bI.1 hi;exact ly3.live j i hj
 refine⟨λb c hb=>hdm b c hb,λb b' c x y hx hy _ _=>(yT hx).1.trans (yT hy).1.symm,λb x hx=>?_,λ_ n=>∃ i x,hat (aCn (zF L3 s') h3) i=some x/\r3 i=some n,λb st q hb=>?_,λb b' st q x n hb hb' hne _=>absurd ((yT hb).1.trans (yT hb').1.symm) hne⟩
 .obtain⟨rfl,rfl⟩:=yT hx
  obtain⟨g,hg⟩:=aC ly3.hc;obtain⟨c',y,k1,k2,_⟩:=sh3.blk _ _ hg;rw[h3c]at k1;cases k1;exact⟨c,y,hrc,k2,.gh c _ _ y⟩
 .obtain⟨rfl,e⟩:=yT hb
  cases e;exact⟨c,hrc,aCn (zF L3 s') h3,r3,L3.c,λD' Y'=>aPc sh3 hJ,h3c,⟨gs,_,L3,rfl,ly3.only,rfl⟩,λn=>Iff.rfl⟩
open Classical in
noncomputable def pmSayG(Fine:CSt->ByteArray->Prop)(A:CSt->ByteArray->ByteArray×CSt):List AV->XH->Option (AV×XH):=λxs h=>match xs,h with
 | [.pt 0 0,.str line],[some (.gh s p)]=>if p=IsClk s/\Fine s line then some (.str (A s line).1,[some (.gh (A s line).2 (IsClk (A s line).2))]) else none
 | _,_=>none
theorem aWU{Fine:CSt->ByteArray->Prop}{A:CSt->ByteArray->ByteArray×CSt}(hF:∀(s:CSt)(line:ByteArray)(h:XH)(L:CL),Fine s line->Lays h L s->Cd h->cY s->aFt h L line (A s line).2 (A s line).1/\cY (A s line).2):iB D 8 (pmSayG Fine A):=by
 intro B Y r h H xs ys v h' sh hr hx;unfold pmSayG at hx;split at hx
 .rename_i line s p
  split at hx
  .rename_i hp
   obtain⟨hp,hfine⟩:=hp;subst hp;cases hx;obtain⟨G,hG⟩:=sh.gh;obtain⟨c,hrc,h0,r0,b0,shb,hb0,hi,hS⟩:=hG.1 0 s _ rfl;obtain⟨gs,L,ly,hL⟩:=hi.open;have sb:=shb aB (λ_=>none);have s0:SH aB (λ_=>none) r0 h0 H:=⟨sb.dom,sb.inj,λb x hb=>(sb.blk b x hb).2,GhR.no λb st p hb=>by obtain⟨g,y,e⟩:=(sb.blk b _ hb).1;cases e⟩;obtain⟨⟨h3,L3,body,ly3,hL3⟩,gsay⟩:=hF s line h0 L hfine ly (bBs sb) gs;obtain⟨a,as1,rfl,q1,q2⟩:=hr.inv;obtain⟨b,as2,rfl,q3,q4⟩:=q2.inv;rw[q4.nil_inv];obtain⟨c',rfl,hc'⟩:=oA q1;rw[hrc]at hc';cases hc';rw[dM q3];have hA:RnL aB (λ_=>none) r0 [.pt L.c 0,.str line] [.pt c 0,.str line]:=RnL.cons (.pt _ _ _ (by grind)) (RnL.cons (.str _) RnL.nil);have hlen:(h0++ansB).length=h0.length+1:=by simp[ansB]
   have fw:=aLp (B:=B) (h:=h0) (h1:=h0++ansB) (e1:=bD (aX [.pt L.c 0,.str line]) (some 4) (.pt h0.length 0)) aA aBR rfl (xs:=[.pt L.c 0,.str line]) (by simp) rfl rfl AS (by rw[hlen];exact body) (Y:=λ_=>none) (λl i h=>by simp at h) s0 hA;have cv:CallV B Tryz.prog (.fn (.func 8) [] []) [.pt c 0,.str line] H (fO aB (λ_=>none) r0 (.str (A s line).1) h3):=fw;suffices goal:CallV B Tryz.prog (.fn (.func 8) [] []) [.pt c 0,.str line] H (fO D Y r (.str (A s line).1) [some (.gh (A s line).2 (IsClk (A s line).2))]) from goal
   refine CallV.mono cv λv' H' hq=>?_;obtain⟨r3,ha,sh3,hv⟩:=hq;refine⟨r,λb c hb=>hb,aJd (λb c hb=>sh.dom b c hb) hrc sh3 (ha _ _ (by grind)) ly3 gsay,by rw[dM hv];exact .str _⟩
  .cases hx
 .cases hx
theorem aZv(pok:aMp P)(rok:RdOk rd):iB D 8 (pmSay P rd):=by
 have h0:iB D 8 (pmSayG (λ_ _=>True) λs line=>qZ P s line (rd line)):=aWU λs line h L _ ly cd gs=>⟨aTu pok ly cd gs (rok line).1 (rok line).2,aJa gs λw hw=>by
  have:=(rok line).1;rw[hw]at this;obtain⟨v,_,k,_⟩:=this
  grind⟩
 intro B Y r h H xs ys v h' sh hr hx;refine h0 B Y r h H xs ys v h' sh hr ?_;unfold pmSay at hx;split at hx
 .split at hx
  .rename_i hp
   cases hx;unfold pmSayG
   grind
  .cases hx
 .cases hx
end
end
section
section
variable{D:Nat->Option XFn}{B:Base}
theorem aFP{K:Nat}{ys:List AV}{v:AV}{h1 h2:XH}{r1:Nat->Option Nat}{H:Hp}(sb:SHb aB (λ_=>none) r1 h1 (jV H))(hcall:∀ H1,SH aB (λ_=>none) r1 h1 H1->FnW B Tryz.prog K ys H1 (fO aB (λ_=>none) r1 v h2))
 (hk:∀ b x,hat h1 b=some x->∃ y,hat h2 b=some y) (hv:∀(r:Nat->Option Nat) v',Rn aB (λ_=>none) r v v'->v'=v) :
 CallV B Tryz.prog (.fn (.func K) [] []) ys H λv' H'=>v'=v/\H'=H:=by
 classical
 have g1:SH aB (λ_=>none) r1 h1 (λc=>if ∃ b x,hat h1 b=some x/\r1 b=some c then jV H c else none):=by
  refine⟨sb.dom,sb.inj,λb x hb=>?_,GhR.no λb st p hb=>by obtain⟨g,y,e⟩:=(sb.blk b _ hb).1;cases e⟩;obtain⟨_,c,y,k1,k2,k3⟩:=sb.blk b x hb;exact⟨c,y,k1,by rw[if_pos ⟨b,x,hb,k1⟩];exact k2,k3⟩
 have fw:=hcall _ g1;have hn:[]++ys++[]=ys:=by simp
 rw[<-hn]at fw;have q1:=CallV.quietOf (v:=v) (CallV.mono (CallV.frameS (fv:=.fn (.func K) [] []) (λc=>∃ b x,hat h1 b=some x/\r1 b=some c) fw) (by
  rintro v' H'' ⟨H',⟨rl,m1,m2,m3⟩,e1,e2⟩;refine⟨hv _ _ m3,λc hc=>?_⟩;obtain⟨x,hx⟩:=C5.1 hc;by_cases hS:∃ b x,hat h1 b=some x/\r1 b=some c
  .rw[e1 c (.inl hS)]
   obtain⟨b,x,hb,hrb⟩:=hS;obtain⟨y,hy⟩:=hk b x hb;obtain⟨c',y',n1,n2,_⟩:=m2.blk b y hy;have:=m1 b c hrb
   grind
  simp_all))
 refine q1.conv λF w st=>⟨aJY st,?_⟩;rintro e w' ⟨q,v',F',H',rfl,h2,h3,h4,rfl,rfl⟩;obtain⟨a,b⟩:=aBX st h2 h3;exact⟨q,_,F',H,rfl,a,b,h4,rfl,rfl⟩
theorem aAe{K:Nat}{xs ys:List AV}{v:AV}{h1 h2:XH}{r1:Nat->Option Nat}{H:Hp}(sb:SHb aB (λ_=>none) r1 h1 (jV H))(hrun:runW aB K xs h1=some (v,h2))(hA:RnL aB (λ_=>none) r1 xs ys)
 (hk:∀ b x,hat h1 b=some x->∃ y,hat h2 b=some y) (hv:∀(r:Nat->Option Nat) v',Rn aB (λ_=>none) r v v'->v'=v) :
 CallV B Tryz.prog (.fn (.func K) [] []) ys H λv' H'=>v'=v/\H'=H :=
 aFP sb (λH1 s1=>(aAR aA B (λ_=>none) (λl i h=>by simp at h)).1 r1 h1 _ K xs ys v h2 s1 hA hrun) hk hv
theorem aYy{h:XH}:runW aB 25 [.nilpt] h=some (.bool true,h):=by
 rw[qY 25 x25 rfl];unfold x25;dsimp only;(exact RT0)
theorem bBX:runW aB 10 [.nilpt] []=some (.str ⟨⟨[]⟩⟩,[]):=by
 have c:=aYy (h:=[]);rw[qX 10 x10 rfl];unfold x10;dsimp only;(exact cI c)
open Classical in
noncomputable def pmSave:List AV->XH->Option (AV×XH):=λxs h=>match xs,h with
 | [.pt 0 0],[some (.gh s p)]=>if p=IsClk s then some (.str (kA s.book),[some (.gh s p)]) else none
 | [.nilpt],[]=>some (.str ⟨⟨[]⟩⟩,[])
 | _,_=>none
theorem aPH{r r':Nat->Option Nat}:∀{l:List ByteArray}{ys:List AV},RnL aB (λ_=>none) r (bQ l) ys->RnL aB (λ_=>none) r' (bQ l) ys
 | [],ys,h=>by grind [RnL,bQ]
 | x::l,ys,h=>by
   obtain⟨y,ys',rfl,h1,h2⟩:=RnL.inv (xs:=bQ l) h;rw[dM h1];exact RnL.cons (.str _) (aPH h2)
theorem aZu:iB D 10 pmSave:=by
 intro B Y r h H xs ys v h' sh hr hx;unfold pmSave at hx;split at hx
 .rename_i s p
  split at hx
  .rename_i hp
   subst hp;cases hx;obtain⟨G,hG⟩:=sh.gh;obtain⟨c,hrc,h0,r0,b0,shb,hb0,hi,hS⟩:=hG.1 0 s _ rfl;obtain⟨gs,L,ly,hL⟩:=hi.open;have sb:=shb aB (λ_=>none);obtain⟨a,as1,rfl,q1,q2⟩:=hr.inv;rw[q2.nil_inv];obtain⟨c',rfl,hc'⟩:=oA q1;rw[hrc]at hc';cases hc';suffices hq:CallV B Tryz.prog (.fn (.func 10) [] []) [.pt c 0] H λv' H'=>v' = .str (kA s.book)/\H'=H by
    suffices goal:CallV B Tryz.prog (.fn (.func 10) [] []) [.pt c 0] H (fO D Y r (.str (kA s.book)) [some (.gh s (IsClk s))]) from goal
    refine CallV.mono hq λv' H' e=>?_;obtain⟨rfl,rfl⟩:=e;exact⟨r,λb c hb=>hb,sh,.str _⟩
   obtain⟨g,hc⟩:=aC ly.hc;obtain⟨_,c1,y,k1,k2,k3⟩:=sb.blk _ _ hc;have e1:c1=c:=by grind
   subst e1;cases k3 with
   | cells _ _ _ ys hl hg =>
     unfold cL at hl;obtain⟨y0,_,rfl,w0,hl⟩:=hl.inv;obtain⟨y1,_,rfl,_,hl⟩:=hl.inv;obtain⟨y2,_,rfl,_,hl⟩:=hl.inv;obtain⟨y3,_,rfl,_,hl⟩:=hl.inv;obtain⟨y4,_,rfl,_,hl⟩:=hl.inv;obtain⟨y5,_,rfl,_,hl⟩:=hl.inv;obtain⟨y6,_,rfl,w6,hl⟩:=hl.inv;rw[hl.nil_inv]at k2;obtain⟨f,rfl,hf⟩:=oA w0;have hro:jV H c1=some (.cells false [.pt f 0,y1,y2,y3,y4,y5,y6]):=by unfold jV;rw[k2];rfl
     by_cases hk:s.book.length=0
     .have hb:s.book=[]:=D0 hk
      have w6:Rn aB (λ_=>none) r0 (iX L.kb s.book.length) y6:=w6;rw[hk]at w6;have h6:y6 = .nilsl:=by cases w6;rfl
      subst h6;have hs:kA s.book=hdB:=by rw[hb];rfl
      rw[hs];refine aAe (r1:=λi=>if i=0 then some c1 else if i=1 then some f else none) ⟨λb c hb=>?_,λb b' c x y hx hy _ _=>?_,λb x hx=>?_⟩ bBW (RnL.cons (.pt _ _ _ rfl) RnL.nil) (λb x hx=>?_) λr v' hv=>dM hv;·grind
      .have f0:∀ b x,hat [cr0 .nilsl,none] b=some x->b=0:=λb x h=>by
        match b,h with
        | 0,_=>rfl
        | 1,h=>cases h
        | _+2,h=>simp[hat]at h
       grind
      .match b,hx with
       | 0,hx =>
         cases hx;exact⟨⟨_,_,rfl⟩,c1,_,rfl,hro,.cells _ _ _ _ _ (RnL.cons (.pt _ _ _ rfl) (RnL.cons (.any _) (RnL.cons (.any _) (RnL.cons (.any _) (RnL.cons (.any _) (RnL.cons (.any _) (RnL.cons .nilsl RnL.nil))))))) (by simp)⟩
       | 1,hx=>cases hx
       | _+2,hx=>simp[hat]at hx
      .match b,hx with
       | 0,_=>exact⟨_,rfl⟩
       | 1,hx=>cases hx
       | _+2,hx=>simp[hat]at hx
     .have w6:Rn aB (λ_=>none) r0 (iX L.kb s.book.length) y6:=w6
      have hkb:=ly.bk AS;have ev:iX L.kb s.book.length = .sl L.kb 0 1 s.book.length:=by
       unfold iX;grind
      rw[ev]at w6;obtain⟨kb,rfl,hkb'⟩:∃ kb,y6 = .sl kb 0 1 s.book.length/\r0 L.kb=some kb:=by cases w6;grind
      obtain⟨g2,hc2⟩:=aC hkb;obtain⟨_,c2,z,m1,m2,m3⟩:=sb.blk _ _ hc2;rw[hkb']at m1;cases m1;cases m3 with
      | cells _ _ _ ys hl2 hg2 =>
      have hro2:jV H kb=some (.cells false ys):=by unfold jV;rw[m2];rfl
      have hne:c1≠kb:=λe=>by
       subst e;have:=sb.inj _ _ _ _ _ hc hc2 k1 hkb';have h1:=ly.dj 0 2 L.c (by simp[px]) (by rw[this];show L.kb∈pL L.kb s.book.length;grind [cG]);cases h1
      refine aAe (r1:=λi=>if i=0 then some c1 else if i=1 then some f else if i=2 then some kb else none) ⟨λb c hb=>?_,λb b' c x y hx hy a1 a2=>?_,λb x hx=>?_⟩ (w23 (B:=s.book) AS gs.book) (RnL.cons (.pt _ _ _ rfl) RnL.nil) (λb x hx=>?_) λr v' hv=>dM hv;·grind
      .have f0:∀ b x,hat [cr0 (.sl 2 0 1 s.book.length),none,zT s.book] b=some x->b=0\/b=2:=λb x h=>by
        match b,h with
        | 0,_=>omega
        | 1,h=>cases h
        | 2,_=>omega
        | _+3,h=>simp[hat]at h
       grind
      .match b,hx with
       | 0,hx =>
         cases hx;exact⟨⟨_,_,rfl⟩,c1,_,rfl,hro,.cells _ _ _ _ _ (RnL.cons (.pt _ _ _ rfl) (RnL.cons (.any _) (RnL.cons (.any _) (RnL.cons (.any _) (RnL.cons (.any _) (RnL.cons (.any _) (RnL.cons (.sl _ _ _ _ _ rfl) RnL.nil))))))) (by simp)⟩
       | 1,hx=>cases hx
       | 2,hx =>
         cases hx;exact⟨⟨_,_,rfl⟩,kb,_,rfl,hro2,.cells _ _ _ _ _ (aPH hl2) λ_=>bP _⟩
       | _+3,hx=>simp[hat]at hx
      .match b,hx with
       | 0,_=>exact⟨_,rfl⟩
       | 1,hx=>cases hx
       | 2,_=>exact⟨_,rfl⟩
       | _+3,hx=>simp[hat]at hx
  .cases hx
 .cases hx
  obtain⟨a,as1,rfl,q1,q2⟩:=hr.inv;rw[q2.nil_inv];have q3:a = .nilpt:=by cases q1;rfl
  subst q3;refine(show CallV B Tryz.prog (.fn (.func 10) [] []) [.nilpt] H (fO D Y r (.str ⟨⟨[]⟩⟩) []) from CallV.mono (aAe (h1:=[]) (r1:=λ_=>none) ⟨λb c hb=>(by cases hb),λb b' c x y hx=>by grind,λb x hx=>by simp[hat]at hx⟩ bBX (RnL.cons .nilpt RnL.nil) (λb x hx=>by grind) λr v' hv=>dM hv) λv' H' e=>?_);obtain⟨rfl,rfl⟩:=e;exact⟨r,λb c hb=>hb,sh,.str _⟩
 .cases hx
end
end
section
theorem aPg{h:XH}{line:ByteArray}(hp:runW aB 25 [.nilpt] (h++ansB)=some (.bool true,h++ansB)) :
 aSe aB d21 h.length 0 (h.length+1) (upd (upd (aX [.nilpt,.str line]) 4 (.pt h.length 0)) 7 .any) (h++ansB) ((h++ansB).set h.length (aa [.str (wC 9)])++[aa [I 9]]) (.str (wC 9)):=by
 have he:(9:Int)∈lV:=by simp[lV]
 have n2:hat (h++ansB) h.length=aa [.str ⟨⟨[]⟩⟩]:=by
  simp[hat,ansB]
 refine .inr ⟨.agg [I 9],aY [4] [.pt h.length 0],h++ansB,?_,aIZ n2 he,?_⟩
 .unfold b21
  refine PanX.seqL ?_;refine PanX.reg (p:=[⟨0,some 8,.mv (.t 0),none⟩,⟨0,some 9,.callf false (.c (.fn (.func 25) [] [])) [.t 8] [],none⟩,⟨0,some 10,.not (.t 9),none⟩]) (post:=[]) aA [4] (g:=24) (first:=[]) (cap:=[]) (args:=[.bool false,I 9]) (vs:=[.pt h.length 0]) (h1:=h++ansB) rfl rfl ?_ (c58 9 _);obtain⟨n,hn⟩:∃ n,h.length=n:=⟨_,rfl⟩;rw[hn];unfold ansB at *;(exact kJ hn hp)
 .refine aCR rfl ?_
  have hl:h.length<(h++ansB).length:=by simp[ansB]
  rw[fZ,if_pos (by grind),cR,if_pos rfl,if_pos hl]
section
variable{D:Nat->Option XFn}{B:Base}
noncomputable def pmSayN(P:CSt->ByteArray->Int)(rd:ByteArray->Int ⊕ Wd):List AV->XH->Option (AV×XH):=λxs h=>match xs,h with
 | [.nilpt,.str _],[]=>some (.str (wC 9),[])
 | xs,h=>pmSay P rd xs h
theorem aWT{P:CSt->ByteArray->Int}{rd:ByteArray->Int ⊕ Wd}(hF:iB D 8 (pmSay P rd)):iB D 8 (pmSayN P rd):=by
 intro B Y r h H xs ys v h' sh hr hx;unfold pmSayN at hx;split at hx
 .rename_i line
  cases hx;obtain⟨a,as1,rfl,q1,q2⟩:=hr.inv;obtain⟨b,as2,rfl,q3,q4⟩:=q2.inv;rw[q4.nil_inv,dM q3];have q5:a = .nilpt:=by cases q1;rfl
  subst q5;refine(show CallV B Tryz.prog (.fn (.func 8) [] []) [.nilpt,_] H (fO D Y r (.str (wC 9)) []) from CallV.mono (aFP (h1:=[]) (h2:=ansB.set 0 (aa [.str (wC 9)])++[aa [I 9]]) (r1:=λ_=>none) (v:=.str (wC 9)) ⟨λb c hb=>(by cases hb),λb b' c x y hx=>by grind,λb x hx=>by simp[hat]at hx⟩ (λH1 s1=>?_) (λb x hb=>by simp[hat]at hb) λr v' hv=>dM hv) λv' H' e=>?_)
  .have body:=aPg (line:=line) (h:=[]) aYy
   exact aLp (B:=B) (h:=[]) (h1:=ansB) (e1:=bD (aX [.nilpt,.str line]) (some 4) (.pt 0 0)) aA aBR rfl (xs:=[.nilpt,.str line]) (by simp) rfl rfl (by simp[ansB]) body (Y:=λ_=>none) (λl i h=>by simp at h) s1 (RnL.cons .nilpt (RnL.cons (.str _) RnL.nil))
  .obtain⟨rfl,rfl⟩:=e
   exact⟨r,λb c hb=>hb,sh,.str _⟩
 .exact hF B Y r h H xs ys v h' sh hr hx
end
theorem w52{n:Int}:runW aB 49 [I n] []=some (.pt 0 0,[ab [.nilsl,.mp 1,I n],some (.blk true (.map true []))]):=by
 rw[qX 49 x49 rfl];unfold x49;dsimp only;(exact RT0)
theorem w53{n:Int}:runW aB 50 [I n] []=some (.pt 0 0,[ab [.nilsl,.mp 1,I n],some (.blk true (.map true []))]):=by
 rw[qX 50 x50 rfl];unfold x50;dsimp only;(exact RT0)
theorem w54{n:Int}:runW aB 51 [I n] []=some (.pt 0 0,[ab [.nilsl,.mp 1,I n],some (.blk true (.map true []))]):=by
 rw[qX 51 x51 rfl];unfold x51;dsimp only;(exact RT0)
theorem w55{n:Int}:runW aB 52 [I n] []=some (.pt 0 0,[ab [.nilsl,.mp 1,I n],some (.blk true (.map true []))]):=by
 rw[qX 52 x52 rfl];unfold x52;dsimp only;(exact RT0)
def aKq:XH:=[ab [.pt 1 0,.pt 3 0,.pt 5 0,.pt 7 0,.nilsl,I 0,.nilsl],ab [.nilsl,.mp 2,I 9],some (.blk true (.map true [])),ab [.nilsl,.mp 4,I 5],some (.blk true (.map true [])),ab [.nilsl,.mp 6,I 5],some (.blk true (.map true [])),ab [.nilsl,.mp 8,I 300],some (.blk true (.map true []))]
theorem w19:runW aB 16 [] []=some (.pt 0 0,aKq):=by
 have a:=w52 (n:=9);have b:=w53 (n:=5);have c:=w54 (n:=5);have d:=w55 (n:=300);rw[qX 16 x16 rfl];unfold x16 aKq;dsimp only;(exact rR a b c d)
def dP:CSt:=⟨[],[],[],[],[],0,[]⟩
def aFp:CL:=⟨0,0,0,[],⟨1,2,0,[]⟩,⟨3,4,0,[]⟩,⟨5,6,0,[]⟩,⟨7,8,0,[]⟩⟩
theorem aHp{o m:Nat}{t:Int}(h1:aH aKq o=some (.cells true [.nilsl,.mp m,I t]))(h2:aH aKq m=some (.map true []))(hne:o≠m):Od aKq ⟨o,m,0,[]⟩ [] [] t:=by
 refine⟨⟨λp hp=>?_,?_⟩,rfl,rfl⟩
 .have hp:p∈[(o,ABlk.cells true [.nilsl,.mp m,I t]),(m,ABlk.map true [])]:=hp
  grind
 .show [o,m].Nodup
  simp[hne]
theorem aQv:Lays aKq aFp dP where
 hc:=rfl
 tk:=⟨rfl,λh=>absurd h (by decide),λi e k h1 _=>by simp[aFp]at h1,aA6,λh=>absurd h (by decide)⟩
 bk h:=absurd h (by decide)
 f:=aHp rfl rfl (by decide)
 m:=aHp rfl rfl (by decide)
 p:=aHp rfl rfl (by decide)
 w:=aHp rfl rfl (by decide)
 dj i j b hi hj:=by
  have p:∀ i b,b∈px aFp dP i->(i=0/\b=0)\/(i=3/\(b=1\/b=2))\/(i=4/\(b=3\/b=4))\/(i=5/\(b=5\/b=6))\/(i=6/\(b=7\/b=8)):=λi b h=>by
   match i,h with
   | 0,h=>simpa [px,aFp]using h
   | 1,h=>simp[px,pL,aFp,dP]at h
   | 2,h=>simp[px,pL,aFp,dP]at h
   | 3,h=>simpa [px,idx,aFp,dP]using h
   | 4,h=>simpa [px,idx,aFp,dP]using h
   | 5,h=>simpa [px,idx,aFp,dP]using h
   | 6,h=>simpa [px,idx,aFp,dP]using h
   | _+7,h=>cases h
  grind
theorem aJb:cY dP:=by
 refine⟨by decide,aA6,by decide,by decide,by decide,by decide,by decide,by decide,?_,?_,?_,?_,?_,?_⟩;all_goals intro p hp;cases hp
def aLw:List AV->XH->Option (AV×XH):=λxs h=>match xs,h with
 | [],[]=>some (.pt 0 0,[some (.gh dP (IsClk dP))])
 | _,_=>none
theorem aZw{D:Nat->Option XFn}:iB D 16 aLw:=by
 intro B Y r h H xs ys v h' sh hr hx;unfold aLw at hx;split at hx
 .cases hx
  rw[hr.nil_inv];have s0:SH aB (λ_=>none) (λ_=>none) [] H:=⟨λb c hb=>by simp at hb,λb c c' x y hx=>by grind,λb x hx=>by simp[hat]at hx,GhR.no λb st p hx=>by simp[hat]at hx⟩;have fw:=(aAR aA B (λ_=>none) (λl i h=>by simp at h)).1 (λ_=>none) [] H 16 [] [] _ _ s0 RnL.nil w19;have cv:CallV B Tryz.prog (.fn (.func 16) [] []) [] H (fO aB (λ_=>none) (λ_=>none) (.pt 0 0) aKq):=fw;suffices goal:CallV B Tryz.prog (.fn (.func 16) [] []) [] H (fO D Y r (.pt 0 0) [some (.gh dP (IsClk dP))]) from goal
  refine CallV.mono cv λv' H' hq=>?_;obtain⟨r3,ha,sh3,hv⟩:=hq;obtain⟨c,rfl,hc⟩:=oA hv;have rno:∀ b c,r b=some c->False:=λb c hb=>by have:=sh.dom b c hb;simp at this
  refine⟨λb=>if b=0 then some c else none,λb c' hb=>(rno b c' hb).elim,aJd (λb c' hb=>?_) rfl sh3 (by exact hc) aQv aJb,.pt _ _ _ rfl⟩
  grind
 .cases hx
end
section
def cH(w:ByteArray):Option Int:=match Lib.atoiAll w.data.toList with
 | .ok v=>if 0<=v/\v<=99999/\Lib.itoa v=w.data.toList then some v else none
 | _=>none
def cA(line:ByteArray):List ByteArray:=(eC 32 line.data.toList).map λl=>⟨⟨l⟩⟩
def iQ(x:ByteArray)(w:Wd):Int ⊕ Wd:=if aZ x then .inr w else .inl 8
def aBd(x:ByteArray)(f:Int->Wd):Int ⊕ Wd:=match cH x with
 | some n=>.inr (f n)
 | none=>.inl 2
def rd(line:ByteArray):Int ⊕ Wd:=if line.size>40 then .inl 14 else match cA line with
 | [w]=>if w=AAw then .inr .close else if w=AAA then .inr .total else .inl 13
 | [w,x]=>if w=AAt then iQ x (.farmer x) else if w=AAz then iQ x (.net x) else if w=AAC then iQ x (.used x) else
   if w=AAD then iQ x (.loss x) else if w=AAE then iQ x (.power x) else
   if w=AAv then aBd x (λn=>.void n.toNat) else if w=AAB then aBd x (λn=>.ticket n.toNat) else .inl 13
 | [w,x,y]=>if w=AAx then (if aZ x then aBd y (.meter x) else .inl 8) else .inl 13
 | [w,x,y,z]=>if w=AAy then (if aZ x then (match cH y,cH z with
  | some a,some b=>.inr (.pan x a b)
  | _,_=>.inl 2) else .inl 8) else .inl 13
 | [w,x,y,z,o]=>if w=AAu then (if aZ x&&aZ o then (match cH y,cH z with
  | some a,some b=>.inr (.wagon x o a b)
  | _,_=>.inl 2) else .inl 8) else .inl 13
 | _=>.inl 13
theorem aIN{x:ByteArray}{w:Wd}{e:Int}(h:iQ x w = .inl e):e∈lV:=by
 grind [lV,iQ]
theorem aKk{x:ByteArray}{f:Int->Wd}{e:Int}(h:aBd x f = .inl e):e∈lV:=by
 grind [lV,aBd]
theorem aPM{line:ByteArray}{e:Int}(h:rd line = .inl e):e∈lV:=by
 unfold rd at h
 repeat' split at h
 all_goals first|exact aIN h|exact aKk h|(cases h;decide)|cases h
end
section
section
variable{run:fC}{runY:gR}{r:List DOper}{e:aJ}{h:XH}{ix:Nat}{d:Option Nat}{m:Option (List (Nat×Nat))}
def aWM:AV->Option Eff
 | .str s=>some (.new none (.obj true (.stringIter s 0)) λb=>.pt b 0)
 | _=>none
theorem cD{x:AO}:xo m run runY (⟨ix,d,.rngs x,none⟩::r) e h=kE m run runY r d e h true (aWM (aK e x)):=by
 have h0:aD (.rngs x) e (aH h)=aWM (aK e x):=by rfl
 rw[<-h0];exact zX rfl (λ_=>rfl) (λ_=>rfl) λ_ _=>rfl
theorem cE{s:ByteArray}:aWM (.str s)=some (.new none (.obj true (.stringIter s 0)) λb=>.pt b 0):=rfl
theorem cF{x:AO}:xo none run runY (⟨ix,d,.nxts x,none⟩::r) e h=kR none run runY r d e (aHX h (aK e x)):=by
 show fP run runY _ e h=_;simp only[fP,gd,dJ];cases aHX h (aK e x)<;>rfl
def dk(s:ByteArray)(i:Nat):Int:=(Utf8.decode s i).1
def dn(s:ByteArray)(i:Nat):Nat:=i+(Utf8.decode s i).2
def nxI(b:Nat)(h:XH)(g:Bool)(s:ByteArray)(pos:Nat)(p:Bool):AV×XH:=if p then (.tup [.bool true,.int .i64 (pos:Int),.int .i32 (dk s pos)],h.set b (some (.blk g (.obj true (.stringIter s (dn s pos)))))) else (.tup [.bool false],h)
def nxM(b:Nat)(h:XH):Option XB->Option (AV×XH)
 | some (.blk g (.obj true (.stringIter s pos)))=>some (nxI b h g s pos (decide (pos<s.size)))
 | _=>none
theorem iC{b:Nat}:aHX h (.pt b 0)=nxM b h (hat h b):=by
 simp only[aHX,nxM,nxI];split
 .rename_i g s pos hh
  rw[hh];by_cases hp:pos<s.size;·simp[hp,dk,dn]
  .simp[hp]
 grind
theorem dS{b:Nat}{g:Bool}{s:ByteArray}{pos:Nat}:nxM b h (some (.blk g (.obj true (.stringIter s pos))))=some (nxI b h g s pos (decide (pos<s.size))):=rfl
theorem dR{b:Nat}{g:Bool}{s:ByteArray}{pos:Nat}:nxI b h g s pos true=(.tup [.bool true,.int .i64 (pos:Int),.int .i32 (dk s pos)],h.set b (some (.blk g (.obj true (.stringIter s (dn s pos)))))):=rfl
theorem dT{b:Nat}{g:Bool}{s:ByteArray}{pos:Nat}:nxI b h g s pos false=(.tup [.bool false],h):=rfl
end
theorem dU:aBr 5 .nilifc .nilifc=some true:=rfl
theorem dV{t:TypeId}{a:AV}:aBr 5 (.ifc t a) .nilifc=some false:=rfl
def fmL:List (ByteArray×ByteArray):=[(AAt,⟨⟨[102]⟩⟩),(AAu,AAH),(AAv,⟨⟨[110]⟩⟩),(AAw,⟨⟨[]⟩⟩),(AAx,⟨⟨[109,110]⟩⟩),(AAy,AAI),(AAz,⟨⟨[102]⟩⟩),(AAA,⟨⟨[]⟩⟩),(AAB,⟨⟨[110]⟩⟩),(AAC,⟨⟨[109]⟩⟩),(AAD,⟨⟨[112]⟩⟩),(AAE,⟨⟨[102]⟩⟩)]
def fmE:List (AV×AV):=fmL.map λp:ByteArray×ByteArray=>(.str p.1,.str p.2)
abbrev fmA:Option XB:=some (.blk true (.map true fmE))
theorem w84:runW aB 61 [] []=some (.mp 0,[fmA]):=bU.2 ⟨20,by kernel_rfl⟩
theorem aCY{w:ByteArray}:∀ l:List (ByteArray×ByteArray),aV true (.str w) (l.map λp:ByteArray×ByteArray=>(AV.str p.1,AV.str p.2))=some ((l.find? λp=>decide (w=p.1)).map λp=>.str p.2)
 | []=>rfl
 | p::l=>by
   have ih:=aCY (w:=w) l;show (match iV true (.str w) (.str p.1)with
    | some true=>some (some (AV.str p.2))
    | some false=>aV true (.str w) (l.map λp:ByteArray×ByteArray=>(AV.str p.1,AV.str p.2))
    | none=>none)=_
   have hk:iV true (.str w) (.str p.1)=some (decide (w=p.1)):=AAs some (aHQ w p.1)
   grind
theorem aYx{s c:ByteArray}(hc:c=⟨⟨[32]⟩⟩)(hs:s.size<=100000):runW aB 60 [.str s,.str c] []=some (.fs ((cA s).map λw=>[.str w]),[]):=by
 subst hc;rw[cM (d:=iO aAW) rfl rfl]
 simp_all [aAW,cA]
theorem w86{s:ByteArray}(hs:s.size<=100000):runW aB 63 [.str s] []=some (tM s,[]):=by
 rw[cM (d:=iO aDT) rfl rfl]
 simp_all [aDT]
theorem jH(a b:ByteArray):aN BinOp.eql a b=some (.bool (decide (a=b))):=by
 have:=fW a b;rw[show aN BinOp.neq a b=some (AV.bool (!(a.toList==b.toList))) from rfl]at this;rw[aAD];simp only[oSI,AV.bool.injEq,Bool.not_inj_iff]at this;rw[this]
def sr(l:List ByteArray):List (List AV):=l.map λx=>[.str x]
theorem wK(l:List ByteArray):(sr l).length=l.length:=by simp[sr]
theorem aLk{l:List ByteArray}{i:Nat}{x:ByteArray}(h:l[i]?=some x):(sr l)[i]?=some [.str x]:=by simp[sr,h]
theorem aON(l:List ByteArray):((sr l).all λr=>r.length==1)=true:=by simp[sr]
theorem aLj(w:ByteArray)(l:List ByteArray):((sr (w::l)).drop 1).take (l.length+1-1)=sr l:=by
 have:(sr l).take l.length=sr l:=C9 (by simp[sr]);exact this
structure aEU(F:ByteArray):Prop where
 dn:∀ i,i<F.size->dn F i=i+1
def kX(F:ByteArray)(xs:List ByteArray)(i:Nat):List Int:=(List.range F.size).map λj=>if j<i/\dk F j=110 then (cH (xs.getD j ByteArray.empty)).getD 0 else 0
abbrev mO(w0:ByteArray)(xs:List ByteArray)(ns:List Int)(n:Nat):XH:=[some (.blk true (.cells true [.str ⟨⟨[]⟩⟩,.nilsl,.nilsl])),some (.blk false (.cells true [.str w0,.fs (sr xs),.sl 2 0 1 n])),some (.blk true (.cells true (ns.map I)))]
def lK(F:ByteArray)(i:Nat):Option XB:=some (.blk true (.obj true (.stringIter F i)))
def zN(n:Nat):List Int:=List.replicate n 0
theorem aGy(n:Nat):(List.replicate n [AV.int .i64 0]).flatten=(zN n).map I:=by
 simp[zN]
section
variable{F w0 line:ByteArray}{xs:List ByteArray}
theorem aLq(hl:xs.length=F.size)(hF:F.size<=4)(ok:aEU F){ns:List Int}{i:Nat}(hi:i<F.size){y:ByteArray}(hy:xs[i]?=some y)(hys:y.size<=1000)(hn:dk F i=110\/aZ y=true) :
 bT 0 [2,4,6,47] (execW aB 26 0 none (match aCf with | .loop _ a=>a|c=>c) (aY [2,4,6,47] [.pt 0 0,.str F,.pt 1 0,.pt 3 0]) (mO w0 xs ns F.size++[lK F i]))=some ([.pt 0 0,.str F,.pt 1 0,.pt 3 0],mO w0 xs ns F.size++[lK F (i+1)]):=by
 have d1:(i<F.size)=True:=AAn hi;have d2:=ok.dn i hi;have d3:((i:Int)<(F.size:Int))=True:=AAa;have sl:=wK xs;rw[hl]at sl;have sa:=aLk hy;have c8:=zC 8;have c85:=w85 (s:=y) AS;unfold aCf lK mO;dsimp only;by_cases h1:dk F i=110
 .have e1:(dk F i=110)=True:=AAn h1
  (exact eD d1 d2 d3 sl sa c8 e1 @cD @cE @cF @iC @dS @dR @dT @dU @dV aF aF aF aF)
 .have e1:(dk F i=110)=False:=AAo h1
  rw[hn.resolve_left h1]at c85;(exact eD d1 d2 d3 sl sa c8 e1 c85 @cD @cE @cF @iC @dS @dR @dT @dU @dV aF aF aF)
theorem uD(F:ByteArray)(xs:List ByteArray)(i:Nat):(kX F xs i).length=F.size:=by simp[kX]
theorem aQj{F:ByteArray}{xs:List ByteArray}{i:Nat}{y:ByteArray}{v:Int}(hi:i<F.size)(hy:xs[i]?=some y)(hk:dk F i=110)(hv:cH y=some v):kX F xs (i+1)=aDp (kX F xs i) i v:=by
 rw[aAF (by grind [uD])];apply I7
 grind [kX]
theorem aQk{F:ByteArray}{xs:List ByteArray}{i:Nat}(hk:dk F i≠110):kX F xs (i+1)=kX F xs i:=by
 grind [kX]
theorem aLB(F:ByteArray)(xs:List ByteArray):kX F xs 0=zN F.size:=by
 unfold kX zN;apply I7
 grind
theorem fY{y:ByteArray}{v:Int}(h:cH y=some v):Lib.atoiAll y.data.toList = .ok v/\0<=v/\v<=99999/\(⟨⟨Lib.itoa v⟩⟩:ByteArray)=y:=by
 unfold cH at h;split at h
 .rename_i u hu
  split at h;all_goals simp_all
 .cases h
theorem aTx(hl:xs.length=F.size)(hF:F.size<=4)(ok:aEU F){i:Nat}(hi:i<F.size){y:ByteArray}(hy:xs[i]?=some y)(hys:y.size<=1000)(hn:dk F i=110->∃ v,cH y=some v) :
 bT 0 [2,6,64] (execW aB 26 0 none (match aDg with | .loop _ a=>a|c=>c) (aY [2,6,64] [.pt 0 0,.pt 1 0,.pt 3 0]) (mO w0 xs (kX F xs i) F.size++[lK F i]))=some ([.pt 0 0,.pt 1 0,.pt 3 0],mO w0 xs (kX F xs (i+1)) F.size++[lK F (i+1)]):=by
 have d1:(i<F.size)=True:=AAn hi;have d2:=ok.dn i hi;have d3:((i:Int)<(F.size:Int))=True:=AAa;have sl:=wK xs;rw[hl]at sl;have sa:=aLk hy;by_cases h1:dk F i=110
 .obtain⟨v,hv⟩:=hn h1
  obtain⟨v1,v2,v3,v4⟩:=fY hv;have e1:(dk F i=110)=True:=AAn h1;have c86:runW aB 63 [.str y] []=some (.tup [I v,.nilifc],[]):=by
   rw[w86 AS];unfold tM;rw[v1]
  have c35:=w35 0 v 99999;rw[show (decide (0<=v)&&decide (v<=99999))=true by grind]at c35;have c57:=aEX (n:=v) AS;rw[v4]at c57;have c58:=zC 2;have se:=jH y y;rw[AAj rfl]at se;have nl:=uD F xs i;have lt1:(i+1<=F.size)=True:=AAa;rw[aQj hi hy h1 hv];generalize kX F xs i=N0 at *;unfold aDg lK mO;dsimp only;(exact iW d1 d2 d3 sl sa e1 c86 c35 c57 c58 se nl lt1 @cD @cE @cF @iC @dS @dR @dT @dU @dV aF aF aF aF)
 .have e1:(dk F i=110)=False:=AAo h1
  rw[aQk h1];unfold aDg lK mO;dsimp only;(exact eD d1 d2 d3 sl sa e1 @cD @cE @cF @iC @dS @dR @dT @dU @dV aF aF aF aF aF)
end
end
end Go.Proofs.YtfcdcgplogojbaaGreatDoor
namespace Go.DL
variable{P:Program}{D:Nat->Option XFn}
theorem CalP.drop{g:Nat}{xs0:List AV}{v:AV}{h':XH}(hp:CalP P D g xs0 [] v h')(hv:Gd v):CalP P D g xs0 [] v []:=by
 intro B Y r H as' hY sh hA;refine FnP.mono ?_ (hp B Y r H as' hY sh hA);rintro v' H' ⟨r',_,sh',rn⟩;have rno:∀ b c,r b=some c->False:=λb c hb=>by have:=sh.dom b c hb;simp at this
 have s0:SH D Y r [] H':=⟨λb c hb=>(rno b c hb).elim,λb c c' x y hx=>by grind,λb x hx=>by simp[hat]at hx,GhR.no λb st p hx=>by simp[hat]at hx⟩;refine⟨r,Sub.refl r,s0,?_⟩;rw[(rn.same hv.gr).1];exact hv.rn
end Go.DL
namespace Go.Proofs.YtfcdcgplogojbaaGreatDoor
open Go Go.DL
section
variable{F w0 line:ByteArray}{xs W:List ByteArray}{v:AV}{e':aJ}{h':XH}
abbrev bA:XH:=[some (.blk true (.cells true [.str ⟨⟨[]⟩⟩,.nilsl,.nilsl]))]
theorem aUC(hs:40<line.size):CalP Tryz.prog aB 26 [.str line] [] (.ifc 48 (.agg [I 14])) []:=by
 refine CalP.drop (h':=bA) ?_ (.ifc _ _ (.agg _ λa ha=>by rw[D2.1 ha];exact .int _ _));refine CalP.of (d:=x26) (e':=aY [] []) aA rfl (by simp[x26]) rfl ?_;have t1:((line.size:Int)<=40)=False:=AAb;unfold x26;dsimp only;refine PanX.seqR (K:=26) aA rfl [0,2] (vs:=[.str line,.pt 0 0]) (h1:=bA) (by (exact kN @cD @cE @cF @iC @dS @dR @dT @dU @dV)) ?_;refine PanX.seqL ?_;exact PanX.reg (p:=[⟨0,some 13,.mv (.t 0),none⟩,⟨0,some 14,.len true (.t 13),none⟩,⟨0,some 15,.bin .leq (.t 14) (.c (.int .i64 40)),none⟩]) (post:=[]) aA [] (g:=24) (first:=[]) (cap:=[]) (args:=[.bool false,I 14]) (vs:=[]) (h1:=bA) rfl rfl (by (exact gZ t1 @cD @cE @cF @iC @dS @dR @dT @dU @dV)) (c58 14 _)
def r4c:XCode:=match x26.body with | .seq _ (.seq _ (.seq _ (.seq _ r)))=>r|c=>c
theorem aWV(hs:line.size<=40)(hw:cA line=w0::xs){f:ByteArray}{b:Bool}(hf:aBi true (.str ⟨⟨[]⟩⟩) (aV true (.str w0) fmE)=some (.tup [.str f,.bool b]))(hp:PanX Tryz.prog aB x26 0 r4c (aY [2,3,4,5] [.pt 0 0,.fs (sr (w0::xs)),.str f,.bool b]) (bA++[fmA]) v e' h'):PanX Tryz.prog aB x26 0 x26.body (aX [.str line]) [] v e' h':=by
 have c83:runW aB 60 [.str line,.str ⟨#[32]⟩] []=some (.fs (sr (cA line)),[]):=aYx (s:=line) (c:=⟨#[32]⟩) rfl AS;have aRy:=zC 14;rw[hw]at c83;have r0:(sr (w0::xs))[0]?=some [.str w0]:=rfl;have rl:=wK (w0::xs);rw[D7]at rl;have t40:((line.size:Int)<=40)=True:=AAa;have n0:((0:Int)<((xs.length+1:Nat):Int))=True:=AAa;generalize sr (w0::xs)=R at *;unfold r4c at hp;unfold x26 at *;dsimp only at *;refine PanX.seqR (K:=26) aA rfl [0,2] (vs:=[.str line,.pt 0 0]) (h1:=bA) (by (exact kN @cD @cE @cF @iC @dS @dR @dT @dU @dV)) ?_;refine PanX.seqR (K:=26) aA rfl [0,2] (vs:=[.str line,.pt 0 0]) (h1:=bA) (by (exact eK aRy t40 @cD @cE @cF @iC @dS @dR @dT @dU @dV aF aF)) ?_;refine PanX.seqR (K:=26) aA rfl [2,3] (vs:=[.pt 0 0,.fs R]) (h1:=bA) (by (exact gZ c83 @cD @cE @cF @iC @dS @dR @dT @dU @dV)) ?_;exact PanX.seqR (K:=26) aA rfl [2,3,4,5] (vs:=[.pt 0 0,.fs R,.str f,.bool b]) (h1:=bA++[fmA]) (by (exact eD w84 hf r0 rl n0 @cD @cE @cF @iC @dS @dR @dT @dU @dV aF aF aF aF aF aF)) hp
theorem aUD(hs:line.size<=40)(hw:cA line=w0::xs){f:ByteArray}{b:Bool}(hf:aBi true (.str ⟨⟨[]⟩⟩) (aV true (.str w0) fmE)=some (.tup [.str f,.bool b]))(hF:f.size<=4)(hn:b=true->xs.length≠f.size):CalP Tryz.prog aB 26 [.str line] [] (.ifc 48 (.agg [I 13])) []:=by
 refine CalP.drop (h':=bA++[fmA]) ?_ (.ifc _ _ (.agg _ λa ha=>by rw[D2.1 ha];exact .int _ _));refine CalP.of (d:=x26) (e':=aY [] []) aA rfl (by simp[x26]) rfl ?_;refine aWV hs hw hf ?_;have rl:=wK (w0::xs);rw[D7]at rl;have a1:IntKind.i64.wrap ((f.size:Int)+1)=((f.size+1:Nat):Int):=by grind [aE]
 have e1:b=true->(((xs.length+1:Nat):Int)=((f.size+1:Nat):Int))=False:=λh=>AAo (by grind);generalize sr (w0::xs)=R at *;unfold r4c x26;dsimp only;refine PanX.seqL ?_;refine PanX.reg (p:=[⟨0,some 27,.mv (.t 5),none⟩,⟨0,some 28,.mv (.t 27),none⟩,⟨0,some 29,.mv (.t 3),some (28,true)⟩,⟨0,some 30,.len false (.t 29),some (28,true)⟩,⟨0,some 31,.mv (.t 4),some (28,true)⟩,⟨0,some 32,.len true (.t 31),some (28,true)⟩,⟨0,some 33,.bin .add (.t 32) (.c (.int .i64 1)),some (28,true)⟩,⟨0,some 34,.bin .eql (.t 30) (.t 33),some (28,true)⟩,⟨0,some 35,.pick (.t 28) (.t 34) (.c (.bool false)),none⟩]) (post:=[]) aA [] (g:=24) (first:=[]) (cap:=[]) (args:=[.bool false,I 13]) (vs:=[]) (h1:=bA++[fmA]) rfl rfl ?_ (c58 13 _);cases b with
 | false=>rfl
 | true =>
   have e1:=e1 rfl;(exact eK rl a1 e1 @cD @cE @cF @iC @dS @dR @dT @dU @dV aF)
def r6c:XCode:=match r4c with | .seq _ (.seq _ r)=>r|c=>c
abbrev a60(F w0:ByteArray)(xs:List ByteArray):XH:=[some (.blk true (.cells true [.str ⟨⟨[]⟩⟩,.nilsl,.nilsl])),fmA,some (.blk true (.cells true ((zN F.size).map I))),some (.blk false (.cells true [.str w0,.fs (sr xs),.sl 2 0 1 F.size]))]
theorem aZy(hl:xs.length=F.size)(hF:F.size<=4)(hp:PanX Tryz.prog aB x26 0 r6c (aY [2,4,6] [.pt 0 0,.str F,.pt 3 0]) (a60 F w0 xs) v e' h'):PanX Tryz.prog aB x26 0 r4c (aY [2,3,4,5] [.pt 0 0,.fs (sr (w0::xs)),.str F,.bool true]) (bA++[fmA]) v e' h':=by
 have aRx:=zC 13;have r0:(sr (w0::xs))[0]?=some [.str w0]:=rfl;have rl:=wK (w0::xs);rw[D7,hl]at rl;have ra:=aON (w0::xs);have rt:=aLj w0 xs;rw[hl]at rt;have n0:((0:Int)<((F.size+1:Nat):Int))=True:=AAa;have n1:((1:Int)<=((F.size+1:Nat):Int))=True:=AAa;have a1:IntKind.i64.wrap ((F.size:Int)+1)=((F.size+1:Nat):Int):=by grind [aE]
 have z0:((0:Int)<=(F.size:Int))=True:=AAa;have z1:((8:Int)*(F.size:Int)<=281474976710656)=True:=AAa;have z3:((F.size:Int)<=(F.size:Int))=True:=AAa;have z4:((F.size:Int)).toNat=F.size:=H7 _;have z5:=aGy F.size;have z2:((F.size:Int)<=9223372036854775807)=True:=AAa;unfold r6c at hp;generalize sr (w0::xs)=R at *;unfold r4c x26 at *;dsimp only at *;refine PanX.seqR (K:=26) aA rfl [2,3,4] (vs:=[.pt 0 0,.fs R,.str F]) (h1:=bA++[fmA]) (by (exact eK aRx rl a1 @cD @cE @cF @iC @dS @dR @dT @dU @dV aF)) ?_;exact PanX.seqR (K:=26) aA rfl [2,4,6] (vs:=[.pt 0 0,.str F,.pt 3 0]) (h1:=a60 F w0 xs) (by (exact iW r0 rl ra rt n0 n1 z0 z1 z2 z3 z4 z5 @cD @cE @cF @iC @dS @dR @dT @dU @dV aF aF aF aF aF)) hp
theorem aZI(hl:xs.length=F.size)(hF:F.size<=4)(ok:aEU F)(hys:∀ y∈xs,y.size<=1000){i:Nat}(hi:i<F.size){y:ByteArray}(hy:xs[i]?=some y)(hk:dk F i≠110)(hb:aZ y=false)(hn:∀ j,j<i->∀ z,xs[j]?=some z->dk F j=110\/aZ z=true) :
 PanX Tryz.prog aB x26 0 r6c (aY [2,4,6] [.pt 0 0,.str F,.pt 3 0]) (a60 F w0 xs) (.ifc 48 (.agg [I 8])) (aY [] []) (mO w0 xs (zN F.size) F.size++[lK F (i+1)]):=by
 have d1:(i<F.size)=True:=AAn hi;have d2:=ok.dn i hi;have d3:((i:Int)<(F.size:Int))=True:=AAa;have sl:=wK xs;rw[hl]at sl;have sa:=aLk hy;have c85:=w85 (s:=y) (by grind);rw[hb]at c85;have e1:(dk F i=110)=False:=AAo hk;unfold r6c r4c x26;dsimp only;refine PanX.seqL ?_;refine PanX.seqR (K:=26) aA rfl [2,4,6,47] (vs:=[.pt 0 0,.str F,.pt 3 0,.pt 4 0]) (h1:=a60 F w0 xs++[lK F 0]) (by unfold a60 lK; (exact kN @cD @cE @cF @iC @dS @dR @dT @dU @dV)) ?_;refine PanX.block ?_;have rd:=λj (hj:j<i)=>aLq (w0:=w0) (ns:=zN F.size) hl hF ok (i:=j) AS (y:=xs.getD j ByteArray.empty) (by grind) (hys _ (by grind)) (hn j hj _ (by grind));unfold aCf at rd ⊢;refine PanX.loop (K:=26) aA rfl i (λ_=>[.pt 0 0,.str F,.pt 1 0,.pt 3 0]) (λj=>mO w0 xs (zN F.size) F.size++[lK F j]) ?_ rd ?_;·rfl
 .refine PanX.seqR (K:=26) aA rfl [6,48,49] (vs:=[.pt 1 0,.tup [.bool true,I (i:Nat),.int .i32 (dk F i)],.bool true]) (h1:=mO w0 xs (zN F.size) F.size++[lK F (i+1)]) (by unfold mO lK; (exact eK d1 d2 @cD @cE @cF @iC @dS @dR @dT @dU @dV aF aF)) ?_
  refine PanX.seqR (K:=26) aA rfl [6,48] (vs:=[.pt 1 0,.tup [.bool true,I (i:Nat),.int .i32 (dk F i)]]) (h1:=mO w0 xs (zN F.size) F.size++[lK F (i+1)]) (by unfold mO lK; (exact kN @cD @cE @cF @iC @dS @dR @dT @dU @dV)) ?_;refine PanX.block ?_;refine PanX.seqR (K:=26) aA rfl [6,7,8] (vs:=[.pt 1 0,I (i:Nat),.int .i32 (dk F i)]) (h1:=mO w0 xs (zN F.size) F.size++[lK F (i+1)]) (by unfold mO lK; (exact kN @cD @cE @cF @iC @dS @dR @dT @dU @dV)) ?_;exact PanX.reg (p:=[⟨0,some 52,.mv (.t 8),none⟩,⟨0,some 53,.bin .eql (.t 52) (.c (.int .i32 110)),none⟩,⟨0,some 54,.mv (.t 53),none⟩,⟨0,some 55,.fld 1 (.t 6),some (54,false)⟩,⟨0,some 56,.load false 1 (.t 55),some (54,false)⟩,⟨0,some 57,.mv (.t 7),some (54,false)⟩,⟨0,some 58,.idx 1 (.t 56) (.t 57),some (54,false)⟩,⟨0,some 59,.load false 1 (.t 58),some (54,false)⟩,⟨0,some 60,.callf false (.c (.fn (.func 62) [] [])) [.t 59] [],some (54,false)⟩,⟨0,some 61,.pick (.t 54) (.c (.bool true)) (.t 60),none⟩]) (post:=[]) aA [] (g:=24) (first:=[]) (cap:=[]) (args:=[.bool false,I 8]) (vs:=[]) (h1:=mO w0 xs (zN F.size) F.size++[lK F (i+1)]) rfl rfl (by unfold mO lK; (exact eD e1 d3 sl sa c85 @cD @cE @cF @iC @dS @dR @dT @dU @dV aF aF aF aF aF aF)) (c58 8 _)
def Ws(F:ByteArray)(xs:List ByteArray):Prop:=xs.length=F.size/\F.size<=4/\aEU F/\∀ y∈xs,y.size<=1000
theorem aRF{i:Nat}(hi:i<xs.length):xs[i]?=some (xs.getD i ByteArray.empty)/\xs.getD i ByteArray.empty∈xs:=by
 grind
theorem aZn(ws:Ws F xs)(hn:∀ j,j<F.size->dk F j=110\/aZ (xs.getD j ByteArray.empty)=true){ns:List Int}(j:Nat)(hj:j<F.size) :
 bT 0 [2,4,6,47] (execW aB 26 0 none (match aCf with | .loop _ a=>a|c=>c) (aY [2,4,6,47] [.pt 0 0,.str F,.pt 1 0,.pt 3 0]) (mO w0 xs ns F.size++[lK F j]))=some ([.pt 0 0,.str F,.pt 1 0,.pt 3 0],mO w0 xs ns F.size++[lK F (j+1)]):=by
 obtain⟨h1,h2,h3,h4⟩:=ws
 grind [aLq]
theorem aZm(ws:Ws F xs){i:Nat}(hn:∀ j,j<i->dk F j=110->∃ v,cH (xs.getD j ByteArray.empty)=some v)(j:Nat)(hji:j<i)(hj:j<F.size) :
 bT 0 [2,6,64] (execW aB 26 0 none (match aDg with | .loop _ a=>a|c=>c) (aY [2,6,64] [.pt 0 0,.pt 1 0,.pt 3 0]) (mO w0 xs (kX F xs j) F.size++[lK F j]))=some ([.pt 0 0,.pt 1 0,.pt 3 0],mO w0 xs (kX F xs (j+1)) F.size++[lK F (j+1)]):=by
 obtain⟨h1,h2,h3,h4⟩:=ws;obtain⟨k1,k2⟩:=aRF (xs:=xs) (i:=j) AS
 grind [aTx]
theorem l60(ws:Ws F xs)(hn:∀ j,j<F.size->dk F j=110\/aZ (xs.getD j ByteArray.empty)=true) :
 uW [2,4,6] (execW aB 26 0 none (match r6c with | .seq a _=>a|c=>c) (aY [2,4,6] [.pt 0 0,.str F,.pt 3 0]) (a60 F w0 xs))=some (.normal,[.pt 0 0,.str F,.pt 1 0],mO w0 xs (zN F.size) F.size++[lK F F.size]):=by
 have e0:(F.size<F.size)=False:=AAb;unfold r6c r4c x26;dsimp only;sym =>
  simp[cD,cE,cF,iC,dS,dR,dT,dU,dV,Za,Zb,Zf,Zh,Zl,Zm,Zo,Zv,ZR,Yf,Y7,V5,VI,Th,Tl,Tn,Tp,Tu,Tv,Tz,T2,TK,SN,SX,Ra,Rb,Rc,Re,Ri,Rk,PV]
  tactic =>
   have rd:=aZn (w0:=w0) (ns:=zN F.size) ws hn;unfold aCf at rd ⊢;rw[aG F.size (λ_=>[.pt 0 0,.str F,.pt 1 0,.pt 3 0]) (λi=>mO w0 xs (zN F.size) F.size++[lK F i])]
   .unfold lK mO
    (exact gZ e0 @cD @cE @cF @iC @dS @dR @dT @dU @dV)
   .rfl
   .exact rd
   .unfold lK mO
    (exact gZ e0 @cD @cE @cF @iC @dS @dR @dT @dU @dV)
def r7c:XCode:=match r6c with | .seq _ r=>r|c=>c
theorem aND{y:ByteArray}(h:cH y=none):(∃ u,Lib.atoiAll y.data.toList = .ok u/\(decide (0<=u)&&decide (u<=99999))=false)\/(∃ u,Lib.atoiAll y.data.toList = .ok u/\(0<=u/\u<=99999)/\aN .eql ⟨⟨Lib.itoa u⟩⟩ y=some (.bool false))\/∃ u,tM y = .tup [I u,.ifc 204 .any]:=by
 unfold cH at h;cases hA:Lib.atoiAll y.data.toList with
 | ok u =>
   grind [jH,decide_eq_false_iff_not]
 | _=>simp_all [tM]
theorem aZH(ws:Ws F xs){i:Nat}(hi:i<F.size){y:ByteArray}(hy:xs[i]?=some y)(hk:dk F i=110)(hb:cH y=none)(hn:∀ j,j<i->dk F j=110->∃ v,cH (xs.getD j ByteArray.empty)=some v) :
 PanX Tryz.prog aB x26 0 r7c (aY [2,4,6] [.pt 0 0,.str F,.pt 1 0]) (mO w0 xs (zN F.size) F.size++[lK F F.size]) (.ifc 48 (.agg [I 2])) (aY [] []) (mO w0 xs (kX F xs i) F.size++[lK F (i+1)]):=by
 have d1:(i<F.size)=True:=AAn hi;have d2:=ws.2.2.1.dn i hi;have d3:((i:Int)<(F.size:Int))=True:=AAa;have sl:=wK xs;rw[ws.1]at sl;have sa:=aLk hy;have e1:(dk F i=110)=True:=AAn hk;have c86:=w86 (s:=y) (by grind [Ws]);unfold r7c r6c r4c x26;dsimp only;refine PanX.seqL ?_;refine PanX.seqR (K:=26) aA rfl [2,6,64] (vs:=[.pt 0 0,.pt 1 0,.pt 4 0]) (h1:=mO w0 xs (zN F.size) F.size++[lK F F.size,lK F 0]) (by unfold mO lK; (exact kN @cD @cE @cF @iC @dS @dR @dT @dU @dV)) ?_;refine PanX.block ?_;have rd:=λj (hj:j<i)=>aZm (w0:=w0) ws hn j hj AS;unfold aDg at rd ⊢;refine PanX.loop (K:=26) aA rfl i (λ_=>[.pt 0 0,.pt 1 0,.pt 3 0]) (λj=>mO w0 xs (kX F xs j) F.size++[lK F j]) ?_ rd ?_
 .rw[aLB]
  rfl
 .generalize kX F xs i=N0
  refine PanX.seqR (K:=26) aA rfl [6,65,66] (vs:=[.pt 1 0,.tup [.bool true,I (i:Nat),.int .i32 (dk F i)],.bool true]) (h1:=mO w0 xs N0 F.size++[lK F (i+1)]) (by unfold mO lK; (exact eK d1 d2 @cD @cE @cF @iC @dS @dR @dT @dU @dV aF aF)) ?_;refine PanX.seqR (K:=26) aA rfl [6,65] (vs:=[.pt 1 0,.tup [.bool true,I (i:Nat),.int .i32 (dk F i)]]) (h1:=mO w0 xs N0 F.size++[lK F (i+1)]) (by unfold mO lK; (exact kN @cD @cE @cF @iC @dS @dR @dT @dU @dV)) ?_;refine PanX.block ?_;refine PanX.seqR (K:=26) aA rfl [6,9,10] (vs:=[.pt 1 0,I (i:Nat),.int .i32 (dk F i)]) (h1:=mO w0 xs N0 F.size++[lK F (i+1)]) (by unfold mO lK; (exact kN @cD @cE @cF @iC @dS @dR @dT @dU @dV)) ?_;refine PanX.seqR (K:=26) aA rfl [6,9,70] (vs:=[.pt 1 0,I (i:Nat),.bool true]) (h1:=mO w0 xs N0 F.size++[lK F (i+1)]) (by unfold mO lK; (exact gZ e1 @cD @cE @cF @iC @dS @dR @dT @dU @dV)) ?_;refine PanX.condT rfl ?_;rcases aND hb with ⟨u,hA,hc⟩|⟨u,hA,hc,hs⟩|⟨u,hA⟩
  .have av:tM y = .tup [I u,.nilifc]:=by unfold tM;rw[hA]
   rw[av]at c86;have c35:=w35 0 u 99999;rw[hc]at c35;refine PanX.seqR (K:=26) aA rfl [6,9,11,12] (vs:=[.pt 1 0,I (i:Nat),I u,.nilifc]) (h1:=mO w0 xs N0 F.size++[lK F (i+1)]) (by unfold mO lK; (exact eK d3 sl sa c86 @cD @cE @cF @iC @dS @dR @dT @dU @dV)) ?_;refine PanX.seqL ?_;exact PanX.regU (fr:=[]) (p:=[⟨0,some 80,.mv (.t 12),none⟩,⟨1,some 81,.eqn 5 false (.t 80) (.c .nilifc),none⟩,⟨2,some 82,.mv (.t 81),none⟩,⟨3,some 83,.mv (.t 11),some (82,true)⟩,⟨4,some 84,.callf false (.c (.fn (.func 40) [] [])) [(.c (.int .i64 0)),(.t 83),(.c (.int .i64 99999))] [],some (82,true)⟩,⟨5,some 85,.pick (.t 82) (.t 84) (.c (.bool false)),none⟩,⟨6,some 86,.mv (.t 85),none⟩,⟨7,some 87,.mv (.t 11),some (86,true)⟩,⟨9,some 89,.fld 1 (.t 6),some (86,true)⟩,⟨10,some 90,.load false 1 (.t 89),some (86,true)⟩,⟨11,some 91,.mv (.t 9),some (86,true)⟩,⟨12,some 92,.idx 1 (.t 90) (.t 91),some (86,true)⟩,⟨13,some 93,.load false 1 (.t 92),some (86,true)⟩,⟨8,some 88,.callf false (.c (.fn (.func 23) [] [])) [(.t 87)] [10,13],some (86,true)⟩,⟨14,some 94,.bin .eql (.t 88) (.t 93),some (86,true)⟩,⟨15,some 95,.pick (.t 86) (.t 94) (.c (.bool false)),none⟩]) (post:=[]) aA [] (g:=24) (first:=[]) (cap:=[]) (args:=[.bool false,I 2]) (vs:=[]) rfl rfl rfl (by unfold mO lK; (exact gZ c35 @cD @cE @cF @iC @dS @dR @dT @dU @dV)) (c58 2 _)
  .have av:tM y = .tup [I u,.nilifc]:=by unfold tM;rw[hA]
   rw[av]at c86;have c35:=w35 0 u 99999;rw[show (decide (0<=u)&&decide (u<=99999))=true by grind]at c35;have c57:=aEX (n:=u) AS;refine PanX.seqR (K:=26) aA rfl [6,9,11,12] (vs:=[.pt 1 0,I (i:Nat),I u,.nilifc]) (h1:=mO w0 xs N0 F.size++[lK F (i+1)]) (by unfold mO lK; (exact eK d3 sl sa c86 @cD @cE @cF @iC @dS @dR @dT @dU @dV)) ?_;refine PanX.seqL ?_;exact PanX.regU (fr:=[]) (p:=[⟨0,some 80,.mv (.t 12),none⟩,⟨1,some 81,.eqn 5 false (.t 80) (.c .nilifc),none⟩,⟨2,some 82,.mv (.t 81),none⟩,⟨3,some 83,.mv (.t 11),some (82,true)⟩,⟨4,some 84,.callf false (.c (.fn (.func 40) [] [])) [(.c (.int .i64 0)),(.t 83),(.c (.int .i64 99999))] [],some (82,true)⟩,⟨5,some 85,.pick (.t 82) (.t 84) (.c (.bool false)),none⟩,⟨6,some 86,.mv (.t 85),none⟩,⟨7,some 87,.mv (.t 11),some (86,true)⟩,⟨9,some 89,.fld 1 (.t 6),some (86,true)⟩,⟨10,some 90,.load false 1 (.t 89),some (86,true)⟩,⟨11,some 91,.mv (.t 9),some (86,true)⟩,⟨12,some 92,.idx 1 (.t 90) (.t 91),some (86,true)⟩,⟨13,some 93,.load false 1 (.t 92),some (86,true)⟩,⟨8,some 88,.callf false (.c (.fn (.func 23) [] [])) [(.t 87)] [10,13],some (86,true)⟩,⟨14,some 94,.bin .eql (.t 88) (.t 93),some (86,true)⟩,⟨15,some 95,.pick (.t 86) (.t 94) (.c (.bool false)),none⟩]) (post:=[]) aA [] (g:=24) (first:=[]) (cap:=[]) (args:=[.bool false,I 2]) (vs:=[]) rfl rfl rfl (by unfold mO lK; (exact eD c35 c57 hs d3 sl sa @cD @cE @cF @iC @dS @dR @dT @dU @dV aF aF aF aF aF)) (c58 2 _)
  .rw[hA]at c86
   refine PanX.seqR (K:=26) aA rfl [6,9,11,12] (vs:=[.pt 1 0,I (i:Nat),I u,.ifc 204 .any]) (h1:=mO w0 xs N0 F.size++[lK F (i+1)]) (by unfold mO lK; (exact eK d3 sl sa c86 @cD @cE @cF @iC @dS @dR @dT @dU @dV)) ?_;refine PanX.seqL ?_;exact PanX.regU (fr:=[]) (p:=[⟨0,some 80,.mv (.t 12),none⟩,⟨1,some 81,.eqn 5 false (.t 80) (.c .nilifc),none⟩,⟨2,some 82,.mv (.t 81),none⟩,⟨3,some 83,.mv (.t 11),some (82,true)⟩,⟨4,some 84,.callf false (.c (.fn (.func 40) [] [])) [(.c (.int .i64 0)),(.t 83),(.c (.int .i64 99999))] [],some (82,true)⟩,⟨5,some 85,.pick (.t 82) (.t 84) (.c (.bool false)),none⟩,⟨6,some 86,.mv (.t 85),none⟩,⟨7,some 87,.mv (.t 11),some (86,true)⟩,⟨9,some 89,.fld 1 (.t 6),some (86,true)⟩,⟨10,some 90,.load false 1 (.t 89),some (86,true)⟩,⟨11,some 91,.mv (.t 9),some (86,true)⟩,⟨12,some 92,.idx 1 (.t 90) (.t 91),some (86,true)⟩,⟨13,some 93,.load false 1 (.t 92),some (86,true)⟩,⟨8,some 88,.callf false (.c (.fn (.func 23) [] [])) [(.t 87)] [10,13],some (86,true)⟩,⟨14,some 94,.bin .eql (.t 88) (.t 93),some (86,true)⟩,⟨15,some 95,.pick (.t 86) (.t 94) (.c (.bool false)),none⟩]) (post:=[]) aA [] (g:=24) (first:=[]) (cap:=[]) (args:=[.bool false,I 2]) (vs:=[]) rfl rfl rfl (by rfl) (c58 2 _)
theorem w60(hs:line.size<=40)(hw:cA line=w0::xs)(hf:aV true (.str w0) fmE=some (some (.str F)))(ws:Ws F xs)(hn:∀ j,j<F.size->dk F j=110\/aZ (xs.getD j ByteArray.empty)=true)(hm:∀ j,j<F.size->dk F j=110->∃ v,cH (xs.getD j ByteArray.empty)=some v) :
 runW aB 26 [.str line] []=some (.agg [.str w0,.fs (sr xs),.fs ((kX F xs F.size).map λv=>[I v])],[]):=by
 have hl:=ws.1;have hF:=ws.2.1;have c83:runW aB 60 [.str line,.str ⟨#[32]⟩] []=some (.fs (sr (cA line)),[]):=aYx (s:=line) (c:=⟨#[32]⟩) rfl AS;have aRy:=zC 14;have aRx:=zC 13;rw[hw]at c83;have r0:(sr (w0::xs))[0]?=some [.str w0]:=rfl;have rl:=wK (w0::xs);rw[D7,hl]at rl;have ra:=aON (w0::xs);have rt:=aLj w0 xs;rw[hl]at rt;have t40:((line.size:Int)<=40)=True:=AAa;have n0:((0:Int)<((F.size+1:Nat):Int))=True:=AAa;have n1:((1:Int)<=((F.size+1:Nat):Int))=True:=AAa;have a1:IntKind.i64.wrap ((F.size:Int)+1)=((F.size+1:Nat):Int):=by grind [aE]
 have z0:((0:Int)<=(F.size:Int))=True:=AAa;have z1:((8:Int)*(F.size:Int)<=281474976710656)=True:=AAa;have z3:((F.size:Int)<=(F.size:Int))=True:=AAa;have z4:((F.size:Int)).toNat=F.size:=H7 _;have z5:=aGy F.size;have z2:((F.size:Int)<=9223372036854775807)=True:=AAa;have e0:(F.size<F.size)=False:=AAb;have nl:=uD F xs F.size;have ch:bK ((kX F xs F.size).map I) 0 1 F.size=(kX F xs F.size).map λv=>[I v]:=by
  have h:=yW (f:=I) (kX F xs F.size) []
  grind
 have f1:(F.size<=(kX F xs F.size).length)=True:=AAa;have rd0:=aZn (w0:=w0) (ns:=zN F.size) ws hn;have rd1:=λj (hj:j<F.size)=>aZm (w0:=w0) ws hm j hj hj;generalize sr (w0::xs)=R at *;rw[qX 26 x26 rfl];unfold x26;dsimp only;sym =>
  simp[cD,cE,cF,iC,dS,dR,dT,dU,dV,Za,Zb,Zc,Zd,Ze,Zf,Zg,Zh,Zi,Zj,Zl,Zm,Zn,Zo,Zp,Zq,Zv,Zw,Zy,Z0,ZA,ZI,ZL,ZN,ZQ,ZR,ZS,ZW,ZY,ZZ,Ya,Yb,Yc,Ye,Yf,Yi,Yj,Yk,Yn,Yo,Yp,Yw,Yz,Y5,Y6,Y7,Y8,YF,YJ,YM,YN,YV,YY,Xj,Xq,Xr,Xu,Xv,Xw,XI,XJ,XL,XM,XO,Wh,Wj,Wl,Wm,Wp,Wv,Ww,Wx,Wy,Wz,W3,W6,WH,WI,WK,WL,WU,WV,WX,WY,Vd,Ve,Vg,Vr,Vs,Vt,Vu,V2,V5,V6,V7,V8,V9,VD,VF,VG,VH,VI,VP,VQ,VX,VY,VZ,Ua,Ub,Uc,Ue,Uf,Ui,Uj,Ut,Uu,Uv,Ux,Uy,Uz,U9,UA,UB,UC,UD,UE,UF,UG,UM,UN,UO,UR,US,UU,UV,UW,UX,UY,Tb,Tc,Td,Tf,Tg,Th,Tl,Tn,Tp,Tr,Ts,Tt,Tu,Tv,Tw,Ty,Tz,T2,T3,T8,TA,TC,TD,TE,TF,TJ,TK,TL,TN,TO,TP,TQ,TR,TS,TT,TU,TV,TX,TY,TZ,Sa,Sc,Sd,Se,Sf,Sg,Si,Sj,Sw,Sx,SA,SC,SD,SE,SF,SG,SI,SJ,SN,SV,SX,SY,Ra,Rb,Rc,Re,Ri,Rk,Rl,Rx,Ry,R0,RC,RZ,Qa,Qd,Qh,QL,QQ,QS,QV,Pj,Pk,Pm,Pn,Po,Pp,PI,PJ,PK,PL,PM,PV,c83,aRy,aRx,w84,hf,r0,rl,ra,rt,t40,n0,n1,a1,z0,z1,z2,z3,z4,z5]
  tactic =>
   unfold aCf at rd0 ⊢;rw[aG F.size (λ_=>[.pt 0 0,.str F,.pt 1 0,.pt 3 0]) (λi=>mO w0 xs (zN F.size) F.size++[lK F i])]
   .unfold lK mO
    sym =>
     simp[cD,cE,cF,iC,dS,dR,dT,dU,dV,Za,Zb,Zc,Zd,Ze,Zf,Zg,Zh,Zi,Zj,Zl,Zm,Zn,Zo,Zp,Zq,Zv,Zw,Zy,Z0,ZA,ZI,ZL,ZN,ZQ,ZR,ZS,ZW,ZY,ZZ,Ya,Yb,Yc,Ye,Yf,Yi,Yj,Yk,Yn,Yo,Yp,Yw,Yz,Y5,Y6,Y7,Y8,YF,YJ,YM,YN,YV,YY,Xj,Xq,Xr,Xu,Xv,Xw,XI,XJ,XL,XM,XO,Wh,Wj,Wl,Wm,Wp,Wv,Ww,Wx,Wy,Wz,W3,W6,WH,WI,WK,WL,WU,WV,WX,WY,Vd,Ve,Vg,Vr,Vs,Vt,Vu,V2,V5,V6,V7,V8,V9,VD,VF,VG,VH,VI,VP,VQ,VX,VY,VZ,Ua,Ub,Uc,Ue,Uf,Ui,Uj,Ut,Uu,Uv,Ux,Uy,Uz,U9,UA,UB,UC,UD,UE,UF,UG,UM,UN,UO,UR,US,UU,UV,UW,UX,UY,Tb,Tc,Td,Tf,Tg,Th,Tl,Tn,Tp,Tr,Ts,Tt,Tu,Tv,Tw,Ty,Tz,T2,T3,T8,TA,TC,TD,TE,TF,TJ,TK,TL,TN,TO,TP,TQ,TR,TS,TT,TU,TV,TX,TY,TZ,Sa,Sc,Sd,Se,Sf,Sg,Si,Sj,Sw,Sx,SA,SC,SD,SE,SF,SG,SI,SJ,SN,SV,SX,SY,Ra,Rb,Rc,Re,Ri,Rk,Rl,Rx,Ry,R0,RC,RZ,Qa,Qd,Qh,QL,QQ,QS,QV,Pj,Pk,Pm,Pn,Po,Pp,PI,PJ,PK,PL,PM,PV,e0]
     tactic =>
      unfold aDg at rd1 ⊢;rw[aG F.size (λ_=>[.pt 0 0,.pt 1 0,.pt 3 0]) (λi=>mO w0 xs (kX F xs i) F.size++[lK F i])]
      .unfold lK mO
       generalize kX F xs F.size=N0 at *;(exact eK e0 nl ch f1 @cD @cE @cF @iC @dS @dR @dT @dU @dV)
      .unfold lK mO
       rw[aLB];rfl
      .exact rd1
      .unfold lK mO
       (exact gZ e0 @cD @cE @cF @iC @dS @dR @dT @dU @dV)
   .rfl
   .exact rd0
   .unfold lK mO
    (exact gZ e0 @cD @cE @cF @iC @dS @dR @dT @dU @dV)
theorem aJi{p:Nat->Prop}[DecidablePred p]{n:Nat}(h:∃ i,i<n/\¬p i):∃ i,i<n/\¬p i/\∀ j,j<i->p j:=by
 obtain⟨i,hi,hp⟩:=h;induction i using Nat.strongRecOn with
 | _ i ih =>
   grind
theorem aQO(e:Int):Gd (.ifc 48 (.agg [I e])):=.ifc _ _ (.agg _ λa ha=>by rw[D2.1 ha];exact .int _ _)
theorem hZ{F:ByteArray}(hf:aV true (.str w0) fmE=some (some (.str F))):aBi true (.str ⟨⟨[]⟩⟩) (aV true (.str w0) fmE)=some (.tup [.str F,.bool true]):=by rw[hf];rfl
theorem aUB(hs:line.size<=40)(hw:cA line=w0::xs)(hf:aV true (.str w0) fmE=some (some (.str F)))(ws:Ws F xs)(hn:∃ j,j<F.size/\¬(dk F j=110\/aZ (xs.getD j ByteArray.empty)=true)):CalP Tryz.prog aB 26 [.str line] [] (.ifc 48 (.agg [I 8])) []:=by
 obtain⟨i,hi,hb,hj⟩:=aJi hn;rw[not_or]at hb;obtain⟨k1,k2⟩:=aRF (xs:=xs) (i:=i) (by have:=ws.1;omega);refine CalP.drop (h':=mO w0 xs (zN F.size) F.size++[lK F (i+1)]) ?_ (aQO 8);refine CalP.of (d:=x26) (e':=aY [] []) aA rfl (by simp[x26]) rfl ?_;refine aWV hs hw (hZ hf) (aZy ws.1 ws.2.1 ?_);exact aZI ws.1 ws.2.1 ws.2.2.1 ws.2.2.2 hi k1 hb.1 (by grind) λj h1 z hz=>by
  grind
theorem aXS(hs:line.size<=40)(hw:cA line=w0::xs)(hf:aV true (.str w0) fmE=some (some (.str F)))(ws:Ws F xs)(hn:∀ j,j<F.size->dk F j=110\/aZ (xs.getD j ByteArray.empty)=true)(hm:∃ j,j<F.size/\¬(dk F j=110->cH (xs.getD j ByteArray.empty)≠none)):CalP Tryz.prog aB 26 [.str line] [] (.ifc 48 (.agg [I 2])) []:=by
 obtain⟨i,hi,hb,hj⟩:=aJi hm;obtain⟨k1,k2⟩:=aRF (xs:=xs) (i:=i) (by have:=ws.1;omega);have hk:dk F i=110:=Classical.byContradiction λh=>hb λh2=>absurd h2 h;have hq:cH (xs.getD i ByteArray.empty)=none:=Classical.byContradiction λh=>hb λ_=>h;have hnm:∀ j,j<i->dk F j=110->∃ v,cH (xs.getD j ByteArray.empty)=some v:=λj h1 h2=>M9.1 (hj j h1 h2);refine CalP.drop (h':=mO w0 xs (kX F xs i) F.size++[lK F (i+1)]) ?_ (aQO 2);refine CalP.of (d:=x26) (e':=aY [] []) aA rfl (by simp[x26]) rfl ?_;refine aWV hs hw (hZ hf) (aZy ws.1 ws.2.1 ?_);have l:=l60 (w0:=w0) ws hn;have p:=aZH (w0:=w0) ws hi k1 hk hq hnm;unfold r7c at p;unfold r6c r4c x26 at *;dsimp only at *;exact PanX.seqR (K:=26) aA rfl [2,4,6] l p
end
section
variable{F w0 line:ByteArray}{xs W:List ByteArray}{v:AV}
theorem aFG(c:UInt8):∀(s:List UInt8),∀ w∈eC c s,w.length<=s.length
 | [],w,h=>by
   grind [eC]
 | b::r,w,h=>by
   have ih:=aFG c r
   grind [eC]
theorem aMH(c:UInt8):∀(s:List UInt8),eC c s≠[]
 | []=>by simp[eC]
 | b::r=>by
   grind [eC]
theorem aOh(line:ByteArray):∃ w0 xs,cA line=w0::xs:=by
 cases h:cA line with
 | nil =>
   grind [List.map_eq_nil_iff,aMH,cA]
 | cons w xs=>grind
theorem aOi{y:ByteArray}(h:y∈cA line):y.size<=line.size:=by
 unfold cA at h;obtain⟨l,hl,rfl⟩:=F8.1 h;exact aFG _ _ l hl
theorem aUj:∀ p∈fmL,aEU p.2:=by
 have h:∀ p∈fmL,∀ i,i<p.2.size->dn p.2 i=i+1:=by
  intro p hp;have:(fmL.all λp=>(List.range p.2.size).all λi=>dn p.2 i==i+1)=true:=by kernel_rfl
  grind
 exact λp hp=>⟨h p hp⟩
theorem aUi:∀ p∈fmL,p.2.size<=4:=by
 have:(fmL.all λp=>decide (p.2.size<=4))=true:=by kernel_rfl
 grind
end
structure Ln(line w0:ByteArray)(xs:List ByteArray)(F:ByteArray):Prop where
 hs:line.size<=40
 hw:cA line=w0::xs
 hf:aV true (.str w0) fmE=some (some (.str F))
 ws:Ws F xs
section
variable{F w0 line x y z o:ByteArray}{xs W:List ByteArray}{v:AV}
inductive Rd(line:ByteArray):Int ⊕ (ByteArray×List ByteArray×List Int)->Prop
 | long (h:40<line.size):Rd line (.inl 14)
 | form {w0 f:ByteArray} {xs:List ByteArray} {b:Bool} (hs:line.size<=40) (hw:cA line=w0::xs) (hf:aBi true (.str ⟨⟨[]⟩⟩) (aV true (.str w0) fmE)=some (.tup [.str f,.bool b])) (hF:f.size<=4) (hn:b=true->xs.length≠f.size):Rd line (.inl 13)
 | name {w0 F:ByteArray} {xs:List ByteArray} (l:Ln line w0 xs F) (hn:∃ j,j<F.size/\¬(dk F j=110\/aZ (xs.getD j ByteArray.empty)=true)):Rd line (.inl 8)
 | num {w0 F:ByteArray} {xs:List ByteArray} (l:Ln line w0 xs F) (hn:∀ j,j<F.size->dk F j=110\/aZ (xs.getD j ByteArray.empty)=true) (hm:∃ j,j<F.size/\¬(dk F j=110->cH (xs.getD j ByteArray.empty)≠none)):Rd line (.inl 2)
 | ok {w0 F:ByteArray} {xs:List ByteArray} (l:Ln line w0 xs F) (hn:∀ j,j<F.size->dk F j=110\/aZ (xs.getD j ByteArray.empty)=true) (hm:∀ j,j<F.size->dk F j=110->∃ v,cH (xs.getD j ByteArray.empty)=some v):Rd line (.inr (w0,xs,kX F xs F.size))
abbrev Pan(line:ByteArray)(e:Int):Prop:=Rd line (.inl e)
theorem aKl(F:ByteArray)(xs:List ByteArray)(n:Nat)(h:F.size=n):kX F xs F.size=(List.range n).map λj=>if dk F j=110 then (cH (xs.getD j ByteArray.empty)).getD 0 else 0:=by
 simp_all [kX]
theorem f0(l:Ln line w0 [] F)(h0:F.size=0):Rd line (.inr (w0,[],[])):=by
 have h:=Rd.ok l (λj hj=>by omega) (λj hj=>by omega)
 grind [kX]
theorem f1a(l:Ln line w0 [x] F)(h0:F.size=1)(k0:dk F 0≠110)(hb:aZ x=false):Pan line 8 :=
 .name l ⟨0,by omega,λh=>h.elim k0 λh2=>by grind⟩
theorem f1b(l:Ln line w0 [x] F)(h0:F.size=1)(k0:dk F 0≠110)(hb:aZ x=true):Rd line (.inr (w0,[x],[0])):=by
 have h:=Rd.ok l (λj hj=>by
  grind) (λj hj hk=>by
  grind)
 grind [kX]
theorem n1a(l:Ln line w0 [x] F)(h0:F.size=1)(k0:dk F 0=110)(hb:cH x=none):Pan line 2 :=
 .num l (λj hj=>by
  grind) ⟨0,by omega,λh=>h k0 hb⟩
theorem n1b(l:Ln line w0 [x] F)(h0:F.size=1)(k0:dk F 0=110){a:Int}(hb:cH x=some a):Rd line (.inr (w0,[x],[a])):=by
 have h:=Rd.ok l (λj hj=>by
  grind) (λj hj hk=>by
  grind)
 grind [kX]
theorem f2a(l:Ln line w0 [x,y] F)(h0:F.size=2)(k0:dk F 0≠110)(hb:aZ x=false):Pan line 8 :=
 .name l ⟨0,by omega,λh=>h.elim k0 λh2=>by grind⟩
theorem f2n(k1:dk F 1=110)(hb:aZ x=true)(h0:F.size=2)(j:Nat)(hj:j<F.size):dk F j=110\/aZ ([x,y].getD j ByteArray.empty)=true:=by
 grind
theorem f2b(l:Ln line w0 [x,y] F)(h0:F.size=2)(k1:dk F 1=110)(hb:aZ x=true)(hy:cH y=none):Pan line 2 :=
 .num l (f2n k1 hb h0) ⟨1,by omega,λh=>h k1 hy⟩
theorem f2c(l:Ln line w0 [x,y] F)(h0:F.size=2)(k0:dk F 0≠110)(k1:dk F 1=110)(hb:aZ x=true){a:Int}(hy:cH y=some a):Rd line (.inr (w0,[x,y],[0,a])):=by
 have h:=Rd.ok l (f2n k1 hb h0) (λj hj hk=>by
  grind)
 rw[aKl F [x,y] 2 h0]at h;have e:(List.range 2).map (λj=>if dk F j=110 then (cH ([x,y].getD j ByteArray.empty)).getD 0 else 0)=[0,a]:=by
  show [if dk F 0=110 then _ else (0:Int),if dk F 1=110 then (cH y).getD 0 else (0:Int)]=_
  grind
 grind
theorem f3a(l:Ln line w0 [x,y,z] F)(h0:F.size=3)(k0:dk F 0≠110)(hb:aZ x=false):Pan line 8 :=
 .name l ⟨0,by omega,λh=>h.elim k0 λh2=>by grind⟩
theorem f3n(k1:dk F 1=110)(k2:dk F 2=110)(hb:aZ x=true)(h0:F.size=3)(j:Nat)(hj:j<F.size):dk F j=110\/aZ ([x,y,z].getD j ByteArray.empty)=true:=by
 grind
theorem f3b(l:Ln line w0 [x,y,z] F)(h0:F.size=3)(k1:dk F 1=110)(k2:dk F 2=110)(hb:aZ x=true)(hy:cH y=none\/cH z=none):Pan line 2 :=
 .num l (f3n k1 k2 hb h0) (hy.elim (λhy=>⟨1,by omega,λh=>h k1 hy⟩) λhz=>⟨2,by omega,λh=>h k2 hz⟩)
theorem f3c(l:Ln line w0 [x,y,z] F)(h0:F.size=3)(k0:dk F 0≠110)(k1:dk F 1=110)(k2:dk F 2=110)(hb:aZ x=true){a b:Int}(hy:cH y=some a)(hz:cH z=some b):Rd line (.inr (w0,[x,y,z],[0,a,b])):=by
 have h:=Rd.ok l (f3n k1 k2 hb h0) (λj hj hk=>by
  grind)
 rw[aKl F [x,y,z] 3 h0]at h;have e:(List.range 3).map (λj=>if dk F j=110 then (cH ([x,y,z].getD j ByteArray.empty)).getD 0 else 0)=[0,a,b]:=by
  show [if dk F 0=110 then _ else (0:Int),if dk F 1=110 then (cH y).getD 0 else (0:Int),if dk F 2=110 then (cH z).getD 0 else (0:Int)]=_
  grind
 grind
theorem f4a(l:Ln line w0 [x,y,z,o] F)(h0:F.size=4)(k0:dk F 0≠110)(k3:dk F 3≠110)(hb:aZ x=false\/aZ o=false):Pan line 8 :=
 .name l (hb.elim (λhb=>⟨0,by omega,λh=>h.elim k0 λh2=>by grind⟩) λhb=>⟨3,by omega,λh=>h.elim k3 λh2=>by simp_all⟩)
theorem f4n(k1:dk F 1=110)(k2:dk F 2=110)(hb:aZ x=true)(ho:aZ o=true)(h0:F.size=4)(j:Nat)(hj:j<F.size):dk F j=110\/aZ ([x,y,z,o].getD j ByteArray.empty)=true:=by
 grind
theorem f4b(l:Ln line w0 [x,y,z,o] F)(h0:F.size=4)(k1:dk F 1=110)(k2:dk F 2=110)(hb:aZ x=true)(ho:aZ o=true)(hy:cH y=none\/cH z=none):Pan line 2 :=
 .num l (f4n k1 k2 hb ho h0) (hy.elim (λhy=>⟨1,by omega,λh=>h k1 hy⟩) λhz=>⟨2,by omega,λh=>h k2 hz⟩)
theorem f4c(l:Ln line w0 [x,y,z,o] F)(h0:F.size=4)(k0:dk F 0≠110)(k1:dk F 1=110)(k2:dk F 2=110)(k3:dk F 3≠110)(hb:aZ x=true)(ho:aZ o=true){a b:Int}(hy:cH y=some a)(hz:cH z=some b):Rd line (.inr (w0,[x,y,z,o],[0,a,b,0])):=by
 have h:=Rd.ok l (f4n k1 k2 hb ho h0) (λj hj hk=>by
  grind)
 rw[aKl F [x,y,z,o] 4 h0]at h;have e:(List.range 4).map (λj=>if dk F j=110 then (cH ([x,y,z,o].getD j ByteArray.empty)).getD 0 else 0)=[0,a,b,0]:=by
  show [if dk F 0=110 then _ else (0:Int),if dk F 1=110 then (cH y).getD 0 else (0:Int),if dk F 2=110 then (cH z).getD 0 else (0:Int),if dk F 3=110 then _ else (0:Int)]=_
  grind
 grind
end
section
variable{line:ByteArray}{xs:List ByteArray}
def RdP(line:ByteArray)(r:Int ⊕ Wd):Prop:=match r with
 | .inl e=>Rd line (.inl e)
 | .inr w=>∃ w0 xs ns,Rd line (.inr (w0,xs,ns))/\IsW w (.agg [.str w0,.fs (sr xs),.fs (ns.map λv=>[I v])])
theorem aXu(w0:ByteArray)(xs:List ByteArray)(ns:List Int):gdA (.agg [.str w0,.fs (sr xs),.fs (ns.map λv=>[I v])])=true:=by
 have h:∀ l:List (List AV),(∀ r∈l,gdL r=true)->gdR l=true:=by
  intro l;induction l with
  | nil=>intro _;rfl
  | cons r l ih=>grind [gdR]
 simp_all [gdA,sr,gdL]
theorem vH{w F:ByteArray}(hp:(w,F)∈fmL)(hs:¬line.size>40)(hw:cA line=w::xs)(hl:xs.length=F.size):Ws F xs:=by
 refine⟨hl,aUi _ hp,aUj _ hp,λy hy=>?_⟩;have:=aOi (line:=line) (y:=y) (by grind);omega
theorem aEf{x:ByteArray}(h:aZ x=true):x.size<=10:=by
 grind [aZ]
theorem not_true{b:Bool}(h:¬b=true):b=false:=by grind
theorem gT(hs:¬line.size>40){w:ByteArray}(hw:cA line=w::xs){r:Int ⊕ Wd} (h:(match w::xs with
 | [w]=>if w=AAw then .inr .close else if w=AAA then .inr .total else .inl 13
 | [w,x]=>if w=AAt then iQ x (.farmer x) else if w=AAz then iQ x (.net x) else if w=AAC then iQ x (.used x) else
   if w=AAD then iQ x (.loss x) else if w=AAE then iQ x (.power x) else
   if w=AAv then aBd x (λn=>.void n.toNat) else if w=AAB then aBd x (λn=>.ticket n.toNat) else .inl 13
 | [w,x,y]=>if w=AAx then (if aZ x then aBd y (.meter x) else .inl 8) else .inl 13
 | [w,x,y,z]=>if w=AAy then (if aZ x then (match cH y,cH z with
  | some a,some b=>.inr (.pan x a b)
  | _,_=>.inl 2) else .inl 8) else .inl 13
 | [w,x,y,z,o]=>if w=AAu then (if aZ x&&aZ o then (match cH y,cH z with
  | some a,some b=>.inr (.wagon x o a b)
  | _,_=>.inl 2) else .inl 8) else .inl 13
 | _=>.inl 13)=r):rd line=r:=by
 rw[<-h];unfold rd
 grind
theorem aMV(hs:¬line.size>40)(hw:cA line=AAt::xs):RdP line (rd line):=by
 have hp:((AAt,⟨⟨[102]⟩⟩):ByteArray×ByteArray)∈fmL:=by simp[fmL]
 have hf:aV true (.str AAt) fmE=some (some (.str ⟨⟨[102]⟩⟩)):=by kernel_rfl
 by_cases hl:xs.length=1
 .obtain⟨x,rfl⟩:∃ x,xs=[x]:=by
   match xs,hl with
   | [x],_=>grind
  have l:Ln line AAt [x] ⟨⟨[102]⟩⟩:=⟨by omega,hw,hf,vH hp hs hw rfl⟩;have k0:dk ⟨⟨[102]⟩⟩ 0≠110:=by
   rw[show dk ⟨⟨[102]⟩⟩ 0=102 by kernel_rfl];decide
  rw[gT hs hw (r:=iQ x (.farmer x)) (by simp)];unfold iQ;by_cases hb:aZ x=true
  .rw[if_pos hb]
   exact⟨_,_,_,f1b l rfl k0 hb,0,rfl⟩
  .rw[if_neg hb]
   exact f1a l rfl k0 (not_true hb)
 .rw[gT hs hw (r:=.inl 13) (by
   grind)]
  exact Rd.form AS hw (hZ hf) (by decide) λ_=>hl
theorem aPN(hs:¬line.size>40)(hw:cA line=AAu::xs):RdP line (rd line):=by
 have hp:((AAu,AAH):ByteArray×ByteArray)∈fmL:=by simp[fmL]
 have hf:aV true (.str AAu) fmE=some (some (.str AAH)):=by kernel_rfl
 by_cases hl:xs.length=4
 .obtain⟨x,y,z,o,rfl⟩:∃ x y z o,xs=[x,y,z,o]:=by
   match xs,hl with
   | [x,y,z,o],_=>grind
  have l:Ln line AAu [x,y,z,o] AAH:=⟨by omega,hw,hf,vH hp hs hw rfl⟩;have k0:dk AAH 0≠110:=by
   rw[show dk AAH 0=119 by kernel_rfl];decide
  have k1:dk AAH 1=110:=by kernel_rfl
  have k2:dk AAH 2=110:=by kernel_rfl
  have k3:dk AAH 3≠110:=by
   rw[show dk AAH 3=102 by kernel_rfl];decide
  rw[gT hs hw (r:=if aZ x&&aZ o then (match cH y,cH z with
   | some a,some b=>.inr (.wagon x o a b)
   | _,_=>.inl 2) else .inl 8) (by simp)]
  by_cases hb:(aZ x&&aZ o)=true
  .rw[if_pos hb]
   rw[B4]at hb;cases hy:cH y with
   | none=>exact f4b l rfl k1 k2 hb.1 hb.2 (.inl hy)
   | some a =>
     cases hz:cH z with
     | none=>exact f4b l rfl k1 k2 hb.1 hb.2 (.inr hz)
     | some b =>
       obtain⟨_,a0,a1,_⟩:=fY hy;obtain⟨_,b0,b1,_⟩:=fY hz;exact⟨_,_,_,f4c l rfl k0 k1 k2 k3 hb.1 hb.2 hy hz,⟨a0,a1,b0,b1,aEf hb.1,aEf hb.2⟩,y,z,0,0,rfl⟩
  .rw[if_neg hb]
   have hb:=not_true hb;rw[Bool.and_eq_false_iff]at hb;exact f4a l rfl k0 k3 hb
 .rw[gT hs hw (r:=.inl 13) (by
   grind)]
  exact Rd.form AS hw (hZ hf) (by decide) λ_=>hl
theorem aTD(hs:¬line.size>40)(hw:cA line=AAv::xs):RdP line (rd line):=by
 have hp:((AAv,⟨⟨[110]⟩⟩):ByteArray×ByteArray)∈fmL:=by simp[fmL]
 have hf:aV true (.str AAv) fmE=some (some (.str ⟨⟨[110]⟩⟩)):=by kernel_rfl
 by_cases hl:xs.length=1
 .obtain⟨x,rfl⟩:∃ x,xs=[x]:=by
   match xs,hl with
   | [x],_=>grind
  have l:Ln line AAv [x] ⟨⟨[110]⟩⟩:=⟨by omega,hw,hf,vH hp hs hw rfl⟩;have k0:dk ⟨⟨[110]⟩⟩ 0=110:=by kernel_rfl
  rw[gT hs hw (r:=aBd x λn=>.void n.toNat) (by simp)];unfold aBd;cases hb:cH x with
  | none=>exact n1a l rfl k0 hb
  | some a =>
    obtain⟨_,a0,_,_⟩:=fY hb;refine⟨_,_,_,n1b l rfl k0 hb,x,?_⟩;rw[Int.toNat_of_nonneg a0];rfl
 .rw[gT hs hw (r:=.inl 13) (by
   grind)]
  exact Rd.form AS hw (hZ hf) (by decide) λ_=>hl
theorem aPR(hs:¬line.size>40)(hw:cA line=AAw::xs):RdP line (rd line):=by
 have hp:((AAw,⟨⟨[]⟩⟩):ByteArray×ByteArray)∈fmL:=by simp[fmL]
 have hf:aV true (.str AAw) fmE=some (some (.str ⟨⟨[]⟩⟩)):=by kernel_rfl
 by_cases hl:xs.length=0
 .obtain rfl:=D0 hl
  have l:Ln line AAw [] ⟨⟨[]⟩⟩:=⟨by omega,hw,hf,vH hp hs hw rfl⟩;rw[gT hs hw (r:=.inr .close) (by simp)];exact⟨_,_,_,f0 l rfl,rfl⟩
 .rw[gT hs hw (r:=.inl 13) (by
   grind)]
  exact Rd.form AS hw (hZ hf) (by decide) λ_=>hl
theorem aPQ(hs:¬line.size>40)(hw:cA line=AAx::xs):RdP line (rd line):=by
 have hp:((AAx,⟨⟨[109,110]⟩⟩):ByteArray×ByteArray)∈fmL:=by simp[fmL]
 have hf:aV true (.str AAx) fmE=some (some (.str ⟨⟨[109,110]⟩⟩)):=by kernel_rfl
 by_cases hl:xs.length=2
 .obtain⟨x,y,rfl⟩:∃ x y,xs=[x,y]:=by
   match xs,hl with
   | [x,y],_=>grind
  have l:Ln line AAx [x,y] ⟨⟨[109,110]⟩⟩:=⟨by omega,hw,hf,vH hp hs hw rfl⟩;have k0:dk ⟨⟨[109,110]⟩⟩ 0≠110:=by
   rw[show dk ⟨⟨[109,110]⟩⟩ 0=109 by kernel_rfl];decide
  have k1:dk ⟨⟨[109,110]⟩⟩ 1=110:=by kernel_rfl
  rw[gT hs hw (r:=if aZ x then aBd y (.meter x) else .inl 8) (by simp)];by_cases hb:aZ x=true
  .rw[if_pos hb]
   unfold aBd;cases hy:cH y with
   | none=>exact f2b l rfl k1 hb hy
   | some a =>
     obtain⟨_,a0,a1,_⟩:=fY hy;exact⟨_,_,_,f2c l rfl k0 k1 hb hy,⟨a0,a1⟩,y,0,rfl⟩
  .rw[if_neg hb]
   exact f2a l rfl k0 (not_true hb)
 .rw[gT hs hw (r:=.inl 13) (by
   grind)]
  exact Rd.form AS hw (hZ hf) (by decide) λ_=>hl
theorem aWQ(hs:¬line.size>40)(hw:cA line=AAy::xs):RdP line (rd line):=by
 have hp:((AAy,AAI):ByteArray×ByteArray)∈fmL:=by simp[fmL]
 have hf:aV true (.str AAy) fmE=some (some (.str AAI)):=by kernel_rfl
 by_cases hl:xs.length=3
 .obtain⟨x,y,z,rfl⟩:∃ x y z,xs=[x,y,z]:=by
   match xs,hl with
   | [x,y,z],_=>grind
  have l:Ln line AAy [x,y,z] AAI:=⟨by omega,hw,hf,vH hp hs hw rfl⟩;have k0:dk AAI 0≠110:=by
   rw[show dk AAI 0=112 by kernel_rfl];decide
  have k1:dk AAI 1=110:=by kernel_rfl
  have k2:dk AAI 2=110:=by kernel_rfl
  rw[gT hs hw (r:=if aZ x then (match cH y,cH z with
   | some a,some b=>.inr (.pan x a b)
   | _,_=>.inl 2) else .inl 8) (by simp)]
  by_cases hb:aZ x=true
  .rw[if_pos hb]
   cases hy:cH y with
   | none=>exact f3b l rfl k1 k2 hb (.inl hy)
   | some a =>
     cases hz:cH z with
     | none=>exact f3b l rfl k1 k2 hb (.inr hz)
     | some b =>
       obtain⟨_,a0,a1,_⟩:=fY hy;obtain⟨_,b0,b1,_⟩:=fY hz;exact⟨_,_,_,f3c l rfl k0 k1 k2 hb hy hz,⟨a0,a1,b0,b1⟩,y,z,0,rfl⟩
  .rw[if_neg hb]
   exact f3a l rfl k0 (not_true hb)
 .rw[gT hs hw (r:=.inl 13) (by
   grind)]
  exact Rd.form AS hw (hZ hf) (by decide) λ_=>hl
theorem aWR(hs:¬line.size>40)(hw:cA line=AAz::xs):RdP line (rd line):=by
 have hp:((AAz,⟨⟨[102]⟩⟩):ByteArray×ByteArray)∈fmL:=by simp[fmL]
 have hf:aV true (.str AAz) fmE=some (some (.str ⟨⟨[102]⟩⟩)):=by kernel_rfl
 by_cases hl:xs.length=1
 .obtain⟨x,rfl⟩:∃ x,xs=[x]:=by
   match xs,hl with
   | [x],_=>grind
  have l:Ln line AAz [x] ⟨⟨[102]⟩⟩:=⟨by omega,hw,hf,vH hp hs hw rfl⟩;have k0:dk ⟨⟨[102]⟩⟩ 0≠110:=by
   rw[show dk ⟨⟨[102]⟩⟩ 0=102 by kernel_rfl];decide
  rw[gT hs hw (r:=iQ x (.net x)) (by simp)];unfold iQ;by_cases hb:aZ x=true
  .rw[if_pos hb]
   exact⟨_,_,_,f1b l rfl k0 hb,0,rfl⟩
  .rw[if_neg hb]
   exact f1a l rfl k0 (not_true hb)
 .rw[gT hs hw (r:=.inl 13) (by
   grind)]
  exact Rd.form AS hw (hZ hf) (by decide) λ_=>hl
theorem aPO(hs:¬line.size>40)(hw:cA line=AAA::xs):RdP line (rd line):=by
 have hp:((AAA,⟨⟨[]⟩⟩):ByteArray×ByteArray)∈fmL:=by simp[fmL]
 have hf:aV true (.str AAA) fmE=some (some (.str ⟨⟨[]⟩⟩)):=by kernel_rfl
 by_cases hl:xs.length=0
 .obtain rfl:=D0 hl
  have l:Ln line AAA [] ⟨⟨[]⟩⟩:=⟨by omega,hw,hf,vH hp hs hw rfl⟩;rw[gT hs hw (r:=.inr .total) (by simp)];exact⟨_,_,_,f0 l rfl,rfl⟩
 .rw[gT hs hw (r:=.inl 13) (by
   grind)]
  exact Rd.form AS hw (hZ hf) (by decide) λ_=>hl
theorem aMU(hs:¬line.size>40)(hw:cA line=AAB::xs):RdP line (rd line):=by
 have hp:((AAB,⟨⟨[110]⟩⟩):ByteArray×ByteArray)∈fmL:=by simp[fmL]
 have hf:aV true (.str AAB) fmE=some (some (.str ⟨⟨[110]⟩⟩)):=by kernel_rfl
 by_cases hl:xs.length=1
 .obtain⟨x,rfl⟩:∃ x,xs=[x]:=by
   match xs,hl with
   | [x],_=>grind
  have l:Ln line AAB [x] ⟨⟨[110]⟩⟩:=⟨by omega,hw,hf,vH hp hs hw rfl⟩;have k0:dk ⟨⟨[110]⟩⟩ 0=110:=by kernel_rfl
  rw[gT hs hw (r:=aBd x λn=>.ticket n.toNat) (by simp)];unfold aBd;cases hb:cH x with
  | none=>exact n1a l rfl k0 hb
  | some a =>
    obtain⟨_,a0,_,_⟩:=fY hb;refine⟨_,_,_,n1b l rfl k0 hb,x,?_⟩;rw[Int.toNat_of_nonneg a0];rfl
 .rw[gT hs hw (r:=.inl 13) (by
   grind)]
  exact Rd.form AS hw (hZ hf) (by decide) λ_=>hl
theorem aTE(hs:¬line.size>40)(hw:cA line=AAC::xs):RdP line (rd line):=by
 have hp:((AAC,⟨⟨[109]⟩⟩):ByteArray×ByteArray)∈fmL:=by simp[fmL]
 have hf:aV true (.str AAC) fmE=some (some (.str ⟨⟨[109]⟩⟩)):=by kernel_rfl
 by_cases hl:xs.length=1
 .obtain⟨x,rfl⟩:∃ x,xs=[x]:=by
   match xs,hl with
   | [x],_=>grind
  have l:Ln line AAC [x] ⟨⟨[109]⟩⟩:=⟨by omega,hw,hf,vH hp hs hw rfl⟩;have k0:dk ⟨⟨[109]⟩⟩ 0≠110:=by
   rw[show dk ⟨⟨[109]⟩⟩ 0=109 by kernel_rfl];decide
  rw[gT hs hw (r:=iQ x (.used x)) (by simp)];unfold iQ;by_cases hb:aZ x=true
  .rw[if_pos hb]
   exact⟨_,_,_,f1b l rfl k0 hb,0,rfl⟩
  .rw[if_neg hb]
   exact f1a l rfl k0 (not_true hb)
 .rw[gT hs hw (r:=.inl 13) (by
   grind)]
  exact Rd.form AS hw (hZ hf) (by decide) λ_=>hl
theorem aTG(hs:¬line.size>40)(hw:cA line=AAD::xs):RdP line (rd line):=by
 have hp:((AAD,⟨⟨[112]⟩⟩):ByteArray×ByteArray)∈fmL:=by simp[fmL]
 have hf:aV true (.str AAD) fmE=some (some (.str ⟨⟨[112]⟩⟩)):=by kernel_rfl
 by_cases hl:xs.length=1
 .obtain⟨x,rfl⟩:∃ x,xs=[x]:=by
   match xs,hl with
   | [x],_=>grind
  have l:Ln line AAD [x] ⟨⟨[112]⟩⟩:=⟨by omega,hw,hf,vH hp hs hw rfl⟩;have k0:dk ⟨⟨[112]⟩⟩ 0≠110:=by
   rw[show dk ⟨⟨[112]⟩⟩ 0=112 by kernel_rfl];decide
  rw[gT hs hw (r:=iQ x (.loss x)) (by simp)];unfold iQ;by_cases hb:aZ x=true
  .rw[if_pos hb]
   exact⟨_,_,_,f1b l rfl k0 hb,0,rfl⟩
  .rw[if_neg hb]
   exact f1a l rfl k0 (not_true hb)
 .rw[gT hs hw (r:=.inl 13) (by
   grind)]
  exact Rd.form AS hw (hZ hf) (by decide) λ_=>hl
theorem aPP(hs:¬line.size>40)(hw:cA line=AAE::xs):RdP line (rd line):=by
 have hp:((AAE,⟨⟨[102]⟩⟩):ByteArray×ByteArray)∈fmL:=by simp[fmL]
 have hf:aV true (.str AAE) fmE=some (some (.str ⟨⟨[102]⟩⟩)):=by kernel_rfl
 by_cases hl:xs.length=1
 .obtain⟨x,rfl⟩:∃ x,xs=[x]:=by
   match xs,hl with
   | [x],_=>grind
  have l:Ln line AAE [x] ⟨⟨[102]⟩⟩:=⟨by omega,hw,hf,vH hp hs hw rfl⟩;have k0:dk ⟨⟨[102]⟩⟩ 0≠110:=by
   rw[show dk ⟨⟨[102]⟩⟩ 0=102 by kernel_rfl];decide
  rw[gT hs hw (r:=iQ x (.power x)) (by simp)];unfold iQ;by_cases hb:aZ x=true
  .rw[if_pos hb]
   exact⟨_,_,_,f1b l rfl k0 hb,0,rfl⟩
  .rw[if_neg hb]
   exact f1a l rfl k0 (not_true hb)
 .rw[gT hs hw (r:=.inl 13) (by
   grind)]
  exact Rd.form AS hw (hZ hf) (by decide) λ_=>hl
theorem aTF(hs:¬line.size>40){w0:ByteArray}(hw:cA line=w0::xs)(hn:∀ p∈fmL,¬w0=p.1):RdP line (rd line):=by
 have n0:¬w0=AAt:=hn (AAt,⟨⟨[102]⟩⟩) (by simp[fmL]);have n1:¬w0=AAu:=hn (AAu,AAH) (by simp[fmL]);have n2:¬w0=AAv:=hn (AAv,⟨⟨[110]⟩⟩) (by simp[fmL]);have n3:¬w0=AAw:=hn (AAw,⟨⟨[]⟩⟩) (by simp[fmL]);have n4:¬w0=AAx:=hn (AAx,⟨⟨[109,110]⟩⟩) (by simp[fmL]);have n5:¬w0=AAy:=hn (AAy,AAI) (by simp[fmL]);have n6:¬w0=AAz:=hn (AAz,⟨⟨[102]⟩⟩) (by simp[fmL]);have n7:¬w0=AAA:=hn (AAA,⟨⟨[]⟩⟩) (by simp[fmL]);have n8:¬w0=AAB:=hn (AAB,⟨⟨[110]⟩⟩) (by simp[fmL]);have n9:¬w0=AAC:=hn (AAC,⟨⟨[109]⟩⟩) (by simp[fmL]);have n10:¬w0=AAD:=hn (AAD,⟨⟨[112]⟩⟩) (by simp[fmL]);have n11:¬w0=AAE:=hn (AAE,⟨⟨[102]⟩⟩) (by simp[fmL]);have hf:aV true (.str w0) fmE=some none:=by
  grind [aCY,fmE]
 rw[gT hs hw (r:=.inl 13) (by
  grind)]
 exact Rd.form (f:=⟨⟨[]⟩⟩) (b:=false) AS hw (by rw[hf];rfl) (by decide) λh=>by cases h
theorem aLs(line:ByteArray):RdP line (rd line):=by
 by_cases hs:line.size>40
 .have e:rd line = .inl 14:=by grind [rd]
  rw[e];exact .long hs
 .obtain⟨w0,xs,hw⟩:=aOh line
  by_cases hn:∀ p∈fmL,¬w0=p.1;·grind [aTF]
  .have hex:∃ p∈fmL,w0=p.1:=Classical.byContradiction λh=>hn λp hp e=>h ⟨p,hp,e⟩
   obtain⟨p,hp,e⟩:=hex;subst e;unfold fmL at hp;simp only[C4,H6,AAh]at hp;rcases hp with rfl|rfl|rfl|rfl|rfl|rfl|rfl|rfl|rfl|rfl|rfl|rfl;·grind [aMV]
   .grind [aPN]
   .exact aTD hs hw
   .grind [aPR]
   .grind [aPQ]
   .exact aWQ hs hw
   .exact aWR hs hw
   all_goals grind [aPO,aMU,aTE,aTG,aPP]
theorem aZq:RdOk rd:=by
 intro line;refine⟨?_,λe h=>aPM h⟩;have h:=aLs line;cases hr:rd line with
 | inl e =>
   rw[hr]at h;cases (h:Rd line (.inl e))with
   | long h=>exact aUC h
   | form hs hw hf hF hn=>exact aUD hs hw hf hF hn
   | name l hn=>exact aUB l.hs l.hw l.hf l.ws hn
   | num l hn hm=>exact aXS l.hs l.hw l.hf l.ws hn hm
 | inr w =>
   rw[hr]at h;obtain⟨w0,xs,ns,h,iw⟩:=h;cases h with
   | ok l hn hm=>exact⟨_,w60 l.hs l.hw l.hf l.ws hn hm,iw,aXu _ _ _⟩
end
abbrev Uq(a:Nat):AV:=.int .u64 (a:Int)
def big(k:IntKind):Prop:=k = .u64\/k = .i64
theorem aBx:big .u64:=.inl rfl
theorem zU:big .i64:=.inr rfl
theorem yB{k:IntKind}(h:big k):k.bits=64:=by rcases h with rfl|rfl<;>rfl
theorem qE{k:IntKind}(h:big k){a:Nat}(ha:a<2^63):k.wrap (a:Int)=(a:Int):=by
 rcases h with rfl|rfl;·simp[IntKind.wrap,IntKind.bits,IntKind.signed];omega
 .simp[IntKind.wrap,IntKind.bits,IntKind.signed];omega
theorem oQ{w:Nat}(a:Nat):BitVec.ofInt w (a:Int)=BitVec.ofNat w a:=by
 rfl
theorem aJA{k:IntKind}(h:big k){a b:Nat}(ha:a<2^63)(hb:b<2^63):oG .and k (a:Int) (b:Int)=((a&&&b:Nat):Int):=by
 unfold oG;dsimp only;rw[oQ,oQ,yB h,BitVec.toNat_and,BitVec.toNat_ofNat,BitVec.toNat_ofNat,M4 AS,M4 AS]
 grind [qE,Nat.and_le_left]
theorem aMk{k:IntKind}(h:big k){a b:Nat}(ha:a<2^63)(hb:b<2^63):oG .or k (a:Int) (b:Int)=((a|||b:Nat):Int):=by
 unfold oG;dsimp only;rw[oQ,oQ,yB h,BitVec.toNat_or,BitVec.toNat_ofNat,BitVec.toNat_ofNat,M4 AS,M4 AS];exact qE h (Nat.or_lt_two_pow ha hb)
def dif(a b:Nat):Nat:=a&&&(2^64-(b+1))
theorem aXL(a b:Nat):dif a b<=a:=aG0
theorem aRz{k:IntKind}(h:big k){a b:Nat}(ha:a<2^63)(hb:b<2^63):oG .andNot k (a:Int) (b:Int)=((dif a b:Nat):Int):=by
 unfold oG;dsimp only;rw[oQ,oQ,yB h,BitVec.toNat_and,BitVec.toNat_not,BitVec.toNat_ofNat,BitVec.toNat_ofNat,M4 AS,M4 AS,show 2^64-1-b=2^64-(b+1) by omega]
 grind [qE,aXL,dif]
theorem aMe{a b:Nat}(hb:b<2^64){i:Nat}:(dif a b).testBit i=(a.testBit i&&(decide (i<64) && !b.testBit i)):=by
 unfold dif;rw[Nat.testBit_and,Nat.testBit_two_pow_sub_succ hb]
theorem aRA{a n:Nat}(h:a<2^n){i:Nat}(hi:n<=i):a.testBit i=false:=Nat.testBit_lt_two_pow (E5 h (G4 AS hi))
theorem tU{k:IntKind}(h:big k){i:Nat}(hi:i<63):k.wrap (1*2^min i k.bits)=((2^i:Nat):Int):=by
 rw[yB h,aF9 AS,Int.one_mul,show (2:Int)^i=((2^i:Nat):Int) by norm_cast];exact qE h (O0 AS hi)
theorem aPb{k:IntKind}(h:big k){i:Nat}(hi:i<63):k.wrap (2^min i k.bits)=((2^i:Nat):Int):=by
 rw[<-tU h hi,Int.one_mul]
theorem aTp{k:IntKind}(h:big k){a i:Nat}(hi:i<64):(a:Int).fdiv (2^min i k.bits)=((a>>>i:Nat):Int):=by
 grind [yB,Nat.shiftRight_eq_div_pow]
theorem aRC{k:IntKind}(h:big k){a i:Nat}(ha:a<2^63)(hi:i<64):oG .and k ((a:Int).fdiv (2^min i k.bits)) 1=if a.testBit i then 1 else 0:=by
 have:a>>>i<=a:=Nat.shiftRight_le a i;rw[aTp h hi,show (1:Int)=((1:Nat):Int) from rfl,aJA h AS AS];unfold Nat.testBit
 grind
theorem aRB{k:IntKind}(h:big k){a i:Nat}(ha:a<2^63)(hi:i<64):(oG .and k ((a:Int).fdiv (2^min i k.bits)) 1=1)=(a.testBit i=true):=by
 grind [aRC]
theorem aVM{a i n:Nat}(ha:a<2^n)(hi:i<n):a|||2^i<2^n:=Nat.or_lt_two_pow ha (O0 AS hi)
def el(a:Nat):List Nat:=(List.range 10).filter (a.testBit ·)
def aMZ(a:Nat):Nat:=(el a).headD 0
def tzq(a:Nat):Bool:=match dL aB 6 154 [Uq a] []with
 | some (.int .i64 n,[])=>decide (n=(aMZ a:Nat))
 | _=>false
theorem aWv:((List.range 1024).all λa=>a==0||tzq a)=true:=by kernel_rfl
theorem bCn{a:Nat}(ha:a<1024)(h0:a≠0):runW aB 154 [Uq a] []=some (I (aMZ a:Nat),[]):=by
 have h:=D5.1 aWv a (I2.2 ha);have h1:(a==0)=false:=by simp[h0]
 rw[h1,Bool.false_or]at h;unfold tzq at h;refine bU.2 ⟨6,?_⟩
 grind
theorem aUr:∀ a:Nat,a<1024->a≠0->el a=aMZ a::el (a&&&(a-1)):=by decide +kernel
theorem bEX:∀ a:Nat,a<1024->(el a=[]↔a=0):=by decide +kernel
theorem aXJ{a k:Nat}:k∈el a↔k<10/\a.testBit k=true:=by simp[el]
def aCH(a:Nat):Nat->Nat
 | 0=>a
 | i+1=>aCH a i&&&(aCH a i-1)
theorem aHI{a:Nat}(ha:a<1024):∀ i,aCH a i<1024
 | 0=>ha
 | i+1=>by rw[aCH];exact aD5 aG0 (aHI ha i)
theorem aKK{a:Nat}(ha:a<1024):∀ i,el (aCH a i)=(el a).drop i
 | 0=>rfl
 | i+1=>by
   have ih:=aKK ha i;rw[aCH];by_cases h0:aCH a i=0
   .rw[h0]at ih ⊢
    have e0:el 0=[]:=rfl;rw[show (0&&&(0-1))=0 from rfl,e0];rw[e0]at ih;have:=AAs List.length ih
    grind [List.drop_eq_nil_of_le]
   .rw[aUr _ (aHI ha i) h0]at ih
    rw[<-aB4,<-ih];rfl
theorem aXN{a:Nat}(ha:a<1024){i:Nat}(hi:i<(el a).length):aCH a i≠0/\(el a)[i]?=some (aMZ (aCH a i)):=by
 have h:=aKK ha i;have h0:aCH a i≠0:=λhc=>by
  rw[hc,show el 0=[] from rfl]at h;have:=AAs List.length h
  grind
 simp_all [aMZ]
theorem aUw{a:Nat}(ha:a<1024):aCH a (el a).length=0:=by
 grind [aKK,bEX,aHI]
abbrev cU(a:Nat):Option XB:=some (.blk true (.cells true [Uq a]))
structure aUR(n:Nat)(H:XH):Prop where
 hat:∀ a,hat (H++[cU a]) n=cU a
 set:∀ a b,(H++[cU a]).set n (cU b)=H++[cU b]
 len:∀ a,(H++[cU a]).length=n+1
 head:∀(a:Nat)(e:aJ),e 0 = .fn (.yield 0) [] []->e 1 = .pt n 0->bT (n+1) [0,1] (some (.normal,e,H++[cU a]))=some ([.fn (.yield 0) [] [],.pt n 0],H++[cU a])
 fin:∀ a,pT false (n+1) (.tup []) (H++[cU a])=(.tup [],H++[cU a])
def Yd(H H':XH)(v:Nat)(b:Bool):Prop:=∀ a:Nat,gJ (runW aB) (runYW aB) (.fn (.yield 0) [] []) [I v] (H++[cU a])=some (.bool b,H'++[cU a])
theorem aPt{n:Nat}{H H':XH}(g:aUR n H)(g':aUR n H'){a:Nat}(ha:a<1024)(h0:a≠0)(hy:Yd H H' (aMZ a) true) :
 bT (n+1) [0,1] (execW aB 222 (n+1) none (match aGC with | .loop _ a=>a|c=>c) (aY [0,1] [.fn (.yield 0) [] [],.pt n 0]) (H++[cU a]))=some ([.fn (.yield 0) [] [],.pt n 0],H'++[cU (a&&&(a-1))]):=by
 have h1:=g.hat a;have h2:=g'.hat a;have h3:=g'.set a;have h4:=hy a;have t:=bCn ha h0;have n0:((a:Int)=0)=False:=AAb;have u1:IntKind.u64.wrap ((a:Int)-1)=((a-1:Nat):Int):=by
  grind [qE,aBx]
 have u2:=aJA aBx (a:=a) (b:=a-1) AS AS;have hd:=g'.head (a&&&(a-1));unfold aGC;dsimp only;sym =>
  simp[Za,Zb,Zc,Zf,Zg,Zh,Zj,Zl,Zm,Zv,ZA,ZE,ZW,Ya,Yb,Yf,Yi,Yn,Yo,Ys,Y9,YB,YG,XI,Wh,Wv,Vp,V6,V7,V9,VF,VG,VI,VQ,VX,VZ,Ue,Uf,Ut,Uu,Uv,UC,UE,UF,UH,UI,UK,Th,Tl,Tm,Tn,Ts,Tt,Tv,Tw,Tz,T2,T8,TB,TC,TF,TK,TN,TO,TP,TQ,TR,TS,TT,Sc,SA,SC,SG,SI,SJ,SV,SX,SZ,Rb,Rc,Rg,Rk,Rl,RY,Pj,Pk,Pl,Pn,Po,Pp,PI,PJ,PK,PL,h1,h2,t,h4,n0,u1,u2,h3]
  tactic=>exact hd _ rfl rfl
theorem aRd{n:Nat}{G:Nat->XH}{a:Nat}(ha:a<1024)(g:∀ i,i<=(el a).length->aUR n (G i))(hy:∀ i v,(el a)[i]?=some v->Yd (G i) (G (i+1)) v true) :
 runW aB 222 [.fn (.yield 0) [] [],.pt n 0] (G 0++[cU a])=some (.tup [],G (el a).length++[cU 0]):=by
 have l0:=(g 0 AS).len a;have g1:=g (el a).length AS;have h1:hat (G (el a).length++[aa [.int .u64 0]]) n=aa [.int .u64 0]:=g1.hat 0;have hf:pT false (n+1) (.tup []) (G (el a).length++[aa [.int .u64 0]])=(.tup [],G (el a).length++[aa [.int .u64 0]]):=g1.fin 0;have c0:=aUw ha;rw[qX 222 aSk rfl];unfold aSk;dsimp only;rw[l0];unfold aGC;sym =>
  simp[Za,Zb,Zf,Zh,Zl,Zm,ZA,ZW,YG,YX,Vi,Vm,V6,V7,VI,UQ,US,UX,UZ,Tb,Th,Tl,Tn,Tp,Tr,TB,TJ,TZ,Sa,SA,SC,SG,SV,SX,Ra,Rb,Rc,Re,Ri,Rk,Rl]
  tactic =>
   rw[aG (el a).length (λ_=>[.fn (.yield 0) [] [],.pt n 0]) (λi=>G i++[cU (aCH a i)])]
   .rw[c0]
    (sym=>(simp[Za,Zb,Zf,Zh,Zl,Zm,ZA,ZW,YG,YX,Vi,Vm,V6,V7,VI,UQ,US,UX,UZ,Tb,Th,Tl,Tn,Tp,Tr,TB,TJ,TZ,Sa,SA,SC,SG,SV,SX,Ra,Rb,Rc,Re,Ri,Rk,Rl,h1,hf];all_goals tactic=>exact rfl))
   .exact(g 0 AS).head a _ rfl rfl
   .intro i hi
    obtain⟨p1,p2⟩:=aXN ha hi;exact aPt (g i AS) (g (i+1) AS) (aHI ha i) p1 (hy i _ p2)
   .rw[c0]
    (sym=>(simp[Za,Zb,Zf,Zh,Zl,Zm,ZA,ZW,YG,YX,Vi,Vm,V6,V7,VI,UQ,US,UX,UZ,Tb,Th,Tl,Tn,Tp,Tr,TB,TJ,TZ,Sa,SA,SC,SG,SV,SX,Ra,Rb,Rc,Re,Ri,Rk,Rl,h1];all_goals tactic=>exact rfl))
def wr(W:List Int):List (List AV):=W.map λv=>[I v]
theorem qT(W:List Int):(wr W).length=W.length:=by simp[wr]
theorem aFA{W:List Int}{i:Nat}{v:Int}(h:W[i]?=some v):(wr W)[i]?=some [I v]:=by simp[wr,h]
def chA(q:Int)(W:List Int):AV:=.agg [.fs [[I q,.fs (wr W)]]]
def chB(q:Int)(W:List Int):AV:=.fs [[.ifc 171 (.agg [I q,.fs (wr W)])]]
def hsA(q:Int)(W:List Int):AV:=.agg [.fs [[I q,.fs (wr W)]],.ifc 256 (chB q W),I W.length,Uq (2^W.length-1)]
theorem aYA(lo n hi:Int):runW aB 197 [I lo,I n,I hi] []=some (.bool (decide (lo<=n)&&decide (n<=hi)),[]):=by
 rw[qX 197 aSq rfl];unfold aSq;dsimp only;rcases mC (lo<=n)with h1|h1
 .have d1:decide (lo<=n)=true:=by simp[h1]
  (exact kJ h1 d1)
 .have d1:decide (lo<=n)=false:=by simp[h1]
  (exact kJ h1 d1)
theorem bCd{v:Int}(h0:0<=v)(h1:v<=1000000):runW aB 196 [I v] []=some (.bool false,[]):=by
 have c:=aYA 0 v 1000000;rw[show (decide (0<=v)&&decide (v<=1000000))=true by grind]at c;rw[qX 196 aSr rfl];unfold aSr;dsimp only;(exact cI c)
theorem bCb{W:List Int}(hW:∀ v∈W,0<=v/\v<=1000000)(hl:W.length<=9):runW aB 200 [.fs (wr W),.fn (.func 196) [] []] []=some (I (-1),[]):=by
 rw[qX 200 aSn rfl];unfold aSn;dsimp only;have ln:=qT W;have e0:((W.length:Int)<(W.length:Int))=False:=AAb;sym =>
  simp[Za,Zb,Zf,Zh,Zl,Zm,Zv,ZA,ZI,ZS,ZW,Yf,Yi,Yn,Yo,Yw,Y5,Y6,Y8,YH,YM,YN,XI,XO,Wb,Wv,Ww,W3,W9,WF,Vb,Vg,Vl,VG,VH,VI,VQ,VX,VY,VZ,Ub,Uc,Ue,Uf,Ut,Uu,Uv,UC,UR,US,UU,UV,UW,UX,UY,Tb,Tc,Td,Te,Tg,Th,Ti,Tj,Tl,Tm,Tn,Tp,Tr,Ts,Tt,Tv,Tw,Ty,Tz,T2,TF,TJ,TK,TN,TO,TP,TQ,TR,TZ,Sa,S9,SD,SE,SG,SV,SX,SY,SZ,Ra,Rb,Rc,Re,Rg,Ri,Rj,Rk,Rl,QQ,PI,PJ,PK,PL,ln]
  tactic =>
   unfold aNW;rw[aG W.length (λi=>[.fs (wr W),.fn (.func 196) [] [],I W.length,I (i:Nat)]) (λ_=>[])];·(exact kJ e0 ln)
   .rfl
   .intro i hi
    obtain⟨v,hv⟩:∃ v,W[i]?=some v:=⟨_,B7 hi⟩;have r1:=aFA hv;have hb:=hW v (B3 hv);have c:=bCd hb.1 hb.2;have t1:((i:Int)<(W.length:Int))=True:=AAa;have a2:IntKind.i64.wrap ((i:Int)+1)=((i+1:Nat):Int):=by grind [aE]
    (exact qR t1 r1 c a2 ln)
   ·(exact cI e0)
theorem bCc{W:List Int}(hW:∀ v∈W,0<=v/\v<=1000000)(hl:W.length<=9):runW aB 198 [.fs (wr W),.fn (.func 196) [] []] []=some (.bool false,[]):=by
 have c:=bCb hW hl;rw[qX 198 aSp rfl];unfold aSp;dsimp only;(exact cI c)
theorem aYB(q:Int)(W:List Int):runW aB 186 [chA q W] []=some (I W.length,[]):=by
 have ln:=qT W;rw[qX 186 aSv rfl];unfold aSv chA;dsimp only;(exact cI ln)
theorem sY{D:Nat->Option XFn}{K k:Nat}{rd:Option Nat}{L:List Nat}{a:XCode}{e:aJ}{h:XH}:execW D K k rd (.loop L a) e h=qJ (execW D K k rd a (aY L (aAt k L e h)) (qB k L e h)) (execW D K k rd (.loop L a)):=uN
theorem bCh{q:Int}{W:List Int}(hq:1<=q/\q<=10000000)(hW:∀ v∈W,0<=v/\v<=1000000)(h1:1<=W.length)(hl:W.length<=9):runW aB 184 [chA q W] []=some (I 0,[]):=by
 have ln:=qT W;have c1:=aYB q W;have c2:=aYA 1 q 10000000;rw[show (decide (1<=q)&&decide (q<=10000000))=true by grind]at c2;have c3:=bCc hW hl;have t1:((W.length:Int)=0)=False:=AAb;have t2:((9:Int)<(W.length:Int))=False:=AAb;rw[qX 184 aSx rfl];unfold aSx aOa chA at *;dsimp only;(exact iS ln c1 c2 c3 t1 t2 @sY)
theorem bCg(q:Int)(W:List Int):runW aB 185 [chA q W,I (-1)] []=some (chB q W,[]):=by
 rw[qX 185 aSw rfl];unfold aSw aNZ chA chB;dsimp only;(exact cI @sY)
theorem bCm{q:Int}{W:List Int}(hq:1<=q/\q<=10000000)(hW:∀ v∈W,0<=v/\v<=1000000)(h1:1<=W.length)(hl:W.length<=9):runW aB 162 [chA q W] []=some (.tup [hsA q W,I 0],[]):=by
 have c1:=bCh hq hW h1 hl;have c2:=bCg q W;have c3:=aYB q W;have n0:((W.length:Int)<0)=False:=AAb;have s1:=tU aBx (i:=W.length) AS;have p1:1<=2^W.length:=aD2;have p2:2^W.length<=2^9:=G4 AS hl;have s2:IntKind.u64.wrap (((2^W.length:Nat):Int)-1)=((2^W.length-1:Nat):Int):=by
  grind [qE,aBx]
 rw[qX 162 aSD rfl];unfold aSD chA hsA chB at *;dsimp only;(exact iS c1 c2 c3 n0 s1 s2 @sY)
def fT{α:Type}(f:α->Nat->α)(z:α)(ks:List Nat)(i:Nat):α:=(ks.take i).foldl f z
theorem bBm{α:Type}{f:α->Nat->α}{z:α}{ks:List Nat}{i v:Nat}(h:ks[i]?=some v):fT f z ks (i+1)=f (fT f z ks i) v:=by
 grind [List.take_add_one,fT]
theorem aXG{α:Type}{f:α->Nat->α}{z:α}{ks:List Nat}:fT f z ks ks.length=ks.foldl f z:=by
 simp[fT]
theorem bBq{a n k:Nat}(h:a<2^n)(hk:k∈el a):k<n:=by
 grind [aXJ,aRA]
def wS(W:List Int)(n:Int)(k:Nat):Int:=n+W.getD k 0
def wgt(W:List Int)(a:Nat):Int:=(el a).foldl (wS W) 0
theorem aVr{W:List Int}(hW:∀ v∈W,0<=v/\v<=1000000):∀(ks:List Nat)(z:Int),z<=ks.foldl (wS W) z/\ks.foldl (wS W) z<=z+1000000*(ks.length:Int)
 | [],z=>by simp
 | k::ks,z=>by
   have ih:=aVr hW ks (wS W z k);have hv:0<=W.getD k 0/\W.getD k 0<=1000000:=by
    rw[C7];cases h:W[k]? with
    | none=>simp
    | some v=>exact hW v (B3 h)
   grind [wS]
theorem aYv{W:List Int}(hW:∀ v∈W,0<=v/\v<=1000000)(a i:Nat):0<=fT (wS W) 0 (el a) i/\fT (wS W) 0 (el a) i<=10000000:=by
 have h:=aVr hW ((el a).take i) 0
 grind [fT,el]
theorem bBY(a:Nat):runW aB 221 [Uq a] []=some (.fn (.func 222) [] [.pt 0 0],[cU a]):=by
 rw[qX 221 aSl rfl];unfold aSl;dsimp only;(exact RT0)
section
variable{q:Int}{W:List Int}
abbrev aNf(q:Int)(W:List Int)(n:Int):XH:=[some (.loop 219 0 [.pt 1 0,.pt 2 0] .ready),some (.blk true (.cells true [I q,.fs (wr W)])),some (.blk true (.cells true [I n]))]
theorem aUc(n:Int):aUR 3 (aNf q W n):=by
 refine⟨λ_=>rfl,λ_ _=>rfl,λ_=>rfl,?_,?_⟩
 .intro a e h0 h1
  (exact kJ h0 h1)
 .intro a
  rfl
theorem bBH(n m:Int){k:Nat}{x:Int}(hl:W.length<=9)(hk:W[k]?=some x)(hm:IntKind.i64.wrap (n+x)=m):Yd (aNf q W n) (aNf q W m) k true:=by
 have hkl:=(B6.1 hk).1;have c1:((k:Int)<(W.length:Int))=True:=AAa;have ln:=qT W;have r1:=aFA hk;have y:runYW aB (.fn (.yield 0) [] []) [I (k:Nat)] (aNf q W n)=some (.bool true,aNf q W m):=by
  rw[aDF (K:=219) (d:=aNU) (site:=0) (vs:=[.pt 1 0,.pt 2 0]) rfl rfl (by rfl) rfl];(exact rR c1 r1 ln hm)
 intro a;(exact cI y)
theorem bCa(hW:∀ v∈W,0<=v/\v<=1000000)(hl:W.length<=9){a:Nat}(ha:a<2^W.length):runW aB 219 [.agg [I q,.fs (wr W)],Uq a] []=some (I (wgt W a),[]):=by
 have ha2:a<1024:=E5 ha (G4 (n:=2) AS (by omega:W.length<=10));have e236:=bBY a
 have e:runW aB 222 [.fn (.yield 0) [] [],.pt 3 0] [some (.loop 219 0 [.pt 1 0,.pt 2 0] .ready),aa [I q,.fs (wr W)],aa [I 0],cU a] =
  some (.tup [],[some (.loop 219 0 [.pt 1 0,.pt 2 0] .ready),aa [I q,.fs (wr W)],aa [I (wgt W a)],aa [.int .u64 0]]):=by
  have h:=aRd (n:=3) (G:=λi=>aNf q W (fT (wS W) 0 (el a) i)) ha2 (λi _=>aUc _) (by
   intro i v hv;have hvl:=bBq ha (B3 hv);obtain⟨x,hx⟩:∃ x,W[v]?=some x:=⟨_,B7 hvl⟩;have b1:=aYv hW a i;have b2:=hW x (B3 hx);refine bBH _ _ hl hx ?_;rw[bBm hv];show IntKind.i64.wrap (fT (wS W) 0 (el a) i+x)=fT (wS W) 0 (el a) i+W.getD v 0
   grind [aE])
  unfold wgt;rw[aXG]at h;exact h
 rw[qX 219 aNU rfl];unfold aNU;dsimp only;(exact kJ e236 e)
def tT(q:Int)(W:List Int)(a:Nat):Bool:=decide (q<=wgt W a)
theorem bBZ(hW:∀ v∈W,0<=v/\v<=1000000)(hl:W.length<=9){a:Nat}(ha:a<2^W.length):runW aB 220 [.agg [I q,.fs (wr W)],Uq a] []=some (.bool (tT q W a),[]):=by
 have c1:=bCa (q:=q) hW hl ha;rw[qX 220 aSm rfl];unfold aSm tT;dsimp only;rcases mC (q<=wgt W a)with h1|h1
 .have d1:decide (q<=wgt W a)=true:=by simp[h1]
  rw[d1];(exact kJ c1 h1)
 .have d1:decide (q<=wgt W a)=false:=by simp[h1]
  rw[d1];(exact kJ c1 h1)
end
theorem aBz{e:aJ}{tab:List (TypeId×FuncId)}{k:Nat}:aK e (.meth tab k)=aEg tab (e k):=rfl
theorem rV{v:AV}:aEg [(171,220),(256,227)] (.ifc 171 v) = .fn (.func 220) [v] []:=rfl
theorem rU{v:AV}:aEg [(171,220),(256,227)] (.ifc 256 v) = .fn (.func 227) [v] []:=rfl
section
variable{q:Int}{W:List Int}
theorem bBU(hW:∀ v∈W,0<=v/\v<=1000000)(hl:W.length<=9){a:Nat}(ha:a<2^W.length):runW aB 229 [.ifc 171 (.agg [I q,.fs (wr W)]),.pt 0 0] [cU a]=some (.bool (!tT q W a),[cU a]):=by
 have c1:=bBZ (q:=q) hW hl ha;rw[qX 229 aSh rfl];unfold aSh cU;dsimp only;(exact qR c1 @sY @aBz @rV @rU)
theorem bBT(hW:∀ v∈W,0<=v/\v<=1000000)(hl:W.length<=9){a:Nat}(ha:a<2^W.length):runW aB 230 [chB q W,.fn (.func 229) [] [.pt 0 0]] [cU a]=some (I (if tT q W a then -1 else 0),[cU a]):=by
 have c1:=bBU (q:=q) hW hl ha;rw[qX 230 aSg rfl];unfold aSg aNT chB cU at *;dsimp only;cases hb:tT q W a
 .simp only[hb,J1,C6,AAd]at c1 ⊢
  (exact qR c1 @sY @aBz @rV @rU)
 .simp only[hb,aB9,AAe]at c1 ⊢
  (exact qR c1 @sY @aBz @rV @rU)
theorem bBV(hW:∀ v∈W,0<=v/\v<=1000000)(hl:W.length<=9){a:Nat}(ha:a<2^W.length):runW aB 228 [chB q W,.fn (.func 229) [] [.pt 0 0]] [cU a]=some (.bool (!tT q W a),[cU a]):=by
 have c1:=bBT (q:=q) hW hl ha;rw[qX 228 aSi rfl];unfold aSi chB cU at *;dsimp only;cases hb:tT q W a
 .simp only[hb,J1,C6,AAd]at c1 ⊢
  (exact qR c1 @sY @aBz @rV @rU)
 .simp only[hb,aB9,AAe]at c1 ⊢
  (exact qR c1 @sY @aBz @rV @rU)
theorem aYz(hW:∀ v∈W,0<=v/\v<=1000000)(hl:W.length<=9){a:Nat}(ha:a<2^W.length):runW aB 227 [chB q W,Uq a] []=some (.bool (tT q W a),[]):=by
 have c1:=bBV (q:=q) hW hl ha;have nn:(!(!tT q W a))=tT q W a:=by grind
 rw[qX 227 aSj rfl];unfold aSj chB cU at *;dsimp only;(exact iS c1 nn @sY @aBz @rV @rU aF)
theorem bCi{a:Nat}(ha:a<2^63){i:Nat}(hi:i<63):runW aB 166 [Uq a,I (i:Nat)] []=some (Uq (a|||2^i),[]):=by
 have n0:((i:Int)<0)=False:=AAb;have s1:=tU aBx hi;have o1:=aMk aBx ha (b:=2^i) (O0 AS hi);rw[qX 166 aSA rfl];unfold aSA;dsimp only;(exact iS n0 s1 o1 @sY @aBz @rV @rU)
theorem bCe{a:Nat}(ha:a<2^63){i:Nat}(hi:i<63):runW aB 188 [Uq a,.fs [[I (i:Nat)]]] []=some (Uq (dif a (2^i)),[]):=by
 have n0:((i:Int)<0)=False:=AAb;have s1:=tU aBx hi;have o1:=aRz aBx ha (b:=2^i) (O0 AS hi);rw[qX 188 aSt rfl];unfold aSt aNX;dsimp only;(exact iS n0 s1 o1 @sY @aBz @rV @rU)
end
def swB(q:Int)(W:List Int)(i m:Nat):Bool := !m.testBit i&&(!tT q W m&&tT q W (m|||2^i))
def swT(q:Int)(W:List Int)(i m:Nat):Nat:=((List.range m).filter (swB q W i)).length
theorem aJN(q:Int)(W:List Int)(i m:Nat):swT q W i (m+1)=swT q W i m+if swB q W i m then 1 else 0:=by
 grind [List.range_succ,swT]
theorem aJO(q:Int)(W:List Int)(i m:Nat):swT q W i m<=m:=by
 grind [swT]
section
variable{q:Int}{W:List Int}
abbrev hsC(q:Int)(W:List Int):List AV:=[.fs [[I q,.fs (wr W)]],.ifc 256 (.fs [[.ifc 171 (.agg [I q,.fs (wr W)])]]),I W.length,Uq (2^W.length-1)]
abbrev hsX(q:Int)(W:List Int):Option XB:=some (.blk true (.cells true (hsC q W)))
abbrev fnX:Option XB:=some (.blk true (.cells true [.fn (.func 140) [] []]))
abbrev aEq(q:Int)(W:List Int)(i:Nat)(n:Int):XH:=[some (.loop 164 0 [.pt 1 0,.pt 2 0,.pt 3 0,.pt 4 0] .ready),hsX q W,fnX,some (.blk true (.cells true [I (i:Nat)])),some (.blk true (.cells true [I n]))]
theorem bCo(v:AV)(m:Nat):runW aB 140 [hsA q W,Uq m] []=some (I 1,[]):=by
 rw[qX 140 aSH rfl];unfold aSH hsA chB;dsimp only;(exact vC @aBz @rV @rU)
theorem bBI(hW:∀ v∈W,0<=v/\v<=1000000)(hl:W.length<=9){i m:Nat}(hi:i<W.length)(hm:m<2^W.length)(hb:m.testBit i=false){n:Int}(hn:0<=n/\n<=1000) :
 runYW aB (.fn (.yield 0) [] []) [Uq m] (aEq q W i n)=some (.bool true,aEq q W i (n+if swB q W i m then 1 else 0)):=by
 have p2:2^W.length<=2^9:=G4 AS hl;have hor:=aVM hm hi;have c1:=aYz (q:=q) hW hl hm;have c2:=bCi (a:=m) AS (i:=i) AS;have c3:=aYz (q:=q) hW hl hor;have c4:=bCo (q:=q) (W:=W) .any m;have a1:IntKind.i64.wrap (n+1)=n+1:=aE AS AS;rw[aDF (K:=164) (d:=aOc) (site:=0) (vs:=[.pt 1 0,.pt 2 0,.pt 3 0,.pt 4 0]) rfl rfl (by rfl) rfl];unfold swB;rw[hb];unfold hsA chB at *;cases e1:tT q W m with
 | true =>
   rw[e1]at c1;simp only[aB9,N4,aG3,C6,AAd,aC9];(exact rR c1 @aBz @rV @rU)
 | false =>
   rw[e1]at c1;cases e2:tT q W (m|||2^i)with
   | true =>
     rw[e2]at c3;simp only[J1,aG5,AAe];(exact kN c1 c2 c3 c4 a1 @aBz @rV @rU aF)
   | false =>
     rw[e2]at c3;simp only[J1,J2,C6,AAd,aC9];(exact iS c1 c2 c3 @aBz @rV @rU aF)
theorem bCj(i:Nat):runW aB 165 [hsA q W,.sl 0 0 1 1] [aa [I (i:Nat)]]=some (.fn (.func 187) [] [.pt 1 0,.pt 2 0],[aa [I (i:Nat)],hsX q W,ab [.sl 0 0 1 1]]):=by
 rw[qX 165 aSB rfl];unfold aSB hsA chB;dsimp only;(exact vC @aBz @rV @rU)
theorem aXM{m i:Nat}(hm:m<2^63)(hi:i<63):dif m (2^i)=m↔m.testBit i=false:=by
 have hp:2^i<2^64:=O0 AS AS;constructor;·grind [aMe]
 .intro h
  apply Nat.eq_of_testBit_eq;intro j;rw[aMe hp,Nat.testBit_two_pow];by_cases e:i=j;·grind
  .by_cases hj:j<64
   .simp[e,hj]
   .rw[aRA hm AS];simp
abbrev tAc(q:Int)(W:List Int)(i:Nat):XH:=[hsX q W,some (.blk false (.cells true [.sl 7 0 1 1])),some (.blk true (.cells true [I (i:Nat)]))]
abbrev tBc(q:Int)(W:List Int)(i:Nat):XH:=[hsX q W,some (.blk true (.cells true [.fs [[I (i:Nat)]]])),none]
def aXx(q:Int)(W:List Int)(i:Nat):Nat->XH
 | 0=>aEq q W i 0++tAc q W i
 | m+1=>aEq q W i (swT q W i (m+1):Nat)++tBc q W i
theorem aBo{i m:Nat}(hm:0<m):aXx q W i m=aEq q W i (swT q W i m:Nat)++tBc q W i:=by
 cases m with
 | zero=>omega
 | succ m=>rfl
theorem bCf(hW:∀ v∈W,0<=v/\v<=1000000)(hl:W.length<=9){i:Nat}(hi:i<W.length) :
 runW aB 187 [.fn (.yield 0) [] [],.pt 5 0,.pt 6 0] (aEq q W i 0++tAc q W i)=some (.tup [],aEq q W i (swT q W i (2^W.length):Nat)++tBc q W i):=by
 have p2:2^W.length<=2^9:=G4 AS hl;have p1:1<=2^W.length:=aD2;have e0:(((2^W.length:Nat):Int)<=((2^W.length-1:Nat):Int))=False:=AAb;have stp:∀ m:Nat,m<2^W.length->(m.testBit i=true/\((m:Int)=((dif m (2^i):Nat):Int))=False/\swT q W i (m+1)=swT q W i m)\/(m.testBit i=false/\((m:Int)=((dif m (2^i):Nat):Int))=True/\runYW aB (.fn (.yield 0) [] []) [Uq m] (aEq q W i (swT q W i m:Nat))=some (.bool true,aEq q W i (swT q W i (m+1):Nat))):=λm hm=>by
  have hd:=aXM (m:=m) (i:=i) AS AS;cases hb:m.testBit i with
  | true =>
    refine .inl ⟨rfl,AAo λe=>?_,?_⟩;·grind
    .rw[aJN,swB,hb];simp
  | false =>
    refine .inr ⟨rfl,AAn (by rw[hd.2 hb]),?_⟩
    grind [aJO,bBI,aJN]
 rw[qX 187 aSu rfl];unfold aSu;dsimp only;sym =>
  simp[Za,Zb,Zf,Zg,Zh,Zj,Zl,Zm,Zp,Zq,Zs,Zv,Zy,ZA,ZE,ZG,ZW,Yf,Yi,Yn,Yo,Yp,Yq,Ys,Yu,Y8,YF,YJ,YM,YX,YZ,XI,XN,XO,XX,Wc,Wl,Wv,Ww,Wz,W3,W5,WA,WJ,WL,WS,WY,WZ,Va,Vf,Vi,Vm,V5,V6,V7,V8,V9,VD,VF,VG,VI,VJ,VK,VL,VN,VO,VP,VQ,VV,VW,VX,VY,VZ,Ua,Ub,Uc,Ue,Uf,Ug,Uh,Ui,Uj,Ul,Um,Un,Uo,Us,Ut,Uu,Uv,Uw,U9,UA,UB,UC,UD,UE,UF,UH,UI,UJ,UK,UM,UN,UO,UP,UQ,US,UU,UV,UW,UX,UZ,Tb,Th,Ti,Tj,Tl,Tm,Tn,Tp,Tr,Ts,Tt,Tu,Tv,Tw,Tx,Ty,Tz,T2,T5,T8,TB,TF,TI,TJ,TK,TN,TO,TP,TQ,TR,TS,TT,TU,TV,TX,TY,TZ,Sa,SA,SC,SG,SV,SX,SZ,Ra,Rb,Rc,Re,Rg,Ri,Rj,Rk,Rl,Qm,Qn,QB,QQ,QS,QV,Pj,Pk,Pl,Pn,Po,Pp,PI,PJ,PK,PL]
  tactic =>
   unfold aNY;rw[aG (2^W.length) (λm=>[.fn (.yield 0) [] [],.pt 5 0,.pt 6 0,Uq m]) (aXx q W i)]
   .rw[aBo AS]
    (exact cI e0)
   .rfl
   .intro m hm
    have t1:((m:Int)<=((2^W.length-1:Nat):Int))=True:=AAa;have c7:=bCe (a:=m) AS (i:=i) AS;have u1:IntKind.u64.wrap ((m:Int)+1)=((m+1:Nat):Int):=by
     rw[show (m:Int)+1=((m+1:Nat):Int) by omega];exact qE aBx AS
    cases m with
    | zero =>
      rcases stp 0 hm with ⟨hb,_⟩|⟨_,h2,h3⟩;·simp at hb
      .have s0:swT q W i 0=0:=rfl
       rw[s0]at h3;unfold aXx;have t1:((0:Int)<=((2^W.length-1:Nat):Int))=True:=t1;have c7:runW aB 188 [.int .u64 0,.fs [[I (i:Nat)]]] []=some (.int .u64 ((dif 0 (2^i):Nat):Int),[]):=c7;have h2:((0:Int)=((dif 0 (2^i):Nat):Int))=True:=h2;have h3:runYW aB (.fn (.yield 0) [] []) [.int .u64 0] (aEq q W i 0)=some (.bool true,aEq q W i (swT q W i (0+1):Nat)):=h3;(exact rR t1 c7 h2 h3)
    | succ m =>
      rw[aBo (aF4 m),aBo (aF4 (m+1))];rcases stp (m+1) hm with ⟨_,h2,h3⟩|⟨_,h2,h3⟩
      .rw[h3]
       (exact rR t1 c7 u1 h2)
      ·(exact qR t1 c7 u1 h2 h3)
   .rw[aBo AS]
    (exact cI e0)
def swg(q:Int)(W:List Int)(i:Nat):Int:=(swT q W i (2^W.length):Nat)
theorem bCk(hW:∀ v∈W,0<=v/\v<=1000000)(hl:W.length<=9){i:Nat}(hi:i<W.length) :
 runW aB 164 [I (i:Nat),.pt 0 0,.pt 1 0] [hsX q W,fnX]=some (I (swg q W i),[hsX q W,fnX]):=by
 have c1:=bCj (q:=q) (W:=W) i
 have c2:runW aB 187 [.fn (.yield 0) [] [],.pt 5 0,.pt 6 0] [some (.loop 164 0 [.pt 1 0,.pt 2 0,.pt 3 0,.pt 4 0] .ready),hsX q W,fnX,aa [I (i:Nat)],aa [I 0],hsX q W,ab [.sl 7 0 1 1],aa [I (i:Nat)]] =
  some (.tup [],[some (.loop 164 0 [.pt 1 0,.pt 2 0,.pt 3 0,.pt 4 0] .ready),hsX q W,fnX,aa [I (i:Nat)],aa [I (swT q W i (2^W.length):Nat)],hsX q W,aa [.fs [[I (i:Nat)]]],none]):=bCf (q:=q) hW hl hi
 unfold hsA chB at *;rw[qX 164 aOc rfl];unfold aOc swg;dsimp only;(exact kJ c1 c2)
def wA(q:Int)(W:List Int)(i:Nat):List Int:=(List.range i).map (swg q W)
theorem aOI(q:Int)(W:List Int)(i:Nat):wA q W (i+1)=wA q W i++[swg q W i]:=by
 grind [List.range_succ,wA]
theorem yE(q:Int)(W:List Int)(i:Nat):(wA q W i).length=i:=by simp[wA]
def aWJ:Nat->AV
 | 0=>.nilsl
 | i+1=>.sl 2 0 1 (i+1)
def aXy(q:Int)(W:List Int):Nat->XH
 | 0=>[hsX q W,fnX]
 | i+1=>[hsX q W,fnX,aa ((wA q W (i+1)).map I)]
theorem wW{i:Nat}(hi:0<i):aWJ i = .sl 2 0 1 i:=by
 cases i with
 | zero=>omega
 | succ i=>rfl
theorem xI{i:Nat}(hi:0<i):aXy q W i=[hsX q W,fnX,aa ((wA q W i).map I)]:=by
 cases i with
 | zero=>omega
 | succ i=>rfl
theorem aOJ(q:Int)(W:List Int)(n:Nat):bK ((wA q W n).map I) 0 1 n=wr (wA q W n):=by
 have h:=yW (f:=I) (wA q W n) [];rw[yE]at h;exact h
theorem bCl(hW:∀ v∈W,0<=v/\v<=1000000)(h1:1<=W.length)(hl:W.length<=9) :
 runW aB 163 [hsA q W,.fn (.func 164) [] [.pt 0 0,.pt 1 0]] [hsX q W,fnX]=some (.fs (wr (wA q W W.length)),[hsX q W,fnX]):=by
 have e0:((W.length:Int)<(W.length:Int))=False:=AAb;have sl:=yE q W;have ch:=aOJ q W W.length;rw[qX 163 aSC rfl];unfold aSC hsA chB;dsimp only;sym =>
  simp[Za,Zb,Zd,Ze,Zf,Zh,Zl,Zm,Zo,Zv,Zz,Z8,ZA,ZG,ZW,Yf,Yi,Ym,Yn,Yo,Yu,Y8,YH,YP,YX,YZ,XI,XO,XW,XX,Wb,Wh,Wk,Wl,Wt,Wv,W3,W4,W5,W9,WL,WY,Vb,Ve,Vg,Vl,Vn,Vp,Vs,V5,V6,V7,V8,V9,VD,VF,VG,VH,VI,VJ,VK,VL,VN,VO,VQ,VV,VW,VX,VY,VZ,Ua,Ub,Uc,Ud,Ue,Uf,Ug,Ui,Uj,Un,Uo,Ut,Uu,Uv,Uw,U9,UA,UB,UC,UD,UM,UO,UR,US,UU,UV,UW,UX,UY,Tb,Tc,Td,Te,Tg,Th,Ti,Tj,Tl,Tm,Tn,Tp,Tr,Ts,Tt,Tu,Tv,Tw,Tx,Ty,Tz,T2,T3,T5,T8,TF,TI,TJ,TK,TL,TM,TN,TO,TP,TQ,TR,TS,TT,TZ,Sa,Sc,Sd,Se,Sf,Sn,Sp,Sq,Sr,Ss,Su,S3,S4,S5,S6,S7,S8,S9,SA,SC,SG,SN,SO,SP,SQ,SU,SV,SX,SY,SZ,Ra,Rb,Rc,Re,Rg,Ri,Rj,Rk,Rl,RZ,Qa,Qi,QQ,QS,QV,PI,PJ,PK,PL]
  tactic =>
   unfold aOd;rw[aG W.length (λi=>[.fn (.func 164) [] [.pt 0 0,.pt 1 0],aWJ i,I W.length,I (i:Nat)]) (λi=>aXy q W i)]
   .have l0:(W.length<=(wA q W W.length).length)=True:=AAn (by grind)
    rw[wW h1,xI h1];(exact vC e0 ch l0)
   .rfl
   .intro i hi
    have c:=bCk (q:=q) hW hl hi;have t1:((i:Int)<(W.length:Int))=True:=AAa;have a2:IntKind.i64.wrap ((i:Int)+1)=((i+1:Nat):Int):=by grind [aE]
    cases i with
    | zero =>
      have e1:(wA q W (0+1)).map I=[I (swg q W 0)]:=rfl;have z0:aWJ 0 = .nilsl:=rfl;have z1:aXy q W 0=[hsX q W,fnX]:=rfl;have t1:((0:Int)<(W.length:Int))=True:=t1;have c:runW aB 164 [I 0,.pt 0 0,.pt 1 0] [hsX q W,fnX]=some (I (swg q W 0),[hsX q W,fnX]):=c;rw[z0,z1,wW (aF4 0),xI (aF4 0),e1];(exact kJ t1 c)
    | succ i =>
      have e1:(wA q W (i+1+1)).map I=(wA q W (i+1)).map I++[I (swg q W (i+1))]:=by grind [aOI]
      have l1:=sl (i+1);have b1:((i+1+1)*8<=1099511627776)=True:=AAa;have b2:(i+1+1<=1099511627776)=True:=AAa;have p1:0<i+1:=AS
      have p2:0<i+1+1:=AS
      rw[wW p1,wW p2,xI p1,xI p2,e1];generalize wA q W (i+1)=Z at *;(exact iS t1 c a2 l1 b1 b2 aF)
   .rw[wW h1,xI h1]
    (exact cI e0)
theorem bCp(hq:1<=q/\q<=10000000)(hW:∀ v∈W,0<=v/\v<=1000000)(h1:1<=W.length)(hl:W.length<=9) :
 runW aB 139 [.agg [.sl 0 0 2 1],.fn (.func 140) [] []] [ab [I q,.sl 1 0 1 W.length],aa (W.map I)]=some (.tup [.fs (wr (wA q W W.length)),I 0],[none,none]):=by
 have c1:=bCm hq hW h1 hl;have c2:=bCl (q:=q) hW h1 hl;have ch:(W.map λv=>[AV.int .i64 v])=wr W:=rfl;unfold chA hsA chB at *;rw[qX 139 aSI rfl];unfold aSI;dsimp only;(exact vC c1 c2 ch)
theorem bCr(hq:1<=q/\q<=10000000)(hW:∀ v∈W,0<=v/\v<=1000000)(h1:1<=W.length)(hl:W.length<=9) :
 runW aB 117 [.agg [.sl 0 0 2 1]] [ab [I q,.sl 1 0 1 W.length],aa (W.map I)]=some (.tup [.fs (wr (wA q W W.length)),I 0],[none,none]):=by
 have c1:=bCp hq hW h1 hl;rw[qX 117 aSK rfl];unfold aSK;dsimp only;(exact cI c1)
end
end Go.Proofs.YtfcdcgplogojbaaGreatDoor
namespace Go.DL
theorem wZ{h:XH}{k:Nat}{acc:List Nat}:∀(n:Nat)(l:List Nat),(∀ b∈l,b<k\/b∈acc)->cW h k n l acc=acc
 | 0,_,_=>rfl
 | n+1,[],_=>rfl
 | n+1,b::r,h1=>by
   unfold cW;rw[if_pos (h1 b (by simp))];exact wZ n r λc hc=>h1 c (by simp[hc])
theorem aAZ{h k:XH}(cd:Cd h):∀ b∈(dF h.length (h++k)).flatMap nmO,b<h.length:=by
 rw[mY];intro b hb;obtain⟨x,hx,hb⟩:=O5.1 hb;exact cd x hx b hb
theorem aQH{h k:XH}{n c:Nat}{r:List Nat}{x:XB}(hn:h.length=n)(cd:Cd h){L:List Nat}{e:aJ}(hv:mI (L.map e)=c::n::r)(hc:c<n)(hr:∀ b∈r,b<n)(hx:hat (h++k) n=some x)(hx0:nmO (some x)=[]):bT n L (some (.normal,e,h++k))=some (L.map e,h++[some x]):=by
 subst hn;have hxb:nmB x=[]:=hx0;have h1:dH h.length (L.map e) (h++k)=[h.length]:=by
  unfold dH;have hf:=aAZ (k:=k) cd;rw[hv];generalize (dF h.length (h++k)).flatMap nmO=fl at hf;show cW (h++k) h.length 4096 (c::h.length::(r++fl)) []=_;rw[cW,if_pos (.inl hc),cW,if_neg (by simp),hx]
  grind [wZ]
 have hs:∀ b,b<=h.length->keepS h.length [h.length] b=some b:=λb hb=>by
  unfold keepS;by_cases hb2:b<h.length;·grind
  .have:b=h.length:=AS
   subst this;rw[if_neg hb2];simp[gH]
 rw[Rj];unfold aAt qB oF;rw[h1,mY,aHy cd]
 grind [jN,aHd]
theorem aQG{h k:XH}{n m c o z l:Nat}{r:List Nat}{y:XB}{q:AV}(hn:h.length=n)(cd:Cd h){L:List Nat}{e:aJ}(hv:mI (L.map e)=c::n::r)(hc:c<n)(hr:∀ b∈r,b<n)(hq:∃ i,q = .int .i64 i)(hx:hat (h++k) n=ab [q,.sl m o z l])(hm:n<m)(hy:hat (h++k) m=some y)(hy0:nmO (some y)=[]) :
 bT n L (some (.normal,e,h++k))=some (L.map e,h++[ab [q,.sl (n+1) o z l],some y]):=by
 obtain⟨i,rfl⟩:=hq;subst hn;have hyb:nmB y=[]:=hy0;have h1:dH h.length (L.map e) (h++k)=[h.length,m]:=by
  unfold dH;have hf:=aAZ (k:=k) cd;rw[hv];generalize (dF h.length (h++k)).flatMap nmO=fl at hf;show cW (h++k) h.length 4096 (c::h.length::(r++fl)) []=_;rw[cW,if_pos (.inl hc),cW,if_neg (by simp),hx];dsimp only;show cW (h++k) h.length 4094 (m::(r++fl)) [h.length]=_;rw[cW,if_neg (by simp;omega),hy]
  grind [wZ]
 have hs:∀ b,b<=h.length->keepS h.length [h.length,m] b=some b:=λb hb=>by
  unfold keepS;by_cases hb2:b<h.length;·grind
  .have:b=h.length:=AS
   subst this;rw[if_neg hb2];simp[gH]
 have hsm:keepS h.length [h.length,m] m=some (h.length+1):=by
  unfold keepS;rw[if_neg AS];have h2:¬m=h.length:=AS
  have h3:gH m [h.length,m]=some 1:=by simp[gH,h2]
  grind
 rw[Rj];unfold aAt qB oF;rw[h1,mY,aHy cd];rw[jN _ _ λb hb=>by
  grind]
 simp only[E7,aA8,hx,hy];rw[aHd _ (some y) λb hb=>by grind];congr 2;show h++[some (XB.blk false (.cells true (mR _ [.int .i64 i,.sl m o z l]))),_]=_;simp only[mR,rnA,hsm]
end Go.DL
namespace Go.Proofs.YtfcdcgplogojbaaGreatDoor
section
open Go Go.DL
theorem aUv{h k:XH}{n c:Nat}{r:List Nat}{x:XB}(hn:h.length=n)(cd:Cd h){L:List Nat}{q:Option (DX×aJ×XH)}{vs:List AV}(hq:uW L q=some (.normal,vs,h++k))(hv:mI vs=c::n::r)(hc:c<n)(hr:∀ b∈r,b<n)(hx:hat (h++k) n=some x)(hx0:nmO (some x)=[]):bT n L q=some (vs,h++[some x]):=by
 unfold uW at hq
 grind [Option.map_eq_some_iff,aQH]
theorem aMf{h k:XH}{n m c o z l:Nat}{r:List Nat}{y:XB}{a:AV}(hn:h.length=n)(cd:Cd h){L:List Nat}{q:Option (DX×aJ×XH)}{vs:List AV}(hq:uW L q=some (.normal,vs,h++k))(hv:mI vs=c::n::r)(hc:c<n)(hr:∀ b∈r,b<n)(ha:∃ i,a = .int .i64 i)(hx:hat (h++k) n=ab [a,.sl m o z l])(hm:n<m)(hy:hat (h++k) m=some y)(hy0:nmO (some y)=[]) :
 bT n L q=some (vs,h++[ab [a,.sl (n+1) o z l],some y]):=by
 unfold uW at hq
 grind [Option.map_eq_some_iff,aQG]
variable{h h' h1:XH}{L:CL}{s:CSt}{x:ByteArray}
def aM(s:CSt):List Int:=s.farmers.map λp=>lQ p.2 1000
def qH(s:CSt):Int:=lQ (aM s).sum 2+1
def mD(s:CSt)(x:ByteArray):Int:=match bR (s.farmers.map (·.1)) x with
 | some i=>swg (qH s) (aM s) i
 | none=>0
def atS(ix i:Nat):Int:=if ix<i then (ix:Int) else 0
def kS(n:Nat)(W:List Int):Nat->XH
 | 0=>[aa [I 0,.nilsl]]
 | i+1=>[ab [I 0,.sl (n+1) 0 1 (i+1)],aa ((W.take (i+1)).map I)]
theorem aHE{n i:Nat}{W:List Int}(hi:0<i):kS n W i=[ab [I 0,.sl (n+1) 0 1 i],aa ((W.take i).map I)]:=by
 cases i with
 | zero=>omega
 | succ i=>rfl
theorem wG(s:CSt):(aM s).length=s.farmers.length:=by simp[aM]
theorem aAB(gs:cY s):∀ v∈aM s,0<=v/\v<=30000:=by
 intro v hv;obtain⟨p,hp,rfl⟩:=F8.1 hv;have h1:=gs.fs p hp;have h2:=gs.bf p hp;have h3:=gs.book;have h0:0<=p.2:=by
  rw[h1];unfold oI;have:∀ l:List zH,(∀ k∈l,0<=k.net)->0<=(l.map λk=>if k.farmer=p.1/\k.void=false then k.net else 0).sum:=by
   intro l;induction l with
   | nil=>grind
   | cons k l ih =>
     grind
  exact this _ λk hk=>(gs.bt k hk).1
 unfold lQ
 grind
theorem aWA{l:List Int}{B:Int}(h:∀ v∈l,0<=v/\v<=B):0<=l.sum/\l.sum<=B*l.length:=by
 induction l with
 | nil=>simp
 | cons v r ih =>
   have h1:=h v (by simp);have h2:=ih λw hw=>h w (D8 v hw);rw[aB8,D7]
   grind
theorem aDi(gs:cY s)(i:Nat):0<=((aM s).take i).sum/\((aM s).take i).sum<=300000:=by
 have h1:=aWA (l:=(aM s).take i) (B:=30000) λv hv=>aAB gs v (aA5 hv);have h2:((aM s).take i).length<=9:=by
  rw[aF1,wG];have:=gs.lf;omega
 omega
theorem w98(ly:Lays h L s)(gs:cY s)(cd:Cd h){ix:Nat}(hx:bR (s.farmers.map (·.1)) x=some ix):∃ K,runW aB 75 [.pt L.c 0,.str x] h=some (I (mD s x),h++K):=by
 obtain⟨n,hn⟩:∃ n,h.length=n:=⟨_,rfl⟩;obtain⟨g,hc⟩:=aC ly.hc;unfold cL at hc;have lc:L.c<n:=by rw[<-hn];exact aI ly.hc
 have cn:(L.c<n)=True:=AAn lc;have hix:ix<s.farmers.length:=by
  have:=(B6.1 (dG hx)).1
  grind
 have hk:0<s.farmers.length:=AS
 have hk9:=gs.lf;obtain⟨gw,hwo⟩:=ly.f.ho;rw[B8,fD hk]at hwo;obtain⟨gb,hfb⟩:=ly.f.hb (by grind);have lo:L.f.o<n:=by rw[<-hn];exact ly.f.lts.1
 have lb:L.f.b<n:=by rw[<-hn];exact ly.f.lts.2.2.1 (by grind)
 have won:(L.f.o<n)=True:=AAn lo;have wbn:(L.f.b<n)=True:=AAn lb;obtain⟨e0,v0,_,_,_,call0⟩:=ly.f.getf hx;have hWl:=wG s;have bd:=aDi gs;have klt:((s.farmers.length:Int)<(s.farmers.length:Int))=False:=AAb;have fin:((aM s).take s.farmers.length).sum=(aM s).sum:=by grind
 have fin2:(aM s).take s.farmers.length=aM s:=by grind
 have nm:∀ i:Nat,mI [.pt L.c 0,.str x,.pt n 0,I (atS ix i),I ((aM s).take i).sum,.sl L.f.b 0 1 s.farmers.length,I s.farmers.length,I (i:Nat)]=L.c::n::[L.f.b]:=λi=>rfl;have hr:∀ b∈[L.f.b],b<n:=λb hb=>by grind
 refine⟨[ab [I (qH s),.sl (n+1) 0 1 s.farmers.length],none,none],?_⟩;rw[qY 75 x75 rfl,hn];unfold x75;dsimp only;sym =>
  simp[cN,cO,eZ,Za,Zb,Zc,Zf,Zh,Zl,Zm,Zv,Zw,Z0,Z9,ZG,ZS,ZW,Ya,Yb,Yf,Yi,Yn,Yu,Yx,Xw,Xz,Wh,Wp,Vd,Vi,Vs,V5,V6,V7,V8,V9,VF,VG,VH,VI,Tg,Tr,Ts,Tt,Tv,Tw,Tz,T2,T8,TF,TS,TT,TZ,Sa,Sc,Sd,SA,SC,SG,SI,SJ,SX,Rb,Rc,Rk,Rl,PH,PJ,PL,PR,PS,PV,PX,hn,hc,cn,hwo,won,call0]
  tactic =>
   unfold aVf;rw[aG s.farmers.length (λi=>[.pt L.c 0,.str x,.pt n 0,I (atS ix i),I ((aM s).take i).sum,.sl L.f.b 0 1 s.farmers.length,I s.farmers.length,I (i:Nat)]) (λi=>h++kS n (aM s) i)]
   .rw[aHE hk,fin2]
    have q0:qH s=lQ (aM s).sum 2+1:=rfl;have b0:=bd s.farmers.length;rw[fin]at b0;have td:0<=lQ (aM s).sum 2/\lQ (aM s).sum 2<=300000:=by
     unfold lQ
     grind
    have a1:IntKind.i64.wrap (lQ (aM s).sum 2)=lQ (aM s).sum 2:=aE AS AS;have a2:IntKind.i64.wrap (lQ (aM s).sum 2+1)=qH s:=by grind [aE]
    have c137:=bCr (q:=qH s) (W:=aM s) AS (λv hv=>by have:=aAB gs v hv;omega) AS AS;rw[hWl]at c137;have hat1:atS ix s.farmers.length=(ix:Int):=by unfold atS;omega
    have sl:=yE (qH s) (aM s) s.farmers.length;have wl:=qT (wA (qH s) (aM s) s.farmers.length);rw[sl]at wl;have sg:(wA (qH s) (aM s) s.farmers.length)[ix]?=some (swg (qH s) (aM s) ix):=by
     unfold wA
     grind
    have wg:=aFA sg;have pw:mD s x=swg (qH s) (aM s) ix:=by unfold mD;rw[hx]
    have ixn:((ix:Int)<(s.farmers.length:Int))=True:=AAa;have m1:(n+1=n+2)=False:=AAb;have m2:(n+2=n+1)=False:=AAb;have m3:(n+1<0)=False:=AAb;have m4:(n+2<0)=False:=AAb;rw[hat1,pw];(exact eK hn klt a1 a2 c137 wl wg ixn m1 @m2 m3 m4 aF)
   .exact aUv hn cd (k:=[aa [I 0,.nilsl]]) rfl (nm 0) lc hr (by rw[cX,if_neg AS,hn,N8];rfl) rfl
   .intro i hi
    obtain⟨⟨q,y⟩,hq⟩:∃ p,s.farmers[i]?=some p:=⟨_,B7 hi⟩;have hqk:(s.farmers.map (·.1))[i]?=some q:=by grind
    have hxq:=aBK gs.nf hqk;obtain⟨e,v,he,hv,hev,_⟩:=ly.f.getf hxq;obtain⟨e',v',he',_,_,call⟩:=(ly.ext (kS n (aM s) i)).f.getf hxq;rw[he]at he';cases he';rw[C3,hq]at hv;cases hv;have hev:aH h e=some (.cells true [I y]):=hev;have en:(e<n)=True:=AAn (by rw[<-hn];exact aI hev);obtain⟨ge,hee⟩:=aC hev;have t1:((i:Int)<(s.farmers.length:Int))=True:=AAa;have hWi:(aM s)[i]?=some (lQ y 1000):=by unfold aM;grind
    have tb:=aAB gs _ (B3 hWi);have hs1:((aM s).take (i+1)).sum=((aM s).take i).sum+lQ y 1000:=by
     grind [List.take_add_one]
    have b1:=bd (i+1);rw[hs1]at b1;have a1:IntKind.i64.wrap (lQ y 1000)=lQ y 1000:=aE AS AS;have a2:IntKind.i64.wrap (((aM s).take i).sum+lQ y 1000)=((aM s).take i).sum+lQ y 1000:=aE AS AS;have a3:IntKind.i64.wrap ((i:Int)+1)=((i+1:Nat):Int):=by grind [aE]
    have ht1:((aM s).take (i+1)).map I=((aM s).take i).map I++[I (lQ y 1000)]:=by
     grind [List.take_add_one]
    have mq1:Option.map Prod.fst (some (q,y))=some q:=rfl;have mq2:Option.map AV.str (some q)=some (.str q):=rfl;have key:(aN .eql q x=some (.bool true)/\atS ix (i+1)=(i:Int))\/(aN .eql q x=some (.bool false)/\atS ix (i+1)=atS ix i):=by
     by_cases hqx:q=x
     .refine .inl ⟨by grind [jH],?_⟩
      rw[hqx,hx]at hxq;cases hxq;unfold atS;omega
     .refine .inr ⟨by grind [jH],?_⟩
      have hne:ix≠i:=λq1=>by
       subst q1;have h2:=dG hx
       grind
      unfold atS;omega
    rw[aHE (Nat.zero_lt_succ i)];cases i with
    | zero =>
      have e1:((aM s).take (0+1)).map I=[I (lQ y 1000)]:=by grind
      rw[e1];refine aMf hn cd (k:=[ab [I 0,.sl (n+2) 0 1 1],aa [I (lQ y 1000)],aa [I (lQ y 1000)]]) ?_ (nm (0+1)) lc hr ⟨0,rfl⟩ (by rw[cX,if_neg AS,hn,N8];rfl) AS (by rw[cX,if_neg AS,show n+2-h.length=2 by omega];rfl) rfl;have t1:((0:Int)<(s.farmers.length:Int))=True:=t1;have s0:((aM s).take 0).sum=0:=rfl;rw[hs1,s0];rw[s0]at a2 b1;have a2:IntKind.i64.wrap (0+lQ y 1000)=0+lQ y 1000:=a2;have k0:kS n (aM s) 0=[aa [I 0,.nilsl]]:=rfl;rw[k0]at call ⊢;have z1:atS ix 0=0:=by rfl
      rcases key with ⟨k1,k2⟩|⟨k1,k2⟩
      .rw[k2,z1]
       (exact eD hn t1 hfb hq mq1 mq2 hc hwo call hee a1 a2 k1 cn won wbn en aF aF aF)
      .rw[k2,z1]
       (exact eD hn t1 hfb hq mq1 mq2 hc hwo call hee a1 a2 k1 cn won wbn en aF aF aF)
    | succ i =>
      have pi:0<i+1:=AS
      rw[ht1,hs1];rw[aHE pi]at call ⊢;refine aMf hn cd (k:=[ab [I 0,.sl (n+3) 0 1 (i+1+1)],none,aa [I (lQ y 1000)],aa (((aM s).take (i+1)).map I++[I (lQ y 1000)])]) ?_ (by rfl) lc hr ⟨0,rfl⟩ (by rw[cX,if_neg AS,hn,N8];rfl) AS (by rw[cX,if_neg AS,show n+3-h.length=3 by omega];rfl) rfl;have tl:((aM s).take (i+1)).length=i+1:=by grind
      have b2:((i+1+1)*8<=1099511627776)=True:=AAa;have b3:(i+1+1<=1099511627776)=True:=AAa;generalize ((aM s).take (i+1)).sum=S0 at *;generalize (aM s).take (i+1)=W0 at *;rcases key with ⟨k1,k2⟩|⟨k1,k2⟩
      .rw[k2]
       (exact iW hn t1 hfb hq mq1 mq2 hc hwo call hee a1 a2 a3 k1 cn won wbn en tl b2 b3 aF aF aF aF aF)
      .rw[k2]
       (exact iW hn t1 hfb hq mq1 mq2 hc hwo call hee a1 a2 a3 k1 cn won wbn en tl b2 b3 aF aF aF aF aF)
   .rw[aHE hk]
    (exact kJ hn klt)
theorem aOG{q:Int}{W:List Int}{i:Nat}(h:W.length<=9):0<=swg q W i/\swg q W i<=1000:=by
 have p2:2^W.length<=2^9:=G4 AS h
 grind [aJO,swg]
theorem aWZ(gs:cY s) : -1000000<=mD s x/\mD s x<=1000000:=by
 unfold mD;split
 .have:=aOG (q:=qH s) (W:=aM s) (i:=by assumption) (by rw[wG];exact gs.lf)
  omega
 .omega
theorem aUh(h k:XH):Frz h.length h (h++k):=λj c hc _=>by
 rw[fZ,if_pos (aI hc)];exact hc
theorem c98(ly:Lays h L s)(hx:bR (s.farmers.map (·.1)) x=none):CalP Tryz.prog aB 75 [.pt L.c 0,.str x] h (.ifc 48 (.agg [I 5])) h:=by
 obtain⟨n,hn⟩:∃ n,h.length=n:=⟨_,rfl⟩;obtain⟨g,hc⟩:=aC ly.hc;unfold cL at hc;have cn:(L.c<n)=True:=AAn (by rw[<-hn];exact aI ly.hc);have call:=ly.f.nonef hx;refine CalP.of (d:=x75) (e':=aY [] []) aA rfl (by simp[x75]) rfl ?_;unfold x75;dsimp only;refine PanX.seqR (K:=75) aA rfl [0,1] (vs:=[.pt L.c 0,.str x]) (h1:=h) (by (exact RT0)) ?_;refine PanX.seqL ?_;exact PanX.reg (p:=[⟨0,some 13,.mv (.t 0),none⟩,⟨0,some 14,.nilck (.t 13),none⟩,⟨0,some 15,.fld 0 (.t 14),none⟩,⟨0,some 16,.load false 1 (.t 15),none⟩,⟨0,some 17,.mv (.t 1),none⟩]) (post:=[]) aA [] (g:=72) (first:=[]) (cap:=[]) (args:=[.pt L.f.o 0,.str x]) (vs:=[]) (h1:=h) rfl rfl (by (exact vC hn hc cn)) call
theorem aWY:aMp mD:=by
 intro h L s x ly gs;cases hv:dW s.farmers x with
 | none=>exact⟨h,c98 ly (cQ.1 hv),(Fr.refl [] h).frz⟩
 | some v =>
   obtain⟨i,hi,_⟩:=eT hv;refine⟨aWZ gs,λcd=>?_⟩
   grind [w98,aUh]
end
section
open Go Go.DL Go.Proofs.Tryz
theorem aIF{D:Nat->Option XFn}{K:Nat}{f:List AV->XH->Option (AV×XH)}(hf:∀ xs h v h',f xs h=some (v,h')->h=[]/\h'=[]/\lE xs=true/\Gd v/\runW aB K xs []=some (v,[])):iB D K f:=by
 intro B Y r h H xs ys v h' sh hr hx;obtain⟨rfl,rfl,gx,gv,hrun⟩:=hf _ _ _ _ hx;obtain⟨rfl,gxs⟩:=hr.same gx;have rno:∀ b c,r b=some c->False:=λb c hb=>by have:=sh.dom b c hb;simp at this
 have sh0:∀(D':Nat->Option XFn)(Y':Nat->Option YI)(r':Nat->Option Nat)(H':Hp),(∀ b c,r' b=some c->False)->SH D' Y' r' [] H':=λD' Y' r' H' hn=>⟨λb c hb=>(hn b c hb).elim,λb c c' x y hx=>by simp[hat]at hx,λb x hx=>by simp[hat]at hx,GhR.no λb st p hx=>by simp[hat]at hx⟩;have fw:=(aAR aA B (λ_=>none) (λl i h=>by simp at h)).1 (λ_=>none) [] H K ys ys v [] (sh0 _ _ _ _ λb c hb=>by cases hb) ⟨rfl,λi a b ha hb=>by rw[ha]at hb;cases hb;exact(gxs a (B3 ha)).rn⟩ hrun;have cv:CallV B Tryz.prog (.fn (.func K) [] []) ys H (fO aB (λ_=>none) (λ_=>none) v []):=by
  have hn:[]++ys++[]=ys:=by simp
  rw[<-hn]at fw;exact fw
 have goal:CallV B Tryz.prog (.fn (.func K) [] []) ys H (fO D Y r v []):=CallV.mono cv λv' H' hq=>by
  obtain⟨r3,ha,sh3,hv⟩:=hq;obtain⟨rfl,_⟩:=hv.same gv.gr;exact⟨r,λb c hb=>hb,sh0 _ _ _ _ rno,gv.rn⟩
 have hn:ys=[]++ys++[]:=by simp
 rw[hn];exact goal
theorem bBh(l:List ByteArray):Gd (.fs (rS l)):=.fs _ λr hr c hc=>by
 unfold rS at hr;obtain⟨s,_,rfl⟩:=F8.1 hr;rw[D2.1 hc];exact .str s
theorem aVQ{a:AV}(ha:Gd a)(x y:Int):Gd (.tup [a,I x,I y]):=.tup _ λc hc=>by
 simp only[C4,H6,AAh]at hc;rcases hc with rfl|rfl|rfl;·exact ha
 .exact .int _ _
 .exact .int _ _
theorem aJe(e:Int):Gd (vY e):=aVQ (.fs _ λ_ h=>by cases h) _ _
theorem aVR(s:ByteArray)(row:Int):Gd (mnV s row):=by
 unfold mnV;split
 .split
  .exact aJe _
  .split
   .exact aJe _
   .unfold lL
    repeat' split
    all_goals first|exact aJe _|(unfold xB;split<;>first|exact aJe _|exact aVQ (bBh _) _ _)
 .exact aJe _
def aHk:List AV->XH->Option (AV×XH):=λxs h=>match xs,h with
 | [.str s,.int .i64 row],[]=>if s.size<=1000000 then some (mnV s row,[]) else none
 | _,_=>none
theorem aZx{D:Nat->Option XFn}:iB D 14 aHk:=aIF λxs h v h' hx=>by
 unfold aHk at hx;split at hx
 .split at hx
  .rename_i hs
   cases hx;exact⟨rfl,rfl,rfl,aVR _ _,w16 hs⟩
  .cases hx
 .cases hx
noncomputable def pmRun(K:Nat)(xs:List AV)(h:XH):Option (AV×XH) :=
 open Classical in if h=[]/\lE xs=true/\∃ v,Gd v/\runW aB K xs []=some (v,[]) then runW aB K xs [] else none
theorem aHi{D:Nat->Option XFn}{K:Nat}:iB D K (pmRun K):=aIF λxs h v h' hx=>by
 unfold pmRun at hx;split at hx
 .rename_i hc
  obtain⟨c1,c2,w,gw,c3⟩:=hc;rw[c3]at hx;cases hx;exact⟨c1,rfl,c2,gw,c3⟩
 .cases hx
theorem aHb{K:Nat}{xs:List AV}{v:AV}(hx:lE xs=true)(gv:Gd v)(h:runW aB K xs []=some (v,[])):pmRun K xs []=some (v,[]):=by
 unfold pmRun;rw[if_pos ⟨rfl,hx,v,gv,h⟩];exact h
noncomputable def sayA(s:CSt)(line:ByteArray):ByteArray×CSt:=qZ mD s line (rd line)
noncomputable def progG(K:Nat):Option XFn:=match K with
 | 14=>some (iO aHk)
 | 16=>some (iO aLw)
 | 8=>some (iO (pmSayN mD rd))
 | 10=>some (iO pmSave)
 | 20=>some (iO (pmRun 20))
 | 4=>some (iO (pmRun 4))
 | 39=>some (iO (pmRun 39))
 | 80=>some (iO (pmRun 80))
 | K=>aB K
theorem aPV:XOk prog progG:=by
 refine XOk.over progX_ok λK d hd=>?_;unfold progG at hd;split at hd;·cases hd;exact .inr ⟨_,_,rfl,aZx⟩
 .cases hd;exact .inr ⟨_,_,rfl,aZw⟩
 .cases hd;exact .inr ⟨_,_,rfl,aWT (aZv aWY aZq)⟩
 .cases hd;exact .inr ⟨_,_,rfl,aZu⟩
 .cases hd;exact .inr ⟨_,_,rfl,aHi⟩
 .cases hd;exact .inr ⟨_,_,rfl,aHi⟩
 .cases hd;exact .inr ⟨_,_,rfl,aHi⟩
 .cases hd;exact .inr ⟨_,_,rfl,aHi⟩
 .unfold aB at hd
  split at hd;·cases hd;exact .inr ⟨_,_,rfl,aVD⟩
  .unfold aPU at hd
   split at hd;·cases hd;exact .inr ⟨_,_,rfl,aVL⟩
   .cases hd;exact .inr ⟨_,_,rfl,aVK⟩
   .cases hd;exact .inr ⟨_,_,rfl,aVJ⟩
   .cases hd;exact .inr ⟨_,_,rfl,aVI⟩
   .cases hd;exact .inr ⟨_,_,rfl,aVH⟩
   .cases hd;exact .inr ⟨_,_,rfl,aVG⟩
   .cases hd;exact .inr ⟨_,_,rfl,aVF⟩
   .cases hd;exact .inr ⟨_,_,rfl,aVE⟩
   .cases hd;exact .inr ⟨_,_,rfl,aVC⟩
   .cases hd;exact .inr ⟨_,_,rfl,aPX⟩
   .cases hd;exact .inr ⟨_,_,rfl,aPW⟩
   .cases hd;exact .inr ⟨_,_,rfl,aVB⟩
   .exact .inl ⟨hd,aWS hd⟩
noncomputable abbrev gK(s:CSt):Option XB:=some (.gh s (IsClk s))
theorem g21(s:CSt)(line:ByteArray):runW progG 8 [.pt 0 0,.str line] [gK s]=some (.str (sayA s line).1,[gK (sayA s line).2]):=by
 rw[cM (d:=iO (pmSayN mD rd)) rfl rfl];exact if_pos rfl
theorem g23(s:CSt):runW progG 10 [.pt 0 0] [gK s]=some (.str (kA s.book),[gK s]):=by
 rw[cM (d:=iO pmSave) rfl rfl];exact if_pos rfl
theorem bEU(line:ByteArray):runW progG 8 [.nilpt,.str line] []=some (.str (wC 9),[]):=by
 rw[cM (d:=iO (pmSayN mD rd)) rfl rfl];rfl
theorem bET:runW progG 10 [.nilpt] []=some (.str ⟨⟨[]⟩⟩,[]):=by
 rw[cM (d:=iO pmSave) rfl rfl];rfl
theorem g19:runW progG 16 [] []=some (.pt 0 0,[gK dP]):=by
 rw[cM (d:=iO aLw) rfl rfl];rfl
theorem g16{s:ByteArray}{row:Int}(hs:s.size<=1000000):runW progG 14 [.str s,I row] []=some (mnV s row,[]):=by
 rw[cM (d:=iO aHk) rfl rfl];exact if_pos hs
end
section
open Go Go.DL
section
theorem rq(K:Nat)(d:XFn)(hd:progG K=some d){vs:List AV}{h:XH}(hl:vs.length<=d.N:=by exact aB6 rfl)(hdf:d.dfr=none:=by rfl)(hpr:d.prm=none:=by rfl)(hg:lU K=false:=by rfl) :
 runW progG K vs h=eY none d.res d.ownR h.length (execW progG K h.length none d.body (aX (if d.ownA then vs else kI vs)) h):=cJ hd hl h hdf hpr hg
theorem bBu(s:ByteArray)(hs:s.size<=1000):runW progG 80 [.str s] []=some (.bool (aZ s),[]):=(cM (d:=iO (pmRun 80)) rfl rfl _ _).trans (aHb rfl (.bool _) (bCy AS))
theorem a39(n lo hi:Int):runW progG 54 [I n,I lo,I hi] []=some (.bool (decide (lo<=n)&&decide (n<=hi)),[]):=by
 rw[rq 54 x54 rfl];unfold x54;dsimp only;rcases mC (lo<=n)with h1|h1
 .have d1:decide (lo<=n)=true:=by simp[h1]
  rw[d1,J2];(exact cI h1)
 .have d1:decide (lo<=n)=false:=by simp[h1]
  rw[d1,N4];(exact cI h1)
theorem ru8{c:Nat}(h:c<256):IntKind.u8.wrap (c:Int)=(c:Int)/\Option.map (λl=>AV.str { data:={ toList:=l } }) (iL [.int .u8 (c:Int)])=some (.str ⟨⟨[UInt8.ofNat c]⟩⟩):=by
 refine⟨by simp[IntKind.wrap,IntKind.bits,IntKind.signed];omega,?_⟩;rfl
theorem rap(a b:List UInt8):(⟨⟨a⟩⟩:ByteArray)++⟨⟨b⟩⟩=⟨⟨a++b⟩⟩:=by
 rfl
theorem a100:∀(f n:Nat),f<=15->n<10^(f+1)->(Lib.decDigits n).length<=f+1/\runW progG 77 [I (n:Nat)] []=some (.str ⟨⟨Lib.decDigits n⟩⟩,[]):=by
 intro f;induction f with
 | zero =>
   intro n _ hn;have q2:tmZ (n:Int) 10=((n%10:Nat):Int):=iT n 10;obtain⟨a2,a3⟩:=ru8 (c:=48+n) AS;have a1:IntKind.i64.wrap (48+(n:Int))=((48+n:Nat):Int):=by grind [aE]
   have t1:((n:Int)<10)=True:=AAa;rw[show n%10=n by omega]at q2;rw[Lib.decDigits,AAq AS];refine⟨by simp,?_⟩;rw[rq 77 x77 rfl];unfold x77;dsimp only;(exact qR q2 a1 a2 a3 t1)
 | succ f ih =>
   intro n hf hn;by_cases h10:n<10;·grind
   obtain⟨l1,c1⟩:=ih (n/10) AS AS;have q2:tmZ (n:Int) 10=((n%10:Nat):Int):=iT n 10;have q1:lQ (n:Int) 10=((n/10:Nat):Int):=zY n 10;have big:(10:Nat)^(f+1+1)<=10^16:=G4 AS AS;have q3:IntKind.i64.wrap ((n/10:Nat):Int)=((n/10:Nat):Int):=aE AS AS;obtain⟨a2,a3⟩:=ru8 (c:=48+n%10) AS;have a1:IntKind.i64.wrap (48+((n%10:Nat):Int))=((48+n%10:Nat):Int):=by grind [aE]
   have t1:((n:Int)<10)=False:=AAb;have e:Lib.decDigits n=Lib.decDigits (n/10)++[UInt8.ofNat (48+n%10)]:=by
    conv=>lhs;rw[Lib.decDigits]
    grind
   have sa:=eA (a:=⟨⟨Lib.decDigits (n/10)⟩⟩) (b:=⟨⟨[UInt8.ofNat (48+n%10)]⟩⟩) (by grind [aCh]);rw[rap]at sa;rw[e];refine⟨by grind,?_⟩;rw[rq 77 x77 rfl];unfold x77;dsimp only;(exact kN q1 q2 q3 a1 a2 a3 t1 c1 sa)
theorem rdg{v:Int}(h0:0<=v)(h1:v<1000000000000):runW progG 77 [I v] []=some (.str ⟨⟨Lib.itoa v⟩⟩,[]):=by
 obtain⟨n,rfl⟩:=M7 h0;rw[show Lib.itoa ((n:Nat):Int)=Lib.decDigits n by rfl];exact(a100 14 n AS AS).2
theorem a63{e:Int}(h0:0<=e)(h1:e<100):runW progG 29 [I e] []=some (.str (wC e),[]):=by
 have c:=rdg h0 AS;have l:(Lib.itoa e).length<=3:=by
  obtain⟨n,rfl⟩:=M7 h0;rw[show Lib.itoa ((n:Nat):Int)=Lib.decDigits n by rfl];exact(a100 2 n AS AS).1
 have sa:=eA (a:=AAF) (b:=⟨⟨Lib.itoa e⟩⟩) (by grind [aCh]);have sa:aN .add AAF ⟨⟨Lib.itoa e⟩⟩=some (.str (wC e)):=sa;generalize wC e=z at *;generalize (⟨⟨Lib.itoa e⟩⟩:ByteArray)=y at *;rw[rq 29 x29 rfl];unfold x29;dsimp only;(exact kJ c sa)
end
def spS(s:ByteArray)(i:Nat):ByteArray:=kZ (bN s++List.replicate i 32)
theorem uE(l:List Nat):(kZ l).size=l.length:=by
 show (l.map UInt8.ofNat).length=l.length;simp
theorem aOQ(s:ByteArray)(i:Nat):(spS s i).size=s.size+i:=by
 grind [uE,mN,spS]
theorem aZc(s:ByteArray):spS s 0=s:=by grind [aHt,spS]
theorem aZb(s:ByteArray)(i:Nat):spS s i++⟨#[32]⟩=spS s (i+1):=by
 have:(⟨#[32]⟩:ByteArray)=kZ [32]:=rfl
 grind [aLG,List.replicate_succ',spS]
theorem aTe{s:ByteArray}(h:s.size<=40):spS s (40-s.size)=kZ (newF (bN s)):=by
 grind [mN,List.take_of_length_le,spS,newF]
theorem w78{s:ByteArray}(hs:s.size<=40):runW aB 95 [.str s] []=some (.str (kZ (newF (bN s))),[]):=by
 rw[q78 (by simp)];unfold x95;dsimp only;have hz:=aOQ s;have e:=aTe hs;sym =>
  simp[cN,cO,eZ,Zb,Zf,Zh,Zl,Zv,Vd,Tr,T2,TZ,Sa,SX,Rb,Rc,Rl,e]
  tactic =>
   unfold aVc;rw[aG (40-s.size) (λi=>[.str (spS s i)]) (λ_=>[])]
   .have z:=hz (40-s.size)
    have i1:(((spS s (40-s.size)).size:Int)<40)=False:=AAb;rw[e]at i1;(exact kJ i1 @e)
   .have z:=aZc s
    (exact cI z)
   .intro i hi
    have z:=hz i;have i1:(((spS s i).size:Int)<40)=True:=AAa;have a:=eA (a:=spS s i) (b:=⟨#[32]⟩) (by rw[z];show s.size+i+1<=_;omega);rw[aZb]at a;(exact kJ i1 a)
   .have z:=hz (40-s.size)
    have i1:(((spS s (40-s.size)).size:Int)<40)=False:=AAb;(exact cI i1)
theorem aKM{x:Nat}(h:okB x=true):iM x=x-32/\32<=x/\x<=126:=by
 grind [iM,okB]
theorem aHj{f:List Nat}(h:prL f=true){i x:Nat}(hx:f[i]?=some x):okB x=true:=by
 grind [okB,prL]
theorem aUu{d:Nat}(h:d<=200):IntKind.u8.wrap ((48+d:Nat):Int)=((48+d:Nat):Int):=by simp[IntKind.wrap,IntKind.bits,IntKind.signed];omega
theorem aTw{s:ByteArray}{c:Nat}:(⟨⟨([48+c/1000,48+c/100%10,48+c/10%10,48+c%10]:List Nat).map UInt8.ofNat⟩⟩++s)++⟨#[10]⟩=kZ (xU c++(bN s++[10])):=by
 have h1:(⟨#[10]⟩:ByteArray)=kZ [10]:=rfl;have h2:(⟨⟨([48+c/1000,48+c/100%10,48+c/10%10,48+c%10]:List Nat).map UInt8.ofNat⟩⟩:ByteArray)=kZ (xU c):=rfl
 grind [aHt,aLG]
theorem w79{s:ByteArray}{row:Nat}(hs:s.size=40)(hp:prL (bN s)=true)(hr:row<=1000000):runW aB 96 [.str s,I (row:Int)] []=some (.str (kZ (qG row (bN s))),[]):=by
 rw[q79 (by simp)];unfold x96;dsimp only;have e0:((40:Int)<40)=False:=AAb;have bl:=mN s;sym =>
  simp[cN,cO,eZ,Za,Zb,Zf,Zh,Zl,Zv,Vb,Vd,VH,Tg,Tr,T2,TZ,Sa,SX,Rb,Rc,Rk,Rl,e0]
  tactic =>
   unfold aVb;rw[aG 40 (λi=>[.str s,I (qI row (bN s) i:Nat),I (i:Nat)]) (λ_=>[])]
   .have hc:qI row (bN s) 40%9973=chk row (bN s):=aRM AS
    have hc':chk row (bN s)<9973:=aXP _ _;have hR:qG row (bN s)=xU (chk row (bN s))++(bN s++[10]):=rfl;have t0:tmZ (qI row (bN s) 40:Int) 9973=_:=iT (qI row (bN s) 40) 9973;rw[hc]at t0;rw[hR];generalize chk row (bN s)=c at *;have t1:lQ ((c:Nat):Int) 1000=_:=zY c 1000;have t2:lQ ((c:Nat):Int) 100=_:=zY c 100;have t3:lQ ((c:Nat):Int) 10=_:=zY c 10;have t4:tmZ ((c/100:Nat):Int) 10=_:=iT (c/100) 10;have t5:tmZ ((c/10:Nat):Int) 10=_:=iT (c/10) 10;have t6:tmZ ((c:Nat):Int) 10=_:=iT c 10;have v1:IntKind.i64.wrap ((c/1000:Nat):Int)=((c/1000:Nat):Int):=aE AS AS;have v2:IntKind.i64.wrap ((c/100:Nat):Int)=((c/100:Nat):Int):=aE AS AS;have v3:IntKind.i64.wrap ((c/10:Nat):Int)=((c/10:Nat):Int):=aE AS AS;have u1:IntKind.i64.wrap (48+((c/1000:Nat):Int))=((48+c/1000:Nat):Int):=by grind [aE]
    have u2:IntKind.i64.wrap (48+((c/100%10:Nat):Int))=((48+c/100%10:Nat):Int):=by grind [aE]
    have u3:IntKind.i64.wrap (48+((c/10%10:Nat):Int))=((48+c/10%10:Nat):Int):=by grind [aE]
    have u4:IntKind.i64.wrap (48+((c%10:Nat):Int))=((48+c%10:Nat):Int):=by grind [aE]
    have b1:=aUu (d:=c/1000) AS;have b2:=aUu (d:=c/100%10) AS;have b3:=aUu (d:=c/10%10) AS;have b4:=aUu (d:=c%10) AS;have hb:=tL (f:=[48+c/1000,48+c/100%10,48+c/10%10,48+c%10]);have hE:=aTw (s:=s) (c:=c);have hz:(⟨⟨([48+c/1000,48+c/100%10,48+c/10%10,48+c%10]:List Nat).map UInt8.ofNat⟩⟩:ByteArray).size=4:=rfl;unfold bV at hb;simp only[E7,aA8]at hb hE hz;generalize 48+c/1000=d1 at *;generalize 48+c/100%10=d2 at *;generalize 48+c/10%10=d3 at *;generalize 48+c%10=d4 at *;have a1:=eA (a:=⟨⟨[UInt8.ofNat d1,UInt8.ofNat d2,UInt8.ofNat d3,UInt8.ofNat d4]⟩⟩) (b:=s) AS;have a2:=eA (a:=(⟨⟨[UInt8.ofNat d1,UInt8.ofNat d2,UInt8.ofNat d3,UInt8.ofNat d4]⟩⟩:ByteArray)++s) (b:=⟨#[10]⟩) (by rw[J0,hz,hs];decide);rw[hE]at a2;generalize kZ (xU c++(bN s++[10]))=R at *;generalize (⟨⟨[UInt8.ofNat d1,UInt8.ofNat d2,UInt8.ofNat d3,UInt8.ofNat d4]⟩⟩:ByteArray)++s=T at *;(exact iW e0 t0 t1 t2 t3 t4 t5 t6 v1 v2 v3 u1 u2 u3 u4 b1 b2 b3 b4 hb a1 a2 aF aF aF aF)
   .rfl
   .intro i hi
    obtain⟨x,x1,x2,x3⟩:=aBy (s:=s) (i:=i) AS;obtain⟨y1,y2,y3⟩:=aKM (aHj hp x1);have hA:=aVW (row:=row) x1;have hle:=aRL (row:=row) (f:=bN s) AS i;have i1:((i:Int)<40)=True:=AAa;have i2:((i:Int)<(s.size:Int))=True:=AAa;have a2:=cV (n:=40) (i:=i) AS AS;have c1:IntKind.i64.wrap (x:Int)=(x:Int):=aE AS AS;have c2:IntKind.i64.wrap ((x:Int)-32)=(iM x:Int):=by grind [aE]
    have hm:(i+1)*iM x<=40*94:=O6 AS AS;have c3:IntKind.i64.wrap (((i:Int)+1)*(iM x:Int))=(((i+1)*iM x:Nat):Int):=by
     grind [aE]
    have c4:IntKind.i64.wrap ((qI row (bN s) i:Int)+(((i+1)*iM x:Nat):Int))=(qI row (bN s) (i+1):Int):=by
     grind [aE]
    generalize (i+1)*iM x=P at *;generalize qI row (bN s) (i+1)=A1 at *;generalize qI row (bN s) i=A0 at *;generalize iM x=cx at *;(exact kN i1 i2 a2 x3 c1 c2 c3 c4 aF)
   ·(exact cI e0)
theorem q51{vs:List AV}{h:XH}(hl:vs.length<=20):runW aB 58 vs h=eY none x58.res x58.ownR h.length (execW aB 58 h.length none x58.body (aX (if x58.ownA then vs else kI vs)) h):=cJ rfl hl h rfl
theorem q48{vs:List AV}{h:XH}(hl:vs.length<=17):runW aB 55 vs h=eY none x55.res x55.ownR h.length (execW aB 55 h.length none x55.body (aX (if x55.ownA then vs else kI vs)) h):=cJ rfl hl h rfl
theorem w51{s:ByteArray}(hs:s.size<=1000000):runW aB 58 [.str s] []=some (.str (lnB (bN s)),[]):=by
 rw[q51 (by simp)];unfold x58;dsimp only;obtain⟨m,m1,m2,m3⟩:=gW (λi=>decide ((bN s).getD (s.size-1-i) 0=32)) s.size;have bl:=mN s;have at0:∀ i,i<s.size->∃ x,(bN s)[i]?=some x/\(bN s).getD i 0=x/\x<256/\((s.data.toList.getD i 0).toNat:Int)=(x:Int):=λi hi=>by
  grind [aBy]
 have hT:lnB (bN s)=fK s 0 (s.size-m):=by
  unfold lnB;rw[aYa,Lib.trimRightB_take s.data.toList 32 (s.size-m) (by simp_all) (λj b hj hb=>?_) (λb hk hb=>?_)];·rfl
  .have hj2:j<s.size:=(B6.1 hb).1
   obtain⟨x,x1,x2,x3,x4⟩:=at0 j hj2;have:=m2 (s.size-1-j) AS;rw[show s.size-1-(s.size-1-j)=j by omega,x2,AAf]at this;subst this;unfold bN at x1;rw[C3,hb]at x1;simp only[D1,oSI]at x1;exact UInt8.toNat_inj.1 x1
  .have hk2:s.size-m-1<s.size:=AS
   rcases m3 with m3|⟨m3,m4⟩;·omega
   obtain⟨x,x1,x2,x3,x4⟩:=at0 (s.size-m-1) hk2;rw[show s.size-1-m=s.size-m-1 by omega,x2,decide_eq_false_iff_not]at m4;intro e
   simp_all [bN]
 rw[hT];have e0:((0:Int)<0)=False:=AAb;have hfin:m<s.size->∃ x:Nat,((s.data.toList.getD (s.size-m-1) 0).toNat:Int)=(x:Int)/\x≠32:=λh=>by
  grind [bN]
 sym =>
  simp[cN,cO,eZ,Za,Zb,Zf,Zh,Zl,Zm,Zv,ZS,Yz,Vd,VH,Tg,Tr,T2,TZ,Sa,SX,Rb,Rc,Rk,Rl,e0]
  tactic =>
   unfold aVh;rw[aG m (λi=>[.str s,I ((s.size-i:Nat):Int)]) (λ_=>[])]
   .by_cases hm:m=s.size
    .have z:s.size-m=0:=AS
     rw[z];(exact cI e0)
    .obtain⟨x,x1,x2⟩:=hfin AS
     have i1:((0:Int)<((s.size-m:Nat):Int))=True:=AAa;have i0:((0:Int)<=((s.size-m-1:Nat):Int))=True:=AAa;have i2:(((s.size-m-1:Nat):Int)<(s.size:Int))=True:=AAa;have w1:IntKind.i64.wrap (((s.size-m:Nat):Int)-1)=((s.size-m-1:Nat):Int):=by grind [aE]
     have y1:((x:Int)=32)=False:=AAb;have l1:(((s.size-m:Nat):Int)<=(s.size:Int))=True:=AAa;have l0:((0:Int)<=((s.size-m:Nat):Int))=True:=AAa;generalize s.size-m-1=a at *;generalize s.size-m=b at *;(exact kN i0 i1 i2 w1 x1 y1 l1 l0 aF)
   .rfl
   .intro i hi
    obtain⟨x,x0,x1,x2,x3⟩:=at0 (s.size-1-i) AS;have hb:=m2 i hi;rw[x1,AAf]at hb;subst hb;rw[show s.size-1-i=s.size-i-1 by omega]at x3;have i1:((0:Int)<((s.size-i:Nat):Int))=True:=AAa;have i0:((0:Int)<=((s.size-i-1:Nat):Int))=True:=AAa;have i2:(((s.size-i-1:Nat):Int)<(s.size:Int))=True:=AAa;have w1:IntKind.i64.wrap (((s.size-i:Nat):Int)-1)=((s.size-i-1:Nat):Int):=by grind [aE]
    have w2:s.size-(i+1)=s.size-i-1:=AS
    have y1:(((32:Nat):Int)=32)=True:=AAn rfl;rw[w2];generalize s.size-i-1=a at *;generalize s.size-i=b at *;(exact iS i0 i1 i2 w1 x3 y1 aF)
   .by_cases hm:m=s.size
    .have z:s.size-m=0:=AS
     rw[z];(exact cI e0)
    .obtain⟨x,x1,x2⟩:=hfin AS
     have i1:((0:Int)<((s.size-m:Nat):Int))=True:=AAa;have i0:((0:Int)<=((s.size-m-1:Nat):Int))=True:=AAa;have i2:(((s.size-m-1:Nat):Int)<(s.size:Int))=True:=AAa;have w1:IntKind.i64.wrap (((s.size-m:Nat):Int)-1)=((s.size-m-1:Nat):Int):=by grind [aE]
     have y1:((x:Int)=32)=False:=AAb;generalize s.size-m-1=a at *;generalize s.size-m=b at *;(exact iS i0 i1 i2 w1 x1 y1 aF)
theorem aNC(a b:List UInt8):(a==b)=(b==a):=by
 grind
theorem aCL{s:ByteArray}(h:s.size=45):(qU s).size=40:=by
 unfold qU fK;show ((s.data.toList.drop 4).take 40).length=40
 simp_all
theorem w48{s:ByteArray}{n:Nat}(hs:s.size=45)(hn:n<=1000000):runW aB 55 [.str s,I (n:Int)] []=some (.bool (aCr s n),[]):=by
 rw[q48 (by simp)];unfold x55;dsimp only;have hz:=aCL hs;have c1:=w40 (s:=qU s) AS;have hx:fK s 4 44=qU s:=rfl;have n44:Int.toNat 44=44:=rfl;have n4:Int.toNat 4=4:=rfl;have n45:((4:Int)<=((44:Nat):Int))=True:=AAa;have hu:zD (qU s).data.toList = !prL (bN (qU s)):=aGF _;have hr:rdF s=bN (qU s):=by
  unfold rdF
  grind [aCT,mN]
 unfold aCr;rw[hu,Bool.not_not,hr];cases hp:prL (bN (qU s))with
 | false =>
   rw[hp]at c1;(exact iS hs hx n44 n4 n45 c1 aF)
 | true =>
   rw[hp]at c1;have c2:=w79 hz hp hn;have e1:=aAD s (kZ (qG n (bN (qU s))));rw[aNC]at e1;(exact kN hs hx n44 n4 n45 c1 c2 e1 aF)
theorem q49{vs:List AV}{h:XH}(hl:vs.length<=36):runW aB 56 vs h=eY none x56.res x56.ownR h.length (execW aB 56 h.length none x56.body (aX (if x56.ownA then vs else kI vs)) h):=cJ rfl hl h rfl
theorem q50{vs:List AV}{h:XH}(hl:vs.length<=44):runW aB 57 vs h=eY none x57.res x57.ownR h.length (execW aB 57 h.length none x57.body (aX (if x57.ownA then vs else kI vs)) h):=cJ rfl hl h rfl
def Flds(ls:List ByteArray):Prop:=∀ s∈ls,s.size=40/\prL (bN s)=true
theorem Flds.at{ls:List ByteArray}(h:Flds ls){k:Nat}{s:ByteArray}(hk:ls[k]?=some s):fA (Cn ls ls.length) k=bN s:=by
 rw[aKB (B5 _) (B6.1 hk).1 hk]
 grind [aCT,mN,rH,Flds]
theorem Flds.byte{ls:List ByteArray}(h:Flds ls){k j:Nat}{s:ByteArray}(hk:ls[k]?=some s)(hj:j<40):∃ x:Nat,(fA (Cn ls ls.length) k).getD j 0=x/\32<=x/\x<=126/\iM x=x-32/\((s.data.toList.getD j 0).toNat:Int)=(x:Int):=by
 obtain⟨h1,h2⟩:=h s (B3 hk);obtain⟨x,x1,x2,x3⟩:=aBy (s:=s) (i:=j) AS;obtain⟨y1,y2,y3⟩:=aKM (aHj h2 x1);exact⟨x,by rw[h.at hk,C7,x1];rfl,y2,y3,y1,x3⟩
theorem aHK{ls:List ByteArray}(h:Flds ls){j:Nat}(hj:j<40):∀{k},k<=ls.length->gQ (Cn ls ls.length) j k<=k*94
 | 0,_=>B5 _
 | k+1,hk=>by
   obtain⟨s,hs⟩:=dO (l:=ls) (i:=k) AS;obtain⟨x,x1,x2,x3,x4,_⟩:=h.byte hs hj;rw[gQ,x1,x4];have:=aHK h hj (k:=k) AS;omega
def oS1(i:Nat):AV:=if i=0 then .nilsl else .sl 0 0 1 i
def oG1(l:List Nat)(i:Nat):XH:=if i=0 then [] else [aa (bV (l.take i))]
theorem aYP{l:List Nat}{i x:Nat}(h:l[i]?=some x):bV (l.take i)++[.int .u8 (x:Int)]=bV (l.take (i+1)):=by
 grind [List.take_add_one,bV]
theorem aOE{l:List Nat}{i:Nat}(hl:l.length=40)(h:i<=40):(bV (l.take i)).length=i:=by grind [bV]
theorem w49{ls:List ByteArray}(hf:Flds ls)(hn:ls.length<=1000):runW aB 56 [.fs (rS ls)] []=some (.str (kZ (dY (Cn ls ls.length) ls.length)),[]):=by
 rw[q49 (by simp)];unfold x56;dsimp only;have rl:=eP ls;have e0:((40:Int)<40)=False:=AAb;have lc:=mQ (ls:=ls) (B5 _);have lS:=eN (C:=Cn ls ls.length) (n:=ls.length) AS ls.length (B5 _);have hat:=λj hj=>aBE (C:=Cn ls ls.length) (n:=ls.length) (j:=j) AS hj (k:=ls.length) (B5 _);have hcl:=λ{j} hj=>λ{k}=>aHK hf (j:=j) hj (k:=k);have hby:=λ{k j s} h1 h2=>hf.byte (k:=k) (j:=j) (s:=s) h1 h2;have hcs:∀ j k,gQ (Cn ls ls.length) j (k+1)=gQ (Cn ls ls.length) j k+iM ((fA (Cn ls ls.length) k).getD j 0):=λ_ _=>rfl;have hc0:∀ j,gQ (Cn ls ls.length) j 0=0:=λ_=>rfl;generalize dY (Cn ls ls.length) ls.length=M at *;generalize Cn ls ls.length=C at *;sym =>
  simp[cN,cO,eZ,Zb,Zf,Zh,Zl,Zv,Vg,Tr,T2,TZ,Sa,SX,Rb,Rc,Rl,e0]
  tactic =>
   unfold aVj;rw[aG 40 (λi=>[.fs (rS ls),oS1 i,I (i:Nat)]) (λi=>oG1 M i)]
   .have s0:oS1 40 = .sl 0 0 1 40:=rfl
    have g0:oG1 M 40=[aa (bV (M.take 40))]:=rfl;have t0:M.take 40=M:=C9 AS;rw[t0]at g0;have lu:=bG M;rw[lS]at lu;have bu:iL (bV M)=some (M.map UInt8.ofNat):=tL;have tk:=gS lS;have td:=jY lS;have hE:(⟨⟨M.map UInt8.ofNat⟩⟩:ByteArray)=kZ M:=rfl;(exact kN e0 s0 g0 lu bu tk td hE aF)
   .rfl
   .intro i hi
    have i1:((i:Int)<40)=True:=AAa;have a2:=cV (n:=40) (i:=i) AS AS;have ln:=aOE lS (i:=i) AS;have gr:=bW (M.take i);have gr1:=bW (M.take (i+1));have hx:=hat i hi;have ts:=aYP hx;have hle:=hcl hi (k:=ls.length) (B5 _);have r95:=aA4 (gQ C i ls.length) (show 0<95 by decide);have c1:tmZ (gQ C i ls.length:Int) 95=((gQ C i ls.length%95:Nat):Int):=iT _ 95;have c2:IntKind.i64.wrap (32+((gQ C i ls.length%95:Nat):Int))=((32+gQ C i ls.length%95:Nat):Int):=by grind [aE]
    have c3:IntKind.u8.wrap ((32+gQ C i ls.length%95:Nat):Int)=((32+gQ C i ls.length%95:Nat):Int):=by simp[IntKind.wrap,IntKind.bits,IntKind.signed];omega
    have z1:(i+1<=1099511627776)=True:=AAa;have z2:((i+1)*1<=1099511627776)=True:=AAa;have nn:((ls.length:Int)<(ls.length:Int))=False:=AAb;have fin:∀ k:Nat,k=ls.length->gQ C i k=gQ C i ls.length:=λk hk=>by rw[hk]
    sym =>
     simp[cN,cO,eZ,Za,Zb,Zf,Zh,Zl,Zm,Zv,ZA,YH,Th,Tl,Tm,TJ,SV,SX,SZ,Rb,Rc,Rk,Rl,i1,rl]
     tactic =>
      unfold aNR;rw[aG ls.length (λk=>[.fs (rS ls),oS1 i,I (i:Nat),I (gQ C i k:Nat),I (k:Nat)]) (λ_=>oG1 M i)]
      .generalize 32+gQ C i ls.length%95=v at *
       generalize gQ C i ls.length%95=v95 at *;generalize gQ C i ls.length=w at *;by_cases h0:i=0
       .subst h0
        have s0:oS1 0 = .nilsl:=rfl;have g0:oG1 M 0=[]:=rfl;have s1:oS1 1 = .sl 0 0 1 1:=rfl;have g1:oG1 M 1=[aa (bV (M.take 1))]:=rfl;have ts0:bV (M.take 0)=[]:=rfl;rw[ts0]at ts;simp only[D4]at ts;rw[<-ts]at g1;(exact eK i1 rl nn c1 c2 c3 s0 g0 s1 g1 a2 aF aF)
       .have s0:oS1 i = .sl 0 0 1 i:=if_neg h0
        have g0:oG1 M i=[aa (bV (M.take i))]:=if_neg h0;have s1:oS1 (i+1) = .sl 0 0 1 (i+1):=if_neg AS;have g1:oG1 M (i+1)=[aa (bV (M.take (i+1)))]:=if_neg AS;generalize bV (M.take (i+1))=T1 at *;generalize bV (M.take i)=T0 at *;(exact eD i1 rl nn c1 c2 c3 s0 g0 s1 g1 ts gr gr1 ln a2 z1 z2 aF aF aF)
      .have s0:oS1 i = .nilsl\/oS1 i = .sl 0 0 1 i:=by unfold oS1;grind
       have z:=hc0 i;by_cases h0:i=0
       .subst h0
        rfl
       .have s0:oS1 i = .sl 0 0 1 i:=if_neg h0
        have g0:oG1 M i=[aa (bV (M.take i))]:=if_neg h0;(exact iS rl i1 s0 g0 z gr dK)
      .intro k hk
       obtain⟨s,hs⟩:=dO (l:=ls) (i:=k) AS;have sx:=oC hs;obtain⟨x,x1,x2,x3,x4,x5⟩:=hby hs hi;have hz:=(hf s (B3 hs)).1;have hcz:=hcs i k;rw[x1,x4]at hcz;have hle:=hcl hi (k:=k) AS;have j1:((k:Int)<(ls.length:Int))=True:=AAa;have j2:((i:Int)<(s.size:Int))=True:=AAa;have j3:(k<(rS ls).length)=True:=AAa;have b2:=cV (n:=ls.length) (i:=k) AS AS;have d1:IntKind.i64.wrap (x:Int)=(x:Int):=aE AS AS;have d2:IntKind.i64.wrap ((x:Int)-32)=((x-32:Nat):Int):=by grind [aE]
       have d3:IntKind.i64.wrap ((gQ C i k:Int)+((x-32:Nat):Int))=(gQ C i (k+1):Int):=by grind [aE]
       generalize gQ C i (k+1)=A1 at *;generalize gQ C i k=A0 at *;by_cases h0:i=0
       .subst h0
        have s0:oS1 0 = .nilsl:=rfl;have g0:oG1 M 0=[]:=rfl;have n0:Int.toNat 0=0:=rfl;have j0:((0:Int)<(s.size:Int))=True:=AAa;(exact eK rl sx j0 j1 j3 b2 d1 d2 d3 n0 x5 s0 g0)
       .have s0:oS1 i = .sl 0 0 1 i:=if_neg h0
        have g0:oG1 M i=[aa (bV (M.take i))]:=if_neg h0;(exact eD rl sx j1 j2 j3 b2 d1 d2 d3 x5 s0 g0 gr dK aF aF aF aF aF aF)
      ·(exact kJ nn rl)
   ·(exact cI e0)
def yO(z:List Nat)(C:List Nat)(j k:Nat):Nat:=iM (z.getD j 0)+(95*k-gQ C j k)
theorem aTH(x n w:Nat)(h:w<=n*94):32+(iM x+(95*n-w))%95=pv 94 x (32+w%95):=by
 grind [aRm,pv]
theorem w50{ls:List ByteArray}{t:ByteArray}(hf:Flds ls)(hn:ls.length<=1000)(ht:t.size=40)(hp:prL (bN t)=true) :
 runW aB 57 [.fs (rS ls),.str t] []=some (.str (kZ (dA 94 (bN t) (dY (Cn ls ls.length) ls.length))),[]):=by
 rw[q50 (by simp)];unfold x57;dsimp only;have rl:=eP ls;have e0:((40:Int)<40)=False:=AAb;have lc:=mQ (ls:=ls) (B5 _);have bt:=mN t;have lS0:=eN (C:=Cn ls ls.length) (n:=ls.length) AS ls.length (B5 _);have lS:(dA 94 (bN t) (dY (Cn ls ls.length) ls.length)).length=40:=by grind [mE]
 have hcl:=λ{j} hj=>λ{k}=>aHK hf (j:=j) hj (k:=k);have tby:∀ j,j<40->∃ x:Nat,(bN t)[j]?=some x/\(bN t).getD j 0=x/\32<=x/\x<=126/\iM x=x-32/\((t.data.toList.getD j 0).toNat:Int)=(x:Int):=λj hj=>by
  obtain⟨x,x1,x2,x3⟩:=aBy (s:=t) (i:=j) AS
  grind [aKM,aHj]
 have hat:∀ j,j<40->(dA 94 (bN t) (dY (Cn ls ls.length) ls.length))[j]?=some (32+yO (bN t) (Cn ls ls.length) j ls.length%95):=λj hj=>by
  obtain⟨x,x0,x1,_,_,_,_⟩:=tby j hj;have h2:=aBE (C:=Cn ls ls.length) (n:=ls.length) (j:=j) AS hj (k:=ls.length) (B5 _);rw[aDV x0 h2,<-aTH x ls.length _ (hcl hj (B5 _))];unfold yO;rw[x1]
 have hby:=λ{k j s} h1 h2=>hf.byte (k:=k) (j:=j) (s:=s) h1 h2;have hcs:∀ j k,gQ (Cn ls ls.length) j (k+1)=gQ (Cn ls ls.length) j k+iM ((fA (Cn ls ls.length) k).getD j 0):=λ_ _=>rfl;have hc0:∀ j,gQ (Cn ls ls.length) j 0=0:=λ_=>rfl;generalize dA 94 (bN t) (dY (Cn ls ls.length) ls.length)=M at *;generalize Cn ls ls.length=C at *;sym =>
  simp[cN,cO,eZ,Zb,Zf,Zh,Zl,Zv,Vd,Vg,Tr,T2,TZ,Sa,SX,Rb,Rc,Rl,e0]
  tactic =>
   unfold aVi;rw[aG 40 (λi=>[.fs (rS ls),.str t,oS1 i,I (i:Nat)]) (λi=>oG1 M i)]
   .have s0:oS1 40 = .sl 0 0 1 40:=rfl
    have g0:oG1 M 40=[aa (bV (M.take 40))]:=rfl;have t0:M.take 40=M:=C9 AS;rw[t0]at g0;have lu:=bG M;rw[lS]at lu;have bu:iL (bV M)=some (M.map UInt8.ofNat):=tL;have tk:=gS lS;have td:=jY lS;have hE:(⟨⟨M.map UInt8.ofNat⟩⟩:ByteArray)=kZ M:=rfl;(exact kN e0 s0 g0 lu bu tk td hE aF)
   .rfl
   .intro i hi
    have i1:((i:Int)<40)=True:=AAa;have a2:=cV (n:=40) (i:=i) AS AS;have ln:=aOE lS (i:=i) AS;have gr:=bW (M.take i);have gr1:=bW (M.take (i+1));have hx:=hat i hi;have ts:=aYP hx;obtain⟨y,_,y1,y2,y3,y4,y5⟩:=tby i hi;have hle:=hcl hi (k:=ls.length) (B5 _);have hlo:yO (bN t) C i ls.length<=1000000:=by unfold yO;grind
    have r95:=aA4 (yO (bN t) C i ls.length) (show 0<95 by decide);have c1:tmZ (yO (bN t) C i ls.length:Int) 95=((yO (bN t) C i ls.length%95:Nat):Int):=iT _ 95;have c2:IntKind.i64.wrap (32+((yO (bN t) C i ls.length%95:Nat):Int))=((32+yO (bN t) C i ls.length%95:Nat):Int):=by grind [aE]
    have c3:IntKind.u8.wrap ((32+yO (bN t) C i ls.length%95:Nat):Int)=((32+yO (bN t) C i ls.length%95:Nat):Int):=by simp[IntKind.wrap,IntKind.bits,IntKind.signed];omega
    have z1:(i+1<=1099511627776)=True:=AAa;have z2:((i+1)*1<=1099511627776)=True:=AAa;have nn:((ls.length:Int)<(ls.length:Int))=False:=AAb;have f1:IntKind.i64.wrap (y:Int)=(y:Int):=aE AS AS;have f2:IntKind.i64.wrap ((y:Int)-32)=(yO (bN t) C i 0:Int):=by rw[aE AS AS];unfold yO;grind
    have j2:((i:Int)<(t.size:Int))=True:=AAa;have n0:Int.toNat 0=0:=rfl;have j0:((0:Int)<(t.size:Int))=True:=AAa;have hls:∀ k,k<ls.length->∀(x:Nat),gQ C i (k+1)=gQ C i k+(x-32)->32<=x->x<=126->yO (bN t) C i (k+1)=yO (bN t) C i k+(95-(x-32)):=λk hk x h1 h2 h3=>by
     have:=hcl hi (k:=k) AS;unfold yO;omega
    have hl1:∀ k,k<=ls.length->yO (bN t) C i k<=1000000:=λk hk=>by unfold yO;grind
    have main:∀(s0:AV)(h0:XH),oS1 i=s0->oG1 M i=h0->True:=λ_ _ _ _=>trivial;by_cases h0:i=0
    .subst h0
     have s0:oS1 0 = .nilsl:=rfl;have g0:oG1 M 0=[]:=rfl;have s1:oS1 1 = .sl 0 0 1 1:=rfl;have g1:oG1 M 1=[aa (bV (M.take 1))]:=rfl;have ts0:bV (M.take 0)=[]:=rfl;rw[ts0]at ts;simp only[D4]at ts;rw[<-ts]at g1;sym =>
      simp[cN,cO,eZ,Za,Zb,Zf,Zh,Zl,Zm,Zv,ZA,ZF,ZK,Yt,Y9,YH,YV,YX,YZ,Xy,Th,Tl,Tm,TF,TJ,SV,SX,SZ,Rb,Rc,Rk,Rl,i1,rl,s0,g0,j0,n0,y5,f1,f2]
      tactic =>
       unfold aLc;rw[aG ls.length (λk=>[.fs (rS ls),.str t,.nilsl,I 0,I (yO (bN t) C 0 k:Nat),I (k:Nat)]) (λ_=>[])]
       .generalize 32+yO (bN t) C 0 ls.length%95=v at *
        generalize yO (bN t) C 0 ls.length%95=v95 at *;generalize yO (bN t) C 0 ls.length=w at *;(exact eK i1 rl nn c1 c2 c3 s0 g0 s1 g1 a2 aF aF)
       .rfl
       .intro k hk
        obtain⟨s,hs⟩:=dO (l:=ls) (i:=k) AS;have sx:=oC hs;obtain⟨x,x1,x2,x3,x4,x5⟩:=hby hs hi;have hz:=(hf s (B3 hs)).1;have hcz:=hcs 0 k;rw[x1,x4]at hcz;have hlz:=hls k hk x hcz x2 x3;have hl2:=hl1 (k+1) AS;have j1:((k:Int)<(ls.length:Int))=True:=AAa;have j3:(k<(rS ls).length)=True:=AAa;have b2:=cV (n:=ls.length) (i:=k) AS AS;have d1:IntKind.i64.wrap (x:Int)=(x:Int):=aE AS AS;have d2:IntKind.i64.wrap ((x:Int)-32)=((x-32:Nat):Int):=by grind [aE]
        have d3:IntKind.i64.wrap (95-((x-32:Nat):Int))=((95-(x-32):Nat):Int):=by grind [aE]
        have d4:IntKind.i64.wrap ((yO (bN t) C 0 k:Int)+((95-(x-32):Nat):Int))=(yO (bN t) C 0 (k+1):Int):=by grind [aE]
        generalize 95-(x-32)=X at *;generalize yO (bN t) C 0 (k+1)=A1 at *;generalize yO (bN t) C 0 k=A0 at *;have k0:((0:Int)<(s.size:Int))=True:=AAa;(exact eK rl sx k0 j1 j3 b2 d1 d2 d3 d4 n0 x5 aF)
       ·(exact kJ nn rl)
    .have s0:oS1 i = .sl 0 0 1 i:=if_neg h0
     have g0:oG1 M i=[aa (bV (M.take i))]:=if_neg h0;have s1:oS1 (i+1) = .sl 0 0 1 (i+1):=if_neg AS;have g1:oG1 M (i+1)=[aa (bV (M.take (i+1)))]:=if_neg AS;generalize bV (M.take (i+1))=T1 at *;have nmT:=dK (M.take i);generalize bV (M.take i)=T0 at *;sym =>
      simp[cN,cO,eZ,Za,Zb,Zf,Zh,Zl,Zm,Zv,ZA,ZF,ZK,Yt,Y9,YH,YM,YN,Xy,Th,Tl,Tm,TF,TJ,SV,SX,SZ,Rb,Rc,Rk,Rl,i1,rl,s0,g0,j2,y5,f1,f2]
      tactic =>
       unfold aLc;rw[aG ls.length (λk=>[.fs (rS ls),.str t,.sl 0 0 1 i,I (i:Nat),I (yO (bN t) C i k:Nat),I (k:Nat)]) (λ_=>[aa T0])]
       .generalize 32+yO (bN t) C i ls.length%95=v at *
        generalize yO (bN t) C i ls.length%95=v95 at *;generalize yO (bN t) C i ls.length=w at *;(exact eD i1 rl nn c1 c2 c3 s0 g0 s1 g1 ts gr gr1 ln a2 z1 z2 aF aF aF)
       .rfl
       .intro k hk
        obtain⟨s,hs⟩:=dO (l:=ls) (i:=k) AS;have sx:=oC hs;obtain⟨x,x1,x2,x3,x4,x5⟩:=hby hs hi;have hz:=(hf s (B3 hs)).1;have hcz:=hcs i k;rw[x1,x4]at hcz;have hlz:=hls k hk x hcz x2 x3;have hl2:=hl1 (k+1) AS;have j1:((k:Int)<(ls.length:Int))=True:=AAa;have j3:(k<(rS ls).length)=True:=AAa;have b2:=cV (n:=ls.length) (i:=k) AS AS;have d1:IntKind.i64.wrap (x:Int)=(x:Int):=aE AS AS;have d2:IntKind.i64.wrap ((x:Int)-32)=((x-32:Nat):Int):=by grind [aE]
        have d3:IntKind.i64.wrap (95-((x-32:Nat):Int))=((95-(x-32):Nat):Int):=by grind [aE]
        have d4:IntKind.i64.wrap ((yO (bN t) C i k:Int)+((95-(x-32):Nat):Int))=(yO (bN t) C i (k+1):Int):=by grind [aE]
        generalize 95-(x-32)=X at *;generalize yO (bN t) C i (k+1)=A1 at *;generalize yO (bN t) C i k=A0 at *;have k2:((i:Int)<(s.size:Int))=True:=AAa;(exact eK rl sx k2 j1 j3 b2 d1 d2 d3 d4 x5 gr aF)
       ·(exact kJ nn rl)
   ·(exact cI e0)
theorem q41{vs:List AV}{h:XH}(hl:vs.length<=41):runW aB 39 vs h=eY none x39.res x39.ownR h.length (execW aB 39 h.length none x39.body (aX (if x39.ownA then vs else kI vs)) h):=cJ rfl hl h rfl
def fS(ls:List ByteArray)(i:Nat):List ByteArray:=(ls.take i).map λs=>kZ (rH s)
theorem aKA{ls:List ByteArray}{i:Nat}(h:i<=ls.length):(fS ls i).length=i:=by simp[fS];omega
theorem bEW{ls:List ByteArray}{i:Nat}{s:ByteArray}(h:ls[i]?=some s):fS ls (i+1)=fS ls i++[kZ (rH s)]:=by
 grind [List.take_add_one,fS]
theorem bBn{ls:List ByteArray}(hg:∀ s∈ls,prL (bN s)=true)(n:Nat):Flds (fS ls n):=by
 intro t ht;unfold fS at ht;obtain⟨s,hs,rfl⟩:=F8.1 ht;exact⟨by rw[uE,qM],by grind [aCb,aCV,aLD,rH]⟩
theorem aXo(s:ByteArray):rH (kZ (rH s))=rH s:=by
 grind [aCb,pK,aHR,aCT,iI,rH]
theorem bBo(ls:List ByteArray):Cn (fS ls ls.length) ls.length=Cn ls ls.length:=by
 grind [List.take_of_length_le,List.map_congr_left,aXo,Cn,fS]
def aQZ(i:Nat):AV:=if i=0 then .nilsl else .sl 0 0 1 i
def fG(ls:List ByteArray)(i:Nat):XH:=if i=0 then [] else [aa (bQ (fS ls i))]
theorem w41{ls:List ByteArray}{row:Nat}(h0:1<=ls.length)(h1:ls.length<=1000)(hr:row<=10000)(hg:∀ s∈ls,s.size<=40/\prL (bN s)=true):runW aB 39 [.fs (rS ls),I (row:Int)] []=some (.str (pgB ls row),[]):=by
 rw[q41 (by simp)];unfold x39;dsimp only;have rl:=eP ls;have nn:((ls.length:Int)<(ls.length:Int))=False:=AAb;sym =>
  simp[Zb,Zf,Zh,Zl,Zv,Vb,Vg,Tr,T2,TZ,Sa,SX,Rb,Rc,Rl,rl]
  tactic =>
   unfold aVn;rw[aG ls.length (λi=>[.fs (rS ls),I (row:Int),.str (Bn ls row i),aQZ i,I (i:Nat)]) (λi=>fG ls i)]
   .have hn0:¬ls.length=0:=AS
    have s0:aQZ ls.length = .sl 0 0 1 ls.length:=if_neg hn0;have g0:fG ls ls.length=[aa (bQ (fS ls ls.length))]:=if_neg hn0;have lf:=aKA (ls:=ls) (B5 _);have lc:=bY (fS ls ls.length);rw[lf]at lc;have ch:=wJ (fS ls ls.length);rw[lf]at ch;have gr:=bP (fS ls ls.length);have p1:(ls.length*1<=ls.length)=True:=AAa;have fl:=bBn (λs hs=>(hg s hs).2) ls.length;have c1:=w49 fl AS;rw[lf,bBo]at c1;have lS:=eN (C:=Cn ls ls.length) (n:=ls.length) (by rw[mQ (B5 _)];omega) ls.length (B5 _);have pS:=aWF (C:=Cn ls ls.length) (n:=ls.length) (k:=ls.length) (by rw[mQ (B5 _)];omega) (B5 _);have bS:=aCb (aTK pS);have c2:=w79 (s:=kZ (dY (Cn ls ls.length) ls.length)) (row:=row+ls.length) (by rw[uE,lS]) (by grind) AS;rw[bS]at c2;have r1:IntKind.i64.wrap ((row:Int)+(ls.length:Int))=((row+ls.length:Nat):Int):=by grind [aE]
    have a1:=eA (a:=Bn ls row ls.length) (b:=kZ (qG (row+ls.length) (dY (Cn ls ls.length) ls.length))) (by grind [yZ,uE,aDG]);have hE:Bn ls row ls.length++kZ (qG (row+ls.length) (dY (Cn ls ls.length) ls.length))=pgB ls row:=rfl;rw[hE]at a1;generalize kZ (qG (row+ls.length) (dY (Cn ls ls.length) ls.length))=R at *;generalize kZ (dY (Cn ls ls.length) ls.length)=SM at *;generalize pgB ls row=PG at *;generalize Bn ls row ls.length=B0 at *;generalize fS ls ls.length=F0 at *;(exact eD rl nn s0 g0 lc ch gr p1 c1 c2 r1 a1 aU aR aT aF aF aF aF aF)
   .rfl
   .intro i hi
    obtain⟨s,hs⟩:=dO hi;have sx:=oC hs;obtain⟨Xl,hp⟩:=hg s (B3 hs);have i1:((i:Int)<(ls.length:Int))=True:=AAa;have i2:(i<(rS ls).length)=True:=AAa;have a2:=cV hi AS;have c1:=w78 Xl;have hF:kZ (newF (bN s))=kZ (rH s):=rfl;rw[hF]at c1;have bF:=aCb (aCV s);have c2:=w79 (s:=kZ (rH s)) (row:=row+i) (by rw[uE,qM]) (by rw[bF];exact aLD hp) AS;rw[bF]at c2;have r1:IntKind.i64.wrap ((row:Int)+(i:Int))=((row+i:Nat):Int):=by grind [aE]
    have hB:=aYl (ls:=ls) (row:=row) hs;have a1:=eA (a:=Bn ls row i) (b:=kZ (qG (row+i) (rH s))) (by grind [yZ,uE,aDG,qM]);have hE:Bn ls row i++kZ (qG (row+i) (rH s))=Bn ls row (i+1):=by rw[hB];rfl
    rw[hE]at a1;have fs1:=bEW hs;have lf:=aKA (ls:=ls) (i:=i) AS;have lf1:=aKA (ls:=ls) (i:=i+1) AS;have lc:=bY (fS ls i);rw[lf]at lc;have lc1:=bY (fS ls (i+1));rw[lf1]at lc1;have so:bQ (fS ls i)++[.str (kZ (rH s))]=bQ (fS ls (i+1)):=by rw[fs1];simp[bQ]
    have gr:=bP (fS ls i);have gr1:=bP (fS ls (i+1));have at1:(bQ (fS ls (i+1)))[i]?=some (.str (kZ (rH s))):=by
     grind
    have z3:(i+1<=1099511627776)=True:=AAa;have z4:((i+1)*16<=1099511627776)=True:=AAa;have z5:(i<i+1)=True:=AAa;have z6:((i:Int)<((i+1:Nat):Int))=True:=AAa;have s1:aQZ (i+1) = .sl 0 0 1 (i+1):=if_neg AS;have g1:fG ls (i+1)=[aa (bQ (fS ls (i+1)))]:=if_neg AS;by_cases h0:i=0
    .subst h0
     have s0:aQZ 0 = .nilsl:=rfl;have g0:fG ls 0=[]:=rfl;have F0:fS ls 0=[]:=rfl;rw[F0]at so;have h1':bQ []=[]:=rfl;rw[h1',D4]at so;rw[<-so]at g1;have n0:Int.toNat 0=0:=rfl;have i00:((0:Int)<(ls.length:Int))=True:=AAa;generalize kZ (qG (row+0) (rH s))=R at *;generalize kZ (rH s)=FL at *;generalize Bn ls row (0+1)=B1 at *;generalize Bn ls row 0=B0 at *;have r0:IntKind.i64.wrap ((row:Int)+0)=((row+0:Nat):Int):=AS
     have i20:(0<(rS ls).length)=True:=i2;have sx0:(rS ls)[0]?=some [.str s]:=sx;(exact eK rl i00 i20 sx0 c1 c2 r0 a1 s0 g0 s1 g1 n0)
    .have s0:aQZ i = .sl 0 0 1 i:=if_neg h0
     have g0:fG ls i=[aa (bQ (fS ls i))]:=if_neg h0;generalize kZ (qG (row+i) (rH s))=R at *;generalize kZ (rH s)=FL at *;generalize Bn ls row (i+1)=B1 at *;generalize Bn ls row i=B0 at *;generalize hT1:fS ls (i+1)=T1 at *;generalize fS ls i=T0 at *;(exact iW rl i1 i2 a2 sx c1 c2 r1 a1 s0 g0 s1 g1 lc lc1 so gr gr1 at1 z3 z4 z5 z6 aU aR aT)
   ·(exact kJ rl nn)
end
section
open Go Go.DL
def aS(s:ByteArray)(i:Nat):List ByteArray:=(List.range i).map λk=>qU (nZ s k)
def oLc(s:ByteArray)(row p k:Nat):Bool:=gdS s row k&&decide (k<p)
def oL(s:ByteArray)(row p i:Nat):List ByteArray:=((List.range i).filter (oLc s row p)).map λk=>qU (nZ s k)
theorem aKX(s:ByteArray)(i:Nat):(aS s i).length=i:=by simp[aS]
theorem bFm(s:ByteArray)(i:Nat):aS s (i+1)=aS s i++[qU (nZ s i)]:=by simp[aS,J4]
theorem aMo{s:ByteArray}{i n:Nat}(h:i<n):(aS s n)[i]?=some (qU (nZ s i)):=by
 grind [aS]
theorem bCI(s:ByteArray)(row p i:Nat):oL s row p (i+1)=if oLc s row p i=true then oL s row p i++[qU (nZ s i)] else oL s row p i:=by
 unfold oL;rw[J4,List.filter_append,M3]
 grind
theorem aVS{s:ByteArray}{row k n:Nat}(hk:k<n)(hn:n*45<=s.size)(h:gdS s row k=true):(qU (nZ s k)).size=40/\prL (bN (qU (nZ s k)))=true:=by
 have hz:(nZ s k).size=45:=wX (H9 (G3 _ hk) hn);refine⟨aCL hz,?_⟩;unfold gdS aCr at h;rw[B4]at h;have:=aGF (qU (nZ s k)).data.toList;rw[J7]at h;rw[h.1]at this;cases hp:prL (bN (qU (nZ s k)))with
 | true=>rfl
 | false=>unfold bN at hp;grind
theorem aZL{s:ByteArray}{row p i n:Nat}(hi:i<=n)(hn:n*45<=s.size):Flds (oL s row p i):=by
 intro t ht;unfold oL at ht;obtain⟨k,hk,rfl⟩:=F8.1 ht;obtain⟨h1,h2⟩:=aC5.1 hk;unfold oLc at h2;rw[B4]at h2
 grind [aVS]
theorem aVN(s:ByteArray)(row p i:Nat):(oL s row p i).length<=i:=by
 grind [oL]
theorem aXk{s:ByteArray}{row:Nat}:∀{n},lR s row n=0->∀ i,i<n->gdS s row i=true
 | 0,_,i,h=>absurd h AS
 | n+1,h,i,hi=>by
   rw[lR]at h;split at h
   .rename_i hg
    by_cases hin:i=n;·subst hin;exact hg
    .exact aXk h i AS
   .omega
theorem aZQ{s:ByteArray}{row:Nat}:∀{n},lR s row n=1->∃ r,r<n/\vT s row n=(r:Int)/\gdS s row r=false/\∀ i,i<n->i≠r->gdS s row i=true
 | 0,h=>by cases h
 | n+1,h=>by
   rw[lR]at h;split at h
   .rename_i hg
    obtain⟨r,h1,h2,h3,h4⟩:=aZQ h
    grind [vT]
   .rename_i hg
    refine⟨n,by omega,by rw[vT,if_neg hg],by grind,λi hi hne=>aXk (n:=n) AS i AS⟩
theorem aHV{s:ByteArray}:∀{n k:Nat},k<n->fA (FnS s n) k=rdF (nZ s k)
 | 0,_,h=>absurd h AS
 | n+1,k,h=>by
   rw[FnS];by_cases hk:k<n;·rw[aLZ (vD s n) hk];exact aHV hk
   .have:k=n:=AS
    subst this;exact aJm (vD s k) (aHh _)
theorem aJr{ls:List ByteArray}{j:Nat}:∀{k},k<=ls.length->gQ (Cn ls ls.length) j k=((ls.take k).map λs=>iM ((rH s).getD j 0)).sum
 | 0,_=>by simp[gQ]
 | k+1,h=>by
   obtain⟨s,hs⟩:=dO (l:=ls) (i:=k) AS;rw[gQ,aJr (k:=k) AS,aKB (B5 _) AS hs,D6,hs];simp
theorem aJs{C:List Nat}{j:Nat}:∀{k},gQ C j k=((List.range k).map λi=>iM ((fA C i).getD j 0)).sum
 | 0=>rfl
 | k+1=>by rw[gQ,aJs (k:=k),J4];simp
theorem zZ(p:Nat->Bool)(f:Nat->Nat):∀ l:List Nat,((l.filter p).map f).sum=(l.map λi=>if p i=true then f i else 0).sum
 | []=>rfl
 | a::l=>by
   rw[List.filter_cons];by_cases h:p a=true;·rw[if_pos h];simp[zZ p f l,h]
   .rw[if_neg h];simp[zZ p f l,h]
theorem aWE{C D:List Nat}{n m:Nat}(hC:n*40<=C.length)(hD:m*40<=D.length)(h:∀ j,j<40->gQ C j n=gQ D j m):dY C n=dY D m:=by
 have l1:=eN hC n (B5 _);have l2:=eN hD m (B5 _);apply I7;intro j;by_cases hj:j<40;·rw[aBE hC hj (B5 _),aBE hD hj (B5 _),h j hj]
 grind
theorem aFH{s:ByteArray}{row p:Nat}{C:List Nat}{q:Nat->Bool}(hq:∀ i,i<p->gdS s row i=q i)(hC:C.length=(p+1)*40)
 (hf:∀ i,i<p->fA C i=if q i=true then rdF (nZ s i) else newF []):dY (Cn (oL s row p (p+1)) (oL s row p (p+1)).length) (oL s row p (p+1)).length=dY C p:=by
 refine aWE (by rw[mQ (B5 _)];omega) AS λj hj=>?_;rw[aJr (B5 _),List.take_length,aJs];unfold oL;rw[aB0,zZ];have hsplit:((List.range (p+1)).map λi=>if oLc s row p i=true then ((λs=>iM ((rH s).getD j 0))∘λk=>qU (nZ s k)) i else 0).sum=((List.range p).map λi=>if oLc s row p i=true then ((λs=>iM ((rH s).getD j 0))∘λk=>qU (nZ s k)) i else 0).sum:=by
  rw[J4,M3,List.sum_append];have:oLc s row p p=false:=by unfold oLc;simp
  simp[this]
 rw[hsplit];congr 1;apply I4;intro i hi;have hi:=I2.1 hi;rw[hf i hi];have e:oLc s row p i=q i:=by unfold oLc;grind
 rw[e];by_cases h:q i=true;·rw[if_pos h,if_pos h];rfl
 .rw[if_neg h,if_neg h]
  have:(newF []).getD j 0=32:=by
   have e:newF []=List.replicate 40 32:=rfl
   grind
  rw[this];rfl
def LA(A:List ByteArray)(p:Nat):List ByteArray:=(List.range p).map λi=>lnB (bN (A.getD i qF))
theorem rT(A:List ByteArray)(p:Nat):(LA A p).length=p:=by simp[LA]
theorem bBC(A:List ByteArray)(i:Nat):LA A (i+1)=LA A i++[lnB (bN (A.getD i qF))]:=by simp[LA,J4]
theorem aWd{A:List ByteArray}{C:List Nat}{p:Nat}(h:∀ i,i<p->bN (A.getD i qF)=fA C i):LA A p=lns C p:=by
 simp_all [LA,lns]
end
section
open Go Go.DL
def aWf:XCode:=(.seq (.reg [] false [⟨0,(some 14),(.mv (.c .nilsl)),none⟩]) (.seq (.seq (.reg [] false [⟨0,(some 15),(.mv (.c (.int .i64 0))),none⟩]) (.block 2 aNV)) (.seq (.reg [] false [⟨0,(some 120),(.mv (.t 14)),none⟩,⟨0,(some 121),(.mv (.t 11)),none⟩,⟨0,(some 4),(.mv (.t 120)),none⟩,⟨0,(some 5),(.mv (.t 121)),none⟩,⟨0,(some 6),(.mv (.c (.int .i64 0))),none⟩]) .ret)))
def aYm:XCode:=(.seq (.reg [] false [⟨0,(some 4),(.mv (.c .nilsl)),none⟩,⟨0,(some 5),(.mv (.c (.int .i64 0))),none⟩,⟨0,(some 6),(.mv (.c (.int .i64 0))),none⟩]) (.seq (.seq (.reg [] false [⟨0,(some 16),(.mv (.t 1)),none⟩,⟨0,(some 17),(.callf false (.c (.fn (.func 54) [] [])) [(.t 16),(.c (.int .i64 0)),(.c (.int .i64 1000))] []),none⟩,⟨0,(some 18),(.not (.t 17)),none⟩]) (.cond (.t 18) (.seq (.reg [] false [⟨0,(some 4),(.mv (.c .nilsl)),none⟩,⟨0,(some 5),(.mv (.c (.int .i64 0))),none⟩,⟨0,(some 6),(.mv (.c (.int .i64 2))),none⟩]) .ret) .skip)) (.seq (.reg [] false [⟨0,(some 19),(.mv (.t 0)),none⟩,⟨0,(some 20),(.len true (.t 19)),none⟩,⟨0,(some 21),(.bin .quo (.t 20) (.c (.int .i64 45))),none⟩,⟨0,(some 7),(.mv (.t 21)),none⟩]) (.seq (.seq (.reg [] false [⟨0,(some 22),(.mv (.t 0)),none⟩,⟨0,(some 23),(.len true (.t 22)),none⟩,⟨0,(some 24),(.bin .rem (.t 23) (.c (.int .i64 45))),none⟩,⟨0,(some 25),(.bin .neq (.t 24) (.c (.int .i64 0))),none⟩,⟨0,(some 26),(.mv (.t 25)),none⟩,⟨0,(some 27),(.mv (.t 7)),(some (26,false))⟩,⟨0,(some 28),(.bin .lss (.t 27) (.c (.int .i64 2))),(some (26,false))⟩,⟨0,(some 29),(.pick (.t 26) (.c (.bool true)) (.t 28)),none⟩]) (.cond (.t 29) (.seq (.reg [] false [⟨0,(some 4),(.mv (.c .nilsl)),none⟩,⟨0,(some 5),(.mv (.c (.int .i64 0))),none⟩,⟨0,(some 6),(.mv (.c (.int .i64 20))),none⟩]) .ret) .skip)) (.seq (.seq (.reg [] false [⟨0,(some 30),(.mv (.t 7)),none⟩,⟨0,(some 31),(.bin .gtr (.t 30) (.c (.int .i64 6))),none⟩]) (.cond (.t 31) (.seq (.reg [] false [⟨0,(some 4),(.mv (.c .nilsl)),none⟩,⟨0,(some 5),(.mv (.c (.int .i64 0))),none⟩,⟨0,(some 6),(.mv (.c (.int .i64 1))),none⟩]) .ret) .skip)) (.seq (.reg [] false [⟨0,(some 8),(.mv (.c .nilsl)),none⟩,⟨0,(some 9),(.mv (.c .nilsl)),none⟩]) (.seq (.reg [] false [⟨0,(some 10),(.mv (.c (.int .i64 (-1)))),none⟩,⟨0,(some 11),(.mv (.c (.int .i64 0))),none⟩]) (.seq (.seq (.reg [] false [⟨0,(some 12),(.mv (.c (.int .i64 0))),none⟩]) (.block 0 aAz)) (.seq (.seq (.reg [] false [⟨0,(some 69),(.mv (.t 11)),none⟩,⟨0,(some 70),(.bin .gtr (.t 69) (.c (.int .i64 1))),none⟩]) (.cond (.t 70) (.seq (.reg [] false [⟨0,(some 4),(.mv (.c .nilsl)),none⟩,⟨0,(some 5),(.mv (.c (.int .i64 0))),none⟩,⟨0,(some 6),(.mv (.c (.int .i64 19))),none⟩]) .ret) .skip)) (.seq (.seq (.reg [(9,false)] true [⟨0,(some 71),(.mv (.t 11)),none⟩,⟨1,(some 72),(.bin .eql (.t 71) (.c (.int .i64 0))),none⟩,⟨2,(some 73),(.mv (.t 72)),none⟩,⟨3,(some 74),(.mv (.t 9)),(some (73,true))⟩,⟨5,(some 76),(.mv (.t 8)),(some (73,true))⟩,⟨6,(some 77),(.mv (.t 7)),(some (73,true))⟩,⟨7,(some 78),(.bin .sub (.t 77) (.c (.int .i64 1))),(some (73,true))⟩,⟨8,(some 79),(.idx 1 (.t 76) (.t 78)),(some (73,true))⟩,⟨9,(some 80),(.load false 1 (.t 79)),(some (73,true))⟩,⟨4,(some 75),(.callf false (.c (.fn (.func 56) [] [])) [(.t 74)] [9]),(some (73,true))⟩,⟨10,(some 81),(.bin .neq (.t 75) (.t 80)),(some (73,true))⟩,⟨11,(some 82),(.pick (.t 73) (.t 81) (.c (.bool false))),none⟩]) (.cond (.t 82) (.seq (.reg [] false [⟨0,(some 4),(.mv (.c .nilsl)),none⟩,⟨0,(some 5),(.mv (.c (.int .i64 0))),none⟩,⟨0,(some 6),(.mv (.c (.int .i64 22))),none⟩]) .ret) .skip)) (.seq (.seq (.reg [] false [⟨0,(some 83),(.mv (.t 10)),none⟩,⟨0,(some 84),(.bin .geq (.t 83) (.c (.int .i64 0))),none⟩,⟨0,(some 85),(.mv (.t 84)),none⟩,⟨0,(some 86),(.mv (.t 10)),(some (85,true))⟩,⟨0,(some 87),(.mv (.t 7)),(some (85,true))⟩,⟨0,(some 88),(.bin .sub (.t 87) (.c (.int .i64 1))),(some (85,true))⟩,⟨0,(some 89),(.bin .lss (.t 86) (.t 88)),(some (85,true))⟩,⟨0,(some 90),(.pick (.t 85) (.t 89) (.c (.bool false))),none⟩]) (.cond (.t 90) (.reg [(9,false)] false [⟨0,(some 91),(.mv (.t 8)),none⟩,⟨0,(some 92),(.mv (.t 10)),none⟩,⟨0,(some 93),(.mv (.t 9)),none⟩,⟨0,(some 94),(.mv (.t 8)),none⟩,⟨0,(some 95),(.mv (.t 7)),none⟩,⟨0,(some 96),(.bin .sub (.t 95) (.c (.int .i64 1))),none⟩,⟨0,(some 97),(.idx 1 (.t 94) (.t 96)),none⟩,⟨0,(some 98),(.load false 1 (.t 97)),none⟩,⟨0,(some 99),(.callf false (.c (.fn (.func 57) [] [])) [(.t 93),(.t 98)] []),none⟩,⟨0,(some 100),(.idx 1 (.t 91) (.t 92)),none⟩,⟨0,none,(.store 1 (.t 100) (.t 99) []),none⟩]) .skip)) aWf)))))))))))
theorem aWg:x20=⟨122,[(4,none),(5,none),(6,none)],false,false,aYm,none,none⟩:=rfl
theorem q17{vs:List AV}{h:XH}(hl:vs.length<=122):runW aB 20 vs h=eY none x20.res x20.ownR h.length (execW aB 20 h.length none x20.body (aX (if x20.ownA then vs else kI vs)) h):=cJ rfl hl h rfl
def uS(i:Nat):AV:=if i=0 then .nilsl else .sl 1 0 1 i
def uG(A:List ByteArray)(i:Nat):XH:=if i=0 then [aa (bQ A)] else [aa (bQ A),aa (bQ (LA A i))]
theorem aWB{A:List ByteArray}{i:Nat}(h:i<A.length):(bQ A)[i]?=some (.str (A.getD i qF)):=by
 grind [bQ]
theorem aUp(s:ByteArray):(s.toList==(⟨#[]⟩:ByteArray).toList)=decide (s=qF):=by
 have:=fW s qF
 grind [qF,aN]
theorem t17{A:List ByteArray}{n p md:Nat}{e:aJ}{H2:XH}(hn:n=p+1)(hA:A.length=n)(hz:∀ i,i<p->(A.getD i qF).size<=1000000)(h0:1<=p)(h1:p<=1000)(e7:e 7=I (n:Nat))(e8:e 8 = .sl 0 0 1 n)(e11:e 11=I (md:Nat)) :
 eY none [(4,none),(5,none),(6,none)] false 0 (execW aB 20 0 none aWf e (aa (bQ A)::H2))=some (if Lib.containsS (LA A p) qF then vY 13 else .tup [.fs (rS (LA A p)),I (md:Nat),I 0],[]):=by
 unfold aWf;obtain⟨m,m1,m2,m3⟩:=gW (λi => !decide (lnB (bN (A.getD i qF))=qF)) p;have wr:IntKind.i64.wrap ((n:Int)-1)=(p:Int):=by grind [aE]
 have lA:=bY A;rw[hA]at lA;have gA:=bP A
 have step:∀ i,i<p->((i:Int)<(p:Int))=True/\((i:Int)<(n:Int))=True/\(bQ A)[i]?=some (.str (A.getD i qF))/\runW aB 58 [.str (A.getD i qF)] []=some (.str (lnB (bN (A.getD i qF))),[])/\bQ (LA A i)++[.str (lnB (bN (A.getD i qF)))]=bQ (LA A (i+1)) /\
  (bQ (LA A (i+1)))[i]?=some (.str (lnB (bN (A.getD i qF))))/\aN BinOp.eql (lnB (bN (A.getD i qF))) ⟨#[]⟩=some (.bool (decide (lnB (bN (A.getD i qF))=qF))):=λi hi =>
  ⟨AAa,AAa,aWB AS,w51 (hz i hi),by rw[bBC];simp[bQ],by
   rw[bBC];unfold bQ;rw[C3,I8 (by rw[rT];omega),rT,N8];rfl,by rw[aAD,aUp]⟩
 sym =>
  simp[cN,cO,eZ,Zb,Zf,Zh,Zl,Zv,SX,Rb,Rc,Rl,e7,e8,e11,wr]
  tactic =>
   unfold aNV;rw[aG m (λi=>[I (n:Nat),.sl 0 0 1 n,I (md:Nat),uS i,I (i:Nat)]) (λi=>uG A i)]
   .by_cases hm:m=p
    .subst hm
     have hc:Lib.containsS (LA A m) qF=false:=by
      rw[<-Bool.not_eq_true,Lib.containsS_iff];intro hm;unfold LA at hm;obtain⟨i,hi,e⟩:=F8.1 hm
      grind
     rw[hc];have s0:uS m = .sl 1 0 1 m:=if_neg AS;have g0:uG A m=[aa (bQ A),aa (bQ (LA A m))]:=if_neg AS;have x0:((m:Int)<(m:Int))=False:=AAb;have lc:=bY (LA A m);rw[rT]at lc;have ch:=wJ (LA A m);rw[rT]at ch;have gr:=bP (LA A m);have p1:(m*1<=m)=True:=AAa;generalize LA A m=L at *;(exact eK s0 g0 x0 wr lc ch gr gA p1 aU aR aT aF)
    .have hm':m<p:=AS
     have hc:Lib.containsS (LA A p) qF=true:=by
      rw[Lib.containsS_iff];unfold LA
      grind
     rw[hc,if_pos rfl];unfold vY;obtain⟨i1,i2,a1,c1,so,a2,eq1⟩:=step m hm';have hd:decide (lnB (bN (A.getD m qF))=qF)=true:=by
      grind
     rw[hd]at eq1;have lc:=bY (LA A m);rw[rT]at lc;have lc1:=bY (LA A (m+1));rw[rT]at lc1;have gr:=bP (LA A m);have gr1:=bP (LA A (m+1));have z3:(m+1<=1099511627776)=True:=AAa;have z4:((m+1)*16<=1099511627776)=True:=AAa;have z5:(m<m+1)=True:=AAa;have z6:((m:Int)<((m+1:Nat):Int))=True:=AAa;by_cases hm0:m=0
     .subst hm0
      have s0:uS 0 = .nilsl:=rfl;have g0:uG A 0=[aa (bQ A)]:=rfl;have n0:Int.toNat 0=0:=rfl;have i10:((0:Int)<(p:Int))=True:=AAa;have i20:((0:Int)<(n:Int))=True:=AAa;have L0:LA A 0=[]:=rfl;generalize lnB (bN (A.getD 0 qF))=X at *;generalize A.getD 0 qF=Y at *;(exact eD s0 g0 n0 i10 i20 wr a1 c1 eq1 lA gA aU aR aT aF aF aF aF aF aF)
     .have s0:uS m = .sl 1 0 1 m:=if_neg hm0
      have g0:uG A m=[aa (bQ A),aa (bQ (LA A m))]:=if_neg hm0;generalize lnB (bN (A.getD m qF))=X at *;generalize A.getD m qF=Y at *;generalize LA A (m+1)=L1 at *;generalize LA A m=L0 at *;(exact iW s0 g0 i1 i2 wr a1 a2 c1 so eq1 lA gA lc lc1 gr gr1 z3 z4 z5 z6 aU aR aT aF aF aF)
   .have s0:uS 0 = .nilsl:=rfl
    have g0:uG A 0=[aa (bQ A)]:=rfl;(exact kN s0 g0 e7 e8 e11 gA aU aR aT)
   .intro i hi
    obtain⟨i1,i2,a1,c1,so,a2,eq1⟩:=step i AS;have hd:decide (lnB (bN (A.getD i qF))=qF)=false:=by
     grind
    rw[hd]at eq1;have b2:=cV (n:=p) (i:=i) AS AS;have lc:=bY (LA A i);rw[rT]at lc;have lc1:=bY (LA A (i+1));rw[rT]at lc1;have gr:=bP (LA A i);have gr1:=bP (LA A (i+1));have z3:(i+1<=1099511627776)=True:=AAa;have z4:((i+1)*16<=1099511627776)=True:=AAa;have z5:(i<i+1)=True:=AAa;have z6:((i:Int)<((i+1:Nat):Int))=True:=AAa;have s1:uS (i+1) = .sl 1 0 1 (i+1):=if_neg AS;have g1:uG A (i+1)=[aa (bQ A),aa (bQ (LA A (i+1)))]:=if_neg AS;by_cases hm0:i=0
    .subst hm0
     have s0:uS 0 = .nilsl:=rfl;have g0:uG A 0=[aa (bQ A)]:=rfl;have n0:Int.toNat 0=0:=rfl;have i10:((0:Int)<(p:Int))=True:=AAa;have i20:((0:Int)<(n:Int))=True:=AAa;have L0:bQ (LA A 0)=[]:=rfl;rw[L0,D4]at so;rw[<-so]at g1;generalize lnB (bN (A.getD 0 qF))=X at *;generalize A.getD 0 qF=Y at *;(exact eD s0 g0 s1 g1 n0 i10 i20 wr a1 c1 eq1 lA gA aU aR aT aF aF aF aF)
    .have s0:uS i = .sl 1 0 1 i:=if_neg hm0
     have g0:uG A i=[aa (bQ A),aa (bQ (LA A i))]:=if_neg hm0;generalize lnB (bN (A.getD i qF))=X at *;generalize A.getD i qF=Y at *;generalize LA A (i+1)=L1 at *;generalize LA A i=L0 at *;(exact iW s0 g0 s1 g1 i1 i2 wr a1 a2 b2 c1 so eq1 lA gA lc lc1 gr gr1 z3 z4 z5 z6 aU aR aT)
   .by_cases hm:m=p
    .subst hm
     have x0:((m:Int)<(m:Int))=False:=AAb;(exact kJ x0 wr)
    .have hm':m<p:=AS
     obtain⟨i1,i2,a1,c1,so,a2,eq1⟩:=step m hm';have hd:decide (lnB (bN (A.getD m qF))=qF)=true:=by
      grind
     rw[hd]at eq1;have lc:=bY (LA A m);rw[rT]at lc;have lc1:=bY (LA A (m+1));rw[rT]at lc1;have gr:=bP (LA A m);have gr1:=bP (LA A (m+1));have z3:(m+1<=1099511627776)=True:=AAa;have z4:((m+1)*16<=1099511627776)=True:=AAa;have z5:(m<m+1)=True:=AAa;have z6:((m:Int)<((m+1:Nat):Int))=True:=AAa;by_cases hm0:m=0
     .subst hm0
      have s0:uS 0 = .nilsl:=rfl;have g0:uG A 0=[aa (bQ A)]:=rfl;have n0:Int.toNat 0=0:=rfl;have i10:((0:Int)<(p:Int))=True:=AAa;have i20:((0:Int)<(n:Int))=True:=AAa;generalize lnB (bN (A.getD 0 qF))=X at *;generalize A.getD 0 qF=Y at *;(exact eD s0 g0 n0 i10 i20 wr a1 c1 eq1 lA gA aU aR aT aF aF aF aF aF aF)
     .have s0:uS m = .sl 1 0 1 m:=if_neg hm0
      have g0:uG A m=[aa (bQ A),aa (bQ (LA A m))]:=if_neg hm0;generalize lnB (bN (A.getD m qF))=X at *;generalize A.getD m qF=Y at *;generalize LA A (m+1)=L1 at *;generalize LA A m=L0 at *;(exact iW s0 g0 i1 i2 wr a1 a2 c1 so eq1 lA gA lc lc1 gr gr1 z3 z4 z5 z6 aU aR aT aF aF aF)
def vS(i:Nat):AV:=if i=0 then .nilsl else .sl 0 0 1 i
def wS4(O:List ByteArray):AV:=if O.length=0 then .nilsl else .sl 1 0 1 O.length
def vG(A O:List ByteArray):XH:=if A.length=0 then [] else if O.length=0 then [aa (bQ A)] else [aa (bQ A),aa (bQ O)]
theorem aVP{O:List ByteArray}(h:O.length=0):O=[]:=by grind
theorem aLh(A:List ByteArray)(x:ByteArray):bQ A++[.str x]=bQ (A++[x]):=by simp[bQ]
theorem aSZ{A:List ByteArray}{r:Nat}{x:ByteArray}(h:r<A.length):bJ (bQ A) r [.str x]=bQ (A.set r x):=by
 unfold bJ bQ;rw[List.map_set,J5,if_pos (by grind)];simp
theorem aTU{M:List Nat}{x:ByteArray}(h:Byt M):decide (kZ M=x)=decide (M=bN x) :=
 decide_eq_decide.2 ⟨λe=>by rw[<-e,aCb h],λe=>by rw[e,aHt]⟩
theorem bBz{s:ByteArray}{n i:Nat}(hi:i<n)(hn:n*45<=s.size):bN ((aS s n).getD i qF)=fA (FnS s n) i:=by
 rw[aHV hi,C7,aMo hi];have:(nZ s i).size=45:=wX (H9 (G3 _ hi) hn)
 grind [aCT,mN,aCL,rdF]
theorem bBy{s:ByteArray}{n i:Nat}(hi:i<n)(hn:n*45<=s.size):((aS s n).getD i qF).size<=1000000:=by
 grind [aMo,aCL,wX]
theorem aWu{A:List ByteArray}(h:A.length≠0):vG A []=[aa (bQ A)]:=if_neg h
theorem aOw{A O:List ByteArray}(h:A.length≠0)(h2:O.length≠0):vG A O=[aa (bQ A),aa (bQ O)]:=by simp_all [vG]
theorem bCE{s:ByteArray}{R p n i:Nat}(hR:R<=1000)(hn:n=p+1)(hp:1<=p)(hp6:p<=6)(hsz:n*45=s.size)(hi:i<n) :
 bT 0 [0,1,7,8,9,10,11,12] (execW aB 20 0 none (match aAz with | .loop _ a=>a|c=>c) (aY [0,1,7,8,9,10,11,12] [.str s,I (R:Int),I (n:Nat),vS i,wS4 (oL s R p i),I (vT s R i),I (lR s R i:Nat),I (i:Nat)]) (vG (aS s i) (oL s R p i))) =
  some ([.str s,I (R:Int),I (n:Nat),vS (i+1),wS4 (oL s R p (i+1)),I (vT s R (i+1)),I (lR s R (i+1):Nat),I ((i+1:Nat):Int)],vG (aS s (i+1)) (oL s R p (i+1))):=by
 have i1:((i:Int)<(n:Int))=True:=AAa;have a2:=cV (n:=n) (i:=i) hi AS;have a3:IntKind.i64.wrap ((i:Int)*45)=((i*45:Nat):Int):=by grind [aE]
 have a4:IntKind.i64.wrap (((i:Int)+1)*45)=(((i+1)*45:Nat):Int):=by grind [aE]
 have a5:IntKind.i64.wrap ((R:Int)+(i:Int))=((R+i:Nat):Int):=by grind [aE]
 have hle:(i+1)*45<=s.size:=AS
 have a6:((((i+1)*45:Nat):Int)<=(s.size:Int))=True:=AAa;have a6b:(((i*45:Nat):Int)<=(((i+1)*45:Nat):Int))=True:=AAa;have hx:fK s (i*45) ((i+1)*45)=nZ s i:=rfl;have Xo:=wX hle;have c2:=w48 (s:=nZ s i) (n:=R+i) Xo AS;have hg0:aCr (nZ s i) (R+i)=gdS s R i:=rfl;rw[hg0]at c2;have hx4:fK (nZ s i) 4 44=qU (nZ s i):=rfl;have n44:Int.toNat 44=44:=rfl;have n4:Int.toNat 4=4:=rfl;have n45:((4:Int)<=((44:Nat):Int))=True:=AAa;have wr:IntKind.i64.wrap ((n:Int)-1)=(p:Int):=by grind [aE]
 have lA:=aKX s i;have sA:=bFm s i;have lA1:=aKX s (i+1);have sO:=bCI s R p i;have sB:vT s R (i+1)=if gdS s R i then vT s R i else (i:Int):=rfl
 have sM:lR s R (i+1)=if gdS s R i then lR s R i else lR s R i+1:=rfl
 have lO:=aVN s R p i;have hmd:=aHx s R i;have a7:IntKind.i64.wrap (((lR s R i:Nat):Int)+1)=((lR s R i+1:Nat):Int):=by grind [aE]
 have s1:vS (i+1) = .sl 0 0 1 (i+1):=if_neg AS;have z2:(i+1<=1099511627776)=True:=AAa;have z3:((i+1)*16<=1099511627776)=True:=AAa;have z5:(i<i+1)=True:=AAa;have z6:((i:Int)<((i+1:Nat):Int))=True:=AAa;have at1:(bQ (aS s (i+1)))[i]?=some (.str (qU (nZ s i))):=by
  unfold bQ
  grind
 have soA:=aLh (aS s i) (qU (nZ s i));rw[<-sA]at soA;have lcA:=bY (aS s i);rw[lA]at lcA;have lcA1:=bY (aS s (i+1));rw[lA1]at lcA1;have iD:=bP (aS s i);have grA1:=bP (aS s (i+1));unfold oLc at sO;rw[s1,sO,sB,sM];unfold aAz;dsimp only;have w0:wS4 [] = .nilsl:=rfl;have w2:∀ X,wS4 [X] = .sl 1 0 1 1:=λ_=>rfl;have u1:∀ X,bQ [X]=[.str X]:=λ_=>rfl;by_cases hi0:i=0
 .subst hi0
  have s0:vS 0 = .nilsl:=rfl;have A0:aS s 0=[]:=rfl;have A1:aS s (0+1)=[qU (nZ s 0)]:=rfl;have g0:vG ([]:List ByteArray) []=[]:=rfl;have b0:vT s R 0 = -1:=rfl;have m0:lR s R 0=0:=rfl;have j1:((0:Int)<(n:Int))=True:=AAa;have j2:((0:Int)<(p:Int))=True:=AAa;have hx':fK s 0 45=nZ s 0:=rfl;have a8:IntKind.i64.wrap ((R:Int)+0)=(R:Int):=aE AS AS;have a9:((45:Int)<=(s.size:Int))=True:=AAa;have wz:IntKind.i64.wrap 45=45:=rfl;have tz:Int.toNat 45=45:=rfl;have t0:Int.toNat 0=0:=rfl;have g3:∀ X,vG [X] []=[aa [.str X]]:=λ_=>rfl;have g4:∀ X,vG [X] [X]=[aa [.str X],aa [.str X]]:=λ_=>rfl;rw[I6]at c2;rw[show oL s R p 0=[] from rfl,A1,AAj (show 0<p by omega)];cases hg:gdS s R 0
  all_goals
   rw[hg]at c2;simp only[J2,N4,C6,AAe,AAd,D4];generalize qU (nZ s 0)=X at *;(exact iW s0 A0 w0 w2 g0 g3 g4 b0 m0 wz tz t0 j1 j2 hx' c2 a8 a9 hx4 Xo n44 n4 n45 wr aF aF)
 .have s0:vS i = .sl 0 0 1 i:=if_neg hi0
  have hq:((i:Int)<(p:Int))=True/\decide (i<p)=true\/((i:Int)<(p:Int))=False/\decide (i<p)=false:=by
   grind
  have n0:(aS s i).length≠0:=AS
  have n1:(aS s (i+1)).length≠0:=AS
  rw[s0];generalize oL s R p i=O at *;generalize aS s (i+1)=A1 at *;generalize aS s i=A0 at *;generalize qU (nZ s i)=X at *;generalize vT s R i=bd at *;generalize lR s R i=md at *;have f0:=aWu n0;have f1:=aWu n1;by_cases hO:O.length=0
  .obtain rfl:=aVP hO
   have f2:=aOw (O:=[X]) n1 (by simp);rcases hq with ⟨hip,hd⟩|⟨hip,hd⟩;all_goals cases hg:gdS s R i
   all_goals
    rw[hg]at c2;simp only[hd,J2,N4,C6,AAe,AAd,D4];(sym=>(simp[cN,cO,eZ,Za,Zb,Zd,Ze,Zf,Zh,Zl,Zm,Zn,Zo,Zv,Z8,ZA,ZE,ZI,ZO,ZW,Yf,Yi,Ym,Yn,Yo,Ys,Y4,Y8,Y9,YA,YH,YM,YN,Xe,XI,XL,XW,XZ,Wj,Wv,Ww,Wx,W4,W7,Vr,V5,V6,V7,V8,V9,VD,VF,VG,VJ,VK,VN,VO,VQ,VV,VW,VX,VY,VZ,Ua,Ub,Uc,Ud,Ue,Uf,Ui,Uj,Uo,Ut,Uu,Uv,Th,Ti,Tj,Tl,Tm,Tn,Ts,Tt,Tu,Tv,Tw,Ty,Tz,T2,T5,T8,TB,TC,TF,TI,TJ,TK,TL,TM,TN,TO,TP,TQ,TR,TS,TT,Sc,Sd,Se,Sf,Si,Sj,Sq,Sr,Ss,Su,S3,S4,S5,S6,S7,S8,SA,SC,SG,SN,SO,SP,SQ,SU,SV,SX,SZ,Rb,Rc,Rg,Rj,Rk,Rl,RI,RJ,RO,RR,RZ,Qa,Qb,Qi,Pg,PI,PJ,PK,PL,i1,a2,a3,a4,a5,a6,a6b,hx,hx4,Xo,n44,n4,n45,wr,hip,c2,soA,lcA,lcA1,iD,grA1,at1,z2,z3,z5,z6,aU,aR,aT,a7,f0,f1,f2,w0,w2,u1];all_goals tactic=>exact rfl))
  .have soO:=aLh O X
   have lcO:=bY O;have grO:=bP O;have grO1:=bP (O++[X]);have lO1:(O++[X]).length=O.length+1:=by simp
   have y2:(O.length+1<=1099511627776)=True:=AAa;have y3:((O.length+1)*16<=1099511627776)=True:=AAa;have w3:wS4 O = .sl 1 0 1 O.length:=if_neg hO;have w1:wS4 (O++[X]) = .sl 1 0 1 (O.length+1):=by unfold wS4;grind
   have f3:=aOw n0 hO;have f4:=aOw n1 hO;have f5:=aOw (O:=O++[X]) n1 AS;rcases hq with ⟨hip,hd⟩|⟨hip,hd⟩;all_goals cases hg:gdS s R i
   all_goals
    rw[hg]at c2;simp only[hd,J2,N4,C6,AAe,AAd];rw[f3,w3];first|rw[w1,f5]|rw[f4]
    generalize O++[X]=O1 at *;generalize O.length=lo at *;(sym=>(simp[cN,cO,eZ,Za,Zb,Zd,Ze,Zf,Zh,Zl,Zm,Zn,Zo,Zv,Z8,ZA,ZE,ZI,ZO,ZW,Yf,Yi,Ym,Yn,Yo,Ys,Y4,Y8,Y9,YA,YH,YM,YN,Xe,XI,XL,XW,Wj,Wv,Ww,Wx,W4,Vr,V5,V6,V7,V8,V9,VD,VF,VG,VJ,VK,VN,VO,VQ,VV,VW,VX,VY,VZ,Ua,Ub,Uc,Ud,Ue,Uf,Ui,Uj,Uo,Ut,Uu,Uv,Th,Ti,Tj,Tl,Tm,Tn,Ts,Tt,Tu,Tv,Tw,Ty,Tz,T2,T5,T8,TB,TC,TF,TI,TJ,TK,TL,TM,TN,TO,TP,TQ,TR,TS,TT,Sc,Sd,Se,Sf,Si,Sj,Sq,Sr,Ss,Su,S3,S4,S5,S7,S8,SA,SC,SG,SN,SO,SP,SQ,SV,SX,SZ,Rb,Rc,Rg,Rj,Rk,Rl,RI,RJ,RO,RR,RZ,Qa,Qb,Qi,Pg,PI,PJ,PK,PL,i1,a2,a3,a4,a5,a6,a6b,hx,hx4,Xo,n44,n4,n45,wr,hip,c2,soA,lcA,lcA1,iD,grA1,at1,z2,z3,z5,z6,aU,aR,aT,soO,grO1,y2,y3,lcO,grO,a7];all_goals tactic=>exact rfl))
theorem aOb:aAz = .loop [0,1,7,8,9,10,11,12] (match aAz with | .loop _ a=>a|c=>c):=rfl
theorem w17{s:ByteArray}{row:Int}(hz:s.size<=1000000):runW aB 20 [.str s,I row] []=some (mnV s row,[]):=by
 rw[q17 (by simp),aWg];unfold aYm;dsimp only;have c1:=w39 row 0 1000;have d1:lQ (s.size:Int) 45=((s.size/45:Nat):Int):=zY s.size 45;have d2:tmZ (s.size:Int) 45=((s.size%45:Nat):Int):=iT s.size 45;have d3:IntKind.i64.wrap ((s.size/45:Nat):Int)=((s.size/45:Nat):Int):=aE AS AS;cases hb:decide (0<=row)&&decide (row<=1000)with
 | false =>
   rw[hb]at c1;have hv:mnV s row=vY 2:=by unfold mnV;grind
   rw[hv];unfold vY;(exact rR c1 d1 d2 d3)
 | true =>
   rw[hb]at c1;rcases mC (s.size%45=0)with h0|h0
   .have h0':=AAl h0
    have z0:(((s.size%45:Nat):Int)=0)=True:=AAa;rcases mC (s.size/45<2)with h2|h2
    .have h2':=AAl h2
     have z2:(((s.size/45:Nat):Int)<2)=True:=AAa;have hv:mnV s row=vY 20:=by unfold mnV;grind
     rw[hv];unfold vY;generalize s.size%45=rm at *;generalize s.size/45=n at *;(exact iS c1 d1 d2 d3 z0 z2 aF)
    .have h2':=AAm h2
     have z2:(((s.size/45:Nat):Int)<2)=False:=AAb;rcases mC (6<s.size/45)with h6|h6
     .have h6':=AAl h6
      have z6:((6:Int)<((s.size/45:Nat):Int))=True:=AAa;have hv:mnV s row=vY 1:=by unfold mnV;grind
      rw[hv];unfold vY;generalize s.size%45=rm at *;generalize s.size/45=n at *;(exact iS c1 d1 d2 d3 z0 z2 z6)
     .have h6':=AAm h6
      have z6:((6:Int)<((s.size/45:Nat):Int))=False:=AAb;have hv:mnV s row=lL (FnS s (s.size/45)) (s.size/45-1) (vT s row.toNat (s.size/45)) (lR s row.toNat (s.size/45)):=by unfold mnV;grind
      rw[hv];have hsz:s.size/45*45=s.size:=AS
      simp only[B4,AAf]at hb;obtain⟨R,hR⟩:∃ R:Nat,row=(R:Int):=⟨row.toNat,by omega⟩;have hR1:row.toNat=R:=AS
      rw[hR1];subst hR;generalize s.size%45=rm at *;generalize s.size/45=n at *;obtain⟨p,hp⟩:∃ p,n=p+1:=⟨n-1,by omega⟩;have hnp:n-1=p:=AS
      rw[hnp];have x0:((n:Int)<(n:Int))=False:=AAb;have wr:IntKind.i64.wrap ((n:Int)-1)=(p:Int):=by grind [aE]
      sym =>
       simp[cN,cO,eZ,Za,Zb,Zf,Zh,Zl,Zm,Zp,Zr,Zv,Zy,ZA,ZE,ZS,Yf,Yi,Yn,Yo,Yq,Ys,Yz,YG,YH,YK,XI,Wv,Ww,Vb,Vd,VG,VH,VQ,VX,VZ,Ue,Uf,Ut,Uu,Uv,Tg,Tl,Tn,Tr,Ts,Tt,Tv,Tw,T2,TB,TJ,TK,TN,TO,TP,TQ,TR,TZ,Sa,SV,SX,SZ,Rb,Rc,Rk,Rl,PI,PJ,PK,PL,c1,d1,d2,d3,z0,z2,z6]
       tactic =>
        rw[aOb];rw[aG n (λi=>[.str s,I (R:Int),I (n:Nat),vS i,wS4 (oL s R p i),I (vT s R i),I (lR s R i:Nat),I (i:Nat)]) (λi=>vG (aS s i) (oL s R p i))]
        .unfold aAz
         dsimp only;have s0:vS n = .sl 0 0 1 n:=if_neg AS;have lA:=aKX s n;have lcA:=bY (aS s n);rw[lA]at lcA;have iD:=bP (aS s n);have n0:(aS s n).length≠0:=AS
         have hO2:vG (aS s n) (oL s R p n)=[aa (bQ (aS s n))]/\wS4 (oL s R p n) = .nilsl/\oL s R p n=[]\/vG (aS s n) (oL s R p n)=[aa (bQ (aS s n)),aa (bQ (oL s R p n))]/\wS4 (oL s R p n) = .sl 1 0 1 (oL s R p n).length/\oL s R p n≠[]:=by
          by_cases hO:(oL s R p n).length=0;·rw[aVP hO];exact .inl ⟨aWu n0,rfl,rfl⟩
          .exact .inr ⟨aOw n0 hO,if_neg hO,λh=>hO (by rw[h];rfl)⟩
         have flO:=aZL (s:=s) (row:=R) (p:=p) (i:=n) (n:=n) (B5 _) AS;have leO:=aVN s R p n;have lcO:=bY (oL s R p n);have grO:=bP (oL s R p n);have chO:=wJ (oL s R p n);have pO:((oL s R p n).length*1<=(oL s R p n).length)=True:=AAa;have hC:=vD s n;have bA:=λi hi=>bBz (s:=s) (n:=n) (i:=i) hi AS;have zA:=λi hi=>bBy (s:=s) (n:=n) (i:=i) hi AS;have atp:(bQ (aS s n))[p]?=some (.str (qU (nZ s p))):=by
          unfold bQ
          grind [aMo]
         have y1:((p:Int)<(n:Int))=True:=AAa;have gdp:=λh=>aVS (s:=s) (row:=R) (k:=p) (n:=n) AS AS h;have fp:bN (qU (nZ s p))=fA (FnS s n) p:=by
          grind [aMo]
         have LAe:LA (aS s n) p=lns (FnS s n) p:=aWd λi hi=>bA i AS;rcases mC ((1:Int)<(lR s R n:Int))with k1|k1
         .have hv:lL (FnS s n) p (vT s R n) (lR s R n)=vY 19:=by unfold lL;grind
          rw[hv];unfold vY;rcases hO2 with ⟨e0,w0,_⟩|⟨e0,w0,_⟩
          all_goals
           rw[e0];(exact kN s0 w0 x0 k1 iD lcA grO lcO aF)
         .have k1':¬1<lR s R n:=by grind
          rcases mC ((lR s R n:Int)=0)with k0|k0
          .have k0':lR s R n=0:=by grind
           have all:=aXk k0';have sm:=aFH (s:=s) (row:=R) (p:=p) (C:=FnS s n) (q:=λ_=>true) (λi hi=>all i AS) (by rw[hC,hp]) (λi hi=>by rw[if_pos rfl,aHV AS]);rw[<-hp]at sm;have c9:=w49 flO AS;rw[sm]at c9;have by9:Byt (dY (FnS s n) p):=yF p;have ne:=fW (kZ (dY (FnS s n) p)) (qU (nZ s p));rw[aTU by9,fp]at ne;have hbd:∀ m,(∀ i,i<m->gdS s R i=true)->vT s R m = -1:=λm=>by
            induction m with
            | zero=>exact λ_=>rfl
            | succ m ih=>exact λh=>by rw[vT,h m AS,if_pos rfl];grind
           have hbd':=hbd n all;have hO:oL s R p n≠[]:=λh=>by
            have m:qU (nZ s 0)∈oL s R p n:=by
             refine F8.2 ⟨0,aC5.2 ⟨I2.2 AS,?_⟩,rfl⟩;unfold oLc
             grind
            grind
           obtain⟨e0,w0,_⟩:=hO2.resolve_left λh=>hO h.2.2;rw[e0];rcases aMl (decide (dY (FnS s n) p=fA (FnS s n) p))with hq|hq
           .rw[hq]at ne
            have hv:lL (FnS s n) p (vT s R n) (lR s R n)=vY 22:=by unfold lL;grind
            rw[hv];unfold vY;(exact eD s0 w0 x0 k1 k0 wr iD lcA grO lcO chO pO c9 ne atp y1 aU aR aT aF)
           .rw[hq]at ne
            have hz9:¬(lR s R n=0/\dY (FnS s n) p≠fA (FnS s n) p):=λhh=>hh.2 (of_decide_eq_true hq);have hv:lL (FnS s n) p (vT s R n) (lR s R n)=xB (FnS s n) p (lR s R n):=by unfold lL;grind
            rw[hv,hbd'];unfold xB;rw[<-LAe];have t:=λ(e:aJ) (H2:XH)=>t17 (A:=aS s n) (n:=n) (p:=p) (md:=lR s R n) (e:=e) (H2:=H2) hp lA (λi hi=>zA i AS) AS AS;sym =>
             simp[cN,cO,eZ,Za,Zb,Ze,Zf,Zg,Zh,Zk,Zl,Zm,Zp,Zq,Zs,Zv,Zy,ZA,ZI,ZX,ZZ,Yc,Yj,Yk,Yn,Yo,Yp,Yq,Y4,Y9,YF,YH,YK,YL,YM,YN,XO,Wx,W3,WL,WS,WY,Vg,V5,V6,V7,V8,VG,VQ,VX,VZ,Ue,Uf,Ut,Uu,Uv,Ux,Uy,Uz,U0,U9,UA,UB,UC,UD,UE,UF,UG,UM,UO,Th,Tl,Tn,Ts,Tt,Tv,Tw,Tz,T2,T8,TB,TC,TD,TE,TF,TG,TJ,TK,TL,TM,TN,TO,TP,TQ,TR,S9,SA,SC,SG,SV,SW,SX,SZ,Ra,Rc,Re,Ri,Rk,Rl,RZ,Qa,Qd,QQ,QS,QV,Pj,Pk,Pm,Pn,Po,Pp,PI,PJ,PK,PL,PM,s0,w0,x0,k1,k0,wr,iD,lcA,grO,lcO,chO,pO,c9,ne,atp,y1,aU,aR,aT]
             tactic=>exact t _ _ rfl rfl rfl
          .have k0':lR s R n=1:=by grind
           obtain⟨r,r1,r2,r3,r4⟩:=aZQ k0';have hz9:¬(lR s R n=0/\dY (FnS s n) p≠fA (FnS s n) p):=λhh=>by omega
           have rz:((0:Int)<=(r:Int))=True:=AAa;rcases mC ((r:Int)<(p:Int))with hrp|hrp
           .have hrp':r<p:=by grind
            have hv:lL (FnS s n) p (vT s R n) (lR s R n)=xB (aHH (FnS s n) p r) p (lR s R n):=by unfold lL;grind
            rw[hv,r2];unfold xB;have le0:=iI [];have hC1:=wM (k:=r) hC AS le0;have hC1':(setC (FnS s n) r (newF [])).length=(p+1)*40:=by rw[hC1,hp]
            have fs:=λi hi=>aLY (C:=FnS s n) (n:=n) (k:=r) (f:=newF []) hC AS le0 (i:=i) hi;have sm:=aFH (s:=s) (row:=R) (p:=p) (C:=setC (FnS s n) r (newF [])) (q:=λi => !decide (i=r)) (λi hi=>by
             grind) hC1' (λi hi=>by
             rw[fs i AS];by_cases h:i=r;·grind
             .rw[if_neg h,AAk h,aHV AS];rfl)
            rw[<-hp]at sm;have gp:=gdp (r4 p AS AS);have c9:=w50 flO AS gp.1 gp.2;have f1:fA (setC (FnS s n) r (newF [])) p=bN (qU (nZ s p)):=by grind
            rw[sm,<-f1]at c9;have lp:(dA 94 (fA (setC (FnS s n) r (newF [])) p) (dY (setC (FnS s n) r (newF [])) p)).length=40:=by
             have l1:=aBq hC1 hp;rw[mE (by rw[l1,eN (n:=p) AS p (B5 _)])];exact l1
            have bp:=sN (t:=94) (l:=fA (setC (FnS s n) r (newF [])) p) (m:=dY (setC (FnS s n) r (newF [])) p);have LAe2:LA ((aS s n).set r (kZ (dA 94 (fA (setC (FnS s n) r (newF [])) p) (dY (setC (FnS s n) r (newF [])) p)))) p=lns (aHH (FnS s n) p r) p:=by
             refine aWd λi hi=>?_;unfold aHH;rw[aLY hC1 AS lp AS,C7,List.getElem?_set];by_cases h:i=r
             .subst h
              rw[if_pos rfl,if_pos AS,if_pos rfl];exact aCb bp
             grind
            rw[<-LAe2];have st:=aSZ (A:=aS s n) (r:=r) (x:=kZ (dA 94 (fA (setC (FnS s n) r (newF [])) p) (dY (setC (FnS s n) r (newF [])) p))) AS;have zV:(kZ (dA 94 (fA (setC (FnS s n) r (newF [])) p) (dY (setC (FnS s n) r (newF [])) p))).size=40:=by rw[uE,lp]
            generalize kZ (dA 94 (fA (setC (FnS s n) r (newF [])) p) (dY (setC (FnS s n) r (newF [])) p))=V at *;have t:=λ(e:aJ) (H2:XH)=>t17 (A:=(aS s n).set r V) (n:=n) (p:=p) (md:=lR s R n) (e:=e) (H2:=H2) hp (by grind) (λi hi=>by
             grind) AS AS
            have j1:((r:Int)<(n:Int))=True:=AAa;have j2:(r+1<=n)=True:=AAa;have gA1:=bP ((aS s n).set r V);rcases hO2 with ⟨e0,w0,eO⟩|⟨e0,w0,eO⟩
            all_goals
             rw[e0];first|rw[eO,show rS ([]:List ByteArray)=[] from rfl]at c9|skip
             sym =>
              simp[cN,cO,eZ,Za,Zb,Zc,Zf,Zg,Zh,Zj,Zk,Zl,Zm,Zp,Zq,Zs,Zv,Zy,ZA,ZI,ZW,Ya,Yb,Yf,Yi,Yn,Yo,Yp,Yq,Y4,Y9,YF,YH,YK,YL,YM,YN,XL,XO,Wj,Wx,W3,WK,WL,WN,WS,WY,Vg,Vj,Vr,V5,V6,V7,V8,VG,VQ,VX,VZ,Ue,Uf,Ut,Uu,Uv,U9,UA,UB,UC,UD,UE,UF,UG,UM,UO,Th,Tl,Tm,Tn,Ts,Tt,Tv,Tw,Tz,T2,T8,TF,TG,TJ,TK,TN,TO,TP,TQ,TR,TS,TT,S9,SA,SC,SG,SI,SJ,SV,SX,SZ,Ra,Rc,Re,Ri,Rk,Rl,RZ,Qa,Qd,QQ,QS,QV,Pj,Pk,Pm,Pn,Po,Pp,PI,PJ,PK,PL,s0,w0,x0,k1,k0,wr,rz,hrp,iD,lcA,gA1,grO,lcO,chO,pO,c9,atp,y1,st,j1,j2,aU,aR,aT]
              tactic=>exact t _ _ rfl rfl rfl
           .have hrp':¬r<p:=by grind
            have hv:lL (FnS s n) p (vT s R n) (lR s R n)=xB (FnS s n) p (lR s R n):=by unfold lL;grind
            rw[hv,r2];unfold xB;rw[<-LAe];have t:=λ(e:aJ) (H2:XH)=>t17 (A:=aS s n) (n:=n) (p:=p) (md:=lR s R n) (e:=e) (H2:=H2) hp lA (λi hi=>zA i AS) AS AS;rcases hO2 with ⟨e0,w0,_⟩|⟨e0,w0,_⟩
            all_goals
             rw[e0];sym =>
              simp[cN,cO,eZ,Za,Zb,Zf,Zg,Zh,Zk,Zl,Zm,Zp,Zq,Zs,Zv,Zy,ZA,Yp,Yq,Y9,YF,YH,YK,YL,YM,WL,WN,WS,V5,V8,U9,UA,UB,UC,UD,UE,UF,UG,UM,UO,Th,Tl,Tn,Ts,Tt,Tw,TJ,TK,S9,SV,SX,SZ,Ra,Rc,Re,Ri,Rk,Rl,QQ,QS,QV,Pj,Pk,Pm,Pn,Po,Pp,s0,w0,x0,k1,k0,wr,rz,hrp,iD,lcA,grO,lcO,chO,pO,atp,y1,aU,aR,aT]
              tactic=>exact t _ _ rfl rfl rfl
        .rfl
        .grind [bCE]
        .unfold aAz
         dsimp only;(exact cI x0)
   .have h0':=AAm h0
    have z0:(((s.size%45:Nat):Int)=0)=False:=AAb;have hv:mnV s row=vY 20:=by unfold mnV;grind
    rw[hv];unfold vY;generalize s.size%45=rm at *;generalize s.size/45=n at *;(exact qR c1 d1 d2 d3 z0)
theorem aFT:∀(l:List UInt8)(acc a:Nat)(c:UInt8),Lib.parseUint10 acc l = .ok a->48<=c.toNat->c.toNat<=57->a<100000000->Lib.parseUint10 acc (l++[c]) = .ok (a*10+(c.toNat-48))
 | [],acc,a,c,h,h1,h2,h3=>by
   simp only[Lib.parseUint10,Lib.NumEnd.ok.injEq]at h;subst h;simp only[D4,Lib.parseUint10]
   grind
 | d::r,acc,a,c,h,h1,h2,h3=>by
   simp only[Lib.parseUint10]at h;simp only[M5,Lib.parseUint10];split at h
   .rename_i hd
    rw[if_pos hd];split at h;·cases h
    .rename_i hr
     rw[if_neg hr];split at h;·cases h
     .rename_i hr2
      rw[if_neg hr2];exact aFT r _ a c h h1 h2 h3
   .cases h
theorem tK{u:Nat}(h:u<10):(UInt8.ofNat (48+u)).toNat=48+u:=by
 grind [UInt8.toNat_ofNat']
theorem aFS:∀(f u:Nat),u<10^f->u<100000000->Lib.parseUint10 0 (Lib.decDigits u) = .ok u
 | 0,u,h,_=>by
   obtain rfl:u=0:=AS
   rw[Lib.decDigits,AAq AS];rfl
 | f+1,u,h,hb=>by
   rw[Lib.decDigits];by_cases h10:u<10
   .rw[AAq h10]
    have e:=tK h10;simp only[Lib.parseUint10]
    grind
   .rw[AAr h10]
    have ih:=aFS f (u/10) AS AS;have e:=tK (u:=u%10) AS;rw[aFT _ _ _ _ ih AS AS AS,e]
    grind
theorem aDc:∀(f u:Nat),u<10^f->∀ c∈Lib.decDigits u,48<=c.toNat/\c.toNat<=57
 | 0,u,h,c,hc=>by
   obtain rfl:u=0:=AS
   rw[Lib.decDigits,AAq AS]at hc
   simp_all
 | f+1,u,h,c,hc=>by
   rw[Lib.decDigits]at hc;by_cases h10:u<10
   .rw[AAq h10]at hc
    grind [tK]
   .rw[AAr h10,C8]at hc
    rcases hc with hc|hc;·exact aDc f (u/10) AS c hc
    grind [tK]
theorem aKJ(u:Nat):∃ c r,Lib.decDigits u=c::r:=by
 rw[Lib.decDigits];by_cases h:u<10;·simp_all
 .rw[AAr h]
  cases Lib.decDigits (u/10)with
  | nil=>simp_all
  | cons c r=>simp_all
def dg(n:Nat):ByteArray:=⟨⟨Lib.decDigits n⟩⟩
theorem aEm(n:Nat):Lib.itoa (n:Int)=Lib.decDigits n:=by
 rfl
theorem aTR{n:Nat}(h:n<=99999):cH (dg n)=some (n:Int):=by
 have hp:=aFS 5 n AS AS;have ha:=aDc 5 n AS;obtain⟨c,r,e⟩:=aKJ n;have hc:=ha c (by rw[e];simp);have hat:Lib.atoiAll (Lib.decDigits n) = .ok (n:Int):=by
  rw[e]at hp ⊢;rw[Lib.atoiAll_plain c r AS AS];unfold Lib.parseMag;rw[if_neg (by simp),hp];unfold Lib.signless
  grind
 unfold cH dg;dsimp only;rw[hat];dsimp only;rw[if_pos ⟨by omega,by omega,aEm n⟩]
section
variable{a b c d:Nat}
end
theorem bER{vs:List AV}{h:XH}(hl:vs.length<=26):runW progG 15 vs h=eY none x15.res x15.ownR h.length (execW progG 15 h.length none x15.body (aX (if x15.ownA then vs else kI vs)) h):=cJ rfl hl h rfl
theorem bEP{a b:List ByteArray}(hb:b.length<1000000000):runW progG 15 [.fs (rS a),.fs (rS b)] []=some (.bool (decide (a=b)),[]):=by
 have la:=eP a;have lb:=eP b;rw[bER (by simp)];unfold x15;dsimp only;by_cases hl:a.length=b.length
 .have e1:((a.length:Int)=(b.length:Int))=True:=AAa
  obtain⟨m,m1,m2,m3⟩:=aGv a b b.length;have z:=S9 (n:=(b.length:Int));sym =>
   simp[cN,cO,eZ,Za,Zb,Zf,Zh,Zi,Zl,Zm,Zv,ZA,ZI,ZS,ZY,ZZ,Yw,Y5,Y6,Y8,YG,YH,YM,YN,XI,XJ,XO,Wv,Ww,W3,WG,Vc,Vg,VH,VI,VQ,VY,VZ,Ub,Uc,UC,UR,US,UU,UV,UW,UX,UY,Tb,Tc,Td,Te,Tg,Th,Ti,Tj,Tl,Tm,Tn,Tp,Tq,Tr,Ts,Tt,Tw,Ty,Tz,T2,TB,TC,TF,TJ,TK,TN,TO,TP,TQ,TR,TZ,Sa,S9,SD,SE,SG,SV,SW,SX,SY,SZ,Ra,Rb,Rc,Re,Rf,Rg,Rh,Ri,Rj,Rk,Rl,QQ,la,lb,e1]
   tactic =>
    unfold aVp;rw[aG m (λi=>[.fs (rS a),.fs (rS b),I (i:Nat)]) (λ_=>[])]
    .rcases m3 with rfl|m3
     .have hab:a=b:=I7 λi=>by
       grind
      have d:decide (a=b)=true:=AAj hab;rw[d];(exact rR la lb z hl)
     .have hm:m<b.length:=by
       grind
      have d:decide (a=b)=false:=AAk λh=>m3 (by rw[h]);rw[d];obtain⟨x,hx⟩:=dO (l:=a) (i:=m) AS;obtain⟨y,hy⟩:=dO (l:=b) (i:=m) hm;have hxy:=fW x y;rw[AAk (λh=>m3 (by grind):¬x=y)]at hxy;have ax:=oC hx;have ay:=oC hy;have i1:((m:Int)<(b.length:Int))=True:=AAa;have i2:((m:Int)<(a.length:Int))=True:=AAa;(exact iS la lb ax ay hxy i1 i2)
    .rfl
    .intro i hi
     have hib:i<b.length:=AS
     obtain⟨y,hy⟩:=dO (l:=b) hib;have hx:a[i]?=some y:=by grind
     have ax:=oC hx;have ay:=oC hy;have hxy:=fW y y;rw[AAj (rfl:y=y)]at hxy;have i1:((i:Int)<(b.length:Int))=True:=AAa;have i2:((i:Int)<(a.length:Int))=True:=AAa;have a2:=cV hib AS;(exact kN la lb ax ay hxy i1 i2 a2 aF)
    .rcases m3 with rfl|m3
     ·(exact rR la lb z hl)
     .have hm:m<b.length:=by
       grind
      obtain⟨x,hx⟩:=dO (l:=a) (i:=m) AS;obtain⟨y,hy⟩:=dO (l:=b) (i:=m) hm;have hxy:=fW x y;rw[AAk (λh=>m3 (by grind):¬x=y)]at hxy;have ax:=oC hx;have ay:=oC hy;have i1:((m:Int)<(b.length:Int))=True:=AAa;have i2:((m:Int)<(a.length:Int))=True:=AAa;(exact iS la lb ax ay hxy i1 i2)
 .have e1:((a.length:Int)=(b.length:Int))=False:=AAb
  have d:decide (a=b)=false:=AAk λh=>hl (by rw[h]);rw[d];(exact vC la lb e1)
abbrev Nt:=Nat×Nat×Nat×Nat
def sLb(b i:Nat):AV:=if i=0 then .nilsl else .sl b 0 1 i
theorem bEQ{vs:List AV}{h:XH}(hl:vs.length<=x17.N):runW progG 17 vs h=eY none x17.res x17.ownR h.length (execW progG 17 h.length none x17.body (aX (if x17.ownA then vs else kI vs)) h):=cJ rfl hl h rfl
section
variable{l:List Nt}{i:Nat}
end
noncomputable def runL(s:CSt):List ByteArray->CSt
 | []=>s
 | x::r=>runL (sayA s x).2 r
noncomputable def ansL(s:CSt):List ByteArray->List ByteArray
 | []=>[]
 | x::r=>(sayA s x).1::ansL (sayA s x).2 r
theorem aCQ:∀{L:List ByteArray}{s:CSt}{i:Nat}{x:ByteArray},L[i]?=some x->runL s (L.take (i+1))=(sayA (runL s (L.take i)) x).2/\ansL s (L.take (i+1))=ansL s (L.take i)++[(sayA (runL s (L.take i)) x).1]
 | [],s,i,x,h=>by simp at h
 | y::r,s,0,x,h=>by
   grind [runL,ansL]
 | y::r,s,i+1,x,h=>by
   obtain⟨h1,h2⟩:=aCQ (L:=r) (s:=(sayA s y).2) (i:=i) (x:=x) (by grind)
   grind [runL,ansL]
theorem aET:∀{L:List ByteArray}{s:CSt},(ansL s L).length=L.length
 | [],_=>rfl
 | x::r,s=>AAs (· + 1) (aET (L:=r))
section
variable{L:List ByteArray}{s:CSt}{i:Nat}
end
end
end Go.Proofs.YtfcdcgplogojbaaGreatDoor
