/- Parts of a proof, joined. No statement of the seed is proved here. -/
import Derived.Test.YtmapgnepfgnphaaGreatDoorH7
set_option linter.unusedSimpArgs false
set_option linter.unusedVariables false
set_option linter.unusedSectionVars false
set_option maxRecDepth 100000
set_option maxHeartbeats 4000000
namespace Go.Proofs.YtmapgnepfgnphaaGreatDoor
open Go Go.DL
variable{s:CSt}{x line:ByteArray}{w:Wd}{v:AV}
theorem rY{α:Type}{f:α→α}{z:α}:∀{l:List (ByteArray×α)}{p:ByteArray×α},p∈mV f z x l→p∈l∨p=(x,z)∨∃ y,(x,y)∈l∧p=(x,f y)
 | [],p,h=>.inr (.inl (by grind [mV]))
 | (k, y)::r,p,h=>by
   unfold mV at h;split at h
   ·rename_i hk
    rcases C3.1 h with h|h;·exact .inr (.inr ⟨y,by rw[←hk];simp,by rw[h,hk]⟩)
    ·exact .inl (D7 _ h)
   ·rcases C3.1 h with h|h
    ·exact .inl (by rw[h];simp)
    ·rcases rY h with h|h|⟨y',h1,h2⟩
     ·exact .inl (D7 _ h)
     ·exact .inr (.inl h)
     ·exact .inr (.inr ⟨y',D7 _ h1,h2⟩)
theorem aAK{α:Type}{f:α→α}{z:α}:∀(l:List (ByteArray×α)),(mV f z x l).length=if (dO l x).isNone then l.length+1 else l.length
 | []=>rfl
 | (k, y)::r=>by
   have ih:=aAK (f:=f) (z:=z) r;have e:dO ((k,y)::r) x=if k=x then some y else dO r x:=by
    unfold dO;show (if k=x then some 0 else (bK (r.map (·.1)) x).map (· + 1)).bind _=_;by_cases hk:k=x;·grind
    ·rw[if_neg hk,if_neg hk]
     cases bK (r.map (·.1)) x<;>rfl
   grind [mV]
theorem jO{d:Int}:∀(l:List (ByteArray×Int)),gV l x d=mV (· + d) d x l
 | []=>rfl
 | (k,y)::r=>by unfold gV mV;rw[jO r]
theorem aBq{α:Type}{f:α→α}{z y:α}{l:List (ByteArray×α)}(h:dO l x=some y):(mV f z x l).map (·.1)=l.map (·.1):=by
 obtain⟨i,h1,h2⟩:=eI h;rw[oF h1 h2];exact kD (cZ h1) rfl
theorem aHo{d:Int}:∀{l:List (ByteArray×Int)}{p:ByteArray×Int},(l.map (·.1)).Nodup→x∈l.map (·.1)→p∈gV l x d→∃ y,(p.1,y)∈l∧p.2=y+if p.1=x then d else 0
 | [],p,_,hx,_=>by cases hx
 | (k, y)::r,p,nd,hx,h=>by
   rw[E5,J5]at nd;unfold gV at h;split at h;·grind
   ·rename_i hk
    rcases C3.1 h with h|h;·exact⟨y,by rw[h];simp,by rw[h];simp[hk]⟩
    ·have hx2:x∈r.map (·.1):=by
      rw[E5]at hx;rcases C3.1 hx with e|e;·exact absurd e.symm hk
      ·exact e
     obtain⟨y',h1,h2⟩:=aHo nd.2 hx2 h;exact⟨y',D7 _ h1,h2⟩
theorem aHC(l:List yL)(k:yL)(x:ByteArray):nN (l++[k]) x=nN l x+if k.farmer=x∧k.void=false then k.net else 0:=by
 simp[nN]
theorem aFm{x:ByteArray}:∀{l:List yL},(∀ k∈l,k.farmer≠x)→nN l x=0
 | [],_=>rfl
 | k::r,h=>by
   have ih:=aFm (l:=r) fun k hk=>h k (D7 _ hk)
   simp_all [nN]
theorem aFl{x:ByteArray}:∀{l:List yL}{i:Nat}{k:yL},l[i]?=some k→k.void=false→nN (l.set i { k with void:=true }) x=nN l x-if k.farmer=x then k.net else 0
 | [],i,k,h,_=>by simp at h
 | k'::r,0,k,h,hv=>by
   rw[E8,oSI]at h;subst h;unfold nN
   grind
 | k'::r,i+1,k,h,hv=>by
   have ih:=aFl (x:=x) (l:=r) (i:=i) (by simpa using h) hv;unfold nN at ih ⊢;rw[List.set_cons_succ,E5,E5,aB9,aB9,ih];omega
theorem aIt{x:ByteArray}(gs:cN s)(hw:IsW (.farmer x) v)(hc:cR s (.farmer x)=none)(hlt:s.book.length<300):cN { fA s (.farmer x)with book:=s.book++[line] }:=by
 have hl:(s.book++[line]).length=s.book.length+1:=by simp
 have bf':∀ p∈s.farmers,-(100000*(s.book.length+1:Nat):Int)≤p.2∧p.2≤100000*(s.book.length+1:Nat):=fun p hp=>by have:=gs.bf p hp;omega
 have bm':∀ p∈s.meters,0≤p.2.1∧p.2.1≤99999∧0≤p.2.2∧p.2.2≤100000*(s.book.length+1:Nat):=fun p hp=>by have:=gs.bm p hp;omega
 have bp':∀ p∈s.pans,0≤p.2∧p.2≤100000*(s.book.length+1:Nat):=fun p hp=>by have:=gs.bp p hp;omega
 have lw':=gs.lw;have lt':=gs.lt;unfold cR at hc;dsimp only at hc;split at hc;·cases hc
 ·rename_i hs
  split at hc;·cases hc
  ·rename_i h9
   have hx:x∉s.farmers.map (·.1):=kC.1 (cH.1 (aDU hs));have l9:=gs.lf;unfold fA;refine⟨by grind,?_,?_,gs.lm,gs.lp,by grind,by grind,gs.cl,fun p hp=>?_,by grind,by grind,gs.bw,fun k hk=>?_,fun p hp=>?_⟩
   ·show ((s.farmers++[(x,(0:Int))]).map (fun p=>p.1)).Nodup
    rw[M4,aE5];exact⟨gs.nf,by simp,fun a ha b hb=>by
     grind⟩
   ·grind
   ·grind
   ·obtain⟨a1,a2,a3,a4⟩:=gs.bt k hk
    grind
   ·rcases C7.1 hp with hp|hp
    ·exact gs.fs p hp
    ·rw[D1]at hp;rw[hp]
     exact(aFm (x:=x) fun k hk e=>hx (by rw[←e];exact(gs.bt k hk).2.2.1)).symm
theorem aJP{x y:ByteArray}{a b:Int}(gs:cN s)(hw:IsW (.wagon x y a b) v)(hc:cR s (.wagon x y a b)=none)(hlt:s.book.length<300):cN { fA s (.wagon x y a b)with book:=s.book++[line] }:=by
 have hl:(s.book++[line]).length=s.book.length+1:=by simp
 have bf':∀ p∈s.farmers,-(100000*(s.book.length+1:Nat):Int)≤p.2∧p.2≤100000*(s.book.length+1:Nat):=fun p hp=>by have:=gs.bf p hp;omega
 have bm':∀ p∈s.meters,0≤p.2.1∧p.2.1≤99999∧0≤p.2.2∧p.2.2≤100000*(s.book.length+1:Nat):=fun p hp=>by have:=gs.bm p hp;omega
 have bp':∀ p∈s.pans,0≤p.2∧p.2≤100000*(s.book.length+1:Nat):=fun p hp=>by have:=gs.bp p hp;omega
 have lw':=gs.lw;have lt':=gs.lt;obtain⟨hb,_⟩:=hw;unfold cR at hc;dsimp only at hc;split at hc;·cases hc
 ·rename_i f hf
  split at hc;·cases hc
  ·rename_i hle
   have hle:=O0.1 hle;have hkf:(gV s.farmers y (a-b)).map (·.1)=s.farmers.map (·.1):=by grind [jO,aBq]
   have hlf:(gV s.farmers y (a-b)).length=s.farmers.length:=by
    have:=AAs List.length hkf
    grind
   unfold fA eV;refine⟨by grind,?_,?_,gs.lm,gs.lp,?_,?_,?_,fun p hp=>?_,by grind,by grind,fun p hp=>?_,fun k hk=>?_,fun p hp=>?_⟩
   ·show ((gV s.farmers y (a-b)).map (·.1)).Nodup
    rw[hkf];exact gs.nf
   ·show (gV s.farmers y (a-b)).length≤9
    rw[hlf];exact gs.lf
   ·grind [aAK]
   ·grind
   ·show s.closed≤(s.tickets++[_]).length
    have:=gs.cl
    grind
   ·rw[hl]
    have hp:p∈gV s.farmers y (a-b):=hp;rw[jO]at hp;rcases rY hp with hp|hp|⟨q,hq,hp⟩;·grind
    ·grind
    ·have:=gs.bf _ hq
     grind
   ·rcases rY hp with hp|hp|⟨q,hq,hp⟩
    ·exact gs.bw p hp
    ·grind
    ·have:=gs.bw _ hq
     grind
   ·show _∧_∧k.farmer∈(gV s.farmers y (a-b)).map (·.1)∧_
    rw[hkf];rcases C7.1 hk with hk|hk;·exact gs.bt k hk
    grind [eI]
   ·obtain⟨i,h1,_⟩:=eI hf
    obtain⟨v0,e1,e2⟩:=aHo gs.nf (B3 (cZ h1)) hp;have e3:=gs.fs _ e1;show p.2=nN (s.tickets++[_]) p.1;rw[aHC,e2]
    grind
theorem aQm{x:ByteArray}{a b:Int}(gs:cN s)(hw:IsW (.pan x a b) v)(hc:cR s (.pan x a b)=none)(hlt:s.book.length<300):cN { fA s (.pan x a b)with book:=s.book++[line] }:=by
 have hl:(s.book++[line]).length=s.book.length+1:=by simp
 have bf':∀ p∈s.farmers,-(100000*(s.book.length+1:Nat):Int)≤p.2∧p.2≤100000*(s.book.length+1:Nat):=fun p hp=>by have:=gs.bf p hp;omega
 have bm':∀ p∈s.meters,0≤p.2.1∧p.2.1≤99999∧0≤p.2.2∧p.2.2≤100000*(s.book.length+1:Nat):=fun p hp=>by have:=gs.bm p hp;omega
 have bp':∀ p∈s.pans,0≤p.2∧p.2≤100000*(s.book.length+1:Nat):=fun p hp=>by have:=gs.bp p hp;omega
 have lw':=gs.lw;have lt':=gs.lt;obtain⟨hb,_⟩:=hw;unfold cR at hc;dsimp only at hc;split at hc;·cases hc
 ·rename_i hle
  have hle:=O0.1 hle;split at hc;·cases hc
  ·rename_i hn
   have l5:=gs.lp;unfold fA;refine⟨by grind,gs.nf,gs.lf,gs.lm,?_,by grind,by grind,gs.cl,by grind,by grind,fun p hp=>?_,gs.bw,gs.bt,gs.fs⟩;·grind [jO,aAK]
   ·rw[hl]
    have hp:p∈gV s.pans x (a-b):=hp;rw[jO]at hp;rcases rY hp with hp|hp|⟨q,hq,hp⟩;·grind
    ·grind
    ·have:=gs.bp _ hq
     grind
theorem aMD{i:Nat}(gs:cN s)(hw:IsW (.void i) v)(hc:cR s (.void i)=none)(hlt:s.book.length<300):cN { fA s (.void i)with book:=s.book++[line] }:=by
 have hl:(s.book++[line]).length=s.book.length+1:=by simp
 have bf':∀ p∈s.farmers,-(100000*(s.book.length+1:Nat):Int)≤p.2∧p.2≤100000*(s.book.length+1:Nat):=fun p hp=>by have:=gs.bf p hp;omega
 have bm':∀ p∈s.meters,0≤p.2.1∧p.2.1≤99999∧0≤p.2.2∧p.2.2≤100000*(s.book.length+1:Nat):=fun p hp=>by have:=gs.bm p hp;omega
 have bp':∀ p∈s.pans,0≤p.2∧p.2≤100000*(s.book.length+1:Nat):=fun p hp=>by have:=gs.bp p hp;omega
 have lw':=gs.lw;have lt':=gs.lt;unfold cR at hc;dsimp only at hc;split at hc;·cases hc
 ·rename_i k hk
  obtain⟨a1,a2,a3,a4⟩:=gs.bt k (B3 hk);obtain⟨j,hj⟩:=xQ a3;obtain⟨f,hjf⟩:=qO hj;have hf:dO s.farmers k.farmer=some f:=by unfold dO;grind
  have hkf:(gV s.farmers k.farmer (-k.net)).map (·.1)=s.farmers.map (·.1):=by grind [jO,aBq]
  have hlf:(gV s.farmers k.farmer (-k.net)).length=s.farmers.length:=by
   have:=AAs List.length hkf
   grind
  have hd:fA s (.void i)={ s with tickets:=s.tickets.set i { k with void:=true },farmers:=gV s.farmers k.farmer (-k.net) }:=by
   unfold fA;grind
  rw[hd];refine⟨by grind,?_,?_,gs.lm,gs.lp,by grind,?_,?_,fun p hp=>?_,by grind,by grind,gs.bw,fun k' hk'=>?_,fun p hp=>?_⟩
  ·show ((gV s.farmers k.farmer (-k.net)).map (·.1)).Nodup
   rw[hkf];exact gs.nf
  ·show (gV s.farmers k.farmer (-k.net)).length≤9
   rw[hlf];exact gs.lf
  ·grind
  ·grind
  ·rw[hl]
   have hp:p∈gV s.farmers k.farmer (-k.net):=hp;rw[jO]at hp;rcases rY hp with hp|hp|⟨q,hq,hp⟩;·grind
   ·grind
   ·have:=gs.bf _ hq
    grind
  ·show _∧_∧k'.farmer∈(gV s.farmers k.farmer (-k.net)).map (·.1)∧_
   rw[hkf];rcases aE0 hk' with hk'|hk';·exact gs.bt k' hk'
   grind
  ·obtain⟨v0,e1,e2⟩:=aHo gs.nf a3 hp
   have e3:v0=nN s.tickets p.1:=gs.fs _ e1;have hvd:k.void=false:=by
    grind
   show p.2=nN (s.tickets.set i _) p.1;rw[aFl hk hvd,e2,e3]
   grind
theorem aJR(gs:cN s)(hw:IsW (.close) v)(hc:cR s (.close)=none)(hlt:s.book.length<300):cN { fA s (.close)with book:=s.book++[line] }:=by
 have hl:(s.book++[line]).length=s.book.length+1:=by simp
 have bf':∀ p∈s.farmers,-(100000*(s.book.length+1:Nat):Int)≤p.2∧p.2≤100000*(s.book.length+1:Nat):=fun p hp=>by have:=gs.bf p hp;omega
 have bm':∀ p∈s.meters,0≤p.2.1∧p.2.1≤99999∧0≤p.2.2∧p.2.2≤100000*(s.book.length+1:Nat):=fun p hp=>by have:=gs.bm p hp;omega
 have bp':∀ p∈s.pans,0≤p.2∧p.2≤100000*(s.book.length+1:Nat):=fun p hp=>by have:=gs.bp p hp;omega
 have lw':=gs.lw;have lt':=gs.lt;unfold fA;exact⟨by grind,gs.nf,gs.lf,gs.lm,gs.lp,by grind,by grind,B5 _,by grind,by grind,by grind,gs.bw,gs.bt,gs.fs⟩
theorem aJQ{x:ByteArray}{n:Int}(gs:cN s)(hw:IsW (.meter x n) v)(hc:cR s (.meter x n)=none)(hlt:s.book.length<300):cN { fA s (.meter x n)with book:=s.book++[line] }:=by
 have hl:(s.book++[line]).length=s.book.length+1:=by simp
 have bf':∀ p∈s.farmers,-(100000*(s.book.length+1:Nat):Int)≤p.2∧p.2≤100000*(s.book.length+1:Nat):=fun p hp=>by have:=gs.bf p hp;omega
 have bm':∀ p∈s.meters,0≤p.2.1∧p.2.1≤99999∧0≤p.2.2∧p.2.2≤100000*(s.book.length+1:Nat):=fun p hp=>by have:=gs.bm p hp;omega
 have bp':∀ p∈s.pans,0≤p.2∧p.2≤100000*(s.book.length+1:Nat):=fun p hp=>by have:=gs.bp p hp;omega
 have lw':=gs.lw;have lt':=gs.lt;obtain⟨hb,_⟩:=hw;unfold cR at hc;dsimp only at hc;split at hc;·cases hc
 ·rename_i hn
  have l5:=gs.lm;unfold fA;refine⟨by grind,gs.nf,gs.lf,?_,gs.lp,by grind,by grind,gs.cl,by grind,fun p hp=>?_,by grind,gs.bw,gs.bt,gs.fs⟩;·grind [aAK]
  ·rw[hl]
   rcases rY hp with hp|hp|⟨q,hq,hp⟩;·grind
   ·grind
   ·have:=gs.bm _ hq
    rw[hp];unfold mtr;grind
theorem aTP(gs:cN s)(hw:IsW w v)(ha:w.asks=false)(hc:cR s w=none)(hlt:s.book.length<300):cN { fA s w with book:=s.book++[line] }:=by
 cases w with
 | farmer x=>grind [aIt]
 | wagon x y a b=>grind [aJP]
 | void i=>grind [aMD]
 | close=>grind [aJR]
 | meter x n=>grind [aJQ]
 | pan x a b=>grind [aQm]
 | _=>cases ha
theorem aIr{P:CSt→ByteArray→Int}(gs:cN s){r:Int ⊕ Wd}(hr:∀ w,r = .inr w→∃ v,IsW w v):cN (pT P s line r).2:=by
 cases r with
 | inl e=>exact gs
 | inr w =>
   obtain⟨v,hw⟩:=hr w rfl;unfold pT;dsimp only;cases ha:w.asks with
   | true =>
     grind
   | false =>
     simp only[C8,AAd];cases hc:cR s w with
     | some e=>exact gs
     | none =>
       dsimp only;by_cases hl:s.book.length=300;·grind
       ·rw[if_neg hl];exact aTP gs hw ha hc (by have:=gs.book;omega)
end Go.Proofs.YtmapgnepfgnphaaGreatDoor
namespace Go.DL
section
variable{D:Nat→Option XFn}{Y:Nat→Option YI}{r:Nat→Option Nat}
theorem aGR{b:Nat}:∀{vs:List AV},b∈lE vs→∃(i:Nat)(v:AV),vs[i]?=some v∧b∈jS v
 | [],h=>by simp[lE]at h
 | v::l,h=>by
   simp only[lE,C7]at h;rcases h with h|h;·exact⟨0,v,rfl,h⟩
   ·obtain⟨i,v',h1,h2⟩:=aGR h
    exact⟨i+1,v',h1,h2⟩
theorem aPd{v v':AV}(h:Rn D Y r v v'):∀ b∈jS v,∃ c,r b=some c:=by
 have many:∀{xs ys:List AV},xs.length=ys.length→(∀(i:Nat)(x y:AV),xs[i]?=some x→ys[i]?=some y→∀ b∈jS x,∃ c,r b=some c)→∀ b∈lE xs,∃ c,r b=some c:=fun {xs ys} hl ih b hb=>by
  grind [aGR]
 induction h with
 | agg xs ys hl h ih=>grind [jS]
 | tup xs ys hl h ih=>grind [jS]
 | fn f xs ys us vs hf hl1 h1 hl2 h2 ih1 ih2 =>
   intro b hb;simp only[jS,C7]at hb
   grind
 | ifc t x y h ih=>grind [jS]
 | yield l c hr=>grind [jS]
 | sl b c o s n hr=>grind [jS]
 | pt b c o hr=>grind [jS]
 | mp b c hr=>grind [jS]
 | sb b c n hr=>grind [jS]
 | bp b c hr=>grind [jS]
 | _=>intro b hb;simp[jS]at hb
theorem aWy{xs ys:List AV}(h:RnL D Y r xs ys):∀ b∈lE xs,∃ c,r b=some c:=fun b hb=>by
 grind [aGR,aPd,RnL]
theorem bBG{h:XH}{H:Hp}(sh:SHb D Y r h H):Cd h:=by
 intro x hx b hb;cases x with
 | none=>simp[nmO]at hb
 | some x =>
   obtain⟨i,hi⟩:=G7 hx;have ha:hat h i=some x:=by simp_all [hat]
   obtain⟨⟨g,y,rfl⟩,c,z,h1,h2,h3⟩:=sh.blk i x ha;have hb:b∈nmB (.blk g y):=hb;cases h3 with
   | cells _ w xs ys hl hg =>
     cases g with
     | true=>simp[nmB]at hb
     | false =>
       obtain⟨c',hc'⟩:=aWy hl b hb;exact sh.dom b c' hc'
   | map _ w xs ys hl hg =>
     cases g with
     | true=>simp[nmB]at hb
     | false =>
       have hb:b∈xs.flatMap fun p=>jS p.1++jS p.2:=hb;obtain⟨p,hp,hb⟩:=O5.1 hb;obtain⟨j,hj⟩:=G7 hp;have hlt:j<ys.length:=by rw[←hl.1];grind
       obtain⟨k1,k2⟩:=hl.2 j p _ hj (B6 hlt);rcases C7.1 hb with hb|hb
       ·obtain⟨c',hc'⟩:=aPd k1 b hb
        exact sh.dom b c' hc'
       ·obtain⟨c',hc'⟩:=aPd k2 b hb
        exact sh.dom b c' hc'
   | obj _ w o=>cases g<;>simp[nmB]at hb
end
end Go.DL
namespace Go.Proofs.YtmapgnepfgnphaaGreatDoor
open Go Go.DL
variable{h h':XH}{L:CL}{s:CSt}
def IsClk(s:CSt):Hp→Nat→Prop:=fun H b=>cN s∧∃ h L,aG h=H∧Lays h L s∧L.c=b
theorem Od.hp{l:OL}{ks:List ByteArray}{vs:List (List AV)}{t:Int}(e:aG h=aG h')(od:Od h l ks vs t):Od h' l ks vs t:=⟨⟨fun p hp=>by rw[←e];exact od.hd.1 p hp,od.hd.2⟩,od.ek,od.vk⟩
theorem Lays.hp(e:aG h=aG h')(ly:Lays h L s):Lays h' L s where
 hc:=by rw[←e];exact ly.hc
 tk:=⟨ly.tk.el,fun hk=>by rw[←e];exact ly.tk.hb hk,fun i a k h1 h2=>by rw[←e];exact ly.tk.he i a k h1 h2,ly.tk.nd,ly.tk.nb⟩
 bk hk:=by rw[←e];exact ly.bk hk
 f:=ly.f.hp e
 m:=ly.m.hp e
 p:=ly.p.hp e
 w:=ly.w.hp e
 dj:=ly.dj
theorem IsClk.open{c:Nat}(hi:IsClk s (aG h) c):cN s∧∃ L,Lays h L s∧L.c=c:=by
 obtain⟨gs,h0,L,e,ly,hc⟩:=hi;exact⟨gs,L,ly.hp e,hc⟩
end Go.Proofs.YtmapgnepfgnphaaGreatDoor
namespace Go.DL
section
variable{D D':Nat→Option XFn}{Y Y':Nat→Option YI}{r:Nat→Option Nat}
theorem aPf{v v':AV}(h:Rn D Y r v v'):Rn D' Y' r v v':=by
 induction h with
 | any v=>exact .any v
 | int k n=>exact .int k n
 | bool b=>exact .bool b
 | str s=>exact .str s
 | agg xs ys hl h ih=>exact .agg xs ys hl ih
 | tup xs ys hl h ih=>exact .tup xs ys hl ih
 | fs rows h=>exact .fs rows h
 | fp rows i o h=>exact .fp rows i o h
 | sl b c o s n hr=>exact .sl b c o s n hr
 | pt b c o hr=>exact .pt b c o hr
 | mp b c hr=>exact .mp b c hr
 | sb b c n hr=>exact .sb b c n hr
 | bp b c hr=>exact .bp b c hr
 | nilsl=>exact .nilsl
 | nilpt=>exact .nilpt
 | nilmap=>exact .nilmap
 | nilfn=>exact .nilfn
 | nilifc=>exact .nilifc
 | fn f xs ys us vs hf hl1 h1 hl2 h2 ih1 ih2=>exact .fn f xs ys us vs hf hl1 ih1 hl2 ih2
 | yield l c hr=>exact .yield l c hr
 | ifc t x y h ih=>exact .ifc t x y ih
def aBR(J:List Nat)(h:XH):XH:=h.mapIdx fun i x=>if i∈J then x else none
theorem aDW{J:List Nat}{h:XH}{i:Nat}:hat (aBR J h) i=if i∈J then hat h i else none:=by
 unfold aBR hat
 grind
theorem aOz{h:XH}{H:Hp}(sh:SH D Y r h H){J:List Nat}(hJ:∀ i∈J,∃ x,aG h i=some x):SHb D' Y' r (aBR J h) H:=by
 refine⟨fun b c hb=>by unfold aBR;rw[List.length_mapIdx];exact sh.dom b c hb,fun b b' c x y hx hy h1 h2=>?_,fun b x hx=>?_⟩
 ·rw[aDW]at hx hy
  split at hx
  ·split at hy
   ·exact sh.inj b b' c x y hx hy h1 h2
   ·cases hy
  ·cases hx
 ·rw[aDW]at hx
  split at hx
  ·rename_i hb
   obtain⟨c,y,k1,k2,k3⟩:=sh.blk b x hx;obtain⟨z,hz⟩:=hJ b hb;unfold aG at hz;rw[hx]at hz;cases x with
   | blk g w =>
     refine⟨⟨g,w,rfl⟩,c,y,k1,k2,?_⟩;cases k3 with
     | cells _ w xs ys hl hg=>exact .cells c _ _ _ _ ⟨hl.1,fun i a b ha hb=>aPf (hl.2 i a b ha hb)⟩ hg
     | map _ w xs ys hl hg=>exact .map c _ _ _ _ ⟨hl.1,fun i a b ha hb=>⟨aPf (hl.2 i a b ha hb).1,aPf (hl.2 i a b ha hb).2⟩⟩ hg
     | obj _ w o=>exact .obj c _ _ _
   | _=>cases hz
  ·cases hx
end
end Go.DL
namespace Go.Proofs.YtmapgnepfgnphaaGreatDoor
open Go Go.DL
section
variable{h h':XH}{L:CL}{s:CSt}
theorem Lays.only(ly:Lays h L s):Lays (aBR (yJ L s) h) L s:=by
 refine ly.fr (J:=(List.range h.length).filter fun b=>decide (b∉yJ L s)) ⟨fun b hb hn=>?_,by simp[aBR]⟩ fun j b hb hm=>?_
 ·have:b∈yJ L s:=Classical.byContradiction fun q=>hn (by grind)
  unfold aG;rw[aDW,if_pos this]
 grind [bE]
section
variable{D:Nat→Option XFn}{P:CSt→ByteArray→Int}{rd:ByteArray→Int ⊕ Wd}
open Classical in
noncomputable def pmSay(P:CSt→ByteArray→Int)(rd:ByteArray→Int ⊕ Wd):List AV→XH→Option (AV×XH):=fun xs h=>match xs,h with
 | [.pt 0 0,.str line],[some (.gh s p)]=>if p=IsClk s then some (.str (pT P s line (rd line)).1,[some (.gh (pT P s line (rd line)).2 (IsClk (pT P s line (rd line)).2))]) else none
 | _,_=>none
def RdOk(rd:ByteArray→Int ⊕ Wd):Prop:=∀ line,Prs line (rd line)∧∀ e,rd line = .inl e→e∈nJ
theorem nU{x:XB}{b:Nat}{y:XB}(h:hat [some x] b=some y):b=0∧y=x:=by
 grind [hat]
theorem aIu{Y:Nat→Option YI}{r:Nat→Option Nat}{H':Hp}{c:Nat}{s':CSt}(hdm:∀ b c,r b=some c→b<1)(hrc:r 0=some c){D3:Nat→Option XFn}{Y3:Nat→Option YI}{r3:Nat→Option Nat}{h3:XH}{L3:CL}(sh3:SH D3 Y3 r3 h3 H')(h3c:r3 L3.c=some c)(ly3:Lays h3 L3 s')(gs:cN s') :
 SH D Y r [some (.gh s' (IsClk s'))] H':=by
 have hJ:∀ i∈yJ L3 s',∃ x,aG h3 i=some x:=fun i hi=>by
  obtain⟨j,hj⟩:=bE.1 hi;exact ly3.live j i hj
 refine⟨fun b c hb=>hdm b c hb,fun b b' c x y hx hy _ _=>(nU hx).1.trans (nU hy).1.symm,fun b x hx=>?_,fun _ n=>∃ i x,hat (aBR (yJ L3 s') h3) i=some x∧r3 i=some n,fun b st q hb=>?_,fun b b' st q x n hb hb' hne _=>absurd ((nU hb).1.trans (nU hb').1.symm) hne⟩
 ·obtain⟨rfl,rfl⟩:=nU hx
  obtain⟨g,hg⟩:=aC ly3.hc;obtain⟨c',y,k1,k2,_⟩:=sh3.blk _ _ hg;rw[h3c]at k1;cases k1;exact⟨c,y,hrc,k2,.gh c _ _ y⟩
 ·obtain⟨rfl,e⟩:=nU hb
  cases e;exact⟨c,hrc,aBR (yJ L3 s') h3,r3,L3.c,fun D' Y'=>aOz sh3 hJ,h3c,⟨gs,_,L3,rfl,ly3.only,rfl⟩,fun n=>Iff.rfl⟩
open Classical in
noncomputable def pmSayG(Fine:CSt→ByteArray→Prop)(A:CSt→ByteArray→ByteArray×CSt):List AV→XH→Option (AV×XH):=fun xs h=>match xs,h with
 | [.pt 0 0,.str line],[some (.gh s p)]=>if p=IsClk s∧Fine s line then some (.str (A s line).1,[some (.gh (A s line).2 (IsClk (A s line).2))]) else none
 | _,_=>none
theorem aWE{Fine:CSt→ByteArray→Prop}{A:CSt→ByteArray→ByteArray×CSt}(hF:∀(s:CSt)(line:ByteArray)(h:XH)(L:CL),Fine s line→Lays h L s→Cd h→cN s→aFd h L line (A s line).2 (A s line).1∧cN (A s line).2):iB D 21 (pmSayG Fine A):=by
 intro B Y r h H xs ys v h' sh hr hx;unfold pmSayG at hx;split at hx
 ·rename_i line s p
  split at hx
  ·rename_i hp
   obtain⟨hp,hfine⟩:=hp;subst hp;cases hx;obtain⟨G,hG⟩:=sh.gh;obtain⟨c,hrc,h0,r0,b0,shb,hb0,hi,hS⟩:=hG.1 0 s _ rfl;obtain⟨gs,L,ly,hL⟩:=hi.open;have sb:=shb aB (fun _=>none);have s0:SH aB (fun _=>none) r0 h0 H:=⟨sb.dom,sb.inj,fun b x hb=>(sb.blk b x hb).2,GhR.no fun b st p hb=>by obtain⟨g,y,e⟩:=(sb.blk b _ hb).1;cases e⟩;obtain⟨⟨h3,L3,body,ly3,hL3⟩,gsay⟩:=hF s line h0 L hfine ly (bBG sb) gs;obtain⟨a,as1,rfl,q1,q2⟩:=hr.inv;obtain⟨b,as2,rfl,q3,q4⟩:=q2.inv;rw[q4.nil_inv];obtain⟨c',rfl,hc'⟩:=lW q1;rw[hrc]at hc';cases hc';rw[dH q3];have hA:RnL aB (fun _=>none) r0 [.pt L.c 0,.str line] [.pt c 0,.str line]:=RnL.cons (.pt _ _ _ (by grind)) (RnL.cons (.str _) RnL.nil);have hlen:(h0++nD).length=h0.length+1:=by simp[nD]
   have fw:=aSZ (B:=B) (h:=h0) (h1:=h0++nD) (e1:=aX (aT [.pt L.c 0,.str line]) (some 4) (.pt h0.length 0)) aA aCl rfl (xs:=[.pt L.c 0,.str line]) (by simp) rfl rfl AT (by rw[hlen];exact body) (Y:=fun _=>none) (fun l i h=>by simp at h) s0 hA;have cv:CallV B Tryz.prog (.fn (.func 21) [] []) [.pt c 0,.str line] H (eO aB (fun _=>none) r0 (.str (A s line).1) h3):=fw;suffices goal:CallV B Tryz.prog (.fn (.func 21) [] []) [.pt c 0,.str line] H (eO D Y r (.str (A s line).1) [some (.gh (A s line).2 (IsClk (A s line).2))]) from goal
   refine CallV.mono cv fun v' H' hq=>?_;obtain⟨r3,ha,sh3,hv⟩:=hq;refine⟨r,fun b c hb=>hb,aIu (fun b c hb=>sh.dom b c hb) hrc sh3 (ha _ _ (by grind)) ly3 gsay,by rw[dH hv];exact .str _⟩
  ·cases hx
 ·cases hx
theorem aZh(pok:aLF P)(rok:RdOk rd):iB D 21 (pmSay P rd):=by
 have h0:iB D 21 (pmSayG (fun _ _=>True) fun s line=>pT P s line (rd line)):=aWE fun s line h L _ ly cd gs=>⟨aTd pok ly cd gs (rok line).1 (rok line).2,aIr gs fun w hw=>by
  have:=(rok line).1;rw[hw]at this;obtain⟨v,_,k,_⟩:=this
  grind⟩
 intro B Y r h H xs ys v h' sh hr hx;refine h0 B Y r h H xs ys v h' sh hr ?_;unfold pmSay at hx;split at hx
 ·split at hx
  ·rename_i hp
   cases hx;unfold pmSayG
   grind
  ·cases hx
 ·cases hx
end
end
section
section
variable{D:Nat→Option XFn}{B:Base}
theorem aMo{K:Nat}{ys:List AV}{v:AV}{h1 h2:XH}{r1:Nat→Option Nat}{H:Hp}(sb:SHb aB (fun _=>none) r1 h1 (iI H))(hcall:∀ H1,SH aB (fun _=>none) r1 h1 H1→FnW B Tryz.prog K ys H1 (eO aB (fun _=>none) r1 v h2))
 (hk:∀ b x,hat h1 b=some x→∃ y,hat h2 b=some y) (hv:∀(r:Nat→Option Nat) v',Rn aB (fun _=>none) r v v'→v'=v) :
 CallV B Tryz.prog (.fn (.func K) [] []) ys H fun v' H'=>v'=v∧H'=H:=by
 classical
 have g1:SH aB (fun _=>none) r1 h1 (fun c=>if ∃ b x,hat h1 b=some x∧r1 b=some c then iI H c else none):=by
  refine⟨sb.dom,sb.inj,fun b x hb=>?_,GhR.no fun b st p hb=>by obtain⟨g,y,e⟩:=(sb.blk b _ hb).1;cases e⟩;obtain⟨_,c,y,k1,k2,k3⟩:=sb.blk b x hb;exact⟨c,y,k1,by rw[if_pos ⟨b,x,hb,k1⟩];exact k2,k3⟩
 have fw:=hcall _ g1;have hn:[]++ys++[]=ys:=by simp
 rw[←hn]at fw;have q1:=CallV.quietOf (v:=v) (CallV.mono (CallV.frameS (fv:=.fn (.func K) [] []) (fun c=>∃ b x,hat h1 b=some x∧r1 b=some c) fw) (by
  rintro v' H'' ⟨H',⟨rl,m1,m2,m3⟩,e1,e2⟩;refine⟨hv _ _ m3,fun c hc=>?_⟩;obtain⟨x,hx⟩:=C6.1 hc;by_cases hS:∃ b x,hat h1 b=some x∧r1 b=some c
  ·rw[e1 c (.inl hS)]
   obtain⟨b,x,hb,hrb⟩:=hS;obtain⟨y,hy⟩:=hk b x hb;obtain⟨c',y',n1,n2,_⟩:=m2.blk b y hy;have:=m1 b c hrb
   grind
  simp_all))
 refine q1.conv fun F w st=>⟨aJt st,?_⟩;rintro e w' ⟨q,v',F',H',rfl,h2,h3,h4,rfl,rfl⟩;obtain⟨a,b⟩:=aBB st h2 h3;exact⟨q,_,F',H,rfl,a,b,h4,rfl,rfl⟩
theorem tK{K:Nat}{xs ys:List AV}{v:AV}{h1 h2:XH}{r1:Nat→Option Nat}{H:Hp}(sb:SHb aB (fun _=>none) r1 h1 (iI H))(hrun:runW aB K xs h1=some (v,h2))(hA:RnL aB (fun _=>none) r1 xs ys)
 (hk:∀ b x,hat h1 b=some x→∃ y,hat h2 b=some y) (hv:∀(r:Nat→Option Nat) v',Rn aB (fun _=>none) r v v'→v'=v) :
 CallV B Tryz.prog (.fn (.func K) [] []) ys H fun v' H'=>v'=v∧H'=H :=
 aMo sb (fun H1 s1=>(aAv aA B (fun _=>none) (fun l i h=>by simp at h)).1 r1 h1 _ K xs ys v h2 s1 hA hrun) hk hv
abbrev aAc:List AV:=[.nilpt,.nilpt,.nilpt,.nilpt,.nilsl,I 0,.nilsl]
theorem bCc{g w:Bool}{k:XH}:runW aB 59 [.pt 0 0] (some (.blk g (.cells w aAc))::k)=some (.bool true,some (.blk g (.cells w aAc))::k):=by
 rw[qY 59 x59 rfl];unfold x59;dsimp only;(exact yC)
theorem bCd{h:XH}:runW aB 59 [.nilpt] h=some (.bool true,h):=by
 rw[qY 59 x59 rfl];unfold x59;dsimp only;(exact yC)
theorem bCn:runW aB 23 [.nilpt] []=some (.str ⟨⟨[]⟩⟩,[]):=by
 have c:=bCd (h:=[]);rw[qX 23 x23 rfl];unfold x23;dsimp only;(exact cK c)
theorem bCm:runW aB 23 [.pt 0 0] [some (.blk false (.cells false aAc))]=some (.str ⟨⟨[]⟩⟩,[some (.blk false (.cells false aAc))]):=by
 have c:=bCc (g:=false) (w:=false) (k:=[]);rw[qX 23 x23 rfl];unfold x23;dsimp only;(exact cK c)
theorem aTk{D':Nat→Option XFn}{Y Y':Nat→Option YI}{r r':Nat→Option Nat}{ys:List AV}(h:RnL D Y r aAc ys):RnL D' Y' r' aAc ys:=by
 obtain⟨y0,_,rfl,w0,h⟩:=h.inv;obtain⟨y1,_,rfl,w1,h⟩:=h.inv;obtain⟨y2,_,rfl,w2,h⟩:=h.inv;obtain⟨y3,_,rfl,w3,h⟩:=h.inv;obtain⟨y4,_,rfl,w4,h⟩:=h.inv;obtain⟨y5,_,rfl,w5,h⟩:=h.inv;obtain⟨y6,_,rfl,w6,h⟩:=h.inv;rw[h.nil_inv];cases w0;cases w1;cases w2;cases w3;cases w4;cases w5;cases w6;exact RnL.cons .nilpt (RnL.cons .nilpt (RnL.cons .nilpt (RnL.cons .nilpt (RnL.cons .nilsl (RnL.cons (.int _ _) (RnL.cons .nilsl RnL.nil))))))
theorem aSY{Y:Nat→Option YI}{r:Nat→Option Nat}{H:Hp}{g:Bool}(sh:SH D Y r [some (.blk g (.cells true aAc))] H):SHb aB (fun _=>none) r [some (.blk false (.cells false aAc))] (iI H):=by
 refine⟨fun b c hb=>sh.dom b c hb,fun b b' c x y hx hy _ _=>(nU hx).1.trans (nU hy).1.symm,fun b x hx=>?_⟩;obtain⟨rfl,rfl⟩:=nU hx;obtain⟨c,y,k1,k2,k3⟩:=sh.blk 0 _ rfl;refine⟨⟨_,_,rfl⟩,c,?_⟩;cases k3 with
 | cells _ _ _ ys hl hg=>exact⟨_,k1,by unfold iI;rw[k2];rfl,.cells _ _ _ _ _ (aTk hl) (by simp)⟩
open Classical in
noncomputable def pmSave:List AV→XH→Option (AV×XH):=fun xs h=>match xs,h with
 | [.pt 0 0],[some (.gh s p)]=>if p=IsClk s then some (.str (jJ s.book),[some (.gh s p)]) else none
 | [.nilpt],[]=>some (.str ⟨⟨[]⟩⟩,[])
 | [.pt 0 0],[some (.blk g (.cells true cs))]=>if cs=aAc then some (.str ⟨⟨[]⟩⟩,[some (.blk g (.cells true cs))]) else none
 | _,_=>none
theorem aPg{r r':Nat→Option Nat}:∀{l:List ByteArray}{ys:List AV},RnL aB (fun _=>none) r (cO l) ys→RnL aB (fun _=>none) r' (cO l) ys
 | [],ys,h=>by grind [RnL,cO]
 | x::l,ys,h=>by
   obtain⟨y,ys',rfl,h1,h2⟩:=RnL.inv (xs:=cO l) h;rw[dH h1];exact RnL.cons (.str _) (aPg h2)
theorem aZg:iB D 23 pmSave:=by
 intro B Y r h H xs ys v h' sh hr hx;unfold pmSave at hx;split at hx
 ·rename_i s p
  split at hx
  ·rename_i hp
   subst hp;cases hx;obtain⟨G,hG⟩:=sh.gh;obtain⟨c,hrc,h0,r0,b0,shb,hb0,hi,hS⟩:=hG.1 0 s _ rfl;obtain⟨gs,L,ly,hL⟩:=hi.open;have sb:=shb aB (fun _=>none);obtain⟨a,as1,rfl,q1,q2⟩:=hr.inv;rw[q2.nil_inv];obtain⟨c',rfl,hc'⟩:=lW q1;rw[hrc]at hc';cases hc';suffices hq:CallV B Tryz.prog (.fn (.func 23) [] []) [.pt c 0] H fun v' H'=>v' = .str (jJ s.book)∧H'=H by
    suffices goal:CallV B Tryz.prog (.fn (.func 23) [] []) [.pt c 0] H (eO D Y r (.str (jJ s.book)) [some (.gh s (IsClk s))]) from goal
    refine CallV.mono hq fun v' H' e=>?_;obtain⟨rfl,rfl⟩:=e;exact⟨r,fun b c hb=>hb,sh,.str _⟩
   obtain⟨g,hc⟩:=aC ly.hc;obtain⟨_,c1,y,k1,k2,k3⟩:=sb.blk _ _ hc;have e1:c1=c:=by grind
   subst e1;cases k3 with
   | cells _ _ _ ys hl hg =>
     unfold cF at hl;obtain⟨y0,_,rfl,w0,hl⟩:=hl.inv;obtain⟨y1,_,rfl,_,hl⟩:=hl.inv;obtain⟨y2,_,rfl,_,hl⟩:=hl.inv;obtain⟨y3,_,rfl,_,hl⟩:=hl.inv;obtain⟨y4,_,rfl,_,hl⟩:=hl.inv;obtain⟨y5,_,rfl,_,hl⟩:=hl.inv;obtain⟨y6,_,rfl,w6,hl⟩:=hl.inv;rw[hl.nil_inv]at k2;obtain⟨f,rfl,hf⟩:=lW w0;have hro:iI H c1=some (.cells false [.pt f 0,y1,y2,y3,y4,y5,y6]):=by unfold iI;rw[k2];rfl
     by_cases hk:s.book.length=0
     ·have hb:s.book=[]:=D0 hk
      have w6:Rn aB (fun _=>none) r0 (iG L.kb s.book.length) y6:=w6;rw[hk]at w6;have h6:y6 = .nilsl:=by cases w6;rfl
      subst h6;have hs:jJ s.book=tU:=by rw[hb];rfl
      rw[hs];refine tK (r1:=fun i=>if i=0 then some c1 else if i=1 then some f else none) ⟨fun b c hb=>?_,fun b b' c x y hx hy _ _=>?_,fun b x hx=>?_⟩ bCl (RnL.cons (.pt _ _ _ rfl) RnL.nil) (fun b x hx=>?_) fun r v' hv=>dH hv;·grind
      ·have f0:∀ b x,hat [cr0 .nilsl,none] b=some x→b=0:=fun b x h=>by
        match b,h with
        | 0,_=>rfl
        | 1,h=>cases h
        | _+2,h=>simp[hat]at h
       grind
      ·match b,hx with
       | 0,hx =>
         cases hx;exact⟨⟨_,_,rfl⟩,c1,_,rfl,hro,.cells _ _ _ _ _ (RnL.cons (.pt _ _ _ rfl) (RnL.cons (.any _) (RnL.cons (.any _) (RnL.cons (.any _) (RnL.cons (.any _) (RnL.cons (.any _) (RnL.cons .nilsl RnL.nil))))))) (by simp)⟩
       | 1,hx=>cases hx
       | _+2,hx=>simp[hat]at hx
      ·match b,hx with
       | 0,_=>exact⟨_,rfl⟩
       | 1,hx=>cases hx
       | _+2,hx=>simp[hat]at hx
     ·have w6:Rn aB (fun _=>none) r0 (iG L.kb s.book.length) y6:=w6
      have hkb:=ly.bk AT;have ev:iG L.kb s.book.length = .sl L.kb 0 1 s.book.length:=by
       unfold iG;grind
      rw[ev]at w6;obtain⟨kb,rfl,hkb'⟩:∃ kb,y6 = .sl kb 0 1 s.book.length∧r0 L.kb=some kb:=by cases w6;grind
      obtain⟨g2,hc2⟩:=aC hkb;obtain⟨_,c2,z,m1,m2,m3⟩:=sb.blk _ _ hc2;rw[hkb']at m1;cases m1;cases m3 with
      | cells _ _ _ ys hl2 hg2 =>
      have hro2:iI H kb=some (.cells false ys):=by unfold iI;rw[m2];rfl
      have hne:c1≠kb:=fun e=>by
       subst e;have:=sb.inj _ _ _ _ _ hc hc2 k1 hkb';have h1:=ly.dj 0 2 L.c (by simp[px]) (by rw[this];show L.kb∈pB L.kb s.book.length;grind [cB]);cases h1
      refine tK (r1:=fun i=>if i=0 then some c1 else if i=1 then some f else if i=2 then some kb else none) ⟨fun b c hb=>?_,fun b b' c x y hx hy a1 a2=>?_,fun b x hx=>?_⟩ (w23 (B:=s.book) AT gs.book) (RnL.cons (.pt _ _ _ rfl) RnL.nil) (fun b x hx=>?_) fun r v' hv=>dH hv;·grind
      ·have f0:∀ b x,hat [cr0 (.sl 2 0 1 s.book.length),none,yW s.book] b=some x→b=0∨b=2:=fun b x h=>by
        match b,h with
        | 0,_=>omega
        | 1,h=>cases h
        | 2,_=>omega
        | _+3,h=>simp[hat]at h
       grind
      ·match b,hx with
       | 0,hx =>
         cases hx;exact⟨⟨_,_,rfl⟩,c1,_,rfl,hro,.cells _ _ _ _ _ (RnL.cons (.pt _ _ _ rfl) (RnL.cons (.any _) (RnL.cons (.any _) (RnL.cons (.any _) (RnL.cons (.any _) (RnL.cons (.any _) (RnL.cons (.sl _ _ _ _ _ rfl) RnL.nil))))))) (by simp)⟩
       | 1,hx=>cases hx
       | 2,hx =>
         cases hx;exact⟨⟨_,_,rfl⟩,kb,_,rfl,hro2,.cells _ _ _ _ _ (aPg hl2) fun _=>eP _⟩
       | _+3,hx=>simp[hat]at hx
      ·match b,hx with
       | 0,_=>exact⟨_,rfl⟩
       | 1,hx=>cases hx
       | 2,_=>exact⟨_,rfl⟩
       | _+3,hx=>simp[hat]at hx
  ·cases hx
 ·cases hx
  obtain⟨a,as1,rfl,q1,q2⟩:=hr.inv;rw[q2.nil_inv];have q3:a = .nilpt:=by cases q1;rfl
  subst q3;refine(show CallV B Tryz.prog (.fn (.func 23) [] []) [.nilpt] H (eO D Y r (.str ⟨⟨[]⟩⟩) []) from CallV.mono (tK (h1:=[]) (r1:=fun _=>none) ⟨fun b c hb=>(by cases hb),fun b b' c x y hx=>by grind,fun b x hx=>by simp[hat]at hx⟩ bCn (RnL.cons .nilpt RnL.nil) (fun b x hx=>by grind) fun r v' hv=>dH hv) fun v' H' e=>?_);obtain⟨rfl,rfl⟩:=e;exact⟨r,fun b c hb=>hb,sh,.str _⟩
 ·rename_i g cs
  split at hx
  ·rename_i hp
   subst hp;cases hx;obtain⟨a,as1,rfl,q1,q2⟩:=hr.inv;rw[q2.nil_inv];obtain⟨c,rfl,hc⟩:=lW q1;refine(show CallV B Tryz.prog (.fn (.func 23) [] []) [.pt c 0] H (eO D Y r (.str ⟨⟨[]⟩⟩) _) from CallV.mono (tK (r1:=r) (aSY sh) bCm (RnL.cons (.pt _ _ _ hc) RnL.nil) (fun b x hx=>⟨_,hx⟩) fun r v' hv=>dH hv) fun v' H' e=>?_);obtain⟨rfl,rfl⟩:=e;exact⟨r,fun b c hb=>hb,sh,.str _⟩
  ·cases hx
 ·cases hx
end
end
section
theorem w52{n:Int}:runW aB 52 [I n] []=some (.pt 0 0,[ab [.nilsl,.mp 1,I n],some (.blk true (.map true []))]):=by
 rw[qX 52 x52 rfl];unfold x52;dsimp only;(exact yC)
theorem w53{n:Int}:runW aB 53 [I n] []=some (.pt 0 0,[ab [.nilsl,.mp 1,I n],some (.blk true (.map true []))]):=by
 rw[qX 53 x53 rfl];unfold x53;dsimp only;(exact yC)
theorem w54{n:Int}:runW aB 54 [I n] []=some (.pt 0 0,[ab [.nilsl,.mp 1,I n],some (.blk true (.map true []))]):=by
 rw[qX 54 x54 rfl];unfold x54;dsimp only;(exact yC)
theorem w55{n:Int}:runW aB 55 [I n] []=some (.pt 0 0,[ab [.nilsl,.mp 1,I n],some (.blk true (.map true []))]):=by
 rw[qX 55 x55 rfl];unfold x55;dsimp only;(exact yC)
def aJN:XH:=[ab [.pt 1 0,.pt 3 0,.pt 5 0,.pt 7 0,.nilsl,I 0,.nilsl],ab [.nilsl,.mp 2,I 9],some (.blk true (.map true [])),ab [.nilsl,.mp 4,I 5],some (.blk true (.map true [])),ab [.nilsl,.mp 6,I 5],some (.blk true (.map true [])),ab [.nilsl,.mp 8,I 300],some (.blk true (.map true []))]
theorem w19:runW aB 19 [] []=some (.pt 0 0,aJN):=by
 have a:=w52 (n:=9);have b:=w53 (n:=5);have c:=w54 (n:=5);have d:=w55 (n:=300);rw[qX 19 x19 rfl];unfold x19 aJN;dsimp only;(exact vB a b c d)
def cA:CSt:=⟨[],[],[],[],[],0,[]⟩
def aEZ:CL:=⟨0,0,0,[],⟨1,2,0,[]⟩,⟨3,4,0,[]⟩,⟨5,6,0,[]⟩,⟨7,8,0,[]⟩⟩
theorem aGP{o m:Nat}{t:Int}(h1:aG aJN o=some (.cells true [.nilsl,.mp m,I t]))(h2:aG aJN m=some (.map true []))(hne:o≠m):Od aJN ⟨o,m,0,[]⟩ [] [] t:=by
 refine⟨⟨fun p hp=>?_,?_⟩,rfl,rfl⟩
 ·have hp:p∈[(o,ABlk.cells true [.nilsl,.mp m,I t]),(m,ABlk.map true [])]:=hp
  grind
 ·show [o,m].Nodup
  simp[hne]
theorem aPV:Lays aJN aEZ cA where
 hc:=rfl
 tk:=⟨rfl,fun h=>absurd h (by decide),fun i e k h1 _=>by simp[aEZ]at h1,aA6,fun h=>absurd h (by decide)⟩
 bk h:=absurd h (by decide)
 f:=aGP rfl rfl (by decide)
 m:=aGP rfl rfl (by decide)
 p:=aGP rfl rfl (by decide)
 w:=aGP rfl rfl (by decide)
 dj i j b hi hj:=by
  have p:∀ i b,b∈px aEZ cA i→(i=0∧b=0)∨(i=3∧(b=1∨b=2))∨(i=4∧(b=3∨b=4))∨(i=5∧(b=5∨b=6))∨(i=6∧(b=7∨b=8)):=fun i b h=>by
   match i,h with
   | 0,h=>simpa [px,aEZ]using h
   | 1,h=>simp[px,pB,aEZ,cA]at h
   | 2,h=>simp[px,pB,aEZ,cA]at h
   | 3,h=>simpa [px,idx,aEZ,cA]using h
   | 4,h=>simpa [px,idx,aEZ,cA]using h
   | 5,h=>simpa [px,idx,aEZ,cA]using h
   | 6,h=>simpa [px,idx,aEZ,cA]using h
   | _+7,h=>cases h
  grind
theorem aIs:cN cA:=by
 refine⟨by decide,aA6,by decide,by decide,by decide,by decide,by decide,by decide,?_,?_,?_,?_,?_,?_⟩;all_goals intro p hp;cases hp
def aKR:List AV→XH→Option (AV×XH):=fun xs h=>match xs,h with
 | [],[]=>some (.pt 0 0,[some (.gh cA (IsClk cA))])
 | _,_=>none
theorem aZi{D:Nat→Option XFn}:iB D 19 aKR:=by
 intro B Y r h H xs ys v h' sh hr hx;unfold aKR at hx;split at hx
 ·cases hx
  rw[hr.nil_inv];have s0:SH aB (fun _=>none) (fun _=>none) [] H:=⟨fun b c hb=>by simp at hb,fun b c c' x y hx=>by grind,fun b x hx=>by simp[hat]at hx,GhR.no fun b st p hx=>by simp[hat]at hx⟩;have fw:=(aAv aA B (fun _=>none) (fun l i h=>by simp at h)).1 (fun _=>none) [] H 19 [] [] _ _ s0 RnL.nil w19;have cv:CallV B Tryz.prog (.fn (.func 19) [] []) [] H (eO aB (fun _=>none) (fun _=>none) (.pt 0 0) aJN):=fw;suffices goal:CallV B Tryz.prog (.fn (.func 19) [] []) [] H (eO D Y r (.pt 0 0) [some (.gh cA (IsClk cA))]) from goal
  refine CallV.mono cv fun v' H' hq=>?_;obtain⟨r3,ha,sh3,hv⟩:=hq;obtain⟨c,rfl,hc⟩:=lW hv;have rno:∀ b c,r b=some c→False:=fun b c hb=>by have:=sh.dom b c hb;simp at this
  refine⟨fun b=>if b=0 then some c else none,fun b c' hb=>(rno b c' hb).elim,aIu (fun b c' hb=>?_) rfl sh3 (by exact hc) aPV aIs,.pt _ _ _ rfl⟩
  grind
 ·cases hx
end
section
def cD(w:ByteArray):Option Int:=match Lib.atoiAll w.data.toList with
 | .ok v=>if 0≤v∧v≤99999∧Lib.itoa v=w.data.toList then some v else none
 | _=>none
def bQ(line:ByteArray):List ByteArray:=(dS 32 line.data.toList).map fun l=>⟨⟨l⟩⟩
def hZ(x:ByteArray)(w:Wd):Int ⊕ Wd:=if aU x then .inr w else .inl 8
def aAI(x:ByteArray)(f:Int→Wd):Int ⊕ Wd:=match cD x with
 | some n=>.inr (f n)
 | none=>.inl 2
def rd(line:ByteArray):Int ⊕ Wd:=if line.size>40 then .inl 14 else match bQ line with
 | [w]=>if w=AAw then .inr .close else if w=AAA then .inr .total else .inl 13
 | [w,x]=>if w=AAt then hZ x (.farmer x) else if w=AAz then hZ x (.net x) else if w=AAC then hZ x (.used x) else
   if w=AAD then hZ x (.loss x) else if w=AAE then hZ x (.power x) else
   if w=AAv then aAI x (fun n=>.void n.toNat) else if w=AAB then aAI x (fun n=>.ticket n.toNat) else .inl 13
 | [w,x,y]=>if w=AAx then (if aU x then aAI y (.meter x) else .inl 8) else .inl 13
 | [w,x,y,z]=>if w=AAy then (if aU x then (match cD y,cD z with
  | some a,some b=>.inr (.pan x a b)
  | _,_=>.inl 2) else .inl 8) else .inl 13
 | [w,x,y,z,o]=>if w=AAu then (if aU x&&aU o then (match cD y,cD z with
  | some a,some b=>.inr (.wagon x o a b)
  | _,_=>.inl 2) else .inl 8) else .inl 13
 | _=>.inl 13
theorem aIe{x:ByteArray}{w:Wd}{e:Int}(h:hZ x w = .inl e):e∈nJ:=by
 grind [nJ,hZ]
theorem aJG{x:ByteArray}{f:Int→Wd}{e:Int}(h:aAI x f = .inl e):e∈nJ:=by
 grind [nJ,aAI]
theorem aPl{line:ByteArray}{e:Int}(h:rd line = .inl e):e∈nJ:=by
 unfold rd at h
 repeat' split at h
 all_goals first|exact aIe h|exact aJG h|(cases h;decide)|cases h
end
section
section
variable{run:eC}{runY:eT}{r:List DOper}{e:aI}{h:XH}{ix:Nat}{d:Option Nat}{m:Option (List (Nat×Nat))}
def aWx:AV→Option Eff
 | .str s=>some (.new none (.obj true (.stringIter s 0)) fun b=>.pt b 0)
 | _=>none
theorem bX{x:AO}:xo m run runY (⟨ix,d,.rngs x,none⟩::r) e h=kE m run runY r d e h true (aWx (aK e x)):=by
 have h0:aD (.rngs x) e (aG h)=aWx (aK e x):=by rfl
 rw[←h0];exact yZ rfl (fun _=>rfl) (fun _=>rfl) fun _ _=>rfl
theorem bY{s:ByteArray}:aWx (.str s)=some (.new none (.obj true (.stringIter s 0)) fun b=>.pt b 0):=rfl
theorem bZ{x:AO}:xo none run runY (⟨ix,d,.nxts x,none⟩::r) e h=kR none run runY r d e (aHr h (aK e x)):=by
 show eU run runY _ e h=_;simp only[eU,gd,cV];cases aHr h (aK e x)<;>rfl
def dk(s:ByteArray)(i:Nat):Int:=(Utf8.decode s i).1
def dn(s:ByteArray)(i:Nat):Nat:=i+(Utf8.decode s i).2
def nxI(b:Nat)(h:XH)(g:Bool)(s:ByteArray)(pos:Nat)(p:Bool):AV×XH:=if p then (.tup [.bool true,.int .i64 (pos:Int),.int .i32 (dk s pos)],h.set b (some (.blk g (.obj true (.stringIter s (dn s pos)))))) else (.tup [.bool false],h)
def nxM(b:Nat)(h:XH):Option XB→Option (AV×XH)
 | some (.blk g (.obj true (.stringIter s pos)))=>some (nxI b h g s pos (decide (pos<s.size)))
 | _=>none
theorem gU{b:Nat}:aHr h (.pt b 0)=nxM b h (hat h b):=by
 simp only[aHr,nxM,nxI];split
 ·rename_i g s pos hh
  rw[hh];by_cases hp:pos<s.size;·simp[hp,dk,dn]
  ·simp[hp]
 grind
theorem dK{b:Nat}{g:Bool}{s:ByteArray}{pos:Nat}:nxM b h (some (.blk g (.obj true (.stringIter s pos))))=some (nxI b h g s pos (decide (pos<s.size))):=rfl
theorem dJ{b:Nat}{g:Bool}{s:ByteArray}{pos:Nat}:nxI b h g s pos true=(.tup [.bool true,.int .i64 (pos:Int),.int .i32 (dk s pos)],h.set b (some (.blk g (.obj true (.stringIter s (dn s pos)))))):=rfl
theorem dL{b:Nat}{g:Bool}{s:ByteArray}{pos:Nat}:nxI b h g s pos false=(.tup [.bool false],h):=rfl
end
theorem dM:aAW 5 .nilifc .nilifc=some true:=rfl
theorem dN{t:TypeId}{a:AV}:aAW 5 (.ifc t a) .nilifc=some false:=rfl
def fmL:List (ByteArray×ByteArray):=[(AAt,⟨⟨[102]⟩⟩),(AAu,AAH),(AAv,⟨⟨[110]⟩⟩),(AAw,⟨⟨[]⟩⟩),(AAx,⟨⟨[109,110]⟩⟩),(AAy,AAI),(AAz,⟨⟨[102]⟩⟩),(AAA,⟨⟨[]⟩⟩),(AAB,⟨⟨[110]⟩⟩),(AAC,⟨⟨[109]⟩⟩),(AAD,⟨⟨[112]⟩⟩),(AAE,⟨⟨[102]⟩⟩)]
def fmE:List (AV×AV):=fmL.map fun p:ByteArray×ByteArray=>(.str p.1,.str p.2)
abbrev fmA:Option XB:=some (.blk true (.map true fmE))
theorem w84:runW aB 84 [] []=some (.mp 0,[fmA]):=bI.2 ⟨20,by kernel_rfl⟩
theorem aCy{w:ByteArray}:∀ l:List (ByteArray×ByteArray),aQ true (.str w) (l.map fun p:ByteArray×ByteArray=>(AV.str p.1,AV.str p.2))=some ((l.find? fun p=>decide (w=p.1)).map fun p=>.str p.2)
 | []=>rfl
 | p::l=>by
   have ih:=aCy (w:=w) l;show (match iD true (.str w) (.str p.1)with
    | some true=>some (some (AV.str p.2))
    | some false=>aQ true (.str w) (l.map fun p:ByteArray×ByteArray=>(AV.str p.1,AV.str p.2))
    | none=>none)=_
   have hk:iD true (.str w) (.str p.1)=some (decide (w=p.1)):=AAs some (aHn w p.1)
   grind
theorem aYl{s c:ByteArray}(hc:c=⟨⟨[32]⟩⟩)(hs:s.size≤100000):runW aB 83 [.str s,.str c] []=some (.fs ((bQ s).map fun w=>[.str w]),[]):=by
 subst hc;rw[dF (d:=jZ aAB) rfl rfl]
 simp_all [aAB,bQ]
theorem w86{s:ByteArray}(hs:s.size≤100000):runW aB 86 [.str s] []=some (sK s,[]):=by
 rw[dF (d:=jZ aDB) rfl rfl]
 simp_all [aDB]
def sr(l:List ByteArray):List (List AV):=l.map fun x=>[.str x]
theorem vN(l:List ByteArray):(sr l).length=l.length:=by simp[sr]
theorem aKD{l:List ByteArray}{i:Nat}{x:ByteArray}(h:l[i]?=some x):(sr l)[i]?=some [.str x]:=by simp[sr,h]
theorem aOh(l:List ByteArray):((sr l).all fun r=>r.length==1)=true:=by simp[sr]
theorem aKC(w:ByteArray)(l:List ByteArray):((sr (w::l)).drop 1).take (l.length+1-1)=sr l:=by
 have:(sr l).take l.length=sr l:=C4 (by simp[sr]);exact this
structure aED(F:ByteArray):Prop where
 dn:∀ i,i<F.size→dn F i=i+1
def kB(F:ByteArray)(xs:List ByteArray)(i:Nat):List Int:=(List.range F.size).map fun j=>if j<i∧dk F j=110 then (cD (xs.getD j ByteArray.empty)).getD 0 else 0
abbrev lL(w0:ByteArray)(xs:List ByteArray)(ns:List Int)(n:Nat):XH:=[some (.blk true (.cells true [.str ⟨⟨[]⟩⟩,.nilsl,.nilsl])),some (.blk false (.cells true [.str w0,.fs (sr xs),.sl 2 0 1 n])),some (.blk true (.cells true (ns.map I)))]
def kT(F:ByteArray)(i:Nat):Option XB:=some (.blk true (.obj true (.stringIter F i)))
def zN(n:Nat):List Int:=List.replicate n 0
theorem aGd(n:Nat):(List.replicate n [AV.int .i64 0]).flatten=(zN n).map I:=by
 simp[zN]
section
variable{F w0 line:ByteArray}{xs:List ByteArray}
theorem aKJ(hl:xs.length=F.size)(hF:F.size≤4)(ok:aED F){ns:List Int}{i:Nat}(hi:i<F.size){y:ByteArray}(hy:xs[i]?=some y)(hys:y.size≤1000)(hn:dk F i=110∨aU y=true) :
 cC 0 [2,4,6,47] (execW aB 60 0 none (match aBJ with | .loop _ a=>a|c=>c) (bB [2,4,6,47] [.pt 0 0,.str F,.pt 1 0,.pt 3 0]) (lL w0 xs ns F.size++[kT F i]))=some ([.pt 0 0,.str F,.pt 1 0,.pt 3 0],lL w0 xs ns F.size++[kT F (i+1)]):=by
 have d1:(i<F.size)=True:=AAn hi;have d2:=ok.dn i hi;have d3:((i:Int)<(F.size:Int))=True:=AAa;have sl:=vN xs;rw[hl]at sl;have sa:=aKD hy;have c8:=yH 8;have c85:=w85 (s:=y) AT;unfold aBJ kT lL;dsimp only;by_cases h1:dk F i=110
 ·have e1:(dk F i=110)=True:=AAn h1
  (exact fN d1 d2 d3 sl sa c8 e1 @bX @bY @bZ @gU @dK @dJ @dL @dM @dN aE aE aE aE)
 ·have e1:(dk F i=110)=False:=AAo h1
  rw[hn.resolve_left h1]at c85;(exact fN d1 d2 d3 sl sa c8 e1 c85 @bX @bY @bZ @gU @dK @dJ @dL @dM @dN aE aE aE)
theorem tN(F:ByteArray)(xs:List ByteArray)(i:Nat):(kB F xs i).length=F.size:=by simp[kB]
theorem aPK{F:ByteArray}{xs:List ByteArray}{i:Nat}{y:ByteArray}{v:Int}(hi:i<F.size)(hy:xs[i]?=some y)(hk:dk F i=110)(hv:cD y=some v):kB F xs (i+1)=aCU (kB F xs i) i v:=by
 rw[aAi (by grind [tN])];apply I2
 grind [kB]
theorem aPL{F:ByteArray}{xs:List ByteArray}{i:Nat}(hk:dk F i≠110):kB F xs (i+1)=kB F xs i:=by
 grind [kB]
theorem aKV(F:ByteArray)(xs:List ByteArray):kB F xs 0=zN F.size:=by
 unfold kB zN;apply I2
 grind
theorem fL{y:ByteArray}{v:Int}(h:cD y=some v):Lib.atoiAll y.data.toList = .ok v∧0≤v∧v≤99999∧(⟨⟨Lib.itoa v⟩⟩:ByteArray)=y:=by
 unfold cD at h;split at h
 ·rename_i u hu
  split at h;all_goals simp_all
 ·cases h
theorem aTg(hl:xs.length=F.size)(hF:F.size≤4)(ok:aED F){i:Nat}(hi:i<F.size){y:ByteArray}(hy:xs[i]?=some y)(hys:y.size≤1000)(hn:dk F i=110→∃ v,cD y=some v) :
 cC 0 [2,6,64] (execW aB 60 0 none (match aCG with | .loop _ a=>a|c=>c) (bB [2,6,64] [.pt 0 0,.pt 1 0,.pt 3 0]) (lL w0 xs (kB F xs i) F.size++[kT F i]))=some ([.pt 0 0,.pt 1 0,.pt 3 0],lL w0 xs (kB F xs (i+1)) F.size++[kT F (i+1)]):=by
 have d1:(i<F.size)=True:=AAn hi;have d2:=ok.dn i hi;have d3:((i:Int)<(F.size:Int))=True:=AAa;have sl:=vN xs;rw[hl]at sl;have sa:=aKD hy;by_cases h1:dk F i=110
 ·obtain⟨v,hv⟩:=hn h1
  obtain⟨v1,v2,v3,v4⟩:=fL hv;have e1:(dk F i=110)=True:=AAn h1;have c86:runW aB 86 [.str y] []=some (.tup [I v,.nilifc],[]):=by
   rw[w86 AT];unfold sK;rw[v1]
  have c35:=w35 0 v 99999;rw[show (decide (0≤v)&&decide (v≤99999))=true by grind]at c35;have c57:=aEH (n:=v) AT;rw[v4]at c57;have c58:=yH 2;have se:=iP y y;rw[AAj rfl]at se;have nl:=tN F xs i;have lt1:(i+1≤F.size)=True:=AAa;rw[aPK hi hy h1 hv];generalize kB F xs i=N0 at *;unfold aCG kT lL;dsimp only;(exact rA d1 d2 d3 sl sa e1 c86 c35 c57 c58 se nl lt1 @bX @bY @bZ @gU @dK @dJ @dL @dM @dN aE aE aE aE)
 ·have e1:(dk F i=110)=False:=AAo h1
  rw[aPL h1];unfold aCG kT lL;dsimp only;(exact fN d1 d2 d3 sl sa e1 @bX @bY @bZ @gU @dK @dJ @dL @dM @dN aE aE aE aE aE)
end
end
end Go.Proofs.YtmapgnepfgnphaaGreatDoor
namespace Go.DL
variable{P:Program}{D:Nat→Option XFn}
theorem CalP.drop{g:Nat}{xs0:List AV}{v:AV}{h':XH}(hp:CalP P D g xs0 [] v h')(hv:Gd v):CalP P D g xs0 [] v []:=by
 intro B Y r H as' hY sh hA;refine FnP.mono ?_ (hp B Y r H as' hY sh hA);rintro v' H' ⟨r',_,sh',rn⟩;have rno:∀ b c,r b=some c→False:=fun b c hb=>by have:=sh.dom b c hb;simp at this
 have s0:SH D Y r [] H':=⟨fun b c hb=>(rno b c hb).elim,fun b c c' x y hx=>by grind,fun b x hx=>by simp[hat]at hx,GhR.no fun b st p hx=>by simp[hat]at hx⟩;refine⟨r,Sub.refl r,s0,?_⟩;rw[(rn.same hv.gr).1];exact hv.rn
end Go.DL
namespace Go.Proofs.YtmapgnepfgnphaaGreatDoor
open Go Go.DL
section
variable{F w0 line:ByteArray}{xs W:List ByteArray}{v:AV}{e':aI}{h':XH}
abbrev bA:XH:=[some (.blk true (.cells true [.str ⟨⟨[]⟩⟩,.nilsl,.nilsl]))]
theorem aUo(hs:40<line.size):CalP Tryz.prog aB 60 [.str line] [] (.ifc 110 (.agg [I 14])) []:=by
 refine CalP.drop (h':=bA) ?_ (.ifc _ _ (.agg _ fun a ha=>by rw[D1.1 ha];exact .int _ _));refine CalP.of (d:=x60) (e':=bB [] []) aA rfl (by simp[x60]) rfl ?_;have t1:((line.size:Int)≤40)=False:=AAb;unfold x60;dsimp only;refine PanX.seqR (K:=60) aA rfl [0,2] (vs:=[.str line,.pt 0 0]) (h1:=bA) (by (exact vA @bX @bY @bZ @gU @dK @dJ @dL @dM @dN)) ?_;refine PanX.seqL ?_;exact PanX.reg (p:=[⟨0,some 13,.mv (.t 0),none⟩,⟨0,some 14,.len true (.t 13),none⟩,⟨0,some 15,.bin .leq (.t 14) (.c (.int .i64 40)),none⟩]) (post:=[]) aA [] (g:=58) (first:=[]) (cap:=[]) (args:=[.bool false,I 14]) (vs:=[]) (h1:=bA) rfl rfl (by (exact jE t1 @bX @bY @bZ @gU @dK @dJ @dL @dM @dN)) (c58 14 _)
def r4c:XCode:=match x60.body with | .seq _ (.seq _ (.seq _ (.seq _ r)))=>r|c=>c
theorem aWF(hs:line.size≤40)(hw:bQ line=w0::xs){f:ByteArray}{b:Bool}(hf:aAM true (.str ⟨⟨[]⟩⟩) (aQ true (.str w0) fmE)=some (.tup [.str f,.bool b]))(hp:PanX Tryz.prog aB x60 0 r4c (bB [2,3,4,5] [.pt 0 0,.fs (sr (w0::xs)),.str f,.bool b]) (bA++[fmA]) v e' h'):PanX Tryz.prog aB x60 0 x60.body (aT [.str line]) [] v e' h':=by
 have c83:runW aB 83 [.str line,.str ⟨#[32]⟩] []=some (.fs (sr (bQ line)),[]):=aYl (s:=line) (c:=⟨#[32]⟩) rfl AT;have aRa:=yH 14;rw[hw]at c83;have r0:(sr (w0::xs))[0]?=some [.str w0]:=rfl;have rl:=vN (w0::xs);rw[D5]at rl;have t40:((line.size:Int)≤40)=True:=AAa;have n0:((0:Int)<((xs.length+1:Nat):Int))=True:=AAa;generalize sr (w0::xs)=R at *;unfold r4c at hp;unfold x60 at *;dsimp only at *;refine PanX.seqR (K:=60) aA rfl [0,2] (vs:=[.str line,.pt 0 0]) (h1:=bA) (by (exact vA @bX @bY @bZ @gU @dK @dJ @dL @dM @dN)) ?_;refine PanX.seqR (K:=60) aA rfl [0,2] (vs:=[.str line,.pt 0 0]) (h1:=bA) (by (exact gF aRa t40 @bX @bY @bZ @gU @dK @dJ @dL @dM @dN aE aE)) ?_;refine PanX.seqR (K:=60) aA rfl [2,3] (vs:=[.pt 0 0,.fs R]) (h1:=bA) (by (exact jE c83 @bX @bY @bZ @gU @dK @dJ @dL @dM @dN)) ?_;exact PanX.seqR (K:=60) aA rfl [2,3,4,5] (vs:=[.pt 0 0,.fs R,.str f,.bool b]) (h1:=bA++[fmA]) (by (exact fN w84 hf r0 rl n0 @bX @bY @bZ @gU @dK @dJ @dL @dM @dN aE aE aE aE aE aE)) hp
theorem aUp(hs:line.size≤40)(hw:bQ line=w0::xs){f:ByteArray}{b:Bool}(hf:aAM true (.str ⟨⟨[]⟩⟩) (aQ true (.str w0) fmE)=some (.tup [.str f,.bool b]))(hF:f.size≤4)(hn:b=true→xs.length≠f.size):CalP Tryz.prog aB 60 [.str line] [] (.ifc 110 (.agg [I 13])) []:=by
 refine CalP.drop (h':=bA++[fmA]) ?_ (.ifc _ _ (.agg _ fun a ha=>by rw[D1.1 ha];exact .int _ _));refine CalP.of (d:=x60) (e':=bB [] []) aA rfl (by simp[x60]) rfl ?_;refine aWF hs hw hf ?_;have rl:=vN (w0::xs);rw[D5]at rl;have a1:IntKind.i64.wrap ((f.size:Int)+1)=((f.size+1:Nat):Int):=by grind [aF]
 have e1:b=true→(((xs.length+1:Nat):Int)=((f.size+1:Nat):Int))=False:=fun h=>AAo (by grind);generalize sr (w0::xs)=R at *;unfold r4c x60;dsimp only;refine PanX.seqL ?_;refine PanX.reg (p:=[⟨0,some 27,.mv (.t 5),none⟩,⟨0,some 28,.mv (.t 27),none⟩,⟨0,some 29,.mv (.t 3),some (28,true)⟩,⟨0,some 30,.len false (.t 29),some (28,true)⟩,⟨0,some 31,.mv (.t 4),some (28,true)⟩,⟨0,some 32,.len true (.t 31),some (28,true)⟩,⟨0,some 33,.bin .add (.t 32) (.c (.int .i64 1)),some (28,true)⟩,⟨0,some 34,.bin .eql (.t 30) (.t 33),some (28,true)⟩,⟨0,some 35,.pick (.t 28) (.t 34) (.c (.bool false)),none⟩]) (post:=[]) aA [] (g:=58) (first:=[]) (cap:=[]) (args:=[.bool false,I 13]) (vs:=[]) (h1:=bA++[fmA]) rfl rfl ?_ (c58 13 _);cases b with
 | false=>rfl
 | true =>
   have e1:=e1 rfl;(exact gF rl a1 e1 @bX @bY @bZ @gU @dK @dJ @dL @dM @dN aE)
def r6c:XCode:=match r4c with | .seq _ (.seq _ r)=>r|c=>c
abbrev a60(F w0:ByteArray)(xs:List ByteArray):XH:=[some (.blk true (.cells true [.str ⟨⟨[]⟩⟩,.nilsl,.nilsl])),fmA,some (.blk true (.cells true ((zN F.size).map I))),some (.blk false (.cells true [.str w0,.fs (sr xs),.sl 2 0 1 F.size]))]
theorem aZk(hl:xs.length=F.size)(hF:F.size≤4)(hp:PanX Tryz.prog aB x60 0 r6c (bB [2,4,6] [.pt 0 0,.str F,.pt 3 0]) (a60 F w0 xs) v e' h'):PanX Tryz.prog aB x60 0 r4c (bB [2,3,4,5] [.pt 0 0,.fs (sr (w0::xs)),.str F,.bool true]) (bA++[fmA]) v e' h':=by
 have aQZ:=yH 13;have r0:(sr (w0::xs))[0]?=some [.str w0]:=rfl;have rl:=vN (w0::xs);rw[D5,hl]at rl;have ra:=aOh (w0::xs);have rt:=aKC w0 xs;rw[hl]at rt;have n0:((0:Int)<((F.size+1:Nat):Int))=True:=AAa;have n1:((1:Int)≤((F.size+1:Nat):Int))=True:=AAa;have a1:IntKind.i64.wrap ((F.size:Int)+1)=((F.size+1:Nat):Int):=by grind [aF]
 have z0:((0:Int)≤(F.size:Int))=True:=AAa;have z1:((8:Int)*(F.size:Int)≤281474976710656)=True:=AAa;have z3:((F.size:Int)≤(F.size:Int))=True:=AAa;have z4:((F.size:Int)).toNat=F.size:=I7 _;have z5:=aGd F.size;have z2:((F.size:Int)≤9223372036854775807)=True:=AAa;unfold r6c at hp;generalize sr (w0::xs)=R at *;unfold r4c x60 at *;dsimp only at *;refine PanX.seqR (K:=60) aA rfl [2,3,4] (vs:=[.pt 0 0,.fs R,.str F]) (h1:=bA++[fmA]) (by (exact gF aQZ rl a1 @bX @bY @bZ @gU @dK @dJ @dL @dM @dN aE)) ?_;exact PanX.seqR (K:=60) aA rfl [2,4,6] (vs:=[.pt 0 0,.str F,.pt 3 0]) (h1:=a60 F w0 xs) (by (exact rA r0 rl ra rt n0 n1 z0 z1 z2 z3 z4 z5 @bX @bY @bZ @gU @dK @dJ @dL @dM @dN aE aE aE aE aE)) hp
theorem aZs(hl:xs.length=F.size)(hF:F.size≤4)(ok:aED F)(hys:∀ y∈xs,y.size≤1000){i:Nat}(hi:i<F.size){y:ByteArray}(hy:xs[i]?=some y)(hk:dk F i≠110)(hb:aU y=false)(hn:∀ j,j<i→∀ z,xs[j]?=some z→dk F j=110∨aU z=true) :
 PanX Tryz.prog aB x60 0 r6c (bB [2,4,6] [.pt 0 0,.str F,.pt 3 0]) (a60 F w0 xs) (.ifc 110 (.agg [I 8])) (bB [] []) (lL w0 xs (zN F.size) F.size++[kT F (i+1)]):=by
 have d1:(i<F.size)=True:=AAn hi;have d2:=ok.dn i hi;have d3:((i:Int)<(F.size:Int))=True:=AAa;have sl:=vN xs;rw[hl]at sl;have sa:=aKD hy;have c85:=w85 (s:=y) (by grind);rw[hb]at c85;have e1:(dk F i=110)=False:=AAo hk;unfold r6c r4c x60;dsimp only;refine PanX.seqL ?_;refine PanX.seqR (K:=60) aA rfl [2,4,6,47] (vs:=[.pt 0 0,.str F,.pt 3 0,.pt 4 0]) (h1:=a60 F w0 xs++[kT F 0]) (by unfold a60 kT; (exact vA @bX @bY @bZ @gU @dK @dJ @dL @dM @dN)) ?_;refine PanX.block ?_;have rd:=fun j (hj:j<i)=>aKJ (w0:=w0) (ns:=zN F.size) hl hF ok (i:=j) AT (y:=xs.getD j ByteArray.empty) (by grind) (hys _ (by grind)) (hn j hj _ (by grind));unfold aBJ at rd ⊢;refine PanX.loop (K:=60) aA rfl i (fun _=>[.pt 0 0,.str F,.pt 1 0,.pt 3 0]) (fun j=>lL w0 xs (zN F.size) F.size++[kT F j]) ?_ rd ?_;·rfl
 ·refine PanX.seqR (K:=60) aA rfl [6,48,49] (vs:=[.pt 1 0,.tup [.bool true,I (i:Nat),.int .i32 (dk F i)],.bool true]) (h1:=lL w0 xs (zN F.size) F.size++[kT F (i+1)]) (by unfold lL kT; (exact gF d1 d2 @bX @bY @bZ @gU @dK @dJ @dL @dM @dN aE aE)) ?_
  refine PanX.seqR (K:=60) aA rfl [6,48] (vs:=[.pt 1 0,.tup [.bool true,I (i:Nat),.int .i32 (dk F i)]]) (h1:=lL w0 xs (zN F.size) F.size++[kT F (i+1)]) (by unfold lL kT; (exact vA @bX @bY @bZ @gU @dK @dJ @dL @dM @dN)) ?_;refine PanX.block ?_;refine PanX.seqR (K:=60) aA rfl [6,7,8] (vs:=[.pt 1 0,I (i:Nat),.int .i32 (dk F i)]) (h1:=lL w0 xs (zN F.size) F.size++[kT F (i+1)]) (by unfold lL kT; (exact vA @bX @bY @bZ @gU @dK @dJ @dL @dM @dN)) ?_;exact PanX.reg (p:=[⟨0,some 52,.mv (.t 8),none⟩,⟨0,some 53,.bin .eql (.t 52) (.c (.int .i32 110)),none⟩,⟨0,some 54,.mv (.t 53),none⟩,⟨0,some 55,.fld 1 (.t 6),some (54,false)⟩,⟨0,some 56,.load false 1 (.t 55),some (54,false)⟩,⟨0,some 57,.mv (.t 7),some (54,false)⟩,⟨0,some 58,.idx 1 (.t 56) (.t 57),some (54,false)⟩,⟨0,some 59,.load false 1 (.t 58),some (54,false)⟩,⟨0,some 60,.callf false (.c (.fn (.func 85) [] [])) [.t 59] [],some (54,false)⟩,⟨0,some 61,.pick (.t 54) (.c (.bool true)) (.t 60),none⟩]) (post:=[]) aA [] (g:=58) (first:=[]) (cap:=[]) (args:=[.bool false,I 8]) (vs:=[]) (h1:=lL w0 xs (zN F.size) F.size++[kT F (i+1)]) rfl rfl (by unfold lL kT; (exact fN e1 d3 sl sa c85 @bX @bY @bZ @gU @dK @dJ @dL @dM @dN aE aE aE aE aE aE)) (c58 8 _)
def Ws(F:ByteArray)(xs:List ByteArray):Prop:=xs.length=F.size∧F.size≤4∧aED F∧∀ y∈xs,y.size≤1000
theorem aRi{i:Nat}(hi:i<xs.length):xs[i]?=some (xs.getD i ByteArray.empty)∧xs.getD i ByteArray.empty∈xs:=by
 grind
theorem aYX(ws:Ws F xs)(hn:∀ j,j<F.size→dk F j=110∨aU (xs.getD j ByteArray.empty)=true){ns:List Int}(j:Nat)(hj:j<F.size) :
 cC 0 [2,4,6,47] (execW aB 60 0 none (match aBJ with | .loop _ a=>a|c=>c) (bB [2,4,6,47] [.pt 0 0,.str F,.pt 1 0,.pt 3 0]) (lL w0 xs ns F.size++[kT F j]))=some ([.pt 0 0,.str F,.pt 1 0,.pt 3 0],lL w0 xs ns F.size++[kT F (j+1)]):=by
 obtain⟨h1,h2,h3,h4⟩:=ws
 grind [aKJ]
theorem aYW(ws:Ws F xs){i:Nat}(hn:∀ j,j<i→dk F j=110→∃ v,cD (xs.getD j ByteArray.empty)=some v)(j:Nat)(hji:j<i)(hj:j<F.size) :
 cC 0 [2,6,64] (execW aB 60 0 none (match aCG with | .loop _ a=>a|c=>c) (bB [2,6,64] [.pt 0 0,.pt 1 0,.pt 3 0]) (lL w0 xs (kB F xs j) F.size++[kT F j]))=some ([.pt 0 0,.pt 1 0,.pt 3 0],lL w0 xs (kB F xs (j+1)) F.size++[kT F (j+1)]):=by
 obtain⟨h1,h2,h3,h4⟩:=ws;obtain⟨k1,k2⟩:=aRi (xs:=xs) (i:=j) AT
 grind [aTg]
theorem l60(ws:Ws F xs)(hn:∀ j,j<F.size→dk F j=110∨aU (xs.getD j ByteArray.empty)=true) :
 uE [2,4,6] (execW aB 60 0 none (match r6c with | .seq a _=>a|c=>c) (bB [2,4,6] [.pt 0 0,.str F,.pt 3 0]) (a60 F w0 xs))=some (.normal,[.pt 0 0,.str F,.pt 1 0],lL w0 xs (zN F.size) F.size++[kT F F.size]):=by
 have e0:(F.size<F.size)=False:=AAb;unfold r6c r4c x60;dsimp only;sym =>
  simp[bX,bY,bZ,gU,dK,dJ,dL,dM,dN,Za,Zb,Zf,Zh,Zl,Zm,Zo,Zv,ZQ,Ye,Y5,V0,V9,UT,UW,UY,UZ,Te,Tf,Tj,Tl,T6,S6,SF,SJ,SK,SL,SN,SS,SV,PE]
  tactic =>
   have rd:=aYX (w0:=w0) (ns:=zN F.size) ws hn;unfold aBJ at rd ⊢;rw[aJ F.size (fun _=>[.pt 0 0,.str F,.pt 1 0,.pt 3 0]) (fun i=>lL w0 xs (zN F.size) F.size++[kT F i])]
   ·unfold kT lL
    (exact jE e0 @bX @bY @bZ @gU @dK @dJ @dL @dM @dN)
   ·rfl
   ·exact rd
   ·unfold kT lL
    (exact jE e0 @bX @bY @bZ @gU @dK @dJ @dL @dM @dN)
def r7c:XCode:=match r6c with | .seq _ r=>r|c=>c
theorem aMW{y:ByteArray}(h:cD y=none):(∃ u,Lib.atoiAll y.data.toList = .ok u∧(decide (0≤u)&&decide (u≤99999))=false)∨(∃ u,Lib.atoiAll y.data.toList = .ok u∧(0≤u∧u≤99999)∧aN .eql ⟨⟨Lib.itoa u⟩⟩ y=some (.bool false))∨∃ u,sK y = .tup [I u,.ifc 232 .any]:=by
 unfold cD at h;cases hA:Lib.atoiAll y.data.toList with
 | ok u =>
   grind [iP,decide_eq_false_iff_not]
 | _=>simp_all [sK]
theorem aZr(ws:Ws F xs){i:Nat}(hi:i<F.size){y:ByteArray}(hy:xs[i]?=some y)(hk:dk F i=110)(hb:cD y=none)(hn:∀ j,j<i→dk F j=110→∃ v,cD (xs.getD j ByteArray.empty)=some v) :
 PanX Tryz.prog aB x60 0 r7c (bB [2,4,6] [.pt 0 0,.str F,.pt 1 0]) (lL w0 xs (zN F.size) F.size++[kT F F.size]) (.ifc 110 (.agg [I 2])) (bB [] []) (lL w0 xs (kB F xs i) F.size++[kT F (i+1)]):=by
 have d1:(i<F.size)=True:=AAn hi;have d2:=ws.2.2.1.dn i hi;have d3:((i:Int)<(F.size:Int))=True:=AAa;have sl:=vN xs;rw[ws.1]at sl;have sa:=aKD hy;have e1:(dk F i=110)=True:=AAn hk;have c86:=w86 (s:=y) (by grind [Ws]);unfold r7c r6c r4c x60;dsimp only;refine PanX.seqL ?_;refine PanX.seqR (K:=60) aA rfl [2,6,64] (vs:=[.pt 0 0,.pt 1 0,.pt 4 0]) (h1:=lL w0 xs (zN F.size) F.size++[kT F F.size,kT F 0]) (by unfold lL kT; (exact vA @bX @bY @bZ @gU @dK @dJ @dL @dM @dN)) ?_;refine PanX.block ?_;have rd:=fun j (hj:j<i)=>aYW (w0:=w0) ws hn j hj AT;unfold aCG at rd ⊢;refine PanX.loop (K:=60) aA rfl i (fun _=>[.pt 0 0,.pt 1 0,.pt 3 0]) (fun j=>lL w0 xs (kB F xs j) F.size++[kT F j]) ?_ rd ?_
 ·rw[aKV]
  rfl
 ·generalize kB F xs i=N0
  refine PanX.seqR (K:=60) aA rfl [6,65,66] (vs:=[.pt 1 0,.tup [.bool true,I (i:Nat),.int .i32 (dk F i)],.bool true]) (h1:=lL w0 xs N0 F.size++[kT F (i+1)]) (by unfold lL kT; (exact gF d1 d2 @bX @bY @bZ @gU @dK @dJ @dL @dM @dN aE aE)) ?_;refine PanX.seqR (K:=60) aA rfl [6,65] (vs:=[.pt 1 0,.tup [.bool true,I (i:Nat),.int .i32 (dk F i)]]) (h1:=lL w0 xs N0 F.size++[kT F (i+1)]) (by unfold lL kT; (exact vA @bX @bY @bZ @gU @dK @dJ @dL @dM @dN)) ?_;refine PanX.block ?_;refine PanX.seqR (K:=60) aA rfl [6,9,10] (vs:=[.pt 1 0,I (i:Nat),.int .i32 (dk F i)]) (h1:=lL w0 xs N0 F.size++[kT F (i+1)]) (by unfold lL kT; (exact vA @bX @bY @bZ @gU @dK @dJ @dL @dM @dN)) ?_;refine PanX.seqR (K:=60) aA rfl [6,9,70] (vs:=[.pt 1 0,I (i:Nat),.bool true]) (h1:=lL w0 xs N0 F.size++[kT F (i+1)]) (by unfold lL kT; (exact jE e1 @bX @bY @bZ @gU @dK @dJ @dL @dM @dN)) ?_;refine PanX.condT rfl ?_;rcases aMW hb with ⟨u,hA,hc⟩|⟨u,hA,hc,hs⟩|⟨u,hA⟩
  ·have av:sK y = .tup [I u,.nilifc]:=by unfold sK;rw[hA]
   rw[av]at c86;have c35:=w35 0 u 99999;rw[hc]at c35;refine PanX.seqR (K:=60) aA rfl [6,9,11,12] (vs:=[.pt 1 0,I (i:Nat),I u,.nilifc]) (h1:=lL w0 xs N0 F.size++[kT F (i+1)]) (by unfold lL kT; (exact gF d3 sl sa c86 @bX @bY @bZ @gU @dK @dJ @dL @dM @dN)) ?_;refine PanX.seqL ?_;exact PanX.regU (fr:=[]) (p:=[⟨0,some 80,.mv (.t 12),none⟩,⟨1,some 81,.eqn 5 false (.t 80) (.c .nilifc),none⟩,⟨2,some 82,.mv (.t 81),none⟩,⟨3,some 83,.mv (.t 11),some (82,true)⟩,⟨4,some 84,.callf false (.c (.fn (.func 35) [] [])) [(.c (.int .i64 0)),(.t 83),(.c (.int .i64 99999))] [],some (82,true)⟩,⟨5,some 85,.pick (.t 82) (.t 84) (.c (.bool false)),none⟩,⟨6,some 86,.mv (.t 85),none⟩,⟨7,some 87,.mv (.t 11),some (86,true)⟩,⟨9,some 89,.fld 1 (.t 6),some (86,true)⟩,⟨10,some 90,.load false 1 (.t 89),some (86,true)⟩,⟨11,some 91,.mv (.t 9),some (86,true)⟩,⟨12,some 92,.idx 1 (.t 90) (.t 91),some (86,true)⟩,⟨13,some 93,.load false 1 (.t 92),some (86,true)⟩,⟨8,some 88,.callf false (.c (.fn (.func 57) [] [])) [(.t 87)] [10,13],some (86,true)⟩,⟨14,some 94,.bin .eql (.t 88) (.t 93),some (86,true)⟩,⟨15,some 95,.pick (.t 86) (.t 94) (.c (.bool false)),none⟩]) (post:=[]) aA [] (g:=58) (first:=[]) (cap:=[]) (args:=[.bool false,I 2]) (vs:=[]) rfl rfl rfl (by unfold lL kT; (exact jE c35 @bX @bY @bZ @gU @dK @dJ @dL @dM @dN)) (c58 2 _)
  ·have av:sK y = .tup [I u,.nilifc]:=by unfold sK;rw[hA]
   rw[av]at c86;have c35:=w35 0 u 99999;rw[show (decide (0≤u)&&decide (u≤99999))=true by grind]at c35;have c57:=aEH (n:=u) AT;refine PanX.seqR (K:=60) aA rfl [6,9,11,12] (vs:=[.pt 1 0,I (i:Nat),I u,.nilifc]) (h1:=lL w0 xs N0 F.size++[kT F (i+1)]) (by unfold lL kT; (exact gF d3 sl sa c86 @bX @bY @bZ @gU @dK @dJ @dL @dM @dN)) ?_;refine PanX.seqL ?_;exact PanX.regU (fr:=[]) (p:=[⟨0,some 80,.mv (.t 12),none⟩,⟨1,some 81,.eqn 5 false (.t 80) (.c .nilifc),none⟩,⟨2,some 82,.mv (.t 81),none⟩,⟨3,some 83,.mv (.t 11),some (82,true)⟩,⟨4,some 84,.callf false (.c (.fn (.func 35) [] [])) [(.c (.int .i64 0)),(.t 83),(.c (.int .i64 99999))] [],some (82,true)⟩,⟨5,some 85,.pick (.t 82) (.t 84) (.c (.bool false)),none⟩,⟨6,some 86,.mv (.t 85),none⟩,⟨7,some 87,.mv (.t 11),some (86,true)⟩,⟨9,some 89,.fld 1 (.t 6),some (86,true)⟩,⟨10,some 90,.load false 1 (.t 89),some (86,true)⟩,⟨11,some 91,.mv (.t 9),some (86,true)⟩,⟨12,some 92,.idx 1 (.t 90) (.t 91),some (86,true)⟩,⟨13,some 93,.load false 1 (.t 92),some (86,true)⟩,⟨8,some 88,.callf false (.c (.fn (.func 57) [] [])) [(.t 87)] [10,13],some (86,true)⟩,⟨14,some 94,.bin .eql (.t 88) (.t 93),some (86,true)⟩,⟨15,some 95,.pick (.t 86) (.t 94) (.c (.bool false)),none⟩]) (post:=[]) aA [] (g:=58) (first:=[]) (cap:=[]) (args:=[.bool false,I 2]) (vs:=[]) rfl rfl rfl (by unfold lL kT; (exact fN c35 c57 hs d3 sl sa @bX @bY @bZ @gU @dK @dJ @dL @dM @dN aE aE aE aE aE)) (c58 2 _)
  ·rw[hA]at c86
   refine PanX.seqR (K:=60) aA rfl [6,9,11,12] (vs:=[.pt 1 0,I (i:Nat),I u,.ifc 232 .any]) (h1:=lL w0 xs N0 F.size++[kT F (i+1)]) (by unfold lL kT; (exact gF d3 sl sa c86 @bX @bY @bZ @gU @dK @dJ @dL @dM @dN)) ?_;refine PanX.seqL ?_;exact PanX.regU (fr:=[]) (p:=[⟨0,some 80,.mv (.t 12),none⟩,⟨1,some 81,.eqn 5 false (.t 80) (.c .nilifc),none⟩,⟨2,some 82,.mv (.t 81),none⟩,⟨3,some 83,.mv (.t 11),some (82,true)⟩,⟨4,some 84,.callf false (.c (.fn (.func 35) [] [])) [(.c (.int .i64 0)),(.t 83),(.c (.int .i64 99999))] [],some (82,true)⟩,⟨5,some 85,.pick (.t 82) (.t 84) (.c (.bool false)),none⟩,⟨6,some 86,.mv (.t 85),none⟩,⟨7,some 87,.mv (.t 11),some (86,true)⟩,⟨9,some 89,.fld 1 (.t 6),some (86,true)⟩,⟨10,some 90,.load false 1 (.t 89),some (86,true)⟩,⟨11,some 91,.mv (.t 9),some (86,true)⟩,⟨12,some 92,.idx 1 (.t 90) (.t 91),some (86,true)⟩,⟨13,some 93,.load false 1 (.t 92),some (86,true)⟩,⟨8,some 88,.callf false (.c (.fn (.func 57) [] [])) [(.t 87)] [10,13],some (86,true)⟩,⟨14,some 94,.bin .eql (.t 88) (.t 93),some (86,true)⟩,⟨15,some 95,.pick (.t 86) (.t 94) (.c (.bool false)),none⟩]) (post:=[]) aA [] (g:=58) (first:=[]) (cap:=[]) (args:=[.bool false,I 2]) (vs:=[]) rfl rfl rfl (by rfl) (c58 2 _)
theorem w60(hs:line.size≤40)(hw:bQ line=w0::xs)(hf:aQ true (.str w0) fmE=some (some (.str F)))(ws:Ws F xs)(hn:∀ j,j<F.size→dk F j=110∨aU (xs.getD j ByteArray.empty)=true)(hm:∀ j,j<F.size→dk F j=110→∃ v,cD (xs.getD j ByteArray.empty)=some v) :
 runW aB 60 [.str line] []=some (.agg [.str w0,.fs (sr xs),.fs ((kB F xs F.size).map fun v=>[I v])],[]):=by
 have hl:=ws.1;have hF:=ws.2.1;have c83:runW aB 83 [.str line,.str ⟨#[32]⟩] []=some (.fs (sr (bQ line)),[]):=aYl (s:=line) (c:=⟨#[32]⟩) rfl AT;have aRa:=yH 14;have aQZ:=yH 13;rw[hw]at c83;have r0:(sr (w0::xs))[0]?=some [.str w0]:=rfl;have rl:=vN (w0::xs);rw[D5,hl]at rl;have ra:=aOh (w0::xs);have rt:=aKC w0 xs;rw[hl]at rt;have t40:((line.size:Int)≤40)=True:=AAa;have n0:((0:Int)<((F.size+1:Nat):Int))=True:=AAa;have n1:((1:Int)≤((F.size+1:Nat):Int))=True:=AAa;have a1:IntKind.i64.wrap ((F.size:Int)+1)=((F.size+1:Nat):Int):=by grind [aF]
 have z0:((0:Int)≤(F.size:Int))=True:=AAa;have z1:((8:Int)*(F.size:Int)≤281474976710656)=True:=AAa;have z3:((F.size:Int)≤(F.size:Int))=True:=AAa;have z4:((F.size:Int)).toNat=F.size:=I7 _;have z5:=aGd F.size;have z2:((F.size:Int)≤9223372036854775807)=True:=AAa;have e0:(F.size<F.size)=False:=AAb;have nl:=tN F xs F.size;have ch:bG ((kB F xs F.size).map I) 0 1 F.size=(kB F xs F.size).map fun v=>[I v]:=by
  have h:=xZ (f:=I) (kB F xs F.size) []
  grind
 have f1:(F.size≤(kB F xs F.size).length)=True:=AAa;have rd0:=aYX (w0:=w0) (ns:=zN F.size) ws hn;have rd1:=fun j (hj:j<F.size)=>aYW (w0:=w0) ws hm j hj hj;generalize sr (w0::xs)=R at *;rw[qX 60 x60 rfl];unfold x60;dsimp only;sym =>
  simp[bX,bY,bZ,gU,dK,dJ,dL,dM,dN,Za,Zb,Zc,Zd,Ze,Zf,Zg,Zh,Zi,Zj,Zl,Zm,Zn,Zo,Zp,Zq,Zv,Zw,Zy,Z0,ZA,ZH,ZK,ZM,ZP,ZQ,ZR,ZV,ZX,ZY,ZZ,Ya,Yb,Yc,Ye,Yh,Yi,Yj,Ym,Yn,Yo,Yu,Yx,Yz,Y4,Y5,Y6,YE,YH,YL,YM,YQ,YT,Xh,Xn,Xo,Xr,Xs,Xt,Xx,Xy,Xz,XI,XL,We,Wg,Wi,Wj,Wm,Wr,Wt,Wu,Wv,Ww,Wx,W3,WE,WF,WH,WI,WR,WS,WU,WV,Va,Vb,Vd,Vo,Vp,Vq,Vr,Vy,V0,V1,V2,V3,V4,V5,V6,V7,V8,V9,VG,VH,VL,VM,VN,VO,VP,VQ,VS,VT,VW,VX,Uf,Ug,Uh,Uj,Uk,Ul,Uo,Ur,Us,Ut,Uu,Uv,Uw,Ux,U8,U9,UA,UD,UE,UG,UH,UI,UJ,UK,UN,UO,UP,UR,US,UT,UW,UY,UZ,Tb,Tc,Td,Te,Tf,Tg,Ti,Tj,Tl,Tm,Ts,Tu,Tw,Tx,Ty,Tz,T5,T6,T7,T9,TA,TB,TC,TD,TE,TF,TG,TH,TI,TJ,TK,TL,TM,TN,TO,TP,TQ,TR,TS,Se,Sf,Ss,Su,Sv,Sw,Sx,Sy,Sz,S3,S6,SD,SF,SG,SJ,SK,SL,SN,SS,SV,SW,Rg,Rh,Rj,Rk,Rz,R0,RG,RO,Qw,Qx,Qz,QA,QS,QU,QW,QX,QY,QZ,Pu,Pv,Pw,Px,Py,PE,c83,aRa,aQZ,w84,hf,r0,rl,ra,rt,t40,n0,n1,a1,z0,z1,z2,z3,z4,z5]
  tactic =>
   unfold aBJ at rd0 ⊢;rw[aJ F.size (fun _=>[.pt 0 0,.str F,.pt 1 0,.pt 3 0]) (fun i=>lL w0 xs (zN F.size) F.size++[kT F i])]
   ·unfold kT lL
    sym =>
     simp[bX,bY,bZ,gU,dK,dJ,dL,dM,dN,Za,Zb,Zc,Zd,Ze,Zf,Zg,Zh,Zi,Zj,Zl,Zm,Zn,Zo,Zp,Zq,Zv,Zw,Zy,Z0,ZA,ZH,ZK,ZM,ZP,ZQ,ZR,ZV,ZX,ZY,ZZ,Ya,Yb,Yc,Ye,Yh,Yi,Yj,Ym,Yn,Yo,Yu,Yx,Yz,Y4,Y5,Y6,YE,YH,YL,YM,YQ,YT,Xh,Xn,Xo,Xr,Xs,Xt,Xx,Xy,Xz,XI,XL,We,Wg,Wi,Wj,Wm,Wr,Wt,Wu,Wv,Ww,Wx,W3,WE,WF,WH,WI,WR,WS,WU,WV,Va,Vb,Vd,Vo,Vp,Vq,Vr,Vy,V0,V1,V2,V3,V4,V5,V6,V7,V8,V9,VG,VH,VL,VM,VN,VO,VP,VQ,VS,VT,VW,VX,Uf,Ug,Uh,Uj,Uk,Ul,Uo,Ur,Us,Ut,Uu,Uv,Uw,Ux,U8,U9,UA,UD,UE,UG,UH,UI,UJ,UK,UN,UO,UP,UR,US,UT,UW,UY,UZ,Tb,Tc,Td,Te,Tf,Tg,Ti,Tj,Tl,Tm,Ts,Tu,Tw,Tx,Ty,Tz,T5,T6,T7,T9,TA,TB,TC,TD,TE,TF,TG,TH,TI,TJ,TK,TL,TM,TN,TO,TP,TQ,TR,TS,Se,Sf,Ss,Su,Sv,Sw,Sx,Sy,Sz,S3,S6,SD,SF,SG,SJ,SK,SL,SN,SS,SV,SW,Rg,Rh,Rj,Rk,Rz,R0,RG,RO,Qw,Qx,Qz,QA,QS,QU,QW,QX,QY,QZ,Pu,Pv,Pw,Px,Py,PE,e0]
     tactic =>
      unfold aCG at rd1 ⊢;rw[aJ F.size (fun _=>[.pt 0 0,.pt 1 0,.pt 3 0]) (fun i=>lL w0 xs (kB F xs i) F.size++[kT F i])]
      ·unfold kT lL
       generalize kB F xs F.size=N0 at *;(exact gF e0 nl ch f1 @bX @bY @bZ @gU @dK @dJ @dL @dM @dN)
      ·unfold kT lL
       rw[aKV];rfl
      ·exact rd1
      ·unfold kT lL
       (exact jE e0 @bX @bY @bZ @gU @dK @dJ @dL @dM @dN)
   ·rfl
   ·exact rd0
   ·unfold kT lL
    (exact jE e0 @bX @bY @bZ @gU @dK @dJ @dL @dM @dN)
theorem aIz{p:Nat→Prop}[DecidablePred p]{n:Nat}(h:∃ i,i<n∧¬p i):∃ i,i<n∧¬p i∧∀ j,j<i→p j:=by
 obtain⟨i,hi,hp⟩:=h;induction i using Nat.strongRecOn with
 | _ i ih =>
   grind
theorem aQo(e:Int):Gd (.ifc 110 (.agg [I e])):=.ifc _ _ (.agg _ fun a ha=>by rw[D1.1 ha];exact .int _ _)
theorem gS{F:ByteArray}(hf:aQ true (.str w0) fmE=some (some (.str F))):aAM true (.str ⟨⟨[]⟩⟩) (aQ true (.str w0) fmE)=some (.tup [.str F,.bool true]):=by rw[hf];rfl
theorem aUn(hs:line.size≤40)(hw:bQ line=w0::xs)(hf:aQ true (.str w0) fmE=some (some (.str F)))(ws:Ws F xs)(hn:∃ j,j<F.size∧¬(dk F j=110∨aU (xs.getD j ByteArray.empty)=true)):CalP Tryz.prog aB 60 [.str line] [] (.ifc 110 (.agg [I 8])) []:=by
 obtain⟨i,hi,hb,hj⟩:=aIz hn;rw[not_or]at hb;obtain⟨k1,k2⟩:=aRi (xs:=xs) (i:=i) (by have:=ws.1;omega);refine CalP.drop (h':=lL w0 xs (zN F.size) F.size++[kT F (i+1)]) ?_ (aQo 8);refine CalP.of (d:=x60) (e':=bB [] []) aA rfl (by simp[x60]) rfl ?_;refine aWF hs hw (gS hf) (aZk ws.1 ws.2.1 ?_);exact aZs ws.1 ws.2.1 ws.2.2.1 ws.2.2.2 hi k1 hb.1 (by grind) fun j h1 z hz=>by
  grind
theorem aXJ(hs:line.size≤40)(hw:bQ line=w0::xs)(hf:aQ true (.str w0) fmE=some (some (.str F)))(ws:Ws F xs)(hn:∀ j,j<F.size→dk F j=110∨aU (xs.getD j ByteArray.empty)=true)(hm:∃ j,j<F.size∧¬(dk F j=110→cD (xs.getD j ByteArray.empty)≠none)):CalP Tryz.prog aB 60 [.str line] [] (.ifc 110 (.agg [I 2])) []:=by
 obtain⟨i,hi,hb,hj⟩:=aIz hm;obtain⟨k1,k2⟩:=aRi (xs:=xs) (i:=i) (by have:=ws.1;omega);have hk:dk F i=110:=Classical.byContradiction fun h=>hb fun h2=>absurd h2 h;have hq:cD (xs.getD i ByteArray.empty)=none:=Classical.byContradiction fun h=>hb fun _=>h;have hnm:∀ j,j<i→dk F j=110→∃ v,cD (xs.getD j ByteArray.empty)=some v:=fun j h1 h2=>M9.1 (hj j h1 h2);refine CalP.drop (h':=lL w0 xs (kB F xs i) F.size++[kT F (i+1)]) ?_ (aQo 2);refine CalP.of (d:=x60) (e':=bB [] []) aA rfl (by simp[x60]) rfl ?_;refine aWF hs hw (gS hf) (aZk ws.1 ws.2.1 ?_);have l:=l60 (w0:=w0) ws hn;have p:=aZr (w0:=w0) ws hi k1 hk hq hnm;unfold r7c at p;unfold r6c r4c x60 at *;dsimp only at *;exact PanX.seqR (K:=60) aA rfl [2,4,6] l p
end
section
variable{F w0 line:ByteArray}{xs W:List ByteArray}{v:AV}
theorem aFp(c:UInt8):∀(s:List UInt8),∀ w∈dS c s,w.length≤s.length
 | [],w,h=>by
   grind [dS]
 | b::r,w,h=>by
   have ih:=aFp c r
   grind [dS]
theorem aMb(c:UInt8):∀(s:List UInt8),dS c s≠[]
 | []=>by simp[dS]
 | b::r=>by
   grind [dS]
theorem aND(line:ByteArray):∃ w0 xs,bQ line=w0::xs:=by
 cases h:bQ line with
 | nil =>
   grind [List.map_eq_nil_iff,aMb,bQ]
 | cons w xs=>grind
theorem aNE{y:ByteArray}(h:y∈bQ line):y.size≤line.size:=by
 unfold bQ at h;obtain⟨l,hl,rfl⟩:=F7.1 h;exact aFp _ _ l hl
theorem aTW:∀ p∈fmL,aED p.2:=by
 have h:∀ p∈fmL,∀ i,i<p.2.size→dn p.2 i=i+1:=by
  intro p hp;have:(fmL.all fun p=>(List.range p.2.size).all fun i=>dn p.2 i==i+1)=true:=by kernel_rfl
  grind
 exact fun p hp=>⟨h p hp⟩
theorem aTV:∀ p∈fmL,p.2.size≤4:=by
 have:(fmL.all fun p=>decide (p.2.size≤4))=true:=by kernel_rfl
 grind
end
structure Ln(line w0:ByteArray)(xs:List ByteArray)(F:ByteArray):Prop where
 hs:line.size≤40
 hw:bQ line=w0::xs
 hf:aQ true (.str w0) fmE=some (some (.str F))
 ws:Ws F xs
section
variable{F w0 line x y z o:ByteArray}{xs W:List ByteArray}{v:AV}
inductive Rd(line:ByteArray):Int ⊕ (ByteArray×List ByteArray×List Int)→Prop
 | long (h:40<line.size):Rd line (.inl 14)
 | form {w0 f:ByteArray} {xs:List ByteArray} {b:Bool} (hs:line.size≤40) (hw:bQ line=w0::xs) (hf:aAM true (.str ⟨⟨[]⟩⟩) (aQ true (.str w0) fmE)=some (.tup [.str f,.bool b])) (hF:f.size≤4) (hn:b=true→xs.length≠f.size):Rd line (.inl 13)
 | name {w0 F:ByteArray} {xs:List ByteArray} (l:Ln line w0 xs F) (hn:∃ j,j<F.size∧¬(dk F j=110∨aU (xs.getD j ByteArray.empty)=true)):Rd line (.inl 8)
 | num {w0 F:ByteArray} {xs:List ByteArray} (l:Ln line w0 xs F) (hn:∀ j,j<F.size→dk F j=110∨aU (xs.getD j ByteArray.empty)=true) (hm:∃ j,j<F.size∧¬(dk F j=110→cD (xs.getD j ByteArray.empty)≠none)):Rd line (.inl 2)
 | ok {w0 F:ByteArray} {xs:List ByteArray} (l:Ln line w0 xs F) (hn:∀ j,j<F.size→dk F j=110∨aU (xs.getD j ByteArray.empty)=true) (hm:∀ j,j<F.size→dk F j=110→∃ v,cD (xs.getD j ByteArray.empty)=some v):Rd line (.inr (w0,xs,kB F xs F.size))
abbrev Pan(line:ByteArray)(e:Int):Prop:=Rd line (.inl e)
theorem aJH(F:ByteArray)(xs:List ByteArray)(n:Nat)(h:F.size=n):kB F xs F.size=(List.range n).map fun j=>if dk F j=110 then (cD (xs.getD j ByteArray.empty)).getD 0 else 0:=by
 simp_all [kB]
theorem f0(l:Ln line w0 [] F)(h0:F.size=0):Rd line (.inr (w0,[],[])):=by
 have h:=Rd.ok l (fun j hj=>by omega) (fun j hj=>by omega)
 grind [kB]
theorem f1a(l:Ln line w0 [x] F)(h0:F.size=1)(k0:dk F 0≠110)(hb:aU x=false):Pan line 8 :=
 .name l ⟨0,by omega,fun h=>h.elim k0 fun h2=>by grind⟩
theorem f1b(l:Ln line w0 [x] F)(h0:F.size=1)(k0:dk F 0≠110)(hb:aU x=true):Rd line (.inr (w0,[x],[0])):=by
 have h:=Rd.ok l (fun j hj=>by
  grind) (fun j hj hk=>by
  grind)
 grind [kB]
theorem n1a(l:Ln line w0 [x] F)(h0:F.size=1)(k0:dk F 0=110)(hb:cD x=none):Pan line 2 :=
 .num l (fun j hj=>by
  grind) ⟨0,by omega,fun h=>h k0 hb⟩
theorem n1b(l:Ln line w0 [x] F)(h0:F.size=1)(k0:dk F 0=110){a:Int}(hb:cD x=some a):Rd line (.inr (w0,[x],[a])):=by
 have h:=Rd.ok l (fun j hj=>by
  grind) (fun j hj hk=>by
  grind)
 grind [kB]
theorem f2a(l:Ln line w0 [x,y] F)(h0:F.size=2)(k0:dk F 0≠110)(hb:aU x=false):Pan line 8 :=
 .name l ⟨0,by omega,fun h=>h.elim k0 fun h2=>by grind⟩
theorem f2n(k1:dk F 1=110)(hb:aU x=true)(h0:F.size=2)(j:Nat)(hj:j<F.size):dk F j=110∨aU ([x,y].getD j ByteArray.empty)=true:=by
 grind
theorem f2b(l:Ln line w0 [x,y] F)(h0:F.size=2)(k1:dk F 1=110)(hb:aU x=true)(hy:cD y=none):Pan line 2 :=
 .num l (f2n k1 hb h0) ⟨1,by omega,fun h=>h k1 hy⟩
theorem f2c(l:Ln line w0 [x,y] F)(h0:F.size=2)(k0:dk F 0≠110)(k1:dk F 1=110)(hb:aU x=true){a:Int}(hy:cD y=some a):Rd line (.inr (w0,[x,y],[0,a])):=by
 have h:=Rd.ok l (f2n k1 hb h0) (fun j hj hk=>by
  grind)
 rw[aJH F [x,y] 2 h0]at h;have e:(List.range 2).map (fun j=>if dk F j=110 then (cD ([x,y].getD j ByteArray.empty)).getD 0 else 0)=[0,a]:=by
  show [if dk F 0=110 then _ else (0:Int),if dk F 1=110 then (cD y).getD 0 else (0:Int)]=_
  grind
 grind
theorem f3a(l:Ln line w0 [x,y,z] F)(h0:F.size=3)(k0:dk F 0≠110)(hb:aU x=false):Pan line 8 :=
 .name l ⟨0,by omega,fun h=>h.elim k0 fun h2=>by grind⟩
theorem f3n(k1:dk F 1=110)(k2:dk F 2=110)(hb:aU x=true)(h0:F.size=3)(j:Nat)(hj:j<F.size):dk F j=110∨aU ([x,y,z].getD j ByteArray.empty)=true:=by
 grind
theorem f3b(l:Ln line w0 [x,y,z] F)(h0:F.size=3)(k1:dk F 1=110)(k2:dk F 2=110)(hb:aU x=true)(hy:cD y=none∨cD z=none):Pan line 2 :=
 .num l (f3n k1 k2 hb h0) (hy.elim (fun hy=>⟨1,by omega,fun h=>h k1 hy⟩) fun hz=>⟨2,by omega,fun h=>h k2 hz⟩)
theorem f3c(l:Ln line w0 [x,y,z] F)(h0:F.size=3)(k0:dk F 0≠110)(k1:dk F 1=110)(k2:dk F 2=110)(hb:aU x=true){a b:Int}(hy:cD y=some a)(hz:cD z=some b):Rd line (.inr (w0,[x,y,z],[0,a,b])):=by
 have h:=Rd.ok l (f3n k1 k2 hb h0) (fun j hj hk=>by
  grind)
 rw[aJH F [x,y,z] 3 h0]at h;have e:(List.range 3).map (fun j=>if dk F j=110 then (cD ([x,y,z].getD j ByteArray.empty)).getD 0 else 0)=[0,a,b]:=by
  show [if dk F 0=110 then _ else (0:Int),if dk F 1=110 then (cD y).getD 0 else (0:Int),if dk F 2=110 then (cD z).getD 0 else (0:Int)]=_
  grind
 grind
theorem f4a(l:Ln line w0 [x,y,z,o] F)(h0:F.size=4)(k0:dk F 0≠110)(k3:dk F 3≠110)(hb:aU x=false∨aU o=false):Pan line 8 :=
 .name l (hb.elim (fun hb=>⟨0,by omega,fun h=>h.elim k0 fun h2=>by grind⟩) fun hb=>⟨3,by omega,fun h=>h.elim k3 fun h2=>by simp_all⟩)
theorem f4n(k1:dk F 1=110)(k2:dk F 2=110)(hb:aU x=true)(ho:aU o=true)(h0:F.size=4)(j:Nat)(hj:j<F.size):dk F j=110∨aU ([x,y,z,o].getD j ByteArray.empty)=true:=by
 grind
theorem f4b(l:Ln line w0 [x,y,z,o] F)(h0:F.size=4)(k1:dk F 1=110)(k2:dk F 2=110)(hb:aU x=true)(ho:aU o=true)(hy:cD y=none∨cD z=none):Pan line 2 :=
 .num l (f4n k1 k2 hb ho h0) (hy.elim (fun hy=>⟨1,by omega,fun h=>h k1 hy⟩) fun hz=>⟨2,by omega,fun h=>h k2 hz⟩)
theorem f4c(l:Ln line w0 [x,y,z,o] F)(h0:F.size=4)(k0:dk F 0≠110)(k1:dk F 1=110)(k2:dk F 2=110)(k3:dk F 3≠110)(hb:aU x=true)(ho:aU o=true){a b:Int}(hy:cD y=some a)(hz:cD z=some b):Rd line (.inr (w0,[x,y,z,o],[0,a,b,0])):=by
 have h:=Rd.ok l (f4n k1 k2 hb ho h0) (fun j hj hk=>by
  grind)
 rw[aJH F [x,y,z,o] 4 h0]at h;have e:(List.range 4).map (fun j=>if dk F j=110 then (cD ([x,y,z,o].getD j ByteArray.empty)).getD 0 else 0)=[0,a,b,0]:=by
  show [if dk F 0=110 then _ else (0:Int),if dk F 1=110 then (cD y).getD 0 else (0:Int),if dk F 2=110 then (cD z).getD 0 else (0:Int),if dk F 3=110 then _ else (0:Int)]=_
  grind
 grind
end
section
variable{line:ByteArray}{xs:List ByteArray}
def RdP(line:ByteArray)(r:Int ⊕ Wd):Prop:=match r with
 | .inl e=>Rd line (.inl e)
 | .inr w=>∃ w0 xs ns,Rd line (.inr (w0,xs,ns))∧IsW w (.agg [.str w0,.fs (sr xs),.fs (ns.map fun v=>[I v])])
theorem aXj(w0:ByteArray)(xs:List ByteArray)(ns:List Int):gdA (.agg [.str w0,.fs (sr xs),.fs (ns.map fun v=>[I v])])=true:=by
 have h:∀ l:List (List AV),(∀ r∈l,gdL r=true)→gdR l=true:=by
  intro l;induction l with
  | nil=>intro _;rfl
  | cons r l ih=>grind [gdR]
 simp_all [gdA,sr,gdL]
theorem uL{w F:ByteArray}(hp:(w,F)∈fmL)(hs:¬line.size>40)(hw:bQ line=w::xs)(hl:xs.length=F.size):Ws F xs:=by
 refine⟨hl,aTV _ hp,aTW _ hp,fun y hy=>?_⟩;have:=aNE (line:=line) (y:=y) (by grind);omega
theorem aDN{x:ByteArray}(h:aU x=true):x.size≤10:=by
 grind [aU]
theorem not_true{b:Bool}(h:¬b=true):b=false:=by grind
theorem gH(hs:¬line.size>40){w:ByteArray}(hw:bQ line=w::xs){r:Int ⊕ Wd} (h:(match w::xs with
 | [w]=>if w=AAw then .inr .close else if w=AAA then .inr .total else .inl 13
 | [w,x]=>if w=AAt then hZ x (.farmer x) else if w=AAz then hZ x (.net x) else if w=AAC then hZ x (.used x) else
   if w=AAD then hZ x (.loss x) else if w=AAE then hZ x (.power x) else
   if w=AAv then aAI x (fun n=>.void n.toNat) else if w=AAB then aAI x (fun n=>.ticket n.toNat) else .inl 13
 | [w,x,y]=>if w=AAx then (if aU x then aAI y (.meter x) else .inl 8) else .inl 13
 | [w,x,y,z]=>if w=AAy then (if aU x then (match cD y,cD z with
  | some a,some b=>.inr (.pan x a b)
  | _,_=>.inl 2) else .inl 8) else .inl 13
 | [w,x,y,z,o]=>if w=AAu then (if aU x&&aU o then (match cD y,cD z with
  | some a,some b=>.inr (.wagon x o a b)
  | _,_=>.inl 2) else .inl 8) else .inl 13
 | _=>.inl 13)=r):rd line=r:=by
 rw[←h];unfold rd
 grind
theorem aMq(hs:¬line.size>40)(hw:bQ line=AAt::xs):RdP line (rd line):=by
 have hp:((AAt,⟨⟨[102]⟩⟩):ByteArray×ByteArray)∈fmL:=by simp[fmL]
 have hf:aQ true (.str AAt) fmE=some (some (.str ⟨⟨[102]⟩⟩)):=by kernel_rfl
 by_cases hl:xs.length=1
 ·obtain⟨x,rfl⟩:∃ x,xs=[x]:=by
   match xs,hl with
   | [x],_=>grind
  have l:Ln line AAt [x] ⟨⟨[102]⟩⟩:=⟨by omega,hw,hf,uL hp hs hw rfl⟩;have k0:dk ⟨⟨[102]⟩⟩ 0≠110:=by
   rw[show dk ⟨⟨[102]⟩⟩ 0=102 by kernel_rfl];decide
  rw[gH hs hw (r:=hZ x (.farmer x)) (by simp)];unfold hZ;by_cases hb:aU x=true
  ·rw[if_pos hb]
   exact⟨_,_,_,f1b l rfl k0 hb,0,rfl⟩
  ·rw[if_neg hb]
   exact f1a l rfl k0 (not_true hb)
 ·rw[gH hs hw (r:=.inl 13) (by
   grind)]
  exact Rd.form AT hw (gS hf) (by decide) fun _=>hl
theorem aPo(hs:¬line.size>40)(hw:bQ line=AAu::xs):RdP line (rd line):=by
 have hp:((AAu,AAH):ByteArray×ByteArray)∈fmL:=by simp[fmL]
 have hf:aQ true (.str AAu) fmE=some (some (.str AAH)):=by kernel_rfl
 by_cases hl:xs.length=4
 ·obtain⟨x,y,z,o,rfl⟩:∃ x y z o,xs=[x,y,z,o]:=by
   match xs,hl with
   | [x,y,z,o],_=>grind
  have l:Ln line AAu [x,y,z,o] AAH:=⟨by omega,hw,hf,uL hp hs hw rfl⟩;have k0:dk AAH 0≠110:=by
   rw[show dk AAH 0=119 by kernel_rfl];decide
  have k1:dk AAH 1=110:=by kernel_rfl
  have k2:dk AAH 2=110:=by kernel_rfl
  have k3:dk AAH 3≠110:=by
   rw[show dk AAH 3=102 by kernel_rfl];decide
  rw[gH hs hw (r:=if aU x&&aU o then (match cD y,cD z with
   | some a,some b=>.inr (.wagon x o a b)
   | _,_=>.inl 2) else .inl 8) (by simp)]
  by_cases hb:(aU x&&aU o)=true
  ·rw[if_pos hb]
   rw[B4]at hb;cases hy:cD y with
   | none=>exact f4b l rfl k1 k2 hb.1 hb.2 (.inl hy)
   | some a =>
     cases hz:cD z with
     | none=>exact f4b l rfl k1 k2 hb.1 hb.2 (.inr hz)
     | some b =>
       obtain⟨_,a0,a1,_⟩:=fL hy;obtain⟨_,b0,b1,_⟩:=fL hz;exact⟨_,_,_,f4c l rfl k0 k1 k2 k3 hb.1 hb.2 hy hz,⟨a0,a1,b0,b1,aDN hb.1,aDN hb.2⟩,y,z,0,0,rfl⟩
  ·rw[if_neg hb]
   have hb:=not_true hb;rw[Bool.and_eq_false_iff]at hb;exact f4a l rfl k0 k3 hb
 ·rw[gH hs hw (r:=.inl 13) (by
   grind)]
  exact Rd.form AT hw (gS hf) (by decide) fun _=>hl
theorem aTo(hs:¬line.size>40)(hw:bQ line=AAv::xs):RdP line (rd line):=by
 have hp:((AAv,⟨⟨[110]⟩⟩):ByteArray×ByteArray)∈fmL:=by simp[fmL]
 have hf:aQ true (.str AAv) fmE=some (some (.str ⟨⟨[110]⟩⟩)):=by kernel_rfl
 by_cases hl:xs.length=1
 ·obtain⟨x,rfl⟩:∃ x,xs=[x]:=by
   match xs,hl with
   | [x],_=>grind
  have l:Ln line AAv [x] ⟨⟨[110]⟩⟩:=⟨by omega,hw,hf,uL hp hs hw rfl⟩;have k0:dk ⟨⟨[110]⟩⟩ 0=110:=by kernel_rfl
  rw[gH hs hw (r:=aAI x fun n=>.void n.toNat) (by simp)];unfold aAI;cases hb:cD x with
  | none=>exact n1a l rfl k0 hb
  | some a =>
    obtain⟨_,a0,_,_⟩:=fL hb;refine⟨_,_,_,n1b l rfl k0 hb,x,?_⟩;rw[Int.toNat_of_nonneg a0];rfl
 ·rw[gH hs hw (r:=.inl 13) (by
   grind)]
  exact Rd.form AT hw (gS hf) (by decide) fun _=>hl
theorem aPs(hs:¬line.size>40)(hw:bQ line=AAw::xs):RdP line (rd line):=by
 have hp:((AAw,⟨⟨[]⟩⟩):ByteArray×ByteArray)∈fmL:=by simp[fmL]
 have hf:aQ true (.str AAw) fmE=some (some (.str ⟨⟨[]⟩⟩)):=by kernel_rfl
 by_cases hl:xs.length=0
 ·obtain rfl:=D0 hl
  have l:Ln line AAw [] ⟨⟨[]⟩⟩:=⟨by omega,hw,hf,uL hp hs hw rfl⟩;rw[gH hs hw (r:=.inr .close) (by simp)];exact⟨_,_,_,f0 l rfl,rfl⟩
 ·rw[gH hs hw (r:=.inl 13) (by
   grind)]
  exact Rd.form AT hw (gS hf) (by decide) fun _=>hl
theorem aPr(hs:¬line.size>40)(hw:bQ line=AAx::xs):RdP line (rd line):=by
 have hp:((AAx,⟨⟨[109,110]⟩⟩):ByteArray×ByteArray)∈fmL:=by simp[fmL]
 have hf:aQ true (.str AAx) fmE=some (some (.str ⟨⟨[109,110]⟩⟩)):=by kernel_rfl
 by_cases hl:xs.length=2
 ·obtain⟨x,y,rfl⟩:∃ x y,xs=[x,y]:=by
   match xs,hl with
   | [x,y],_=>grind
  have l:Ln line AAx [x,y] ⟨⟨[109,110]⟩⟩:=⟨by omega,hw,hf,uL hp hs hw rfl⟩;have k0:dk ⟨⟨[109,110]⟩⟩ 0≠110:=by
   rw[show dk ⟨⟨[109,110]⟩⟩ 0=109 by kernel_rfl];decide
  have k1:dk ⟨⟨[109,110]⟩⟩ 1=110:=by kernel_rfl
  rw[gH hs hw (r:=if aU x then aAI y (.meter x) else .inl 8) (by simp)];by_cases hb:aU x=true
  ·rw[if_pos hb]
   unfold aAI;cases hy:cD y with
   | none=>exact f2b l rfl k1 hb hy
   | some a =>
     obtain⟨_,a0,a1,_⟩:=fL hy;exact⟨_,_,_,f2c l rfl k0 k1 hb hy,⟨a0,a1⟩,y,0,rfl⟩
  ·rw[if_neg hb]
   exact f2a l rfl k0 (not_true hb)
 ·rw[gH hs hw (r:=.inl 13) (by
   grind)]
  exact Rd.form AT hw (gS hf) (by decide) fun _=>hl
theorem aWB(hs:¬line.size>40)(hw:bQ line=AAy::xs):RdP line (rd line):=by
 have hp:((AAy,AAI):ByteArray×ByteArray)∈fmL:=by simp[fmL]
 have hf:aQ true (.str AAy) fmE=some (some (.str AAI)):=by kernel_rfl
 by_cases hl:xs.length=3
 ·obtain⟨x,y,z,rfl⟩:∃ x y z,xs=[x,y,z]:=by
   match xs,hl with
   | [x,y,z],_=>grind
  have l:Ln line AAy [x,y,z] AAI:=⟨by omega,hw,hf,uL hp hs hw rfl⟩;have k0:dk AAI 0≠110:=by
   rw[show dk AAI 0=112 by kernel_rfl];decide
  have k1:dk AAI 1=110:=by kernel_rfl
  have k2:dk AAI 2=110:=by kernel_rfl
  rw[gH hs hw (r:=if aU x then (match cD y,cD z with
   | some a,some b=>.inr (.pan x a b)
   | _,_=>.inl 2) else .inl 8) (by simp)]
  by_cases hb:aU x=true
  ·rw[if_pos hb]
   cases hy:cD y with
   | none=>exact f3b l rfl k1 k2 hb (.inl hy)
   | some a =>
     cases hz:cD z with
     | none=>exact f3b l rfl k1 k2 hb (.inr hz)
     | some b =>
       obtain⟨_,a0,a1,_⟩:=fL hy;obtain⟨_,b0,b1,_⟩:=fL hz;exact⟨_,_,_,f3c l rfl k0 k1 k2 hb hy hz,⟨a0,a1,b0,b1⟩,y,z,0,rfl⟩
  ·rw[if_neg hb]
   exact f3a l rfl k0 (not_true hb)
 ·rw[gH hs hw (r:=.inl 13) (by
   grind)]
  exact Rd.form AT hw (gS hf) (by decide) fun _=>hl
theorem aWC(hs:¬line.size>40)(hw:bQ line=AAz::xs):RdP line (rd line):=by
 have hp:((AAz,⟨⟨[102]⟩⟩):ByteArray×ByteArray)∈fmL:=by simp[fmL]
 have hf:aQ true (.str AAz) fmE=some (some (.str ⟨⟨[102]⟩⟩)):=by kernel_rfl
 by_cases hl:xs.length=1
 ·obtain⟨x,rfl⟩:∃ x,xs=[x]:=by
   match xs,hl with
   | [x],_=>grind
  have l:Ln line AAz [x] ⟨⟨[102]⟩⟩:=⟨by omega,hw,hf,uL hp hs hw rfl⟩;have k0:dk ⟨⟨[102]⟩⟩ 0≠110:=by
   rw[show dk ⟨⟨[102]⟩⟩ 0=102 by kernel_rfl];decide
  rw[gH hs hw (r:=hZ x (.net x)) (by simp)];unfold hZ;by_cases hb:aU x=true
  ·rw[if_pos hb]
   exact⟨_,_,_,f1b l rfl k0 hb,0,rfl⟩
  ·rw[if_neg hb]
   exact f1a l rfl k0 (not_true hb)
 ·rw[gH hs hw (r:=.inl 13) (by
   grind)]
  exact Rd.form AT hw (gS hf) (by decide) fun _=>hl
theorem aPp(hs:¬line.size>40)(hw:bQ line=AAA::xs):RdP line (rd line):=by
 have hp:((AAA,⟨⟨[]⟩⟩):ByteArray×ByteArray)∈fmL:=by simp[fmL]
 have hf:aQ true (.str AAA) fmE=some (some (.str ⟨⟨[]⟩⟩)):=by kernel_rfl
 by_cases hl:xs.length=0
 ·obtain rfl:=D0 hl
  have l:Ln line AAA [] ⟨⟨[]⟩⟩:=⟨by omega,hw,hf,uL hp hs hw rfl⟩;rw[gH hs hw (r:=.inr .total) (by simp)];exact⟨_,_,_,f0 l rfl,rfl⟩
 ·rw[gH hs hw (r:=.inl 13) (by
   grind)]
  exact Rd.form AT hw (gS hf) (by decide) fun _=>hl
theorem aMp(hs:¬line.size>40)(hw:bQ line=AAB::xs):RdP line (rd line):=by
 have hp:((AAB,⟨⟨[110]⟩⟩):ByteArray×ByteArray)∈fmL:=by simp[fmL]
 have hf:aQ true (.str AAB) fmE=some (some (.str ⟨⟨[110]⟩⟩)):=by kernel_rfl
 by_cases hl:xs.length=1
 ·obtain⟨x,rfl⟩:∃ x,xs=[x]:=by
   match xs,hl with
   | [x],_=>grind
  have l:Ln line AAB [x] ⟨⟨[110]⟩⟩:=⟨by omega,hw,hf,uL hp hs hw rfl⟩;have k0:dk ⟨⟨[110]⟩⟩ 0=110:=by kernel_rfl
  rw[gH hs hw (r:=aAI x fun n=>.ticket n.toNat) (by simp)];unfold aAI;cases hb:cD x with
  | none=>exact n1a l rfl k0 hb
  | some a =>
    obtain⟨_,a0,_,_⟩:=fL hb;refine⟨_,_,_,n1b l rfl k0 hb,x,?_⟩;rw[Int.toNat_of_nonneg a0];rfl
 ·rw[gH hs hw (r:=.inl 13) (by
   grind)]
  exact Rd.form AT hw (gS hf) (by decide) fun _=>hl
theorem aTp(hs:¬line.size>40)(hw:bQ line=AAC::xs):RdP line (rd line):=by
 have hp:((AAC,⟨⟨[109]⟩⟩):ByteArray×ByteArray)∈fmL:=by simp[fmL]
 have hf:aQ true (.str AAC) fmE=some (some (.str ⟨⟨[109]⟩⟩)):=by kernel_rfl
 by_cases hl:xs.length=1
 ·obtain⟨x,rfl⟩:∃ x,xs=[x]:=by
   match xs,hl with
   | [x],_=>grind
  have l:Ln line AAC [x] ⟨⟨[109]⟩⟩:=⟨by omega,hw,hf,uL hp hs hw rfl⟩;have k0:dk ⟨⟨[109]⟩⟩ 0≠110:=by
   rw[show dk ⟨⟨[109]⟩⟩ 0=109 by kernel_rfl];decide
  rw[gH hs hw (r:=hZ x (.used x)) (by simp)];unfold hZ;by_cases hb:aU x=true
  ·rw[if_pos hb]
   exact⟨_,_,_,f1b l rfl k0 hb,0,rfl⟩
  ·rw[if_neg hb]
   exact f1a l rfl k0 (not_true hb)
 ·rw[gH hs hw (r:=.inl 13) (by
   grind)]
  exact Rd.form AT hw (gS hf) (by decide) fun _=>hl
theorem aTr(hs:¬line.size>40)(hw:bQ line=AAD::xs):RdP line (rd line):=by
 have hp:((AAD,⟨⟨[112]⟩⟩):ByteArray×ByteArray)∈fmL:=by simp[fmL]
 have hf:aQ true (.str AAD) fmE=some (some (.str ⟨⟨[112]⟩⟩)):=by kernel_rfl
 by_cases hl:xs.length=1
 ·obtain⟨x,rfl⟩:∃ x,xs=[x]:=by
   match xs,hl with
   | [x],_=>grind
  have l:Ln line AAD [x] ⟨⟨[112]⟩⟩:=⟨by omega,hw,hf,uL hp hs hw rfl⟩;have k0:dk ⟨⟨[112]⟩⟩ 0≠110:=by
   rw[show dk ⟨⟨[112]⟩⟩ 0=112 by kernel_rfl];decide
  rw[gH hs hw (r:=hZ x (.loss x)) (by simp)];unfold hZ;by_cases hb:aU x=true
  ·rw[if_pos hb]
   exact⟨_,_,_,f1b l rfl k0 hb,0,rfl⟩
  ·rw[if_neg hb]
   exact f1a l rfl k0 (not_true hb)
 ·rw[gH hs hw (r:=.inl 13) (by
   grind)]
  exact Rd.form AT hw (gS hf) (by decide) fun _=>hl
theorem aPq(hs:¬line.size>40)(hw:bQ line=AAE::xs):RdP line (rd line):=by
 have hp:((AAE,⟨⟨[102]⟩⟩):ByteArray×ByteArray)∈fmL:=by simp[fmL]
 have hf:aQ true (.str AAE) fmE=some (some (.str ⟨⟨[102]⟩⟩)):=by kernel_rfl
 by_cases hl:xs.length=1
 ·obtain⟨x,rfl⟩:∃ x,xs=[x]:=by
   match xs,hl with
   | [x],_=>grind
  have l:Ln line AAE [x] ⟨⟨[102]⟩⟩:=⟨by omega,hw,hf,uL hp hs hw rfl⟩;have k0:dk ⟨⟨[102]⟩⟩ 0≠110:=by
   rw[show dk ⟨⟨[102]⟩⟩ 0=102 by kernel_rfl];decide
  rw[gH hs hw (r:=hZ x (.power x)) (by simp)];unfold hZ;by_cases hb:aU x=true
  ·rw[if_pos hb]
   exact⟨_,_,_,f1b l rfl k0 hb,0,rfl⟩
  ·rw[if_neg hb]
   exact f1a l rfl k0 (not_true hb)
 ·rw[gH hs hw (r:=.inl 13) (by
   grind)]
  exact Rd.form AT hw (gS hf) (by decide) fun _=>hl
theorem aTq(hs:¬line.size>40){w0:ByteArray}(hw:bQ line=w0::xs)(hn:∀ p∈fmL,¬w0=p.1):RdP line (rd line):=by
 have n0:¬w0=AAt:=hn (AAt,⟨⟨[102]⟩⟩) (by simp[fmL]);have n1:¬w0=AAu:=hn (AAu,AAH) (by simp[fmL]);have n2:¬w0=AAv:=hn (AAv,⟨⟨[110]⟩⟩) (by simp[fmL]);have n3:¬w0=AAw:=hn (AAw,⟨⟨[]⟩⟩) (by simp[fmL]);have n4:¬w0=AAx:=hn (AAx,⟨⟨[109,110]⟩⟩) (by simp[fmL]);have n5:¬w0=AAy:=hn (AAy,AAI) (by simp[fmL]);have n6:¬w0=AAz:=hn (AAz,⟨⟨[102]⟩⟩) (by simp[fmL]);have n7:¬w0=AAA:=hn (AAA,⟨⟨[]⟩⟩) (by simp[fmL]);have n8:¬w0=AAB:=hn (AAB,⟨⟨[110]⟩⟩) (by simp[fmL]);have n9:¬w0=AAC:=hn (AAC,⟨⟨[109]⟩⟩) (by simp[fmL]);have n10:¬w0=AAD:=hn (AAD,⟨⟨[112]⟩⟩) (by simp[fmL]);have n11:¬w0=AAE:=hn (AAE,⟨⟨[102]⟩⟩) (by simp[fmL]);have hf:aQ true (.str w0) fmE=some none:=by
  grind [aCy,fmE]
 rw[gH hs hw (r:=.inl 13) (by
  grind)]
 exact Rd.form (f:=⟨⟨[]⟩⟩) (b:=false) AT hw (by rw[hf];rfl) (by decide) fun h=>by cases h
theorem aKM(line:ByteArray):RdP line (rd line):=by
 by_cases hs:line.size>40
 ·have e:rd line = .inl 14:=by grind [rd]
  rw[e];exact .long hs
 ·obtain⟨w0,xs,hw⟩:=aND line
  by_cases hn:∀ p∈fmL,¬w0=p.1;·grind [aTq]
  ·have hex:∃ p∈fmL,w0=p.1:=Classical.byContradiction fun h=>hn fun p hp e=>h ⟨p,hp,e⟩
   obtain⟨p,hp,e⟩:=hex;subst e;unfold fmL at hp;simp only[C3,G4,AAh]at hp;rcases hp with rfl|rfl|rfl|rfl|rfl|rfl|rfl|rfl|rfl|rfl|rfl|rfl;·grind [aMq]
   ·grind [aPo]
   ·exact aTo hs hw
   ·grind [aPs]
   ·grind [aPr]
   ·exact aWB hs hw
   ·exact aWC hs hw
   all_goals grind [aPp,aMp,aTp,aTr,aPq]
theorem aZa:RdOk rd:=by
 intro line;refine⟨?_,fun e h=>aPl h⟩;have h:=aKM line;cases hr:rd line with
 | inl e =>
   rw[hr]at h;cases (h:Rd line (.inl e))with
   | long h=>exact aUo h
   | form hs hw hf hF hn=>exact aUp hs hw hf hF hn
   | name l hn=>exact aUn l.hs l.hw l.hf l.ws hn
   | num l hn hm=>exact aXJ l.hs l.hw l.hf l.ws hn hm
 | inr w =>
   rw[hr]at h;obtain⟨w0,xs,ns,h,iw⟩:=h;cases h with
   | ok l hn hm=>exact⟨_,w60 l.hs l.hw l.hf l.ws hn hm,iw,aXj _ _ _⟩
end
abbrev Uq(a:Nat):AV:=.int .u64 (a:Int)
def big(k:IntKind):Prop:=k = .u64∨k = .i64
theorem aBc:big .u64:=.inl rfl
theorem yX:big .i64:=.inr rfl
theorem xD{k:IntKind}(h:big k):k.bits=64:=by rcases h with rfl|rfl<;>rfl
theorem pR{k:IntKind}(h:big k){a:Nat}(ha:a<2^63):k.wrap (a:Int)=(a:Int):=by
 rcases h with rfl|rfl;·simp[IntKind.wrap,IntKind.bits,IntKind.signed];omega
 ·simp[IntKind.wrap,IntKind.bits,IntKind.signed];omega
theorem oE{w:Nat}(a:Nat):BitVec.ofInt w (a:Int)=BitVec.ofNat w a:=by
 rfl
theorem aIP{k:IntKind}(h:big k){a b:Nat}(ha:a<2^63)(hb:b<2^63):nK .and k (a:Int) (b:Int)=((a&&&b:Nat):Int):=by
 unfold nK;dsimp only;rw[oE,oE,xD h,BitVec.toNat_and,BitVec.toNat_ofNat,BitVec.toNat_ofNat,J7 AT,J7 AT]
 grind [pR,Nat.and_le_left]
theorem aLD{k:IntKind}(h:big k){a b:Nat}(ha:a<2^63)(hb:b<2^63):nK .or k (a:Int) (b:Int)=((a|||b:Nat):Int):=by
 unfold nK;dsimp only;rw[oE,oE,xD h,BitVec.toNat_or,BitVec.toNat_ofNat,BitVec.toNat_ofNat,J7 AT,J7 AT];exact pR h (Nat.or_lt_two_pow ha hb)
def dif(a b:Nat):Nat:=a&&&(2^64-(b+1))
theorem aXA(a b:Nat):dif a b≤a:=aF7
theorem aRb{k:IntKind}(h:big k){a b:Nat}(ha:a<2^63)(hb:b<2^63):nK .andNot k (a:Int) (b:Int)=((dif a b:Nat):Int):=by
 unfold nK;dsimp only;rw[oE,oE,xD h,BitVec.toNat_and,BitVec.toNat_not,BitVec.toNat_ofNat,BitVec.toNat_ofNat,J7 AT,J7 AT,show 2^64-1-b=2^64-(b+1) by omega]
 grind [pR,aXA,dif]
theorem aLw{a b:Nat}(hb:b<2^64){i:Nat}:(dif a b).testBit i=(a.testBit i&&(decide (i<64) && !b.testBit i)):=by
 unfold dif;rw[Nat.testBit_and,Nat.testBit_two_pow_sub_succ hb]
theorem aRc{a n:Nat}(h:a<2^n){i:Nat}(hi:n≤i):a.testBit i=false:=Nat.testBit_lt_two_pow (D9 h (F9 AT hi))
theorem sU{k:IntKind}(h:big k){i:Nat}(hi:i<63):k.wrap (1*2^min i k.bits)=((2^i:Nat):Int):=by
 rw[xD h,aF6 AT,Int.one_mul,show (2:Int)^i=((2^i:Nat):Int) by norm_cast];exact pR h (O1 AT hi)
theorem aOy{k:IntKind}(h:big k){i:Nat}(hi:i<63):k.wrap (2^min i k.bits)=((2^i:Nat):Int):=by
 rw[←sU h hi,Int.one_mul]
theorem aSW{k:IntKind}(h:big k){a i:Nat}(hi:i<64):(a:Int).fdiv (2^min i k.bits)=((a>>>i:Nat):Int):=by
 grind [xD,Nat.shiftRight_eq_div_pow]
theorem aRe{k:IntKind}(h:big k){a i:Nat}(ha:a<2^63)(hi:i<64):nK .and k ((a:Int).fdiv (2^min i k.bits)) 1=if a.testBit i then 1 else 0:=by
 have:a>>>i≤a:=Nat.shiftRight_le a i;rw[aSW h hi,show (1:Int)=((1:Nat):Int) from rfl,aIP h AT AT];unfold Nat.testBit
 grind
theorem aRd{k:IntKind}(h:big k){a i:Nat}(ha:a<2^63)(hi:i<64):(nK .and k ((a:Int).fdiv (2^min i k.bits)) 1=1)=(a.testBit i=true):=by
 grind [aRe]
theorem aVy{a i n:Nat}(ha:a<2^n)(hi:i<n):a|||2^i<2^n:=Nat.or_lt_two_pow ha (O1 AT hi)
def el(a:Nat):List Nat:=(List.range 10).filter (a.testBit ·)
def aMu(a:Nat):Nat:=(el a).headD 0
def tzq(a:Nat):Bool:=match dC aB 6 175 [Uq a] []with
 | some (.int .i64 n,[])=>decide (n=(aMu a:Nat))
 | _=>false
theorem aWc:((List.range 1024).all fun a=>a==0||tzq a)=true:=by kernel_rfl
theorem bCD{a:Nat}(ha:a<1024)(h0:a≠0):runW aB 175 [Uq a] []=some (I (aMu a:Nat),[]):=by
 have h:=D4.1 aWc a (I3.2 ha);have h1:(a==0)=false:=by simp[h0]
 rw[h1,Bool.false_or]at h;unfold tzq at h;refine bI.2 ⟨6,?_⟩
 grind
theorem aUd:∀ a:Nat,a<1024→a≠0→el a=aMu a::el (a&&&(a-1)):=by decide +kernel
theorem bFa:∀ a:Nat,a<1024→(el a=[]↔a=0):=by decide +kernel
theorem aXy{a k:Nat}:k∈el a↔k<10∧a.testBit k=true:=by simp[el]
def aCn(a:Nat):Nat→Nat
 | 0=>a
 | i+1=>aCn a i&&&(aCn a i-1)
theorem aHg{a:Nat}(ha:a<1024):∀ i,aCn a i<1024
 | 0=>ha
 | i+1=>by rw[aCn];exact aD6 aF7 (aHg ha i)
theorem aKh{a:Nat}(ha:a<1024):∀ i,el (aCn a i)=(el a).drop i
 | 0=>rfl
 | i+1=>by
   have ih:=aKh ha i;rw[aCn];by_cases h0:aCn a i=0
   ·rw[h0]at ih ⊢
    have e0:el 0=[]:=rfl;rw[show (0&&&(0-1))=0 from rfl,e0];rw[e0]at ih;have:=AAs List.length ih
    grind [List.drop_eq_nil_of_le]
   ·rw[aUd _ (aHg ha i) h0]at ih
    rw[←List.drop_drop,←ih];rfl
theorem aXC{a:Nat}(ha:a<1024){i:Nat}(hi:i<(el a).length):aCn a i≠0∧(el a)[i]?=some (aMu (aCn a i)):=by
 have h:=aKh ha i;have h0:aCn a i≠0:=fun hc=>by
  rw[hc,show el 0=[] from rfl]at h;have:=AAs List.length h
  grind
 simp_all [aMu]
theorem aUi{a:Nat}(ha:a<1024):aCn a (el a).length=0:=by
 grind [aKh,bFa,aHg]
abbrev cU(a:Nat):Option XB:=some (.blk true (.cells true [Uq a]))
structure aUH(n:Nat)(H:XH):Prop where
 hat:∀ a,hat (H++[cU a]) n=cU a
 set:∀ a b,(H++[cU a]).set n (cU b)=H++[cU b]
 len:∀ a,(H++[cU a]).length=n+1
 head:∀(a:Nat)(e:aI),e 0 = .fn (.yield 0) [] []→e 1 = .pt n 0→cC (n+1) [0,1] (some (.normal,e,H++[cU a]))=some ([.fn (.yield 0) [] [],.pt n 0],H++[cU a])
 fin:∀ a,nV false (n+1) (.tup []) (H++[cU a])=(.tup [],H++[cU a])
def Yd(H H':XH)(v:Nat)(b:Bool):Prop:=∀ a:Nat,fW (runW aB) (runYW aB) (.fn (.yield 0) [] []) [I v] (H++[cU a])=some (.bool b,H'++[cU a])
theorem aOS{n:Nat}{H H':XH}(g:aUH n H)(g':aUH n H'){a:Nat}(ha:a<1024)(h0:a≠0)(hy:Yd H H' (aMu a) true) :
 cC (n+1) [0,1] (execW aB 237 (n+1) none (match aGg with | .loop _ a=>a|c=>c) (bB [0,1] [.fn (.yield 0) [] [],.pt n 0]) (H++[cU a]))=some ([.fn (.yield 0) [] [],.pt n 0],H'++[cU (a&&&(a-1))]):=by
 have h1:=g.hat a;have h2:=g'.hat a;have h3:=g'.set a;have h4:=hy a;have t:=bCD ha h0;have n0:((a:Int)=0)=False:=AAb;have u1:IntKind.u64.wrap ((a:Int)-1)=((a-1:Nat):Int):=by
  grind [pR,aBc]
 have u2:=aIP aBc (a:=a) (b:=a-1) AT AT;have hd:=g'.head (a&&&(a-1));unfold aGg;dsimp only;sym =>
  simp[Za,Zb,Zc,Zf,Zg,Zh,Zj,Zl,Zm,Zv,ZA,ZD,ZV,ZZ,Ya,Ye,Yh,Ym,Yn,Yq,Y7,YA,YF,Xx,We,Wr,Vm,V1,V2,V4,V6,V7,V9,VH,VL,VN,VS,VT,Uf,Ug,Uh,Ut,Uv,Uw,Uy,Uz,U6,UT,UW,UX,UY,Tc,Td,Tf,Tg,Tj,Tl,Ts,Tv,Tw,Tz,T6,T9,TA,TB,TC,TD,TE,TF,TM,Ss,Su,Sy,Sz,S3,SD,SF,SI,SK,SL,SP,SV,SW,Ry,QS,QU,QV,QX,QY,QZ,Pu,Pv,Pw,Px,h1,h2,t,h4,n0,u1,u2,h3]
  tactic=>exact hd _ rfl rfl
theorem aQF{n:Nat}{G:Nat→XH}{a:Nat}(ha:a<1024)(g:∀ i,i≤(el a).length→aUH n (G i))(hy:∀ i v,(el a)[i]?=some v→Yd (G i) (G (i+1)) v true) :
 runW aB 237 [.fn (.yield 0) [] [],.pt n 0] (G 0++[cU a])=some (.tup [],G (el a).length++[cU 0]):=by
 have l0:=(g 0 AT).len a;have g1:=g (el a).length AT;have h1:hat (G (el a).length++[aa [.int .u64 0]]) n=aa [.int .u64 0]:=g1.hat 0;have hf:nV false (n+1) (.tup []) (G (el a).length++[aa [.int .u64 0]])=(.tup [],G (el a).length++[aa [.int .u64 0]]):=g1.fin 0;have c0:=aUi ha;rw[qX 237 aRM rfl];unfold aRM;dsimp only;rw[l0];unfold aGg;sym =>
  simp[Za,Zb,Zf,Zh,Zl,Zm,ZA,ZV,YF,YR,Vf,Vj,V1,V2,V9,UC,UE,UJ,UL,UN,UT,UW,UY,UZ,Tb,Tv,T5,TK,TL,Ss,Su,Sy,SD,SF,SJ,SK,SL,SN,SS,SV,SW]
  tactic =>
   rw[aJ (el a).length (fun _=>[.fn (.yield 0) [] [],.pt n 0]) (fun i=>G i++[cU (aCn a i)])]
   ·rw[c0]
    (sym=>(simp[Za,Zb,Zf,Zh,Zl,Zm,ZA,ZV,YF,YR,Vf,Vj,V1,V2,V9,UC,UE,UJ,UL,UN,UT,UW,UY,UZ,Tb,Tv,T5,TK,TL,Ss,Su,Sy,SD,SF,SJ,SK,SL,SN,SS,SV,SW,h1,hf];all_goals tactic=>exact rfl))
   ·exact(g 0 AT).head a _ rfl rfl
   ·intro i hi
    obtain⟨p1,p2⟩:=aXC ha hi;exact aOS (g i AT) (g (i+1) AT) (aHg ha i) p1 (hy i _ p2)
   ·rw[c0]
    (sym=>(simp[Za,Zb,Zf,Zh,Zl,Zm,ZA,ZV,YF,YR,Vf,Vj,V1,V2,V9,UC,UE,UJ,UL,UN,UT,UW,UY,UZ,Tb,Tv,T5,TK,TL,Ss,Su,Sy,SD,SF,SJ,SK,SL,SN,SS,SV,SW,h1];all_goals tactic=>exact rfl))
def wr(W:List Int):List (List AV):=W.map fun v=>[I v]
theorem qG(W:List Int):(wr W).length=W.length:=by simp[wr]
theorem aFj{W:List Int}{i:Nat}{v:Int}(h:W[i]?=some v):(wr W)[i]?=some [I v]:=by simp[wr,h]
def chA(q:Int)(W:List Int):AV:=.agg [.fs [[I q,.fs (wr W)]]]
def chB(q:Int)(W:List Int):AV:=.fs [[.ifc 203 (.agg [I q,.fs (wr W)])]]
def hsA(q:Int)(W:List Int):AV:=.agg [.fs [[I q,.fs (wr W)]],.ifc 283 (chB q W),I W.length,Uq (2^W.length-1)]
theorem aYo(lo n hi:Int):runW aB 212 [I lo,I n,I hi] []=some (.bool (decide (lo≤n)&&decide (n≤hi)),[]):=by
 rw[qX 212 aRS rfl];unfold aRS;dsimp only;rcases oC (lo≤n)with h1|h1
 ·have d1:decide (lo≤n)=true:=by simp[h1]
  (exact pY h1 d1)
 ·have d1:decide (lo≤n)=false:=by simp[h1]
  (exact pY h1 d1)
theorem bCt{v:Int}(h0:0≤v)(h1:v≤1000000):runW aB 211 [I v] []=some (.bool false,[]):=by
 have c:=aYo 0 v 1000000;rw[show (decide (0≤v)&&decide (v≤1000000))=true by grind]at c;rw[qX 211 aRT rfl];unfold aRT;dsimp only;(exact cK c)
theorem bCr{W:List Int}(hW:∀ v∈W,0≤v∧v≤1000000)(hl:W.length≤9):runW aB 215 [.fs (wr W),.fn (.func 211) [] []] []=some (I (-1),[]):=by
 rw[qX 215 aRP rfl];unfold aRP;dsimp only;have ln:=qG W;have e0:((W.length:Int)<(W.length:Int))=False:=AAb;sym =>
  simp[Za,Zb,Zf,Zh,Zl,Zm,Zv,ZA,ZH,ZR,ZV,Ye,Yh,Ym,Yn,Yu,Yz,Y4,Y6,YG,YL,YM,Xx,XL,XY,Wr,Wt,Wx,W6,WB,WY,Vd,Vi,V7,V8,V9,VH,VL,VM,VN,VP,VQ,VS,VT,Uf,Ug,Uh,Ut,UD,UE,UG,UH,UI,UJ,UK,UN,UO,UP,UQ,US,UT,UU,UV,UW,UX,UY,UZ,Tb,Tc,Td,Tf,Tg,Ti,Tj,Tl,Tz,T5,T6,T9,TA,TB,TC,TD,TK,TL,Sr,Sv,Sw,Sy,SD,SF,SG,SI,SJ,SK,SL,SN,SP,SS,SU,SV,SW,Qx,Pu,Pv,Pw,Px,ln]
  tactic =>
   unfold aNs;rw[aJ W.length (fun i=>[.fs (wr W),.fn (.func 211) [] [],I W.length,I (i:Nat)]) (fun _=>[])];·(exact pY e0 ln)
   ·rfl
   ·intro i hi
    obtain⟨v,hv⟩:∃ v,W[i]?=some v:=⟨_,B6 hi⟩;have r1:=aFj hv;have hb:=hW v (B3 hv);have c:=bCt hb.1 hb.2;have t1:((i:Int)<(W.length:Int))=True:=AAa;have a2:IntKind.i64.wrap ((i:Int)+1)=((i+1:Nat):Int):=by grind [aF]
    (exact uJ t1 r1 c a2 ln)
   ·(exact cK e0)
theorem bCs{W:List Int}(hW:∀ v∈W,0≤v∧v≤1000000)(hl:W.length≤9):runW aB 213 [.fs (wr W),.fn (.func 211) [] []] []=some (.bool false,[]):=by
 have c:=bCr hW hl;rw[qX 213 aRR rfl];unfold aRR;dsimp only;(exact cK c)
theorem aYp(q:Int)(W:List Int):runW aB 205 [chA q W] []=some (I W.length,[]):=by
 have ln:=qG W;rw[qX 205 aRX rfl];unfold aRX chA;dsimp only;(exact cK ln)
theorem wE{D:Nat→Option XFn}{K k:Nat}{rd:Option Nat}{L:List Nat}{a:XCode}{e:aI}{h:XH}:execW D K k rd (.loop L a) e h=yN (execW D K k rd a (bB L (zV k L e h)) (lK k L e h)) (execW D K k rd (.loop L a)):=zP
theorem bCx{q:Int}{W:List Int}(hq:1≤q∧q≤10000000)(hW:∀ v∈W,0≤v∧v≤1000000)(h1:1≤W.length)(hl:W.length≤9):runW aB 203 [chA q W] []=some (I 0,[]):=by
 have ln:=qG W;have c1:=aYp q W;have c2:=aYo 1 q 10000000;rw[show (decide (1≤q)&&decide (q≤10000000))=true by grind]at c2;have c3:=bCs hW hl;have t1:((W.length:Int)=0)=False:=AAb;have t2:((9:Int)<(W.length:Int))=False:=AAb;rw[qX 203 aRZ rfl];unfold aRZ aNw chA at *;dsimp only;(exact mK ln c1 c2 c3 t1 t2 @wE)
theorem bCw(q:Int)(W:List Int):runW aB 204 [chA q W,I (-1)] []=some (chB q W,[]):=by
 rw[qX 204 aRY rfl];unfold aRY aNv chA chB;dsimp only;(exact cK @wE)
theorem bCC{q:Int}{W:List Int}(hq:1≤q∧q≤10000000)(hW:∀ v∈W,0≤v∧v≤1000000)(h1:1≤W.length)(hl:W.length≤9):runW aB 182 [chA q W] []=some (.tup [hsA q W,I 0],[]):=by
 have c1:=bCx hq hW h1 hl;have c2:=bCw q W;have c3:=aYp q W;have n0:((W.length:Int)<0)=False:=AAb;have s1:=sU aBc (i:=W.length) AT;have p1:1≤2^W.length:=aD3;have p2:2^W.length≤2^9:=F9 AT hl;have s2:IntKind.u64.wrap (((2^W.length:Nat):Int)-1)=((2^W.length-1:Nat):Int):=by
  grind [pR,aBc]
 rw[qX 182 aSf rfl];unfold aSf chA hsA chB at *;dsimp only;(exact mK c1 c2 c3 n0 s1 s2 @wE)
def fT{α:Type}(f:α→Nat→α)(z:α)(ks:List Nat)(i:Nat):α:=(ks.take i).foldl f z
theorem bBy{α:Type}{f:α→Nat→α}{z:α}{ks:List Nat}{i v:Nat}(h:ks[i]?=some v):fT f z ks (i+1)=f (fT f z ks i) v:=by
 grind [List.take_add_one,fT]
theorem aXw{α:Type}{f:α→Nat→α}{z:α}{ks:List Nat}:fT f z ks ks.length=ks.foldl f z:=by
 simp[fT]
theorem bBE{a n k:Nat}(h:a<2^n)(hk:k∈el a):k<n:=by
 grind [aXy,aRc]
def wS(W:List Int)(n:Int)(k:Nat):Int:=n+W.getD k 0
def wgt(W:List Int)(a:Nat):Int:=(el a).foldl (wS W) 0
theorem aVf{W:List Int}(hW:∀ v∈W,0≤v∧v≤1000000):∀(ks:List Nat)(z:Int),z≤ks.foldl (wS W) z∧ks.foldl (wS W) z≤z+1000000*(ks.length:Int)
 | [],z=>by simp
 | k::ks,z=>by
   have ih:=aVf hW ks (wS W z k);have hv:0≤W.getD k 0∧W.getD k 0≤1000000:=by
    rw[C9];cases h:W[k]? with
    | none=>simp
    | some v=>exact hW v (B3 h)
   grind [wS]
theorem aYj{W:List Int}(hW:∀ v∈W,0≤v∧v≤1000000)(a i:Nat):0≤fT (wS W) 0 (el a) i∧fT (wS W) 0 (el a) i≤10000000:=by
 have h:=aVf hW ((el a).take i) 0
 grind [fT,el]
theorem bCo(a:Nat):runW aB 236 [Uq a] []=some (.fn (.func 237) [] [.pt 0 0],[cU a]):=by
 rw[qX 236 aRN rfl];unfold aRN;dsimp only;(exact yC)
section
variable{q:Int}{W:List Int}
abbrev aMA(q:Int)(W:List Int)(n:Int):XH:=[some (.loop 234 0 [.pt 1 0,.pt 2 0] .ready),some (.blk true (.cells true [I q,.fs (wr W)])),some (.blk true (.cells true [I n]))]
theorem aTO(n:Int):aUH 3 (aMA q W n):=by
 refine⟨fun _=>rfl,fun _ _=>rfl,fun _=>rfl,?_,?_⟩
 ·intro a e h0 h1
  (exact pY h0 h1)
 ·intro a
  rfl
theorem bBT(n m:Int){k:Nat}{x:Int}(hl:W.length≤9)(hk:W[k]?=some x)(hm:IntKind.i64.wrap (n+x)=m):Yd (aMA q W n) (aMA q W m) k true:=by
 have hkl:=(B8.1 hk).1;have c1:((k:Int)<(W.length:Int))=True:=AAa;have ln:=qG W;have r1:=aFj hk;have y:runYW aB (.fn (.yield 0) [] []) [I (k:Nat)] (aMA q W n)=some (.bool true,aMA q W m):=by
  rw[aDl (K:=234) (d:=aNr) (site:=0) (vs:=[.pt 1 0,.pt 2 0]) rfl rfl (by rfl) rfl];(exact vB c1 r1 ln hm)
 intro a;(exact cK y)
theorem bCq(hW:∀ v∈W,0≤v∧v≤1000000)(hl:W.length≤9){a:Nat}(ha:a<2^W.length):runW aB 234 [.agg [I q,.fs (wr W)],Uq a] []=some (I (wgt W a),[]):=by
 have ha2:a<1024:=D9 ha (F9 (n:=2) AT (by omega:W.length≤10));have e236:=bCo a
 have e:runW aB 237 [.fn (.yield 0) [] [],.pt 3 0] [some (.loop 234 0 [.pt 1 0,.pt 2 0] .ready),aa [I q,.fs (wr W)],aa [I 0],cU a] =
  some (.tup [],[some (.loop 234 0 [.pt 1 0,.pt 2 0] .ready),aa [I q,.fs (wr W)],aa [I (wgt W a)],aa [.int .u64 0]]):=by
  have h:=aQF (n:=3) (G:=fun i=>aMA q W (fT (wS W) 0 (el a) i)) ha2 (fun i _=>aTO _) (by
   intro i v hv;have hvl:=bBE ha (B3 hv);obtain⟨x,hx⟩:∃ x,W[v]?=some x:=⟨_,B6 hvl⟩;have b1:=aYj hW a i;have b2:=hW x (B3 hx);refine bBT _ _ hl hx ?_;rw[bBy hv];show IntKind.i64.wrap (fT (wS W) 0 (el a) i+x)=fT (wS W) 0 (el a) i+W.getD v 0
   grind [aF])
  unfold wgt;rw[aXw]at h;exact h
 rw[qX 234 aNr rfl];unfold aNr;dsimp only;(exact pY e236 e)
def sR(q:Int)(W:List Int)(a:Nat):Bool:=decide (q≤wgt W a)
theorem bCp(hW:∀ v∈W,0≤v∧v≤1000000)(hl:W.length≤9){a:Nat}(ha:a<2^W.length):runW aB 235 [.agg [I q,.fs (wr W)],Uq a] []=some (.bool (sR q W a),[]):=by
 have c1:=bCq (q:=q) hW hl ha;rw[qX 235 aRO rfl];unfold aRO sR;dsimp only;rcases oC (q≤wgt W a)with h1|h1
 ·have d1:decide (q≤wgt W a)=true:=by simp[h1]
  rw[d1];(exact pY c1 h1)
 ·have d1:decide (q≤wgt W a)=false:=by simp[h1]
  rw[d1];(exact pY c1 h1)
end
theorem aBd{e:aI}{tab:List (TypeId×FuncId)}{k:Nat}:aK e (.meth tab k)=aDO tab (e k):=rfl
theorem rE{v:AV}:aDO [(203,235),(283,242)] (.ifc 203 v) = .fn (.func 235) [v] []:=rfl
theorem rD{v:AV}:aDO [(203,235),(283,242)] (.ifc 283 v) = .fn (.func 242) [v] []:=rfl
section
variable{q:Int}{W:List Int}
theorem bCj(hW:∀ v∈W,0≤v∧v≤1000000)(hl:W.length≤9){a:Nat}(ha:a<2^W.length):runW aB 244 [.ifc 203 (.agg [I q,.fs (wr W)]),.pt 0 0] [cU a]=some (.bool (!sR q W a),[cU a]):=by
 have c1:=bCp (q:=q) hW hl ha;rw[qX 244 aRJ rfl];unfold aRJ cU;dsimp only;(exact uJ c1 @wE @aBd @rE @rD)
theorem bCi(hW:∀ v∈W,0≤v∧v≤1000000)(hl:W.length≤9){a:Nat}(ha:a<2^W.length):runW aB 245 [chB q W,.fn (.func 244) [] [.pt 0 0]] [cU a]=some (I (if sR q W a then -1 else 0),[cU a]):=by
 have c1:=bCj (q:=q) hW hl ha;rw[qX 245 aRI rfl];unfold aRI aNq chB cU at *;dsimp only;cases hb:sR q W a
 ·simp only[hb,I9,C8,AAd]at c1 ⊢
  (exact uJ c1 @wE @aBd @rE @rD)
 ·simp only[hb,aC0,AAe]at c1 ⊢
  (exact uJ c1 @wE @aBd @rE @rD)
theorem bCk(hW:∀ v∈W,0≤v∧v≤1000000)(hl:W.length≤9){a:Nat}(ha:a<2^W.length):runW aB 243 [chB q W,.fn (.func 244) [] [.pt 0 0]] [cU a]=some (.bool (!sR q W a),[cU a]):=by
 have c1:=bCi (q:=q) hW hl ha;rw[qX 243 aRK rfl];unfold aRK chB cU at *;dsimp only;cases hb:sR q W a
 ·simp only[hb,I9,C8,AAd]at c1 ⊢
  (exact uJ c1 @wE @aBd @rE @rD)
 ·simp only[hb,aC0,AAe]at c1 ⊢
  (exact uJ c1 @wE @aBd @rE @rD)
theorem aYn(hW:∀ v∈W,0≤v∧v≤1000000)(hl:W.length≤9){a:Nat}(ha:a<2^W.length):runW aB 242 [chB q W,Uq a] []=some (.bool (sR q W a),[]):=by
 have c1:=bCk (q:=q) hW hl ha;have nn:(!(!sR q W a))=sR q W a:=by grind
 rw[qX 242 aRL rfl];unfold aRL chB cU at *;dsimp only;(exact mK c1 nn @wE @aBd @rE @rD aE)
theorem bCy{a:Nat}(ha:a<2^63){i:Nat}(hi:i<63):runW aB 186 [Uq a,I (i:Nat)] []=some (Uq (a|||2^i),[]):=by
 have n0:((i:Int)<0)=False:=AAb;have s1:=sU aBc hi;have o1:=aLD aBc ha (b:=2^i) (O1 AT hi);rw[qX 186 aSc rfl];unfold aSc;dsimp only;(exact mK n0 s1 o1 @wE @aBd @rE @rD)
theorem bCu{a:Nat}(ha:a<2^63){i:Nat}(hi:i<63):runW aB 207 [Uq a,.fs [[I (i:Nat)]]] []=some (Uq (dif a (2^i)),[]):=by
 have n0:((i:Int)<0)=False:=AAb;have s1:=sU aBc hi;have o1:=aRb aBc ha (b:=2^i) (O1 AT hi);rw[qX 207 aRV rfl];unfold aRV aNt;dsimp only;(exact mK n0 s1 o1 @wE @aBd @rE @rD)
end
def swB(q:Int)(W:List Int)(i m:Nat):Bool := !m.testBit i&&(!sR q W m&&sR q W (m|||2^i))
def swT(q:Int)(W:List Int)(i m:Nat):Nat:=((List.range m).filter (swB q W i)).length
theorem aJg(q:Int)(W:List Int)(i m:Nat):swT q W i (m+1)=swT q W i m+if swB q W i m then 1 else 0:=by
 grind [List.range_succ,swT]
theorem aJh(q:Int)(W:List Int)(i m:Nat):swT q W i m≤m:=by
 grind [swT]
section
variable{q:Int}{W:List Int}
abbrev hsC(q:Int)(W:List Int):List AV:=[.fs [[I q,.fs (wr W)]],.ifc 283 (.fs [[.ifc 203 (.agg [I q,.fs (wr W)])]]),I W.length,Uq (2^W.length-1)]
abbrev hsX(q:Int)(W:List Int):Option XB:=some (.blk true (.cells true (hsC q W)))
abbrev fnX:Option XB:=some (.blk true (.cells true [.fn (.func 160) [] []]))
abbrev aDX(q:Int)(W:List Int)(i:Nat)(n:Int):XH:=[some (.loop 184 0 [.pt 1 0,.pt 2 0,.pt 3 0,.pt 4 0] .ready),hsX q W,fnX,some (.blk true (.cells true [I (i:Nat)])),some (.blk true (.cells true [I n]))]
theorem bCE(v:AV)(m:Nat):runW aB 160 [hsA q W,Uq m] []=some (I 1,[]):=by
 rw[qX 160 aSj rfl];unfold aSj hsA chB;dsimp only;(exact yK @aBd @rE @rD)
theorem bBU(hW:∀ v∈W,0≤v∧v≤1000000)(hl:W.length≤9){i m:Nat}(hi:i<W.length)(hm:m<2^W.length)(hb:m.testBit i=false){n:Int}(hn:0≤n∧n≤1000) :
 runYW aB (.fn (.yield 0) [] []) [Uq m] (aDX q W i n)=some (.bool true,aDX q W i (n+if swB q W i m then 1 else 0)):=by
 have p2:2^W.length≤2^9:=F9 AT hl;have hor:=aVy hm hi;have c1:=aYn (q:=q) hW hl hm;have c2:=bCy (a:=m) AT (i:=i) AT;have c3:=aYn (q:=q) hW hl hor;have c4:=bCE (q:=q) (W:=W) .any m;have a1:IntKind.i64.wrap (n+1)=n+1:=aF AT AT;rw[aDl (K:=184) (d:=aNx) (site:=0) (vs:=[.pt 1 0,.pt 2 0,.pt 3 0,.pt 4 0]) rfl rfl (by rfl) rfl];unfold swB;rw[hb];unfold hsA chB at *;cases e1:sR q W m with
 | true =>
   rw[e1]at c1;simp only[aC0,aB8,aG0,C8,AAd,aD0];(exact vB c1 @aBd @rE @rD)
 | false =>
   rw[e1]at c1;cases e2:sR q W (m|||2^i)with
   | true =>
     rw[e2]at c3;simp only[I9,aG2,AAe];(exact vA c1 c2 c3 c4 a1 @aBd @rE @rD aE)
   | false =>
     rw[e2]at c3;simp only[I9,M7,C8,AAd,aD0];(exact mK c1 c2 c3 @aBd @rE @rD aE)
theorem bCz(i:Nat):runW aB 185 [hsA q W,.sl 0 0 1 1] [aa [I (i:Nat)]]=some (.fn (.func 206) [] [.pt 1 0,.pt 2 0],[aa [I (i:Nat)],hsX q W,ab [.sl 0 0 1 1]]):=by
 rw[qX 185 aSd rfl];unfold aSd hsA chB;dsimp only;(exact yK @aBd @rE @rD)
theorem aXB{m i:Nat}(hm:m<2^63)(hi:i<63):dif m (2^i)=m↔m.testBit i=false:=by
 have hp:2^i<2^64:=O1 AT AT;constructor;·grind [aLw]
 ·intro h
  apply Nat.eq_of_testBit_eq;intro j;rw[aLw hp,Nat.testBit_two_pow];by_cases e:i=j;·grind
  ·by_cases hj:j<64
   ·simp[e,hj]
   ·rw[aRc hm AT];simp
abbrev tAc(q:Int)(W:List Int)(i:Nat):XH:=[hsX q W,some (.blk false (.cells true [.sl 7 0 1 1])),some (.blk true (.cells true [I (i:Nat)]))]
abbrev tBc(q:Int)(W:List Int)(i:Nat):XH:=[hsX q W,some (.blk true (.cells true [.fs [[I (i:Nat)]]])),none]
def aXm(q:Int)(W:List Int)(i:Nat):Nat→XH
 | 0=>aDX q W i 0++tAc q W i
 | m+1=>aDX q W i (swT q W i (m+1):Nat)++tBc q W i
theorem aAT{i m:Nat}(hm:0<m):aXm q W i m=aDX q W i (swT q W i m:Nat)++tBc q W i:=by
 cases m with
 | zero=>omega
 | succ m=>rfl
theorem bCv(hW:∀ v∈W,0≤v∧v≤1000000)(hl:W.length≤9){i:Nat}(hi:i<W.length) :
 runW aB 206 [.fn (.yield 0) [] [],.pt 5 0,.pt 6 0] (aDX q W i 0++tAc q W i)=some (.tup [],aDX q W i (swT q W i (2^W.length):Nat)++tBc q W i):=by
 have p2:2^W.length≤2^9:=F9 AT hl;have p1:1≤2^W.length:=aD3;have e0:(((2^W.length:Nat):Int)≤((2^W.length-1:Nat):Int))=False:=AAb;have stp:∀ m:Nat,m<2^W.length→(m.testBit i=true∧((m:Int)=((dif m (2^i):Nat):Int))=False∧swT q W i (m+1)=swT q W i m)∨(m.testBit i=false∧((m:Int)=((dif m (2^i):Nat):Int))=True∧runYW aB (.fn (.yield 0) [] []) [Uq m] (aDX q W i (swT q W i m:Nat))=some (.bool true,aDX q W i (swT q W i (m+1):Nat))):=fun m hm=>by
  have hd:=aXB (m:=m) (i:=i) AT AT;cases hb:m.testBit i with
  | true =>
    refine .inl ⟨rfl,AAo fun e=>?_,?_⟩;·grind
    ·rw[aJg,swB,hb];simp
  | false =>
    refine .inr ⟨rfl,AAn (by rw[hd.2 hb]),?_⟩
    grind [aJh,bBU,aJg]
 rw[qX 206 aRW rfl];unfold aRW;dsimp only;sym =>
  simp[Za,Zb,Zf,Zg,Zh,Zj,Zl,Zm,Zp,Zq,Zs,Zv,Zy,ZA,ZD,ZF,ZV,Ye,Yh,Ym,Yn,Yo,Yp,Yq,Ys,Y6,YE,YH,YL,YR,YU,Xx,XJ,XL,XN,XZ,Wi,Wr,Wt,Ww,Wx,Wz,W7,WG,WI,WP,WV,WW,WX,Vc,Vf,Vj,V0,V1,V2,V3,V4,V5,V6,V7,V9,VA,VB,VC,VE,VF,VG,VH,VJ,VK,VL,VM,VN,VO,VP,VQ,VS,VT,VU,VV,VW,VX,VZ,Ua,Ub,Uc,Ue,Uf,Ug,Uh,Ui,Uo,Ur,Us,Ut,Uu,Uv,Uw,Uy,Uz,U0,U6,U8,U9,UA,UB,UC,UE,UG,UH,UI,UJ,UL,UN,UT,UU,UV,UW,UX,UY,UZ,Tb,Tc,Td,Te,Tf,Tg,Th,Ti,Tj,Tl,Tp,Ts,Tv,Tz,T4,T5,T6,T9,TA,TB,TC,TD,TE,TF,TG,TH,TI,TJ,TK,TL,Ss,Su,Sy,SD,SF,SI,SJ,SK,SL,SN,SP,SS,SU,SV,SW,RY,RZ,Qo,Qx,Qz,QA,QS,QU,QV,QX,QY,QZ,Pu,Pv,Pw,Px]
  tactic =>
   unfold aNu;rw[aJ (2^W.length) (fun m=>[.fn (.yield 0) [] [],.pt 5 0,.pt 6 0,Uq m]) (aXm q W i)]
   ·rw[aAT AT]
    (exact cK e0)
   ·rfl
   ·intro m hm
    have t1:((m:Int)≤((2^W.length-1:Nat):Int))=True:=AAa;have c7:=bCu (a:=m) AT (i:=i) AT;have u1:IntKind.u64.wrap ((m:Int)+1)=((m+1:Nat):Int):=by
     rw[show (m:Int)+1=((m+1:Nat):Int) by omega];exact pR aBc AT
    cases m with
    | zero =>
      rcases stp 0 hm with ⟨hb,_⟩|⟨_,h2,h3⟩;·simp at hb
      ·have s0:swT q W i 0=0:=rfl
       rw[s0]at h3;unfold aXm;have t1:((0:Int)≤((2^W.length-1:Nat):Int))=True:=t1;have c7:runW aB 207 [.int .u64 0,.fs [[I (i:Nat)]]] []=some (.int .u64 ((dif 0 (2^i):Nat):Int),[]):=c7;have h2:((0:Int)=((dif 0 (2^i):Nat):Int))=True:=h2;have h3:runYW aB (.fn (.yield 0) [] []) [.int .u64 0] (aDX q W i 0)=some (.bool true,aDX q W i (swT q W i (0+1):Nat)):=h3;(exact vB t1 c7 h2 h3)
    | succ m =>
      rw[aAT (aF1 m),aAT (aF1 (m+1))];rcases stp (m+1) hm with ⟨_,h2,h3⟩|⟨_,h2,h3⟩
      ·rw[h3]
       (exact vB t1 c7 u1 h2)
      ·(exact uJ t1 c7 u1 h2 h3)
   ·rw[aAT AT]
    (exact cK e0)
def swg(q:Int)(W:List Int)(i:Nat):Int:=(swT q W i (2^W.length):Nat)
theorem bCA(hW:∀ v∈W,0≤v∧v≤1000000)(hl:W.length≤9){i:Nat}(hi:i<W.length) :
 runW aB 184 [I (i:Nat),.pt 0 0,.pt 1 0] [hsX q W,fnX]=some (I (swg q W i),[hsX q W,fnX]):=by
 have c1:=bCz (q:=q) (W:=W) i
 have c2:runW aB 206 [.fn (.yield 0) [] [],.pt 5 0,.pt 6 0] [some (.loop 184 0 [.pt 1 0,.pt 2 0,.pt 3 0,.pt 4 0] .ready),hsX q W,fnX,aa [I (i:Nat)],aa [I 0],hsX q W,ab [.sl 7 0 1 1],aa [I (i:Nat)]] =
  some (.tup [],[some (.loop 184 0 [.pt 1 0,.pt 2 0,.pt 3 0,.pt 4 0] .ready),hsX q W,fnX,aa [I (i:Nat)],aa [I (swT q W i (2^W.length):Nat)],hsX q W,aa [.fs [[I (i:Nat)]]],none]):=bCv (q:=q) hW hl hi
 unfold hsA chB at *;rw[qX 184 aNx rfl];unfold aNx swg;dsimp only;(exact pY c1 c2)
def vD(q:Int)(W:List Int)(i:Nat):List Int:=(List.range i).map (swg q W)
theorem aOc(q:Int)(W:List Int)(i:Nat):vD q W (i+1)=vD q W i++[swg q W i]:=by
 grind [List.range_succ,vD]
theorem xH(q:Int)(W:List Int)(i:Nat):(vD q W i).length=i:=by simp[vD]
def aWr:Nat→AV
 | 0=>.nilsl
 | i+1=>.sl 2 0 1 (i+1)
def aXn(q:Int)(W:List Int):Nat→XH
 | 0=>[hsX q W,fnX]
 | i+1=>[hsX q W,fnX,aa ((vD q W (i+1)).map I)]
theorem vW{i:Nat}(hi:0<i):aWr i = .sl 2 0 1 i:=by
 cases i with
 | zero=>omega
 | succ i=>rfl
theorem wI{i:Nat}(hi:0<i):aXn q W i=[hsX q W,fnX,aa ((vD q W i).map I)]:=by
 cases i with
 | zero=>omega
 | succ i=>rfl
theorem aOd(q:Int)(W:List Int)(n:Nat):bG ((vD q W n).map I) 0 1 n=wr (vD q W n):=by
 have h:=xZ (f:=I) (vD q W n) [];rw[xH]at h;exact h
theorem bCB(hW:∀ v∈W,0≤v∧v≤1000000)(h1:1≤W.length)(hl:W.length≤9) :
 runW aB 183 [hsA q W,.fn (.func 184) [] [.pt 0 0,.pt 1 0]] [hsX q W,fnX]=some (.fs (wr (vD q W W.length)),[hsX q W,fnX]):=by
 have e0:((W.length:Int)<(W.length:Int))=False:=AAb;have sl:=xH q W;have ch:=aOd q W W.length;rw[qX 183 aSe rfl];unfold aSe hsA chB;dsimp only;sym =>
  simp[Za,Zb,Zd,Ze,Zf,Zh,Zl,Zm,Zo,Zv,Zz,Z8,ZA,ZF,ZV,Ye,Yh,Yl,Ym,Yn,Ys,Y6,YG,YO,YR,YU,Xx,XL,XM,XN,XY,We,Wh,Wi,Wp,Wr,Wx,Wy,Wz,W6,WI,WV,WY,Vb,Vd,Vi,Vk,Vm,Vp,V0,V1,V2,V3,V4,V5,V6,V7,V8,V9,VA,VB,VC,VE,VF,VH,VJ,VK,VL,VM,VN,VO,VP,VQ,VR,VS,VT,VU,VW,VX,Ub,Uc,Uf,Ug,Uh,Ui,Uo,Ur,Us,Ut,Uu,U8,UA,UD,UE,UG,UH,UI,UJ,UK,UN,UO,UP,UQ,US,UT,UU,UV,UW,UX,UY,UZ,Tb,Tc,Td,Te,Tf,Tg,Th,Ti,Tj,Tl,Tm,Tp,Ts,Tz,T4,T5,T6,T7,T8,T9,TA,TB,TC,TD,TE,TF,TK,TL,TM,TN,TO,TP,TV,TX,TY,TZ,Sa,Sc,Sj,Sk,Sl,Sn,Sp,Sq,Sr,Ss,Su,Sy,S6,S7,S8,S9,SC,SD,SF,SG,SI,SJ,SK,SL,SN,SP,SS,SU,SV,SW,Rz,R0,RR,Qx,Qz,QA,Pu,Pv,Pw,Px]
  tactic =>
   unfold aNy;rw[aJ W.length (fun i=>[.fn (.func 184) [] [.pt 0 0,.pt 1 0],aWr i,I W.length,I (i:Nat)]) (fun i=>aXn q W i)]
   ·have l0:(W.length≤(vD q W W.length).length)=True:=AAn (by grind)
    rw[vW h1,wI h1];(exact yK e0 ch l0)
   ·rfl
   ·intro i hi
    have c:=bCA (q:=q) hW hl hi;have t1:((i:Int)<(W.length:Int))=True:=AAa;have a2:IntKind.i64.wrap ((i:Int)+1)=((i+1:Nat):Int):=by grind [aF]
    cases i with
    | zero =>
      have e1:(vD q W (0+1)).map I=[I (swg q W 0)]:=rfl;have z0:aWr 0 = .nilsl:=rfl;have z1:aXn q W 0=[hsX q W,fnX]:=rfl;have t1:((0:Int)<(W.length:Int))=True:=t1;have c:runW aB 184 [I 0,.pt 0 0,.pt 1 0] [hsX q W,fnX]=some (I (swg q W 0),[hsX q W,fnX]):=c;rw[z0,z1,vW (aF1 0),wI (aF1 0),e1];(exact pY t1 c)
    | succ i =>
      have e1:(vD q W (i+1+1)).map I=(vD q W (i+1)).map I++[I (swg q W (i+1))]:=by grind [aOc]
      have l1:=sl (i+1);have b1:((i+1+1)*8≤1099511627776)=True:=AAa;have b2:(i+1+1≤1099511627776)=True:=AAa;have p1:0<i+1:=AT
      have p2:0<i+1+1:=AT
      rw[vW p1,vW p2,wI p1,wI p2,e1];generalize vD q W (i+1)=Z at *;(exact mK t1 c a2 l1 b1 b2 aE)
   ·rw[vW h1,wI h1]
    (exact cK e0)
theorem bCF(hq:1≤q∧q≤10000000)(hW:∀ v∈W,0≤v∧v≤1000000)(h1:1≤W.length)(hl:W.length≤9) :
 runW aB 159 [.agg [.sl 0 0 2 1],.fn (.func 160) [] []] [ab [I q,.sl 1 0 1 W.length],aa (W.map I)]=some (.tup [.fs (wr (vD q W W.length)),I 0],[none,none]):=by
 have c1:=bCC hq hW h1 hl;have c2:=bCB (q:=q) hW h1 hl;have ch:(W.map fun v=>[AV.int .i64 v])=wr W:=rfl;unfold chA hsA chB at *;rw[qX 159 aSk rfl];unfold aSk;dsimp only;(exact yK c1 c2 ch)
theorem bCH(hq:1≤q∧q≤10000000)(hW:∀ v∈W,0≤v∧v≤1000000)(h1:1≤W.length)(hl:W.length≤9) :
 runW aB 137 [.agg [.sl 0 0 2 1]] [ab [I q,.sl 1 0 1 W.length],aa (W.map I)]=some (.tup [.fs (wr (vD q W W.length)),I 0],[none,none]):=by
 have c1:=bCF hq hW h1 hl;rw[qX 137 aSm rfl];unfold aSm;dsimp only;(exact cK c1)
end
end Go.Proofs.YtmapgnepfgnphaaGreatDoor
namespace Go.DL
theorem vY{h:XH}{k:Nat}{acc:List Nat}:∀(n:Nat)(l:List Nat),(∀ b∈l,b<k∨b∈acc)→cL h k n l acc=acc
 | 0,_,_=>rfl
 | n+1,[],_=>rfl
 | n+1,b::r,h1=>by
   unfold cL;rw[if_pos (h1 b (by simp))];exact vY n r fun c hc=>h1 c (by simp[hc])
theorem aAE{h k:XH}(cd:Cd h):∀ b∈(cY h.length (h++k)).flatMap nmO,b<h.length:=by
 rw[lZ];intro b hb;obtain⟨x,hx,hb⟩:=O5.1 hb;exact cd x hx b hb
theorem aQh{h k:XH}{n c:Nat}{r:List Nat}{x:XB}(hn:h.length=n)(cd:Cd h){L:List Nat}{e:aI}(hv:lE (L.map e)=c::n::r)(hc:c<n)(hr:∀ b∈r,b<n)(hx:hat (h++k) n=some x)(hx0:nmO (some x)=[]):cC n L (some (.normal,e,h++k))=some (L.map e,h++[some x]):=by
 subst hn;have hxb:nmB x=[]:=hx0;have h1:dA h.length (L.map e) (h++k)=[h.length]:=by
  unfold dA;have hf:=aAE (k:=k) cd;rw[hv];generalize (cY h.length (h++k)).flatMap nmO=fl at hf;show cL (h++k) h.length 4096 (c::h.length::(r++fl)) []=_;rw[cL,if_pos (.inl hc),cL,if_neg (by simp),hx]
  grind [vY]
 have hs:∀ b,b≤h.length→keepS h.length [h.length] b=some b:=fun b hb=>by
  unfold keepS;by_cases hb2:b<h.length;·grind
  ·have:b=h.length:=AT
   subst this;rw[if_neg hb2];simp[fQ]
 rw[SU];unfold zV lK nI;rw[h1,lZ,aGX cd]
 grind [iS,aGG]
theorem aQg{h k:XH}{n m c o z l:Nat}{r:List Nat}{y:XB}{q:AV}(hn:h.length=n)(cd:Cd h){L:List Nat}{e:aI}(hv:lE (L.map e)=c::n::r)(hc:c<n)(hr:∀ b∈r,b<n)(hq:∃ i,q = .int .i64 i)(hx:hat (h++k) n=ab [q,.sl m o z l])(hm:n<m)(hy:hat (h++k) m=some y)(hy0:nmO (some y)=[]) :
 cC n L (some (.normal,e,h++k))=some (L.map e,h++[ab [q,.sl (n+1) o z l],some y]):=by
 obtain⟨i,rfl⟩:=hq;subst hn;have hyb:nmB y=[]:=hy0;have h1:dA h.length (L.map e) (h++k)=[h.length,m]:=by
  unfold dA;have hf:=aAE (k:=k) cd;rw[hv];generalize (cY h.length (h++k)).flatMap nmO=fl at hf;show cL (h++k) h.length 4096 (c::h.length::(r++fl)) []=_;rw[cL,if_pos (.inl hc),cL,if_neg (by simp),hx];dsimp only;show cL (h++k) h.length 4094 (m::(r++fl)) [h.length]=_;rw[cL,if_neg (by simp;omega),hy]
  grind [vY]
 have hs:∀ b,b≤h.length→keepS h.length [h.length,m] b=some b:=fun b hb=>by
  unfold keepS;by_cases hb2:b<h.length;·grind
  ·have:b=h.length:=AT
   subst this;rw[if_neg hb2];simp[fQ]
 have hsm:keepS h.length [h.length,m] m=some (h.length+1):=by
  unfold keepS;rw[if_neg AT];have h2:¬m=h.length:=AT
  have h3:fQ m [h.length,m]=some 1:=by simp[fQ,h2]
  grind
 rw[SU];unfold zV lK nI;rw[h1,lZ,aGX cd];rw[iS _ _ fun b hb=>by
  grind]
 simp only[E5,aA8,hx,hy];rw[aGG _ (some y) fun b hb=>by grind];congr 2;show h++[some (XB.blk false (.cells true (lO _ [.int .i64 i,.sl m o z l]))),_]=_;simp only[lO,rnA,hsm]
end Go.DL
namespace Go.Proofs.YtmapgnepfgnphaaGreatDoor
section
open Go Go.DL
theorem aUh{h k:XH}{n c:Nat}{r:List Nat}{x:XB}(hn:h.length=n)(cd:Cd h){L:List Nat}{q:Option (DX×aI×XH)}{vs:List AV}(hq:uE L q=some (.normal,vs,h++k))(hv:lE vs=c::n::r)(hc:c<n)(hr:∀ b∈r,b<n)(hx:hat (h++k) n=some x)(hx0:nmO (some x)=[]):cC n L q=some (vs,h++[some x]):=by
 unfold uE at hq
 grind [Option.map_eq_some_iff,aQh]
theorem aLx{h k:XH}{n m c o z l:Nat}{r:List Nat}{y:XB}{a:AV}(hn:h.length=n)(cd:Cd h){L:List Nat}{q:Option (DX×aI×XH)}{vs:List AV}(hq:uE L q=some (.normal,vs,h++k))(hv:lE vs=c::n::r)(hc:c<n)(hr:∀ b∈r,b<n)(ha:∃ i,a = .int .i64 i)(hx:hat (h++k) n=ab [a,.sl m o z l])(hm:n<m)(hy:hat (h++k) m=some y)(hy0:nmO (some y)=[]) :
 cC n L q=some (vs,h++[ab [a,.sl (n+1) o z l],some y]):=by
 unfold uE at hq
 grind [Option.map_eq_some_iff,aQg]
variable{h h' h1:XH}{L:CL}{s:CSt}{x:ByteArray}
def aM(s:CSt):List Int:=s.farmers.map fun p=>nX p.2 1000
def pU(s:CSt):Int:=nX (aM s).sum 2+1
def lY(s:CSt)(x:ByteArray):Int:=match bK (s.farmers.map (·.1)) x with
 | some i=>swg (pU s) (aM s) i
 | none=>0
def atS(ix i:Nat):Int:=if ix<i then (ix:Int) else 0
def kS(n:Nat)(W:List Int):Nat→XH
 | 0=>[aa [I 0,.nilsl]]
 | i+1=>[ab [I 0,.sl (n+1) 0 1 (i+1)],aa ((W.take (i+1)).map I)]
theorem aHc{n i:Nat}{W:List Int}(hi:0<i):kS n W i=[ab [I 0,.sl (n+1) 0 1 i],aa ((W.take i).map I)]:=by
 cases i with
 | zero=>omega
 | succ i=>rfl
theorem vJ(s:CSt):(aM s).length=s.farmers.length:=by simp[aM]
theorem aAf(gs:cN s):∀ v∈aM s,0≤v∧v≤30000:=by
 intro v hv;obtain⟨p,hp,rfl⟩:=F7.1 hv;have h1:=gs.fs p hp;have h2:=gs.bf p hp;have h3:=gs.book;have h0:0≤p.2:=by
  rw[h1];unfold nN;have:∀ l:List yL,(∀ k∈l,0≤k.net)→0≤(l.map fun k=>if k.farmer=p.1∧k.void=false then k.net else 0).sum:=by
   intro l;induction l with
   | nil=>grind
   | cons k l ih =>
     grind
  exact this _ fun k hk=>(gs.bt k hk).1
 unfold nX
 grind
theorem aWi{l:List Int}{B:Int}(h:∀ v∈l,0≤v∧v≤B):0≤l.sum∧l.sum≤B*l.length:=by
 induction l with
 | nil=>simp
 | cons v r ih =>
   have h1:=h v (by simp);have h2:=ih fun w hw=>h w (D7 v hw);rw[aB9,D5]
   grind
theorem aCM(gs:cN s)(i:Nat):0≤((aM s).take i).sum∧((aM s).take i).sum≤300000:=by
 have h1:=aWi (l:=(aM s).take i) (B:=30000) fun v hv=>aAf gs v (N9 hv);have h2:((aM s).take i).length≤9:=by
  rw[aE9,vJ];have:=gs.lf;omega
 omega
theorem w98(ly:Lays h L s)(gs:cN s)(cd:Cd h){ix:Nat}(hx:bK (s.farmers.map (·.1)) x=some ix):∃ K,runW aB 98 [.pt L.c 0,.str x] h=some (I (lY s x),h++K):=by
 obtain⟨n,hn⟩:∃ n,h.length=n:=⟨_,rfl⟩;obtain⟨g,hc⟩:=aC ly.hc;unfold cF at hc;have lc:L.c<n:=by rw[←hn];exact aH ly.hc
 have cn:(L.c<n)=True:=AAn lc;have hix:ix<s.farmers.length:=by
  have:=(B8.1 (cZ hx)).1
  grind
 have hk:0<s.farmers.length:=AT
 have hk9:=gs.lf;obtain⟨gw,hwo⟩:=ly.f.ho;rw[B7,eR hk]at hwo;obtain⟨gb,hfb⟩:=ly.f.hb (by grind);have lo:L.f.o<n:=by rw[←hn];exact ly.f.lts.1
 have lb:L.f.b<n:=by rw[←hn];exact ly.f.lts.2.2.1 (by grind)
 have won:(L.f.o<n)=True:=AAn lo;have wbn:(L.f.b<n)=True:=AAn lb;obtain⟨e0,v0,_,_,_,call0⟩:=ly.f.getf hx;have hWl:=vJ s;have bd:=aCM gs;have klt:((s.farmers.length:Int)<(s.farmers.length:Int))=False:=AAb;have fin:((aM s).take s.farmers.length).sum=(aM s).sum:=by grind
 have fin2:(aM s).take s.farmers.length=aM s:=by grind
 have nm:∀ i:Nat,lE [.pt L.c 0,.str x,.pt n 0,I (atS ix i),I ((aM s).take i).sum,.sl L.f.b 0 1 s.farmers.length,I s.farmers.length,I (i:Nat)]=L.c::n::[L.f.b]:=fun i=>rfl;have hr:∀ b∈[L.f.b],b<n:=fun b hb=>by grind
 refine⟨[ab [I (pU s),.sl (n+1) 0 1 s.farmers.length],none,none],?_⟩;rw[qY 98 x98 rfl,hn];unfold x98;dsimp only;sym =>
  simp[fR,fU,lX,Za,Zb,Zc,Zf,Zh,Zl,Zm,Zv,Zw,Z0,Z9,ZF,ZR,ZV,ZZ,Ya,Ye,Yh,Ym,Ys,Yv,Xt,Xw,We,Wm,Va,Vf,Vp,V0,V1,V2,V3,V4,V6,V7,V8,V9,US,Tb,Tc,Td,Tf,Tg,Tj,Tl,Ts,Tz,TE,TF,TK,TL,TM,TN,Ss,Su,Sy,Sz,S3,SF,SK,SL,SV,SW,Pt,Pv,Px,PA,PB,PE,PI,hn,hc,cn,hwo,won,call0]
  tactic =>
   unfold aUS;rw[aJ s.farmers.length (fun i=>[.pt L.c 0,.str x,.pt n 0,I (atS ix i),I ((aM s).take i).sum,.sl L.f.b 0 1 s.farmers.length,I s.farmers.length,I (i:Nat)]) (fun i=>h++kS n (aM s) i)]
   ·rw[aHc hk,fin2]
    have q0:pU s=nX (aM s).sum 2+1:=rfl;have b0:=bd s.farmers.length;rw[fin]at b0;have td:0≤nX (aM s).sum 2∧nX (aM s).sum 2≤300000:=by
     unfold nX
     grind
    have a1:IntKind.i64.wrap (nX (aM s).sum 2)=nX (aM s).sum 2:=aF AT AT;have a2:IntKind.i64.wrap (nX (aM s).sum 2+1)=pU s:=by grind [aF]
    have c137:=bCH (q:=pU s) (W:=aM s) AT (fun v hv=>by have:=aAf gs v hv;omega) AT AT;rw[hWl]at c137;have hat1:atS ix s.farmers.length=(ix:Int):=by unfold atS;omega
    have sl:=xH (pU s) (aM s) s.farmers.length;have wl:=qG (vD (pU s) (aM s) s.farmers.length);rw[sl]at wl;have sg:(vD (pU s) (aM s) s.farmers.length)[ix]?=some (swg (pU s) (aM s) ix):=by
     unfold vD
     grind
    have wg:=aFj sg;have pw:lY s x=swg (pU s) (aM s) ix:=by unfold lY;rw[hx]
    have ixn:((ix:Int)<(s.farmers.length:Int))=True:=AAa;have m1:(n+1=n+2)=False:=AAb;have m2:(n+2=n+1)=False:=AAb;have m3:(n+1<0)=False:=AAb;have m4:(n+2<0)=False:=AAb;rw[hat1,pw];(exact aNh hn klt a1 a2 c137 wl wg ixn m1 @m2 m3 m4 aE)
   ·exact aUh hn cd (k:=[aa [I 0,.nilsl]]) rfl (nm 0) lc hr (by rw[cM,if_neg AT,hn,M5];rfl) rfl
   ·intro i hi
    obtain⟨⟨q,y⟩,hq⟩:∃ p,s.farmers[i]?=some p:=⟨_,B6 hi⟩;have hqk:(s.farmers.map (·.1))[i]?=some q:=by grind
    have hxq:=aBp gs.nf hqk;obtain⟨e,v,he,hv,hev,_⟩:=ly.f.getf hxq;obtain⟨e',v',he',_,_,call⟩:=(ly.ext (kS n (aM s) i)).f.getf hxq;rw[he]at he';cases he';rw[C5,hq]at hv;cases hv;have hev:aG h e=some (.cells true [I y]):=hev;have en:(e<n)=True:=AAn (by rw[←hn];exact aH hev);obtain⟨ge,hee⟩:=aC hev;have t1:((i:Int)<(s.farmers.length:Int))=True:=AAa;have hWi:(aM s)[i]?=some (nX y 1000):=by unfold aM;grind
    have tb:=aAf gs _ (B3 hWi);have hs1:((aM s).take (i+1)).sum=((aM s).take i).sum+nX y 1000:=by
     grind [List.take_add_one]
    have b1:=bd (i+1);rw[hs1]at b1;have a1:IntKind.i64.wrap (nX y 1000)=nX y 1000:=aF AT AT;have a2:IntKind.i64.wrap (((aM s).take i).sum+nX y 1000)=((aM s).take i).sum+nX y 1000:=aF AT AT;have a3:IntKind.i64.wrap ((i:Int)+1)=((i+1:Nat):Int):=by grind [aF]
    have ht1:((aM s).take (i+1)).map I=((aM s).take i).map I++[I (nX y 1000)]:=by
     grind [List.take_add_one]
    have mq1:Option.map Prod.fst (some (q,y))=some q:=rfl;have mq2:Option.map AV.str (some q)=some (.str q):=rfl;have key:(aN .eql q x=some (.bool true)∧atS ix (i+1)=(i:Int))∨(aN .eql q x=some (.bool false)∧atS ix (i+1)=atS ix i):=by
     by_cases hqx:q=x
     ·refine .inl ⟨by grind [iP],?_⟩
      rw[hqx,hx]at hxq;cases hxq;unfold atS;omega
     ·refine .inr ⟨by grind [iP],?_⟩
      have hne:ix≠i:=fun q1=>by
       subst q1;have h2:=cZ hx
       grind
      unfold atS;omega
    rw[aHc (Nat.zero_lt_succ i)];cases i with
    | zero =>
      have e1:((aM s).take (0+1)).map I=[I (nX y 1000)]:=by grind
      rw[e1];refine aLx hn cd (k:=[ab [I 0,.sl (n+2) 0 1 1],aa [I (nX y 1000)],aa [I (nX y 1000)]]) ?_ (nm (0+1)) lc hr ⟨0,rfl⟩ (by rw[cM,if_neg AT,hn,M5];rfl) AT (by rw[cM,if_neg AT,show n+2-h.length=2 by omega];rfl) rfl;have t1:((0:Int)<(s.farmers.length:Int))=True:=t1;have s0:((aM s).take 0).sum=0:=rfl;rw[hs1,s0];rw[s0]at a2 b1;have a2:IntKind.i64.wrap (0+nX y 1000)=0+nX y 1000:=a2;have k0:kS n (aM s) 0=[aa [I 0,.nilsl]]:=rfl;rw[k0]at call ⊢;have z1:atS ix 0=0:=by rfl
      rcases key with ⟨k1,k2⟩|⟨k1,k2⟩
      ·rw[k2,z1]
       (exact aNg hn t1 hfb hq mq1 mq2 hc hwo call hee a1 a2 k1 cn won wbn en aE aE aE)
      ·rw[k2,z1]
       (exact aNg hn t1 hfb hq mq1 mq2 hc hwo call hee a1 a2 k1 cn won wbn en aE aE aE)
    | succ i =>
      have pi:0<i+1:=AT
      rw[ht1,hs1];rw[aHc pi]at call ⊢;refine aLx hn cd (k:=[ab [I 0,.sl (n+3) 0 1 (i+1+1)],none,aa [I (nX y 1000)],aa (((aM s).take (i+1)).map I++[I (nX y 1000)])]) ?_ (by rfl) lc hr ⟨0,rfl⟩ (by rw[cM,if_neg AT,hn,M5];rfl) AT (by rw[cM,if_neg AT,show n+3-h.length=3 by omega];rfl) rfl;have tl:((aM s).take (i+1)).length=i+1:=by grind
      have b2:((i+1+1)*8≤1099511627776)=True:=AAa;have b3:(i+1+1≤1099511627776)=True:=AAa;generalize ((aM s).take (i+1)).sum=S0 at *;generalize (aM s).take (i+1)=W0 at *;rcases key with ⟨k1,k2⟩|⟨k1,k2⟩
      ·rw[k2]
       (exact xF hn t1 hfb hq mq1 mq2 hc hwo call hee a1 a2 a3 k1 cn won wbn en tl b2 b3 aE aE aE aE aE)
      ·rw[k2]
       (exact xF hn t1 hfb hq mq1 mq2 hc hwo call hee a1 a2 a3 k1 cn won wbn en tl b2 b3 aE aE aE aE aE)
   ·rw[aHc hk]
    (exact RT2 hn klt)
theorem aOa{q:Int}{W:List Int}{i:Nat}(h:W.length≤9):0≤swg q W i∧swg q W i≤1000:=by
 have p2:2^W.length≤2^9:=F9 AT h
 grind [aJh,swg]
theorem aWI(gs:cN s) : -1000000≤lY s x∧lY s x≤1000000:=by
 unfold lY;split
 ·have:=aOa (q:=pU s) (W:=aM s) (i:=by assumption) (by rw[vJ];exact gs.lf)
  omega
 ·omega
theorem aTU(h k:XH):Frz h.length h (h++k):=fun j c hc _=>by
 rw[gI,if_pos (aH hc)];exact hc
theorem c98(ly:Lays h L s)(hx:bK (s.farmers.map (·.1)) x=none):CalP Tryz.prog aB 98 [.pt L.c 0,.str x] h (.ifc 110 (.agg [I 5])) h:=by
 obtain⟨n,hn⟩:∃ n,h.length=n:=⟨_,rfl⟩;obtain⟨g,hc⟩:=aC ly.hc;unfold cF at hc;have cn:(L.c<n)=True:=AAn (by rw[←hn];exact aH ly.hc);have call:=ly.f.nonef hx;refine CalP.of (d:=x98) (e':=bB [] []) aA rfl (by simp[x98]) rfl ?_;unfold x98;dsimp only;refine PanX.seqR (K:=98) aA rfl [0,1] (vs:=[.pt L.c 0,.str x]) (h1:=h) (by (exact yC)) ?_;refine PanX.seqL ?_;exact PanX.reg (p:=[⟨0,some 13,.mv (.t 0),none⟩,⟨0,some 14,.nilck (.t 13),none⟩,⟨0,some 15,.fld 0 (.t 14),none⟩,⟨0,some 16,.load false 1 (.t 15),none⟩,⟨0,some 17,.mv (.t 1),none⟩]) (post:=[]) aA [] (g:=95) (first:=[]) (cap:=[]) (args:=[.pt L.f.o 0,.str x]) (vs:=[]) (h1:=h) rfl rfl (by (exact yK hn hc cn)) call
theorem aWH:aLF lY:=by
 intro h L s x ly gs;cases hv:dO s.farmers x with
 | none=>exact⟨h,c98 ly (cH.1 hv),(Fr.refl [] h).frz⟩
 | some v =>
   obtain⟨i,hi,_⟩:=eI hv;refine⟨aWI gs,fun cd=>?_⟩
   grind [w98,aTU]
end
section
open Go Go.DL Go.Proofs.Tryz
theorem aHW{D:Nat→Option XFn}{K:Nat}{f:List AV→XH→Option (AV×XH)}(hf:∀ xs h v h',f xs h=some (v,h')→h=[]∧h'=[]∧kI xs=true∧Gd v∧runW aB K xs []=some (v,[])):iB D K f:=by
 intro B Y r h H xs ys v h' sh hr hx;obtain⟨rfl,rfl,gx,gv,hrun⟩:=hf _ _ _ _ hx;obtain⟨rfl,gxs⟩:=hr.same gx;have rno:∀ b c,r b=some c→False:=fun b c hb=>by have:=sh.dom b c hb;simp at this
 have sh0:∀(D':Nat→Option XFn)(Y':Nat→Option YI)(r':Nat→Option Nat)(H':Hp),(∀ b c,r' b=some c→False)→SH D' Y' r' [] H':=fun D' Y' r' H' hn=>⟨fun b c hb=>(hn b c hb).elim,fun b c c' x y hx=>by simp[hat]at hx,fun b x hx=>by simp[hat]at hx,GhR.no fun b st p hx=>by simp[hat]at hx⟩;have fw:=(aAv aA B (fun _=>none) (fun l i h=>by simp at h)).1 (fun _=>none) [] H K ys ys v [] (sh0 _ _ _ _ fun b c hb=>by cases hb) ⟨rfl,fun i a b ha hb=>by rw[ha]at hb;cases hb;exact(gxs a (B3 ha)).rn⟩ hrun;have cv:CallV B Tryz.prog (.fn (.func K) [] []) ys H (eO aB (fun _=>none) (fun _=>none) v []):=by
  have hn:[]++ys++[]=ys:=by simp
  rw[←hn]at fw;exact fw
 have goal:CallV B Tryz.prog (.fn (.func K) [] []) ys H (eO D Y r v []):=CallV.mono cv fun v' H' hq=>by
  obtain⟨r3,ha,sh3,hv⟩:=hq;obtain⟨rfl,_⟩:=hv.same gv.gr;exact⟨r,fun b c hb=>hb,sh0 _ _ _ _ rno,gv.rn⟩
 have hn:ys=[]++ys++[]:=by simp
 rw[hn];exact goal
theorem bBq(l:List ByteArray):Gd (.fs (rS l)):=.fs _ fun r hr c hc=>by
 unfold rS at hr;obtain⟨s,_,rfl⟩:=F7.1 hr;rw[D1.1 hc];exact .str s
theorem aVC{a:AV}(ha:Gd a)(x y:Int):Gd (.tup [a,I x,I y]):=.tup _ fun c hc=>by
 simp only[C3,G4,AAh]at hc;rcases hc with rfl|rfl|rfl;·exact ha
 ·exact .int _ _
 ·exact .int _ _
theorem aIv(e:Int):Gd (erV e):=aVC (.fs _ fun _ h=>by cases h) _ _
theorem bBr(s:ByteArray)(row:Int):Gd (mnV s row):=by
 unfold mnV;split
 ·split
  ·exact aIv _
  ·split
   ·exact aIv _
   ·unfold wR
    repeat' split
    all_goals first|exact aIv _|(unfold aDG;split<;>first|exact aIv _|exact aVC (bBq _) _ _)
 ·exact aIv _
def aGM:List AV→XH→Option (AV×XH):=fun xs h=>match xs,h with
 | [.str s,.int .i64 row],[]=>if s.size≤1000000 then some (mnV s row,[]) else none
 | _,_=>none
theorem aZj{D:Nat→Option XFn}:iB D 16 aGM:=aHW fun xs h v h' hx=>by
 unfold aGM at hx;split at hx
 ·split at hx
  ·rename_i hs
   cases hx;exact⟨rfl,rfl,rfl,bBr _ _,w16 hs⟩
  ·cases hx
 ·cases hx
noncomputable def pmRun(K:Nat)(xs:List AV)(h:XH):Option (AV×XH) :=
 open Classical in if h=[]∧kI xs=true∧∃ v,Gd v∧runW aB K xs []=some (v,[]) then runW aB K xs [] else none
theorem aJB{D:Nat→Option XFn}{K:Nat}:iB D K (pmRun K):=aHW fun xs h v h' hx=>by
 unfold pmRun at hx;split at hx
 ·rename_i hc
  obtain⟨c1,c2,w,gw,c3⟩:=hc;rw[c3]at hx;cases hx;exact⟨c1,rfl,c2,gw,c3⟩
 ·cases hx
theorem aJr{K:Nat}{xs:List AV}{v:AV}(hx:kI xs=true)(gv:Gd v)(h:runW aB K xs []=some (v,[])):pmRun K xs []=some (v,[]):=by
 unfold pmRun;rw[if_pos ⟨rfl,hx,v,gv,h⟩];exact h
noncomputable def sayA(s:CSt)(line:ByteArray):ByteArray×CSt:=pT lY s line (rd line)
noncomputable def progG(K:Nat):Option XFn:=match K with
 | 16=>some (jZ aGM)
 | 19=>some (jZ aKR)
 | 21=>some (jZ (pmSay lY rd))
 | 23=>some (jZ pmSave)
 | 13=>some x13
 | 12=>some (jZ (pmRun 12))
 | 41=>some (jZ (pmRun 41))
 | 103=>some (jZ (pmRun 103))
 | K=>aB K
theorem aPw:XOk prog progG:=by
 refine XOk.over progX_ok fun K d hd=>?_;unfold progG at hd;split at hd;·cases hd;exact .inr ⟨_,_,rfl,aZj⟩
 ·cases hd;exact .inr ⟨_,_,rfl,aZi⟩
 ·cases hd;exact .inr ⟨_,_,rfl,aZh aWH aZa⟩
 ·cases hd;exact .inr ⟨_,_,rfl,aZg⟩
 ·cases hd;exact .inl ⟨rfl,rfl⟩
 ·cases hd;exact .inr ⟨_,_,rfl,aJB⟩
 ·cases hd;exact .inr ⟨_,_,rfl,aJB⟩
 ·cases hd;exact .inr ⟨_,_,rfl,aJB⟩
 ·unfold aB at hd
  split at hd;·cases hd;exact .inr ⟨_,_,rfl,aVp⟩
  ·unfold aPv at hd
   split at hd;·cases hd;exact .inr ⟨_,_,rfl,aVx⟩
   ·cases hd;exact .inr ⟨_,_,rfl,aVw⟩
   ·cases hd;exact .inr ⟨_,_,rfl,aVv⟩
   ·cases hd;exact .inr ⟨_,_,rfl,aVu⟩
   ·cases hd;exact .inr ⟨_,_,rfl,aVt⟩
   ·cases hd;exact .inr ⟨_,_,rfl,aVs⟩
   ·cases hd;exact .inr ⟨_,_,rfl,aVr⟩
   ·cases hd;exact .inr ⟨_,_,rfl,aVq⟩
   ·cases hd;exact .inr ⟨_,_,rfl,aVo⟩
   ·cases hd;exact .inr ⟨_,_,rfl,aPy⟩
   ·cases hd;exact .inr ⟨_,_,rfl,aPx⟩
   ·cases hd;exact .inr ⟨_,_,rfl,aVn⟩
   ·exact .inl ⟨hd,aWD hd⟩
noncomputable abbrev gK(s:CSt):Option XB:=some (.gh s (IsClk s))
theorem g21(s:CSt)(line:ByteArray):runW progG 21 [.pt 0 0,.str line] [gK s]=some (.str (sayA s line).1,[gK (sayA s line).2]):=by
 rw[dF (d:=jZ (pmSay lY rd)) rfl rfl];exact if_pos rfl
theorem g23(s:CSt):runW progG 23 [.pt 0 0] [gK s]=some (.str (jJ s.book),[gK s]):=by
 rw[dF (d:=jZ pmSave) rfl rfl];exact if_pos rfl
theorem g19:runW progG 19 [] []=some (.pt 0 0,[gK cA]):=by
 rw[dF (d:=jZ aKR) rfl rfl];rfl
theorem g16{s:ByteArray}{row:Int}(hs:s.size≤1000000):runW progG 16 [.str s,I row] []=some (mnV s row,[]):=by
 rw[dF (d:=jZ aGM) rfl rfl];exact if_pos hs
end
section
open Go Go.DL
theorem aFA:∀(l:List UInt8)(acc a:Nat)(c:UInt8),Lib.parseUint10 acc l = .ok a→48≤c.toNat→c.toNat≤57→a<100000000→Lib.parseUint10 acc (l++[c]) = .ok (a*10+(c.toNat-48))
 | [],acc,a,c,h,h1,h2,h3=>by
   simp only[Lib.parseUint10,Lib.NumEnd.ok.injEq]at h;subst h;simp only[H7,Lib.parseUint10]
   grind
 | d::r,acc,a,c,h,h1,h2,h3=>by
   simp only[Lib.parseUint10]at h;simp only[J3,Lib.parseUint10];split at h
   ·rename_i hd
    rw[if_pos hd];split at h;·cases h
    ·rename_i hr
     rw[if_neg hr];split at h;·cases h
     ·rename_i hr2
      rw[if_neg hr2];exact aFA r _ a c h h1 h2 h3
   ·cases h
theorem sJ{u:Nat}(h:u<10):(UInt8.ofNat (48+u)).toNat=48+u:=by
 grind [UInt8.toNat_ofNat']
theorem aFz:∀(f u:Nat),u<10^f→u<100000000→Lib.parseUint10 0 (Lib.decDigits u) = .ok u
 | 0,u,h,_=>by
   obtain rfl:u=0:=AT
   rw[Lib.decDigits,AAq AT];rfl
 | f+1,u,h,hb=>by
   rw[Lib.decDigits];by_cases h10:u<10
   ·rw[AAq h10]
    have e:=sJ h10;simp only[Lib.parseUint10]
    grind
   ·rw[AAr h10]
    have ih:=aFz f (u/10) AT AT;have e:=sJ (u:=u%10) AT;rw[aFA _ _ _ _ ih AT AT AT,e]
    grind
theorem aCC:∀(f u:Nat),u<10^f→∀ c∈Lib.decDigits u,48≤c.toNat∧c.toNat≤57
 | 0,u,h,c,hc=>by
   obtain rfl:u=0:=AT
   rw[Lib.decDigits,AAq AT]at hc
   simp_all
 | f+1,u,h,c,hc=>by
   rw[Lib.decDigits]at hc;by_cases h10:u<10
   ·rw[AAq h10]at hc
    grind [sJ]
   ·rw[AAr h10,C7]at hc
    rcases hc with hc|hc;·exact aCC f (u/10) AT c hc
    grind [sJ]
theorem aKg(u:Nat):∃ c r,Lib.decDigits u=c::r:=by
 rw[Lib.decDigits];by_cases h:u<10;·simp_all
 ·rw[AAr h]
  cases Lib.decDigits (u/10)with
  | nil=>simp_all
  | cons c r=>simp_all
def dg(n:Nat):ByteArray:=⟨⟨Lib.decDigits n⟩⟩
theorem aDT(n:Nat):Lib.itoa (n:Int)=Lib.decDigits n:=by
 rfl
theorem aTA{n:Nat}(h:n≤99999):cD (dg n)=some (n:Int):=by
 have hp:=aFz 5 n AT AT;have ha:=aCC 5 n AT;obtain⟨c,r,e⟩:=aKg n;have hc:=ha c (by rw[e];simp);have hat:Lib.atoiAll (Lib.decDigits n) = .ok (n:Int):=by
  rw[e]at hp ⊢;rw[Lib.atoiAll_plain c r AT AT];unfold Lib.parseMag;rw[if_neg (by simp),hp];unfold Lib.signless
  grind
 unfold cD dg;dsimp only;rw[hat];dsimp only;rw[if_pos ⟨by omega,by omega,aDT n⟩]
section
variable{a b c d:Nat}
end
theorem bEW{vs:List AV}{h:XH}(hl:vs.length≤26):runW progG 18 vs h=gN none x18.res x18.ownR h.length (execW progG 18 h.length none x18.body (aT (if x18.ownA then vs else kQ vs)) h):=cX rfl hl h rfl
theorem bET{a b:List ByteArray}(hb:b.length<1000000000):runW progG 18 [.fs (rS a),.fs (rS b)] []=some (.bool (decide (a=b)),[]):=by
 have la:=eX a;have lb:=eX b;rw[bEW (by simp)];unfold x18;dsimp only;by_cases hl:a.length=b.length
 ·have e1:((a.length:Int)=(b.length:Int))=True:=AAa
  obtain⟨m,m1,m2,m3⟩:=aGc a b b.length;have z:=Sr (n:=(b.length:Int));sym =>
   simp[fR,fU,lX,Za,Zb,Zf,Zh,Zi,Zl,Zm,Zv,ZA,ZH,ZR,ZX,ZY,Yu,Yz,Y4,Y6,YF,YG,YL,YM,Xx,Xy,XL,Wr,Wt,Wx,WC,WZ,Vd,V8,V9,VH,VM,VN,VP,VQ,Ut,UD,UE,UG,UH,UI,UJ,UK,UN,UO,UP,UQ,US,UT,UU,UV,UW,UX,UY,UZ,Ta,Tb,Tc,Td,Tg,Ti,Tj,Tl,Tv,Tw,Tz,T5,T6,T9,TA,TB,TC,TD,TK,TL,Sr,Sv,Sw,Sy,SD,SE,SF,SG,SI,SJ,SK,SL,SN,SO,SP,SQ,SS,SU,SV,SW,Qx,la,lb,e1]
   tactic =>
    unfold aVc;rw[aJ m (fun i=>[.fs (rS a),.fs (rS b),I (i:Nat)]) (fun _=>[])]
    ·rcases m3 with rfl|m3
     ·have hab:a=b:=I2 fun i=>by
       grind
      have d:decide (a=b)=true:=AAj hab;rw[d];(exact RT4 la lb z hl)
     ·have hm:m<b.length:=by
       grind
      have d:decide (a=b)=false:=AAk fun h=>m3 (by rw[h]);rw[d];obtain⟨x,hx⟩:=dD (l:=a) (i:=m) AT;obtain⟨y,hy⟩:=dD (l:=b) (i:=m) hm;have hxy:=oN x y;rw[AAk (fun h=>m3 (by grind):¬x=y)]at hxy;have ax:=rO hx;have ay:=rO hy;have i1:((m:Int)<(b.length:Int))=True:=AAa;have i2:((m:Int)<(a.length:Int))=True:=AAa;(exact RT7 la lb ax ay hxy i1 i2)
    ·rfl
    ·intro i hi
     have hib:i<b.length:=AT
     obtain⟨y,hy⟩:=dD (l:=b) hib;have hx:a[i]?=some y:=by grind
     have ax:=rO hx;have ay:=rO hy;have hxy:=oN y y;rw[AAj (rfl:y=y)]at hxy;have i1:((i:Int)<(b.length:Int))=True:=AAa;have i2:((i:Int)<(a.length:Int))=True:=AAa;have a2:=dU hib AT;(exact RT9 la lb ax ay hxy i1 i2 a2 aE)
    ·rcases m3 with rfl|m3
     ·(exact RT4 la lb z hl)
     ·have hm:m<b.length:=by
       grind
      obtain⟨x,hx⟩:=dD (l:=a) (i:=m) AT;obtain⟨y,hy⟩:=dD (l:=b) (i:=m) hm;have hxy:=oN x y;rw[AAk (fun h=>m3 (by grind):¬x=y)]at hxy;have ax:=rO hx;have ay:=rO hy;have i1:((m:Int)<(b.length:Int))=True:=AAa;have i2:((m:Int)<(a.length:Int))=True:=AAa;(exact RT7 la lb ax ay hxy i1 i2)
 ·have e1:((a.length:Int)=(b.length:Int))=False:=AAb
  have d:decide (a=b)=false:=AAk fun h=>hl (by rw[h]);rw[d];(exact RT3 la lb e1)
abbrev Nt:=Nat×Nat×Nat×Nat
def sLb(b i:Nat):AV:=if i=0 then .nilsl else .sl b 0 1 i
theorem bEU{vs:List AV}{h:XH}(hl:vs.length≤x31.N):runW progG 31 vs h=gN none x31.res x31.ownR h.length (execW progG 31 h.length none x31.body (aT (if x31.ownA then vs else kQ vs)) h):=cX rfl hl h rfl
section
variable{l:List Nt}{i:Nat}
end
noncomputable def runL(s:CSt):List ByteArray→CSt
 | []=>s
 | x::r=>runL (sayA s x).2 r
noncomputable def ansL(s:CSt):List ByteArray→List ByteArray
 | []=>[]
 | x::r=>(sayA s x).1::ansL (sayA s x).2 r
theorem aAw:∀{L:List ByteArray}{s:CSt}{i:Nat}{x:ByteArray},L[i]?=some x→runL s (L.take (i+1))=(sayA (runL s (L.take i)) x).2∧ansL s (L.take (i+1))=ansL s (L.take i)++[(sayA (runL s (L.take i)) x).1]
 | [],s,i,x,h=>by simp at h
 | y::r,s,0,x,h=>by
   grind [runL,ansL]
 | y::r,s,i+1,x,h=>by
   obtain⟨h1,h2⟩:=aAw (L:=r) (s:=(sayA s y).2) (i:=i) (x:=x) (by grind)
   grind [runL,ansL]
theorem aEC:∀{L:List ByteArray}{s:CSt},(ansL s L).length=L.length
 | [],_=>rfl
 | x::r,s=>AAs (· + 1) (aEC (L:=r))
section
variable{L:List ByteArray}{s:CSt}{i:Nat}
end
theorem bEV{vs:List AV}{h:XH}(hl:vs.length≤x25.N):runW progG 25 vs h=gN none x25.res x25.ownR h.length (execW progG 25 h.length none x25.body (aT (if x25.ownA then vs else kQ vs)) h):=cX rfl hl h rfl
structure Fil(R P:Nat→ByteArray)(Ls:Nat→List ByteArray)(M:Nat→Nat)(n:Nat):Prop where
 emp:R n=⟨⟨[]⟩⟩
 stp:∀ i,i<n→R i=P i++R (i+1)
 full:∀ i,i+1<n→(P i).size=270
 pos:∀ i,i<n→0<(P i).size∧(P i).size≤270
 men:∀ i,i<n→mnV (P i) (6*i:Nat) = .tup [.fs (rS (Ls i)),I (M i:Nat),I 0]
 ls:∀ i,i<n→0<(Ls i).length∧(Ls i).length≤5
 md:∀ i,i<n→M i≤1
 sz:(R 0).size≤100000
 np:n≤100
def Lu(Ls:Nat→List ByteArray):Nat→List ByteArray
 | 0=>[]
 | i+1=>Lu Ls i++Ls i
def Mu(M:Nat→Nat):Nat→Nat
 | 0=>0
 | i+1=>Mu M i+M i
section
variable{R P:Nat→ByteArray}{Ls:Nat→List ByteArray}{M:Nat→Nat}{n:Nat}
theorem bBD(a b:ByteArray):jD (a++b) 0 a.size=a:=by
 simp[jD]
theorem bBC(a b:ByteArray):jD (a++b) a.size (a++b).size=b:=by
 unfold jD;rw[ByteArray.data_append,Array.toList_append,H9,List.drop_left' (by rfl),C4 (by simp_all)]
theorem Fil.szs(f:Fil R P Ls M n):∀ i,i≤n→(R i).size≤100000
 | 0,_=>f.sz
 | i+1,h=>by
   have:=f.szs i AT;rw[f.stp i AT,H9]at this;omega
theorem Fil.lu(f:Fil R P Ls M n):∀ i,i≤n→(Lu Ls i).length≤5*i∧i≤(Lu Ls i).length
 | 0,_=>by simp[Lu]
 | i+1,h=>by
   have:=f.lu i AT;have:=f.ls i AT
   grind [Lu]
theorem Fil.mu(f:Fil R P Ls M n):∀ i,i≤n→Mu M i≤i
 | 0,_=>B5 _
 | i+1,h=>by
   have:=f.mu i AT;have:=f.md i AT;rw[Mu];omega
def aKu(Ls:Nat→List ByteArray)(i:Nat):AV:=if i=0 then .nilsl else .sl 0 0 1 (Lu Ls i).length
def aKv(Ls:Nat→List ByteArray)(i:Nat):XH:=if i=0 then [] else [aa (cO (Lu Ls i))]
theorem aZc(l:List ByteArray):(rS l).flatten=cO l:=by
 unfold rS cO;induction l with
 | nil=>rfl
 | cons a l ih=>grind
theorem aZd(l:List ByteArray):(rS l).all (fun r=>r.length==1)=true:=by
 simp[rS]
theorem aSH(a b:List ByteArray):cO a++cO b=cO (a++b):=by simp[cO]
theorem aTi(f:Fil R P Ls M n){i:Nat}(hi:i<n):cC 0 [3,5,8,9] (execW progG 25 0 none (match aHs with | .loop _ a=>a|c=>c) (bB [3,5,8,9] [I (Mu M i:Nat),.str (R i),aKu Ls i,I (6*i:Nat)]) (aKv Ls i)) =
 some ([I (Mu M (i+1):Nat),.str (R (i+1)),aKu Ls (i+1),I (6*(i+1):Nat)],aKv Ls (i+1)):=by
 obtain⟨p1,p2⟩:=f.pos i hi;have st:=f.stp i hi;have z0:=f.szs i AT;obtain⟨l1,l2⟩:=f.ls i hi;obtain⟨u1,u2⟩:=f.lu i AT;have m1:=f.mu i AT;have m2:=f.md i hi;have hnp:=f.np;have rz:(R i).size=(P i).size+(R (i+1)).size:=by grind
 have ne:aN .neq (R i) ⟨#[]⟩=some (.bool true):=by
  rw[oN,AAk];·rfl
  intro e;have:=AAs ByteArray.size e;rw[rz]at this;have h0:(⟨#[]⟩:ByteArray).size=0:=rfl;omega
 have e1:jD (R i) 0 (P i).size=P i:=by grind [bBD]
 have e2:jD (R i) (P i).size (R i).size=R (i+1):=by grind [bBC]
 have c16:=g16 (s:=P i) (row:=((6*i:Nat):Int)) AT;rw[f.men i hi]at c16;have k1:IntKind.i64.wrap ((Mu M i:Int)+(M i:Int))=((Mu M (i+1):Nat):Int):=by rw[aF AT AT,Mu];omega
 have k2:IntKind.i64.wrap (((6*i:Nat):Int)+6)=((6*(i+1):Nat):Int):=by grind [aF]
 have q1:=aZd (Ls i);have q2:=aZc (Ls i);have q3:=eX (Ls i);have q4:=aSH (Lu Ls i) (Ls i);have q5:=eP (Lu Ls i);have q6:=eP (Lu Ls (i+1));have q8:=fH (Lu Ls i);have q9:(Lu Ls (i+1)).length=(Lu Ls i).length+(Ls i).length:=by rw[Lu,F6]
 have s1:aKu Ls (i+1) = .sl 0 0 1 (Lu Ls (i+1)).length:=if_neg AT;have g1:aKv Ls (i+1)=[aa (cO (Lu Ls (i+1)))]:=if_neg AT;have q4:cO (Lu Ls i)++cO (Ls i)=cO (Lu Ls (i+1)):=q4;have b1:(((P i).size:Int)≤((R i).size:Int))=True:=AAa;have b2:(((Lu Ls i).length+(Ls i).length)*16≤1099511627776)=True:=AAa;have b3:((Lu Ls i).length+(Ls i).length≤1099511627776)=True:=AAa;have b4:((Ls i).length*16≤1099511627776)=True:=AAa;have b5:((Ls i).length≤1099511627776)=True:=AAa;have b6:((Ls i).length=0)=False:=AAb;have hb:((270:Int)<((R i).size:Int))=True∧(P i).size=270∨((270:Int)<((R i).size:Int))=False∧(P i).size=(R i).size:=by
  by_cases hl:i+1<n
  ·have h1:=f.full i hl
   grind
  ·have h1:i+1=n:=AT
   have h2:(R (i+1)).size=0:=by rw[h1,f.emp];rfl
   grind
 rw[s1,g1,q9];unfold aHs;dsimp only;by_cases h0:i=0
 ·subst h0
  have s0:aKu Ls 0 = .nilsl:=rfl;have g0:aKv Ls 0=[]:=rfl;have w0:Lu Ls 0=[]:=rfl;have w1:Mu M 0=0:=rfl;have w2:cO []=[]:=rfl;rw[w0,w2,H7]at q4;rw[s0,g0,w1,w0];rw[w1]at k1;have k1:IntKind.i64.wrap (0+(M 0:Int))=((Mu M (0+1):Nat):Int):=k1;have c16:runW progG 16 [.str (P 0),I 0] []=some (.tup [.fs (rS (Ls 0)),I (M 0:Nat),I 0],[]):=c16;have z9:(([]:List ByteArray).length+(Ls 0).length)=(Ls 0).length:=by simp
  rw[z9];generalize Lu Ls (0+1)=L1 at *;generalize Mu M (0+1)=M1 at *;generalize R (0+1)=R1 at *;rcases hb with ⟨b7,b8⟩|⟨b7,b8⟩
  ·rw[b8]at e1 e2 b1
   have b1:((270:Int)≤((R 0).size:Int))=True:=b1;have e1:jD (R 0) 0 (Int.toNat 270)=P 0:=e1;have e2:jD (R 0) (Int.toNat 270) (R 0).size=R1:=e2;(exact fN ne b7 b1 e1 e2 c16 k1 k2 q1 q2 q3 q4 q6 b4 b5 b6 bU bR bT aE)
  ·rw[b8]at e1 e2 b1
   (exact fN ne b7 b1 e1 e2 c16 k1 k2 q1 q2 q3 q4 q6 b4 b5 b6 bU bR bT aE)
 ·have s0:aKu Ls i = .sl 0 0 1 (Lu Ls i).length:=if_neg h0
  have g0:aKv Ls i=[aa (cO (Lu Ls i))]:=if_neg h0;rw[s0,g0];generalize Lu Ls (i+1)=L1 at *;generalize Lu Ls i=L0 at *;generalize Mu M (i+1)=M1 at *;generalize R (i+1)=R1 at *;rcases hb with ⟨b7,b8⟩|⟨b7,b8⟩
  ·rw[b8]at e1 e2 b1
   have b1:((270:Int)≤((R i).size:Int))=True:=b1;have e1:jD (R i) 0 (Int.toNat 270)=P i:=e1;have e2:jD (R i) (Int.toNat 270) (R i).size=R1:=e2;(exact fN ne b7 b1 e1 e2 c16 k1 k2 q1 q2 q3 q4 q5 q6 q8 b2 b3 bU bR bT)
  ·rw[b8]at e1 e2 b1
   (exact fN ne b7 b1 e1 e2 c16 k1 k2 q1 q2 q3 q4 q5 q6 q8 b2 b3 bU bR bT)
end
abbrev okA:ByteArray:=⟨⟨[111,107]⟩⟩
theorem aTy:aN .neq okA ⟨#[111,107]⟩=some (.bool false):=by kernel_rfl
section
variable{R P:Nat→ByteArray}{Ls:Nat→List ByteArray}{M:Nat→Nat}{n:Nat}{st:Nat→CSt}{A:List ByteArray}
theorem g72(r:ByteArray):runW progG 72 [.str (tU++r),.str ⟨#[122,97,102,114,97,32,49,52,10]⟩] []=some (.tup [.str r,.bool true],[]):=by
 rw[dF (d:=jZ aAC) rfl rfl];rfl
theorem aOR{N:Nat}{md:Nat}(hA:A.length=N)(hN:N≤1000)(hs:∀ j line,A[j]?=some line→sayA (st j) line=(okA,st (j+1))){j:Nat}(hj:j<N):cC 0 [2,3,58,59,60] (execW progG 25 0 none (match aKy with | .loop _ a=>a|c=>c) (bB [2,3,58,59,60] [.pt 0 0,I (md:Nat),.sl 1 0 1 N,I (N:Nat),I (j:Nat)]) [gK (st j),aa (cO A)]) =
 some ([.pt 0 0,I (md:Nat),.sl 1 0 1 N,I (N:Nat),I (j+1:Nat)],[gK (st (j+1)),aa (cO A)]):=by
 obtain⟨line,hl⟩:=dD (l:=A) (i:=j) AT;have h2:=hs j line hl;have c21:=g21 (st j) line;rw[h2]at c21;dsimp only at c21;have hx:(cO A)[j]?=some (.str line):=by unfold cO;grind
 have t1:((j:Int)<(N:Int))=True:=AAa;have a1:=dU hj AT;have gr:=eP A;have o1:=aTy;unfold gK at *;generalize IsClk (st (j+1))=K2 at *;generalize IsClk (st j)=K1 at *;unfold aKy;dsimp only;(exact vA t1 a1 hx c21 o1 gr bU bR bT)
theorem w25(f:Fil R P Ls M n)(hn:0<n)(h0:st 0=cA)(hs:∀ j line,(Lu Ls n)[j]?=some line→sayA (st j) line=(okA,st (j+1)))(hsh:runW progG 73 [I ((R 0).size:Nat)] []=some (I 0,[])) :
 runW progG 25 [.str (tU++R 0)] []=some (.tup [.pt 0 0,I (Mu M n:Nat),I 0],[gK (st (Lu Ls n).length)]):=by
 have c72:=g72 (R 0);have c19:=g19;obtain⟨u1,u2⟩:=f.lu n (B5 _);have hnp:=f.np;have s1:aKu Ls n = .sl 0 0 1 (Lu Ls n).length:=if_neg AT;have g1:aKv Ls n=[aa (cO (Lu Ls n))]:=if_neg AT;have gr:=eP (Lu Ls n);obtain⟨N,hN⟩:∃ N,(Lu Ls n).length=N:=⟨_,rfl⟩;rw[hN]at s1 u1 u2 ⊢;have rb:=fun j (hj:j<N)=>aOR (md:=Mu M n) hN AT hs hj;have em:=f.emp;have ne:aN .neq (⟨⟨[]⟩⟩:ByteArray) ⟨#[]⟩=some (.bool false):=by kernel_rfl
 rw[bEV (by simp[x25])];unfold x25;dsimp only;sym =>
  simp[Za,Zb,Zf,Zg,Zh,Zj,Zl,Zm,Zv,ZA,ZD,ZQ,ZR,Ye,Yh,Ym,Yn,Yq,Yv,Yx,Y5,YF,YG,Xx,Xz,XJ,XN,Wr,Wt,Wu,Ww,Wz,WB,WE,WG,WJ,WY,Va,Vc,Vf,V0,V6,V7,V8,V9,VA,VE,VF,VG,VH,VJ,VK,VL,VM,VN,VO,VP,VQ,VR,VS,VT,VW,Uf,Ug,Uh,Ut,Uv,Uw,Ux,UD,UE,UG,UH,UI,UJ,UM,UN,UO,UP,UQ,US,UT,UW,UY,UZ,Tb,Tc,Td,Te,Tf,Tg,Ti,Tj,Tl,Tp,Tv,T4,T5,T6,T9,TA,TB,TC,TD,TG,TH,TK,TL,Sr,SD,SE,SF,SG,SI,SJ,SK,SL,SN,SS,SV,SW,RC,Qx,QS,QU,QW,QX,QY,QZ,Pu,Pv,Pw,Px,Pz,P0,c72,hsh]
  tactic =>
   unfold aHs;rw[aJ n (fun i=>[I (Mu M i:Nat),.str (R i),aKu Ls i,I (6*i:Nat)]) (fun i=>aKv Ls i)]
   ·rw[s1,g1,em]
    sym =>
     simp[Za,Zb,Zf,Zg,Zh,Zj,Zl,Zm,Zv,ZA,ZD,ZQ,ZR,Ye,Yh,Ym,Yn,Yq,Yv,Yx,Y5,YF,YG,Xx,Xz,XJ,XN,Wr,Wt,Wu,Ww,Wz,WB,WE,WG,WJ,WY,Va,Vc,Vf,V0,V6,V7,V8,V9,VA,VE,VF,VG,VH,VJ,VK,VL,VM,VN,VO,VP,VQ,VR,VS,VT,VW,Uf,Ug,Uh,Ut,Uv,Uw,Ux,UD,UE,UG,UH,UI,UJ,UM,UN,UO,UP,UQ,US,UT,UW,UY,UZ,Tb,Tc,Td,Te,Tf,Tg,Ti,Tj,Tl,Tp,Tv,T4,T5,T6,T9,TA,TB,TC,TD,TG,TH,TK,TL,Sr,SD,SE,SF,SG,SI,SJ,SK,SL,SN,SS,SV,SW,RC,Qx,QS,QU,QW,QX,QY,QZ,Pu,Pv,Pw,Px,Pz,P0,ne,c19,gr,bU,bR,bT]
     tactic =>
      unfold aKy;rw[aJ N (fun j=>[.pt 0 0,I (Mu M n:Nat),.sl 1 0 1 N,I (N:Nat),I (j:Nat)]) (fun j=>[gK (st j),aa (cO (Lu Ls n))])]
      ·have t1:((N:Int)<(N:Int))=False:=AAb
       unfold gK;generalize IsClk (st N)=K1 at *;(exact uJ t1 gr bU bR bT)
      ·rw[h0]
       rfl
      ·intro j hj
       exact rb j hj
      ·have t1:((N:Int)<(N:Int))=False:=AAb
       (exact cK t1)
   ·rfl
   ·intro i hi
    exact aTi f hi
   ·rw[em]
    (exact cK ne)
end
section
variable{B:List ByteArray}{st:Nat→CSt}
def aOM(B:List ByteArray):Nat→ByteArray
 | 0=>⟨⟨[]⟩⟩
 | k+1=>pgB (uQ B (kU B-(k+1))) (6*(kU B-(k+1)))++aOM B k
def rB(B:List ByteArray)(i:Nat):ByteArray:=aOM B (kU B-i)
theorem aPm{i:Nat}(hi:i<kU B):rB B i=pgB (uQ B i) (6*i)++rB B (i+1):=by
 unfold rB;rw[show kU B-i=(kU B-(i+1))+1 by omega,aOM,show kU B-(kU B-(i+1)+1)=i by omega]
theorem aPn:rB B (kU B)=⟨⟨[]⟩⟩:=by unfold rB;rw[M5];rfl
theorem aUt(a:ByteArray):a++(⟨⟨[]⟩⟩:ByteArray)=a:=by
 grind [ByteArray.ext,ByteArray.data_append]
theorem aYJ:∀ i,i≤kU B→jQ B i++rB B i=tU++rB B 0
 | 0,_=>rfl
 | i+1,h=>by
   rw[←aYJ i AT,aPm (i:=i) AT,jQ,ByteArray.append_assoc]
theorem aWp:jJ B=tU++rB B 0:=by
 rw[←aYJ (kU B) (B5 _),aPn,aUt];rfl
theorem aZW:∀ i,Lu (uQ B) i=B.take (5*i)
 | 0=>rfl
 | i+1=>by
   rw[Lu,aZW i,uQ,show 5*(i+1)=5*i+5 by omega,aG3]
theorem aPS:Lu (uQ B) (kU B)=B:=by
 grind [aZW,List.take_of_length_le,kU]
theorem aZz:∀ i,Mu (fun _=>0) i=0
 | 0=>rfl
 | i+1=>by rw[Mu,aZz i]
theorem aDn:∀ k,k≤kU B→(aOM B k).size=45*((B.length-5*(kU B-k))+k)
 | 0,_=>by
   show 0=_;unfold kU;omega
 | k+1,h=>by
   rw[aOM,H9,oX,tL,aDn k AT];unfold kU at *;omega
theorem aWL{i:Nat}{l:ByteArray}(h:l∈uQ B i):l∈B:=aC1 (N9 h)
theorem bBx(hB:∀ l∈B,lnE l=0)(h5:B.length≤300):Fil (rB B) (fun i=>pgB (uQ B i) (6*i)) (uQ B) (fun _=>0) (kU B):=by
 have np:kU B=(B.length+4)/5:=rfl;refine⟨aPn,fun i hi=>aPm hi,fun i hi=>?_,fun i hi=>?_,fun i hi=>?_,fun i hi=>?_,fun i _=>by omega,?_,by omega⟩;·grind [oX,tL]
 ·grind [oX,tL]
 ·grind [aTD,aWL,tL]
 all_goals grind [aDn,uQ,rB]
theorem bCh(hB:∀ l∈B,lnE l=0)(h1:1≤B.length)(h5:B.length≤300)(h0:st 0=cA)(hs:∀ j line,B[j]?=some line→sayA (st j) line=(okA,st (j+1)))(hsh:runW progG 73 [I ((45*(B.length+kU B):Nat):Int)] []=some (I 0,[])) :
 runW progG 25 [.str (jJ B)] []=some (.tup [.pt 0 0,I 0,I 0],[gK (st B.length)]):=by
 have np:kU B=(B.length+4)/5:=rfl;have h:=w25 (st:=st) (bBx hB h5) AT h0 (by grind [aPS]) (by
  have e:(rB B 0).size=45*(B.length+kU B):=by unfold rB;grind [aDn]
  grind)
 grind [aPS,aZz,aWp]
end
section
variable(B:List ByteArray)(av:List Nat)(q:Nat)
variable{B av q}{i:Nat}
end
theorem aWo(s:CSt)(x:ByteArray):((sayA s x).2=s)∨(sayA s x).1=okA∧(sayA s x).2.book=s.book++[x]:=by
 unfold sayA pT
 grind
structure Rep(s:CSt)(n:Nat):Prop where
 run:runL cA s.book=s
 ok:∀ j x,s.book[j]?=some x→sayA (runL cA (s.book.take j)) x=(okA,runL cA (s.book.take (j+1)))
 good:∀ x∈s.book,lnE x=0
 len:s.book.length≤n
theorem aDm:∀{A:List ByteArray}{s:CSt}{x:ByteArray},runL s (A++[x])=(sayA (runL s A) x).2
 | [],_,_=>rfl
 | y::r,s,x=>aDm (A:=r)
theorem aTm:Rep cA 0:=⟨rfl,fun j x h=>by simp[cA]at h,fun x h=>by simp[cA]at h,B5 _⟩
theorem Rep.step{s:CSt}{n:Nat}(r:Rep s n){x:ByteArray}(hx:lnE x=0):Rep (sayA s x).2 (n+1):=by
 rcases aWo s x with h|⟨h1,h2⟩;·rw[h];exact⟨r.run,r.ok,r.good,Nat.le_succ_of_le r.len⟩
 ·have hl:=r.len
  refine⟨?_,?_,?_,?_⟩;·rw[h2,aDm,r.run]
  ·rw[h2]
   intro j y hy;by_cases hj:j<s.book.length
   ·rw[N7 hj]at hy
    rw[O7 AT,O7 AT];exact r.ok j y hy
   ·by_cases hj2:j=s.book.length
    ·subst hj2
     rw[I4 (B5 _),M5]at hy;obtain rfl:x=y:=by grind
     rw[O7 (B5 _),C4 (B5 _),C4 (by simp),aDm,r.run]
     grind
    grind
  ·rw[h2]
   intro y hy;rcases C7.1 hy with hy|hy;·exact r.good y hy
   grind
  grind
theorem aKK{L:List ByteArray}(hL:∀ x∈L,lnE x=0):∀ i,i≤L.length→Rep (runL cA (L.take i)) i
 | 0,_=>aTm
 | i+1,hi=>by
   obtain⟨x,hx⟩:=dD (l:=L) (i:=i) AT;rw[(aAw hx).1];exact(aKK hL i AT).step (hL x (B3 hx))
theorem s73:∀ n:Nat,n<26→dC progG 400 73 [I ((45*(n+(n+4)/5):Nat):Int)] []=some (I 0,[])
 | 0,_=>by kernel_rfl
 | 1,_=>by kernel_rfl
 | 2,_=>by kernel_rfl
 | 3,_=>by kernel_rfl
 | 4,_=>by kernel_rfl
 | 5,_=>by kernel_rfl
 | 6,_=>by kernel_rfl
 | 7,_=>by kernel_rfl
 | 8,_=>by kernel_rfl
 | 9,_=>by kernel_rfl
 | 10,_=>by kernel_rfl
 | 11,_=>by kernel_rfl
 | 12,_=>by kernel_rfl
 | 13,_=>by kernel_rfl
 | 14,_=>by kernel_rfl
 | 15,_=>by kernel_rfl
 | 16,_=>by kernel_rfl
 | 17,_=>by kernel_rfl
 | 18,_=>by kernel_rfl
 | 19,_=>by kernel_rfl
 | 20,_=>by kernel_rfl
 | 21,_=>by kernel_rfl
 | 22,_=>by kernel_rfl
 | 23,_=>by kernel_rfl
 | 24,_=>by kernel_rfl
 | 25,_=>by kernel_rfl
 | n+26,h=>by omega
theorem bCb{B:List ByteArray}(h:B.length≤25):runW progG 73 [I ((45*(B.length+kU B):Nat):Int)] []=some (I 0,[]):=bI.2 ⟨400,s73 B.length AT⟩
theorem aYm:runW progG 25 [.str tU] []=some (.tup [.pt 0 0,I 0,I 0],[gK cA]):=bI.2 ⟨400,by kernel_rfl⟩
theorem aTI{s:CSt}(r:Rep s 25):runW progG 25 [.str (jJ s.book)] []=some (.tup [.pt 0 0,I 0,I 0],[gK s]):=by
 rcases aB2 s.book.length with h0|h1
 ·have e:s.book=[]:=D0 h0
  have hr:=r.run;rw[e]at hr ⊢;have:cA=s:=hr;rw[←this];exact aYm
 ·have h:=bCh (st:=fun j=>runL cA (s.book.take j)) r.good h1 (by have:=r.len;omega) rfl r.ok (bCb r.len)
  rw[C4 (B5 _),r.run]at h;exact h
abbrev lB(L:List ByteArray):Option XB:=some (.blk true (.cells true (cO L)))
noncomputable def gT3s(L:List ByteArray)(s:CSt)(A:List ByteArray):XH:=if A.length=0 then [gK s,lB L] else [gK s,lB L,aa (cO A)]
section
variable{L:List ByteArray}{s:CSt}{i:Nat}
theorem aTh(hn:L.length<1000)(hi:i<L.length):cC 2 [0,1,5,6] (execW progG 31 2 none (match aKx with | .loop _ a=>a|c=>c) (bB [0,1,5,6] [.pt 0 0,.sl 1 0 1 L.length,sLb 2 i,I (i:Nat)]) (gT3s L (runL s (L.take i)) (ansL s (L.take i)))) =
 some ([.pt 0 0,.sl 1 0 1 L.length,sLb 2 (i+1),I (i+1:Nat)],gT3s L (runL s (L.take (i+1))) (ansL s (L.take (i+1)))):=by
 obtain⟨x,hx⟩:=dD (l:=L) (i:=i) hi;have hr:(cO L)[i]?=some (.str x):=by grind [cO]
 have rl:=fH L;have gl:=eP L;obtain⟨u1,u2⟩:=aAw (s:=s) hx;have c21:=g21 (runL s (L.take i)) x;have al:(ansL s (L.take i)).length=i:=by grind [aEC]
 have t1:((i:Int)<(L.length:Int))=True:=AAa;have up:=dU (i:=i) (n:=1000) AT AT;have s1:sLb 2 (i+1) = .sl 2 0 1 (i+1):=if_neg AT;have sc:cO (ansL s (L.take i)++[(sayA (runL s (L.take i)) x).1])=cO (ansL s (L.take i))++[.str (sayA (runL s (L.take i)) x).1]:=(aSG _ _).symm;have g1:gT3s L (runL s (L.take (i+1))) (ansL s (L.take (i+1)))=[gK (sayA (runL s (L.take i)) x).2,lB L,aa (cO (ansL s (L.take i))++[.str (sayA (runL s (L.take i)) x).1])]:=by
  unfold gT3s
  grind
 rw[s1,g1];have gr:=eP (ansL s (L.take i));have tl:(cO (ansL s (L.take i))).length=i:=by rw[fH,al]
 have b2:((i+1)*16≤1099511627776)=True:=AAa;have b3:(i+1≤1099511627776)=True:=AAa;unfold gT3s gK at *;rw[al];clear u1 u2 g1 sc al;generalize sayA (runL s (L.take i)) x=q at *;obtain⟨q1,q2⟩:=q;dsimp only at c21 ⊢;generalize IsClk q2=K2 at *;generalize ansL s (L.take i)=A at *;generalize runL s (L.take i)=s1 at *;generalize IsClk s1=K1 at *;unfold aKx;dsimp only;rcases aB2 i with rfl|hp
 ·have s0:sLb 2 0 = .nilsl:=rfl
  have e0:A=[]:=by cases A with
   | nil=>rfl
   | cons a r=>simp[cO]at tl
  subst e0;have z0:cO ([]:List ByteArray)=[]:=rfl;have t1:((0:Int)<(L.length:Int))=True:=t1;have e0:((0:Nat):Int)=0:=rfl;rw[s0,if_pos rfl,z0,e0];(exact RT9 hr rl gl t1 c21 bU bR bT aE)
 ·have s0:sLb 2 i = .sl 2 0 1 i:=if_neg AT
  rw[s0,if_neg AT];(exact aNh hr rl gl t1 up c21 gr tl b2 b3 bU bR bT)
theorem bCg(hn:L.length<1000):runW progG 31 [.pt 0 0,.sl 1 0 1 L.length] [gK s,lB L]=some (.fs (rS (ansL s L)),[gK (runL s L),lB L]):=by
 have rl:=fH L;have gl:=eP L;have o1:=fun i hi=>aTh (L:=L) (s:=s) (i:=i) hn hi;have tk:L.take L.length=L:=C4 (B5 _);have al:(ansL s L).length=L.length:=aEC;have gr:=eP (ansL s L);have ch:=aBh (ansL s L);have ln:=fH (ansL s L);have tn:((L.length:Int)<(L.length:Int))=False:=AAb;have s0:sLb 2 0 = .nilsl:=rfl;have g0:gT3s L (runL s (L.take 0)) (ansL s (L.take 0))=[gK s,lB L]:=rfl;rw[bEU (by simp[x31])];unfold x31;dsimp only;sym =>
  simp[fR,fU,lX,Za,Zb,Zf,Zh,Zl,Zm,Zv,ZA,ZR,Yv,YG,YR,XL,Wx,WI,WK,WV,Vd,Ve,Vf,Vg,V0,V3,VH,VM,VN,VO,VP,VQ,VW,VX,Ub,Uc,Uo,Ur,Us,Ut,Uu,U8,UA,UD,UE,UG,UH,UI,UJ,UK,UN,UO,UP,UQ,UT,UW,UY,UZ,Tb,Tc,Td,Tg,Th,Ti,Tj,Tl,Tz,T6,T9,TA,TB,TK,TL,Sr,SD,SF,SG,SJ,SK,SL,SN,SS,SV,SW,Rz,R0,RG,Qx,Qz,QA,Pz,P0,P8]
  tactic =>
   unfold aKx;rw[aJ L.length (fun i=>[.pt 0 0,.sl 1 0 1 L.length,sLb 2 i,I (i:Nat)]) (fun i=>gT3s L (runL s (L.take i)) (ansL s (L.take i)))]
   ·rw[tk]
    unfold gT3s gK;rw[al]at ch;generalize runL s L=s2 at *;generalize IsClk s2=K1 at *;generalize ansL s L=A at *;rw[al];rcases aB2 L.length with hz|hp
    ·have e0:A=[]:=D0 AT
     subst e0;have r0:rS []=[]:=rfl;rw[hz]at tn ⊢;have s1:sLb 2 0 = .nilsl:=rfl;rw[s1,r0,if_pos rfl];(exact RT7 rl gl hz tn bU bR bT)
    ·have s1:sLb 2 L.length = .sl 2 0 1 L.length:=if_neg AT
     rw[s1,if_neg AT];(exact bBO rl gl tn gr ch ln al bU bR bT)
   ·rfl
   ·exact o1
   ·(exact RT3 rl gl tn)
end
theorem bEX{vs:List AV}{h:XH}(hl:vs.length≤x13.N):runW progG 13 vs h=gN none x13.res x13.ownR h.length (execW progG 13 h.length none x13.body (aT (if x13.ownA then vs else kQ vs)) h):=cX rfl hl h rfl
abbrev bS(l:List UInt8):ByteArray:=⟨⟨l⟩⟩
def spW(n:Nat):ByteArray:=bS (List.replicate n 32)
theorem c34:runW progG 34 [I 32] []=some (.str (spW 32),[]):=bI.2 ⟨400,by kernel_rfl⟩
theorem bFl:runW progG 34 [I 35] []=some (.str (spW 35),[]):=bI.2 ⟨400,by kernel_rfl⟩
def wl0:List ByteArray:=[bS [102,97,114,109,101,114,32,97],bS [99,108,111,115,101]]
abbrev w1B:ByteArray:=(bS [50,49,49,49,102,97,114,109,101,114,32,97]++spW 32)++bS [10]
abbrev w2B:ByteArray:=(bS [49,49,51,52,99,108,111,115,101]++spW 35)++bS [10]
abbrev w3B:ByteArray:=(bS [49,56,50,49,74,78,98,97,75,114,32,97]++spW 32)++bS [10]
abbrev w4B:ByteArray:=(bS [49,49,51,52,99,108,111,122,101]++spW 35)++bS [10]
theorem bFn:runW progG 14 [.fs (rS wl0),I 0] []=some (.tup [.str ((w1B++w2B)++w3B),I 0],[]):=bI.2 ⟨400,by kernel_rfl⟩
theorem m1w:mnV ((w1B++w4B)++w3B) 0 = .tup [.fs (rS wl0),I 1,I 0]:=by kernel_rfl
theorem m2w:mnV ((w4B++w4B)++w3B) 0=erV 19:=by kernel_rfl
def wkL:List ByteArray:=[bS [102,97,114,109,101,114,32,97,110,97],bS [102,97,114,109,101,114,32,98,111],bS [102,97,114,109,101,114,32,97,110,97],bS [119,97,103,111,110,32,119,49,32,49,53,48,48,48,32,53,48,48,48,32,97,110,97],bS [119,97,103,111,110,32,119,49,32,49,52,48,48,48,32,53,53,48,49,32,98,111],bS [119,97,103,111,110,32,119,49,32,49,52,48,48,48,32,53,53,48,48,32,98,111],bS [119,97,103,111,110,32,119,50,32,51,48,48,48,32,52,48,48,48,32,97,110,97],bS [119,97,103,111,110,32,119,50,32,52,48,48,48,32,51,48,48,48,32,101,118,101],bS [119,97,103,111,110,32,119,50,32,57,48,48,48,32,51,48,48,48,32,98,111],bS [110,101,116,32,98,111],bS [116,111,116,97,108],bS [112,111,119,101,114,32,97,110,97],bS [112,111,119,101,114,32,98,111],bS [116,105,99,107,101,116,32,48],bS [118,111,105,100,32,48],bS [116,105,99,107,101,116,32,48],bS [116,111,116,97,108],bS [99,108,111,115,101],bS [118,111,105,100,32,49],bS [118,111,105,100,32,48],bS [118,111,105,100,32,51],bS [99,108,111,115,101],bS [109,101,116,101,114,32,109,32,57,57,57,57,48],bS [117,115,101,100,32,109],bS [109,101,116,101,114,32,109,32,49,53],bS [117,115,101,100,32,109],bS [112,97,110,32,112,32,57,48,48,32,56,55,48],bS [112,97,110,32,112,32,49,48,48,32,49,48,49],bS [108,111,115,115,32,112],bS [110,101,116,32,32,98,111],bS [110,101,116,32,66,111],bS [119,97,103,111,110,32,119,51,32,49,32,48,50,32,98,111],bS [115,117,103,97,114]]
def wkA:List ByteArray:=[bS [111,107],bS [111,107],bS [110,111,32,54],bS [111,107],bS [110,111,32,50,50],bS [111,107],bS [110,111,32,49,48],bS [110,111,32,53],bS [111,107],bS [49,52,53,48,48],bS [50,52,53,48,48],bS [48],bS [50],bS [119,49,32,97,110,97,32,49,48,48,48,48],bS [111,107],bS [119,49,32,97,110,97,32,49,48,48,48,48,32,118,111,105,100],bS [49,52,53,48,48],bS [111,107],bS [110,111,32,50,51],bS [110,111,32,54],bS [110,111,32,53],bS [110,111,32,52],bS [111,107],bS [48],bS [111,107],bS [50,53],bS [111,107],bS [110,111,32,49,48],bS [51,48],bS [110,111,32,49,51],bS [110,111,32,56],bS [110,111,32,50],bS [110,111,32,49,51]]
noncomputable def sW:CSt:=runL cA wkL
theorem aVU:ansL cA wkL=wkA:=by kernel_rfl
theorem aSu:(wkL.all fun x=>decide (lnE x=0))=true:=by kernel_rfl
theorem aVT:decide ((runL cA wkL).book.length≤25)=true:=by kernel_rfl
theorem aVS:sayA (runL cA wkL) (bS [110,101,116,32,98,111])=(bS [49,52,53,48,48],runL cA wkL):=by kernel_rfl
theorem bFm:runW progG 18 [.fs (rS wkA),.sl 0 0 1 33] [lB wkA]=some (.bool true,[lB wkA]):=bI.2 ⟨400,by kernel_rfl⟩
theorem aVR:Rep sW 25:=by
 have h:=aKK (L:=wkL) (fun x hx=>of_decide_eq_true (D4.1 aSu x hx)) 33 (by decide);have e:wkL.take 33=wkL:=rfl;rw[e]at h;exact⟨h.run,h.ok,h.good,of_decide_eq_true aVT⟩
theorem qE{a b c:ByteArray}(h:a++b=c)(hs:c.size≤1000):aN .add a b=some (.str c):=by
 grind [dR]
theorem qD{a b c:ByteArray}(h:a++b=c):c.size=a.size+b.size:=by grind
theorem w13:runW progG 13 [] []=some (.bool true,[]):=by
 have z32:(spW 32).size=32:=rfl;have YN:(spW 35).size=35:=rfl;have p1:(bS [50,49,49,49,102,97,114,109,101,114,32,97]).size=12:=rfl;have p2:(bS [49,49,51,52,99,108,111,115,101]).size=9:=rfl;have p3:(bS [49,56,50,49,74,78,98,97,75,114,32,97]).size=12:=rfl;have p4:(bS [49,49,51,52,99,108,111,122,101]).size=9:=rfl;have p5:(bS [10]).size=1:=rfl;have h34:=c34;have h34b:=bFl;have h14:=bFn;have h16:=m1w;have h16b:=m2w;unfold w1B w2B w3B w4B at *;generalize spW 32=S at *;generalize spW 35=T at *;obtain⟨a1,ha1⟩:∃ u,bS [50,49,49,49,102,97,114,109,101,114,32,97]++S=u:=⟨_,rfl⟩;obtain⟨b1,hb1⟩:∃ u,a1++bS [10]=u:=⟨_,rfl⟩;obtain⟨a2,ha2⟩:∃ u,bS [49,49,51,52,99,108,111,115,101]++T=u:=⟨_,rfl⟩;obtain⟨b2,hb2⟩:∃ u,a2++bS [10]=u:=⟨_,rfl⟩;obtain⟨a3,ha3⟩:∃ u,bS [49,56,50,49,74,78,98,97,75,114,32,97]++S=u:=⟨_,rfl⟩;obtain⟨b3,hb3⟩:∃ u,a3++bS [10]=u:=⟨_,rfl⟩;obtain⟨a4,ha4⟩:∃ u,bS [49,49,51,52,99,108,111,122,101]++T=u:=⟨_,rfl⟩;obtain⟨b4,hb4⟩:∃ u,a4++bS [10]=u:=⟨_,rfl⟩;obtain⟨e1,he1⟩:∃ u,b1++b2=u:=⟨_,rfl⟩;obtain⟨e2,he2⟩:∃ u,e1++b3=u:=⟨_,rfl⟩;obtain⟨f1,hf1⟩:∃ u,b1++b4=u:=⟨_,rfl⟩;obtain⟨f2,hf2⟩:∃ u,f1++b3=u:=⟨_,rfl⟩;obtain⟨g1,hg1⟩:∃ u,b4++b4=u:=⟨_,rfl⟩;obtain⟨g2,hg2⟩:∃ u,g1++b3=u:=⟨_,rfl⟩;simp only[ha1,hb1,ha2,hb2,ha3,hb3,ha4,hb4,he1,he2,hf1,hf2,hg1,hg2]at h14 h16 h16b;have VK:=qD ha1;have Un:=qD hb1;have VL:=qD ha2;have zb2:=qD hb2;have VM:=qD ha3;have zb3:=qD hb3;have za4:=qD ha4;have Uo:=qD hb4;have TJ:=qD he1;have TK:=qD he2;have Sl:=qD hf1;have Sn:=qD hf2;have SW:=qD hg1;have zg2:=qD hg2;have sa1:=qE ha1 AT;have sb1:=qE hb1 AT;have sa2:=qE ha2 AT;have sb2:=qE hb2 AT;have sa3:=qE ha3 AT;have sb3:=qE hb3 AT;have sa4:=qE ha4 AT;have sb4:=qE hb4 AT;have se1:=qE he1 AT;have se2:=qE he2 AT;have sf1:=qE hf1 AT;have sf2:=qE hf2 AT;have sg1:=qE hg1 AT;have sg2:=qE hg2 AT;have k16:=g16 (s:=f2) (row:=0) AT;have k16b:=g16 (s:=g2) (row:=0) AT;rw[h16]at k16;rw[h16b]at k16b;unfold erV at k16b;have ne:=oN e2 e2;rw[AAj rfl]at ne;have ne:aN .neq e2 e2=some (.bool false):=ne;clear ha1 hb1 ha2 hb2 ha3 hb3 ha4 hb4 he1 he2 hf1 hf2 hg1 hg2 VK Un VL zb2 VM zb3 za4 Uo TJ TK Sl Sn SW zg2 h16 h16b;have c18:=bET (a:=wl0) (b:=wl0) (by decide);rw[AAj rfl]at c18;have c19:=g19;have c31:=bCg (L:=wkL) (s:=cA) (by decide);rw[aVU]at c31;have c23:=g23 sW;have c25:=aTI aVR;have c21:=g21 sW (bS [110,101,116,32,98,111]);have e21:sayA sW (bS [110,101,116,32,98,111])=(bS [49,52,53,48,48],sW):=aVS;rw[e21]at c21;change runW progG 31 [.pt 0 0,.sl 1 0 1 33] [gK cA,lB wkL]=some (.fs (rS wkA),[gK sW,lB wkL])at c31;have c18b:=bFm;have c23n:runW progG 23 [.pt 0 0] [gK cA]=some (.str tU,[gK cA]):=g23 cA;have eh:aN .eql tU ⟨#[122,97,102,114,97,32,49,52,10]⟩=some (.bool true):=by kernel_rfl
 have en:aN .eql (bS [49,52,53,48,48]) ⟨#[49,52,53,48,48]⟩=some (.bool true):=by kernel_rfl
 have es:=iP (jJ sW.book) (jJ sW.book);rw[AAj rfl]at es;have es:aN .eql (jJ sW.book) (jJ sW.book)=some (.bool true):=es;generalize jJ sW.book=F at *;generalize hRA:rS wkA=RA at c31;have c18c:runW progG 18 [.fs RA,.sl 0 0 1 33] [lB wkA]=some (.bool true,[lB wkA]):=by grind
 clear c18b hRA;generalize hRB:rS wl0=RB at k16;have c18d:runW progG 18 [.fs RB,.fs (rS wl0)] []=some (.bool true,[]):=by grind
 clear c18 hRB;simp only[rS,lB,cO,wkL,wkA,wl0,E5,aA8]at c31 c18c c18d h14;have fr:(List.replicate 33 [AV.str ⟨⟨[]⟩⟩]).flatten=[.str ⟨⟨[]⟩⟩,.str ⟨⟨[]⟩⟩,.str ⟨⟨[]⟩⟩,.str ⟨⟨[]⟩⟩,.str ⟨⟨[]⟩⟩,.str ⟨⟨[]⟩⟩,.str ⟨⟨[]⟩⟩,.str ⟨⟨[]⟩⟩,.str ⟨⟨[]⟩⟩,.str ⟨⟨[]⟩⟩,.str ⟨⟨[]⟩⟩,.str ⟨⟨[]⟩⟩,.str ⟨⟨[]⟩⟩,.str ⟨⟨[]⟩⟩,.str ⟨⟨[]⟩⟩,.str ⟨⟨[]⟩⟩,.str ⟨⟨[]⟩⟩,.str ⟨⟨[]⟩⟩,.str ⟨⟨[]⟩⟩,.str ⟨⟨[]⟩⟩,.str ⟨⟨[]⟩⟩,.str ⟨⟨[]⟩⟩,.str ⟨⟨[]⟩⟩,.str ⟨⟨[]⟩⟩,.str ⟨⟨[]⟩⟩,.str ⟨⟨[]⟩⟩,.str ⟨⟨[]⟩⟩,.str ⟨⟨[]⟩⟩,.str ⟨⟨[]⟩⟩,.str ⟨⟨[]⟩⟩,.str ⟨⟨[]⟩⟩,.str ⟨⟨[]⟩⟩,.str ⟨⟨[]⟩⟩]:=rfl;dsimp only at fr;unfold gK at *;generalize IsClk sW=K1 at *;generalize sW=s at *;generalize IsClk cA=K0 at *;generalize cA=s0 at *;generalize tU=hh at *;rw[bEX (by simp[x13])];unfold x13;dsimp only;(sym=>(simp[fR,fU,lX,Za,Zb,Zd,Ze,Zf,Zg,Zh,Zj,Zl,Zm,Zo,Zp,Zq,Zr,Zv,Zy,Z8,ZA,ZD,ZQ,Ye,Yh,Ym,Yn,Yo,Yp,Yq,Y5,YE,YF,Xx,Xy,Xz,XL,XM,XN,Wg,Wr,Wt,Wu,Ww,Wx,Wy,Wz,WC,WH,WI,WJ,WR,WV,WZ,Vd,Vf,Vo,V0,V3,V4,V5,V6,V7,V9,VA,VB,VC,VE,VG,VH,VJ,VK,VL,VM,VN,VO,VP,VQ,VS,VT,VU,VW,VX,Uc,Uf,Ug,Uh,Ui,Uo,Ur,Us,Ut,Uu,Uv,Uw,Ux,U8,UA,UD,UE,UG,UH,UI,UJ,UK,UN,UO,UP,UQ,UW,UY,Tb,Tc,Td,Te,Tf,Tg,Ti,Tj,Tl,Tp,Ts,Tv,Tz,T4,T5,T7,T8,T9,TA,TB,TC,TD,TE,TF,TK,TM,TN,TO,TP,TY,TZ,Sa,Sc,S6,SD,SE,SF,SG,SI,SL,SV,SW,RU,RY,RZ,Qa,Qx,Qz,QA,QS,QU,QW,QX,QY,QZ,Pu,Pv,Pw,Px,Pz,P0,fr,h34,h34b,sa1,sb1,sa2,sb2,sa3,sb3,sa4,sb4,se1,se2,sf1,sf2,sg1,sg2,h14,k16,k16b,ne,c18d,c19,c31,c18c,c23,c25,c21,c23n,eh,en,es];all_goals tactic=>exact rfl))
section
theorem rq(K:Nat)(d:XFn)(hd:progG K=some d){vs:List AV}{h:XH}(hl:vs.length≤d.N:=by exact N4 rfl)(hdf:d.dfr=none:=by rfl)(hpr:d.prm=none:=by rfl)(hg:kJ K=false:=by rfl) :
 runW progG K vs h=gN none d.res d.ownR h.length (execW progG K h.length none d.body (aT (if d.ownA then vs else kQ vs)) h):=cX hd hl h hdf hpr hg
theorem bBI(s:ByteArray)(hs:s.size≤1000):runW progG 103 [.str s] []=some (.bool (aU s),[]):=(dF (d:=jZ (pmRun 103)) rfl rfl _ _).trans (aJr rfl (.bool _) (bCO AT))
theorem a39(n lo hi:Int):runW progG 39 [I n,I lo,I hi] []=some (.bool (decide (lo≤n)&&decide (n≤hi)),[]):=by
 rw[rq 39 x39 rfl];unfold x39;dsimp only;rcases oC (lo≤n)with h1|h1
 ·have d1:decide (lo≤n)=true:=by simp[h1]
  rw[d1,M7];(exact RT1 h1)
 ·have d1:decide (lo≤n)=false:=by simp[h1]
  rw[d1,aB8];(exact RT1 h1)
theorem ru8{c:Nat}(h:c<256):IntKind.u8.wrap (c:Int)=(c:Int)∧Option.map (fun l=>AV.str { data:={ toList:=l } }) (iE [.int .u8 (c:Int)])=some (.str ⟨⟨[UInt8.ofNat c]⟩⟩):=by
 refine⟨by simp[IntKind.wrap,IntKind.bits,IntKind.signed];omega,?_⟩;rfl
theorem rap(a b:List UInt8):(⟨⟨a⟩⟩:ByteArray)++⟨⟨b⟩⟩=⟨⟨a++b⟩⟩:=by
 rfl
theorem a100:∀(f n:Nat),f≤15→n<10^(f+1)→(Lib.decDigits n).length≤f+1∧runW progG 100 [I (n:Nat)] []=some (.str ⟨⟨Lib.decDigits n⟩⟩,[]):=by
 intro f;induction f with
 | zero =>
   intro n _ hn;have q2:tmZ (n:Int) 10=((n%10:Nat):Int):=qH n 10;obtain⟨a2,a3⟩:=ru8 (c:=48+n) AT;have a1:IntKind.i64.wrap (48+(n:Int))=((48+n:Nat):Int):=by grind [aF]
   have t1:((n:Int)<10)=True:=AAa;rw[show n%10=n by omega]at q2;rw[Lib.decDigits,AAq AT];refine⟨by simp,?_⟩;rw[rq 100 aLR rfl];unfold aLR;dsimp only;(exact RT5 q2 a1 a2 a3 t1)
 | succ f ih =>
   intro n hf hn;by_cases h10:n<10;·grind
   obtain⟨l1,c1⟩:=ih (n/10) AT AT;have q2:tmZ (n:Int) 10=((n%10:Nat):Int):=qH n 10;have q1:nX (n:Int) 10=((n/10:Nat):Int):=aCN n 10;have big:(10:Nat)^(f+1+1)≤10^16:=F9 AT AT;have q3:IntKind.i64.wrap ((n/10:Nat):Int)=((n/10:Nat):Int):=aF AT AT;obtain⟨a2,a3⟩:=ru8 (c:=48+n%10) AT;have a1:IntKind.i64.wrap (48+((n%10:Nat):Int))=((48+n%10:Nat):Int):=by grind [aF]
   have t1:((n:Int)<10)=False:=AAb;have e:Lib.decDigits n=Lib.decDigits (n/10)++[UInt8.ofNat (48+n%10)]:=by
    conv=>lhs;rw[Lib.decDigits]
    grind
   have sa:=dR (a:=⟨⟨Lib.decDigits (n/10)⟩⟩) (b:=⟨⟨[UInt8.ofNat (48+n%10)]⟩⟩) (by grind [aBL]);rw[rap]at sa;rw[e];refine⟨by grind,?_⟩;rw[rq 100 aLR rfl];unfold aLR;dsimp only;(exact RT9 q1 q2 q3 a1 a2 a3 t1 c1 sa)
theorem rdg{v:Int}(h0:0≤v)(h1:v<1000000000000):runW progG 100 [I v] []=some (.str ⟨⟨Lib.itoa v⟩⟩,[]):=by
 obtain⟨n,rfl⟩:=M3 h0;rw[show Lib.itoa ((n:Nat):Int)=Lib.decDigits n by rfl];exact(a100 14 n AT AT).2
theorem a63{e:Int}(h0:0≤e)(h1:e<100):runW progG 63 [I e] []=some (.str (noA e),[]):=by
 have c:=rdg h0 AT;have l:(Lib.itoa e).length≤3:=by
  obtain⟨n,rfl⟩:=M3 h0;rw[show Lib.itoa ((n:Nat):Int)=Lib.decDigits n by rfl];exact(a100 2 n AT AT).1
 have sa:=dR (a:=AAF) (b:=⟨⟨Lib.itoa e⟩⟩) (by grind [aBL]);have sa:aN .add AAF ⟨⟨Lib.itoa e⟩⟩=some (.str (noA e)):=sa;generalize noA e=z at *;generalize (⟨⟨Lib.itoa e⟩⟩:ByteArray)=y at *;rw[rq 63 x63 rfl];unfold x63;dsimp only;(exact RT2 c sa)
end
def smp:AV→Bool
 | .int .. | .bool _ | .str _=>true
 | _=>false
abbrev Sm(l:List AV):Prop:=kI l=true∧lE l=[]∧slL l=[]∧kQ l=l∧∀ f,lO f l=l
def hC(nF nT nM nP nB:Nat)(CF CT CM CP CB:List AV):XH:=[ab [.bool true,.sl 1 0 1 nF,.sl 2 0 6 nT,.sl 3 0 3 nM,.sl 4 0 3 nP,.sl 5 0 1 nB],
 (aa CF),aa CT,aa CM,aa CP,aa CB]
theorem aCm{nF nT nM nP nB:Nat}{CF CT CM CP CB:List AV}:hC nF nT nM nP nB CF CT CM CP CB=[ab [.bool true,.sl 1 0 1 nF,.sl 2 0 6 nT,.sl 3 0 3 nM,.sl 4 0 3 nP,.sl 5 0 1 nB],
 (aa CF),aa CT,aa CM,aa CP,aa CB]:=rfl
theorem aOm{l:List AV}(h:∀ a∈l,smp a=true):Sm l:=by
 induction l with
 | nil=>exact⟨rfl,rfl,rfl,rfl,fun _=>rfl⟩
 | cons a l ih =>
   obtain⟨h1,h2,h3,h4,h5⟩:=ih fun b hb=>h b (D7 _ hb);have ha:=h a (by simp);have q:iU a=true∧jS a=[]∧slN a=[]∧uR a=a∧∀ f,rnA f a=a:=by
    cases a<;>first|exact⟨rfl,rfl,rfl,rfl,fun _=>rfl⟩|cases ha
   obtain⟨q1,q2,q3,q4,q5⟩:=q;refine⟨?_,?_,?_,?_,fun f=>?_⟩;·rw[kI,q1,h1];rfl
   ·rw[lE,q2,h2];rfl
   ·rw[slL,q3,h3];rfl
   ·rw[kQ,q4,h4]
   ·rw[lO,q5,h5]
def cE(F:Nat→List AV)(n:Nat):List AV:=(List.range n).flatMap F
def fE(F:Nat→List AV)(n:Nat):List (List AV):=(List.range n).map F
structure Rw(F:Nat→List AV)(m:Nat):Prop where
 len:∀ i,(F i).length=m
 smp:∀ i,∀ a∈F i,smp a=true
section
variable{F G:Nat→List AV}{m n i j:Nat}
theorem nO:(fE F n).length=n:=by simp[fE]
theorem aDi(h:i<n):(fE F n)[i]?=some (F i):=by grind [fE]
theorem aJo:(fE F n).flatten=cE F n:=by rfl
theorem aCt(r:Rw F m):((fE F n).all fun r=>r.length==m)=true:=by
 rw[D4];intro x hx;obtain⟨k,_,rfl⟩:=F7.1 hx;simp[r.len k]
theorem aLo(r:Rw F m):∀ a∈cE F n,smp a=true:=fun a ha=>by
 obtain⟨k,_,hk⟩:=O5.1 ha;exact r.smp k a hk
theorem aBA:cE F (n+1)=cE F n++F n:=by grind [List.range_succ,cE]
theorem fJ(r:Rw F m):∀ n,(cE F n).length=n*m
 | 0=>by simp[cE]
 | n+1=>by rw[aBA,F6,fJ r n,r.len,Nat.succ_mul]
theorem lG(h:∀ i,i<n→F i=G i):cE F n=cE G n:=by
 grind [List.map_congr_left,cE]
theorem aFO(h:i<n):∃ b,cE F n=cE F i++(F i++b):=by
 induction n with
 | zero=>omega
 | succ n ih =>
   by_cases hi:i=n;·subst hi;exact⟨[],by grind [aBA]⟩
   grind [aBA]
theorem kK(r:Rw F m)(h:i<n)(hj:j<m):(cE F n)[i*m+j]?=(F i)[j]?:=by
 obtain⟨b,hb⟩:=aFO (F:=F) h;have:=fJ r i;have:=r.len i
 grind
theorem aTX(r:Rw F m)(h:i<n):((cE F n).drop (i*m)).take m=F i:=by
 obtain⟨b,hb⟩:=aFO (F:=F) h;have h1:=fJ r i;have h2:=r.len i
 grind
def nL(F:Nat→List AV)(i j:Nat)(v:AV):Nat→List AV:=fun k=>if k=i then (F i).set j v else F k
theorem aAe(r:Rw F m){v:AV}(hv:Go.Proofs.YtmapgnepfgnphaaGreatDoor.smp v=true):Rw (nL F i j v) m:=by
 refine⟨fun k=>?_,fun k a ha=>?_⟩
 ·unfold nL;split
  ·rw[G5,r.len]
  ·exact r.len k
 ·unfold nL at ha;split at ha
  ·rcases aE0 ha with h|h
   ·exact r.smp _ a h
   grind
  ·exact r.smp k a ha
theorem aAU(r:Rw F m)(h:i<n)(hj:j<m){v:AV}(hv:Go.Proofs.YtmapgnepfgnphaaGreatDoor.smp v=true):bJ (cE F n) (i*m+j) [v]=cE (nL F i j v) n:=by
 have hl:=fJ r n;have r':=aAe (i:=i) (j:=j) r hv;have hl':=fJ r' n;have hlt:i*m+j<n*m:=by
  have:(i+1)*m≤n*m:=J2 _ AT
  grind
 have e:bJ (cE F n) (i*m+j) [v]=(cE F n).set (i*m+j) v:=by
  unfold bJ;rw[N6,if_pos AT];simp
 rw[e];apply I2;intro p;by_cases hp:p<n*m
 ·have hm:0<m:=AT
  have hk:p/m<n:=(Nat.div_lt_iff_lt_mul hm).2 hp;have hq:p%m<m:=aA5 _ hm;have hd:p/m*m+p%m=p:=by grind [Nat.div_add_mod]
  have e1:=kK r hk hq;have e2:=kK r' hk hq;rw[hd]at e1 e2;rw[e2,List.getElem?_set];by_cases hpe:i*m+j=p
  ·have hki:p/m=i:=by rw[←hpe,Nat.mul_comm,Nat.mul_add_div hm,Nat.div_eq_of_lt hj,J0]
   grind [nL]
  grind [nL]
 grind
end
def fD(s:CSt):List ByteArray:=s.farmers.map (·.1)
def gL(s:CSt)(E:Nat→Int)(i:Nat):List AV:=match s.tickets[i]? with
 | some k=>[.str k.wagon,I (E i),I k.net,I (((bK (fD s) k.farmer).getD 0:Nat):Int),.bool k.void,.bool (decide (i<s.closed))]
 | none=>[I 0,I 0,I 0,I 0,I 0,I 0]
def mU(s:CSt)(i:Nat):List AV:=match s.meters[i]? with
 | some p=>[.str p.1,I p.2.2,I p.2.1]
 | none=>[I 0,I 0,I 0]
def mQ(s:CSt)(i:Nat):List AV:=match s.pans[i]? with
 | some p=>[.str p.1,I p.2,I 0]
 | none=>[I 0,I 0,I 0]
section
variable{s:CSt}{E:Nat→Int}
theorem nE:Rw (gL s E) 6:=⟨fun i=>by unfold gL;split<;>rfl,fun i a ha=>by unfold gL at ha;split at ha<;>(simp at ha;rcases ha with rfl|rfl|rfl|rfl|rfl|rfl<;>rfl)⟩
theorem uS:Rw (mU s) 3:=⟨fun i=>by grind [mU],fun i a ha=>by grind [smp,mU]⟩
theorem uP:Rw (mQ s) 3:=⟨fun i=>by grind [mQ],fun i a ha=>by grind [smp,mQ]⟩
def rC(s:CSt)(E:Nat→Int):Option XB:=aa [.bool true,.fs (rS (fD s)),.fs (fE (gL s E) s.tickets.length),.fs (fE (mU s) s.meters.length),.fs (fE (mQ s) s.pans.length),.fs (rS s.book)]
def rN:Option XB:=aa [.bool true,.nilsl,.nilsl,.nilsl,.nilsl,.nilsl]
def hN(s:CSt)(E:Nat→Int):XH:=[ab [.bool true,.sl 1 0 1 s.farmers.length,.sl 2 0 6 s.tickets.length,.sl 3 0 3 s.meters.length,.sl 4 0 3 s.pans.length,.sl 5 0 1 s.book.length],
 (aa (cO (fD s))),aa (cE (gL s E) s.tickets.length),aa (cE (mU s) s.meters.length),aa (cE (mQ s) s.pans.length),aa (cO s.book)]
end
section
variable{s:CSt}{E:Nat→Int}{x:ByteArray}
theorem aWS{l:List ByteArray}{x:ByteArray}(h:bK l x=none):∀(i:Nat)(y:ByteArray),l[i]?=some y→¬y=x:=fun i y hy e=>kC.1 h (e▸B3 hy)
theorem aKW{x:ByteArray}:∀{l:List ByteArray}{m:Nat},bK l x=some m→∀ i,i<m→∀ y,l[i]?=some y→¬y=x
 | [],_,h,_,_,_,_=>by cases h
 | k::r,m,h,i,hi,y,hy=>by
   unfold bK at h;split at h;·cases h;omega
   ·rw[B2]at h
    obtain⟨j,hj,rfl⟩:=h;cases i with
    | zero=>simp at hy;subst hy;assumption
    | succ i=>exact aKW hj i AT y (by simpa using hy)
theorem aDL{l:List ByteArray}{m:Nat}(h:bK l x=some m):m<l.length∧l[m]?=some x:=⟨(B8.1 (cZ h)).1,cZ h⟩
def mW(l:List ByteArray)(x:ByteArray):Int:=match bK l x with|some i=>(i:Int)|none => -1
theorem aMa(l:List ByteArray)(x:ByteArray):∃ m,m≤l.length∧(∀(i:Nat),i<m→∀(y:ByteArray),l[i]?=some y→aN .eql y x=some (.bool false))∧((m=l.length∧mW l x = -1)∨(m<l.length∧l[m]?=some x∧aN .eql x x=some (.bool true)∧mW l x=(m:Int))):=by
 have ne:∀ y:ByteArray,¬y=x→aN .eql y x=some (.bool false):=fun y h=>by grind [iP]
 cases h:bK l x with
 | none=>exact⟨l.length,B5 _,fun i _ y hy=>ne y (aWS h i y hy),.inl ⟨rfl,by unfold mW;rw[h]⟩⟩
 | some m =>
   grind [aDL,aKW,aN,mW]
theorem aVJ{L:List ByteArray}{RT RM RP RB:List (List AV)}(hb:L.length≤1000):runW progG 108 [.pt 0 0,.str x] ([aa [.bool true,.fs (rS L),.fs RT,.fs RM,.fs RP,.fs RB]])=some (I (mW L x),[aa [.bool true,.fs (rS L),.fs RT,.fs RM,.fs RP,.fs RB]]):=by
 obtain⟨m,m1,m2,m3⟩:=aMa L x;have e0:((L.length:Int)<(L.length:Int))=False:=AAb;have ln:(rS L).length=L.length:=eX _;have ra:=fun i y (h:L[i]?=some y)=>rO h;rw[rq 108 aHz rfl];unfold aHz;dsimp only;sym =>
  simp[Za,Zb,Zf,Zh,Zl,Zm,Zv,Z9,ZA,ZF,ZH,ZR,ZV,Ys,Yu,Yz,Y4,Y6,YG,YL,YM,Xw,Xx,Xz,XN,Wr,Wu,Wz,WB,WY,Va,Vf,V0,V1,V2,V9,VA,VF,VH,VK,VM,VN,VO,VP,VQ,VW,VX,Ub,Uc,Ut,UD,UE,UG,UH,UI,UJ,UK,UN,UO,UP,UQ,UT,UU,UV,UW,UX,UY,UZ,Ta,Tb,Tc,Td,Tg,Th,Ti,Tj,Tl,Tz,T4,T5,T6,T9,TA,TB,TC,TD,TK,TL,Sr,Ss,Su,Sv,Sw,Sy,SD,SE,SF,SG,SI,SJ,SK,SL,SN,SO,SP,SQ,SS,SU,SV,SW,Qx,ln]
  tactic =>
   unfold aGl;rw[aJ m (fun i=>[.pt 0 0,.str x,I (i:Nat)]) (fun _=>[aa [.bool true,.fs (rS L),.fs RT,.fs RM,.fs RP,.fs RB]])]
   ·rcases m3 with ⟨h1,h2⟩|⟨h1,h2,h3,h4⟩
    ·rw[h2,h1]
     (exact pY e0 ln)
    ·have r:=ra m x h2
     have t1:((m:Int)<(L.length:Int))=True:=AAa;have t2:(m<L.length)=True:=AAn h1;rw[h4];(exact uJ t1 t2 r h3 ln)
   ·rfl
   ·intro i hi
    obtain⟨y,hy⟩:=dD (l:=L) (i:=i) AT;have r:=ra i y hy;have e:=m2 i hi y hy;have t1:((i:Int)<(L.length:Int))=True:=AAa;have t2:(i<L.length)=True:=AAa;have up:=dU (i:=i) (n:=2000) AT AT;(exact mK t1 t2 r e up ln aE)
   ·rcases m3 with ⟨h1,h2⟩|⟨h1,h2,h3,h4⟩
    ·rw[h1]
     (exact pY e0 ln)
    ·have r:=ra m x h2
     have t1:((m:Int)<(L.length:Int))=True:=AAa;have t2:(m<L.length)=True:=AAn h1;(exact uJ t1 t2 r h3 ln)
theorem aYM{l:List ByteArray}{i:Nat}{y:ByteArray}(h:l[i]?=some y):(cO l)[i]?=some (.str y):=by grind [cO]
theorem aVI{L:List ByteArray}{nT nM nP nB:Nat}{CT CM CP CB:List AV}(hb:L.length≤1000)(g2:Sm CT)(g3:Sm CM)(g4:Sm CP)(g5:Sm CB):runW progG 108 [.pt 0 0,.str x] (hC L.length nT nM nP nB (cO L) CT CM CP CB)=some (I (mW L x),hC L.length nT nM nP nB (cO L) CT CM CP CB):=by
 obtain⟨m,m1,m2,m3⟩:=aMa L x;have e0:((L.length:Int)<(L.length:Int))=False:=AAb;have ln:=fH L;have gl:=eP L;have ra:=fun i y (h:L[i]?=some y)=>aYM h;unfold hC;rw[rq 108 aHz rfl];unfold aHz;dsimp only;sym =>
  simp[Za,Zb,Zf,Zh,Zl,Zm,Zv,Z9,ZA,ZF,ZH,ZR,ZV,Ys,Yv,Yy,Y6,YG,YL,YM,Xw,Xx,Xy,Xz,XM,XN,Wr,Wt,Wu,Wy,Wz,WB,WY,Va,Vf,V0,V1,V2,V9,VA,VF,VH,VK,VM,VN,VO,VP,VQ,VW,VX,VY,Ub,Uc,Ud,Ut,UD,UE,UG,UH,UI,UJ,UK,UN,UO,UP,UQ,UT,UU,UV,UW,UX,UY,UZ,Ta,Tb,Tc,Td,Te,Tf,Tg,Th,Ti,Tj,Tl,Tz,T4,T5,T6,T9,TA,TB,TC,TD,TK,TL,Sr,Ss,Su,Sy,SD,SE,SF,SG,SI,SJ,SK,SL,SN,SO,SP,SQ,SS,SU,SV,SW,Rz,R0,Qx,ln,gl,bU,bR,bT,g2,g3,g4,g5,aCm]
  tactic =>
   unfold aGl;rw[aJ m (fun i=>[.pt 0 0,.str x,I (i:Nat)]) (fun _=>hC L.length nT nM nP nB (cO L) CT CM CP CB)]
   ·rcases m3 with ⟨h1,h2⟩|⟨h1,h2,h3,h4⟩
    ·rw[h2,h1]
     (exact gF e0 ln gl bU bR bT g2 g3 g4 g5 @aCm aE aE)
    ·have r:=ra m x h2
     have t1:((m:Int)<(L.length:Int))=True:=AAa;have t2:(m<L.length)=True:=AAn h1;rw[h4];(exact fN t1 t2 r h3 ln gl bU bR bT g2 g3 g4 g5 @aCm aE aE aE aE aE aE)
   ·rfl
   ·intro i hi
    obtain⟨y,hy⟩:=dD (l:=L) (i:=i) AT;have r:=ra i y hy;have e:=m2 i hi y hy;have t1:((i:Int)<(L.length:Int))=True:=AAa;have t2:(i<L.length)=True:=AAa;have up:=dU (i:=i) (n:=2000) AT AT;(exact fN t1 t2 r e up ln gl bU bR bT g2 g3 g4 g5 @aCm aE aE aE aE aE)
   ·rcases m3 with ⟨h1,h2⟩|⟨h1,h2,h3,h4⟩
    ·rw[h1]
     (exact gF e0 ln gl bU bR bT g2 g3 g4 g5 @aCm aE aE)
    ·have r:=ra m x h2
     have t1:((m:Int)<(L.length:Int))=True:=AAa;have t2:(m<L.length)=True:=AAn h1;(exact fN t1 t2 r h3 ln gl bU bR bT g2 g3 g4 g5 @aCm aE aE aE aE aE aE)
theorem aRD{L:List ByteArray}{F:Nat→List AV}(hb:L.length≤1000)(hF:∀ i y,L[i]?=some y→∃ u v:AV,F i=[.str y,u,v]):runW progG 107 [.fs (fE F L.length),.str x] ([])=some (I (mW L x),[]):=by
 obtain⟨m,m1,m2,m3⟩:=aMa L x;have e0:((L.length:Int)<(L.length:Int))=False:=AAb;have ln:(fE F L.length).length=L.length:=nO;have ra:∀ i y,L[i]?=some y→∃ u v:AV,(fE F L.length)[i]?=some [.str y,u,v]:=fun i y h=>by
  obtain⟨u,v,e⟩:=hF i y h;exact⟨u,v,by rw[aDi (B8.1 h).1,e]⟩
 rw[rq 107 aLP rfl];unfold aLP;dsimp only;sym =>
  simp[Za,Zb,Zf,Zh,Zl,Zm,Zv,ZA,ZF,ZH,ZR,ZV,Yt,Yu,Yz,Y4,Y6,YG,YL,YM,Xx,Xz,XL,Wr,Wu,Wx,WB,WY,Va,Vd,V9,VH,VM,VN,VP,VQ,Ut,UD,UE,UG,UH,UI,UJ,UK,UN,UO,UP,UQ,UT,UU,UV,UW,UX,UY,UZ,Ta,Tb,Tc,Td,Tg,Ti,Tj,Tl,Tz,T5,T6,T9,TA,TB,TC,TD,TK,TL,Sr,Sv,Sw,Sy,SD,SE,SF,SG,SI,SJ,SK,SL,SN,SO,SP,SQ,SS,SU,SV,SW,Qx,ln]
  tactic =>
   unfold aJa;rw[aJ m (fun i=>[.fs (fE F L.length),.str x,I (i:Nat)]) (fun _=>[])]
   ·rcases m3 with ⟨h1,h2⟩|⟨h1,h2,h3,h4⟩
    ·rw[h2,h1]
     (exact pY e0 ln)
    ·obtain⟨u,v,r⟩:=ra m x h2
     have t1:((m:Int)<(L.length:Int))=True:=AAa;have t2:(m<L.length)=True:=AAn h1;rw[h4];(exact uJ t1 t2 r h3 ln)
   ·rfl
   ·intro i hi
    obtain⟨y,hy⟩:=dD (l:=L) (i:=i) AT;obtain⟨u,v,r⟩:=ra i y hy;have e:=m2 i hi y hy;have t1:((i:Int)<(L.length:Int))=True:=AAa;have t2:(i<L.length)=True:=AAa;have up:=dU (i:=i) (n:=2000) AT AT;(exact mK t1 t2 r e up ln aE)
   ·rcases m3 with ⟨h1,h2⟩|⟨h1,h2,h3,h4⟩
    ·rw[h1]
     (exact pY e0 ln)
    ·obtain⟨u,v,r⟩:=ra m x h2
     have t1:((m:Int)<(L.length:Int))=True:=AAa;have t2:(m<L.length)=True:=AAn h1;(exact uJ t1 t2 r h3 ln)
theorem aVL{L:List ByteArray}{F:Nat→List AV}(hb:L.length≤1000)(rw:Rw F 3)(hF:∀ i y,L[i]?=some y→∃ u v:AV,F i=[.str y,u,v]):runW progG 107 [.sl 0 0 3 L.length,.str x] ([aa (cE F L.length)])=some (I (mW L x),[aa (cE F L.length)]):=by
 obtain⟨m,m1,m2,m3⟩:=aMa L x;have e0:((L.length:Int)<(L.length:Int))=False:=AAb;have ln:(cE F L.length).length=L.length*3:=fJ rw _;have b1:=aOm (aLo (n:=L.length) rw);have ra:∀ i y,L[i]?=some y→(cE F L.length)[i*3]?=some (.str y):=fun i y h=>by
  obtain⟨u,v,e⟩:=hF i y h;have:=kK rw (i:=i) (n:=L.length) (j:=0) (B8.1 h).1 AT
  grind
 rw[rq 107 aLP rfl];unfold aLP;dsimp only;sym =>
  simp[Za,Zb,Zf,Zh,Zl,Zm,Zv,ZA,ZF,ZH,ZR,ZV,Ys,Yv,Yy,Y6,YG,YL,YM,Xx,Xz,XM,Wr,Wu,Wy,WB,WY,Va,Ve,V0,V1,V2,VA,VF,VH,VK,VM,VN,VO,VP,VQ,VW,VX,Ub,Uc,Ut,UD,UE,UG,UH,UI,UJ,UK,UN,UO,UP,UQ,UT,UU,UV,UW,UX,UY,UZ,Ta,Tb,Tc,Td,Tg,Th,Ti,Tj,Tl,Tz,T4,T5,T6,T9,TA,TB,TC,TD,TK,TL,Sr,Ss,Su,Sy,SD,SE,SF,SG,SI,SJ,SK,SL,SN,SO,SP,SQ,SS,SU,SV,SW,R0,RC,Qx,ln,b1]
  tactic =>
   unfold aJa;rw[aJ m (fun i=>[.sl 0 0 3 L.length,.str x,I (i:Nat)]) (fun _=>[aa (cE F L.length)])]
   ·rcases m3 with ⟨h1,h2⟩|⟨h1,h2,h3,h4⟩
    ·rw[h2,h1]
     (exact yK e0 ln b1)
    ·have r:=ra m x h2
     have t1:((m:Int)<(L.length:Int))=True:=AAa;have t2:(m<L.length)=True:=AAn h1;rw[h4];(exact mK t1 t2 r h3 ln b1 aE)
   ·rfl
   ·intro i hi
    obtain⟨y,hy⟩:=dD (l:=L) (i:=i) AT;have r:=ra i y hy;have e:=m2 i hi y hy;have t1:((i:Int)<(L.length:Int))=True:=AAa;have t2:(i<L.length)=True:=AAa;have up:=dU (i:=i) (n:=2000) AT AT;(exact mK t1 t2 r e up ln b1)
   ·rcases m3 with ⟨h1,h2⟩|⟨h1,h2,h3,h4⟩
    ·rw[h1]
     (exact yK e0 ln b1)
    ·have r:=ra m x h2
     have t1:((m:Int)<(L.length:Int))=True:=AAa;have t2:(m<L.length)=True:=AAn h1;(exact mK t1 t2 r h3 ln b1 aE)
theorem eE{F:Nat→List AV}{m n:Nat}(r:Rw F m):Sm (cE F n):=aOm (aLo r)
theorem yO(l:List ByteArray):Sm (cO l):=aOm fun a ha=>by grind [smp,cO]
section
variable{nF nT nM nP nB:Nat}{CF CT CM CP CB:List AV}
theorem a111(sF:Sm CF)(sM:Sm CM)(sP:Sm CP)(sB:Sm CB)(hn:nT≤1000){F:Nat→List AV}(r:Rw F 6){i:Nat}:(nT≤i→runW progG 111 [.pt 0 0,I (i:Nat)] (hC nF nT nM nP nB CF (cE F nT) CM CP CB)=some (I 5,hC nF nT nM nP nB CF (cE F nT) CM CP CB)) ∧
 (∀ a b c d v cl,i<nT→F i=[a,b,c,d,.bool v,.bool cl]→runW progG 111 [.pt 0 0,I (i:Nat)] (hC nF nT nM nP nB CF (cE F nT) CM CP CB)=if v then some (I 6,hC nF nT nM nP nB CF (cE F nT) CM CP CB) else if cl then some (I 23,hC nF nT nM nP nB CF (cE F nT) CM CP CB) else some (I 0,hC nF nT nM nP nB CF (cE (nL F i 4 (.bool true)) nT) CM CP CB)):=by
 have t1:=eE (n:=nT) r;have ln:=fJ r nT;constructor
 ·intro hi
  have e1:((nT:Int)≤(i:Int))=True:=AAa;unfold hC;rw[rq 111 aLO rfl];unfold aLO;dsimp only;generalize cE F nT=CT at *;(exact mK e1 sF t1 sM sP sB aE)
 ·intro a b c d v cl hi hr
  have e1:((nT:Int)≤(i:Int))=False:=AAb;have e2:((i:Int)<(nT:Int))=True:=AAa;have g4:=kK r hi (j:=4) AT;have g5:=kK r hi (j:=5) AT;rw[hr]at g4 g5;have g4:(cE F nT)[i*6+4]?=some (.bool v):=g4;have g5:(cE F nT)[i*6+5]?=some (.bool cl):=g5;have st:=aAU r hi (j:=4) AT (v:=.bool true) rfl;have e3:(i*6+4+1≤nT*6)=True:=AAa;have u1:=eE (n:=nT) (aAe (i:=i) (j:=4) (v:=.bool true) r rfl);unfold hC;rw[rq 111 aLO rfl];unfold aLO;dsimp only;generalize cE (nL F i 4 (.bool true)) nT=CU at *;generalize cE F nT=CT at *;cases v with
  | true =>
    rw[if_pos rfl];(exact jE e1 e2 ln g4 g5 sF t1 sM sP sB)
  | false =>
    rw[if_neg I5];cases cl with
    | true =>
      rw[if_pos rfl];(exact jE e1 e2 ln g4 g5 sF t1 sM sP sB)
    | false =>
      rw[if_neg I5];(exact gF e1 e2 e3 ln g4 g5 st u1 sF t1 sM sP sB)
end
end
section
variable{x:ByteArray}{nF nT nM nP nB:Nat}{CF CT CM CP CB:List AV}{L:List ByteArray}{F:Nat→List AV}
theorem aSK(A:List AV)(a b c v:AV):bJ (A++[a,b,c]) (A.length+1) [v]=A++[a,v,c]:=by
 have h1:(A++[a,b,c]).take (A.length+1)=A++[a]:=by
  grind
 have h2:(A++[a,b,c]).drop (A.length+1+1)=[c]:=by
  rw[List.drop_append,M6 AT,show A.length+1+1-A.length=2 by omega];rfl
 grind [bJ]
theorem a113(sF:Sm CF)(sT:Sm CT)(sP:Sm CP)(sB:Sm CB)(hb:L.length≤1000)(r:Rw F 3)(hF:∀ i y,L[i]?=some y→∃ u l:Int,F i=[.str y,I u,I l]∧0≤u∧u≤1000000000∧0≤l∧l≤99999){n:Int}(hn:0≤n∧n≤99999) :
 (bK L x=none→L.length=5→runW progG 113 [.pt 0 0,.str x,I n] (hC nF nT L.length nP nB CF CT (cE F L.length) CP CB)=some (I 15,hC nF nT L.length nP nB CF CT (cE F L.length) CP CB)) ∧
 (bK L x=none→L.length≠5→runW progG 113 [.pt 0 0,.str x,I n] (hC nF nT L.length nP nB CF CT (cE F L.length) CP CB)=some (I 0,[ab [.bool true,.sl 1 0 1 nF,.sl 2 0 6 nT,.sl 6 0 3 (L.length+1),.sl 4 0 3 nP,.sl 5 0 1 nB],aa CF,aa CT,none,aa CP,aa CB,aa (cE F L.length++[.str x,I 0,I n])])) ∧
 (∀ i,bK L x=some i→∀ u l:Int,F i=[.str x,I u,I l]→runW progG 113 [.pt 0 0,.str x,I n] (hC nF nT L.length nP nB CF CT (cE F L.length) CP CB)=some (I 0,hC nF nT L.length nP nB CF CT (cE (nL (nL F i 1 (I (u+(n-l+100000)%100000))) i 2 (I n)) L.length) CP CB)):=by
 have m1:=eE (n:=L.length) r;have ln:=fJ r L.length;have c107:=aVL (x:=x) (L:=L) (F:=F) hb r fun i y h=>by grind
 have iv:((-1:Int)<0)=True:=AAa;refine⟨fun h h5=>?_,fun h h5=>?_,fun i h u l hr=>?_⟩
 ·have e:mW L x = -1:=by unfold mW;rw[h]
  have e5:((L.length:Int)=5)=True:=AAa;rw[e]at c107;unfold hC;rw[rq 113 aHy rfl];unfold aHy;dsimp only;generalize cE F L.length=CM at *;(exact vA c107 iv e5 ln sF sT m1 sP sB)
 ·have e:mW L x = -1:=by unfold mW;rw[h]
  have e5:((L.length:Int)=5)=False:=AAb;rw[e]at c107;have g1:((L.length+1)*32≤1099511627776)=True:=AAa;have g2:(L.length+1≤1099511627776)=True:=AAa;unfold hC;rw[rq 113 aHy rfl];unfold aHy;dsimp only;generalize cE F L.length=CM at *;(exact gF c107 iv e5 ln g1 g2 sF sT m1 sP sB aE aE)
 ·obtain⟨hi,hx⟩:=aDL h
  obtain⟨u',l',e',q1,q2,q3,q4⟩:=hF i x hx;rw[hr]at e';obtain⟨rfl,rfl⟩:u=u'∧l=l':=by grind
  have e:mW L x=(i:Int):=by unfold mW;rw[h]
  rw[e]at c107;have i1:((i:Int)<0)=False:=AAb;have i2:((i:Int)<(L.length:Int))=True:=AAa;have g1:=kK r hi (j:=1) AT;have g2:=kK r hi (j:=2) AT;rw[hr]at g1 g2;have g1:(cE F L.length)[i*3+1]?=some (I u):=g1;have g2:(cE F L.length)[i*3+2]?=some (I l):=g2;have w1:IntKind.i64.wrap (n-l)=n-l:=aF AT AT;have e3:(i*3+1+1≤L.length*3)=True:=AAa;have e4:(i*3+2+1≤L.length*3)=True:=AAa;have r1:=aAe (i:=i) (j:=1) (v:=I (u+(n-l+100000)%100000)) r rfl;have s1:=aAU r hi (j:=1) AT (v:=I (u+(n-l+100000)%100000)) rfl;have s2:=aAU r1 hi (j:=2) AT (v:=I n) rfl;have l1:=fJ r1 L.length;have k1:=eE (n:=L.length) r1;have h1:=eE (n:=L.length) (aAe (i:=i) (j:=2) (v:=I n) r1 rfl);unfold hC;rw[rq 113 aHy rfl];unfold aHy;dsimp only;clear hF hr e';generalize cE (nL (nL F i 1 (I (u+(n-l+100000)%100000))) i 2 (I n)) L.length=C2 at *;generalize cE (nL F i 1 (I (u+(n-l+100000)%100000))) L.length=C1 at *;generalize cE F L.length=CM at *;rcases oC (n-l<0)with hl|hl
  ·have hl':=AAl hl
   have w2:IntKind.i64.wrap (n-l+100000)=n-l+100000:=aF AT AT;have em:(n-l+100000)%100000=n-l+100000:=AT
   rw[em]at s1;have w3:IntKind.i64.wrap (u+(n-l+100000))=u+(n-l+100000):=aF AT AT;(exact rA c107 i1 i2 g1 g2 w1 w2 w3 hl e3 e4 s1 s2 l1 ln sF sT m1 sP sB k1 h1 aE aE aE aE)
  ·have hl':=AAm hl
   have em:(n-l+100000)%100000=n-l:=AT
   rw[em]at s1;have w3:IntKind.i64.wrap (u+(n-l))=u+(n-l):=aF AT AT;(exact rA c107 i1 i2 g1 g2 w1 w3 hl e3 e4 s1 s2 l1 ln sF sT m1 sP sB k1 h1 aE aE aE aE aE)
theorem a114(sF:Sm CF)(sT:Sm CT)(sM:Sm CM)(sB:Sm CB)(hb:L.length≤1000)(r:Rw F 3)(hF:∀ i y,L[i]?=some y→∃ u:Int,F i=[.str y,I u,I 0]∧0≤u∧u≤1000000000){a b:Int}(ha:0≤a∧a≤99999)(hb2:0≤b∧b≤99999) :
 (¬b≤a→runW progG 114 [.pt 0 0,.str x,I a,I b] (hC nF nT nM L.length nB CF CT CM (cE F L.length) CB)=some (I 10,hC nF nT nM L.length nB CF CT CM (cE F L.length) CB)) ∧
 (b≤a→bK L x=none→L.length=5→runW progG 114 [.pt 0 0,.str x,I a,I b] (hC nF nT nM L.length nB CF CT CM (cE F L.length) CB)=some (I 15,hC nF nT nM L.length nB CF CT CM (cE F L.length) CB)) ∧
 (b≤a→bK L x=none→L.length≠5→runW progG 114 [.pt 0 0,.str x,I a,I b] (hC nF nT nM L.length nB CF CT CM (cE F L.length) CB)=some (I 0,[ab [.bool true,.sl 1 0 1 nF,.sl 2 0 6 nT,.sl 3 0 3 nM,.sl 6 0 3 (L.length+1),.sl 5 0 1 nB],aa CF,aa CT,aa CM,none,aa CB,aa (cE F L.length++[.str x,I (a-b),I 0])])) ∧
 (b≤a→∀ i,bK L x=some i→∀ u:Int,F i=[.str x,I u,I 0]→runW progG 114 [.pt 0 0,.str x,I a,I b] (hC nF nT nM L.length nB CF CT CM (cE F L.length) CB)=some (I 0,hC nF nT nM L.length nB CF CT CM (cE (nL F i 1 (I (u+(a-b)))) L.length) CB)):=by
 have p1:=eE (n:=L.length) r;have ln:=fJ r L.length;have c107:=aVL (x:=x) (L:=L) (F:=F) hb r fun i y h=>by grind
 have iv:((-1:Int)<0)=True:=AAa;have wd:IntKind.i64.wrap (a-b)=a-b:=aF AT AT;refine⟨fun hab=>?_,fun hab h h5=>?_,fun hab h h5=>?_,fun hab i h u hr=>?_⟩
 ·have o1:(a<b)=True:=AAa
  unfold hC;rw[rq 114 aEF rfl];unfold aEF;dsimp only;generalize cE F L.length=CP at *;(exact mK o1 sF sT sM p1 sB aE)
 ·have o1:(a<b)=False:=AAb
  have e:mW L x = -1:=by unfold mW;rw[h]
  have e5:((L.length:Int)=5)=True:=AAa;rw[e]at c107;unfold hC;rw[rq 114 aEF rfl];unfold aEF;dsimp only;generalize cE F L.length=CP at *;(exact jE o1 c107 iv e5 ln sF sT sM p1 sB)
 ·have o1:(a<b)=False:=AAb
  have e:mW L x = -1:=by unfold mW;rw[h]
  have e5:((L.length:Int)=5)=False:=AAb;rw[e]at c107;have g1:((L.length+1)*32≤1099511627776)=True:=AAa;have g2:(L.length+1≤1099511627776)=True:=AAa;have w1:IntKind.i64.wrap (((L.length+1:Nat):Int)-1)=(L.length:Int):=by grind [aF]
  have w2:IntKind.i64.wrap (0+(a-b))=a-b:=by grind
  have i2:((L.length:Int)<((L.length+1:Nat):Int))=True:=AAa;have gt:(cE F L.length++[.str x,I 0,I 0])[L.length*3+1]?=some (I 0):=by
   grind
  have st:bJ (cE F L.length++[.str x,I 0,I 0]) (L.length*3+1) [I (a-b)]=cE F L.length++[.str x,I (a-b),I 0]:=by
   grind [aSK]
  have l2:(cE F L.length++[.str x,I 0,I 0]).length=L.length*3+3:=by grind
  have e4:(L.length*3+1+1≤L.length*3+3)=True:=AAa;unfold hC;rw[rq 114 aEF rfl];unfold aEF;dsimp only;generalize cE F L.length=CP at *;(exact fN o1 c107 iv e5 ln g1 g2 w1 w2 wd i2 gt st l2 e4 sF sT sM p1 sB)
 ·have o1:(a<b)=False:=AAb
  obtain⟨hi,hx⟩:=aDL h;obtain⟨u',e',q1,q2⟩:=hF i x hx;rw[hr]at e';obtain rfl:u=u':=by grind
  have e:mW L x=(i:Int):=by unfold mW;rw[h]
  rw[e]at c107;have i1:((i:Int)<0)=False:=AAb;have i2:((i:Int)<(L.length:Int))=True:=AAa;have g1:=kK r hi (j:=1) AT;rw[hr]at g1;have g1:(cE F L.length)[i*3+1]?=some (I u):=g1;have w3:IntKind.i64.wrap (u+(a-b))=u+(a-b):=aF AT AT;have e3:(i*3+1+1≤L.length*3)=True:=AAa;have s1:=aAU r hi (j:=1) AT (v:=I (u+(a-b))) rfl;have k1:=eE (n:=L.length) (aAe (i:=i) (j:=1) (v:=I (u+(a-b))) r rfl);unfold hC;rw[rq 114 aEF rfl];unfold aEF;dsimp only;clear hF hr e';generalize cE (nL F i 1 (I (u+(a-b)))) L.length=C1 at *;generalize cE F L.length=CP at *;(exact fN o1 c107 i1 i2 g1 wd w3 e3 s1 ln sF sT sM p1 sB k1 aE aE aE aE)
end
section
variable{x y u1 u2:ByteArray}{nM nP nB:Nat}{CM CP CB:List AV}{L TW:List ByteArray}{F:Nat→List AV}{z0 z1 a b:Int}
abbrev wgW(x u1 u2 y:ByteArray):AV:=.fs [[.str AAu],[.str x],[.str u1],[.str u2],[.str y]]
abbrev wgN(z0 a b z1:Int):AV:=.fs [[I 0],[I z0],[I a],[I b],[I z1]]
theorem aOO(sM:Sm CM)(sP:Sm CP)(sB:Sm CB)(hT:TW.length≤1000)(r:Rw F 6)(hF:∀ i w,TW[i]?=some w→∃(e n f:Int)(v c:Bool),F i=[.str w,I e,I n,I f,.bool v,.bool c]∧0≤e∧e≤99999){m f:Nat}(k2:∀ i,i<m→∀ w,TW[i]?=some w→aN .eql w x=some (.bool false))(hm:m≤TW.length) :
 ∀ i,i<m→cC 6 [0,1,2,7,8] (execW progG 110 6 none (match aBf with | .loop _ a=>a|c=>c) (bB [0,1,2,7,8] [.pt 0 0,wgW x u1 u2 y,wgN z0 a b z1,I (f:Nat),I (i:Nat)]) (hC L.length TW.length nM nP nB (cO L) (cE F TW.length) CM CP CB))=some ([.pt 0 0,wgW x u1 u2 y,wgN z0 a b z1,I (f:Nat),I (i+1:Nat)],hC L.length TW.length nM nP nB (cO L) (cE F TW.length) CM CP CB):=by
 intro i hi;obtain⟨w,hw⟩:=dD (l:=TW) (i:=i) AT;obtain⟨e1,n1,q1,v1,c1,q2,q3,q4⟩:=hF i w hw;have g0:=kK r (n:=TW.length) (i:=i) AT (j:=0) AT;rw[q2]at g0;have g0:(cE F TW.length)[i*6]?=some (.str w):=g0;have e:=k2 i hi w hw;have i1:((i:Int)<(TW.length:Int))=True:=AAa;have up:=dU (i:=i) (n:=2000) AT AT;have f1:=yO L;have t1:=eE (n:=TW.length) r;have ln:=fJ r TW.length;clear hF q2 k2;unfold hC aBf;dsimp only;generalize cE F TW.length=CT at *;generalize cO L=CF at *;(exact jE i1 g0 e up ln f1 t1 sM sP sB)
theorem a110(sM:Sm CM)(sP:Sm CP)(sB:Sm CB)(hL:L.length≤1000)(hT:TW.length≤1000)(r:Rw F 6)(hF:∀ i w,TW[i]?=some w→∃(e n f:Int)(v c:Bool),F i=[.str w,I e,I n,I f,.bool v,.bool c]∧0≤e∧e≤99999)(ha:0≤a∧a≤99999)(hb:0≤b∧b≤99999) :
 (bK L y=none→runW progG 110 [.pt 0 0,wgW x u1 u2 y,wgN z0 a b z1] (hC L.length TW.length nM nP nB (cO L) (cE F TW.length) CM CP CB)=some (I 5,hC L.length TW.length nM nP nB (cO L) (cE F TW.length) CM CP CB)) ∧
 (∀ f,bK L y=some f→¬b≤a→runW progG 110 [.pt 0 0,wgW x u1 u2 y,wgN z0 a b z1] (hC L.length TW.length nM nP nB (cO L) (cE F TW.length) CM CP CB)=some (I 10,hC L.length TW.length nM nP nB (cO L) (cE F TW.length) CM CP CB)) ∧
 (∀ f,bK L y=some f→b≤a→∀ i,bK TW x=some i→∀(e n g:Int)(v c:Bool),F i=[.str x,I e,I n,I g,.bool v,.bool c]→¬(e-500≤b∧b≤e+500)→runW progG 110 [.pt 0 0,wgW x u1 u2 y,wgN z0 a b z1] (hC L.length TW.length nM nP nB (cO L) (cE F TW.length) CM CP CB)=some (I 22,hC L.length TW.length nM nP nB (cO L) (cE F TW.length) CM CP CB)) ∧
 (∀ f,bK L y=some f→b≤a→(∀ i,bK TW x=some i→∃(e n g:Int)(v c:Bool),F i=[.str x,I e,I n,I g,.bool v,.bool c]∧(e-500≤b∧b≤e+500))→runW progG 110 [.pt 0 0,wgW x u1 u2 y,wgN z0 a b z1] (hC L.length TW.length nM nP nB (cO L) (cE F TW.length) CM CP CB) =
  some (I 0,[ab [.bool true,.sl 1 0 1 L.length,.sl 6 0 6 (TW.length+1),.sl 3 0 3 nM,.sl 4 0 3 nP,.sl 5 0 1 nB],aa (cO L),none,aa CM,aa CP,aa CB,aa (cE F TW.length++[.str x,I b,I (a-b),I (f:Nat),.bool false,.bool false])])):=by
 have c108:=aVI (x:=y) (nT:=TW.length) (nM:=nM) (nP:=nP) (nB:=nB) (L:=L) hL (eE (n:=TW.length) r) sM sP sB;unfold hC at c108;have sMM:=sM;have sPP:=sP;have sBB:=sB;have f1:=yO L;have t1:=eE (n:=TW.length) r;have ln:=fJ r TW.length;have iv:((-1:Int)<0)=True:=AAa;have iF:∀ f:Nat,((f:Int)<0)=False:=fun f=>AAb;unfold hC;refine⟨fun h=>?_,fun f h hab=>?_,fun f h hab i hi e n g v c hr hbd=>?_,fun f h hab hw=>?_⟩
 ·have e:mW L y = -1:=by unfold mW;rw[h]
  rw[e]at c108;rw[rq 110 aCe rfl];unfold aCe;dsimp only;generalize cE F TW.length=CT at *;generalize cO L=CF at *;(exact mK c108 iv f1 t1 sM sP sB)
 ·have e:mW L y=(f:Int):=by unfold mW;rw[h]
  rw[e]at c108;have o1:(a<b)=True:=AAa;have iv:=iF f;rw[rq 110 aCe rfl];unfold aCe;dsimp only;generalize cE F TW.length=CT at *;generalize cO L=CF at *;(exact vA c108 iv o1 f1 t1 sM sP sB aE)
 ·have e':mW L y=(f:Int):=by unfold mW;rw[h]
  rw[e']at c108;have o1:(a<b)=False:=AAb;have iv:=iF f;obtain⟨k,k1,k2,k3⟩:=aMa TW x;have hk:mW TW x=(i:Int):=by unfold mW;rw[hi]
  rcases k3 with ⟨k3,k4⟩|⟨k3,k4,k5,k6⟩;·rw[hk]at k4;omega
  obtain rfl:k=i:=by rw[hk]at k6;omega
  have g0:=kK r k3 (j:=0) AT;have g1:=kK r k3 (j:=1) AT;rw[hr]at g0 g1;have g0:(cE F TW.length)[k*6]?=some (.str x):=g0;have g1:(cE F TW.length)[k*6+1]?=some (I e):=g1;obtain⟨e1,n1,q1,v1,c1,q2,q3,q4⟩:=hF k x k4;rw[hr]at q2;obtain rfl:e=e1:=by simp at q2;exact q2.1
  have w1:IntKind.i64.wrap (e-500)=e-500:=aF AT AT;have w2:IntKind.i64.wrap (e+500)=e+500:=aF AT AT;have c39:=a39 b (e-500) (e+500);rw[show (decide (e-500≤b)&&decide (b≤e+500))=false by
   rw[Bool.and_eq_false_iff];by_cases hq:e-500≤b;·exact .inr (AAk fun h=>hbd ⟨hq,h⟩)
   ·exact .inl (AAk hq)]at c39
  have i1:((k:Int)<(TW.length:Int))=True:=AAa;have rd:=aOO (x:=x) (u1:=u1) (u2:=u2) (y:=y) (z0:=z0) (z1:=z1) (a:=a) (b:=b) (L:=L) (nM:=nM) (nP:=nP) (nB:=nB) (f:=f) sMM sPP sBB hT r hF k2 AT;rw[rq 110 aCe rfl];unfold aCe;dsimp only;clear hF hr q2;generalize cE F TW.length=CT at *;generalize cO L=CF at *;sym =>
   simp[Za,Zb,Zc,Zd,Ze,Zf,Zg,Zh,Zi,Zj,Zl,Zm,Zo,Zv,Z0,Z8,Z9,ZA,ZD,ZF,ZH,ZR,ZV,ZW,ZX,ZY,ZZ,Yb,Yc,Ye,Yh,Yi,Yj,Ym,Yn,Yq,Ys,Yv,Yy,Yz,Y4,Y6,Y7,YG,YJ,YL,YM,YR,YT,YV,YY,Xa,Xd,Xt,Xw,Xx,Xy,Xz,XL,XM,XN,We,Wf,Wg,Wh,Wj,Wr,Wt,Wu,Wx,Wy,Wz,WB,WJ,WY,Vd,Vf,Vm,Vo,Vp,Vr,Vx,Vy,V0,V1,V2,V3,V4,V5,V6,V7,V8,V9,VA,VB,VC,VE,VF,VG,VH,VJ,VK,VL,VM,VN,VO,VP,VQ,VR,VS,VT,VU,VV,VW,VX,VY,Ua,Ub,Uc,Ud,Uf,Ug,Uh,Ui,Uj,Ul,Um,Ut,Uv,Uw,Ux,UD,UE,UG,UH,UI,UJ,UK,UN,UO,UP,UQ,US,UT,UU,UV,UW,UX,UY,UZ,Ta,Tb,Tc,Td,Te,Tf,Tg,Th,Ti,Tj,Tl,Tp,Ts,Tu,Tv,Tw,Tx,Ty,Tz,T4,T5,T6,T7,T8,T9,TA,TB,TC,TD,TE,TF,TK,TL,TM,TN,TO,TP,TY,TZ,Sa,Sc,Sj,Sk,Sl,Sp,Sq,Sr,Ss,Su,Sv,Sw,Sy,Sz,S3,S6,S7,S8,S9,SD,SE,SF,SG,SI,SJ,SK,SL,SN,SO,SQ,SS,SU,SV,SW,R0,RC,RR,Qt,Qw,Qx,QS,QU,QW,QX,QY,QZ,Pu,Pv,Pw,Px,Py,c108,iv,o1,f1,t1,sM,sP,sB]
   tactic =>
    unfold aBf;rw[aJ k (fun i=>[.pt 0 0,wgW x u1 u2 y,wgN z0 a b z1,I (f:Nat),I (i:Nat)]) (fun _=>[ab [.bool true,.sl 1 0 1 L.length,.sl 2 0 6 TW.length,.sl 3 0 3 nM,.sl 4 0 3 nP,.sl 5 0 1 nB],aa CF,aa CT,aa CM,aa CP,aa CB])];·(exact gF i1 g0 g1 k5 w1 w2 c39 ln f1 t1 sM sP sB)
    ·(exact uJ f1 t1 sM sP sB)
    ·exact rd
    ·(exact gF i1 g0 g1 k5 w1 w2 c39 ln f1 t1 sM sP sB)
 ·have e':mW L y=(f:Int):=by unfold mW;rw[h]
  rw[e']at c108;have o1:(a<b)=False:=AAb;have iv:=iF f;have wd:IntKind.i64.wrap (a-b)=a-b:=aF AT AT;have G1:((TW.length+1)*48≤1099511627776)=True:=AAa;have G2:(TW.length+1≤1099511627776)=True:=AAa;have e0:((TW.length:Int)<(TW.length:Int))=False:=AAb;obtain⟨k,k1,k2,k3⟩:=aMa TW x;have rd:=aOO (x:=x) (u1:=u1) (u2:=u2) (y:=y) (z0:=z0) (z1:=z1) (a:=a) (b:=b) (L:=L) (nM:=nM) (nP:=nP) (nB:=nB) (f:=f) sMM sPP sBB hT r hF k2 k1;rcases k3 with ⟨k3,k4⟩|⟨k3,k4,k5,k6⟩
  ·rw[rq 110 aCe rfl];unfold aCe;dsimp only
   clear hF hw;generalize cE F TW.length=CT at *;generalize cO L=CF at *;rw[k3]at rd;sym =>
    simp[Za,Zb,Zc,Zd,Ze,Zf,Zg,Zh,Zi,Zj,Zl,Zm,Zo,Zv,Z0,Z8,Z9,ZA,ZD,ZF,ZH,ZR,ZV,ZW,ZX,ZY,ZZ,Yb,Yc,Ye,Yh,Yi,Yj,Ym,Yn,Yq,Ys,Yv,Yy,Yz,Y4,Y6,Y7,YG,YJ,YL,YM,YR,YT,YV,YY,Xa,Xd,Xt,Xw,Xx,Xy,Xz,XL,XM,XN,We,Wf,Wg,Wh,Wj,Wr,Wt,Wu,Wx,Wy,Wz,WB,WJ,WY,Vd,Vf,Vm,Vo,Vp,Vr,Vx,Vy,V0,V1,V2,V3,V4,V5,V6,V7,V8,V9,VA,VB,VC,VE,VF,VG,VH,VJ,VK,VL,VM,VN,VO,VP,VQ,VR,VS,VT,VU,VV,VW,VX,VY,Ua,Ub,Uc,Ud,Uf,Ug,Uh,Ui,Uj,Ul,Um,Ut,Uv,Uw,Ux,UD,UE,UG,UH,UI,UJ,UK,UN,UO,UP,UQ,US,UT,UU,UV,UW,UX,UY,UZ,Ta,Tb,Tc,Td,Te,Tf,Tg,Th,Ti,Tj,Tl,Tp,Ts,Tu,Tv,Tw,Tx,Ty,Tz,T4,T5,T6,T7,T8,T9,TA,TB,TC,TD,TE,TF,TK,TL,TM,TN,TO,TP,TY,TZ,Sa,Sc,Sj,Sk,Sl,Sp,Sq,Sr,Ss,Su,Sv,Sw,Sy,Sz,S3,S6,S7,S8,S9,SD,SE,SF,SG,SI,SJ,SK,SL,SN,SO,SQ,SS,SU,SV,SW,R0,RC,RR,Qt,Qw,Qx,QS,QU,QW,QX,QY,QZ,Pu,Pv,Pw,Px,Py,c108,iv,o1,f1,t1,sM,sP,sB]
    tactic =>
     unfold aBf;rw[aJ TW.length (fun i=>[.pt 0 0,wgW x u1 u2 y,wgN z0 a b z1,I (f:Nat),I (i:Nat)]) (fun _=>[ab [.bool true,.sl 1 0 1 L.length,.sl 2 0 6 TW.length,.sl 3 0 3 nM,.sl 4 0 3 nP,.sl 5 0 1 nB],aa CF,aa CT,aa CM,aa CP,aa CB])];·(exact jE e0 wd G1 G2 ln f1 t1 sM sP sB)
     ·(exact uJ f1 t1 sM sP sB)
     ·exact rd
     ·(exact mK e0 ln f1 t1 sM sP sB)
  ·obtain⟨e,n,g,v,c,hr,hbd⟩:=hw k (by
    unfold mW at k6;cases hq:bK TW x with
    | none =>
      rw[hq]at k6;have k6:(-1:Int)=(k:Int):=k6;omega
    | some j =>
      rw[hq]at k6;have k6:(j:Int)=(k:Int):=k6;exact AAs some AT)
   have g0:=kK r k3 (j:=0) AT;have g1:=kK r k3 (j:=1) AT;rw[hr]at g0 g1;have g0:(cE F TW.length)[k*6]?=some (.str x):=g0;have g1:(cE F TW.length)[k*6+1]?=some (I e):=g1;obtain⟨e1,n1,q1,v1,c1,q2,q3,q4⟩:=hF k x k4;rw[hr]at q2;obtain rfl:e=e1:=by simp at q2;exact q2.1
   have w1:IntKind.i64.wrap (e-500)=e-500:=aF AT AT;have w2:IntKind.i64.wrap (e+500)=e+500:=aF AT AT;have c39:=a39 b (e-500) (e+500);rw[show (decide (e-500≤b)&&decide (b≤e+500))=true by rw[AAj hbd.1,AAj hbd.2];rfl]at c39;have i1:((k:Int)<(TW.length:Int))=True:=AAa;rw[rq 110 aCe rfl];unfold aCe;dsimp only;clear hF hr q2 hw;generalize cE F TW.length=CT at *;generalize cO L=CF at *;sym =>
    simp[Za,Zb,Zc,Zd,Ze,Zf,Zg,Zh,Zi,Zj,Zl,Zm,Zo,Zv,Z0,Z8,Z9,ZA,ZD,ZF,ZH,ZR,ZV,ZW,ZX,ZY,ZZ,Yb,Yc,Ye,Yh,Yi,Yj,Ym,Yn,Yq,Ys,Yv,Yy,Yz,Y4,Y6,Y7,YG,YJ,YL,YM,YR,YT,YV,YY,Xa,Xd,Xt,Xw,Xx,Xy,Xz,XL,XM,XN,We,Wf,Wg,Wh,Wj,Wr,Wt,Wu,Wx,Wy,Wz,WB,WJ,WY,Vd,Vf,Vm,Vo,Vp,Vr,Vx,Vy,V0,V1,V2,V3,V4,V5,V6,V7,V8,V9,VA,VB,VC,VE,VF,VG,VH,VJ,VK,VL,VM,VN,VO,VP,VQ,VR,VS,VT,VU,VV,VW,VX,VY,Ua,Ub,Uc,Ud,Uf,Ug,Uh,Ui,Uj,Ul,Um,Ut,Uv,Uw,Ux,UD,UE,UG,UH,UI,UJ,UK,UN,UO,UP,UQ,US,UT,UU,UV,UW,UX,UY,UZ,Ta,Tb,Tc,Td,Te,Tf,Tg,Th,Ti,Tj,Tl,Tp,Ts,Tu,Tv,Tw,Tx,Ty,Tz,T4,T5,T6,T7,T8,T9,TA,TB,TC,TD,TE,TF,TK,TL,TM,TN,TO,TP,TY,TZ,Sa,Sc,Sj,Sk,Sl,Sp,Sq,Sr,Ss,Su,Sv,Sw,Sy,Sz,S3,S6,S7,S8,S9,SD,SE,SF,SG,SI,SJ,SK,SL,SN,SO,SQ,SS,SU,SV,SW,R0,RC,RR,Qt,Qw,Qx,QS,QU,QW,QX,QY,QZ,Pu,Pv,Pw,Px,Py,c108,iv,o1,f1,t1,sM,sP,sB]
    tactic =>
     unfold aBf;rw[aJ k (fun i=>[.pt 0 0,wgW x u1 u2 y,wgN z0 a b z1,I (f:Nat),I (i:Nat)]) (fun _=>[ab [.bool true,.sl 1 0 1 L.length,.sl 2 0 6 TW.length,.sl 3 0 3 nM,.sl 4 0 3 nP,.sl 5 0 1 nB],aa CF,aa CT,aa CM,aa CP,aa CB])];·(exact fN i1 g0 g1 k5 w1 w2 c39 wd G1 G2 ln f1 t1 sM sP sB aE aE aE aE)
     ·(exact uJ f1 t1 sM sP sB)
     ·exact rd
     ·(exact gF i1 g0 g1 k5 w1 w2 c39 ln f1 t1 sM sP sB)
end
section
variable{s:CSt}{E:Nat→Int}{x:ByteArray}
theorem aJA(l:List ByteArray):(rS l).flatten=cO l∧(rS l).all (fun r=>r.length==1)=true:=by
 constructor
 ·unfold rS cO
  induction l with
  | nil=>rfl
  | cons a l ih=>grind
 simp[rS]
def cpH(s:CSt)(E:Nat→Int):XH:=[ab [.bool true,.sl 2 0 1 s.farmers.length,.sl 3 0 6 s.tickets.length,.sl 4 0 3 s.meters.length,.sl 5 0 3 s.pans.length,.sl 6 0 1 s.book.length],
 (aa (cO (fD s))),aa (cE (gL s E) s.tickets.length),aa (cE (mU s) s.meters.length),aa (cE (mQ s) s.pans.length),aa (cO s.book)]
theorem a67(hF:s.farmers.length≤1000)(hT:s.tickets.length≤1000)(hM:s.meters.length≤1000)(hP:s.pans.length≤1000)(hB:s.book.length≤1000):runW progG 67 [.pt 0 0] [rC s E]=some (.pt 1 0,rC s E::cpH s E):=by
 obtain⟨f1,f2⟩:=aJA (fD s);obtain⟨b1,b2⟩:=aJA s.book;have fl:(rS (fD s)).length=s.farmers.length:=by rw[eX];unfold fD;grind
 have bl:=eX s.book;have t1:=aJo (F:=gL s E) (n:=s.tickets.length);have t2:=aCt (n:=s.tickets.length) (nE (s:=s) (E:=E));have tl:(fE (gL s E) s.tickets.length).length=s.tickets.length:=nO;have m1:=aJo (F:=mU s) (n:=s.meters.length);have m2:=aCt (n:=s.meters.length) (uS (s:=s));have ml:(fE (mU s) s.meters.length).length=s.meters.length:=nO;have p1:=aJo (F:=mQ s) (n:=s.pans.length);have p2:=aCt (n:=s.pans.length) (uP (s:=s));have pl:(fE (mQ s) s.pans.length).length=s.pans.length:=nO;have g1:(s.farmers.length*16≤1099511627776)=True:=AAa;have g2:(s.farmers.length≤1099511627776)=True:=AAa;have g3:(s.tickets.length*48≤1099511627776)=True:=AAa;have g4:(s.tickets.length≤1099511627776)=True:=AAa;have g5:(s.meters.length*32≤1099511627776)=True:=AAa;have g6:(s.meters.length≤1099511627776)=True:=AAa;have g7:(s.pans.length*32≤1099511627776)=True:=AAa;have g8:(s.pans.length≤1099511627776)=True:=AAa;have g9:(s.book.length*16≤1099511627776)=True:=AAa;have ga:(s.book.length≤1099511627776)=True:=AAa;have u1:=yO (fD s);have v1:=eE (n:=s.tickets.length) (nE (s:=s) (E:=E));have w1:=eE (n:=s.meters.length) (uS (s:=s));have x1:=eE (n:=s.pans.length) (uP (s:=s));have y1:=yO s.book;unfold rC cpH;rw[rq 67 x67 rfl];unfold x67;dsimp only;generalize fE (gL s E) s.tickets.length=RT at *;generalize fE (mU s) s.meters.length=RM at *;generalize fE (mQ s) s.pans.length=RP at *;generalize rS s.book=RB at *;generalize rS (fD s)=RF at *;generalize cE (gL s E) s.tickets.length=CT at *;generalize cE (mU s) s.meters.length=CM at *;generalize cE (mQ s) s.pans.length=CP at *;generalize cO s.book=CB at *;generalize cO (fD s)=CF at *;(sym=>(simp[Za,Zb,Zd,Ze,Zf,Zh,Zi,Zl,Zm,Zo,Zv,Zz,Z0,Z8,Z9,ZF,ZW,ZY,Yb,Ys,Xt,Xw,Xy,XM,XN,We,Wf,Wg,Wh,Wj,Wt,Wy,Wz,WJ,Vf,Vn,Vp,Vr,Vx,V0,V1,V2,V3,V4,V6,V7,V8,V9,VA,VB,VE,VF,VH,VJ,VK,VM,VO,VP,VQ,VR,VW,VX,VY,Ub,Uc,Ud,Ut,UD,UE,UG,UH,UI,UJ,UK,UN,UO,UP,UQ,US,Tb,Tc,Td,Te,Tf,Tg,Th,Ti,Tj,Tl,Tp,Ts,Tu,Tw,Tz,T4,T6,T7,T8,T9,TA,TB,TC,TD,TE,TF,TK,TL,TM,TN,TO,TP,TV,TX,TY,TZ,Sa,Si,Sl,Sp,Sq,Ss,Su,Sy,S6,S7,S8,S9,SA,SF,SG,SL,SV,SW,R0,Qt,Qw,Qx,f1,f2,b1,b2,fl,bl,t1,t2,tl,m1,m2,ml,p1,p2,pl,g1,g2,g3,g4,g5,g6,g7,g8,g9,ga,u1,v1,w1,x1,y1];all_goals tactic=>exact rfl))
theorem bFp:runW progG 67 [.pt 0 0] [rN]=some (.pt 1 0,rN::cpH cA E):=by
 unfold rN cpH;rw[rq 67 x67 rfl];unfold x67;dsimp only;have e1:cO (fD cA)=[]:=rfl;have e2:cE (gL cA E) (CSt.tickets cA).length=[]:=rfl;have e3:cE (mU cA) (CSt.meters cA).length=[]:=rfl;have e4:cE (mQ cA) (CSt.pans cA).length=[]:=rfl;have e5:cO (CSt.book cA)=[]:=rfl;have n1:(CSt.farmers cA).length=0:=rfl;have n2:(CSt.tickets cA).length=0:=rfl;have n3:(CSt.meters cA).length=0:=rfl;have n4:(CSt.pans cA).length=0:=rfl;have n5:(CSt.book cA).length=0:=rfl;rw[e1,e2,e3,e4,e5,n1,n2,n3,n4,n5];(exact yC)
end
end
end Go.Proofs.YtmapgnepfgnphaaGreatDoor
