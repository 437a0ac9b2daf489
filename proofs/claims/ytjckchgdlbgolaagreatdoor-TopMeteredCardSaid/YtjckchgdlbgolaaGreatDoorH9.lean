/- Parts of a proof, joined: Q29 Q30 Q31 Q32 U5 Q33 Q34 Q35 K13 Q36 Q37 Q38 Q39 Q40 Q41 Q42 Q43 R1 R2 R3 R4 R5 R6 R7 R8 R9 R10 R11 N0 N1 N2 N3 N20 M2 N10 N11 N12 N21 N22 M3 LB LC M4 M6 RG1 RG2 RG3 RG4 RG5 RG6 RG7 RG8 RG9 M5 M7 M1 M11 M12 TA TB TC TD. No statement of the seed is proved here. -/
import Derived.Lib.AtoiAllCases
import Derived.KernelRfl
import Derived.Test.YtjckchgdlbgolaaGreatDoorH8
set_option linter.unusedSimpArgs false
set_option linter.unusedVariables false
set_option linter.unusedSectionVars false
set_option maxRecDepth 100000
set_option maxHeartbeats 4000000
namespace Go.Proofs.YtjckchgdlbgolaaGreatDoor
open Go Go.DL
variable{s:dU}{x line:ByteArray}{w:Wd}{v:AV}
theorem pY{α:Type}{f:α→α}{z:α}:∀{l:List (ByteArray×α)}{p:ByteArray×α},p∈oG f z x l→p∈l∨p=(x,z)∨∃ y,(x,y)∈l∧p=(x,f y)
 | [],p,h=>.inr (.inl (by grind [oG]))
 | (k, y)::r,p,h=>by
   unfold oG at h;split at h
   ·rename_i hk
    rcases B5.1 h with h|h;·exact .inr (.inr ⟨y,by rw[←hk];simp,by rw[h,hk]⟩)
    ·exact .inl (E7 _ h)
   ·rcases B5.1 h with h|h
    ·exact .inl (by rw[h];simp)
    ·rcases pY h with h|h|⟨y',h1,h2⟩
     ·exact .inl (E7 _ h)
     ·exact .inr (.inl h)
     ·exact .inr (.inr ⟨y',E7 _ h1,h2⟩)
theorem aAb{α:Type}{f:α→α}{z:α}:∀(l:List (ByteArray×α)),(oG f z x l).length=if (gS l x).isNone then l.length+1 else l.length
 | []=>rfl
 | (k, y)::r=>by
   have ih:=aAb (f:=f) (z:=z) r;have e:gS ((k,y)::r) x=if k=x then some y else gS r x:=by
    unfold gS;show (if k=x then some 0 else (dV (r.map (·.1)) x).map (· + 1)).bind _=_;by_cases hk:k=x;·grind
    ·rw[if_neg hk,if_neg hk]
     cases dV (r.map (·.1)) x<;>rfl
   grind [oG]
theorem lQ{d:Int}:∀(l:List (ByteArray×Int)),iY l x d=oG (· + d) d x l
 | []=>rfl
 | (k,y)::r=>by unfold iY oG;rw[lQ r]
theorem aFf{α:Type}{f:α→α}{z y:α}{l:List (ByteArray×α)}(h:gS l x=some y):(oG f z x l).map (·.1)=l.map (·.1):=by
 obtain⟨i,h1,h2⟩:=eG h;rw[pX h1 h2];exact mU (hO h1) rfl
theorem aHe{d:Int}:∀{l:List (ByteArray×Int)}{p:ByteArray×Int},(l.map (·.1)).Nodup→x∈l.map (·.1)→p∈iY l x d→∃ y,(p.1,y)∈l∧p.2=y+if p.1=x then d else 0
 | [],p,_,hx,_=>by cases hx
 | (k, y)::r,p,nd,hx,h=>by
   rw[F8,N4]at nd;unfold iY at h;split at h;·grind
   ·rename_i hk
    rcases B5.1 h with h|h;·exact⟨y,by rw[h];simp,by rw[h];simp[hk]⟩
    ·have hx2:x∈r.map (·.1):=by
      rw[F8]at hx;rcases B5.1 hx with e|e;·exact absurd e.symm hk
      ·exact e
     obtain⟨y',h1,h2⟩:=aHe nd.2 hx2 h;exact⟨y',E7 _ h1,h2⟩
theorem aNF(l:List CTk)(k:CTk)(x:ByteArray):yU (l++[k]) x=yU l x+if k.farmer=x∧k.void=false then k.net else 0:=by
 simp[yU]
theorem aEM{x:ByteArray}:∀{l:List CTk},(∀ k∈l,k.farmer≠x)→yU l x=0
 | [],_=>rfl
 | k::r,h=>by
   have ih:=aEM (l:=r) fun k hk=>h k (E7 _ hk)
   simp_all [yU]
theorem aEL{x:ByteArray}:∀{l:List CTk}{i:Nat}{k:CTk},l[i]?=some k→k.void=false→yU (l.set i { k with void:=true }) x=yU l x-if k.farmer=x then k.net else 0
 | [],i,k,h,_=>by simp at h
 | k'::r,0,k,h,hv=>by
   rw[D4,oSI]at h;subst h;unfold yU
   grind
 | k'::r,i+1,k,h,hv=>by
   have ih:=aEL (x:=x) (l:=r) (i:=i) (by simpa using h) hv;unfold yU at ih ⊢;rw[aE8,F8,F8,aG2,aG2,ih];omega
theorem aIf{x:ByteArray}(gs:gH s)(hw:IsW (.farmer x) v)(hc:dZ s (.farmer x)=none)(hlt:s.book.length<300):gH { sS s (.farmer x)with book:=s.book++[line] }:=by
 have hl:(s.book++[line]).length=s.book.length+1:=by simp
 have bf':∀ p∈s.farmers,-(100000*(s.book.length+1:Nat):Int)≤p.2∧p.2≤100000*(s.book.length+1:Nat):=fun p hp=>by have:=gs.bf p hp;omega
 have bm':∀ p∈s.meters,0≤p.2.1∧p.2.1≤99999∧0≤p.2.2∧p.2.2≤100000*(s.book.length+1:Nat):=fun p hp=>by have:=gs.bm p hp;omega
 have bp':∀ p∈s.pans,0≤p.2∧p.2≤100000*(s.book.length+1:Nat):=fun p hp=>by have:=gs.bp p hp;omega
 have lw':=gs.lw;have lt':=gs.lt;unfold dZ at hc;dsimp only at hc;split at hc;·cases hc
 ·rename_i hs
  split at hc;·cases hc
  ·rename_i h9
   have hx:x∉s.farmers.map (·.1):=pV.1 (gJ.1 (aDt hs));have l9:=gs.lf;unfold sS;refine⟨by grind,?_,?_,gs.lm,gs.lp,by grind,by grind,gs.cl,fun p hp=>?_,by grind,by grind,gs.bw,fun k hk=>?_,fun p hp=>?_⟩
   ·show ((s.farmers++[(x,(0:Int))]).map (fun p=>p.1)).Nodup
    rw[N9,aF8];exact⟨gs.nf,by simp,fun a ha b hb=>by
     grind⟩
   ·grind
   ·grind
   ·obtain⟨a1,a2,a3,a4⟩:=gs.bt k hk
    grind
   ·rcases B7.1 hp with hp|hp
    ·exact gs.fs p hp
    ·rw[C6]at hp;rw[hp]
     exact(aEM (x:=x) fun k hk e=>hx (by rw[←e];exact(gs.bt k hk).2.2.1)).symm
theorem aJy{x y:ByteArray}{a b:Int}(gs:gH s)(hw:IsW (.wagon x y a b) v)(hc:dZ s (.wagon x y a b)=none)(hlt:s.book.length<300):gH { sS s (.wagon x y a b)with book:=s.book++[line] }:=by
 have hl:(s.book++[line]).length=s.book.length+1:=by simp
 have bf':∀ p∈s.farmers,-(100000*(s.book.length+1:Nat):Int)≤p.2∧p.2≤100000*(s.book.length+1:Nat):=fun p hp=>by have:=gs.bf p hp;omega
 have bm':∀ p∈s.meters,0≤p.2.1∧p.2.1≤99999∧0≤p.2.2∧p.2.2≤100000*(s.book.length+1:Nat):=fun p hp=>by have:=gs.bm p hp;omega
 have bp':∀ p∈s.pans,0≤p.2∧p.2≤100000*(s.book.length+1:Nat):=fun p hp=>by have:=gs.bp p hp;omega
 have lw':=gs.lw;have lt':=gs.lt;obtain⟨hb,_⟩:=hw;unfold dZ at hc;dsimp only at hc;split at hc;·cases hc
 ·rename_i f hf
  split at hc;·cases hc
  ·rename_i hle
   have hle:=O2.1 hle;have hkf:(iY s.farmers y (a-b)).map (·.1)=s.farmers.map (·.1):=by grind [lQ,aFf]
   have hlf:(iY s.farmers y (a-b)).length=s.farmers.length:=by
    have:=AAn List.length hkf
    grind
   unfold sS fN;refine⟨by grind,?_,?_,gs.lm,gs.lp,?_,?_,?_,fun p hp=>?_,by grind,by grind,fun p hp=>?_,fun k hk=>?_,fun p hp=>?_⟩
   ·show ((iY s.farmers y (a-b)).map (·.1)).Nodup
    rw[hkf];exact gs.nf
   ·show (iY s.farmers y (a-b)).length≤9
    rw[hlf];exact gs.lf
   ·grind [aAb]
   ·grind
   ·show s.closed≤(s.tickets++[_]).length
    have:=gs.cl
    grind
   ·rw[hl]
    have hp:p∈iY s.farmers y (a-b):=hp;rw[lQ]at hp;rcases pY hp with hp|hp|⟨q,hq,hp⟩;·grind
    ·grind
    ·have:=gs.bf _ hq
     grind
   ·rcases pY hp with hp|hp|⟨q,hq,hp⟩
    ·exact gs.bw p hp
    ·grind
    ·have:=gs.bw _ hq
     grind
   ·show _∧_∧k.farmer∈(iY s.farmers y (a-b)).map (·.1)∧_
    rw[hkf];rcases B7.1 hk with hk|hk;·exact gs.bt k hk
    grind [eG]
   ·obtain⟨i,h1,_⟩:=eG hf
    obtain⟨v0,e1,e2⟩:=aHe gs.nf (A5 (hO h1)) hp;have e3:=gs.fs _ e1;show p.2=yU (s.tickets++[_]) p.1;rw[aNF,e2]
    grind
theorem aPL{x:ByteArray}{a b:Int}(gs:gH s)(hw:IsW (.pan x a b) v)(hc:dZ s (.pan x a b)=none)(hlt:s.book.length<300):gH { sS s (.pan x a b)with book:=s.book++[line] }:=by
 have hl:(s.book++[line]).length=s.book.length+1:=by simp
 have bf':∀ p∈s.farmers,-(100000*(s.book.length+1:Nat):Int)≤p.2∧p.2≤100000*(s.book.length+1:Nat):=fun p hp=>by have:=gs.bf p hp;omega
 have bm':∀ p∈s.meters,0≤p.2.1∧p.2.1≤99999∧0≤p.2.2∧p.2.2≤100000*(s.book.length+1:Nat):=fun p hp=>by have:=gs.bm p hp;omega
 have bp':∀ p∈s.pans,0≤p.2∧p.2≤100000*(s.book.length+1:Nat):=fun p hp=>by have:=gs.bp p hp;omega
 have lw':=gs.lw;have lt':=gs.lt;obtain⟨hb,_⟩:=hw;unfold dZ at hc;dsimp only at hc;split at hc;·cases hc
 ·rename_i hle
  have hle:=O2.1 hle;split at hc;·cases hc
  ·rename_i hn
   have l5:=gs.lp;unfold sS;refine⟨by grind,gs.nf,gs.lf,gs.lm,?_,by grind,by grind,gs.cl,by grind,by grind,fun p hp=>?_,gs.bw,gs.bt,gs.fs⟩;·grind [lQ,aAb]
   ·rw[hl]
    have hp:p∈iY s.pans x (a-b):=hp;rw[lQ]at hp;rcases pY hp with hp|hp|⟨q,hq,hp⟩;·grind
    ·grind
    ·have:=gs.bp _ hq
     grind
theorem aMp{i:Nat}(gs:gH s)(hw:IsW (.void i) v)(hc:dZ s (.void i)=none)(hlt:s.book.length<300):gH { sS s (.void i)with book:=s.book++[line] }:=by
 have hl:(s.book++[line]).length=s.book.length+1:=by simp
 have bf':∀ p∈s.farmers,-(100000*(s.book.length+1:Nat):Int)≤p.2∧p.2≤100000*(s.book.length+1:Nat):=fun p hp=>by have:=gs.bf p hp;omega
 have bm':∀ p∈s.meters,0≤p.2.1∧p.2.1≤99999∧0≤p.2.2∧p.2.2≤100000*(s.book.length+1:Nat):=fun p hp=>by have:=gs.bm p hp;omega
 have bp':∀ p∈s.pans,0≤p.2∧p.2≤100000*(s.book.length+1:Nat):=fun p hp=>by have:=gs.bp p hp;omega
 have lw':=gs.lw;have lt':=gs.lt;unfold dZ at hc;dsimp only at hc;split at hc;·cases hc
 ·rename_i k hk
  obtain⟨a1,a2,a3,a4⟩:=gs.bt k (A5 hk);obtain⟨j,hj⟩:=aGA a3;obtain⟨f,hjf⟩:=uI hj;have hf:gS s.farmers k.farmer=some f:=by unfold gS;grind
  have hkf:(iY s.farmers k.farmer (-k.net)).map (·.1)=s.farmers.map (·.1):=by grind [lQ,aFf]
  have hlf:(iY s.farmers k.farmer (-k.net)).length=s.farmers.length:=by
   have:=AAn List.length hkf
   grind
  have hd:sS s (.void i)={ s with tickets:=s.tickets.set i { k with void:=true },farmers:=iY s.farmers k.farmer (-k.net) }:=by
   unfold sS;grind
  rw[hd];refine⟨by grind,?_,?_,gs.lm,gs.lp,by grind,?_,?_,fun p hp=>?_,by grind,by grind,gs.bw,fun k' hk'=>?_,fun p hp=>?_⟩
  ·show ((iY s.farmers k.farmer (-k.net)).map (·.1)).Nodup
   rw[hkf];exact gs.nf
  ·show (iY s.farmers k.farmer (-k.net)).length≤9
   rw[hlf];exact gs.lf
  ·grind
  ·grind
  ·rw[hl]
   have hp:p∈iY s.farmers k.farmer (-k.net):=hp;rw[lQ]at hp;rcases pY hp with hp|hp|⟨q,hq,hp⟩;·grind
   ·grind
   ·have:=gs.bf _ hq
    grind
  ·show _∧_∧k'.farmer∈(iY s.farmers k.farmer (-k.net)).map (·.1)∧_
   rw[hkf];rcases aF0 hk' with hk'|hk';·exact gs.bt k' hk'
   grind
  ·obtain⟨v0,e1,e2⟩:=aHe gs.nf a3 hp
   have e3:v0=yU s.tickets p.1:=gs.fs _ e1;have hvd:k.void=false:=by
    grind
   show p.2=yU (s.tickets.set i _) p.1;rw[aEL hk hvd,e2,e3]
   grind
theorem aJA(gs:gH s)(hw:IsW (.close) v)(hc:dZ s (.close)=none)(hlt:s.book.length<300):gH { sS s (.close)with book:=s.book++[line] }:=by
 have hl:(s.book++[line]).length=s.book.length+1:=by simp
 have bf':∀ p∈s.farmers,-(100000*(s.book.length+1:Nat):Int)≤p.2∧p.2≤100000*(s.book.length+1:Nat):=fun p hp=>by have:=gs.bf p hp;omega
 have bm':∀ p∈s.meters,0≤p.2.1∧p.2.1≤99999∧0≤p.2.2∧p.2.2≤100000*(s.book.length+1:Nat):=fun p hp=>by have:=gs.bm p hp;omega
 have bp':∀ p∈s.pans,0≤p.2∧p.2≤100000*(s.book.length+1:Nat):=fun p hp=>by have:=gs.bp p hp;omega
 have lw':=gs.lw;have lt':=gs.lt;unfold sS;exact⟨by grind,gs.nf,gs.lf,gs.lm,gs.lp,by grind,by grind,A6 _,by grind,by grind,by grind,gs.bw,gs.bt,gs.fs⟩
theorem aJz{x:ByteArray}{n:Int}(gs:gH s)(hw:IsW (.meter x n) v)(hc:dZ s (.meter x n)=none)(hlt:s.book.length<300):gH { sS s (.meter x n)with book:=s.book++[line] }:=by
 have hl:(s.book++[line]).length=s.book.length+1:=by simp
 have bf':∀ p∈s.farmers,-(100000*(s.book.length+1:Nat):Int)≤p.2∧p.2≤100000*(s.book.length+1:Nat):=fun p hp=>by have:=gs.bf p hp;omega
 have bm':∀ p∈s.meters,0≤p.2.1∧p.2.1≤99999∧0≤p.2.2∧p.2.2≤100000*(s.book.length+1:Nat):=fun p hp=>by have:=gs.bm p hp;omega
 have bp':∀ p∈s.pans,0≤p.2∧p.2≤100000*(s.book.length+1:Nat):=fun p hp=>by have:=gs.bp p hp;omega
 have lw':=gs.lw;have lt':=gs.lt;obtain⟨hb,_⟩:=hw;unfold dZ at hc;dsimp only at hc;split at hc;·cases hc
 ·rename_i hn
  have l5:=gs.lm;unfold sS;refine⟨by grind,gs.nf,gs.lf,?_,gs.lp,by grind,by grind,gs.cl,by grind,fun p hp=>?_,by grind,gs.bw,gs.bt,gs.fs⟩;·grind [aAb]
  ·rw[hl]
   rcases pY hp with hp|hp|⟨q,hq,hp⟩;·grind
   ·grind
   ·have:=gs.bm _ hq
    rw[hp];unfold mtr;grind
theorem aSF(gs:gH s)(hw:IsW w v)(ha:w.asks=false)(hc:dZ s w=none)(hlt:s.book.length<300):gH { sS s w with book:=s.book++[line] }:=by
 cases w with
 | farmer x=>grind [aIf]
 | wagon x y a b=>grind [aJy]
 | void i=>grind [aMp]
 | close=>grind [aJA]
 | meter x n=>grind [aJz]
 | pan x a b=>grind [aPL]
 | _=>cases ha
theorem aPK{P:dU→ByteArray→Int}(gs:gH s){r:Int ⊕ Wd}(hr:∀ w,r = .inr w→∃ v,IsW w v):gH (qQ P s line r).2:=by
 cases r with
 | inl e=>exact gs
 | inr w =>
   obtain⟨v,hw⟩:=hr w rfl;unfold qQ;dsimp only;cases ha:w.asks with
   | true =>
     grind
   | false =>
     simp only[B8,AAd];cases hc:dZ s w with
     | some e=>exact gs
     | none =>
       dsimp only;by_cases hl:s.book.length=300;·grind
       ·rw[if_neg hl];exact aSF gs hw ha hc (by have:=gs.book;omega)
end Go.Proofs.YtjckchgdlbgolaaGreatDoor
namespace Go.DL
section
variable{D:Nat→Option XFn}{Y:Nat→Option YI}{r:Nat→Option Nat}
theorem aGz{b:Nat}:∀{vs:List AV},b∈kB vs→∃(i:Nat)(v:AV),vs[i]?=some v∧b∈kC v
 | [],h=>by simp[kB]at h
 | v::l,h=>by
   simp only[kB,B7]at h;rcases h with h|h;·exact⟨0,v,rfl,h⟩
   ·obtain⟨i,v',h1,h2⟩:=aGz h
    exact⟨i+1,v',h1,h2⟩
theorem aOz{v v':AV}(h:Rn D Y r v v'):∀ b∈kC v,∃ c,r b=some c:=by
 have many:∀{xs ys:List AV},xs.length=ys.length→(∀(i:Nat)(x y:AV),xs[i]?=some x→ys[i]?=some y→∀ b∈kC x,∃ c,r b=some c)→∀ b∈kB xs,∃ c,r b=some c:=fun {xs ys} hl ih b hb=>by
  grind [aGz]
 induction h with
 | agg xs ys hl h ih=>grind [kC]
 | tup xs ys hl h ih=>grind [kC]
 | fn f xs ys us vs hf hl1 h1 hl2 h2 ih1 ih2 =>
   intro b hb;simp only[kC,B7]at hb
   grind
 | ifc t x y h ih=>grind [kC]
 | yield l c hr=>grind [kC]
 | sl b c o s n hr=>grind [kC]
 | pt b c o hr=>grind [kC]
 | mp b c hr=>grind [kC]
 | sb b c n hr=>grind [kC]
 | bp b c hr=>grind [kC]
 | _=>intro b hb;simp[kC]at hb
theorem aVB{xs ys:List AV}(h:RnL D Y r xs ys):∀ b∈kB xs,∃ c,r b=some c:=fun b hb=>by
 grind [aGz,aOz,RnL]
theorem bDg{h:XH}{H:Hp}(sh:SHb D Y r h H):Cd h:=by
 intro x hx b hb;cases x with
 | none=>simp[nmO]at hb
 | some x =>
   obtain⟨i,hi⟩:=E9 hx;have ha:hat h i=some x:=by simp_all [hat]
   obtain⟨⟨g,y,rfl⟩,c,z,h1,h2,h3⟩:=sh.blk i x ha;have hb:b∈nmB (.blk g y):=hb;cases h3 with
   | cells _ w xs ys hl hg =>
     cases g with
     | true=>simp[nmB]at hb
     | false =>
       obtain⟨c',hc'⟩:=aVB hl b hb;exact sh.dom b c' hc'
   | map _ w xs ys hl hg =>
     cases g with
     | true=>simp[nmB]at hb
     | false =>
       have hb:b∈xs.flatMap fun p=>kC p.1++kC p.2:=hb;obtain⟨p,hp,hb⟩:=aB2.1 hb;obtain⟨j,hj⟩:=E9 hp;have hlt:j<ys.length:=by rw[←hl.1];grind
       obtain⟨k1,k2⟩:=hl.2 j p _ hj (A8 hlt);rcases B7.1 hb with hb|hb
       ·obtain⟨c',hc'⟩:=aOz k1 b hb
        exact sh.dom b c' hc'
       ·obtain⟨c',hc'⟩:=aOz k2 b hb
        exact sh.dom b c' hc'
   | obj _ w o=>cases g<;>simp[nmB]at hb
end
end Go.DL
namespace Go.Proofs.YtjckchgdlbgolaaGreatDoor
open Go Go.DL
variable{h h':XH}{L:CL}{s:dU}
def IsClk(s:dU):Hp→Nat→Prop:=fun H b=>gH s∧∃ h L,aI h=H∧Lays h L s∧L.c=b
theorem Od.hp{l:OL}{ks:List ByteArray}{vs:List (List AV)}{t:Int}(e:aI h=aI h')(od:Od h l ks vs t):Od h' l ks vs t:=⟨⟨fun p hp=>by rw[←e];exact od.hd.1 p hp,od.hd.2⟩,od.ek,od.vk⟩
theorem Lays.hp(e:aI h=aI h')(ly:Lays h L s):Lays h' L s where
 hc:=by rw[←e];exact ly.hc
 tk:=⟨ly.tk.el,fun hk=>by rw[←e];exact ly.tk.hb hk,fun i a k h1 h2=>by rw[←e];exact ly.tk.he i a k h1 h2,ly.tk.nd,ly.tk.nb⟩
 bk hk:=by rw[←e];exact ly.bk hk
 f:=ly.f.hp e
 m:=ly.m.hp e
 p:=ly.p.hp e
 w:=ly.w.hp e
 dj:=ly.dj
theorem IsClk.open{c:Nat}(hi:IsClk s (aI h) c):gH s∧∃ L,Lays h L s∧L.c=c:=by
 obtain⟨gs,h0,L,e,ly,hc⟩:=hi;exact⟨gs,L,ly.hp e,hc⟩
end Go.Proofs.YtjckchgdlbgolaaGreatDoor
namespace Go.DL
section
variable{D D':Nat→Option XFn}{Y Y':Nat→Option YI}{r:Nat→Option Nat}
theorem aOB{v v':AV}(h:Rn D Y r v v'):Rn D' Y' r v v':=by
 induction h with
 | any v=>exact .any v
 | int k n=>exact .int k n
 | bool b=>exact .bool b
 | str s=>exact .str s
 | agg xs ys hl h ih=>exact .agg xs ys hl ih
 | tup xs ys hl h ih=>exact .tup xs ys hl ih
 | fs rows h=>exact .fs rows h
 | fp rows i o h=>exact .fp rows i o h
 | cs rows h=>exact .cs rows h
 | sl b c o s n hr=>exact .sl b c o s n hr
 | pt b c o hr=>exact .pt b c o hr
 | mp b c hr=>exact .mp b c hr
 | sb b c n hr=>exact .sb b c n hr
 | bp b c hr=>exact .bp b c hr
 | nilsl=>exact .nilsl
 | nilpt=>exact .nilpt
 | nilmap=>exact .nilmap
 | nilfn=>exact .nilfn
 | nilifc=>exact .nilifc
 | fn f xs ys us vs hf hl1 h1 hl2 h2 ih1 ih2=>exact .fn f xs ys us vs hf hl1 ih1 hl2 ih2
 | yield l c hr=>exact .yield l c hr
 | ifc t x y h ih=>exact .ifc t x y ih
def aBn(J:List Nat)(h:XH):XH:=h.mapIdx fun i x=>if i∈J then x else none
theorem aDv{J:List Nat}{h:XH}{i:Nat}:hat (aBn J h) i=if i∈J then hat h i else none:=by
 unfold aBn hat
 grind
theorem aOb{h:XH}{H:Hp}(sh:SH D Y r h H){J:List Nat}(hJ:∀ i∈J,∃ x,aI h i=some x):SHb D' Y' r (aBn J h) H:=by
 refine⟨fun b c hb=>by unfold aBn;rw[List.length_mapIdx];exact sh.dom b c hb,fun b b' c x y hx hy h1 h2=>?_,fun b x hx=>?_⟩
 ·rw[aDv]at hx hy
  split at hx
  ·split at hy
   ·exact sh.inj b b' c x y hx hy h1 h2
   ·cases hy
  ·cases hx
 ·rw[aDv]at hx
  split at hx
  ·rename_i hb
   obtain⟨c,y,k1,k2,k3⟩:=sh.blk b x hx;obtain⟨z,hz⟩:=hJ b hb;unfold aI at hz;rw[hx]at hz;cases x with
   | blk g w =>
     refine⟨⟨g,w,rfl⟩,c,y,k1,k2,?_⟩;cases k3 with
     | cells _ w xs ys hl hg=>exact .cells c _ _ _ _ ⟨hl.1,fun i a b ha hb=>aOB (hl.2 i a b ha hb)⟩ hg
     | map _ w xs ys hl hg=>exact .map c _ _ _ _ ⟨hl.1,fun i a b ha hb=>⟨aOB (hl.2 i a b ha hb).1,aOB (hl.2 i a b ha hb).2⟩⟩ hg
     | obj _ w o=>exact .obj c _ _ _
   | _=>cases hz
  ·cases hx
end
end Go.DL
namespace Go.Proofs.YtjckchgdlbgolaaGreatDoor
open Go Go.DL
section
variable{h h':XH}{L:CL}{s:dU}
theorem Lays.only(ly:Lays h L s):Lays (aBn (wJ L s) h) L s:=by
 refine ly.fr (J:=(List.range h.length).filter fun b=>decide (b∉wJ L s)) ⟨fun b hb hn=>?_,by simp[aBn]⟩ fun j b hb hm=>?_
 ·have:b∈wJ L s:=Classical.byContradiction fun q=>hn (by grind)
  unfold aI;rw[aDv,if_pos this]
 grind [bF]
section
variable{D:Nat→Option XFn}{P:dU→ByteArray→Int}{rd:ByteArray→Int ⊕ Wd}
open Classical in
noncomputable def pmSay(P:dU→ByteArray→Int)(rd:ByteArray→Int ⊕ Wd):List AV→XH→Option (AV×XH):=fun xs h=>match xs,h with
 | [.pt 0 0,.str line],[some (.gh s p)]=>if p=IsClk s then some (.str (qQ P s line (rd line)).1,[some (.gh (qQ P s line (rd line)).2 (IsClk (qQ P s line (rd line)).2))]) else none
 | _,_=>none
def RdOk(rd:ByteArray→Int ⊕ Wd):Prop:=∀ line,Prs line (rd line)∧∀ e,rd line = .inl e→e∈nW
theorem mW{x:XB}{b:Nat}{y:XB}(h:hat [some x] b=some y):b=0∧y=x:=by
 grind [hat]
theorem aIg{Y:Nat→Option YI}{r:Nat→Option Nat}{H':Hp}{c:Nat}{s':dU}(hdm:∀ b c,r b=some c→b<1)(hrc:r 0=some c){D3:Nat→Option XFn}{Y3:Nat→Option YI}{r3:Nat→Option Nat}{h3:XH}{L3:CL}(sh3:SH D3 Y3 r3 h3 H')(h3c:r3 L3.c=some c)(ly3:Lays h3 L3 s')(gs:gH s') :
 SH D Y r [some (.gh s' (IsClk s'))] H':=by
 have hJ:∀ i∈wJ L3 s',∃ x,aI h3 i=some x:=fun i hi=>by
  obtain⟨j,hj⟩:=bF.1 hi;exact ly3.live j i hj
 refine⟨fun b c hb=>hdm b c hb,fun b b' c x y hx hy _ _=>(mW hx).1.trans (mW hy).1.symm,fun b x hx=>?_,fun _ n=>∃ i x,hat (aBn (wJ L3 s') h3) i=some x∧r3 i=some n,fun b st q hb=>?_,fun b b' st q x n hb hb' hne _=>absurd ((mW hb).1.trans (mW hb').1.symm) hne⟩
 ·obtain⟨rfl,rfl⟩:=mW hx
  obtain⟨g,hg⟩:=aC ly3.hc;obtain⟨c',y,k1,k2,_⟩:=sh3.blk _ _ hg;rw[h3c]at k1;cases k1;exact⟨c,y,hrc,k2,.gh c _ _ y⟩
 ·obtain⟨rfl,e⟩:=mW hb
  cases e;exact⟨c,hrc,aBn (wJ L3 s') h3,r3,L3.c,fun D' Y'=>aOb sh3 hJ,h3c,⟨gs,_,L3,rfl,ly3.only,rfl⟩,fun n=>Iff.rfl⟩
open Classical in
noncomputable def pmSayG(Fine:dU→ByteArray→Prop)(A:dU→ByteArray→ByteArray×dU):List AV→XH→Option (AV×XH):=fun xs h=>match xs,h with
 | [.pt 0 0,.str line],[some (.gh s p)]=>if p=IsClk s∧Fine s line then some (.str (A s line).1,[some (.gh (A s line).2 (IsClk (A s line).2))]) else none
 | _,_=>none
theorem aVL{Fine:dU→ByteArray→Prop}{A:dU→ByteArray→ByteArray×dU}(hF:∀(s:dU)(line:ByteArray)(h:XH)(L:CL),Fine s line→Lays h L s→Cd h→gH s→aEE h L line (A s line).2 (A s line).1∧gH (A s line).2):jX D 6 (pmSayG Fine A):=by
 intro B Y r h H xs ys v h' sh hr hx;unfold pmSayG at hx;split at hx
 ·rename_i line s p
  split at hx
  ·rename_i hp
   obtain⟨hp,hfine⟩:=hp;subst hp;cases hx;obtain⟨G,hG⟩:=sh.gh;obtain⟨c,hrc,h0,r0,b0,shb,hb0,hi,hS⟩:=hG.1 0 s _ rfl;obtain⟨gs,L,ly,hL⟩:=hi.open;have sb:=shb aB (fun _=>none);have s0:SH aB (fun _=>none) r0 h0 H:=⟨sb.dom,sb.inj,fun b x hb=>(sb.blk b x hb).2,GhR.no fun b st p hb=>by obtain⟨g,y,e⟩:=(sb.blk b _ hb).1;cases e⟩;obtain⟨⟨h3,L3,body,ly3,hL3⟩,gsay⟩:=hF s line h0 L hfine ly (bDg sb) gs;obtain⟨a,as1,rfl,q1,q2⟩:=hr.inv;obtain⟨b,as2,rfl,q3,q4⟩:=q2.inv;rw[q4.nil_inv];obtain⟨c',rfl,hc'⟩:=lY q1;rw[hrc]at hc';cases hc';rw[dB q3];have hA:RnL aB (fun _=>none) r0 [.pt L.c 0,.str line] [.pt c 0,.str line]:=RnL.cons (.pt _ _ _ (by grind)) (RnL.cons (.str _) RnL.nil);have hlen:(h0++mP).length=h0.length+1:=by simp[mP]
   have fw:=aRI (B:=B) (h:=h0) (h1:=h0++mP) (e1:=aX (aV [.pt L.c 0,.str line]) (some 4) (.pt h0.length 0)) aA aBF rfl (xs:=[.pt L.c 0,.str line]) (by simp) rfl rfl AM (by rw[hlen];exact body) (Y:=fun _=>none) (fun l i h=>by simp at h) s0 hA;have cv:CallV B Tryz.prog (.fn (.func 6) [] []) [.pt c 0,.str line] H (fH aB (fun _=>none) r0 (.str (A s line).1) h3):=fw;suffices goal:CallV B Tryz.prog (.fn (.func 6) [] []) [.pt c 0,.str line] H (fH D Y r (.str (A s line).1) [some (.gh (A s line).2 (IsClk (A s line).2))]) from goal
   refine CallV.mono cv fun v' H' hq=>?_;obtain⟨r3,ha,sh3,hv⟩:=hq;refine⟨r,fun b c hb=>hb,aIg (fun b c hb=>sh.dom b c hb) hrc sh3 (ha _ _ (by grind)) ly3 gsay,by rw[dB hv];exact .str _⟩
  ·cases hx
 ·cases hx
theorem bAa(pok:aLt P)(rok:RdOk rd):jX D 6 (pmSay P rd):=by
 have h0:jX D 6 (pmSayG (fun _ _=>True) fun s line=>qQ P s line (rd line)):=aVL fun s line h L _ ly cd gs=>⟨aRM pok ly cd gs (rok line).1 (rok line).2,aPK gs fun w hw=>by
  have:=(rok line).1;rw[hw]at this;obtain⟨v,_,k,_⟩:=this
  grind⟩
 intro B Y r h H xs ys v h' sh hr hx;refine h0 B Y r h H xs ys v h' sh hr ?_;unfold pmSay at hx;split at hx
 ·split at hx
  ·rename_i hp
   cases hx;unfold pmSayG
   grind
  ·cases hx
 ·cases hx
end
end
section
section
variable{D:Nat→Option XFn}{B:Base}
theorem aLZ{K:Nat}{ys:List AV}{v:AV}{h1 h2:XH}{r1:Nat→Option Nat}{H:Hp}(sb:SHb aB (fun _=>none) r1 h1 (iS H))(hcall:∀ H1,SH aB (fun _=>none) r1 h1 H1→FnW B Tryz.prog K ys H1 (fH aB (fun _=>none) r1 v h2))
 (hk:∀ b x,hat h1 b=some x→∃ y,hat h2 b=some y) (hv:∀(r:Nat→Option Nat) v',Rn aB (fun _=>none) r v v'→v'=v) :
 CallV B Tryz.prog (.fn (.func K) [] []) ys H fun v' H'=>v'=v∧H'=H:=by
 classical
 have g1:SH aB (fun _=>none) r1 h1 (fun c=>if ∃ b x,hat h1 b=some x∧r1 b=some c then iS H c else none):=by
  refine⟨sb.dom,sb.inj,fun b x hb=>?_,GhR.no fun b st p hb=>by obtain⟨g,y,e⟩:=(sb.blk b _ hb).1;cases e⟩;obtain⟨_,c,y,k1,k2,k3⟩:=sb.blk b x hb;exact⟨c,y,k1,by rw[if_pos ⟨b,x,hb,k1⟩];exact k2,k3⟩
 have fw:=hcall _ g1;have hn:[]++ys++[]=ys:=by simp
 rw[←hn]at fw;have q1:=CallV.quietOf (v:=v) (CallV.mono (CallV.frameS (fv:=.fn (.func K) [] []) (fun c=>∃ b x,hat h1 b=some x∧r1 b=some c) fw) (by
  rintro v' H'' ⟨H',⟨rl,m1,m2,m3⟩,e1,e2⟩;refine⟨hv _ _ m3,fun c hc=>?_⟩;obtain⟨x,hx⟩:=B6.1 hc;by_cases hS:∃ b x,hat h1 b=some x∧r1 b=some c
  ·rw[e1 c (.inl hS)]
   obtain⟨b,x,hb,hrb⟩:=hS;obtain⟨y,hy⟩:=hk b x hb;obtain⟨c',y',n1,n2,_⟩:=m2.blk b y hy;have:=m1 b c hrb
   grind
  simp_all))
 refine q1.conv fun F w st=>⟨aJg st,?_⟩;rintro e w' ⟨q,v',F',H',rfl,h2,h3,h4,rfl,rfl⟩;obtain⟨a,b⟩:=aAV st h2 h3;exact⟨q,_,F',H,rfl,a,b,h4,rfl,rfl⟩
theorem qT{K:Nat}{xs ys:List AV}{v:AV}{h1 h2:XH}{r1:Nat→Option Nat}{H:Hp}(sb:SHb aB (fun _=>none) r1 h1 (iS H))(hrun:runW aB K xs h1=some (v,h2))(hA:RnL aB (fun _=>none) r1 xs ys)
 (hk:∀ b x,hat h1 b=some x→∃ y,hat h2 b=some y) (hv:∀(r:Nat→Option Nat) v',Rn aB (fun _=>none) r v v'→v'=v) :
 CallV B Tryz.prog (.fn (.func K) [] []) ys H fun v' H'=>v'=v∧H'=H :=
 aLZ sb (fun H1 s1=>(zO aA B (fun _=>none) (fun l i h=>by simp at h)).1 r1 h1 _ K xs ys v h2 s1 hA hrun) hk hv
abbrev yQ:List AV:=[.nilpt,.nilpt,.nilpt,.nilpt,.nilsl,I 0,.nilsl]
theorem bDJ{g w:Bool}{k:XH}:runW aB 25 [.pt 0 0] (some (.blk g (.cells w yQ))::k)=some (.bool true,some (.blk g (.cells w yQ))::k):=by
 rw[qY 25 x25 rfl];unfold x25;dsimp only;(exact RS0)
theorem bDK{h:XH}:runW aB 25 [.nilpt] h=some (.bool true,h):=by
 rw[qY 25 x25 rfl];unfold x25;dsimp only;(exact RS0)
theorem bDT:runW aB 10 [.nilpt] []=some (.str ⟨⟨[]⟩⟩,[]):=by
 have c:=bDK (h:=[]);rw[qX 10 sW rfl];unfold sW;dsimp only;(exact dG c)
theorem bDS:runW aB 10 [.pt 0 0] [some (.blk false (.cells false yQ))]=some (.str ⟨⟨[]⟩⟩,[some (.blk false (.cells false yQ))]):=by
 have c:=bDJ (g:=false) (w:=false) (k:=[]);rw[qX 10 sW rfl];unfold sW;dsimp only;(exact dG c)
theorem aRS{D':Nat→Option XFn}{Y Y':Nat→Option YI}{r r':Nat→Option Nat}{ys:List AV}(h:RnL D Y r yQ ys):RnL D' Y' r' yQ ys:=by
 obtain⟨y0,_,rfl,w0,h⟩:=h.inv;obtain⟨y1,_,rfl,w1,h⟩:=h.inv;obtain⟨y2,_,rfl,w2,h⟩:=h.inv;obtain⟨y3,_,rfl,w3,h⟩:=h.inv;obtain⟨y4,_,rfl,w4,h⟩:=h.inv;obtain⟨y5,_,rfl,w5,h⟩:=h.inv;obtain⟨y6,_,rfl,w6,h⟩:=h.inv;rw[h.nil_inv];cases w0;cases w1;cases w2;cases w3;cases w4;cases w5;cases w6;exact RnL.cons .nilpt (RnL.cons .nilpt (RnL.cons .nilpt (RnL.cons .nilpt (RnL.cons .nilsl (RnL.cons (.int _ _) (RnL.cons .nilsl RnL.nil))))))
theorem aRH{Y:Nat→Option YI}{r:Nat→Option Nat}{H:Hp}{g:Bool}(sh:SH D Y r [some (.blk g (.cells true yQ))] H):SHb aB (fun _=>none) r [some (.blk false (.cells false yQ))] (iS H):=by
 refine⟨fun b c hb=>sh.dom b c hb,fun b b' c x y hx hy _ _=>(mW hx).1.trans (mW hy).1.symm,fun b x hx=>?_⟩;obtain⟨rfl,rfl⟩:=mW hx;obtain⟨c,y,k1,k2,k3⟩:=sh.blk 0 _ rfl;refine⟨⟨_,_,rfl⟩,c,?_⟩;cases k3 with
 | cells _ _ _ ys hl hg=>exact⟨_,k1,by unfold iS;rw[k2];rfl,.cells _ _ _ _ _ (aRS hl) (by simp)⟩
open Classical in
noncomputable def pmSave:List AV→XH→Option (AV×XH):=fun xs h=>match xs,h with
 | [.pt 0 0],[some (.gh s p)]=>if p=IsClk s then some (.str (dY s.book),[some (.gh s p)]) else none
 | [.nilpt],[]=>some (.str ⟨⟨[]⟩⟩,[])
 | [.pt 0 0],[some (.blk g (.cells true cs))]=>if cs=yQ then some (.str ⟨⟨[]⟩⟩,[some (.blk g (.cells true cs))]) else none
 | _,_=>none
theorem aOC{r r':Nat→Option Nat}:∀{l:List ByteArray}{ys:List AV},RnL aB (fun _=>none) r (oE l) ys→RnL aB (fun _=>none) r' (oE l) ys
 | [],ys,h=>by grind [RnL,oE]
 | x::l,ys,h=>by
   obtain⟨y,ys',rfl,h1,h2⟩:=RnL.inv (xs:=oE l) h;rw[dB h1];exact RnL.cons (.str _) (aOC h2)
theorem aZZ:jX D 10 pmSave:=by
 intro B Y r h H xs ys v h' sh hr hx;unfold pmSave at hx;split at hx
 ·rename_i s p
  split at hx
  ·rename_i hp
   subst hp;cases hx;obtain⟨G,hG⟩:=sh.gh;obtain⟨c,hrc,h0,r0,b0,shb,hb0,hi,hS⟩:=hG.1 0 s _ rfl;obtain⟨gs,L,ly,hL⟩:=hi.open;have sb:=shb aB (fun _=>none);obtain⟨a,as1,rfl,q1,q2⟩:=hr.inv;rw[q2.nil_inv];obtain⟨c',rfl,hc'⟩:=lY q1;rw[hrc]at hc';cases hc';suffices hq:CallV B Tryz.prog (.fn (.func 10) [] []) [.pt c 0] H fun v' H'=>v' = .str (dY s.book)∧H'=H by
    suffices goal:CallV B Tryz.prog (.fn (.func 10) [] []) [.pt c 0] H (fH D Y r (.str (dY s.book)) [some (.gh s (IsClk s))]) from goal
    refine CallV.mono hq fun v' H' e=>?_;obtain⟨rfl,rfl⟩:=e;exact⟨r,fun b c hb=>hb,sh,.str _⟩
   obtain⟨g,hc⟩:=aC ly.hc;obtain⟨_,c1,y,k1,k2,k3⟩:=sb.blk _ _ hc;have e1:c1=c:=by grind
   subst e1;cases k3 with
   | cells _ _ _ ys hl hg =>
     unfold cB at hl;obtain⟨y0,_,rfl,w0,hl⟩:=hl.inv;obtain⟨y1,_,rfl,_,hl⟩:=hl.inv;obtain⟨y2,_,rfl,_,hl⟩:=hl.inv;obtain⟨y3,_,rfl,_,hl⟩:=hl.inv;obtain⟨y4,_,rfl,_,hl⟩:=hl.inv;obtain⟨y5,_,rfl,_,hl⟩:=hl.inv;obtain⟨y6,_,rfl,w6,hl⟩:=hl.inv;rw[hl.nil_inv]at k2;obtain⟨f,rfl,hf⟩:=lY w0;have hro:iS H c1=some (.cells false [.pt f 0,y1,y2,y3,y4,y5,y6]):=by unfold iS;rw[k2];rfl
     by_cases hk:s.book.length=0
     ·have hb:s.book=[]:=D5 hk
      have w6:Rn aB (fun _=>none) r0 (iL L.kb s.book.length) y6:=w6;rw[hk]at w6;have h6:y6 = .nilsl:=by cases w6;rfl
      subst h6;have hs:dY s.book=hdB:=by rw[hb];rfl
      rw[hs];refine qT (r1:=fun i=>if i=0 then some c1 else if i=1 then some f else none) ⟨fun b c hb=>?_,fun b b' c x y hx hy _ _=>?_,fun b x hx=>?_⟩ bDR (RnL.cons (.pt _ _ _ rfl) RnL.nil) (fun b x hx=>?_) fun r v' hv=>dB hv;·grind
      ·have f0:∀ b x,hat [cr0 .nilsl,none] b=some x→b=0:=fun b x h=>by
        match b,h with
        | 0,_=>rfl
        | 1,h=>cases h
        | _+2,h=>simp[hat]at h
       grind
      ·match b,hx with
       | 0,hx =>
         cases hx;exact⟨⟨_,_,rfl⟩,c1,_,rfl,hro,.cells _ _ _ _ _ (RnL.cons (.pt _ _ _ rfl) (RnL.cons (.any _) (RnL.cons (.any _) (RnL.cons (.any _) (RnL.cons (.any _) (RnL.cons (.any _) (RnL.cons .nilsl RnL.nil))))))) (by simp)⟩
       | 1,hx=>cases hx
       | _+2,hx=>simp[hat]at hx
      ·match b,hx with
       | 0,_=>exact⟨_,rfl⟩
       | 1,hx=>cases hx
       | _+2,hx=>simp[hat]at hx
     ·have w6:Rn aB (fun _=>none) r0 (iL L.kb s.book.length) y6:=w6
      have hkb:=ly.bk AM;have ev:iL L.kb s.book.length = .sl L.kb 0 1 s.book.length:=by
       unfold iL;grind
      rw[ev]at w6;obtain⟨kb,rfl,hkb'⟩:∃ kb,y6 = .sl kb 0 1 s.book.length∧r0 L.kb=some kb:=by cases w6;grind
      obtain⟨g2,hc2⟩:=aC hkb;obtain⟨_,c2,z,m1,m2,m3⟩:=sb.blk _ _ hc2;rw[hkb']at m1;cases m1;cases m3 with
      | cells _ _ _ ys hl2 hg2 =>
      have hro2:iS H kb=some (.cells false ys):=by unfold iS;rw[m2];rfl
      have hne:c1≠kb:=fun e=>by
       subst e;have:=sb.inj _ _ _ _ _ hc hc2 k1 hkb';have h1:=ly.dj 0 2 L.c (by simp[px]) (by rw[this];show L.kb∈nO L.kb s.book.length;grind [bY]);cases h1
      refine qT (r1:=fun i=>if i=0 then some c1 else if i=1 then some f else if i=2 then some kb else none) ⟨fun b c hb=>?_,fun b b' c x y hx hy a1 a2=>?_,fun b x hx=>?_⟩ (w23 (B:=s.book) AM gs.book) (RnL.cons (.pt _ _ _ rfl) RnL.nil) (fun b x hx=>?_) fun r v' hv=>dB hv;·grind
      ·have f0:∀ b x,hat [cr0 (.sl 2 0 1 s.book.length),none,xH s.book] b=some x→b=0∨b=2:=fun b x h=>by
        match b,h with
        | 0,_=>omega
        | 1,h=>cases h
        | 2,_=>omega
        | _+3,h=>simp[hat]at h
       grind
      ·match b,hx with
       | 0,hx =>
         cases hx;exact⟨⟨_,_,rfl⟩,c1,_,rfl,hro,.cells _ _ _ _ _ (RnL.cons (.pt _ _ _ rfl) (RnL.cons (.any _) (RnL.cons (.any _) (RnL.cons (.any _) (RnL.cons (.any _) (RnL.cons (.any _) (RnL.cons (.sl _ _ _ _ _ rfl) RnL.nil))))))) (by simp)⟩
       | 1,hx=>cases hx
       | 2,hx =>
         cases hx;exact⟨⟨_,_,rfl⟩,kb,_,rfl,hro2,.cells _ _ _ _ _ (aOC hl2) fun _=>mL _⟩
       | _+3,hx=>simp[hat]at hx
      ·match b,hx with
       | 0,_=>exact⟨_,rfl⟩
       | 1,hx=>cases hx
       | 2,_=>exact⟨_,rfl⟩
       | _+3,hx=>simp[hat]at hx
  ·cases hx
 ·cases hx
  obtain⟨a,as1,rfl,q1,q2⟩:=hr.inv;rw[q2.nil_inv];have q3:a = .nilpt:=by cases q1;rfl
  subst q3;refine(show CallV B Tryz.prog (.fn (.func 10) [] []) [.nilpt] H (fH D Y r (.str ⟨⟨[]⟩⟩) []) from CallV.mono (qT (h1:=[]) (r1:=fun _=>none) ⟨fun b c hb=>(by cases hb),fun b b' c x y hx=>by grind,fun b x hx=>by simp[hat]at hx⟩ bDT (RnL.cons .nilpt RnL.nil) (fun b x hx=>by grind) fun r v' hv=>dB hv) fun v' H' e=>?_);obtain⟨rfl,rfl⟩:=e;exact⟨r,fun b c hb=>hb,sh,.str _⟩
 ·rename_i g cs
  split at hx
  ·rename_i hp
   subst hp;cases hx;obtain⟨a,as1,rfl,q1,q2⟩:=hr.inv;rw[q2.nil_inv];obtain⟨c,rfl,hc⟩:=lY q1;refine(show CallV B Tryz.prog (.fn (.func 10) [] []) [.pt c 0] H (fH D Y r (.str ⟨⟨[]⟩⟩) _) from CallV.mono (qT (r1:=r) (aRH sh) bDS (RnL.cons (.pt _ _ _ hc) RnL.nil) (fun b x hx=>⟨_,hx⟩) fun r v' hv=>dB hv) fun v' H' e=>?_);obtain⟨rfl,rfl⟩:=e;exact⟨r,fun b c hb=>hb,sh,.str _⟩
  ·cases hx
 ·cases hx
end
end
section
theorem w52{n:Int}:runW aB 18 [I n] []=some (.pt 0 0,[some (.blk false (.cells true [.nilsl,.mp 1,I n])),some (.blk true (.map true []))]):=by
 rw[qX 18 x18 rfl];unfold x18;dsimp only;(exact RS0)
theorem w53{n:Int}:runW aB 19 [I n] []=some (.pt 0 0,[some (.blk false (.cells true [.nilsl,.mp 1,I n])),some (.blk true (.map true []))]):=by
 rw[qX 19 x19 rfl];unfold x19;dsimp only;(exact RS0)
theorem w54{n:Int}:runW aB 20 [I n] []=some (.pt 0 0,[some (.blk false (.cells true [.nilsl,.mp 1,I n])),some (.blk true (.map true []))]):=by
 rw[qX 20 x20 rfl];unfold x20;dsimp only;(exact RS0)
theorem w55{n:Int}:runW aB 21 [I n] []=some (.pt 0 0,[some (.blk false (.cells true [.nilsl,.mp 1,I n])),some (.blk true (.map true []))]):=by
 rw[qX 21 x21 rfl];unfold x21;dsimp only;(exact RS0)
def aJw:XH:=[some (.blk false (.cells true [.pt 1 0,.pt 3 0,.pt 5 0,.pt 7 0,.nilsl,I 0,.nilsl])),some (.blk false (.cells true [.nilsl,.mp 2,I 9])),some (.blk true (.map true [])),some (.blk false (.cells true [.nilsl,.mp 4,I 5])),some (.blk true (.map true [])),some (.blk false (.cells true [.nilsl,.mp 6,I 5])),some (.blk true (.map true [])),some (.blk false (.cells true [.nilsl,.mp 8,I 300])),some (.blk true (.map true []))]
theorem w19:runW aB 5 [] []=some (.pt 0 0,aJw):=by
 have a:=w52 (n:=9);have b:=w53 (n:=5);have c:=w54 (n:=5);have d:=w55 (n:=300);rw[qX 5 x5 rfl];unfold x5 aJw;dsimp only;(exact RS4 a b c d)
def gL:dU:=⟨[],[],[],[],[],0,[]⟩
def aEy:CL:=⟨0,0,0,[],⟨1,2,0,[]⟩,⟨3,4,0,[]⟩,⟨5,6,0,[]⟩,⟨7,8,0,[]⟩⟩
theorem aGu{o m:Nat}{t:Int}(h1:aI aJw o=some (.cells true [.nilsl,.mp m,I t]))(h2:aI aJw m=some (.map true []))(hne:o≠m):Od aJw ⟨o,m,0,[]⟩ [] [] t:=by
 refine⟨⟨fun p hp=>?_,?_⟩,rfl,rfl⟩
 ·have hp:p∈[(o,ABlk.cells true [.nilsl,.mp m,I t]),(m,ABlk.map true [])]:=hp
  grind
 ·show [o,m].Nodup
  simp[hne]
theorem aPu:Lays aJw aEy gL where
 hc:=rfl
 tk:=⟨rfl,fun h=>absurd h (by decide),fun i e k h1 _=>by simp[aEy]at h1,aA7,fun h=>absurd h (by decide)⟩
 bk h:=absurd h (by decide)
 f:=aGu rfl rfl (by decide)
 m:=aGu rfl rfl (by decide)
 p:=aGu rfl rfl (by decide)
 w:=aGu rfl rfl (by decide)
 dj i j b hi hj:=by
  have p:∀ i b,b∈px aEy gL i→(i=0∧b=0)∨(i=3∧(b=1∨b=2))∨(i=4∧(b=3∨b=4))∨(i=5∧(b=5∨b=6))∨(i=6∧(b=7∨b=8)):=fun i b h=>by
   match i,h with
   | 0,h=>simpa [px,aEy]using h
   | 1,h=>simp[px,nO,aEy,gL]at h
   | 2,h=>simp[px,nO,aEy,gL]at h
   | 3,h=>simpa [px,idx,aEy,gL]using h
   | 4,h=>simpa [px,idx,aEy,gL]using h
   | 5,h=>simpa [px,idx,aEy,gL]using h
   | 6,h=>simpa [px,idx,aEy,gL]using h
   | _+7,h=>cases h
  grind
theorem aPM:gH gL:=by
 refine⟨by decide,aA7,by decide,by decide,by decide,by decide,by decide,by decide,?_,?_,?_,?_,?_,?_⟩;all_goals intro p hp;cases hp
def aKI:List AV→XH→Option (AV×XH):=fun xs h=>match xs,h with
 | [],[]=>some (.pt 0 0,[some (.gh gL (IsClk gL))])
 | _,_=>none
theorem bAb{D:Nat→Option XFn}:jX D 5 aKI:=by
 intro B Y r h H xs ys v h' sh hr hx;unfold aKI at hx;split at hx
 ·cases hx
  rw[hr.nil_inv];have s0:SH aB (fun _=>none) (fun _=>none) [] H:=⟨fun b c hb=>by simp at hb,fun b c c' x y hx=>by grind,fun b x hx=>by simp[hat]at hx,GhR.no fun b st p hx=>by simp[hat]at hx⟩;have fw:=(zO aA B (fun _=>none) (fun l i h=>by simp at h)).1 (fun _=>none) [] H 5 [] [] _ _ s0 RnL.nil w19;have cv:CallV B Tryz.prog (.fn (.func 5) [] []) [] H (fH aB (fun _=>none) (fun _=>none) (.pt 0 0) aJw):=fw;suffices goal:CallV B Tryz.prog (.fn (.func 5) [] []) [] H (fH D Y r (.pt 0 0) [some (.gh gL (IsClk gL))]) from goal
  refine CallV.mono cv fun v' H' hq=>?_;obtain⟨r3,ha,sh3,hv⟩:=hq;obtain⟨c,rfl,hc⟩:=lY hv;have rno:∀ b c,r b=some c→False:=fun b c hb=>by have:=sh.dom b c hb;simp at this
  refine⟨fun b=>if b=0 then some c else none,fun b c' hb=>(rno b c' hb).elim,aIg (fun b c' hb=>?_) rfl sh3 (by exact hc) aPu aPM,.pt _ _ _ rfl⟩
  grind
 ·cases hx
end
section
def cX(w:ByteArray):Option Int:=match Lib.atoiAll w.data.toList with
 | .ok v=>if 0≤v∧v≤99999∧Lib.itoa v=w.data.toList then some v else none
 | _=>none
def cA(line:ByteArray):List ByteArray:=(fB 32 line.data.toList).map fun l=>⟨⟨l⟩⟩
def iH(x:ByteArray)(w:Wd):Int ⊕ Wd:=if bH x then .inr w else .inl 8
def xR(x:ByteArray)(f:Int→Wd):Int ⊕ Wd:=match cX x with
 | some n=>.inr (f n)
 | none=>.inl 2
def rd(line:ByteArray):Int ⊕ Wd:=if line.size>40 then .inl 14 else match cA line with
 | [w]=>if w=AAr then .inr .close else if w=AAv then .inr .total else .inl 13
 | [w,x]=>if w=AAo then iH x (.farmer x) else if w=AAu then iH x (.net x) else if w=AAx then iH x (.used x) else
   if w=AAy then iH x (.loss x) else if w=AAz then iH x (.power x) else
   if w=AAq then xR x (fun n=>.void n.toNat) else if w=AAw then xR x (fun n=>.ticket n.toNat) else .inl 13
 | [w,x,y]=>if w=AAs then (if bH x then xR y (.meter x) else .inl 8) else .inl 13
 | [w,x,y,z]=>if w=AAt then (if bH x then (match cX y,cX z with
  | some a,some b=>.inr (.pan x a b)
  | _,_=>.inl 2) else .inl 8) else .inl 13
 | [w,x,y,z,o]=>if w=AAp then (if bH x&&bH o then (match cX y,cX z with
  | some a,some b=>.inr (.wagon x o a b)
  | _,_=>.inl 2) else .inl 8) else .inl 13
 | _=>.inl 13
theorem aHS{x:ByteArray}{w:Wd}{e:Int}(h:iH x w = .inl e):e∈nW:=by
 grind [nW,iH]
theorem aJr{x:ByteArray}{f:Int→Wd}{e:Int}(h:xR x f = .inl e):e∈nW:=by
 grind [nW,xR]
theorem aOI{line:ByteArray}{e:Int}(h:rd line = .inl e):e∈nW:=by
 unfold rd at h
 repeat' split at h
 all_goals first|exact aHS h|exact aJr h|(cases h;decide)|cases h
end
section
section
variable{run:eA}{runY:fA}{r:List DOper}{e:aH}{h:XH}{ix:Nat}{d:Option Nat}{m:Option (List (Nat×Nat))}
def aVA:AV→Option Eff
 | .str s=>some (.new none (.obj true (.stringIter s 0)) fun b=>.pt b 0)
 | _=>none
theorem bV{x:AO}:xo m run runY (⟨ix,d,.rngs x,none⟩::r) e h=kE m run runY r d e h true (aVA (aL e x)):=by
 have h0:aD (.rngs x) e (aI h)=aVA (aL e x):=by rfl
 rw[←h0];exact xK rfl (fun _=>rfl) (fun _=>rfl) fun _ _=>rfl
theorem bW{s:ByteArray}:aVA (.str s)=some (.new none (.obj true (.stringIter s 0)) fun b=>.pt b 0):=rfl
theorem bX{x:AO}:xo none run runY (⟨ix,d,.nxts x,none⟩::r) e h=kR none run runY r d e (aHh h (aL e x)):=by
 show fI run runY _ e h=_;simp only[fI,gd,cS];cases aHh h (aL e x)<;>rfl
def dk(s:ByteArray)(i:Nat):Int:=(Utf8.decode s i).1
def dn(s:ByteArray)(i:Nat):Nat:=i+(Utf8.decode s i).2
def nxI(b:Nat)(h:XH)(g:Bool)(s:ByteArray)(pos:Nat)(p:Bool):AV×XH:=if p then (.tup [.bool true,.int .i64 (pos:Int),.int .i32 (dk s pos)],h.set b (some (.blk g (.obj true (.stringIter s (dn s pos)))))) else (.tup [.bool false],h)
def nxM(b:Nat)(h:XH):Option XB→Option (AV×XH)
 | some (.blk g (.obj true (.stringIter s pos)))=>some (nxI b h g s pos (decide (pos<s.size)))
 | _=>none
theorem gR{b:Nat}:aHh h (.pt b 0)=nxM b h (hat h b):=by
 simp only[aHh,nxM,nxI];split
 ·rename_i g s pos hh
  rw[hh];by_cases hp:pos<s.size;·simp[hp,dk,dn]
  ·simp[hp]
 grind
theorem dI{b:Nat}{g:Bool}{s:ByteArray}{pos:Nat}:nxM b h (some (.blk g (.obj true (.stringIter s pos))))=some (nxI b h g s pos (decide (pos<s.size))):=rfl
theorem dH{b:Nat}{g:Bool}{s:ByteArray}{pos:Nat}:nxI b h g s pos true=(.tup [.bool true,.int .i64 (pos:Int),.int .i32 (dk s pos)],h.set b (some (.blk g (.obj true (.stringIter s (dn s pos)))))):=rfl
theorem dJ{b:Nat}{g:Bool}{s:ByteArray}{pos:Nat}:nxI b h g s pos false=(.tup [.bool false],h):=rfl
end
theorem dK:wL 5 .nilifc .nilifc=some true:=rfl
theorem dL{t:TypeId}{a:AV}:wL 5 (.ifc t a) .nilifc=some false:=rfl
def fmL:List (ByteArray×ByteArray):=[(AAo,⟨⟨[102]⟩⟩),(AAp,AAA),(AAq,⟨⟨[110]⟩⟩),(AAr,⟨⟨[]⟩⟩),(AAs,⟨⟨[109,110]⟩⟩),(AAt,AAB),(AAu,⟨⟨[102]⟩⟩),(AAv,⟨⟨[]⟩⟩),(AAw,⟨⟨[110]⟩⟩),(AAx,⟨⟨[109]⟩⟩),(AAy,⟨⟨[112]⟩⟩),(AAz,⟨⟨[102]⟩⟩)]
def fmE:List (AV×AV):=fmL.map fun p:ByteArray×ByteArray=>(.str p.1,.str p.2)
abbrev fmA:Option XB:=some (.blk true (.map true fmE))
theorem w84:runW aB 51 [] []=some (.mp 0,[fmA]):=bJ.2 ⟨20,by kernel_rfl⟩
theorem aLc{w:ByteArray}:∀ l:List (ByteArray×ByteArray),aR 1 (.str w) (l.map fun p:ByteArray×ByteArray=>(AV.str p.1,AV.str p.2))=some ((l.find? fun p=>decide (w=p.1)).map fun p=>.str p.2)
 | []=>rfl
 | p::l=>by
   have ih:=aLc (w:=w) l;show (match eM 1 (.str w) (.str p.1)with
    | some true=>some (some (AV.str p.2))
    | some false=>aR 1 (.str w) (l.map fun p:ByteArray×ByteArray=>(AV.str p.1,AV.str p.2))
    | none=>none)=_
   have hk:eM 1 (.str w) (.str p.1)=some (decide (w=p.1)):=AAn some (aHb w p.1)
   grind
theorem aZc{s c:ByteArray}(hc:c=⟨⟨[32]⟩⟩)(hs:s.size≤100000):runW aB 50 [.str s,.str c] []=some (.fs ((cA s).map fun w=>[.str w]),[]):=by
 subst hc;rw[eJ (d:=oF zS) rfl rfl]
 simp_all [zS,cA]
theorem w86{s:ByteArray}(hs:s.size≤100000):runW aB 53 [.str s] []=some (qJ s,[]):=by
 rw[eJ (d:=oF aCQ) rfl rfl]
 simp_all [aCQ]
theorem aBK(a b:ByteArray):aY BinOp.eql a b=some (.bool (decide (a=b))):=by
 have:=yW a b
 simp_all [aY]
def sr(l:List ByteArray):List (List AV):=l.map fun x=>[.str x]
theorem tH(l:List ByteArray):(sr l).length=l.length:=by simp[sr]
theorem aKs{l:List ByteArray}{i:Nat}{x:ByteArray}(h:l[i]?=some x):(sr l)[i]?=some [.str x]:=by simp[sr,h]
theorem aNR(l:List ByteArray):((sr l).all fun r=>r.length==1)=true:=by simp[sr]
theorem aKr(w:ByteArray)(l:List ByteArray):((sr (w::l)).drop 1).take (l.length+1-1)=sr l:=by
 have:(sr l).take l.length=sr l:=C8 (by simp[sr]);exact this
structure aEc(F:ByteArray):Prop where
 dn:∀ i,i<F.size→dn F i=i+1
def xB(F:ByteArray)(xs:List ByteArray)(i:Nat):List Int:=(List.range F.size).map fun j=>if j<i∧dk F j=110 then (cX (xs.getD j ByteArray.empty)).getD 0 else 0
abbrev lO(w0:ByteArray)(xs:List ByteArray)(ns:List Int)(n:Nat):XH:=[some (.blk true (.cells true [.str ⟨⟨[]⟩⟩,.nilsl,.nilsl])),some (.blk false (.cells true [.str w0,.fs (sr xs),.sl 2 0 1 n])),some (.blk true (.cells true (ns.map I)))]
def kW(F:ByteArray)(i:Nat):Option XB:=some (.blk true (.obj true (.stringIter F i)))
def zN(n:Nat):List Int:=List.replicate n 0
theorem aKg(n:Nat):(List.replicate n [AV.int .i64 0]).flatten=(zN n).map I:=by
 simp[zN]
section
variable{F w0 line:ByteArray}{xs:List ByteArray}
theorem aKA(hl:xs.length=F.size)(hF:F.size≤4)(ok:aEc F){ns:List Int}{i:Nat}(hi:i<F.size){y:ByteArray}(hy:xs[i]?=some y)(hys:y.size≤1000)(hn:dk F i=110∨bH y=true) :
 bP 0 [2,4,6,47] (execW aB 26 0 none (match aBc with | .loop _ a=>a|c=>c) (aZ [2,4,6,47] [.pt 0 0,.str F,.pt 1 0,.pt 3 0]) (lO w0 xs ns F.size++[kW F i]))=some ([.pt 0 0,.str F,.pt 1 0,.pt 3 0],lO w0 xs ns F.size++[kW F (i+1)]):=by
 have d1:(i<F.size)=True:=AAk hi;have d2:=ok.dn i hi;have d3:((i:Int)<(F.size:Int))=True:=AAa;have sl:=tH xs;rw[hl]at sl;have sa:=aKs hy;have c8:=wH 8;have c85:=w85 (s:=y) AM;unfold aBc kW lO;dsimp only;by_cases h1:dk F i=110
 ·have e1:(dk F i=110)=True:=AAk h1
  (exact lR d1 d2 d3 sl sa c8 e1 @bV @bW @bX @gR @dI @dH @dJ @dK @dL aG aG aG aG)
 ·have e1:(dk F i=110)=False:=AAl h1
  rw[hn.resolve_left h1]at c85;(exact lR d1 d2 d3 sl sa c8 e1 c85 @bV @bW @bX @gR @dI @dH @dJ @dK @dL aG aG aG)
theorem aGx(F:ByteArray)(xs:List ByteArray)(i:Nat):(xB F xs i).length=F.size:=by simp[xB]
theorem aVY{F:ByteArray}{xs:List ByteArray}{i:Nat}{y:ByteArray}{v:Int}(hi:i<F.size)(hy:xs[i]?=some y)(hk:dk F i=110)(hv:cX y=some v):xB F xs (i+1)=aOd (xB F xs i) i v:=by
 rw[aOc (by grind [aGx])];apply J1
 grind [xB]
theorem aVZ{F:ByteArray}{xs:List ByteArray}{i:Nat}(hk:dk F i≠110):xB F xs (i+1)=xB F xs i:=by
 grind [xB]
theorem aUd(F:ByteArray)(xs:List ByteArray):xB F xs 0=zN F.size:=by
 unfold xB zN;apply J1
 grind
theorem jV{y:ByteArray}{v:Int}(h:cX y=some v):Lib.atoiAll y.data.toList = .ok v∧0≤v∧v≤99999∧(⟨⟨Lib.itoa v⟩⟩:ByteArray)=y:=by
 unfold cX at h;split at h
 ·rename_i u hu
  split at h;all_goals simp_all
 ·cases h
theorem aRQ(hl:xs.length=F.size)(hF:F.size≤4)(ok:aEc F){i:Nat}(hi:i<F.size){y:ByteArray}(hy:xs[i]?=some y)(hys:y.size≤1000)(hn:dk F i=110→∃ v,cX y=some v) :
 bP 0 [2,6,64] (execW aB 26 0 none (match aBY with | .loop _ a=>a|c=>c) (aZ [2,6,64] [.pt 0 0,.pt 1 0,.pt 3 0]) (lO w0 xs (xB F xs i) F.size++[kW F i]))=some ([.pt 0 0,.pt 1 0,.pt 3 0],lO w0 xs (xB F xs (i+1)) F.size++[kW F (i+1)]):=by
 have d1:(i<F.size)=True:=AAk hi;have d2:=ok.dn i hi;have d3:((i:Int)<(F.size:Int))=True:=AAa;have sl:=tH xs;rw[hl]at sl;have sa:=aKs hy;by_cases h1:dk F i=110
 ·obtain⟨v,hv⟩:=hn h1
  obtain⟨v1,v2,v3,v4⟩:=jV hv;have e1:(dk F i=110)=True:=AAk h1;have c86:runW aB 53 [.str y] []=some (.tup [I v,.nilifc],[]):=by
   rw[w86 AM];unfold qJ;rw[v1]
  have c35:=w35 0 v 99999;rw[show (decide (0≤v)&&decide (v≤99999))=true by grind]at c35;have c57:=aEe (n:=v) AM;rw[v4]at c57;have c58:=wH 2;have se:=aBK y y;rw[AAi rfl]at se;have nl:=aGx F xs i;have lt1:(i+1≤F.size)=True:=AAa;rw[aVY hi hy h1 hv];generalize xB F xs i=N0 at *;unfold aBY kW lO;dsimp only;(exact vG d1 d2 d3 sl sa e1 c86 c35 c57 c58 se nl lt1 @bV @bW @bX @gR @dI @dH @dJ @dK @dL aG aG aG aG)
 ·have e1:(dk F i=110)=False:=AAl h1
  rw[aVZ h1];unfold aBY kW lO;dsimp only;(exact lR d1 d2 d3 sl sa e1 @bV @bW @bX @gR @dI @dH @dJ @dK @dL aG aG aG aG aG)
end
end
end Go.Proofs.YtjckchgdlbgolaaGreatDoor
namespace Go.DL
variable{P:Program}{D:Nat→Option XFn}
theorem CalP.drop{g:Nat}{xs0:List AV}{v:AV}{h':XH}(hp:CalP P D g xs0 [] v h')(hv:Gd v):CalP P D g xs0 [] v []:=by
 intro B Y r H as' hY sh hA;refine FnP.mono ?_ (hp B Y r H as' hY sh hA);rintro v' H' ⟨r',_,sh',rn⟩;have rno:∀ b c,r b=some c→False:=fun b c hb=>by have:=sh.dom b c hb;simp at this
 have s0:SH D Y r [] H':=⟨fun b c hb=>(rno b c hb).elim,fun b c c' x y hx=>by grind,fun b x hx=>by simp[hat]at hx,GhR.no fun b st p hx=>by simp[hat]at hx⟩;refine⟨r,Sub.refl r,s0,?_⟩;rw[(rn.same hv.gr).1];exact hv.rn
end Go.DL
namespace Go.Proofs.YtjckchgdlbgolaaGreatDoor
open Go Go.DL
section
variable{F w0 line:ByteArray}{xs W:List ByteArray}{v:AV}{e':aH}{h':XH}
abbrev bA:XH:=[some (.blk true (.cells true [.str ⟨⟨[]⟩⟩,.nilsl,.nilsl]))]
theorem aTd(hs:40<line.size):CalP Tryz.prog aB 26 [.str line] [] (.ifc 84 (.agg [I 14])) []:=by
 refine CalP.drop (h':=bA) ?_ (.ifc _ _ (.agg _ fun a ha=>by rw[C6.1 ha];exact .int _ _));refine CalP.of (d:=x26) (e':=aZ [] []) aA rfl (by simp[x26]) rfl ?_;have t1:((line.size:Int)≤40)=False:=AAb;unfold x26;dsimp only;refine PanX.seqR (K:=26) aA rfl [0,2] (vs:=[.str line,.pt 0 0]) (h1:=bA) (by (exact RS9 @bV @bW @bX @gR @dI @dH @dJ @dK @dL)) ?_;refine PanX.seqL ?_;exact PanX.reg (p:=[⟨0,some 13,.mv (.t 0),none⟩,⟨0,some 14,.len true (.t 13),none⟩,⟨0,some 15,.bin .leq (.t 14) (.c (.int .i64 40)),none⟩]) (post:=[]) aA [] (g:=24) (first:=[]) (cap:=[]) (args:=[.bool false,I 14]) (vs:=[]) (h1:=bA) rfl rfl (by (exact pE t1 @bV @bW @bX @gR @dI @dH @dJ @dK @dL)) (c58 14 _)
def r4c:XCode:=match x26.body with | .seq _ (.seq _ (.seq _ (.seq _ r)))=>r|c=>c
theorem aVN(hs:line.size≤40)(hw:cA line=w0::xs){f:ByteArray}{b:Bool}(hf:aDm true (.str ⟨⟨[]⟩⟩) (aR 1 (.str w0) fmE)=some (.tup [.str f,.bool b]))(hp:PanX Tryz.prog aB x26 0 r4c (aZ [2,3,4,5] [.pt 0 0,.fs (sr (w0::xs)),.str f,.bool b]) (bA++[fmA]) v e' h'):PanX Tryz.prog aB x26 0 x26.body (aV [.str line]) [] v e' h':=by
 have c83:runW aB 50 [.str line,.str ⟨#[32]⟩] []=some (.fs (sr (cA line)),[]):=aZc (s:=line) (c:=⟨#[32]⟩) rfl AM;have aQz:=wH 14;rw[hw]at c83;have r0:(sr (w0::xs))[0]?=some [.str w0]:=rfl;have rl:=tH (w0::xs);rw[D9]at rl;have t40:((line.size:Int)≤40)=True:=AAa;have n0:((0:Int)<((xs.length+1:Nat):Int))=True:=AAa;generalize sr (w0::xs)=R at *;unfold r4c at hp;unfold x26 at *;dsimp only at *;refine PanX.seqR (K:=26) aA rfl [0,2] (vs:=[.str line,.pt 0 0]) (h1:=bA) (by (exact RS9 @bV @bW @bX @gR @dI @dH @dJ @dK @dL)) ?_;refine PanX.seqR (K:=26) aA rfl [0,2] (vs:=[.str line,.pt 0 0]) (h1:=bA) (by (exact oI aQz t40 @bV @bW @bX @gR @dI @dH @dJ @dK @dL aG aG)) ?_;refine PanX.seqR (K:=26) aA rfl [2,3] (vs:=[.pt 0 0,.fs R]) (h1:=bA) (by (exact pE c83 @bV @bW @bX @gR @dI @dH @dJ @dK @dL)) ?_;exact PanX.seqR (K:=26) aA rfl [2,3,4,5] (vs:=[.pt 0 0,.fs R,.str f,.bool b]) (h1:=bA++[fmA]) (by (exact lR w84 hf r0 rl n0 @bV @bW @bX @gR @dI @dH @dJ @dK @dL aG aG aG aG aG aG)) hp
theorem aTe(hs:line.size≤40)(hw:cA line=w0::xs){f:ByteArray}{b:Bool}(hf:aDm true (.str ⟨⟨[]⟩⟩) (aR 1 (.str w0) fmE)=some (.tup [.str f,.bool b]))(hF:f.size≤4)(hn:b=true→xs.length≠f.size):CalP Tryz.prog aB 26 [.str line] [] (.ifc 84 (.agg [I 13])) []:=by
 refine CalP.drop (h':=bA++[fmA]) ?_ (.ifc _ _ (.agg _ fun a ha=>by rw[C6.1 ha];exact .int _ _));refine CalP.of (d:=x26) (e':=aZ [] []) aA rfl (by simp[x26]) rfl ?_;refine aVN hs hw hf ?_;have rl:=tH (w0::xs);rw[D9]at rl;have a1:IntKind.i64.wrap ((f.size:Int)+1)=((f.size+1:Nat):Int):=by grind [aE]
 have e1:b=true→(((xs.length+1:Nat):Int)=((f.size+1:Nat):Int))=False:=fun h=>AAl (by grind);generalize sr (w0::xs)=R at *;unfold r4c x26;dsimp only;refine PanX.seqL ?_;refine PanX.reg (p:=[⟨0,some 27,.mv (.t 5),none⟩,⟨0,some 28,.mv (.t 27),none⟩,⟨0,some 29,.mv (.t 3),some (28,true)⟩,⟨0,some 30,.len false (.t 29),some (28,true)⟩,⟨0,some 31,.mv (.t 4),some (28,true)⟩,⟨0,some 32,.len true (.t 31),some (28,true)⟩,⟨0,some 33,.bin .add (.t 32) (.c (.int .i64 1)),some (28,true)⟩,⟨0,some 34,.bin .eql (.t 30) (.t 33),some (28,true)⟩,⟨0,some 35,.pick (.t 28) (.t 34) (.c (.bool false)),none⟩]) (post:=[]) aA [] (g:=24) (first:=[]) (cap:=[]) (args:=[.bool false,I 13]) (vs:=[]) (h1:=bA++[fmA]) rfl rfl ?_ (c58 13 _);cases b with
 | false=>rfl
 | true =>
   have e1:=e1 rfl;(exact oI rl a1 e1 @bV @bW @bX @gR @dI @dH @dJ @dK @dL aG)
def r6c:XCode:=match r4c with | .seq _ (.seq _ r)=>r|c=>c
abbrev a60(F w0:ByteArray)(xs:List ByteArray):XH:=[some (.blk true (.cells true [.str ⟨⟨[]⟩⟩,.nilsl,.nilsl])),fmA,some (.blk true (.cells true ((zN F.size).map I))),some (.blk false (.cells true [.str w0,.fs (sr xs),.sl 2 0 1 F.size]))]
theorem bAd(hl:xs.length=F.size)(hF:F.size≤4)(hp:PanX Tryz.prog aB x26 0 r6c (aZ [2,4,6] [.pt 0 0,.str F,.pt 3 0]) (a60 F w0 xs) v e' h'):PanX Tryz.prog aB x26 0 r4c (aZ [2,3,4,5] [.pt 0 0,.fs (sr (w0::xs)),.str F,.bool true]) (bA++[fmA]) v e' h':=by
 have aQy:=wH 13;have r0:(sr (w0::xs))[0]?=some [.str w0]:=rfl;have rl:=tH (w0::xs);rw[D9,hl]at rl;have ra:=aNR (w0::xs);have rt:=aKr w0 xs;rw[hl]at rt;have n0:((0:Int)<((F.size+1:Nat):Int))=True:=AAa;have n1:((1:Int)≤((F.size+1:Nat):Int))=True:=AAa;have a1:IntKind.i64.wrap ((F.size:Int)+1)=((F.size+1:Nat):Int):=by grind [aE]
 have z0:((0:Int)≤(F.size:Int))=True:=AAa;have z1:((8:Int)*(F.size:Int)≤281474976710656)=True:=AAa;have z3:((F.size:Int)≤(F.size:Int))=True:=AAa;have z4:((F.size:Int)).toNat=F.size:=Int.toNat_natCast _;have z5:=aKg F.size;have z2:((F.size:Int)≤9223372036854775807)=True:=AAa;unfold r6c at hp;generalize sr (w0::xs)=R at *;unfold r4c x26 at *;dsimp only at *;refine PanX.seqR (K:=26) aA rfl [2,3,4] (vs:=[.pt 0 0,.fs R,.str F]) (h1:=bA++[fmA]) (by (exact oI aQy rl a1 @bV @bW @bX @gR @dI @dH @dJ @dK @dL aG)) ?_;exact PanX.seqR (K:=26) aA rfl [2,4,6] (vs:=[.pt 0 0,.str F,.pt 3 0]) (h1:=a60 F w0 xs) (by (exact vG r0 rl ra rt n0 n1 z0 z1 z2 z3 z4 z5 @bV @bW @bX @gR @dI @dH @dJ @dK @dL aG aG aG aG aG)) hp
theorem bAk(hl:xs.length=F.size)(hF:F.size≤4)(ok:aEc F)(hys:∀ y∈xs,y.size≤1000){i:Nat}(hi:i<F.size){y:ByteArray}(hy:xs[i]?=some y)(hk:dk F i≠110)(hb:bH y=false)(hn:∀ j,j<i→∀ z,xs[j]?=some z→dk F j=110∨bH z=true) :
 PanX Tryz.prog aB x26 0 r6c (aZ [2,4,6] [.pt 0 0,.str F,.pt 3 0]) (a60 F w0 xs) (.ifc 84 (.agg [I 8])) (aZ [] []) (lO w0 xs (zN F.size) F.size++[kW F (i+1)]):=by
 have d1:(i<F.size)=True:=AAk hi;have d2:=ok.dn i hi;have d3:((i:Int)<(F.size:Int))=True:=AAa;have sl:=tH xs;rw[hl]at sl;have sa:=aKs hy;have c85:=w85 (s:=y) (by grind);rw[hb]at c85;have e1:(dk F i=110)=False:=AAl hk;unfold r6c r4c x26;dsimp only;refine PanX.seqL ?_;refine PanX.seqR (K:=26) aA rfl [2,4,6,47] (vs:=[.pt 0 0,.str F,.pt 3 0,.pt 4 0]) (h1:=a60 F w0 xs++[kW F 0]) (by unfold a60 kW; (exact RS9 @bV @bW @bX @gR @dI @dH @dJ @dK @dL)) ?_;refine PanX.block ?_;have rd:=fun j (hj:j<i)=>aKA (w0:=w0) (ns:=zN F.size) hl hF ok (i:=j) AM (y:=xs.getD j ByteArray.empty) (by grind) (hys _ (by grind)) (hn j hj _ (by grind));unfold aBc at rd ⊢;refine PanX.loop (K:=26) aA rfl i (fun _=>[.pt 0 0,.str F,.pt 1 0,.pt 3 0]) (fun j=>lO w0 xs (zN F.size) F.size++[kW F j]) ?_ rd ?_;·rfl
 ·refine PanX.seqR (K:=26) aA rfl [6,48,49] (vs:=[.pt 1 0,.tup [.bool true,I (i:Nat),.int .i32 (dk F i)],.bool true]) (h1:=lO w0 xs (zN F.size) F.size++[kW F (i+1)]) (by unfold lO kW; (exact oI d1 d2 @bV @bW @bX @gR @dI @dH @dJ @dK @dL aG aG)) ?_
  refine PanX.seqR (K:=26) aA rfl [6,48] (vs:=[.pt 1 0,.tup [.bool true,I (i:Nat),.int .i32 (dk F i)]]) (h1:=lO w0 xs (zN F.size) F.size++[kW F (i+1)]) (by unfold lO kW; (exact RS9 @bV @bW @bX @gR @dI @dH @dJ @dK @dL)) ?_;refine PanX.block ?_;refine PanX.seqR (K:=26) aA rfl [6,7,8] (vs:=[.pt 1 0,I (i:Nat),.int .i32 (dk F i)]) (h1:=lO w0 xs (zN F.size) F.size++[kW F (i+1)]) (by unfold lO kW; (exact RS9 @bV @bW @bX @gR @dI @dH @dJ @dK @dL)) ?_;exact PanX.reg (p:=[⟨0,some 52,.mv (.t 8),none⟩,⟨0,some 53,.bin .eql (.t 52) (.c (.int .i32 110)),none⟩,⟨0,some 54,.mv (.t 53),none⟩,⟨0,some 55,.fld 1 (.t 6),some (54,false)⟩,⟨0,some 56,.load false 1 (.t 55),some (54,false)⟩,⟨0,some 57,.mv (.t 7),some (54,false)⟩,⟨0,some 58,.idx 1 (.t 56) (.t 57),some (54,false)⟩,⟨0,some 59,.load false 1 (.t 58),some (54,false)⟩,⟨0,some 60,.callf false (.c (.fn (.func 52) [] [])) [.t 59] [],some (54,false)⟩,⟨0,some 61,.pick (.t 54) (.c (.bool true)) (.t 60),none⟩]) (post:=[]) aA [] (g:=24) (first:=[]) (cap:=[]) (args:=[.bool false,I 8]) (vs:=[]) (h1:=lO w0 xs (zN F.size) F.size++[kW F (i+1)]) rfl rfl (by unfold lO kW; (exact lR e1 d3 sl sa c85 @bV @bW @bX @gR @dI @dH @dJ @dK @dL aG aG aG aG aG aG)) (c58 8 _)
def Ws(F:ByteArray)(xs:List ByteArray):Prop:=xs.length=F.size∧F.size≤4∧aEc F∧∀ y∈xs,y.size≤1000
theorem aQG{i:Nat}(hi:i<xs.length):xs[i]?=some (xs.getD i ByteArray.empty)∧xs.getD i ByteArray.empty∈xs:=by
 grind
theorem aZO(ws:Ws F xs)(hn:∀ j,j<F.size→dk F j=110∨bH (xs.getD j ByteArray.empty)=true){ns:List Int}(j:Nat)(hj:j<F.size) :
 bP 0 [2,4,6,47] (execW aB 26 0 none (match aBc with | .loop _ a=>a|c=>c) (aZ [2,4,6,47] [.pt 0 0,.str F,.pt 1 0,.pt 3 0]) (lO w0 xs ns F.size++[kW F j]))=some ([.pt 0 0,.str F,.pt 1 0,.pt 3 0],lO w0 xs ns F.size++[kW F (j+1)]):=by
 obtain⟨h1,h2,h3,h4⟩:=ws
 grind [aKA]
theorem aZN(ws:Ws F xs){i:Nat}(hn:∀ j,j<i→dk F j=110→∃ v,cX (xs.getD j ByteArray.empty)=some v)(j:Nat)(hji:j<i)(hj:j<F.size) :
 bP 0 [2,6,64] (execW aB 26 0 none (match aBY with | .loop _ a=>a|c=>c) (aZ [2,6,64] [.pt 0 0,.pt 1 0,.pt 3 0]) (lO w0 xs (xB F xs j) F.size++[kW F j]))=some ([.pt 0 0,.pt 1 0,.pt 3 0],lO w0 xs (xB F xs (j+1)) F.size++[kW F (j+1)]):=by
 obtain⟨h1,h2,h3,h4⟩:=ws;obtain⟨k1,k2⟩:=aQG (xs:=xs) (i:=j) AM
 grind [aRQ]
theorem l60(ws:Ws F xs)(hn:∀ j,j<F.size→dk F j=110∨bH (xs.getD j ByteArray.empty)=true) :
 rJ [2,4,6] (execW aB 26 0 none (match r6c with | .seq a _=>a|c=>c) (aZ [2,4,6] [.pt 0 0,.str F,.pt 3 0]) (a60 F w0 xs))=some (.normal,[.pt 0 0,.str F,.pt 1 0],lO w0 xs (zN F.size) F.size++[kW F F.size]):=by
 have e0:(F.size<F.size)=False:=AAb;unfold r6c r4c x26;dsimp only;sym =>
  simp[bV,bW,bX,gR,dI,dH,dJ,dK,dL,Za,Zb,Zf,Zh,Zl,Zm,Zo,Zv,ZP,Yc,Y4,V3,VC,UW,UZ,Tb,Tc,Th,Ti,Tn,Tp,T8,SQ,Ra,Re,Rf,Rg,Rh,Rl,Ro,PP]
  tactic =>
   have rd:=aZO (w0:=w0) (ns:=zN F.size) ws hn;unfold aBc at rd ⊢;rw[aQ F.size (fun _=>[.pt 0 0,.str F,.pt 1 0,.pt 3 0]) (fun i=>lO w0 xs (zN F.size) F.size++[kW F i])]
   ·unfold kW lO
    (exact pE e0 @bV @bW @bX @gR @dI @dH @dJ @dK @dL)
   ·rfl
   ·exact rd
   ·unfold kW lO
    (exact pE e0 @bV @bW @bX @gR @dI @dH @dJ @dK @dL)
def r7c:XCode:=match r6c with | .seq _ r=>r|c=>c
theorem aMM{y:ByteArray}(h:cX y=none):(∃ u,Lib.atoiAll y.data.toList = .ok u∧(decide (0≤u)&&decide (u≤99999))=false)∨(∃ u,Lib.atoiAll y.data.toList = .ok u∧(0≤u∧u≤99999)∧aY .eql ⟨⟨Lib.itoa u⟩⟩ y=some (.bool false))∨∃ u,qJ y = .tup [I u,.ifc 245 .any]:=by
 unfold cX at h;cases hA:Lib.atoiAll y.data.toList with
 | ok u =>
   grind [aBK,decide_eq_false_iff_not]
 | _=>simp_all [qJ]
theorem bAj(ws:Ws F xs){i:Nat}(hi:i<F.size){y:ByteArray}(hy:xs[i]?=some y)(hk:dk F i=110)(hb:cX y=none)(hn:∀ j,j<i→dk F j=110→∃ v,cX (xs.getD j ByteArray.empty)=some v) :
 PanX Tryz.prog aB x26 0 r7c (aZ [2,4,6] [.pt 0 0,.str F,.pt 1 0]) (lO w0 xs (zN F.size) F.size++[kW F F.size]) (.ifc 84 (.agg [I 2])) (aZ [] []) (lO w0 xs (xB F xs i) F.size++[kW F (i+1)]):=by
 have d1:(i<F.size)=True:=AAk hi;have d2:=ws.2.2.1.dn i hi;have d3:((i:Int)<(F.size:Int))=True:=AAa;have sl:=tH xs;rw[ws.1]at sl;have sa:=aKs hy;have e1:(dk F i=110)=True:=AAk hk;have c86:=w86 (s:=y) (by grind [Ws]);unfold r7c r6c r4c x26;dsimp only;refine PanX.seqL ?_;refine PanX.seqR (K:=26) aA rfl [2,6,64] (vs:=[.pt 0 0,.pt 1 0,.pt 4 0]) (h1:=lO w0 xs (zN F.size) F.size++[kW F F.size,kW F 0]) (by unfold lO kW; (exact RS9 @bV @bW @bX @gR @dI @dH @dJ @dK @dL)) ?_;refine PanX.block ?_;have rd:=fun j (hj:j<i)=>aZN (w0:=w0) ws hn j hj AM;unfold aBY at rd ⊢;refine PanX.loop (K:=26) aA rfl i (fun _=>[.pt 0 0,.pt 1 0,.pt 3 0]) (fun j=>lO w0 xs (xB F xs j) F.size++[kW F j]) ?_ rd ?_
 ·rw[aUd]
  rfl
 ·generalize xB F xs i=N0
  refine PanX.seqR (K:=26) aA rfl [6,65,66] (vs:=[.pt 1 0,.tup [.bool true,I (i:Nat),.int .i32 (dk F i)],.bool true]) (h1:=lO w0 xs N0 F.size++[kW F (i+1)]) (by unfold lO kW; (exact oI d1 d2 @bV @bW @bX @gR @dI @dH @dJ @dK @dL aG aG)) ?_;refine PanX.seqR (K:=26) aA rfl [6,65] (vs:=[.pt 1 0,.tup [.bool true,I (i:Nat),.int .i32 (dk F i)]]) (h1:=lO w0 xs N0 F.size++[kW F (i+1)]) (by unfold lO kW; (exact RS9 @bV @bW @bX @gR @dI @dH @dJ @dK @dL)) ?_;refine PanX.block ?_;refine PanX.seqR (K:=26) aA rfl [6,9,10] (vs:=[.pt 1 0,I (i:Nat),.int .i32 (dk F i)]) (h1:=lO w0 xs N0 F.size++[kW F (i+1)]) (by unfold lO kW; (exact RS9 @bV @bW @bX @gR @dI @dH @dJ @dK @dL)) ?_;refine PanX.seqR (K:=26) aA rfl [6,9,70] (vs:=[.pt 1 0,I (i:Nat),.bool true]) (h1:=lO w0 xs N0 F.size++[kW F (i+1)]) (by unfold lO kW; (exact pE e1 @bV @bW @bX @gR @dI @dH @dJ @dK @dL)) ?_;refine PanX.condT rfl ?_;rcases aMM hb with ⟨u,hA,hc⟩|⟨u,hA,hc,hs⟩|⟨u,hA⟩
  ·have av:qJ y = .tup [I u,.nilifc]:=by unfold qJ;rw[hA]
   rw[av]at c86;have c35:=w35 0 u 99999;rw[hc]at c35;refine PanX.seqR (K:=26) aA rfl [6,9,11,12] (vs:=[.pt 1 0,I (i:Nat),I u,.nilifc]) (h1:=lO w0 xs N0 F.size++[kW F (i+1)]) (by unfold lO kW; (exact oI d3 sl sa c86 @bV @bW @bX @gR @dI @dH @dJ @dK @dL)) ?_;refine PanX.seqL ?_;exact PanX.regU (fr:=[]) (p:=[⟨0,some 80,.mv (.t 12),none⟩,⟨1,some 81,.eqn 5 false (.t 80) (.c .nilifc),none⟩,⟨2,some 82,.mv (.t 81),none⟩,⟨3,some 83,.mv (.t 11),some (82,true)⟩,⟨4,some 84,.callf false (.c (.fn (.func 54) [] [])) [(.c (.int .i64 0)),(.t 83),(.c (.int .i64 99999))] [],some (82,true)⟩,⟨5,some 85,.pick (.t 82) (.t 84) (.c (.bool false)),none⟩,⟨6,some 86,.mv (.t 85),none⟩,⟨7,some 87,.mv (.t 11),some (86,true)⟩,⟨9,some 89,.fld 1 (.t 6),some (86,true)⟩,⟨10,some 90,.load false 1 (.t 89),some (86,true)⟩,⟨11,some 91,.mv (.t 9),some (86,true)⟩,⟨12,some 92,.idx 1 (.t 90) (.t 91),some (86,true)⟩,⟨13,some 93,.load false 1 (.t 92),some (86,true)⟩,⟨8,some 88,.callf false (.c (.fn (.func 23) [] [])) [(.t 87)] [10,13],some (86,true)⟩,⟨14,some 94,.bin .eql (.t 88) (.t 93),some (86,true)⟩,⟨15,some 95,.pick (.t 86) (.t 94) (.c (.bool false)),none⟩]) (post:=[]) aA [] (g:=24) (first:=[]) (cap:=[]) (args:=[.bool false,I 2]) (vs:=[]) rfl rfl rfl (by unfold lO kW; (exact pE c35 @bV @bW @bX @gR @dI @dH @dJ @dK @dL)) (c58 2 _)
  ·have av:qJ y = .tup [I u,.nilifc]:=by unfold qJ;rw[hA]
   rw[av]at c86;have c35:=w35 0 u 99999;rw[show (decide (0≤u)&&decide (u≤99999))=true by grind]at c35;have c57:=aEe (n:=u) AM;refine PanX.seqR (K:=26) aA rfl [6,9,11,12] (vs:=[.pt 1 0,I (i:Nat),I u,.nilifc]) (h1:=lO w0 xs N0 F.size++[kW F (i+1)]) (by unfold lO kW; (exact oI d3 sl sa c86 @bV @bW @bX @gR @dI @dH @dJ @dK @dL)) ?_;refine PanX.seqL ?_;exact PanX.regU (fr:=[]) (p:=[⟨0,some 80,.mv (.t 12),none⟩,⟨1,some 81,.eqn 5 false (.t 80) (.c .nilifc),none⟩,⟨2,some 82,.mv (.t 81),none⟩,⟨3,some 83,.mv (.t 11),some (82,true)⟩,⟨4,some 84,.callf false (.c (.fn (.func 54) [] [])) [(.c (.int .i64 0)),(.t 83),(.c (.int .i64 99999))] [],some (82,true)⟩,⟨5,some 85,.pick (.t 82) (.t 84) (.c (.bool false)),none⟩,⟨6,some 86,.mv (.t 85),none⟩,⟨7,some 87,.mv (.t 11),some (86,true)⟩,⟨9,some 89,.fld 1 (.t 6),some (86,true)⟩,⟨10,some 90,.load false 1 (.t 89),some (86,true)⟩,⟨11,some 91,.mv (.t 9),some (86,true)⟩,⟨12,some 92,.idx 1 (.t 90) (.t 91),some (86,true)⟩,⟨13,some 93,.load false 1 (.t 92),some (86,true)⟩,⟨8,some 88,.callf false (.c (.fn (.func 23) [] [])) [(.t 87)] [10,13],some (86,true)⟩,⟨14,some 94,.bin .eql (.t 88) (.t 93),some (86,true)⟩,⟨15,some 95,.pick (.t 86) (.t 94) (.c (.bool false)),none⟩]) (post:=[]) aA [] (g:=24) (first:=[]) (cap:=[]) (args:=[.bool false,I 2]) (vs:=[]) rfl rfl rfl (by unfold lO kW; (exact lR c35 c57 hs d3 sl sa @bV @bW @bX @gR @dI @dH @dJ @dK @dL aG aG aG aG aG)) (c58 2 _)
  ·rw[hA]at c86
   refine PanX.seqR (K:=26) aA rfl [6,9,11,12] (vs:=[.pt 1 0,I (i:Nat),I u,.ifc 245 .any]) (h1:=lO w0 xs N0 F.size++[kW F (i+1)]) (by unfold lO kW; (exact oI d3 sl sa c86 @bV @bW @bX @gR @dI @dH @dJ @dK @dL)) ?_;refine PanX.seqL ?_;exact PanX.regU (fr:=[]) (p:=[⟨0,some 80,.mv (.t 12),none⟩,⟨1,some 81,.eqn 5 false (.t 80) (.c .nilifc),none⟩,⟨2,some 82,.mv (.t 81),none⟩,⟨3,some 83,.mv (.t 11),some (82,true)⟩,⟨4,some 84,.callf false (.c (.fn (.func 54) [] [])) [(.c (.int .i64 0)),(.t 83),(.c (.int .i64 99999))] [],some (82,true)⟩,⟨5,some 85,.pick (.t 82) (.t 84) (.c (.bool false)),none⟩,⟨6,some 86,.mv (.t 85),none⟩,⟨7,some 87,.mv (.t 11),some (86,true)⟩,⟨9,some 89,.fld 1 (.t 6),some (86,true)⟩,⟨10,some 90,.load false 1 (.t 89),some (86,true)⟩,⟨11,some 91,.mv (.t 9),some (86,true)⟩,⟨12,some 92,.idx 1 (.t 90) (.t 91),some (86,true)⟩,⟨13,some 93,.load false 1 (.t 92),some (86,true)⟩,⟨8,some 88,.callf false (.c (.fn (.func 23) [] [])) [(.t 87)] [10,13],some (86,true)⟩,⟨14,some 94,.bin .eql (.t 88) (.t 93),some (86,true)⟩,⟨15,some 95,.pick (.t 86) (.t 94) (.c (.bool false)),none⟩]) (post:=[]) aA [] (g:=24) (first:=[]) (cap:=[]) (args:=[.bool false,I 2]) (vs:=[]) rfl rfl rfl (by rfl) (c58 2 _)
theorem w60(hs:line.size≤40)(hw:cA line=w0::xs)(hf:aR 1 (.str w0) fmE=some (some (.str F)))(ws:Ws F xs)(hn:∀ j,j<F.size→dk F j=110∨bH (xs.getD j ByteArray.empty)=true)(hm:∀ j,j<F.size→dk F j=110→∃ v,cX (xs.getD j ByteArray.empty)=some v) :
 runW aB 26 [.str line] []=some (.agg [.str w0,.fs (sr xs),.fs ((xB F xs F.size).map fun v=>[I v])],[]):=by
 have hl:=ws.1;have hF:=ws.2.1;have c83:runW aB 50 [.str line,.str ⟨#[32]⟩] []=some (.fs (sr (cA line)),[]):=aZc (s:=line) (c:=⟨#[32]⟩) rfl AM;have aQz:=wH 14;have aQy:=wH 13;rw[hw]at c83;have r0:(sr (w0::xs))[0]?=some [.str w0]:=rfl;have rl:=tH (w0::xs);rw[D9,hl]at rl;have ra:=aNR (w0::xs);have rt:=aKr w0 xs;rw[hl]at rt;have t40:((line.size:Int)≤40)=True:=AAa;have n0:((0:Int)<((F.size+1:Nat):Int))=True:=AAa;have n1:((1:Int)≤((F.size+1:Nat):Int))=True:=AAa;have a1:IntKind.i64.wrap ((F.size:Int)+1)=((F.size+1:Nat):Int):=by grind [aE]
 have z0:((0:Int)≤(F.size:Int))=True:=AAa;have z1:((8:Int)*(F.size:Int)≤281474976710656)=True:=AAa;have z3:((F.size:Int)≤(F.size:Int))=True:=AAa;have z4:((F.size:Int)).toNat=F.size:=Int.toNat_natCast _;have z5:=aKg F.size;have z2:((F.size:Int)≤9223372036854775807)=True:=AAa;have e0:(F.size<F.size)=False:=AAb;have nl:=aGx F xs F.size;have ch:bM ((xB F xs F.size).map I) 0 1 F.size=(xB F xs F.size).map fun v=>[I v]:=by
  have h:=rM (f:=I) (xB F xs F.size) []
  grind
 have f1:(F.size≤(xB F xs F.size).length)=True:=AAa;have rd0:=aZO (w0:=w0) (ns:=zN F.size) ws hn;have rd1:=fun j (hj:j<F.size)=>aZN (w0:=w0) ws hm j hj hj;generalize sr (w0::xs)=R at *;rw[qX 26 x26 rfl];unfold x26;dsimp only;sym =>
  simp[bV,bW,bX,gR,dI,dH,dJ,dK,dL,Za,Zb,Zc,Zd,Ze,Zf,Zg,Zh,Zi,Zj,Zl,Zm,Zn,Zo,Zp,Zq,Zv,Zw,Zy,Z0,ZA,ZH,ZJ,ZL,ZO,ZP,ZQ,ZU,ZW,ZX,ZY,ZZ,Ya,Yb,Yc,Yg,Yh,Yi,Yl,Ym,Yn,Yt,Yw,Yy,Yz,Y4,Y5,YC,YF,YJ,YK,YT,YV,Xh,Xp,Xq,Xt,Xu,Xv,Xy,Xz,XI,XJ,XM,Wf,Wh,Wj,Wk,Wn,Wu,Wv,Ww,Wy,Wz,W3,W6,WH,WI,WK,WL,WT,WU,WW,WX,Vd,Ve,Vg,Vr,Vs,Vt,Vu,V1,V3,V4,V5,V6,V7,V8,V9,VA,VB,VC,VJ,VK,VO,VP,VQ,VR,VS,VT,VV,VW,VZ,Ua,Ui,Uj,Uk,Um,Un,Uo,Ut,Uu,Uv,Uw,Ux,Uy,Uz,U0,UB,UC,UD,UG,UH,UJ,UK,UL,UM,UN,UQ,UR,US,UU,UV,UW,UZ,Tb,Tc,Te,Tf,Tg,Th,Ti,Tj,Tm,Tn,Tp,Tq,Tv,Tx,Tz,T0,T1,T2,T7,T8,T9,TS,TT,TU,TV,TW,TX,TY,TZ,Sa,Sc,Sd,Se,Sf,Sg,Si,Sj,Sk,Sq,Sr,Ss,S5,S6,SF,SG,SI,SJ,SK,SL,SM,SN,SQ,SY,Ra,Rb,Re,Rf,Rg,Rh,Rl,Ro,Rp,RC,RF,RH,RI,RY,RZ,Qb,Qg,QL,QM,QO,QR,Pe,Pf,Ph,Pj,Pk,Pl,PC,PD,PE,PG,PH,PP,c83,aQz,aQy,w84,hf,r0,rl,ra,rt,t40,n0,n1,a1,z0,z1,z2,z3,z4,z5]
  tactic =>
   unfold aBc at rd0 ⊢;rw[aQ F.size (fun _=>[.pt 0 0,.str F,.pt 1 0,.pt 3 0]) (fun i=>lO w0 xs (zN F.size) F.size++[kW F i])]
   ·unfold kW lO
    sym =>
     simp[bV,bW,bX,gR,dI,dH,dJ,dK,dL,Za,Zb,Zc,Zd,Ze,Zf,Zg,Zh,Zi,Zj,Zl,Zm,Zn,Zo,Zp,Zq,Zv,Zw,Zy,Z0,ZA,ZH,ZJ,ZL,ZO,ZP,ZQ,ZU,ZW,ZX,ZY,ZZ,Ya,Yb,Yc,Yg,Yh,Yi,Yl,Ym,Yn,Yt,Yw,Yy,Yz,Y4,Y5,YC,YF,YJ,YK,YT,YV,Xh,Xp,Xq,Xt,Xu,Xv,Xy,Xz,XI,XJ,XM,Wf,Wh,Wj,Wk,Wn,Wu,Wv,Ww,Wy,Wz,W3,W6,WH,WI,WK,WL,WT,WU,WW,WX,Vd,Ve,Vg,Vr,Vs,Vt,Vu,V1,V3,V4,V5,V6,V7,V8,V9,VA,VB,VC,VJ,VK,VO,VP,VQ,VR,VS,VT,VV,VW,VZ,Ua,Ui,Uj,Uk,Um,Un,Uo,Ut,Uu,Uv,Uw,Ux,Uy,Uz,U0,UB,UC,UD,UG,UH,UJ,UK,UL,UM,UN,UQ,UR,US,UU,UV,UW,UZ,Tb,Tc,Te,Tf,Tg,Th,Ti,Tj,Tm,Tn,Tp,Tq,Tv,Tx,Tz,T0,T1,T2,T7,T8,T9,TS,TT,TU,TV,TW,TX,TY,TZ,Sa,Sc,Sd,Se,Sf,Sg,Si,Sj,Sk,Sq,Sr,Ss,S5,S6,SF,SG,SI,SJ,SK,SL,SM,SN,SQ,SY,Ra,Rb,Re,Rf,Rg,Rh,Rl,Ro,Rp,RC,RF,RH,RI,RY,RZ,Qb,Qg,QL,QM,QO,QR,Pe,Pf,Ph,Pj,Pk,Pl,PC,PD,PE,PG,PH,PP,e0]
     tactic =>
      unfold aBY at rd1 ⊢;rw[aQ F.size (fun _=>[.pt 0 0,.pt 1 0,.pt 3 0]) (fun i=>lO w0 xs (xB F xs i) F.size++[kW F i])]
      ·unfold kW lO
       generalize xB F xs F.size=N0 at *;(exact oI e0 nl ch f1 @bV @bW @bX @gR @dI @dH @dJ @dK @dL)
      ·unfold kW lO
       rw[aUd];rfl
      ·exact rd1
      ·unfold kW lO
       (exact pE e0 @bV @bW @bX @gR @dI @dH @dJ @dK @dL)
   ·rfl
   ·exact rd0
   ·unfold kW lO
    (exact pE e0 @bV @bW @bX @gR @dI @dH @dJ @dK @dL)
theorem aIl{p:Nat→Prop}[DecidablePred p]{n:Nat}(h:∃ i,i<n∧¬p i):∃ i,i<n∧¬p i∧∀ j,j<i→p j:=by
 obtain⟨i,hi,hp⟩:=h;induction i using Nat.strongRecOn with
 | _ i ih =>
   grind
theorem aPO(e:Int):Gd (.ifc 84 (.agg [I e])):=.ifc _ _ (.agg _ fun a ha=>by rw[C6.1 ha];exact .int _ _)
theorem gN{F:ByteArray}(hf:aR 1 (.str w0) fmE=some (some (.str F))):aDm true (.str ⟨⟨[]⟩⟩) (aR 1 (.str w0) fmE)=some (.tup [.str F,.bool true]):=by rw[hf];rfl
theorem aTc(hs:line.size≤40)(hw:cA line=w0::xs)(hf:aR 1 (.str w0) fmE=some (some (.str F)))(ws:Ws F xs)(hn:∃ j,j<F.size∧¬(dk F j=110∨bH (xs.getD j ByteArray.empty)=true)):CalP Tryz.prog aB 26 [.str line] [] (.ifc 84 (.agg [I 8])) []:=by
 obtain⟨i,hi,hb,hj⟩:=aIl hn;rw[not_or]at hb;obtain⟨k1,k2⟩:=aQG (xs:=xs) (i:=i) (by have:=ws.1;omega);refine CalP.drop (h':=lO w0 xs (zN F.size) F.size++[kW F (i+1)]) ?_ (aPO 8);refine CalP.of (d:=x26) (e':=aZ [] []) aA rfl (by simp[x26]) rfl ?_;refine aVN hs hw (gN hf) (bAd ws.1 ws.2.1 ?_);exact bAk ws.1 ws.2.1 ws.2.2.1 ws.2.2.2 hi k1 hb.1 (by grind) fun j h1 z hz=>by
  grind
theorem aXj(hs:line.size≤40)(hw:cA line=w0::xs)(hf:aR 1 (.str w0) fmE=some (some (.str F)))(ws:Ws F xs)(hn:∀ j,j<F.size→dk F j=110∨bH (xs.getD j ByteArray.empty)=true)(hm:∃ j,j<F.size∧¬(dk F j=110→cX (xs.getD j ByteArray.empty)≠none)):CalP Tryz.prog aB 26 [.str line] [] (.ifc 84 (.agg [I 2])) []:=by
 obtain⟨i,hi,hb,hj⟩:=aIl hm;obtain⟨k1,k2⟩:=aQG (xs:=xs) (i:=i) (by have:=ws.1;omega);have hk:dk F i=110:=Classical.byContradiction fun h=>hb fun h2=>absurd h2 h;have hq:cX (xs.getD i ByteArray.empty)=none:=Classical.byContradiction fun h=>hb fun _=>h;have hnm:∀ j,j<i→dk F j=110→∃ v,cX (xs.getD j ByteArray.empty)=some v:=fun j h1 h2=>aA8.1 (hj j h1 h2);refine CalP.drop (h':=lO w0 xs (xB F xs i) F.size++[kW F (i+1)]) ?_ (aPO 2);refine CalP.of (d:=x26) (e':=aZ [] []) aA rfl (by simp[x26]) rfl ?_;refine aVN hs hw (gN hf) (bAd ws.1 ws.2.1 ?_);have l:=l60 (w0:=w0) ws hn;have p:=bAj (w0:=w0) ws hi k1 hk hq hnm;unfold r7c at p;unfold r6c r4c x26 at *;dsimp only at *;exact PanX.seqR (K:=26) aA rfl [2,4,6] l p
end
section
variable{F w0 line:ByteArray}{xs W:List ByteArray}{v:AV}
theorem aEP(c:UInt8):∀(s:List UInt8),∀ w∈fB c s,w.length≤s.length
 | [],w,h=>by
   grind [fB]
 | b::r,w,h=>by
   have ih:=aEP c r
   grind [fB]
theorem aLL(c:UInt8):∀(s:List UInt8),fB c s≠[]
 | []=>by simp[fB]
 | b::r=>by
   grind [fB]
theorem aNn(line:ByteArray):∃ w0 xs,cA line=w0::xs:=by
 cases h:cA line with
 | nil =>
   grind [List.map_eq_nil_iff,aLL,cA]
 | cons w xs=>grind
theorem aNo{y:ByteArray}(h:y∈cA line):y.size≤line.size:=by
 unfold cA at h;obtain⟨l,hl,rfl⟩:=G1.1 h;exact aEP _ _ l hl
theorem aSM:∀ p∈fmL,aEc p.2:=by
 have h:∀ p∈fmL,∀ i,i<p.2.size→dn p.2 i=i+1:=by
  intro p hp;have:(fmL.all fun p=>(List.range p.2.size).all fun i=>dn p.2 i==i+1)=true:=by kernel_rfl
  grind
 exact fun p hp=>⟨h p hp⟩
theorem aSL:∀ p∈fmL,p.2.size≤4:=by
 have:(fmL.all fun p=>decide (p.2.size≤4))=true:=by kernel_rfl
 grind
end
structure Ln(line w0:ByteArray)(xs:List ByteArray)(F:ByteArray):Prop where
 hs:line.size≤40
 hw:cA line=w0::xs
 hf:aR 1 (.str w0) fmE=some (some (.str F))
 ws:Ws F xs
section
variable{F w0 line x y z o:ByteArray}{xs W:List ByteArray}{v:AV}
inductive Rd(line:ByteArray):Int ⊕ (ByteArray×List ByteArray×List Int)→Prop
 | long (h:40<line.size):Rd line (.inl 14)
 | form {w0 f:ByteArray} {xs:List ByteArray} {b:Bool} (hs:line.size≤40) (hw:cA line=w0::xs) (hf:aDm true (.str ⟨⟨[]⟩⟩) (aR 1 (.str w0) fmE)=some (.tup [.str f,.bool b])) (hF:f.size≤4) (hn:b=true→xs.length≠f.size):Rd line (.inl 13)
 | name {w0 F:ByteArray} {xs:List ByteArray} (l:Ln line w0 xs F) (hn:∃ j,j<F.size∧¬(dk F j=110∨bH (xs.getD j ByteArray.empty)=true)):Rd line (.inl 8)
 | num {w0 F:ByteArray} {xs:List ByteArray} (l:Ln line w0 xs F) (hn:∀ j,j<F.size→dk F j=110∨bH (xs.getD j ByteArray.empty)=true) (hm:∃ j,j<F.size∧¬(dk F j=110→cX (xs.getD j ByteArray.empty)≠none)):Rd line (.inl 2)
 | ok {w0 F:ByteArray} {xs:List ByteArray} (l:Ln line w0 xs F) (hn:∀ j,j<F.size→dk F j=110∨bH (xs.getD j ByteArray.empty)=true) (hm:∀ j,j<F.size→dk F j=110→∃ v,cX (xs.getD j ByteArray.empty)=some v):Rd line (.inr (w0,xs,xB F xs F.size))
abbrev Pan(line:ByteArray)(e:Int):Prop:=Rd line (.inl e)
theorem aJs(F:ByteArray)(xs:List ByteArray)(n:Nat)(h:F.size=n):xB F xs F.size=(List.range n).map fun j=>if dk F j=110 then (cX (xs.getD j ByteArray.empty)).getD 0 else 0:=by
 simp_all [xB]
theorem f0(l:Ln line w0 [] F)(h0:F.size=0):Rd line (.inr (w0,[],[])):=by
 have h:=Rd.ok l (fun j hj=>by omega) (fun j hj=>by omega)
 grind [xB]
theorem f1a(l:Ln line w0 [x] F)(h0:F.size=1)(k0:dk F 0≠110)(hb:bH x=false):Pan line 8 :=
 .name l ⟨0,by omega,fun h=>h.elim k0 fun h2=>by grind⟩
theorem f1b(l:Ln line w0 [x] F)(h0:F.size=1)(k0:dk F 0≠110)(hb:bH x=true):Rd line (.inr (w0,[x],[0])):=by
 have h:=Rd.ok l (fun j hj=>by
  grind) (fun j hj hk=>by
  grind)
 grind [xB]
theorem n1a(l:Ln line w0 [x] F)(h0:F.size=1)(k0:dk F 0=110)(hb:cX x=none):Pan line 2 :=
 .num l (fun j hj=>by
  grind) ⟨0,by omega,fun h=>h k0 hb⟩
theorem n1b(l:Ln line w0 [x] F)(h0:F.size=1)(k0:dk F 0=110){a:Int}(hb:cX x=some a):Rd line (.inr (w0,[x],[a])):=by
 have h:=Rd.ok l (fun j hj=>by
  grind) (fun j hj hk=>by
  grind)
 grind [xB]
theorem f2a(l:Ln line w0 [x,y] F)(h0:F.size=2)(k0:dk F 0≠110)(hb:bH x=false):Pan line 8 :=
 .name l ⟨0,by omega,fun h=>h.elim k0 fun h2=>by grind⟩
theorem f2n(k1:dk F 1=110)(hb:bH x=true)(h0:F.size=2)(j:Nat)(hj:j<F.size):dk F j=110∨bH ([x,y].getD j ByteArray.empty)=true:=by
 grind
theorem f2b(l:Ln line w0 [x,y] F)(h0:F.size=2)(k1:dk F 1=110)(hb:bH x=true)(hy:cX y=none):Pan line 2 :=
 .num l (f2n k1 hb h0) ⟨1,by omega,fun h=>h k1 hy⟩
theorem f2c(l:Ln line w0 [x,y] F)(h0:F.size=2)(k0:dk F 0≠110)(k1:dk F 1=110)(hb:bH x=true){a:Int}(hy:cX y=some a):Rd line (.inr (w0,[x,y],[0,a])):=by
 have h:=Rd.ok l (f2n k1 hb h0) (fun j hj hk=>by
  grind)
 rw[aJs F [x,y] 2 h0]at h;have e:(List.range 2).map (fun j=>if dk F j=110 then (cX ([x,y].getD j ByteArray.empty)).getD 0 else 0)=[0,a]:=by
  show [if dk F 0=110 then _ else (0:Int),if dk F 1=110 then (cX y).getD 0 else (0:Int)]=_
  grind
 grind
theorem f3a(l:Ln line w0 [x,y,z] F)(h0:F.size=3)(k0:dk F 0≠110)(hb:bH x=false):Pan line 8 :=
 .name l ⟨0,by omega,fun h=>h.elim k0 fun h2=>by grind⟩
theorem f3n(k1:dk F 1=110)(k2:dk F 2=110)(hb:bH x=true)(h0:F.size=3)(j:Nat)(hj:j<F.size):dk F j=110∨bH ([x,y,z].getD j ByteArray.empty)=true:=by
 grind
theorem f3b(l:Ln line w0 [x,y,z] F)(h0:F.size=3)(k1:dk F 1=110)(k2:dk F 2=110)(hb:bH x=true)(hy:cX y=none∨cX z=none):Pan line 2 :=
 .num l (f3n k1 k2 hb h0) (hy.elim (fun hy=>⟨1,by omega,fun h=>h k1 hy⟩) fun hz=>⟨2,by omega,fun h=>h k2 hz⟩)
theorem f3c(l:Ln line w0 [x,y,z] F)(h0:F.size=3)(k0:dk F 0≠110)(k1:dk F 1=110)(k2:dk F 2=110)(hb:bH x=true){a b:Int}(hy:cX y=some a)(hz:cX z=some b):Rd line (.inr (w0,[x,y,z],[0,a,b])):=by
 have h:=Rd.ok l (f3n k1 k2 hb h0) (fun j hj hk=>by
  grind)
 rw[aJs F [x,y,z] 3 h0]at h;have e:(List.range 3).map (fun j=>if dk F j=110 then (cX ([x,y,z].getD j ByteArray.empty)).getD 0 else 0)=[0,a,b]:=by
  show [if dk F 0=110 then _ else (0:Int),if dk F 1=110 then (cX y).getD 0 else (0:Int),if dk F 2=110 then (cX z).getD 0 else (0:Int)]=_
  grind
 grind
theorem f4a(l:Ln line w0 [x,y,z,o] F)(h0:F.size=4)(k0:dk F 0≠110)(k3:dk F 3≠110)(hb:bH x=false∨bH o=false):Pan line 8 :=
 .name l (hb.elim (fun hb=>⟨0,by omega,fun h=>h.elim k0 fun h2=>by grind⟩) fun hb=>⟨3,by omega,fun h=>h.elim k3 fun h2=>by simp_all⟩)
theorem f4n(k1:dk F 1=110)(k2:dk F 2=110)(hb:bH x=true)(ho:bH o=true)(h0:F.size=4)(j:Nat)(hj:j<F.size):dk F j=110∨bH ([x,y,z,o].getD j ByteArray.empty)=true:=by
 grind
theorem f4b(l:Ln line w0 [x,y,z,o] F)(h0:F.size=4)(k1:dk F 1=110)(k2:dk F 2=110)(hb:bH x=true)(ho:bH o=true)(hy:cX y=none∨cX z=none):Pan line 2 :=
 .num l (f4n k1 k2 hb ho h0) (hy.elim (fun hy=>⟨1,by omega,fun h=>h k1 hy⟩) fun hz=>⟨2,by omega,fun h=>h k2 hz⟩)
theorem f4c(l:Ln line w0 [x,y,z,o] F)(h0:F.size=4)(k0:dk F 0≠110)(k1:dk F 1=110)(k2:dk F 2=110)(k3:dk F 3≠110)(hb:bH x=true)(ho:bH o=true){a b:Int}(hy:cX y=some a)(hz:cX z=some b):Rd line (.inr (w0,[x,y,z,o],[0,a,b,0])):=by
 have h:=Rd.ok l (f4n k1 k2 hb ho h0) (fun j hj hk=>by
  grind)
 rw[aJs F [x,y,z,o] 4 h0]at h;have e:(List.range 4).map (fun j=>if dk F j=110 then (cX ([x,y,z,o].getD j ByteArray.empty)).getD 0 else 0)=[0,a,b,0]:=by
  show [if dk F 0=110 then _ else (0:Int),if dk F 1=110 then (cX y).getD 0 else (0:Int),if dk F 2=110 then (cX z).getD 0 else (0:Int),if dk F 3=110 then _ else (0:Int)]=_
  grind
 grind
end
section
variable{line:ByteArray}{xs:List ByteArray}
def RdP(line:ByteArray)(r:Int ⊕ Wd):Prop:=match r with
 | .inl e=>Rd line (.inl e)
 | .inr w=>∃ w0 xs ns,Rd line (.inr (w0,xs,ns))∧IsW w (.agg [.str w0,.fs (sr xs),.fs (ns.map fun v=>[I v])])
theorem aWC(w0:ByteArray)(xs:List ByteArray)(ns:List Int):gdA (.agg [.str w0,.fs (sr xs),.fs (ns.map fun v=>[I v])])=true:=by
 have h:∀ l:List (List AV),(∀ r∈l,gdL r=true)→gdR l=true:=by
  intro l;induction l with
  | nil=>intro _;rfl
  | cons r l ih=>grind [gdR]
 simp_all [gdA,sr,gdL]
theorem rX{w F:ByteArray}(hp:(w,F)∈fmL)(hs:¬line.size>40)(hw:cA line=w::xs)(hl:xs.length=F.size):Ws F xs:=by
 refine⟨hl,aSL _ hp,aSM _ hp,fun y hy=>?_⟩;have:=aNo (line:=line) (y:=y) (by grind);omega
theorem aDj{x:ByteArray}(h:bH x=true):x.size≤10:=by
 grind [bH]
theorem not_true{b:Bool}(h:¬b=true):b=false:=by grind
theorem fZ(hs:¬line.size>40){w:ByteArray}(hw:cA line=w::xs){r:Int ⊕ Wd} (h:(match w::xs with
 | [w]=>if w=AAr then .inr .close else if w=AAv then .inr .total else .inl 13
 | [w,x]=>if w=AAo then iH x (.farmer x) else if w=AAu then iH x (.net x) else if w=AAx then iH x (.used x) else
   if w=AAy then iH x (.loss x) else if w=AAz then iH x (.power x) else
   if w=AAq then xR x (fun n=>.void n.toNat) else if w=AAw then xR x (fun n=>.ticket n.toNat) else .inl 13
 | [w,x,y]=>if w=AAs then (if bH x then xR y (.meter x) else .inl 8) else .inl 13
 | [w,x,y,z]=>if w=AAt then (if bH x then (match cX y,cX z with
  | some a,some b=>.inr (.pan x a b)
  | _,_=>.inl 2) else .inl 8) else .inl 13
 | [w,x,y,z,o]=>if w=AAp then (if bH x&&bH o then (match cX y,cX z with
  | some a,some b=>.inr (.wagon x o a b)
  | _,_=>.inl 2) else .inl 8) else .inl 13
 | _=>.inl 13)=r):rd line=r:=by
 rw[←h];unfold rd
 grind
theorem aMb(hs:¬line.size>40)(hw:cA line=AAo::xs):RdP line (rd line):=by
 have hp:((AAo,⟨⟨[102]⟩⟩):ByteArray×ByteArray)∈fmL:=by simp[fmL]
 have hf:aR 1 (.str AAo) fmE=some (some (.str ⟨⟨[102]⟩⟩)):=by kernel_rfl
 by_cases hl:xs.length=1
 ·obtain⟨x,rfl⟩:∃ x,xs=[x]:=by
   match xs,hl with
   | [x],_=>grind
  have l:Ln line AAo [x] ⟨⟨[102]⟩⟩:=⟨by omega,hw,hf,rX hp hs hw rfl⟩;have k0:dk ⟨⟨[102]⟩⟩ 0≠110:=by
   rw[show dk ⟨⟨[102]⟩⟩ 0=102 by kernel_rfl];decide
  rw[fZ hs hw (r:=iH x (.farmer x)) (by simp)];unfold iH;by_cases hb:bH x=true
  ·rw[if_pos hb]
   exact⟨_,_,_,f1b l rfl k0 hb,0,rfl⟩
  ·rw[if_neg hb]
   exact f1a l rfl k0 (not_true hb)
 ·rw[fZ hs hw (r:=.inl 13) (by
   grind)]
  exact Rd.form AM hw (gN hf) (by decide) fun _=>hl
theorem aOM(hs:¬line.size>40)(hw:cA line=AAp::xs):RdP line (rd line):=by
 have hp:((AAp,AAA):ByteArray×ByteArray)∈fmL:=by simp[fmL]
 have hf:aR 1 (.str AAp) fmE=some (some (.str AAA)):=by kernel_rfl
 by_cases hl:xs.length=4
 ·obtain⟨x,y,z,o,rfl⟩:∃ x y z o,xs=[x,y,z,o]:=by
   match xs,hl with
   | [x,y,z,o],_=>grind
  have l:Ln line AAp [x,y,z,o] AAA:=⟨by omega,hw,hf,rX hp hs hw rfl⟩;have k0:dk AAA 0≠110:=by
   rw[show dk AAA 0=119 by kernel_rfl];decide
  have k1:dk AAA 1=110:=by kernel_rfl
  have k2:dk AAA 2=110:=by kernel_rfl
  have k3:dk AAA 3≠110:=by
   rw[show dk AAA 3=102 by kernel_rfl];decide
  rw[fZ hs hw (r:=if bH x&&bH o then (match cX y,cX z with
   | some a,some b=>.inr (.wagon x o a b)
   | _,_=>.inl 2) else .inl 8) (by simp)]
  by_cases hb:(bH x&&bH o)=true
  ·rw[if_pos hb]
   rw[A4]at hb;cases hy:cX y with
   | none=>exact f4b l rfl k1 k2 hb.1 hb.2 (.inl hy)
   | some a =>
     cases hz:cX z with
     | none=>exact f4b l rfl k1 k2 hb.1 hb.2 (.inr hz)
     | some b =>
       obtain⟨_,a0,a1,_⟩:=jV hy;obtain⟨_,b0,b1,_⟩:=jV hz;exact⟨_,_,_,f4c l rfl k0 k1 k2 k3 hb.1 hb.2 hy hz,⟨a0,a1,b0,b1,aDj hb.1,aDj hb.2⟩,y,z,0,0,rfl⟩
  ·rw[if_neg hb]
   have hb:=not_true hb;rw[Bool.and_eq_false_iff]at hb;exact f4a l rfl k0 k3 hb
 ·rw[fZ hs hw (r:=.inl 13) (by
   grind)]
  exact Rd.form AM hw (gN hf) (by decide) fun _=>hl
theorem aRZ(hs:¬line.size>40)(hw:cA line=AAq::xs):RdP line (rd line):=by
 have hp:((AAq,⟨⟨[110]⟩⟩):ByteArray×ByteArray)∈fmL:=by simp[fmL]
 have hf:aR 1 (.str AAq) fmE=some (some (.str ⟨⟨[110]⟩⟩)):=by kernel_rfl
 by_cases hl:xs.length=1
 ·obtain⟨x,rfl⟩:∃ x,xs=[x]:=by
   match xs,hl with
   | [x],_=>grind
  have l:Ln line AAq [x] ⟨⟨[110]⟩⟩:=⟨by omega,hw,hf,rX hp hs hw rfl⟩;have k0:dk ⟨⟨[110]⟩⟩ 0=110:=by kernel_rfl
  rw[fZ hs hw (r:=xR x fun n=>.void n.toNat) (by simp)];unfold xR;cases hb:cX x with
  | none=>exact n1a l rfl k0 hb
  | some a =>
    obtain⟨_,a0,_,_⟩:=jV hb;refine⟨_,_,_,n1b l rfl k0 hb,x,?_⟩;rw[Int.toNat_of_nonneg a0];rfl
 ·rw[fZ hs hw (r:=.inl 13) (by
   grind)]
  exact Rd.form AM hw (gN hf) (by decide) fun _=>hl
theorem aOQ(hs:¬line.size>40)(hw:cA line=AAr::xs):RdP line (rd line):=by
 have hp:((AAr,⟨⟨[]⟩⟩):ByteArray×ByteArray)∈fmL:=by simp[fmL]
 have hf:aR 1 (.str AAr) fmE=some (some (.str ⟨⟨[]⟩⟩)):=by kernel_rfl
 by_cases hl:xs.length=0
 ·obtain rfl:=D5 hl
  have l:Ln line AAr [] ⟨⟨[]⟩⟩:=⟨by omega,hw,hf,rX hp hs hw rfl⟩;rw[fZ hs hw (r:=.inr .close) (by simp)];exact⟨_,_,_,f0 l rfl,rfl⟩
 ·rw[fZ hs hw (r:=.inl 13) (by
   grind)]
  exact Rd.form AM hw (gN hf) (by decide) fun _=>hl
theorem aOP(hs:¬line.size>40)(hw:cA line=AAs::xs):RdP line (rd line):=by
 have hp:((AAs,⟨⟨[109,110]⟩⟩):ByteArray×ByteArray)∈fmL:=by simp[fmL]
 have hf:aR 1 (.str AAs) fmE=some (some (.str ⟨⟨[109,110]⟩⟩)):=by kernel_rfl
 by_cases hl:xs.length=2
 ·obtain⟨x,y,rfl⟩:∃ x y,xs=[x,y]:=by
   match xs,hl with
   | [x,y],_=>grind
  have l:Ln line AAs [x,y] ⟨⟨[109,110]⟩⟩:=⟨by omega,hw,hf,rX hp hs hw rfl⟩;have k0:dk ⟨⟨[109,110]⟩⟩ 0≠110:=by
   rw[show dk ⟨⟨[109,110]⟩⟩ 0=109 by kernel_rfl];decide
  have k1:dk ⟨⟨[109,110]⟩⟩ 1=110:=by kernel_rfl
  rw[fZ hs hw (r:=if bH x then xR y (.meter x) else .inl 8) (by simp)];by_cases hb:bH x=true
  ·rw[if_pos hb]
   unfold xR;cases hy:cX y with
   | none=>exact f2b l rfl k1 hb hy
   | some a =>
     obtain⟨_,a0,a1,_⟩:=jV hy;exact⟨_,_,_,f2c l rfl k0 k1 hb hy,⟨a0,a1⟩,y,0,rfl⟩
  ·rw[if_neg hb]
   exact f2a l rfl k0 (not_true hb)
 ·rw[fZ hs hw (r:=.inl 13) (by
   grind)]
  exact Rd.form AM hw (gN hf) (by decide) fun _=>hl
theorem aVI(hs:¬line.size>40)(hw:cA line=AAt::xs):RdP line (rd line):=by
 have hp:((AAt,AAB):ByteArray×ByteArray)∈fmL:=by simp[fmL]
 have hf:aR 1 (.str AAt) fmE=some (some (.str AAB)):=by kernel_rfl
 by_cases hl:xs.length=3
 ·obtain⟨x,y,z,rfl⟩:∃ x y z,xs=[x,y,z]:=by
   match xs,hl with
   | [x,y,z],_=>grind
  have l:Ln line AAt [x,y,z] AAB:=⟨by omega,hw,hf,rX hp hs hw rfl⟩;have k0:dk AAB 0≠110:=by
   rw[show dk AAB 0=112 by kernel_rfl];decide
  have k1:dk AAB 1=110:=by kernel_rfl
  have k2:dk AAB 2=110:=by kernel_rfl
  rw[fZ hs hw (r:=if bH x then (match cX y,cX z with
   | some a,some b=>.inr (.pan x a b)
   | _,_=>.inl 2) else .inl 8) (by simp)]
  by_cases hb:bH x=true
  ·rw[if_pos hb]
   cases hy:cX y with
   | none=>exact f3b l rfl k1 k2 hb (.inl hy)
   | some a =>
     cases hz:cX z with
     | none=>exact f3b l rfl k1 k2 hb (.inr hz)
     | some b =>
       obtain⟨_,a0,a1,_⟩:=jV hy;obtain⟨_,b0,b1,_⟩:=jV hz;exact⟨_,_,_,f3c l rfl k0 k1 k2 hb hy hz,⟨a0,a1,b0,b1⟩,y,z,0,rfl⟩
  ·rw[if_neg hb]
   exact f3a l rfl k0 (not_true hb)
 ·rw[fZ hs hw (r:=.inl 13) (by
   grind)]
  exact Rd.form AM hw (gN hf) (by decide) fun _=>hl
theorem aVJ(hs:¬line.size>40)(hw:cA line=AAu::xs):RdP line (rd line):=by
 have hp:((AAu,⟨⟨[102]⟩⟩):ByteArray×ByteArray)∈fmL:=by simp[fmL]
 have hf:aR 1 (.str AAu) fmE=some (some (.str ⟨⟨[102]⟩⟩)):=by kernel_rfl
 by_cases hl:xs.length=1
 ·obtain⟨x,rfl⟩:∃ x,xs=[x]:=by
   match xs,hl with
   | [x],_=>grind
  have l:Ln line AAu [x] ⟨⟨[102]⟩⟩:=⟨by omega,hw,hf,rX hp hs hw rfl⟩;have k0:dk ⟨⟨[102]⟩⟩ 0≠110:=by
   rw[show dk ⟨⟨[102]⟩⟩ 0=102 by kernel_rfl];decide
  rw[fZ hs hw (r:=iH x (.net x)) (by simp)];unfold iH;by_cases hb:bH x=true
  ·rw[if_pos hb]
   exact⟨_,_,_,f1b l rfl k0 hb,0,rfl⟩
  ·rw[if_neg hb]
   exact f1a l rfl k0 (not_true hb)
 ·rw[fZ hs hw (r:=.inl 13) (by
   grind)]
  exact Rd.form AM hw (gN hf) (by decide) fun _=>hl
theorem aON(hs:¬line.size>40)(hw:cA line=AAv::xs):RdP line (rd line):=by
 have hp:((AAv,⟨⟨[]⟩⟩):ByteArray×ByteArray)∈fmL:=by simp[fmL]
 have hf:aR 1 (.str AAv) fmE=some (some (.str ⟨⟨[]⟩⟩)):=by kernel_rfl
 by_cases hl:xs.length=0
 ·obtain rfl:=D5 hl
  have l:Ln line AAv [] ⟨⟨[]⟩⟩:=⟨by omega,hw,hf,rX hp hs hw rfl⟩;rw[fZ hs hw (r:=.inr .total) (by simp)];exact⟨_,_,_,f0 l rfl,rfl⟩
 ·rw[fZ hs hw (r:=.inl 13) (by
   grind)]
  exact Rd.form AM hw (gN hf) (by decide) fun _=>hl
theorem aMa(hs:¬line.size>40)(hw:cA line=AAw::xs):RdP line (rd line):=by
 have hp:((AAw,⟨⟨[110]⟩⟩):ByteArray×ByteArray)∈fmL:=by simp[fmL]
 have hf:aR 1 (.str AAw) fmE=some (some (.str ⟨⟨[110]⟩⟩)):=by kernel_rfl
 by_cases hl:xs.length=1
 ·obtain⟨x,rfl⟩:∃ x,xs=[x]:=by
   match xs,hl with
   | [x],_=>grind
  have l:Ln line AAw [x] ⟨⟨[110]⟩⟩:=⟨by omega,hw,hf,rX hp hs hw rfl⟩;have k0:dk ⟨⟨[110]⟩⟩ 0=110:=by kernel_rfl
  rw[fZ hs hw (r:=xR x fun n=>.ticket n.toNat) (by simp)];unfold xR;cases hb:cX x with
  | none=>exact n1a l rfl k0 hb
  | some a =>
    obtain⟨_,a0,_,_⟩:=jV hb;refine⟨_,_,_,n1b l rfl k0 hb,x,?_⟩;rw[Int.toNat_of_nonneg a0];rfl
 ·rw[fZ hs hw (r:=.inl 13) (by
   grind)]
  exact Rd.form AM hw (gN hf) (by decide) fun _=>hl
theorem aSa(hs:¬line.size>40)(hw:cA line=AAx::xs):RdP line (rd line):=by
 have hp:((AAx,⟨⟨[109]⟩⟩):ByteArray×ByteArray)∈fmL:=by simp[fmL]
 have hf:aR 1 (.str AAx) fmE=some (some (.str ⟨⟨[109]⟩⟩)):=by kernel_rfl
 by_cases hl:xs.length=1
 ·obtain⟨x,rfl⟩:∃ x,xs=[x]:=by
   match xs,hl with
   | [x],_=>grind
  have l:Ln line AAx [x] ⟨⟨[109]⟩⟩:=⟨by omega,hw,hf,rX hp hs hw rfl⟩;have k0:dk ⟨⟨[109]⟩⟩ 0≠110:=by
   rw[show dk ⟨⟨[109]⟩⟩ 0=109 by kernel_rfl];decide
  rw[fZ hs hw (r:=iH x (.used x)) (by simp)];unfold iH;by_cases hb:bH x=true
  ·rw[if_pos hb]
   exact⟨_,_,_,f1b l rfl k0 hb,0,rfl⟩
  ·rw[if_neg hb]
   exact f1a l rfl k0 (not_true hb)
 ·rw[fZ hs hw (r:=.inl 13) (by
   grind)]
  exact Rd.form AM hw (gN hf) (by decide) fun _=>hl
theorem aSc(hs:¬line.size>40)(hw:cA line=AAy::xs):RdP line (rd line):=by
 have hp:((AAy,⟨⟨[112]⟩⟩):ByteArray×ByteArray)∈fmL:=by simp[fmL]
 have hf:aR 1 (.str AAy) fmE=some (some (.str ⟨⟨[112]⟩⟩)):=by kernel_rfl
 by_cases hl:xs.length=1
 ·obtain⟨x,rfl⟩:∃ x,xs=[x]:=by
   match xs,hl with
   | [x],_=>grind
  have l:Ln line AAy [x] ⟨⟨[112]⟩⟩:=⟨by omega,hw,hf,rX hp hs hw rfl⟩;have k0:dk ⟨⟨[112]⟩⟩ 0≠110:=by
   rw[show dk ⟨⟨[112]⟩⟩ 0=112 by kernel_rfl];decide
  rw[fZ hs hw (r:=iH x (.loss x)) (by simp)];unfold iH;by_cases hb:bH x=true
  ·rw[if_pos hb]
   exact⟨_,_,_,f1b l rfl k0 hb,0,rfl⟩
  ·rw[if_neg hb]
   exact f1a l rfl k0 (not_true hb)
 ·rw[fZ hs hw (r:=.inl 13) (by
   grind)]
  exact Rd.form AM hw (gN hf) (by decide) fun _=>hl
theorem aOO(hs:¬line.size>40)(hw:cA line=AAz::xs):RdP line (rd line):=by
 have hp:((AAz,⟨⟨[102]⟩⟩):ByteArray×ByteArray)∈fmL:=by simp[fmL]
 have hf:aR 1 (.str AAz) fmE=some (some (.str ⟨⟨[102]⟩⟩)):=by kernel_rfl
 by_cases hl:xs.length=1
 ·obtain⟨x,rfl⟩:∃ x,xs=[x]:=by
   match xs,hl with
   | [x],_=>grind
  have l:Ln line AAz [x] ⟨⟨[102]⟩⟩:=⟨by omega,hw,hf,rX hp hs hw rfl⟩;have k0:dk ⟨⟨[102]⟩⟩ 0≠110:=by
   rw[show dk ⟨⟨[102]⟩⟩ 0=102 by kernel_rfl];decide
  rw[fZ hs hw (r:=iH x (.power x)) (by simp)];unfold iH;by_cases hb:bH x=true
  ·rw[if_pos hb]
   exact⟨_,_,_,f1b l rfl k0 hb,0,rfl⟩
  ·rw[if_neg hb]
   exact f1a l rfl k0 (not_true hb)
 ·rw[fZ hs hw (r:=.inl 13) (by
   grind)]
  exact Rd.form AM hw (gN hf) (by decide) fun _=>hl
theorem aSb(hs:¬line.size>40){w0:ByteArray}(hw:cA line=w0::xs)(hn:∀ p∈fmL,¬w0=p.1):RdP line (rd line):=by
 have n0:¬w0=AAo:=hn (AAo,⟨⟨[102]⟩⟩) (by simp[fmL]);have n1:¬w0=AAp:=hn (AAp,AAA) (by simp[fmL]);have n2:¬w0=AAq:=hn (AAq,⟨⟨[110]⟩⟩) (by simp[fmL]);have n3:¬w0=AAr:=hn (AAr,⟨⟨[]⟩⟩) (by simp[fmL]);have n4:¬w0=AAs:=hn (AAs,⟨⟨[109,110]⟩⟩) (by simp[fmL]);have n5:¬w0=AAt:=hn (AAt,AAB) (by simp[fmL]);have n6:¬w0=AAu:=hn (AAu,⟨⟨[102]⟩⟩) (by simp[fmL]);have n7:¬w0=AAv:=hn (AAv,⟨⟨[]⟩⟩) (by simp[fmL]);have n8:¬w0=AAw:=hn (AAw,⟨⟨[110]⟩⟩) (by simp[fmL]);have n9:¬w0=AAx:=hn (AAx,⟨⟨[109]⟩⟩) (by simp[fmL]);have n10:¬w0=AAy:=hn (AAy,⟨⟨[112]⟩⟩) (by simp[fmL]);have n11:¬w0=AAz:=hn (AAz,⟨⟨[102]⟩⟩) (by simp[fmL]);have hf:aR 1 (.str w0) fmE=some none:=by
  grind [aLc,fmE]
 rw[fZ hs hw (r:=.inl 13) (by
  grind)]
 exact Rd.form (f:=⟨⟨[]⟩⟩) (b:=false) AM hw (by rw[hf];rfl) (by decide) fun h=>by cases h
theorem aZS(line:ByteArray):RdP line (rd line):=by
 by_cases hs:line.size>40
 ·have e:rd line = .inl 14:=by grind [rd]
  rw[e];exact .long hs
 ·obtain⟨w0,xs,hw⟩:=aNn line
  by_cases hn:∀ p∈fmL,¬w0=p.1;·grind [aSb]
  ·have hex:∃ p∈fmL,w0=p.1:=Classical.byContradiction fun h=>hn fun p hp e=>h ⟨p,hp,e⟩
   obtain⟨p,hp,e⟩:=hex;subst e;unfold fmL at hp;simp only[B5,F9,AAg]at hp;rcases hp with rfl|rfl|rfl|rfl|rfl|rfl|rfl|rfl|rfl|rfl|rfl|rfl;·grind [aMb]
   ·grind [aOM]
   ·exact aRZ hs hw
   ·grind [aOQ]
   ·grind [aOP]
   ·exact aVI hs hw
   ·exact aVJ hs hw
   all_goals grind [aON,aMa,aSa,aSc,aOO]
theorem aZT:RdOk rd:=by
 intro line;refine⟨?_,fun e h=>aOI h⟩;have h:=aZS line;cases hr:rd line with
 | inl e =>
   rw[hr]at h;cases (h:Rd line (.inl e))with
   | long h=>exact aTd h
   | form hs hw hf hF hn=>exact aTe hs hw hf hF hn
   | name l hn=>exact aTc l.hs l.hw l.hf l.ws hn
   | num l hn hm=>exact aXj l.hs l.hw l.hf l.ws hn hm
 | inr w =>
   rw[hr]at h;obtain⟨w0,xs,ns,h,iw⟩:=h;cases h with
   | ok l hn hm=>exact⟨_,w60 l.hs l.hw l.hf l.ws hn hm,iw,aWC _ _ _⟩
end
abbrev Uq(a:Nat):AV:=.int .u64 (a:Int)
def big(k:IntKind):Prop:=k = .u64∨k = .i64
theorem aAv:big .u64:=.inl rfl
theorem aAw{k:IntKind}(h:big k):k.bits=64:=by rcases h with rfl|rfl<;>rfl
theorem nZ{k:IntKind}(h:big k){a:Nat}(ha:a<2^63):k.wrap (a:Int)=(a:Int):=by
 rcases h with rfl|rfl;·simp[IntKind.wrap,IntKind.bits,IntKind.signed];omega
 ·simp[IntKind.wrap,IntKind.bits,IntKind.signed];omega
theorem nB{w:Nat}(a:Nat):BitVec.ofInt w (a:Int)=BitVec.ofNat w a:=by
 rfl
theorem aQC{k:IntKind}(h:big k){a b:Nat}(ha:a<2^63)(hb:b<2^63):oO .and k (a:Int) (b:Int)=((a&&&b:Nat):Int):=by
 unfold oO;dsimp only;rw[nB,nB,aAw h,BitVec.toNat_and,BitVec.toNat_ofNat,BitVec.toNat_ofNat,J9 AM,J9 AM]
 grind [nZ,Nat.and_le_left]
theorem aTh{k:IntKind}(h:big k){a b:Nat}(ha:a<2^63)(hb:b<2^63):oO .or k (a:Int) (b:Int)=((a|||b:Nat):Int):=by
 unfold oO;dsimp only;rw[nB,nB,aAw h,BitVec.toNat_or,BitVec.toNat_ofNat,BitVec.toNat_ofNat,J9 AM,J9 AM];exact nZ h (Nat.or_lt_two_pow ha hb)
def dif(a b:Nat):Nat:=a&&&(2^64-(b+1))
theorem aWX(a b:Nat):dif a b≤a:=aH1
theorem aQB{k:IntKind}(h:big k){a b:Nat}(ha:a<2^63)(hb:b<2^63):oO .andNot k (a:Int) (b:Int)=((dif a b:Nat):Int):=by
 unfold oO;dsimp only;rw[nB,nB,aAw h,BitVec.toNat_and,BitVec.toNat_not,BitVec.toNat_ofNat,BitVec.toNat_ofNat,J9 AM,J9 AM,show 2^64-1-b=2^64-(b+1) by omega]
 grind [nZ,aWX,dif]
theorem aLk{a b:Nat}(hb:b<2^64){i:Nat}:(dif a b).testBit i=(a.testBit i&&(decide (i<64) && !b.testBit i)):=by
 unfold dif;rw[Nat.testBit_and,Nat.testBit_two_pow_sub_succ hb]
theorem aQD{a n:Nat}(h:a<2^n){i:Nat}(hi:n≤i):a.testBit i=false:=Nat.testBit_lt_two_pow (E6 h (J4 AM hi))
theorem aFS{k:IntKind}(h:big k){i:Nat}(hi:i<63):k.wrap (1*2^min i k.bits)=((2^i:Nat):Int):=by
 rw[aAw h,aD7 AM,Int.one_mul,show (2:Int)^i=((2^i:Nat):Int) by norm_cast];exact nZ h (O3 AM hi)
theorem bAq{a i n:Nat}(ha:a<2^n)(hi:i<n):a|||2^i<2^n:=Nat.or_lt_two_pow ha (O3 AM hi)
def el(a:Nat):List Nat:=(List.range 10).filter (a.testBit ·)
def aMg(a:Nat):Nat:=(el a).headD 0
def tzq(a:Nat):Bool:=match cF aB 6 85 [Uq a] []with
 | some (.int .i64 n,[])=>decide (n=(aMg a:Nat))
 | _=>false
theorem aUY:((List.range 1024).all fun a=>a==0||tzq a)=true:=by kernel_rfl
theorem bEj{a:Nat}(ha:a<1024)(h0:a≠0):runW aB 85 [Uq a] []=some (I (aMg a:Nat),[]):=by
 have h:=H8.1 aUY a (N7.2 ha);have h1:(a==0)=false:=by simp[h0]
 rw[h1,Bool.false_or]at h;unfold tzq at h;refine bJ.2 ⟨6,?_⟩
 grind
theorem aSR:∀ a:Nat,a<1024→a≠0→el a=aMg a::el (a&&&(a-1)):=by decide +kernel
theorem bIh:∀ a:Nat,a<1024→(el a=[]↔a=0):=by decide +kernel
theorem aWU{a k:Nat}:k∈el a↔k<10∧a.testBit k=true:=by simp[el]
def aBG(a:Nat):Nat→Nat
 | 0=>a
 | i+1=>aBG a i&&&(aBG a i-1)
theorem aGU{a:Nat}(ha:a<1024):∀ i,aBG a i<1024
 | 0=>ha
 | i+1=>by rw[aBG];exact aB9 aH1 (aGU ha i)
theorem aJP{a:Nat}(ha:a<1024):∀ i,el (aBG a i)=(el a).drop i
 | 0=>rfl
 | i+1=>by
   have ih:=aJP ha i;rw[aBG];by_cases h0:aBG a i=0
   ·rw[h0]at ih ⊢
    have e0:el 0=[]:=rfl;rw[show (0&&&(0-1))=0 from rfl,e0];rw[e0]at ih;have:=AAn List.length ih
    grind [List.drop_eq_nil_of_le]
   ·rw[aSR _ (aGU ha i) h0]at ih
    rw[←List.drop_drop,←ih];rfl
theorem aXc{a:Nat}(ha:a<1024){i:Nat}(hi:i<(el a).length):aBG a i≠0∧(el a)[i]?=some (aMg (aBG a i)):=by
 have h:=aJP ha i;have h0:aBG a i≠0:=fun hc=>by
  rw[hc,show el 0=[] from rfl]at h;have:=AAn List.length h
  grind
 simp_all [aMg]
theorem aSX{a:Nat}(ha:a<1024):aBG a (el a).length=0:=by
 grind [aJP,bIh,aGU]
abbrev cU(a:Nat):Option XB:=some (.blk true (.cells true [Uq a]))
structure aTo(n:Nat)(H:XH):Prop where
 hat:∀ a,hat (H++[cU a]) n=cU a
 set:∀ a b,(H++[cU a]).set n (cU b)=H++[cU b]
 len:∀ a,(H++[cU a]).length=n+1
 head:∀(a:Nat)(e:aH),e 0 = .fn (.yield 0) [] []→e 1 = .pt n 0→bP (n+1) [0,1] (some (.normal,e,H++[cU a]))=some ([.fn (.yield 0) [] [],.pt n 0],H++[cU a])
 fin:∀ a,nU false (n+1) (.tup []) (H++[cU a])=(.tup [],H++[cU a])
def Yd(H H':XH)(v:Nat)(b:Bool):Prop:=∀ a:Nat,fU (runW aB) (runYW aB) (.fn (.yield 0) [] []) [I v] (H++[cU a])=some (.bool b,H'++[cU a])
theorem aOv{n:Nat}{H H':XH}(g:aTo n H)(g':aTo n H'){a:Nat}(ha:a<1024)(h0:a≠0)(hy:Yd H H' (aMg a) true) :
 bP (n+1) [0,1] (execW aB 84 (n+1) none (match aKj with | .loop _ a=>a|c=>c) (aZ [0,1] [.fn (.yield 0) [] [],.pt n 0]) (H++[cU a]))=some ([.fn (.yield 0) [] [],.pt n 0],H'++[cU (a&&&(a-1))]):=by
 have h1:=g.hat a;have h2:=g'.hat a;have h3:=g'.set a;have h4:=hy a;have t:=bEj ha h0;have n0:((a:Int)=0)=False:=AAb;have u1:IntKind.u64.wrap ((a:Int)-1)=((a-1:Nat):Int):=by
  grind [nZ,aAv]
 have u2:=aQC aAv (a:=a) (b:=a-1) AM AM;have hd:=g'.head (a&&&(a-1));unfold aKj;dsimp only;sym =>
  simp[Za,Zb,Zc,Zf,Zg,Zh,Zj,Zl,Zm,Zv,ZA,ZD,ZU,ZY,ZZ,Yc,Yg,Yl,Ym,Yp,Y6,Y9,YD,Xy,Wf,Wu,Vp,V4,V5,V7,V9,VA,VC,VK,VO,VQ,VV,VW,Ui,Uj,Uk,Uw,Uy,Uz,U6,U7,U9,UW,UZ,Ta,Tb,Tf,Tg,Ti,Tj,Tn,Tp,Tv,Ty,Tz,T2,T8,TS,TT,TU,TV,TW,TX,TY,Sg,SF,SG,SL,SM,SN,SY,Ra,Rc,Rf,Rg,Rj,Ro,Rp,RX,Pe,Pf,Pg,Pj,Pk,Pl,PC,PD,PE,PG,h1,h2,t,h4,n0,u1,u2,h3]
  tactic=>exact hd _ rfl rfl
theorem aQf{n:Nat}{G:Nat→XH}{a:Nat}(ha:a<1024)(g:∀ i,i≤(el a).length→aTo n (G i))(hy:∀ i v,(el a)[i]?=some v→Yd (G i) (G (i+1)) v true) :
 runW aB 84 [.fn (.yield 0) [] [],.pt n 0] (G 0++[cU a])=some (.tup [],G (el a).length++[cU 0]):=by
 have l0:=(g 0 AM).len a;have g1:=g (el a).length AM;have h1:hat (G (el a).length++[some (.blk true (.cells true [.int .u64 0]))]) n=some (.blk true (.cells true [.int .u64 0])):=g1.hat 0;have hf:nU false (n+1) (.tup []) (G (el a).length++[some (.blk true (.cells true [.int .u64 0]))])=(.tup [],G (el a).length++[some (.blk true (.cells true [.int .u64 0]))]):=g1.fin 0;have c0:=aSX ha;rw[qX 84 x84 rfl];unfold x84;dsimp only;rw[l0];unfold aKj;sym =>
  simp[Za,Zb,Zf,Zh,Zl,Zm,ZA,ZU,YD,YU,Vi,Vm,V4,V5,VC,UF,UH,UM,UO,UQ,UW,UZ,Tb,Tc,Te,Ty,T7,Se,Sf,SF,SG,SL,SY,Ra,Re,Rf,Rg,Rh,Rl,Ro,Rp]
  tactic =>
   rw[aQ (el a).length (fun _=>[.fn (.yield 0) [] [],.pt n 0]) (fun i=>G i++[cU (aBG a i)])]
   ·rw[c0]
    (sym=>(simp[Za,Zb,Zf,Zh,Zl,Zm,ZA,ZU,YD,YU,Vi,Vm,V4,V5,VC,UF,UH,UM,UO,UQ,UW,UZ,Tb,Tc,Te,Ty,T7,Se,Sf,SF,SG,SL,SY,Ra,Re,Rf,Rg,Rh,Rl,Ro,Rp,h1,hf];all_goals tactic=>exact rfl))
   ·exact(g 0 AM).head a _ rfl rfl
   ·intro i hi
    obtain⟨p1,p2⟩:=aXc ha hi;exact aOv (g i AM) (g (i+1) AM) (aGU ha i) p1 (hy i _ p2)
   ·rw[c0]
    (sym=>(simp[Za,Zb,Zf,Zh,Zl,Zm,ZA,ZU,YD,YU,Vi,Vm,V4,V5,VC,UF,UH,UM,UO,UQ,UW,UZ,Tb,Tc,Te,Ty,T7,Se,Sf,SF,SG,SL,SY,Ra,Re,Rf,Rg,Rh,Rl,Ro,Rp,h1];all_goals tactic=>exact rfl))
def wr(W:List Int):List (List AV):=W.map fun v=>[I v]
theorem aBZ(W:List Int):(wr W).length=W.length:=by simp[wr]
theorem aNm{W:List Int}{i:Nat}{v:Int}(h:W[i]?=some v):(wr W)[i]?=some [I v]:=by simp[wr,h]
def chA(q:Int)(W:List Int):AV:=.agg [.fs [[I q,.fs (wr W)]]]
def chB(q:Int)(W:List Int):AV:=.fs [[.ifc 31 (.agg [I q,.fs (wr W)])]]
def hsA(q:Int)(W:List Int):AV:=.agg [.fs [[I q,.fs (wr W)]],.ifc 192 (chB q W),I W.length,Uq (2^W.length-1)]
theorem aZf(lo n hi:Int):runW aB 83 [I lo,I n,I hi] []=some (.bool (decide (lo≤n)&&decide (n≤hi)),[]):=by
 rw[qX 83 x83 rfl];unfold x83;dsimp only;rcases ptf (lo≤n)with h1|h1
 ·have d1:decide (lo≤n)=true:=by simp[h1]
  (exact RS2 h1 d1)
 ·have d1:decide (lo≤n)=false:=by simp[h1]
  (exact RS2 h1 d1)
theorem bDZ{v:Int}(h0:0≤v)(h1:v≤1000000):runW aB 115 [I v] []=some (.bool false,[]):=by
 have c:=aZf 0 v 1000000;rw[show (decide (0≤v)&&decide (v≤1000000))=true by grind]at c;rw[qX 115 aRc rfl];unfold aRc;dsimp only;(exact dG c)
theorem bDX{W:List Int}(hW:∀ v∈W,0≤v∧v≤1000000)(hl:W.length≤9):runW aB 142 [.fs (wr W),.fn (.func 115) [] []] []=some (I (-1),[]):=by
 rw[qX 142 aRa rfl];unfold aRa;dsimp only;have ln:=aBZ W;have e0:((W.length:Int)<(W.length:Int))=False:=AAb;sym =>
  simp[Za,Zb,Zf,Zh,Zl,Zm,Zv,ZA,ZH,ZQ,ZU,Yc,Yg,Yl,Ym,Yt,Yy,Yz,Y5,YE,YJ,YK,Xy,XM,XZ,Wu,Wv,W3,W9,WF,Vb,Vg,Vl,VA,VB,VC,VK,VO,VP,VQ,VS,VT,VV,VW,Ui,Uj,Uk,Uw,UG,UH,UJ,UK,UL,UM,UN,UQ,UR,US,UT,UV,UW,UX,UY,UZ,Ta,Tb,Tc,Te,Tf,Tg,Ti,Tj,Tm,Tn,Tp,T2,T7,T8,TS,TT,TU,TV,TW,Se,Sf,SE,SI,SJ,SL,SY,Ra,Rb,Rc,Re,Rf,Rg,Rh,Rj,Rl,Rm,Ro,Rp,QM,PC,PD,PE,PG,ln]
  tactic =>
   unfold aNg;rw[aQ W.length (fun i=>[.fs (wr W),.fn (.func 115) [] [],I W.length,I (i:Nat)]) (fun _=>[])];·(exact RS2 e0 ln)
   ·rfl
   ·intro i hi
    obtain⟨v,hv⟩:∃ v,W[i]?=some v:=⟨_,A8 hi⟩;have r1:=aNm hv;have hb:=hW v (A5 hv);have c:=bDZ hb.1 hb.2;have t1:((i:Int)<(W.length:Int))=True:=AAa;have a2:IntKind.i64.wrap ((i:Int)+1)=((i+1:Nat):Int):=by grind [aE]
    (exact RS5 t1 r1 c a2 ln)
   ·(exact dG e0)
theorem bDY{W:List Int}(hW:∀ v∈W,0≤v∧v≤1000000)(hl:W.length≤9):runW aB 116 [.fs (wr W),.fn (.func 115) [] []] []=some (.bool false,[]):=by
 have c:=bDX hW hl;rw[qX 116 aRb rfl];unfold aRb;dsimp only;(exact dG c)
theorem aZg(q:Int)(W:List Int):runW aB 82 [chA q W] []=some (I W.length,[]):=by
 have ln:=aBZ W;rw[qX 82 x82 rfl];unfold x82 chA;dsimp only;(exact dG ln)
theorem dA{D:Nat→Option XFn}{K k:Nat}{rd:Option Nat}{L:List Nat}{a:XCode}{e:aH}{h:XH}:execW D K k rd (.loop L a) e h=mQ (execW D K k rd a (aZ L (yF k L e h)) (jK k L e h)) (execW D K k rd (.loop L a)):=rH
theorem bEd{q:Int}{W:List Int}(hq:1≤q∧q≤10000000)(hW:∀ v∈W,0≤v∧v≤1000000)(h1:1≤W.length)(hl:W.length≤9):runW aB 80 [chA q W] []=some (I 0,[]):=by
 have ln:=aBZ W;have c1:=aZg q W;have c2:=aZf 1 q 10000000;rw[show (decide (1≤q)&&decide (q≤10000000))=true by grind]at c2;have c3:=bDY hW hl;have t1:((W.length:Int)=0)=False:=AAb;have t2:((9:Int)<(W.length:Int))=False:=AAb;rw[qX 80 x80 rfl];unfold x80 aTz chA at *;dsimp only;(exact RS7 ln c1 c2 c3 t1 t2 @dA)
theorem bEc(q:Int)(W:List Int):runW aB 81 [chA q W,I (-1)] []=some (chB q W,[]):=by
 rw[qX 81 x81 rfl];unfold x81 aTy chA chB;dsimp only;(exact dG @dA)
theorem bEi{q:Int}{W:List Int}(hq:1≤q∧q≤10000000)(hW:∀ v∈W,0≤v∧v≤1000000)(h1:1≤W.length)(hl:W.length≤9):runW aB 36 [chA q W] []=some (.tup [hsA q W,I 0],[]):=by
 have c1:=bEd hq hW h1 hl;have c2:=bEc q W;have c3:=aZg q W;have n0:((W.length:Int)<0)=False:=AAb;have s1:=aFS aAv (i:=W.length) AM;have p1:1≤2^W.length:=aE3;have p2:2^W.length≤2^9:=J4 AM hl;have s2:IntKind.u64.wrap (((2^W.length:Nat):Int)-1)=((2^W.length-1:Nat):Int):=by
  grind [nZ,aAv]
 rw[qX 36 x36 rfl];unfold x36 chA hsA chB at *;dsimp only;(exact RS7 c1 c2 c3 n0 s1 s2 @dA)
def fT{α:Type}(f:α→Nat→α)(z:α)(ks:List Nat)(i:Nat):α:=(ks.take i).foldl f z
theorem bCV{α:Type}{f:α→Nat→α}{z:α}{ks:List Nat}{i v:Nat}(h:ks[i]?=some v):fT f z ks (i+1)=f (fT f z ks i) v:=by
 grind [List.take_add_one,fT]
theorem aWS{α:Type}{f:α→Nat→α}{z:α}{ks:List Nat}:fT f z ks ks.length=ks.foldl f z:=by
 simp[fT]
theorem bCZ{a n k:Nat}(h:a<2^n)(hk:k∈el a):k<n:=by
 grind [aWU,aQD]
def wS(W:List Int)(n:Int)(k:Nat):Int:=n+W.getD k 0
def wgt(W:List Int)(a:Nat):Int:=(el a).foldl (wS W) 0
theorem aTJ{W:List Int}(hW:∀ v∈W,0≤v∧v≤1000000):∀(ks:List Nat)(z:Int),z≤ks.foldl (wS W) z∧ks.foldl (wS W) z≤z+1000000*(ks.length:Int)
 | [],z=>by simp
 | k::ks,z=>by
   have ih:=aTJ hW ks (wS W z k);have hv:0≤W.getD k 0∧W.getD k 0≤1000000:=by
    rw[C7];cases h:W[k]? with
    | none=>simp
    | some v=>exact hW v (A5 h)
   grind [wS]
theorem aYX{W:List Int}(hW:∀ v∈W,0≤v∧v≤1000000)(a i:Nat):0≤fT (wS W) 0 (el a) i∧fT (wS W) 0 (el a) i≤10000000:=by
 have h:=aTJ hW ((el a).take i) 0
 grind [fT,el]
theorem bDU(a:Nat):runW aB 38 [Uq a] []=some (.fn (.func 84) [] [.pt 0 0],[cU a]):=by
 rw[qX 38 x38 rfl];unfold x38;dsimp only;(exact RS0)
section
variable{q:Int}{W:List Int}
abbrev aMm(q:Int)(W:List Int)(n:Int):XH:=[some (.loop 39 0 [.pt 1 0,.pt 2 0] .ready),some (.blk true (.cells true [I q,.fs (wr W)])),some (.blk true (.cells true [I n]))]
theorem aSC(n:Int):aTo 3 (aMm q W n):=by
 refine⟨fun _=>rfl,fun _ _=>rfl,fun _=>rfl,?_,?_⟩
 ·intro a e h0 h1
  (exact RS2 h0 h1)
 ·intro a
  rfl
theorem bDA(n m:Int){k:Nat}{x:Int}(hl:W.length≤9)(hk:W[k]?=some x)(hm:IntKind.i64.wrap (n+x)=m):Yd (aMm q W n) (aMm q W m) k true:=by
 have hkl:=(D0.1 hk).1;have c1:((k:Int)<(W.length:Int))=True:=AAa;have ln:=aBZ W;have r1:=aNm hk;have y:runYW aB (.fn (.yield 0) [] []) [I (k:Nat)] (aMm q W n)=some (.bool true,aMm q W m):=by
  rw[kK (K:=39) (d:=x39) (site:=0) (vs:=[.pt 1 0,.pt 2 0]) rfl rfl (by rfl) rfl];(exact RS4 c1 r1 ln hm)
 intro a;(exact dG y)
theorem bDW(hW:∀ v∈W,0≤v∧v≤1000000)(hl:W.length≤9){a:Nat}(ha:a<2^W.length):runW aB 39 [.agg [I q,.fs (wr W)],Uq a] []=some (I (wgt W a),[]):=by
 have ha2:a<1024:=E6 ha (J4 (n:=2) AM (by omega:W.length≤10));have e236:=bDU a
 have e:runW aB 84 [.fn (.yield 0) [] [],.pt 3 0] [some (.loop 39 0 [.pt 1 0,.pt 2 0] .ready),some (.blk true (.cells true [I q,.fs (wr W)])),some (.blk true (.cells true [I 0])),cU a] =
  some (.tup [],[some (.loop 39 0 [.pt 1 0,.pt 2 0] .ready),some (.blk true (.cells true [I q,.fs (wr W)])),some (.blk true (.cells true [I (wgt W a)])),some (.blk true (.cells true [.int .u64 0]))]):=by
  have h:=aQf (n:=3) (G:=fun i=>aMm q W (fT (wS W) 0 (el a) i)) ha2 (fun i _=>aSC _) (by
   intro i v hv;have hvl:=bCZ ha (A5 hv);obtain⟨x,hx⟩:∃ x,W[v]?=some x:=⟨_,A8 hvl⟩;have b1:=aYX hW a i;have b2:=hW x (A5 hx);refine bDA _ _ hl hx ?_;rw[bCV hv];show IntKind.i64.wrap (fT (wS W) 0 (el a) i+x)=fT (wS W) 0 (el a) i+W.getD v 0
   grind [aE])
  unfold wgt;rw[aWS]at h;exact h
 rw[qX 39 x39 rfl];unfold x39;dsimp only;(exact RS2 e236 e)
def yT(q:Int)(W:List Int)(a:Nat):Bool:=decide (q≤wgt W a)
theorem bDV(hW:∀ v∈W,0≤v∧v≤1000000)(hl:W.length≤9){a:Nat}(ha:a<2^W.length):runW aB 258 [.agg [I q,.fs (wr W)],Uq a] []=some (.bool (yT q W a),[]):=by
 have c1:=bDW (q:=q) hW hl ha;rw[qX 258 aQZ rfl];unfold aQZ yT;dsimp only;rcases ptf (q≤wgt W a)with h1|h1
 ·have d1:decide (q≤wgt W a)=true:=by simp[h1]
  rw[d1];(exact RS2 c1 h1)
 ·have d1:decide (q≤wgt W a)=false:=by simp[h1]
  rw[d1];(exact RS2 c1 h1)
end
theorem aAz{e:aH}{tab:List (TypeId×FuncId)}{k:Nat}:aL e (.meth tab k)=aDk tab (e k):=rfl
theorem pH{v:AV}:aDk [(31,258),(192,264)] (.ifc 31 v) = .fn (.func 258) [v] []:=rfl
theorem pG{v:AV}:aDk [(31,258),(192,264)] (.ifc 192 v) = .fn (.func 264) [v] []:=rfl
section
variable{q:Int}{W:List Int}
theorem bDP(hW:∀ v∈W,0≤v∧v≤1000000)(hl:W.length≤9){a:Nat}(ha:a<2^W.length):runW aB 266 [.ifc 31 (.agg [I q,.fs (wr W)]),.pt 0 0] [cU a]=some (.bool (!yT q W a),[cU a]):=by
 have c1:=bDV (q:=q) hW hl ha;rw[qX 266 aQW rfl];unfold aQW cU;dsimp only;(exact RS5 c1 @dA @aAz @pH @pG)
theorem bDO(hW:∀ v∈W,0≤v∧v≤1000000)(hl:W.length≤9){a:Nat}(ha:a<2^W.length):runW aB 267 [chB q W,.fn (.func 266) [] [.pt 0 0]] [cU a]=some (I (if yT q W a then -1 else 0),[cU a]):=by
 have c1:=bDP (q:=q) hW hl ha;rw[qX 267 aQV rfl];unfold aQV aMU chB cU at *;dsimp only;cases hb:yT q W a
 ·simp only[hb,I9,B8,AAd]at c1 ⊢
  (exact RS5 c1 @dA @aAz @pH @pG)
 ·simp only[hb,aH8,AAe]at c1 ⊢
  (exact RS5 c1 @dA @aAz @pH @pG)
theorem bDQ(hW:∀ v∈W,0≤v∧v≤1000000)(hl:W.length≤9){a:Nat}(ha:a<2^W.length):runW aB 265 [chB q W,.fn (.func 266) [] [.pt 0 0]] [cU a]=some (.bool (!yT q W a),[cU a]):=by
 have c1:=bDO (q:=q) hW hl ha;rw[qX 265 aQX rfl];unfold aQX chB cU at *;dsimp only;cases hb:yT q W a
 ·simp only[hb,I9,B8,AAd]at c1 ⊢
  (exact RS5 c1 @dA @aAz @pH @pG)
 ·simp only[hb,aH8,AAe]at c1 ⊢
  (exact RS5 c1 @dA @aAz @pH @pG)
theorem aZe(hW:∀ v∈W,0≤v∧v≤1000000)(hl:W.length≤9){a:Nat}(ha:a<2^W.length):runW aB 264 [chB q W,Uq a] []=some (.bool (yT q W a),[]):=by
 have c1:=bDQ (q:=q) hW hl ha;have nn:(!(!yT q W a))=yT q W a:=by grind
 rw[qX 264 aQY rfl];unfold aQY chB cU at *;dsimp only;(exact RS7 c1 nn @dA @aAz @pH @pG aG)
theorem bEe{a:Nat}(ha:a<2^63){i:Nat}(hi:i<63):runW aB 71 [Uq a,I (i:Nat)] []=some (Uq (a|||2^i),[]):=by
 have n0:((i:Int)<0)=False:=AAb;have s1:=aFS aAv hi;have o1:=aTh aAv ha (b:=2^i) (O3 AM hi);rw[qX 71 x71 rfl];unfold x71;dsimp only;(exact RS7 n0 s1 o1 @dA @aAz @pH @pG)
theorem bEa{a:Nat}(ha:a<2^63){i:Nat}(hi:i<63):runW aB 107 [Uq a,.fs [[I (i:Nat)]]] []=some (Uq (dif a (2^i)),[]):=by
 have n0:((i:Int)<0)=False:=AAb;have s1:=aFS aAv hi;have o1:=aQB aAv ha (b:=2^i) (O3 AM hi);rw[qX 107 aRd rfl];unfold aRd aNk;dsimp only;(exact RS7 n0 s1 o1 @dA @aAz @pH @pG)
end
def swB(q:Int)(W:List Int)(i m:Nat):Bool := !m.testBit i&&(!yT q W m&&yT q W (m|||2^i))
def swT(q:Int)(W:List Int)(i m:Nat):Nat:=((List.range m).filter (swB q W i)).length
theorem aNL(q:Int)(W:List Int)(i m:Nat):swT q W i (m+1)=swT q W i m+if swB q W i m then 1 else 0:=by
 grind [List.range_succ,swT]
theorem aNM(q:Int)(W:List Int)(i m:Nat):swT q W i m≤m:=by
 grind [swT]
section
variable{q:Int}{W:List Int}
abbrev hsC(q:Int)(W:List Int):List AV:=[.fs [[I q,.fs (wr W)]],.ifc 192 (.fs [[.ifc 31 (.agg [I q,.fs (wr W)])]]),I W.length,Uq (2^W.length-1)]
abbrev hsX(q:Int)(W:List Int):Option XB:=some (.blk true (.cells true (hsC q W)))
abbrev fnX:Option XB:=some (.blk true (.cells true [.fn (.func 30) [] []]))
abbrev aDw(q:Int)(W:List Int)(i:Nat)(n:Int):XH:=[some (.loop 69 0 [.pt 1 0,.pt 2 0,.pt 3 0,.pt 4 0] .ready),hsX q W,fnX,some (.blk true (.cells true [I (i:Nat)])),some (.blk true (.cells true [I n]))]
theorem bEk(v:AV)(m:Nat):runW aB 30 [hsA q W,Uq m] []=some (I 1,[]):=by
 rw[qX 30 x30 rfl];unfold x30 hsA chB;dsimp only;(exact RS3 @aAz @pH @pG)
theorem bDB(hW:∀ v∈W,0≤v∧v≤1000000)(hl:W.length≤9){i m:Nat}(hi:i<W.length)(hm:m<2^W.length)(hb:m.testBit i=false){n:Int}(hn:0≤n∧n≤1000) :
 runYW aB (.fn (.yield 0) [] []) [Uq m] (aDw q W i n)=some (.bool true,aDw q W i (n+if swB q W i m then 1 else 0)):=by
 have p2:2^W.length≤2^9:=J4 AM hl;have hor:=bAq hm hi;have c1:=aZe (q:=q) hW hl hm;have c2:=bEe (a:=m) AM (i:=i) AM;have c3:=aZe (q:=q) hW hl hor;have c4:=bEk (q:=q) (W:=W) .any m;have a1:IntKind.i64.wrap (n+1)=n+1:=aE AM AM;rw[kK (K:=69) (d:=x69) (site:=0) (vs:=[.pt 1 0,.pt 2 0,.pt 3 0,.pt 4 0]) rfl rfl (by rfl) rfl];unfold swB;rw[hb];unfold hsA chB at *;cases e1:yT q W m with
 | true =>
   rw[e1]at c1;simp only[aH8,Bool.false_and,aH4,B8,AAd,aG8];(exact RS4 c1 @aAz @pH @pG)
 | false =>
   rw[e1]at c1;cases e2:yT q W (m|||2^i)with
   | true =>
     rw[e2]at c3;simp only[I9,aH6,AAe];(exact RS9 c1 c2 c3 c4 a1 @aAz @pH @pG aG)
   | false =>
     rw[e2]at c3;simp only[I9,aF9,B8,AAd,aG8];(exact RS7 c1 c2 c3 @aAz @pH @pG aG)
theorem bEf(i:Nat):runW aB 70 [hsA q W,.sl 0 0 1 1] [some (.blk true (.cells true [I (i:Nat)]))]=some (.fn (.func 106) [] [.pt 1 0,.pt 2 0],[some (.blk true (.cells true [I (i:Nat)])),hsX q W,some (.blk false (.cells true [.sl 0 0 1 1]))]):=by
 rw[qX 70 x70 rfl];unfold x70 hsA chB;dsimp only;(exact RS3 @aAz @pH @pG)
theorem aWY{m i:Nat}(hm:m<2^63)(hi:i<63):dif m (2^i)=m↔m.testBit i=false:=by
 have hp:2^i<2^64:=O3 AM AM;constructor;·grind [aLk]
 ·intro h
  apply Nat.eq_of_testBit_eq;intro j;rw[aLk hp,Nat.testBit_two_pow];by_cases e:i=j;·grind
  ·by_cases hj:j<64
   ·simp[e,hj]
   ·rw[aQD hm AM];simp
abbrev tAc(q:Int)(W:List Int)(i:Nat):XH:=[hsX q W,some (.blk false (.cells true [.sl 7 0 1 1])),some (.blk true (.cells true [I (i:Nat)]))]
abbrev tBc(q:Int)(W:List Int)(i:Nat):XH:=[hsX q W,some (.blk true (.cells true [.fs [[I (i:Nat)]]])),none]
def aWF(q:Int)(W:List Int)(i:Nat):Nat→XH
 | 0=>aDw q W i 0++tAc q W i
 | m+1=>aDw q W i (swT q W i (m+1):Nat)++tBc q W i
theorem aAm{i m:Nat}(hm:0<m):aWF q W i m=aDw q W i (swT q W i m:Nat)++tBc q W i:=by
 cases m with
 | zero=>omega
 | succ m=>rfl
theorem bEb(hW:∀ v∈W,0≤v∧v≤1000000)(hl:W.length≤9){i:Nat}(hi:i<W.length) :
 runW aB 106 [.fn (.yield 0) [] [],.pt 5 0,.pt 6 0] (aDw q W i 0++tAc q W i)=some (.tup [],aDw q W i (swT q W i (2^W.length):Nat)++tBc q W i):=by
 have p2:2^W.length≤2^9:=J4 AM hl;have p1:1≤2^W.length:=aE3;have e0:(((2^W.length:Nat):Int)≤((2^W.length-1:Nat):Int))=False:=AAb;have stp:∀ m:Nat,m<2^W.length→(m.testBit i=true∧((m:Int)=((dif m (2^i):Nat):Int))=False∧swT q W i (m+1)=swT q W i m)∨(m.testBit i=false∧((m:Int)=((dif m (2^i):Nat):Int))=True∧runYW aB (.fn (.yield 0) [] []) [Uq m] (aDw q W i (swT q W i m:Nat))=some (.bool true,aDw q W i (swT q W i (m+1):Nat))):=fun m hm=>by
  have hd:=aWY (m:=m) (i:=i) AM AM;cases hb:m.testBit i with
  | true =>
    refine .inl ⟨rfl,AAl fun e=>?_,?_⟩;·grind
    ·rw[aNL,swB,hb];simp
  | false =>
    refine .inr ⟨rfl,AAk (by rw[hd.2 hb]),?_⟩
    grind [aNM,bDB,aNL]
 rw[qX 106 aRe rfl];unfold aRe;dsimp only;sym =>
  simp[Za,Zb,Zf,Zg,Zh,Zj,Zl,Zm,Zp,Zq,Zs,Zv,Zy,ZA,ZD,ZF,ZU,Yc,Yg,Yl,Ym,Yn,Yo,Yp,Yr,Y5,YC,YF,YJ,YU,YX,Xy,XL,XM,XO,Wa,Wj,Wu,Wv,Wz,W3,W5,WA,WJ,WL,WS,WX,WY,Va,Vf,Vi,Vm,V3,V4,V5,V6,V7,V8,V9,VA,VC,VD,VE,VF,VH,VI,VJ,VK,VM,VN,VO,VP,VQ,VR,VS,VT,VV,VW,VX,VY,VZ,Ua,Uc,Ud,Ue,Uf,Uh,Ui,Uj,Uk,Ul,Ut,Uu,Uv,Uw,Ux,Uy,Uz,U6,U7,U8,U9,UB,UC,UD,UE,UF,UH,UJ,UK,UL,UM,UO,UQ,UW,UX,UY,UZ,Ta,Tb,Tc,Te,Tf,Tg,Th,Ti,Tj,Tl,Tm,Tn,Tp,Ts,Tv,Ty,T2,T6,T7,T8,TS,TT,TU,TV,TW,TX,TY,TZ,Sa,Sc,Sd,Se,Sf,SF,SG,SL,SY,Ra,Rc,Re,Rf,Rg,Rh,Rj,Rl,Rm,Ro,Rp,Qm,Qn,QD,QM,QO,QR,Pe,Pf,Pg,Pj,Pk,Pl,PC,PD,PE,PG]
  tactic =>
   unfold aNl;rw[aQ (2^W.length) (fun m=>[.fn (.yield 0) [] [],.pt 5 0,.pt 6 0,Uq m]) (aWF q W i)]
   ·rw[aAm AM]
    (exact dG e0)
   ·rfl
   ·intro m hm
    have t1:((m:Int)≤((2^W.length-1:Nat):Int))=True:=AAa;have c7:=bEa (a:=m) AM (i:=i) AM;have u1:IntKind.u64.wrap ((m:Int)+1)=((m+1:Nat):Int):=by
     rw[show (m:Int)+1=((m+1:Nat):Int) by omega];exact nZ aAv AM
    cases m with
    | zero =>
      rcases stp 0 hm with ⟨hb,_⟩|⟨_,h2,h3⟩;·simp at hb
      ·have s0:swT q W i 0=0:=rfl
       rw[s0]at h3;unfold aWF;have t1:((0:Int)≤((2^W.length-1:Nat):Int))=True:=t1;have c7:runW aB 107 [.int .u64 0,.fs [[I (i:Nat)]]] []=some (.int .u64 ((dif 0 (2^i):Nat):Int),[]):=c7;have h2:((0:Int)=((dif 0 (2^i):Nat):Int))=True:=h2;have h3:runYW aB (.fn (.yield 0) [] []) [.int .u64 0] (aDw q W i 0)=some (.bool true,aDw q W i (swT q W i (0+1):Nat)):=h3;(exact RS4 t1 c7 h2 h3)
    | succ m =>
      rw[aAm (aG9 m),aAm (aG9 (m+1))];rcases stp (m+1) hm with ⟨_,h2,h3⟩|⟨_,h2,h3⟩
      ·rw[h3]
       (exact RS4 t1 c7 u1 h2)
      ·(exact RS5 t1 c7 u1 h2 h3)
   ·rw[aAm AM]
    (exact dG e0)
def swg(q:Int)(W:List Int)(i:Nat):Int:=(swT q W i (2^W.length):Nat)
theorem bEg(hW:∀ v∈W,0≤v∧v≤1000000)(hl:W.length≤9){i:Nat}(hi:i<W.length) :
 runW aB 69 [I (i:Nat),.pt 0 0,.pt 1 0] [hsX q W,fnX]=some (I (swg q W i),[hsX q W,fnX]):=by
 have c1:=bEf (q:=q) (W:=W) i
 have c2:runW aB 106 [.fn (.yield 0) [] [],.pt 5 0,.pt 6 0] [some (.loop 69 0 [.pt 1 0,.pt 2 0,.pt 3 0,.pt 4 0] .ready),hsX q W,fnX,some (.blk true (.cells true [I (i:Nat)])),some (.blk true (.cells true [I 0])),hsX q W,some (.blk false (.cells true [.sl 7 0 1 1])),some (.blk true (.cells true [I (i:Nat)]))] =
  some (.tup [],[some (.loop 69 0 [.pt 1 0,.pt 2 0,.pt 3 0,.pt 4 0] .ready),hsX q W,fnX,some (.blk true (.cells true [I (i:Nat)])),some (.blk true (.cells true [I (swT q W i (2^W.length):Nat)])),hsX q W,some (.blk true (.cells true [.fs [[I (i:Nat)]]])),none]):=bEb (q:=q) hW hl hi
 unfold hsA chB at *;rw[qX 69 x69 rfl];unfold x69 swg;dsimp only;(exact RS2 c1 c2)
def swL(q:Int)(W:List Int)(i:Nat):List Int:=(List.range i).map (swg q W)
theorem aVe(q:Int)(W:List Int)(i:Nat):swL q W (i+1)=swL q W i++[swg q W i]:=by
 grind [List.range_succ,swL]
theorem aFO(q:Int)(W:List Int)(i:Nat):(swL q W i).length=i:=by simp[swL]
def aVr:Nat→AV
 | 0=>.nilsl
 | i+1=>.sl 2 0 1 (i+1)
def aWG(q:Int)(W:List Int):Nat→XH
 | 0=>[hsX q W,fnX]
 | i+1=>[hsX q W,fnX,some (.blk true (.cells true ((swL q W (i+1)).map I)))]
theorem tX{i:Nat}(hi:0<i):aVr i = .sl 2 0 1 i:=by
 cases i with
 | zero=>omega
 | succ i=>rfl
theorem uP{i:Nat}(hi:0<i):aWG q W i=[hsX q W,fnX,some (.blk true (.cells true ((swL q W i).map I)))]:=by
 cases i with
 | zero=>omega
 | succ i=>rfl
theorem aVf(q:Int)(W:List Int)(n:Nat):bM ((swL q W n).map I) 0 1 n=wr (swL q W n):=by
 have h:=rM (f:=I) (swL q W n) [];rw[aFO]at h;exact h
theorem bEh(hW:∀ v∈W,0≤v∧v≤1000000)(h1:1≤W.length)(hl:W.length≤9) :
 runW aB 68 [hsA q W,.fn (.func 69) [] [.pt 0 0,.pt 1 0]] [hsX q W,fnX]=some (.fs (wr (swL q W W.length)),[hsX q W,fnX]):=by
 have e0:((W.length:Int)<(W.length:Int))=False:=AAb;have sl:=aFO q W;have ch:=aVf q W W.length;rw[qX 68 x68 rfl];unfold x68 hsA chB;dsimp only;sym =>
  simp[Za,Zb,Zd,Ze,Zf,Zh,Zl,Zm,Zo,Zv,Zz,Z8,ZA,ZF,ZU,Yc,Yg,Yk,Yl,Ym,Yr,Y5,YE,YM,YU,YX,Xy,XM,XN,XO,XZ,Wf,Wi,Wj,Wq,Wu,W3,W4,W5,W9,WL,WX,Vb,Ve,Vg,Vl,Vn,Vp,Vs,V3,V4,V5,V6,V7,V8,V9,VA,VB,VC,VD,VE,VF,VH,VI,VK,VM,VN,VO,VP,VQ,VR,VS,VT,VU,VV,VW,VX,VZ,Ua,Ue,Uf,Ui,Uj,Uk,Ul,Ut,Uu,Uv,Uw,Ux,UB,UD,UG,UH,UJ,UK,UL,UM,UN,UQ,UR,US,UT,UV,UW,UX,UY,UZ,Ta,Tb,Tc,Te,Tf,Tg,Th,Ti,Tj,Tl,Tm,Tn,Tp,Tq,Ts,Tv,T2,T6,T7,T8,T9,TR,TS,TT,TU,TV,TW,TX,TY,Se,Sf,Sg,Si,Sj,Sk,Sw,Sx,Sy,Sz,S2,S3,S8,S9,SA,SB,SC,SD,SE,SF,SG,SL,SQ,SS,SU,SV,SX,SY,Ra,Rb,Rc,Re,Rf,Rg,Rh,Rj,Rl,Rm,Ro,Rp,RY,RZ,Qh,QM,QO,QR,PC,PD,PE,PG]
  tactic =>
   unfold aTD;rw[aQ W.length (fun i=>[.fn (.func 69) [] [.pt 0 0,.pt 1 0],aVr i,I W.length,I (i:Nat)]) (fun i=>aWG q W i)]
   ·have l0:(W.length≤(swL q W W.length).length)=True:=AAk (by grind)
    rw[tX h1,uP h1];(exact RS3 e0 ch l0)
   ·rfl
   ·intro i hi
    have c:=bEg (q:=q) hW hl hi;have t1:((i:Int)<(W.length:Int))=True:=AAa;have a2:IntKind.i64.wrap ((i:Int)+1)=((i+1:Nat):Int):=by grind [aE]
    cases i with
    | zero =>
      have e1:(swL q W (0+1)).map I=[I (swg q W 0)]:=rfl;have z0:aVr 0 = .nilsl:=rfl;have z1:aWG q W 0=[hsX q W,fnX]:=rfl;have t1:((0:Int)<(W.length:Int))=True:=t1;have c:runW aB 69 [I 0,.pt 0 0,.pt 1 0] [hsX q W,fnX]=some (I (swg q W 0),[hsX q W,fnX]):=c;rw[z0,z1,tX (aG9 0),uP (aG9 0),e1];(exact RS2 t1 c)
    | succ i =>
      have e1:(swL q W (i+1+1)).map I=(swL q W (i+1)).map I++[I (swg q W (i+1))]:=by grind [aVe]
      have l1:=sl (i+1);have b1:((i+1+1)*8≤1099511627776)=True:=AAa;have b2:(i+1+1≤1099511627776)=True:=AAa;have p1:0<i+1:=AM
      have p2:0<i+1+1:=AM
      rw[tX p1,tX p2,uP p1,uP p2,e1];generalize swL q W (i+1)=Z at *;(exact RS7 t1 c a2 l1 b1 b2 aG)
   ·rw[tX h1,uP h1]
    (exact dG e0)
theorem bEl(hq:1≤q∧q≤10000000)(hW:∀ v∈W,0≤v∧v≤1000000)(h1:1≤W.length)(hl:W.length≤9) :
 runW aB 29 [.agg [.sl 0 0 2 1],.fn (.func 30) [] []] [some (.blk false (.cells true [I q,.sl 1 0 1 W.length])),some (.blk true (.cells true (W.map I)))]=some (.tup [.fs (wr (swL q W W.length)),I 0],[none,none]):=by
 have c1:=bEi hq hW h1 hl;have c2:=bEh (q:=q) hW h1 hl;have ch:(W.map fun v=>[AV.int .i64 v])=wr W:=rfl;unfold chA hsA chB at *;rw[qX 29 x29 rfl];unfold x29;dsimp only;(exact RS3 c1 c2 ch)
theorem bEn(hq:1≤q∧q≤10000000)(hW:∀ v∈W,0≤v∧v≤1000000)(h1:1≤W.length)(hl:W.length≤9) :
 runW aB 8 [.agg [.sl 0 0 2 1]] [some (.blk false (.cells true [I q,.sl 1 0 1 W.length])),some (.blk true (.cells true (W.map I)))]=some (.tup [.fs (wr (swL q W W.length)),I 0],[none,none]):=by
 have c1:=bEl hq hW h1 hl;rw[qX 8 x8 rfl];unfold x8;dsimp only;(exact dG c1)
end
end Go.Proofs.YtjckchgdlbgolaaGreatDoor
namespace Go.DL
theorem uC{h:XH}{k:Nat}{acc:List Nat}:∀(n:Nat)(l:List Nat),(∀ b∈l,b<k∨b∈acc)→cI h k n l acc=acc
 | 0,_,_=>rfl
 | n+1,[],_=>rfl
 | n+1,b::r,h1=>by
   unfold cI;rw[if_pos (h1 b (by simp))];exact uC n r fun c hc=>h1 c (by simp[hc])
theorem zW{h k:XH}(cd:Cd h):∀ b∈(cW h.length (h++k)).flatMap nmO,b<h.length:=by
 rw[mA];intro b hb;obtain⟨x,hx,hb⟩:=aB2.1 hb;exact cd x hx b hb
theorem aPF{h k:XH}{n c:Nat}{r:List Nat}{x:XB}(hn:h.length=n)(cd:Cd h){L:List Nat}{e:aH}(hv:kB (L.map e)=c::n::r)(hc:c<n)(hr:∀ b∈r,b<n)(hx:hat (h++k) n=some x)(hx0:nmO (some x)=[]):bP n L (some (.normal,e,h++k))=some (L.map e,h++[some x]):=by
 subst hn;have hxb:nmB x=[]:=hx0;have h1:cY h.length (L.map e) (h++k)=[h.length]:=by
  unfold cY;have hf:=zW (k:=k) cd;rw[hv];generalize (cW h.length (h++k)).flatMap nmO=fl at hf;show cI (h++k) h.length 4096 (c::h.length::(r++fl)) []=_;rw[cI,if_pos (.inl hc),cI,if_neg (by simp),hx]
  grind [uC]
 have hs:∀ b,b≤h.length→keepS h.length [h.length] b=some b:=fun b hb=>by
  unfold keepS;by_cases hb2:b<h.length;·grind
  ·have:b=h.length:=AM
   subst this;rw[if_neg hb2];simp[fR]
 rw[Rm];unfold yF jK mR;rw[h1,mA,aGD cd]
 grind [jB,aGh]
theorem aPE{h k:XH}{n m c o z l:Nat}{r:List Nat}{y:XB}{q:AV}(hn:h.length=n)(cd:Cd h){L:List Nat}{e:aH}(hv:kB (L.map e)=c::n::r)(hc:c<n)(hr:∀ b∈r,b<n)(hq:∃ i,q = .int .i64 i)(hx:hat (h++k) n=some (.blk false (.cells true [q,.sl m o z l])))(hm:n<m)(hy:hat (h++k) m=some y)(hy0:nmO (some y)=[]) :
 bP n L (some (.normal,e,h++k))=some (L.map e,h++[some (.blk false (.cells true [q,.sl (n+1) o z l])),some y]):=by
 obtain⟨i,rfl⟩:=hq;subst hn;have hyb:nmB y=[]:=hy0;have h1:cY h.length (L.map e) (h++k)=[h.length,m]:=by
  unfold cY;have hf:=zW (k:=k) cd;rw[hv];generalize (cW h.length (h++k)).flatMap nmO=fl at hf;show cI (h++k) h.length 4096 (c::h.length::(r++fl)) []=_;rw[cI,if_pos (.inl hc),cI,if_neg (by simp),hx];dsimp only;show cI (h++k) h.length 4094 (m::(r++fl)) [h.length]=_;rw[cI,if_neg (by simp;omega),hy]
  grind [uC]
 have hs:∀ b,b≤h.length→keepS h.length [h.length,m] b=some b:=fun b hb=>by
  unfold keepS;by_cases hb2:b<h.length;·grind
  ·have:b=h.length:=AM
   subst this;rw[if_neg hb2];simp[fR]
 have hsm:keepS h.length [h.length,m] m=some (h.length+1):=by
  unfold keepS;rw[if_neg AM];have h2:¬m=h.length:=AM
  have h3:fR m [h.length,m]=some 1:=by simp[fR,h2]
  grind
 rw[Rm];unfold yF jK mR;rw[h1,mA,aGD cd];rw[jB _ _ fun b hb=>by
  grind]
 simp only[F8,aG7,hx,hy];rw[aGh _ (some y) fun b hb=>by grind];congr 2;show h++[some (XB.blk false (.cells true (kD _ [.int .i64 i,.sl m o z l]))),_]=_;simp only[kD,rnA,hsm]
end Go.DL
namespace Go.Proofs.YtjckchgdlbgolaaGreatDoor
section
open Go Go.DL
theorem aSW{h k:XH}{n c:Nat}{r:List Nat}{x:XB}(hn:h.length=n)(cd:Cd h){L:List Nat}{q:Option (DX×aH×XH)}{vs:List AV}(hq:rJ L q=some (.normal,vs,h++k))(hv:kB vs=c::n::r)(hc:c<n)(hr:∀ b∈r,b<n)(hx:hat (h++k) n=some x)(hx0:nmO (some x)=[]):bP n L q=some (vs,h++[some x]):=by
 unfold rJ at hq
 grind [Option.map_eq_some_iff,aPF]
theorem aLm{h k:XH}{n m c o z l:Nat}{r:List Nat}{y:XB}{a:AV}(hn:h.length=n)(cd:Cd h){L:List Nat}{q:Option (DX×aH×XH)}{vs:List AV}(hq:rJ L q=some (.normal,vs,h++k))(hv:kB vs=c::n::r)(hc:c<n)(hr:∀ b∈r,b<n)(ha:∃ i,a = .int .i64 i)(hx:hat (h++k) n=some (.blk false (.cells true [a,.sl m o z l])))(hm:n<m)(hy:hat (h++k) m=some y)(hy0:nmO (some y)=[]) :
 bP n L q=some (vs,h++[some (.blk false (.cells true [a,.sl (n+1) o z l])),some y]):=by
 unfold rJ at hq
 grind [Option.map_eq_some_iff,aPE]
variable{h h' h1:XH}{L:CL}{s:dU}{x:ByteArray}
def cC(s:dU):List Int:=s.farmers.map fun p=>oV p.2 1000
def aCN(s:dU):Int:=oV (cC s).sum 2+1
def aEu(s:dU)(x:ByteArray):Int:=match dV (s.farmers.map (·.1)) x with
 | some i=>swg (aCN s) (cC s) i
 | none=>0
def atS(ix i:Nat):Int:=if ix<i then (ix:Int) else 0
def kS(n:Nat)(W:List Int):Nat→XH
 | 0=>[some (.blk true (.cells true [I 0,.nilsl]))]
 | i+1=>[some (.blk false (.cells true [I 0,.sl (n+1) 0 1 (i+1)])),some (.blk true (.cells true ((W.take (i+1)).map I)))]
theorem aGK{n i:Nat}{W:List Int}(hi:0<i):kS n W i=[some (.blk false (.cells true [I 0,.sl (n+1) 0 1 i])),some (.blk true (.cells true ((W.take i).map I)))]:=by
 cases i with
 | zero=>omega
 | succ i=>rfl
theorem aCb(s:dU):(cC s).length=s.farmers.length:=by simp[cC]
theorem aFM(gs:gH s):∀ v∈cC s,0≤v∧v≤30000:=by
 intro v hv;obtain⟨p,hp,rfl⟩:=G1.1 hv;have h1:=gs.fs p hp;have h2:=gs.bf p hp;have h3:=gs.book;have h0:0≤p.2:=by
  rw[h1];unfold yU;have:∀ l:List CTk,(∀ k∈l,0≤k.net)→0≤(l.map fun k=>if k.farmer=p.1∧k.void=false then k.net else 0).sum:=by
   intro l;induction l with
   | nil=>grind
   | cons k l ih =>
     grind
  exact this _ fun k hk=>(gs.bt k hk).1
 unfold oV
 grind
theorem aVg{l:List Int}{B:Int}(h:∀ v∈l,0≤v∧v≤B):0≤l.sum∧l.sum≤B*l.length:=by
 induction l with
 | nil=>simp
 | cons v r ih =>
   have h1:=h v (by simp);have h2:=ih fun w hw=>h w (E7 v hw);rw[aG2,D9]
   grind
theorem aNG(gs:gH s)(i:Nat):0≤((cC s).take i).sum∧((cC s).take i).sum≤300000:=by
 have h1:=aVg (l:=(cC s).take i) (B:=30000) fun v hv=>aFM gs v (O1 hv);have h2:((cC s).take i).length≤9:=by
  rw[aC8,aCb];have:=gs.lf;omega
 omega
theorem w98(ly:Lays h L s)(gs:gH s)(cd:Cd h){ix:Nat}(hx:dV (s.farmers.map (·.1)) x=some ix):∃ K,runW aB 66 [.pt L.c 0,.str x] h=some (I (aEu s x),h++K):=by
 obtain⟨n,hn⟩:∃ n,h.length=n:=⟨_,rfl⟩;obtain⟨g,hc⟩:=aC ly.hc;unfold cB at hc;have lc:L.c<n:=by rw[←hn];exact aJ ly.hc
 have cn:(L.c<n)=True:=AAk lc;have hix:ix<s.farmers.length:=by
  have:=(D0.1 (hO hx)).1
  grind
 have hk:0<s.farmers.length:=AM
 have hk9:=gs.lf;obtain⟨gw,hwo⟩:=ly.f.ho;rw[A9,eY hk]at hwo;obtain⟨gb,hfb⟩:=ly.f.hb (by grind);have lo:L.f.o<n:=by rw[←hn];exact ly.f.lts.1
 have lb:L.f.b<n:=by rw[←hn];exact ly.f.lts.2.2.1 (by grind)
 have won:(L.f.o<n)=True:=AAk lo;have wbn:(L.f.b<n)=True:=AAk lb;obtain⟨e0,v0,_,_,_,call0⟩:=ly.f.getf hx;have hWl:=aCb s;have bd:=aNG gs;have klt:((s.farmers.length:Int)<(s.farmers.length:Int))=False:=AAb;have fin:((cC s).take s.farmers.length).sum=(cC s).sum:=by grind
 have fin2:(cC s).take s.farmers.length=cC s:=by grind
 have nm:∀ i:Nat,kB [.pt L.c 0,.str x,.pt n 0,I (atS ix i),I ((cC s).take i).sum,.sl L.f.b 0 1 s.farmers.length,I s.farmers.length,I (i:Nat)]=L.c::n::[L.f.b]:=fun i=>rfl;have hr:∀ b∈[L.f.b],b<n:=fun b hb=>by grind
 refine⟨[some (.blk false (.cells true [I (aCN s),.sl (n+1) 0 1 s.farmers.length])),none,none],?_⟩;rw[qY 66 x66 rfl,hn];unfold x66;dsimp only;sym =>
  simp[dM,dN,gT,Za,Zb,Zc,Zf,Zh,Zl,Zm,Zv,Zw,Z0,Z9,ZF,ZQ,ZU,ZY,ZZ,Yc,Yg,Yl,Yr,Yu,Xv,Xx,Wf,Wn,Vd,Vi,Vs,V3,V4,V5,V6,V7,V9,VA,VB,VC,UV,Te,Tf,Tg,Ti,Tj,Tn,Tp,Tv,T2,TX,TY,Se,Sf,Sg,Si,SF,SG,SL,SM,SN,Ra,Rf,Rg,Ro,Rp,PB,PD,PG,PL,PM,PP,PR,hn,hc,cn,hwo,won,call0]
  tactic =>
   unfold aTE;rw[aQ s.farmers.length (fun i=>[.pt L.c 0,.str x,.pt n 0,I (atS ix i),I ((cC s).take i).sum,.sl L.f.b 0 1 s.farmers.length,I s.farmers.length,I (i:Nat)]) (fun i=>h++kS n (cC s) i)]
   ·rw[aGK hk,fin2]
    have q0:aCN s=oV (cC s).sum 2+1:=rfl;have b0:=bd s.farmers.length;rw[fin]at b0;have td:0≤oV (cC s).sum 2∧oV (cC s).sum 2≤300000:=by
     unfold oV
     grind
    have a1:IntKind.i64.wrap (oV (cC s).sum 2)=oV (cC s).sum 2:=aE AM AM;have a2:IntKind.i64.wrap (oV (cC s).sum 2+1)=aCN s:=by grind [aE]
    have c137:=bEn (q:=aCN s) (W:=cC s) AM (fun v hv=>by have:=aFM gs v hv;omega) AM AM;rw[hWl]at c137;have hat1:atS ix s.farmers.length=(ix:Int):=by unfold atS;omega
    have sl:=aFO (aCN s) (cC s) s.farmers.length;have wl:=aBZ (swL (aCN s) (cC s) s.farmers.length);rw[sl]at wl;have sg:(swL (aCN s) (cC s) s.farmers.length)[ix]?=some (swg (aCN s) (cC s) ix):=by
     unfold swL
     grind
    have wg:=aNm sg;have pw:aEu s x=swg (aCN s) (cC s) ix:=by unfold aEu;rw[hx]
    have ixn:((ix:Int)<(s.farmers.length:Int))=True:=AAa;have m1:(n+1=n+2)=False:=AAb;have m2:(n+2=n+1)=False:=AAb;have m3:(n+1<0)=False:=AAb;have m4:(n+2<0)=False:=AAb;rw[hat1,pw];(exact aEa hn klt a1 a2 c137 wl wg ixn m1 @m2 m3 m4 aG)
   ·exact aSW hn cd (k:=[some (.blk true (.cells true [I 0,.nilsl]))]) rfl (nm 0) lc hr (by rw[cJ,if_neg AM,hn,J5];rfl) rfl
   ·intro i hi
    obtain⟨⟨q,y⟩,hq⟩:∃ p,s.farmers[i]?=some p:=⟨_,A8 hi⟩;have hqk:(s.farmers.map (·.1))[i]?=some q:=by grind
    have hxq:=aFe gs.nf hqk;obtain⟨e,v,he,hv,hev,_⟩:=ly.f.getf hxq;obtain⟨e',v',he',_,_,call⟩:=(ly.ext (kS n (cC s) i)).f.getf hxq;rw[he]at he';cases he';rw[C4,hq]at hv;cases hv;have hev:aI h e=some (.cells true [I y]):=hev;have en:(e<n)=True:=AAk (by rw[←hn];exact aJ hev);obtain⟨ge,hee⟩:=aC hev;have t1:((i:Int)<(s.farmers.length:Int))=True:=AAa;have hWi:(cC s)[i]?=some (oV y 1000):=by unfold cC;grind
    have tb:=aFM gs _ (A5 hWi);have hs1:((cC s).take (i+1)).sum=((cC s).take i).sum+oV y 1000:=by
     grind [List.take_add_one]
    have b1:=bd (i+1);rw[hs1]at b1;have a1:IntKind.i64.wrap (oV y 1000)=oV y 1000:=aE AM AM;have a2:IntKind.i64.wrap (((cC s).take i).sum+oV y 1000)=((cC s).take i).sum+oV y 1000:=aE AM AM;have a3:IntKind.i64.wrap ((i:Int)+1)=((i+1:Nat):Int):=by grind [aE]
    have ht1:((cC s).take (i+1)).map I=((cC s).take i).map I++[I (oV y 1000)]:=by
     grind [List.take_add_one]
    have mq1:Option.map Prod.fst (some (q,y))=some q:=rfl;have mq2:Option.map AV.str (some q)=some (.str q):=rfl;have key:(aY .eql q x=some (.bool true)∧atS ix (i+1)=(i:Int))∨(aY .eql q x=some (.bool false)∧atS ix (i+1)=atS ix i):=by
     by_cases hqx:q=x
     ·refine .inl ⟨by grind [aBK],?_⟩
      rw[hqx,hx]at hxq;cases hxq;unfold atS;omega
     ·refine .inr ⟨by grind [aBK],?_⟩
      have hne:ix≠i:=fun q1=>by
       subst q1;have h2:=hO hx
       grind
      unfold atS;omega
    rw[aGK (Nat.zero_lt_succ i)];cases i with
    | zero =>
      have e1:((cC s).take (0+1)).map I=[I (oV y 1000)]:=by grind
      rw[e1];refine aLm hn cd (k:=[some (.blk false (.cells true [I 0,.sl (n+2) 0 1 1])),some (.blk true (.cells true [I (oV y 1000)])),some (.blk true (.cells true [I (oV y 1000)]))]) ?_ (nm (0+1)) lc hr ⟨0,rfl⟩ (by rw[cJ,if_neg AM,hn,J5];rfl) AM (by rw[cJ,if_neg AM,show n+2-h.length=2 by omega];rfl) rfl;have t1:((0:Int)<(s.farmers.length:Int))=True:=t1;have s0:((cC s).take 0).sum=0:=rfl;rw[hs1,s0];rw[s0]at a2 b1;have a2:IntKind.i64.wrap (0+oV y 1000)=0+oV y 1000:=a2;have k0:kS n (cC s) 0=[some (.blk true (.cells true [I 0,.nilsl]))]:=rfl;rw[k0]at call ⊢;have z1:atS ix 0=0:=by rfl
      rcases key with ⟨k1,k2⟩|⟨k1,k2⟩
      ·rw[k2,z1]
       (exact aEF hn t1 hfb hq mq1 mq2 hc hwo call hee a1 a2 k1 cn won wbn en aG aG aG)
      ·rw[k2,z1]
       (exact aEF hn t1 hfb hq mq1 mq2 hc hwo call hee a1 a2 k1 cn won wbn en aG aG aG)
    | succ i =>
      have pi:0<i+1:=AM
      rw[ht1,hs1];rw[aGK pi]at call ⊢;refine aLm hn cd (k:=[some (.blk false (.cells true [I 0,.sl (n+3) 0 1 (i+1+1)])),none,some (.blk true (.cells true [I (oV y 1000)])),some (.blk true (.cells true (((cC s).take (i+1)).map I++[I (oV y 1000)])))]) ?_ (by rfl) lc hr ⟨0,rfl⟩ (by rw[cJ,if_neg AM,hn,J5];rfl) AM (by rw[cJ,if_neg AM,show n+3-h.length=3 by omega];rfl) rfl;have tl:((cC s).take (i+1)).length=i+1:=by grind
      have b2:((i+1+1)*8≤1099511627776)=True:=AAa;have b3:(i+1+1≤1099511627776)=True:=AAa;generalize ((cC s).take (i+1)).sum=S0 at *;generalize (cC s).take (i+1)=W0 at *;rcases key with ⟨k1,k2⟩|⟨k1,k2⟩
      ·rw[k2]
       (exact pD hn t1 hfb hq mq1 mq2 hc hwo call hee a1 a2 a3 k1 cn won wbn en tl b2 b3 aG aG aG aG aG)
      ·rw[k2]
       (exact pD hn t1 hfb hq mq1 mq2 hc hwo call hee a1 a2 a3 k1 cn won wbn en tl b2 b3 aG aG aG aG aG)
   ·rw[aGK hk]
    (exact RT2 hn klt)
theorem aVb{q:Int}{W:List Int}{i:Nat}(h:W.length≤9):0≤swg q W i∧swg q W i≤1000:=by
 have p2:2^W.length≤2^9:=J4 AM h
 grind [aNM,swg]
theorem aVP(gs:gH s) : -1000000≤aEu s x∧aEu s x≤1000000:=by
 unfold aEu;split
 ·have:=aVb (q:=aCN s) (W:=cC s) (i:=by assumption) (by rw[aCb];exact gs.lf)
  omega
 ·omega
theorem aSK(h k:XH):Frz h.length h (h++k):=fun j c hc _=>by
 rw[gF,if_pos (aJ hc)];exact hc
theorem c98(ly:Lays h L s)(hx:dV (s.farmers.map (·.1)) x=none):CalP Tryz.prog aB 66 [.pt L.c 0,.str x] h (.ifc 84 (.agg [I 5])) h:=by
 obtain⟨n,hn⟩:∃ n,h.length=n:=⟨_,rfl⟩;obtain⟨g,hc⟩:=aC ly.hc;unfold cB at hc;have cn:(L.c<n)=True:=AAk (by rw[←hn];exact aJ ly.hc);have call:=ly.f.nonef hx;refine CalP.of (d:=x66) (e':=aZ [] []) aA rfl (by simp[x66]) rfl ?_;unfold x66;dsimp only;refine PanX.seqR (K:=66) aA rfl [0,1] (vs:=[.pt L.c 0,.str x]) (h1:=h) (by (exact RS0)) ?_;refine PanX.seqL ?_;exact PanX.reg (p:=[⟨0,some 13,.mv (.t 0),none⟩,⟨0,some 14,.nilck (.t 13),none⟩,⟨0,some 15,.fld 0 (.t 14),none⟩,⟨0,some 16,.load false 1 (.t 15),none⟩,⟨0,some 17,.mv (.t 1),none⟩]) (post:=[]) aA [] (g:=63) (first:=[]) (cap:=[]) (args:=[.pt L.f.o 0,.str x]) (vs:=[]) (h1:=h) rfl rfl (by (exact RS3 hn hc cn)) call
theorem aVO:aLt aEu:=by
 intro h L s x ly gs;cases hv:gS s.farmers x with
 | none=>exact⟨h,c98 ly (gJ.1 hv),(Fr.refl [] h).frz⟩
 | some v =>
   obtain⟨i,hi,_⟩:=eG hv;refine⟨aVP gs,fun cd=>?_⟩
   grind [w98,aSK]
end
section
open Go Go.DL Go.Proofs.Tryz
theorem aOV{D:Nat→Option XFn}{K:Nat}{f:List AV→XH→Option (AV×XH)}(hf:∀ xs h v h',f xs h=some (v,h')→h=[]∧h'=[]∧kY xs=true∧Gd v∧runW aB K xs []=some (v,[])):jX D K f:=by
 intro B Y r h H xs ys v h' sh hr hx;obtain⟨rfl,rfl,gx,gv,hrun⟩:=hf _ _ _ _ hx;obtain⟨rfl,gxs⟩:=hr.same gx;have rno:∀ b c,r b=some c→False:=fun b c hb=>by have:=sh.dom b c hb;simp at this
 have sh0:∀(D':Nat→Option XFn)(Y':Nat→Option YI)(r':Nat→Option Nat)(H':Hp),(∀ b c,r' b=some c→False)→SH D' Y' r' [] H':=fun D' Y' r' H' hn=>⟨fun b c hb=>(hn b c hb).elim,fun b c c' x y hx=>by simp[hat]at hx,fun b x hx=>by simp[hat]at hx,GhR.no fun b st p hx=>by simp[hat]at hx⟩;have fw:=(zO aA B (fun _=>none) (fun l i h=>by simp at h)).1 (fun _=>none) [] H K ys ys v [] (sh0 _ _ _ _ fun b c hb=>by cases hb) ⟨rfl,fun i a b ha hb=>by rw[ha]at hb;cases hb;exact(gxs a (A5 ha)).rn⟩ hrun;have cv:CallV B Tryz.prog (.fn (.func K) [] []) ys H (fH aB (fun _=>none) (fun _=>none) v []):=by
  have hn:[]++ys++[]=ys:=by simp
  rw[←hn]at fw;exact fw
 have goal:CallV B Tryz.prog (.fn (.func K) [] []) ys H (fH D Y r v []):=CallV.mono cv fun v' H' hq=>by
  obtain⟨r3,ha,sh3,hv⟩:=hq;obtain⟨rfl,_⟩:=hv.same gv.gr;exact⟨r,fun b c hb=>hb,sh0 _ _ _ _ rno,gv.rn⟩
 have hn:ys=[]++ys++[]:=by simp
 rw[hn];exact goal
theorem bCN(l:List ByteArray):Gd (.fs (rS l)):=.fs _ fun r hr c hc=>by
 unfold rS at hr;obtain⟨s,_,rfl⟩:=G1.1 hr;rw[C6.1 hc];exact .str s
theorem aUh{a:AV}(ha:Gd a)(x y:Int):Gd (.tup [a,I x,I y]):=.tup _ fun c hc=>by
 simp only[B5,F9,AAg]at hc;rcases hc with rfl|rfl|rfl;·exact ha
 ·exact .int _ _
 ·exact .int _ _
theorem aIh(e:Int):Gd (erV e):=aUh (.fs _ fun _ h=>by cases h) _ _
theorem bCO(s:ByteArray)(row:Int):Gd (mnV s row):=by
 unfold mnV;split
 ·split
  ·exact aIh _
  ·split
   ·exact aIh _
   ·unfold uY
    repeat' split
    all_goals first|exact aIh _|(unfold aCX;split<;>first|exact aIh _|exact aUh (bCN _) _ _)
 ·exact aIh _
def aGr:List AV→XH→Option (AV×XH):=fun xs h=>match xs,h with
 | [.str s,.int .i64 row],[]=>if s.size≤1000000 then some (mnV s row,[]) else none
 | _,_=>none
theorem bAc{D:Nat→Option XFn}:jX D 74 aGr:=aOV fun xs h v h' hx=>by
 unfold aGr at hx;split at hx
 ·split at hx
  ·rename_i hs
   cases hx;exact⟨rfl,rfl,rfl,bCO _ _,w16 hs⟩
  ·cases hx
 ·cases hx
noncomputable def sayA(s:dU)(line:ByteArray):ByteArray×dU:=qQ aEu s line (rd line)
noncomputable def progG(K:Nat):Option XFn:=match K with
 | 74=>some (oF aGr)
 | 5=>some (oF aKI)
 | 6=>some (oF (pmSay aEu rd))
 | 10=>some (oF pmSave)
 | K=>aB K
theorem aOU:XOk prog progG:=by
 refine XOk.over progX_ok fun K d hd=>?_;unfold progG at hd;split at hd;·cases hd;exact .inr ⟨_,_,rfl,bAc⟩
 ·cases hd;exact .inr ⟨_,_,rfl,bAb⟩
 ·cases hd;exact .inr ⟨_,_,rfl,bAa aVO aZT⟩
 ·cases hd;exact .inr ⟨_,_,rfl,aZZ⟩
 ·unfold aB at hd
  split at hd;·cases hd;exact .inr ⟨_,_,rfl,aTV⟩
  ·unfold aOT at hd
   split at hd;·cases hd;exact .inr ⟨_,_,rfl,aUc⟩
   ·cases hd;exact .inr ⟨_,_,rfl,aUb⟩
   ·cases hd;exact .inr ⟨_,_,rfl,aUa⟩
   ·cases hd;exact .inr ⟨_,_,rfl,aTZ⟩
   ·cases hd;exact .inr ⟨_,_,rfl,aTY⟩
   ·cases hd;exact .inr ⟨_,_,rfl,aTX⟩
   ·cases hd;exact .inr ⟨_,_,rfl,aTW⟩
   ·cases hd;exact .inr ⟨_,_,rfl,aTU⟩
   ·cases hd;exact .inr ⟨_,_,rfl,aOX⟩
   ·cases hd;exact .inr ⟨_,_,rfl,aOW⟩
   ·cases hd;exact .inr ⟨_,_,rfl,aTT⟩
   ·exact .inl ⟨hd,aVK hd⟩
noncomputable abbrev gK(s:dU):Option XB:=some (.gh s (IsClk s))
theorem g21(s:dU)(line:ByteArray):runW progG 6 [.pt 0 0,.str line] [gK s]=some (.str (sayA s line).1,[gK (sayA s line).2]):=by
 rw[eJ (d:=oF (pmSay aEu rd)) rfl rfl];exact if_pos rfl
theorem g23(s:dU):runW progG 10 [.pt 0 0] [gK s]=some (.str (dY s.book),[gK s]):=by
 rw[eJ (d:=oF pmSave) rfl rfl];exact if_pos rfl
theorem g19:runW progG 5 [] []=some (.pt 0 0,[gK gL]):=by
 rw[eJ (d:=oF aKI) rfl rfl];rfl
theorem g16{s:ByteArray}{row:Int}(hs:s.size≤1000000):runW progG 74 [.str s,I row] []=some (mnV s row,[]):=by
 rw[eJ (d:=oF aGr) rfl rfl];exact if_pos hs
end
section
open Go Go.DL
theorem bCI{vs:List AV}{h:XH}(hl:vs.length≤x7.N):runW progG 7 vs h=eX none x7.res x7.ownR h.length (execW progG 7 h.length none x7.body (aV (if x7.ownA then vs else lT vs)) h):=dO rfl hl h rfl
def uZ:Nat→Nat→List UInt8
 | 0,_=>[]
 | f+1,n=>if n<10 then [UInt8.ofNat (48+n)] else uZ f (n/10)++uZ f (n%10)
theorem aXk{c:Nat}(h:c<256):Option.map (fun l=>AV.str { data:={ toList:=l } }) (jQ [.int .u8 (c:Int)])=some (.str ⟨⟨[UInt8.ofNat c]⟩⟩):=by
 rfl
theorem aRf{c:Nat}(h:c<256):IntKind.u8.wrap (c:Int)=(c:Int):=by
 simp[IntKind.wrap,IntKind.bits,IntKind.signed];omega
theorem bId{n:Nat}(h:n<10):runW progG 7 [I (n:Nat)] []=some (.str ⟨⟨[UInt8.ofNat (48+n)]⟩⟩,[]):=by
 rw[bCI (by simp[x7])];unfold x7;dsimp only;have t1:((n:Int)<10)=True:=AAa;have a1:IntKind.i64.wrap (48+(n:Int))=((48+n:Nat):Int):=by grind [aE]
 have a2:=aRf (c:=48+n) AM;have a3:=aXk (c:=48+n) AM;(exact RT4 t1 a1 a2 a3)
theorem aKq(a b:List UInt8):(⟨⟨a⟩⟩:ByteArray)++⟨⟨b⟩⟩=⟨⟨a++b⟩⟩:=by
 rfl
theorem g33:∀(f n:Nat),0<f→f≤10→n<10^f→(uZ f n).length≤f∧runW progG 7 [I (n:Nat)] []=some (.str ⟨⟨uZ f n⟩⟩,[])
 | 0,_,h,_,_=>by omega
 | f+1,n,_,hf,hn=>by
   by_cases h10:n<10
   ·unfold uZ
    rw[if_pos h10]
    grind [bId]
   ·have f0:0<f:=by
     grind
    have hd:n/10<10^f:=by
     omega
    obtain⟨l1,c1⟩:=g33 f (n/10) f0 AM hd;have hm:n%10<10^f:=by
     grind
    obtain⟨_,c2⟩:=g33 f (n%10) f0 AM hm;have hdl:uZ f (n%10)=[UInt8.ofNat (48+n%10)]:=by
     cases f with
     | zero=>omega
     | succ f=>unfold uZ;grind
    have e:uZ (f+1) n=uZ f (n/10)++uZ f (n%10):=by rw[uZ,if_neg h10]
    rw[e];have l2:(uZ f (n%10)).length=1:=by grind
    refine⟨by grind,?_⟩;have t1:((n:Int)<10)=False:=AAb;have q1:oV (n:Int) 10=((n/10:Nat):Int):=aNJ n 10;have q2:wP (n:Int) 10=((n%10:Nat):Int):=gY n 10;have big:(10:Nat)^(f+1)≤10^10:=J4 AM hf;have q3:IntKind.i64.wrap ((n/10:Nat):Int)=((n/10:Nat):Int):=aE AM AM;have sa:=tF (a:=⟨⟨uZ f (n/10)⟩⟩) (b:=⟨⟨uZ f (n%10)⟩⟩) (by grind [yV]);rw[aKq]at sa;rw[bCI (by simp[x7])];unfold x7;dsimp only;(exact RT7 t1 q1 q2 q3 c1 c2 sa)
theorem aFb:∀(l:List UInt8)(acc a:Nat)(c:UInt8),Lib.parseUint10 acc l = .ok a→48≤c.toNat→c.toNat≤57→a<100000000→Lib.parseUint10 acc (l++[c]) = .ok (a*10+(c.toNat-48))
 | [],acc,a,c,h,h1,h2,h3=>by
   simp only[Lib.parseUint10,Lib.NumEnd.ok.injEq]at h;subst h;simp only[G6,Lib.parseUint10]
   grind
 | d::r,acc,a,c,h,h1,h2,h3=>by
   simp only[Lib.parseUint10]at h;simp only[H9,Lib.parseUint10];split at h
   ·rename_i hd
    rw[if_pos hd];split at h;·cases h
    ·rename_i hr
     rw[if_neg hr];split at h;·cases h
     ·rename_i hr2
      rw[if_neg hr2];exact aFb r _ a c h h1 h2 h3
   ·cases h
theorem wC{u:Nat}(h:u<10):(UInt8.ofNat (48+u)).toNat=48+u:=by
 grind [UInt8.toNat_ofNat']
theorem aFa:∀(f u:Nat),u<10^f→u<100000000→Lib.parseUint10 0 (Lib.decDigits u) = .ok u
 | 0,u,h,_=>by
   obtain rfl:u=0:=AM
   rw[Lib.decDigits,dif_pos AM];rfl
 | f+1,u,h,hb=>by
   rw[Lib.decDigits];by_cases h10:u<10
   ·rw[dif_pos h10]
    have e:=wC h10;simp only[Lib.parseUint10]
    grind
   ·rw[dif_neg h10]
    have ih:=aFa f (u/10) AM AM;have e:=wC (u:=u%10) AM;rw[aFb _ _ _ _ ih AM AM AM,e]
    grind
theorem aBU:∀(f u:Nat),u<10^f→∀ c∈Lib.decDigits u,48≤c.toNat∧c.toNat≤57
 | 0,u,h,c,hc=>by
   obtain rfl:u=0:=AM
   rw[Lib.decDigits,dif_pos AM]at hc
   simp_all
 | f+1,u,h,c,hc=>by
   rw[Lib.decDigits]at hc;by_cases h10:u<10
   ·rw[dif_pos h10]at hc
    grind [wC]
   ·rw[dif_neg h10,B7]at hc
    rcases hc with hc|hc;·exact aBU f (u/10) AM c hc
    grind [wC]
theorem aQj(u:Nat):∃ c r,Lib.decDigits u=c::r:=by
 rw[Lib.decDigits];by_cases h:u<10;·simp_all
 ·rw[dif_neg h]
  cases Lib.decDigits (u/10)with
  | nil=>simp_all
  | cons c r=>simp_all
def dg(n:Nat):ByteArray:=⟨⟨Lib.decDigits n⟩⟩
theorem aPA(n:Nat):Lib.itoa (n:Int)=Lib.decDigits n:=by
 rfl
theorem aSl(n:Nat):aEv (n:Int)=dg n:=by rfl
theorem aSk{n:Nat}(h:n≤99999):cX (dg n)=some (n:Int):=by
 have hp:=aFa 5 n AM AM;have ha:=aBU 5 n AM;obtain⟨c,r,e⟩:=aQj n;have hc:=ha c (by rw[e];simp);have hat:Lib.atoiAll (Lib.decDigits n) = .ok (n:Int):=by
  rw[e]at hp ⊢;rw[Lib.atoiAll_plain c r AM AM];unfold Lib.parseMag;rw[if_neg (by simp),hp];unfold Lib.signless
  grind
 unfold cX dg;dsimp only;rw[hat];dsimp only;rw[if_pos ⟨by omega,by omega,aPA n⟩]
theorem qH:∀(f n:Nat),0<f→n<10^f→uZ f n=Lib.decDigits n
 | 0,_,h,_=>by omega
 | f+1,n,_,hn=>by
   rw[uZ,Lib.decDigits];by_cases h10:n<10;·grind
   ·rw[if_neg h10,dif_neg h10]
    have f0:0<f:=by
     grind
    rw[qH f (n/10) f0 AM,qH f (n%10) f0 (by grind)];congr 1;rw[Lib.decDigits,dif_pos AM]
theorem aCh:∀{a:List UInt8},32∉a→fB 32 a=[a]
 | [],_=>rfl
 | b::r,h=>by
   have hb:b≠32:=fun e=>h (by simp[e]);have ih:=aCh (a:=r) fun e=>h (E7 _ e)
   grind [fB]
theorem xL:∀{a b:List UInt8},32∉a→fB 32 (a++32::b)=a::fB 32 b
 | [],b,_=>by
   rfl
 | c::r,b,h=>by
   have hc:c≠32:=fun e=>h (by simp[e]);have ih:=xL (a:=r) (b:=b) fun e=>h (E7 _ e)
   grind [fB]
theorem bDc{n:Nat}(h:n≤99999):(32:UInt8)∉Lib.decDigits n:=fun hm=>by
 have:=aBU 5 n AM 32 hm
 grind
abbrev D10(n:Nat):List UInt8:=uZ 6 n
theorem bIB{a b:List UInt8}(h:a.length+b.length≤1000000):aY .add ⟨⟨a⟩⟩ ⟨⟨b⟩⟩=some (.str ⟨⟨a++b⟩⟩):=by
 grind [tF,yV,aKq]
theorem aGT{n:Nat}(h:n≤99999):(D10 n).length≤6:=(g33 6 n AM AM AM).1
theorem bIb{n:Nat}(h:n≤99999):runW progG 7 [I (n:Nat)] []=some (.str ⟨⟨D10 n⟩⟩,[]):=(g33 6 n AM AM AM).2
section
variable{a b c d:Nat}
end
abbrev Nt:=Nat×Nat×Nat×Nat
section
variable{l:List Nt}{i:Nat}
end
noncomputable def runL(s:dU):List ByteArray→dU
 | []=>s
 | x::r=>runL (sayA s x).2 r
section
variable{L:List ByteArray}{s:dU}{i:Nat}
end
theorem aLF{α:Type}{k x:ByteArray}{y:α}{r:List (ByteArray×α)}:gS ((k,y)::r) x=if k=x then some y else gS r x:=by
 unfold gS;show (if k=x then some 0 else (dV (r.map (·.1)) x).map (· + 1)).bind _=_;by_cases hk:k=x;·rw[if_pos hk,if_pos hk];rfl
 ·rw[if_neg hk,if_neg hk]
  cases dV (r.map (·.1)) x<;>rfl
theorem aHs{P:dU→ByteArray→Int}{s:dU}{line:ByteArray}{w:Wd}(ha:w.asks=false)(hc:dZ s w=none)(hb:s.book.length≠300):qQ P s line (.inr w)=(⟨⟨[111,107]⟩⟩,{ sS s w with book:=s.book++[line] }):=by
 unfold qQ;dsimp only;rw[ha,hc];simp[hb]
theorem aOj{P:dU→ByteArray→Int}{s:dU}{line a:ByteArray}{w:Wd}(ha:w.asks=true)(hc:aII P s w = .inr a):qQ P s line (.inr w)=(a,s):=by
 unfold qQ;dsimp only;rw[ha,hc];simp
theorem bHZ{vs:List AV}{h:XH}(hl:vs.length≤x31.N):runW progG 31 vs h=eX none x31.res x31.ownR h.length (execW progG 31 h.length none x31.body (aV (if x31.ownA then vs else lT vs)) h):=dO rfl hl h rfl
structure Fil(R P:Nat→ByteArray)(Ls:Nat→List ByteArray)(M:Nat→Nat)(n:Nat):Prop where
 emp:R n=⟨⟨[]⟩⟩
 stp:∀ i,i<n→R i=P i++R (i+1)
 full:∀ i,i+1<n→(P i).size=270
 pos:∀ i,i<n→0<(P i).size∧(P i).size≤270
 men:∀ i,i<n→mnV (P i) (6*i:Nat) = .tup [.fs (rS (Ls i)),I (M i:Nat),I 0]
 ls:∀ i,i<n→0<(Ls i).length∧(Ls i).length≤5
 md:∀ i,i<n→M i≤1
 sz:(R 0).size≤100000
 np:n≤100
def Lu(Ls:Nat→List ByteArray):Nat→List ByteArray
 | 0=>[]
 | i+1=>Lu Ls i++Ls i
def Mu(M:Nat→Nat):Nat→Nat
 | 0=>0
 | i+1=>Mu M i+M i
section
variable{R P:Nat→ByteArray}{Ls:Nat→List ByteArray}{M:Nat→Nat}{n:Nat}
theorem bCY(a b:ByteArray):nV (a++b) 0 a.size=a:=by
 simp[nV]
theorem bCX(a b:ByteArray):nV (a++b) a.size (a++b).size=b:=by
 unfold nV;rw[ByteArray.data_append,Array.toList_append,I1,List.drop_left' (by rfl),C8 (by simp_all)]
theorem Fil.szs(f:Fil R P Ls M n):∀ i,i≤n→(R i).size≤100000
 | 0,_=>f.sz
 | i+1,h=>by
   have:=f.szs i AM;rw[f.stp i AM,I1]at this;omega
theorem Fil.lu(f:Fil R P Ls M n):∀ i,i≤n→(Lu Ls i).length≤5*i∧i≤(Lu Ls i).length
 | 0,_=>by simp[Lu]
 | i+1,h=>by
   have:=f.lu i AM;have:=f.ls i AM
   grind [Lu]
theorem Fil.mu(f:Fil R P Ls M n):∀ i,i≤n→Mu M i≤i
 | 0,_=>A6 _
 | i+1,h=>by
   have:=f.mu i AM;have:=f.md i AM;rw[Mu];omega
def aKd(Ls:Nat→List ByteArray)(i:Nat):AV:=if i=0 then .nilsl else .sl 0 0 1 (Lu Ls i).length
def aKe(Ls:Nat→List ByteArray)(i:Nat):XH:=if i=0 then [] else [some (.blk true (.cells true (oE (Lu Ls i))))]
theorem aZV(l:List ByteArray):(rS l).flatten=oE l:=by
 unfold rS oE;induction l with
 | nil=>rfl
 | cons a l ih=>grind
theorem aZW(l:List ByteArray):(rS l).all (fun r=>r.length==1)=true:=by
 simp[rS]
theorem aRr(a b:List ByteArray):oE a++oE b=oE (a++b):=by simp[oE]
theorem aRR(f:Fil R P Ls M n){i:Nat}(hi:i<n):bP 0 [3,5,8,9] (execW progG 31 0 none (match aHj with | .loop _ a=>a|c=>c) (aZ [3,5,8,9] [I (Mu M i:Nat),.str (R i),aKd Ls i,I (6*i:Nat)]) (aKe Ls i)) =
 some ([I (Mu M (i+1):Nat),.str (R (i+1)),aKd Ls (i+1),I (6*(i+1):Nat)],aKe Ls (i+1)):=by
 obtain⟨p1,p2⟩:=f.pos i hi;have st:=f.stp i hi;have z0:=f.szs i AM;obtain⟨l1,l2⟩:=f.ls i hi;obtain⟨u1,u2⟩:=f.lu i AM;have m1:=f.mu i AM;have m2:=f.md i hi;have hnp:=f.np;have rz:(R i).size=(P i).size+(R (i+1)).size:=by grind
 have ne:aY .neq (R i) ⟨#[]⟩=some (.bool true):=by
  rw[yW,AAj];·rfl
  intro e;have:=AAn ByteArray.size e;rw[rz]at this;have h0:(⟨#[]⟩:ByteArray).size=0:=rfl;omega
 have e1:nV (R i) 0 (P i).size=P i:=by grind [bCY]
 have e2:nV (R i) (P i).size (R i).size=R (i+1):=by grind [bCX]
 have c16:=g16 (s:=P i) (row:=((6*i:Nat):Int)) AM;rw[f.men i hi]at c16;have k1:IntKind.i64.wrap ((Mu M i:Int)+(M i:Int))=((Mu M (i+1):Nat):Int):=by rw[aE AM AM,Mu];omega
 have k2:IntKind.i64.wrap (((6*i:Nat):Int)+6)=((6*(i+1):Nat):Int):=by grind [aE]
 have q1:=aZW (Ls i);have q2:=aZV (Ls i);have q3:=aVF (Ls i);have q4:=aRr (Lu Ls i) (Ls i);have q5:=mL (Lu Ls i);have q6:=mL (Lu Ls (i+1));have q8:=aFQ (Lu Ls i);have q9:(Lu Ls (i+1)).length=(Lu Ls i).length+(Ls i).length:=by rw[Lu,C9]
 have s1:aKd Ls (i+1) = .sl 0 0 1 (Lu Ls (i+1)).length:=if_neg AM;have g1:aKe Ls (i+1)=[some (.blk true (.cells true (oE (Lu Ls (i+1)))))]:=if_neg AM;have q4:oE (Lu Ls i)++oE (Ls i)=oE (Lu Ls (i+1)):=q4;have b1:(((P i).size:Int)≤((R i).size:Int))=True:=AAa;have b2:(((Lu Ls i).length+(Ls i).length)*16≤1099511627776)=True:=AAa;have b3:((Lu Ls i).length+(Ls i).length≤1099511627776)=True:=AAa;have b4:((Ls i).length*16≤1099511627776)=True:=AAa;have b5:((Ls i).length≤1099511627776)=True:=AAa;have b6:((Ls i).length=0)=False:=AAb;have hb:((270:Int)<((R i).size:Int))=True∧(P i).size=270∨((270:Int)<((R i).size:Int))=False∧(P i).size=(R i).size:=by
  by_cases hl:i+1<n
  ·have h1:=f.full i hl
   grind
  ·have h1:i+1=n:=AM
   have h2:(R (i+1)).size=0:=by rw[h1,f.emp];rfl
   grind
 rw[s1,g1,q9];unfold aHj;dsimp only;by_cases h0:i=0
 ·subst h0
  have s0:aKd Ls 0 = .nilsl:=rfl;have g0:aKe Ls 0=[]:=rfl;have w0:Lu Ls 0=[]:=rfl;have w1:Mu M 0=0:=rfl;have w2:oE []=[]:=rfl;rw[w0,w2,G6]at q4;rw[s0,g0,w1,w0];rw[w1]at k1;have k1:IntKind.i64.wrap (0+(M 0:Int))=((Mu M (0+1):Nat):Int):=k1;have c16:runW progG 74 [.str (P 0),I 0] []=some (.tup [.fs (rS (Ls 0)),I (M 0:Nat),I 0],[]):=c16;have z9:(([]:List ByteArray).length+(Ls 0).length)=(Ls 0).length:=by simp
  rw[z9];generalize Lu Ls (0+1)=L1 at *;generalize Mu M (0+1)=M1 at *;generalize R (0+1)=R1 at *;rcases hb with ⟨b7,b8⟩|⟨b7,b8⟩
  ·rw[b8]at e1 e2 b1
   have b1:((270:Int)≤((R 0).size:Int))=True:=b1;have e1:nV (R 0) 0 (Int.toNat 270)=P 0:=e1;have e2:nV (R 0) (Int.toNat 270) (R 0).size=R1:=e2;(exact lR ne b7 b1 e1 e2 c16 k1 k2 q1 q2 q3 q4 q6 b4 b5 b6 eS eQ eR aG)
  ·rw[b8]at e1 e2 b1
   (exact lR ne b7 b1 e1 e2 c16 k1 k2 q1 q2 q3 q4 q6 b4 b5 b6 eS eQ eR aG)
 ·have s0:aKd Ls i = .sl 0 0 1 (Lu Ls i).length:=if_neg h0
  have g0:aKe Ls i=[some (.blk true (.cells true (oE (Lu Ls i))))]:=if_neg h0;rw[s0,g0];generalize Lu Ls (i+1)=L1 at *;generalize Lu Ls i=L0 at *;generalize Mu M (i+1)=M1 at *;generalize R (i+1)=R1 at *;rcases hb with ⟨b7,b8⟩|⟨b7,b8⟩
  ·rw[b8]at e1 e2 b1
   have b1:((270:Int)≤((R i).size:Int))=True:=b1;have e1:nV (R i) 0 (Int.toNat 270)=P i:=e1;have e2:nV (R i) (Int.toNat 270) (R i).size=R1:=e2;(exact lR ne b7 b1 e1 e2 c16 k1 k2 q1 q2 q3 q4 q5 q6 q8 b2 b3 eS eQ eR)
  ·rw[b8]at e1 e2 b1
   (exact lR ne b7 b1 e1 e2 c16 k1 k2 q1 q2 q3 q4 q5 q6 q8 b2 b3 eS eQ eR)
end
abbrev wK:ByteArray:=⟨⟨[111,107]⟩⟩
theorem aKM:aY .neq wK ⟨#[111,107]⟩=some (.bool false):=by kernel_rfl
section
variable{R P:Nat→ByteArray}{Ls:Nat→List ByteArray}{M:Nat→Nat}{n:Nat}{st:Nat→dU}{A:List ByteArray}
theorem g72(r:ByteArray):runW progG 72 [.str (hdB++r),.str ⟨#[122,97,102,114,97,32,49,52,10]⟩] []=some (.tup [.str r,.bool true],[]):=by
 rw[eJ (d:=oF zT) rfl rfl];rfl
theorem aOu{N:Nat}{md:Nat}(hA:A.length=N)(hN:N≤1000)(hs:∀ j line,A[j]?=some line→sayA (st j) line=(wK,st (j+1))){j:Nat}(hj:j<N):bP 0 [2,3,58,59,60] (execW progG 31 0 none (match aKk with | .loop _ a=>a|c=>c) (aZ [2,3,58,59,60] [.pt 0 0,I (md:Nat),.sl 1 0 1 N,I (N:Nat),I (j:Nat)]) [gK (st j),some (.blk true (.cells true (oE A)))]) =
 some ([.pt 0 0,I (md:Nat),.sl 1 0 1 N,I (N:Nat),I (j+1:Nat)],[gK (st (j+1)),some (.blk true (.cells true (oE A)))]):=by
 obtain⟨line,hl⟩:=oP (l:=A) (i:=j) AM;have h2:=hs j line hl;have c21:=g21 (st j) line;rw[h2]at c21;dsimp only at c21;have hx:(oE A)[j]?=some (.str line):=by unfold oE;grind
 have t1:((j:Int)<(N:Int))=True:=AAa;have a1:=pL hj AM;have gr:=mL A;have o1:=aKM;unfold gK at *;generalize IsClk (st (j+1))=K2 at *;generalize IsClk (st j)=K1 at *;unfold aKk;dsimp only;(exact RS9 t1 a1 hx c21 o1 gr eS eQ eR)
theorem w25(f:Fil R P Ls M n)(hn:0<n)(h0:st 0=gL)(hs:∀ j line,(Lu Ls n)[j]?=some line→sayA (st j) line=(wK,st (j+1)))(hsh:runW progG 73 [I ((R 0).size:Nat)] []=some (I 0,[])) :
 runW progG 31 [.str (hdB++R 0)] []=some (.tup [.pt 0 0,I (Mu M n:Nat),I 0],[gK (st (Lu Ls n).length)]):=by
 have c72:=g72 (R 0);have c19:=g19;obtain⟨u1,u2⟩:=f.lu n (A6 _);have hnp:=f.np;have s1:aKd Ls n = .sl 0 0 1 (Lu Ls n).length:=if_neg AM;have g1:aKe Ls n=[some (.blk true (.cells true (oE (Lu Ls n))))]:=if_neg AM;have gr:=mL (Lu Ls n);obtain⟨N,hN⟩:∃ N,(Lu Ls n).length=N:=⟨_,rfl⟩;rw[hN]at s1 u1 u2 ⊢;have rb:=fun j (hj:j<N)=>aOu (md:=Mu M n) hN AM hs hj;have em:=f.emp;have ne:aY .neq (⟨⟨[]⟩⟩:ByteArray) ⟨#[]⟩=some (.bool false):=by kernel_rfl
 rw[bHZ (by simp[x31])];unfold x31;dsimp only;sym =>
  simp[Za,Zb,Zf,Zg,Zh,Zj,Zl,Zm,Zv,ZA,ZD,ZP,ZQ,Yc,Yg,Yl,Ym,Yp,Yu,Yw,Y4,YD,YE,Xy,XI,XL,XO,Wu,Wv,Ww,Wz,W5,WF,WH,WJ,WM,Vb,Vd,Vf,Vi,V3,V9,VA,VB,VC,VD,VH,VI,VJ,VK,VM,VN,VO,VP,VQ,VR,VS,VT,VU,VV,VW,VZ,Ui,Uj,Uk,Uw,Uy,Uz,U0,UG,UH,UJ,UK,UL,UM,UP,UQ,UR,US,UT,UV,UW,UZ,Tb,Tc,Te,Tf,Tg,Th,Ti,Tj,Tm,Tn,Tp,Ts,Ty,T6,T7,T8,TS,TT,TU,TV,TW,TZ,Sa,Se,Sf,SE,SY,SZ,Ra,Rb,Rc,Re,Rf,Rg,Rh,Rl,Ro,Rp,Qa,QM,Pe,Pf,Ph,Pj,Pk,Pl,PC,PD,PE,PG,PI,PJ,c72,hsh]
  tactic =>
   unfold aHj;rw[aQ n (fun i=>[I (Mu M i:Nat),.str (R i),aKd Ls i,I (6*i:Nat)]) (fun i=>aKe Ls i)]
   ·rw[s1,g1,em]
    sym =>
     simp[Za,Zb,Zf,Zg,Zh,Zj,Zl,Zm,Zv,ZA,ZD,ZP,ZQ,Yc,Yg,Yl,Ym,Yp,Yu,Yw,Y4,YD,YE,Xy,XI,XL,XO,Wu,Wv,Ww,Wz,W5,WF,WH,WJ,WM,Vb,Vd,Vf,Vi,V3,V9,VA,VB,VC,VD,VH,VI,VJ,VK,VM,VN,VO,VP,VQ,VR,VS,VT,VU,VV,VW,VZ,Ui,Uj,Uk,Uw,Uy,Uz,U0,UG,UH,UJ,UK,UL,UM,UP,UQ,UR,US,UT,UV,UW,UZ,Tb,Tc,Te,Tf,Tg,Th,Ti,Tj,Tm,Tn,Tp,Ts,Ty,T6,T7,T8,TS,TT,TU,TV,TW,TZ,Sa,Se,Sf,SE,SY,SZ,Ra,Rb,Rc,Re,Rf,Rg,Rh,Rl,Ro,Rp,Qa,QM,Pe,Pf,Ph,Pj,Pk,Pl,PC,PD,PE,PG,PI,PJ,ne,c19,gr,eS,eQ,eR]
     tactic =>
      unfold aKk;rw[aQ N (fun j=>[.pt 0 0,I (Mu M n:Nat),.sl 1 0 1 N,I (N:Nat),I (j:Nat)]) (fun j=>[gK (st j),some (.blk true (.cells true (oE (Lu Ls n))))])]
      ·have t1:((N:Int)<(N:Int))=False:=AAb
       unfold gK;generalize IsClk (st N)=K1 at *;(exact RS5 t1 gr eS eQ eR)
      ·rw[h0]
       rfl
      ·intro j hj
       exact rb j hj
      ·have t1:((N:Int)<(N:Int))=False:=AAb
       (exact dG t1)
   ·rfl
   ·intro i hi
    exact aRR f hi
   ·rw[em]
    (exact dG ne)
end
section
variable{B:List ByteArray}{st:Nat→dU}
def aOs(B:List ByteArray):Nat→ByteArray
 | 0=>⟨⟨[]⟩⟩
 | k+1=>pgB (xA B (dS B-(k+1))) (6*(dS B-(k+1)))++aOs B k
def rB(B:List ByteArray)(i:Nat):ByteArray:=aOs B (dS B-i)
theorem aOK{i:Nat}(hi:i<dS B):rB B i=pgB (xA B i) (6*i)++rB B (i+1):=by
 unfold rB;rw[show dS B-i=(dS B-(i+1))+1 by omega,aOs,show dS B-(dS B-(i+1)+1)=i by omega]
theorem aOL:rB B (dS B)=⟨⟨[]⟩⟩:=by unfold rB;rw[J5];rfl
theorem aTj(a:ByteArray):a++(⟨⟨[]⟩⟩:ByteArray)=a:=by
 grind [ByteArray.ext,ByteArray.data_append]
theorem aZD:∀ i,i≤dS B→mX B i++rB B i=hdB++rB B 0
 | 0,_=>rfl
 | i+1,h=>by
   rw[←aZD i AM,aOK (i:=i) AM,mX,ByteArray.append_assoc]
theorem aOk:dY B=hdB++rB B 0:=by
 rw[←aZD (dS B) (A6 _),aOL,aTj];rfl
theorem bAP:∀ i,Lu (xA B) i=B.take (5*i)
 | 0=>rfl
 | i+1=>by
   rw[Lu,bAP i,xA,show 5*(i+1)=5*i+5 by omega,aH7]
theorem aPq:Lu (xA B) (dS B)=B:=by
 grind [bAP,List.take_of_length_le,dS]
theorem aHB:∀ k,k≤dS B→(aOs B k).size=45*((B.length-5*(dS B-k))+k)
 | 0,_=>by
   show 0=_;unfold dS;omega
 | k+1,h=>by
   rw[aOs,I1,zU,aBN,aHB k AM];unfold dS at *;omega
theorem aVS{i:Nat}{l:ByteArray}(h:l∈xA B i):l∈B:=aA5 (O1 h)
end
theorem uJ(a:List Nat):(xC a).size=a.length:=by
 grind [yV,xC]
section
variable(B:List ByteArray)(av:List Nat)(q:Nat)
def pgN(i:Nat):ByteArray:=pgB (xA B i) (6*i)
def kp(i:Nat):Nat:=if i<av.length then av.getD i 0%(pgN B i).size else 0
def vp(i:Nat):Nat:=((bN (pgN B i)).getD (kp B av i) 0+(1+q%255))%256
def dP(i:Nat):List Nat:=(bN (pgN B i)).set (kp B av i) (vp B av q i)
def aBE:Nat→List Nat
 | 0=>bN hdB
 | i+1=>aBE i++dP B av q i
def dD(i:Nat):List Nat:=aBE B av q i++bN (rB B i)
def aGf:Nat→List Nat
 | 0=>[]
 | k+1=>dP B av q (dS B-(k+1))++aGf k
def rD(i:Nat):ByteArray:=xC (aGf B av q (dS B-i))
variable{B av q}{i:Nat}
theorem bAi(hi:i<dS B):1≤(xA B i).length∧(xA B i).length≤5∧(i+1<dS B→(xA B i).length=5):=by
 grind [xA,dS]
theorem lZ(hi:i<dS B):(pgN B i).size=((xA B i).length+1)*45∧90≤(pgN B i).size∧(pgN B i).size≤270∧(i+1<dS B→(pgN B i).size=270):=by
 grind [aSf,pgN,xA,dS]
theorem aPx(hi:i<dS B):kp B av i<(pgN B i).size:=by
 obtain⟨_,h,_⟩:=lZ hi;unfold kp;split;·exact I3 _ AM
 ·omega
theorem aDO:(dP B av q i).length=(pgN B i).size:=by grind [rT,dP]
theorem aXa:sR (dP B av q i):=aRF (aAZ _) (I3 _ (by decide))
theorem aKG:∀{i},i<dS B→(aBE B av q i).length=9+270*i
 | 0,_=>by rfl
 | i+1,hi=>by
   have h1:=(lZ (B:=B) (i:=i) AM).2.2.2 hi;unfold aBE;rw[C9,aKG AM,aDO,h1];omega
theorem bDj(hi:i<dS B):bN (rB B i)=bN (pgN B i)++bN (rB B (i+1)):=by
 rw[aOK hi,aHd];rfl
theorem bDd:dD B av q 0=bN (dY B):=by
 unfold dD aBE;rw[aOk,aHd]
theorem aXb:dD B av q (dS B)=aBE B av q (dS B):=by
 unfold dD;rw[aOL];exact I2 _
theorem aUm(hi:i<dS B):(dD B av q i)[9+270*i+kp B av i]?=some ((bN (pgN B i)).getD (kp B av i) 0)∧(dD B av q i).set (9+270*i+kp B av i) (vp B av q i)=dD B av q (i+1):=by
 have h1:=aPx (av:=av) hi;have h2:=aKG (B:=B) (av:=av) (q:=q) hi;have h3:(bN (pgN B i)).length=(pgN B i).size:=rT _;unfold dD;rw[bDj hi];constructor;·grind
 ·rw[aA2 _ _ AM,List.set_append_left _ _ AM,show 9+270*i+kp B av i-(aBE B av q i).length=kp B av i by omega]
  show _=(aBE B av q i++dP B av q i)++_;unfold dP
  grind
theorem aGS:∀{i},i≤dS B→(dD B av q i).length=(dY B).size
 | 0,_=>by rw[bDd,rT]
 | i+1,hi=>by rw[←(aUm (B:=B) (av:=av) (q:=q) (i:=i) AM).2,D6,aGS AM]
theorem aVx(k:Nat):aGf B av q (k+1)=dP B av q (dS B-(k+1))++aGf B av q k:=rfl
theorem aVM(i:Nat):aBE B av q (i+1)=aBE B av q i++dP B av q i:=rfl
theorem aKF:∀ i,i≤dS B→aBE B av q (dS B)=aBE B av q (dS B-i)++aGf B av q i
 | 0,_=>by unfold aGf;simp
 | k+1,hi=>by
   rw[aKF k AM,aVx,←I8,←aVM,show dS B-(k+1)+1=dS B-k by omega]
theorem aQb:xC (dD B av q (dS B))=hdB++rD B av q 0:=by
 rw[aXb,aKF (dS B) (A6 _),J5,←aKO];rfl
theorem aAC:(dY B).size=9+45*(B.length+dS B)∧(∀ i,i<dS B→9+270*i+(pgN B i).size≤(dY B).size∧min ((dY B).size-(9+270*i)) 270=(pgN B i).size)∧(dY B).size≤9+270*dS B:=by
 have h:=aHB (B:=B) (dS B) (A6 _);have e:(dY B).size=9+45*(B.length+dS B):=by
  rw[aOk,I1];unfold rB;rw[O7,h];have:hdB.size=9:=rfl;omega
 grind [lZ,aBN,dS]
theorem bFl(hB:∀ l∈B,lnE l=0)(h5:B.length≤300)(hi:i<dS B):mnV (xC (dP B av q i)) (6*i:Nat) = .tup [.fs (rS (xA B i)),I 1,I 0]:=by
 obtain⟨p1,p2,_⟩:=bAi hi;obtain⟨z1,_⟩:=lZ hi;have hk:=aPx (av:=av) hi;have hn:6*i≤1000:=by unfold dS at hi;omega
 have gl:∀ l∈xA B i,lnE l=0:=fun l hl=>hB l (aVS hl);have hr:kp B av i/45≤(xA B i).length:=by
  omega
 have hkj:kp B av i=kp B av i/45*45+kp B av i%45:=AM
 have hj:=I3 (kp B av i) (show 0<45 by decide);have bn:bN (xC (dP B av q i))=(bN (pgB (xA B i) (6*i))).set (kp B av i/45*45+kp B av i%45) (vp B av q i):=by
  rw[aHc aXa,←hkj];rfl
 refine aWc gl p1 p2 hn (by grind [uJ,aDO]) (r:=kp B av i/45) hr (fun j hj2 hne=>?_) ?_;·rw[bn,aKy hj,if_neg hne,aJc hj2]
 ·rw[bn,aKy hj,if_pos rfl,aJc hr]
  have hx:(bN (pgN B i))[kp B av i]?=(rwO (xA B i) (6*i) (kp B av i/45))[kp B av i%45]?:=by
   rw[←aJc hr,aVw hj,←hkj];rfl
  obtain⟨x,e⟩:=oP (l:=bN (pgN B i)) (i:=kp B av i) (by grind [rT]);refine aRG (x:=x) (uS _ (aAT hr)) (aGP gl _ (aAT hr)) hj (by rw[←e,hx];rfl) ?_;unfold vp
  grind
theorem aVH(hi:i<dS B):rD B av q i=xC (dP B av q i)++rD B av q (i+1):=by
 unfold rD;rw[show dS B-i=(dS B-(i+1))+1 by omega,aGf,←aKO,show dS B-(dS B-(i+1)+1)=i by omega]
theorem aHC:∀{k},k≤dS B→(aGf B av q k).length≤270*k
 | 0,_=>A6 _
 | k+1,hk=>by
   obtain⟨_,_,h,_⟩:=lZ (B:=B) (i:=dS B-(k+1)) AM;unfold aGf;rw[C9,aDO];have:=aHC (k:=k) AM;omega
theorem bCT(hB:∀ l∈B,lnE l=0)(h5:B.length≤300):Fil (rD B av q) (fun i=>xC (dP B av q i)) (xA B) (fun _=>1) (dS B) where
 emp:=by unfold rD;rw[J5];rfl
 stp:=fun i hi=>aVH hi
 full:=fun i hi=>by
  grind [uJ,aDO,lZ]
 pos:=fun i hi=>by
  grind [lZ,uJ,aDO]
 men:=fun i hi=>bFl hB h5 hi
 ls:=fun i hi=>by grind [xA,dS]
 md:=fun i hi=>A6 _
 sz:=by
  have:=aHC (B:=B) (av:=av) (q:=q) (A6 _);unfold rD;rw[uJ,O7]
  grind [dS]
 np:=by unfold dS;omega
theorem bAw:∀ i,Mu (fun _=>1) i=i
 | 0=>rfl
 | i+1=>by rw[Mu,bAw i]
theorem bDN{st:Nat→dU}(hB:∀ l∈B,lnE l=0)(h1:1≤B.length)(h5:B.length≤300)(h0:st 0=gL)(hs:∀ j line,B[j]?=some line→sayA (st j) line=(wK,st (j+1)))(hsh:runW progG 73 [I ((45*(B.length+dS B):Nat):Int)] []=some (I 0,[])) :
 runW progG 31 [.str (xC (dD B av q (dS B)))] []=some (.tup [.pt 0 0,I (dS B:Nat),I 0],[gK (st B.length)]):=by
 have hz:(rD B av q 0).size=45*(B.length+dS B):=by
  have h2:=AAn ByteArray.size (aQb (B:=B) (av:=av) (q:=q));rw[uJ,aGS (A6 _),I1,(aAC (B:=B)).1]at h2;have:hdB.size=9:=rfl;omega
 rw[←hz]at hsh;have h:=w25 (bCT (av:=av) (q:=q) hB h5) (by unfold dS;omega) h0 (fun j line hl=>hs j line (by grind [aPq])) hsh
 grind [bAw,aPq,aQb]
end
def pB8(l:List UInt8):Prop:=∀ b∈l,32≤b.toNat∧b.toNat≤126
theorem aLl{n:Nat}(h:n≤99999):∀ b∈D10 n,48≤b.toNat∧b.toNat≤57:=by
 unfold D10;rw[qH 6 n AM AM];exact aBU 6 n AM
theorem aSV{n:Nat}(h:n≤99999):pB8 (D10 n):=fun b hb=>by
 grind [aLl]
theorem aSE{a b:List UInt8}(ha:pB8 a)(hb:pB8 b)(hl:∀ x∈b,33≤x.toNat)(h0:b≠[])(hn:a.length+b.length≤40):lnE ⟨⟨a++b⟩⟩=0:=by
 have hb2:=List.dropLast_concat_getLast h0;have m:=List.getLast_mem h0;have z:=AAn List.length hb2;rw[C9,List.length_singleton]at z;refine aWv (f:=(a++b.dropLast).map UInt8.toNat) (x:=(b.getLast h0).toNat) ?_ ?_ ?_ ?_;all_goals grind [bN,pB8,prL]
theorem aWZ{n:Nat}(h:n≤99999):pB8 (D10 n)∧(∀ x∈D10 n,33≤x.toNat)∧D10 n≠[]∧(D10 n).length≤6:=by
 refine⟨aSV h,fun x hx=>by grind [aLl],fun e=>?_,aGT h⟩;unfold D10 at e;rw[qH 6 n AM AM]at e;obtain⟨c,r,hc⟩:=aQj n
 grind
theorem aSi{l:List UInt8}(h:(l.all fun b=>decide (32≤b.toNat)&&decide (b.toNat≤126))=true):pB8 l:=fun b hb=>by
 grind
theorem aVp(s:dU)(x:ByteArray):((sayA s x).2=s)∨(sayA s x).1=wK∧(sayA s x).2.book=s.book++[x]:=by
 unfold sayA qQ
 grind
structure Rep(s:dU)(n:Nat):Prop where
 run:runL gL s.book=s
 ok:∀ j x,s.book[j]?=some x→sayA (runL gL (s.book.take j)) x=(wK,runL gL (s.book.take (j+1)))
 good:∀ x∈s.book,lnE x=0
 len:s.book.length≤n
theorem Rep.mono{s:dU}{n m:Nat}(r:Rep s n)(h:n≤m):Rep s m:=⟨r.run,r.ok,r.good,I0 r.len h⟩
theorem aCB:∀{A:List ByteArray}{s:dU}{x:ByteArray},runL s (A++[x])=(sayA (runL s A) x).2
 | [],_,_=>rfl
 | y::r,s,x=>aCB (A:=r)
theorem aRW:Rep gL 0:=⟨rfl,fun j x h=>by simp[gL]at h,fun x h=>by simp[gL]at h,A6 _⟩
theorem Rep.step{s:dU}{n:Nat}(r:Rep s n){x:ByteArray}(hx:lnE x=0):Rep (sayA s x).2 (n+1):=by
 rcases aVp s x with h|⟨h1,h2⟩;·rw[h];exact⟨r.run,r.ok,r.good,Nat.le_succ_of_le r.len⟩
 ·have hl:=r.len
  refine⟨?_,?_,?_,?_⟩;·rw[h2,aCB,r.run]
  ·rw[h2]
   intro j y hy;by_cases hj:j<s.book.length
   ·rw[I5 hj]at hy
    rw[O6 AM,O6 AM];exact r.ok j y hy
   ·by_cases hj2:j=s.book.length
    ·subst hj2
     rw[G5 (A6 _),J5]at hy;obtain rfl:x=y:=by grind
     rw[O6 (A6 _),C8 (A6 _),C8 (by simp),aCB,r.run]
     grind
    grind
  ·rw[h2]
   intro y hy;rcases B7.1 hy with hy|hy;·exact r.good y hy
   grind
  grind
theorem s73:∀ n:Nat,n<27→cF progG 400 73 [I ((45*(n+(n+4)/5):Nat):Int)] []=some (I 0,[])
 | 0,_=>by kernel_rfl
 | 1,_=>by kernel_rfl
 | 2,_=>by kernel_rfl
 | 3,_=>by kernel_rfl
 | 4,_=>by kernel_rfl
 | 5,_=>by kernel_rfl
 | 6,_=>by kernel_rfl
 | 7,_=>by kernel_rfl
 | 8,_=>by kernel_rfl
 | 9,_=>by kernel_rfl
 | 10,_=>by kernel_rfl
 | 11,_=>by kernel_rfl
 | 12,_=>by kernel_rfl
 | 13,_=>by kernel_rfl
 | 14,_=>by kernel_rfl
 | 15,_=>by kernel_rfl
 | 16,_=>by kernel_rfl
 | 17,_=>by kernel_rfl
 | 18,_=>by kernel_rfl
 | 19,_=>by kernel_rfl
 | 20,_=>by kernel_rfl
 | 21,_=>by kernel_rfl
 | 22,_=>by kernel_rfl
 | 23,_=>by kernel_rfl
 | 24,_=>by kernel_rfl
 | 25,_=>by kernel_rfl
 | 26,_=>by kernel_rfl
 | n+27,h=>by omega
theorem bDI{B:List ByteArray}(h:B.length≤26):runW progG 73 [I ((45*(B.length+dS B):Nat):Int)] []=some (I 0,[]):=bJ.2 ⟨400,s73 B.length AM⟩
theorem aZd:runW progG 31 [.str hdB] []=some (.tup [.pt 0 0,I 0,I 0],[gK gL]):=bJ.2 ⟨400,by kernel_rfl⟩
theorem aWs{s:dU}(r:Rep s 26)(av:List Nat)(q:Nat):runW progG 31 [.str (xC (dD s.book av q (dS s.book)))] []=some (.tup [.pt 0 0,I (dS s.book:Nat),I 0],[gK s]):=by
 rcases Nat.eq_zero_or_pos s.book.length with h0|h1
 ·have e:s.book=[]:=D5 h0
  have hr:=r.run;rw[e]at hr ⊢;have:gL=s:=hr;rw[←this];have e2:xC (dD [] av q (dS []))=hdB:=by
   rfl
  rw[e2];exact aZd
 ·have h:=bDN (av:=av) (q:=q) (st:=fun j=>runL gL (s.book.take j)) r.good h1 (by have:=r.len;omega) rfl r.ok (bDI r.len)
  rw[C8 (A6 _),r.run]at h;exact h
def rU8(l:List Nat):List (List AV):=l.map fun(n:Nat)=>[.int .u8 (n:Int)]
theorem aRY(l:List Nat):(rU8 l).length=l.length:=by simp[rU8]
theorem aVE{l:List Nat}{i n:Nat}(h:l[i]?=some n):(rU8 l)[i]?=some [.int .u8 (n:Int)]:=by simp[rU8,h]
section
variable{ws:List (Nat×Nat)}{av:List Nat}{n q i:Nat}
end
end
section
open Go Go.DL Go.ChangeShapes Go.WideShapes Go.ChangeAt Go.RowKit
theorem aCJ{H:Type}{enc:TypeId×Value→H}{a:Assume}{C:Checked}{os:Os}{f:FuncId}{fn:Func}{s:ChangeSpec}{X:World→Array Value→Prop}
 (hX:∀(w w':World)(args:Array Value),w.heap=w'.heap→X w args→X w' args)
 (own:ownKnob C.prog.godebug=none) (started:os.Started) (noInit:C.prog.inits.idxOf? f=none) (hfn:C.prog.funcs[f]?=some fn)
 (witness:∃(w:World)(tape:Tape)(i:Input),w.os=os∧(w.forCall tape i).Shaped C.prog∧i.vars=[]∧Input.okWide C.prog (w.forCall tape i) .any w.heap.size f i ∧
  ((s.pre enc C.prog fn [] false (w.forCall tape i).memory i.args∧X (w.forCall tape i).memory i.args)∧sizedMet enc C.prog fn (OpenSpec.ofChange s) false (w.forCall tape i).memory i.args)∧a.holds C.prog (lone (Frame.enter C.prog f i.args .normal) [] (w.forCall tape i)))
 (contract:∀(W:World)(base:Nat)(args:Array Value)(ds gs:List (DataW H))(before:List MemPlace),
  (∀(j:Nat) t v,fn.params[j]?=some t→args[j]?=some v→Value.okWide C.prog W .any base t v) →
  DataW.Whole enc C.prog fn.params.toList s.vars false W args.toList ds gs before→X W args→W.ShapedOpen C.prog →
  Calls C.prog f args W fun e W'=>∃ v,e = .returned v∧s.post enc C.prog fn false true false false W args v W') :
 ReturnsInHanded a C os f .any (fun w args=>(s.pre enc C.prog fn [] false w args∧X w args)∧sizedMet enc C.prog fn (OpenSpec.ofChange s) false w args) (s.post enc C.prog fn false true false false):=by
 refine returnsInHanded_of_calls own started noInit witness ?_;rintro w tape i _ hsh _ ⟨_,_,_,fn',hfn',_,_,_,_,hval⟩ ⟨⟨⟨ds,gs,before,hw,_⟩,hx⟩,_⟩ _;cases hfn'.symm.trans hfn;exact(contract _ _ _ ds gs before hval (DataW.Whole.of_heap (by rfl) hw) (hX _ _ _ (by rfl) hx) hsh).mono fun e W' ⟨v,he,hp⟩=>by
  grind [ChangeSpec.post_blind]
abbrev a2T:List CT:=[.int .u8,.int .u8]
theorem aPW:Flat Tryz.prog 5 [.int .u8]:=.int Tryz.underlying5
theorem aWO:Flat Tryz.prog 23 [.sl [.int .u8]]:=.sl Tryz.underlying23 aPW (by kernel_rfl) (by decide)
theorem aWN:Flat Tryz.prog 29 a2T:=.array (n:=2) Tryz.underlying29 aPW (by kernel_rfl) (by kernel_rfl)
theorem aGL{k:IntKind}{a:AV}(h:Sh (.int k) a):∃ n,a = .int k n∧(Lit.int k n).wf=true:=by cases h;grind
theorem rY{n:Int}(h:(Lit.int .u8 n).wf=true):∃ m:Nat,n=(m:Int)∧m<256:=by
 simp[Lit.wf,IntKind.bits,IntKind.signed,IntKind.min,IntKind.max]at h;exact⟨n.toNat,by omega,by omega⟩
theorem aUX{n:Int}(h:(Lit.int .u16 n).wf=true):∃ m:Nat,n=(m:Int)∧m<65536:=by
 simp[Lit.wf,IntKind.bits,IntKind.signed,IntKind.min,IntKind.max]at h;exact⟨n.toNat,by omega,by omega⟩
theorem aHD{α:Type}{f:α→List AV}{r:List CT}(key:∀ row:List AV,row.length=r.length→(∀(i:Nat)(c:CT)(a:AV),r[i]?=some c→row[i]?=some a→Sh c a)→∃ x,row=f x):∀{rows:List (List AV)},(∀ row∈rows,row.length=r.length) →
 (∀ row∈rows,∀(i:Nat)(c:CT)(a:AV),r[i]?=some c→row[i]?=some a→Sh c a)→∃ l:List α,rows=l.map f
 | [],_,_=>⟨[],rfl⟩
 | a::rows,h1,h2=>by
   obtain⟨l,rfl⟩:=aHD key (rows:=rows) (fun row hr=>h1 row (by simp[hr])) (fun row hr=>h2 row (by simp[hr]));obtain⟨x,rfl⟩:=key a (h1 a (by simp)) (h2 a (by simp));exact⟨x::l,rfl⟩
theorem aZI{α:Type}{f:α→List AV}{r:List CT}(key:∀ row:List AV,row.length=r.length→(∀(i:Nat)(c:CT)(a:AV),r[i]?=some c→row[i]?=some a→Sh c a)→∃ x,row=f x){a:AV}(h:Sh (.sl r) a):∃ l:List α,a = .fs (l.map f)∧l.length≤maxLen:=by
 cases h with
 | sl _ rows h1 hn h2 =>
   obtain⟨l,rfl⟩:=aHD key h1 h2
   grind
theorem aDb{P:Program}{w:World}{r:Reach}{base:Nat}{t:TypeId}{n:Nat}{e:TypeId}(ht:P.underlying t=some (.array n e)){v:Value}(h:Value.okWide P w r base t v):∃ vs,v = .agg vs:=by
 unfold Value.okWide at h
 grind
theorem bDr{xs:List AV}(hl:xs.length=2)(h:∀(i:Nat)(c:CT)(a:AV),a2T[i]?=some c→xs[i]?=some a→Sh c a):∃ m0 m1:Nat,AV.agg xs = .agg [U m0,U m1]∧Gd (.agg [U m0,U m1])∧m0<256∧m1<256:=by
 match xs,hl with
 | [a0,a1],_ =>
   cases h 0 _ _ rfl rfl with
   | int _ n0 q0 =>
   cases h 1 _ _ rfl rfl with
   | int _ n1 q1 =>
   obtain⟨m0,rfl,b0⟩:=rY q0;obtain⟨m1,rfl,b1⟩:=rY q1;refine⟨m0,m1,rfl,.agg _ fun c hc=>?_,b0,b1⟩;simp only[B5,F9,AAg]at hc;rcases hc with rfl|rfl;·exact .int _ _
   ·exact .int _ _
theorem bIv:∀ row:List AV,row.length=([.int .u8]:List CT).length→(∀(i:Nat)(c:CT)(a:AV),([.int .u8]:List CT)[i]?=some c→row[i]?=some a→Sh c a)→∃ x:{ x:Nat // x<256 },row=[.int .u8 (x.1:Int)]:=by
 intro row hl h;match row,hl with
 | [a0],_ =>
   cases h 0 _ _ rfl rfl with
   | int _ n0 q0 =>
   obtain⟨m0,rfl,b0⟩:=rY q0;exact⟨⟨m0,b0⟩,rfl⟩
theorem aUW{a:AV}(h:Sh (.sl [.int .u8]) a):∃ us:List Nat,(∀ v∈us,v<256)∧a = .fs (rU8 us):=by
 obtain⟨us,h1,_⟩:=aZI bIv h;refine⟨us.map (·.1),fun v hv=>?_,by rw[h1];unfold rU8;rw[aC5];rfl⟩;obtain⟨x,_,rfl⟩:=G1.1 hv;exact x.2
theorem aQH{F:Nat→Prop}{w:World}:Args F w [] #[]:=⟨rfl,fun i a' v' h1 h2=>by simp at h1⟩
theorem lP{F:Nat→Prop}{w:World}{a:AV}{v:Value}{xs:List AV}{vs:List Value}(h:Rv F w a v)(hs:Args F w xs vs.toArray):Args F w (a::xs) (v::vs).toArray:=by
 grind [Args]
abbrev a6T:List CT:=[.int .u8,.int .u8,.int .u8,.int .u8,.int .u8,.int .u8]
theorem aWM:Flat Tryz.prog 44 a6T:=.array (n:=6) Tryz.underlying44 aPW (by kernel_rfl) (by kernel_rfl)
abbrev B8v(n:Nat):AV:=.int .u8 (n:Int)
theorem bDp{xs:List AV}(hl:xs.length=6)(h:∀(i:Nat)(c:CT)(a:AV),a6T[i]?=some c→xs[i]?=some a→Sh c a):∃ m0 m1 m2 m3 m4 m5:Nat,AV.agg xs = .agg [B8v m0,B8v m1,B8v m2,B8v m3,B8v m4,B8v m5]∧Gd (.agg [B8v m0,B8v m1,B8v m2,B8v m3,B8v m4,B8v m5])∧m0<256∧m1<256∧m2<256∧m3<256∧m4<256:=by
 match xs,hl with
 | [a0,a1,a2,a3,a4,a5],_ =>
   cases h 0 _ _ rfl rfl with
   | int _ n0 q0 =>
   cases h 1 _ _ rfl rfl with
   | int _ n1 q1 =>
   cases h 2 _ _ rfl rfl with
   | int _ n2 q2 =>
   cases h 3 _ _ rfl rfl with
   | int _ n3 q3 =>
   cases h 4 _ _ rfl rfl with
   | int _ n4 q4 =>
   cases h 5 _ _ rfl rfl with
   | int _ n5 q5 =>
   obtain⟨m0,rfl,b0⟩:=rY q0;obtain⟨m1,rfl,b1⟩:=rY q1;obtain⟨m2,rfl,b2⟩:=rY q2;obtain⟨m3,rfl,b3⟩:=rY q3;obtain⟨m4,rfl,b4⟩:=rY q4;obtain⟨m5,rfl,b5⟩:=rY q5;refine⟨m0,m1,m2,m3,m4,m5,rfl,.agg _ fun c hc=>?_,b0,b1,b2,b3,b4⟩;simp only[B5,F9,AAg]at hc;rcases hc with rfl|rfl|rfl|rfl|rfl|rfl<;>exact .int _ _
end
section
open Go Go.DL
section
variable{av:List Nat}{q:Nat}{i:Nat}
theorem aVz{B:List ByteArray}(h5:B.length≤26)(hq:q<256)(ha:∀ n∈av,n<256)(hi:i<dS B):bP 0 [0,1,2,7,8,9] (execW progG 9 0 none (match aQT with | .loop _ a=>a|c=>c) (aZ [0,1,2,7,8,9] [.str (dY B),.fs (rU8 av),.int .u8 (q:Int),.sl 0 0 1 (dY B).size,I (i:Nat),I (9+270*i:Nat)]) [some (.blk true (.cells true (bT (dD B av q i))))]) =
 some ([.str (dY B),.fs (rU8 av),.int .u8 (q:Int),.sl 0 0 1 (dY B).size,I (i+1:Nat),I (9+270*(i+1):Nat)],[some (.blk true (.cells true (bT (dD B av q (i+1)))))]):=by
 obtain⟨z1,z2,z3⟩:=aAC (B:=B);obtain⟨z4,z5⟩:=z2 i hi;obtain⟨_,z6,z7,_⟩:=lZ hi;have kl:=aPx (av:=av) hi;obtain⟨d1,d2⟩:=aUm (av:=av) (q:=q) hi;have dl:=aGS (B:=B) (av:=av) (q:=q) (i:=i) AM;have np:dS B≤10:=by unfold dS;omega
 have x256:=aAZ (pgN B i) (kp B av i);obtain⟨x,hx⟩:=oP (l:=bN (pgN B i)) (i:=kp B av i) (by rw[rT];exact kl);have x256:=x256 x hx;have hv:vp B av q i=(x+(1+q%255))%256:=by unfold vp;rw[C7,hx,G7]
 have hg:(bN (pgN B i)).getD (kp B av i) 0=x:=by rw[C7,hx,G7]
 rw[hg]at d1;have q255:=I3 q (show 0<255 by decide);have ux:=aKn d1;have us:=aIR (l:=dD B av q i) (i:=9+270*i+kp B av i) (x:=vp B av q i) AM;rw[d2,hv]at us;have hk:kp B av i=if i<av.length then av.getD i 0%(pgN B i).size else 0:=rfl
 have lu:(bT (dD B av q i)).length=(dY B).size:=by rw[bE,dl]
 generalize dD B av q (i+1)=D2 at *;generalize dD B av q i=D1 at *;generalize kp B av i=k at *;generalize (pgN B i).size=sz at *;generalize dY B=F at *;obtain⟨n,hn⟩:∃ n,F.size=n:=⟨_,rfl⟩;rw[hn]at lu z1 z3 z4 z5 ⊢;have ru:=aRY av;have t1:(((9+270*i:Nat):Int)<(n:Int))=True:=AAa;have w1:IntKind.i64.wrap ((n:Int)-((9+270*i:Nat):Int))=((n-(9+270*i):Nat):Int):=by rw[aE AM AM];omega
 have w2:IntKind.i64.wrap (((9+270*i:Nat):Int)+(k:Int))=((9+270*i+k:Nat):Int):=by rw[aE AM AM];omega
 have v3w:wP (q:Int) 255=((q%255:Nat):Int):=gY q 255;have w4:IntKind.u8.wrap (1+((q%255:Nat):Int))=((1+q%255:Nat):Int):=by
  simp[IntKind.wrap,IntKind.bits,IntKind.signed];omega
 have w5:IntKind.u8.wrap ((x:Int)+((1+q%255:Nat):Int))=(((x+(1+q%255))%256:Nat):Int):=by
  simp[IntKind.wrap,IntKind.bits,IntKind.signed]
 have v6w:IntKind.i64.wrap (((9+270*i:Nat):Int)+270)=((9+270*(i+1):Nat):Int):=by rw[aE AM AM];omega
 have up:=pL (i:=i) (n:=100) AM AM;have i1:(((9+270*i+k:Nat):Int)<(n:Int))=True:=AAa;have i2:(9+270*i+k+1≤n)=True:=AAa;have gr:=bO D1;have n0:((sz:Int)=0)=False:=AAb;generalize (x+(1+q%255))%256=X at *;generalize 1+q%255=Z at *;generalize 9+270*(i+1)=fr2 at *;generalize hfr:9+270*i=fr at *;obtain⟨P,hP⟩:∃ P,fr+k=P:=⟨_,rfl⟩;rw[hP]at w2 i1 i2 ux us;unfold aQT;dsimp only;by_cases hl:i<av.length
 ·obtain⟨a,hai⟩:=oP (l:=av) (i:=i) hl
  have a16:=ha a (A5 hai);rw[if_pos hl,C7,hai,G7]at hk;have hr:=aVE hai;have t2:((i:Int)<(av.length:Int))=True:=AAa;have v7w:IntKind.i64.wrap (a:Int)=(a:Int):=aE AM AM;have v8w:wP (a:Int) (sz:Int)=(k:Int):=by rw[hk];exact gY a sz
  by_cases hm:270≤n-fr
  ·have e270:sz=270:=AM
   subst e270;have mm:(((n-fr:Nat):Int)<270)=False:=AAb;have v8w:wP (a:Int) 270=(k:Int):=v8w;(exact pD hn t1 w1 w2 v3w w4 w5 v6w v7w v8w up i1 i2 gr mm t2 hr ru ux us lu cQ cM cL cR aG)
  ·have es:n-fr=sz:=AM
   rw[es]at w1;have mm:((sz:Int)<270)=True:=AAa;(exact pD hn t1 w1 w2 v3w w4 w5 v6w v7w v8w n0 up i1 i2 gr mm t2 hr ru ux us lu cQ cM cL cR)
 ·rw[if_neg hl]at hk
  subst hk;have t2:((i:Int)<(av.length:Int))=False:=AAb;obtain rfl:fr=P:=hP;by_cases hm:270≤n-fr
  ·have mm:(((n-fr:Nat):Int)<270)=False:=AAb
   (exact pD hn t1 w1 w2 v3w w4 w5 v6w up i1 i2 gr mm t2 ru ux us lu cQ cM cL cR aG aG aG aG)
  ·have es:n-fr=sz:=AM
   rw[es]at w1;have mm:((sz:Int)<270)=True:=AAa;(exact pD hn t1 w1 w2 v3w w4 w5 v6w up i1 i2 gr mm t2 ru ux us lu cQ cM cL cR aG aG aG aG)
end
theorem gq9{vs:List AV}{h:XH}(hl:vs.length≤x9.N):runW progG 9 vs h=eX none x9.res x9.ownR h.length (execW progG 9 h.length none x9.body (aV (if x9.ownA then vs else lT vs)) h):=dO rfl hl h rfl
theorem g9{s:dU}{av:List Nat}{q:Nat}(r:Rep s 26)(ha:∀ n∈av,n<256)(hq:q<256):runW progG 9 [.str (dY s.book),.fs (rU8 av),.int .u8 (q:Int)] []=some (.pt 0 0,[gK s]):=by
 have c23:=g23 s;have c25d:=aWs r av q;have np:dS s.book≤6:=by have:=r.len;unfold dS;omega
 obtain⟨z1,_,z3⟩:=aAC (B:=s.book);have o2:=fun i hi=>aVz (i:=i) r.len hq ha hi;have d0:=bDd (B:=s.book) (av:=av) (q:=q);have dl:=aGS (B:=s.book) (av:=av) (q:=q) (i:=dS s.book) (A6 _);have br:=aXu (dY s.book);rw[←d0]at br;obtain⟨DE,hDE⟩:∃ DE,dD s.book av q (dS s.book)=DE:=⟨_,rfl⟩;rw[hDE]at dl c25d;have bu:=aAt (f:=DE);have gE:=bO DE;have lE:(bT DE).length=(dY s.book).size:=by rw[bE,dl]
 have tE:List.take (dY s.book).size (List.drop 0 (bT DE))=bT DE:=C8 (by rw[List.drop_zero,lE];exact A6 _);have hE:(⟨⟨DE.map UInt8.ofNat⟩⟩:ByteArray)=xC DE:=rfl;generalize xC DE=x at *;have es:=yW (dY s.book) (dY s.book);rw[AAi rfl]at es;have es:aY .neq (dY s.book) (dY s.book)=some (.bool false):=es;have k6:(((9+270*dS s.book:Nat):Int)<(((dY s.book).size:Nat):Int))=False:=AAb;have k8:(((dY s.book).size*1:Nat)≤(dY s.book).size)=True:=AAa;generalize dY s.book=F at *;rw[gq9 (by simp[x9])];unfold x9;dsimp only;unfold gK at *;sym =>
  simp[dM,dN,gT,Za,Zb,Zf,Zg,Zh,Zj,Zl,Zm,Zo,Zp,Zr,Zv,Zy,ZA,ZP,ZQ,ZT,Yc,Yg,Yl,Ym,Yo,Yu,Y4,YD,YE,Xy,XI,XM,XN,XO,Wu,Ww,Wz,W3,W4,W5,WM,Vb,Vd,Vg,Vi,V3,V4,V5,V6,V9,VA,VB,VC,VD,VF,VH,VI,VJ,VK,VM,VN,VO,VP,VQ,VR,VS,VT,VU,VV,VW,VX,VZ,Ua,Uf,Ui,Uj,Uk,Ul,Uw,Uy,Uz,U0,UG,UH,UJ,UK,UL,UM,UN,UQ,UR,US,UT,UV,UW,UX,UY,UZ,Tb,Tc,Te,Tf,Tg,Th,Ti,Tj,Tm,Tn,Tp,Ts,Ty,T2,T6,T7,T8,TS,TT,TU,TV,TW,Se,Sf,S8,S9,SQ,SY,SZ,Ra,Rb,Rc,Re,Rf,Rg,Rh,Rl,Rm,Ro,Rp,RR,RU,RY,RZ,Qa,Qb,QM,Pe,Pf,Ph,Pj,Pk,Pl,P8,P9,PA,PC,PD,PE,PG,PI,PJ,br]
  tactic =>
   unfold aQT;rw[aQ (dS s.book) (fun i=>[.str F,.fs (rU8 av),.int .u8 (q:Int),.sl 0 0 1 F.size,I (i:Nat),I (9+270*i:Nat)]) (fun i=>[some (.blk true (.cells true (bT (dD s.book av q i))))])]
   ·rw[hDE]
    clear o2;generalize IsClk s=K1 at *;(exact aEF k6 c25d bu gE lE tE hE k8 es c23 cQ cM cL cR aG aG aG aG aG aG)
   ·rw[show ((0:Nat):Int)=0 from rfl,show ((9+270*0:Nat):Int)=9 from rfl]
    generalize IsClk s=K1 at *;(exact RT5 br cQ cM cL cR)
   ·exact o2
   ·(exact RT1 k6)
end
section
open Go Go.DL
theorem bCJ{vs:List AV}{h:XH}(hl:vs.length≤x145.N):runW progG 145 vs h=eX none x145.res x145.ownR h.length (execW progG 145 h.length none x145.body (aV (if x145.ownA then vs else lT vs)) h):=dO rfl hl h rfl
theorem bCK{vs:List AV}{h:XH}(hl:vs.length≤x121.N):runW progG 121 vs h=eX none x121.res x121.ownR h.length (execW progG 121 h.length none x121.body (aV (if x121.ownA then vs else lT vs)) h):=dO rfl hl h rfl
theorem bHX{vs:List AV}{h:XH}(hl:vs.length≤x86.N):runW progG 86 vs h=eX none x86.res x86.ownR h.length (execW progG 86 h.length none x86.body (aV (if x86.ownA then vs else lT vs)) h):=dO rfl hl h rfl
theorem bHY{vs:List AV}{h:XH}(hl:vs.length≤x40.N):runW progG 40 vs h=eX none x40.res x40.ownR h.length (execW progG 40 h.length none x40.body (aV (if x40.ownA then vs else lT vs)) h):=dO rfl hl h rfl
theorem bIa{vs:List AV}{h:XH}(hl:vs.length≤x12.N):runW progG 12 vs h=eX none x12.res x12.ownR h.length (execW progG 12 h.length none x12.body (aV (if x12.ownA then vs else lT vs)) h):=dO rfl hl h rfl
theorem bIn:runW progG 14 [I (0),I (10)] []=some (.agg [I (0),I (10)],[]):=bJ.2 ⟨60,by kernel_rfl⟩
theorem bIm:runW progG 171 [.agg [I (3),I (0),I (10),.nilsl]] []=some (.tup [I (1),I (5),I (0)],[]):=bJ.2 ⟨60,by kernel_rfl⟩
theorem bIl:runW progG 14 [I (10),I (10)] []=some (.agg [I (10),I (10)],[]):=bJ.2 ⟨60,by kernel_rfl⟩
theorem bIk:runW progG 172 [.agg [.fs [[.fs [[I (15),I (5)]]]],.fs [[I (0),I (0),I (0),I (10),I (10)],[I (0),I (0),I (0),I (10),I (10)]],.fs [[.fs [[I (1)]]],[.fs [[I (0)]]]],I (0),I (0)]] []=some (.tup [.fs [[I (0)],[I (1)]],I (5),I (0)],[]):=bJ.2 ⟨60,by kernel_rfl⟩
theorem aMB:runW progG 145 [] []=some (.bool true,[]):=by
 rw[bCJ (by simp[x145])];unfold x145;dsimp only;(exact RT4 bIn bIm bIl bIk)
theorem bIy:runW progG 14 [I (10),I (20)] []=some (.agg [I (10),I (20)],[]):=bJ.2 ⟨60,by kernel_rfl⟩
theorem bIx:runW progG 13 [.agg [I (10),I (20)],.agg [(.int .u8 0),(.int .u8 70),(.int .u8 1),(.int .u8 0),(.int .u8 0),(.int .u8 0)]] []=some (.agg [I (3),.fs [[I (0),I (0),I (10),I (20),I (1)],[I (0),I (1),I (10),I (20),I (0)],[I (1),I (2),I (0),I (0),I (0)],[I (2),I (1),I (70),I (70),I (2)],[I (2),I (0),I (0),I (0),I (2)]]],[]):=bJ.2 ⟨60,by kernel_rfl⟩
theorem bIw:runW progG 16 [.agg [I (3),.fs [[I (0),I (0),I (10),I (20),I (1)],[I (0),I (1),I (10),I (20),I (0)],[I (1),I (2),I (0),I (0),I (0)],[I (2),I (1),I (70),I (70),I (2)],[I (2),I (0),I (0),I (0),I (2)]]]] []=some (.tup [.agg [I (35),I (1)],I (0)],[]):=bJ.2 ⟨60,by kernel_rfl⟩
theorem aQA:runW progG 121 [] []=some (.bool true,[]):=by
 rw[bCK (by simp[x121])];unfold x121;dsimp only;(exact RT4 bIy bIx bIw aMB)
theorem bEL:runW progG 119 [I (2),I (0),I (2)] []=some (.tup [.agg [.fs [[.fs [[I (1)],[I (0)]]],[.fs [[I (2)],[I (3)]]],[.fs [[I (2)],[I (2)]]],[.fs [[I (2)],[I (0)]]]],.fs [[.bool true],[.bool true],[.bool false],[.bool true]]],I (0)],[]):=bJ.2 ⟨60,by kernel_rfl⟩
theorem bEK:runW progG 120 [.agg [.fs [[.fs [[I (1)],[I (0)]]],[.fs [[I (2)],[I (3)]]],[.fs [[I (2)],[I (2)]]],[.fs [[I (2)],[I (0)]]]],.fs [[.bool true],[.bool true],[.bool false],[.bool true]]]] []=some (.tup [.agg [I (3),.fs [[I (0),I (1),I (1),I (1),I (1)],[I (0),I (0),I (0),I (0),I (1)],[I (1),I (2),I (0),I (0),I (1)],[I (2),I (0),I (0),I (0),I (1)]]],.fs [[I (0)],[I (1)],[I (-1)],[I (2)]],.bool true],[]):=bJ.2 ⟨60,by kernel_rfl⟩
theorem bEJ:runW progG 16 [.agg [I (3),.fs [[I (0),I (1),I (1),I (1),I (1)],[I (0),I (0),I (0),I (0),I (1)],[I (1),I (2),I (0),I (0),I (1)],[I (2),I (0),I (0),I (0),I (1)]]]] []=some (.tup [.agg [I (1),I (3)],I (0)],[]):=bJ.2 ⟨60,by kernel_rfl⟩
theorem aLV:runW progG 86 [] []=some (.bool true,[]):=by
 rw[bHX (by simp[x86])];unfold x86;dsimp only;(exact RT4 bEL bEK bEJ aQA)
theorem bEu:runW progG 8 [.agg [.sl 0 0 2 1]] [some (.blk false (.cells true [I (6),.sl 1 0 1 4])),some (.blk true (.cells true [I (4),I (3),I (2),I (1)]))]=some (.tup [.fs [[I (5)],[I (3)],[I (3)],[I (1)]],I (0)],[none,none]):=bJ.2 ⟨60,by kernel_rfl⟩
theorem aRm:runW progG 40 [] []=some (.bool true,[]):=by
 rw[bHY (by simp[x40])];unfold x40;dsimp only;(exact RT2 bEu aLV)
theorem bGt:sayA gL ⟨#[102,97,114,109,101,114,32,97]⟩=(wK,(sayA gL ⟨#[102,97,114,109,101,114,32,97]⟩).2):=by kernel_rfl
theorem bGr:sayA (sayA gL ⟨#[102,97,114,109,101,114,32,97]⟩).2 ⟨#[116,111,116,97,108]⟩=(⟨#[48]⟩,(sayA gL ⟨#[102,97,114,109,101,114,32,97]⟩).2):=by kernel_rfl
theorem bGs:sayA (sayA gL ⟨#[102,97,114,109,101,114,32,97]⟩).2 ⟨#[110,101,116,32,98]⟩=(⟨#[110,111,32,53]⟩,(sayA gL ⟨#[102,97,114,109,101,114,32,97]⟩).2):=by kernel_rfl
theorem aWy:runW progG 12 [] []=some (.bool true,[]):=by
 have c1:=g19;have c2:=g21 gL ⟨#[102,97,114,109,101,114,32,97]⟩;have c3:=g21 (sayA gL ⟨#[102,97,114,109,101,114,32,97]⟩).2 ⟨#[116,111,116,97,108]⟩;have c4:=g21 (sayA gL ⟨#[102,97,114,109,101,114,32,97]⟩).2 ⟨#[110,101,116,32,98]⟩;rw[bGr]at c3;rw[bGs]at c4;rw[bGt]at c2;dsimp only at c2 c3 c4;generalize (sayA gL ⟨#[102,97,114,109,101,114,32,97]⟩).2=s1 at *;have e1:aY .eql wK ⟨#[111,107]⟩=some (.bool true):=by kernel_rfl
 have e2:aY .eql ⟨#[48]⟩ ⟨#[48]⟩=some (.bool true):=by kernel_rfl
 have e3:aY .eql ⟨#[110,111,32,53]⟩ ⟨#[110,111,32,53]⟩=some (.bool true):=by kernel_rfl
 have v:=aRm;rw[bIa (by simp[x12])];unfold x12;dsimp only;generalize wK=o at *;unfold gK at *;generalize IsClk s1=K1 at *;generalize IsClk gL=K0 at *;(exact RT9 c1 c2 c3 c4 e1 e2 e3 v aG)
end
section
open Go Go.DL
section
variable{q:Int}{W:List Int}
end
theorem bIc{n:Nat}(h:n<10000000):runW progG 7 [I (n:Nat)] []=some (.str (dg n),[]):=by
 have:=(g33 7 n AM AM h).2;rw[qH 7 n AM h]at this;exact this
end
section
structure Wt where
 w0:Int
 w1:Int
 w2:Int
 w3:Int
 w4:Int
structure oQ where
 t0:Int
 t1:Int
 t2:Int
 y0:Nat
 y1:Nat
 y2:Nat
 r:Int
def rx0(w:Wt)(s:oQ):oQ:=if s.t0<s.t0+w.w0 then ⟨s.t0+w.w0,s.t1,s.t2,0,s.y1,s.y2,0⟩ else s
def rx1(w:Wt)(s:oQ):oQ:=if s.t1<s.t0+w.w1 then ⟨s.t0,s.t0+w.w1,s.t2,s.y0,1,s.y2,1⟩ else s
def rx2(w:Wt)(s:oQ):oQ:=if s.t2<s.t1+w.w2 then ⟨s.t0,s.t1,s.t1+w.w2,s.y0,s.y1,2,2⟩ else s
def rx3(w:Wt)(s:oQ):oQ:=if s.t1<s.t2+w.w3 then ⟨s.t0,s.t2+w.w3,s.t2,s.y0,3,s.y2,1⟩ else s
def rx4(w:Wt)(s:oQ):oQ:=if s.t0<s.t2+w.w4 then ⟨s.t2+w.w4,s.t1,s.t2,4,s.y1,s.y2,0⟩ else s
def rxN(w:Wt)(s:oQ):Nat→oQ
 | 0=>{ s with r := -1 }
 | 1=>rx0 w { s with r := -1 }
 | 2=>rx1 w (rx0 w { s with r := -1 })
 | 3=>rx2 w (rx1 w (rx0 w { s with r := -1 }))
 | 4=>rx3 w (rx2 w (rx1 w (rx0 w { s with r := -1 })))
 | _=>rx4 w (rx3 w (rx2 w (rx1 w (rx0 w { s with r := -1 }))))
def pas(w:Wt)(s:oQ):oQ:=rxN w s 5
structure wM(w:Wt)(s:oQ):Prop where
 z0:0≤s.t0
 z1:0≤s.t1
 z2:0≤s.t2
 a0:0<s.t0→(s.y0=0∧0<w.w0)∨(s.y0=4∧s.t0≤s.t2+w.w4)
 a1:0<s.t1→(s.y1=1∧s.t1≤s.t0+w.w1)∨(s.y1=3∧s.t1≤s.t2+w.w3)
 a2:0<s.t2→s.y2=2∧s.t2≤s.t1+w.w2
 c2:0<s.t1→0<s.t2→s.y1=3→0<w.w2+w.w3
 c3:0<s.t0→0<s.t1→0<s.t2→s.y0=4→s.y1=1→0<w.w4+w.w2+w.w1
theorem bCE{w:Wt}{s:oQ}(h:wM w s)(r:Int):wM w { s with r:=r }:=⟨h.z0,h.z1,h.z2,h.a0,h.a1,h.a2,h.c2,h.c3⟩
theorem bHV{w:Wt}{s:oQ}(h:wM w s):wM w (rx0 w s):=by
 unfold rx0;split
 ·obtain⟨z0,z1,z2,a0,a1,a2,c2,c3⟩:=h
  refine⟨?_,z1,z2,fun _=>.inl ⟨rfl,by omega⟩,fun q=>?_,a2,c2,fun _ _ _ q=>by cases q⟩;·show 0≤s.t0+w.w0;omega
  ·rcases a1 q with ⟨e,f⟩|e
   ·exact .inl ⟨e,by show s.t1≤s.t0+w.w0+w.w1;omega⟩
   ·exact .inr e
 ·exact h
theorem bHU{w:Wt}{s:oQ}(h:wM w s):wM w (rx1 w s):=by
 unfold rx1;split
 ·obtain⟨z0,z1,z2,a0,a1,a2,c2,c3⟩:=h
  refine⟨z0,?_,z2,a0,fun _=>.inl ⟨rfl,C3 _⟩,fun q=>?_,(fun _ _ q=>by cases q),fun p _ q e _=>?_⟩;·show 0≤s.t0+w.w1;omega
  ·obtain⟨e,f⟩:=a2 q
   exact⟨e,by show s.t2≤s.t0+w.w1+w.w2;omega⟩
  ·have p:0<s.t0:=p
   have q:0<s.t2:=q;have e:s.y0=4:=e;rcases a0 p with ⟨f,_⟩|⟨_,f⟩;·omega
   ·obtain⟨_,g⟩:=a2 q
    omega
 ·exact h
theorem bHT{w:Wt}{s:oQ}(h:wM w s):wM w (rx2 w s):=by
 unfold rx2;split
 ·obtain⟨z0,z1,z2,a0,a1,a2,c2,c3⟩:=h
  refine⟨z0,z1,?_,fun q=>?_,fun q=>?_,fun _=>⟨rfl,C3 _⟩,fun p _ e=>?_,fun p q _ e f=>?_⟩;·show 0≤s.t1+w.w2;omega
  ·rcases a0 q with e|⟨e,f⟩
   ·exact .inl e
   ·exact .inr ⟨e,by show s.t0≤s.t1+w.w2+w.w4;omega⟩
  ·rcases a1 q with e|⟨e,f⟩
   ·exact .inl e
   ·exact .inr ⟨e,by show s.t1≤s.t1+w.w2+w.w3;omega⟩
  ·have p:0<s.t1:=p
   have e:s.y1=3:=e;rcases a1 p with ⟨f,_⟩|⟨_,f⟩;·omega
   ·omega
  ·have p:0<s.t0:=p
   have q:0<s.t1:=q;have e:s.y0=4:=e;have f:s.y1=1:=f;rcases a0 p with ⟨g,_⟩|⟨_,g⟩;·omega
   ·rcases a1 q with ⟨_,k⟩|⟨k,_⟩<;>omega
 ·exact h
theorem bHS{w:Wt}{s:oQ}(h:wM w s):wM w (rx3 w s):=by
 unfold rx3;split
 ·obtain⟨z0,z1,z2,a0,a1,a2,c2,c3⟩:=h
  refine⟨z0,?_,z2,a0,fun _=>.inr ⟨rfl,C3 _⟩,fun q=>?_,fun _ q _=>?_,fun _ _ _ _ q=>by cases q⟩;·show 0≤s.t2+w.w3;omega
  ·obtain⟨e,f⟩:=a2 q
   exact⟨e,by show s.t2≤s.t2+w.w3+w.w2;omega⟩
  ·have q:0<s.t2:=q
   obtain⟨_,g⟩:=a2 q;omega
 ·exact h
theorem bHR{w:Wt}{s:oQ}(h:wM w s):wM w (rx4 w s):=by
 unfold rx4;split
 ·obtain⟨z0,z1,z2,a0,a1,a2,c2,c3⟩:=h
  refine⟨?_,z1,z2,fun _=>.inr ⟨rfl,C3 _⟩,fun q=>?_,a2,c2,fun _ p q _ e=>?_⟩;·show 0≤s.t2+w.w4;omega
  ·rcases a1 q with ⟨e,f⟩|e
   ·exact .inl ⟨e,by show s.t1≤s.t2+w.w4+w.w1;omega⟩
   ·exact .inr e
  ·have p:0<s.t1:=p
   have q:0<s.t2:=q;have e:s.y1=1:=e;obtain⟨_,g⟩:=a2 q;rcases a1 p with ⟨_,k⟩|⟨k,_⟩<;>omega
 ·exact h
theorem aSz{w:Wt}{s:oQ}(h:wM w s):wM w (pas w s):=bHR (bHS (bHT (bHU (bHV (bCE h (-1))))))
def Kp(w:Wt)(t0 t1 t2:Int):Prop:=t0+w.w0≤t0∧t0+w.w1≤t1∧t1+w.w2≤t2∧t2+w.w3≤t1∧t2+w.w4≤t0
structure aQP(s s':oQ):Prop where
 m0:s.t0≤s'.t0
 m1:s.t1≤s'.t1
 m2:s.t2≤s'.t2
 r:s'.r=s.r∧s'.t0=s.t0∧s'.t1=s.t1∧s'.t2=s.t2∨(s'.r=0∧s.t0<s'.t0)∨(s'.r=1∧s.t1<s'.t1)∨(s'.r=2∧s.t2<s'.t2)
theorem bFk(w:Wt)(s:oQ):aQP s (rx0 w s)∧s.t0+w.w0≤(rx0 w s).t0:=by
 unfold rx0;split
 ·refine⟨⟨?_,C3 _,C3 _,.inr (.inl ⟨rfl,?_⟩)⟩,C3 _⟩
  ·show s.t0≤s.t0+w.w0;omega
  ·show s.t0<s.t0+w.w0;omega
 ·exact⟨⟨C3 _,C3 _,C3 _,.inl ⟨rfl,rfl,rfl,rfl⟩⟩,by omega⟩
theorem bFj(w:Wt)(s:oQ):aQP s (rx1 w s)∧s.t0+w.w1≤(rx1 w s).t1:=by
 unfold rx1;split
 ·refine⟨⟨C3 _,?_,C3 _,.inr (.inr (.inl ⟨rfl,?_⟩))⟩,C3 _⟩
  ·show s.t1≤s.t0+w.w1;omega
  ·show s.t1<s.t0+w.w1;omega
 ·exact⟨⟨C3 _,C3 _,C3 _,.inl ⟨rfl,rfl,rfl,rfl⟩⟩,by omega⟩
theorem bFi(w:Wt)(s:oQ):aQP s (rx2 w s)∧s.t1+w.w2≤(rx2 w s).t2:=by
 unfold rx2;split
 ·refine⟨⟨C3 _,C3 _,?_,.inr (.inr (.inr ⟨rfl,?_⟩))⟩,C3 _⟩
  ·show s.t2≤s.t1+w.w2;omega
  ·show s.t2<s.t1+w.w2;omega
 ·exact⟨⟨C3 _,C3 _,C3 _,.inl ⟨rfl,rfl,rfl,rfl⟩⟩,by omega⟩
theorem bFh(w:Wt)(s:oQ):aQP s (rx3 w s)∧s.t2+w.w3≤(rx3 w s).t1:=by
 unfold rx3;split
 ·refine⟨⟨C3 _,?_,C3 _,.inr (.inr (.inl ⟨rfl,?_⟩))⟩,C3 _⟩
  ·show s.t1≤s.t2+w.w3;omega
  ·show s.t1<s.t2+w.w3;omega
 ·exact⟨⟨C3 _,C3 _,C3 _,.inl ⟨rfl,rfl,rfl,rfl⟩⟩,by omega⟩
theorem bFg(w:Wt)(s:oQ):aQP s (rx4 w s)∧s.t2+w.w4≤(rx4 w s).t0:=by
 unfold rx4;split
 ·refine⟨⟨?_,C3 _,C3 _,.inr (.inl ⟨rfl,?_⟩)⟩,C3 _⟩
  ·show s.t0≤s.t2+w.w4;omega
  ·show s.t0<s.t2+w.w4;omega
 ·exact⟨⟨C3 _,C3 _,C3 _,.inl ⟨rfl,rfl,rfl,rfl⟩⟩,by omega⟩
structure bDt(w:Wt)(s s':oQ):Prop where
 m0:s.t0≤s'.t0
 m1:s.t1≤s'.t1
 m2:s.t2≤s'.t2
 l0:s.t0+w.w0≤s'.t0
 l1:s.t0+w.w1≤s'.t1
 l2:s.t1+w.w2≤s'.t2
 l3:s.t2+w.w3≤s'.t1
 l4:s.t2+w.w4≤s'.t0
 r:s'.r = -1∧s'.t0=s.t0∧s'.t1=s.t1∧s'.t2=s.t2∨(s'.r=0∧s.t0<s'.t0)∨(s'.r=1∧s.t1<s'.t1)∨(s'.r=2∧s.t2<s'.t2)
theorem aCV(w:Wt)(s:oQ):bDt w s (pas w s):=by
 have e:pas w s=rx4 w (rx3 w (rx2 w (rx1 w (rx0 w { s with r := -1 })))):=rfl;rw[e];obtain⟨z,hz⟩:∃ z:oQ,{ s with r := -1 }=z:=⟨_,rfl⟩;have h0:z.t0=s.t0:=by rw[←hz]
 have h1:z.t1=s.t1:=by rw[←hz]
 have h2:z.t2=s.t2:=by rw[←hz]
 have h3:z.r = -1:=by rw[←hz]
 rw[hz];obtain⟨⟨a0,a1,a2,ar⟩,al⟩:=bFk w z;generalize rx0 w z=s1 at *;obtain⟨⟨b0,b1,b2,br⟩,bl⟩:=bFj w s1;generalize rx1 w s1=s2 at *;obtain⟨⟨c0,c1,c2,cr⟩,cl⟩:=bFi w s2;generalize rx2 w s2=s3 at *;obtain⟨⟨d0,d1,d2,dr⟩,dl⟩:=bFh w s3;generalize rx3 w s3=s4 at *;obtain⟨⟨e0,e1,e2,er⟩,el⟩:=bFg w s4;generalize rx4 w s4=s5 at *;clear hz e;refine⟨by omega,by omega,by omega,by omega,by omega,by omega,by omega,by omega,by omega⟩
def rsZ:oQ:=⟨0,0,0,0,0,0,-1⟩
theorem bCF(w:Wt):wM w rsZ:=⟨C3 _,C3 _,C3 _,fun h=>absurd h (by decide),fun h=>absurd h (by decide),fun h=>absurd h (by decide),fun h=>absurd h (by decide),fun h=>absurd h (by decide)⟩
def aW(w:Wt):Nat→oQ
 | 0=>rsZ
 | n+1=>pas w (aW w n)
theorem aUg(w:Wt):∀ n,wM w (aW w n)
 | 0=>bCF w
 | n+1=>aSz (aUg w n)
theorem bAT{w:Wt}{n:Nat}(h:(aW w (n+1)).r<0):Kp w (aW w (n+1)).t0 (aW w (n+1)).t1 (aW w (n+1)).t2:=by
 have p:=aCV w (aW w n);have e:aW w (n+1)=pas w (aW w n):=rfl;rw[e]at h ⊢;obtain⟨m0,m1,m2,l0,l1,l2,l3,l4,r⟩:=p;unfold Kp;omega
inductive Bk(w:Wt)(s:oQ):Prop where
 | a (hr:s.r=0) (h0:s.y0=0) (hw:0<w.w0)
 | b (hr:s.r=0) (h0:s.y0=4) (h2:s.y2=2) (h1:s.y1=1) (hw:0<w.w4+w.w2+w.w1)
 | c (hr:s.r=0) (h0:s.y0=4) (h2:s.y2=2) (h1:s.y1=3) (hw:0<w.w2+w.w3)
 | d (hr:s.r=1) (h1:s.y1=1) (h0:s.y0=0) (hw:0<w.w0)
 | e (hr:s.r=1) (h1:s.y1=1) (h0:s.y0=4) (h2:s.y2=2) (hw:0<w.w4+w.w2+w.w1)
 | f (hr:s.r=1) (h1:s.y1=3) (h2:s.y2=2) (hw:0<w.w2+w.w3)
 | g (hr:s.r=2) (h2:s.y2=2) (h1:s.y1=1) (h0:s.y0=0) (hw:0<w.w0)
 | h (hr:s.r=2) (h2:s.y2=2) (h1:s.y1=1) (h0:s.y0=4) (hw:0<w.w4+w.w2+w.w1)
 | i (hr:s.r=2) (h2:s.y2=2) (h1:s.y1=3) (hw:0<w.w2+w.w3)
theorem bIz{w:Wt}(h:0≤(aW w 4).r):Bk w (aW w 4):=by
 obtain⟨z0,z1,z2,a0,a1,a2,c2,c3⟩:=aUg w 4;have e4:aW w 4=pas w (aW w 3):=rfl;obtain⟨x0,x1,x2,k0,k1,k2,k3,k4,xr⟩:=aCV w (aW w 3);rw[←e4]at x0 x1 x2 k0 k1 k2 k3 k4 xr;have e3:aW w 3=pas w (aW w 2):=rfl;obtain⟨u0,u1,u2,_,_,_,_,_,_⟩:=aCV w (aW w 2);rw[←e3]at u0 u1 u2;have e2:aW w 2=pas w (aW w 1):=rfl;obtain⟨v0,v1,v2,l0,l1,l2,l3,l4,_⟩:=aCV w (aW w 1);rw[←e2]at v0 v1 v2 l0 l1 l2 l3 l4;have e1:aW w 1=pas w rsZ:=rfl;obtain⟨n0,n1,n2,m0,m1,m2,m3,m4,_⟩:=aCV w rsZ;rw[←e1]at n0 n1 n2 m0 m1 m2 m3 m4;have q0:rsZ.t0=0:=rfl;have q1:rsZ.t1=0:=rfl;have q2:rsZ.t2=0:=rfl;rw[q0]at n0 m0 m1;rw[q1]at n1 m2;rw[q2]at n2 m3 m4;clear e1 e2 e3 e4 q0 q1 q2;generalize aW w 4=s4 at *;generalize aW w 3=s3 at *;generalize aW w 2=s2 at *;generalize aW w 1=s1 at *;rcases xr with ⟨xr,_⟩|⟨xr,xl⟩|⟨xr,xl⟩|⟨xr,xl⟩;·omega
 ·rcases a0 AM with ⟨p,q⟩|⟨p,q⟩
  ·exact .a xr p q
  ·have t2p:0<s4.t2:=AM
   obtain⟨p2,q2⟩:=a2 t2p;have t1p:0<s4.t1:=AM
   rcases a1 t1p with ⟨p1,_⟩|⟨p1,_⟩;·exact .b xr p p2 p1 (c3 AM t1p t2p p p1)
   ·exact .c xr p p2 p1 (c2 t1p t2p p1)
 ·rcases a1 AM with ⟨p1,q1⟩|⟨p1,q1⟩
  ·have t0p:0<s4.t0:=AM
   rcases a0 t0p with ⟨p,q⟩|⟨p,q⟩;·exact .d xr p1 p q
   ·have t2p:0<s4.t2:=AM
    obtain⟨p2,q2⟩:=a2 t2p;exact .e xr p1 p p2 (c3 t0p AM t2p p p1)
  ·have t2p:0<s4.t2:=AM
   obtain⟨p2,q2⟩:=a2 t2p;exact .f xr p1 p2 (c2 AM t2p p1)
 ·obtain⟨p2,q2⟩:=a2 AM
  have t1p:0<s4.t1:=AM
  rcases a1 t1p with ⟨p1,q1⟩|⟨p1,q1⟩
  ·have t0p:0<s4.t0:=AM
   rcases a0 t0p with ⟨p,q⟩|⟨p,q⟩;·exact .g xr p2 p1 p q
   ·exact .h xr p2 p1 p (c3 t0p t1p AM p p1)
  ·exact .i xr p2 p1 (c2 t1p AM p1)
def yL(p q:Int×Int):Prop:=p.1*q.2<q.1*p.2
instance(p q:Int×Int):Decidable (yL p q):=inferInstanceAs (Decidable (_<_))
theorem aMf{p q r:Int×Int}(hp:0<p.2)(hq:0<q.2)(hr:0<r.2)(h1:yL p q)(h2:yL q r):yL p r:=by
 unfold yL at *;have a:=aA3 h1 hr;have b:=aA3 h2 hp;refine aF2 (a:=q.2) ?_ (Int.le_of_lt hq)
 grind
theorem aWp{p q r:Int×Int}(hp:0<p.2)(hq:0<q.2)(e:p.1*q.2=q.1*p.2)(h:yL p r):yL q r:=by
 unfold yL at *;have a:=aA3 h hq;refine aF2 (a:=p.2) ?_ (Int.le_of_lt hp)
 grind
def grt(X0 X1 X2 p:Int×Int):Nat:=(if yL p X0 then 1 else 0)+(if yL p X1 then 1 else 0)+(if yL p X2 then 1 else 0)
theorem aSD{X0 X1 X2 p q X:Int×Int}(d0:0<X0.2)(d1:0<X1.2)(d2:0<X2.2)(dp:0<p.2)(dq:0<q.2)(dX:0<X.2)(hX:X=X0∨X=X1∨X=X2)(h:yL p X)(e:q.1*X.2=X.1*q.2):grt X0 X1 X2 q<grt X0 X1 X2 p:=by
 have up:∀ r:Int×Int,0<r.2→yL q r→yL p r:=fun r hr k=>aMf dp dX hr h (aWp dq dX e k);have u0:=up X0 d0;have u1:=up X1 d1;have u2:=up X2 d2;have no:¬yL q X:=by
  unfold yL;rw[e];exact Int.lt_irrefl _
 unfold grt;rcases hX with rfl|rfl|rfl
 ·rw[if_pos h,if_neg no]
  by_cases a:yL q X1<;>by_cases b:yL q X2<;>simp only[a,b,u1,u2,AAe,AAd]<;>omega
 ·rw[if_pos h,if_neg no]
  by_cases a:yL q X0<;>by_cases b:yL q X2<;>simp only[a,b,u0,u2,AAe,AAd]<;>omega
 ·rw[if_pos h,if_neg no]
  by_cases a:yL q X0<;>by_cases b:yL q X1<;>simp only[a,b,u0,u1,AAe,AAd]<;>omega
abbrev R3:Type:=Int×Int×Int
def opE(z:Int)(o:Option Int)(w:Int):Int:=match o with
 | none=>z
 | some v=>max z (v+w)
def bkR(H:List R3)(k:Nat):Option R3:=if k≤H.length then H[H.length-k]? else none
structure Tkw where
 c:Int
 a:Int
 b:Int
 d:Int
def n0(x:Tkw)(B4:Nat)(H:List R3):Int:=opE (opE 0 ((bkR H 1).map (·.1)) x.c) ((bkR H B4).map (·.2.2)) x.d
def n1(x:Tkw)(B3 B4:Nat)(H:List R3):Int:=opE (opE 0 (some (n0 x B4 H)) x.c) ((bkR H B3).map (·.2.2)) x.b
def n2(x:Tkw)(B3 B4:Nat)(H:List R3):Int:=opE 0 (some (n1 x B3 B4 H)) x.a
def nxE(x:Tkw)(B3 B4:Nat)(H:List R3):R3:=(n0 x B4 H,n1 x B3 B4 H,n2 x B3 B4 H)
def fQ(x:Tkw)(B3 B4:Nat):Nat→List R3
 | 0=>[]
 | s+1=>fQ x B3 B4 s++[nxE x B3 B4 (fQ x B3 B4 s)]
def eE(x:Tkw)(B3 B4:Nat)(s:Nat):R3:=nxE x B3 B4 (fQ x B3 B4 s)
section
variable{x:Tkw}{B3 B4:Nat}
theorem pP:∀ s,(fQ x B3 B4 s).length=s
 | 0=>rfl
 | s+1=>by rw[fQ,C9,pP s];rfl
theorem aHE:∀{s j:Nat},j<s→(fQ x B3 B4 s)[j]?=some (eE x B3 B4 j)
 | s+1,j,h=>by
   rw[fQ];by_cases hj:j<s;·rw[I5 (by rw[pP];exact hj),aHE hj]
   ·obtain rfl:j=s:=AM
    rw[G5 (by rw[pP];exact A6 _),pP,J5];rfl
theorem mI{s k:Nat}(hk:0<k):bkR (fQ x B3 B4 s) k=if k≤s then some (eE x B3 B4 (s-k)) else none:=by
 unfold bkR;rw[pP];by_cases h:k≤s;·rw[if_pos h,if_pos h,aHE AM]
 ·rw[if_neg h,if_neg h]
theorem aCY{z z':Int}{o o':Option Int}{w:Int}(hz:z≤z')(ho:∀ v,o=some v→∃ v',o'=some v'∧v≤v'):opE z o w≤opE z' o' w:=by
 cases o with
 | none =>
   cases o' with
   | none=>exact hz
   | some v'=>show z≤max z' (v'+w);omega
 | some v =>
   obtain⟨v',rfl,h⟩:=ho v rfl;show max z (v+w)≤max z' (v'+w);omega
theorem aCZ{z:Int}{o:Option Int}{w:Int}:z≤opE z o w:=by
 cases o with
 | none=>exact C3 _
 | some v=>show z≤max z (v+w);omega
theorem aDa{z B:Int}{o:Option Int}{w:Int}(hz:z≤B)(ho:∀ v,o=some v→v+w≤B):opE z o w≤B:=by
 cases o with
 | none=>exact hz
 | some v=>have:=ho v rfl;show max z (v+w)≤B;omega
theorem yJ{f:R3→Int}{s k:Nat}(hk:0<k){v:Int}(h:(bkR (fQ x B3 B4 s) k).map f=some v):k≤s∧v=f (eE x B3 B4 (s-k)):=by
 rw[mI hk]at h;by_cases hs:k≤s
 ·rw[if_pos hs]at h
  exact⟨hs,by simpa using h.symm⟩
 ·rw[if_neg hs]at h;cases h
theorem aUj(s:Nat):0≤(eE x B3 B4 s).1∧0≤(eE x B3 B4 s).2.1∧0≤(eE x B3 B4 s).2.2:=⟨aB0 aCZ aCZ,aB0 aCZ aCZ,(aCZ:0≤opE 0 (some (n1 x B3 B4 (fQ x B3 B4 s))) x.a)⟩
theorem aSS(h3:0<B3)(h4:0<B4):∀ s,(eE x B3 B4 s).1≤(eE x B3 B4 (s+1)).1∧(eE x B3 B4 s).2.1≤(eE x B3 B4 (s+1)).2.1∧(eE x B3 B4 s).2.2≤(eE x B3 B4 (s+1)).2.2:=by
 intro s;induction s using Nat.strongRecOn with
 | ind s ih =>
   have go:∀(f:R3→Int)(k:Nat),0<k→(∀ j,j<s→f (eE x B3 B4 j)≤f (eE x B3 B4 (j+1)))→∀ v,(bkR (fQ x B3 B4 s) k).map f=some v→∃ v',(bkR (fQ x B3 B4 (s+1)) k).map f=some v'∧v≤v':=by
    intro f k hk hf v hv;obtain⟨h1,rfl⟩:=yJ hk hv;rw[mI hk,if_pos AM];refine⟨_,rfl,?_⟩;have:=hf (s-k) AM;rw[show s-k+1=s+1-k by omega]at this;exact this
   have a:(eE x B3 B4 s).1≤(eE x B3 B4 (s+1)).1:=aCY (aCY (C3 _) (go (·.1) 1 AM fun j hj=>(ih j hj).1)) (go (·.2.2) B4 h4 fun j hj=>(ih j hj).2.2);have b:(eE x B3 B4 s).2.1≤(eE x B3 B4 (s+1)).2.1:=aCY (aCY (C3 _) fun v hv=>⟨_,rfl,by cases hv;exact a⟩) (go (·.2.2) B3 h3 fun j hj=>(ih j hj).2.2);refine⟨a,b,?_⟩;show opE 0 (some (n1 x B3 B4 (fQ x B3 B4 s))) x.a≤opE 0 (some (n1 x B3 B4 (fQ x B3 B4 (s+1)))) x.a;exact aCY (C3 _) fun v hv=>⟨_,rfl,by cases hv;exact b⟩
theorem aUk{m:Int}(h3:0<B3)(h4:0<B4)(hm:0≤m)(hc:x.c≤m)(ha:x.a≤m)(hb:x.b≤m)(hd:x.d≤m):∀ s:Nat,(eE x B3 B4 s).1≤3*m*(s:Int)+m∧(eE x B3 B4 s).2.1≤3*m*(s:Int)+2*m∧(eE x B3 B4 s).2.2≤3*m*(s:Int)+3*m:=by
 intro s;induction s using Nat.strongRecOn with
 | ind s ih =>
   have up:∀ k:Nat,0<k→k≤s→3*m*((s-k:Nat):Int)+3*m≤3*m*(s:Int):=by
    intro k hk hks;have e:((s-k:Nat):Int)+1≤(s:Int):=AM
    have:=aD1 e (show 0≤3*m by omega);rw[Int.mul_add,Int.mul_one]at this;exact this
   have z:0≤3*m*(s:Int):=aC3 AM AM;have a:(eE x B3 B4 s).1≤3*m*(s:Int)+m:=by
    refine aDa (aDa AM fun v hv=>?_) fun v hv=>?_
    ·obtain⟨h1,rfl⟩:=yJ AM hv
     have:=(ih (s-1) AM).1;have:=up 1 AM h1;omega
    ·obtain⟨h1,rfl⟩:=yJ h4 hv
     have:=(ih (s-B4) AM).2.2;have:=up B4 h4 h1;omega
   have b:(eE x B3 B4 s).2.1≤3*m*(s:Int)+2*m:=by
    refine aDa (aDa AM fun v hv=>?_) fun v hv=>?_
    ·cases hv
     have a':n0 x B4 (fQ x B3 B4 s)≤3*m*(s:Int)+m:=a;omega
    ·obtain⟨h1,rfl⟩:=yJ h3 hv
     have:=(ih (s-B3) AM).2.2;have:=up B3 h3 h1;omega
   refine⟨a,b,?_⟩;show opE 0 (some (n1 x B3 B4 (fQ x B3 B4 s))) x.a≤_;refine aDa AM fun v hv=>?_;cases hv;have b':n1 x B3 B4 (fQ x B3 B4 s)≤3*m*(s:Int)+2*m:=b;omega
theorem aWV{pn pd t0 t1 t2:Int}(h3:0<B3)(h4:0<B4)(hn:0≤pn)(z0:0≤t0)(z1:0≤t1)(z2:0≤t2)
 (k:Kp ⟨x.c*pd-1*pn,x.c*pd,x.a*pd,x.b*pd-B3*pn,x.d*pd-B4*pn⟩ t0 t1 t2) (hd:0<pd):∀ s:Nat,(eE x B3 B4 s).1*pd≤t0+(s:Int)*pn∧(eE x B3 B4 s).2.1*pd≤t1+(s:Int)*pn∧(eE x B3 B4 s).2.2*pd≤t2+(s:Int)*pn:=by
 obtain⟨k0,k1,k2,k3,k4⟩:=k;dsimp only at k0 k1 k2 k3 k4;have opm:∀{z B:Int}{o:Option Int}{w:Int},z*pd≤B→(∀ v,o=some v→v*pd+w*pd≤B)→opE z o w*pd≤B:=by
  intro z B o w hz ho;cases o with
  | none=>exact hz
  | some v =>
    have h:=ho v rfl;show max z (v+w)*pd≤B;rcases Int.le_total z (v+w)with q|q;·rw[Int.max_eq_right q,aH3];exact h
    ·rw[Int.max_eq_left q];exact hz
 intro s;induction s using Nat.strongRecOn with
 | ind s ih =>
   have z:0≤(s:Int)*pn:=aC3 AM hn;have sub:∀ k:Nat,k≤s→((s-k:Nat):Int)*pn=(s:Int)*pn-(k:Int)*pn:=by
    intro k hk;rw[show ((s-k:Nat):Int)=(s:Int)-(k:Int) by omega,Int.sub_mul]
   have a:(eE x B3 B4 s).1*pd≤t0+(s:Int)*pn:=by
    refine opm (opm AM fun v hv=>?_) fun v hv=>?_
    ·obtain⟨h1,rfl⟩:=yJ AM hv
     have:=(ih (s-1) AM).1;have:=sub 1 h1;omega
    ·obtain⟨h1,rfl⟩:=yJ h4 hv
     have:=(ih (s-B4) AM).2.2;have:=sub B4 h1;omega
   have b:(eE x B3 B4 s).2.1*pd≤t1+(s:Int)*pn:=by
    refine opm (opm AM fun v hv=>?_) fun v hv=>?_
    ·cases hv
     have a':n0 x B4 (fQ x B3 B4 s)*pd≤t0+(s:Int)*pn:=a;omega
    ·obtain⟨h1,rfl⟩:=yJ h3 hv
     have:=(ih (s-B3) AM).2.2;have:=sub B3 h1;omega
   refine⟨a,b,?_⟩;show opE 0 (some (n1 x B3 B4 (fQ x B3 B4 s))) x.a*pd≤_;refine opm AM fun v hv=>?_;cases hv;have b':n1 x B3 B4 (fQ x B3 B4 s)*pd≤t1+(s:Int)*pn:=b;omega
end
end
section
open Go Go.DL
theorem gX(K:Nat)(d:XFn){vs:List AV}{h:XH}(hD:progG K=some d:=by rfl)(hl:vs.length≤d.N:=by exact aC7 rfl)(hdf:d.dfr=none:=by rfl)(hpr:d.prm=none:=by rfl)(hg:lB K=false:=by rfl):runW progG K vs h=eX none d.res d.ownR h.length (execW progG K h.length none d.body (aV (if d.ownA then vs else lT vs)) h):=dO hD hl h hdf hpr hg
section
variable{D:Nat→Option XFn}{K k:Nat}{rd:Option Nat}{L:List Nat}{l:Nat}{a b:XCode}{e:aH}{h H H':XH}{vs vs':List AV}{r:Option (DX×aH×XH)}
noncomputable def lpX(D:Nat→Option XFn)(K k:Nat)(rd:Option Nat)(L:List Nat)(a:XCode)(vs:List AV)(H:XH):Option (DX×aH×XH):=mQ (execW D K k rd a (aZ L vs) H) (execW D K k rd (.loop L a))
theorem aUe(h0:bP k L (some (.normal,e,h))=some (vs,H)):execW D K k rd (.loop L a) e h=lpX D K k rd L a vs H:=by
 simp only[bP,oSI,A7]at h0;have e1:jO k L e h=aZ L vs:=by rw[←h0.1];rfl
 rw[rH,e1,h0.2];rfl
theorem aSt(h0:bP k L (execW D K k rd a (aZ L vs) H)=some (vs',H')):lpX D K k rd L a vs H=lpX D K k rd L a vs' H':=by
 unfold lpX;generalize execW D K k rd a (aZ L vs) H=q at *;match q,h0 with
 | some (.normal,e,h),h0=>exact aUe h0
noncomputable def agX(D:Nat→Option XFn)(K k:Nat)(rd:Option Nat)(L:List Nat)(l:Nat)(b:XCode)(vs:List AV)(H:XH):Option (DX×aH×XH):=gM l (execW D K k rd b (aZ L vs) H) (execW D K k rd (.again L l b))
def goX(k:Nat)(L:List Nat)(l:Nat):Option (DX×aH×XH)→Option (List AV×XH)
 | some (.goto j,e,h)=>if j=l then bP k L (some (.normal,e,h)) else none
 | _=>none
theorem aQM(h0:goX k L l r=some (vs,H)):gM l r (execW D K k rd (.again L l b))=agX D K k rd L l b vs H:=by
 match r,h0 with
 | some (.goto j,e,h),h0 =>
   by_cases hj:j=l
   ·subst hj
    rw[show goX k L j (some (.goto j,e,h))=bP k L (some (.normal,e,h)) from if_pos rfl]at h0;simp only[bP,oSI,A7]at h0;have e1:jO k L e h=aZ L vs:=by rw[←h0.1];rfl
    show (if j=j then execW D K k rd (.again L j b) e h else none)=_;rw[if_pos rfl,aIs,e1,h0.2];rfl
   ·rw[show goX k L l (some (.goto j,e,h))=none from if_neg hj]at h0
    cases h0
def reX(res:List (Nat×Option (Bool×Nat)))(own:Bool)(k:Nat):Option (DX×aH×XH)→Option (AV×XH)
 | some (.ret,e,h)=>eX none res own k (some (.ret,e,h))
 | _=>none
theorem aDZ{res:List (Nat×Option (Bool×Nat))}{own:Bool}{v:AV}{f:aH→XH→Option (DX×aH×XH)}(h0:reX res own k r=some (v,H)):eX none res own k (gM l r f)=some (v,H):=by
 match r,h0 with
 | some (.ret,e,h),h0=>exact h0
theorem aNI{res:List (Nat×Option (Bool×Nat))}{own:Bool}{v:AV}{f:aH→XH→Option (DX×aH×XH)}(h0:reX res own k r=some (v,H)):reX res own k (mQ r f)=some (v,H):=by
 match r,h0 with
 | some (.ret,e,h),h0=>exact h0
theorem aXs{res:List (Nat×Option (Bool×Nat))}{own:Bool}{v:AV}{id:Nat}(h0:reX res own k r=some (v,H)):eX none res own k (vE id r)=some (v,H):=by
 match r,h0 with
 | some (.ret,e,h),h0=>exact h0
end
theorem bCU{k l:Nat}{L:List Nat}{e:aH}{h:XH}:goX k L l (some (.goto l,e,h))=bP k L (some (.normal,e,h)):=by simp[goX]
theorem qE{res:List (Nat×Option (Bool×Nat))}{own:Bool}{k:Nat}{e:aH}{h:XH}:reX res own k (some (.ret,e,h))=eX none res own k (some (.ret,e,h)):=rfl
theorem aZv:wP 2 1=0:=rfl
theorem aZu:wP 3 1=0:=rfl
theorem bEy:wP 3 2=1:=rfl
theorem bEx:wP 4 1=0:=rfl
theorem bEw:wP 4 2=0:=rfl
theorem bEv:wP 4 3=1:=rfl
theorem bEE:oV 1 1=1:=rfl
theorem bED:oV 2 1=2:=rfl
theorem bEC:oV 2 2=1:=rfl
theorem aZx:oV 3 1=3:=rfl
theorem bEB:oV 3 3=1:=rfl
theorem aZw:oV 4 1=4:=rfl
theorem bEA:oV 4 2=2:=rfl
theorem bEz:oV 4 4=1:=rfl
theorem aPa{n d:Int}(h0:0≤n)(h1:n≤1000)(d0:1≤d)(d1:d≤4):∃ pn pd:Int,0≤pn∧pn≤1000∧1≤pd∧pd≤4∧pn*d=n*pd∧runW progG 123 [.agg [I n,I d]] []=some (.agg [I pn,I pd],[]):=by
 have m:∀ k:Int,wP n k=Int.tmod n k:=fun _=>rfl;have dv:∀ k:Int,oV n k=Int.tdiv n k:=fun _=>rfl;have t1:wP n 1=0:=by rw[m,J7 h0];omega
 have q1:IntKind.i64.wrap (oV n 1)=n:=by rw[dv,J8 h0,aE AM AM];omega
 rcases (by omega:d=1∨d=2∨d=3∨d=4)with rfl|rfl|rfl|rfl
 ·refine⟨n,1,h0,h1,by omega,by omega,by omega,?_⟩
  rw[gX 123 oC];unfold oC nH;dsimp only;(exact RT4 @dA t1 q1 bEE)
 ·have e2:wP n 2=n%2:=by rw[m,J7 h0]
  rcases (by omega:n%2=0∨n%2=1)with hr|hr
  ·rw[hr]at e2
   have q2:IntKind.i64.wrap (oV n 2)=n/2:=by rw[dv,J8 h0,aE AM AM]
   refine⟨n/2,1,by omega,by omega,by omega,by omega,by omega,?_⟩;generalize n/2=v at *;rw[gX 123 oC];unfold oC nH;dsimp only;(exact RT4 @dA e2 q2 bEC)
  ·rw[hr]at e2
   refine⟨n,2,by omega,by omega,by omega,by omega,by omega,?_⟩;rw[gX 123 oC];unfold oC nH;dsimp only;(exact RT5 @dA e2 q1 aZv bED)
 ·have e2:wP n 3=n%3:=by rw[m,J7 h0]
  rcases (by omega:n%3=0∨n%3=1∨n%3=2)with hr|hr|hr
  ·rw[hr]at e2
   have q2:IntKind.i64.wrap (oV n 3)=n/3:=by rw[dv,J8 h0,aE AM AM]
   refine⟨n/3,1,by omega,by omega,by omega,by omega,by omega,?_⟩;generalize n/3=v at *;rw[gX 123 oC];unfold oC nH;dsimp only;(exact RT4 @dA e2 q2 bEB)
  ·rw[hr]at e2
   refine⟨n,3,by omega,by omega,by omega,by omega,by omega,?_⟩;rw[gX 123 oC];unfold oC nH;dsimp only;(exact RT5 @dA e2 q1 aZu aZx)
  ·rw[hr]at e2
   refine⟨n,3,by omega,by omega,by omega,by omega,by omega,?_⟩;rw[gX 123 oC];unfold oC nH;dsimp only;(exact RT7 @dA e2 q1 bEy aZv aZx aG)
 ·have e2:wP n 4=n%4:=by rw[m,J7 h0]
  rcases (by omega:n%4=0∨n%4=1∨n%4=2∨n%4=3)with hr|hr|hr|hr
  ·rw[hr]at e2
   have q2:IntKind.i64.wrap (oV n 4)=n/4:=by rw[dv,J8 h0,aE AM AM]
   refine⟨n/4,1,by omega,by omega,by omega,by omega,by omega,?_⟩;generalize n/4=v at *;rw[gX 123 oC];unfold oC nH;dsimp only;(exact RT4 @dA e2 q2 bEz)
  ·rw[hr]at e2
   refine⟨n,4,by omega,by omega,by omega,by omega,by omega,?_⟩;rw[gX 123 oC];unfold oC nH;dsimp only;(exact RT5 @dA e2 q1 bEx aZw)
  ·rw[hr]at e2
   have q2:IntKind.i64.wrap (oV n 2)=n/2:=by rw[dv,J8 h0,aE AM AM]
   have hv:n/2*4=n*2:=AM
   refine⟨n/2,2,by omega,by omega,by omega,by omega,hv,?_⟩;generalize n/2=v at *;rw[gX 123 oC];unfold oC nH;dsimp only;(exact RT5 @dA e2 q2 bEw bEA)
  ·rw[hr]at e2
   refine⟨n,4,by omega,by omega,by omega,by omega,by omega,?_⟩;rw[gX 123 oC];unfold oC nH;dsimp only;(exact RT7 @dA e2 q1 bEv aZu aZw aG)
structure Wx where
 c1:Int
 c2:Int
 a1:Int
 a2:Int
 b1:Int
 b2:Int
 d1:Int
 d2:Int
 B3:Nat
 B4:Nat
structure Wx.Ok(x:Wx):Prop where
 c:0≤x.c1∧x.c1≤x.c2∧x.c2≤300
 a:0≤x.a1∧x.a1≤x.a2∧x.a2≤300
 b:0≤x.b1∧x.b1≤x.b2∧x.b2≤300
 d:0≤x.d1∧x.d1≤x.d2∧x.d2≤300
 b3:1≤x.B3∧x.B3≤3
 b4:2≤x.B4∧x.B4≤4
abbrev rW(x:Wx):List (List AV):=[[I 0,I 0,I x.c1,I x.c2,I 1],[I 0,I 1,I x.c1,I x.c2,I 0],[I 1,I 2,I x.a1,I x.a2,I 0],[I 2,I 1,I x.b1,I x.b2,I (x.B3:Nat)],[I 2,I 0,I x.d1,I x.d2,I (x.B4:Nat)]]
abbrev wA(x:Wx):AV:=.agg [I 3,.fs (rW x)]
theorem bFb(lo n hi:Int):runW progG 43 [I lo,I n,I hi] []=some (.bool (decide (lo≤n)&&decide (n≤hi)),[]):=by
 rw[gX 43 x43];unfold x43;dsimp only;rcases ptf (lo≤n)with h1|h1
 ·have d1:decide (lo≤n)=true:=by simp[h1]
  (exact RT2 h1 d1)
 ·have d1:decide (lo≤n)=false:=by simp[h1]
  (exact RT2 h1 d1)
theorem aFc{lo n hi:Int}(h1:lo≤n)(h2:n≤hi):runW progG 43 [I lo,I n,I hi] []=some (.bool true,[]):=by
 have h:=bFb lo n hi;rw[AAi h1,AAi h2]at h;exact h
theorem aOZ{f t lo hi bk:Int}(h0:0≤lo)(h1:lo≤hi)(h2:hi≤10000)(h3:0≤bk)(h4:bk≤4):runW progG 87 [.agg [I f,I t,I lo,I hi,I bk]] []=some (.bool true,[]):=by
 have c:=aFc h3 h4;have e1:(0≤lo)=True:=AAk h0;have e2:(lo≤hi)=True:=AAk h1;have e3:(hi≤10000)=True:=AAk h2;rw[gX 87 x87];unfold x87;dsimp only;(exact RT4 c e1 e2 e3)
theorem bEV(c1 c2 a1 a2 b1 b2 d1 d2:Int):∀ k3 k4:Nat,k3<3→k4<3→cF progG 60 44 [.agg [I 3,.fs [[I 0,I 0,I c1,I c2,I 1],[I 0,I 1,I c1,I c2,I 0],[I 1,I 2,I a1,I a2,I 0],[I 2,I 1,I b1,I b2,I ((k3+1:Nat):Int)],[I 2,I 0,I d1,I d2,I ((k4+2:Nat):Int)]]]] []=some (.tup [.fs [[I 0],[I 1],[I 2]],.bool true],[])
 | 0,0,_,_=>by kernel_rfl
 | 0,1,_,_=>by kernel_rfl
 | 0,2,_,_=>by kernel_rfl
 | 1,0,_,_=>by kernel_rfl
 | 1,1,_,_=>by kernel_rfl
 | 1,2,_,_=>by kernel_rfl
 | 2,0,_,_=>by kernel_rfl
 | 2,1,_,_=>by kernel_rfl
 | 2,2,_,_=>by kernel_rfl
 | k+3,_,h,_=>by omega
 | _,k+3,_,h=>by omega
theorem bAm{x:Wx}(ok:x.Ok):runW progG 44 [wA x] []=some (.tup [.fs [[I 0],[I 1],[I 2]],.bool true],[]):=by
 have h:=bEV x.c1 x.c2 x.a1 x.a2 x.b1 x.b2 x.d1 x.d2 (x.B3-1) (x.B4-2) (by have:=ok.b3;omega) (by have:=ok.b4;omega);rw[show x.B3-1+1=x.B3 by have:=ok.b3;omega,show x.B4-2+2=x.B4 by have:=ok.b4;omega]at h;exact bJ.2 ⟨60,h⟩
theorem bAn{x:Wx}(ok:x.Ok):runW progG 42 [wA x] []=some (I 0,[]):=by
 have c0:runW progG 43 [I 1,I 3,I 10] []=some (.bool true,[]):=aFc AM AM;have k0:runW progG 43 [I 0,I 0,I 2] []=some (.bool true,[]):=aFc AM AM;have k1:runW progG 43 [I 0,I 1,I 2] []=some (.bool true,[]):=aFc AM AM;have k2:runW progG 43 [I 0,I 2,I 2] []=some (.bool true,[]):=aFc AM AM;obtain⟨⟨c1,c2,c3⟩,⟨a1,a2,a3⟩,⟨b1,b2,b3⟩,⟨d1,d2,d3⟩,h3,h4⟩:=ok;have g0:=aOZ (f:=0) (t:=0) (bk:=1) c1 c2 AM AM AM;have g1:=aOZ (f:=0) (t:=1) (bk:=0) c1 c2 AM AM AM;have g2:=aOZ (f:=1) (t:=2) (bk:=0) a1 a2 AM AM AM;have g3:=aOZ (f:=2) (t:=1) (bk:=(x.B3:Int)) b1 b2 AM AM AM;have g4:=aOZ (f:=2) (t:=0) (bk:=(x.B4:Int)) d1 d2 AM AM AM;have o:=bAm (x:=x) ⟨⟨c1,c2,c3⟩,⟨a1,a2,a3⟩,⟨b1,b2,b3⟩,⟨d1,d2,d3⟩,h3,h4⟩;rw[gX 42 x42];unfold x42 aTG;dsimp only;(exact aEa @dA c0 k0 k1 k2 g0 g1 g2 g3 g4 @o aG aG)
theorem bAo(a b:Int):runW progG 14 [I a,I b] []=some (.agg [I a,I b],[]):=by
 rw[gX 14 x14];unfold x14;dsimp only;(exact yO)
theorem aVU{n:Nat}(hn:n<256):runW progG 41 [.int .u8 (n:Int)] []=some (.agg [I (n:Nat),I (n+n%7:Nat)],[]):=by
 have c:=bAo (n:Int) ((n+n%7:Nat):Int);have e1:IntKind.i64.wrap (n:Int)=(n:Int):=aE AM AM;have e2:wP (n:Int) 7=((n%7:Nat):Int):=gY n 7;have e3:IntKind.i64.wrap ((n:Int)+((n%7:Nat):Int))=((n+n%7:Nat):Int):=by rw[aE AM AM];omega
 generalize n%7=m at *;generalize n+m=v at *;rw[gX 41 x41];unfold x41;dsimp only;(exact RT4 c e1 e2 e3)
def xW(c1 c2:Int)(n0 n1 n2 n3 n4:Nat):Wx:=⟨c1,c2,(n0:Nat),(n0+n0%7:Nat),(n1:Nat),(n1+n1%7:Nat),(n3:Nat),(n3+n3%7:Nat),1+n2%3,2+n4%3⟩
theorem aXI{c1 c2:Int}{n0 n1 n2 n3 n4:Nat}(h:0≤c1∧c1≤c2∧c2≤300)(h0:n0<256)(h1:n1<256)(h3:n3<256):(xW c1 c2 n0 n1 n2 n3 n4).Ok:=by
 refine⟨h,?_,?_,?_,?_,?_⟩<;>unfold xW<;>dsimp only<;>omega
theorem bFd{c1 c2:Int}{n0 n1 n2 n3 n4 n5:Nat}(h0:n0<256)(h1:n1<256)(h2:n2<256)(h3:n3<256)(h4:n4<256):runW progG 13 [.agg [I c1,I c2],.agg [.int .u8 (n0:Int),.int .u8 (n1:Int),.int .u8 (n2:Int),.int .u8 (n3:Int),.int .u8 (n4:Int),.int .u8 (n5:Int)]] []=some (wA (xW c1 c2 n0 n1 n2 n3 n4),[]):=by
 have k0:=aVU h0;have k1:=aVU h1;have k3:=aVU h3;have e1:IntKind.i64.wrap (n2:Int)=(n2:Int):=aE AM AM;have e2:wP (n2:Int) 3=((n2%3:Nat):Int):=gY n2 3;have e3:IntKind.i64.wrap (1+((n2%3:Nat):Int))=((1+n2%3:Nat):Int):=by rw[aE AM AM];omega
 have e4:IntKind.i64.wrap (n4:Int)=(n4:Int):=aE AM AM;have e5:wP (n4:Int) 3=((n4%3:Nat):Int):=gY n4 3;have e6:IntKind.i64.wrap (2+((n4%3:Nat):Int))=((2+n4%3:Nat):Int):=by rw[aE AM AM];omega
 unfold wA rW xW;dsimp only;generalize 1+n2%3=v2 at *;generalize 2+n4%3=v4 at *;generalize n0+n0%7=u0 at *;generalize n1+n1%7=u1 at *;generalize n3+n3%7=u3 at *;rw[gX 13 x13];unfold x13;dsimp only;(exact RT9 k0 k1 k3 e1 e2 e3 e4 e5 e6)
end
end Go.Proofs.YtjckchgdlbgolaaGreatDoor
