/- Parts of a proof, joined. No statement of the seed is proved here. -/
import Derived.Test.YtmapgnepfgnphaaGreatDoorH8
set_option linter.unusedSimpArgs false
set_option linter.unusedVariables false
set_option linter.unusedSectionVars false
set_option maxRecDepth 100000
set_option maxHeartbeats 4000000
namespace Go.Proofs.YtmapgnepfgnphaaGreatDoor
open Go Go.DL
section
variable{s:CSt}{E:Nat→Int}{x:ByteArray}
def nT(s:CSt)(j:Int):Nat→Int
 | 0=>0
 | i+1=>nT s j i+match s.tickets[i]? with
   | some k=>if k.void=false∧(j<0∨((bK (fD s) k.farmer).getD 0:Nat)=j) then k.net else 0
   | none=>0
theorem aKY(gs:cN s)(j:Int):∀ i,0≤nT s j i∧nT s j i≤100000*(i:Int)
 | 0=>by simp[nT]
 | i+1=>by
   have ih:=aKY gs j i;rw[nT];split
   ·rename_i k hk
    have:=gs.bt k (B3 hk)
    grind
   ·omega
def rX(L:List ByteArray)(F:Nat→List AV)(n:Nat)(RM RP RB:List (List AV)):Option XB:=aa [.bool true,.fs (rS L),.fs (fE F n),.fs RM,.fs RP,.fs RB]
theorem vK{i:Nat}{k:yL}(h:s.tickets[i]?=some k):gL s E i=[.str k.wagon,I (E i),I k.net,I (((bK (fD s) k.farmer).getD 0:Nat):Int),.bool k.void,.bool (decide (i<s.closed))]:=by
 unfold gL;rw[h]
theorem aOX(gs:cN s){L:List ByteArray}{RM RP RB:List (List AV)}{j:Int}{i:Nat}(hi:i<s.tickets.length):cC 1 [0,1,5,6] (execW progG 105 1 none (match aCH with | .loop _ a=>a|c=>c) (bB [0,1,5,6] [.pt 0 0,I j,I (nT s j i),I (i:Nat)]) [rX L (gL s E) s.tickets.length RM RP RB]) =
 some ([.pt 0 0,I j,I (nT s j (i+1)),I (i+1:Nat)],[rX L (gL s E) s.tickets.length RM RP RB]):=by
 obtain⟨k,hk⟩:=dD (l:=s.tickets) hi;have hr:=aDi (F:=gL s E) hi;rw[vK hk]at hr;have ln:(fE (gL s E) s.tickets.length).length=s.tickets.length:=nO;have ra:=aCt (n:=s.tickets.length) (nE (s:=s) (E:=E));have t1:((i:Int)<(s.tickets.length:Int))=True:=AAa;have b:=aKY gs j i;have hl:=gs.lt;have hb:=gs.book;have hn:=gs.bt k (B3 hk);have up:=dU (i:=i) (n:=2000) AT AT;have w1:IntKind.i64.wrap (nT s j i+k.net)=nT s j i+k.net:=aF AT AT;have nu:nT s j (i+1)=nT s j i+if k.void=false∧(j<0∨(((bK (fD s) k.farmer).getD 0:Nat):Int)=j) then k.net else 0:=by rw[nT,hk]
 rw[nu];clear nu;unfold rX;generalize fE (gL s E) s.tickets.length=RT at *;generalize nT s j i=v at *;generalize (bK (fD s) k.farmer).getD 0=f at *;unfold aCH;dsimp only;cases hv:k.void with
 | true =>
   rw[hv]at hr;rw[if_neg (fun h=>by cases h.1),aD0];(exact vB hr ln t1 up)
 | false =>
   rw[hv]at hr;rcases oC (j<0)with h1|h1
   ·rw[if_pos ⟨rfl,.inl (AAl h1)⟩]
    (exact mK hr ln t1 up h1 w1 aE)
   ·rcases oC ((f:Int)=j)with h2|h2
    ·rw[if_pos ⟨rfl,.inr (AAl h2)⟩]
     (exact mK hr ln t1 up h1 h2 w1)
    ·rw[if_neg (fun h=>h.2.elim (AAm h1) (AAm h2)),aD0]
     (exact mK hr ln t1 up h1 h2 aE)
theorem a105(gs:cN s){L:List ByteArray}{RM RP RB:List (List AV)}{j:Int}:runW progG 105 [.pt 0 0,I j] [rX L (gL s E) s.tickets.length RM RP RB]=some (I (nT s j s.tickets.length),[rX L (gL s E) s.tickets.length RM RP RB]):=by
 have e0:((s.tickets.length:Int)<(s.tickets.length:Int))=False:=AAb;have ln:(fE (gL s E) s.tickets.length).length=s.tickets.length:=nO;have rd:=fun i hi=>aOX (E:=E) gs (L:=L) (RM:=RM) (RP:=RP) (RB:=RB) (j:=j) (i:=i) hi;rw[rq 105 aLQ rfl];unfold aLQ;dsimp only;unfold rX at *;sym =>
  simp[Za,Zb,Zf,Zh,Zl,Zm,Zv,Z9,ZA,ZF,ZR,ZV,Ys,Yu,YG,Xw,Xx,Wr,WB,WY,Vf,V0,V1,V2,V9,VH,VM,VN,VO,VP,VQ,VW,VX,Ub,Uc,Ut,UD,UE,UG,UH,UI,UJ,UK,UN,UO,UP,UQ,UT,UW,UY,UZ,Tb,Tc,Td,Tg,Th,Ti,Tj,Tl,T6,T9,TA,TB,TK,TL,Sr,Ss,Su,Sy,SD,SF,SG,SJ,SK,SL,SN,SS,SV,SW,Qx,ln]
  tactic =>
   unfold aCH;rw[aJ s.tickets.length (fun i=>[.pt 0 0,I j,I (nT s j i),I (i:Nat)]) (fun _=>[aa [.bool true,.fs (rS L),.fs (fE (gL s E) s.tickets.length),.fs RM,.fs RP,.fs RB]])];·(exact pY e0 ln)
   ·rfl
   ·exact rd
   ·(exact pY e0 ln)
theorem bAc(a b c:List UInt8):Lib.join [a,b,c] [32]=((a++[32])++b++[32])++c:=by simp[Lib.join]
theorem bAb(a b c d:List UInt8):Lib.join [a,b,c,d] [32]=(((a++[32])++b++[32])++c)++(32::d):=by simp[Lib.join]
theorem a106{L:List ByteArray}{k:yL}{e:Int}{f:Nat}{cl:Bool}{RT RM RP RB:List (List AV)}(hf:L[f]?=some k.farmer)(hL:L.length≤1000)(h1:k.wagon.size≤10)(h2:k.farmer.size≤10)(h3:0≤k.net∧k.net≤99999) :
 runW progG 106 [.pt 0 0,.agg [.str k.wagon,I e,I k.net,I (f:Nat),.bool k.void,.bool cl]] [aa [.bool true,.fs (rS L),.fs RT,.fs RM,.fs RP,.fs RB]]=some (.str (tkT k),[aa [.bool true,.fs (rS L),.fs RT,.fs RM,.fs RP,.fs RB]]):=by
 have c:=rdg h3.1 AT;have li:(Lib.itoa k.net).length≤6:=by
  obtain⟨n,hn⟩:=M3 h3.1;rw[hn,show Lib.itoa ((n:Nat):Int)=Lib.decDigits n by rfl];exact(a100 5 n AT AT).1
 have ra:=rO hf;have ln:=eX L;have t1:((f:Int)<(L.length:Int))=True:=AAn (by grind);obtain⟨y0,j0⟩:∃ y,k.wagon++⟨⟨[32]⟩⟩=y:=⟨_,rfl⟩;obtain⟨y1,j1⟩:∃ y,y0++k.farmer=y:=⟨_,rfl⟩;obtain⟨y2,j2⟩:∃ y,y1++⟨⟨[32]⟩⟩=y:=⟨_,rfl⟩;obtain⟨y3,j3⟩:∃ y,y2++⟨⟨Lib.itoa k.net⟩⟩=y:=⟨_,rfl⟩;obtain⟨y4,j4⟩:∃ y,y3++AAJ=y:=⟨_,rfl⟩;have z0:=AAs ByteArray.size j0;have z1:=AAs ByteArray.size j1;have z2:=AAs ByteArray.size j2;have z3:=AAs ByteArray.size j3;rw[H9]at z0 z1 z2 z3;have q1:(⟨⟨[32]⟩⟩:ByteArray).size=1:=rfl;have q2:(AAJ:ByteArray).size=5:=rfl;have q3:(⟨⟨Lib.itoa k.net⟩⟩:ByteArray).size=(Lib.itoa k.net).length:=rfl;have s0:=dR (a:=k.wagon) (b:=⟨⟨[32]⟩⟩) AT;have s1:=dR (a:=y0) (b:=k.farmer) AT;have s2:=dR (a:=y1) (b:=⟨⟨[32]⟩⟩) AT;have s3:=dR (a:=y2) (b:=⟨⟨Lib.itoa k.net⟩⟩) AT;have s4:=dR (a:=y3) (b:=AAJ) AT;rw[j0]at s0;rw[j1]at s1;rw[j2]at s2;rw[j3]at s3;rw[j4]at s4;have eb:∀ a:ByteArray,(⟨⟨a.data.toList⟩⟩:ByteArray)=a:=fun a=>rfl;have r3:y3=⟨⟨((k.wagon.data.toList++[32])++k.farmer.data.toList++[32])++Lib.itoa k.net⟩⟩:=by
  rw[←j3,←j2,←j1,←j0];rfl
 have hk:tkT k=if k.void then y4 else y3:=by
  unfold tkT tkL;cases k.void with
  | true =>
    rw[if_pos rfl,if_pos rfl,←j4,r3];show (⟨⟨Lib.join [_,_,_,_] [32]⟩⟩:ByteArray)=_;rw[bAb,rap]
  | false =>
    rw[if_neg I5,if_neg I5,r3]
    grind [bAc]
 rw[hk];clear r3 j0 j1 j2 j3 j4 hk hf;generalize (⟨⟨Lib.itoa k.net⟩⟩:ByteArray)=yi at *;generalize rS L=RL at *;rw[rq 106 aSq rfl];unfold aSq;dsimp only;cases hv:k.void with
 | true =>
   rw[if_pos rfl];(exact vA c ra ln t1 s0 s1 s2 s3 s4)
 | false =>
   rw[if_neg I5];(exact vA c ra ln t1 s0 s1 s2 s3 aE)
def EOk(s:CSt)(E:Nat→Int):Prop:=(∀ x,dO s.wagons x=(bK (s.tickets.map (·.wagon)) x).map E)∧∀ i,0≤E i∧E i≤99999
theorem aLq(y:ByteArray)(d:Int)(h:y∈fD s):(gV s.farmers y d).map (·.1)=fD s:=by
 obtain⟨j,hj⟩:=xQ h;obtain⟨p,hp⟩:=qO (l:=s.farmers) hj;rw[jO];refine aBq (y:=p) ?_
 simp_all [dO,fD]
theorem aSB{i:Nat}{k:yL}(hk:s.tickets[i]?=some k)(hf:k.farmer∈fD s):cE (nL (gL s E) i 4 (.bool true)) s.tickets.length=cE (gL (fA s (.void i)) E) s.tickets.length∧fD (fA s (.void i))=fD s:=by
 have hd:fA s (.void i)={ s with tickets:=s.tickets.set i { k with void:=true },farmers:=gV s.farmers k.farmer (-k.net) }:=by unfold fA;grind
 have hn:fD (fA s (.void i))=fD s:=by rw[hd];exact aLq _ _ hf
 refine⟨lG fun j hj=>?_,hn⟩;unfold nL;by_cases e:j=i
 ·subst e
  rw[if_pos rfl];unfold gL
  grind
 ·rw[if_neg e]
  unfold gL
  grind
def clS(s:CSt)(i:Nat):CSt:={ s with closed:=max s.closed i }
theorem aYD{i:Nat}(hi:i<s.tickets.length):cE (nL (gL (clS s i) E) i 5 (.bool true)) s.tickets.length=cE (gL (clS s (i+1)) E) s.tickets.length:=by
 refine lG fun j hj=>?_;obtain⟨k,hk⟩:=dD (l:=s.tickets) hj;have e1:(clS s i).tickets[j]?=some k:=hk;have e2:(clS s (i+1)).tickets[j]?=some k:=hk;unfold nL;by_cases e:j=i
 ·subst e
  rw[if_pos rfl,vK e1,vK e2];have:decide (j<(clS s (j+1)).closed)=true:=AAj (by show j<max s.closed (j+1);omega);rw[this];rfl
 ·rw[if_neg e,vK e1,vK e2]
  have:decide (j<(clS s i).closed)=decide (j<(clS s (i+1)).closed):=decide_eq_decide.2 (by show j<max s.closed i↔j<max s.closed (i+1);omega);rw[this];rfl
section
variable{nF nM nP nB:Nat}{CF CM CP CB:List AV}
theorem aOV(sF:Sm CF)(sM:Sm CM)(sP:Sm CP)(sB:Sm CB){i:Nat}(hi:i<s.tickets.length)(hn:s.tickets.length≤1000):cC 6 [0,3,4] (execW progG 112 6 none (match aGj with | .loop _ a=>a|c=>c) (bB [0,3,4] [.pt 0 0,.bool (decide (s.closed<i)),I (i:Nat)]) (hC nF s.tickets.length nM nP nB CF (cE (gL (clS s i) E) s.tickets.length) CM CP CB)) =
 some ([.pt 0 0,.bool (decide (s.closed<i+1)),I (i+1:Nat)],hC nF s.tickets.length nM nP nB CF (cE (gL (clS s (i+1)) E) s.tickets.length) CM CP CB):=by
 obtain⟨k,hk⟩:=dD (l:=s.tickets) hi;have e1:(clS s i).tickets[i]?=some k:=hk;have r:=nE (s:=clS s i) (E:=E);have g5:=kK r hi (j:=5) AT;rw[vK e1]at g5;have g5:(cE (gL (clS s i) E) s.tickets.length)[i*6+5]?=some (.bool (decide (i<(clS s i).closed))):=g5;rw[show decide (i<(clS s i).closed)=decide (i<s.closed) from decide_eq_decide.2 (by show i<max s.closed i↔_;omega)]at g5;have st:=aAU r hi (j:=5) AT (v:=.bool true) rfl;rw[aYD hi]at st;have ln:=fJ r s.tickets.length;have t1:=eE (n:=s.tickets.length) r;have u1:=eE (n:=s.tickets.length) (nE (s:=clS s (i+1)) (E:=E));have i1:((i:Int)<(s.tickets.length:Int))=True:=AAa;have up:=dU (i:=i) (n:=2000) AT AT;have e3:(i*6+5+1≤s.tickets.length*6)=True:=AAa;unfold hC aGj;dsimp only;generalize cE (gL (clS s (i+1)) E) s.tickets.length=C2 at *;generalize cE (gL (clS s i) E) s.tickets.length=C1 at *;by_cases h1:s.closed<i
 ·rw[AAj h1,AAj (show s.closed<i+1 by omega)]
  (exact gF i1 up e3 st ln sF sM sP sB t1 u1 aE aE)
 ·rw[AAk h1]
  by_cases h2:i<s.closed
  ·rw[AAj h2]at g5
   rw[AAk (show ¬s.closed<i+1 by omega)];(exact gF i1 up e3 g5 st ln sF sM sP sB t1 u1 aE)
  ·rw[AAk h2]at g5
   rw[AAj (show s.closed<i+1 by omega)];(exact gF i1 up e3 g5 st ln sF sM sP sB t1 u1 aE)
theorem a112(sF:Sm CF)(sM:Sm CM)(sP:Sm CP)(sB:Sm CB)(hn:s.tickets.length≤1000)(hc:s.closed≤s.tickets.length):runW progG 112 [.pt 0 0] (hC nF s.tickets.length nM nP nB CF (cE (gL s E) s.tickets.length) CM CP CB) =
 some (I (if s.closed<s.tickets.length then 0 else 4),hC nF s.tickets.length nM nP nB CF (cE (gL { s with closed:=s.tickets.length } E) s.tickets.length) CM CP CB):=by
 have rd:=fun i hi=>aOV (E:=E) (nF:=nF) (nM:=nM) (nP:=nP) (nB:=nB) sF sM sP sB (i:=i) hi hn;have z0:clS s 0=s:=by unfold clS;simp_all
 have z1:clS s s.tickets.length={ s with closed:=s.tickets.length }:=by unfold clS;grind
 have t1:=eE (n:=s.tickets.length) (nE (s:=s) (E:=E));have u1:=eE (n:=s.tickets.length) (nE (s:={ s with closed:=s.tickets.length }) (E:=E));have e0:((s.tickets.length:Int)<(s.tickets.length:Int))=False:=AAb;unfold hC at *;rw[rq 112 aSo rfl];unfold aSo;dsimp only;sym =>
  simp[Za,Zb,Zf,Zh,Zl,Zm,Zv,Z9,ZA,ZD,ZF,ZR,ZV,Yq,Ys,Yv,YG,Xw,Xx,Xy,XM,Wr,Wt,Wy,WB,WY,Vf,V0,V1,V2,V9,VA,VF,VH,VK,VM,VN,VO,VP,VQ,VW,VX,VY,Ub,Uc,Ud,Ut,UD,UE,UG,UH,UI,UJ,UK,UN,UO,UP,UQ,UT,UW,UX,UY,UZ,Tb,Tc,Td,Te,Tf,Tg,Th,Ti,Tj,Tl,Tv,Tw,T4,T6,T9,TA,TB,TC,TD,TK,TL,Sr,Ss,Su,Sy,SD,SF,SG,SI,SJ,SK,SL,SN,SO,SS,SV,SW,Qx,sF,sM,sP,sB,t1]
  tactic =>
   unfold aGj;rw[aJ s.tickets.length (fun i=>[.pt 0 0,.bool (decide (s.closed<i)),I (i:Nat)]) (fun i=>[ab [.bool true,.sl 1 0 1 nF,.sl 2 0 6 s.tickets.length,.sl 3 0 3 nM,.sl 4 0 3 nP,.sl 5 0 1 nB],aa CF,aa (cE (gL (clS s i) E) s.tickets.length),aa CM,aa CP,aa CB])]
   ·rw[z1]
    clear rd;generalize cE (gL { s with closed:=s.tickets.length } E) s.tickets.length=C2 at *;by_cases h:s.closed<s.tickets.length
    ·rw[AAj h,if_pos h]
     (exact mK e0 sF sM sP sB u1 aE)
    ·rw[AAk h,if_neg h]
     (exact mK e0 sF sM sP sB u1 aE)
   ·rw[z0,show decide (s.closed<0)=false from rfl,show ((0:Nat):Int)=0 from rfl]
    rfl
   ·exact rd
   ·rw[z1]
    clear rd;generalize cE (gL { s with closed:=s.tickets.length } E) s.tickets.length=C2 at *;(exact mK e0 sF sM sP sB u1 aE)
end
end
theorem mZ:aN .eql AAt AAu=some (.bool false):=by kernel_rfl
theorem pN:aN .eql AAt AAv=some (.bool false):=by kernel_rfl
theorem nC:aN .eql AAt AAw=some (.bool false):=by kernel_rfl
theorem nA:aN .eql AAt AAx=some (.bool false):=by kernel_rfl
theorem qV:aN .eql AAt AAy=some (.bool false):=by kernel_rfl
abbrev kL(l:List AV):Option XB:=some (.blk true (.cells true l))
abbrev kH(a b c d nF nT nM nP nB:Nat):Option XB:=some (.blk false (.cells true [.bool true,.sl a 0 1 nF,.sl b 0 6 nT,.sl c 0 3 nM,.sl d 0 3 nP,.sl 5 0 1 nB]))
def hK(k nF nT nM nP nB:Nat)(CF CT CM CP CB:List AV):XH:=match k with
 | 0=>hC nF nT nM nP nB CF CT CM CP CB
 | 1=>[kH 6 2 3 4 nF nT nM nP nB,none,kL CT,kL CM,kL CP,kL CB,kL CF]
 | 2=>[kH 1 6 3 4 nF nT nM nP nB,kL CF,none,kL CM,kL CP,kL CB,kL CT]
 | 3=>[kH 1 2 6 4 nF nT nM nP nB,kL CF,kL CT,none,kL CP,kL CB,kL CM]
 | _=>[kH 1 2 3 6 nF nT nM nP nB,kL CF,kL CT,kL CM,none,kL CB,kL CP]
theorem lt5{k:Nat}(h:k<5):k=0∨k=1∨k=2∨k=3∨k=4:=AT
abbrev Sms(CF CT CM CP CB:List AV):Prop:=Sm CF∧Sm CT∧Sm CM∧Sm CP∧Sm CB
section
variable{s:CSt}{E:Nat→Int}{x y:ByteArray}
theorem aOl{l m:List ByteArray}{F G H:Nat→List AV}{a b c:Nat}(r1:Rw F 6)(r2:Rw G 3)(r3:Rw H 3):Sms (cO l) (cE F a) (cE G b) (cE H c) (cO m):=⟨yO _,eE r1,eE r2,eE r3,yO _⟩
def shp(s:CSt)(E:Nat→Int)(k:Nat):XH:=hK k s.farmers.length s.tickets.length s.meters.length s.pans.length s.book.length (cO (fD s)) (cE (gL s E) s.tickets.length) (cE (mU s) s.meters.length) (cE (mQ s) s.pans.length) (cO s.book)
theorem sms:Sms (cO (fD s)) (cE (gL s E) s.tickets.length) (cE (mU s) s.meters.length) (cE (mQ s) s.pans.length) (cO s.book):=aOl nE uS uP
def aRF(f:Nat)(A:List AV)(ws ns:List (List AV)):Prop:=∀ ⦃nF nT nM nP nB:Nat⦄ ⦃CF CT CM CP CB:List AV⦄ (k:Nat) ⦃mF mT mM mP mB:Nat⦄ ⦃DF DT DM DP DB:List AV⦄ ⦃e:Int⦄,Sms CF CT CM CP CB→Sms DF DT DM DP DB→k<5 →
 runW progG f (.pt 0 0::A) (hC nF nT nM nP nB CF CT CM CP CB)=some (I e,hK k mF mT mM mP mB DF DT DM DP DB)→runW progG 68 [.pt 0 0,.fs ws,.fs ns] (hC nF nT nM nP nB CF CT CM CP CB)=some (I e,hK k mF mT mM mP mB DF DT DM DP DB)
theorem d68{u u1 u2:ByteArray}{i:Nat}{n a b z0 z1:Int}:aRF 111 [I (i:Nat)] [[.str AAv],[.str u]] [[I 0],[I (i:Nat)]]∧aRF 112 [] [[.str AAw]] [[I 0]]∧aRF 113 [.str x,I n] [[.str AAx],[.str x],[.str u]] [[I 0],[I z0],[I n]] ∧
 aRF 114 [.str x,I a,I b] [[.str AAy],[.str x],[.str u1],[.str u2]] [[I 0],[I z0],[I a],[I b]]∧(∀{ws ns:List (List AV)},ws=[[.str AAu],[.str x],[.str u1],[.str u2],[.str y]]→ns=[[I 0],[I z0],[I a],[I b],[I z1]]→aRF 110 [.fs ws,.fs ns] ws ns):=by
 refine⟨?_,?_,?_,?_,?_⟩
 rotate_right
 ·rintro ws ns rfl rfl
  intro nF nT nM nP nB CF CT CM CP CB k mF mT mM mP mB DF DT DM DP DB e S1 S2 hk c;rw[rq 68 x68 rfl];unfold x68;dsimp only;rcases lt5 hk with rfl|rfl|rfl|rfl|rfl;all_goals (simp only[hK,aCm]at c ⊢; (exact vB c S1 S2 jW))
 all_goals
  intro nF nT nM nP nB CF CT CM CP CB k mF mT mM mP mB DF DT DM DP DB e S1 S2 hk c;rw[rq 68 x68 rfl];unfold x68;dsimp only;rcases lt5 hk with rfl|rfl|rfl|rfl|rfl;all_goals (simp only[hK,aCm]at c ⊢; (exact fN c S1 S2 jW qL sX oV qN oW oS qM oU oT sY vV tF sZ zB aE aE))
def Does(s:CSt)(E:Nat→Int)(w:Wd)(ws ns:List (List AV)):Prop :=
 (∀ e,cR s w=some e→runW progG 68 [.pt 0 0,.fs ws,.fs ns] (shp s E 0)=some (I e,shp s E 0)) ∧
 (cR s w=none→∃ k E',k<5∧EOk (fA s w) E'∧runW progG 68 [.pt 0 0,.fs ws,.fs ns] (shp s E 0)=some (I 0,shp (fA s w) E' k))
theorem Does.no{w:Wd}{ws ns:List (List AV)}{e:Int}(h:cR s w=some e)(c:runW progG 68 [.pt 0 0,.fs ws,.fs ns] (shp s E 0)=some (I e,shp s E 0)):Does s E w ws ns:=⟨fun e' he=>by grind,fun q=>by grind⟩
theorem Does.yes{w:Wd}{ws ns:List (List AV)}(k:Nat)(E':Nat→Int)(hk:k<5)(h:cR s w=none)(eo:EOk (fA s w) E')(c:runW progG 68 [.pt 0 0,.fs ws,.fs ns] (shp s E 0)=some (I 0,shp (fA s w) E' k)):Does s E w ws ns:=⟨fun e he=>(by grind),fun _=>⟨k,E',hk,eo,c⟩⟩
theorem nW:(fD s).length=s.farmers.length:=by simp[fD]
theorem aUy(gs:cN s)(eo:EOk s E){i:Nat}{u:ByteArray}:Does s E (.void i) [[.str AAv],[.str u]] [[I 0],[I (i:Nat)]]:=by
 have hl:=gs.lt;have hb:=gs.book;have c:=a111 (nF:=s.farmers.length) (nM:=s.meters.length) (nP:=s.pans.length) (nB:=s.book.length) (yO (fD s)) (eE (n:=s.meters.length) (uS (s:=s))) (eE (n:=s.pans.length) (uP (s:=s))) (yO s.book) (nT:=s.tickets.length) AT (nE (s:=s) (E:=E)) (i:=i);have d:=(d68 (x:=u) (y:=u) (u:=u) (u1:=u) (u2:=u) (i:=i) (n:=0) (a:=0) (b:=0) (z0:=0) (z1:=0)).1;cases hk:s.tickets[i]? with
 | none=>exact .no (by unfold cR;grind) (d 0 sms sms AT (c.1 (N8.1 hk)))
 | some k =>
   have hi:=(B8.1 hk).1;have c:=c.2 _ _ _ _ _ _ hi (vK hk);have hf:k.farmer∈fD s:=(gs.bt k (B3 hk)).2.2.1;obtain⟨v1,v2⟩:=aSB (E:=E) hk hf;have hw:cR s (.void i)=if k.void then some 6 else if i<s.closed then some 23 else none:=by unfold cR;grind
   by_cases h1:k.void=true
   ·rw[if_pos h1]at c hw
    exact .no hw (d 0 sms sms AT c)
   ·rw[if_neg h1]at c hw
    by_cases h2:i<s.closed
    ·rw[if_pos h2]at hw
     rw[if_pos (AAj h2)]at c;exact .no hw (d 0 sms sms AT c)
    ·rw[if_neg h2]at hw
     rw[if_neg (fun q=>h2 (of_decide_eq_true q)),v1]at c;have hd:fA s (.void i)={ s with tickets:=s.tickets.set i { k with void:=true },farmers:=gV s.farmers k.farmer (-k.net) }:=by unfold fA;grind
     refine .yes 0 E AT hw ⟨fun z=>?_,eo.2⟩ ?_
     ·rw[hd]
      dsimp only;rw[eo.1 z];congr 2;exact(kD (by grind) rfl).symm
     ·have q1:(fA s (.void i)).farmers.length=s.farmers.length:=by grind [nW]
      have q2:(fA s (.void i)).tickets.length=s.tickets.length:=by grind
      have q3:(fA s (.void i)).meters=s.meters:=by rw[hd]
      have q4:(fA s (.void i)).pans=s.pans:=by rw[hd]
      have q5:(fA s (.void i)).book=s.book:=by rw[hd]
      have q6:mU (fA s (.void i))=mU s:=by unfold mU;rw[q3]
      have q7:mQ (fA s (.void i))=mQ s:=by unfold mQ;rw[q4]
      have r:=d 0 sms (aOl nE uS uP) AT c;unfold shp;rw[q1,q2,q3,q4,q5,q6,q7,v2];exact r
theorem aRs(gs:cN s)(eo:EOk s E):Does s E .close [[.str AAw]] [[I 0]]:=by
 have hl:=gs.lt;have hb:=gs.book;have c:=a112 (s:=s) (E:=E) (nF:=s.farmers.length) (nM:=s.meters.length) (nP:=s.pans.length) (nB:=s.book.length) (yO (fD s)) (eE (n:=s.meters.length) (uS (s:=s))) (eE (n:=s.pans.length) (uP (s:=s))) (yO s.book) AT gs.cl;have d:=(d68 (x:=ByteArray.empty) (y:=ByteArray.empty) (u:=ByteArray.empty) (u1:=ByteArray.empty) (u2:=ByteArray.empty) (i:=0) (n:=0) (a:=0) (b:=0) (z0:=0) (z1:=0)).2.1 0 sms (sms (s:={ s with closed:=s.tickets.length })) AT c;by_cases h:s.closed<s.tickets.length
 ·rw[if_pos h]at d
  exact .yes 0 E AT (if_pos h) eo d
 ·rw[if_neg h]at d
  have hs:{ s with closed:=s.tickets.length }=s:=by
   have:=gs.cl;have e:s.closed=s.tickets.length:=AT
   rw[←e]
  rw[hs]at d;exact .no (if_neg h) d
end
section
variable{s:CSt}{E:Nat→Int}{x y u1 u2:ByteArray}{z0 z1 a b n:Int}
theorem aHE{s':CSt}{E':Nat→Int}{m:Nat}(ht:∀ i,i<m→s'.tickets[i]?=s.tickets[i]?)(hE:∀ i,i<m→E' i=E i)(hc:s'.closed=s.closed)(hn:∀ k∈s.tickets,bK (fD s') k.farmer=bK (fD s) k.farmer):cE (gL s' E') m=cE (gL s E) m:=by
 refine lG fun i hi=>?_;unfold gL
 grind
theorem aGS{l:List ByteArray}{x y:ByteArray}(h:y∈l):bK (l++[x]) y=bK l y:=by
 induction l with
 | nil=>cases h
 | cons k r ih =>
   grind [bK]
theorem lU{α:Type}{l:List (ByteArray×α)}{i:Nat}(h:bK (l.map (·.1)) x=some i):∃ v,l[i]?=some (x,v)∧dO l x=some v:=by
 obtain⟨v,hv⟩:=qO h
 grind [dO]
theorem bFc{nF nT nM nP nB:Nat}{CF CT CM CP CB:List AV}{v:Int}(S:Sms CF CT CM CP CB)(hF:CF.length=nF)(hn:nF≤9)(c:runW progG 108 [.pt 0 0,.str x] (hC nF nT nM nP nB CF CT CM CP CB)=some (I v,hC nF nT nM nP nB CF CT CM CP CB)) :
 runW progG 68 [.pt 0 0,.fs [[.str AAt],[.str x]],.fs [[I 0],[I z0]]] (hC nF nT nM nP nB CF CT CM CP CB)=some (if 0≤v then (I 6,hC nF nT nM nP nB CF CT CM CP CB) else if nF=9 then (I 15,hC nF nT nM nP nB CF CT CM CP CB) else (I 0,hK 1 (nF+1) nT nM nP nB (CF++[.str x]) CT CM CP CB)):=by
 rw[rq 68 x68 rfl];unfold x68;dsimp only;simp only[hK,aCm]at c ⊢;by_cases hv:0≤v
 ·have iv:((0:Int)≤v)=True:=AAn hv
  rw[if_pos hv];(exact vA c S iv mZ pN nC nA qV aE)
 ·have iv:((0:Int)≤v)=False:=AAo hv
  rw[if_neg hv];by_cases h9:nF=9
  ·have e9:((nF:Int)=9)=True:=AAa
   rw[if_pos h9];(exact vA c S iv e9 mZ pN nC nA qV)
  ·have e9:((nF:Int)=9)=False:=AAb
   have g1:((nF+1)*16≤1099511627776)=True:=AAa;have g2:(nF+1≤1099511627776)=True:=AAa;rw[if_neg h9];(exact gF c S iv e9 g1 g2 hF mZ pN nC nA qV aE)
theorem aMZ(gs:cN s)(eo:EOk s E):Does s E (.farmer x) [[.str AAt],[.str x]] [[I 0],[I z0]]:=by
 have hl:=gs.lf;have S:=sms (s:=s) (E:=E);have c:=aVI (x:=x) (L:=fD s) (nT:=s.tickets.length) (nM:=s.meters.length) (nP:=s.pans.length) (nB:=s.book.length) (by grind [nW]) S.2.1 S.2.2.1 S.2.2.2.1 S.2.2.2.2;rw[nW]at c;have d:=bFc (z0:=z0) S (by rw[fH,nW]) hl c;have hw:cR s (.farmer x)=if (dO s.farmers x).isSome then some 6 else if s.farmers.length=9 then some 15 else none:=rfl
 cases hx:bK (fD s) x with
 | some i =>
   obtain⟨v,_,hv⟩:=lU (l:=s.farmers) hx;rw[show mW (fD s) x=(i:Int) by unfold mW;rw[hx],if_pos AT]at d;exact .no (by grind) d
 | none =>
   rw[show mW (fD s) x = -1 by unfold mW;rw[hx],if_neg AT]at d;rw[cH.2 hx,if_neg (by simp)]at hw;by_cases h9:s.farmers.length=9
   ·rw[if_pos h9]at hw d
    exact .no hw d
   ·rw[if_neg h9]at hw d
    have hn:fD (fA s (.farmer x))=fD s++[x]:=by unfold fD fA;simp
    have ht:cE (gL (fA s (.farmer x)) E) s.tickets.length=cE (gL s E) s.tickets.length:=aHE (fun _ _=>rfl) (fun _ _=>rfl) rfl fun k hk=>by rw[hn];exact aGS (gs.bt k hk).2.2.1
    refine .yes 1 E AT hw eo (d.trans ?_);show _=some (_,hK 1 (fA s (.farmer x)).farmers.length s.tickets.length s.meters.length s.pans.length s.book.length (cO (fD (fA s (.farmer x)))) (cE (gL (fA s (.farmer x)) E) s.tickets.length) _ _ _);rw[hn,ht,show (fA s (.farmer x)).farmers.length=s.farmers.length+1 by unfold fA;simp,show cO (fD s++[x])=cO (fD s)++[.str x] by simp[cO]];rfl
theorem aRr(gs:cN s)(eo:EOk s E){u:ByteArray}(hn:0≤n∧n≤99999):Does s E (.meter x n) [[.str AAx],[.str x],[.str u]] [[I 0],[I z0],[I n]]:=by
 have hb:=gs.book;have hm5:=gs.lm;have S:=sms (s:=s) (E:=E);have hl:(s.meters.map (·.1)).length=s.meters.length:=by grind
 have c:=a113 (x:=x) (nF:=s.farmers.length) (nT:=s.tickets.length) (nP:=s.pans.length) (nB:=s.book.length) S.1 S.2.1 S.2.2.2.1 S.2.2.2.2 (L:=s.meters.map (·.1)) AT (uS (s:=s)) (fun i z hz=>by
  rw[C5,B2]at hz;obtain⟨p,hp,rfl⟩:=hz;have:=gs.bm p (B3 hp);exact⟨p.2.2,p.2.1,by unfold mU;rw[hp],by omega,by omega,by omega,by omega⟩) hn
 rw[hl]at c;have d:=(d68 (x:=x) (y:=x) (u:=u) (u1:=u) (u2:=u) (i:=0) (n:=n) (a:=0) (b:=0) (z0:=z0) (z1:=0)).2.2.1;have hd:fA s (.meter x n)={ s with meters:=mV (mtr n) (n,0) x s.meters }:=rfl;have S2:=fun m=>aOl (l:=fD s) (m:=s.book) (a:=s.tickets.length) (b:=m) (c:=s.pans.length) (nE (s:=s) (E:=E)) (uS (s:=fA s (.meter x n))) (uP (s:=s));cases hx:bK (s.meters.map (·.1)) x with
 | none =>
   have hv:dO s.meters x=none:=cH.2 hx;have hw:cR s (.meter x n)=if (dO s.meters x).isNone∧s.meters.length=5 then some 15 else none:=rfl
   rw[hv]at hw;by_cases h5:s.meters.length=5;·exact .no (hw.trans (if_pos ⟨rfl,h5⟩)) (d 0 S S AT (c.1 hx h5))
   ·have c:=c.2.1 hx h5
    have hm:(fA s (.meter x n)).meters=s.meters++[(x,(n,0))]:=by grind [rW]
    have hf:cE (mU (fA s (.meter x n))) (s.meters.length+1)=cE (mU s) s.meters.length++[.str x,I 0,I n]:=by
     rw[aBA];congr 1
     ·refine lG fun i hi=>?_
      unfold mU
      grind
     ·unfold mU
      grind
    rw[←hf]at c;refine .yes 3 E AT (hw.trans (if_neg fun q=>h5 q.2)) eo ?_;have r:=d 3 S (S2 _) AT c;rw[←show (fA s (.meter x n)).meters.length=s.meters.length+1 by grind]at r;exact r
 | some i =>
   obtain⟨v,hp,hv⟩:=lU (l:=s.meters) hx;have hF:mU s i=[.str x,I v.2,I v.1]:=by unfold mU;rw[hp]
   have c:=c.2.2 i hx v.2 v.1 hF;have hi:=(B8.1 hp).1;have hm:(fA s (.meter x n)).meters=s.meters.set i (x,mtr n v):=by grind [oF]
   have hf:cE (nL (nL (mU s) i 1 (I (v.2+(n-v.1+100000)%100000))) i 2 (I n)) s.meters.length=cE (mU (fA s (.meter x n))) s.meters.length:=by
    refine lG fun j hj=>?_;unfold nL;by_cases e:j=i
    ·subst e
     rw[if_pos rfl,if_pos rfl,hF];unfold mU;rw[hm,aB7 hi];rfl
    ·rw[if_neg e,if_neg e]
     unfold mU
     grind
   rw[hf]at c;refine .yes 0 E AT (by unfold cR;grind) eo ?_;have r:=d 0 S (S2 _) AT c;unfold shp;rw[show (fA s (.meter x n)).meters.length=s.meters.length by grind];exact r
theorem aXW(gs:cN s)(eo:EOk s E)(ha:0≤a∧a≤99999)(hb:0≤b∧b≤99999):Does s E (.pan x a b) [[.str AAy],[.str x],[.str u1],[.str u2]] [[I 0],[I z0],[I a],[I b]]:=by
 have hbk:=gs.book;have hp5:=gs.lp;have S:=sms (s:=s) (E:=E);have hl:(s.pans.map (·.1)).length=s.pans.length:=by grind
 have c:=a114 (x:=x) (nF:=s.farmers.length) (nT:=s.tickets.length) (nM:=s.meters.length) (nB:=s.book.length) S.1 S.2.1 S.2.2.1 S.2.2.2.2 (L:=s.pans.map (·.1)) AT (uP (s:=s)) (fun i z hz=>by
  rw[C5,B2]at hz;obtain⟨p,hp,rfl⟩:=hz;have:=gs.bp p (B3 hp);exact⟨p.2,by unfold mQ;rw[hp],by omega,by omega⟩) ha hb
 rw[hl]at c;have d:=(d68 (x:=x) (y:=x) (u:=x) (u1:=u1) (u2:=u2) (i:=0) (n:=0) (a:=a) (b:=b) (z0:=z0) (z1:=0)).2.2.2.1;have hd:fA s (.pan x a b)={ s with pans:=gV s.pans x (a-b) }:=rfl;have S2:=fun m=>aOl (l:=fD s) (m:=s.book) (a:=s.tickets.length) (b:=s.meters.length) (c:=m) (nE (s:=s) (E:=E)) (uS (s:=s)) (uP (s:=fA s (.pan x a b)));have hw:cR s (.pan x a b)=if ¬b≤a then some 10 else if (dO s.pans x).isNone∧s.pans.length=5 then some 15 else none:=rfl
 by_cases hab:b≤a
 ·rw[if_neg fun q=>q hab]at hw
  cases hx:bK (s.pans.map (·.1)) x with
  | none =>
    have hv:dO s.pans x=none:=cH.2 hx;rw[hv]at hw;by_cases h5:s.pans.length=5;·exact .no (hw.trans (if_pos ⟨rfl,h5⟩)) (d 0 S S AT (c.2.1 hab hx h5))
    ·have c:=c.2.2.1 hab hx h5
     have hm:(fA s (.pan x a b)).pans=s.pans++[(x,a-b)]:=by grind [aBH]
     have hf:cE (mQ (fA s (.pan x a b))) (s.pans.length+1)=cE (mQ s) s.pans.length++[.str x,I (a-b),I 0]:=by
      rw[aBA];congr 1
      ·refine lG fun i hi=>?_
       unfold mQ
       grind
      ·unfold mQ
       grind
     rw[←hf]at c;refine .yes 4 E AT (hw.trans (if_neg fun q=>h5 q.2)) eo ?_;have r:=d 4 S (S2 _) AT c;rw[←show (fA s (.pan x a b)).pans.length=s.pans.length+1 by grind]at r;exact r
  | some i =>
    obtain⟨v,hp,hv⟩:=lU (l:=s.pans) hx;have hF:mQ s i=[.str x,I v,I 0]:=by unfold mQ;rw[hp]
    have c:=c.2.2.2 hab i hx v hF;rw[hv,if_neg fun q=>by cases q.1]at hw;have hi:=(B8.1 hp).1;have hm:(fA s (.pan x a b)).pans=s.pans.set i (x,v+(a-b)):=by grind [gM]
    have hf:cE (nL (mQ s) i 1 (I (v+(a-b)))) s.pans.length=cE (mQ (fA s (.pan x a b))) s.pans.length:=by
     refine lG fun j hj=>?_;unfold nL;by_cases e:j=i
     ·subst e
      rw[if_pos rfl,hF];unfold mQ
      grind
     ·rw[if_neg e]
      unfold mQ
      grind
    rw[hf]at c;refine .yes 0 E AT hw eo ?_;have r:=d 0 S (S2 _) AT c;unfold shp;rw[show (fA s (.pan x a b)).pans.length=s.pans.length by grind];exact r
 ·exact .no (hw.trans (if_pos hab)) (d 0 S S AT (c.1 hab))
theorem aNR{α:Type}{f:α→α}{z:α}{x y:ByteArray}:∀ l:List (ByteArray×α),dO (mV f z x l) y=if x=y then some ((dO l x).elim z f) else dO l y
 | []=>by
   show dO [(x,z)] y=_;unfold dO bK;by_cases h:x=y<;>simp[h,bK]
 | (k, v)::r=>by
   have ih:=aNR (f:=f) (z:=z) (x:=x) (y:=y) r;have co:∀(k w:ByteArray)(v:α)(r:List (ByteArray×α)),dO ((k,v)::r) w=if k=w then some v else dO r w:=fun k w v r=>by
    unfold dO;show (if k=w then some 0 else (bK (r.map (·.1)) w).map (· + 1)).bind _=_;by_cases hk:k=w;·grind
    ·rw[if_neg hk,if_neg hk]
     cases bK (r.map (·.1)) w<;>rfl
   grind [mV]
theorem aRq(gs:cN s)(eo:EOk s E)(ha:0≤a∧a≤99999)(hb:0≤b∧b≤99999):Does s E (.wagon x y a b) [[.str AAu],[.str x],[.str u1],[.str u2],[.str y]] [[I 0],[I z0],[I a],[I b],[I z1]]:=by
 have hbk:=gs.book;have hl:=gs.lt;have hf9:=gs.lf;obtain⟨eo1,eo2⟩:=eo;have S:=sms (s:=s) (E:=E);have tw:(s.tickets.map (·.wagon)).length=s.tickets.length:=by grind
 have c:=a110 (x:=x) (y:=y) (u1:=u1) (u2:=u2) (z0:=z0) (z1:=z1) (a:=a) (b:=b) (nM:=s.meters.length) (nP:=s.pans.length) (nB:=s.book.length) S.2.2.1 S.2.2.2.1 S.2.2.2.2 (L:=fD s) (TW:=s.tickets.map (·.wagon)) (F:=gL s E) (by grind [nW]) AT nE (fun i w hw=>by
  rw[C5,B2]at hw;obtain⟨k,hk,rfl⟩:=hw;exact⟨_,_,_,_,_,vK hk,eo2 i⟩) ha hb
 rw[tw,nW]at c;have rowT:∀ i,bK (s.tickets.map (·.wagon)) x=some i→∃(n g:Int)(v cl:Bool),gL s E i=[.str x,I (E i),I n,I g,.bool v,.bool cl]:=fun i hi=>by
  have h:=cZ hi;rw[C5,B2]at h;obtain⟨k,hk,rfl⟩:=h;exact⟨_,_,_,_,vK hk⟩
 have d:=(d68 (x:=x) (y:=y) (u:=x) (u1:=u1) (u2:=u2) (i:=0) (n:=0) (a:=a) (b:=b) (z0:=z0) (z1:=z1)).2.2.2.2 rfl rfl;have hd:fA s (.wagon x y a b)=eV s x y a b:=rfl;have hw:cR s (.wagon x y a b)=match dO s.farmers y with
  | none=>some 5
  | some _=>if ¬b≤a then some 10 else match dO s.wagons x with
    | none=>none
    | some e=>if e-500≤b∧b≤e+500 then none else some 22:=rfl
 cases hy:bK (fD s) y with
 | none =>
   rw[show dO s.farmers y=none from cH.2 hy]at hw;exact .no hw (d 0 S S AT (c.1 hy))
 | some f =>
   obtain⟨v0,hp,hv⟩:=lU (l:=s.farmers) hy;rw[hv]at hw;dsimp only at hw;by_cases hab:b≤a
   ·rw[if_neg fun q=>q hab]at hw
    have okk:cR s (.wagon x y a b)=none→(∀ e,dO s.wagons x=some e→e-500≤b∧b≤e+500)→Does s E (.wagon x y a b) [[.str AAu],[.str x],[.str u1],[.str u2],[.str y]] [[I 0],[I z0],[I a],[I b],[I z1]]:=fun hn0 hw=>by
     have c:=c.2.2.2 f hy hab fun i hi=>by
      obtain⟨n,g,v,cl,hr⟩:=rowT i hi;exact⟨E i,n,g,v,cl,hr,hw (E i) (by rw[eo1,hi];rfl)⟩
     let E':Nat→Int:=fun i=>if i<s.tickets.length then E i else b
     have hyi:y∈fD s:=B3 (cZ hy);have hn:fD (fA s (.wagon x y a b))=fD s:=aLq y (a-b) hyi;have ht:(fA s (.wagon x y a b)).tickets=s.tickets++[⟨x,y,a-b,false⟩]:=rfl;refine .yes 2 E' AT hn0 ⟨fun z=>?_,fun i=>?_⟩ ?_
     ·show dO (mV id b x s.wagons) z=(bK ((s.tickets++[(⟨x,y,a-b,false⟩:yL)]).map fun k:yL=>k.wagon) z).map E'
      rw[aNR,M4];have hE:∀ z i,bK (s.tickets.map (·.wagon)) z=some i→E' i=E i:=fun z i hi=>if_pos (by have:=(aDL hi).1;omega);show _=(bK (s.tickets.map (·.wagon)++[x]) z).map E';by_cases hz:x=z
      ·rw[if_pos hz]
       subst hz;cases hq:bK (s.tickets.map (·.wagon)) x with
       | none =>
         rw[eo1,hq,rV hq,tw];show some b=some (E' s.tickets.length)
         grind
       | some i =>
         rw[eo1,hq,aGS (B3 (cZ hq)),hq];show some (E i)=some (E' i);rw[hE x i hq]
      ·rw[if_neg hz,eo1]
       cases hq:bK (s.tickets.map (·.wagon)) z with
       | none =>
         have:bK (s.tickets.map (·.wagon)++[x]) z=none:=kC.2 fun hm=>by
          rcases C7.1 hm with h|h;·grind [kC]
          grind [List.mem_singleton]
         grind
       | some i =>
         rw[aGS (B3 (cZ hq)),hq]
         grind
     ·show 0≤(if i<s.tickets.length then E i else b)∧(if i<s.tickets.length then E i else b)≤99999
      split;·exact eo2 i
      ·exact hb
     ·have hf:cE (gL (fA s (.wagon x y a b)) E') (s.tickets.length+1)=cE (gL s E) s.tickets.length++[.str x,I b,I (a-b),I (f:Nat),.bool false,.bool false]:=by
       rw[aBA];congr 1
       ·refine aHE (fun i hi=>?_) (fun i hi=>if_pos hi) rfl fun k hk=>by rw[hn]
        grind
       ·have hk:(fA s (.wagon x y a b)).tickets[s.tickets.length]?=some ⟨x,y,a-b,false⟩:=by rw[ht,I4 (B5 _),M5];rfl
        rw[vK hk,hn,hy];have h1:E' s.tickets.length=b:=if_neg (Nat.lt_irrefl _);have h2:decide (s.tickets.length<(fA s (.wagon x y a b)).closed)=false:=AAk (by show ¬s.tickets.length<s.closed;have:=gs.cl;omega)
        grind
      have h1:(fA s (.wagon x y a b)).tickets.length=s.tickets.length+1:=by rw[ht];simp
      have h2:(fA s (.wagon x y a b)).farmers.length=s.farmers.length:=by
       have:=AAs List.length hn
       grind [nW]
      rw[←hf]at c;have r:=d 2 S (aOl (nE (s:=fA s (.wagon x y a b)) (E:=E')) uS uP) AT c;unfold shp;rw[h1,h2,hn];exact r
    cases hwg:dO s.wagons x with
    | none =>
      simp_all
    | some e0 =>
      rw[hwg]at hw;dsimp only at hw;by_cases hbd:e0-500≤b∧b≤e0+500
      ·rw[if_pos hbd]at hw
       exact okk hw fun e he=>by grind
      ·rw[if_neg hbd]at hw
       have he0:=eo1 x;rw[hwg]at he0;obtain⟨i,hi,hEi⟩:∃ i,bK (s.tickets.map (·.wagon)) x=some i∧E i=e0:=by
        cases hq:bK (s.tickets.map (·.wagon)) x with
        | none=>grind
        | some i=>grind
       obtain⟨n,g,v,cl,hr⟩:=rowT i hi;rw[hEi]at hr;exact .no hw (d 0 S S AT (c.2.2.1 f hy hab i hi e0 n g v cl hr hbd))
   ·rw[if_pos hab]at hw
    exact .no hw (d 0 S S AT (c.2.1 f hy hab))
end
section
variable{q:Int}{W:List Int}
def sT(W:List Int)(m:Nat):Nat→Int
 | 0=>0
 | i+1=>sT W m i+if m.testBit i then W.getD i 0 else 0
theorem aLm(W:List Int)(m:Nat):∀ n,((List.range n).filter (m.testBit ·)).foldl (wS W) 0=sT W m n
 | 0=>rfl
 | n+1=>by
   rw[aB1,List.filter_append,List.foldl_append,aLm W m n,sT];by_cases h:m.testBit n=true;·simp[h,wS]
   ·simp[h]
theorem aVj(W:List Int)(m:Nat):∀ d,sT W m (W.length+d)=sT W m W.length
 | 0=>rfl
 | d+1=>by
   rw[←aE7,sT,aVj W m d,C9,List.getElem?_eq_none AT];simp
theorem aWq(hl:W.length≤9)(m:Nat):sT W m W.length=wgt W m:=by
 have h:=aVj W m (10-W.length);rw[show W.length+(10-W.length)=10 by omega,←aLm W m 10]at h;exact h.symm
theorem aVk(hW:∀ v∈W,0≤v∧v≤1000000)(m:Nat):∀ i,0≤sT W m i∧sT W m i≤1000000*(i:Int)
 | 0=>by simp[sT]
 | i+1=>by
   have ih:=aVk hW m i;have h0:0≤W.getD i 0∧W.getD i 0≤1000000:=by
    rw[C9];cases h:W[i]? with
    | none=>simp
    | some v=>exact hW v (B3 h)
   grind [sT]
theorem a188(n lo hi:Int):runW progG 188 [I n,I lo,I hi] []=some (.bool (decide (lo≤n)&&decide (n≤hi)),[]):=by
 rw[rq 188 aSb rfl];unfold aSb;dsimp only;rcases oC (lo≤n)with h1|h1
 ·have d1:decide (lo≤n)=true:=by simp[h1]
  rw[d1,M7];(exact cK h1)
 ·have d1:decide (lo≤n)=false:=by simp[h1]
  rw[d1,aB8];(exact cK h1)
theorem a163:runW progG 163 [chA q W] []=some (I W.length,[]):=by
 have ln:=qG W;rw[rq 163 aSh rfl];unfold aSh chA;dsimp only;(exact cK ln)
theorem aOT(hW:∀ v∈W,0≤v∧v≤1000000)(hl:W.length≤9){m:Nat}(hm:m<1024){i:Nat}(hi:i<W.length):cC 0 [1,2,5,6] (execW progG 214 0 none (match aGh with | .loop _ a=>a|c=>c) (bB [1,2,5,6] [I (m:Nat),.pt 0 0,I (sT W m i),I (i:Nat)]) [aa [I q,.fs (wr W)]]) =
 some ([I (m:Nat),.pt 0 0,I (sT W m (i+1)),I (i+1:Nat)],[aa [I q,.fs (wr W)]]):=by
 obtain⟨v,hv⟩:=dD (l:=W) hi;have hr:=aFj hv;have ln:=qG W;have t1:((i:Int)<(W.length:Int))=True:=AAa;have up:=dU (i:=i) (n:=2000) AT AT;have b:=aVk hW m i;have bv:=hW v (B3 hv);have w1:IntKind.i64.wrap (sT W m i+v)=sT W m i+v:=aF AT AT;have be:=aRd yX (a:=m) (i:=i) AT AT;have sh:((i:Int)<0)=False:=AAb;rw[show sT W m (i+1)=sT W m i+if m.testBit i then W.getD i 0 else 0 from rfl,show W.getD i 0=v by grind];generalize sT W m i=u at *;unfold aGh;dsimp only;cases hb:m.testBit i with
 | true =>
   rw[hb,eq_self]at be;rw[if_pos rfl];(exact mK hr ln t1 up w1 be sh)
 | false =>
   rw[hb]at be;have be:=be.trans (AAo I5);rw[if_neg I5,aD0];(exact mK hr ln t1 up be sh aE)
theorem a214(hW:∀ v∈W,0≤v∧v≤1000000)(hl:W.length≤9){m:Nat}(hm:m<1024):runW progG 214 [.agg [I q,.fs (wr W)],I (m:Nat)] []=some (I (wgt W m),[]):=by
 have e0:((W.length:Int)<(W.length:Int))=False:=AAb;have ln:=qG W;have rd:=fun i hi=>aOT (q:=q) hW hl hm (i:=i) hi;rw[←aWq hl m];rw[rq 214 aRQ rfl];unfold aRQ;dsimp only;sym =>
  simp[Za,Zb,Zf,Zh,Zl,Zm,Zo,Zv,Zz,ZA,ZF,ZR,ZV,Ys,Yu,YG,Xx,We,Wh,Wi,Wr,WB,WY,Vb,Vd,Vp,V0,V1,V2,V8,V9,VH,VM,VO,VP,VQ,Ut,UD,UE,UG,UH,UI,UJ,UK,UN,UO,UP,UQ,US,UT,UW,UY,UZ,Tb,Td,Tf,Tg,Ti,Tl,Ts,T6,TA,TB,TE,TF,TK,TL,TV,TX,Sr,Ss,Su,Sy,S6,SD,SF,SG,SJ,SK,SL,SN,SS,SV,SW,Qx,ln]
  tactic =>
   unfold aGh;rw[aJ W.length (fun i=>[I (m:Nat),.pt 0 0,I (sT W m i),I (i:Nat)]) (fun _=>[aa [I q,.fs (wr W)]])];·(exact pY e0 ln)
   ·rfl
   ·exact rd
   ·(exact pY e0 ln)
theorem a208(hW:∀ v∈W,0≤v∧v≤1000000)(hl:W.length≤9){m:Nat}(hm:m<1024):runW progG 208 [chA q W,I (m:Nat),I (-1)] []=some (.bool (sR q W m),[]):=by
 have c:=a214 (q:=q) hW hl hm;rw[rq 208 aRU rfl];unfold aRU chA sR;dsimp only;rcases oC (q≤wgt W m)with h1|h1
 ·have d1:decide (q≤wgt W m)=true:=by simp[h1]
  have d2:(wgt W m<q)=False:=AAo (by grind);rw[d1];sym =>
   simp[Za,Zb,Ze,Zf,Zg,Zh,Zk,Zl,Zm,Zo,Zp,Zq,Zv,Zy,Zz,ZA,ZF,ZH,ZR,ZV,ZW,ZX,ZY,Yb,Yi,Yj,Ym,Yn,Yo,Ys,Yt,Yu,Yz,Y4,Y6,YF,YG,YO,YQ,YR,YU,Xx,Xy,XI,XL,XN,Wh,Wi,Wr,Wt,Wv,Wx,Wz,WB,WC,WY,WZ,Vb,Vd,Vp,V0,V1,V2,V4,V5,V6,V7,V8,V9,VA,VE,VF,VH,VJ,VK,VL,VM,VN,VO,VP,VQ,VR,VS,VT,VW,VX,Uc,Uf,Ug,Uh,Uj,Uk,Ul,Um,Ut,Uv,Uw,Ux,UD,UE,UG,UH,UI,UJ,UK,UN,UO,UP,UQ,US,UT,UU,UV,UW,UX,UY,UZ,Ta,Tb,Tc,Td,Tf,Tg,Ti,Tj,Tl,Tp,Ts,Tw,Tx,Ty,Tz,T4,T5,T6,T7,T8,T9,TA,TB,TC,TD,TE,TF,TK,TL,TV,TX,Ss,Su,Sv,Sw,Sx,Sy,S6,SD,SF,SG,SI,SJ,SK,SL,SN,SO,SP,SQ,SS,SU,SV,SW,RC,Qx,QS,QU,QW,QX,QY,QZ,Pu,Pv,Pw,Px,Py]
   tactic =>
    unfold aIX;rw[aJ 1 (fun i=>[I (m:Nat),I (-1),.pt 0 0,I (i:Nat)]) (fun _=>[aa [.fs [[I q,.fs (wr W)]]]])];·(exact yC)
    ·rfl
    ·intro i hi
     obtain rfl:i=0:=AT
     (exact pY c d2)
    ·(exact yC)
 ·have d1:decide (q≤wgt W m)=false:=by simp[h1]
  have d2:(wgt W m<q)=True:=AAn (by grind);rw[d1];sym =>
   simp[Za,Zb,Ze,Zf,Zg,Zh,Zk,Zl,Zm,Zo,Zp,Zq,Zv,Zy,Zz,ZA,ZF,ZH,ZR,ZV,ZW,ZX,ZY,Yb,Yi,Yj,Ym,Yn,Yo,Ys,Yt,Yu,Yz,Y4,Y6,YF,YG,YO,YQ,YR,YU,Xx,Xy,XI,XL,XN,Wh,Wi,Wr,Wt,Wv,Wx,Wz,WB,WC,WY,WZ,Vb,Vd,Vp,V0,V1,V2,V4,V5,V6,V7,V8,V9,VA,VE,VF,VH,VJ,VK,VL,VM,VN,VO,VP,VQ,VR,VS,VT,VW,VX,Uc,Uf,Ug,Uh,Uj,Uk,Ul,Um,Ut,Uv,Uw,Ux,UD,UE,UG,UH,UI,UJ,UK,UN,UO,UP,UQ,US,UT,UU,UV,UW,UX,UY,UZ,Ta,Tb,Tc,Td,Tf,Tg,Ti,Tj,Tl,Tp,Ts,Tw,Tx,Ty,Tz,T4,T5,T6,T7,T8,T9,TA,TB,TC,TD,TE,TF,TK,TL,TV,TX,Ss,Su,Sv,Sw,Sx,Sy,S6,SD,SF,SG,SI,SJ,SK,SL,SN,SO,SP,SQ,SS,SU,SV,SW,RC,Qx,QS,QU,QW,QX,QY,QZ,Pu,Pv,Pw,Px,Py]
   tactic =>
    unfold aIX;rw[aJ 0 (fun i=>[I (m:Nat),I (-1),.pt 0 0,I (i:Nat)]) (fun _=>[aa [.fs [[I q,.fs (wr W)]]]])];·(exact pY c d2)
    ·rfl
    ·omega
    ·(exact pY c d2)
theorem a189(hW:∀ v∈W,0≤v∧v≤1000000)(hl:W.length≤9){m:Nat}(hm:m<1024):runW progG 189 [chA q W,I (m:Nat)] []=some (.bool (sR q W m),[]):=by
 have c:=a208 (q:=q) hW hl hm;unfold chA at *;rw[rq 189 aSa rfl];unfold aSa;dsimp only;(exact cK c)
theorem a164(hW:∀ v∈W,0≤v∧v≤1000000)(hl:W.length≤9){i m:Nat}(hi:i<9)(hm:m<512):runW progG 164 [chA q W,I (i:Nat),I (m:Nat)] []=some (.bool (swB q W i m),[]):=by
 have c1:=a189 (q:=q) hW hl (m:=m) AT;have c2:=a189 (q:=q) hW hl (m:=m|||2^i) (aVy (n:=10) AT AT);have be:=aRd yX (a:=m) (i:=i) AT AT;have ba:=aRe yX (a:=m) (i:=i) AT AT;have p2:2^i≤2^9:=F9 AT AT;have bo:=aLD yX (a:=m) (b:=2^i) AT AT;have s1:=aOy yX (i:=i) AT;have s2:=sU yX (i:=i) AT;have sh:((i:Int)<0)=False:=AAb;unfold chA at *;rw[rq 164 aSg rfl];unfold aSg swB;dsimp only;cases hb:m.testBit i with
 | true =>
   rw[hb,if_pos rfl]at ba;rw[aC0,aB8];(exact pY ba sh)
 | false =>
   rw[hb,if_neg I5]at ba;rw[I9,M7];cases h1:sR q W m with
   | true =>
     rw[h1]at c1;rw[aC0,aB8];(exact yK ba sh c1)
   | false =>
     rw[h1]at c1;rw[I9,M7];generalize sR q W (m|||2^i)=b at *;generalize m|||2^i=mo at *;generalize 2^i=pw at *;(exact mK ba sh c1 c2 bo s1 s2)
theorem a162(hq:1≤q∧q≤10000000)(hW:∀ v∈W,0≤v∧v≤1000000)(h1:1≤W.length)(hl:W.length≤9):runW progG 162 [chA q W] []=some (I 0,[]):=by
 have ln:=qG W;have c1:=a163 (q:=q) (W:=W);have c2:=a188 q 1 10000000;rw[show (decide (1≤q)&&decide (q≤10000000))=true by grind]at c2;have t1:((W.length:Int)=0)=False:=AAb;have t2:((9:Int)<(W.length:Int))=False:=AAb;have e0:((W.length:Int)<(W.length:Int))=False:=AAb;unfold chA at *;rw[rq 162 aSi rfl];unfold aSi;dsimp only;sym =>
  simp[Za,Zb,Zc,Ze,Zf,Zg,Zh,Zj,Zk,Zl,Zm,Zo,Zv,Zw,Zz,ZA,ZD,ZF,ZH,ZR,ZV,ZW,ZY,ZZ,Ya,Yb,Ye,Yh,Yi,Yj,Ym,Yn,Yq,Ys,Yu,Yz,Y4,Y6,YE,YF,YG,YJ,YL,YM,YO,YQ,YR,YU,Xx,XI,XL,XN,We,Wh,Wi,Wm,Wr,Wt,Wv,Wx,Wz,WB,WY,Vb,Vd,Vp,V0,V1,V2,V3,V4,V5,V6,V7,V8,V9,VA,VB,VE,VF,VH,VJ,VK,VL,VM,VN,VO,VP,VQ,VR,VS,VT,VW,VX,Uc,Uf,Ug,Uh,Uj,Uk,Ul,Um,Ut,Uv,Uw,Uy,Uz,U6,UD,UE,UG,UH,UI,UJ,UK,UN,UO,UP,UQ,US,UT,UU,UV,UW,UX,UY,UZ,Tb,Tc,Td,Te,Tf,Tg,Ti,Tj,Tl,Tp,Ts,Tv,Tw,Tx,Ty,Tz,T4,T5,T6,T7,T8,T9,TA,TB,TC,TD,TE,TF,TK,TL,TM,TV,TX,Sr,Ss,Su,Sv,Sw,Sx,Sy,Sz,S3,S6,SD,SF,SG,SI,SJ,SK,SL,SN,SP,SS,SU,SV,SW,RC,Qx,QS,QU,QV,QX,QY,QZ,Pu,Pv,Pw,Px,Py,c1,t1,t2]
  tactic =>
   unfold aNz;rw[aJ 1 (fun i=>[.pt 0 0,I (i:Nat)]) (fun _=>[aa [.fs [[I q,.fs (wr W)]]]])];·(exact yC)
   ·rfl
   ·intro i hi
    obtain rfl:i=0:=AT
    sym =>
     simp[Za,Zb,Zc,Ze,Zf,Zg,Zh,Zj,Zk,Zl,Zm,Zo,Zv,Zw,Zz,ZA,ZD,ZF,ZH,ZR,ZV,ZW,ZY,ZZ,Ya,Yb,Ye,Yh,Yi,Yj,Ym,Yn,Yq,Ys,Yu,Yz,Y4,Y6,YE,YF,YG,YJ,YL,YM,YO,YQ,YR,YU,Xx,XI,XL,XN,We,Wh,Wi,Wm,Wr,Wt,Wv,Wx,Wz,WB,WY,Vb,Vd,Vp,V0,V1,V2,V3,V4,V5,V6,V7,V8,V9,VA,VB,VE,VF,VH,VJ,VK,VL,VM,VN,VO,VP,VQ,VR,VS,VT,VW,VX,Uc,Uf,Ug,Uh,Uj,Uk,Ul,Um,Ut,Uv,Uw,Uy,Uz,U6,UD,UE,UG,UH,UI,UJ,UK,UN,UO,UP,UQ,US,UT,UU,UV,UW,UX,UY,UZ,Tb,Tc,Td,Te,Tf,Tg,Ti,Tj,Tl,Tp,Ts,Tv,Tw,Tx,Ty,Tz,T4,T5,T6,T7,T8,T9,TA,TB,TC,TD,TE,TF,TK,TL,TM,TV,TX,Sr,Ss,Su,Sv,Sw,Sx,Sy,Sz,S3,S6,SD,SF,SG,SI,SJ,SK,SL,SN,SP,SS,SU,SV,SW,RC,Qx,QS,QU,QV,QX,QY,QZ,Pu,Pv,Pw,Px,Py,c1,c2,ln]
     tactic =>
      unfold aIY;rw[aJ W.length (fun i=>[.pt 0 0,I 0,.pt 1 0,I (i:Nat)]) (fun _=>[aa [.fs [[I q,.fs (wr W)]]],aa [I q,.fs (wr W)]])];·(exact pY e0 ln)
      ·rfl
      ·intro i hi
       obtain⟨v,hv⟩:=dD (l:=W) hi;have hr:=aFj hv;have bv:=hW v (B3 hv);have i1:((i:Int)<(W.length:Int))=True:=AAa;have up:=dU (i:=i) (n:=2000) AT AT;have c3:=a188 v 0 1000000;rw[show (decide (0≤v)&&decide (v≤1000000))=true by grind]at c3;(exact uJ i1 hr ln up c3)
      ·(exact pY e0 ln)
   ·(exact yC)
def oSl(i:Nat):AV:=if i=0 then .nilsl else .sl 3 0 1 i
def oHp(q:Int)(W:List Int)(i:Nat):XH:=if i=0 then [none,none,aa [.fs [[I q,.fs (wr W)]]]] else [none,none,aa [.fs [[I q,.fs (wr W)]]],aa ((vD q W i).map I)]
theorem aFt(hW:∀ v∈W,0≤v∧v≤1000000)(hl:W.length≤9){i:Nat}(hi:i<W.length){m:Nat}(hm:m<2^W.length):cC 2 [1,5,6,7,8] (execW progG 139 2 none (match aBe with | .loop _ a=>a|c=>c) (bB [1,5,6,7,8] [.pt 2 0,oSl i,I (i:Nat),I (swT q W i m:Nat),I (m:Nat)]) (oHp q W i)) =
 some ([.pt 2 0,oSl i,I (i:Nat),I (swT q W i (m+1):Nat),I (m+1:Nat)],oHp q W i):=by
 have p2:2^W.length≤2^9:=F9 AT hl;have c1:=a163 (q:=q) (W:=W);have c2:=a164 (q:=q) hW hl (i:=i) (m:=m) AT AT;have s1:=aOy yX (i:=W.length) AT;have s2:=sU yX (i:=W.length) AT;have i1:((m:Int)<((2^W.length:Nat):Int))=True:=AAa;have sh:((W.length:Int)<0)=False:=AAb;have up:=dU (i:=m) (n:=2000) AT AT;have le:=aJh q W i m;have up2:IntKind.i64.wrap ((swT q W i m:Int)+1)=(swT q W i m:Int)+1:=aF AT AT;rw[aJg];generalize 2^W.length=N at *;generalize swT q W i m=v at *;unfold chA at *;generalize hw:wr W=R at *;generalize swB q W i m=b at *;unfold aBe oHp;dsimp only;by_cases h0:i=0
 ·subst h0
  have e:oSl 0 = .nilsl:=rfl;have z:((0:Nat):Int)=0:=rfl;rw[e,if_pos rfl,hw,z];rw[z]at c2;cases b with
  | true=>(exact vA c1 c2 s1 s2 i1 sh up up2 aE)
  | false=>(exact mK c1 c2 s1 s2 i1 sh up)
 ·have e:oSl i = .sl 3 0 1 i:=if_neg h0
  rw[e,if_neg h0,hw];generalize vD q W i=Z at *;cases b with
  | true=>(exact vA c1 c2 s1 s2 i1 sh up up2 aE)
  | false=>(exact mK c1 c2 s1 s2 i1 sh up)
theorem aOU(hW:∀ v∈W,0≤v∧v≤1000000)(hl:W.length≤9){i:Nat}(hi:i<W.length):cC 2 [1,5,6] (execW progG 139 2 none (match aGi with | .loop _ a=>a|c=>c) (bB [1,5,6] [.pt 2 0,oSl i,I (i:Nat)]) (oHp q W i)) =
 some ([.pt 2 0,oSl (i+1),I (i+1:Nat)],oHp q W (i+1)):=by
 have p2:2^W.length≤2^9:=F9 AT hl;have c1:=a163 (q:=q) (W:=W);have s1:=aOy yX (i:=W.length) AT;have s2:=sU yX (i:=W.length) AT;have sh:((W.length:Int)<0)=False:=AAb;have i1:((i:Int)<(W.length:Int))=True:=AAa;have e0:(((2^W.length:Nat):Int)<((2^W.length:Nat):Int))=False:=AAb;have up:=dU (i:=i) (n:=2000) AT AT;have w0:swT q W i 0=0:=rfl;have u1:oSl (i+1) = .sl 3 0 1 (i+1):=if_neg AT;have u2:oHp q W (i+1)=[none,none,aa [.fs [[I q,.fs (wr W)]]],aa ((vD q W i).map I++[I (swg q W i)])]:=by
  unfold oHp;rw[if_neg AT,aOc,M4];rfl
 have b1:((i+1)*8≤1099511627776)=True:=AAa;have b2:(i+1≤1099511627776)=True:=AAa;have lz:=xH q W i;have sg:((swT q W i (2^W.length):Nat):Int)=swg q W i:=rfl;rw[u1,u2];unfold chA at *;unfold aGi;dsimp only;by_cases h0:i=0
 ·subst h0
  have e:oSl 0 = .nilsl:=rfl;have e2:oHp q W 0=[none,none,aa [.fs [[I q,.fs (wr W)]]]]:=rfl;have z:((0:Nat):Int)=0:=rfl;have z1:(vD q W 0).map I=[]:=rfl;have i1:((0:Int)<(W.length:Int))=True:=i1;have rd:=fun m (hm:m<2^W.length)=>by
   have h:=aFt (q:=q) hW hl hi hm;rw[e,e2,z]at h;exact h
  rw[e,e2,z,z1];sym =>
   simp[Za,Zb,Zd,Ze,Zf,Zg,Zh,Zj,Zl,Zm,Zo,Zv,Z8,ZA,ZV,Ye,Yh,Yl,Ym,Yn,Y6,YC,YG,YM,YO,YU,Xx,XI,XL,XM,XN,We,Wr,Wv,Wx,Wy,Wz,Vm,V0,V1,V2,V3,V4,V5,V6,V7,VA,VB,VE,VF,VH,VJ,VK,VL,VM,VN,VO,VP,VQ,VR,VS,VT,VV,VW,VX,Ua,Uc,Uf,Ug,Uh,Ut,Uv,Uw,Uy,Uz,U6,UT,UU,UV,UW,UX,UY,UZ,Tc,Td,Te,Tf,Tg,Th,Ti,Tj,Tl,Tm,Tp,Ts,Tz,T4,T5,T6,T7,T8,T9,TA,TB,TC,TD,TE,TF,TM,TN,TO,TP,TY,TZ,Sa,Sc,Sj,Sk,Sl,Sn,Sp,Sq,Sr,Ss,Su,Sx,S6,S7,S8,S9,SC,SD,SF,SI,SJ,SK,SL,SN,SP,SS,SU,SV,SW,Rz,RR,QS,QU,QV,QX,QY,QZ,Pu,Pv,Pw,Px,c1,s1,s2,sh,i1]
   tactic =>
    unfold aBe;rw[aJ (2^W.length) (fun m=>[.pt 2 0,.nilsl,I 0,I (swT q W 0 m:Nat),I (m:Nat)]) (fun _=>[none,none,aa [.fs [[I q,.fs (wr W)]]]])]
    ·clear rd
     generalize 2^W.length=N at *;generalize swg q W 0=g at *;(exact mK c1 s1 s2 sh e0 sg aE)
    ·rfl
    ·exact rd
    ·clear rd
     generalize 2^W.length=N at *;(exact uJ c1 s1 s2 sh e0)
 ·have e:oSl i = .sl 3 0 1 i:=if_neg h0
  have e2:oHp q W i=[none,none,aa [.fs [[I q,.fs (wr W)]]],aa ((vD q W i).map I)]:=if_neg h0;have rd:=fun m (hm:m<2^W.length)=>by
   have h:=aFt (q:=q) hW hl hi hm;rw[e,e2]at h;exact h
  rw[e,e2];sym =>
   simp[Za,Zb,Zd,Ze,Zf,Zg,Zh,Zj,Zl,Zm,Zo,Zv,Z8,ZA,ZV,Ye,Yh,Yl,Ym,Yn,Y6,YC,YG,YM,YO,YU,Xx,XI,XL,XM,XN,We,Wr,Wv,Wx,Wy,Wz,Vm,V0,V1,V2,V3,V4,V5,V6,V7,VA,VB,VE,VF,VH,VJ,VK,VL,VM,VN,VO,VP,VQ,VR,VS,VT,VV,VW,VX,Ua,Uc,Uf,Ug,Uh,Ut,Uv,Uw,Uy,Uz,U6,UT,UU,UV,UW,UX,UY,UZ,Tc,Td,Te,Tf,Tg,Th,Ti,Tj,Tl,Tm,Tp,Ts,Tz,T4,T5,T6,T7,T8,T9,TA,TB,TC,TD,TE,TF,TM,TN,TO,TP,TY,TZ,Sa,Sc,Sj,Sk,Sl,Sn,Sp,Sq,Sr,Ss,Su,Sx,S6,S7,S8,S9,SC,SD,SF,SI,SJ,SK,SL,SN,SP,SS,SU,SV,SW,Rz,RR,QS,QU,QV,QX,QY,QZ,Pu,Pv,Pw,Px,c1,s1,s2,sh,i1]
   tactic =>
    unfold aBe;rw[aJ (2^W.length) (fun m=>[.pt 2 0,.sl 3 0 1 i,I (i:Nat),I (swT q W i m:Nat),I (m:Nat)]) (fun _=>[none,none,aa [.fs [[I q,.fs (wr W)]]],aa ((vD q W i).map I)])]
    ·clear rd
     generalize 2^W.length=N at *;generalize swg q W i=g at *;generalize vD q W i=Z at *;(exact jE c1 s1 s2 sh e0 sg up b1 b2 lz)
    ·rfl
    ·exact rd
    ·clear rd
     generalize 2^W.length=N at *;(exact uJ c1 s1 s2 sh e0)
theorem a139(hq:1≤q∧q≤10000000)(hW:∀ v∈W,0≤v∧v≤1000000)(h1:1≤W.length)(hl:W.length≤9):runW progG 139 [.agg [.sl 0 0 2 1]] [ab [I q,.sl 1 0 1 W.length],aa (W.map I)]=some (.tup [.fs (wr (vD q W W.length)),I 0],[none,none]):=by
 have chw:(W.map fun v=>[AV.int .i64 v])=wr W:=rfl;have c1:=a162 hq hW h1 hl;have c2:=a163 (q:=q) (W:=W);have e0:((W.length:Int)<(W.length:Int))=False:=AAb;have rd:=fun i (hi:i<W.length)=>aOU (q:=q) hW hl hi;have ch:=aOd q W W.length;have lz:=xH q W W.length;unfold chA at *;rw[rq 139 aSl rfl];unfold aSl;dsimp only;sym =>
  simp[Za,Zb,Zf,Zg,Zh,Zj,Zl,Zm,Zo,Zv,Zz,ZA,ZV,Ye,Yh,Ym,Yn,YF,YG,Xx,XI,XJ,XL,We,Wh,Wi,Wj,Wr,Wv,Ww,Wx,WB,WG,WI,WP,WT,WV,WW,WY,Vb,Vc,Vd,Ve,Vp,V0,V1,V2,V3,V4,V5,V6,V7,V8,VH,VL,VM,VN,VO,VP,VQ,VS,VT,VV,Ua,Uf,Ug,Uh,Uo,Ur,Us,Ut,Uu,Uv,Uw,Uy,Uz,U0,U6,U7,U8,U9,UA,UD,UE,UG,UH,UI,UJ,UM,UN,UO,UP,UQ,US,UT,UW,UY,UZ,Tb,Tc,Td,Te,Tf,Tg,Th,Ti,Tj,Tl,Tm,Ts,Tv,Tz,T2,T5,T6,T9,TA,TB,TC,TD,TE,TF,TG,TH,TI,TJ,TK,TL,TV,TX,Sr,Ss,Su,Sx,S6,SD,SF,SG,SI,SJ,SK,SL,SN,SS,SV,SW,Rz,R0,RG,RJ,RY,RZ,Qx,Qy,Qz,Q0,QA,QS,QU,QV,QX,QY,QZ,Pu,Pv,Pw,Px,c1,chw]
  tactic =>
   unfold aGi;rw[aJ W.length (fun i=>[.pt 2 0,oSl i,I (i:Nat)]) (fun i=>oHp q W i)]
   ·have e:oSl W.length = .sl 3 0 1 W.length:=if_neg AT
    have e2:oHp q W W.length=[none,none,aa [.fs [[I q,.fs (wr W)]]],aa ((vD q W W.length).map I)]:=if_neg AT;have l0:(W.length≤(vD q W W.length).length)=True:=AAa;rw[e,e2];clear rd;(exact uJ c2 e0 ch lz l0)
   ·rfl
   ·exact rd
   ·have e:oSl W.length = .sl 3 0 1 W.length:=if_neg AT
    have e2:oHp q W W.length=[none,none,aa [.fs [[I q,.fs (wr W)]]],aa ((vD q W W.length).map I)]:=if_neg AT;rw[e,e2];(exact pY c2 e0)
end
section
variable{s:CSt}{E:Nat→Int}{x:ByteArray}
theorem aKX(gs:cN s){j:Nat}{p:ByteArray×Int}(hp:s.farmers[j]?=some p):∀ i,i≤s.tickets.length→nT s (j:Int) i=nN (s.tickets.take i) p.1
 | 0,_=>rfl
 | i+1,hi=>by
   obtain⟨k,hk⟩:=dD (l:=s.tickets) (i:=i) AT;have hn:=gs.bt k (B3 hk);obtain⟨m,hm⟩:=xQ hn.2.2.1;have hj:(fD s)[j]?=some p.1:=by unfold fD;grind
   have e:(((bK (fD s) k.farmer).getD 0:Nat):Int)=(j:Int)↔k.farmer=p.1:=by
    have hm:bK (fD s) k.farmer=some m:=hm;rw[hm,G3];constructor
    ·intro h
     have:m=j:=AT
     subst this;have:=cZ hm
     grind
    ·intro h
     have hq:bK (fD s) p.1=some j:=aBp gs.nf hj
     grind
   have nu:nT s (j:Int) (i+1)=nT s j i+if k.void=false∧((j:Int)<0∨(((bK (fD s) k.farmer).getD 0:Nat):Int)=j) then k.net else 0:=by rw[nT,hk]
   rw[nu,aKX gs hp i AT,D6,hk];show _=nN (s.tickets.take i++[k]) p.1;rw[aHC]
   grind
theorem aPN(gs:cN s){j:Nat}{p:ByteArray×Int}(hp:s.farmers[j]?=some p):nT s (j:Int) s.tickets.length=p.2:=by
 rw[aKX gs hp _ (B5 _),C4 (B5 _),←gs.fs p (B3 hp)]
theorem aNY{l:List (ByteArray×Int)}(nd:(l.map (·.1)).Nodup):∀{tk:List yL},(∀ k∈tk,k.farmer∈l.map (·.1))→(l.map fun p=>nN tk p.1).sum=(tk.map fun k=>if k.void=false then k.net else 0).sum:=by
 have one:∀{l:List (ByteArray×Int)},(l.map (·.1)).Nodup→∀{y:ByteArray}{v:Int},(y∈l.map (·.1)→(l.map fun p=>if y=p.1 then v else 0).sum=v)∧(y∉l.map (·.1)→(l.map fun p=>if y=p.1 then v else 0).sum=0):=by
  intro l;induction l with
  | nil=>grind
  | cons p l ih =>
    intro nd y v;rw[E5,J5]at nd;simp only[E5,aB9,C3];by_cases h:y=p.1;·simp_all
    ·rw[if_neg h]
     exact⟨fun q=>by rw[(ih nd.2).1 (q.resolve_left h)];omega,fun q=>by simp_all⟩
 intro tk;induction tk with
 | nil =>
   intro _;have:∀ l:List (ByteArray×Int),(l.map fun p=>nN [] p.1).sum=0:=by
    intro l;induction l with
    | nil=>rfl
    | cons p l ih=>simp_all [nN]
   grind
 | cons k tk ih =>
   intro hk;have i1:=ih fun k' h=>hk k' (D7 _ h);have o:=(one nd (y:=k.farmer) (v:=if k.void=false then k.net else 0)).1 (hk k (by simp));have ad:∀ l:List (ByteArray×Int),(l.map fun p=>nN (k::tk) p.1).sum=(l.map fun p=>if k.farmer=p.1 then (if k.void=false then k.net else 0) else 0).sum+(l.map fun p=>nN tk p.1).sum:=by
    intro l;induction l with
    | nil=>rfl
    | cons p l ih =>
      have e:nN (k::tk) p.1=(if k.farmer=p.1 then (if k.void=false then k.net else 0) else 0)+nN tk p.1:=by
       unfold nN
       grind
      grind
   grind
theorem aWU(gs:cN s):nT s (-1) s.tickets.length=zA s:=by
 have h:∀ i,i≤s.tickets.length→nT s (-1) i=((s.tickets.take i).map fun k=>if k.void=false then k.net else 0).sum:=by
  intro i;induction i with
  | zero=>intro _;rfl
  | succ i ih =>
    intro hi;obtain⟨k,hk⟩:=dD (l:=s.tickets) (i:=i) AT;have nu:nT s (-1) (i+1)=nT s (-1) i+if k.void=false∧((-1:Int)<0∨(((bK (fD s) k.farmer).getD 0:Nat):Int) = -1) then k.net else 0:=by rw[nT,hk]
    rw[nu,ih AT,D6,hk]
    grind
 rw[h _ (B5 _),C4 (B5 _),←aNY gs.nf fun k hk=>(gs.bt k hk).2.2.1];unfold zA;congr 1;exact I6 fun p hp=>(gs.fs p hp).symm
def wS1(W:List Int):Nat→XH
 | 0=>[aa [I 0,.nilsl]]
 | i+1=>[ab [I 0,.sl 2 0 1 (i+1)],aa ((W.take (i+1)).map I)]
theorem aPM(gs:cN s){RM RP RB:List (List AV)}{i:Nat}{p:ByteArray×Int}(hp:s.farmers[i]?=some p):runW progG 105 [.pt 0 0,I (i:Nat)] [rX (fD s) (gL s E) s.tickets.length RM RP RB]=some (I p.2,[rX (fD s) (gL s E) s.tickets.length RM RP RB]):=by
 grind [a105,aPN]
theorem aOW(gs:cN s){RM RP RB:List (List AV)}{f:Nat}{i:Nat}(hi:i<s.farmers.length):cC 1 [0,1,5,6,7] (execW progG 109 1 none (match aGk with | .loop _ a=>a|c=>c) (bB [0,1,5,6,7] [.pt 0 0,I (f:Nat),.pt 1 0,I ((aM s).take i).sum,I (i:Nat)]) (rX (fD s) (gL s E) s.tickets.length RM RP RB::wS1 (aM s) i)) =
 some ([.pt 0 0,I (f:Nat),.pt 1 0,I ((aM s).take (i+1)).sum,I (i+1:Nat)],rX (fD s) (gL s E) s.tickets.length RM RP RB::wS1 (aM s) (i+1)):=by
 obtain⟨p,hp⟩:=dD (l:=s.farmers) hi;have c:=aPM (E:=E) (RM:=RM) (RP:=RP) (RB:=RB) gs hp;have ln:(rS (fD s)).length=s.farmers.length:=by rw[eX];unfold fD;grind
 have t1:((i:Int)<(s.farmers.length:Int))=True:=AAa;have hl:=gs.lf;have hWi:(aM s)[i]?=some (nX p.2 1000):=by unfold aM;grind
 have tb:=aAf gs _ (B3 hWi);have hs1:((aM s).take (i+1)).sum=((aM s).take i).sum+nX p.2 1000:=by
  grind [List.take_add_one]
 have b1:=aCM gs (i+1);rw[hs1]at b1;have a1:IntKind.i64.wrap (nX p.2 1000)=nX p.2 1000:=aF AT AT;have a2:IntKind.i64.wrap (((aM s).take i).sum+nX p.2 1000)=((aM s).take i).sum+nX p.2 1000:=aF AT AT;have up:=dU (i:=i) (n:=2000) AT AT;have lz:((aM s).take i).length=i:=by grind
 have k1:((i+1)*8≤1099511627776)=True:=AAa;have k2:(i+1≤1099511627776)=True:=AAa;have ht1:((aM s).take (i+1)).map I=((aM s).take i).map I++[I (nX p.2 1000)]:=by
  grind [List.take_add_one]
 have u1:wS1 (aM s) (i+1)=[ab [I 0,.sl 2 0 1 (i+1)],aa (((aM s).take i).map I++[I (nX p.2 1000)])]:=by
  rw[←ht1];rfl
 rw[u1,hs1];clear u1 ht1 hs1 hWi;unfold rX at *;generalize fE (gL s E) s.tickets.length=RT at *;generalize hz:nX p.2 1000=t at *;unfold aGk;dsimp only;cases i with
 | zero =>
   have e:(aM s).take 0=[]:=rfl;have z:((0:Nat):Int)=0:=rfl;have z2:([]:List Int).sum=0:=rfl;have e2:wS1 (aM s) 0=[aa [I 0,.nilsl]]:=rfl;have a2:IntKind.i64.wrap (0+t)=t:=by grind
   have c:runW progG 105 [.pt 0 0,I 0] _=_:=c;have t1:((0:Int)<(s.farmers.length:Int))=True:=t1;rw[e,e2,z2,Int.zero_add,aA8,z];(exact RT7 c ln t1 hz a1 a2 up)
 | succ i =>
   have e2:wS1 (aM s) (i+1)=[ab [I 0,.sl 2 0 1 (i+1)],aa (((aM s).take (i+1)).map I)]:=rfl;rw[e2];generalize (aM s).take (i+1)=Z at *;(exact bBO c ln t1 hz a1 a2 up lz k1 k2)
theorem a109(gs:cN s){RM RP RB:List (List AV)}{f:Nat}(hx:bK (fD s) x=some f):runW progG 109 [.pt 0 0,I (f:Nat)] [rX (fD s) (gL s E) s.tickets.length RM RP RB]=some (I (lY s x),[rX (fD s) (gL s E) s.tickets.length RM RP RB]):=by
 have hix:f<s.farmers.length:=by
  have:=(aDL hx).1
  simp_all [fD]
 have hk9:=gs.lf;have ln:(rS (fD s)).length=s.farmers.length:=by simp[rS,fD]
 have e0:((s.farmers.length:Int)<(s.farmers.length:Int))=False:=AAb;have hWl:=vJ s;have bd:=aCM gs s.farmers.length;have fin2:(aM s).take s.farmers.length=aM s:=by grind
 rw[fin2]at bd;have td:0≤nX (aM s).sum 2∧nX (aM s).sum 2≤300000:=by
  unfold nX
  grind
 have a1:IntKind.i64.wrap (nX (aM s).sum 2)=nX (aM s).sum 2:=aF AT AT;have a2:IntKind.i64.wrap (nX (aM s).sum 2+1)=pU s:=by rw[aF AT AT];rfl
 have q0:pU s=nX (aM s).sum 2+1:=rfl;have c139:=a139 (q:=pU s) (W:=aM s) AT (fun v hv=>by have:=aAf gs v hv;omega) AT AT;have sl:=xH (pU s) (aM s) (aM s).length;have wl:=qG (vD (pU s) (aM s) (aM s).length);rw[sl]at wl;have sg:(vD (pU s) (aM s) (aM s).length)[f]?=some (swg (pU s) (aM s) f):=by
  unfold vD
  grind
 have wg:=aFj sg;have pw:lY s x=swg (pU s) (aM s) f:=by
  unfold lY;have hx:bK (s.farmers.map (·.1)) x=some f:=hx;rw[hx]
 have ixn:((f:Int)<((aM s).length:Int))=True:=AAa;have rd:=fun i hi=>aOW (E:=E) gs (RM:=RM) (RP:=RP) (RB:=RB) (f:=f) (i:=i) hi;rw[pw];rw[rq 109 aSp rfl];unfold aSp;dsimp only;unfold rX at *;sym =>
  simp[fR,fU,lX,Za,Zb,Zc,Zd,Ze,Zf,Zh,Zl,Zm,Zo,Zv,Zw,Z0,Z8,Z9,ZA,ZF,ZH,ZQ,ZR,ZV,ZZ,Ya,Ye,Yh,Ym,Yn,Ys,Yu,Yz,Y4,Y5,Y6,YG,YL,YM,Xt,Xw,Xx,XI,XM,We,Wh,Wj,Wm,Wr,Wv,Ww,Wx,Wy,WB,WY,Vf,Vm,Vp,Vr,V0,V1,V2,V3,V4,V5,V6,V7,V9,VA,VB,VC,VE,VH,VJ,VK,VL,VM,VN,VO,VP,VQ,VS,VT,VU,VV,VW,VX,VY,Ub,Uc,Ud,Uf,Ug,Uh,Ui,Ut,UD,UE,UG,UH,UI,UJ,UK,UN,UO,UP,UQ,UT,UW,UY,UZ,Tb,Tc,Td,Te,Tf,Tg,Th,Ti,Tj,Tl,Tp,Ts,Tu,Tz,T4,T6,T7,T8,T9,TA,TB,TC,TD,TE,TF,TK,TL,TM,TN,TO,TP,TY,TZ,Sa,Sc,Sr,Ss,Su,Sv,Sw,Sx,Sy,Sz,S3,S6,SD,SF,SG,SJ,SK,SL,SN,SS,SV,SW,RR,Qx,Pu,Pv,Pw,Px,ln]
  tactic =>
   unfold aGk;rw[aJ s.farmers.length (fun i=>[.pt 0 0,I (f:Nat),.pt 1 0,I ((aM s).take i).sum,I (i:Nat)]) (fun i=>(aa [.bool true,.fs (rS (fD s)),.fs (fE (gL s E) s.tickets.length),.fs RM,.fs RP,.fs RB])::wS1 (aM s) i)]
   ·have e2:wS1 (aM s) s.farmers.length=[ab [I 0,.sl 2 0 1 (aM s).length],aa ((aM s).map I)]:=by
     cases hn:s.farmers.length with
     | zero=>omega
     | succ n =>
       have:wS1 (aM s) (n+1)=[ab [I 0,.sl 2 0 1 (n+1)],aa (((aM s).take (n+1)).map I)]:=rfl
       grind
    rw[e2,fin2];clear rd;generalize fE (gL s E) s.tickets.length=RT at *;generalize vD (pU s) (aM s) (aM s).length=Z at *;generalize swg (pU s) (aM s) f=g at *;(exact RT9 e0 ln a1 a2 c139 wl wg ixn aE)
   ·rfl
   ·exact rd
   ·have e2:wS1 (aM s) s.farmers.length=[ab [I 0,.sl 2 0 1 (aM s).length],aa ((aM s).map I)]:=by
     cases hn:s.farmers.length with
     | zero=>omega
     | succ n =>
       have:wS1 (aM s) (n+1)=[ab [I 0,.sl 2 0 1 (n+1)],aa (((aM s).take (n+1)).map I)]:=rfl
       grind
    rw[e2];(exact RT2 e0 ln)
end
theorem zQ:aN .eql AAz AAz=some (.bool true):=by kernel_rfl
theorem wT:aN .eql AAA AAA=some (.bool true):=by kernel_rfl
theorem mX:aN .eql AAB AAA=some (.bool false):=by kernel_rfl
theorem lI:aN .eql AAB AAB=some (.bool true):=by kernel_rfl
theorem qQ:aN .eql AAC AAA=some (.bool false):=by kernel_rfl
theorem pK:aN .eql AAC AAB=some (.bool false):=by kernel_rfl
theorem tY:aN .eql AAC AAC=some (.bool true):=by kernel_rfl
theorem qU:aN .eql AAD AAA=some (.bool false):=by kernel_rfl
theorem pM:aN .eql AAD AAB=some (.bool false):=by kernel_rfl
theorem uC:aN .eql AAD AAC=some (.bool false):=by kernel_rfl
theorem uD:aN .eql AAD AAD=some (.bool true):=by kernel_rfl
theorem uA:aN .eql AAE AAz=some (.bool false):=by kernel_rfl
theorem pL:aN .eql AAE AAA=some (.bool false):=by kernel_rfl
theorem mY:aN .eql AAE AAB=some (.bool false):=by kernel_rfl
theorem qR:aN .eql AAE AAC=some (.bool false):=by kernel_rfl
theorem qS:aN .eql AAE AAD=some (.bool false):=by kernel_rfl
theorem uB:aN .eql AAz AAA=some (.bool false):=by kernel_rfl
theorem qT:aN .eql AAz AAB=some (.bool false):=by kernel_rfl
theorem wU:aN .eql AAz AAC=some (.bool false):=by kernel_rfl
theorem wV:aN .eql AAz AAD=some (.bool false):=by kernel_rfl
theorem tZ:aN .eql AAC AAD=some (.bool false):=by kernel_rfl
section
variable{s:CSt}{E:Nat→Int}{x:ByteArray}
theorem aNe:runW progG 65 [.str AAt] []=some (.bool false,[]):=bI.2 ⟨60,by kernel_rfl⟩
theorem aRx:runW progG 65 [.str AAu] []=some (.bool false,[]):=bI.2 ⟨60,by kernel_rfl⟩
theorem aUC:runW progG 65 [.str AAv] []=some (.bool false,[]):=bI.2 ⟨60,by kernel_rfl⟩
theorem aRB:runW progG 65 [.str AAw] []=some (.bool false,[]):=bI.2 ⟨60,by kernel_rfl⟩
theorem aRA:runW progG 65 [.str AAx] []=some (.bool false,[]):=bI.2 ⟨60,by kernel_rfl⟩
theorem aXY:runW progG 65 [.str AAy] []=some (.bool false,[]):=bI.2 ⟨60,by kernel_rfl⟩
theorem aXZ:runW progG 65 [.str AAz] []=some (.bool true,[]):=bI.2 ⟨60,by kernel_rfl⟩
theorem aRy:runW progG 65 [.str AAA] []=some (.bool true,[]):=bI.2 ⟨60,by kernel_rfl⟩
theorem aNd:runW progG 65 [.str AAB] []=some (.bool true,[]):=bI.2 ⟨60,by kernel_rfl⟩
theorem aUD:runW progG 65 [.str AAC] []=some (.bool true,[]):=bI.2 ⟨60,by kernel_rfl⟩
theorem aUE:runW progG 65 [.str AAD] []=some (.bool true,[]):=bI.2 ⟨60,by kernel_rfl⟩
theorem aRz:runW progG 65 [.str AAE] []=some (.bool true,[]):=bI.2 ⟨60,by kernel_rfl⟩
theorem aRv(gs:cN s){n:List (List AV)}:runW progG 66 [.pt 0 0,.fs [[.str AAA]],.fs n] [rC s E]=some (.tup [.str (oZ (zA s)),I 0],[rC s E]):=by
 have c:=a105 (E:=E) gs (L:=fD s) (RM:=fE (mU s) s.meters.length) (RP:=fE (mQ s) s.pans.length) (RB:=rS s.book) (j := -1);have b:=aKY gs (-1) s.tickets.length;have hl:=gs.lt;have hb:=gs.book;rw[aWU gs]at c b;have c2:=rdg (v:=zA s) b.1 AT;have na:(⟨⟨Lib.itoa (zA s)⟩⟩:ByteArray)=oZ (zA s):=rfl;rw[na]at c2;generalize oZ (zA s)=a at *;generalize zA s=v at *;unfold rX at c;unfold rC;rw[rq 66 vC rfl];unfold vC;dsimp only;generalize fE (gL s E) s.tickets.length=RT at *;generalize fE (mU s) s.meters.length=RM at *;generalize fE (mQ s) s.pans.length=RP at *;generalize rS s.book=RB at *;(exact yK c c2 wT)
theorem aXX(gs:cN s){n:List (List AV)}:(bK (fD s) x=none→runW progG 66 [.pt 0 0,.fs [[.str AAz],[.str x]],.fs n] [rC s E]=some (.tup [.str ⟨⟨[]⟩⟩,I 5],[rC s E]))∧(∀ f p,bK (fD s) x=some f→s.farmers[f]?=some p→runW progG 66 [.pt 0 0,.fs [[.str AAz],[.str x]],.fs n] [rC s E]=some (.tup [.str (oZ p.2),I 0],[rC s E])):=by
 have c108:=aVJ (x:=x) (L:=fD s) (RT:=fE (gL s E) s.tickets.length) (RM:=fE (mU s) s.meters.length) (RP:=fE (mQ s) s.pans.length) (RB:=rS s.book) (by unfold fD;rw[B7];have:=gs.lf;omega);constructor
 ·intro hx
  have e:mW (fD s) x = -1:=by unfold mW;rw[hx]
  have iv:((-1:Int)<0)=True:=AAa;rw[e]at c108;unfold rC;rw[rq 66 vC rfl];unfold vC;dsimp only;generalize fE (gL s E) s.tickets.length=RT at *;generalize fE (mU s) s.meters.length=RM at *;generalize fE (mQ s) s.pans.length=RP at *;generalize rS s.book=RB at *;(exact mK c108 iv uB qT wU wV zQ)
 ·intro f p hx hp
  have e:mW (fD s) x=(f:Int):=by unfold mW;rw[hx]
  have iv:((f:Int)<0)=False:=AAb;rw[e]at c108;have c:=aPM (E:=E) (RM:=fE (mU s) s.meters.length) (RP:=fE (mQ s) s.pans.length) (RB:=rS s.book) gs hp;have bd:0≤p.2∧p.2<1000000000000:=by
   have h1:=aPN gs hp;have h2:=aKY gs (f:Int) s.tickets.length;have hl:=gs.lt;have hb:=gs.book;omega
  have c2:=rdg bd.1 bd.2;have na:(⟨⟨Lib.itoa p.2⟩⟩:ByteArray)=oZ p.2:=rfl;rw[na]at c2;unfold rX at c;generalize oZ p.2=a at *;generalize p.2=v at *;unfold rC;rw[rq 66 vC rfl];unfold vC;dsimp only;generalize fE (gL s E) s.tickets.length=RT at *;generalize fE (mU s) s.meters.length=RM at *;generalize fE (mQ s) s.pans.length=RP at *;generalize rS s.book=RB at *;(exact vA c108 iv c c2 uB qT wU wV zQ)
theorem aRw(gs:cN s){n:List (List AV)}:(bK (fD s) x=none→runW progG 66 [.pt 0 0,.fs [[.str AAE],[.str x]],.fs n] [rC s E]=some (.tup [.str ⟨⟨[]⟩⟩,I 5],[rC s E]))∧(∀ f p,bK (fD s) x=some f→s.farmers[f]?=some p→runW progG 66 [.pt 0 0,.fs [[.str AAE],[.str x]],.fs n] [rC s E]=some (.tup [.str (oZ (lY s x)),I 0],[rC s E])):=by
 have c108:=aVJ (x:=x) (L:=fD s) (RT:=fE (gL s E) s.tickets.length) (RM:=fE (mU s) s.meters.length) (RP:=fE (mQ s) s.pans.length) (RB:=rS s.book) (by unfold fD;rw[B7];have:=gs.lf;omega);constructor
 ·intro hx
  have e:mW (fD s) x = -1:=by unfold mW;rw[hx]
  have iv:((-1:Int)<0)=True:=AAa;rw[e]at c108;unfold rC;rw[rq 66 vC rfl];unfold vC;dsimp only;generalize fE (gL s E) s.tickets.length=RT at *;generalize fE (mU s) s.meters.length=RM at *;generalize fE (mQ s) s.pans.length=RP at *;generalize rS s.book=RB at *;(exact mK c108 iv pL mY qR qS uA)
 ·intro f p hx hp
  have e:mW (fD s) x=(f:Int):=by unfold mW;rw[hx]
  have iv:((f:Int)<0)=False:=AAb;rw[e]at c108;have c:=a109 (E:=E) gs (RM:=fE (mU s) s.meters.length) (RP:=fE (mQ s) s.pans.length) (RB:=rS s.book) hx;have bd:0≤(lY s x)∧(lY s x)<1000000000000:=by
   have:=aOa (q:=pU s) (W:=aM s) (i:=f) (by rw[vJ];exact gs.lf);have hx:bK (s.farmers.map (·.1)) x=some f:=hx;unfold lY
   grind
  have c2:=rdg bd.1 bd.2;have na:(⟨⟨Lib.itoa (lY s x)⟩⟩:ByteArray)=oZ (lY s x):=rfl;rw[na]at c2;unfold rX at c;generalize oZ (lY s x)=a at *;generalize (lY s x)=v at *;unfold rC;rw[rq 66 vC rfl];unfold vC;dsimp only;generalize fE (gL s E) s.tickets.length=RT at *;generalize fE (mU s) s.meters.length=RM at *;generalize fE (mQ s) s.pans.length=RP at *;generalize rS s.book=RB at *;(exact vA c108 iv c c2 pL mY qR qS uA)
theorem aUA(gs:cN s){n:List (List AV)}:(bK (s.meters.map (·.1)) x=none→runW progG 66 [.pt 0 0,.fs [[.str AAC],[.str x]],.fs n] [rC s E]=some (.tup [.str ⟨⟨[]⟩⟩,I 5],[rC s E]))∧(∀ f p,bK (s.meters.map (·.1)) x=some f→s.meters[f]?=some p→runW progG 66 [.pt 0 0,.fs [[.str AAC],[.str x]],.fs n] [rC s E]=some (.tup [.str (oZ p.2.2),I 0],[rC s E])):=by
 have c107:=aRD (x:=x) (L:=s.meters.map (·.1)) (F:=mU s) (by rw[B7];have:=gs.lm;omega) (fun i y h=>by
  rw[C5,B2]at h;obtain⟨p,hp,rfl⟩:=h
  simp_all [mU])
 rw[B7]at c107;have ln:(fE (mU s) s.meters.length).length=s.meters.length:=nO;constructor
 ·intro hx
  have e:mW (s.meters.map (·.1)) x = -1:=by unfold mW;rw[hx]
  have iv:((-1:Int)<0)=True:=AAa;rw[e]at c107;unfold rC;rw[rq 66 vC rfl];unfold vC;dsimp only;generalize fE (gL s E) s.tickets.length=RT at *;generalize fE (mU s) s.meters.length=RM at *;generalize fE (mQ s) s.pans.length=RP at *;generalize rS s.book=RB at *;(exact mK c107 iv qQ pK tY tZ aE)
 ·intro f p hx hp
  have e:mW (s.meters.map (·.1)) x=(f:Int):=by unfold mW;rw[hx]
  have iv:((f:Int)<0)=False:=AAb;rw[e]at c107;have hf:=(B8.1 hp).1;have i1:((f:Int)<(s.meters.length:Int))=True:=AAa;have ra:=aDi (F:=mU s) hf;rw[show mU s f=[.str p.1,I p.2.2,I p.2.1] by unfold mU;rw[hp]]at ra;have bd:0≤p.2.2∧p.2.2<1000000000000:=by
   have:=gs.bm p (B3 hp);have hb:=gs.book;omega
  have c2:=rdg bd.1 bd.2;have na:(⟨⟨Lib.itoa p.2.2⟩⟩:ByteArray)=oZ p.2.2:=rfl;rw[na]at c2;generalize oZ p.2.2=a at *;generalize p.2.2=v at *;unfold rC;rw[rq 66 vC rfl];unfold vC;dsimp only;generalize fE (gL s E) s.tickets.length=RT at *;generalize fE (mU s) s.meters.length=RM at *;generalize fE (mQ s) s.pans.length=RP at *;generalize rS s.book=RB at *;(exact jE c107 iv i1 ra ln c2 qQ pK tY tZ)
theorem aUB(gs:cN s){n:List (List AV)}:(bK (s.pans.map (·.1)) x=none→runW progG 66 [.pt 0 0,.fs [[.str AAD],[.str x]],.fs n] [rC s E]=some (.tup [.str ⟨⟨[]⟩⟩,I 5],[rC s E]))∧(∀ f p,bK (s.pans.map (·.1)) x=some f→s.pans[f]?=some p→runW progG 66 [.pt 0 0,.fs [[.str AAD],[.str x]],.fs n] [rC s E]=some (.tup [.str (oZ p.2),I 0],[rC s E])):=by
 have c107:=aRD (x:=x) (L:=s.pans.map (·.1)) (F:=mQ s) (by rw[B7];have:=gs.lp;omega) (fun i y h=>by
  rw[C5,B2]at h;obtain⟨p,hp,rfl⟩:=h
  simp_all [mQ])
 rw[B7]at c107;have ln:(fE (mQ s) s.pans.length).length=s.pans.length:=nO;constructor
 ·intro hx
  have e:mW (s.pans.map (·.1)) x = -1:=by unfold mW;rw[hx]
  have iv:((-1:Int)<0)=True:=AAa;rw[e]at c107;unfold rC;rw[rq 66 vC rfl];unfold vC;dsimp only;generalize fE (gL s E) s.tickets.length=RT at *;generalize fE (mU s) s.meters.length=RM at *;generalize fE (mQ s) s.pans.length=RP at *;generalize rS s.book=RB at *;(exact mK c107 iv qU pM uC uD aE)
 ·intro f p hx hp
  have e:mW (s.pans.map (·.1)) x=(f:Int):=by unfold mW;rw[hx]
  have iv:((f:Int)<0)=False:=AAb;rw[e]at c107;have hf:=(B8.1 hp).1;have i1:((f:Int)<(s.pans.length:Int))=True:=AAa;have ra:=aDi (F:=mQ s) hf;rw[show mQ s f=[.str p.1,I p.2,I 0] by unfold mQ;rw[hp]]at ra;have bd:0≤p.2∧p.2<1000000000000:=by
   have:=gs.bp p (B3 hp);have hb:=gs.book;omega
  have c2:=rdg bd.1 bd.2;have na:(⟨⟨Lib.itoa p.2⟩⟩:ByteArray)=oZ p.2:=rfl;rw[na]at c2;generalize oZ p.2=a at *;generalize p.2=v at *;unfold rC;rw[rq 66 vC rfl];unfold vC;dsimp only;generalize fE (gL s E) s.tickets.length=RT at *;generalize fE (mU s) s.meters.length=RM at *;generalize fE (mQ s) s.pans.length=RP at *;generalize rS s.book=RB at *;(exact jE c107 iv i1 ra ln c2 qU pM uC uD)
theorem aNc(gs:cN s){i:Nat}{u:ByteArray}:(s.tickets[i]?=none→runW progG 66 [.pt 0 0,.fs [[.str AAB],[.str u]],.fs [[I 0],[I (i:Nat)]]] [rC s E]=some (.tup [.str ⟨⟨[]⟩⟩,I 5],[rC s E]))∧(∀ k,s.tickets[i]?=some k→runW progG 66 [.pt 0 0,.fs [[.str AAB],[.str u]],.fs [[I 0],[I (i:Nat)]]] [rC s E]=some (.tup [.str (tkT k),I 0],[rC s E])):=by
 have ln:(fE (gL s E) s.tickets.length).length=s.tickets.length:=nO;constructor
 ·intro hi
  have h:=N8.1 hi;have e1:((s.tickets.length:Int)≤(i:Int))=True:=AAa;unfold rC;rw[rq 66 vC rfl];unfold vC;dsimp only;generalize fE (gL s E) s.tickets.length=RT at *;generalize fE (mU s) s.meters.length=RM at *;generalize fE (mQ s) s.pans.length=RP at *;generalize rS s.book=RB at *;(exact vB e1 ln mX lI)
 ·intro k hk
  have h:=(B8.1 hk).1;have e1:((s.tickets.length:Int)≤(i:Int))=False:=AAb;have e2:((i:Int)<(s.tickets.length:Int))=True:=AAa;have hr:=aDi (F:=gL s E) h;rw[vK hk]at hr;have hn:=gs.bt k (B3 hk);obtain⟨m,hm⟩:=xQ hn.2.2.1;have hm:bK (fD s) k.farmer=some m:=hm;rw[hm,G3]at hr;have c:=a106 (k:=k) (e:=E i) (f:=m) (cl:=decide (i<s.closed)) (RT:=fE (gL s E) s.tickets.length) (RM:=fE (mU s) s.meters.length) (RP:=fE (mQ s) s.pans.length) (RB:=rS s.book) (cZ hm) (by unfold fD;rw[B7];have:=gs.lf;omega) hn.2.2.2.1 hn.2.2.2.2 ⟨hn.1,hn.2.1⟩;generalize tkT k=a at *;generalize decide (i<s.closed)=cl at *;generalize E i=ei at *;clear hk hn hm;obtain⟨kw,kf,kn,kv⟩:=k;dsimp only at *;unfold rC;rw[rq 66 vC rfl];unfold vC;dsimp only;generalize fE (gL s E) s.tickets.length=RT at *;generalize fE (mU s) s.meters.length=RM at *;generalize fE (mQ s) s.pans.length=RP at *;generalize rS s.book=RB at *;(exact mK e1 e2 ln hr c mX lI)
end
section
variable{s:CSt}{E:Nat→Int}{x line w0 a:ByteArray}{ws ns:List (List AV)}{e:Int}{B:Option XB}
theorem zS{F:Nat→List AV}{m:Nat}(r:Rw F m)(n:Nat):bG (cE F n) 0 m n=fE F n:=by
 have h:∀ k,k≤n→bG (cE F n) ((n-k)*m) m k=(fE F n).drop (n-k):=by
  intro k;induction k with
  | zero=>simp[bG,fE]
  | succ k ih =>
    intro hk;have hi:n-(k+1)<n:=AT
    rw[bG,aTX r hi,show (n-(k+1))*m+m=(n-k)*m by rw[show n-k=(n-(k+1))+1 by omega,Nat.succ_mul],ih AT]
    grind [List.drop_eq_getElem_cons,fE]
 have:=h n (B5 _)
 grind
def RB(s:CSt)(E:Nat→Int)(B:Option XB):Prop:=B=rC s E∨(B=rN∧s=cA)
def Shp(n:Nat)(B:Option XB):Prop:=(∃ a b c d e,e.length=n∧B=aa [.bool true,.fs a,.fs b,.fs c,.fs d,.fs e])∨n=0∧B=aa [.bool true,.nilsl,.nilsl,.nilsl,.nilsl,.nilsl]
theorem zE(h:RB s E B):Shp s.book.length B:=by
 rcases h with rfl|⟨rfl,rfl⟩;·exact .inl ⟨_,_,_,_,_,eX _,rfl⟩
 ·exact .inr ⟨rfl,rfl⟩
theorem bCU{n:Nat}(hB:Shp n B)(c64:runW progG 64 [.str line] []=some (.tup [.fs [],.fs [],I e],[]))(he:0<e∧e<100):runW progG 22 [.pt 0 0,.str line] [B]=some (.str (noA e),[B]):=by
 have e0:(e=0)=False:=AAb;have c63:=a63 (e:=e) AT he.2;generalize noA e=z at *;rw[rq 22 x22 rfl];unfold x22;dsimp only;rcases hB with ⟨a1,a2,a3,a4,a5,hl,rfl⟩|⟨hl,rfl⟩;all_goals (exact yK c64 e0 c63)
theorem aYU{n:Nat}(hB:Shp n B)(c64:runW progG 64 [.str line] []=some (.tup [.fs ws,.fs ns,I 0],[]))(r0:ws[0]?=some [.str w0])(c65:runW progG 65 [.str w0] []=some (.bool true,[]))(c66:runW progG 66 [.pt 0 0,.fs ws,.fs ns] [B]=some (.tup [.str a,I e],[B]))(he:0≤e∧e<100):runW progG 22 [.pt 0 0,.str line] [B]=some (.str (if e=0 then a else noA e),[B]):=by
 have wl:((0:Int)<(ws.length:Int))=True:=AAn (by grind);have c63:=a63 he.1 he.2;generalize noA e=z at *;rw[rq 22 x22 rfl];unfold x22;dsimp only;rcases oC (e=0)with e0|e0
 all_goals
  rcases hB with ⟨a1,a2,a3,a4,a5,hl,rfl⟩|⟨hl,rfl⟩;all_goals (exact mK c64 r0 c65 c66 wl e0 c63)
abbrev cpC(nF nT nM nP nB:Nat)(CF CT CM CP CB:List AV):XH:=[some (.blk false (.cells true [.bool true,.sl 2 0 1 nF,.sl 3 0 6 nT,.sl 4 0 3 nM,.sl 5 0 3 nP,.sl 6 0 1 nB])),kL CF,kL CT,kL CM,kL CP,kL CB]
theorem bCT{nF nT nM nP nB mF mT mM mP mB k:Nat}(hB:Shp mB B){CF CT CM CP CB DF DT DM DP DB:List AV}{QF QT QM QP QK:List (List AV)}(S:Sms CF CT CM CP CB)(S2:Sms DF DT DM DP DB)(hk:k<5)
 (c64:runW progG 64 [.str line] []=some (.tup [.fs ws,.fs ns,I 0],[])) (r0:ws[0]?=some [.str w0]) (c65:runW progG 65 [.str w0] []=some (.bool false,[]))
 (c67:runW progG 67 [.pt 0 0] [B]=some (.pt 1 0,B::cpC nF nT nM nP nB CF CT CM CP CB)) (c68:runW progG 68 [.pt 0 0,.fs ws,.fs ns] (hC nF nT nM nP nB CF CT CM CP CB)=some (I e,hK k mF mT mM mP mB DF DT DM DP DB)) (he:0≤e∧e<100)
 (lF:DF.length=mF) (lT:DT.length=mT*6) (lM:DM.length=mM*3) (lP:DP.length=mP*3) (lB:DB.length=mB) (hb:mB≤300) (k1:bG DF 0 1 mF=QF) (k2:bG DT 0 6 mT=QT) (k3:bG DM 0 3 mM=QM) (k4:bG DP 0 3 mP=QP) (k5:bG (DB++[.str line]) 0 1 (mB+1)=QK) :
 runW progG 22 [.pt 0 0,.str line] [B]=some (if e≠0 then (.str (noA e),[B]) else if mB=300 then (.str (noA 15),[B]) else (.str ⟨⟨[111,107]⟩⟩,[aa [.bool true,.fs QF,.fs QT,.fs QM,.fs QP,.fs QK]])):=by
 have wl:((0:Int)<(ws.length:Int))=True:=AAn (by grind);have c63:=a63 he.1 he.2;have c15:=a63 (e:=15) AT AT;generalize noA 15=z2 at *;generalize noA e=z at *;rw[rq 22 x22 rfl];unfold x22;dsimp only;have y1:(mF≤DF.length)=True:=AAa;have y2:(mT*6≤DT.length)=True:=AAa;have y3:(mM*3≤DM.length)=True:=AAa;have y4:(mP*3≤DP.length)=True:=AAa;have g1:((mB+1)*16≤1099511627776)=True:=AAa;have g2:(mB+1≤1099511627776)=True:=AAa;rcases oC (e=0)with e0|e0
 ·have e1:=AAl e0
  rw[if_neg (show ¬e≠0 from fun q=>q e1)];rcases oC ((mB:Int)=300)with bf|bf
  ·have hf:=AAl bf
   rw[if_pos (show mB=300 by omega)];rcases hB with ⟨a1,a2,a3,a4,a5,hl,rfl⟩|⟨hl,_⟩
   ·rcases lt5 hk with rfl|rfl|rfl|rfl|rfl
    all_goals (simp only[hK,aCm]at c68; (exact gF c64 r0 c65 wl c67 c68 e0 c15 bf hl S S2 aE))
   ·omega
  ·have hf:=AAm bf
   rw[if_neg (show ¬mB=300 by omega)];rcases hB.imp id (fun h=>And.intro lB h.2)with ⟨a1,a2,a3,a4,a5,hl,rfl⟩|⟨hl,rfl⟩
   all_goals
    rcases lt5 hk with rfl|rfl|rfl|rfl|rfl;all_goals (simp only[hK,aCm]at c68; (exact rA c64 r0 c65 wl c67 c68 e0 bf hl g1 g2 lB k1 k2 k3 k4 k5 y1 y2 y3 y4 S S2 aE aE aE))
 ·rw[if_pos (show e≠0 from AAm e0)]
  rcases hB with ⟨a1,a2,a3,a4,a5,hl,rfl⟩|⟨hl,rfl⟩
  all_goals
   rcases lt5 hk with rfl|rfl|rfl|rfl|rfl;all_goals (simp only[hK,aCm]at c68; (exact jE c64 r0 c65 wl c67 c68 e0 c63 S S2))
theorem aYT(hB:RB s E B)(gs:cN s)(c64:runW progG 64 [.str line] []=some (.tup [.fs ws,.fs ns,I 0],[]))(r0:ws[0]?=some [.str w0])(c65:runW progG 65 [.str w0] []=some (.bool false,[])){s1:CSt}{E1:Nat→Int}{k:Nat}(hk:k<5)(hbk:s1.book=s.book)(c68:runW progG 68 [.pt 0 0,.fs ws,.fs ns] (shp s E 0)=some (I e,shp s1 E1 k))(he:0≤e∧e<100) :
 runW progG 22 [.pt 0 0,.str line] [B]=some (if e≠0 then (.str (noA e),[B]) else if s.book.length=300 then (.str (noA 15),[B]) else (.str ⟨⟨[111,107]⟩⟩,[rC { s1 with book:=s.book++[line] } E1])):=by
 have h1:=gs.lf;have h2:=gs.lt;have h3:=gs.lm;have h4:=gs.lp;have h5:=gs.book;have c67:runW progG 67 [.pt 0 0] [B]=some (.pt 1 0,B::cpH s E):=by
  rcases hB with rfl|⟨rfl,rfl⟩;all_goals grind [a67,bFp]
 have k1:=aBh (fD s1);rw[nW]at k1;have k5:=aBh (s.book++[line]);rw[F6,aA2,show cO (s.book++[line])=cO s.book++[.str line] by simp[cO],←hbk]at k5;have r:=bCT (by grind [zE]) sms sms hk c64 r0 c65 c67 c68 he (by rw[fH,nW]) (fJ nE _) (fJ uS _) (fJ uP _) (fH _) (by grind) k1 (zS nE _) (zS uS _) (zS uP _) k5;rw[hbk]at r;exact r
end
section
variable{s:ByteArray}
theorem aCb{i:Nat}(h:i<s.size):∃ x,(bN s).getD i 0=x∧x<256∧((s.data.toList.getD i 0).toNat:Int)=(x:Int):=by
 grind [aGb]
def fO(s:ByteArray):Nat→List ByteArray×Nat
 | 0=>([],0)
 | i+1=>if (bN s).getD i 0=32 then ((fO s i).1++[jD s (fO s i).2 i],i+1) else fO s i
theorem aOi:∀{a:List UInt8},32∉a→dS 32 a=[a]
 | [],_=>rfl
 | b::r,h=>by
   have hb:b≠32:=fun e=>h (by simp[e]);have ih:=aOi (a:=r) fun e=>h (D7 _ e)
   grind [dS]
theorem aOj:∀{a b:List UInt8},32∉a→dS 32 (a++32::b)=a::dS 32 b
 | [],b,_=>by
   rfl
 | c::r,b,h=>by
   have hc:c≠32:=fun e=>h (by simp[e]);have ih:=aOj (a:=r) (b:=b) fun e=>h (D7 _ e)
   grind [dS]
theorem aGt{s:ByteArray}:∀ i,(fO s i).2≤i∧(fO s i).1.length≤i
 | 0=>⟨B5 _,B5 _⟩
 | i+1=>by
   have h:=aGt (s:=s) i;unfold fO;split;·simp;omega
   ·omega
theorem aKH{s:ByteArray}:∀ i,i≤s.size→32∉(s.data.toList.drop (fO s i).2).take (i-(fO s i).2)∧(fO s i).1.map (·.data.toList)++dS 32 (s.data.toList.drop (fO s i).2)=dS 32 s.data.toList
 | 0,_=>by simp[fO]
 | i+1,hi=>by
   obtain⟨h1,h2⟩:=aKH (s:=s) i AT;have hl:=(aGt (s:=s) i).1;have hil:i<s.data.toList.length:=by rw[G9];exact hi
   have hb:(bN s).getD i 0=(s.data.toList[i]'hil).toNat:=by
    grind [bN]
   have ht:(s.data.toList.drop (fO s i).2).take (i+1-(fO s i).2)=(s.data.toList.drop (fO s i).2).take (i-(fO s i).2)++[s.data.toList[i]'hil]:=by
    rw[show i+1-(fO s i).2=(i-(fO s i).2)+1 by omega,D6,List.getElem?_drop,show (fO s i).2+(i-(fO s i).2)=i by omega,B6 hil];rfl
   have hd:s.data.toList.drop (fO s i).2=(s.data.toList.drop (fO s i).2).take (i-(fO s i).2)++(s.data.toList[i]'hil)::s.data.toList.drop (i+1):=by
    have e:=List.take_append_drop (i-(fO s i).2) (s.data.toList.drop (fO s i).2);rw[List.drop_drop,show (fO s i).2+(i-(fO s i).2)=i by omega,J6 hil]at e
    grind
   by_cases h:(bN s).getD i 0=32
   ·have hx:s.data.toList[i]'hil=32:=UInt8.toNat_inj.1 (by grind)
    rw[hx]at hd;rw[fO,if_pos h]
    grind [aOj,jD]
   ·rw[fO,if_neg h]
    refine⟨?_,h2⟩;rw[ht,C7,D1];rintro (q|q);·exact h1 q
    ·exact h (by rw[hb,←q];rfl)
theorem aSX(s:ByteArray):(fO s s.size).1++[jD s (fO s s.size).2 s.size]=bQ s:=by
 obtain⟨h1,h2⟩:=aKH (s:=s) s.size (B5 _);have hl:s.data.toList.length=s.size:=G9;have et:(s.data.toList.drop (fO s s.size).2).take (s.size-(fO s s.size).2)=s.data.toList.drop (fO s s.size).2:=C4 (by grind);rw[et]at h1;rw[aOi h1]at h2;unfold bQ;rw[←h2,M4,aB6];unfold jD;rw[et];have:(fO s s.size).1.map ((fun l=>(⟨⟨l⟩⟩:ByteArray))∘fun x=>x.data.toList)=(fO s s.size).1:=by
  conv=>rhs;rw[←List.map_id (fO s s.size).1]
  rfl
 grind
def wSl(A:List ByteArray):AV:=if A.length=0 then .nilsl else .sl 0 0 1 A.length
def wHp(A:List ByteArray):XH:=if A.length=0 then [] else [aa (cO A)]
theorem aVV(A:List ByteArray)(x:ByteArray):wSl (A++[x]) = .sl 0 0 1 (A.length+1)∧wHp (A++[x])=[aa (cO A++[.str x])]:=by
 simp[wSl,wHp,cO]
theorem aOZ(hs:s.size≤1000){i:Nat}(hi:i<s.size):cC 0 [0,3,4,5] (execW progG 101 0 none (match aCJ with | .loop _ a=>a|c=>c) (bB [0,3,4,5] [.str s,wSl (fO s i).1,I ((fO s i).2:Nat),I (i:Nat)]) (wHp (fO s i).1)) =
 some ([.str s,wSl (fO s (i+1)).1,I ((fO s (i+1)).2:Nat),I (i+1:Nat)],wHp (fO s (i+1)).1):=by
 obtain⟨x,x1,x2,x3⟩:=aCb hi;obtain⟨hl,hm⟩:=aGt (s:=s) i;have t1:((i:Int)<(s.size:Int))=True:=AAa;have i2:(i<s.size)=True:=AAn hi;have up:=dU (i:=i) (n:=2000) AT AT;rw[fO,x1];by_cases h:x=32
 ·have e1:((x:Int)=32)=True:=AAa
  obtain⟨u1,u2⟩:=aVV (fO s i).1 (jD s (fO s i).2 i);rw[if_pos h];dsimp only;rw[u1,u2];have g1:(((fO s i).2:Int)≤(i:Int))=True:=AAa;have g2:((i:Int)≤(s.size:Int))=True:=AAa;have g0:((0:Int)≤((fO s i).2:Int))=True:=AAa;have g00:((0:Int)≤(i:Int))=True:=AAa;have n1:(((fO s i).2:Int)).toNat=(fO s i).2:=I7 _;have n2:((i:Int)).toNat=i:=I7 _;have b1:(((fO s i).1.length+1)*16≤1099511627776)=True:=AAa;have b2:((fO s i).1.length+1≤1099511627776)=True:=AAa;generalize hA:(fO s i).1=A at *;generalize (fO s i).2=a at *;have tl:=fH A;have gr:=eP A;unfold aCJ;dsimp only;by_cases h0:A.length=0
  ·obtain rfl:=D0 h0
   have s0:wSl [] = .nilsl:=rfl;have s1:wHp []=[]:=rfl;have s2:cO []=[]:=rfl;have s3:([]:List ByteArray).length=0:=rfl;rw[s0,s1,s2,s3];(exact gF t1 i2 x3 e1 up g1 g2 g0 g00 n1 n2 aE aE)
  ·have s0:wSl A = .sl 0 0 1 A.length:=if_neg h0
   have s1:wHp A=[aa (cO A)]:=if_neg h0;rw[s0,s1];(exact fN t1 i2 x3 e1 up g1 g2 g0 g00 n1 n2 tl gr b1 b2 bU bR bT aE aE)
 ·have e1:((x:Int)=32)=False:=AAb
  rw[if_neg h];generalize (fO s i).2=a at *;generalize (fO s i).1=A at *;unfold aCJ;dsimp only;by_cases h0:A.length=0
  ·have s0:wSl A = .nilsl:=if_pos h0
   have s1:wHp A=[]:=if_pos h0;rw[s0,s1];(exact uJ t1 i2 x3 e1 up)
  ·have s0:wSl A = .sl 0 0 1 A.length:=if_neg h0
   have s1:wHp A=[aa (cO A)]:=if_neg h0;rw[s0,s1];(exact vA t1 i2 x3 e1 up bU bR bT aE)
theorem a101(hs:s.size≤1000):runW progG 101 [.str s] []=some (.fs (rS (bQ s)),[]):=by
 have e0:((s.size:Int)<(s.size:Int))=False:=AAb;obtain⟨hl,hm⟩:=aGt (s:=s) s.size;have he:=aSX s;have g1:(((fO s s.size).2:Int)≤(s.size:Int))=True:=AAa;have g0:((0:Int)≤((fO s s.size).2:Int))=True:=AAa;have n1:(((fO s s.size).2:Int)).toNat=(fO s s.size).2:=I7 _;have b1:(((fO s s.size).1.length+1)*16≤1099511627776)=True:=AAa;have b2:((fO s s.size).1.length+1≤1099511627776)=True:=AAa;have rd:=fun i (hi:i<s.size)=>aOZ (s:=s) hs hi;rw[←he];have s0:wSl (fO s 0).1 = .nilsl:=rfl;have s1:wHp (fO s 0).1=[]:=rfl;have s2:(fO s 0).2=0:=rfl;have ch:=aBh ((fO s s.size).1++[jD s (fO s s.size).2 s.size]);rw[F6,aA2]at ch;rw[show cO ((fO s s.size).1++[jD s (fO s s.size).2 s.size])=cO (fO s s.size).1++[.str (jD s (fO s s.size).2 s.size)] by simp[cO]]at ch;rw[rq 101 aSt rfl];unfold aSt;dsimp only;sym =>
  simp[Zb,Zf,Zh,Zl,Zv,Va,Tb,Tl,TK,TL,SF,SK,SL,SW,e0]
  tactic =>
   unfold aCJ;rw[aJ s.size (fun i=>[.str s,wSl (fO s i).1,I ((fO s i).2:Nat),I (i:Nat)]) (fun i=>wHp (fO s i).1)]
   ·clear rd he
    generalize (fO s s.size).1=A at *;generalize (fO s s.size).2=a at *;have tl:=fH A;have gr:=eP A;by_cases h0:A.length=0
    ·obtain rfl:=D0 h0
     have s0:wSl [] = .nilsl:=rfl;have s1:wHp []=[]:=rfl;rw[s0,s1];(exact vB e0 g1 g0 n1)
    ·have s0:wSl A = .sl 0 0 1 A.length:=if_neg h0
     have s1:wHp A=[aa (cO A)]:=if_neg h0;rw[s0,s1];(exact gF e0 g1 g0 n1 tl gr b1 b2 ch bU bR bT aE)
   ·rfl
   ·exact rd
   ·by_cases h0:(fO s s.size).1.length=0
    ·have s0:wSl (fO s s.size).1 = .nilsl:=if_pos h0
     have s1:wHp (fO s s.size).1=[]:=if_pos h0;rw[s0,s1];(exact cK e0)
    ·have s0:wSl (fO s s.size).1 = .sl 0 0 1 (fO s s.size).1.length:=if_neg h0
     have s1:wHp (fO s s.size).1=[aa (cO (fO s s.size).1)]:=if_neg h0;rw[s0,s1];(exact cK e0)
def kcL:List AV:=fmL.flatMap fun p=>[.str p.1,.str p.2]
def kdB(w:ByteArray):ByteArray:=match fmL.find? (fun p=>decide (w=p.1))with
 | some p=>p.2
 | none=>⟨⟨[63]⟩⟩
theorem aPZ:∀ i,i<12→∃ p,fmL[i]?=some p∧kcL[2*i]?=some (.str p.1)∧kcL[2*i+1]?=some (.str p.2):=by
 intro i hi;rcases (by omega:i=0∨i=1∨i=2∨i=3∨i=4∨i=5∨i=6∨i=7∨i=8∨i=9∨i=10∨i=11)with rfl|rfl|rfl|rfl|rfl|rfl|rfl|rfl|rfl|rfl|rfl|rfl<;>exact⟨_,rfl,rfl,rfl⟩
theorem bAa{w:ByteArray}{m:Nat}(h:∀ i,i<m→∀ p,fmL[i]?=some p→¬w=p.1):(∀ p,fmL[m]?=some p→w=p.1→kdB w=p.2)∧(m=12→kdB w=⟨⟨[63]⟩⟩):=by
 constructor
 ·intro p hp hw
  grind [List.find?_eq_some_iff_getElem,List.getElem?_eq_some_iff,kdB]
 ·intro hm
  unfold kdB;have e:fmL.find? (fun p=>decide (w=p.1))=none:=by
   rw[List.find?_eq_none];intro p hp;obtain⟨i,hi⟩:=I8.1 hp;have:=h i (by have h1:=(B8.1 hi).1;simp_all [fmL]) p hi
   grind
  rw[e]
theorem a102(w:ByteArray):runW progG 102 [.str w] []=some (.str (kdB w),[]):=by
 obtain⟨m,m1,m2,m3⟩:=lH (fun i=>match fmL[i]? with|some p => !decide (p.1=w)|none=>false) 12;have hne:∀ i,i<m→∀ p,fmL[i]?=some p→¬w=p.1:=fun i hi p hp e=>by
  grind
 obtain⟨k1,k2⟩:=bAa hne;have gr:kI kcL=true:=by kernel_rfl
 have nm:lE kcL=[]:=by kernel_rfl
 have sl:slL kcL=[]:=by kernel_rfl
 have rn:∀ f,lO f kcL=kcL:=fun f=>rfl;have ln:kcL.length=24:=by kernel_rfl
 have kc:kcL=[.str AAt,.str ⟨⟨[102]⟩⟩,.str AAu,.str AAH,.str AAv,.str ⟨⟨[110]⟩⟩,.str AAw,.str ⟨⟨[]⟩⟩,.str AAx,.str ⟨⟨[109,110]⟩⟩,.str AAy,.str AAI,.str AAz,.str ⟨⟨[102]⟩⟩,.str AAA,.str ⟨⟨[]⟩⟩,.str AAB,.str ⟨⟨[110]⟩⟩,.str AAC,.str ⟨⟨[109]⟩⟩,.str AAD,.str ⟨⟨[112]⟩⟩,.str AAE,.str ⟨⟨[102]⟩⟩]:=rfl;have lp:∀ i,i<12→(((2*i:Nat):Int)<((24:Nat):Int))=True:=fun i hi=>AAa;have hfl:(List.replicate 24 [AV.str ⟨⟨[]⟩⟩]).flatten=[.str ⟨⟨[]⟩⟩,.str ⟨⟨[]⟩⟩,.str ⟨⟨[]⟩⟩,.str ⟨⟨[]⟩⟩,.str ⟨⟨[]⟩⟩,.str ⟨⟨[]⟩⟩,.str ⟨⟨[]⟩⟩,.str ⟨⟨[]⟩⟩,.str ⟨⟨[]⟩⟩,.str ⟨⟨[]⟩⟩,.str ⟨⟨[]⟩⟩,.str ⟨⟨[]⟩⟩,.str ⟨⟨[]⟩⟩,.str ⟨⟨[]⟩⟩,.str ⟨⟨[]⟩⟩,.str ⟨⟨[]⟩⟩,.str ⟨⟨[]⟩⟩,.str ⟨⟨[]⟩⟩,.str ⟨⟨[]⟩⟩,.str ⟨⟨[]⟩⟩,.str ⟨⟨[]⟩⟩,.str ⟨⟨[]⟩⟩,.str ⟨⟨[]⟩⟩,.str ⟨⟨[]⟩⟩]:=rfl;rw[rq 102 aSs rfl];unfold aSs;dsimp only;sym =>
  simp[Za,Zb,Zd,Ze,Zf,Zh,Zl,Zm,Zo,Zv,Z8,ZA,ZH,ZR,ZV,Yv,Yy,Y6,YG,YL,YM,Xx,Xz,XM,Wg,Wr,Wu,Wy,WE,Va,Vo,V0,V1,V2,V4,V6,V7,VA,VE,VF,VH,VJ,VK,VM,VO,VP,VQ,VR,VW,VX,Uc,Ut,UD,UE,UG,UH,UI,UJ,UK,UN,UO,UP,UQ,UT,UU,UV,UW,UX,UY,UZ,Ta,Tb,Tc,Td,Te,Tf,Tg,Ti,Tj,Tl,Tp,Ts,Tz,T4,T5,T6,T7,T8,TA,TB,TC,TD,TE,TF,TK,TL,TM,TN,TO,TP,TY,TZ,Sr,Ss,Su,Sy,S6,SD,SE,SF,SG,SI,SJ,SK,SL,SN,SO,SP,SQ,SS,SU,SV,SW,Rz,R0,RC,Qx,hfl]
  tactic =>
   unfold aNC;rw[←kc];rw[aJ m (fun i=>[.str w,.sl 0 0 1 24,I (2*i:Nat)]) (fun _=>[aa kcL])]
   ·clear kc
    by_cases hm:m=12
    ·rw[k2 hm,hm]
     generalize kcL=KC at *;(exact uJ gr nm sl rn ln)
    ·obtain⟨p,hp,p1,p2⟩:=aPZ m AT
     have hw:p.1=w:=by
      grind
     rw[k1 p hp hw.symm];have e1:=iP p.1 w;rw[AAj hw]at e1;have l1:=lp m AT;have l2:(2*m<24)=True:=AAa;have l3:(((2*m:Nat):Int)+1<24)=True:=AAa;have u1:IntKind.i64.wrap (((2*m:Nat):Int)+1)=((2*m+1:Nat):Int):=by grind [aF]
     have l4:(((2*m+1:Nat):Int)<((24:Nat):Int))=True:=AAa;clear m2 m3 hne k1 k2;generalize kcL=KC at *;generalize 2*m+1=M1 at *;generalize 2*m=M0 at *;(exact gF gr nm sl rn ln p1 p2 e1 l1 l2 l4 u1 aE)
   ·rfl
   ·intro i hi
    obtain⟨p,hp,p1,p2⟩:=aPZ i AT;have hw:¬p.1=w:=fun e=>hne i hi p hp e.symm;have e1:=iP p.1 w;rw[AAk hw]at e1;have l1:=lp i AT;have u1:IntKind.i64.wrap (((2*i:Nat):Int)+2)=((2*(i+1):Nat):Int):=by grind [aF]
    clear m2 m3 hne k1 k2 kc;generalize 2*(i+1)=M1 at *;generalize 2*i=M0 at *;generalize kcL=KC at *;(exact vA gr nm sl rn ln p1 e1 l1 u1)
   ·clear kc
    by_cases hm:m=12
    ·rw[hm]
     generalize kcL=KC at *;(exact uJ gr nm sl rn ln)
    ·obtain⟨p,hp,p1,p2⟩:=aPZ m AT
     have hw:p.1=w:=by
      grind
     have e1:=iP p.1 w;rw[AAj hw]at e1;have l1:=lp m AT;have u1:IntKind.i64.wrap (((2*m:Nat):Int)+1)=((2*m+1:Nat):Int):=by grind [aF]
     have l4:(((2*m+1:Nat):Int)<((24:Nat):Int))=True:=AAa;clear m2 m3 hne k1 k2;generalize kcL=KC at *;generalize 2*m+1=M1 at *;generalize 2*m=M0 at *;(exact gF gr nm sl rn ln p1 p2 e1 l1 l4 u1 aE aE)
def nvl(f:List Nat)(i:Nat):Nat:=(f.take i).foldl (fun n x=>10*n+(x-48)) 0
theorem aPJ{f:List Nat}{i x:Nat}(h:f[i]?=some x):nvl f (i+1)=10*nvl f i+(x-48):=by
 grind [List.take_add_one,nvl]
def dgB(x:Nat):Bool:=decide (48≤x)&&decide (x≤57)
def aDJ(s:ByteArray):Int:=if 1≤s.size∧s.size≤5∧¬(1<s.size∧(bN s).getD 0 0=48)∧∀ i,i<s.size→dgB ((bN s).getD i 0)=true then (nvl (bN s) s.size:Int) else -1
theorem aJF{f:List Nat}(h:∀ i,i<f.length→dgB (f.getD i 0)=true):∀ i,i≤f.length→nvl f i<10^i
 | 0,_=>by simp[nvl]
 | i+1,hi=>by
   have ih:=aJF h i AT;obtain⟨x,hx⟩:=dD (l:=f) (i:=i) AT;have hb:=h i AT;rw[C9,hx]at hb;simp only[dgB,G3,B4,AAg]at hb
   grind [aPJ]
theorem aOY{i:Nat}(hs:s.size≤1000)(hi:i<s.size)(hb:dgB ((bN s).getD i 0)=true)(hv:nvl (bN s) i≤1000000):cC 0 [0,3,4] (execW progG 104 0 none (match aCI with | .loop _ a=>a|c=>c) (bB [0,3,4] [.str s,I (nvl (bN s) i:Nat),I (i:Nat)]) []) =
 some ([.str s,I (nvl (bN s) (i+1):Nat),I (i+1:Nat)],[]):=by
 obtain⟨x,x1,x2,x3⟩:=aCb hi;obtain⟨x',h1,_,_⟩:=aGb hi;obtain rfl:x'=x:=AT
 rw[x1]at hb;simp only[dgB,B4,AAg]at hb;have i1:((i:Int)<(s.size:Int))=True:=AAa;have i2:(i<s.size)=True:=AAn hi;have y1:((x':Int)<48)=False:=AAb;have y2:((57:Int)<(x':Int))=False:=AAb;have y3:IntKind.u8.wrap ((x':Int)-48)=(x':Int)-48:=by
  simp[IntKind.wrap,IntKind.bits,IntKind.signed];omega
 have y4:IntKind.i64.wrap ((x':Int)-48)=(x':Int)-48:=aF AT AT;have y5:IntKind.i64.wrap (10*(nvl (bN s) i:Int))=10*(nvl (bN s) i:Int):=aF AT AT;have y6:IntKind.i64.wrap (10*(nvl (bN s) i:Int)+((x':Int)-48))=((10*nvl (bN s) i+(x'-48):Nat):Int):=by grind [aF]
 have up:IntKind.i64.wrap ((i:Int)+1)=(i:Int)+1:=aF AT AT;rw[aPJ h1];generalize nvl (bN s) i=v at *;generalize 10*v+(x'-48)=v2 at *;unfold aCI;dsimp only;(exact jE i1 i2 x3 y1 y2 y3 y4 y5 y6 up)
theorem a104(hs:s.size≤1000):runW progG 104 [.str s] []=some (I (aDJ s),[]):=by
 have c39:=a39 (s.size:Int) 1 5;have bl:=qZ s;by_cases h1:1≤s.size∧s.size≤5
 ·have d1:(decide ((1:Int)≤(s.size:Int))&&decide ((s.size:Int)≤5))=true:=by simp;omega
  rw[d1]at c39;by_cases h2:1<s.size∧(bN s).getD 0 0=48
  ·rw[aDJ,if_neg (fun h=>h.2.2.1 h2)]
   obtain⟨x,x1,x2,x3⟩:=aCb (s:=s) (i:=0) AT;have t1:((1:Int)<(s.size:Int))=True:=AAa;have t2:((x:Int)=48)=True:=AAa;have t3:(0<s.size)=True:=AAa;have t4:((0:Int)<(s.size:Int))=True:=AAa;rw[rq 104 aHA rfl];unfold aHA;dsimp only;(exact mK c39 t1 t2 t3 t4 x3 aE)
  ·have pre:∃ b:Bool,((1:Int)<(s.size:Int))=(b=true)∧(b=true→(((s.data.toList.getD 0 0).toNat:Int)=48)=False):=by
    refine⟨decide (1<s.size),by simp;omega,fun hb=>?_⟩;have hb:=of_decide_eq_true hb;obtain⟨x,x1,x2,x3⟩:=aCb (s:=s) (i:=0) AT
    grind
   obtain⟨m,m1,m2,m3⟩:=lH (fun i=>dgB ((bN s).getD i 0)) s.size;have e0:((s.size:Int)<(s.size:Int))=False:=AAb;have t3:(0<s.size)=True:=AAa;have t4:((0:Int)<(s.size:Int))=True:=AAa;have bd:∀ i,i<m→nvl (bN s) i≤1000000:=fun i hi=>by
    have h:=aJF (f:=(bN s).take m) (fun j hj=>by
     grind) i (by grind)
    have e:nvl ((bN s).take m) i=nvl (bN s) i:=by unfold nvl;grind
    rw[e]at h;have:10^i≤10^5:=F9 AT AT;omega
   obtain⟨b,hb1,hb2⟩:=pre;have hR:m=s.size→aDJ s=(nvl (bN s) s.size:Nat):=fun hm=>by
    rw[aDJ,if_pos ⟨h1.1,h1.2,h2,fun i hi=>m2 i AT⟩]
   have hRn:m<s.size→dgB ((bN s).getD m 0)=false→aDJ s = -1:=fun hm hb=>by
    rw[aDJ,if_neg (fun h=>by grind)]
   have rd:=fun i (hi:i<m)=>aOY (s:=s) (i:=i) hs AT (m2 i hi) (bd i hi);rw[rq 104 aHA rfl];unfold aHA;dsimp only;cases b
   ·have hb1:((1:Int)<(s.size:Int))=False:=by grind
    sym =>
     simp[Za,Zb,Zf,Zh,Zl,Zm,Zp,Zq,Zr,Zs,Zt,Zu,Zv,Zy,ZA,ZD,ZJ,ZR,Ye,Yh,Ym,Yn,Yo,Yp,Yq,Yx,YE,YG,YJ,YL,YM,YQ,Xv,Xx,Wr,Wt,WB,WY,Va,V7,V8,VH,VL,VM,VN,VP,VQ,VS,VT,Uf,Ug,Uh,Ut,UD,UE,UG,UH,UI,UJ,UK,UN,UO,UP,UQ,US,UT,UW,UX,UY,UZ,Ta,Tb,Tc,Td,Tf,Tg,Ti,Tl,Tv,Tw,Tz,T5,T6,T9,TA,TB,TC,TD,TK,TL,Sr,SD,SF,SG,SI,SJ,SK,SL,SN,SO,SQ,SS,SV,SW,Qx,Pu,Pv,Pw,Px,c39,t3,t4,hb1,e0]
     tactic =>
      unfold aCI;rw[aJ m (fun i=>[.str s,I (nvl (bN s) i:Nat),I (i:Nat)]) (fun _=>[])]
      ·rcases m3 with hm|⟨hm,hbad⟩
       ·rw[hR hm,hm]
        (exact cK e0)
       ·rw[hRn hm hbad]
        obtain⟨x,x1,x2,x3⟩:=aCb hm;have i1:((m:Int)<(s.size:Int))=True:=AAa;have i2:(m<s.size)=True:=AAn hm;rw[x1]at hbad;by_cases q:x<48
        ·have y1:((x:Int)<48)=True:=AAa
         (exact vB i1 i2 x3 y1)
        ·have y1:((x:Int)<48)=False:=AAb
         have y2:((57:Int)<(x:Int))=True:=AAn (by simp[dgB]at hbad;omega);(exact uJ i1 i2 x3 y1 y2)
      ·rfl
      ·exact rd
      ·rcases m3 with hm|⟨hm,hbad⟩
       ·rw[hm]
        (exact cK e0)
       ·obtain⟨x,x1,x2,x3⟩:=aCb hm
        have i1:((m:Int)<(s.size:Int))=True:=AAa;have i2:(m<s.size)=True:=AAn hm;rw[x1]at hbad;by_cases q:x<48
        ·have y1:((x:Int)<48)=True:=AAa
         (exact vB i1 i2 x3 y1)
        ·have y1:((x:Int)<48)=False:=AAb
         have y2:((57:Int)<(x:Int))=True:=AAn (by simp[dgB]at hbad;omega);(exact uJ i1 i2 x3 y1 y2)
   ·have hb2:=hb2 rfl
    have hb1:((1:Int)<(s.size:Int))=True:=by grind
    sym =>
     simp[Za,Zb,Zf,Zh,Zl,Zm,Zp,Zq,Zr,Zs,Zt,Zu,Zv,Zy,ZA,ZD,ZJ,ZR,Ye,Yh,Ym,Yn,Yo,Yp,Yq,Yx,YE,YG,YJ,YL,YM,YQ,Xv,Xx,Wr,Wt,WB,WY,Va,V7,V8,VH,VL,VM,VN,VP,VQ,VS,VT,Uf,Ug,Uh,Ut,UD,UE,UG,UH,UI,UJ,UK,UN,UO,UP,UQ,US,UT,UW,UX,UY,UZ,Ta,Tb,Tc,Td,Tf,Tg,Ti,Tl,Tv,Tw,Tz,T5,T6,T9,TA,TB,TC,TD,TK,TL,Sr,SD,SF,SG,SI,SJ,SK,SL,SN,SO,SQ,SS,SV,SW,Qx,Pu,Pv,Pw,Px,c39,t3,t4,hb1,hb2,e0]
     tactic =>
      unfold aCI;rw[aJ m (fun i=>[.str s,I (nvl (bN s) i:Nat),I (i:Nat)]) (fun _=>[])]
      ·rcases m3 with hm|⟨hm,hbad⟩
       ·rw[hR hm,hm]
        (exact cK e0)
       ·rw[hRn hm hbad]
        obtain⟨x,x1,x2,x3⟩:=aCb hm;have i1:((m:Int)<(s.size:Int))=True:=AAa;have i2:(m<s.size)=True:=AAn hm;rw[x1]at hbad;by_cases q:x<48
        ·have y1:((x:Int)<48)=True:=AAa
         (exact vB i1 i2 x3 y1)
        ·have y1:((x:Int)<48)=False:=AAb
         have y2:((57:Int)<(x:Int))=True:=AAn (by simp[dgB]at hbad;omega);(exact uJ i1 i2 x3 y1 y2)
      ·rfl
      ·exact rd
      ·rcases m3 with hm|⟨hm,hbad⟩
       ·rw[hm]
        (exact cK e0)
       ·obtain⟨x,x1,x2,x3⟩:=aCb hm
        have i1:((m:Int)<(s.size:Int))=True:=AAa;have i2:(m<s.size)=True:=AAn hm;rw[x1]at hbad;by_cases q:x<48
        ·have y1:((x:Int)<48)=True:=AAa
         (exact vB i1 i2 x3 y1)
        ·have y1:((x:Int)<48)=False:=AAb
         have y2:((57:Int)<(x:Int))=True:=AAn (by simp[dgB]at hbad;omega);(exact uJ i1 i2 x3 y1 y2)
 ·rw[aDJ,if_neg (fun h=>h1 ⟨h.1,h.2.1⟩)]
  have d1:(decide ((1:Int)≤(s.size:Int))&&decide ((s.size:Int)≤5))=false:=by
   grind
  rw[d1]at c39;rw[rq 104 aHA rfl];unfold aHA;dsimp only;(exact cK c39)
end
section
variable{F w0 line:ByteArray}{xs:List ByteArray}
theorem aLd(hf:aQ true (.str w0) fmE=some (some (.str F))):(w0,F)∈fmL∧kdB w0=F:=by
 grind [aCy,kdB,fmE]
theorem aXs:(fmL.all fun p=>decide (p.2≠⟨⟨[63]⟩⟩)&&(List.range p.2.size).all fun i=>decide (((p.2.data.toList.getD i 0).toNat:Int)=dk p.2 i))=true:=by kernel_rfl
theorem aLn(h:(w0,F)∈fmL):F≠⟨⟨[63]⟩⟩∧∀ i,i<F.size→((F.data.toList.getD i 0).toNat:Int)=dk F i:=by
 have h:=D4.1 aXs _ h
 grind
def pE(e:Int):AV:=.tup [.fs [],.fs [],I e]
def pV(r:ByteArray×List ByteArray×List Int):AV:=.tup [.fs (rS (r.1::r.2.1)),.fs ((0::r.2.2).map fun v=>[I v]),I 0]
theorem aOQ(l:Ln line w0 xs F){i:Nat}(hi:i<F.size){y:ByteArray}(hy:xs[i]?=some y)(hn:dk F i=110∨aU y=true) :
 cC 0 [5,6,7] (execW progG 64 0 none (match aCF with | .loop _ a=>a|c=>c) (bB [5,6,7] [.fs (rS (w0::xs)),.str F,I (i:Nat)]) [])=some ([.fs (rS (w0::xs)),.str F,I (i+1:Nat)],[]):=by
 obtain⟨hl,hF,ok,hs⟩:=l.ws;have fb:=(aLn (aLd l.hf).1).2 i hi;have d1:(i<F.size)=True:=AAn hi;have d3:((i:Int)<(F.size:Int))=True:=AAa;have rl:=eX (w0::xs);rw[D5,hl]at rl;have ra:(rS (w0::xs))[i+1]?=some [.str y]:=by grind [rS]
 have h103:=bBI y (by grind);have up:=dU (i:=i) (n:=2000) AT AT;have up1:IntKind.i64.wrap ((i:Int)+1)=((i+1:Nat):Int):=by rw[up];rfl
 have d4:(((i+1:Nat):Int)<((F.size+1:Nat):Int))=True:=AAa;generalize rS (w0::xs)=R at *;unfold aCF;dsimp only;by_cases h1:dk F i=110
 ·have e1:(dk F i=110)=True:=AAn h1
  (exact uJ d1 d3 fb e1 up1)
 ·have e1:(dk F i=110)=False:=AAo h1
  rw[hn.resolve_left h1]at h103;generalize hi1:i+1=i1 at *;(exact vA d1 d3 fb e1 up1 rl ra h103 d4)
theorem aOA{α:Type}(a:α)(l:List α)(i:Nat)(v:α):aCU (a::l) (i+1) v=a::aCU l i v:=by simp[aCU]
theorem aOP(nR:∀ s,aDJ s=(cD s).getD (-1))(l:Ln line w0 xs F){i:Nat}(hi:i<F.size){y:ByteArray}(hy:xs[i]?=some y)(hn:dk F i=110→∃ v,cD y=some v) :
 cC 0 [5,6,8,9] (execW progG 64 0 none (match aFh with | .loop _ a=>a|c=>c) (bB [5,6,8,9] [.fs (rS (w0::xs)),.str F,.sl 0 0 1 (F.size+1),I (i:Nat)]) [aa ((0::kB F xs i).map I)]) =
  some ([.fs (rS (w0::xs)),.str F,.sl 0 0 1 (F.size+1),I (i+1:Nat)],[aa ((0::kB F xs (i+1)).map I)]):=by
 obtain⟨hl,hF,ok,hs⟩:=l.ws;have fb:=(aLn (aLd l.hf).1).2 i hi;have d1:(i<F.size)=True:=AAn hi;have d3:((i:Int)<(F.size:Int))=True:=AAa;have rl:=eX (w0::xs);rw[D5,hl]at rl;have ra:(rS (w0::xs))[i+1]?=some [.str y]:=by grind [rS]
 have c104:=a104 (s:=y) (by grind);have up:=dU (i:=i) (n:=2000) AT AT;have up1:IntKind.i64.wrap ((i:Int)+1)=((i+1:Nat):Int):=by rw[up];rfl
 have d4:(((i+1:Nat):Int)<((F.size+1:Nat):Int))=True:=AAa;have d5:(i+1+1≤F.size+1)=True:=AAa;generalize rS (w0::xs)=R at *;by_cases h1:dk F i=110
 ·obtain⟨v,hv⟩:=hn h1
  obtain⟨_,v2,v3,_⟩:=fL hv;rw[nR,hv,G3]at c104;have e1:(dk F i=110)=True:=AAn h1;have st:=aOA 0 (kB F xs i) i v;rw[←aPK hi hy h1 hv]at st;have nl:(0::kB F xs i).length=F.size+1:=by grind [tN]
  have gt:(aCU (0::kB F xs i) (i+1) v)[i+1]?=some v:=by grind [aAi]
  rw[st]at gt;have sl:(0::kB F xs (i+1)).length=F.size+1:=by grind [tN]
  have vz:(v<0)=False:=AAb;generalize (0:Int)::kB F xs (i+1)=N1 at *;generalize (0:Int)::kB F xs i=N0 at *;unfold aFh;dsimp only;generalize i+1=i1 at *;(exact fN d1 d3 fb e1 up1 rl ra c104 d4 d5 st nl gt sl vz aE aE aE aE aE)
 ·have e1:(dk F i=110)=False:=AAo h1
  rw[aPL h1];generalize (0:Int)::kB F xs i=N0 at *;unfold aFh;dsimp only;(exact uJ d1 d3 fb e1 up1)
end
def vF(n x:Nat):Nat:=10*n+(x-48)
def vL(l:List UInt8):Nat:=(l.map UInt8.toNat).foldl vF 0
theorem aVi:∀(l:List Nat)(a:Nat),a≤l.foldl vF a
 | [],a=>B5 _
 | x::l,a=>by
   have:=aVi l (vF a x);rw[aB0];unfold vF at *;omega
theorem aWb(l:List UInt8)(c:UInt8):vL (l++[c])=10*vL l+(c.toNat-48):=by
 unfold vL;simp[vF]
theorem aQJ:∀(n:Nat)(l:List UInt8),l.length=n→l≠[]→(∀ c∈l,48≤c.toNat∧c.toNat≤57)→(1<l.length→∀ c,l.head?=some c→c.toNat≠48)→Lib.decDigits (vL l)=l
 | 0,l,hn,h0,_,_=>absurd (D0 hn) h0
 | n+1,l,hn,h0,hd,hh=>by
   obtain⟨l',c,rfl⟩:∃ l' c,l=l'++[c]:=⟨_,_,(List.dropLast_concat_getLast h0).symm⟩;rw[F6,aA2]at hn;have hc:=hd c (by simp);have hcc:UInt8.ofNat (48+(c.toNat-48))=c:=by
    simp_all
   rw[aWb];cases l' with
   | nil =>
     show Lib.decDigits (10*0+(c.toNat-48))=[c];rw[Nat.mul_zero,J4,Lib.decDigits,AAq AT,hcc]
   | cons a r =>
     have ha:=hd a (by simp);have hne:=hh (by simp) a (by simp);have hv:1≤vL (a::r):=by
      have:=aVi (r.map UInt8.toNat) (a.toNat-48)
      grind [vL,vF]
     have ih:=aQJ n (a::r) AT (by simp) (fun x hx=>hd x (I0 _ hx)) (fun _ x hx=>by
      grind)
     rw[Lib.decDigits,AAr AT,show (10*vL (a::r)+(c.toNat-48))/10=vL (a::r) by omega,ih,show (10*vL (a::r)+(c.toNat-48))%10=c.toNat-48 by omega,hcc]
theorem aQK:∀(f n:Nat),n<10^(f+1)→1≤(Lib.decDigits n).length∧(Lib.decDigits n).length≤f+1∧(1<(Lib.decDigits n).length→∀ c,(Lib.decDigits n).head?=some c→c.toNat≠48)
 | f, n, hn=>by
   by_cases h10:n<10
   ·rw[Lib.decDigits,AAq h10]
    grind
   ·cases f with
    | zero=>omega
    | succ f =>
      obtain⟨i1,i2,i3⟩:=aQK f (n/10) AT;rw[Lib.decDigits,AAr h10];refine⟨by simp,by simp;omega,fun _ c hc=>?_⟩;obtain⟨a,r,hr⟩:=aKg (n/10);rw[hr]at hc i3;have hca:c=a:=by grind
      subst hca;by_cases h1:1<(c::r).length;·grind
      ·have hr0:r=[]:=by grind
       subst hr0;by_cases h100:n/10<10
       ·rw[Lib.decDigits,AAq h100]at hr
        grind [sJ]
       ·rw[Lib.decDigits,AAr h100]at hr
        obtain⟨a',r',hr'⟩:=aKg (n/10/10)
        grind
theorem aFB(s:ByteArray):aDJ s=(cD s).getD (-1):=by
 have bl:=qZ s;have hl:s.data.toList.length=s.size:=G9;have bt:∀ i (h:i<s.size),(bN s).getD i 0=(s.data.toList[i]'AT).toNat:=fun i h=>by
  grind [bN]
 by_cases hc:1≤s.size∧s.size≤5∧¬(1<s.size∧(bN s).getD 0 0=48)∧∀ i,i<s.size→dgB ((bN s).getD i 0)=true
 ·rw[aDJ,if_pos hc]
  obtain⟨h1,h2,h3,h4⟩:=hc;have hd:∀ c∈s.data.toList,48≤c.toNat∧c.toNat≤57:=fun c hcm=>by
   grind [List.mem_iff_getElem?,dgB]
  have e:nvl (bN s) s.size=vL s.data.toList:=by
   unfold nvl vL;rw[C4 AT];rfl
  have dv:=aQJ _ s.data.toList rfl (fun h=>by grind) hd (fun hlt c hcm=>by
   grind [List.head?_eq_getElem?])
  have bd:=aJF (f:=bN s) (fun i hi=>h4 i AT) s.size AT;have p5:10^s.size≤10^5:=F9 AT h2;have hs:dg (nvl (bN s) s.size)=s:=by
   unfold dg;rw[e,dv]
  grind [aTA]
 ·rw[aDJ,if_neg hc]
  cases hn:cD s with
  | none=>rfl
  | some v =>
    exfalso;obtain⟨_,v0,v1,v2⟩:=fL hn;obtain⟨n,rfl⟩:=M3 v0;rw[aDT]at v2;have hsz:s.size=(Lib.decDigits n).length:=by grind
    have ht:s.data.toList=Lib.decDigits n:=by rw[←v2]
    obtain⟨s1,s2,s3⟩:=aQK 4 n AT;have da:=aCC 5 n AT
    grind [List.head?_eq_getElem?,dgB]
section
variable{F w0 line:ByteArray}{xs:List ByteArray}
theorem aUF(h:40<line.size):runW progG 64 [.str line] []=some (pE 14,[]):=by
 have t:((40:Int)<(line.size:Int))=True:=AAa;unfold pE;rw[rq 64 x64 rfl];unfold x64;dsimp only;(exact cK t)
theorem aTG{f:ByteArray}{b:Bool}(hf:aAM true (.str ⟨⟨[]⟩⟩) (aQ true (.str w0) fmE)=some (.tup [.str f,.bool b])):(b=true→kdB w0=f∧f≠⟨⟨[63]⟩⟩)∧(b=false→kdB w0=⟨⟨[63]⟩⟩):=by
 have h:=aCy (w:=w0) fmL;unfold fmE at hf;rw[h]at hf;cases hx:fmL.find? (fun p=>decide (w0=p.1))with
 | none =>
   rw[hx]at hf;have hf:some (AV.tup [.str ⟨⟨[]⟩⟩,.bool false])=some (.tup [.str f,.bool b]):=hf
   grind [kdB]
 | some p =>
   rw[hx]at hf;have hf:some (AV.tup [.str p.2,.bool true])=some (.tup [.str f,.bool b]):=hf
   grind [aLn,kdB]
theorem aUG{f:ByteArray}{b:Bool}(hs:line.size≤40)(hw:bQ line=w0::xs)(hf:aAM true (.str ⟨⟨[]⟩⟩) (aQ true (.str w0) fmE)=some (.tup [.str f,.bool b]))(hF:f.size≤4)(hn:b=true→xs.length≠f.size):runW progG 64 [.str line] []=some (pE 13,[]):=by
 have t:((40:Int)<(line.size:Int))=False:=AAb;have c101:=a101 (s:=line) AT;rw[hw]at c101;have c102:=a102 w0;have r0:(rS (w0::xs))[0]?=some [.str w0]:=rfl;have rl:=eX (w0::xs);rw[D5]at rl;have n0:((0:Int)<((xs.length+1:Nat):Int))=True:=AAa;obtain⟨k1,k2⟩:=aTG hf;unfold pE;cases b with
 | false =>
   rw[k2 rfl]at c102;have sq:aN .eql ⟨⟨[63]⟩⟩ ⟨⟨[63]⟩⟩=some (.bool true):=by kernel_rfl
   generalize rS (w0::xs)=R at *;rw[rq 64 x64 rfl];unfold x64;dsimp only;(exact mK t c101 c102 r0 rl n0 sq)
 | true =>
   rw[(k1 rfl).1]at c102;have sq:=iP f ⟨⟨[63]⟩⟩;rw[AAk (k1 rfl).2]at sq;have a1:IntKind.i64.wrap ((f.size:Int)+1)=((f.size+1:Nat):Int):=by grind [aF]
   have ne:(((xs.length+1:Nat):Int)=((f.size+1:Nat):Int))=False:=AAo (by grind);generalize rS (w0::xs)=R at *;rw[rq 64 x64 rfl];unfold x64;dsimp only;(exact vA t c101 c102 r0 rl n0 sq a1 ne)
theorem aUR(l:Ln line w0 xs F){j:Nat}(hj:j<F.size):∃ y,xs[j]?=some y∧xs.getD j ByteArray.empty=y:=by
 have hl:=l.ws.1
 grind
theorem aRC(l:Ln line w0 xs F):runW progG 64 [.str line] []=some (if (List.range F.size).all (fun j=>decide (dk F j=110)||aU (xs.getD j ByteArray.empty)) then (if (List.range F.size).all (fun j=>decide (dk F j=110→cD (xs.getD j ByteArray.empty)≠none)) then pV (w0,xs,kB F xs F.size) else pE 2) else pE 8,[]):=by
 obtain⟨hl,hF,ok,hsz⟩:=l.ws;obtain⟨fm,kd⟩:=aLd l.hf;obtain⟨fne,fb⟩:=aLn fm;have hs:=l.hs;have t:((40:Int)<(line.size:Int))=False:=AAb;have c101:=a101 (s:=line) AT;rw[l.hw]at c101;have c102:=a102 w0;rw[kd]at c102;have r0:(rS (w0::xs))[0]?=some [.str w0]:=rfl;have rl:=eX (w0::xs);rw[D5,hl]at rl;have n0:((0:Int)<((F.size+1:Nat):Int))=True:=AAa;have sq:=iP F ⟨⟨[63]⟩⟩;rw[AAk fne]at sq;have a1:IntKind.i64.wrap ((F.size:Int)+1)=((F.size+1:Nat):Int):=by grind [aF]
 have e0:((F.size:Int)<(F.size:Int))=False:=AAb;have z0:((0:Int)≤((F.size+1:Nat):Int))=True:=AAa;have z1:((8:Int)*((F.size+1:Nat):Int)≤281474976710656)=True:=AAa;have z3:(((F.size+1:Nat):Int)≤((F.size+1:Nat):Int))=True:=AAa;have z4:(((F.size+1:Nat):Int)).toNat=F.size+1:=I7 _;have z2:(((F.size+1:Nat):Int)≤9223372036854775807)=True:=AAa;have z5:(List.replicate (F.size+1) [AV.int .i64 0]).flatten=((0:Int)::kB F xs 0).map I:=by
  grind [aGd,aKV]
 have z6:(0:Int)::kB F xs 0=List.replicate (F.size+1) 0:=by rw[aKV];rfl
 have ra:∀ i y,xs[i]?=some y→(rS (w0::xs))[i+1]?=some [.str y]:=fun i y hy=>rO (s:=y) (by grind);have dlt:∀ i,i<F.size→(i<F.size)=True:=fun i hi=>AAn hi;have ilt:∀ i:Nat,i<F.size→((i:Int)<(F.size:Int))=True:=fun i hi=>AAa;have ilt1:∀ i:Nat,i<F.size→(((i+1:Nat):Int)<((F.size+1:Nat):Int))=True:=fun i hi=>AAa;have up1:∀ i:Nat,i<F.size→IntKind.i64.wrap ((i:Int)+1)=((i+1:Nat):Int):=fun i hi=>by grind [aF]
 obtain⟨m,m1,m2,m3⟩:=lH (fun j=>decide (dk F j=110)||aU (xs.getD j ByteArray.empty)) F.size;have ok1:∀ i,i<m→∀ y,xs[i]?=some y→dk F i=110∨aU y=true:=fun i hi y hy=>by
  grind
 have gx:∀ i,i<F.size→xs[i]?=some (xs.getD i ByteArray.empty):=fun i hi=>by
  grind
 have rd:=fun i (hi:i<m)=>aOQ l (i:=i) AT (gx i AT) (ok1 i hi _ (gx i AT));rcases m3 with hm|⟨hm,hb⟩
 ·subst hm
  have h1:(List.range F.size).all (fun j=>decide (dk F j=110)||aU (xs.getD j ByteArray.empty))=true:=D4.2 fun j hj=>m2 j (I3.1 hj);rw[if_pos h1];obtain⟨q,q1,q2,q3⟩:=lH (fun j=>decide (dk F j=110→cD (xs.getD j ByteArray.empty)≠none)) F.size;have ok2:∀ i,i<q→∀ y,xs[i]?=some y→dk F i=110→∃ v,cD y=some v:=fun i hi y hy hk=>by
   have h:=of_decide_eq_true (q2 i hi) hk;rw[C9,hy]at h;exact M9.1 h
  have rd2:=fun i (hi:i<q)=>aOP aFB l (i:=i) AT (gx i AT) (ok2 i hi _ (gx i AT));rcases q3 with hq|⟨hq,hb⟩
  ·subst hq
   have h2:(List.range F.size).all (fun j=>decide (dk F j=110→cD (xs.getD j ByteArray.empty)≠none))=true:=D4.2 fun j hj=>q2 j (I3.1 hj);rw[if_pos h2];show runW progG 64 [.str line] []=some (.tup [.fs (rS (w0::xs)),.fs (((0:Int)::kB F xs F.size).map fun v=>[I v]),I 0],[]);have nl:((0:Int)::kB F xs F.size).length=F.size+1:=by grind [tN]
   have ch:bG (((0:Int)::kB F xs F.size).map I) 0 1 (F.size+1)=((0:Int)::kB F xs F.size).map fun v=>[I v]:=by
    have:=xZ (f:=I) ((0:Int)::kB F xs F.size) []
    grind
   obtain⟨N,hN⟩:∃ N,(0:Int)::kB F xs F.size=N:=⟨_,rfl⟩;rw[hN]at nl ch ⊢;rw[rq 64 x64 rfl];unfold x64;dsimp only;sym =>
    simp[Za,Zb,Zc,Zf,Zg,Zh,Zj,Zl,Zm,Zo,Zp,Zq,Zr,Zv,Zy,ZA,ZD,ZH,ZJ,ZK,ZR,ZV,ZZ,Ya,Ye,Yh,Ym,Yn,Yo,Yp,Yq,Yu,Yx,Yy,Yz,Y4,Y6,YE,YF,YG,YJ,YL,YM,YQ,Xh,Xv,Xx,Xz,XJ,XL,We,Wr,Wt,Wu,Ww,Wx,WB,WE,WG,WH,WI,WK,WP,WT,WU,WV,WY,Va,Vc,Vd,Vg,Vm,V0,V1,V2,V3,V7,V8,V9,VH,VL,VM,VN,VO,VP,VQ,VS,VT,Uf,Ug,Uh,Uo,Ur,Us,Ut,Uu,Uv,Uw,Ux,U8,UA,UD,UE,UG,UH,UI,UJ,UM,UN,UO,UP,UQ,US,UT,UW,UX,UY,UZ,Ta,Tb,Tc,Td,Tf,Tg,Ti,Tj,Tl,Tm,Tn,Tp,Ts,Tv,Tw,Tz,T5,T6,T9,TA,TB,TC,TD,TE,TF,TG,TH,TI,TJ,TK,TL,Se,Sf,Sr,Ss,Su,Sv,Sw,Sy,Sz,S3,S6,SD,SE,SF,SG,SI,SJ,SK,SL,SN,SO,SQ,SS,SV,SW,Rz,R0,RG,RI,RO,Qx,Qz,QA,QS,QU,QW,QX,QY,QZ,Pu,Pv,Pw,Px,t,c101,c102,r0,rl,n0,sq,a1]
    tactic =>
     unfold aCF;rw[aJ F.size (fun i=>[.fs (rS (w0::xs)),.str F,I (i:Nat)]) (fun _=>[])]
     ·clear rd
      sym =>
       simp[Za,Zb,Zc,Zf,Zg,Zh,Zj,Zl,Zm,Zo,Zp,Zq,Zr,Zv,Zy,ZA,ZD,ZH,ZJ,ZK,ZR,ZV,ZZ,Ya,Ye,Yh,Ym,Yn,Yo,Yp,Yq,Yu,Yx,Yy,Yz,Y4,Y6,YE,YF,YG,YJ,YL,YM,YQ,Xh,Xv,Xx,Xz,XJ,XL,We,Wr,Wt,Wu,Ww,Wx,WB,WE,WG,WH,WI,WK,WP,WT,WU,WV,WY,Va,Vc,Vd,Vg,Vm,V0,V1,V2,V3,V7,V8,V9,VH,VL,VM,VN,VO,VP,VQ,VS,VT,Uf,Ug,Uh,Uo,Ur,Us,Ut,Uu,Uv,Uw,Ux,U8,UA,UD,UE,UG,UH,UI,UJ,UM,UN,UO,UP,UQ,US,UT,UW,UX,UY,UZ,Ta,Tb,Tc,Td,Tf,Tg,Ti,Tj,Tl,Tm,Tn,Tp,Ts,Tv,Tw,Tz,T5,T6,T9,TA,TB,TC,TD,TE,TF,TG,TH,TI,TJ,TK,TL,Se,Sf,Sr,Ss,Su,Sv,Sw,Sy,Sz,S3,S6,SD,SE,SF,SG,SI,SJ,SK,SL,SN,SO,SQ,SS,SV,SW,Rz,R0,RG,RI,RO,Qx,Qz,QA,QS,QU,QW,QX,QY,QZ,Pu,Pv,Pw,Px,e0,rl,z0,z1,z2,z3,z4,z5]
       tactic =>
        unfold aFh;rw[aJ F.size (fun i=>[.fs (rS (w0::xs)),.str F,.sl 0 0 1 (F.size+1),I (i:Nat)]) (fun i=>[aa (((0:Int)::kB F xs i).map I)])]
        ·clear rd2
         rw[hN];generalize rS (w0::xs)=R at *;(exact yK e0 nl ch)
        ·rw[show ((0:Nat):Int)=0 from rfl]
         rw[z6];rfl
        ·exact rd2
        ·generalize (0:Int)::kB F xs F.size=N at *
         generalize rS (w0::xs)=R at *;(exact cK e0)
     ·rfl
     ·exact rd
     ·(exact cK e0)
  ·have h2:(List.range F.size).all (fun j=>decide (dk F j=110→cD (xs.getD j ByteArray.empty)≠none))=false:=List.all_eq_false.2 ⟨q,I3.2 hq,by grind⟩
   rw[if_neg (by grind)];unfold pE;obtain⟨y,hy,hyd⟩:=aUR l hq;have hbd:dk F q=110∧cD y=none:=by
    grind
   have c104:=a104 (s:=y) (by have:=hsz y (B3 hy);omega);rw[aFB,hbd.2,Option.getD_none]at c104;have fbq:=fb q hq;have e1:(dk F q=110)=True:=AAn hbd.1;have raq:=ra q y hy;have d1:=dlt q hq;have d2:=ilt q hq;have d3:=ilt1 q hq;have d4:=up1 q hq;have d5:(q+1+1≤F.size+1)=True:=AAa;have nl:((0:Int)::kB F xs q).length=F.size+1:=by grind [tN]
   have st:=aOA 0 (kB F xs q) q (-1);have gt:(aCU ((0:Int)::kB F xs q) (q+1) (-1))[q+1]?=some (-1):=by rw[aAi AT,aB7 AT]
   have sl:(aCU ((0:Int)::kB F xs q) (q+1) (-1)).length=F.size+1:=by rw[aAi AT,G5,nl]
   have vz:((-1:Int)<0)=True:=AAa;clear st;rw[rq 64 x64 rfl];unfold x64;dsimp only;sym =>
    simp[Za,Zb,Zc,Zf,Zg,Zh,Zj,Zl,Zm,Zo,Zp,Zq,Zr,Zv,Zy,ZA,ZD,ZH,ZJ,ZK,ZR,ZV,ZZ,Ya,Ye,Yh,Ym,Yn,Yo,Yp,Yq,Yu,Yx,Yy,Yz,Y4,Y6,YE,YF,YG,YJ,YL,YM,YQ,Xh,Xv,Xx,Xz,XJ,XL,We,Wr,Wt,Wu,Ww,Wx,WB,WE,WG,WH,WI,WK,WP,WT,WU,WV,WY,Va,Vc,Vd,Vg,Vm,V0,V1,V2,V3,V7,V8,V9,VH,VL,VM,VN,VO,VP,VQ,VS,VT,Uf,Ug,Uh,Uo,Ur,Us,Ut,Uu,Uv,Uw,Ux,U8,UA,UD,UE,UG,UH,UI,UJ,UM,UN,UO,UP,UQ,US,UT,UW,UX,UY,UZ,Ta,Tb,Tc,Td,Tf,Tg,Ti,Tj,Tl,Tm,Tn,Tp,Ts,Tv,Tw,Tz,T5,T6,T9,TA,TB,TC,TD,TE,TF,TG,TH,TI,TJ,TK,TL,Se,Sf,Sr,Ss,Su,Sv,Sw,Sy,Sz,S3,S6,SD,SE,SF,SG,SI,SJ,SK,SL,SN,SO,SQ,SS,SV,SW,Rz,R0,RG,RI,RO,Qx,Qz,QA,QS,QU,QW,QX,QY,QZ,Pu,Pv,Pw,Px,t,c101,c102,r0,rl,n0,sq,a1]
    tactic =>
     unfold aCF;rw[aJ F.size (fun i=>[.fs (rS (w0::xs)),.str F,I (i:Nat)]) (fun _=>[])]
     ·clear rd
      sym =>
       simp[Za,Zb,Zc,Zf,Zg,Zh,Zj,Zl,Zm,Zo,Zp,Zq,Zr,Zv,Zy,ZA,ZD,ZH,ZJ,ZK,ZR,ZV,ZZ,Ya,Ye,Yh,Ym,Yn,Yo,Yp,Yq,Yu,Yx,Yy,Yz,Y4,Y6,YE,YF,YG,YJ,YL,YM,YQ,Xh,Xv,Xx,Xz,XJ,XL,We,Wr,Wt,Wu,Ww,Wx,WB,WE,WG,WH,WI,WK,WP,WT,WU,WV,WY,Va,Vc,Vd,Vg,Vm,V0,V1,V2,V3,V7,V8,V9,VH,VL,VM,VN,VO,VP,VQ,VS,VT,Uf,Ug,Uh,Uo,Ur,Us,Ut,Uu,Uv,Uw,Ux,U8,UA,UD,UE,UG,UH,UI,UJ,UM,UN,UO,UP,UQ,US,UT,UW,UX,UY,UZ,Ta,Tb,Tc,Td,Tf,Tg,Ti,Tj,Tl,Tm,Tn,Tp,Ts,Tv,Tw,Tz,T5,T6,T9,TA,TB,TC,TD,TE,TF,TG,TH,TI,TJ,TK,TL,Se,Sf,Sr,Ss,Su,Sv,Sw,Sy,Sz,S3,S6,SD,SE,SF,SG,SI,SJ,SK,SL,SN,SO,SQ,SS,SV,SW,Rz,R0,RG,RI,RO,Qx,Qz,QA,QS,QU,QW,QX,QY,QZ,Pu,Pv,Pw,Px,e0,rl,z0,z1,z2,z3,z4,z5]
       tactic =>
        unfold aFh;rw[aJ q (fun i=>[.fs (rS (w0::xs)),.str F,.sl 0 0 1 (F.size+1),I (i:Nat)]) (fun i=>[aa (((0:Int)::kB F xs i).map I)])]
        ·clear rd2
         generalize hN:(0:Int)::kB F xs q=N at *;generalize rS (w0::xs)=R at *;generalize q+1=qq at *;(exact fN d1 d2 d3 d4 d5 fbq e1 raq rl c104 nl gt sl vz aE aE aE aE aE aE)
        ·rw[show ((0:Nat):Int)=0 from rfl]
         rw[z6];rfl
        ·exact rd2
        ·clear rd2
         generalize hN:(0:Int)::kB F xs q=N at *;generalize rS (w0::xs)=R at *;generalize q+1=qq at *;(exact fN d1 d2 d3 d4 d5 fbq e1 raq rl c104 nl gt sl vz aE aE aE aE aE aE)
     ·rfl
     ·exact rd
     ·(exact cK e0)
 ·have h1:(List.range F.size).all (fun j=>decide (dk F j=110)||aU (xs.getD j ByteArray.empty))=false:=List.all_eq_false.2 ⟨m,I3.2 hm,by grind⟩
  rw[if_neg (by grind)];unfold pE;obtain⟨y,hy,hyd⟩:=aUR l hm;have hbd:¬dk F m=110∧aU y=false:=by
   grind
  have h103:=bBI y (by grind);rw[hbd.2]at h103;have fbq:=fb m hm;have e1:(dk F m=110)=False:=AAo hbd.1;have raq:=ra m y hy;have d1:=dlt m hm;have d2:=ilt m hm;have d3:=ilt1 m hm;have d4:=up1 m hm;rw[rq 64 x64 rfl];unfold x64;dsimp only;sym =>
   simp[Za,Zb,Zc,Zf,Zg,Zh,Zj,Zl,Zm,Zo,Zp,Zq,Zr,Zv,Zy,ZA,ZD,ZH,ZJ,ZK,ZR,ZV,ZZ,Ya,Ye,Yh,Ym,Yn,Yo,Yp,Yq,Yu,Yx,Yy,Yz,Y4,Y6,YE,YF,YG,YJ,YL,YM,YQ,Xh,Xv,Xx,Xz,XJ,XL,We,Wr,Wt,Wu,Ww,Wx,WB,WE,WG,WH,WI,WK,WP,WT,WU,WV,WY,Va,Vc,Vd,Vg,Vm,V0,V1,V2,V3,V7,V8,V9,VH,VL,VM,VN,VO,VP,VQ,VS,VT,Uf,Ug,Uh,Uo,Ur,Us,Ut,Uu,Uv,Uw,Ux,U8,UA,UD,UE,UG,UH,UI,UJ,UM,UN,UO,UP,UQ,US,UT,UW,UX,UY,UZ,Ta,Tb,Tc,Td,Tf,Tg,Ti,Tj,Tl,Tm,Tn,Tp,Ts,Tv,Tw,Tz,T5,T6,T9,TA,TB,TC,TD,TE,TF,TG,TH,TI,TJ,TK,TL,Se,Sf,Sr,Ss,Su,Sv,Sw,Sy,Sz,S3,S6,SD,SE,SF,SG,SI,SJ,SK,SL,SN,SO,SQ,SS,SV,SW,Rz,R0,RG,RI,RO,Qx,Qz,QA,QS,QU,QW,QX,QY,QZ,Pu,Pv,Pw,Px,t,c101,c102,r0,rl,n0,sq,a1]
   tactic =>
    unfold aCF;rw[aJ m (fun i=>[.fs (rS (w0::xs)),.str F,I (i:Nat)]) (fun _=>[])]
    ·clear rd
     generalize rS (w0::xs)=R at *;generalize m+1=mm at *;(exact vA d1 d2 d3 d4 fbq e1 raq rl h103)
    ·rfl
    ·exact rd
    ·clear rd
     generalize rS (w0::xs)=R at *;generalize m+1=mm at *;(exact vA d1 d2 d3 d4 fbq e1 raq rl h103)
end
section
variable{s:CSt}{E:Nat→Int}{x line w0:ByteArray}{xs:List ByteArray}{ns:List Int}{B:Option XB}{w:Wd}
theorem aVH:runW progG 108 [.pt 0 0,.str x] [rN]=some (I (-1),[rN]):=by
 unfold rN;rw[rq 108 aHz rfl];unfold aHz;dsimp only;sym =>
  simp[Za,Zb,Zf,Zh,Zl,Zm,Zv,Z9,ZA,ZF,ZR,ZV,Ys,Yw,YG,YR,Xw,Xx,Wr,WB,WY,Va,Vf,V0,V1,V2,V9,VH,VM,VN,VO,VP,VQ,VW,VX,Ub,Uc,Ut,UD,UE,UG,UH,UI,UJ,UK,UN,UO,UP,UQ,UT,UW,UY,UZ,Tb,Tc,Td,Tg,Th,Ti,Tj,Tl,T6,T9,TA,TB,TK,TL,Ss,Su,Sy,SD,SF,SG,SJ,SK,SL,SN,SS,SV,SW,Qx]
  tactic =>
   unfold aGl;rw[aJ 0 (fun i=>[.pt 0 0,.str x,I (i:Nat)]) (fun _=>[aa [.bool true,.nilsl,.nilsl,.nilsl,.nilsl,.nilsl]])];·(exact yC)
   ·rfl
   ·omega
   ·(exact yC)
theorem bBM{j:Int}:runW progG 105 [.pt 0 0,I j] [rN]=some (I 0,[rN]):=by
 unfold rN;rw[rq 105 aLQ rfl];unfold aLQ;dsimp only;sym =>
  simp[Za,Zb,Zf,Zh,Zl,Zm,Zv,Z9,ZA,ZF,ZR,ZV,Ys,Yw,YG,YR,Xw,Xx,Wr,WB,WY,Vf,V0,V1,V2,V9,VH,VM,VN,VO,VP,VQ,VW,VX,Ub,Uc,Ut,UD,UE,UG,UH,UI,UJ,UK,UN,UO,UP,UQ,UT,UW,UY,UZ,Tb,Tc,Td,Tg,Th,Ti,Tj,Tl,T6,T9,TA,TB,TK,TL,Ss,Su,Sy,SD,SF,SG,SJ,SK,SL,SN,SS,SV,SW,Qx]
  tactic =>
   unfold aCH;rw[aJ 0 (fun i=>[.pt 0 0,I j,I 0,I (i:Nat)]) (fun _=>[aa [.bool true,.nilsl,.nilsl,.nilsl,.nilsl,.nilsl]])];·(exact yC)
   ·rfl
   ·omega
   ·(exact yC)
theorem aVK:runW progG 107 [.fs [],.str x] []=some (I (-1),[]):=aRD (x:=x) (L:=[]) (F:=fun _=>[]) (by simp) fun i y h=>by simp at h
theorem aUz{n:List (List AV)}:runW progG 66 [.pt 0 0,.fs [[.str AAz],[.str x]],.fs n] [rN]=some (.tup [.str ⟨⟨[]⟩⟩,I 5],[rN]):=by
 have c:=aVH (x:=x);unfold rN at *;rw[rq 66 vC rfl];unfold vC;dsimp only;(exact mK c uB qT wU wV zQ aE)
theorem aNb{n:List (List AV)}:runW progG 66 [.pt 0 0,.fs [[.str AAE],[.str x]],.fs n] [rN]=some (.tup [.str ⟨⟨[]⟩⟩,I 5],[rN]):=by
 have c:=aVH (x:=x);unfold rN at *;rw[rq 66 vC rfl];unfold vC;dsimp only;(exact mK c pL mY qR qS uA aE)
theorem aRt{n:List (List AV)}:runW progG 66 [.pt 0 0,.fs [[.str AAC],[.str x]],.fs n] [rN]=some (.tup [.str ⟨⟨[]⟩⟩,I 5],[rN]):=by
 have c:=aVK (x:=x);unfold rN;rw[rq 66 vC rfl];unfold vC;dsimp only;(exact uJ c qQ pK tY tZ)
theorem aRu{n:List (List AV)}:runW progG 66 [.pt 0 0,.fs [[.str AAD],[.str x]],.fs n] [rN]=some (.tup [.str ⟨⟨[]⟩⟩,I 5],[rN]):=by
 have c:=aVK (x:=x);unfold rN;rw[rq 66 vC rfl];unfold vC;dsimp only;(exact uJ c qU pM uC uD)
theorem aKw{i:Nat}:runW progG 66 [.pt 0 0,.fs [[.str AAB],[.str x]],.fs [[I 0],[I (i:Nat)]]] [rN]=some (.tup [.str ⟨⟨[]⟩⟩,I 5],[rN]):=by
 have e1:((0:Int)≤(i:Int))=True:=AAa;unfold rN;rw[rq 66 vC rfl];unfold vC;dsimp only;(exact yK e1 mX lI)
theorem aNa{n:List (List AV)}:runW progG 66 [.pt 0 0,.fs [[.str AAA]],.fs n] [rN]=some (.tup [.str (oZ 0),I 0],[rN]):=by
 have c:=bBM (j := -1);have c2:=rdg (v:=0) AT AT;have na:(⟨⟨Lib.itoa 0⟩⟩:ByteArray)=oZ 0:=rfl;rw[na]at c2;generalize oZ 0=a at *;unfold rN at *;rw[rq 66 vC rfl];unfold vC;dsimp only;(exact yK c c2 wT)
theorem aZq{e:Int}(h:Rd line (.inl e)):runW progG 64 [.str line] []=some (.tup [.fs [],.fs [],I e],[])∧0<e∧e<100:=by
 cases h with
 | long h=>exact⟨aUF h,by omega,by omega⟩
 | form hs hw hf hF hn=>exact⟨aUG hs hw hf hF hn,by omega,by omega⟩
 | name l hn =>
   rename_i w0 F xs;have h:=aRC l;rw[if_neg (fun q=>by
    grind)]at h
   exact⟨h,by omega,by omega⟩
 | num l hn hm =>
   rename_i w0 F xs;have h:=aRC l;rw[if_pos (D4.2 fun j hj=>by grind),if_neg (fun q=>by
    grind)]at h
   exact⟨h,by omega,by omega⟩
theorem aZp(h:Rd line (.inr (w0,xs,ns))):runW progG 64 [.str line] []=some (.tup [.fs ([.str w0]::sr xs),.fs ([I 0]::ns.map fun v=>[I v]),I 0],[]):=by
 cases h with
 | ok l hn hm =>
   rename_i F;have h:=aRC l;rw[if_pos (D4.2 fun j hj=>by grind),if_pos (D4.2 fun j hj=>AAj fun hk=>by
    grind)]at h
   exact h
theorem aQI:(fA s w).book=s.book:=by
 cases w<;>first|rfl|(unfold fA;grind)
def aLE(s:CSt)(E:Nat→Int)(B:Option XB)(line:ByteArray)(r:ByteArray×CSt):Prop :=
 ∃ E' B',RB r.2 E' B'∧EOk r.2 E'∧runW progG 22 [.pt 0 0,.str line] [B]=some (.str r.1,[B'])
theorem nY(hB:RB s E B)(gs:cN s)(eo:EOk s E){ws ns:List (List AV)}(ha:w.asks=false)(c64:runW progG 64 [.str line] []=some (.tup [.fs ws,.fs ns,I 0],[]))(r0:ws[0]?=some [.str w0])(c65:runW progG 65 [.str w0] []=some (.bool false,[]))(d:Does s E w ws ns):aLE s E B line (pT lY s line (.inr w)):=by
 unfold pT;dsimp only;rw[ha];cases hc:cR s w with
 | some e =>
   have he:=aEp hc;have he2:0<e∧e<100:=by
    simp only[nJ,C3,G4,AAh]at he;omega
   have r:=aYT hB gs c64 r0 c65 (k:=0) AT rfl (d.1 e hc) AT;rw[if_pos AT]at r;exact⟨E,B,hB,eo,r⟩
 | none =>
   obtain⟨k,E',hk,eo',c68⟩:=d.2 hc;have r:=aYT hB gs c64 r0 c65 hk aQI c68 AT;rw[if_neg (fun q=>q rfl)]at r;rw[if_neg I5];dsimp only;by_cases hf:s.book.length=300
   ·rw[if_pos hf]at r ⊢
    exact⟨E,B,hB,eo,r⟩
   ·rw[if_neg hf]at r ⊢
    exact⟨E',_,.inl rfl,eo',r⟩
theorem nZ(hB:RB s E B)(eo:EOk s E){ws ns:List (List AV)}(ha:w.asks=true)(c64:runW progG 64 [.str line] []=some (.tup [.fs ws,.fs ns,I 0],[]))(r0:ws[0]?=some [.str w0])(c65:runW progG 65 [.str w0] []=some (.bool true,[])) (d:match aAa lY s w with
 | .inl e=>e=5∧∃ a,runW progG 66 [.pt 0 0,.fs ws,.fs ns] [B]=some (.tup [.str a,I 5],[B])
 | .inr a=>runW progG 66 [.pt 0 0,.fs ws,.fs ns] [B]=some (.tup [.str a,I 0],[B])):aLE s E B line (pT lY s line (.inr w)):=by
 unfold pT;dsimp only;rw[ha,if_pos rfl];cases hc:aAa lY s w with
 | inl e =>
   rw[hc]at d;obtain⟨rfl,a,c66⟩:=d;exact⟨E,B,hB,eo,aYU (zE hB) c64 r0 c65 c66 AT⟩
 | inr a =>
   rw[hc]at d;exact⟨E,B,hB,eo,aYU (zE hB) c64 r0 c65 d AT⟩
theorem aCo{a b c a' b' c':AV}(h:AV.agg [a,b,c] = .agg [a',b',c']):a=a'∧b=b'∧c=c':=by
 grind
theorem eG{a b:List (List AV)}(h:AV.fs a = .fs b):a=b:=by injection h
theorem iO{a b:ByteArray}(h:AV.str a = .str b):a=b:=by injection h
theorem a22(hB:RB s E B)(gs:cN s)(eo:EOk s E):aLE s E B line (pT lY s line (rd line)):=by
 have h:=aKM line;cases hr:rd line with
 | inl e =>
   rw[hr]at h;obtain⟨c64,he⟩:=aZq h;exact⟨E,B,hB,eo,bCU (zE hB) c64 he⟩
 | inr w =>
   rw[hr]at h;obtain⟨w0,xs,ns,h,iw⟩:=h;have c64:=aZp h;clear h hr;generalize sr xs=rx at *;generalize (ns.map fun v=>[I v])=rn at *;cases w with
   | farmer x =>
     obtain⟨z0,iw⟩:=iw;obtain⟨q1,q2,q3⟩:=aCo iw;obtain rfl:=iO q1;obtain rfl:=eG q2;obtain rfl:=eG q3;exact nY hB gs eo rfl c64 rfl (aNe) (aMZ gs eo)
   | wagon x y a b =>
     obtain⟨⟨a0,a1,b0,b1,_,_⟩,u1,u2,z0,z1,iw⟩:=iw;obtain⟨q1,q2,q3⟩:=aCo iw;obtain rfl:=iO q1;obtain rfl:=eG q2;obtain rfl:=eG q3;exact nY hB gs eo rfl c64 rfl (aRx) (aRq gs eo ⟨a0,a1⟩ ⟨b0,b1⟩)
   | void i =>
     obtain⟨u1,iw⟩:=iw;obtain⟨q1,q2,q3⟩:=aCo iw;obtain rfl:=iO q1;obtain rfl:=eG q2;obtain rfl:=eG q3;exact nY hB gs eo rfl c64 rfl (aUC) (aUy gs eo)
   | close =>
     obtain⟨q1,q2,q3⟩:=aCo iw;obtain rfl:=iO q1;obtain rfl:=eG q2;obtain rfl:=eG q3;exact nY hB gs eo rfl c64 rfl (aRB) (aRs gs eo)
   | meter x n =>
     obtain⟨hn,u1,z0,iw⟩:=iw;obtain⟨q1,q2,q3⟩:=aCo iw;obtain rfl:=iO q1;obtain rfl:=eG q2;obtain rfl:=eG q3;exact nY hB gs eo rfl c64 rfl (aRA) (aRr gs eo hn)
   | pan x a b =>
     obtain⟨⟨a0,a1,b0,b1⟩,u1,u2,z0,iw⟩:=iw;obtain⟨q1,q2,q3⟩:=aCo iw;obtain rfl:=iO q1;obtain rfl:=eG q2;obtain rfl:=eG q3;exact nY hB gs eo rfl c64 rfl (aXY) (aXW gs eo ⟨a0,a1⟩ ⟨b0,b1⟩)
   | net x =>
     obtain⟨z0,iw⟩:=iw;obtain⟨q1,q2,q3⟩:=aCo iw;obtain rfl:=iO q1;obtain rfl:=eG q2;obtain rfl:=eG q3;refine nZ hB eo rfl c64 rfl (aXZ) ?_;unfold aAa;dsimp only;rcases hB with rfl|⟨rfl,rfl⟩
     ·obtain⟨d1,d2⟩:=aXX (E:=E) (x:=x) gs (n:=[[I 0],[I z0]])
      cases hx:bK (s.farmers.map (·.1)) x with
      | none =>
        rw[cH.2 hx];exact⟨rfl,_,d1 hx⟩
      | some i =>
        obtain⟨v,hp,hv⟩:=lU hx;rw[hv];exact d2 i _ hx hp
     ·exact⟨rfl,_,aUz⟩
   | used x =>
     obtain⟨z0,iw⟩:=iw;obtain⟨q1,q2,q3⟩:=aCo iw;obtain rfl:=iO q1;obtain rfl:=eG q2;obtain rfl:=eG q3;refine nZ hB eo rfl c64 rfl (aUD) ?_;unfold aAa;dsimp only;rcases hB with rfl|⟨rfl,rfl⟩
     ·obtain⟨d1,d2⟩:=aUA (E:=E) (x:=x) gs (n:=[[I 0],[I z0]])
      cases hx:bK (s.meters.map (·.1)) x with
      | none =>
        grind [cH]
      | some i =>
        obtain⟨v,hp,hv⟩:=lU hx
        grind
     ·exact⟨rfl,_,aRt⟩
   | loss x =>
     obtain⟨z0,iw⟩:=iw;obtain⟨q1,q2,q3⟩:=aCo iw;obtain rfl:=iO q1;obtain rfl:=eG q2;obtain rfl:=eG q3;refine nZ hB eo rfl c64 rfl (aUE) ?_;unfold aAa;dsimp only;rcases hB with rfl|⟨rfl,rfl⟩
     ·obtain⟨d1,d2⟩:=aUB (E:=E) (x:=x) gs (n:=[[I 0],[I z0]])
      cases hx:bK (s.pans.map (·.1)) x with
      | none =>
        grind [cH]
      | some i =>
        obtain⟨v,hp,hv⟩:=lU hx
        grind
     ·exact⟨rfl,_,aRu⟩
   | power x =>
     obtain⟨z0,iw⟩:=iw;obtain⟨q1,q2,q3⟩:=aCo iw;obtain rfl:=iO q1;obtain rfl:=eG q2;obtain rfl:=eG q3;refine nZ hB eo rfl c64 rfl (aRz) ?_;unfold aAa;dsimp only;rcases hB with rfl|⟨rfl,rfl⟩
     ·obtain⟨d1,d2⟩:=aRw (E:=E) (x:=x) gs (n:=[[I 0],[I z0]])
      cases hx:bK (s.farmers.map (·.1)) x with
      | none =>
        rw[cH.2 hx];exact⟨rfl,_,d1 hx⟩
      | some i =>
        obtain⟨v,hp,hv⟩:=lU hx;rw[hv];exact d2 i _ hx hp
     ·exact⟨rfl,_,aNb⟩
   | total =>
     obtain⟨q1,q2,q3⟩:=aCo iw;obtain rfl:=iO q1;obtain rfl:=eG q2;obtain rfl:=eG q3;refine nZ hB eo rfl c64 rfl (aRy) ?_;unfold aAa;dsimp only;rcases hB with rfl|⟨rfl,rfl⟩;·exact aRv gs
     ·exact aNa
   | ticket i =>
     obtain⟨u1,iw⟩:=iw;obtain⟨q1,q2,q3⟩:=aCo iw;obtain rfl:=iO q1;obtain rfl:=eG q2;obtain rfl:=eG q3;refine nZ hB eo rfl c64 rfl (aNd) ?_;unfold aAa;dsimp only;rcases hB with rfl|⟨rfl,rfl⟩;·grind [aNc]
     ·exact⟨rfl,_,aKw⟩
end
section
variable{s:CSt}{E:Nat→Int}{K:List ByteArray}{B:Option XB}
def rnP(K:List ByteArray)(i:Nat):Nat:=min (5*i) K.length+i
theorem aWh:∀ i,jQ K (i+1)=jQ K i++pgB (uQ K i) (6*i):=fun _=>rfl
theorem aTj(h41:∀{ls:List ByteArray}{row:Nat},1≤ls.length→ls.length≤1000→row≤10000→(∀ s∈ls,s.size≤40∧prL (bN s)=true)→runW progG 41 [.fs (rS ls),I (row:Int)] []=some (.str (pgB ls row),[])){RF RT RM RP:List (List AV)}(hK:K.length≤300)(hp:∀ s∈K,s.size≤40∧prL (bN s)=true){i:Nat}(hi:i<kU K) :
 cC 1 [0,3,4,5] (execW progG 24 1 none (match aFi with | .loop _ a=>a|c=>c) (bB [0,3,4,5] [.pt 0 0,.str (jQ K i),I (rnP K i:Nat),I (5*i:Nat)]) [aa [.bool true,.fs RF,.fs RT,.fs RM,.fs RP,.fs (rS K)]]) =
 some ([.pt 0 0,.str (jQ K (i+1)),I (rnP K (i+1):Nat),I (5*(i+1):Nat)],[aa [.bool true,.fs RF,.fs RT,.fs RM,.fs RP,.fs (rS K)]]):=by
 have np:kU K=(K.length+4)/5:=rfl;obtain⟨_,z1,z2⟩:=aAg K i;have pl:=tL K i;have ps:=oX (uQ K i) (6*i);have r6:rnP K i=6*i:=by unfold rnP;omega
 have c41:=h41 (ls:=uQ K i) (row:=6*i) AT AT AT fun s hs=>hp s (aC1 (N9 hs));have sa:=dR (a:=jQ K i) (b:=pgB (uQ K i) (6*i)) AT;rw[←aWh]at sa;have rl:=eX K;have ra:(rS K).all (fun r=>r.length==1)=true:=(aJA K).2;have i1:(((5*i:Nat):Int)<(K.length:Int))=True:=AAa;have w1:IntKind.i64.wrap (((5*i:Nat):Int)+5)=((5*(i+1):Nat):Int):=by grind [aF]
 have e1:((5*(i+1):Nat):Int)=((5*i+5:Nat):Int):=rfl;have l1:(rS (uQ K i)).length=(uQ K i).length:=eX _;have w2:IntKind.i64.wrap (((uQ K i).length:Int)+1)=(((uQ K i).length+1:Nat):Int):=by grind [aF]
 have w3:IntKind.i64.wrap (((6*i:Nat):Int)+(((uQ K i).length+1:Nat):Int))=((rnP K (i+1):Nat):Int):=by
  rw[aF AT AT];unfold rnP;omega
 have dr:∀ h,h=min K.length (5*(i+1))→((rS K).drop (5*i)).take (h-5*i)=rS (uQ K i):=fun h hh=>by
  unfold uQ rS
  grind [List.map_take,List.map_drop,List.take_of_length_le]
 have g0:((0:Int)≤((5*i:Nat):Int))=True:=AAa;have n1:(((5*i:Nat):Int)).toNat=5*i:=I7 _;rw[r6];by_cases hk:¬5*(i+1)<K.length
 ·have m1:(((5*(i+1):Nat):Int)<(K.length:Int))=False:=AAb
  have d:=dr K.length AT;have g1:(((5*i:Nat):Int)≤(K.length:Int))=True:=AAa;have g2:((K.length:Int)≤(K.length:Int))=True:=AAa;have n2:((K.length:Int)).toNat=K.length:=I7 _;have g3:((0:Int)≤(K.length:Int))=True:=AAa;have g4:(5*i≤K.length)=True:=AAa;clear dr hp h41 e1 r6;generalize rnP K (i+1)=RN at *;generalize jQ K (i+1)=S2 at *;generalize jQ K i=S1 at *;generalize pgB (uQ K i) (6*i)=PG at *;generalize rS (uQ K i)=RQ at *;generalize (uQ K i).length=q at *;generalize rS K=RK at *;generalize 5*(i+1)=i5 at *;generalize 5*i=i0 at *;generalize 6*i=i6 at *;unfold aFi;dsimp only;(exact fN c41 sa rl ra i1 w1 l1 w2 w3 m1 d g0 g1 g2 g3 g4 n1 n2 aE aE)
 ·have m1:(((5*(i+1):Nat):Int)<(K.length:Int))=True:=AAa
  have d:=dr (5*(i+1)) AT;have g1:(((5*i:Nat):Int)≤((5*(i+1):Nat):Int))=True:=AAa;have g2:(((5*(i+1):Nat):Int)≤(K.length:Int))=True:=AAa;have n2:(((5*(i+1):Nat):Int)).toNat=5*(i+1):=I7 _;have g3:((0:Int)≤((5*(i+1):Nat):Int))=True:=AAa;have g4:(5*i≤5*(i+1))=True:=AAa;have g5:(5*(i+1)≤K.length)=True:=AAa;clear dr hp h41 e1 r6;generalize rnP K (i+1)=RN at *;generalize jQ K (i+1)=S2 at *;generalize jQ K i=S1 at *;generalize pgB (uQ K i) (6*i)=PG at *;generalize rS (uQ K i)=RQ at *;generalize (uQ K i).length=q at *;generalize rS K=RK at *;generalize 5*(i+1)=i5 at *;generalize 5*i=i0 at *;generalize 6*i=i6 at *;unfold aFi;dsimp only;(exact fN c41 sa rl ra i1 w1 l1 w2 w3 m1 d g0 g1 g2 g3 g4 g5 n1 n2 aE)
theorem a24(h41:∀{ls:List ByteArray}{row:Nat},1≤ls.length→ls.length≤1000→row≤10000→(∀ s∈ls,s.size≤40∧prL (bN s)=true)→runW progG 41 [.fs (rS ls),I (row:Int)] []=some (.str (pgB ls row),[]))(hB:RB s E B)(hK:s.book.length≤300)(hp:∀ l∈s.book,l.size≤40∧prL (bN l)=true):runW progG 24 [.pt 0 0] [B]=some (.str (jJ s.book),[B]):=by
 have hd:(AAG:ByteArray)=jQ s.book 0:=rfl;have np:kU s.book=(s.book.length+4)/5:=rfl;have sv:jJ s.book=jQ s.book (kU s.book):=rfl;rw[sv];rcases hB with rfl|⟨rfl,rfl⟩
 ·have rl:=eX s.book
  have e0:(((5*kU s.book:Nat):Int)<(s.book.length:Int))=False:=AAb;have r0:((rnP s.book 0:Nat):Int)=0:=by rfl
  unfold rC;generalize fE (gL s E) s.tickets.length=RT at *;generalize fE (mU s) s.meters.length=RM at *;generalize fE (mQ s) s.pans.length=RP at *;generalize rS (fD s)=RF at *;have rd:=fun i hi=>aTj h41 (K:=s.book) (RF:=RF) (RT:=RT) (RM:=RM) (RP:=RP) hK hp (i:=i) hi;generalize s.book=K at *;rw[rq 24 x24 rfl];unfold x24;dsimp only;sym =>
   simp[Za,Zb,Zf,Zh,Zl,Zm,Zp,Zr,Zv,Zy,Z9,ZA,ZC,ZD,ZF,ZR,ZV,Yp,Yq,Ys,Yu,Yw,YG,YR,Xm,Xw,Xz,Wu,WE,Va,Vf,V0,V1,V2,V8,V9,VH,VM,VN,VO,VP,VQ,VW,VX,Ub,Uc,Ut,UD,UE,UG,UH,UI,UJ,UK,UN,UO,UP,UQ,US,UT,UW,UY,UZ,Tb,Tc,Td,Tg,Th,Ti,Tj,Tl,Tv,T6,T9,TA,TB,TK,TL,Ss,Su,Sy,SD,SF,SG,SI,SJ,SK,SL,SN,SS,SV,SW,Ra,Qx,rl]
   tactic =>
    unfold aFi;rw[aJ (kU K) (fun i=>[.pt 0 0,.str (jQ K i),I (rnP K i:Nat),I (5*i:Nat)]) (fun _=>[aa [.bool true,.fs RF,.fs RT,.fs RM,.fs RP,.fs (rS K)]])];·(exact pY e0 rl)
    ·rfl
    ·exact rd
    ·(exact pY e0 rl)
 ·have h0:jQ (CSt.book cA) (kU (CSt.book cA))=AAG:=rfl
  rw[h0];unfold rN;rw[rq 24 x24 rfl];unfold x24;dsimp only;sym =>
   simp[Za,Zb,Zf,Zh,Zl,Zm,Zp,Zr,Zv,Zy,Z9,ZA,ZC,ZD,ZF,ZR,ZV,Yp,Yq,Ys,Yu,Yw,YG,YR,Xm,Xw,Xz,Wu,WE,Va,Vf,V0,V1,V2,V8,V9,VH,VM,VN,VO,VP,VQ,VW,VX,Ub,Uc,Ut,UD,UE,UG,UH,UI,UJ,UK,UN,UO,UP,UQ,US,UT,UW,UY,UZ,Tb,Tc,Td,Tg,Th,Ti,Tj,Tl,Tv,T6,T9,TA,TB,TK,TL,Ss,Su,Sy,SD,SF,SG,SI,SJ,SK,SL,SN,SS,SV,SW,Ra,Qx]
   tactic =>
    unfold aFi;rw[aJ 0 (fun i=>[.pt 0 0,.str AAG,I 0,I (i:Nat)]) (fun _=>[aa [.bool true,.nilsl,.nilsl,.nilsl,.nilsl,.nilsl]])];·(exact yC)
    ·rfl
    ·omega
    ·(exact yC)
theorem a20:runW progG 20 [] []=some (.pt 0 0,[rN]):=by
 unfold rN;rw[rq 20 x20 rfl];unfold x20;dsimp only;(exact yC)
end
def BkL(l:ByteArray):Prop:=l.size≤40∧prL (bN l)=true
theorem aBi(c:UInt8):∀(l:List UInt8)(b:UInt8),b∈l→b=c∨∃ w∈dS c l,b∈w
 | [],b,h=>by cases h
 | a::r,b,h=>by
   unfold dS;by_cases ha:a=c
   ·rw[if_pos ha]
    rcases C3.1 h with h|h;·grind
    ·exact(aBi c r b h).imp id fun⟨w,h1,h2⟩=>⟨w,D7 _ h1,h2⟩
   ·rw[if_neg ha]
    have ih:=aBi c r b;cases hs:dS c r with
    | nil =>
      rw[hs]at ih;rcases C3.1 h with h|h;all_goals simp_all
    | cons x l =>
      rw[hs]at ih;rcases C3.1 h with h|h;·simp_all
      grind
def prB(w:ByteArray):Prop:=∀ b∈w.data.toList,32≤b.toNat∧b.toNat≤126
theorem aTv{w:ByteArray}(h:prB w):prL (bN w)=true:=by
 grind [prL,bN,prB]
theorem bBu:(fmL.all fun p=>p.1.data.toList.all fun b=>decide (32≤b.toNat)&&decide (b.toNat≤126))=true:=by kernel_rfl
theorem aTC{w:ByteArray}(h:aU w=true):prB w:=fun b hb=>by
 unfold aU at h;simp only[B4,D4,I3]at h;obtain⟨i,hi⟩:=I8.1 hb;have hl:w.data.toList.length=w.size:=G9
 grind [zI,bN]
theorem aWQ{w:ByteArray}{v:Int}(h:cD w=some v):prB w:=fun b hb=>by
 obtain⟨_,v0,v1,v2⟩:=fL h;obtain⟨n,rfl⟩:=M3 v0;rw[aDT]at v2;have:=aCC 5 n AT b (by grind);omega
theorem aZb{line w0:ByteArray}{xs:List ByteArray}{ns:List Int}(h:Rd line (.inr (w0,xs,ns))):BkL line:=by
 cases h with
 | ok l hn hm =>
   rename_i F;refine⟨l.hs,aTv fun b hb=>?_⟩;rcases aBi 32 _ b hb with rfl|⟨w,h1,h2⟩;·decide
   ·have hw:(⟨⟨w⟩⟩:ByteArray)∈bQ line:=F7.2 ⟨w,h1,rfl⟩
    rw[l.hw]at hw;rcases C3.1 hw with hw|hw
    ·have:=D4.1 (D4.1 bBu _ (aLd l.hf).1) b (by grind)
     grind
    ·obtain⟨j,hj⟩:=I8.1 hw
     have hjl:=(B8.1 hj).1;have hjF:j<F.size:=by rw[←l.ws.1];exact hjl
     have e:xs.getD j ByteArray.empty=⟨⟨w⟩⟩:=by grind
     have hn:=hn j hjF;have hm:=hm j hjF;rw[e]at hn hm;rcases hn with hk|hn
     ·obtain⟨v,hv⟩:=hm hk
      exact aWQ hv b h2
     ·exact aTC hn b h2
theorem aXQ{P:CSt→ByteArray→Int}{s:CSt}{line:ByteArray}(h:∀ l∈s.book,BkL l):∀ l∈(pT P s line (rd line)).2.book,BkL l:=by
 have hr:=aKM line;revert hr;cases rd line with
 | inl e=>exact fun _=>h
 | inr w =>
   intro ⟨w0,xs,ns,hd,_⟩;unfold pT
   grind [aZb]
def spS(s:ByteArray)(i:Nat):ByteArray:=nG (bN s++List.replicate i 32)
theorem xS(l:List Nat):(nG l).size=l.length:=by
 show (l.map UInt8.ofNat).length=l.length;simp
theorem aOk(s:ByteArray)(i:Nat):(spS s i).size=s.size+i:=by
 grind [xS,qZ,spS]
theorem aYO(s:ByteArray):spS s 0=s:=by grind [aGV,spS]
theorem aYN(s:ByteArray)(i:Nat):spS s i++⟨#[32]⟩=spS s (i+1):=by
 have:(⟨#[32]⟩:ByteArray)=nG [32]:=rfl
 grind [aKZ,List.replicate_succ',spS]
theorem aSL{s:ByteArray}(h:s.size≤40):spS s (40-s.size)=nG (newF (bN s)):=by
 grind [qZ,List.take_of_length_le,spS,newF]
theorem w78{s:ByteArray}(hs:s.size≤40):runW aB 78 [.str s] []=some (.str (nG (newF (bN s))),[]):=by
 rw[q78 (by simp)];unfold x78;dsimp only;have hz:=aOk s;have e:=aSL hs;sym =>
  simp[fR,fU,lX,Zb,Zf,Zh,Zl,Zv,Va,Tb,Tl,TK,TL,SF,SK,SL,SW,e]
  tactic =>
   unfold aUV;rw[aJ (40-s.size) (fun i=>[.str (spS s i)]) (fun _=>[])]
   ·have z:=hz (40-s.size)
    have i1:(((spS s (40-s.size)).size:Int)<40)=False:=AAb;rw[e]at i1;(exact RT2 i1 @e)
   ·have z:=aYO s
    (exact RT1 z)
   ·intro i hi
    have z:=hz i;have i1:(((spS s i).size:Int)<40)=True:=AAa;have a:=dR (a:=spS s i) (b:=⟨#[32]⟩) (by rw[z];show s.size+i+1≤_;omega);rw[aYN]at a;(exact RT2 i1 a)
   ·have z:=hz (40-s.size)
    have i1:(((spS s (40-s.size)).size:Int)<40)=False:=AAb;(exact RT1 i1)
theorem aQO{x:Nat}(h:okB x=true):jN x=x-32∧32≤x∧x≤126:=by
 grind [jN,okB]
theorem aKP{f:List Nat}(h:prL f=true){i x:Nat}(hx:f[i]?=some x):okB x=true:=by
 grind [okB,prL]
theorem aUg{d:Nat}(h:d≤200):IntKind.u8.wrap ((48+d:Nat):Int)=((48+d:Nat):Int):=by simp[IntKind.wrap,IntKind.bits,IntKind.signed];omega
theorem aTf{s:ByteArray}{c:Nat}:(⟨⟨([48+c/1000,48+c/100%10,48+c/10%10,48+c%10]:List Nat).map UInt8.ofNat⟩⟩++s)++⟨#[10]⟩=nG (sI c++(bN s++[10])):=by
 have h1:(⟨#[10]⟩:ByteArray)=nG [10]:=rfl;have h2:(⟨⟨([48+c/1000,48+c/100%10,48+c/10%10,48+c%10]:List Nat).map UInt8.ofNat⟩⟩:ByteArray)=nG (sI c):=rfl
 grind [aGV,aKZ]
theorem w79{s:ByteArray}{row:Nat}(hs:s.size=40)(hp:prL (bN s)=true)(hr:row≤1000000):runW aB 79 [.str s,I (row:Int)] []=some (.str (nG (iY row (bN s))),[]):=by
 rw[q79 (by simp)];unfold x79;dsimp only;have e0:((40:Int)<40)=False:=AAb;have bl:=qZ s;sym =>
  simp[fR,fU,lX,Za,Zb,Zf,Zh,Zl,Zv,WY,Va,V8,US,Tb,Tl,TK,TL,SF,SK,SL,SV,SW,e0]
  tactic =>
   unfold aUU;rw[aJ 40 (fun i=>[.str s,I (pX row (bN s) i:Nat),I (i:Nat)]) (fun _=>[])]
   ·have hc:pX row (bN s) 40%9973=chk row (bN s):=aRp AT
    have hc':chk row (bN s)<9973:=aXF _ _;have hR:iY row (bN s)=sI (chk row (bN s))++(bN s++[10]):=rfl;have t0:tmZ (pX row (bN s) 40:Int) 9973=_:=qH (pX row (bN s) 40) 9973;rw[hc]at t0;rw[hR];generalize chk row (bN s)=c at *;have t1:nX ((c:Nat):Int) 1000=_:=aCN c 1000;have t2:nX ((c:Nat):Int) 100=_:=aCN c 100;have t3:nX ((c:Nat):Int) 10=_:=aCN c 10;have t4:tmZ ((c/100:Nat):Int) 10=_:=qH (c/100) 10;have t5:tmZ ((c/10:Nat):Int) 10=_:=qH (c/10) 10;have t6:tmZ ((c:Nat):Int) 10=_:=qH c 10;have v1:IntKind.i64.wrap ((c/1000:Nat):Int)=((c/1000:Nat):Int):=aF AT AT;have v2:IntKind.i64.wrap ((c/100:Nat):Int)=((c/100:Nat):Int):=aF AT AT;have v3:IntKind.i64.wrap ((c/10:Nat):Int)=((c/10:Nat):Int):=aF AT AT;have u1:IntKind.i64.wrap (48+((c/1000:Nat):Int))=((48+c/1000:Nat):Int):=by grind [aF]
    have u2:IntKind.i64.wrap (48+((c/100%10:Nat):Int))=((48+c/100%10:Nat):Int):=by grind [aF]
    have u3:IntKind.i64.wrap (48+((c/10%10:Nat):Int))=((48+c/10%10:Nat):Int):=by grind [aF]
    have u4:IntKind.i64.wrap (48+((c%10:Nat):Int))=((48+c%10:Nat):Int):=by grind [aF]
    have b1:=aUg (d:=c/1000) AT;have b2:=aUg (d:=c/100%10) AT;have b3:=aUg (d:=c/10%10) AT;have b4:=aUg (d:=c%10) AT;have hb:=xC (f:=[48+c/1000,48+c/100%10,48+c/10%10,48+c%10]);have hE:=aTf (s:=s) (c:=c);have hz:(⟨⟨([48+c/1000,48+c/100%10,48+c/10%10,48+c%10]:List Nat).map UInt8.ofNat⟩⟩:ByteArray).size=4:=rfl;unfold bO at hb;simp only[E5,aA8]at hb hE hz;generalize 48+c/1000=d1 at *;generalize 48+c/100%10=d2 at *;generalize 48+c/10%10=d3 at *;generalize 48+c%10=d4 at *;have a1:=dR (a:=⟨⟨[UInt8.ofNat d1,UInt8.ofNat d2,UInt8.ofNat d3,UInt8.ofNat d4]⟩⟩) (b:=s) AT;have a2:=dR (a:=(⟨⟨[UInt8.ofNat d1,UInt8.ofNat d2,UInt8.ofNat d3,UInt8.ofNat d4]⟩⟩:ByteArray)++s) (b:=⟨#[10]⟩) (by rw[H9,hz,hs];decide);rw[hE]at a2;generalize nG (sI c++(bN s++[10]))=R at *;generalize (⟨⟨[UInt8.ofNat d1,UInt8.ofNat d2,UInt8.ofNat d3,UInt8.ofNat d4]⟩⟩:ByteArray)++s=T at *;(exact xF e0 t0 t1 t2 t3 t4 t5 t6 v1 v2 v3 u1 u2 u3 u4 b1 b2 b3 b4 hb a1 a2 aE aE aE aE)
   ·rfl
   ·intro i hi
    obtain⟨x,x1,x2,x3⟩:=aGb (s:=s) (i:=i) AT;obtain⟨y1,y2,y3⟩:=aQO (aKP hp x1);have hA:=aVG (row:=row) x1;have hle:=aRo (row:=row) (f:=bN s) AT i;have i1:((i:Int)<40)=True:=AAa;have i2:((i:Int)<(s.size:Int))=True:=AAa;have a2:=dU (n:=40) (i:=i) AT AT;have c1:IntKind.i64.wrap (x:Int)=(x:Int):=aF AT AT;have c2:IntKind.i64.wrap ((x:Int)-32)=(jN x:Int):=by grind [aF]
    have hm:(i+1)*jN x≤40*94:=O6 AT AT;have c3:IntKind.i64.wrap (((i:Int)+1)*(jN x:Int))=(((i+1)*jN x:Nat):Int):=by
     grind [aF]
    have c4:IntKind.i64.wrap ((pX row (bN s) i:Int)+(((i+1)*jN x:Nat):Int))=(pX row (bN s) (i+1):Int):=by
     grind [aF]
    generalize (i+1)*jN x=P at *;generalize pX row (bN s) (i+1)=A1 at *;generalize pX row (bN s) i=A0 at *;generalize jN x=cx at *;(exact RT9 i1 i2 a2 x3 c1 c2 c3 c4 aE)
   ·(exact RT1 e0)
theorem q49{vs:List AV}{h:XH}(hl:vs.length≤36):runW aB 49 vs h=gN none x49.res x49.ownR h.length (execW aB 49 h.length none x49.body (aT (if x49.ownA then vs else kQ vs)) h):=cX rfl hl h rfl
def Flds(ls:List ByteArray):Prop:=∀ s∈ls,s.size=40∧prL (bN s)=true
theorem Flds.at{ls:List ByteArray}(h:Flds ls){k:Nat}{s:ByteArray}(hk:ls[k]?=some s):gG (Cn ls ls.length) k=bN s:=by
 rw[aJY (B5 _) (B8.1 hk).1 hk]
 grind [aGU,qZ,oG,Flds]
theorem Flds.byte{ls:List ByteArray}(h:Flds ls){k j:Nat}{s:ByteArray}(hk:ls[k]?=some s)(hj:j<40):∃ x:Nat,(gG (Cn ls ls.length) k).getD j 0=x∧32≤x∧x≤126∧jN x=x-32∧((s.data.toList.getD j 0).toNat:Int)=(x:Int):=by
 obtain⟨h1,h2⟩:=h s (B3 hk);obtain⟨x,x1,x2,x3⟩:=aGb (s:=s) (i:=j) AT;obtain⟨y1,y2,y3⟩:=aQO (aKP h2 x1);exact⟨x,by rw[h.at hk,C9,x1];rfl,y2,y3,y1,x3⟩
theorem aLz{ls:List ByteArray}(h:Flds ls){j:Nat}(hj:j<40):∀{k},k≤ls.length→mJ (Cn ls ls.length) j k≤k*94
 | 0,_=>B5 _
 | k+1,hk=>by
   obtain⟨s,hs⟩:=dD (l:=ls) (i:=k) AT;obtain⟨x,x1,x2,x3,x4,_⟩:=h.byte hs hj;rw[mJ,x1,x4];have:=aLz h hj (k:=k) AT;omega
def oS1(i:Nat):AV:=if i=0 then .nilsl else .sl 0 0 1 i
def oG1(l:List Nat)(i:Nat):XH:=if i=0 then [] else [aa (bO (l.take i))]
theorem bCP{l:List Nat}{i x:Nat}(h:l[i]?=some x):bO (l.take i)++[.int .u8 (x:Int)]=bO (l.take (i+1)):=by
 grind [List.take_add_one,bO]
theorem aWd{l:List Nat}{i:Nat}(hl:l.length=40)(h:i≤40):(bO (l.take i)).length=i:=by grind [bO]
theorem w49{ls:List ByteArray}(hf:Flds ls)(hn:ls.length≤1000):runW aB 49 [.fs (rS ls)] []=some (.str (nG (eJ (Cn ls ls.length) ls.length)),[]):=by
 rw[q49 (by simp)];unfold x49;dsimp only;have rl:=eX ls;have e0:((40:Int)<40)=False:=AAb;have lc:=lN (ls:=ls) (B5 _);have lS:=fI (C:=Cn ls ls.length) (n:=ls.length) AT ls.length (B5 _);have hat:=fun j hj=>aJk (C:=Cn ls ls.length) (n:=ls.length) (j:=j) AT hj (k:=ls.length) (B5 _);have hcl:=fun {j} hj=>fun {k}=>aLz hf (j:=j) hj (k:=k);have hby:=fun {k j s} h1 h2=>hf.byte (k:=k) (j:=j) (s:=s) h1 h2;have hcs:∀ j k,mJ (Cn ls ls.length) j (k+1)=mJ (Cn ls ls.length) j k+jN ((gG (Cn ls ls.length) k).getD j 0):=fun _ _=>rfl;have hc0:∀ j,mJ (Cn ls ls.length) j 0=0:=fun _=>rfl;generalize eJ (Cn ls ls.length) ls.length=M at *;generalize Cn ls ls.length=C at *;sym =>
  simp[fR,fU,lX,Zb,Zf,Zh,Zl,Zv,Vd,Tb,Tl,TK,TL,SF,SK,SL,SW,e0]
  tactic =>
   unfold aUW;rw[aJ 40 (fun i=>[.fs (rS ls),oS1 i,I (i:Nat)]) (fun i=>oG1 M i)]
   ·have s0:oS1 40 = .sl 0 0 1 40:=rfl
    have g0:oG1 M 40=[aa (bO (M.take 40))]:=rfl;have t0:M.take 40=M:=C4 AT;rw[t0]at g0;have lu:=bD M;rw[lS]at lu;have bu:iE (bO M)=some (M.map UInt8.ofNat):=xC;have tk:=gR lS;have td:=jU lS;have hE:(⟨⟨M.map UInt8.ofNat⟩⟩:ByteArray)=nG M:=rfl;(exact RT9 e0 s0 g0 lu bu tk td hE aE)
   ·rfl
   ·intro i hi
    have i1:((i:Int)<40)=True:=AAa;have a2:=dU (n:=40) (i:=i) AT AT;have ln:=aWd lS (i:=i) AT;have gr:=bM (M.take i);have gr1:=bM (M.take (i+1));have hx:=hat i hi;have ts:=bCP hx;have hle:=hcl hi (k:=ls.length) (B5 _);have r95:=aA5 (mJ C i ls.length) (show 0<95 by decide);have c1:tmZ (mJ C i ls.length:Int) 95=((mJ C i ls.length%95:Nat):Int):=qH _ 95;have c2:IntKind.i64.wrap (32+((mJ C i ls.length%95:Nat):Int))=((32+mJ C i ls.length%95:Nat):Int):=by grind [aF]
    have c3:IntKind.u8.wrap ((32+mJ C i ls.length%95:Nat):Int)=((32+mJ C i ls.length%95:Nat):Int):=by simp[IntKind.wrap,IntKind.bits,IntKind.signed];omega
    have z1:(i+1≤1099511627776)=True:=AAa;have z2:((i+1)*1≤1099511627776)=True:=AAa;have nn:((ls.length:Int)<(ls.length:Int))=False:=AAb;have fin:∀ k:Nat,k=ls.length→mJ C i k=mJ C i ls.length:=fun k hk=>by rw[hk]
    sym =>
     simp[fR,fU,lX,Za,Zb,Zf,Zh,Zl,Zm,Zv,ZA,YG,UT,UW,UX,T5,SD,SF,SI,SK,SL,SV,SW,i1,rl]
     tactic =>
      unfold aNp;rw[aJ ls.length (fun k=>[.fs (rS ls),oS1 i,I (i:Nat),I (mJ C i k:Nat),I (k:Nat)]) (fun _=>oG1 M i)]
      ·generalize 32+mJ C i ls.length%95=v at *
       generalize mJ C i ls.length%95=v95 at *;generalize mJ C i ls.length=w at *;by_cases h0:i=0
       ·subst h0
        have s0:oS1 0 = .nilsl:=rfl;have g0:oG1 M 0=[]:=rfl;have s1:oS1 1 = .sl 0 0 1 1:=rfl;have g1:oG1 M 1=[aa (bO (M.take 1))]:=rfl;have ts0:bO (M.take 0)=[]:=rfl;rw[ts0]at ts;simp only[H7]at ts;rw[←ts]at g1;(exact aNh i1 rl nn c1 c2 c3 s0 g0 s1 g1 a2 aE aE)
       ·have s0:oS1 i = .sl 0 0 1 i:=if_neg h0
        have g0:oG1 M i=[aa (bO (M.take i))]:=if_neg h0;have s1:oS1 (i+1) = .sl 0 0 1 (i+1):=if_neg AT;have g1:oG1 M (i+1)=[aa (bO (M.take (i+1)))]:=if_neg AT;generalize bO (M.take (i+1))=T1 at *;generalize bO (M.take i)=T0 at *;(exact aNg i1 rl nn c1 c2 c3 s0 g0 s1 g1 ts gr gr1 ln a2 z1 z2 aE aE aE)
      ·have s0:oS1 i = .nilsl∨oS1 i = .sl 0 0 1 i:=by unfold oS1;grind
       have z:=hc0 i;by_cases h0:i=0
       ·subst h0
        rfl
       ·have s0:oS1 i = .sl 0 0 1 i:=if_neg h0
        have g0:oG1 M i=[aa (bO (M.take i))]:=if_neg h0;(exact RT7 rl i1 s0 g0 z gr dE)
      ·intro k hk
       obtain⟨s,hs⟩:=dD (l:=ls) (i:=k) AT;have sx:=rO hs;obtain⟨x,x1,x2,x3,x4,x5⟩:=hby hs hi;have hz:=(hf s (B3 hs)).1;have hcz:=hcs i k;rw[x1,x4]at hcz;have hle:=hcl hi (k:=k) AT;have j1:((k:Int)<(ls.length:Int))=True:=AAa;have j2:((i:Int)<(s.size:Int))=True:=AAa;have j3:(k<(rS ls).length)=True:=AAa;have b2:=dU (n:=ls.length) (i:=k) AT AT;have d1:IntKind.i64.wrap (x:Int)=(x:Int):=aF AT AT;have d2:IntKind.i64.wrap ((x:Int)-32)=((x-32:Nat):Int):=by grind [aF]
       have d3:IntKind.i64.wrap ((mJ C i k:Int)+((x-32:Nat):Int))=(mJ C i (k+1):Int):=by grind [aF]
       generalize mJ C i (k+1)=A1 at *;generalize mJ C i k=A0 at *;by_cases h0:i=0
       ·subst h0
        have s0:oS1 0 = .nilsl:=rfl;have g0:oG1 M 0=[]:=rfl;have n0:Int.toNat 0=0:=rfl;have j0:((0:Int)<(s.size:Int))=True:=AAa;(exact aNh rl sx j0 j1 j3 b2 d1 d2 d3 n0 x5 s0 g0)
       ·have s0:oS1 i = .sl 0 0 1 i:=if_neg h0
        have g0:oG1 M i=[aa (bO (M.take i))]:=if_neg h0;(exact aNg rl sx j1 j2 j3 b2 d1 d2 d3 x5 s0 g0 gr dE aE aE aE aE aE aE)
      ·(exact RT2 nn rl)
   ·(exact RT1 e0)
theorem q41{vs:List AV}{h:XH}(hl:vs.length≤41):runW aB 41 vs h=gN none x41.res x41.ownR h.length (execW aB 41 h.length none x41.body (aT (if x41.ownA then vs else kQ vs)) h):=cX rfl hl h rfl
def fS(ls:List ByteArray)(i:Nat):List ByteArray:=(ls.take i).map fun s=>nG (oG s)
theorem aJX{ls:List ByteArray}{i:Nat}(h:i≤ls.length):(fS ls i).length=i:=by simp[fS];omega
theorem bEZ{ls:List ByteArray}{i:Nat}{s:ByteArray}(h:ls[i]?=some s):fS ls (i+1)=fS ls i++[nG (oG s)]:=by
 grind [List.take_add_one,fS]
theorem bBz{ls:List ByteArray}(hg:∀ s∈ls,prL (bN s)=true)(n:Nat):Flds (fS ls n):=by
 intro t ht;unfold fS at ht;obtain⟨s,hs,rfl⟩:=F7.1 ht;exact⟨by rw[xS,nQ],by grind [zZ,aAO,aGT,oG]⟩
theorem aXd(s:ByteArray):oG (nG (oG s))=oG s:=by
 grind [zZ,pA,aEA,aGU,iM,oG]
theorem bBA(ls:List ByteArray):Cn (fS ls ls.length) ls.length=Cn ls ls.length:=by
 grind [List.take_of_length_le,List.map_congr_left,aXd,Cn,fS]
def aQC(i:Nat):AV:=if i=0 then .nilsl else .sl 0 0 1 i
def fG(ls:List ByteArray)(i:Nat):XH:=if i=0 then [] else [aa (cO (fS ls i))]
theorem w41{ls:List ByteArray}{row:Nat}(h0:1≤ls.length)(h1:ls.length≤1000)(hr:row≤10000)(hg:∀ s∈ls,s.size≤40∧prL (bN s)=true):runW aB 41 [.fs (rS ls),I (row:Int)] []=some (.str (pgB ls row),[]):=by
 rw[q41 (by simp)];unfold x41;dsimp only;have rl:=eX ls;have nn:((ls.length:Int)<(ls.length:Int))=False:=AAb;sym =>
  simp[Zb,Zf,Zh,Zl,Zv,WY,Vd,Tb,Tl,TK,TL,SF,SK,SL,SW,rl]
  tactic =>
   unfold aVa;rw[aJ ls.length (fun i=>[.fs (rS ls),I (row:Int),.str (Bn ls row i),aQC i,I (i:Nat)]) (fun i=>fG ls i)]
   ·have hn0:¬ls.length=0:=AT
    have s0:aQC ls.length = .sl 0 0 1 ls.length:=if_neg hn0;have g0:fG ls ls.length=[aa (cO (fS ls ls.length))]:=if_neg hn0;have lf:=aJX (ls:=ls) (B5 _);have lc:=fH (fS ls ls.length);rw[lf]at lc;have ch:=aBh (fS ls ls.length);rw[lf]at ch;have gr:=eP (fS ls ls.length);have p1:(ls.length*1≤ls.length)=True:=AAa;have fl:=bBz (fun s hs=>(hg s hs).2) ls.length;have c1:=w49 fl AT;rw[lf,bBA]at c1;have lS:=fI (C:=Cn ls ls.length) (n:=ls.length) (by rw[lN (B5 _)];omega) ls.length (B5 _);have pS:=aOn (C:=Cn ls ls.length) (n:=ls.length) (k:=ls.length) (by rw[lN (B5 _)];omega) (B5 _);have bS:=zZ (aTu pS);have c2:=w79 (s:=nG (eJ (Cn ls ls.length) ls.length)) (row:=row+ls.length) (by rw[xS,lS]) (by grind) AT;rw[bS]at c2;have r1:IntKind.i64.wrap ((row:Int)+(ls.length:Int))=((row+ls.length:Nat):Int):=by grind [aF]
    have a1:=dR (a:=Bn ls row ls.length) (b:=nG (iY (row+ls.length) (eJ (Cn ls ls.length) ls.length))) (by grind [yF,xS,tI]);have hE:Bn ls row ls.length++nG (iY (row+ls.length) (eJ (Cn ls ls.length) ls.length))=pgB ls row:=rfl;rw[hE]at a1;generalize nG (iY (row+ls.length) (eJ (Cn ls ls.length) ls.length))=R at *;generalize nG (eJ (Cn ls ls.length) ls.length)=SM at *;generalize pgB ls row=PG at *;generalize Bn ls row ls.length=B0 at *;generalize fS ls ls.length=F0 at *;(exact fN rl nn s0 g0 lc ch gr p1 c1 c2 r1 a1 bU bR bT aE aE aE aE aE)
   ·rfl
   ·intro i hi
    obtain⟨s,hs⟩:=dD hi;have sx:=rO hs;obtain⟨Xi,hp⟩:=hg s (B3 hs);have i1:((i:Int)<(ls.length:Int))=True:=AAa;have i2:(i<(rS ls).length)=True:=AAa;have a2:=dU hi AT;have c1:=w78 Xi;have hF:nG (newF (bN s))=nG (oG s):=rfl;rw[hF]at c1;have bF:=zZ (aAO s);have c2:=w79 (s:=nG (oG s)) (row:=row+i) (by rw[xS,nQ]) (by rw[bF];exact aGT hp) AT;rw[bF]at c2;have r1:IntKind.i64.wrap ((row:Int)+(i:Int))=((row+i:Nat):Int):=by grind [aF]
    have hB:=aUN (ls:=ls) (row:=row) hs;have a1:=dR (a:=Bn ls row i) (b:=nG (iY (row+i) (oG s))) (by grind [yF,xS,tI,nQ]);have hE:Bn ls row i++nG (iY (row+i) (oG s))=Bn ls row (i+1):=by rw[hB];rfl
    rw[hE]at a1;have fs1:=bEZ hs;have lf:=aJX (ls:=ls) (i:=i) AT;have lf1:=aJX (ls:=ls) (i:=i+1) AT;have lc:=fH (fS ls i);rw[lf]at lc;have lc1:=fH (fS ls (i+1));rw[lf1]at lc1;have so:cO (fS ls i)++[.str (nG (oG s))]=cO (fS ls (i+1)):=by rw[fs1];simp[cO]
    have gr:=eP (fS ls i);have gr1:=eP (fS ls (i+1));have at1:(cO (fS ls (i+1)))[i]?=some (.str (nG (oG s))):=by
     grind
    have z3:(i+1≤1099511627776)=True:=AAa;have z4:((i+1)*16≤1099511627776)=True:=AAa;have z5:(i<i+1)=True:=AAa;have z6:((i:Int)<((i+1:Nat):Int))=True:=AAa;have s1:aQC (i+1) = .sl 0 0 1 (i+1):=if_neg AT;have g1:fG ls (i+1)=[aa (cO (fS ls (i+1)))]:=if_neg AT;by_cases h0:i=0
    ·subst h0
     have s0:aQC 0 = .nilsl:=rfl;have g0:fG ls 0=[]:=rfl;have F0:fS ls 0=[]:=rfl;rw[F0]at so;have h1':cO []=[]:=rfl;rw[h1',H7]at so;rw[←so]at g1;have n0:Int.toNat 0=0:=rfl;have i00:((0:Int)<(ls.length:Int))=True:=AAa;generalize nG (iY (row+0) (oG s))=R at *;generalize nG (oG s)=FL at *;generalize Bn ls row (0+1)=B1 at *;generalize Bn ls row 0=B0 at *;have r0:IntKind.i64.wrap ((row:Int)+0)=((row+0:Nat):Int):=AT
     have i20:(0<(rS ls).length)=True:=i2;have sx0:(rS ls)[0]?=some [.str s]:=sx;(exact gF rl i00 i20 sx0 c1 c2 r0 a1 s0 g0 s1 g1 n0)
    ·have s0:aQC i = .sl 0 0 1 i:=if_neg h0
     have g0:fG ls i=[aa (cO (fS ls i))]:=if_neg h0;generalize nG (iY (row+i) (oG s))=R at *;generalize nG (oG s)=FL at *;generalize Bn ls row (i+1)=B1 at *;generalize Bn ls row i=B0 at *;generalize hT1:fS ls (i+1)=T1 at *;generalize fS ls i=T0 at *;(exact rA rl i1 i2 a2 sx c1 c2 r1 a1 s0 g0 s1 g1 lc lc1 so gr gr1 at1 z3 z4 z5 z6 bU bR bT)
   ·(exact pY rl nn)
theorem q12{vs:List AV}{h:XH}(hl:vs.length≤24):runW aB 12 vs h=gN none x12.res x12.ownR h.length (execW aB 12 h.length none x12.body (aT (if x12.ownA then vs else kQ vs)) h):=cX rfl hl h rfl
def lgB(ls:List ByteArray):Nat→Bool
 | 0=>decide (40<ls.length)
 | i+1=>lgB ls i||decide (100<(ls.getD i emB).size)
theorem w12{ls:List ByteArray}(hn:ls.length≤9223372036854775807):runW aB 12 [.fs (rS ls)] []=some (.bool (lgB ls ls.length),[]):=by
 rw[q12 (by simp)];unfold x12;dsimp only;have rl:=eX ls;have e0:((ls.length:Int)<(ls.length:Int))=False:=AAb;have d40:decide ((40:Int)<(ls.length:Int))=decide (40<ls.length):=decide_eq_decide.2 AT;sym =>
  simp[Za,Zb,Zf,Zh,Zl,Zm,Zv,ZA,ZR,Yu,YJ,Vd,V8,US,Tb,Tl,TK,TL,SD,SF,SK,SL,SV,SW,rl]
  tactic =>
   unfold aVe;rw[aJ ls.length (fun i=>[.fs (rS ls),.bool (lgB ls i),I (i:Nat)]) (fun _=>[])];·(exact pY e0 rl)
   ·have l0:lgB ls 0=decide (40<ls.length):=rfl
    (exact yK rl l0 d40)
   ·intro i hi
    obtain⟨s,hs⟩:=dD (l:=ls) (i:=i) hi;have sx:=rO hs;have g1:ls.getD i emB=s:=by grind
    have i1:((i:Int)<(ls.length:Int))=True:=AAa;have i2:(i<(rS ls).length)=True:=AAa;have a2:IntKind.i64.wrap ((i:Int)+1)=(i:Int)+1:=aF AT AT;have ls1:lgB ls (i+1)=(lgB ls i||decide (100<s.size)):=by rw[lgB,g1]
    have d100:decide ((100:Int)<(s.size:Int))=decide (100<s.size):=decide_eq_decide.2 AT;rw[ls1];cases lgB ls i with
    | true =>
      rw[Bool.true_or];(exact uJ rl sx i1 i2 a2)
    | false =>
      rw[Bool.false_or];(exact mK rl sx i1 i2 a2 d100 aE)
   ·(exact pY e0 rl)
theorem aIm{ls:List ByteArray}:∀{i},lgB ls i=false→ls.length≤40∧∀ k,k<i→(ls.getD k emB).size≤100
 | 0,h=>by
   grind [lgB]
 | i+1,h=>by
   rw[lgB,Bool.or_eq_false_iff]at h;obtain⟨h1,h2⟩:=aIm h.1;refine⟨h1,fun k hk=>?_⟩;by_cases hki:k=i;·subst hki;simpa using h.2
   ·exact h2 k AT
theorem bBo(l:List ByteArray):kI [.fs (rS l)]=true:=rfl
theorem g12{ls:List ByteArray}(hn:ls.length≤9223372036854775807):runW progG 12 [.fs (rS ls)] []=some (.bool (lgB ls ls.length),[]):=(dF (d:=jZ (pmRun 12)) rfl rfl _ _).trans (aJr (bBo _) (.bool _) (w12 hn))
theorem g41{ls:List ByteArray}{row:Nat}(h0:1≤ls.length)(h1:ls.length≤1000)(hr:row≤10000)(hg:∀ s∈ls,s.size≤40∧prL (bN s)=true):runW progG 41 [.fs (rS ls),I (row:Int)] []=some (.str (pgB ls row),[]):=(dF (d:=jZ (pmRun 41)) rfl rfl _ _).trans (aJr rfl (.str _) (w41 h0 h1 hr hg))
def Alk(s:CSt)(E:Nat→Int)(B:Option XB):Prop:=RB s E B∧EOk s E∧cN s∧∀ l∈s.book,BkL l
theorem aUw:Alk cA (fun _=>0) rN:=⟨.inr ⟨rfl,rfl⟩,⟨fun x=>rfl,fun i=>⟨Int.le_refl 0,by grind⟩⟩,aIs,fun l hl=>by simp[cA]at hl⟩
theorem aUv{s:CSt}{E:Nat→Int}{B:Option XB}(h:Alk s E B)(line:ByteArray):∃ E' B',Alk (sayA s line).2 E' B'∧runW progG 22 [.pt 0 0,.str line] [B]=some (.str (sayA s line).1,[B']):=by
 obtain⟨hB,eo,gs,hb⟩:=h;obtain⟨E',B',h1,h2,h3⟩:=a22 (line:=line) hB gs eo;have hr:=aKM line;refine⟨E',B',⟨h1,h2,aIr gs fun w hw=>?_,aXQ hb⟩,h3⟩;rw[hw]at hr;obtain⟨_,_,_,_,iw⟩:=hr
 grind
theorem gq4{vs:List AV}{h:XH}(hl:vs.length≤x4.N):runW progG 4 vs h=gN none x4.res x4.ownR h.length (execW progG 4 h.length none x4.body (aT (if x4.ownA then vs else kQ vs)) h):=cX rfl hl h rfl
theorem aYS(L:List ByteArray):∀ n,n≤L.length→∃ Bs:Nat→Option XB,Bs 0=rN∧(∀ i,i≤n→∃ E,Alk (runL cA (L.take i)) E (Bs i))∧∀ i,i<n→∀ x,L[i]?=some x→runW progG 22 [.pt 0 0,.str x] [Bs i]=some (.str (sayA (runL cA (L.take i)) x).1,[Bs (i+1)])
 | 0, _=>⟨fun _=>rN, rfl, fun i hi=>⟨_, by obtain rfl:i=0:=AT
                                           exact aUw⟩,fun i hi=>absurd hi AT⟩
 | n+1,hn=>by
   obtain⟨Bs,h0,h1,h2⟩:=aYS L n AT;obtain⟨x,hx⟩:=dD (l:=L) (i:=n) AT;obtain⟨E,ha⟩:=h1 n (B5 _);obtain⟨E',B',a1,a2⟩:=aUv ha x;have u:=(aAw (s:=cA) hx).1;refine⟨fun i=>if i=n+1 then B' else Bs i,by grind,fun i hi=>?_,fun i hi y hy=>?_⟩
   ·dsimp only
    by_cases hin:i=n+1;·grind
    ·rw[if_neg hin];exact h1 i AT
   grind
theorem aWw{L:List ByteArray}{i:Nat}(hn:L.length≤1000)(hi:i<L.length){x:ByteArray}(hx:L[i]?=some x){s:CSt}{B B':Option XB}{n m:Nat}(hB:Shp n B)(hB':Shp m B')(c22:runW progG 22 [.pt 0 0,.str x] [B]=some (.str (sayA s x).1,[B'])) :
 cC 0 [0,3,4,5] (execW progG 4 0 none (match aNo with | .loop _ a=>a|c=>c) (bB [0,3,4,5] [.fs (rS L),.pt 0 0,.pt 1 0,I (i:Nat)]) [gK s,B]) =
 some ([.fs (rS L),.pt 0 0,.pt 1 0,I (i+1:Nat)],[gK (sayA s x).2,B']):=by
 have rl:=eX L;have ra:=rO hx;have t1:((i:Int)<(L.length:Int))=True:=AAa;have t2:(i<(rS L).length)=True:=AAa;have up:=dU (i:=i) (n:=1000) AT AT;have c21:=g21 s x;have sq:=oN (sayA s x).1 (sayA s x).1;have sq:aN .neq (sayA s x).1 (sayA s x).1=some (.bool false):=by grind
 unfold gK at *;generalize sayA s x=q at *;obtain⟨q1,q2⟩:=q;dsimp only at *;generalize IsClk q2=K2 at *;generalize IsClk s=K1 at *;unfold aNo;dsimp only;rcases hB with ⟨a,b,c,d,e,_,rfl⟩|⟨_,rfl⟩;all_goals rcases hB' with ⟨a',b',c',d',e',_,rfl⟩|⟨_,rfl⟩
 all_goals (exact RT9 rl ra t1 t2 up c21 c22 sq aE)
theorem w4{ls:List ByteArray}(hn:ls.length≤9223372036854775807):runW progG 4 [.fs (rS ls)] []=some (.bool true,[]):=by
 have c12:=g12 hn;have c13:=w13;cases hl:lgB ls ls.length with
 | true =>
   rw[hl]at c12;rw[gq4 (by exact N4 rfl)];unfold x4;dsimp only;(exact RT2 c12 c13)
 | false =>
   rw[hl]at c12;obtain⟨l1,_⟩:=aIm hl;obtain⟨Bs,b0,b1,b2⟩:=aYS ls ls.length (B5 _);have c19:=g19;have c20:=a20;have rl:=eX ls;obtain⟨E,hB,eo,gs,bk⟩:=b1 ls.length (B5 _);have c23:=g23 (runL cA (ls.take ls.length));have c24:=a24 g41 hB gs.book bk;have shB:=zE hB;have e0:((ls.length:Int)<(ls.length:Int))=False:=AAb;have sq:=iP (jJ (runL cA (ls.take ls.length)).book) (jJ (runL cA (ls.take ls.length)).book);rw[AAj rfl]at sq;rw[gq4 (by exact N4 rfl)];unfold x4;dsimp only
   have rd:∀ i,i<ls.length→cC 0 [0,3,4,5] (execW progG 4 0 none (match aNo with | .loop _ a=>a|c=>c) (bB [0,3,4,5] [.fs (rS ls),.pt 0 0,.pt 1 0,I (i:Nat)]) [gK (runL cA (ls.take i)),Bs i]) =
    some ([.fs (rS ls),.pt 0 0,.pt 1 0,I (i+1:Nat)],[gK (runL cA (ls.take (i+1))),Bs (i+1)]):=fun i hi=>by
    obtain⟨x,hx⟩:=dD (l:=ls) (i:=i) hi;obtain⟨_,q1,_⟩:=b1 i AT;obtain⟨_,q2,_⟩:=b1 (i+1) AT;rw[(aAw (s:=cA) hx).1];exact aWw AT hi hx (zE q1) (zE q2) (b2 i hi x hx)
   sym =>
    simp[fR,fU,lX,Za,Zb,Zf,Zg,Zh,Zj,Zl,Zm,Zp,Zq,Zv,Zy,ZA,ZR,Ye,Yh,Ym,Yn,Yo,Yu,YG,Xy,XL,XN,Wt,Wu,Wx,Wz,WC,WH,WJ,WZ,Vd,Vf,V0,V3,V6,V7,V8,VA,VC,VE,VG,VH,VJ,VK,VL,VM,VN,VO,VP,VQ,VS,VT,VU,VW,VX,Uc,Uf,Ug,Uh,Ui,Ut,Uv,Uw,Ux,UD,UE,UG,UH,UI,UJ,UK,UN,UO,UP,UQ,US,UT,UW,UX,UY,UZ,Tb,Tc,Td,Te,Tf,Tg,Ti,Tj,Tl,T4,T6,T9,TA,TB,TC,TD,TK,TL,Sr,SD,SE,SF,SG,SI,SJ,SK,SL,SN,SO,SS,SV,SW,Qx,QS,QU,QW,QX,QY,QZ,Pu,Pv,Pw,Px,Pz,P0,c12,c19,c20,rl]
    tactic =>
     unfold aNo;rw[aJ ls.length (fun i=>[.fs (rS ls),.pt 0 0,.pt 1 0,I (i:Nat)]) (fun i=>[gK (runL cA (ls.take i)),Bs i])]
     ·generalize jJ (runL cA (ls.take ls.length)).book=SB at *
      unfold gK at *;generalize IsClk (runL cA (ls.take ls.length))=K1 at *;generalize runL cA (ls.take ls.length)=s1 at *;clear b1 b2 rd hB;generalize Bs ls.length=B at *;rcases shB with ⟨a,b,c,d,e,_,rfl⟩|⟨_,rfl⟩;all_goals (exact RT7 e0 rl c23 c24 sq c13 aE)
     ·have h0:runL cA (ls.take 0)=cA:=rfl
      rw[h0,b0];rfl
     ·exact rd
     ·(exact RT2 e0 rl)
end Go.Proofs.YtmapgnepfgnphaaGreatDoor
