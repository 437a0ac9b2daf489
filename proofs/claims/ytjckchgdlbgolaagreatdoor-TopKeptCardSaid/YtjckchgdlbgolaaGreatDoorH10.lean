/- Parts of a proof, joined: M7 M1 M11 M12 M8 M10 M9 M13. No statement of the seed is proved here. -/
import Derived.Test.YtjckchgdlbgolaaGreatDoorH9
set_option linter.unusedSimpArgs false
set_option linter.unusedVariables false
set_option linter.unusedSectionVars false
set_option maxRecDepth 100000
set_option maxHeartbeats 4000000
namespace Go.Proofs.YtjckchgdlbgolaaGreatDoor
open Go Go.DL
section
variable{q:Int}{W:List Int}
theorem bGN{vs:List AV}{h:XH}(hl:vs.length≤x37.N):runW progG 37 vs h=cH none x37.res x37.ownR h.length (execW progG 37 h.length none x37.body (aM (if x37.ownA then vs else fM vs)) h):=aS rfl hl h rfl
theorem w37(h2:2≤W.length)(hl:W.length≤9):runW progG 37 [hsA q W,.fs [[I 0],[I 1]]] []=some (.tup [Uq 3,I 0],[]):=by
 have c1:=aJJ 0 0 ((W.length:Int)-1);have c2:=aJJ 0 1 ((W.length:Int)-1);rw[AAj AM,AAj AM,aC3]at c1 c2;have w1:IntKind.i64.wrap ((W.length:Int)-1)=(W.length:Int)-1:=aJ AM AM;have c3:runW progG 71 [.int .u64 0,I 0] []=some (.int .u64 1,[]):=aMX (a:=0) (i:=0) AM AM;have c4:runW progG 71 [.int .u64 1,I 1] []=some (.int .u64 3,[]):=aMX (a:=1) (i:=1) AM AM;unfold hsA vN;rw[bGN (by simp[x37])];unfold x37;dsimp only;unfold aSO;(exact RT7 c1 c2 c3 c4 w1 @fZ aF)
end
def adS(W:List Int)(m k:Nat):Int:=if m.testBit k then W.getD k 0 else 0
theorem aSb(W:List Int):∀(l:List Nat)(n:Int),l.foldl (wS W) n=n+(l.map fun k=>W.getD k 0).sum:=by
 intro l;induction l with
 | nil=>intro n;simp
 | cons k l ih =>
   intro n;rw[aB0,ih,C4,M0];unfold wS;omega
theorem aIr(p:Nat→Bool)(f:Nat→Int):∀ l:List Nat,((l.filter p).map f).sum=(l.map fun k=>if p k then f k else 0).sum:=by
 intro l;induction l with
 | nil=>rfl
 | cons k l ih =>
   rw[List.filter_cons,C4,M0,←ih];cases h:p k<;>simp
theorem pZ(W:List Int)(m:Nat):oY W m=((List.range 10).map (adS W m)).sum:=by
 unfold oY el;rw[aSb,aIr,Int.zero_add];rfl
theorem aQG(f g:Nat→Int):∀ l:List Nat,(l.map fun k=>f k+g k).sum=(l.map f).sum+(l.map g).sum:=by
 intro l;induction l with
 | nil=>rfl
 | cons k l ih=>simp only[C4,M0,ih];omega
theorem xT(a:Int)(W:List Int)(m b:Nat)(hb:b<2)(hm:m<512):oY (a::W) (2*m+b)=(if b=1 then a else 0)+oY W m:=by
 rw[pZ,pZ,show List.range 10=0::(List.range 9).map (· + 1) from rfl,C4,M0,J9];have h0:adS (a::W) (2*m+b) 0=if b=1 then a else 0:=by
  unfold adS;rw[Nat.testBit_zero];by_cases h:b=1
  ·have:(2*m+b)%2=1:=AM
   simp[this,h]
  ·have:(2*m+b)%2=0:=AM
   simp[this,h]
 have h1:∀ k,adS (a::W) (2*m+b) (k+1)=adS W m k:=by
  intro k;unfold adS;rw[Nat.testBit_succ,show (2*m+b)/2=m by omega];simp
 have h2:((adS (a::W) (2*m+b))∘fun x=>x+1)=adS W m:=funext h1;have h9:adS W m 9=0:=by
  unfold adS;rw[aG0 AM];simp
 rw[h0,h2,show (0::(List.range 9).map (· + 1):List Nat)=List.range 9++[9] from rfl,H6,aD1];simp[h9]
theorem aMN(R:List Int)(c:Int)(S:Nat)(hr:R.length<10)(hS:S<2^R.length):oY (R++[c]) S=oY R S∧oY (R++[c]) (S|||2^R.length)=oY R S+c:=by
 rw[pZ,pZ,pZ];have hlt:∀ k,S.testBit k=true→k<R.length:=fun k hk=>by
  rcases Nat.lt_or_ge k R.length with h|h;·exact h
  ·rw[aDv hS h]at hk;cases hk
 have h1:adS (R++[c]) S=adS R S:=by
  funext k;unfold adS;cases hk:S.testBit k with
  | false=>simp
  | true=>simp[I2 (hlt k hk)]
 have h2:adS (R++[c]) (S|||2^R.length)=fun k=>adS R S k+if k=R.length then c else 0:=by
  funext k;unfold adS;rw[Nat.testBit_or,aD5];by_cases hk:k=R.length
  ·subst hk
   have:S.testBit R.length=false:=by
    cases h:S.testBit R.length with
    | false=>rfl
    | true=>exact absurd (hlt _ h) (Nat.lt_irrefl _)
   simp[this]
  ·have hne:¬R.length=k:=fun e=>hk e.symm
   cases hb:S.testBit k with
   | false=>simp[hk,hne]
   | true=>simp[hk,I2 (hlt k hb)]
 refine⟨by rw[h1],?_⟩;rw[h2,aQG];congr 1;have:∀ n r:Nat,((List.range n).map fun k=>if k=r then c else 0).sum=if r<n then c else 0:=by
  intro n r;induction n with
  | zero=>rfl
  | succ n ih =>
    rw[aB2,H6,aD1,ih];by_cases h:n=r;·subst h;simp
    ·by_cases h2:r<n
     ·simp[h,h2,Nat.lt_succ_of_lt h2]
     ·have:¬r<n+1:=AM
      simp[h,h2,this]
 rw[this,if_pos hr]
theorem aGI(q:Int)(W:List Int)(i:Nat):∀ K:Nat,uM q W i (4*(K+1))=uM q W i (4*K)+(if swB q W i (4*K) then 1 else 0)+(if swB q W i (4*K+1) then 1 else 0)+(if swB q W i (4*K+2) then 1 else 0)+(if swB q W i (4*K+3) then 1 else 0):=by
 intro K;rw[show 4*(K+1)=4*K+1+1+1+1 by omega,oN,oN,oN,oN]
theorem aLM(S:Nat):(4*S).testBit 0=false∧(4*S+1).testBit 0=true∧(4*S+2).testBit 0=false∧(4*S+3).testBit 0=true∧(4*S).testBit 1=false∧(4*S+1).testBit 1=false∧(4*S+2).testBit 1=true∧(4*S+3).testBit 1=true:=by
 refine⟨?_,?_,?_,?_,?_,?_,?_,?_⟩<;>simp[Nat.testBit_zero,Nat.testBit_succ]<;>omega
theorem aRB(S:Nat):4*S|||2^0=4*S+1∧4*S+2|||2^0=4*S+3∧4*S|||2^1=4*S+2∧4*S+1|||2^1=4*S+3:=by
 have h:∀ b,b<4→4*S+b=4*S|||b:=fun b hb=>Nat.two_pow_add_eq_or_of_lt (i:=2) hb S;refine⟨(h 1 AM).symm,?_,(h 2 AM).symm,?_⟩;·rw[h 2 AM,h 3 AM,Nat.or_assoc];rfl
 ·rw[h 1 AM,h 3 AM,Nat.or_assoc];rfl
theorem aMO(a b:Int)(R:List Int)(S:Nat)(hS:S<256) :
 oY (a::b::R) (4*S)=oY R S∧oY (a::b::R) (4*S+1)=oY R S+a∧oY (a::b::R) (4*S+2)=oY R S+b∧oY (a::b::R) (4*S+3)=oY R S+a+b:=by
 have h:∀ i j,i<2→j<2→oY (a::b::R) (2*(2*S+j)+i)=(if i=1 then a else 0)+((if j=1 then b else 0)+oY R S):=fun i j hi hj=>by
  rw[xT a (b::R) (2*S+j) i hi AM,xT b R S j hj AM]
 have h0:=h 0 0 AM AM;have h1:=h 1 0 AM AM;have h2:=h 0 1 AM AM;have h3:=h 1 1 AM AM;simp only[Nat.mul_add,←Nat.mul_assoc,Nat.reduceMul,H8,Nat.zero_ne_one,AAe,AAd,aC2,Nat.reduceAdd]at h0 h1 h2 h3;refine⟨?_,?_,?_,?_⟩;·rw[h0];omega
 ·rw[h1];omega
 ·rw[h2];omega
 ·rw[h3];omega
theorem aMh(q a b:Int)(ha:0≤a)(hb:0≤b)(R:List Int)(S:Nat)(hr:R.length≤7)(hS:S<2^R.length) :
 ((if swB q (a::b::R) 0 (4*S) then 1 else 0)+(if swB q (a::b::R) 0 (4*S+1) then 1 else 0)+(if swB q (a::b::R) 0 (4*S+2) then 1 else 0)+(if swB q (a::b::R) 0 (4*S+3) then 1 else 0):Nat) +
 ((if swB q (a::b::R) 1 (4*S) then 1 else 0)+(if swB q (a::b::R) 1 (4*S+1) then 1 else 0)+(if swB q (a::b::R) 1 (4*S+2) then 1 else 0)+(if swB q (a::b::R) 1 (4*S+3) then 1 else 0)) =
 2*(if swB q (R++[a+b]) R.length S then 1 else 0):=by
 have p:2^R.length≤2^7:=D7 AM hr;obtain⟨o1,o2,o3,o4⟩:=aRB S;obtain⟨t0,t1,t2,t3,u0,u1,u2,u3⟩:=aLM S;obtain⟨g0,g1,g2,g3⟩:=aMO a b R S AM;obtain⟨k0,k1⟩:=aMN R (a+b) S AM hS;have z:S.testBit R.length=false:=aDv hS (A3 _);unfold swB kJ;rw[o1,o2,o3,o4,t0,t1,t2,t3,u0,u1,u2,u3,z,g0,g1,g2,g3,k0,k1];generalize oY R S=g;simp only[F7,O9,aA8,aG5,A7,AAd,H8,I9,A1,J3,AAf,decide_eq_false_iff_not];by_cases c0:q≤g
 ·have c1:q≤g+a:=AM
  have c2:q≤g+b:=AM
  simp[c0,c1,c2]
 ·by_cases c1:q≤g+a
  ·by_cases c2:q≤g+b
   ·have c3:q≤g+a+b:=AM
    have c4:q≤g+(a+b):=AM
    simp[c0,c1,c2,c3,c4]
   ·have c3:q≤g+a+b:=AM
    have c4:q≤g+(a+b):=AM
    simp[c0,c1,c2,c3,c4]
  ·by_cases c2:q≤g+b
   ·have c3:q≤g+a+b:=AM
    have c4:q≤g+(a+b):=AM
    simp[c0,c1,c2,c3,c4]
   ·by_cases c3:q≤g+a+b
    ·have c4:q≤g+(a+b):=AM
     simp[c0,c1,c2,c3,c4]
    ·have c4:¬q≤g+(a+b):=AM
     simp[c0,c1,c2,c3,c4]
theorem aMi(q a b:Int)(ha:0≤a)(hb:0≤b)(R:List Int)(hr:R.length≤7) :
 2*nW q (R++[a+b]) R.length=nW q (a::b::R) 0+nW q (a::b::R) 1:=by
 have st:∀ K,K≤2^R.length→uM q (a::b::R) 0 (4*K)+uM q (a::b::R) 1 (4*K)=2*uM q (R++[a+b]) R.length K:=by
  intro K;induction K with
  | zero=>intro _;rfl
  | succ K ih =>
    intro hK;have i1:=ih AM;have i2:=aMh q a b ha hb R K hr AM;rw[aGI,aGI,oN];omega
 have hi:∀ d,uM q (R++[a+b]) R.length (2^R.length+d)=uM q (R++[a+b]) R.length (2^R.length)∨2^R.length<d:=by
  intro d;induction d with
  | zero=>exact .inl rfl
  | succ d ih =>
    by_cases hd:2^R.length<d+1;·exact .inr hd
    rcases ih with ih|ih
    ·refine .inl ?_
     rw[←aC2,oN,ih];have:(2^R.length+d).testBit R.length=true:=by
      rw[Nat.testBit_two_pow_add_eq,aDv (n:=R.length) AM (A3 _)];rfl
     unfold swB;rw[this];rfl
    ·omega
 have h1:=st (2^R.length) (A3 _);have h2:=hi (2^R.length);have h3:uM q (R++[a+b]) R.length (2^R.length+2^R.length)=uM q (R++[a+b]) R.length (2^R.length):=by
  rcases h2 with h|h;·exact h
  ·omega
 unfold nW;have e1:2^(R++[a+b]).length=2^R.length+2^R.length:=by rw[C7,List.length_singleton,aF9];omega
 have e2:2^(a::b::R).length=4*2^R.length:=by rw[C6,C6,aF9,aF9];omega
 rw[e1,e2,h3];omega
theorem aNp(q:Int)(W:List Int)(i:Nat)(hi:W.getD i 0=0):nW q W i=0:=by
 have hz:∀ m,swB q W i m=false:=by
  intro m;unfold swB kJ;cases hb:m.testBit i with
  | true=>rfl
  | false =>
    have:oY W (m|||2^i)=oY W m:=by
     rw[pZ,pZ];congr 1;apply I4;intro k _;unfold adS;rw[Nat.testBit_or,aD5];by_cases e:i=k;·subst e;rw[hi];simp
     ·simp[e]
    rw[this];cases decide (q≤oY W m)<;>rfl
 unfold nW uM;rw[List.filter_eq_nil_iff.2 (fun m _=>by rw[hz m];exact Bool.false_ne_true)];rfl
theorem bCE{n:Nat}(h:n<10000000):runW progG 7 [I (n:Nat)] []=some (.str (dg n),[]):=by
 have:=(g33 7 n AM AM h).2;rw[aDj 7 n AM h]at this;exact this
theorem aVp:∀ n:Nat,n<7→∀ j:Nat,j<n→dU ((List.range n).map oQ) (oQ j)=some j:=by decide +kernel
theorem aOK(n:Nat)(ts:List (Nat×Nat)):(cW n ts).farmers.map (·.1)=(List.range n).map oQ:=by
 show ((List.range n).map fun j=>(oQ j,jJ ts j)).map (·.1)=_;rw[J9];rfl
theorem aQD(n:Nat)(ts:List (Nat×Nat)):bZ (cW n ts)=lJ (dF n ts):=by
 show ((List.range n).map fun j=>(oQ j,jJ ts j)).map (fun p=>kO p.2 1000)=_;unfold lJ dF;rw[J9,J9];rfl
def quK(n:Nat)(ts:List (Nat×Nat)):Int:=kO (lJ (dF n ts)).sum 2+1
theorem aVd{n j:Nat}(ts:List (Nat×Nat))(hn:n≤6)(hj:j<n):aAi (cW n ts) (oQ j)=nW (quK n ts) (lJ (dF n ts)) j:=by
 unfold aAi;rw[aOK,aVp n AM j hj];dsimp only;unfold aBg;rw[aQD];rfl
theorem aNc{n j:Nat}(ts:List (Nat×Nat))(hn:n≤6)(hj:j<n):eP (cW n ts).farmers (oQ j)=some (jJ ts j):=by
 show eP ((List.range n).map fun j=>(oQ j,jJ ts j)) (oQ j)=_;rw[aBk AM (fun i hi=>by have:=F8.1 hi;omega),if_pos (F8.2 hj)]
theorem aUG{n j:Nat}(ts:List (Nat×Nat))(hn:n≤6)(hj:j<n):runW progG 6 [.pt 0 0,.str (lnJ j)] [gK (cW n ts)]=some (.str (aDS (jJ ts j)),[gK (cW n ts)]):=by
 rw[g21];unfold sayA;rw[aZr AM,aGN rfl (a:=aDS (jJ ts j)) (by unfold aEa;dsimp only;rw[aNc ts hn hj])]
theorem aUE{n j:Nat}(ts:List (Nat×Nat))(hn:n≤6)(hj:j<n):runW progG 6 [.pt 0 0,.str (lpJ j)] [gK (cW n ts)]=some (.str (aDS (nW (quK n ts) (lJ (dF n ts)) j)),[gK (cW n ts)]):=by
 rw[g21];unfold sayA;rw[aZq AM,aGN rfl (a:=aDS (aAi (cW n ts) (oQ j))) (by unfold aEa;dsimp only;rw[aNc ts hn hj]),aVd ts hn hj]
theorem aRi{n i:Nat}{ts:List (Nat×Nat)}(hn:n≤6)(hk:∀ t∈ts,t.1<256)(hl:ts.length≤20)(hi:i<n):cE 0 [10,11,12,20,22,182,183] (execW progG 3 0 none (match aQr with | .loop _ a=>a|c=>c) (bG [10,11,12,20,22,182,183] [.pt 0 0,.fs (wr (lJ (dF n ts))),.sl 1 0 1 n,.fs (wr (nX (quK n ts) (lJ (dF n ts)) n)),.pt 2 0,I (n:Nat),I (i:Nat)]) [gK (cW n ts),bI (dF n ts),gK (cW n ts)]) =
 some ([.pt 0 0,.fs (wr (lJ (dF n ts))),.sl 1 0 1 n,.fs (wr (nX (quK n ts) (lJ (dF n ts)) n)),.pt 2 0,I (n:Nat),I (i+1:Nat)],[gK (cW n ts),bI (dF n ts),gK (cW n ts)]):=by
 have c1:=aUE ts hn hi;have c2:=aUG ts hn hi;have nl:(dF n ts).length=n:=by simp[dF]
 have tl:(lJ (dF n ts)).length=n:=by simp[lJ,nl]
 have sl:=qC (quK n ts) (lJ (dF n ts)) n;have at1:=aBq (n:=n) (ts:=ts) hi;have nb:=aFW hk i;have at2:(lJ (dF n ts))[i]?=some (kO (jJ ts i) 1000):=by unfold lJ;rw[A8,at1];rfl
 have at3:(nX (quK n ts) (lJ (dF n ts)) n)[i]?=some (nW (quK n ts) (lJ (dF n ts)) i):=by unfold nX;rw[A8,I5 hi];rfl
 have sb:=aFk (q:=quK n ts) (W:=lJ (dF n ts)) (i:=i) AM;have zz:kO (jJ ts i) 1000=0→nW (quK n ts) (lJ (dF n ts)) i=0:=fun e=>aNp _ _ _ (by rw[B7,at2,e];rfl);have r2:=rY at2;have r3:=rY at3;have l2:=iT (lJ (dF n ts));have l3:=iT (nX (quK n ts) (lJ (dF n ts)) n);rw[tl]at l2;rw[sl]at l3;clear at2 at3;generalize lJ (dF n ts)=T at *;generalize quK n ts=Q at *;obtain⟨k,hk1⟩:∃ k:Nat,nW Q T i=(k:Int):=⟨(nW Q T i).toNat,by omega⟩;rw[hk1]at c1 r3 zz sb;obtain⟨m,hm1⟩:∃ m:Nat,jJ ts i=(m:Int):=⟨(jJ ts i).toNat,by omega⟩;rw[hm1]at c2 at1 nb zz r2;generalize kO (m:Int) 1000=t at *;have g1:=bCE (n:=k) AM;have g2:=bCE (n:=m) AM;have g3:=aRW (n:=i) AM;rw[aRD]at c1 c2;have q1:=sF (dg k) (dg k);rw[AAj rfl]at q1;have q1:aW .neq (dg k) (dg k)=some (.bool false):=q1;have q2:=sF (dg m) (dg m);rw[AAj rfl]at q2;have q2:aW .neq (dg m) (dg m)=some (.bool false):=q2;have s1:aW .add ⟨⟨[102]⟩⟩ ⟨⟨[UInt8.ofNat (48+i)]⟩⟩=some (.str (oQ i)):=aJA (by simp);have s2:aW .add ⟨⟨[112,111,119,101,114,32]⟩⟩ (oQ i)=some (.str (lpJ i)):=aJA (by simp);have s3:aW .add ⟨⟨[110,101,116,32]⟩⟩ (oQ i)=some (.str (lnJ i)):=aJA (by simp);have t1:((i:Int)<(n:Int))=True:=AAa;have t2:(i+1≤n)=True:=AAa;have up:=mM (i:=i) (n:=10) AM AM;generalize lpJ i=z1 at *;generalize lnJ i=z2 at *;generalize oQ i=z3 at *;generalize dg k=y1 at *;generalize dg m=y2 at *;generalize nX Q T n=S at *;generalize dF n ts=N at *;generalize cW n ts=s at *;unfold gK at *;generalize IsClk s=K1 at *;unfold aQr;dsimp only;by_cases ht:t=0
 ·subst ht
  have e2:((k:Int)=0)=True:=AAl (zz rfl);(exact aJD c1 c2 at1 r2 r3 l2 l3 nl g1 g2 g3 q1 q2 s1 s2 s3 t1 t2 up e2)
 ·have e1:(t=0)=False:=AAm ht
  (exact aJD c1 c2 at1 r2 r3 l2 l3 nl g1 g2 g3 q1 q2 s1 s2 s3 t1 t2 up e1)
theorem bCP:cF 0=gJ:=rfl
theorem aNi{n i a b:Nat}{ws:List (Nat×Nat)}(h:ws[i]?=some (a,b)):qB n (ws.take (i+1))=qB n (ws.take i)++[(b,a%n)]:=by
 unfold qB;rw[E7,h,H6];rfl
theorem aFh{n i:Nat}{ws:List (Nat×Nat)}(h:i≤ws.length):(qB n (ws.take i)).length=i:=by
 unfold qB;rw[A6,N5];omega
theorem aNj{n i:Nat}{ws:List (Nat×Nat)}(hb:∀ t∈ws,t.1<256∧t.2<256):∀ t∈qB n (ws.take i),t.1<256:=by
 intro t ht;unfold qB at ht;obtain⟨x,hx,rfl⟩:=D4.1 ht;exact(hb x (O1 hx)).2
theorem aOj:∀ n,n≤6→Rep (cF n) n
 | 0,_=>by rw[bCP];exact aRq
 | n+1,h=>by
   have r:=(aOj n AM).step (bAK (j:=n) AM);rw[aTD AM]at r;exact r
theorem aOi{n:Nat}{ws:List (Nat×Nat)}(hn:n≤6)(h0:0<n)(hb:∀ t∈ws,t.1<256∧t.2<256):∀ m,m≤ws.length→m≤20→Rep (cW n (qB n (ws.take m))) (n+m)
 | 0,_,_=>by
   rw[aG6,show qB n []=[] from rfl,bCO];exact aOj n hn
 | m+1,h1,h2=>by
   obtain⟨⟨a,b⟩,hx⟩:=kD (l:=ws) (i:=m) AM;have hb':=hb _ (A2 hx);have hj:a%n<n:=J2 _ h0;have r:=(aOi hn h0 hb m AM AM).step (aTf (k:=b) (j:=a%n) hb'.2 AM).2;rw[aTC hn hb'.2 hj (by rw[aFh AM];omega)]at r;rw[aNi hx];exact r
theorem aVr{n:Nat}{ts:List (Nat×Nat)}(hk:∀ t∈ts,t.1<256)(hl:ts.length≤20):∀ v∈dF n ts,0≤v∧v≤1275000:=by
 intro v hv;obtain⟨j,_,rfl⟩:=D4.1 hv;have:=aFW hk j;omega
theorem aYR{N:List Int}(hN:∀ v∈N,0≤v∧v≤1275000):∀ v∈lJ N,0≤v∧v≤1275:=by
 intro v hv;obtain⟨u,hu,rfl⟩:=D4.1 hv;have:=hN u hu;have hd:kO u 1000=u/1000:=N7 this.1;omega
theorem aTb{N:List Int}:tnS N N.length=(lJ N).sum:=by
 unfold tnS;rw[B5 (by unfold lJ;simp)]
theorem aZv{N:List Int}(hN:∀ v∈N,0≤v∧v≤1275000)(hl:N.length≤6):0≤(lJ N).sum∧(lJ N).sum≤7650∧0≤kO (lJ N).sum 2∧kO (lJ N).sum 2≤3825:=by
 have h:=aNm hN N.length;rw[aTb]at h;have hd:kO (lJ N).sum 2=(lJ N).sum/2:=N7 h.1;omega
theorem aQb{q:Int}{W:List Int}(h2:2≤W.length)(hl:W.length≤9)(hW:∀ v∈W,0≤v):2*nW q (W.drop 2++[W.getD 0 0+W.getD 1 0]) (W.length-2)=nW q W 0+nW q W 1:=by
 match W,h2 with
 | a::b::R,_ =>
   have h:=aMi q a b (hW a (by simp)) (hW b (by simp)) R (by simp at hl;omega);exact h
structure aQm(n:Nat)(P:Nat→XH):Prop where
 hat:∀ a,hat (P a) n=cU a
 fin:∀ a,lZ false (n+1) (.tup []) (P a)=(.tup [],P a)
structure aHY(n:Nat)(Q P:Nat→XH):Prop where
 hat:∀ a,hat (Q a) n=cU a
 set:∀ a b,(Q a).set n (cU b)=Q b
 head:∀(a:Nat)(e:aG),e 0 = .fn (.yield 0) [] []→e 1 = .pt n 0→cE (n+1) [0,1] (some (.normal,e,Q a))=some ([.fn (.yield 0) [] [],.pt n 0],P a)
def YdP(P P':Nat→XH)(v:Nat)(b:Bool):Prop:=∀ a:Nat,eL (runW progG) (runYW progG) (.fn (.yield 0) [] []) [I v] (P a)=some (.bool b,P' a)
def hpW(P:Nat→XH)(a:Nat):XH:=P a
theorem aUM{n:Nat}{P Q P':Nat→XH}(g:aQm n P)(g':aHY n Q P'){a:Nat}(ha:a<1024)(h0:a≠0)(hy:YdP P Q (aCF a) true) :
 cE (n+1) [0,1] (execW progG 84 (n+1) none (match vP with | .loop _ a=>a|c=>c) (bG [0,1] [.fn (.yield 0) [] [],.pt n 0]) (hpW P a))=some ([.fn (.yield 0) [] [],.pt n 0],hpW P' (a&&&(a-1))):=by
 have h1:hat (hpW P a) n=cU a:=g.hat a;have h2:hat (hpW Q a) n=cU a:=g'.hat a;have h3:(hpW Q a).set n (cU (a&&&(a-1)))=hpW Q (a&&&(a-1)):=g'.set a _;have h4:eL (runW progG) (runYW progG) (.fn (.yield 0) [] []) [I (aCF a:Nat)] (hpW P a)=some (.bool true,hpW Q a):=hy a;have t:=aSY ha h0;have n0:((a:Int)=0)=False:=AAb;have u1:IntKind.u64.wrap ((a:Int)-1)=((a-1:Nat):Int):=by
  grind [gW,iQ]
 have u2:=aDu iQ (a:=a) (b:=a-1) AM AM;have hd:∀ e:aG,e 0 = .fn (.yield 0) [] []→e 1 = .pt n 0→cE (n+1) [0,1] (some (.normal,e,hpW Q (a&&&(a-1))))=some ([.fn (.yield 0) [] [],.pt n 0],hpW P' (a&&&(a-1))):=g'.head (a&&&(a-1));unfold vP;dsimp only;sym =>
  simp[Za,Zb,Zc,Zf,Zg,Zh,Zj,Zl,Zm,Zv,ZA,ZD,ZU,ZY,ZZ,Yc,Yg,Yl,Ym,Yp,Y6,Y9,YD,Xt,XI,XO,XZ,Wn,Wv,W3,Vh,Vw,Vx,Vz,V1,V2,V4,V5,VA,VC,VF,VG,VH,VI,VK,VN,VO,Ua,Ub,Uc,Um,Uo,Ur,Ut,Uu,Uw,UO,UP,UQ,UR,US,UT,UX,UY,UZ,Ta,Tb,Te,Tf,Tn,Tr,Ts,Tv,Tz,T1,T5,T6,T7,T8,T9,TA,TB,TI,Sp,Sq,Sv,Sw,Sx,S9,SB,SD,SF,SG,SK,SN,SO,SP,Qz,Q0,QA,QD,QE,QF,Pa,Pb,Pc,Pd,h1,h2,t,h4,n0,u1,u2,h3]
  tactic=>first|exact hd _ rfl rfl|exact hd (bG [0,1] [.fn (.yield 0) [] [],.pt n 0]) rfl rfl
theorem aWh{n:Nat}{G Q:Nat→Nat→XH}{a:Nat}(ha:a<1024)(hn:(G 0 a).length=n+1)(g:∀ i,i≤(el a).length→aQm n (G i))(g0:aHY n (G 0) (G 0))(gs:∀ i,i<(el a).length→aHY n (Q i) (G (i+1)))(hy:∀ i v,(el a)[i]?=some v→YdP (G i) (Q i) v true) :
 runW progG 84 [.fn (.yield 0) [] [],.pt n 0] (G 0 a)=some (.tup [],G (el a).length 0):=by
 have g1:=g (el a).length AM;have h1:hat (hpW (G (el a).length) 0) n=some (XB.blk true (.cells true [.int .u64 0])):=g1.hat 0;have hf:lZ false (n+1) (.tup []) (hpW (G (el a).length) 0)=(.tup [],hpW (G (el a).length) 0):=g1.fin 0;have c0:=aGn ha;have hn:(hpW (G 0) a).length=n+1:=hn;show runW progG 84 [.fn (.yield 0) [] [],.pt n 0] (hpW (G 0) a)=some (.tup [],hpW (G (el a).length) 0);rw[aTh (by simp)];unfold x84;dsimp only;rw[hn];unfold vP;sym =>
  simp[Za,Zb,Zf,Zh,Zl,Zm,ZA,ZU,YD,Va,Ve,Vw,Vx,V4,U7,U9,UE,UG,UI,UO,UR,UT,UU,UW,Tr,T0,TG,TH,Sp,Sq,Sv,S9,SB,SE,SF,SG,SI,SM,SO,SP]
  tactic =>
   rw[aT (el a).length (fun _=>[.fn (.yield 0) [] [],.pt n 0]) (fun i=>hpW (G i) (zS a i))]
   ·rw[c0]
    sym =>
     simp[Za,Zb,Zf,Zh,Zl,Zm,ZA,ZU,YD,Va,Ve,Vw,Vx,V4,U7,U9,UE,UG,UI,UO,UR,UT,UU,UW,Tr,T0,TG,TH,Sp,Sq,Sv,S9,SB,SE,SF,SG,SI,SM,SO,SP,h1]
     tactic=>exact AAo some hf
   ·exact g0.head a _ rfl rfl
   ·intro i hi
    obtain⟨p1,p2⟩:=aJm ha hi;exact aUM (g i AM) (gs i hi) (aAx ha i) p1 (hy i _ p2)
   ·rw[c0]
    (sym=>(simp[Za,Zb,Zf,Zh,Zl,Zm,ZA,ZU,YD,Va,Ve,Vw,Vx,V4,U7,U9,UE,UG,UI,UO,UR,UT,UU,UW,Tr,T0,TG,TH,Sp,Sq,Sv,S9,SB,SE,SF,SG,SI,SM,SO,SP,h1];all_goals tactic=>exact rfl))
theorem aSh:∀ n:Nat,n<10→el (dif (2^n-1) 3)=(List.range (n-2)).map (· + 2):=by decide +kernel
def cD:Nat→AV
 | 0=>.nilsl
 | i+1=>.sl 4 0 1 (i+1)
def tD(W:List Int):Nat→XH
 | 0=>[]
 | i+1=>[bI ((W.drop 2).take (i+1))]
def fD:Nat→Bool
 | 0=>true
 | _+1=>false
def pD(q:Int)(W:List Int)(i a:Nat):XH:=[some (.loop 11 0 [.pt 1 0,.pt 2 0] .ready),some (.blk true (.cells true [I q,.fs (wr W)])),some (.blk (fD i) (.cells true [I q,cD i])),cU a]++tD W i
def qD(q:Int)(W:List Int):Nat→Nat→XH
 | 0,a=>pD q W 1 a
 | i+1,a=>[some (.loop 11 0 [.pt 1 0,.pt 2 0] .ready),some (.blk true (.cells true [I q,.fs (wr W)])),some (.blk false (.cells true [I q,.sl 5 0 1 (i+1+1)])),cU a,none,bI ((W.drop 2).take (i+1+1))]
theorem bCw{q:Int}{W:List Int}:∀ i,aQm 3 (pD q W i)
 | 0=>⟨fun _=>rfl,fun _=>rfl⟩
 | i+1=>by
   refine⟨fun _=>rfl,?_⟩;intro a;unfold pD tD cD fD;generalize (W.drop 2).take (i+1)=Z;(exact RT0)
theorem aUw{q:Int}{W:List Int}:aHY 3 (pD q W 0) (pD q W 0):=by
 refine⟨fun _=>rfl,fun _ _=>rfl,?_⟩;intro a e h0 h1;unfold pD tD cD fD;(exact RT2 h0 h1)
theorem aZc{q:Int}{W:List Int}:∀ i,aHY 3 (qD q W i) (pD q W (i+1))
 | 0=>by
   refine⟨fun _=>rfl,fun _ _=>rfl,?_⟩;intro a e h0 h1;unfold qD pD tD cD fD;generalize (W.drop 2).take (0+1)=Z;(exact RT2 h0 h1)
 | i+1=>by
   refine⟨fun _=>rfl,fun _ _=>rfl,?_⟩;intro a e h0 h1;unfold qD pD tD cD fD;generalize (W.drop 2).take (i+1+1)=Z;(exact RT2 h0 h1)
theorem yD{q x:Int}{W:List Int}{i:Nat}(hl:W.length≤9)(hx:W[i+2]?=some x):YdP (pD q W i) (qD q W i) (i+2) true:=by
 have hil:=(B6.1 hx).1;have c1:(((i+2:Nat):Int)<(W.length:Int))=True:=AAa;have ln:=iT W;have r1:=rY hx;have hd:(W.drop 2)[i]?=some x:=by rw[List.getElem?_drop,Nat.add_comm];exact hx
 have e1:(W.drop 2).take (i+1)=(W.drop 2).take i++[x]:=by rw[E7,hd];rfl
 have l1:((W.drop 2).take i).length=i:=by rw[N5,aC1];omega
 have b1:((i+1)*8≤1099511627776)=True:=AAa;have b2:(i+1≤1099511627776)=True:=AAa;intro a;cases i with
 | zero =>
   have e1:(W.drop 2).take 1=[x]:=e1;have c1:((2:Int)<(W.length:Int))=True:=c1;have y:runYW progG (.fn (.yield 0) [] []) [I 2] [some (.loop 11 0 [.pt 1 0,.pt 2 0] .ready),some (.blk true (.cells true [I q,.fs (wr W)])),some (.blk true (.cells true [I q,.nilsl]))]=some (.bool true,[some (.loop 11 0 [.pt 1 0,.pt 2 0] .ready),some (.blk true (.cells true [I q,.fs (wr W)])),some (.blk false (.cells true [I q,.sl 3 0 1 1])),bI [x]]):=by
    rw[nG (K:=11) (d:=x11) (site:=0) (vs:=[.pt 1 0,.pt 2 0]) rfl rfl (by rfl) rfl];(exact RT5 c1 r1 ln b1 b2)
   show eL (runW progG) (runYW progG) (.fn (.yield 0) [] []) [I 2] [some (.loop 11 0 [.pt 1 0,.pt 2 0] .ready),some (.blk true (.cells true [I q,.fs (wr W)])),some (.blk true (.cells true [I q,.nilsl])),cU a]=some (.bool true,[some (.loop 11 0 [.pt 1 0,.pt 2 0] .ready),some (.blk true (.cells true [I q,.fs (wr W)])),some (.blk false (.cells true [I q,.sl 4 0 1 1])),cU a,bI ((W.drop 2).take 1)]);rw[e1];(exact RT1 y)
 | succ i =>
   generalize hZ:(W.drop 2).take (i+1)=Z at *;have y:runYW progG (.fn (.yield 0) [] []) [I (i+1+2:Nat)] [some (.loop 11 0 [.pt 1 0,.pt 2 0] .ready),some (.blk true (.cells true [I q,.fs (wr W)])),some (.blk false (.cells true [I q,.sl 3 0 1 (i+1)])),bI Z]=some (.bool true,[some (.loop 11 0 [.pt 1 0,.pt 2 0] .ready),some (.blk true (.cells true [I q,.fs (wr W)])),some (.blk false (.cells true [I q,.sl 4 0 1 (i+1+1)])),none,bI (Z++[x])]):=by
    rw[nG (K:=11) (d:=x11) (site:=0) (vs:=[.pt 1 0,.pt 2 0]) rfl rfl (by rfl) rfl];(exact RT7 c1 r1 ln b1 b2 l1 aF)
   show eL (runW progG) (runYW progG) (.fn (.yield 0) [] []) [I (i+1+2:Nat)] [some (.loop 11 0 [.pt 1 0,.pt 2 0] .ready),some (.blk true (.cells true [I q,.fs (wr W)])),some (.blk false (.cells true [I q,.sl 4 0 1 (i+1)])),cU a,bI ((W.drop 2).take (i+1))]=some (.bool true,[some (.loop 11 0 [.pt 1 0,.pt 2 0] .ready),some (.blk true (.cells true [I q,.fs (wr W)])),some (.blk false (.cells true [I q,.sl 5 0 1 (i+1+1)])),cU a,none,bI ((W.drop 2).take (i+1+1))]);rw[e1,hZ];(exact RT1 y)
theorem aKZ{W:List Int}(h:2≤W.length):oY W 3=W.getD 0 0+W.getD 1 0:=by
 match W,h with
 | a::b::R,_ =>
   have h1:=xT a (b::R) 1 1 AM AM;have h2:=xT b R 0 1 AM AM;have h3:oY R 0=0:=rfl;simp only[AAe]at h1 h2;have h4:oY (a::b::R) 3=a+oY (b::R) 1:=h1;have h5:oY (b::R) 1=b+oY R 0:=h2;show oY (a::b::R) 3=a+b;omega
theorem aSR(l:List Int):bO (l.map I) 0 1 l.length=wr l:=by
 exact vF (f:=I) l []
section
variable{q:Int}{W:List Int}
theorem bCA{vs:List AV}{h:XH}(hl:vs.length≤x11.N):runW progG 11 vs h=cH none x11.res x11.ownR h.length (execW progG 11 h.length none x11.body (aM (if x11.ownA then vs else fM vs)) h):=aS rfl hl h rfl
theorem aWi(hl:W.length≤9):runW progG 84 [.fn (.yield 0) [] [],.pt 3 0] (pD q W 0 (dif (2^W.length-1) 3))=some (.tup [],pD q W (W.length-2) 0):=by
 have he:=aSh W.length AM;have l1:(el (dif (2^W.length-1) 3)).length=W.length-2:=by rw[he];simp
 have ha:dif (2^W.length-1) 3<1024:=by
  have h:∀ n:Nat,n<10→dif (2^n-1) 3<1024:=by decide +kernel
  exact h W.length AM
 have h:=aWh (n:=3) (G:=pD q W) (Q:=qD q W) ha rfl (fun i _=>bCw i) aUw (fun i _=>aZc i) (fun i v hv=>by
  rw[he,A8]at hv;by_cases hi:i<W.length-2
  ·rw[I5 hi]at hv
   obtain rfl:i+2=v:=by simpa using hv
   obtain⟨x,hx⟩:=kD (l:=W) (i:=i+2) AM;exact yD hl hx
  ·rw[aB9 (by simp;omega)]at hv
   cases hv)
 rw[l1]at h;exact h
theorem w11(hq:1≤q∧q≤10000000)(hW:∀ v∈W,0≤v∧v≤400000)(h2:2≤W.length)(hl:W.length≤9) :
 runW progG 11 [chA q W,.sl 0 0 1 2] [bI [0,1]]=some (.tup [chA q (W.drop 2++[W.getD 0 0+W.getD 1 0]),I 0],[none]):=by
 have hW':∀ v∈W,0≤v∧v≤1000000:=fun v hv=>by have:=hW v hv;omega
 have c1:=aSX hq hW' AM hl;have c2:=w37 (q:=q) (W:=W) h2 hl;have c3:=aSU (dif (2^W.length-1) 3);have c4:=aWi (q:=q) hl;have p9:2^W.length≤2^9:=D7 AM hl;have p2:2^2≤2^W.length:=D7 AM h2;have c5:=aSV (q:=q) hW' hl (a:=3) AM;rw[aKZ h2]at c5;have o1:nU .andNot .u64 ((2^W.length-1:Nat):Int) 3=((dif (2^W.length-1) 3:Nat):Int):=aDt iQ AM (b:=3) AM;have v01:0≤W.getD 0 0+W.getD 1 0∧W.getD 0 0+W.getD 1 0≤800000:=by
  match W,h2 with
  | a::b::R,_ =>
    have:=hW a (by simp);have:=hW b (by simp);show 0≤a+b∧a+b≤800000;omega
 generalize W.getD 0 0+W.getD 1 0=V at *;have g1:(1000000<V)=False:=AAb;have dl:(W.drop 2).length=W.length-2:=by simp
 have c5:runW progG 39 [.agg [I q,.fs (wr W)],.int .u64 3] []=some (I V,[]):=c5;generalize dif (2^W.length-1) 3=A at *;unfold chA hsA vN at *;obtain⟨m,hm⟩:∃ m,W.length-2=m:=⟨_,rfl⟩;rw[hm]at c4 dl;cases m with
 | zero =>
   have d0:W.drop 2=[]:=C3 dl;have c4:runW progG 84 [.fn (.yield 0) [] [],.pt 3 0] [some (.loop 11 0 [.pt 1 0,.pt 2 0] .ready),some (.blk true (.cells true [I q,.fs (wr W)])),some (.blk true (.cells true [I q,.nilsl])),cU A]=some (.tup [],[some (.loop 11 0 [.pt 1 0,.pt 2 0] .ready),some (.blk true (.cells true [I q,.fs (wr W)])),some (.blk true (.cells true [I q,.nilsl])),cU 0]):=c4;rw[d0];rw[bCA (by simp[x11])];unfold x11;dsimp only;unfold aMI;(exact RT9 c1 c2 c3 o1 c4 c5 g1 @fZ aF)
 | succ m =>
   have dt:(W.drop 2).take (m+1)=W.drop 2:=B5 AM;have c4:runW progG 84 [.fn (.yield 0) [] [],.pt 3 0] [some (.loop 11 0 [.pt 1 0,.pt 2 0] .ready),some (.blk true (.cells true [I q,.fs (wr W)])),some (.blk true (.cells true [I q,.nilsl])),cU A]=some (.tup [],[some (.loop 11 0 [.pt 1 0,.pt 2 0] .ready),some (.blk true (.cells true [I q,.fs (wr W)])),some (.blk false (.cells true [I q,.sl 4 0 1 (m+1)])),cU 0,bI ((W.drop 2).take (m+1))]):=c4;rw[dt]at c4;generalize W.drop 2=Z at *;have ch:=aSR (Z++[V]);rw[H6,C7,dl]at ch;have ch:bO (Z.map I++[I V]) 0 1 (m+1+1)=wr (Z++[V]):=ch;have b1:((m+1+1)*8≤1099511627776)=True:=AAa;have b2:(m+1+1≤1099511627776)=True:=AAa;rw[bCA (by simp[x11])];unfold x11;dsimp only;unfold aMI;(exact aQl c1 c2 c3 o1 c4 c5 g1 dl b1 b2 ch @fZ aF)
end
theorem aUi(l:List Int):bO (l.map I) 0 1 l.length=wr l:=aSR l
theorem aYS(N:List Int):tnS N 0=0:=rfl
theorem aZn(n:Nat):(List.replicate n [I 0]).flatten=(List.replicate n (0:Int)).map I:=by
 rw[aE0];induction n with
 | zero=>rfl
 | succ n ih=>rw[D9,D9,J1,ih];rfl
theorem r3b{ws:List (Nat×Nat)}{av:List Nat}{n q i:Nat}(n6:n≤6)(n0:0<n)(hb:∀ t∈ws,t.1<256∧t.2<256)(hi:i<ws.length)(h20:i<20):cE 0 [1,2,3,9,10,11,12,14] (execW progG 3 0 none (match aMu with | .loop _ a=>a|c=>c) (bG [1,2,3,9,10,11,12,14] [.fs (rTw ws),.fs (rU8 av),.int .u8 (q:Int),I (n:Nat),.pt 0 0,.sl 1 0 1 n,.sl 2 0 1 n,I (i:Nat)]) [gK (cW n (qB n (ws.take i))),zB n,bI (dF n (qB n (ws.take i)))]) =
 some ([.fs (rTw ws),.fs (rU8 av),.int .u8 (q:Int),I (n:Nat),.pt 0 0,.sl 1 0 1 n,.sl 2 0 1 n,I (i+1:Nat)],[gK (cW n (qB n (ws.take (i+1)))),zB n,bI (dF n (qB n (ws.take (i+1))))]):=by
 obtain⟨⟨a,b⟩,hx⟩:=kD (l:=ws) (i:=i) hi;have hb':=hb _ (A2 hx);have h:=aRk (ws:=ws) (av:=av) (n:=n) (q:=q) (i:=i) (ts:=qB n (ws.take i)) n6 n0 hx hb'.2 hb'.1 h20 (aNj hb) (aFh AM);rw[←aNi hx]at h;exact h
theorem w3{c q:Nat}{ws:List (Nat×Nat)}{av:List Nat}(hc:c<256)(hb:∀ t∈ws,t.1<256∧t.2<256)(ha:∀ n∈av,n<256)(hq:q<256):runW progG 3 [.int .u8 (c:Int),.fs (rTw ws),.fs (rU8 av),.int .u8 (q:Int)] []=some (.bool true,[]):=by
 obtain⟨n,hn⟩:∃ n,2+c%5=n:=⟨_,rfl⟩;have n2:2≤n:=AM
 have n6:n≤6:=AM
 obtain⟨m,hm⟩:∃ m,min 20 ws.length=m:=⟨_,rfl⟩;have ex:(((m:Int)<(ws.length:Int))=False∧(rTw ws).length=ws.length)∨(((m:Int)<(ws.length:Int))=True∧((m:Int)<20)=False):=by
  by_cases h:m<ws.length;·exact .inr ⟨AAa,AAb⟩
  ·exact .inl ⟨AAb,aFJ ws⟩
 have rl:=aFJ ws;have c0:=g19;have ck:=aVN;have tl:(qB n (ws.take m)).length=m:=aFh AM;have tk:=aNj (n:=n) (i:=m) hb;have rp:=(aOi n6 AM hb m AM AM).mono (m:=26) AM;have c9:=g9 rp ha hq;have c10:=g23 (cW n (qB n (ws.take m)));have l0:=fun i hi=>aRl (ws:=ws) (av:=av) (n:=n) (q:=q) (i:=i) n6 hi;have l1:=fun i (hi:i<m)=>r3b (ws:=ws) (av:=av) (n:=n) (q:=q) (i:=i) n6 AM hb AM AM;have nl:(dF n (qB n (ws.take m))).length=n:=by simp[dF]
 have nb:=aVr (n:=n) tk AM;have l2:=fun i hi=>aRj (N:=dF n (qB n (ws.take m))) (av:=av) (n:=n) (q:=q) (i:=i) (s:=cW n (qB n (ws.take m))) n6 nl nb hi;have l3:=fun i hi=>aRi (n:=n) (i:=i) (ts:=qB n (ws.take m)) n6 tk AM hi;have sn:=aTb (N:=dF n (qB n (ws.take m)));rw[nl]at sn;have pn:=aYT (dF n (qB n (ws.take m)));rw[nl]at pn;have p0:=aYU (dF n (qB n (ws.take m)));rw[nl]at p0;have qb:=aZv nb AM;have tb:=aYR nb;have Tl:(lJ (dF n (qB n (ws.take m)))).length=n:=by simp[lJ,nl]
 have eq1:quK n (qB n (ws.take m))=kO (lJ (dF n (qB n (ws.take m)))).sum 2+1:=rfl;have nz:dF n (qB n (ws.take 0))=List.replicate n 0:=aVs n;have cz:cW n (qB n (ws.take 0))=cF n:=bCO n;have ph:=aQb (q:=quK n (qB n (ws.take m))) (W:=lJ (dF n (qB n (ws.take m)))) AM AM (fun v hv=>(tb v hv).1);have sb0:=aFk (q:=quK n (qB n (ws.take m))) (W:=lJ (dF n (qB n (ws.take m)))) (i:=0) AM;have sb1:=aFk (q:=quK n (qB n (ws.take m))) (W:=lJ (dF n (qB n (ws.take m)))) (i:=1) AM;have eN1:(((n-2:Nat):Int)<((n-1:Nat):Int))=True:=AAa;have eN2:((1:Int)<(n:Int))=True:=AAa;have eN3:((0:Int)<(n:Int))=True:=AAa;have k8:(n*1≤n)=True:=AAa;have e0:tmZ (c:Int) 5=((c%5:Nat):Int):=sD c 5;have e1:IntKind.i64.wrap (c:Int)=(c:Int):=aJ AM AM;have e2:IntKind.i64.wrap (2+((c%5:Nat):Int))=(n:Int):=by rw[aJ AM AM];omega
 have k1:(0≤(n:Int))=True:=AAa;have k2:(8*(n:Int)≤281474976710656)=True:=AAa;have k3:((n:Int)≤9223372036854775807)=True:=AAa;have k4:((n:Int)≤(n:Int))=True:=AAa;have r0:(List.replicate n [I 0]).flatten=(List.replicate n (0:Int)).map I:=aZn n;have en:((n:Int)<(n:Int))=False:=AAb;have n1:IntKind.i64.wrap ((n:Int)-1)=((n-1:Nat):Int):=by rw[aJ AM AM];omega
 have n2':IntKind.i64.wrap ((n:Int)-2)=((n-2:Nat):Int):=by rw[aJ AM AM];omega
 obtain⟨s,hs⟩:∃ s,cW n (qB n (ws.take m))=s:=⟨_,rfl⟩;obtain⟨N,hN⟩:∃ N,dF n (qB n (ws.take m))=N:=⟨_,rfl⟩;obtain⟨T,hT⟩:∃ T,lJ N=T:=⟨_,rfl⟩;obtain⟨Q,hQ⟩:∃ Q,quK n (qB n (ws.take m))=Q:=⟨_,rfl⟩;have sv:=w8f (q:=Q) (W:=T) (by rw[←hQ,eq1];omega) (fun v hv=>by have:=tb v (by rw[hN,hT];exact hv);omega) (by rw[←hT,←hN];omega) (by rw[←hT,←hN];omega);have bv:=w11 (q:=Q) (W:=T) (by rw[←hQ,eq1];omega) (fun v hv=>by have:=tb v (by rw[hN,hT];exact hv);omega) (by rw[←hT,←hN];omega) (by rw[←hT,←hN];omega);have bv:runW progG 11 [chA Q T,.sl 0 0 1 2] [some (.blk true (.cells true [I 0,I 1]))]=_:=bv;have tb':∀ v∈lJ N,0≤v∧v≤1275:=by rw[←hN];exact tb
 rw[hs,hN,hT,hQ]at l3;rw[hN,hT]at eq1 ph sb0 sb1 qb;rw[hQ]at eq1 ph sb0 sb1;rw[hs,hN]at l2;rw[hN]at sn pn p0 nl;rw[hT]at sn pn;rw[hN,hT]at Tl;rw[hs]at c9 c10;have d2:(T.drop 2++[T.getD 0 0+T.getD 1 0]).length=n-1:=by simp[Tl];omega
 have sv2:=w8f (q:=Q) (W:=T.drop 2++[T.getD 0 0+T.getD 1 0]) AM (fun v hv=>by
  rw[hT]at tb';rcases B3.1 hv with h|h;·have:=tb' v (aA0 h);omega
  ·obtain rfl:=B9.1 h
   have g:∀ k,0≤T.getD k 0∧T.getD k 0≤1275:=fun k=>by
    rw[B7];cases hk:T[k]? with
    | none=>simp
    | some u=>exact tb' u (A2 hk)
   have:=g 0;have:=g 1;omega) AM AM
 rw[d2]at sv2;rw[Tl]at sv ph;have a0:(nX Q T n)[0]?=some (nW Q T 0):=by unfold nX;rw[A8,I5 AM];rfl
 have a1:(nX Q T n)[1]?=some (nW Q T 1):=by unfold nX;rw[A8,I5 AM];rfl
 have a2:(nX Q (T.drop 2++[T.getD 0 0+T.getD 1 0]) (n-1))[n-2]?=some (nW Q (T.drop 2++[T.getD 0 0+T.getD 1 0]) (n-2)):=by unfold nX;rw[A8,I5 AM];rfl
 have r0':=rY a0;have r1':=rY a1;have r2':=rY a2;have lw:=iT (nX Q T n);rw[qC]at lw;have lw2:=iT (nX Q (T.drop 2++[T.getD 0 0+T.getD 1 0]) (n-1));rw[qC]at lw2;have lT:=iT T;rw[Tl]at lT;have bw:IntKind.i64.wrap (2*nW Q (T.drop 2++[T.getD 0 0+T.getD 1 0]) (n-2))=nW Q T 0+nW Q T 1:=by rw[aJ AM AM];exact ph
 have bw2:IntKind.i64.wrap (nW Q T 0+nW Q T 1)=nW Q T 0+nW Q T 1:=aJ AM AM;have q1:IntKind.i64.wrap (kO T.sum 2)=kO T.sum 2:=aJ AM AM;have q2:IntKind.i64.wrap (kO T.sum 2+1)=Q:=by rw[aJ AM AM,eq1]
 have tc:=aUi T;rw[Tl]at tc;have tn:(n≤T.length)=True:=AAa;clear a0 a1 a2 qb tb tb' sb0 sb1 nb ph rp;generalize T.drop 2++[T.getD 0 0+T.getD 1 0]=T2 at *;generalize nW Q T2 (n-2)=z2 at *;generalize nW Q T 0=z0 at *;generalize nW Q T 1=z1 at *;generalize nX Q T2 (n-1)=S2 at *;generalize nX Q T n=S1 at *;rcases ex with ⟨ex,ex2⟩|⟨ex,ex2⟩
 all_goals
  rw[gq3 (by simp[x3])];unfold x3;dsimp only;sym =>
   simp[iA,iB,nZ,Za,Zb,Zc,Zd,Ze,Zf,Zg,Zh,Zi,Zj,Zl,Zm,Zo,Zp,Zq,Zr,Zs,Zv,Zw,Zy,Z0,Z8,ZA,ZC,ZE,ZH,ZJ,ZP,ZQ,ZU,ZW,ZX,ZY,ZZ,Yc,Yg,Yl,Ym,Yn,Yo,Yq,Yt,Yu,Yy,Yz,Y4,Y5,Y6,Y7,YD,YE,YJ,YK,YP,YQ,YR,Xd,Xj,Xq,Xt,Xu,Xv,Xw,Xy,Xz,XI,XZ,Wc,We,Wf,Wi,Wn,Wo,Wp,Wq,Wr,Wt,Wu,Wv,W7,W8,WC,WE,WF,WL,WP,WQ,WR,WT,WU,WY,Va,Vh,Vk,Vl,Vm,Vv,Vw,Vx,Vy,Vz,V0,V1,V2,V3,V4,V5,V6,V7,V9,VA,VB,VC,VE,VF,VG,VH,VI,VJ,VK,VL,VM,VN,VO,VP,VQ,VR,VS,VX,Ua,Ub,Uc,Ud,Uj,Uk,Ul,Um,Un,Uo,Ur,Us,Ut,Uu,Uv,Uw,Ux,Uy,Uz,U0,U8,U9,UB,UC,UD,UE,UF,UI,UJ,UK,UL,UN,UO,UP,UQ,UR,UT,UU,UW,UX,UY,UZ,Ta,Tb,Td,Te,Tf,Tg,Ti,Tn,Tq,Tr,Tv,Tw,Tz,T0,T1,T3,T4,T5,T6,T7,T8,T9,TA,TB,TC,TD,TE,TF,TG,TH,TI,TJ,TK,TL,TX,TY,TZ,Sa,Sd,Se,Sn,Sp,Sq,Sr,Ss,Su,Sv,Sw,Sx,S3,S9,SB,SC,SD,SE,SF,SG,SI,SM,SN,SO,SP,SV,Rs,Rt,Ru,Rw,R0,RA,RC,RH,RI,Qj,Ql,Qn,Qz,Q0,QA,QB,QD,QE,QF,Pa,Pb,Pc,Pd,Pf,Pg,Ph,c0,e0,e1,e2,k1,k2,k3,k4,r0]
   tactic =>
    unfold aQt at l0 ⊢;rw[aT n (fun i=>[.fs (rTw ws),.fs (rU8 av),.int .u8 (q:Int),I (n:Nat),.pt 0 0,.sl 1 0 1 n,.sl 2 0 1 n,I (n:Nat),I (i:Nat)]) (fun i=>[gK (cF i),zB n,zB n])]
    ·clear l0
     sym =>
      simp[iA,iB,nZ,Za,Zb,Zc,Zd,Ze,Zf,Zg,Zh,Zi,Zj,Zl,Zm,Zo,Zp,Zq,Zr,Zs,Zv,Zw,Zy,Z0,Z8,ZA,ZC,ZE,ZH,ZJ,ZP,ZQ,ZU,ZW,ZX,ZY,ZZ,Yc,Yg,Yl,Ym,Yn,Yo,Yq,Yt,Yu,Yy,Yz,Y4,Y5,Y6,Y7,YD,YE,YJ,YK,YP,YQ,YR,Xd,Xj,Xq,Xt,Xu,Xv,Xw,Xy,Xz,XI,XZ,Wc,We,Wf,Wi,Wn,Wo,Wp,Wq,Wr,Wt,Wu,Wv,W7,W8,WC,WE,WF,WL,WP,WQ,WR,WT,WU,WY,Va,Vh,Vk,Vl,Vm,Vv,Vw,Vx,Vy,Vz,V0,V1,V2,V3,V4,V5,V6,V7,V9,VA,VB,VC,VE,VF,VG,VH,VI,VJ,VK,VL,VM,VN,VO,VP,VQ,VR,VS,VX,Ua,Ub,Uc,Ud,Uj,Uk,Ul,Um,Un,Uo,Ur,Us,Ut,Uu,Uv,Uw,Ux,Uy,Uz,U0,U8,U9,UB,UC,UD,UE,UF,UI,UJ,UK,UL,UN,UO,UP,UQ,UR,UT,UU,UW,UX,UY,UZ,Ta,Tb,Td,Te,Tf,Tg,Ti,Tn,Tq,Tr,Tv,Tw,Tz,T0,T1,T3,T4,T5,T6,T7,T8,T9,TA,TB,TC,TD,TE,TF,TG,TH,TI,TJ,TK,TL,TX,TY,TZ,Sa,Sd,Se,Sn,Sp,Sq,Sr,Ss,Su,Sv,Sw,Sx,S3,S9,SB,SC,SD,SE,SF,SG,SI,SM,SN,SO,SP,SV,Rs,Rt,Ru,Rw,R0,RA,RC,RH,RI,Qj,Ql,Qn,Qz,Q0,QA,QB,QD,QE,QF,Pa,Pb,Pc,Pd,Pf,Pg,Ph,en]
      tactic =>
       unfold aMu at l1 ⊢;rw[aT m (fun i=>[.fs (rTw ws),.fs (rU8 av),.int .u8 (q:Int),I (n:Nat),.pt 0 0,.sl 1 0 1 n,.sl 2 0 1 n,I (i:Nat)]) (fun i=>[gK (cW n (qB n (ws.take i))),zB n,bI (dF n (qB n (ws.take i)))])]
       ·clear l1
        rw[hs,hN];sym =>
         simp[iA,iB,nZ,Za,Zb,Zc,Zd,Ze,Zf,Zg,Zh,Zi,Zj,Zl,Zm,Zo,Zp,Zq,Zr,Zs,Zv,Zw,Zy,Z0,Z8,ZA,ZC,ZE,ZH,ZJ,ZP,ZQ,ZU,ZW,ZX,ZY,ZZ,Yc,Yg,Yl,Ym,Yn,Yo,Yq,Yt,Yu,Yy,Yz,Y4,Y5,Y6,Y7,YD,YE,YJ,YK,YP,YQ,YR,Xd,Xj,Xq,Xt,Xu,Xv,Xw,Xy,Xz,XI,XZ,Wc,We,Wf,Wi,Wn,Wo,Wp,Wq,Wr,Wt,Wu,Wv,W7,W8,WC,WE,WF,WL,WP,WQ,WR,WT,WU,WY,Va,Vh,Vk,Vl,Vm,Vv,Vw,Vx,Vy,Vz,V0,V1,V2,V3,V4,V5,V6,V7,V9,VA,VB,VC,VE,VF,VG,VH,VI,VJ,VK,VL,VM,VN,VO,VP,VQ,VR,VS,VX,Ua,Ub,Uc,Ud,Uj,Uk,Ul,Um,Un,Uo,Ur,Us,Ut,Uu,Uv,Uw,Ux,Uy,Uz,U0,U8,U9,UB,UC,UD,UE,UF,UI,UJ,UK,UL,UN,UO,UP,UQ,UR,UT,UU,UW,UX,UY,UZ,Ta,Tb,Td,Te,Tf,Tg,Ti,Tn,Tq,Tr,Tv,Tw,Tz,T0,T1,T3,T4,T5,T6,T7,T8,T9,TA,TB,TC,TD,TE,TF,TG,TH,TI,TJ,TK,TL,TX,TY,TZ,Sa,Sd,Se,Sn,Sp,Sq,Sr,Ss,Su,Sv,Sw,Sx,S3,S9,SB,SC,SD,SE,SF,SG,SI,SM,SN,SO,SP,SV,Rs,Rt,Ru,Rw,R0,RA,RC,RH,RI,Qj,Ql,Qn,Qz,Q0,QA,QB,QD,QE,QF,Pa,Pb,Pc,Pd,Pf,Pg,Ph,rl,ex,ex2]
         tactic =>
          unfold aQs at l2 ⊢;rw[aT n (fun i=>[.fs (rU8 av),.int .u8 (q:Int),I (n:Nat),.pt 0 0,.sl 1 0 1 n,.sl 2 0 1 n,I (tnS N i),I (n:Nat),I (i:Nat)]) (fun i=>[gK s,bI (tnP N i),bI N])]
          ·clear l2
           rw[sn,pn];unfold chA at *;unfold gK at *;generalize IsClk s=K1 at *;sym =>
            simp[iA,iB,nZ,Za,Zb,Zc,Zd,Ze,Zf,Zg,Zh,Zi,Zj,Zl,Zm,Zo,Zp,Zq,Zr,Zs,Zv,Zw,Zy,Z0,Z8,ZA,ZC,ZE,ZH,ZJ,ZP,ZQ,ZU,ZW,ZX,ZY,ZZ,Yc,Yg,Yl,Ym,Yn,Yo,Yq,Yt,Yu,Yy,Yz,Y4,Y5,Y6,Y7,YD,YE,YJ,YK,YP,YQ,YR,Xd,Xj,Xq,Xt,Xu,Xv,Xw,Xy,Xz,XI,XZ,Wc,We,Wf,Wi,Wn,Wo,Wp,Wq,Wr,Wt,Wu,Wv,W7,W8,WC,WE,WF,WL,WP,WQ,WR,WT,WU,WY,Va,Vh,Vk,Vl,Vm,Vv,Vw,Vx,Vy,Vz,V0,V1,V2,V3,V4,V5,V6,V7,V9,VA,VB,VC,VE,VF,VG,VH,VI,VJ,VK,VL,VM,VN,VO,VP,VQ,VR,VS,VX,Ua,Ub,Uc,Ud,Uj,Uk,Ul,Um,Un,Uo,Ur,Us,Ut,Uu,Uv,Uw,Ux,Uy,Uz,U0,U8,U9,UB,UC,UD,UE,UF,UI,UJ,UK,UL,UN,UO,UP,UQ,UR,UT,UU,UW,UX,UY,UZ,Ta,Tb,Td,Te,Tf,Tg,Ti,Tn,Tq,Tr,Tv,Tw,Tz,T0,T1,T3,T4,T5,T6,T7,T8,T9,TA,TB,TC,TD,TE,TF,TG,TH,TI,TJ,TK,TL,TX,TY,TZ,Sa,Sd,Se,Sn,Sp,Sq,Sr,Ss,Su,Sv,Sw,Sx,S3,S9,SB,SC,SD,SE,SF,SG,SI,SM,SN,SO,SP,SV,Rs,Rt,Ru,Rw,R0,RA,RC,RH,RI,Qj,Ql,Qn,Qz,Q0,QA,QB,QD,QE,QF,Pa,Pb,Pc,Pd,Pf,Pg,Ph,en,q1,q2,tc,Tl,sv,c10,c9,bv,k8,sv2,r0',r1',r2',lw,lw2,lT,n1,n2',bw,bw2,eN1,eN2,eN3,tn]
            tactic =>
             unfold aQr at l3 ⊢;rw[aT n (fun i=>[.pt 0 0,.fs (wr T),.sl 1 0 1 n,.fs (wr S1),.pt 2 0,I (n:Nat),I (i:Nat)]) (fun _=>[some (.gh s K1),bI N,some (.gh s K1)])];·(exact RT2 en ck)
             ·(exact RT2 tn tc)
             ·exact l3
             ·(exact RT1 en)
          ·rw[p0,aYS]
           (exact RT0)
          ·exact l2
          ·(exact RT1 en)
       ·rw[nz,cz]
        (exact RT0)
       ·exact l1
       ·(exact RT3 rl ex ex2)
    ·rw[bCP]
     (exact RT0)
    ·exact l0
    ·(exact RT1 en)
end Go.Proofs.YtjckchgdlbgolaaGreatDoor
