/- Parts of a proof, joined: TE TF TG TH TI TJ TK TL TM TN TO TP TQ. No statement of the seed is proved here. -/
import Derived.KernelRfl
import Derived.Test.YtjckchgdlbgolaaGreatDoorH9
set_option linter.unusedSimpArgs false
set_option linter.unusedVariables false
set_option linter.unusedSectionVars false
set_option maxRecDepth 100000
set_option maxHeartbeats 8000000
namespace Go.Proofs.YtjckchgdlbgolaaGreatDoor
open Go Go.DL
section
abbrev rIl(l:List Int):AV:=.fs (l.map fun v=>[I v])
def Per(x:Wx)(l:List Int)(X:Int×Int):Prop:=∃ pn pd:Int,0≤pn∧pn≤1000∧1≤pd∧pd≤4∧pn*X.2=X.1*pd∧runW progG 91 [wA x,rIl l] []=some (.agg [I pn,I pd],[])
def X0(x:Wx):Int×Int:=(x.c2,1)
def X1(x:Wx):Int×Int:=(x.a2+x.b2,(x.B3:Nat))
def X2(x:Wx):Int×Int:=(x.c2+x.a2+x.d2,(x.B4:Nat))
section
variable{x:Wx}(ok:x.Ok)
include ok
theorem bEY:Per x [0] (X0 x):=by
 obtain⟨⟨c1,c2,c3⟩,_,_,_,_,_⟩:=ok;obtain⟨pn,pd,h1,h2,h3,h4,h5,h6⟩:=aPa (n:=x.c2) (d:=1) AM AM AM AM;refine⟨pn,pd,h1,h2,h3,h4,h5,?_⟩;have e1:IntKind.i64.wrap (0+x.c2)=x.c2:=by rw[O8];exact aE AM AM
 rw[gX 91 x91];unfold x91 aKh;dsimp only;(exact RT3 @dA e1 h6)
theorem bEX:Per x [2,3] (X1 x)∧Per x [3,2] (X1 x):=by
 obtain⟨_,⟨a1,a2,a3⟩,⟨b1,b2,b3⟩,_,k3,_⟩:=ok;obtain⟨pn,pd,h1,h2,h3,h4,h5,h6⟩:=aPa (n:=x.a2+x.b2) (d:=(x.B3:Int)) AM AM AM AM;have e1:IntKind.i64.wrap (0+x.a2)=x.a2:=by rw[O8];exact aE AM AM
 have e2:IntKind.i64.wrap (0+x.b2)=x.b2:=by rw[O8];exact aE AM AM
 have e3:IntKind.i64.wrap (x.a2+x.b2)=x.a2+x.b2:=aE AM AM;have e4:IntKind.i64.wrap (x.b2+x.a2)=x.a2+x.b2:=by rw[aE AM AM];omega
 have e5:IntKind.i64.wrap (0+(x.B3:Int))=(x.B3:Int):=by rw[O8];exact aE AM AM
 have e6:IntKind.i64.wrap ((x.B3:Int)+0)=(x.B3:Int):=by rw[aG8];exact aE AM AM
 refine⟨⟨pn,pd,h1,h2,h3,h4,h5,?_⟩,⟨pn,pd,h1,h2,h3,h4,h5,?_⟩⟩
 all_goals
  obtain⟨v,hv⟩:∃ v,x.a2+x.b2=v:=⟨_,rfl⟩;rw[hv]at h6 e3 e4;have e3:IntKind.i64.wrap (x.a2+x.b2)=v:=by rw[hv];exact e3
  rw[gX 91 x91];unfold x91 aKh;dsimp only;(exact RT9 @dA e1 e2 e3 e4 e5 e6 h6 aG)
theorem bEW:Per x [1,2,4] (X2 x)∧Per x [2,4,1] (X2 x)∧Per x [4,1,2] (X2 x):=by
 obtain⟨⟨c1,c2,c3⟩,⟨a1,a2,a3⟩,_,⟨d1,d2,d3⟩,_,k4⟩:=ok;obtain⟨pn,pd,h1,h2,h3,h4,h5,h6⟩:=aPa (n:=x.c2+x.a2+x.d2) (d:=(x.B4:Int)) AM AM AM AM;obtain⟨v,hv⟩:∃ v,x.c2+x.a2+x.d2=v:=⟨_,rfl⟩;rw[hv]at h6;have e0:IntKind.i64.wrap (0+x.c2)=x.c2:=by rw[O8];exact aE AM AM
 have e1:IntKind.i64.wrap (0+x.a2)=x.a2:=by rw[O8];exact aE AM AM
 have e2:IntKind.i64.wrap (0+x.d2)=x.d2:=by rw[O8];exact aE AM AM
 obtain⟨u1,hu1⟩:∃ u,x.c2+x.a2=u:=⟨_,rfl⟩;obtain⟨u2,hu2⟩:∃ u,x.a2+x.d2=u:=⟨_,rfl⟩;obtain⟨u3,hu3⟩:∃ u,x.d2+x.c2=u:=⟨_,rfl⟩;have f1:IntKind.i64.wrap (x.c2+x.a2)=u1:=by rw[aE AM AM];exact hu1
 have f2:IntKind.i64.wrap (x.a2+x.d2)=u2:=by rw[aE AM AM];exact hu2
 have f3:IntKind.i64.wrap (x.d2+x.c2)=u3:=by rw[aE AM AM];exact hu3
 have g1:IntKind.i64.wrap (u1+x.d2)=v:=by rw[aE AM AM];omega
 have g2:IntKind.i64.wrap (u2+x.c2)=v:=by rw[aE AM AM];omega
 have g3:IntKind.i64.wrap (u3+x.a2)=v:=by rw[aE AM AM];omega
 have e5:IntKind.i64.wrap (0+(x.B4:Int))=(x.B4:Int):=by rw[O8];exact aE AM AM
 have e6:IntKind.i64.wrap ((x.B4:Int)+0)=(x.B4:Int):=by rw[aG8];exact aE AM AM
 refine⟨⟨pn,pd,h1,h2,h3,h4,h5,?_⟩,⟨pn,pd,h1,h2,h3,h4,h5,?_⟩,⟨pn,pd,h1,h2,h3,h4,h5,?_⟩⟩
 all_goals
  rw[gX 91 x91];unfold x91 aKh;dsimp only;(exact aEa @dA e0 e1 e2 f1 f2 f3 g1 g2 g3 e5 e6 h6)
end
def cK(x:Wx)(pn pd:Int):Wt:=⟨x.c2*pd-1*pn,x.c2*pd,x.a2*pd,x.b2*pd-(x.B3:Int)*pn,x.d2*pd-(x.B4:Int)*pn⟩
def hB(x:Wx)(pn pd:Int)(s:oQ):XH:=[some (.blk true (.cells true [I 3,.fs (rW x)])),some (.blk true (.cells true [I pn,I pd])),some (.blk true (.cells true [I s.t0,I s.t1,I s.t2])),some (.blk true (.cells true [I (s.y0:Nat),I (s.y1:Nat),I (s.y2:Nat),I 0,I 0,I 0,I 0,I 0,I 0,I 0]))]
def sB(x:Wx)(q:Int)(s:oQ)(i:Int):List AV:=[.pt 0 0,.pt 1 0,.sl 2 0 1 3,.nilsl,.pt 3 0,I q,I s.r,.fs (rW x),I 5,I i]
structure Bd(s:oQ)(M:Int):Prop where
 z0:0≤s.t0
 z1:0≤s.t1
 z2:0≤s.t2
 m0:s.t0≤M
 m1:s.t1≤M
 m2:s.t2≤M
section
variable{x:Wx}(ok:x.Ok){pn pd q:Int}(hn:0≤pn∧pn≤1000)(hd:1≤pd∧pd≤4){s:oQ}(bd:Bd s 100000)
include ok hn hd bd
theorem bEQ:bP 0 [2,3,4,5,6,7,8,17,18,19] (execW progG 90 0 none (match fE with | .loop _ a=>a|c=>c) (aZ [2,3,4,5,6,7,8,17,18,19] (sB x q s 0)) (hB x pn pd s))=some (sB x q (rx0 (cK x pn pd) s) 1,hB x pn pd (rx0 (cK x pn pd) s)):=by
 obtain⟨⟨h1,h2,h3⟩,_,_,_,_,_⟩:=ok;have hp:0≤x.c2*pd∧x.c2*pd≤1200:=by
  rcases (by omega:pd=1∨pd=2∨pd=3∨pd=4)with rfl|rfl|rfl|rfl<;>omega
 obtain⟨P,hP⟩:∃ P,x.c2*pd=P:=⟨_,rfl⟩;obtain⟨z0,z1,z2,m0,m1,m2⟩:=bd;rw[hP]at hp;have e1:IntKind.i64.wrap (x.c2*pd)=P:=by rw[hP];exact aE AM AM
 obtain⟨Q,hQ⟩:∃ Q,s.t0+P=Q:=⟨_,rfl⟩;have e3:IntKind.i64.wrap (s.t0+P)=Q:=by rw[aE AM AM];exact hQ
 have hb:0≤1*pn∧1*pn≤4000:=by
  omega
 obtain⟨N,hN⟩:∃ N,1*pn=N:=⟨_,rfl⟩;rw[hN]at hb;have e2:IntKind.i64.wrap (1*pn)=N:=by rw[hN];exact aE AM AM
 obtain⟨V,hV⟩:∃ V,Q-N=V:=⟨_,rfl⟩;have e4:IntKind.i64.wrap (Q-N)=V:=by rw[aE AM AM];exact hV
 have hw:s.t0+(cK x pn pd).w0=V:=by unfold cK;dsimp only;omega
 unfold rx0;rw[hw];unfold fE;dsimp only;unfold sB hB;by_cases hc:s.t0<V
 ·have g:(s.t0<V)=True:=AAk hc
  rw[if_pos hc];dsimp only;(exact RT5 e1 e2 e3 e4 g)
 ·have g:(s.t0<V)=False:=AAl hc
  rw[if_neg hc];(exact RT5 e1 e2 e3 e4 g)
theorem bEP:bP 0 [2,3,4,5,6,7,8,17,18,19] (execW progG 90 0 none (match fE with | .loop _ a=>a|c=>c) (aZ [2,3,4,5,6,7,8,17,18,19] (sB x q s 1)) (hB x pn pd s))=some (sB x q (rx1 (cK x pn pd) s) 2,hB x pn pd (rx1 (cK x pn pd) s)):=by
 obtain⟨⟨h1,h2,h3⟩,_,_,_,_,_⟩:=ok;have hp:0≤x.c2*pd∧x.c2*pd≤1200:=by
  rcases (by omega:pd=1∨pd=2∨pd=3∨pd=4)with rfl|rfl|rfl|rfl<;>omega
 obtain⟨P,hP⟩:∃ P,x.c2*pd=P:=⟨_,rfl⟩;obtain⟨z0,z1,z2,m0,m1,m2⟩:=bd;rw[hP]at hp;have e1:IntKind.i64.wrap (x.c2*pd)=P:=by rw[hP];exact aE AM AM
 obtain⟨Q,hQ⟩:∃ Q,s.t0+P=Q:=⟨_,rfl⟩;have e3:IntKind.i64.wrap (s.t0+P)=Q:=by rw[aE AM AM];exact hQ
 have e2:IntKind.i64.wrap (0*pn)=0:=by rw[Int.zero_mul];rfl
 have e4:IntKind.i64.wrap (Q-0)=Q:=by rw[Int.sub_zero,aE AM AM]
 obtain⟨V,hV⟩:∃ V,Q=V:=⟨_,rfl⟩;rw[hV]at e3 e4 hQ;have hw:s.t0+(cK x pn pd).w1=V:=by unfold cK;dsimp only;omega
 unfold rx1;rw[hw];unfold fE;dsimp only;unfold sB hB;by_cases hc:s.t1<V
 ·have g:(s.t1<V)=True:=AAk hc
  rw[if_pos hc];dsimp only;(exact RT5 e1 e2 e3 e4 g)
 ·have g:(s.t1<V)=False:=AAl hc
  rw[if_neg hc];(exact RT5 e1 e2 e3 e4 g)
theorem bEO:bP 0 [2,3,4,5,6,7,8,17,18,19] (execW progG 90 0 none (match fE with | .loop _ a=>a|c=>c) (aZ [2,3,4,5,6,7,8,17,18,19] (sB x q s 2)) (hB x pn pd s))=some (sB x q (rx2 (cK x pn pd) s) 3,hB x pn pd (rx2 (cK x pn pd) s)):=by
 obtain⟨_,⟨h1,h2,h3⟩,_,_,_,_⟩:=ok;have hp:0≤x.a2*pd∧x.a2*pd≤1200:=by
  rcases (by omega:pd=1∨pd=2∨pd=3∨pd=4)with rfl|rfl|rfl|rfl<;>omega
 obtain⟨P,hP⟩:∃ P,x.a2*pd=P:=⟨_,rfl⟩;obtain⟨z0,z1,z2,m0,m1,m2⟩:=bd;rw[hP]at hp;have e1:IntKind.i64.wrap (x.a2*pd)=P:=by rw[hP];exact aE AM AM
 obtain⟨Q,hQ⟩:∃ Q,s.t1+P=Q:=⟨_,rfl⟩;have e3:IntKind.i64.wrap (s.t1+P)=Q:=by rw[aE AM AM];exact hQ
 have e2:IntKind.i64.wrap (0*pn)=0:=by rw[Int.zero_mul];rfl
 have e4:IntKind.i64.wrap (Q-0)=Q:=by rw[Int.sub_zero,aE AM AM]
 obtain⟨V,hV⟩:∃ V,Q=V:=⟨_,rfl⟩;rw[hV]at e3 e4 hQ;have hw:s.t1+(cK x pn pd).w2=V:=by unfold cK;dsimp only;omega
 unfold rx2;rw[hw];unfold fE;dsimp only;unfold sB hB;by_cases hc:s.t2<V
 ·have g:(s.t2<V)=True:=AAk hc
  rw[if_pos hc];dsimp only;(exact RT5 e1 e2 e3 e4 g)
 ·have g:(s.t2<V)=False:=AAl hc
  rw[if_neg hc];(exact RT5 e1 e2 e3 e4 g)
theorem bEN:bP 0 [2,3,4,5,6,7,8,17,18,19] (execW progG 90 0 none (match fE with | .loop _ a=>a|c=>c) (aZ [2,3,4,5,6,7,8,17,18,19] (sB x q s 3)) (hB x pn pd s))=some (sB x q (rx3 (cK x pn pd) s) 4,hB x pn pd (rx3 (cK x pn pd) s)):=by
 obtain⟨_,_,⟨h1,h2,h3⟩,_,k3,_⟩:=ok;have hp:0≤x.b2*pd∧x.b2*pd≤1200:=by
  rcases (by omega:pd=1∨pd=2∨pd=3∨pd=4)with rfl|rfl|rfl|rfl<;>omega
 obtain⟨P,hP⟩:∃ P,x.b2*pd=P:=⟨_,rfl⟩;obtain⟨z0,z1,z2,m0,m1,m2⟩:=bd;rw[hP]at hp;have e1:IntKind.i64.wrap (x.b2*pd)=P:=by rw[hP];exact aE AM AM
 obtain⟨Q,hQ⟩:∃ Q,s.t2+P=Q:=⟨_,rfl⟩;have e3:IntKind.i64.wrap (s.t2+P)=Q:=by rw[aE AM AM];exact hQ
 have hb:0≤(x.B3:Int)*pn∧(x.B3:Int)*pn≤4000:=by
  rcases (by omega:(x.B3:Int)=1∨(x.B3:Int)=2∨(x.B3:Int)=3∨(x.B3:Int)=4)with h|h|h|h<;>rw[h]<;>omega
 obtain⟨N,hN⟩:∃ N,(x.B3:Int)*pn=N:=⟨_,rfl⟩;rw[hN]at hb;have e2:IntKind.i64.wrap ((x.B3:Int)*pn)=N:=by rw[hN];exact aE AM AM
 obtain⟨V,hV⟩:∃ V,Q-N=V:=⟨_,rfl⟩;have e4:IntKind.i64.wrap (Q-N)=V:=by rw[aE AM AM];exact hV
 have hw:s.t2+(cK x pn pd).w3=V:=by unfold cK;dsimp only;omega
 unfold rx3;rw[hw];unfold fE;dsimp only;unfold sB hB;by_cases hc:s.t1<V
 ·have g:(s.t1<V)=True:=AAk hc
  rw[if_pos hc];dsimp only;(exact RT5 e1 e2 e3 e4 g)
 ·have g:(s.t1<V)=False:=AAl hc
  rw[if_neg hc];(exact RT5 e1 e2 e3 e4 g)
theorem bEM:bP 0 [2,3,4,5,6,7,8,17,18,19] (execW progG 90 0 none (match fE with | .loop _ a=>a|c=>c) (aZ [2,3,4,5,6,7,8,17,18,19] (sB x q s 4)) (hB x pn pd s))=some (sB x q (rx4 (cK x pn pd) s) 5,hB x pn pd (rx4 (cK x pn pd) s)):=by
 obtain⟨_,_,_,⟨h1,h2,h3⟩,_,k3⟩:=ok;have hp:0≤x.d2*pd∧x.d2*pd≤1200:=by
  rcases (by omega:pd=1∨pd=2∨pd=3∨pd=4)with rfl|rfl|rfl|rfl<;>omega
 obtain⟨P,hP⟩:∃ P,x.d2*pd=P:=⟨_,rfl⟩;obtain⟨z0,z1,z2,m0,m1,m2⟩:=bd;rw[hP]at hp;have e1:IntKind.i64.wrap (x.d2*pd)=P:=by rw[hP];exact aE AM AM
 obtain⟨Q,hQ⟩:∃ Q,s.t2+P=Q:=⟨_,rfl⟩;have e3:IntKind.i64.wrap (s.t2+P)=Q:=by rw[aE AM AM];exact hQ
 have hb:0≤(x.B4:Int)*pn∧(x.B4:Int)*pn≤4000:=by
  rcases (by omega:(x.B4:Int)=1∨(x.B4:Int)=2∨(x.B4:Int)=3∨(x.B4:Int)=4)with h|h|h|h<;>rw[h]<;>omega
 obtain⟨N,hN⟩:∃ N,(x.B4:Int)*pn=N:=⟨_,rfl⟩;rw[hN]at hb;have e2:IntKind.i64.wrap ((x.B4:Int)*pn)=N:=by rw[hN];exact aE AM AM
 obtain⟨V,hV⟩:∃ V,Q-N=V:=⟨_,rfl⟩;have e4:IntKind.i64.wrap (Q-N)=V:=by rw[aE AM AM];exact hV
 have hw:s.t2+(cK x pn pd).w4=V:=by unfold cK;dsimp only;omega
 unfold rx4;rw[hw];unfold fE;dsimp only;unfold sB hB;by_cases hc:s.t0<V
 ·have g:(s.t0<V)=True:=AAk hc
  rw[if_pos hc];dsimp only;(exact RT5 e1 e2 e3 e4 g)
 ·have g:(s.t0<V)=False:=AAl hc
  rw[if_neg hc];(exact RT5 e1 e2 e3 e4 g)
end
end
section
theorem aTI{x:Wx}(ok:x.Ok){pn pd:Int}(hn:0≤pn)(hd:1≤pd∧pd≤4):(cK x pn pd).w0≤1200∧(cK x pn pd).w1≤1200∧(cK x pn pd).w2≤1200∧(cK x pn pd).w3≤1200∧(cK x pn pd).w4≤1200:=by
 obtain⟨⟨_,_,c⟩,⟨_,_,a⟩,⟨_,_,b⟩,⟨_,_,d⟩,_,_⟩:=ok;have n3:0≤(x.B3:Int)*pn:=aC3 AM hn;have n4:0≤(x.B4:Int)*pn:=aC3 AM hn;unfold cK;dsimp only;generalize (x.B3:Int)*pn=u at *;generalize (x.B4:Int)*pn=v at *;rcases (by omega:pd=1∨pd=2∨pd=3∨pd=4)with rfl|rfl|rfl|rfl<;>omega
section
variable{w:Wt}(hw:w.w0≤1200∧w.w1≤1200∧w.w2≤1200∧w.w3≤1200∧w.w4≤1200)
include hw
theorem bd0{s:oQ}{M:Int}(b:Bd s M):Bd (rx0 w s) (M+1200):=by
 obtain⟨z0,z1,z2,m0,m1,m2⟩:=b;unfold rx0;split<;>exact⟨by first|omega|(dsimp only;omega),by first|omega|(dsimp only;omega),by first|omega|(dsimp only;omega),by first|omega|(dsimp only;omega),by first|omega|(dsimp only;omega),by first|omega|(dsimp only;omega)⟩
theorem bd1{s:oQ}{M:Int}(b:Bd s M):Bd (rx1 w s) (M+1200):=by
 obtain⟨z0,z1,z2,m0,m1,m2⟩:=b;unfold rx1;split<;>exact⟨by first|omega|(dsimp only;omega),by first|omega|(dsimp only;omega),by first|omega|(dsimp only;omega),by first|omega|(dsimp only;omega),by first|omega|(dsimp only;omega),by first|omega|(dsimp only;omega)⟩
theorem bd2{s:oQ}{M:Int}(b:Bd s M):Bd (rx2 w s) (M+1200):=by
 obtain⟨z0,z1,z2,m0,m1,m2⟩:=b;unfold rx2;split<;>exact⟨by first|omega|(dsimp only;omega),by first|omega|(dsimp only;omega),by first|omega|(dsimp only;omega),by first|omega|(dsimp only;omega),by first|omega|(dsimp only;omega),by first|omega|(dsimp only;omega)⟩
theorem bd3{s:oQ}{M:Int}(b:Bd s M):Bd (rx3 w s) (M+1200):=by
 obtain⟨z0,z1,z2,m0,m1,m2⟩:=b;unfold rx3;split<;>exact⟨by first|omega|(dsimp only;omega),by first|omega|(dsimp only;omega),by first|omega|(dsimp only;omega),by first|omega|(dsimp only;omega),by first|omega|(dsimp only;omega),by first|omega|(dsimp only;omega)⟩
theorem bd4{s:oQ}{M:Int}(b:Bd s M):Bd (rx4 w s) (M+1200):=by
 obtain⟨z0,z1,z2,m0,m1,m2⟩:=b;unfold rx4;split<;>exact⟨by first|omega|(dsimp only;omega),by first|omega|(dsimp only;omega),by first|omega|(dsimp only;omega),by first|omega|(dsimp only;omega),by first|omega|(dsimp only;omega),by first|omega|(dsimp only;omega)⟩
theorem aXt:∀ n:Nat,Bd (aW w n) (6000*(n:Int))
 | 0=>⟨C3 _,C3 _,C3 _,C3 _,C3 _,C3 _⟩
 | n+1=>by
   have b:=aXt n;have b0:Bd { aW w n with r := -1 } (6000*(n:Int)):=⟨b.z0,b.z1,b.z2,b.m0,b.m1,b.m2⟩;have h:=bd4 hw (bd3 hw (bd2 hw (bd1 hw (bd0 hw b0))));have e:6000*(n:Int)+1200+1200+1200+1200+1200=6000*((n+1:Nat):Int):=AM
   rw[e]at h;exact h
end
section
variable{x:Wx}(ok:x.Ok){pn pd q:Int}(hn:0≤pn∧pn≤1000)(hd:1≤pd∧pd≤4)
include ok hn hd
theorem rds{n i:Nat}(h3:n≤3)(hi:i<5):bP 0 [2,3,4,5,6,7,8,17,18,19] (execW progG 90 0 none (match fE with | .loop _ a=>a|c=>c) (aZ [2,3,4,5,6,7,8,17,18,19] (sB x q (rxN (cK x pn pd) (aW (cK x pn pd) n) i) (i:Nat))) (hB x pn pd (rxN (cK x pn pd) (aW (cK x pn pd) n) i)))=some (sB x q (rxN (cK x pn pd) (aW (cK x pn pd) n) (i+1)) (i+1:Nat),hB x pn pd (rxN (cK x pn pd) (aW (cK x pn pd) n) (i+1))):=by
 have hw:=aTI ok hn.1 hd;have b:=aXt hw n;have b0:Bd { aW (cK x pn pd) n with r := -1 } (6000*(n:Int)):=⟨b.z0,b.z1,b.z2,b.m0,b.m1,b.m2⟩;have b1:=bd0 hw b0;have b2:=bd1 hw b1;have b3:=bd2 hw b2;have b4:=bd3 hw b3;have up:∀{s:oQ}{M:Int},Bd s M→M≤100000→Bd s 100000:=fun h k=>⟨h.z0,h.z1,h.z2,aB0 h.m0 k,aB0 h.m1 k,aB0 h.m2 k⟩;rcases (by omega:i=0∨i=1∨i=2∨i=3∨i=4)with rfl|rfl|rfl|rfl|rfl;·exact bEQ ok hn hd (up b0 AM)
 ·exact bEP ok hn hd (up b1 AM)
 ·exact bEO ok hn hd (up b2 AM)
 ·exact bEN ok hn hd (up b3 AM)
 ·exact bEM ok hn hd (up b4 AM)
def b90:XCode:=match lV with | .scope _ _ _ b=>b|c=>c
def a90:XCode:=match lV with | .scope _ _ a _=>a|c=>c
def sA(j:Int):List AV:=[.pt 0 0,.pt 1 0,.sl 2 0 1 3,.nilsl,.pt 3 0,I j]
theorem bCL{j:Nat}(hj:j<3)(hr:0≤(aW (cK x pn pd) (j+1)).r):goX 0 [2,3,4,5,6,7] 0 (execW progG 90 0 none b90 (aZ [2,3,4,5,6,7] (sA (j:Nat))) (hB x pn pd (aW (cK x pn pd) j)))=some (sA (j+1:Nat),hB x pn pd (aW (cK x pn pd) (j+1))):=by
 have o:=fun i hi=>rds ok hn hd (q:=(j:Int)) (n:=j) (i:=i) AM hi;have e1:((aW (cK x pn pd) (j+1)).r<0)=False:=AAb;have e2:IntKind.i64.wrap ((j:Int)+1)=((j+1:Nat):Int):=by rw[aE AM AM];omega
 have e3:(((j+1:Nat):Int)≤3)=True:=AAa;have ep:aW (cK x pn pd) (j+1)=rxN (cK x pn pd) (aW (cK x pn pd) j) 5:=rfl;unfold b90 lV sA;dsimp only;unfold hB sB at *;sym =>
  simp[dM,dN,gT,Za,Zb,Zf,Zh,Zl,Zm,Zv,ZA,ZF,ZQ,ZU,Yr,Yt,Y5,YE,YF,YU,Xf,Xy,XM,XN,XO,XX,Wu,W3,W4,W5,W7,V3,V4,V5,VC,VD,VE,VH,VI,VK,VM,VN,VP,VR,VS,VT,VU,VZ,Ua,Uf,UW,UX,UY,UZ,Ta,Tb,Tc,Tf,Tg,Th,Ti,Tj,Tm,Tn,Tp,Ts,T6,T7,T8,TT,TU,TV,TW,SF,SG,SL,SY,Ra,Rc,Re,Rf,Rg,Rh,Rl,Rm,Ro,Rp,Qa,PX,PY]
  tactic =>
   unfold fE at o ⊢;rw[aQ 5 _ _ ?_ o ?_]
   ·rw[←ep]
    generalize aW (cK x pn pd) (j+1)=s at *;(exact RT3 e1 e2 e3)
   ·(exact yO)
   ·(exact yO)
end
theorem aGm(a:Int):runW progG 122 [.sl 0 0 1 1] [some (.blk true (.cells true [I a]))]=some (.tup [],[some (.blk true (.cells true [I a]))]):=bJ.2 ⟨60,by kernel_rfl⟩
theorem aGl(a b:Int):runW progG 122 [.sl 0 0 1 2] [some (.blk true (.cells true [I a,I b]))]=some (.tup [],[some (.blk true (.cells true [I b,I a]))]):=bJ.2 ⟨60,by kernel_rfl⟩
theorem aGk(a b c:Int):runW progG 122 [.sl 0 0 1 3] [some (.blk true (.cells true [I a,I b,I c]))]=some (.tup [],[some (.blk true (.cells true [I c,I b,I a]))]):=bJ.2 ⟨60,by kernel_rfl⟩
section
variable{x:Wx}(ok:x.Ok){pn pd:Int}(hn:0≤pn∧pn≤1000)(hd:1≤pd∧pd≤4)
include ok hn hd
theorem aOE{j:Nat}(hj:j≤3)(hr:(aW (cK x pn pd) (j+1)).r<0):reX [(4,none),(5,none)] true 0 (execW progG 90 0 none b90 (aZ [2,3,4,5,6,7] (sA (j:Nat))) (hB x pn pd (aW (cK x pn pd) j))) =
 some (.tup [.sl 0 0 1 3,.nilsl],[some (.blk true (.cells true [I (aW (cK x pn pd) (j+1)).t0,I (aW (cK x pn pd) (j+1)).t1,I (aW (cK x pn pd) (j+1)).t2]))]):=by
 have o:=fun i hi=>rds ok hn hd (q:=(j:Int)) (n:=j) (i:=i) AM hi;have e1:((aW (cK x pn pd) (j+1)).r<0)=True:=AAa;have ep:aW (cK x pn pd) (j+1)=rxN (cK x pn pd) (aW (cK x pn pd) j) 5:=rfl;unfold b90 lV sA;dsimp only;unfold hB sB at *;sym =>
  simp[dM,dN,gT,Za,Zb,Zf,Zh,Zl,Zm,Zv,ZA,ZF,ZQ,ZU,Yr,Yt,YE,YU,Xf,Xy,XL,XM,XN,XO,XX,Wu,Wz,W3,W4,W5,W7,V3,V4,V5,VC,VD,VE,VH,VI,VK,VM,VN,VP,VR,VS,VT,VU,VZ,Ua,Uf,UG,UH,UI,UL,UM,UP,UQ,UR,US,UT,UW,UX,UY,UZ,Ta,Tb,Tc,Tf,Tg,Th,Ti,Tj,Tm,Tn,Tp,Ts,T6,T7,T8,TT,TU,TV,TW,SF,SG,SL,SY,Ra,Rb,Rc,Re,Rf,Rg,Rh,Ri,Rl,Rm,Ro,Rp,Qa]
  tactic =>
   unfold fE at o ⊢;rw[aQ 5 _ _ ?_ o ?_]
   ·rw[←ep]
    generalize aW (cK x pn pd) (j+1)=s at *;(exact RT2 e1 @qE)
   ·(exact yO)
   ·(exact yO)
def Cyc(x:Wx)(pn pd:Int)(r:Option (AV×XH)):Prop:=∃(l:List Int)(X:Int×Int),(X=X0 x∨X=X1 x∨X=X2 x)∧yL (pn,pd) X∧Per x l X∧r=some (.tup [.nilsl,.sl 0 0 1 l.length],[some (.blk true (.cells true (l.map I)))])
theorem bDe(hr:0≤(aW (cK x pn pd) 4).r):Cyc x pn pd (reX [(4,none),(5,none)] true 0 (execW progG 90 0 none b90 (aZ [2,3,4,5,6,7] (sA 3)) (hB x pn pd (aW (cK x pn pd) 3)))):=by
 have bk:=bIz hr;have o:=fun i hi=>rds ok hn hd (q:=3) (n:=3) (i:=i) AM hi;have ep:aW (cK x pn pd) 4=rxN (cK x pn pd) (aW (cK x pn pd) 3) 5:=rfl;obtain⟨s3,hs3⟩:∃ s3,aW (cK x pn pd) 3=s3:=⟨_,rfl⟩;rw[hs3]at o ep ⊢;have l0:0<(cK x pn pd).w0→yL (pn,pd) (X0 x):=fun h=>by
  unfold cK at h;unfold yL X0;dsimp only at h ⊢;omega
 have l1:0<(cK x pn pd).w2+(cK x pn pd).w3→yL (pn,pd) (X1 x):=fun h=>by
  unfold cK at h;unfold yL X1;dsimp only at h ⊢;rw[aH3,Int.mul_comm pn];omega
 have l2:0<(cK x pn pd).w4+(cK x pn pd).w2+(cK x pn pd).w1→yL (pn,pd) (X2 x):=fun h=>by
  unfold cK at h;unfold yL X2;dsimp only at h ⊢;rw[aH3,aH3,Int.mul_comm pn];omega
 have p0:=bEY ok;have p1:=bEX ok;have p2:=bEW ok;have key:∀ l:List Int,reX [(4,none),(5,none)] true 0 (execW progG 90 0 none b90 (aZ [2,3,4,5,6,7] (sA 3)) (hB x pn pd s3))=some (.tup [.nilsl,.sl 0 0 1 l.length],[some (.blk true (.cells true (l.map I)))])→∀ X,(X=X0 x∨X=X1 x∨X=X2 x)→yL (pn,pd) X→Per x l X→Cyc x pn pd (reX [(4,none),(5,none)] true 0 (execW progG 90 0 none b90 (aZ [2,3,4,5,6,7] (sA 3)) (hB x pn pd s3))):=fun l h X h1 h2 h3=>⟨l,X,h1,h2,h3,h⟩;rcases bk with ⟨hr,h0,hw⟩|⟨hr,h0,h2,h1,hw⟩|⟨hr,h0,h2,h1,hw⟩|⟨hr,h1,h0,hw⟩|⟨hr,h1,h0,h2,hw⟩|⟨hr,h1,h2,hw⟩|⟨hr,h2,h1,h0,hw⟩|⟨hr,h2,h1,h0,hw⟩|⟨hr,h2,h1,hw⟩
 ·refine key [0] ?_ (X0 x) (.inl rfl) (l0 hw) p0
  clear key l0 l1 l2 p0 p1 p2;have g0:((aW (cK x pn pd) 4).y0:Int)=0:=by rw[h0];rfl
  unfold b90 lV sA;dsimp only;unfold hB sB at *;sym =>
   simp[dM,dN,gT,Za,Zb,Zd,Ze,Zf,Zh,Zi,Zl,Zm,Zo,Zp,Zr,Zt,Zv,Zy,Z8,ZA,ZF,ZG,ZH,ZQ,ZU,ZV,ZW,ZX,Yc,Yg,Yk,Yl,Ym,Yn,Yo,Yr,Ys,Yt,Yu,Yv,Yy,Yz,Y5,YC,YD,YE,YF,YM,YN,YO,YP,YT,YU,YV,YX,YY,YZ,Xa,Xb,Xc,Xf,Xi,Xy,XL,XM,XN,XO,XX,Wf,Wu,Wz,W3,W4,W5,W7,Vp,V3,V4,V5,V6,V7,V8,V9,VA,VC,VD,VE,VF,VH,VI,VK,VM,VN,VO,VP,VQ,VR,VS,VT,VU,VV,VW,VX,VZ,Ua,Uf,Ui,Uj,Uk,Ul,UG,UH,UI,UL,UM,UP,UQ,UR,US,UT,UW,UX,UY,UZ,Ta,Tb,Tc,Tf,Tg,Th,Ti,Tj,Tm,Tn,Tp,Ts,Tv,Ty,Tz,T2,T6,T7,T8,T9,TR,TS,TT,TU,TV,TW,TX,TY,Sg,Si,Sj,Sk,Sy,Sz,S2,S3,S8,S9,SA,SB,SC,SD,SF,SG,SI,SJ,SL,SQ,SS,SU,SV,SX,SY,Ra,Rb,Rc,Re,Rf,Rg,Rh,Rj,Rl,Rm,Ro,Rp,Qa,Qh,QZ,PC,PD,PE,PG]
   tactic =>
    unfold fE at o ⊢;rw[aQ 5 _ _ ?_ o ?_]
    ·rw[←ep]
     generalize aW (cK x pn pd) 4=s at *;unfold rV sV;(exact RT7 hr g0 aGm aGl aGk @qE @dA)
    ·(exact yO)
    ·(exact yO)
 ·refine key [1,2,4] ?_ (X2 x) (.inr (.inr rfl)) (l2 hw) p2.1
  clear key l0 l1 l2 p0 p1 p2;have g0:((aW (cK x pn pd) 4).y0:Int)=4:=by rw[h0];rfl
  have g1:((aW (cK x pn pd) 4).y1:Int)=1:=by rw[h1];rfl
  have g2:((aW (cK x pn pd) 4).y2:Int)=2:=by rw[h2];rfl
  unfold b90 lV sA;dsimp only;unfold hB sB at *;sym =>
   simp[dM,dN,gT,Za,Zb,Zd,Ze,Zf,Zh,Zi,Zl,Zm,Zo,Zp,Zr,Zt,Zv,Zy,Z8,ZA,ZF,ZG,ZH,ZQ,ZU,ZV,ZW,ZX,Yc,Yg,Yk,Yl,Ym,Yn,Yo,Yr,Ys,Yt,Yu,Yv,Yy,Yz,Y5,YC,YD,YE,YF,YM,YN,YO,YP,YT,YU,YV,YX,YY,YZ,Xa,Xb,Xc,Xf,Xi,Xy,XL,XM,XN,XO,XX,Wf,Wu,Wz,W3,W4,W5,W7,Vp,V3,V4,V5,V6,V7,V8,V9,VA,VC,VD,VE,VF,VH,VI,VK,VM,VN,VO,VP,VQ,VR,VS,VT,VU,VV,VW,VX,VZ,Ua,Uf,Ui,Uj,Uk,Ul,UG,UH,UI,UL,UM,UP,UQ,UR,US,UT,UW,UX,UY,UZ,Ta,Tb,Tc,Tf,Tg,Th,Ti,Tj,Tm,Tn,Tp,Ts,Tv,Ty,Tz,T2,T6,T7,T8,T9,TR,TS,TT,TU,TV,TW,TX,TY,Sg,Si,Sj,Sk,Sy,Sz,S2,S3,S8,S9,SA,SB,SC,SD,SF,SG,SI,SJ,SL,SQ,SS,SU,SV,SX,SY,Ra,Rb,Rc,Re,Rf,Rg,Rh,Rj,Rl,Rm,Ro,Rp,Qa,Qh,QZ,PC,PD,PE,PG]
   tactic =>
    unfold fE at o ⊢;rw[aQ 5 _ _ ?_ o ?_]
    ·rw[←ep]
     generalize aW (cK x pn pd) 4=s at *;unfold rV sV;(exact RT9 hr g0 g1 g2 aGm aGl aGk @qE @dA)
    ·(exact yO)
    ·(exact yO)
 ·refine key [3,2] ?_ (X1 x) (.inr (.inl rfl)) (l1 hw) p1.2
  clear key l0 l1 l2 p0 p1 p2;have g0:((aW (cK x pn pd) 4).y0:Int)=4:=by rw[h0];rfl
  have g1:((aW (cK x pn pd) 4).y1:Int)=3:=by rw[h1];rfl
  have g2:((aW (cK x pn pd) 4).y2:Int)=2:=by rw[h2];rfl
  unfold b90 lV sA;dsimp only;unfold hB sB at *;sym =>
   simp[dM,dN,gT,Za,Zb,Zd,Ze,Zf,Zh,Zi,Zl,Zm,Zo,Zp,Zr,Zt,Zv,Zy,Z8,ZA,ZF,ZG,ZH,ZQ,ZU,ZV,ZW,ZX,Yc,Yg,Yk,Yl,Ym,Yn,Yo,Yr,Ys,Yt,Yu,Yv,Yy,Yz,Y5,YC,YD,YE,YF,YM,YN,YO,YP,YT,YU,YV,YX,YY,YZ,Xa,Xb,Xc,Xf,Xi,Xy,XL,XM,XN,XO,XX,Wf,Wu,Wz,W3,W4,W5,W7,Vp,V3,V4,V5,V6,V7,V8,V9,VA,VC,VD,VE,VF,VH,VI,VK,VM,VN,VO,VP,VQ,VR,VS,VT,VU,VV,VW,VX,VZ,Ua,Uf,Ui,Uj,Uk,Ul,UG,UH,UI,UL,UM,UP,UQ,UR,US,UT,UW,UX,UY,UZ,Ta,Tb,Tc,Tf,Tg,Th,Ti,Tj,Tm,Tn,Tp,Ts,Tv,Ty,Tz,T2,T6,T7,T8,T9,TR,TS,TT,TU,TV,TW,TX,TY,Sg,Si,Sj,Sk,Sy,Sz,S2,S3,S8,S9,SA,SB,SC,SD,SF,SG,SI,SJ,SL,SQ,SS,SU,SV,SX,SY,Ra,Rb,Rc,Re,Rf,Rg,Rh,Rj,Rl,Rm,Ro,Rp,Qa,Qh,QZ,PC,PD,PE,PG]
   tactic =>
    unfold fE at o ⊢;rw[aQ 5 _ _ ?_ o ?_]
    ·rw[←ep]
     generalize aW (cK x pn pd) 4=s at *;unfold rV sV;(exact RT9 hr g0 g1 g2 aGm aGl aGk @qE @dA)
    ·(exact yO)
    ·(exact yO)
 ·refine key [0] ?_ (X0 x) (.inl rfl) (l0 hw) p0
  clear key l0 l1 l2 p0 p1 p2;have g0:((aW (cK x pn pd) 4).y0:Int)=0:=by rw[h0];rfl
  have g1:((aW (cK x pn pd) 4).y1:Int)=1:=by rw[h1];rfl
  unfold b90 lV sA;dsimp only;unfold hB sB at *;sym =>
   simp[dM,dN,gT,Za,Zb,Zd,Ze,Zf,Zh,Zi,Zl,Zm,Zo,Zp,Zr,Zt,Zv,Zy,Z8,ZA,ZF,ZG,ZH,ZQ,ZU,ZV,ZW,ZX,Yc,Yg,Yk,Yl,Ym,Yn,Yo,Yr,Ys,Yt,Yu,Yv,Yy,Yz,Y5,YC,YD,YE,YF,YM,YN,YO,YP,YT,YU,YV,YX,YY,YZ,Xa,Xb,Xc,Xf,Xi,Xy,XL,XM,XN,XO,XX,Wf,Wu,Wz,W3,W4,W5,W7,Vp,V3,V4,V5,V6,V7,V8,V9,VA,VC,VD,VE,VF,VH,VI,VK,VM,VN,VO,VP,VQ,VR,VS,VT,VU,VV,VW,VX,VZ,Ua,Uf,Ui,Uj,Uk,Ul,UG,UH,UI,UL,UM,UP,UQ,UR,US,UT,UW,UX,UY,UZ,Ta,Tb,Tc,Tf,Tg,Th,Ti,Tj,Tm,Tn,Tp,Ts,Tv,Ty,Tz,T2,T6,T7,T8,T9,TR,TS,TT,TU,TV,TW,TX,TY,Sg,Si,Sj,Sk,Sy,Sz,S2,S3,S8,S9,SA,SB,SC,SD,SF,SG,SI,SJ,SL,SQ,SS,SU,SV,SX,SY,Ra,Rb,Rc,Re,Rf,Rg,Rh,Rj,Rl,Rm,Ro,Rp,Qa,Qh,QZ,PC,PD,PE,PG]
   tactic =>
    unfold fE at o ⊢;rw[aQ 5 _ _ ?_ o ?_]
    ·rw[←ep]
     generalize aW (cK x pn pd) 4=s at *;unfold rV sV;(exact RT9 hr g0 g1 aGm aGl aGk @qE @dA aG)
    ·(exact yO)
    ·(exact yO)
 ·refine key [2,4,1] ?_ (X2 x) (.inr (.inr rfl)) (l2 hw) p2.2.1
  clear key l0 l1 l2 p0 p1 p2;have g0:((aW (cK x pn pd) 4).y0:Int)=4:=by rw[h0];rfl
  have g1:((aW (cK x pn pd) 4).y1:Int)=1:=by rw[h1];rfl
  have g2:((aW (cK x pn pd) 4).y2:Int)=2:=by rw[h2];rfl
  unfold b90 lV sA;dsimp only;unfold hB sB at *;sym =>
   simp[dM,dN,gT,Za,Zb,Zd,Ze,Zf,Zh,Zi,Zl,Zm,Zo,Zp,Zr,Zt,Zv,Zy,Z8,ZA,ZF,ZG,ZH,ZQ,ZU,ZV,ZW,ZX,Yc,Yg,Yk,Yl,Ym,Yn,Yo,Yr,Ys,Yt,Yu,Yv,Yy,Yz,Y5,YC,YD,YE,YF,YM,YN,YO,YP,YT,YU,YV,YX,YY,YZ,Xa,Xb,Xc,Xf,Xi,Xy,XL,XM,XN,XO,XX,Wf,Wu,Wz,W3,W4,W5,W7,Vp,V3,V4,V5,V6,V7,V8,V9,VA,VC,VD,VE,VF,VH,VI,VK,VM,VN,VO,VP,VQ,VR,VS,VT,VU,VV,VW,VX,VZ,Ua,Uf,Ui,Uj,Uk,Ul,UG,UH,UI,UL,UM,UP,UQ,UR,US,UT,UW,UX,UY,UZ,Ta,Tb,Tc,Tf,Tg,Th,Ti,Tj,Tm,Tn,Tp,Ts,Tv,Ty,Tz,T2,T6,T7,T8,T9,TR,TS,TT,TU,TV,TW,TX,TY,Sg,Si,Sj,Sk,Sy,Sz,S2,S3,S8,S9,SA,SB,SC,SD,SF,SG,SI,SJ,SL,SQ,SS,SU,SV,SX,SY,Ra,Rb,Rc,Re,Rf,Rg,Rh,Rj,Rl,Rm,Ro,Rp,Qa,Qh,QZ,PC,PD,PE,PG]
   tactic =>
    unfold fE at o ⊢;rw[aQ 5 _ _ ?_ o ?_]
    ·rw[←ep]
     generalize aW (cK x pn pd) 4=s at *;unfold rV sV;(exact RT9 hr g0 g1 g2 aGm aGl aGk @qE @dA)
    ·(exact yO)
    ·(exact yO)
 ·refine key [3,2] ?_ (X1 x) (.inr (.inl rfl)) (l1 hw) p1.2
  clear key l0 l1 l2 p0 p1 p2;have g1:((aW (cK x pn pd) 4).y1:Int)=3:=by rw[h1];rfl
  have g2:((aW (cK x pn pd) 4).y2:Int)=2:=by rw[h2];rfl
  unfold b90 lV sA;dsimp only;unfold hB sB at *;sym =>
   simp[dM,dN,gT,Za,Zb,Zd,Ze,Zf,Zh,Zi,Zl,Zm,Zo,Zp,Zr,Zt,Zv,Zy,Z8,ZA,ZF,ZG,ZH,ZQ,ZU,ZV,ZW,ZX,Yc,Yg,Yk,Yl,Ym,Yn,Yo,Yr,Ys,Yt,Yu,Yv,Yy,Yz,Y5,YC,YD,YE,YF,YM,YN,YO,YP,YT,YU,YV,YX,YY,YZ,Xa,Xb,Xc,Xf,Xi,Xy,XL,XM,XN,XO,XX,Wf,Wu,Wz,W3,W4,W5,W7,Vp,V3,V4,V5,V6,V7,V8,V9,VA,VC,VD,VE,VF,VH,VI,VK,VM,VN,VO,VP,VQ,VR,VS,VT,VU,VV,VW,VX,VZ,Ua,Uf,Ui,Uj,Uk,Ul,UG,UH,UI,UL,UM,UP,UQ,UR,US,UT,UW,UX,UY,UZ,Ta,Tb,Tc,Tf,Tg,Th,Ti,Tj,Tm,Tn,Tp,Ts,Tv,Ty,Tz,T2,T6,T7,T8,T9,TR,TS,TT,TU,TV,TW,TX,TY,Sg,Si,Sj,Sk,Sy,Sz,S2,S3,S8,S9,SA,SB,SC,SD,SF,SG,SI,SJ,SL,SQ,SS,SU,SV,SX,SY,Ra,Rb,Rc,Re,Rf,Rg,Rh,Rj,Rl,Rm,Ro,Rp,Qa,Qh,QZ,PC,PD,PE,PG]
   tactic =>
    unfold fE at o ⊢;rw[aQ 5 _ _ ?_ o ?_]
    ·rw[←ep]
     generalize aW (cK x pn pd) 4=s at *;unfold rV sV;(exact RT9 hr g1 g2 aGm aGl aGk @qE @dA aG)
    ·(exact yO)
    ·(exact yO)
 ·refine key [0] ?_ (X0 x) (.inl rfl) (l0 hw) p0
  clear key l0 l1 l2 p0 p1 p2;have g0:((aW (cK x pn pd) 4).y0:Int)=0:=by rw[h0];rfl
  have g1:((aW (cK x pn pd) 4).y1:Int)=1:=by rw[h1];rfl
  have g2:((aW (cK x pn pd) 4).y2:Int)=2:=by rw[h2];rfl
  unfold b90 lV sA;dsimp only;unfold hB sB at *;sym =>
   simp[dM,dN,gT,Za,Zb,Zd,Ze,Zf,Zh,Zi,Zl,Zm,Zo,Zp,Zr,Zt,Zv,Zy,Z8,ZA,ZF,ZG,ZH,ZQ,ZU,ZV,ZW,ZX,Yc,Yg,Yk,Yl,Ym,Yn,Yo,Yr,Ys,Yt,Yu,Yv,Yy,Yz,Y5,YC,YD,YE,YF,YM,YN,YO,YP,YT,YU,YV,YX,YY,YZ,Xa,Xb,Xc,Xf,Xi,Xy,XL,XM,XN,XO,XX,Wf,Wu,Wz,W3,W4,W5,W7,Vp,V3,V4,V5,V6,V7,V8,V9,VA,VC,VD,VE,VF,VH,VI,VK,VM,VN,VO,VP,VQ,VR,VS,VT,VU,VV,VW,VX,VZ,Ua,Uf,Ui,Uj,Uk,Ul,UG,UH,UI,UL,UM,UP,UQ,UR,US,UT,UW,UX,UY,UZ,Ta,Tb,Tc,Tf,Tg,Th,Ti,Tj,Tm,Tn,Tp,Ts,Tv,Ty,Tz,T2,T6,T7,T8,T9,TR,TS,TT,TU,TV,TW,TX,TY,Sg,Si,Sj,Sk,Sy,Sz,S2,S3,S8,S9,SA,SB,SC,SD,SF,SG,SI,SJ,SL,SQ,SS,SU,SV,SX,SY,Ra,Rb,Rc,Re,Rf,Rg,Rh,Rj,Rl,Rm,Ro,Rp,Qa,Qh,QZ,PC,PD,PE,PG]
   tactic =>
    unfold fE at o ⊢;rw[aQ 5 _ _ ?_ o ?_]
    ·rw[←ep]
     generalize aW (cK x pn pd) 4=s at *;unfold rV sV;(exact RT9 hr g0 g1 g2 aGm aGl aGk @qE @dA)
    ·(exact yO)
    ·(exact yO)
 ·refine key [4,1,2] ?_ (X2 x) (.inr (.inr rfl)) (l2 hw) p2.2.2
  clear key l0 l1 l2 p0 p1 p2;have g0:((aW (cK x pn pd) 4).y0:Int)=4:=by rw[h0];rfl
  have g1:((aW (cK x pn pd) 4).y1:Int)=1:=by rw[h1];rfl
  have g2:((aW (cK x pn pd) 4).y2:Int)=2:=by rw[h2];rfl
  unfold b90 lV sA;dsimp only;unfold hB sB at *;sym =>
   simp[dM,dN,gT,Za,Zb,Zd,Ze,Zf,Zh,Zi,Zl,Zm,Zo,Zp,Zr,Zt,Zv,Zy,Z8,ZA,ZF,ZG,ZH,ZQ,ZU,ZV,ZW,ZX,Yc,Yg,Yk,Yl,Ym,Yn,Yo,Yr,Ys,Yt,Yu,Yv,Yy,Yz,Y5,YC,YD,YE,YF,YM,YN,YO,YP,YT,YU,YV,YX,YY,YZ,Xa,Xb,Xc,Xf,Xi,Xy,XL,XM,XN,XO,XX,Wf,Wu,Wz,W3,W4,W5,W7,Vp,V3,V4,V5,V6,V7,V8,V9,VA,VC,VD,VE,VF,VH,VI,VK,VM,VN,VO,VP,VQ,VR,VS,VT,VU,VV,VW,VX,VZ,Ua,Uf,Ui,Uj,Uk,Ul,UG,UH,UI,UL,UM,UP,UQ,UR,US,UT,UW,UX,UY,UZ,Ta,Tb,Tc,Tf,Tg,Th,Ti,Tj,Tm,Tn,Tp,Ts,Tv,Ty,Tz,T2,T6,T7,T8,T9,TR,TS,TT,TU,TV,TW,TX,TY,Sg,Si,Sj,Sk,Sy,Sz,S2,S3,S8,S9,SA,SB,SC,SD,SF,SG,SI,SJ,SL,SQ,SS,SU,SV,SX,SY,Ra,Rb,Rc,Re,Rf,Rg,Rh,Rj,Rl,Rm,Ro,Rp,Qa,Qh,QZ,PC,PD,PE,PG]
   tactic =>
    unfold fE at o ⊢;rw[aQ 5 _ _ ?_ o ?_]
    ·rw[←ep]
     generalize aW (cK x pn pd) 4=s at *;unfold rV sV;(exact RT9 hr g0 g1 g2 aGm aGl aGk @qE @dA)
    ·(exact yO)
    ·(exact yO)
 ·refine key [2,3] ?_ (X1 x) (.inr (.inl rfl)) (l1 hw) p1.1
  clear key l0 l1 l2 p0 p1 p2;have g1:((aW (cK x pn pd) 4).y1:Int)=3:=by rw[h1];rfl
  have g2:((aW (cK x pn pd) 4).y2:Int)=2:=by rw[h2];rfl
  unfold b90 lV sA;dsimp only;unfold hB sB at *;sym =>
   simp[dM,dN,gT,Za,Zb,Zd,Ze,Zf,Zh,Zi,Zl,Zm,Zo,Zp,Zr,Zt,Zv,Zy,Z8,ZA,ZF,ZG,ZH,ZQ,ZU,ZV,ZW,ZX,Yc,Yg,Yk,Yl,Ym,Yn,Yo,Yr,Ys,Yt,Yu,Yv,Yy,Yz,Y5,YC,YD,YE,YF,YM,YN,YO,YP,YT,YU,YV,YX,YY,YZ,Xa,Xb,Xc,Xf,Xi,Xy,XL,XM,XN,XO,XX,Wf,Wu,Wz,W3,W4,W5,W7,Vp,V3,V4,V5,V6,V7,V8,V9,VA,VC,VD,VE,VF,VH,VI,VK,VM,VN,VO,VP,VQ,VR,VS,VT,VU,VV,VW,VX,VZ,Ua,Uf,Ui,Uj,Uk,Ul,UG,UH,UI,UL,UM,UP,UQ,UR,US,UT,UW,UX,UY,UZ,Ta,Tb,Tc,Tf,Tg,Th,Ti,Tj,Tm,Tn,Tp,Ts,Tv,Ty,Tz,T2,T6,T7,T8,T9,TR,TS,TT,TU,TV,TW,TX,TY,Sg,Si,Sj,Sk,Sy,Sz,S2,S3,S8,S9,SA,SB,SC,SD,SF,SG,SI,SJ,SL,SQ,SS,SU,SV,SX,SY,Ra,Rb,Rc,Re,Rf,Rg,Rh,Rj,Rl,Rm,Ro,Rp,Qa,Qh,QZ,PC,PD,PE,PG]
   tactic =>
    unfold fE at o ⊢;rw[aQ 5 _ _ ?_ o ?_]
    ·rw[←ep]
     generalize aW (cK x pn pd) 4=s at *;unfold rV sV;(exact RT9 hr g1 g2 aGm aGl aGk @qE @dA aG)
    ·(exact yO)
    ·(exact yO)
end
abbrev e90(x:Wx)(pn pd:Int):aH:=upd (upd (upd (upd (aV [.agg [I 3,.fs (rW x)],.agg [I pn,I pd]]) 2 (.pt 0 0)) 3 (.pt 1 0)) 4 .nilsl) 5 .nilsl
abbrev h90(x:Wx)(pn pd:Int):XH:=[some (.blk true (.cells true [I 3,.fs (rW x)])),some (.blk true (.cells true [I pn,I pd]))]
section
variable{x:Wx}(ok:x.Ok){pn pd:Int}(hn:0≤pn∧pn≤1000)(hd:1≤pd∧pd≤4)
include ok hn hd
theorem bIg(hr:0≤(aW (cK x pn pd) 1).r):goX 0 [2,3,4,5,6,7] 0 (execW progG 90 0 none a90 (e90 x pn pd) (h90 x pn pd))=some (sA 1,hB x pn pd (aW (cK x pn pd) 1)):=by
 have o:=fun i hi=>rds ok hn hd (q:=0) (n:=0) (i:=i) AM hi;have e1:((aW (cK x pn pd) 1).r<0)=False:=AAb;have ep:aW (cK x pn pd) 1=rxN (cK x pn pd) (aW (cK x pn pd) 0) 5:=rfl;generalize cK x pn pd=w at *;unfold a90 lV sA;dsimp only;unfold hB sB at *;sym =>
  simp[dM,dN,gT,Za,Zb,Zf,Zh,Zl,Zm,Zo,Zv,Zw,ZA,ZF,ZJ,ZQ,ZU,Yr,Yt,Y5,YE,YF,YM,YU,Xa,Xf,Xh,Xy,XM,XN,XO,XX,Wf,Wu,W3,W4,W5,W7,V3,V4,V5,VC,VD,VE,VH,VI,VK,VM,VN,VP,VR,VS,VT,VU,VZ,Ua,Uf,UW,UX,UY,UZ,Ta,Tb,Tc,Tf,Tg,Th,Ti,Tj,Tm,Tn,Tp,Ts,Tv,T2,T6,T7,T8,TT,TU,TV,TW,TX,TY,S2,S3,S5,S6,SF,SG,SL,SQ,SY,Ra,Rc,Re,Rf,Rg,Rh,Rl,Rm,Ro,Rp,Qa,Qj,PW,PX,PY]
  tactic =>
   unfold fE at o ⊢;rw[aQ 5 _ _ ?_ o ?_]
   ·rw[←ep]
    generalize aW w 1=s at *;(exact RT2 e1 @bCU)
   ·(exact yO)
   ·(exact yO)
theorem bIf(hr:(aW (cK x pn pd) 1).r<0):reX [(4,none),(5,none)] true 0 (execW progG 90 0 none a90 (e90 x pn pd) (h90 x pn pd)) =
 some (.tup [.sl 0 0 1 3,.nilsl],[some (.blk true (.cells true [I (aW (cK x pn pd) 1).t0,I (aW (cK x pn pd) 1).t1,I (aW (cK x pn pd) 1).t2]))]):=by
 have o:=fun i hi=>rds ok hn hd (q:=0) (n:=0) (i:=i) AM hi;have e1:((aW (cK x pn pd) 1).r<0)=True:=AAa;have ep:aW (cK x pn pd) 1=rxN (cK x pn pd) (aW (cK x pn pd) 0) 5:=rfl;generalize cK x pn pd=w at *;unfold a90 lV;dsimp only;unfold hB sB at *;sym =>
  simp[dM,dN,gT,Za,Zb,Zf,Zh,Zl,Zm,Zo,Zv,Zw,ZA,ZF,ZJ,ZQ,ZU,Yr,Yt,YE,YU,Xa,Xf,Xh,Xy,XL,XM,XN,XO,XX,Wf,Wu,Wz,W3,W4,W5,W7,V3,V4,V5,VC,VD,VE,VH,VI,VK,VM,VN,VP,VR,VS,VT,VU,VZ,Ua,Uf,UG,UH,UI,UL,UM,UP,UQ,UR,US,UT,UW,UX,UY,UZ,Ta,Tb,Tc,Tf,Tg,Th,Ti,Tj,Tm,Tn,Tp,Ts,Tv,T2,T6,T7,T8,TT,TU,TV,TW,TX,TY,S2,S3,S5,S6,SF,SG,SL,SQ,SY,Ra,Rb,Re,Rf,Rg,Rh,Ri,Rl,Rm,Ro,Rp,Qa,Qj,PW]
  tactic =>
   unfold fE at o ⊢;rw[aQ 5 _ _ ?_ o ?_]
   ·rw[←ep]
    generalize aW w 1=s at *;(exact RT2 e1 @qE)
   ·(exact yO)
   ·(exact yO)
def Ris(x:Wx)(pn pd:Int):Prop:=(∃ t0 t1 t2:Int,Kp (cK x pn pd) t0 t1 t2∧(0≤t0∧0≤t1∧0≤t2∧t0≤24000∧t1≤24000∧t2≤24000)∧runW progG 90 [wA x,.agg [I pn,I pd]] []=some (.tup [.sl 0 0 1 3,.nilsl],[some (.blk true (.cells true [I t0,I t1,I t2]))]))∨Cyc x pn pd (runW progG 90 [wA x,.agg [I pn,I pd]] [])
theorem bAl:Ris x pn pd:=by
 have e3:lV = .scope [2,3,4,5,6,7] 0 a90 b90:=rfl;have st:runW progG 90 [wA x,.agg [I pn,I pd]] []=eX none [(4,none),(5,none)] true 0 (gM 0 (execW progG 90 0 none a90 (e90 x pn pd) (h90 x pn pd)) (execW progG 90 0 none (.again [2,3,4,5,6,7] 0 b90))):=by
  rw[←QI,←e3];rw[gX 90 x90];unfold x90;dsimp only;(exact yO)
 have tab:∀ j:Nat,j≤3→(aW (cK x pn pd) (j+1)).r<0→runW progG 90 [wA x,.agg [I pn,I pd]] []=some (.tup [.sl 0 0 1 3,.nilsl],[some (.blk true (.cells true [I (aW (cK x pn pd) (j+1)).t0,I (aW (cK x pn pd) (j+1)).t1,I (aW (cK x pn pd) (j+1)).t2]))])→Ris x pn pd:=fun j hj hr h=>by
  obtain⟨z0,z1,z2,m0,m1,m2⟩:=aXt (aTI ok hn.1 hd) (j+1);exact .inl ⟨_,_,_,bAT hr,⟨z0,z1,z2,by omega,by omega,by omega⟩,h⟩
 by_cases h1:(aW (cK x pn pd) 1).r<0;·exact tab 0 AM h1 (by rw[st];exact aDZ (bIf ok hn hd h1))
 rw[aQM (bIg ok hn hd AM)]at st;unfold agX at st;by_cases h2:(aW (cK x pn pd) 2).r<0;·exact tab 1 AM h2 (by rw[st];exact aDZ (aOE ok hn hd (j:=1) AM h2))
 have g1:=bCL ok hn hd (j:=1) AM (Int.not_lt.1 h2);rw[show ((1:Nat):Int)=1 from rfl,show ((1+1:Nat):Int)=2 from rfl]at g1;rw[aQM g1]at st;unfold agX at st;by_cases h3:(aW (cK x pn pd) 3).r<0;·exact tab 2 AM h3 (by rw[st];exact aDZ (aOE ok hn hd (j:=2) AM h3))
 have g2:=bCL ok hn hd (j:=2) AM (Int.not_lt.1 h3);rw[show ((2:Nat):Int)=2 from rfl,show ((2+1:Nat):Int)=3 from rfl]at g2;rw[aQM g2]at st;unfold agX at st;by_cases h4:(aW (cK x pn pd) 4).r<0;·exact tab 3 AM h4 (by rw[st];exact aDZ (aOE ok hn hd (j:=3) AM h4))
 obtain⟨l,X,k1,k2,k3,k4⟩:=bDe ok hn hd (Int.not_lt.1 h4);exact .inr ⟨l,X,k1,k2,k3,by rw[st];exact aDZ k4⟩
end
def b48:XCode:=match aHi with | .loop _ a=>a|c=>c
def cyV:Option (List Int)→AV
 | none=>.nilsl
 | some l=>rIl l
def cyF:Option (List Int)→AV
 | none=>.fs []
 | some l=>rIl l
def v48(c:Option (List Int)):List AV:=[.pt 0 0,.pt 1 0,cyV c]
theorem bCR(l:List Int):bM (l.map I) 0 1 l.length=l.map fun v=>[I v]:=rM (f:=I) l []
section
variable{x:Wx}{pn pd qn qd:Int}{l:List Int}{t0 t1 t2:Int}
theorem bFf(c:Option (List Int))(c90:runW progG 90 [wA x,.agg [I pn,I pd]] []=some (.tup [.nilsl,.sl 0 0 1 l.length],[some (.blk true (.cells true (l.map I)))]))(c91:runW progG 91 [wA x,rIl l] []=some (.agg [I qn,I qd],[])) :
 bP 0 [1,2,4] (execW progG 48 0 none b48 (aZ [1,2,4] (v48 c)) (h90 x pn pd))=some (v48 (some l),h90 x qn qd):=by
 have ch:=bCR l;have k8:(l.length*1≤l.length)=True:=AAa;unfold b48 aHi v48;dsimp only;cases c with
 | none =>
   unfold cyV;(exact RT4 c90 c91 ch k8)
 | some l0 =>
   unfold cyV;(exact RT4 c90 c91 ch k8)
theorem bDb(c:Option (List Int))(c90:runW progG 90 [wA x,.agg [I pn,I pd]] []=some (.tup [.sl 0 0 1 3,.nilsl],[some (.blk true (.cells true [I t0,I t1,I t2]))])) :
 reX [(2,some (true,2)),(3,none),(4,none)] false 0 (execW progG 48 0 none b48 (aZ [1,2,4] (v48 c)) (h90 x pn pd))=some (.tup [.agg [I pn,I pd],.fs [[I t0],[I t1],[I t2]],cyF c],[]):=by
 unfold b48 aHi v48;dsimp only;cases c with
 | none =>
   unfold cyV cyF;(exact RT2 c90 @qE)
 | some l0 =>
   unfold cyV cyF;(exact RT2 c90 @qE)
end
def Pac(x:Wx)(pn pd t0 t1 t2:Int):Prop:=(0≤pn∧pn≤1000)∧(1≤pd∧pd≤4)∧Kp (cK x pn pd) t0 t1 t2∧(0≤t0∧0≤t1∧0≤t2∧t0≤24000∧t1≤24000∧t2≤24000)
theorem bGq{x:Wx}(ok:x.Ok):∀(g:Nat)(pn pd:Int)(c:Option (List Int)),0≤pn∧pn≤1000→1≤pd∧pd≤4→grt (X0 x) (X1 x) (X2 x) (pn,pd)≤g →
 ∃(qn qd t0 t1 t2:Int)(c':Option (List Int)),Pac x qn qd t0 t1 t2∧reX [(2,some (true,2)),(3,none),(4,none)] false 0 (lpX progG 48 0 none [1,2,4] b48 (v48 c) (h90 x pn pd))=some (.tup [.agg [I qn,I qd],.fs [[I t0],[I t1],[I t2]],cyF c'],[]):=by
 have d0:0<(X0 x).2:=by show (0:Int)<1;omega
 have d1:0<(X1 x).2:=by have:=ok.b3;show (0:Int)<(x.B3:Int);omega
 have d2:0<(X2 x).2:=by have:=ok.b4;show (0:Int)<(x.B4:Int);omega
 intro g;induction g with
 | zero =>
   intro pn pd c hn hd hg;rcases bAl ok hn hd with ⟨t0,t1,t2,k1,k2,k3⟩|⟨l,X,k1,k2,k3,k4⟩;·exact⟨pn,pd,t0,t1,t2,c,⟨hn,hd,k1,k2⟩,aNI (bDb c k3)⟩
   ·exfalso
    unfold grt at hg;rcases k1 with rfl|rfl|rfl;·rw[if_pos k2]at hg;omega
    ·rw[if_pos k2]at hg;omega
    ·rw[if_pos k2]at hg;omega
 | succ g ih =>
   intro pn pd c hn hd hg;rcases bAl ok hn hd with ⟨t0,t1,t2,k1,k2,k3⟩|⟨l,X,k1,k2,⟨qn,qd,q1,q2,q3,q4,q5,q6⟩,k4⟩;·exact⟨pn,pd,t0,t1,t2,c,⟨hn,hd,k1,k2⟩,aNI (bDb c k3)⟩
   ·have dX:0<X.2:=by rcases k1 with rfl|rfl|rfl<;>assumption
    have hlt:=aSD (p:=(pn,pd)) (q:=(qn,qd)) d0 d1 d2 (by show 0<pd;omega) (by show 0<qd;omega) dX k1 k2 q5;rw[aSt (bFf c k4 q6)];exact ih qn qd (some l) ⟨q1,q2⟩ ⟨q3,q4⟩ AM
theorem bFa{x:Wx}(ok:x.Ok):∃(qn qd t0 t1 t2:Int)(c':Option (List Int)),Pac x qn qd t0 t1 t2∧runW progG 48 [wA x] []=some (.tup [.agg [I qn,I qd],.fs [[I t0],[I t1],[I t2]],cyF c'],[]):=by
 obtain⟨qn,qd,t0,t1,t2,c',hp,h⟩:=bGq ok 3 0 1 none AM AM (by unfold grt;split<;>split<;>split<;>omega);refine⟨qn,qd,t0,t1,t2,c',hp,?_⟩;have e:aHi = .loop [1,2,4] b48:=rfl;rw[gX 48 x48];unfold x48;dsimp only;sym =>
  simp[dM,dN,gT,Za,Zb,Zc,Zd,Ze,Zf,Zh,Zl,Zm,Zo,Zv,Zw,Zz,Z0,ZY,ZZ,Xv,XO,XX,Wf,Wi,Wj,W5,W7,Vb,Ve,Vg,Vp,Vs,V3,V6,V7,V9,VA,VB,VD,VE,VH,VI,VK,VM,VN,VP,VR,VS,VT,VU,VZ,Ua,Uf,UV,UX,UY,Te,Tf,Tg,Th,Ti,Tj,Tm,Tn,Tp,Ts,Tv,T2,T6,TT,TU,TV,TW,TX,TY,Se,Sf,Sg,Si,Sj,Sk,Sw,Sx,SM,SN,SQ,Ra,Rf,Rg,Rm,Ro,Rp,Qa]
  tactic =>
   rw[e,aUe (vs:=v48 none) (H:=h90 x 0 1) ?_];·exact aXs h
   ·unfold v48 cyV
    (exact yO)
theorem aSh{x:Wx}(ok:x.Ok):∃(qn qd t0 t1 t2:Int),Pac x qn qd t0 t1 t2∧runW progG 16 [wA x] []=some (.tup [.agg [I qn,I qd],I 0],[])∧runW progG 17 [wA x] []=some (.tup [.fs [[I t0],[I t1],[I t2]],I 0],[]):=by
 obtain⟨qn,qd,t0,t1,t2,c',hp,h⟩:=bFa ok;have c42:=bAn ok;refine⟨qn,qd,t0,t1,t2,hp,?_,?_⟩
 ·cases c' with
  | none =>
    unfold cyF at h;rw[gX 16 x16];unfold x16;dsimp only;(exact RT2 c42 h)
  | some l =>
    unfold cyF at h;rw[gX 16 x16];unfold x16;dsimp only;(exact RT2 c42 h)
 ·cases c' with
  | none =>
    unfold cyF at h;rw[gX 17 x17];unfold x17;dsimp only;(exact RT2 c42 h)
  | some l =>
    unfold cyF at h;rw[gX 17 x17];unfold x17;dsimp only;(exact RT2 c42 h)
def rw3(a b:R3):AV:=.fs [[I a.1,I b.1],[I a.2.1,I b.2.1],[I a.2.2,I b.2.2]]
def lW(x:Wx):Tkw:=⟨x.c1,x.a1,x.b1,x.d1⟩
def hW(x:Wx):Tkw:=⟨x.c2,x.a2,x.b2,x.d2⟩
def rwV(x:Wx)(s:Nat):AV:=rw3 (eE (lW x) x.B3 x.B4 s) (eE (hW x) x.B3 x.B4 s)
def rQ(x:Wx):Nat→List AV
 | 0=>[.nilsl,.nilsl,.nilsl,.nilsl,.nilsl]
 | s+1=>(rQ x s).set (s%5) (rwV x s)
def rR(x:Wx)(s:Nat):List AV:=rQ x s++[I (s:Nat)]
def rG(x:Wx)(s:Nat)(v:AV):List AV:=(rQ x s).set (s%5) v++[I (s+1:Nat)]
section
variable{x:Wx}
theorem kL:∀ s,(rQ x s).length=5
 | 0=>rfl
 | s+1=>by rw[rQ,D6,kL s]
theorem aJn:∀(s:Nat)(v:AV),v∈rQ x s→v = .nilsl∨∃ t,v=rwV x t
 | 0,v,h=>by
   have:v = .nilsl:=by simpa [rQ]using h
   exact .inl this
 | s+1,v,h=>by
   rw[rQ]at h;rcases aF0 h with h|rfl;·exact aJn s v h
   ·exact .inr ⟨s,rfl⟩
theorem aTS:∀{s t:Nat},t<s→s≤t+5→(rQ x s)[t%5]?=some (rwV x t)
 | s+1,t,h1,h2=>by
   rw[rQ];by_cases ht:t=s
   ·subst ht
    rw[aC4 (by rw[kL];exact I3 _ (by decide))]
   ·rw[aA6 AM,aTS AM AM]
theorem aKC(s:Nat)(v:AV):∃ a b:List AV,rG x s v=a++v::b∧(∀ u∈a++b,u = .nilsl∨(∃ t,u=rwV x t)∨∃ n,u=I n)∧∀ w,rG x s w=a++w::b:=by
 have hl:=kL (x:=x) s;have hp:s%5<5:=I3 _ (by decide);refine⟨(rQ x s).take (s%5),(rQ x s).drop (s%5+1)++[I (s+1:Nat)],?_,?_,?_⟩;·unfold rG;rw[I6,if_pos AM,I8];rfl
 ·intro u hu
  have:u∈rQ x s∨u=I (s+1:Nat):=by
   rcases B7.1 hu with h|h;·exact .inl (O1 h)
   ·rcases B7.1 h with h|h
    ·exact .inl (aA5 h)
    ·exact .inr (C6.1 h)
  rcases this with h|h
  ·rcases aJn s u h with h|h
   ·exact .inl h
   ·exact .inr (.inl h)
  ·exact .inr (.inr ⟨_,h⟩)
 ·intro w;unfold rG;rw[I6,if_pos AM,I8];rfl
theorem bCH{u:AV}(h:u = .nilsl∨(∃ t,u=rwV x t)∨∃ n,u=I n):jD u=true∧kC u=[]∧slN u=[]∧(∀ σ,rnA σ u=u)∧∀ b cs,sH b cs u=u:=by
 rcases h with rfl|⟨t,rfl⟩|⟨n,rfl⟩;·exact⟨rfl,rfl,rfl,fun _=>rfl,fun _ _=>rfl⟩
 ·exact⟨rfl,rfl,rfl,fun _=>rfl,fun _ _=>rfl⟩
 ·exact⟨rfl,rfl,rfl,fun _=>rfl,fun _ _=>rfl⟩
theorem aWa(a b:List AV):kB (a++b)=kB a++kB b:=by
 induction a with
 | nil=>rfl
 | cons v a ih=>rw[H9,kB,kB,ih,I8]
theorem aVm(a b:List AV):xM (a++b)=xM a++xM b:=by
 induction a with
 | nil=>rfl
 | cons v a ih=>rw[H9,xM,xM,ih,I8]
theorem aRU(σ:Nat→Option Nat)(a b:List AV):kD σ (a++b)=kD σ a++kD σ b:=by
 induction a with
 | nil=>rfl
 | cons v a ih=>rw[H9,kD,kD,ih];rfl
theorem aSI(n:Nat)(cs a b:List AV):sG n cs (a++b)=sG n cs a++sG n cs b:=by
 induction a with
 | nil=>rfl
 | cons v a ih=>rw[H9,sG,sG,ih];rfl
theorem rA{l:List AV}(h:∀ u∈l,u = .nilsl∨(∃ t,u=rwV x t)∨∃ n,u=I n):kY l=true∧kB l=[]∧xM l=[]∧(∀ σ,kD σ l=l)∧∀ b cs,sG b cs l=l:=by
 induction l with
 | nil=>exact⟨rfl,rfl,rfl,fun _=>rfl,fun _ _=>rfl⟩
 | cons u l ih =>
   obtain⟨a1,a2,a3,a4,a5⟩:=bCH (h u (by simp));obtain⟨b1,b2,b3,b4,b5⟩:=ih fun v hv=>h v (E7 _ hv);refine⟨by rw[kY,a1,b1];rfl,by rw[kB,a2,b2];rfl,by rw[xM,a3,b3];rfl,fun σ=>by rw[kD,a4,b4],fun b cs=>by rw[sG,a5,b5]⟩
theorem iN(σ:Nat→Option Nat)(s:Nat)(v:AV):kD σ (rG x s v)=rG x s (rnA σ v):=by
 obtain⟨a,b,e,hm,hw⟩:=aKC (x:=x) s v;obtain⟨_,_,_,i1,_⟩:=rA (x:=x) (l:=a) fun u hu=>hm u (F7 _ hu);obtain⟨_,_,_,i2,_⟩:=rA (x:=x) (l:=b) fun u hu=>hm u (G9 _ hu);rw[hw,hw (rnA σ v),aRU,kD,i1,i2]
theorem iO(s:Nat)(v:AV):kB (rG x s v)=kC v:=by
 obtain⟨a,b,e,hm,hw⟩:=aKC (x:=x) s v;obtain⟨_,i1,_⟩:=rA (x:=x) (l:=a) fun u hu=>hm u (F7 _ hu);obtain⟨_,i2,_⟩:=rA (x:=x) (l:=b) fun u hu=>hm u (G9 _ hu);rw[hw,aWa,kB,i1,i2,G6,I2]
theorem iM(s:Nat)(v:AV):xM (rG x s v)=slN v:=by
 obtain⟨a,b,e,hm,hw⟩:=aKC (x:=x) s v;obtain⟨_,_,i1,_⟩:=rA (x:=x) (l:=a) fun u hu=>hm u (F7 _ hu);obtain⟨_,_,i2,_⟩:=rA (x:=x) (l:=b) fun u hu=>hm u (G9 _ hu);rw[hw,aVm,xM,i1,i2,G6,I2]
theorem oS(n:Nat)(cs:List AV)(s:Nat)(v:AV):sG n cs (rG x s v)=rG x s (sH n cs v):=by
 obtain⟨a,b,e,hm,hw⟩:=aKC (x:=x) s v;obtain⟨_,_,_,_,i1⟩:=rA (x:=x) (l:=a) fun u hu=>hm u (F7 _ hu);obtain⟨_,_,_,_,i2⟩:=rA (x:=x) (l:=b) fun u hu=>hm u (G9 _ hu);rw[hw,hw (sH n cs v),aSI,sG,i1,i2]
theorem aTR(s:Nat):kY (rR x s)=true:=by
 refine(rA (x:=x) fun u hu=>?_).1;rcases B7.1 hu with h|h
 ·rcases aJn s u h with h|h
  ·exact .inl h
  ·exact .inr (.inl h)
 ·exact .inr (.inr ⟨_,C6.1 h⟩)
theorem iP(s:Nat)(v:AV):(rG x s v).length=6:=by unfold rG;rw[C9,D6,kL];rfl
theorem aOJ(s:Nat):(rR x s).length=6:=by unfold rR;rw[C9,kL];rfl
theorem iQ(s:Nat)(v:AV):(rG x s v)[5]?=some (I (s+1:Nat)):=by
 unfold rG;rw[G5 (by rw[D6,kL];exact A6 _),D6,kL];rfl
theorem bES(s:Nat):(rR x s)[5]?=some (I (s:Nat)):=by
 unfold rR;rw[G5 (by rw[kL];exact A6 _),kL];rfl
theorem iJ(s:Nat)(v:AV):(rG x s v)[s%5]?=some v:=by
 have hp:s%5<5:=I3 _ (by decide);unfold rG;rw[I5 (by rw[D6,kL];exact hp),aC4 (by rw[kL];exact hp)]
theorem bET{s k:Nat}(v:AV)(h1:1≤k)(h2:k≤s)(h4:k≤4):(rG x s v)[(s-k)%5]?=some (rwV x (s-k)):=by
 have hp:(s-k)%5<5:=I3 _ (by decide);unfold rG;rw[I5 (by rw[D6,kL];exact hp),aA6 AM,aTS AM AM]
theorem aCj{cs:List AV}{p:Nat}{v:AV}(h:p<cs.length):bG cs p [v]=cs.set p v:=by
 unfold bG;rw[I6,if_pos h,I8];rfl
theorem aVG(s:Nat)(v:AV):bG (bG (rR x s) (s%5) [v]) 5 [I (s+1:Nat)]=rG x s v∧(bG (rR x s) (s%5) [v])[5]?=some (I (s:Nat))∧(bG (rR x s) (s%5) [v]).length=6:=by
 have hp:s%5<5:=I3 _ (by decide);have e:bG (rR x s) (s%5) [v]=(rQ x s).set (s%5) v++[I (s:Nat)]:=by
  rw[aCj (by rw[aOJ];omega)];unfold rR;rw[List.set_append_left (h:=by rw[kL];exact hp)]
 have l:((rQ x s).set (s%5) v).length=5:=by rw[D6,kL]
 rw[e];refine⟨?_,?_,by rw[C9,l];rfl⟩
 ·rw[aCj (by rw[C9,l];exact Nat.lt_succ_self 5),aA2 (h:=by rw[l];exact A6 _),l]
  rfl
 ·rw[G5 (by rw[l];exact A6 _),l];rfl
end
section
variable{x:Wx}{s:Nat}
abbrev wN(l:List AV):Option XB:=some (.blk true (.cells true l))
theorem a45{N:List AV}(hs:s<1000):runW progG 45 [.pt 0 0,.sl 1 0 2 3] [wN (rR x s),wN N]=some (.tup [],[some (.blk false (.cells true (rG x s (.sl 1 0 2 3)))),wN N]):=by
 obtain⟨r1,r2,r3⟩:=aVG (x:=x) s (.sl 1 0 2 3);have l0:=aOJ (x:=x) s;have l5:=bES (x:=x) s;have e1:wP (s:Int) 5=((s%5:Nat):Int):=gY s 5;have e2:IntKind.i64.wrap ((s:Int)+1)=((s+1:Nat):Int):=by rw[aE AM AM];omega
 have hp:s%5<5:=I3 _ (by decide);generalize rR x s=R0 at *;generalize hR1:bG R0 (s%5) [.sl 1 0 2 3]=R1 at *;generalize s%5=p at *;have t1:((p:Int)<5)=True:=AAa;have t2:(p+1≤6)=True:=AAa;have t3:(0≤(p:Int))=True:=AAa;rw[gX 45 x45];unfold x45;dsimp only;(exact aEF e1 e2 l0 l5 r1 r2 r3 hR1 t1 t2 t3 @iN @iO @iM @iP @iQ @iJ aG aG aG)
end
abbrev gB(x:Wx)(s b:Nat):Option XB:=some (.blk false (.cells true (rG x s (.sl b 0 2 3))))
section
variable{x:Wx}{s:Nat}(hs:s<1000){N:List AV}
include hs
theorem aUp:runW progG 47 [.pt 0 0,I 0] [gB x s 1,wN N]=some (.tup [.sl 1 0 2 3,.bool true],[gB x s 1,wN N]):=by
 have e1:wP (s:Int) 5=((s%5:Nat):Int):=gY s 5;have e2:IntKind.i64.wrap (((s+1:Nat):Int)-1)=(s:Int):=by rw[aE AM AM];omega
 have e3:IntKind.i64.wrap ((s:Int)-0)=(s:Int):=by rw[aE AM AM];omega
 have hp:s%5<5:=I3 _ (by decide);have gp:=iJ (x:=x) s (.sl 1 0 2 3);have t0:(((s+1:Nat):Int)≤0)=False:=AAb;generalize s%5=p at *;have t1:((p:Int)<5)=True:=AAa;rw[gX 47 x47];unfold x47;dsimp only;(exact aEa e1 e2 e3 gp t0 t1 @iN @iO @iM @iP @iQ @iJ aG)
theorem aQN{k:Nat}(h1:1≤k)(h2:k≤s)(h4:k≤4):runW progG 47 [.pt 0 0,I (k:Nat)] [gB x s 1,wN N]=some (.tup [rwV x (s-k),.bool true],[gB x s 1,wN N]):=by
 have e1:wP ((s-k:Nat):Int) 5=(((s-k)%5:Nat):Int):=gY (s-k) 5;have e2:IntKind.i64.wrap (((s+1:Nat):Int)-1)=(s:Int):=by rw[aE AM AM];omega
 have e3:IntKind.i64.wrap ((s:Int)-(k:Int))=((s-k:Nat):Int):=by rw[aE AM AM];omega
 have hp:(s-k)%5<5:=I3 _ (by decide);have gp:=bET (x:=x) (.sl 1 0 2 3) h1 h2 h4;have t0:(((s+1:Nat):Int)≤(k:Int))=False:=AAb;unfold rwV rw3 at *;generalize (s-k)%5=p at *;generalize s-k=u at *;have t1:((p:Int)<5)=True:=AAa;rw[gX 47 x47];unfold x47;dsimp only;(exact aEa e1 e2 e3 gp t0 t1 @iN @iO @iM @iP @iQ @iJ aG)
theorem bDq{k:Nat}(h2:s<k):runW progG 47 [.pt 0 0,I (k:Nat)] [gB x s 1,wN N]=some (.tup [.nilsl,.bool false],[gB x s 1,wN N]):=by
 have t0:(((s+1:Nat):Int)≤(k:Int))=True:=AAa;rw[gX 47 x47];unfold x47;dsimp only;(exact RT7 t0 @iN @iO @iM @iP @iQ @iJ)
end
theorem aMc{x:Wx}(t:Int):runW progG 46 [wA x,I t] []=some (.fn (.func 89) [] [.pt 0 0,.pt 1 0],[wN [I 3,.fs (rW x)],wN [I t]]):=by
 rw[gX 46 x46];unfold x46;dsimp only;(exact RT7 @iN @iO @iM @iP @iQ @iJ aG)
abbrev yH(x:Wx)(s:Nat)(N:List AV)(t:Int):XH:=[some (.loop 15 0 [.pt 1 0,.pt 3 0,.pt 4 0] .ready),gB x s 2,wN N,some (.blk false (.cells true [.sl 2 0 2 3])),wN [I t]]
section
variable{x:Wx}{s:Nat}(hs:s<1000){l0 u0 l1 u1 l2 u2:Int}
include hs
theorem y_n{f t lo hi i:Int}{k:Nat}(hk:s<k):runYW progG (.fn (.yield 0) [] []) [I i,.agg [I f,I t,I lo,I hi,I (k:Nat)]] (yH x s [I l0,I u0,I l1,I u1,I l2,I u2] t)=some (.bool true,yH x s [I l0,I u0,I l1,I u1,I l2,I u2] t):=by
 have c:=bDq (x:=x) hs (N:=[I l0,I u0,I l1,I u1,I l2,I u2]) hk;rw[kK (K:=15) (d:=x15) (site:=0) (vs:=[.pt 1 0,.pt 3 0,.pt 4 0]) rfl rfl (by rfl) rfl];(exact RT7 c @iN @iO @iM @iP @iQ @iJ)
theorem bDz{lo hi i L U:Int}(hL:IntKind.i64.wrap (l0+lo)=L)(hU:IntKind.i64.wrap (u0+hi)=U):runYW progG (.fn (.yield 0) [] []) [I i,.agg [I 0,I 1,I lo,I hi,I 0]] (yH x s [I l0,I u0,I l1,I u1,I l2,I u2] 1)=some (.bool true,yH x s [I l0,I u0,I (if l1<L then L else l1),I (if u1<U then U else u1),I l2,I u2] 1):=by
 have c:=aUp (x:=x) hs (N:=[I l0,I u0,I l1,I u1,I l2,I u2]);rw[kK (K:=15) (d:=x15) (site:=0) (vs:=[.pt 1 0,.pt 3 0,.pt 4 0]) rfl rfl (by rfl) rfl];(exact RT9 c hL hU @iN @iO @iM @iP @iQ @iJ)
theorem bDy{lo hi i L U:Int}(hL:IntKind.i64.wrap (l1+lo)=L)(hU:IntKind.i64.wrap (u1+hi)=U):runYW progG (.fn (.yield 0) [] []) [I i,.agg [I 1,I 2,I lo,I hi,I 0]] (yH x s [I l0,I u0,I l1,I u1,I l2,I u2] 2)=some (.bool true,yH x s [I l0,I u0,I l1,I u1,I (if l2<L then L else l2),I (if u2<U then U else u2)] 2):=by
 have c:=aUp (x:=x) hs (N:=[I l0,I u0,I l1,I u1,I l2,I u2]);rw[kK (K:=15) (d:=x15) (site:=0) (vs:=[.pt 1 0,.pt 3 0,.pt 4 0]) rfl rfl (by rfl) rfl];(exact RT9 c hL hU @iN @iO @iM @iP @iQ @iJ)
theorem aXG{lo hi i L U:Int}{k:Nat}(h1:1≤k)(h2:k≤s)(h4:k≤4)(hL:IntKind.i64.wrap ((eE (lW x) x.B3 x.B4 (s-k)).1+lo)=L)(hU:IntKind.i64.wrap ((eE (hW x) x.B3 x.B4 (s-k)).1+hi)=U):runYW progG (.fn (.yield 0) [] []) [I i,.agg [I 0,I 0,I lo,I hi,I (k:Nat)]] (yH x s [I l0,I u0,I l1,I u1,I l2,I u2] 0)=some (.bool true,yH x s [I (if l0<L then L else l0),I (if u0<U then U else u0),I l1,I u1,I l2,I u2] 0):=by
 have c:=aQN (x:=x) hs (N:=[I l0,I u0,I l1,I u1,I l2,I u2]) h1 h2 h4;unfold rwV rw3 at c;generalize eE (lW x) x.B3 x.B4 (s-k)=A at *;generalize eE (hW x) x.B3 x.B4 (s-k)=B at *;obtain⟨A0,A1,A2⟩:=A;obtain⟨B0,B1,B2⟩:=B;dsimp only at c hL hU;rw[kK (K:=15) (d:=x15) (site:=0) (vs:=[.pt 1 0,.pt 3 0,.pt 4 0]) rfl rfl (by rfl) rfl];(exact RT9 c hL hU @iN @iO @iM @iP @iQ @iJ)
theorem aXE{lo hi i L U:Int}{k:Nat}(h1:1≤k)(h2:k≤s)(h4:k≤4)(hL:IntKind.i64.wrap ((eE (lW x) x.B3 x.B4 (s-k)).2.2+lo)=L)(hU:IntKind.i64.wrap ((eE (hW x) x.B3 x.B4 (s-k)).2.2+hi)=U):runYW progG (.fn (.yield 0) [] []) [I i,.agg [I 2,I 1,I lo,I hi,I (k:Nat)]] (yH x s [I l0,I u0,I l1,I u1,I l2,I u2] 1)=some (.bool true,yH x s [I l0,I u0,I (if l1<L then L else l1),I (if u1<U then U else u1),I l2,I u2] 1):=by
 have c:=aQN (x:=x) hs (N:=[I l0,I u0,I l1,I u1,I l2,I u2]) h1 h2 h4;unfold rwV rw3 at c;generalize eE (lW x) x.B3 x.B4 (s-k)=A at *;generalize eE (hW x) x.B3 x.B4 (s-k)=B at *;obtain⟨A0,A1,A2⟩:=A;obtain⟨B0,B1,B2⟩:=B;dsimp only at c hL hU;rw[kK (K:=15) (d:=x15) (site:=0) (vs:=[.pt 1 0,.pt 3 0,.pt 4 0]) rfl rfl (by rfl) rfl];(exact RT9 c hL hU @iN @iO @iM @iP @iQ @iJ)
theorem aXF{lo hi i L U:Int}{k:Nat}(h1:1≤k)(h2:k≤s)(h4:k≤4)(hL:IntKind.i64.wrap ((eE (lW x) x.B3 x.B4 (s-k)).2.2+lo)=L)(hU:IntKind.i64.wrap ((eE (hW x) x.B3 x.B4 (s-k)).2.2+hi)=U):runYW progG (.fn (.yield 0) [] []) [I i,.agg [I 2,I 0,I lo,I hi,I (k:Nat)]] (yH x s [I l0,I u0,I l1,I u1,I l2,I u2] 0)=some (.bool true,yH x s [I (if l0<L then L else l0),I (if u0<U then U else u0),I l1,I u1,I l2,I u2] 0):=by
 have c:=aQN (x:=x) hs (N:=[I l0,I u0,I l1,I u1,I l2,I u2]) h1 h2 h4;unfold rwV rw3 at c;generalize eE (lW x) x.B3 x.B4 (s-k)=A at *;generalize eE (hW x) x.B3 x.B4 (s-k)=B at *;obtain⟨A0,A1,A2⟩:=A;obtain⟨B0,B1,B2⟩:=B;dsimp only at c hL hU;rw[kK (K:=15) (d:=x15) (site:=0) (vs:=[.pt 1 0,.pt 3 0,.pt 4 0]) rfl rfl (by rfl) rfl];(exact RT9 c hL hU @iN @iO @iM @iP @iQ @iJ)
end
section
variable{x:Wx}{s:Nat}
theorem xD(a b:Int):(if a<b then b else a)=max a b:=by split<;>omega
theorem aIw(ok:x.Ok)(hs:s≤25):(0≤(eE (lW x) x.B3 x.B4 s).1∧(eE (lW x) x.B3 x.B4 s).1≤23400)∧(0≤(eE (lW x) x.B3 x.B4 s).2.1∧(eE (lW x) x.B3 x.B4 s).2.1≤23400)∧(0≤(eE (lW x) x.B3 x.B4 s).2.2∧(eE (lW x) x.B3 x.B4 s).2.2≤23400) ∧
 (0≤(eE (hW x) x.B3 x.B4 s).1∧(eE (hW x) x.B3 x.B4 s).1≤23400)∧(0≤(eE (hW x) x.B3 x.B4 s).2.1∧(eE (hW x) x.B3 x.B4 s).2.1≤23400)∧(0≤(eE (hW x) x.B3 x.B4 s).2.2∧(eE (hW x) x.B3 x.B4 s).2.2≤23400):=by
 obtain⟨⟨c1,c2,c3⟩,⟨a1,a2,a3⟩,⟨b1,b2,b3⟩,⟨d1,d2,d3⟩,h3,h4⟩:=ok;have p:=aUj (x:=lW x) (B3:=x.B3) (B4:=x.B4) s;have q:=aUj (x:=hW x) (B3:=x.B3) (B4:=x.B4) s;have p':=aUk (x:=lW x) (B3:=x.B3) (B4:=x.B4) (m:=300) AM AM AM (by show x.c1≤300;omega) (by show x.a1≤300;omega) (by show x.b1≤300;omega) (by show x.d1≤300;omega) s;have q':=aUk (x:=hW x) (B3:=x.B3) (B4:=x.B4) (m:=300) AM AM AM c3 a3 b3 d3 s;omega
variable{l0 u0 l1 u1 l2 u2 i lo hi:Int}
theorem Y00(ok:x.Ok)(hs:s≤25)(hlo:0≤lo∧lo≤300)(hhi:0≤hi∧hi≤300){k:Nat}(h1:1≤k)(h4:k≤4):runYW progG (.fn (.yield 0) [] []) [I i,.agg [I 0,I 0,I lo,I hi,I (k:Nat)]] (yH x s [I l0,I u0,I l1,I u1,I l2,I u2] 0)=some (.bool true,yH x s [I (opE l0 ((bkR (fQ (lW x) x.B3 x.B4 s) k).map (·.1)) lo),I (opE u0 ((bkR (fQ (hW x) x.B3 x.B4 s) k).map (·.1)) hi),I l1,I u1,I l2,I u2] 0):=by
 rw[mI AM,mI AM];by_cases hk:k≤s
 ·obtain⟨b1,b2,b3,b4,b5,b6⟩:=aIw ok (s:=s-k) AM
  rw[if_pos hk,if_pos hk];rw[aXG AM h1 hk h4 (aE AM AM) (aE AM AM),xD,xD];rfl
 ·rw[if_neg hk,if_neg hk]
  exact y_n AM AM
theorem Y21(ok:x.Ok)(hs:s≤25)(hlo:0≤lo∧lo≤300)(hhi:0≤hi∧hi≤300){k:Nat}(h1:1≤k)(h4:k≤4):runYW progG (.fn (.yield 0) [] []) [I i,.agg [I 2,I 1,I lo,I hi,I (k:Nat)]] (yH x s [I l0,I u0,I l1,I u1,I l2,I u2] 1)=some (.bool true,yH x s [I l0,I u0,I (opE l1 ((bkR (fQ (lW x) x.B3 x.B4 s) k).map (·.2.2)) lo),I (opE u1 ((bkR (fQ (hW x) x.B3 x.B4 s) k).map (·.2.2)) hi),I l2,I u2] 1):=by
 rw[mI AM,mI AM];by_cases hk:k≤s
 ·obtain⟨b1,b2,b3,b4,b5,b6⟩:=aIw ok (s:=s-k) AM
  rw[if_pos hk,if_pos hk];rw[aXE AM h1 hk h4 (aE AM AM) (aE AM AM),xD,xD];rfl
 ·rw[if_neg hk,if_neg hk]
  exact y_n AM AM
theorem Y20(ok:x.Ok)(hs:s≤25)(hlo:0≤lo∧lo≤300)(hhi:0≤hi∧hi≤300){k:Nat}(h1:1≤k)(h4:k≤4):runYW progG (.fn (.yield 0) [] []) [I i,.agg [I 2,I 0,I lo,I hi,I (k:Nat)]] (yH x s [I l0,I u0,I l1,I u1,I l2,I u2] 0)=some (.bool true,yH x s [I (opE l0 ((bkR (fQ (lW x) x.B3 x.B4 s) k).map (·.2.2)) lo),I (opE u0 ((bkR (fQ (hW x) x.B3 x.B4 s) k).map (·.2.2)) hi),I l1,I u1,I l2,I u2] 0):=by
 rw[mI AM,mI AM];by_cases hk:k≤s
 ·obtain⟨b1,b2,b3,b4,b5,b6⟩:=aIw ok (s:=s-k) AM
  rw[if_pos hk,if_pos hk];rw[aXF AM h1 hk h4 (aE AM AM) (aE AM AM),xD,xD];rfl
 ·rw[if_neg hk,if_neg hk]
  exact y_n AM AM
theorem Y01(hs:s≤25)(hl:0≤l0∧l0≤100000)(hu:0≤u0∧u0≤100000)(hlo:0≤lo∧lo≤300)(hhi:0≤hi∧hi≤300):runYW progG (.fn (.yield 0) [] []) [I i,.agg [I 0,I 1,I lo,I hi,I 0]] (yH x s [I l0,I u0,I l1,I u1,I l2,I u2] 1)=some (.bool true,yH x s [I l0,I u0,I (opE l1 (some l0) lo),I (opE u1 (some u0) hi),I l2,I u2] 1):=by
 rw[bDz AM (aE AM AM) (aE AM AM),xD,xD];rfl
theorem Y12(hs:s≤25)(hl:0≤l1∧l1≤100000)(hu:0≤u1∧u1≤100000)(hlo:0≤lo∧lo≤300)(hhi:0≤hi∧hi≤300):runYW progG (.fn (.yield 0) [] []) [I i,.agg [I 1,I 2,I lo,I hi,I 0]] (yH x s [I l0,I u0,I l1,I u1,I l2,I u2] 2)=some (.bool true,yH x s [I l0,I u0,I l1,I u1,I (opE l2 (some l1) lo),I (opE u2 (some u1) hi)] 2):=by
 rw[bDy AM (aE AM AM) (aE AM AM),xD,xD];rfl
abbrev zH(x:Wx)(s:Nat)(N:List AV)(t:Int):XH:=[some (.loop 15 0 [.pt 1 0,.pt 3 0,.pt 4 0] .ready),gB x s 2,wN N,some (.blk false (.cells true [.sl 2 0 2 3])),wN [I t],wN [I 3,.fs (rW x)],wN [I t]]
variable{Na Nb Nc:List AV}
theorem aZa(y1:runYW progG (.fn (.yield 0) [] []) [I 0,.agg [I 0,I 0,I x.c1,I x.c2,I 1]] (yH x s Na 0)=some (.bool true,yH x s Nb 0))(y2:runYW progG (.fn (.yield 0) [] []) [I 4,.agg [I 2,I 0,I x.d1,I x.d2,I (x.B4:Nat)]] (yH x s Nb 0)=some (.bool true,yH x s Nc 0)) :
 runW progG 89 [.fn (.yield 0) [] [],.pt 5 0,.pt 6 0] (zH x s Na 0)=some (.tup [],zH x s Nc 0):=by
 rw[gX 89 x89];unfold x89 aKi;dsimp only;(exact aTn @dA y1 y2 @iN @iO @iM @iP @iQ @iJ @oS)
theorem aYZ(y1:runYW progG (.fn (.yield 0) [] []) [I 1,.agg [I 0,I 1,I x.c1,I x.c2,I 0]] (yH x s Na 1)=some (.bool true,yH x s Nb 1))(y2:runYW progG (.fn (.yield 0) [] []) [I 3,.agg [I 2,I 1,I x.b1,I x.b2,I (x.B3:Nat)]] (yH x s Nb 1)=some (.bool true,yH x s Nc 1)) :
 runW progG 89 [.fn (.yield 0) [] [],.pt 5 0,.pt 6 0] (zH x s Na 1)=some (.tup [],zH x s Nc 1):=by
 rw[gX 89 x89];unfold x89 aKi;dsimp only;(exact aTn @dA y1 y2 @iN @iO @iM @iP @iQ @iJ @oS)
theorem aYY(y1:runYW progG (.fn (.yield 0) [] []) [I 2,.agg [I 1,I 2,I x.a1,I x.a2,I 0]] (yH x s Na 2)=some (.bool true,yH x s Nb 2)) :
 runW progG 89 [.fn (.yield 0) [] [],.pt 5 0,.pt 6 0] (zH x s Na 2)=some (.tup [],zH x s Nb 2):=by
 rw[gX 89 x89];unfold x89 aKi;dsimp only;(exact RT9 @dA y1 @iN @iO @iM @iP @iQ @iJ @oS)
end
abbrev aPd:AV:=.fs [[I 0],[I 1],[I 2]]
def aAF(x:Wx)(s:Nat):List AV:=(List.range s).map (rwV x)
def sO(s:Nat):AV:=match s with
 | 0=>.nilsl
 | s+1=>.sl 2 0 1 (s+1)
def gO(x:Wx)(s:Nat):XH:=match s with
 | 0=>[wN [I 3,.fs (rW x)],wN (rR x 0)]
 | s+1=>[wN [I 3,.fs (rW x)],wN (rR x (s+1)),wN (aAF x (s+1))]
def sI(s:Nat):AV:=match s with
 | 0=>.nilsl
 | s+1=>.sl 3 0 1 (s+1)
def gI(x:Wx)(s:Nat)(N:List AV):XH:=match s with
 | 0=>[wN [I 3,.fs (rW x)],gB x 0 2,wN N,some (.blk false (.cells true [.sl 2 0 2 3]))]
 | s+1=>[wN [I 3,.fs (rW x)],gB x (s+1) 2,wN N,wN (aAF x (s+1)),some (.blk false (.cells true [.sl 2 0 2 3]))]
def pI(s:Nat):AV:=match s with
 | 0=>.pt 3 0
 | _+1=>.pt 4 0
def vI(s:Nat)(n i:Int):List AV:=[.pt 0 0,.nilsl,I 0,aPd,.pt 1 0,sI s,pI s,I n,I (s:Nat),aPd,I 3,I i]
theorem aZL:sO 0 = .nilsl:=rfl
theorem aOo(s:Nat):sO (s+1) = .sl 2 0 1 (s+1):=rfl
theorem bCP(x:Wx):gO x 0=[wN [I 3,.fs (rW x)],wN (rR x 0)]:=rfl
theorem aPP(x:Wx)(s:Nat):gO x (s+1)=[wN [I 3,.fs (rW x)],wN (rR x (s+1)),wN (aAF x (s+1))]:=rfl
section
variable{x:Wx}{s:Nat}{n:Int}{Na Nb:List AV}
theorem bHW(t:Nat)(ht:t<3)(hw:runW progG 89 [.fn (.yield 0) [] [],.pt 5 0,.pt 6 0] (zH x s Na t)=some (.tup [],zH x s Nb t)) :
 bP 0 [2,4,5,7,9,10,11,32,33,40,41,42] (execW progG 15 0 none (match aEJ with | .loop _ a=>a|c=>c) (aZ [2,4,5,7,9,10,11,32,33,40,41,42] (vI s n (t:Nat))) (gI x s Na))=some (vI s n (t+1:Nat),gI x s Nb):=by
 unfold aEJ;dsimp only;cases s with
 | zero =>
   unfold vI gI sI pI;rcases (by omega:t=0∨t=1∨t=2)with rfl|rfl|rfl
   ·have c:=aMc (x:=x) 0
    have hw:runW progG 89 [.fn (.yield 0) [] [],.pt 5 0,.pt 6 0] (zH x 0 Na 0)=some (.tup [],zH x 0 Nb 0):=hw;(exact RT9 c hw @iN @iO @iM @iP @iQ @iJ @oS)
   ·have c:=aMc (x:=x) 1
    have hw:runW progG 89 [.fn (.yield 0) [] [],.pt 5 0,.pt 6 0] (zH x 0 Na 1)=some (.tup [],zH x 0 Nb 1):=hw;(exact RT9 c hw @iN @iO @iM @iP @iQ @iJ @oS)
   ·have c:=aMc (x:=x) 2
    have hw:runW progG 89 [.fn (.yield 0) [] [],.pt 5 0,.pt 6 0] (zH x 0 Na 2)=some (.tup [],zH x 0 Nb 2):=hw;(exact RT9 c hw @iN @iO @iM @iP @iQ @iJ @oS)
 | succ s =>
   unfold vI gI sI pI;generalize aAF x (s+1)=O at *;rcases (by omega:t=0∨t=1∨t=2)with rfl|rfl|rfl
   ·have c:=aMc (x:=x) 0
    have hw:runW progG 89 [.fn (.yield 0) [] [],.pt 5 0,.pt 6 0] (zH x (s+1) Na 0)=some (.tup [],zH x (s+1) Nb 0):=hw;(exact RT9 c hw @iN @iO @iM @iP @iQ @iJ @oS)
   ·have c:=aMc (x:=x) 1
    have hw:runW progG 89 [.fn (.yield 0) [] [],.pt 5 0,.pt 6 0] (zH x (s+1) Na 1)=some (.tup [],zH x (s+1) Nb 1):=hw;(exact RT9 c hw @iN @iO @iM @iP @iQ @iJ @oS)
   ·have c:=aMc (x:=x) 2
    have hw:runW progG 89 [.fn (.yield 0) [] [],.pt 5 0,.pt 6 0] (zH x (s+1) Na 2)=some (.tup [],zH x (s+1) Nb 2):=hw;(exact RT9 c hw @iN @iO @iM @iP @iQ @iJ @oS)
end
def stN(x:Wx)(s:Nat):Nat→List AV
 | 0=>[I 0,I 0,I 0,I 0,I 0,I 0]
 | 1=>[I (eE (lW x) x.B3 x.B4 s).1,I (eE (hW x) x.B3 x.B4 s).1,I 0,I 0,I 0,I 0]
 | 2=>[I (eE (lW x) x.B3 x.B4 s).1,I (eE (hW x) x.B3 x.B4 s).1,I (eE (lW x) x.B3 x.B4 s).2.1,I (eE (hW x) x.B3 x.B4 s).2.1,I 0,I 0]
 | _=>[I (eE (lW x) x.B3 x.B4 s).1,I (eE (hW x) x.B3 x.B4 s).1,I (eE (lW x) x.B3 x.B4 s).2.1,I (eE (hW x) x.B3 x.B4 s).2.1,I (eE (lW x) x.B3 x.B4 s).2.2,I (eE (hW x) x.B3 x.B4 s).2.2]
theorem aZF(x:Wx)(s:Nat):stN x s 0=[I 0,I 0,I 0,I 0,I 0,I 0]:=rfl
theorem aRq(x:Wx)(s:Nat):stN x s 3=[I (eE (lW x) x.B3 x.B4 s).1,I (eE (hW x) x.B3 x.B4 s).1,I (eE (lW x) x.B3 x.B4 s).2.1,I (eE (hW x) x.B3 x.B4 s).2.1,I (eE (lW x) x.B3 x.B4 s).2.2,I (eE (hW x) x.B3 x.B4 s).2.2]:=rfl
section
variable{x:Wx}(ok:x.Ok){s:Nat}(hs:s≤25)
include ok hs
theorem bEG(t:Nat)(ht:t<3):runW progG 89 [.fn (.yield 0) [] [],.pt 5 0,.pt 6 0] (zH x s (stN x s t) t)=some (.tup [],zH x s (stN x s (t+1)) t):=by
 have ok':=ok;obtain⟨⟨c1,c2,c3⟩,⟨a1,a2,a3⟩,⟨b1,b2,b3⟩,⟨d1,d2,d3⟩,h3,h4⟩:=ok;obtain⟨e1,e2,_,e4,e5,_⟩:=aIw ok' hs;rcases (by omega:t=0∨t=1∨t=2)with rfl|rfl|rfl;·exact aZa (Y00 ok' hs ⟨c1,by omega⟩ ⟨by omega,c3⟩ (k:=1) AM AM) (Y20 ok' hs ⟨d1,by omega⟩ ⟨by omega,d3⟩ (k:=x.B4) AM h4.2)
 ·exact aYZ (Y01 hs ⟨e1.1,by omega⟩ ⟨e4.1,by omega⟩ ⟨c1,by omega⟩ ⟨by omega,c3⟩) (Y21 ok' hs ⟨b1,by omega⟩ ⟨by omega,b3⟩ (k:=x.B3) h3.1 AM)
 ·exact aYY (Y12 hs ⟨e2.1,by omega⟩ ⟨e5.1,by omega⟩ ⟨a1,by omega⟩ ⟨by omega,a3⟩)
theorem bER{n:Nat}(hn:s<n)(h25:n≤25):bP 0 [2,4,5,7,9,10,32,33] (execW progG 15 0 none (match aKl with | .loop _ a=>a|c=>c) (aZ [2,4,5,7,9,10,32,33] [.pt 0 0,.nilsl,I 0,aPd,.pt 1 0,sO s,I (n:Nat),I (s:Nat)]) (gO x s))=some ([.pt 0 0,.nilsl,I 0,aPd,.pt 1 0,sO (s+1),I (n:Nat),I (s+1:Nat)],gO x (s+1)):=by
 have o:=fun t ht=>bHW (x:=x) (s:=s) (n:=(n:Int)) t ht (bEG ok hs t ht);have c:=a45 (x:=x) (s:=s) (N:=[I 0,I 0,I 0,I 0,I 0,I 0]) AM;have t1:((s:Int)<(n:Int))=True:=AAa;have up:IntKind.i64.wrap ((s:Int)+1)=((s+1:Nat):Int):=by rw[aE AM AM];omega
 have e1:rG x s (.fs [[I (eE (lW x) x.B3 x.B4 s).1,I (eE (hW x) x.B3 x.B4 s).1],[I (eE (lW x) x.B3 x.B4 s).2.1,I (eE (hW x) x.B3 x.B4 s).2.1],[I (eE (lW x) x.B3 x.B4 s).2.2,I (eE (hW x) x.B3 x.B4 s).2.2]])=rR x (s+1):=rfl;have g1:=aTR (x:=x) (s+1);have g0:=aTR (x:=x) s;have rv:rwV x s = .fs [[I (eE (lW x) x.B3 x.B4 s).1,I (eE (hW x) x.B3 x.B4 s).1],[I (eE (lW x) x.B3 x.B4 s).2.1,I (eE (hW x) x.B3 x.B4 s).2.1],[I (eE (lW x) x.B3 x.B4 s).2.2,I (eE (hW x) x.B3 x.B4 s).2.2]]:=rfl;have ro:aAF x (s+1)=aAF x s++[rwV x s]:=by unfold aAF;rw[aB7,N9];rfl
 have lo:(aAF x s).length=s:=by unfold aAF;simp
 unfold aKl;dsimp only;obtain rfl|⟨k,rfl⟩:s=0∨∃ k,s=k+1:=by
  cases s with
  | zero=>exact .inl rfl
  | succ k=>exact .inr ⟨k,rfl⟩
 ·rw[aZL,bCP,aOo,aPP,ro,rv]
  have z:aAF x 0=[]:=rfl;have t1:((0:Int)<(n:Int))=True:=t1;rw[z];unfold vI gI sI pI at o;sym =>
   simp[dM,dN,gT,iN,iO,iM,iP,iQ,iJ,oS,Za,Zb,Zc,Zd,Ze,Zf,Zg,Zh,Zj,Zl,Zm,Zo,Zv,Zw,Z8,ZA,ZF,ZJ,ZQ,ZU,ZY,ZZ,Yc,Yg,Yk,Yl,Ym,Yr,Yt,Y5,YE,YM,YU,YX,Xa,Xb,Xy,XM,XN,XO,XX,Wf,Wj,Wk,Wn,Wu,Wz,W3,W4,W5,W7,WL,WM,WS,WW,WX,WY,WZ,Vi,Vt,Vu,V3,V4,V5,V6,V7,V8,V9,VA,VC,VD,VE,VF,VH,VI,VJ,VK,VM,VN,VO,VP,VQ,VR,VS,VT,VU,VV,VW,VX,VZ,Ua,Ub,Uf,Ug,Ui,Uj,Uk,Ul,Ut,Uu,Uv,Uw,Ux,Uy,Uz,U0,U6,U7,U8,UB,UC,UD,UW,UX,UY,UZ,Ta,Tb,Tc,Tf,Tg,Th,Ti,Tj,Tm,Tn,Tp,Ts,Tv,Tx,T2,T3,T5,T6,T7,T8,T9,TR,TS,TT,TU,TV,TW,TX,TY,TZ,Sa,Sc,Sd,Sg,Si,Sj,Sk,Sy,Sz,S2,S3,S5,S6,S8,S9,SA,SB,SC,SD,SF,SG,SL,SM,SN,SQ,SS,SU,SV,SX,SY,Ra,Rc,Re,Rf,Rg,Rh,Rj,Rl,Rm,Ro,Rp,RY,RZ,Qa,Qh,Qj,Qm,Qn,Qo,Qp,QM,QO,QR,Pa,Pe,Pf,Pg,Ph,Pj,Pk,Pl,PC,PD,PE,PG,t1,c,g0]
   tactic =>
    unfold aEJ at o ⊢;rw[aQ 3 _ _ ?_ o ?_]
    ·rw[aRq]
     (exact aTn e1 g1 up @iN @iO @iM @iP @iQ @iJ @oS)
    ·rw[aZF]
     (exact RT7 @iN @iO @iM @iP @iQ @iJ @oS)
    ·rw[aRq]
     (exact RT7 @iN @iO @iM @iP @iQ @iJ @oS)
 ·rw[aOo,aPP,aOo,aPP,ro,rv]
  unfold vI gI sI pI at o;have b1:((k+1+1)*24≤1099511627776)=True:=AAa;have b2:(k+1+1≤1099511627776)=True:=AAa;sym =>
   simp[dM,dN,gT,iN,iO,iM,iP,iQ,iJ,oS,Za,Zb,Zc,Zd,Ze,Zf,Zg,Zh,Zj,Zl,Zm,Zo,Zv,Zw,Z8,ZA,ZF,ZJ,ZQ,ZU,ZY,ZZ,Yc,Yg,Yk,Yl,Ym,Yr,Yt,Y5,YE,YM,YU,YX,Xa,Xb,Xy,XM,XN,XO,XX,Wf,Wj,Wk,Wn,Wu,Wz,W3,W4,W5,W7,WL,WM,WS,WW,WX,WY,WZ,Vi,Vt,Vu,V3,V4,V5,V6,V7,V8,V9,VA,VC,VD,VE,VF,VH,VI,VJ,VK,VM,VN,VO,VP,VQ,VR,VS,VT,VU,VV,VW,VX,VZ,Ua,Ub,Uf,Ug,Ui,Uj,Uk,Ul,Ut,Uu,Uv,Uw,Ux,Uy,Uz,U0,U6,U7,U8,UB,UC,UD,UW,UX,UY,UZ,Ta,Tb,Tc,Tf,Tg,Th,Ti,Tj,Tm,Tn,Tp,Ts,Tv,Tx,T2,T3,T5,T6,T7,T8,T9,TR,TS,TT,TU,TV,TW,TX,TY,TZ,Sa,Sc,Sd,Sg,Si,Sj,Sk,Sy,Sz,S2,S3,S5,S6,S8,S9,SA,SB,SC,SD,SF,SG,SL,SM,SN,SQ,SS,SU,SV,SX,SY,Ra,Rc,Re,Rf,Rg,Rh,Rj,Rl,Rm,Ro,Rp,RY,RZ,Qa,Qh,Qj,Qm,Qn,Qo,Qp,QM,QO,QR,Pa,Pe,Pf,Pg,Ph,Pj,Pk,Pl,PC,PD,PE,PG,t1,c,g0]
   tactic =>
    unfold aEJ at o ⊢;rw[aQ 3 _ _ ?_ o ?_]
    ·rw[aRq]
     (exact aEa e1 g1 up lo b1 b2 @iN @iO @iM @iP @iQ @iJ @oS)
    ·rw[aZF]
     (exact RT7 @iN @iO @iM @iP @iQ @iJ @oS)
    ·rw[aRq]
     (exact RT7 @iN @iO @iM @iP @iQ @iJ @oS)
end
def rwR(x:Wx)(n:Nat):List (List AV):=(List.range n).map fun s=>[rwV x s]
theorem aKx(x:Wx)(n:Nat):(rwR x n).length=n:=by simp[rwR]
theorem aVs{x:Wx}{n s:Nat}(h:s<n):(rwR x n)[s]?=some [rwV x s]:=by unfold rwR;rw[C4,aD9 h];rfl
theorem aVv(x:Wx)(n:Nat):bM (aAF x n) 0 1 n=rwR x n:=by
 have h:=rM (f:=rwV x) (List.range n) [];rw[List.length_range]at h;exact h
theorem bFc{x:Wx}(ok:x.Ok){n:Nat}(h1:1≤n)(h25:n≤25):runW progG 15 [wA x,I (n:Nat)] []=some (.tup [.fs (rwR x n),I 0],[]):=by
 have c1:=bAn ok;have c2:=bAm ok;have c3:runW progG 43 [I 0,I (n:Nat),I 200] []=some (.bool true,[]):=aFc AM AM;have o:=fun s (hs:s<n)=>bER ok (s:=s) AM hs h25;have ch:=aVv x n;have lo:(aAF x n).length=n:=by unfold aAF;simp
 have en:((n:Int)<(n:Int))=False:=AAb;have r0:rR x 0=[.nilsl,.nilsl,.nilsl,.nilsl,.nilsl,I 0]:=rfl;obtain⟨m,rfl⟩:∃ m,n=m+1:=⟨n-1,by omega⟩;rw[gX 15 x15];unfold x15;dsimp only;sym =>
  simp[dM,dN,gT,iN,iO,iM,iP,iQ,iJ,oS,Za,Zb,Zf,Zg,Zh,Zj,Zl,Zm,Zo,Zv,Zw,Zz,ZA,ZD,ZP,ZU,Yc,Yg,Yl,Ym,Yp,Y4,YD,YE,YU,Xy,XJ,XL,XM,XO,XX,Wf,Wi,Wj,Wn,Wu,Wv,Wy,Wz,W3,W5,W7,WF,WJ,WL,WS,WV,WX,Vb,Ve,Vf,Vg,Vs,V3,V4,V5,V6,V7,V8,V9,VA,VB,VC,VD,VE,VH,VI,VK,VM,VN,VO,VP,VQ,VR,VS,VT,VU,VV,VW,VZ,Ua,Uf,Ui,Uj,Uk,Ut,Uu,Uv,Uw,Ux,Uy,Uz,U6,U7,U9,UB,UD,UG,UH,UJ,UK,UL,UM,UP,UQ,UR,US,UT,UV,UW,UX,UY,UZ,Tb,Tc,Te,Tf,Tg,Th,Ti,Tj,Tm,Tn,Tp,Ts,Tv,Ty,T2,T6,T7,T8,TS,TT,TU,TV,TW,TX,TY,TZ,Sa,Sc,Sd,Se,Sf,Sw,Sx,SE,SF,SG,SK,SQ,SY,Ra,Rb,Rc,Re,Rf,Rg,Rh,Rl,Rm,Ro,Rp,RY,RZ,Qa,Qb,QM,QO,QR,Pe,Pf,Pg,Pj,Pk,Pl,PC,PD,PE,PG,c1,c2,c3]
  tactic =>
   unfold aKl at o ⊢;rw[aQ (m+1) (fun s=>[.pt 0 0,.nilsl,I 0,aPd,.pt 1 0,sO s,I (m+1:Nat),I (s:Nat)]) (gO x)]
   ·rw[aOo,aPP]
    (exact aTn en ch lo @iN @iO @iM @iP @iQ @iJ @oS)
   ·rw[aZL,bCP,r0]
    (exact RT7 @iN @iO @iM @iP @iQ @iJ @oS)
   ·exact o
   ·rw[aOo,aPP]
    (exact RT9 en @iN @iO @iM @iP @iQ @iJ @oS aG)
end
section
def mJ:ByteArray:=⟨⟨[109]⟩⟩
def lmJ(n:Nat):ByteArray:=⟨⟨[109,101,116,101,114,32,109,32]++D10 n⟩⟩
def luJ:ByteArray:=⟨⟨[117,115,101,100,32,109]⟩⟩
theorem aTr{n:Nat}(h:n≤99999):D10 n=Lib.decDigits n:=qH 6 n AM AM
theorem aTP{n:Nat}(h:n≤99999):rd (lmJ n) = .inr (.meter mJ (n:Nat)):=by
 have hl:=aGT h;have hs:cA (lmJ n)=[AAs,mJ,dg n]:=by
  have e:(lmJ n).data.toList=[109,101,116,101,114]++32::([109]++32::D10 n):=rfl;unfold cA;rw[e,xL (by decide),xL (by decide),aTr h,aCh (bDc h)];rfl
 have hz:¬(lmJ n).size>40:=by
  show ¬(([109,101,116,101,114,32,109,32]++D10 n:List UInt8)).length>40;rw[C9];simp only[D9,aB5];omega
 have hn:bH mJ=true:=by kernel_rfl
 unfold rd;rw[if_neg hz,hs];dsimp only;rw[if_pos rfl,if_pos hn];unfold xR;rw[aSk h]
theorem aZU:rd luJ = .inr (.used mJ):=by kernel_rfl
theorem bAS{n:Nat}(h:n≤99999):lnE (lmJ n)=0:=by
 obtain⟨d1,d2,d3,d4⟩:=aWZ h;exact aSE (aSi (by decide)) d1 d2 d3 (by simp only[D9,aB5];omega)
def cMt(ms:List (ByteArray×Int×Int))(bk:List ByteArray):dU:={ farmers:=[],meters:=ms,pans:=[],wagons:=[],tickets:=[],closed:=0,book:=bk }
theorem bDh:cMt [] []=gL:=rfl
theorem aVq{n:Nat}(h:n≤99999):sayA (cMt [] []) (lmJ n)=(wK,cMt [(mJ,(n:Int),0)] [lmJ n]):=by
 unfold sayA;rw[aTP h,aHs rfl (by unfold dZ cMt;simp) (by show ([]:List ByteArray).length≠300;decide)];rfl
theorem aZK{n:Nat}{a u:Int}{bk:List ByteArray}(h:n≤99999)(hb:bk.length<300):sayA (cMt [(mJ,a,u)] bk) (lmJ n)=(wK,cMt [(mJ,(n:Int),u+((n:Int)-a+100000)%100000)] (bk++[lmJ n])):=by
 unfold sayA;rw[aTP h,aHs rfl (by unfold dZ cMt;simp) (by show bk.length≠300;omega)];unfold sS cMt oG mtr;simp
theorem aZJ{a u:Int}{bk:List ByteArray}:sayA (cMt [(mJ,a,u)] bk) luJ=(aEv u,cMt [(mJ,a,u)] bk):=by
 unfold sayA;rw[aZU,aOj rfl (a:=aEv u) (by
  have e:gS [(mJ,a,u)] mJ=some (a,u):=by rw[aLF,if_pos rfl]
  show (match gS [(mJ,a,u)] mJ with|none=>.inl 5|some v=>.inr (aEv v.2):Int ⊕ ByteArray)=_;rw[e])]
def eK(x:Wx)(k s:Nat):Int:=match k with
 | 0=>(eE (hW x) x.B3 x.B4 s).1
 | 1=>(eE (hW x) x.B3 x.B4 s).2.1
 | _=>(eE (hW x) x.B3 x.B4 s).2.2
section
variable{x:Wx}(ok:x.Ok){k:Nat}(fr:Nat)
theorem aIx(ok:x.Ok)(k:Nat){s:Nat}(hs:s≤25):0≤eK x k s∧eK x k s≤23400:=by
 obtain⟨_,_,_,b4,b5,b6⟩:=aIw ok hs;unfold eK;split;·exact b4
 ·exact b5
 ·exact b6
theorem aQg(ok:x.Ok)(k s:Nat):eK x k s≤eK x k (s+1):=by
 have:=aSS (x:=hW x) (B3:=x.B3) (B4:=x.B4) (by have:=ok.b3;omega) (by have:=ok.b4;omega) s;unfold eK;split;·exact this.1
 ·exact this.2.1
 ·exact this.2.2
theorem bDa(ok:x.Ok)(k:Nat):∀ s,eK x k 0≤eK x k s
 | 0=>C3 _
 | s+1=>aB0 (bDa ok k s) (aQg ok k s)
def rdK(x:Wx)(k fr s:Nat):Nat:=(99000+fr%1000+(eK x k s).toNat)%100000
def bkK(x:Wx)(k fr i:Nat):List ByteArray:=(List.range i).map fun s=>lmJ (rdK x k fr s)
def stK(x:Wx)(k fr:Nat):Nat→dU
 | 0=>cMt [] []
 | i+1=>cMt [(mJ,(rdK x k fr i:Nat),eK x k i-eK x k 0)] (bkK x k fr (i+1))
theorem aTg(i:Nat):(bkK x k fr i).length=i:=by simp[bkK]
theorem aNQ(ok:x.Ok){i:Nat}(hi:i≤24):sayA (stK x k fr i) (lmJ (rdK x k fr i))=(wK,stK x k fr (i+1)):=by
 have hr:rdK x k fr i≤99999:=by unfold rdK;omega
 have hb:bkK x k fr (i+1)=bkK x k fr i++[lmJ (rdK x k fr i)]:=by unfold bkK;rw[aB7,N9];rfl
 cases i with
 | zero =>
   show sayA (cMt [] []) _=_;rw[aVq hr];show _=(wK,cMt [(mJ,(rdK x k fr 0:Nat),eK x k 0-eK x k 0)] (bkK x k fr 1));rw[Int.sub_self];rfl
 | succ i =>
   show sayA (cMt [(mJ,(rdK x k fr i:Nat),eK x k i-eK x k 0)] (bkK x k fr (i+1))) _=_;rw[aZK hr (by rw[aTg];omega),←hb];have b1:=aIx ok k (s:=i) AM;have b2:=aIx ok k (s:=i+1) AM;have u:=aQg ok k i;have e:eK x k i-eK x k 0+(((rdK x k fr (i+1):Nat):Int)-((rdK x k fr i:Nat):Int)+100000)%100000=eK x k (i+1)-eK x k 0:=by
    unfold rdK;omega
   rw[e];rfl
theorem aTO(ok:x.Ok):∀ i,i≤25→Rep (stK x k fr i) i
 | 0,_=>aRW
 | i+1,h=>by
   have r:=(aTO ok i AM).step (bAS (n:=rdK x k fr i) (by unfold rdK;omega));rw[aNQ fr ok AM]at r;exact r
theorem aJM(ok:x.Ok){pn pd t0 t1 t2:Int}(h:Pac x pn pd t0 t1 t2)(s:Nat):(eE (hW x) x.B3 x.B4 s).1*pd≤t0+(s:Int)*pn∧(eE (hW x) x.B3 x.B4 s).2.1*pd≤t1+(s:Int)*pn∧(eE (hW x) x.B3 x.B4 s).2.2*pd≤t2+(s:Int)*pn:=by
 obtain⟨hn,hd,hk,z0,z1,z2,_⟩:=h;exact aWV (x:=hW x) (by have:=ok.b3;omega) (by have:=ok.b4;omega) hn.1 z0 z1 z2 hk AM s
end
end
section
def laK(x:Wx)(k:Nat):Nat→Int
 | 0=>0
 | i+1=>eK x k i
def fiK(x:Wx)(k:Nat):Nat→Int
 | 0=>0
 | _+1=>eK x k 0
section
variable{x:Wx}(ok:x.Ok){fr n q k:Nat}{av:List Nat}{T:List (List AV)}{pn pd:Int}
include ok
theorem r4a(hk:k<3)(hf:fr<65536)(h25:n≤25){i:Nat}(hi:i<n):bP 0 [4,5,6,16,17,20,22,24,25,26,91,92,93] (execW progG 4 0 none (match aQU with | .loop _ a=>a|c=>c) (aZ [4,5,6,16,17,20,22,24,25,26,91,92,93] [.int .u16 (fr:Int),.fs (rU8 av),.int .u8 (q:Int),I (n:Nat),I (k:Nat),.pt 0 0,.fs T,.pt 1 0,I (fiK x k i),I (laK x k i),.fs (rwR x n),I (n:Nat),I (i:Nat)]) [some (.blk true (.cells true [I pn,I pd])),gK (stK x k fr i)]) =
 some ([.int .u16 (fr:Int),.fs (rU8 av),.int .u8 (q:Int),I (n:Nat),I (k:Nat),.pt 0 0,.fs T,.pt 1 0,I (fiK x k (i+1)),I (laK x k (i+1)),.fs (rwR x n),I (n:Nat),I (i+1:Nat)],[some (.blk true (.cells true [I pn,I pd])),gK (stK x k fr (i+1))]):=by
 have hr:=aVs (x:=x) hi;have rl:=aKx x n;have kb:=aIx ok k (s:=i) AM;have ku:laK x k i≤eK x k i:=by
  cases i with
  | zero=>exact kb.1
  | succ i=>exact aQg ok k i
 have hrd:rdK x k fr i≤99999:=by unfold rdK;omega
 have c6:=g21 (stK x k fr i) (lmJ (rdK x k fr i));rw[aNQ fr ok AM]at c6;dsimp only at c6;have la1:laK x k (i+1)=eK x k i:=rfl;have g1:=bIb hrd;have e1:IntKind.i64.wrap (fr:Int)=(fr:Int):=aE AM AM;have e2:wP (fr:Int) 1000=((fr%1000:Nat):Int):=gY fr 1000;have e3:IntKind.i64.wrap (99000+((fr%1000:Nat):Int))=((99000+fr%1000:Nat):Int):=by rw[aE AM AM];omega
 have e4:IntKind.i64.wrap (((99000+fr%1000:Nat):Int)+eK x k i)=((99000+fr%1000+(eK x k i).toNat:Nat):Int):=by rw[aE AM AM];omega
 have e5:wP ((99000+fr%1000+(eK x k i).toNat:Nat):Int) 100000=((rdK x k fr i:Nat):Int):=gY _ 100000;have s1:aY .add ⟨⟨[109,101,116,101,114,32,109,32]⟩⟩ ⟨⟨D10 (rdK x k fr i)⟩⟩=some (.str (lmJ (rdK x k fr i))):=bIB (by have:=aGT hrd;simp;omega);have eo:=aKM;have t1:((i:Int)<(n:Int))=True:=AAa;have t2:(eK x k i<laK x k i)=False:=AAb;have up:=pL (i:=i) (n:=100) AM AM;have fi:(i=0∧fiK x k (i+1)=eK x k i)∨(((i:Int)=0)=False∧fiK x k (i+1)=fiK x k i):=by
  cases i with
  | zero=>exact .inl ⟨rfl,rfl⟩
  | succ i=>exact .inr ⟨AAb,rfl⟩
 rw[la1];have rv:∃ A0 B0 A1 B1 A2 B2:Int,rwV x i = .fs [[I A0,I B0],[I A1,I B1],[I A2,I B2]]∧(k=0→B0=eK x k i)∧(k=1→B1=eK x k i)∧(k=2→B2=eK x k i):=⟨_,_,_,_,_,_,rfl,fun h=>by subst h;rfl,fun h=>by subst h;rfl,fun h=>by subst h;rfl⟩;obtain⟨A0,B0,A1,B1,A2,B2,rv,k0,k1,k2⟩:=rv;rw[rv]at hr;clear rv kb ku hrd la1;generalize lmJ (rdK x k fr i)=z at *;generalize D10 (rdK x k fr i)=z2 at *;generalize rdK x k fr i=rd1 at *;generalize wK=o at *;generalize stK x k fr (i+1)=s2 at *;generalize stK x k fr i=s at *;unfold gK at *;generalize IsClk s2=K2 at *;generalize IsClk s=K1 at *;generalize laK x k i=la at *;generalize fiK x k (i+1)=f2 at *;generalize fiK x k i=f1 at *;generalize (eK x k i).toNat=en at *;generalize rwR x n=R at *;unfold aQU;dsimp only;rcases fi with ⟨rfl,rfl⟩|⟨fi,rfl⟩
 ·have t1:((0:Int)<(n:Int))=True:=t1
  rcases (by omega:k=0∨k=1∨k=2)with rfl|rfl|rfl
  ·obtain rfl:=k0 rfl
   generalize eK x 0 0=E at *;(exact aEa hr rl c6 g1 e1 e2 e3 e4 e5 s1 eo t1 t2)
  ·obtain rfl:=k1 rfl
   generalize eK x 1 0=E at *;(exact aEa hr rl c6 g1 e1 e2 e3 e4 e5 s1 eo t1 t2)
  ·obtain rfl:=k2 rfl
   generalize eK x 2 0=E at *;(exact aEa hr rl c6 g1 e1 e2 e3 e4 e5 s1 eo t1 t2)
 ·rcases (by omega:k=0∨k=1∨k=2)with rfl|rfl|rfl
  ·obtain rfl:=k0 rfl
   generalize eK x 0 i=E at *;(exact aEF hr rl c6 g1 e1 e2 e3 e4 e5 s1 eo t1 t2 up fi aG aG aG aG aG)
  ·obtain rfl:=k1 rfl
   generalize eK x 1 i=E at *;(exact aEF hr rl c6 g1 e1 e2 e3 e4 e5 s1 eo t1 t2 up fi aG aG aG aG aG)
  ·obtain rfl:=k2 rfl
   generalize eK x 2 i=E at *;(exact aEF hr rl c6 g1 e1 e2 e3 e4 e5 s1 eo t1 t2 up fi aG aG aG aG aG)
end
theorem w4{a b n0 n1 n2 n3 n4 n5 st sp fr q:Nat}{av:List Nat}(ha:a<256)(hb:b<256)(h0:n0<256)(h1:n1<256)(h2:n2<256)(h3:n3<256)(h4:n4<256)(hst:st<256)(hsp:sp<256)(hf:fr<65536)(hav:∀ v∈av,v<256)(hq:q<256) :
 runW progG 4 [.agg [.int .u8 (a:Int),.int .u8 (b:Int)],.agg [.int .u8 (n0:Int),.int .u8 (n1:Int),.int .u8 (n2:Int),.int .u8 (n3:Int),.int .u8 (n4:Int),.int .u8 (n5:Int)],.int .u8 (st:Int),.int .u8 (sp:Int),.int .u16 (fr:Int),.fs (rU8 av),.int .u8 (q:Int)] []=some (.bool true,[]):=by
 obtain⟨c1,hc1⟩:∃ c:Nat,1+a=c:=⟨_,rfl⟩;obtain⟨c2,hc2⟩:∃ c:Nat,1+a+b%20=c:=⟨_,rfl⟩;have ok:(xW (c1:Nat) (c2:Nat) n0 n1 n2 n3 n4).Ok:=aXI AM h0 h1 h3;have k14:=bAo (c1:Int) (c2:Int);have k13:=bFd (c1:=(c1:Int)) (c2:=(c2:Int)) (n5:=n5) h0 h1 h2 h3 h4;obtain⟨x,hx⟩:∃ x,xW (c1:Nat) (c2:Nat) n0 n1 n2 n3 n4=x:=⟨_,rfl⟩;rw[hx]at ok k13;obtain⟨n,hn⟩:∃ n,1+st%25=n:=⟨_,rfl⟩;obtain⟨k,hk⟩:∃ k,sp%3=k:=⟨_,rfl⟩;have k15:=bFc ok (n:=n) AM AM;obtain⟨pn,pd,t0,t1,t2,hp,k16,k17⟩:=aSh ok;have hpn:=hp.1;have hpd:=hp.2.1;obtain⟨z0,z1,z2,z3,z4,z5⟩:=hp.2.2.2;have tb:∃ tk:Int,([[I t0],[I t1],[I t2]]:List (List AV))[k]?=some [I tk]∧0≤tk∧tk≤24000∧∀ s:Nat,eK x k s*pd≤tk+(s:Int)*pn:=by
  rcases (by omega:k=0∨k=1∨k=2)with h|h|h;·rw[h];exact⟨t0,rfl,z0,z3,fun s=>(aJM ok hp s).1⟩
  ·rw[h];exact⟨t1,rfl,z1,z4,fun s=>(aJM ok hp s).2.1⟩
  ·rw[h];exact⟨t2,rfl,z2,z5,fun s=>(aJM ok hp s).2.2⟩
 obtain⟨tk,tk1,tk2,tk3,tk4⟩:=tb;have tl:([[I t0],[I t1],[I t2]]:List (List AV)).length=3:=rfl;generalize ([[I t0],[I t1],[I t2]]:List (List AV))=T at *;have lo:=fun i hi=>r4a ok (fr:=fr) (n:=n) (q:=q) (k:=k) (av:=av) (T:=T) (pn:=pn) (pd:=pd) AM hf AM (i:=i) hi;have g5:=g19;rw[←bDh]at g5;have rp:=(aTO (x:=x) (k:=k) fr ok n AM).mono (m:=26) AM;have k9:=g9 rp hav hq;have k10:=g23 (stK x k fr n);have rl:=aKx x n;obtain⟨m,hm⟩:∃ m,n=m+1:=⟨n-1,by omega⟩;have eb:=aIx ok k (s:=m) AM;have e0:=aIx ok k (s:=0) AM;have em:=bDa ok k m;have su:sayA (stK x k fr n) luJ=(aEv (eK x k m-eK x k 0),stK x k fr n):=by rw[hm];exact aZJ
 have k6:=g21 (stK x k fr n) luJ;rw[su]at k6;dsimp only at k6;have la:laK x k n=eK x k m:=by rw[hm];rfl
 have fi:fiK x k n=eK x k 0:=by rw[hm];rfl
 obtain⟨v,hv⟩:∃ v:Nat,eK x k m-eK x k 0=(v:Int):=⟨(eK x k m-eK x k 0).toNat,by omega⟩;rw[hv,aSl]at k6;have gd:=bIc (n:=v) AM;have dv:IntKind.i64.wrap (eK x k m-eK x k 0)=(v:Int):=by rw[aE AM AM];exact hv
 have q1:=yW (dg v) (dg v);rw[AAi rfl]at q1;have q1:aY .neq (dg v) (dg v)=some (.bool false):=q1;have tt:=tk4 m;have pb:0≤eK x k m*pd∧eK x k m*pd≤93600:=by
  rcases (by omega:pd=1∨pd=2∨pd=3∨pd=4)with h|h|h|h<;>rw[h]<;>omega
 have mb:0≤(m:Int)*pn∧(m:Int)*pn≤24000:=by
  refine⟨aC3 AM hpn.1,aB0 (aD1 hpn.2 AM) AM⟩
 obtain⟨P,hP⟩:∃ P,eK x k m*pd=P:=⟨_,rfl⟩;obtain⟨M,hM⟩:∃ M,(m:Int)*pn=M:=⟨_,rfl⟩;rw[hP]at tt pb;rw[hM]at tt mb;have p1:IntKind.i64.wrap (eK x k m*pd)=P:=by rw[hP];exact aE AM AM
 have p2:IntKind.i64.wrap ((n:Int)-1)=(m:Int):=by rw[aE AM AM];omega
 have p3:IntKind.i64.wrap ((m:Int)*pn)=M:=by rw[hM];exact aE AM AM
 obtain⟨S,hS⟩:∃ S,tk+M=S:=⟨_,rfl⟩;have p4:IntKind.i64.wrap (tk+M)=S:=by rw[aE AM AM];exact hS
 have p5:(P≤S)=True:=AAa;have b1:IntKind.i64.wrap (a:Int)=(a:Int):=aE AM AM;have b2:IntKind.i64.wrap (1+(a:Int))=(c1:Int):=by rw[aE AM AM];omega
 have b3:IntKind.i64.wrap (b:Int)=(b:Int):=aE AM AM;have b4:wP (b:Int) 20=((b%20:Nat):Int):=gY b 20;have b5:IntKind.i64.wrap ((c1:Int)+((b%20:Nat):Int))=(c2:Int):=by rw[aE AM AM];omega
 have b6:IntKind.i64.wrap (st:Int)=(st:Int):=aE AM AM;have b7:wP (st:Int) 25=((st%25:Nat):Int):=gY st 25;have b8:IntKind.i64.wrap (1+((st%25:Nat):Int))=(n:Int):=by rw[aE AM AM];omega
 have b9:IntKind.i64.wrap (sp:Int)=(sp:Int):=aE AM AM;have b10:wP (sp:Int) 3=(k:Int):=by rw[←hk];exact gY sp 3
 have b11:((k:Int)<3)=True:=AAa;have en:((n:Int)<(n:Int))=False:=AAb;have ck:=aWy;have stz:stK x k fr 0=cMt [] []:=rfl;have laz:laK x k 0=0:=rfl;have fiz:fiK x k 0=0:=rfl;clear tt pb mb tk4 hp em e0 eb hv hP hM hS su;generalize dg v=dgv at *;rw[gX 4 x4];unfold x4;dsimp only;sym =>
  simp[dM,dN,gT,Za,Zb,Zc,Ze,Zf,Zg,Zh,Zi,Zj,Zk,Zl,Zm,Zo,Zp,Zq,Zr,Zv,Zw,Zy,Zz,ZA,ZC,ZE,ZF,ZG,ZH,ZP,ZQ,ZU,ZV,ZW,ZX,ZY,ZZ,Ya,Yb,Yc,Yg,Yh,Yi,Yl,Ym,Yn,Yo,Yq,Yr,Yt,Yy,Yz,Y4,Y5,Y6,Y7,YD,YE,YF,YJ,YK,YT,YU,YV,YZ,Xb,Xi,Xo,Xy,Xz,XI,XJ,XM,XO,Wf,Wi,Wj,Wn,Wu,Wv,Ww,Wy,Wz,W3,W5,WF,WG,WK,WM,Vb,Vc,Ve,Vg,Vi,Vs,V1,V3,V4,V5,V6,V7,V8,V9,VA,VB,VC,VD,VE,VF,VH,VI,VJ,VK,VM,VN,VO,VP,VQ,VR,VS,VT,VU,VV,VW,VX,VZ,Ua,Uf,Ui,Uj,Uk,Ul,Um,Un,Uo,Ur,Uw,Uy,Uz,U0,U6,U7,U9,UG,UH,UJ,UK,UL,UM,UN,UQ,UR,US,UT,UV,UW,UX,UY,UZ,Tb,Tc,Te,Tf,Tg,Th,Ti,Tj,Tm,Tn,Tp,Ts,Tv,Ty,Tz,T0,T1,T2,T6,T7,T8,T9,TR,TS,TT,TU,TV,TW,TX,TY,Se,Sf,Sg,Sw,Sx,SE,SF,SG,SI,SJ,SK,SL,SM,SN,SQ,SY,SZ,Ra,Rb,Rc,Re,Rf,Rg,Rh,Rl,Rm,Ro,Rp,Rw,Qa,QL,QM,Pe,Pf,Pg,Ph,Pj,Pk,Pl,PC,PD,PE,PG,PH,PI,PJ,k14,k13,k15,k16,k17,rl,tl,g5,b1,b2,b3,b4,b5,b6,b7,b8,b9,b10]
  tactic =>
   unfold aQU at lo ⊢;rw[aQ n (fun i=>[.int .u16 (fr:Int),.fs (rU8 av),.int .u8 (q:Int),I (n:Nat),I (k:Nat),.pt 0 0,.fs T,.pt 1 0,I (fiK x k i),I (laK x k i),.fs (rwR x n),I (n:Nat),I (i:Nat)]) (fun i=>[some (.blk true (.cells true [I pn,I pd])),gK (stK x k fr i)])]
   ·rw[la,fi]
    clear lo;unfold gK at *;generalize IsClk (stK x k fr n)=K1 at *;generalize stK x k fr n=s at *;unfold luJ at k6;(exact aEF en k10 k9 k6 gd dv q1 p1 p2 p3 p4 p5 tk1 tl b11 ck aG aG aG aG)
   ·rw[stz,laz,fiz]
    (exact yO)
   ·exact lo
   ·(exact RT1 en)
end
end Go.Proofs.YtjckchgdlbgolaaGreatDoor
