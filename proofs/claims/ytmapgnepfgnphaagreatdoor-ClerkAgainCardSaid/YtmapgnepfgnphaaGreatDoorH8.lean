/- Parts of a proof, joined: Q1 Q2 Q3 Q4 Q5 Q6 Q7 Q8 Q9 Q10 Q11 Q12 Q13 Q14 Q15 Q16 Q17 Q18 Q19 Q20 Q21. No statement of the seed is proved here. -/
import Derived.Test.YtmapgnepfgnphaaGreatDoorH7
set_option linter.unusedSimpArgs false
set_option linter.unusedVariables false
set_option linter.unusedSectionVars false
set_option maxRecDepth 100000
set_option maxHeartbeats 4000000
namespace Go.Proofs.YtmapgnepfgnphaaGreatDoor
open Go Go.DL
section
def vU(i x:Nat):Bool:=(decide (97≤x)&&decide (x≤122))||(decide (i≠0)&&(decide (48≤x)&&decide (x≤57)))
def bG(s:ByteArray):Bool:=decide (1≤s.size)&&(decide (s.size≤10)&&(List.range s.size).all fun i=>vU i ((bN s).getD i 0))
theorem aWv{s:ByteArray}{m:Nat}(h1:m≤s.size)(h2:∀ i,i<m→vU i ((bN s).getD i 0)=true)(h3:m=s.size∨(m<s.size∧vU m ((bN s).getD m 0)=false)):((List.range s.size).all fun i=>vU i ((bN s).getD i 0))=decide (m=s.size):=by
 rcases h3 with h3|⟨h3,h4⟩
 ·rw[AAl h3,C7]
  intro i hi;exact h2 i (by rw[h3];exact J7.1 hi)
 ·rw[AAm AM,List.all_eq_false]
  exact⟨m,J7.2 h3,by rw[h4];decide⟩
theorem aPQ{s:ByteArray}{i x:Nat}(h:i<s.size)(hx:((s.data.toList.getD i 0).toNat:Int)=(x:Int)):(dU s)[i]?=some (.int .u8 (x:Int)):=by
 unfold dU;have hl:i<s.data.toList.length:=by rw[D4];exact h
 rw[A6,A4 hl];rw[A1,A4 hl]at hx;simp only[C3,H7]at hx ⊢;rw[hx]
theorem w85{s:ByteArray}(hs:s.size≤1000000):runW aB 85 [.str s] []=some (.bool (bG s),[]):=by
 rw[qX 85 x85 rfl];unfold x85;dsimp only;have bl:=lU s;obtain⟨m,m1,m2,m3⟩:=aEd (fun i=>vU i ((bN s).getD i 0)) s.size;have hp:=aWv m1 m2 m3;have e0:((s.size:Int)<(s.size:Int))=False:=AAb;have at0:∀ i,i<s.size→∃ x,(bN s).getD i 0=x∧x<256∧(dU s)[i]?=some (.int .u8 (x:Int)):=fun i hi=>by
  obtain⟨x,h1,h2,h3⟩:=aYj hi;exact⟨x,by rw[A1,h1];rfl,h2,aPQ hi h3⟩
 have bad:m<s.size→vU m ((bN s).getD m 0)=false:=fun h=>m3.elim (fun e=>by omega) fun h=>h.2;have lc:=aBf s;have gr:=fC s;have raw:=aMh s;have hv:bG s=(decide (1≤s.size)&&(decide (s.size≤10)&&decide (m=s.size))):=by unfold bG;rw[hp]
 rw[hv];sym =>
  simp[Za,Zb,Zf,Zh,Zl,Zm,Zo,Zv,ZR,ZU,Yw,Va,V9,UT,Tc,Tg,Tm,TJ,TK,Sz,S9,SD,SE,SM,SN,Rj,Rk,raw]
  tactic =>
   unfold aRR;rw[aS m (fun i=>[.str s,.sl 0 0 1 s.size,I (s.size:Nat),I (i:Nat)]) (fun _=>[some (.blk true (.cells true (dU s)))])]
   ·by_cases hm:m=s.size
    ·rw[AAl hm,hm]
     by_cases z:s.size=0
     ·have d1:decide (1≤s.size)=false:=AAm AM
      have z1:((0:Int)<(s.size:Int))=False:=AAb;rw[d1];(exact vI e0 z1 lc gr)
     ·have d1:decide (1≤s.size)=true:=AAl AM
      have z1:((0:Int)<(s.size:Int))=True:=AAa;rw[d1];by_cases z2:s.size≤10
      ·have d2:decide (s.size≤10)=true:=AAl z2
       have z3:((s.size:Int)≤10)=True:=AAa;rw[d2];(exact RS5 e0 z1 z3 lc gr)
      ·have d2:decide (s.size≤10)=false:=AAm z2
       have z3:((s.size:Int)≤10)=False:=AAb;rw[d2];(exact RS5 e0 z1 z3 lc gr)
    ·rw[AAm hm,aJ0,aJ0]
     have hm':m<s.size:=AM
     obtain⟨x,x1,x2,x3⟩:=at0 m hm';have hb:=bad hm';rw[x1]at hb;have i1:((m:Int)<(s.size:Int))=True:=AAa;have i2:(m<s.size)=True:=AAp hm';by_cases cA:x<97
     ·skip
      by_cases cC:m=0
      ·skip
       have tA:((x:Int)<97)=True:=AAa;have tC:((m:Int)=0)=True:=AAa;(exact RS7 i1 i2 x3 lc gr tA tC)
      ·skip
       by_cases cD:x<48
       ·skip
        have tA:((x:Int)<97)=True:=AAa;have tC:((m:Int)=0)=False:=AAb;have tD:((x:Int)<48)=True:=AAa;(exact uO i1 i2 x3 lc gr tA tC tD aE)
       ·skip
        by_cases cE:57<x
        ·skip
         have tA:((x:Int)<97)=True:=AAa;have tC:((m:Int)=0)=False:=AAb;have tD:((x:Int)<48)=False:=AAb;have tE:((57:Int)<(x:Int))=True:=AAa;(exact uO i1 i2 x3 lc gr tA tC tD tE)
        ·skip
         have tA:((x:Int)<97)=True:=AAa;have tC:((m:Int)=0)=False:=AAb;have tD:((x:Int)<48)=False:=AAb;have tE:((57:Int)<(x:Int))=False:=AAb;exfalso;revert hb;simp[vU]<;>(intros;omega)
     ·skip
      by_cases cB:122<x
      ·skip
       by_cases cC:m=0
       ·skip
        have tA:((x:Int)<97)=False:=AAb;have tB:((122:Int)<(x:Int))=True:=AAa;have tC:((m:Int)=0)=True:=AAa;(exact uO i1 i2 x3 lc gr tA tB tC aE)
       ·skip
        by_cases cD:x<48
        ·skip
         exfalso;omega
        ·skip
         by_cases cE:57<x
         ·skip
          have tA:((x:Int)<97)=False:=AAb;have tB:((122:Int)<(x:Int))=True:=AAa;have tC:((m:Int)=0)=False:=AAb;have tD:((x:Int)<48)=False:=AAb;have tE:((57:Int)<(x:Int))=True:=AAa;(exact nN i1 i2 x3 lc gr tA tB tC tD tE)
         ·skip
          exfalso;omega
      ·skip
       have tA:((x:Int)<97)=False:=AAb;have tB:((122:Int)<(x:Int))=False:=AAb;exfalso;revert hb;simp[vU]<;>(intros;omega)
   ·have n0:=dO s
    (exact vI raw lc gr n0)
   ·intro i hi
    have hi':i<s.size:=AM
    obtain⟨x,x1,x2,x3⟩:=at0 i hi';have hb:=m2 i hi;rw[x1]at hb;have i1:((i:Int)<(s.size:Int))=True:=AAa;have i2:(i<s.size)=True:=AAp hi';have a2:=kT (n:=s.size) (i:=i) AM AM;have n0:=dO s;by_cases cA:x<97
    ·skip
     by_cases cC:i=0
     ·skip
      have tA:((x:Int)<97)=True:=AAa;have tC:((i:Int)=0)=True:=AAa;exfalso;revert hb;simp[vU]<;>(intros;omega)
     ·skip
      by_cases cD:x<48
      ·skip
       have tA:((x:Int)<97)=True:=AAa;have tC:((i:Int)=0)=False:=AAb;have tD:((x:Int)<48)=True:=AAa;exfalso;revert hb;simp[vU]<;>(intros;omega)
      ·skip
       by_cases cE:57<x
       ·skip
        have tA:((x:Int)<97)=True:=AAa;have tC:((i:Int)=0)=False:=AAb;have tD:((x:Int)<48)=False:=AAb;have tE:((57:Int)<(x:Int))=True:=AAa;exfalso;revert hb;simp[vU]<;>(intros;omega)
       ·skip
        have tA:((x:Int)<97)=True:=AAa;have tC:((i:Int)=0)=False:=AAb;have tD:((x:Int)<48)=False:=AAb;have tE:((57:Int)<(x:Int))=False:=AAb;(exact nJ i1 i2 a2 x3 lc gr n0 tA tC tD tE aE aE)
    ·skip
     by_cases cB:122<x
     ·skip
      by_cases cC:i=0
      ·skip
       have tA:((x:Int)<97)=False:=AAb;have tB:((122:Int)<(x:Int))=True:=AAa;have tC:((i:Int)=0)=True:=AAa;exfalso;revert hb;simp[vU]<;>(intros;omega)
      ·skip
       by_cases cD:x<48
       ·skip
        exfalso;omega
       ·skip
        by_cases cE:57<x
        ·skip
         have tA:((x:Int)<97)=False:=AAb;have tB:((122:Int)<(x:Int))=True:=AAa;have tC:((i:Int)=0)=False:=AAb;have tD:((x:Int)<48)=False:=AAb;have tE:((57:Int)<(x:Int))=True:=AAa;exfalso;revert hb;simp[vU]<;>(intros;omega)
        ·skip
         exfalso;omega
     ·skip
      have tA:((x:Int)<97)=False:=AAb;have tB:((122:Int)<(x:Int))=False:=AAb;(exact uO i1 i2 a2 x3 lc gr n0 tA tB)
   ·by_cases hm:m=s.size
    ·rw[hm]
     (exact dM e0)
    ·have hm':m<s.size:=AM
     obtain⟨x,x1,x2,x3⟩:=at0 m hm';have hb:=bad hm';rw[x1]at hb;have i1:((m:Int)<(s.size:Int))=True:=AAa;have i2:(m<s.size)=True:=AAp hm';by_cases cA:x<97
     ·skip
      by_cases cC:m=0
      ·skip
       have tA:((x:Int)<97)=True:=AAa;have tC:((m:Int)=0)=True:=AAa;(exact RS7 i1 i2 x3 lc gr tA tC)
      ·skip
       by_cases cD:x<48
       ·skip
        have tA:((x:Int)<97)=True:=AAa;have tC:((m:Int)=0)=False:=AAb;have tD:((x:Int)<48)=True:=AAa;(exact uO i1 i2 x3 lc gr tA tC tD aE)
       ·skip
        by_cases cE:57<x
        ·skip
         have tA:((x:Int)<97)=True:=AAa;have tC:((m:Int)=0)=False:=AAb;have tD:((x:Int)<48)=False:=AAb;have tE:((57:Int)<(x:Int))=True:=AAa;(exact uO i1 i2 x3 lc gr tA tC tD tE)
        ·skip
         have tA:((x:Int)<97)=True:=AAa;have tC:((m:Int)=0)=False:=AAb;have tD:((x:Int)<48)=False:=AAb;have tE:((57:Int)<(x:Int))=False:=AAb;exfalso;revert hb;simp[vU]<;>(intros;omega)
     ·skip
      by_cases cB:122<x
      ·skip
       by_cases cC:m=0
       ·skip
        have tA:((x:Int)<97)=False:=AAb;have tB:((122:Int)<(x:Int))=True:=AAa;have tC:((m:Int)=0)=True:=AAa;(exact uO i1 i2 x3 lc gr tA tB tC aE)
       ·skip
        by_cases cD:x<48
        ·skip
         exfalso;omega
        ·skip
         by_cases cE:57<x
         ·skip
          have tA:((x:Int)<97)=False:=AAb;have tB:((122:Int)<(x:Int))=True:=AAa;have tC:((m:Int)=0)=False:=AAb;have tD:((x:Int)<48)=False:=AAb;have tE:((57:Int)<(x:Int))=True:=AAa;(exact nN i1 i2 x3 lc gr tA tB tC tD tE)
         ·skip
          exfalso;omega
      ·skip
       have tA:((x:Int)<97)=False:=AAb;have tB:((122:Int)<(x:Int))=False:=AAb;exfalso;revert hb;simp[vU]<;>(intros;omega)
theorem uQ(n:Int):runW aB 58 [.bool true,I n] []=some (.tup [],[]):=by
 rw[qX 58 x58 rfl];unfold x58;dsimp only;(exact wO)
theorem c58(n:Int)(h:XH):CalP Tryz.prog aB 58 [.bool false,I n] h (.ifc 110 (.agg [I n])) h:=fun B Y r H as' _ sh hA=>aZu progX_ok.mixed .i64 n sh hA
def ent(ks:List ByteArray)(es:List Nat):List (AV×AV):=List.zipWith (fun k e=>(AV.str k,AV.pt e 0)) ks es
def dY:List ByteArray→ByteArray→Option Nat
 | [],_=>none
 | k::r,x=>if k=x then some 0 else (dY r x).map (· + 1)
theorem fV{x:ByteArray}:∀{ks:List ByteArray}{i:Nat},dY ks x=some i→ks[i]?=some x
 | [],_,h=>by cases h
 | k::r,i,h=>by
   unfold dY at h;split at h;·rename_i hk;cases h;rw[hk];rfl
   ·rw[A0]at h
    obtain⟨j,hj,rfl⟩:=h;rw[E6];exact fV hj
theorem oV{x:ByteArray}:∀{ks:List ByteArray},dY ks x=none↔x∉ks
 | []=>by simp[dY]
 | k::r=>by
   unfold dY;split;·rename_i hk;simp[hk]
   ·rename_i hk
    rw[aB7,oV,B3,not_or];exact⟨fun h=>⟨fun e=>hk e.symm,h⟩,fun h=>h.2⟩
theorem aFm{x:ByteArray}{ks:List ByteArray}(h:x∈ks):∃ i,dY ks x=some i:=by
 cases hn:dY ks x with
 | none=>exact absurd h (oV.1 hn)
 | some i=>exact⟨i,rfl⟩
theorem aFJ(a b:ByteArray):(a==b)=decide (a=b):=by
 by_cases h:a=b;·rw[AAl h];exact(uL a b).2 h
 ·rw[AAm h];exact aH1.2 fun e=>h ((uL a b).1 e)
theorem nC{x:ByteArray}:∀{ks:List ByteArray}{es:List Nat},ks.length=es.length→aO true (.str x) (ent ks es)=some (((dY ks x).bind fun i=>es[i]?).map fun e=>.pt e 0)
 | [],[],_=>rfl
 | k::ks,e::es,h=>by
   have ih:=nC (x:=x) (ks:=ks) (es:=es) (by simpa using h);show (match iU true (.str x) (.str k)with
    | some true=>some (some (AV.pt e 0))
    | some false=>aO true (.str x) (ent ks es)
    | none=>none)=_
   have hk:iU true (.str x) (.str k)=some (decide (x=k)):=AAt some (aFJ x k);rw[hk];unfold dY;by_cases hx:x=k;·rw[AAl hx,if_pos hx.symm];rfl
   ·rw[AAm hx,if_neg (fun e=>hx e.symm),ih]
    cases dY ks x<;>rfl
theorem xR{x:ByteArray}{v:AV}:∀{ks:List ByteArray}{es:List Nat},ks.length=es.length→dY ks x=none→jN true (.str x) v (ent ks es)=some (ent ks es++[(.str x,v)])
 | [],[],_,_=>rfl
 | k::ks,e::es,h,hn=>by
   have hx:¬x=k:=fun e=>(oV.1 hn) (by simp[e]);have hn2:dY ks x=none:=oV.2 fun hm=>(oV.1 hn) (by simp[hm]);have ih:=xR (x:=x) (v:=v) (ks:=ks) (es:=es) (by simpa using h) hn2;show (match iU true (.str x) (.str k)with
    | some true=>some ((AV.str k,v)::ent ks es)
    | some false=>(jN true (.str x) v (ent ks es)).map ((AV.str k,AV.pt e 0) :: ·)
    | none=>none)=_
   have hk:iU true (.str x) (.str k)=some (decide (x=k)):=AAt some (aFJ x k);rw[hk,AAm hx,ih];rfl
theorem sZ{ks:List ByteArray}{es:List Nat}(h:ks.length=es.length)(x:ByteArray)(e:Nat):ent (ks++[x]) (es++[e])=ent ks es++[(.str x,.pt e 0)]:=by
 unfold ent;rw[List.zipWith_append h];rfl
def iC(b n:Nat):AV:=if n=0 then .nilsl else .sl b 0 1 n

theorem w95{h:XH}{o m e:Nat}{g g2:Bool}{a b:AV}{es:List (AV×AV)}{x:ByteArray}(ho:hat h o=some (.blk g (.cells true [a,.mp m,b])))(hm:hat h m=some (.blk g2 (.map true es)))(hf:aO true (.str x) es=some (some (.pt e 0))) :
 runW aB 95 [.pt o 0,.str x] h=some (.pt e 0,h):=by
 rw[qY 95 x95 rfl];unfold x95;dsimp only;have c:=uQ 5;(exact vI ho hm hf c)
theorem c95{h:XH}{o m:Nat}{g g2:Bool}{a b:AV}{es:List (AV×AV)}{x:ByteArray}(ho:hat h o=some (.blk g (.cells true [a,.mp m,b])))(hm:hat h m=some (.blk g2 (.map true es)))(hf:aO true (.str x) es=some none) :
 CalP Tryz.prog aB 95 [.pt o 0,.str x] h (.ifc 110 (.agg [I 5])) h:=by
 refine CalP.of (d:=x95) (e':=bH [] []) aA rfl (by simp[x95]) rfl ?_;unfold x95;dsimp only;refine PanX.seqR (K:=95) aA rfl [0,1] (vs:=[.pt o 0,.str x]) (h1:=h) (by (exact wO)) ?_;refine PanX.seqR (K:=95) aA rfl [5] (vs:=[.nilpt]) (h1:=h) (by (exact RS3 ho hm hf)) ?_;refine PanX.seqL ?_;exact PanX.reg (p:=[⟨0,some 12,.mv (.t 5),none⟩,⟨0,some 13,.eqn 3 true (.t 12) (.c .nilpt),none⟩]) (post:=[]) aA [] (g:=58) (first:=[]) (cap:=[]) (args:=[.bool false,I 5]) (vs:=[]) (h1:=h) rfl rfl (by (exact wO)) (c58 5 h)
theorem w96{h:XH}{o m e:Nat}{g g2:Bool}{a b:AV}{es:List (AV×AV)}{x:ByteArray}(ho:hat h o=some (.blk g (.cells true [a,.mp m,b])))(hm:hat h m=some (.blk g2 (.map true es)))(hf:aO true (.str x) es=some (some (.pt e 0))) :
 runW aB 96 [.pt o 0,.str x] h=some (.pt e 0,h):=by
 rw[qY 96 x96 rfl];unfold x96;dsimp only;have c:=uQ 5;(exact vI ho hm hf c)
theorem c96{h:XH}{o m:Nat}{g g2:Bool}{a b:AV}{es:List (AV×AV)}{x:ByteArray}(ho:hat h o=some (.blk g (.cells true [a,.mp m,b])))(hm:hat h m=some (.blk g2 (.map true es)))(hf:aO true (.str x) es=some none) :
 CalP Tryz.prog aB 96 [.pt o 0,.str x] h (.ifc 110 (.agg [I 5])) h:=by
 refine CalP.of (d:=x96) (e':=bH [] []) aA rfl (by simp[x96]) rfl ?_;unfold x96;dsimp only;refine PanX.seqR (K:=96) aA rfl [0,1] (vs:=[.pt o 0,.str x]) (h1:=h) (by (exact wO)) ?_;refine PanX.seqR (K:=96) aA rfl [5] (vs:=[.nilpt]) (h1:=h) (by (exact RS3 ho hm hf)) ?_;refine PanX.seqL ?_;exact PanX.reg (p:=[⟨0,some 12,.mv (.t 5),none⟩,⟨0,some 13,.eqn 3 true (.t 12) (.c .nilpt),none⟩]) (post:=[]) aA [] (g:=58) (first:=[]) (cap:=[]) (args:=[.bool false,I 5]) (vs:=[]) (h1:=h) rfl rfl (by (exact wO)) (c58 5 h)
theorem w97{h:XH}{o m e:Nat}{g g2:Bool}{a b:AV}{es:List (AV×AV)}{x:ByteArray}(ho:hat h o=some (.blk g (.cells true [a,.mp m,b])))(hm:hat h m=some (.blk g2 (.map true es)))(hf:aO true (.str x) es=some (some (.pt e 0))) :
 runW aB 97 [.pt o 0,.str x] h=some (.pt e 0,h):=by
 rw[qY 97 x97 rfl];unfold x97;dsimp only;have c:=uQ 5;(exact vI ho hm hf c)
theorem c97{h:XH}{o m:Nat}{g g2:Bool}{a b:AV}{es:List (AV×AV)}{x:ByteArray}(ho:hat h o=some (.blk g (.cells true [a,.mp m,b])))(hm:hat h m=some (.blk g2 (.map true es)))(hf:aO true (.str x) es=some none) :
 CalP Tryz.prog aB 97 [.pt o 0,.str x] h (.ifc 110 (.agg [I 5])) h:=by
 refine CalP.of (d:=x97) (e':=bH [] []) aA rfl (by simp[x97]) rfl ?_;unfold x97;dsimp only;refine PanX.seqR (K:=97) aA rfl [0,1] (vs:=[.pt o 0,.str x]) (h1:=h) (by (exact wO)) ?_;refine PanX.seqR (K:=97) aA rfl [5] (vs:=[.nilpt]) (h1:=h) (by (exact RS3 ho hm hf)) ?_;refine PanX.seqL ?_;exact PanX.reg (p:=[⟨0,some 12,.mv (.t 5),none⟩,⟨0,some 13,.eqn 3 true (.t 12) (.c .nilpt),none⟩]) (post:=[]) aA [] (g:=58) (first:=[]) (cap:=[]) (args:=[.bool false,I 5]) (vs:=[]) (h1:=h) rfl rfl (by (exact wO)) (c58 5 h)
def qW(h:XH)(o m:Nat)(t:AV)(x:ByteArray)(es:List (AV×AV))(z:List AV):XH :=
 (h.set o (some (.blk false (.cells true [.sl (h.length+1) 0 1 1,.mp m,t])))).set m (some (.blk false (.map true (es++[(.str x,.pt (h.length+2) 0)]))))++[some (.blk true (.cells true [.str x])),some (.blk true (.cells true [.str x])),some (.blk true (.cells true z))]
def qZ(h:XH)(o m b:Nat)(t:AV)(x:ByteArray)(cs:List AV)(g3:Bool)(es:List (AV×AV))(z:List AV):XH :=
 ((h.set b none).set o (some (.blk false (.cells true [.sl (h.length+1) 0 1 (cs.length+1),.mp m,t])))).set m (some (.blk false (.map true (es++[(.str x,.pt (h.length+2) 0)]))))++[some (.blk true (.cells true [.str x])),some (.blk g3 (.cells true (cs++[.str x]))),some (.blk true (.cells true z))]
theorem aYA{h:XH}{o m e:Nat}{g g2:Bool}{a b:AV}{es:List (AV×AV)}{x:ByteArray}(ho:hat h o=some (.blk g (.cells true [a,.mp m,b])))(hm:hat h m=some (.blk g2 (.map true es)))(hf:aO true (.str x) es=some (some (.pt e 0))) :
 runW aB 87 [.pt o 0,.str x] h=some (.bool false,h):=by
 rw[qY 87 x87 rfl];unfold x87;dsimp only;(exact RS3 ho hm hf)
theorem aYz{h:XH}{o m:Nat}{g g2:Bool}{t:Int}{es:List (AV×AV)}{x:ByteArray}(ho:hat h o=some (.blk g (.cells true [.nilsl,.mp m,I t])))(hm:hat h m=some (.blk g2 (.map true es)))(hf:aO true (.str x) es=some none)(ht:((0:Int)=t)=False) :
 runW aB 87 [.pt o 0,.str x] h=some (.bool false,h):=by
 rw[qY 87 x87 rfl];unfold x87;dsimp only;(exact vI ho hm hf ht)
theorem aVq{h:XH}{o m b n:Nat}{g g2:Bool}{t:Int}{es:List (AV×AV)}{x:ByteArray}{w:Bool}(ho:hat h o=some (.blk g (.cells true [.sl b 0 1 n,.mp m,I t])))(hm:hat h m=some (.blk g2 (.map true es)))(hf:aO true (.str x) es=some none)(ht:((n:Int)=t)=if w then True else False) :
 runW aB 87 [.pt o 0,.str x] h=some (.bool w,h):=by
 rw[qY 87 x87 rfl];unfold x87;dsimp only;cases w<;>(exact vI ho hm hf ht)

theorem aYx{h:XH}{o m n:Nat}{g g2:Bool}{t:AV}{es:List (AV×AV)}{x:ByteArray}(hn:h.length=n)(on:(o<n)=True)(mn:(m<n)=True)(om:(o=m)=False)(mo:(m=o)=False)
 (ho:hat h o=some (.blk g (.cells true [.nilsl,.mp m,t]))) (hm:hat h m=some (.blk g2 (.map true es))) (hf:aO true (.str x) es=some none) (hp:jN true (.str x) (.pt (n+2) 0) es=some (es++[(.str x,.pt (n+2) 0)])) (hf2:aO true (.str x) (es++[(.str x,.pt (n+2) 0)])=some (some (.pt (n+2) 0))) :
 runW aB 89 [.pt o 0,.str x] h=some (.tup [.pt (n+2) 0,.bool true],qW h o m t x es [I 0]):=by
 rw[qY 89 x89 rfl];unfold x89 qW;dsimp only;(exact nN ho hm hf hn on mn om mo hp hf2)
theorem aYy{h:XH}{o m n b z:Nat}{g g2 g3:Bool}{t:AV}{cs:List AV}{es:List (AV×AV)}{x:ByteArray}(hn:h.length=n)(on:(o<n)=True)(mn:(m<n)=True)(bn:(b<n)=True)(om:(o=m)=False)(mo:(m=o)=False)(ob:(o=b)=False)(bo:(b=o)=False)(bm:(b=m)=False)(mb:(m=b)=False)
 (ho:hat h o=some (.blk g (.cells true [.sl b 0 1 z,.mp m,t]))) (hb:hat h b=some (.blk g3 (.cells true cs))) (hz:cs.length=z) (hz1:((z+1)*16≤1099511627776)=True) (hz2:(z+1≤1099511627776)=True) (hm:hat h m=some (.blk g2 (.map true es))) (hf:aO true (.str x) es=some none) (hp:jN true (.str x) (.pt (n+2) 0) es=some (es++[(.str x,.pt (n+2) 0)])) (hf2:aO true (.str x) (es++[(.str x,.pt (n+2) 0)])=some (some (.pt (n+2) 0))) :
 runW aB 89 [.pt o 0,.str x] h=some (.tup [.pt (n+2) 0,.bool true],qZ h o m b t x cs g3 es [I 0]):=by
 rw[qY 89 x89 rfl];unfold x89 qZ;dsimp only;(exact kO ho hm hf hn on mn om mo hp hf2 bn ob bo bm mb hb hz hz1 hz2 aE)
theorem aVI{h:XH}{o m e:Nat}{g g2:Bool}{a b:AV}{es:List (AV×AV)}{x:ByteArray}(ho:hat h o=some (.blk g (.cells true [a,.mp m,b])))(hm:hat h m=some (.blk g2 (.map true es)))(hf:aO true (.str x) es=some (some (.pt e 0))) :
 runW aB 131 [.pt o 0,.str x] h=some (.bool false,h):=by
 rw[qY 131 aFU rfl];unfold aFU;dsimp only;(exact RS3 ho hm hf)
theorem aVH{h:XH}{o m:Nat}{g g2:Bool}{t:Int}{es:List (AV×AV)}{x:ByteArray}(ho:hat h o=some (.blk g (.cells true [.nilsl,.mp m,I t])))(hm:hat h m=some (.blk g2 (.map true es)))(hf:aO true (.str x) es=some none)(ht:((0:Int)=t)=False) :
 runW aB 131 [.pt o 0,.str x] h=some (.bool false,h):=by
 rw[qY 131 aFU rfl];unfold aFU;dsimp only;(exact vI ho hm hf ht)
theorem aSf{h:XH}{o m b n:Nat}{g g2:Bool}{t:Int}{es:List (AV×AV)}{x:ByteArray}{w:Bool}(ho:hat h o=some (.blk g (.cells true [.sl b 0 1 n,.mp m,I t])))(hm:hat h m=some (.blk g2 (.map true es)))(hf:aO true (.str x) es=some none)(ht:((n:Int)=t)=if w then True else False) :
 runW aB 131 [.pt o 0,.str x] h=some (.bool w,h):=by
 rw[qY 131 aFU rfl];unfold aFU;dsimp only;cases w<;>(exact vI ho hm hf ht)

theorem aVG{h:XH}{o m e:Nat}{g g2:Bool}{a b:AV}{es:List (AV×AV)}{x:ByteArray}(ho:hat h o=some (.blk g (.cells true [a,.mp m,b])))(hm:hat h m=some (.blk g2 (.map true es)))(hf:aO true (.str x) es=some (some (.pt e 0))) :
 runW aB 133 [.pt o 0,.str x] h=some (.tup [.pt e 0,.bool false],h):=by
 rw[qY 133 aFT rfl];unfold aFT;dsimp only;(exact RS3 ho hm hf)
theorem aVE{h:XH}{o m n:Nat}{g g2:Bool}{t:AV}{es:List (AV×AV)}{x:ByteArray}(hn:h.length=n)(on:(o<n)=True)(mn:(m<n)=True)(om:(o=m)=False)(mo:(m=o)=False)
 (ho:hat h o=some (.blk g (.cells true [.nilsl,.mp m,t]))) (hm:hat h m=some (.blk g2 (.map true es))) (hf:aO true (.str x) es=some none) (hp:jN true (.str x) (.pt (n+2) 0) es=some (es++[(.str x,.pt (n+2) 0)])) (hf2:aO true (.str x) (es++[(.str x,.pt (n+2) 0)])=some (some (.pt (n+2) 0))) :
 runW aB 133 [.pt o 0,.str x] h=some (.tup [.pt (n+2) 0,.bool true],qW h o m t x es [I 0,I 0]):=by
 rw[qY 133 aFT rfl];unfold aFT qW;dsimp only;(exact nN ho hm hf hn on mn om mo hp hf2)
theorem aVF{h:XH}{o m n b z:Nat}{g g2 g3:Bool}{t:AV}{cs:List AV}{es:List (AV×AV)}{x:ByteArray}(hn:h.length=n)(on:(o<n)=True)(mn:(m<n)=True)(bn:(b<n)=True)(om:(o=m)=False)(mo:(m=o)=False)(ob:(o=b)=False)(bo:(b=o)=False)(bm:(b=m)=False)(mb:(m=b)=False)
 (ho:hat h o=some (.blk g (.cells true [.sl b 0 1 z,.mp m,t]))) (hb:hat h b=some (.blk g3 (.cells true cs))) (hz:cs.length=z) (hz1:((z+1)*16≤1099511627776)=True) (hz2:(z+1≤1099511627776)=True) (hm:hat h m=some (.blk g2 (.map true es))) (hf:aO true (.str x) es=some none) (hp:jN true (.str x) (.pt (n+2) 0) es=some (es++[(.str x,.pt (n+2) 0)])) (hf2:aO true (.str x) (es++[(.str x,.pt (n+2) 0)])=some (some (.pt (n+2) 0))) :
 runW aB 133 [.pt o 0,.str x] h=some (.tup [.pt (n+2) 0,.bool true],qZ h o m b t x cs g3 es [I 0,I 0]):=by
 rw[qY 133 aFT rfl];unfold aFT qZ;dsimp only;(exact kO ho hm hf hn on mn om mo hp hf2 bn ob bo bm mb hb hz hz1 hz2 aE)
theorem aVD{h:XH}{o m e:Nat}{g g2:Bool}{a b:AV}{es:List (AV×AV)}{x:ByteArray}(ho:hat h o=some (.blk g (.cells true [a,.mp m,b])))(hm:hat h m=some (.blk g2 (.map true es)))(hf:aO true (.str x) es=some (some (.pt e 0))) :
 runW aB 134 [.pt o 0,.str x] h=some (.bool false,h):=by
 rw[qY 134 aFS rfl];unfold aFS;dsimp only;(exact RS3 ho hm hf)
theorem aVC{h:XH}{o m:Nat}{g g2:Bool}{t:Int}{es:List (AV×AV)}{x:ByteArray}(ho:hat h o=some (.blk g (.cells true [.nilsl,.mp m,I t])))(hm:hat h m=some (.blk g2 (.map true es)))(hf:aO true (.str x) es=some none)(ht:((0:Int)=t)=False) :
 runW aB 134 [.pt o 0,.str x] h=some (.bool false,h):=by
 rw[qY 134 aFS rfl];unfold aFS;dsimp only;(exact vI ho hm hf ht)
theorem aSe{h:XH}{o m b n:Nat}{g g2:Bool}{t:Int}{es:List (AV×AV)}{x:ByteArray}{w:Bool}(ho:hat h o=some (.blk g (.cells true [.sl b 0 1 n,.mp m,I t])))(hm:hat h m=some (.blk g2 (.map true es)))(hf:aO true (.str x) es=some none)(ht:((n:Int)=t)=if w then True else False) :
 runW aB 134 [.pt o 0,.str x] h=some (.bool w,h):=by
 rw[qY 134 aFS rfl];unfold aFS;dsimp only;cases w<;>(exact vI ho hm hf ht)

theorem aVB{h:XH}{o m e:Nat}{g g2:Bool}{a b:AV}{es:List (AV×AV)}{x:ByteArray}(ho:hat h o=some (.blk g (.cells true [a,.mp m,b])))(hm:hat h m=some (.blk g2 (.map true es)))(hf:aO true (.str x) es=some (some (.pt e 0))) :
 runW aB 136 [.pt o 0,.str x] h=some (.tup [.pt e 0,.bool false],h):=by
 rw[qY 136 aFR rfl];unfold aFR;dsimp only;(exact RS3 ho hm hf)
theorem aVz{h:XH}{o m n:Nat}{g g2:Bool}{t:AV}{es:List (AV×AV)}{x:ByteArray}(hn:h.length=n)(on:(o<n)=True)(mn:(m<n)=True)(om:(o=m)=False)(mo:(m=o)=False)
 (ho:hat h o=some (.blk g (.cells true [.nilsl,.mp m,t]))) (hm:hat h m=some (.blk g2 (.map true es))) (hf:aO true (.str x) es=some none) (hp:jN true (.str x) (.pt (n+2) 0) es=some (es++[(.str x,.pt (n+2) 0)])) (hf2:aO true (.str x) (es++[(.str x,.pt (n+2) 0)])=some (some (.pt (n+2) 0))) :
 runW aB 136 [.pt o 0,.str x] h=some (.tup [.pt (n+2) 0,.bool true],qW h o m t x es [I 0]):=by
 rw[qY 136 aFR rfl];unfold aFR qW;dsimp only;(exact nN ho hm hf hn on mn om mo hp hf2)
theorem aVA{h:XH}{o m n b z:Nat}{g g2 g3:Bool}{t:AV}{cs:List AV}{es:List (AV×AV)}{x:ByteArray}(hn:h.length=n)(on:(o<n)=True)(mn:(m<n)=True)(bn:(b<n)=True)(om:(o=m)=False)(mo:(m=o)=False)(ob:(o=b)=False)(bo:(b=o)=False)(bm:(b=m)=False)(mb:(m=b)=False)
 (ho:hat h o=some (.blk g (.cells true [.sl b 0 1 z,.mp m,t]))) (hb:hat h b=some (.blk g3 (.cells true cs))) (hz:cs.length=z) (hz1:((z+1)*16≤1099511627776)=True) (hz2:(z+1≤1099511627776)=True) (hm:hat h m=some (.blk g2 (.map true es))) (hf:aO true (.str x) es=some none) (hp:jN true (.str x) (.pt (n+2) 0) es=some (es++[(.str x,.pt (n+2) 0)])) (hf2:aO true (.str x) (es++[(.str x,.pt (n+2) 0)])=some (some (.pt (n+2) 0))) :
 runW aB 136 [.pt o 0,.str x] h=some (.tup [.pt (n+2) 0,.bool true],qZ h o m b t x cs g3 es [I 0]):=by
 rw[qY 136 aFR rfl];unfold aFR qZ;dsimp only;(exact kO ho hm hf hn on mn om mo hp hf2 bn ob bo bm mb hb hz hz1 hz2 aE)
theorem aVL{h:XH}{o m e:Nat}{g g2:Bool}{a b:AV}{es:List (AV×AV)}{x:ByteArray}(ho:hat h o=some (.blk g (.cells true [a,.mp m,b])))(hm:hat h m=some (.blk g2 (.map true es)))(hf:aO true (.str x) es=some (some (.pt e 0))) :
 runW aB 129 [.pt o 0,.str x] h=some (.tup [.pt e 0,.bool false],h):=by
 rw[qY 129 aFV rfl];unfold aFV;dsimp only;(exact RS3 ho hm hf)
theorem aVJ{h:XH}{o m n:Nat}{g g2:Bool}{t:AV}{es:List (AV×AV)}{x:ByteArray}(hn:h.length=n)(on:(o<n)=True)(mn:(m<n)=True)(om:(o=m)=False)(mo:(m=o)=False)
 (ho:hat h o=some (.blk g (.cells true [.nilsl,.mp m,t]))) (hm:hat h m=some (.blk g2 (.map true es))) (hf:aO true (.str x) es=some none) (hp:jN true (.str x) (.pt (n+2) 0) es=some (es++[(.str x,.pt (n+2) 0)])) (hf2:aO true (.str x) (es++[(.str x,.pt (n+2) 0)])=some (some (.pt (n+2) 0))) :
 runW aB 129 [.pt o 0,.str x] h=some (.tup [.pt (n+2) 0,.bool true],qW h o m t x es [I 0]):=by
 rw[qY 129 aFV rfl];unfold aFV qW;dsimp only;(exact nN ho hm hf hn on mn om mo hp hf2)
theorem aVK{h:XH}{o m n b z:Nat}{g g2 g3:Bool}{t:AV}{cs:List AV}{es:List (AV×AV)}{x:ByteArray}(hn:h.length=n)(on:(o<n)=True)(mn:(m<n)=True)(bn:(b<n)=True)(om:(o=m)=False)(mo:(m=o)=False)(ob:(o=b)=False)(bo:(b=o)=False)(bm:(b=m)=False)(mb:(m=b)=False)
 (ho:hat h o=some (.blk g (.cells true [.sl b 0 1 z,.mp m,t]))) (hb:hat h b=some (.blk g3 (.cells true cs))) (hz:cs.length=z) (hz1:((z+1)*16≤1099511627776)=True) (hz2:(z+1≤1099511627776)=True) (hm:hat h m=some (.blk g2 (.map true es))) (hf:aO true (.str x) es=some none) (hp:jN true (.str x) (.pt (n+2) 0) es=some (es++[(.str x,.pt (n+2) 0)])) (hf2:aO true (.str x) (es++[(.str x,.pt (n+2) 0)])=some (some (.pt (n+2) 0))) :
 runW aB 129 [.pt o 0,.str x] h=some (.tup [.pt (n+2) 0,.bool true],qZ h o m b t x cs g3 es [I 0]):=by
 rw[qY 129 aFV rfl];unfold aFV qZ;dsimp only;(exact kO ho hm hf hn on mn om mo hp hf2 bn ob bo bm mb hb hz hz1 hz2 aE)
structure OL where
 o:Nat
 m:Nat
 b:Nat
 es:List Nat
def sBk(b:Nat)(cs:List AV):List (Nat×ABlk):=if cs.length=0 then [] else [(b,.cells true cs)]
def eB(es:List Nat)(vs:List (List AV)):List (Nat×ABlk):=List.zipWith (fun e v=>(e,ABlk.cells true v)) es vs
def vS(l:OL)(ks:List ByteArray)(vs:List (List AV))(t:Int):List (Nat×ABlk) :=
 (l.o,.cells true [iC l.b ks.length,.mp l.m,I t])::(l.m,.map true (ent ks l.es))::(sBk l.b (ks.map .str)++eB l.es vs)
def Hd(h:XH)(l:List (Nat×ABlk)):Prop:=(∀ p∈l,aG h p.1=some p.2)∧(l.map (·.1)).Nodup
structure Od(h:XH)(l:OL)(ks:List ByteArray)(vs:List (List AV))(t:Int):Prop where
 hd:Hd h (vS l ks vs t)
 ek:l.es.length=ks.length
 vk:vs.length=ks.length
structure Fr(J:List Nat)(h h':XH):Prop where
 keep:∀ b,b<h.length→b∉J→aG h' b=aG h b
 len:h.length≤h'.length
theorem Fr.refl(J:List Nat)(h:XH):Fr J h h:=⟨fun _ _ _=>rfl,A8 _⟩
theorem Fr.trans{J:List Nat}{h h1 h2:XH}(a:Fr J h h1)(b:Fr J h1 h2):Fr J h h2:=⟨fun x hx hn=>(b.keep x (G4 hx a.len) hn).trans (a.keep x hx hn),I2 a.len b.len⟩
theorem Fr.mono{J K:List Nat}{h h1:XH}(a:Fr J h h1)(s:∀ b,b∈J→b∈K):Fr K h h1:=⟨fun x hx hn=>a.keep x hx fun hm=>hn (s x hm),a.len⟩
theorem Fr.app(h k:XH):Fr [] h (h++k):=⟨fun b hb _=>by simp only[aG,cS];rw[if_pos hb],by simp⟩
theorem aC{h:XH}{b:Nat}{x:ABlk}(hb:aG h b=some x):∃ g,hat h b=some (.blk g x):=by
 unfold aG at hb;split at hb;·rename_i g y hy;cases hb;exact⟨g,hy⟩
 ·cases hb
theorem aNX{h:XH}{b:Nat}{g:Bool}{x:ABlk}(hb:hat h b=some (.blk g x)):aG h b=some x:=by
 unfold aG;rw[hb]
theorem aF{h:XH}{b:Nat}{x:ABlk}(hb:aG h b=some x):b<h.length:=by
 obtain⟨g,hg⟩:=aC hb;exact Classical.byContradiction fun hn=>by
  unfold hat at hg;rw[A1,D5 AM]at hg;cases hg
theorem cW{h:XH}{b j:Nat}{g:Bool}{x:ABlk}:aG (h.set b (some (.blk g x))) j=if j=b then (if b<h.length then some x else aG h j) else aG h j:=by
 simp only[aG,Pf];by_cases e:j=b
 ·by_cases l:b<h.length
  ·simp[e,l]
  ·simp[e,l]
 ·simp[e]
theorem aDX{h:XH}{b j:Nat}(hj:j≠b):aG (h.set b none) j=aG h j:=by
 simp only[aG,Pf,if_neg hj]
theorem fY{h k:XH}{j:Nat}:aG (h++k) j=if j<h.length then aG h j else aG k (j-h.length):=by
 simp only[aG,Pg];by_cases e:j<h.length;·simp[e]
 ·simp[e]
theorem aUq{es:List Nat}:∀{vs:List (List AV)},es.length=vs.length→(eB es vs).map (·.1)=es:=by
 induction es with
 | nil=>intro vs h;cases vs with
   | nil=>rfl
   | cons v r=>cases h
 | cons e r ih=>intro vs h;cases vs with
   | nil=>cases h
   | cons v w=>exact AAt (e :: ·) (ih (by simpa using h))
theorem aOv{es:List Nat}{vs:List (List AV)}{i e:Nat}{v:List AV}(he:es[i]?=some e)(hv:vs[i]?=some v):(e,ABlk.cells true v)∈eB es vs:=by
 refine A5 (i:=i) ?_;unfold eB;rw[List.getElem?_zipWith,he,hv]
theorem aRr{es:List Nat}{vs:List (List AV)}(h:es.length=vs.length)(e:Nat)(v:List AV):eB (es++[e]) (vs++[v])=eB es vs++[(e,.cells true v)]:=by
 unfold eB;rw[List.zipWith_append h];rfl
theorem aIw{es:List Nat}{vs:List (List AV)}{p:Nat×ABlk}(h:p∈eB es vs):∃(i:Nat)(e:Nat)(v:List AV),es[i]?=some e∧vs[i]?=some v∧p=(e,.cells true v):=by
 obtain⟨i,hi⟩:=I0 h;unfold eB at hi;rw[List.getElem?_zipWith]at hi;split at hi;·rename_i e v he hv;cases hi;exact⟨i,e,v,he,hv,rfl⟩
 ·cases hi
def idx(l:OL)(n:Nat):List Nat:=l.o::l.m::((if n=0 then [] else [l.b])++l.es)
theorem oS{l:OL}{ks:List ByteArray}{vs:List (List AV)}{t:Int}(h:l.es.length=vs.length):(vS l ks vs t).map (·.1)=idx l ks.length:=by
 unfold vS idx sBk;rw[D7,D7,F6,aUq h,A7];split<;>rfl
variable{h h':XH}{l:OL}{ks:List ByteArray}{vs:List (List AV)}{t:Int}{x:ByteArray}{i:Nat}
namespace Od
theorem ho(od:Od h l ks vs t):∃ g,hat h l.o=some (.blk g (.cells true [iC l.b ks.length,.mp l.m,I t])):=aC (od.hd.1 (l.o,_) (by simp[vS]))
theorem hm(od:Od h l ks vs t):∃ g,hat h l.m=some (.blk g (.map true (ent ks l.es))):=aC (od.hd.1 (l.m,_) (by simp[vS]))
theorem hb(od:Od h l ks vs t)(hk:0<ks.length):∃ g,hat h l.b=some (.blk g (.cells true (ks.map .str))):=aC (od.hd.1 (l.b,_) (by
 have:¬ks.length=0:=AM
 simp[vS,sBk,this]))
theorem he(od:Od h l ks vs t){e:Nat}{v:List AV}(he:l.es[i]?=some e)(hv:vs[i]?=some v):aG h e=some (.cells true v):=od.hd.1 (e,.cells true v) (by
 unfold vS;exact E5 _ (E5 _ (F7 _ (aOv he hv))))
theorem nd(od:Od h l ks vs t):(idx l ks.length).Nodup:=by
 rw[←oS (t:=t) (od.ek.trans od.vk.symm)];exact od.hd.2
theorem lt(od:Od h l ks vs t){b:Nat}(hb:b∈idx l ks.length):b<h.length:=by
 rw[←oS (ks:=ks) (t:=t) (od.ek.trans od.vk.symm)]at hb;obtain⟨p,hp,rfl⟩:=D6.1 hb;exact aF (od.hd.1 p hp)
theorem lts(od:Od h l ks vs t):l.o<h.length∧l.m<h.length∧(0<ks.length→l.b<h.length)∧∀ e∈l.es,e<h.length :=
 ⟨od.lt (by simp[idx]),od.lt (by simp[idx]),fun hk=>od.lt (by
  have:¬ks.length=0:=AM
  simp[idx,this]),fun e he=>od.lt (by simp[idx,he])⟩
theorem nes(od:Od h l ks vs t):l.o≠l.m∧(0<ks.length→l.o≠l.b∧l.m≠l.b∧l.b∉l.es)∧l.o∉l.es∧l.m∉l.es∧l.es.Nodup:=by
 have:=od.nd;unfold idx at this;rw[I8,I8,N4]at this;obtain⟨n1,n2,n3,n4,n5⟩:=this;refine⟨fun e=>n1 (by simp[e]),fun hk=>?_,fun e=>n1 (by simp[e]),fun e=>n2 (by simp[e]),n4⟩;have hz:¬ks.length=0:=AM
 rw[if_neg hz]at n1 n2 n5;exact⟨fun e=>n1 (by simp[e]),fun e=>n2 (by simp[e]),fun e=>n5 l.b (by simp) l.b e rfl⟩
theorem found(od:Od h l ks vs t)(hx:dY ks x=some i):∃ e v,l.es[i]?=some e∧vs[i]?=some v∧aO true (.str x) (ent ks l.es)=some (some (.pt e 0))∧aG h e=some (.cells true v):=by
 have h1:=fV hx;have h2:i<ks.length:=(A2.1 h1).1;have h3:=nC (x:=x) od.ek.symm;rw[hx]at h3;have k1:=A4 (l:=l.es) (i:=i) (by rw[od.ek];exact h2);have k2:=A4 (l:=vs) (i:=i) (by rw[od.vk];exact h2);rw[E7,k1]at h3;exact⟨_,_,k1,k2,h3,od.he k1 k2⟩
theorem miss(od:Od h l ks vs t)(hx:dY ks x=none):aO true (.str x) (ent ks l.es)=some none:=by
 have h3:=nC (x:=x) od.ek.symm;rw[hx]at h3;exact h3
theorem fr(od:Od h l ks vs t){J:List Nat}(f:Fr J h h')(hd:∀ b,b∈idx l ks.length→b∉J):Od h' l ks vs t:=by
 refine⟨⟨fun p hp=>?_,od.hd.2⟩,od.ek,od.vk⟩;have h1:=od.hd.1 p hp;have h2:p.1∈idx l ks.length:=by
  rw[←oS (ks:=ks) (t:=t) (od.ek.trans od.vk.symm)];exact O5 hp
 rw[f.keep p.1 (aF h1) (hd _ h2)];exact h1
theorem upd(od:Od h l ks vs t){e:Nat}{v:List AV}{g:Bool}(he:l.es[i]?=some e):Od (h.set e (some (.blk g (.cells true v)))) l ks (vs.set i v) t∧Fr [e] h (h.set e (some (.blk g (.cells true v)))):=by
 have hi:i<l.es.length:=(A2.1 he).1;have hm:e∈l.es:=A5 he;obtain⟨n1,n2,n3,n4,n5⟩:=od.nes;obtain⟨t1,t2,t3,t4⟩:=od.lts;have el:=t4 e hm;refine⟨⟨⟨fun p hp=>?_,?_⟩,od.ek,by rw[C9];exact od.vk⟩,⟨fun b _ hb=>by rw[cW,if_neg (by simpa using hb)],by simp⟩⟩
 ·unfold vS at hp
  rw[B3,B3,A9]at hp;have keep:∀ p,p∈vS l ks vs t→p.1≠e→aG (h.set e (some (.blk g (.cells true v)))) p.1=some p.2:=fun p hp hne=>by
   rw[cW,if_neg hne];exact od.hd.1 p hp
  rcases hp with rfl|rfl|hp|hp;·exact keep _ (by simp[vS]) fun q=>n3 (by rw[show l.o=e from q];exact hm)
  ·exact keep _ (by simp[vS]) fun q=>n4 (by rw[show l.m=e from q];exact hm)
  ·have hz:0<ks.length:=Nat.pos_of_ne_zero fun q=>by simp[sBk,q]at hp
   have hb:p=(l.b,.cells true (ks.map .str)):=by
    have hz2:¬ks.length=0:=AM
    simpa [sBk,hz2]using hp
   subst hb;exact keep _ (by simp[vS,hp]) fun q=>(n2 hz).2.2 (by rw[show l.b=e from q];exact hm)
  ·obtain⟨j,e2,v2,k1,k2,rfl⟩:=aIw hp
   by_cases hj:j=i
   ·subst hj
    rw[he]at k1;cases k1;have hv:v2=v:=by
     rw[O7 (by rw[od.vk,←od.ek];exact hi)]at k2;cases k2;rfl
    subst hv;rw[cW,if_pos rfl,if_pos el]
   ·rw[aC6 (fun q=>hj q.symm)]at k2
    refine keep _ (by unfold vS;exact E5 _ (E5 _ (F7 _ (aOv k1 k2)))) fun q=>hj ?_;have q1:e2=e:=q;subst q1;exact(aH2 (by exact(A2.1 k1).1) n5).1 (k1.trans he.symm)
 ·have h1:=od.nd
  rw[oS (by rw[C9];exact od.ek.trans od.vk.symm)];exact h1
end Od
end
section
variable{h h':XH}{l:OL}{ks:List ByteArray}{vs:List (List AV)}{t:Int}{x:ByteArray}{i:Nat}{z:List AV}
theorem uF{o m:Nat}{tv:AV}{es:List (AV×AV)}(ho:o<h.length)(hm:m<h.length)(om:o≠m)(j:Nat):aG (qW h o m tv x es z) j =
 if j=m then some (.map true (es++[(.str x,.pt (h.length+2) 0)])) else if j=o then some (.cells true [.sl (h.length+1) 0 1 1,.mp m,tv]) else if j<h.length then aG h j else
 if j=h.length then some (.cells true [.str x]) else if j=h.length+1 then some (.cells true [.str x]) else if j=h.length+2 then some (.cells true z) else none:=by
 unfold qW;rw[fY,cW,cW];simp only[C9];by_cases jm:j=m;·subst jm;simp[hm]
 ·by_cases jo:j=o
  ·subst jo;simp[om,ho]
  ·by_cases jl:j<h.length
   ·simp[jm,jo,jl]
   ·simp only[jm,jo,jl,AAd]
    by_cases j0:j=h.length;·subst j0;simp[aG,hat]
    ·by_cases j1:j=h.length+1
     ·subst j1;simp[aG,hat]
     ·by_cases j2:j=h.length+2
      ·subst j2;simp[aG,hat]
      ·simp only[j0,j1,j2,AAd]
       unfold aG hat;rw[A1,D5 (by simp;omega)];rfl
theorem uG{o m b:Nat}{tv:AV}{cs:List AV}{g3:Bool}{es:List (AV×AV)}(ho:o<h.length)(hm:m<h.length)(om:o≠m)(j:Nat)(jb:j≠b):aG (qZ h o m b tv x cs g3 es z) j =
 if j=m then some (.map true (es++[(.str x,.pt (h.length+2) 0)])) else if j=o then some (.cells true [.sl (h.length+1) 0 1 (cs.length+1),.mp m,tv]) else if j<h.length then aG h j else
 if j=h.length then some (.cells true [.str x]) else if j=h.length+1 then some (.cells true (cs++[.str x])) else if j=h.length+2 then some (.cells true z) else none:=by
 unfold qZ;rw[fY,cW,cW,aDX jb];simp only[C9];by_cases jm:j=m;·subst jm;simp[hm]
 ·by_cases jo:j=o
  ·subst jo;simp[om,ho]
  ·by_cases jl:j<h.length
   ·simp[jm,jo,jl]
   ·simp only[jm,jo,jl,AAd]
    by_cases j0:j=h.length;·subst j0;simp[aG,hat]
    ·by_cases j1:j=h.length+1
     ·subst j1;simp[aG,hat]
     ·by_cases j2:j=h.length+2
      ·subst j2;simp[aG,hat]
      ·simp only[j0,j1,j2,AAd]
       unfold aG hat;rw[A1,D5 (by simp;omega)];rfl
theorem Od.putG(od:Od h l ks vs t)(hl:h'.length=h.length+3)
 (hp:∀ j,(0<ks.length→j≠l.b)→aG h' j=if j=l.m then some (.map true (ent ks l.es++[(.str x,.pt (h.length+2) 0)])) else if j=l.o then some (.cells true [.sl (h.length+1) 0 1 (ks.length+1),.mp l.m,I t]) else if j<h.length then aG h j else
 if j=h.length then some (.cells true [.str x]) else if j=h.length+1 then some (.cells true (ks.map .str++[.str x])) else if j=h.length+2 then some (.cells true z) else none) :
 Od h' ⟨l.o,l.m,h.length+1,l.es++[h.length+2]⟩ (ks++[x]) (vs++[z]) t∧Fr (idx l ks.length) h h':=by
 obtain⟨n1,n2,n3,n4,n5⟩:=od.nes;obtain⟨t1,t2,t3,t4⟩:=od.lts;have ev:=od.ek.trans od.vk.symm;refine⟨⟨⟨fun p hp'=>?_,?_⟩,by simp[od.ek],by simp[od.vk]⟩,⟨fun b hb hn=>?_,by omega⟩⟩
 ·unfold vS at hp'
  rw[aRr ev,sZ od.ek.symm]at hp';rw[B3,B3,A9,A9]at hp';rcases hp' with rfl|rfl|hp'|hp'|hp'
  ·have:iC (h.length+1) (ks++[x]).length = .sl (h.length+1) 0 1 (ks.length+1):=by simp[iC]
   rw[this,hp l.o (fun hk=>(n2 hk).1),if_neg n1,if_pos rfl]
  ·rw[hp l.m (fun hk=>(n2 hk).2.1),if_pos rfl]
  ·have hb:p=(h.length+1,.cells true (ks.map .str++[.str x])):=by simpa [sBk]using hp'
   subst hb;rw[hp _ (fun hk=>by have:=t3 hk;show h.length+1≠l.b;omega)];rw[if_neg (by show h.length+1≠l.m;omega),if_neg (by show h.length+1≠l.o;omega),if_neg (by show ¬h.length+1<h.length;omega),if_neg (by show ¬h.length+1=h.length;omega),if_pos rfl]
  ·obtain⟨j,e2,v2,k1,k2,rfl⟩:=aIw hp'
   have me:=A5 k1;have le:=t4 _ me;rw[hp e2 (fun hk q=>(n2 hk).2.2 (by rw[←q];exact me)),if_neg (fun q:e2=l.m=>n4 (by rw[←q];exact me)),if_neg (fun q:e2=l.o=>n3 (by rw[←q];exact me)),if_pos le];exact od.he k1 k2
  ·rw[B2]at hp'
   subst hp';rw[hp _ (fun hk=>by have:=t3 hk;show h.length+2≠l.b;omega)];rw[if_neg (by show h.length+2≠l.m;omega),if_neg (by show h.length+2≠l.o;omega),if_neg (by show ¬h.length+2<h.length;omega),if_neg (by show ¬h.length+2=h.length;omega),if_neg (by show ¬h.length+2=h.length+1;omega),if_pos rfl]
 ·rw[oS (by simp[ev])]
  unfold idx;simp only[B6,aA2,Nat.add_eq_zero_iff,Nat.succ_ne_self,and_false,AAd,I8,N4,A9,B2,B3,not_or,G6,AAr,AAk,aC3,AAj];refine⟨⟨n1,by omega,n3,by omega⟩,⟨by omega,n4,by omega⟩,⟨n5,fun a ha b hb=>?_⟩,fun a ha b hb=>?_⟩
  ·rcases hb with rfl|hb
   ·have:=t4 a ha;omega
   ·exact hb.elim
  ·rcases ha with rfl|ha
   ·rcases hb with hb|hb|hb
    ·have:=t4 b hb;omega
    ·omega
    ·exact hb.elim
   ·exact ha.elim
 ·have hb1:b≠l.o∧b≠l.m∧(0<ks.length→b≠l.b):=by
   unfold idx at hn;refine⟨fun q=>hn (by simp[q]),fun q=>hn (by simp[q]),fun hk q=>hn ?_⟩;have:¬ks.length=0:=AM
   simp[q,this]
  rw[hp b hb1.2.2,if_neg hb1.2.1,if_neg hb1.1,if_pos hb]
theorem sH:∀{ks:List ByteArray},dY ks x=none→dY (ks++[x]) x=some ks.length
 | [],_=>by simp[dY]
 | k::r,h=>by
   unfold dY at h;split at h;·cases h
   ·rename_i hk
    rw[aB7]at h;show (if k=x then some 0 else (dY (r++[x]) x).map (· + 1))=_;rw[if_neg hk,sH h];rfl
theorem aIc{α:Type}{l:List α}(h:¬0<l.length):l=[]:=B8 AM
theorem yS{p:Prop}(h:p):p=True:=AAp h
theorem vG{p:Prop}(h:¬p):p=False:=AAq h
theorem Od.getf(od:Od h l ks vs t)(hx:dY ks x=some i):∃ e v,l.es[i]?=some e∧vs[i]?=some v∧aG h e=some (.cells true v)∧runW aB 95 [.pt l.o 0,.str x] h=some (.pt e 0,h):=by
 obtain⟨g1,ho⟩:=od.ho;obtain⟨g2,hm⟩:=od.hm;obtain⟨e,v,k1,k2,k3,k4⟩:=od.found hx;exact⟨e,v,k1,k2,k4,w95 ho hm k3⟩
theorem Od.nonef(od:Od h l ks vs t)(hx:dY ks x=none):CalP Tryz.prog aB 95 [.pt l.o 0,.str x] h (.ifc 110 (.agg [I 5])) h:=by
 obtain⟨g1,ho⟩:=od.ho;obtain⟨g2,hm⟩:=od.hm;exact c95 ho hm (od.miss hx)
theorem Od.fullf(od:Od h l ks vs t)(ht:0<t):runW aB 87 [.pt l.o 0,.str x] h=some (.bool (decide (dY ks x=none)&&decide ((ks.length:Int)=t)),h):=by
 obtain⟨g1,ho⟩:=od.ho;obtain⟨g2,hm⟩:=od.hm;cases hx:dY ks x with
 | some i =>
   obtain⟨e,v,k1,k2,k3,k4⟩:=od.found hx;rw[aYA ho hm k3];rfl
 | none =>
   by_cases hk:0<ks.length
   ·have hv:iC l.b ks.length = .sl l.b 0 1 ks.length:=by unfold iC;rw[if_neg AM]
    rw[hv]at ho;by_cases hw:(ks.length:Int)=t;·rw[aVq (w:=true) ho hm (od.miss hx) (by simp[hw])];simp[hw]
    ·rw[aVq (w:=false) ho hm (od.miss hx) (by simp[hw])];simp[hw]
   ·have h0:ks=[]:=aIc hk
    have hz:((0:Int)=t)=False:=AAb;subst h0;rw[aYz (t:=t) (by simpa [iC]using ho) hm (od.miss hx) hz];have:decide (((([]:List ByteArray).length:Nat):Int)=t)=false:=AAm (by simpa using hz);rw[this];simp
theorem Od.newf(od:Od h l ks vs t)(hx:dY ks x=none)(hk:ks.length≤1000):∃ h',runW aB 89 [.pt l.o 0,.str x] h=some (.tup [.pt (h.length+2) 0,.bool true],h')∧h'.length=h.length+3∧Od h' ⟨l.o,l.m,h.length+1,l.es++[h.length+2]⟩ (ks++[x]) (vs++[[I 0]]) t∧Fr (idx l ks.length) h h':=by
 obtain⟨n1,n2,n3,n4,n5⟩:=od.nes;obtain⟨t1,t2,t3,t4⟩:=od.lts;obtain⟨g1,ho⟩:=od.ho;obtain⟨g2,hm⟩:=od.hm;have hf:=od.miss hx;have hp:=xR (v:=.pt (h.length+2) 0) od.ek.symm hx;have hf2:aO true (.str x) (ent ks l.es++[(.str x,.pt (h.length+2) 0)])=some (some (.pt (h.length+2) 0)):=by
  rw[←sZ od.ek.symm,nC (by simp[od.ek])];rw[sH hx];simp[←od.ek]
 by_cases k0:0<ks.length
 ·have hv:iC l.b ks.length = .sl l.b 0 1 ks.length:=by unfold iC;rw[if_neg AM]
  rw[hv]at ho;obtain⟨g3,hb⟩:=od.hb k0;obtain⟨n6,n7,n8⟩:=n2 k0;have t5:=t3 k0;refine⟨_,aYy rfl (yS t1) (yS t2) (yS t5) (vG n1) (vG (Ne.symm n1)) (vG n6) (vG (Ne.symm n6)) (vG (Ne.symm n7)) (vG n7) ho hb (by simp) (yS AM) (yS AM) hm hf hp hf2,by simp[qZ],?_⟩;exact Od.putG od (by simp[qZ]) fun j hj=>by
   rw[uG t1 t2 n1 j (hj k0)];simp
 ·have h0:ks=[]:=aIc k0
  subst h0;refine⟨_,aYx rfl (yS t1) (yS t2) (vG n1) (vG (Ne.symm n1)) (by simpa [iC]using ho) hm hf hp hf2,by simp[qW],?_⟩;exact Od.putG od (by simp[qW]) fun j hj=>by
   rw[uF t1 t2 n1 j];rfl
theorem Od.getm(od:Od h l ks vs t)(hx:dY ks x=some i):∃ e v,l.es[i]?=some e∧vs[i]?=some v∧aG h e=some (.cells true v)∧runW aB 96 [.pt l.o 0,.str x] h=some (.pt e 0,h):=by
 obtain⟨g1,ho⟩:=od.ho;obtain⟨g2,hm⟩:=od.hm;obtain⟨e,v,k1,k2,k3,k4⟩:=od.found hx;exact⟨e,v,k1,k2,k4,w96 ho hm k3⟩
theorem Od.nonem(od:Od h l ks vs t)(hx:dY ks x=none):CalP Tryz.prog aB 96 [.pt l.o 0,.str x] h (.ifc 110 (.agg [I 5])) h:=by
 obtain⟨g1,ho⟩:=od.ho;obtain⟨g2,hm⟩:=od.hm;exact c96 ho hm (od.miss hx)
theorem Od.fullm(od:Od h l ks vs t)(ht:0<t):runW aB 131 [.pt l.o 0,.str x] h=some (.bool (decide (dY ks x=none)&&decide ((ks.length:Int)=t)),h):=by
 obtain⟨g1,ho⟩:=od.ho;obtain⟨g2,hm⟩:=od.hm;cases hx:dY ks x with
 | some i =>
   obtain⟨e,v,k1,k2,k3,k4⟩:=od.found hx;rw[aVI ho hm k3];rfl
 | none =>
   by_cases hk:0<ks.length
   ·have hv:iC l.b ks.length = .sl l.b 0 1 ks.length:=by unfold iC;rw[if_neg AM]
    rw[hv]at ho;by_cases hw:(ks.length:Int)=t;·rw[aSf (w:=true) ho hm (od.miss hx) (by simp[hw])];simp[hw]
    ·rw[aSf (w:=false) ho hm (od.miss hx) (by simp[hw])];simp[hw]
   ·have h0:ks=[]:=aIc hk
    have hz:((0:Int)=t)=False:=AAb;subst h0;rw[aVH (t:=t) (by simpa [iC]using ho) hm (od.miss hx) hz];have:decide (((([]:List ByteArray).length:Nat):Int)=t)=false:=AAm (by simpa using hz);rw[this];simp
theorem Od.oldm(od:Od h l ks vs t)(hx:dY ks x=some i):∃ e v,l.es[i]?=some e∧vs[i]?=some v∧aG h e=some (.cells true v)∧runW aB 133 [.pt l.o 0,.str x] h=some (.tup [.pt e 0,.bool false],h):=by
 obtain⟨g1,ho⟩:=od.ho;obtain⟨g2,hm⟩:=od.hm;obtain⟨e,v,k1,k2,k3,k4⟩:=od.found hx;exact⟨e,v,k1,k2,k4,aVG ho hm k3⟩
theorem Od.newm(od:Od h l ks vs t)(hx:dY ks x=none)(hk:ks.length≤1000):∃ h',runW aB 133 [.pt l.o 0,.str x] h=some (.tup [.pt (h.length+2) 0,.bool true],h')∧h'.length=h.length+3∧Od h' ⟨l.o,l.m,h.length+1,l.es++[h.length+2]⟩ (ks++[x]) (vs++[[I 0,I 0]]) t∧Fr (idx l ks.length) h h':=by
 obtain⟨n1,n2,n3,n4,n5⟩:=od.nes;obtain⟨t1,t2,t3,t4⟩:=od.lts;obtain⟨g1,ho⟩:=od.ho;obtain⟨g2,hm⟩:=od.hm;have hf:=od.miss hx;have hp:=xR (v:=.pt (h.length+2) 0) od.ek.symm hx;have hf2:aO true (.str x) (ent ks l.es++[(.str x,.pt (h.length+2) 0)])=some (some (.pt (h.length+2) 0)):=by
  rw[←sZ od.ek.symm,nC (by simp[od.ek])];rw[sH hx];simp[←od.ek]
 by_cases k0:0<ks.length
 ·have hv:iC l.b ks.length = .sl l.b 0 1 ks.length:=by unfold iC;rw[if_neg AM]
  rw[hv]at ho;obtain⟨g3,hb⟩:=od.hb k0;obtain⟨n6,n7,n8⟩:=n2 k0;have t5:=t3 k0;refine⟨_,aVF rfl (yS t1) (yS t2) (yS t5) (vG n1) (vG (Ne.symm n1)) (vG n6) (vG (Ne.symm n6)) (vG (Ne.symm n7)) (vG n7) ho hb (by simp) (yS AM) (yS AM) hm hf hp hf2,by simp[qZ],?_⟩;exact Od.putG od (by simp[qZ]) fun j hj=>by
   rw[uG t1 t2 n1 j (hj k0)];simp
 ·have h0:ks=[]:=aIc k0
  subst h0;refine⟨_,aVE rfl (yS t1) (yS t2) (vG n1) (vG (Ne.symm n1)) (by simpa [iC]using ho) hm hf hp hf2,by simp[qW],?_⟩;exact Od.putG od (by simp[qW]) fun j hj=>by
   rw[uF t1 t2 n1 j];rfl
theorem Od.getp(od:Od h l ks vs t)(hx:dY ks x=some i):∃ e v,l.es[i]?=some e∧vs[i]?=some v∧aG h e=some (.cells true v)∧runW aB 97 [.pt l.o 0,.str x] h=some (.pt e 0,h):=by
 obtain⟨g1,ho⟩:=od.ho;obtain⟨g2,hm⟩:=od.hm;obtain⟨e,v,k1,k2,k3,k4⟩:=od.found hx;exact⟨e,v,k1,k2,k4,w97 ho hm k3⟩
theorem Od.nonep(od:Od h l ks vs t)(hx:dY ks x=none):CalP Tryz.prog aB 97 [.pt l.o 0,.str x] h (.ifc 110 (.agg [I 5])) h:=by
 obtain⟨g1,ho⟩:=od.ho;obtain⟨g2,hm⟩:=od.hm;exact c97 ho hm (od.miss hx)
theorem Od.fullp(od:Od h l ks vs t)(ht:0<t):runW aB 134 [.pt l.o 0,.str x] h=some (.bool (decide (dY ks x=none)&&decide ((ks.length:Int)=t)),h):=by
 obtain⟨g1,ho⟩:=od.ho;obtain⟨g2,hm⟩:=od.hm;cases hx:dY ks x with
 | some i =>
   obtain⟨e,v,k1,k2,k3,k4⟩:=od.found hx;rw[aVD ho hm k3];rfl
 | none =>
   by_cases hk:0<ks.length
   ·have hv:iC l.b ks.length = .sl l.b 0 1 ks.length:=by unfold iC;rw[if_neg AM]
    rw[hv]at ho;by_cases hw:(ks.length:Int)=t;·rw[aSe (w:=true) ho hm (od.miss hx) (by simp[hw])];simp[hw]
    ·rw[aSe (w:=false) ho hm (od.miss hx) (by simp[hw])];simp[hw]
   ·have h0:ks=[]:=aIc hk
    have hz:((0:Int)=t)=False:=AAb;subst h0;rw[aVC (t:=t) (by simpa [iC]using ho) hm (od.miss hx) hz];have:decide (((([]:List ByteArray).length:Nat):Int)=t)=false:=AAm (by simpa using hz);rw[this];simp
theorem Od.oldp(od:Od h l ks vs t)(hx:dY ks x=some i):∃ e v,l.es[i]?=some e∧vs[i]?=some v∧aG h e=some (.cells true v)∧runW aB 136 [.pt l.o 0,.str x] h=some (.tup [.pt e 0,.bool false],h):=by
 obtain⟨g1,ho⟩:=od.ho;obtain⟨g2,hm⟩:=od.hm;obtain⟨e,v,k1,k2,k3,k4⟩:=od.found hx;exact⟨e,v,k1,k2,k4,aVB ho hm k3⟩
theorem Od.newp(od:Od h l ks vs t)(hx:dY ks x=none)(hk:ks.length≤1000):∃ h',runW aB 136 [.pt l.o 0,.str x] h=some (.tup [.pt (h.length+2) 0,.bool true],h')∧h'.length=h.length+3∧Od h' ⟨l.o,l.m,h.length+1,l.es++[h.length+2]⟩ (ks++[x]) (vs++[[I 0]]) t∧Fr (idx l ks.length) h h':=by
 obtain⟨n1,n2,n3,n4,n5⟩:=od.nes;obtain⟨t1,t2,t3,t4⟩:=od.lts;obtain⟨g1,ho⟩:=od.ho;obtain⟨g2,hm⟩:=od.hm;have hf:=od.miss hx;have hp:=xR (v:=.pt (h.length+2) 0) od.ek.symm hx;have hf2:aO true (.str x) (ent ks l.es++[(.str x,.pt (h.length+2) 0)])=some (some (.pt (h.length+2) 0)):=by
  rw[←sZ od.ek.symm,nC (by simp[od.ek])];rw[sH hx];simp[←od.ek]
 by_cases k0:0<ks.length
 ·have hv:iC l.b ks.length = .sl l.b 0 1 ks.length:=by unfold iC;rw[if_neg AM]
  rw[hv]at ho;obtain⟨g3,hb⟩:=od.hb k0;obtain⟨n6,n7,n8⟩:=n2 k0;have t5:=t3 k0;refine⟨_,aVA rfl (yS t1) (yS t2) (yS t5) (vG n1) (vG (Ne.symm n1)) (vG n6) (vG (Ne.symm n6)) (vG (Ne.symm n7)) (vG n7) ho hb (by simp) (yS AM) (yS AM) hm hf hp hf2,by simp[qZ],?_⟩;exact Od.putG od (by simp[qZ]) fun j hj=>by
   rw[uG t1 t2 n1 j (hj k0)];simp
 ·have h0:ks=[]:=aIc k0
  subst h0;refine⟨_,aVz rfl (yS t1) (yS t2) (vG n1) (vG (Ne.symm n1)) (by simpa [iC]using ho) hm hf hp hf2,by simp[qW],?_⟩;exact Od.putG od (by simp[qW]) fun j hj=>by
   rw[uF t1 t2 n1 j];rfl
theorem Od.oldw(od:Od h l ks vs t)(hx:dY ks x=some i):∃ e v,l.es[i]?=some e∧vs[i]?=some v∧aG h e=some (.cells true v)∧runW aB 129 [.pt l.o 0,.str x] h=some (.tup [.pt e 0,.bool false],h):=by
 obtain⟨g1,ho⟩:=od.ho;obtain⟨g2,hm⟩:=od.hm;obtain⟨e,v,k1,k2,k3,k4⟩:=od.found hx;exact⟨e,v,k1,k2,k4,aVL ho hm k3⟩
theorem Od.neww(od:Od h l ks vs t)(hx:dY ks x=none)(hk:ks.length≤1000):∃ h',runW aB 129 [.pt l.o 0,.str x] h=some (.tup [.pt (h.length+2) 0,.bool true],h')∧h'.length=h.length+3∧Od h' ⟨l.o,l.m,h.length+1,l.es++[h.length+2]⟩ (ks++[x]) (vs++[[I 0]]) t∧Fr (idx l ks.length) h h':=by
 obtain⟨n1,n2,n3,n4,n5⟩:=od.nes;obtain⟨t1,t2,t3,t4⟩:=od.lts;obtain⟨g1,ho⟩:=od.ho;obtain⟨g2,hm⟩:=od.hm;have hf:=od.miss hx;have hp:=xR (v:=.pt (h.length+2) 0) od.ek.symm hx;have hf2:aO true (.str x) (ent ks l.es++[(.str x,.pt (h.length+2) 0)])=some (some (.pt (h.length+2) 0)):=by
  rw[←sZ od.ek.symm,nC (by simp[od.ek])];rw[sH hx];simp[←od.ek]
 by_cases k0:0<ks.length
 ·have hv:iC l.b ks.length = .sl l.b 0 1 ks.length:=by unfold iC;rw[if_neg AM]
  rw[hv]at ho;obtain⟨g3,hb⟩:=od.hb k0;obtain⟨n6,n7,n8⟩:=n2 k0;have t5:=t3 k0;refine⟨_,aVK rfl (yS t1) (yS t2) (yS t5) (vG n1) (vG (Ne.symm n1)) (vG n6) (vG (Ne.symm n6)) (vG (Ne.symm n7)) (vG n7) ho hb (by simp) (yS AM) (yS AM) hm hf hp hf2,by simp[qZ],?_⟩;exact Od.putG od (by simp[qZ]) fun j hj=>by
   rw[uG t1 t2 n1 j (hj k0)];simp
 ·have h0:ks=[]:=aIc k0
  subst h0;refine⟨_,aVJ rfl (yS t1) (yS t2) (vG n1) (vG (Ne.symm n1)) (by simpa [iC]using ho) hm hf hp hf2,by simp[qW],?_⟩;exact Od.putG od (by simp[qW]) fun j hj=>by
   rw[uF t1 t2 n1 j];rfl
structure CL where
 c:Nat
 tb:Nat
 kb:Nat
 te:List Nat
 f:OL
 m:OL
 p:OL
 w:OL
def tkC(k:CTk):List AV:=[.str k.wagon,.str k.farmer,I k.net,.bool k.void,.bool false]
def bY(L:CL)(s:dR):List AV:=[.pt L.f.o 0,.pt L.m.o 0,.pt L.p.o 0,.pt L.w.o 0,iC L.tb s.tickets.length,I s.closed,iC L.kb s.book.length]
def mX(b n:Nat):List Nat:=if n=0 then [] else [b]
def px(L:CL)(s:dR):Nat→List Nat
 | 0=>[L.c]
 | 1=>mX L.tb s.tickets.length++L.te
 | 2=>mX L.kb s.book.length
 | 3=>idx L.f s.farmers.length
 | 4=>idx L.m s.meters.length
 | 5=>idx L.p s.pans.length
 | 6=>idx L.w s.wagons.length
 | _=>[]
structure Tk(h:XH)(tb:Nat)(te:List Nat)(ks:List CTk):Prop where
 el:te.length=ks.length
 hb:0<ks.length→aG h tb=some (.cells true (te.map fun e=>.pt e 0))
 he:∀(i e:Nat)(k:CTk),te[i]?=some e→ks[i]?=some k→aG h e=some (.cells true (tkC k))
 nd:te.Nodup
 nb:0<ks.length→tb∉te
structure Lays(h:XH)(L:CL)(s:dR):Prop where
 hc:aG h L.c=some (.cells true (bY L s))
 tk:Tk h L.tb L.te s.tickets
 bk:0<s.book.length→aG h L.kb=some (.cells true (s.book.map .str))
 f:Od h L.f (s.farmers.map (·.1)) (s.farmers.map fun p=>[I p.2]) 9
 m:Od h L.m (s.meters.map (·.1)) (s.meters.map fun p=>[I p.2.1,I p.2.2]) 5
 p:Od h L.p (s.pans.map (·.1)) (s.pans.map fun p=>[I p.2]) 5
 w:Od h L.w (s.wagons.map (·.1)) (s.wagons.map fun p=>[I p.2]) 300
 dj:∀ i j b,b∈px L s i→b∈px L s j→i=j
variable{h h':XH}{L:CL}{s:dR}
theorem bQ{b n x:Nat}:x∈mX b n↔0<n∧x=b:=by
 unfold mX;split;·rename_i h;simp[h]
 ·rename_i h;simp[Nat.pos_of_ne_zero h]
theorem yJ{P P':Nat→List Nat}(J:Nat→Prop)[DecidablePred J]{n:Nat}(dj:∀ i j b,b∈P i→b∈P j→i=j)(lt:∀ j b,b∈P j→b<n)(same:∀ j,¬J j→P' j=P j)(sub:∀ j b,J j→b∈P' j→b∈P j∨n≤b)(own:∀ i j b,J i→J j→b∈P' i→b∈P' j→n≤b→i=j):∀ i j b,b∈P' i→b∈P' j→i=j:=by
 intro i j b hi hj;by_cases ii:J i
 ·by_cases jj:J j
  ·rcases sub i b ii hi with h1|h1
   ·rcases sub j b jj hj with h2|h2
    ·exact dj i j b h1 h2
    ·have:=lt i b h1;omega
   ·exact own i j b ii jj hi hj h1
  ·rw[same j jj]at hj
   rcases sub i b ii hi with h1|h1;·exact dj i j b h1 hj
   ·have:=lt j b hj;omega
 ·rw[same i ii]at hi
  by_cases jj:J j
  ·rcases sub j b jj hj with h2|h2
   ·exact dj i j b hi h2
   ·have:=lt i b hi;omega
  ·rw[same j jj]at hj
   exact dj i j b hi hj
namespace Tk
variable{tb:Nat}{te:List Nat}{ks:List CTk}
theorem lts(t:Tk h tb te ks):(0<ks.length→tb<h.length)∧∀ e∈te,e<h.length:=by
 refine⟨fun hk=>aF (t.hb hk),fun e he=>?_⟩;obtain⟨i,hi⟩:=I0 he;have h2:i<ks.length:=by rw[←t.el];exact(A2.1 hi).1
 exact aF (t.he i e _ hi (A4 h2))
theorem lt(t:Tk h tb te ks){b:Nat}(hb:b∈mX tb ks.length++te):b<h.length:=by
 rw[A9,bQ]at hb;rcases hb with ⟨hk,rfl⟩|hb;·exact t.lts.1 hk
 ·exact t.lts.2 b hb
theorem fr(t:Tk h tb te ks){J:List Nat}(f:Fr J h h')(hd:∀ b,b∈mX tb ks.length++te→b∉J):Tk h' tb te ks:=by
 refine⟨t.el,fun hk=>?_,fun i e k hi hk=>?_,t.nd,t.nb⟩;·rw[f.keep tb (t.lts.1 hk) (hd tb (by rw[A9,bQ];exact .inl ⟨hk,rfl⟩))];exact t.hb hk
 ·have he:=A5 hi
  rw[f.keep e (t.lts.2 e he) (hd e (F7 _ he))];exact t.he i e k hi hk
end Tk
namespace Lays
theorem lt(ly:Lays h L s):∀ j b,b∈px L s j→b<h.length:=by
 intro j b hb;unfold px at hb;split at hb;·rw[B2]at hb;subst hb;exact aF ly.hc
 ·exact ly.tk.lt hb
 ·rw[bQ]at hb;obtain⟨hk,rfl⟩:=hb;exact aF (ly.bk hk)
 ·exact ly.f.lt (by rw[A7];exact hb)
 ·exact ly.m.lt (by rw[A7];exact hb)
 ·exact ly.p.lt (by rw[A7];exact hb)
 ·exact ly.w.lt (by rw[A7];exact hb)
 ·cases hb
theorem live(ly:Lays h L s):∀ j b,b∈px L s j→∃ x,aG h b=some x:=by
 have od:∀{l:OL}{ks:List ByteArray}{vs:List (List AV)}{t:Int}{b:Nat},Od h l ks vs t→b∈idx l ks.length→∃ x,aG h b=some x:=fun {l ks vs t b} od hb=>by
  rw[←oS (ks:=ks) (t:=t) (od.ek.trans od.vk.symm)]at hb;obtain⟨p,hp,rfl⟩:=D6.1 hb;exact⟨_,od.hd.1 p hp⟩
 intro j b hb;unfold px at hb;split at hb;·rw[B2]at hb;subst hb;exact⟨_,ly.hc⟩
 ·rw[A9,bQ]at hb
  rcases hb with ⟨hk,rfl⟩|hb;·exact⟨_,ly.tk.hb hk⟩
  ·obtain⟨i,hi⟩:=I0 hb
   have h2:i<s.tickets.length:=by rw[←ly.tk.el];exact(A2.1 hi).1
   exact⟨_,ly.tk.he i b _ hi (A4 h2)⟩
 ·rw[bQ]at hb;obtain⟨hk,rfl⟩:=hb;exact⟨_,ly.bk hk⟩
 ·exact od ly.f (by rw[A7];exact hb)
 ·exact od ly.m (by rw[A7];exact hb)
 ·exact od ly.p (by rw[A7];exact hb)
 ·exact od ly.w (by rw[A7];exact hb)
 ·cases hb
theorem off(ly:Lays h L s){i j:Nat}(hne:i≠j){b:Nat}(hi:b∈px L s i):b∉px L s j:=fun hj=>hne (ly.dj i j b hi hj)
theorem fr(ly:Lays h L s){J:List Nat}(f:Fr J h h')(hd:∀ j b,b∈px L s j→b∉J):Lays h' L s where
 hc:=by rw[f.keep L.c (aF ly.hc) (hd 0 L.c (by simp[px]))];exact ly.hc
 tk:=ly.tk.fr f fun b hb=>hd 1 b hb
 bk hk:=by rw[f.keep L.kb (aF (ly.bk hk)) (hd 2 L.kb (bQ.2 ⟨hk,rfl⟩))];exact ly.bk hk
 f:=ly.f.fr f fun b hb=>hd 3 b (by rw[A7]at hb;exact hb)
 m:=ly.m.fr f fun b hb=>hd 4 b (by rw[A7]at hb;exact hb)
 p:=ly.p.fr f fun b hb=>hd 5 b (by rw[A7]at hb;exact hb)
 w:=ly.w.fr f fun b hb=>hd 6 b (by rw[A7]at hb;exact hb)
 dj:=ly.dj
theorem ext(ly:Lays h L s)(k:XH):Lays (h++k) L s:=ly.fr (Fr.app h k) fun _ _ _ hb=>by cases hb
theorem setf(ly:Lays h L s){l':OL}{xs:List (ByteArray×Int)}(od:Od h' l' (xs.map (·.1)) (xs.map fun p=>[I p.2]) 9)(fr:Fr (idx L.f s.farmers.length) h h')(sub:∀ b,b∈idx l' xs.length→b∈idx L.f s.farmers.length∨h.length≤b)(ho:l'.o=L.f.o):Lays h' { L with f:=l' } { s with farmers:=xs } where
 hc:=by rw[fr.keep L.c (aF ly.hc) (ly.off (i:=0) (j:=3) (by decide) (by simp[px]))];rw[ly.hc];unfold bY;simp only[ho]
 tk:=ly.tk.fr fr fun b hb=>ly.off (i:=1) (j:=3) (by decide) hb
 bk hk:=by rw[fr.keep L.kb (aF (ly.bk hk)) (ly.off (i:=2) (j:=3) (by decide) (bQ.2 ⟨hk,rfl⟩))];exact ly.bk hk
 f:=od
 m:=ly.m.fr fr fun b hb=>by rw[A7]at hb;exact ly.off (i:=4) (j:=3) (by decide) hb
 p:=ly.p.fr fr fun b hb=>by rw[A7]at hb;exact ly.off (i:=5) (j:=3) (by decide) hb
 w:=ly.w.fr fr fun b hb=>by rw[A7]at hb;exact ly.off (i:=6) (j:=3) (by decide) hb
 dj:=yJ (· = 3) ly.dj ly.lt (fun j hj=>by
  unfold px;split<;>first|rfl|exact absurd rfl hj) (fun j b hj hb=>by subst hj;exact sub b hb) (fun i j b hi hj _ _ _=>hi.trans hj.symm)
theorem setm(ly:Lays h L s){l':OL}{xs:List (ByteArray×Int×Int)}(od:Od h' l' (xs.map (·.1)) (xs.map fun p=>[I p.2.1,I p.2.2]) 5)(fr:Fr (idx L.m s.meters.length) h h')(sub:∀ b,b∈idx l' xs.length→b∈idx L.m s.meters.length∨h.length≤b)(ho:l'.o=L.m.o):Lays h' { L with m:=l' } { s with meters:=xs } where
 hc:=by rw[fr.keep L.c (aF ly.hc) (ly.off (i:=0) (j:=4) (by decide) (by simp[px]))];rw[ly.hc];unfold bY;simp only[ho]
 tk:=ly.tk.fr fr fun b hb=>ly.off (i:=1) (j:=4) (by decide) hb
 bk hk:=by rw[fr.keep L.kb (aF (ly.bk hk)) (ly.off (i:=2) (j:=4) (by decide) (bQ.2 ⟨hk,rfl⟩))];exact ly.bk hk
 f:=ly.f.fr fr fun b hb=>by rw[A7]at hb;exact ly.off (i:=3) (j:=4) (by decide) hb
 m:=od
 p:=ly.p.fr fr fun b hb=>by rw[A7]at hb;exact ly.off (i:=5) (j:=4) (by decide) hb
 w:=ly.w.fr fr fun b hb=>by rw[A7]at hb;exact ly.off (i:=6) (j:=4) (by decide) hb
 dj:=yJ (· = 4) ly.dj ly.lt (fun j hj=>by
  unfold px;split<;>first|rfl|exact absurd rfl hj) (fun j b hj hb=>by subst hj;exact sub b hb) (fun i j b hi hj _ _ _=>hi.trans hj.symm)
theorem setp(ly:Lays h L s){l':OL}{xs:List (ByteArray×Int)}(od:Od h' l' (xs.map (·.1)) (xs.map fun p=>[I p.2]) 5)(fr:Fr (idx L.p s.pans.length) h h')(sub:∀ b,b∈idx l' xs.length→b∈idx L.p s.pans.length∨h.length≤b)(ho:l'.o=L.p.o):Lays h' { L with p:=l' } { s with pans:=xs } where
 hc:=by rw[fr.keep L.c (aF ly.hc) (ly.off (i:=0) (j:=5) (by decide) (by simp[px]))];rw[ly.hc];unfold bY;simp only[ho]
 tk:=ly.tk.fr fr fun b hb=>ly.off (i:=1) (j:=5) (by decide) hb
 bk hk:=by rw[fr.keep L.kb (aF (ly.bk hk)) (ly.off (i:=2) (j:=5) (by decide) (bQ.2 ⟨hk,rfl⟩))];exact ly.bk hk
 f:=ly.f.fr fr fun b hb=>by rw[A7]at hb;exact ly.off (i:=3) (j:=5) (by decide) hb
 m:=ly.m.fr fr fun b hb=>by rw[A7]at hb;exact ly.off (i:=4) (j:=5) (by decide) hb
 p:=od
 w:=ly.w.fr fr fun b hb=>by rw[A7]at hb;exact ly.off (i:=6) (j:=5) (by decide) hb
 dj:=yJ (· = 5) ly.dj ly.lt (fun j hj=>by
  unfold px;split<;>first|rfl|exact absurd rfl hj) (fun j b hj hb=>by subst hj;exact sub b hb) (fun i j b hi hj _ _ _=>hi.trans hj.symm)
theorem setw(ly:Lays h L s){l':OL}{xs:List (ByteArray×Int)}(od:Od h' l' (xs.map (·.1)) (xs.map fun p=>[I p.2]) 300)(fr:Fr (idx L.w s.wagons.length) h h')(sub:∀ b,b∈idx l' xs.length→b∈idx L.w s.wagons.length∨h.length≤b)(ho:l'.o=L.w.o):Lays h' { L with w:=l' } { s with wagons:=xs } where
 hc:=by rw[fr.keep L.c (aF ly.hc) (ly.off (i:=0) (j:=6) (by decide) (by simp[px]))];rw[ly.hc];unfold bY;simp only[ho]
 tk:=ly.tk.fr fr fun b hb=>ly.off (i:=1) (j:=6) (by decide) hb
 bk hk:=by rw[fr.keep L.kb (aF (ly.bk hk)) (ly.off (i:=2) (j:=6) (by decide) (bQ.2 ⟨hk,rfl⟩))];exact ly.bk hk
 f:=ly.f.fr fr fun b hb=>by rw[A7]at hb;exact ly.off (i:=3) (j:=6) (by decide) hb
 m:=ly.m.fr fr fun b hb=>by rw[A7]at hb;exact ly.off (i:=4) (j:=6) (by decide) hb
 p:=ly.p.fr fr fun b hb=>by rw[A7]at hb;exact ly.off (i:=5) (j:=6) (by decide) hb
 w:=od
 dj:=yJ (· = 6) ly.dj ly.lt (fun j hj=>by
  unfold px;split<;>first|rfl|exact absurd rfl hj) (fun j b hj hb=>by subst hj;exact sub b hb) (fun i j b hi hj _ _ _=>hi.trans hj.symm)
end Lays
end
section
variable{h h' h1:XH}{L:CL}{s:dR}
theorem Fr.set{J:List Nat}(f:Fr J h h1){b:Nat}(hb:b∈J)(x:Option XB):Fr J h (h1.set b x):=⟨fun j hj hn=>by
 have hne:j≠b:=fun q=>hn (q▸hb);have:aG (h1.set b x) j=aG h1 j:=by simp only[aG,Pf,if_neg hne]
 rw[this];exact f.keep j hj hn,by rw[C9];exact f.len⟩
theorem Fr.add{J:List Nat}(f:Fr J h h1)(k:XH):Fr J h (h1++k):=f.trans ((Fr.app h1 k).mono fun _ hb=>by cases hb)
namespace Lays
theorem setC(ly:Lays h L s){tb' kb' cl:Nat}{te':List Nat}{ks:List CTk}{bk:List ByteArray}(hc':aG h' L.c=some (.cells true [.pt L.f.o 0,.pt L.m.o 0,.pt L.p.o 0,.pt L.w.o 0,iC tb' ks.length,I cl,iC kb' bk.length]))(tk':Tk h' tb' te' ks)(bk':0<bk.length→aG h' kb'=some (.cells true (bk.map .str)))
 (fr:Fr (L.c::((mX L.tb s.tickets.length++L.te)++mX L.kb s.book.length)) h h') (s1:∀ b,b∈mX tb' ks.length++te'→b∈mX L.tb s.tickets.length++L.te∨h.length≤b) (s2:∀ b,b∈mX kb' bk.length→b∈mX L.kb s.book.length∨h.length≤b) (s12:∀ b,b∈mX tb' ks.length++te'→b∈mX kb' bk.length→b<h.length) :
 Lays h' { L with tb:=tb',te:=te',kb:=kb' } { s with tickets:=ks,closed:=cl,book:=bk }:=by
 have aAa:∀ j b,3≤j→b∈px L s j→b∉L.c::((mX L.tb s.tickets.length++L.te)++mX L.kb s.book.length):=fun j b hj hb hm=>by
  rw[B3,A9]at hm;rcases hm with rfl|hm|hm;·exact ly.off (i:=j) (j:=0) AM hb (by simp[px])
  ·exact ly.off (i:=j) (j:=1) AM hb hm
  ·exact ly.off (i:=j) (j:=2) AM hb hm
 refine⟨hc',tk',bk',ly.f.fr fr fun b hb=>aAa 3 b (by decide) (by rw[A7]at hb;exact hb),ly.m.fr fr fun b hb=>aAa 4 b (by decide) (by rw[A7]at hb;exact hb),ly.p.fr fr fun b hb=>aAa 5 b (by decide) (by rw[A7]at hb;exact hb),ly.w.fr fr fun b hb=>aAa 6 b (by decide) (by rw[A7]at hb;exact hb),?_⟩;refine yJ (· < 3) ly.dj ly.lt (fun j hj=>?_) (fun j b hj hb=>?_) (fun i j b hi hj h1 h2 hn=>?_)
 ·unfold px
  split<;>first|rfl|exact absurd (by decide) hj
 ·match j,hj with
  | 0,_=>exact .inl hb
  | 1,_=>exact s1 b hb
  | 2,_=>exact s2 b hb
 ·have c0:∀ b,b∈px { L with tb:=tb',te:=te',kb:=kb' } { s with tickets:=ks,closed:=cl,book:=bk } 0→b<h.length:=fun b hb=>by
   have hb:b=L.c:=by simpa [px]using hb
   subst hb;exact aF ly.hc
  match i,hi,j,hj with
  | 0,_,0,_=>rfl
  | 1,_,1,_=>rfl
  | 2,_,2,_=>rfl
  | 0,_,1,_=>have:=c0 b h1;omega
  | 0,_,2,_=>have:=c0 b h1;omega
  | 1,_,0,_=>have:=c0 b h2;omega
  | 2,_,0,_=>have:=c0 b h2;omega
  | 1,_,2,_=>have:=s12 b h1 h2;omega
  | 2,_,1,_=>have:=s12 b h2 h1;omega
theorem cNe(ly:Lays h L s):(∀ b∈mX L.tb s.tickets.length++L.te,b≠L.c)∧(∀ b∈mX L.kb s.book.length,b≠L.c)∧∀ b,b∈mX L.tb s.tickets.length++L.te→b∉mX L.kb s.book.length :=
 ⟨fun b hb q=>ly.off (i:=1) (j:=0) (by decide) hb (by simp[px,q]),fun b hb q=>ly.off (i:=2) (j:=0) (by decide) hb (by simp[px,q]),fun b hb=>ly.off (i:=1) (j:=2) (by decide) hb⟩
theorem bookApp(ly:Lays h L s){kb':Nat}{line:ByteArray}(hn:h.length≤kb')(hc':aG h' L.c=some (.cells true (bY { L with kb:=kb' } { s with book:=s.book++[line] })))(hb':aG h' kb'=some (.cells true (s.book.map .str++[.str line])))(fr:Fr (L.c::mX L.kb s.book.length) h h') :
 Lays h' { L with kb:=kb' } { s with book:=s.book++[line] }:=by
 have fr2:Fr (L.c::((mX L.tb s.tickets.length++L.te)++mX L.kb s.book.length)) h h':=fr.mono fun b hb=>by
  rw[B3]at hb ⊢;exact hb.imp id fun q=>F7 _ q
 refine ly.setC (tb':=L.tb) (te':=L.te) (ks:=s.tickets) (cl:=s.closed) hc' (ly.tk.fr fr fun b hb hm=>?_) (fun _=>by rw[hb'];simp) fr2 (fun b hb=>.inl hb) (fun b hb=>.inr ?_) (fun b hb hb2=>ly.tk.lt hb)
 ·rw[B3]at hm
  rcases hm with hm|hm;·exact ly.cNe.1 b hb hm
  ·exact ly.cNe.2.2 b hb hm
 ·rw[bQ]at hb;omega
theorem tickApp(ly:Lays h L s){tb' e:Nat}{k:CTk}(he:h.length≤e)(hn:h.length≤tb')(hne:tb'≠e)(hc':aG h' L.c=some (.cells true (bY { L with tb:=tb' } { s with tickets:=s.tickets++[k] })))(hb':aG h' tb'=some (.cells true (L.te.map (fun e=>.pt e 0)++[.pt e 0])))(hk':aG h' e=some (.cells true (tkC k)))(fr:Fr (L.c::mX L.tb s.tickets.length) h h') :
 Lays h' { L with tb:=tb',te:=L.te++[e] } { s with tickets:=s.tickets++[k] }:=by
 have fr2:Fr (L.c::((mX L.tb s.tickets.length++L.te)++mX L.kb s.book.length)) h h':=fr.mono fun b hb=>by
  rw[B3]at hb ⊢;exact hb.imp id fun q=>H8 _ (H8 _ q)
 have tl:=ly.tk.lts.2;have tkeep:∀ b∈L.te,aG h' b=aG h b:=fun b hb=>fr.keep b (tl b hb) fun hm=>by
  rw[B3,bQ]at hm;rcases hm with hm|⟨hk,hm⟩;·exact ly.cNe.1 b (F7 _ hb) hm
  ·exact ly.tk.nb hk (hm▸hb)
 refine ly.setC (kb':=L.kb) (cl:=s.closed) (bk:=s.book) hc' ⟨by simp[ly.tk.el],fun _=>by rw[hb'];simp,fun i e' k' hi hk=>?_,?_,fun _ hm=>?_⟩ (fun hk=>?_) fr2 (fun b hb=>?_) (fun b hb=>.inl hb) (fun b hb hb2=>?_)
 ·by_cases hl:i<L.te.length
  ·rw[F9 hl]at hi
   rw[F9 (by rw[←ly.tk.el];exact hl)]at hk;rw[tkeep e' (A5 hi)];exact ly.tk.he i e' k' hi hk
  ·rw[B9 AM]at hi
   rw[B9 (by rw[←ly.tk.el];omega),←ly.tk.el]at hk;have h0:i-L.te.length=0:=by
    have:=(A2.1 hi).1;simpa using this
   rw[h0]at hi hk;cases hi;cases hk;exact hk'
 ·rw[N4]
  refine⟨ly.tk.nd,by simp,fun a ha b hb=>?_⟩;rw[B2]at hb;have:=tl a ha;omega
 ·rw[A9,B2]at hm
  rcases hm with hm|hm;·have:=tl _ hm;omega
  ·exact hne hm
 ·have hl:=aF (ly.bk hk)
  rw[fr.keep L.kb hl fun hm=>?_];·exact ly.bk hk
  ·rw[B3]at hm
   rcases hm with hm|hm;·exact ly.cNe.2.1 _ (bQ.2 ⟨hk,rfl⟩) hm
   ·exact ly.cNe.2.2 _ (H8 _ hm) (bQ.2 ⟨hk,rfl⟩)
 ·rw[A9,A9,bQ,B2]at hb
  rcases hb with ⟨_,rfl⟩|hb|rfl;·exact .inr hn
  ·exact .inl (F7 _ hb)
  ·exact .inr he
 ·rw[bQ]at hb2
  obtain⟨hk,rfl⟩:=hb2;exact aF (ly.bk hk)
theorem close(ly:Lays h L s){cl:Nat}(hc':aG h' L.c=some (.cells true (bY L { s with closed:=cl })))(fr:Fr [L.c] h h'):Lays h' L { s with closed:=cl }:=by
 have fr2:Fr (L.c::((mX L.tb s.tickets.length++L.te)++mX L.kb s.book.length)) h h':=fr.mono fun b hb=>by
  rw[B2]at hb;rw[hb];exact aE2
 refine ly.setC (tb':=L.tb) (te':=L.te) (kb':=L.kb) (ks:=s.tickets) (bk:=s.book) hc' (ly.tk.fr fr fun b hb hm=>?_) (fun hk=>?_) fr2 (fun b hb=>.inl hb) (fun b hb=>.inl hb) (fun b hb hb2=>ly.tk.lt hb);·rw[B2]at hm;exact ly.cNe.1 b hb hm
 ·rw[fr.keep L.kb (aF (ly.bk hk)) fun hm=>ly.cNe.2.1 _ (bQ.2 ⟨hk,rfl⟩) (by simpa using hm)];exact ly.bk hk
theorem tickSet(ly:Lays h L s){i e:Nat}{k:CTk}{g:Bool}(he:L.te[i]?=some e):Lays (h.set e (some (.blk g (.cells true (tkC k))))) L { s with tickets:=s.tickets.set i k }:=by
 have hm:=A5 he;have el:=ly.tk.lts.2 e hm;have fr0:Fr [e] h (h.set e (some (.blk g (.cells true (tkC k))))):=(Fr.refl [e] h).set (by simp) _;have fr2:Fr (L.c::((mX L.tb s.tickets.length++L.te)++mX L.kb s.book.length)) h (h.set e (some (.blk g (.cells true (tkC k))))):=fr0.mono fun b hb=>by
  rw[B2]at hb;rw[hb];exact E5 _ (H8 _ (F7 _ hm))
 have hne:∀ b,b≠e→aG (h.set e (some (.blk g (.cells true (tkC k))))) b=aG h b:=fun b hb=>by rw[cW,if_neg hb]
 have hll:(s.tickets.set i k).length=s.tickets.length:=C9;refine ly.setC (tb':=L.tb) (te':=L.te) (kb':=L.kb) (ks:=s.tickets.set i k) (cl:=s.closed) (bk:=s.book) ?_ ⟨by rw[hll];exact ly.tk.el,fun hk=>?_,fun j e' k' hj hk=>?_,ly.tk.nd,fun hk=>ly.tk.nb (by rw[hll]at hk;exact hk)⟩ (fun hk=>?_) fr2 (fun b hb=>.inl (by rw[hll]at hb;exact hb)) (fun b hb=>.inl hb) (fun b hb hb2=>ly.tk.lt (by rw[hll]at hb;exact hb));·rw[hne L.c (Ne.symm (ly.cNe.1 e (F7 _ hm))),hll];exact ly.hc
 ·rw[hll]at hk
  rw[hne L.tb fun q=>ly.tk.nb hk (q▸hm)];exact ly.tk.hb hk
 ·by_cases hij:j=i
  ·subst hij
   rw[he]at hj;cases hj;have hl:j<s.tickets.length:=by rw[←ly.tk.el];exact(A2.1 he).1
   rw[O7 hl]at hk;cases hk;rw[cW,if_pos rfl,if_pos el]
  ·rw[aC6 (fun q=>hij q.symm)]at hk
   rw[hne e' fun q=>hij ((aH2 (A2.1 hj).1 ly.tk.nd).1 (hj.trans (q▸he.symm)))];exact ly.tk.he j e' k' hj hk
 ·rw[hne L.kb fun q=>ly.cNe.2.2 e (F7 _ hm) (bQ.2 ⟨hk,q.symm⟩)];exact ly.bk hk
end Lays
end
section
variable{h h' h1:XH}{L:CL}{s:dR}{x:ByteArray}
def iA:List (ByteArray×Int)→ByteArray→Int→List (ByteArray×Int)
 | [],x,d=>[(x,d)]
 | (k,v)::r,x,d=>if k=x then (k,v+d)::r else (k,v)::iA r x d
theorem gZ{d v:Int}:∀{l:List (ByteArray×Int)}{i:Nat},dY (l.map (·.1)) x=some i→(l.map (·.2))[i]?=some v→iA l x d=l.set i (x,v+d)
 | [],i,h,_=>by cases h
 | (k,w)::r,i,h,hv=>by
   have h2:(if k=x then some 0 else (dY (r.map (·.1)) x).map (· + 1))=some i:=h;unfold iA;by_cases e:k=x
   ·rw[if_pos e]at h2 ⊢
    cases h2;have:w=v:=by simpa using hv
    rw[this,e];rfl
   ·rw[if_neg e]at h2 ⊢
    rw[A0]at h2;obtain⟨j,hj,rfl⟩:=h2;rw[gZ (l:=r) hj (by simpa using hv)];rfl
theorem aEu{d:Int}:∀{l:List (ByteArray×Int)},dY (l.map (·.1)) x=none→iA l x d=l++[(x,d)]
 | [],_=>rfl
 | (k,w)::r,h=>by
   have h2:(if k=x then some 0 else (dY (r.map (·.1)) x).map (· + 1))=none:=h;unfold iA;by_cases e:k=x;·rw[if_pos e]at h2;cases h2
   ·rw[if_neg e]at h2 ⊢
    rw[aB7]at h2;rw[aEu h2];rfl
theorem lZ{α β:Type}{f:α→β}{l:List α}{i:Nat}{a:α}{b:β}(h:(l.map f)[i]?=some b)(hf:f a=b):(l.set i a).map f=l.map f:=by
 rw[aG0,hf];obtain⟨hl,rfl⟩:=A2.1 h;exact List.set_getElem_self hl
def tW(L:CL)(s:dR):List Nat:=px L s 0++(px L s 1++(px L s 2++(px L s 3++(px L s 4++(px L s 5++px L s 6)))))
theorem bB{b:Nat}:b∈tW L s↔∃ j,b∈px L s j:=by
 unfold tW;simp only[A9];constructor
 ·rintro (h|h|h|h|h|h|h)
  all_goals exact⟨_,h⟩
 ·rintro ⟨j,h⟩
  match j with
  | 0=>exact .inl h
  | 1=>exact .inr (.inl h)
  | 2=>exact .inr (.inr (.inl h))
  | 3=>exact .inr (.inr (.inr (.inl h)))
  | 4=>exact .inr (.inr (.inr (.inr (.inl h))))
  | 5=>exact .inr (.inr (.inr (.inr (.inr (.inl h)))))
  | 6=>exact .inr (.inr (.inr (.inr (.inr (.inr h)))))
  | _+7=>cases h
theorem jT{l:OL}{n b:Nat}:b∈idx l n↔b=l.o∨b=l.m∨(0<n∧b=l.b)∨b∈l.es:=by
 unfold idx;rw[B3,B3,A9];have:b∈(if n=0 then ([]:List Nat) else [l.b])↔0<n∧b=l.b:=bQ;rw[this]
theorem nR{l:OL}{n k:Nat}{b:Nat}(hb:b∈idx ⟨l.o,l.m,k+1,l.es++[k+2]⟩ n){m:Nat}:b∈idx l m∨k≤b:=by
 rw[jT]at hb;rcases hb with hb|hb|⟨_,hb⟩|hb;·exact .inl (jT.2 (.inl hb))
 ·exact .inl (jT.2 (.inr (.inl hb)))
 ·exact .inr (by rw[hb];show k≤k+1;omega)
 ·rcases A9.1 hb with hb|hb
  ·exact .inl (jT.2 (.inr (.inr (.inr hb))))
  ·rw[B2]at hb;exact .inr AM
def Sb(N:Nat)(L:CL)(s:dR)(L':CL)(s':dR):Prop:=∀ b,b∈tW L' s'→b∈tW L s∨N≤b
theorem Sb.of{N:Nat}{L L':CL}{s s':dR}(h0:L'.c=L.c)(h1:∀ b,b∈mX L'.tb s'.tickets.length++L'.te→b∈mX L.tb s.tickets.length++L.te∨N≤b)(h2:∀ b,b∈mX L'.kb s'.book.length→b∈mX L.kb s.book.length∨N≤b)
 (h3:∀ b,b∈idx L'.f s'.farmers.length→b∈idx L.f s.farmers.length∨N≤b) (h4:∀ b,b∈idx L'.m s'.meters.length→b∈idx L.m s.meters.length∨N≤b) (h5:∀ b,b∈idx L'.p s'.pans.length→b∈idx L.p s.pans.length∨N≤b) (h6:∀ b,b∈idx L'.w s'.wagons.length→b∈idx L.w s.wagons.length∨N≤b):Sb N L s L' s':=fun b hb=>by
 obtain⟨j,hj⟩:=bB.1 hb;match j,hj with
 | 0,hj=>exact .inl (bB.2 ⟨0,by simpa [px,h0]using hj⟩)
 | 1,hj=>exact(h1 b hj).imp (fun q=>bB.2 ⟨1,q⟩) id
 | 2,hj=>exact(h2 b hj).imp (fun q=>bB.2 ⟨2,q⟩) id
 | 3,hj=>exact(h3 b hj).imp (fun q=>bB.2 ⟨3,q⟩) id
 | 4,hj=>exact(h4 b hj).imp (fun q=>bB.2 ⟨4,q⟩) id
 | 5,hj=>exact(h5 b hj).imp (fun q=>bB.2 ⟨5,q⟩) id
 | 6,hj=>exact(h6 b hj).imp (fun q=>bB.2 ⟨6,q⟩) id
 | _+7,hj=>cases hj
theorem dA{l:OL}{n n' N:Nat}(h:n'=n):∀ b,b∈idx l n'→b∈idx l n∨N≤b:=fun b hb=>.inl (h▸hb)
theorem aBn{t n n' N:Nat}{te:List Nat}(h:n'=n):∀ b,b∈mX t n'++te→b∈mX t n++te∨N≤b:=fun b hb=>.inl (h▸hb)
theorem rM{t n n' N:Nat}(h:n'=n):∀ b,b∈mX t n'→b∈mX t n∨N≤b:=fun b hb=>.inl (h▸hb)
theorem Fr.keepS{J:List Nat}(f:Fr J h h1){b:Nat}{c:ABlk}(hb:aG h b=some c)(hn:b∉J):aG h1 b=some c:=by
 rw[f.keep b (aF hb) hn];exact hb
def wK(c:Nat)(x:ByteArray)(a b:Int):XH:=[some (.blk false (.cells true [.pt c 0])),some (.blk true (.cells true [.str x])),some (.blk true (.cells true [I a])),some (.blk true (.cells true [I b]))]
theorem w94(ly:Lays h L s){a b:Int}(hab:b≤a)(hf:(decide (dY (s.pans.map (·.1)) x=none)&&decide (((s.pans.map (·.1)).length:Int)=5))=false) :
 runW aB 94 [.pt L.c 0,.str x,I a,I b] h=some (.fn (.func 135) [] [.pt h.length 0,.pt (h.length+1) 0,.pt (h.length+2) 0,.pt (h.length+3) 0],h++wK L.c x a b):=by
 obtain⟨n,hn⟩:∃ n,h.length=n:=⟨_,rfl⟩;obtain⟨g,hc⟩:=aC ly.hc;unfold bY at hc;have cn:(L.c<n)=True:=AAp (by rw[←hn];exact aF ly.hc);have f1:=(ly.p.fr (Fr.app h (wK L.c x a b)) (fun _ _ hb=>by cases hb)).fullp (x:=x) (by decide);rw[hf]at f1;have m1:=uQ 10;have m2:=uQ 15;have t1:(b≤a)=True:=AAp hab;rw[qY 94 x94 rfl,hn];unfold x94;dsimp only;unfold wK at f1 ⊢;(exact RS7 hc hn cn f1 m1 m2 t1)
theorem bBr(ly:Lays h L s){a b:Int}(hab:¬b≤a):CalP Tryz.prog aB 94 [.pt L.c 0,.str x,I a,I b] h (.ifc 110 (.agg [I 10])) (h++wK L.c x a b):=by
 refine CalP.of (d:=x94) (e':=bH [] []) aA rfl (by simp[x94]) rfl ?_;unfold x94;dsimp only;obtain⟨n,hn⟩:∃ n,h.length=n:=⟨_,rfl⟩;have t1:(b≤a)=False:=AAq hab;refine PanX.seqR (K:=94) aA rfl [4,5,6,7] (vs:=[.pt n 0,.pt (n+1) 0,.pt (n+2) 0,.pt (n+3) 0]) (h1:=h++wK L.c x a b) (by rw[hn];unfold wK; (exact dM hn)) ?_;refine PanX.seqL ?_;exact PanX.reg (p:=[⟨0,some 9,.load false 1 (.t 7),none⟩,⟨0,some 10,.load false 1 (.t 6),none⟩,⟨0,some 11,.bin .leq (.t 9) (.t 10),none⟩]) (post:=[]) aA [] (g:=58) (first:=[]) (cap:=[]) (args:=[.bool false,I 10]) (vs:=[]) rfl rfl (by unfold wK; (exact RS2 hn t1)) (c58 10 _)
theorem bBq(ly:Lays h L s){a b:Int}(hab:b≤a)(hf:(decide (dY (s.pans.map (·.1)) x=none)&&decide (((s.pans.map (·.1)).length:Int)=5))=true):CalP Tryz.prog aB 94 [.pt L.c 0,.str x,I a,I b] h (.ifc 110 (.agg [I 15])) (h++wK L.c x a b):=by
 refine CalP.of (d:=x94) (e':=bH [] []) aA rfl (by simp[x94]) rfl ?_;unfold x94;dsimp only;obtain⟨n,hn⟩:∃ n,h.length=n:=⟨_,rfl⟩;obtain⟨g,hc⟩:=aC ly.hc;unfold bY at hc;have cn:(L.c<n)=True:=AAp (by rw[←hn];exact aF ly.hc);have f1:=(ly.p.fr (Fr.app h (wK L.c x a b)) (fun _ _ hb=>by cases hb)).fullp (x:=x) (by decide);rw[hf]at f1;have m1:=uQ 10;have t1:(b≤a)=True:=AAp hab;refine PanX.seqR (K:=94) aA rfl [4,5,6,7] (vs:=[.pt n 0,.pt (n+1) 0,.pt (n+2) 0,.pt (n+3) 0]) (h1:=h++wK L.c x a b) (by rw[hn];unfold wK; (exact dM hn)) ?_;refine PanX.seqR (K:=94) aA rfl [4,5,6,7] (vs:=[.pt n 0,.pt (n+1) 0,.pt (n+2) 0,.pt (n+3) 0]) (h1:=h++wK L.c x a b) (by unfold wK; (exact RS3 hn t1 m1)) ?_;refine PanX.seqL ?_;exact PanX.regU (fr:=[]) (p:=[⟨0,some 13,.load false 1 (.t 4),none⟩,⟨1,some 14,.nilck (.t 13),none⟩,⟨2,some 15,.fld 2 (.t 14),none⟩,⟨3,some 16,.load false 1 (.t 15),none⟩,⟨4,some 17,.load false 1 (.t 5),none⟩,⟨5,some 18,.callf false (.c (.fn (.func 134) [] [])) [(.t 16),(.t 17)] [],none⟩,⟨6,some 19,.not (.t 18),none⟩]) (post:=[]) aA [] (g:=58) (first:=[]) (cap:=[]) (args:=[.bool false,I 15]) (vs:=[]) rfl rfl rfl (by unfold wK at f1 ⊢; (exact vI hc hn cn f1)) (c58 15 _)
def Out(L:CL)(s:dR)(bs:List Nat):Prop:=∀ b∈bs,b∉tW L s
theorem Lays.px_out(ly:Lays h L s){bs:List Nat}(o:Out L s bs){j b:Nat}(hb:b∈bs):b∉px L s j:=fun hm=>o b hb (bB.2 ⟨j,hm⟩)
theorem Fr.px{j:Nat}(f:Fr (px L s j) h h'):Fr (tW L s) h h':=f.mono fun b hb=>bB.2 ⟨j,hb⟩
theorem Lays.oldP(ly:Lays h L s){i e:Nat}{v d:Int}{g:Bool}(hx:dY (s.pans.map (·.1)) x=some i)(hv:(s.pans.map (·.2))[i]?=some v)(he:L.p.es[i]?=some e):Lays (h.set e (some (.blk g (.cells true [I (v+d)])))) L { s with pans:=iA s.pans x d }:=by
 obtain⟨u1,u2⟩:=ly.p.upd (v:=[I (v+d)]) (g:=g) he;have hm:e∈idx L.p s.pans.length:=jT.2 (.inr (.inr (.inr (A5 he))));have ha:=gZ (d:=d) hx hv;have hk:(s.pans.set i (x,v+d)).map (·.1)=s.pans.map (·.1):=lZ (fV hx) rfl;rw[ha];refine ly.setp (l':=L.p) (xs:=s.pans.set i (x,v+d)) ?_ (u2.mono fun b hb=>by rw[B2]at hb;rw[hb];exact hm) (fun b hb=>.inl (by rw[C9]at hb;exact hb)) rfl;rw[hk,aG0];exact u1
theorem Fr.setNew{J:List Nat}(f:Fr J h h1){b:Nat}(hb:h.length≤b)(y:Option XB):Fr J h (h1.set b y):=⟨fun j hj hn=>by
 have hne:j≠b:=AM
 have:aG (h1.set b y) j=aG h1 j:=by simp only[aG,Pf,if_neg hne]
 rw[this];exact f.keep j hj hn,by rw[C9];exact f.len⟩
theorem Lays.newP(ly:Lays h L s){d:Int}{g:Bool}(hx:dY (s.pans.map (·.1)) x=none)(od:Od h1 ⟨L.p.o,L.p.m,h.length+1,L.p.es++[h.length+2]⟩ (s.pans.map (·.1)++[x]) (s.pans.map (fun p=>[I p.2])++[[I 0]]) 5)(fr:Fr (idx L.p s.pans.length) h h1) :
 Lays (h1.set (h.length+2) (some (.blk g (.cells true [I d])))) { L with p:=⟨L.p.o,L.p.m,h.length+1,L.p.es++[h.length+2]⟩ } { s with pans:=iA s.pans x d }∧Fr (idx L.p s.pans.length) h (h1.set (h.length+2) (some (.blk g (.cells true [I d])))):=by
 have fr2:Fr (idx L.p s.pans.length) h (h1.set (h.length+2) (some (.blk g (.cells true [I d])))):=fr.setNew AM _;refine⟨?_,fr2⟩;have hl:L.p.es.length=s.pans.length:=by rw[ly.p.ek,A7]
 have he:(L.p.es++[h.length+2])[s.pans.length]?=some (h.length+2):=by
  rw[←hl,B9 (A8 _)];simp
 obtain⟨u1,u2⟩:=od.upd (v:=[I d]) (g:=g) he;rw[aEu (d:=d) hx];refine ly.setp (l':=⟨L.p.o,L.p.m,h.length+1,L.p.es++[h.length+2]⟩) (xs:=s.pans++[(x,d)]) ?_ fr2 (fun b hb=>?_) rfl
 ·have:(s.pans.map (fun p=>[I p.2])++[[I 0]]).set s.pans.length [I d]=(s.pans++[(x,d)]).map (fun p=>[I p.2]):=by
   rw[O0 _ _ (by simp)];simp
  rw[←this,F6];exact u1
 ·rw[jT]at hb
  rcases hb with hb|hb|⟨_,hb⟩|hb;·exact .inl (jT.2 (.inl hb))
  ·exact .inl (jT.2 (.inr (.inl hb)))
  ·exact .inr (by rw[hb];show h.length≤h.length+1;omega)
  ·rcases A9.1 hb with hb|hb
   ·exact .inl (jT.2 (.inr (.inr (.inr hb))))
   ·rw[B2]at hb;exact .inr AM
theorem aZi(ly:Lays h L s){b0 b1 b2 b3:Nat}{a b:Int}(o:Out L s [b0,b1,b2,b3])(k0:aG h b0=some (.cells true [.pt L.c 0]))(k1:aG h b1=some (.cells true [.str x]))(k2:aG h b2=some (.cells true [I a]))(k3:aG h b3=some (.cells true [I b]))(hab:0≤b∧b≤a∧a≤99999)(sm:∀ p∈s.pans,0≤p.2∧p.2≤1000000000)(hl:s.pans.length≤1000) :
 ∃ h' L',runW aB 135 [.pt b0 0,.pt b1 0,.pt b2 0,.pt b3 0] h=some (.tup [],h')∧Lays h' L' { s with pans:=iA s.pans x (a-b) }∧L'.c=L.c∧Fr (tW L s) h h'∧Sb h.length L s L' { s with pans:=iA s.pans x (a-b) }:=by
 obtain⟨g0,j0⟩:=aC k0;obtain⟨g1,j1⟩:=aC k1;obtain⟨g4,hc⟩:=aC ly.hc;unfold bY at hc;have a1:IntKind.i64.wrap (a-b)=a-b:=aI AM AM;cases hx:dY (s.pans.map (·.1)) x with
 | some i =>
   obtain⟨e,v,he,hv,hev,call⟩:=ly.p.oldp hx;have hv2:∃ v0,(s.pans.map (·.2))[i]?=some v0∧v=[I v0]:=by
    rw[A6]at hv ⊢;cases hq:s.pans[i]? with
    | none=>rw[hq]at hv;cases hv
    | some q=>rw[hq]at hv;cases hv;exact⟨_,rfl,rfl⟩
   obtain⟨v0,hv0,rfl⟩:=hv2;have hb:0≤v0∧v0≤1000000000:=by
    obtain⟨q,hq,rfl⟩:=D6.1 (A5 hv0);exact sm q hq
   obtain⟨g5,he5⟩:=aC hev;obtain⟨g2,j2⟩:=aC k2;obtain⟨g3,j3⟩:=aC k3;have a2:IntKind.i64.wrap (v0+(a-b))=v0+(a-b):=aI AM AM;refine⟨_,L,?_,ly.oldP (g:=g5) (d:=a-b) hx hv0 he,rfl,Fr.px (j:=5) ((Fr.refl _ h).set (jT.2 (.inr (.inr (.inr (A5 he))))) _),.of rfl (aBn rfl) (rM rfl) (dA rfl) (dA rfl) (dA (by rw[gZ hx hv0,C9])) (dA rfl)⟩;rw[qY 135 aKk rfl];unfold aKk;dsimp only;(exact uO j0 j1 j2 j3 hc call he5 a1 a2)
 | none =>
   obtain⟨h1,call,hl1,od1,fr1⟩:=ly.p.newp hx (by rw[A7];exact hl);rw[A7]at fr1;obtain⟨g2,j2⟩:=aC (fr1.keepS k2 (ly.px_out (j:=5) o (by simp)));obtain⟨g3,j3⟩:=aC (fr1.keepS k3 (ly.px_out (j:=5) o (by simp)));obtain⟨g6,i0⟩:=aC (fr1.keepS k0 (ly.px_out (j:=5) o (by simp)));obtain⟨g7,i1⟩:=aC (fr1.keepS k1 (ly.px_out (j:=5) o (by simp)));obtain⟨g8,ic⟩:=aC (fr1.keepS ly.hc (ly.off (i:=0) (j:=5) (by decide) (by simp[px])));have hll:L.p.es.length=s.pans.length:=by rw[ly.p.ek,A7]
   have he1:(L.p.es++[h.length+2])[s.pans.length]?=some (h.length+2):=by
    rw[←hll,B9 (A8 _)];simp
   obtain⟨g5,he5⟩:=aC (od1.he (i:=s.pans.length) (v:=[I 0]) he1 (by rw[B9 (by simp)];simp));have a2:IntKind.i64.wrap (0+(a-b))=a-b:=by rw[aI AM AM];omega
   obtain⟨z1,z2⟩:=ly.newP (d:=a-b) (g:=g5) hx od1 fr1;refine⟨_,_,?_,z1,rfl,Fr.px (j:=5) z2,.of rfl (aBn rfl) (rM rfl) (dA rfl) (dA rfl) (fun b hb=>nR hb) (dA rfl)⟩;rw[qY 135 aKk rfl];unfold aKk;dsimp only;(exact nJ j0 j1 j2 j3 i0 i1 ic hc call he5 a1 a2 aE)
theorem yE{l:OL}{n i e:Nat}(he:l.es[i]?=some e):e∈idx l n:=jT.2 (.inr (.inr (.inr (A5 he))))
theorem sI{α:Type}{l:List (ByteArray×α)}{i:Nat}(h:dY (l.map (·.1)) x=some i):∃ y,l[i]?=some (x,y):=by
 have h1:=fV h;rw[A6,A0]at h1;obtain⟨⟨a,y⟩,h2,rfl⟩:=h1;exact⟨y,h2⟩
theorem Lays.oldF(ly:Lays h L s){i e:Nat}{y:Int}{g:Bool}(hx:dY (s.farmers.map (·.1)) x=some i)(he:L.f.es[i]?=some e):Lays (h.set e (some (.blk g (.cells true [I y])))) L { s with farmers:=s.farmers.set i (x,y) }:=by
 obtain⟨u1,u2⟩:=ly.f.upd (v:=[I y]) (g:=g) he;have hk:(s.farmers.set i (x,y)).map (·.1)=s.farmers.map (·.1):=lZ (fV hx) rfl;refine ly.setf (l':=L.f) (xs:=s.farmers.set i (x,y)) ?_ (u2.mono fun b hb=>by rw[B2]at hb;rw[hb];exact yE he) (fun b hb=>.inl (by rw[C9]at hb;exact hb)) rfl;rw[hk,aG0];exact u1
theorem Lays.addF(ly:Lays h L s)(od:Od h1 ⟨L.f.o,L.f.m,h.length+1,L.f.es++[h.length+2]⟩ (s.farmers.map (·.1)++[x]) (s.farmers.map (fun p=>[I p.2])++[[I 0]]) 9)(fr:Fr (idx L.f s.farmers.length) h h1) :
 Lays h1 { L with f:=⟨L.f.o,L.f.m,h.length+1,L.f.es++[h.length+2]⟩ } { s with farmers:=s.farmers++[(x,(0:Int))] }:=by
 refine ly.setf (l':=⟨L.f.o,L.f.m,h.length+1,L.f.es++[h.length+2]⟩) (xs:=s.farmers++[(x,(0:Int))]) ?_ fr (fun b hb=>nR hb) rfl;rw[F6,F6];exact od
theorem Lays.oldM(ly:Lays h L s){i e:Nat}{y:Int×Int}{g:Bool}(hx:dY (s.meters.map (·.1)) x=some i)(he:L.m.es[i]?=some e):Lays (h.set e (some (.blk g (.cells true [I y.1,I y.2])))) L { s with meters:=s.meters.set i (x,y) }:=by
 obtain⟨u1,u2⟩:=ly.m.upd (v:=[I y.1,I y.2]) (g:=g) he;have hk:(s.meters.set i (x,y)).map (·.1)=s.meters.map (·.1):=lZ (fV hx) rfl;refine ly.setm (l':=L.m) (xs:=s.meters.set i (x,y)) ?_ (u2.mono fun b hb=>by rw[B2]at hb;rw[hb];exact yE he) (fun b hb=>.inl (by rw[C9]at hb;exact hb)) rfl;rw[hk,aG0];exact u1
theorem Lays.newM(ly:Lays h L s){y:Int×Int}{g:Bool}(od:Od h1 ⟨L.m.o,L.m.m,h.length+1,L.m.es++[h.length+2]⟩ (s.meters.map (·.1)++[x]) (s.meters.map (fun p=>[I p.2.1,I p.2.2])++[[I 0,I 0]]) 5)(fr:Fr (idx L.m s.meters.length) h h1) :
 Lays (h1.set (h.length+2) (some (.blk g (.cells true [I y.1,I y.2])))) { L with m:=⟨L.m.o,L.m.m,h.length+1,L.m.es++[h.length+2]⟩ } { s with meters:=s.meters++[(x,y)] }∧Fr (idx L.m s.meters.length) h (h1.set (h.length+2) (some (.blk g (.cells true [I y.1,I y.2])))):=by
 have fr2:Fr (idx L.m s.meters.length) h (h1.set (h.length+2) (some (.blk g (.cells true [I y.1,I y.2])))):=fr.setNew AM _;refine⟨?_,fr2⟩;have hl:L.m.es.length=s.meters.length:=by rw[ly.m.ek,A7]
 have he:(L.m.es++[h.length+2])[s.meters.length]?=some (h.length+2):=by
  rw[←hl,B9 (A8 _)];simp
 obtain⟨u1,u2⟩:=od.upd (v:=[I y.1,I y.2]) (g:=g) he;refine ly.setm (l':=⟨L.m.o,L.m.m,h.length+1,L.m.es++[h.length+2]⟩) (xs:=s.meters++[(x,y)]) ?_ fr2 (fun b hb=>nR hb) rfl;have:(s.meters.map (fun p=>[I p.2.1,I p.2.2])++[[I 0,I 0]]).set s.meters.length [I y.1,I y.2]=(s.meters++[(x,y)]).map (fun p=>[I p.2.1,I p.2.2]):=by
  rw[O0 _ _ (by simp)];simp
 rw[←this,F6];exact u1
theorem Lays.newW(ly:Lays h L s){y:Int}{g:Bool}(od:Od h1 ⟨L.w.o,L.w.m,h.length+1,L.w.es++[h.length+2]⟩ (s.wagons.map (·.1)++[x]) (s.wagons.map (fun p=>[I p.2])++[[I 0]]) 300)(fr:Fr (idx L.w s.wagons.length) h h1) :
 Lays (h1.set (h.length+2) (some (.blk g (.cells true [I y])))) { L with w:=⟨L.w.o,L.w.m,h.length+1,L.w.es++[h.length+2]⟩ } { s with wagons:=s.wagons++[(x,y)] }∧Fr (idx L.w s.wagons.length) h (h1.set (h.length+2) (some (.blk g (.cells true [I y])))):=by
 have fr2:Fr (idx L.w s.wagons.length) h (h1.set (h.length+2) (some (.blk g (.cells true [I y])))):=fr.setNew AM _;refine⟨?_,fr2⟩;have hl:L.w.es.length=s.wagons.length:=by rw[ly.w.ek,A7]
 have he:(L.w.es++[h.length+2])[s.wagons.length]?=some (h.length+2):=by
  rw[←hl,B9 (A8 _)];simp
 obtain⟨u1,u2⟩:=od.upd (v:=[I y]) (g:=g) he;refine ly.setw (l':=⟨L.w.o,L.w.m,h.length+1,L.w.es++[h.length+2]⟩) (xs:=s.wagons++[(x,y)]) ?_ fr2 (fun b hb=>nR hb) rfl;have:(s.wagons.map (fun p=>[I p.2])++[[I 0]]).set s.wagons.length [I y]=(s.wagons++[(x,y)]).map (fun p=>[I p.2]):=by
  rw[O0 _ _ (by simp)];simp
 rw[←this,F6];exact u1
def mW{α:Type}(f:α→α)(z:α)(x:ByteArray):List (ByteArray×α)→List (ByteArray×α)
 | []=>[(x,z)]
 | (k,v)::r=>if k=x then (k,f v)::r else (k,v)::mW f z x r
theorem oX{α:Type}{f:α→α}{z v:α}:∀{l:List (ByteArray×α)}{i:Nat},dY (l.map (·.1)) x=some i→l[i]?=some (x,v)→mW f z x l=l.set i (x,f v)
 | [],i,h,_=>by cases h
 | (k,w)::r,i,h,hv=>by
   have h2:(if k=x then some 0 else (dY (r.map (·.1)) x).map (· + 1))=some i:=h;unfold mW;by_cases e:k=x
   ·rw[if_pos e]at h2 ⊢
    cases h2;cases hv;rfl
   ·rw[if_neg e]at h2 ⊢
    rw[A0]at h2;obtain⟨j,hj,rfl⟩:=h2;rw[oX (l:=r) hj hv];rfl
theorem uB{α:Type}{f:α→α}{z:α}:∀{l:List (ByteArray×α)},dY (l.map (·.1)) x=none→mW f z x l=l++[(x,z)]
 | [],_=>rfl
 | (k,w)::r,h=>by
   have h2:(if k=x then some 0 else (dY (r.map (·.1)) x).map (· + 1))=none:=h;unfold mW;by_cases e:k=x;·rw[if_pos e]at h2;cases h2
   ·rw[if_neg e]at h2 ⊢
    rw[aB7]at h2;rw[uB h2];rfl
def mtr(n:Int)(y:Int×Int):Int×Int:=(n,y.2+(n-y.1+100000)%100000)
def aFI(c:Nat)(x:ByteArray)(a:Int):XH:=[some (.blk false (.cells true [.pt c 0])),some (.blk true (.cells true [.str x])),some (.blk true (.cells true [I a]))]
theorem w93(ly:Lays h L s){a:Int}(hf:(decide (dY (s.meters.map (·.1)) x=none)&&decide (((s.meters.map (·.1)).length:Int)=5))=false) :
 runW aB 93 [.pt L.c 0,.str x,I a] h=some (.fn (.func 132) [] [.pt h.length 0,.pt (h.length+1) 0,.pt (h.length+2) 0],h++aFI L.c x a):=by
 obtain⟨n,hn⟩:∃ n,h.length=n:=⟨_,rfl⟩;obtain⟨g,hc⟩:=aC ly.hc;unfold bY at hc;have cn:(L.c<n)=True:=AAp (by rw[←hn];exact aF ly.hc);have f1:=(ly.m.fr (Fr.app h (aFI L.c x a)) (fun _ _ hb=>by cases hb)).fullm (x:=x) (by decide);rw[hf]at f1;have m2:=uQ 15;rw[qY 93 x93 rfl,hn];unfold x93;dsimp only;unfold aFI at f1 ⊢;(exact RS5 hc hn cn f1 m2)
theorem c93(ly:Lays h L s){a:Int}(hf:(decide (dY (s.meters.map (·.1)) x=none)&&decide (((s.meters.map (·.1)).length:Int)=5))=true):CalP Tryz.prog aB 93 [.pt L.c 0,.str x,I a] h (.ifc 110 (.agg [I 15])) (h++aFI L.c x a):=by
 refine CalP.of (d:=x93) (e':=bH [] []) aA rfl (by simp[x93]) rfl ?_;unfold x93;dsimp only;obtain⟨n,hn⟩:∃ n,h.length=n:=⟨_,rfl⟩;obtain⟨g,hc⟩:=aC ly.hc;unfold bY at hc;have cn:(L.c<n)=True:=AAp (by rw[←hn];exact aF ly.hc);have f1:=(ly.m.fr (Fr.app h (aFI L.c x a)) (fun _ _ hb=>by cases hb)).fullm (x:=x) (by decide);rw[hf]at f1;refine PanX.seqR (K:=93) aA rfl [3,4,5] (vs:=[.pt n 0,.pt (n+1) 0,.pt (n+2) 0]) (h1:=h++aFI L.c x a) (by rw[hn];unfold aFI; (exact dM hn)) ?_;refine PanX.seqL ?_;exact PanX.regU (fr:=[]) (p:=[⟨0,some 7,.load false 1 (.t 3),none⟩,⟨1,some 8,.nilck (.t 7),none⟩,⟨2,some 9,.fld 1 (.t 8),none⟩,⟨3,some 10,.load false 1 (.t 9),none⟩,⟨4,some 11,.load false 1 (.t 4),none⟩,⟨5,some 12,.callf false (.c (.fn (.func 131) [] [])) [(.t 10),(.t 11)] [],none⟩,⟨6,some 13,.not (.t 12),none⟩]) (post:=[]) aA [] (g:=58) (first:=[]) (cap:=[]) (args:=[.bool false,I 15]) (vs:=[]) rfl rfl rfl (by unfold aFI at f1 ⊢; (exact vI hc hn cn f1)) (c58 15 _)
theorem aZj(ly:Lays h L s){b0 b1 b2:Nat}{n:Int}(o:Out L s [b0,b1,b2])(k0:aG h b0=some (.cells true [.pt L.c 0]))(k1:aG h b1=some (.cells true [.str x]))(k2:aG h b2=some (.cells true [I n]))(hn:0≤n∧n≤99999)(sm:∀ p∈s.meters,0≤p.2.1∧p.2.1≤99999∧0≤p.2.2∧p.2.2≤1000000000)(hl:s.meters.length≤1000) :
 ∃ h' L',runW aB 132 [.pt b0 0,.pt b1 0,.pt b2 0] h=some (.tup [],h')∧Lays h' L' { s with meters:=mW (mtr n) (n,0) x s.meters }∧L'.c=L.c∧Fr (tW L s) h h'∧Sb h.length L s L' { s with meters:=mW (mtr n) (n,0) x s.meters }:=by
 obtain⟨g0,j0⟩:=aC k0;obtain⟨g1,j1⟩:=aC k1;obtain⟨g4,hc⟩:=aC ly.hc;unfold bY at hc;rcases hx:dY (s.meters.map (·.1)) x with _|i
 case' some =>
  obtain⟨e,v,he,hv,hev,call⟩:=ly.m.oldm hx;obtain⟨⟨a,b⟩,hy⟩:=sI hx;rw[A6,hy]at hv;cases hv;have hb:=sm _ (A5 hy);simp only at hb;have hev:aG h e=some (.cells true [I a,I b]):=hev;obtain⟨g5,he5⟩:=aC hev;obtain⟨g2,j2⟩:=aC k2;have be:(b2=e)=False:=AAq fun q=>ly.px_out (j:=4) o (b:=b2) (by simp) (q▸yE he);have a1:IntKind.i64.wrap (n-a)=n-a:=aI AM AM;have a2:IntKind.i64.wrap (n-a+99999)=n-a+99999:=aI AM AM;have a3:IntKind.i64.wrap (n-a+99999+1)=n-a+100000:=by rw[aI AM AM];omega
  have a4:IntKind.i64.wrap ((n-a+100000)%100000)=(n-a+100000)%100000:=aI AM AM;have a5:IntKind.i64.wrap (b+(n-a+100000)%100000)=b+(n-a+100000)%100000:=aI AM AM;have a6:(n-a+100000).tmod 100000=(n-a+100000)%100000:=aG7 AM;have el:e<h.length:=aF hev;have et:(e<h.length)=True:=AAp el;rw[oX (f:=mtr n) (z:=(n,0)) hx hy];refine⟨_,L,?_,ly.oldM (g:=g5) (y:=mtr n (a,b)) hx he,rfl,Fr.px (j:=4) ((Fr.refl _ h).set (yE he) _),.of rfl (aBn rfl) (rM rfl) (dA rfl) (dA (by rw[C9])) (dA rfl) (dA rfl)⟩;rw[qY 132 aKl rfl];unfold aKl mtr;dsimp only;sym =>
   simp[Za,Zb,Zc,Ze,Zf,Zh,Zi,Zl,Zm,Zv,Z9,ZA,ZD,ZF,ZQ,ZV,ZW,ZY,ZZ,Ya,Yb,Yc,Yi,Yj,Ym,Yr,Yt,Y6,Y7,Y8,YA,Xy,Wg,Vf,Vn,Vz,V2,V3,V5,V7,V8,V9,VA,Uk,Um,Un,UK,UM,UO,UT,UX,UY,UZ,Tc,Td,Te,Tf,Tg,Th,Tl,Tm,Tt,Tw,Tx,Ty,T0,T6,T7,TD,TE,TJ,TK,TL,Sn,Sp,Su,Sv,Sw,S7,S9,SB,SE,SM,SN,Qg,QW,QY,Pa,Pf,Pp,Pr,j0,j1,j2,hc,call,he5,a1,a2,a3,et,be,List.set_set]
   tactic =>
    show some (AV.tup [],h.set e (some (.blk g5 (.cells true [I n,I (IntKind.i64.wrap (b+(n-a+100000).tmod 100000))]))))=_;rw[a6,a5]
 case' none =>
  obtain⟨h1,call,hl1,od1,fr1⟩:=ly.m.newm hx (by rw[A7];exact hl);rw[A7]at fr1;obtain⟨g2,j2⟩:=aC (fr1.keepS k2 (ly.px_out (j:=4) o (by simp)));obtain⟨g6,i0⟩:=aC (fr1.keepS k0 (ly.px_out (j:=4) o (by simp)));obtain⟨g7,i1⟩:=aC (fr1.keepS k1 (ly.px_out (j:=4) o (by simp)));obtain⟨g8,ic⟩:=aC (fr1.keepS ly.hc (ly.off (i:=0) (j:=4) (by decide) (by simp[px])));have hll:L.m.es.length=s.meters.length:=by rw[ly.m.ek,A7]
  have he1:(L.m.es++[h.length+2])[s.meters.length]?=some (h.length+2):=by
   rw[←hll,B9 (A8 _)];simp
  obtain⟨g5,he5⟩:=aC (od1.he (i:=s.meters.length) (v:=[I 0,I 0]) he1 (by rw[B9 (by simp)];simp));rw[uB (f:=mtr n) (z:=(n,0)) hx];obtain⟨z1,z2⟩:=ly.newM (y:=(n,0)) (g:=g5) od1 fr1;refine⟨_,_,?_,z1,rfl,Fr.px (j:=4) z2,.of rfl (aBn rfl) (rM rfl) (dA rfl) (fun b hb=>nR hb) (dA rfl) (dA rfl)⟩;rw[qY 132 aKl rfl];unfold aKl;dsimp only;(exact uO j0 j1 j2 i0 i1 ic hc call he5)
theorem w88(ly:Lays h L s){b0 b1:Nat}{f z:AV}(o:Out L s [b0,b1])(k0:aG h b0=some (.cells true [.pt L.c 0]))(k1:aG h b1=some (.cells true [f,.fs [[.str x]],z]))(hx:dY (s.farmers.map (·.1)) x=none)(hl:s.farmers.length≤1000) :
 ∃ h' L',runW aB 88 [.pt b0 0,.pt b1 0] h=some (.tup [],h')∧Lays h' L' { s with farmers:=s.farmers++[(x,0)] }∧L'.c=L.c∧Fr (tW L s) h h'∧Sb h.length L s L' { s with farmers:=s.farmers++[(x,0)] }:=by
 obtain⟨g0,j0⟩:=aC k0;obtain⟨g1,j1⟩:=aC k1;obtain⟨g4,hc⟩:=aC ly.hc;unfold bY at hc;obtain⟨h1,call,hl1,od1,fr1⟩:=ly.f.newf hx (by rw[A7];exact hl);rw[A7]at fr1;obtain⟨g6,i0⟩:=aC (fr1.keepS k0 (ly.px_out (j:=3) o (by simp)));obtain⟨g7,i1⟩:=aC (fr1.keepS k1 (ly.px_out (j:=3) o (by simp)));obtain⟨g8,ic⟩:=aC (fr1.keepS ly.hc (ly.off (i:=0) (j:=3) (by decide) (by simp[px])));refine⟨_,_,?_,ly.addF od1 fr1,rfl,Fr.px (j:=3) fr1,.of rfl (aBn rfl) (rM rfl) (fun b hb=>nR hb) (dA rfl) (dA rfl) (dA rfl)⟩;rw[qY 88 x88 rfl];unfold x88;dsimp only;(exact RS7 j0 j1 hc call i0 i1 ic)
theorem eR{b n:Nat}(h:0<n):iC b n = .sl b 0 1 n:=by
 unfold iC;rw[if_neg AM]
theorem w92(ly:Lays h L s){b0:Nat}(k0:aG h b0=some (.cells true [.pt L.c 0]))(hk:0<s.tickets.length) :
 ∃ h',runW aB 92 [.pt b0 0] h=some (.tup [],h')∧Lays h' L { s with closed:=s.tickets.length }∧Fr (tW L s) h h':=by
 obtain⟨g0,j0⟩:=aC k0;obtain⟨g4,hc⟩:=aC ly.hc;unfold bY at hc;rw[eR hk]at hc;have cl:=aF ly.hc;have fr:Fr [L.c] h (h.set L.c (some (.blk g4 (.cells true (bY L { s with closed:=s.tickets.length }))))):=(Fr.refl _ h).set (by simp) _;refine⟨_,?_,ly.close (cl:=s.tickets.length) (by rw[cW,if_pos rfl,if_pos cl]) fr,Fr.px (j:=0) fr⟩;rw[qY 92 x92 rfl];unfold x92 bY;dsimp only;have hv:=eR (b:=L.tb) hk;(exact RS3 j0 hc hv)
def aII(c e:Nat):XH:=[some (.blk false (.cells true [.pt c 0])),some (.blk false (.cells true [.pt e 0]))]
theorem Tk.at{tb:Nat}{te:List Nat}{ks:List CTk}(t:Tk h tb te ks){i:Nat}{k:CTk}(hk:ks[i]?=some k):∃ e,te[i]?=some e∧aG h e=some (.cells true (tkC k))∧aG h tb=some (.cells true (te.map fun e=>.pt e 0))∧i<te.length:=by
 have hl:i<ks.length:=(A2.1 hk).1;have h2:i<te.length:=by rw[t.el];exact hl
 have he:=A4 h2;exact⟨_,he,t.he i _ k he hk,t.hb AM,h2⟩
theorem w91(ly:Lays h L s){i:Nat}{k:CTk}(hk:s.tickets[i]?=some k)(hv:k.void=false)(hcl:s.closed≤i) :
 ∃ e,L.te[i]?=some e∧runW aB 91 [.pt L.c 0,I i] h=some (.fn (.func 130) [] [.pt (h.length+1) 0,.pt h.length 0],h++aII L.c e):=by
 obtain⟨n,hn⟩:∃ n,h.length=n:=⟨_,rfl⟩;obtain⟨e,he,hke,hb,hi⟩:=ly.tk.at hk;have hl:i<s.tickets.length:=by rw[←ly.tk.el];exact hi
 obtain⟨g,hc⟩:=aC ly.hc;unfold bY at hc;rw[eR AM]at hc;obtain⟨g1,hb1⟩:=aC hb;obtain⟨g2,hk2⟩:=aC hke;unfold tkC at hk2;rw[hv]at hk2;have cn:(L.c<n)=True:=AAp (by rw[←hn];exact aF ly.hc);have bn:(L.tb<n)=True:=AAp (by rw[←hn];exact aF hb);have en:(e<n)=True:=AAp (by rw[←hn];exact aF hke);have t1:((i:Int)<(s.tickets.length:Int))=True:=AAa;have t2:((s.closed:Int)≤(i:Int))=True:=AAa;have m1:=uQ 5;have m2:=uQ 6;have m3:=uQ 23;have mp:(some e).map (fun e=>AV.pt e 0)=some (.pt e 0):=rfl;refine⟨e,he,?_⟩;rw[qY 91 x91 rfl,hn];unfold x91 aII;dsimp only;(exact kO hc hn cn bn en hb1 hk2 t1 t2 m1 m2 m3 he mp aE aE aE aE aE aE)
theorem bBu(ly:Lays h L s){i:Nat}(hi:s.tickets.length≤i):CalP Tryz.prog aB 91 [.pt L.c 0,I i] h (.ifc 110 (.agg [I 5])) (h++[some (.blk false (.cells true [.pt L.c 0]))]):=by
 refine CalP.of (d:=x91) (e':=bH [] []) aA rfl (by simp[x91]) rfl ?_;unfold x91;dsimp only;obtain⟨n,hn⟩:∃ n,h.length=n:=⟨_,rfl⟩;obtain⟨g,hc⟩:=aC ly.hc;unfold bY at hc;have cn:(L.c<n)=True:=AAp (by rw[←hn];exact aF ly.hc);refine PanX.seqR (K:=91) aA rfl [1,2] (vs:=[I i,.pt n 0]) (h1:=h++[some (.blk false (.cells true [.pt L.c 0]))]) (by rw[hn]; (exact dM hn)) ?_;refine PanX.seqL ?_;refine PanX.reg (p:=[⟨0,some 6,.mv (.t 1),none⟩,⟨0,some 7,.load false 1 (.t 2),none⟩,⟨0,some 8,.nilck (.t 7),none⟩,⟨0,some 9,.fld 4 (.t 8),none⟩,⟨0,some 10,.load false 1 (.t 9),none⟩,⟨0,some 11,.len false (.t 10),none⟩,⟨0,some 12,.bin .lss (.t 6) (.t 11),none⟩]) (post:=[]) aA [] (g:=58) (first:=[]) (cap:=[]) (args:=[.bool false,I 5]) (vs:=[]) rfl rfl ?_ (c58 5 _);by_cases hk:0<s.tickets.length
 ·rw[eR hk]at hc
  have t1:((i:Int)<(s.tickets.length:Int))=False:=AAb;(exact vI hc hn cn t1)
 ·have h0:s.tickets.length=0:=AM
  have hv:iC L.tb s.tickets.length = .nilsl:=by rw[h0];rfl
  rw[hv]at hc;have t1:((i:Int)<0)=False:=AAb;(exact vI hc hn cn t1)
theorem bBt(ly:Lays h L s){i:Nat}{k:CTk}(hk:s.tickets[i]?=some k)(hv:k.void=true):∃ e,CalP Tryz.prog aB 91 [.pt L.c 0,I i] h (.ifc 110 (.agg [I 6])) (h++aII L.c e):=by
 obtain⟨n,hn⟩:∃ n,h.length=n:=⟨_,rfl⟩;obtain⟨e,he,hke,hb,hi⟩:=ly.tk.at hk;have hl:i<s.tickets.length:=by rw[←ly.tk.el];exact hi
 obtain⟨g,hc⟩:=aC ly.hc;unfold bY at hc;rw[eR AM]at hc;obtain⟨g1,hb1⟩:=aC hb;obtain⟨g2,hk2⟩:=aC hke;unfold tkC at hk2;rw[hv]at hk2;have cn:(L.c<n)=True:=AAp (by rw[←hn];exact aF ly.hc);have bn:(L.tb<n)=True:=AAp (by rw[←hn];exact aF hb);have en:(e<n)=True:=AAp (by rw[←hn];exact aF hke);have t1:((i:Int)<(s.tickets.length:Int))=True:=AAa;have m1:=uQ 5;have mp:(some e).map (fun e=>AV.pt e 0)=some (.pt e 0):=rfl;refine⟨e,CalP.of (d:=x91) (e':=bH [] []) aA rfl (by simp[x91]) rfl ?_⟩;unfold x91 aII;dsimp only;refine PanX.seqR (K:=91) aA rfl [1,2] (vs:=[I i,.pt n 0]) (h1:=h++[some (.blk false (.cells true [.pt L.c 0]))]) (by rw[hn]; (exact dM hn)) ?_;refine PanX.seqR (K:=91) aA rfl [1,2] (vs:=[I i,.pt n 0]) (h1:=h++[some (.blk false (.cells true [.pt L.c 0]))]) (by (exact RS5 hc hn cn t1 m1)) ?_;refine PanX.seqR (K:=91) aA rfl [1,2,5] (vs:=[I i,.pt n 0,.pt (n+1) 0]) (h1:=h++[some (.blk false (.cells true [.pt L.c 0])),some (.blk false (.cells true [.pt e 0]))]) (by (exact nN hc hn cn bn en hb1 hk2 t1 he mp)) ?_;refine PanX.seqL ?_;exact PanX.reg (p:=[⟨0,some 21,.load false 1 (.t 5),none⟩,⟨0,some 22,.nilck (.t 21),none⟩,⟨0,some 23,.fld 3 (.t 22),none⟩,⟨0,some 24,.load false 1 (.t 23),none⟩,⟨0,some 25,.not (.t 24),none⟩]) (post:=[]) aA [] (g:=58) (first:=[]) (cap:=[]) (args:=[.bool false,I 6]) (vs:=[]) rfl rfl (by (exact RS3 hn en hk2)) (c58 6 _)
theorem bBs(ly:Lays h L s){i:Nat}{k:CTk}(hk:s.tickets[i]?=some k)(hv:k.void=false)(hcl:i<s.closed):∃ e,CalP Tryz.prog aB 91 [.pt L.c 0,I i] h (.ifc 110 (.agg [I 23])) (h++aII L.c e):=by
 obtain⟨n,hn⟩:∃ n,h.length=n:=⟨_,rfl⟩;obtain⟨e,he,hke,hb,hi⟩:=ly.tk.at hk;have hl:i<s.tickets.length:=by rw[←ly.tk.el];exact hi
 obtain⟨g,hc⟩:=aC ly.hc;unfold bY at hc;rw[eR AM]at hc;obtain⟨g1,hb1⟩:=aC hb;obtain⟨g2,hk2⟩:=aC hke;unfold tkC at hk2;rw[hv]at hk2;have cn:(L.c<n)=True:=AAp (by rw[←hn];exact aF ly.hc);have bn:(L.tb<n)=True:=AAp (by rw[←hn];exact aF hb);have en:(e<n)=True:=AAp (by rw[←hn];exact aF hke);have t1:((i:Int)<(s.tickets.length:Int))=True:=AAa;have t2:((s.closed:Int)≤(i:Int))=False:=AAb;have m1:=uQ 5;have m2:=uQ 6;have mp:(some e).map (fun e=>AV.pt e 0)=some (.pt e 0):=rfl;refine⟨e,CalP.of (d:=x91) (e':=bH [] []) aA rfl (by simp[x91]) rfl ?_⟩;unfold x91 aII;dsimp only;refine PanX.seqR (K:=91) aA rfl [1,2] (vs:=[I i,.pt n 0]) (h1:=h++[some (.blk false (.cells true [.pt L.c 0]))]) (by rw[hn]; (exact dM hn)) ?_;refine PanX.seqR (K:=91) aA rfl [1,2] (vs:=[I i,.pt n 0]) (h1:=h++[some (.blk false (.cells true [.pt L.c 0]))]) (by (exact RS5 hc hn cn t1 m1)) ?_;refine PanX.seqR (K:=91) aA rfl [1,2,5] (vs:=[I i,.pt n 0,.pt (n+1) 0]) (h1:=h++[some (.blk false (.cells true [.pt L.c 0])),some (.blk false (.cells true [.pt e 0]))]) (by (exact nN hc hn cn bn en hb1 hk2 t1 he mp)) ?_;refine PanX.seqR (K:=91) aA rfl [1,2,5] (vs:=[I i,.pt n 0,.pt (n+1) 0]) (h1:=h++[some (.blk false (.cells true [.pt L.c 0])),some (.blk false (.cells true [.pt e 0]))]) (by (exact vI hn en hk2 m2)) ?_;refine PanX.seqL ?_;exact PanX.reg (p:=[⟨0,some 27,.mv (.t 1),none⟩,⟨0,some 28,.load false 1 (.t 2),none⟩,⟨0,some 29,.nilck (.t 28),none⟩,⟨0,some 30,.fld 5 (.t 29),none⟩,⟨0,some 31,.load false 1 (.t 30),none⟩,⟨0,some 32,.bin .geq (.t 27) (.t 31),none⟩]) (post:=[]) aA [] (g:=58) (first:=[]) (cap:=[]) (args:=[.bool false,I 23]) (vs:=[]) rfl rfl (by (exact vI hn cn hc t2)) (c58 23 _)
theorem aZk(ly:Lays h L s){b0 b1 i e j:Nat}{k:CTk}{v:Int}(o:Out L s [b0,b1])(k0:aG h b0=some (.cells true [.pt e 0]))(k1:aG h b1=some (.cells true [.pt L.c 0]))(hk:s.tickets[i]?=some k)(he:L.te[i]?=some e)(hx:dY (s.farmers.map (·.1)) k.farmer=some j)(hy:s.farmers[j]?=some (k.farmer,v))(hb : -1000000000≤v∧v≤1000000000∧0≤k.net∧k.net≤99999) :
 ∃ h',runW aB 130 [.pt b0 0,.pt b1 0] h=some (.tup [],h')∧Lays h' L { s with tickets:=s.tickets.set i { k with void:=true },farmers:=iA s.farmers k.farmer (-k.net) }∧Fr (tW L s) h h':=by
 obtain⟨e',he',hke,hb1,hi⟩:=ly.tk.at hk;rw[he]at he';cases he';have em:=A5 he;obtain⟨g0,j0⟩:=aC k0;obtain⟨g1,j1⟩:=aC k1;obtain⟨g4,hc⟩:=aC ly.hc;obtain⟨g2,hk2⟩:=aC hke;have ly2:=ly.tickSet (k:={ k with void:=true }) (g:=g2) he;obtain⟨fe,v',hfe,hv',hfv,call⟩:=ly2.f.getf hx;rw[A6,hy]at hv';cases hv';have hfv:aG (h.set e (some (.blk g2 (.cells true (tkC { k with void:=true }))))) fe=some (.cells true [I v]):=hfv;obtain⟨g5,hf5⟩:=aC hfv;have el:(e<h.length)=True:=AAp (aF hke);have ep:e∈px L s 1:=F7 _ em;have fp:fe∈px L s 3:=yE hfe;have n1:(b0=e)=False:=AAq fun q=>ly.px_out (j:=1) o (b:=b0) (by simp) (q▸ep);have n2:(b1=e)=False:=AAq fun q=>ly.px_out (j:=1) o (b:=b1) (by simp) (q▸ep);have n3:(L.c=e)=False:=AAq fun q=>ly.off (i:=1) (j:=0) (by decide) ep (by simp[px,q]);have n4:(fe=e)=False:=AAq fun q=>ly.off (i:=1) (j:=3) (by decide) ep (q▸fp);have a1:IntKind.i64.wrap (v-k.net)=v + -k.net:=by rw[aI AM AM];omega
 have z:=ly2.oldF (g:=g5) (y:=v + -k.net) hx hfe;have ha:=gZ (d := -k.net) hx (by rw[A6,hy];rfl);refine⟨_,?_,by rw[ha];exact z,((Fr.refl _ h).set (bB.2 ⟨1,ep⟩) _).set (bB.2 ⟨3,fp⟩) _⟩;rw[qY 130 aPF rfl];unfold aPF;dsimp only;unfold bY at hc;unfold tkC at hk2 call hf5 ⊢;dsimp only at call hf5 ⊢;have so:∀ a:ByteArray,cT (.str a) (.str a)=true:=by intro a;simp[cT]
 have hf6:hat h fe=some (.blk g5 (.cells true [I v])):=by
  rw[Pf,if_neg (by rw[n4];exact id)]at hf5;exact hf5
 (exact nJ j0 j1 hc hk2 call hf6 el n1 n2 n3 n4 a1 so)
def oT(h:XH)(b n:Nat):XH:=if n=0 then h else h.set b none
theorem lA{b n:Nat}:(oT h b n).length=h.length:=by
 unfold oT;split<;>simp
theorem aQL{b n j:Nat}(hj:j∉mX b n):aG (oT h b n) j=aG h j:=by
 unfold oT;split;·rfl
 ·rename_i hn
  exact aDX fun q=>hj (bQ.2 ⟨by omega,q⟩)
theorem Fr.off{J:List Nat}(f:Fr J h h1){b n:Nat}(hb:∀ j,j∈mX b n→j∈J):Fr J h (oT h1 b n):=by
 unfold oT;split;·exact f
 ·rename_i hn
  exact f.set (hb b (bQ.2 ⟨by omega,rfl⟩)) _
theorem aTZ{h k:XH}(i:Nat):hat (h++k) (h.length+i)=hat k i:=by
 rw[Pg,if_neg AM];congr 1;omega
theorem Lays.tickNew(ly:Lays h L s){k:CTk}{g g1 g2 g3:Bool}{cs:List AV}(hcs:cs=bY { L with tb:=h.length+2 } { s with tickets:=s.tickets++[k] }) :
 Lays ((oT h L.tb s.tickets.length).set L.c (some (.blk g (.cells true cs)))++[some (.blk g1 (.cells true (tkC k))),some (.blk g2 (.cells true [.pt h.length 0])),some (.blk g3 (.cells true (L.te.map (fun e=>.pt e 0)++[.pt h.length 0])))]) { L with tb:=h.length+2,te:=L.te++[h.length] } { s with tickets:=s.tickets++[k] } ∧
  Fr (L.c::mX L.tb s.tickets.length) h ((oT h L.tb s.tickets.length).set L.c (some (.blk g (.cells true cs)))++[some (.blk g1 (.cells true (tkC k))),some (.blk g2 (.cells true [.pt h.length 0])),some (.blk g3 (.cells true (L.te.map (fun e=>.pt e 0)++[.pt h.length 0])))]):=by
 subst hcs;have cl:=aF ly.hc
 have fr:Fr (L.c::mX L.tb s.tickets.length) h ((oT h L.tb s.tickets.length).set L.c (some (.blk g (.cells true (bY { L with tb:=h.length+2 } { s with tickets:=s.tickets++[k] }))))++[some (.blk g1 (.cells true (tkC k))),some (.blk g2 (.cells true [.pt h.length 0])),some (.blk g3 (.cells true (L.te.map (fun e=>.pt e 0)++[.pt h.length 0])))]) :=
  (((Fr.refl _ h).off fun j hj=>E5 _ hj).set aE2 _).add _
 refine⟨ly.tickApp (k:=k) (A8 _) AM AM ?_ ?_ ?_ fr,fr⟩;·rw[fY,if_pos (by rw[C9,lA];exact cl),cW,if_pos rfl,if_pos (by rw[lA];exact cl)]
 ·have hl:((oT h L.tb s.tickets.length).set L.c (some (.blk g (.cells true (bY { L with tb:=h.length+2 } { s with tickets:=s.tickets++[k] }))))).length=h.length:=by rw[C9,lA]
  rw[fY,hl,if_neg AM,show h.length+2-h.length=2 by omega];rfl
 ·have hl:((oT h L.tb s.tickets.length).set L.c (some (.blk g (.cells true (bY { L with tb:=h.length+2 } { s with tickets:=s.tickets++[k] }))))).length=h.length:=by rw[C9,lA]
  rw[fY,hl,if_neg AM,show h.length-h.length=0 by omega];rfl
theorem Lays.tickNew2(ly:Lays h L s){k:CTk}{n:Nat}{g g1 g2 g3:Bool}{cs:List AV}(hn:h.length=n)(hcs:cs=bY { L with tb:=n+2 } { s with tickets:=s.tickets++[k] })(hh:h'=(oT h L.tb s.tickets.length).set L.c (some (.blk g (.cells true cs)))++[some (.blk g1 (.cells true (tkC k))),some (.blk g2 (.cells true [.pt n 0])),some (.blk g3 (.cells true (L.te.map (fun e=>.pt e 0)++[.pt n 0])))]) :
 Lays h' { L with tb:=n+2,te:=L.te++[n] } { s with tickets:=s.tickets++[k] }∧Fr (L.c::mX L.tb s.tickets.length) h h':=by
 subst hn hh;exact ly.tickNew hcs
def fF(s:dR)(name owner:ByteArray)(full empty:Int):dR :=
 { s with wagons:=mW id empty name s.wagons,farmers:=iA s.farmers owner (full-empty),tickets:=s.tickets++[⟨name,owner,full-empty,false⟩] }

theorem aLT(ly:Lays h L s){b0 b1 b2 b3 b4 b5 fe j i:Nat}{name owner:ByteArray}{full empty v:Int}(o:Out L s [b0,b1,b2,b3,b4,b5])(k0:aG h b0=some (.cells true [.pt L.c 0]))(k1:aG h b1=some (.cells true [.str name]))(k2:aG h b2=some (.cells true [I empty]))(k3:aG h b3=some (.cells true [.pt fe 0]))(k4:aG h b4=some (.cells true [I full]))(k5:aG h b5=some (.cells true [.str owner]))
 (hfe:L.f.es[j]?=some fe) (hj:dY (s.farmers.map (·.1)) owner=some j) (hy:s.farmers[j]?=some (owner,v)) (hb : -1000000000≤v∧v≤1000000000∧0≤empty∧empty≤full∧full≤99999) (hl:s.wagons.length≤1000) (hl2:s.tickets.length≤1000) (hx:dY (s.wagons.map (·.1)) name=some i) (ht:s.tickets.length=0) :
 ∃ h' L',runW aB 128 [.pt b0 0,.pt b1 0,.pt b2 0,.pt b3 0,.pt b4 0,.pt b5 0] h=some (.tup [],h')∧Lays h' L' (fF s name owner full empty)∧L'.c=L.c∧Fr (tW L s) h h'∧Sb h.length L s L' (fF s name owner full empty):=by
 obtain⟨g0,j0⟩:=aC k0;obtain⟨g1,j1⟩:=aC k1;have a1:IntKind.i64.wrap (full-empty)=full-empty:=aI AM AM;have a2:IntKind.i64.wrap (v+(full-empty))=v+(full-empty):=aI AM AM;have fp:fe∈px L s 3:=yE hfe;have hfv:aG h fe=some (.cells true [I v]):=ly.f.he hfe (by rw[A6,hy];rfl);obtain⟨e,v',he,hv,hev,call⟩:=ly.w.oldw hx;obtain⟨em,hy2⟩:=sI hx;have hm:mW id empty name s.wagons=s.wagons:=by
  rw[oX hx hy2];exact J5 fun q=>by
   by_cases hq:q=i;·subst hq;rw[O7 (A2.1 hy2).1,hy2];rfl
   ·rw[aC6 (Ne.symm hq)]
 obtain⟨g6,hc⟩:=aC ly.hc;unfold bY at hc;obtain⟨g2,j2⟩:=aC k2;obtain⟨g3,j3⟩:=aC k3;obtain⟨g4,j4⟩:=aC k4;obtain⟨g5,j5⟩:=aC k5;obtain⟨g7,hf5⟩:=aC hfv;obtain⟨n,hn⟩:∃ n,h.length=n:=⟨_,rfl⟩;have lyF:=ly.oldF (g:=g7) (y:=v+(full-empty)) hj hfe;have frF:Fr (tW L s) h (h.set fe (some (.blk g7 (.cells true [I (v+(full-empty))])))):=(Fr.refl _ h).set (bB.2 ⟨3,fp⟩) _;have ha:=gZ (d:=full-empty) hj (by rw[A6,hy];rfl);have b0f:(b0=fe)=False:=AAq fun q=>ly.px_out (j:=3) o (b:=b0) (by simp) (q▸fp);have b1f:(b1=fe)=False:=AAq fun q=>ly.px_out (j:=3) o (b:=b1) (by simp) (q▸fp);have b2f:(b2=fe)=False:=AAq fun q=>ly.px_out (j:=3) o (b:=b2) (by simp) (q▸fp);have b4f:(b4=fe)=False:=AAq fun q=>ly.px_out (j:=3) o (b:=b4) (by simp) (q▸fp);have b5f:(b5=fe)=False:=AAq fun q=>ly.px_out (j:=3) o (b:=b5) (by simp) (q▸fp);have cf:(L.c=fe)=False:=AAq fun q=>ly.off (i:=3) (j:=0) (by decide) fp (by simp[px,q]);have bl:∀ b c,aG h b=some c→(b<n)=True:=fun b c hb=>AAp (by have:=aF hb;omega);have l0:=bl _ _ k0;have l1:=bl _ _ k1;have l2:=bl _ _ k2;have l4:=bl _ _ k4;have l5:=bl _ _ k5;have lf:=bl _ _ hfv;have lc:=bl _ _ ly.hc;have te0:L.te=[]:=B8 (by rw[ly.tk.el];exact ht);have hv:iC L.tb s.tickets.length = .nilsl:=by rw[ht];rfl
 rw[hv]at hc;have hbl:(h.set fe (some (.blk g7 (.cells true [I (v+(full-empty))])))).length=n:=(by simpa using hn);have walk:runW aB 128 [.pt b0 0,.pt b1 0,.pt b2 0,.pt b3 0,.pt b4 0,.pt b5 0] h=some (.tup [],(h.set fe (some (.blk g7 (.cells true [I (v+(full-empty))])))).set L.c (some (.blk false (.cells true [.pt L.f.o 0,.pt L.m.o 0,.pt L.p.o 0,.pt L.w.o 0,.sl (n+2) 0 1 1,I s.closed,iC L.kb s.book.length])))++[some (.blk true (.cells true [.str name,.str owner,I (full-empty),.bool false,.bool false])),some (.blk false (.cells true [.pt (n) 0])),some (.blk false (.cells true [.pt (n) 0]))]):=by
  rw[qY 128 aCW rfl,hn];unfold aCW;dsimp only;(exact tP j0 j1 j2 j3 j4 j5 hc call hf5 a1 a2 hn l0 l1 l2 l4 l5 lf lc b0f b1f b2f b4f b5f cf aE)
 obtain⟨y1,y2⟩:=lyF.tickNew2 (h':=(h.set fe (some (.blk g7 (.cells true [I (v+(full-empty))])))).set L.c (some (.blk false (.cells true [.pt L.f.o 0,.pt L.m.o 0,.pt L.p.o 0,.pt L.w.o 0,.sl (n+2) 0 1 1,I s.closed,iC L.kb s.book.length])))++[some (.blk true (.cells true [.str name,.str owner,I (full-empty),.bool false,.bool false])),some (.blk false (.cells true [.pt (n) 0])),some (.blk false (.cells true [.pt (n) 0]))]) (k:=⟨name,owner,full-empty,false⟩) (n:=n) (g:=false) (g1:=true) (g2:=false) (g3:=false) (cs:=[.pt L.f.o 0,.pt L.m.o 0,.pt L.p.o 0,.pt L.w.o 0,.sl (n+2) 0 1 1,I s.closed,iC L.kb s.book.length]) hbl (by simp[bY,iC,ht]) (by simp[oT,tkC,ht,te0]);refine⟨_,{ L with tb:=n+2,te:=L.te++[n] },walk,by unfold fF;rw[hm,ha];exact y1,rfl,frF.trans (y2.mono fun b hb=>?_),by
  unfold fF;rw[hm,ha];exact .of rfl (fun b hb=>by
   rw[A9,A9,bQ,B2]at hb;rcases hb with ⟨_,hb⟩|hb|hb;·exact .inr (by dsimp only at hb;omega)
   ·exact .inl (F7 _ hb)
   ·exact .inr AM) (rM rfl) (dA (by rw[C9])) (dA rfl) (dA rfl) (dA rfl)⟩
 rw[B3]at hb;rcases hb with rfl|hb;·exact bB.2 ⟨0,by simp[px]⟩
 ·exact bB.2 ⟨1,H8 _ hb⟩
theorem aLU(ly:Lays h L s){b0 b1 b2 b3 b4 b5 fe j i:Nat}{name owner:ByteArray}{full empty v:Int}(o:Out L s [b0,b1,b2,b3,b4,b5])(k0:aG h b0=some (.cells true [.pt L.c 0]))(k1:aG h b1=some (.cells true [.str name]))(k2:aG h b2=some (.cells true [I empty]))(k3:aG h b3=some (.cells true [.pt fe 0]))(k4:aG h b4=some (.cells true [I full]))(k5:aG h b5=some (.cells true [.str owner]))
 (hfe:L.f.es[j]?=some fe) (hj:dY (s.farmers.map (·.1)) owner=some j) (hy:s.farmers[j]?=some (owner,v)) (hb : -1000000000≤v∧v≤1000000000∧0≤empty∧empty≤full∧full≤99999) (hl:s.wagons.length≤1000) (hl2:s.tickets.length≤1000) (hx:dY (s.wagons.map (·.1)) name=some i) (ht:0<s.tickets.length) :
 ∃ h' L',runW aB 128 [.pt b0 0,.pt b1 0,.pt b2 0,.pt b3 0,.pt b4 0,.pt b5 0] h=some (.tup [],h')∧Lays h' L' (fF s name owner full empty)∧L'.c=L.c∧Fr (tW L s) h h'∧Sb h.length L s L' (fF s name owner full empty):=by
 obtain⟨g0,j0⟩:=aC k0;obtain⟨g1,j1⟩:=aC k1;have a1:IntKind.i64.wrap (full-empty)=full-empty:=aI AM AM;have a2:IntKind.i64.wrap (v+(full-empty))=v+(full-empty):=aI AM AM;have fp:fe∈px L s 3:=yE hfe;have hfv:aG h fe=some (.cells true [I v]):=ly.f.he hfe (by rw[A6,hy];rfl);obtain⟨e,v',he,hv,hev,call⟩:=ly.w.oldw hx;obtain⟨em,hy2⟩:=sI hx;have hm:mW id empty name s.wagons=s.wagons:=by
  rw[oX hx hy2];exact J5 fun q=>by
   by_cases hq:q=i;·subst hq;rw[O7 (A2.1 hy2).1,hy2];rfl
   ·rw[aC6 (Ne.symm hq)]
 obtain⟨g6,hc⟩:=aC ly.hc;unfold bY at hc;obtain⟨g2,j2⟩:=aC k2;obtain⟨g3,j3⟩:=aC k3;obtain⟨g4,j4⟩:=aC k4;obtain⟨g5,j5⟩:=aC k5;obtain⟨g7,hf5⟩:=aC hfv;obtain⟨n,hn⟩:∃ n,h.length=n:=⟨_,rfl⟩;have lyF:=ly.oldF (g:=g7) (y:=v+(full-empty)) hj hfe;have frF:Fr (tW L s) h (h.set fe (some (.blk g7 (.cells true [I (v+(full-empty))])))):=(Fr.refl _ h).set (bB.2 ⟨3,fp⟩) _;have ha:=gZ (d:=full-empty) hj (by rw[A6,hy];rfl);have b0f:(b0=fe)=False:=AAq fun q=>ly.px_out (j:=3) o (b:=b0) (by simp) (q▸fp);have b1f:(b1=fe)=False:=AAq fun q=>ly.px_out (j:=3) o (b:=b1) (by simp) (q▸fp);have b2f:(b2=fe)=False:=AAq fun q=>ly.px_out (j:=3) o (b:=b2) (by simp) (q▸fp);have b4f:(b4=fe)=False:=AAq fun q=>ly.px_out (j:=3) o (b:=b4) (by simp) (q▸fp);have b5f:(b5=fe)=False:=AAq fun q=>ly.px_out (j:=3) o (b:=b5) (by simp) (q▸fp);have cf:(L.c=fe)=False:=AAq fun q=>ly.off (i:=3) (j:=0) (by decide) fp (by simp[px,q]);have bl:∀ b c,aG h b=some c→(b<n)=True:=fun b c hb=>AAp (by have:=aF hb;omega);have l0:=bl _ _ k0;have l1:=bl _ _ k1;have l2:=bl _ _ k2;have l4:=bl _ _ k4;have l5:=bl _ _ k5;have lf:=bl _ _ hfv;have lc:=bl _ _ ly.hc;obtain⟨tk0,tk1⟩:∃ k,s.tickets[0]?=some k:=⟨_,A4 ht⟩;obtain⟨te0,te1,te2,htb,te4⟩:=ly.tk.at tk1;have tp:L.tb∈px L s 1:=H8 _ (bQ.2 ⟨ht,rfl⟩);have hv:=eR (b:=L.tb) ht;rw[hv]at hc;have lt:=bl _ _ htb;have tf:(L.tb=fe)=False:=AAq fun q=>ly.off (i:=3) (j:=1) (by decide) fp (q▸tp);have tc:(L.tb=L.c)=False:=AAq fun q=>ly.off (i:=0) (j:=1) (by decide) (by simp[px]) (q▸tp);have tb0:(b0=L.tb)=False:=AAq fun q=>ly.px_out (j:=1) o (b:=b0) (by simp) (q▸tp);have bt0:(L.tb=b0)=False:=AAq fun q=>ly.px_out (j:=1) o (b:=b0) (by simp) (q▸tp);have tb1:(b1=L.tb)=False:=AAq fun q=>ly.px_out (j:=1) o (b:=b1) (by simp) (q▸tp);have bt1:(L.tb=b1)=False:=AAq fun q=>ly.px_out (j:=1) o (b:=b1) (by simp) (q▸tp);have tb2:(b2=L.tb)=False:=AAq fun q=>ly.px_out (j:=1) o (b:=b2) (by simp) (q▸tp);have bt2:(L.tb=b2)=False:=AAq fun q=>ly.px_out (j:=1) o (b:=b2) (by simp) (q▸tp);have tb4:(b4=L.tb)=False:=AAq fun q=>ly.px_out (j:=1) o (b:=b4) (by simp) (q▸tp);have bt4:(L.tb=b4)=False:=AAq fun q=>ly.px_out (j:=1) o (b:=b4) (by simp) (q▸tp);have tb5:(b5=L.tb)=False:=AAq fun q=>ly.px_out (j:=1) o (b:=b5) (by simp) (q▸tp);have bt5:(L.tb=b5)=False:=AAq fun q=>ly.px_out (j:=1) o (b:=b5) (by simp) (q▸tp);have ct:(L.c=L.tb)=False:=AAq fun q=>ly.off (i:=0) (j:=1) (by decide) (by simp[px]) (q▸tp);have tl:(L.te.map fun e=>AV.pt e 0).length=s.tickets.length:=by rw[A7];exact ly.tk.el
 have z1:((s.tickets.length+1)*8≤1099511627776)=True:=AAa;have z2:(s.tickets.length+1≤1099511627776)=True:=AAa;have tel:L.te.length=s.tickets.length:=ly.tk.el;obtain⟨gt,hgt⟩:=aC htb;have hbl:(h.set fe (some (.blk g7 (.cells true [I (v+(full-empty))])))).length=n:=(by simpa using hn);have walk:runW aB 128 [.pt b0 0,.pt b1 0,.pt b2 0,.pt b3 0,.pt b4 0,.pt b5 0] h=some (.tup [],((h.set fe (some (.blk g7 (.cells true [I (v+(full-empty))])))).set L.tb none).set L.c (some (.blk false (.cells true [.pt L.f.o 0,.pt L.m.o 0,.pt L.p.o 0,.pt L.w.o 0,.sl (n+2) 0 1 (s.tickets.length+1),I s.closed,iC L.kb s.book.length])))++[some (.blk true (.cells true [.str name,.str owner,I (full-empty),.bool false,.bool false])),some (.blk false (.cells true [.pt (n) 0])),some (.blk false (.cells true (L.te.map (fun e=>.pt e 0)++[.pt (n) 0])))]):=by
  rw[qY 128 aCW rfl,hn];unfold aCW;dsimp only;(sym=>(simp[Za,Zb,Zc,Zd,Ze,Zf,Zh,Zi,Zl,Zm,Zo,Zv,Zz,Z0,Z8,Z9,ZA,ZF,ZQ,ZW,ZY,ZZ,Yb,Yc,Yi,Yj,Ym,Yt,Y6,Y7,Y8,Xv,Xy,Wg,Wh,Wi,Wj,Wl,Wm,Wp,Vf,Vn,Vp,Vq,Vs,Vt,Vy,Vz,V1,V2,V3,V5,V6,V7,V8,V9,VA,Uk,Um,Un,UK,UM,UO,UT,UX,UZ,Tc,Td,Te,Tf,Tg,Th,Tl,Tm,Tn,Tt,Tv,Tx,Ty,T0,T5,T6,T7,TD,TE,TJ,TK,TL,TM,TN,TO,TU,TV,TW,TX,TY,TZ,Sf,Sg,Si,Sk,Sl,Sn,Sp,Su,Sv,Sw,Sz,S2,S3,S4,S7,S9,SB,SE,SM,SN,Ro,Rp,Ry,Qe,Qg,QW,QY,Pa,Pf,Pg,Ph,Pj,Pk,Pm,Po,Pp,Pr,j0,j1,j2,j3,j4,j5,hc,call,hf5,a1,a2,hn,l0,l1,l2,l4,l5,lf,lc,b0f,b1f,b2f,b4f,b5f,cf,hgt,lt,tf,tc,ct,tel,z1,z2,tb0,tb1,tb2,tb4,tb5,bt0,bt1,bt2,bt4,bt5];all_goals tactic=>exact rfl))
 obtain⟨y1,y2⟩:=lyF.tickNew2 (h':=((h.set fe (some (.blk g7 (.cells true [I (v+(full-empty))])))).set L.tb none).set L.c (some (.blk false (.cells true [.pt L.f.o 0,.pt L.m.o 0,.pt L.p.o 0,.pt L.w.o 0,.sl (n+2) 0 1 (s.tickets.length+1),I s.closed,iC L.kb s.book.length])))++[some (.blk true (.cells true [.str name,.str owner,I (full-empty),.bool false,.bool false])),some (.blk false (.cells true [.pt (n) 0])),some (.blk false (.cells true (L.te.map (fun e=>.pt e 0)++[.pt (n) 0])))]) (k:=⟨name,owner,full-empty,false⟩) (n:=n) (g:=false) (g1:=true) (g2:=false) (g3:=false) (cs:=[.pt L.f.o 0,.pt L.m.o 0,.pt L.p.o 0,.pt L.w.o 0,.sl (n+2) 0 1 (s.tickets.length+1),I s.closed,iC L.kb s.book.length]) hbl (by simp[bY,iC]) (by simp[oT,tkC,Nat.ne_of_gt ht]);refine⟨_,{ L with tb:=n+2,te:=L.te++[n] },walk,by unfold fF;rw[hm,ha];exact y1,rfl,frF.trans (y2.mono fun b hb=>?_),by
  unfold fF;rw[hm,ha];exact .of rfl (fun b hb=>by
   rw[A9,A9,bQ,B2]at hb;rcases hb with ⟨_,hb⟩|hb|hb;·exact .inr (by dsimp only at hb;omega)
   ·exact .inl (F7 _ hb)
   ·exact .inr AM) (rM rfl) (dA (by rw[C9])) (dA rfl) (dA rfl) (dA rfl)⟩
 rw[B3]at hb;rcases hb with rfl|hb;·exact bB.2 ⟨0,by simp[px]⟩
 ·exact bB.2 ⟨1,H8 _ hb⟩
theorem aLV(ly:Lays h L s){b0 b1 b2 b3 b4 b5 fe j:Nat}{name owner:ByteArray}{full empty v:Int}(o:Out L s [b0,b1,b2,b3,b4,b5])(k0:aG h b0=some (.cells true [.pt L.c 0]))(k1:aG h b1=some (.cells true [.str name]))(k2:aG h b2=some (.cells true [I empty]))(k3:aG h b3=some (.cells true [.pt fe 0]))(k4:aG h b4=some (.cells true [I full]))(k5:aG h b5=some (.cells true [.str owner]))
 (hfe:L.f.es[j]?=some fe) (hj:dY (s.farmers.map (·.1)) owner=some j) (hy:s.farmers[j]?=some (owner,v)) (hb : -1000000000≤v∧v≤1000000000∧0≤empty∧empty≤full∧full≤99999) (hl:s.wagons.length≤1000) (hl2:s.tickets.length≤1000) (hx:dY (s.wagons.map (·.1)) name=none) (ht:s.tickets.length=0) :
 ∃ h' L',runW aB 128 [.pt b0 0,.pt b1 0,.pt b2 0,.pt b3 0,.pt b4 0,.pt b5 0] h=some (.tup [],h')∧Lays h' L' (fF s name owner full empty)∧L'.c=L.c∧Fr (tW L s) h h'∧Sb h.length L s L' (fF s name owner full empty):=by
 obtain⟨g0,j0⟩:=aC k0;obtain⟨g1,j1⟩:=aC k1;have a1:IntKind.i64.wrap (full-empty)=full-empty:=aI AM AM;have a2:IntKind.i64.wrap (v+(full-empty))=v+(full-empty):=aI AM AM;have fp:fe∈px L s 3:=yE hfe;have hfv:aG h fe=some (.cells true [I v]):=ly.f.he hfe (by rw[A6,hy];rfl);obtain⟨h1,call,hl1,od1,fr1⟩:=ly.w.neww hx (by rw[A7];exact hl);rw[A7]at fr1;have hm:mW id empty name s.wagons=s.wagons++[(name,empty)]:=uB hx;obtain⟨g6,hc⟩:=aC ly.hc;unfold bY at hc;obtain⟨g9,he9⟩:=aC (od1.he (i:=s.wagons.length) (v:=[I 0]) (e:=h.length+2) (by have:=ly.w.ek;rw[A7]at this;rw[←this,B9 (A8 _)];simp) (by rw[B9 (by simp)];simp));obtain⟨lyW,frW⟩:=ly.newW (y:=empty) (g:=g9) od1 fr1;obtain⟨g2,j2⟩:=aC (fr1.keepS k2 (ly.px_out (j:=6) o (by simp)));obtain⟨gc1,hc1⟩:=aC (fr1.keepS ly.hc (ly.off (i:=0) (j:=6) (by decide) (by simp[px])));unfold bY at hc1;obtain⟨gi0,i0⟩:=aC (fr1.keepS k0 (ly.px_out (j:=6) o (by simp)));obtain⟨gi1,i1⟩:=aC (fr1.keepS k1 (ly.px_out (j:=6) o (by simp)));obtain⟨g3,j3⟩:=aC (fr1.keepS k3 (ly.px_out (j:=6) o (by simp)));obtain⟨g4,j4⟩:=aC (fr1.keepS k4 (ly.px_out (j:=6) o (by simp)));obtain⟨g5,j5⟩:=aC (fr1.keepS k5 (ly.px_out (j:=6) o (by simp)));obtain⟨g7,hf5⟩:=aC (fr1.keepS hfv (ly.off (i:=3) (j:=6) (by decide) fp));obtain⟨n,hn⟩:∃ n,h.length=n:=⟨_,rfl⟩;rw[hn]at call hl1 he9 lyW frW;have lyF:=lyW.oldF (g:=g7) (y:=v+(full-empty)) hj hfe;have frF:Fr (tW L s) h ((h1.set (n+2) (some (.blk g9 (.cells true [I empty])))).set fe (some (.blk g7 (.cells true [I (v+(full-empty))])))):=(Fr.px (j:=6) frW).set (bB.2 ⟨3,fp⟩) _;have b0n:(b0=n+2)=False:=AAq (by have:=aF k0;omega);have b1n:(b1=n+2)=False:=AAq (by have:=aF k1;omega);have b2n:(b2=n+2)=False:=AAq (by have:=aF k2;omega);have b3n:(b3=n+2)=False:=AAq (by have:=aF k3;omega);have b4n:(b4=n+2)=False:=AAq (by have:=aF k4;omega);have b5n:(b5=n+2)=False:=AAq (by have:=aF k5;omega);have fn:(fe=n+2)=False:=AAq (by have:=aF hfv;omega);have cn2:(L.c=n+2)=False:=AAq (by have:=aF ly.hc;omega);have nl:(n+2<n+3)=True:=AAa

 have ha:=gZ (d:=full-empty) hj (by rw[A6,hy];rfl);have b0f:(b0=fe)=False:=AAq fun q=>ly.px_out (j:=3) o (b:=b0) (by simp) (q▸fp);have b1f:(b1=fe)=False:=AAq fun q=>ly.px_out (j:=3) o (b:=b1) (by simp) (q▸fp);have b2f:(b2=fe)=False:=AAq fun q=>ly.px_out (j:=3) o (b:=b2) (by simp) (q▸fp);have b4f:(b4=fe)=False:=AAq fun q=>ly.px_out (j:=3) o (b:=b4) (by simp) (q▸fp);have b5f:(b5=fe)=False:=AAq fun q=>ly.px_out (j:=3) o (b:=b5) (by simp) (q▸fp);have cf:(L.c=fe)=False:=AAq fun q=>ly.off (i:=3) (j:=0) (by decide) fp (by simp[px,q]);have bl:∀ b c,aG h b=some c→(b<n)=True:=fun b c hb=>AAp (by have:=aF hb;omega);have l0:=bl _ _ k0;have l1:=bl _ _ k1;have l2:=bl _ _ k2;have l4:=bl _ _ k4;have l5:=bl _ _ k5;have lf:=bl _ _ hfv;have lc:=bl _ _ ly.hc;have up:∀ b,(b<n)=True→(b<n+3)=True:=fun b hb=>AAp (by have:=AAn hb;omega);have u0:=up _ l0;have u1:=up _ l1;have u2:=up _ l2;have u4:=up _ l4;have u5:=up _ l5;have uf:=up _ lf;have uc:=up _ lc;have te0:L.te=[]:=B8 (by rw[ly.tk.el];exact ht);have hv:iC L.tb s.tickets.length = .nilsl:=by rw[ht];rfl
 rw[hv]at hc;rw[hv]at hc1;have hbl:((h1.set (n+2) (some (.blk g9 (.cells true [I empty])))).set fe (some (.blk g7 (.cells true [I (v+(full-empty))])))).length=n+3:=(by simpa using hl1);have walk:runW aB 128 [.pt b0 0,.pt b1 0,.pt b2 0,.pt b3 0,.pt b4 0,.pt b5 0] h=some (.tup [],((h1.set (n+2) (some (.blk g9 (.cells true [I empty])))).set fe (some (.blk g7 (.cells true [I (v+(full-empty))])))).set L.c (some (.blk false (.cells true [.pt L.f.o 0,.pt L.m.o 0,.pt L.p.o 0,.pt L.w.o 0,.sl (n+5) 0 1 1,I s.closed,iC L.kb s.book.length])))++[some (.blk true (.cells true [.str name,.str owner,I (full-empty),.bool false,.bool false])),some (.blk false (.cells true [.pt (n+3) 0])),some (.blk false (.cells true [.pt (n+3) 0]))]):=by
  rw[qY 128 aCW rfl,hn];unfold aCW;dsimp only;(sym=>(simp[Za,Zb,Zc,Zd,Ze,Zf,Zh,Zi,Zl,Zm,Zo,Zv,Zz,Z0,Z8,Z9,ZA,ZF,ZQ,ZV,ZW,ZY,ZZ,Ya,Yb,Yc,Yi,Yj,Ym,Yt,Y6,Y7,Y8,Xv,Xy,Wg,Wh,Wi,Wj,Wl,Wm,Wp,Vf,Vn,Vp,Vq,Vs,Vt,Vz,V0,V1,V2,V3,V5,V6,V7,V8,V9,VA,Uk,Um,Un,UK,UM,UO,UT,UX,UY,Tc,Td,Te,Tf,Tg,Th,Tl,Tm,Tt,Tv,Tx,Ty,T0,T6,T7,TD,TE,TJ,TK,TL,TM,TN,TO,TU,TV,TW,TX,TY,TZ,Sf,Sg,Si,Sj,Sn,Sp,Su,Sv,Sw,Sz,S3,S4,S6,S7,S9,SE,SM,SN,Ro,Ry,Qe,Qf,Qg,QW,QY,Pa,Pf,Pg,Ph,Pj,Pk,Pm,Po,Pp,Pr,j0,j1,j2,j3,j4,j5,hc,call,hf5,a1,a2,hn,l0,l1,l2,l4,l5,lf,lc,b0f,b1f,b2f,b4f,b5f,cf,hl1,b0n,b1n,b2n,b3n,b4n,b5n,fn,cn2,nl,he9,i0,i1,hc1,u0,u1,u2,u4,u5,uf,uc];all_goals tactic=>exact rfl))
 obtain⟨y1,y2⟩:=lyF.tickNew2 (h':=((h1.set (n+2) (some (.blk g9 (.cells true [I empty])))).set fe (some (.blk g7 (.cells true [I (v+(full-empty))])))).set L.c (some (.blk false (.cells true [.pt L.f.o 0,.pt L.m.o 0,.pt L.p.o 0,.pt L.w.o 0,.sl (n+5) 0 1 1,I s.closed,iC L.kb s.book.length])))++[some (.blk true (.cells true [.str name,.str owner,I (full-empty),.bool false,.bool false])),some (.blk false (.cells true [.pt (n+3) 0])),some (.blk false (.cells true [.pt (n+3) 0]))]) (k:=⟨name,owner,full-empty,false⟩) (n:=n+3) (g:=false) (g1:=true) (g2:=false) (g3:=false) (cs:=[.pt L.f.o 0,.pt L.m.o 0,.pt L.p.o 0,.pt L.w.o 0,.sl (n+5) 0 1 1,I s.closed,iC L.kb s.book.length]) hbl (by simp[bY,iC,ht]) (by simp[oT,tkC,ht,te0]);refine⟨_,{ ({ L with w:=⟨L.w.o,L.w.m,n+1,L.w.es++[n+2]⟩ }:CL)with tb:=n+5,te:=L.te++[n+3] },walk,by unfold fF;rw[hm,ha];exact y1,rfl,frF.trans (y2.mono fun b hb=>?_),by
  unfold fF;rw[hm,ha];exact .of rfl (fun b hb=>by
   rw[A9,A9,bQ,B2]at hb;rcases hb with ⟨_,hb⟩|hb|hb;·exact .inr (by dsimp only at hb;omega)
   ·exact .inl (F7 _ hb)
   ·exact .inr AM) (rM rfl) (dA (by rw[C9])) (dA rfl) (dA rfl) (fun b hb=>by rw[←hn]at hb;exact nR hb)⟩
 rw[B3]at hb;rcases hb with rfl|hb;·exact bB.2 ⟨0,by simp[px]⟩
 ·exact bB.2 ⟨1,H8 _ hb⟩
theorem aLW(ly:Lays h L s){b0 b1 b2 b3 b4 b5 fe j:Nat}{name owner:ByteArray}{full empty v:Int}(o:Out L s [b0,b1,b2,b3,b4,b5])(k0:aG h b0=some (.cells true [.pt L.c 0]))(k1:aG h b1=some (.cells true [.str name]))(k2:aG h b2=some (.cells true [I empty]))(k3:aG h b3=some (.cells true [.pt fe 0]))(k4:aG h b4=some (.cells true [I full]))(k5:aG h b5=some (.cells true [.str owner]))
 (hfe:L.f.es[j]?=some fe) (hj:dY (s.farmers.map (·.1)) owner=some j) (hy:s.farmers[j]?=some (owner,v)) (hb : -1000000000≤v∧v≤1000000000∧0≤empty∧empty≤full∧full≤99999) (hl:s.wagons.length≤1000) (hl2:s.tickets.length≤1000) (hx:dY (s.wagons.map (·.1)) name=none) (ht:0<s.tickets.length) :
 ∃ h' L',runW aB 128 [.pt b0 0,.pt b1 0,.pt b2 0,.pt b3 0,.pt b4 0,.pt b5 0] h=some (.tup [],h')∧Lays h' L' (fF s name owner full empty)∧L'.c=L.c∧Fr (tW L s) h h'∧Sb h.length L s L' (fF s name owner full empty):=by
 obtain⟨g0,j0⟩:=aC k0;obtain⟨g1,j1⟩:=aC k1;have a1:IntKind.i64.wrap (full-empty)=full-empty:=aI AM AM;have a2:IntKind.i64.wrap (v+(full-empty))=v+(full-empty):=aI AM AM;have fp:fe∈px L s 3:=yE hfe;have hfv:aG h fe=some (.cells true [I v]):=ly.f.he hfe (by rw[A6,hy];rfl);obtain⟨h1,call,hl1,od1,fr1⟩:=ly.w.neww hx (by rw[A7];exact hl);rw[A7]at fr1;have hm:mW id empty name s.wagons=s.wagons++[(name,empty)]:=uB hx;obtain⟨g6,hc⟩:=aC ly.hc;unfold bY at hc;obtain⟨g9,he9⟩:=aC (od1.he (i:=s.wagons.length) (v:=[I 0]) (e:=h.length+2) (by have:=ly.w.ek;rw[A7]at this;rw[←this,B9 (A8 _)];simp) (by rw[B9 (by simp)];simp));obtain⟨lyW,frW⟩:=ly.newW (y:=empty) (g:=g9) od1 fr1;obtain⟨g2,j2⟩:=aC (fr1.keepS k2 (ly.px_out (j:=6) o (by simp)));obtain⟨gc1,hc1⟩:=aC (fr1.keepS ly.hc (ly.off (i:=0) (j:=6) (by decide) (by simp[px])));unfold bY at hc1;obtain⟨gi0,i0⟩:=aC (fr1.keepS k0 (ly.px_out (j:=6) o (by simp)));obtain⟨gi1,i1⟩:=aC (fr1.keepS k1 (ly.px_out (j:=6) o (by simp)));obtain⟨g3,j3⟩:=aC (fr1.keepS k3 (ly.px_out (j:=6) o (by simp)));obtain⟨g4,j4⟩:=aC (fr1.keepS k4 (ly.px_out (j:=6) o (by simp)));obtain⟨g5,j5⟩:=aC (fr1.keepS k5 (ly.px_out (j:=6) o (by simp)));obtain⟨g7,hf5⟩:=aC (fr1.keepS hfv (ly.off (i:=3) (j:=6) (by decide) fp));obtain⟨n,hn⟩:∃ n,h.length=n:=⟨_,rfl⟩;rw[hn]at call hl1 he9 lyW frW;have lyF:=lyW.oldF (g:=g7) (y:=v+(full-empty)) hj hfe;have frF:Fr (tW L s) h ((h1.set (n+2) (some (.blk g9 (.cells true [I empty])))).set fe (some (.blk g7 (.cells true [I (v+(full-empty))])))):=(Fr.px (j:=6) frW).set (bB.2 ⟨3,fp⟩) _;have b0n:(b0=n+2)=False:=AAq (by have:=aF k0;omega);have b1n:(b1=n+2)=False:=AAq (by have:=aF k1;omega);have b2n:(b2=n+2)=False:=AAq (by have:=aF k2;omega);have b3n:(b3=n+2)=False:=AAq (by have:=aF k3;omega);have b4n:(b4=n+2)=False:=AAq (by have:=aF k4;omega);have b5n:(b5=n+2)=False:=AAq (by have:=aF k5;omega);have fn:(fe=n+2)=False:=AAq (by have:=aF hfv;omega);have cn2:(L.c=n+2)=False:=AAq (by have:=aF ly.hc;omega);have nl:(n+2<n+3)=True:=AAa

 have ha:=gZ (d:=full-empty) hj (by rw[A6,hy];rfl);have b0f:(b0=fe)=False:=AAq fun q=>ly.px_out (j:=3) o (b:=b0) (by simp) (q▸fp);have b1f:(b1=fe)=False:=AAq fun q=>ly.px_out (j:=3) o (b:=b1) (by simp) (q▸fp);have b2f:(b2=fe)=False:=AAq fun q=>ly.px_out (j:=3) o (b:=b2) (by simp) (q▸fp);have b4f:(b4=fe)=False:=AAq fun q=>ly.px_out (j:=3) o (b:=b4) (by simp) (q▸fp);have b5f:(b5=fe)=False:=AAq fun q=>ly.px_out (j:=3) o (b:=b5) (by simp) (q▸fp);have cf:(L.c=fe)=False:=AAq fun q=>ly.off (i:=3) (j:=0) (by decide) fp (by simp[px,q]);have bl:∀ b c,aG h b=some c→(b<n)=True:=fun b c hb=>AAp (by have:=aF hb;omega);have l0:=bl _ _ k0;have l1:=bl _ _ k1;have l2:=bl _ _ k2;have l4:=bl _ _ k4;have l5:=bl _ _ k5;have lf:=bl _ _ hfv;have lc:=bl _ _ ly.hc;have up:∀ b,(b<n)=True→(b<n+3)=True:=fun b hb=>AAp (by have:=AAn hb;omega);have u0:=up _ l0;have u1:=up _ l1;have u2:=up _ l2;have u4:=up _ l4;have u5:=up _ l5;have uf:=up _ lf;have uc:=up _ lc;obtain⟨tk0,tk1⟩:∃ k,s.tickets[0]?=some k:=⟨_,A4 ht⟩;obtain⟨te0,te1,te2,htb,te4⟩:=ly.tk.at tk1;have tp:L.tb∈px L s 1:=H8 _ (bQ.2 ⟨ht,rfl⟩);have hv:=eR (b:=L.tb) ht;rw[hv]at hc;have lt:=bl _ _ htb;have tf:(L.tb=fe)=False:=AAq fun q=>ly.off (i:=3) (j:=1) (by decide) fp (q▸tp);have tc:(L.tb=L.c)=False:=AAq fun q=>ly.off (i:=0) (j:=1) (by decide) (by simp[px]) (q▸tp);have tb0:(b0=L.tb)=False:=AAq fun q=>ly.px_out (j:=1) o (b:=b0) (by simp) (q▸tp);have bt0:(L.tb=b0)=False:=AAq fun q=>ly.px_out (j:=1) o (b:=b0) (by simp) (q▸tp);have tb1:(b1=L.tb)=False:=AAq fun q=>ly.px_out (j:=1) o (b:=b1) (by simp) (q▸tp);have bt1:(L.tb=b1)=False:=AAq fun q=>ly.px_out (j:=1) o (b:=b1) (by simp) (q▸tp);have tb2:(b2=L.tb)=False:=AAq fun q=>ly.px_out (j:=1) o (b:=b2) (by simp) (q▸tp);have bt2:(L.tb=b2)=False:=AAq fun q=>ly.px_out (j:=1) o (b:=b2) (by simp) (q▸tp);have tb4:(b4=L.tb)=False:=AAq fun q=>ly.px_out (j:=1) o (b:=b4) (by simp) (q▸tp);have bt4:(L.tb=b4)=False:=AAq fun q=>ly.px_out (j:=1) o (b:=b4) (by simp) (q▸tp);have tb5:(b5=L.tb)=False:=AAq fun q=>ly.px_out (j:=1) o (b:=b5) (by simp) (q▸tp);have bt5:(L.tb=b5)=False:=AAq fun q=>ly.px_out (j:=1) o (b:=b5) (by simp) (q▸tp);have ct:(L.c=L.tb)=False:=AAq fun q=>ly.off (i:=0) (j:=1) (by decide) (by simp[px]) (q▸tp);have tl:(L.te.map fun e=>AV.pt e 0).length=s.tickets.length:=by rw[A7];exact ly.tk.el
 have z1:((s.tickets.length+1)*8≤1099511627776)=True:=AAa;have z2:(s.tickets.length+1≤1099511627776)=True:=AAa;have tel:L.te.length=s.tickets.length:=ly.tk.el;obtain⟨gt,hgt⟩:=aC (fr1.keepS htb (ly.off (i:=1) (j:=6) (by decide) tp));have tn:(L.tb=n+2)=False:=AAq (by have:=aF htb;omega);have ut:=up _ lt;rw[hv]at hc1;have hbl:((h1.set (n+2) (some (.blk g9 (.cells true [I empty])))).set fe (some (.blk g7 (.cells true [I (v+(full-empty))])))).length=n+3:=(by simpa using hl1);have walk:runW aB 128 [.pt b0 0,.pt b1 0,.pt b2 0,.pt b3 0,.pt b4 0,.pt b5 0] h=some (.tup [],(((h1.set (n+2) (some (.blk g9 (.cells true [I empty])))).set fe (some (.blk g7 (.cells true [I (v+(full-empty))])))).set L.tb none).set L.c (some (.blk false (.cells true [.pt L.f.o 0,.pt L.m.o 0,.pt L.p.o 0,.pt L.w.o 0,.sl (n+5) 0 1 (s.tickets.length+1),I s.closed,iC L.kb s.book.length])))++[some (.blk true (.cells true [.str name,.str owner,I (full-empty),.bool false,.bool false])),some (.blk false (.cells true [.pt (n+3) 0])),some (.blk false (.cells true (L.te.map (fun e=>.pt e 0)++[.pt (n+3) 0])))]):=by
  rw[qY 128 aCW rfl,hn];unfold aCW;dsimp only;(sym=>(simp[Za,Zb,Zc,Zd,Ze,Zf,Zh,Zi,Zl,Zm,Zo,Zv,Zz,Z0,Z8,Z9,ZA,ZF,ZQ,ZV,ZW,ZY,ZZ,Ya,Yb,Yc,Yi,Yj,Ym,Yt,Y6,Y7,Y8,Xv,Xy,Wg,Wh,Wi,Wj,Wl,Wm,Wp,Vf,Vn,Vp,Vq,Vs,Vt,Vy,Vz,V1,V2,V3,V5,V6,V7,V8,V9,VA,Uk,Um,Un,UK,UM,UO,UT,UX,UY,Tc,Td,Te,Tf,Tg,Th,Tl,Tm,Tn,Tt,Tv,Tx,Ty,T0,T5,T6,T7,TD,TE,TJ,TK,TL,TM,TN,TO,TU,TV,TW,TX,TY,TZ,Sf,Sg,Si,Sk,Sl,Sn,Sp,Su,Sv,Sw,Sz,S2,S3,S4,S7,S9,SE,SM,SN,Ro,Rp,Ry,Qe,Qg,QW,QY,Pa,Pf,Pg,Ph,Pj,Pk,Pm,Po,Pp,Pr,j0,j1,j2,j3,j4,j5,hc,call,hf5,a1,a2,hn,l0,l1,l2,l4,l5,lf,lc,b0f,b1f,b2f,b4f,b5f,cf,hl1,b0n,b1n,b2n,b3n,b4n,b5n,fn,cn2,nl,he9,i0,i1,hc1,u0,u1,u2,u4,u5,uf,uc,hgt,lt,tf,tc,ct,tel,z1,z2,tb0,tb1,tb2,tb4,tb5,bt0,bt1,bt2,bt4,bt5,tn,ut];all_goals tactic=>exact rfl))
 obtain⟨y1,y2⟩:=lyF.tickNew2 (h':=(((h1.set (n+2) (some (.blk g9 (.cells true [I empty])))).set fe (some (.blk g7 (.cells true [I (v+(full-empty))])))).set L.tb none).set L.c (some (.blk false (.cells true [.pt L.f.o 0,.pt L.m.o 0,.pt L.p.o 0,.pt L.w.o 0,.sl (n+5) 0 1 (s.tickets.length+1),I s.closed,iC L.kb s.book.length])))++[some (.blk true (.cells true [.str name,.str owner,I (full-empty),.bool false,.bool false])),some (.blk false (.cells true [.pt (n+3) 0])),some (.blk false (.cells true (L.te.map (fun e=>.pt e 0)++[.pt (n+3) 0])))]) (k:=⟨name,owner,full-empty,false⟩) (n:=n+3) (g:=false) (g1:=true) (g2:=false) (g3:=false) (cs:=[.pt L.f.o 0,.pt L.m.o 0,.pt L.p.o 0,.pt L.w.o 0,.sl (n+5) 0 1 (s.tickets.length+1),I s.closed,iC L.kb s.book.length]) hbl (by simp[bY,iC]) (by simp[oT,tkC,Nat.ne_of_gt ht]);refine⟨_,{ ({ L with w:=⟨L.w.o,L.w.m,n+1,L.w.es++[n+2]⟩ }:CL)with tb:=n+5,te:=L.te++[n+3] },walk,by unfold fF;rw[hm,ha];exact y1,rfl,frF.trans (y2.mono fun b hb=>?_),by
  unfold fF;rw[hm,ha];exact .of rfl (fun b hb=>by
   rw[A9,A9,bQ,B2]at hb;rcases hb with ⟨_,hb⟩|hb|hb;·exact .inr (by dsimp only at hb;omega)
   ·exact .inl (F7 _ hb)
   ·exact .inr AM) (rM rfl) (dA (by rw[C9])) (dA rfl) (dA rfl) (fun b hb=>by rw[←hn]at hb;exact nR hb)⟩
 rw[B3]at hb;rcases hb with rfl|hb;·exact bB.2 ⟨0,by simp[px]⟩
 ·exact bB.2 ⟨1,H8 _ hb⟩
theorem aZl(ly:Lays h L s){b0 b1 b2 b3 b4 b5 fe j:Nat}{name owner:ByteArray}{full empty v:Int}(o:Out L s [b0,b1,b2,b3,b4,b5])(k0:aG h b0=some (.cells true [.pt L.c 0]))(k1:aG h b1=some (.cells true [.str name]))(k2:aG h b2=some (.cells true [I empty]))(k3:aG h b3=some (.cells true [.pt fe 0]))(k4:aG h b4=some (.cells true [I full]))(k5:aG h b5=some (.cells true [.str owner]))
 (hfe:L.f.es[j]?=some fe) (hj:dY (s.farmers.map (·.1)) owner=some j) (hy:s.farmers[j]?=some (owner,v)) (hb : -1000000000≤v∧v≤1000000000∧0≤empty∧empty≤full∧full≤99999) (hl:s.wagons.length≤1000) (hl2:s.tickets.length≤1000) :
 ∃ h' L',runW aB 128 [.pt b0 0,.pt b1 0,.pt b2 0,.pt b3 0,.pt b4 0,.pt b5 0] h=some (.tup [],h')∧Lays h' L' (fF s name owner full empty)∧L'.c=L.c∧Fr (tW L s) h h'∧Sb h.length L s L' (fF s name owner full empty):=by
 cases hx:dY (s.wagons.map (·.1)) name with
 | some i =>
   by_cases ht:s.tickets.length=0;·exact aLT ly o k0 k1 k2 k3 k4 k5 hfe hj hy hb hl hl2 hx ht
   ·exact aLU ly o k0 k1 k2 k3 k4 k5 hfe hj hy hb hl hl2 hx AM
 | none =>
   by_cases ht:s.tickets.length=0;·exact aLV ly o k0 k1 k2 k3 k4 k5 hfe hj hy hb hl hl2 hx ht
   ·exact aLW ly o k0 k1 k2 k3 k4 k5 hfe hj hy hb hl hl2 hx AM
def wWg(f:ByteArray)(name t1 t2 owner:ByteArray)(z full empty z2:Int):AV:=.agg [.str f,.fs [[.str name],[.str t1],[.str t2],[.str owner]],.fs [[I z],[I full],[I empty],[I z2]]]
def jX(c:Nat)(f name t1 t2 owner:ByteArray)(z full empty z2:Int)(r:XH):XH:=some (.blk false (.cells true [.pt c 0]))::some (.blk true (.cells true [.str f,.fs [[.str name],[.str t1],[.str t2],[.str owner]],.fs [[I z],[I full],[I empty],[I z2]]]))::some (.blk true (.cells true [.str name]))::some (.blk true (.cells true [I full]))::some (.blk true (.cells true [I empty]))::some (.blk true (.cells true [.str owner]))::r
variable{f name t1 t2 owner:ByteArray}{z full empty z2:Int}
theorem aYg(ly:Lays h L s)(hx:dY (s.farmers.map (·.1)) owner=none):CalP Tryz.prog aB 90 [.pt L.c 0,wWg f name t1 t2 owner z full empty z2] h (.ifc 110 (.agg [I 5])) (h++jX L.c f name t1 t2 owner z full empty z2 []):=by
 refine CalP.of (d:=x90) (e':=bH [] []) aA rfl (by simp[x90]) rfl ?_;unfold x90;dsimp only;obtain⟨n,hn⟩:∃ n,h.length=n:=⟨_,rfl⟩;obtain⟨g,hc⟩:=aC ly.hc;unfold bY at hc;have cn:(L.c<n)=True:=AAp (by rw[←hn];exact aF ly.hc);have na:∀ a b:Nat,(n+a=n+b)=(a=b):=fun a b=>by simp
 have ly2:=ly.ext (jX L.c f name t1 t2 owner z full empty z2 []);refine PanX.seqR (K:=90) aA rfl [2,3] (vs:=[.pt n 0,.pt (n+1) 0]) (h1:=h++[some (.blk false (.cells true [.pt L.c 0])),some (.blk true (.cells true [.str f,.fs [[.str name],[.str t1],[.str t2],[.str owner]],.fs [[I z],[I full],[I empty],[I z2]]]))]) (by rw[hn];unfold wWg; (exact dM hn)) ?_;refine PanX.seqR (K:=90) aA rfl [2,3,5,6,7,8] (vs:=[.pt n 0,.pt (n+1) 0,.pt (n+2) 0,.pt (n+3) 0,.pt (n+4) 0,.pt (n+5) 0]) (h1:=h++jX L.c f name t1 t2 owner z full empty z2 []) (by unfold jX; (exact RS2 hn na)) ?_;refine PanX.seqL ?_;exact PanX.regU (fr:=[9]) (p:=[⟨0,some 27,.load false 1 (.t 2),none⟩,⟨1,some 28,.nilck (.t 27),none⟩,⟨2,some 29,.fld 0 (.t 28),none⟩,⟨3,some 30,.load false 1 (.t 29),none⟩,⟨4,some 31,.load false 1 (.t 8),none⟩]) (post:=[⟨6,some 9,.alloc [.nilpt],none⟩,⟨7,none,.store 1 (.t 9) (.t 32) [],none⟩]) aA [] (g:=95) (first:=[]) (cap:=[]) (args:=[.pt L.f.o 0,.str owner]) (vs:=[]) rfl rfl rfl (by unfold jX; (exact RS3 hc hn cn)) (ly2.f.nonef hx)
theorem aNq(ly:Lays h L s){j:Nat}(hj:dY (s.farmers.map (·.1)) owner=some j)(r:XH):∃ fe,L.f.es[j]?=some fe∧runW aB 95 [.pt L.f.o 0,.str owner] (h++r)=some (.pt fe 0,h++r):=by
 obtain⟨fe,v,h1,h2,h3,h4⟩:=(ly.ext r).f.getf hj;exact⟨fe,h1,h4⟩
theorem bBw(ly:Lays h L s){j:Nat}(hj:dY (s.farmers.map (·.1)) owner=some j)(hle:¬empty≤full):∃ fe,CalP Tryz.prog aB 90 [.pt L.c 0,wWg f name t1 t2 owner z full empty z2] h (.ifc 110 (.agg [I 10])) (h++jX L.c f name t1 t2 owner z full empty z2 [some (.blk false (.cells true [.pt fe 0]))]):=by
 obtain⟨fe,hfe,call⟩:=aNq ly hj (jX L.c f name t1 t2 owner z full empty z2 []);refine⟨fe,CalP.of (d:=x90) (e':=bH [] []) aA rfl (by simp[x90]) rfl ?_⟩;unfold x90;dsimp only;obtain⟨n,hn⟩:∃ n,h.length=n:=⟨_,rfl⟩;obtain⟨g,hc⟩:=aC ly.hc;unfold bY at hc;have cn:(L.c<n)=True:=AAp (by rw[←hn];exact aF ly.hc);have na:∀ a b:Nat,(n+a=n+b)=(a=b):=fun a b=>by simp
 have tle:(empty≤full)=False:=AAq hle;refine PanX.seqR (K:=90) aA rfl [2,3] (vs:=[.pt n 0,.pt (n+1) 0]) (h1:=h++[some (.blk false (.cells true [.pt L.c 0])),some (.blk true (.cells true [.str f,.fs [[.str name],[.str t1],[.str t2],[.str owner]],.fs [[I z],[I full],[I empty],[I z2]]]))]) (by rw[hn];unfold wWg; (exact dM hn)) ?_;refine PanX.seqR (K:=90) aA rfl [2,3,5,6,7,8] (vs:=[.pt n 0,.pt (n+1) 0,.pt (n+2) 0,.pt (n+3) 0,.pt (n+4) 0,.pt (n+5) 0]) (h1:=h++jX L.c f name t1 t2 owner z full empty z2 []) (by unfold jX; (exact RS2 hn na)) ?_;refine PanX.seqR (K:=90) aA rfl [2,3,5,6,7,8,9] (vs:=[.pt n 0,.pt (n+1) 0,.pt (n+2) 0,.pt (n+3) 0,.pt (n+4) 0,.pt (n+5) 0,.pt (n+6) 0]) (h1:=h++jX L.c f name t1 t2 owner z full empty z2 [some (.blk false (.cells true [.pt fe 0]))]) (by unfold jX at call ⊢; (exact RS5 hn na hc cn call)) ?_;refine PanX.seqL ?_;exact PanX.reg (p:=[⟨0,some 33,.load false 1 (.t 7),none⟩,⟨0,some 34,.load false 1 (.t 6),none⟩,⟨0,some 35,.bin .leq (.t 33) (.t 34),none⟩]) (post:=[]) aA [] (g:=58) (first:=[]) (cap:=[]) (args:=[.bool false,I 10]) (vs:=[]) rfl rfl (by unfold jX; (exact RS2 hn tle)) (c58 10 _)
theorem w90(ly:Lays h L s){j:Nat}(hj:dY (s.farmers.map (·.1)) owner=some j)(hle:empty≤full)(hw:∀ i v,dY (s.wagons.map (·.1)) name=some i→(s.wagons.map (·.2))[i]?=some v→v-500≤empty∧empty≤v+500)(hb:∀ p∈s.wagons,0≤p.2∧p.2≤99999) :
 ∃ fe,L.f.es[j]?=some fe∧runW aB 90 [.pt L.c 0,wWg f name t1 t2 owner z full empty z2] h=some (.fn (.func 128) [] [.pt h.length 0,.pt (h.length+2) 0,.pt (h.length+4) 0,.pt (h.length+6) 0,.pt (h.length+3) 0,.pt (h.length+5) 0],h++jX L.c f name t1 t2 owner z full empty z2 [some (.blk false (.cells true [.pt fe 0]))]):=by
 obtain⟨fe,hfe,call⟩:=aNq ly hj (jX L.c f name t1 t2 owner z full empty z2 []);refine⟨fe,hfe,?_⟩;obtain⟨n,hn⟩:∃ n,h.length=n:=⟨_,rfl⟩;obtain⟨g,hc⟩:=aC ly.hc;unfold bY at hc;have cn:(L.c<n)=True:=AAp (by rw[←hn];exact aF ly.hc);have na:∀ a b:Nat,(n+a=n+b)=(a=b):=fun a b=>by simp
 have tle:(empty≤full)=True:=AAp hle;obtain⟨gw,hwo⟩:=ly.w.ho;obtain⟨gm,hwm⟩:=ly.w.hm;have won:(L.w.o<n)=True:=AAp (by rw[←hn];exact ly.w.lts.1);have wmn:(L.w.m<n)=True:=AAp (by rw[←hn];exact ly.w.lts.2.1);have m1:=uQ 10;have m2:=uQ 22;rw[qY 90 x90 rfl,hn];unfold x90;dsimp only;unfold jX wWg at *;rcases hx:dY (s.wagons.map (·.1)) name with _|i
 ·have hf:=ly.w.miss hx
  (exact nJ hn hc cn na tle call hwo hwm won wmn m1 hf aE)
 ·obtain⟨e,v,he,hv,hf,hev⟩:=ly.w.found hx
  obtain⟨y,hy⟩:=sI hx;rw[A6,hy]at hv;cases hv;have hev:aG h e=some (.cells true [I y]):=hev;obtain⟨ge,hee⟩:=aC hev;have hww:=hw i y hx (by rw[A6,hy];rfl);have hbb:=hb _ (A5 hy);simp only at hbb;have een:(e<n)=True:=AAp (by rw[←hn];exact aF hev);have v1:IntKind.i64.wrap (y-500)=y-500:=aI AM AM;have v2:IntKind.i64.wrap (y+500)=y+500:=aI AM AM;have c35:=w35 (y-500) empty (y+500);rw[AAl hww.1,AAl hww.2]at c35;(exact kO hn hc cn na tle call hwo hwm won wmn m1 hf hee een v1 v2 c35 m2 aE aE)
theorem bBv(ly:Lays h L s){i j:Nat}{y:Int}(hj:dY (s.farmers.map (·.1)) owner=some j)(hle:empty≤full)(hx:dY (s.wagons.map (·.1)) name=some i)(hy:(s.wagons.map (·.2))[i]?=some y)(hw:¬(y-500≤empty∧empty≤y+500))(hb:∀ p∈s.wagons,0≤p.2∧p.2≤99999):∃ fe,CalP Tryz.prog aB 90 [.pt L.c 0,wWg f name t1 t2 owner z full empty z2] h (.ifc 110 (.agg [I 22])) (h++jX L.c f name t1 t2 owner z full empty z2 [some (.blk false (.cells true [.pt fe 0]))]):=by
 obtain⟨fe,hfe,call⟩:=aNq ly hj (jX L.c f name t1 t2 owner z full empty z2 []);refine⟨fe,CalP.of (d:=x90) (e':=bH [] []) aA rfl (by simp[x90]) rfl ?_⟩;unfold x90;dsimp only;obtain⟨n,hn⟩:∃ n,h.length=n:=⟨_,rfl⟩;obtain⟨g,hc⟩:=aC ly.hc;unfold bY at hc;have cn:(L.c<n)=True:=AAp (by rw[←hn];exact aF ly.hc);have na:∀ a b:Nat,(n+a=n+b)=(a=b):=fun a b=>by simp
 have tle:(empty≤full)=True:=AAp hle;obtain⟨gw,hwo⟩:=ly.w.ho;obtain⟨gm,hwm⟩:=ly.w.hm;have won:(L.w.o<n)=True:=AAp (by rw[←hn];exact ly.w.lts.1);have wmn:(L.w.m<n)=True:=AAp (by rw[←hn];exact ly.w.lts.2.1);have m1:=uQ 10;obtain⟨e,v,he,hv,hf,hev⟩:=ly.w.found hx;rw[A6]at hv hy;obtain⟨⟨q1,q2⟩,hq,hy⟩:=A0.1 hy;have hy:q2=y:=hy;subst hy;rw[hq]at hv;cases hv;have hev:aG h e=some (.cells true [I q2]):=hev;obtain⟨ge,hee⟩:=aC hev;have hbb:=hb _ (A5 hq);simp only at hbb;have een:(e<n)=True:=AAp (by rw[←hn];exact aF hev);have v1:IntKind.i64.wrap (q2-500)=q2-500:=aI AM AM;have v2:IntKind.i64.wrap (q2+500)=q2+500:=aI AM AM;have c35:=w35 (q2-500) empty (q2+500);have hdd:(decide (q2-500≤empty)&&decide (empty≤q2+500))=false:=by
  rw[O1,AAf,AAf];by_cases h1:q2-500≤empty;·exact .inr fun h2=>hw ⟨h1,h2⟩
  ·exact .inl h1
 rw[hdd]at c35;refine PanX.seqR (K:=90) aA rfl [2,3] (vs:=[.pt n 0,.pt (n+1) 0]) (h1:=h++[some (.blk false (.cells true [.pt L.c 0])),some (.blk true (.cells true [.str f,.fs [[.str name],[.str t1],[.str t2],[.str owner]],.fs [[I z],[I full],[I empty],[I z2]]]))]) (by rw[hn];unfold wWg; (exact dM hn)) ?_;refine PanX.seqR (K:=90) aA rfl [2,3,5,6,7,8] (vs:=[.pt n 0,.pt (n+1) 0,.pt (n+2) 0,.pt (n+3) 0,.pt (n+4) 0,.pt (n+5) 0]) (h1:=h++jX L.c f name t1 t2 owner z full empty z2 []) (by unfold jX; (exact RS2 hn na)) ?_;refine PanX.seqR (K:=90) aA rfl [2,3,5,6,7,8,9] (vs:=[.pt n 0,.pt (n+1) 0,.pt (n+2) 0,.pt (n+3) 0,.pt (n+4) 0,.pt (n+5) 0,.pt (n+6) 0]) (h1:=h++jX L.c f name t1 t2 owner z full empty z2 [some (.blk false (.cells true [.pt fe 0]))]) (by unfold jX at call ⊢; (exact RS5 hn na hc cn call)) ?_;refine PanX.seqR (K:=90) aA rfl [2,3,5,6,7,8,9] (vs:=[.pt n 0,.pt (n+1) 0,.pt (n+2) 0,.pt (n+3) 0,.pt (n+4) 0,.pt (n+5) 0,.pt (n+6) 0]) (h1:=h++jX L.c f name t1 t2 owner z full empty z2 [some (.blk false (.cells true [.pt fe 0]))]) (by unfold jX; (exact RS3 hn tle m1)) ?_;refine PanX.seqL ?_;refine PanX.seqR (K:=90) aA rfl [7,10] (vs:=[.pt (n+4) 0,.pt e 0]) (h1:=h++jX L.c f name t1 t2 owner z full empty z2 [some (.blk false (.cells true [.pt fe 0]))]) (by unfold jX; (exact uO hn hc cn hwo hwm won wmn hf aE)) ?_;refine PanX.seqR (K:=90) aA rfl [7,10,47] (vs:=[.pt (n+4) 0,.pt e 0,.bool true]) (h1:=h++jX L.c f name t1 t2 owner z full empty z2 [some (.blk false (.cells true [.pt fe 0]))]) (by (exact wO)) ?_;refine PanX.condT rfl ?_;exact PanX.regU (fr:=[]) (p:=[⟨0,some 48,.mv (.t 10),none⟩,⟨1,some 49,.nilck (.t 48),none⟩,⟨2,some 50,.fld 0 (.t 49),none⟩,⟨3,some 51,.load false 1 (.t 50),none⟩,⟨4,some 52,.bin .sub (.t 51) (.c (.int .i64 500)),none⟩,⟨5,some 53,.load false 1 (.t 7),none⟩,⟨6,some 54,.mv (.t 10),none⟩,⟨7,some 55,.nilck (.t 54),none⟩,⟨8,some 56,.fld 0 (.t 55),none⟩,⟨9,some 57,.load false 1 (.t 56),none⟩,⟨10,some 58,.bin .add (.t 57) (.c (.int .i64 500)),none⟩,⟨11,some 59,.callf false (.c (.fn (.func 35) [] [])) [(.t 52),(.t 53),(.t 58)] [],none⟩]) (post:=[]) aA [] (g:=58) (first:=[]) (cap:=[]) (args:=[.bool false,I 22]) (vs:=[]) rfl rfl rfl (by unfold jX; (exact RS7 hn hee een v1 v2 c35 aE)) (c58 22 _)
variable{h h' h1:XH}{L:CL}{s:dR}{x:ByteArray}
theorem kD:aQ .eql AAu AAu=some (.bool true):=by kernel_rfl
theorem qM:aQ .eql AAv AAu=some (.bool false):=by kernel_rfl
theorem rQ:aQ .eql AAv AAv=some (.bool true):=by kernel_rfl
theorem rR:aQ .eql AAw AAu=some (.bool false):=by kernel_rfl
theorem vA:aQ .eql AAw AAv=some (.bool false):=by kernel_rfl
theorem xD:aQ .eql AAw AAw=some (.bool true):=by kernel_rfl
theorem qO:aQ .eql AAx AAu=some (.bool false):=by kernel_rfl
theorem rW:aQ .eql AAx AAv=some (.bool false):=by kernel_rfl
theorem vD:aQ .eql AAx AAw=some (.bool false):=by kernel_rfl
theorem rX:aQ .eql AAx AAx=some (.bool true):=by kernel_rfl
theorem qN:aQ .eql AAy AAu=some (.bool false):=by kernel_rfl
theorem rT:aQ .eql AAy AAv=some (.bool false):=by kernel_rfl
theorem vC:aQ .eql AAy AAw=some (.bool false):=by kernel_rfl
theorem rV:aQ .eql AAy AAx=some (.bool false):=by kernel_rfl
theorem rU:aQ .eql AAy AAy=some (.bool true):=by kernel_rfl
theorem vB:aQ .eql AAz AAu=some (.bool false):=by kernel_rfl
theorem xE:aQ .eql AAz AAv=some (.bool false):=by kernel_rfl
theorem aAi:aQ .eql AAz AAw=some (.bool false):=by kernel_rfl
theorem xG:aQ .eql AAz AAx=some (.bool false):=by kernel_rfl
theorem xF:aQ .eql AAz AAy=some (.bool false):=by kernel_rfl
theorem aBy:aQ .eql AAz AAz=some (.bool true):=by kernel_rfl
theorem aDh:aQ .eql AAA AAu=some (.bool false):=by kernel_rfl
theorem aEO:aQ .eql AAA AAv=some (.bool false):=by kernel_rfl
theorem aGf:aQ .eql AAA AAw=some (.bool false):=by kernel_rfl
theorem aEQ:aQ .eql AAA AAx=some (.bool false):=by kernel_rfl
theorem aEP:aQ .eql AAA AAy=some (.bool false):=by kernel_rfl
theorem aHE:aQ .eql AAA AAz=some (.bool false):=by kernel_rfl
theorem aAx:aQ .eql AAB AAu=some (.bool false):=by kernel_rfl
theorem aBr:aQ .eql AAB AAv=some (.bool false):=by kernel_rfl
theorem aDe:aQ .eql AAB AAw=some (.bool false):=by kernel_rfl
theorem aBt:aQ .eql AAB AAx=some (.bool false):=by kernel_rfl
theorem aBs:aQ .eql AAB AAy=some (.bool false):=by kernel_rfl
theorem aEM:aQ .eql AAB AAz=some (.bool false):=by kernel_rfl
theorem zB:aQ .eql AAC AAu=some (.bool false):=by kernel_rfl
theorem aAy:aQ .eql AAC AAv=some (.bool false):=by kernel_rfl
theorem aBu:aQ .eql AAC AAw=some (.bool false):=by kernel_rfl
theorem aAA:aQ .eql AAC AAx=some (.bool false):=by kernel_rfl
theorem aAz:aQ .eql AAC AAy=some (.bool false):=by kernel_rfl
theorem aDf:aQ .eql AAC AAz=some (.bool false):=by kernel_rfl
theorem aBq:aQ .eql AAD AAu=some (.bool false):=by kernel_rfl
theorem aDb:aQ .eql AAD AAv=some (.bool false):=by kernel_rfl
theorem aEL:aQ .eql AAD AAw=some (.bool false):=by kernel_rfl
theorem aDd:aQ .eql AAD AAx=some (.bool false):=by kernel_rfl
theorem aDc:aQ .eql AAD AAy=some (.bool false):=by kernel_rfl
theorem aGe:aQ .eql AAD AAz=some (.bool false):=by kernel_rfl
theorem aBz:aQ .eql AAE AAu=some (.bool false):=by kernel_rfl
theorem aDi:aQ .eql AAE AAv=some (.bool false):=by kernel_rfl
theorem aER:aQ .eql AAE AAw=some (.bool false):=by kernel_rfl
theorem aDk:aQ .eql AAE AAx=some (.bool false):=by kernel_rfl
theorem aDj:aQ .eql AAE AAy=some (.bool false):=by kernel_rfl
theorem aGg:aQ .eql AAE AAz=some (.bool false):=by kernel_rfl
theorem aAB:aQ .eql AAF AAu=some (.bool false):=by kernel_rfl
theorem aBv:aQ .eql AAF AAv=some (.bool false):=by kernel_rfl
theorem aDg:aQ .eql AAF AAw=some (.bool false):=by kernel_rfl
theorem aBx:aQ .eql AAF AAx=some (.bool false):=by kernel_rfl
theorem aBw:aQ .eql AAF AAy=some (.bool false):=by kernel_rfl
theorem aEN:aQ .eql AAF AAz=some (.bool false):=by kernel_rfl
theorem aLS(ly:Lays h L s)(hcl:s.closed<s.tickets.length) :
 runW aB 61 [.pt L.c 0,.agg [.str AAx,.fs [],.fs []]] h=some (.fn (.func 92) [] [.pt h.length 0],h++[some (.blk false (.cells true [.pt L.c 0])),some (.blk true (.cells true [.str AAx,.fs [],.fs []]))]):=by
 obtain⟨n,hn⟩:∃ n,h.length=n:=⟨_,rfl⟩;obtain⟨g,hc⟩:=aC ly.hc;unfold bY at hc;have cn:(L.c<n)=True:=AAp (by rw[←hn];exact aF ly.hc);rw[eR AM]at hc;have t1:((s.closed:Int)<(s.tickets.length:Int))=True:=AAa;have m1:=uQ 4;rw[qY 61 mO rfl,hn];unfold mO;dsimp only;(exact uO hn hc cn t1 m1 qO rW vD rX)
theorem aSU{c:Nat}{z0:Int}:runW aB 61 [.pt c 0,.agg [.str AAA,.fs [[.str x]],.fs [[I z0]]]] h=some (.nilfn,h++[some (.blk false (.cells true [.pt c 0])),some (.blk true (.cells true [.str AAA,.fs [[.str x]],.fs [[I z0]]]))]):=by
 obtain⟨n,hn⟩:∃ n,h.length=n:=⟨_,rfl⟩;rw[qY 61 mO rfl,hn];unfold mO;dsimp only;(exact RS7 hn aDh aEO aGf aEQ aEP aHE)
theorem aLP{c:Nat}  : runW aB 61 [.pt c 0,.agg [.str AAB,.fs [],.fs []]] h=some (.nilfn,h++[some (.blk false (.cells true [.pt c 0])),some (.blk true (.cells true [.str AAB,.fs [],.fs []]))]):=by
 obtain⟨n,hn⟩:∃ n,h.length=n:=⟨_,rfl⟩;rw[qY 61 mO rfl,hn];unfold mO;dsimp only;(exact RS7 hn aAx aBr aDe aBt aBs aEM)
theorem aKp{c:Nat}{u1:ByteArray}{i:Int}:runW aB 61 [.pt c 0,.agg [.str AAC,.fs [[.str u1]],.fs [[I i]]]] h=some (.nilfn,h++[some (.blk false (.cells true [.pt c 0])),some (.blk true (.cells true [.str AAC,.fs [[.str u1]],.fs [[I i]]]))]):=by
 obtain⟨n,hn⟩:∃ n,h.length=n:=⟨_,rfl⟩;rw[qY 61 mO rfl,hn];unfold mO;dsimp only;(exact RS7 hn zB aAy aBu aAA aAz aDf)
theorem aPL{c:Nat}{z0:Int}:runW aB 61 [.pt c 0,.agg [.str AAD,.fs [[.str x]],.fs [[I z0]]]] h=some (.nilfn,h++[some (.blk false (.cells true [.pt c 0])),some (.blk true (.cells true [.str AAD,.fs [[.str x]],.fs [[I z0]]]))]):=by
 obtain⟨n,hn⟩:∃ n,h.length=n:=⟨_,rfl⟩;rw[qY 61 mO rfl,hn];unfold mO;dsimp only;(exact RS7 hn aBq aDb aEL aDd aDc aGe)
theorem aPM{c:Nat}{z0:Int}:runW aB 61 [.pt c 0,.agg [.str AAE,.fs [[.str x]],.fs [[I z0]]]] h=some (.nilfn,h++[some (.blk false (.cells true [.pt c 0])),some (.blk true (.cells true [.str AAE,.fs [[.str x]],.fs [[I z0]]]))]):=by
 obtain⟨n,hn⟩:∃ n,h.length=n:=⟨_,rfl⟩;rw[qY 61 mO rfl,hn];unfold mO;dsimp only;(exact RS7 hn aBz aDi aER aDk aDj aGg)
theorem aLQ{c:Nat}{z0:Int}:runW aB 61 [.pt c 0,.agg [.str AAF,.fs [[.str x]],.fs [[I z0]]]] h=some (.nilfn,h++[some (.blk false (.cells true [.pt c 0])),some (.blk true (.cells true [.str AAF,.fs [[.str x]],.fs [[I z0]]]))]):=by
 obtain⟨n,hn⟩:∃ n,h.length=n:=⟨_,rfl⟩;rw[qY 61 mO rfl,hn];unfold mO;dsimp only;(exact RS7 hn aAB aBv aDg aBx aBw aEN)
theorem aKq(ly:Lays h L s){z0:Int}(hx:dY (s.farmers.map (·.1)) x=none)(hl:s.farmers.length≠9) :
 runW aB 61 [.pt L.c 0,.agg [.str AAu,.fs [[.str x]],.fs [[I z0]]]] h=some (.fn (.func 88) [] [.pt h.length 0,.pt (h.length+1) 0],h++[some (.blk false (.cells true [.pt L.c 0])),some (.blk true (.cells true [.str AAu,.fs [[.str x]],.fs [[I z0]]]))]):=by
 obtain⟨n,hn⟩:∃ n,h.length=n:=⟨_,rfl⟩;obtain⟨g,hc⟩:=aC ly.hc;unfold bY at hc;have cn:(L.c<n)=True:=AAp (by rw[←hn];exact aF ly.hc);obtain⟨gw,hwo⟩:=ly.f.ho;obtain⟨gm,hwm⟩:=ly.f.hm;have won:(L.f.o<n)=True:=AAp (by rw[←hn];exact ly.f.lts.1);have wmn:(L.f.m<n)=True:=AAp (by rw[←hn];exact ly.f.lts.2.1);have hf:=ly.f.miss hx;have f1:=(ly.f.fr (Fr.app h [some (.blk false (.cells true [.pt L.c 0])),some (.blk true (.cells true [.str AAu,.fs [[.str x]],.fs [[I z0]]]))]) (fun _ _ hb=>by cases hb)).fullf (x:=x) (by decide);rw[hx,AAl rfl,aJ6,AAm (by rw[A7];omega)]at f1;have m1:=uQ 6;have m2:=uQ 15;rw[qY 61 mO rfl,hn];unfold mO;dsimp only;(exact nJ hn hc cn m1 m2 hwo hwm won wmn hf f1 kD aE)
theorem aLO{c:Nat}{u1 u2 y:ByteArray}{z0 z1 a b:Int}{v:AV}{h2:XH}(call:runW aB 90 [.pt c 0,.agg [.str AAv,.fs [[.str x],[.str u1],[.str u2],[.str y]],.fs [[I z0],[I a],[I b],[I z1]]]] (h++[some (.blk false (.cells true [.pt c 0])),some (.blk true (.cells true [.str AAv,.fs [[.str x],[.str u1],[.str u2],[.str y]],.fs [[I z0],[I a],[I b],[I z1]]]))])=some (v,h2))(p0:(hat h2 h.length).isSome=true)(p1:(hat h2 (h.length+1)).isSome=true):runW aB 61 [.pt c 0,.agg [.str AAv,.fs [[.str x],[.str u1],[.str u2],[.str y]],.fs [[I z0],[I a],[I b],[I z1]]]] h=some (v,h2):=by
 obtain⟨n,hn⟩:∃ n,h.length=n:=⟨_,rfl⟩;rw[hn]at p0 p1;rw[qY 61 mO rfl,hn];unfold mO;dsimp only;(exact RS7 hn call p0 p1 qM rQ aE)
theorem aPK{c:Nat}{u1:ByteArray}{i:Int}{v:AV}{h2:XH}(call:runW aB 91 [.pt c 0,I i] (h++[some (.blk false (.cells true [.pt c 0])),some (.blk true (.cells true [.str AAw,.fs [[.str u1]],.fs [[I i]]]))])=some (v,h2))(p0:(hat h2 h.length).isSome=true)(p1:(hat h2 (h.length+1)).isSome=true):runW aB 61 [.pt c 0,.agg [.str AAw,.fs [[.str u1]],.fs [[I i]]]] h=some (v,h2):=by
 obtain⟨n,hn⟩:∃ n,h.length=n:=⟨_,rfl⟩;rw[hn]at p0 p1;rw[qY 61 mO rfl,hn];unfold mO;dsimp only;(exact RS7 hn call p0 p1 rR vA xD)
theorem aLR{c:Nat}{u1:ByteArray}{z0 a:Int}{v:AV}{h2:XH}(call:runW aB 93 [.pt c 0,.str x,I a] (h++[some (.blk false (.cells true [.pt c 0])),some (.blk true (.cells true [.str AAy,.fs [[.str x],[.str u1]],.fs [[I z0],[I a]]]))])=some (v,h2))(p0:(hat h2 h.length).isSome=true)(p1:(hat h2 (h.length+1)).isSome=true):runW aB 61 [.pt c 0,.agg [.str AAy,.fs [[.str x],[.str u1]],.fs [[I z0],[I a]]]] h=some (v,h2):=by
 obtain⟨n,hn⟩:∃ n,h.length=n:=⟨_,rfl⟩;rw[hn]at p0 p1;rw[qY 61 mO rfl,hn];unfold mO;dsimp only;(exact uO hn call p0 p1 qN rT vC rV rU)
theorem aST{c:Nat}{u1 u2:ByteArray}{z0 a b:Int}{v:AV}{h2:XH}(call:runW aB 94 [.pt c 0,.str x,I a,I b] (h++[some (.blk false (.cells true [.pt c 0])),some (.blk true (.cells true [.str AAz,.fs [[.str x],[.str u1],[.str u2]],.fs [[I z0],[I a],[I b]]]))])=some (v,h2))(p0:(hat h2 h.length).isSome=true)(p1:(hat h2 (h.length+1)).isSome=true):runW aB 61 [.pt c 0,.agg [.str AAz,.fs [[.str x],[.str u1],[.str u2]],.fs [[I z0],[I a],[I b]]]] h=some (v,h2):=by
 obtain⟨n,hn⟩:∃ n,h.length=n:=⟨_,rfl⟩;rw[hn]at p0 p1;rw[qY 61 mO rfl,hn];unfold mO;dsimp only;(exact nN hn call p0 p1 vB xE aAi xG xF aBy)
theorem yO{c:Nat}{u1 u2 y:ByteArray}{z0 z1 a b:Int}{v:AV}{h2:XH}(call:CalP Tryz.prog aB 90 [.pt c 0,.agg [.str AAv,.fs [[.str x],[.str u1],[.str u2],[.str y]],.fs [[I z0],[I a],[I b],[I z1]]]] (h++[some (.blk false (.cells true [.pt c 0])),some (.blk true (.cells true [.str AAv,.fs [[.str x],[.str u1],[.str u2],[.str y]],.fs [[I z0],[I a],[I b],[I z1]]]))]) v h2):CalP Tryz.prog aB 61 [.pt c 0,.agg [.str AAv,.fs [[.str x],[.str u1],[.str u2],[.str y]],.fs [[I z0],[I a],[I b],[I z1]]]] h v h2:=by
 obtain⟨n,hn⟩:∃ n,h.length=n:=⟨_,rfl⟩;refine CalP.of (d:=mO) (e':=bH [] []) aA rfl (by simp[mO]) rfl ?_;unfold mO;dsimp only;refine PanX.seqR (K:=61) aA rfl [2,3] (vs:=[.pt n 0,.pt (n+1) 0]) (h1:=h++[some (.blk false (.cells true [.pt c 0])),some (.blk true (.cells true [.str AAv,.fs [[.str x],[.str u1],[.str u2],[.str y]],.fs [[I z0],[I a],[I b],[I z1]]]))]) (by rw[hn]; (exact dM hn)) ?_;refine PanX.seqL ?_;refine PanX.seqR (K:=61) aA rfl [2,3,6] (vs:=[.pt n 0,.pt (n+1) 0,.str AAv]) (h1:=h++[some (.blk false (.cells true [.pt c 0])),some (.blk true (.cells true [.str AAv,.fs [[.str x],[.str u1],[.str u2],[.str y]],.fs [[I z0],[I a],[I b],[I z1]]]))]) (by (exact dM hn)) ?_;refine PanX.block ?_;refine PanX.seqR (K:=61) aA rfl [2,3,6,7] (vs:=[.pt n 0,.pt (n+1) 0,.str AAv,.bool false]) (h1:=h++[some (.blk false (.cells true [.pt c 0])),some (.blk true (.cells true [.str AAv,.fs [[.str x],[.str u1],[.str u2],[.str y]],.fs [[I z0],[I a],[I b],[I z1]]]))]) (by (exact dM qM)) ?_;refine PanX.condF rfl ?_;refine PanX.seqR (K:=61) aA rfl [2,3,6,35] (vs:=[.pt n 0,.pt (n+1) 0,.str AAv,.bool true]) (h1:=h++[some (.blk false (.cells true [.pt c 0])),some (.blk true (.cells true [.str AAv,.fs [[.str x],[.str u1],[.str u2],[.str y]],.fs [[I z0],[I a],[I b],[I z1]]]))]) (by (exact dM rQ)) ?_;refine PanX.condT rfl ?_;refine PanX.seqL ?_;exact PanX.reg (p:=[⟨0,(some 37),(.load false 1 (.t 2)),none⟩,⟨0,(some 38),(.load true 3 (.t 3)),none⟩]) (post:=[⟨0,(some 4),(.mv (.t 39)),none⟩]) aA [] (g:=90) (first:=[]) (cap:=[]) (args:=[.pt c 0,.agg [.str AAv,.fs [[.str x],[.str u1],[.str u2],[.str y]],.fs [[I z0],[I a],[I b],[I z1]]]]) (vs:=[]) rfl rfl (by (exact dM hn)) call
theorem aFG{c:Nat}{u1:ByteArray}{i:Int}{v:AV}{h2:XH}(call:CalP Tryz.prog aB 91 [.pt c 0,I i] (h++[some (.blk false (.cells true [.pt c 0])),some (.blk true (.cells true [.str AAw,.fs [[.str u1]],.fs [[I i]]]))]) v h2):CalP Tryz.prog aB 61 [.pt c 0,.agg [.str AAw,.fs [[.str u1]],.fs [[I i]]]] h v h2:=by
 obtain⟨n,hn⟩:∃ n,h.length=n:=⟨_,rfl⟩;refine CalP.of (d:=mO) (e':=bH [] []) aA rfl (by simp[mO]) rfl ?_;unfold mO;dsimp only;refine PanX.seqR (K:=61) aA rfl [2,3] (vs:=[.pt n 0,.pt (n+1) 0]) (h1:=h++[some (.blk false (.cells true [.pt c 0])),some (.blk true (.cells true [.str AAw,.fs [[.str u1]],.fs [[I i]]]))]) (by rw[hn]; (exact dM hn)) ?_;refine PanX.seqL ?_;refine PanX.seqR (K:=61) aA rfl [2,3,6] (vs:=[.pt n 0,.pt (n+1) 0,.str AAw]) (h1:=h++[some (.blk false (.cells true [.pt c 0])),some (.blk true (.cells true [.str AAw,.fs [[.str u1]],.fs [[I i]]]))]) (by (exact dM hn)) ?_;refine PanX.block ?_;refine PanX.seqR (K:=61) aA rfl [2,3,6,7] (vs:=[.pt n 0,.pt (n+1) 0,.str AAw,.bool false]) (h1:=h++[some (.blk false (.cells true [.pt c 0])),some (.blk true (.cells true [.str AAw,.fs [[.str u1]],.fs [[I i]]]))]) (by (exact dM rR)) ?_;refine PanX.condF rfl ?_;refine PanX.seqR (K:=61) aA rfl [2,3,6,35] (vs:=[.pt n 0,.pt (n+1) 0,.str AAw,.bool false]) (h1:=h++[some (.blk false (.cells true [.pt c 0])),some (.blk true (.cells true [.str AAw,.fs [[.str u1]],.fs [[I i]]]))]) (by (exact dM vA)) ?_;refine PanX.condF rfl ?_;refine PanX.seqR (K:=61) aA rfl [2,3,6,40] (vs:=[.pt n 0,.pt (n+1) 0,.str AAw,.bool true]) (h1:=h++[some (.blk false (.cells true [.pt c 0])),some (.blk true (.cells true [.str AAw,.fs [[.str u1]],.fs [[I i]]]))]) (by (exact dM xD)) ?_;refine PanX.condT rfl ?_;refine PanX.seqL ?_;exact PanX.regU (fr:=[]) (p:=[⟨0,(some 42),(.load false 1 (.t 2)),none⟩,⟨1,(some 43),(.fld 2 (.t 3)),none⟩,⟨2,(some 44),(.load false 1 (.t 43)),none⟩,⟨3,(some 45),(.idx 1 (.t 44) (.c (.int .i64 0))),none⟩,⟨4,(some 46),(.load false 1 (.t 45)),none⟩]) (post:=[⟨6,(some 4),(.mv (.t 47)),none⟩]) aA [] (g:=91) (first:=[]) (cap:=[]) (args:=[.pt c 0,I i]) (vs:=[]) rfl rfl rfl (by (exact dM hn)) call
theorem aOK{c:Nat}{u1:ByteArray}{z0 a:Int}{v:AV}{h2:XH}(call:CalP Tryz.prog aB 93 [.pt c 0,.str x,I a] (h++[some (.blk false (.cells true [.pt c 0])),some (.blk true (.cells true [.str AAy,.fs [[.str x],[.str u1]],.fs [[I z0],[I a]]]))]) v h2):CalP Tryz.prog aB 61 [.pt c 0,.agg [.str AAy,.fs [[.str x],[.str u1]],.fs [[I z0],[I a]]]] h v h2:=by
 obtain⟨n,hn⟩:∃ n,h.length=n:=⟨_,rfl⟩;refine CalP.of (d:=mO) (e':=bH [] []) aA rfl (by simp[mO]) rfl ?_;unfold mO;dsimp only;refine PanX.seqR (K:=61) aA rfl [2,3] (vs:=[.pt n 0,.pt (n+1) 0]) (h1:=h++[some (.blk false (.cells true [.pt c 0])),some (.blk true (.cells true [.str AAy,.fs [[.str x],[.str u1]],.fs [[I z0],[I a]]]))]) (by rw[hn]; (exact dM hn)) ?_;refine PanX.seqL ?_;refine PanX.seqR (K:=61) aA rfl [2,3,6] (vs:=[.pt n 0,.pt (n+1) 0,.str AAy]) (h1:=h++[some (.blk false (.cells true [.pt c 0])),some (.blk true (.cells true [.str AAy,.fs [[.str x],[.str u1]],.fs [[I z0],[I a]]]))]) (by (exact dM hn)) ?_;refine PanX.block ?_;refine PanX.seqR (K:=61) aA rfl [2,3,6,7] (vs:=[.pt n 0,.pt (n+1) 0,.str AAy,.bool false]) (h1:=h++[some (.blk false (.cells true [.pt c 0])),some (.blk true (.cells true [.str AAy,.fs [[.str x],[.str u1]],.fs [[I z0],[I a]]]))]) (by (exact dM qN)) ?_;refine PanX.condF rfl ?_;refine PanX.seqR (K:=61) aA rfl [2,3,6,35] (vs:=[.pt n 0,.pt (n+1) 0,.str AAy,.bool false]) (h1:=h++[some (.blk false (.cells true [.pt c 0])),some (.blk true (.cells true [.str AAy,.fs [[.str x],[.str u1]],.fs [[I z0],[I a]]]))]) (by (exact dM rT)) ?_;refine PanX.condF rfl ?_;refine PanX.seqR (K:=61) aA rfl [2,3,6,40] (vs:=[.pt n 0,.pt (n+1) 0,.str AAy,.bool false]) (h1:=h++[some (.blk false (.cells true [.pt c 0])),some (.blk true (.cells true [.str AAy,.fs [[.str x],[.str u1]],.fs [[I z0],[I a]]]))]) (by (exact dM vC)) ?_;refine PanX.condF rfl ?_;refine PanX.seqR (K:=61) aA rfl [2,3,6,48] (vs:=[.pt n 0,.pt (n+1) 0,.str AAy,.bool false]) (h1:=h++[some (.blk false (.cells true [.pt c 0])),some (.blk true (.cells true [.str AAy,.fs [[.str x],[.str u1]],.fs [[I z0],[I a]]]))]) (by (exact dM rV)) ?_;refine PanX.condF rfl ?_;refine PanX.seqR (K:=61) aA rfl [2,3,6,62] (vs:=[.pt n 0,.pt (n+1) 0,.str AAy,.bool true]) (h1:=h++[some (.blk false (.cells true [.pt c 0])),some (.blk true (.cells true [.str AAy,.fs [[.str x],[.str u1]],.fs [[I z0],[I a]]]))]) (by (exact dM rU)) ?_;refine PanX.condT rfl ?_;refine PanX.seqL ?_;exact PanX.regU (fr:=[]) (p:=[⟨0,(some 64),(.load false 1 (.t 2)),none⟩,⟨1,(some 65),(.fld 1 (.t 3)),none⟩,⟨2,(some 66),(.load false 1 (.t 65)),none⟩,⟨3,(some 67),(.idx 1 (.t 66) (.c (.int .i64 0))),none⟩,⟨4,(some 68),(.load false 1 (.t 67)),none⟩,⟨5,(some 69),(.fld 2 (.t 3)),none⟩,⟨6,(some 70),(.load false 1 (.t 69)),none⟩,⟨7,(some 71),(.idx 1 (.t 70) (.c (.int .i64 1))),none⟩,⟨8,(some 72),(.load false 1 (.t 71)),none⟩]) (post:=[⟨10,(some 4),(.mv (.t 73)),none⟩]) aA [] (g:=93) (first:=[]) (cap:=[]) (args:=[.pt c 0,.str x,I a]) (vs:=[]) rfl rfl rfl (by (exact dM hn)) call
theorem aOJ{c:Nat}{u1 u2:ByteArray}{z0 a b:Int}{v:AV}{h2:XH}(call:CalP Tryz.prog aB 94 [.pt c 0,.str x,I a,I b] (h++[some (.blk false (.cells true [.pt c 0])),some (.blk true (.cells true [.str AAz,.fs [[.str x],[.str u1],[.str u2]],.fs [[I z0],[I a],[I b]]]))]) v h2):CalP Tryz.prog aB 61 [.pt c 0,.agg [.str AAz,.fs [[.str x],[.str u1],[.str u2]],.fs [[I z0],[I a],[I b]]]] h v h2:=by
 obtain⟨n,hn⟩:∃ n,h.length=n:=⟨_,rfl⟩;refine CalP.of (d:=mO) (e':=bH [] []) aA rfl (by simp[mO]) rfl ?_;unfold mO;dsimp only;refine PanX.seqR (K:=61) aA rfl [2,3] (vs:=[.pt n 0,.pt (n+1) 0]) (h1:=h++[some (.blk false (.cells true [.pt c 0])),some (.blk true (.cells true [.str AAz,.fs [[.str x],[.str u1],[.str u2]],.fs [[I z0],[I a],[I b]]]))]) (by rw[hn]; (exact dM hn)) ?_;refine PanX.seqL ?_;refine PanX.seqR (K:=61) aA rfl [2,3,6] (vs:=[.pt n 0,.pt (n+1) 0,.str AAz]) (h1:=h++[some (.blk false (.cells true [.pt c 0])),some (.blk true (.cells true [.str AAz,.fs [[.str x],[.str u1],[.str u2]],.fs [[I z0],[I a],[I b]]]))]) (by (exact dM hn)) ?_;refine PanX.block ?_;refine PanX.seqR (K:=61) aA rfl [2,3,6,7] (vs:=[.pt n 0,.pt (n+1) 0,.str AAz,.bool false]) (h1:=h++[some (.blk false (.cells true [.pt c 0])),some (.blk true (.cells true [.str AAz,.fs [[.str x],[.str u1],[.str u2]],.fs [[I z0],[I a],[I b]]]))]) (by (exact dM vB)) ?_;refine PanX.condF rfl ?_;refine PanX.seqR (K:=61) aA rfl [2,3,6,35] (vs:=[.pt n 0,.pt (n+1) 0,.str AAz,.bool false]) (h1:=h++[some (.blk false (.cells true [.pt c 0])),some (.blk true (.cells true [.str AAz,.fs [[.str x],[.str u1],[.str u2]],.fs [[I z0],[I a],[I b]]]))]) (by (exact dM xE)) ?_;refine PanX.condF rfl ?_;refine PanX.seqR (K:=61) aA rfl [2,3,6,40] (vs:=[.pt n 0,.pt (n+1) 0,.str AAz,.bool false]) (h1:=h++[some (.blk false (.cells true [.pt c 0])),some (.blk true (.cells true [.str AAz,.fs [[.str x],[.str u1],[.str u2]],.fs [[I z0],[I a],[I b]]]))]) (by (exact dM aAi)) ?_;refine PanX.condF rfl ?_;refine PanX.seqR (K:=61) aA rfl [2,3,6,48] (vs:=[.pt n 0,.pt (n+1) 0,.str AAz,.bool false]) (h1:=h++[some (.blk false (.cells true [.pt c 0])),some (.blk true (.cells true [.str AAz,.fs [[.str x],[.str u1],[.str u2]],.fs [[I z0],[I a],[I b]]]))]) (by (exact dM xG)) ?_;refine PanX.condF rfl ?_;refine PanX.seqR (K:=61) aA rfl [2,3,6,62] (vs:=[.pt n 0,.pt (n+1) 0,.str AAz,.bool false]) (h1:=h++[some (.blk false (.cells true [.pt c 0])),some (.blk true (.cells true [.str AAz,.fs [[.str x],[.str u1],[.str u2]],.fs [[I z0],[I a],[I b]]]))]) (by (exact dM xF)) ?_;refine PanX.condF rfl ?_;refine PanX.seqR (K:=61) aA rfl [2,3,6,74] (vs:=[.pt n 0,.pt (n+1) 0,.str AAz,.bool true]) (h1:=h++[some (.blk false (.cells true [.pt c 0])),some (.blk true (.cells true [.str AAz,.fs [[.str x],[.str u1],[.str u2]],.fs [[I z0],[I a],[I b]]]))]) (by (exact dM aBy)) ?_;refine PanX.condT rfl ?_;refine PanX.seqL ?_;exact PanX.regU (fr:=[]) (p:=[⟨0,(some 76),(.load false 1 (.t 2)),none⟩,⟨1,(some 77),(.fld 1 (.t 3)),none⟩,⟨2,(some 78),(.load false 1 (.t 77)),none⟩,⟨3,(some 79),(.idx 1 (.t 78) (.c (.int .i64 0))),none⟩,⟨4,(some 80),(.load false 1 (.t 79)),none⟩,⟨5,(some 81),(.fld 2 (.t 3)),none⟩,⟨6,(some 82),(.load false 1 (.t 81)),none⟩,⟨7,(some 83),(.idx 1 (.t 82) (.c (.int .i64 1))),none⟩,⟨8,(some 84),(.load false 1 (.t 83)),none⟩,⟨9,(some 85),(.fld 2 (.t 3)),none⟩,⟨10,(some 86),(.load false 1 (.t 85)),none⟩,⟨11,(some 87),(.idx 1 (.t 86) (.c (.int .i64 2))),none⟩,⟨12,(some 88),(.load false 1 (.t 87)),none⟩]) (post:=[⟨14,(some 4),(.mv (.t 89)),none⟩]) aA [] (g:=94) (first:=[]) (cap:=[]) (args:=[.pt c 0,.str x,I a,I b]) (vs:=[]) rfl rfl rfl (by (exact dM hn)) call
theorem aCQ(ly:Lays h L s){z0:Int}{i:Nat}(hx:dY (s.farmers.map (·.1)) x=some i):CalP Tryz.prog aB 61 [.pt L.c 0,.agg [.str AAu,.fs [[.str x]],.fs [[I z0]]]] h (.ifc 110 (.agg [I 6])) (h++[some (.blk false (.cells true [.pt L.c 0])),some (.blk true (.cells true [.str AAu,.fs [[.str x]],.fs [[I z0]]]))]):=by
 obtain⟨n,hn⟩:∃ n,h.length=n:=⟨_,rfl⟩;obtain⟨g,hc⟩:=aC ly.hc;unfold bY at hc;have cn:(L.c<n)=True:=AAp (by rw[←hn];exact aF ly.hc);obtain⟨gw,hwo⟩:=ly.f.ho;obtain⟨gm,hwm⟩:=ly.f.hm;have won:(L.f.o<n)=True:=AAp (by rw[←hn];exact ly.f.lts.1);have wmn:(L.f.m<n)=True:=AAp (by rw[←hn];exact ly.f.lts.2.1);obtain⟨e,v,he,hv,hf,hev⟩:=ly.f.found hx;refine CalP.of (d:=mO) (e':=bH [] []) aA rfl (by simp[mO]) rfl ?_;unfold mO;dsimp only;refine PanX.seqR (K:=61) aA rfl [2,3] (vs:=[.pt n 0,.pt (n+1) 0]) (h1:=h++[some (.blk false (.cells true [.pt L.c 0])),some (.blk true (.cells true [.str AAu,.fs [[.str x]],.fs [[I z0]]]))]) (by rw[hn]; (exact dM hn)) ?_;refine PanX.seqL ?_;refine PanX.seqR (K:=61) aA rfl [2,3,6] (vs:=[.pt n 0,.pt (n+1) 0,.str AAu]) (h1:=h++[some (.blk false (.cells true [.pt L.c 0])),some (.blk true (.cells true [.str AAu,.fs [[.str x]],.fs [[I z0]]]))]) (by (exact dM hn)) ?_;refine PanX.block ?_;refine PanX.seqR (K:=61) aA rfl [2,3,6,7] (vs:=[.pt n 0,.pt (n+1) 0,.str AAu,.bool true]) (h1:=h++[some (.blk false (.cells true [.pt L.c 0])),some (.blk true (.cells true [.str AAu,.fs [[.str x]],.fs [[I z0]]]))]) (by (exact dM kD)) ?_;refine PanX.condT rfl ?_;refine PanX.seqL ?_;exact PanX.regU (fr:=[]) (p:=[⟨0,(some 9),(.load false 1 (.t 2)),none⟩,⟨1,(some 10),(.nilck (.t 9)),none⟩,⟨2,(some 11),(.fld 0 (.t 10)),none⟩,⟨3,(some 12),(.load false 1 (.t 11)),none⟩,⟨4,(some 13),(.nilck (.t 12)),none⟩,⟨5,(some 14),(.fld 1 (.t 13)),none⟩,⟨6,(some 15),(.load false 1 (.t 14)),none⟩,⟨7,(some 16),(.fld 1 (.t 3)),none⟩,⟨8,(some 17),(.load false 1 (.t 16)),none⟩,⟨9,(some 18),(.idx 1 (.t 17) (.c (.int .i64 0))),none⟩,⟨10,(some 19),(.load false 1 (.t 18)),none⟩,⟨11,(some 20),(.lookup true false .nilpt (.t 15) (.t 19)),none⟩,⟨12,(some 21),(.eqn 3 false (.t 20) (.c .nilpt)),none⟩]) (post:=[]) aA [] (g:=58) (first:=[]) (cap:=[]) (args:=[.bool false,I 6]) (vs:=[]) rfl rfl rfl (by (exact uO hn hc cn hwo hwm won wmn hf aE)) (c58 6 _)
theorem aIH(ly:Lays h L s){z0:Int}(hx:dY (s.farmers.map (·.1)) x=none)(hl:s.farmers.length=9):CalP Tryz.prog aB 61 [.pt L.c 0,.agg [.str AAu,.fs [[.str x]],.fs [[I z0]]]] h (.ifc 110 (.agg [I 15])) (h++[some (.blk false (.cells true [.pt L.c 0])),some (.blk true (.cells true [.str AAu,.fs [[.str x]],.fs [[I z0]]]))]):=by
 obtain⟨n,hn⟩:∃ n,h.length=n:=⟨_,rfl⟩;obtain⟨g,hc⟩:=aC ly.hc;unfold bY at hc;have cn:(L.c<n)=True:=AAp (by rw[←hn];exact aF ly.hc);obtain⟨gw,hwo⟩:=ly.f.ho;obtain⟨gm,hwm⟩:=ly.f.hm;have won:(L.f.o<n)=True:=AAp (by rw[←hn];exact ly.f.lts.1);have wmn:(L.f.m<n)=True:=AAp (by rw[←hn];exact ly.f.lts.2.1);have hf:=ly.f.miss hx;have f1:=(ly.f.fr (Fr.app h [some (.blk false (.cells true [.pt L.c 0])),some (.blk true (.cells true [.str AAu,.fs [[.str x]],.fs [[I z0]]]))]) (fun _ _ hb=>by cases hb)).fullf (x:=x) (by decide);rw[hx,AAl rfl,aJ6,AAl (by rw[A7];omega)]at f1;have m1:=uQ 6;refine CalP.of (d:=mO) (e':=bH [] []) aA rfl (by simp[mO]) rfl ?_;unfold mO;dsimp only;refine PanX.seqR (K:=61) aA rfl [2,3] (vs:=[.pt n 0,.pt (n+1) 0]) (h1:=h++[some (.blk false (.cells true [.pt L.c 0])),some (.blk true (.cells true [.str AAu,.fs [[.str x]],.fs [[I z0]]]))]) (by rw[hn]; (exact dM hn)) ?_;refine PanX.seqL ?_;refine PanX.seqR (K:=61) aA rfl [2,3,6] (vs:=[.pt n 0,.pt (n+1) 0,.str AAu]) (h1:=h++[some (.blk false (.cells true [.pt L.c 0])),some (.blk true (.cells true [.str AAu,.fs [[.str x]],.fs [[I z0]]]))]) (by (exact dM hn)) ?_;refine PanX.block ?_;refine PanX.seqR (K:=61) aA rfl [2,3,6,7] (vs:=[.pt n 0,.pt (n+1) 0,.str AAu,.bool true]) (h1:=h++[some (.blk false (.cells true [.pt L.c 0])),some (.blk true (.cells true [.str AAu,.fs [[.str x]],.fs [[I z0]]]))]) (by (exact dM kD)) ?_;refine PanX.condT rfl ?_;refine PanX.seqR (K:=61) aA rfl [2,3] (vs:=[.pt n 0,.pt (n+1) 0]) (h1:=h++[some (.blk false (.cells true [.pt L.c 0])),some (.blk true (.cells true [.str AAu,.fs [[.str x]],.fs [[I z0]]]))]) (by (exact uO hn hc cn hwo hwm won wmn hf m1)) ?_;refine PanX.seqL ?_;exact PanX.regU (fr:=[]) (p:=[⟨0,(some 23),(.load false 1 (.t 2)),none⟩,⟨1,(some 24),(.nilck (.t 23)),none⟩,⟨2,(some 25),(.fld 0 (.t 24)),none⟩,⟨3,(some 26),(.load false 1 (.t 25)),none⟩,⟨4,(some 27),(.fld 1 (.t 3)),none⟩,⟨5,(some 28),(.load false 1 (.t 27)),none⟩,⟨6,(some 29),(.idx 1 (.t 28) (.c (.int .i64 0))),none⟩,⟨7,(some 30),(.load false 1 (.t 29)),none⟩,⟨8,(some 31),(.callf false (.c (.fn (.func 87) [] [])) [(.t 26),(.t 30)] []),none⟩,⟨9,(some 32),(.not (.t 31)),none⟩]) (post:=[]) aA [] (g:=58) (first:=[]) (cap:=[]) (args:=[.bool false,I 15]) (vs:=[]) rfl rfl rfl (by (exact vI hn hc cn f1)) (c58 15 _)
theorem aOL(ly:Lays h L s)(hcl:s.tickets.length≤s.closed):CalP Tryz.prog aB 61 [.pt L.c 0,.agg [.str AAx,.fs [],.fs []]] h (.ifc 110 (.agg [I 4])) (h++[some (.blk false (.cells true [.pt L.c 0])),some (.blk true (.cells true [.str AAx,.fs [],.fs []]))]):=by
 obtain⟨n,hn⟩:∃ n,h.length=n:=⟨_,rfl⟩;obtain⟨g,hc⟩:=aC ly.hc;unfold bY at hc;have cn:(L.c<n)=True:=AAp (by rw[←hn];exact aF ly.hc);refine CalP.of (d:=mO) (e':=bH [] []) aA rfl (by simp[mO]) rfl ?_;unfold mO;dsimp only;refine PanX.seqR (K:=61) aA rfl [2,3] (vs:=[.pt n 0,.pt (n+1) 0]) (h1:=h++[some (.blk false (.cells true [.pt L.c 0])),some (.blk true (.cells true [.str AAx,.fs [],.fs []]))]) (by rw[hn]; (exact dM hn)) ?_;refine PanX.seqL ?_;refine PanX.seqR (K:=61) aA rfl [2,3,6] (vs:=[.pt n 0,.pt (n+1) 0,.str AAx]) (h1:=h++[some (.blk false (.cells true [.pt L.c 0])),some (.blk true (.cells true [.str AAx,.fs [],.fs []]))]) (by (exact dM hn)) ?_;refine PanX.block ?_;refine PanX.seqR (K:=61) aA rfl [2,3,6,7] (vs:=[.pt n 0,.pt (n+1) 0,.str AAx,.bool false]) (h1:=h++[some (.blk false (.cells true [.pt L.c 0])),some (.blk true (.cells true [.str AAx,.fs [],.fs []]))]) (by (exact dM qO)) ?_;refine PanX.condF rfl ?_;refine PanX.seqR (K:=61) aA rfl [2,3,6,35] (vs:=[.pt n 0,.pt (n+1) 0,.str AAx,.bool false]) (h1:=h++[some (.blk false (.cells true [.pt L.c 0])),some (.blk true (.cells true [.str AAx,.fs [],.fs []]))]) (by (exact dM rW)) ?_;refine PanX.condF rfl ?_;refine PanX.seqR (K:=61) aA rfl [2,3,6,40] (vs:=[.pt n 0,.pt (n+1) 0,.str AAx,.bool false]) (h1:=h++[some (.blk false (.cells true [.pt L.c 0])),some (.blk true (.cells true [.str AAx,.fs [],.fs []]))]) (by (exact dM vD)) ?_;refine PanX.condF rfl ?_;refine PanX.seqR (K:=61) aA rfl [2,3,6,48] (vs:=[.pt n 0,.pt (n+1) 0,.str AAx,.bool true]) (h1:=h++[some (.blk false (.cells true [.pt L.c 0])),some (.blk true (.cells true [.str AAx,.fs [],.fs []]))]) (by (exact dM rX)) ?_;refine PanX.condT rfl ?_;refine PanX.seqL ?_;refine PanX.regU (fr:=[]) (p:=[⟨0,(some 50),(.load false 1 (.t 2)),none⟩,⟨1,(some 51),(.nilck (.t 50)),none⟩,⟨2,(some 52),(.fld 5 (.t 51)),none⟩,⟨3,(some 53),(.load false 1 (.t 52)),none⟩,⟨4,(some 54),(.load false 1 (.t 2)),none⟩,⟨5,(some 55),(.nilck (.t 54)),none⟩,⟨6,(some 56),(.fld 4 (.t 55)),none⟩,⟨7,(some 57),(.load false 1 (.t 56)),none⟩,⟨8,(some 58),(.len false (.t 57)),none⟩,⟨9,(some 59),(.bin .lss (.t 53) (.t 58)),none⟩]) (post:=[]) aA [] (g:=58) (first:=[]) (cap:=[]) (args:=[.bool false,I 4]) (vs:=[]) rfl rfl rfl ?_ (c58 4 _);by_cases hk:0<s.tickets.length
 ·rw[eR hk]at hc
  have t1:((s.closed:Int)<(s.tickets.length:Int))=False:=AAb;(exact vI hc hn cn t1)
 ·have h0:s.tickets.length=0:=AM
  have hv:iC L.tb s.tickets.length = .nilsl:=by rw[h0];rfl
  rw[hv]at hc;have t1:((s.closed:Int)<0)=False:=AAb;(exact vI hc hn cn t1)
def Clo(n:Nat):ABlk→Prop
 | .cells _ xs=>∀ b cs,n≤b→yV b cs xs=xs
 | .map _ es=>∀ b cs,n≤b→(es.map fun p=>(wC b cs p.1,wC b cs p.2))=es
 | _=>False
def Frz(n:Nat)(h hh:XH):Prop:=∀ j c,aG h j=some c→Clo n c→aG hh j=some c
theorem Fr.frz(f:Fr [] h h'){n:Nat}:Frz n h h':=fun j c hc _=>f.keepS hc (by simp)
theorem Frz.trans{n:Nat}(a:Frz n h h1)(b:Frz n h1 h'):Frz n h h':=fun j c hc hn=>b j c (a j c hc hn) hn
theorem aRb{b j:Nat}{cs:List AV}{c:ABlk}(hc:aG h j=some c)(hn:Clo b c):aG (h.map (fzO b cs)) j=some c:=by
 obtain⟨g,hg⟩:=aC hc;have h2:hat (h.map (fzO b cs)) j=fzO b cs (hat h j):=by
  unfold hat;rw[A1,A1,A6];cases h[j]?<;>rfl
 unfold aG;rw[h2,hg];cases g with
 | true=>cases c<;>rfl
 | false=>cases c with
   | cells w xs=>show some (ABlk.cells w (yV b cs xs))=_;rw[hn b cs (A8 _)]
   | map w es=>show some (ABlk.map w (es.map fun p=>(wC b cs p.1,wC b cs p.2)))=_;rw[hn b cs (A8 _)]
   | _=>exact hn.elim
theorem Clo.mono{n b:Nat}{c:ABlk}(h:Clo n c)(hb:n≤b):Clo b c:=by
 cases c with
 | cells w xs=>exact fun b' cs hb'=>h b' cs (I2 hb hb')
 | map w es=>exact fun b' cs hb'=>h b' cs (I2 hb hb')
 | _=>exact h
theorem Frz.fz{n b:Nat}{cs:List AV}(hb:n≤b):Frz n h (h.map (fzO b cs)):=fun j c hc hn=>aRb hc (hn.mono hb)
theorem Frz.app{n:Nat}(f:Frz n h h')(k:XH):Frz n h (h'++k):=f.trans (Fr.app h' k).frz
theorem aCY{n:Int}(h : -9223372036854775808≤n∧n≤9223372036854775807):runW aB 57 [I n] []=some (.str ⟨⟨Lib.itoa n⟩⟩,[]):=by
 rw[p57];unfold zG;dsimp only;rw[if_pos h]
theorem rN:aQ .eql AAB AAB=some (.bool true):=by kernel_rfl
theorem xA:aQ .eql AAA AAB=some (.bool false):=by kernel_rfl
theorem aBp:aQ .eql AAA AAA=some (.bool true):=by kernel_rfl
theorem uW:aQ .eql AAD AAB=some (.bool false):=by kernel_rfl
theorem aAg:aQ .eql AAD AAA=some (.bool false):=by kernel_rfl
theorem wY:aQ .eql AAD AAD=some (.bool true):=by kernel_rfl
theorem uZ:aQ .eql AAE AAB=some (.bool false):=by kernel_rfl
theorem aAh:aQ .eql AAE AAA=some (.bool false):=by kernel_rfl
theorem xB:aQ .eql AAE AAD=some (.bool false):=by kernel_rfl
theorem xC:aQ .eql AAE AAE=some (.bool true):=by kernel_rfl
theorem rO:aQ .eql AAF AAB=some (.bool false):=by kernel_rfl
theorem wZ:aQ .eql AAF AAA=some (.bool false):=by kernel_rfl
theorem uX:aQ .eql AAF AAD=some (.bool false):=by kernel_rfl
theorem uY:aQ .eql AAF AAE=some (.bool false):=by kernel_rfl
theorem rP:aQ .eql AAF AAF=some (.bool true):=by kernel_rfl
theorem lP:aQ .eql AAC AAB=some (.bool false):=by kernel_rfl
theorem oA:aQ .eql AAC AAA=some (.bool false):=by kernel_rfl
theorem mR:aQ .eql AAC AAD=some (.bool false):=by kernel_rfl
theorem mT:aQ .eql AAC AAE=some (.bool false):=by kernel_rfl
theorem lQ:aQ .eql AAC AAF=some (.bool false):=by kernel_rfl
theorem kC:aQ .eql AAC AAC=some (.bool true):=by kernel_rfl
theorem aSS(ly:Lays h L s){z0:Int}{i:Nat}{y:Int}(hx:dY (s.farmers.map (·.1)) x=some i)(hy:s.farmers[i]?=some (x,y))(hb : -9223372036854775808≤y∧y≤9223372036854775807):runW aB 62 [.pt L.c 0,.agg [.str AAA,.fs [[.str x]],.fs [[I z0]]]] h=some (.str ⟨⟨Lib.itoa y⟩⟩,h++[some (.blk true (.cells true [.str AAA,.fs [[.str x]],.fs [[I z0]]]))]):=by
 obtain⟨n,hn⟩:∃ n,h.length=n:=⟨_,rfl⟩;obtain⟨g,hc⟩:=aC ly.hc;unfold bY at hc;have cn:(L.c<n)=True:=AAp (by rw[←hn];exact aF ly.hc);obtain⟨e,v,he,hv,hev,call⟩:=(ly.ext [some (.blk true (.cells true [.str AAA,.fs [[.str x]],.fs [[I z0]]]))]).f.getf hx;rw[A6,hy]at hv;cases hv;have hev2:=ly.f.he he (v:=[I y]) (by rw[A6,hy];rfl);obtain⟨ge,hee⟩:=aC hev2;have en:(e<n)=True:=AAp (by rw[←hn];exact aF hev2);have c57:=aCY hb;rw[qY 62 uP rfl,hn];unfold uP;dsimp only;(exact uO hn hc cn call hee en c57 xA aBp)
theorem aPI(ly:Lays h L s){z0:Int}{i:Nat}{y:Int×Int}(hx:dY (s.meters.map (·.1)) x=some i)(hy:s.meters[i]?=some (x,y))(hb : -9223372036854775808≤y.2∧y.2≤9223372036854775807):runW aB 62 [.pt L.c 0,.agg [.str AAD,.fs [[.str x]],.fs [[I z0]]]] h=some (.str ⟨⟨Lib.itoa y.2⟩⟩,h++[some (.blk true (.cells true [.str AAD,.fs [[.str x]],.fs [[I z0]]]))]):=by
 obtain⟨n,hn⟩:∃ n,h.length=n:=⟨_,rfl⟩;obtain⟨g,hc⟩:=aC ly.hc;unfold bY at hc;have cn:(L.c<n)=True:=AAp (by rw[←hn];exact aF ly.hc);obtain⟨e,v,he,hv,hev,call⟩:=(ly.ext [some (.blk true (.cells true [.str AAD,.fs [[.str x]],.fs [[I z0]]]))]).m.getm hx;rw[A6,hy]at hv;cases hv;have hev2:=ly.m.he he (v:=[I y.1,I y.2]) (by rw[A6,hy];rfl);obtain⟨ge,hee⟩:=aC hev2;have en:(e<n)=True:=AAp (by rw[←hn];exact aF hev2);have c57:=aCY hb;rw[qY 62 uP rfl,hn];unfold uP;dsimp only;(exact nN hn hc cn call hee en c57 uW aAg wY)
theorem aPJ(ly:Lays h L s){z0:Int}{i:Nat}{y:Int}(hx:dY (s.pans.map (·.1)) x=some i)(hy:s.pans[i]?=some (x,y))(hb : -9223372036854775808≤y∧y≤9223372036854775807):runW aB 62 [.pt L.c 0,.agg [.str AAE,.fs [[.str x]],.fs [[I z0]]]] h=some (.str ⟨⟨Lib.itoa y⟩⟩,h++[some (.blk true (.cells true [.str AAE,.fs [[.str x]],.fs [[I z0]]]))]):=by
 obtain⟨n,hn⟩:∃ n,h.length=n:=⟨_,rfl⟩;obtain⟨g,hc⟩:=aC ly.hc;unfold bY at hc;have cn:(L.c<n)=True:=AAp (by rw[←hn];exact aF ly.hc);obtain⟨e,v,he,hv,hev,call⟩:=(ly.ext [some (.blk true (.cells true [.str AAE,.fs [[.str x]],.fs [[I z0]]]))]).p.getp hx;rw[A6,hy]at hv;cases hv;have hev2:=ly.p.he he (v:=[I y]) (by rw[A6,hy];rfl);obtain⟨ge,hee⟩:=aC hev2;have en:(e<n)=True:=AAp (by rw[←hn];exact aF hev2);have c57:=aCY hb;rw[qY 62 uP rfl,hn];unfold uP;dsimp only;(exact nJ hn hc cn call hee en c57 uZ aAh xB xC aE aE)
theorem aLN{c:Nat}{z0 k:Int}{hh:XH}(call:runW aB 98 [.pt c 0,.str x] (h++[some (.blk true (.cells true [.str AAF,.fs [[.str x]],.fs [[I z0]]]))])=some (I k,hh))(hb : -9223372036854775808≤k∧k≤9223372036854775807):runW aB 62 [.pt c 0,.agg [.str AAF,.fs [[.str x]],.fs [[I z0]]]] h=some (.str ⟨⟨Lib.itoa k⟩⟩,hh):=by
 obtain⟨n,hn⟩:∃ n,h.length=n:=⟨_,rfl⟩;have c57:=aCY hb;rw[qY 62 uP rfl,hn];unfold uP;dsimp only;(exact uO hn call c57 rO wZ uX uY rP aE)
theorem aKo(ly:Lays h L s){u1:ByteArray}{i:Nat}{k:CTk}(hk:s.tickets[i]?=some k)(hb:0≤k.net∧k.net≤99999){o:ByteArray}(hj:runW aB 99 [.fs (if k.void then [[.str k.wagon],[.str k.farmer],[.str ⟨⟨Lib.itoa k.net⟩⟩],[.str AAw]] else [[.str k.wagon],[.str k.farmer],[.str ⟨⟨Lib.itoa k.net⟩⟩]]),.str ⟨⟨[32]⟩⟩] []=some (.str o,[])):∃ hh,runW aB 62 [.pt L.c 0,.agg [.str AAC,.fs [[.str u1]],.fs [[I (i:Nat)]]]] h=some (.str o,hh)∧Frz h.length h hh:=by
 obtain⟨n,hn⟩:∃ n,h.length=n:=⟨_,rfl⟩;obtain⟨e,he,hke,hb2,hi⟩:=ly.tk.at hk;have hl:i<s.tickets.length:=by rw[←ly.tk.el];exact hi
 obtain⟨g,hc⟩:=aC ly.hc;unfold bY at hc;rw[eR AM]at hc;obtain⟨g1,hb1⟩:=aC hb2;obtain⟨g2,hk2⟩:=aC hke;unfold tkC at hk2;have cn:(L.c<n)=True:=AAp (by rw[←hn];exact aF ly.hc);have bn:(L.tb<n)=True:=AAp (by rw[←hn];exact aF hb2);have en:(e<n)=True:=AAp (by rw[←hn];exact aF hke);have t1:((i:Int)<(s.tickets.length:Int))=True:=AAa;have mp:(some e).map (fun e=>AV.pt e 0)=some (.pt e 0):=rfl;have m1:=uQ 5;have c57:=aCY (n:=k.net) AM;have so:∀ a:ByteArray,cT (.str a) (.str a)=true:=by intro a;simp[cT]
 cases hv:k.void with
 | false =>
   rw[hv]at hk2 hj;simp only[C6,AAd]at hj;refine⟨h.map (fzO (n+1) [.str k.wagon,.str k.farmer,.str ⟨⟨Lib.itoa k.net⟩⟩])++[some (.blk true (.cells true [.str AAC,.fs [[.str u1]],.fs [[I (i:Nat)]]])),none],?_,(Frz.fz AM).app _⟩;rw[qY 62 uP rfl,hn];unfold uP;dsimp only;(exact kO hn hc cn bn en hb1 hk2 t1 m1 he mp c57 hj so lP oA mR mT lQ kC)
 | true =>
   rw[hv]at hk2 hj;simp only[AAe]at hj;refine⟨h.map (fzO (n+3) [.str k.wagon,.str k.farmer,.str ⟨⟨Lib.itoa k.net⟩⟩,.str AAw])++[some (.blk true (.cells true [.str AAC,.fs [[.str u1]],.fs [[I (i:Nat)]]])),none,some (.blk true (.cells true [.str AAw])),none],?_,(Frz.fz AM).app _⟩;rw[qY 62 uP rfl,hn];unfold uP;dsimp only;(exact kO hn hc cn bn en hb1 hk2 t1 m1 he mp c57 hj so lP oA mR mT lQ kC)
theorem aCu{b:Nat}{cs:List AV}:∀(l:List ByteArray),yV b cs (l.map .str)=l.map .str
 | []=>rfl
 | k::r=>by simp only[D7,yV,wC,aCu r]
theorem aJJ{b:Nat}{cs:List AV}:∀(l:List Nat),yV b cs (l.map fun e=>.pt e 0)=l.map fun e=>.pt e 0
 | []=>rfl
 | k::r=>by simp only[D7,yV,wC,aJJ r]
theorem aIn{b k n:Nat}{cs:List AV}(hk:0<n→k<b):wC b cs (iC k n)=iC k n:=by
 unfold iC;by_cases h:n=0;·rw[if_pos h];rfl
 ·rw[if_neg h]
  show (if k=b∧_ then _ else _)=_;rw[if_neg (by have:=hk AM;omega)]
theorem aOg{b:Nat}{cs:List AV}:∀(ks:List ByteArray)(es:List Nat),(ent ks es).map (fun p=>(wC b cs p.1,wC b cs p.2))=ent ks es
 | [],_=>rfl
 | _::_,[]=>rfl
 | k::ks,e::es=>AAt (_ :: ·) (aOg ks es)
theorem Od.frz{l:OL}{ks:List ByteArray}{vs:List (List AV)}{t:Int}(od:Od h l ks vs t)(f:Frz h.length h h')(hv:∀ v∈vs,∀ b cs,yV b cs v=v):Od h' l ks vs t:=by
 refine⟨⟨fun p hp=>f p.1 p.2 (od.hd.1 p hp) ?_,od.hd.2⟩,od.ek,od.vk⟩;unfold vS at hp;rw[B3,B3,A9]at hp;rcases hp with rfl|rfl|hp|hp
 ·intro b cs hb
  have:=od.lts.2.2.1;simp only[yV,aIn (fun hk=>G4 (this hk) hb)];rfl
 ·exact fun b cs _=>aOg _ _
 ·unfold sBk at hp
  split at hp;·cases hp
  ·rw[B2]at hp
   subst hp;exact fun b cs _=>aCu _
 ·obtain⟨i,e,v,_,h2,rfl⟩:=aIw hp
  exact fun b cs _=>hv v (A5 h2) b cs
theorem Lays.frz(ly:Lays h L s)(f:Frz h.length h h'):Lays h' L s where
 hc:=f _ _ ly.hc fun b cs hb=>by
  unfold bY;simp only[yV,aIn (fun hk=>G4 (ly.tk.lts.1 hk) hb),aIn (fun hk=>G4 (aF (ly.bk hk)) hb)];rfl
 tk:=⟨ly.tk.el,fun hk=>f _ _ (ly.tk.hb hk) fun b cs _=>aJJ _,fun i e k he hk=>f _ _ (ly.tk.he i e k he hk) fun b cs _=>rfl,ly.tk.nd,ly.tk.nb⟩
 bk hk:=f _ _ (ly.bk hk) fun b cs _=>aCu _
 f:=ly.f.frz f fun v hv b cs=>by obtain⟨p,_,rfl⟩:=D6.1 hv;rfl
 m:=ly.m.frz f fun v hv b cs=>by obtain⟨p,_,rfl⟩:=D6.1 hv;rfl
 p:=ly.p.frz f fun v hv b cs=>by obtain⟨p,_,rfl⟩:=D6.1 hv;rfl
 w:=ly.w.frz f fun v hv b cs=>by obtain⟨p,_,rfl⟩:=D6.1 hv;rfl
 dj:=ly.dj
theorem aUB(ly:Lays h L s){z0:Int}(hx:dY (s.farmers.map (·.1)) x=none):CalP Tryz.prog aB 62 [.pt L.c 0,.agg [.str AAA,.fs [[.str x]],.fs [[I z0]]]] h (.ifc 110 (.agg [I 5])) (h++[some (.blk true (.cells true [.str AAA,.fs [[.str x]],.fs [[I z0]]]))]):=by
 obtain⟨n,hn⟩:∃ n,h.length=n:=⟨_,rfl⟩;obtain⟨g,hc⟩:=aC ly.hc;unfold bY at hc;have cn:(L.c<n)=True:=AAp (by rw[←hn];exact aF ly.hc);have call:=(ly.ext [some (.blk true (.cells true [.str AAA,.fs [[.str x]],.fs [[I z0]]]))]).f.nonef hx;refine CalP.of (d:=uP) (e':=bH [] []) aA rfl (by simp[uP]) rfl ?_;unfold uP;dsimp only;refine PanX.seqR (K:=62) aA rfl [0,3] (vs:=[.pt L.c 0,.pt n 0]) (h1:=h++[some (.blk true (.cells true [.str AAA,.fs [[.str x]],.fs [[I z0]]]))]) (by rw[hn]; (exact dM hn)) ?_;refine PanX.seqR (K:=62) aA rfl [0,3] (vs:=[.pt L.c 0,.pt n 0]) (h1:=h++[some (.blk true (.cells true [.str AAA,.fs [[.str x]],.fs [[I z0]]]))]) (by (exact dM hn)) ?_;refine PanX.seqL ?_;refine PanX.seqR (K:=62) aA rfl [0,3,11] (vs:=[.pt L.c 0,.pt n 0,.str AAA]) (h1:=h++[some (.blk true (.cells true [.str AAA,.fs [[.str x]],.fs [[I z0]]]))]) (by (exact dM hn)) ?_;refine PanX.block ?_;refine PanX.seqR (K:=62) aA rfl [0,3,11,12] (vs:=[.pt L.c 0,.pt n 0,.str AAA,.bool false]) (h1:=h++[some (.blk true (.cells true [.str AAA,.fs [[.str x]],.fs [[I z0]]]))]) (by (exact dM xA)) ?_;refine PanX.condF rfl ?_;refine PanX.seqR (K:=62) aA rfl [0,3,11,38] (vs:=[.pt L.c 0,.pt n 0,.str AAA,.bool true]) (h1:=h++[some (.blk true (.cells true [.str AAA,.fs [[.str x]],.fs [[I z0]]]))]) (by (exact dM aBp)) ?_;refine PanX.condT rfl ?_;exact PanX.regU (fr:=[]) (p:=[⟨0,(some 40),(.mv (.t 0)),none⟩,⟨1,(some 41),(.nilck (.t 40)),none⟩,⟨2,(some 42),(.fld 0 (.t 41)),none⟩,⟨3,(some 43),(.load false 1 (.t 42)),none⟩,⟨4,(some 44),(.fld 1 (.t 3)),none⟩,⟨5,(some 45),(.load false 1 (.t 44)),none⟩,⟨6,(some 46),(.idx 1 (.t 45) (.c (.int .i64 0))),none⟩,⟨7,(some 47),(.load false 1 (.t 46)),none⟩]) (post:=[⟨9,(some 49),(.nilck (.t 48)),none⟩,⟨10,(some 50),(.fld 0 (.t 49)),none⟩,⟨11,(some 51),(.load false 1 (.t 50)),none⟩,⟨12,(some 5),(.mv (.t 51)),none⟩]) aA [] (g:=95) (first:=[]) (cap:=[]) (args:=[.pt L.f.o 0,.str x]) (vs:=[]) rfl rfl rfl (by (exact RS3 hn hc cn)) call
theorem aRy(ly:Lays h L s){z0:Int}(hx:dY (s.meters.map (·.1)) x=none):CalP Tryz.prog aB 62 [.pt L.c 0,.agg [.str AAD,.fs [[.str x]],.fs [[I z0]]]] h (.ifc 110 (.agg [I 5])) (h++[some (.blk true (.cells true [.str AAD,.fs [[.str x]],.fs [[I z0]]]))]):=by
 obtain⟨n,hn⟩:∃ n,h.length=n:=⟨_,rfl⟩;obtain⟨g,hc⟩:=aC ly.hc;unfold bY at hc;have cn:(L.c<n)=True:=AAp (by rw[←hn];exact aF ly.hc);have call:=(ly.ext [some (.blk true (.cells true [.str AAD,.fs [[.str x]],.fs [[I z0]]]))]).m.nonem hx;refine CalP.of (d:=uP) (e':=bH [] []) aA rfl (by simp[uP]) rfl ?_;unfold uP;dsimp only;refine PanX.seqR (K:=62) aA rfl [0,3] (vs:=[.pt L.c 0,.pt n 0]) (h1:=h++[some (.blk true (.cells true [.str AAD,.fs [[.str x]],.fs [[I z0]]]))]) (by rw[hn]; (exact dM hn)) ?_;refine PanX.seqR (K:=62) aA rfl [0,3] (vs:=[.pt L.c 0,.pt n 0]) (h1:=h++[some (.blk true (.cells true [.str AAD,.fs [[.str x]],.fs [[I z0]]]))]) (by (exact dM hn)) ?_;refine PanX.seqL ?_;refine PanX.seqR (K:=62) aA rfl [0,3,11] (vs:=[.pt L.c 0,.pt n 0,.str AAD]) (h1:=h++[some (.blk true (.cells true [.str AAD,.fs [[.str x]],.fs [[I z0]]]))]) (by (exact dM hn)) ?_;refine PanX.block ?_;refine PanX.seqR (K:=62) aA rfl [0,3,11,12] (vs:=[.pt L.c 0,.pt n 0,.str AAD,.bool false]) (h1:=h++[some (.blk true (.cells true [.str AAD,.fs [[.str x]],.fs [[I z0]]]))]) (by (exact dM uW)) ?_;refine PanX.condF rfl ?_;refine PanX.seqR (K:=62) aA rfl [0,3,11,38] (vs:=[.pt L.c 0,.pt n 0,.str AAD,.bool false]) (h1:=h++[some (.blk true (.cells true [.str AAD,.fs [[.str x]],.fs [[I z0]]]))]) (by (exact dM aAg)) ?_;refine PanX.condF rfl ?_;refine PanX.seqR (K:=62) aA rfl [0,3,11,52] (vs:=[.pt L.c 0,.pt n 0,.str AAD,.bool true]) (h1:=h++[some (.blk true (.cells true [.str AAD,.fs [[.str x]],.fs [[I z0]]]))]) (by (exact dM wY)) ?_;refine PanX.condT rfl ?_;exact PanX.regU (fr:=[]) (p:=[⟨0,(some 54),(.mv (.t 0)),none⟩,⟨1,(some 55),(.nilck (.t 54)),none⟩,⟨2,(some 56),(.fld 1 (.t 55)),none⟩,⟨3,(some 57),(.load false 1 (.t 56)),none⟩,⟨4,(some 58),(.fld 1 (.t 3)),none⟩,⟨5,(some 59),(.load false 1 (.t 58)),none⟩,⟨6,(some 60),(.idx 1 (.t 59) (.c (.int .i64 0))),none⟩,⟨7,(some 61),(.load false 1 (.t 60)),none⟩]) (post:=[⟨9,(some 63),(.nilck (.t 62)),none⟩,⟨10,(some 64),(.fld 1 (.t 63)),none⟩,⟨11,(some 65),(.load false 1 (.t 64)),none⟩,⟨12,(some 5),(.mv (.t 65)),none⟩]) aA [] (g:=96) (first:=[]) (cap:=[]) (args:=[.pt L.m.o 0,.str x]) (vs:=[]) rfl rfl rfl (by (exact RS3 hn hc cn)) call
theorem aRz(ly:Lays h L s){z0:Int}(hx:dY (s.pans.map (·.1)) x=none):CalP Tryz.prog aB 62 [.pt L.c 0,.agg [.str AAE,.fs [[.str x]],.fs [[I z0]]]] h (.ifc 110 (.agg [I 5])) (h++[some (.blk true (.cells true [.str AAE,.fs [[.str x]],.fs [[I z0]]]))]):=by
 obtain⟨n,hn⟩:∃ n,h.length=n:=⟨_,rfl⟩;obtain⟨g,hc⟩:=aC ly.hc;unfold bY at hc;have cn:(L.c<n)=True:=AAp (by rw[←hn];exact aF ly.hc);have call:=(ly.ext [some (.blk true (.cells true [.str AAE,.fs [[.str x]],.fs [[I z0]]]))]).p.nonep hx;refine CalP.of (d:=uP) (e':=bH [] []) aA rfl (by simp[uP]) rfl ?_;unfold uP;dsimp only;refine PanX.seqR (K:=62) aA rfl [0,3] (vs:=[.pt L.c 0,.pt n 0]) (h1:=h++[some (.blk true (.cells true [.str AAE,.fs [[.str x]],.fs [[I z0]]]))]) (by rw[hn]; (exact dM hn)) ?_;refine PanX.seqR (K:=62) aA rfl [0,3] (vs:=[.pt L.c 0,.pt n 0]) (h1:=h++[some (.blk true (.cells true [.str AAE,.fs [[.str x]],.fs [[I z0]]]))]) (by (exact dM hn)) ?_;refine PanX.seqL ?_;refine PanX.seqR (K:=62) aA rfl [0,3,11] (vs:=[.pt L.c 0,.pt n 0,.str AAE]) (h1:=h++[some (.blk true (.cells true [.str AAE,.fs [[.str x]],.fs [[I z0]]]))]) (by (exact dM hn)) ?_;refine PanX.block ?_;refine PanX.seqR (K:=62) aA rfl [0,3,11,12] (vs:=[.pt L.c 0,.pt n 0,.str AAE,.bool false]) (h1:=h++[some (.blk true (.cells true [.str AAE,.fs [[.str x]],.fs [[I z0]]]))]) (by (exact dM uZ)) ?_;refine PanX.condF rfl ?_;refine PanX.seqR (K:=62) aA rfl [0,3,11,38] (vs:=[.pt L.c 0,.pt n 0,.str AAE,.bool false]) (h1:=h++[some (.blk true (.cells true [.str AAE,.fs [[.str x]],.fs [[I z0]]]))]) (by (exact dM aAh)) ?_;refine PanX.condF rfl ?_;refine PanX.seqR (K:=62) aA rfl [0,3,11,52] (vs:=[.pt L.c 0,.pt n 0,.str AAE,.bool false]) (h1:=h++[some (.blk true (.cells true [.str AAE,.fs [[.str x]],.fs [[I z0]]]))]) (by (exact dM xB)) ?_;refine PanX.condF rfl ?_;refine PanX.seqR (K:=62) aA rfl [0,3,11,66] (vs:=[.pt L.c 0,.pt n 0,.str AAE,.bool true]) (h1:=h++[some (.blk true (.cells true [.str AAE,.fs [[.str x]],.fs [[I z0]]]))]) (by (exact dM xC)) ?_;refine PanX.condT rfl ?_;exact PanX.regU (fr:=[]) (p:=[⟨0,(some 68),(.mv (.t 0)),none⟩,⟨1,(some 69),(.nilck (.t 68)),none⟩,⟨2,(some 70),(.fld 2 (.t 69)),none⟩,⟨3,(some 71),(.load false 1 (.t 70)),none⟩,⟨4,(some 72),(.fld 1 (.t 3)),none⟩,⟨5,(some 73),(.load false 1 (.t 72)),none⟩,⟨6,(some 74),(.idx 1 (.t 73) (.c (.int .i64 0))),none⟩,⟨7,(some 75),(.load false 1 (.t 74)),none⟩]) (post:=[⟨9,(some 77),(.nilck (.t 76)),none⟩,⟨10,(some 78),(.fld 0 (.t 77)),none⟩,⟨11,(some 79),(.load false 1 (.t 78)),none⟩,⟨12,(some 5),(.mv (.t 79)),none⟩]) aA [] (g:=97) (first:=[]) (cap:=[]) (args:=[.pt L.p.o 0,.str x]) (vs:=[]) rfl rfl rfl (by (exact RS3 hn hc cn)) call
theorem aLp(ly:Lays h L s){u1:ByteArray}{i:Nat}(hi:s.tickets.length≤i):CalP Tryz.prog aB 62 [.pt L.c 0,.agg [.str AAC,.fs [[.str u1]],.fs [[I (i:Nat)]]]] h (.ifc 110 (.agg [I 5])) (h++[some (.blk true (.cells true [.str AAC,.fs [[.str u1]],.fs [[I (i:Nat)]]]))]):=by
 obtain⟨n,hn⟩:∃ n,h.length=n:=⟨_,rfl⟩;obtain⟨g,hc⟩:=aC ly.hc;unfold bY at hc;have cn:(L.c<n)=True:=AAp (by rw[←hn];exact aF ly.hc);refine CalP.of (d:=uP) (e':=bH [] []) aA rfl (by simp[uP]) rfl ?_;unfold uP;dsimp only;refine PanX.seqR (K:=62) aA rfl [0,3] (vs:=[.pt L.c 0,.pt n 0]) (h1:=h++[some (.blk true (.cells true [.str AAC,.fs [[.str u1]],.fs [[I (i:Nat)]]]))]) (by rw[hn]; (exact dM hn)) ?_;refine PanX.seqR (K:=62) aA rfl [0,3] (vs:=[.pt L.c 0,.pt n 0]) (h1:=h++[some (.blk true (.cells true [.str AAC,.fs [[.str u1]],.fs [[I (i:Nat)]]]))]) (by (exact dM hn)) ?_;refine PanX.seqL ?_;refine PanX.seqR (K:=62) aA rfl [0,3,11] (vs:=[.pt L.c 0,.pt n 0,.str AAC]) (h1:=h++[some (.blk true (.cells true [.str AAC,.fs [[.str u1]],.fs [[I (i:Nat)]]]))]) (by (exact dM hn)) ?_;refine PanX.block ?_;refine PanX.seqR (K:=62) aA rfl [0,3,11,12] (vs:=[.pt L.c 0,.pt n 0,.str AAC,.bool false]) (h1:=h++[some (.blk true (.cells true [.str AAC,.fs [[.str u1]],.fs [[I (i:Nat)]]]))]) (by (exact dM lP)) ?_;refine PanX.condF rfl ?_;refine PanX.seqR (K:=62) aA rfl [0,3,11,38] (vs:=[.pt L.c 0,.pt n 0,.str AAC,.bool false]) (h1:=h++[some (.blk true (.cells true [.str AAC,.fs [[.str u1]],.fs [[I (i:Nat)]]]))]) (by (exact dM oA)) ?_;refine PanX.condF rfl ?_;refine PanX.seqR (K:=62) aA rfl [0,3,11,52] (vs:=[.pt L.c 0,.pt n 0,.str AAC,.bool false]) (h1:=h++[some (.blk true (.cells true [.str AAC,.fs [[.str u1]],.fs [[I (i:Nat)]]]))]) (by (exact dM mR)) ?_;refine PanX.condF rfl ?_;refine PanX.seqR (K:=62) aA rfl [0,3,11,66] (vs:=[.pt L.c 0,.pt n 0,.str AAC,.bool false]) (h1:=h++[some (.blk true (.cells true [.str AAC,.fs [[.str u1]],.fs [[I (i:Nat)]]]))]) (by (exact dM mT)) ?_;refine PanX.condF rfl ?_;refine PanX.seqR (K:=62) aA rfl [0,3,11,80] (vs:=[.pt L.c 0,.pt n 0,.str AAC,.bool false]) (h1:=h++[some (.blk true (.cells true [.str AAC,.fs [[.str u1]],.fs [[I (i:Nat)]]]))]) (by (exact dM lQ)) ?_;refine PanX.condF rfl ?_;refine PanX.seqR (K:=62) aA rfl [0,3,11,88] (vs:=[.pt L.c 0,.pt n 0,.str AAC,.bool true]) (h1:=h++[some (.blk true (.cells true [.str AAC,.fs [[.str u1]],.fs [[I (i:Nat)]]]))]) (by (exact dM kC)) ?_;refine PanX.condT rfl ?_;refine PanX.seqL ?_;refine PanX.regU (fr:=[]) (p:=[⟨0,(some 90),(.fld 2 (.t 3)),none⟩,⟨1,(some 91),(.load false 1 (.t 90)),none⟩,⟨2,(some 92),(.idx 1 (.t 91) (.c (.int .i64 0))),none⟩,⟨3,(some 93),(.load false 1 (.t 92)),none⟩,⟨4,(some 94),(.mv (.t 0)),none⟩,⟨5,(some 95),(.nilck (.t 94)),none⟩,⟨6,(some 96),(.fld 4 (.t 95)),none⟩,⟨7,(some 97),(.load false 1 (.t 96)),none⟩,⟨8,(some 98),(.len false (.t 97)),none⟩,⟨9,(some 99),(.bin .lss (.t 93) (.t 98)),none⟩]) (post:=[]) aA [] (g:=58) (first:=[]) (cap:=[]) (args:=[.bool false,I 5]) (vs:=[]) rfl rfl rfl ?_ (c58 5 _);by_cases hk:0<s.tickets.length
 ·rw[eR hk]at hc
  have t1:((i:Int)<(s.tickets.length:Int))=False:=AAb;(exact vI hc hn cn t1)
 ·have h0:s.tickets.length=0:=AM
  have hv:iC L.tb s.tickets.length = .nilsl:=by rw[h0];rfl
  rw[hv]at hc;have t1:((i:Int)<0)=False:=AAb;(exact vI hc hn cn t1)
theorem aOI{c:Nat}{z0:Int}{v:AV}{h2:XH}(call:CalP Tryz.prog aB 98 [.pt c 0,.str x] (h++[some (.blk true (.cells true [.str AAF,.fs [[.str x]],.fs [[I z0]]]))]) v h2):CalP Tryz.prog aB 62 [.pt c 0,.agg [.str AAF,.fs [[.str x]],.fs [[I z0]]]] h v h2:=by
 obtain⟨n,hn⟩:∃ n,h.length=n:=⟨_,rfl⟩;refine CalP.of (d:=uP) (e':=bH [] []) aA rfl (by simp[uP]) rfl ?_;unfold uP;dsimp only;refine PanX.seqR (K:=62) aA rfl [0,3] (vs:=[.pt c 0,.pt n 0]) (h1:=h++[some (.blk true (.cells true [.str AAF,.fs [[.str x]],.fs [[I z0]]]))]) (by rw[hn]; (exact dM hn)) ?_;refine PanX.seqR (K:=62) aA rfl [0,3] (vs:=[.pt c 0,.pt n 0]) (h1:=h++[some (.blk true (.cells true [.str AAF,.fs [[.str x]],.fs [[I z0]]]))]) (by (exact dM hn)) ?_;refine PanX.seqL ?_;refine PanX.seqR (K:=62) aA rfl [0,3,11] (vs:=[.pt c 0,.pt n 0,.str AAF]) (h1:=h++[some (.blk true (.cells true [.str AAF,.fs [[.str x]],.fs [[I z0]]]))]) (by (exact dM hn)) ?_;refine PanX.block ?_;refine PanX.seqR (K:=62) aA rfl [0,3,11,12] (vs:=[.pt c 0,.pt n 0,.str AAF,.bool false]) (h1:=h++[some (.blk true (.cells true [.str AAF,.fs [[.str x]],.fs [[I z0]]]))]) (by (exact dM rO)) ?_;refine PanX.condF rfl ?_;refine PanX.seqR (K:=62) aA rfl [0,3,11,38] (vs:=[.pt c 0,.pt n 0,.str AAF,.bool false]) (h1:=h++[some (.blk true (.cells true [.str AAF,.fs [[.str x]],.fs [[I z0]]]))]) (by (exact dM wZ)) ?_;refine PanX.condF rfl ?_;refine PanX.seqR (K:=62) aA rfl [0,3,11,52] (vs:=[.pt c 0,.pt n 0,.str AAF,.bool false]) (h1:=h++[some (.blk true (.cells true [.str AAF,.fs [[.str x]],.fs [[I z0]]]))]) (by (exact dM uX)) ?_;refine PanX.condF rfl ?_;refine PanX.seqR (K:=62) aA rfl [0,3,11,66] (vs:=[.pt c 0,.pt n 0,.str AAF,.bool false]) (h1:=h++[some (.blk true (.cells true [.str AAF,.fs [[.str x]],.fs [[I z0]]]))]) (by (exact dM uY)) ?_;refine PanX.condF rfl ?_;refine PanX.seqR (K:=62) aA rfl [0,3,11,80] (vs:=[.pt c 0,.pt n 0,.str AAF,.bool true]) (h1:=h++[some (.blk true (.cells true [.str AAF,.fs [[.str x]],.fs [[I z0]]]))]) (by (exact dM rP)) ?_;refine PanX.condT rfl ?_;exact PanX.reg (p:=[⟨0,(some 82),(.mv (.t 0)),none⟩,⟨0,(some 83),(.fld 1 (.t 3)),none⟩,⟨0,(some 84),(.load false 1 (.t 83)),none⟩,⟨0,(some 85),(.idx 1 (.t 84) (.c (.int .i64 0))),none⟩,⟨0,(some 86),(.load false 1 (.t 85)),none⟩]) (post:=[⟨0,(some 5),(.mv (.t 87)),none⟩]) aA [] (g:=98) (first:=[]) (cap:=[]) (args:=[.pt c 0,.str x]) (vs:=[]) rfl rfl (by (exact dM hn)) call
end
end Go.Proofs.YtmapgnepfgnphaaGreatDoor
namespace Go.DL
mutual
theorem aAL(s:Nat→Option Nat):∀ v:AV,(∀ b∈iZ v,s b=some b)→rnA s v=v
 | .agg cs,h=>by simp only[iZ]at h;simp only[rnA,iO s cs h]
 | .tup cs,h=>by simp only[iZ]at h;simp only[rnA,iO s cs h]
 | .sl b o z n,h=>by simp only[rnA,h b (by simp[iZ])]
 | .pt b o,h=>by simp only[rnA,h b (by simp[iZ])]
 | .mp b,h=>by simp only[rnA,h b (by simp[iZ])]
 | .sb b n,h=>by simp only[rnA,h b (by simp[iZ])]
 | .bp b,h=>by simp only[rnA,h b (by simp[iZ])]
 | .fn f first cap,h=>by
   simp only[iZ,A9]at h;cases f with
   | yield l=>simp only[rnA,h l (.inl (by simp)),iO s first fun b hb=>h b (.inr (.inl hb)),iO s cap fun b hb=>h b (.inr (.inr hb))]
   | _=>simp only[rnA,iO s first fun b hb=>h b (.inr (.inl hb)),iO s cap fun b hb=>h b (.inr (.inr hb))]
 | .ifc t v,h=>by simp only[iZ]at h;simp only[rnA,aAL s v h]
 | .int ..,_=>by simp only[rnA]
 | .bool _,_=>by simp only[rnA]
 | .str _,_=>by simp only[rnA]
 | .fs _,_=>by simp only[rnA]
 | .fp ..,_=>by simp only[rnA]
 | .nilsl,_=>by simp only[rnA]
 | .nilpt,_=>by simp only[rnA]
 | .nilmap,_=>by simp only[rnA]
 | .nilfn,_=>by simp only[rnA]
 | .nilifc,_=>by simp only[rnA]
 | .any,_=>by simp only[rnA]
theorem iO(s:Nat→Option Nat):∀ vs:List AV,(∀ b∈lF vs,s b=some b)→lR s vs=vs
 | [],_=>by simp only[lR]
 | v::r,h=>by
   simp only[lF,A9]at h;simp only[lR,aAL s v fun b hb=>h b (.inl hb),iO s r fun b hb=>h b (.inr hb)]
end
theorem aEX(s:Nat→Option Nat)(x:Option XB)(h:∀ b∈nmO x,s b=some b):rnO s x=x:=by
 cases x with
 | none=>rfl
 | some x =>
   cases x with
   | blk g y=>cases g with
     | true=>cases y<;>rfl
     | false=>cases y with
       | cells w cs =>
         show some (XB.blk false (.cells w (lR s cs)))=_;rw[iO s cs h]
       | map w es =>
         show some (XB.blk false (.map w (es.map fun p=>(rnA s p.1,rnA s p.2))))=_;have:(es.map fun p=>(rnA s p.1,rnA s p.2))=es:=by
          have h2:∀ p∈es,(rnA s p.1,rnA s p.2)=p:=fun p hp=>by
           have h3:∀ b,b∈iZ p.1++iZ p.2→s b=some b:=fun b hb=>h b (P0.2 ⟨p,hp,hb⟩);rw[aAL s p.1 fun b hb=>h3 b (H8 _ hb),aAL s p.2 fun b hb=>h3 b (F7 _ hb)]
          rw[N5 h2];simp
         rw[this]
       | _=>rfl
   | loop K site vs st =>
     show some (XB.loop K site (lR s vs) st)=_;rw[iO s vs h]
   | gh st p=>rfl
def Cd(h:XH):Prop:=∀ x∈h,∀ b∈nmO x,b<h.length
theorem kZ{h k:XH}:cP h.length (h++k)=h:=by
 induction h with
 | nil=>rfl
 | cons x r ih=>show x::cP r.length (r++k)=_;rw[ih]
theorem aBO{h:XH}{k:Nat}:∀(n:Nat)(l acc:List Nat),(∀ b∈l,b<k)→cY h k n l acc=acc
 | 0,_,_,_=>rfl
 | n+1,[],_,_=>rfl
 | n+1,b::r,acc,h1=>by
   unfold cY;rw[if_pos (.inl (h1 b (by simp)))];exact aBO n r acc fun c hc=>h1 c (by simp[hc])
theorem aFo{h:XH}(cd:Cd h){acc:List Nat}:h.map (rnO (keepS h.length acc))=h:=by
 have:∀ x∈h,rnO (keepS h.length acc) x=x:=fun x hx=>aEX _ x fun b hb=>by
  unfold keepS;rw[if_pos (cd x hx b hb)]
 rw[N5 this];simp
theorem aNW{h k:XH}{n:Nat}(hn:h.length=n)(cd:Cd h){L:List Nat}{e:aH}(hv:∀ b∈lF (L.map e),b<n):dL n L (some (.normal,e,h++k))=some (L.map e,h):=by
 subst hn;have h1:dC h.length (L.map e) (h++k)=[]:=by
  unfold dC;rw[kZ];refine aBO _ _ _ fun b hb=>?_;rw[A9]at hb;rcases hb with hb|hb;·exact hv b hb
  ·obtain⟨x,hx,hb⟩:=P0.1 hb
   exact cd x hx b hb
 rw[SL];unfold wI nG lY;rw[h1,kZ,aFo cd];rw[iO _ _ fun b hb=>by unfold keepS;rw[if_pos (hv b hb)]];simp
end Go.DL
namespace Go.Proofs.YtmapgnepfgnphaaGreatDoor
open Go Go.DL
variable{h h' h1:XH}{L:CL}{s:dR}{x:ByteArray}
theorem aCm{h k:XH}{n:Nat}(hn:h.length=n)(cd:Cd h){L:List Nat}{r:Option (DX×aH×XH)}{vs:List AV}(hx:qD L r=some (.normal,vs,h++k))(hv:∀ b∈lF vs,b<n):dL n L r=some (vs,h):=by
 unfold qD at hx;rw[A0]at hx;obtain⟨⟨x,e,h2⟩,rfl,he⟩:=hx;simp only[B4]at he;obtain⟨rfl,rfl,rfl⟩:=he;exact aNW hn cd hv
theorem aKS{h:XH}{n:Nat}(hn:h.length=n)(cd:Cd h){L:List Nat}{r:Option (DX×aH×XH)}{vs:List AV}(hx:qD L r=some (.normal,vs,h))(hv:∀ b∈lF vs,b<n):dL n L r=some (vs,h) :=
 aCm (k:=[]) hn cd (by rw[I5];exact hx) hv
def aHz(s:dR):Int:=(s.farmers.map (·.2)).sum
theorem aDC{B:Int}:∀{l:List Int},(∀ v∈l,-B≤v∧v≤B) → -(B*l.length)≤l.sum∧l.sum≤B*l.length
 | [],_=>by simp
 | v::r,h=>by
   have h1:=h v (by simp);have h2:=aDC fun w hw=>h w (E5 v hw);rw[O9,C8];have:B*((r.length+1:Nat):Int)=B*(r.length:Int)+B:=by
    rw[Int.natCast_add,Int.mul_add];simp
   omega
theorem aDP{l:List ByteArray}(nd:l.Nodup){i:Nat}{k:ByteArray}(hk:l[i]?=some k):dY l k=some i:=by
 obtain⟨j,hj⟩:=aFm (A5 hk);have h1:=fV hj;rw[hj];exact AAt some ((aH2 (A2.1 h1).1 nd).1 (h1.trans hk.symm))
theorem aLM(ly:Lays h L s)(cd:Cd h)(hk:0<s.farmers.length)(hk9:s.farmers.length≤9)(nd:(s.farmers.map (·.1)).Nodup)(hb:∀ p∈s.farmers,-1000000000≤p.2∧p.2≤1000000000):runW aB 62 [.pt L.c 0,.agg [.str AAB,.fs [],.fs []]] h=some (.str ⟨⟨Lib.itoa (aHz s)⟩⟩,h):=by
 obtain⟨n,hn⟩:∃ n,h.length=n:=⟨_,rfl⟩;obtain⟨g,hc⟩:=aC ly.hc;unfold bY at hc;have lc:L.c<n:=by rw[←hn];exact aF ly.hc
 have cn:(L.c<n)=True:=AAp lc;obtain⟨gw,hwo⟩:=ly.f.ho;rw[A7,eR hk]at hwo;obtain⟨gb,hfb⟩:=ly.f.hb (by rw[A7];exact hk);have lo:L.f.o<n:=by rw[←hn];exact ly.f.lts.1
 have lb:L.f.b<n:=by rw[←hn];exact ly.f.lts.2.2.1 (by rw[A7];exact hk)
 have won:(L.f.o<n)=True:=AAp lo;have bd:∀ i,-9000000000≤((s.farmers.map (·.2)).take i).sum∧((s.farmers.map (·.2)).take i).sum≤9000000000:=fun i=>by
  have h1:=aDC (B:=1000000000) (l:=(s.farmers.map (·.2)).take i) fun v hv=>by
   obtain⟨p,hp,rfl⟩:=D6.1 (I1 hv);exact hb p hp
  have h2:((s.farmers.map (·.2)).take i).length≤9:=by rw[G5,A7];omega
  omega
 have nv:∀ i:Nat,∀ b∈lF [.pt L.c 0,I ((s.farmers.map (·.2)).take i).sum,.sl L.f.b 0 1 s.farmers.length,I s.farmers.length,I (i:Nat)],b<n:=by
  intro i b hb2;simp only[lF,iZ,I5,G7,J9,B3,G6,AAi]at hb2;rcases hb2 with rfl|rfl;·exact lc
  ·exact lb
 have fin:((s.farmers.map (·.2)).take s.farmers.length).sum=aHz s:=by
  rw[B5 (by simp)];rfl
 have bs:=bd s.farmers.length;rw[fin]at bs;have c57:=aCY (n:=aHz s) AM;rw[qY 62 uP rfl,hn];unfold uP;dsimp only;have klt:((s.farmers.length:Int)<(s.farmers.length:Int))=False:=AAb;sym =>
  simp[Za,Zb,Zd,Zf,Zg,Zh,Zj,Zl,Zm,Zo,Zv,Zz,Z9,ZA,ZF,ZH,ZR,ZV,Ye,Yh,Ym,Yn,Yt,Yw,Yz,Y7,YG,YM,YN,Xy,Xz,Wi,Wj,Wk,Wu,Ww,WG,Va,Vb,Vd,Vf,Vq,V1,V2,V3,V8,V9,VA,VI,VM,VO,VT,VU,Ug,Uh,Ui,Uu,Uw,Ux,Uy,UK,UL,UO,UP,UQ,UR,UT,UU,UX,UY,UZ,Ta,Tc,Td,Te,Tg,Th,Tm,Tp,Tq,Tt,T0,T4,T5,T8,T9,TA,TB,TC,TD,TE,TJ,TK,TU,TV,Sm,Sn,Sp,Su,Sz,S7,S8,S9,SA,SB,SC,SD,SE,SF,SI,SK,SM,SN,Rp,Rq,Qh,Qw,Qx,Qz,Q0,QA,QB,QW,QX,QY,QZ,Pa,Pg,Pl,Pn,Pq,Pr,hn,hc,cn,hwo,won,rN]
  tactic =>
   unfold aLx;rw[aS s.farmers.length (fun i=>[.pt L.c 0,I ((s.farmers.map (·.2)).take i).sum,.sl L.f.b 0 1 s.farmers.length,I s.farmers.length,I (i:Nat)]) (fun _=>h)]
   ·rw[fin]
    (exact RS3 hn klt c57)
   ·exact aCm hn cd (k:=[some (.blk true (.cells true [.str AAB,.fs [],.fs []]))]) rfl (nv 0)
   ·intro i hi
    obtain⟨⟨q,y⟩,hq⟩:∃ p,s.farmers[i]?=some p:=⟨_,A4 hi⟩;have hqk:(s.farmers.map (·.1))[i]?=some q:=by rw[A6,hq];rfl
    have hx:=aDP nd hqk;obtain⟨e,v,he,hv,hev,call⟩:=ly.f.getf hx;rw[A6,hq]at hv;cases hv;have hev:aG h e=some (.cells true [I y]):=hev;obtain⟨ge,hee⟩:=aC hev;have t1:((i:Int)<(s.farmers.length:Int))=True:=AAa;have mq1:Option.map Prod.fst (some (q,y))=some q:=rfl;have mq2:Option.map AV.str (some q)=some (.str q):=rfl;have hs1:((s.farmers.map (·.2)).take (i+1)).sum=((s.farmers.map (·.2)).take i).sum+y:=by
     rw[I7,A6,hq];simp
    have b1:=bd (i+1);rw[hs1]at b1;have a1:IntKind.i64.wrap (((s.farmers.map (·.2)).take i).sum+y)=((s.farmers.map (·.2)).take i).sum+y:=aI AM AM;have a2:IntKind.i64.wrap ((i:Int)+1)=((i+1:Nat):Int):=by rw[aI AM AM];rfl
    refine aKS hn cd ?_ (nv (i+1));rw[hs1];generalize ((s.farmers.map (·.2)).take i).sum=S0 at *;(exact nJ hn t1 hfb hq mq1 mq2 hc hwo call hee a1 a2 aE)
   ·(exact RS2 hn klt)
theorem aKn(ly:Lays h L s)(cd:Cd h)(hk:s.farmers.length=0):runW aB 62 [.pt L.c 0,.agg [.str AAB,.fs [],.fs []]] h=some (.str ⟨⟨Lib.itoa (aHz s)⟩⟩,h):=by
 have h0:s.farmers=[]:=B8 hk;have hs:aHz s=0:=by unfold aHz;rw[h0];rfl
 rw[hs];obtain⟨n,hn⟩:∃ n,h.length=n:=⟨_,rfl⟩;obtain⟨g,hc⟩:=aC ly.hc;unfold bY at hc;have lc:L.c<n:=by rw[←hn];exact aF ly.hc
 have cn:(L.c<n)=True:=AAp lc;obtain⟨gw,hwo⟩:=ly.f.ho;have hv:iC L.f.b (s.farmers.map (·.1)).length = .nilsl:=by rw[A7,hk];rfl
 rw[hv]at hwo;have lo:L.f.o<n:=by rw[←hn];exact ly.f.lts.1
 have won:(L.f.o<n)=True:=AAp lo;have nv:∀ b∈lF [.pt L.c 0,I 0,.nilsl,I 0,I 0],b<n:=by
  intro b hb2;simp only[lF,iZ,I5,G7,J9,B3,G6,AAi]at hb2;rw[hb2];exact lc
 have c57:=aCY (n:=0) (by decide);rw[qY 62 uP rfl,hn];unfold uP;dsimp only;sym =>
  simp[Za,Zb,Zf,Zh,Zl,Zm,Zo,Zv,Zz,Z9,ZA,ZF,ZR,ZV,Ye,Yh,Ym,Yn,Yt,Yx,YG,Xy,Xz,Wi,Wj,Wk,Wu,Ww,Va,Vb,Vd,Vf,Vq,V1,V2,V3,V8,V9,VA,VI,VM,VO,VT,VU,Ug,Uh,Ui,UK,UL,UO,UP,UQ,UR,UT,UU,UX,UY,UZ,Ta,Tc,Td,Te,Tg,Th,Tm,Tt,T5,T8,T9,TA,TB,TC,TD,TE,TJ,TK,TU,TV,Sn,Sp,Su,Sz,S7,S8,S9,SA,SC,SD,SE,SF,SI,SK,SM,SN,QX,QY,QZ,Pa,Pg,Pl,Pn,Pq,Pr,hn,hc,cn,hwo,won,rN]
  tactic =>
   unfold aLx;rw[aS 0 (fun _=>[.pt L.c 0,I 0,.nilsl,I 0,I 0]) (fun _=>h)];·(exact RS2 hn c57)
   ·exact aCm hn cd (k:=[some (.blk true (.cells true [.str AAB,.fs [],.fs []]))]) rfl nv
   ·intro i hi;omega
   ·(exact dM hn)
inductive Wd where
 | farmer (x:ByteArray)
 | wagon (name owner:ByteArray) (full empty:Int)
 | void (i:Nat)
 | close
 | meter (x:ByteArray) (n:Int)
 | pan (x:ByteArray) (a b:Int)
 | net (x:ByteArray)
 | total
 | ticket (i:Nat)
 | used (x:ByteArray)
 | loss (x:ByteArray)
 | power (x:ByteArray)
def Wd.asks:Wd→Bool
 | .net _ | .total | .ticket _ | .used _ | .loss _ | .power _=>true
 | _=>false
def IsW:Wd→AV→Prop
 | .farmer x,v=>∃ z0:Int,v = .agg [.str AAu,.fs [[.str x]],.fs [[I z0]]]
 | .wagon x y a b,v=>(0≤a∧a≤99999∧0≤b∧b≤99999∧x.size≤10∧y.size≤10)∧∃(u1 u2:ByteArray)(z0 z1:Int),v = .agg [.str AAv,.fs [[.str x],[.str u1],[.str u2],[.str y]],.fs [[I z0],[I a],[I b],[I z1]]]
 | .void i,v=>∃ u1:ByteArray,v = .agg [.str AAw,.fs [[.str u1]],.fs [[I (i:Nat)]]]
 | .close,v=>v = .agg [.str AAx,.fs [],.fs []]
 | .meter x n,v=>(0≤n∧n≤99999)∧∃(u1:ByteArray)(z0:Int),v = .agg [.str AAy,.fs [[.str x],[.str u1]],.fs [[I z0],[I n]]]
 | .pan x a b,v=>(0≤a∧a≤99999∧0≤b∧b≤99999)∧∃(u1 u2:ByteArray)(z0:Int),v = .agg [.str AAz,.fs [[.str x],[.str u1],[.str u2]],.fs [[I z0],[I a],[I b]]]
 | .net x,v=>∃ z0:Int,v = .agg [.str AAA,.fs [[.str x]],.fs [[I z0]]]
 | .total,v=>v = .agg [.str AAB,.fs [],.fs []]
 | .ticket i,v=>∃ u1:ByteArray,v = .agg [.str AAC,.fs [[.str u1]],.fs [[I (i:Nat)]]]
 | .used x,v=>∃ z0:Int,v = .agg [.str AAD,.fs [[.str x]],.fs [[I z0]]]
 | .loss x,v=>∃ z0:Int,v = .agg [.str AAE,.fs [[.str x]],.fs [[I z0]]]
 | .power x,v=>∃ z0:Int,v = .agg [.str AAF,.fs [[.str x]],.fs [[I z0]]]
def iD{α:Type}(l:List (ByteArray×α))(x:ByteArray):Option α:=(dY (l.map (·.1)) x).bind fun i=>l[i]?.map (·.2)
theorem fG{α:Type}{l:List (ByteArray×α)}{x:ByteArray}:iD l x=none↔dY (l.map (·.1)) x=none:=by
 unfold iD;cases h:dY (l.map (·.1)) x with
 | none=>simp
 | some i =>
   obtain⟨y,hy⟩:=sI h;simp[hy]
theorem eI{α:Type}{l:List (ByteArray×α)}{x:ByteArray}{y:α}(h:iD l x=some y):∃ i,dY (l.map (·.1)) x=some i∧l[i]?=some (x,y):=by
 unfold iD at h;cases hn:dY (l.map (·.1)) x with
 | none=>rw[hn]at h;cases h
 | some i =>
   obtain⟨z,hz⟩:=sI hn;rw[hn,E7,hz]at h;cases h;exact⟨i,rfl,hz⟩
def eO(s:dR):Wd→Option Int
 | .farmer x=>if (iD s.farmers x).isSome then some 6 else if s.farmers.length=9 then some 15 else none
 | .wagon x y a b=>match iD s.farmers y with
   | none=>some 5
   | some _=>if ¬b≤a then some 10 else match iD s.wagons x with
     | none=>none
     | some e=>if e-500≤b∧b≤e+500 then none else some 22
 | .void i=>match s.tickets[i]? with
   | none=>some 5
   | some k=>if k.void then some 6 else if i<s.closed then some 23 else none
 | .close=>if s.closed<s.tickets.length then none else some 4
 | .meter x _=>if (iD s.meters x).isNone∧s.meters.length=5 then some 15 else none
 | .pan x a b=>if ¬b≤a then some 10 else if (iD s.pans x).isNone∧s.pans.length=5 then some 15 else none
 | _=>none
def uJ(s:dR):Wd→dR
 | .farmer x=>{ s with farmers:=s.farmers++[(x,0)] }
 | .wagon x y a b=>fF s x y a b
 | .void i=>match s.tickets[i]? with
   | none=>s
   | some k=>{ s with tickets:=s.tickets.set i { k with void:=true },farmers:=iA s.farmers k.farmer (-k.net) }
 | .close=>{ s with closed:=s.tickets.length }
 | .meter x n=>{ s with meters:=mW (mtr n) (n,0) x s.meters }
 | .pan x a b=>{ s with pans:=iA s.pans x (a-b) }
 | _=>s
def vM(l:List CTk)(x:ByteArray):Int:=(l.map fun k=>if k.farmer=x∧k.void=false then k.net else 0).sum
structure gG(s:dR):Prop where
 book:s.book.length≤300
 nf:(s.farmers.map (·.1)).Nodup
 lf:s.farmers.length≤9
 lm:s.meters.length≤5
 lp:s.pans.length≤5
 lw:s.wagons.length≤s.book.length
 lt:s.tickets.length≤s.book.length
 cl:s.closed≤s.tickets.length
 bf:∀ p∈s.farmers,-(100000*s.book.length:Int)≤p.2∧p.2≤100000*s.book.length
 bm:∀ p∈s.meters,0≤p.2.1∧p.2.1≤99999∧0≤p.2.2∧p.2.2≤100000*s.book.length
 bp:∀ p∈s.pans,0≤p.2∧p.2≤100000*s.book.length
 bw:∀ p∈s.wagons,0≤p.2∧p.2≤99999
 bt:∀ k∈s.tickets,0≤k.net∧k.net≤99999∧k.farmer∈s.farmers.map (·.1)∧k.wagon.size≤10∧k.farmer.size≤10
 fs:∀ p∈s.farmers,p.2=vM s.tickets p.1
variable{h h' h1:XH}{L:CL}{s:dR}{x:ByteArray}{w:Wd}{v:AV}
theorem aCl{α:Type}{o:Option α}(h:¬o.isSome=true):o=none:=by cases o with
 | none=>rfl
 | some _=>exact absurd rfl h
theorem aJK{α:Type}{l:List (ByteArray×α)}(h:¬((iD l x).isNone=true∧l.length=5)):(decide (dY (l.map (·.1)) x=none)&&decide (((l.map (·.1)).length:Int)=5))=false:=by
 rw[O1,AAf,AAf,A7];by_cases h1:dY (l.map (·.1)) x=none;·exact .inr fun h2=>h ⟨by rw[fG.2 h1];rfl,by omega⟩
 ·exact .inl h1
theorem aGO{α:Type}{l:List (ByteArray×α)}(h:(iD l x).isNone=true∧l.length=5):(decide (dY (l.map (·.1)) x=none)&&decide (((l.map (·.1)).length:Int)=5))=true:=by
 rw[A3,AAh,AAh,A7];refine⟨fG.1 ?_,by omega⟩;cases hv:iD l x with
 | none=>rfl
 | some _=>rw[hv]at h;cases h.1
theorem aID{x:ByteArray}{a b:Int}(ly:Lays h L s)(hw:IsW (.pan x a b) v){e:Int}(hc:eO s (.pan x a b)=some e):∃ h1,CalP Tryz.prog aB 61 [.pt L.c 0,v] h (.ifc 110 (.agg [I e])) h1∧Fr [] h h1:=by
 obtain⟨hb,u1,u2,z0,rfl⟩:=hw;have ly2:=ly.ext [some (.blk false (.cells true [.pt L.c 0])),some (.blk true (.cells true [.str AAz,.fs [[.str x],[.str u1],[.str u2]],.fs [[I z0],[I a],[I b]]]))];unfold eO at hc;dsimp only at hc;split at hc
 ·rename_i hle
  cases hc;exact⟨_,aOJ (bBr ly2 hle),(Fr.app h _).add _⟩
 ·rename_i hle
  split at hc
  ·rename_i hn
   cases hc;exact⟨_,aOJ (bBq ly2 (aA7.1 hle) (aGO hn)),(Fr.app h _).add _⟩
  ·cases hc
theorem aDv{x:ByteArray}(ly:Lays h L s)(h9:s.farmers.length≠9)(hw:IsW (.farmer x) v){e:Int}(hc:eO s (.farmer x)=some e):∃ h1,CalP Tryz.prog aB 61 [.pt L.c 0,v] h (.ifc 110 (.agg [I e])) h1∧Fr [] h h1:=by
 obtain⟨z0,rfl⟩:=hw;unfold eO at hc;dsimp only at hc;split at hc
 ·rename_i hs
  cases hc;obtain⟨y,hy⟩:=C5.1 hs;obtain⟨i,hi,_⟩:=eI hy;exact⟨_,aCQ ly hi,Fr.app h _⟩
 ·cases hc
theorem aFE{x y:ByteArray}{a b:Int}(ly:Lays h L s)(gs:gG s)(hle:b≤a)(hw:IsW (.wagon x y a b) v){e:Int}(hc:eO s (.wagon x y a b)=some e):∃ h1,CalP Tryz.prog aB 61 [.pt L.c 0,v] h (.ifc 110 (.agg [I e])) h1∧Fr [] h h1:=by
 obtain⟨hb,u1,u2,z0,z1,rfl⟩:=hw;have ly2:=ly.ext [some (.blk false (.cells true [.pt L.c 0])),some (.blk true (.cells true [.str AAv,.fs [[.str x],[.str u1],[.str u2],[.str y]],.fs [[I z0],[I a],[I b],[I z1]]]))];unfold eO at hc;dsimp only at hc;split at hc
 ·rename_i hn
  cases hc;exact⟨_,yO (aYg ly2 (fG.1 hn)),(Fr.app h _).add _⟩
 ·rename_i f hf
  obtain⟨j,hj,_⟩:=eI hf;split at hc;·rename_i q;exact absurd hle q
  ·rename_i hle
   split at hc;·cases hc
   ·rename_i q hq
    split at hc;·cases hc
    ·rename_i hne
     cases hc;obtain⟨i,hi,hqi⟩:=eI hq;obtain⟨fe,hp⟩:=bBv (f:=AAv) (name:=x) (t1:=u1) (t2:=u2) (z:=z0) (z2:=z1) ly2 hj (aA7.1 hle) hi (by rw[A6,hqi];rfl) hne gs.bw;exact⟨_,yO hp,(Fr.app h _).add _⟩
theorem aHc{i:Nat}(ly:Lays h L s)(hw:IsW (.void i) v){e:Int}(hc:eO s (.void i)=some e):∃ h1,CalP Tryz.prog aB 61 [.pt L.c 0,v] h (.ifc 110 (.agg [I e])) h1∧Fr [] h h1:=by
 obtain⟨u1,rfl⟩:=hw;have ly2:=ly.ext [some (.blk false (.cells true [.pt L.c 0])),some (.blk true (.cells true [.str AAw,.fs [[.str u1]],.fs [[I (i:Nat)]]]))];unfold eO at hc;dsimp only at hc;split at hc
 ·rename_i hn
  cases hc;exact⟨_,aFG (bBu ly2 (N7.1 hn)),(Fr.app h _).add _⟩
 ·rename_i k hk
  split at hc
  ·rename_i hv
   cases hc;obtain⟨e,hp⟩:=bBt ly2 hk hv;exact⟨_,aFG hp,(Fr.app h _).add _⟩
  ·rename_i hv
   split at hc
   ·rename_i hcl
    cases hc;obtain⟨e,hp⟩:=bBs ly2 hk (aH1.2 hv) hcl;exact⟨_,aFG hp,(Fr.app h _).add _⟩
   ·cases hc
theorem aFF(ly:Lays h L s)(hw:IsW (.close) v){e:Int}(hc:eO s (.close)=some e):∃ h1,CalP Tryz.prog aB 61 [.pt L.c 0,v] h (.ifc 110 (.agg [I e])) h1∧Fr [] h h1:=by
 cases hw;unfold eO at hc;dsimp only at hc;split at hc;·cases hc
 ·rename_i hn
  cases hc;exact⟨_,aOL ly AM,Fr.app h _⟩
theorem aUA(ly:Lays h L s)(gs:gG s)(hw:IsW w v)(ha:w.asks=false){e:Int}(hc:eO s w=some e):∃ h1,CalP Tryz.prog aB 61 [.pt L.c 0,v] h (.ifc 110 (.agg [I e])) h1∧Fr [] h h1:=by
 cases w with
 | farmer x =>
   by_cases h9:s.farmers.length=9
   ·obtain⟨z0,rfl⟩:=hw
    unfold eO at hc;dsimp only at hc;split at hc
    ·rename_i hs
     cases hc;obtain⟨y,hy⟩:=C5.1 hs;obtain⟨i,hi,_⟩:=eI hy;exact⟨_,aCQ ly hi,Fr.app h _⟩
    ·rename_i hs
     cases hc;exact⟨_,aIH ly (fG.1 (aCl hs)) h9,Fr.app h _⟩
   ·exact aDv ly h9 hw hc
 | wagon x y a b =>
   by_cases hle:b≤a;·exact aFE ly gs hle hw hc
   ·obtain⟨hb,u1,u2,z0,z1,rfl⟩:=hw
    have ly2:=ly.ext [some (.blk false (.cells true [.pt L.c 0])),some (.blk true (.cells true [.str AAv,.fs [[.str x],[.str u1],[.str u2],[.str y]],.fs [[I z0],[I a],[I b],[I z1]]]))];unfold eO at hc;dsimp only at hc;split at hc
    ·rename_i hn
     cases hc;exact⟨_,yO (aYg ly2 (fG.1 hn)),(Fr.app h _).add _⟩
    ·rename_i f hf
     obtain⟨j,hj,_⟩:=eI hf;rw[if_pos hle]at hc;cases hc;obtain⟨fe,hp⟩:=bBw (f:=AAv) (name:=x) (t1:=u1) (t2:=u2) (z:=z0) (z2:=z1) ly2 hj hle;exact⟨_,yO hp,(Fr.app h _).add _⟩
 | void i=>exact aHc ly hw hc
 | close=>exact aFF ly hw hc
 | meter x n =>
   obtain⟨hb,u1,z0,rfl⟩:=hw;have ly2:=ly.ext [some (.blk false (.cells true [.pt L.c 0])),some (.blk true (.cells true [.str AAy,.fs [[.str x],[.str u1]],.fs [[I z0],[I n]]]))];unfold eO at hc;dsimp only at hc;split at hc
   ·rename_i hn
    cases hc;exact⟨_,aOK (c93 ly2 (aGO hn)),(Fr.app h _).add _⟩
   ·cases hc
 | pan x a b=>exact aID ly hw hc
 | _=>cases ha
end Go.Proofs.YtmapgnepfgnphaaGreatDoor
