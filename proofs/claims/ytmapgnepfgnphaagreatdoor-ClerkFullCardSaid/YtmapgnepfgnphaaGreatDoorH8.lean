/- Parts of a proof, joined: U1 P7 K15 Q1 Q2 Q3 Q4 Q5 Q6 Q7 Q8 Q9 Q10 Q11 Q12 Q13 Q14 Q15 Q16 Q17 Q18 Q19 Q20 Q21 Q22 Y2 Q23 U2 U3 U4 Q24 Q25 Q26 Q27 Q28 Q29 Q30 Q31 Q32 U5 U6 U7 Q33 U8 U9 U10 U11 U12 U13 U14. No statement of the seed is proved here. -/
import Derived.KernelRfl
import Derived.Test.YtmapgnepfgnphaaGreatDoorH7
set_option linter.unusedSimpArgs false
set_option linter.unusedVariables false
set_option linter.unusedSectionVars false
namespace Go.Proofs.YtmapgnepfgnphaaGreatDoor
open Go Go.DL
set_option maxRecDepth 100000
set_option maxHeartbeats 4000000
abbrev rI (B:List ByteArray):Option XB:=some (.blk true (.cells false (lX B)))
def lSs (i:Nat):AV:=if i=0 then .nilsl else .sl 3 0 40 i
def lGs (B ls:List ByteArray) (row i:Nat):XH:=if i=0 then [rI B,some (.blk true (.cells true [.nilpt,.nilsl]))] else
 [rI B,some (.blk false (.cells true [.pt 1 0,.sb 2 (Bn ls row i).size])),some (.blk true (.cells true (dI (Bn ls row i)))),some (.blk true (.cells true (bL (Cn ls i))))]
theorem aTS {B ls:List ByteArray} {row o:Nat} (hB:∀ i s,ls[i]?=some s→(lX B)[o+i]?=some (.str s)) (h0:1≤ls.length) (h1:ls.length≤1000) (hr:row≤10000):runW aB 38 [.sl 0 o 1 ls.length,I (row:Int)] [rI B]=some (.str (Bn ls row ls.length++rwB (row+ls.length) (dL (Cn ls ls.length) ls.length)),[rI B]):=by
 rw[qX 38 x38 rfl];unfold x38;dsimp only
 have gB:=jG B
 have l0:(bL (nf 0)).length=40:=by rw[aL];exact cZ (by omega)
 have gz:=bF (nf 0)
 sym =>
  simp[Za,Zb,Zf,Zh,Zl,Zm,Zv,ZR,Yt,WL,WR,Vu,UJ,US,UV,UW,Ta,Tb,T8,T9,Su,Sy,Sz,S8,S9,RR]
  tactic =>
   rw[aNu]
   unfold aMF
   rw[cO ls.length (fun i=>[I (row:Int),.bp 1,lSs i,.sl 0 o 1 ls.length,I (ls.length:Nat),I (i:Nat)]) (fun i=>lGs B ls row i)]
   ·have hn0:¬ls.length=0:=by omega
    have e0:((ls.length:Int)<(ls.length:Int))=False:=eq_false (by omega)
    have s0:lSs ls.length = .sl 3 0 40 ls.length:=if_neg hn0
    have g0:lGs B ls row ls.length=[rI B,some (.blk false (.cells true [.pt 1 0,.sb 2 (Bn ls row ls.length).size])),some (.blk true (.cells true (dI (Bn ls row ls.length)))),some (.blk true (.cells true (bL (Cn ls ls.length))))]:=if_neg hn0
    have bz:=xD ls row ls.length
    have lc:=mA (ls:=ls) (Nat.le_refl _)
    have c1:=aTR (C:=Cn ls ls.length) (n:=ls.length) (by omega) (aPq ls _) h1
    have l3:=eV (C:=Cn ls ls.length) (n:=ls.length) (by omega) ls.length (Nat.le_refl _)
    have b3:=qJ (C:=Cn ls ls.length) ls.length
    have c2:=w77 (row:=row+ls.length) l3 b3 (by omega)
    have zs:=tE (row:=row+ls.length) l3
    have nr:nBy (lG (row+ls.length) (dL (Cn ls ls.length) ls.length))=rwB (row+ls.length) (dL (Cn ls ls.length) ls.length):=rfl
    rw[nr]at c2
    rw[bE]at c1 c2
    have c3:=aNK (s:=rwB (row+ls.length) (dL (Cn ls ls.length) ls.length)) (a:=Bn ls row ls.length) (by omega) (by omega) (by omega)
    rw[zs]at c3
    have sz:(Bn ls row ls.length++rwB (row+ls.length) (dL (Cn ls ls.length) ls.length)).size=(Bn ls row ls.length).size+45:=by rw[ByteArray.size_append,zs]
    have c4:=w71 (a:=Bn ls row ls.length++rwB (row+ls.length) (dL (Cn ls ls.length) ls.length)) (by omega) (by omega)
    rw[sz]at c4
    have r1:IntKind.i64.wrap ((row:Int)+(ls.length:Int))=((row+ls.length:Nat):Int):=by rw[bB (by omega) (by omega)];omega
    have m1:=aL (dL (Cn ls ls.length) ls.length)
    rw[l3]at m1
    have k5:=fC l3
    have k6:=iA l3
    have g5:=bF (dL (Cn ls ls.length) ls.length)
    have gc:=bF (Cn ls ls.length)
    have fz:(ls.length*40≤(bL (Cn ls ls.length)).length)=True:=eq_true (by rw[aL,lc];exact Nat.le_refl _)
    have fl:=(aTF (C:=Cn ls ls.length) (n:=ls.length) (by omega)).1
    generalize Bn ls row ls.length++rwB (row+ls.length) (dL (Cn ls ls.length) ls.length)=T at *
    generalize rwB (row+ls.length) (dL (Cn ls ls.length) ls.length)=R at *
    generalize dL (Cn ls ls.length) ls.length=f at *
    generalize (Bn ls row ls.length).size=sz at *
    generalize Bn ls row ls.length=B0 at *
    generalize Cn ls ls.length=C0 at *
    (sym=>(simp[Za,Zb,Zf,Zg,Zh,Zj,Zl,Zm,Zv,ZA,ZR,Yc,Yf,Yk,Yl,Ys,Y4,YA,Xo,Xq,Xr,Xt,Xv,XZ,We,Wg,Wh,Wi,Wj,Wl,Wr,Wv,Wz,WI,WJ,WK,WN,WQ,Vm,Vp,Vs,Vt,Vv,Vw,Vx,Vy,V0,V5,V6,V8,V9,VA,VB,VC,VD,VE,VF,VH,VI,VJ,VK,VL,VM,VN,VQ,VR,VS,VU,VV,VW,VX,Ud,Ue,Uf,Ug,Uh,Ui,Uj,Uk,Ur,Us,Ut,Uv,Uw,Uy,Uz,U0,UA,UB,UE,UF,UG,UH,UK,UN,UP,UT,UU,UV,UW,UX,UY,UZ,Ta,Tb,Te,Th,Tj,Tq,Tr,Ts,Tu,Tx,Ty,Tz,T0,T1,T2,T3,T6,T7,TX,Sr,Su,Sv,Sx,Sz,S2,S6,S8,S9,SY,R5,R6,R7,RI,RJ,RK,RN,RO,RP,RQ,RX,RY,RZ,Qa,Qd,Qe,Qf,Qg,Qh,Qm,Qn,Qo,Qp,s0,g0,e0,fz,fl,c1,c2,c3,c4,r1,m1,k5,k6,g5,gc,zs,cG,bY,bX,cH,cY,cW,cX,dD,dB,dC,gB];all_goals tactic=>exact rfl))
   ·have s0:lSs 0 = .nilsl:=rfl
    have g0:lGs B ls row 0=[rI B,some (.blk true (.cells true [.nilpt,.nilsl]))]:=rfl
    (exact RS2 s0 g0)
   ·intro i hi
    have i1:((i:Int)<(ls.length:Int))=True:=eq_true (by omega)
    have a2:=oZ hi (by omega)
    obtain⟨s,hs⟩:=qH hi
    have hx:=hB i s hs
    have c1:=w44 s
    rw[bE]at c1
    have lf:=qQ s
    have c2:=w77 (row:=row+i) lf (aCj s) (by omega)
    rw[bE]at c2
    have r1:IntKind.i64.wrap ((row:Int)+(i:Int))=((row+i:Nat):Int):=by rw[bB (by omega) (by omega)];omega
    have m1:=aL (rY s)
    rw[lf]at m1
    have k5:=fC lf
    have k6:=iA lf
    have g5:=bF (rY s)
    have c8:=gO (a:=nf 0) (b:=rY s) (by rw[lf];exact cZ (by omega))
    have zs:=tE (row:=row+i) lf
    have nl:dJ (bN s)=rY s:=rfl
    have nr:nBy (lG (row+i) (rY s))=rwB (row+i) (rY s):=rfl
    rw[nl]at c1
    rw[nr]at c2
    by_cases hi0:i=0
    ·subst hi0
     have s0:lSs 0 = .nilsl:=rfl
     have g0:lGs B ls row 0=[rI B,some (.blk true (.cells true [.nilpt,.nilsl]))]:=rfl
     have cn:=aMD hs
     have cn0:Cn ls 0=[]:=rfl
     rw[cn0,List.nil_append]at cn
     have bn:=aPr (row:=row) hs
     have bn0:Bn ls row 0=⟨⟨[]⟩⟩:=rfl
     rw[bn0,aMl]at bn
     rw[Nat.add_zero]at c2 zs
     have bn:Bn ls row (0+1)=rwB row (rY s):=bn
     have c3:=aNL (s:=rwB row (rY s)) (by omega) (by omega)
     rw[zs]at c3
     have s1:lSs (0+1) = .sl 3 0 40 1:=rfl
     have g1:lGs B ls row (0+1)=[rI B,some (.blk false (.cells true [.pt 1 0,.sb 2 (Bn ls row (0+1)).size])),some (.blk true (.cells true (dI (Bn ls row (0+1))))),some (.blk true (.cells true (bL (Cn ls (0+1)))))]:=rfl
     rw[s1,g1,cn,bn,zs]
     have j1:((0:Int)<(ls.length:Int))=True:=eq_true (by omega)
     rw[Nat.add_zero]at hx
     have j3:IntKind.i64.wrap ((row:Int)+0)=(row:Int):=by rw[Int.add_zero];exact bB (by omega) (by omega)
     have j4:(0<ls.length)=True:=eq_true (by omega)
     generalize hR:rwB row (rY s)=R at *
     generalize rY s=f at *
     (sym=>(simp[Za,Zb,Zd,Ze,Zf,Zg,Zh,Zj,Zl,Zm,Zo,Zv,Z8,ZA,ZI,ZU,Yc,Yf,Yj,Yk,Yl,Yw,Y4,YA,YJ,YM,YN,YP,Xo,Xq,Xr,Xu,Xv,XW,We,Wg,Wh,Wi,Wk,Wl,Wr,Wv,WN,Ve,Vm,Vn,Vo,Vp,Vs,Vt,Vv,Vw,Vx,Vy,V0,V4,V5,V6,V8,V9,VA,VB,VC,VD,VE,VF,VG,VH,VI,VJ,VL,VM,VN,VQ,VR,VS,VU,VV,VW,VX,Ug,Ui,Uj,Uk,UK,UL,UM,UN,UO,UT,UU,UV,UW,UX,UY,UZ,Ta,Tb,Te,Th,Tq,Tr,Ts,Tt,Tv,Tw,Tx,Ty,Tz,T0,T1,TB,TC,TD,TL,TM,TN,TO,TR,TS,TT,TU,TY,TZ,Sd,Se,Sk,Sm,Sn,Sq,Sr,Su,Sw,Sy,Sz,S4,S7,S8,S9,SZ,Rc,R5,RI,RJ,RK,RN,RO,RP,RQ,RX,RZ,Qd,Qe,Qf,Qh,Qm,Qn,Qo,Qp,s0,g0,j1,j3,j4,hx,c1,c2,c3,m1,k5,k6,g5,c8,zs,l0,gz,cG,bY,bX,cH,cY,cW,cX,dD,dB,dC,gB];all_goals tactic=>exact rfl))
    ·have s0:lSs i = .sl 3 0 40 i:=if_neg hi0
     have g0:lGs B ls row i=[rI B,some (.blk false (.cells true [.pt 1 0,.sb 2 (Bn ls row i).size])),some (.blk true (.cells true (dI (Bn ls row i)))),some (.blk true (.cells true (bL (Cn ls i))))]:=if_neg hi0
     have s1:lSs (i+1) = .sl 3 0 40 (i+1):=if_neg (by omega)
     have g1:lGs B ls row (i+1)=[rI B,some (.blk false (.cells true [.pt 1 0,.sb 2 (Bn ls row (i+1)).size])),some (.blk true (.cells true (dI (Bn ls row (i+1))))),some (.blk true (.cells true (bL (Cn ls (i+1)))))]:=if_neg (by omega)
     have bn:=aPr (row:=row) hs
     have bz:=xD ls row i
     have bs1:(Bn ls row (i+1)).size=(Bn ls row i).size+45:=by rw[bn,ByteArray.size_append,zs]
     have ap:=aHV (Cn ls i) (rY s)
     rw[←aMD hs]at ap
     have ca:=aTO hs
     have lc:=aL (Cn ls i)
     rw[mA (by omega)]at lc
     have lc1:=aL (Cn ls (i+1))
     rw[mA (by omega)]at lc1
     have gc:=bF (Cn ls i)
     have gc1:=bF (Cn ls (i+1))
     have c3:=aNK (s:=rwB (row+i) (rY s)) (a:=Bn ls row i) (by omega) (by omega) (by omega)
     rw[zs,←bn]at c3
     rw[s1,g1,bs1]
     have z2:((i+1)*40≤1099511627776)=True:=eq_true (by omega)
     have z3:(i+1≤1099511627776)=True:=eq_true (by omega)
     have z4:((i:Int)<((i+1:Nat):Int))=True:=eq_true (by omega)
     have z5:(i*40+40≤(i+1)*40)=True:=eq_true (by omega)
     generalize (Bn ls row i).size=sz at *
     generalize Bn ls row (i+1)=B1 at *
     generalize Bn ls row i=B0 at *
     generalize Cn ls (i+1)=C1 at *
     generalize Cn ls i=C0 at *
     generalize rwB (row+i) (rY s)=R at *
     generalize rY s=f at *
     (sym=>(simp[Za,Zb,Zd,Ze,Zf,Zg,Zh,Zj,Zl,Zm,Zo,Zv,Z8,ZA,ZI,ZU,Yc,Yf,Yj,Yk,Yl,Yw,Y4,YA,YF,YG,Xo,Xq,Xr,Xu,Xv,XW,We,Wg,Wh,Wi,Wk,Wl,Wr,Wv,WN,Ve,Vm,Vn,Vo,Vp,Vs,Vt,Vv,Vw,Vx,Vy,V0,V4,V5,V6,V8,V9,VA,VB,VC,VD,VE,VF,VG,VH,VI,VJ,VK,VL,VM,VN,VQ,VR,VS,VU,VV,VW,VX,Ug,Ui,Uj,Uk,UK,UL,UM,UN,UO,UT,UU,UV,UW,UX,UY,UZ,Ta,Tb,Te,Th,Tq,Tr,Ts,Tt,Tv,Tw,Tx,Ty,Tz,T0,T1,TB,TC,TD,TL,TM,TN,TO,TR,TS,TT,TV,TW,TY,TZ,Sd,Se,Sk,Sl,Sm,Sn,Sr,Su,Sw,Sy,Sz,S4,S7,S8,S9,SX,SY,Rc,R5,RI,RJ,RK,RN,RO,RP,RQ,RX,RZ,Qd,Qe,Qf,Qh,Qm,Qn,Qo,Qp,s0,g0,i1,a2,hx,c1,c2,c3,r1,m1,k5,k6,g5,c8,zs,l0,gz,ap,ca,lc,lc1,gc,gc1,z2,z3,z4,z5,cG,bY,bX,cH,cY,cW,cX,dD,dB,dC,gB];all_goals tactic=>exact rfl))
   ·have e0:((ls.length:Int)<(ls.length:Int))=False:=eq_false (by omega)
    (exact wN e0)
end Go.Proofs.YtmapgnepfgnphaaGreatDoor
namespace Go.Proofs.YtmapgnepfgnphaaGreatDoor
open Go Go.DL
section
variable {ls:List ByteArray} {n:Nat}
end
end Go.Proofs.YtmapgnepfgnphaaGreatDoor
namespace Go.Proofs.YtmapgnepfgnphaaGreatDoor
open Go Go.DL
set_option maxRecDepth 100000
set_option maxHeartbeats 4000000
theorem w58 (n:Int):runW aB 58 [.bool true,I n] []=some (.tup [],[]):=by
 rw[qX 58 x58 rfl];unfold x58;dsimp only
 (exact RS0)
theorem c58 (n:Int) (h:XH):CalP Tryz.prog aB 58 [.bool false,I n] h (.ifc 110 (.agg [I n])) h:=fun B Y r H as' _ sh hA=>aSh progX_ok.mixed .i64 n sh hA
def ent (ks:List ByteArray) (es:List Nat):List (AV×AV):=List.zipWith (fun k e=>(AV.str k,AV.pt e 0)) ks es
def lN:List ByteArray→ByteArray→Option Nat
 | [],_=>none
 | k::r,x=>if k=x then some 0 else (lN r x).map (· + 1)
theorem tT {x:ByteArray}:∀ {ks:List ByteArray} {i:Nat},lN ks x=some i→ks[i]?=some x
 | [],_,h=>by cases h
 | k::r,i,h=>by
   unfold lN at h
   split at h
   ·rename_i hk;cases h;rw[hk];rfl
   ·rw[Option.map_eq_some_iff]at h
    obtain⟨j,hj,rfl⟩:=h
    rw[List.getElem?_cons_succ];exact tT hj
theorem tU {x:ByteArray}:∀ {ks:List ByteArray},lN ks x=none↔x∉ks
 | []=>by simp[lN]
 | k::r=>by
   unfold lN
   split
   ·rename_i hk;simp[hk]
   ·rename_i hk
    rw[Option.map_eq_none_iff,tU,List.mem_cons,not_or]
    exact⟨fun h=>⟨fun e=>hk e.symm,h⟩,fun h=>h.2⟩
theorem aGy (a b:ByteArray):(a==b)=decide (a=b):=by
 by_cases h:a=b
 ·rw[decide_eq_true h];exact(rD a b).2 h
 ·rw[decide_eq_false h];exact Bool.eq_false_iff.2 fun e=>h ((rD a b).1 e)
theorem uF {x:ByteArray}:∀ {ks:List ByteArray} {es:List Nat},ks.length=es.length→eC true (.str x) (ent ks es)=some (((lN ks x).bind fun i=>es[i]?).map fun e=>.pt e 0)
 | [],[],_=>rfl
 | k::ks,e::es,h=>by
   have ih:=uF (x:=x) (ks:=ks) (es:=es) (by simpa using h)
   show (match iH true (.str x) (.str k)with
    | some true=>some (some (AV.pt e 0))
    | some false=>eC true (.str x) (ent ks es)
    | none=>none)=_
   have hk:iH true (.str x) (.str k)=some (decide (x=k)):=congrArg some (aGy x k)
   rw[hk]
   unfold lN
   by_cases hx:x=k
   ·rw[decide_eq_true hx,if_pos hx.symm];rfl
   ·rw[decide_eq_false hx,if_neg (fun e=>hx e.symm),ih]
    cases lN ks x<;>rfl
theorem aFS {x:ByteArray} {v:AV}:∀ {ks:List ByteArray} {es:List Nat},ks.length=es.length→lN ks x=none→kS true (.str x) v (ent ks es)=some (ent ks es++[(.str x,v)])
 | [],[],_,_=>rfl
 | k::ks,e::es,h,hn=>by
   have hx:¬x=k:=fun e=>(tU.1 hn) (by simp[e])
   have hn2:lN ks x=none:=tU.2 fun hm=>(tU.1 hn) (by simp[hm])
   have ih:=aFS (x:=x) (v:=v) (ks:=ks) (es:=es) (by simpa using h) hn2
   show (match iH true (.str x) (.str k)with
    | some true=>some ((AV.str k,v)::ent ks es)
    | some false=>(kS true (.str x) v (ent ks es)).map ((AV.str k,AV.pt e 0) :: ·)
    | none=>none)=_
   have hk:iH true (.str x) (.str k)=some (decide (x=k)):=congrArg some (aGy x k)
   rw[hk,decide_eq_false hx,ih];rfl
theorem aDM {ks:List ByteArray} {es:List Nat} (h:ks.length=es.length) (x:ByteArray) (e:Nat):ent (ks++[x]) (es++[e])=ent ks es++[(.str x,.pt e 0)]:=by
 unfold ent
 rw[List.zipWith_append h];rfl
def tZ (b n:Nat):AV:=if n=0 then .nilsl else .sl b 0 1 n

theorem w97 {h:XH} {o m e:Nat} {g g2:Bool} {a b:AV} {es:List (AV×AV)} {x:ByteArray} (ho:aJ h o=some (.blk g (.cells true [a,.mp m,b]))) (hm:aJ h m=some (.blk g2 (.map true es))) (hf:eC true (.str x) es=some (some (.pt e 0))) :
 runW aB 97 [.pt o 0,.str x] h=some (.pt e 0,h):=by
 rw[qY 97 x97 rfl];unfold x97;dsimp only
 have c:=w58 5
 (exact RS4 ho hm hf c)
def aHc (h:XH) (o m:Nat) (t:AV) (x:ByteArray) (es:List (AV×AV)) (z:List AV):XH :=
 (h.set o (some (.blk false (.cells true [.sl (h.length+1) 0 1 1,.mp m,t])))).set m (some (.blk false (.map true (es++[(.str x,.pt (h.length+2) 0)]))))++[some (.blk true (.cells true [.str x])),some (.blk true (.cells true [.str x])),some (.blk true (.cells true z))]
def aHd (h:XH) (o m b:Nat) (t:AV) (x:ByteArray) (cs:List AV) (g3:Bool) (es:List (AV×AV)) (z:List AV):XH :=
 ((h.set b none).set o (some (.blk false (.cells true [.sl (h.length+1) 0 1 (cs.length+1),.mp m,t])))).set m (some (.blk false (.map true (es++[(.str x,.pt (h.length+2) 0)]))))++[some (.blk true (.cells true [.str x])),some (.blk g3 (.cells true (cs++[.str x]))),some (.blk true (.cells true z))]
theorem aQH {h:XH} {o m e:Nat} {g g2:Bool} {a b:AV} {es:List (AV×AV)} {x:ByteArray} (ho:aJ h o=some (.blk g (.cells true [a,.mp m,b]))) (hm:aJ h m=some (.blk g2 (.map true es))) (hf:eC true (.str x) es=some (some (.pt e 0))) :
 runW aB 134 [.pt o 0,.str x] h=some (.bool false,h):=by
 rw[qY 134 aCC rfl];unfold aCC;dsimp only
 (exact RS3 ho hm hf)
theorem aQG {h:XH} {o m:Nat} {g g2:Bool} {t:Int} {es:List (AV×AV)} {x:ByteArray} (ho:aJ h o=some (.blk g (.cells true [.nilsl,.mp m,I t]))) (hm:aJ h m=some (.blk g2 (.map true es))) (hf:eC true (.str x) es=some none) (ht:((0:Int)=t)=False) :
 runW aB 134 [.pt o 0,.str x] h=some (.bool false,h):=by
 rw[qY 134 aCC rfl];unfold aCC;dsimp only
 (exact RS4 ho hm hf ht)
theorem aMM {h:XH} {o m b n:Nat} {g g2:Bool} {t:Int} {es:List (AV×AV)} {x:ByteArray} {w:Bool} (ho:aJ h o=some (.blk g (.cells true [.sl b 0 1 n,.mp m,I t]))) (hm:aJ h m=some (.blk g2 (.map true es))) (hf:eC true (.str x) es=some none) (ht:((n:Int)=t)=if w then True else False) :
 runW aB 134 [.pt o 0,.str x] h=some (.bool w,h):=by
 rw[qY 134 aCC rfl];unfold aCC;dsimp only
 cases w<;>(exact RS4 ho hm hf ht)

theorem aQF {h:XH} {o m e:Nat} {g g2:Bool} {a b:AV} {es:List (AV×AV)} {x:ByteArray} (ho:aJ h o=some (.blk g (.cells true [a,.mp m,b]))) (hm:aJ h m=some (.blk g2 (.map true es))) (hf:eC true (.str x) es=some (some (.pt e 0))) :
 runW aB 136 [.pt o 0,.str x] h=some (.tup [.pt e 0,.bool false],h):=by
 rw[qY 136 aCB rfl];unfold aCB;dsimp only
 (exact RS3 ho hm hf)
theorem aQD {h:XH} {o m n:Nat} {g g2:Bool} {t:AV} {es:List (AV×AV)} {x:ByteArray} (hn:h.length=n) (on:(o<n)=True) (mn:(m<n)=True) (om:(o=m)=False) (mo:(m=o)=False)
 (ho:aJ h o=some (.blk g (.cells true [.nilsl,.mp m,t]))) (hm:aJ h m=some (.blk g2 (.map true es))) (hf:eC true (.str x) es=some none) (hp:kS true (.str x) (.pt (n+2) 0) es=some (es++[(.str x,.pt (n+2) 0)])) (hf2:eC true (.str x) (es++[(.str x,.pt (n+2) 0)])=some (some (.pt (n+2) 0))) :
 runW aB 136 [.pt o 0,.str x] h=some (.tup [.pt (n+2) 0,.bool true],aHc h o m t x es [I 0]):=by
 rw[qY 136 aCB rfl];unfold aCB aHc;dsimp only
 (exact aHI ho hm hf hn on mn om mo hp hf2)
theorem aQE {h:XH} {o m n b z:Nat} {g g2 g3:Bool} {t:AV} {cs:List AV} {es:List (AV×AV)} {x:ByteArray} (hn:h.length=n) (on:(o<n)=True) (mn:(m<n)=True) (bn:(b<n)=True) (om:(o=m)=False) (mo:(m=o)=False) (ob:(o=b)=False) (bo:(b=o)=False) (bm:(b=m)=False) (mb:(m=b)=False)
 (ho:aJ h o=some (.blk g (.cells true [.sl b 0 1 z,.mp m,t]))) (hb:aJ h b=some (.blk g3 (.cells true cs))) (hz:cs.length=z) (hz1:((z+1)*16≤1099511627776)=True) (hz2:(z+1≤1099511627776)=True) (hm:aJ h m=some (.blk g2 (.map true es))) (hf:eC true (.str x) es=some none) (hp:kS true (.str x) (.pt (n+2) 0) es=some (es++[(.str x,.pt (n+2) 0)])) (hf2:eC true (.str x) (es++[(.str x,.pt (n+2) 0)])=some (some (.pt (n+2) 0))) :
 runW aB 136 [.pt o 0,.str x] h=some (.tup [.pt (n+2) 0,.bool true],aHd h o m b t x cs g3 es [I 0]):=by
 rw[qY 136 aCB rfl];unfold aCB aHd;dsimp only
 (exact aAk ho hm hf hn on mn om mo hp hf2 bn ob bo bm mb hb hz hz1 hz2 aC)
structure OL where
 o:Nat
 m:Nat
 b:Nat
 es:List Nat
def sBk (b:Nat) (cs:List AV):List (Nat×ABlk):=if cs.length=0 then [] else [(b,.cells true cs)]
def eB (es:List Nat) (vs:List (List AV)):List (Nat×ABlk):=List.zipWith (fun e v=>(e,ABlk.cells true v)) es vs
def rV (l:OL) (ks:List ByteArray) (vs:List (List AV)) (t:Int):List (Nat×ABlk) :=
 (l.o,.cells true [tZ l.b ks.length,.mp l.m,I t])::(l.m,.map true (ent ks l.es))::(sBk l.b (ks.map .str)++eB l.es vs)
def Hd (h:XH) (l:List (Nat×ABlk)):Prop:=(∀ p∈l,aF h p.1=some p.2)∧(l.map (·.1)).Nodup
structure Od (h:XH) (l:OL) (ks:List ByteArray) (vs:List (List AV)) (t:Int):Prop where
 hd:Hd h (rV l ks vs t)
 ek:l.es.length=ks.length
 vk:vs.length=ks.length
structure Fr (J:List Nat) (h h':XH):Prop where
 keep:∀ b,b<h.length→b∉J→aF h' b=aF h b
 len:h.length≤h'.length
theorem Fr.refl (J:List Nat) (h:XH):Fr J h h:=⟨fun _ _ _=>rfl,Nat.le_refl _⟩
theorem Fr.trans {J:List Nat} {h h1 h2:XH} (a:Fr J h h1) (b:Fr J h1 h2):Fr J h h2:=⟨fun x hx hn=>(b.keep x (Nat.lt_of_lt_of_le hx a.len) hn).trans (a.keep x hx hn),Nat.le_trans a.len b.len⟩
theorem Fr.mono {J K:List Nat} {h h1:XH} (a:Fr J h h1) (s:∀ b,b∈J→b∈K):Fr K h h1:=⟨fun x hx hn=>a.keep x hx fun hm=>hn (s x hm),a.len⟩
theorem Fr.app (h k:XH):Fr [] h (h++k):=⟨fun b hb _=>by simp only[aF,dV];rw[if_pos hb],by simp⟩
theorem aO {h:XH} {b:Nat} {x:ABlk} (hb:aF h b=some x):∃ g,aJ h b=some (.blk g x):=by
 unfold aF at hb
 split at hb
 ·rename_i g y hy;cases hb;exact⟨g,hy⟩
 ·cases hb
theorem aJU {h:XH} {b:Nat} {g:Bool} {x:ABlk} (hb:aJ h b=some (.blk g x)):aF h b=some x:=by
 unfold aF;rw[hb]
theorem bD {h:XH} {b:Nat} {x:ABlk} (hb:aF h b=some x):b<h.length:=by
 obtain⟨g,hg⟩:=aO hb
 exact Classical.byContradiction fun hn=>by
  unfold aJ at hg
  rw[List.getD_eq_getElem?_getD,List.getElem?_eq_none (by omega)]at hg
  cases hg
theorem cM {h:XH} {b j:Nat} {g:Bool} {x:ABlk}:aF (h.set b (some (.blk g x))) j=if j=b then (if b<h.length then some x else aF h j) else aF h j:=by
 simp only[aF,Qt]
 by_cases e:j=b
 ·by_cases l:b<h.length
  ·simp[e,l]
  ·simp[e,l]
 ·simp[e]
theorem aBn {h:XH} {b j:Nat} (hj:j≠b):aF (h.set b none) j=aF h j:=by
 simp only[aF,Qt,if_neg hj]
theorem gX {h k:XH} {j:Nat}:aF (h++k) j=if j<h.length then aF h j else aF k (j-h.length):=by
 simp only[aF,Qu]
 by_cases e:j<h.length
 ·simp[e]
 ·simp[e]
theorem aOX {es:List Nat}:∀ {vs:List (List AV)},es.length=vs.length→(eB es vs).map (·.1)=es:=by
 induction es with
 | nil=>intro vs h;cases vs with
   | nil=>rfl
   | cons v r=>cases h
 | cons e r ih=>intro vs h;cases vs with
   | nil=>cases h
   | cons v w=>exact congrArg (e :: ·) (ih (by simpa using h))
theorem aKp {es:List Nat} {vs:List (List AV)} {i e:Nat} {v:List AV} (he:es[i]?=some e) (hv:vs[i]?=some v):(e,ABlk.cells true v)∈eB es vs:=by
 refine List.mem_of_getElem? (i:=i) ?_
 unfold eB
 rw[List.getElem?_zipWith,he,hv]
theorem aMm {es:List Nat} {vs:List (List AV)} (h:es.length=vs.length) (e:Nat) (v:List AV):eB (es++[e]) (vs++[v])=eB es vs++[(e,.cells true v)]:=by
 unfold eB
 rw[List.zipWith_append h];rfl
theorem aFe {es:List Nat} {vs:List (List AV)} {p:Nat×ABlk} (h:p∈eB es vs):∃ (i:Nat) (e:Nat) (v:List AV),es[i]?=some e∧vs[i]?=some v∧p=(e,.cells true v):=by
 obtain⟨i,hi⟩:=List.getElem?_of_mem h
 unfold eB at hi
 rw[List.getElem?_zipWith]at hi
 split at hi
 ·rename_i e v he hv;cases hi;exact⟨i,e,v,he,hv,rfl⟩
 ·cases hi
def idx (l:OL) (n:Nat):List Nat:=l.o::l.m::((if n=0 then [] else [l.b])++l.es)
theorem mR {l:OL} {ks:List ByteArray} {vs:List (List AV)} {t:Int} (h:l.es.length=vs.length):(rV l ks vs t).map (·.1)=idx l ks.length:=by
 unfold rV idx sBk
 rw[List.map_cons,List.map_cons,List.map_append,aOX h,List.length_map]
 split<;>rfl
variable {h h':XH} {l:OL} {ks:List ByteArray} {vs:List (List AV)} {t:Int} {x:ByteArray} {i:Nat}
namespace Od
theorem ho (od:Od h l ks vs t):∃ g,aJ h l.o=some (.blk g (.cells true [tZ l.b ks.length,.mp l.m,I t])):=aO (od.hd.1 (l.o,_) (by simp[rV]))
theorem hm (od:Od h l ks vs t):∃ g,aJ h l.m=some (.blk g (.map true (ent ks l.es))):=aO (od.hd.1 (l.m,_) (by simp[rV]))
theorem hb (od:Od h l ks vs t) (hk:0<ks.length):∃ g,aJ h l.b=some (.blk g (.cells true (ks.map .str))):=aO (od.hd.1 (l.b,_) (by
 have:¬ks.length=0:=by omega
 simp[rV,sBk,this]))
theorem he (od:Od h l ks vs t) {e:Nat} {v:List AV} (he:l.es[i]?=some e) (hv:vs[i]?=some v):aF h e=some (.cells true v):=od.hd.1 (e,.cells true v) (by
 unfold rV
 exact List.mem_cons_of_mem _ (List.mem_cons_of_mem _ (List.mem_append_right _ (aKp he hv))))
theorem nd (od:Od h l ks vs t):(idx l ks.length).Nodup:=by
 rw[←mR (t:=t) (od.ek.trans od.vk.symm)];exact od.hd.2
theorem lt (od:Od h l ks vs t) {b:Nat} (hb:b∈idx l ks.length):b<h.length:=by
 rw[←mR (ks:=ks) (t:=t) (od.ek.trans od.vk.symm)]at hb
 obtain⟨p,hp,rfl⟩:=List.mem_map.1 hb
 exact bD (od.hd.1 p hp)
theorem lts (od:Od h l ks vs t):l.o<h.length∧l.m<h.length∧(0<ks.length→l.b<h.length)∧∀ e∈l.es,e<h.length :=
 ⟨od.lt (by simp[idx]),od.lt (by simp[idx]),fun hk=>od.lt (by
  have:¬ks.length=0:=by omega
  simp[idx,this]),fun e he=>od.lt (by simp[idx,he])⟩
theorem nes (od:Od h l ks vs t):l.o≠l.m∧(0<ks.length→l.o≠l.b∧l.m≠l.b∧l.b∉l.es)∧l.o∉l.es∧l.m∉l.es∧l.es.Nodup:=by
 have:=od.nd
 unfold idx at this
 rw[List.nodup_cons,List.nodup_cons,List.nodup_append]at this
 obtain⟨n1,n2,n3,n4,n5⟩:=this
 refine⟨fun e=>n1 (by simp[e]),fun hk=>?_,fun e=>n1 (by simp[e]),fun e=>n2 (by simp[e]),n4⟩
 have hz:¬ks.length=0:=by omega
 rw[if_neg hz]at n1 n2 n5
 exact⟨fun e=>n1 (by simp[e]),fun e=>n2 (by simp[e]),fun e=>n5 l.b (by simp) l.b e rfl⟩
theorem found (od:Od h l ks vs t) (hx:lN ks x=some i):∃ e v,l.es[i]?=some e∧vs[i]?=some v∧eC true (.str x) (ent ks l.es)=some (some (.pt e 0))∧aF h e=some (.cells true v):=by
 have h1:=tT hx
 have h2:i<ks.length:=(List.getElem?_eq_some_iff.1 h1).1
 have h3:=uF (x:=x) od.ek.symm
 rw[hx]at h3
 have k1:=List.getElem?_eq_getElem (l:=l.es) (i:=i) (by rw[od.ek];exact h2)
 have k2:=List.getElem?_eq_getElem (l:=vs) (i:=i) (by rw[od.vk];exact h2)
 rw[Option.bind_some,k1]at h3
 exact⟨_,_,k1,k2,h3,od.he k1 k2⟩
theorem miss (od:Od h l ks vs t) (hx:lN ks x=none):eC true (.str x) (ent ks l.es)=some none:=by
 have h3:=uF (x:=x) od.ek.symm
 rw[hx]at h3;exact h3
theorem fr (od:Od h l ks vs t) {J:List Nat} (f:Fr J h h') (hd:∀ b,b∈idx l ks.length→b∉J):Od h' l ks vs t:=by
 refine⟨⟨fun p hp=>?_,od.hd.2⟩,od.ek,od.vk⟩
 have h1:=od.hd.1 p hp
 have h2:p.1∈idx l ks.length:=by
  rw[←mR (ks:=ks) (t:=t) (od.ek.trans od.vk.symm)];exact List.mem_map_of_mem hp
 rw[f.keep p.1 (bD h1) (hd _ h2)];exact h1
theorem upd (od:Od h l ks vs t) {e:Nat} {v:List AV} {g:Bool} (he:l.es[i]?=some e):Od (h.set e (some (.blk g (.cells true v)))) l ks (vs.set i v) t∧Fr [e] h (h.set e (some (.blk g (.cells true v)))):=by
 have hi:i<l.es.length:=(List.getElem?_eq_some_iff.1 he).1
 have hm:e∈l.es:=List.mem_of_getElem? he
 obtain⟨n1,n2,n3,n4,n5⟩:=od.nes
 obtain⟨t1,t2,t3,t4⟩:=od.lts
 have el:=t4 e hm
 refine⟨⟨⟨fun p hp=>?_,?_⟩,od.ek,by rw[List.length_set];exact od.vk⟩,⟨fun b _ hb=>by rw[cM,if_neg (by simpa using hb)],by simp⟩⟩
 ·unfold rV at hp
  rw[List.mem_cons,List.mem_cons,List.mem_append]at hp
  have keep:∀ p,p∈rV l ks vs t→p.1≠e→aF (h.set e (some (.blk g (.cells true v)))) p.1=some p.2:=fun p hp hne=>by
   rw[cM,if_neg hne];exact od.hd.1 p hp
  rcases hp with rfl|rfl|hp|hp
  ·exact keep _ (by simp[rV]) fun q=>n3 (by rw[show l.o=e from q];exact hm)
  ·exact keep _ (by simp[rV]) fun q=>n4 (by rw[show l.m=e from q];exact hm)
  ·have hz:0<ks.length:=Nat.pos_of_ne_zero fun q=>by simp[sBk,q]at hp
   have hb:p=(l.b,.cells true (ks.map .str)):=by
    have hz2:¬ks.length=0:=by omega
    simpa [sBk,hz2]using hp
   subst hb
   exact keep _ (by simp[rV,hp]) fun q=>(n2 hz).2.2 (by rw[show l.b=e from q];exact hm)
  ·obtain⟨j,e2,v2,k1,k2,rfl⟩:=aFe hp
   by_cases hj:j=i
   ·subst hj
    rw[he]at k1;cases k1
    have hv:v2=v:=by
     rw[List.getElem?_set_self (by rw[od.vk,←od.ek];exact hi)]at k2;cases k2;rfl
    subst hv
    rw[cM,if_pos rfl,if_pos el]
   ·rw[List.getElem?_set_ne (fun q=>hj q.symm)]at k2
    refine keep _ (by unfold rV;exact List.mem_cons_of_mem _ (List.mem_cons_of_mem _ (List.mem_append_right _ (aKp k1 k2)))) fun q=>hj ?_
    have q1:e2=e:=q
    subst q1
    exact(List.getElem?_inj (by exact(List.getElem?_eq_some_iff.1 k1).1) n5).1 (k1.trans he.symm)
 ·have h1:=od.nd
  rw[mR (by rw[List.length_set];exact od.ek.trans od.vk.symm)];exact h1
end Od
end Go.Proofs.YtmapgnepfgnphaaGreatDoor
namespace Go.Proofs.YtmapgnepfgnphaaGreatDoor
open Go Go.DL
set_option maxRecDepth 100000
set_option maxHeartbeats 4000000
variable {h h':XH} {l:OL} {ks:List ByteArray} {vs:List (List AV)} {t:Int} {x:ByteArray} {i:Nat} {z:List AV}
theorem aHl {o m:Nat} {tv:AV} {es:List (AV×AV)} (ho:o<h.length) (hm:m<h.length) (om:o≠m) (j:Nat):aF (aHc h o m tv x es z) j =
 if j=m then some (.map true (es++[(.str x,.pt (h.length+2) 0)])) else if j=o then some (.cells true [.sl (h.length+1) 0 1 1,.mp m,tv]) else if j<h.length then aF h j else
 if j=h.length then some (.cells true [.str x]) else if j=h.length+1 then some (.cells true [.str x]) else if j=h.length+2 then some (.cells true z) else none:=by
 unfold aHc
 rw[gX,cM,cM]
 simp only[List.length_set]
 by_cases jm:j=m
 ·subst jm;simp[hm]
 ·by_cases jo:j=o
  ·subst jo;simp[om,ho]
  ·by_cases jl:j<h.length
   ·simp[jm,jo,jl]
   ·simp only[jm,jo,jl,if_false]
    by_cases j0:j=h.length
    ·subst j0;simp[aF,aJ]
    ·by_cases j1:j=h.length+1
     ·subst j1;simp[aF,aJ]
     ·by_cases j2:j=h.length+2
      ·subst j2;simp[aF,aJ]
      ·simp only[j0,j1,j2,if_false]
       unfold aF aJ
       rw[List.getD_eq_getElem?_getD,List.getElem?_eq_none (by simp;omega)];rfl
theorem aHm {o m b:Nat} {tv:AV} {cs:List AV} {g3:Bool} {es:List (AV×AV)} (ho:o<h.length) (hm:m<h.length) (om:o≠m) (j:Nat) (jb:j≠b):aF (aHd h o m b tv x cs g3 es z) j =
 if j=m then some (.map true (es++[(.str x,.pt (h.length+2) 0)])) else if j=o then some (.cells true [.sl (h.length+1) 0 1 (cs.length+1),.mp m,tv]) else if j<h.length then aF h j else
 if j=h.length then some (.cells true [.str x]) else if j=h.length+1 then some (.cells true (cs++[.str x])) else if j=h.length+2 then some (.cells true z) else none:=by
 unfold aHd
 rw[gX,cM,cM,aBn jb]
 simp only[List.length_set]
 by_cases jm:j=m
 ·subst jm;simp[hm]
 ·by_cases jo:j=o
  ·subst jo;simp[om,ho]
  ·by_cases jl:j<h.length
   ·simp[jm,jo,jl]
   ·simp only[jm,jo,jl,if_false]
    by_cases j0:j=h.length
    ·subst j0;simp[aF,aJ]
    ·by_cases j1:j=h.length+1
     ·subst j1;simp[aF,aJ]
     ·by_cases j2:j=h.length+2
      ·subst j2;simp[aF,aJ]
      ·simp only[j0,j1,j2,if_false]
       unfold aF aJ
       rw[List.getD_eq_getElem?_getD,List.getElem?_eq_none (by simp;omega)];rfl
theorem Od.putG (od:Od h l ks vs t) (hl:h'.length=h.length+3)
 (hp:∀ j,(0<ks.length→j≠l.b)→aF h' j=if j=l.m then some (.map true (ent ks l.es++[(.str x,.pt (h.length+2) 0)])) else if j=l.o then some (.cells true [.sl (h.length+1) 0 1 (ks.length+1),.mp l.m,I t]) else if j<h.length then aF h j else
 if j=h.length then some (.cells true [.str x]) else if j=h.length+1 then some (.cells true (ks.map .str++[.str x])) else if j=h.length+2 then some (.cells true z) else none) :
 Od h' ⟨l.o,l.m,h.length+1,l.es++[h.length+2]⟩ (ks++[x]) (vs++[z]) t∧Fr (idx l ks.length) h h':=by
 obtain⟨n1,n2,n3,n4,n5⟩:=od.nes
 obtain⟨t1,t2,t3,t4⟩:=od.lts
 have ev:=od.ek.trans od.vk.symm
 refine⟨⟨⟨fun p hp'=>?_,?_⟩,by simp[od.ek],by simp[od.vk]⟩,⟨fun b hb hn=>?_,by omega⟩⟩
 ·unfold rV at hp'
  rw[aMm ev,aDM od.ek.symm]at hp'
  rw[List.mem_cons,List.mem_cons,List.mem_append,List.mem_append]at hp'
  rcases hp' with rfl|rfl|hp'|hp'|hp'
  ·have:tZ (h.length+1) (ks++[x]).length = .sl (h.length+1) 0 1 (ks.length+1):=by simp[tZ]
   rw[this,hp l.o (fun hk=>(n2 hk).1),if_neg n1,if_pos rfl]
  ·rw[hp l.m (fun hk=>(n2 hk).2.1),if_pos rfl]
  ·have hb:p=(h.length+1,.cells true (ks.map .str++[.str x])):=by simpa [sBk]using hp'
   subst hb
   rw[hp _ (fun hk=>by have:=t3 hk;show h.length+1≠l.b;omega)]
   rw[if_neg (by show h.length+1≠l.m;omega),if_neg (by show h.length+1≠l.o;omega),if_neg (by show ¬h.length+1<h.length;omega),if_neg (by show ¬h.length+1=h.length;omega),if_pos rfl]
  ·obtain⟨j,e2,v2,k1,k2,rfl⟩:=aFe hp'
   have me:=List.mem_of_getElem? k1
   have le:=t4 _ me
   rw[hp e2 (fun hk q=>(n2 hk).2.2 (by rw[←q];exact me)),if_neg (fun q:e2=l.m=>n4 (by rw[←q];exact me)),if_neg (fun q:e2=l.o=>n3 (by rw[←q];exact me)),if_pos le]
   exact od.he k1 k2
  ·rw[List.mem_singleton]at hp'
   subst hp'
   rw[hp _ (fun hk=>by have:=t3 hk;show h.length+2≠l.b;omega)]
   rw[if_neg (by show h.length+2≠l.m;omega),if_neg (by show h.length+2≠l.o;omega),if_neg (by show ¬h.length+2<h.length;omega),if_neg (by show ¬h.length+2=h.length;omega),if_neg (by show ¬h.length+2=h.length+1;omega),if_pos rfl]
 ·rw[mR (by simp[ev])]
  unfold idx
  simp only[List.length_append,List.length_singleton,Nat.add_eq_zero_iff,Nat.succ_ne_self,and_false,if_false,List.nodup_cons,List.nodup_append,List.mem_append,List.mem_singleton,List.mem_cons,not_or,List.not_mem_nil,not_false_eq_true,true_and,List.nodup_nil,and_true]
  refine⟨⟨n1,by omega,n3,by omega⟩,⟨by omega,n4,by omega⟩,⟨n5,fun a ha b hb=>?_⟩,fun a ha b hb=>?_⟩
  ·rcases hb with rfl|hb
   ·have:=t4 a ha;omega
   ·exact hb.elim
  ·rcases ha with rfl|ha
   ·rcases hb with hb|hb|hb
    ·have:=t4 b hb;omega
    ·omega
    ·exact hb.elim
   ·exact ha.elim
 ·have hb1:b≠l.o∧b≠l.m∧(0<ks.length→b≠l.b):=by
   unfold idx at hn
   refine⟨fun q=>hn (by simp[q]),fun q=>hn (by simp[q]),fun hk q=>hn ?_⟩
   have:¬ks.length=0:=by omega
   simp[q,this]
  rw[hp b hb1.2.2,if_neg hb1.2.1,if_neg hb1.1,if_pos hb]
theorem aDn:∀ {ks:List ByteArray},lN ks x=none→lN (ks++[x]) x=some ks.length
 | [],_=>by simp[lN]
 | k::r,h=>by
   unfold lN at h
   split at h
   ·cases h
   ·rename_i hk
    rw[Option.map_eq_none_iff]at h
    show (if k=x then some 0 else (lN (r++[x]) x).map (· + 1))=_
    rw[if_neg hk,aDn h];rfl
theorem aSp {α:Type} {l:List α} (h:¬0<l.length):l=[]:=List.eq_nil_of_length_eq_zero (by omega)
theorem tru {p:Prop} (h:p):p=True:=eq_true h
theorem fls {p:Prop} (h:¬p):p=False:=eq_false h
theorem Od.getp (od:Od h l ks vs t) (hx:lN ks x=some i):∃ e v,l.es[i]?=some e∧vs[i]?=some v∧aF h e=some (.cells true v)∧runW aB 97 [.pt l.o 0,.str x] h=some (.pt e 0,h):=by
 obtain⟨g1,ho⟩:=od.ho
 obtain⟨g2,hm⟩:=od.hm
 obtain⟨e,v,k1,k2,k3,k4⟩:=od.found hx
 exact⟨e,v,k1,k2,k4,w97 ho hm k3⟩
theorem Od.fullp (od:Od h l ks vs t) (ht:0<t):runW aB 134 [.pt l.o 0,.str x] h=some (.bool (decide (lN ks x=none)&&decide ((ks.length:Int)=t)),h):=by
 obtain⟨g1,ho⟩:=od.ho
 obtain⟨g2,hm⟩:=od.hm
 cases hx:lN ks x with
 | some i =>
   obtain⟨e,v,k1,k2,k3,k4⟩:=od.found hx
   rw[aQH ho hm k3];rfl
 | none =>
   by_cases hk:0<ks.length
   ·have hv:tZ l.b ks.length = .sl l.b 0 1 ks.length:=by unfold tZ;rw[if_neg (by omega)]
    rw[hv]at ho
    by_cases hw:(ks.length:Int)=t
    ·rw[aMM (w:=true) ho hm (od.miss hx) (by simp[hw])];simp[hw]
    ·rw[aMM (w:=false) ho hm (od.miss hx) (by simp[hw])];simp[hw]
   ·have h0:ks=[]:=aSp hk
    have hz:((0:Int)=t)=False:=eq_false (by omega)
    subst h0
    rw[aQG (t:=t) (by simpa [tZ]using ho) hm (od.miss hx) hz]
    have:decide (((([]:List ByteArray).length:Nat):Int)=t)=false:=decide_eq_false (by simpa using hz)
    rw[this];simp
theorem Od.oldp (od:Od h l ks vs t) (hx:lN ks x=some i):∃ e v,l.es[i]?=some e∧vs[i]?=some v∧aF h e=some (.cells true v)∧runW aB 136 [.pt l.o 0,.str x] h=some (.tup [.pt e 0,.bool false],h):=by
 obtain⟨g1,ho⟩:=od.ho
 obtain⟨g2,hm⟩:=od.hm
 obtain⟨e,v,k1,k2,k3,k4⟩:=od.found hx
 exact⟨e,v,k1,k2,k4,aQF ho hm k3⟩
theorem Od.newp (od:Od h l ks vs t) (hx:lN ks x=none) (hk:ks.length≤1000):∃ h',runW aB 136 [.pt l.o 0,.str x] h=some (.tup [.pt (h.length+2) 0,.bool true],h')∧h'.length=h.length+3∧Od h' ⟨l.o,l.m,h.length+1,l.es++[h.length+2]⟩ (ks++[x]) (vs++[[I 0]]) t∧Fr (idx l ks.length) h h':=by
 obtain⟨n1,n2,n3,n4,n5⟩:=od.nes
 obtain⟨t1,t2,t3,t4⟩:=od.lts
 obtain⟨g1,ho⟩:=od.ho
 obtain⟨g2,hm⟩:=od.hm
 have hf:=od.miss hx
 have hp:=aFS (v:=.pt (h.length+2) 0) od.ek.symm hx
 have hf2:eC true (.str x) (ent ks l.es++[(.str x,.pt (h.length+2) 0)])=some (some (.pt (h.length+2) 0)):=by
  rw[←aDM od.ek.symm,uF (by simp[od.ek])]
  rw[aDn hx]
  simp[←od.ek]
 by_cases k0:0<ks.length
 ·have hv:tZ l.b ks.length = .sl l.b 0 1 ks.length:=by unfold tZ;rw[if_neg (by omega)]
  rw[hv]at ho
  obtain⟨g3,hb⟩:=od.hb k0
  obtain⟨n6,n7,n8⟩:=n2 k0
  have t5:=t3 k0
  refine⟨_,aQE rfl (tru t1) (tru t2) (tru t5) (fls n1) (fls (Ne.symm n1)) (fls n6) (fls (Ne.symm n6)) (fls (Ne.symm n7)) (fls n7) ho hb (by simp) (tru (by omega)) (tru (by omega)) hm hf hp hf2,by simp[aHd],?_⟩
  exact Od.putG od (by simp[aHd]) fun j hj=>by
   rw[aHm t1 t2 n1 j (hj k0)];simp
 ·have h0:ks=[]:=aSp k0
  subst h0
  refine⟨_,aQD rfl (tru t1) (tru t2) (fls n1) (fls (Ne.symm n1)) (by simpa [tZ]using ho) hm hf hp hf2,by simp[aHc],?_⟩
  exact Od.putG od (by simp[aHc]) fun j hj=>by
   rw[aHl t1 t2 n1 j];rfl
structure CL where
 c:Nat
 tb:Nat
 kb:Nat
 te:List Nat
 f:OL
 m:OL
 p:OL
 w:OL
def tkC (k:CTk):List AV:=[.str k.wagon,.str k.farmer,I k.net,.bool k.void,.bool false]
def oP (L:CL) (s:dR):List AV:=[.pt L.f.o 0,.pt L.m.o 0,.pt L.p.o 0,.pt L.w.o 0,tZ L.tb s.tickets.length,I s.closed,tZ L.kb s.book.length]
def nV (b n:Nat):List Nat:=if n=0 then [] else [b]
def px (L:CL) (s:dR):Nat→List Nat
 | 0=>[L.c]
 | 1=>nV L.tb s.tickets.length++L.te
 | 2=>nV L.kb s.book.length
 | 3=>idx L.f s.farmers.length
 | 4=>idx L.m s.meters.length
 | 5=>idx L.p s.pans.length
 | 6=>idx L.w s.wagons.length
 | _=>[]
structure Tk (h:XH) (tb:Nat) (te:List Nat) (ks:List CTk):Prop where
 el:te.length=ks.length
 hb:0<ks.length→aF h tb=some (.cells true (te.map fun e=>.pt e 0))
 he:∀ (i e:Nat) (k:CTk),te[i]?=some e→ks[i]?=some k→aF h e=some (.cells true (tkC k))
 nd:te.Nodup
 nb:0<ks.length→tb∉te
structure Lays (h:XH) (L:CL) (s:dR):Prop where
 hc:aF h L.c=some (.cells true (oP L s))
 tk:Tk h L.tb L.te s.tickets
 bk:0<s.book.length→aF h L.kb=some (.cells true (s.book.map .str))
 f:Od h L.f (s.farmers.map (·.1)) (s.farmers.map fun p=>[I p.2]) 9
 m:Od h L.m (s.meters.map (·.1)) (s.meters.map fun p=>[I p.2.1,I p.2.2]) 5
 p:Od h L.p (s.pans.map (·.1)) (s.pans.map fun p=>[I p.2]) 5
 w:Od h L.w (s.wagons.map (·.1)) (s.wagons.map fun p=>[I p.2]) 300
 dj:∀ i j b,b∈px L s i→b∈px L s j→i=j
variable {h h':XH} {L:CL} {s:dR}
theorem eW {b n x:Nat}:x∈nV b n↔0<n∧x=b:=by
 unfold nV
 split
 ·rename_i h;simp[h]
 ·rename_i h;simp[Nat.pos_of_ne_zero h]
theorem aGs {P P':Nat→List Nat} (J:Nat→Prop) [DecidablePred J] {n:Nat} (dj:∀ i j b,b∈P i→b∈P j→i=j) (lt:∀ j b,b∈P j→b<n) (same:∀ j,¬J j→P' j=P j) (sub:∀ j b,J j→b∈P' j→b∈P j∨n≤b) (own:∀ i j b,J i→J j→b∈P' i→b∈P' j→n≤b→i=j):∀ i j b,b∈P' i→b∈P' j→i=j:=by
 intro i j b hi hj
 by_cases ii:J i
 ·by_cases jj:J j
  ·rcases sub i b ii hi with h1|h1
   ·rcases sub j b jj hj with h2|h2
    ·exact dj i j b h1 h2
    ·have:=lt i b h1;omega
   ·exact own i j b ii jj hi hj h1
  ·rw[same j jj]at hj
   rcases sub i b ii hi with h1|h1
   ·exact dj i j b h1 hj
   ·have:=lt j b hj;omega
 ·rw[same i ii]at hi
  by_cases jj:J j
  ·rcases sub j b jj hj with h2|h2
   ·exact dj i j b hi h2
   ·have:=lt i b hi;omega
  ·rw[same j jj]at hj
   exact dj i j b hi hj
namespace Tk
variable {tb:Nat} {te:List Nat} {ks:List CTk}
theorem lts (t:Tk h tb te ks):(0<ks.length→tb<h.length)∧∀ e∈te,e<h.length:=by
 refine⟨fun hk=>bD (t.hb hk),fun e he=>?_⟩
 obtain⟨i,hi⟩:=List.getElem?_of_mem he
 have h2:i<ks.length:=by rw[←t.el];exact(List.getElem?_eq_some_iff.1 hi).1
 exact bD (t.he i e _ hi (List.getElem?_eq_getElem h2))
theorem lt (t:Tk h tb te ks) {b:Nat} (hb:b∈nV tb ks.length++te):b<h.length:=by
 rw[List.mem_append,eW]at hb
 rcases hb with ⟨hk,rfl⟩|hb
 ·exact t.lts.1 hk
 ·exact t.lts.2 b hb
theorem fr (t:Tk h tb te ks) {J:List Nat} (f:Fr J h h') (hd:∀ b,b∈nV tb ks.length++te→b∉J):Tk h' tb te ks:=by
 refine⟨t.el,fun hk=>?_,fun i e k hi hk=>?_,t.nd,t.nb⟩
 ·rw[f.keep tb (t.lts.1 hk) (hd tb (by rw[List.mem_append,eW];exact .inl ⟨hk,rfl⟩))];exact t.hb hk
 ·have he:=List.mem_of_getElem? hi
  rw[f.keep e (t.lts.2 e he) (hd e (List.mem_append_right _ he))];exact t.he i e k hi hk
end Tk
namespace Lays
theorem lt (ly:Lays h L s):∀ j b,b∈px L s j→b<h.length:=by
 intro j b hb
 unfold px at hb
 split at hb
 ·rw[List.mem_singleton]at hb;subst hb;exact bD ly.hc
 ·exact ly.tk.lt hb
 ·rw[eW]at hb;obtain⟨hk,rfl⟩:=hb;exact bD (ly.bk hk)
 ·exact ly.f.lt (by rw[List.length_map];exact hb)
 ·exact ly.m.lt (by rw[List.length_map];exact hb)
 ·exact ly.p.lt (by rw[List.length_map];exact hb)
 ·exact ly.w.lt (by rw[List.length_map];exact hb)
 ·cases hb
theorem live (ly:Lays h L s):∀ j b,b∈px L s j→∃ x,aF h b=some x:=by
 have od:∀ {l:OL} {ks:List ByteArray} {vs:List (List AV)} {t:Int} {b:Nat},Od h l ks vs t→b∈idx l ks.length→∃ x,aF h b=some x:=fun {l ks vs t b} od hb=>by
  rw[←mR (ks:=ks) (t:=t) (od.ek.trans od.vk.symm)]at hb
  obtain⟨p,hp,rfl⟩:=List.mem_map.1 hb
  exact⟨_,od.hd.1 p hp⟩
 intro j b hb
 unfold px at hb
 split at hb
 ·rw[List.mem_singleton]at hb;subst hb;exact⟨_,ly.hc⟩
 ·rw[List.mem_append,eW]at hb
  rcases hb with ⟨hk,rfl⟩|hb
  ·exact⟨_,ly.tk.hb hk⟩
  ·obtain⟨i,hi⟩:=List.getElem?_of_mem hb
   have h2:i<s.tickets.length:=by rw[←ly.tk.el];exact(List.getElem?_eq_some_iff.1 hi).1
   exact⟨_,ly.tk.he i b _ hi (List.getElem?_eq_getElem h2)⟩
 ·rw[eW]at hb;obtain⟨hk,rfl⟩:=hb;exact⟨_,ly.bk hk⟩
 ·exact od ly.f (by rw[List.length_map];exact hb)
 ·exact od ly.m (by rw[List.length_map];exact hb)
 ·exact od ly.p (by rw[List.length_map];exact hb)
 ·exact od ly.w (by rw[List.length_map];exact hb)
 ·cases hb
theorem off (ly:Lays h L s) {i j:Nat} (hne:i≠j) {b:Nat} (hi:b∈px L s i):b∉px L s j:=fun hj=>hne (ly.dj i j b hi hj)
theorem fr (ly:Lays h L s) {J:List Nat} (f:Fr J h h') (hd:∀ j b,b∈px L s j→b∉J):Lays h' L s where
 hc:=by rw[f.keep L.c (bD ly.hc) (hd 0 L.c (by simp[px]))];exact ly.hc
 tk:=ly.tk.fr f fun b hb=>hd 1 b hb
 bk hk:=by rw[f.keep L.kb (bD (ly.bk hk)) (hd 2 L.kb (eW.2 ⟨hk,rfl⟩))];exact ly.bk hk
 f:=ly.f.fr f fun b hb=>hd 3 b (by rw[List.length_map]at hb;exact hb)
 m:=ly.m.fr f fun b hb=>hd 4 b (by rw[List.length_map]at hb;exact hb)
 p:=ly.p.fr f fun b hb=>hd 5 b (by rw[List.length_map]at hb;exact hb)
 w:=ly.w.fr f fun b hb=>hd 6 b (by rw[List.length_map]at hb;exact hb)
 dj:=ly.dj
theorem ext (ly:Lays h L s) (k:XH):Lays (h++k) L s:=ly.fr (Fr.app h k) fun _ _ _ hb=>by cases hb
theorem setp (ly:Lays h L s) {l':OL} {xs:List (ByteArray×Int)} (od:Od h' l' (xs.map (·.1)) (xs.map fun p=>[I p.2]) 5) (fr:Fr (idx L.p s.pans.length) h h') (sub:∀ b,b∈idx l' xs.length→b∈idx L.p s.pans.length∨h.length≤b) (ho:l'.o=L.p.o):Lays h' { L with p:=l' } { s with pans:=xs } where
 hc:=by rw[fr.keep L.c (bD ly.hc) (ly.off (i:=0) (j:=5) (by decide) (by simp[px]))];rw[ly.hc];unfold oP;simp only[ho]
 tk:=ly.tk.fr fr fun b hb=>ly.off (i:=1) (j:=5) (by decide) hb
 bk hk:=by rw[fr.keep L.kb (bD (ly.bk hk)) (ly.off (i:=2) (j:=5) (by decide) (eW.2 ⟨hk,rfl⟩))];exact ly.bk hk
 f:=ly.f.fr fr fun b hb=>by rw[List.length_map]at hb;exact ly.off (i:=3) (j:=5) (by decide) hb
 m:=ly.m.fr fr fun b hb=>by rw[List.length_map]at hb;exact ly.off (i:=4) (j:=5) (by decide) hb
 p:=od
 w:=ly.w.fr fr fun b hb=>by rw[List.length_map]at hb;exact ly.off (i:=6) (j:=5) (by decide) hb
 dj:=aGs (· = 5) ly.dj ly.lt (fun j hj=>by
  unfold px
  split<;>first|rfl|exact absurd rfl hj) (fun j b hj hb=>by subst hj;exact sub b hb) (fun i j b hi hj _ _ _=>hi.trans hj.symm)
end Lays
end Go.Proofs.YtmapgnepfgnphaaGreatDoor
namespace Go.Proofs.YtmapgnepfgnphaaGreatDoor
open Go Go.DL
set_option maxRecDepth 100000
set_option maxHeartbeats 4000000
variable {h h' h1:XH} {L:CL} {s:dR}
theorem Fr.set {J:List Nat} (f:Fr J h h1) {b:Nat} (hb:b∈J) (x:Option XB):Fr J h (h1.set b x):=⟨fun j hj hn=>by
 have hne:j≠b:=fun q=>hn (q▸hb)
 have:aF (h1.set b x) j=aF h1 j:=by simp only[aF,Qt,if_neg hne]
 rw[this];exact f.keep j hj hn,by rw[List.length_set];exact f.len⟩
theorem Fr.add {J:List Nat} (f:Fr J h h1) (k:XH):Fr J h (h1++k):=f.trans ((Fr.app h1 k).mono fun _ hb=>by cases hb)
namespace Lays
theorem setC (ly:Lays h L s) {tb' kb' cl:Nat} {te':List Nat} {ks:List CTk} {bk:List ByteArray} (hc':aF h' L.c=some (.cells true [.pt L.f.o 0,.pt L.m.o 0,.pt L.p.o 0,.pt L.w.o 0,tZ tb' ks.length,I cl,tZ kb' bk.length])) (tk':Tk h' tb' te' ks) (bk':0<bk.length→aF h' kb'=some (.cells true (bk.map .str)))
 (fr:Fr (L.c::((nV L.tb s.tickets.length++L.te)++nV L.kb s.book.length)) h h') (s1:∀ b,b∈nV tb' ks.length++te'→b∈nV L.tb s.tickets.length++L.te∨h.length≤b) (s2:∀ b,b∈nV kb' bk.length→b∈nV L.kb s.book.length∨h.length≤b) (s12:∀ b,b∈nV tb' ks.length++te'→b∈nV kb' bk.length→b<h.length) :
 Lays h' { L with tb:=tb',te:=te',kb:=kb' } { s with tickets:=ks,closed:=cl,book:=bk }:=by
 have vG:∀ j b,3≤j→b∈px L s j→b∉L.c::((nV L.tb s.tickets.length++L.te)++nV L.kb s.book.length):=fun j b hj hb hm=>by
  rw[List.mem_cons,List.mem_append]at hm
  rcases hm with rfl|hm|hm
  ·exact ly.off (i:=j) (j:=0) (by omega) hb (by simp[px])
  ·exact ly.off (i:=j) (j:=1) (by omega) hb hm
  ·exact ly.off (i:=j) (j:=2) (by omega) hb hm
 refine⟨hc',tk',bk',ly.f.fr fr fun b hb=>vG 3 b (by decide) (by rw[List.length_map]at hb;exact hb),ly.m.fr fr fun b hb=>vG 4 b (by decide) (by rw[List.length_map]at hb;exact hb),ly.p.fr fr fun b hb=>vG 5 b (by decide) (by rw[List.length_map]at hb;exact hb),ly.w.fr fr fun b hb=>vG 6 b (by decide) (by rw[List.length_map]at hb;exact hb),?_⟩
 refine aGs (· < 3) ly.dj ly.lt (fun j hj=>?_) (fun j b hj hb=>?_) (fun i j b hi hj h1 h2 hn=>?_)
 ·unfold px
  split<;>first|rfl|exact absurd (by decide) hj
 ·match j,hj with
  | 0,_=>exact .inl hb
  | 1,_=>exact s1 b hb
  | 2,_=>exact s2 b hb
 ·have c0:∀ b,b∈px { L with tb:=tb',te:=te',kb:=kb' } { s with tickets:=ks,closed:=cl,book:=bk } 0→b<h.length:=fun b hb=>by
   have hb:b=L.c:=by simpa [px]using hb
   subst hb;exact bD ly.hc
  match i,hi,j,hj with
  | 0,_,0,_=>rfl
  | 1,_,1,_=>rfl
  | 2,_,2,_=>rfl
  | 0,_,1,_=>have:=c0 b h1;omega
  | 0,_,2,_=>have:=c0 b h1;omega
  | 1,_,0,_=>have:=c0 b h2;omega
  | 2,_,0,_=>have:=c0 b h2;omega
  | 1,_,2,_=>have:=s12 b h1 h2;omega
  | 2,_,1,_=>have:=s12 b h2 h1;omega
theorem cNe (ly:Lays h L s):(∀ b∈nV L.tb s.tickets.length++L.te,b≠L.c)∧(∀ b∈nV L.kb s.book.length,b≠L.c)∧∀ b,b∈nV L.tb s.tickets.length++L.te→b∉nV L.kb s.book.length :=
 ⟨fun b hb q=>ly.off (i:=1) (j:=0) (by decide) hb (by simp[px,q]),fun b hb q=>ly.off (i:=2) (j:=0) (by decide) hb (by simp[px,q]),fun b hb=>ly.off (i:=1) (j:=2) (by decide) hb⟩
theorem bookApp (ly:Lays h L s) {kb':Nat} {line:ByteArray} (hn:h.length≤kb') (hc':aF h' L.c=some (.cells true (oP { L with kb:=kb' } { s with book:=s.book++[line] }))) (hb':aF h' kb'=some (.cells true (s.book.map .str++[.str line]))) (fr:Fr (L.c::nV L.kb s.book.length) h h') :
 Lays h' { L with kb:=kb' } { s with book:=s.book++[line] }:=by
 have fr2:Fr (L.c::((nV L.tb s.tickets.length++L.te)++nV L.kb s.book.length)) h h':=fr.mono fun b hb=>by
  rw[List.mem_cons]at hb ⊢
  exact hb.imp id fun q=>List.mem_append_right _ q
 refine ly.setC (tb':=L.tb) (te':=L.te) (ks:=s.tickets) (cl:=s.closed) hc' (ly.tk.fr fr fun b hb hm=>?_) (fun _=>by rw[hb'];simp) fr2 (fun b hb=>.inl hb) (fun b hb=>.inr ?_) (fun b hb hb2=>ly.tk.lt hb)
 ·rw[List.mem_cons]at hm
  rcases hm with hm|hm
  ·exact ly.cNe.1 b hb hm
  ·exact ly.cNe.2.2 b hb hm
 ·rw[eW]at hb;omega
theorem close (ly:Lays h L s) {cl:Nat} (hc':aF h' L.c=some (.cells true (oP L { s with closed:=cl }))) (fr:Fr [L.c] h h'):Lays h' L { s with closed:=cl }:=by
 have fr2:Fr (L.c::((nV L.tb s.tickets.length++L.te)++nV L.kb s.book.length)) h h':=fr.mono fun b hb=>by
  rw[List.mem_singleton]at hb;rw[hb];exact List.mem_cons_self
 refine ly.setC (tb':=L.tb) (te':=L.te) (kb':=L.kb) (ks:=s.tickets) (bk:=s.book) hc' (ly.tk.fr fr fun b hb hm=>?_) (fun hk=>?_) fr2 (fun b hb=>.inl hb) (fun b hb=>.inl hb) (fun b hb hb2=>ly.tk.lt hb)
 ·rw[List.mem_singleton]at hm;exact ly.cNe.1 b hb hm
 ·rw[fr.keep L.kb (bD (ly.bk hk)) fun hm=>ly.cNe.2.1 _ (eW.2 ⟨hk,rfl⟩) (by simpa using hm)];exact ly.bk hk
end Lays
end Go.Proofs.YtmapgnepfgnphaaGreatDoor
namespace Go.Proofs.YtmapgnepfgnphaaGreatDoor
open Go Go.DL
set_option maxRecDepth 100000
set_option maxHeartbeats 4000000
variable {h h' h1:XH} {L:CL} {s:dR} {x:ByteArray}
def oQ:List (ByteArray×Int)→ByteArray→Int→List (ByteArray×Int)
 | [],x,d=>[(x,d)]
 | (k,v)::r,x,d=>if k=x then (k,v+d)::r else (k,v)::oQ r x d
theorem vH {d v:Int}:∀ {l:List (ByteArray×Int)} {i:Nat},lN (l.map (·.1)) x=some i→(l.map (·.2))[i]?=some v→oQ l x d=l.set i (x,v+d)
 | [],i,h,_=>by cases h
 | (k,w)::r,i,h,hv=>by
   have h2:(if k=x then some 0 else (lN (r.map (·.1)) x).map (· + 1))=some i:=h
   unfold oQ
   by_cases e:k=x
   ·rw[if_pos e]at h2 ⊢
    cases h2
    have:w=v:=by simpa using hv
    rw[this,e];rfl
   ·rw[if_neg e]at h2 ⊢
    rw[Option.map_eq_some_iff]at h2
    obtain⟨j,hj,rfl⟩:=h2
    rw[vH (l:=r) hj (by simpa using hv)];rfl
theorem aBB {d:Int}:∀ {l:List (ByteArray×Int)},lN (l.map (·.1)) x=none→oQ l x d=l++[(x,d)]
 | [],_=>rfl
 | (k,w)::r,h=>by
   have h2:(if k=x then some 0 else (lN (r.map (·.1)) x).map (· + 1))=none:=h
   unfold oQ
   by_cases e:k=x
   ·rw[if_pos e]at h2;cases h2
   ·rw[if_neg e]at h2 ⊢
    rw[Option.map_eq_none_iff]at h2
    rw[aBB h2];rfl
theorem aCi {α β:Type} {f:α→β} {l:List α} {i:Nat} {a:α} {b:β} (h:(l.map f)[i]?=some b) (hf:f a=b):(l.set i a).map f=l.map f:=by
 rw[List.map_set,hf]
 obtain⟨hl,rfl⟩:=List.getElem?_eq_some_iff.1 h
 exact List.set_getElem_self hl
def pxs (L:CL) (s:dR):List Nat:=px L s 0++(px L s 1++(px L s 2++(px L s 3++(px L s 4++(px L s 5++px L s 6)))))
theorem cF {b:Nat}:b∈pxs L s↔∃ j,b∈px L s j:=by
 unfold pxs
 simp only[List.mem_append]
 constructor
 ·rintro (h|h|h|h|h|h|h)
  all_goals exact⟨_,h⟩
 ·rintro ⟨j,h⟩
  match j with
  | 0=>exact .inl h
  | 1=>exact .inr (.inl h)
  | 2=>exact .inr (.inr (.inl h))
  | 3=>exact .inr (.inr (.inr (.inl h)))
  | 4=>exact .inr (.inr (.inr (.inr (.inl h))))
  | 5=>exact .inr (.inr (.inr (.inr (.inr (.inl h)))))
  | 6=>exact .inr (.inr (.inr (.inr (.inr (.inr h)))))
  | _+7=>cases h
theorem iN {l:OL} {n b:Nat}:b∈idx l n↔b=l.o∨b=l.m∨(0<n∧b=l.b)∨b∈l.es:=by
 unfold idx
 rw[List.mem_cons,List.mem_cons,List.mem_append]
 have:b∈(if n=0 then ([]:List Nat) else [l.b])↔0<n∧b=l.b:=eW
 rw[this]
theorem aLX {l:OL} {n k:Nat} {b:Nat} (hb:b∈idx ⟨l.o,l.m,k+1,l.es++[k+2]⟩ n) {m:Nat}:b∈idx l m∨k≤b:=by
 rw[iN]at hb
 rcases hb with hb|hb|⟨_,hb⟩|hb
 ·exact .inl (iN.2 (.inl hb))
 ·exact .inl (iN.2 (.inr (.inl hb)))
 ·exact .inr (by rw[hb];show k≤k+1;omega)
 ·rcases List.mem_append.1 hb with hb|hb
  ·exact .inl (iN.2 (.inr (.inr (.inr hb))))
  ·rw[List.mem_singleton]at hb;exact .inr (by omega)
def Sb (N:Nat) (L:CL) (s:dR) (L':CL) (s':dR):Prop:=∀ b,b∈pxs L' s'→b∈pxs L s∨N≤b
theorem Sb.of {N:Nat} {L L':CL} {s s':dR} (h0:L'.c=L.c) (h1:∀ b,b∈nV L'.tb s'.tickets.length++L'.te→b∈nV L.tb s.tickets.length++L.te∨N≤b) (h2:∀ b,b∈nV L'.kb s'.book.length→b∈nV L.kb s.book.length∨N≤b)
 (h3:∀ b,b∈idx L'.f s'.farmers.length→b∈idx L.f s.farmers.length∨N≤b) (h4:∀ b,b∈idx L'.m s'.meters.length→b∈idx L.m s.meters.length∨N≤b) (h5:∀ b,b∈idx L'.p s'.pans.length→b∈idx L.p s.pans.length∨N≤b) (h6:∀ b,b∈idx L'.w s'.wagons.length→b∈idx L.w s.wagons.length∨N≤b):Sb N L s L' s':=fun b hb=>by
 obtain⟨j,hj⟩:=cF.1 hb
 match j,hj with
 | 0,hj=>exact .inl (cF.2 ⟨0,by simpa [px,h0]using hj⟩)
 | 1,hj=>exact(h1 b hj).imp (fun q=>cF.2 ⟨1,q⟩) id
 | 2,hj=>exact(h2 b hj).imp (fun q=>cF.2 ⟨2,q⟩) id
 | 3,hj=>exact(h3 b hj).imp (fun q=>cF.2 ⟨3,q⟩) id
 | 4,hj=>exact(h4 b hj).imp (fun q=>cF.2 ⟨4,q⟩) id
 | 5,hj=>exact(h5 b hj).imp (fun q=>cF.2 ⟨5,q⟩) id
 | 6,hj=>exact(h6 b hj).imp (fun q=>cF.2 ⟨6,q⟩) id
 | _+7,hj=>cases hj
theorem xT {l:OL} {n n' N:Nat} (h:n'=n):∀ b,b∈idx l n'→b∈idx l n∨N≤b:=fun b hb=>.inl (h▸hb)
theorem aMO {t n n' N:Nat} {te:List Nat} (h:n'=n):∀ b,b∈nV t n'++te→b∈nV t n++te∨N≤b:=fun b hb=>.inl (h▸hb)
theorem aMP {t n n' N:Nat} (h:n'=n):∀ b,b∈nV t n'→b∈nV t n∨N≤b:=fun b hb=>.inl (h▸hb)
theorem Fr.keepS {J:List Nat} (f:Fr J h h1) {b:Nat} {c:ABlk} (hb:aF h b=some c) (hn:b∉J):aF h1 b=some c:=by
 rw[f.keep b (bD hb) hn];exact hb
def sK (c:Nat) (x:ByteArray) (a b:Int):XH:=[some (.blk false (.cells true [.pt c 0])),some (.blk true (.cells true [.str x])),some (.blk true (.cells true [I a])),some (.blk true (.cells true [I b]))]
theorem w94 (ly:Lays h L s) {a b:Int} (hab:b≤a) (hf:(decide (lN (s.pans.map (·.1)) x=none)&&decide (((s.pans.map (·.1)).length:Int)=5))=false) :
 runW aB 94 [.pt L.c 0,.str x,I a,I b] h=some (.fn (.func 135) [] [.pt h.length 0,.pt (h.length+1) 0,.pt (h.length+2) 0,.pt (h.length+3) 0],h++sK L.c x a b):=by
 obtain⟨n,hn⟩:∃ n,h.length=n:=⟨_,rfl⟩
 obtain⟨g,hc⟩:=aO ly.hc
 unfold oP at hc
 have cn:(L.c<n)=True:=eq_true (by rw[←hn];exact bD ly.hc)
 have f1:=(ly.p.fr (Fr.app h (sK L.c x a b)) (fun _ _ hb=>by cases hb)).fullp (x:=x) (by decide)
 rw[hf]at f1
 have m1:=w58 10
 have m2:=w58 15
 have t1:(b≤a)=True:=eq_true hab
 rw[qY 94 x94 rfl,hn];unfold x94;dsimp only
 unfold sK at f1 ⊢
 (exact RS7 hc hn cn f1 m1 m2 t1)
theorem aWX (ly:Lays h L s) {a b:Int} (hab:¬b≤a):CalP Tryz.prog aB 94 [.pt L.c 0,.str x,I a,I b] h (.ifc 110 (.agg [I 10])) (h++sK L.c x a b):=by
 refine CalP.of (d:=x94) (e':=eD [] []) aW rfl (by simp[x94]) rfl ?_
 unfold x94;dsimp only
 obtain⟨n,hn⟩:∃ n,h.length=n:=⟨_,rfl⟩
 have t1:(b≤a)=False:=eq_false hab
 refine PanX.seqR (K:=94) aW rfl [4,5,6,7] (vs:=[.pt n 0,.pt (n+1) 0,.pt (n+2) 0,.pt (n+3) 0]) (h1:=h++sK L.c x a b) (by rw[hn];unfold sK; (exact wN hn)) ?_
 refine PanX.seqL ?_
 exact PanX.reg (p:=[⟨0,some 9,.load false 1 (.t 7),none⟩,⟨0,some 10,.load false 1 (.t 6),none⟩,⟨0,some 11,.bin .leq (.t 9) (.t 10),none⟩]) (post:=[]) aW [] (g:=58) (first:=[]) (cap:=[]) (args:=[.bool false,I 10]) (vs:=[]) rfl rfl (by unfold sK; (exact RS2 hn t1)) (c58 10 _)
theorem aWW (ly:Lays h L s) {a b:Int} (hab:b≤a) (hf:(decide (lN (s.pans.map (·.1)) x=none)&&decide (((s.pans.map (·.1)).length:Int)=5))=true):CalP Tryz.prog aB 94 [.pt L.c 0,.str x,I a,I b] h (.ifc 110 (.agg [I 15])) (h++sK L.c x a b):=by
 refine CalP.of (d:=x94) (e':=eD [] []) aW rfl (by simp[x94]) rfl ?_
 unfold x94;dsimp only
 obtain⟨n,hn⟩:∃ n,h.length=n:=⟨_,rfl⟩
 obtain⟨g,hc⟩:=aO ly.hc
 unfold oP at hc
 have cn:(L.c<n)=True:=eq_true (by rw[←hn];exact bD ly.hc)
 have f1:=(ly.p.fr (Fr.app h (sK L.c x a b)) (fun _ _ hb=>by cases hb)).fullp (x:=x) (by decide)
 rw[hf]at f1
 have m1:=w58 10
 have t1:(b≤a)=True:=eq_true hab
 refine PanX.seqR (K:=94) aW rfl [4,5,6,7] (vs:=[.pt n 0,.pt (n+1) 0,.pt (n+2) 0,.pt (n+3) 0]) (h1:=h++sK L.c x a b) (by rw[hn];unfold sK; (exact wN hn)) ?_
 refine PanX.seqR (K:=94) aW rfl [4,5,6,7] (vs:=[.pt n 0,.pt (n+1) 0,.pt (n+2) 0,.pt (n+3) 0]) (h1:=h++sK L.c x a b) (by unfold sK; (exact RS3 hn t1 m1)) ?_
 refine PanX.seqL ?_
 exact PanX.regU (fr:=[]) (p:=[⟨0,some 13,.load false 1 (.t 4),none⟩,⟨1,some 14,.nilck (.t 13),none⟩,⟨2,some 15,.fld 2 (.t 14),none⟩,⟨3,some 16,.load false 1 (.t 15),none⟩,⟨4,some 17,.load false 1 (.t 5),none⟩,⟨5,some 18,.callf false (.c (.fn (.func 134) [] [])) [(.t 16),(.t 17)] [],none⟩,⟨6,some 19,.not (.t 18),none⟩]) (post:=[]) aW [] (g:=58) (first:=[]) (cap:=[]) (args:=[.bool false,I 15]) (vs:=[]) rfl rfl rfl (by unfold sK at f1 ⊢; (exact RS4 hc hn cn f1)) (c58 15 _)
variable {h h' h1:XH} {L:CL} {s:dR} {x:ByteArray}
def Out (L:CL) (s:dR) (bs:List Nat):Prop:=∀ b∈bs,b∉pxs L s
theorem Lays.px_out (ly:Lays h L s) {bs:List Nat} (o:Out L s bs) {j b:Nat} (hb:b∈bs):b∉px L s j:=fun hm=>o b hb (cF.2 ⟨j,hm⟩)
theorem Fr.px {j:Nat} (f:Fr (px L s j) h h'):Fr (pxs L s) h h':=f.mono fun b hb=>cF.2 ⟨j,hb⟩
theorem Lays.oldP (ly:Lays h L s) {i e:Nat} {v d:Int} {g:Bool} (hx:lN (s.pans.map (·.1)) x=some i) (hv:(s.pans.map (·.2))[i]?=some v) (he:L.p.es[i]?=some e):Lays (h.set e (some (.blk g (.cells true [I (v+d)])))) L { s with pans:=oQ s.pans x d }:=by
 obtain⟨u1,u2⟩:=ly.p.upd (v:=[I (v+d)]) (g:=g) he
 have hm:e∈idx L.p s.pans.length:=iN.2 (.inr (.inr (.inr (List.mem_of_getElem? he))))
 have ha:=vH (d:=d) hx hv
 have hk:(s.pans.set i (x,v+d)).map (·.1)=s.pans.map (·.1):=aCi (tT hx) rfl
 rw[ha]
 refine ly.setp (l':=L.p) (xs:=s.pans.set i (x,v+d)) ?_ (u2.mono fun b hb=>by rw[List.mem_singleton]at hb;rw[hb];exact hm) (fun b hb=>.inl (by rw[List.length_set]at hb;exact hb)) rfl
 rw[hk,List.map_set];exact u1
theorem Fr.setNew {J:List Nat} (f:Fr J h h1) {b:Nat} (hb:h.length≤b) (y:Option XB):Fr J h (h1.set b y):=⟨fun j hj hn=>by
 have hne:j≠b:=by omega
 have:aF (h1.set b y) j=aF h1 j:=by simp only[aF,Qt,if_neg hne]
 rw[this];exact f.keep j hj hn,by rw[List.length_set];exact f.len⟩
theorem Lays.newP (ly:Lays h L s) {d:Int} {g:Bool} (hx:lN (s.pans.map (·.1)) x=none) (od:Od h1 ⟨L.p.o,L.p.m,h.length+1,L.p.es++[h.length+2]⟩ (s.pans.map (·.1)++[x]) (s.pans.map (fun p=>[I p.2])++[[I 0]]) 5) (fr:Fr (idx L.p s.pans.length) h h1) :
 Lays (h1.set (h.length+2) (some (.blk g (.cells true [I d])))) { L with p:=⟨L.p.o,L.p.m,h.length+1,L.p.es++[h.length+2]⟩ } { s with pans:=oQ s.pans x d }∧Fr (idx L.p s.pans.length) h (h1.set (h.length+2) (some (.blk g (.cells true [I d])))):=by
 have fr2:Fr (idx L.p s.pans.length) h (h1.set (h.length+2) (some (.blk g (.cells true [I d])))):=fr.setNew (by omega) _
 refine⟨?_,fr2⟩
 have hl:L.p.es.length=s.pans.length:=by rw[ly.p.ek,List.length_map]
 have he:(L.p.es++[h.length+2])[s.pans.length]?=some (h.length+2):=by
  rw[←hl,List.getElem?_append_right (Nat.le_refl _)];simp
 obtain⟨u1,u2⟩:=od.upd (v:=[I d]) (g:=g) he
 rw[aBB (d:=d) hx]
 refine ly.setp (l':=⟨L.p.o,L.p.m,h.length+1,L.p.es++[h.length+2]⟩) (xs:=s.pans++[(x,d)]) ?_ fr2 (fun b hb=>?_) rfl
 ·have:(s.pans.map (fun p=>[I p.2])++[[I 0]]).set s.pans.length [I d]=(s.pans++[(x,d)]).map (fun p=>[I p.2]):=by
   rw[List.set_append_right _ _ (by simp)];simp
  rw[←this,List.map_append];exact u1
 ·rw[iN]at hb
  rcases hb with hb|hb|⟨_,hb⟩|hb
  ·exact .inl (iN.2 (.inl hb))
  ·exact .inl (iN.2 (.inr (.inl hb)))
  ·exact .inr (by rw[hb];show h.length≤h.length+1;omega)
  ·rcases List.mem_append.1 hb with hb|hb
   ·exact .inl (iN.2 (.inr (.inr (.inr hb))))
   ·rw[List.mem_singleton]at hb;exact .inr (by omega)
theorem aTY (ly:Lays h L s) {b0 b1 b2 b3:Nat} {a b:Int} (o:Out L s [b0,b1,b2,b3]) (k0:aF h b0=some (.cells true [.pt L.c 0])) (k1:aF h b1=some (.cells true [.str x])) (k2:aF h b2=some (.cells true [I a])) (k3:aF h b3=some (.cells true [I b])) (hab:0≤b∧b≤a∧a≤99999) (sm:∀ p∈s.pans,0≤p.2∧p.2≤1000000000) (hl:s.pans.length≤1000) :
 ∃ h' L',runW aB 135 [.pt b0 0,.pt b1 0,.pt b2 0,.pt b3 0] h=some (.tup [],h')∧Lays h' L' { s with pans:=oQ s.pans x (a-b) }∧L'.c=L.c∧Fr (pxs L s) h h'∧Sb h.length L s L' { s with pans:=oQ s.pans x (a-b) }:=by
 obtain⟨g0,j0⟩:=aO k0
 obtain⟨g1,j1⟩:=aO k1
 obtain⟨g4,hc⟩:=aO ly.hc
 unfold oP at hc
 have a1:IntKind.i64.wrap (a-b)=a-b:=bB (by omega) (by omega)
 cases hx:lN (s.pans.map (·.1)) x with
 | some i =>
   obtain⟨e,v,he,hv,hev,call⟩:=ly.p.oldp hx
   have hv2:∃ v0,(s.pans.map (·.2))[i]?=some v0∧v=[I v0]:=by
    rw[List.getElem?_map]at hv ⊢
    cases hq:s.pans[i]? with
    | none=>rw[hq]at hv;cases hv
    | some q=>rw[hq]at hv;cases hv;exact⟨_,rfl,rfl⟩
   obtain⟨v0,hv0,rfl⟩:=hv2
   have hb:0≤v0∧v0≤1000000000:=by
    obtain⟨q,hq,rfl⟩:=List.mem_map.1 (List.mem_of_getElem? hv0)
    exact sm q hq
   obtain⟨g5,he5⟩:=aO hev
   obtain⟨g2,j2⟩:=aO k2
   obtain⟨g3,j3⟩:=aO k3
   have a2:IntKind.i64.wrap (v0+(a-b))=v0+(a-b):=bB (by omega) (by omega)
   refine⟨_,L,?_,ly.oldP (g:=g5) (d:=a-b) hx hv0 he,rfl,Fr.px (j:=5) ((Fr.refl _ h).set (iN.2 (.inr (.inr (.inr (List.mem_of_getElem? he))))) _),.of rfl (aMO rfl) (aMP rfl) (xT rfl) (xT rfl) (xT (by rw[vH hx hv0,List.length_set])) (xT rfl)⟩
   rw[qY 135 aGG rfl];unfold aGG;dsimp only
   (exact RS9 j0 j1 j2 j3 hc call he5 a1 a2)
 | none =>
   obtain⟨h1,call,hl1,od1,fr1⟩:=ly.p.newp hx (by rw[List.length_map];exact hl)
   rw[List.length_map]at fr1
   obtain⟨g2,j2⟩:=aO (fr1.keepS k2 (ly.px_out (j:=5) o (by simp)))
   obtain⟨g3,j3⟩:=aO (fr1.keepS k3 (ly.px_out (j:=5) o (by simp)))
   obtain⟨g6,i0⟩:=aO (fr1.keepS k0 (ly.px_out (j:=5) o (by simp)))
   obtain⟨g7,i1⟩:=aO (fr1.keepS k1 (ly.px_out (j:=5) o (by simp)))
   obtain⟨g8,ic⟩:=aO (fr1.keepS ly.hc (ly.off (i:=0) (j:=5) (by decide) (by simp[px])))
   have hll:L.p.es.length=s.pans.length:=by rw[ly.p.ek,List.length_map]
   have he1:(L.p.es++[h.length+2])[s.pans.length]?=some (h.length+2):=by
    rw[←hll,List.getElem?_append_right (Nat.le_refl _)];simp
   obtain⟨g5,he5⟩:=aO (od1.he (i:=s.pans.length) (v:=[I 0]) he1 (by rw[List.getElem?_append_right (by simp)];simp))
   have a2:IntKind.i64.wrap (0+(a-b))=a-b:=by rw[bB (by omega) (by omega)];omega
   obtain⟨z1,z2⟩:=ly.newP (d:=a-b) (g:=g5) hx od1 fr1
   refine⟨_,_,?_,z1,rfl,Fr.px (j:=5) z2,.of rfl (aMO rfl) (aMP rfl) (xT rfl) (xT rfl) (fun b hb=>aLX hb) (xT rfl)⟩
   rw[qY 135 aGG rfl];unfold aGG;dsimp only
   (exact aHH j0 j1 j2 j3 i0 i1 ic hc call he5 a1 a2)
variable {h h' h1:XH} {L:CL} {s:dR} {x:ByteArray}
theorem aJz {α:Type} {l:List (ByteArray×α)} {i:Nat} (h:lN (l.map (·.1)) x=some i):∃ y,l[i]?=some (x,y):=by
 have h1:=tT h
 rw[List.getElem?_map,Option.map_eq_some_iff]at h1
 obtain⟨⟨a,y⟩,h2,rfl⟩:=h1
 exact⟨y,h2⟩
variable {h h' h1:XH} {L:CL} {s:dR} {x:ByteArray}
def aAz {α:Type} (f:α→α) (z:α) (x:ByteArray):List (ByteArray×α)→List (ByteArray×α)
 | []=>[(x,z)]
 | (k,v)::r=>if k=x then (k,f v)::r else (k,v)::aAz f z x r
def mtr (n:Int) (y:Int×Int):Int×Int:=(n,y.2+(n-y.1+100000)%100000)
variable {h h' h1:XH} {L:CL} {s:dR} {x:ByteArray}
theorem aCn {b n:Nat} (h:0<n):tZ b n = .sl b 0 1 n:=by
 unfold tZ;rw[if_neg (by omega)]
theorem Tk.at {tb:Nat} {te:List Nat} {ks:List CTk} (t:Tk h tb te ks) {i:Nat} {k:CTk} (hk:ks[i]?=some k):∃ e,te[i]?=some e∧aF h e=some (.cells true (tkC k))∧aF h tb=some (.cells true (te.map fun e=>.pt e 0))∧i<te.length:=by
 have hl:i<ks.length:=(List.getElem?_eq_some_iff.1 hk).1
 have h2:i<te.length:=by rw[t.el];exact hl
 have he:=List.getElem?_eq_getElem h2
 exact⟨_,he,t.he i _ k he hk,t.hb (by omega),h2⟩
variable {h h' h1:XH} {L:CL} {s:dR} {x:ByteArray}
def aAy (h:XH) (b n:Nat):XH:=if n=0 then h else h.set b none
theorem tQ {b n:Nat}:(aAy h b n).length=h.length:=by
 unfold aAy;split<;>simp
theorem aLK {b n j:Nat} (hj:j∉nV b n):aF (aAy h b n) j=aF h j:=by
 unfold aAy
 split
 ·rfl
 ·rename_i hn
  exact aBn fun q=>hj (eW.2 ⟨by omega,q⟩)
theorem Fr.off {J:List Nat} (f:Fr J h h1) {b n:Nat} (hb:∀ j,j∈nV b n→j∈J):Fr J h (aAy h1 b n):=by
 unfold aAy
 split
 ·exact f
 ·rename_i hn
  exact f.set (hb b (eW.2 ⟨by omega,rfl⟩)) _
theorem aON {h k:XH} (i:Nat):aJ (h++k) (h.length+i)=aJ k i:=by
 rw[Qu,if_neg (by omega)];congr 1;omega
def aNI (s:dR) (name owner:ByteArray) (full empty:Int):dR :=
 { s with wagons:=aAz id empty name s.wagons,farmers:=oQ s.farmers owner (full-empty),tickets:=s.tickets++[⟨name,owner,full-empty,false⟩] }

variable {h h' h1:XH} {L:CL} {s:dR} {x:ByteArray}
variable {f name t1 t2 owner:ByteArray} {z full empty z2:Int}
variable {h h' h1:XH} {L:CL} {s:dR} {x:ByteArray}
theorem rL:eZ .eql ⟨⟨[112,97,110]⟩⟩ ⟨⟨[102,97,114,109,101,114]⟩⟩=some (.bool false):=by kernel_rfl
theorem tA:eZ .eql ⟨⟨[112,97,110]⟩⟩ ⟨⟨[119,97,103,111,110]⟩⟩=some (.bool false):=by kernel_rfl
theorem vP:eZ .eql ⟨⟨[112,97,110]⟩⟩ ⟨⟨[118,111,105,100]⟩⟩=some (.bool false):=by kernel_rfl
theorem tD:eZ .eql ⟨⟨[112,97,110]⟩⟩ ⟨⟨[99,108,111,115,101]⟩⟩=some (.bool false):=by kernel_rfl
theorem tC:eZ .eql ⟨⟨[112,97,110]⟩⟩ ⟨⟨[109,101,116,101,114]⟩⟩=some (.bool false):=by kernel_rfl
theorem xU:eZ .eql ⟨⟨[112,97,110]⟩⟩ ⟨⟨[112,97,110]⟩⟩=some (.bool true):=by kernel_rfl
theorem xV:eZ .eql ⟨⟨[108,111,115,115]⟩⟩ ⟨⟨[102,97,114,109,101,114]⟩⟩=some (.bool false):=by kernel_rfl
theorem aAr:eZ .eql ⟨⟨[108,111,115,115]⟩⟩ ⟨⟨[119,97,103,111,110]⟩⟩=some (.bool false):=by kernel_rfl
theorem aBS:eZ .eql ⟨⟨[108,111,115,115]⟩⟩ ⟨⟨[118,111,105,100]⟩⟩=some (.bool false):=by kernel_rfl
theorem aAt:eZ .eql ⟨⟨[108,111,115,115]⟩⟩ ⟨⟨[99,108,111,115,101]⟩⟩=some (.bool false):=by kernel_rfl
theorem aAs:eZ .eql ⟨⟨[108,111,115,115]⟩⟩ ⟨⟨[109,101,116,101,114]⟩⟩=some (.bool false):=by kernel_rfl
theorem aCP:eZ .eql ⟨⟨[108,111,115,115]⟩⟩ ⟨⟨[112,97,110]⟩⟩=some (.bool false):=by kernel_rfl
theorem aKU {c:Nat} {z0:Int}:runW aB 61 [.pt c 0,.agg [.str ⟨⟨[108,111,115,115]⟩⟩,.fs [[.str x]],.fs [[I z0]]]] h=some (.nilfn,h++[some (.blk false (.cells true [.pt c 0])),some (.blk true (.cells true [.str ⟨⟨[108,111,115,115]⟩⟩,.fs [[.str x]],.fs [[I z0]]]))]):=by
 obtain⟨n,hn⟩:∃ n,h.length=n:=⟨_,rfl⟩
 rw[qY 61 x61 rfl,hn];unfold x61;dsimp only
 (exact RS7 hn xV aAr aBS aAt aAs aCP)
theorem aNM {c:Nat} {u1 u2:ByteArray} {z0 a b:Int} {v:AV} {h2:XH} (call:runW aB 94 [.pt c 0,.str x,I a,I b] (h++[some (.blk false (.cells true [.pt c 0])),some (.blk true (.cells true [.str ⟨⟨[112,97,110]⟩⟩,.fs [[.str x],[.str u1],[.str u2]],.fs [[I z0],[I a],[I b]]]))])=some (v,h2)) (p0:(aJ h2 h.length).isSome=true) (p1:(aJ h2 (h.length+1)).isSome=true):runW aB 61 [.pt c 0,.agg [.str ⟨⟨[112,97,110]⟩⟩,.fs [[.str x],[.str u1],[.str u2]],.fs [[I z0],[I a],[I b]]]] h=some (v,h2):=by
 obtain⟨n,hn⟩:∃ n,h.length=n:=⟨_,rfl⟩
 rw[hn]at p0 p1
 rw[qY 61 x61 rfl,hn];unfold x61;dsimp only
 (exact aHI hn call p0 p1 rL tA vP tD tC xU)
variable {h h' h1:XH} {L:CL} {s:dR} {x:ByteArray}
theorem aKz {c:Nat} {u1 u2:ByteArray} {z0 a b:Int} {v:AV} {h2:XH} (call:CalP Tryz.prog aB 94 [.pt c 0,.str x,I a,I b] (h++[some (.blk false (.cells true [.pt c 0])),some (.blk true (.cells true [.str ⟨⟨[112,97,110]⟩⟩,.fs [[.str x],[.str u1],[.str u2]],.fs [[I z0],[I a],[I b]]]))]) v h2):CalP Tryz.prog aB 61 [.pt c 0,.agg [.str ⟨⟨[112,97,110]⟩⟩,.fs [[.str x],[.str u1],[.str u2]],.fs [[I z0],[I a],[I b]]]] h v h2:=by
 obtain⟨n,hn⟩:∃ n,h.length=n:=⟨_,rfl⟩
 refine CalP.of (d:=x61) (e':=eD [] []) aW rfl (by simp[x61]) rfl ?_
 unfold x61;dsimp only
 refine PanX.seqR (K:=61) aW rfl [2,3] (vs:=[.pt n 0,.pt (n+1) 0]) (h1:=h++[some (.blk false (.cells true [.pt c 0])),some (.blk true (.cells true [.str ⟨⟨[112,97,110]⟩⟩,.fs [[.str x],[.str u1],[.str u2]],.fs [[I z0],[I a],[I b]]]))]) (by rw[hn]; (exact wN hn)) ?_
 refine PanX.seqL ?_
 refine PanX.seqR (K:=61) aW rfl [2,3,6] (vs:=[.pt n 0,.pt (n+1) 0,.str ⟨⟨[112,97,110]⟩⟩]) (h1:=h++[some (.blk false (.cells true [.pt c 0])),some (.blk true (.cells true [.str ⟨⟨[112,97,110]⟩⟩,.fs [[.str x],[.str u1],[.str u2]],.fs [[I z0],[I a],[I b]]]))]) (by (exact wN hn)) ?_
 refine PanX.block ?_
 refine PanX.seqR (K:=61) aW rfl [2,3,6,7] (vs:=[.pt n 0,.pt (n+1) 0,.str ⟨⟨[112,97,110]⟩⟩,.bool false]) (h1:=h++[some (.blk false (.cells true [.pt c 0])),some (.blk true (.cells true [.str ⟨⟨[112,97,110]⟩⟩,.fs [[.str x],[.str u1],[.str u2]],.fs [[I z0],[I a],[I b]]]))]) (by (exact wN rL)) ?_
 refine PanX.condF rfl ?_
 refine PanX.seqR (K:=61) aW rfl [2,3,6,35] (vs:=[.pt n 0,.pt (n+1) 0,.str ⟨⟨[112,97,110]⟩⟩,.bool false]) (h1:=h++[some (.blk false (.cells true [.pt c 0])),some (.blk true (.cells true [.str ⟨⟨[112,97,110]⟩⟩,.fs [[.str x],[.str u1],[.str u2]],.fs [[I z0],[I a],[I b]]]))]) (by (exact wN tA)) ?_
 refine PanX.condF rfl ?_
 refine PanX.seqR (K:=61) aW rfl [2,3,6,40] (vs:=[.pt n 0,.pt (n+1) 0,.str ⟨⟨[112,97,110]⟩⟩,.bool false]) (h1:=h++[some (.blk false (.cells true [.pt c 0])),some (.blk true (.cells true [.str ⟨⟨[112,97,110]⟩⟩,.fs [[.str x],[.str u1],[.str u2]],.fs [[I z0],[I a],[I b]]]))]) (by (exact wN vP)) ?_
 refine PanX.condF rfl ?_
 refine PanX.seqR (K:=61) aW rfl [2,3,6,48] (vs:=[.pt n 0,.pt (n+1) 0,.str ⟨⟨[112,97,110]⟩⟩,.bool false]) (h1:=h++[some (.blk false (.cells true [.pt c 0])),some (.blk true (.cells true [.str ⟨⟨[112,97,110]⟩⟩,.fs [[.str x],[.str u1],[.str u2]],.fs [[I z0],[I a],[I b]]]))]) (by (exact wN tD)) ?_
 refine PanX.condF rfl ?_
 refine PanX.seqR (K:=61) aW rfl [2,3,6,62] (vs:=[.pt n 0,.pt (n+1) 0,.str ⟨⟨[112,97,110]⟩⟩,.bool false]) (h1:=h++[some (.blk false (.cells true [.pt c 0])),some (.blk true (.cells true [.str ⟨⟨[112,97,110]⟩⟩,.fs [[.str x],[.str u1],[.str u2]],.fs [[I z0],[I a],[I b]]]))]) (by (exact wN tC)) ?_
 refine PanX.condF rfl ?_
 refine PanX.seqR (K:=61) aW rfl [2,3,6,74] (vs:=[.pt n 0,.pt (n+1) 0,.str ⟨⟨[112,97,110]⟩⟩,.bool true]) (h1:=h++[some (.blk false (.cells true [.pt c 0])),some (.blk true (.cells true [.str ⟨⟨[112,97,110]⟩⟩,.fs [[.str x],[.str u1],[.str u2]],.fs [[I z0],[I a],[I b]]]))]) (by (exact wN xU)) ?_
 refine PanX.condT rfl ?_
 refine PanX.seqL ?_
 exact PanX.regU (fr:=[]) (p:=[⟨0,(some 76),(.load false 1 (.t 2)),none⟩,⟨1,(some 77),(.fld 1 (.t 3)),none⟩,⟨2,(some 78),(.load false 1 (.t 77)),none⟩,⟨3,(some 79),(.idx 1 (.t 78) (.c (.int .i64 0))),none⟩,⟨4,(some 80),(.load false 1 (.t 79)),none⟩,⟨5,(some 81),(.fld 2 (.t 3)),none⟩,⟨6,(some 82),(.load false 1 (.t 81)),none⟩,⟨7,(some 83),(.idx 1 (.t 82) (.c (.int .i64 1))),none⟩,⟨8,(some 84),(.load false 1 (.t 83)),none⟩,⟨9,(some 85),(.fld 2 (.t 3)),none⟩,⟨10,(some 86),(.load false 1 (.t 85)),none⟩,⟨11,(some 87),(.idx 1 (.t 86) (.c (.int .i64 2))),none⟩,⟨12,(some 88),(.load false 1 (.t 87)),none⟩]) (post:=[⟨14,(some 4),(.mv (.t 89)),none⟩]) aW [] (g:=94) (first:=[]) (cap:=[]) (args:=[.pt c 0,.str x,I a,I b]) (vs:=[]) rfl rfl rfl (by (exact wN hn)) call
variable {h h' h1:XH} {L:CL} {s:dR} {x:ByteArray}
def Clo (n:Nat):ABlk→Prop
 | .cells _ xs=>∀ b cs,n≤b→uY b cs xs=xs
 | .map _ es=>∀ b cs,n≤b→(es.map fun p=>(uZ b cs p.1,uZ b cs p.2))=es
 | _=>False
def Frz (n:Nat) (h hh:XH):Prop:=∀ j c,aF h j=some c→Clo n c→aF hh j=some c
theorem Fr.frz (f:Fr [] h h') {n:Nat}:Frz n h h':=fun j c hc _=>f.keepS hc (by simp)
theorem Frz.trans {n:Nat} (a:Frz n h h1) (b:Frz n h1 h'):Frz n h h':=fun j c hc hn=>b j c (a j c hc hn) hn
theorem aLY {b j:Nat} {cs:List AV} {c:ABlk} (hc:aF h j=some c) (hn:Clo b c):aF (h.map (fzO b cs)) j=some c:=by
 obtain⟨g,hg⟩:=aO hc
 have h2:aJ (h.map (fzO b cs)) j=fzO b cs (aJ h j):=by
  unfold aJ
  rw[List.getD_eq_getElem?_getD,List.getD_eq_getElem?_getD,List.getElem?_map]
  cases h[j]?<;>rfl
 unfold aF
 rw[h2,hg]
 cases g with
 | true=>cases c<;>rfl
 | false=>cases c with
   | cells w xs=>show some (ABlk.cells w (uY b cs xs))=_;rw[hn b cs (Nat.le_refl _)]
   | map w es=>show some (ABlk.map w (es.map fun p=>(uZ b cs p.1,uZ b cs p.2)))=_;rw[hn b cs (Nat.le_refl _)]
   | _=>exact hn.elim
theorem Clo.mono {n b:Nat} {c:ABlk} (h:Clo n c) (hb:n≤b):Clo b c:=by
 cases c with
 | cells w xs=>exact fun b' cs hb'=>h b' cs (Nat.le_trans hb hb')
 | map w es=>exact fun b' cs hb'=>h b' cs (Nat.le_trans hb hb')
 | _=>exact h
theorem Frz.fz {n b:Nat} {cs:List AV} (hb:n≤b):Frz n h (h.map (fzO b cs)):=fun j c hc hn=>aLY hc (hn.mono hb)
theorem Frz.app {n:Nat} (f:Frz n h h') (k:XH):Frz n h (h'++k):=f.trans (Fr.app h' k).frz
theorem aQC {n:Int} (h : -9223372036854775808≤n∧n≤9223372036854775807):runW aB 57 [I n] []=some (.str ⟨⟨Lib.itoa n⟩⟩,[]):=by
 rw[p57];unfold uS;dsimp only;rw[if_pos h]
theorem aAq:eZ .eql ⟨⟨[108,111,115,115]⟩⟩ ⟨⟨[116,111,116,97,108]⟩⟩=some (.bool false):=by kernel_rfl
theorem aCO:eZ .eql ⟨⟨[108,111,115,115]⟩⟩ ⟨⟨[110,101,116]⟩⟩=some (.bool false):=by kernel_rfl
theorem aBP:eZ .eql ⟨⟨[108,111,115,115]⟩⟩ ⟨⟨[117,115,101,100]⟩⟩=some (.bool false):=by kernel_rfl
theorem aBQ:eZ .eql ⟨⟨[108,111,115,115]⟩⟩ ⟨⟨[108,111,115,115]⟩⟩=some (.bool true):=by kernel_rfl
theorem aKT (ly:Lays h L s) {z0:Int} {i:Nat} {y:Int} (hx:lN (s.pans.map (·.1)) x=some i) (hy:s.pans[i]?=some (x,y)) (hb : -9223372036854775808≤y∧y≤9223372036854775807):runW aB 62 [.pt L.c 0,.agg [.str ⟨⟨[108,111,115,115]⟩⟩,.fs [[.str x]],.fs [[I z0]]]] h=some (.str ⟨⟨Lib.itoa y⟩⟩,h++[some (.blk true (.cells true [.str ⟨⟨[108,111,115,115]⟩⟩,.fs [[.str x]],.fs [[I z0]]]))]):=by
 obtain⟨n,hn⟩:∃ n,h.length=n:=⟨_,rfl⟩
 obtain⟨g,hc⟩:=aO ly.hc
 unfold oP at hc
 have cn:(L.c<n)=True:=eq_true (by rw[←hn];exact bD ly.hc)
 obtain⟨e,v,he,hv,hev,call⟩:=(ly.ext [some (.blk true (.cells true [.str ⟨⟨[108,111,115,115]⟩⟩,.fs [[.str x]],.fs [[I z0]]]))]).p.getp hx
 rw[List.getElem?_map,hy]at hv
 cases hv
 have hev2:=ly.p.he he (v:=[I y]) (by rw[List.getElem?_map,hy];rfl)
 obtain⟨ge,hee⟩:=aO hev2
 have en:(e<n)=True:=eq_true (by rw[←hn];exact bD hev2)
 have c57:=aQC hb
 rw[qY 62 x62 rfl,hn];unfold x62;dsimp only
 (exact aHH hn hc cn call hee en c57 aAq aCO aBP aBQ aC)
variable {h h' h1:XH} {L:CL} {s:dR} {x:ByteArray}
theorem zJ {b:Nat} {cs:List AV}:∀ (l:List ByteArray),uY b cs (l.map .str)=l.map .str
 | []=>rfl
 | k::r=>by simp only[List.map_cons,uY,uZ,zJ r]
theorem aGl {b:Nat} {cs:List AV}:∀ (l:List Nat),uY b cs (l.map fun e=>.pt e 0)=l.map fun e=>.pt e 0
 | []=>rfl
 | k::r=>by simp only[List.map_cons,uY,uZ,aGl r]
theorem aEX {b k n:Nat} {cs:List AV} (hk:0<n→k<b):uZ b cs (tZ k n)=tZ k n:=by
 unfold tZ
 by_cases h:n=0
 ·rw[if_pos h];rfl
 ·rw[if_neg h]
  show (if k=b∧_ then _ else _)=_
  rw[if_neg (by have:=hk (by omega);omega)]
theorem aKa {b:Nat} {cs:List AV}:∀ (ks:List ByteArray) (es:List Nat),(ent ks es).map (fun p=>(uZ b cs p.1,uZ b cs p.2))=ent ks es
 | [],_=>rfl
 | _::_,[]=>rfl
 | k::ks,e::es=>congrArg (_ :: ·) (aKa ks es)
theorem Od.frz {l:OL} {ks:List ByteArray} {vs:List (List AV)} {t:Int} (od:Od h l ks vs t) (f:Frz h.length h h') (hv:∀ v∈vs,∀ b cs,uY b cs v=v):Od h' l ks vs t:=by
 refine⟨⟨fun p hp=>f p.1 p.2 (od.hd.1 p hp) ?_,od.hd.2⟩,od.ek,od.vk⟩
 unfold rV at hp
 rw[List.mem_cons,List.mem_cons,List.mem_append]at hp
 rcases hp with rfl|rfl|hp|hp
 ·intro b cs hb
  have:=od.lts.2.2.1
  simp only[uY,aEX (fun hk=>Nat.lt_of_lt_of_le (this hk) hb)]
  rfl
 ·exact fun b cs _=>aKa _ _
 ·unfold sBk at hp
  split at hp
  ·cases hp
  ·rw[List.mem_singleton]at hp
   subst hp
   exact fun b cs _=>zJ _
 ·obtain⟨i,e,v,_,h2,rfl⟩:=aFe hp
  exact fun b cs _=>hv v (List.mem_of_getElem? h2) b cs
theorem Lays.frz (ly:Lays h L s) (f:Frz h.length h h'):Lays h' L s where
 hc:=f _ _ ly.hc fun b cs hb=>by
  unfold oP
  simp only[uY,aEX (fun hk=>Nat.lt_of_lt_of_le (ly.tk.lts.1 hk) hb),aEX (fun hk=>Nat.lt_of_lt_of_le (bD (ly.bk hk)) hb)]
  rfl
 tk:=⟨ly.tk.el,fun hk=>f _ _ (ly.tk.hb hk) fun b cs _=>aGl _,fun i e k he hk=>f _ _ (ly.tk.he i e k he hk) fun b cs _=>rfl,ly.tk.nd,ly.tk.nb⟩
 bk hk:=f _ _ (ly.bk hk) fun b cs _=>zJ _
 f:=ly.f.frz f fun v hv b cs=>by obtain⟨p,_,rfl⟩:=List.mem_map.1 hv;rfl
 m:=ly.m.frz f fun v hv b cs=>by obtain⟨p,_,rfl⟩:=List.mem_map.1 hv;rfl
 p:=ly.p.frz f fun v hv b cs=>by obtain⟨p,_,rfl⟩:=List.mem_map.1 hv;rfl
 w:=ly.w.frz f fun v hv b cs=>by obtain⟨p,_,rfl⟩:=List.mem_map.1 hv;rfl
 dj:=ly.dj
end Go.Proofs.YtmapgnepfgnphaaGreatDoor
namespace Go.DL
def Cd (h:XH):Prop:=∀ x∈h,∀ b∈nmO x,b<h.length
end Go.DL
namespace Go.Proofs.YtmapgnepfgnphaaGreatDoor
open Go Go.DL
set_option maxRecDepth 100000
set_option maxHeartbeats 4000000
variable {h h' h1:XH} {L:CL} {s:dR} {x:ByteArray}
def aUc (s:dR):Int:=(s.farmers.map (·.2)).sum
inductive Wd where
 | farmer (x:ByteArray)
 | wagon (name owner:ByteArray) (full empty:Int)
 | void (i:Nat)
 | close
 | meter (x:ByteArray) (n:Int)
 | pan (x:ByteArray) (a b:Int)
 | net (x:ByteArray)
 | total
 | ticket (i:Nat)
 | used (x:ByteArray)
 | loss (x:ByteArray)
 | power (x:ByteArray)
def Wd.asks:Wd→Bool
 | .net _ | .total | .ticket _ | .used _ | .loss _ | .power _=>true
 | _=>false
def IsW:Wd→AV→Prop
 | .farmer x,v=>∃ z0:Int,v = .agg [.str ⟨⟨[102,97,114,109,101,114]⟩⟩,.fs [[.str x]],.fs [[I z0]]]
 | .wagon x y a b,v=>(0≤a∧a≤99999∧0≤b∧b≤99999∧x.size≤10∧y.size≤10)∧∃ (u1 u2:ByteArray) (z0 z1:Int),v = .agg [.str ⟨⟨[119,97,103,111,110]⟩⟩,.fs [[.str x],[.str u1],[.str u2],[.str y]],.fs [[I z0],[I a],[I b],[I z1]]]
 | .void i,v=>∃ u1:ByteArray,v = .agg [.str ⟨⟨[118,111,105,100]⟩⟩,.fs [[.str u1]],.fs [[I (i:Nat)]]]
 | .close,v=>v = .agg [.str ⟨⟨[99,108,111,115,101]⟩⟩,.fs [],.fs []]
 | .meter x n,v=>(0≤n∧n≤99999)∧∃ (u1:ByteArray) (z0:Int),v = .agg [.str ⟨⟨[109,101,116,101,114]⟩⟩,.fs [[.str x],[.str u1]],.fs [[I z0],[I n]]]
 | .pan x a b,v=>(0≤a∧a≤99999∧0≤b∧b≤99999)∧∃ (u1 u2:ByteArray) (z0:Int),v = .agg [.str ⟨⟨[112,97,110]⟩⟩,.fs [[.str x],[.str u1],[.str u2]],.fs [[I z0],[I a],[I b]]]
 | .net x,v=>∃ z0:Int,v = .agg [.str ⟨⟨[110,101,116]⟩⟩,.fs [[.str x]],.fs [[I z0]]]
 | .total,v=>v = .agg [.str ⟨⟨[116,111,116,97,108]⟩⟩,.fs [],.fs []]
 | .ticket i,v=>∃ u1:ByteArray,v = .agg [.str ⟨⟨[116,105,99,107,101,116]⟩⟩,.fs [[.str u1]],.fs [[I (i:Nat)]]]
 | .used x,v=>∃ z0:Int,v = .agg [.str ⟨⟨[117,115,101,100]⟩⟩,.fs [[.str x]],.fs [[I z0]]]
 | .loss x,v=>∃ z0:Int,v = .agg [.str ⟨⟨[108,111,115,115]⟩⟩,.fs [[.str x]],.fs [[I z0]]]
 | .power x,v=>∃ z0:Int,v = .agg [.str ⟨⟨[112,111,119,101,114]⟩⟩,.fs [[.str x]],.fs [[I z0]]]
def kP {α:Type} (l:List (ByteArray×α)) (x:ByteArray):Option α:=(lN (l.map (·.1)) x).bind fun i=>l[i]?.map (·.2)
theorem aAI {α:Type} {l:List (ByteArray×α)} {x:ByteArray}:kP l x=none↔lN (l.map (·.1)) x=none:=by
 unfold kP
 cases h:lN (l.map (·.1)) x with
 | none=>simp
 | some i =>
   obtain⟨y,hy⟩:=aJz h
   simp[hy]
theorem aGJ {α:Type} {l:List (ByteArray×α)} {x:ByteArray} {y:α} (h:kP l x=some y):∃ i,lN (l.map (·.1)) x=some i∧l[i]?=some (x,y):=by
 unfold kP at h
 cases hn:lN (l.map (·.1)) x with
 | none=>rw[hn]at h;cases h
 | some i =>
   obtain⟨z,hz⟩:=aJz hn
   rw[hn,Option.bind_some,hz]at h
   cases h
   exact⟨i,rfl,hz⟩
def sH (s:dR):Wd→Option Int
 | .farmer x=>if (kP s.farmers x).isSome then some 6 else if s.farmers.length=9 then some 15 else none
 | .wagon x y a b=>match kP s.farmers y with
   | none=>some 5
   | some _=>if ¬b≤a then some 10 else match kP s.wagons x with
     | none=>none
     | some e=>if e-500≤b∧b≤e+500 then none else some 22
 | .void i=>match s.tickets[i]? with
   | none=>some 5
   | some k=>if k.void then some 6 else if i<s.closed then some 23 else none
 | .close=>if s.closed<s.tickets.length then none else some 4
 | .meter x _=>if (kP s.meters x).isNone∧s.meters.length=5 then some 15 else none
 | .pan x a b=>if ¬b≤a then some 10 else if (kP s.pans x).isNone∧s.pans.length=5 then some 15 else none
 | _=>none
def doW (s:dR):Wd→dR
 | .farmer x=>{ s with farmers:=s.farmers++[(x,0)] }
 | .wagon x y a b=>aNI s x y a b
 | .void i=>match s.tickets[i]? with
   | none=>s
   | some k=>{ s with tickets:=s.tickets.set i { k with void:=true },farmers:=oQ s.farmers k.farmer (-k.net) }
 | .close=>{ s with closed:=s.tickets.length }
 | .meter x n=>{ s with meters:=aAz (mtr n) (n,0) x s.meters }
 | .pan x a b=>{ s with pans:=oQ s.pans x (a-b) }
 | _=>s
def aUb (l:List CTk) (x:ByteArray):Int:=(l.map fun k=>if k.farmer=x∧k.void=false then k.net else 0).sum
structure vJ (s:dR):Prop where
 book:s.book.length≤300
 nf:(s.farmers.map (·.1)).Nodup
 lf:s.farmers.length≤9
 lm:s.meters.length≤5
 lp:s.pans.length≤5
 lw:s.wagons.length≤s.book.length
 lt:s.tickets.length≤s.book.length
 cl:s.closed≤s.tickets.length
 bf:∀ p∈s.farmers,-(100000*s.book.length:Int)≤p.2∧p.2≤100000*s.book.length
 bm:∀ p∈s.meters,0≤p.2.1∧p.2.1≤99999∧0≤p.2.2∧p.2.2≤100000*s.book.length
 bp:∀ p∈s.pans,0≤p.2∧p.2≤100000*s.book.length
 bw:∀ p∈s.wagons,0≤p.2∧p.2≤99999
 bt:∀ k∈s.tickets,0≤k.net∧k.net≤99999∧k.farmer∈s.farmers.map (·.1)∧k.wagon.size≤10∧k.farmer.size≤10
 fs:∀ p∈s.farmers,p.2=aUb s.tickets p.1
variable {h h' h1:XH} {L:CL} {s:dR} {x:ByteArray} {w:Wd} {v:AV}
theorem aMe {α:Type} {l:List (ByteArray×α)} (h:¬((kP l x).isNone=true∧l.length=5)):(decide (lN (l.map (·.1)) x=none)&&decide (((l.map (·.1)).length:Int)=5))=false:=by
 rw[Bool.and_eq_false_iff,decide_eq_false_iff_not,decide_eq_false_iff_not,List.length_map]
 by_cases h1:lN (l.map (·.1)) x=none
 ·exact .inr fun h2=>h ⟨by rw[aAI.2 h1];rfl,by omega⟩
 ·exact .inl h1
theorem aKc {α:Type} {l:List (ByteArray×α)} (h:(kP l x).isNone=true∧l.length=5):(decide (lN (l.map (·.1)) x=none)&&decide (((l.map (·.1)).length:Int)=5))=true:=by
 rw[Bool.and_eq_true,decide_eq_true_iff,decide_eq_true_iff,List.length_map]
 refine⟨aAI.1 ?_,by omega⟩
 cases hv:kP l x with
 | none=>rfl
 | some _=>rw[hv]at h;cases h.1
theorem aFl {x:ByteArray} {a b:Int} (ly:Lays h L s) (hw:IsW (.pan x a b) v) {e:Int} (hc:sH s (.pan x a b)=some e):∃ h1,CalP Tryz.prog aB 61 [.pt L.c 0,v] h (.ifc 110 (.agg [I e])) h1∧Fr [] h h1:=by
 obtain⟨hb,u1,u2,z0,rfl⟩:=hw
 have ly2:=ly.ext [some (.blk false (.cells true [.pt L.c 0])),some (.blk true (.cells true [.str ⟨⟨[112,97,110]⟩⟩,.fs [[.str x],[.str u1],[.str u2]],.fs [[I z0],[I a],[I b]]]))]
 unfold sH at hc
 dsimp only at hc
 split at hc
 ·rename_i hle
  cases hc
  exact⟨_,aKz (aWX ly2 hle),(Fr.app h _).add _⟩
 ·rename_i hle
  split at hc
  ·rename_i hn
   cases hc
   exact⟨_,aKz (aWW ly2 (Classical.not_not.1 hle) (aKc hn)),(Fr.app h _).add _⟩
  ·cases hc
variable {h h' h1:XH} {L:CL} {s:dR} {x:ByteArray} {w:Wd} {v:AV}
theorem kX {h k:XH} (i:Nat) {g:Bool} {c:ABlk} (hk:k[i]?=some (some (.blk g c))):aF (h++k) (h.length+i)=some c:=by
 rw[gX,if_neg (by omega),show h.length+i-h.length=i by omega]
 unfold aF aJ
 rw[List.getD_eq_getElem?_getD,hk];rfl
theorem aLI (ly:Lays h L s) {bs:List Nat} (hb:∀ b∈bs,h.length≤b):Out L s bs:=fun b hm hp=>by
 obtain⟨j,hj⟩:=cF.1 hp
 have:=ly.lt j b hj
 have:=hb b hm
 omega
theorem aTI {h k:XH} (i:Nat) {c:XB} (hk:k[i]?=some (some c)):(aJ (h++k) (h.length+i)).isSome=true:=by
 rw[aON]
 unfold aJ
 rw[List.getD_eq_getElem?_getD,hk];rfl
theorem aKE {h k k2:XH} (i:Nat) {c:XB} (hk:k[i]?=some (some c)):(aJ ((h++k)++k2) (h.length+i)).isSome=true:=by
 rw[List.append_assoc]
 exact aTI i (c:=c) (by rw[List.getElem?_append_left (List.getElem?_eq_some_iff.1 hk).1];exact hk)
abbrev aME (g:Nat):Prop:=g=88∨g=92∨g=128∨g=130∨g=132∨g=135
def aGC (h:XH) (L:CL) (s:dR) (v:AV) (s':dR):Prop:=∃ (g:Nat) (caps:List AV) (h1:XH),runW aB 61 [.pt L.c 0,v] h=some (.fn (.func g) [] caps,h1)∧aME g∧Fr [] h h1 ∧
 ∃ h2 L2,runW aB g caps h1=some (.tup [],h2)∧Lays h2 L2 s'∧L2.c=L.c∧Fr (pxs L s) h1 h2∧Sb h1.length L s L2 s'
theorem aMq {x:ByteArray} {a b:Int} (ly:Lays h L s) (gs:vJ s) (hw:IsW (.pan x a b) v) (hc:sH s (.pan x a b)=none):aGC h L s v (doW s (.pan x a b)):=by
 have lbk:=gs.book
 obtain⟨hb,u1,u2,z0,rfl⟩:=hw
 have ly2:=ly.ext [some (.blk false (.cells true [.pt L.c 0])),some (.blk true (.cells true [.str ⟨⟨[112,97,110]⟩⟩,.fs [[.str x],[.str u1],[.str u2]],.fs [[I z0],[I a],[I b]]]))]
 unfold sH at hc
 dsimp only at hc
 split at hc
 ·cases hc
 ·rename_i hle
  have hle:=Classical.not_not.1 hle
  split at hc
  ·cases hc
  ·rename_i hn
   have ly3:=ly2.ext (sK L.c x a b)
   obtain⟨h2,L2,q1,q2,q3,q4,q5⟩:=aTY ly3 (b0:=_+0) (b1:=_+1) (b2:=_+2) (b3:=_+3) (a:=a) (b:=b) (x:=x) (aLI ly2 (by intro b hb;simp only[List.length_append,List.length_cons,List.length_nil,List.mem_cons,List.not_mem_nil,or_false]at hb ⊢;omega)) (kX 0 rfl) (kX 1 rfl) (kX 2 rfl) (kX 3 rfl) (by omega) (fun p hp=>by have:=gs.bp p hp;omega) (by have:=gs.lp;omega)
   exact⟨135,_,_,aNM (w94 ly2 hle (aMe hn)) (aKE 0 rfl) (aKE 1 rfl),by decide,(Fr.app h _).add _,h2,L2,q1,q2,q3,q4,q5⟩
end Go.Proofs.YtmapgnepfgnphaaGreatDoor
namespace Go.Proofs.YtmapgnepfgnphaaGreatDoor
open Go Go.DL Go.Proofs.Tryz
set_option maxRecDepth 10000
section
variable {B:Base} {D:Nat→Option XFn} {Y:Nat→Option YI} {r:Nat→Option Nat} {h:XH} {H:Hp} {F:Nat→Prop} {w:World}
theorem pG (ok:XOk prog D) (B:Base) (Y:Nat→Option YI) (hY:YOk prog B D Y):Go.DL.FnS prog B D Y (runW D)∧YS prog B D Y (runYW D):=by
 refine⟨fun r h H K xs as' v h' sh hA hx=>?_,fun r h H fv fv' xs as' v h' sh hfv hA hx=>?_⟩
 ·obtain⟨n,hn⟩:=eA.1 hx
  exact(kI ok n B Y hY).1 r h H K xs as' v h' sh hA hn
 ·obtain⟨n,hn⟩:=qL.1 hx
  exact(kI ok n B Y hY).2 r h H fv fv' xs as' v h' sh hfv hA hn
theorem aKi {i:aAD} (sh:SH D Y r h H) {r1:Nat→Option Nat} {e1 env1:aD} {h1:XH} {H1:Hp} (ha:Agree h.length r r1) (sr:SR D Y r1 e1 h1 env1 H1) {v:AV} (hx:fD i.res e1 (aF h1)=some v) :
 ∃ v1,fD i.res env1 H1=some v1∧∃ v' H'',Shift (upd anyE 0 v1) H1 (upd anyE 0 v') H''∧bR D Y r v h1 v' H'':=by
 obtain⟨v0',k1,k2⟩:=wS sr hx
 exact⟨v0',k1,v0',H1,fun F w a st re=>⟨F,Ext.refl _ _ _,st,re⟩,r1,fun b c hb=>ha b c (sh.dom b c hb) hb,sr.sh,k2⟩
def aKP (D:Nat→Option XFn) (d:XFn) (c o k:Nat) (e:aD) (h1 h3:XH) (v:AV):Prop :=
 (∃ x e2 h2,(∀ id,x ≠ .exit id)∧execW D 21 k none b21 e h1=some (x,e2,h2)∧nA saySay (runW D) (runYW D) (.pt c o) saySay.zero false h2=some h3∧fD saySay.res e2 (aF h3)=some v) ∨
 (∃ v0 e2 h2,PanX prog D d k b21 e h1 (.ifc 110 v0) e2 h2∧nA saySay (runW D) (runYW D) (.pt c o) v0 true h2=some h3∧fD saySay.res e2 (aF h3)=some v)
theorem aFI (ok:XOk prog D) {d21:XFn} (hD:D 21=some d21) (hN:d21.N=41) {xs as':List AV} {v:AV} {h1 h3:XH} {e1:aD} {c o:Nat} (hlen:xs.length≤41)
 (hx1:dM (runW D) (runYW D) saySay.pre (aM (jJ xs)) h=some (e1,h1)) (he1:e1 4 = .pt c o) (hc:c<h1.length) (hbody:aKP D d21 c o h1.length (upd e1 7 .any) h1 h3 v) (hY:YOk prog B D Y) (sh:SH D Y r h H) (hA:RnL D Y r xs as'):FnW B prog 21 as' H (bR D Y r v h3):=by
 have hm:=ok.mixed
 obtain⟨hf,hy⟩:=pG ok B Y hY
 have hA1:=hA.nz
 refine FnW.nz (FnW.shift ⟨fun vs w=>call21 vs w,fun F w vs hB st hAr=>?_⟩)
 have hsz:(vs++Array.replicate (f21.ntmps-vs.size) undef).size=41:=by
  have h1:=hAr.1
  have h2:=hA1.1
  rw[fJ,List.length_map]at h2
  have:xs.length≤41:=hlen
  rw[aNl];simp;omega
 have hre:=uJ (N:=41) (nt:=f21.ntmps-vs.size) hB hAr
 have RS0:=fB (P:=prog) (B:=B) hf hy saySay.pre r _ h _ H e1 h1 (fun env' H'=>∃ r',DL.Sub r r'∧SR D Y r' e1 h1 env' H') rfl ⟨sh,gN hA1⟩ hx1 (fun r' env' H' hs sr'=>⟨r',hs,sr'⟩)
 refine callsIn_of_wp_marks func21 aKA trivial (wpIn_seq (iE (B:=B) (r:=none) (N:=41) (draw:=false) hm aNk hsz hB st hre RS0 ?_))
 rintro a1 F1 w1 env1 H1 p1 p2 p3 p4 p5 ⟨r1,p6,p7⟩
 show (Code.seq (.region 1 r21_1 false) code21).wpIn Fence.wide 0 prog _ a1 w1
 have hB1:=hB.step st p3
 have h4:=p7.re 4
 have he1':e1 4 = .pt c o:=he1
 rw[he1']at h4
 obtain⟨b,hrb,henv4⟩:∃ b,r1 c=some b∧env1 4 = .pt b o:=by
  generalize env1 4=z at h4
  cases h4 with
  | pt _ b _ hb=>exact⟨b,hb,rfl⟩
 refine wpIn_seq (wpIn_region ?_)
 rw[aQM,show List.range 2=[0,1] from rfl,wpOpsIn_cons]
 obtain⟨o0,g1,g2⟩:=aOC
 obtain⟨o1,k1,k2,k3,k4⟩:=aTE
 refine xP (r:=none) (B:=B) (N:=41) (K:=fun env' H'=>env'=aP env1 (some 7) (.fn (.func 56) [] [.pt b o])∧H'=H1) (fG g1 g2) rfl (fun k hk=>by simp at hk;omega) p1 hB1 p4 p5 ?_ ?_
 ·rw[aDk,kA rfl]
  simp only[aA,List.map_nil,List.map_cons,aG,henv4,optW_some,eP]
  exact⟨by trivial,by trivial⟩
 rintro a2 F2 w2 env2 H2 s1 s2 s3 s4 s5 ⟨rfl,rfl⟩
 rw[wpOpsIn_cons]
 unfold wpOpIn
 simp only[k1]
 have hw:Region.wanted o1 (yielded r21_1 a2.tmps)=true:=by unfold Region.wanted;rw[k3]
 rw[if_pos hw]
 have h7:a2.eval (.tmp 7) = .func (.func 56) #[] #[.pointer (some ⟨b,o,none⟩)]:=by
  have:=s5.rv 7
  simp only[aP,upd,if_true]at this
  show a2.tmps.getD 7 undef=_
  generalize a2.tmps.getD 7 undef=z at this
  cases this with
  | fn _ _ _ fv cv hl1 hl2 q1 q2 =>
    have e1:fv = #[]:=by
     rcases fv with ⟨_|⟨a,l⟩⟩
     ·rfl
     ·simp at hl1
    have e2:cv = #[.pointer (some ⟨b,o,none⟩)]:=by
     rcases cv with ⟨_|⟨a,_|⟨a',l⟩⟩⟩
     ·simp at hl2
     ·have:=q2 0 _ a rfl rfl
      cases this;rfl
     ·simp at hl2
    rw[e1,e2]
 refine⟨fun _ _=>trivial,?_⟩
 have hsem:(o1.semAt Fence.wide.round a2.eval).run prog w2 = .ok (.defer { target:=.fn (.func 56) #[.pointer (some ⟨b,o,none⟩)],args := #[] }) w2:=by
  have:Fence.wide.round=none:=rfl
  rw[this,Oper.semAt_none]
  simp[execOp,resolve,k4,h7,Deferred.ofValue]
 rw[hsem,Oper.uponIn_defer,k2]
 have hdf:a2.defers=[]:=by rw[s2,p2]
 obtain⟨T,hT⟩:∃ T:List Deferred,T=[{ target:=.fn (.func 56) #[.pointer (some ⟨b,o,none⟩)],args := #[] }]:=⟨_,rfl⟩
 have hact:Act.put { a2 with defers:={ target:=.fn (.func 56) #[.pointer (some ⟨b,o,none⟩)],args := #[] }::a2.defers } none undef={ tmps:=a2.tmps,defers:=T }:=by
  rw[hdf,hT];rfl
 rw[hact]
 show code21.wpIn Fence.wide 0 prog _ { tmps:=a2.tmps,defers:=T } w2
 have hB2:=hB1.step p4 s3
 have E2:=p3.trans s3
 have sr2:SR D Y r1 (upd e1 7 .any) h1 (aP env1 (some 7) (.fn (.func 56) [] [.pt b o])) H2:=⟨p7.sh,fun j=>by
  simp only[upd,aP]
  split
  ·exact .any _
  ·exact p7.re j⟩
 have ag1:Agree h.length r r1:=p6.agree _
 have out:∀ (F':Nat→Prop) (w':World) (H':Hp) (env':aD) (tmps:Array Value) (ds:List Deferred) (r3:Nat→Option Nat) (e2:aD) (h2:XH) (u:FrameMode) (v0 v0':AV) (t:Bool) (cval:Value),u ≠ .run→Ext F w H F' w' H'→St F' w' H'→RE F' w' env' { tmps:=tmps,defers:=[] } →
  Mk w2.heap.size T F' H' w' ds→Agree h1.length r1 r3→SR D Y r3 e2 h2 env' H'→Rn D Y r3 v0 v0'→nA saySay (runW D) (runYW D) (.pt c o) v0 t h2=some h3→fD saySay.res e2 (aF h3)=some v →
  ((t=true∧u = .panicking (pnc cval)∧Rv F' w' (.ifc 110 v0') cval)∨(t=false∧u = .returning∧v0' = .agg [.int .i64 0])) →
  LeavesInM Fence.wide 0 prog f21 tmps (oT F w H fun v1 H1=>∃ v' H'',Shift (upd anyE 0 v1) H1 (upd anyE 0 v') H''∧bR D Y r v h3 v' H'') ds u w':=by
  intro F' w' H' env' tmps ds r3 e2 h2 u v0 v0' t cval hu he st' re' mk ag sr3 hv0 hh hret hcase
  obtain⟨ms,q1,q2,q3⟩:=mk.ex
  rw[q1]
  refine rN (env:=env') (S:=fun w'=>(t=true∧u = .panicking (pnc cval)∧Rv F' w' (.ifc 110 v0') cval)∨(t=false∧u = .returning∧v0' = .agg [.int .i64 0])) (fun w w' hu hs=>?_) hu E2.le (fun w'' hs'' he' st'' re''=>?_) ms w' hcase he st' re' q2 q3
  ·rcases hs with ⟨a1,a2,a3⟩|hs
   ·exact .inl ⟨a1,a2,a3.up hu⟩
   ·exact .inr hs
  rw[hT]
  refine⟨hu,.inr ⟨fun hd=>by simp[Fence.wide]at hd,_,_,56,#[.pointer (some ⟨b,o,none⟩)],rfl,?_,fun _ _=>trivial,?_⟩⟩
  ·have:=call56 #[Value.pointer (some ⟨b,o,none⟩)] w''
   first|exact this|simpa [invoke]using this
  ·refine aJW hf hy hm (hB.step st he') st'' sr3.sh (ag c b hc hrb) rfl rfl rfl hv0 hh hs'' ?_
   intro F4 w4 H4 r4 u' hset t2 t3 t4 t5
   show LeavesInM Fence.wide 0 prog f21 tmps _ [] (settle u') w4
   rw[hset]
   have re4:RE F4 w4 env' { tmps:=tmps,defers:=[] }:=re''.up (t2.up st'')
   have sr4:SR D Y r4 e2 h3 env' H4:=⟨t5,fun j=>(sr3.re j).mono t4⟩
   have ag4:Agree h.length r r4:=fun b1 c1 hb1 hr1=>t4 _ _ (ag b1 c1 (p7.sh.dom b1 c1 (p6 b1 c1 hr1)) (p6 b1 c1 hr1))
   obtain⟨v1,x1,x2⟩:=aKi sh ag4 sr4 hret
   obtain⟨cv,y1,y2⟩:=pF t3 re4 aMT x1
   exact⟨cv,y1,cv,v1,F4,H4,rfl,he'.trans t2,t3,y2,x2⟩
 rcases hbody with ⟨x,e2,h2,hne,hex,hh,hret⟩|⟨v0,e2,h2,hpan,hh,hret⟩
 ·have hWD:=pV (Q:=fun x' env3 H3=>x'=x∧∃ r3,Agree h1.length r1 r3∧SR D Y r3 e2 h2 env3 H3) ok hD hex hY aLJ (aN aLL) sr2 (fun r' env' H' ha sr'=>⟨rfl,r',ha,sr'⟩)
  have hW:=hWD code21 (by rw[hN];exact rA) F2 w2 { tmps:=a2.tmps,defers:=T } w2.heap.size T hB2 (Nat.le_refl _) (by rw[hN];exact s1) s4 s5 Mk.nil
  refine wpIn_mono hW ?_
  rintro e a' w' ⟨x',env',F',H',z1,z2,z3,z4,z5,z6,rfl,r3,z7,z8⟩
  have fin:=fun(hu:True)=>out F' w' H' env' a'.tmps a'.defers r3 e2 h2 .returning _ _ false undef (by simp) (E2.trans z3) z4 z5 z6 z7 z8 ((pM saySay.zero rfl)) hh hret (.inr ⟨rfl,rfl,rfl⟩)
  cases e with
  | normal=>exact fin trivial
  | ret=>exact fin trivial
  | exit id=>simp only at z1;subst z1;exact(hne id rfl).elim
  | goto l=>exact z1.elim
  | panic c=>exact z1.elim
  | outgrown=>exact z1.elim
 ·have hWD:=hpan aLJ (aN aLL) B Y r1 _ _ (fun v' env3 H3=>∃ r3,Agree h1.length r1 r3∧SR D Y r3 e2 h2 env3 H3∧Rn D Y r3 (.ifc 110 v0) v') hY sr2 (fun r' v' env' H' ha sr' hv'=>⟨r',ha,sr',hv'⟩)
  have hW:=hWD code21 (by rw[hN];exact rA) F2 w2 { tmps:=a2.tmps,defers:=T } w2.heap.size T hB2 (Nat.le_refl _) (by rw[hN];exact s1) s4 s5 Mk.nil
  refine wpIn_mono hW ?_
  rintro e a' w' ⟨cv,vv,env',F',H',rfl,z3,z4,z5,z9,z6,r3,z7,z8,ZE⟩
  cases ZE with
  | ifc _ _ v0' hv0' =>
  exact out F' w' H' env' a'.tmps a'.defers r3 e2 h2 (.panicking (pnc cv)) v0 v0' true cv (by simp) (E2.trans z3) z4 z5 z6 z7 z8 hv0' hh hret (.inl ⟨rfl,rfl,z9⟩)
end
end Go.Proofs.YtmapgnepfgnphaaGreatDoor
namespace Go.Proofs.YtmapgnepfgnphaaGreatDoor
open Go Go.DL
set_option maxRecDepth 100000
set_option maxHeartbeats 4000000
variable {h h' h1 h2:XH} {L:CL} {s:dR} {x line:ByteArray} {w:Wd} {v:AV}
theorem w59 (ly:Lays h L s):runW aB 59 [.pt L.c 0] h=some (.bool false,h):=by
 obtain⟨g,hc⟩:=aO ly.hc
 unfold oP at hc
 rw[qY 59 x59 rfl];unfold x59;dsimp only
 (exact wN hc)
theorem aBC (run:bZ) (runY:cV) (ops:List DOper) (e:aD) (h:XH):dM run runY ops e h=xo none run runY ops e h:=rfl
theorem aGh {n:Nat}:nA saySay (runW aB) (runYW aB) (.pt n 0) saySay.zero false h=some (h++[some (.blk true (.cells true [I 0]))]):=by
 unfold nA saySay kY rZ vZ
 dsimp only
 rw[aBC]
 obtain⟨k,hk⟩:∃ n,h.length=n:=⟨_,rfl⟩
 (exact wN hk)
def wG:List Int:=[2,4,5,6,8,9,10,13,14,15,22,23]
def yX (e:Int):ByteArray:=(⟨⟨[110,111,32]⟩⟩:ByteArray)++⟨⟨Lib.itoa e⟩⟩
theorem aLM {e:Int} (he:e∈wG):eZ .add ⟨⟨[110,111,32]⟩⟩ ⟨⟨Lib.itoa e⟩⟩=some (.str (yX e))∧(-9223372036854775808≤e∧e≤9223372036854775807):=by
 have h0:e=2∨e=4∨e=5∨e=6∨e=8∨e=9∨e=10∨e=13∨e=14∨e=15∨e=22∨e=23:=by simpa [wG]using he
 rcases h0 with rfl|rfl|rfl|rfl|rfl|rfl|rfl|rfl|rfl|rfl|rfl|rfl
 all_goals exact⟨by kernel_rfl,by decide⟩
theorem aDz {n:Nat} {g:Bool} {a:ByteArray} {e:Int} (hn:aJ h n=some (.blk g (.cells true [.str a]))) (he:e∈wG):nA saySay (runW aB) (runYW aB) (.pt n 0) (.agg [I e]) true h=some ((h.set n (some (.blk g (.cells true [.str (yX e)]))))++[some (.blk true (.cells true [I e]))]):=by
 unfold nA saySay kY rZ qT vZ
 dsimp only
 rw[aBC]
 obtain⟨k,hk⟩:∃ n,h.length=n:=⟨_,rfl⟩
 obtain⟨sa,hbe⟩:=aLM he
 have c57:=aQC (n:=e) hbe
 have nk:(n<k)=True:=eq_true (by rw[←hk];exact bD (aJU hn))
 (exact RS6 hk hn nk c57 aBC sa)
def xR (c n:Nat) (line:ByteArray):aD:=upd (upd (aM [.pt c 0,.str line]) 4 (.pt n 0)) 7 .any
def eR:XH:=[some (.blk true (.cells true [.str ⟨⟨[]⟩⟩]))]
theorem IsW.shape (hw:IsW w v):∃ f r1 r2,v = .agg [.str f,.fs r1,.fs r2]:=by
 cases w with
 | farmer x=>obtain⟨_,rfl⟩:=hw;exact⟨_,_,_,rfl⟩
 | wagon x y a b=>obtain⟨_,_,_,_,_,rfl⟩:=hw;exact⟨_,_,_,rfl⟩
 | void i=>obtain⟨_,rfl⟩:=hw;exact⟨_,_,_,rfl⟩
 | close=>cases hw;exact⟨_,_,_,rfl⟩
 | meter x n=>obtain⟨_,_,_,rfl⟩:=hw;exact⟨_,_,_,rfl⟩
 | pan x a b=>obtain⟨_,_,_,_,rfl⟩:=hw;exact⟨_,_,_,rfl⟩
 | net x=>obtain⟨_,rfl⟩:=hw;exact⟨_,_,_,rfl⟩
 | total=>cases hw;exact⟨_,_,_,rfl⟩
 | ticket i=>obtain⟨_,rfl⟩:=hw;exact⟨_,_,_,rfl⟩
 | used x=>obtain⟨_,rfl⟩:=hw;exact⟨_,_,_,rfl⟩
 | loss x=>obtain⟨_,rfl⟩:=hw;exact⟨_,_,_,rfl⟩
 | power x=>obtain⟨_,rfl⟩:=hw;exact⟨_,_,_,rfl⟩
def wB (f:ByteArray) (r1 r2:List (List AV)):XH:=[some (.blk true (.cells true [.str ⟨⟨[]⟩⟩])),some (.blk true (.cells true [.str f,.fs r1,.fs r2]))]
theorem Lays.bookNew (ly:Lays h L s) {n m:Nat} {line a:ByteArray} {g g1 g2 g3:Bool} {cs:List AV} (hm:h.length=m) (hn:n∉pxs L s) (hnl:n<m) (hcs:cs=oP { L with kb:=m+1 } { s with book:=s.book++[line] }) (hh:h'=((aAy h L.kb s.book.length).set L.c (some (.blk g (.cells true cs)))).set n (some (.blk g3 (.cells true [.str a])))++[some (.blk g1 (.cells true [.str line])),some (.blk g2 (.cells true (s.book.map .str++[.str line])))]) :
 Lays h' { L with kb:=m+1 } { s with book:=s.book++[line] }∧aF h' n=some (.cells true [.str a]):=by
 subst hm hcs
 have cl:=bD ly.hc
 have cn:L.c≠n:=fun q=>hn (cF.2 ⟨0,by simp[px,q]⟩)
 have hl:(((aAy h L.kb s.book.length).set L.c (some (.blk g (.cells true (oP { L with kb:=h.length+1 } { s with book:=s.book++[line] }))))).set n (some (.blk g3 (.cells true [.str a])))).length=h.length:=by rw[List.length_set,List.length_set,tQ]
 have l1:Lays (h.set n (some (.blk g3 (.cells true [.str a])))) L s:=ly.fr ((Fr.refl [n] h).set (by simp) _) fun j b hb hm=>hn (by rw[List.mem_singleton]at hm;rw[←hm];exact cF.2 ⟨j,hb⟩)
 have fr:Fr (L.c::nV L.kb s.book.length) (h.set n (some (.blk g3 (.cells true [.str a])))) h':=by
  refine⟨fun b hb hnm=>?_,?_⟩
  ·rw[List.length_set]at hb
   rw[hh,gX,hl,if_pos hb,cM,cM]
   rw[List.mem_cons,not_or]at hnm
   by_cases hbn:b=n
   ·rw[if_pos hbn,if_pos (by rw[List.length_set,tQ];exact hnl),cM,if_pos hbn,if_pos hnl]
   ·rw[if_neg hbn,if_neg hnm.1,aLK hnm.2,cM,if_neg hbn]
  ·rw[hh,List.length_append,hl,List.length_set];simp
 refine⟨l1.bookApp (kb':=h.length+1) (by rw[List.length_set];omega) ?_ ?_ fr,?_⟩
 ·rw[hh,gX,hl,if_pos cl,cM,if_neg cn,cM,if_pos rfl,if_pos (by rw[tQ];exact cl)]
 ·rw[hh,gX,hl,if_neg (by omega),show h.length+1-h.length=1 by omega];rfl
 ·rw[hh,gX,hl,if_pos hnl,cM,if_pos rfl,if_pos (by rw[List.length_set,tQ];exact hnl)]
theorem aDO {L:List Nat} {r:Option (DX×aD×XH)} {x:DX} {vs:List AV} {h:XH} (hx:zV L r=some (x,vs,h)):∃ e,r=some (x,e,h)∧L.map e=vs:=by
 unfold zV at hx
 rw[Option.map_eq_some_iff]at hx
 obtain⟨⟨x1,e,h2⟩,rfl,he⟩:=hx
 simp only[Prod.mk.injEq]at he
 obtain⟨rfl,rfl,rfl⟩:=he
 exact⟨e,rfl,rfl⟩
theorem aLu {n m:Nat} {f:ByteArray} {r1 r2:List (List AV)} {L3:CL} {s3:dR} (ly:Lays h L s) (hn:h.length=n) (hp:runW aB 60 [.str line] []=some (.agg [.str f,.fs r1,.fs r2],[])) {g:Nat} {caps:List AV} {hc h3:XH} (call:runW aB 61 [.pt L.c 0,.agg [.str f,.fs r1,.fs r2]] (h++wB f r1 r2)=some (.fn (.func g) [] caps,hc)) (hg:aME g) (call2:runW aB g caps hc=some (.tup [],h3)) (hlt:s.book.length<300)
 (lyc:Lays hc L s) (ly3:Lays h3 L3 s3) (hL:L3.c=L.c) (hb:s3.book.length=s.book.length) (h3n:aF h3 n=some (.cells true [.str ⟨⟨[]⟩⟩])) (hm:h3.length=m) (nn:n∉pxs L3 s3) (hk:s.book.length=0) :
 ∃ h4,zV [0,1,4] (execW aB 21 (n+1) none b21 (xR L.c n line) (h++eR))=some (.ret,[.pt L.c 0,.str line,.pt n 0],h4)∧Lays h4 { L3 with kb:=m+1 } { s3 with book:=s3.book++[line] }∧aF h4 n=some (.cells true [.str ⟨⟨[111,107]⟩⟩]):=by
 have c59:=w59 (ly.ext eR)
 have m1:=w58 9
 have m2:=w58 15
 obtain⟨gc,hcc⟩:=aO lyc.hc
 obtain⟨g3,h3c⟩:=aO ly3.hc
 obtain⟨gn,h3n'⟩:=aO h3n
 rw[hL]at h3c
 unfold oP at hcc h3c
 have cm:(L.c<m)=True:=eq_true (by rw[←hm,←hL];exact bD ly3.hc)
 have nm0:n<m:=by rw[←hm];exact bD h3n
 have nm:(n<m)=True:=eq_true nm0
 have cn:(L.c=n)=False:=eq_false fun q=>nn (cF.2 ⟨0,by simp[px,hL,q]⟩)
 have nc:(n=L.c)=False:=eq_false fun q=>nn (cF.2 ⟨0,by simp[px,hL,q]⟩)
 have hv:tZ L.kb s.book.length = .nilsl:=by rw[hk];rfl
 have hv3:tZ L3.kb s3.book.length = .nilsl:=by rw[hb,hk];rfl
 rw[hv]at hcc
 rw[hv3]at h3c
 refine⟨(h3.set L.c (some (.blk false (.cells true [.pt L3.f.o 0,.pt L3.m.o 0,.pt L3.p.o 0,.pt L3.w.o 0,tZ L3.tb s3.tickets.length,I s3.closed,.sl (m+1) 0 1 1])))).set n (some (.blk gn (.cells true [.str ⟨⟨[111,107]⟩⟩])))++[some (.blk true (.cells true [.str line])),some (.blk true (.cells true [.str line]))],?_,ly3.bookNew (g:=false) (g1:=true) (g2:=true) (g3:=gn) (cs:=_) hm nn nm0 rfl ?_⟩
 ·unfold b21 xR eR wB at *
  rcases hg with rfl|rfl|rfl|rfl|rfl|rfl
  all_goals (exact aXd hn c59 m1 hp call call2 m2 hcc h3c h3n' hm cm nm cn nc aC aC)
 ·rw[hL]
  have hb0:s3.book=[]:=List.eq_nil_of_length_eq_zero (by omega)
  simp[aAy,oP,tZ,hb0]
theorem aLv {n m:Nat} {f:ByteArray} {r1 r2:List (List AV)} {L3:CL} {s3:dR} (ly:Lays h L s) (hn:h.length=n) (hp:runW aB 60 [.str line] []=some (.agg [.str f,.fs r1,.fs r2],[])) {g:Nat} {caps:List AV} {hc h3:XH} (call:runW aB 61 [.pt L.c 0,.agg [.str f,.fs r1,.fs r2]] (h++wB f r1 r2)=some (.fn (.func g) [] caps,hc)) (hg:aME g) (call2:runW aB g caps hc=some (.tup [],h3)) (hlt:s.book.length<300)
 (lyc:Lays hc L s) (ly3:Lays h3 L3 s3) (hL:L3.c=L.c) (hb:s3.book.length=s.book.length) (h3n:aF h3 n=some (.cells true [.str ⟨⟨[]⟩⟩])) (hm:h3.length=m) (nn:n∉pxs L3 s3) (hk:0<s.book.length) :
 ∃ h4,zV [0,1,4] (execW aB 21 (n+1) none b21 (xR L.c n line) (h++eR))=some (.ret,[.pt L.c 0,.str line,.pt n 0],h4)∧Lays h4 { L3 with kb:=m+1 } { s3 with book:=s3.book++[line] }∧aF h4 n=some (.cells true [.str ⟨⟨[111,107]⟩⟩]):=by
 have c59:=w59 (ly.ext eR)
 have m1:=w58 9
 have m2:=w58 15
 obtain⟨gc,hcc⟩:=aO lyc.hc
 obtain⟨g3,h3c⟩:=aO ly3.hc
 obtain⟨gn,h3n'⟩:=aO h3n
 rw[hL]at h3c
 unfold oP at hcc h3c
 have cm:(L.c<m)=True:=eq_true (by rw[←hm,←hL];exact bD ly3.hc)
 have nm0:n<m:=by rw[←hm];exact bD h3n
 have nm:(n<m)=True:=eq_true nm0
 have cn:(L.c=n)=False:=eq_false fun q=>nn (cF.2 ⟨0,by simp[px,hL,q]⟩)
 have nc:(n=L.c)=False:=eq_false fun q=>nn (cF.2 ⟨0,by simp[px,hL,q]⟩)
 have hk3:0<s3.book.length:=by omega
 rw[aCn hk]at hcc
 rw[aCn hk3]at h3c
 have hbb:=ly3.bk hk3
 obtain⟨gb,h3b⟩:=aO hbb
 have bp:L3.kb∈px L3 s3 2:=eW.2 ⟨hk3,rfl⟩
 have bm:(L3.kb<m)=True:=eq_true (by rw[←hm];exact bD hbb)
 have bn:(L3.kb=n)=False:=eq_false fun q=>nn (cF.2 ⟨2,q▸bp⟩)
 have nb:(n=L3.kb)=False:=eq_false fun q=>nn (cF.2 ⟨2,q▸bp⟩)
 have bc:(L3.kb=L.c)=False:=eq_false fun q=>ly3.off (i:=2) (j:=0) (by decide) bp (by simp[px,hL,q])
 have cb:(L.c=L3.kb)=False:=eq_false fun q=>ly3.off (i:=2) (j:=0) (by decide) bp (by simp[px,hL,q])
 have t1:((s.book.length:Int)<300)=True:=eq_true (by omega)
 have z1:((s3.book.length+1)*16≤1099511627776)=True:=eq_true (by omega)
 have z2:(s3.book.length+1≤1099511627776)=True:=eq_true (by omega)
 refine⟨((h3.set L3.kb none).set L.c (some (.blk false (.cells true [.pt L3.f.o 0,.pt L3.m.o 0,.pt L3.p.o 0,.pt L3.w.o 0,tZ L3.tb s3.tickets.length,I s3.closed,.sl (m+1) 0 1 (s3.book.length+1)])))).set n (some (.blk gn (.cells true [.str ⟨⟨[111,107]⟩⟩])))++[some (.blk true (.cells true [.str line])),some (.blk gb (.cells true (s3.book.map .str++[.str line])))],?_,ly3.bookNew (g:=false) (g1:=true) (g2:=gb) (g3:=gn) (cs:=_) hm nn nm0 rfl ?_⟩
 ·unfold b21 xR eR wB at *
  rcases hg with rfl|rfl|rfl|rfl|rfl|rfl
  all_goals (exact oS hn c59 m1 hp call call2 m2 hcc h3c h3n' hm cm nm cn nc h3b bm bn nb bc cb t1 z1 z2 aC aC)
 ·rw[hL]
  simp[aAy,oP,tZ,Nat.ne_of_gt hk3]
def oV:ByteArray:=⟨⟨[122,97,102,114,97,32,49,52,10]⟩⟩
def iG (B:List ByteArray):Nat:=(B.length+4)/5
def pgs (B:List ByteArray) (i:Nat):List ByteArray:=(B.drop (5*i)).take 5
def kD (B:List ByteArray):Nat→ByteArray
 | 0=>oV
 | i+1=>kD B i++pgB (pgs B i) (6*i)
def iQ (B:List ByteArray):ByteArray:=kD B (iG B)
theorem lL (B:List ByteArray) (i:Nat):(pgs B i).length=min 5 (B.length-5*i):=by simp[pgs]
theorem iU (ls:List ByteArray) (row:Nat):(pgB ls row).size=(ls.length+1)*45:=by
 unfold pgB
 rw[ByteArray.size_append,xD,tE (eV (by rw[mA (Nat.le_refl _)];exact Nat.le_refl _) _ (Nat.le_refl _))]
 omega
theorem xJ (B:List ByteArray):∀ i,kD B i=kD B i∧(kD B i).size≤9+i*270∧9≤(kD B i).size
 | 0=>⟨rfl,by simp only[kD,oV];decide,by simp only[kD,oV];decide⟩
 | i+1=>by
   obtain⟨_,h1,h2⟩:=xJ B i
   have h3:=iU (pgs B i) (6*i)
   have h4:=lL B i
   refine⟨rfl,?_,?_⟩
   ·rw[kD,ByteArray.size_append,h3];omega
   ·rw[kD,ByteArray.size_append,h3];omega
abbrev lpB:Option XB:=some (.loop 23 0 [.bp 1] .ready)
abbrev hY (a:ByteArray) (B:List ByteArray):XH:=[lpB,some (.blk false (.cells true [.pt 1 0,.sb 2 a.size])),some (.blk true (.cells true (dI a))),rI B]
theorem y23 {B ls:List ByteArray} {a p:ByteArray} {row o n z y:Nat} (hB:∀ i s,ls[i]?=some s→(lX B)[o+i]?=some (.str s)) (hn:ls.length=n) (h0:1≤n) (h1:n≤5) (hr:row≤10000) (ha:a.size≤100000) (hz:a.size=z) (hp:pgB ls row=p) (hy:z+p.size=y) :
 runYW aB (.fn (.yield 0) [] []) [I (row:Nat),.sl 3 o 1 n] (hY a B)=some (.bool true,[lpB,some (.blk false (.cells true [.pt 1 0,.sb 4 y])),none,rI B,some (.blk true (.cells true (dI (a++p))))]):=by
 have c38:=aTS (row:=row) hB (by omega) (by omega) hr
 have c38:runW aB 38 [.sl 0 o 1 ls.length,I (row:Int)] [rI B]=some (.str (pgB ls row),[rI B]):=c38
 have sz:=iU ls row
 rw[hn,hp]at c38
 rw[hp,hn]at sz
 have c69:=aNK (s:=p) (a:=a) (by omega) (by omega) ha
 rw[hz,hy]at c69
 have gB:=jG B
 have gA:=eI a
 have gP:=eI (a++p)
 rw[aID (K:=23) (d:=x23) (site:=0) (vs:=[.bp 1]) rfl rfl (by rfl) rfl]
 (exact aMz c38 c69 hz hy gB gA gP cY cW cX dD dB dC aC)
section
variable {B:List ByteArray}
abbrev ckB (n:Nat):Option XB:=some (.blk false (.cells false [.any,.any,.any,.any,.any,.any,.sl 5 0 1 n]))
def zI (B:List ByteArray) (i:Nat):XH:=if i=0 then [lpB,some (.blk false (.cells true [.pt 1 0,.sb 2 9])),some (.blk true (.cells true (dI oV))),some (.blk false (.cells true [.pt 4 0])),ckB B.length,rI B]
 else [lpB,some (.blk false (.cells true [.pt 1 0,.sb 6 (kD B i).size])),none,some (.blk false (.cells true [.pt 4 0])),ckB B.length,rI B,some (.blk true (.cells true (dI (kD B i))))]
def aAu (B:List ByteArray) (i:Nat):AV:=if i=iG B then .fs [] else .sl 5 (5*i) 1 (B.length-5*i)
def lJ (B:List ByteArray) (i:Nat):Nat:=if i=iG B then B.length+iG B else 6*i
theorem aOq {i:Nat}:∀ (k:Nat) (s:ByteArray),(pgs B i)[k]?=some s→(lX B)[5*i+k]?=some (.str s):=fun k s h=>by
 unfold pgs at h
 rw[List.getElem?_take]at h
 split at h
 ·rw[List.getElem?_drop]at h
  unfold lX
  rw[List.getElem?_map,h];rfl
 ·cases h
theorem aUa (h0:1≤B.length) (h1:B.length≤300):runW aB 116 [.fn (.yield 0) [] [],.pt 3 0] (zI B 0)=some (.tup [],zI B (iG B)):=by
 have np:iG B=(B.length+4)/5:=rfl
 have g0:zI B 0=[lpB,some (.blk false (.cells true [.pt 1 0,.sb 2 9])),some (.blk true (.cells true (dI oV))),some (.blk false (.cells true [.pt 4 0])),ckB B.length,rI B]:=rfl
 have gh:=eI oV
 have gB:=jG B
 rw[g0,qX 116 aGH rfl];unfold aGH;dsimp only
 sym =>
  simp[Za,Zb,Zf,Zh,Zl,Zm,Zn,Zv,Z9,ZA,ZD,ZG,ZM,ZR,ZS,ZU,Yc,Yf,Yp,Yr,Ys,Yt,Y4,YC,YF,YG,YL,YN,YY,YZ,Xb,Xn,Xo,Xs,Xt,Xu,Xv,XI,XL,We,Wf,Wi,Wj,Wk,Wl,Wq,Ws,Wx,WP,WS,WX,Vm,Vn,Vo,Vp,Vs,Vu,Vv,Vw,Vx,Vy,V0,V4,V5,V6,V8,V9,VA,VB,VC,VD,VE,VF,VG,VH,VI,VJ,VK,VL,VM,VN,VO,VP,VQ,VR,VS,VT,VU,VV,VW,VX,Ug,Uu,Uw,Uy,Uz,U0,UA,UC,UE,UJ,UK,UL,UM,UN,UO,UP,UQ,US,UT,UU,UV,UW,UX,UY,UZ,Ta,Tb,Te,Tl,Tq,Tr,Ts,Tt,Tu,Tx,Ty,Tz,T0,T1,T4,T8,T9,TE,TF,TG,TY,TZ,Se,Sr,Su,Sw,Sx,Sy,Sz,S2,S4,S6,S7,S8,S9,SJ,SK,SL,SM,SZ,Rb,Ru,R5,RX,RZ,Qd,Qe,Qz,gh,gB,cY,cW,cX,dD,dB,dC]
  tactic =>
   unfold aEi
   rw[cO (iG B) (fun i=>[.fn (.yield 0) [] [],I (lJ B i:Nat),aAu B i]) (fun i=>zI B i)]
   ·have s0:aAu B (iG B) = .fs []:=if_pos rfl
    have g1:zI B (iG B)=[lpB,some (.blk false (.cells true [.pt 1 0,.sb 6 (kD B (iG B)).size])),none,some (.blk false (.cells true [.pt 4 0])),ckB B.length,rI B,some (.blk true (.cells true (dI (kD B (iG B)))))]:=if_neg (by omega)
    have gP:=eI (kD B (iG B))
    (exact aHI s0 g1 gP gB cY cW cX dD dB dC)
   ·have s0:aAu B 0 = .sl 5 0 1 B.length:=if_neg (by omega)
    have r0:lJ B 0=0:=if_neg (by omega)
    (exact aHH s0 r0 g0 gh gB cY cW cX dD dB dC aC)
   ·intro i hi
    obtain⟨_,z1,z2⟩:=xJ B i
    have pl:=lL B i
    have ps:=iU (pgs B i) (6*i)
    have sv:kD B (i+1)=kD B i++pgB (pgs B i) (6*i):=rfl
    have ss:(kD B i).size+(pgB (pgs B i) (6*i)).size=(kD B (i+1)).size:=by rw[sv,ByteArray.size_append]
    have y:=fun z (hz:(kD B i).size=z)=>y23 (B:=B) (ls:=pgs B i) (a:=kD B i) (row:=6*i) (o:=5*i) (y:=(kD B (i+1)).size) aOq rfl (by omega) (by omega) (by omega) (by omega) hz rfl (by rw[←hz];exact ss)
    have ri:lJ B i=6*i:=if_neg (by omega)
    have gi:aAu B i = .sl 5 (5*i) 1 (B.length-5*i):=if_neg (by omega)
    have g1:zI B (i+1)=[lpB,some (.blk false (.cells true [.pt 1 0,.sb 6 (kD B (i+1)).size])),none,some (.blk false (.cells true [.pt 4 0])),ckB B.length,rI B,some (.blk true (.cells true (dI (kD B (i+1)))))]:=if_neg (by omega)
    rw[←sv]at y
    have gP:=eI (kD B (i+1))
    have gA:=eI (kD B i)
    have d1:(((B.length-5*i:Nat):Int)>0)=True:=eq_true (by omega)
    have d2:(0<((B.length-5*i:Nat):Int))=True:=eq_true (by omega)
    by_cases hl:i+1=iG B
    ·skip
     have n1:(pgs B i).length=B.length-5*i:=by omega
     have d3:(5<((B.length-5*i:Nat):Int))=False:=eq_false (by omega)
     have sn:aAu B (i+1) = .fs []:=if_pos hl
     have rn:IntKind.i64.wrap (((6*i:Nat):Int)+(((B.length-5*i:Nat):Int)+1))=((lJ B (i+1):Nat):Int):=by rw[bB (by omega) (by omega)];unfold lJ;rw[if_pos hl];omega
     have rm:IntKind.i64.wrap (((B.length-5*i:Nat):Int)+1)=((B.length-5*i:Nat):Int)+1:=bB (by omega) (by omega)
     have d5:(B.length-5*i=0)=False:=eq_false (by omega)
     have d7:(((B.length-5*i:Nat):Int)≤((B.length-5*i:Nat):Int))=True:=eq_true (by omega)
     have d8:(B.length-5*i<B.length-5*i)=False:=eq_false (by omega)
     have d6:(0<B.length-5*i)=True:=eq_true (by omega)
     rw[n1]at y
     by_cases hi0:i=0
     ·subst hi0
      have y1:=y 9 rfl
      have s0:aAu B 0 = .sl 5 0 1 B.length:=if_neg (by omega)
      have r0:lJ B 0=0:=if_neg (by omega)
      have gA:jK (dI oV)=true:=eI oV
      have sv0:kD B 0=oV:=rfl
      rw[sv0]at y1
      rw[Nat.mul_zero]at *
      rw[Nat.sub_zero]at *
      have rn:IntKind.i64.wrap (0+((B.length:Nat)+1:Int))=((lJ B (0+1):Nat):Int):=rn
      have y1:runYW aB (.fn (.yield 0) [] []) [I 0,.sl 3 0 1 (B.length)] [lpB,some (.blk false (.cells true [.pt 1 0,.sb 2 9])),some (.blk true (.cells true (dI oV))),rI B]=_:=y1
      rw[s0,r0,sn,g1,g0]
      clear y ss ps z1 z2 sv pl hl np
      generalize kD B (0+1)=A' at *
      generalize lJ B (0+1)=R at *
      (exact aAk d1 d2 d3 d5 d6 d7 d8 y1 rn rm gP gA gB cY cW cX dD dB dC aC)
     ·have y1:=y _ rfl
      have gg:zI B i=[lpB,some (.blk false (.cells true [.pt 1 0,.sb 6 (kD B i).size])),none,some (.blk false (.cells true [.pt 4 0])),ckB B.length,rI B,some (.blk true (.cells true (dI (kD B i))))]:=if_neg hi0
      rw[gi,ri,sn,g1,gg]
      clear y ss ps z1 z2 sv pl hl np
      generalize kD B (i+1)=A' at *
      generalize kD B i=A at *
      generalize lJ B (i+1)=R at *
      generalize B.length-5*i=m at *
      generalize 6*i=r at *
      generalize 5*i=o at *
      (exact aAk d1 d2 d3 d5 d6 d7 d8 y1 rn rm gP gA gB cY cW cX dD dB dC aC)
    ·skip
     have n1:(pgs B i).length=5:=by omega
     have d3:(5<((B.length-5*i:Nat):Int))=True:=eq_true (by omega)
     have sn:aAu B (i+1) = .sl 5 (5*i+5) 1 (B.length-5*i-5):=by
      unfold aAu
      rw[if_neg (by omega),show 5*(i+1)=5*i+5 by omega,Nat.sub_add_eq]
     have rn:IntKind.i64.wrap (((6*i:Nat):Int)+6)=((lJ B (i+1):Nat):Int):=by rw[bB (by omega) (by omega)];unfold lJ;rw[if_neg (by omega)];omega
     have d5:(5<B.length-5*i)=True:=eq_true (by omega)
     have d7:(5≤((B.length-5*i:Nat):Int))=True:=eq_true (by omega)
     have d8:(0<B.length-5*i)=True:=eq_true (by omega)
     have d6:(5≤B.length-5*i)=True:=eq_true (by omega)
     rw[n1]at y
     by_cases hi0:i=0
     ·subst hi0
      have y1:=y 9 rfl
      have s0:aAu B 0 = .sl 5 0 1 B.length:=if_neg (by omega)
      have r0:lJ B 0=0:=if_neg (by omega)
      have gA:jK (dI oV)=true:=eI oV
      have sv0:kD B 0=oV:=rfl
      rw[sv0]at y1
      rw[Nat.mul_zero]at *
      rw[Nat.sub_zero]at *
      have r6:lJ B (0+1)=6:=if_neg (by omega)
      rw[r6]
      have y1:runYW aB (.fn (.yield 0) [] []) [I 0,.sl 3 0 1 (5)] [lpB,some (.blk false (.cells true [.pt 1 0,.sb 2 9])),some (.blk true (.cells true (dI oV))),rI B]=_:=y1
      rw[s0,r0,sn,g1,g0]
      clear y ss ps z1 z2 sv pl hl np
      generalize kD B (0+1)=A' at *
      (exact aAk d1 d2 d3 d5 d6 d7 d8 y1 rn gP gA gB cY cW cX dD dB dC aC aC)
     ·have y1:=y _ rfl
      have gg:zI B i=[lpB,some (.blk false (.cells true [.pt 1 0,.sb 6 (kD B i).size])),none,some (.blk false (.cells true [.pt 4 0])),ckB B.length,rI B,some (.blk true (.cells true (dI (kD B i))))]:=if_neg hi0
      rw[gi,ri,sn,g1,gg]
      clear y ss ps z1 z2 sv pl hl np
      generalize kD B (i+1)=A' at *
      generalize kD B i=A at *
      generalize lJ B (i+1)=R at *
      generalize B.length-5*i=m at *
      generalize 6*i=r at *
      generalize 5*i=o at *
      (exact aAk d1 d2 d3 d5 d6 d7 d8 y1 rn gP gA gB cY cW cX dD dB dC aC aC)
   ·have s0:aAu B (iG B) = .fs []:=if_pos rfl
    have g1:zI B (iG B)=[lpB,some (.blk false (.cells true [.pt 1 0,.sb 6 (kD B (iG B)).size])),none,some (.blk false (.cells true [.pt 4 0])),ckB B.length,rI B,some (.blk true (.cells true (dI (kD B (iG B)))))]:=if_neg (by omega)
    (exact RS2 s0 g1)
end
section
variable {B:List ByteArray}
abbrev cr0 (k:AV):Option XB:=some (.blk false (.cells false [.pt 1 0,.any,.any,.any,.any,.any,k]))
abbrev cr1 (k:AV):Option XB:=some (.blk false (.cells false [.any,.any,.any,.any,.any,.any,k]))
theorem w70 {n:Nat}:runW aB 70 [.pt 0 0] [cr1 (.sl 1 0 1 n),rI B]=some (.fn (.func 116) [] [.pt 2 0],[cr1 (.sl 1 0 1 n),rI B,some (.blk false (.cells true [.pt 0 0]))]):=by
 have gB:=jG B
 rw[qX 70 x70 rfl];unfold x70;dsimp only
 (exact RS4 gB dD dB dC)
theorem w23 (h0:1≤B.length) (h1:B.length≤300):runW aB 23 [.pt 0 0] [cr0 (.sl 2 0 1 B.length),none,rI B]=some (.str (iQ B),[cr1 (.sl 2 0 1 B.length),none,rI B]):=by
 have gB:=jG B
 have np:iG B=(B.length+4)/5:=rfl
 have c59:runW aB 59 [.pt 0 0] [cr0 (.sl 2 0 1 B.length),none,rI B]=some (.bool false,[cr0 (.sl 2 0 1 B.length),none,rI B]):=by
  rw[qY 59 x59 rfl];unfold x59;dsimp only
  (exact RS0)
 have c69:runW aB 69 [.bp 0,.str ⟨#[122,97,102,114,97,32,49,52,10]⟩] [some (.blk true (.cells true [.nilpt,.nilsl]))] =
  some (.tup [I 9,.nilifc],[some (.blk false (.cells true [.pt 0 0,.sb 1 9])),some (.blk true (.cells true (dI oV)))]):=aNL (s:=oV) (by decide) (by decide)
 have c70:=w70 (B:=B) (n:=B.length)
 have c116:runW aB 116 [.fn (.yield 0) [] [],.pt 3 0] [lpB,some (.blk false (.cells true [.pt 1 0,.sb 2 9])),some (.blk true (.cells true (dI oV))),some (.blk false (.cells true [.pt 4 0])),ckB B.length,rI B]=some (.tup [],zI B (iG B)):=aUa h0 h1
 have g1:zI B (iG B)=[lpB,some (.blk false (.cells true [.pt 1 0,.sb 6 (kD B (iG B)).size])),none,some (.blk false (.cells true [.pt 4 0])),ckB B.length,rI B,some (.blk true (.cells true (dI (kD B (iG B)))))]:=if_neg (by omega)
 rw[g1]at c116
 obtain⟨_,z1,z2⟩:=xJ B (iG B)
 have c71:=w71 (a:=kD B (iG B)) (by omega) (by omega)
 have gh:=eI oV
 have gP:=eI (kD B (iG B))
 have e:iQ B=kD B (iG B):=rfl
 rw[e,qX 23 x23 rfl];unfold x23;dsimp only
 generalize kD B (iG B)=A at *
 generalize oV=Hd at *
 (exact aMz c59 c69 c70 c116 c71 gh gP gB cY cW cX dD dB dC)
theorem aTU:runW aB 23 [.pt 0 0] [cr0 .nilsl,none]=some (.str oV,[cr1 .nilsl,none]):=by
 have c59:runW aB 59 [.pt 0 0] [cr0 .nilsl,none]=some (.bool false,[cr0 .nilsl,none]):=by
  rw[qY 59 x59 rfl];unfold x59;dsimp only
  (exact RS0)
 have c69:runW aB 69 [.bp 0,.str ⟨#[122,97,102,114,97,32,49,52,10]⟩] [some (.blk true (.cells true [.nilpt,.nilsl]))] =
  some (.tup [I 9,.nilifc],[some (.blk false (.cells true [.pt 0 0,.sb 1 9])),some (.blk true (.cells true (dI oV)))]):=aNL (s:=oV) (by decide) (by decide)
 have c70:runW aB 70 [.pt 0 0] [cr1 .nilsl]=some (.fn (.func 116) [] [.pt 1 0],[cr1 .nilsl,some (.blk false (.cells true [.pt 0 0]))]):=by
  rw[qX 70 x70 rfl];unfold x70;dsimp only
  (exact RS0)
 have gh:=eI oV
 have c116:runW aB 116 [.fn (.yield 0) [] [],.pt 3 0] [lpB,some (.blk false (.cells true [.pt 1 0,.sb 2 9])),some (.blk true (.cells true (dI oV))),some (.blk false (.cells true [.pt 4 0])),cr1 .nilsl]=some (.tup [],[lpB,some (.blk false (.cells true [.pt 1 0,.sb 2 9])),some (.blk true (.cells true (dI oV))),some (.blk false (.cells true [.pt 4 0])),cr1 .nilsl]):=by
  rw[qX 116 aGH rfl];unfold aGH;dsimp only
  sym =>
   simp[Za,Zb,Zf,Zg,Zh,Zj,Zl,Zm,Zo,Zp,Zr,Zv,Zx,Zy,Zz,Z9,ZA,ZC,ZG,ZR,ZU,Yc,Yf,Yk,Yl,Yn,Yr,Yu,YC,Xe,Xn,Xo,Xq,Xs,Xv,Xx,Xz,XI,XL,XZ,We,Wg,Wi,Wl,Wn,Wp,Wq,Wr,Ws,Wv,Wx,WB,WF,WN,WP,WS,WW,WX,Vg,Vm,Vn,Vo,Vp,Vs,Vt,Vu,Vv,Vw,Vx,Vy,Vz,V0,V4,V5,V6,V7,V8,V9,VA,VB,VC,VD,VE,VF,VG,VH,VI,VJ,VK,VL,VM,VN,VO,VP,VQ,VR,VS,VT,VU,VV,VW,VX,Ug,Ui,Uj,Uk,Uu,Uv,Uw,Uy,Uz,U0,UA,UB,UC,UE,UF,UG,UH,UJ,UK,UL,UM,UN,UP,UQ,US,UT,UU,UV,UW,UX,UY,UZ,Ta,Tb,Te,Tf,Th,Tr,Ts,Tu,Tx,Ty,Tz,T0,T1,T4,T8,T9,TJ,TK,TY,TZ,Se,Sk,Sr,Su,Sv,Sw,Sx,Sy,Sz,S2,S4,S6,S7,S8,S9,SD,Rj,Rk,Ro,Rp,Rq,Rr,Rs,Rt,R5,RJ,RK,RN,RO,RP,RQ,RR,RX,RZ,Qd,Qe,Qf,Qh,Ql,Qm,Qn,Qo,Qp,QE,QF,gh,cY,cW,cX]
   tactic =>
    unfold aEi
    rw[cO 0 (fun i=>[.fn (.yield 0) [] [],I 0,.nilsl]) (fun i=>[lpB,some (.blk false (.cells true [.pt 1 0,.sb 2 9])),some (.blk true (.cells true (dI oV))),some (.blk false (.cells true [.pt 4 0])),cr1 .nilsl])]
    ·(exact RS4 gh cY cW cX)
    ·(exact RS4 gh cY cW cX)
    ·intro i hi;omega
    ·(exact RS4 gh cY cW cX)
 have c71:=w71 (a:=oV) (by decide) (by decide)
 have c71:runW aB 71 [.bp 0] [some (.blk false (.cells true [.pt 0 0,.sb 1 9])),some (.blk true (.cells true (dI oV)))]=some (.str oV,[some (.blk false (.cells true [.pt 0 0,.sb 1 9])),none]):=c71
 rw[qX 23 x23 rfl];unfold x23;dsimp only
 generalize oV=Hd at *
 (exact aHH c59 c69 c70 c116 c71 gh cY cW cX dD dB dC)
end
variable {h h' h1 h2:XH} {L:CL} {s:dR} {x line:ByteArray} {w:Wd} {v:AV}
def d21:XFn:=aOo 41
theorem aDA:aB 21=some d21:=rfl
theorem wR {e:aD} {n:Nat} {a:ByteArray} (he:e 4 = .pt n 0) (hn:aF h n=some (.cells true [.str a])):fD saySay.res e (aF h)=some (.str a):=by
 obtain⟨g,hg⟩:=aO hn
 unfold saySay
 dsimp only
 (exact RS2 he hg)
def aEb (h:XH) (L:CL) (line:ByteArray) (s':dR) (a:ByteArray):Prop:=∃ h3 L3,aKP aB d21 h.length 0 (h.length+1) (xR L.c h.length line) (h++eR) h3 (.str a)∧Lays h3 L3 s'∧L3.c=L.c
theorem Lays.nlt (ly:Lays h L s):h.length∉pxs L s:=fun hm=>by
 obtain⟨j,hj⟩:=cF.1 hm
 have:=ly.lt j _ hj
 omega
theorem aIw (ly:Lays h L s) (hp:runW aB 60 [.str line] []=some (v,[])) (hw:IsW w v) (hlt:s.book.length<300) (co:∀ k:XH,aGC (h++k) L s v (doW s w)):aEb h L line { doW s w with book:=s.book++[line] } ⟨⟨[111,107]⟩⟩:=by
 obtain⟨f,r1,r2,rfl⟩:=hw.shape
 obtain⟨n,hn⟩:∃ n,h.length=n:=⟨_,rfl⟩
 have lyw:=ly.ext (wB f r1 r2)
 obtain⟨g,caps,hcc,h3,call,hg,fr1,q1,L3,call2,ly3,hL,fr2,sb⟩:∃ (g:Nat) (caps:List AV) (hc h3:XH),runW aB 61 [.pt L.c 0,.agg [.str f,.fs r1,.fs r2]] (h++wB f r1 r2)=some (.fn (.func g) [] caps,hc)∧aME g∧Fr [] (h++wB f r1 r2) hc∧True∧∃ L3,runW aB g caps hc=some (.tup [],h3)∧Lays h3 L3 (doW s w)∧L3.c=L.c∧Fr (pxs L s) hc h3∧Sb hc.length L s L3 (doW s w):=by
  obtain⟨g,caps,hc1,a1,a2,a3,h3,L3,a4,a5,a6,a7,a8⟩:=co (wB f r1 r2)
  exact⟨g,caps,hc1,h3,a1,a2,a3,trivial,L3,a4,a5,a6,a7,a8⟩
 have lyc:Lays hcc L s:=lyw.fr fr1 fun _ _ _ hb=>by cases hb
 have n0:aF (h++wB f r1 r2) n=some (.cells true [.str ⟨⟨[]⟩⟩]):=by
  have:=kX (h:=h) (k:=wB f r1 r2) 0 (g:=true) (c:=.cells true [.str ⟨⟨[]⟩⟩]) rfl
  rw[hn]at this;exact this
 have nl:=ly.nlt
 rw[hn]at nl
 have n1:aF hcc n=some (.cells true [.str ⟨⟨[]⟩⟩]):=fr1.keepS n0 (by simp)
 have n3:aF h3 n=some (.cells true [.str ⟨⟨[]⟩⟩]):=fr2.keepS n1 nl
 have nn:n∉pxs L3 (doW s w):=fun hm=>by
  rcases sb n hm with hm|hm
  ·exact nl hm
  ·have:=bD n1;omega
 have hbk:(doW s w).book=s.book:=by
  cases w<;>first|rfl|(unfold doW;dsimp only;split<;>rfl)
 obtain⟨h4,k1,k2,k3⟩:∃ h4,zV [0,1,4] (execW aB 21 (n+1) none b21 (xR L.c n line) (h++eR))=some (.ret,[.pt L.c 0,.str line,.pt n 0],h4)∧Lays h4 { L3 with kb:=h3.length+1 } { doW s w with book:=(doW s w).book++[line] }∧aF h4 n=some (.cells true [.str ⟨⟨[111,107]⟩⟩]):=by
  by_cases hk:s.book.length=0
  ·exact aLu ly hn hp call hg call2 hlt lyc ly3 hL (by rw[hbk]) n3 rfl nn hk
  ·exact aLv ly hn hp call hg call2 hlt lyc ly3 hL (by rw[hbk]) n3 rfl nn (by omega)
 obtain⟨e,k4,k5⟩:=aDO k1
 have he:e 4 = .pt n 0:=by
  have:=congrArg (fun l=>l[2]?) k5
  simpa using this
 rw[hbk]at k2
 refine⟨h4++[some (.blk true (.cells true [I 0]))],_,.inl ⟨.ret,e,h4,(fun _ q=>by cases q),?_,?_,?_⟩,k2.ext _,hL⟩
 ·rw[hn];exact k4
 ·rw[hn];exact aGh
 ·exact wR he ((Fr.app h4 _).keepS k3 (by simp))
variable {h h' h1 h2:XH} {L:CL} {s:dR} {x line:ByteArray} {w:Wd} {v:AV}
theorem aFJ (ly:Lays h L s) {e:Int} (he:e∈wG) (hp:PanX Tryz.prog aB d21 (h.length+1) b21 (xR L.c h.length line) (h++eR) (.ifc 110 (.agg [I e])) (eD [4] [.pt h.length 0]) h2) (ly2:Lays h2 L s) (n2:aF h2 h.length=some (.cells true [.str ⟨⟨[]⟩⟩])):aEb h L line s (yX e):=by
 obtain⟨g,hg⟩:=aO n2
 refine⟨_,L,.inr ⟨.agg [I e],_,h2,hp,aDz hg he,?_⟩,?_,rfl⟩
 ·refine wR rfl ?_
  rw[gX,if_pos (by rw[List.length_set];exact bD n2),cM,if_pos rfl,if_pos (bD n2)]
 ·refine Lays.ext (ly2.fr ((Fr.refl [h.length] h2).set (by simp) _) fun j b hb hm=>?_) _
  rw[List.mem_singleton]at hm
  have:=ly.lt j b hb
  omega
theorem aNJ {f:ByteArray} {r1 r2:List (List AV)}:aF (h++wB f r1 r2) h.length=some (.cells true [.str ⟨⟨[]⟩⟩]):=kX (h:=h) (k:=wB f r1 r2) 0 (g:=true) rfl
theorem aIt (ly:Lays h L s):zV [0,1,4] (execW aB 21 (h.length+1) none (match b21 with | .seq a _=>a|c=>c) (xR L.c h.length line) (h++eR))=some (.normal,[.pt L.c 0,.str line,.pt h.length 0],h++eR):=by
 have c59:=w59 (ly.ext eR)
 have m1:=w58 9
 obtain⟨n,hn⟩:∃ n,h.length=n:=⟨_,rfl⟩
 rw[hn]
 unfold b21 xR eR at *
 (exact RS3 hn c59 m1)
theorem aIs (f:ByteArray) (r1 r2:List (List AV)) {c:Nat} (hp:runW aB 60 [.str line] []=some (.agg [.str f,.fs r1,.fs r2],[])):zV [0,1,4,5] (execW aB 21 (h.length+1) none (match b21 with | .seq _ (.seq a _)=>a|c=>c) (eD [0,1,4] [.pt c 0,.str line,.pt h.length 0]) (h++eR))=some (.normal,[.pt c 0,.str line,.pt h.length 0,.pt (h.length+1) 0],h++wB f r1 r2):=by
 obtain⟨n,hn⟩:∃ n,h.length=n:=⟨_,rfl⟩
 rw[hn]
 unfold b21 eR wB at *
 (exact RS2 hn hp)
theorem aIx (ly:Lays h L s) {e:Int} (he:e∈wG) (hp:runW aB 60 [.str line] []=some (v,[])) (hw:IsW w v) (hc:∀ k:XH,∃ h1,CalP Tryz.prog aB 61 [.pt L.c 0,v] (h++k) (.ifc 110 (.agg [I e])) h1∧Fr [] (h++k) h1):aEb h L line s (yX e):=by
 obtain⟨f,r1,r2,rfl⟩:=hw.shape
 obtain⟨h1,hcal,fr⟩:=hc (wB f r1 r2)
 refine aFJ (h2:=h1) ly he ?_ ((ly.ext (wB f r1 r2)).fr fr fun _ _ _ hb=>by cases hb) (fr.keepS aNJ (by simp))
 have r1':=aIt (line:=line) ly
 have r2':=aIs (h:=h) f r1 r2 (c:=L.c) hp
 unfold b21 at r1' r2' ⊢
 refine PanX.seqR (K:=21) aW aDA [0,1,4] r1' ?_
 refine PanX.seqR (K:=21) aW aDA [0,1,4,5] r2' ?_
 refine PanX.seqL ?_
 refine PanX.reg (p:=[⟨0,some 14,.mv (.t 0),none⟩,⟨0,some 15,.load true 3 (.t 5),none⟩]) (post:=[⟨0,some 6,.mv (.t 16),none⟩]) aW [4] (g:=61) (first:=[]) (cap:=[]) (args:=[.pt L.c 0,.agg [.str f,.fs r1,.fs r2]]) (vs:=[.pt h.length 0]) (h1:=h++wB f r1 r2) rfl rfl ?_ hcal
 obtain⟨n,hn⟩:∃ n,h.length=n:=⟨_,rfl⟩
 rw[hn]
 unfold wB
 (exact wN hn)
theorem aOa (f:ByteArray) (r1 r2:List (List AV)) {c:Nat} {k:AV} {hh:XH} (call:runW aB 61 [.pt c 0,.agg [.str f,.fs r1,.fs r2]] (h++wB f r1 r2)=some (k,hh)):zV [0,1,4,5,6] (execW aB 21 (h.length+1) none (match b21 with | .seq _ (.seq _ (.seq a _))=>a|c=>c) (eD [0,1,4,5] [.pt c 0,.str line,.pt h.length 0,.pt (h.length+1) 0]) (h++wB f r1 r2))=some (.normal,[.pt c 0,.str line,.pt h.length 0,.pt (h.length+1) 0,k],hh):=by
 obtain⟨n,hn⟩:∃ n,h.length=n:=⟨_,rfl⟩
 rw[hn]
 unfold b21 wB at *
 (exact RS2 hn call)
theorem aIv {s0:dR} (ly:Lays h L s) (hp:runW aB 60 [.str line] []=some (v,[])) (hw:IsW w v) (co:∀ k:XH,aGC (h++k) L s v s0) (hlt:s.book.length=300):aEb h L line s (yX 15):=by
 obtain⟨f,r1,r2,rfl⟩:=hw.shape
 have lyw:=ly.ext (wB f r1 r2)
 obtain⟨g,caps,hcc,call,hg,fr1,_⟩:=co (wB f r1 r2)
 have lyc:Lays hcc L s:=lyw.fr fr1 fun _ _ _ hb=>by cases hb
 refine aFJ (h2:=hcc) ly (by decide) ?_ lyc (fr1.keepS aNJ (by simp))
 have r1':=aIt (line:=line) ly
 have r2':=aIs (h:=h) f r1 r2 (c:=L.c) hp
 have r3':=aOa (line:=line) f r1 r2 call
 obtain⟨gc,hcx⟩:=aO lyc.hc
 unfold oP at hcx
 rw[aCn (b:=L.kb) (by omega)]at hcx
 unfold b21 at r1' r2' r3' ⊢
 refine PanX.seqR (K:=21) aW aDA [0,1,4] r1' ?_
 refine PanX.seqR (K:=21) aW aDA [0,1,4,5] r2' ?_
 refine PanX.seqR (K:=21) aW aDA [0,1,4,5,6] r3' ?_
 refine PanX.seqR (K:=21) aW aDA [0,1,4,5,6] (vs:=[.pt L.c 0,.str line,.pt h.length 0,.pt (h.length+1) 0,.fn (.func g) [] caps]) (h1:=hcc) (by (exact RS0)) ?_
 refine PanX.seqL ?_
 have t1:((s.book.length:Int)<300)=False:=eq_false (by omega)
 exact PanX.reg (p:=[⟨0,some 22,.mv (.t 0),none⟩,⟨0,some 23,.nilck (.t 22),none⟩,⟨0,some 24,.fld 6 (.t 23),none⟩,⟨0,some 25,.load false 1 (.t 24),none⟩,⟨0,some 26,.len false (.t 25),none⟩,⟨0,some 27,.bin .lss (.t 26) (.c (.int .i64 300)),none⟩]) (post:=[]) aW [4] (g:=58) (first:=[]) (cap:=[]) (args:=[.bool false,I 15]) (vs:=[.pt h.length 0]) (h1:=hcc) rfl rfl (by (exact RS2 hcx t1)) (c58 15 _)
variable {h h' h1 h2:XH} {L:CL} {s:dR} {x line:ByteArray} {w:Wd} {v:AV}
theorem aKv {h k:XH} (cd:Cd h) (hk:∀ x∈k,∀ b∈nmO x,b<h.length):Cd (h++k):=fun x hx b hb=>by
 rw[List.length_append]
 rcases List.mem_append.1 hx with hx|hx
 ·have:=cd x hx b hb;omega
 ·have:=hk x hx b hb;omega
def aXe (h:XH) (c:Nat) (v:AV):Prop:=∀ k:XH,∃ bx,runW aB 61 [.pt c 0,v] (h++k)=some (.nilfn,(h++k)++bx)∧∀ x∈bx,∀ b∈nmO x,b=c
theorem aLw (ly:Lays h L s) (cd:Cd h) {a:ByteArray} (hp:runW aB 60 [.str line] []=some (v,[])) (hw:IsW w v) (ask:aXe h L.c v) (hc:∀ hh:XH,Lays hh L s→Cd hh→∃ h1,runW aB 62 [.pt L.c 0,v] hh=some (.str a,h1)∧Frz hh.length hh h1):aEb h L line s a:=by
 obtain⟨f,r1,r2,rfl⟩:=hw.shape
 obtain⟨bx,c61,hbx⟩:=ask (wB f r1 r2)
 obtain⟨hq,hqe⟩:∃ hq,hq=(h++wB f r1 r2)++bx:=⟨_,rfl⟩
 rw[←hqe]at c61
 have lyw:=ly.ext (wB f r1 r2)
 have lyq:Lays hq L s:=by rw[hqe];exact lyw.ext bx
 have lc:=bD ly.hc
 have cdq:Cd hq:=by
  rw[hqe]
  refine aKv (aKv cd fun x hx b hb=>?_) fun x hx b hb=>?_
  ·simp only[wB,List.mem_cons,List.not_mem_nil,or_false]at hx
   rcases hx with rfl|rfl
   ·simp[nmO,nmB]at hb
   ·simp[nmO,nmB]at hb
  ·rw[hbx x hx b hb,List.length_append];omega
 obtain⟨h3,c62,fz⟩:=hc hq lyq cdq
 have fr1:Fr [] (h++wB f r1 r2) hq:=by rw[hqe];exact Fr.app _ _
 have nq:aF hq h.length=some (.cells true [.str ⟨⟨[]⟩⟩]):=fr1.keepS aNJ (by simp)
 have q1:aF hq (h.length+1)=some (.cells true [.str f,.fs r1,.fs r2]):=fr1.keepS (kX 1 (g:=true) rfl) (by simp)
 obtain⟨g1,q2⟩:=aO q1
 have n3:=fz _ _ nq fun _ _ _=>rfl
 obtain⟨g3,n3'⟩:=aO n3
 have c59:=w59 (ly.ext eR)
 have m1:=w58 9
 obtain⟨n,hn⟩:∃ n,h.length=n:=⟨_,rfl⟩
 have key:zV [0,1,4] (execW aB 21 (n+1) none b21 (xR L.c n line) (h++eR))=some (.ret,[.pt L.c 0,.str line,.pt n 0],h3.set n (some (.blk g3 (.cells true [.str a])))):=by
  rw[hn]at q2 n3'
  unfold b21 xR eR wB at *
  cases g1
  all_goals (exact RS8 hn c59 m1 hp c61 c62 q2 n3')
 obtain⟨e,k4,k5⟩:=aDO key
 have he:e 4 = .pt n 0:=by
  have:=congrArg (fun l=>l[2]?) k5
  simpa using this
 rw[hn]at n3
 have ly3:Lays (h3.set n (some (.blk g3 (.cells true [.str a])))) L s:=(lyq.frz fz).fr ((Fr.refl [n] h3).set (by simp) _) fun j b hb hm=>by
  rw[List.mem_singleton]at hm
  have:=ly.lt j b hb
  omega
 refine⟨_,L,.inl ⟨.ret,e,h3.set n (some (.blk g3 (.cells true [.str a]))),(fun _ q=>by cases q),?_,?_,?_⟩,ly3.ext [some (.blk true (.cells true [I 0]))],rfl⟩
 ·rw[hn];exact k4
 ·rw[hn];exact aGh
 ·refine wR he ((Fr.app _ _).keepS (?_:aF (h3.set n (some (.blk g3 (.cells true [.str a])))) n=some (.cells true [.str a])) (by simp))
  rw[cM,if_pos rfl,if_pos (bD n3)]
variable {h h' h1 h2:XH} {L:CL} {s:dR} {x line:ByteArray} {w:Wd} {v:AV}
def tkL (k:CTk):List ByteArray:=if k.void then [k.wagon,k.farmer,⟨⟨Lib.itoa k.net⟩⟩,⟨⟨[118,111,105,100]⟩⟩] else [k.wagon,k.farmer,⟨⟨Lib.itoa k.net⟩⟩]
def tkT (k:CTk):ByteArray:=⟨⟨Lib.join ((tkL k).map (·.data.toList)) [32]⟩⟩
def aHg (n:Int):ByteArray:=⟨⟨Lib.itoa n⟩⟩
def aMx (P:dR→ByteArray→Int) (s:dR):Wd→Int ⊕ ByteArray
 | .net x=>match kP s.farmers x with|none=>.inl 5|some v=>.inr (aHg v)
 | .total=>.inr (aHg (aUc s))
 | .ticket i=>match s.tickets[i]? with|none=>.inl 5|some k=>.inr (tkT k)
 | .used x=>match kP s.meters x with|none=>.inl 5|some v=>.inr (aHg v.2)
 | .loss x=>match kP s.pans x with|none=>.inl 5|some v=>.inr (aHg v)
 | .power x=>match kP s.farmers x with|none=>.inl 5|some _=>.inr (aHg (P s x))
 | _=>.inl 0
def rP (P:dR→ByteArray→Int) (s:dR) (line:ByteArray):Int ⊕ Wd→ByteArray×dR
 | .inl e=>(yX e,s)
 | .inr w=>if w.asks then (match aMx P s w with | .inl e=>(yX e,s) | .inr a=>(a,s)) else
   match sH s w with
   | some e=>(yX e,s)
   | none=>if s.book.length=300 then (yX 15,s) else (⟨⟨[111,107]⟩⟩,{ doW s w with book:=s.book++[line] })
theorem aFk {e:Int} (hc:sH s w=some e):e∈wG:=by
 cases w<;>unfold sH at hc<;>dsimp only at hc
 all_goals (repeat' split at hc)
 all_goals first|(cases hc;decide)|cases hc
variable {h h' h1 h2:XH} {L:CL} {s:dR} {x line:ByteArray} {w:Wd} {v:AV}
variable {s:dR} {x line:ByteArray} {w:Wd} {v:AV}
theorem aDo {α:Type} {f:α→α} {z:α}:∀ {l:List (ByteArray×α)} {p:ByteArray×α},p∈aAz f z x l→p∈l∨p=(x,z)∨∃ y,(x,y)∈l∧p=(x,f y)
 | [],p,h=>.inr (.inl (by simpa [aAz]using h))
 | (k, y)::r,p,h=>by
   unfold aAz at h
   split at h
   ·rename_i hk
    rcases List.mem_cons.1 h with h|h
    ·exact .inr (.inr ⟨y,by rw[←hk];simp,by rw[h,hk]⟩)
    ·exact .inl (List.mem_cons_of_mem _ h)
   ·rcases List.mem_cons.1 h with h|h
    ·exact .inl (by rw[h];simp)
    ·rcases aDo h with h|h|⟨y',h1,h2⟩
     ·exact .inl (List.mem_cons_of_mem _ h)
     ·exact .inr (.inl h)
     ·exact .inr (.inr ⟨y',List.mem_cons_of_mem _ h1,h2⟩)
theorem aDp {α:Type} {f:α→α} {z:α}:∀ (l:List (ByteArray×α)),(aAz f z x l).length=if (kP l x).isNone then l.length+1 else l.length
 | []=>rfl
 | (k, y)::r=>by
   have ih:=aDp (f:=f) (z:=z) r
   have e:kP ((k,y)::r) x=if k=x then some y else kP r x:=by
    unfold kP
    show (if k=x then some 0 else (lN (r.map (·.1)) x).map (· + 1)).bind _=_
    by_cases hk:k=x
    ·rw[if_pos hk,if_pos hk];rfl
    ·rw[if_neg hk,if_neg hk]
     cases lN (r.map (·.1)) x<;>rfl
   rw[e]
   unfold aAz
   by_cases hk:k=x
   ·rw[if_pos hk,if_pos hk];rfl
   ·rw[if_neg hk,if_neg hk,List.length_cons,ih]
    cases kP r x<;>rfl
theorem vI {d:Int}:∀ (l:List (ByteArray×Int)),oQ l x d=aAz (· + d) d x l
 | []=>rfl
 | (k,y)::r=>by unfold oQ aAz;rw[vI r]
theorem aJX {x:ByteArray} {a b:Int} (gs:vJ s) (hw:IsW (.pan x a b) v) (hc:sH s (.pan x a b)=none) (hlt:s.book.length<300):vJ { doW s (.pan x a b)with book:=s.book++[line] }:=by
 have hl:(s.book++[line]).length=s.book.length+1:=by simp
 have bf':∀ p∈s.farmers,-(100000*(s.book.length+1:Nat):Int)≤p.2∧p.2≤100000*(s.book.length+1:Nat):=fun p hp=>by have:=gs.bf p hp;omega
 have bm':∀ p∈s.meters,0≤p.2.1∧p.2.1≤99999∧0≤p.2.2∧p.2.2≤100000*(s.book.length+1:Nat):=fun p hp=>by have:=gs.bm p hp;omega
 have bp':∀ p∈s.pans,0≤p.2∧p.2≤100000*(s.book.length+1:Nat):=fun p hp=>by have:=gs.bp p hp;omega
 have lw':=gs.lw
 have lt':=gs.lt
 obtain⟨hb,_⟩:=hw
 unfold sH at hc
 dsimp only at hc
 split at hc
 ·cases hc
 ·rename_i hle
  have hle:=Classical.not_not.1 hle
  split at hc
  ·cases hc
  ·rename_i hn
   have l5:=gs.lp
   unfold doW
   refine⟨by rw[hl];omega,gs.nf,gs.lf,gs.lm,?_,by rw[hl];exact Nat.le_succ_of_le lw',by rw[hl];exact Nat.le_succ_of_le lt',gs.cl,by rw[hl];exact bf',by rw[hl];exact bm',fun p hp=>?_,gs.bw,gs.bt,gs.fs⟩
   ·show (oQ s.pans x (a-b)).length≤5
    rw[vI,aDp]
    split
    ·rename_i h1
     have:s.pans.length≠5:=fun q=>hn ⟨h1,q⟩
     omega
    ·exact l5
   ·rw[hl]
    have hp:p∈oQ s.pans x (a-b):=hp
    rw[vI]at hp
    rcases aDo hp with hp|hp|⟨q,hq,hp⟩
    ·exact bp' p hp
    ·rw[hp];simp only;omega
    ·have:=gs.bp _ hq
     rw[hp];simp only at this ⊢;omega
end Go.Proofs.YtmapgnepfgnphaaGreatDoor
namespace Go.DL
section
variable {D:Nat→Option XFn} {Y:Nat→Option YI} {r:Nat→Option Nat}
theorem aCf {b:Nat}:∀ {vs:List AV},b∈nP vs→∃ (i:Nat) (v:AV),vs[i]?=some v∧b∈kU v
 | [],h=>by simp[nP]at h
 | v::l,h=>by
   simp only[nP,List.mem_append]at h
   rcases h with h|h
   ·exact⟨0,v,rfl,h⟩
   ·obtain⟨i,v',h1,h2⟩:=aCf h
    exact⟨i+1,v',h1,h2⟩
theorem aIL {v v':AV} (h:Rn D Y r v v'):∀ b∈kU v,∃ c,r b=some c:=by
 have many:∀ {xs ys:List AV},xs.length=ys.length→(∀ (i:Nat) (x y:AV),xs[i]?=some x→ys[i]?=some y→∀ b∈kU x,∃ c,r b=some c)→∀ b∈nP xs,∃ c,r b=some c:=fun {xs ys} hl ih b hb=>by
  obtain⟨i,x,h1,h2⟩:=aCf hb
  have hi:i<ys.length:=by rw[←hl];exact(List.getElem?_eq_some_iff.1 h1).1
  exact ih i x _ h1 (List.getElem?_eq_getElem hi) b h2
 induction h with
 | agg xs ys hl h ih=>intro b hb;simp only[kU]at hb;exact many hl ih b hb
 | tup xs ys hl h ih=>intro b hb;simp only[kU]at hb;exact many hl ih b hb
 | fn f xs ys us vs hf hl1 h1 hl2 h2 ih1 ih2 =>
   intro b hb
   simp only[kU,List.mem_append]at hb
   rcases hb with hb|hb|hb
   ·cases f with
    | yield l=>exact absurd rfl (hf l)
    | _=>simp at hb
   ·exact many hl1 ih1 b hb
   ·exact many hl2 ih2 b hb
 | ifc t x y h ih=>intro b hb;simp only[kU]at hb;exact ih b hb
 | yield l c hr=>intro b hb;simp[kU,nP]at hb;exact⟨c,by rw[hb];exact hr⟩
 | sl b c o s n hr=>intro b' hb;simp[kU]at hb;exact⟨c,by rw[hb];exact hr⟩
 | pt b c o hr=>intro b' hb;simp[kU]at hb;exact⟨c,by rw[hb];exact hr⟩
 | mp b c hr=>intro b' hb;simp[kU]at hb;exact⟨c,by rw[hb];exact hr⟩
 | ch b c hr=>intro b' hb;simp[kU]at hb;exact⟨c,by rw[hb];exact hr⟩
 | sb b c n hr=>intro b' hb;simp[kU]at hb;exact⟨c,by rw[hb];exact hr⟩
 | bp b c hr=>intro b' hb;simp[kU]at hb;exact⟨c,by rw[hb];exact hr⟩
 | _=>intro b hb;simp[kU]at hb
theorem aOh {xs ys:List AV} (h:RnL D Y r xs ys):∀ b∈nP xs,∃ c,r b=some c:=fun b hb=>by
 obtain⟨i,x,h1,h2⟩:=aCf hb
 have hi:i<ys.length:=by rw[←h.1];exact(List.getElem?_eq_some_iff.1 h1).1
 exact aIL (h.2 i x _ h1 (List.getElem?_eq_getElem hi)) b h2
theorem aTG {h:XH} {H:Hp} (sh:SHb D Y r h H):Cd h:=by
 intro x hx b hb
 cases x with
 | none=>simp[nmO]at hb
 | some x =>
   obtain⟨i,hi⟩:=List.getElem?_of_mem hx
   have ha:aJ h i=some x:=by unfold aJ;rw[List.getD_eq_getElem?_getD,hi];rfl
   obtain⟨⟨g,y,rfl⟩,c,z,h1,h2,h3⟩:=sh.blk i x ha
   have hb:b∈nmB (.blk g y):=hb
   cases h3 with
   | cells _ w xs ys hl hg =>
     cases g with
     | true=>simp[nmB]at hb
     | false =>
       obtain⟨c',hc'⟩:=aOh hl b hb
       exact sh.dom b c' hc'
   | map _ w xs ys hl hg =>
     cases g with
     | true=>simp[nmB]at hb
     | false =>
       have hb:b∈xs.flatMap fun p=>kU p.1++kU p.2:=hb
       obtain⟨p,hp,hb⟩:=List.mem_flatMap.1 hb
       obtain⟨j,hj⟩:=List.getElem?_of_mem hp
       have hlt:j<ys.length:=by rw[←hl.1];exact(List.getElem?_eq_some_iff.1 hj).1
       obtain⟨k1,k2⟩:=hl.2 j p _ hj (List.getElem?_eq_getElem hlt)
       rcases List.mem_append.1 hb with hb|hb
       ·obtain⟨c',hc'⟩:=aIL k1 b hb
        exact sh.dom b c' hc'
       ·obtain⟨c',hc'⟩:=aIL k2 b hb
        exact sh.dom b c' hc'
   | obj _ w o=>cases g<;>simp[nmB]at hb
end
end Go.DL
namespace Go.Proofs.YtmapgnepfgnphaaGreatDoor
open Go Go.DL
variable {h h':XH} {L:CL} {s:dR}
def IsClk (s:dR):Hp→Nat→Prop:=fun H b=>vJ s∧∃ h L,aF h=H∧Lays h L s∧L.c=b
theorem Od.hp {l:OL} {ks:List ByteArray} {vs:List (List AV)} {t:Int} (e:aF h=aF h') (od:Od h l ks vs t):Od h' l ks vs t:=⟨⟨fun p hp=>by rw[←e];exact od.hd.1 p hp,od.hd.2⟩,od.ek,od.vk⟩
theorem Lays.hp (e:aF h=aF h') (ly:Lays h L s):Lays h' L s where
 hc:=by rw[←e];exact ly.hc
 tk:=⟨ly.tk.el,fun hk=>by rw[←e];exact ly.tk.hb hk,fun i a k h1 h2=>by rw[←e];exact ly.tk.he i a k h1 h2,ly.tk.nd,ly.tk.nb⟩
 bk hk:=by rw[←e];exact ly.bk hk
 f:=ly.f.hp e
 m:=ly.m.hp e
 p:=ly.p.hp e
 w:=ly.w.hp e
 dj:=ly.dj
theorem IsClk.open {c:Nat} (hi:IsClk s (aF h) c):vJ s∧∃ L,Lays h L s∧L.c=c:=by
 obtain⟨gs,h0,L,e,ly,hc⟩:=hi
 exact⟨gs,L,ly.hp e,hc⟩
end Go.Proofs.YtmapgnepfgnphaaGreatDoor
namespace Go.DL
section
variable {D D':Nat→Option XFn} {Y Y':Nat→Option YI} {r:Nat→Option Nat}
theorem aIN {v v':AV} (h:Rn D Y r v v'):Rn D' Y' r v v':=by
 induction h with
 | any v=>exact .any v
 | int k n=>exact .int k n
 | bool b=>exact .bool b
 | str s=>exact .str s
 | agg xs ys hl h ih=>exact .agg xs ys hl ih
 | tup xs ys hl h ih=>exact .tup xs ys hl ih
 | fs rows h=>exact .fs rows h
 | fp rows i o h=>exact .fp rows i o h
 | sl b c o s n hr=>exact .sl b c o s n hr
 | pt b c o hr=>exact .pt b c o hr
 | mp b c hr=>exact .mp b c hr
 | ch b c hr=>exact .ch b c hr
 | sb b c n hr=>exact .sb b c n hr
 | bp b c hr=>exact .bp b c hr
 | nilsl=>exact .nilsl
 | nilpt=>exact .nilpt
 | nilmap=>exact .nilmap
 | nilfn=>exact .nilfn
 | nilifc=>exact .nilifc
 | fn f xs ys us vs hf hl1 h1 hl2 h2 ih1 ih2=>exact .fn f xs ys us vs hf hl1 ih1 hl2 ih2
 | yield l c hr=>exact .yield l c hr
 | ifc t x y h ih=>exact .ifc t x y ih
def vS (J:List Nat) (h:XH):XH:=h.mapIdx fun i x=>if i∈J then x else none
theorem zD {J:List Nat} {h:XH} {i:Nat}:aJ (vS J h) i=if i∈J then aJ h i else none:=by
 unfold vS aJ
 rw[List.getD_eq_getElem?_getD,List.getElem?_mapIdx,List.getD_eq_getElem?_getD]
 cases h[i]? with
 | none=>simp
 | some x=>by_cases hi:i∈J<;>simp[hi]
theorem aIr {h:XH} {H:Hp} (sh:SH D Y r h H) {J:List Nat} (hJ:∀ i∈J,∃ x,aF h i=some x):SHb D' Y' r (vS J h) H:=by
 refine⟨fun b c hb=>by unfold vS;rw[List.length_mapIdx];exact sh.dom b c hb,fun b b' c x y hx hy h1 h2=>?_,fun b x hx=>?_⟩
 ·rw[zD]at hx hy
  split at hx
  ·split at hy
   ·exact sh.inj b b' c x y hx hy h1 h2
   ·cases hy
  ·cases hx
 ·rw[zD]at hx
  split at hx
  ·rename_i hb
   obtain⟨c,y,k1,k2,k3⟩:=sh.blk b x hx
   obtain⟨z,hz⟩:=hJ b hb
   unfold aF at hz
   rw[hx]at hz
   cases x with
   | blk g w =>
     refine⟨⟨g,w,rfl⟩,c,y,k1,k2,?_⟩
     cases k3 with
     | cells _ w xs ys hl hg=>exact .cells c _ _ _ _ ⟨hl.1,fun i a b ha hb=>aIN (hl.2 i a b ha hb)⟩ hg
     | map _ w xs ys hl hg=>exact .map c _ _ _ _ ⟨hl.1,fun i a b ha hb=>⟨aIN (hl.2 i a b ha hb).1,aIN (hl.2 i a b ha hb).2⟩⟩ hg
     | obj _ w o=>exact .obj c _ _ _
   | _=>cases hz
  ·cases hx
end
end Go.DL
namespace Go.Proofs.YtmapgnepfgnphaaGreatDoor
open Go Go.DL
variable {h h':XH} {L:CL} {s:dR}
theorem Lays.only (ly:Lays h L s):Lays (vS (pxs L s) h) L s:=by
 refine ly.fr (J:=(List.range h.length).filter fun b=>decide (b∉pxs L s)) ⟨fun b hb hn=>?_,by unfold vS;rw[List.length_mapIdx];exact Nat.le_refl _⟩ fun j b hb hm=>?_
 ·have:b∈pxs L s:=Classical.byContradiction fun q=>hn (by rw[List.mem_filter,List.mem_range];exact⟨hb,by simpa using q⟩)
  unfold aF
  rw[zD,if_pos this]
 ·rw[List.mem_filter]at hm
  have:b∉pxs L s:=by simpa using hm.2
  exact this (cF.2 ⟨j,hb⟩)
section
variable {D:Nat→Option XFn} {P:dR→ByteArray→Int} {rd:ByteArray→Int ⊕ Wd}
open Classical in
noncomputable def pmSay (P:dR→ByteArray→Int) (rd:ByteArray→Int ⊕ Wd):List AV→XH→Option (AV×XH):=fun xs h=>match xs,h with
 | [.pt 0 0,.str line],[some (.gh s p)]=>if p=IsClk s then some (.str (rP P s line (rd line)).1,[some (.gh (rP P s line (rd line)).2 (IsClk (rP P s line (rd line)).2))]) else none
 | _,_=>none
theorem fK {x:XB} {b:Nat} {y:XB} (h:aJ [some x] b=some y):b=0∧y=x:=by
 cases b with
 | zero=>exact⟨rfl,by simpa [aJ]using h.symm⟩
 | succ b=>simp[aJ]at h
theorem aDB {Y:Nat→Option YI} {r:Nat→Option Nat} {H':Hp} {c:Nat} {s':dR} (hdm:∀ b c,r b=some c→b<1) (hrc:r 0=some c) {D3:Nat→Option XFn} {Y3:Nat→Option YI} {r3:Nat→Option Nat} {h3:XH} {L3:CL} (sh3:SH D3 Y3 r3 h3 H') (h3c:r3 L3.c=some c) (ly3:Lays h3 L3 s') (gs:vJ s') :
 SH D Y r [some (.gh s' (IsClk s'))] H':=by
 have hJ:∀ i∈pxs L3 s',∃ x,aF h3 i=some x:=fun i hi=>by
  obtain⟨j,hj⟩:=cF.1 hi
  exact ly3.live j i hj
 refine⟨fun b c hb=>hdm b c hb,fun b b' c x y hx hy _ _=>(fK hx).1.trans (fK hy).1.symm,fun b x hx=>?_,fun _ n=>∃ i x,aJ (vS (pxs L3 s') h3) i=some x∧r3 i=some n,fun b st q hb=>?_,fun b b' st q x n hb hb' hne _=>absurd ((fK hb).1.trans (fK hb').1.symm) hne⟩
 ·obtain⟨rfl,rfl⟩:=fK hx
  obtain⟨g,hg⟩:=aO ly3.hc
  obtain⟨c',y,k1,k2,_⟩:=sh3.blk _ _ hg
  rw[h3c]at k1
  cases k1
  exact⟨c,y,hrc,k2,.gh c _ _ y⟩
 ·obtain⟨rfl,e⟩:=fK hb
  cases e
  exact⟨c,hrc,vS (pxs L3 s') h3,r3,L3.c,fun D' Y'=>aIr sh3 hJ,h3c,⟨gs,_,L3,rfl,ly3.only,rfl⟩,fun n=>Iff.rfl⟩
open Classical in
noncomputable def pmSayG (Fine:dR→ByteArray→Prop) (A:dR→ByteArray→ByteArray×dR):List AV→XH→Option (AV×XH):=fun xs h=>match xs,h with
 | [.pt 0 0,.str line],[some (.gh s p)]=>if p=IsClk s∧Fine s line then some (.str (A s line).1,[some (.gh (A s line).2 (IsClk (A s line).2))]) else none
 | _,_=>none
theorem aOn {Fine:dR→ByteArray→Prop} {A:dR→ByteArray→ByteArray×dR} (hF:∀ (s:dR) (line:ByteArray) (h:XH) (L:CL),Fine s line→Lays h L s→Cd h→vJ s→aEb h L line (A s line).2 (A s line).1∧vJ (A s line).2):eY D 21 (pmSayG Fine A):=by
 intro B Y r h H xs ys v h' sh hr hx
 unfold pmSayG at hx
 split at hx
 ·rename_i line s p
  split at hx
  ·rename_i hp
   obtain⟨hp,hfine⟩:=hp
   subst hp
   cases hx
   obtain⟨G,hG⟩:=sh.gh
   obtain⟨c,hrc,h0,r0,b0,shb,hb0,hi,hS⟩:=hG.1 0 s _ rfl
   obtain⟨gs,L,ly,hL⟩:=hi.open
   have sb:=shb aB (fun _=>none)
   have s0:SH aB (fun _=>none) r0 h0 H:=⟨sb.dom,sb.inj,fun b x hb=>(sb.blk b x hb).2,GhR.no fun b st p hb=>by obtain⟨g,y,e⟩:=(sb.blk b _ hb).1;cases e⟩
   obtain⟨⟨h3,L3,body,ly3,hL3⟩,gsay⟩:=hF s line h0 L hfine ly (aTG sb) gs
   obtain⟨a,as1,rfl,q1,q2⟩:=hr.inv
   obtain⟨b,as2,rfl,q3,q4⟩:=q2.inv
   rw[q4.nil_inv]
   obtain⟨c',rfl,hc'⟩:=iB q1
   rw[hrc]at hc'
   cases hc'
   rw[bJ q3]
   have hA:RnL aB (fun _=>none) r0 [.pt L.c 0,.str line] [.pt c 0,.str line]:=RnL.cons (.pt _ _ _ (by rw[hL];exact hb0)) (RnL.cons (.str _) RnL.nil)
   have hlen:(h0++eR).length=h0.length+1:=by simp[eR]
   have fw:=aFI (B:=B) (h:=h0) (h1:=h0++eR) (e1:=aP (aM [.pt L.c 0,.str line]) (some 4) (.pt h0.length 0)) aW aDA rfl (xs:=[.pt L.c 0,.str line]) (by simp) rfl rfl (by rw[hlen];omega) (by rw[hlen];exact body) (Y:=fun _=>none) (fun l i h=>by simp at h) s0 hA
   have cv:CallV B Tryz.prog (.fn (.func 21) [] []) [.pt c 0,.str line] H (bR aB (fun _=>none) r0 (.str (A s line).1) h3):=fw
   suffices goal:CallV B Tryz.prog (.fn (.func 21) [] []) [.pt c 0,.str line] H (bR D Y r (.str (A s line).1) [some (.gh (A s line).2 (IsClk (A s line).2))]) from goal
   refine CallV.mono cv fun v' H' hq=>?_
   obtain⟨r3,ha,sh3,hv⟩:=hq
   refine⟨r,fun b c hb=>hb,aDB (fun b c hb=>sh.dom b c hb) hrc sh3 (ha _ _ (by rw[hL3,hL];exact hb0)) ly3 gsay,by rw[bJ hv];exact .str _⟩
  ·cases hx
 ·cases hx
end
end Go.Proofs.YtmapgnepfgnphaaGreatDoor
namespace Go.Proofs.YtmapgnepfgnphaaGreatDoor
open Go Go.DL
set_option maxRecDepth 10000
section
variable {D:Nat→Option XFn} {B:Base}
theorem aBa {K:Nat} {ys:List AV} {v:AV} {h1 h2:XH} {r1:Nat→Option Nat} {H:Hp} (sb:SHb aB (fun _=>none) r1 h1 (fQ H)) (hcall:∀ H1,SH aB (fun _=>none) r1 h1 H1→FnW B Tryz.prog K ys H1 (bR aB (fun _=>none) r1 v h2))
 (hk:∀ b x,aJ h1 b=some x→∃ y,aJ h2 b=some y) (hv:∀ (r:Nat→Option Nat) v',Rn aB (fun _=>none) r v v'→v'=v) :
 CallV B Tryz.prog (.fn (.func K) [] []) ys H fun v' H'=>v'=v∧H'=H:=by
 classical
 have g1:SH aB (fun _=>none) r1 h1 (fun c=>if ∃ b x,aJ h1 b=some x∧r1 b=some c then fQ H c else none):=by
  refine⟨sb.dom,sb.inj,fun b x hb=>?_,GhR.no fun b st p hb=>by obtain⟨g,y,e⟩:=(sb.blk b _ hb).1;cases e⟩
  obtain⟨_,c,y,k1,k2,k3⟩:=sb.blk b x hb
  exact⟨c,y,k1,by rw[if_pos ⟨b,x,hb,k1⟩];exact k2,k3⟩
 have fw:=hcall _ g1
 have hn:[]++ys++[]=ys:=by simp
 rw[←hn]at fw
 have q1:=CallV.quietOf (v:=v) (CallV.mono (CallV.frameS (fv:=.fn (.func K) [] []) (fun c=>∃ b x,aJ h1 b=some x∧r1 b=some c) fw) (by
  rintro v' H'' ⟨H',⟨rl,m1,m2,m3⟩,e1,e2⟩
  refine⟨hv _ _ m3,fun c hc=>?_⟩
  obtain⟨x,hx⟩:=Option.isSome_iff_exists.1 hc
  by_cases hS:∃ b x,aJ h1 b=some x∧r1 b=some c
  ·rw[e1 c (.inl hS)]
   obtain⟨b,x,hb,hrb⟩:=hS
   obtain⟨y,hy⟩:=hk b x hb
   obtain⟨c',y',n1,n2,_⟩:=m2.blk b y hy
   have:=m1 b c hrb
   rw[n1]at this
   simp only[oSI]at this
   subst this
   simp[n2]
  ·simp[(e2 c hS x hx).1]))
 refine q1.conv fun F w st=>⟨aEx st,?_⟩
 rintro e w' ⟨q,v',F',H',rfl,h2,h3,h4,rfl,rfl⟩
 obtain⟨a,b⟩:=vA st h2 h3
 exact⟨q,_,F',H,rfl,a,b,h4,rfl,rfl⟩
theorem nK {K:Nat} {xs ys:List AV} {v:AV} {h1 h2:XH} {r1:Nat→Option Nat} {H:Hp} (sb:SHb aB (fun _=>none) r1 h1 (fQ H)) (hrun:runW aB K xs h1=some (v,h2)) (hA:RnL aB (fun _=>none) r1 xs ys)
 (hk:∀ b x,aJ h1 b=some x→∃ y,aJ h2 b=some y) (hv:∀ (r:Nat→Option Nat) v',Rn aB (fun _=>none) r v v'→v'=v) :
 CallV B Tryz.prog (.fn (.func K) [] []) ys H fun v' H'=>v'=v∧H'=H :=
 aBa sb (fun H1 s1=>(pG aW B (fun _=>none) (fun l i h=>by simp at h)).1 r1 h1 _ K xs ys v h2 s1 hA hrun) hk hv
abbrev kL:List AV:=[.nilpt,.nilpt,.nilpt,.nilpt,.nilsl,I 0,.nilsl]
theorem aQA {g w:Bool} {k:XH}:runW aB 59 [.pt 0 0] (some (.blk g (.cells w kL))::k)=some (.bool true,some (.blk g (.cells w kL))::k):=by
 rw[qY 59 x59 rfl];unfold x59;dsimp only
 (exact RS0)
theorem aQB {h:XH}:runW aB 59 [.nilpt] h=some (.bool true,h):=by
 rw[qY 59 x59 rfl];unfold x59;dsimp only
 (exact RS0)
theorem aTW:runW aB 23 [.nilpt] []=some (.str ⟨⟨[]⟩⟩,[]):=by
 have c:=aQB (h:=[])
 rw[qX 23 x23 rfl];unfold x23;dsimp only
 (exact wN c)
theorem aTV:runW aB 23 [.pt 0 0] [some (.blk false (.cells false kL))]=some (.str ⟨⟨[]⟩⟩,[some (.blk false (.cells false kL))]):=by
 have c:=aQA (g:=false) (w:=false) (k:=[])
 rw[qX 23 x23 rfl];unfold x23;dsimp only
 (exact wN c)
theorem aLz {D':Nat→Option XFn} {Y Y':Nat→Option YI} {r r':Nat→Option Nat} {ys:List AV} (h:RnL D Y r kL ys):RnL D' Y' r' kL ys:=by
 obtain⟨y0,_,rfl,w0,h⟩:=h.inv
 obtain⟨y1,_,rfl,w1,h⟩:=h.inv
 obtain⟨y2,_,rfl,w2,h⟩:=h.inv
 obtain⟨y3,_,rfl,w3,h⟩:=h.inv
 obtain⟨y4,_,rfl,w4,h⟩:=h.inv
 obtain⟨y5,_,rfl,w5,h⟩:=h.inv
 obtain⟨y6,_,rfl,w6,h⟩:=h.inv
 rw[h.nil_inv]
 cases w0;cases w1;cases w2;cases w3;cases w4;cases w5;cases w6
 exact RnL.cons .nilpt (RnL.cons .nilpt (RnL.cons .nilpt (RnL.cons .nilpt (RnL.cons .nilsl (RnL.cons (.int _ _) (RnL.cons .nilsl RnL.nil))))))
theorem aFH {Y:Nat→Option YI} {r:Nat→Option Nat} {H:Hp} {g:Bool} (sh:SH D Y r [some (.blk g (.cells true kL))] H):SHb aB (fun _=>none) r [some (.blk false (.cells false kL))] (fQ H):=by
 refine⟨fun b c hb=>sh.dom b c hb,fun b b' c x y hx hy _ _=>(fK hx).1.trans (fK hy).1.symm,fun b x hx=>?_⟩
 obtain⟨rfl,rfl⟩:=fK hx
 obtain⟨c,y,k1,k2,k3⟩:=sh.blk 0 _ rfl
 refine⟨⟨_,_,rfl⟩,c,?_⟩
 cases k3 with
 | cells _ _ _ ys hl hg=>exact⟨_,k1,by unfold fQ;rw[k2];rfl,.cells _ _ _ _ _ (aLz hl) (by simp)⟩
open Classical in
noncomputable def pmSave:List AV→XH→Option (AV×XH):=fun xs h=>match xs,h with
 | [.pt 0 0],[some (.gh s p)]=>if p=IsClk s then some (.str (iQ s.book),[some (.gh s p)]) else none
 | [.nilpt],[]=>some (.str ⟨⟨[]⟩⟩,[])
 | [.pt 0 0],[some (.blk g (.cells true cs))]=>if cs=kL then some (.str ⟨⟨[]⟩⟩,[some (.blk g (.cells true cs))]) else none
 | _,_=>none
theorem aIO {r r':Nat→Option Nat}:∀ {l:List ByteArray} {ys:List AV},RnL aB (fun _=>none) r (lX l) ys→RnL aB (fun _=>none) r' (lX l) ys
 | [],ys,h=>by rw[h.nil_inv];exact RnL.nil
 | x::l,ys,h=>by
   obtain⟨y,ys',rfl,h1,h2⟩:=RnL.inv (xs:=lX l) h
   rw[bJ h1]
   exact RnL.cons (.str _) (aIO h2)
theorem aSb:eY D 23 pmSave:=by
 intro B Y r h H xs ys v h' sh hr hx
 unfold pmSave at hx
 split at hx
 ·rename_i s p
  split at hx
  ·rename_i hp
   subst hp
   cases hx
   obtain⟨G,hG⟩:=sh.gh
   obtain⟨c,hrc,h0,r0,b0,shb,hb0,hi,hS⟩:=hG.1 0 s _ rfl
   obtain⟨gs,L,ly,hL⟩:=hi.open
   have sb:=shb aB (fun _=>none)
   obtain⟨a,as1,rfl,q1,q2⟩:=hr.inv
   rw[q2.nil_inv]
   obtain⟨c',rfl,hc'⟩:=iB q1
   rw[hrc]at hc'
   cases hc'
   suffices hq:CallV B Tryz.prog (.fn (.func 23) [] []) [.pt c 0] H fun v' H'=>v' = .str (iQ s.book)∧H'=H by
    suffices goal:CallV B Tryz.prog (.fn (.func 23) [] []) [.pt c 0] H (bR D Y r (.str (iQ s.book)) [some (.gh s (IsClk s))]) from goal
    refine CallV.mono hq fun v' H' e=>?_
    obtain⟨rfl,rfl⟩:=e
    exact⟨r,fun b c hb=>hb,sh,.str _⟩
   obtain⟨g,hc⟩:=aO ly.hc
   obtain⟨_,c1,y,k1,k2,k3⟩:=sb.blk _ _ hc
   have e1:c1=c:=by rw[hL,hb0]at k1;exact(Option.some.inj k1).symm
   subst e1
   cases k3 with
   | cells _ _ _ ys hl hg =>
     unfold oP at hl
     obtain⟨y0,_,rfl,w0,hl⟩:=hl.inv
     obtain⟨y1,_,rfl,_,hl⟩:=hl.inv
     obtain⟨y2,_,rfl,_,hl⟩:=hl.inv
     obtain⟨y3,_,rfl,_,hl⟩:=hl.inv
     obtain⟨y4,_,rfl,_,hl⟩:=hl.inv
     obtain⟨y5,_,rfl,_,hl⟩:=hl.inv
     obtain⟨y6,_,rfl,w6,hl⟩:=hl.inv
     rw[hl.nil_inv]at k2
     obtain⟨f,rfl,hf⟩:=iB w0
     have hro:fQ H c1=some (.cells false [.pt f 0,y1,y2,y3,y4,y5,y6]):=by unfold fQ;rw[k2];rfl
     by_cases hk:s.book.length=0
     ·have hb:s.book=[]:=List.eq_nil_of_length_eq_zero hk
      have w6:Rn aB (fun _=>none) r0 (tZ L.kb s.book.length) y6:=w6
      rw[hk]at w6
      have h6:y6 = .nilsl:=by cases w6;rfl
      subst h6
      have hs:iQ s.book=oV:=by rw[hb];rfl
      rw[hs]
      refine nK (r1:=fun i=>if i=0 then some c1 else if i=1 then some f else none) ⟨fun b c hb=>?_,fun b b' c x y hx hy _ _=>?_,fun b x hx=>?_⟩ aTU (RnL.cons (.pt _ _ _ rfl) RnL.nil) (fun b x hx=>?_) fun r v' hv=>bJ hv
      ·split at hb
       ·subst b;simp
       ·split at hb
        ·subst b;simp
        ·cases hb
      ·have f0:∀ b x,aJ [cr0 .nilsl,none] b=some x→b=0:=fun b x h=>by
        match b,h with
        | 0,_=>rfl
        | 1,h=>cases h
        | _+2,h=>simp[aJ]at h
       rw[f0 _ _ hx,f0 _ _ hy]
      ·match b,hx with
       | 0,hx =>
         cases hx
         exact⟨⟨_,_,rfl⟩,c1,_,rfl,hro,.cells _ _ _ _ _ (RnL.cons (.pt _ _ _ rfl) (RnL.cons (.any _) (RnL.cons (.any _) (RnL.cons (.any _) (RnL.cons (.any _) (RnL.cons (.any _) (RnL.cons .nilsl RnL.nil))))))) (by simp)⟩
       | 1,hx=>cases hx
       | _+2,hx=>simp[aJ]at hx
      ·match b,hx with
       | 0,_=>exact⟨_,rfl⟩
       | 1,hx=>cases hx
       | _+2,hx=>simp[aJ]at hx
     ·have w6:Rn aB (fun _=>none) r0 (tZ L.kb s.book.length) y6:=w6
      have hkb:=ly.bk (by omega)
      have ev:tZ L.kb s.book.length = .sl L.kb 0 1 s.book.length:=by
       unfold tZ;rw[if_neg hk]
      rw[ev]at w6
      obtain⟨kb,rfl,hkb'⟩:∃ kb,y6 = .sl kb 0 1 s.book.length∧r0 L.kb=some kb:=by cases w6;exact⟨_,rfl,‹_›⟩
      obtain⟨g2,hc2⟩:=aO hkb
      obtain⟨_,c2,z,m1,m2,m3⟩:=sb.blk _ _ hc2
      rw[hkb']at m1
      cases m1
      cases m3 with
      | cells _ _ _ ys hl2 hg2 =>
      have hro2:fQ H kb=some (.cells false ys):=by unfold fQ;rw[m2];rfl
      have hne:c1≠kb:=fun e=>by
       subst e
       have:=sb.inj _ _ _ _ _ hc hc2 k1 hkb'
       have h1:=ly.dj 0 2 L.c (by simp[px]) (by rw[this];show L.kb∈nV L.kb s.book.length;rw[eW];exact⟨by omega,rfl⟩)
       cases h1
      refine nK (r1:=fun i=>if i=0 then some c1 else if i=1 then some f else if i=2 then some kb else none) ⟨fun b c hb=>?_,fun b b' c x y hx hy a1 a2=>?_,fun b x hx=>?_⟩ (w23 (B:=s.book) (by omega) gs.book) (RnL.cons (.pt _ _ _ rfl) RnL.nil) (fun b x hx=>?_) fun r v' hv=>bJ hv
      ·split at hb
       ·subst b;simp
       ·split at hb
        ·subst b;simp
        ·split at hb
         ·subst b;simp
         ·cases hb
      ·have f0:∀ b x,aJ [cr0 (.sl 2 0 1 s.book.length),none,rI s.book] b=some x→b=0∨b=2:=fun b x h=>by
        match b,h with
        | 0,_=>exact .inl rfl
        | 1,h=>cases h
        | 2,_=>exact .inr rfl
        | _+3,h=>simp[aJ]at h
       rcases f0 _ _ hx with rfl|rfl<;>rcases f0 _ _ hy with rfl|rfl
       ·rfl
       ·simp at a1 a2;exact absurd (a1.trans a2.symm) hne
       ·simp at a1 a2;exact absurd (a2.trans a1.symm) hne
       ·rfl
      ·match b,hx with
       | 0,hx =>
         cases hx
         exact⟨⟨_,_,rfl⟩,c1,_,rfl,hro,.cells _ _ _ _ _ (RnL.cons (.pt _ _ _ rfl) (RnL.cons (.any _) (RnL.cons (.any _) (RnL.cons (.any _) (RnL.cons (.any _) (RnL.cons (.any _) (RnL.cons (.sl _ _ _ _ _ rfl) RnL.nil))))))) (by simp)⟩
       | 1,hx=>cases hx
       | 2,hx =>
         cases hx
         exact⟨⟨_,_,rfl⟩,kb,_,rfl,hro2,.cells _ _ _ _ _ (aIO hl2) fun _=>jG _⟩
       | _+3,hx=>simp[aJ]at hx
      ·match b,hx with
       | 0,_=>exact⟨_,rfl⟩
       | 1,hx=>cases hx
       | 2,_=>exact⟨_,rfl⟩
       | _+3,hx=>simp[aJ]at hx
  ·cases hx
 ·cases hx
  obtain⟨a,as1,rfl,q1,q2⟩:=hr.inv
  rw[q2.nil_inv]
  have q3:a = .nilpt:=by cases q1;rfl
  subst q3
  refine(show CallV B Tryz.prog (.fn (.func 23) [] []) [.nilpt] H (bR D Y r (.str ⟨⟨[]⟩⟩) []) from CallV.mono (nK (h1:=[]) (r1:=fun _=>none) ⟨fun b c hb=>(by cases hb),fun b b' c x y hx=>by simp[aJ]at hx,fun b x hx=>by simp[aJ]at hx⟩ aTW (RnL.cons .nilpt RnL.nil) (fun b x hx=>by simp[aJ]at hx) fun r v' hv=>bJ hv) fun v' H' e=>?_)
  obtain⟨rfl,rfl⟩:=e
  exact⟨r,fun b c hb=>hb,sh,.str _⟩
 ·rename_i g cs
  split at hx
  ·rename_i hp
   subst hp
   cases hx
   obtain⟨a,as1,rfl,q1,q2⟩:=hr.inv
   rw[q2.nil_inv]
   obtain⟨c,rfl,hc⟩:=iB q1
   refine(show CallV B Tryz.prog (.fn (.func 23) [] []) [.pt c 0] H (bR D Y r (.str ⟨⟨[]⟩⟩) _) from CallV.mono (nK (r1:=r) (aFH sh) aTV (RnL.cons (.pt _ _ _ hc) RnL.nil) (fun b x hx=>⟨_,hx⟩) fun r v' hv=>bJ hv) fun v' H' e=>?_)
   obtain⟨rfl,rfl⟩:=e
   exact⟨r,fun b c hb=>hb,sh,.str _⟩
  ·cases hx
 ·cases hx
end
end Go.Proofs.YtmapgnepfgnphaaGreatDoor
namespace Go.Proofs.YtmapgnepfgnphaaGreatDoor
open Go Go.DL
set_option maxRecDepth 100000
set_option maxHeartbeats 4000000
theorem aIu {h:XH} {cv:AV} {line:ByteArray} (hcv:cv = .nilpt∨cv = .pt 0 0) (hp:runW aB 59 [cv] (h++eR)=some (.bool true,h++eR)) :
 aKP aB d21 h.length 0 (h.length+1) (upd (upd (aM [cv,.str line]) 4 (.pt h.length 0)) 7 .any) (h++eR) ((h++eR).set h.length (some (.blk true (.cells true [.str (yX 9)])))++[some (.blk true (.cells true [I 9]))]) (.str (yX 9)):=by
 have he:(9:Int)∈wG:=by simp[wG]
 have n2:aJ (h++eR) h.length=some (.blk true (.cells true [.str ⟨⟨[]⟩⟩])):=by
  unfold aJ eR
  rw[List.getD_eq_getElem?_getD,List.getElem?_append_right (Nat.le_refl _),Nat.sub_self];rfl
 refine .inr ⟨.agg [I 9],eD [4] [.pt h.length 0],h++eR,?_,aDz n2 he,?_⟩
 ·unfold b21
  refine PanX.seqL ?_
  refine PanX.reg (p:=[⟨0,some 8,.mv (.t 0),none⟩,⟨0,some 9,.callf false (.c (.fn (.func 59) [] [])) [.t 8] [],none⟩,⟨0,some 10,.not (.t 9),none⟩]) (post:=[]) aW [4] (g:=58) (first:=[]) (cap:=[]) (args:=[.bool false,I 9]) (vs:=[.pt h.length 0]) (h1:=h++eR) rfl rfl ?_ (c58 9 _)
  obtain⟨n,hn⟩:∃ n,h.length=n:=⟨_,rfl⟩
  rw[hn]
  unfold eR at *
  rcases hcv with rfl|rfl
  all_goals (exact RS2 hn hp)
 ·refine wR rfl ?_
  have hl:h.length<(h++eR).length:=by simp[eR]
  rw[gX,if_pos (by rw[List.length_set];exact hl),cM,if_pos rfl,if_pos hl]
end Go.Proofs.YtmapgnepfgnphaaGreatDoor
namespace Go.Proofs.YtmapgnepfgnphaaGreatDoor
open Go Go.DL
set_option maxRecDepth 10000
section
variable {D:Nat→Option XFn} {B:Base}
open Classical in
noncomputable def pmSayZ (Fine:dR→ByteArray→Prop) (A:dR→ByteArray→ByteArray×dR):List AV→XH→Option (AV×XH):=fun xs h=>match xs,h with
 | [.nilpt,.str _],[]=>some (.str (yX 9),[])
 | [.pt 0 0,.str _],[some (.blk g (.cells true cs))]=>if cs=kL then some (.str (yX 9),[some (.blk g (.cells true cs))]) else none
 | xs,h=>pmSayG Fine A xs h
theorem aAO {cv cv':AV} {line:ByteArray} {h:XH} {r1:Nat→Option Nat} {H:Hp} (hcv:cv = .nilpt∨cv = .pt 0 0) (hp:runW aB 59 [cv] (h++eR)=some (.bool true,h++eR)) (sb:SHb aB (fun _=>none) r1 h (fQ H)) (hA:RnL aB (fun _=>none) r1 [cv,.str line] [cv',.str line]) :
 CallV B Tryz.prog (.fn (.func 21) [] []) [cv',.str line] H fun v' H'=>v' = .str (yX 9)∧H'=H:=by
 have hlen:(h++eR).length=h.length+1:=by simp[eR]
 refine aBa (h1:=h) (h2:=(h++eR).set h.length (some (.blk true (.cells true [.str (yX 9)])))++[some (.blk true (.cells true [I 9]))]) sb (fun H1 s1=>?_) (fun b x hb=>?_) fun r v' hv=>bJ hv
 ·have body:=aIu (line:=line) hcv hp
  refine aFI (B:=B) (h:=h) (h1:=h++eR) (e1:=aP (aM [cv,.str line]) (some 4) (.pt h.length 0)) aW aDA rfl (xs:=[cv,.str line]) (by simp) ?_ rfl (by rw[hlen];omega) (by rw[hlen];exact body) (Y:=fun _=>none) (fun l i h=>by simp at h) s1 hA
  rcases hcv with rfl|rfl<;>rfl
 ·have hl:=lY hb
  refine⟨x,?_⟩
  unfold aJ at hb ⊢
  rw[List.getD_eq_getElem?_getD]at hb ⊢
  rw[List.getElem?_append_left (by rw[List.length_set,hlen];omega),List.getElem?_set_ne (by omega),List.getElem?_append_left hl]
  exact hb
theorem aOl {Fine:dR→ByteArray→Prop} {A:dR→ByteArray→ByteArray×dR} (hF:eY D 21 (pmSayG Fine A)):eY D 21 (pmSayZ Fine A):=by
 intro B Y r h H xs ys v h' sh hr hx
 unfold pmSayZ at hx
 split at hx
 ·cases hx
  obtain⟨a,as1,rfl,q1,q2⟩:=hr.inv
  obtain⟨b,as2,rfl,q3,q4⟩:=q2.inv
  rw[q4.nil_inv,bJ q3]
  have q5:a = .nilpt:=by cases q1;rfl
  subst q5
  refine(show CallV B Tryz.prog (.fn (.func 21) [] []) [.nilpt,_] H (bR D Y r (.str (yX 9)) []) from CallV.mono (aAO (cv:=.nilpt) (h:=[]) (r1:=fun _=>none) (.inl rfl) aQB ⟨fun b c hb=>(by cases hb),fun b b' c x y hx=>by simp[aJ]at hx,fun b x hx=>by simp[aJ]at hx⟩ (RnL.cons .nilpt (RnL.cons (.str _) RnL.nil))) fun v' H' e=>?_)
  obtain⟨rfl,rfl⟩:=e
  exact⟨r,fun b c hb=>hb,sh,.str _⟩
 ·rename_i line g cs
  split at hx
  ·rename_i hp
   subst hp
   cases hx
   obtain⟨a,as1,rfl,q1,q2⟩:=hr.inv
   obtain⟨b,as2,rfl,q3,q4⟩:=q2.inv
   rw[q4.nil_inv,bJ q3]
   obtain⟨c,rfl,hc⟩:=iB q1
   refine(show CallV B Tryz.prog (.fn (.func 21) [] []) [.pt c 0,_] H (bR D Y r (.str (yX 9)) _) from CallV.mono (aAO (cv:=.pt 0 0) (h:=[some (.blk false (.cells false kL))]) (r1:=r) (.inr rfl) (aQA (g:=false) (w:=false)) (aFH sh) (RnL.cons (.pt _ _ _ hc) (RnL.cons (.str _) RnL.nil))) fun v' H' e=>?_)
   obtain⟨rfl,rfl⟩:=e
   exact⟨r,fun b c hb=>hb,sh,.str _⟩
  ·cases hx
 ·exact hF B Y r h H xs ys v h' sh hr hx
end
end Go.Proofs.YtmapgnepfgnphaaGreatDoor
namespace Go.Proofs.YtmapgnepfgnphaaGreatDoor
open Go Go.DL
set_option maxRecDepth 100000
set_option maxHeartbeats 4000000
theorem w52 {n:Int}:runW aB 52 [I n] []=some (.pt 0 0,[some (.blk false (.cells true [.nilsl,.mp 1,I n])),some (.blk true (.map true []))]):=by
 rw[qX 52 x52 rfl];unfold x52;dsimp only
 (exact RS0)
theorem w53 {n:Int}:runW aB 53 [I n] []=some (.pt 0 0,[some (.blk false (.cells true [.nilsl,.mp 1,I n])),some (.blk true (.map true []))]):=by
 rw[qX 53 x53 rfl];unfold x53;dsimp only
 (exact RS0)
theorem w54 {n:Int}:runW aB 54 [I n] []=some (.pt 0 0,[some (.blk false (.cells true [.nilsl,.mp 1,I n])),some (.blk true (.map true []))]):=by
 rw[qX 54 x54 rfl];unfold x54;dsimp only
 (exact RS0)
theorem w55 {n:Int}:runW aB 55 [I n] []=some (.pt 0 0,[some (.blk false (.cells true [.nilsl,.mp 1,I n])),some (.blk true (.map true []))]):=by
 rw[qX 55 x55 rfl];unfold x55;dsimp only
 (exact RS0)
def aEQ:XH:=[some (.blk false (.cells true [.pt 1 0,.pt 3 0,.pt 5 0,.pt 7 0,.nilsl,I 0,.nilsl])),some (.blk false (.cells true [.nilsl,.mp 2,I 9])),some (.blk true (.map true [])),some (.blk false (.cells true [.nilsl,.mp 4,I 5])),some (.blk true (.map true [])),some (.blk false (.cells true [.nilsl,.mp 6,I 5])),some (.blk true (.map true [])),some (.blk false (.cells true [.nilsl,.mp 8,I 300])),some (.blk true (.map true []))]
theorem w19:runW aB 19 [] []=some (.pt 0 0,aEQ):=by
 have a:=w52 (n:=9)
 have b:=w53 (n:=5)
 have c:=w54 (n:=5)
 have d:=w55 (n:=300)
 rw[qX 19 x19 rfl];unfold x19 aEQ;dsimp only
 (exact RS4 a b c d)
def mH:dR:=⟨[],[],[],[],[],0,[]⟩
def aAB:CL:=⟨0,0,0,[],⟨1,2,0,[]⟩,⟨3,4,0,[]⟩,⟨5,6,0,[]⟩,⟨7,8,0,[]⟩⟩
theorem aCd {o m:Nat} {t:Int} (h1:aF aEQ o=some (.cells true [.nilsl,.mp m,I t])) (h2:aF aEQ m=some (.map true [])) (hne:o≠m):Od aEQ ⟨o,m,0,[]⟩ [] [] t:=by
 refine⟨⟨fun p hp=>?_,?_⟩,rfl,rfl⟩
 ·have hp:p∈[(o,ABlk.cells true [.nilsl,.mp m,I t]),(m,ABlk.map true [])]:=hp
  simp only[List.mem_cons,List.not_mem_nil,or_false]at hp
  rcases hp with rfl|rfl
  ·exact h1
  ·exact h2
 ·show [o,m].Nodup
  simp[hne]
theorem aJJ:Lays aEQ aAB mH where
 hc:=rfl
 tk:=⟨rfl,fun h=>absurd h (by decide),fun i e k h1 _=>by simp[aAB]at h1,List.nodup_nil,fun h=>absurd h (by decide)⟩
 bk h:=absurd h (by decide)
 f:=aCd rfl rfl (by decide)
 m:=aCd rfl rfl (by decide)
 p:=aCd rfl rfl (by decide)
 w:=aCd rfl rfl (by decide)
 dj i j b hi hj:=by
  have p:∀ i b,b∈px aAB mH i→(i=0∧b=0)∨(i=3∧(b=1∨b=2))∨(i=4∧(b=3∨b=4))∨(i=5∧(b=5∨b=6))∨(i=6∧(b=7∨b=8)):=fun i b h=>by
   match i,h with
   | 0,h=>simpa [px,aAB]using h
   | 1,h=>simp[px,nV,aAB,mH]at h
   | 2,h=>simp[px,nV,aAB,mH]at h
   | 3,h=>simpa [px,idx,aAB,mH]using h
   | 4,h=>simpa [px,idx,aAB,mH]using h
   | 5,h=>simpa [px,idx,aAB,mH]using h
   | 6,h=>simpa [px,idx,aAB,mH]using h
   | _+7,h=>cases h
  have a:=p i b hi
  have c:=p j b hj
  omega
theorem aJY:vJ mH:=by
 refine⟨by decide,List.nodup_nil,by decide,by decide,by decide,by decide,by decide,by decide,?_,?_,?_,?_,?_,?_⟩
 all_goals intro p hp;cases hp
def aFV:List AV→XH→Option (AV×XH):=fun xs h=>match xs,h with
 | [],[]=>some (.pt 0 0,[some (.gh mH (IsClk mH))])
 | _,_=>none
theorem aSc {D:Nat→Option XFn}:eY D 19 aFV:=by
 intro B Y r h H xs ys v h' sh hr hx
 unfold aFV at hx
 split at hx
 ·cases hx
  rw[hr.nil_inv]
  have s0:SH aB (fun _=>none) (fun _=>none) [] H:=⟨fun b c hb=>by simp at hb,fun b c c' x y hx=>by simp[aJ]at hx,fun b x hx=>by simp[aJ]at hx,GhR.no fun b st p hx=>by simp[aJ]at hx⟩
  have fw:=(pG aW B (fun _=>none) (fun l i h=>by simp at h)).1 (fun _=>none) [] H 19 [] [] _ _ s0 RnL.nil w19
  have cv:CallV B Tryz.prog (.fn (.func 19) [] []) [] H (bR aB (fun _=>none) (fun _=>none) (.pt 0 0) aEQ):=fw
  suffices goal:CallV B Tryz.prog (.fn (.func 19) [] []) [] H (bR D Y r (.pt 0 0) [some (.gh mH (IsClk mH))]) from goal
  refine CallV.mono cv fun v' H' hq=>?_
  obtain⟨r3,ha,sh3,hv⟩:=hq
  obtain⟨c,rfl,hc⟩:=iB hv
  have rno:∀ b c,r b=some c→False:=fun b c hb=>by have:=sh.dom b c hb;simp at this
  refine⟨fun b=>if b=0 then some c else none,fun b c' hb=>(rno b c' hb).elim,aDB (fun b c' hb=>?_) rfl sh3 (by exact hc) aJJ aJY,.pt _ _ _ rfl⟩
  split at hb
  ·omega
  ·cases hb
 ·cases hx
variable {h h' h1:XH} {L:CL} {s:dR} {x line:ByteArray} {w:Wd} {v:AV}
def lnA:ByteArray:=⟨⟨[112,97,110,32,112,32,49,32,48]⟩⟩
def lH:ByteArray:=⟨⟨[112,97,110,32,112,32,53,32,51]⟩⟩
def lnC:ByteArray:=⟨⟨[112,97,110,32,112,32,51,32,53]⟩⟩
def lnD:ByteArray:=⟨⟨[108,111,115,115,32,112]⟩⟩
abbrev pB:ByteArray:=⟨⟨[112]⟩⟩
abbrev aOu (a b:ByteArray) (x y:Int):AV:=.agg [.str ⟨⟨[112,97,110]⟩⟩,.fs [[.str pB],[.str a],[.str b]],.fs [[I 0],[I x],[I y]]]
theorem p60 {line:ByteArray} {v:AV} (hx:bU aB 400 60 [.str line] []=some (v,[])):runW aB 60 [.str line] []=some (v,[]):=eA.2 ⟨400,hx⟩
theorem pA:bU aB 400 60 [.str lnA] []=some (aOu ⟨⟨[49]⟩⟩ ⟨⟨[48]⟩⟩ 1 0,[]):=by kernel_rfl
theorem pB':bU aB 400 60 [.str lH] []=some (aOu ⟨⟨[53]⟩⟩ ⟨⟨[51]⟩⟩ 5 3,[]):=by kernel_rfl
theorem pC:bU aB 400 60 [.str lnC] []=some (aOu ⟨⟨[51]⟩⟩ ⟨⟨[53]⟩⟩ 3 5,[]):=by kernel_rfl
theorem pD:bU aB 400 60 [.str lnD] []=some (.agg [.str ⟨⟨[108,111,115,115]⟩⟩,.fs [[.str pB]],.fs [[I 0]]],[]):=by kernel_rfl
def wdP (line:ByteArray):Wd:=if line=lnA then .pan pB 1 0 else if line=lH then .pan pB 5 3 else if line=lnC then .pan pB 3 5 else .loss pB
def lF (s:dR) (line:ByteArray):Prop:=line=lnA∨line=lH∨line=lnC∨(line=lnD∧∃ z,kP s.pans pB=some z)
def jH (s:dR) (line:ByteArray):ByteArray×dR:=rP (fun _ _=>0) s line (.inr (wdP line))
theorem aCc {a b:Int} (hp:runW aB 60 [.str line] []=some (v,[])) (hw:IsW (.pan pB a b) v) (ly:Lays h L s) (gs:vJ s):aEb h L line (rP (fun _ _=>0) s line (.inr (.pan pB a b))).2 (rP (fun _ _=>0) s line (.inr (.pan pB a b))).1∧vJ (rP (fun _ _=>0) s line (.inr (.pan pB a b))).2:=by
 have hbk:=gs.book
 unfold rP
 dsimp only[Wd.asks]
 simp only[Bool.false_eq_true,if_false]
 cases hc:sH s (.pan pB a b)with
 | some e=>exact⟨aIx ly (aFk hc) hp hw fun k=>aFl (ly.ext k) hw hc,gs⟩
 | none =>
   dsimp only
   have co:∀ k:XH,aGC (h++k) L s v (doW s (.pan pB a b)):=fun k=>aMq (ly.ext k) gs hw hc
   by_cases hl:s.book.length=300
   ·rw[if_pos hl];exact⟨aIv ly hp hw co hl,gs⟩
   ·rw[if_neg hl];exact⟨aIw ly hp hw (by omega) co,aJX gs hw hc (by omega)⟩
theorem aHs (hf:lF s line) (ly:Lays h L s) (cd:Cd h) (gs:vJ s):aEb h L line (jH s line).2 (jH s line).1∧vJ (jH s line).2:=by
 unfold jH
 rcases hf with rfl|rfl|rfl|⟨rfl,z,hz⟩
 ·rw[show wdP lnA = .pan pB 1 0 from if_pos rfl]
  exact aCc (p60 pA) ⟨by decide,_,_,_,rfl⟩ ly gs
 ·rw[show wdP lH = .pan pB 5 3 from (if_neg (by decide)).trans (if_pos rfl)]
  exact aCc (p60 pB') ⟨by decide,_,_,_,rfl⟩ ly gs
 ·rw[show wdP lnC = .pan pB 3 5 from (if_neg (by decide)).trans ((if_neg (by decide)).trans (if_pos rfl))]
  exact aCc (p60 pC) ⟨by decide,_,_,_,rfl⟩ ly gs
 ·rw[show wdP lnD = .loss pB from (if_neg (by decide)).trans ((if_neg (by decide)).trans (if_neg (by decide)))]
  unfold rP aMx
  dsimp only[Wd.asks]
  simp only[if_true]
  rw[hz]
  have hw:IsW (.loss pB) (.agg [.str ⟨⟨[108,111,115,115]⟩⟩,.fs [[.str pB]],.fs [[I 0]]]):=⟨0,rfl⟩
  obtain⟨i,hi,hy⟩:=aGJ hz
  have:=gs.bp _ (List.mem_of_getElem? hy)
  have hbk:=gs.book
  have bxs:∀ cs:List AV,∀ x∈[some (XB.blk false (.cells true [.pt L.c 0])),some (.blk true (.cells true cs))],∀ b∈nmO x,b=L.c:=fun cs x hx b hb=>by
   simp only[List.mem_cons,List.not_mem_nil,or_false]at hx
   rcases hx with rfl|rfl
   ·simpa [nmO,nmB,nP,kU]using hb
   ·simp[nmO,nmB]at hb
  exact⟨aLw ly cd (p60 pD) hw (fun k=>⟨_,aKU,bxs _⟩) fun hh lyh _=>⟨_,aKT lyh hi hy (by simp only at this;omega),(Fr.app hh _).frz⟩,gs⟩
theorem aOm {D:Nat→Option XFn}:eY D 21 (pmSayZ lF jH):=aOl (aOn fun _ _ _ _ hf ly cd gs=>aHs hf ly cd gs)
end Go.Proofs.YtmapgnepfgnphaaGreatDoor
namespace Go.Proofs.YtmapgnepfgnphaaGreatDoor
open Go Go.DL Go.Proofs.Tryz
set_option maxRecDepth 100000
set_option maxHeartbeats 4000000
theorem aJe {D:Nat→Option XFn} {K:Nat} {f:List AV→XH→Option (AV×XH)} (hf:∀ xs h v h',f xs h=some (v,h')→h=[]∧h'=[]∧jK xs=true∧Gd v∧runW aB K xs []=some (v,[])):eY D K f:=by
 intro B Y r h H xs ys v h' sh hr hx
 obtain⟨rfl,rfl,gx,gv,hrun⟩:=hf _ _ _ _ hx
 obtain⟨rfl,gxs⟩:=hr.same gx
 have rno:∀ b c,r b=some c→False:=fun b c hb=>by have:=sh.dom b c hb;simp at this
 have sh0:∀ (D':Nat→Option XFn) (Y':Nat→Option YI) (r':Nat→Option Nat) (H':Hp),(∀ b c,r' b=some c→False)→SH D' Y' r' [] H':=fun D' Y' r' H' hn=>⟨fun b c hb=>(hn b c hb).elim,fun b c c' x y hx=>by simp[aJ]at hx,fun b x hx=>by simp[aJ]at hx,GhR.no fun b st p hx=>by simp[aJ]at hx⟩
 have fw:=(pG aW B (fun _=>none) (fun l i h=>by simp at h)).1 (fun _=>none) [] H K ys ys v [] (sh0 _ _ _ _ fun b c hb=>by cases hb) ⟨rfl,fun i a b ha hb=>by rw[ha]at hb;cases hb;exact(gxs a (List.mem_of_getElem? ha)).rn⟩ hrun
 have cv:CallV B Tryz.prog (.fn (.func K) [] []) ys H (bR aB (fun _=>none) (fun _=>none) v []):=by
  have hn:[]++ys++[]=ys:=by simp
  rw[←hn]at fw
  exact fw
 have goal:CallV B Tryz.prog (.fn (.func K) [] []) ys H (bR D Y r v []):=CallV.mono cv fun v' H' hq=>by
  obtain⟨r3,ha,sh3,hv⟩:=hq
  obtain⟨rfl,_⟩:=hv.same gv.gr
  exact⟨r,fun b c hb=>hb,sh0 _ _ _ _ rno,gv.rn⟩
 have hn:ys=[]++ys++[]:=by simp
 rw[hn]
 exact goal
theorem aTv (l:List ByteArray):Gd (.fs (rS l)):=.fs _ fun r hr c hc=>by
 unfold rS at hr
 obtain⟨s,_,rfl⟩:=List.mem_map.1 hr
 rw[List.mem_singleton.1 hc]
 exact .str s
theorem aNm {a:AV} (ha:Gd a) (x y:Int):Gd (.tup [a,I x,I y]):=.tup _ fun c hc=>by
 simp only[List.mem_cons,List.not_mem_nil,or_false]at hc
 rcases hc with rfl|rfl|rfl
 ·exact ha
 ·exact .int _ _
 ·exact .int _ _
theorem aDC (e:Int):Gd (erV e):=aNm (.fs _ fun _ h=>by cases h) _ _
theorem aTw (s:ByteArray) (row:Int):Gd (mnV s row):=by
 unfold mnV
 split
 ·split
  ·exact aDC _
  ·split
   ·exact aDC _
   ·unfold pX
    repeat' split
    all_goals first|exact aDC _|(unfold yT;split<;>first|exact aDC _|exact aNm (aTv _) _ _)
 ·exact aDC _
def aBZ:List AV→XH→Option (AV×XH):=fun xs h=>match xs,h with
 | [.str s,.int .i64 row],[]=>if s.size≤1000000 then some (mnV s row,[]) else none
 | _,_=>none
def pgX:ByteArray:=pgB [lH] 360
def uR:List AV→XH→Option (AV×XH):=fun xs h=>match xs,h with
 | [.sl 0 0 1 1,.int .i64 360],[some (.blk true (.cells true [.str l]))]=>if l=lH then some (.tup [.str pgX,I 0],[none]) else none
 | _,_=>none
theorem k14:bU aB 400 14 [.sl 0 0 1 1,I 360] [some (.blk true (.cells true [.str lH]))]=some (.tup [.str pgX,I 0],[none]):=by kernel_rfl
theorem aSd {D:Nat→Option XFn}:eY D 16 aBZ:=aJe fun xs h v h' hx=>by
 unfold aBZ at hx
 split at hx
 ·split at hx
  ·rename_i hs
   cases hx
   exact⟨rfl,rfl,rfl,aTw _ _,w16 hs⟩
  ·cases hx
 ·cases hx
theorem aSe {D:Nat→Option XFn}:eY D 14 uR:=by
 intro B Y r h H xs ys v h' sh hr hx
 unfold uR at hx
 split at hx
 ·rename_i l
  split at hx
  ·rename_i hp
   subst hp
   cases hx
   obtain⟨a,as1,rfl,q1,q2⟩:=hr.inv
   obtain⟨b,as2,rfl,q3,q4⟩:=q2.inv
   rw[q4.nil_inv]
   obtain⟨c,rfl,hc⟩:∃ c,a = .sl c 0 1 1∧r 0=some c:=by cases q1;exact⟨_,rfl,‹_›⟩
   have q5:b=I 360:=by cases q3;rfl
   subst q5
   have gd:Gd (.tup [.str pgX,I 0]):=.tup _ fun c hc=>by
    simp only[List.mem_cons,List.not_mem_nil,or_false]at hc
    rcases hc with rfl|rfl
    ·exact .str _
    ·exact .int _ _
   have sb:SH aB (fun _=>none) r [some (.blk true (.cells true [.str lH]))] H:=by
    refine⟨fun b c hb=>sh.dom b c hb,fun b b' c x y hx hy _ _=>(fK hx).1.trans (fK hy).1.symm,fun b x hx=>?_,GhR.no fun b st p hb=>by obtain⟨_,e⟩:=fK hb;cases e⟩
    obtain⟨rfl,rfl⟩:=fK hx
    obtain⟨c,y,k1,k2,k3⟩:=sh.blk 0 _ rfl
    refine⟨c,?_⟩
    cases k3 with
    | cells _ _ _ ys hl hg =>
      obtain⟨y0,_,rfl,w0,hl⟩:=hl.inv
      rw[hl.nil_inv]at k2
      rw[bJ w0]at k2
      exact⟨_,k1,k2,.cells _ _ _ _ _ (RnL.cons (.str _) RnL.nil) (by simp[jK,fX])⟩
   have fw:=(pG aW B (fun _=>none) (fun l i h=>by simp at h)).1 r _ H 14 _ [.sl c 0 1 1,I 360] _ _ sb (RnL.cons (.sl _ _ _ _ _ hc) (RnL.cons (.int _ _) RnL.nil)) (eA.2 ⟨400,k14⟩)
   have cv:CallV B Tryz.prog (.fn (.func 14) [] []) [.sl c 0 1 1,I 360] H (bR aB (fun _=>none) r (.tup [.str pgX,I 0]) [none]):=fw
   refine(show CallV B Tryz.prog (.fn (.func 14) [] []) [.sl c 0 1 1,I 360] H (bR D Y r (.tup [.str pgX,I 0]) [none]) from CallV.mono cv fun v' H' e=>?_)
   obtain⟨r3,ha,sh3,hv⟩:=e
   obtain⟨rfl,_⟩:=hv.same gd.gr
   have no:∀ b x,aJ ([none]:XH) b=some x→False:=fun b x h=>by
    match b,h with
    | 0,h=>cases h
    | _+1,h=>simp[aJ]at h
   exact⟨r,fun b c hb=>hb,⟨fun b c hb=>sh.dom b c hb,fun b b' c x y hx=>(no _ _ hx).elim,fun b x hx=>(no _ _ hx).elim,GhR.no fun b st p hx=>no _ _ hx⟩,gd.rn⟩
  ·cases hx
 ·cases hx
noncomputable def progG (K:Nat):Option XFn:=match K with
 | 14=>some (gS uR)
 | 16=>some (gS aBZ)
 | 19=>some (gS aFV)
 | 21=>some (gS (pmSayZ lF jH))
 | 23=>some (gS pmSave)
 | K=>aB K
theorem aJd:XOk prog progG:=by
 refine XOk.over progX_ok fun K d hd=>?_
 unfold progG at hd
 split at hd
 ·cases hd;exact .inr ⟨_,_,rfl,aSe⟩
 ·cases hd;exact .inr ⟨_,_,rfl,aSd⟩
 ·cases hd;exact .inr ⟨_,_,rfl,aSc⟩
 ·cases hd;exact .inr ⟨_,_,rfl,aOm⟩
 ·cases hd;exact .inr ⟨_,_,rfl,aSb⟩
 ·unfold aB at hd
  split at hd
  ·cases hd;exact .inr ⟨_,_,rfl,aNj⟩
  ·cases hd;exact .inr ⟨_,_,rfl,aNi⟩
  ·unfold aH at hd
   split at hd
   ·cases hd;exact .inr ⟨_,_,rfl,aJo⟩
   ·cases hd;exact .inr ⟨_,_,rfl,aJn⟩
   ·cases hd;exact .inr ⟨_,_,rfl,aJm⟩
   ·cases hd;exact .inr ⟨_,_,rfl,aJl⟩
   ·cases hd;exact .inr ⟨_,_,rfl,aJk⟩
   ·cases hd;exact .inr ⟨_,_,rfl,aJj⟩
   ·cases hd;exact .inr ⟨_,_,rfl,aJi⟩
   ·cases hd;exact .inr ⟨_,_,rfl,aJh⟩
   ·cases hd;exact .inr ⟨_,_,rfl,aJg⟩
   ·cases hd;exact .inr ⟨_,_,rfl,aEF⟩
   ·cases hd;exact .inr ⟨_,_,rfl,aEE⟩
   ·cases hd;exact .inr ⟨_,_,rfl,aJf⟩
   ·exact .inl ⟨hd,aLF hd⟩
noncomputable abbrev gK (s:dR):Option XB:=some (.gh s (IsClk s))
theorem g21 (s:dR) (line:ByteArray) (hf:lF s line):runW progG 21 [.pt 0 0,.str line] [gK s]=some (.str (jH s line).1,[gK (jH s line).2]):=by
 rw[cI (d:=gS (pmSayZ lF jH)) rfl rfl]
 show pmSayG lF jH [.pt 0 0,.str line] [gK s]=_
 unfold pmSayG
 exact if_pos ⟨rfl,hf⟩
theorem aWM (line:ByteArray):runW progG 21 [.nilpt,.str line] []=some (.str (yX 9),[]):=by
 rw[cI (d:=gS (pmSayZ lF jH)) rfl rfl];rfl
theorem aWL (line:ByteArray) (g:Bool):runW progG 21 [.pt 0 0,.str line] [some (.blk g (.cells true kL))]=some (.str (yX 9),[some (.blk g (.cells true kL))]):=by
 rw[cI (d:=gS (pmSayZ lF jH)) rfl rfl]
 exact if_pos rfl
theorem g23 (s:dR):runW progG 23 [.pt 0 0] [gK s]=some (.str (iQ s.book),[gK s]):=by
 rw[cI (d:=gS pmSave) rfl rfl]
 exact if_pos rfl
theorem aWK:runW progG 23 [.nilpt] []=some (.str ⟨⟨[]⟩⟩,[]):=by
 rw[cI (d:=gS pmSave) rfl rfl];rfl
theorem aWJ (g:Bool):runW progG 23 [.pt 0 0] [some (.blk g (.cells true kL))]=some (.str ⟨⟨[]⟩⟩,[some (.blk g (.cells true kL))]):=by
 rw[cI (d:=gS pmSave) rfl rfl]
 exact if_pos rfl
theorem g19:runW progG 19 [] []=some (.pt 0 0,[gK mH]):=by
 rw[cI (d:=gS aFV) rfl rfl];rfl
theorem g13:runW progG 13 [] []=some (.bool true,[]):=by
 rw[cI (d:=gS wT) rfl rfl];rfl
theorem g16 {s:ByteArray} {row:Int} (hs:s.size≤1000000):runW progG 16 [.str s,I row] []=some (mnV s row,[]):=by
 rw[cI (d:=gS aBZ) rfl rfl]
 exact if_pos hs
theorem g14:runW progG 14 [.sl 0 0 1 1,I 360] [some (.blk true (.cells true [.str lH]))]=some (.tup [.str pgX,I 0],[none]):=by
 rw[cI (d:=gS uR) rfl rfl]
 show uR [.sl 0 0 1 1,I 360] [some (.blk true (.cells true [.str lH]))]=_
 unfold uR
 simp
end Go.Proofs.YtmapgnepfgnphaaGreatDoor
namespace Go.Proofs.YtmapgnepfgnphaaGreatDoor
open Go Go.DL
set_option maxRecDepth 100000
set_option maxHeartbeats 4000000
theorem aTt {vs:List AV} {h:XH} (hl:vs.length≤x25.N):runW progG 25 vs h=fV none x25.res x25.ownR h.length (execW progG 25 h.length none x25.body (aM (if x25.ownA then vs else jJ vs)) h):=eK rfl hl h rfl
structure Fil (R P:Nat→ByteArray) (Ls:Nat→List ByteArray) (M:Nat→Nat) (n:Nat):Prop where
 emp:R n=⟨⟨[]⟩⟩
 stp:∀ i,i<n→R i=P i++R (i+1)
 full:∀ i,i+1<n→(P i).size=270
 pos:∀ i,i<n→0<(P i).size∧(P i).size≤270
 men:∀ i,i<n→mnV (P i) (6*i:Nat) = .tup [.fs (rS (Ls i)),I (M i:Nat),I 0]
 ls:∀ i,i<n→0<(Ls i).length∧(Ls i).length≤5
 md:∀ i,i<n→M i≤1
 sz:(R 0).size≤100000
 np:n≤100
def Lu (Ls:Nat→List ByteArray):Nat→List ByteArray
 | 0=>[]
 | i+1=>Lu Ls i++Ls i
def Mu (M:Nat→Nat):Nat→Nat
 | 0=>0
 | i+1=>Mu M i+M i
section
variable {R P:Nat→ByteArray} {Ls:Nat→List ByteArray} {M:Nat→Nat} {n:Nat}
theorem aTD (a b:ByteArray):lA (a++b) 0 a.size=a:=by
 rw[←aCs]
 apply ByteArray.ext
 simp
theorem aTC (a b:ByteArray):lA (a++b) a.size (a++b).size=b:=by
 unfold lA
 rw[ByteArray.data_append,Array.toList_append,ByteArray.size_append,List.drop_left' (by rw[Array.length_toList];rfl),List.take_of_length_le (by rw[Array.length_toList];show b.size≤_;omega)]
theorem Fil.szs (f:Fil R P Ls M n):∀ i,i≤n→(R i).size≤100000
 | 0,_=>f.sz
 | i+1,h=>by
   have:=f.szs i (by omega)
   rw[f.stp i (by omega),ByteArray.size_append]at this
   omega
theorem Fil.lu (f:Fil R P Ls M n):∀ i,i≤n→(Lu Ls i).length≤5*i∧i≤(Lu Ls i).length
 | 0,_=>by simp[Lu]
 | i+1,h=>by
   have:=f.lu i (by omega)
   have:=f.ls i (by omega)
   rw[Lu,List.length_append]
   omega
theorem Fil.mu (f:Fil R P Ls M n):∀ i,i≤n→Mu M i≤i
 | 0,_=>Nat.le_refl _
 | i+1,h=>by
   have:=f.mu i (by omega)
   have:=f.md i (by omega)
   rw[Mu]
   omega
def aDZ (Ls:Nat→List ByteArray) (i:Nat):AV:=if i=0 then .nilsl else .sl 0 0 1 (Lu Ls i).length
def aEa (Ls:Nat→List ByteArray) (i:Nat):XH:=if i=0 then [] else [some (.blk true (.cells true (lX (Lu Ls i))))]
theorem aRT (l:List ByteArray):(rS l).flatten=lX l:=by
 unfold rS lX
 induction l with
 | nil=>rfl
 | cons a l ih=>simp only[List.map_cons,List.flatten_cons,ih];rfl
theorem aRU (l:List ByteArray):(rS l).all (fun r=>r.length==1)=true:=by
 unfold rS
 rw[List.all_eq_true]
 intro r hr
 obtain⟨s,_,rfl⟩:=List.mem_map.1 hr
 rfl
theorem aLi (a b:List ByteArray):lX a++lX b=lX (a++b):=by simp[lX]
theorem aLy (f:Fil R P Ls M n) {i:Nat} (hi:i<n):gY 0 [3,5,8,9] (execW progG 25 0 none (match aFy with | .loop _ a=>a|c=>c) (eD [3,5,8,9] [I (Mu M i:Nat),.str (R i),aDZ Ls i,I (6*i:Nat)]) (aEa Ls i)) =
 some ([I (Mu M (i+1):Nat),.str (R (i+1)),aDZ Ls (i+1),I (6*(i+1):Nat)],aEa Ls (i+1)):=by
 obtain⟨p1,p2⟩:=f.pos i hi
 have st:=f.stp i hi
 have z0:=f.szs i (by omega)
 obtain⟨l1,l2⟩:=f.ls i hi
 obtain⟨u1,u2⟩:=f.lu i (by omega)
 have m1:=f.mu i (by omega)
 have m2:=f.md i hi
 have hnp:=f.np
 have rz:(R i).size=(P i).size+(R (i+1)).size:=by rw[st,ByteArray.size_append]
 have ne:eZ .neq (R i) ⟨#[]⟩=some (.bool true):=by
  rw[aId,decide_eq_false]; · rfl
  intro e
  have:=congrArg ByteArray.size e
  rw[rz]at this
  have h0:(⟨#[]⟩:ByteArray).size=0:=rfl
  omega
 have e1:lA (R i) 0 (P i).size=P i:=by rw[st];exact aTD _ _
 have e2:lA (R i) (P i).size (R i).size=R (i+1):=by rw[st];exact aTC _ _
 have c16:=g16 (s:=P i) (row:=((6*i:Nat):Int)) (by omega)
 rw[f.men i hi]at c16
 have k1:IntKind.i64.wrap ((Mu M i:Int)+(M i:Int))=((Mu M (i+1):Nat):Int):=by rw[bB (by omega) (by omega),Mu];omega
 have k2:IntKind.i64.wrap (((6*i:Nat):Int)+6)=((6*(i+1):Nat):Int):=by rw[bB (by omega) (by omega)];omega
 have q1:=aRU (Ls i)
 have q2:=aRT (Ls i)
 have q3:=aOk (Ls i)
 have q4:=aLi (Lu Ls i) (Ls i)
 have q5:=jG (Lu Ls i)
 have q6:=jG (Lu Ls (i+1))
 have q8:=aBL (Lu Ls i)
 have q9:(Lu Ls (i+1)).length=(Lu Ls i).length+(Ls i).length:=by rw[Lu,List.length_append]
 have s1:aDZ Ls (i+1) = .sl 0 0 1 (Lu Ls (i+1)).length:=if_neg (by omega)
 have g1:aEa Ls (i+1)=[some (.blk true (.cells true (lX (Lu Ls (i+1)))))]:=if_neg (by omega)
 have q4:lX (Lu Ls i)++lX (Ls i)=lX (Lu Ls (i+1)):=q4
 have b1:(((P i).size:Int)≤((R i).size:Int))=True:=eq_true (by omega)
 have b2:(((Lu Ls i).length+(Ls i).length)*16≤1099511627776)=True:=eq_true (by omega)
 have b3:((Lu Ls i).length+(Ls i).length≤1099511627776)=True:=eq_true (by omega)
 have b4:((Ls i).length*16≤1099511627776)=True:=eq_true (by omega)
 have b5:((Ls i).length≤1099511627776)=True:=eq_true (by omega)
 have b6:((Ls i).length=0)=False:=eq_false (by omega)
 have hb:((270:Int)<((R i).size:Int))=True∧(P i).size=270∨((270:Int)<((R i).size:Int))=False∧(P i).size=(R i).size:=by
  by_cases hl:i+1<n
  ·have h1:=f.full i hl
   have h2:=(f.pos (i+1) hl).1
   have h3:(R (i+1)).size=(P (i+1)).size+(R (i+1+1)).size:=by rw[f.stp (i+1) hl,ByteArray.size_append]
   exact .inl ⟨eq_true (by omega),h1⟩
  ·have h1:i+1=n:=by omega
   have h2:(R (i+1)).size=0:=by rw[h1,f.emp];rfl
   exact .inr ⟨eq_false (by omega),by omega⟩
 rw[s1,g1,q9]
 unfold aFy
 dsimp only
 by_cases h0:i=0
 ·subst h0
  have s0:aDZ Ls 0 = .nilsl:=rfl
  have g0:aEa Ls 0=[]:=rfl
  have w0:Lu Ls 0=[]:=rfl
  have w1:Mu M 0=0:=rfl
  have w2:lX []=[]:=rfl
  rw[w0,w2,List.nil_append]at q4
  rw[s0,g0,w1,w0]
  rw[w1]at k1
  have k1:IntKind.i64.wrap (0+(M 0:Int))=((Mu M (0+1):Nat):Int):=k1
  have c16:runW progG 16 [.str (P 0),I 0] []=some (.tup [.fs (rS (Ls 0)),I (M 0:Nat),I 0],[]):=c16
  have z9:(([]:List ByteArray).length+(Ls 0).length)=(Ls 0).length:=by simp
  rw[z9]
  generalize Lu Ls (0+1)=L1 at *
  generalize Mu M (0+1)=M1 at *
  generalize R (0+1)=R1 at *
  rcases hb with ⟨b7,b8⟩|⟨b7,b8⟩
  ·rw[b8]at e1 e2 b1
   have b1:((270:Int)≤((R 0).size:Int))=True:=b1
   have e1:lA (R 0) 0 (Int.toNat 270)=P 0:=e1
   have e2:lA (R 0) (Int.toNat 270) (R 0).size=R1:=e2
   (exact aAk ne b7 b1 e1 e2 c16 k1 k2 q1 q2 q3 q4 q6 b4 b5 b6 dD dB dC aC)
  ·rw[b8]at e1 e2 b1
   (exact aAk ne b7 b1 e1 e2 c16 k1 k2 q1 q2 q3 q4 q6 b4 b5 b6 dD dB dC aC)
 ·have s0:aDZ Ls i = .sl 0 0 1 (Lu Ls i).length:=if_neg h0
  have g0:aEa Ls i=[some (.blk true (.cells true (lX (Lu Ls i))))]:=if_neg h0
  rw[s0,g0]
  generalize Lu Ls (i+1)=L1 at *
  generalize Lu Ls i=L0 at *
  generalize Mu M (i+1)=M1 at *
  generalize R (i+1)=R1 at *
  rcases hb with ⟨b7,b8⟩|⟨b7,b8⟩
  ·rw[b8]at e1 e2 b1
   have b1:((270:Int)≤((R i).size:Int))=True:=b1
   have e1:lA (R i) 0 (Int.toNat 270)=P i:=e1
   have e2:lA (R i) (Int.toNat 270) (R i).size=R1:=e2
   (exact aAk ne b7 b1 e1 e2 c16 k1 k2 q1 q2 q3 q4 q5 q6 q8 b2 b3 dD dB dC)
  ·rw[b8]at e1 e2 b1
   (exact aAk ne b7 b1 e1 e2 c16 k1 k2 q1 q2 q3 q4 q5 q6 q8 b2 b3 dD dB dC)
end
abbrev tP:ByteArray:=⟨⟨[111,107]⟩⟩
theorem aFY:eZ .neq tP ⟨#[111,107]⟩=some (.bool false):=by kernel_rfl
section
variable {R P:Nat→ByteArray} {Ls:Nat→List ByteArray} {M:Nat→Nat} {n:Nat} {st:Nat→dR} {A:List ByteArray}
theorem g72 (r:ByteArray):runW progG 72 [.str (oV++r),.str ⟨#[122,97,102,114,97,32,49,52,10]⟩] []=some (.tup [.str r,.bool true],[]):=by
 rw[cI (d:=gS mO) rfl rfl]
 show mO _ _=_
 unfold mO
 have e:(oV++r).data.toList=[122,97,102,114,97,32,49,52,10]++r.data.toList:=by rw[ByteArray.data_append,Array.toList_append];rfl
 dsimp only
 rw[e]
 have h1:Lib.hasPrefix ([122,97,102,114,97,32,49,52,10]++r.data.toList) [122,97,102,114,97,32,49,52,10]=true:=by
  simp[Lib.hasPrefix]
 have h2:Lib.trimPrefix ([122,97,102,114,97,32,49,52,10]++r.data.toList) [122,97,102,114,97,32,49,52,10]=r.data.toList:=by
  simp[Lib.trimPrefix,Lib.hasPrefix]
 show some (AV.tup [.str ⟨⟨Lib.trimPrefix _ [122,97,102,114,97,32,49,52,10]⟩⟩,.bool (Lib.hasPrefix _ [122,97,102,114,97,32,49,52,10])],([]:XH))=_
 rw[h1,h2]
theorem aIH {N:Nat} {md:Nat} (hA:A.length=N) (hN:N≤1000) (hs:∀ j line,A[j]?=some line→lF (st j) line∧jH (st j) line=(tP,st (j+1))) {j:Nat} (hj:j<N):gY 0 [2,3,58,59,60] (execW progG 25 0 none (match aFx with | .loop _ a=>a|c=>c) (eD [2,3,58,59,60] [.pt 0 0,I (md:Nat),.sl 1 0 1 N,I (N:Nat),I (j:Nat)]) [gK (st j),some (.blk true (.cells true (lX A)))]) =
 some ([.pt 0 0,I (md:Nat),.sl 1 0 1 N,I (N:Nat),I (j+1:Nat)],[gK (st (j+1)),some (.blk true (.cells true (lX A)))]):=by
 obtain⟨line,hl⟩:=qH (l:=A) (i:=j) (by omega)
 obtain⟨h1,h2⟩:=hs j line hl
 have c21:=g21 (st j) line h1
 rw[h2]at c21
 dsimp only at c21
 have hx:(lX A)[j]?=some (.str line):=by unfold lX;rw[List.getElem?_map,hl];rfl
 have t1:((j:Int)<(N:Int))=True:=eq_true (by omega)
 have a1:=oZ hj (by omega)
 have gr:=jG A
 have o1:=aFY
 unfold gK at *
 generalize IsClk (st (j+1))=K2 at *
 generalize IsClk (st j)=K1 at *
 unfold aFx
 dsimp only
 (exact RS9 t1 a1 hx c21 o1 gr dD dB dC)
theorem w25 (f:Fil R P Ls M n) (hn:0<n) (h0:st 0=mH) (hs:∀ j line,(Lu Ls n)[j]?=some line→lF (st j) line∧jH (st j) line=(tP,st (j+1))) (hsh:runW progG 73 [I ((R 0).size:Nat)] []=some (I 0,[])) :
 runW progG 25 [.str (oV++R 0)] []=some (.tup [.pt 0 0,I (Mu M n:Nat),I 0],[gK (st (Lu Ls n).length)]):=by
 have c72:=g72 (R 0)
 have c19:=g19
 obtain⟨u1,u2⟩:=f.lu n (Nat.le_refl _)
 have hnp:=f.np
 have s1:aDZ Ls n = .sl 0 0 1 (Lu Ls n).length:=if_neg (by omega)
 have g1:aEa Ls n=[some (.blk true (.cells true (lX (Lu Ls n))))]:=if_neg (by omega)
 have gr:=jG (Lu Ls n)
 obtain⟨N,hN⟩:∃ N,(Lu Ls n).length=N:=⟨_,rfl⟩
 rw[hN]at s1 u1 u2 ⊢
 have rb:=fun j (hj:j<N)=>aIH (md:=Mu M n) hN (by omega) hs hj
 have em:=f.emp
 have ne:eZ .neq (⟨⟨[]⟩⟩:ByteArray) ⟨#[]⟩=some (.bool false):=by kernel_rfl
 rw[aTt (by simp[x25])];unfold x25;dsimp only
 sym =>
  simp[Za,Zb,Zf,Zg,Zh,Zj,Zl,Zm,Zv,ZA,ZD,ZQ,ZR,Yc,Yf,Yk,Yl,Yp,Yt,Yv,Yz,Y9,YA,YN,Xo,Xq,Xs,Xu,Xv,Xx,We,Wf,Wg,Wi,Wk,Wl,Wn,Wt,Wv,Wx,WB,WL,WN,WP,WS,Vm,Vs,Vt,Vu,Vv,Vw,Vx,V0,V4,V5,V6,V8,V9,VA,VB,VC,VD,VE,VF,VG,VH,VI,VL,VM,VR,VU,VV,VW,Ug,Ui,Uj,Uk,Uv,Uw,Uy,Uz,U0,UA,UD,UE,UF,UG,UH,UJ,UK,UL,UM,UN,UP,UQ,US,UT,UU,UV,UW,UX,UZ,Ta,Tb,Te,Tl,Ts,Tt,Tu,Tx,Ty,Tz,T0,T1,T4,T5,T8,T9,TX,Sr,Ss,Su,Sv,Sw,Sx,Sy,Sz,S2,S6,S7,S8,S9,SZ,R5,RJ,RK,RN,RO,RP,RQ,Qm,Qn,Qo,Qp,Qr,Qs,c72,hsh]
  tactic =>
   unfold aFy
   rw[cO n (fun i=>[I (Mu M i:Nat),.str (R i),aDZ Ls i,I (6*i:Nat)]) (fun i=>aEa Ls i)]
   ·rw[s1,g1,em]
    sym =>
     simp[Za,Zb,Zf,Zg,Zh,Zj,Zl,Zm,Zv,ZA,ZD,ZQ,ZR,Yc,Yf,Yk,Yl,Yp,Yt,Yv,Yz,Y9,YA,YN,Xo,Xq,Xs,Xu,Xv,Xx,We,Wf,Wg,Wi,Wk,Wl,Wn,Wt,Wv,Wx,WB,WL,WN,WP,WS,Vm,Vs,Vt,Vu,Vv,Vw,Vx,V0,V4,V5,V6,V8,V9,VA,VB,VC,VD,VE,VF,VG,VH,VI,VL,VM,VR,VU,VV,VW,Ug,Ui,Uj,Uk,Uv,Uw,Uy,Uz,U0,UA,UD,UE,UF,UG,UH,UJ,UK,UL,UM,UN,UP,UQ,US,UT,UU,UV,UW,UX,UZ,Ta,Tb,Te,Tl,Ts,Tt,Tu,Tx,Ty,Tz,T0,T1,T4,T5,T8,T9,TX,Sr,Ss,Su,Sv,Sw,Sx,Sy,Sz,S2,S6,S7,S8,S9,SZ,R5,RJ,RK,RN,RO,RP,RQ,Qm,Qn,Qo,Qp,Qr,Qs,ne,c19,gr,dD,dB,dC]
     tactic =>
      unfold aFx
      rw[cO N (fun j=>[.pt 0 0,I (Mu M n:Nat),.sl 1 0 1 N,I (N:Nat),I (j:Nat)]) (fun j=>[gK (st j),some (.blk true (.cells true (lX (Lu Ls n))))])]
      ·have t1:((N:Int)<(N:Int))=False:=eq_false (by omega)
       unfold gK
       generalize IsClk (st N)=K1 at *
       (exact RS5 t1 gr dD dB dC)
      ·rw[h0]
       unfold gK
       generalize IsClk mH=K1 at *
       (exact RS4 gr dD dB dC)
      ·intro j hj
       exact rb j hj
      ·have t1:((N:Int)<(N:Int))=False:=eq_false (by omega)
       (exact wN t1)
   ·have s0:aDZ Ls 0 = .nilsl:=rfl
    have g0:aEa Ls 0=[]:=rfl
    have m0:Mu M 0=0:=rfl
    rw[s0,g0,m0]
    (exact RS0)
   ·intro i hi
    exact aLy f hi
   ·rw[em]
    (exact wN ne)
end
section
variable {B:List ByteArray} {st:Nat→dR}
def aIF (B:List ByteArray):Nat→ByteArray
 | 0=>⟨⟨[]⟩⟩
 | k+1=>pgB (pgs B (iG B-(k+1))) (6*(iG B-(k+1)))++aIF B k
def rB (B:List ByteArray) (i:Nat):ByteArray:=aIF B (iG B-i)
theorem aIT {i:Nat} (hi:i<iG B):rB B i=pgB (pgs B i) (6*i)++rB B (i+1):=by
 unfold rB
 rw[show iG B-i=(iG B-(i+1))+1 by omega,aIF,show iG B-(iG B-(i+1)+1)=i by omega]
theorem aIU:rB B (iG B)=⟨⟨[]⟩⟩:=by unfold rB;rw[Nat.sub_self];rfl
theorem aMv (a:ByteArray):a++(⟨⟨[]⟩⟩:ByteArray)=a:=by
 apply ByteArray.ext
 rw[ByteArray.data_append]
 exact Array.append_empty
theorem aRF:∀ i,i≤iG B→kD B i++rB B i=oV++rB B 0
 | 0,_=>rfl
 | i+1,h=>by
   rw[←aRF i (by omega),aIT (i:=i) (by omega),kD,ByteArray.append_assoc]
theorem aEs:iQ B=oV++rB B 0:=by
 rw[←aRF (iG B) (Nat.le_refl _),aIU,aMv];rfl
theorem aSm:∀ i,Lu (pgs B) i=B.take (5*i)
 | 0=>rfl
 | i+1=>by
   rw[Lu,aSm i,pgs,show 5*(i+1)=5*i+5 by omega,List.take_add]
theorem aJE:Lu (pgs B) (iG B)=B:=by
 rw[aSm]
 exact List.take_of_length_le (by unfold iG;omega)
theorem aSl:∀ i,Mu (fun _=>0) i=0
 | 0=>rfl
 | i+1=>by rw[Mu,aSl i]
theorem pH:∀ k,k≤iG B→(aIF B k).size=45*((B.length-5*(iG B-k))+k)
 | 0,_=>by
   show 0=_
   unfold iG;omega
 | k+1,h=>by
   rw[aIF,ByteArray.size_append,iU,lL,pH k (by omega)]
   unfold iG at *
   omega
theorem aOr {i:Nat} {l:ByteArray} (h:l∈pgs B i):l∈B:=List.mem_of_mem_drop (List.mem_of_mem_take h)
theorem aTA (hB:∀ l∈B,lnE l=0) (h5:B.length≤300):Fil (rB B) (fun i=>pgB (pgs B i) (6*i)) (pgs B) (fun _=>0) (iG B):=by
 have np:iG B=(B.length+4)/5:=rfl
 refine⟨aIU,fun i hi=>aIT hi,fun i hi=>?_,fun i hi=>?_,fun i hi=>?_,fun i hi=>?_,fun i _=>by omega,?_,by omega⟩
 ·rw[iU,lL];omega
 ·rw[iU,lL];omega
 ·exact aLP (fun l hl=>hB l (aOr hl)) (by rw[lL];omega) (by rw[lL];omega) (by omega)
 ·rw[lL];omega
 ·unfold rB
  rw[pH _ (by omega)];omega
theorem aTT (hB:∀ l∈B,lnE l=0) (h1:1≤B.length) (h5:B.length≤300) (h0:st 0=mH) (hs:∀ j line,B[j]?=some line→lF (st j) line∧jH (st j) line=(tP,st (j+1))) (hsh:runW progG 73 [I ((45*(B.length+iG B):Nat):Int)] []=some (I 0,[])) :
 runW progG 25 [.str (iQ B)] []=some (.tup [.pt 0 0,I 0,I 0],[gK (st B.length)]):=by
 have np:iG B=(B.length+4)/5:=rfl
 have h:=w25 (st:=st) (aTA hB h5) (by omega) h0 (by rw[aJE];exact hs) (by
  have e:(rB B 0).size=45*(B.length+iG B):=by unfold rB;rw[pH _ (by omega)];omega
  rw[e];exact hsh)
 rw[aJE,aSl,←aEs]at h
 exact h
end
theorem wdA:wdP lnA = .pan pB 1 0:=if_pos rfl
theorem wdB:wdP lH = .pan pB 5 3:=(if_neg (by decide)).trans (if_pos rfl)
theorem wdC:wdP lnC = .pan pB 3 5:=(if_neg (by decide)).trans ((if_neg (by decide)).trans (if_pos rfl))
theorem wdD:wdP lnD = .loss pB:=(if_neg (by decide)).trans ((if_neg (by decide)).trans (if_neg (by decide)))
def bkF:List ByteArray:=lnA::List.replicate 299 lH
theorem fM:bkF.length=300:=by simp[bkF]
theorem aPg {j:Nat} {line:ByteArray} (h:bkF[j]?=some line):bkF.take j++[line]=bkF.take (j+1):=by
 rw[List.take_add_one,h];rfl
def sF (j:Nat):dR:=⟨[],[],if j=0 then [] else [(pB,2*(j:Int)-1)],[],[],0,bkF.take j⟩
theorem aBR {j:Nat} (h:j≠0):sF j=⟨[],[],[(pB,2*(j:Int)-1)],[],[],0,bkF.take j⟩:=by unfold sF;rw[if_neg h]
theorem aOt {P:dR→ByteArray→Int} {s:dR} {line x:ByteArray} {a b:Int} (hc:sH s (.pan x a b)=none) (hl:s.book.length≠300):rP P s line (.inr (.pan x a b))=(tP,{ s with pans:=oQ s.pans x (a-b),book:=s.book++[line] }):=by
 simp[rP,Wd.asks,hc,hl,doW]
theorem aJq {P:dR→ByteArray→Int} {s:dR} {line x:ByteArray} {a b:Int} (hc:sH s (.pan x a b)=none) (hl:s.book.length=300):rP P s line (.inr (.pan x a b))=(yX 15,s):=by
 simp[rP,Wd.asks,hc,hl]
theorem aNo {v:Int} {bk:List ByteArray}:sH ⟨[],[],[(pB,v)],[],[],0,bk⟩ (.pan pB 5 3)=none:=by simp[sH]
theorem aEt {j:Nat} {line:ByteArray} (h:bkF[j]?=some line):lF (sF j) line∧jH (sF j) line=(tP,sF (j+1)):=by
 have hj:=(List.getElem?_eq_some_iff.1 h).1
 rw[fM]at hj
 have up:=aPg h
 have hl:(bkF.take j).length=j:=by rw[List.length_take,fM];omega
 by_cases h0:j=0
 ·subst h0
  cases h
  refine⟨.inl rfl,?_⟩
  unfold jH
  rw[wdA]
  rfl
 ·have e:line=lH:=by
   obtain⟨k,rfl⟩:∃ k,j=k+1:=⟨j-1,by omega⟩
   have h:(List.replicate 299 lH)[k]?=some line:=h
   rw[List.getElem?_replicate]at h
   split at h
   ·cases h;rfl
   ·cases h
  subst e
  refine⟨.inr (.inl rfl),?_⟩
  unfold jH
  rw[wdB,aBR h0,aBR (j:=j+1) (by omega)]
  rw[aOt aNo (by rw[hl];omega),up]
  dsimp only
  unfold oQ
  rw[if_pos rfl]
  rw[show 2*(j:Int)-1+(5-3)=2*((j+1:Nat):Int)-1 by omega]
theorem aRP:lF (sF 300) lH∧jH (sF 300) lH=(⟨⟨[110,111,32,49,53]⟩⟩,sF 300):=by
 refine⟨.inr (.inl rfl),?_⟩
 have hl:(bkF.take 300).length=300:=by rw[List.length_take,fM];rfl
 unfold jH
 have q:=aJq (P:=fun _ _=>0) (line:=lH) (s:=⟨[],[],[(pB,2*((300:Nat):Int)-1)],[],[],0,bkF.take 300⟩) aNo hl
 rw[wdB,aBR (by omega),q]
 have e:yX 15=⟨⟨[110,111,32,49,53]⟩⟩:=by kernel_rfl
 rw[e]
theorem aRO:lF (sF 300) lnC∧jH (sF 300) lnC=(⟨⟨[110,111,32,49,48]⟩⟩,sF 300):=by
 refine⟨.inr (.inr (.inl rfl)),?_⟩
 unfold jH
 rw[wdC]
 have hc:sH (sF 300) (.pan pB 3 5)=some 10:=rfl
 simp only[rP,Wd.asks,hc]
 have e:yX 10=⟨⟨[110,111,32,49,48]⟩⟩:=by kernel_rfl
 rw[e]
 rfl
theorem aRN:lF (sF 300) lnD∧jH (sF 300) lnD=(⟨⟨[53,57,57]⟩⟩,sF 300):=by
 have hv:kP (sF 300).pans pB=some (2*((300:Nat):Int)-1):=by rw[aBR (by omega)];rfl
 refine⟨.inr (.inr (.inr ⟨rfl,_,hv⟩)),?_⟩
 unfold jH
 rw[wdD]
 have e:aHg (2*((300:Nat):Int)-1)=⟨⟨[53,57,57]⟩⟩:=by kernel_rfl
 have ha:aMx (fun _ _=>0) (sF 300) (.loss pB) = .inr ⟨⟨[53,57,57]⟩⟩:=by
  rw[←e]
  unfold aMx
  dsimp only
  rw[hv]
 simp only[rP,Wd.asks,ha]
 rfl
theorem aPh:∀ l∈bkF,lnE l=0:=fun l hl=>by
 have ha:lnE lnA=0:=by kernel_rfl
 have hb:lnE lH=0:=by kernel_rfl
 unfold bkF at hl
 rcases List.mem_cons.1 hl with rfl|hl
 ·exact ha
 ·rw[(List.mem_replicate.1 hl).2];exact hb
theorem aUe:runW progG 73 [I 16200] []=some (I 0,[]):=eA.2 ⟨400,by kernel_rfl⟩
theorem aUd:runW progG 73 [I 16290] []=some (I 1,[]):=eA.2 ⟨400,by kernel_rfl⟩
theorem f25:runW progG 25 [.str (iQ bkF)] []=some (.tup [.pt 0 0,I 0,I 0],[gK (sF 300)]):=by
 have np:iG bkF=60:=by unfold iG;rw[fM]
 have h:=aTT (B:=bkF) (st:=sF) aPh (by rw[fM];omega) (by rw[fM];omega) rfl (fun j line h=>aEt h) (by rw[fM,np];exact aUe)
 rw[fM]at h
 exact h
theorem gq6 {vs:List AV} {h:XH} (hl:vs.length≤x6.N):runW progG 6 vs h=fV none x6.res x6.ownR h.length (execW progG 6 h.length none x6.body (aM (if x6.ownA then vs else jJ vs)) h):=eK rfl hl h rfl
theorem aWU:runW progG 21 [.pt 0 0,.str ⟨#[112,97,110,32,112,32,49,32,48]⟩] [gK mH]=some (.str tP,[gK (sF 1)]):=by
 have h:=aEt (j:=0) (line:=lnA) rfl
 have c:=g21 mH lnA h.1
 have e:jH mH lnA=(tP,sF 1):=h.2
 rw[e]at c
 exact c
theorem aWT {j:Nat} (h1:1≤j) (hj:j<300):runW progG 21 [.pt 0 0,.str ⟨#[112,97,110,32,112,32,53,32,51]⟩] [gK (sF j)]=some (.str tP,[gK (sF (j+1))]):=by
 have hb:bkF[j]?=some lH:=by
  obtain⟨k,rfl⟩:∃ k,j=k+1:=⟨j-1,by omega⟩
  show (List.replicate 299 lH)[k]?=_
  rw[List.getElem?_replicate,if_pos (by omega)]
 obtain⟨h2,h3⟩:=aEt hb
 have c:=g21 (sF j) lH h2
 rw[h3]at c
 exact c
theorem aWS:runW progG 21 [.pt 0 0,.str ⟨#[112,97,110,32,112,32,53,32,51]⟩] [gK (sF 300)]=some (.str ⟨⟨[110,111,32,49,53]⟩⟩,[gK (sF 300)]):=by
 have c:=g21 (sF 300) lH aRP.1
 rw[aRP.2]at c
 exact c
theorem aWR:runW progG 21 [.pt 0 0,.str ⟨#[112,97,110,32,112,32,51,32,53]⟩] [gK (sF 300)]=some (.str ⟨⟨[110,111,32,49,48]⟩⟩,[gK (sF 300)]):=by
 have c:=g21 (sF 300) lnC aRO.1
 rw[aRO.2]at c
 exact c
theorem aWQ:runW progG 21 [.pt 0 0,.str ⟨#[108,111,115,115,32,112]⟩] [gK (sF 300)]=some (.str ⟨⟨[53,57,57]⟩⟩,[gK (sF 300)]):=by
 have c:=g21 (sF 300) lnD aRN.1
 rw[aRN.2]at c
 exact c
theorem f23:runW progG 23 [.pt 0 0] [gK (sF 300)]=some (.str (iQ bkF),[gK (sF 300)]):=by
 have c:=g23 (sF 300)
 have e:(sF 300).book=bkF:=List.take_of_length_le (by rw[fM];exact Nat.le_refl _)
 rw[e]at c
 exact c
theorem f14:runW progG 14 [.sl 0 0 1 1,I 360] [some (.blk true (.cells true [.str ⟨#[112,97,110,32,112,32,53,32,51]⟩]))]=some (.tup [.str pgX,I 0],[none]):=g14
theorem aIb:(iQ bkF).size=16209:=by
 have np:iG bkF=60:=by unfold iG;rw[fM]
 have h:=congrArg ByteArray.size (aEs (B:=bkF))
 rw[ByteArray.size_append]at h
 have e:(rB bkF 0).size=16200:=by
  unfold rB
  rw[pH _ (by omega),fM,np]
 rw[e]at h
 exact h
theorem aWO:eZ .add (iQ bkF) pgX=some (.str (iQ bkF++pgX)):=by
 have h1:=aIb
 have h2:pgX.size=90:=iU _ _
 exact sV (by omega)
theorem aWP:runW progG 25 [.str (iQ bkF++pgX)] []=some (.tup [.nilpt,I 0,I 1],[]):=by
 have h2:pgX.size=90:=iU _ _
 have hz:(rB bkF 0++pgX).size=16290:=by
  have np:iG bkF=60:=by unfold iG;rw[fM]
  have e:(rB bkF 0).size=16200:=by
   unfold rB
   rw[pH _ (by omega),fM,np]
  rw[ByteArray.size_append,e,h2]
 rw[aEs,ByteArray.append_assoc]
 have c72:=g72 (rB bkF 0++pgX)
 have c73:runW progG 73 [I ((16290:Nat):Int)] []=some (I 1,[]):=aUd
 generalize rB bkF 0++pgX=X at *
 rw[aTt (by simp[x25])];unfold x25;dsimp only
 (exact RT3 c72 hz c73)
theorem w6 {e:Nat} (he:e<256):runW progG 6 [.int .u8 (e:Int)] []=some (.bool true,[]):=by
 have c19:=g19
 have cA:=aWU
 have oA:=aFY
 have b0:eZ .neq (⟨⟨[110,111,32,49,53]⟩⟩:ByteArray) ⟨#[110,111,32,49,53]⟩=some (.bool false):=by kernel_rfl
 have b1:eZ .neq (⟨⟨[110,111,32,49,48]⟩⟩:ByteArray) ⟨#[110,111,32,49,48]⟩=some (.bool false):=by kernel_rfl
 have b2:eZ .neq (⟨⟨[53,57,57]⟩⟩:ByteArray) ⟨#[53,57,57]⟩=some (.bool false):=by kernel_rfl
 have b3:eZ .eql (⟨⟨[53,57,57]⟩⟩:ByteArray) ⟨#[53,57,57]⟩=some (.bool true):=by kernel_rfl
 have b4:eZ .eql (yX 9) ⟨#[110,111,32,57]⟩=some (.bool true):=by kernel_rfl
 have b5:eZ .eql (⟨⟨[]⟩⟩:ByteArray) ⟨#[]⟩=some (.bool true):=by kernel_rfl
 have cC:=aWS
 have cD:=aWR
 have cE:=aWQ
 have c23:=f23
 have c25:=f25
 have c14:=f14
 have cad:=aWO
 have c25m:=aWP
 have cn:=aWM ⟨#[116,111,116,97,108]⟩
 have cn2:=aWK
 have cz:=aWL ⟨#[116,111,116,97,108]⟩
 have cz2:=aWJ
 have c13:=g13
 have a1:tmZ (e:Int) 4=((e%4:Nat):Int):=aBH e 4
 have m1:e%4<4:=Nat.mod_lt _ (by decide)
 have a2:IntKind.i64.wrap (e:Int)=(e:Int):=bB (by omega) (by omega)
 obtain⟨m,hm⟩:∃ m,e%4=m:=⟨_,rfl⟩
 rw[hm]at a1 m1
 generalize iQ bkF++pgX=X2 at *
 generalize iQ bkF=X1 at *
 generalize pgX=X0 at *
 unfold gK at *
 rw[gq6 (by simp[x6])];unfold x6;dsimp only
 sym =>
  simp[iC,iD,oO,Za,Zb,Zd,Ze,Zf,Zg,Zh,Zj,Zl,Zm,Zo,Zp,Zq,Zr,Zv,Zy,Zz,Z0,Z8,ZA,ZF,ZQ,Yc,Yf,Yk,Yl,Ym,Yn,Yq,Yz,Y4,Y8,YA,YN,YP,Xk,Xo,Xp,Xq,Xu,Xv,Xy,XM,XO,XW,Wb,Wc,We,Wf,Wg,Wi,Wk,Wl,Wo,Wu,WB,WE,WL,WM,WS,WV,Vd,Ve,Vm,Vp,Vq,Vs,Vt,Vu,Vv,Vw,Vy,V0,V4,V5,V6,V8,V9,VA,VB,VC,VD,VE,VF,VG,VH,VI,VJ,VK,VL,VM,VR,VU,VV,VW,VX,Ug,Ui,Uj,Uk,Uv,Uw,Uy,Uz,U0,UA,UB,UE,UF,UG,UH,UJ,UK,UL,UM,UN,UO,UP,UQ,US,UT,UU,UV,UW,UX,UZ,Ta,Tb,Te,Th,Tq,Ts,Tt,Tu,Tv,Tw,Tx,Ty,Tz,T0,T1,T2,T3,T8,T9,TA,TB,TC,TD,TJ,TK,TL,TM,TN,TO,TX,Sk,Sr,Ss,Su,Sv,Sw,Sx,Sy,Sz,S2,S4,S6,S7,S8,S9,SZ,Rc,R5,RJ,RK,RN,RO,RP,RQ,Qm,Qn,Qo,Qp,Qr,Qs,c19,cA,oA]
  tactic =>
   unfold aPw
   rw[cO 299 (fun i=>[.int .u8 (e:Int),.pt 0 0,I (i+1:Nat)]) (fun i=>[some (.gh (sF (i+1)) (IsClk (sF (i+1))))])]
   ·have t300:(((300:Nat):Int)<300)=False:=eq_false (by omega)
    sym =>
     simp[iC,iD,oO,Za,Zb,Zd,Ze,Zf,Zg,Zh,Zj,Zl,Zm,Zo,Zp,Zq,Zr,Zv,Zy,Zz,Z0,Z8,ZA,ZF,ZQ,Yc,Yf,Yk,Yl,Ym,Yn,Yq,Yz,Y4,Y8,YA,YN,YP,Xk,Xo,Xp,Xq,Xu,Xv,Xy,XM,XO,XW,Wb,Wc,We,Wf,Wg,Wi,Wk,Wl,Wo,Wu,WB,WE,WL,WM,WS,WV,Vd,Ve,Vm,Vp,Vq,Vs,Vt,Vu,Vv,Vw,Vy,V0,V4,V5,V6,V8,V9,VA,VB,VC,VD,VE,VF,VG,VH,VI,VJ,VK,VL,VM,VR,VU,VV,VW,VX,Ug,Ui,Uj,Uk,Uv,Uw,Uy,Uz,U0,UA,UB,UE,UF,UG,UH,UJ,UK,UL,UM,UN,UO,UP,UQ,US,UT,UU,UV,UW,UX,UZ,Ta,Tb,Te,Th,Tq,Ts,Tt,Tu,Tv,Tw,Tx,Ty,Tz,T0,T1,T2,T3,T8,T9,TA,TB,TC,TD,TJ,TK,TL,TM,TN,TO,TX,Sk,Sr,Ss,Su,Sv,Sw,Sx,Sy,Sz,S2,S4,S6,S7,S8,S9,SZ,Rc,R5,RJ,RK,RN,RO,RP,RQ,Qm,Qn,Qo,Qp,Qr,Qs,t300]
     tactic =>
      unfold aPv
      rw[cO m (fun i=>[.int .u8 (e:Int),.pt 0 0,I (i:Nat)]) (fun i=>[some (.gh (sF 300) (IsClk (sF 300)))])]
      ·have t1:((m:Int)<(m:Int))=False:=eq_false (by omega)
       generalize IsClk (sF 300)=K1 at *
       (exact aTM a1 a2 t1 c23 c25 c14 cad c25m cE cn cn2 cz cz2 c13 b3 b4 b5)
      ·generalize IsClk (sF 300)=K1 at *
       (exact RT0)
      ·intro i hi
       have t1:((i:Int)<(m:Int))=True:=eq_true (by omega)
       have a3:=oZ hi (by omega)
       generalize IsClk (sF 300)=K1 at *
       (exact aXc a1 a2 a3 t1 cC cD cE b0 b1 b2)
      ·have t1:((m:Int)<(m:Int))=False:=eq_false (by omega)
       (exact RT3 a1 a2 t1)
   ·generalize IsClk (sF 1)=K1 at *
    (exact RT0)
   ·intro i hi
    have t1:(((i+1:Nat):Int)<300)=True:=eq_true (by omega)
    have a3:IntKind.i64.wrap (((i+1:Nat):Int)+1)=((i+1+1:Nat):Int):=by rw[bB (by omega) (by omega)];omega
    have cB:=aWT (j:=i+1) (by omega) (by omega)
    unfold gK at cB
    generalize IsClk (sF (i+1+1))=K1 at *
    generalize IsClk (sF (i+1))=K2 at *
    (exact RT4 t1 a3 cB oA)
   ·have t300:(((300:Nat):Int)<300)=False:=eq_false (by omega)
    generalize IsClk (sF 300)=K1 at *
    (exact RT1 t300)
end Go.Proofs.YtmapgnepfgnphaaGreatDoor
