/- Parts of a proof, joined: K133 K134 K135 K136 K137 K138 K139 K140 K141. No statement of the seed is proved here. -/
import Derived.Test.YtmcbhljgkgfanaaDoorH6
set_option linter.unusedSimpArgs false
set_option linter.unusedVariables false
set_option linter.unusedSectionVars false
namespace Go.Proofs.YtmcbhljgkgfanaaDoor
open Go Go.DL
set_option maxRecDepth 100000
set_option maxHeartbeats 4000000
def lB:XCode:=match x3.body with | .seq a (.seq b (.seq c (.seq d (.seq (.seq r _) _))))=>.seq a (.seq b (.seq c (.seq d r)))|c=>c
def dQ:XCode:=match x3.body with | .seq _ (.seq _ (.seq _ (.seq _ (.seq (.seq _ b) r))))=>.seq b r|c=>c
structure aQl (m:Nat):Prop where
 a:IntKind.i64.wrap (m:Int)=(m:Int)
 b:jH (m:Int) 64=((m%64:Nat):Int)
theorem jR {m:Nat} (h:m<256):aQl m:=⟨aD (by omega) (by omega),bO m 64⟩
abbrev z3 (a b c:Nat):XH:=[some (.blk true (.cells true [I 6,.nilsl,.nilsl,I a,I b,I c]))]
abbrev s3a (bs ps:List (List AV)) (g s:Nat) (rows:List (List AV)) (i:Nat):List AV:=[.fs bs,.fs ps,B8 g,B8 s,.fs rows,.pt 0 0,I (i:Nat)]
abbrev rw3 (p:mT):List AV:=[.fs [[I p.1],[I (h1 p)],[I (h2 p)]]]
abbrev rw5:List AV:=[.fs [[I 5]]]
theorem aMa {bs ps:List (List AV)} {m0 m1 m2 g sn:Nat} (k0:m0<256) (k1:m1<256) (k2:m2<256)  :
 aW 0 [0,1,4,5,13,14,15] (execW aA 3 0 none lB (aN (dI [.fs bs,.fs ps,.agg [B8 m0,B8 m1,B8 m2],.fs [],B8 g,B8 sn])) [])=some (s3a bs ps g sn [rw5,rw5,rw5,rw5] 0,z3 (m0%64) (m1%64) (m2%64)):=by
 obtain⟨a0,b0⟩:=jR k0
 obtain⟨a1,b1⟩:=jR k1
 obtain⟨a2,b2⟩:=jR k2
 have e:=aOf 
 unfold lB x3
 dsimp only
 (sym=>(simp[aE,aF,aK,aS,Za,Zb,Zc,Zd,Ze,Zf,Zg,Zh,Zj,Zl,Zm,Zo,Zu,Zv,Zy,Zz,Z0,Z2,Z6,Z8,ZF,ZH,ZL,ZM,ZP,ZQ,ZT,ZU,ZV,Ya,Ye,Yf,Yt,Y9,YA,YB,YC,YD,YE,YG,YH,YP,YU,YY,Xc,Xd,Xe,Xf,Xj,Xl,Xm,Xn,Xp,Xs,Xw,Xx,Xy,Xz,XN,XO,XX,XZ,Wa,Wb,Wd,Wf,Wh,Wp,Wr,Wt,Wy,Wz,W0,W3,W4,W5,W6,W7,W8,W9,WA,WB,WE,WF,WH,WI,WJ,WK,WL,WM,WN,WO,WP,WQ,WR,WS,WV,WW,WX,Vc,Vd,Vf,Vg,Vh,Vp,Vq,Vr,Vs,Vt,Vu,Vv,Vw,V1,V2,V3,V4,VL,VN,VO,VP,VQ,VR,VS,VW,VX,VY,VZ,Ua,Uc,Ud,Ue,Uh,Uj,Ul,Us,Uu,Uw,Ux,Uy,Uz,U0,U1,U2,U3,U4,U5,U6,U7,U8,U9,UA,UB,UC,UD,UE,UF,UG,UH,UR,US,UT,UU,UV,UW,Ta,Tb,Tc,Td,Te,Tf,Th,Ti,Tm,Tn,Tp,Tq,Tr,Ts,Tt,Tv,Tw,Tx,Tz,T0,T1,T2,T3,T5,T7,T8,T9,TA,TN,TT,TX,TY,TZ,Sa,Sb,S8,S9,SA,SB,SC,SQ,SS,SV,SW,SX,SY,x3l0.eq_1,fP,a0,b0,a1,b1,a2,b2,e];all_goals tactic=>exact rfl))
theorem aLZ {bs ps:List (List AV)} {m0 m1 m2 g sn:Nat} (k0:m0<256) (k1:m1<256) (k2:m2<256) {p:mT} (hp:xW p) :
 aW 0 [0,1,4,5,13,14,15] (execW aA 3 0 none lB (aN (dI [.fs bs,.fs ps,.agg [B8 m0,B8 m1,B8 m2],.fs [gD p],B8 g,B8 sn])) [])=some (s3a bs ps g sn [rw3 p,rw5,rw5,rw5] 0,z3 (m0%64) (m1%64) (m2%64)):=by
 obtain⟨a0,b0⟩:=jR k0
 obtain⟨a1,b1⟩:=jR k1
 obtain⟨a2,b2⟩:=jR k2
 have e:=aOe hp
 unfold lB x3
 dsimp only
 (sym=>(simp[aE,aF,aK,aS,Za,Zb,Zc,Zd,Ze,Zf,Zg,Zh,Zj,Zl,Zm,Zo,Zu,Zv,Zy,Zz,Z0,Z2,Z6,Z8,ZF,ZH,ZL,ZM,ZP,ZQ,ZT,ZU,ZV,Ya,Ye,Yt,Y9,YA,YB,YC,YD,YE,YG,YH,YP,YU,YY,Xc,Xd,Xe,Xj,Xl,Xm,Xn,Xp,Xs,Xw,Xx,Xy,XN,XO,XX,XZ,Wa,Wb,Wd,Wf,Wh,Wp,Wr,Wt,Wy,Wz,W0,W3,W4,W5,W6,W7,W8,W9,WA,WB,WE,WF,WG,WH,WI,WJ,WK,WL,WN,WO,WP,WQ,WR,WS,WV,WW,WX,Vc,Vd,Vf,Vg,Vh,Vp,Vq,Vr,Vs,Vt,Vu,Vv,Vw,V1,V2,V3,V4,VL,VN,VO,VP,VQ,VR,VS,VW,VX,VY,VZ,Ua,Uc,Ud,Ue,Uh,Uj,Ul,Us,Uu,Uw,Ux,Uy,Uz,U0,U2,U3,U4,U5,U6,U7,U8,U9,UA,UB,UC,UD,UE,UF,UG,UH,UR,US,UT,UU,UV,UW,Ta,Tb,Tc,Te,Tf,Th,Ti,Tm,Tn,Tp,Tq,Tr,Ts,Tt,Tw,Tx,Tz,T0,T1,T2,T3,T5,T7,T8,T9,TA,TN,TT,TX,TY,TZ,Sa,Sb,S8,S9,SA,SB,SC,SQ,SS,SV,SW,SX,SY,x3l0.eq_1,fP,a0,b0,a1,b1,a2,b2,e];all_goals tactic=>exact rfl))
theorem aLY {bs ps:List (List AV)} {m0 m1 m2 g sn:Nat} (k0:m0<256) (k1:m1<256) (k2:m2<256) {p q:mT} (hp:xW p) (hq:xW q) :
 aW 0 [0,1,4,5,13,14,15] (execW aA 3 0 none lB (aN (dI [.fs bs,.fs ps,.agg [B8 m0,B8 m1,B8 m2],.fs [gD p,gD q],B8 g,B8 sn])) [])=some (s3a bs ps g sn [rw3 p,rw3 q,rw5,rw5] 0,z3 (m0%64) (m1%64) (m2%64)):=by
 obtain⟨a0,b0⟩:=jR k0
 obtain⟨a1,b1⟩:=jR k1
 obtain⟨a2,b2⟩:=jR k2
 have e:=aOd hp hq
 unfold lB x3
 dsimp only
 (sym=>(simp[aE,aF,aK,aS,Za,Zb,Zc,Zd,Ze,Zf,Zg,Zh,Zj,Zl,Zm,Zo,Zu,Zv,Zy,Zz,Z0,Z2,Z6,Z8,ZF,ZH,ZL,ZM,ZP,ZQ,ZT,ZU,ZV,Ya,Ye,Yt,Y9,YA,YB,YD,YE,YG,YH,YP,YU,YY,Xc,Xd,Xe,Xj,Xl,Xm,Xn,Xp,Xs,Xw,Xx,Xy,XN,XO,XX,XZ,Wa,Wb,Wd,Wf,Wh,Wp,Wr,Wt,Wy,Wz,W0,W3,W4,W5,W6,W7,W8,W9,WA,WB,WE,WF,WG,WH,WI,WJ,WK,WL,WN,WO,WP,WQ,WR,WS,WV,WW,WX,Vc,Vd,Vf,Vg,Vh,Vp,Vq,Vr,Vs,Vt,Vu,Vv,Vw,V1,V2,V3,V4,VL,VN,VO,VP,VQ,VR,VS,VW,VX,VY,VZ,Ua,Uc,Ud,Ue,Uh,Uj,Ul,Us,Uu,Uw,Ux,Uy,Uz,U0,U2,U3,U4,U5,U6,U7,U8,U9,UA,UB,UC,UD,UE,UF,UG,UH,UR,US,UT,UU,UV,UW,Ta,Tb,Tc,Te,Tf,Th,Ti,Tm,Tn,Tp,Tq,Tr,Ts,Tt,Tw,Tx,Tz,T0,T1,T2,T3,T5,T7,T8,T9,TA,TN,TT,TX,TY,TZ,Sa,Sb,S8,S9,SA,SB,SC,SQ,SS,SV,SW,SX,SY,x3l0.eq_1,fP,a0,b0,a1,b1,a2,b2,e];all_goals tactic=>exact rfl))
theorem aLX {bs ps:List (List AV)} {m0 m1 m2 g sn:Nat} (k0:m0<256) (k1:m1<256) (k2:m2<256) {p q r:mT} (hp:xW p) (hq:xW q) (hr:xW r) :
 aW 0 [0,1,4,5,13,14,15] (execW aA 3 0 none lB (aN (dI [.fs bs,.fs ps,.agg [B8 m0,B8 m1,B8 m2],.fs [gD p,gD q,gD r],B8 g,B8 sn])) [])=some (s3a bs ps g sn [rw3 p,rw3 q,rw3 r,rw5] 0,z3 (m0%64) (m1%64) (m2%64)):=by
 obtain⟨a0,b0⟩:=jR k0
 obtain⟨a1,b1⟩:=jR k1
 obtain⟨a2,b2⟩:=jR k2
 have e:=aOc hp hq hr
 unfold lB x3
 dsimp only
 (sym=>(simp[aE,aF,aK,aS,Za,Zb,Zc,Zd,Ze,Zf,Zg,Zh,Zj,Zl,Zm,Zo,Zu,Zv,Zy,Zz,Z0,Z2,Z6,Z8,ZF,ZH,ZL,ZM,ZP,ZQ,ZT,ZU,ZV,Ya,Ye,Yt,Y9,YA,YB,YD,YG,YH,YP,YU,YY,Xc,Xd,Xe,Xj,Xl,Xm,Xn,Xp,Xs,Xw,Xx,Xy,XN,XO,XX,XZ,Wa,Wb,Wd,Wf,Wh,Wp,Wr,Wt,Wy,Wz,W0,W3,W4,W5,W6,W7,W8,W9,WA,WB,WE,WF,WG,WH,WI,WJ,WK,WL,WN,WO,WP,WQ,WR,WS,WV,WW,WX,Vc,Vd,Vf,Vg,Vh,Vp,Vq,Vr,Vs,Vt,Vu,Vv,Vw,V1,V2,V3,V4,VL,VN,VO,VP,VQ,VR,VS,VW,VX,VY,VZ,Ua,Uc,Ud,Ue,Uh,Uj,Ul,Us,Uu,Uw,Ux,Uy,Uz,U0,U2,U3,U4,U5,U6,U7,U8,U9,UA,UB,UC,UD,UE,UF,UG,UH,UR,US,UT,UU,UV,UW,Ta,Tb,Tc,Te,Tf,Th,Ti,Tm,Tn,Tp,Tq,Tr,Ts,Tt,Tw,Tx,Tz,T0,T1,T2,T3,T5,T7,T8,T9,TA,TN,TT,TX,TY,TZ,Sa,Sb,S8,S9,SA,SB,SC,SQ,SS,SV,SW,SX,SY,x3l0.eq_1,fP,a0,b0,a1,b1,a2,b2,e];all_goals tactic=>exact rfl))
theorem aLW {bs ps:List (List AV)} {m0 m1 m2 g sn:Nat} (k0:m0<256) (k1:m1<256) (k2:m2<256) {p q r s:mT} (hp:xW p) (hq:xW q) (hr:xW r) (hs:xW s) {t:List mT} :
 aW 0 [0,1,4,5,13,14,15] (execW aA 3 0 none lB (aN (dI [.fs bs,.fs ps,.agg [B8 m0,B8 m1,B8 m2],.fs (gD p::gD q::gD r::gD s::t.map gD),B8 g,B8 sn])) [])=some (s3a bs ps g sn [rw3 p,rw3 q,rw3 r,rw3 s] 0,z3 (m0%64) (m1%64) (m2%64)):=by
 obtain⟨a0,b0⟩:=jR k0
 obtain⟨a1,b1⟩:=jR k1
 obtain⟨a2,b2⟩:=jR k2
 have e:=aOb hp hq hr hs (t:=t)
 generalize (gD p::gD q::gD r::gD s::t.map gD)=rows at *
 unfold lB x3
 dsimp only
 (sym=>(simp[aE,aF,aK,aS,Za,Zb,Zc,Zd,Ze,Zf,Zg,Zh,Zj,Zl,Zm,Zo,Zu,Zv,Zy,Zz,Z2,Z6,Z8,ZF,ZH,ZL,ZM,ZP,ZQ,ZU,ZV,Ya,Ye,Yt,Y9,YA,YB,YD,YG,YH,YP,YU,YY,Xc,Xd,Xe,Xj,Xl,Xm,Xn,Xp,Xs,Xw,Xx,Xy,XN,XO,XX,XZ,Wa,Wb,Wd,Wf,Wh,Wp,Wr,Wy,Wz,W0,W3,W4,W5,W6,W7,W8,W9,WA,WB,WE,WF,WG,WH,WI,WJ,WK,WL,WN,WO,WP,WQ,WR,WS,WV,WW,WX,Vc,Vd,Vf,Vg,Vh,Vp,Vq,Vr,Vs,Vt,Vu,Vv,Vw,V1,V2,V3,V4,VL,VN,VO,VP,VQ,VS,VW,VX,VY,VZ,Ua,Uc,Ud,Ue,Uh,Uj,Ul,Us,Uu,Uw,Uy,U2,U3,U4,U5,U6,U7,U8,U9,UA,UB,UC,UD,UE,UF,UG,UH,UR,US,Th,Ti,Tm,Tn,Tp,Tq,Tw,Tx,T0,T1,T2,T3,T7,T8,T9,TA,TN,TX,TY,TZ,Sa,Sb,S8,S9,SA,SB,SC,SQ,SS,SV,SW,SX,SY,x3l0.eq_1,fP,a0,b0,a1,b1,a2,b2,e];all_goals tactic=>exact rfl))
abbrev mU (y:Nat×Nat):List AV:=[B8 y.1,B8 y.2]
abbrev tR (p:mT):List AV:=[I (p.1:Nat),I (p.2.1:Nat),I (p.2.2:Nat)]
def yC (P:List mT):List AV:=(P.map tR).flatten
theorem aFq (S:List mT):xX 3 (S.map tR):=by
 intro r hr
 simp only[List.mem_map]at hr
 obtain⟨x,_,rfl⟩:=hr
 exact⟨rfl,rfl,rfl,rfl⟩
theorem aAb (l:List mT):(yC l).length=l.length*3:=by rw[yC,(iL (aFq _)).2.2.2,List.length_map]
theorem aH {l:List mT}:eN (yC l)=true:=(iL (aFq _)).1
theorem aHO (l:List mT) (x:mT):yC (l++[x])=yC l++tR x:=by simp[yC]
theorem aFo (l:List mT):bG (yC l) 0 3 l.length=l.map tR:=by
 have:=tQ (aFq l)
 rw[List.length_map]at this
 exact this
def bA (y:Nat×Nat):List (Nat×Nat):=if y.1%6=y.2%6 then [] else [(y.1%6,y.2%6)]
def bN (bs:List (Nat×Nat)) (j:Nat):List (Nat×Nat):=(bs.take j).flatMap bA
def pA (i:Nat) (y:Nat×Nat):List mT:=if y.1%6=y.2%6 then [] else [(i,y.1%6,y.2%6)]
def pN (ps:List (Nat×Nat)):Nat→List mT
 | 0=>[]
 | j+1=>pN ps j++(match ps[j]? with|some y=>pA j y|none=>[])
theorem aJP {bs:List (Nat×Nat)} {j:Nat} {y:Nat×Nat} (h:bs[j]?=some y):bN bs (j+1)=bN bs j++bA y:=by unfold bN;rw[List.take_add_one,h];simp
theorem aMb {ps:List (Nat×Nat)} {j:Nat} {y:Nat×Nat} (h:ps[j]?=some y):pN ps (j+1)=pN ps j++pA j y:=by rw[pN,h]
theorem aLe (y:Nat×Nat):(bA y).length≤1:=by unfold bA;split<;>simp
theorem aKk (i:Nat) (y:Nat×Nat):(pA i y).length≤1:=by unfold pA;split<;>simp
theorem aCU (bs:List (Nat×Nat)):∀ j,(bN bs j).length≤j
 | 0=>by simp[bN]
 | j+1=>by
   have ih:=aCU bs j
   cases h:bs[j]? with
   | none =>
     have:bN bs (j+1)=bN bs j:=by unfold bN;rw[List.take_add_one,h];simp
     rw[this];omega
   | some y=>rw[aJP h,List.length_append];have:=aLe y;omega
theorem aCq (ps:List (Nat×Nat)):∀ j,(pN ps j).length≤j
 | 0=>by simp[pN]
 | j+1=>by
   have ih:=aCq ps j
   rw[pN,List.length_append]
   cases h:ps[j]? with
   | none=>simp only[List.length_nil];omega
   | some y=>have:=aKk j y;simp only;omega
abbrev rV (a b c:Nat):List (Nat×Nat)→List mT→XH
 | [],[]=>z3 a b c
 | p::r,[]=>[some (.blk false (.cells true [I 6,.sl 1 0 2 (r.length+1),.nilsl,I a,I b,I c])),some (.blk true (.cells true (lT (p::r))))]
 | [],p::r=>[some (.blk false (.cells true [I 6,.nilsl,.sl 1 0 3 (r.length+1),I a,I b,I c])),some (.blk true (.cells true (yC (p::r))))]
 | p::r,q::t=>[some (.blk false (.cells true [I 6,.sl 1 0 2 (r.length+1),.sl 2 0 3 (t.length+1),I a,I b,I c])),some (.blk true (.cells true (lT (p::r)))),some (.blk true (.cells true (yC (q::t))))]
section
variable {a b c g s:Nat} {bs ps:List (Nat×Nat)} {rows:List (List AV)}
theorem aLT {pr:List (List AV)} (hb:∀ y∈bs,y.1<256∧y.2<256) {j:Nat} (hj:j<bs.length) (hj2:j<10) :
 aW 0 [0,1,4,5,13,14,15] (execW aA 3 0 none (match uE with | .loop _ a=>a|c=>c) (aY [0,1,4,5,13,14,15] (s3a (bs.map mU) pr g s rows j)) (rV a b c (bN bs j) []))=some (s3a (bs.map mU) pr g s rows (j+1),rV a b c (bN bs (j+1)) []):=by
 obtain⟨y,hy⟩:=bU hj
 have hyb:=hb y (List.mem_of_getElem? hy)
 have gy:(bs.map mU)[j]?=some (mU y):=by rw[List.getElem?_map,hy];rfl
 have gl:(bs.map mU).length=bs.length:=List.length_map ..
 have a1:=eJ hj
 have a4:((j:Int)<10)=True:=eq_true (by omega)
 have a2:=eP hj2 (by omega)
 have w1:IntKind.i64.wrap (y.1:Int)=(y.1:Int):=aD (by omega) (by omega)
 have w2:IntKind.i64.wrap (y.2:Int)=(y.2:Int):=aD (by omega) (by omega)
 have q1:jH (y.1:Int) 6=((y.1%6:Nat):Int):=bO y.1 6
 have q2:jH (y.2:Int) 6=((y.2%6:Nat):Int):=bO y.2 6
 have hl:=aCU bs j
 rw[aJP hy]
 have hap:=aDp (bN bs j) (y.1%6,y.2%6)
 have hcl:=kB (bN bs j)
 have hz:((((y.1%6:Nat):Int)=((y.2%6:Nat):Int))=True∧bA y=[])∨((((y.1%6:Nat):Int)=((y.2%6:Nat):Int))=False∧bA y=[(y.1%6,y.2%6)]):=by
  unfold bA
  by_cases h:y.1%6=y.2%6
  ·exact .inl ⟨eq_true (by omega),by rw[if_pos h]⟩
  ·exact .inr ⟨eq_false (by omega),by rw[if_neg h]⟩
 generalize bs.map mU=br at *
 generalize bN bs j=B at *
 generalize bA y=tb at *
 generalize y.1%6=u at *
 generalize y.2%6=v at *
 unfold uE
 dsimp only
 rcases hz with ⟨hz,rfl⟩|⟨hz,rfl⟩
 ·rw[List.append_nil]
  cases B with
  | nil=>(sym=>(simp[aE,aF,aK,aS,aG,aH,Za,Zb,Zf,Zh,Zi,Zl,Zm,Zp,Zq,Zu,Zx,Z2,Z6,Z8,Z9,ZF,ZJ,ZK,ZW,Ya,Yc,Yh,Yi,Yk,Ys,Yt,Yx,Yy,Y9,YB,YE,YQ,YY,Xc,Xe,Xs,Xw,Xy,Wy,W9,WA,WE,WF,WH,WI,WJ,WL,WN,WO,WP,WQ,WV,WW,Vc,VN,VO,VP,VQ,VR,VS,VW,VX,VZ,Ua,Uc,Ud,Ue,Uh,Um,Us,Uw,Ux,Uy,U2,U3,U4,U5,Tj,Tk,Tm,Tw,Tx,Tz,T1,T2,T5,T8,T9,TA,TN,a1,a2,a4,gy,gl,w1,w2,q1,q2,hz];all_goals tactic=>exact rfl))
  | cons q r=>(sym=>(simp[aE,aF,aK,aS,aG,aH,Za,Zb,Zf,Zh,Zi,Zl,Zm,Zp,Zq,Zu,Zx,Z2,Z6,Z8,Z9,ZF,ZJ,ZK,ZW,Ya,Yc,Yh,Yi,Yk,Ys,Yt,Yx,Yy,Y9,YB,YE,YQ,YY,Xc,Xd,Xe,Xf,Xs,Xw,Xx,Xy,Xz,Wy,W9,WA,WB,WE,WF,WH,WI,WJ,WL,WN,WO,WP,WQ,WV,WW,WX,Vc,Vd,VN,VO,VP,VQ,VR,VS,VW,VX,VY,VZ,Ua,Uc,Ud,Ue,Uh,Um,Us,Uw,Ux,Uy,U2,U3,U4,U5,Tj,Tk,Tm,Tw,Tx,Tz,T1,T2,T5,T8,T9,TA,TN,a1,a2,a4,gy,gl,w1,w2,q1,q2,hz];all_goals tactic=>exact rfl))
 ·cases B with
  | nil =>
    have e1:lT [(u,v)]=[I (u:Nat),I (v:Nat)]:=rfl
    (sym=>(simp[aE,aF,aK,aS,aG,aH,Za,Zb,Zc,Zd,Ze,Zf,Zh,Zi,Zl,Zm,Zo,Zp,Zq,Zu,Zx,Zz,Z0,Z2,Z6,Z7,Z8,Z9,ZF,ZH,ZJ,ZK,ZL,ZM,ZT,ZW,Ya,Yb,Yc,Yh,Yi,Yk,Ys,Yt,Yx,Yy,Y9,YB,YE,YQ,YU,YY,Xc,Xd,Xe,Xf,Xj,Xl,Xn,Xs,Xw,Xx,Xy,Xz,Wp,Wr,Wt,Wy,Wz,W0,W3,W4,W5,W6,W7,W9,WA,WB,WE,WF,WH,WI,WJ,WL,WN,WO,WP,WQ,WV,WW,WX,Vc,Vd,VN,VO,VP,VQ,VR,VW,VX,VY,VZ,Ua,Uc,Ud,Ue,Uh,Uj,Ul,Un,Us,Uw,Ux,Uy,Uz,U0,U2,U3,U4,U5,U6,U7,UE,UF,UG,UH,UT,UU,UV,UW,Ta,Tb,Tc,Td,Th,Ti,Tj,Tk,Tm,Tn,Tp,Tq,Ts,Tt,Tv,Tw,Tx,Tz,T1,T2,T5,T8,T9,TA,TN,TT,a1,a2,a4,gy,gl,w1,w2,q1,q2,hz,e1];all_goals tactic=>exact rfl))
  | cons q r =>
    have hl:r.length+1≤j:=hl
    have b1:((r.length+1+1)*16≤1099511627776)=True:=eq_true (by omega)
    have b2:(r.length+1+1≤1099511627776)=True:=eq_true (by omega)
    have b3:((r.length+1)*2=(lT (q::r)).length)=True:=eq_true (by rw[hcl];simp)
    have e1:lT (q::r)++[I (u:Nat),I (v:Nat)]=lT (q::(r++[(u,v)])):=hap.symm
    (sym=>(simp[aE,aF,aK,aS,aG,aH,Za,Zb,Zc,Zd,Ze,Zf,Zh,Zi,Zl,Zm,Zo,Zp,Zq,Zu,Zx,Zz,Z0,Z2,Z6,Z7,Z8,Z9,ZF,ZH,ZJ,ZK,ZL,ZM,ZT,ZW,Ya,Yb,Yc,Yh,Yi,Yk,Ys,Yt,Yx,Yy,Y9,YB,YE,YQ,YU,YY,Xc,Xd,Xe,Xf,Xj,Xl,Xn,Xs,Xw,Xx,Xy,Xz,Wp,Wr,Wt,Wy,Wz,W0,W3,W4,W5,W6,W7,W9,WA,WB,WE,WF,WH,WI,WJ,WL,WN,WO,WP,WQ,WV,WW,WX,Vc,Vd,VN,VO,VP,VQ,VR,VW,VX,VY,VZ,Ua,Uc,Ud,Ue,Uh,Uj,Ul,Un,Us,Uw,Ux,Uy,Uz,U0,U2,U3,U4,U5,U6,U7,UE,UF,UG,UH,UT,UU,UV,UW,Ta,Tb,Tc,Te,Tf,Th,Ti,Tj,Tk,Tm,Tn,Tp,Tq,Tr,Ts,Tt,Tw,Tx,Tz,T1,T2,T5,T8,T9,TA,TK,TN,TT,a1,a2,a4,gy,gl,w1,w2,q1,q2,hz,e1,b1,b2,b3];all_goals tactic=>exact rfl))
abbrev s3b (pr:List (List AV)) (g s:Nat) (rows:List (List AV)) (i:Nat):List AV:=[.fs pr,B8 g,B8 s,.fs rows,.pt 0 0,I (i:Nat)]
theorem aLS (B:List (Nat×Nat)) (hb:∀ y∈ps,y.1<256∧y.2<256) {j:Nat} (hj:j<ps.length) (hj2:j<6) :
 aW 0 [1,4,5,13,14,18] (execW aA 3 0 none (match lQ with | .loop _ a=>a|c=>c) (aY [1,4,5,13,14,18] (s3b (ps.map mU) g s rows j)) (rV a b c B (pN ps j)))=some (s3b (ps.map mU) g s rows (j+1),rV a b c B (pN ps (j+1))):=by
 obtain⟨y,hy⟩:=bU hj
 have hyb:=hb y (List.mem_of_getElem? hy)
 have gy:(ps.map mU)[j]?=some (mU y):=by rw[List.getElem?_map,hy];rfl
 have gl:(ps.map mU).length=ps.length:=List.length_map ..
 have a1:=eJ hj
 have a4:((j:Int)<6)=True:=eq_true (by omega)
 have a2:=eP hj2 (by omega)
 have w1:IntKind.i64.wrap (y.1:Int)=(y.1:Int):=aD (by omega) (by omega)
 have w2:IntKind.i64.wrap (y.2:Int)=(y.2:Int):=aD (by omega) (by omega)
 have q1:jH (y.1:Int) 6=((y.1%6:Nat):Int):=bO y.1 6
 have q2:jH (y.2:Int) 6=((y.2%6:Nat):Int):=bO y.2 6
 have hl:=aCq ps j
 rw[aMb hy]
 have hap:=aHO (pN ps j) (j,y.1%6,y.2%6)
 have hcl:=aAb (pN ps j)
 have hz:((((y.1%6:Nat):Int)=((y.2%6:Nat):Int))=True∧pA j y=[])∨((((y.1%6:Nat):Int)=((y.2%6:Nat):Int))=False∧pA j y=[(j,y.1%6,y.2%6)]):=by
  unfold pA
  by_cases h:y.1%6=y.2%6
  ·exact .inl ⟨eq_true (by omega),by rw[if_pos h]⟩
  ·exact .inr ⟨eq_false (by omega),by rw[if_neg h]⟩
 generalize ps.map mU=br at *
 generalize pN ps j=P at *
 generalize pA j y=tb at *
 generalize y.1%6=u at *
 generalize y.2%6=v at *
 unfold lQ
 dsimp only
 rcases hz with ⟨hz,rfl⟩|⟨hz,rfl⟩
 ·rw[List.append_nil]
  cases P with
  | nil =>
    cases B with
    | nil=>(sym=>(simp[aE,aF,aK,aS,aG,aH,Za,Zb,Zf,Zh,Zi,Zl,Zm,Zp,Zq,Zu,Zx,Z2,Z6,Z8,Z9,ZF,ZJ,ZK,ZW,Ya,Yc,Yh,Yi,Yk,Ys,Yt,Yx,Yy,Y9,YB,YE,YQ,YY,Xc,Xe,Xs,Xw,Xy,Wy,W9,WA,WE,WF,WH,WI,WJ,WL,WN,WO,WP,WQ,WV,WW,Vc,VN,VO,VP,VQ,VR,VS,VW,VX,VZ,Ua,Uc,Ud,Ue,Uh,Um,Us,Uw,Ux,Uy,U2,U3,U4,U5,Tj,Tk,Tm,Tw,Tx,Tz,T1,T2,T5,T8,T9,TA,TN,a1,a2,a4,gy,gl,w1,w2,q1,q2,hz];all_goals tactic=>exact rfl))
    | cons x xs=>(sym=>(simp[aE,aF,aK,aS,aG,aH,Za,Zb,Zf,Zh,Zi,Zl,Zm,Zp,Zq,Zu,Zx,Z2,Z6,Z8,Z9,ZF,ZJ,ZK,ZW,Ya,Yc,Yh,Yi,Yk,Ys,Yt,Yx,Yy,Y9,YB,YE,YQ,YY,Xc,Xd,Xe,Xf,Xs,Xw,Xx,Xy,Xz,Wy,W9,WA,WB,WE,WF,WH,WI,WJ,WL,WN,WO,WP,WQ,WV,WW,WX,Vc,Vd,VN,VO,VP,VQ,VR,VS,VW,VX,VY,VZ,Ua,Uc,Ud,Ue,Uh,Um,Us,Uw,Ux,Uy,U2,U3,U4,U5,Tj,Tk,Tm,Tw,Tx,Tz,T1,T2,T5,T8,T9,TA,TN,a1,a2,a4,gy,gl,w1,w2,q1,q2,hz];all_goals tactic=>exact rfl))
  | cons q r =>
    cases B with
    | nil=>(sym=>(simp[aE,aF,aK,aS,aG,aH,Za,Zb,Zf,Zh,Zi,Zl,Zm,Zp,Zq,Zu,Zx,Z2,Z6,Z8,Z9,ZF,ZJ,ZK,ZW,Ya,Yc,Yh,Yi,Yk,Ys,Yt,Yx,Yy,Y9,YB,YE,YQ,YY,Xc,Xd,Xe,Xf,Xs,Xw,Xx,Xy,Xz,Wy,W9,WA,WB,WE,WF,WH,WI,WJ,WL,WN,WO,WP,WQ,WV,WW,WX,Vc,Vd,VN,VO,VP,VQ,VR,VS,VW,VX,VY,VZ,Ua,Uc,Ud,Ue,Uh,Um,Us,Uw,Ux,Uy,U2,U3,U4,U5,Tj,Tk,Tm,Tw,Tx,Tz,T1,T2,T5,T8,T9,TA,TN,a1,a2,a4,gy,gl,w1,w2,q1,q2,hz];all_goals tactic=>exact rfl))
    | cons x xs=>(sym=>(simp[aE,aF,aK,aS,aG,aH,Za,Zb,Zf,Zh,Zi,Zl,Zm,Zp,Zq,Zu,Zx,Z2,Z6,Z8,Z9,ZF,ZJ,ZK,ZW,Ya,Yc,Yh,Yi,Yk,Ys,Yt,Yx,Yy,Y9,YB,YE,YQ,YY,Xc,Xd,Xe,Xs,Xw,Xx,Xy,Wy,W9,WA,WB,WE,WF,WH,WI,WJ,WL,WN,WO,WP,WQ,WV,WW,WX,Vc,Vd,VN,VO,VP,VQ,VR,VS,VW,VX,VY,VZ,Ua,Uc,Ud,Ue,Uh,Um,Us,Uw,Ux,Uy,U2,U3,U4,U5,Tj,Tk,Tm,Tw,Tx,Tz,T1,T2,T5,T8,T9,TA,TN,a1,a2,a4,gy,gl,w1,w2,q1,q2,hz];all_goals tactic=>exact rfl))
 ·cases P with
  | nil =>
    have e1:yC [(j,u,v)]=[I (j:Nat),I (u:Nat),I (v:Nat)]:=rfl
    cases B with
    | nil=>(sym=>(simp[aE,aF,aK,aS,aG,aH,Za,Zb,Zc,Zd,Ze,Zf,Zh,Zi,Zl,Zm,Zo,Zp,Zq,Zu,Zx,Zz,Z0,Z2,Z6,Z7,Z8,Z9,ZF,ZH,ZJ,ZK,ZL,ZM,ZT,ZW,Ya,Yb,Yc,Yh,Yi,Yk,Ys,Yt,Yx,Yy,Y9,YB,YE,YQ,YU,YY,Xc,Xd,Xe,Xf,Xj,Xl,Xn,Xs,Xw,Xx,Xy,Xz,Wp,Wr,Wt,Wy,Wz,W0,W3,W4,W5,W6,W7,W9,WA,WB,WE,WF,WH,WI,WJ,WL,WN,WO,WP,WQ,WV,WW,WX,Vc,Vd,VN,VO,VP,VQ,VR,VW,VX,VY,VZ,Ua,Uc,Ud,Ue,Uh,Uj,Ul,Un,Us,Uw,Ux,Uy,Uz,U0,U2,U3,U4,U5,U6,U7,UE,UF,UG,UH,UT,UU,UV,UW,Ta,Tb,Tc,Td,Th,Ti,Tj,Tk,Tm,Tn,Tp,Tq,Ts,Tt,Tv,Tw,Tx,Tz,T1,T2,T5,T8,T9,TA,TN,TT,a1,a2,a4,gy,gl,w1,w2,q1,q2,hz,e1];all_goals tactic=>exact rfl))
    | cons x xs=>(sym=>(simp[aE,aF,aK,aS,aG,aH,Za,Zb,Zc,Zd,Ze,Zf,Zh,Zi,Zl,Zm,Zo,Zp,Zq,Zu,Zx,Zz,Z0,Z2,Z6,Z7,Z8,Z9,ZF,ZH,ZJ,ZK,ZL,ZM,ZT,ZW,Ya,Yb,Yc,Yh,Yi,Yk,Ys,Yt,Yx,Yy,Y9,YB,YE,YQ,YU,YY,Xc,Xd,Xe,Xj,Xl,Xn,Xs,Xw,Xx,Xy,Wp,Wr,Wt,Wy,Wz,W0,W3,W4,W5,W6,W7,W9,WA,WB,WE,WF,WH,WI,WJ,WL,WN,WO,WP,WQ,WV,WW,WX,Vc,Vd,VN,VO,VP,VQ,VR,VW,VX,VY,VZ,Ua,Uc,Ud,Ue,Uh,Uj,Ul,Un,Us,Uw,Ux,Uy,Uz,U0,U2,U3,U4,U5,U6,U7,UE,UF,UG,UH,UT,UU,UV,UW,Ta,Tb,Tc,Td,Th,Ti,Tj,Tk,Tm,Tn,Tp,Tq,Ts,Tt,Tv,Tw,Tx,Tz,T1,T2,T5,T8,T9,TA,TN,TT,a1,a2,a4,gy,gl,w1,w2,q1,q2,hz,e1];all_goals tactic=>exact rfl))
  | cons q r =>
    have hl:r.length+1≤j:=hl
    have b1:((r.length+1+1)*24≤1099511627776)=True:=eq_true (by omega)
    have b2:(r.length+1+1≤1099511627776)=True:=eq_true (by omega)
    have b3:((r.length+1)*3=(yC (q::r)).length)=True:=eq_true (by rw[hcl];simp)
    have e1:yC (q::r)++[I (j:Nat),I (u:Nat),I (v:Nat)]=yC (q::(r++[(j,u,v)])):=hap.symm
    cases B with
    | nil=>(sym=>(simp[aE,aF,aK,aS,aG,aH,Za,Zb,Zc,Zd,Ze,Zf,Zh,Zi,Zl,Zm,Zo,Zp,Zq,Zu,Zx,Zz,Z0,Z2,Z6,Z7,Z8,Z9,ZF,ZH,ZJ,ZK,ZL,ZM,ZT,ZW,Ya,Yb,Yc,Yh,Yi,Yk,Ys,Yt,Yx,Yy,Y9,YB,YE,YQ,YU,YY,Xc,Xd,Xe,Xf,Xj,Xl,Xn,Xs,Xw,Xx,Xy,Xz,Wp,Wr,Wt,Wy,Wz,W0,W3,W4,W5,W6,W7,W9,WA,WB,WE,WF,WH,WI,WJ,WL,WN,WO,WP,WQ,WV,WW,WX,Vc,Vd,VN,VO,VP,VQ,VR,VW,VX,VY,VZ,Ua,Uc,Ud,Ue,Uh,Uj,Ul,Un,Us,Uw,Ux,Uy,Uz,U0,U2,U3,U4,U5,U6,U7,UE,UF,UG,UH,UT,UU,UV,UW,Ta,Tb,Tc,Te,Tf,Th,Ti,Tj,Tk,Tm,Tn,Tp,Tq,Tr,Ts,Tt,Tw,Tx,Tz,T1,T2,T5,T8,T9,TA,TK,TN,TT,a1,a2,a4,gy,gl,w1,w2,q1,q2,hz,e1,b1,b2,b3];all_goals tactic=>exact rfl))
    | cons x xs=>(sym=>(simp[aE,aF,aK,aS,aG,aH,Za,Zb,Zc,Zd,Ze,Zf,Zh,Zi,Zl,Zm,Zo,Zp,Zq,Zu,Zx,Zz,Z0,Z2,Z6,Z7,Z8,Z9,ZF,ZH,ZJ,ZK,ZL,ZM,ZT,ZW,Ya,Yb,Yc,Yh,Yi,Yk,Ys,Yt,Yx,Yy,Y9,YB,YE,YQ,YU,YY,Xc,Xd,Xe,Xj,Xl,Xn,Xs,Xw,Xx,Xy,Wp,Wr,Wt,Wy,Wz,W0,W3,W4,W5,W6,W7,W9,WA,WB,WE,WF,WH,WI,WJ,WL,WN,WO,WP,WQ,WV,WW,WX,Vc,Vd,VN,VO,VP,VQ,VR,VW,VX,VY,VZ,Ua,Uc,Ud,Ue,Uh,Uj,Ul,Un,Us,Uw,Ux,Uy,Uz,U0,U2,U3,U4,U5,U6,U7,UE,UF,UG,UH,UT,UU,UV,UW,Ta,Tb,Tc,Te,Tf,Th,Ti,Tj,Tk,Tm,Tn,Tp,Tq,Tr,Ts,Tt,Tw,Tx,Tz,T1,T2,T5,T8,T9,TA,TK,TN,TT,a1,a2,a4,gy,gl,w1,w2,q1,q2,hz,e1,b1,b2,b3];all_goals tactic=>exact rfl))
end
abbrev gO3 (p q:AV) (a b c:Nat):XH:=[some (.blk true (.cells true [I 6,p,q,I a,I b,I c]))]
section
variable {p q:AV} {a b f g s:Nat} {rows:List (List AV)} {c:Nat} {ws:List (List Int)}
theorem aIe {ks:List Nat} {F:Nat} (h:∀ k∈ks,k<F) (i:Nat):cZ ks i<2^F :=
 uZ (fun k hk o ho=>zD ho (h k (List.mem_of_mem_take hk))) (Nat.two_pow_pos _)
abbrev s3c (g s:Nat) (rows:List (List AV)) (c:Nat) (ws:List (List Int)) (i:Nat):List AV:=[B8 g,B8 s,.fs rows,.pt 0 0,nL (cU (el c)),wL ws,I (cZ (el c) i:Nat),nL (cU (el c)),I (el c).length,I (i:Nat)]
theorem aNY (hc:c<2^6) {i:Nat} (hi:i<(el c).length) :
 aW 0 [4,5,13,14,21,23,25,163,164,165] (execW aA 3 0 none (match aFg with | .loop _ a=>a|c=>c) (aY [4,5,13,14,21,23,25,163,164,165] (s3c g s rows c ws i)) (gO3 p q a b f))=some (s3c g s rows c ws (i+1),gO3 p q a b f):=by
 obtain⟨k,hk⟩:=bU hi
 have hm:=fK.1 (List.mem_of_getElem? hk)
 have hk6:k<6:=eZ hc hm.2
 have hlen:=pY c
 have gl:=bW (el c)
 have gk:=jV hk
 have a1:=eJ hi
 have a2:=eP hi (by omega)
 have n0:((k:Int)<0)=False:=eq_false (by omega)
 have m1:((5:Int)<(k:Int))=False:=eq_false (by omega)
 have e1:=aAj dK (i:=k) (by omega)
 have hs:cZ (el c) i<2^6:=aIe (fun k hk=>eZ hc (fK.1 hk).2) i
 have p1:(2:Nat)^k≤2^6:=Nat.pow_le_pow_right (by omega) (by omega)
 have o1:=eL dK (a:=cZ (el c) i) (b:=2^k) (by omega) (by omega)
 rw[←uN hk]at o1
 unfold s3c
 generalize cZ (el c) (i+1)=s1 at *
 generalize cZ (el c) i=s0 at *
 generalize cU (el c)=os at *
 generalize (el c).length=ll at *
 unfold aFg
 dsimp only
 (sym=>(simp[Za,Zb,Zf,Zh,Zl,Zm,Zp,Zr,Zu,Zx,Z2,Z9,ZH,ZX,Yh,Yi,Yk,Yo,Yp,Yt,Yv,Yx,Yy,YY,Xc,Xe,Xs,Xw,Xy,Wy,W9,WA,WE,WF,WH,WI,WJ,WL,WN,WO,WP,WQ,WV,WW,Vc,VN,VO,VP,VQ,VR,VS,VW,VX,VZ,Ua,Uc,Ud,Ue,Uf,Ug,Uh,Us,Uw,Ux,Uy,U2,U3,U4,U5,Tj,Tk,Tm,Tw,Tx,Tz,T1,T2,T5,T8,T9,TA,TN,a1,a2,gl,gk,n0,m1,e1,o1];all_goals tactic=>exact rfl))
abbrev s3d (g s:Nat) (rows:List (List AV)) (c:Nat) (os:List Int) (wr:List (List AV)) (wl:Nat) (i:Nat) (ks:List Nat) (j:Nat):List AV:=[B8 g,B8 s,.fs rows,.pt 0 0,nL os,.fs wr,I (c:Nat),I (bC (cZ ks j&&&c):Nat),.fs wr,I wl,I (i:Nat),nL (cU ks),I ks.length,I (j:Nat)]
theorem aNX {x:Vn} {u wl:Nat} {os:List Int} {wr:List (List AV)} (hF:x.F=6) (hc:c<2^6) {ks:List Nat} (hw:xT x u ks) {i j:Nat} (hj:j<ks.length) :
 aW 0 [4,5,13,14,21,23,25,30,180,181,182,186,187,188] (execW aA 3 0 none (match aHI with | .loop _ a=>a|c=>c) (aY [4,5,13,14,21,23,25,30,180,181,182,186,187,188] (s3d g s rows c os wr wl i ks j)) (gO3 p q a b f))=some (s3d g s rows c os wr wl i ks (j+1),gO3 p q a b f):=by
 obtain⟨k,hk⟩:=bU hj
 have hk6:k<6:=by have:=hw.lt k (List.mem_of_getElem? hk);omega
 have hlen:=hw.len
 have gl:=bW ks
 have gk:=jV hk
 have a1:=eJ hj
 have a2:=eP hj (by omega)
 have n0:((k:Int)<0)=False:=eq_false (by omega)
 have m1:((5:Int)<(k:Int))=False:=eq_false (by omega)
 have eb:=aAH dK (a:=c) (i:=k) (by omega) (by omega)
 have hu:=aKE (C:=c) hk (by omega) (aHK hw hk)
 have hle:=mL (cZ ks j&&&c)
 have hw1:IntKind.i64.wrap ((bC (cZ ks j&&&c):Int)+(if c.testBit k then 1 else 0))=(bC (cZ ks (j+1)&&&c):Int):=by
  rw[hu]
  split
  ·rw[aD (by omega) (by omega)];omega
  ·rw[aD (by omega) (by omega)];omega
 unfold s3d
 generalize bC (cZ ks (j+1)&&&c)=n1 at *
 generalize bC (cZ ks j&&&c)=nn at *
 generalize (if c.testBit k then (1:Int) else 0)=bb at *
 generalize cU ks=ok at *
 generalize ks.length=ll at *
 unfold aHI
 dsimp only
 (sym=>(simp[Za,Zb,Zf,Zh,Zl,Zm,Zp,Zr,Zu,Zx,Z2,Z9,ZH,ZX,Yh,Yi,Yk,Yn,Yq,Yt,Yv,Yx,Yy,YY,Xc,Xe,Xs,Xw,Xy,Wy,W9,WA,WE,WF,WH,WI,WJ,WL,WN,WO,WP,WQ,WV,WW,Vc,VN,VO,VP,VQ,VR,VS,VW,VX,VZ,Ua,Uc,Ud,Ue,Uf,Ug,Uh,Us,Uw,Ux,Uy,U2,U3,U4,U5,Tj,Tk,Tm,Tw,Tx,Tz,T1,T2,T5,T8,T9,TA,TN,a1,a2,gl,gk,n0,m1,eb,hw1];all_goals tactic=>exact rfl))
abbrev s3e (g s:Nat) (rows:List (List AV)) (c:Nat) (wr:List (List AV)) (wl i:Nat):List AV:=[B8 g,B8 s,.fs rows,.pt 0 0,nL (cU (el c)),.fs wr,I (c:Nat),.fs wr,I wl,I (i:Nat)]
theorem aNW {x:Vn} (ok:x.Ok) (hF:x.F=6) (hc:c<2^6) (hv:yB x ws=0) (hC:Cuts x 0 c) (hl:ws.length=bC c) {wr:List (List AV)} (hwr:(ws.map fun w=>[nL w])=wr) {i:Nat} (hi:i<ws.length) :
 aW 0 [4,5,13,14,21,23,25,180,181,182] (execW aA 3 0 none (match aHH with | .loop _ a=>a|c=>c) (aY [4,5,13,14,21,23,25,180,181,182] (s3e g s rows c wr ws.length i)) (gO3 p q a b f))=some (s3e g s rows c wr ws.length (i+1),gO3 p q a b f):=by
 obtain⟨w,hw⟩:=bU hi
 obtain⟨hwl,hWs⟩:=aAQ ok.F16 hv
 obtain⟨ks,rfl,hk⟩:=hWs i w hw
 have h1:=aIU ok hv hC hl hw
 have gw:(ws.map fun w=>[nL w])[i]?=some [nL (cU ks)]:=by rw[List.getElem?_map,hw];rfl
 have gwl:(ws.map fun w=>[nL w]).length=ws.length:=List.length_map ..
 have a1:=eJ hi
 have a2:=eP hi (by omega)
 have gl:=bW ks
 have z:=Tg (n:=(ks.length:Int))
 have c0:bC (cZ ks 0&&&c)=0:=by rw[show cZ ks 0=0 from rfl,Nat.zero_and];rfl
 unfold s3e
 rw[hwr]at gw gwl
 have rd:=fun j (hj:j<ks.length)=>aNX (p:=p) (q:=q) (a:=a) (b:=b) (f:=f) (g:=g) (s:=s) (rows:=rows) (os:=cU (el c)) (wr:=wr) (wl:=ws.length) (i:=i) hF hc hk hj
 generalize cU (el c)=os at *
 generalize hwl:ws.length=wl at *
 unfold aHH
 dsimp only
 sym =>
  simp[Za,Zb,Zf,Zh,Zl,Zm,Zu,Z2,Z9,ZF,ZH,Yc,Yh,Yi,Yt,Yx,Yy,W9,VN,VQ,VR,Ud,Ue,Uf,Us,Ux,Tj,Tk,Tm,Tw,Tx,Tz,T1,T2,T9,TA,a1,gw,gwl,gl]
  tactic =>
   unfold aHI
   rw[aI ks.length (fun j=>[B8 g,B8 s,.fs rows,.pt 0 0,nL os,.fs wr,I (c:Nat),I (bC (cZ ks j&&&c):Nat),.fs wr,I wl,I (i:Nat),nL (cU ks),I ks.length,I (j:Nat)]) (fun _=>gO3 p q a b f)]
   ·rw[h1]
    (sym=>(simp[Za,Zb,Zf,Zh,Zl,Zm,Zu,Z2,Yk,Ys,Yt,YC,YY,Xc,Xe,Xs,Xw,Xy,Wy,WA,WE,WF,WH,WI,WJ,WL,WN,WO,WP,WQ,WV,WW,Vc,VN,VO,VP,VQ,VS,VW,VX,VZ,Ua,Uc,Uh,Um,Uw,Ux,Uy,U2,U3,U4,U5,Tg,Tw,Tx,Tz,T0,T2,T3,T5,T7,T8,T9,TA,TN,a2,z,gl];all_goals tactic=>exact rfl))
   ·rw[c0]
    (sym=>(simp[Za,YA,YY,Xc,Xe,Xs,Xw,Xy,Wy,WA,WE,WF,WH,WI,WJ,WL,WN,WO,WP,WQ,WV,WW,Vc,VN,VO,VP,VW,VX,VZ,Ua,Uc,Uh,Uw,U2,U3,U4,U5,T8,TN,gl];all_goals tactic=>exact rfl))
   ·exact rd
   ·rw[h1]
    (sym=>(simp[Za,Zb,Zf,Zh,Zl,Zm,Z2,Yt,YC,VN,VQ,VS,VT,Uy,Tg,Tw,Tx,T0,T2,T3,T9,z,gl];all_goals tactic=>exact rfl))
end
theorem aLk {fix:Nat} (h:fix<256):(xV fix).Ok:=by
 refine⟨by show (1:Nat)≤8;decide,by show (8:Nat)≤16;decide,by show (8:Nat)≤60;decide,by show (2:Nat)≤20;decide,?_,?_,by show (1:Nat)<2^8;decide,by show (192:Nat)<2^8;decide,h⟩
 ·intro p hp
  have:∀ p∈[(0,1),(0,2),(1,3),(2,3),(3,4),(3,5),(4,6),(5,6)],p.1<8∧p.2<8∧p.1≠p.2:=by decide
  exact this p hp
 ·intro p hp
  have:∀ p∈[(0,2,7),(3,4,7)],p.1≤100∧p.2.1<8∧p.2.2<8∧p.2.1≠p.2.2:=by decide
  exact this p hp
theorem q7:runW aA 7 [] []=some (.bool true,[]):=by
 have e:runW aA 5 [.agg [I 8,.fs [[I 0,I 1],[I 0,I 2],[I 1,I 3],[I 2,I 3],[I 3,I 4],[I 3,I 5],[I 4,I 6],[I 5,I 6]],.fs [[I 0,I 2,I 7],[I 3,I 4,I 7]],I 1,I 192,I 9]] []=some (.tup [.fs [[I 1],[I 2]],I 0],[]):=aKU (x:=xV 9) (aLk (by omega)) (c:=6) aQj (by decide)
 rw[r7 (by simp)];unfold x7;dsimp only
 (sym=>(simp[Za,Zb,Zc,Zd,Ze,Zf,Zg,Zh,Zj,Zl,Zm,Zo,Zp,Zq,Zu,Zv,Zx,Zz,Z0,Z2,Z9,ZE,ZF,ZH,ZL,ZM,ZP,ZQ,ZU,ZV,ZW,Yc,Yh,Yi,Yj,Yr,Y9,YB,YE,YU,YY,YZ,Xa,Xc,Xj,Xl,Xm,Xn,Xp,Xs,Xt,Xu,Xv,Xw,XK,XL,XO,XX,XZ,Wa,Wb,We,Wp,Wr,Wt,Wy,Wz,W0,W3,W4,W5,W6,W7,W9,WH,WK,WL,WM,WN,WO,WP,WR,WS,Vf,Vg,Vh,Vp,Vq,Vr,Vs,Vt,Vu,Vv,Vx,Vy,Vz,V1,V2,V3,V4,V6,V7,V9,VA,VB,VC,VD,VG,VH,VI,VJ,VV,VW,VX,VY,VZ,Ua,Uc,Ud,Ue,Uj,Ul,Us,Ux,Uz,U0,U1,U2,U3,U4,U5,U6,U7,U8,U9,UA,UB,UC,UE,UF,UG,UH,UT,UU,UV,UW,Th,Ti,Tj,Tk,Tl,Tm,Tn,Tp,Tq,Tw,Tx,Ty,T2,T9,TA,TU,TW,TX,TY,TZ,Sa,Sb,Sc,Sd,Se,Sf,S8,SA,SC,SQ,SS,SU,SW,SX,SY,e];all_goals tactic=>exact rfl))
mutual
theorem aKn:∀ v:AV,kU (kU v)=kU v
 | .agg vs=>by rw[kU,kU,sP vs]
 | .tup vs=>by rw[kU,kU,sP vs]
 | .nilsl=>rfl
 | .int _ _ | .bool _ | .str _ | .sl _ _ _ _ | .fs _ | .pt _ _ | .nilpt | .fn _ _ _ | .nilfn | .mp _ | .nilmap | .nilifc | .fp _ _ _ | .ch _ | .ifc _ _ | .any=>rfl
theorem sP:∀ l:List AV,dI (dI l)=dI l
 | []=>rfl
 | v::r=>by rw[dI,dI,aKn v,sP r]
end
theorem uS:∀ l:List AV,(dI l).length=l.length
 | []=>rfl
 | v::r=>by rw[dI,List.length_cons,List.length_cons,uS r]
theorem nz5 (vs:List AV) (hl:vs.length≤50):runW aA 5 vs []=runW aA 5 (dI vs) []:=by
 rw[r5 hl,r5 (by rw[uS];exact hl)]
 simp only[show x5.ownA=false from rfl,Bool.false_eq_true,if_false,sP]
theorem nz6 (vs:List AV) (hl:vs.length≤82):runW aA 6 vs []=runW aA 6 (dI vs) []:=by
 rw[r6 hl,r6 (by rw[uS];exact hl)]
 simp only[show x6.ownA=false from rfl,Bool.false_eq_true,if_false,sP]
theorem nz8 (vs:List AV) (hl:vs.length≤28):runW aA 8 vs []=runW aA 8 (dI vs) []:=by
 rw[r8 hl,r8 (by rw[uS];exact hl)]
 simp only[show x8.ownA=false from rfl,Bool.false_eq_true,if_false,sP]
def nO:List (List AV)→AV
 | []=>.nilsl
 | r=>.fs r
theorem aJD (r:List (List AV)):kU (nO r) = .fs r:=by cases r<;>rfl
def vV (bs ps:List (Nat×Nat)) (a b c:Nat):Vn:=⟨6,bN bs (min bs.length 10),pN ps (min ps.length 6),a,b,c⟩
theorem aLd {bs:List (Nat×Nat)} {j:Nat} {p:Nat×Nat} (h:p∈bN bs j):p.1<6∧p.2<6∧p.1≠p.2:=by
 unfold bN at h
 obtain⟨y,_,h⟩:=List.mem_flatMap.1 h
 unfold bA at h
 split at h
 ·simp at h
 ·rename_i hn
  simp only[List.mem_singleton]at h
  subst h
  exact⟨Nat.mod_lt _ (by omega),Nat.mod_lt _ (by omega),hn⟩
theorem aGv {ps:List (Nat×Nat)} {p:mT}:∀ {j:Nat},p∈pN ps j→p.1<j∧p.2.1<6∧p.2.2<6∧p.2.1≠p.2.2
 | 0,h=>by simp[pN]at h
 | j+1,h=>by
   rw[pN,List.mem_append]at h
   rcases h with h|h
   ·have:=aGv h
    exact⟨by omega,this.2⟩
   ·cases hy:ps[j]? with
    | none=>rw[hy]at h;simp at h
    | some y =>
      rw[hy]at h
      simp only at h
      unfold pA at h
      split at h
      ·simp at h
      ·rename_i hn
       simp only[List.mem_singleton]at h
       subst h
       exact⟨by simp,Nat.mod_lt _ (by omega),Nat.mod_lt _ (by omega),hn⟩
theorem aJw {bs ps:List (Nat×Nat)} {a b c:Nat} (ha:a<64) (hb:b<64) (hc:c<64):(vV bs ps a b c).Ok:=by
 have l1:=aCU bs (min bs.length 10)
 have l2:=aCq ps (min ps.length 6)
 refine⟨by show (1:Nat)≤6;decide,by show (6:Nat)≤16;decide,?_,?_,fun p hp=>aLd hp,fun p hp=>?_,ha,hb,hc⟩
 ·show (bN bs (min bs.length 10)).length≤60;omega
 ·show (pN ps (min ps.length 6)).length≤20;omega
 ·have:=aGv (ps:=ps) (j:=min ps.length 6) hp
  exact⟨by omega,this.2⟩
abbrev cV (B:List (Nat×Nat)) (P:List mT) (a b c:Nat):List AV:=[I 6,nO (B.map sR),nO (P.map tR),I a,I b,I c]
theorem aJU {bs ps:List (Nat×Nat)} {a b c:Nat} {B:List (Nat×Nat)} {P:List mT} (hB:bN bs (min bs.length 10)=B) (hP:pN ps (min ps.length 6)=P):dI [.agg (cV B P a b c)]=[.agg (vV bs ps a b c).c]:=by
 show [AV.agg [I 6,kU (nO (B.map sR)),kU (nO (P.map tR)),I a,I b,I c]]=[.agg [I (6:Nat),rB ((bN bs (min bs.length 10)).map bI),rP ((pN ps (min ps.length 6)).map pI),I a,I b,I c]]
 rw[aJD,aJD,hB,hP]
 simp only[rB,rP,List.map_map]
 rfl
theorem aLz {bs ps:List (Nat×Nat)} {a b c:Nat} {B:List (Nat×Nat)} {P:List mT} {os:List Int} {n:Int} (hB:bN bs (min bs.length 10)=B) (hP:pN ps (min ps.length 6)=P):dI [.agg (cV B P a b c),nL os,I n]=[.agg (vV bs ps a b c).c,nL os,I n]:=by
 have:=aJU (a:=a) (b:=b) (c:=c) hB hP
 simp only[dI,List.cons.injEq,and_true]at this ⊢
 exact⟨this,rfl,rfl⟩
theorem aHN {bs ps:List (Nat×Nat)} {a b c:Nat} {B:List (Nat×Nat)} {P:List mT} (hB:bN bs (min bs.length 10)=B) (hP:pN ps (min ps.length 6)=P) (ha:a<64) (hb:b<64) (hc:c<64) :
 (runW aA 5 [.agg (cV B P a b c)] []=some (.tup [.fs [],I 16],[])∧runW aA 6 [.agg (cV B P a b c)] []=some (.tup [.fs [],I 16],[])) ∨
 ∃ k ws,k<2^6∧Cuts (vV bs ps a b c) 0 k∧ws.length=bC k∧yB (vV bs ps a b c) ws=0∧runW aA 5 [.agg (cV B P a b c)] []=some (.tup [nL (cU (el k)),I 0],[])∧runW aA 6 [.agg (cV B P a b c)] []=some (.tup [wL ws,I 0],[]) ∧
   ∀ n:Nat,n≤100→∃ m,(∀ i∈el m,i<6∧b.testBit i=false)∧runW aA 8 [.agg (cV B P a b c),nL (cU (el k)),I n] []=some (.tup [nL (cU (el m)),I 0],[]):=by
 have ok:=aJw (bs:=bs) (ps:=ps) ha hb hc
 have e5:=(nz5 [.agg (cV B P a b c)] (by simp)).trans (by rw[aJU hB hP])
 have e6:=(nz6 [.agg (cV B P a b c)] (by simp)).trans (by rw[aJU hB hP])
 cases hh:wS (vV bs ps a b c)
 ·exact .inl ⟨e5.trans (aMQ ok ok.h23 hh),e6.trans (aMP ok hh)⟩
 ·obtain⟨k,hk,h5⟩:=w29 ok ok.h23 hh
  obtain⟨n,ws,hl,hn,hv,h6⟩:=w33 ok hh
  have hlt:k<2^6:=hk.lt
  have hcard:=hl.len hk
  rw[bW]at hcard
  refine .inr ⟨k,ws,hlt,hk.min.1,?_,hv,e5.trans h5,e6.trans h6,fun n hn=>?_⟩
  ·rw[hn,←hcard];rfl
  ·obtain⟨c1,c2⟩:=aJd ok hk.lt hk.min.1.free
   have e8:=(nz8 [.agg (cV B P a b c),nL (cU (el k)),I n] (by simp)).trans (by rw[aLz hB hP])
   have h8:=aMR ok (c:=cU (el k)) (by rw[bW];have:=pY k;omega) ok.h23 c1 hn
   rw[c2]at h8
   refine⟨_,fun i hi=>?_,e8.trans h8⟩
   have hi:=(fK.1 hi).2
   have hr:=aDI (x:=vV bs ps a b c) (cl:=k) (by omega) n i hi
   refine⟨?_,hk.min.1.cut i (by rw[Nat.or_zero];exact hr)⟩
   have:cC (vV bs ps a b c) k n<2^6:=fC ok k n
   exact eZ this hi
structure OkF (f:List Nat):Prop where
 len:f.length≤3
 lt:∀ g∈f,g<256
 dn:∀ (k a b:Nat),f[k+1]?=some a→f[k]?=some b→a≤b
theorem OkF.nil:OkF []:=⟨by simp,by simp,by simp⟩
theorem OkF.five:OkF [5]:=⟨by simp,by simp,by simp⟩
theorem OkF.hau {p:mT} (h:xW p):OkF (hau p):=by
 have a1:h1 p≤p.1:=Nat.sub_le _ _
 have a2:h2 p≤h1 p:=Nat.sub_le _ _
 have a3:=h.1
 refine⟨by simp,?_,?_⟩
 ·intro g hg
  simp only[List.mem_cons,List.not_mem_nil,or_false]at hg
  omega
 ·intro k a b ha hb
  match k with
  | 0=>simp at ha hb;omega
  | 1=>simp at ha hb;omega
  | k+2=>simp at ha
section
variable {p q:AV} {a b f g c n bf:Nat} {rows:List (List AV)}
theorem aNV {m:Nat} (hb:b<64) (hm:∀ i∈el m,i<6∧b.testBit i=false) {i:Nat} (hi:i<(el m).length) :
 aW 0 [4,13,14,25,226,227,228] (execW aA 3 0 none (match aHG with | .loop _ a=>a|c=>c) (aY [4,13,14,25,226,227,228] [B8 g,.fs rows,.pt 0 0,I (c:Nat),nL (cU (el m)),I (el m).length,I (i:Nat)]) (gO3 p q a b f)) =
  some ([B8 g,.fs rows,.pt 0 0,I (c:Nat),nL (cU (el m)),I (el m).length,I (i+1:Nat)],gO3 p q a b f):=by
 obtain⟨k,hk⟩:=bU hi
 obtain⟨hk6,hkb⟩:=hm k (List.mem_of_getElem? hk)
 have hlen:=pY m
 have gl:=bW (el m)
 have gk:=jV hk
 have a1:=eJ hi
 have a2:=eP hi (by omega)
 have n0:((k:Int)<0)=False:=eq_false (by omega)
 have m1:((5:Int)<(k:Int))=False:=eq_false (by omega)
 have eb:=aAH dK (a:=b) (i:=k) (by omega) (by omega)
 rw[hkb]at eb
 generalize cU (el m)=os at *
 generalize (el m).length=ll at *
 unfold aHG
 dsimp only
 (sym=>(simp[Za,Zb,Zf,Zh,Zl,Zm,Zp,Zr,Zu,Zx,Z2,Z7,Z9,ZH,ZX,Yb,Yh,Yi,Yk,Yn,Yq,Yr,Yt,Yv,Yx,Yy,YY,Xc,Xe,Xs,Xw,Xy,Wy,Wz,W0,W9,WA,WE,WF,WH,WI,WJ,WL,WN,WO,WP,WQ,WV,WW,Vc,VN,VO,VP,VQ,VR,VS,VV,VW,VX,VZ,Ua,Uc,Ud,Ue,Uf,Ug,Uh,Us,Uw,Ux,Uy,U2,U3,U4,U5,Th,Ti,Tj,Tk,Tm,Tw,Tx,Tz,T1,T2,T5,T8,T9,TA,TN,a1,a2,gl,gk,n0,m1,eb];all_goals tactic=>exact rfl))
def dT (c:Nat) (F:List (List Nat)) (i:Nat):List AV:=(List.range 4).map fun j=>if decide (j<i)&&c.testBit j then .nilsl else nL (cU (F.getD j []))
abbrev rF (F:List (List Nat)):List (List AV):=cQ (dT 0 F 0)
abbrev gCl (C:List AV):XH:=[some (.blk true (.cells true C))]
theorem aNU {C:List AV} {F:List (List Nat)} {pl:List Int} {lost i j k:Nat} (hi:i<4) (hl:(F.getD i []).length≤3) (hj:j<(F.getD i []).length) (hjk:j<k) (hlt:∀ x∈F.getD i [],x<256) (hlost:lost<100000) (hs:((F.getD i []).take j).sum<1000) (hr:rows[i]?=some [nL (cU (F.getD i []))]) (hrl:rows.length=4) :
 aW 0 [13,25,36,38,39,40,41,42,43,267,268,269] (execW aA 3 0 none (match aFf with | .loop _ a=>a|c=>c) (aY [13,25,36,38,39,40,41,42,43,267,268,269] [.fs rows,I (c:Nat),I (n:Nat),I (bf:Nat),.sl 0 0 1 4,I (lost+((F.getD i []).take j).sum:Nat),I (i:Nat),I (k:Nat),I (j:Nat),nL pl,I 4,I (i:Nat)]) (gCl C)) =
  some ([.fs rows,I (c:Nat),I (n:Nat),I (bf:Nat),.sl 0 0 1 4,I (lost+((F.getD i []).take (j+1)).sum:Nat),I (i:Nat),I (k:Nat),I (j+1:Nat),nL pl,I 4,I (i:Nat)],gCl C):=by
 obtain⟨x,hx⟩:=bU hj
 have hx2:=hlt x (List.mem_of_getElem? hx)
 have gl:=bW (F.getD i [])
 have gx:=jV hx
 have a1:((j:Int)<((F.getD i []).length:Int))=True:=eq_true (by omega)
 have a3:((j:Int)<(k:Int))=True:=eq_true (by omega)
 have a4:((i:Int)<4)=True:=eq_true (by omega)
 have a2:=eP (i:=j) (n:=100) (by omega) (by omega)
 have e:((F.getD i []).take (j+1)).sum=((F.getD i []).take j).sum+x:=by rw[List.take_add_one,hx];simp
 have w:IntKind.i64.wrap (((lost+((F.getD i []).take j).sum:Nat):Int)+(x:Int))=((lost+((F.getD i []).take (j+1)).sum:Nat):Int):=by rw[e,aD (by omega) (by omega)];omega
 generalize lost+((F.getD i []).take (j+1)).sum=s1 at *
 generalize lost+((F.getD i []).take j).sum=s0 at *
 generalize cU (F.getD i [])=os at *
 generalize (F.getD i []).length=ll at *
 unfold aFf
 dsimp only
 (sym=>(simp[Za,Zb,Zf,Zh,Zl,Zm,Zp,Zq,Zu,Zx,Z2,Z9,ZF,ZH,ZW,Yc,Yh,Yi,Yk,Yt,Yx,Yy,YH,YY,Xc,Xd,Xs,Xw,Xx,Wy,W9,WA,WE,WF,WH,WI,WJ,WL,WN,WO,WP,WQ,WV,WW,Vc,VN,VO,VP,VQ,VR,VW,VX,VZ,Ua,Uc,Ud,Ue,Uf,Ug,Uh,Us,Uw,Ux,U2,U3,U4,U5,Tj,Tk,Tm,Tw,Tx,Tz,T1,T2,T5,T8,T9,TA,TN,a1,a2,a3,a4,gl,gx,hr,hrl,w];all_goals tactic=>exact rfl))
end
theorem kL {c:Nat} {F:List (List Nat)} {i:Nat}:(dT c F i).length=4:=by simp[dT]
theorem aJi {c:Nat} {F:List (List Nat)} {i:Nat} (h:c.testBit i=false):dT c F (i+1)=dT c F i:=by
 unfold dT
 apply List.map_congr_left
 intro j _
 by_cases hj:j=i
 ·subst hj;rw[h];simp
 ·have:decide (j<i+1)=decide (j<i):=by
   by_cases h2:j<i
   ·rw[decide_eq_true h2,decide_eq_true (by omega)]
   ·rw[decide_eq_false h2,decide_eq_false (by omega)]
  rw[this]
theorem aKX {c:Nat} {F:List (List Nat)} {i:Nat} (hi:i<4) (h:c.testBit i=true):bQ (dT c F i) i [.nilsl]=dT c F (i+1):=by
 match i with
 | 0=>simp[dT,List.range,List.range.loop,bQ,h]
 | 1=>simp[dT,List.range,List.range.loop,bQ,h]
 | 2=>simp[dT,List.range,List.range.loop,bQ,h]
 | 3=>simp[dT,List.range,List.range.loop,bQ,h]
 | i+4=>omega
theorem aLN {F:List (List Nat)} {i:Nat} (hi:i<4):(rF F)[i]?=some [nL (cU (F.getD i []))]:=by
 simp only[rF,cQ,dT]
 rw[List.getElem?_map,List.getElem?_map,List.getElem?_range hi]
 simp
theorem aJy {f:List Nat} (h:OkF f) (j:Nat):(f.take j).sum≤768:=by
 have hl:(f.take j).length≤3:=by rw[List.length_take];have:=h.len;omega
 have key:∀ (l:List Nat),(∀ x∈l,x<256)→l.sum≤256*l.length:=by
  intro l
  induction l with
  | nil=>simp
  | cons x l ih =>
    intro hx
    have:=ih fun y hy=>hx y (by simp[hy])
    have:=hx x (by simp)
    simp only[List.sum_cons,List.length_cons]
    omega
 have:=key (f.take j) fun x hx=>h.lt x (List.mem_of_mem_take hx)
 omega
theorem aAw {F:List (List Nat)} {c:Nat} {T:List (Nat×Nat)} (h:∀ i,OkF (F.getD i [])):∀ i,dL F c T i≤768*i
 | 0=>by simp[dL]
 | i+1=>by
   have ih:=aAw (c:=c) (T:=T) h i
   have:=aJy (h i) (fL T i)
   rw[dL]
   split<;>omega
section
variable {c n bf:Nat}
abbrev s3h (F:List (List Nat)) (c n bf:Nat) (T:List (Nat×Nat)) (i:Nat):List AV:=[.fs (rF F),I (c:Nat),I (n:Nat),I (bf:Nat),.sl 0 0 1 4,I (dL F c T i:Nat),nL (cJ 4 T),I 4,I (i:Nat)]
theorem aNT {F:List (List Nat)} (h:∀ i,OkF (F.getD i [])) (hc:c<64) {T:List (Nat×Nat)} (hT:T.length≤12) {i:Nat} (hi:i<4) :
 aW 0 [13,25,36,38,39,40,267,268,269] (execW aA 3 0 none (match aFe with | .loop _ a=>a|c=>c) (aY [13,25,36,38,39,40,267,268,269] (s3h F c n bf T i)) (gCl (dT c F i))) =
  some (s3h F c n bf T (i+1),gCl (dT c F (i+1))):=by
 have hok:=h i
 have hl3:=hok.len
 have hlo:=aAw (c:=c) (T:=T) h i
 have a1:((i:Int)<4)=True:=eq_true (by omega)
 have a2:=eP hi (by omega)
 have pk:=uP (T:=T) hi
 have n0:((i:Int)<0)=False:=eq_false (by omega)
 have pln:=gW (m:=4) (T:=T)
 have eb:=aAH dK (a:=c) (i:=i) (by omega) (by omega)
 have hr:=aLN (F:=F) hi
 have hrl:(rF F).length=4:=by simp[dT]
 have cl:=kL (c:=c) (F:=F) (i:=i)
 have b1:(i+1≤4)=True:=eq_true (by omega)
 have hk:fL T i≤T.length:=List.length_filter_le _ _
 cases hb:c.testBit i
 ·rw[hb]at eb
  have e1:=aJi (F:=F) hb
  have e2:dL F c T (i+1)=dL F c T i:=by rw[dL,hb];rfl
  unfold s3h
  rw[e1,e2]
  generalize dL F c T i=L at *
  generalize cJ 4 T=pl at *
  generalize rF F=rows at *
  generalize dT c F i=C at *
  unfold aFe
  dsimp only
  (sym=>(simp[Za,Zb,Zf,Zh,Zl,Zm,Zu,Z2,Z9,ZH,Yh,Yi,Yk,Yn,Yq,Yr,Yt,Yx,Yy,YH,YY,Xc,Xd,Xs,Xw,Xx,Wy,W9,WA,WE,WF,WH,WI,WJ,WL,WN,WO,WP,WQ,WV,WW,Vc,VN,VO,VP,VQ,VR,VV,VW,VX,VZ,Ua,Uc,Ud,Ue,Uf,Ug,Uh,Us,Uw,Ux,U2,U3,U4,U5,Tj,Tk,Tm,Tw,Tx,Tz,T0,T1,T2,T3,T7,T8,T9,TA,TN,a1,a2,pk,pln,n0,eb];all_goals tactic=>exact rfl))
 ·rw[hb]at eb
  have e1:=aKX (F:=F) hi hb
  have e2:dL F c T (i+1)=dL F c T i+((F.getD i []).take (fL T i)).sum:=by rw[dL,hb];rfl
  have e3:(F.getD i []).take (min (fL T i) (F.getD i []).length)=(F.getD i []).take (fL T i):=by
   rcases Nat.le_total (fL T i) (F.getD i []).length with q|q
   ·rw[Nat.min_eq_left q]
   ·rw[Nat.min_eq_right q,List.take_length,List.take_of_length_le q]
  have rd:=fun j (hj:j<min (fL T i) (F.getD i []).length)=>aNU (rows:=rF F) (c:=c) (n:=n) (bf:=bf) (C:=dT c F (i+1)) (F:=F) (pl:=cJ 4 T) (lost:=dL F c T i) (i:=i) (j:=j) (k:=fL T i) hi hl3 (by omega) (by omega) hok.lt (by omega) (by have:=aJy hok j;omega) hr hrl
  have e4:dL F c T i=dL F c T i+((F.getD i []).take 0).sum:=by simp
  have gl:=bW (F.getD i [])
  have fin:(((min (fL T i) (F.getD i []).length:Nat):Int)<((fL T i:Nat):Int))=False∨((((min (fL T i) (F.getD i []).length:Nat):Int)<((fL T i:Nat):Int))=True∧(((min (fL T i) (F.getD i []).length:Nat):Int)<((F.getD i []).length:Int))=False):=by
   by_cases q:fL T i≤(F.getD i []).length
   ·exact .inl (eq_false (by omega))
   ·exact .inr ⟨eq_true (by omega),eq_false (by omega)⟩
  have e9:dL F c T i+((F.getD i []).take (min (fL T i) (F.getD i []).length)).sum=dL F c T (i+1):=by rw[e3,e2]
  unfold s3h
  have cl2:=kL (c:=c) (F:=F) (i:=i+1)
  generalize hS:(fun j=>dL F c T i+((F.getD i []).take j).sum)=S at *
  have rd2:∀ j,j<min (fL T i) (F.getD i []).length→aW 0 [13,25,36,38,39,40,41,42,43,267,268,269] (execW aA 3 0 none (match aFf with | .loop _ a=>a|c=>c) (aY [13,25,36,38,39,40,41,42,43,267,268,269] [.fs (rF F),I (c:Nat),I (n:Nat),I (bf:Nat),.sl 0 0 1 4,I (S j:Nat),I (i:Nat),I (fL T i:Nat),I (j:Nat),nL (cJ 4 T),I 4,I (i:Nat)]) (gCl (dT c F (i+1)))) =
   some ([.fs (rF F),I (c:Nat),I (n:Nat),I (bf:Nat),.sl 0 0 1 4,I (S (j+1):Nat),I (i:Nat),I (fL T i:Nat),I (j+1:Nat),nL (cJ 4 T),I 4,I (i:Nat)],gCl (dT c F (i+1))):=by rw[←hS];exact rd
  have s0:S 0=dL F c T i:=by rw[←hS];exact e4.symm
  have s9:S (min (fL T i) (F.getD i []).length)=dL F c T (i+1):=by rw[←hS];exact e9
  generalize min (fL T i) (F.getD i []).length=mm at *
  generalize dL F c T (i+1)=L1 at *
  generalize dL F c T i=L at *
  generalize fL T i=k at *
  generalize cJ 4 T=pl at *
  generalize rF F=rows at *
  generalize dT c F (i+1)=C1 at *
  generalize dT c F i=C at *
  generalize cU (F.getD i [])=os at *
  generalize (F.getD i []).length=fl at *
  unfold aFe
  dsimp only
  sym =>
   simp[Za,Zb,Zc,Zf,Zh,Zl,Zm,Zu,Z2,Z9,ZH,ZL,ZM,Yg,Yh,Yi,Yn,Yq,Yr,Yt,Yx,Yy,YH,Xp,Wv,Wy,W3,W9,VN,VQ,VR,VS,Ud,Ue,Uf,Ug,Uh,Uj,Us,Ux,Uy,U6,U7,Tj,Tk,Tm,Tn,Tp,Tw,Tx,Tz,T1,T2,T9,TA,TL,TM,a1,pk,pln,n0,eb,cl,b1,e1]
   tactic =>
    unfold aFf
    rw[aI mm (fun j=>[.fs rows,I (c:Nat),I (n:Nat),I (bf:Nat),.sl 0 0 1 4,I (S j:Nat),I (i:Nat),I (k:Nat),I (j:Nat),nL pl,I 4,I (i:Nat)]) (fun _=>gCl C1)]
    ·rw[s9]
     rcases fin with f1|⟨f1,f2⟩
     ·(sym=>(simp[Za,Zb,Zf,Zh,Zl,Zm,Zp,Zs,Zu,Zx,Z2,ZX,Yk,Yt,YY,Xc,Xd,Xs,Xw,Xx,Wy,WA,WE,WF,WH,WI,WJ,WL,WN,WO,WP,WQ,WV,WW,Vc,VN,VO,VP,VQ,VS,VW,VX,VZ,Ua,Uc,Uh,Uw,Uy,U2,U3,U4,U5,Tw,Tx,T0,T2,T3,T5,T7,T8,T9,TA,TN,a2,f1];all_goals tactic=>exact rfl))
     ·(sym=>(simp[Za,Zb,Zf,Zh,Zl,Zm,Zp,Zq,Zu,Zx,Z2,Z9,ZF,ZH,ZW,Yc,Yh,Yi,Yk,Yt,Yx,Yy,YH,YY,Xc,Xd,Xs,Xw,Xx,Wy,W9,WA,WE,WF,WH,WI,WJ,WL,WN,WO,WP,WQ,WV,WW,Vc,VN,VO,VP,VQ,VS,VW,VX,VZ,Ua,Uc,Ud,Ue,Uf,Uh,Us,Uw,Ux,Uy,U2,U3,U4,U5,Tj,Tk,Tm,Tw,Tx,T0,T2,T3,T5,T7,T8,T9,TA,TN,a1,a2,f1,f2,hr,hrl,gl];all_goals tactic=>exact rfl))
    ·rw[s0]
     (sym=>(simp[Za,YA,YY,Xc,Xd,Xs,Xw,Xx,Wy,WA,WE,WF,WH,WI,WJ,WL,WN,WO,WP,WQ,WV,WW,Vc,VN,VO,VP,VW,VX,VZ,Ua,Uc,Uh,Uw,U2,U3,U4,U5,T8,TN];all_goals tactic=>exact rfl))
    ·exact rd2
    ·rw[s9]
     rcases fin with f1|⟨f1,f2⟩
     ·(sym=>(simp[Za,Zb,Zf,Zh,Zl,Zm,Zp,Zs,Zu,Zx,Z2,ZX,Yt,VN,VQ,VS,VT,Uy,Tw,Tx,T0,T2,T3,T9,TA,f1];all_goals tactic=>exact rfl))
     ·(sym=>(simp[Za,Zb,Zf,Zh,Zl,Zm,Zp,Zq,Zu,Zx,Z2,Z9,ZF,ZH,ZW,Yc,Yh,Yi,Yt,Yx,Yy,YH,W9,VN,VQ,VS,VT,Ud,Ue,Uf,Us,Ux,Uy,Tj,Tk,Tm,Tw,Tx,T0,T2,T3,T9,TA,a1,f1,f2,hr,hrl,gl];all_goals tactic=>exact rfl))
end
def pM:XCode:=match dQ with | .seq _ (.seq _ (.seq _ (.seq _ (.seq _ (.seq _ (.seq _ (.seq (.seq _ b) t)))))))=>.seq b t|c=>c
theorem aHh {F:List (List Nat)} (hF:F.length=4) (h:∀ i,OkF (F.getD i [])):fX (dT 0 F 0) F:=by
 have hm:∀ f∈F,OkF f:=by
  intro f hf
  obtain⟨i,hi⟩:=List.getElem?_of_mem hf
  have:=h i
  rw[List.getD_eq_getElem?_getD,hi]at this
  exact this
 refine⟨by rw[kL,hF],?_,by omega,fun f hf=>(hm f hf).len,fun f hf=>(hm f hf).lt,fun f hf=>(hm f hf).dn⟩
 intro i v f hv hf
 have hi:i<4:=by have:=dZ hf;omega
 unfold dT at hv
 rw[List.getElem?_map,List.getElem?_range hi]at hv
 simp at hv
 rw[hf]at hv
 subst hv
 exact .inl rfl
theorem aHg {F:List (List Nat)} (hF:F.length=4) (h:∀ i,OkF (F.getD i [])) (c:Nat):fX (dT c F 4) (qA c F):=by
 have hm:∀ f∈qA c F,OkF f:=by
  intro f hf
  unfold qA at hf
  obtain⟨i,_,rfl⟩:=List.mem_map.1 hf
  split
  ·exact OkF.nil
  ·exact h i
 have hl:=xF c F
 refine⟨by rw[kL,hl,hF],?_,by omega,fun f hf=>(hm f hf).len,fun f hf=>(hm f hf).lt,fun f hf=>(hm f hf).dn⟩
 intro i v f hv hf
 have hi:i<4:=by have:=dZ hf;omega
 rw[aDU (by omega)]at hf
 unfold dT at hv
 rw[List.getElem?_map,List.getElem?_range hi]at hv
 simp only[Option.map_some,oSI]at hv hf
 cases hc:c.testBit i
 ·rw[hc]at hv hf
  simp at hv hf
  subst hv hf
  exact .inl rfl
 ·rw[hc]at hv hf
  simp[hi]at hv hf
  subst hv hf
  exact .inr ⟨rfl,rfl⟩
theorem aQk {C:List AV} (h:C.length=4):bG C 0 1 4=cQ C:=by
 match C,h with
 | [a,b,c,d],_=>rfl
theorem aQh {C:List AV} (h:C.length=4):(cQ C).flatten=C:=by
 match C,h with
 | [a,b,c,d],_=>rfl
theorem aKY {c:Nat} {F:List (List Nat)} {i:Nat}:eN (dT c F i)=true:=by
 simp only[dT,List.range,List.range.loop,List.map_cons,List.map_nil,eN,Bool.and_true]
 have key:∀ (b:Bool) (l:List Int),gG (if b then .nilsl else nL l)=true:=by intro b l;cases b<;>rfl
 simp only[key,Bool.and_self]
theorem aLA {F:List (List Nat)} (hF:F.length=4) (h:∀ i,OkF (F.getD i [])) {x:Vn} (ok:x.Ok) (hx6:x.F=6) {k:Nat} (hk:k<2^6) {ws:List (List Int)} (hv:yB x ws=0) (hC:Cuts x 0 k) (hl:ws.length=bC k) {p q:AV} {a b f g s:Nat} (hp1:yG p=[]) (hp2:∀ s,rnA s p=p) (hq1:yG q=[]) (hq2:∀ s,rnA s q=q) (hb:b<64) (hg:g<256) (hs:s<256)
 (h8:∀ n:Nat,n≤100→∃ m,(∀ i∈el m,i<6∧b.testBit i=false)∧runW aA 8 [.agg [I 6,p,q,I a,I b,I f],nL (cU (el k)),I n] []=some (.tup [nL (cU (el m)),I 0],[])) :
 bL none x3.res x3.ownR 0 (execW aA 3 0 none pM (aY [4,5,13,14,21,23,25,163,164,165] (s3c g s (rF F) k ws 0)) (gO3 p q a b f))=some (.bool true,[]):=by
 obtain⟨m,hm,e8⟩:=h8 (s%101) (by omega)
 have fl0:=aHh hF h
 have fl1:=aHg hF h k
 have e9:=q9 fl0 (n:=g%9) (by omega)
 have e9b:=q9 fl1 (n:=g%9) (by omega)
 obtain⟨bc1,bc2⟩:=aHA fl0 k (g%9)
 have hT:((cK F).take (g%9)).length≤12:=by rw[List.length_take];omega
 have hlo:=aAw (c:=k) (T:=(cK F).take (g%9)) h 4
 have hsum:=vP (T:=cK F) (fun p hp=>by
  have:=(iT (dX F F.length) []).mem_iff (a:=p)
  rw[List.append_nil]at this
  obtain⟨_,h2⟩:=oC (this.1 hp)
  exact(h p.2).lt _ h2) (g%9)
 rw[hF]at e9 bc2
 rw[xF,hF]at e9b
 have rdc:=fun i (hi:i<(el k).length)=>aNY (p:=p) (q:=q) (a:=a) (b:=b) (f:=f) (g:=g) (s:=s) (rows:=rF F) (ws:=ws) hk hi
 obtain⟨wr,hwr⟩:∃ wr,(ws.map fun w=>[nL w])=wr:=⟨_,rfl⟩
 have rde:=fun i (hi:i<ws.length)=>aNW (p:=p) (q:=q) (a:=a) (b:=b) (f:=f) (g:=g) (s:=s) (rows:=rF F) ok hx6 hk hv hC hl hwr hi
 have hW:wL ws = .fs wr:=by rw[←hwr]
 unfold s3c at rdc ⊢
 rw[hW]at rdc ⊢
 have rdf:=fun i (hi:i<(el m).length)=>aNV (p:=p) (q:=q) (a:=a) (b:=b) (f:=f) (g:=g) (c:=k) (rows:=rF F) hb hm hi
 have rdh:=fun i (hi:i<4)=>aNT (n:=g%9) (bf:=cE ((cK F).take (g%9))) h (by omega:k<64) hT hi
 have u1:IntKind.i64.wrap (s:Int)=(s:Int):=aD (by omega) (by omega)
 have u2:jH (s:Int) 101=((s%101:Nat):Int):=bO s 101
 have u3:IntKind.i64.wrap (g:Int)=(g:Int):=aD (by omega) (by omega)
 have u4:jH (g:Int) 9=((g%9:Nat):Int):=bO g 9
 have sw:cZ (el k) (el k).length=k:=aDq (by omega)
 have s0:cZ (el k) 0=0:=rfl
 have glk:=bW (el k)
 have glm:=bW (el m)
 have gwl:wr.length=ws.length:=by rw[←hwr];exact List.length_map ..
 have hlk:((el k).length:Int)=(ws.length:Int):=by rw[hl];rfl
 have f1:=Tg (n:=((el k).length:Int))
 have f2:=Tg (n:=(ws.length:Int))
 have f3:=Tg (n:=((el m).length:Int))
 have pln:=gW (m:=4) (T:=(cK F).take (g%9))
 have l0:dL F k ((cK F).take (g%9)) 0=0:=rfl
 have cl0:dT 0 F 0=dT k F 0:=by unfold dT;simp
 have ch:[List.take 1 (List.drop 0 (dT k F 4)),List.take 1 (List.drop 1 (dT k F 4)),List.take 1 (List.drop 2 (dT k F 4)),List.take 1 (List.drop 3 (dT k F 4))]=cQ (dT k F 4):=aQk (C:=dT k F 4) kL
 rw[←ch]at e9b
 have fl:=aQh (C:=dT k F 0) kL
 have cln:=kL (c:=k) (F:=F) (i:=4)
 have cln0:=kL (c:=k) (F:=F) (i:=0)
 have gr0:=aKY (c:=k) (F:=F) (i:=0)
 have rl:(cQ (dT k F 0)).length=4:=by simp[cln0]
 have al:((cQ (dT k F 0)).all fun r=>r.length==1)=true:=by simp[cQ]
 have z1:((cE ((cK (qA k F)).take (g%9)):Int)≤(cE ((cK F).take (g%9)):Int))=True:=eq_true (by omega)
 have z2:IntKind.i64.wrap ((cE ((cK F).take (g%9)):Int)-(dL F k ((cK F).take (g%9)) 4:Int))=(cE ((cK F).take (g%9)):Int)-(dL F k ((cK F).take (g%9)) 4:Int):=aD (by omega) (by omega)
 have z3:((cE ((cK F).take (g%9)):Int)-(dL F k ((cK F).take (g%9)) 4:Int)≤(cE ((cK (qA k F)).take (g%9)):Int))=True:=eq_true (by omega)
 unfold s3h at rdh
 unfold s3e at rde
 rw[show rF F=cQ (dT k F 0) by rw[rF,cl0]]at *
 rw[cl0]at e9
 have e7:=q7
 generalize cJ 4 ((cK F).take (g%9))=pl at *
 generalize cJ 4 ((cK (qA k F)).take (g%9))=pl2 at *
 generalize hLL:dL F k ((cK F).take (g%9))=LL at *
 generalize cE ((cK (qA k F)).take (g%9))=af at *
 generalize cE ((cK F).take (g%9))=bf at *
 generalize g%9=gn at *
 generalize s%101=sn at *
 generalize cQ (dT k F 0)=rows at *
 generalize cU (el m)=om at *
 generalize cU (el k)=ok' at *
 generalize (el k).length=lk at *
 generalize (el m).length=lm at *
 generalize ws.length=wl at *
 unfold pM dQ x3
 dsimp only
 sym =>
  simp[aE,aF,aK,aS,YA,Tx,T1,glk]
  tactic =>
   unfold aFg
   rw[aI lk (fun i=>[B8 g,B8 s,.fs rows,.pt 0 0,nL ok',.fs wr,I (cZ (el k) i:Nat),nL ok',I lk,I (i:Nat)]) (fun _=>gO3 p q a b f)]
   ·rw[sw]
    sym =>
     simp[aE,aF,aK,aS,Za,Zb,Zf,Zh,Zl,Zm,Zu,Z2,ZF,Yc,Yt,VN,VQ,VS,Uy,Tg,Tw,Tx,T0,T1,T2,T3,T7,T9,TA,f1,gwl]
     tactic =>
      unfold aHH
      rw[aI wl (fun i=>[B8 g,B8 s,.fs rows,.pt 0 0,nL ok',.fs wr,I (k:Nat),.fs wr,I wl,I (i:Nat)]) (fun _=>gO3 p q a b f)]
      ·sym =>
       simp[aE,aF,aK,aS,Za,Zb,Zf,Zg,Zh,Zj,Zl,Zm,Zp,Zr,Zu,Zx,Z2,Z6,ZE,ZF,ZH,ZP,ZQ,ZU,ZV,ZX,Ya,Yc,Yj,Ys,Yt,YY,Xa,Xc,Xs,Xu,Xv,Xw,XN,Wh,Wy,Wz,W0,W4,W5,W6,W7,W9,WH,WK,WM,WR,WS,Vf,Vg,Vh,Vs,Vu,Vv,Vw,Vx,Vy,V0,VN,VQ,VS,VW,VX,VZ,Ua,Ud,Ue,Uf,Um,Ux,Uy,U1,U2,U3,U4,U5,Tg,Th,Ti,Tl,Tw,Tx,Tz,T0,T1,T2,T3,T7,T9,TA,S8,SQ,SS,SU,SV,SW,SX,SY,f2,u1,u2,e8,hp1,hp2,hq1,hq2,gwl,glk,hlk,glm]
       tactic =>
        unfold aHG
        rw[aI lm (fun i=>[B8 g,.fs rows,.pt 0 0,I (k:Nat),nL om,I lm,I (i:Nat)]) (fun _=>gO3 p q a b f)]
        ·sym =>
         simp[aE,aF,aK,aS,Za,Zb,Zf,Zg,Zh,Zj,Zl,Zm,Zo,Zp,Zr,Zu,Zx,Z0,Z2,Z6,ZE,ZF,ZP,ZQ,ZT,ZU,ZV,ZX,Ya,Yc,Yj,Ys,Yt,YH,YY,Xc,Xp,Xs,Xv,Xw,XN,Wh,Wy,Wz,W0,W3,W7,W9,WH,WK,WM,WR,WS,Vf,Vg,Vh,Vs,Vu,Vv,Vw,VN,VQ,VS,VW,VX,VY,VZ,Ua,Ud,Ue,Uf,Uj,Um,Us,Ux,Uy,Uz,U1,U2,U3,U4,U5,U6,U7,UF,UT,UU,UV,UZ,Tc,Te,Tf,Tg,Tq,Tr,Ts,Tt,Tu,Tw,Tx,Tz,T0,T1,T2,T3,T7,T9,TA,S8,SQ,SS,SV,SW,SX,SY,f3,u3,u4,e9,pln,rl,fl,gr0,al,cln0]
         tactic =>
          unfold aFe
          rw[aI 4 (fun i=>[.fs rows,I (k:Nat),I gn,I bf,.sl 0 0 1 4,I (LL i:Nat),nL pl,I 4,I (i:Nat)]) (fun i=>gCl (dT k F i))]
          ·(sym=>(simp[aE,aF,aK,aS,Za,Zb,Zf,Zg,Zh,Zj,Zl,Zm,Zp,Zq,Zu,Zx,Z2,ZE,ZP,ZQ,ZU,ZV,ZW,Yj,Yl,Yr,Yt,Yu,Yw,YH,YY,YZ,Xc,Xs,Xt,Xv,Xw,XL,XO,XX,Wa,We,Wh,Wy,W3,W7,W9,WH,WK,WL,WM,WN,WO,WP,WR,WS,Vf,Vg,Vh,Vp,Vq,Vr,Vs,Vt,Vu,Vv,Vw,V2,V4,V6,V7,V9,VA,VB,VC,VD,VG,VH,VI,VJ,VN,VQ,VS,VW,VX,VZ,Ua,Uc,Ud,Ue,Us,Ux,Uy,U1,U2,U3,U4,U5,Tw,Tx,Ty,T0,T2,T3,T7,T9,TA,TX,TY,TZ,Sa,Sb,S8,SA,SC,SQ,SS,SV,SW,SX,SY,cln,e9b,z1,z2,z3,e7];all_goals tactic=>exact rfl))
          ·rw[l0]
           (sym=>(simp[aE,aF,aK,aS,Za,YA,YY,Xc,Xd,Xs,Xw,Xx,Wh,Wy,WA,WE,WF,WH,WI,WJ,WL,WN,WO,WP,WQ,WV,WW,Vc,VN,VO,VP,VW,VX,VZ,Ua,Uc,Uh,Uw,U2,U3,U4,U5,T8,TN,SS,SV];all_goals tactic=>exact rfl))
          ·exact rdh
          ·(sym=>(simp[aE,aF,aK,aS,Za,Zb,Zf,Zh,Zl,Zm,Z2,Yt,YH,VN,VQ,VS,VT,Uy,Tw,Tx,T0,T2,T3,T9];all_goals tactic=>exact rfl))
        ·(sym=>(simp[aE,aF,aK,aS,Za,YA,YY,Xc,Xe,Xs,Xw,Xy,Wy,WA,WE,WF,WH,WI,WJ,WL,WN,WO,WP,WQ,WV,WW,Vc,VN,VO,VP,VW,VX,VZ,Ua,Uc,Uh,Uw,U2,U3,U4,U5,T8,TN,SS,SV];all_goals tactic=>exact rfl))
        ·exact rdf
        ·(sym=>(simp[aE,aF,aK,aS,Za,Zb,Zf,Zh,Zl,Zm,Z2,Yt,VN,VQ,VS,VT,Uy,Tg,Tw,Tx,T0,T2,T3,T9,f3];all_goals tactic=>exact rfl))
      ·(sym=>(simp[aE,aF,aK,aS,Za,YA,YY,Xc,Xe,Xs,Xw,Xy,Wy,WA,WE,WF,WH,WI,WJ,WL,WN,WO,WP,WQ,WV,WW,Vc,VN,VO,VP,VW,VX,VZ,Ua,Uc,Uh,Uw,U2,U3,U4,U5,T8,TN];all_goals tactic=>exact rfl))
      ·exact rde
      ·(sym=>(simp[aE,aF,aK,aS,Za,Zb,Zf,Zh,Zl,Zm,Z2,Yt,VN,VQ,VS,VT,Uy,Tg,Tw,Tx,T0,T2,T3,T9,f2];all_goals tactic=>exact rfl))
   ·rw[s0]
    (sym=>(simp[aE,aF,aK,aS,YA,YY,Xc,Xe,Xs,Xw,Xy,Wy,WA,WE,WF,WH,WI,WJ,WL,WN,WO,WP,WQ,WV,WW,Vc,VN,VO,VP,VW,VX,VZ,Ua,Uc,Uh,Uw,U2,U3,U4,U5,T8,TN];all_goals tactic=>exact rfl))
   ·exact rdc
   ·(sym=>(simp[aE,aF,aK,aS,Za,Zb,Zf,Zh,Zl,Zm,Z2,Yt,VN,VQ,VS,VT,Uy,Tg,Tw,Tx,T0,T2,T3,T9,f1];all_goals tactic=>exact rfl))
def vI:XCode:=match dQ with | .seq a (.seq b (.seq c (.seq d (.seq e (.seq f (.seq g (.seq (.seq r _) _)))))))=>.seq a (.seq b (.seq c (.seq d (.seq e (.seq f (.seq g r))))))|c=>c
theorem aMf {bs ps:List (Nat×Nat)} {a b c g s:Nat} {rows:List (List AV)} (hb:∀ y∈bs,y.1<256∧y.2<256) (hp:∀ y∈ps,y.1<256∧y.2<256)
 (e5:runW aA 5 [.agg (cV (bN bs (min bs.length 10)) (pN ps (min ps.length 6)) a b c)] []=some (.tup [.fs [],I 16],[])) (e6:runW aA 6 [.agg (cV (bN bs (min bs.length 10)) (pN ps (min ps.length 6)) a b c)] []=some (.tup [.fs [],I 16],[])) :
 bL none x3.res x3.ownR 0 (execW aA 3 0 none dQ (aY [0,1,4,5,13,14,15] (s3a (bs.map mU) (ps.map mU) g s rows 0)) (z3 a b c))=some (.bool true,[]):=by
 have n1:min bs.length 10≤10:=Nat.min_le_right _ _
 have n2:min ps.length 6≤6:=Nat.min_le_right _ _
 have gb:(bs.map mU).length=bs.length:=List.length_map ..
 have gp:(ps.map mU).length=ps.length:=List.length_map ..
 have rda:=fun j (hj:j<min bs.length 10)=>aLT (a:=a) (b:=b) (c:=c) (g:=g) (s:=s) (rows:=rows) (pr:=ps.map mU) hb (j:=j) (by omega) (by omega)
 have rdb:=fun j (hj:j<min ps.length 6)=>aLS (a:=a) (b:=b) (c:=c) (g:=g) (s:=s) (rows:=rows) (bN bs (min bs.length 10)) hp (j:=j) (by omega) (by omega)
 have B0:bN bs 0=[]:=by simp[bN]
 have P0:pN ps 0=[]:=rfl
 have fb:(((min bs.length 10:Nat):Int)<(bs.length:Int))=False∨((((min bs.length 10:Nat):Int)<(bs.length:Int))=True∧(((min bs.length 10:Nat):Int)<10)=False):=by
  by_cases q:bs.length≤10
  ·exact .inl (eq_false (by omega))
  ·exact .inr ⟨eq_true (by omega),eq_false (by omega)⟩
 have fp:(((min ps.length 6:Nat):Int)<(ps.length:Int))=False∨((((min ps.length 6:Nat):Int)<(ps.length:Int))=True∧(((min ps.length 6:Nat):Int)<6)=False):=by
  by_cases q:ps.length≤6
  ·exact .inl (eq_false (by omega))
  ·exact .inr ⟨eq_true (by omega),eq_false (by omega)⟩
 have cb:=aCi (bN bs (min bs.length 10))
 have cp:=aFo (pN ps (min ps.length 6))
 have lb:=kB (bN bs (min bs.length 10))
 have lp:=aAb (pN ps (min ps.length 6))
 unfold s3a at rda ⊢
 unfold s3b at rdb
 unfold cV at e5 e6
 generalize hnb:min bs.length 10=nb at *
 generalize hnp:min ps.length 6=np at *
 generalize hbr:bs.map mU=br at *
 generalize hpr:ps.map mU=pr at *
 generalize hBB:bN bs nb=BB at *
 generalize hPP:pN ps np=PP at *
 generalize hRB:BB.map sR=RB at *
 generalize hRP:PP.map tR=RP at *
 generalize bs.length=bl at *
 generalize ps.length=pl at *
 rcases BB with _|⟨bx,bq⟩
 ·rcases PP with _|⟨px,pq⟩
  ·have zz:True:=trivial
   have hRB:[]=RB:=hRB
   subst hRB
   have hRP:[]=RP:=hRP
   subst hRP
   have e5:runW aA 5 [.agg [I 6,.nilsl,.nilsl,I a,I b,I c]] []=some (.tup [.fs [],I 16],[]):=e5
   have e6:runW aA 6 [.agg [I 6,.nilsl,.nilsl,I a,I b,I c]] []=some (.tup [.fs [],I 16],[]):=e6
   unfold dQ x3
   dsimp only
   sym =>
    simp[aE,aF,aK,aS,aG,aH,YA,Tx,T1,gb]
    tactic =>
     unfold uE
     rw[aI nb (fun j=>[.fs br,.fs pr,B8 g,B8 s,.fs rows,.pt 0 0,I (j:Nat)]) (fun j=>rV a b c (bN bs j) [])]
     ·rw[hBB]
      rcases fb with f1|⟨f1,f2⟩
      ·sym =>
       simp[aE,aF,aK,aS,aG,aH,Za,Zb,Zf,Zh,Zl,Zm,Zp,Zs,Zu,Zx,Z2,ZF,ZX,Yc,Yt,VN,VQ,VS,Uy,Tw,Tx,T0,T1,T2,T3,T7,T9,TA,gb,f1,gp]
       tactic =>
        unfold lQ
        rw[aI np (fun j=>[.fs pr,B8 g,B8 s,.fs rows,.pt 0 0,I (j:Nat)]) (fun j=>rV a b c [] (pN ps j))]
        ·rw[hPP]
         rcases fp with p1|⟨p1,p2⟩
         ·(sym=>(simp[aE,aF,aK,aS,aG,aH,Za,Zb,Zf,Zg,Zh,Zj,Zl,Zm,Zp,Zq,Zr,Zs,Zu,Zx,Z2,ZE,ZF,ZH,ZP,ZQ,ZU,ZV,ZW,ZX,Yc,Yj,Yr,Ys,Yt,YY,YZ,Xa,Xf,Xs,Xt,Xu,Xv,Xw,Xz,XL,We,Wy,Wz,W0,W4,W5,W6,W7,W9,WH,WK,WL,WM,WN,WO,WP,WR,WS,Vf,Vg,Vh,Vs,Vu,Vv,Vx,Vy,V0,V6,V7,V9,VA,VB,VC,VD,VG,VH,VI,VJ,VN,VQ,VR,VS,VW,VX,VZ,Ua,Uc,Ud,Ue,Um,Un,Ux,Uy,U1,U2,U3,U4,U5,Th,Ti,Tl,Tw,Tx,Ty,Tz,T0,T2,T3,T4,T7,T9,TA,S8,SQ,SS,SU,SW,SX,SY,gp,p1,e5,e6,q7];all_goals tactic=>exact rfl))
         ·(sym=>(simp[aE,aF,aK,aS,aG,aH,Za,Zb,Zf,Zg,Zh,Zj,Zl,Zm,Zp,Zq,Zr,Zu,Zx,Z2,ZE,ZF,ZH,ZP,ZQ,ZU,ZV,ZW,ZX,Yc,Yj,Yr,Ys,Yt,YY,YZ,Xa,Xf,Xs,Xt,Xu,Xv,Xw,Xz,XL,We,Wy,Wz,W0,W4,W5,W6,W7,W9,WH,WK,WL,WM,WN,WO,WP,WR,WS,Vf,Vg,Vh,Vs,Vu,Vv,Vx,Vy,V0,V6,V7,V9,VA,VB,VC,VD,VG,VH,VI,VJ,VN,VQ,VR,VS,VW,VX,VZ,Ua,Uc,Ud,Ue,Um,Un,Ux,Uy,U1,U2,U3,U4,U5,Th,Ti,Tl,Tw,Tx,Ty,Tz,T0,T2,T3,T4,T7,T9,TA,S8,SQ,SS,SU,SW,SX,SY,gp,p1,p2,e5,e6,q7];all_goals tactic=>exact rfl))
        ·rw[P0]
         (sym=>(simp[aE,aF,aK,aS,aG,aH,Za,YA,YY,Xc,Xe,Xs,Xw,Xy,Wy,WA,WE,WF,WH,WI,WJ,WL,WN,WO,WP,WQ,WV,WW,Vc,VN,VO,VP,VW,VX,VZ,Ua,Uc,Uh,Uw,U2,U3,U4,U5,T8,TN];all_goals tactic=>exact rfl))
        ·exact rdb
        ·rw[hPP]
         rcases fp with p1|⟨p1,p2⟩
         ·(sym=>(simp[aE,aF,aK,aS,aG,aH,Za,Zb,Zf,Zh,Zl,Zm,Zp,Zs,Zu,Zx,Z2,ZF,ZX,Yc,Yt,VN,VQ,VS,VT,Uy,Tw,Tx,T0,T2,T3,T9,TA,gp,p1];all_goals tactic=>exact rfl))
         ·(sym=>(simp[aE,aF,aK,aS,aG,aH,Za,Zb,Zf,Zh,Zl,Zm,Zp,Zq,Zu,Zx,Z2,ZF,ZW,Yc,Yt,VN,VQ,VS,VT,Ux,Uy,Tw,Tx,T0,T2,T3,T9,TA,gp,p1,p2];all_goals tactic=>exact rfl))
      ·sym =>
       simp[aE,aF,aK,aS,aG,aH,Za,Zb,Zf,Zh,Zl,Zm,Zp,Zq,Zu,Zx,Z2,ZF,ZW,Yc,Yt,VN,VQ,VS,Ux,Uy,Tw,Tx,T0,T1,T2,T3,T7,T9,TA,gb,f1,f2,gp]
       tactic =>
        unfold lQ
        rw[aI np (fun j=>[.fs pr,B8 g,B8 s,.fs rows,.pt 0 0,I (j:Nat)]) (fun j=>rV a b c [] (pN ps j))]
        ·rw[hPP]
         rcases fp with p1|⟨p1,p2⟩
         ·(sym=>(simp[aE,aF,aK,aS,aG,aH,Za,Zb,Zf,Zg,Zh,Zj,Zl,Zm,Zp,Zq,Zr,Zs,Zu,Zx,Z2,ZE,ZF,ZH,ZP,ZQ,ZU,ZV,ZW,ZX,Yc,Yj,Yr,Ys,Yt,YY,YZ,Xa,Xf,Xs,Xt,Xu,Xv,Xw,Xz,XL,We,Wy,Wz,W0,W4,W5,W6,W7,W9,WH,WK,WL,WM,WN,WO,WP,WR,WS,Vf,Vg,Vh,Vs,Vu,Vv,Vx,Vy,V0,V6,V7,V9,VA,VB,VC,VD,VG,VH,VI,VJ,VN,VQ,VR,VS,VW,VX,VZ,Ua,Uc,Ud,Ue,Um,Un,Ux,Uy,U1,U2,U3,U4,U5,Th,Ti,Tl,Tw,Tx,Ty,Tz,T0,T2,T3,T4,T7,T9,TA,S8,SQ,SS,SU,SW,SX,SY,gp,p1,e5,e6,q7];all_goals tactic=>exact rfl))
         ·(sym=>(simp[aE,aF,aK,aS,aG,aH,Za,Zb,Zf,Zg,Zh,Zj,Zl,Zm,Zp,Zq,Zr,Zu,Zx,Z2,ZE,ZF,ZH,ZP,ZQ,ZU,ZV,ZW,ZX,Yc,Yj,Yr,Ys,Yt,YY,YZ,Xa,Xf,Xs,Xt,Xu,Xv,Xw,Xz,XL,We,Wy,Wz,W0,W4,W5,W6,W7,W9,WH,WK,WL,WM,WN,WO,WP,WR,WS,Vf,Vg,Vh,Vs,Vu,Vv,Vx,Vy,V0,V6,V7,V9,VA,VB,VC,VD,VG,VH,VI,VJ,VN,VQ,VR,VS,VW,VX,VZ,Ua,Uc,Ud,Ue,Um,Un,Ux,Uy,U1,U2,U3,U4,U5,Th,Ti,Tl,Tw,Tx,Ty,Tz,T0,T2,T3,T4,T7,T9,TA,S8,SQ,SS,SU,SW,SX,SY,gp,p1,p2,e5,e6,q7];all_goals tactic=>exact rfl))
        ·rw[P0]
         (sym=>(simp[aE,aF,aK,aS,aG,aH,Za,YA,YY,Xc,Xe,Xs,Xw,Xy,Wy,WA,WE,WF,WH,WI,WJ,WL,WN,WO,WP,WQ,WV,WW,Vc,VN,VO,VP,VW,VX,VZ,Ua,Uc,Uh,Uw,U2,U3,U4,U5,T8,TN];all_goals tactic=>exact rfl))
        ·exact rdb
        ·rw[hPP]
         rcases fp with p1|⟨p1,p2⟩
         ·(sym=>(simp[aE,aF,aK,aS,aG,aH,Za,Zb,Zf,Zh,Zl,Zm,Zp,Zs,Zu,Zx,Z2,ZF,ZX,Yc,Yt,VN,VQ,VS,VT,Uy,Tw,Tx,T0,T2,T3,T9,TA,gp,p1];all_goals tactic=>exact rfl))
         ·(sym=>(simp[aE,aF,aK,aS,aG,aH,Za,Zb,Zf,Zh,Zl,Zm,Zp,Zq,Zu,Zx,Z2,ZF,ZW,Yc,Yt,VN,VQ,VS,VT,Ux,Uy,Tw,Tx,T0,T2,T3,T9,TA,gp,p1,p2];all_goals tactic=>exact rfl))
     ·rw[B0]
      (sym=>(simp[aE,aF,aK,aS,aG,aH,YA,YY,Xc,Xe,Xs,Xw,Xy,Wy,WA,WE,WF,WH,WI,WJ,WL,WN,WO,WP,WQ,WV,WW,Vc,VN,VO,VP,VW,VX,VZ,Ua,Uc,Uh,Uw,U2,U3,U4,U5,T8,TN];all_goals tactic=>exact rfl))
     ·exact rda
     ·rw[hBB]
      rcases fb with f1|⟨f1,f2⟩
      ·(sym=>(simp[aE,aF,aK,aS,aG,aH,Za,Zb,Zf,Zh,Zl,Zm,Zp,Zs,Zu,Zx,Z2,ZF,ZX,Yc,Yt,VN,VQ,VS,VT,Uy,Tw,Tx,T0,T2,T3,T9,TA,gb,f1];all_goals tactic=>exact rfl))
      ·(sym=>(simp[aE,aF,aK,aS,aG,aH,Za,Zb,Zf,Zh,Zl,Zm,Zp,Zq,Zu,Zx,Z2,ZF,ZW,Yc,Yt,VN,VQ,VS,VT,Ux,Uy,Tw,Tx,T0,T2,T3,T9,TA,gb,f1,f2];all_goals tactic=>exact rfl))
  ·have zz:True:=trivial
   have hRB:[]=RB:=hRB
   subst hRB
   have cp:bG (yC (px::pq)) 0 3 (pq.length+1)=RP:=cp
   have c3:((pq.length+1)*3≤(yC (px::pq)).length)=True:=eq_true (by rw[lp];simp)
   obtain⟨rp0,rpr,rfl⟩:∃ x r,RP=x::r:=⟨_,_,hRP.symm⟩
   have e5:runW aA 5 [.agg [I 6,.nilsl,.fs (rp0::rpr),I a,I b,I c]] []=some (.tup [.fs [],I 16],[]):=e5
   have e6:runW aA 6 [.agg [I 6,.nilsl,.fs (rp0::rpr),I a,I b,I c]] []=some (.tup [.fs [],I 16],[]):=e6
   unfold dQ x3
   dsimp only
   sym =>
    simp[aE,aF,aK,aS,aG,aH,YA,Tx,T1,gb]
    tactic =>
     unfold uE
     rw[aI nb (fun j=>[.fs br,.fs pr,B8 g,B8 s,.fs rows,.pt 0 0,I (j:Nat)]) (fun j=>rV a b c (bN bs j) [])]
     ·rw[hBB]
      rcases fb with f1|⟨f1,f2⟩
      ·sym =>
       simp[aE,aF,aK,aS,aG,aH,Za,Zb,Zf,Zh,Zl,Zm,Zp,Zs,Zu,Zx,Z2,ZF,ZX,Yc,Yt,VN,VQ,VS,Uy,Tw,Tx,T0,T1,T2,T3,T7,T9,TA,gb,f1,gp]
       tactic =>
        unfold lQ
        rw[aI np (fun j=>[.fs pr,B8 g,B8 s,.fs rows,.pt 0 0,I (j:Nat)]) (fun j=>rV a b c [] (pN ps j))]
        ·rw[hPP]
         rcases fp with p1|⟨p1,p2⟩
         ·(sym=>(simp[aE,aF,aK,aS,aG,aH,Za,Zb,Zf,Zg,Zh,Zj,Zl,Zm,Zp,Zq,Zr,Zs,Zu,Zx,Z2,ZE,ZF,ZH,ZP,ZQ,ZU,ZV,ZW,ZX,Yc,Yj,Yr,Ys,Yt,YY,YZ,Xa,Xc,Xf,Xj,Xm,Xp,Xs,Xt,Xu,Xv,Xw,Xz,XK,XL,XO,XQ,XX,Wa,Wb,Wc,We,Wy,Wz,W0,W3,W4,W5,W6,W7,W9,WH,WK,WL,WM,WN,WO,WP,WR,WS,Vf,Vg,Vh,Vp,Vq,Vr,Vs,Vt,Vu,Vv,Vx,Vy,Vz,V0,V2,V3,V4,V6,V7,V9,VA,VB,VC,VD,VG,VH,VI,VJ,VN,VQ,VR,VS,VW,VX,VZ,Ua,Uc,Ud,Ue,Uj,Um,Un,Us,Ux,Uy,U1,U2,U3,U4,U5,U6,U7,U8,U9,UA,UB,Th,Ti,Tl,Tw,Tx,Ty,Tz,T0,T2,T3,T4,T7,T9,TA,TM,S8,SA,SC,SQ,SS,SU,SW,SX,SY,gp,p1,e5,e6,cp,c3,q7];all_goals tactic=>exact rfl))
         ·(sym=>(simp[aE,aF,aK,aS,aG,aH,Za,Zb,Zf,Zg,Zh,Zj,Zl,Zm,Zp,Zq,Zr,Zu,Zx,Z2,ZE,ZF,ZH,ZP,ZQ,ZU,ZV,ZW,ZX,Yc,Yj,Yr,Ys,Yt,YY,YZ,Xa,Xc,Xf,Xj,Xm,Xp,Xs,Xt,Xu,Xv,Xw,Xz,XK,XL,XO,XQ,XX,Wa,Wb,Wc,We,Wy,Wz,W0,W3,W4,W5,W6,W7,W9,WH,WK,WL,WM,WN,WO,WP,WR,WS,Vf,Vg,Vh,Vp,Vq,Vr,Vs,Vt,Vu,Vv,Vx,Vy,Vz,V0,V2,V3,V4,V6,V7,V9,VA,VB,VC,VD,VG,VH,VI,VJ,VN,VQ,VR,VS,VW,VX,VZ,Ua,Uc,Ud,Ue,Uj,Um,Un,Us,Ux,Uy,U1,U2,U3,U4,U5,U6,U7,U8,U9,UA,UB,Th,Ti,Tl,Tw,Tx,Ty,Tz,T0,T2,T3,T4,T7,T9,TA,TM,S8,SA,SC,SQ,SS,SU,SW,SX,SY,gp,p1,p2,e5,e6,cp,c3,q7];all_goals tactic=>exact rfl))
        ·rw[P0]
         (sym=>(simp[aE,aF,aK,aS,aG,aH,Za,YA,YY,Xc,Xe,Xs,Xw,Xy,Wy,WA,WE,WF,WH,WI,WJ,WL,WN,WO,WP,WQ,WV,WW,Vc,VN,VO,VP,VW,VX,VZ,Ua,Uc,Uh,Uw,U2,U3,U4,U5,T8,TN];all_goals tactic=>exact rfl))
        ·exact rdb
        ·rw[hPP]
         rcases fp with p1|⟨p1,p2⟩
         ·(sym=>(simp[aE,aF,aK,aS,aG,aH,Za,Zb,Zf,Zh,Zl,Zm,Zp,Zs,Zu,Zx,Z2,ZF,ZX,Yc,Yt,VN,VQ,VS,VT,Uy,Tw,Tx,T0,T2,T3,T9,TA,gp,p1];all_goals tactic=>exact rfl))
         ·(sym=>(simp[aE,aF,aK,aS,aG,aH,Za,Zb,Zf,Zh,Zl,Zm,Zp,Zq,Zu,Zx,Z2,ZF,ZW,Yc,Yt,VN,VQ,VS,VT,Ux,Uy,Tw,Tx,T0,T2,T3,T9,TA,gp,p1,p2];all_goals tactic=>exact rfl))
      ·sym =>
       simp[aE,aF,aK,aS,aG,aH,Za,Zb,Zf,Zh,Zl,Zm,Zp,Zq,Zu,Zx,Z2,ZF,ZW,Yc,Yt,VN,VQ,VS,Ux,Uy,Tw,Tx,T0,T1,T2,T3,T7,T9,TA,gb,f1,f2,gp]
       tactic =>
        unfold lQ
        rw[aI np (fun j=>[.fs pr,B8 g,B8 s,.fs rows,.pt 0 0,I (j:Nat)]) (fun j=>rV a b c [] (pN ps j))]
        ·rw[hPP]
         rcases fp with p1|⟨p1,p2⟩
         ·(sym=>(simp[aE,aF,aK,aS,aG,aH,Za,Zb,Zf,Zg,Zh,Zj,Zl,Zm,Zp,Zq,Zr,Zs,Zu,Zx,Z2,ZE,ZF,ZH,ZP,ZQ,ZU,ZV,ZW,ZX,Yc,Yj,Yr,Ys,Yt,YY,YZ,Xa,Xc,Xf,Xj,Xm,Xp,Xs,Xt,Xu,Xv,Xw,Xz,XK,XL,XO,XQ,XX,Wa,Wb,Wc,We,Wy,Wz,W0,W3,W4,W5,W6,W7,W9,WH,WK,WL,WM,WN,WO,WP,WR,WS,Vf,Vg,Vh,Vp,Vq,Vr,Vs,Vt,Vu,Vv,Vx,Vy,Vz,V0,V2,V3,V4,V6,V7,V9,VA,VB,VC,VD,VG,VH,VI,VJ,VN,VQ,VR,VS,VW,VX,VZ,Ua,Uc,Ud,Ue,Uj,Um,Un,Us,Ux,Uy,U1,U2,U3,U4,U5,U6,U7,U8,U9,UA,UB,Th,Ti,Tl,Tw,Tx,Ty,Tz,T0,T2,T3,T4,T7,T9,TA,TM,S8,SA,SC,SQ,SS,SU,SW,SX,SY,gp,p1,e5,e6,cp,c3,q7];all_goals tactic=>exact rfl))
         ·(sym=>(simp[aE,aF,aK,aS,aG,aH,Za,Zb,Zf,Zg,Zh,Zj,Zl,Zm,Zp,Zq,Zr,Zu,Zx,Z2,ZE,ZF,ZH,ZP,ZQ,ZU,ZV,ZW,ZX,Yc,Yj,Yr,Ys,Yt,YY,YZ,Xa,Xc,Xf,Xj,Xm,Xp,Xs,Xt,Xu,Xv,Xw,Xz,XK,XL,XO,XQ,XX,Wa,Wb,Wc,We,Wy,Wz,W0,W3,W4,W5,W6,W7,W9,WH,WK,WL,WM,WN,WO,WP,WR,WS,Vf,Vg,Vh,Vp,Vq,Vr,Vs,Vt,Vu,Vv,Vx,Vy,Vz,V0,V2,V3,V4,V6,V7,V9,VA,VB,VC,VD,VG,VH,VI,VJ,VN,VQ,VR,VS,VW,VX,VZ,Ua,Uc,Ud,Ue,Uj,Um,Un,Us,Ux,Uy,U1,U2,U3,U4,U5,U6,U7,U8,U9,UA,UB,Th,Ti,Tl,Tw,Tx,Ty,Tz,T0,T2,T3,T4,T7,T9,TA,TM,S8,SA,SC,SQ,SS,SU,SW,SX,SY,gp,p1,p2,e5,e6,cp,c3,q7];all_goals tactic=>exact rfl))
        ·rw[P0]
         (sym=>(simp[aE,aF,aK,aS,aG,aH,Za,YA,YY,Xc,Xe,Xs,Xw,Xy,Wy,WA,WE,WF,WH,WI,WJ,WL,WN,WO,WP,WQ,WV,WW,Vc,VN,VO,VP,VW,VX,VZ,Ua,Uc,Uh,Uw,U2,U3,U4,U5,T8,TN];all_goals tactic=>exact rfl))
        ·exact rdb
        ·rw[hPP]
         rcases fp with p1|⟨p1,p2⟩
         ·(sym=>(simp[aE,aF,aK,aS,aG,aH,Za,Zb,Zf,Zh,Zl,Zm,Zp,Zs,Zu,Zx,Z2,ZF,ZX,Yc,Yt,VN,VQ,VS,VT,Uy,Tw,Tx,T0,T2,T3,T9,TA,gp,p1];all_goals tactic=>exact rfl))
         ·(sym=>(simp[aE,aF,aK,aS,aG,aH,Za,Zb,Zf,Zh,Zl,Zm,Zp,Zq,Zu,Zx,Z2,ZF,ZW,Yc,Yt,VN,VQ,VS,VT,Ux,Uy,Tw,Tx,T0,T2,T3,T9,TA,gp,p1,p2];all_goals tactic=>exact rfl))
     ·rw[B0]
      (sym=>(simp[aE,aF,aK,aS,aG,aH,YA,YY,Xc,Xe,Xs,Xw,Xy,Wy,WA,WE,WF,WH,WI,WJ,WL,WN,WO,WP,WQ,WV,WW,Vc,VN,VO,VP,VW,VX,VZ,Ua,Uc,Uh,Uw,U2,U3,U4,U5,T8,TN];all_goals tactic=>exact rfl))
     ·exact rda
     ·rw[hBB]
      rcases fb with f1|⟨f1,f2⟩
      ·(sym=>(simp[aE,aF,aK,aS,aG,aH,Za,Zb,Zf,Zh,Zl,Zm,Zp,Zs,Zu,Zx,Z2,ZF,ZX,Yc,Yt,VN,VQ,VS,VT,Uy,Tw,Tx,T0,T2,T3,T9,TA,gb,f1];all_goals tactic=>exact rfl))
      ·(sym=>(simp[aE,aF,aK,aS,aG,aH,Za,Zb,Zf,Zh,Zl,Zm,Zp,Zq,Zu,Zx,Z2,ZF,ZW,Yc,Yt,VN,VQ,VS,VT,Ux,Uy,Tw,Tx,T0,T2,T3,T9,TA,gb,f1,f2];all_goals tactic=>exact rfl))
 ·rcases PP with _|⟨px,pq⟩
  ·have zz:True:=trivial
   have cb:bG (lT (bx::bq)) 0 2 (bq.length+1)=RB:=cb
   have b3:((bq.length+1)*2≤(lT (bx::bq)).length)=True:=eq_true (by rw[lb];simp)
   obtain⟨rb0,rbr,rfl⟩:∃ x r,RB=x::r:=⟨_,_,hRB.symm⟩
   have hRP:[]=RP:=hRP
   subst hRP
   have e5:runW aA 5 [.agg [I 6,.fs (rb0::rbr),.nilsl,I a,I b,I c]] []=some (.tup [.fs [],I 16],[]):=e5
   have e6:runW aA 6 [.agg [I 6,.fs (rb0::rbr),.nilsl,I a,I b,I c]] []=some (.tup [.fs [],I 16],[]):=e6
   unfold dQ x3
   dsimp only
   sym =>
    simp[aE,aF,aK,aS,aG,aH,YA,Tx,T1,gb]
    tactic =>
     unfold uE
     rw[aI nb (fun j=>[.fs br,.fs pr,B8 g,B8 s,.fs rows,.pt 0 0,I (j:Nat)]) (fun j=>rV a b c (bN bs j) [])]
     ·rw[hBB]
      rcases fb with f1|⟨f1,f2⟩
      ·sym =>
       simp[aE,aF,aK,aS,aG,aH,Za,Zb,Zf,Zh,Zl,Zm,Zp,Zs,Zu,Zx,Z2,ZF,ZX,Yc,Yt,VN,VQ,VS,Uy,Tw,Tx,T0,T1,T2,T3,T7,T9,TA,gb,f1,gp]
       tactic =>
        unfold lQ
        rw[aI np (fun j=>[.fs pr,B8 g,B8 s,.fs rows,.pt 0 0,I (j:Nat)]) (fun j=>rV a b c (bx::bq) (pN ps j))]
        ·rw[hPP]
         rcases fp with p1|⟨p1,p2⟩
         ·(sym=>(simp[aE,aF,aK,aS,aG,aH,Za,Zb,Zf,Zg,Zh,Zj,Zl,Zm,Zp,Zq,Zr,Zs,Zu,Zx,Z2,ZE,ZF,ZH,ZP,ZQ,ZU,ZV,ZW,ZX,Yc,Yj,Yr,Ys,Yt,YY,YZ,Xa,Xc,Xf,Xj,Xm,Xp,Xs,Xt,Xu,Xv,Xw,Xz,XK,XL,XO,XQ,XX,Wa,Wb,Wc,We,Wy,Wz,W0,W3,W4,W5,W6,W7,W9,WH,WK,WL,WM,WN,WO,WP,WR,WS,Vf,Vg,Vh,Vp,Vq,Vr,Vs,Vt,Vu,Vv,Vx,Vy,Vz,V0,V2,V3,V4,V6,V7,V9,VA,VB,VC,VD,VG,VH,VI,VJ,VN,VQ,VR,VS,VW,VX,VZ,Ua,Uc,Ud,Ue,Uj,Um,Un,Us,Ux,Uy,U1,U2,U3,U4,U5,U6,U7,U8,U9,UA,UB,Th,Ti,Tl,Tw,Tx,Ty,Tz,T0,T2,T3,T4,T7,T9,TA,TM,S8,SA,SC,SQ,SS,SU,SW,SX,SY,gp,p1,e5,e6,cb,b3,q7];all_goals tactic=>exact rfl))
         ·(sym=>(simp[aE,aF,aK,aS,aG,aH,Za,Zb,Zf,Zg,Zh,Zj,Zl,Zm,Zp,Zq,Zr,Zu,Zx,Z2,ZE,ZF,ZH,ZP,ZQ,ZU,ZV,ZW,ZX,Yc,Yj,Yr,Ys,Yt,YY,YZ,Xa,Xc,Xf,Xj,Xm,Xp,Xs,Xt,Xu,Xv,Xw,Xz,XK,XL,XO,XQ,XX,Wa,Wb,Wc,We,Wy,Wz,W0,W3,W4,W5,W6,W7,W9,WH,WK,WL,WM,WN,WO,WP,WR,WS,Vf,Vg,Vh,Vp,Vq,Vr,Vs,Vt,Vu,Vv,Vx,Vy,Vz,V0,V2,V3,V4,V6,V7,V9,VA,VB,VC,VD,VG,VH,VI,VJ,VN,VQ,VR,VS,VW,VX,VZ,Ua,Uc,Ud,Ue,Uj,Um,Un,Us,Ux,Uy,U1,U2,U3,U4,U5,U6,U7,U8,U9,UA,UB,Th,Ti,Tl,Tw,Tx,Ty,Tz,T0,T2,T3,T4,T7,T9,TA,TM,S8,SA,SC,SQ,SS,SU,SW,SX,SY,gp,p1,p2,e5,e6,cb,b3,q7];all_goals tactic=>exact rfl))
        ·rw[P0]
         (sym=>(simp[aE,aF,aK,aS,aG,aH,Za,YA,YY,Xc,Xd,Xe,Xf,Xs,Xw,Xx,Xy,Xz,Wy,WA,WB,WE,WF,WH,WI,WJ,WL,WN,WO,WP,WQ,WV,WW,WX,Vc,Vd,VN,VO,VP,VW,VX,VY,VZ,Ua,Uc,Uh,Uw,U2,U3,U4,U5,T8,TN];all_goals tactic=>exact rfl))
        ·exact rdb
        ·rw[hPP]
         rcases fp with p1|⟨p1,p2⟩
         ·(sym=>(simp[aE,aF,aK,aS,aG,aH,Za,Zb,Zf,Zh,Zl,Zm,Zp,Zs,Zu,Zx,Z2,ZF,ZX,Yc,Yt,VN,VQ,VS,VT,Uy,Tw,Tx,T0,T2,T3,T9,TA,gp,p1];all_goals tactic=>exact rfl))
         ·(sym=>(simp[aE,aF,aK,aS,aG,aH,Za,Zb,Zf,Zh,Zl,Zm,Zp,Zq,Zu,Zx,Z2,ZF,ZW,Yc,Yt,VN,VQ,VS,VT,Ux,Uy,Tw,Tx,T0,T2,T3,T9,TA,gp,p1,p2];all_goals tactic=>exact rfl))
      ·sym =>
       simp[aE,aF,aK,aS,aG,aH,Za,Zb,Zf,Zh,Zl,Zm,Zp,Zq,Zu,Zx,Z2,ZF,ZW,Yc,Yt,VN,VQ,VS,Ux,Uy,Tw,Tx,T0,T1,T2,T3,T7,T9,TA,gb,f1,f2,gp]
       tactic =>
        unfold lQ
        rw[aI np (fun j=>[.fs pr,B8 g,B8 s,.fs rows,.pt 0 0,I (j:Nat)]) (fun j=>rV a b c (bx::bq) (pN ps j))]
        ·rw[hPP]
         rcases fp with p1|⟨p1,p2⟩
         ·(sym=>(simp[aE,aF,aK,aS,aG,aH,Za,Zb,Zf,Zg,Zh,Zj,Zl,Zm,Zp,Zq,Zr,Zs,Zu,Zx,Z2,ZE,ZF,ZH,ZP,ZQ,ZU,ZV,ZW,ZX,Yc,Yj,Yr,Ys,Yt,YY,YZ,Xa,Xc,Xf,Xj,Xm,Xp,Xs,Xt,Xu,Xv,Xw,Xz,XK,XL,XO,XQ,XX,Wa,Wb,Wc,We,Wy,Wz,W0,W3,W4,W5,W6,W7,W9,WH,WK,WL,WM,WN,WO,WP,WR,WS,Vf,Vg,Vh,Vp,Vq,Vr,Vs,Vt,Vu,Vv,Vx,Vy,Vz,V0,V2,V3,V4,V6,V7,V9,VA,VB,VC,VD,VG,VH,VI,VJ,VN,VQ,VR,VS,VW,VX,VZ,Ua,Uc,Ud,Ue,Uj,Um,Un,Us,Ux,Uy,U1,U2,U3,U4,U5,U6,U7,U8,U9,UA,UB,Th,Ti,Tl,Tw,Tx,Ty,Tz,T0,T2,T3,T4,T7,T9,TA,TM,S8,SA,SC,SQ,SS,SU,SW,SX,SY,gp,p1,e5,e6,cb,b3,q7];all_goals tactic=>exact rfl))
         ·(sym=>(simp[aE,aF,aK,aS,aG,aH,Za,Zb,Zf,Zg,Zh,Zj,Zl,Zm,Zp,Zq,Zr,Zu,Zx,Z2,ZE,ZF,ZH,ZP,ZQ,ZU,ZV,ZW,ZX,Yc,Yj,Yr,Ys,Yt,YY,YZ,Xa,Xc,Xf,Xj,Xm,Xp,Xs,Xt,Xu,Xv,Xw,Xz,XK,XL,XO,XQ,XX,Wa,Wb,Wc,We,Wy,Wz,W0,W3,W4,W5,W6,W7,W9,WH,WK,WL,WM,WN,WO,WP,WR,WS,Vf,Vg,Vh,Vp,Vq,Vr,Vs,Vt,Vu,Vv,Vx,Vy,Vz,V0,V2,V3,V4,V6,V7,V9,VA,VB,VC,VD,VG,VH,VI,VJ,VN,VQ,VR,VS,VW,VX,VZ,Ua,Uc,Ud,Ue,Uj,Um,Un,Us,Ux,Uy,U1,U2,U3,U4,U5,U6,U7,U8,U9,UA,UB,Th,Ti,Tl,Tw,Tx,Ty,Tz,T0,T2,T3,T4,T7,T9,TA,TM,S8,SA,SC,SQ,SS,SU,SW,SX,SY,gp,p1,p2,e5,e6,cb,b3,q7];all_goals tactic=>exact rfl))
        ·rw[P0]
         (sym=>(simp[aE,aF,aK,aS,aG,aH,Za,YA,YY,Xc,Xd,Xe,Xf,Xs,Xw,Xx,Xy,Xz,Wy,WA,WB,WE,WF,WH,WI,WJ,WL,WN,WO,WP,WQ,WV,WW,WX,Vc,Vd,VN,VO,VP,VW,VX,VY,VZ,Ua,Uc,Uh,Uw,U2,U3,U4,U5,T8,TN];all_goals tactic=>exact rfl))
        ·exact rdb
        ·rw[hPP]
         rcases fp with p1|⟨p1,p2⟩
         ·(sym=>(simp[aE,aF,aK,aS,aG,aH,Za,Zb,Zf,Zh,Zl,Zm,Zp,Zs,Zu,Zx,Z2,ZF,ZX,Yc,Yt,VN,VQ,VS,VT,Uy,Tw,Tx,T0,T2,T3,T9,TA,gp,p1];all_goals tactic=>exact rfl))
         ·(sym=>(simp[aE,aF,aK,aS,aG,aH,Za,Zb,Zf,Zh,Zl,Zm,Zp,Zq,Zu,Zx,Z2,ZF,ZW,Yc,Yt,VN,VQ,VS,VT,Ux,Uy,Tw,Tx,T0,T2,T3,T9,TA,gp,p1,p2];all_goals tactic=>exact rfl))
     ·rw[B0]
      (sym=>(simp[aE,aF,aK,aS,aG,aH,YA,YY,Xc,Xe,Xs,Xw,Xy,Wy,WA,WE,WF,WH,WI,WJ,WL,WN,WO,WP,WQ,WV,WW,Vc,VN,VO,VP,VW,VX,VZ,Ua,Uc,Uh,Uw,U2,U3,U4,U5,T8,TN];all_goals tactic=>exact rfl))
     ·exact rda
     ·rw[hBB]
      rcases fb with f1|⟨f1,f2⟩
      ·(sym=>(simp[aE,aF,aK,aS,aG,aH,Za,Zb,Zf,Zh,Zl,Zm,Zp,Zs,Zu,Zx,Z2,ZF,ZX,Yc,Yt,VN,VQ,VS,VT,Uy,Tw,Tx,T0,T2,T3,T9,TA,gb,f1];all_goals tactic=>exact rfl))
      ·(sym=>(simp[aE,aF,aK,aS,aG,aH,Za,Zb,Zf,Zh,Zl,Zm,Zp,Zq,Zu,Zx,Z2,ZF,ZW,Yc,Yt,VN,VQ,VS,VT,Ux,Uy,Tw,Tx,T0,T2,T3,T9,TA,gb,f1,f2];all_goals tactic=>exact rfl))
  ·have zz:True:=trivial
   have cb:bG (lT (bx::bq)) 0 2 (bq.length+1)=RB:=cb
   have b3:((bq.length+1)*2≤(lT (bx::bq)).length)=True:=eq_true (by rw[lb];simp)
   obtain⟨rb0,rbr,rfl⟩:∃ x r,RB=x::r:=⟨_,_,hRB.symm⟩
   have cp:bG (yC (px::pq)) 0 3 (pq.length+1)=RP:=cp
   have c3:((pq.length+1)*3≤(yC (px::pq)).length)=True:=eq_true (by rw[lp];simp)
   obtain⟨rp0,rpr,rfl⟩:∃ x r,RP=x::r:=⟨_,_,hRP.symm⟩
   have e5:runW aA 5 [.agg [I 6,.fs (rb0::rbr),.fs (rp0::rpr),I a,I b,I c]] []=some (.tup [.fs [],I 16],[]):=e5
   have e6:runW aA 6 [.agg [I 6,.fs (rb0::rbr),.fs (rp0::rpr),I a,I b,I c]] []=some (.tup [.fs [],I 16],[]):=e6
   unfold dQ x3
   dsimp only
   sym =>
    simp[aE,aF,aK,aS,aG,aH,YA,Tx,T1,gb]
    tactic =>
     unfold uE
     rw[aI nb (fun j=>[.fs br,.fs pr,B8 g,B8 s,.fs rows,.pt 0 0,I (j:Nat)]) (fun j=>rV a b c (bN bs j) [])]
     ·rw[hBB]
      rcases fb with f1|⟨f1,f2⟩
      ·sym =>
       simp[aE,aF,aK,aS,aG,aH,Za,Zb,Zf,Zh,Zl,Zm,Zp,Zs,Zu,Zx,Z2,ZF,ZX,Yc,Yt,VN,VQ,VS,Uy,Tw,Tx,T0,T1,T2,T3,T7,T9,TA,gb,f1,gp]
       tactic =>
        unfold lQ
        rw[aI np (fun j=>[.fs pr,B8 g,B8 s,.fs rows,.pt 0 0,I (j:Nat)]) (fun j=>rV a b c (bx::bq) (pN ps j))]
        ·rw[hPP]
         rcases fp with p1|⟨p1,p2⟩
         ·(sym=>(simp[aE,aF,aK,aS,aG,aH,Za,Zb,Zf,Zg,Zh,Zj,Zl,Zm,Zp,Zq,Zr,Zs,Zu,Zx,Z2,ZE,ZF,ZH,ZP,ZQ,ZU,ZV,ZW,ZX,Yc,Yj,Yr,Ys,Yt,YY,YZ,Xa,Xc,Xj,Xm,Xn,Xs,Xt,Xu,Xv,Xw,XK,XL,XO,XX,XZ,Wa,Wb,We,Wy,Wz,W0,W3,W4,W5,W6,W7,W9,WH,WK,WL,WM,WN,WO,WP,WR,WS,Vf,Vg,Vh,Vp,Vq,Vr,Vs,Vt,Vu,Vv,Vx,Vy,Vz,V0,V1,V2,V3,V4,V6,V7,V9,VA,VB,VC,VD,VG,VH,VI,VJ,VN,VQ,VR,VS,VW,VX,VY,VZ,Ua,Uc,Ud,Ue,Uj,Ul,Um,Un,Us,Ut,Ux,Uy,U1,U2,U3,U4,U5,U6,U7,U8,U9,UA,UB,Th,Ti,Tl,Tw,Tx,Ty,Tz,T0,T2,T3,T4,T7,T9,TA,TM,S8,SA,SC,SQ,SS,SU,SW,SX,SY,gp,p1,e5,e6,cb,b3,cp,c3,q7];all_goals tactic=>exact rfl))
         ·(sym=>(simp[aE,aF,aK,aS,aG,aH,Za,Zb,Zf,Zg,Zh,Zj,Zl,Zm,Zp,Zq,Zr,Zu,Zx,Z2,ZE,ZF,ZH,ZP,ZQ,ZU,ZV,ZW,ZX,Yc,Yj,Yr,Ys,Yt,YY,YZ,Xa,Xc,Xj,Xm,Xn,Xs,Xt,Xu,Xv,Xw,XK,XL,XO,XX,XZ,Wa,Wb,We,Wy,Wz,W0,W3,W4,W5,W6,W7,W9,WH,WK,WL,WM,WN,WO,WP,WR,WS,Vf,Vg,Vh,Vp,Vq,Vr,Vs,Vt,Vu,Vv,Vx,Vy,Vz,V0,V1,V2,V3,V4,V6,V7,V9,VA,VB,VC,VD,VG,VH,VI,VJ,VN,VQ,VR,VS,VW,VX,VY,VZ,Ua,Uc,Ud,Ue,Uj,Ul,Um,Un,Us,Ut,Ux,Uy,U1,U2,U3,U4,U5,U6,U7,U8,U9,UA,UB,Th,Ti,Tl,Tw,Tx,Ty,Tz,T0,T2,T3,T4,T7,T9,TA,TM,S8,SA,SC,SQ,SS,SU,SW,SX,SY,gp,p1,p2,e5,e6,cb,b3,cp,c3,q7];all_goals tactic=>exact rfl))
        ·rw[P0]
         (sym=>(simp[aE,aF,aK,aS,aG,aH,Za,YA,YY,Xc,Xd,Xe,Xf,Xs,Xw,Xx,Xy,Xz,Wy,WA,WB,WE,WF,WH,WI,WJ,WL,WN,WO,WP,WQ,WV,WW,WX,Vc,Vd,VN,VO,VP,VW,VX,VY,VZ,Ua,Uc,Uh,Uw,U2,U3,U4,U5,T8,TN];all_goals tactic=>exact rfl))
        ·exact rdb
        ·rw[hPP]
         rcases fp with p1|⟨p1,p2⟩
         ·(sym=>(simp[aE,aF,aK,aS,aG,aH,Za,Zb,Zf,Zh,Zl,Zm,Zp,Zs,Zu,Zx,Z2,ZF,ZX,Yc,Yt,VN,VQ,VS,VT,Uy,Tw,Tx,T0,T2,T3,T9,TA,gp,p1];all_goals tactic=>exact rfl))
         ·(sym=>(simp[aE,aF,aK,aS,aG,aH,Za,Zb,Zf,Zh,Zl,Zm,Zp,Zq,Zu,Zx,Z2,ZF,ZW,Yc,Yt,VN,VQ,VS,VT,Ux,Uy,Tw,Tx,T0,T2,T3,T9,TA,gp,p1,p2];all_goals tactic=>exact rfl))
      ·sym =>
       simp[aE,aF,aK,aS,aG,aH,Za,Zb,Zf,Zh,Zl,Zm,Zp,Zq,Zu,Zx,Z2,ZF,ZW,Yc,Yt,VN,VQ,VS,Ux,Uy,Tw,Tx,T0,T1,T2,T3,T7,T9,TA,gb,f1,f2,gp]
       tactic =>
        unfold lQ
        rw[aI np (fun j=>[.fs pr,B8 g,B8 s,.fs rows,.pt 0 0,I (j:Nat)]) (fun j=>rV a b c (bx::bq) (pN ps j))]
        ·rw[hPP]
         rcases fp with p1|⟨p1,p2⟩
         ·(sym=>(simp[aE,aF,aK,aS,aG,aH,Za,Zb,Zf,Zg,Zh,Zj,Zl,Zm,Zp,Zq,Zr,Zs,Zu,Zx,Z2,ZE,ZF,ZH,ZP,ZQ,ZU,ZV,ZW,ZX,Yc,Yj,Yr,Ys,Yt,YY,YZ,Xa,Xc,Xj,Xm,Xn,Xs,Xt,Xu,Xv,Xw,XK,XL,XO,XX,XZ,Wa,Wb,We,Wy,Wz,W0,W3,W4,W5,W6,W7,W9,WH,WK,WL,WM,WN,WO,WP,WR,WS,Vf,Vg,Vh,Vp,Vq,Vr,Vs,Vt,Vu,Vv,Vx,Vy,Vz,V0,V1,V2,V3,V4,V6,V7,V9,VA,VB,VC,VD,VG,VH,VI,VJ,VN,VQ,VR,VS,VW,VX,VY,VZ,Ua,Uc,Ud,Ue,Uj,Ul,Um,Un,Us,Ut,Ux,Uy,U1,U2,U3,U4,U5,U6,U7,U8,U9,UA,UB,Th,Ti,Tl,Tw,Tx,Ty,Tz,T0,T2,T3,T4,T7,T9,TA,TM,S8,SA,SC,SQ,SS,SU,SW,SX,SY,gp,p1,e5,e6,cb,b3,cp,c3,q7];all_goals tactic=>exact rfl))
         ·(sym=>(simp[aE,aF,aK,aS,aG,aH,Za,Zb,Zf,Zg,Zh,Zj,Zl,Zm,Zp,Zq,Zr,Zu,Zx,Z2,ZE,ZF,ZH,ZP,ZQ,ZU,ZV,ZW,ZX,Yc,Yj,Yr,Ys,Yt,YY,YZ,Xa,Xc,Xj,Xm,Xn,Xs,Xt,Xu,Xv,Xw,XK,XL,XO,XX,XZ,Wa,Wb,We,Wy,Wz,W0,W3,W4,W5,W6,W7,W9,WH,WK,WL,WM,WN,WO,WP,WR,WS,Vf,Vg,Vh,Vp,Vq,Vr,Vs,Vt,Vu,Vv,Vx,Vy,Vz,V0,V1,V2,V3,V4,V6,V7,V9,VA,VB,VC,VD,VG,VH,VI,VJ,VN,VQ,VR,VS,VW,VX,VY,VZ,Ua,Uc,Ud,Ue,Uj,Ul,Um,Un,Us,Ut,Ux,Uy,U1,U2,U3,U4,U5,U6,U7,U8,U9,UA,UB,Th,Ti,Tl,Tw,Tx,Ty,Tz,T0,T2,T3,T4,T7,T9,TA,TM,S8,SA,SC,SQ,SS,SU,SW,SX,SY,gp,p1,p2,e5,e6,cb,b3,cp,c3,q7];all_goals tactic=>exact rfl))
        ·rw[P0]
         (sym=>(simp[aE,aF,aK,aS,aG,aH,Za,YA,YY,Xc,Xd,Xe,Xf,Xs,Xw,Xx,Xy,Xz,Wy,WA,WB,WE,WF,WH,WI,WJ,WL,WN,WO,WP,WQ,WV,WW,WX,Vc,Vd,VN,VO,VP,VW,VX,VY,VZ,Ua,Uc,Uh,Uw,U2,U3,U4,U5,T8,TN];all_goals tactic=>exact rfl))
        ·exact rdb
        ·rw[hPP]
         rcases fp with p1|⟨p1,p2⟩
         ·(sym=>(simp[aE,aF,aK,aS,aG,aH,Za,Zb,Zf,Zh,Zl,Zm,Zp,Zs,Zu,Zx,Z2,ZF,ZX,Yc,Yt,VN,VQ,VS,VT,Uy,Tw,Tx,T0,T2,T3,T9,TA,gp,p1];all_goals tactic=>exact rfl))
         ·(sym=>(simp[aE,aF,aK,aS,aG,aH,Za,Zb,Zf,Zh,Zl,Zm,Zp,Zq,Zu,Zx,Z2,ZF,ZW,Yc,Yt,VN,VQ,VS,VT,Ux,Uy,Tw,Tx,T0,T2,T3,T9,TA,gp,p1,p2];all_goals tactic=>exact rfl))
     ·rw[B0]
      (sym=>(simp[aE,aF,aK,aS,aG,aH,YA,YY,Xc,Xe,Xs,Xw,Xy,Wy,WA,WE,WF,WH,WI,WJ,WL,WN,WO,WP,WQ,WV,WW,Vc,VN,VO,VP,VW,VX,VZ,Ua,Uc,Uh,Uw,U2,U3,U4,U5,T8,TN];all_goals tactic=>exact rfl))
     ·exact rda
     ·rw[hBB]
      rcases fb with f1|⟨f1,f2⟩
      ·(sym=>(simp[aE,aF,aK,aS,aG,aH,Za,Zb,Zf,Zh,Zl,Zm,Zp,Zs,Zu,Zx,Z2,ZF,ZX,Yc,Yt,VN,VQ,VS,VT,Uy,Tw,Tx,T0,T2,T3,T9,TA,gb,f1];all_goals tactic=>exact rfl))
      ·(sym=>(simp[aE,aF,aK,aS,aG,aH,Za,Zb,Zf,Zh,Zl,Zm,Zp,Zq,Zu,Zx,Z2,ZF,ZW,Yc,Yt,VN,VQ,VS,VT,Ux,Uy,Tw,Tx,T0,T2,T3,T9,TA,gb,f1,f2];all_goals tactic=>exact rfl))
theorem aPh {bs ps:List (Nat×Nat)} {a b c g s:Nat} {rows:List (List AV)} (hb:∀ y∈bs,y.1<256∧y.2<256) (hp:∀ y∈ps,y.1<256∧y.2<256) {k:Nat} {ws:List (List Int)}
 (e5:runW aA 5 [.agg (cV (bN bs (min bs.length 10)) (pN ps (min ps.length 6)) a b c)] []=some (.tup [nL (cU (el k)),I 0],[])) (e6:runW aA 6 [.agg (cV (bN bs (min bs.length 10)) (pN ps (min ps.length 6)) a b c)] []=some (.tup [wL ws,I 0],[])) :
 aW 0 [4,5,13,14,21,23,25,163,164,165] (execW aA 3 0 none vI (aY [0,1,4,5,13,14,15] (s3a (bs.map mU) (ps.map mU) g s rows 0)) (z3 a b c))=some (s3c g s rows k ws 0,gO3 (nO ((bN bs (min bs.length 10)).map sR)) (nO ((pN ps (min ps.length 6)).map tR)) a b c):=by
 have n1:min bs.length 10≤10:=Nat.min_le_right _ _
 have n2:min ps.length 6≤6:=Nat.min_le_right _ _
 have gb:(bs.map mU).length=bs.length:=List.length_map ..
 have gp:(ps.map mU).length=ps.length:=List.length_map ..
 have rda:=fun j (hj:j<min bs.length 10)=>aLT (a:=a) (b:=b) (c:=c) (g:=g) (s:=s) (rows:=rows) (pr:=ps.map mU) hb (j:=j) (by omega) (by omega)
 have rdb:=fun j (hj:j<min ps.length 6)=>aLS (a:=a) (b:=b) (c:=c) (g:=g) (s:=s) (rows:=rows) (bN bs (min bs.length 10)) hp (j:=j) (by omega) (by omega)
 have B0:bN bs 0=[]:=by simp[bN]
 have P0:pN ps 0=[]:=rfl
 have fb:(((min bs.length 10:Nat):Int)<(bs.length:Int))=False∨((((min bs.length 10:Nat):Int)<(bs.length:Int))=True∧(((min bs.length 10:Nat):Int)<10)=False):=by
  by_cases q:bs.length≤10
  ·exact .inl (eq_false (by omega))
  ·exact .inr ⟨eq_true (by omega),eq_false (by omega)⟩
 have fp:(((min ps.length 6:Nat):Int)<(ps.length:Int))=False∨((((min ps.length 6:Nat):Int)<(ps.length:Int))=True∧(((min ps.length 6:Nat):Int)<6)=False):=by
  by_cases q:ps.length≤6
  ·exact .inl (eq_false (by omega))
  ·exact .inr ⟨eq_true (by omega),eq_false (by omega)⟩
 have cb:=aCi (bN bs (min bs.length 10))
 have cp:=aFo (pN ps (min ps.length 6))
 have lb:=kB (bN bs (min bs.length 10))
 have lp:=aAb (pN ps (min ps.length 6))
 have gk:=bW (el k)
 have sw:cZ (el k) 0=0:=rfl
 unfold s3c
 rw[sw]
 obtain⟨W,hW⟩:∃ W,wL ws = .fs W:=⟨_,rfl⟩
 rw[hW]at e6 ⊢
 generalize cU (el k)=ok at *
 generalize (el k).length=lk at *
 unfold s3a at rda ⊢
 unfold s3b at rdb
 unfold cV at e5 e6
 generalize hnb:min bs.length 10=nb at *
 generalize hnp:min ps.length 6=np at *
 generalize hbr:bs.map mU=br at *
 generalize hpr:ps.map mU=pr at *
 generalize hBB:bN bs nb=BB at *
 generalize hPP:pN ps np=PP at *
 generalize hRB:BB.map sR=RB at *
 generalize hRP:PP.map tR=RP at *
 generalize bs.length=bl at *
 generalize ps.length=pl at *
 rcases BB with _|⟨bx,bq⟩
 ·rcases PP with _|⟨px,pq⟩
  ·have zz:True:=trivial
   have hRB:[]=RB:=hRB
   subst hRB
   have hRP:[]=RP:=hRP
   subst hRP
   have e5:runW aA 5 [.agg [I 6,.nilsl,.nilsl,I a,I b,I c]] []=some (.tup [nL ok,I 0],[]):=e5
   have e6:runW aA 6 [.agg [I 6,.nilsl,.nilsl,I a,I b,I c]] []=some (.tup [.fs W,I 0],[]):=e6
   rw[show nO [] = .nilsl from rfl]
   unfold vI dQ x3
   dsimp only
   sym =>
    simp[aE,aF,aK,aS,aG,aH,YA,Tx,T1,gb]
    tactic =>
     unfold uE
     rw[aI nb (fun j=>[.fs br,.fs pr,B8 g,B8 s,.fs rows,.pt 0 0,I (j:Nat)]) (fun j=>rV a b c (bN bs j) [])]
     ·rw[hBB]
      rcases fb with f1|⟨f1,f2⟩
      ·sym =>
       simp[aE,aF,aK,aS,aG,aH,Za,Zb,Zf,Zh,Zl,Zm,Zp,Zs,Zu,Zx,Z2,ZF,ZX,Yc,Yt,VN,VQ,VS,Uy,Tw,Tx,T0,T1,T2,T3,T7,T9,TA,gb,f1,gp]
       tactic =>
        unfold lQ
        rw[aI np (fun j=>[.fs pr,B8 g,B8 s,.fs rows,.pt 0 0,I (j:Nat)]) (fun j=>rV a b c [] (pN ps j))]
        ·rw[hPP]
         rcases fp with p1|⟨p1,p2⟩
         ·(sym=>(simp[aE,aF,aK,aS,aG,aH,Za,Zb,Zf,Zg,Zh,Zj,Zl,Zm,Zp,Zr,Zs,Zu,Zx,Z2,ZE,ZF,ZH,ZP,ZQ,ZU,ZV,ZX,Yc,Yj,Yr,Ys,Yt,YY,Xa,Xc,Xe,Xf,Xs,Xu,Xv,Xw,Xy,Xz,Wy,Wz,W0,W4,W5,W6,W7,W9,WA,WE,WF,WH,WI,WJ,WK,WL,WM,WN,WO,WP,WQ,WR,WS,WV,WW,Vc,Vf,Vg,Vh,Vs,Vu,Vv,Vx,Vy,V0,VN,VO,VP,VQ,VS,VW,VX,VZ,Ua,Uc,Ud,Ue,Uf,Uh,Um,Uw,Ux,Uy,U1,U2,U3,U4,U5,Th,Ti,Tl,Tw,Tx,Tz,T0,T2,T3,T7,T8,T9,TA,TN,SQ,SS,SU,SW,SX,SY,gp,p1,e5,e6,gk];all_goals tactic=>exact rfl))
         ·(sym=>(simp[aE,aF,aK,aS,aG,aH,Za,Zb,Zf,Zg,Zh,Zj,Zl,Zm,Zp,Zq,Zr,Zs,Zu,Zx,Z2,ZE,ZF,ZH,ZP,ZQ,ZU,ZV,ZW,ZX,Yc,Yj,Yr,Ys,Yt,YY,Xa,Xc,Xe,Xf,Xs,Xu,Xv,Xw,Xy,Xz,Wy,Wz,W0,W4,W5,W6,W7,W9,WA,WE,WF,WH,WI,WJ,WK,WL,WM,WN,WO,WP,WQ,WR,WS,WV,WW,Vc,Vf,Vg,Vh,Vs,Vu,Vv,Vx,Vy,V0,VN,VO,VP,VQ,VS,VW,VX,VZ,Ua,Uc,Ud,Ue,Uf,Uh,Um,Uw,Ux,Uy,U1,U2,U3,U4,U5,Th,Ti,Tl,Tw,Tx,Tz,T0,T2,T3,T7,T8,T9,TA,TN,SQ,SS,SU,SW,SX,SY,gp,p1,p2,e5,e6,gk];all_goals tactic=>exact rfl))
        ·rw[P0]
         (sym=>(simp[aE,aF,aK,aS,aG,aH,Za,YA,YY,Xc,Xe,Xs,Xw,Xy,Wy,WA,WE,WF,WH,WI,WJ,WL,WN,WO,WP,WQ,WV,WW,Vc,VN,VO,VP,VW,VX,VZ,Ua,Uc,Uh,Uw,U2,U3,U4,U5,T8,TN];all_goals tactic=>exact rfl))
        ·exact rdb
        ·rw[hPP]
         rcases fp with p1|⟨p1,p2⟩
         ·(sym=>(simp[aE,aF,aK,aS,aG,aH,Za,Zb,Zf,Zh,Zl,Zm,Zp,Zs,Zu,Zx,Z2,ZF,ZX,Yc,Yt,VN,VQ,VS,VT,Uy,Tw,Tx,T0,T2,T3,T9,TA,gp,p1];all_goals tactic=>exact rfl))
         ·(sym=>(simp[aE,aF,aK,aS,aG,aH,Za,Zb,Zf,Zh,Zl,Zm,Zp,Zq,Zu,Zx,Z2,ZF,ZW,Yc,Yt,VN,VQ,VS,VT,Ux,Uy,Tw,Tx,T0,T2,T3,T9,TA,gp,p1,p2];all_goals tactic=>exact rfl))
      ·sym =>
       simp[aE,aF,aK,aS,aG,aH,Za,Zb,Zf,Zh,Zl,Zm,Zp,Zq,Zu,Zx,Z2,ZF,ZW,Yc,Yt,VN,VQ,VS,Ux,Uy,Tw,Tx,T0,T1,T2,T3,T7,T9,TA,gb,f1,f2,gp]
       tactic =>
        unfold lQ
        rw[aI np (fun j=>[.fs pr,B8 g,B8 s,.fs rows,.pt 0 0,I (j:Nat)]) (fun j=>rV a b c [] (pN ps j))]
        ·rw[hPP]
         rcases fp with p1|⟨p1,p2⟩
         ·(sym=>(simp[aE,aF,aK,aS,aG,aH,Za,Zb,Zf,Zg,Zh,Zj,Zl,Zm,Zp,Zr,Zs,Zu,Zx,Z2,ZE,ZF,ZH,ZP,ZQ,ZU,ZV,ZX,Yc,Yj,Yr,Ys,Yt,YY,Xa,Xc,Xe,Xf,Xs,Xu,Xv,Xw,Xy,Xz,Wy,Wz,W0,W4,W5,W6,W7,W9,WA,WE,WF,WH,WI,WJ,WK,WL,WM,WN,WO,WP,WQ,WR,WS,WV,WW,Vc,Vf,Vg,Vh,Vs,Vu,Vv,Vx,Vy,V0,VN,VO,VP,VQ,VS,VW,VX,VZ,Ua,Uc,Ud,Ue,Uf,Uh,Um,Uw,Ux,Uy,U1,U2,U3,U4,U5,Th,Ti,Tl,Tw,Tx,Tz,T0,T2,T3,T7,T8,T9,TA,TN,SQ,SS,SU,SW,SX,SY,gp,p1,e5,e6,gk];all_goals tactic=>exact rfl))
         ·(sym=>(simp[aE,aF,aK,aS,aG,aH,Za,Zb,Zf,Zg,Zh,Zj,Zl,Zm,Zp,Zq,Zr,Zs,Zu,Zx,Z2,ZE,ZF,ZH,ZP,ZQ,ZU,ZV,ZW,ZX,Yc,Yj,Yr,Ys,Yt,YY,Xa,Xc,Xe,Xf,Xs,Xu,Xv,Xw,Xy,Xz,Wy,Wz,W0,W4,W5,W6,W7,W9,WA,WE,WF,WH,WI,WJ,WK,WL,WM,WN,WO,WP,WQ,WR,WS,WV,WW,Vc,Vf,Vg,Vh,Vs,Vu,Vv,Vx,Vy,V0,VN,VO,VP,VQ,VS,VW,VX,VZ,Ua,Uc,Ud,Ue,Uf,Uh,Um,Uw,Ux,Uy,U1,U2,U3,U4,U5,Th,Ti,Tl,Tw,Tx,Tz,T0,T2,T3,T7,T8,T9,TA,TN,SQ,SS,SU,SW,SX,SY,gp,p1,p2,e5,e6,gk];all_goals tactic=>exact rfl))
        ·rw[P0]
         (sym=>(simp[aE,aF,aK,aS,aG,aH,Za,YA,YY,Xc,Xe,Xs,Xw,Xy,Wy,WA,WE,WF,WH,WI,WJ,WL,WN,WO,WP,WQ,WV,WW,Vc,VN,VO,VP,VW,VX,VZ,Ua,Uc,Uh,Uw,U2,U3,U4,U5,T8,TN];all_goals tactic=>exact rfl))
        ·exact rdb
        ·rw[hPP]
         rcases fp with p1|⟨p1,p2⟩
         ·(sym=>(simp[aE,aF,aK,aS,aG,aH,Za,Zb,Zf,Zh,Zl,Zm,Zp,Zs,Zu,Zx,Z2,ZF,ZX,Yc,Yt,VN,VQ,VS,VT,Uy,Tw,Tx,T0,T2,T3,T9,TA,gp,p1];all_goals tactic=>exact rfl))
         ·(sym=>(simp[aE,aF,aK,aS,aG,aH,Za,Zb,Zf,Zh,Zl,Zm,Zp,Zq,Zu,Zx,Z2,ZF,ZW,Yc,Yt,VN,VQ,VS,VT,Ux,Uy,Tw,Tx,T0,T2,T3,T9,TA,gp,p1,p2];all_goals tactic=>exact rfl))
     ·rw[B0]
      (sym=>(simp[aE,aF,aK,aS,aG,aH,YA,YY,Xc,Xe,Xs,Xw,Xy,Wy,WA,WE,WF,WH,WI,WJ,WL,WN,WO,WP,WQ,WV,WW,Vc,VN,VO,VP,VW,VX,VZ,Ua,Uc,Uh,Uw,U2,U3,U4,U5,T8,TN];all_goals tactic=>exact rfl))
     ·exact rda
     ·rw[hBB]
      rcases fb with f1|⟨f1,f2⟩
      ·(sym=>(simp[aE,aF,aK,aS,aG,aH,Za,Zb,Zf,Zh,Zl,Zm,Zp,Zs,Zu,Zx,Z2,ZF,ZX,Yc,Yt,VN,VQ,VS,VT,Uy,Tw,Tx,T0,T2,T3,T9,TA,gb,f1];all_goals tactic=>exact rfl))
      ·(sym=>(simp[aE,aF,aK,aS,aG,aH,Za,Zb,Zf,Zh,Zl,Zm,Zp,Zq,Zu,Zx,Z2,ZF,ZW,Yc,Yt,VN,VQ,VS,VT,Ux,Uy,Tw,Tx,T0,T2,T3,T9,TA,gb,f1,f2];all_goals tactic=>exact rfl))
  ·have zz:True:=trivial
   have hRB:[]=RB:=hRB
   subst hRB
   have cp:bG (yC (px::pq)) 0 3 (pq.length+1)=RP:=cp
   have c3:((pq.length+1)*3≤(yC (px::pq)).length)=True:=eq_true (by rw[lp];simp)
   obtain⟨rp0,rpr,rfl⟩:∃ x r,RP=x::r:=⟨_,_,hRP.symm⟩
   have e5:runW aA 5 [.agg [I 6,.nilsl,.fs (rp0::rpr),I a,I b,I c]] []=some (.tup [nL ok,I 0],[]):=e5
   have e6:runW aA 6 [.agg [I 6,.nilsl,.fs (rp0::rpr),I a,I b,I c]] []=some (.tup [.fs W,I 0],[]):=e6
   rw[show nO [] = .nilsl from rfl,show nO (rp0::rpr) = .fs (rp0::rpr) from rfl]
   unfold vI dQ x3
   dsimp only
   sym =>
    simp[aE,aF,aK,aS,aG,aH,YA,Tx,T1,gb]
    tactic =>
     unfold uE
     rw[aI nb (fun j=>[.fs br,.fs pr,B8 g,B8 s,.fs rows,.pt 0 0,I (j:Nat)]) (fun j=>rV a b c (bN bs j) [])]
     ·rw[hBB]
      rcases fb with f1|⟨f1,f2⟩
      ·sym =>
       simp[aE,aF,aK,aS,aG,aH,Za,Zb,Zf,Zh,Zl,Zm,Zp,Zs,Zu,Zx,Z2,ZF,ZX,Yc,Yt,VN,VQ,VS,Uy,Tw,Tx,T0,T1,T2,T3,T7,T9,TA,gb,f1,gp]
       tactic =>
        unfold lQ
        rw[aI np (fun j=>[.fs pr,B8 g,B8 s,.fs rows,.pt 0 0,I (j:Nat)]) (fun j=>rV a b c [] (pN ps j))]
        ·rw[hPP]
         rcases fp with p1|⟨p1,p2⟩
         ·(sym=>(simp[aE,aF,aK,aS,aG,aH,Za,Zb,Zf,Zg,Zh,Zj,Zl,Zm,Zp,Zr,Zs,Zu,Zx,Z2,ZE,ZF,ZH,ZP,ZQ,ZU,ZV,ZX,Yc,Yj,Yr,Ys,Yt,YY,Xa,Xc,Xe,Xf,Xj,Xm,Xp,Xs,Xu,Xv,Xw,Xy,Xz,XK,XO,XQ,XX,XZ,Wa,Wb,Wc,Wy,Wz,W0,W3,W4,W5,W6,W7,W9,WA,WE,WF,WH,WI,WJ,WK,WL,WM,WN,WO,WP,WQ,WR,WS,WV,WW,Vc,Vf,Vg,Vh,Vp,Vq,Vr,Vs,Vt,Vu,Vv,Vx,Vy,Vz,V0,V2,V3,V4,VN,VO,VP,VQ,VS,VW,VX,VZ,Ua,Uc,Ud,Ue,Uf,Uh,Uj,Um,Us,Uw,Ux,Uy,U1,U2,U3,U4,U5,U6,U7,U8,U9,UA,UB,Th,Ti,Tl,Tw,Tx,Tz,T0,T2,T3,T7,T8,T9,TA,TM,TN,S8,SA,SC,SQ,SS,SU,SW,SX,SY,gp,p1,e5,e6,cp,c3,gk];all_goals tactic=>exact rfl))
         ·(sym=>(simp[aE,aF,aK,aS,aG,aH,Za,Zb,Zf,Zg,Zh,Zj,Zl,Zm,Zp,Zq,Zr,Zs,Zu,Zx,Z2,ZE,ZF,ZH,ZP,ZQ,ZU,ZV,ZW,ZX,Yc,Yj,Yr,Ys,Yt,YY,Xa,Xc,Xe,Xf,Xj,Xm,Xp,Xs,Xu,Xv,Xw,Xy,Xz,XK,XO,XQ,XX,XZ,Wa,Wb,Wc,Wy,Wz,W0,W3,W4,W5,W6,W7,W9,WA,WE,WF,WH,WI,WJ,WK,WL,WM,WN,WO,WP,WQ,WR,WS,WV,WW,Vc,Vf,Vg,Vh,Vp,Vq,Vr,Vs,Vt,Vu,Vv,Vx,Vy,Vz,V0,V2,V3,V4,VN,VO,VP,VQ,VS,VW,VX,VZ,Ua,Uc,Ud,Ue,Uf,Uh,Uj,Um,Us,Uw,Ux,Uy,U1,U2,U3,U4,U5,U6,U7,U8,U9,UA,UB,Th,Ti,Tl,Tw,Tx,Tz,T0,T2,T3,T7,T8,T9,TA,TM,TN,S8,SA,SC,SQ,SS,SU,SW,SX,SY,gp,p1,p2,e5,e6,cp,c3,gk];all_goals tactic=>exact rfl))
        ·rw[P0]
         (sym=>(simp[aE,aF,aK,aS,aG,aH,Za,YA,YY,Xc,Xe,Xs,Xw,Xy,Wy,WA,WE,WF,WH,WI,WJ,WL,WN,WO,WP,WQ,WV,WW,Vc,VN,VO,VP,VW,VX,VZ,Ua,Uc,Uh,Uw,U2,U3,U4,U5,T8,TN];all_goals tactic=>exact rfl))
        ·exact rdb
        ·rw[hPP]
         rcases fp with p1|⟨p1,p2⟩
         ·(sym=>(simp[aE,aF,aK,aS,aG,aH,Za,Zb,Zf,Zh,Zl,Zm,Zp,Zs,Zu,Zx,Z2,ZF,ZX,Yc,Yt,VN,VQ,VS,VT,Uy,Tw,Tx,T0,T2,T3,T9,TA,gp,p1];all_goals tactic=>exact rfl))
         ·(sym=>(simp[aE,aF,aK,aS,aG,aH,Za,Zb,Zf,Zh,Zl,Zm,Zp,Zq,Zu,Zx,Z2,ZF,ZW,Yc,Yt,VN,VQ,VS,VT,Ux,Uy,Tw,Tx,T0,T2,T3,T9,TA,gp,p1,p2];all_goals tactic=>exact rfl))
      ·sym =>
       simp[aE,aF,aK,aS,aG,aH,Za,Zb,Zf,Zh,Zl,Zm,Zp,Zq,Zu,Zx,Z2,ZF,ZW,Yc,Yt,VN,VQ,VS,Ux,Uy,Tw,Tx,T0,T1,T2,T3,T7,T9,TA,gb,f1,f2,gp]
       tactic =>
        unfold lQ
        rw[aI np (fun j=>[.fs pr,B8 g,B8 s,.fs rows,.pt 0 0,I (j:Nat)]) (fun j=>rV a b c [] (pN ps j))]
        ·rw[hPP]
         rcases fp with p1|⟨p1,p2⟩
         ·(sym=>(simp[aE,aF,aK,aS,aG,aH,Za,Zb,Zf,Zg,Zh,Zj,Zl,Zm,Zp,Zr,Zs,Zu,Zx,Z2,ZE,ZF,ZH,ZP,ZQ,ZU,ZV,ZX,Yc,Yj,Yr,Ys,Yt,YY,Xa,Xc,Xe,Xf,Xj,Xm,Xp,Xs,Xu,Xv,Xw,Xy,Xz,XK,XO,XQ,XX,XZ,Wa,Wb,Wc,Wy,Wz,W0,W3,W4,W5,W6,W7,W9,WA,WE,WF,WH,WI,WJ,WK,WL,WM,WN,WO,WP,WQ,WR,WS,WV,WW,Vc,Vf,Vg,Vh,Vp,Vq,Vr,Vs,Vt,Vu,Vv,Vx,Vy,Vz,V0,V2,V3,V4,VN,VO,VP,VQ,VS,VW,VX,VZ,Ua,Uc,Ud,Ue,Uf,Uh,Uj,Um,Us,Uw,Ux,Uy,U1,U2,U3,U4,U5,U6,U7,U8,U9,UA,UB,Th,Ti,Tl,Tw,Tx,Tz,T0,T2,T3,T7,T8,T9,TA,TM,TN,S8,SA,SC,SQ,SS,SU,SW,SX,SY,gp,p1,e5,e6,cp,c3,gk];all_goals tactic=>exact rfl))
         ·(sym=>(simp[aE,aF,aK,aS,aG,aH,Za,Zb,Zf,Zg,Zh,Zj,Zl,Zm,Zp,Zq,Zr,Zs,Zu,Zx,Z2,ZE,ZF,ZH,ZP,ZQ,ZU,ZV,ZW,ZX,Yc,Yj,Yr,Ys,Yt,YY,Xa,Xc,Xe,Xf,Xj,Xm,Xp,Xs,Xu,Xv,Xw,Xy,Xz,XK,XO,XQ,XX,XZ,Wa,Wb,Wc,Wy,Wz,W0,W3,W4,W5,W6,W7,W9,WA,WE,WF,WH,WI,WJ,WK,WL,WM,WN,WO,WP,WQ,WR,WS,WV,WW,Vc,Vf,Vg,Vh,Vp,Vq,Vr,Vs,Vt,Vu,Vv,Vx,Vy,Vz,V0,V2,V3,V4,VN,VO,VP,VQ,VS,VW,VX,VZ,Ua,Uc,Ud,Ue,Uf,Uh,Uj,Um,Us,Uw,Ux,Uy,U1,U2,U3,U4,U5,U6,U7,U8,U9,UA,UB,Th,Ti,Tl,Tw,Tx,Tz,T0,T2,T3,T7,T8,T9,TA,TM,TN,S8,SA,SC,SQ,SS,SU,SW,SX,SY,gp,p1,p2,e5,e6,cp,c3,gk];all_goals tactic=>exact rfl))
        ·rw[P0]
         (sym=>(simp[aE,aF,aK,aS,aG,aH,Za,YA,YY,Xc,Xe,Xs,Xw,Xy,Wy,WA,WE,WF,WH,WI,WJ,WL,WN,WO,WP,WQ,WV,WW,Vc,VN,VO,VP,VW,VX,VZ,Ua,Uc,Uh,Uw,U2,U3,U4,U5,T8,TN];all_goals tactic=>exact rfl))
        ·exact rdb
        ·rw[hPP]
         rcases fp with p1|⟨p1,p2⟩
         ·(sym=>(simp[aE,aF,aK,aS,aG,aH,Za,Zb,Zf,Zh,Zl,Zm,Zp,Zs,Zu,Zx,Z2,ZF,ZX,Yc,Yt,VN,VQ,VS,VT,Uy,Tw,Tx,T0,T2,T3,T9,TA,gp,p1];all_goals tactic=>exact rfl))
         ·(sym=>(simp[aE,aF,aK,aS,aG,aH,Za,Zb,Zf,Zh,Zl,Zm,Zp,Zq,Zu,Zx,Z2,ZF,ZW,Yc,Yt,VN,VQ,VS,VT,Ux,Uy,Tw,Tx,T0,T2,T3,T9,TA,gp,p1,p2];all_goals tactic=>exact rfl))
     ·rw[B0]
      (sym=>(simp[aE,aF,aK,aS,aG,aH,YA,YY,Xc,Xe,Xs,Xw,Xy,Wy,WA,WE,WF,WH,WI,WJ,WL,WN,WO,WP,WQ,WV,WW,Vc,VN,VO,VP,VW,VX,VZ,Ua,Uc,Uh,Uw,U2,U3,U4,U5,T8,TN];all_goals tactic=>exact rfl))
     ·exact rda
     ·rw[hBB]
      rcases fb with f1|⟨f1,f2⟩
      ·(sym=>(simp[aE,aF,aK,aS,aG,aH,Za,Zb,Zf,Zh,Zl,Zm,Zp,Zs,Zu,Zx,Z2,ZF,ZX,Yc,Yt,VN,VQ,VS,VT,Uy,Tw,Tx,T0,T2,T3,T9,TA,gb,f1];all_goals tactic=>exact rfl))
      ·(sym=>(simp[aE,aF,aK,aS,aG,aH,Za,Zb,Zf,Zh,Zl,Zm,Zp,Zq,Zu,Zx,Z2,ZF,ZW,Yc,Yt,VN,VQ,VS,VT,Ux,Uy,Tw,Tx,T0,T2,T3,T9,TA,gb,f1,f2];all_goals tactic=>exact rfl))
 ·rcases PP with _|⟨px,pq⟩
  ·have zz:True:=trivial
   have cb:bG (lT (bx::bq)) 0 2 (bq.length+1)=RB:=cb
   have b3:((bq.length+1)*2≤(lT (bx::bq)).length)=True:=eq_true (by rw[lb];simp)
   obtain⟨rb0,rbr,rfl⟩:∃ x r,RB=x::r:=⟨_,_,hRB.symm⟩
   have hRP:[]=RP:=hRP
   subst hRP
   have e5:runW aA 5 [.agg [I 6,.fs (rb0::rbr),.nilsl,I a,I b,I c]] []=some (.tup [nL ok,I 0],[]):=e5
   have e6:runW aA 6 [.agg [I 6,.fs (rb0::rbr),.nilsl,I a,I b,I c]] []=some (.tup [.fs W,I 0],[]):=e6
   rw[show nO (rb0::rbr) = .fs (rb0::rbr) from rfl,show nO [] = .nilsl from rfl]
   unfold vI dQ x3
   dsimp only
   sym =>
    simp[aE,aF,aK,aS,aG,aH,YA,Tx,T1,gb]
    tactic =>
     unfold uE
     rw[aI nb (fun j=>[.fs br,.fs pr,B8 g,B8 s,.fs rows,.pt 0 0,I (j:Nat)]) (fun j=>rV a b c (bN bs j) [])]
     ·rw[hBB]
      rcases fb with f1|⟨f1,f2⟩
      ·sym =>
       simp[aE,aF,aK,aS,aG,aH,Za,Zb,Zf,Zh,Zl,Zm,Zp,Zs,Zu,Zx,Z2,ZF,ZX,Yc,Yt,VN,VQ,VS,Uy,Tw,Tx,T0,T1,T2,T3,T7,T9,TA,gb,f1,gp]
       tactic =>
        unfold lQ
        rw[aI np (fun j=>[.fs pr,B8 g,B8 s,.fs rows,.pt 0 0,I (j:Nat)]) (fun j=>rV a b c (bx::bq) (pN ps j))]
        ·rw[hPP]
         rcases fp with p1|⟨p1,p2⟩
         ·(sym=>(simp[aE,aF,aK,aS,aG,aH,Za,Zb,Zf,Zg,Zh,Zj,Zl,Zm,Zp,Zr,Zs,Zu,Zx,Z2,ZE,ZF,ZH,ZP,ZQ,ZU,ZV,ZX,Yc,Yj,Yr,Ys,Yt,YY,Xa,Xc,Xe,Xf,Xj,Xm,Xp,Xs,Xu,Xv,Xw,Xy,Xz,XK,XO,XQ,XX,XZ,Wa,Wb,Wc,Wy,Wz,W0,W3,W4,W5,W6,W7,W9,WA,WE,WF,WH,WI,WJ,WK,WL,WM,WN,WO,WP,WQ,WR,WS,WV,WW,Vc,Vf,Vg,Vh,Vp,Vq,Vr,Vs,Vt,Vu,Vv,Vx,Vy,Vz,V0,V2,V3,V4,VN,VO,VP,VQ,VS,VW,VX,VZ,Ua,Uc,Ud,Ue,Uf,Uh,Uj,Um,Us,Uw,Ux,Uy,U1,U2,U3,U4,U5,U6,U7,U8,U9,UA,UB,Th,Ti,Tl,Tw,Tx,Tz,T0,T2,T3,T7,T8,T9,TA,TM,TN,S8,SA,SC,SQ,SS,SU,SW,SX,SY,gp,p1,e5,e6,cb,b3,gk];all_goals tactic=>exact rfl))
         ·(sym=>(simp[aE,aF,aK,aS,aG,aH,Za,Zb,Zf,Zg,Zh,Zj,Zl,Zm,Zp,Zq,Zr,Zs,Zu,Zx,Z2,ZE,ZF,ZH,ZP,ZQ,ZU,ZV,ZW,ZX,Yc,Yj,Yr,Ys,Yt,YY,Xa,Xc,Xe,Xf,Xj,Xm,Xp,Xs,Xu,Xv,Xw,Xy,Xz,XK,XO,XQ,XX,XZ,Wa,Wb,Wc,Wy,Wz,W0,W3,W4,W5,W6,W7,W9,WA,WE,WF,WH,WI,WJ,WK,WL,WM,WN,WO,WP,WQ,WR,WS,WV,WW,Vc,Vf,Vg,Vh,Vp,Vq,Vr,Vs,Vt,Vu,Vv,Vx,Vy,Vz,V0,V2,V3,V4,VN,VO,VP,VQ,VS,VW,VX,VZ,Ua,Uc,Ud,Ue,Uf,Uh,Uj,Um,Us,Uw,Ux,Uy,U1,U2,U3,U4,U5,U6,U7,U8,U9,UA,UB,Th,Ti,Tl,Tw,Tx,Tz,T0,T2,T3,T7,T8,T9,TA,TM,TN,S8,SA,SC,SQ,SS,SU,SW,SX,SY,gp,p1,p2,e5,e6,cb,b3,gk];all_goals tactic=>exact rfl))
        ·rw[P0]
         (sym=>(simp[aE,aF,aK,aS,aG,aH,Za,YA,YY,Xc,Xd,Xe,Xf,Xs,Xw,Xx,Xy,Xz,Wy,WA,WB,WE,WF,WH,WI,WJ,WL,WN,WO,WP,WQ,WV,WW,WX,Vc,Vd,VN,VO,VP,VW,VX,VY,VZ,Ua,Uc,Uh,Uw,U2,U3,U4,U5,T8,TN];all_goals tactic=>exact rfl))
        ·exact rdb
        ·rw[hPP]
         rcases fp with p1|⟨p1,p2⟩
         ·(sym=>(simp[aE,aF,aK,aS,aG,aH,Za,Zb,Zf,Zh,Zl,Zm,Zp,Zs,Zu,Zx,Z2,ZF,ZX,Yc,Yt,VN,VQ,VS,VT,Uy,Tw,Tx,T0,T2,T3,T9,TA,gp,p1];all_goals tactic=>exact rfl))
         ·(sym=>(simp[aE,aF,aK,aS,aG,aH,Za,Zb,Zf,Zh,Zl,Zm,Zp,Zq,Zu,Zx,Z2,ZF,ZW,Yc,Yt,VN,VQ,VS,VT,Ux,Uy,Tw,Tx,T0,T2,T3,T9,TA,gp,p1,p2];all_goals tactic=>exact rfl))
      ·sym =>
       simp[aE,aF,aK,aS,aG,aH,Za,Zb,Zf,Zh,Zl,Zm,Zp,Zq,Zu,Zx,Z2,ZF,ZW,Yc,Yt,VN,VQ,VS,Ux,Uy,Tw,Tx,T0,T1,T2,T3,T7,T9,TA,gb,f1,f2,gp]
       tactic =>
        unfold lQ
        rw[aI np (fun j=>[.fs pr,B8 g,B8 s,.fs rows,.pt 0 0,I (j:Nat)]) (fun j=>rV a b c (bx::bq) (pN ps j))]
        ·rw[hPP]
         rcases fp with p1|⟨p1,p2⟩
         ·(sym=>(simp[aE,aF,aK,aS,aG,aH,Za,Zb,Zf,Zg,Zh,Zj,Zl,Zm,Zp,Zr,Zs,Zu,Zx,Z2,ZE,ZF,ZH,ZP,ZQ,ZU,ZV,ZX,Yc,Yj,Yr,Ys,Yt,YY,Xa,Xc,Xe,Xf,Xj,Xm,Xp,Xs,Xu,Xv,Xw,Xy,Xz,XK,XO,XQ,XX,XZ,Wa,Wb,Wc,Wy,Wz,W0,W3,W4,W5,W6,W7,W9,WA,WE,WF,WH,WI,WJ,WK,WL,WM,WN,WO,WP,WQ,WR,WS,WV,WW,Vc,Vf,Vg,Vh,Vp,Vq,Vr,Vs,Vt,Vu,Vv,Vx,Vy,Vz,V0,V2,V3,V4,VN,VO,VP,VQ,VS,VW,VX,VZ,Ua,Uc,Ud,Ue,Uf,Uh,Uj,Um,Us,Uw,Ux,Uy,U1,U2,U3,U4,U5,U6,U7,U8,U9,UA,UB,Th,Ti,Tl,Tw,Tx,Tz,T0,T2,T3,T7,T8,T9,TA,TM,TN,S8,SA,SC,SQ,SS,SU,SW,SX,SY,gp,p1,e5,e6,cb,b3,gk];all_goals tactic=>exact rfl))
         ·(sym=>(simp[aE,aF,aK,aS,aG,aH,Za,Zb,Zf,Zg,Zh,Zj,Zl,Zm,Zp,Zq,Zr,Zs,Zu,Zx,Z2,ZE,ZF,ZH,ZP,ZQ,ZU,ZV,ZW,ZX,Yc,Yj,Yr,Ys,Yt,YY,Xa,Xc,Xe,Xf,Xj,Xm,Xp,Xs,Xu,Xv,Xw,Xy,Xz,XK,XO,XQ,XX,XZ,Wa,Wb,Wc,Wy,Wz,W0,W3,W4,W5,W6,W7,W9,WA,WE,WF,WH,WI,WJ,WK,WL,WM,WN,WO,WP,WQ,WR,WS,WV,WW,Vc,Vf,Vg,Vh,Vp,Vq,Vr,Vs,Vt,Vu,Vv,Vx,Vy,Vz,V0,V2,V3,V4,VN,VO,VP,VQ,VS,VW,VX,VZ,Ua,Uc,Ud,Ue,Uf,Uh,Uj,Um,Us,Uw,Ux,Uy,U1,U2,U3,U4,U5,U6,U7,U8,U9,UA,UB,Th,Ti,Tl,Tw,Tx,Tz,T0,T2,T3,T7,T8,T9,TA,TM,TN,S8,SA,SC,SQ,SS,SU,SW,SX,SY,gp,p1,p2,e5,e6,cb,b3,gk];all_goals tactic=>exact rfl))
        ·rw[P0]
         (sym=>(simp[aE,aF,aK,aS,aG,aH,Za,YA,YY,Xc,Xd,Xe,Xf,Xs,Xw,Xx,Xy,Xz,Wy,WA,WB,WE,WF,WH,WI,WJ,WL,WN,WO,WP,WQ,WV,WW,WX,Vc,Vd,VN,VO,VP,VW,VX,VY,VZ,Ua,Uc,Uh,Uw,U2,U3,U4,U5,T8,TN];all_goals tactic=>exact rfl))
        ·exact rdb
        ·rw[hPP]
         rcases fp with p1|⟨p1,p2⟩
         ·(sym=>(simp[aE,aF,aK,aS,aG,aH,Za,Zb,Zf,Zh,Zl,Zm,Zp,Zs,Zu,Zx,Z2,ZF,ZX,Yc,Yt,VN,VQ,VS,VT,Uy,Tw,Tx,T0,T2,T3,T9,TA,gp,p1];all_goals tactic=>exact rfl))
         ·(sym=>(simp[aE,aF,aK,aS,aG,aH,Za,Zb,Zf,Zh,Zl,Zm,Zp,Zq,Zu,Zx,Z2,ZF,ZW,Yc,Yt,VN,VQ,VS,VT,Ux,Uy,Tw,Tx,T0,T2,T3,T9,TA,gp,p1,p2];all_goals tactic=>exact rfl))
     ·rw[B0]
      (sym=>(simp[aE,aF,aK,aS,aG,aH,YA,YY,Xc,Xe,Xs,Xw,Xy,Wy,WA,WE,WF,WH,WI,WJ,WL,WN,WO,WP,WQ,WV,WW,Vc,VN,VO,VP,VW,VX,VZ,Ua,Uc,Uh,Uw,U2,U3,U4,U5,T8,TN];all_goals tactic=>exact rfl))
     ·exact rda
     ·rw[hBB]
      rcases fb with f1|⟨f1,f2⟩
      ·(sym=>(simp[aE,aF,aK,aS,aG,aH,Za,Zb,Zf,Zh,Zl,Zm,Zp,Zs,Zu,Zx,Z2,ZF,ZX,Yc,Yt,VN,VQ,VS,VT,Uy,Tw,Tx,T0,T2,T3,T9,TA,gb,f1];all_goals tactic=>exact rfl))
      ·(sym=>(simp[aE,aF,aK,aS,aG,aH,Za,Zb,Zf,Zh,Zl,Zm,Zp,Zq,Zu,Zx,Z2,ZF,ZW,Yc,Yt,VN,VQ,VS,VT,Ux,Uy,Tw,Tx,T0,T2,T3,T9,TA,gb,f1,f2];all_goals tactic=>exact rfl))
  ·have zz:True:=trivial
   have cb:bG (lT (bx::bq)) 0 2 (bq.length+1)=RB:=cb
   have b3:((bq.length+1)*2≤(lT (bx::bq)).length)=True:=eq_true (by rw[lb];simp)
   obtain⟨rb0,rbr,rfl⟩:∃ x r,RB=x::r:=⟨_,_,hRB.symm⟩
   have cp:bG (yC (px::pq)) 0 3 (pq.length+1)=RP:=cp
   have c3:((pq.length+1)*3≤(yC (px::pq)).length)=True:=eq_true (by rw[lp];simp)
   obtain⟨rp0,rpr,rfl⟩:∃ x r,RP=x::r:=⟨_,_,hRP.symm⟩
   have e5:runW aA 5 [.agg [I 6,.fs (rb0::rbr),.fs (rp0::rpr),I a,I b,I c]] []=some (.tup [nL ok,I 0],[]):=e5
   have e6:runW aA 6 [.agg [I 6,.fs (rb0::rbr),.fs (rp0::rpr),I a,I b,I c]] []=some (.tup [.fs W,I 0],[]):=e6
   rw[show nO (rb0::rbr) = .fs (rb0::rbr) from rfl,show nO (rp0::rpr) = .fs (rp0::rpr) from rfl]
   unfold vI dQ x3
   dsimp only
   sym =>
    simp[aE,aF,aK,aS,aG,aH,YA,Tx,T1,gb]
    tactic =>
     unfold uE
     rw[aI nb (fun j=>[.fs br,.fs pr,B8 g,B8 s,.fs rows,.pt 0 0,I (j:Nat)]) (fun j=>rV a b c (bN bs j) [])]
     ·rw[hBB]
      rcases fb with f1|⟨f1,f2⟩
      ·sym =>
       simp[aE,aF,aK,aS,aG,aH,Za,Zb,Zf,Zh,Zl,Zm,Zp,Zs,Zu,Zx,Z2,ZF,ZX,Yc,Yt,VN,VQ,VS,Uy,Tw,Tx,T0,T1,T2,T3,T7,T9,TA,gb,f1,gp]
       tactic =>
        unfold lQ
        rw[aI np (fun j=>[.fs pr,B8 g,B8 s,.fs rows,.pt 0 0,I (j:Nat)]) (fun j=>rV a b c (bx::bq) (pN ps j))]
        ·rw[hPP]
         rcases fp with p1|⟨p1,p2⟩
         ·(sym=>(simp[aE,aF,aK,aS,aG,aH,Za,Zb,Zf,Zg,Zh,Zj,Zl,Zm,Zp,Zr,Zs,Zu,Zx,Z2,ZE,ZF,ZH,ZP,ZQ,ZU,ZV,ZX,Yc,Yj,Yr,Ys,Yt,YY,Xa,Xc,Xe,Xj,Xm,Xn,Xs,Xu,Xv,Xw,Xy,XK,XO,XX,XZ,Wa,Wb,Wy,Wz,W0,W3,W4,W5,W6,W7,W9,WA,WE,WF,WH,WI,WJ,WK,WL,WM,WN,WO,WP,WQ,WR,WS,WV,WW,Vc,Vf,Vg,Vh,Vp,Vq,Vr,Vs,Vt,Vu,Vv,Vx,Vy,Vz,V0,V1,V2,V3,V4,VN,VO,VP,VQ,VS,VW,VX,VY,VZ,Ua,Uc,Ud,Ue,Uf,Uh,Uj,Ul,Um,Us,Ut,Uw,Ux,Uy,U1,U2,U3,U4,U5,U6,U7,U8,U9,UA,UB,Th,Ti,Tl,Tw,Tx,Tz,T0,T2,T3,T7,T8,T9,TA,TM,TN,S8,SA,SC,SQ,SS,SU,SW,SX,SY,gp,p1,e5,e6,cb,b3,cp,c3,gk];all_goals tactic=>exact rfl))
         ·(sym=>(simp[aE,aF,aK,aS,aG,aH,Za,Zb,Zf,Zg,Zh,Zj,Zl,Zm,Zp,Zq,Zr,Zs,Zu,Zx,Z2,ZE,ZF,ZH,ZP,ZQ,ZU,ZV,ZW,ZX,Yc,Yj,Yr,Ys,Yt,YY,Xa,Xc,Xe,Xj,Xm,Xn,Xs,Xu,Xv,Xw,Xy,XK,XO,XX,XZ,Wa,Wb,Wy,Wz,W0,W3,W4,W5,W6,W7,W9,WA,WE,WF,WH,WI,WJ,WK,WL,WM,WN,WO,WP,WQ,WR,WS,WV,WW,Vc,Vf,Vg,Vh,Vp,Vq,Vr,Vs,Vt,Vu,Vv,Vx,Vy,Vz,V0,V1,V2,V3,V4,VN,VO,VP,VQ,VS,VW,VX,VY,VZ,Ua,Uc,Ud,Ue,Uf,Uh,Uj,Ul,Um,Us,Ut,Uw,Ux,Uy,U1,U2,U3,U4,U5,U6,U7,U8,U9,UA,UB,Th,Ti,Tl,Tw,Tx,Tz,T0,T2,T3,T7,T8,T9,TA,TM,TN,S8,SA,SC,SQ,SS,SU,SW,SX,SY,gp,p1,p2,e5,e6,cb,b3,cp,c3,gk];all_goals tactic=>exact rfl))
        ·rw[P0]
         (sym=>(simp[aE,aF,aK,aS,aG,aH,Za,YA,YY,Xc,Xd,Xe,Xf,Xs,Xw,Xx,Xy,Xz,Wy,WA,WB,WE,WF,WH,WI,WJ,WL,WN,WO,WP,WQ,WV,WW,WX,Vc,Vd,VN,VO,VP,VW,VX,VY,VZ,Ua,Uc,Uh,Uw,U2,U3,U4,U5,T8,TN];all_goals tactic=>exact rfl))
        ·exact rdb
        ·rw[hPP]
         rcases fp with p1|⟨p1,p2⟩
         ·(sym=>(simp[aE,aF,aK,aS,aG,aH,Za,Zb,Zf,Zh,Zl,Zm,Zp,Zs,Zu,Zx,Z2,ZF,ZX,Yc,Yt,VN,VQ,VS,VT,Uy,Tw,Tx,T0,T2,T3,T9,TA,gp,p1];all_goals tactic=>exact rfl))
         ·(sym=>(simp[aE,aF,aK,aS,aG,aH,Za,Zb,Zf,Zh,Zl,Zm,Zp,Zq,Zu,Zx,Z2,ZF,ZW,Yc,Yt,VN,VQ,VS,VT,Ux,Uy,Tw,Tx,T0,T2,T3,T9,TA,gp,p1,p2];all_goals tactic=>exact rfl))
      ·sym =>
       simp[aE,aF,aK,aS,aG,aH,Za,Zb,Zf,Zh,Zl,Zm,Zp,Zq,Zu,Zx,Z2,ZF,ZW,Yc,Yt,VN,VQ,VS,Ux,Uy,Tw,Tx,T0,T1,T2,T3,T7,T9,TA,gb,f1,f2,gp]
       tactic =>
        unfold lQ
        rw[aI np (fun j=>[.fs pr,B8 g,B8 s,.fs rows,.pt 0 0,I (j:Nat)]) (fun j=>rV a b c (bx::bq) (pN ps j))]
        ·rw[hPP]
         rcases fp with p1|⟨p1,p2⟩
         ·(sym=>(simp[aE,aF,aK,aS,aG,aH,Za,Zb,Zf,Zg,Zh,Zj,Zl,Zm,Zp,Zr,Zs,Zu,Zx,Z2,ZE,ZF,ZH,ZP,ZQ,ZU,ZV,ZX,Yc,Yj,Yr,Ys,Yt,YY,Xa,Xc,Xe,Xj,Xm,Xn,Xs,Xu,Xv,Xw,Xy,XK,XO,XX,XZ,Wa,Wb,Wy,Wz,W0,W3,W4,W5,W6,W7,W9,WA,WE,WF,WH,WI,WJ,WK,WL,WM,WN,WO,WP,WQ,WR,WS,WV,WW,Vc,Vf,Vg,Vh,Vp,Vq,Vr,Vs,Vt,Vu,Vv,Vx,Vy,Vz,V0,V1,V2,V3,V4,VN,VO,VP,VQ,VS,VW,VX,VY,VZ,Ua,Uc,Ud,Ue,Uf,Uh,Uj,Ul,Um,Us,Ut,Uw,Ux,Uy,U1,U2,U3,U4,U5,U6,U7,U8,U9,UA,UB,Th,Ti,Tl,Tw,Tx,Tz,T0,T2,T3,T7,T8,T9,TA,TM,TN,S8,SA,SC,SQ,SS,SU,SW,SX,SY,gp,p1,e5,e6,cb,b3,cp,c3,gk];all_goals tactic=>exact rfl))
         ·(sym=>(simp[aE,aF,aK,aS,aG,aH,Za,Zb,Zf,Zg,Zh,Zj,Zl,Zm,Zp,Zq,Zr,Zs,Zu,Zx,Z2,ZE,ZF,ZH,ZP,ZQ,ZU,ZV,ZW,ZX,Yc,Yj,Yr,Ys,Yt,YY,Xa,Xc,Xe,Xj,Xm,Xn,Xs,Xu,Xv,Xw,Xy,XK,XO,XX,XZ,Wa,Wb,Wy,Wz,W0,W3,W4,W5,W6,W7,W9,WA,WE,WF,WH,WI,WJ,WK,WL,WM,WN,WO,WP,WQ,WR,WS,WV,WW,Vc,Vf,Vg,Vh,Vp,Vq,Vr,Vs,Vt,Vu,Vv,Vx,Vy,Vz,V0,V1,V2,V3,V4,VN,VO,VP,VQ,VS,VW,VX,VY,VZ,Ua,Uc,Ud,Ue,Uf,Uh,Uj,Ul,Um,Us,Ut,Uw,Ux,Uy,U1,U2,U3,U4,U5,U6,U7,U8,U9,UA,UB,Th,Ti,Tl,Tw,Tx,Tz,T0,T2,T3,T7,T8,T9,TA,TM,TN,S8,SA,SC,SQ,SS,SU,SW,SX,SY,gp,p1,p2,e5,e6,cb,b3,cp,c3,gk];all_goals tactic=>exact rfl))
        ·rw[P0]
         (sym=>(simp[aE,aF,aK,aS,aG,aH,Za,YA,YY,Xc,Xd,Xe,Xf,Xs,Xw,Xx,Xy,Xz,Wy,WA,WB,WE,WF,WH,WI,WJ,WL,WN,WO,WP,WQ,WV,WW,WX,Vc,Vd,VN,VO,VP,VW,VX,VY,VZ,Ua,Uc,Uh,Uw,U2,U3,U4,U5,T8,TN];all_goals tactic=>exact rfl))
        ·exact rdb
        ·rw[hPP]
         rcases fp with p1|⟨p1,p2⟩
         ·(sym=>(simp[aE,aF,aK,aS,aG,aH,Za,Zb,Zf,Zh,Zl,Zm,Zp,Zs,Zu,Zx,Z2,ZF,ZX,Yc,Yt,VN,VQ,VS,VT,Uy,Tw,Tx,T0,T2,T3,T9,TA,gp,p1];all_goals tactic=>exact rfl))
         ·(sym=>(simp[aE,aF,aK,aS,aG,aH,Za,Zb,Zf,Zh,Zl,Zm,Zp,Zq,Zu,Zx,Z2,ZF,ZW,Yc,Yt,VN,VQ,VS,VT,Ux,Uy,Tw,Tx,T0,T2,T3,T9,TA,gp,p1,p2];all_goals tactic=>exact rfl))
     ·rw[B0]
      (sym=>(simp[aE,aF,aK,aS,aG,aH,YA,YY,Xc,Xe,Xs,Xw,Xy,Wy,WA,WE,WF,WH,WI,WJ,WL,WN,WO,WP,WQ,WV,WW,Vc,VN,VO,VP,VW,VX,VZ,Ua,Uc,Uh,Uw,U2,U3,U4,U5,T8,TN];all_goals tactic=>exact rfl))
     ·exact rda
     ·rw[hBB]
      rcases fb with f1|⟨f1,f2⟩
      ·(sym=>(simp[aE,aF,aK,aS,aG,aH,Za,Zb,Zf,Zh,Zl,Zm,Zp,Zs,Zu,Zx,Z2,ZF,ZX,Yc,Yt,VN,VQ,VS,VT,Uy,Tw,Tx,T0,T2,T3,T9,TA,gb,f1];all_goals tactic=>exact rfl))
      ·(sym=>(simp[aE,aF,aK,aS,aG,aH,Za,Zb,Zf,Zh,Zl,Zm,Zp,Zq,Zu,Zx,Z2,ZF,ZW,Yc,Yt,VN,VQ,VS,VT,Ux,Uy,Tw,Tx,T0,T2,T3,T9,TA,gb,f1,f2];all_goals tactic=>exact rfl))
theorem tP (r:Option (DX×aL×XH)) (f g:aL→XH→Option (DX×aL×XH)):iJ (iJ r f) g=iJ r (fun e h=>iJ (f e h) g):=by
 rcases r with _|⟨x,e,h⟩
 ·rfl
 ·cases x<;>rfl
theorem aKe {D:Nat→Option XFn} {K k:Nat} {rd:Option Nat} (a b:XCode):execW D K k rd (.seq a b)=fun e h=>iJ (execW D K k rd a e h) (execW D K k rd b):=funext fun _=>funext fun _=>Tx
theorem aEo {e:aL} {h:XH}:execW aA 3 0 none x3.body e h=iJ (execW aA 3 0 none lB e h) (execW aA 3 0 none dQ):=by
 unfold lB dQ x3
 simp only[aKe,tP]
theorem aEp:execW aA 3 0 none dQ=fun e h=>iJ (execW aA 3 0 none vI e h) (execW aA 3 0 none pM):=by
 unfold vI pM dQ x3
 simp only[aKe,tP]
theorem aMs {D:Nat→Option XFn} {K k m:Nat} {rd:Option Nat} {L:List Nat} {a r:XCode} {e:aL} {h:XH} {s:List AV} {H:XH} (h1:aW k L (some (.normal,e,h))=some (s,H)) (h2:aW k L (some (.normal,aY L s,H))=some (s,H)) :
 execW D K k rd (.seq (.block m (.loop L a)) r) e h=execW D K k rd (.seq (.block m (.loop L a)) r) (aY L s) H:=by
 have key:execW D K k rd (.loop L a) e h=execW D K k rd (.loop L a) (aY L s) H:=by
  rw[eE,eE]
  simp only[aW,oSI,Prod.mk.injEq]at h1 h2
  have e1:jC k L e h=aY L s:=by rw[←h1.1];rfl
  have e2:jC k L (aY L s) H=aY L s:=by
   show aY L (tH k L (aY L s) H)=aY L s
   rw[h2.1]
  rw[e1,h1.2,e2,h2.2]
 rw[aKe]
 simp only[T1,key]
theorem aGT {k:Nat} {L:List Nat} {r:Option (DX×aL×XH)} {q:List AV×XH} (h:aW k L r=some q):∃ e g,r=some (.normal,e,g):=by
 rcases r with _|⟨x,e,g⟩
 ·simp[aW]at h
 ·cases x with
  | normal=>exact⟨e,g,rfl⟩
  | exit id=>simp[aW]at h
  | ret=>simp[aW]at h
theorem aJl {bs ps rows:List (List AV)} {g s a b c:Nat}:aW 0 [0,1,4,5,13,14,15] (some (.normal,aY [0,1,4,5,13,14,15] (s3a bs ps g s rows 0),z3 a b c))=some (s3a bs ps g s rows 0,z3 a b c):=by
 (sym=>(simp[YA,YY,Xc,Xe,Xs,Xw,Xy,Wy,WA,WE,WF,WH,WI,WJ,WL,WN,WO,WP,WQ,WV,WW,Vc,VN,VO,VP,VW,VX,VZ,Ua,Uc,Uh,Uw,U2,U3,U4,U5,T8,TN];all_goals tactic=>exact rfl))
theorem aJk {rows:List (List AV)} {g s k a b f:Nat} {ws:List (List Int)} {p q:AV}:aW 0 [4,5,13,14,21,23,25,163,164,165] (some (.normal,aY [4,5,13,14,21,23,25,163,164,165] (s3c g s rows k ws 0),gO3 p q a b f))=some (s3c g s rows k ws 0,gO3 p q a b f):=by
 (sym=>(simp[YA,YY,Xc,Xe,Xs,Xw,Xy,Wy,WA,WE,WF,WH,WI,WJ,WL,WN,WO,WP,WQ,WV,WW,Vc,VN,VO,VP,VW,VX,VZ,Ua,Uc,Uh,Uw,U2,U3,U4,U5,T8,TN];all_goals tactic=>exact rfl))
theorem aMr {e:aL} {h:XH} {bs ps rows:List (List AV)} {g s a b c:Nat} (h1:aW 0 [0,1,4,5,13,14,15] (some (.normal,e,h))=some (s3a bs ps g s rows 0,z3 a b c)) :
 execW aA 3 0 none dQ e h=execW aA 3 0 none dQ (aY [0,1,4,5,13,14,15] (s3a bs ps g s rows 0)) (z3 a b c):=by
 unfold dQ x3 uE
 dsimp only
 exact aMs h1 aJl
theorem aKF {e:aL} {h:XH} {rows:List (List AV)} {g s k a b f:Nat} {ws:List (List Int)} {p q:AV} (h1:aW 0 [4,5,13,14,21,23,25,163,164,165] (some (.normal,e,h))=some (s3c g s rows k ws 0,gO3 p q a b f)) :
 execW aA 3 0 none pM e h=execW aA 3 0 none pM (aY [4,5,13,14,21,23,25,163,164,165] (s3c g s rows k ws 0)) (gO3 p q a b f):=by
 unfold pM dQ x3 aFg
 dsimp only
 exact aMs h1 aJk
theorem aJE {α:Type} {r:α→List AV} (B:List α):yG (nO (B.map r))=[]:=by cases B<;>rfl
theorem aJC {α:Type} {r:α→List AV} (B:List α) (s:Nat→Option Nat):rnA s (nO (B.map r))=nO (B.map r):=by cases B<;>rfl
theorem aLL {bs ps:List (Nat×Nat)} {a b c g s:Nat} (hb:∀ y∈bs,y.1<256∧y.2<256) (hp:∀ y∈ps,y.1<256∧y.2<256) (ha:a<64) (hb6:b<64) (hc:c<64) (hg:g<256) (hs:s<256) {F:List (List Nat)} (hF:F.length=4) (h:∀ i,OkF (F.getD i [])) :
 bL none x3.res x3.ownR 0 (execW aA 3 0 none dQ (aY [0,1,4,5,13,14,15] (s3a (bs.map mU) (ps.map mU) g s (rF F) 0)) (z3 a b c))=some (.bool true,[]):=by
 have ok:=aJw (bs:=bs) (ps:=ps) ha hb6 hc
 rcases aHN (bs:=bs) (ps:=ps) rfl rfl ha hb6 hc with ⟨e5,e6⟩|⟨k,ws,hk,hC,hl,hv,e5,e6,h8⟩
 ·exact aMf hb hp e5 e6
 ·have hm:=aPh (rows:=rF F) (g:=g) (s:=s) hb hp e5 e6
  obtain⟨e,H,hn⟩:=aGT hm
  rw[hn]at hm
  rw[aEp]
  simp only[hn,T2]
  rw[aKF hm]
  exact aLA hF h ok rfl hk hv hC hl (aJE _) (aJC _) (aJE _) (aJC _) hb6 hg hs h8
theorem aBu {bs ps:List (Nat×Nat)} {m0 m1 m2 g s:Nat} {l:List (List AV)} (hb:∀ y∈bs,y.1<256∧y.2<256) (hp:∀ y∈ps,y.1<256∧y.2<256) (hg:g<256) (hs:s<256) {F:List (List Nat)} (hF:F.length=4) (h:∀ i,OkF (F.getD i []))
 (hpre:aW 0 [0,1,4,5,13,14,15] (execW aA 3 0 none lB (aN (dI [.fs (bs.map mU),.fs (ps.map mU),.agg [B8 m0,B8 m1,B8 m2],.fs l,B8 g,B8 s])) [])=some (s3a (bs.map mU) (ps.map mU) g s (rF F) 0,z3 (m0%64) (m1%64) (m2%64))) :
 runW aA 3 [.fs (bs.map mU),.fs (ps.map mU),.agg [B8 m0,B8 m1,B8 m2],.fs l,B8 g,B8 s] []=some (.bool true,[]):=by
 obtain⟨e,H,hn⟩:=aGT hpre
 rw[hn]at hpre
 rw[r3 (by simp)]
 show bL none x3.res x3.ownR 0 (execW aA 3 0 none x3.body (aN (dI _)) [])=_
 rw[aEo,hn,T2,aMr hpre]
 exact aLL hb hp (Nat.mod_lt _ (by omega)) (Nat.mod_lt _ (by omega)) (Nat.mod_lt _ (by omega)) hg hs hF h
theorem aGB {a b c d:List Nat} (h0:OkF a) (h1:OkF b) (h2:OkF c) (h3:OkF d):∀ i,OkF ([a,b,c,d].getD i [])
 | 0=>h0
 | 1=>h1
 | 2=>h2
 | 3=>h3
 | i+4=>by simpa using OkF.nil
theorem w3 {bs ps:List (Nat×Nat)} {m0 m1 m2 g s:Nat} {l:List mT} (hb:∀ y∈bs,y.1<256∧y.2<256) (hp:∀ y∈ps,y.1<256∧y.2<256) (k0:m0<256) (k1:m1<256) (k2:m2<256) (hl:∀ p∈l,xW p) (hg:g<256) (hs:s<256) :
 runW aA 3 [.fs (bs.map mU),.fs (ps.map mU),.agg [B8 m0,B8 m1,B8 m2],.fs (l.map gD),B8 g,B8 s] []=some (.bool true,[]):=by
 match l,hl with
 | [],_=>exact aBu (F:=[[5],[5],[5],[5]]) hb hp hg hs rfl (aGB .five .five .five .five) (aMa k0 k1 k2)
 | [p],hl =>
   have hp1:=hl p (by simp)
   exact aBu (F:=[hau p,[5],[5],[5]]) hb hp hg hs rfl (aGB (.hau hp1) .five .five .five) (aLZ k0 k1 k2 hp1)
 | [p,q],hl =>
   have hp1:=hl p (by simp)
   have hq1:=hl q (by simp)
   exact aBu (F:=[hau p,hau q,[5],[5]]) hb hp hg hs rfl (aGB (.hau hp1) (.hau hq1) .five .five) (aLY k0 k1 k2 hp1 hq1)
 | [p,q,r],hl =>
   have hp1:=hl p (by simp)
   have hq1:=hl q (by simp)
   have hr1:=hl r (by simp)
   exact aBu (F:=[hau p,hau q,hau r,[5]]) hb hp hg hs rfl (aGB (.hau hp1) (.hau hq1) (.hau hr1) .five) (aLX k0 k1 k2 hp1 hq1 hr1)
 | p::q::r::z::t,hl =>
   have hp1:=hl p (by simp)
   have hq1:=hl q (by simp)
   have hr1:=hl r (by simp)
   have hz1:=hl z (by simp)
   exact aBu (F:=[hau p,hau q,hau r,hau z]) hb hp hg hs rfl (aGB (.hau hp1) (.hau hq1) (.hau hr1) (.hau hz1)) (aLW k0 k1 k2 hp1 hq1 hr1 hz1)
end Go.Proofs.YtmcbhljgkgfanaaDoor
