/- Parts of a proof, joined: K85 K86 K87 K88 K89 K90 K91 K92 K93 K94 K95 K96 K97 K98 K99 K100 K101 K102 K103 K104. No statement of the seed is proved here. -/
import Derived.Test.YtiabjdfdkiijmaaDoorI6
set_option linter.unusedSimpArgs false
set_option linter.unusedVariables false
set_option linter.unusedSectionVars false
namespace Go.Proofs.YtiabjdfdkiijmaaDoor
open Go Go.DL
set_option maxRecDepth 100000
set_option maxHeartbeats 4000000
theorem w36 {l:La} (ok:l.Ok):runW aA 36 [.agg l.c] []=some (.agg l.md.c,[]):=by
 have hk:=l.k_lt
 have v0:=wr8 ok.F
 have v1:=wr8 ok.s
 have v2:=wr8 ok.n
 have v3:=wr8 ok.f
 have q0:jT (l.F:Int) 7=((l.F%7:Nat):Int):=aZ l.F 7
 have q1:IntKind.i64.wrap (2+((l.F%7:Nat):Int))=(l.k:Int):=by unfold La.k;rw[aD (by omega) (by omega)];omega
 have n0:((l.k:Int)<0)=False:=eq_false (by omega)
 have e:=yX cN (i:=l.k) (by omega)
 have pz:(((2^l.k:Nat):Int)=0)=False:=eq_false (by have:=Nat.two_pow_pos l.k;omega)
 have q2:=aZ l.s (2^l.k)
 have q3:=aZ l.n (2^l.k)
 have q4:=aZ l.f (2^l.k)
 have rda:=fun j (h1:j<l.bs.length) (h2:j<12)=>aEY ok (S:=(l.s%2^l.k:Nat)) (N:=(l.n%2^l.k:Nat)) (X:=(l.f%2^l.k:Nat)) h1 h2
 obtain⟨mb,hmb⟩:∃ m,m=min 12 l.bs.length:=⟨_,rfl⟩
 obtain⟨mp,hmp⟩:∃ m,m=min 5 l.ps.length:=⟨_,rfl⟩
 have rdb:=fun j (h1:j<l.ps.length) (h2:j<5)=>aEX ok (S:=(l.s%2^l.k:Nat)) (N:=(l.n%2^l.k:Nat)) (X:=(l.f%2^l.k:Nat)) (wS l mb) h1 h2
 have B0:wS l 0=[]:=rfl
 have P0:rX l 0=[]:=rfl
 have hB:wS l mb=(l.md.bs).map bI:=by
  show _=List.map bI ((l.bs.take 12).map (toB l.k))
  rw[wS,hmb,show l.bs.take (min 12 l.bs.length)=l.bs.take 12 by rw[←List.take_take,List.take_length]]
 have hP:rX l mp=(l.md.ps).map pI:=by
  show _=List.map pI ((l.ps.take 5).map (toP l.k))
  rw[rX,hmp,show l.ps.take (min 5 l.ps.length)=l.ps.take 5 by rw[←List.take_take,List.take_length]]
 have hres:(AV.agg l.md.c) = .agg [I l.k,.fs ((wS l mb).map qR),.fs ((rX l mp).map pR),I (l.s%2^l.k:Nat),I (l.n%2^l.k:Nat),I (l.f%2^l.k:Nat)]:=by rw[hB,hP];rfl
 have zb:(mb<l.bs.length∧mb<12)∨True:=.inr trivial
 have cb:=aKM (wS l mb)
 have cp:=aKN (rX l mp)
 have lb:=aGu (wS l mb)
 have lp:=aGv (rX l mp)
 have stb:((mb:Int)<(l.bs.length:Int))=False∨((mb:Int)<(l.bs.length:Int))=True∧((mb:Int)<12)=False:=by
  by_cases h:mb<l.bs.length
  ·exact .inr ⟨eq_true (by omega),eq_false (by omega)⟩
  ·exact .inl (eq_false (by omega))
 have stp:((mp:Int)<(l.ps.length:Int))=False∨((mp:Int)<(l.ps.length:Int))=True∧((mp:Int)<5)=False:=by
  by_cases h:mp<l.ps.length
  ·exact .inr ⟨eq_true (by omega),eq_false (by omega)⟩
  ·exact .inl (eq_false (by omega))
 rw[hres]
 clear hres hB hP
 have rda:∀ j,j<mb→_:=fun j hj=>rda j (by omega) (by omega)
 have rdb:∀ j,j<mp→_:=fun j hj=>rdb j (by omega) (by omega)
 generalize hS:l.s%2^l.k=S at *
 generalize hN:l.n%2^l.k=N at *
 generalize hX:l.f%2^l.k=X at *
 generalize 2^l.k=p2 at *
 generalize l.F%7=r7 at *
 generalize hBB:wS l mb=BB at *
 generalize hPP:rX l mp=PP at *
 have stb':=stb
 have stp':=stp
 rw[r36 (by simp)];unfold x36;dsimp only
 sym =>
  simp[aH,aI,aU,bL,bK,Za,Zb,Zc,Zd,Ze,Zf,Zh,Zi,Zl,Zm,Zo,Zv,Zw,Zz,Z0,Z3,Z6,Z7,ZF,ZG,ZI,ZJ,ZL,ZM,ZY,ZZ,Yh,Ym,Yv,YO,Xe,Xg,Xh,Xk,Wa,Wc,We,Wm,Wo,Wv,Ww,Wx,Wy,Wz,W0,W4,W5,W6,W7,Vh,VJ,VT,VU,VV,VW,VX,VY,Ub,Uc,Uh,Ul,Um,Uo,Uu,Uv,Uw,U2,U3,U8,U9,UA,UB,UC,UD,UJ,UK,UX,UY,Tc,Td,Te,Tf,Tl,Tm,Tr,Ts,Tz,T0,Sm,v0,v1,v2,v3,q0,q1,n0,e,pz,q2,q3,q4]
  tactic =>
   unfold aCu
   rw[aN mb (fun j=>[.pt 0 0,.pt 1 0,I l.k,.pt 2 0,I (j:Nat)]) (fun j=>gLa l S N X (wS l j) []++gLb (wS l j) [])]
   ·rw[hBB]
    rcases stb with sb|⟨sb,sb2⟩
    ·rcases BB with _|⟨b,q⟩
     ·sym =>
      simp[aH,aI,aU,bL,bK,Za,Zb,Zf,Zh,Zl,Zm,Zp,Zs,Zv,Zy,Z3,Z7,ZE,ZF,ZV,ZZ,Ya,Yq,Ww,Wx,Wy,W7,VL,VO,VQ,VV,VY,Ud,Uu,UX,UY,Tc,Tl,Tm,Tq,Tr,Ts,Tt,Tx,Tz,T0,sb]
      tactic =>
       unfold uN
       rw[aN mp (fun j=>[.pt 0 0,.pt 1 0,I l.k,.pt 2 0,I (j:Nat)]) (fun j=>gLa l S N X [] (rX l j)++gLb [] (rX l j))]
       ·rw[hPP]
        rcases stp with sp|⟨sp,sp2⟩
        ·rcases PP with _|⟨p,r⟩
         ·(sym=>(simp[aH,aI,aU,bL,bK,Za,Zb,Zc,Zf,Zh,Zl,Zm,Zp,Zs,Zv,Zy,Z3,Z7,ZE,ZF,ZJ,ZK,ZV,ZZ,Ya,Yq,YR,YU,YX,Xe,Xk,Xn,Xp,Xr,Xy,X0,XM,Wa,Wc,Wh,Wo,Ww,Wx,Wy,Wz,W0,W3,W4,W5,W7,WF,WJ,WL,WM,WN,Vq,V4,V5,V7,V8,V9,VA,VB,VE,VF,VG,VI,VL,VO,VQ,VV,VX,VY,Ua,Ub,Uc,Ud,Uh,Uo,Uu,Uy,Uz,U0,U1,U2,U3,U4,U5,U8,U9,UA,UX,UY,Tb,Tc,Td,Te,Tl,Tm,Tn,Tq,Ts,Tt,Tx,Tz,T0,Sn,sp];all_goals tactic=>exact rfl))
         ·have cp:bX (cP (p::r)) 0 3 (r.length+1)=(p::r).map pR:=cp
          have c3:((r.length+1)*3≤(cP (p::r)).length)=True:=eq_true (by rw[lp];simp)
          (sym=>(simp[aH,aI,aU,bL,bK,Za,Zb,Zc,Zf,Zh,Zl,Zm,Zp,Zs,Zv,Zy,Z3,Z7,ZE,ZF,ZJ,ZK,ZV,ZZ,Ya,Yq,YR,YU,YX,Xe,Xh,Xi,Xk,Xn,Xp,Xr,Xy,X0,XK,XM,XQ,XU,XX,XZ,Wa,Wc,We,Wh,Wo,Ww,Wx,Wy,Wz,W0,W3,W4,W5,W7,WF,WJ,WL,WM,WN,Vm,Vo,Vp,Vq,Vr,V0,V1,V2,V4,V5,V7,V8,V9,VA,VB,VE,VF,VG,VI,VL,VO,VQ,VU,VV,VW,VX,VY,Ua,Ub,Uc,Ud,Uh,Uj,Uo,Uu,Uy,Uz,U0,U1,U2,U3,U4,U5,U6,U7,U8,U9,UA,UX,UY,Tb,Tc,Td,Te,Tl,Tm,Tn,Tq,Ts,Tt,Tx,Tz,T0,TF,Sn,Sp,Sq,sp,cp,c3];all_goals tactic=>exact rfl))
        ·rcases PP with _|⟨p,r⟩
         ·(sym=>(simp[aH,aI,aU,bL,bK,Za,Zb,Zc,Zf,Zh,Zl,Zm,Zp,Zq,Zv,Zy,Z3,Z7,ZE,ZF,ZJ,ZK,ZU,ZZ,Ya,Yq,YR,YU,YX,Xe,Xk,Xn,Xp,Xr,Xy,X0,XM,Wa,Wc,Wh,Wo,Ww,Wx,Wy,Wz,W0,W3,W4,W5,W7,WF,WJ,WL,WM,WN,Vq,V4,V5,V7,V8,V9,VA,VB,VE,VF,VG,VI,VL,VO,VQ,VV,VX,VY,Ua,Ub,Uc,Ud,Uh,Uo,Ut,Uu,Uy,Uz,U0,U1,U2,U3,U4,U5,U8,U9,UA,UX,UY,Tb,Tc,Td,Te,Tl,Tm,Tn,Tq,Ts,Tt,Tx,Tz,T0,Sn,sp,sp2];all_goals tactic=>exact rfl))
         ·have cp:bX (cP (p::r)) 0 3 (r.length+1)=(p::r).map pR:=cp
          have c3:((r.length+1)*3≤(cP (p::r)).length)=True:=eq_true (by rw[lp];simp)
          (sym=>(simp[aH,aI,aU,bL,bK,Za,Zb,Zc,Zf,Zh,Zl,Zm,Zp,Zq,Zv,Zy,Z3,Z7,ZE,ZF,ZJ,ZK,ZU,ZZ,Ya,Yq,YR,YU,YX,Xe,Xh,Xi,Xk,Xn,Xp,Xr,Xy,X0,XK,XM,XQ,XU,XX,XZ,Wa,Wc,We,Wh,Wo,Ww,Wx,Wy,Wz,W0,W3,W4,W5,W7,WF,WJ,WL,WM,WN,Vm,Vo,Vp,Vq,Vr,V0,V1,V2,V4,V5,V7,V8,V9,VA,VB,VE,VF,VG,VI,VL,VO,VQ,VU,VV,VW,VX,VY,Ua,Ub,Uc,Ud,Uh,Uj,Uo,Ut,Uu,Uy,Uz,U0,U1,U2,U3,U4,U5,U6,U7,U8,U9,UA,UX,UY,Tb,Tc,Td,Te,Tl,Tm,Tn,Tq,Ts,Tt,Tx,Tz,T0,TF,Sn,Sp,Sq,sp,sp2,cp,c3];all_goals tactic=>exact rfl))
       ·rw[P0]; (sym=>(simp[aH,aI,aU,bL,bK,Za,Y7,YR,YZ,Xn,Xt,Ww,W8,W9,WB,WC,WF,WG,WH,WJ,WL,WM,WN,WO,WT,WU,WZ,VL,VM,VN,VU,VV,VW,VX,VY,Ua,Uf,Us,Uy,Uz,U0,U1,Ty,TG];all_goals tactic=>exact rfl))
       ·exact rdb
       ·rw[hPP]
        rcases stp with sp|⟨sp,sp2⟩
        ·rcases PP with _|⟨p,r⟩
         ·(sym=>(simp[aH,aI,aU,bL,bK,Za,Zb,Zf,Zh,Zl,Zm,Zp,Zs,Zv,Zy,Z3,Z7,ZE,ZF,ZV,ZZ,Ya,Yq,Ww,Wx,Wy,W7,VL,VO,VQ,VR,VY,Ud,Uu,UX,UY,Tc,Tl,Tm,Tq,Ts,Tt,Tz,T0,sp];all_goals tactic=>exact rfl))
         ·(sym=>(simp[aH,aI,aU,bL,bK,Za,Zb,Zf,Zh,Zl,Zm,Zp,Zs,Zv,Zy,Z3,Z7,ZE,ZF,ZV,ZZ,Ya,Yq,Ww,Wx,Wy,W7,VL,VO,VQ,VR,VW,VX,Ud,Uu,UX,UY,Tc,Tl,Tm,Tq,Ts,Tt,Tz,T0,sp];all_goals tactic=>exact rfl))
        ·rcases PP with _|⟨p,r⟩
         ·(sym=>(simp[aH,aI,aU,bL,bK,Za,Zb,Zf,Zh,Zl,Zm,Zp,Zq,Zv,Zy,Z3,Z7,ZE,ZF,ZU,ZZ,Ya,Yq,Ww,Wx,Wy,W7,VL,VO,VQ,VR,VY,Ud,Ut,Uu,UX,UY,Tc,Tl,Tm,Tq,Ts,Tt,Tz,T0,sp,sp2];all_goals tactic=>exact rfl))
         ·(sym=>(simp[aH,aI,aU,bL,bK,Za,Zb,Zf,Zh,Zl,Zm,Zp,Zq,Zv,Zy,Z3,Z7,ZE,ZF,ZU,ZZ,Ya,Yq,Ww,Wx,Wy,W7,VL,VO,VQ,VR,VW,VX,Ud,Ut,Uu,UX,UY,Tc,Tl,Tm,Tq,Ts,Tt,Tz,T0,sp,sp2];all_goals tactic=>exact rfl))
     ·have cb:bX (cQ (b::q)) 0 2 (q.length+1)=(b::q).map qR:=cb
      have b3:((q.length+1)*2≤(cQ (b::q)).length)=True:=eq_true (by rw[lb];simp)
      sym =>
       simp[aH,aI,aU,bL,bK,Za,Zb,Zf,Zh,Zl,Zm,Zp,Zs,Zv,Zy,Z3,Z7,ZE,ZF,ZV,ZZ,Ya,Yq,Ww,Wx,Wy,W7,VL,VO,VQ,VU,VW,VX,Ud,Uu,UX,UY,Tc,Tl,Tm,Tq,Tr,Ts,Tt,Tx,Tz,T0,sb]
       tactic =>
        unfold uN
        rw[aN mp (fun j=>[.pt 0 0,.pt 1 0,I l.k,.pt 2 0,I (j:Nat)]) (fun j=>gLa l S N X (b::q) (rX l j)++gLb (b::q) (rX l j))]
        ·rw[hPP]
         rcases stp with sp|⟨sp,sp2⟩
         ·rcases PP with _|⟨p,r⟩
          ·(sym=>(simp[aH,aI,aU,bL,bK,Za,Zb,Zc,Zf,Zh,Zl,Zm,Zp,Zs,Zv,Zy,Z3,Z7,ZE,ZF,ZJ,ZK,ZV,ZZ,Ya,Yq,YR,YU,YX,Xe,Xh,Xi,Xk,Xn,Xp,Xr,Xy,X0,XK,XM,XQ,XU,XX,XZ,Wa,Wc,We,Wh,Wo,Ww,Wx,Wy,Wz,W0,W3,W4,W5,W7,WF,WJ,WL,WM,WN,Vm,Vo,Vp,Vq,Vr,V0,V1,V2,V4,V5,V7,V8,V9,VA,VB,VE,VF,VG,VI,VL,VO,VQ,VU,VV,VW,VX,VY,Ua,Ub,Uc,Ud,Uh,Uj,Uo,Uu,Uy,Uz,U0,U1,U2,U3,U4,U5,U6,U7,U8,U9,UA,UX,UY,Tb,Tc,Td,Te,Tl,Tm,Tn,Tq,Ts,Tt,Tx,Tz,T0,TF,Sn,Sp,Sq,sp,cb,b3];all_goals tactic=>exact rfl))
          ·have cp:bX (cP (p::r)) 0 3 (r.length+1)=(p::r).map pR:=cp
           have c3:((r.length+1)*3≤(cP (p::r)).length)=True:=eq_true (by rw[lp];simp)
           (sym=>(simp[aH,aI,aU,bL,bK,Za,Zb,Zc,Zf,Zh,Zl,Zm,Zp,Zs,Zv,Zy,Z3,Z7,ZE,ZF,ZJ,ZK,ZV,ZZ,Ya,Yq,YR,YU,YX,Xe,Xh,Xi,Xn,Xp,Xr,Xy,X0,XK,XQ,XU,XW,XX,Wa,Wc,We,Wo,Ww,Wx,Wy,Wz,W0,W3,W4,W5,W7,WF,WJ,WL,WM,WN,Vm,Vo,Vp,Vq,Vr,Vz,V0,V1,V2,V4,V5,V7,V8,V9,VA,VB,VE,VF,VG,VI,VL,VO,VQ,VU,VV,VW,VX,VY,Ua,Ub,Uc,Ud,Uh,Uj,Uo,Uq,Uu,Uy,Uz,U0,U1,U2,U3,U4,U5,U6,U7,U8,U9,UA,UX,UY,Tb,Tc,Td,Te,Tl,Tm,Tn,Tq,Ts,Tt,Tx,Tz,T0,TF,Sn,Sp,Sq,sp,cp,c3,cb,b3];all_goals tactic=>exact rfl))
         ·rcases PP with _|⟨p,r⟩
          ·(sym=>(simp[aH,aI,aU,bL,bK,Za,Zb,Zc,Zf,Zh,Zl,Zm,Zp,Zq,Zv,Zy,Z3,Z7,ZE,ZF,ZJ,ZK,ZU,ZZ,Ya,Yq,YR,YU,YX,Xe,Xh,Xi,Xk,Xn,Xp,Xr,Xy,X0,XK,XM,XQ,XU,XX,XZ,Wa,Wc,We,Wh,Wo,Ww,Wx,Wy,Wz,W0,W3,W4,W5,W7,WF,WJ,WL,WM,WN,Vm,Vo,Vp,Vq,Vr,V0,V1,V2,V4,V5,V7,V8,V9,VA,VB,VE,VF,VG,VI,VL,VO,VQ,VU,VV,VW,VX,VY,Ua,Ub,Uc,Ud,Uh,Uj,Uo,Ut,Uu,Uy,Uz,U0,U1,U2,U3,U4,U5,U6,U7,U8,U9,UA,UX,UY,Tb,Tc,Td,Te,Tl,Tm,Tn,Tq,Ts,Tt,Tx,Tz,T0,TF,Sn,Sp,Sq,sp,sp2,cb,b3];all_goals tactic=>exact rfl))
          ·have cp:bX (cP (p::r)) 0 3 (r.length+1)=(p::r).map pR:=cp
           have c3:((r.length+1)*3≤(cP (p::r)).length)=True:=eq_true (by rw[lp];simp)
           (sym=>(simp[aH,aI,aU,bL,bK,Za,Zb,Zc,Zf,Zh,Zl,Zm,Zp,Zq,Zv,Zy,Z3,Z7,ZE,ZF,ZJ,ZK,ZU,ZZ,Ya,Yq,YR,YU,YX,Xe,Xh,Xi,Xn,Xp,Xr,Xy,X0,XK,XQ,XU,XW,XX,Wa,Wc,We,Wo,Ww,Wx,Wy,Wz,W0,W3,W4,W5,W7,WF,WJ,WL,WM,WN,Vm,Vo,Vp,Vq,Vr,Vz,V0,V1,V2,V4,V5,V7,V8,V9,VA,VB,VE,VF,VG,VI,VL,VO,VQ,VU,VV,VW,VX,VY,Ua,Ub,Uc,Ud,Uh,Uj,Uo,Uq,Ut,Uu,Uy,Uz,U0,U1,U2,U3,U4,U5,U6,U7,U8,U9,UA,UX,UY,Tb,Tc,Td,Te,Tl,Tm,Tn,Tq,Ts,Tt,Tx,Tz,T0,TF,Sn,Sp,Sq,sp,sp2,cp,c3,cb,b3];all_goals tactic=>exact rfl))
        ·rw[P0]; (sym=>(simp[aH,aI,aU,bL,bK,Za,Y7,YR,YY,YZ,Xa,Xn,Xs,Xt,Xu,Ww,W8,W9,WB,WC,WF,WG,WH,WJ,WL,WM,WN,WO,WT,WU,WV,WZ,Vb,VL,VM,VN,VU,VV,VW,VX,VY,Ua,Uf,Us,Uy,Uz,U0,U1,Ty,TG];all_goals tactic=>exact rfl))
        ·exact rdb
        ·rw[hPP]
         rcases stp with sp|⟨sp,sp2⟩
         ·rcases PP with _|⟨p,r⟩
          ·(sym=>(simp[aH,aI,aU,bL,bK,Za,Zb,Zf,Zh,Zl,Zm,Zp,Zs,Zv,Zy,Z3,Z7,ZE,ZF,ZV,ZZ,Ya,Yq,Ww,Wx,Wy,W7,VL,VO,VQ,VR,VW,VX,Ud,Uu,UX,UY,Tc,Tl,Tm,Tq,Ts,Tt,Tz,T0,sp];all_goals tactic=>exact rfl))
          ·(sym=>(simp[aH,aI,aU,bL,bK,Za,Zb,Zf,Zh,Zl,Zm,Zp,Zs,Zv,Zy,Z3,Z7,ZE,ZF,ZV,ZZ,Ya,Yq,Ww,Wx,Wy,W7,VL,VO,VQ,VR,VW,VX,Ud,Uu,UX,UY,Tc,Tl,Tm,Tq,Ts,Tt,Tz,T0,sp];all_goals tactic=>exact rfl))
         ·rcases PP with _|⟨p,r⟩
          ·(sym=>(simp[aH,aI,aU,bL,bK,Za,Zb,Zf,Zh,Zl,Zm,Zp,Zq,Zv,Zy,Z3,Z7,ZE,ZF,ZU,ZZ,Ya,Yq,Ww,Wx,Wy,W7,VL,VO,VQ,VR,VW,VX,Ud,Ut,Uu,UX,UY,Tc,Tl,Tm,Tq,Ts,Tt,Tz,T0,sp,sp2];all_goals tactic=>exact rfl))
          ·(sym=>(simp[aH,aI,aU,bL,bK,Za,Zb,Zf,Zh,Zl,Zm,Zp,Zq,Zv,Zy,Z3,Z7,ZE,ZF,ZU,ZZ,Ya,Yq,Ww,Wx,Wy,W7,VL,VO,VQ,VR,VW,VX,Ud,Ut,Uu,UX,UY,Tc,Tl,Tm,Tq,Ts,Tt,Tz,T0,sp,sp2];all_goals tactic=>exact rfl))
    ·rcases BB with _|⟨b,q⟩
     ·sym =>
      simp[aH,aI,aU,bL,bK,Za,Zb,Zf,Zh,Zl,Zm,Zp,Zq,Zv,Zy,Z3,Z7,ZE,ZF,ZU,ZZ,Ya,Yq,Ww,Wx,Wy,W7,VL,VO,VQ,VV,VY,Ud,Ut,Uu,UX,UY,Tc,Tl,Tm,Tq,Tr,Ts,Tt,Tx,Tz,T0,sb,sb2]
      tactic =>
       unfold uN
       rw[aN mp (fun j=>[.pt 0 0,.pt 1 0,I l.k,.pt 2 0,I (j:Nat)]) (fun j=>gLa l S N X [] (rX l j)++gLb [] (rX l j))]
       ·rw[hPP]
        rcases stp with sp|⟨sp,sp2⟩
        ·rcases PP with _|⟨p,r⟩
         ·(sym=>(simp[aH,aI,aU,bL,bK,Za,Zb,Zc,Zf,Zh,Zl,Zm,Zp,Zs,Zv,Zy,Z3,Z7,ZE,ZF,ZJ,ZK,ZV,ZZ,Ya,Yq,YR,YU,YX,Xe,Xk,Xn,Xp,Xr,Xy,X0,XM,Wa,Wc,Wh,Wo,Ww,Wx,Wy,Wz,W0,W3,W4,W5,W7,WF,WJ,WL,WM,WN,Vq,V4,V5,V7,V8,V9,VA,VB,VE,VF,VG,VI,VL,VO,VQ,VV,VX,VY,Ua,Ub,Uc,Ud,Uh,Uo,Uu,Uy,Uz,U0,U1,U2,U3,U4,U5,U8,U9,UA,UX,UY,Tb,Tc,Td,Te,Tl,Tm,Tn,Tq,Ts,Tt,Tx,Tz,T0,Sn,sp];all_goals tactic=>exact rfl))
         ·have cp:bX (cP (p::r)) 0 3 (r.length+1)=(p::r).map pR:=cp
          have c3:((r.length+1)*3≤(cP (p::r)).length)=True:=eq_true (by rw[lp];simp)
          (sym=>(simp[aH,aI,aU,bL,bK,Za,Zb,Zc,Zf,Zh,Zl,Zm,Zp,Zs,Zv,Zy,Z3,Z7,ZE,ZF,ZJ,ZK,ZV,ZZ,Ya,Yq,YR,YU,YX,Xe,Xh,Xi,Xk,Xn,Xp,Xr,Xy,X0,XK,XM,XQ,XU,XX,XZ,Wa,Wc,We,Wh,Wo,Ww,Wx,Wy,Wz,W0,W3,W4,W5,W7,WF,WJ,WL,WM,WN,Vm,Vo,Vp,Vq,Vr,V0,V1,V2,V4,V5,V7,V8,V9,VA,VB,VE,VF,VG,VI,VL,VO,VQ,VU,VV,VW,VX,VY,Ua,Ub,Uc,Ud,Uh,Uj,Uo,Uu,Uy,Uz,U0,U1,U2,U3,U4,U5,U6,U7,U8,U9,UA,UX,UY,Tb,Tc,Td,Te,Tl,Tm,Tn,Tq,Ts,Tt,Tx,Tz,T0,TF,Sn,Sp,Sq,sp,cp,c3];all_goals tactic=>exact rfl))
        ·rcases PP with _|⟨p,r⟩
         ·(sym=>(simp[aH,aI,aU,bL,bK,Za,Zb,Zc,Zf,Zh,Zl,Zm,Zp,Zq,Zv,Zy,Z3,Z7,ZE,ZF,ZJ,ZK,ZU,ZZ,Ya,Yq,YR,YU,YX,Xe,Xk,Xn,Xp,Xr,Xy,X0,XM,Wa,Wc,Wh,Wo,Ww,Wx,Wy,Wz,W0,W3,W4,W5,W7,WF,WJ,WL,WM,WN,Vq,V4,V5,V7,V8,V9,VA,VB,VE,VF,VG,VI,VL,VO,VQ,VV,VX,VY,Ua,Ub,Uc,Ud,Uh,Uo,Ut,Uu,Uy,Uz,U0,U1,U2,U3,U4,U5,U8,U9,UA,UX,UY,Tb,Tc,Td,Te,Tl,Tm,Tn,Tq,Ts,Tt,Tx,Tz,T0,Sn,sp,sp2];all_goals tactic=>exact rfl))
         ·have cp:bX (cP (p::r)) 0 3 (r.length+1)=(p::r).map pR:=cp
          have c3:((r.length+1)*3≤(cP (p::r)).length)=True:=eq_true (by rw[lp];simp)
          (sym=>(simp[aH,aI,aU,bL,bK,Za,Zb,Zc,Zf,Zh,Zl,Zm,Zp,Zq,Zv,Zy,Z3,Z7,ZE,ZF,ZJ,ZK,ZU,ZZ,Ya,Yq,YR,YU,YX,Xe,Xh,Xi,Xk,Xn,Xp,Xr,Xy,X0,XK,XM,XQ,XU,XX,XZ,Wa,Wc,We,Wh,Wo,Ww,Wx,Wy,Wz,W0,W3,W4,W5,W7,WF,WJ,WL,WM,WN,Vm,Vo,Vp,Vq,Vr,V0,V1,V2,V4,V5,V7,V8,V9,VA,VB,VE,VF,VG,VI,VL,VO,VQ,VU,VV,VW,VX,VY,Ua,Ub,Uc,Ud,Uh,Uj,Uo,Ut,Uu,Uy,Uz,U0,U1,U2,U3,U4,U5,U6,U7,U8,U9,UA,UX,UY,Tb,Tc,Td,Te,Tl,Tm,Tn,Tq,Ts,Tt,Tx,Tz,T0,TF,Sn,Sp,Sq,sp,sp2,cp,c3];all_goals tactic=>exact rfl))
       ·rw[P0]; (sym=>(simp[aH,aI,aU,bL,bK,Za,Y7,YR,YZ,Xn,Xt,Ww,W8,W9,WB,WC,WF,WG,WH,WJ,WL,WM,WN,WO,WT,WU,WZ,VL,VM,VN,VU,VV,VW,VX,VY,Ua,Uf,Us,Uy,Uz,U0,U1,Ty,TG];all_goals tactic=>exact rfl))
       ·exact rdb
       ·rw[hPP]
        rcases stp with sp|⟨sp,sp2⟩
        ·rcases PP with _|⟨p,r⟩
         ·(sym=>(simp[aH,aI,aU,bL,bK,Za,Zb,Zf,Zh,Zl,Zm,Zp,Zs,Zv,Zy,Z3,Z7,ZE,ZF,ZV,ZZ,Ya,Yq,Ww,Wx,Wy,W7,VL,VO,VQ,VR,VY,Ud,Uu,UX,UY,Tc,Tl,Tm,Tq,Ts,Tt,Tz,T0,sp];all_goals tactic=>exact rfl))
         ·(sym=>(simp[aH,aI,aU,bL,bK,Za,Zb,Zf,Zh,Zl,Zm,Zp,Zs,Zv,Zy,Z3,Z7,ZE,ZF,ZV,ZZ,Ya,Yq,Ww,Wx,Wy,W7,VL,VO,VQ,VR,VW,VX,Ud,Uu,UX,UY,Tc,Tl,Tm,Tq,Ts,Tt,Tz,T0,sp];all_goals tactic=>exact rfl))
        ·rcases PP with _|⟨p,r⟩
         ·(sym=>(simp[aH,aI,aU,bL,bK,Za,Zb,Zf,Zh,Zl,Zm,Zp,Zq,Zv,Zy,Z3,Z7,ZE,ZF,ZU,ZZ,Ya,Yq,Ww,Wx,Wy,W7,VL,VO,VQ,VR,VY,Ud,Ut,Uu,UX,UY,Tc,Tl,Tm,Tq,Ts,Tt,Tz,T0,sp,sp2];all_goals tactic=>exact rfl))
         ·(sym=>(simp[aH,aI,aU,bL,bK,Za,Zb,Zf,Zh,Zl,Zm,Zp,Zq,Zv,Zy,Z3,Z7,ZE,ZF,ZU,ZZ,Ya,Yq,Ww,Wx,Wy,W7,VL,VO,VQ,VR,VW,VX,Ud,Ut,Uu,UX,UY,Tc,Tl,Tm,Tq,Ts,Tt,Tz,T0,sp,sp2];all_goals tactic=>exact rfl))
     ·have cb:bX (cQ (b::q)) 0 2 (q.length+1)=(b::q).map qR:=cb
      have b3:((q.length+1)*2≤(cQ (b::q)).length)=True:=eq_true (by rw[lb];simp)
      sym =>
       simp[aH,aI,aU,bL,bK,Za,Zb,Zf,Zh,Zl,Zm,Zp,Zq,Zv,Zy,Z3,Z7,ZE,ZF,ZU,ZZ,Ya,Yq,Ww,Wx,Wy,W7,VL,VO,VQ,VU,VW,VX,Ud,Ut,Uu,UX,UY,Tc,Tl,Tm,Tq,Tr,Ts,Tt,Tx,Tz,T0,sb,sb2]
       tactic =>
        unfold uN
        rw[aN mp (fun j=>[.pt 0 0,.pt 1 0,I l.k,.pt 2 0,I (j:Nat)]) (fun j=>gLa l S N X (b::q) (rX l j)++gLb (b::q) (rX l j))]
        ·rw[hPP]
         rcases stp with sp|⟨sp,sp2⟩
         ·rcases PP with _|⟨p,r⟩
          ·(sym=>(simp[aH,aI,aU,bL,bK,Za,Zb,Zc,Zf,Zh,Zl,Zm,Zp,Zs,Zv,Zy,Z3,Z7,ZE,ZF,ZJ,ZK,ZV,ZZ,Ya,Yq,YR,YU,YX,Xe,Xh,Xi,Xk,Xn,Xp,Xr,Xy,X0,XK,XM,XQ,XU,XX,XZ,Wa,Wc,We,Wh,Wo,Ww,Wx,Wy,Wz,W0,W3,W4,W5,W7,WF,WJ,WL,WM,WN,Vm,Vo,Vp,Vq,Vr,V0,V1,V2,V4,V5,V7,V8,V9,VA,VB,VE,VF,VG,VI,VL,VO,VQ,VU,VV,VW,VX,VY,Ua,Ub,Uc,Ud,Uh,Uj,Uo,Uu,Uy,Uz,U0,U1,U2,U3,U4,U5,U6,U7,U8,U9,UA,UX,UY,Tb,Tc,Td,Te,Tl,Tm,Tn,Tq,Ts,Tt,Tx,Tz,T0,TF,Sn,Sp,Sq,sp,cb,b3];all_goals tactic=>exact rfl))
          ·have cp:bX (cP (p::r)) 0 3 (r.length+1)=(p::r).map pR:=cp
           have c3:((r.length+1)*3≤(cP (p::r)).length)=True:=eq_true (by rw[lp];simp)
           (sym=>(simp[aH,aI,aU,bL,bK,Za,Zb,Zc,Zf,Zh,Zl,Zm,Zp,Zs,Zv,Zy,Z3,Z7,ZE,ZF,ZJ,ZK,ZV,ZZ,Ya,Yq,YR,YU,YX,Xe,Xh,Xi,Xn,Xp,Xr,Xy,X0,XK,XQ,XU,XW,XX,Wa,Wc,We,Wo,Ww,Wx,Wy,Wz,W0,W3,W4,W5,W7,WF,WJ,WL,WM,WN,Vm,Vo,Vp,Vq,Vr,Vz,V0,V1,V2,V4,V5,V7,V8,V9,VA,VB,VE,VF,VG,VI,VL,VO,VQ,VU,VV,VW,VX,VY,Ua,Ub,Uc,Ud,Uh,Uj,Uo,Uq,Uu,Uy,Uz,U0,U1,U2,U3,U4,U5,U6,U7,U8,U9,UA,UX,UY,Tb,Tc,Td,Te,Tl,Tm,Tn,Tq,Ts,Tt,Tx,Tz,T0,TF,Sn,Sp,Sq,sp,cp,c3,cb,b3];all_goals tactic=>exact rfl))
         ·rcases PP with _|⟨p,r⟩
          ·(sym=>(simp[aH,aI,aU,bL,bK,Za,Zb,Zc,Zf,Zh,Zl,Zm,Zp,Zq,Zv,Zy,Z3,Z7,ZE,ZF,ZJ,ZK,ZU,ZZ,Ya,Yq,YR,YU,YX,Xe,Xh,Xi,Xk,Xn,Xp,Xr,Xy,X0,XK,XM,XQ,XU,XX,XZ,Wa,Wc,We,Wh,Wo,Ww,Wx,Wy,Wz,W0,W3,W4,W5,W7,WF,WJ,WL,WM,WN,Vm,Vo,Vp,Vq,Vr,V0,V1,V2,V4,V5,V7,V8,V9,VA,VB,VE,VF,VG,VI,VL,VO,VQ,VU,VV,VW,VX,VY,Ua,Ub,Uc,Ud,Uh,Uj,Uo,Ut,Uu,Uy,Uz,U0,U1,U2,U3,U4,U5,U6,U7,U8,U9,UA,UX,UY,Tb,Tc,Td,Te,Tl,Tm,Tn,Tq,Ts,Tt,Tx,Tz,T0,TF,Sn,Sp,Sq,sp,sp2,cb,b3];all_goals tactic=>exact rfl))
          ·have cp:bX (cP (p::r)) 0 3 (r.length+1)=(p::r).map pR:=cp
           have c3:((r.length+1)*3≤(cP (p::r)).length)=True:=eq_true (by rw[lp];simp)
           (sym=>(simp[aH,aI,aU,bL,bK,Za,Zb,Zc,Zf,Zh,Zl,Zm,Zp,Zq,Zv,Zy,Z3,Z7,ZE,ZF,ZJ,ZK,ZU,ZZ,Ya,Yq,YR,YU,YX,Xe,Xh,Xi,Xn,Xp,Xr,Xy,X0,XK,XQ,XU,XW,XX,Wa,Wc,We,Wo,Ww,Wx,Wy,Wz,W0,W3,W4,W5,W7,WF,WJ,WL,WM,WN,Vm,Vo,Vp,Vq,Vr,Vz,V0,V1,V2,V4,V5,V7,V8,V9,VA,VB,VE,VF,VG,VI,VL,VO,VQ,VU,VV,VW,VX,VY,Ua,Ub,Uc,Ud,Uh,Uj,Uo,Uq,Ut,Uu,Uy,Uz,U0,U1,U2,U3,U4,U5,U6,U7,U8,U9,UA,UX,UY,Tb,Tc,Td,Te,Tl,Tm,Tn,Tq,Ts,Tt,Tx,Tz,T0,TF,Sn,Sp,Sq,sp,sp2,cp,c3,cb,b3];all_goals tactic=>exact rfl))
        ·rw[P0]; (sym=>(simp[aH,aI,aU,bL,bK,Za,Y7,YR,YY,YZ,Xa,Xn,Xs,Xt,Xu,Ww,W8,W9,WB,WC,WF,WG,WH,WJ,WL,WM,WN,WO,WT,WU,WV,WZ,Vb,VL,VM,VN,VU,VV,VW,VX,VY,Ua,Uf,Us,Uy,Uz,U0,U1,Ty,TG];all_goals tactic=>exact rfl))
        ·exact rdb
        ·rw[hPP]
         rcases stp with sp|⟨sp,sp2⟩
         ·rcases PP with _|⟨p,r⟩
          ·(sym=>(simp[aH,aI,aU,bL,bK,Za,Zb,Zf,Zh,Zl,Zm,Zp,Zs,Zv,Zy,Z3,Z7,ZE,ZF,ZV,ZZ,Ya,Yq,Ww,Wx,Wy,W7,VL,VO,VQ,VR,VW,VX,Ud,Uu,UX,UY,Tc,Tl,Tm,Tq,Ts,Tt,Tz,T0,sp];all_goals tactic=>exact rfl))
          ·(sym=>(simp[aH,aI,aU,bL,bK,Za,Zb,Zf,Zh,Zl,Zm,Zp,Zs,Zv,Zy,Z3,Z7,ZE,ZF,ZV,ZZ,Ya,Yq,Ww,Wx,Wy,W7,VL,VO,VQ,VR,VW,VX,Ud,Uu,UX,UY,Tc,Tl,Tm,Tq,Ts,Tt,Tz,T0,sp];all_goals tactic=>exact rfl))
         ·rcases PP with _|⟨p,r⟩
          ·(sym=>(simp[aH,aI,aU,bL,bK,Za,Zb,Zf,Zh,Zl,Zm,Zp,Zq,Zv,Zy,Z3,Z7,ZE,ZF,ZU,ZZ,Ya,Yq,Ww,Wx,Wy,W7,VL,VO,VQ,VR,VW,VX,Ud,Ut,Uu,UX,UY,Tc,Tl,Tm,Tq,Ts,Tt,Tz,T0,sp,sp2];all_goals tactic=>exact rfl))
          ·(sym=>(simp[aH,aI,aU,bL,bK,Za,Zb,Zf,Zh,Zl,Zm,Zp,Zq,Zv,Zy,Z3,Z7,ZE,ZF,ZU,ZZ,Ya,Yq,Ww,Wx,Wy,W7,VL,VO,VQ,VR,VW,VX,Ud,Ut,Uu,UX,UY,Tc,Tl,Tm,Tq,Ts,Tt,Tz,T0,sp,sp2];all_goals tactic=>exact rfl))
   ·rw[B0]; (sym=>(simp[aH,aI,aU,bL,bK,Za,Y7,YR,YZ,Xn,Xt,Ww,W8,W9,WB,WC,WF,WG,WH,WJ,WL,WM,WN,WO,WT,WU,WZ,VM,VN,VU,VV,VW,VX,VY,Ua,Uf,Us,Uy,Uz,U0,U1,Ty,TG];all_goals tactic=>exact rfl))
   ·exact rda
   ·rw[hBB]
    rcases stb with sb|⟨sb,sb2⟩
    ·rcases BB with _|⟨b,q⟩
     ·(sym=>(simp[aH,aI,aU,bL,bK,Za,Zb,Zf,Zh,Zl,Zm,Zp,Zs,Zv,Zy,Z3,Z7,ZE,ZF,ZV,ZZ,Ya,Yq,Ww,Wx,Wy,W7,VL,VO,VQ,VR,VY,Ud,Uu,UX,UY,Tc,Tl,Tm,Tq,Ts,Tt,Tz,T0,sb];all_goals tactic=>exact rfl))
     ·(sym=>(simp[aH,aI,aU,bL,bK,Za,Zb,Zf,Zh,Zl,Zm,Zp,Zs,Zv,Zy,Z3,Z7,ZE,ZF,ZV,ZZ,Ya,Yq,Ww,Wx,Wy,W7,VL,VO,VQ,VR,VW,VX,Ud,Uu,UX,UY,Tc,Tl,Tm,Tq,Ts,Tt,Tz,T0,sb];all_goals tactic=>exact rfl))
    ·rcases BB with _|⟨b,q⟩
     ·(sym=>(simp[aH,aI,aU,bL,bK,Za,Zb,Zf,Zh,Zl,Zm,Zp,Zq,Zv,Zy,Z3,Z7,ZE,ZF,ZU,ZZ,Ya,Yq,Ww,Wx,Wy,W7,VL,VO,VQ,VR,VY,Ud,Ut,Uu,UX,UY,Tc,Tl,Tm,Tq,Ts,Tt,Tz,T0,sb,sb2];all_goals tactic=>exact rfl))
     ·(sym=>(simp[aH,aI,aU,bL,bK,Za,Zb,Zf,Zh,Zl,Zm,Zp,Zq,Zv,Zy,Z3,Z7,ZE,ZF,ZU,ZZ,Ya,Yq,Ww,Wx,Wy,W7,VL,VO,VQ,VR,VW,VX,Ud,Ut,Uu,UX,UY,Tc,Tl,Tm,Tq,Ts,Tt,Tz,T0,sb,sb2];all_goals tactic=>exact rfl))
theorem aLk {x:Vn} (ok:x.Ok) (hh:jU x=false):runW aA 43 [.agg x.c] []=some (I 99,[]):=by
 have h:=aLl ok ok.h23 hh
 rw[r43 (by simp)];unfold x43;dsimp only
 (sym=>(simp[Za,Zb,Zf,Zg,Zh,Zj,Zl,Zm,Zo,Zv,Zz,Z3,ZD,ZF,ZN,ZO,ZS,ZT,Yg,Yo,YR,YU,YX,Xe,Xg,Xh,Xn,Xp,Xq,Xr,Xy,Wa,Wc,We,Wo,Ww,Wx,Wy,W0,W3,W4,W5,W6,W7,WF,WI,WJ,WK,WL,WM,WN,WP,WQ,Vd,Ve,Vf,Vq,Vs,Vt,Vv,Vw,Vy,V4,V5,V7,V8,V9,VA,VB,VE,VF,VG,VH,VJ,VO,VP,VT,VU,VV,VX,VY,Ua,Ub,Uc,Uh,Ut,Ux,Uy,Uz,U0,U1,U2,U3,U8,U9,UJ,UK,UX,UY,Tb,Tf,Tl,Tm,Tn,Tr,Ts,Tu,Tw,Tz,T0,Sn,S6,S7,S8,SA,SB,SC,h];all_goals tactic=>exact rfl))
theorem w43 {x:Vn} (ok:x.Ok) (hh:jU x=true):∃ n,Lea x 0 n∧runW aA 43 [.agg x.c] []=some (I (n:Nat),[]):=by
 obtain⟨c,h1,h⟩:=w29 ok ok.h23 hh
 refine⟨bP c,⟨⟨c,h1.lt,h1.min.1,rfl⟩,h1.min.2⟩,?_⟩
 have hl:(dL (el c)).length=bP c:=cC _
 rw[r43 (by simp)];unfold x43;dsimp only
 (sym=>(simp[Za,Zb,Zf,Zg,Zh,Zj,Zl,Zm,Zo,Zv,Zz,Z3,ZD,ZE,ZF,ZN,ZO,ZS,ZT,Ya,Yg,Yo,Yp,YR,YU,YX,Xe,Xg,Xh,Xn,Xp,Xq,Xr,Xy,Wa,Wc,We,Wo,Ww,Wx,Wy,W0,W3,W4,W5,W6,W7,WF,WI,WJ,WK,WL,WM,WN,WP,WQ,Vd,Ve,Vf,Vq,Vs,Vt,Vv,Vw,Vy,V4,V5,V7,V8,V9,VA,VB,VE,VF,VG,VH,VJ,VO,VQ,VT,VU,VV,VX,VY,Ua,Ub,Uc,Ud,Uh,Uk,Ut,Uu,Ux,Uy,Uz,U0,U1,U2,U3,U8,U9,UJ,UK,UX,UY,Tb,Tf,Tl,Tm,Tn,Tp,Tr,Ts,Tv,Tz,T0,Sn,S6,S7,S8,SA,SB,SC,h,hl];all_goals tactic=>exact rfl))
section
variable {x:Vn} (ok:x.Ok) {s:Nat} (hs:s<65536)
end
def rs (w:Nat→Nat) (t j:Nat):Nat→Nat:=fun f=>if f<j then w f+(if t.testBit f then 1 else 0) else w f
section
variable {x:Vn} (ok:x.Ok)
end
section
variable {x:Vn} (ok:x.Ok) {a c:Nat}
include ok in
end
structure aKR (x:Vn) (u:Nat) (ks:List Nat):Prop where
 lt:∀ k∈ks,k<x.F
 len:ks.length≤16
 ne:ks≠[]
 leads:kJ x ks=true
 free:∀ (j k:Nat),ks[j]?=some k→u.testBit k=true→x.fix.testBit k=true
section
variable {x:Vn} (ok:x.Ok) {ws:List (List Int)} {ks:List Nat} {i:Nat} {U:Nat→Nat}
end
section
variable {x:Vn} (ok:x.Ok) {ws:List (List Int)} (hF:∀ (i:Nat) (w:List Int),ws[i]?=some w→∃ ks,w=dL ks∧aKR x (usN ws i) ks) (hl:ws.length≤16)
end
section
variable {x:Vn} (ok:x.Ok) {c:Nat} (hc:isCut x c)
end
section
variable {x:Vn} (ok:x.Ok) {n:Nat} (hn:Lea x 0 n)
end
section
variable (x:Vn)
variable {x}
end
section
variable {x:Vn} (ok:x.Ok) (hF8:x.F≤8) {s ss:Nat} (hs:s<256)
include ok hF8 hs in
end
structure Les (o x:Vn):Prop where
 s:sub o.sick x.sick
 n:sub o.nur x.nur
 f:sub o.fix x.fix
 st:∀ k,sub (dJ o k) (dJ x k)
theorem aDg {a b i:Nat} (h:sub a b) (hi:b.testBit i=false):a.testBit i=false:=by
 cases ha:a.testBit i
 ·rfl
 ·rw[h i ha]at hi;simp at hi
theorem Les.cuts {o x:Vn} (h:Les o x) {C:Nat} (hC:Cuts x 0 C):Cuts o 0 C :=
 ⟨hC.lt,fun i hi=>aDg h.f (hC.free i hi),fun g hg=>aDg h.n (hC.cut g (hg.mono h.s h.st (cA _)))⟩
def szP (x:Vn) (v:Nat):Prop:=(jU x=true∧Lea x 0 v∧v≤16)∨(jU x=false∧v=99)
theorem nM {x:Vn} (ok:x.Ok):∃ v,szP x v∧runW aA 43 [.agg x.c] []=some (I (v:Nat),[]):=by
 cases hh:jU x
 ·exact⟨99,.inr ⟨hh,rfl⟩,aLk ok hh⟩
 ·obtain⟨n,h1,h2⟩:=w43 ok hh
  refine⟨n,.inl ⟨hh,h1,?_⟩,h2⟩
  obtain⟨C,_,_,h⟩:=h1.1
  rw[←h];exact kA C
theorem Les.has {o x:Vn} (h:Les o x) (ok:o.Ok) (ox:x.Ok) (hh:jU x=true):jU o=true:=by
 obtain⟨C,_,hC⟩:=(iG ox).1 hh
 obtain⟨h1,h2⟩:=aCa ok (h.cuts hC)
 exact(iG ok).2 ⟨_,h1,h2⟩
theorem Les.size {o x:Vn} (h:Les o x) (ok:o.Ok) (ox:x.Ok) {n m:Nat} (hn:szP x n) (hm:szP o m):m≤n:=by
 rcases hn with ⟨n1,n2,n3⟩|⟨_,rfl⟩
 ·rcases hm with ⟨_,m2,_⟩|⟨m1,_⟩
  ·obtain⟨C,_,c2,c3⟩:=n2.1
   have:=m2.2 C (h.cuts c2)
   omega
  ·rw[h.has ok ox n1]at m1;simp at m1
 ·rcases hm with ⟨_,_,m3⟩|⟨_,rfl⟩
  ·omega
  ·omega
def aFL (x:Vn) (a b c:Nat):Vn:=⟨x.F,x.bs,x.ps,x.sick&&&a,x.nur&&&b,x.fix&&&c⟩
def vQ (x:Vn) (k:Nat):Vn:=⟨x.F,x.bs.eraseIdx k,x.ps,x.sick,x.nur,x.fix⟩
def aFK (x:Vn) (k:Nat):Vn:=⟨x.F,x.bs,x.ps.eraseIdx k,x.sick,x.nur,x.fix⟩
theorem aAF {x:Vn} (ok:x.Ok) (a b c:Nat):(aFL x a b c).Ok :=
 ⟨ok.F1,ok.F16,ok.nb,ok.np,ok.b,ok.p,Nat.lt_of_le_of_lt Nat.and_le_left ok.s,Nat.lt_of_le_of_lt Nat.and_le_left ok.n,Nat.lt_of_le_of_lt Nat.and_le_left ok.f⟩
theorem jL {x:Vn} (ok:x.Ok) (k:Nat):(vQ x k).Ok :=
 ⟨ok.F1,ok.F16,Nat.le_trans (List.length_eraseIdx_le ..) ok.nb,ok.np,fun p hp=>ok.b p (List.mem_of_mem_eraseIdx hp),ok.p,ok.s,ok.n,ok.f⟩
theorem aAE {x:Vn} (ok:x.Ok) (k:Nat):(aFK x k).Ok :=
 ⟨ok.F1,ok.F16,ok.nb,Nat.le_trans (List.length_eraseIdx_le ..) ok.np,ok.b,fun p hp=>ok.p p (List.mem_of_mem_eraseIdx hp),ok.s,ok.n,ok.f⟩
theorem aAa (a b:Nat):sub (a&&&b) a:=fun i h=>by
 rw[Nat.testBit_and,Bool.and_eq_true]at h;exact h.1
theorem aDL (x:Vn) (a b c:Nat):Les (aFL x a b c) x:=⟨aAa _ _,aAa _ _,aAa _ _,fun k=>cA _⟩
theorem aBi {α:Type} {l l':List α} {m:α→Bool} (h:∀ y∈l,y∈l') (ha:l.any m=true):l'.any m=true:=by
 rw[List.any_eq_true]at ha ⊢
 obtain⟨y,h1,h2⟩:=ha
 exact⟨y,h y h1,h2⟩
theorem aCy {o x:Vn} (hb:∀ y∈o.bs,y∈x.bs) (hp:∀ y∈o.ps,y∈x.ps) (k:Nat):sub (dJ o k) (dJ x k):=fun i h=>by
 rw[aCz,Bool.or_eq_true]at h ⊢
 rcases h with h|h
 ·exact .inl (aBi hb h)
 ·exact .inr (aBi hp h)
theorem nQ (x:Vn) (k:Nat):Les (vQ x k) x:=⟨cA _,cA _,cA _,aCy (fun y h=>List.mem_of_mem_eraseIdx h) (fun y h=>h)⟩
theorem aDK (x:Vn) (k:Nat):Les (aFK x k) x:=⟨cA _,cA _,cA _,aCy (fun y h=>h) (fun y h=>List.mem_of_mem_eraseIdx h)⟩
theorem aDW {α:Type} {l:List α} {k:Nat} {y:α} (h:y∈l) (hne:l[k]?≠some y):y∈l.eraseIdx k:=by
 rw[List.mem_eraseIdx_iff_getElem?]
 obtain⟨j,hj⟩:=List.getElem?_of_mem h
 exact⟨j,fun e=>hne (by rw[←e];exact hj),hj⟩
theorem aBg {x:Vn} (ok:x.Ok) {k e:Nat} {b:Nat×Nat} (hb:x.bs[k]?=some b) (he:e=b.1∨e=b.2) (hf:x.fix.testBit e=false) {C:Nat} (hC:Cuts (vQ x k) 0 C):Cuts x 0 (C|||2^e):=by
 have hbo:=ok.b b (List.mem_of_getElem? hb)
 have hF:=ok.F16
 have heF:e<16:=by rcases he with rfl|rfl<;>omega
 refine⟨tE (n:=16) hC.lt heF,fun i hi=>?_,fun g hg=>hC.cut g ?_⟩
 ·rw[dT,Bool.or_eq_true,decide_eq_true_eq]at hi
  rcases hi with hi|rfl
  ·exact hC.free i hi
  ·exact hf
 ·rw[Nat.or_zero]at hg ⊢
  have key:∀ i,(C|||2^e).testBit i=false→C.testBit i=false∧e≠i:=fun i hi=>by
   rw[dT,Bool.or_eq_false_iff,decide_eq_false_iff_not]at hi
   exact hi
  induction hg with
  | base h1 h2=>exact .base h1 (key _ h2).1
  | @step a c h0 h1 h2 ih =>
    have ka:=key a h0.free
    have kc:=key c h2
    refine .step ih ?_ kc.1
    rw[aCz,Bool.or_eq_true]at h1 ⊢
    rcases h1 with h1|h1
    ·rw[List.any_eq_true]at h1
     obtain⟨y,y1,y2⟩:=h1
     refine .inl (List.any_eq_true.2 ⟨y,aDW y1 fun hy=>?_,y2⟩)
     rw[hb]at hy
     obtain rfl:=Option.some.inj hy
     simp only[bMt,Bool.or_eq_true,Bool.and_eq_true,beq_iff_eq]at y2
     rcases y2 with ⟨e1,e2⟩|⟨e1,e2⟩
     ·rcases he with rfl|rfl
      ·exact ka.2 e1
      ·exact kc.2 e2
     ·rcases he with rfl|rfl
      ·exact kc.2 e1
      ·exact ka.2 e2
    ·exact .inr h1
theorem nI {x:Vn} (ok:x.Ok) {k e:Nat} {b:Nat×Nat} (hb:x.bs[k]?=some b) (he:e=b.1∨e=b.2) (hf:x.fix.testBit e=false) {n m:Nat} (hn:szP x n) (hm:szP (vQ x k) m):n=99∨n≤m+1:=by
 have hbo:=ok.b b (List.mem_of_getElem? hb)
 have hF:=ok.F16
 have heF:e<16:=by rcases he with rfl|rfl<;>omega
 rcases hn with ⟨n1,n2,n3⟩|⟨_,rfl⟩
 ·refine .inr ?_
  rcases hm with ⟨_,m2,_⟩|⟨m1,_⟩
  ·obtain⟨C,_,c2,c3⟩:=m2.1
   have h:=n2.2 _ (aBg ok hb he hf c2)
   have hle:bP (C|||2^e)≤bP C+1:=by
    have:=pJ C (2^e) c2.lt (by
     have:(2:Nat)^e≤2^15:=Nat.pow_le_pow_right (by omega) (by omega)
     omega)
    rw[wJ heF]at this
    exact this
   omega
  ·rw[(nQ x k).has (jL ok k) ok n1]at m1;simp at m1
 ·exact .inl rfl
theorem qX {s k:Nat} {R:List (List AV)} (h:dW s R) (hk:k<R.length):bX ((R.take k).flatten++((R.drop (k+1)).take (R.length-(k+1))).flatten) 0 s (k+(R.length-(k+1)))=R.eraseIdx k:=by
 have e:(R.take k).flatten++((R.drop (k+1)).take (R.length-(k+1))).flatten=(R.eraseIdx k).flatten:=by
  rw[List.take_of_length_le (l:=R.drop (k+1)) (by rw[List.length_drop];exact Nat.le_refl _),List.eraseIdx_eq_take_drop_succ,List.flatten_append]
 have h2:dW s (R.eraseIdx k):=fun r hr=>h r (List.mem_of_mem_eraseIdx hr)
 have h3:=mM h2
 rw[List.length_eraseIdx_of_lt hk]at h3
 rw[e,show k+(R.length-(k+1))=R.length-1 by omega]
 exact h3
theorem fD {s:Nat} {R:List (List AV)} (h:dW s R):(R.all fun r=>r.length==s)=true:=by
 rw[List.all_eq_true]
 intro r hr
 rw[(h r hr).2.2.2]
 simp
theorem fF {s:Nat} {R:List (List AV)} (h:dW s R):eG R.flatten=true:=(cH h).1
theorem lU {α β:Type} (f:α→β):∀ (l:List α) (k:Nat),(l.map f).eraseIdx k=(l.eraseIdx k).map f
 | [],_=>rfl
 | _::_,0=>rfl
 | a::l,k+1=>by simp only[List.map_cons,List.eraseIdx_cons_succ,lU f l k]
theorem w12 {l:La} (hl:l.Ok) {wh a b c:Nat} (hw:wh<256) (ha:a<256) (hb:b<256) (hc:c<256):runW aA 12 [.agg l.c,B8 wh,.agg [B8 a,B8 b,B8 c]] []=some (.bool true,[]):=by
 have e36:=w36 hl
 have ok:=l.md_ok
 have hF8:l.md.F≤8:=l.k_lt.2
 have hb12:l.md.bs.length≤12:=by show (List.map _ _).length≤12;simp;omega
 have hp5:l.md.ps.length≤5:=by show (List.map _ _).length≤5;simp;omega
 generalize l.md=x at *
 have hF:=ok.F16
 have hp:=bG hF
 have hs:=ok.s
 have hn:=ok.n
 have hf:=ok.f
 obtain⟨n,hn1,g43⟩:=nM ok
 obtain⟨m,hm1,g43o⟩:=nM (aAF ok a b c)
 have hmn:=(aDL x a b c).size (aAF ok a b c) ok hn1 hm1
 have hn99:n≤99:=by rcases hn1 with ⟨_,_,h⟩|⟨_,rfl⟩<;>omega
 obtain⟨RB,hRB⟩:∃ R,R=(x.bs.map bI).map qR:=⟨_,rfl⟩
 obtain⟨RP,hRP⟩:∃ R,R=(x.ps.map pI).map pR:=⟨_,rfl⟩
 have okB:dW 2 RB:=hRB▸aDb _
 have okP:dW 3 RP:=hRP▸aDc _
 have lB:RB.length=x.bs.length:=by rw[hRB];simp
 have lP:RP.length=x.ps.length:=by rw[hRP];simp
 have hc0:x.c=[I x.F,.fs RB,.fs RP,I x.sick,I x.nur,I x.fix]:=by rw[hRB,hRP]
 rw[hc0]at e36 g43
 rw[show (aFL x a b c).c=[I x.F,.fs RB,.fs RP,I (x.sick&&&a:Nat),I (x.nur&&&b:Nat),I (x.fix&&&c:Nat)] by rw[hRB,hRP];rfl]at g43o
 have n0:((n:Int)<0)=False:=eq_false (by omega)
 have m0:((m:Int)<0)=False:=eq_false (by omega)
 have mn:((n:Int)<(m:Int))=False:=eq_false (by omega)
 have v0:=wr8 hw
 have v1:=wr8 ha
 have v2:=wr8 hb
 have v3:=wr8 hc
 have o1:=jS cN (a:=x.sick) (b:=a) (by omega) (by omega)
 have o2:=jS cN (a:=x.nur) (b:=b) (by omega) (by omega)
 have o3:=jS cN (a:=x.fix) (b:=c) (by omega) (by omega)
 have allP:=fD okP
 have allB:=fD okB
 have d0:RP.drop 0=RP:=List.drop_zero
 have d1:RB.drop 0=RB:=List.drop_zero
 have hB:x.bs.length=0∨∃ kk y,kk<x.bs.length∧kk=wh%x.bs.length∧x.bs[kk]?=some y∧RB[kk]?=some [I y.1,I y.2]:=by
  by_cases h:x.bs.length=0
  ·exact .inl h
  ·have hk:=Nat.mod_lt wh (show 0<x.bs.length by omega)
   obtain⟨y,hy⟩:=cO hk
   exact .inr ⟨_,y,hk,rfl,hy,by rw[hRB,List.getElem?_map,List.getElem?_map,hy];rfl⟩
 by_cases h5:wh<5
 ·have c5:((wh:Int)<5)=True:=eq_true (by omega)
  by_cases hk:wh<x.ps.length
  ·have ck:((wh:Int)<(x.ps.length:Int))=True:=eq_true (by omega)
   obtain⟨m2,hm2,g43p⟩:=nM (aAE ok wh)
   have hm2n:=(aDK x wh).size (aAE ok wh) ok hn1 hm2
   rw[show (aFK x wh).c=[I x.F,.fs RB,.fs (RP.eraseIdx wh),I x.sick,I x.nur,I x.fix] by rw[hRB,hRP,lU,lU];rfl]at g43p
   have q0:((m2:Int)<0)=False:=eq_false (by omega)
   have qn:((n:Int)<(m2:Int))=False:=eq_false (by omega)
   have okTP:dW 3 (RP.take wh):=fun r hr=>okP r (List.mem_of_mem_take hr)
   have okDP:dW 3 ((RP.drop (wh+1)).take (x.ps.length-(wh+1))):=fun r hr=>okP r (List.mem_of_mem_drop (List.mem_of_mem_take hr))
   have allTP:=fD okTP
   have allDP:=fD okDP
   have grTP:=fF okTP
   have lTP:(RP.take wh).length=wh:=by rw[List.length_take];omega
   have lDP:((RP.drop (wh+1)).take (x.ps.length-(wh+1))).length=x.ps.length-(wh+1):=by simp;omega
   have fTP:(RP.take wh).flatten.length=wh*3:=by rw[(cH okTP).2.2.2,lTP]
   have fDP:((RP.drop (wh+1)).take (x.ps.length-(wh+1))).flatten.length=(x.ps.length-(wh+1))*3:=by rw[(cH okDP).2.2.2,lDP]
   have w1P:IntKind.i64.wrap ((wh:Int)+1)=((wh+1:Nat):Int):=by rw[aD (by omega) (by omega)];omega
   have i1P:((wh:Int)≤(x.ps.length:Int))=True:=eq_true (by omega)
   have i2P:(((wh+1:Nat):Int)≤(x.ps.length:Int))=True:=eq_true (by omega)
   have t1P:((wh:Int)).toNat=wh:=Int.toNat_natCast _
   have t2P:(((wh+1:Nat):Int)).toNat=wh+1:=Int.toNat_natCast _
   have j0P:((0:Int)≤(wh:Int))=True:=eq_true (by omega)
   have j1P:((0:Int)≤((wh+1:Nat):Int))=True:=eq_true (by omega)
   have b1P:(wh*24≤1099511627776)=True:=eq_true (by omega)
   have b2P:(wh≤1099511627776)=True:=eq_true (by omega)
   have z1P:0+wh=wh:=Nat.zero_add _
   have a1P:([]:List AV)++(RP.take wh).flatten=(RP.take wh).flatten:=rfl
   have s1P:(wh*3=(RP.take wh).flatten.length)=True:=eq_true (by rw[fTP])
   have b3P:((wh+(x.ps.length-(wh+1)))*24≤1099511627776)=True:=eq_true (by omega)
   have b4P:(wh+(x.ps.length-(wh+1))≤1099511627776)=True:=eq_true (by omega)
   have crP:=qX okP (k:=wh) (by omega)
   rw[lP]at crP
   have s2P:((wh+(x.ps.length-(wh+1)))*3≤(RP.take wh).flatten.length+((RP.drop (wh+1)).take (x.ps.length-(wh+1))).flatten.length)=True:=eq_true (by rw[fTP,fDP,←Nat.add_mul];exact Nat.le_refl _)
   have grAP:eG ((RP.take wh).flatten++((RP.drop (wh+1)).take (x.ps.length-(wh+1))).flatten)=true:=by rw[nU,fF okTP,fF okDP];rfl
   rw[r12 (by simp)];unfold x12;dsimp only
   sym =>
    simp[aH,aI,aU,Za,Zb,Zc,Zd,Ze,Zf,Zg,Zh,Zi,Zj,Zl,Zm,Zn,Zo,Zp,Zq,Zr,Zv,Zw,Zy,Zz,Z1,Z3,Z6,Z7,Z8,ZC,ZE,ZF,ZG,ZI,ZJ,ZK,ZL,ZM,ZN,ZO,ZS,ZT,ZU,ZV,ZY,ZZ,Ya,Yh,Yk,Yo,Yq,Ys,Yu,Yv,Y6,Y8,YA,YD,YM,YR,YU,YX,Xe,Xg,Xh,Xi,Xk,Xn,Xp,Xr,Xy,XJ,XK,XQ,XW,XX,XY,Wa,Wc,We,Wm,Wo,Wq,Wu,Wv,Ww,Wx,Wy,Wz,W0,W3,W4,W5,W6,W7,WF,WI,WK,WP,WQ,Vd,Ve,Vf,Vh,Vi,Vm,Vo,Vp,Vq,Vr,Vs,Vt,Vv,Vw,Vx,Vy,Vz,V0,V1,V2,VJ,VO,VP,VQ,VT,VU,VV,VW,VX,VY,Ub,Uc,Uh,Uj,Uk,Ul,Um,Un,Uo,Ut,Uu,Uv,Uw,Ux,Uy,Uz,U0,U1,U2,U3,U4,U5,U6,U7,U8,U9,UA,UB,UE,UF,UG,UJ,UK,UL,UM,UN,UP,US,UU,UV,UX,UY,Tb,Tc,Td,Te,Tf,Tg,Th,Ti,Tj,Tl,Tm,Tp,Ts,Tz,T0,T5,T6,T8,T9,TD,TF,TI,Sl,Sm,Sn,Sp,Sq,S6,S7,S8,SA,SB,SC,e36,g43,g43o,n0,m0,mn,v0,v1,v2,v3,o1,o2,o3,c5,ck,lP,d0,allP,allTP,allDP,grTP,lTP,lDP,w1P,i1P,i2P,t1P,t2P,j0P,j1P,b1P,b2P,z1P,a1P,s1P,b3P,b4P,crP,s2P,grAP,g43p,q0,qn]
    tactic =>
     rcases hB with hB|⟨kk,y,hk,hkk,hy,hry⟩
     ·have z:((x.bs.length:Int)=0)=True:=eq_true (by omega)
      (sym=>(simp[aH,aI,aU,Za,Zb,Zf,Zh,Zl,Zv,ZN,ZO,ZS,ZT,YT,Xo,Xz,Wb,W5,WF,WI,WJ,WK,WL,WM,WN,WP,WQ,Vd,Ve,Vf,Vq,V4,V5,V7,V8,V9,VA,VB,VE,VF,VG,VH,VP,VV,VY,Ua,Ub,Uc,Ut,Ux,Uy,Uz,U0,Tm,Tn,Ts,Tu,Tz,T0,Sn,lB,z,dR];all_goals tactic=>exact rfl))
     ·have z:((x.bs.length:Int)=0)=False:=eq_false (by omega)
      have q1:jT (wh:Int) (x.bs.length:Int)=(kk:Int):=by rw[hkk];exact aZ wh x.bs.length
      have hyb:=ok.b y (List.mem_of_getElem? hy)
      have kl:((kk:Int)<(x.bs.length:Int))=True:=eq_true (by omega)
      obtain⟨m3,hm3,g43b⟩:=nM (jL ok kk)
      have hm3n:=(nQ x kk).size (jL ok kk) ok hn1 hm3
      have hsz:=fun e he hfe=>nI ok hy (e:=e) he hfe hn1 hm3
      rw[show (vQ x kk).c=[I x.F,.fs (RB.eraseIdx kk),.fs RP,I x.sick,I x.nur,I x.fix] by rw[hRB,hRP,lU,lU];rfl]at g43b
      have p0:((m3:Int)<0)=False:=eq_false (by omega)
      have pn:((n:Int)<(m3:Int))=False:=eq_false (by omega)
      have y1:((y.1:Int)<0)=False:=eq_false (by omega)
      have y2:((y.2:Int)<0)=False:=eq_false (by omega)
      have e1:=pN cN (a:=x.fix) (i:=y.1) (by omega) (by omega)
      have e2:=pN cN (a:=x.fix) (i:=y.2) (by omega) (by omega)
      have un:IntKind.i64.wrap ((n:Int)-1)=(n:Int)-1:=aD (by omega) (by omega)
      have okTB:dW 2 (RB.take kk):=fun r hr=>okB r (List.mem_of_mem_take hr)
      have okDB:dW 2 ((RB.drop (kk+1)).take (x.bs.length-(kk+1))):=fun r hr=>okB r (List.mem_of_mem_drop (List.mem_of_mem_take hr))
      have allTB:=fD okTB
      have allDB:=fD okDB
      have grTB:=fF okTB
      have lTB:(RB.take kk).length=kk:=by rw[List.length_take];omega
      have lDB:((RB.drop (kk+1)).take (x.bs.length-(kk+1))).length=x.bs.length-(kk+1):=by simp;omega
      have fTB:(RB.take kk).flatten.length=kk*2:=by rw[(cH okTB).2.2.2,lTB]
      have fDB:((RB.drop (kk+1)).take (x.bs.length-(kk+1))).flatten.length=(x.bs.length-(kk+1))*2:=by rw[(cH okDB).2.2.2,lDB]
      have w1B:IntKind.i64.wrap ((kk:Int)+1)=((kk+1:Nat):Int):=by rw[aD (by omega) (by omega)];omega
      have i1B:((kk:Int)≤(x.bs.length:Int))=True:=eq_true (by omega)
      have i2B:(((kk+1:Nat):Int)≤(x.bs.length:Int))=True:=eq_true (by omega)
      have t1B:((kk:Int)).toNat=kk:=Int.toNat_natCast _
      have t2B:(((kk+1:Nat):Int)).toNat=kk+1:=Int.toNat_natCast _
      have j0B:((0:Int)≤(kk:Int))=True:=eq_true (by omega)
      have j1B:((0:Int)≤((kk+1:Nat):Int))=True:=eq_true (by omega)
      have b1B:(kk*16≤1099511627776)=True:=eq_true (by omega)
      have b2B:(kk≤1099511627776)=True:=eq_true (by omega)
      have z1B:0+kk=kk:=Nat.zero_add _
      have a1B:([]:List AV)++(RB.take kk).flatten=(RB.take kk).flatten:=rfl
      have s1B:(kk*2=(RB.take kk).flatten.length)=True:=eq_true (by rw[fTB])
      have b3B:((kk+(x.bs.length-(kk+1)))*16≤1099511627776)=True:=eq_true (by omega)
      have b4B:(kk+(x.bs.length-(kk+1))≤1099511627776)=True:=eq_true (by omega)
      have crB:=qX okB (k:=kk) (by omega)
      rw[lB]at crB
      have s2B:((kk+(x.bs.length-(kk+1)))*2≤(RB.take kk).flatten.length+((RB.drop (kk+1)).take (x.bs.length-(kk+1))).flatten.length)=True:=eq_true (by rw[fTB,fDB,←Nat.add_mul];exact Nat.le_refl _)
      have grAB:eG ((RB.take kk).flatten++((RB.drop (kk+1)).take (x.bs.length-(kk+1))).flatten)=true:=by rw[nU,fF okTB,fF okDB];rfl
      sym =>
       simp[aH,aI,aU,Za,Zb,Zc,Ze,Zf,Zg,Zh,Zi,Zj,Zl,Zm,Zn,Zo,Zp,Zr,Zv,Zw,Zy,Z1,Z3,Z6,Z7,Z8,Z9,ZC,ZE,ZF,ZG,ZI,ZJ,ZK,ZL,ZM,ZN,ZO,ZS,ZT,ZV,ZY,ZZ,Ya,Ye,Yf,Yh,Yn,Yq,Ys,Yu,Yv,Y6,YB,YM,YR,YU,YX,Xe,Xh,Xi,Xk,Xn,Xp,Xr,Xy,XJ,XK,XQ,XW,XX,XY,Wo,Wq,Wu,Wv,Ww,Wx,Wy,Wz,W0,W3,W4,W5,W6,W7,WF,WI,WK,WP,WQ,Vd,Ve,Vf,Vh,Vm,Vo,Vp,Vq,Vr,Vs,Vt,Vv,Vw,Vx,Vz,V0,V1,V2,VJ,VO,VQ,VU,VV,VW,VX,VY,Ub,Uc,Uh,Uj,Ul,Um,Uo,Uu,Uv,Uw,Ux,Uy,Uz,U0,U1,U2,U3,U4,U5,U6,U7,UA,UB,UE,UF,UG,UL,UM,UN,UP,US,UU,UV,UX,UY,UZ,Ta,Tb,Tc,Td,Te,Tf,Tg,Th,Ti,Tj,Tl,Tm,Tp,Ts,Tz,T0,T5,T6,T8,T9,TD,TF,TI,Sl,Sm,Sn,Sp,Sq,S6,S7,S8,SA,SB,SC,v0,lB,z,q1,hry,kl,d1,allB,allTB,allDB,grTB,lTB,lDB,w1B,i1B,i2B,t1B,t2B,j0B,j1B,b1B,b2B,z1B,a1B,s1B,b3B,b4B,crB,s2B,grAB,g43b,p0,pn]
       tactic =>
        by_cases h99:n=99
        ·have r1:((n:Int)=99)=True:=eq_true (by omega)
         cases f1:x.fix.testBit y.1<;>cases f2:x.fix.testBit y.2<;>rw[f1]at e1<;>rw[f2]at e2<;>simp only[Bool.false_eq_true,if_false,if_true]at e1 e2<;>(sym=>(simp[aH,aI,aU,Za,Zb,Zf,Zh,Zl,Zm,Zp,Zq,Zr,Zt,Zv,Zy,Z3,Z7,Z8,ZF,ZN,ZO,ZS,ZT,ZU,ZV,ZZ,Yk,Yn,Yo,Yv,Y8,YB,YM,YT,Xo,Xz,XQ,XY,Wb,Ww,Wx,Wy,W5,W7,WF,WI,WJ,WK,WL,WM,WN,WP,WQ,Vd,Ve,Vf,Vm,Vq,V4,V5,V7,V8,V9,VA,VB,VE,VF,VG,VH,VV,VY,Ua,Ub,Uc,Uo,Ut,Uu,Ux,Uy,Uz,U0,UX,UY,Tc,Tl,Tm,Tn,Ts,Tz,T0,Sn,e1,e2,y1,y2,r1,dR];all_goals tactic=>exact rfl))
        ·have r1:((n:Int)=99)=False:=eq_false (by omega)
         cases f1:x.fix.testBit y.1
         ·have r2:((n:Int)-1≤(m3:Int))=True:=eq_true (by rcases hsz _ (.inl rfl) f1 with h|h<;>omega)
          cases f2:x.fix.testBit y.2<;>rw[f1]at e1<;>rw[f2]at e2<;>simp only[Bool.false_eq_true,if_false,if_true]at e1 e2<;>(sym=>(simp[aH,aI,aU,Za,Zb,Zf,Zh,Zl,Zm,Zp,Zq,Zr,Zt,Zv,Zy,Z3,Z4,ZN,ZO,ZS,ZT,ZU,ZV,ZW,Yi,Yk,Yo,Yt,Yv,YT,Xo,Xz,XQ,Wb,W5,WF,WI,WJ,WK,WL,WM,WN,WP,WQ,Vd,Ve,Vf,Vm,Vq,V4,V5,V7,V8,V9,VA,VB,VE,VF,VG,VH,VV,VY,Ua,Ub,Uc,Uk,Ut,Uu,Ux,Uy,Uz,U0,Tl,Tm,Tn,Ts,Tz,T0,Sn,e1,e2,y1,y2,r1,r2,un,dR];all_goals tactic=>exact rfl))
         ·cases f2:x.fix.testBit y.2
          ·have r2:((n:Int)-1≤(m3:Int))=True:=eq_true (by rcases hsz _ (.inr rfl) f2 with h|h<;>omega)
           rw[f1]at e1
           rw[f2]at e2
           simp only[Bool.false_eq_true,if_false,if_true]at e1 e2
           (sym=>(simp[aH,aI,aU,Za,Zb,Zf,Zh,Zl,Zm,Zp,Zq,Zr,Zv,Zy,Z3,Z4,Z7,Z8,ZF,ZN,ZO,ZS,ZT,ZU,ZV,ZW,ZZ,Yi,Yk,Yn,Yo,Yt,Yv,Y8,YB,YM,YT,Xo,Xz,XQ,XY,Wb,Ww,Wx,Wy,W5,W7,WF,WI,WJ,WK,WL,WM,WN,WP,WQ,Vd,Ve,Vf,Vm,Vq,V4,V5,V7,V8,V9,VA,VB,VE,VF,VG,VH,VV,VY,Ua,Ub,Uc,Uk,Uo,Ut,Uu,Ux,Uy,Uz,U0,UX,UY,Tc,Tl,Tm,Tn,Ts,Tz,T0,Sn,e1,e2,y1,y2,r1,r2,un,dR];all_goals tactic=>exact rfl))
          ·rw[f1]at e1
           rw[f2]at e2
           simp only[if_true]at e1 e2
           (sym=>(simp[aH,aI,aU,Za,Zb,Zf,Zh,Zl,Zm,Zp,Zq,Zr,Zt,Zv,Zy,Z3,Z4,Z7,Z8,ZF,ZN,ZO,ZS,ZT,ZU,ZV,ZW,ZZ,Yk,Yn,Yo,Yv,Y8,YB,YM,YT,Xo,Xz,XQ,XY,Wb,Ww,Wx,Wy,W5,W7,WF,WI,WJ,WK,WL,WM,WN,WP,WQ,Vd,Ve,Vf,Vm,Vq,V4,V5,V7,V8,V9,VA,VB,VE,VF,VG,VH,VV,VY,Ua,Ub,Uc,Ul,Uo,Uu,Ux,Uy,Uz,U0,UX,UY,Tc,Tl,Tm,Tn,Ts,Tz,T0,Sn,e1,e2,y1,y2,r1,dR];all_goals tactic=>exact rfl))
  ·have ck:((wh:Int)<(x.ps.length:Int))=False:=eq_false (by omega)
   rw[r12 (by simp)];unfold x12;dsimp only
   sym =>
    simp[aH,aI,aU,Za,Zb,Zc,Zd,Ze,Zf,Zg,Zh,Zi,Zj,Zl,Zm,Zo,Zp,Zq,Zr,Zv,Zw,Zy,Zz,Z3,Z6,Z7,Z8,ZE,ZF,ZG,ZI,ZJ,ZK,ZL,ZM,ZN,ZO,ZS,ZT,ZU,ZV,ZY,ZZ,Ya,Yk,Yo,Yq,Ys,Y6,Y8,YA,YD,YM,YR,YU,YX,Xe,Xg,Xh,Xk,Xn,Xp,Xr,Wa,Wc,We,Wm,Wo,Wv,Ww,Wx,Wy,Wz,W0,W3,W4,W5,W6,W7,WF,WI,WK,WP,WQ,Vd,Ve,Vf,Vh,Vi,Vq,Vs,Vt,Vv,Vw,Vy,VJ,VO,VQ,VT,VU,VV,VW,VX,VY,Ub,Uc,Uh,Uk,Ul,Um,Un,Uo,Ut,Uu,Uv,Uw,Ux,Uy,Uz,U0,U1,U2,U3,U8,U9,UA,UJ,UK,UX,UY,Tb,Tc,Td,Te,Tf,Tl,Tm,Tp,Ts,Tz,T0,Sm,S6,S7,S8,SA,SB,SC,e36,g43,g43o,n0,m0,mn,v0,v1,v2,v3,o1,o2,o3,c5,ck,lP]
    tactic =>
     rcases hB with hB|⟨kk,y,hk,hkk,hy,hry⟩
     ·have z:((x.bs.length:Int)=0)=True:=eq_true (by omega)
      (sym=>(simp[aH,aI,aU,Za,Zb,Zf,Zh,Zl,Zv,ZN,ZO,ZS,ZT,YT,Xo,Xz,Wb,W5,WF,WI,WJ,WK,WL,WM,WN,WP,WQ,Vd,Ve,Vf,Vq,V4,V5,V7,V8,V9,VA,VB,VE,VF,VG,VH,VP,VV,VY,Ua,Ub,Uc,Ut,Ux,Uy,Uz,U0,Tm,Tn,Ts,Tu,Tz,T0,Sn,lB,z,dR];all_goals tactic=>exact rfl))
     ·have z:((x.bs.length:Int)=0)=False:=eq_false (by omega)
      have q1:jT (wh:Int) (x.bs.length:Int)=(kk:Int):=by rw[hkk];exact aZ wh x.bs.length
      have hyb:=ok.b y (List.mem_of_getElem? hy)
      have kl:((kk:Int)<(x.bs.length:Int))=True:=eq_true (by omega)
      obtain⟨m3,hm3,g43b⟩:=nM (jL ok kk)
      have hm3n:=(nQ x kk).size (jL ok kk) ok hn1 hm3
      have hsz:=fun e he hfe=>nI ok hy (e:=e) he hfe hn1 hm3
      rw[show (vQ x kk).c=[I x.F,.fs (RB.eraseIdx kk),.fs RP,I x.sick,I x.nur,I x.fix] by rw[hRB,hRP,lU,lU];rfl]at g43b
      have p0:((m3:Int)<0)=False:=eq_false (by omega)
      have pn:((n:Int)<(m3:Int))=False:=eq_false (by omega)
      have y1:((y.1:Int)<0)=False:=eq_false (by omega)
      have y2:((y.2:Int)<0)=False:=eq_false (by omega)
      have e1:=pN cN (a:=x.fix) (i:=y.1) (by omega) (by omega)
      have e2:=pN cN (a:=x.fix) (i:=y.2) (by omega) (by omega)
      have un:IntKind.i64.wrap ((n:Int)-1)=(n:Int)-1:=aD (by omega) (by omega)
      have okTB:dW 2 (RB.take kk):=fun r hr=>okB r (List.mem_of_mem_take hr)
      have okDB:dW 2 ((RB.drop (kk+1)).take (x.bs.length-(kk+1))):=fun r hr=>okB r (List.mem_of_mem_drop (List.mem_of_mem_take hr))
      have allTB:=fD okTB
      have allDB:=fD okDB
      have grTB:=fF okTB
      have lTB:(RB.take kk).length=kk:=by rw[List.length_take];omega
      have lDB:((RB.drop (kk+1)).take (x.bs.length-(kk+1))).length=x.bs.length-(kk+1):=by simp;omega
      have fTB:(RB.take kk).flatten.length=kk*2:=by rw[(cH okTB).2.2.2,lTB]
      have fDB:((RB.drop (kk+1)).take (x.bs.length-(kk+1))).flatten.length=(x.bs.length-(kk+1))*2:=by rw[(cH okDB).2.2.2,lDB]
      have w1B:IntKind.i64.wrap ((kk:Int)+1)=((kk+1:Nat):Int):=by rw[aD (by omega) (by omega)];omega
      have i1B:((kk:Int)≤(x.bs.length:Int))=True:=eq_true (by omega)
      have i2B:(((kk+1:Nat):Int)≤(x.bs.length:Int))=True:=eq_true (by omega)
      have t1B:((kk:Int)).toNat=kk:=Int.toNat_natCast _
      have t2B:(((kk+1:Nat):Int)).toNat=kk+1:=Int.toNat_natCast _
      have j0B:((0:Int)≤(kk:Int))=True:=eq_true (by omega)
      have j1B:((0:Int)≤((kk+1:Nat):Int))=True:=eq_true (by omega)
      have b1B:(kk*16≤1099511627776)=True:=eq_true (by omega)
      have b2B:(kk≤1099511627776)=True:=eq_true (by omega)
      have z1B:0+kk=kk:=Nat.zero_add _
      have a1B:([]:List AV)++(RB.take kk).flatten=(RB.take kk).flatten:=rfl
      have s1B:(kk*2=(RB.take kk).flatten.length)=True:=eq_true (by rw[fTB])
      have b3B:((kk+(x.bs.length-(kk+1)))*16≤1099511627776)=True:=eq_true (by omega)
      have b4B:(kk+(x.bs.length-(kk+1))≤1099511627776)=True:=eq_true (by omega)
      have crB:=qX okB (k:=kk) (by omega)
      rw[lB]at crB
      have s2B:((kk+(x.bs.length-(kk+1)))*2≤(RB.take kk).flatten.length+((RB.drop (kk+1)).take (x.bs.length-(kk+1))).flatten.length)=True:=eq_true (by rw[fTB,fDB,←Nat.add_mul];exact Nat.le_refl _)
      have grAB:eG ((RB.take kk).flatten++((RB.drop (kk+1)).take (x.bs.length-(kk+1))).flatten)=true:=by rw[nU,fF okTB,fF okDB];rfl
      sym =>
       simp[aH,aI,aU,Za,Zb,Zc,Ze,Zf,Zg,Zh,Zi,Zj,Zl,Zm,Zn,Zo,Zp,Zr,Zv,Zw,Zy,Z1,Z3,Z6,Z7,Z8,Z9,ZC,ZE,ZF,ZG,ZI,ZJ,ZK,ZL,ZM,ZN,ZO,ZS,ZT,ZV,ZY,ZZ,Ya,Ye,Yf,Yh,Yn,Yq,Ys,Yu,Yv,Y6,YB,YM,YR,YU,YX,Xe,Xh,Xi,Xk,Xn,Xp,Xr,Xy,XJ,XK,XQ,XW,XX,XY,Wo,Wq,Wu,Wv,Ww,Wx,Wy,Wz,W0,W3,W4,W5,W6,W7,WF,WI,WK,WP,WQ,Vd,Ve,Vf,Vh,Vm,Vo,Vp,Vq,Vr,Vs,Vt,Vv,Vw,Vx,Vz,V0,V1,V2,VJ,VO,VQ,VU,VV,VW,VX,VY,Ub,Uc,Uh,Uj,Ul,Um,Uo,Uu,Uv,Uw,Ux,Uy,Uz,U0,U1,U2,U3,U4,U5,U6,U7,UA,UB,UE,UF,UG,UL,UM,UN,UP,US,UU,UV,UX,UY,UZ,Ta,Tb,Tc,Td,Te,Tf,Tg,Th,Ti,Tj,Tl,Tm,Tp,Ts,Tz,T0,T5,T6,T8,T9,TD,TF,TI,Sl,Sm,Sn,Sp,Sq,S6,S7,S8,SA,SB,SC,v0,lB,z,q1,hry,kl,d1,allB,allTB,allDB,grTB,lTB,lDB,w1B,i1B,i2B,t1B,t2B,j0B,j1B,b1B,b2B,z1B,a1B,s1B,b3B,b4B,crB,s2B,grAB,g43b,p0,pn]
       tactic =>
        by_cases h99:n=99
        ·have r1:((n:Int)=99)=True:=eq_true (by omega)
         cases f1:x.fix.testBit y.1<;>cases f2:x.fix.testBit y.2<;>rw[f1]at e1<;>rw[f2]at e2<;>simp only[Bool.false_eq_true,if_false,if_true]at e1 e2<;>(sym=>(simp[aH,aI,aU,Za,Zb,Zf,Zh,Zl,Zm,Zp,Zq,Zr,Zt,Zv,Zy,Z3,Z7,Z8,ZF,ZN,ZO,ZS,ZT,ZU,ZV,ZZ,Yk,Yn,Yo,Yv,Y8,YB,YM,YT,Xo,Xz,XQ,XY,Wb,Ww,Wx,Wy,W5,W7,WF,WI,WJ,WK,WL,WM,WN,WP,WQ,Vd,Ve,Vf,Vm,Vq,V4,V5,V7,V8,V9,VA,VB,VE,VF,VG,VH,VV,VY,Ua,Ub,Uc,Uo,Ut,Uu,Ux,Uy,Uz,U0,UX,UY,Tc,Tl,Tm,Tn,Ts,Tz,T0,Sn,e1,e2,y1,y2,r1,dR];all_goals tactic=>exact rfl))
        ·have r1:((n:Int)=99)=False:=eq_false (by omega)
         cases f1:x.fix.testBit y.1
         ·have r2:((n:Int)-1≤(m3:Int))=True:=eq_true (by rcases hsz _ (.inl rfl) f1 with h|h<;>omega)
          cases f2:x.fix.testBit y.2<;>rw[f1]at e1<;>rw[f2]at e2<;>simp only[Bool.false_eq_true,if_false,if_true]at e1 e2<;>(sym=>(simp[aH,aI,aU,Za,Zb,Zf,Zh,Zl,Zm,Zp,Zq,Zr,Zt,Zv,Zy,Z3,Z4,ZN,ZO,ZS,ZT,ZU,ZV,ZW,Yi,Yk,Yo,Yt,Yv,YT,Xo,Xz,XQ,Wb,W5,WF,WI,WJ,WK,WL,WM,WN,WP,WQ,Vd,Ve,Vf,Vm,Vq,V4,V5,V7,V8,V9,VA,VB,VE,VF,VG,VH,VV,VY,Ua,Ub,Uc,Uk,Ut,Uu,Ux,Uy,Uz,U0,Tl,Tm,Tn,Ts,Tz,T0,Sn,e1,e2,y1,y2,r1,r2,un,dR];all_goals tactic=>exact rfl))
         ·cases f2:x.fix.testBit y.2
          ·have r2:((n:Int)-1≤(m3:Int))=True:=eq_true (by rcases hsz _ (.inr rfl) f2 with h|h<;>omega)
           rw[f1]at e1
           rw[f2]at e2
           simp only[Bool.false_eq_true,if_false,if_true]at e1 e2
           (sym=>(simp[aH,aI,aU,Za,Zb,Zf,Zh,Zl,Zm,Zp,Zq,Zr,Zv,Zy,Z3,Z4,Z7,Z8,ZF,ZN,ZO,ZS,ZT,ZU,ZV,ZW,ZZ,Yi,Yk,Yn,Yo,Yt,Yv,Y8,YB,YM,YT,Xo,Xz,XQ,XY,Wb,Ww,Wx,Wy,W5,W7,WF,WI,WJ,WK,WL,WM,WN,WP,WQ,Vd,Ve,Vf,Vm,Vq,V4,V5,V7,V8,V9,VA,VB,VE,VF,VG,VH,VV,VY,Ua,Ub,Uc,Uk,Uo,Ut,Uu,Ux,Uy,Uz,U0,UX,UY,Tc,Tl,Tm,Tn,Ts,Tz,T0,Sn,e1,e2,y1,y2,r1,r2,un,dR];all_goals tactic=>exact rfl))
          ·rw[f1]at e1
           rw[f2]at e2
           simp only[if_true]at e1 e2
           (sym=>(simp[aH,aI,aU,Za,Zb,Zf,Zh,Zl,Zm,Zp,Zq,Zr,Zt,Zv,Zy,Z3,Z4,Z7,Z8,ZF,ZN,ZO,ZS,ZT,ZU,ZV,ZW,ZZ,Yk,Yn,Yo,Yv,Y8,YB,YM,YT,Xo,Xz,XQ,XY,Wb,Ww,Wx,Wy,W5,W7,WF,WI,WJ,WK,WL,WM,WN,WP,WQ,Vd,Ve,Vf,Vm,Vq,V4,V5,V7,V8,V9,VA,VB,VE,VF,VG,VH,VV,VY,Ua,Ub,Uc,Ul,Uo,Uu,Ux,Uy,Uz,U0,UX,UY,Tc,Tl,Tm,Tn,Ts,Tz,T0,Sn,e1,e2,y1,y2,r1,dR];all_goals tactic=>exact rfl))
 ·have c5:((wh:Int)<5)=False:=eq_false (by omega)
  rw[r12 (by simp)];unfold x12;dsimp only
  sym =>
   simp[aH,aI,aU,Za,Zb,Zc,Zd,Ze,Zf,Zg,Zh,Zi,Zj,Zl,Zm,Zo,Zp,Zr,Zs,Zv,Zw,Zy,Zz,Z3,Z6,Z7,Z8,ZE,ZF,ZG,ZI,ZJ,ZK,ZL,ZM,ZN,ZO,ZS,ZT,ZV,ZY,ZZ,Ya,Yk,Yo,Yq,Ys,Y6,Y8,YA,YD,YM,YR,YU,YX,Xe,Xg,Xh,Xk,Xn,Xp,Xr,Wa,Wc,We,Wm,Wo,Wv,Ww,Wx,Wy,Wz,W0,W3,W4,W5,W6,W7,WF,WI,WK,WP,WQ,Vd,Ve,Vf,Vh,Vi,Vq,Vs,Vt,Vv,Vw,Vy,VJ,VO,VQ,VT,VU,VV,VW,VX,VY,Ub,Uc,Uh,Uk,Ul,Um,Un,Uo,Uu,Uv,Uw,Ux,Uy,Uz,U0,U1,U2,U3,U8,U9,UA,UJ,UK,UX,UY,Tb,Tc,Td,Te,Tf,Tl,Tm,Tp,Ts,Tz,T0,Sm,S6,S7,S8,SA,SB,SC,e36,g43,g43o,n0,m0,mn,v0,v1,v2,v3,o1,o2,o3,c5]
   tactic =>
    rcases hB with hB|⟨kk,y,hk,hkk,hy,hry⟩
    ·have z:((x.bs.length:Int)=0)=True:=eq_true (by omega)
     (sym=>(simp[aH,aI,aU,Za,Zb,Zf,Zh,Zl,Zv,ZN,ZO,ZS,ZT,YT,Xo,Xz,Wb,W5,WF,WI,WJ,WK,WL,WM,WN,WP,WQ,Vd,Ve,Vf,Vq,V4,V5,V7,V8,V9,VA,VB,VE,VF,VG,VH,VP,VV,VY,Ua,Ub,Uc,Ut,Ux,Uy,Uz,U0,Tm,Tn,Ts,Tu,Tz,T0,Sn,lB,z,dR];all_goals tactic=>exact rfl))
    ·have z:((x.bs.length:Int)=0)=False:=eq_false (by omega)
     have q1:jT (wh:Int) (x.bs.length:Int)=(kk:Int):=by rw[hkk];exact aZ wh x.bs.length
     have hyb:=ok.b y (List.mem_of_getElem? hy)
     have kl:((kk:Int)<(x.bs.length:Int))=True:=eq_true (by omega)
     obtain⟨m3,hm3,g43b⟩:=nM (jL ok kk)
     have hm3n:=(nQ x kk).size (jL ok kk) ok hn1 hm3
     have hsz:=fun e he hfe=>nI ok hy (e:=e) he hfe hn1 hm3
     rw[show (vQ x kk).c=[I x.F,.fs (RB.eraseIdx kk),.fs RP,I x.sick,I x.nur,I x.fix] by rw[hRB,hRP,lU,lU];rfl]at g43b
     have p0:((m3:Int)<0)=False:=eq_false (by omega)
     have pn:((n:Int)<(m3:Int))=False:=eq_false (by omega)
     have y1:((y.1:Int)<0)=False:=eq_false (by omega)
     have y2:((y.2:Int)<0)=False:=eq_false (by omega)
     have e1:=pN cN (a:=x.fix) (i:=y.1) (by omega) (by omega)
     have e2:=pN cN (a:=x.fix) (i:=y.2) (by omega) (by omega)
     have un:IntKind.i64.wrap ((n:Int)-1)=(n:Int)-1:=aD (by omega) (by omega)
     have okTB:dW 2 (RB.take kk):=fun r hr=>okB r (List.mem_of_mem_take hr)
     have okDB:dW 2 ((RB.drop (kk+1)).take (x.bs.length-(kk+1))):=fun r hr=>okB r (List.mem_of_mem_drop (List.mem_of_mem_take hr))
     have allTB:=fD okTB
     have allDB:=fD okDB
     have grTB:=fF okTB
     have lTB:(RB.take kk).length=kk:=by rw[List.length_take];omega
     have lDB:((RB.drop (kk+1)).take (x.bs.length-(kk+1))).length=x.bs.length-(kk+1):=by simp;omega
     have fTB:(RB.take kk).flatten.length=kk*2:=by rw[(cH okTB).2.2.2,lTB]
     have fDB:((RB.drop (kk+1)).take (x.bs.length-(kk+1))).flatten.length=(x.bs.length-(kk+1))*2:=by rw[(cH okDB).2.2.2,lDB]
     have w1B:IntKind.i64.wrap ((kk:Int)+1)=((kk+1:Nat):Int):=by rw[aD (by omega) (by omega)];omega
     have i1B:((kk:Int)≤(x.bs.length:Int))=True:=eq_true (by omega)
     have i2B:(((kk+1:Nat):Int)≤(x.bs.length:Int))=True:=eq_true (by omega)
     have t1B:((kk:Int)).toNat=kk:=Int.toNat_natCast _
     have t2B:(((kk+1:Nat):Int)).toNat=kk+1:=Int.toNat_natCast _
     have j0B:((0:Int)≤(kk:Int))=True:=eq_true (by omega)
     have j1B:((0:Int)≤((kk+1:Nat):Int))=True:=eq_true (by omega)
     have b1B:(kk*16≤1099511627776)=True:=eq_true (by omega)
     have b2B:(kk≤1099511627776)=True:=eq_true (by omega)
     have z1B:0+kk=kk:=Nat.zero_add _
     have a1B:([]:List AV)++(RB.take kk).flatten=(RB.take kk).flatten:=rfl
     have s1B:(kk*2=(RB.take kk).flatten.length)=True:=eq_true (by rw[fTB])
     have b3B:((kk+(x.bs.length-(kk+1)))*16≤1099511627776)=True:=eq_true (by omega)
     have b4B:(kk+(x.bs.length-(kk+1))≤1099511627776)=True:=eq_true (by omega)
     have crB:=qX okB (k:=kk) (by omega)
     rw[lB]at crB
     have s2B:((kk+(x.bs.length-(kk+1)))*2≤(RB.take kk).flatten.length+((RB.drop (kk+1)).take (x.bs.length-(kk+1))).flatten.length)=True:=eq_true (by rw[fTB,fDB,←Nat.add_mul];exact Nat.le_refl _)
     have grAB:eG ((RB.take kk).flatten++((RB.drop (kk+1)).take (x.bs.length-(kk+1))).flatten)=true:=by rw[nU,fF okTB,fF okDB];rfl
     sym =>
      simp[aH,aI,aU,Za,Zb,Zc,Ze,Zf,Zg,Zh,Zi,Zj,Zl,Zm,Zn,Zo,Zp,Zr,Zv,Zw,Zy,Z1,Z3,Z6,Z7,Z8,Z9,ZC,ZE,ZF,ZG,ZI,ZJ,ZK,ZL,ZM,ZN,ZO,ZS,ZT,ZV,ZY,ZZ,Ya,Ye,Yf,Yh,Yn,Yq,Ys,Yu,Yv,Y6,YB,YM,YR,YU,YX,Xe,Xh,Xi,Xk,Xn,Xp,Xr,Xy,XJ,XK,XQ,XW,XX,XY,Wo,Wq,Wu,Wv,Ww,Wx,Wy,Wz,W0,W3,W4,W5,W6,W7,WF,WI,WK,WP,WQ,Vd,Ve,Vf,Vh,Vm,Vo,Vp,Vq,Vr,Vs,Vt,Vv,Vw,Vx,Vz,V0,V1,V2,VJ,VO,VQ,VU,VV,VW,VX,VY,Ub,Uc,Uh,Uj,Ul,Um,Uo,Uu,Uv,Uw,Ux,Uy,Uz,U0,U1,U2,U3,U4,U5,U6,U7,UA,UB,UE,UF,UG,UL,UM,UN,UP,US,UU,UV,UX,UY,UZ,Ta,Tb,Tc,Td,Te,Tf,Tg,Th,Ti,Tj,Tl,Tm,Tp,Ts,Tz,T0,T5,T6,T8,T9,TD,TF,TI,Sl,Sm,Sn,Sp,Sq,S6,S7,S8,SA,SB,SC,v0,lB,z,q1,hry,kl,d1,allB,allTB,allDB,grTB,lTB,lDB,w1B,i1B,i2B,t1B,t2B,j0B,j1B,b1B,b2B,z1B,a1B,s1B,b3B,b4B,crB,s2B,grAB,g43b,p0,pn]
      tactic =>
       by_cases h99:n=99
       ·have r1:((n:Int)=99)=True:=eq_true (by omega)
        cases f1:x.fix.testBit y.1<;>cases f2:x.fix.testBit y.2<;>rw[f1]at e1<;>rw[f2]at e2<;>simp only[Bool.false_eq_true,if_false,if_true]at e1 e2<;>(sym=>(simp[aH,aI,aU,Za,Zb,Zf,Zh,Zl,Zm,Zp,Zq,Zr,Zt,Zv,Zy,Z3,Z7,Z8,ZF,ZN,ZO,ZS,ZT,ZU,ZV,ZZ,Yk,Yn,Yo,Yv,Y8,YB,YM,YT,Xo,Xz,XQ,XY,Wb,Ww,Wx,Wy,W5,W7,WF,WI,WJ,WK,WL,WM,WN,WP,WQ,Vd,Ve,Vf,Vm,Vq,V4,V5,V7,V8,V9,VA,VB,VE,VF,VG,VH,VV,VY,Ua,Ub,Uc,Uo,Ut,Uu,Ux,Uy,Uz,U0,UX,UY,Tc,Tl,Tm,Tn,Ts,Tz,T0,Sn,e1,e2,y1,y2,r1,dR];all_goals tactic=>exact rfl))
       ·have r1:((n:Int)=99)=False:=eq_false (by omega)
        cases f1:x.fix.testBit y.1
        ·have r2:((n:Int)-1≤(m3:Int))=True:=eq_true (by rcases hsz _ (.inl rfl) f1 with h|h<;>omega)
         cases f2:x.fix.testBit y.2<;>rw[f1]at e1<;>rw[f2]at e2<;>simp only[Bool.false_eq_true,if_false,if_true]at e1 e2<;>(sym=>(simp[aH,aI,aU,Za,Zb,Zf,Zh,Zl,Zm,Zp,Zq,Zr,Zt,Zv,Zy,Z3,Z4,ZN,ZO,ZS,ZT,ZU,ZV,ZW,Yi,Yk,Yo,Yt,Yv,YT,Xo,Xz,XQ,Wb,W5,WF,WI,WJ,WK,WL,WM,WN,WP,WQ,Vd,Ve,Vf,Vm,Vq,V4,V5,V7,V8,V9,VA,VB,VE,VF,VG,VH,VV,VY,Ua,Ub,Uc,Uk,Ut,Uu,Ux,Uy,Uz,U0,Tl,Tm,Tn,Ts,Tz,T0,Sn,e1,e2,y1,y2,r1,r2,un,dR];all_goals tactic=>exact rfl))
        ·cases f2:x.fix.testBit y.2
         ·have r2:((n:Int)-1≤(m3:Int))=True:=eq_true (by rcases hsz _ (.inr rfl) f2 with h|h<;>omega)
          rw[f1]at e1
          rw[f2]at e2
          simp only[Bool.false_eq_true,if_false,if_true]at e1 e2
          (sym=>(simp[aH,aI,aU,Za,Zb,Zf,Zh,Zl,Zm,Zp,Zq,Zr,Zv,Zy,Z3,Z4,Z7,Z8,ZF,ZN,ZO,ZS,ZT,ZU,ZV,ZW,ZZ,Yi,Yk,Yn,Yo,Yt,Yv,Y8,YB,YM,YT,Xo,Xz,XQ,XY,Wb,Ww,Wx,Wy,W5,W7,WF,WI,WJ,WK,WL,WM,WN,WP,WQ,Vd,Ve,Vf,Vm,Vq,V4,V5,V7,V8,V9,VA,VB,VE,VF,VG,VH,VV,VY,Ua,Ub,Uc,Uk,Uo,Ut,Uu,Ux,Uy,Uz,U0,UX,UY,Tc,Tl,Tm,Tn,Ts,Tz,T0,Sn,e1,e2,y1,y2,r1,r2,un,dR];all_goals tactic=>exact rfl))
         ·rw[f1]at e1
          rw[f2]at e2
          simp only[if_true]at e1 e2
          (sym=>(simp[aH,aI,aU,Za,Zb,Zf,Zh,Zl,Zm,Zp,Zq,Zr,Zt,Zv,Zy,Z3,Z4,Z7,Z8,ZF,ZN,ZO,ZS,ZT,ZU,ZV,ZW,ZZ,Yk,Yn,Yo,Yv,Y8,YB,YM,YT,Xo,Xz,XQ,XY,Wb,Ww,Wx,Wy,W5,W7,WF,WI,WJ,WK,WL,WM,WN,WP,WQ,Vd,Ve,Vf,Vm,Vq,V4,V5,V7,V8,V9,VA,VB,VE,VF,VG,VH,VV,VY,Ua,Ub,Uc,Ul,Uo,Uu,Ux,Uy,Uz,U0,UX,UY,Tc,Tl,Tm,Tn,Ts,Tz,T0,Sn,e1,e2,y1,y2,r1,dR];all_goals tactic=>exact rfl))
end Go.Proofs.YtiabjdfdkiijmaaDoor
