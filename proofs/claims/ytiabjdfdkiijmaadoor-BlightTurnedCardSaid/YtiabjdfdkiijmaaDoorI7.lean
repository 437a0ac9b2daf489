/- Parts of a proof, joined: K85 K86 K87 K88 K89 K90 K91 K92 K93 K94 K95 K96 K97 K98 K99. No statement of the seed is proved here. -/
import Derived.Test.YtiabjdfdkiijmaaDoorI6
set_option linter.unusedSimpArgs false
set_option linter.unusedVariables false
set_option linter.unusedSectionVars false
namespace Go.Proofs.YtiabjdfdkiijmaaDoor
open Go Go.DL
set_option maxRecDepth 100000
set_option maxHeartbeats 4000000
theorem w36 {l:La} (ok:l.Ok):runW aA 36 [.agg l.c] []=some (.agg l.md.c,[]):=by
 have hk:=l.k_lt
 have v0:=wr8 ok.F
 have v1:=wr8 ok.s
 have v2:=wr8 ok.n
 have v3:=wr8 ok.f
 have q0:jT (l.F:Int) 7=((l.F%7:Nat):Int):=bD l.F 7
 have q1:IntKind.i64.wrap (2+((l.F%7:Nat):Int))=(l.k:Int):=by unfold La.k;rw[aD (by omega) (by omega)];omega
 have n0:((l.k:Int)<0)=False:=eq_false (by omega)
 have e:=yR dB (i:=l.k) (by omega)
 have pz:(((2^l.k:Nat):Int)=0)=False:=eq_false (by have:=Nat.two_pow_pos l.k;omega)
 have q2:=bD l.s (2^l.k)
 have q3:=bD l.n (2^l.k)
 have q4:=bD l.f (2^l.k)
 have rda:=fun j (h1:j<l.bs.length) (h2:j<12)=>aES ok (S:=(l.s%2^l.k:Nat)) (N:=(l.n%2^l.k:Nat)) (X:=(l.f%2^l.k:Nat)) h1 h2
 obtain⟨mb,hmb⟩:∃ m,m=min 12 l.bs.length:=⟨_,rfl⟩
 obtain⟨mp,hmp⟩:∃ m,m=min 5 l.ps.length:=⟨_,rfl⟩
 have rdb:=fun j (h1:j<l.ps.length) (h2:j<5)=>aER ok (S:=(l.s%2^l.k:Nat)) (N:=(l.n%2^l.k:Nat)) (X:=(l.f%2^l.k:Nat)) (wI l mb) h1 h2
 have B0:wI l 0=[]:=rfl
 have P0:rI l 0=[]:=rfl
 have hB:wI l mb=(l.md.bs).map bI:=by
  show _=List.map bI ((l.bs.take 12).map (toB l.k))
  rw[wI,hmb,show l.bs.take (min 12 l.bs.length)=l.bs.take 12 by rw[←List.take_take,List.take_length]]
 have hP:rI l mp=(l.md.ps).map pI:=by
  show _=List.map pI ((l.ps.take 5).map (toP l.k))
  rw[rI,hmp,show l.ps.take (min 5 l.ps.length)=l.ps.take 5 by rw[←List.take_take,List.take_length]]
 have hres:(AV.agg l.md.c) = .agg [I l.k,.fs ((wI l mb).map qR),.fs ((rI l mp).map pR),I (l.s%2^l.k:Nat),I (l.n%2^l.k:Nat),I (l.f%2^l.k:Nat)]:=by rw[hB,hP];rfl
 have zb:(mb<l.bs.length∧mb<12)∨True:=.inr trivial
 have cb:=aIz (wI l mb)
 have cp:=aIA (rI l mp)
 have lb:=zV (wI l mb)
 have lp:=zW (rI l mp)
 have stb:((mb:Int)<(l.bs.length:Int))=False∨((mb:Int)<(l.bs.length:Int))=True∧((mb:Int)<12)=False:=by
  by_cases h:mb<l.bs.length
  ·exact .inr ⟨eq_true (by omega),eq_false (by omega)⟩
  ·exact .inl (eq_false (by omega))
 have stp:((mp:Int)<(l.ps.length:Int))=False∨((mp:Int)<(l.ps.length:Int))=True∧((mp:Int)<5)=False:=by
  by_cases h:mp<l.ps.length
  ·exact .inr ⟨eq_true (by omega),eq_false (by omega)⟩
  ·exact .inl (eq_false (by omega))
 rw[hres]
 clear hres hB hP
 have rda:∀ j,j<mb→_:=fun j hj=>rda j (by omega) (by omega)
 have rdb:∀ j,j<mp→_:=fun j hj=>rdb j (by omega) (by omega)
 generalize hS:l.s%2^l.k=S at *
 generalize hN:l.n%2^l.k=N at *
 generalize hX:l.f%2^l.k=X at *
 generalize 2^l.k=p2 at *
 generalize l.F%7=r7 at *
 generalize hBB:wI l mb=BB at *
 generalize hPP:rI l mp=PP at *
 have stb':=stb
 have stp':=stp
 rw[r36 (by simp)];unfold x36;dsimp only
 sym =>
  simp[aO,aP,bJ,aN,aM,Za,Zb,Zc,Zd,Ze,Zf,Zh,Zi,Zl,Zm,Zo,Zv,Zw,Zz,Z0,Z3,Z6,Z7,ZF,ZG,ZI,ZJ,ZL,ZM,ZY,ZZ,Yh,Ym,Yv,YO,Xe,Xg,Xh,Xk,Wa,Wc,We,Wm,Wo,Wu,Wv,Ww,Wx,Wy,Wz,W3,W4,W5,W6,Vg,VI,VS,VT,VU,VV,VW,VX,Ua,Ub,Ug,Uk,Ul,Un,Ut,Uu,Uv,U1,U2,U7,U8,U9,UA,UB,UC,UI,UJ,UV,UW,Ta,Tb,Tc,Td,Ti,Tj,Tn,Tp,Tw,Tx,Se,v0,v1,v2,v3,q0,q1,n0,e,pz,q2,q3,q4]
  tactic =>
   unfold aCt
   rw[aF mb (fun j=>[.pt 0 0,.pt 1 0,I l.k,.pt 2 0,I (j:Nat)]) (fun j=>gLa l S N X (wI l j) []++wP (wI l j) [])]
   ·rw[hBB]
    rcases stb with sb|⟨sb,sb2⟩
    ·rcases BB with _|⟨b,q⟩
     ·sym =>
      simp[aO,aP,bJ,aN,aM,Za,Zb,Zf,Zh,Zl,Zm,Zp,Zs,Zv,Zy,Z3,Z7,ZE,ZF,ZV,ZZ,Ya,Yq,Wv,Ww,Wx,W6,VK,VN,VP,VU,VX,Uc,Ut,UV,UW,Ta,Ti,Tj,Tm,Tn,Tp,Tq,Tu,Tw,Tx,sb]
      tactic =>
       unfold tY
       rw[aF mp (fun j=>[.pt 0 0,.pt 1 0,I l.k,.pt 2 0,I (j:Nat)]) (fun j=>gLa l S N X [] (rI l j)++wP [] (rI l j))]
       ·rw[hPP]
        rcases stp with sp|⟨sp,sp2⟩
        ·rcases PP with _|⟨p,r⟩
         ·(sym=>(simp[aO,aP,bJ,aN,aM,Za,Zb,Zc,Zf,Zh,Zl,Zm,Zp,Zs,Zv,Zy,Z3,Z7,ZE,ZF,ZJ,ZK,ZV,ZZ,Ya,Yq,YR,YU,YX,Xe,Xk,Xn,Xp,Xr,Xy,X0,XM,Wa,Wc,Wh,Wo,Wv,Ww,Wx,Wy,Wz,W0,W3,W4,W6,WE,WI,WK,WL,WM,Vp,V3,V4,V6,V7,V8,V9,VA,VD,VE,VF,VH,VK,VN,VP,VU,VW,VX,VZ,Ua,Ub,Uc,Ug,Un,Ut,Ux,Uy,Uz,U0,U1,U2,U3,U4,U7,U8,U9,UV,UW,UZ,Ta,Tb,Tc,Ti,Tj,Tk,Tm,Tp,Tq,Tu,Tw,Tx,Sf,sp];all_goals tactic=>exact rfl))
         ·have cp:bT (cP (p::r)) 0 3 (r.length+1)=(p::r).map pR:=cp
          have c3:((r.length+1)*3≤(cP (p::r)).length)=True:=eq_true (by rw[lp];simp)
          (sym=>(simp[aO,aP,bJ,aN,aM,Za,Zb,Zc,Zf,Zh,Zl,Zm,Zp,Zs,Zv,Zy,Z3,Z7,ZE,ZF,ZJ,ZK,ZV,ZZ,Ya,Yq,YR,YU,YX,Xe,Xh,Xi,Xk,Xn,Xp,Xr,Xy,X0,XK,XM,XQ,XU,XX,XZ,Wa,Wc,We,Wh,Wo,Wv,Ww,Wx,Wy,Wz,W0,W3,W4,W6,WE,WI,WK,WL,WM,Vl,Vm,Vo,Vp,Vq,Vz,V0,V1,V3,V4,V6,V7,V8,V9,VA,VD,VE,VF,VH,VK,VN,VP,VT,VU,VV,VW,VX,VZ,Ua,Ub,Uc,Ug,Ui,Un,Ut,Ux,Uy,Uz,U0,U1,U2,U3,U4,U5,U6,U7,U8,U9,UV,UW,UZ,Ta,Tb,Tc,Ti,Tj,Tk,Tm,Tp,Tq,Tu,Tw,Tx,T9,Sf,Sg,Si,sp,cp,c3];all_goals tactic=>exact rfl))
        ·rcases PP with _|⟨p,r⟩
         ·(sym=>(simp[aO,aP,bJ,aN,aM,Za,Zb,Zc,Zf,Zh,Zl,Zm,Zp,Zq,Zv,Zy,Z3,Z7,ZE,ZF,ZJ,ZK,ZU,ZZ,Ya,Yq,YR,YU,YX,Xe,Xk,Xn,Xp,Xr,Xy,X0,XM,Wa,Wc,Wh,Wo,Wv,Ww,Wx,Wy,Wz,W0,W3,W4,W6,WE,WI,WK,WL,WM,Vp,V3,V4,V6,V7,V8,V9,VA,VD,VE,VF,VH,VK,VN,VP,VU,VW,VX,VZ,Ua,Ub,Uc,Ug,Un,Us,Ut,Ux,Uy,Uz,U0,U1,U2,U3,U4,U7,U8,U9,UV,UW,UZ,Ta,Tb,Tc,Ti,Tj,Tk,Tm,Tp,Tq,Tu,Tw,Tx,Sf,sp,sp2];all_goals tactic=>exact rfl))
         ·have cp:bT (cP (p::r)) 0 3 (r.length+1)=(p::r).map pR:=cp
          have c3:((r.length+1)*3≤(cP (p::r)).length)=True:=eq_true (by rw[lp];simp)
          (sym=>(simp[aO,aP,bJ,aN,aM,Za,Zb,Zc,Zf,Zh,Zl,Zm,Zp,Zq,Zv,Zy,Z3,Z7,ZE,ZF,ZJ,ZK,ZU,ZZ,Ya,Yq,YR,YU,YX,Xe,Xh,Xi,Xk,Xn,Xp,Xr,Xy,X0,XK,XM,XQ,XU,XX,XZ,Wa,Wc,We,Wh,Wo,Wv,Ww,Wx,Wy,Wz,W0,W3,W4,W6,WE,WI,WK,WL,WM,Vl,Vm,Vo,Vp,Vq,Vz,V0,V1,V3,V4,V6,V7,V8,V9,VA,VD,VE,VF,VH,VK,VN,VP,VT,VU,VV,VW,VX,VZ,Ua,Ub,Uc,Ug,Ui,Un,Us,Ut,Ux,Uy,Uz,U0,U1,U2,U3,U4,U5,U6,U7,U8,U9,UV,UW,UZ,Ta,Tb,Tc,Ti,Tj,Tk,Tm,Tp,Tq,Tu,Tw,Tx,T9,Sf,Sg,Si,sp,sp2,cp,c3];all_goals tactic=>exact rfl))
       ·rw[P0]; (sym=>(simp[aO,aP,bJ,aN,aM,Za,Y7,YR,YZ,Xn,Xt,Wv,W7,W8,WA,WB,WE,WF,WG,WI,WK,WL,WM,WN,WS,WT,WY,VK,VL,VM,VT,VU,VV,VW,VX,VZ,Ue,Ur,Ux,Uy,Uz,U0,Tv,TA];all_goals tactic=>exact rfl))
       ·exact rdb
       ·rw[hPP]
        rcases stp with sp|⟨sp,sp2⟩
        ·rcases PP with _|⟨p,r⟩
         ·(sym=>(simp[aO,aP,bJ,aN,aM,Za,Zb,Zf,Zh,Zl,Zm,Zp,Zs,Zv,Zy,Z3,Z7,ZE,ZF,ZV,ZZ,Ya,Yq,Wv,Ww,Wx,W6,VK,VN,VP,VQ,VX,Uc,Ut,UV,UW,Ta,Ti,Tj,Tm,Tp,Tq,Tw,Tx,sp];all_goals tactic=>exact rfl))
         ·(sym=>(simp[aO,aP,bJ,aN,aM,Za,Zb,Zf,Zh,Zl,Zm,Zp,Zs,Zv,Zy,Z3,Z7,ZE,ZF,ZV,ZZ,Ya,Yq,Wv,Ww,Wx,W6,VK,VN,VP,VQ,VV,VW,Uc,Ut,UV,UW,Ta,Ti,Tj,Tm,Tp,Tq,Tw,Tx,sp];all_goals tactic=>exact rfl))
        ·rcases PP with _|⟨p,r⟩
         ·(sym=>(simp[aO,aP,bJ,aN,aM,Za,Zb,Zf,Zh,Zl,Zm,Zp,Zq,Zv,Zy,Z3,Z7,ZE,ZF,ZU,ZZ,Ya,Yq,Wv,Ww,Wx,W6,VK,VN,VP,VQ,VX,Uc,Us,Ut,UV,UW,Ta,Ti,Tj,Tm,Tp,Tq,Tw,Tx,sp,sp2];all_goals tactic=>exact rfl))
         ·(sym=>(simp[aO,aP,bJ,aN,aM,Za,Zb,Zf,Zh,Zl,Zm,Zp,Zq,Zv,Zy,Z3,Z7,ZE,ZF,ZU,ZZ,Ya,Yq,Wv,Ww,Wx,W6,VK,VN,VP,VQ,VV,VW,Uc,Us,Ut,UV,UW,Ta,Ti,Tj,Tm,Tp,Tq,Tw,Tx,sp,sp2];all_goals tactic=>exact rfl))
     ·have cb:bT (cQ (b::q)) 0 2 (q.length+1)=(b::q).map qR:=cb
      have b3:((q.length+1)*2≤(cQ (b::q)).length)=True:=eq_true (by rw[lb];simp)
      sym =>
       simp[aO,aP,bJ,aN,aM,Za,Zb,Zf,Zh,Zl,Zm,Zp,Zs,Zv,Zy,Z3,Z7,ZE,ZF,ZV,ZZ,Ya,Yq,Wv,Ww,Wx,W6,VK,VN,VP,VT,VV,VW,Uc,Ut,UV,UW,Ta,Ti,Tj,Tm,Tn,Tp,Tq,Tu,Tw,Tx,sb]
       tactic =>
        unfold tY
        rw[aF mp (fun j=>[.pt 0 0,.pt 1 0,I l.k,.pt 2 0,I (j:Nat)]) (fun j=>gLa l S N X (b::q) (rI l j)++wP (b::q) (rI l j))]
        ·rw[hPP]
         rcases stp with sp|⟨sp,sp2⟩
         ·rcases PP with _|⟨p,r⟩
          ·(sym=>(simp[aO,aP,bJ,aN,aM,Za,Zb,Zc,Zf,Zh,Zl,Zm,Zp,Zs,Zv,Zy,Z3,Z7,ZE,ZF,ZJ,ZK,ZV,ZZ,Ya,Yq,YR,YU,YX,Xe,Xh,Xi,Xk,Xn,Xp,Xr,Xy,X0,XK,XM,XQ,XU,XX,XZ,Wa,Wc,We,Wh,Wo,Wv,Ww,Wx,Wy,Wz,W0,W3,W4,W6,WE,WI,WK,WL,WM,Vl,Vm,Vo,Vp,Vq,Vz,V0,V1,V3,V4,V6,V7,V8,V9,VA,VD,VE,VF,VH,VK,VN,VP,VT,VU,VV,VW,VX,VZ,Ua,Ub,Uc,Ug,Ui,Un,Ut,Ux,Uy,Uz,U0,U1,U2,U3,U4,U5,U6,U7,U8,U9,UV,UW,UZ,Ta,Tb,Tc,Ti,Tj,Tk,Tm,Tp,Tq,Tu,Tw,Tx,T9,Sf,Sg,Si,sp,cb,b3];all_goals tactic=>exact rfl))
          ·have cp:bT (cP (p::r)) 0 3 (r.length+1)=(p::r).map pR:=cp
           have c3:((r.length+1)*3≤(cP (p::r)).length)=True:=eq_true (by rw[lp];simp)
           (sym=>(simp[aO,aP,bJ,aN,aM,Za,Zb,Zc,Zf,Zh,Zl,Zm,Zp,Zs,Zv,Zy,Z3,Z7,ZE,ZF,ZJ,ZK,ZV,ZZ,Ya,Yq,YR,YU,YX,Xe,Xh,Xi,Xn,Xp,Xr,Xy,X0,XK,XQ,XU,XW,XX,Wa,Wc,We,Wo,Wv,Ww,Wx,Wy,Wz,W0,W3,W4,W6,WE,WI,WK,WL,WM,Vl,Vm,Vo,Vp,Vq,Vy,Vz,V0,V1,V3,V4,V6,V7,V8,V9,VA,VD,VE,VF,VH,VK,VN,VP,VT,VU,VV,VW,VX,VZ,Ua,Ub,Uc,Ug,Ui,Un,Uo,Ut,Ux,Uy,Uz,U0,U1,U2,U3,U4,U5,U6,U7,U8,U9,UV,UW,UZ,Ta,Tb,Tc,Ti,Tj,Tk,Tm,Tp,Tq,Tu,Tw,Tx,T9,Sf,Sg,Si,sp,cp,c3,cb,b3];all_goals tactic=>exact rfl))
         ·rcases PP with _|⟨p,r⟩
          ·(sym=>(simp[aO,aP,bJ,aN,aM,Za,Zb,Zc,Zf,Zh,Zl,Zm,Zp,Zq,Zv,Zy,Z3,Z7,ZE,ZF,ZJ,ZK,ZU,ZZ,Ya,Yq,YR,YU,YX,Xe,Xh,Xi,Xk,Xn,Xp,Xr,Xy,X0,XK,XM,XQ,XU,XX,XZ,Wa,Wc,We,Wh,Wo,Wv,Ww,Wx,Wy,Wz,W0,W3,W4,W6,WE,WI,WK,WL,WM,Vl,Vm,Vo,Vp,Vq,Vz,V0,V1,V3,V4,V6,V7,V8,V9,VA,VD,VE,VF,VH,VK,VN,VP,VT,VU,VV,VW,VX,VZ,Ua,Ub,Uc,Ug,Ui,Un,Us,Ut,Ux,Uy,Uz,U0,U1,U2,U3,U4,U5,U6,U7,U8,U9,UV,UW,UZ,Ta,Tb,Tc,Ti,Tj,Tk,Tm,Tp,Tq,Tu,Tw,Tx,T9,Sf,Sg,Si,sp,sp2,cb,b3];all_goals tactic=>exact rfl))
          ·have cp:bT (cP (p::r)) 0 3 (r.length+1)=(p::r).map pR:=cp
           have c3:((r.length+1)*3≤(cP (p::r)).length)=True:=eq_true (by rw[lp];simp)
           (sym=>(simp[aO,aP,bJ,aN,aM,Za,Zb,Zc,Zf,Zh,Zl,Zm,Zp,Zq,Zv,Zy,Z3,Z7,ZE,ZF,ZJ,ZK,ZU,ZZ,Ya,Yq,YR,YU,YX,Xe,Xh,Xi,Xn,Xp,Xr,Xy,X0,XK,XQ,XU,XW,XX,Wa,Wc,We,Wo,Wv,Ww,Wx,Wy,Wz,W0,W3,W4,W6,WE,WI,WK,WL,WM,Vl,Vm,Vo,Vp,Vq,Vy,Vz,V0,V1,V3,V4,V6,V7,V8,V9,VA,VD,VE,VF,VH,VK,VN,VP,VT,VU,VV,VW,VX,VZ,Ua,Ub,Uc,Ug,Ui,Un,Uo,Us,Ut,Ux,Uy,Uz,U0,U1,U2,U3,U4,U5,U6,U7,U8,U9,UV,UW,UZ,Ta,Tb,Tc,Ti,Tj,Tk,Tm,Tp,Tq,Tu,Tw,Tx,T9,Sf,Sg,Si,sp,sp2,cp,c3,cb,b3];all_goals tactic=>exact rfl))
        ·rw[P0]; (sym=>(simp[aO,aP,bJ,aN,aM,Za,Y7,YR,YY,YZ,Xa,Xn,Xs,Xt,Xu,Wv,W7,W8,WA,WB,WE,WF,WG,WI,WK,WL,WM,WN,WS,WT,WU,WY,WZ,VK,VL,VM,VT,VU,VV,VW,VX,VZ,Ue,Ur,Ux,Uy,Uz,U0,Tv,TA];all_goals tactic=>exact rfl))
        ·exact rdb
        ·rw[hPP]
         rcases stp with sp|⟨sp,sp2⟩
         ·rcases PP with _|⟨p,r⟩
          ·(sym=>(simp[aO,aP,bJ,aN,aM,Za,Zb,Zf,Zh,Zl,Zm,Zp,Zs,Zv,Zy,Z3,Z7,ZE,ZF,ZV,ZZ,Ya,Yq,Wv,Ww,Wx,W6,VK,VN,VP,VQ,VV,VW,Uc,Ut,UV,UW,Ta,Ti,Tj,Tm,Tp,Tq,Tw,Tx,sp];all_goals tactic=>exact rfl))
          ·(sym=>(simp[aO,aP,bJ,aN,aM,Za,Zb,Zf,Zh,Zl,Zm,Zp,Zs,Zv,Zy,Z3,Z7,ZE,ZF,ZV,ZZ,Ya,Yq,Wv,Ww,Wx,W6,VK,VN,VP,VQ,VV,VW,Uc,Ut,UV,UW,Ta,Ti,Tj,Tm,Tp,Tq,Tw,Tx,sp];all_goals tactic=>exact rfl))
         ·rcases PP with _|⟨p,r⟩
          ·(sym=>(simp[aO,aP,bJ,aN,aM,Za,Zb,Zf,Zh,Zl,Zm,Zp,Zq,Zv,Zy,Z3,Z7,ZE,ZF,ZU,ZZ,Ya,Yq,Wv,Ww,Wx,W6,VK,VN,VP,VQ,VV,VW,Uc,Us,Ut,UV,UW,Ta,Ti,Tj,Tm,Tp,Tq,Tw,Tx,sp,sp2];all_goals tactic=>exact rfl))
          ·(sym=>(simp[aO,aP,bJ,aN,aM,Za,Zb,Zf,Zh,Zl,Zm,Zp,Zq,Zv,Zy,Z3,Z7,ZE,ZF,ZU,ZZ,Ya,Yq,Wv,Ww,Wx,W6,VK,VN,VP,VQ,VV,VW,Uc,Us,Ut,UV,UW,Ta,Ti,Tj,Tm,Tp,Tq,Tw,Tx,sp,sp2];all_goals tactic=>exact rfl))
    ·rcases BB with _|⟨b,q⟩
     ·sym =>
      simp[aO,aP,bJ,aN,aM,Za,Zb,Zf,Zh,Zl,Zm,Zp,Zq,Zv,Zy,Z3,Z7,ZE,ZF,ZU,ZZ,Ya,Yq,Wv,Ww,Wx,W6,VK,VN,VP,VU,VX,Uc,Us,Ut,UV,UW,Ta,Ti,Tj,Tm,Tn,Tp,Tq,Tu,Tw,Tx,sb,sb2]
      tactic =>
       unfold tY
       rw[aF mp (fun j=>[.pt 0 0,.pt 1 0,I l.k,.pt 2 0,I (j:Nat)]) (fun j=>gLa l S N X [] (rI l j)++wP [] (rI l j))]
       ·rw[hPP]
        rcases stp with sp|⟨sp,sp2⟩
        ·rcases PP with _|⟨p,r⟩
         ·(sym=>(simp[aO,aP,bJ,aN,aM,Za,Zb,Zc,Zf,Zh,Zl,Zm,Zp,Zs,Zv,Zy,Z3,Z7,ZE,ZF,ZJ,ZK,ZV,ZZ,Ya,Yq,YR,YU,YX,Xe,Xk,Xn,Xp,Xr,Xy,X0,XM,Wa,Wc,Wh,Wo,Wv,Ww,Wx,Wy,Wz,W0,W3,W4,W6,WE,WI,WK,WL,WM,Vp,V3,V4,V6,V7,V8,V9,VA,VD,VE,VF,VH,VK,VN,VP,VU,VW,VX,VZ,Ua,Ub,Uc,Ug,Un,Ut,Ux,Uy,Uz,U0,U1,U2,U3,U4,U7,U8,U9,UV,UW,UZ,Ta,Tb,Tc,Ti,Tj,Tk,Tm,Tp,Tq,Tu,Tw,Tx,Sf,sp];all_goals tactic=>exact rfl))
         ·have cp:bT (cP (p::r)) 0 3 (r.length+1)=(p::r).map pR:=cp
          have c3:((r.length+1)*3≤(cP (p::r)).length)=True:=eq_true (by rw[lp];simp)
          (sym=>(simp[aO,aP,bJ,aN,aM,Za,Zb,Zc,Zf,Zh,Zl,Zm,Zp,Zs,Zv,Zy,Z3,Z7,ZE,ZF,ZJ,ZK,ZV,ZZ,Ya,Yq,YR,YU,YX,Xe,Xh,Xi,Xk,Xn,Xp,Xr,Xy,X0,XK,XM,XQ,XU,XX,XZ,Wa,Wc,We,Wh,Wo,Wv,Ww,Wx,Wy,Wz,W0,W3,W4,W6,WE,WI,WK,WL,WM,Vl,Vm,Vo,Vp,Vq,Vz,V0,V1,V3,V4,V6,V7,V8,V9,VA,VD,VE,VF,VH,VK,VN,VP,VT,VU,VV,VW,VX,VZ,Ua,Ub,Uc,Ug,Ui,Un,Ut,Ux,Uy,Uz,U0,U1,U2,U3,U4,U5,U6,U7,U8,U9,UV,UW,UZ,Ta,Tb,Tc,Ti,Tj,Tk,Tm,Tp,Tq,Tu,Tw,Tx,T9,Sf,Sg,Si,sp,cp,c3];all_goals tactic=>exact rfl))
        ·rcases PP with _|⟨p,r⟩
         ·(sym=>(simp[aO,aP,bJ,aN,aM,Za,Zb,Zc,Zf,Zh,Zl,Zm,Zp,Zq,Zv,Zy,Z3,Z7,ZE,ZF,ZJ,ZK,ZU,ZZ,Ya,Yq,YR,YU,YX,Xe,Xk,Xn,Xp,Xr,Xy,X0,XM,Wa,Wc,Wh,Wo,Wv,Ww,Wx,Wy,Wz,W0,W3,W4,W6,WE,WI,WK,WL,WM,Vp,V3,V4,V6,V7,V8,V9,VA,VD,VE,VF,VH,VK,VN,VP,VU,VW,VX,VZ,Ua,Ub,Uc,Ug,Un,Us,Ut,Ux,Uy,Uz,U0,U1,U2,U3,U4,U7,U8,U9,UV,UW,UZ,Ta,Tb,Tc,Ti,Tj,Tk,Tm,Tp,Tq,Tu,Tw,Tx,Sf,sp,sp2];all_goals tactic=>exact rfl))
         ·have cp:bT (cP (p::r)) 0 3 (r.length+1)=(p::r).map pR:=cp
          have c3:((r.length+1)*3≤(cP (p::r)).length)=True:=eq_true (by rw[lp];simp)
          (sym=>(simp[aO,aP,bJ,aN,aM,Za,Zb,Zc,Zf,Zh,Zl,Zm,Zp,Zq,Zv,Zy,Z3,Z7,ZE,ZF,ZJ,ZK,ZU,ZZ,Ya,Yq,YR,YU,YX,Xe,Xh,Xi,Xk,Xn,Xp,Xr,Xy,X0,XK,XM,XQ,XU,XX,XZ,Wa,Wc,We,Wh,Wo,Wv,Ww,Wx,Wy,Wz,W0,W3,W4,W6,WE,WI,WK,WL,WM,Vl,Vm,Vo,Vp,Vq,Vz,V0,V1,V3,V4,V6,V7,V8,V9,VA,VD,VE,VF,VH,VK,VN,VP,VT,VU,VV,VW,VX,VZ,Ua,Ub,Uc,Ug,Ui,Un,Us,Ut,Ux,Uy,Uz,U0,U1,U2,U3,U4,U5,U6,U7,U8,U9,UV,UW,UZ,Ta,Tb,Tc,Ti,Tj,Tk,Tm,Tp,Tq,Tu,Tw,Tx,T9,Sf,Sg,Si,sp,sp2,cp,c3];all_goals tactic=>exact rfl))
       ·rw[P0]; (sym=>(simp[aO,aP,bJ,aN,aM,Za,Y7,YR,YZ,Xn,Xt,Wv,W7,W8,WA,WB,WE,WF,WG,WI,WK,WL,WM,WN,WS,WT,WY,VK,VL,VM,VT,VU,VV,VW,VX,VZ,Ue,Ur,Ux,Uy,Uz,U0,Tv,TA];all_goals tactic=>exact rfl))
       ·exact rdb
       ·rw[hPP]
        rcases stp with sp|⟨sp,sp2⟩
        ·rcases PP with _|⟨p,r⟩
         ·(sym=>(simp[aO,aP,bJ,aN,aM,Za,Zb,Zf,Zh,Zl,Zm,Zp,Zs,Zv,Zy,Z3,Z7,ZE,ZF,ZV,ZZ,Ya,Yq,Wv,Ww,Wx,W6,VK,VN,VP,VQ,VX,Uc,Ut,UV,UW,Ta,Ti,Tj,Tm,Tp,Tq,Tw,Tx,sp];all_goals tactic=>exact rfl))
         ·(sym=>(simp[aO,aP,bJ,aN,aM,Za,Zb,Zf,Zh,Zl,Zm,Zp,Zs,Zv,Zy,Z3,Z7,ZE,ZF,ZV,ZZ,Ya,Yq,Wv,Ww,Wx,W6,VK,VN,VP,VQ,VV,VW,Uc,Ut,UV,UW,Ta,Ti,Tj,Tm,Tp,Tq,Tw,Tx,sp];all_goals tactic=>exact rfl))
        ·rcases PP with _|⟨p,r⟩
         ·(sym=>(simp[aO,aP,bJ,aN,aM,Za,Zb,Zf,Zh,Zl,Zm,Zp,Zq,Zv,Zy,Z3,Z7,ZE,ZF,ZU,ZZ,Ya,Yq,Wv,Ww,Wx,W6,VK,VN,VP,VQ,VX,Uc,Us,Ut,UV,UW,Ta,Ti,Tj,Tm,Tp,Tq,Tw,Tx,sp,sp2];all_goals tactic=>exact rfl))
         ·(sym=>(simp[aO,aP,bJ,aN,aM,Za,Zb,Zf,Zh,Zl,Zm,Zp,Zq,Zv,Zy,Z3,Z7,ZE,ZF,ZU,ZZ,Ya,Yq,Wv,Ww,Wx,W6,VK,VN,VP,VQ,VV,VW,Uc,Us,Ut,UV,UW,Ta,Ti,Tj,Tm,Tp,Tq,Tw,Tx,sp,sp2];all_goals tactic=>exact rfl))
     ·have cb:bT (cQ (b::q)) 0 2 (q.length+1)=(b::q).map qR:=cb
      have b3:((q.length+1)*2≤(cQ (b::q)).length)=True:=eq_true (by rw[lb];simp)
      sym =>
       simp[aO,aP,bJ,aN,aM,Za,Zb,Zf,Zh,Zl,Zm,Zp,Zq,Zv,Zy,Z3,Z7,ZE,ZF,ZU,ZZ,Ya,Yq,Wv,Ww,Wx,W6,VK,VN,VP,VT,VV,VW,Uc,Us,Ut,UV,UW,Ta,Ti,Tj,Tm,Tn,Tp,Tq,Tu,Tw,Tx,sb,sb2]
       tactic =>
        unfold tY
        rw[aF mp (fun j=>[.pt 0 0,.pt 1 0,I l.k,.pt 2 0,I (j:Nat)]) (fun j=>gLa l S N X (b::q) (rI l j)++wP (b::q) (rI l j))]
        ·rw[hPP]
         rcases stp with sp|⟨sp,sp2⟩
         ·rcases PP with _|⟨p,r⟩
          ·(sym=>(simp[aO,aP,bJ,aN,aM,Za,Zb,Zc,Zf,Zh,Zl,Zm,Zp,Zs,Zv,Zy,Z3,Z7,ZE,ZF,ZJ,ZK,ZV,ZZ,Ya,Yq,YR,YU,YX,Xe,Xh,Xi,Xk,Xn,Xp,Xr,Xy,X0,XK,XM,XQ,XU,XX,XZ,Wa,Wc,We,Wh,Wo,Wv,Ww,Wx,Wy,Wz,W0,W3,W4,W6,WE,WI,WK,WL,WM,Vl,Vm,Vo,Vp,Vq,Vz,V0,V1,V3,V4,V6,V7,V8,V9,VA,VD,VE,VF,VH,VK,VN,VP,VT,VU,VV,VW,VX,VZ,Ua,Ub,Uc,Ug,Ui,Un,Ut,Ux,Uy,Uz,U0,U1,U2,U3,U4,U5,U6,U7,U8,U9,UV,UW,UZ,Ta,Tb,Tc,Ti,Tj,Tk,Tm,Tp,Tq,Tu,Tw,Tx,T9,Sf,Sg,Si,sp,cb,b3];all_goals tactic=>exact rfl))
          ·have cp:bT (cP (p::r)) 0 3 (r.length+1)=(p::r).map pR:=cp
           have c3:((r.length+1)*3≤(cP (p::r)).length)=True:=eq_true (by rw[lp];simp)
           (sym=>(simp[aO,aP,bJ,aN,aM,Za,Zb,Zc,Zf,Zh,Zl,Zm,Zp,Zs,Zv,Zy,Z3,Z7,ZE,ZF,ZJ,ZK,ZV,ZZ,Ya,Yq,YR,YU,YX,Xe,Xh,Xi,Xn,Xp,Xr,Xy,X0,XK,XQ,XU,XW,XX,Wa,Wc,We,Wo,Wv,Ww,Wx,Wy,Wz,W0,W3,W4,W6,WE,WI,WK,WL,WM,Vl,Vm,Vo,Vp,Vq,Vy,Vz,V0,V1,V3,V4,V6,V7,V8,V9,VA,VD,VE,VF,VH,VK,VN,VP,VT,VU,VV,VW,VX,VZ,Ua,Ub,Uc,Ug,Ui,Un,Uo,Ut,Ux,Uy,Uz,U0,U1,U2,U3,U4,U5,U6,U7,U8,U9,UV,UW,UZ,Ta,Tb,Tc,Ti,Tj,Tk,Tm,Tp,Tq,Tu,Tw,Tx,T9,Sf,Sg,Si,sp,cp,c3,cb,b3];all_goals tactic=>exact rfl))
         ·rcases PP with _|⟨p,r⟩
          ·(sym=>(simp[aO,aP,bJ,aN,aM,Za,Zb,Zc,Zf,Zh,Zl,Zm,Zp,Zq,Zv,Zy,Z3,Z7,ZE,ZF,ZJ,ZK,ZU,ZZ,Ya,Yq,YR,YU,YX,Xe,Xh,Xi,Xk,Xn,Xp,Xr,Xy,X0,XK,XM,XQ,XU,XX,XZ,Wa,Wc,We,Wh,Wo,Wv,Ww,Wx,Wy,Wz,W0,W3,W4,W6,WE,WI,WK,WL,WM,Vl,Vm,Vo,Vp,Vq,Vz,V0,V1,V3,V4,V6,V7,V8,V9,VA,VD,VE,VF,VH,VK,VN,VP,VT,VU,VV,VW,VX,VZ,Ua,Ub,Uc,Ug,Ui,Un,Us,Ut,Ux,Uy,Uz,U0,U1,U2,U3,U4,U5,U6,U7,U8,U9,UV,UW,UZ,Ta,Tb,Tc,Ti,Tj,Tk,Tm,Tp,Tq,Tu,Tw,Tx,T9,Sf,Sg,Si,sp,sp2,cb,b3];all_goals tactic=>exact rfl))
          ·have cp:bT (cP (p::r)) 0 3 (r.length+1)=(p::r).map pR:=cp
           have c3:((r.length+1)*3≤(cP (p::r)).length)=True:=eq_true (by rw[lp];simp)
           (sym=>(simp[aO,aP,bJ,aN,aM,Za,Zb,Zc,Zf,Zh,Zl,Zm,Zp,Zq,Zv,Zy,Z3,Z7,ZE,ZF,ZJ,ZK,ZU,ZZ,Ya,Yq,YR,YU,YX,Xe,Xh,Xi,Xn,Xp,Xr,Xy,X0,XK,XQ,XU,XW,XX,Wa,Wc,We,Wo,Wv,Ww,Wx,Wy,Wz,W0,W3,W4,W6,WE,WI,WK,WL,WM,Vl,Vm,Vo,Vp,Vq,Vy,Vz,V0,V1,V3,V4,V6,V7,V8,V9,VA,VD,VE,VF,VH,VK,VN,VP,VT,VU,VV,VW,VX,VZ,Ua,Ub,Uc,Ug,Ui,Un,Uo,Us,Ut,Ux,Uy,Uz,U0,U1,U2,U3,U4,U5,U6,U7,U8,U9,UV,UW,UZ,Ta,Tb,Tc,Ti,Tj,Tk,Tm,Tp,Tq,Tu,Tw,Tx,T9,Sf,Sg,Si,sp,sp2,cp,c3,cb,b3];all_goals tactic=>exact rfl))
        ·rw[P0]; (sym=>(simp[aO,aP,bJ,aN,aM,Za,Y7,YR,YY,YZ,Xa,Xn,Xs,Xt,Xu,Wv,W7,W8,WA,WB,WE,WF,WG,WI,WK,WL,WM,WN,WS,WT,WU,WY,WZ,VK,VL,VM,VT,VU,VV,VW,VX,VZ,Ue,Ur,Ux,Uy,Uz,U0,Tv,TA];all_goals tactic=>exact rfl))
        ·exact rdb
        ·rw[hPP]
         rcases stp with sp|⟨sp,sp2⟩
         ·rcases PP with _|⟨p,r⟩
          ·(sym=>(simp[aO,aP,bJ,aN,aM,Za,Zb,Zf,Zh,Zl,Zm,Zp,Zs,Zv,Zy,Z3,Z7,ZE,ZF,ZV,ZZ,Ya,Yq,Wv,Ww,Wx,W6,VK,VN,VP,VQ,VV,VW,Uc,Ut,UV,UW,Ta,Ti,Tj,Tm,Tp,Tq,Tw,Tx,sp];all_goals tactic=>exact rfl))
          ·(sym=>(simp[aO,aP,bJ,aN,aM,Za,Zb,Zf,Zh,Zl,Zm,Zp,Zs,Zv,Zy,Z3,Z7,ZE,ZF,ZV,ZZ,Ya,Yq,Wv,Ww,Wx,W6,VK,VN,VP,VQ,VV,VW,Uc,Ut,UV,UW,Ta,Ti,Tj,Tm,Tp,Tq,Tw,Tx,sp];all_goals tactic=>exact rfl))
         ·rcases PP with _|⟨p,r⟩
          ·(sym=>(simp[aO,aP,bJ,aN,aM,Za,Zb,Zf,Zh,Zl,Zm,Zp,Zq,Zv,Zy,Z3,Z7,ZE,ZF,ZU,ZZ,Ya,Yq,Wv,Ww,Wx,W6,VK,VN,VP,VQ,VV,VW,Uc,Us,Ut,UV,UW,Ta,Ti,Tj,Tm,Tp,Tq,Tw,Tx,sp,sp2];all_goals tactic=>exact rfl))
          ·(sym=>(simp[aO,aP,bJ,aN,aM,Za,Zb,Zf,Zh,Zl,Zm,Zp,Zq,Zv,Zy,Z3,Z7,ZE,ZF,ZU,ZZ,Ya,Yq,Wv,Ww,Wx,W6,VK,VN,VP,VQ,VV,VW,Uc,Us,Ut,UV,UW,Ta,Ti,Tj,Tm,Tp,Tq,Tw,Tx,sp,sp2];all_goals tactic=>exact rfl))
   ·rw[B0]; (sym=>(simp[aO,aP,bJ,aN,aM,Za,Y7,YR,YZ,Xn,Xt,Wv,W7,W8,WA,WB,WE,WF,WG,WI,WK,WL,WM,WN,WS,WT,WY,VL,VM,VT,VU,VV,VW,VX,VZ,Ue,Ur,Ux,Uy,Uz,U0,Tv,TA];all_goals tactic=>exact rfl))
   ·exact rda
   ·rw[hBB]
    rcases stb with sb|⟨sb,sb2⟩
    ·rcases BB with _|⟨b,q⟩
     ·(sym=>(simp[aO,aP,bJ,aN,aM,Za,Zb,Zf,Zh,Zl,Zm,Zp,Zs,Zv,Zy,Z3,Z7,ZE,ZF,ZV,ZZ,Ya,Yq,Wv,Ww,Wx,W6,VK,VN,VP,VQ,VX,Uc,Ut,UV,UW,Ta,Ti,Tj,Tm,Tp,Tq,Tw,Tx,sb];all_goals tactic=>exact rfl))
     ·(sym=>(simp[aO,aP,bJ,aN,aM,Za,Zb,Zf,Zh,Zl,Zm,Zp,Zs,Zv,Zy,Z3,Z7,ZE,ZF,ZV,ZZ,Ya,Yq,Wv,Ww,Wx,W6,VK,VN,VP,VQ,VV,VW,Uc,Ut,UV,UW,Ta,Ti,Tj,Tm,Tp,Tq,Tw,Tx,sb];all_goals tactic=>exact rfl))
    ·rcases BB with _|⟨b,q⟩
     ·(sym=>(simp[aO,aP,bJ,aN,aM,Za,Zb,Zf,Zh,Zl,Zm,Zp,Zq,Zv,Zy,Z3,Z7,ZE,ZF,ZU,ZZ,Ya,Yq,Wv,Ww,Wx,W6,VK,VN,VP,VQ,VX,Uc,Us,Ut,UV,UW,Ta,Ti,Tj,Tm,Tp,Tq,Tw,Tx,sb,sb2];all_goals tactic=>exact rfl))
     ·(sym=>(simp[aO,aP,bJ,aN,aM,Za,Zb,Zf,Zh,Zl,Zm,Zp,Zq,Zv,Zy,Z3,Z7,ZE,ZF,ZU,ZZ,Ya,Yq,Wv,Ww,Wx,W6,VK,VN,VP,VQ,VV,VW,Uc,Us,Ut,UV,UW,Ta,Ti,Tj,Tm,Tp,Tq,Tw,Tx,sb,sb2];all_goals tactic=>exact rfl))
section
variable {x:Vn} (ok:x.Ok) {s:Nat} (hs:s<65536)
end
def rs (w:Nat→Nat) (t j:Nat):Nat→Nat:=fun f=>if f<j then w f+(if t.testBit f then 1 else 0) else w f
section
variable {x:Vn} (ok:x.Ok)
end
section
variable {x:Vn} (ok:x.Ok) {a c:Nat}
include ok in
end
structure aKY (x:Vn) (u:Nat) (ks:List Nat):Prop where
 lt:∀ k∈ks,k<x.F
 len:ks.length≤16
 ne:ks≠[]
 leads:jW x ks=true
 free:∀ (j k:Nat),ks[j]?=some k→u.testBit k=true→x.fix.testBit k=true
section
variable {x:Vn} (ok:x.Ok) {ws:List (List Int)} {ks:List Nat} {i:Nat} {U:Nat→Nat}
end
section
variable {x:Vn} (ok:x.Ok) {ws:List (List Int)} (hF:∀ (i:Nat) (w:List Int),ws[i]?=some w→∃ ks,w=dJ ks∧aKY x (usN ws i) ks) (hl:ws.length≤16)
end
section
variable {x:Vn} (ok:x.Ok) {c:Nat} (hc:isCut x c)
end
section
variable {x:Vn} (ok:x.Ok) {n:Nat} (hn:Lea x 0 n)
end
abbrev swB (b:Nat×Nat):Nat×Nat:=(b.2,b.1)
abbrev swP (p:Nat×Nat×Nat):Nat×Nat×Nat:=(p.1,p.2.2,p.2.1)
def wK (x:Vn):Vn:=⟨x.F,x.bs.reverse.map swB,x.ps.map swP,x.nur,x.sick,x.fix⟩
theorem aBp {x:Vn} (ok:x.Ok):(wK x).Ok:=by
 refine⟨ok.F1,ok.F16,?_,?_,?_,?_,ok.n,ok.s,ok.f⟩
 ·have:=ok.nb;simpa [wK]using this
 ·have:=ok.np;simpa [wK]using this
 ·intro p hp
  simp only[wK,List.mem_map,List.mem_reverse]at hp
  obtain⟨q,hq,rfl⟩:=hp
  have:=ok.b q hq
  exact⟨this.2.1,this.1,fun h=>this.2.2 h.symm⟩
 ·intro p hp
  simp only[wK,List.mem_map]at hp
  obtain⟨q,hq,rfl⟩:=hp
  have:=ok.p q hq
  exact⟨this.1,this.2.2.1,this.2.1,fun h=>this.2.2.2 h.symm⟩
theorem aBo (x:Vn) (a b:Nat):(dI (wK x) a).testBit b=(dI x b).testBit a:=by
 rw[aCx,aCx]
 simp only[wK,List.any_map,List.any_reverse]
 congr 1
 ·congr 1
  funext q
  simp only[Function.comp,bMt]
  congr 1<;>rw[Bool.and_comm]
 ·congr 1
  funext q
  simp only[Function.comp,pMt]
  rw[Bool.and_comm]
theorem aFs {st st':Nat→Nat} {s n cl f:Nat} (h:∀ a b,(st' a).testBit b=(st b).testBit a) (hr:Rch st s cl f):Rch st' n cl f→∃ g,s.testBit g=true∧Rch st' n cl g:=by
 induction hr with
 | base h1 h2=>exact fun g=>⟨_,h1,g⟩
 | step ha hb hc ih=>exact fun g=>ih (.step g (by rw[h];exact hb) ha.free)
theorem wY {x:Vn} {C:Nat} (h:Cuts x 0 C):Cuts (wK x) 0 C:=by
 refine⟨h.lt,h.free,fun g hg=>?_⟩
 cases hb:(wK x).nur.testBit g
 ·rfl
 ·obtain⟨f,h1,h2⟩:=aFs (st':=dI x) (n:=x.sick) (fun a b=>(aBo x b a).symm) hg (.base hb hg.free)
  have:=h.cut f h2
  rw[show x.nur.testBit f=true from h1]at this
  simp at this
theorem aBn (x:Vn) (a b:Nat):(dI (wK (wK x)) a).testBit b=(dI x a).testBit b:=by rw[aBo,aBo]
theorem kB {x:Vn} {C:Nat}:Cuts (wK x) 0 C↔Cuts x 0 C:=by
 refine⟨fun h=>?_,wY⟩
 have h2:=wY h
 refine⟨h.lt,h.free,fun g hg=>h2.cut g ?_⟩
 exact Rch.mono (fun i h=>h) (fun k i hi=>by rw[aBn];exact hi) (dA _) hg
theorem yL {x:Vn} {c:Nat}:mN (wK x) c↔mN x c:=by
 unfold mN
 rw[kB]
 constructor
 ·rintro ⟨h1,h2⟩;exact⟨h1,fun D hD=>h2 D (kB.2 hD)⟩
 ·rintro ⟨h1,h2⟩;exact⟨h1,fun D hD=>h2 D (kB.1 hD)⟩
theorem aGF {x:Vn} {c:Nat} (h:isCut (wK x) c):isCut x c:=⟨h.lt,yL.1 h.min,fun D hD=>h.first D (kB.2 hD)⟩
theorem aGE {x:Vn} (ok:x.Ok):lJ (wK x)=lJ x:=by
 rw[Bool.eq_iff_iff,iD (aBp ok),iD ok]
 constructor
 ·rintro ⟨C,h1,h2⟩;exact⟨C,h1,kB.1 h2⟩
 ·rintro ⟨C,h1,h2⟩;exact⟨C,h1,kB.2 h2⟩
theorem aEp {x:Vn} (ok:x.Ok):needN (wK x)=needN x:=by
 apply Nat.eq_of_testBit_eq
 intro i
 rw[Bool.eq_iff_iff,kL (aBp ok).F16,kL ok.F16]
 refine and_congr Iff.rfl ?_
 unfold ndP
 exact⟨fun h D hD=>h D (yL.2 hD),fun h D hD=>h D (yL.1 hD)⟩
theorem aEo {x:Vn} (ok:x.Ok):∃ (os:List Int) (e:Int) (ns:List Int) (g:Int),os.length<1000000000∧ns.length<1000000000 ∧
 runW aA 29 [.agg x.c] []=some (.tup [nL os,I e],[])∧runW aA 29 [.agg (wK x).c] []=some (.tup [nL os,I e],[]) ∧
 runW aA 31 [.agg x.c] []=some (.tup [nL ns,I g],[])∧runW aA 31 [.agg (wK x).c] []=some (.tup [nL ns,I g],[]):=by
 have ok2:=aBp ok
 have hh2:=aGE ok
 cases hh:lJ x
 ·rw[hh]at hh2
  exact⟨[],16,[],16,by simp,by simp,aKn ok ok.h23 hh,aKn ok2 ok2.h23 hh2,aKm ok hh,aKm ok2 hh2⟩
 ·rw[hh]at hh2
  obtain⟨c,hc,h1⟩:=w29 ok ok.h23 hh
  obtain⟨d,hd,h2⟩:=w29 ok2 ok2.h23 hh2
  obtain rfl:=hc.eq (aGF hd)
  have h3:=w31 ok hh
  have h4:=w31 ok2 hh2
  rw[aEp ok]at h4
  exact⟨_,_,_,_,aAS _,aAx x,h1,h2,h3,h4⟩
mutual
theorem aIU:∀ v:AV,kX (kX v)=kX v
 | .agg vs=>by rw[kX,kX,uX vs]
 | .tup vs=>by rw[kX,kX,uX vs]
 | .nilsl=>rfl
 | .int _ _ | .bool _ | .str _ | .sl _ _ _ _ | .fs _ | .pt _ _ | .nilpt | .fn _ _ _ | .nilfn | .mp _ | .nilmap | .nilifc | .fp _ _ _ | .ch _ | .ifc _ _ | .any=>rfl
theorem uX:∀ l:List AV,dW (dW l)=dW l
 | []=>rfl
 | v::r=>by rw[dW,dW,aIU v,uX r]
end
section
variable (x:Vn)
abbrev gTa:List (Int×Int)→List (Int×Int×Int)→XH
 | [],[]=>[some (.blk true (.cells true x.c)),some (.blk true (.cells true [I x.F,.nilsl,.nilsl,I x.nur,I x.sick,I x.fix]))]
 | [],_::r=>[some (.blk true (.cells true x.c)),some (.blk false (.cells true [I x.F,.nilsl,.sl 2 0 3 (r.length+1),I x.nur,I x.sick,I x.fix]))]
 | _::q,[]=>[some (.blk true (.cells true x.c)),some (.blk false (.cells true [I x.F,.sl 2 0 2 (q.length+1),.nilsl,I x.nur,I x.sick,I x.fix]))]
 | _::q,_::r=>[some (.blk true (.cells true x.c)),some (.blk false (.cells true [I x.F,.sl 2 0 2 (q.length+1),.sl 3 0 3 (r.length+1),I x.nur,I x.sick,I x.fix]))]
def qQ (j:Nat):List (Int×Int):=((x.bs.reverse.take j).map swB).map bI
def qT (j:Nat):List (Int×Int×Int):=((x.ps.take j).map swP).map pI
theorem aII {j:Nat} {y:Nat×Nat} (h:x.bs.reverse[j]?=some y):qQ x (j+1)=qQ x j++[bI (swB y)]:=by unfold qQ;rw[List.take_add_one,h];simp
theorem aIH {j:Nat} {y:Nat×Nat×Nat} (h:x.ps[j]?=some y):qT x (j+1)=qT x j++[pI (swP y)]:=by unfold qT;rw[List.take_add_one,h];simp
theorem aGJ {j:Nat} (h:j≤x.bs.length):(qQ x j).length=j:=by unfold qQ;simp;omega
theorem aGI {j:Nat} (h:j≤x.ps.length):(qT x j).length=j:=by unfold qT;simp;omega
variable {x}
theorem aFd (ok:x.Ok) {j:Nat} (hj:j<x.bs.length) :
 bA 0 [3,4,30,31] (execW aA 13 0 none (match uB with | .loop _ a=>a|c=>c) (aW [3,4,30,31] [.pt 0 0,.pt 1 0,I x.bs.length,I (j:Nat)]) (gTa x (qQ x j) []++wP (qQ x j) [])) =
  some ([.pt 0 0,.pt 1 0,I x.bs.length,I (j+1:Nat)],gTa x (qQ x (j+1)) []++wP (qQ x (j+1)) []):=by
 have hnb:=ok.nb
 obtain⟨y,hy⟩:=bZ (l:=x.bs) (i:=x.bs.length-1-j) (by omega)
 have hr:x.bs.reverse[j]?=some y:=by rw[List.getElem?_reverse hj];exact hy
 have gl:(x.bs.map bI).length=x.bs.length:=List.length_map ..
 have a1:=dZ hj
 have a2:=gF hj (by omega)
 have u1:IntKind.i64.wrap ((x.bs.length:Int)-1)=(x.bs.length:Int)-1:=aD (by omega) (by omega)
 have u2:IntKind.i64.wrap ((x.bs.length:Int)-1-(j:Int))=((x.bs.length-1-j:Nat):Int):=by rw[aD (by omega) (by omega)];omega
 have c1:((0:Int)≤((x.bs.length-1-j:Nat):Int))=True:=eq_true (by omega)
 have c2:(((x.bs.length-1-j:Nat):Int)<(x.bs.length:Int))=True:=eq_true (by omega)
 have hl:=aGJ x (j:=j) (by omega)
 rw[aII x hr]
 have hap:=aGr (qQ x j) (bI (swB y))
 have hcl:=zV (qQ x j)
 generalize qQ x j=B at *
 generalize x.bs.length-1-j=jj at *
 unfold uB
 dsimp only
 cases B with
 | nil =>
   have e1:cQ [bI (swB y)]=[I y.2,I y.1]:=rfl
   (sym=>(simp[aN,aM,Za,Zb,Zc,Zd,Ze,Zf,Zh,Zl,Zm,Zo,Zv,Zw,Z0,Z1,Z3,Z7,Z8,Z9,ZE,ZF,ZJ,ZK,ZR,ZZ,Ya,Ye,Yf,Yh,Yi,Yq,Yu,Yv,Y6,Y8,YB,YM,YO,YR,YY,YZ,Xa,Xe,Xg,Xi,Xn,Xs,Xt,Xu,Wm,Wo,Wq,Wv,Ww,Wx,Wy,Wz,W0,W3,W4,W6,W7,W8,WA,WB,WE,WF,WG,WI,WK,WL,WM,WN,WS,WT,WU,WY,WZ,VK,VL,VM,VN,VO,VT,VU,VV,VW,VX,VZ,Ua,Ub,Uc,Ud,Ue,Ug,Ui,Un,Ur,Us,Uu,Uv,Ux,Uy,Uz,U0,U1,U2,U9,UA,UB,UC,UK,UL,UM,UN,UO,UP,UQ,UR,UV,UW,UX,UY,UZ,Ta,Tb,Tc,Td,Tf,Tg,Th,Ti,Tj,Tl,Tn,Tp,Ts,Tv,Tw,Tx,TA,TF,a1,a2,gl,hy,u1,u2,c1,c2,e1];all_goals tactic=>exact rfl))
 | cons q r =>
   have hl:r.length+1=j:=by simpa using hl
   have b1:((r.length+1+1)*16≤1099511627776)=True:=eq_true (by omega)
   have b2:(r.length+1+1≤1099511627776)=True:=eq_true (by omega)
   have b3:((r.length+1)*2=(cQ (q::r)).length)=True:=eq_true (by rw[hcl];simp)
   have e1:cQ (q::r)++[I y.2,I y.1]=cQ (q::(r++[bI (swB y)])):=hap.symm
   (sym=>(simp[aN,aM,Za,Zb,Zc,Zd,Ze,Zf,Zh,Zl,Zm,Zo,Zv,Zw,Z0,Z1,Z3,Z7,Z8,Z9,ZE,ZF,ZJ,ZK,ZR,ZZ,Ya,Ye,Yf,Yh,Yi,Yq,Yu,Yv,Y6,Y8,YB,YM,YO,YR,YY,YZ,Xa,Xe,Xg,Xi,Xn,Xs,Xt,Xu,Wm,Wo,Wq,Wv,Ww,Wx,Wy,Wz,W0,W3,W4,W6,W7,W8,WA,WB,WE,WF,WG,WI,WK,WL,WM,WN,WS,WT,WU,WY,WZ,VK,VL,VM,VN,VO,VT,VU,VV,VW,VX,VZ,Ua,Ub,Uc,Ud,Ue,Ug,Ui,Un,Ur,Us,Uu,Uv,Ux,Uy,Uz,U0,U1,U2,U9,UA,UB,UC,UK,UL,UM,UN,UO,UP,UQ,US,UT,UV,UW,UX,UY,UZ,Ta,Tb,Tc,Td,Te,Tf,Tg,Ti,Tj,Tl,Tn,Tp,Ts,Tv,Tw,Tx,T7,TA,TF,a1,a2,gl,hy,u1,u2,c1,c2,e1,b1,b2,b3];all_goals tactic=>exact rfl))
theorem aFc (ok:x.Ok) (B:List (Int×Int)) {j:Nat} (hj:j<x.ps.length) :
 bA 0 [3,4,56,57,58] (execW aA 13 0 none (match uA with | .loop _ a=>a|c=>c) (aW [3,4,56,57,58] [.pt 0 0,.pt 1 0,rP (x.ps.map pI),I x.ps.length,I (j:Nat)]) (gTa x B (qT x j)++wP B (qT x j))) =
  some ([.pt 0 0,.pt 1 0,rP (x.ps.map pI),I x.ps.length,I (j+1:Nat)],gTa x B (qT x (j+1))++wP B (qT x (j+1))):=by
 have hnp:=ok.np
 obtain⟨y,hy⟩:=bZ hj
 have gl:(x.ps.map pI).length=x.ps.length:=List.length_map ..
 have a1:=dZ hj
 have a2:=gF hj (by omega)
 have hl:=aGI x (j:=j) (by omega)
 rw[aIH x hy]
 have hap:=aGs (qT x j) (pI (swP y))
 have hcl:=zW (qT x j)
 generalize qT x j=M at *
 unfold uA
 dsimp only
 cases M with
 | nil =>
   have e1:cP [pI (swP y)]=[I y.1,I y.2.2,I y.2.1]:=rfl
   cases B with
   | nil=>(sym=>(simp[aN,aM,Za,Zb,Zc,Zd,Ze,Zf,Zh,Zl,Zm,Zo,Zv,Zw,Z0,Z1,Z3,Z7,Z9,ZF,ZJ,ZK,ZR,ZZ,Ye,Yf,Yh,Yq,Yu,Yv,YO,YR,YX,YY,YZ,Xa,Xe,Xg,Xi,Xn,Xr,Xs,Xt,Xu,Wm,Wo,Wq,Wv,Ww,Wx,Wy,Wz,W0,W3,W4,W6,W7,W8,WA,WB,WE,WF,WG,WI,WK,WL,WM,WN,WS,WT,WU,WY,WZ,VK,VL,VM,VN,VO,VT,VU,VV,VW,VX,VZ,Ua,Ub,Uc,Ud,Ue,Ug,Ui,Un,Ur,Us,Uu,Uv,Ux,Uy,Uz,U0,U1,U2,U9,UA,UB,UC,UK,UL,UM,UN,UO,UP,UQ,UR,UV,UW,UX,UY,UZ,Ta,Tb,Tc,Td,Tf,Tg,Th,Ti,Tj,Tl,Tn,Tp,Ts,Tv,Tw,Tx,TA,TF,a1,a2,gl,hy,e1];all_goals tactic=>exact rfl))
   | cons b bs=>(sym=>(simp[aN,aM,Za,Zb,Zc,Zd,Ze,Zf,Zh,Zl,Zm,Zo,Zv,Zw,Z0,Z1,Z3,Z7,Z9,ZF,ZJ,ZK,ZR,ZZ,Ye,Yf,Yh,Yq,Yu,Yv,YO,YR,YX,YY,YZ,Xe,Xg,Xi,Xn,Xr,Xs,Xt,Wm,Wo,Wq,Wv,Ww,Wx,Wy,Wz,W0,W3,W4,W6,W7,W8,WA,WB,WE,WF,WG,WI,WK,WL,WM,WN,WS,WT,WU,WY,WZ,VK,VL,VM,VN,VO,VT,VU,VV,VW,VX,VZ,Ua,Ub,Uc,Ud,Ue,Ug,Ui,Un,Ur,Us,Uu,Uv,Ux,Uy,Uz,U0,U1,U2,U9,UA,UB,UC,UK,UL,UM,UN,UO,UP,UQ,UR,UV,UW,UX,UY,UZ,Ta,Tb,Tc,Td,Tf,Tg,Th,Ti,Tj,Tl,Tn,Tp,Ts,Tv,Tw,Tx,TA,TF,a1,a2,gl,hy,e1];all_goals tactic=>exact rfl))
 | cons q r =>
   have hl:r.length+1=j:=by simpa using hl
   have b1:((r.length+1+1)*24≤1099511627776)=True:=eq_true (by omega)
   have b2:(r.length+1+1≤1099511627776)=True:=eq_true (by omega)
   have b3:((r.length+1)*3=(cP (q::r)).length)=True:=eq_true (by rw[hcl];simp)
   have e1:cP (q::r)++[I y.1,I y.2.2,I y.2.1]=cP (q::(r++[pI (swP y)])):=hap.symm
   cases B with
   | nil=>(sym=>(simp[aN,aM,Za,Zb,Zc,Zd,Ze,Zf,Zh,Zl,Zm,Zo,Zv,Zw,Z0,Z1,Z3,Z7,Z9,ZF,ZJ,ZK,ZR,ZZ,Ye,Yf,Yh,Yq,Yu,Yv,YO,YR,YX,YY,YZ,Xa,Xe,Xg,Xi,Xn,Xr,Xs,Xt,Xu,Wm,Wo,Wq,Wv,Ww,Wx,Wy,Wz,W0,W3,W4,W6,W7,W8,WA,WB,WE,WF,WG,WI,WK,WL,WM,WN,WS,WT,WU,WY,WZ,VK,VL,VM,VN,VO,VT,VU,VV,VW,VX,VZ,Ua,Ub,Uc,Ud,Ue,Ug,Ui,Un,Ur,Us,Uu,Uv,Ux,Uy,Uz,U0,U1,U2,U9,UA,UB,UC,UK,UL,UM,UN,UO,UP,UQ,US,UT,UV,UW,UX,UY,UZ,Ta,Tb,Tc,Td,Te,Tf,Tg,Ti,Tj,Tl,Tn,Tp,Ts,Tv,Tw,Tx,T7,TA,TF,a1,a2,gl,hy,e1,b1,b2,b3];all_goals tactic=>exact rfl))
   | cons b bs=>(sym=>(simp[aN,aM,Za,Zb,Zc,Zd,Ze,Zf,Zh,Zl,Zm,Zo,Zv,Zw,Z0,Z1,Z3,Z7,Z9,ZF,ZJ,ZK,ZR,ZZ,Ye,Yf,Yh,Yq,Yu,Yv,YO,YR,YX,YY,YZ,Xe,Xg,Xi,Xn,Xr,Xs,Xt,Wm,Wo,Wq,Wv,Ww,Wx,Wy,Wz,W0,W3,W4,W6,W7,W8,WA,WB,WE,WF,WG,WI,WK,WL,WM,WN,WS,WT,WU,WY,WZ,VK,VL,VM,VN,VO,VT,VU,VV,VW,VX,VZ,Ua,Ub,Uc,Ud,Ue,Ug,Ui,Un,Ur,Us,Uu,Uv,Ux,Uy,Uz,U0,U1,U2,U9,UA,UB,UC,UK,UL,UM,UN,UO,UP,UQ,US,UT,UV,UW,UX,UY,UZ,Ta,Tb,Tc,Td,Te,Tf,Tg,Ti,Tj,Tl,Tn,Tp,Ts,Tv,Tw,Tx,T7,TA,TF,a1,a2,gl,hy,e1,b1,b2,b3];all_goals tactic=>exact rfl))
end
theorem zG:∀ l:List AV,(dW l).length=l.length
 | []=>rfl
 | v::r=>by rw[dW,List.length_cons,List.length_cons,zG r]
theorem aIW (vs:List AV) (hl:vs.length≤50):runW aA 29 vs []=runW aA 29 (dW vs) []:=by
 rw[r29 hl,r29 (by rw[zG];exact hl)]
 simp only[show x29.ownA=false from rfl,Bool.false_eq_true,if_false,uX]
theorem aIV (vs:List AV) (hl:vs.length≤57):runW aA 31 vs []=runW aA 31 (dW vs) []:=by
 rw[r31 hl,r31 (by rw[zG];exact hl)]
 simp only[show x31.ownA=false from rfl,Bool.false_eq_true,if_false,uX]
theorem w13 {l:La} (hl:l.Ok):runW aA 13 [.agg l.c] []=some (.bool true,[]):=by
 have e36:=w36 hl
 have ok:=l.md_ok
 generalize l.md=x at *
 obtain⟨os,e,ns,g,o1,o2,h1,h2,h3,h4⟩:=aEo ok
 have c1:=aKo o1
 have c2:=aKo o2
 have hnb:=ok.nb
 have hnp:=ok.np
 have hB:qQ x x.bs.length=(wK x).bs.map bI:=by
  show _=List.map bI (x.bs.reverse.map swB)
  rw[qQ,List.take_of_length_le (by rw[List.length_reverse];exact Nat.le_refl _)]
 have hP:qT x x.ps.length=(wK x).ps.map pI:=by
  show _=List.map pI (x.ps.map swP)
  rw[qT,List.take_length]
 have hc:(wK x).c=[I x.F,.fs ((qQ x x.bs.length).map qR),.fs ((qT x x.ps.length).map pR),I x.nur,I x.sick,I x.fix]:=by rw[hB,hP];rfl
 rw[hc]at h2 h4
 clear hc hB hP
 have zb:=UU (n:=(x.bs.length:Int))
 have zp:=UU (n:=(x.ps.length:Int))
 have gb:(x.bs.map bI).length=x.bs.length:=List.length_map ..
 have gp:(x.ps.map pI).length=x.ps.length:=List.length_map ..
 have B0:qQ x 0=[]:=rfl
 have P0:qT x 0=[]:=rfl
 have cb:=aIz (qQ x x.bs.length)
 have cp:=aIA (qT x x.ps.length)
 have lb:=zV (qQ x x.bs.length)
 have lp:=zW (qT x x.ps.length)
 have rda:=fun j (hj:j<x.bs.length)=>aFd ok hj
 have rdb:=fun j (hj:j<x.ps.length)=>aFc ok (qQ x x.bs.length) hj
 generalize hBB:qQ x x.bs.length=BB at *
 generalize hPP:qT x x.ps.length=PP at *
 generalize hRB:BB.map qR=RB at *
 generalize hRP:PP.map pR=RP at *
 rcases BB with _|⟨b,q⟩
 ·rcases PP with _|⟨p,r⟩
  ·have hRB:[]=RB:=hRB
   subst hRB
   have hRP:[]=RP:=hRP
   subst hRP
   have h2:runW aA 29 [.agg [I x.F,.nilsl,.nilsl,I x.nur,I x.sick,I x.fix]] []=some (.tup [nL os,I e],[]):=(aIW _ (by simp)).trans h2
   have h4:runW aA 31 [.agg [I x.F,.nilsl,.nilsl,I x.nur,I x.sick,I x.fix]] []=some (.tup [nL ns,I g],[]):=(aIV _ (by simp)).trans h4
   rw[r13 (by simp)];unfold x13;dsimp only
   sym =>
    simp[aN,aM,Za,Zb,Zc,Zd,Ze,Zf,Zg,Zh,Zj,Zl,Zm,Zo,Zv,Zw,Zz,Z0,Z7,ZE,ZF,ZJ,ZK,ZN,ZO,ZS,ZT,ZZ,Ya,YO,YR,YU,YX,Xe,Xg,Xh,Xk,Xn,Xp,Xr,Wa,Wc,We,Wm,Wo,Wv,Ww,Wx,Wy,Wz,W0,W3,W4,W5,W6,WE,WH,WJ,WO,WP,Vc,Vd,Ve,Vp,Vr,Vs,Vu,Vv,Vx,VI,VS,VT,VU,VV,VW,VX,Ua,Ub,Uc,Ug,Un,Uw,Ux,Uy,Uz,U0,U1,U2,U7,U8,U9,UA,UB,UC,UI,UJ,UV,UW,UZ,Ta,Tb,Tc,Td,Tj,Tn,Tp,Tw,Tx,Sx,Sy,Sz,S3,S4,S5,e36,gb]
    tactic =>
     unfold uB
     rw[aF x.bs.length (fun j=>[.pt 0 0,.pt 1 0,I x.bs.length,I (j:Nat)]) (fun j=>gTa x (qQ x j) []++wP (qQ x j) [])]
     ·rw[hBB]
      sym =>
       simp[aN,aM,Za,Zb,Zf,Zh,Zl,Zm,Zv,Z3,Z7,ZE,ZF,ZZ,Ya,Yq,Wv,Ww,Wx,W6,VK,VN,VP,VX,Uc,Ut,UU,UV,UW,Ta,Ti,Tj,Tm,Tn,Tp,Tq,Tu,Tw,Tx,zb,gp]
       tactic =>
        unfold uA
        rw[aF x.ps.length (fun j=>[.pt 0 0,.pt 1 0,rP (x.ps.map pI),I x.ps.length,I (j:Nat)]) (fun j=>gTa x [] (qT x j)++wP [] (qT x j))]
        ·rw[hPP]; (sym=>(simp[aN,aM,Za,Zb,Zf,Zg,Zh,Zj,Zl,Zm,Zp,Zq,Zv,Zy,Z3,ZD,ZF,ZN,ZO,ZS,ZT,ZU,Yg,Yo,Yq,YR,YT,YU,YX,Xa,Xn,Xo,Xp,Xq,Xr,Xu,Xz,XJ,Wb,We,Wv,Ww,Wx,Wz,W0,W3,W4,W6,WE,WH,WI,WJ,WK,WL,WM,WO,WP,Vc,Vd,Ve,Vp,Vr,Vs,Vt,Vu,Vv,Vx,V3,V4,V6,V7,V8,V9,VA,VD,VE,VF,VG,VK,VN,VP,VT,VU,VW,VX,VZ,Ua,Ub,Us,Ut,Uw,Ux,Uy,Uz,U0,UU,UV,UW,UZ,Ti,Tj,Tk,Tm,Tp,Tq,Tu,Tw,Tx,Sf,Sx,Sy,Sz,S2,S3,S4,S5,zb,zp,h1,h2,h3,h4,c1,c2,tC];all_goals tactic=>exact rfl))
        ·rw[P0]; (sym=>(simp[aN,aM,Za,Y7,YR,YX,YZ,Xn,Xr,Xt,Wv,W7,W8,WA,WB,WE,WF,WG,WI,WK,WL,WM,WN,WS,WT,WY,VK,VL,VM,VT,VU,VV,VW,VX,VZ,Ue,Ur,Ux,Uy,Uz,U0,Tv,TA];all_goals tactic=>exact rfl))
        ·exact rdb
        ·rw[hPP]; (sym=>(simp[aN,aM,Za,Zb,Zf,Zh,Zl,Zm,Z3,Yq,VK,VN,VP,VQ,VX,Ut,UU,Ti,Tj,Tm,Tp,Tq,Tw,zp];all_goals tactic=>exact rfl))
     ·rw[B0]; (sym=>(simp[aN,aM,Za,Y7,YR,YZ,Xn,Xt,Wv,W7,W8,WA,WB,WE,WF,WG,WI,WK,WL,WM,WN,WS,WT,WY,VL,VM,VT,VU,VV,VW,VX,VZ,Ue,Ur,Ux,Uy,Uz,U0,Tv,TA];all_goals tactic=>exact rfl))
     ·exact rda
     ·rw[hBB]; (sym=>(simp[aN,aM,Za,Zb,Zf,Zh,Zl,Zm,Z3,Yq,VK,VN,VP,VQ,VX,Ut,UU,Ti,Tj,Tm,Tp,Tq,Tw,zb];all_goals tactic=>exact rfl))
  ·have hRB:[]=RB:=hRB
   subst hRB
   have cp:bT (cP (p::r)) 0 3 (r.length+1)=RP:=cp
   have c3:((r.length+1)*3≤(cP (p::r)).length)=True:=eq_true (by rw[lp];simp)
   have h2:runW aA 29 [.agg [I x.F,.nilsl,.fs RP,I x.nur,I x.sick,I x.fix]] []=some (.tup [nL os,I e],[]):=(aIW _ (by simp)).trans h2
   have h4:runW aA 31 [.agg [I x.F,.nilsl,.fs RP,I x.nur,I x.sick,I x.fix]] []=some (.tup [nL ns,I g],[]):=(aIV _ (by simp)).trans h4
   rw[r13 (by simp)];unfold x13;dsimp only
   sym =>
    simp[aN,aM,Za,Zb,Zc,Zd,Ze,Zf,Zg,Zh,Zj,Zl,Zm,Zo,Zv,Zw,Zz,Z0,Z7,ZE,ZF,ZJ,ZK,ZN,ZO,ZS,ZT,ZZ,Ya,YO,YR,YU,YX,Xe,Xg,Xh,Xk,Xn,Xp,Xr,Wa,Wc,We,Wm,Wo,Wv,Ww,Wx,Wy,Wz,W0,W3,W4,W5,W6,WE,WH,WJ,WO,WP,Vc,Vd,Ve,Vp,Vr,Vs,Vu,Vv,Vx,VI,VS,VT,VU,VV,VW,VX,Ua,Ub,Uc,Ug,Un,Uw,Ux,Uy,Uz,U0,U1,U2,U7,U8,U9,UA,UB,UC,UI,UJ,UV,UW,UZ,Ta,Tb,Tc,Td,Tj,Tn,Tp,Tw,Tx,Sx,Sy,Sz,S3,S4,S5,e36,gb]
    tactic =>
     unfold uB
     rw[aF x.bs.length (fun j=>[.pt 0 0,.pt 1 0,I x.bs.length,I (j:Nat)]) (fun j=>gTa x (qQ x j) []++wP (qQ x j) [])]
     ·rw[hBB]
      sym =>
       simp[aN,aM,Za,Zb,Zf,Zh,Zl,Zm,Zv,Z3,Z7,ZE,ZF,ZZ,Ya,Yq,Wv,Ww,Wx,W6,VK,VN,VP,VX,Uc,Ut,UU,UV,UW,Ta,Ti,Tj,Tm,Tn,Tp,Tq,Tu,Tw,Tx,zb,gp]
       tactic =>
        unfold uA
        rw[aF x.ps.length (fun j=>[.pt 0 0,.pt 1 0,rP (x.ps.map pI),I x.ps.length,I (j:Nat)]) (fun j=>gTa x [] (qT x j)++wP [] (qT x j))]
        ·rw[hPP]; (sym=>(simp[aN,aM,Za,Zb,Zf,Zg,Zh,Zj,Zl,Zm,Zp,Zq,Zv,Zy,Z3,ZD,ZF,ZN,ZO,ZS,ZT,ZU,Yg,Yo,Yq,YR,YT,YU,YX,Xa,Xe,Xh,Xk,Xn,Xo,Xp,Xq,Xr,Xu,Xy,Xz,XJ,XK,XM,XQ,XW,XX,XY,XZ,Wb,We,Wv,Ww,Wx,Wy,Wz,W0,W3,W4,W6,WE,WH,WI,WJ,WK,WL,WM,WO,WP,Vc,Vd,Ve,Vl,Vm,Vo,Vp,Vq,Vr,Vs,Vt,Vu,Vv,Vw,Vx,Vz,V0,V1,V3,V4,V6,V7,V8,V9,VA,VD,VE,VF,VG,VK,VN,VP,VT,VU,VV,VW,VX,VZ,Ua,Ub,Ug,Un,Us,Ut,Uw,Ux,Uy,Uz,U0,U1,U2,U3,U4,U5,U6,UU,UV,UW,UZ,Ti,Tj,Tk,Tm,Tp,Tq,Tu,Tw,Tx,T9,Sf,Sg,Si,Sx,Sy,Sz,S2,S3,S4,S5,zb,zp,h1,h2,h3,h4,c1,c2,tC,cp,c3];all_goals tactic=>exact rfl))
        ·rw[P0]; (sym=>(simp[aN,aM,Za,Y7,YR,YX,YZ,Xn,Xr,Xt,Wv,W7,W8,WA,WB,WE,WF,WG,WI,WK,WL,WM,WN,WS,WT,WY,VK,VL,VM,VT,VU,VV,VW,VX,VZ,Ue,Ur,Ux,Uy,Uz,U0,Tv,TA];all_goals tactic=>exact rfl))
        ·exact rdb
        ·rw[hPP]; (sym=>(simp[aN,aM,Za,Zb,Zf,Zh,Zl,Zm,Z3,Yq,VK,VN,VP,VQ,VV,VW,Ut,UU,Ti,Tj,Tm,Tp,Tq,Tw,zp];all_goals tactic=>exact rfl))
     ·rw[B0]; (sym=>(simp[aN,aM,Za,Y7,YR,YZ,Xn,Xt,Wv,W7,W8,WA,WB,WE,WF,WG,WI,WK,WL,WM,WN,WS,WT,WY,VL,VM,VT,VU,VV,VW,VX,VZ,Ue,Ur,Ux,Uy,Uz,U0,Tv,TA];all_goals tactic=>exact rfl))
     ·exact rda
     ·rw[hBB]; (sym=>(simp[aN,aM,Za,Zb,Zf,Zh,Zl,Zm,Z3,Yq,VK,VN,VP,VQ,VX,Ut,UU,Ti,Tj,Tm,Tp,Tq,Tw,zb];all_goals tactic=>exact rfl))
 ·rcases PP with _|⟨p,r⟩
  ·have cb:bT (cQ (b::q)) 0 2 (q.length+1)=RB:=cb
   have b3:((q.length+1)*2≤(cQ (b::q)).length)=True:=eq_true (by rw[lb];simp)
   have hRP:[]=RP:=hRP
   subst hRP
   have h2:runW aA 29 [.agg [I x.F,.fs RB,.nilsl,I x.nur,I x.sick,I x.fix]] []=some (.tup [nL os,I e],[]):=(aIW _ (by simp)).trans h2
   have h4:runW aA 31 [.agg [I x.F,.fs RB,.nilsl,I x.nur,I x.sick,I x.fix]] []=some (.tup [nL ns,I g],[]):=(aIV _ (by simp)).trans h4
   rw[r13 (by simp)];unfold x13;dsimp only
   sym =>
    simp[aN,aM,Za,Zb,Zc,Zd,Ze,Zf,Zg,Zh,Zj,Zl,Zm,Zo,Zv,Zw,Zz,Z0,Z7,ZE,ZF,ZJ,ZK,ZN,ZO,ZS,ZT,ZZ,Ya,YO,YR,YU,YX,Xe,Xg,Xh,Xk,Xn,Xp,Xr,Wa,Wc,We,Wm,Wo,Wv,Ww,Wx,Wy,Wz,W0,W3,W4,W5,W6,WE,WH,WJ,WO,WP,Vc,Vd,Ve,Vp,Vr,Vs,Vu,Vv,Vx,VI,VS,VT,VU,VV,VW,VX,Ua,Ub,Uc,Ug,Un,Uw,Ux,Uy,Uz,U0,U1,U2,U7,U8,U9,UA,UB,UC,UI,UJ,UV,UW,UZ,Ta,Tb,Tc,Td,Tj,Tn,Tp,Tw,Tx,Sx,Sy,Sz,S3,S4,S5,e36,gb]
    tactic =>
     unfold uB
     rw[aF x.bs.length (fun j=>[.pt 0 0,.pt 1 0,I x.bs.length,I (j:Nat)]) (fun j=>gTa x (qQ x j) []++wP (qQ x j) [])]
     ·rw[hBB]
      sym =>
       simp[aN,aM,Za,Zb,Zf,Zh,Zl,Zm,Zv,Z3,Z7,ZE,ZF,ZZ,Ya,Yq,Wv,Ww,Wx,W6,VK,VN,VP,VV,VW,Uc,Ut,UU,UV,UW,Ta,Ti,Tj,Tm,Tn,Tp,Tq,Tu,Tw,Tx,zb,gp]
       tactic =>
        unfold uA
        rw[aF x.ps.length (fun j=>[.pt 0 0,.pt 1 0,rP (x.ps.map pI),I x.ps.length,I (j:Nat)]) (fun j=>gTa x (b::q) (qT x j)++wP (b::q) (qT x j))]
        ·rw[hPP]; (sym=>(simp[aN,aM,Za,Zb,Zf,Zg,Zh,Zj,Zl,Zm,Zp,Zq,Zv,Zy,Z3,ZD,ZF,ZN,ZO,ZS,ZT,ZU,Yg,Yo,Yq,YR,YT,YU,YX,Xa,Xe,Xh,Xk,Xn,Xo,Xp,Xq,Xr,Xu,Xy,Xz,XJ,XK,XM,XQ,XW,XX,XY,XZ,Wb,We,Wv,Ww,Wx,Wy,Wz,W0,W3,W4,W6,WE,WH,WI,WJ,WK,WL,WM,WO,WP,Vc,Vd,Ve,Vl,Vm,Vo,Vp,Vq,Vr,Vs,Vt,Vu,Vv,Vw,Vx,Vz,V0,V1,V3,V4,V6,V7,V8,V9,VA,VD,VE,VF,VG,VK,VN,VP,VT,VU,VV,VW,VX,VZ,Ua,Ub,Ug,Un,Us,Ut,Uw,Ux,Uy,Uz,U0,U1,U2,U3,U4,U5,U6,UU,UV,UW,UZ,Ti,Tj,Tk,Tm,Tp,Tq,Tu,Tw,Tx,T9,Sf,Sg,Si,Sx,Sy,Sz,S2,S3,S4,S5,zb,zp,h1,h2,h3,h4,c1,c2,tC,cb,b3];all_goals tactic=>exact rfl))
        ·rw[P0]; (sym=>(simp[aN,aM,Za,Y7,YR,YX,YY,YZ,Xa,Xn,Xr,Xs,Xt,Xu,Wv,W7,W8,WA,WB,WE,WF,WG,WI,WK,WL,WM,WN,WS,WT,WU,WY,WZ,VK,VL,VM,VT,VU,VV,VW,VX,VZ,Ue,Ur,Ux,Uy,Uz,U0,Tv,TA];all_goals tactic=>exact rfl))
        ·exact rdb
        ·rw[hPP]; (sym=>(simp[aN,aM,Za,Zb,Zf,Zh,Zl,Zm,Z3,Yq,VK,VN,VP,VQ,VV,VW,Ut,UU,Ti,Tj,Tm,Tp,Tq,Tw,zp];all_goals tactic=>exact rfl))
     ·rw[B0]; (sym=>(simp[aN,aM,Za,Y7,YR,YZ,Xn,Xt,Wv,W7,W8,WA,WB,WE,WF,WG,WI,WK,WL,WM,WN,WS,WT,WY,VL,VM,VT,VU,VV,VW,VX,VZ,Ue,Ur,Ux,Uy,Uz,U0,Tv,TA];all_goals tactic=>exact rfl))
     ·exact rda
     ·rw[hBB]; (sym=>(simp[aN,aM,Za,Zb,Zf,Zh,Zl,Zm,Z3,Yq,VK,VN,VP,VQ,VV,VW,Ut,UU,Ti,Tj,Tm,Tp,Tq,Tw,zb];all_goals tactic=>exact rfl))
  ·have cb:bT (cQ (b::q)) 0 2 (q.length+1)=RB:=cb
   have b3:((q.length+1)*2≤(cQ (b::q)).length)=True:=eq_true (by rw[lb];simp)
   have cp:bT (cP (p::r)) 0 3 (r.length+1)=RP:=cp
   have c3:((r.length+1)*3≤(cP (p::r)).length)=True:=eq_true (by rw[lp];simp)
   rw[r13 (by simp)];unfold x13;dsimp only
   sym =>
    simp[aN,aM,Za,Zb,Zc,Zd,Ze,Zf,Zg,Zh,Zj,Zl,Zm,Zo,Zv,Zw,Zz,Z0,Z7,ZE,ZF,ZJ,ZK,ZN,ZO,ZS,ZT,ZZ,Ya,YO,YR,YU,YX,Xe,Xg,Xh,Xk,Xn,Xp,Xr,Wa,Wc,We,Wm,Wo,Wv,Ww,Wx,Wy,Wz,W0,W3,W4,W5,W6,WE,WH,WJ,WO,WP,Vc,Vd,Ve,Vp,Vr,Vs,Vu,Vv,Vx,VI,VS,VT,VU,VV,VW,VX,Ua,Ub,Uc,Ug,Un,Uw,Ux,Uy,Uz,U0,U1,U2,U7,U8,U9,UA,UB,UC,UI,UJ,UV,UW,UZ,Ta,Tb,Tc,Td,Tj,Tn,Tp,Tw,Tx,Sx,Sy,Sz,S3,S4,S5,e36,gb]
    tactic =>
     unfold uB
     rw[aF x.bs.length (fun j=>[.pt 0 0,.pt 1 0,I x.bs.length,I (j:Nat)]) (fun j=>gTa x (qQ x j) []++wP (qQ x j) [])]
     ·rw[hBB]
      sym =>
       simp[aN,aM,Za,Zb,Zf,Zh,Zl,Zm,Zv,Z3,Z7,ZE,ZF,ZZ,Ya,Yq,Wv,Ww,Wx,W6,VK,VN,VP,VV,VW,Uc,Ut,UU,UV,UW,Ta,Ti,Tj,Tm,Tn,Tp,Tq,Tu,Tw,Tx,zb,gp]
       tactic =>
        unfold uA
        rw[aF x.ps.length (fun j=>[.pt 0 0,.pt 1 0,rP (x.ps.map pI),I x.ps.length,I (j:Nat)]) (fun j=>gTa x (b::q) (qT x j)++wP (b::q) (qT x j))]
        ·rw[hPP]; (sym=>(simp[aN,aM,Za,Zb,Zf,Zg,Zh,Zj,Zl,Zm,Zp,Zq,Zv,Zy,Z3,ZD,ZF,ZN,ZO,ZS,ZT,ZU,Yg,Yo,Yq,YR,YT,YU,YX,Xe,Xh,Xi,Xn,Xo,Xp,Xq,Xr,Xy,Xz,XJ,XK,XQ,XW,XX,XY,Wb,We,Wv,Ww,Wx,Wy,Wz,W0,W3,W4,W6,WE,WH,WI,WJ,WK,WL,WM,WO,WP,Vc,Vd,Ve,Vl,Vm,Vo,Vp,Vq,Vr,Vs,Vt,Vu,Vv,Vw,Vx,Vy,Vz,V0,V1,V3,V4,V6,V7,V8,V9,VA,VD,VE,VF,VG,VK,VN,VP,VT,VU,VV,VW,VX,VZ,Ua,Ub,Ug,Ui,Un,Uo,Us,Ut,Uw,Ux,Uy,Uz,U0,U1,U2,U3,U4,U5,U6,UU,UV,UW,UZ,Ti,Tj,Tk,Tm,Tp,Tq,Tu,Tw,Tx,T9,Sf,Sg,Si,Sx,Sy,Sz,S2,S3,S4,S5,zb,zp,h1,h2,h3,h4,c1,c2,tC,cb,b3,cp,c3];all_goals tactic=>exact rfl))
        ·rw[P0]; (sym=>(simp[aN,aM,Za,Y7,YR,YX,YY,YZ,Xa,Xn,Xr,Xs,Xt,Xu,Wv,W7,W8,WA,WB,WE,WF,WG,WI,WK,WL,WM,WN,WS,WT,WU,WY,WZ,VK,VL,VM,VT,VU,VV,VW,VX,VZ,Ue,Ur,Ux,Uy,Uz,U0,Tv,TA];all_goals tactic=>exact rfl))
        ·exact rdb
        ·rw[hPP]; (sym=>(simp[aN,aM,Za,Zb,Zf,Zh,Zl,Zm,Z3,Yq,VK,VN,VP,VQ,VV,VW,Ut,UU,Ti,Tj,Tm,Tp,Tq,Tw,zp];all_goals tactic=>exact rfl))
     ·rw[B0]; (sym=>(simp[aN,aM,Za,Y7,YR,YZ,Xn,Xt,Wv,W7,W8,WA,WB,WE,WF,WG,WI,WK,WL,WM,WN,WS,WT,WY,VL,VM,VT,VU,VV,VW,VX,VZ,Ue,Ur,Ux,Uy,Uz,U0,Tv,TA];all_goals tactic=>exact rfl))
     ·exact rda
     ·rw[hBB]; (sym=>(simp[aN,aM,Za,Zb,Zf,Zh,Zl,Zm,Z3,Yq,VK,VN,VP,VQ,VV,VW,Ut,UU,Ti,Tj,Tm,Tp,Tq,Tw,zb];all_goals tactic=>exact rfl))
end Go.Proofs.YtiabjdfdkiijmaaDoor
