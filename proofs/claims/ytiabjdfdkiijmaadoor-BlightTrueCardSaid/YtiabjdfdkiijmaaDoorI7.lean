/- Parts of a proof, joined: K85 K86 K87 K88 K89 K90 K91 K92 K93 K94 K95 K96 K97 K98 K99 K100 K101 K102 K103 K104 K105 K106 K107 K108. No statement of the seed is proved here. -/
import Derived.Test.YtiabjdfdkiijmaaDoorI6
set_option linter.unusedSimpArgs false
set_option linter.unusedVariables false
set_option linter.unusedSectionVars false
namespace Go.Proofs.YtiabjdfdkiijmaaDoor
open Go Go.DL
set_option maxRecDepth 100000
set_option maxHeartbeats 4000000
theorem w36 {l:La} (ok:l.Ok):runW aA 36 [.agg l.c] []=some (.agg l.md.c,[]):=by
 have hk:=l.k_lt
 have v0:=wr8 ok.F
 have v1:=wr8 ok.s
 have v2:=wr8 ok.n
 have v3:=wr8 ok.f
 have q0:jQ (l.F:Int) 7=((l.F%7:Nat):Int):=bD l.F 7
 have q1:IntKind.i64.wrap (2+((l.F%7:Nat):Int))=(l.k:Int):=by unfold La.k;rw[aD (by omega) (by omega)];omega
 have n0:((l.k:Int)<0)=False:=eq_false (by omega)
 have e:=nG bW (i:=l.k) (by omega)
 have pz:(((2^l.k:Nat):Int)=0)=False:=eq_false (by have:=Nat.two_pow_pos l.k;omega)
 have q2:=bD l.s (2^l.k)
 have q3:=bD l.n (2^l.k)
 have q4:=bD l.f (2^l.k)
 have rda:=fun j (h1:j<l.bs.length) (h2:j<12)=>aEN ok (S:=(l.s%2^l.k:Nat)) (N:=(l.n%2^l.k:Nat)) (X:=(l.f%2^l.k:Nat)) h1 h2
 obtain⟨mb,hmb⟩:∃ m,m=min 12 l.bs.length:=⟨_,rfl⟩
 obtain⟨mp,hmp⟩:∃ m,m=min 5 l.ps.length:=⟨_,rfl⟩
 have rdb:=fun j (h1:j<l.ps.length) (h2:j<5)=>aEM ok (S:=(l.s%2^l.k:Nat)) (N:=(l.n%2^l.k:Nat)) (X:=(l.f%2^l.k:Nat)) (wP l mb) h1 h2
 have B0:wP l 0=[]:=rfl
 have P0:rN l 0=[]:=rfl
 have hB:wP l mb=(l.md.bs).map bI:=by
  show _=List.map bI ((l.bs.take 12).map (toB l.k))
  rw[wP,hmb,show l.bs.take (min 12 l.bs.length)=l.bs.take 12 by rw[←List.take_take,List.take_length]]
 have hP:rN l mp=(l.md.ps).map pI:=by
  show _=List.map pI ((l.ps.take 5).map (toP l.k))
  rw[rN,hmp,show l.ps.take (min 5 l.ps.length)=l.ps.take 5 by rw[←List.take_take,List.take_length]]
 have hres:(AV.agg l.md.c) = .agg [I l.k,.fs ((wP l mb).map qR),.fs ((rN l mp).map pR),I (l.s%2^l.k:Nat),I (l.n%2^l.k:Nat),I (l.f%2^l.k:Nat)]:=by rw[hB,hP];rfl
 have zb:(mb<l.bs.length∧mb<12)∨True:=.inr trivial
 have cb:=aLe (wP l mb)
 have cp:=aLf (rN l mp)
 have lb:=aGm (wP l mb)
 have lp:=aGn (rN l mp)
 have stb:((mb:Int)<(l.bs.length:Int))=False∨((mb:Int)<(l.bs.length:Int))=True∧((mb:Int)<12)=False:=by
  by_cases h:mb<l.bs.length
  ·exact .inr ⟨eq_true (by omega),eq_false (by omega)⟩
  ·exact .inl (eq_false (by omega))
 have stp:((mp:Int)<(l.ps.length:Int))=False∨((mp:Int)<(l.ps.length:Int))=True∧((mp:Int)<5)=False:=by
  by_cases h:mp<l.ps.length
  ·exact .inr ⟨eq_true (by omega),eq_false (by omega)⟩
  ·exact .inl (eq_false (by omega))
 rw[hres]
 clear hres hB hP
 have rda:∀ j,j<mb→_:=fun j hj=>rda j (by omega) (by omega)
 have rdb:∀ j,j<mp→_:=fun j hj=>rdb j (by omega) (by omega)
 generalize hS:l.s%2^l.k=S at *
 generalize hN:l.n%2^l.k=N at *
 generalize hX:l.f%2^l.k=X at *
 generalize 2^l.k=p2 at *
 generalize l.F%7=r7 at *
 generalize hBB:wP l mb=BB at *
 generalize hPP:rN l mp=PP at *
 have stb':=stb
 have stp':=stp
 rw[r36 (by simp)];unfold x36;dsimp only
 sym =>
  simp[aM,aN,bH,bN,bM,Za,Zb,Zc,Zd,Ze,Zf,Zh,Zi,Zl,Zm,Zo,Zv,Zw,Zz,Z0,Z3,Z7,Z8,ZG,ZH,ZJ,ZK,ZM,ZN,Ya,Yb,Yj,Yo,Yx,YQ,Xg,Xi,Xj,Xm,Wc,We,Wg,Wo,Wq,Ww,Wx,Wy,Wz,W0,W3,W5,W6,W7,W9,Vj,VL,VV,VW,VX,VY,VZ,Ua,Ud,Ue,Uj,Un,Uo,Ur,Uw,Ux,Uy,U4,U5,UA,UB,UC,UD,UE,UF,UL,UM,UY,UZ,Td,Te,Tf,Tg,Tl,Tm,Tr,Ts,Tz,T0,Si,v0,v1,v2,v3,q0,q1,n0,e,pz,q2,q3,q4]
  tactic =>
   unfold aCq
   rw[aF mb (fun j=>[.pt 0 0,.pt 1 0,I l.k,.pt 2 0,I (j:Nat)]) (fun j=>gLa l S N X (wP l j) []++gLb (wP l j) [])]
   ·rw[hBB]
    rcases stb with sb|⟨sb,sb2⟩
    ·rcases BB with _|⟨b,q⟩
     ·sym =>
      simp[aM,aN,bH,bN,bM,Za,Zb,Zf,Zh,Zl,Zm,Zp,Zs,Zv,Zy,Z3,Z8,ZF,ZG,ZW,Yb,Yc,Ys,Wx,Wy,Wz,W9,VN,VQ,VS,VX,Ua,Uf,Uw,UY,UZ,Td,Tl,Tm,Tq,Tr,Ts,Tt,Tx,Tz,T0,sb]
      tactic =>
       unfold uG
       rw[aF mp (fun j=>[.pt 0 0,.pt 1 0,I l.k,.pt 2 0,I (j:Nat)]) (fun j=>gLa l S N X [] (rN l j)++gLb [] (rN l j))]
       ·rw[hPP]
        rcases stp with sp|⟨sp,sp2⟩
        ·rcases PP with _|⟨p,r⟩
         ·(sym=>(simp[aM,aN,bH,bN,bM,Za,Zb,Zc,Zf,Zh,Zl,Zm,Zp,Zs,Zv,Zy,Z3,Z8,ZF,ZG,ZK,ZL,ZW,Yb,Yc,Ys,YU,YX,YZ,Xg,Xm,Xp,Xr,Xt,X0,XJ,XO,Wc,We,Wj,Wq,Wx,Wy,Wz,W0,W3,W4,W5,W6,W9,WH,WL,WN,WO,WP,Vs,V6,V7,V9,VA,VB,VC,VD,VG,VH,VI,VK,VN,VQ,VS,VX,VZ,Ua,Uc,Ud,Ue,Uf,Uj,Ur,Uw,U0,U1,U2,U3,U4,U5,U6,U7,UA,UB,UC,UY,UZ,Tc,Td,Te,Tf,Tl,Tm,Tn,Tq,Ts,Tt,Tx,Tz,T0,Sl,sp];all_goals tactic=>exact rfl))
         ·have cp:cC (cP (p::r)) 0 3 (r.length+1)=(p::r).map pR:=cp
          have c3:((r.length+1)*3≤(cP (p::r)).length)=True:=eq_true (by rw[lp];simp)
          (sym=>(simp[aM,aN,bH,bN,bM,Za,Zb,Zc,Zf,Zh,Zl,Zm,Zp,Zs,Zv,Zy,Z3,Z8,ZF,ZG,ZK,ZL,ZW,Yb,Yc,Ys,YU,YX,YZ,Xg,Xj,Xk,Xm,Xp,Xr,Xt,X0,XJ,XM,XO,XV,XW,XZ,Wb,Wc,We,Wg,Wj,Wq,Wx,Wy,Wz,W0,W3,W4,W5,W6,W9,WH,WL,WN,WO,WP,Vp,Vq,Vr,Vs,Vt,V2,V3,V4,V6,V7,V9,VA,VB,VC,VD,VG,VH,VI,VK,VN,VQ,VS,VW,VX,VY,VZ,Ua,Uc,Ud,Ue,Uf,Uj,Ul,Ur,Uw,U0,U1,U2,U3,U4,U5,U6,U7,U8,U9,UA,UB,UC,UY,UZ,Tc,Td,Te,Tf,Tl,Tm,Tn,Tq,Ts,Tt,Tx,Tz,T0,TC,Sl,Sm,Sn,sp,cp,c3];all_goals tactic=>exact rfl))
        ·rcases PP with _|⟨p,r⟩
         ·(sym=>(simp[aM,aN,bH,bN,bM,Za,Zb,Zc,Zf,Zh,Zl,Zm,Zp,Zq,Zv,Zy,Z3,Z8,ZF,ZG,ZK,ZL,ZV,Yb,Yc,Ys,YU,YX,YZ,Xg,Xm,Xp,Xr,Xt,X0,XJ,XO,Wc,We,Wj,Wq,Wx,Wy,Wz,W0,W3,W4,W5,W6,W9,WH,WL,WN,WO,WP,Vs,V6,V7,V9,VA,VB,VC,VD,VG,VH,VI,VK,VN,VQ,VS,VX,VZ,Ua,Uc,Ud,Ue,Uf,Uj,Ur,Uv,Uw,U0,U1,U2,U3,U4,U5,U6,U7,UA,UB,UC,UY,UZ,Tc,Td,Te,Tf,Tl,Tm,Tn,Tq,Ts,Tt,Tx,Tz,T0,Sl,sp,sp2];all_goals tactic=>exact rfl))
         ·have cp:cC (cP (p::r)) 0 3 (r.length+1)=(p::r).map pR:=cp
          have c3:((r.length+1)*3≤(cP (p::r)).length)=True:=eq_true (by rw[lp];simp)
          (sym=>(simp[aM,aN,bH,bN,bM,Za,Zb,Zc,Zf,Zh,Zl,Zm,Zp,Zq,Zv,Zy,Z3,Z8,ZF,ZG,ZK,ZL,ZV,Yb,Yc,Ys,YU,YX,YZ,Xg,Xj,Xk,Xm,Xp,Xr,Xt,X0,XJ,XM,XO,XV,XW,XZ,Wb,Wc,We,Wg,Wj,Wq,Wx,Wy,Wz,W0,W3,W4,W5,W6,W9,WH,WL,WN,WO,WP,Vp,Vq,Vr,Vs,Vt,V2,V3,V4,V6,V7,V9,VA,VB,VC,VD,VG,VH,VI,VK,VN,VQ,VS,VW,VX,VY,VZ,Ua,Uc,Ud,Ue,Uf,Uj,Ul,Ur,Uv,Uw,U0,U1,U2,U3,U4,U5,U6,U7,U8,U9,UA,UB,UC,UY,UZ,Tc,Td,Te,Tf,Tl,Tm,Tn,Tq,Ts,Tt,Tx,Tz,T0,TC,Sl,Sm,Sn,sp,sp2,cp,c3];all_goals tactic=>exact rfl))
       ·rw[P0]; (sym=>(simp[aM,aN,bH,bN,bM,Za,Y9,YU,Xb,Xp,Xv,Wx,WA,WB,WE,WF,WH,WI,WJ,WL,WN,WO,WP,WQ,WV,WW,Vc,VN,VO,VP,VW,VX,VY,VZ,Ua,Uc,Uh,Uu,U0,U1,U2,U3,Ty,TD];all_goals tactic=>exact rfl))
       ·exact rdb
       ·rw[hPP]
        rcases stp with sp|⟨sp,sp2⟩
        ·rcases PP with _|⟨p,r⟩
         ·(sym=>(simp[aM,aN,bH,bN,bM,Za,Zb,Zf,Zh,Zl,Zm,Zp,Zs,Zv,Zy,Z3,Z8,ZF,ZG,ZW,Yb,Yc,Ys,Wx,Wy,Wz,W9,VN,VQ,VS,VT,Ua,Uf,Uw,UY,UZ,Td,Tl,Tm,Tq,Ts,Tt,Tz,T0,sp];all_goals tactic=>exact rfl))
         ·(sym=>(simp[aM,aN,bH,bN,bM,Za,Zb,Zf,Zh,Zl,Zm,Zp,Zs,Zv,Zy,Z3,Z8,ZF,ZG,ZW,Yb,Yc,Ys,Wx,Wy,Wz,W9,VN,VQ,VS,VT,VY,VZ,Uf,Uw,UY,UZ,Td,Tl,Tm,Tq,Ts,Tt,Tz,T0,sp];all_goals tactic=>exact rfl))
        ·rcases PP with _|⟨p,r⟩
         ·(sym=>(simp[aM,aN,bH,bN,bM,Za,Zb,Zf,Zh,Zl,Zm,Zp,Zq,Zv,Zy,Z3,Z8,ZF,ZG,ZV,Yb,Yc,Ys,Wx,Wy,Wz,W9,VN,VQ,VS,VT,Ua,Uf,Uv,Uw,UY,UZ,Td,Tl,Tm,Tq,Ts,Tt,Tz,T0,sp,sp2];all_goals tactic=>exact rfl))
         ·(sym=>(simp[aM,aN,bH,bN,bM,Za,Zb,Zf,Zh,Zl,Zm,Zp,Zq,Zv,Zy,Z3,Z8,ZF,ZG,ZV,Yb,Yc,Ys,Wx,Wy,Wz,W9,VN,VQ,VS,VT,VY,VZ,Uf,Uv,Uw,UY,UZ,Td,Tl,Tm,Tq,Ts,Tt,Tz,T0,sp,sp2];all_goals tactic=>exact rfl))
     ·have cb:cC (cQ (b::q)) 0 2 (q.length+1)=(b::q).map qR:=cb
      have b3:((q.length+1)*2≤(cQ (b::q)).length)=True:=eq_true (by rw[lb];simp)
      sym =>
       simp[aM,aN,bH,bN,bM,Za,Zb,Zf,Zh,Zl,Zm,Zp,Zs,Zv,Zy,Z3,Z8,ZF,ZG,ZW,Yb,Yc,Ys,Wx,Wy,Wz,W9,VN,VQ,VS,VW,VY,VZ,Uf,Uw,UY,UZ,Td,Tl,Tm,Tq,Tr,Ts,Tt,Tx,Tz,T0,sb]
       tactic =>
        unfold uG
        rw[aF mp (fun j=>[.pt 0 0,.pt 1 0,I l.k,.pt 2 0,I (j:Nat)]) (fun j=>gLa l S N X (b::q) (rN l j)++gLb (b::q) (rN l j))]
        ·rw[hPP]
         rcases stp with sp|⟨sp,sp2⟩
         ·rcases PP with _|⟨p,r⟩
          ·(sym=>(simp[aM,aN,bH,bN,bM,Za,Zb,Zc,Zf,Zh,Zl,Zm,Zp,Zs,Zv,Zy,Z3,Z8,ZF,ZG,ZK,ZL,ZW,Yb,Yc,Ys,YU,YX,YZ,Xg,Xj,Xk,Xm,Xp,Xr,Xt,X0,XJ,XM,XO,XV,XW,XZ,Wb,Wc,We,Wg,Wj,Wq,Wx,Wy,Wz,W0,W3,W4,W5,W6,W9,WH,WL,WN,WO,WP,Vp,Vq,Vr,Vs,Vt,V2,V3,V4,V6,V7,V9,VA,VB,VC,VD,VG,VH,VI,VK,VN,VQ,VS,VW,VX,VY,VZ,Ua,Uc,Ud,Ue,Uf,Uj,Ul,Ur,Uw,U0,U1,U2,U3,U4,U5,U6,U7,U8,U9,UA,UB,UC,UY,UZ,Tc,Td,Te,Tf,Tl,Tm,Tn,Tq,Ts,Tt,Tx,Tz,T0,TC,Sl,Sm,Sn,sp,cb,b3];all_goals tactic=>exact rfl))
          ·have cp:cC (cP (p::r)) 0 3 (r.length+1)=(p::r).map pR:=cp
           have c3:((r.length+1)*3≤(cP (p::r)).length)=True:=eq_true (by rw[lp];simp)
           (sym=>(simp[aM,aN,bH,bN,bM,Za,Zb,Zc,Zf,Zh,Zl,Zm,Zp,Zs,Zv,Zy,Z3,Z8,ZF,ZG,ZK,ZL,ZW,Yb,Yc,Ys,YU,YX,YZ,Xg,Xj,Xk,Xp,Xr,Xt,X0,XJ,XM,XV,XW,XY,XZ,Wc,We,Wg,Wq,Wx,Wy,Wz,W0,W3,W4,W5,W6,W9,WH,WL,WN,WO,WP,Vp,Vq,Vr,Vs,Vt,V1,V2,V3,V4,V6,V7,V9,VA,VB,VC,VD,VG,VH,VI,VK,VN,VQ,VS,VW,VX,VY,VZ,Ua,Uc,Ud,Ue,Uf,Uj,Ul,Ur,Us,Uw,U0,U1,U2,U3,U4,U5,U6,U7,U8,U9,UA,UB,UC,UY,UZ,Tc,Td,Te,Tf,Tl,Tm,Tn,Tq,Ts,Tt,Tx,Tz,T0,TC,Sl,Sm,Sn,sp,cp,c3,cb,b3];all_goals tactic=>exact rfl))
         ·rcases PP with _|⟨p,r⟩
          ·(sym=>(simp[aM,aN,bH,bN,bM,Za,Zb,Zc,Zf,Zh,Zl,Zm,Zp,Zq,Zv,Zy,Z3,Z8,ZF,ZG,ZK,ZL,ZV,Yb,Yc,Ys,YU,YX,YZ,Xg,Xj,Xk,Xm,Xp,Xr,Xt,X0,XJ,XM,XO,XV,XW,XZ,Wb,Wc,We,Wg,Wj,Wq,Wx,Wy,Wz,W0,W3,W4,W5,W6,W9,WH,WL,WN,WO,WP,Vp,Vq,Vr,Vs,Vt,V2,V3,V4,V6,V7,V9,VA,VB,VC,VD,VG,VH,VI,VK,VN,VQ,VS,VW,VX,VY,VZ,Ua,Uc,Ud,Ue,Uf,Uj,Ul,Ur,Uv,Uw,U0,U1,U2,U3,U4,U5,U6,U7,U8,U9,UA,UB,UC,UY,UZ,Tc,Td,Te,Tf,Tl,Tm,Tn,Tq,Ts,Tt,Tx,Tz,T0,TC,Sl,Sm,Sn,sp,sp2,cb,b3];all_goals tactic=>exact rfl))
          ·have cp:cC (cP (p::r)) 0 3 (r.length+1)=(p::r).map pR:=cp
           have c3:((r.length+1)*3≤(cP (p::r)).length)=True:=eq_true (by rw[lp];simp)
           (sym=>(simp[aM,aN,bH,bN,bM,Za,Zb,Zc,Zf,Zh,Zl,Zm,Zp,Zq,Zv,Zy,Z3,Z8,ZF,ZG,ZK,ZL,ZV,Yb,Yc,Ys,YU,YX,YZ,Xg,Xj,Xk,Xp,Xr,Xt,X0,XJ,XM,XV,XW,XY,XZ,Wc,We,Wg,Wq,Wx,Wy,Wz,W0,W3,W4,W5,W6,W9,WH,WL,WN,WO,WP,Vp,Vq,Vr,Vs,Vt,V1,V2,V3,V4,V6,V7,V9,VA,VB,VC,VD,VG,VH,VI,VK,VN,VQ,VS,VW,VX,VY,VZ,Ua,Uc,Ud,Ue,Uf,Uj,Ul,Ur,Us,Uv,Uw,U0,U1,U2,U3,U4,U5,U6,U7,U8,U9,UA,UB,UC,UY,UZ,Tc,Td,Te,Tf,Tl,Tm,Tn,Tq,Ts,Tt,Tx,Tz,T0,TC,Sl,Sm,Sn,sp,sp2,cp,c3,cb,b3];all_goals tactic=>exact rfl))
        ·rw[P0]; (sym=>(simp[aM,aN,bH,bN,bM,Za,Y9,YU,Xa,Xb,Xc,Xp,Xu,Xv,Xw,Wx,WA,WB,WE,WF,WH,WI,WJ,WL,WN,WO,WP,WQ,WV,WW,WX,Vc,Vd,VN,VO,VP,VW,VX,VY,VZ,Ua,Uc,Uh,Uu,U0,U1,U2,U3,Ty,TD];all_goals tactic=>exact rfl))
        ·exact rdb
        ·rw[hPP]
         rcases stp with sp|⟨sp,sp2⟩
         ·rcases PP with _|⟨p,r⟩
          ·(sym=>(simp[aM,aN,bH,bN,bM,Za,Zb,Zf,Zh,Zl,Zm,Zp,Zs,Zv,Zy,Z3,Z8,ZF,ZG,ZW,Yb,Yc,Ys,Wx,Wy,Wz,W9,VN,VQ,VS,VT,VY,VZ,Uf,Uw,UY,UZ,Td,Tl,Tm,Tq,Ts,Tt,Tz,T0,sp];all_goals tactic=>exact rfl))
          ·(sym=>(simp[aM,aN,bH,bN,bM,Za,Zb,Zf,Zh,Zl,Zm,Zp,Zs,Zv,Zy,Z3,Z8,ZF,ZG,ZW,Yb,Yc,Ys,Wx,Wy,Wz,W9,VN,VQ,VS,VT,VY,VZ,Uf,Uw,UY,UZ,Td,Tl,Tm,Tq,Ts,Tt,Tz,T0,sp];all_goals tactic=>exact rfl))
         ·rcases PP with _|⟨p,r⟩
          ·(sym=>(simp[aM,aN,bH,bN,bM,Za,Zb,Zf,Zh,Zl,Zm,Zp,Zq,Zv,Zy,Z3,Z8,ZF,ZG,ZV,Yb,Yc,Ys,Wx,Wy,Wz,W9,VN,VQ,VS,VT,VY,VZ,Uf,Uv,Uw,UY,UZ,Td,Tl,Tm,Tq,Ts,Tt,Tz,T0,sp,sp2];all_goals tactic=>exact rfl))
          ·(sym=>(simp[aM,aN,bH,bN,bM,Za,Zb,Zf,Zh,Zl,Zm,Zp,Zq,Zv,Zy,Z3,Z8,ZF,ZG,ZV,Yb,Yc,Ys,Wx,Wy,Wz,W9,VN,VQ,VS,VT,VY,VZ,Uf,Uv,Uw,UY,UZ,Td,Tl,Tm,Tq,Ts,Tt,Tz,T0,sp,sp2];all_goals tactic=>exact rfl))
    ·rcases BB with _|⟨b,q⟩
     ·sym =>
      simp[aM,aN,bH,bN,bM,Za,Zb,Zf,Zh,Zl,Zm,Zp,Zq,Zv,Zy,Z3,Z8,ZF,ZG,ZV,Yb,Yc,Ys,Wx,Wy,Wz,W9,VN,VQ,VS,VX,Ua,Uf,Uv,Uw,UY,UZ,Td,Tl,Tm,Tq,Tr,Ts,Tt,Tx,Tz,T0,sb,sb2]
      tactic =>
       unfold uG
       rw[aF mp (fun j=>[.pt 0 0,.pt 1 0,I l.k,.pt 2 0,I (j:Nat)]) (fun j=>gLa l S N X [] (rN l j)++gLb [] (rN l j))]
       ·rw[hPP]
        rcases stp with sp|⟨sp,sp2⟩
        ·rcases PP with _|⟨p,r⟩
         ·(sym=>(simp[aM,aN,bH,bN,bM,Za,Zb,Zc,Zf,Zh,Zl,Zm,Zp,Zs,Zv,Zy,Z3,Z8,ZF,ZG,ZK,ZL,ZW,Yb,Yc,Ys,YU,YX,YZ,Xg,Xm,Xp,Xr,Xt,X0,XJ,XO,Wc,We,Wj,Wq,Wx,Wy,Wz,W0,W3,W4,W5,W6,W9,WH,WL,WN,WO,WP,Vs,V6,V7,V9,VA,VB,VC,VD,VG,VH,VI,VK,VN,VQ,VS,VX,VZ,Ua,Uc,Ud,Ue,Uf,Uj,Ur,Uw,U0,U1,U2,U3,U4,U5,U6,U7,UA,UB,UC,UY,UZ,Tc,Td,Te,Tf,Tl,Tm,Tn,Tq,Ts,Tt,Tx,Tz,T0,Sl,sp];all_goals tactic=>exact rfl))
         ·have cp:cC (cP (p::r)) 0 3 (r.length+1)=(p::r).map pR:=cp
          have c3:((r.length+1)*3≤(cP (p::r)).length)=True:=eq_true (by rw[lp];simp)
          (sym=>(simp[aM,aN,bH,bN,bM,Za,Zb,Zc,Zf,Zh,Zl,Zm,Zp,Zs,Zv,Zy,Z3,Z8,ZF,ZG,ZK,ZL,ZW,Yb,Yc,Ys,YU,YX,YZ,Xg,Xj,Xk,Xm,Xp,Xr,Xt,X0,XJ,XM,XO,XV,XW,XZ,Wb,Wc,We,Wg,Wj,Wq,Wx,Wy,Wz,W0,W3,W4,W5,W6,W9,WH,WL,WN,WO,WP,Vp,Vq,Vr,Vs,Vt,V2,V3,V4,V6,V7,V9,VA,VB,VC,VD,VG,VH,VI,VK,VN,VQ,VS,VW,VX,VY,VZ,Ua,Uc,Ud,Ue,Uf,Uj,Ul,Ur,Uw,U0,U1,U2,U3,U4,U5,U6,U7,U8,U9,UA,UB,UC,UY,UZ,Tc,Td,Te,Tf,Tl,Tm,Tn,Tq,Ts,Tt,Tx,Tz,T0,TC,Sl,Sm,Sn,sp,cp,c3];all_goals tactic=>exact rfl))
        ·rcases PP with _|⟨p,r⟩
         ·(sym=>(simp[aM,aN,bH,bN,bM,Za,Zb,Zc,Zf,Zh,Zl,Zm,Zp,Zq,Zv,Zy,Z3,Z8,ZF,ZG,ZK,ZL,ZV,Yb,Yc,Ys,YU,YX,YZ,Xg,Xm,Xp,Xr,Xt,X0,XJ,XO,Wc,We,Wj,Wq,Wx,Wy,Wz,W0,W3,W4,W5,W6,W9,WH,WL,WN,WO,WP,Vs,V6,V7,V9,VA,VB,VC,VD,VG,VH,VI,VK,VN,VQ,VS,VX,VZ,Ua,Uc,Ud,Ue,Uf,Uj,Ur,Uv,Uw,U0,U1,U2,U3,U4,U5,U6,U7,UA,UB,UC,UY,UZ,Tc,Td,Te,Tf,Tl,Tm,Tn,Tq,Ts,Tt,Tx,Tz,T0,Sl,sp,sp2];all_goals tactic=>exact rfl))
         ·have cp:cC (cP (p::r)) 0 3 (r.length+1)=(p::r).map pR:=cp
          have c3:((r.length+1)*3≤(cP (p::r)).length)=True:=eq_true (by rw[lp];simp)
          (sym=>(simp[aM,aN,bH,bN,bM,Za,Zb,Zc,Zf,Zh,Zl,Zm,Zp,Zq,Zv,Zy,Z3,Z8,ZF,ZG,ZK,ZL,ZV,Yb,Yc,Ys,YU,YX,YZ,Xg,Xj,Xk,Xm,Xp,Xr,Xt,X0,XJ,XM,XO,XV,XW,XZ,Wb,Wc,We,Wg,Wj,Wq,Wx,Wy,Wz,W0,W3,W4,W5,W6,W9,WH,WL,WN,WO,WP,Vp,Vq,Vr,Vs,Vt,V2,V3,V4,V6,V7,V9,VA,VB,VC,VD,VG,VH,VI,VK,VN,VQ,VS,VW,VX,VY,VZ,Ua,Uc,Ud,Ue,Uf,Uj,Ul,Ur,Uv,Uw,U0,U1,U2,U3,U4,U5,U6,U7,U8,U9,UA,UB,UC,UY,UZ,Tc,Td,Te,Tf,Tl,Tm,Tn,Tq,Ts,Tt,Tx,Tz,T0,TC,Sl,Sm,Sn,sp,sp2,cp,c3];all_goals tactic=>exact rfl))
       ·rw[P0]; (sym=>(simp[aM,aN,bH,bN,bM,Za,Y9,YU,Xb,Xp,Xv,Wx,WA,WB,WE,WF,WH,WI,WJ,WL,WN,WO,WP,WQ,WV,WW,Vc,VN,VO,VP,VW,VX,VY,VZ,Ua,Uc,Uh,Uu,U0,U1,U2,U3,Ty,TD];all_goals tactic=>exact rfl))
       ·exact rdb
       ·rw[hPP]
        rcases stp with sp|⟨sp,sp2⟩
        ·rcases PP with _|⟨p,r⟩
         ·(sym=>(simp[aM,aN,bH,bN,bM,Za,Zb,Zf,Zh,Zl,Zm,Zp,Zs,Zv,Zy,Z3,Z8,ZF,ZG,ZW,Yb,Yc,Ys,Wx,Wy,Wz,W9,VN,VQ,VS,VT,Ua,Uf,Uw,UY,UZ,Td,Tl,Tm,Tq,Ts,Tt,Tz,T0,sp];all_goals tactic=>exact rfl))
         ·(sym=>(simp[aM,aN,bH,bN,bM,Za,Zb,Zf,Zh,Zl,Zm,Zp,Zs,Zv,Zy,Z3,Z8,ZF,ZG,ZW,Yb,Yc,Ys,Wx,Wy,Wz,W9,VN,VQ,VS,VT,VY,VZ,Uf,Uw,UY,UZ,Td,Tl,Tm,Tq,Ts,Tt,Tz,T0,sp];all_goals tactic=>exact rfl))
        ·rcases PP with _|⟨p,r⟩
         ·(sym=>(simp[aM,aN,bH,bN,bM,Za,Zb,Zf,Zh,Zl,Zm,Zp,Zq,Zv,Zy,Z3,Z8,ZF,ZG,ZV,Yb,Yc,Ys,Wx,Wy,Wz,W9,VN,VQ,VS,VT,Ua,Uf,Uv,Uw,UY,UZ,Td,Tl,Tm,Tq,Ts,Tt,Tz,T0,sp,sp2];all_goals tactic=>exact rfl))
         ·(sym=>(simp[aM,aN,bH,bN,bM,Za,Zb,Zf,Zh,Zl,Zm,Zp,Zq,Zv,Zy,Z3,Z8,ZF,ZG,ZV,Yb,Yc,Ys,Wx,Wy,Wz,W9,VN,VQ,VS,VT,VY,VZ,Uf,Uv,Uw,UY,UZ,Td,Tl,Tm,Tq,Ts,Tt,Tz,T0,sp,sp2];all_goals tactic=>exact rfl))
     ·have cb:cC (cQ (b::q)) 0 2 (q.length+1)=(b::q).map qR:=cb
      have b3:((q.length+1)*2≤(cQ (b::q)).length)=True:=eq_true (by rw[lb];simp)
      sym =>
       simp[aM,aN,bH,bN,bM,Za,Zb,Zf,Zh,Zl,Zm,Zp,Zq,Zv,Zy,Z3,Z8,ZF,ZG,ZV,Yb,Yc,Ys,Wx,Wy,Wz,W9,VN,VQ,VS,VW,VY,VZ,Uf,Uv,Uw,UY,UZ,Td,Tl,Tm,Tq,Tr,Ts,Tt,Tx,Tz,T0,sb,sb2]
       tactic =>
        unfold uG
        rw[aF mp (fun j=>[.pt 0 0,.pt 1 0,I l.k,.pt 2 0,I (j:Nat)]) (fun j=>gLa l S N X (b::q) (rN l j)++gLb (b::q) (rN l j))]
        ·rw[hPP]
         rcases stp with sp|⟨sp,sp2⟩
         ·rcases PP with _|⟨p,r⟩
          ·(sym=>(simp[aM,aN,bH,bN,bM,Za,Zb,Zc,Zf,Zh,Zl,Zm,Zp,Zs,Zv,Zy,Z3,Z8,ZF,ZG,ZK,ZL,ZW,Yb,Yc,Ys,YU,YX,YZ,Xg,Xj,Xk,Xm,Xp,Xr,Xt,X0,XJ,XM,XO,XV,XW,XZ,Wb,Wc,We,Wg,Wj,Wq,Wx,Wy,Wz,W0,W3,W4,W5,W6,W9,WH,WL,WN,WO,WP,Vp,Vq,Vr,Vs,Vt,V2,V3,V4,V6,V7,V9,VA,VB,VC,VD,VG,VH,VI,VK,VN,VQ,VS,VW,VX,VY,VZ,Ua,Uc,Ud,Ue,Uf,Uj,Ul,Ur,Uw,U0,U1,U2,U3,U4,U5,U6,U7,U8,U9,UA,UB,UC,UY,UZ,Tc,Td,Te,Tf,Tl,Tm,Tn,Tq,Ts,Tt,Tx,Tz,T0,TC,Sl,Sm,Sn,sp,cb,b3];all_goals tactic=>exact rfl))
          ·have cp:cC (cP (p::r)) 0 3 (r.length+1)=(p::r).map pR:=cp
           have c3:((r.length+1)*3≤(cP (p::r)).length)=True:=eq_true (by rw[lp];simp)
           (sym=>(simp[aM,aN,bH,bN,bM,Za,Zb,Zc,Zf,Zh,Zl,Zm,Zp,Zs,Zv,Zy,Z3,Z8,ZF,ZG,ZK,ZL,ZW,Yb,Yc,Ys,YU,YX,YZ,Xg,Xj,Xk,Xp,Xr,Xt,X0,XJ,XM,XV,XW,XY,XZ,Wc,We,Wg,Wq,Wx,Wy,Wz,W0,W3,W4,W5,W6,W9,WH,WL,WN,WO,WP,Vp,Vq,Vr,Vs,Vt,V1,V2,V3,V4,V6,V7,V9,VA,VB,VC,VD,VG,VH,VI,VK,VN,VQ,VS,VW,VX,VY,VZ,Ua,Uc,Ud,Ue,Uf,Uj,Ul,Ur,Us,Uw,U0,U1,U2,U3,U4,U5,U6,U7,U8,U9,UA,UB,UC,UY,UZ,Tc,Td,Te,Tf,Tl,Tm,Tn,Tq,Ts,Tt,Tx,Tz,T0,TC,Sl,Sm,Sn,sp,cp,c3,cb,b3];all_goals tactic=>exact rfl))
         ·rcases PP with _|⟨p,r⟩
          ·(sym=>(simp[aM,aN,bH,bN,bM,Za,Zb,Zc,Zf,Zh,Zl,Zm,Zp,Zq,Zv,Zy,Z3,Z8,ZF,ZG,ZK,ZL,ZV,Yb,Yc,Ys,YU,YX,YZ,Xg,Xj,Xk,Xm,Xp,Xr,Xt,X0,XJ,XM,XO,XV,XW,XZ,Wb,Wc,We,Wg,Wj,Wq,Wx,Wy,Wz,W0,W3,W4,W5,W6,W9,WH,WL,WN,WO,WP,Vp,Vq,Vr,Vs,Vt,V2,V3,V4,V6,V7,V9,VA,VB,VC,VD,VG,VH,VI,VK,VN,VQ,VS,VW,VX,VY,VZ,Ua,Uc,Ud,Ue,Uf,Uj,Ul,Ur,Uv,Uw,U0,U1,U2,U3,U4,U5,U6,U7,U8,U9,UA,UB,UC,UY,UZ,Tc,Td,Te,Tf,Tl,Tm,Tn,Tq,Ts,Tt,Tx,Tz,T0,TC,Sl,Sm,Sn,sp,sp2,cb,b3];all_goals tactic=>exact rfl))
          ·have cp:cC (cP (p::r)) 0 3 (r.length+1)=(p::r).map pR:=cp
           have c3:((r.length+1)*3≤(cP (p::r)).length)=True:=eq_true (by rw[lp];simp)
           (sym=>(simp[aM,aN,bH,bN,bM,Za,Zb,Zc,Zf,Zh,Zl,Zm,Zp,Zq,Zv,Zy,Z3,Z8,ZF,ZG,ZK,ZL,ZV,Yb,Yc,Ys,YU,YX,YZ,Xg,Xj,Xk,Xp,Xr,Xt,X0,XJ,XM,XV,XW,XY,XZ,Wc,We,Wg,Wq,Wx,Wy,Wz,W0,W3,W4,W5,W6,W9,WH,WL,WN,WO,WP,Vp,Vq,Vr,Vs,Vt,V1,V2,V3,V4,V6,V7,V9,VA,VB,VC,VD,VG,VH,VI,VK,VN,VQ,VS,VW,VX,VY,VZ,Ua,Uc,Ud,Ue,Uf,Uj,Ul,Ur,Us,Uv,Uw,U0,U1,U2,U3,U4,U5,U6,U7,U8,U9,UA,UB,UC,UY,UZ,Tc,Td,Te,Tf,Tl,Tm,Tn,Tq,Ts,Tt,Tx,Tz,T0,TC,Sl,Sm,Sn,sp,sp2,cp,c3,cb,b3];all_goals tactic=>exact rfl))
        ·rw[P0]; (sym=>(simp[aM,aN,bH,bN,bM,Za,Y9,YU,Xa,Xb,Xc,Xp,Xu,Xv,Xw,Wx,WA,WB,WE,WF,WH,WI,WJ,WL,WN,WO,WP,WQ,WV,WW,WX,Vc,Vd,VN,VO,VP,VW,VX,VY,VZ,Ua,Uc,Uh,Uu,U0,U1,U2,U3,Ty,TD];all_goals tactic=>exact rfl))
        ·exact rdb
        ·rw[hPP]
         rcases stp with sp|⟨sp,sp2⟩
         ·rcases PP with _|⟨p,r⟩
          ·(sym=>(simp[aM,aN,bH,bN,bM,Za,Zb,Zf,Zh,Zl,Zm,Zp,Zs,Zv,Zy,Z3,Z8,ZF,ZG,ZW,Yb,Yc,Ys,Wx,Wy,Wz,W9,VN,VQ,VS,VT,VY,VZ,Uf,Uw,UY,UZ,Td,Tl,Tm,Tq,Ts,Tt,Tz,T0,sp];all_goals tactic=>exact rfl))
          ·(sym=>(simp[aM,aN,bH,bN,bM,Za,Zb,Zf,Zh,Zl,Zm,Zp,Zs,Zv,Zy,Z3,Z8,ZF,ZG,ZW,Yb,Yc,Ys,Wx,Wy,Wz,W9,VN,VQ,VS,VT,VY,VZ,Uf,Uw,UY,UZ,Td,Tl,Tm,Tq,Ts,Tt,Tz,T0,sp];all_goals tactic=>exact rfl))
         ·rcases PP with _|⟨p,r⟩
          ·(sym=>(simp[aM,aN,bH,bN,bM,Za,Zb,Zf,Zh,Zl,Zm,Zp,Zq,Zv,Zy,Z3,Z8,ZF,ZG,ZV,Yb,Yc,Ys,Wx,Wy,Wz,W9,VN,VQ,VS,VT,VY,VZ,Uf,Uv,Uw,UY,UZ,Td,Tl,Tm,Tq,Ts,Tt,Tz,T0,sp,sp2];all_goals tactic=>exact rfl))
          ·(sym=>(simp[aM,aN,bH,bN,bM,Za,Zb,Zf,Zh,Zl,Zm,Zp,Zq,Zv,Zy,Z3,Z8,ZF,ZG,ZV,Yb,Yc,Ys,Wx,Wy,Wz,W9,VN,VQ,VS,VT,VY,VZ,Uf,Uv,Uw,UY,UZ,Td,Tl,Tm,Tq,Ts,Tt,Tz,T0,sp,sp2];all_goals tactic=>exact rfl))
   ·rw[B0]; (sym=>(simp[aM,aN,bH,bN,bM,Za,Y9,YU,Xb,Xp,Xv,Wx,WA,WB,WE,WF,WH,WI,WJ,WL,WN,WO,WP,WQ,WV,WW,Vc,VO,VP,VW,VX,VY,VZ,Ua,Uc,Uh,Uu,U0,U1,U2,U3,Ty,TD];all_goals tactic=>exact rfl))
   ·exact rda
   ·rw[hBB]
    rcases stb with sb|⟨sb,sb2⟩
    ·rcases BB with _|⟨b,q⟩
     ·(sym=>(simp[aM,aN,bH,bN,bM,Za,Zb,Zf,Zh,Zl,Zm,Zp,Zs,Zv,Zy,Z3,Z8,ZF,ZG,ZW,Yb,Yc,Ys,Wx,Wy,Wz,W9,VN,VQ,VS,VT,Ua,Uf,Uw,UY,UZ,Td,Tl,Tm,Tq,Ts,Tt,Tz,T0,sb];all_goals tactic=>exact rfl))
     ·(sym=>(simp[aM,aN,bH,bN,bM,Za,Zb,Zf,Zh,Zl,Zm,Zp,Zs,Zv,Zy,Z3,Z8,ZF,ZG,ZW,Yb,Yc,Ys,Wx,Wy,Wz,W9,VN,VQ,VS,VT,VY,VZ,Uf,Uw,UY,UZ,Td,Tl,Tm,Tq,Ts,Tt,Tz,T0,sb];all_goals tactic=>exact rfl))
    ·rcases BB with _|⟨b,q⟩
     ·(sym=>(simp[aM,aN,bH,bN,bM,Za,Zb,Zf,Zh,Zl,Zm,Zp,Zq,Zv,Zy,Z3,Z8,ZF,ZG,ZV,Yb,Yc,Ys,Wx,Wy,Wz,W9,VN,VQ,VS,VT,Ua,Uf,Uv,Uw,UY,UZ,Td,Tl,Tm,Tq,Ts,Tt,Tz,T0,sb,sb2];all_goals tactic=>exact rfl))
     ·(sym=>(simp[aM,aN,bH,bN,bM,Za,Zb,Zf,Zh,Zl,Zm,Zp,Zq,Zv,Zy,Z3,Z8,ZF,ZG,ZV,Yb,Yc,Ys,Wx,Wy,Wz,W9,VN,VQ,VS,VT,VY,VZ,Uf,Uv,Uw,UY,UZ,Td,Tl,Tm,Tq,Ts,Tt,Tz,T0,sb,sb2];all_goals tactic=>exact rfl))
def hE (l:List Int) (n:Int) (i:Nat):Int:=if l.getD i 0=n then 1 else 0
theorem w37 {l:List Int} {n:Int} (hl:l.length<1000000000):runW aA 37 [nL l,I n] []=some (.bool (decide (n∈l)),[]):=by
 have z:=UX (n:=(l.length:Int))
 obtain⟨m,m1,m2,m3⟩:=dQ (hE l n) l.length
 have rd:∀ i,i<m→aV 0 [1,7,8,9] (execW aA 37 0 none (match aAg with | .loop _ a=>a|c=>c) (aU [1,7,8,9] [I n,nL l,I l.length,I (i:Nat)]) [])=some ([I n,nL l,I l.length,I (i+1:Nat)],[]):=by
  intro i hi
  obtain⟨v,hv⟩:=bZ (l:=l) (i:=i) (by omega)
  have h0:=m2 i hi
  unfold hE at h0
  rw[aY hv]at h0
  have c1:(v=n)=False:=eq_false (by intro h;rw[if_pos h]at h0;simp at h0)
  have a1:=dP (fG hv)
  have a2:=fD (fG hv) (by omega)
  unfold aAg
  dsimp only
  (sym=>(simp[Za,Zb,Zf,Zh,Zl,Zm,Zv,Z3,ZA,ZG,Yg,Yh,Yj,Yq,Ys,Yw,Yx,YU,YZ,Xp,Xt,W9,WH,WL,WM,WO,WP,VN,VO,VP,VQ,VR,VS,VW,VX,Ua,Uc,Ud,Ue,Uf,Ug,Uh,Ur,Uv,Uw,Uz,U0,U1,U2,U3,Ta,Tb,Td,Tl,Tm,Tp,Tr,Ts,Tv,Ty,Tz,T0,a1,a2,hv,c1];all_goals tactic=>exact rfl))
 rcases m3 with ⟨rfl,m4⟩|⟨m3,m4,m5⟩
 ·have hn:¬n∈l:=by
   intro h
   obtain⟨j,hj⟩:=List.getElem?_of_mem h
   have h0:=m2 j (fG hj)
   unfold hE at h0
   rw[aY hj,if_pos rfl]at h0
   simp at h0
  rw[decide_eq_false hn]
  rw[r37 (by simp)];unfold x37;dsimp only
  sym =>
   simp[Za,Zb,Zf,Zh,Zl,Zm,Zv,ZF,Yc,Wc,Wg,W7,VL,VV,Ue,Uf,UA,UB,Tm,Tr,Ts,Tz,T0]
   tactic =>
    unfold aAg
    rw[aF l.length (fun i=>[I n,nL l,I l.length,I (i:Nat)]) (fun _=>[])]
    ·(sym=>(simp[Za,Zb,Zf,Zh,Zl,Zm,Zv,Z3,Ys,YV,Xq,XI,Wd,WH,WL,WM,WO,WP,Vs,V6,V7,V9,VA,VB,VC,VD,VG,VH,VI,VJ,VN,VQ,VS,VX,Ua,Uc,Uw,Uz,U0,U1,UX,Tl,Tm,Tn,Tq,Ts,Tt,Tx,Tz,T0,Sl,z];all_goals tactic=>exact rfl))
    ·(sym=>(simp[Za,Y9,YU,YZ,Xp,Xt,W7,WH,WL,WM,WO,WP,VL,VO,VP,VW,VX,Ua,Uc,Uz,U0,U1,U2,U3,Ty];all_goals tactic=>exact rfl))
    ·exact rd
    ·(sym=>(simp[Za,Zb,Zf,Zh,Zl,Zm,Z3,Ys,VN,VQ,VS,VT,Uw,UX,Tl,Tm,Tq,Ts,Tt,Tz,z];all_goals tactic=>exact rfl))
 ·obtain⟨v,hv⟩:=bZ m3
  unfold hE at m4
  rw[aY hv]at m4
  have hn:v=n:=by
   by_cases h:v=n
   ·exact h
   ·rw[if_neg h]at m4;simp at m4
  subst hn
  have a1:=dP m3
  rw[decide_eq_true (List.mem_of_getElem? hv)]
  rw[r37 (by simp)];unfold x37;dsimp only
  sym =>
   simp[Za,Zb,Zf,Zh,Zl,Zm,Zv,ZF,Yc,Wc,Wg,W7,VL,VV,Ue,Uf,UA,UB,Tm,Tr,Ts,Tz,T0]
   tactic =>
    unfold aAg
    rw[aF m (fun i=>[I v,nL l,I l.length,I (i:Nat)]) (fun _=>[])]
    ·(sym=>(simp[Za,Zb,Zf,Zh,Zl,Zm,Zv,Z3,ZA,ZG,Yg,Yh,Yq,Ys,Yw,Yx,YV,Xq,XI,Wd,W9,WH,WL,WM,WO,WP,Vs,V6,V7,V9,VA,VB,VC,VD,VG,VH,VI,VJ,VN,VQ,VR,VX,Ua,Uc,Ud,Ue,Uf,Ug,Uh,Ur,Uv,Uz,U0,U1,Ta,Tb,Td,Tl,Tm,Tn,Tp,Tr,Ts,Tu,Tw,Tz,T0,Sl,a1,hv];all_goals tactic=>exact rfl))
    ·(sym=>(simp[Za,Y9,YU,YZ,Xp,Xt,W7,WH,WL,WM,WO,WP,VL,VO,VP,VW,VX,Ua,Uc,Uz,U0,U1,U2,U3,Ty];all_goals tactic=>exact rfl))
    ·exact rd
    ·(sym=>(simp[Za,Zb,Zf,Zh,Zl,Zm,Zv,Z3,ZA,ZG,Yg,Yh,Yq,Ys,Yw,Yx,W9,VN,VQ,VR,VU,Ud,Ue,Uf,Ug,Uh,Ur,Uv,Ta,Tb,Td,Tl,Tm,Tn,Tp,Tr,Ts,Tu,Tw,Tz,T0,a1,hv];all_goals tactic=>exact rfl))
section
variable {x:Vn} (ok:x.Ok) {s:Nat} (hs:s<65536)
end
def rs (w:Nat→Nat) (t j:Nat):Nat→Nat:=fun f=>if f<j then w f+(if t.testBit f then 1 else 0) else w f
section
variable {x:Vn} (ok:x.Ok)
end
abbrev oU (x:Vn):XH:=[some (.blk true (.cells true x.c))]
section
variable {x:Vn} (ok:x.Ok) {a c:Nat}
include ok in
end
structure aLi (x:Vn) (u:Nat) (ks:List Nat):Prop where
 lt:∀ k∈ks,k<x.F
 len:ks.length≤16
 ne:ks≠[]
 leads:jZ x ks=true
 free:∀ (j k:Nat),ks[j]?=some k→u.testBit k=true→x.fix.testBit k=true
section
variable {x:Vn} (ok:x.Ok) {ws:List (List Int)} {ks:List Nat} {i:Nat} {U:Nat→Nat}
end
section
variable {x:Vn} (ok:x.Ok) {ws:List (List Int)} (hF:∀ (i:Nat) (w:List Int),ws[i]?=some w→∃ ks,w=dB ks∧aLi x (usN ws i) ks) (hl:ws.length≤16)
end
theorem aKX {a i j u v:Nat} (hi:(el a)[i]?=some u) (hj:(el a)[j]?=some v) (h:i<j):u<v:=by
 have hp:(el a).Pairwise (· < ·):=List.Pairwise.filter _ List.pairwise_lt_range
 rw[List.pairwise_iff_getElem]at hp
 obtain⟨h1,e1⟩:=List.getElem?_eq_some_iff.1 hi
 obtain⟨h2,e2⟩:=List.getElem?_eq_some_iff.1 hj
 have:=hp i j h1 h2 h
 rw[e1,e2]at this
 exact this
section
variable {x:Vn} (ok:x.Ok) {c:Nat} (hc:isCut x c)
end
section
variable {x:Vn} (ok:x.Ok) {n:Nat} (hn:Lea x 0 n)
end
section
variable (x:Vn)
variable {x}
end
theorem vR {α:Type} {P:Nat→Prop} {f:Nat→α→Nat}:∀ (l:List α) (o:Nat),(∀ y∈l,∀ o,P o→P (f o y))→P o→P (l.foldl f o)
 | [],_,_,h=>h
 | y::l,o,hf,h=>vR l (f o y) (fun z hz=>hf z (List.mem_cons_of_mem _ hz)) (hf y List.mem_cons_self o h)
theorem aHE {s k i:Nat} {c:Bool} (h:(lE s c k).testBit i=true):s.testBit i=true∨(c=true∧i=k):=by
 unfold lE at h
 split at h
 ·next hc =>
  rw[dN,Bool.or_eq_true,decide_eq_true_eq]at h
  rcases h with h|h
  ·exact .inl h
  ·exact .inr ⟨hc,h.symm⟩
 ·exact .inl h
theorem aIp {a i:Nat} (ha:a<256) (hi:i<8):bV .and .u8 ((a:Int).fdiv (2^min i IntKind.u8.bits)) 1=if a.testBit i then 1 else 0:=by
 have hs:(a:Int).fdiv (2^min i IntKind.u8.bits)=((a>>>i:Nat):Int):=by
  rw[show IntKind.u8.bits=8 from rfl,Nat.min_eq_left (by omega),show (2:Int)^i=((2^i:Nat):Int) by norm_cast,Int.fdiv_eq_ediv_of_nonneg _ (Int.natCast_nonneg _),Nat.shiftRight_eq_div_pow]
  exact(Int.natCast_ediv a (2^i)).symm
 have hle:a>>>i≤a:=Nat.shiftRight_le a i
 rw[hs]
 have h1:bV .and .u8 ((a>>>i:Nat):Int) 1=(((a>>>i)&&&1:Nat):Int):=by
  unfold bV
  dsimp only
  rw[show (1:Int)=((1:Nat):Int) from rfl,dO,dO,show IntKind.u8.bits=8 from rfl,BitVec.toNat_and,BitVec.toNat_ofNat,BitVec.toNat_ofNat,Nat.mod_eq_of_lt (by omega),Nat.mod_eq_of_lt (by omega)]
  have:(a>>>i)&&&1≤1:=Nat.and_le_right
  rcases (by omega:(a>>>i)&&&1=0∨(a>>>i)&&&1=1)with h|h<;>rw[h]<;>rfl
 rw[h1]
 unfold Nat.testBit
 rw[Nat.and_comm,Nat.one_and_eq_mod_two]
 by_cases hb:(a>>>i)%2=0
 ·simp[hb]
 ·have:(a>>>i)%2=1:=by omega
  simp[this]
section
variable {x:Vn} (ok:x.Ok) (hF8:x.F≤8) {s ss:Nat} (hs:s<256)
include ok hF8 hs in
end
structure Les (o x:Vn):Prop where
 s:sub o.sick x.sick
 n:sub o.nur x.nur
 f:sub o.fix x.fix
 st:∀ k,sub (dS o k) (dS x k)
theorem aAb {a b i:Nat} (h:sub a b) (hi:b.testBit i=false):a.testBit i=false:=by
 cases ha:a.testBit i
 ·rfl
 ·rw[h i ha]at hi;simp at hi
theorem Les.cuts {o x:Vn} (h:Les o x) {C:Nat} (hC:Cuts x 0 C):Cuts o 0 C :=
 ⟨hC.lt,fun i hi=>aAb h.f (hC.free i hi),fun g hg=>aAb h.n (hC.cut g (hg.mono h.s h.st (dD _)))⟩
def szP (x:Vn) (v:Nat):Prop:=(lX x=true∧Lea x 0 v∧v≤16)∨(lX x=false∧v=99)
theorem Les.has {o x:Vn} (h:Les o x) (ok:o.Ok) (ox:x.Ok) (hh:lX x=true):lX o=true:=by
 obtain⟨C,_,hC⟩:=(iK ox).1 hh
 obtain⟨h1,h2⟩:=aBW ok (h.cuts hC)
 exact(iK ok).2 ⟨_,h1,h2⟩
theorem Les.size {o x:Vn} (h:Les o x) (ok:o.Ok) (ox:x.Ok) {n m:Nat} (hn:szP x n) (hm:szP o m):m≤n:=by
 rcases hn with ⟨n1,n2,n3⟩|⟨_,rfl⟩
 ·rcases hm with ⟨_,m2,_⟩|⟨m1,_⟩
  ·obtain⟨C,_,c2,c3⟩:=n2.1
   have:=m2.2 C (h.cuts c2)
   omega
  ·rw[h.has ok ox n1]at m1;simp at m1
 ·rcases hm with ⟨_,_,m3⟩|⟨_,rfl⟩
  ·omega
  ·omega
theorem aGE {x:Vn} (ok:x.Ok) {f s:Nat} (hs:s≤100):whO x 0 117 f≤(s:Int)↔(bA x 0 s).testBit f=true:=by
 have h0:0<2^x.F:=Nat.two_pow_pos _
 unfold whO
 cases h:(List.range (117+1)).find? (fun m=>(bA x 0 m).testBit f)with
 | none =>
   rw[List.find?_eq_none]at h
   have:=h s (List.mem_range.2 (by omega))
   show nev≤(s:Int)↔_
   constructor
   ·intro hh;unfold nev at hh;omega
   ·intro hh;exact absurd hh this
 | some m =>
   rw[List.find?_range_eq_some]at h
   obtain⟨h1,h2,h3⟩:=h
   show ((m:Nat):Int)≤(s:Int)↔_
   constructor
   ·intro hh
    exact xW ok h0 (show m≤s by omega) h1
   ·intro hh
    by_cases hc:m≤s
    ·omega
    ·have:=h3 s (by omega)
     rw[hh]at this
     simp at this
def nV (by':List Nat) (n:Nat):Bool:=by'.isEmpty||(by'.getD (n/8%by'.length) 0).testBit (n%8)
theorem w38 {bs:List Nat} (hb:∀ v∈bs,v<256) (hl:bs.length≤maxLen) {n:Nat} (hn:n<1000000):runW aA 38 [.fs (bs.map fun v=>[B8 v]),I (n:Nat)] []=some (.bool (nV bs n),[]):=by
 unfold nV
 by_cases h0:bs=[]
 ·subst h0
  rw[r38 (by simp)];unfold x38;dsimp only
  (sym=>(simp[aM,aN,bH,Za,Zb,Zf,Zh,Zl,Zm,Zp,Zt,Zv,Zy,Z3,ZF,ZV,Yc,Yq,Y9,YV,Xq,XI,Wc,Wd,Wg,W7,W8,WH,WL,WM,WO,WP,Vs,V6,V7,V9,VA,VB,VC,VD,VG,VH,VI,VJ,VL,VV,VX,Ua,Uc,Ue,Uv,Uz,U0,U1,UA,UB,Tl,Tm,Tn,Ts,Tz,T0,Sl];all_goals tactic=>exact rfl))
 ·have hpos:0<bs.length:=List.length_pos_iff.2 h0
  have hk:=Nat.mod_lt (n/8) hpos
  obtain⟨v,hv⟩:=bZ hk
  have hv8:=hb v (List.mem_of_getElem? hv)
  have z:((bs.length:Int)=0)=False:=eq_false (by omega)
  have q1:kZ (n:Int) 8=((n/8:Nat):Int):=bX n 8
  have u1:IntKind.i64.wrap ((n/8:Nat):Int)=((n/8:Nat):Int):=aD (by omega) (by omega)
  have q2:=bD (n/8) bs.length
  have q3:jQ (n:Int) 8=((n%8:Nat):Int):=bD n 8
  have c1:((0:Int)≤((n/8%bs.length:Nat):Int))=True:=eq_true (by omega)
  have c2:(((n/8%bs.length:Nat):Int)<(bs.length:Int))=True:=eq_true (by omega)
  have c3:(((n%8:Nat):Int)<0)=False:=eq_false (by omega)
  have e:=aIp (a:=v) (i:=n%8) hv8 (by omega)
  have hr:(bs.isEmpty||(bs.getD (n/8%bs.length) 0).testBit (n%8))=v.testBit (n%8):=by
   rw[aY hv]
   cases bs with
   | nil=>exact absurd rfl h0
   | cons a r=>rfl
  rw[hr]
  generalize n/8%bs.length=i at *
  generalize n/8=n8 at *
  generalize n%8=r8 at *
  cases hb':v.testBit r8
  ·rw[hb']at e
   simp only[Bool.false_eq_true,if_false]at e
   rw[r38 (by simp)];unfold x38;dsimp only
   (sym=>(simp[aM,aN,bH,Za,Zb,Zf,Zh,Zl,Zm,Zp,Zr,Zv,Zy,Z3,ZA,ZF,ZG,ZW,Yc,Yg,Yh,Ym,Yp,Yq,Yw,Yx,YV,Xq,XI,Wc,Wd,Wg,W7,W9,WH,WL,WM,WO,WP,Vs,V6,V7,V9,VA,VB,VC,VD,VG,VH,VI,VJ,VL,VV,VX,Ua,Uc,Ud,Ue,Uf,Ug,Uh,Ur,Uw,Uz,U0,U1,UA,UB,Ta,Tb,Td,Tl,Tm,Tn,Ts,Tz,T0,Sl,z,q1,u1,q2,q3,c1,c2,c3,hv,e];all_goals tactic=>exact rfl))
  ·rw[hb']at e
   simp only[if_true]at e
   rw[r38 (by simp)];unfold x38;dsimp only
   (sym=>(simp[aM,aN,bH,Za,Zb,Zf,Zh,Zl,Zm,Zp,Zr,Zv,Zy,Z3,ZA,ZF,ZG,ZW,Yc,Yg,Yh,Ym,Yp,Yq,Yw,Yx,YV,Xq,XI,Wc,Wd,Wg,W7,W9,WH,WL,WM,WO,WP,Vs,V6,V7,V9,VA,VB,VC,VD,VG,VH,VI,VJ,VL,VV,VX,Ua,Uc,Ud,Ue,Uf,Ug,Uh,Ur,Uv,Uw,Uz,U0,U1,UA,UB,Ta,Tb,Td,Tl,Tm,Tn,Ts,Tz,T0,Sl,z,q1,u1,q2,q3,c1,c2,c3,hv,e];all_goals tactic=>exact rfl))
section
variable (x:Vn) (bs:List Nat)
def rb1 (ill n0 i:Nat) (b:Nat×Nat) (r:Nat):Nat→Nat
 | 0=>r
 | 1=>lE r (ill.testBit b.1&&nV bs (n0+2*i)) b.2
 | _=>lE (lE r (ill.testBit b.1&&nV bs (n0+2*i)) b.2) (ill.testBit b.2&&nV bs (n0+2*i+1)) b.1
def rbI (ill n0:Nat):Nat→Nat
 | 0=>ill
 | i+1=>rb1 bs ill n0 i (x.bs.getD i (0,0)) (rbI ill n0 i) 2
def rpI (s n0 r0:Nat):Nat→Nat
 | 0=>r0
 | i+1=>lE (rpI s n0 r0 i) (decide ((x.ps.getD i (0,0,0)).1=s)&&((rpI s n0 r0 i).testBit (x.ps.getD i (0,0,0)).2.1&&nV bs (n0+i))) (x.ps.getD i (0,0,0)).2.2
abbrev cc (x:Vn):Nat:=2*x.bs.length+x.ps.length
def rl:Nat→Nat
 | 0=>x.sick
 | s+1=>rpI x bs s (s*cc x+2*x.bs.length) (rbI x bs (rl s) (s*cc x) x.bs.length) x.ps.length
variable {x bs} (ok:x.Ok)
theorem zK {a b k:Nat} {c d:Bool} (h:sub a b) (hc:c=true→d=true):sub (lE a c k) (lE b d k):=fun i hi=>by
 rcases aHE hi with hi|⟨h1,rfl⟩
 ·unfold lE
  split
  ·rw[dN,h i hi];rfl
  ·exact h i hi
 ·rw[hc h1]
  unfold lE
  rw[if_pos rfl,dN];simp
theorem tN {ill all n0:Nat} (h:sub ill all):∀ i,i≤x.bs.length→sub (rbI x bs ill n0 i) ((x.bs.take i).foldl (yH all) all)
 | 0,_=>h
 | i+1,hi=>by
   obtain⟨b,hb⟩:=bZ (l:=x.bs) (i:=i) (by omega)
   have ih:=tN h i (by omega) (n0:=n0)
   rw[gF hb,rbI,aY hb]
   show sub (lE (lE _ _ _) _ _) (yH _ _ _)
   unfold yH
   refine zK (zK ih fun hc=>?_) fun hc=>?_
   ·rw[Bool.and_eq_true]at hc;exact h _ hc.1
   ·rw[Bool.and_eq_true]at hc;exact h _ hc.1
theorem zD {s r0 o0 n0:Nat} (h:sub r0 o0):∀ i,i≤x.ps.length→sub (rpI x bs s n0 r0 i) ((x.ps.take i).foldl (wU 0 (s:Int)) o0)
 | 0,_=>h
 | i+1,hi=>by
   obtain⟨p,hp⟩:=bZ (l:=x.ps) (i:=i) (by omega)
   have ih:=zD h i (by omega) (n0:=n0) (s:=s)
   rw[gF hp,rpI,aY hp]
   unfold wU
   refine zK ih fun hc=>?_
   simp only[Bool.and_eq_true,decide_eq_true_eq]at hc ⊢
   exact⟨by omega,ih _ hc.2.1,by simp⟩
theorem aCf {all:Nat} (ok:x.Ok) (h:all<2^x.F):∀ i,(x.bs.take i).foldl (yH all) all<2^x.F:=fun i =>
 vR (P:=fun o=>o<2^x.F) _ _ (fun b hb o ho=>by
  have:=ok.b b (List.mem_of_mem_take hb)
  exact mM (mM ho this.2.1) this.1) h
theorem aIZ {o0:Nat} (ok:x.Ok) (h:o0<2^x.F) (s:Int):∀ i,(x.ps.take i).foldl (wU 0 s) o0<2^x.F:=fun i =>
 vR (P:=fun o=>o<2^x.F) _ _ (fun p hp o ho=>by
  have:=ok.p p (List.mem_of_mem_take hp)
  exact mM ho this.2.2.1) h
theorem yU {a b F:Nat} (h:sub a b) (hb:b<2^F):a<2^F:=by
 refine Nat.lt_pow_two_of_testBit _ fun i hi=>?_
 cases ha:a.testBit i
 ·rfl
 ·have:=eD hb (h i ha);omega
include ok in
theorem aEx (s:Nat):bA x 0 (s+1)=(x.ps.take x.ps.length).foldl (wU 0 (s:Int)) ((x.bs.take x.bs.length).foldl (yH (bA x 0 s)) (bA x 0 s)):=by
 have hp:=aZ ok.F16
 have h1:=aCf ok (dL ok 0 s) x.bs.length
 rw[List.take_length]at h1 ⊢
 rw[List.take_length]
 show aDp x (bA x 0 s) 0 (s:Int)=_
 unfold aDp bor
 rw[aGa (by omega)]
include ok in
theorem aFh:∀ s,sub (rl x bs s) (bA x 0 s)
 | 0=>fun i hi=>by
   have hp:=aZ ok.F16
   have:=ok.s
   rw[bA,aGa (by omega)];exact hi
 | s+1=>by
   rw[aEx ok,rl]
   exact zD (tN (aFh s) _ (Nat.le_refl _)) _ (Nat.le_refl _)
end
abbrev BY (bs:List Nat):AV:=.fs (bs.map fun v=>[B8 v])
theorem aJr {x:Vn} (ok:x.Ok) {s:Nat} (hs:s≤100):runW aA 18 [.agg x.c,I s] []=some (.tup [nL (dB (el (bA x 0 s))),I 0],[]):=by
 have nb:x.v.bs.length<1000000000:=by have:=ok.nb;show (List.map _ _).length<_;simp;omega
 have np:x.v.ps.length<1000000000:=by have:=ok.np;show (List.map _ _).length<_;simp;omega
 rcases w18 x.v nb np s with ⟨h,_⟩|⟨_,y,m,_,hy,hm,_,h⟩
 ·exact absurd (by unfold isE;rw[ok.vE,nD.2 ⟨by omega,by omega⟩];rfl) h
 ·obtain rfl:=aIA hy
  have:s=m:=by omega
  subst this
  exact h
theorem aGD {x:Vn} (ok:x.Ok):runW aA 20 [.agg x.c] []=some (.tup [nL (eW x),I 0],[]):=by
 have nb:x.v.bs.length<1000000000:=by have:=ok.nb;show (List.map _ _).length<_;simp;omega
 have np:x.v.ps.length<1000000000:=by have:=ok.np;show (List.map _ _).length<_;simp;omega
 rcases w20 x.v nb np with ⟨h,_⟩|⟨_,y,_,hy,h⟩
 ·exact absurd ok.vE h
 ·obtain rfl:=aIA hy
  exact h
theorem aJf {a f:Nat} (hf:f<16):decide ((f:Int)∈dB (el a))=a.testBit f:=by
 rw[Bool.eq_iff_iff,decide_eq_true_eq]
 unfold dB
 rw[List.mem_map]
 constructor
 ·rintro ⟨k,h1,h2⟩
  have:k=f:=by omega
  subst this
  exact(fB.1 h1).2
 ·intro h;exact⟨f,fB.2 ⟨hf,h⟩,rfl⟩
section
variable {x:Vn} (ok:x.Ok) {bs:List Nat} (hb8:∀ v∈bs,v<256) (hl8:bs.length≤maxLen)
abbrev s7a (bs:List Nat) (W:List Int) (ill all n s i:Nat):List AV:=[BY bs,.pt 0 0,nL W,I (ill:Nat),I (all:Nat),I (n:Nat),I (s:Nat),nL (dB (el all)),I (prC (dB (el all)) i),nL (dB (el all)),I (el all).length,I (i:Nat)]
theorem aHf {W:List Int} {ill all n s i:Nat} (ha:all<2^x.F) (hi:i<(el all).length) :
 aV 0 [1,5,6,8,9,10,11,12,14,58,59,60] (execW aA 7 0 none (match aGB with | .loop _ a=>a|c=>c) (aU [1,5,6,8,9,10,11,12,14,58,59,60] (s7a bs W ill all n s i)) (oU x))=some (s7a bs W ill all n s (i+1),oU x):=by
 obtain⟨k,hk⟩:=bZ hi
 have hm:=fB.1 (List.mem_of_getElem? hk)
 have hkF:=eD ha hm.2
 have hlen:=rZ all
 have gl:=cA (el all)
 have gk:=hJ hk
 have a1:=dP hi
 have a2:=fD hi (by omega)
 have m1:((x.F:Int)≤(k:Int))=False:=eq_false (by omega)
 have hp:((k:Int)≤prC (dB (el all)) i)=False:=eq_false (by
  cases i with
  | zero=>show ¬(k:Int) ≤ -1;omega
  | succ i =>
    obtain⟨p,hp'⟩:=bZ (l:=el all) (i:=i) (by omega)
    rw[prC,aY (hJ hp')]
    have:=aKX hp' hk (by omega)
    omega)
 have hp2:prC (dB (el all)) (i+1)=(k:Int):=by rw[prC,aY gk]
 rw[s7a,s7a,hp2]
 generalize prC (dB (el all)) i=la at *
 unfold aGB
 dsimp only
 (sym=>(simp[Za,Zb,Zf,Zh,Zl,Zm,Zp,Zr,Zv,Zy,Z3,Z8,ZA,ZG,ZW,Yb,Yg,Yh,Yj,Ys,Yt,Yv,Yw,Yx,YU,YZ,Xb,Xp,Xt,Xv,Wx,Wy,Wz,W9,WA,WE,WF,WH,WI,WJ,WL,WN,WO,WP,WQ,WV,WW,Vc,VN,VO,VP,VQ,VR,VS,VW,VX,VZ,Ua,Uc,Ud,Ue,Uf,Ug,Uh,Ur,Uu,Uv,Uw,U0,U1,U2,U3,UY,UZ,Ta,Tb,Td,Tl,Tm,Tp,Tr,Ts,Tv,Ty,Tz,T0,TD,a1,a2,gl,gk,m1,hp];all_goals tactic=>exact rfl))
abbrev s7b (bs:List Nat) (W:List Int) (ill all n s f:Nat):List AV:=[BY bs,.pt 0 0,nL W,I (ill:Nat),I (all:Nat),I (n:Nat),I (s:Nat),nL (dB (el all)),I (f:Nat)]
include ok in
theorem aHe {ill n s f:Nat} (hs:s≤100) (hsub:sub ill (bA x 0 s)) (hf:f<x.F) :
 aV 0 [1,5,6,8,9,10,11,12,17] (execW aA 7 0 none (match aGA with | .loop _ a=>a|c=>c) (aU [1,5,6,8,9,10,11,12,17] (s7b bs (eW x) ill (bA x 0 s) n s f)) (oU x))=some (s7b bs (eW x) ill (bA x 0 s) n s (f+1),oU x):=by
 have hF:=ok.F16
 have hp:=aZ hF
 have hal:=dL ok 0 s
 have hil:=yU hsub hal
 have e37:=w37 (l:=dB (el (bA x 0 s))) (n:=(f:Int)) (aFU _)
 rw[aJf (by omega)]at e37
 have a1:((f:Int)<(x.F:Int))=True:=eq_true (by omega)
 have a2:=fD hf (by omega)
 have n0:((f:Int)<0)=False:=eq_false (by omega)
 have n1:((0:Int)≤(f:Int))=True:=eq_true (by omega)
 have e1:=lS bW (a:=ill) (i:=f) (by omega) (by omega)
 have e2:=lS bW (a:=bA x 0 s) (i:=f) (by omega) (by omega)
 have gl:(eW x).length=x.F:=by simp[eW]
 have gw:(eW x)[f]?=some (whO x 0 117 f):=by rw[eW,List.getElem?_map,List.getElem?_range hf];rfl
 have hw:=aGE ok (f:=f) hs
 have hsb:=hsub f
 generalize whO x 0 117 f=wf at *
 generalize eW x=W at *
 generalize bA x 0 s=all at *
 unfold aGA
 dsimp only
 cases hb:all.testBit f
 ·rw[hb]at e2 e37
  have hb':=hb
  have hi:ill.testBit f=false:=aAb hsub hb
  have w1:(wf≤(s:Int))=False:=eq_false fun h=>by rw[hw.1 h]at hb';simp at hb'
  rw[hi]at e1
  simp only[Bool.false_eq_true,if_false]at e1 e2
  (sym=>(simp[Za,Zb,Zf,Zg,Zh,Zj,Zl,Zm,Zp,Zr,Zs,Zv,Zy,Z3,Z4,Z8,ZA,ZG,ZO,ZP,ZT,ZU,ZW,ZX,Yb,Yg,Yh,Yj,Ym,Yp,Yq,Ys,Yt,Yw,Yx,YU,YZ,Xb,Xp,Xq,Xt,Xv,XL,Wg,Wx,Wy,Wz,W6,W9,WA,WE,WF,WH,WI,WJ,WK,WL,WM,WN,WO,WP,WQ,WR,WS,WV,WW,Vc,Vf,Vg,Vh,Vs,Vu,Vv,Vw,VN,VO,VP,VQ,VR,VS,VW,VX,VZ,Ua,Uc,Ud,Ue,Uf,Ug,Uh,Ur,Uu,Uv,Uw,Uz,U0,U1,U2,U3,UY,UZ,Ta,Tb,Td,Tl,Tm,Tp,Tr,Ts,Tv,Ty,Tz,T0,TD,Sk,Sl,S4,S5,S7,S8,S9,SA,a1,a2,n0,n1,e1,e2,e37,gl,gw,w1];all_goals tactic=>exact rfl))
 ·rw[hb]at e2 e37
  have w1:(wf≤(s:Int))=True:=eq_true (hw.2 hb)
  simp only[if_true]at e2
  cases hi:ill.testBit f
  ·rw[hi]at e1
   simp only[Bool.false_eq_true,if_false]at e1
   (sym=>(simp[Za,Zb,Zf,Zg,Zh,Zj,Zl,Zm,Zp,Zr,Zs,Zv,Zy,Z3,Z4,Z8,ZA,ZG,ZO,ZP,ZT,ZU,ZW,ZX,Yb,Yg,Yh,Yj,Ym,Yp,Yq,Ys,Yt,Yw,Yx,YU,YZ,Xb,Xp,Xq,Xt,Xv,XL,Wg,Wx,Wy,Wz,W6,W9,WA,WE,WF,WH,WI,WJ,WK,WL,WM,WN,WO,WP,WQ,WR,WS,WV,WW,Vc,Vf,Vg,Vh,Vs,Vu,Vv,Vw,VN,VO,VP,VQ,VR,VS,VW,VX,VZ,Ua,Uc,Ud,Ue,Uf,Ug,Uh,Ur,Uu,Uv,Uw,Uz,U0,U1,U2,U3,UY,UZ,Ta,Tb,Td,Tl,Tm,Tp,Tr,Ts,Tv,Ty,Tz,T0,TD,Sj,Sl,S4,S5,S7,S8,S9,SA,a1,a2,n0,n1,e1,e2,e37,gl,gw,w1];all_goals tactic=>exact rfl))
  ·rw[hi]at e1
   simp only[if_true]at e1
   (sym=>(simp[Za,Zb,Zf,Zg,Zh,Zj,Zl,Zm,Zp,Zq,Zr,Zv,Zy,Z3,Z4,Z5,Z8,ZA,ZG,ZO,ZP,ZT,ZU,ZV,ZW,ZX,ZY,Yb,Yg,Yh,Yj,Ym,Yp,Yq,Ys,Yt,Yw,Yx,YU,YZ,Xb,Xp,Xq,Xt,Xv,XL,Wg,Wx,Wy,Wz,W6,W9,WA,WE,WF,WH,WI,WJ,WK,WL,WM,WN,WO,WP,WQ,WR,WS,WV,WW,Vc,Vf,Vg,Vh,Vs,Vu,Vv,Vw,VN,VO,VP,VQ,VR,VS,VW,VX,VZ,Ua,Uc,Ud,Ue,Uf,Ug,Uh,Um,Ur,Uu,Uv,Uz,U0,U1,U2,U3,UY,UZ,Ta,Tb,Td,Tl,Tm,Tp,Tr,Ts,Tv,Ty,Tz,T0,TD,Sj,Sl,S4,S5,S7,S8,S9,SA,a1,a2,n0,n1,e1,e2,e37,gl,gw,w1];all_goals tactic=>exact rfl))
end
def fb1 (all o:Nat) (b:Nat×Nat):Nat→Nat
 | 0=>o
 | 1=>lE o (all.testBit b.1) b.2
 | _=>yH all o b
section
variable {x:Vn} (ok:x.Ok) {bs:List Nat} (hb8:∀ v∈bs,v<256) (hl8:bs.length≤maxLen)
abbrev s7c (x:Vn) (bs:List Nat) (W:List Int) (ill all n0 s:Nat) (b:Nat×Nat) (r o i k:Nat):List AV :=
 [BY bs,.pt 0 0,nL W,I (ill:Nat),I (all:Nat),I (n0+2*i+k:Nat),I (s:Nat),I (rb1 bs ill n0 i b r k:Nat),I (fb1 all o b k:Nat),.pt 1 0,I (k:Nat),rB (x.bs.map bI),I x.bs.length,I (i:Nat)]
abbrev gB7 (x:Vn) (b:Nat×Nat):XH:=[some (.blk true (.cells true x.c)),some (.blk true (.cells true [I b.1,I b.2]))]
include ok hb8 hl8 in
theorem aHd {W:List Int} {ill all n0 s r o i k:Nat} {b:Nat×Nat} (hb:b.1<x.F∧b.2<x.F) (hill:ill<65536) (hall:all<65536) (hr:r<65536) (ho:o<65536) (hn:n0+2*i+2<1000000) (hk:k<2) :
 aV 0 [1,5,6,8,9,10,11,19,20,22,23,115,116,117] (execW aA 7 0 none (match aBk with | .loop _ a=>a|c=>c) (aU [1,5,6,8,9,10,11,19,20,22,23,115,116,117] (s7c x bs W ill all n0 s b r o i k)) (gB7 x b))=some (s7c x bs W ill all n0 s b r o i (k+1),gB7 x b):=by
 have hF:=ok.F16
 have z1:((b.1:Int)<0)=False:=eq_false (by omega)
 have z2:((b.2:Int)<0)=False:=eq_false (by omega)
 have h1:=nG bW (i:=b.1) (by omega)
 have h2:=nG bW (i:=b.2) (by omega)
 have p1:(2:Nat)^b.1≤2^15:=Nat.pow_le_pow_right (by omega) (by omega)
 have p2:(2:Nat)^b.2≤2^15:=Nat.pow_le_pow_right (by omega) (by omega)
 have i1:=lS bW (a:=ill) (i:=b.1) (by omega) (by omega)
 have i2:=lS bW (a:=ill) (i:=b.2) (by omega) (by omega)
 have l1:=lS bW (a:=all) (i:=b.1) (by omega) (by omega)
 have l2:=lS bW (a:=all) (i:=b.2) (by omega) (by omega)
 have q0:=w38 hb8 hl8 (n:=n0+2*i) (by omega)
 have q1:=w38 hb8 hl8 (n:=n0+2*i+1) (by omega)
 have u0:IntKind.i64.wrap (((n0+2*i:Nat):Int)+1)=((n0+2*i+1:Nat):Int):=by rw[aD (by omega) (by omega)];omega
 have u1:IntKind.i64.wrap (((n0+2*i+1:Nat):Int)+1)=((n0+2*i+2:Nat):Int):=by rw[aD (by omega) (by omega)];omega
 match k,hk with
 | 0,_ =>
   have b1:=cN bW (a:=r) (b:=2^b.2) (by omega) (by omega)
   have b2:=cN bW (a:=o) (b:=2^b.2) (by omega) (by omega)
   show aV 0 [1,5,6,8,9,10,11,19,20,22,23,115,116,117] (execW aA 7 0 none (match aBk with | .loop _ a=>a|c=>c) (aU [1,5,6,8,9,10,11,19,20,22,23,115,116,117] [BY bs,.pt 0 0,nL W,I (ill:Nat),I (all:Nat),I (n0+2*i:Nat),I (s:Nat),I (r:Nat),I (o:Nat),.pt 1 0,I 0,rB (x.bs.map bI),I x.bs.length,I (i:Nat)]) (gB7 x b)) =
    some ([BY bs,.pt 0 0,nL W,I (ill:Nat),I (all:Nat),I (n0+2*i+1:Nat),I (s:Nat),I (lE r (ill.testBit b.1&&nV bs (n0+2*i)) b.2:Nat),I (lE o (all.testBit b.1) b.2:Nat),.pt 1 0,I 1,rB (x.bs.map bI),I x.bs.length,I (i:Nat)],gB7 x b)
   unfold lE
   generalize n0+2*i+2=n2 at *
   generalize n0+2*i+1=n1 at *
   generalize n0+2*i=nn at *
   unfold aBk
   dsimp only
   cases hx1:ill.testBit b.1<;>cases hx2:nV bs nn<;>cases hx3:all.testBit b.1<;>rw[hx1]at i1<;>rw[hx2]at q0<;>rw[hx3]at l1<;>simp only[Bool.false_eq_true,if_false,if_true,Bool.and_false,Bool.false_and,Bool.and_self]at i1 l1 ⊢<;>(sym=>(simp[Za,Zb,Zf,Zg,Zh,Zj,Zl,Zm,Zp,Zq,Zs,Zv,Zy,Z3,Z9,ZG,ZO,ZP,ZT,ZU,ZV,ZW,Yj,Yk,Ym,Yn,Yo,Yp,Yq,Ys,Yx,Yz,Y8,YA,YD,YO,YU,YZ,Xb,Xp,Xq,Xt,Xv,XL,Wg,Wx,Wy,Wz,W6,W9,WA,WB,WE,WF,WH,WI,WJ,WK,WL,WM,WN,WO,WP,WQ,WR,WS,WV,WW,Vc,Vf,Vg,Vh,Vs,Vu,Vv,Vw,VN,VO,VP,VQ,VR,VS,VW,VX,VY,VZ,Ua,Uc,Ud,Ue,Uh,Ur,Uu,Uv,Uw,Uz,U0,U1,U2,U3,UY,UZ,Td,Tl,Tm,Tp,Tr,Ts,Tv,Ty,Tz,T0,TD,Sl,S4,S5,S7,S8,S9,SA,z1,z2,h2,i1,l1,q0,u0,b1,b2];all_goals tactic=>exact rfl))
 | 1,_ =>
   show aV 0 [1,5,6,8,9,10,11,19,20,22,23,115,116,117] (execW aA 7 0 none (match aBk with | .loop _ a=>a|c=>c) (aU [1,5,6,8,9,10,11,19,20,22,23,115,116,117] [BY bs,.pt 0 0,nL W,I (ill:Nat),I (all:Nat),I (n0+2*i+1:Nat),I (s:Nat),I (lE r (ill.testBit b.1&&nV bs (n0+2*i)) b.2:Nat),I (lE o (all.testBit b.1) b.2:Nat),.pt 1 0,I 1,rB (x.bs.map bI),I x.bs.length,I (i:Nat)]) (gB7 x b)) =
    some ([BY bs,.pt 0 0,nL W,I (ill:Nat),I (all:Nat),I (n0+2*i+2:Nat),I (s:Nat),I (lE (lE r (ill.testBit b.1&&nV bs (n0+2*i)) b.2) (ill.testBit b.2&&nV bs (n0+2*i+1)) b.1:Nat),I (lE (lE o (all.testBit b.1) b.2) (all.testBit b.2) b.1:Nat),.pt 1 0,I 2,rB (x.bs.map bI),I x.bs.length,I (i:Nat)],gB7 x b)
   have hr':lE r (ill.testBit b.1&&nV bs (n0+2*i)) b.2<2^16:=mM hr (by omega)
   have ho':lE o (all.testBit b.1) b.2<2^16:=mM ho (by omega)
   generalize lE r (ill.testBit b.1&&nV bs (n0+2*i)) b.2=r' at *
   generalize lE o (all.testBit b.1) b.2=o' at *
   have b1:=cN bW (a:=r') (b:=2^b.1) (by omega) (by omega)
   have b2:=cN bW (a:=o') (b:=2^b.1) (by omega) (by omega)
   unfold lE
   generalize n0+2*i+2=n2 at *
   generalize n0+2*i+1=n1 at *
   generalize n0+2*i=nn at *
   unfold aBk
   dsimp only
   cases hx1:ill.testBit b.2<;>cases hx2:nV bs n1<;>cases hx3:all.testBit b.2<;>rw[hx1]at i2<;>rw[hx2]at q1<;>rw[hx3]at l2<;>simp only[Bool.false_eq_true,if_false,if_true,Bool.and_false,Bool.false_and,Bool.and_self]at i2 l2 ⊢<;>(sym=>(simp[Za,Zb,Zf,Zg,Zh,Zj,Zl,Zm,Zp,Zq,Zs,Zv,Zy,Z3,Z9,ZG,ZO,ZP,ZT,ZU,ZV,ZW,Yj,Yk,Ym,Yn,Yo,Yp,Yq,Ys,Yx,Yy,Y0,Y8,YA,YD,YO,YU,YZ,Xb,Xp,Xq,Xt,Xv,XL,Wg,Wx,Wy,Wz,W6,W9,WA,WB,WE,WF,WH,WI,WJ,WK,WL,WM,WN,WO,WP,WQ,WR,WS,WV,WW,Vc,Vf,Vg,Vh,Vs,Vu,Vv,Vw,VN,VO,VP,VQ,VR,VS,VW,VX,VY,VZ,Ua,Uc,Ud,Ue,Uh,Ur,Uu,Uv,Uw,Uz,U0,U1,U2,U3,UY,UZ,Td,Tl,Tm,Tp,Tr,Ts,Tv,Ty,Tz,T0,TD,Sl,S4,S5,S7,S8,S9,SA,z1,z2,h1,i2,l2,q1,u1,b1,b2];all_goals tactic=>exact rfl))
abbrev s7d (x:Vn) (bs:List Nat) (W:List Int) (ill all n0 s i:Nat):List AV:=[BY bs,.pt 0 0,nL W,I (ill:Nat),I (all:Nat),I (n0+2*i:Nat),I (s:Nat),I (rbI x bs ill n0 i:Nat),I ((x.bs.take i).foldl (yH all) all:Nat),rB (x.bs.map bI),I x.bs.length,I (i:Nat)]
include ok hb8 hl8 in
theorem aHc {W:List Int} {ill all n0 s i:Nat} (hsub:sub ill all) (hall:all<2^x.F) (hn:n0+2*x.bs.length<900000) (hi:i<x.bs.length) :
 aV 0 [1,5,6,8,9,10,11,19,20,115,116,117] (execW aA 7 0 none (match aGz with | .loop _ a=>a|c=>c) (aU [1,5,6,8,9,10,11,19,20,115,116,117] (s7d x bs W ill all n0 s i)) (oU x))=some (s7d x bs W ill all n0 s (i+1),oU x):=by
 have hp:=aZ ok.F16
 have hnb:=ok.nb
 obtain⟨b,hb⟩:=bZ hi
 have hbo:=ok.b b (List.mem_of_getElem? hb)
 have gl:(x.bs.map bI).length=x.bs.length:=List.length_map ..
 have a1:=dP hi
 have a2:=fD hi (by omega)
 have hil:=yU hsub hall
 have ho:=aCf ok hall i
 have hr:=yU (tN (x:=x) (bs:=bs) (n0:=n0) hsub i (by omega)) ho
 have rd:=fun k (hk:k<2)=>aHd ok hb8 hl8 (W:=W) (ill:=ill) (all:=all) (n0:=n0) (s:=s) (r:=rbI x bs ill n0 i) (o:=(x.bs.take i).foldl (yH all) all) (i:=i) (b:=b) ⟨hbo.1,hbo.2.1⟩ (by omega) (by omega) (by omega) (by omega) (by omega) hk
 have e1:rbI x bs ill n0 (i+1)=rb1 bs ill n0 i b (rbI x bs ill n0 i) 2:=by rw[rbI,aY hb]
 have e2:(x.bs.take (i+1)).foldl (yH all) all=fb1 all ((x.bs.take i).foldl (yH all) all) b 2:=by rw[gF hb];rfl
 have e3:n0+2*(i+1)=n0+2*i+2:=by omega
 unfold s7d
 rw[e1,e2,e3]
 generalize rbI x bs ill n0 i=r at *
 generalize (x.bs.take i).foldl (yH all) all=o at *
 have f0:rb1 bs ill n0 i b r 0=r:=rfl
 have f1:fb1 all o b 0=o:=rfl
 have f2:n0+2*i+0=n0+2*i:=rfl
 unfold aGz
 dsimp only
 sym =>
  simp[Za,Zb,Zc,Zd,Ze,Zf,Zh,Zl,Zm,Zv,Zw,Z3,ZA,ZG,ZK,ZL,Yg,Yh,Ys,Yw,Yx,Xg,Wq,Wx,W0,W3,W4,W5,W6,VN,VQ,VR,VY,VZ,Ua,Ud,Ue,Uf,Ug,Uh,Uj,Ur,Uv,U4,U5,UC,Ta,Tb,Tc,Te,Tf,Tl,Tm,Tp,Tr,Ts,Tz,T0,a1,hb,gl]
  tactic =>
   unfold aBk
   rw[aF 2 (fun k=>s7c x bs W ill all n0 s b r o i k) (fun _=>gB7 x b)]
   ·(sym=>(simp[Za,Zb,Zf,Zh,Zl,Zm,Zv,Z3,Yj,Ys,YD,YU,YZ,Xb,Xp,Xt,Xv,Wx,WA,WE,WF,WH,WI,WJ,WL,WN,WO,WP,WQ,WV,WW,Vc,VN,VO,VP,VQ,VS,VW,VX,VZ,Ua,Uc,Uh,Uu,Uw,U0,U1,U2,U3,Tl,Tm,Tq,Ts,Tt,Tv,Tx,Ty,Tz,T0,TD,a2];all_goals tactic=>exact rfl))
   ·unfold s7c
    rw[f0,f1,f2]; (sym=>(simp[Za,Y9,YU,YZ,Xb,Xp,Xt,Xv,Wx,WA,WB,WE,WF,WH,WI,WJ,WL,WN,WO,WP,WQ,WV,WW,Vc,VN,VO,VP,VW,VX,VY,VZ,Ua,Uc,Uh,Uu,U0,U1,U2,U3,Ty,TD];all_goals tactic=>exact rfl))
   ·exact rd
   ·(sym=>(simp[Za,Zb,Zf,Zh,Zl,Zm,Zv,Z3,Ys,YD,VN,VQ,VS,VT,Uw,Tl,Tm,Tq,Ts,Tt,Tz,T0,a2];all_goals tactic=>exact rfl))
abbrev s7e (x:Vn) (bs:List Nat) (W:List Int) (s n1 r0 o0 i:Nat):List AV:=[BY bs,.pt 0 0,nL W,I (n1+i:Nat),I (s:Nat),I (rpI x bs s n1 r0 i:Nat),I ((x.ps.take i).foldl (wU 0 (s:Int)) o0:Nat),rP (x.ps.map pI),I x.ps.length,I (i:Nat)]
include ok hb8 hl8 in
theorem aHb {W:List Int} {s n1 r0 o0 i:Nat} (hsub:sub r0 o0) (ho0:o0<2^x.F) (hn:n1+x.ps.length<900000) (hi:i<x.ps.length) :
 aV 0 [1,5,6,10,11,19,20,162,163,164] (execW aA 7 0 none (match aGy with | .loop _ a=>a|c=>c) (aU [1,5,6,10,11,19,20,162,163,164] (s7e x bs W s n1 r0 o0 i)) (oU x))=some (s7e x bs W s n1 r0 o0 (i+1),oU x):=by
 have hF:=ok.F16
 have hp:=aZ ok.F16
 have hnp:=ok.np
 obtain⟨p,hpp⟩:=bZ hi
 have hpo:=ok.p p (List.mem_of_getElem? hpp)
 have gl:(x.ps.map pI).length=x.ps.length:=List.length_map ..
 have a1:=dP hi
 have a2:=fD hi (by omega)
 have ho:=aIZ ok ho0 (s:Int) i
 have hr:=yU (zD (x:=x) (bs:=bs) (s:=s) (n0:=n1) hsub i (by omega)) ho
 have e1:rpI x bs s n1 r0 (i+1)=lE (rpI x bs s n1 r0 i) (decide (p.1=s)&&((rpI x bs s n1 r0 i).testBit p.2.1&&nV bs (n1+i))) p.2.2:=by rw[rpI,aY hpp]
 have e2:(x.ps.take (i+1)).foldl (wU 0 (s:Int)) o0=lE ((x.ps.take i).foldl (wU 0 (s:Int)) o0) (decide (p.1=s)&&((x.ps.take i).foldl (wU 0 (s:Int)) o0).testBit p.2.1) p.2.2:=by
  rw[gF hpp,wU,Nat.zero_testBit,Bool.not_false,Bool.and_true]
  congr 2
  rw[Bool.eq_iff_iff,decide_eq_true_eq,decide_eq_true_eq];omega
 have e3:n1+(i+1)=n1+i+1:=rfl
 unfold s7e
 rw[e1,e2,e3]
 generalize rpI x bs s n1 r0 i=r at *
 generalize (x.ps.take i).foldl (wU 0 (s:Int)) o0=o at *
 have z1:((p.2.1:Int)<0)=False:=eq_false (by omega)
 have z2:((p.2.2:Int)<0)=False:=eq_false (by omega)
 have h2:=nG bW (i:=p.2.2) (by omega)
 have p2:(2:Nat)^p.2.2≤2^15:=Nat.pow_le_pow_right (by omega) (by omega)
 have i1:=lS bW (a:=r) (i:=p.2.1) (by omega) (by omega)
 have l1:=lS bW (a:=o) (i:=p.2.1) (by omega) (by omega)
 have q0:=w38 hb8 hl8 (n:=n1+i) (by omega)
 have u0:IntKind.i64.wrap (((n1+i:Nat):Int)+1)=((n1+i+1:Nat):Int):=by rw[aD (by omega) (by omega)];omega
 have b1:=cN bW (a:=r) (b:=2^p.2.2) (by omega) (by omega)
 have b2:=cN bW (a:=o) (b:=2^p.2.2) (by omega) (by omega)
 unfold lE
 generalize n1+i+1=nn1 at *
 generalize n1+i=nn at *
 unfold aGy
 dsimp only
 by_cases hs:p.1=s
 ·have s1:((p.1:Int)=(s:Int))=True:=eq_true (by omega)
  rw[decide_eq_true hs,Bool.true_and,Bool.true_and]
  cases hx1:r.testBit p.2.1<;>cases hx2:nV bs nn<;>cases hx3:o.testBit p.2.1<;>rw[hx1]at i1<;>rw[hx2]at q0<;>rw[hx3]at l1<;>simp only[Bool.false_eq_true,if_false,if_true,Bool.and_false,Bool.false_and,Bool.and_self]at i1 l1 ⊢<;>(sym=>(simp[Za,Zb,Zc,Zd,Ze,Zf,Zg,Zh,Zj,Zl,Zm,Zp,Zq,Zs,Zv,Zw,Zy,Z3,Z8,ZA,ZG,ZK,ZL,ZO,ZP,ZT,ZU,ZV,ZW,Yb,Yg,Yh,Yj,Ym,Yn,Yo,Yp,Yq,Ys,Yw,Yx,YU,YZ,Xb,Xg,Xp,Xq,Xt,Xv,XL,Wg,Wq,Wx,Wy,Wz,W0,W3,W4,W5,W6,W9,WA,WE,WF,WH,WI,WJ,WK,WL,WM,WN,WO,WP,WQ,WR,WS,WV,WW,Vc,Vf,Vg,Vh,Vs,Vu,Vv,Vw,VN,VO,VP,VQ,VR,VS,VW,VX,VY,VZ,Ua,Uc,Ud,Ue,Uf,Ug,Uh,Uj,Ur,Uu,Uv,Uw,Uz,U0,U1,U2,U3,U4,U5,UC,UY,UZ,Ta,Tb,Tc,Td,Te,Tf,Tl,Tm,Tp,Tr,Ts,Tv,Ty,Tz,T0,TD,Sl,S4,S5,S7,S8,S9,SA,a1,a2,hpp,gl,s1,z1,z2,h2,i1,l1,q0,u0,b1,b2];all_goals tactic=>exact rfl))
 ·have s1:((p.1:Int)=(s:Int))=False:=eq_false (by omega)
  rw[decide_eq_false hs,Bool.false_and,Bool.false_and]
  simp only[Bool.false_eq_true,if_false]
  (sym=>(simp[Za,Zb,Zc,Zd,Ze,Zf,Zg,Zh,Zj,Zl,Zm,Zp,Zs,Zv,Zw,Zy,Z3,Z8,ZA,ZG,ZK,ZL,ZW,Yb,Yg,Yh,Yj,Yq,Ys,Yw,Yx,YU,YZ,Xb,Xg,Xp,Xt,Xv,XL,Wg,Wq,Wx,Wy,Wz,W0,W3,W4,W5,W6,W9,WA,WE,WF,WH,WI,WJ,WL,WN,WO,WP,WQ,WV,WW,Vc,Vs,Vu,Vv,Vw,VN,VO,VP,VQ,VR,VS,VW,VX,VY,VZ,Ua,Uc,Ud,Ue,Uf,Ug,Uh,Uj,Ur,Uu,Uv,Uw,U0,U1,U2,U3,U4,U5,UC,UY,UZ,Ta,Tb,Tc,Td,Te,Tf,Tl,Tm,Tp,Tr,Ts,Tv,Ty,Tz,T0,TD,Sl,S4,S5,S7,S8,S9,SA,a1,a2,hpp,gl,s1,u0];all_goals tactic=>exact rfl))
end
section
variable {x:Vn} (ok:x.Ok) {bs:List Nat} (hb8:∀ v∈bs,v<256) (hl8:bs.length≤maxLen)
abbrev s7f (x:Vn) (bs:List Nat) (s:Nat):List AV:=[BY bs,.pt 0 0,nL (eW x),I (rl x bs s:Nat),I (bA x 0 s:Nat),I (s*cc x:Nat),I (s:Nat)]
include ok hb8 hl8 in
theorem aHa {s:Nat} (hs:s<14) :
 aV 0 [1,5,6,8,9,10,11] (execW aA 7 0 none (match aGx with | .loop _ a=>a|c=>c) (aU [1,5,6,8,9,10,11] (s7f x bs s)) (oU x))=some (s7f x bs (s+1),oU x):=by
 have hnb:=ok.nb
 have hnp:=ok.np
 have a1:((s:Int)<14)=True:=eq_true (by omega)
 have a2:=fD hs (by omega)
 have e18:=aJr ok (s:=s) (by omega)
 have hal:=dL ok 0 s
 have hsub:=aFh (bs:=bs) ok s
 have gl:=cA (el (bA x 0 s))
 have gb:(x.bs.map bI).length=x.bs.length:=List.length_map ..
 have gp:(x.ps.map pI).length=x.ps.length:=List.length_map ..
 have z0:=UX (n:=((el (bA x 0 s)).length:Int))
 have zF:=UX (n:=(x.F:Int))
 have zb:=UX (n:=(x.bs.length:Int))
 have zp:=UX (n:=(x.ps.length:Int))
 have hcc:s*cc x+cc x≤14*140:=by
  have h1:cc x≤140:=by show 2*x.bs.length+x.ps.length≤140;omega
  have h2:(s+1)*cc x≤14*140:=Nat.mul_le_mul (by omega) h1
  rw[Nat.add_mul,Nat.one_mul]at h2
  exact h2
 have hc2:cc x=2*x.bs.length+x.ps.length:=rfl
 have hb:=tN (x:=x) (bs:=bs) (n0:=s*cc x) hsub x.bs.length (Nat.le_refl _)
 have hbl:=aCf ok hal x.bs.length
 have e1:rl x bs (s+1)=rpI x bs s (s*cc x+2*x.bs.length) (rbI x bs (rl x bs s) (s*cc x) x.bs.length) x.ps.length:=by rw[rl]
 have e2:=aEx ok s
 have e3:(s+1)*cc x=s*cc x+2*x.bs.length+x.ps.length:=by rw[Nat.add_mul,Nat.one_mul,hc2];omega
 have rda:=fun i (hi:i<(el (bA x 0 s)).length)=>aHf (bs:=bs) (W:=eW x) (ill:=rl x bs s) (n:=s*cc x) (s:=s) hal hi
 have rdb:=fun f (hf:f<x.F)=>aHe ok (bs:=bs) (ill:=rl x bs s) (n:=s*cc x) (s:=s) (by omega) hsub hf
 have rdd:=fun i (hi:i<x.bs.length)=>aHc ok hb8 hl8 (W:=eW x) (ill:=rl x bs s) (all:=bA x 0 s) (n0:=s*cc x) (s:=s) hsub hal (by omega) hi
 have rde:=fun i (hi:i<x.ps.length)=>aHb ok hb8 hl8 (W:=eW x) (s:=s) (n1:=s*cc x+2*x.bs.length) hb hbl (by omega) hi
 have p0:prC (dB (el (bA x 0 s))) 0 = -1:=rfl
 unfold s7f
 rw[e1,e2,e3]
 generalize hR:rl x bs s=R at *
 generalize hA:bA x 0 s=A at *
 generalize hn0:s*cc x=n0 at *
 have b0:rbI x bs R n0 0=R:=rfl
 have c0:(x.bs.take 0).foldl (yH A) A=A:=rfl
 have d0:n0+2*0=n0:=rfl
 generalize hRB:rbI x bs R n0 x.bs.length=RB at *
 generalize hFB:(x.bs.take x.bs.length).foldl (yH A) A=FB at *
 have b1:rpI x bs s (n0+2*x.bs.length) RB 0=RB:=rfl
 have c1:(x.ps.take 0).foldl (wU 0 (s:Int)) FB=FB:=rfl
 have d1:n0+2*x.bs.length+0=n0+2*x.bs.length:=rfl
 generalize hRP:rpI x bs s (n0+2*x.bs.length) RB x.ps.length=RP at *
 generalize hFP:(x.ps.take x.ps.length).foldl (wU 0 (s:Int)) FB=FP at *
 unfold aGx
 dsimp only
 sym =>
  simp[Za,Zb,Zf,Zg,Zh,Zj,Zl,Zm,Zv,Z3,ZE,ZF,ZG,ZO,ZP,ZT,ZU,Yc,Yi,Yr,Ys,YU,YX,YZ,Xp,Xr,Xs,Xt,Wx,Wy,Wz,W3,W4,W5,W6,W9,WH,WK,WM,WR,WS,Vf,Vg,Vh,Vs,Vu,Vv,Vx,Vy,V0,VN,VQ,VR,VS,VW,VX,VZ,Ua,Ud,Ue,Uf,Um,Uv,Uz,U0,U1,U2,U3,UY,UZ,Tc,Tl,Tm,Tp,Tr,Ts,Tz,T0,S4,S5,S6,S8,S9,SA,a1,e18,gl]
  tactic =>
   unfold aGB
   rw[aF (el A).length (fun i=>s7a bs (eW x) R A n0 s i) (fun _=>oU x)]
   ·sym =>
    simp[Za,Zb,Zf,Zh,Zl,Zm,Zv,Z3,Ys,VN,VQ,VS,Uw,UX,Tl,Tm,Tq,Tr,Ts,Tt,Tx,Tz,T0,z0]
    tactic =>
     unfold aGA
     rw[aF x.F (fun f=>s7b bs (eW x) R A n0 s f) (fun _=>oU x)]
     ·sym =>
      simp[Za,Zb,Zf,Zh,Zl,Zm,Zv,Z3,Z8,ZF,ZG,Yb,Yc,Ys,Wx,Wy,Wz,W9,VN,VQ,VS,Uf,Uw,UX,UY,UZ,Td,Tl,Tm,Tq,Tr,Ts,Tt,Tx,Tz,T0,zF,gb]
      tactic =>
       unfold aGz
       rw[aF x.bs.length (fun i=>s7d x bs (eW x) R A n0 s i) (fun _=>oU x)]
       ·unfold s7d
        rw[hRB,hFB]
        sym =>
         simp[Za,Zb,Zf,Zh,Zl,Zm,Zv,Z3,Z8,ZF,ZG,Yb,Yc,Ys,Wx,Wy,Wz,W9,VN,VQ,VS,Uf,Uw,UX,UY,UZ,Td,Tl,Tm,Tq,Tr,Ts,Tt,Tx,Tz,T0,zb,gp]
         tactic =>
          unfold aGy
          rw[aF x.ps.length (fun i=>s7e x bs (eW x) s (n0+2*x.bs.length) RB FB i) (fun _=>oU x)]
          ·unfold s7e
           rw[hRP,hFP]; (sym=>(simp[Za,Zb,Zf,Zh,Zl,Zm,Zv,Z3,Yj,Ys,YU,YZ,Xb,Xp,Xt,Xv,Wx,WA,WE,WF,WH,WI,WJ,WL,WN,WO,WP,WQ,WV,WW,Vc,VN,VO,VP,VQ,VS,VW,VX,VZ,Ua,Uc,Uh,Uu,Uw,U0,U1,U2,U3,UX,Tl,Tm,Tq,Ts,Tt,Tv,Tx,Ty,Tz,T0,TD,zp,a2];all_goals tactic=>exact rfl))
          ·unfold s7e
           rw[b1,c1,d1]; (sym=>(simp[Za,Y9,YU,YZ,Xb,Xp,Xt,Xv,Wx,WA,WE,WF,WH,WI,WJ,WL,WN,WO,WP,WQ,WV,WW,Vc,VN,VO,VP,VW,VX,VZ,Ua,Uc,Uh,Uu,U0,U1,U2,U3,Ty,TD];all_goals tactic=>exact rfl))
          ·exact rde
          ·unfold s7e
           rw[hRP,hFP]; (sym=>(simp[Za,Zb,Zf,Zh,Zl,Zm,Z3,Ys,VN,VQ,VS,VT,Uw,UX,Tl,Tm,Tq,Ts,Tt,Tz,zp];all_goals tactic=>exact rfl))
       ·unfold s7d
        rw[b0,c0,d0]; (sym=>(simp[Za,Y9,YU,YZ,Xb,Xp,Xt,Xv,Wx,WA,WE,WF,WH,WI,WJ,WL,WN,WO,WP,WQ,WV,WW,Vc,VN,VO,VP,VW,VX,VZ,Ua,Uc,Uh,Uu,U0,U1,U2,U3,Ty,TD];all_goals tactic=>exact rfl))
       ·exact rdd
       ·unfold s7d
        rw[hRB,hFB]; (sym=>(simp[Za,Zb,Zf,Zh,Zl,Zm,Z3,Ys,VN,VQ,VS,VT,Uw,UX,Tl,Tm,Tq,Ts,Tt,Tz,zb];all_goals tactic=>exact rfl))
     ·(sym=>(simp[Za,Y9,YU,YZ,Xb,Xp,Xt,Xv,Wx,WA,WE,WF,WH,WI,WJ,WL,WN,WO,WP,WQ,WV,WW,Vc,VN,VO,VP,VW,VX,VZ,Ua,Uc,Uh,Uu,U0,U1,U2,U3,Ty,TD];all_goals tactic=>exact rfl))
     ·exact rdb
     ·(sym=>(simp[Za,Zb,Zf,Zh,Zl,Zm,Zv,Z3,Z8,ZG,Yb,Ys,Wx,Wy,Wz,W9,VN,VQ,VS,VT,Uw,UX,UY,UZ,Td,Tl,Tm,Tq,Ts,Tt,Tz,zF];all_goals tactic=>exact rfl))
   ·unfold s7a
    rw[p0]; (sym=>(simp[Za,Y9,YU,YZ,Xb,Xp,Xt,Xv,Wx,WA,WE,WF,WH,WI,WJ,WL,WN,WO,WP,WQ,WV,WW,Vc,VN,VO,VP,VW,VX,VZ,Ua,Uc,Uh,Uu,U0,U1,U2,U3,Ty,TD,gl];all_goals tactic=>exact rfl))
   ·exact rda
   ·(sym=>(simp[Za,Zb,Zf,Zh,Zl,Zm,Z3,Ys,VN,VQ,VS,VT,Uw,UX,Tl,Tm,Tq,Ts,Tt,Tz,z0];all_goals tactic=>exact rfl))
end
theorem w7 {l:La} (hl:l.Ok) {bs:List Nat} (hb8:∀ v∈bs,v<256) (hl8:bs.length≤maxLen):runW aA 7 [.agg l.c,.fs (bs.map fun v=>[B8 v])] []=some (.bool true,[]):=by
 have e36:=w36 hl
 have ok:=l.md_ok
 generalize l.md=x at *
 have hp:=aZ ok.F16
 have hs:=ok.s
 have e20:=aGD ok
 have gl:(eW x).length=x.F:=by simp[eW]
 have rd:=fun s (hs:s<14)=>aHa ok hb8 hl8 hs
 have b0:rl x bs 0=x.sick:=rfl
 have c0:bA x 0 0=x.sick:=by rw[bA,aGa (by omega)]
 have d0:0*cc x=0:=Nat.zero_mul _
 rw[r7 (by simp)];unfold x7;dsimp only
 sym =>
  simp[Za,Zb,Zc,Zf,Zg,Zh,Zi,Zj,Zl,Zm,Zo,Zp,Zr,Zv,Zw,Zy,Zz,Z3,Z8,ZE,ZF,ZG,ZH,ZJ,ZK,ZL,ZO,ZP,ZT,ZU,ZW,Yb,Yc,Yi,Yr,YU,YX,YZ,Xg,Xi,Xj,Xm,Xp,Xr,Xs,Xt,Wc,We,Wg,Wq,Wx,Wy,Wz,W0,W3,W4,W5,W6,W7,W9,WH,WK,WM,WR,WS,Vf,Vg,Vh,Vs,Vu,Vv,Vx,Vy,V0,VL,VQ,VS,VV,VW,VX,VY,VZ,Ua,Ud,Ue,Uf,Uj,Um,Ur,Uv,Uz,U0,U1,U2,U3,U4,U5,UA,UB,UC,UL,UM,UY,UZ,Tc,Td,Te,Tf,Tg,Tl,Tm,Tp,Tr,Ts,Tz,T0,S4,S5,S6,S8,S9,SA,e36,e20,gl]
  tactic =>
   unfold aGx
   rw[aF 14 (fun s=>s7f x bs s) (fun _=>oU x)]
   ·generalize rl x bs 14=r14
    generalize bA x 0 14=i14
    generalize 14*cc x=c14
    (sym=>(simp[Za,Zb,Zf,Zh,Zl,Zm,Zv,Z3,ZO,ZP,ZT,ZU,Ys,YV,Xq,XI,Wd,W6,WH,WK,WL,WM,WN,WO,WP,WR,WS,Vf,Vg,Vh,Vs,V6,V7,V9,VA,VB,VC,VD,VG,VH,VI,VJ,VN,VQ,VS,VX,Ua,Uc,Ud,Ue,Uw,Uz,U0,U1,U2,Tl,Tm,Tn,Tq,Ts,Tt,Tx,Tz,T0,Sl,Sv,aGC];all_goals tactic=>exact rfl))
   ·unfold s7f
    rw[b0,c0,d0]; (sym=>(simp[Za,Y9,YU,YZ,Xb,Xp,Xt,Xv,Wx,W7,WA,WE,WF,WH,WI,WJ,WL,WN,WO,WP,WQ,WV,WW,Vc,VL,VO,VP,VW,VX,VZ,Ua,Uc,Uh,Uu,U0,U1,U2,U3,Ty,TD,gl];all_goals tactic=>exact rfl))
   ·exact rd
   ·(sym=>(simp[Za,Zb,Zf,Zh,Zl,Zm,Zv,Z3,Ys,VN,VQ,VS,VT,Uw,Tl,Tm,Tq,Ts,Tt,Tz,T0,Sv];all_goals tactic=>exact rfl))
end Go.Proofs.YtiabjdfdkiijmaaDoor
