/- Parts of a proof, joined: K85 K86 K87 K88 K89 K90 K91 K92 K93 K94 K95. No statement of the seed is proved here. -/
import Derived.Test.YtiabjdfdkiijmaaDoorI6
set_option linter.unusedSimpArgs false
set_option linter.unusedVariables false
set_option linter.unusedSectionVars false
namespace Go.Proofs.YtiabjdfdkiijmaaDoor
open Go Go.DL
set_option maxRecDepth 100000
set_option maxHeartbeats 4000000
theorem w36 {l:La} (ok:l.Ok):runW aA 36 [.agg l.c] []=some (.agg l.md.c,[]):=by
 have hk:=l.k_lt
 have v0:=wr8 ok.F
 have v1:=wr8 ok.s
 have v2:=wr8 ok.n
 have v3:=wr8 ok.f
 have q0:kU (l.F:Int) 7=((l.F%7:Nat):Int):=bK l.F 7
 have q1:IntKind.i64.wrap (2+((l.F%7:Nat):Int))=(l.k:Int):=by unfold La.k;rw[aD (by omega) (by omega)];omega
 have n0:((l.k:Int)<0)=False:=eq_false (by omega)
 have e:=fS bH (i:=l.k) (by omega)
 have pz:(((2^l.k:Nat):Int)=0)=False:=eq_false (by have:=Nat.two_pow_pos l.k;omega)
 have q2:=bK l.s (2^l.k)
 have q3:=bK l.n (2^l.k)
 have q4:=bK l.f (2^l.k)
 have rda:=fun j (h1:j<l.bs.length) (h2:j<12)=>aGk ok (S:=(l.s%2^l.k:Nat)) (N:=(l.n%2^l.k:Nat)) (X:=(l.f%2^l.k:Nat)) h1 h2
 obtain⟨mb,hmb⟩:∃ m,m=min 12 l.bs.length:=⟨_,rfl⟩
 obtain⟨mp,hmp⟩:∃ m,m=min 5 l.ps.length:=⟨_,rfl⟩
 have rdb:=fun j (h1:j<l.ps.length) (h2:j<5)=>aGj ok (S:=(l.s%2^l.k:Nat)) (N:=(l.n%2^l.k:Nat)) (X:=(l.f%2^l.k:Nat)) (xP l mb) h1 h2
 have B0:xP l 0=[]:=rfl
 have P0:sJ l 0=[]:=rfl
 have hB:xP l mb=(l.md.bs).map bI:=by
  show _=List.map bI ((l.bs.take 12).map (toB l.k))
  rw[xP,hmb,show l.bs.take (min 12 l.bs.length)=l.bs.take 12 by rw[←List.take_take,List.take_length]]
 have hP:sJ l mp=(l.md.ps).map pI:=by
  show _=List.map pI ((l.ps.take 5).map (toP l.k))
  rw[sJ,hmp,show l.ps.take (min 5 l.ps.length)=l.ps.take 5 by rw[←List.take_take,List.take_length]]
 have hres:(AV.agg l.md.c) = .agg [I l.k,.fs ((xP l mb).map qR),.fs ((sJ l mp).map pR),I (l.s%2^l.k:Nat),I (l.n%2^l.k:Nat),I (l.f%2^l.k:Nat)]:=by rw[hB,hP];rfl
 have zb:(mb<l.bs.length∧mb<12)∨True:=.inr trivial
 have cb:=aMB (xP l mb)
 have cp:=aMC (sJ l mp)
 have lb:=aHG (xP l mb)
 have lp:=aHH (sJ l mp)
 have stb:((mb:Int)<(l.bs.length:Int))=False∨((mb:Int)<(l.bs.length:Int))=True∧((mb:Int)<12)=False:=by
  by_cases h:mb<l.bs.length
  ·exact .inr ⟨eq_true (by omega),eq_false (by omega)⟩
  ·exact .inl (eq_false (by omega))
 have stp:((mp:Int)<(l.ps.length:Int))=False∨((mp:Int)<(l.ps.length:Int))=True∧((mp:Int)<5)=False:=by
  by_cases h:mp<l.ps.length
  ·exact .inr ⟨eq_true (by omega),eq_false (by omega)⟩
  ·exact .inl (eq_false (by omega))
 rw[hres]
 clear hres hB hP
 have rda:∀ j,j<mb→_:=fun j hj=>rda j (by omega) (by omega)
 have rdb:∀ j,j<mp→_:=fun j hj=>rdb j (by omega) (by omega)
 generalize hS:l.s%2^l.k=S at *
 generalize hN:l.n%2^l.k=N at *
 generalize hX:l.f%2^l.k=X at *
 generalize 2^l.k=p2 at *
 generalize l.F%7=r7 at *
 generalize hBB:xP l mb=BB at *
 generalize hPP:sJ l mp=PP at *
 have stb':=stb
 have stp':=stp
 rw[r36 (by simp)];unfold x36;dsimp only
 sym =>
  simp[aO,aP,bO,bS,bR,Za,Zb,Zc,Zd,Ze,Zf,Zh,Zi,Zl,Zm,Zo,Zv,Zw,Zz,Z0,Z3,Z6,Z7,ZG,ZH,ZJ,ZK,ZM,ZN,ZZ,Ya,Yi,Yo,Yx,YQ,Xg,Xi,Xj,Xm,Wc,We,Wg,Wo,Wq,Ww,Wx,Wy,Wz,W0,W3,W5,W6,W7,W8,Vi,VK,VU,VV,VW,VX,VY,VZ,Uc,Ud,Ui,Um,Un,Uq,Uv,Uw,Ux,U3,U4,U9,UA,UB,UC,UD,UE,UK,UL,UZ,Ta,Te,Tf,Tg,Th,Tm,Tn,Ts,Tt,T0,T1,Sk,v0,v1,v2,v3,q0,q1,n0,e,pz,q2,q3,q4]
  tactic =>
   unfold aDr
   rw[aE mb (fun j=>[.pt 0 0,.pt 1 0,I l.k,.pt 2 0,I (j:Nat)]) (fun j=>gLa l S N X (xP l j) []++gLb (xP l j) [])]
   ·rw[hBB]
    rcases stb with sb|⟨sb,sb2⟩
    ·rcases BB with _|⟨b,q⟩
     ·sym =>
      simp[aO,aP,bO,bS,bR,Za,Zb,Zf,Zh,Zl,Zm,Zp,Zs,Zv,Zy,Z3,Z7,ZF,ZG,ZW,Ya,Yb,Ys,Wx,Wy,Wz,W8,VM,VP,VR,VW,VZ,Ue,Uv,UZ,Ta,Te,Tm,Tn,Tr,Ts,Tt,Tu,Ty,T0,T1,sb]
      tactic =>
       unfold vF
       rw[aE mp (fun j=>[.pt 0 0,.pt 1 0,I l.k,.pt 2 0,I (j:Nat)]) (fun j=>gLa l S N X [] (sJ l j)++gLb [] (sJ l j))]
       ·rw[hPP]
        rcases stp with sp|⟨sp,sp2⟩
        ·rcases PP with _|⟨p,r⟩
         ·(sym=>(simp[aO,aP,bO,bS,bR,Za,Zb,Zc,Zf,Zh,Zl,Zm,Zp,Zs,Zv,Zy,Z3,Z7,ZF,ZG,ZK,ZL,ZW,Ya,Yb,Ys,YU,YX,YZ,Xg,Xm,Xp,Xr,Xt,X0,XJ,XO,Wc,We,Wj,Wq,Wx,Wy,Wz,W0,W3,W4,W5,W6,W8,WG,WK,WM,WN,WO,Vr,V5,V6,V8,V9,VA,VB,VC,VF,VG,VH,VJ,VM,VP,VR,VW,VY,VZ,Ub,Uc,Ud,Ue,Ui,Uq,Uv,Uz,U0,U1,U2,U3,U4,U5,U6,U9,UA,UB,UZ,Ta,Td,Te,Tf,Tg,Tm,Tn,Tp,Tr,Tt,Tu,Ty,T0,T1,Sl,sp];all_goals tactic=>exact rfl))
         ·have cp:cE (cP (p::r)) 0 3 (r.length+1)=(p::r).map pR:=cp
          have c3:((r.length+1)*3≤(cP (p::r)).length)=True:=eq_true (by rw[lp];simp)
          (sym=>(simp[aO,aP,bO,bS,bR,Za,Zb,Zc,Zf,Zh,Zl,Zm,Zp,Zs,Zv,Zy,Z3,Z7,ZF,ZG,ZK,ZL,ZW,Ya,Yb,Ys,YU,YX,YZ,Xg,Xj,Xk,Xm,Xp,Xr,Xt,X0,XJ,XM,XO,XV,XW,XZ,Wb,Wc,We,Wg,Wj,Wq,Wx,Wy,Wz,W0,W3,W4,W5,W6,W8,WG,WK,WM,WN,WO,Vo,Vp,Vq,Vr,Vs,V1,V2,V3,V5,V6,V8,V9,VA,VB,VC,VF,VG,VH,VJ,VM,VP,VR,VV,VW,VX,VY,VZ,Ub,Uc,Ud,Ue,Ui,Uk,Uq,Uv,Uz,U0,U1,U2,U3,U4,U5,U6,U7,U8,U9,UA,UB,UZ,Ta,Td,Te,Tf,Tg,Tm,Tn,Tp,Tr,Tt,Tu,Ty,T0,T1,TD,Sl,Sm,Sn,sp,cp,c3];all_goals tactic=>exact rfl))
        ·rcases PP with _|⟨p,r⟩
         ·(sym=>(simp[aO,aP,bO,bS,bR,Za,Zb,Zc,Zf,Zh,Zl,Zm,Zp,Zq,Zv,Zy,Z3,Z7,ZF,ZG,ZK,ZL,ZV,Ya,Yb,Ys,YU,YX,YZ,Xg,Xm,Xp,Xr,Xt,X0,XJ,XO,Wc,We,Wj,Wq,Wx,Wy,Wz,W0,W3,W4,W5,W6,W8,WG,WK,WM,WN,WO,Vr,V5,V6,V8,V9,VA,VB,VC,VF,VG,VH,VJ,VM,VP,VR,VW,VY,VZ,Ub,Uc,Ud,Ue,Ui,Uq,Uu,Uv,Uz,U0,U1,U2,U3,U4,U5,U6,U9,UA,UB,UZ,Ta,Td,Te,Tf,Tg,Tm,Tn,Tp,Tr,Tt,Tu,Ty,T0,T1,Sl,sp,sp2];all_goals tactic=>exact rfl))
         ·have cp:cE (cP (p::r)) 0 3 (r.length+1)=(p::r).map pR:=cp
          have c3:((r.length+1)*3≤(cP (p::r)).length)=True:=eq_true (by rw[lp];simp)
          (sym=>(simp[aO,aP,bO,bS,bR,Za,Zb,Zc,Zf,Zh,Zl,Zm,Zp,Zq,Zv,Zy,Z3,Z7,ZF,ZG,ZK,ZL,ZV,Ya,Yb,Ys,YU,YX,YZ,Xg,Xj,Xk,Xm,Xp,Xr,Xt,X0,XJ,XM,XO,XV,XW,XZ,Wb,Wc,We,Wg,Wj,Wq,Wx,Wy,Wz,W0,W3,W4,W5,W6,W8,WG,WK,WM,WN,WO,Vo,Vp,Vq,Vr,Vs,V1,V2,V3,V5,V6,V8,V9,VA,VB,VC,VF,VG,VH,VJ,VM,VP,VR,VV,VW,VX,VY,VZ,Ub,Uc,Ud,Ue,Ui,Uk,Uq,Uu,Uv,Uz,U0,U1,U2,U3,U4,U5,U6,U7,U8,U9,UA,UB,UZ,Ta,Td,Te,Tf,Tg,Tm,Tn,Tp,Tr,Tt,Tu,Ty,T0,T1,TD,Sl,Sm,Sn,sp,sp2,cp,c3];all_goals tactic=>exact rfl))
       ·rw[P0]; (sym=>(simp[aO,aP,bO,bS,bR,Za,Y9,YU,Xb,Xp,Xv,Wx,W9,WA,WC,WE,WG,WH,WI,WK,WM,WN,WO,WP,WU,WV,Vb,VM,VN,VO,VV,VW,VX,VY,VZ,Ub,Ug,Ut,Uz,U0,U1,U2,Tz,TE];all_goals tactic=>exact rfl))
       ·exact rdb
       ·rw[hPP]
        rcases stp with sp|⟨sp,sp2⟩
        ·rcases PP with _|⟨p,r⟩
         ·(sym=>(simp[aO,aP,bO,bS,bR,Za,Zb,Zf,Zh,Zl,Zm,Zp,Zs,Zv,Zy,Z3,Z7,ZF,ZG,ZW,Ya,Yb,Ys,Wx,Wy,Wz,W8,VM,VP,VR,VS,VZ,Ue,Uv,UZ,Ta,Te,Tm,Tn,Tr,Tt,Tu,T0,T1,sp];all_goals tactic=>exact rfl))
         ·(sym=>(simp[aO,aP,bO,bS,bR,Za,Zb,Zf,Zh,Zl,Zm,Zp,Zs,Zv,Zy,Z3,Z7,ZF,ZG,ZW,Ya,Yb,Ys,Wx,Wy,Wz,W8,VM,VP,VR,VS,VX,VY,Ue,Uv,UZ,Ta,Te,Tm,Tn,Tr,Tt,Tu,T0,T1,sp];all_goals tactic=>exact rfl))
        ·rcases PP with _|⟨p,r⟩
         ·(sym=>(simp[aO,aP,bO,bS,bR,Za,Zb,Zf,Zh,Zl,Zm,Zp,Zq,Zv,Zy,Z3,Z7,ZF,ZG,ZV,Ya,Yb,Ys,Wx,Wy,Wz,W8,VM,VP,VR,VS,VZ,Ue,Uu,Uv,UZ,Ta,Te,Tm,Tn,Tr,Tt,Tu,T0,T1,sp,sp2];all_goals tactic=>exact rfl))
         ·(sym=>(simp[aO,aP,bO,bS,bR,Za,Zb,Zf,Zh,Zl,Zm,Zp,Zq,Zv,Zy,Z3,Z7,ZF,ZG,ZV,Ya,Yb,Ys,Wx,Wy,Wz,W8,VM,VP,VR,VS,VX,VY,Ue,Uu,Uv,UZ,Ta,Te,Tm,Tn,Tr,Tt,Tu,T0,T1,sp,sp2];all_goals tactic=>exact rfl))
     ·have cb:cE (cQ (b::q)) 0 2 (q.length+1)=(b::q).map qR:=cb
      have b3:((q.length+1)*2≤(cQ (b::q)).length)=True:=eq_true (by rw[lb];simp)
      sym =>
       simp[aO,aP,bO,bS,bR,Za,Zb,Zf,Zh,Zl,Zm,Zp,Zs,Zv,Zy,Z3,Z7,ZF,ZG,ZW,Ya,Yb,Ys,Wx,Wy,Wz,W8,VM,VP,VR,VV,VX,VY,Ue,Uv,UZ,Ta,Te,Tm,Tn,Tr,Ts,Tt,Tu,Ty,T0,T1,sb]
       tactic =>
        unfold vF
        rw[aE mp (fun j=>[.pt 0 0,.pt 1 0,I l.k,.pt 2 0,I (j:Nat)]) (fun j=>gLa l S N X (b::q) (sJ l j)++gLb (b::q) (sJ l j))]
        ·rw[hPP]
         rcases stp with sp|⟨sp,sp2⟩
         ·rcases PP with _|⟨p,r⟩
          ·(sym=>(simp[aO,aP,bO,bS,bR,Za,Zb,Zc,Zf,Zh,Zl,Zm,Zp,Zs,Zv,Zy,Z3,Z7,ZF,ZG,ZK,ZL,ZW,Ya,Yb,Ys,YU,YX,YZ,Xg,Xj,Xk,Xm,Xp,Xr,Xt,X0,XJ,XM,XO,XV,XW,XZ,Wb,Wc,We,Wg,Wj,Wq,Wx,Wy,Wz,W0,W3,W4,W5,W6,W8,WG,WK,WM,WN,WO,Vo,Vp,Vq,Vr,Vs,V1,V2,V3,V5,V6,V8,V9,VA,VB,VC,VF,VG,VH,VJ,VM,VP,VR,VV,VW,VX,VY,VZ,Ub,Uc,Ud,Ue,Ui,Uk,Uq,Uv,Uz,U0,U1,U2,U3,U4,U5,U6,U7,U8,U9,UA,UB,UZ,Ta,Td,Te,Tf,Tg,Tm,Tn,Tp,Tr,Tt,Tu,Ty,T0,T1,TD,Sl,Sm,Sn,sp,cb,b3];all_goals tactic=>exact rfl))
          ·have cp:cE (cP (p::r)) 0 3 (r.length+1)=(p::r).map pR:=cp
           have c3:((r.length+1)*3≤(cP (p::r)).length)=True:=eq_true (by rw[lp];simp)
           (sym=>(simp[aO,aP,bO,bS,bR,Za,Zb,Zc,Zf,Zh,Zl,Zm,Zp,Zs,Zv,Zy,Z3,Z7,ZF,ZG,ZK,ZL,ZW,Ya,Yb,Ys,YU,YX,YZ,Xg,Xj,Xk,Xp,Xr,Xt,X0,XJ,XM,XV,XW,XY,XZ,Wc,We,Wg,Wq,Wx,Wy,Wz,W0,W3,W4,W5,W6,W8,WG,WK,WM,WN,WO,Vo,Vp,Vq,Vr,Vs,V0,V1,V2,V3,V5,V6,V8,V9,VA,VB,VC,VF,VG,VH,VJ,VM,VP,VR,VV,VW,VX,VY,VZ,Ub,Uc,Ud,Ue,Ui,Uk,Uq,Ur,Uv,Uz,U0,U1,U2,U3,U4,U5,U6,U7,U8,U9,UA,UB,UZ,Ta,Td,Te,Tf,Tg,Tm,Tn,Tp,Tr,Tt,Tu,Ty,T0,T1,TD,Sl,Sm,Sn,sp,cp,c3,cb,b3];all_goals tactic=>exact rfl))
         ·rcases PP with _|⟨p,r⟩
          ·(sym=>(simp[aO,aP,bO,bS,bR,Za,Zb,Zc,Zf,Zh,Zl,Zm,Zp,Zq,Zv,Zy,Z3,Z7,ZF,ZG,ZK,ZL,ZV,Ya,Yb,Ys,YU,YX,YZ,Xg,Xj,Xk,Xm,Xp,Xr,Xt,X0,XJ,XM,XO,XV,XW,XZ,Wb,Wc,We,Wg,Wj,Wq,Wx,Wy,Wz,W0,W3,W4,W5,W6,W8,WG,WK,WM,WN,WO,Vo,Vp,Vq,Vr,Vs,V1,V2,V3,V5,V6,V8,V9,VA,VB,VC,VF,VG,VH,VJ,VM,VP,VR,VV,VW,VX,VY,VZ,Ub,Uc,Ud,Ue,Ui,Uk,Uq,Uu,Uv,Uz,U0,U1,U2,U3,U4,U5,U6,U7,U8,U9,UA,UB,UZ,Ta,Td,Te,Tf,Tg,Tm,Tn,Tp,Tr,Tt,Tu,Ty,T0,T1,TD,Sl,Sm,Sn,sp,sp2,cb,b3];all_goals tactic=>exact rfl))
          ·have cp:cE (cP (p::r)) 0 3 (r.length+1)=(p::r).map pR:=cp
           have c3:((r.length+1)*3≤(cP (p::r)).length)=True:=eq_true (by rw[lp];simp)
           (sym=>(simp[aO,aP,bO,bS,bR,Za,Zb,Zc,Zf,Zh,Zl,Zm,Zp,Zq,Zv,Zy,Z3,Z7,ZF,ZG,ZK,ZL,ZV,Ya,Yb,Ys,YU,YX,YZ,Xg,Xj,Xk,Xp,Xr,Xt,X0,XJ,XM,XV,XW,XY,XZ,Wc,We,Wg,Wq,Wx,Wy,Wz,W0,W3,W4,W5,W6,W8,WG,WK,WM,WN,WO,Vo,Vp,Vq,Vr,Vs,V0,V1,V2,V3,V5,V6,V8,V9,VA,VB,VC,VF,VG,VH,VJ,VM,VP,VR,VV,VW,VX,VY,VZ,Ub,Uc,Ud,Ue,Ui,Uk,Uq,Ur,Uu,Uv,Uz,U0,U1,U2,U3,U4,U5,U6,U7,U8,U9,UA,UB,UZ,Ta,Td,Te,Tf,Tg,Tm,Tn,Tp,Tr,Tt,Tu,Ty,T0,T1,TD,Sl,Sm,Sn,sp,sp2,cp,c3,cb,b3];all_goals tactic=>exact rfl))
        ·rw[P0]; (sym=>(simp[aO,aP,bO,bS,bR,Za,Y9,YU,Xa,Xb,Xc,Xp,Xu,Xv,Xw,Wx,W9,WA,WC,WE,WG,WH,WI,WK,WM,WN,WO,WP,WU,WV,WW,Vb,Vc,VM,VN,VO,VV,VW,VX,VY,VZ,Ub,Ug,Ut,Uz,U0,U1,U2,Tz,TE];all_goals tactic=>exact rfl))
        ·exact rdb
        ·rw[hPP]
         rcases stp with sp|⟨sp,sp2⟩
         ·rcases PP with _|⟨p,r⟩
          ·(sym=>(simp[aO,aP,bO,bS,bR,Za,Zb,Zf,Zh,Zl,Zm,Zp,Zs,Zv,Zy,Z3,Z7,ZF,ZG,ZW,Ya,Yb,Ys,Wx,Wy,Wz,W8,VM,VP,VR,VS,VX,VY,Ue,Uv,UZ,Ta,Te,Tm,Tn,Tr,Tt,Tu,T0,T1,sp];all_goals tactic=>exact rfl))
          ·(sym=>(simp[aO,aP,bO,bS,bR,Za,Zb,Zf,Zh,Zl,Zm,Zp,Zs,Zv,Zy,Z3,Z7,ZF,ZG,ZW,Ya,Yb,Ys,Wx,Wy,Wz,W8,VM,VP,VR,VS,VX,VY,Ue,Uv,UZ,Ta,Te,Tm,Tn,Tr,Tt,Tu,T0,T1,sp];all_goals tactic=>exact rfl))
         ·rcases PP with _|⟨p,r⟩
          ·(sym=>(simp[aO,aP,bO,bS,bR,Za,Zb,Zf,Zh,Zl,Zm,Zp,Zq,Zv,Zy,Z3,Z7,ZF,ZG,ZV,Ya,Yb,Ys,Wx,Wy,Wz,W8,VM,VP,VR,VS,VX,VY,Ue,Uu,Uv,UZ,Ta,Te,Tm,Tn,Tr,Tt,Tu,T0,T1,sp,sp2];all_goals tactic=>exact rfl))
          ·(sym=>(simp[aO,aP,bO,bS,bR,Za,Zb,Zf,Zh,Zl,Zm,Zp,Zq,Zv,Zy,Z3,Z7,ZF,ZG,ZV,Ya,Yb,Ys,Wx,Wy,Wz,W8,VM,VP,VR,VS,VX,VY,Ue,Uu,Uv,UZ,Ta,Te,Tm,Tn,Tr,Tt,Tu,T0,T1,sp,sp2];all_goals tactic=>exact rfl))
    ·rcases BB with _|⟨b,q⟩
     ·sym =>
      simp[aO,aP,bO,bS,bR,Za,Zb,Zf,Zh,Zl,Zm,Zp,Zq,Zv,Zy,Z3,Z7,ZF,ZG,ZV,Ya,Yb,Ys,Wx,Wy,Wz,W8,VM,VP,VR,VW,VZ,Ue,Uu,Uv,UZ,Ta,Te,Tm,Tn,Tr,Ts,Tt,Tu,Ty,T0,T1,sb,sb2]
      tactic =>
       unfold vF
       rw[aE mp (fun j=>[.pt 0 0,.pt 1 0,I l.k,.pt 2 0,I (j:Nat)]) (fun j=>gLa l S N X [] (sJ l j)++gLb [] (sJ l j))]
       ·rw[hPP]
        rcases stp with sp|⟨sp,sp2⟩
        ·rcases PP with _|⟨p,r⟩
         ·(sym=>(simp[aO,aP,bO,bS,bR,Za,Zb,Zc,Zf,Zh,Zl,Zm,Zp,Zs,Zv,Zy,Z3,Z7,ZF,ZG,ZK,ZL,ZW,Ya,Yb,Ys,YU,YX,YZ,Xg,Xm,Xp,Xr,Xt,X0,XJ,XO,Wc,We,Wj,Wq,Wx,Wy,Wz,W0,W3,W4,W5,W6,W8,WG,WK,WM,WN,WO,Vr,V5,V6,V8,V9,VA,VB,VC,VF,VG,VH,VJ,VM,VP,VR,VW,VY,VZ,Ub,Uc,Ud,Ue,Ui,Uq,Uv,Uz,U0,U1,U2,U3,U4,U5,U6,U9,UA,UB,UZ,Ta,Td,Te,Tf,Tg,Tm,Tn,Tp,Tr,Tt,Tu,Ty,T0,T1,Sl,sp];all_goals tactic=>exact rfl))
         ·have cp:cE (cP (p::r)) 0 3 (r.length+1)=(p::r).map pR:=cp
          have c3:((r.length+1)*3≤(cP (p::r)).length)=True:=eq_true (by rw[lp];simp)
          (sym=>(simp[aO,aP,bO,bS,bR,Za,Zb,Zc,Zf,Zh,Zl,Zm,Zp,Zs,Zv,Zy,Z3,Z7,ZF,ZG,ZK,ZL,ZW,Ya,Yb,Ys,YU,YX,YZ,Xg,Xj,Xk,Xm,Xp,Xr,Xt,X0,XJ,XM,XO,XV,XW,XZ,Wb,Wc,We,Wg,Wj,Wq,Wx,Wy,Wz,W0,W3,W4,W5,W6,W8,WG,WK,WM,WN,WO,Vo,Vp,Vq,Vr,Vs,V1,V2,V3,V5,V6,V8,V9,VA,VB,VC,VF,VG,VH,VJ,VM,VP,VR,VV,VW,VX,VY,VZ,Ub,Uc,Ud,Ue,Ui,Uk,Uq,Uv,Uz,U0,U1,U2,U3,U4,U5,U6,U7,U8,U9,UA,UB,UZ,Ta,Td,Te,Tf,Tg,Tm,Tn,Tp,Tr,Tt,Tu,Ty,T0,T1,TD,Sl,Sm,Sn,sp,cp,c3];all_goals tactic=>exact rfl))
        ·rcases PP with _|⟨p,r⟩
         ·(sym=>(simp[aO,aP,bO,bS,bR,Za,Zb,Zc,Zf,Zh,Zl,Zm,Zp,Zq,Zv,Zy,Z3,Z7,ZF,ZG,ZK,ZL,ZV,Ya,Yb,Ys,YU,YX,YZ,Xg,Xm,Xp,Xr,Xt,X0,XJ,XO,Wc,We,Wj,Wq,Wx,Wy,Wz,W0,W3,W4,W5,W6,W8,WG,WK,WM,WN,WO,Vr,V5,V6,V8,V9,VA,VB,VC,VF,VG,VH,VJ,VM,VP,VR,VW,VY,VZ,Ub,Uc,Ud,Ue,Ui,Uq,Uu,Uv,Uz,U0,U1,U2,U3,U4,U5,U6,U9,UA,UB,UZ,Ta,Td,Te,Tf,Tg,Tm,Tn,Tp,Tr,Tt,Tu,Ty,T0,T1,Sl,sp,sp2];all_goals tactic=>exact rfl))
         ·have cp:cE (cP (p::r)) 0 3 (r.length+1)=(p::r).map pR:=cp
          have c3:((r.length+1)*3≤(cP (p::r)).length)=True:=eq_true (by rw[lp];simp)
          (sym=>(simp[aO,aP,bO,bS,bR,Za,Zb,Zc,Zf,Zh,Zl,Zm,Zp,Zq,Zv,Zy,Z3,Z7,ZF,ZG,ZK,ZL,ZV,Ya,Yb,Ys,YU,YX,YZ,Xg,Xj,Xk,Xm,Xp,Xr,Xt,X0,XJ,XM,XO,XV,XW,XZ,Wb,Wc,We,Wg,Wj,Wq,Wx,Wy,Wz,W0,W3,W4,W5,W6,W8,WG,WK,WM,WN,WO,Vo,Vp,Vq,Vr,Vs,V1,V2,V3,V5,V6,V8,V9,VA,VB,VC,VF,VG,VH,VJ,VM,VP,VR,VV,VW,VX,VY,VZ,Ub,Uc,Ud,Ue,Ui,Uk,Uq,Uu,Uv,Uz,U0,U1,U2,U3,U4,U5,U6,U7,U8,U9,UA,UB,UZ,Ta,Td,Te,Tf,Tg,Tm,Tn,Tp,Tr,Tt,Tu,Ty,T0,T1,TD,Sl,Sm,Sn,sp,sp2,cp,c3];all_goals tactic=>exact rfl))
       ·rw[P0]; (sym=>(simp[aO,aP,bO,bS,bR,Za,Y9,YU,Xb,Xp,Xv,Wx,W9,WA,WC,WE,WG,WH,WI,WK,WM,WN,WO,WP,WU,WV,Vb,VM,VN,VO,VV,VW,VX,VY,VZ,Ub,Ug,Ut,Uz,U0,U1,U2,Tz,TE];all_goals tactic=>exact rfl))
       ·exact rdb
       ·rw[hPP]
        rcases stp with sp|⟨sp,sp2⟩
        ·rcases PP with _|⟨p,r⟩
         ·(sym=>(simp[aO,aP,bO,bS,bR,Za,Zb,Zf,Zh,Zl,Zm,Zp,Zs,Zv,Zy,Z3,Z7,ZF,ZG,ZW,Ya,Yb,Ys,Wx,Wy,Wz,W8,VM,VP,VR,VS,VZ,Ue,Uv,UZ,Ta,Te,Tm,Tn,Tr,Tt,Tu,T0,T1,sp];all_goals tactic=>exact rfl))
         ·(sym=>(simp[aO,aP,bO,bS,bR,Za,Zb,Zf,Zh,Zl,Zm,Zp,Zs,Zv,Zy,Z3,Z7,ZF,ZG,ZW,Ya,Yb,Ys,Wx,Wy,Wz,W8,VM,VP,VR,VS,VX,VY,Ue,Uv,UZ,Ta,Te,Tm,Tn,Tr,Tt,Tu,T0,T1,sp];all_goals tactic=>exact rfl))
        ·rcases PP with _|⟨p,r⟩
         ·(sym=>(simp[aO,aP,bO,bS,bR,Za,Zb,Zf,Zh,Zl,Zm,Zp,Zq,Zv,Zy,Z3,Z7,ZF,ZG,ZV,Ya,Yb,Ys,Wx,Wy,Wz,W8,VM,VP,VR,VS,VZ,Ue,Uu,Uv,UZ,Ta,Te,Tm,Tn,Tr,Tt,Tu,T0,T1,sp,sp2];all_goals tactic=>exact rfl))
         ·(sym=>(simp[aO,aP,bO,bS,bR,Za,Zb,Zf,Zh,Zl,Zm,Zp,Zq,Zv,Zy,Z3,Z7,ZF,ZG,ZV,Ya,Yb,Ys,Wx,Wy,Wz,W8,VM,VP,VR,VS,VX,VY,Ue,Uu,Uv,UZ,Ta,Te,Tm,Tn,Tr,Tt,Tu,T0,T1,sp,sp2];all_goals tactic=>exact rfl))
     ·have cb:cE (cQ (b::q)) 0 2 (q.length+1)=(b::q).map qR:=cb
      have b3:((q.length+1)*2≤(cQ (b::q)).length)=True:=eq_true (by rw[lb];simp)
      sym =>
       simp[aO,aP,bO,bS,bR,Za,Zb,Zf,Zh,Zl,Zm,Zp,Zq,Zv,Zy,Z3,Z7,ZF,ZG,ZV,Ya,Yb,Ys,Wx,Wy,Wz,W8,VM,VP,VR,VV,VX,VY,Ue,Uu,Uv,UZ,Ta,Te,Tm,Tn,Tr,Ts,Tt,Tu,Ty,T0,T1,sb,sb2]
       tactic =>
        unfold vF
        rw[aE mp (fun j=>[.pt 0 0,.pt 1 0,I l.k,.pt 2 0,I (j:Nat)]) (fun j=>gLa l S N X (b::q) (sJ l j)++gLb (b::q) (sJ l j))]
        ·rw[hPP]
         rcases stp with sp|⟨sp,sp2⟩
         ·rcases PP with _|⟨p,r⟩
          ·(sym=>(simp[aO,aP,bO,bS,bR,Za,Zb,Zc,Zf,Zh,Zl,Zm,Zp,Zs,Zv,Zy,Z3,Z7,ZF,ZG,ZK,ZL,ZW,Ya,Yb,Ys,YU,YX,YZ,Xg,Xj,Xk,Xm,Xp,Xr,Xt,X0,XJ,XM,XO,XV,XW,XZ,Wb,Wc,We,Wg,Wj,Wq,Wx,Wy,Wz,W0,W3,W4,W5,W6,W8,WG,WK,WM,WN,WO,Vo,Vp,Vq,Vr,Vs,V1,V2,V3,V5,V6,V8,V9,VA,VB,VC,VF,VG,VH,VJ,VM,VP,VR,VV,VW,VX,VY,VZ,Ub,Uc,Ud,Ue,Ui,Uk,Uq,Uv,Uz,U0,U1,U2,U3,U4,U5,U6,U7,U8,U9,UA,UB,UZ,Ta,Td,Te,Tf,Tg,Tm,Tn,Tp,Tr,Tt,Tu,Ty,T0,T1,TD,Sl,Sm,Sn,sp,cb,b3];all_goals tactic=>exact rfl))
          ·have cp:cE (cP (p::r)) 0 3 (r.length+1)=(p::r).map pR:=cp
           have c3:((r.length+1)*3≤(cP (p::r)).length)=True:=eq_true (by rw[lp];simp)
           (sym=>(simp[aO,aP,bO,bS,bR,Za,Zb,Zc,Zf,Zh,Zl,Zm,Zp,Zs,Zv,Zy,Z3,Z7,ZF,ZG,ZK,ZL,ZW,Ya,Yb,Ys,YU,YX,YZ,Xg,Xj,Xk,Xp,Xr,Xt,X0,XJ,XM,XV,XW,XY,XZ,Wc,We,Wg,Wq,Wx,Wy,Wz,W0,W3,W4,W5,W6,W8,WG,WK,WM,WN,WO,Vo,Vp,Vq,Vr,Vs,V0,V1,V2,V3,V5,V6,V8,V9,VA,VB,VC,VF,VG,VH,VJ,VM,VP,VR,VV,VW,VX,VY,VZ,Ub,Uc,Ud,Ue,Ui,Uk,Uq,Ur,Uv,Uz,U0,U1,U2,U3,U4,U5,U6,U7,U8,U9,UA,UB,UZ,Ta,Td,Te,Tf,Tg,Tm,Tn,Tp,Tr,Tt,Tu,Ty,T0,T1,TD,Sl,Sm,Sn,sp,cp,c3,cb,b3];all_goals tactic=>exact rfl))
         ·rcases PP with _|⟨p,r⟩
          ·(sym=>(simp[aO,aP,bO,bS,bR,Za,Zb,Zc,Zf,Zh,Zl,Zm,Zp,Zq,Zv,Zy,Z3,Z7,ZF,ZG,ZK,ZL,ZV,Ya,Yb,Ys,YU,YX,YZ,Xg,Xj,Xk,Xm,Xp,Xr,Xt,X0,XJ,XM,XO,XV,XW,XZ,Wb,Wc,We,Wg,Wj,Wq,Wx,Wy,Wz,W0,W3,W4,W5,W6,W8,WG,WK,WM,WN,WO,Vo,Vp,Vq,Vr,Vs,V1,V2,V3,V5,V6,V8,V9,VA,VB,VC,VF,VG,VH,VJ,VM,VP,VR,VV,VW,VX,VY,VZ,Ub,Uc,Ud,Ue,Ui,Uk,Uq,Uu,Uv,Uz,U0,U1,U2,U3,U4,U5,U6,U7,U8,U9,UA,UB,UZ,Ta,Td,Te,Tf,Tg,Tm,Tn,Tp,Tr,Tt,Tu,Ty,T0,T1,TD,Sl,Sm,Sn,sp,sp2,cb,b3];all_goals tactic=>exact rfl))
          ·have cp:cE (cP (p::r)) 0 3 (r.length+1)=(p::r).map pR:=cp
           have c3:((r.length+1)*3≤(cP (p::r)).length)=True:=eq_true (by rw[lp];simp)
           (sym=>(simp[aO,aP,bO,bS,bR,Za,Zb,Zc,Zf,Zh,Zl,Zm,Zp,Zq,Zv,Zy,Z3,Z7,ZF,ZG,ZK,ZL,ZV,Ya,Yb,Ys,YU,YX,YZ,Xg,Xj,Xk,Xp,Xr,Xt,X0,XJ,XM,XV,XW,XY,XZ,Wc,We,Wg,Wq,Wx,Wy,Wz,W0,W3,W4,W5,W6,W8,WG,WK,WM,WN,WO,Vo,Vp,Vq,Vr,Vs,V0,V1,V2,V3,V5,V6,V8,V9,VA,VB,VC,VF,VG,VH,VJ,VM,VP,VR,VV,VW,VX,VY,VZ,Ub,Uc,Ud,Ue,Ui,Uk,Uq,Ur,Uu,Uv,Uz,U0,U1,U2,U3,U4,U5,U6,U7,U8,U9,UA,UB,UZ,Ta,Td,Te,Tf,Tg,Tm,Tn,Tp,Tr,Tt,Tu,Ty,T0,T1,TD,Sl,Sm,Sn,sp,sp2,cp,c3,cb,b3];all_goals tactic=>exact rfl))
        ·rw[P0]; (sym=>(simp[aO,aP,bO,bS,bR,Za,Y9,YU,Xa,Xb,Xc,Xp,Xu,Xv,Xw,Wx,W9,WA,WC,WE,WG,WH,WI,WK,WM,WN,WO,WP,WU,WV,WW,Vb,Vc,VM,VN,VO,VV,VW,VX,VY,VZ,Ub,Ug,Ut,Uz,U0,U1,U2,Tz,TE];all_goals tactic=>exact rfl))
        ·exact rdb
        ·rw[hPP]
         rcases stp with sp|⟨sp,sp2⟩
         ·rcases PP with _|⟨p,r⟩
          ·(sym=>(simp[aO,aP,bO,bS,bR,Za,Zb,Zf,Zh,Zl,Zm,Zp,Zs,Zv,Zy,Z3,Z7,ZF,ZG,ZW,Ya,Yb,Ys,Wx,Wy,Wz,W8,VM,VP,VR,VS,VX,VY,Ue,Uv,UZ,Ta,Te,Tm,Tn,Tr,Tt,Tu,T0,T1,sp];all_goals tactic=>exact rfl))
          ·(sym=>(simp[aO,aP,bO,bS,bR,Za,Zb,Zf,Zh,Zl,Zm,Zp,Zs,Zv,Zy,Z3,Z7,ZF,ZG,ZW,Ya,Yb,Ys,Wx,Wy,Wz,W8,VM,VP,VR,VS,VX,VY,Ue,Uv,UZ,Ta,Te,Tm,Tn,Tr,Tt,Tu,T0,T1,sp];all_goals tactic=>exact rfl))
         ·rcases PP with _|⟨p,r⟩
          ·(sym=>(simp[aO,aP,bO,bS,bR,Za,Zb,Zf,Zh,Zl,Zm,Zp,Zq,Zv,Zy,Z3,Z7,ZF,ZG,ZV,Ya,Yb,Ys,Wx,Wy,Wz,W8,VM,VP,VR,VS,VX,VY,Ue,Uu,Uv,UZ,Ta,Te,Tm,Tn,Tr,Tt,Tu,T0,T1,sp,sp2];all_goals tactic=>exact rfl))
          ·(sym=>(simp[aO,aP,bO,bS,bR,Za,Zb,Zf,Zh,Zl,Zm,Zp,Zq,Zv,Zy,Z3,Z7,ZF,ZG,ZV,Ya,Yb,Ys,Wx,Wy,Wz,W8,VM,VP,VR,VS,VX,VY,Ue,Uu,Uv,UZ,Ta,Te,Tm,Tn,Tr,Tt,Tu,T0,T1,sp,sp2];all_goals tactic=>exact rfl))
   ·rw[B0]; (sym=>(simp[aO,aP,bO,bS,bR,Za,Y9,YU,Xb,Xp,Xv,Wx,W9,WA,WC,WE,WG,WH,WI,WK,WM,WN,WO,WP,WU,WV,Vb,VN,VO,VV,VW,VX,VY,VZ,Ub,Ug,Ut,Uz,U0,U1,U2,Tz,TE];all_goals tactic=>exact rfl))
   ·exact rda
   ·rw[hBB]
    rcases stb with sb|⟨sb,sb2⟩
    ·rcases BB with _|⟨b,q⟩
     ·(sym=>(simp[aO,aP,bO,bS,bR,Za,Zb,Zf,Zh,Zl,Zm,Zp,Zs,Zv,Zy,Z3,Z7,ZF,ZG,ZW,Ya,Yb,Ys,Wx,Wy,Wz,W8,VM,VP,VR,VS,VZ,Ue,Uv,UZ,Ta,Te,Tm,Tn,Tr,Tt,Tu,T0,T1,sb];all_goals tactic=>exact rfl))
     ·(sym=>(simp[aO,aP,bO,bS,bR,Za,Zb,Zf,Zh,Zl,Zm,Zp,Zs,Zv,Zy,Z3,Z7,ZF,ZG,ZW,Ya,Yb,Ys,Wx,Wy,Wz,W8,VM,VP,VR,VS,VX,VY,Ue,Uv,UZ,Ta,Te,Tm,Tn,Tr,Tt,Tu,T0,T1,sb];all_goals tactic=>exact rfl))
    ·rcases BB with _|⟨b,q⟩
     ·(sym=>(simp[aO,aP,bO,bS,bR,Za,Zb,Zf,Zh,Zl,Zm,Zp,Zq,Zv,Zy,Z3,Z7,ZF,ZG,ZV,Ya,Yb,Ys,Wx,Wy,Wz,W8,VM,VP,VR,VS,VZ,Ue,Uu,Uv,UZ,Ta,Te,Tm,Tn,Tr,Tt,Tu,T0,T1,sb,sb2];all_goals tactic=>exact rfl))
     ·(sym=>(simp[aO,aP,bO,bS,bR,Za,Zb,Zf,Zh,Zl,Zm,Zp,Zq,Zv,Zy,Z3,Z7,ZF,ZG,ZV,Ya,Yb,Ys,Wx,Wy,Wz,W8,VM,VP,VR,VS,VX,VY,Ue,Uu,Uv,UZ,Ta,Te,Tm,Tn,Tr,Tt,Tu,T0,T1,sb,sb2];all_goals tactic=>exact rfl))
def dr (a:Nat):Nat→Nat
 | 0=>a
 | j+1=>dr a j&&&(dr a j-1)
theorem zJ {a:Nat} (ha:a<65536):∀ j,dr a j<65536
 | 0=>ha
 | j+1=>Nat.lt_of_le_of_lt Nat.and_le_left (zJ ha j)
theorem aHt {a:Nat} (ha:a<65536):∀ j,j≤aZ a→el (dr a j)=(el a).drop j
 | 0,_=>rfl
 | j+1,hj=>by
   have ih:=aHt ha j (by omega)
   have h0:dr a j≠0:=by
    intro h
    rw[(aJu (zJ ha j)).2 h]at ih
    have:=congrArg List.length ih
    unfold aZ at hj
    simp at this
    omega
   have h1:=oK (zJ ha j) h0
   rw[ih]at h1
   show el (dr a j&&&(dr a j-1))=_
   have h2:=congrArg List.tail h1
   simp only[List.tail_drop,List.tail_cons]at h2
   exact h2.symm
theorem aMx {a:Nat} (ha:a<65536) {j:Nat} (hj:j<aZ a):dr a j≠0:=by
 intro h
 have ih:=aHt ha j (by omega)
 rw[(aJu (zJ ha j)).2 h]at ih
 have:=congrArg List.length ih
 unfold aZ at hj
 simp at this
 omega
theorem aLl {a:Nat} (ha:a<65536):dr a (aZ a)=0:=by
 have ih:=aHt ha (aZ a) (Nat.le_refl _)
 rw[show aZ a=(el a).length from rfl,List.drop_length]at ih
 exact(aJu (zJ ha _)).1 ih
theorem aIu {a:Nat} (ha:a<65536) {j:Nat} (hj:j<aZ a) :
 aW 0 [0,3] (execW aA 42 0 none (match aDn with | .loop _ a=>a|c=>c) (aV [0,3] [I (dr a j:Nat),I (j:Nat)]) [])=some ([I (dr a (j+1):Nat),I (j+1:Nat)],[]):=by
 have h0:=aMx ha hj
 have h1:=zJ ha j
 have h2:=kQ a
 have a0:((dr a j:Int)=0)=False:=eq_false (by omega)
 have a1:IntKind.i64.wrap ((dr a j:Int)-1)=((dr a j-1:Nat):Int):=by rw[aD (by omega) (by omega)];omega
 have a2:=iD bH (a:=dr a j) (b:=dr a j-1) (by omega) (by omega)
 have a3:IntKind.i64.wrap ((j:Int)+1)=(j:Int)+1:=aD (by omega) (by omega)
 have a3:IntKind.i64.wrap ((j:Int)+1)=((j+1:Nat):Int):=by rw[a3];omega
 rw[show dr a (j+1)=dr a j&&&(dr a j-1) from rfl]
 generalize dr a j&&&(dr a j-1)=z at *
 generalize dr a j-1=y at *
 generalize dr a j=d at *
 unfold aDn
 dsimp only
 (sym=>(simp[Za,Zb,Zf,Zh,Zl,Zm,Zv,Z3,Yi,Yj,Yl,Yr,YU,Xp,WG,WK,WL,WN,WO,VM,VN,VO,VP,VQ,VV,VW,VZ,Ub,Um,Uv,Uy,Uz,U0,U1,U2,Tm,Tn,Tq,Ts,Tt,Tw,Tz,T0,T1,a0,a1,a2,a3];all_goals tactic=>exact rfl))
theorem w42 {a:Nat} (ha:a<65536):runW aA 42 [I a] []=some (I (aZ a:Nat),[]):=by
 have z:=aLl ha
 have d0:dr a 0=a:=rfl
 rw[r42 (by simp)];unfold x42;dsimp only
 sym =>
  simp[Zb,Zf,Zh,Zl,Zv,Wc,VU,Ud,U9,UA,Tn,Ts,Tt,T1]
  tactic =>
   unfold aDn
   rw[aE (aZ a) (fun j=>[I (dr a j:Nat),I (j:Nat)]) (fun _=>[])]
   ·rw[z]; (sym=>(simp[Za,Zb,Zf,Zh,Zl,Zm,Zv,Z3,Yr,Y9,YU,Xp,X0,Wc,WG,WK,WL,WN,WO,Vr,V5,V6,V8,V9,VA,VB,VC,VF,VG,VH,VI,VM,VP,VR,VW,VZ,Ub,Ul,Uu,Uy,Uz,U0,Tm,Tn,Tp,Tr,Tt,Tu,Ty,T0,T1,Sl];all_goals tactic=>exact rfl))
   ·rw[d0]; (sym=>(simp[Za,Y9,YU,Xp,W7,WG,WK,WL,WN,WO,VK,VN,VO,VV,VW,VZ,Ub,Uy,Uz,U0,U1,U2,Tz];all_goals tactic=>exact rfl))
   ·exact fun j hj=>aIu ha hj
   ·rw[z]; (sym=>(simp[Za,Zb,Zf,Zh,Zl,Zm,Zv,Z3,Yr,Y9,VM,VP,VR,VS,Ul,Uu,Tm,Tn,Tr,Tt,Tu,T0,T1];all_goals tactic=>exact rfl))
def fC (n:Nat) (st:Nat→Nat):List AV:=(List.range n).map fun k=>I (st k)
theorem fX (n:Nat) (st:Nat→Nat):(fC n st).length=n:=by simp[fC]
theorem lK {n:Nat} {st:Nat→Nat} {k:Nat} (h:k<n):(fC n st)[k]?=some (I (st k)):=by simp[fC,h]
theorem sX {n:Nat} {st:Nat→Nat} {k v:Nat} (h:k<n):bY (fC n st) k [I (v:Nat)]=fC n (iX st k v):=by
 rw[iI (by rw[fX];exact h)]
 apply List.ext_getElem?
 intro j
 rw[List.getElem?_set]
 by_cases hj:k=j
 ·subst hj
  rw[if_pos rfl,if_pos (by rw[fX];exact h),lK h,iX,if_pos rfl]
 ·rw[if_neg hj]
  by_cases hl:j<n
  ·rw[lK hl,lK hl,iX,if_neg (by omega)]
  ·rw[List.getElem?_eq_none (by rw[fX];omega),List.getElem?_eq_none (by rw[fX];omega)]
theorem bC {n:Nat} {st:Nat→Nat}:eX (fC n st)=true:=by
 unfold fC
 generalize List.range n=l
 induction l with
 | nil=>rfl
 | cons a l ih=>simp only[List.map_cons,eX,ih];rfl
theorem aEQ (n:Nat):(List.replicate n (I 0))=fC n fun _=>0:=by
 apply List.ext_getElem?
 intro j
 by_cases hl:j<n
 ·rw[lK hl];simp[hl]
 ·rw[List.getElem?_eq_none (by simpa using hl),List.getElem?_eq_none (by rw[fX];omega)]
abbrev jA (x:Vn) (st:Nat→Nat):XH:=[some (.blk true (.cells true x.c)),some (.blk true (.cells true (fC x.F st)))]
theorem aBg {x:Vn} (ok:x.Ok) (s:Nat) {i:Nat} (hi:i<x.bs.length) :
 aW 0 [1,2,5,18,19,20] (execW aA 40 0 none (match aAP with | .loop _ a=>a|c=>c) (aV [1,2,5,18,19,20] [I (s:Nat),.pt 0 0,.sl 1 0 1 x.F,rB (x.bs.map bI),I x.bs.length,I (i:Nat)]) (jA x (vO x i))) =
  some ([I (s:Nat),.pt 0 0,.sl 1 0 1 x.F,rB (x.bs.map bI),I x.bs.length,I (i+1:Nat)],jA x (vO x (i+1))):=by
 obtain⟨b,hx⟩:=bM hi
 have hb:=ok.b b (List.mem_of_getElem? hx)
 have hF:=ok.F16
 have hp:=aT hF
 have a1:=dH hi
 have a2:=dN hi (by have:=ok.nb;omega)
 have l0:=aCk ok i
 have up:vO x (i+1)=addS (addS (vO x i) b.1 b.2) b.2 b.1:=iV hx _
 rw[up]
 generalize vO x i=st at *
 have e1:=fS bH (i:=b.1) (by omega)
 have e2:=fS bH (i:=b.2) (by omega)
 have z1:((b.1:Int)<0)=False:=eq_false (by omega)
 have z2:((b.2:Int)<0)=False:=eq_false (by omega)
 have n1:((0:Int)≤b.1)=True:=eq_true (by omega)
 have n2:((0:Int)≤b.2)=True:=eq_true (by omega)
 have m1:((b.1:Int)<x.F)=True:=eq_true (by omega)
 have m2:((b.2:Int)<x.F)=True:=eq_true (by omega)
 have p1:(2:Nat)^b.1≤2^16:=Nat.pow_le_pow_right (by omega) (by omega)
 have p2:(2:Nat)^b.2≤2^16:=Nat.pow_le_pow_right (by omega) (by omega)
 have k1:=l0 b.1
 have k2:=l0 b.2
 have o1:=cT bH (a:=st b.1) (b:=2^b.2) (by omega) (by omega)
 have q1:=lK (n:=x.F) (st:=st) (k:=b.1) hb.1
 have s1:=sX (n:=x.F) (st:=st) (k:=b.1) (v:=st b.1|||2^b.2) hb.1
 have q2:=lK (n:=x.F) (st:=addS st b.1 b.2) (k:=b.2) hb.2.1
 have r2:addS st b.1 b.2 b.2=st b.2:=by unfold addS iX;rw[if_neg (fun h=>hb.2.2 h.symm)]
 have o2:=cT bH (a:=st b.2) (b:=2^b.1) (by omega) (by omega)
 have s2:=sX (n:=x.F) (st:=addS st b.1 b.2) (k:=b.2) (v:=st b.2|||2^b.1) hb.2.1
 rw[show iX st b.1 (st b.1|||2^b.2)=addS st b.1 b.2 from rfl]at s1
 rw[show iX (addS st b.1 b.2) b.2 (st b.2|||2^b.1)=addS (addS st b.1 b.2) b.2 b.1 by rw[addS.eq_def (addS st b.1 b.2),r2]]at s2
 rw[r2]at q2
 have y1:=fX x.F st
 have y2:=fX x.F (addS st b.1 b.2)
 have t1:(b.1+1≤x.F)=True:=eq_true (by omega)
 have t2:(b.2+1≤x.F)=True:=eq_true (by omega)
 generalize addS (addS st b.1 b.2) b.2 b.1=st2 at *
 generalize addS st b.1 b.2=st1 at *
 unfold aAP
 dsimp only
 (sym=>(simp[bC,Za,Zb,Zc,Zd,Ze,Zf,Zh,Zi,Zl,Zm,Zv,Zw,Z3,Z8,Z9,ZG,ZH,ZJ,ZK,ZL,ZM,ZN,Ye,Yf,Yg,Yi,Ym,Yo,Ys,Yw,Yx,Y8,YA,YD,YO,YU,YZ,Xa,Xb,Xg,Xp,Xt,Xu,Xv,Wo,Wq,Ww,Wx,Wy,Wz,W0,W3,W4,W5,W6,W8,W9,WA,WC,WE,WG,WH,WI,WK,WM,WN,WO,WP,WU,WV,Vb,Vi,VM,VN,VO,VP,VQ,VV,VW,VX,VY,VZ,Ub,Uc,Ud,Ue,Uf,Ug,Ui,Um,Un,Uq,Ut,Uu,Uw,Ux,Uz,U0,U1,U2,U3,U4,UB,UZ,Ta,Tb,Tc,Td,Te,Tf,Tg,Tm,Tn,Tq,Ts,Tt,Tw,Tz,T0,T1,TC,TD,TE,Sk,a1,a2,hx,e1,e2,z1,z2,n1,n2,m1,m2,o1,o2,q1,q2,s1,s2,y1,y2,t1,t2];all_goals tactic=>exact rfl))
theorem aBf {x:Vn} (ok:x.Ok) (s:Nat) {i:Nat} (hi:i<x.ps.length) :
 aW 0 [1,2,5,46,47,48] (execW aA 40 0 none (match aAO with | .loop _ a=>a|c=>c) (aV [1,2,5,46,47,48] [I (s:Nat),.pt 0 0,.sl 1 0 1 x.F,rP (x.ps.map pI),I x.ps.length,I (i:Nat)]) (jA x (vN x i))) =
  some ([I (s:Nat),.pt 0 0,.sl 1 0 1 x.F,rP (x.ps.map pI),I x.ps.length,I (i+1:Nat)],jA x (vN x (i+1))):=by
 obtain⟨b,hx⟩:=bM hi
 have hb:=ok.p b (List.mem_of_getElem? hx)
 have hF:=ok.F16
 have hp:=aT hF
 have a1:=dH hi
 have a2:=dN hi (by have:=ok.np;omega)
 have l0:=dK ok i
 have up:vN x (i+1)=addS (vN x i) b.2.1 b.2.2:=iV hx _
 rw[up]
 generalize vN x i=st at *
 have e2:=fS bH (i:=b.2.2) (by omega)
 have z2:((b.2.2:Int)<0)=False:=eq_false (by omega)
 have n1:((0:Int)≤b.2.1)=True:=eq_true (by omega)
 have m1:((b.2.1:Int)<x.F)=True:=eq_true (by omega)
 have p2:(2:Nat)^b.2.2≤2^16:=Nat.pow_le_pow_right (by omega) (by omega)
 have k1:=l0 b.2.1
 have o1:=cT bH (a:=st b.2.1) (b:=2^b.2.2) (by omega) (by omega)
 have q1:=lK (n:=x.F) (st:=st) (k:=b.2.1) hb.2.1
 have s1:=sX (n:=x.F) (st:=st) (k:=b.2.1) (v:=st b.2.1|||2^b.2.2) hb.2.1
 rw[show iX st b.2.1 (st b.2.1|||2^b.2.2)=addS st b.2.1 b.2.2 from rfl]at s1
 have y1:=fX x.F st
 have t1:(b.2.1+1≤x.F)=True:=eq_true (by omega)
 generalize addS st b.2.1 b.2.2=st1 at *
 unfold aAO
 dsimp only
 (sym=>(simp[bC,Za,Zb,Zc,Zd,Ze,Zf,Zh,Zi,Zl,Zm,Zv,Zw,Z3,Z7,Z9,ZG,ZH,ZJ,ZK,ZL,ZM,ZN,Ya,Ye,Yf,Yg,Yi,Ym,Yo,Ys,Yw,Yx,YU,YZ,Xa,Xb,Xg,Xp,Xt,Xu,Xv,Wo,Wq,Ww,Wx,Wy,Wz,W0,W3,W4,W5,W6,W8,W9,WA,WC,WE,WG,WH,WI,WK,WM,WN,WO,WP,WU,WV,Vb,Vi,VM,VN,VO,VP,VQ,VV,VW,VX,VY,VZ,Ub,Uc,Ud,Ue,Uf,Ug,Ui,Um,Un,Uq,Ut,Uu,Uw,Ux,Uz,U0,U1,U2,U3,U4,UB,UZ,Ta,Tb,Tc,Td,Te,Tf,Tg,Tm,Tn,Tq,Ts,Tt,Tw,Tz,T0,T1,TC,TD,TE,Sk,a1,a2,hx,e2,z2,n1,m1,o1,q1,s1,y1,t1];all_goals tactic=>exact rfl))
def wA (st:Nat→Nat) (cl m i:Nat):Nat:=(List.range i).foldl (jY st cl) m
theorem aAR (st:Nat→Nat) (cl m i:Nat):wA st cl m (i+1)=jY st cl (wA st cl m i) i:=by rw[wA,List.range_succ,List.foldl_append];rfl
theorem aKy {st:Nat→Nat} {cl F m:Nat} (hst:∀ k,st k<2^F) (a:Nat) (h:m<2^F):jY st cl m a<2^F:=by
 unfold jY
 split
 ·exact Nat.or_lt_two_pow h (Nat.lt_of_le_of_lt (iC _ _) (hst a))
 ·exact h
theorem aDx {st:Nat→Nat} {cl F m:Nat} (hst:∀ k,st k<2^F) (h:m<2^F):∀ i,wA st cl m i<2^F
 | 0=>h
 | i+1=>by rw[aAR];exact aKy hst _ (aDx hst h i)
theorem zT {st:Nat→Nat} {s cl m:Nat} (hcl:cl<65536) (h:∀ i,m.testBit i=true→Rch st s cl i):∀ n i,(wA st cl m n).testBit i=true→Rch st s cl i
 | 0,i,hi=>h i hi
 | n+1,i,hi=>by
   rw[aAR]at hi
   unfold jY at hi
   split at hi
   ·next ha =>
    rw[Nat.testBit_or,Bool.or_eq_true]at hi
    rcases hi with hi|hi
    ·exact zT hcl h n i hi
    ·rw[bX (by omega)]at hi
     simp only[Bool.and_eq_true,Bool.not_eq_true']at hi
     exact .step (zT hcl h n n ha) hi.1 hi.2.2
   ·exact zT hcl h n i hi
theorem aDw (st:Nat→Nat) (cl m:Nat) {i j:Nat} (h:i≤j):sub (wA st cl m i) (wA st cl m j):=by
 induction j with
 | zero=>obtain rfl:i=0:=by omega
         exact dF _
 | succ j ih =>
   by_cases hj:i=j+1
   ·subst hj;exact dF _
   ·rw[aAR];exact nY (ih (by omega)) (wD _ _)
theorem aHT {st:Nat→Nat} {cl F m a b:Nat} (hF:F≤16) (hcl:cl<65536) (hst:∀ k,st k<2^F) (hm:m<2^F) (ha:m.testBit a=true) (hb:(st a).testBit b=true) (hc:cl.testBit b=false):(wA st cl m F).testBit b=true:=by
 have haF:=eI hm ha
 have hbF:=eI (hst a) hb
 refine aDw st cl m (show a+1≤F by omega) b ?_
 rw[aAR]
 have h1:(wA st cl m a).testBit a=true:=aDw st cl m (Nat.zero_le a) a ha
 unfold jY
 rw[if_pos h1,Nat.testBit_or,bX (by omega),hb,hc]
 simp;omega
theorem aEp {x:Vn} (ok:x.Ok) {cl:Nat} (hcl:cl<65536):rC (fun m=>wA (cK x) cl m x.F) x.F (gE x.sick cl)=eJ (cK x) x.sick cl :=
 aCF ok.F16 (dK ok _) ok.s hcl (fun m=>oH _ m) (fun m hm=>aDx (dK ok _) hm _) (fun m h=>zT hcl h _) (fun m a b hm ha hb hc=>aHT ok.F16 hcl (dK ok _) hm ha hb hc)
section
variable {x:Vn} (ok:x.Ok) {s:Nat} (hs:s<65536)
abbrev s40 (x:Vn) (s m:Nat) (r a:Nat):List AV:=[I (s:Nat),.pt 0 0,.sl 1 0 1 x.F,I (m:Nat),I (r:Nat),.sl 1 0 1 x.F,I x.F,I (a:Nat)]
abbrev t40 (x:Vn) (s m:Nat) (r:Nat):List AV:=[I (s:Nat),.pt 0 0,.sl 1 0 1 x.F,I (m:Nat),I (r:Nat)]
include ok hs in
theorem aGh {m r a:Nat} (hm:m<2^x.F) (ha:a<x.F) :
 aW 0 [1,2,5,10,11,73,74,75] (execW aA 40 0 none (match aDp with | .loop _ a=>a|c=>c) (aV [1,2,5,10,11,73,74,75] (s40 x s m r a)) (jA x (cK x)))=some (s40 x s (jY (cK x) s m a) r (a+1),jA x (cK x)):=by
 have hF:=ok.F16
 have hp:=aT hF
 have a1:((a:Int)<(x.F:Int))=True:=eq_true (by omega)
 have a2:=dN ha (by omega)
 have n1:((0:Int)≤a)=True:=eq_true (by omega)
 have n0:((a:Int)<0)=False:=eq_false (by omega)
 have k1:=dK ok x.ps.length a
 rw[show vN x x.ps.length=cK x from rfl]at k1
 have q1:=lK (n:=x.F) (st:=cK x) ha
 have y1:=fX x.F (cK x)
 have e:=aHM bH (a:=m) (i:=a) (by omega) (by omega)
 have o1:=jD bH (a:=cK x a) (b:=s) (by omega) (by omega)
 have dl:=iC (cK x a) s
 have o2:=cT bH (a:=m) (b:=gE (cK x a) s) (by omega) (by omega)
 unfold jY
 generalize gE (cK x a) s=dd at *
 generalize cK x a=sa at *
 unfold aDp
 dsimp only
 cases hb:m.testBit a
 ·rw[hb]at e
  have e:=e.trans (eq_false (by simp))
  simp only[Bool.false_eq_true,if_false]
  (sym=>(simp[bC,Za,Zb,Zf,Zh,Zl,Zm,Zv,Z3,Z9,ZG,Ye,Yi,Yl,Yp,Yq,Ys,Yw,Yx,YU,Xa,Xb,Xp,Xu,Xv,Wx,Wy,Wz,W9,WA,WC,WE,WG,WH,WI,WK,WM,WN,WO,WP,WU,WV,Vb,VM,VN,VO,VP,VQ,VR,VV,VW,VX,VY,VZ,Ub,Ug,Uq,Us,Ut,Uu,Uv,Uz,U0,U1,U2,UZ,Ta,Te,Tm,Tn,Tq,Ts,Tt,Tw,Tz,T0,T1,TC,TD,TE,a1,a2,n1,n0,q1,y1,e,o1,o2];all_goals tactic=>exact rfl))
 ·rw[hb]at e
  have e:=e.trans (eq_true rfl)
  simp only[if_true]
  (sym=>(simp[bC,Za,Zb,Zf,Zh,Zl,Zm,Zv,Z3,Z9,ZG,Ye,Yi,Yl,Ym,Yp,Yq,Ys,Yw,Yx,YU,Xa,Xb,Xp,Xu,Xv,Wx,Wy,Wz,W9,WA,WC,WE,WG,WH,WI,WK,WM,WN,WO,WP,WU,WV,Vb,VM,VN,VO,VP,VQ,VV,VW,VX,VY,VZ,Ub,Ug,Uq,Us,Ut,Uu,Uz,U0,U1,U2,UZ,Ta,Te,Tm,Tn,Tq,Ts,Tt,Tw,Tz,T0,T1,TC,TD,TE,S3,a1,a2,n1,n0,q1,y1,e,o1,o2];all_goals tactic=>exact rfl))
include ok hs in
theorem aGg {m r:Nat} (hm:m<2^x.F) (hr:r<x.F) :
 aW 0 [1,2,5,10,11] (execW aA 40 0 none (match aAN with | .loop _ a=>a|c=>c) (aV [1,2,5,10,11] (t40 x s m r)) (jA x (cK x)))=some (t40 x s (wA (cK x) s m x.F) (r+1),jA x (cK x)):=by
 have hF:=ok.F16
 have a1:((r:Int)<(x.F:Int))=True:=eq_true (by omega)
 have a2:=dN hr (by omega)
 have z:=UY (n:=(x.F:Int))
 have rd:=fun a (ha:a<x.F)=>aGh ok hs (m:=wA (cK x) s m a) (r:=r) (aDx (dK ok _) hm a) ha
 have w0:wA (cK x) s m 0=m:=rfl
 generalize hw:wA (cK x) s m x.F=mF at *
 unfold aAN
 dsimp only
 sym =>
  simp[bC,Za,Zb,Zf,Zh,Zl,Zm,Zv,Z3,Z7,ZF,ZG,Ya,Yc,Ys,Wx,Wy,Wz,W8,VM,VP,VQ,Uu,UZ,Ta,Te,Tm,Tn,Tq,Ts,Tt,T0,T1,a1,a2]
  tactic =>
   unfold aDp
   rw[aE x.F (fun a=>s40 x s (wA (cK x) s m a) r a) (fun _=>jA x (cK x))]
   ·rw[hw]; (sym=>(simp[bC,Za,Zb,Zf,Zh,Zl,Zm,Zv,Z3,Yi,Ys,YU,Xa,Xb,Xp,Xu,Xv,Wx,W9,WA,WC,WE,WG,WH,WI,WK,WM,WN,WO,WP,WU,WV,Vb,VM,VN,VO,VP,VR,VV,VW,VX,VY,VZ,Ub,Ug,Ut,Uv,Uz,U0,U1,U2,UY,Tm,Tn,Tr,Tt,Tu,Tw,Ty,Tz,T0,T1,TE,z,a2];all_goals tactic=>exact rfl))
   ·rw[w0]; (sym=>(simp[bC,Za,Y9,YU,Xa,Xb,Xp,Xu,Xv,Wx,W9,WA,WC,WE,WG,WH,WI,WK,WM,WN,WO,WP,WU,WV,Vb,VM,VN,VO,VV,VW,VX,VY,VZ,Ub,Ug,Us,Ut,Uz,U0,U1,U2,Tz,TE];all_goals tactic=>exact rfl))
   ·intro a ha
    rw[aAR]
    exact rd a ha
   ·rw[hw]; (sym=>(simp[bC,Za,Zb,Zf,Zh,Zl,Zm,Z3,Ys,VM,VP,VR,VS,Uv,UY,Tm,Tn,Tr,Tt,Tu,T0,z,a2];all_goals tactic=>exact rfl))
include ok hs in
theorem w40:runW aA 40 [.agg x.c,I (s:Nat)] []=some (.bool (!fL (cK x) x.sick x.nur s),[]):=by
 have hF:=ok.F16
 have hF1:=ok.F1
 have hp:=aT hF
 have h1:=ok.s
 have h2:=ok.n
 have zb:=UY (n:=(x.bs.length:Int))
 have zp:=UY (n:=(x.ps.length:Int))
 have zF:=UY (n:=(x.F:Int))
 have o1:=jD bH (a:=x.sick) (b:=s) (by omega) (by omega)
 have it:∀ k,rC (fun m=>wA (cK x) s m x.F) k (gE x.sick s)<2^x.F:=fun k=>by
  induction k with
  | zero=>exact sZ ok.s
  | succ k ih=>exact aDx (dK ok _) ih _
 have hr:=aEp ok hs
 have hl:=it x.F
 rw[hr]at hl
 have o2:=iD bH (a:=eJ (cK x) x.sick s) (b:=x.nur) (by omega) (by omega)
 have m0:List.map (AV.int .i64) (List.replicate x.F 0)=fC x.F (vO x 0):=by
  rw[show fC x.F (vO x 0)=fC x.F (fun _=>0) from rfl,←aEQ];simp
 have m1:vN x 0=vO x x.bs.length:=rfl
 have m2:vN x x.ps.length=cK x:=rfl
 have hf:(List.replicate x.F [I 0]).flatten=fC x.F (fun _=>0):=by rw[←aEQ];simp
 have c1:((x.F:Int)<0)=False:=eq_false (by omega)
 have c2:((x.F:Int)≤(x.F:Int))=True:=eq_true (by omega)
 have c3:(8*(x.F:Int)≤281474976710656)=True:=eq_true (by omega)
 have c4:((x.F:Int)≤9223372036854775807)=True:=eq_true (by omega)
 have c5:((x.F:Int)).toNat=x.F:=Int.toNat_natCast _
 have c6:((0:Int)≤(x.F:Int))=True:=eq_true (by omega)
 have i0:rC (fun m=>wA (cK x) s m x.F) 0 (gE x.sick s)=gE x.sick s:=rfl
 have rdd:=fun r (hr:r<x.F)=>aGg ok hs (m:=rC (fun m=>wA (cK x) s m x.F) r (gE x.sick s)) (r:=r) (it r) hr
 have hz:(((eJ (cK x) x.sick s&&&x.nur:Nat):Int)=0)=False∧fL (cK x) x.sick x.nur s=false∨(((eJ (cK x) x.sick s&&&x.nur:Nat):Int)=0)=True∧fL (cK x) x.sick x.nur s=true:=by
  unfold fL
  rcases Nat.eq_zero_or_pos (eJ (cK x) x.sick s&&&x.nur)with hz|hz
  ·exact .inr ⟨eq_true (by omega),decide_eq_true hz⟩
  ·exact .inl ⟨eq_false (by omega),decide_eq_false (by omega)⟩
 generalize eJ (cK x) x.sick s&&&x.nur=rn at *
 rcases hz with ⟨hz,hv⟩|⟨hz,hv⟩
 ·rw[hv]
  rw[r40 (by simp)];unfold x40;dsimp only
  sym =>
   simp[bC,Za,Zb,Zf,Zh,Zl,Zm,Zo,Zv,Zz,Z7,ZB,ZF,ZG,Ya,Yb,Yw,Yx,YM,Xg,Xi,Xj,Wc,We,Wg,Wq,Wx,Wy,Wz,W7,W8,VK,VU,VX,VY,Uc,Ud,Ue,Ui,Um,Uq,U3,U4,U9,UA,UK,UL,UQ,UR,UZ,Ta,Te,Th,Tn,Ts,Tt,T0,T1,TJ,c1,c2,c3,c4,c5,c6,hf]
   tactic =>
    unfold aAP
    rw[aE x.bs.length (fun i=>[I (s:Nat),.pt 0 0,.sl 1 0 1 x.F,rB (x.bs.map bI),I x.bs.length,I (i:Nat)]) (fun i=>jA x (vO x i))]
    ·rw[←m1]
     sym =>
      simp[bC,Za,Zb,Zf,Zh,Zl,Zm,Zv,Z3,Z7,ZF,ZG,Ya,Yb,Ys,Wx,Wy,Wz,W8,VM,VP,VR,Ue,Uv,UY,UZ,Ta,Te,Tm,Tn,Tr,Ts,Tt,Tu,Ty,T0,T1,zb]
      tactic =>
       unfold aAO
       rw[aE x.ps.length (fun i=>[I (s:Nat),.pt 0 0,.sl 1 0 1 x.F,rP (x.ps.map pI),I x.ps.length,I (i:Nat)]) (fun i=>jA x (vN x i))]
       ·rw[m2]
        sym =>
         simp[bC,Za,Zb,Zf,Zh,Zl,Zm,Zv,Z3,Z7,ZG,Ya,Ys,Wx,Wy,Wz,W8,VM,VP,VR,Uv,UY,UZ,Ta,Te,Tm,Tn,Tr,Ts,Tt,Tu,Ty,T0,T1,S3,zp,o1]
         tactic =>
          unfold aAN
          rw[aE x.F (fun r=>t40 x s (rC (fun m=>wA (cK x) s m x.F) r (gE x.sick s)) r) (fun _=>jA x (cK x))]
          ·rw[hr]; (sym=>(simp[bC,Za,Zb,Zf,Zh,Zl,Zm,Zv,Z3,Z7,ZG,Ya,Yl,Yr,Ys,YV,Xq,XI,Wd,Wx,Wy,Wz,W8,WG,WK,WM,WN,WO,Vr,V5,V6,V8,V9,VA,VB,VC,VF,VG,VH,VI,VM,VP,VR,VW,VZ,Ub,Um,Uv,Uz,U0,UY,UZ,Ta,Te,Tm,Tn,Tp,Tr,Tt,Tu,Ty,T0,T1,Sl,zF,o2,hz];all_goals tactic=>exact rfl))
          ·rw[i0]; (sym=>(simp[bC,Za,Y9,YU,Xa,Xb,Xp,Xu,Xv,Wx,W9,WA,WC,WE,WG,WH,WI,WK,WM,WN,WO,WP,WU,WV,Vb,VM,VN,VO,VV,VW,VX,VY,VZ,Ub,Ug,Ut,Uz,U0,U1,U2,Tz,TE];all_goals tactic=>exact rfl))
          ·exact rdd
          ·rw[hr]; (sym=>(simp[bC,Za,Zb,Zf,Zh,Zl,Zm,Zv,Z3,Z7,ZG,Ya,Ys,Wx,Wy,Wz,W8,VM,VP,VR,VS,Uv,UY,UZ,Ta,Te,Tm,Tn,Tr,Tt,Tu,T0,zF];all_goals tactic=>exact rfl))
       ·(sym=>(simp[bC,Za,Y9,YU,YZ,Xa,Xb,Xp,Xt,Xu,Xv,Wx,W9,WA,WC,WE,WG,WH,WI,WK,WM,WN,WO,WP,WU,WV,Vb,VM,VN,VO,VV,VW,VX,VY,VZ,Ub,Ug,Ut,Uz,U0,U1,U2,Tz,TE];all_goals tactic=>exact rfl))
       ·exact fun i hi=>aBf ok s hi
       ·rw[m2]; (sym=>(simp[bC,Za,Zb,Zf,Zh,Zl,Zm,Z3,Ys,VM,VP,VR,VS,Uv,UY,Tm,Tn,Tr,Tt,Tu,T0,zp];all_goals tactic=>exact rfl))
    ·(sym=>(simp[bC,Za,Y9,YU,YZ,Xa,Xb,Xp,Xt,Xu,Xv,Wx,W7,W9,WA,WC,WE,WG,WH,WI,WK,WM,WN,WO,WP,WU,WV,Vb,VK,VN,VO,VV,VW,VX,VY,VZ,Ub,Ug,Ut,Uz,U0,U1,U2,Tz,TE,m0];all_goals tactic=>exact rfl))
    ·exact fun i hi=>aBg ok s hi
    ·(sym=>(simp[bC,Za,Zb,Zf,Zh,Zl,Zm,Z3,Ys,VM,VP,VR,VS,Uv,UY,Tm,Tn,Tr,Tt,Tu,T0,zb];all_goals tactic=>exact rfl))
 ·rw[hv]
  rw[r40 (by simp)];unfold x40;dsimp only
  sym =>
   simp[bC,Za,Zb,Zf,Zh,Zl,Zm,Zo,Zv,Zz,Z7,ZB,ZF,ZG,Ya,Yb,Yw,Yx,YM,Xg,Xi,Xj,Wc,We,Wg,Wq,Wx,Wy,Wz,W7,W8,VK,VU,VX,VY,Uc,Ud,Ue,Ui,Ul,Uq,U3,U4,U9,UA,UK,UL,UQ,UR,UZ,Ta,Te,Th,Tn,Ts,Tt,T0,T1,TJ,c1,c2,c3,c4,c5,c6,hf]
   tactic =>
    unfold aAP
    rw[aE x.bs.length (fun i=>[I (s:Nat),.pt 0 0,.sl 1 0 1 x.F,rB (x.bs.map bI),I x.bs.length,I (i:Nat)]) (fun i=>jA x (vO x i))]
    ·rw[←m1]
     sym =>
      simp[bC,Za,Zb,Zf,Zh,Zl,Zm,Zv,Z3,Z7,ZF,ZG,Ya,Yb,Ys,Wx,Wy,Wz,W8,VM,VP,VR,Ue,Uv,UY,UZ,Ta,Te,Tm,Tn,Tr,Ts,Tt,Tu,Ty,T0,T1,zb]
      tactic =>
       unfold aAO
       rw[aE x.ps.length (fun i=>[I (s:Nat),.pt 0 0,.sl 1 0 1 x.F,rP (x.ps.map pI),I x.ps.length,I (i:Nat)]) (fun i=>jA x (vN x i))]
       ·rw[m2]
        sym =>
         simp[bC,Za,Zb,Zf,Zh,Zl,Zm,Zv,Z3,Z7,ZG,Ya,Ys,Wx,Wy,Wz,W8,VM,VP,VR,Uv,UY,UZ,Ta,Te,Tm,Tn,Tr,Ts,Tt,Tu,Ty,T0,T1,S3,zp,o1]
         tactic =>
          unfold aAN
          rw[aE x.F (fun r=>t40 x s (rC (fun m=>wA (cK x) s m x.F) r (gE x.sick s)) r) (fun _=>jA x (cK x))]
          ·rw[hr]; (sym=>(simp[bC,Za,Zb,Zf,Zh,Zl,Zm,Zv,Z3,Z7,ZG,Ya,Yl,Yr,Ys,YV,Xq,XI,Wd,Wx,Wy,Wz,W8,WG,WK,WM,WN,WO,Vr,V5,V6,V8,V9,VA,VB,VC,VF,VG,VH,VI,VM,VP,VR,VW,VZ,Ub,Ul,Uu,Uv,Uz,U0,UY,UZ,Ta,Te,Tm,Tn,Tp,Tr,Tt,Tu,Ty,T0,T1,Sl,zF,o2,hz];all_goals tactic=>exact rfl))
          ·rw[i0]; (sym=>(simp[bC,Za,Y9,YU,Xa,Xb,Xp,Xu,Xv,Wx,W9,WA,WC,WE,WG,WH,WI,WK,WM,WN,WO,WP,WU,WV,Vb,VM,VN,VO,VV,VW,VX,VY,VZ,Ub,Ug,Ut,Uz,U0,U1,U2,Tz,TE];all_goals tactic=>exact rfl))
          ·exact rdd
          ·rw[hr]; (sym=>(simp[bC,Za,Zb,Zf,Zh,Zl,Zm,Zv,Z3,Z7,ZG,Ya,Ys,Wx,Wy,Wz,W8,VM,VP,VR,VS,Uv,UY,UZ,Ta,Te,Tm,Tn,Tr,Tt,Tu,T0,zF];all_goals tactic=>exact rfl))
       ·(sym=>(simp[bC,Za,Y9,YU,YZ,Xa,Xb,Xp,Xt,Xu,Xv,Wx,W9,WA,WC,WE,WG,WH,WI,WK,WM,WN,WO,WP,WU,WV,Vb,VM,VN,VO,VV,VW,VX,VY,VZ,Ub,Ug,Ut,Uz,U0,U1,U2,Tz,TE];all_goals tactic=>exact rfl))
       ·exact fun i hi=>aBf ok s hi
       ·rw[m2]; (sym=>(simp[bC,Za,Zb,Zf,Zh,Zl,Zm,Z3,Ys,VM,VP,VR,VS,Uv,UY,Tm,Tn,Tr,Tt,Tu,T0,zp];all_goals tactic=>exact rfl))
    ·(sym=>(simp[bC,Za,Y9,YU,YZ,Xa,Xb,Xp,Xt,Xu,Xv,Wx,W7,W9,WA,WC,WE,WG,WH,WI,WK,WM,WN,WO,WP,WU,WV,Vb,VK,VN,VO,VV,VW,VX,VY,VZ,Ub,Ug,Ut,Uz,U0,U1,U2,Tz,TE,m0];all_goals tactic=>exact rfl))
    ·exact fun i hi=>aBg ok s hi
    ·(sym=>(simp[bC,Za,Zb,Zf,Zh,Zl,Zm,Z3,Ys,VM,VP,VR,VS,Uv,UY,Tm,Tn,Tr,Tt,Tu,T0,zb];all_goals tactic=>exact rfl))
end
def xY (x:Vn) (k t:Nat):Bool:=decide (aZ t=k)&&nO x t
def rL (x:Vn) (k i:Nat):Nat:=((List.range i).filter (xY x k)).length
def pY (x:Vn) (k i f:Nat):Nat:=((List.range i).filter fun t=>xY x k t&&t.testBit f).length
theorem aLo (x:Vn) (k i:Nat):rL x k (i+1)=rL x k i+(if xY x k i then 1 else 0):=by
 unfold rL
 rw[List.range_succ,List.filter_append,List.length_append]
 cases h:xY x k i<;>simp[h]
theorem aFo (x:Vn) (k i f:Nat):pY x k (i+1) f=pY x k i f+(if xY x k i&&i.testBit f then 1 else 0):=by
 unfold pY
 rw[List.range_succ,List.filter_append,List.length_append]
 cases h:xY x k i&&i.testBit f<;>simp[h]
theorem aLp (x:Vn) (k i:Nat):rL x k i≤i:=by
 have:=List.length_filter_le (xY x k) (List.range i)
 simpa [rL]using this
theorem aKf (x:Vn) (k i f:Nat):pY x k i f≤i:=by
 have:=List.length_filter_le (fun t=>xY x k t&&t.testBit f) (List.range i)
 simpa [pY]using this
def rs (w:Nat→Nat) (t j:Nat):Nat→Nat:=fun f=>if f<j then w f+(if t.testBit f then 1 else 0) else w f
theorem aMc (w:Nat→Nat) (t j:Nat):iX (rs w t j) j (w j+(if t.testBit j then 1 else 0))=rs w t (j+1):=by
 funext f
 unfold iX rs
 by_cases h:f=j
 ·subst h;rw[if_pos rfl,if_pos (show f<f+1 by omega)]
 ·rw[if_neg h]
  by_cases h2:f<j
  ·rw[if_pos h2,if_pos (show f<j+1 by omega)]
  ·rw[if_neg h2,if_neg (show ¬f<j+1 by omega)]
theorem aBG {n:Nat} {st st':Nat→Nat} (h:∀ k,k<n→st k=st' k):fC n st=fC n st':=by
 unfold fC
 exact List.map_congr_left fun k hk=>by rw[h k (List.mem_range.1 hk)]
section
variable {x:Vn} (ok:x.Ok)
abbrev aKu (x:Vn) (c k t f:Nat):List AV:=[.pt 0 0,I (-1),I (c:Nat),.sl 1 0 1 x.F,I (k:Nat),I (t:Nat),I x.F,I (f:Nat)]
abbrev aFR (x:Vn) (c k t:Nat):List AV:=[.pt 0 0,I (-1),I (c:Nat),.sl 1 0 1 x.F,I (k:Nat),I (t:Nat)]
include ok in
theorem aGi {c k t f:Nat} {w:Nat→Nat} (ht:t<65536) (hf:f<x.F) (hw:∀ f,w f≤65536) :
 aW 0 [1,2,3,4,5,6,43,44] (execW aA 39 0 none (match aDq with | .loop _ a=>a|c=>c) (aV [1,2,3,4,5,6,43,44] (aKu x c k t f)) (jA x (rs w t f)))=some (aKu x c k t (f+1),jA x (rs w t (f+1))):=by
 have hF:=ok.F16
 have a1:((f:Int)<(x.F:Int))=True:=eq_true (by omega)
 have a2:=dN hf (by omega)
 have n1:((0:Int)≤f)=True:=eq_true (by omega)
 have n0:((f:Int)<0)=False:=eq_false (by omega)
 have q1:=lK (n:=x.F) (st:=rs w t f) hf
 have q2:rs w t f f=w f:=by unfold rs;rw[if_neg (by omega)]
 rw[q2]at q1
 have y1:=fX x.F (rs w t f)
 have e:=tH bH (a:=t) (i:=f) (by omega) (by omega)
 have e2:IntKind.i64.wrap ((w f:Int)+(if t.testBit f then 1 else 0))=((w f+(if t.testBit f then 1 else 0):Nat):Int):=by
  have:=hw f
  cases t.testBit f
  ·simp only[Bool.false_eq_true,if_false];exact aD (by omega) (by omega)
  ·simp only[if_true];rw[aD (by omega) (by omega)];omega
 have s1:=sX (n:=x.F) (st:=rs w t f) (k:=f) (v:=w f+(if t.testBit f then 1 else 0)) hf
 rw[aMc]at s1
 have t1:(f+1≤x.F)=True:=eq_true (by omega)
 generalize rs w t (f+1)=st1 at *
 generalize rs w t f=st0 at *
 generalize w f=wf at *
 unfold aDq
 dsimp only
 cases hb:t.testBit f
 ·rw[hb]at e e2 s1
  simp only[Bool.false_eq_true,if_false]at e e2 s1
  (sym=>(simp[bC,Za,Zb,Zc,Zf,Zh,Zi,Zl,Zm,Zv,Z3,Z9,ZH,ZJ,ZK,ZM,ZN,Ye,Yi,Yl,Yp,Ys,Yw,Yx,YU,Xa,Xb,Xg,Xp,Xu,Xv,Wo,Ww,Wx,Wy,Wz,W0,W9,WA,WC,WE,WG,WH,WI,WK,WM,WN,WO,WP,WU,WV,Vb,Vi,VM,VN,VO,VP,VQ,VV,VW,VX,VY,VZ,Ub,Uc,Ud,Ug,Ui,Um,Un,Uq,Ut,Uu,Uw,Ux,Uz,U0,U1,U2,U3,U4,UZ,Ta,Te,Tf,Tg,Tm,Tn,Tq,Ts,Tt,Tw,Tz,T0,T1,TC,TD,TE,Sk,a1,a2,n1,n0,q1,y1,e,e2,s1,t1];all_goals tactic=>exact rfl))
 ·rw[hb]at e e2 s1
  simp only[if_true]at e e2 s1
  (sym=>(simp[bC,Za,Zb,Zc,Zf,Zh,Zi,Zl,Zm,Zv,Z3,Z9,ZH,ZJ,ZK,ZM,ZN,Ye,Yi,Yl,Yp,Ys,Yw,Yx,YU,Xa,Xb,Xg,Xp,Xu,Xv,Wo,Ww,Wx,Wy,Wz,W0,W9,WA,WC,WE,WG,WH,WI,WK,WM,WN,WO,WP,WU,WV,Vb,Vi,VM,VN,VO,VP,VQ,VV,VW,VX,VY,VZ,Ub,Uc,Ud,Ug,Ui,Um,Un,Uq,Ut,Uu,Uw,Ux,Uz,U0,U1,U2,U3,U4,UZ,Ta,Te,Tf,Tg,Tm,Tn,Tq,Ts,Tt,Tw,Tz,T0,T1,TC,TD,TE,Sk,a1,a2,n1,n0,q1,y1,e,e2,s1,t1];all_goals tactic=>exact rfl))
include ok in
theorem aBi {k t:Nat} (hk:k≤16) (ht:t<2^x.F) :
 aW 0 [1,2,3,4,5,6] (execW aA 39 0 none (match qF with | .loop _ a=>a|c=>c) (aV [1,2,3,4,5,6] (aFR x (rL x k t) k t)) (jA x (pY x k t)))=some (aFR x (rL x k (t+1)) k (t+1),jA x (pY x k (t+1))):=by
 have hF:=ok.F16
 have hp:=aT hF
 have hfx:=ok.f
 have e:=fS bH (i:=x.F) (by omega)
 have n0:((x.F:Int)<0)=False:=eq_false (by omega)
 have a1:((t:Int)<((2^x.F:Nat):Int))=True:=eq_true (by omega)
 have a2:=dN ht (by omega)
 have e42:=w42 (a:=t) (by omega)
 have e40:=w40 ok (s:=t) (by omega)
 have o1:=iD bH (a:=t) (b:=x.fix) (by omega) (by omega)
 have zF:=UY (n:=(x.F:Int))
 have hc:=aLp x k t
 have hw:=fun f=>Nat.le_trans (aKf x k t f) (show t≤65536 by omega)
 have a3:IntKind.i64.wrap ((rL x k t:Int)+1)=((rL x k t+1:Nat):Int):=by rw[aD (by omega) (by omega)];omega
 have rd:=fun f (hf:f<x.F)=>aGi ok (c:=rL x k t+1) (k:=k) (t:=t) (f:=f) (by omega) hf hw
 have w0:rs (pY x k t) t 0=pY x k t:=by funext f;unfold rs;rw[if_neg (by omega)]
 rw[aLo]
 have wu:xY x k t=false→pY x k (t+1)=pY x k t:=fun h=>by funext f;rw[aFo,h];simp
 have wu2:xY x k t=true→fC x.F (rs (pY x k t) t x.F)=fC x.F (pY x k (t+1)):=fun h=>aBG fun f hf=>by
  rw[aFo,h];unfold rs;rw[if_pos hf];simp
 by_cases h1:aZ t=k
 ·have c1:(aZ t=k)=True:=eq_true h1
  have d1:((aZ t:Int)=(k:Int))=True:=eq_true (by omega)
  by_cases h2:t&&&x.fix=0
  ·have d2:(((t&&&x.fix:Nat):Int)=0)=True:=eq_true (by omega)
   cases h3:fL (cK x) x.sick x.nur t
   ·have hb:xY x k t=false:=by unfold xY nO;rw[h3];simp
    rw[wu hb,hb]
    rw[h3]at e40
    unfold qF
    dsimp only
    (sym=>(simp[bC,Za,Zb,Zf,Zg,Zh,Zj,Zl,Zm,Zp,Zr,Zv,Zy,Z3,Z7,ZG,ZO,ZP,ZT,ZU,ZW,Ya,Yi,Yl,Yo,Yr,Ys,Yx,YU,YX,YZ,Xa,Xb,Xp,Xq,Xr,Xt,Xu,Xv,Wx,Wy,Wz,W3,W4,W5,W6,W8,W9,WA,WC,WE,WG,WH,WI,WJ,WK,WL,WM,WN,WO,WP,WQ,WR,WU,WV,Vb,Ve,Vf,Vg,Vr,Vt,Vu,Vw,Vx,Vz,VM,VN,VO,VP,VQ,VU,VV,VW,VX,VY,VZ,Ub,Uc,Ud,Ug,Ul,Um,Ut,Uu,Uy,Uz,U0,U1,U2,UZ,Ta,Td,Te,Tm,Tn,Tq,Tr,Ts,Tt,Tu,Ty,Tz,T0,T1,TE,S4,S5,S6,S8,S9,SA,e,n0,a1,a2,e42,e40,o1,d1,d2];all_goals tactic=>exact rfl))
   ·have hb:xY x k t=true:=by unfold xY nO;rw[h3,decide_eq_true h1,decide_eq_true h2];rfl
    have wu2:=wu2 hb
    rw[hb,if_pos rfl]
    rw[h3]at e40
    generalize rL x k t+1=c1 at *
    generalize pY x k (t+1)=wN at *
    generalize hwF:rs (pY x k t) t x.F=wF at *
    generalize pY x k t=w at *
    unfold qF
    dsimp only
    sym =>
     simp[bC,Za,Zb,Zf,Zg,Zh,Zj,Zl,Zm,Zp,Zr,Zv,Zy,Z3,Z7,ZF,ZG,ZO,ZP,ZT,ZU,ZW,Ya,Yc,Yi,Yl,Yo,Yr,Ys,Yx,YU,YX,YZ,Xp,Xq,Xr,Xt,Wx,Wy,Wz,W3,W4,W5,W6,W8,WG,WJ,WL,WQ,WR,Ve,Vf,Vg,Vr,Vt,Vu,Vw,Vx,Vz,VM,VP,VQ,VR,VV,VW,VY,VZ,Uc,Ud,Ul,Uu,Uy,Uz,U0,U1,U2,UZ,Ta,Td,Te,Tm,Tn,Tq,Ts,Tt,T0,T1,S4,S5,S6,S8,S9,SA,e,n0,a1,e42,e40,o1,d1,d2,a3]
     tactic =>
      unfold aDq
      rw[aE x.F (fun f=>aKu x c1 k t f) (fun f=>jA x (rs w t f))]
      ·rw[hwF]; (sym=>(simp[bC,Za,Zb,Zf,Zh,Zl,Zm,Zv,Z3,Yi,Ys,YU,Xa,Xb,Xp,Xu,Xv,Wx,W9,WA,WC,WE,WG,WH,WI,WK,WM,WN,WO,WP,WU,WV,Vb,VM,VN,VO,VP,VR,VV,VW,VX,VY,VZ,Ub,Ug,Ut,Uv,Uz,U0,U1,U2,UY,Tm,Tn,Tr,Tt,Tu,Tw,Ty,Tz,T0,T1,TE,zF,wu2,a2];all_goals tactic=>exact rfl))
      ·rw[w0]; (sym=>(simp[bC,Za,Y9,YU,Xa,Xb,Xp,Xu,Xv,Wx,W9,WA,WC,WE,WG,WH,WI,WK,WM,WN,WO,WP,WU,WV,Vb,VM,VN,VO,VV,VW,VX,VY,VZ,Ub,Ug,Ut,Uz,U0,U1,U2,Tz,TE];all_goals tactic=>exact rfl))
      ·exact rd
      ·rw[hwF]; (sym=>(simp[bC,Za,Zb,Zf,Zh,Zl,Zm,Z3,Ys,VM,VP,VR,VS,Uv,UY,Tm,Tn,Tr,Tt,Tu,T0,zF,wu2,a2];all_goals tactic=>exact rfl))
  ·have hb:xY x k t=false:=by unfold xY nO;rw[decide_eq_false h2];simp
   have d2:(((t&&&x.fix:Nat):Int)=0)=False:=eq_false (by omega)
   rw[wu hb,hb]
   unfold qF
   dsimp only
   (sym=>(simp[bC,Za,Zb,Zf,Zg,Zh,Zj,Zl,Zm,Zp,Zr,Zt,Zv,Zy,Z3,Z7,ZG,ZO,ZP,ZT,ZU,ZV,ZW,Ya,Yi,Yl,Yo,Yr,Ys,Yx,YU,Xa,Xb,Xp,Xu,Xv,Wx,Wy,Wz,W6,W8,W9,WA,WC,WE,WG,WH,WI,WJ,WK,WL,WM,WN,WO,WP,WQ,WR,WU,WV,Vb,Ve,Vf,Vg,Vr,Vt,Vu,Vw,Vx,Vz,VM,VN,VO,VP,VQ,VU,VV,VW,VX,VY,VZ,Ub,Uc,Ud,Ug,Ul,Um,Ut,Uu,Uv,Uy,Uz,U0,U1,U2,UZ,Ta,Te,Tm,Tn,Tq,Tr,Ts,Tt,Tu,Ty,Tz,T0,T1,TE,S4,S5,S6,S8,S9,SA,e,n0,a1,a2,e42,o1,d1,d2];all_goals tactic=>exact rfl))
 ·have hb:xY x k t=false:=by unfold xY;rw[decide_eq_false h1];rfl
  have d1:((aZ t:Int)=(k:Int))=False:=eq_false (by omega)
  rw[wu hb,hb]
  unfold qF
  dsimp only
  (sym=>(simp[bC,Za,Zb,Zf,Zg,Zh,Zj,Zl,Zm,Zp,Zt,Zv,Zy,Z3,Z7,ZG,ZO,ZP,ZT,ZU,ZV,Ya,Yi,Yo,Yr,Ys,Yx,YU,Xa,Xb,Xp,Xu,Xv,Wx,Wy,Wz,W6,W8,W9,WA,WC,WE,WG,WH,WI,WJ,WK,WL,WM,WN,WO,WP,WQ,WR,WU,WV,Vb,Ve,Vf,Vg,Vr,Vt,Vu,Vw,Vx,Vz,VM,VN,VO,VP,VQ,VU,VV,VW,VX,VY,VZ,Ub,Uc,Ud,Ug,Um,Ut,Uu,Uv,Uy,Uz,U0,U1,U2,UZ,Ta,Te,Tm,Tn,Tq,Tr,Ts,Tt,Tu,Ty,Tz,T0,T1,TE,S4,S5,S6,S8,S9,SA,e,n0,a1,a2,e42,d1];all_goals tactic=>exact rfl))
end
abbrev xW (x:Vn):XH:=[some (.blk true (.cells true x.c))]
abbrev aIm (k:Nat):List AV:=[.pt 0 0,I (-1),I 0,I (k:Nat)]
theorem aJr (n:Nat) (w:Nat→Nat):cE (fC n w) 0 1 n=(List.range n).map fun f=>[I (w f)]:=by
 have h:tI 1 ((List.range n).map fun f=>([I (w f)]:List AV)):=by
  intro r hr
  simp only[List.mem_map]at hr
  obtain⟨k,_,rfl⟩:=hr
  exact⟨rfl,rfl,rfl,rfl⟩
 have h2:=mY h
 rw[List.length_map,List.length_range]at h2
 rw[←h2]
 congr 1
 unfold fC
 generalize List.range n=l
 induction l with
 | nil=>rfl
 | cons a l ih=>simp[ih]
theorem aBh {x:Vn} (ok:x.Ok) {k:Nat} (hk:k≤x.F) (h0:rL x k (2^x.F)=0) :
 aW 0 [1,2,3,5] (execW aA 39 0 none (match aAQ with | .loop _ a=>a|c=>c) (aV [1,2,3,5] (aIm k)) (xW x))=some (aIm (k+1),xW x):=by
 have hF:=ok.F16
 have hp:=aT hF
 have a1:((k:Int)≤(x.F:Int))=True:=eq_true (by omega)
 have a2:=dN (show k<17 by omega) (by omega)
 have e:=fS bH (i:=x.F) (by omega)
 have n0:((x.F:Int)<0)=False:=eq_false (by omega)
 have z:(((2^x.F:Nat):Int)<((2^x.F:Nat):Int))=False:=eq_false (by omega)
 have c2:((x.F:Int)≤(x.F:Int))=True:=eq_true (by omega)
 have c3:(8*(x.F:Int)≤281474976710656)=True:=eq_true (by omega)
 have c4:((x.F:Int)≤9223372036854775807)=True:=eq_true (by omega)
 have c5:((x.F:Int)).toNat=x.F:=Int.toNat_natCast _
 have c6:((0:Int)≤(x.F:Int))=True:=eq_true (by omega)
 have m0:List.map (AV.int .i64) (List.replicate x.F 0)=fC x.F (pY x k 0):=by
  rw[show fC x.F (pY x k 0)=fC x.F (fun _=>0) from rfl,←aEQ];simp
 have z0:rL x k 0=0:=rfl
 have rd:=fun t (ht:t<2^x.F)=>aBi ok (k:=k) (by omega) ht
 generalize hN:2^x.F=N at *
 unfold aAQ
 dsimp only
 sym =>
  simp[bC,Za,Zb,Zf,Zh,Zl,Zm,Zo,Zv,Z3,Z7,ZB,ZG,Ya,Yt,Yw,Yx,YM,Xg,Wx,Wy,Wz,W8,VM,VP,VQ,VX,VY,Uc,Ud,Ui,Uq,Uu,U3,U4,UQ,UR,UZ,Ta,Te,Th,Tm,Tn,Tq,Ts,Tt,T0,T1,TJ,a1,c2,c3,c4,c5,c6,n0]
  tactic =>
   unfold qF
   rw[aE N (fun t=>aFR x (rL x k t) k t) (fun t=>jA x (pY x k t))]
   ·rw[h0]; (sym=>(simp[bC,Za,Zb,Zf,Zh,Zl,Zm,Zv,Z3,Z7,ZG,Ya,Yi,Yo,Ys,Yu,Yx,Y9,YU,Xb,Xp,Xv,Wx,Wy,Wz,W8,W9,WC,WE,WG,WH,WI,WK,WM,WN,WO,WP,WU,WV,Vb,VM,VN,VO,VP,VR,VV,VW,VY,VZ,Ub,Ug,Ut,Uv,Uz,U0,U1,U2,UY,UZ,Ta,Te,Tm,Tn,Tq,Tr,Tt,Tu,Tw,Ty,Tz,T0,T1,TE,e,n0,z,a2];all_goals tactic=>exact rfl))
   ·rw[z0]; (sym=>(simp[bC,Za,Y9,YU,Xa,Xb,Xp,Xu,Xv,Wx,W9,WA,WC,WE,WG,WH,WI,WK,WM,WN,WO,WP,WU,WV,Vb,VM,VN,VO,VV,VW,VX,VY,VZ,Ub,Ug,Ut,Uz,U0,U1,U2,Tz,TE,m0];all_goals tactic=>exact rfl))
   ·exact rd
   ·rw[h0]; (sym=>(simp[bC,Za,Zb,Zf,Zh,Zl,Zm,Zv,Z3,Z7,ZG,Ya,Yo,Ys,Yx,Y9,Wx,Wy,Wz,W8,VM,VP,VR,VS,Uv,UY,UZ,Ta,Te,Tm,Tn,Tr,Tt,Tu,T0,T1,e,n0,z,a2];all_goals tactic=>exact rfl))
theorem aMZ {x:Vn} (ok:x.Ok) {n:Nat} (hn:n≤x.F) (h0:∀ k,k<n→rL x k (2^x.F)=0) (h1:rL x n (2^x.F)≠0) :
 runW aA 39 [.agg x.c] []=some (.tup [I (n:Nat),I (rL x n (2^x.F):Nat),nL (cZ ((List.range x.F).map (pY x n (2^x.F))))],[]):=by
 have hF:=ok.F16
 have hp:=aT hF
 have a1:((n:Int)≤(x.F:Int))=True:=eq_true (by omega)
 have e:=fS bH (i:=x.F) (by omega)
 have n0:((x.F:Int)<0)=False:=eq_false (by omega)
 have z:(((2^x.F:Nat):Int)<((2^x.F:Nat):Int))=False:=eq_false (by omega)
 have c2:((x.F:Int)≤(x.F:Int))=True:=eq_true (by omega)
 have c3:(8*(x.F:Int)≤281474976710656)=True:=eq_true (by omega)
 have c4:((x.F:Int)≤9223372036854775807)=True:=eq_true (by omega)
 have c5:((x.F:Int)).toNat=x.F:=Int.toNat_natCast _
 have c6:((0:Int)≤(x.F:Int))=True:=eq_true (by omega)
 have m0:List.map (AV.int .i64) (List.replicate x.F 0)=fC x.F (pY x n 0):=by
  rw[show fC x.F (pY x n 0)=fC x.F (fun _=>0) from rfl,←aEQ];simp
 have z0:rL x n 0=0:=rfl
 have rd:=fun t (ht:t<2^x.F)=>aBi ok (k:=n) (by omega) ht
 have rdc:=fun k (hk:k<n)=>aBh ok (k:=k) (by omega) (h0 k hk)
 have hres:nL (cZ ((List.range x.F).map (pY x n (2^x.F)))) = .fs ((List.range x.F).map fun f=>[I (pY x n (2^x.F) f)]):=by
  unfold cZ nL;rw[List.map_map,List.map_map];rfl
 rw[hres]
 have rows:=aJr x.F (pY x n (2^x.F))
 have c7:=fX x.F (pY x n (2^x.F))
 have g1:((0:Int)<(rL x n (2^x.F):Int))=True:=eq_true (by omega)
 have k0:((0:Nat):Int)=0:=rfl
 generalize 2^x.F=N at *
 rw[r39 (by simp)];unfold x39;dsimp only
 sym =>
  simp[bC,Zb,Zf,Zh,Zl,Zo,Zv,Zz,Xg,Xi,Xj,Wc,We,Wg,Wq,W7,VK,VU,VY,Ud,Ui,U3,U4,U9,UA,UK,UL,Th,Tn,Ts,Tt,T0,T1]
  tactic =>
   unfold aAQ
   rw[aE n (fun k=>aIm k) (fun _=>xW x)]
   ·sym =>
    simp[bC,Za,Zb,Zf,Zh,Zl,Zm,Zo,Zv,Z3,Z7,ZB,ZG,Ya,Yt,Yw,Yx,YM,Xg,Wx,Wy,Wz,W8,VM,VP,VQ,VX,VY,Uc,Ud,Ui,Uq,Uu,U3,U4,UQ,UR,UZ,Ta,Te,Th,Tm,Tn,Tq,Ts,Tt,T0,T1,TJ,a1,c2,c3,c4,c5,c6,n0]
    tactic =>
     unfold qF
     rw[aE N (fun t=>aFR x (rL x n t) n t) (fun t=>jA x (pY x n t))]
     ·(sym=>(simp[bC,Za,Zb,Zf,Zh,Zl,Zm,Zv,Z3,Z7,ZG,Ya,Yo,Ys,Yu,Yx,YU,YY,YZ,Xp,Xs,Xt,X0,XK,XM,XV,XX,XZ,Wc,Wf,Wg,Wx,Wy,Wz,W0,W8,WG,WK,WM,WN,WO,Vo,Vp,Vq,Vr,Vs,V1,V3,V5,V6,V8,V9,VA,VB,VE,VF,VG,VH,VI,VM,VP,VQ,VR,VV,VW,VY,VZ,Ub,Uq,Uu,Uv,Uz,U0,U1,U2,U5,U6,U7,U8,U9,UA,UY,UZ,Ta,Te,Tm,Tn,Tp,Tr,Tt,Tu,Tv,Tx,Ty,T0,T1,TC,TD,TF,Sl,Sm,Sn,e,n0,z,g1,rows,c7];all_goals tactic=>exact rfl))
     ·rw[z0]; (sym=>(simp[bC,m0];all_goals tactic=>exact rfl))
     ·exact rd
     ·(sym=>(simp[bC,Za,Zb,Zf,Zh,Zl,Zm,Zv,Z3,Z7,ZG,Ya,Yo,Ys,Yx,Wx,Wy,Wz,W8,VM,VP,VR,VS,Uv,UY,UZ,Ta,Te,Tm,Tn,Tr,Tt,Tu,T0,T1,e,n0,z,g1];all_goals tactic=>exact rfl))
   ·(sym=>(simp[bC,Za,Y9,YU,Xb,Xp,Xv,Wx,W9,WC,WE,WG,WH,WI,WK,WM,WN,WO,WP,WU,WV,Vb,VN,VO,VV,VW,VY,VZ,Ub,Ug,Ut,Uz,U0,U1,U2,Tz,TE,k0];all_goals tactic=>exact rfl))
   ·exact rdc
   ·sym =>
    simp[bC,Za,Zb,Zf,Zh,Zl,Zm,Zo,Zv,Z3,Z7,ZB,ZG,Ya,Yt,Yw,Yx,YM,Xg,Wx,Wy,Wz,W8,VM,VP,VQ,VX,VY,Uc,Ud,Ui,Uq,Uu,U3,U4,UQ,UR,UZ,Ta,Te,Th,Tm,Tn,Tq,Ts,Tt,T0,T1,TJ,a1,c2,c3,c4,c5,c6,n0]
    tactic =>
     unfold qF
     rw[aE N (fun t=>aFR x (rL x n t) n t) (fun t=>jA x (pY x n t))]
     ·(sym=>(simp[bC,Za,Zb,Zf,Zh,Zl,Zm,Zv,Z3,Z7,ZG,Ya,Yo,Ys,Yu,Yx,Wx,Wy,Wz,W8,VM,VP,VQ,VR,VT,Uu,Uv,UY,UZ,Ta,Te,Tm,Tn,Tp,Tr,Tt,Tu,Tv,Tx,Ty,T0,T1,e,n0,z,g1,rows,c7];all_goals tactic=>exact rfl))
     ·rw[z0]; (sym=>(simp[bC,m0];all_goals tactic=>exact rfl))
     ·exact rd
     ·(sym=>(simp[bC,Za,Zb,Zf,Zh,Zl,Zm,Zv,Z3,Z7,ZG,Ya,Yo,Ys,Yx,Wx,Wy,Wz,W8,VM,VP,VR,VS,Uv,UY,UZ,Ta,Te,Tm,Tn,Tr,Tt,Tu,T0,T1,e,n0,z,g1];all_goals tactic=>exact rfl))
theorem aMY {x:Vn} (ok:x.Ok) (h0:∀ k,k≤x.F→rL x k (2^x.F)=0):runW aA 39 [.agg x.c] []=some (.tup [I (-1),I 0,.fs []],[]):=by
 have hF:=ok.F16
 have a1:(((x.F+1:Nat):Int)≤(x.F:Int))=False:=eq_false (by omega)
 have a2:((x.F:Int)+1≤(x.F:Int))=False:=eq_false (by omega)
 have rdc:=fun k (hk:k<x.F+1)=>aBh ok (k:=k) (by omega) (h0 k (by omega))
 have k0:((0:Nat):Int)=0:=rfl
 rw[r39 (by simp)];unfold x39;dsimp only
 sym =>
  simp[bC,Zb,Zf,Zh,Zl,Zo,Zv,Zz,Xg,Xi,Xj,Wc,We,Wg,Wq,W7,VK,VU,VY,Ud,Ui,U3,U4,U9,UA,UK,UL,Th,Tn,Ts,Tt,T0,T1]
  tactic =>
   unfold aAQ
   rw[aE (x.F+1) (fun k=>aIm k) (fun _=>xW x)]
   ·(sym=>(simp[bC,Za,Zb,Zf,Zh,Zl,Zm,Zv,Z3,Z7,ZG,Ya,Yt,YU,YY,YZ,Xp,Xs,Xt,X0,XK,XO,Wc,Wf,Wj,Wx,Wy,Wz,W8,WG,WK,WM,WN,WO,Vr,V5,V6,V8,V9,VA,VB,VE,VF,VG,VH,VI,VM,VP,VR,VW,VZ,Ub,Uv,Uz,U0,U1,U2,U5,U6,U9,UA,UZ,Ta,Te,Tm,Tn,Tp,Tr,Tt,Tu,Ty,T0,T1,Sl,a1,a2];all_goals tactic=>exact rfl))
   ·(sym=>(simp[bC,k0];all_goals tactic=>exact rfl))
   ·exact rdc
   ·(sym=>(simp[bC,Za,Zb,Zf,Zh,Zl,Zm,Zv,Z3,Z7,ZG,Ya,Yt,Wx,Wy,Wz,W8,VM,VP,VR,VS,Uv,UZ,Ta,Te,Tm,Tn,Tr,Tt,Tu,T0,a1,a2];all_goals tactic=>exact rfl))
theorem w39 {x:Vn} (ok:x.Ok) (hh:lY x=true):∃ n,Lea x 0 n∧0<rL x n (2^x.F)∧runW aA 39 [.agg x.c] []=some (.tup [I (n:Nat),I (rL x n (2^x.F):Nat),nL (cZ ((List.range x.F).map (pY x n (2^x.F))))],[]):=by
 have hp:=aT ok.F16
 obtain⟨c,hc,_⟩:=w29 ok ok.h23 hh
 have hn:Lea x 0 (aZ c):=⟨⟨c,hc.lt,hc.min.1,rfl⟩,hc.min.2⟩
 have h1:0<rL x (aZ c) (2^x.F):=by
  unfold rL
  apply List.length_pos_of_mem (a:=c)
  rw[List.mem_filter,List.mem_range]
  refine⟨hc.lt,?_⟩
  unfold xY
  rw[decide_eq_true rfl,Bool.true_and]
  exact(fR ok (by have:=hc.lt;omega)).2 hc.min.1
 refine⟨aZ c,hn,h1,aMZ ok (aCZ hc.lt ok.F16) (fun k hk=>?_) (by omega)⟩
 unfold rL
 rw[List.length_eq_zero_iff,List.filter_eq_nil_iff]
 intro t ht
 rw[List.mem_range]at ht
 unfold xY
 intro h
 rw[Bool.and_eq_true,decide_eq_true_eq]at h
 have:=hc.min.2 t ((fR ok (by omega)).1 h.2)
 omega
theorem aNa {x:Vn} (ok:x.Ok) (hh:lY x=false):runW aA 39 [.agg x.c] []=some (.tup [I (-1),I 0,.fs []],[]):=by
 have hp:=aT ok.F16
 refine aMY ok fun k _=>?_
 unfold rL
 rw[List.length_eq_zero_iff,List.filter_eq_nil_iff]
 intro t ht
 rw[List.mem_range]at ht
 unfold xY
 intro h
 rw[Bool.and_eq_true]at h
 have:=(kD ok).2 ⟨t,ht,(fR ok (by omega)).1 h.2⟩
 rw[hh]at this
 simp at this
section
variable {x:Vn} (ok:x.Ok) {a c:Nat}
include ok in
theorem aBe {i:Nat} (hi:i<x.bs.length) (h0:bB x a c i=0) :
 aW 0 [1,2,3,12,13,14] (execW aA 73 0 none (match oT with | .loop _ a=>a|c=>c) (aV [1,2,3,12,13,14] [I a,I c,.pt 0 0,rB (x.bs.map bI),I x.bs.length,I (i:Nat)]) (uH x))=some ([I a,I c,.pt 0 0,rB (x.bs.map bI),I x.bs.length,I (i+1:Nat)],uH x):=by
 obtain⟨b,hx⟩:=bM hi
 have a1:=dH hi
 have a2:=dN hi (by have:=ok.nb;omega)
 have gl:(x.bs.map bI).length=x.bs.length:=List.length_map ..
 unfold bB at h0
 rw[aR hx]at h0
 unfold bMt at h0
 unfold oT
 dsimp only
 rcases mL b.1 a with ⟨p1,q1,s1⟩|⟨p1,q1,s1⟩<;>rcases mL b.2 c with ⟨p2,q2,s2⟩|⟨p2,q2,s2⟩<;>rcases mL b.1 c with ⟨p3,q3,s3⟩|⟨p3,q3,s3⟩<;>rcases mL b.2 a with ⟨p4,q4,s4⟩|⟨p4,q4,s4⟩<;>rw[q1,q2,q3,q4]at h0<;>first|(exfalso;revert h0;decide)|(exfalso;clear h0;omega)|(sym=>(simp[Za,Zb,Zc,Zd,Ze,Zf,Zh,Zl,Zm,Zp,Zq,Zr,Zs,Zv,Zw,Zy,Z3,Z8,Z9,ZG,ZK,ZL,ZV,ZW,Yf,Yg,Yi,Yq,Ys,Yw,Yx,Y8,YA,YD,YO,YU,YZ,Xb,Xg,Xp,Xt,Xv,Wq,Wx,Wy,Wz,W0,W3,W4,W5,W6,W8,W9,WC,WE,WG,WH,WI,WK,WM,WN,WO,WP,WU,WV,Vb,VM,VN,VO,VP,VQ,VR,VV,VW,VX,VY,VZ,Ub,Uc,Ud,Ue,Uf,Ug,Ui,Uq,Ut,Uu,Uv,Uz,U0,U1,U2,U3,U4,UB,UZ,Ta,Tb,Tc,Td,Te,Tf,Tg,Tm,Tn,Tq,Ts,Tt,Tw,Tz,T0,T1,TE,a1,a2,hx,p1,p2,p3,p4];all_goals tactic=>exact rfl))
theorem aJd {i:Nat} (hi:i<x.bs.length) (h0:bB x a c i≠0):∃ e h,
 execW aA 73 0 none (match oT with | .loop _ a=>a|c=>c) (aV [1,2,3,12,13,14] [I a,I c,.pt 0 0,rB (x.bs.map bI),I x.bs.length,I (i:Nat)]) (uH x)=some (.ret,e,h)∧bU none [(6,none)] false 0 (some (.ret,e,h))=some (.bool true,[]):=by
 obtain⟨b,hx⟩:=bM hi
 have a1:=dH hi
 have gl:(x.bs.map bI).length=x.bs.length:=List.length_map ..
 unfold bB at h0
 rw[aR hx]at h0
 unfold bMt at h0
 unfold oT
 dsimp only
 rcases mL b.1 a with ⟨p1,q1,s1⟩|⟨p1,q1,s1⟩<;>rcases mL b.2 c with ⟨p2,q2,s2⟩|⟨p2,q2,s2⟩<;>rcases mL b.1 c with ⟨p3,q3,s3⟩|⟨p3,q3,s3⟩<;>rcases mL b.2 a with ⟨p4,q4,s4⟩|⟨p4,q4,s4⟩<;>rw[q1,q2,q3,q4]at h0<;>try (exfalso;revert h0;decide)
 all_goals try (exfalso;clear h0;omega)
 all_goals refine dR ?_ ?_
 all_goals (sym=>(simp[Za,Zb,Zc,Zd,Ze,Zf,Zh,Zl,Zm,Zp,Zq,Zr,Zs,Zt,Zu,Zv,Zw,Zy,Z3,Z8,Z9,ZG,ZK,ZL,ZV,ZW,Yf,Yg,Yq,Ys,Yw,Yx,Y8,YA,YD,YO,YV,Xg,Xq,XI,Wd,Wq,Wx,Wy,Wz,W0,W3,W4,W5,W6,W8,WG,WK,WM,WN,WO,Vr,V5,V6,V8,V9,VA,VB,VC,VF,VG,VH,VI,VM,VP,VQ,VT,VW,VX,VY,VZ,Ub,Uc,Ud,Ue,Uf,Ug,Ui,Uq,Uu,Uv,Uz,U0,U3,U4,UB,UZ,Ta,Tb,Tc,Td,Te,Tf,Tg,Tm,Tn,Tp,Tq,Ts,Tt,Tv,Tx,T0,T1,Sl,a1,hx,p1,p2,p3,p4];all_goals tactic=>exact rfl))
include ok in
theorem aBd {i:Nat} (hi:i<x.ps.length) (h0:pB x a c i=0) :
 aW 0 [1,2,42,43,44] (execW aA 73 0 none (match qE with | .loop _ a=>a|c=>c) (aV [1,2,42,43,44] [I a,I c,rP (x.ps.map pI),I x.ps.length,I (i:Nat)]) [])=some ([I a,I c,rP (x.ps.map pI),I x.ps.length,I (i+1:Nat)],[]):=by
 obtain⟨b,hx⟩:=bM hi
 have a1:=dH hi
 have a2:=dN hi (by have:=ok.np;omega)
 have gl:(x.ps.map pI).length=x.ps.length:=List.length_map ..
 unfold pB at h0
 rw[aR hx]at h0
 unfold pMt at h0
 unfold qE
 dsimp only
 rcases mL b.2.1 a with ⟨p1,q1,s1⟩|⟨p1,q1,s1⟩<;>rcases mL b.2.2 c with ⟨p2,q2,s2⟩|⟨p2,q2,s2⟩<;>rw[q1,q2]at h0<;>first|(exfalso;revert h0;decide)|(exfalso;clear h0;omega)|(sym=>(simp[Za,Zb,Zc,Zd,Ze,Zf,Zh,Zl,Zm,Zp,Zq,Zs,Zv,Zw,Zy,Z3,Z7,Z9,ZG,ZK,ZL,ZV,ZW,Ya,Yf,Yg,Yi,Yq,Ys,Yw,Yx,YU,YZ,Xg,Xp,Xt,Wq,Wx,Wy,Wz,W0,W3,W4,W5,W6,W8,WG,WK,WM,WN,WO,VM,VN,VO,VP,VQ,VR,VV,VW,VY,VZ,Ub,Uc,Ud,Ue,Uf,Ug,Ui,Uq,Uu,Uv,Uz,U0,U1,U2,U3,U4,UB,UZ,Ta,Tb,Tc,Td,Te,Tf,Tg,Tm,Tn,Tq,Ts,Tt,Tw,Tz,T0,T1,a1,a2,hx,p1,p2];all_goals tactic=>exact rfl))
theorem aJc {i:Nat} (hi:i<x.ps.length) (h0:pB x a c i≠0):∃ e h,
 execW aA 73 0 none (match qE with | .loop _ a=>a|c=>c) (aV [1,2,42,43,44] [I a,I c,rP (x.ps.map pI),I x.ps.length,I (i:Nat)]) []=some (.ret,e,h)∧bU none [(6,none)] false 0 (some (.ret,e,h))=some (.bool true,[]):=by
 obtain⟨b,hx⟩:=bM hi
 have a1:=dH hi
 have gl:(x.ps.map pI).length=x.ps.length:=List.length_map ..
 unfold pB at h0
 rw[aR hx]at h0
 unfold pMt at h0
 unfold qE
 dsimp only
 rcases mL b.2.1 a with ⟨p1,q1,s1⟩|⟨p1,q1,s1⟩<;>rcases mL b.2.2 c with ⟨p2,q2,s2⟩|⟨p2,q2,s2⟩<;>rw[q1,q2]at h0<;>try (exfalso;revert h0;decide)
 all_goals try (exfalso;clear h0;omega)
 all_goals refine dR ?_ ?_
 all_goals (sym=>(simp[Za,Zb,Zc,Zd,Ze,Zf,Zh,Zl,Zm,Zp,Zq,Zv,Zw,Zy,Z3,Z7,Z9,ZG,ZK,ZL,ZV,Ya,Yf,Yg,Yq,Ys,Yw,Yx,YV,Xg,Xq,XI,Wd,Wq,Wx,Wy,Wz,W0,W3,W4,W5,W6,W8,WG,WK,WM,WN,WO,Vr,V5,V6,V8,V9,VA,VB,VC,VF,VG,VH,VI,VM,VP,VQ,VT,VW,VY,VZ,Ub,Uc,Ud,Ue,Uf,Ug,Ui,Uq,Uu,Uz,U0,U3,U4,UB,UZ,Ta,Tb,Tc,Td,Te,Tf,Tg,Tm,Tn,Tp,Tq,Ts,Tt,Tv,Tx,T0,T1,Sl,a1,hx,p1,p2];all_goals tactic=>exact rfl))
end
theorem w73 {x:Vn} (ok:x.Ok) (a c:Nat):runW aA 73 [.agg x.c,I a,I c] []=some (.bool ((cK x a).testBit c),[]):=by
 have z:=UY (n:=(x.bs.length:Int))
 have zp:=UY (n:=(x.ps.length:Int))
 have n1:(x.bs.map bI).length=x.bs.length:=List.length_map ..
 have n2:(x.ps.map pI).length=x.ps.length:=List.length_map ..
 have b1:((x.bs.map bI).map fun b=>([I b.1,I b.2]:List AV)).length=x.bs.length:=by simp
 have b2:((x.ps.map pI).map fun p=>([I p.1,I p.2.1,I p.2.2]:List AV)).length=x.ps.length:=by simp
 obtain⟨m,m1,m2,m3⟩:=dJ (bB x a c) x.bs.length
 rcases m3 with ⟨rfl,_⟩|⟨m3,m4,_⟩
 ·have hb:=aJI m2
  have rd:=fun i (hi:i<x.bs.length)=>aBe ok (a:=a) (c:=c) hi (m2 i hi)
  obtain⟨k,k1,k2,k3⟩:=dJ (pB x a c) x.ps.length
  rcases k3 with ⟨rfl,_⟩|⟨k3,k4,_⟩
  ·have hp:=aIN k2
   have rd2:=fun i (hi:i<x.ps.length)=>aBd ok (a:=a) (c:=c) hi (k2 i hi)
   rw[aAd,hb,hp,Bool.or_self]
   rw[r73 (by simp)];unfold x73;dsimp only
   sym =>
    simp[Za,Zb,Zf,Zh,Zl,Zm,Zo,Zv,Zz,Z7,ZF,ZG,Ya,Yb,Xg,Xi,Xj,Wc,We,Wg,Wq,Wx,Wy,Wz,W7,W8,VK,VU,VY,Ud,Ue,Ui,U3,U4,U9,UA,UK,UL,UZ,Ta,Te,Th,Tn,Ts,Tt,T0,T1]
    tactic =>
     unfold oT
     rw[aE x.bs.length (fun i=>[I a,I c,.pt 0 0,rB (x.bs.map bI),I x.bs.length,I (i:Nat)]) (fun _=>uH x)]
     ·sym =>
      simp[Za,Zb,Zf,Zh,Zl,Zm,Zv,Z3,Z7,ZF,ZG,Ya,Yb,Ys,Wx,Wy,Wz,W8,VM,VP,VR,Ue,Uv,UY,UZ,Ta,Te,Tm,Tn,Tr,Ts,Tt,Tu,Ty,T0,T1,z]
      tactic =>
       unfold qE
       rw[aE x.ps.length (fun i=>[I a,I c,rP (x.ps.map pI),I x.ps.length,I (i:Nat)]) (fun _=>[])]
       ·(sym=>(simp[Za,Zb,Zf,Zh,Zl,Zm,Zv,Z3,Ys,YV,Xq,XI,Wd,WG,WK,WL,WN,WO,Vr,V5,V6,V8,V9,VA,VB,VC,VF,VG,VH,VI,VM,VP,VR,VW,VZ,Ub,Uv,Uy,Uz,U0,UY,Tm,Tn,Tp,Tr,Tt,Tu,Ty,T0,T1,Sl,zp];all_goals tactic=>exact rfl))
       ·(sym=>(simp[Za,Y9,YU,YZ,Xp,Xt,WG,WK,WM,WN,WO,VM,VN,VO,VV,VW,VZ,Ub,Uz,U0,U1,U2,Tz];all_goals tactic=>exact rfl))
       ·exact rd2
       ·(sym=>(simp[Za,Zb,Zf,Zh,Zl,Zm,Z3,Ys,VM,VP,VR,VS,Uv,UY,Tm,Tn,Tr,Tt,Tu,T0,zp];all_goals tactic=>exact rfl))
     ·(sym=>(simp[Za,Y9,YU,YZ,Xb,Xp,Xt,Xv,Wx,W7,W9,WC,WE,WG,WH,WI,WK,WM,WN,WO,WP,WU,WV,Vb,VK,VN,VO,VV,VW,VY,VZ,Ub,Ug,Ut,Uz,U0,U1,U2,Tz,TE];all_goals tactic=>exact rfl))
     ·exact rd
     ·(sym=>(simp[Za,Zb,Zf,Zh,Zl,Zm,Z3,Ys,VM,VP,VR,VS,Uv,UY,Tm,Tn,Tr,Tt,Tu,T0,z];all_goals tactic=>exact rfl))
  ·have rd2:=fun i (hi:i<k)=>aBd ok (a:=a) (c:=c) (show i<x.ps.length by omega) (k2 i hi)
   obtain⟨e,hh,q1,q2⟩:=aJc (a:=a) (c:=c) k3 k4
   have ht:(cK x a).testBit c=true:=by
    rw[aAd,Bool.or_eq_true]
    obtain⟨y,hy⟩:=bM k3
    refine .inr (aAG.2 ⟨k,y,hy,?_⟩)
    unfold pB at k4
    rw[aR hy]at k4
    by_cases h:pMt y a c=true
    ·exact h
    ·rw[if_neg h]at k4;simp at k4
   rw[ht]
   rw[r73 (by simp)];unfold x73;dsimp only
   sym =>
    simp[Za,Zb,Zf,Zh,Zl,Zm,Zo,Zv,Zz,Z7,ZF,ZG,Ya,Yb,Xg,Xi,Xj,Wc,We,Wg,Wq,Wx,Wy,Wz,W7,W8,VK,VU,VY,Ud,Ue,Ui,U3,U4,U9,UA,UK,UL,UZ,Ta,Te,Th,Tn,Ts,Tt,T0,T1]
    tactic =>
     unfold oT
     rw[aE x.bs.length (fun i=>[I a,I c,.pt 0 0,rB (x.bs.map bI),I x.bs.length,I (i:Nat)]) (fun _=>uH x)]
     ·sym =>
      simp[Za,Zb,Zf,Zh,Zl,Zm,Zv,Z3,Z7,ZF,ZG,Ya,Yb,Ys,Wx,Wy,Wz,W8,VM,VP,VR,Ue,Uv,UY,UZ,Ta,Te,Tm,Tn,Tr,Ts,Tt,Tu,Ty,T0,T1,z]
      tactic =>
       unfold qE
       rw[aE k (fun i=>[I a,I c,rP (x.ps.map pI),I x.ps.length,I (i:Nat)]) (fun _=>[])]
       ·unfold qE at q1
        dsimp only at q1
        rw[q1]
        exact q2
       ·(sym=>(simp[Za,Y9,YU,YZ,Xp,Xt,WG,WK,WM,WN,WO,VM,VN,VO,VV,VW,VZ,Ub,Uz,U0,U1,U2,Tz];all_goals tactic=>exact rfl))
       ·exact rd2
       ·unfold qE at q1
        dsimp only at q1
        rw[q1]
        rfl
     ·(sym=>(simp[Za,Y9,YU,YZ,Xb,Xp,Xt,Xv,Wx,W7,W9,WC,WE,WG,WH,WI,WK,WM,WN,WO,WP,WU,WV,Vb,VK,VN,VO,VV,VW,VY,VZ,Ub,Ug,Ut,Uz,U0,U1,U2,Tz,TE];all_goals tactic=>exact rfl))
     ·exact rd
     ·(sym=>(simp[Za,Zb,Zf,Zh,Zl,Zm,Z3,Ys,VM,VP,VR,VS,Uv,UY,Tm,Tn,Tr,Tt,Tu,T0,z];all_goals tactic=>exact rfl))
 ·have rd:=fun i (hi:i<m)=>aBe ok (a:=a) (c:=c) (show i<x.bs.length by omega) (m2 i hi)
  obtain⟨e,hh,q1,q2⟩:=aJd (a:=a) (c:=c) m3 m4
  have ht:(cK x a).testBit c=true:=by
   rw[aAd,Bool.or_eq_true]
   obtain⟨y,hy⟩:=bM m3
   refine .inl (aAG.2 ⟨m,y,hy,?_⟩)
   unfold bB at m4
   rw[aR hy]at m4
   by_cases h:bMt y a c=true
   ·exact h
   ·rw[if_neg h]at m4;simp at m4
  rw[ht]
  rw[r73 (by simp)];unfold x73;dsimp only
  sym =>
   simp[Za,Zb,Zf,Zh,Zl,Zm,Zo,Zv,Zz,Z7,ZF,ZG,Ya,Yb,Xg,Xi,Xj,Wc,We,Wg,Wq,Wx,Wy,Wz,W7,W8,VK,VU,VY,Ud,Ue,Ui,U3,U4,U9,UA,UK,UL,UZ,Ta,Te,Th,Tn,Ts,Tt,T0,T1]
   tactic =>
    unfold oT
    rw[aE m (fun i=>[I a,I c,.pt 0 0,rB (x.bs.map bI),I x.bs.length,I (i:Nat)]) (fun _=>uH x)]
    ·unfold oT at q1
     dsimp only at q1
     rw[q1]
     exact q2
    ·(sym=>(simp[Za,Y9,YU,YZ,Xb,Xp,Xt,Xv,Wx,W7,W9,WC,WE,WG,WH,WI,WK,WM,WN,WO,WP,WU,WV,Vb,VK,VN,VO,VV,VW,VY,VZ,Ub,Ug,Ut,Uz,U0,U1,U2,Tz,TE];all_goals tactic=>exact rfl))
    ·exact rd
    ·unfold oT at q1
     dsimp only at q1
     rw[q1]
     rfl

structure aCa (x:Vn) (u:Nat) (ks:List Nat):Prop where
 lt:∀ k∈ks,k<x.F
 len:ks.length≤16
 ne:ks≠[]
 leads:iP x ks=true
 free:∀ (j k:Nat),ks[j]?=some k→u.testBit k=true→x.fix.testBit k=true
theorem aKh {x:Vn} {u:Nat} {w:List Int} (hF:x.F≤16) (h:mU x u w=0):∃ ks,w=cZ ks∧aCa x u ks:=by
 have hl:=aDv hF h
 obtain⟨ks,rfl,hks⟩:=vH h
 refine⟨ks,rfl,?_⟩
 unfold mU at h
 by_cases hn:cZ ks=[]
 ·rw[if_pos hn]at h;simp at h
 rw[if_neg hn,if_neg (by rw[aCA hks];simp),fD,bQ]at h
 cases hld:iP x ks
 ·rw[hld]at h;simp at h
 ·rw[hld,if_pos rfl]at h
  by_cases hf:cG (cfE x u ks) ks.length≠0
  ·rw[if_pos hf]at h;simp at h
  ·refine⟨hks,by rw[bQ]at hl;exact hl,fun h=>hn (by rw[h];rfl),hld,fun j k hj hu=>?_⟩
   have h0:=eE (by omega:cG (cfE x u ks) ks.length=0) j (fJ hj)
   unfold cfE at h0
   rw[aR hj,hu]at h0
   cases hx:x.fix.testBit k
   ·rw[hx]at h0;simp at h0
   ·rfl
theorem aFu {x:Vn} {ws:List (List Int)} (hF:x.F≤16) (h:zV x ws=0):ws.length≤16∧∀ (i:Nat) (w:List Int),ws[i]?=some w→∃ ks,w=cZ ks∧aCa x (xR ws i) ks:=by
 refine⟨(zU hF h).1,fun i w hw=>?_⟩
 unfold zV at h
 by_cases h16:16<ws.length
 ·rw[if_pos h16]at h;simp at h
 rw[if_neg h16]at h
 have h0:=eE h i (fJ hw)
 unfold vI at h0
 rw[aR hw]at h0
 exact aKh hF h0
def eA (ks:List Nat) (j f:Nat):Nat:=if (cY ks j).testBit f then 1 else 0
def zX (ws:List (List Int)):Nat→Nat→Nat
 | 0,_=>0
 | i+1,f=>zX ws i f+eA ((ws.getD i []).map Int.toNat) ((ws.getD i []).map Int.toNat).length f
theorem aGN (ks:List Nat):eA ks 0=fun _=>0:=by funext f;unfold eA;rw[show cY ks 0=0 from rfl];simp
theorem aIO (ks:List Nat) (j f:Nat):eA ks j f≤1:=by unfold eA;split<;>omega
theorem aFw (ws:List (List Int)):∀ i f,zX ws i f≤i
 | 0,_=>Nat.le_refl _
 | i+1,f=>by
   have:=aFw ws i f
   have:=aIO ((ws.getD i []).map Int.toNat) ((ws.getD i []).map Int.toNat).length f
   rw[zX];omega
theorem aDz {x:Vn} {ws:List (List Int)} (h:∀ (i:Nat) (w:List Int),ws[i]?=some w→∃ ks,w=cZ ks∧aCa x (xR ws i) ks):∀ i f,i≤ws.length→((xR ws i).testBit f=true↔0<zX ws i f)
 | 0,f,_=>by rw[show xR ws 0=0 from rfl,zX];simp
 | i+1,f,hi=>by
   obtain⟨w,hw⟩:=bM (l:=ws) (i:=i) (by omega)
   have ih:=aDz h i f (by omega)
   obtain⟨ks,rfl,hk⟩:=h i w hw
   rw[zW hw,zX,aR hw,uWi,fD,bQ,aJS,Nat.testBit_or,Bool.or_eq_true,ih]
   unfold eA
   cases (cY ks ks.length).testBit f
   ·simp
   ·simp
theorem aAq {ks:List Nat} {j k:Nat} (h:ks[j]?=some k) (h0:(cY ks j).testBit k=false):iX (eA ks j) k 1=eA ks (j+1):=by
 funext f
 unfold iX eA
 rw[qI h,eK]
 by_cases hf:f=k
 ·subst hf;rw[if_pos rfl];simp
 ·rw[if_neg hf]
  have:decide (k=f)=false:=decide_eq_false (fun h=>hf h.symm)
  rw[this,Bool.or_false]
section
variable {x:Vn} (ok:x.Ok) {ws:List (List Int)} {ks:List Nat} {i:Nat} {U:Nat→Nat}
abbrev aKt (x:Vn) (ws:List (List Int)) (ks:List Nat) (i j:Nat):List AV:=[.pt 0 0,.sl 1 0 1 x.F,nL (cZ ks),.sl 2 0 1 x.F,wL ws,I ws.length,I (i:Nat),nL (cZ ks),I ks.length,I (j:Nat)]
abbrev aJn (x:Vn) (U:Nat→Nat) (ks:List Nat) (j:Nat):XH:=[some (.blk true (.cells true x.c)),some (.blk true (.cells true (fC x.F fun f=>U f+eA ks j f))),some (.blk true (.cells true (fC x.F (eA ks j))))]
include ok in
theorem aGf {u:Nat} (hw:aCa x u ks) (hU:∀ f,u.testBit f=true↔0<U f) (hU2:∀ f,U f≤16) {j:Nat} (hj:j<ks.length) :
 aW 0 [2,5,7,8,14,15,16,23,24,25] (execW aA 41 0 none (match aAM with | .loop _ a=>a|c=>c) (aV [2,5,7,8,14,15,16,23,24,25] (aKt x ws ks i j)) (aJn x U ks j))=some (aKt x ws ks i (j+1),aJn x U ks (j+1)):=by
 obtain⟨k,hk⟩:=bM hj
 have hF:=ok.F16
 have hp:=aT hF
 have hfx:=ok.f
 have hkF:=hw.lt k (List.mem_of_getElem? hk)
 have hlen:=hw.len
 have gl:=bQ ks
 have gk:=eB hk
 have hld:=hw.leads
 unfold iP at hld
 rw[Bool.and_eq_true,decide_eq_true_eq]at hld
 have h0:=eE hld.1 j hj
 unfold wkE at h0
 rw[aR hk]at h0
 have hs:(cY ks j).testBit k=false:=by
  cases h:(cY ks j).testBit k
  ·rfl
  ·rw[h]at h0;simp at h0
 rw[hs]at h0
 have hfree:=hw.free j k hk
 have hUk:=hU k
 have hUk2:=hU2 k
 have a1:=dH hj
 have a2:=dN hj (by omega)
 have n0:((k:Int)<0)=False:=eq_false (by omega)
 have n1:((0:Int)≤k)=True:=eq_true (by omega)
 have m1:((x.F:Int)≤(k:Int))=False:=eq_false (by omega)
 have m2:((k:Int)<(x.F:Int))=True:=eq_true (by omega)
 have o0:eA ks j k=0:=by unfold eA;rw[hs];rfl
 have q1:(fC x.F (eA ks j))[k]?=some (I 0):=by rw[lK (n:=x.F) (st:=eA ks j) hkF,o0];rfl
 have y1:=fX x.F (eA ks j)
 have s1:bY (fC x.F (eA ks j)) k [I 1]=fC x.F (eA ks (j+1)):=by rw[←aAq hk hs];exact sX (n:=x.F) (st:=eA ks j) (k:=k) (v:=1) hkF
 have q2:(fC x.F fun f=>U f+eA ks j f)[k]?=some (I (U k)):=by rw[lK (n:=x.F) (st:=fun f=>U f+eA ks j f) hkF,o0,Nat.add_zero]
 have y2:=fX x.F (fun f=>U f+eA ks j f)
 have s2:=sX (n:=x.F) (st:=fun f=>U f+eA ks j f) (k:=k) (v:=U k+1) hkF
 have s2':iX (fun f=>U f+eA ks j f) k (U k+1)=fun f=>U f+eA ks (j+1) f:=by
  rw[←aAq hk hs]
  funext f
  unfold iX
  by_cases hf:f=k
  ·subst hf;rw[if_pos rfl,if_pos rfl]
  ·rw[if_neg hf,if_neg hf]
 rw[s2']at s2
 have o1:eA ks (j+1) k=1:=by rw[←aAq hk hs];unfold iX;rw[if_pos rfl]
 have q3:(fC x.F (eA ks (j+1)))[k]?=some (I 1):=by rw[lK (n:=x.F) (st:=eA ks (j+1)) hkF,o1];rfl
 have y3:=fX x.F (eA ks (j+1))
 have q4:(fC x.F fun f=>U f+eA ks (j+1) f)[k]?=some (I (U k+1:Nat)):=by rw[lK (n:=x.F) (st:=fun f=>U f+eA ks (j+1) f) hkF,o1]
 have y4:=fX x.F (fun f=>U f+eA ks (j+1) f)
 have t1:(k+1≤x.F)=True:=eq_true (by omega)
 have v1:IntKind.i64.wrap ((U k:Int)+1)=((U k+1:Nat):Int):=by rw[aD (by omega) (by omega)];omega
 have eb:=tH bH (a:=x.fix) (i:=k) (by omega) (by omega)
 unfold aJn
 generalize fC x.F (fun f=>U f+eA ks j f)=A0 at *
 generalize fC x.F (fun f=>U f+eA ks (j+1) f)=A1 at *
 generalize fC x.F (eA ks j)=B0 at *
 generalize fC x.F (eA ks (j+1))=B1 at *
 clear s2' o0 o1 hs hld
 have hg:(((1:Int)<((U k+1:Nat):Int))=False∧True)∨(((1:Int)<((U k+1:Nat):Int))=True∧x.fix.testBit k=true):=by
  by_cases h:U k=0
  ·exact .inl ⟨eq_false (by omega),trivial⟩
  ·exact .inr ⟨eq_true (by omega),hfree (hUk.2 (by omega))⟩
 generalize U k+1=uk1 at *
 generalize U k=uk at *
 have hst:(j=0)∨∃ p,ks[j-1]?=some p∧(cK x p).testBit k=true∧0<j:=by
  by_cases h:j=0
  ·exact .inl h
  ·obtain⟨p,hp'⟩:=bM (l:=ks) (i:=j-1) (by omega)
   refine .inr ⟨p,hp',?_,by omega⟩
   rw[aR hp',decide_eq_true (show 0<j by omega)]at h0
   cases h2:(cK x p).testBit k
   ·rw[h2]at h0;simp at h0
   ·rfl
 rcases hst with rfl|⟨p,hp',hst,hj0⟩
 ·have a1:((0:Int)<(ks.length:Int))=True:=a1
  have a2:IntKind.i64.wrap ((0:Int)+1)=1:=rfl
  unfold aAM
  dsimp only
  rcases hg with ⟨hg,_⟩|⟨hg,hg2⟩
  ·(sym=>(simp[bC,Za,Zb,Zc,Zf,Zg,Zh,Zk,Zl,Zm,Zp,Zr,Zs,Zv,Zy,Z3,Z7,Z9,ZG,ZH,ZJ,ZK,ZL,ZW,Ya,Ye,Yf,Yg,Yi,Ys,Yu,Yv,Yw,Yx,Yz,Y8,Y9,YB,YU,YZ,Xa,Xb,Xg,Xp,Xt,Xu,Xv,Wo,Wx,Wy,Wz,W0,W8,W9,WA,WC,WE,WG,WH,WI,WK,WM,WN,WO,WP,WU,WV,Vb,Vr,Vt,Vu,Vw,Vx,Vz,VM,VN,VO,VP,VQ,VR,VV,VW,VX,VY,VZ,Ub,Uc,Ud,Ue,Uf,Ug,Ui,Uq,Ut,Uu,Uv,Uz,U0,U1,U2,U3,U4,UZ,Ta,Tb,Tc,Te,Tf,Tg,Tm,Tn,Tq,Ts,Tt,Tw,Tz,T0,T1,TC,TD,TE,S4,S5,S6,S8,S9,SA,a1,n0,n1,m1,m2,gk,gl,q1,q2,q3,q4,y1,y2,y3,y4,s1,s2,t1,v1,hg];all_goals tactic=>exact rfl))
  ·rw[hg2]at eb
   simp only[if_true]at eb
   (sym=>(simp[bC,Za,Zb,Zc,Zf,Zg,Zh,Zk,Zl,Zm,Zp,Zq,Zr,Zs,Zv,Zy,Z3,Z7,Z9,ZG,ZH,ZJ,ZK,ZL,ZV,ZW,Ya,Ye,Yf,Yg,Yi,Yl,Yp,Yq,Ys,Yu,Yv,Yw,Yx,Yz,Y8,Y9,YB,YU,YZ,Xa,Xb,Xg,Xp,Xt,Xu,Xv,Wo,Wx,Wy,Wz,W0,W8,W9,WA,WC,WE,WG,WH,WI,WK,WM,WN,WO,WP,WU,WV,Vb,Vr,Vt,Vu,Vw,Vx,Vz,VM,VN,VO,VP,VQ,VR,VV,VW,VX,VY,VZ,Ub,Uc,Ud,Ue,Uf,Ug,Ui,Uq,Ut,Uu,Uv,Uz,U0,U1,U2,U3,U4,UZ,Ta,Tb,Tc,Te,Tf,Tg,Tm,Tn,Tq,Ts,Tt,Tw,Tz,T0,T1,TC,TD,TE,S4,S5,S6,S8,S9,SA,a1,n0,n1,m1,m2,gk,gl,q1,q2,q3,q4,y1,y2,y3,y4,s1,s2,t1,v1,hg,eb];all_goals tactic=>exact rfl))
 ·have c1:((0:Int)<(j:Int))=True:=eq_true (by omega)
  have u1:IntKind.i64.wrap ((j:Int)-1)=((j-1:Nat):Int):=by rw[aD (by omega) (by omega)];omega
  have gp:=eB hp'
  have c2:(((j-1:Nat):Int)<(ks.length:Int))=True:=eq_true (by omega)
  have c3:((0:Int)≤((j-1:Nat):Int))=True:=eq_true (by omega)
  have e73:=w73 ok p k
  rw[hst]at e73
  generalize j-1=j1 at *
  unfold aAM
  dsimp only
  rcases hg with ⟨hg,_⟩|⟨hg,hg2⟩
  ·(sym=>(simp[bC,Za,Zb,Zc,Ze,Zf,Zg,Zh,Zk,Zl,Zm,Zp,Zq,Zr,Zs,Zv,Zy,Z3,Z4,Z7,Z9,ZG,ZH,ZI,ZJ,ZK,ZL,ZM,ZQ,ZR,ZT,ZU,ZV,ZW,ZX,Ya,Ye,Yf,Yg,Yi,Yj,Ys,Yu,Yv,Yw,Yx,Yz,YU,YX,YZ,Xa,Xb,Xg,Xp,Xq,Xr,Xt,Xu,Xv,Wo,Wx,Wy,Wz,W0,W3,W4,W5,W6,W8,W9,WA,WC,WE,WG,WH,WI,WJ,WK,WL,WM,WN,WO,WP,WQ,WR,WU,WV,Vb,Ve,Vf,Vg,Vi,Vk,Vl,Vr,Vt,Vu,Vw,Vx,Vz,VM,VN,VO,VP,VQ,VR,VV,VW,VX,VY,VZ,Ub,Uc,Ud,Ue,Uf,Ug,Ui,Ul,Um,Un,Uo,Uq,Ut,Uu,Uv,Uw,Ux,Uy,Uz,U0,U1,U2,U3,U4,UZ,Ta,Tb,Tc,Td,Te,Tf,Tg,Tm,Tn,Tq,Ts,Tt,Tw,Tz,T0,T1,TC,TD,TE,S4,S5,S6,S8,S9,SA,a1,a2,c1,c2,c3,u1,gp,e73,n0,n1,m1,m2,gk,gl,q1,q2,q3,q4,y1,y2,y3,y4,s1,s2,t1,v1,hg];all_goals tactic=>exact rfl))
  ·rw[hg2]at eb
   simp only[if_true]at eb
   (sym=>(simp[bC,Za,Zb,Zc,Ze,Zf,Zg,Zh,Zk,Zl,Zm,Zp,Zq,Zr,Zv,Zy,Z3,Z4,Z7,Z9,ZG,ZH,ZI,ZJ,ZK,ZL,ZM,ZQ,ZR,ZT,ZU,ZV,ZW,ZX,Ya,Ye,Yf,Yg,Yi,Yj,Yl,Yp,Yq,Ys,Yu,Yv,Yw,Yx,Yz,YU,YX,YZ,Xa,Xb,Xg,Xp,Xq,Xr,Xt,Xu,Xv,Wo,Wx,Wy,Wz,W0,W3,W4,W5,W6,W8,W9,WA,WC,WE,WG,WH,WI,WJ,WK,WL,WM,WN,WO,WP,WQ,WR,WU,WV,Vb,Ve,Vf,Vg,Vi,Vk,Vl,Vr,Vt,Vu,Vw,Vx,Vz,VM,VN,VO,VP,VQ,VR,VV,VW,VX,VY,VZ,Ub,Uc,Ud,Ue,Uf,Ug,Ui,Ul,Um,Un,Uo,Uq,Ut,Uu,Uv,Uw,Ux,Uy,Uz,U0,U1,U2,U3,U4,UZ,Ta,Tb,Tc,Td,Te,Tf,Tg,Tm,Tn,Tq,Ts,Tt,Tw,Tz,T0,T1,TC,TD,TE,S4,S5,S6,S8,S9,SA,a1,a2,c1,c2,c3,u1,gp,e73,n0,n1,m1,m2,gk,gl,q1,q2,q3,q4,y1,y2,y3,y4,s1,s2,t1,v1,hg,eb];all_goals tactic=>exact rfl))
end
section
variable {x:Vn} (ok:x.Ok) {ws:List (List Int)} (hF:∀ (i:Nat) (w:List Int),ws[i]?=some w→∃ ks,w=cZ ks∧aCa x (xR ws i) ks) (hl:ws.length≤16)
abbrev aKs (x:Vn) (ws:List (List Int)) (i:Nat):List AV:=[.pt 0 0,.sl 1 0 1 x.F,wL ws,I ws.length,I (i:Nat)]
include ok hF hl in
theorem aGe {i:Nat} (hi:i<ws.length) :
 aW 0 [2,5,14,15,16] (execW aA 41 0 none (match aDo with | .loop _ a=>a|c=>c) (aV [2,5,14,15,16] (aKs x ws i)) (jA x (zX ws i)))=some (aKs x ws (i+1),jA x (zX ws (i+1))):=by
 have hF16:=ok.F16
 have hp:=aT hF16
 have hsk:=ok.s
 have hnu:=ok.n
 obtain⟨w,hw⟩:=bM hi
 obtain⟨ks,rfl,hk⟩:=hF i w hw
 have gl:=bQ ks
 have hlen:=hk.len
 have hpos:0<ks.length:=List.length_pos_iff.2 hk.ne
 have hld:=hk.leads
 unfold iP at hld
 rw[Bool.and_eq_true,decide_eq_true_eq,Bool.and_eq_true]at hld
 obtain⟨a,ha⟩:=bM hpos
 obtain⟨b,hb⟩:=bM (l:=ks) (i:=ks.length-1) (by omega)
 rw[aR ha,aR hb]at hld
 have haF:=hk.lt a (List.mem_of_getElem? ha)
 have hbF:=hk.lt b (List.mem_of_getElem? hb)
 have ga:=eB ha
 have gb:=eB hb
 have e1:=tH bH (a:=x.sick) (i:=a) (by omega) (by omega)
 have e2:=tH bH (a:=x.nur) (i:=b) (by omega) (by omega)
 rw[hld.2.1]at e1
 rw[hld.2.2]at e2
 simp only[if_true]at e1 e2
 have z1:((a:Int)<0)=False:=eq_false (by omega)
 have z2:((b:Int)<0)=False:=eq_false (by omega)
 have z3:((ks.length:Int)=0)=False:=eq_false (by omega)
 have c1:((0:Int)<(ks.length:Int))=True:=eq_true (by omega)
 have u1:IntKind.i64.wrap ((ks.length:Int)-1)=((ks.length-1:Nat):Int):=by rw[aD (by omega) (by omega)];omega
 have d2:(((ks.length-1:Nat):Int)<(ks.length:Int))=True:=eq_true (by omega)
 have d3:((0:Int)≤((ks.length-1:Nat):Int))=True:=eq_true (by omega)
 have a1:=dH hi
 have a2:=dN hi (by omega)
 have z:=UY (n:=(ks.length:Int))
 have hU:∀ f,(xR ws i).testBit f=true↔0<zX ws i f:=fun f=>aDz hF i f (by omega)
 have hU2:∀ f,zX ws i f≤16:=fun f=>Nat.le_trans (aFw ws i f) (by omega)
 have rd:=fun j (hj:j<ks.length)=>aGf ok (ws:=ws) (i:=i) hk hU hU2 hj
 have c2:((x.F:Int)≤(x.F:Int))=True:=eq_true (by omega)
 have c3:(8*(x.F:Int)≤281474976710656)=True:=eq_true (by omega)
 have c4:((x.F:Int)≤9223372036854775807)=True:=eq_true (by omega)
 have c5:((x.F:Int)).toNat=x.F:=Int.toNat_natCast _
 have c6:((0:Int)≤(x.F:Int))=True:=eq_true (by omega)
 have m0:List.map (AV.int .i64) (List.replicate x.F 0)=fC x.F (eA ks 0):=by
  rw[aGN,←aEQ];simp
 have m1:(fC x.F fun f=>zX ws i f+eA ks 0 f)=fC x.F (zX ws i):=by rw[aGN];rfl
 have m2:(fC x.F fun f=>zX ws i f+eA ks ks.length f)=fC x.F (zX ws (i+1)):=aBG fun f _=>by
  rw[zX,aR hw,fD]
 generalize ks.length-1=n1 at *
 unfold aDo
 dsimp only
 sym =>
  simp[bC,Za,Zb,Zf,Zh,Zl,Zm,Zo,Zv,Z3,Z7,Z9,ZB,ZF,ZG,Ya,Yb,Yf,Yg,Ys,Yw,Yx,YM,Xg,Wx,Wy,Wz,W8,VM,VP,VQ,VX,VY,Uc,Ud,Ue,Uf,Ug,Ui,Uq,Uu,U3,U4,UQ,UR,UZ,Ta,Tb,Tc,Te,Th,Tm,Tn,Tq,Ts,Tt,T0,T1,TJ,a1,hw,gl,c2,c3,c4,c5,c6]
  tactic =>
   unfold aAM
   rw[aE ks.length (fun j=>aKt x ws ks i j) (fun j=>aJn x (zX ws i) ks j)]
   ·(sym=>(simp[bC,Za,Zb,Zf,Zh,Zi,Zl,Zm,Zp,Zr,Zv,Zy,Z3,Z7,Z9,ZF,ZH,ZI,ZJ,ZW,Ya,Yb,Yf,Yg,Yi,Yj,Yl,Yp,Yq,Ys,Yw,Yx,Y8,YU,YZ,Xa,Xb,Xp,Xt,Xu,Xv,Wx,Wy,Wz,W8,W9,WA,WC,WE,WG,WH,WI,WK,WM,WN,WO,WP,WU,WV,Vb,VM,VN,VO,VP,VR,VV,VW,VX,VY,VZ,Ub,Uc,Ud,Ue,Uf,Ug,Uq,Ut,Uv,Uz,U0,U1,U2,UY,UZ,Ta,Tb,Tc,Te,Tm,Tn,Tq,Tr,Tt,Tu,Tw,Ty,Tz,T0,T1,TE,z,z1,z2,z3,c1,u1,d2,d3,ga,gb,e1,e2,gl,m2,a2];all_goals tactic=>exact rfl))
   ·(sym=>(simp[bC,Za,Y9,YU,YZ,Xa,Xb,Xp,Xt,Xu,Xv,Wx,W9,WA,WC,WE,WG,WH,WI,WK,WM,WN,WO,WP,WU,WV,Vb,VM,VN,VO,VV,VW,VX,VY,VZ,Ub,Ug,Ut,Uz,U0,U1,U2,Tz,TE,m0,m1];all_goals tactic=>exact rfl))
   ·exact rd
   ·(sym=>(simp[bC,Za,Zb,Zf,Zh,Zl,Zm,Z3,Ys,VM,VP,VR,VS,Uv,UY,Tm,Tn,Tr,Tt,Tu,T0,z,z1,z2,z3,c1,u1,d2,d3,ga,gb,e1,e2,gl,m2,a2];all_goals tactic=>exact rfl))
end
theorem w41 {x:Vn} (ok:x.Ok) {ws:List (List Int)} (h:zV x ws=0):runW aA 41 [.agg x.c,wL ws] []=some (.bool true,[]):=by
 obtain⟨hl,hF⟩:=aFu ok.F16 h
 have hF16:=ok.F16
 have z:=UY (n:=(ws.length:Int))
 have c2:((x.F:Int)≤(x.F:Int))=True:=eq_true (by omega)
 have c3:(8*(x.F:Int)≤281474976710656)=True:=eq_true (by omega)
 have c4:((x.F:Int)≤9223372036854775807)=True:=eq_true (by omega)
 have c5:((x.F:Int)).toNat=x.F:=Int.toNat_natCast _
 have c6:((0:Int)≤(x.F:Int))=True:=eq_true (by omega)
 have m0:List.map (AV.int .i64) (List.replicate x.F 0)=fC x.F (zX ws 0):=by
  rw[show fC x.F (zX ws 0)=fC x.F (fun _=>0) from rfl,←aEQ];simp
 rw[r41 (by simp)];unfold x41;dsimp only
 sym =>
  simp[bC,Za,Zb,Zf,Zh,Zl,Zm,Zo,Zv,Zz,Z7,ZB,ZF,ZG,Ya,Yb,Yw,Yx,YM,Xg,Xi,Xj,Wc,We,Wg,Wq,Wx,Wy,Wz,W7,W8,VK,VU,VX,VY,Uc,Ud,Ue,Ui,Uq,U3,U4,U9,UA,UK,UL,UQ,UR,UZ,Ta,Te,Th,Tn,Ts,Tt,T0,T1,TJ,c2,c3,c4,c5,c6]
  tactic =>
   unfold aDo
   rw[aE ws.length (fun i=>aKs x ws i) (fun i=>jA x (zX ws i))]
   ·(sym=>(simp[bC,Za,Zb,Zf,Zh,Zl,Zm,Zv,Z3,Ys,YV,Xq,XI,Wd,WG,WK,WM,WN,WO,Vr,V5,V6,V8,V9,VA,VB,VC,VF,VG,VH,VI,VM,VP,VR,VW,VZ,Ub,Uv,Uz,U0,UY,Tm,Tn,Tp,Tr,Tt,Tu,Ty,T0,T1,Sl,z];all_goals tactic=>exact rfl))
   ·(sym=>(simp[bC,Za,Y9,YU,YZ,Xa,Xb,Xp,Xt,Xu,Xv,Wx,W9,WA,WC,WE,WG,WH,WI,WK,WM,WN,WO,WP,WU,WV,Vb,VN,VO,VV,VW,VX,VY,VZ,Ub,Ug,Ut,Uz,U0,U1,U2,Tz,TE,m0];all_goals tactic=>exact rfl))
   ·exact fun i hi=>aGe ok hF hl hi
   ·(sym=>(simp[bC,Za,Zb,Zf,Zh,Zl,Zm,Z3,Ys,VM,VP,VR,VS,Uv,UY,Tm,Tn,Tr,Tt,Tu,T0,z];all_goals tactic=>exact rfl))
theorem aHo {a i j u v:Nat} (hi:(el a)[i]?=some u) (hj:(el a)[j]?=some v) (h:i<j):u<v:=by
 have hp:(el a).Pairwise (· < ·):=List.Pairwise.filter _ List.pairwise_lt_range
 rw[List.pairwise_iff_getElem]at hp
 obtain⟨h1,e1⟩:=List.getElem?_eq_some_iff.1 hi
 obtain⟨h2,e2⟩:=List.getElem?_eq_some_iff.1 hj
 have:=hp i j h1 h2 h
 rw[e1,e2]at this
 exact this
theorem aFN (ks:List Nat) (i:Nat):jV (cZ ks) i=cY ks i:=by
 unfold jV cY cZ
 rw[←List.map_take,List.foldl_map]
 rfl
theorem aDC {a:Nat} (ha:a<65536):cY (el a) (el a).length=a:=by
 apply Nat.eq_of_testBit_eq
 intro i
 rw[Bool.eq_iff_iff,vQ,fM]
 exact⟨fun h=>h.2,fun h=>⟨fO ha h,h⟩⟩
theorem aJy {x:Vn} (ok:x.Ok) {a:Nat} (ha:a<2^x.F) (hf:∀ i,a.testBit i=true→x.fix.testBit i=false):aBM x (cZ (el a))=0∧jV (cZ (el a)) (cZ (el a)).length=a:=by
 have hp:=aT ok.F16
 refine⟨fW _ fun i hi=>?_,by rw[aFN,bQ];exact aDC (by omega)⟩
 rw[bQ]at hi
 obtain⟨k,hk⟩:=bM hi
 have hm:=fM.1 (List.mem_of_getElem? hk)
 have hkF:=eI ha hm.2
 unfold uG
 rw[aR (eB hk)]
 have h1:btw 0 (k:Int) ((x.F:Int)-1)=true:=mG.2 ⟨by omega,by omega⟩
 rw[h1,if_pos rfl]
 have h2:¬(k:Int)≤prC (cZ (el a)) i:=by
  cases i with
  | zero=>show ¬(k:Int) ≤ -1;omega
  | succ i =>
    obtain⟨p,hp'⟩:=bM (l:=el a) (i:=i) (by omega)
    rw[prC,aR (eB hp')]
    have:=aHo hp' hk (by omega)
    omega
 rw[if_neg h2,Int.toNat_natCast,hf k hm.2]
 rfl
theorem aFD {x:Vn} (ok:x.Ok) {a:Nat} (ha:a<2^x.F) (hf:∀ i,a.testBit i=true→x.fix.testBit i=false) :
 runW aA 27 [.agg x.c,nL (cZ (el a))] []=some (I (if fL (cK x) x.sick x.nur a then 0 else 11),[]):=by
 obtain⟨h1,h2⟩:=aJy ok ha hf
 have h:=aNd ok (aHn a) ok.h23
 unfold stE at h
 rw[if_pos h1,h2]at h
 exact h
theorem aHK {a b:Nat} (ha:a<2^63) (hb:b<2^63):cA .xor .i64 (a:Int) (b:Int)=((a^^^b:Nat):Int):=by
 unfold cA
 dsimp only
 rw[dM,dM,jE bH,BitVec.toNat_xor,BitVec.toNat_ofNat,BitVec.toNat_ofNat,Nat.mod_eq_of_lt (by omega),Nat.mod_eq_of_lt (by omega)]
 exact fA bH (Nat.xor_lt_two_pow ha hb)
theorem aHL {a:Nat} (ha:a<65536) (h0:a≠0):cA .and .i64 (a:Int) (-(a:Int))=((2^iL a:Nat):Int):=by
 have hl:=(wJ ha h0).1
 have hpw:(2:Nat)^iL a≤2^15:=Nat.pow_le_pow_right (by omega) (by omega)
 unfold cA
 dsimp only
 rw[dM,jE bH,BitVec.toNat_and,BitVec.toNat_ofNat,BitVec.toNat_ofInt,Nat.mod_eq_of_lt (by omega)]
 rw[show (-(a:Int)%((2^64:Nat):Int)).toNat=2^64-a by omega,aEi ha h0]
 exact fA bH (by omega)
theorem aFj {a b:Nat} (h:a≠b):a^^^b≠0:=by
 intro hz
 apply h
 apply Nat.eq_of_testBit_eq
 intro i
 have:=congrArg (·.testBit i) hz
 simp only[Nat.testBit_xor,Nat.zero_testBit]at this
 cases ha:a.testBit i<;>cases hb:b.testBit i<;>simp_all
theorem aFe {a i:Nat} (ha:a<65536) (hi:i<iL a):a.testBit i=false:=by
 by_cases h0:a=0
 ·rw[h0];simp
 cases h:a.testBit i
 ·rfl
 ·have hm:i∈el a:=fM.2 ⟨fO ha h,h⟩
  obtain⟨j,hj⟩:=List.getElem?_of_mem hm
  have h00:(el a)[0]?=some (iL a):=by rw[oK ha h0];rfl
  by_cases hj0:j=0
  ·subst hj0;rw[h00]at hj;simp at hj;omega
  ·have:=aHo h00 hj (by omega);omega
theorem aJM {a p:Nat} (h:a.testBit p=true):a&&&2^p=2^p:=by
 apply Nat.eq_of_testBit_eq
 intro i
 rw[Nat.testBit_and,oC]
 by_cases hp:p=i
 ·subst hp;rw[h];simp
 ·simp[hp]
theorem aEP {x:Vn} {c o:Nat} (hc:isCut x c) (hc2:c<65536) (ho:Cuts x 0 o) (hn:aZ o=aZ c) (hne:o≠c):c&&&2^iL (o^^^c)=2^iL (o^^^c):=by
 have hx:o^^^c<65536:=Nat.xor_lt_two_pow (n:=16) ho.lt hc2
 have h0:=aFj hne
 have hl:=wJ hx h0
 apply aJM
 have h2:=hl.2
 rw[Nat.testBit_xor]at h2
 cases hcb:c.testBit (iL (o^^^c))
 ·rw[hcb]at h2
  have:=hc.first o ho hn (iL (o^^^c)) (fun j hj=>?_) (by simpa using h2)
  ·rw[hcb]at this;exact this
  ·have:=aFe hx hj
   rw[Nat.testBit_xor]at this
   cases ho:o.testBit j<;>cases hc:c.testBit j<;>simp_all
 ·rfl
section
variable {x:Vn} (ok:x.Ok) {c:Nat} (hc:isCut x c)
abbrev s8 (c:Nat) (ws:List (List Int)) (i:Nat):List AV:=[.pt 0 0,nL (cZ (el c)),I 0,wL ws,I 0,I (aZ c),I (cY (el c) i:Nat),nL (cZ (el c)),I (el c).length,I (i:Nat)]
include ok hc in
theorem aIp {ws:List (List Int)} {i:Nat} (hi:i<(el c).length) :
 aW 0 [3,4,5,6,7,8,11,55,56,57] (execW aA 8 0 none (match aFn with | .loop _ a=>a|c=>c) (aV [3,4,5,6,7,8,11,55,56,57] (s8 c ws i)) (xW x))=some (s8 c ws (i+1),xW x):=by
 have hF:=ok.F16
 have hp:=aT hF
 have hfx:=ok.f
 have hlt:=hc.lt
 obtain⟨k,hk⟩:=bM hi
 have hm:=fM.1 (List.mem_of_getElem? hk)
 have hkF:=eI hlt hm.2
 have hfk:=hc.min.1.free k hm.2
 have hlen:=sY c
 have gl:=bQ (el c)
 have gk:=eB hk
 have a1:=dH hi
 have a2:=dN hi (by omega)
 have n0:((k:Int)<0)=False:=eq_false (by omega)
 have m1:((x.F:Int)≤(k:Int))=False:=eq_false (by omega)
 have eb:=tH bH (a:=x.fix) (i:=k) (by omega) (by omega)
 rw[hfk]at eb
 simp only[Bool.false_eq_true,if_false]at eb
 have e1:=fS bH (i:=k) (by omega)
 have hs:cY (el c) i<2^x.F:=aAg (fun k hk=>eI hlt (fM.1 hk).2) i
 have p1:(2:Nat)^k≤2^16:=Nat.pow_le_pow_right (by omega) (by omega)
 have o1:=cT bH (a:=cY (el c) i) (b:=2^k) (by omega) (by omega)
 rw[←qI hk]at o1
 have hst:i=0∨∃ p,(el c)[i-1]?=some p∧p<k∧0<i:=by
  by_cases h:i=0
  ·exact .inl h
  ·obtain⟨p,hp'⟩:=bM (l:=el c) (i:=i-1) (by omega)
   exact .inr ⟨p,hp',aHo hp' hk (by omega),by omega⟩
 unfold s8
 generalize cY (el c) (i+1)=s1 at *
 generalize cY (el c) i=s0 at *
 generalize aZ c=cc at *
 rcases hst with rfl|⟨p,hp',hlt',hi0⟩
 ·have a1:((0:Int)<((el c).length:Int))=True:=a1
  generalize cZ (el c)=os at *
  generalize (el c).length=ll at *
  unfold aFn
  dsimp only
  (sym=>(simp[Za,Zb,Zf,Zh,Zl,Zm,Zp,Zr,Zs,Zv,Zy,Z3,Z7,Z9,ZG,ZW,Ya,Yf,Yg,Yi,Yl,Ym,Yo,Yp,Yq,Ys,Yu,Yv,Yx,Yz,Y8,Y9,YB,YU,YZ,Xb,Xp,Xt,Xv,Wx,Wy,Wz,W8,W9,WC,WE,WG,WH,WI,WK,WM,WN,WO,WP,WU,WV,Vb,VM,VN,VO,VP,VQ,VR,VV,VW,VY,VZ,Ub,Uc,Ud,Ue,Uf,Ug,Uq,Ut,Uu,Uv,Uz,U0,U1,U2,UZ,Ta,Tb,Tc,Te,Tm,Tn,Tq,Ts,Tt,Tw,Tz,T0,T1,TE,a1,gl,gk,n0,m1,eb,e1,o1];all_goals tactic=>exact rfl))
 ·have c1:((0:Int)<(i:Int))=True:=eq_true (by omega)
  have u1:IntKind.i64.wrap ((i:Int)-1)=((i-1:Nat):Int):=by rw[aD (by omega) (by omega)];omega
  have gp:=eB hp'
  have c2:(((i-1:Nat):Int)<((el c).length:Int))=True:=eq_true (by omega)
  have c3:((0:Int)≤((i-1:Nat):Int))=True:=eq_true (by omega)
  have m2:((k:Int)≤(p:Int))=False:=eq_false (by omega)
  generalize i-1=j1 at *
  generalize cZ (el c)=os at *
  generalize (el c).length=ll at *
  unfold aFn
  dsimp only
  (sym=>(simp[Za,Zb,Zf,Zh,Zl,Zm,Zp,Zq,Zr,Zv,Zy,Z3,Z7,Z9,ZG,ZV,ZW,Ya,Yf,Yg,Yi,Yj,Yl,Ym,Yo,Yp,Yq,Ys,Yt,Yu,Yv,Yw,Yx,YU,YZ,Xb,Xp,Xt,Xv,Wx,Wy,Wz,W8,W9,WC,WE,WG,WH,WI,WK,WM,WN,WO,WP,WU,WV,Vb,VM,VN,VO,VP,VQ,VR,VV,VW,VY,VZ,Ub,Uc,Ud,Ue,Uf,Ug,Uq,Ut,Uu,Uv,Uz,U0,U1,U2,UZ,Ta,Tb,Tc,Te,Tm,Tn,Tq,Ts,Tt,Tw,Tz,T0,T1,TE,a1,a2,gl,gk,n0,m1,eb,e1,o1,c1,c2,c3,u1,gp,m2];all_goals tactic=>exact rfl))
include ok hc in
theorem aIo {o:Nat} (ho:o<2^x.F) :
 aW 0 [3,8,11,14] (execW aA 8 0 none (match aAL with | .loop _ a=>a|c=>c) (aV [3,8,11,14] [.pt 0 0,I (aZ c),I (c:Nat),I (o:Nat)]) (xW x))=some ([.pt 0 0,I (aZ c),I (c:Nat),I (o+1:Nat)],xW x):=by
 have hF:=ok.F16
 have hp:=aT hF
 have hfx:=ok.f
 have hlt:=hc.lt
 have e:=fS bH (i:=x.F) (by omega)
 have n0:((x.F:Int)<0)=False:=eq_false (by omega)
 have a1:((o:Int)<((2^x.F:Nat):Int))=True:=eq_true (by omega)
 have a2:=dN ho (by omega)
 have e42:=w42 (a:=o) (by omega)
 have e40:=w40 ok (s:=o) (by omega)
 have o1:=iD bH (a:=o) (b:=x.fix) (by omega) (by omega)
 by_cases h1:aZ o=aZ c
 ·have d1:((aZ o:Int)=(aZ c:Int))=True:=eq_true (by omega)
  by_cases h2:o&&&x.fix=0
  ·have d2:(((o&&&x.fix:Nat):Int)=0)=True:=eq_true (by omega)
   by_cases h3:o=c
   ·have d3:((o:Int)=(c:Int))=True:=eq_true (by omega)
    unfold aAL
    dsimp only
    (sym=>(simp[Za,Zb,Zf,Zg,Zh,Zj,Zl,Zm,Zp,Zr,Zt,Zv,Zy,Z3,Z7,ZG,ZO,ZP,ZT,ZU,ZV,ZW,Ya,Yi,Yl,Yo,Yq,Yr,Ys,Yx,YU,Xb,Xp,Xv,Wx,Wy,Wz,W6,W8,W9,WC,WE,WG,WH,WI,WJ,WK,WL,WM,WN,WO,WP,WQ,WR,WU,WV,Vb,Ve,Vf,Vg,Vr,Vt,Vu,Vw,Vx,Vz,VM,VN,VO,VP,VQ,VV,VW,VY,VZ,Ub,Uc,Ud,Ug,Ul,Ut,Uu,Uy,Uz,U0,U1,U2,UZ,Ta,Te,Tm,Tn,Tq,Tr,Ts,Tt,Tu,Ty,Tz,T0,T1,TE,S4,S5,S6,S8,S9,SA,e,n0,a1,a2,e42,o1,d1,d2,d3];all_goals tactic=>exact rfl))
   ·have d3:((o:Int)=(c:Int))=False:=eq_false (by omega)
    cases h4:fL (cK x) x.sick x.nur o
    ·rw[h4]at e40
     unfold aAL
     dsimp only
     (sym=>(simp[Za,Zb,Zf,Zg,Zh,Zj,Zl,Zm,Zp,Zr,Zv,Zy,Z3,Z7,ZG,ZO,ZP,ZT,ZU,ZW,Ya,Yi,Yl,Yo,Yq,Yr,Ys,Yx,YU,YX,YZ,Xb,Xp,Xq,Xr,Xt,Xv,Wx,Wy,Wz,W3,W4,W5,W6,W8,W9,WC,WE,WG,WH,WI,WJ,WK,WL,WM,WN,WO,WP,WQ,WR,WU,WV,Vb,Ve,Vf,Vg,Vr,Vt,Vu,Vw,Vx,Vz,VM,VN,VO,VP,VQ,VV,VW,VY,VZ,Ub,Uc,Ud,Ug,Ul,Um,Ut,Uu,Uv,Uy,Uz,U0,U1,U2,UZ,Ta,Td,Te,Tm,Tn,Tq,Tr,Ts,Tt,Tu,Ty,Tz,T0,T1,TE,S4,S5,S6,S8,S9,SA,e,n0,a1,a2,e42,e40,o1,d1,d2,d3];all_goals tactic=>exact rfl))
    ·rw[h4]at e40
     have hcut:Cuts x 0 o:=(fR ok (by omega)).1 (by unfold nO;rw[h4,decide_eq_true h2];rfl)
     have hfl:=aEP hc (by omega) hcut h1 h3
     have hx:o^^^c<65536:=Nat.xor_lt_two_pow (n:=16) (by omega) (by omega)
     have hx0:=aFj h3
     have hl:=(wJ hx hx0).1
     have x1:=aHK (a:=o) (b:=c) (by omega) (by omega)
     have x2:IntKind.i64.wrap (0-((o^^^c:Nat):Int)) = -((o^^^c:Nat):Int):=by rw[aD (by omega) (by omega)];omega
     have x3:=aHL hx hx0
     have pl:(2:Nat)^iL (o^^^c)≤2^16:=Nat.pow_le_pow_right (by omega) (by omega)
     have pz:=Nat.two_pow_pos (iL (o^^^c))
     have x4:=iD bH (a:=c) (b:=2^iL (o^^^c)) (by omega) (by omega)
     rw[hfl]at x4
     have x5:(((2^iL (o^^^c):Nat):Int)=0)=False:=eq_false (by omega)
     generalize 2^iL (o^^^c)=lw at *
     generalize o^^^c=dx at *
     unfold aAL
     dsimp only
     (sym=>(simp[Za,Zb,Zf,Zg,Zh,Zj,Zl,Zm,Zp,Zr,Zv,Zy,Z3,Z5,Z7,ZG,ZO,ZP,ZT,ZU,ZW,ZY,Ya,Yi,Yl,Yn,Yo,Yq,Yr,Ys,Yx,YU,YX,YZ,Xb,Xp,Xq,Xr,Xt,Xv,Wx,Wy,Wz,W3,W4,W5,W6,W8,W9,WC,WE,WG,WH,WI,WJ,WK,WL,WM,WN,WO,WP,WQ,WR,WU,WV,Vb,Ve,Vf,Vg,Vr,Vt,Vu,Vw,Vx,Vz,VM,VN,VO,VP,VQ,VR,VV,VW,VY,VZ,Ub,Uc,Ud,Ug,Ul,Ut,Uu,Uv,Uy,Uz,U0,U1,U2,UZ,Ta,Td,Te,Tm,Tn,Tq,Ts,Tt,Tw,Tz,T0,T1,TE,S4,S5,S6,S8,S9,SA,e,n0,a1,a2,e42,e40,o1,d1,d2,d3,x1,x2,x3,x4,x5];all_goals tactic=>exact rfl))
  ·have d2:(((o&&&x.fix:Nat):Int)=0)=False:=eq_false (by omega)
   unfold aAL
   dsimp only
   (sym=>(simp[Za,Zb,Zf,Zg,Zh,Zj,Zl,Zm,Zp,Zr,Zt,Zv,Zy,Z3,Z7,ZG,ZO,ZP,ZT,ZU,ZV,ZW,Ya,Yi,Yl,Yo,Yr,Ys,Yx,YU,Xb,Xp,Xv,Wx,Wy,Wz,W6,W8,W9,WC,WE,WG,WH,WI,WJ,WK,WL,WM,WN,WO,WP,WQ,WR,WU,WV,Vb,Ve,Vf,Vg,Vr,Vt,Vu,Vw,Vx,Vz,VM,VN,VO,VP,VQ,VV,VW,VY,VZ,Ub,Uc,Ud,Ug,Ul,Um,Ut,Uu,Uv,Uy,Uz,U0,U1,U2,UZ,Ta,Te,Tm,Tn,Tq,Tr,Ts,Tt,Tu,Ty,Tz,T0,T1,TE,S4,S5,S6,S8,S9,SA,e,n0,a1,a2,e42,o1,d1,d2];all_goals tactic=>exact rfl))
 ·have d1:((aZ o:Int)=(aZ c:Int))=False:=eq_false (by omega)
  unfold aAL
  dsimp only
  (sym=>(simp[Za,Zb,Zf,Zg,Zh,Zj,Zl,Zm,Zp,Zt,Zv,Zy,Z3,Z7,ZG,ZO,ZP,ZT,ZU,ZV,Ya,Yi,Yo,Yr,Ys,Yx,YU,Xb,Xp,Xv,Wx,Wy,Wz,W6,W8,W9,WC,WE,WG,WH,WI,WJ,WK,WL,WM,WN,WO,WP,WQ,WR,WU,WV,Vb,Ve,Vf,Vg,Vr,Vt,Vu,Vw,Vx,Vz,VM,VN,VO,VP,VQ,VV,VW,VY,VZ,Ub,Uc,Ud,Ug,Um,Ut,Uu,Uv,Uy,Uz,U0,U1,U2,UZ,Ta,Te,Tm,Tn,Tq,Tr,Ts,Tt,Tu,Ty,Tz,T0,T1,TE,S4,S5,S6,S8,S9,SA,e,n0,a1,a2,e42,d1];all_goals tactic=>exact rfl))
end
theorem w8 {l:La} (hl:l.Ok):runW aA 8 [.agg l.c] []=some (.bool true,[]):=by
 have e36:=w36 hl
 have ok:=l.md_ok
 generalize l.md=x at *
 have hF:=ok.F16
 have hp:=aT hF
 cases hh:lY x
 ·have g29:=aNc ok ok.h23 hh
  have g33:=aNb ok hh
  have g39:=aNa ok hh
  rw[r8 (by simp)];unfold x8;dsimp only
  (sym=>(simp[Za,Zb,Zc,Zf,Zg,Zh,Zj,Zl,Zm,Zo,Zp,Zq,Zv,Zw,Zy,Zz,Z3,ZE,ZF,ZG,ZK,ZL,ZO,ZP,ZT,ZU,ZV,Yb,Yh,Yq,Ys,Y9,YU,YV,YX,YZ,Xg,Xi,Xj,Xm,Xp,Xq,Xr,Xs,Xt,XI,Wc,Wd,We,Wg,Wq,Wx,Wy,Wz,W0,W3,W4,W5,W6,W7,W8,WG,WJ,WK,WL,WM,WN,WO,WQ,WR,Ve,Vf,Vg,Vr,Vt,Vu,Vw,Vx,Vz,V5,V6,V8,V9,VA,VB,VC,VF,VG,VH,VI,VK,VP,VQ,VU,VV,VW,VX,VY,VZ,Ub,Uc,Ud,Ui,Uq,Uu,Uy,Uz,U0,U1,U2,U3,U4,U9,UA,UB,UK,UL,UZ,Ta,Td,Tf,Tg,Th,Tm,Tn,Tp,Tt,Tv,T0,T1,Sl,S4,S5,S6,S8,S9,SA,e36,g29,g33,g39,aDt];all_goals tactic=>exact rfl))
 ·obtain⟨c,hc,g29⟩:=w29 ok ok.h23 hh
  obtain⟨n,ws,hn,hws,hv,g33⟩:=w33 ok hh
  obtain⟨m,hm,_,g39⟩:=w39 ok hh
  have hlc:Lea x 0 (aZ c):=⟨⟨c,hc.lt,hc.min.1,rfl⟩,hc.min.2⟩
  obtain rfl:=hm.eq hlc
  obtain rfl:=hn.eq hlc
  have hwl:=zU hF hv
  have g35:=w35 ok (ws:=ws) (by omega) (fun w hw=>by have:=hwl.2 w hw;omega)
  rw[hv]at g35
  have g41:=w41 ok hv
  have hst:fL (cK x) x.sick x.nur c=true:=by
   have:=(fR ok (show c<65536 by have:=hc.lt;omega)).2 hc.min.1
   unfold nO at this
   rw[Bool.and_eq_true]at this
   exact this.2
  have g27:=aFD ok hc.lt hc.min.1.free
  rw[hst,if_pos rfl]at g27
  have g40:=w40 ok (s:=c) (by have:=hc.lt;omega)
  rw[hst]at g40
  have gl:=bQ (el c)
  have gc:(el c).length=aZ c:=rfl
  have z:=UY (n:=((el c).length:Int))
  have zN:(((2^x.F:Nat):Int)<((2^x.F:Nat):Int))=False:=eq_false (by omega)
  have e:=fS bH (i:=x.F) (by omega)
  have n0:((x.F:Int)<0)=False:=eq_false (by omega)
  have ln:((aZ c:Int)<0)=False:=eq_false (by omega)
  have sF:=aDC (a:=c) (by have:=hc.lt;omega)
  have s0:cY (el c) 0=0:=rfl
  have rda:=fun i (hi:i<(el c).length)=>aIp ok hc (ws:=ws) hi
  have rdb:=fun o (ho:o<2^x.F)=>aIo ok hc ho
  generalize 2^x.F=N at *
  generalize rL x (aZ c) N=cn at *
  generalize (List.range x.F).map (pY x (aZ c) N)=wl at *
  rw[r8 (by simp)];unfold x8;dsimp only
  sym =>
   simp[Za,Zb,Zc,Zf,Zg,Zh,Zj,Zl,Zm,Zo,Zv,Zw,Zz,Z3,ZE,ZF,ZG,ZK,ZL,ZO,ZP,ZT,ZU,Yb,Yh,Ys,YU,YX,YZ,Xg,Xi,Xj,Xm,Xp,Xr,Xs,Xt,Wc,We,Wg,Wq,Wx,Wy,Wz,W0,W3,W4,W5,W6,W7,W8,WG,WJ,WL,WQ,WR,Ve,Vf,Vg,Vr,Vt,Vu,Vw,Vx,Vz,VK,VP,VR,VU,VV,VW,VX,VY,VZ,Uc,Ud,Ue,Ui,Uq,Uv,Uy,Uz,U0,U1,U2,U3,U4,U9,UA,UB,UK,UL,UZ,Ta,Td,Tf,Tg,Th,Tm,Tn,Tq,Ts,Tt,T0,T1,S4,S5,S6,S8,S9,SA,e36,g29,g33,g39,ln,gl]
   tactic =>
    unfold aFn
    rw[aE (el c).length (fun i=>s8 c ws i) (fun _=>xW x)]
    ·unfold s8
     rw[sF]
     sym =>
      simp[Za,Zb,Zf,Zg,Zh,Zj,Zl,Zm,Zp,Zr,Zv,Zy,Z3,Z4,ZF,ZG,ZO,ZP,ZT,ZU,ZW,ZX,Yb,Yr,Ys,YU,YX,YZ,Xp,Xq,Xr,Xt,XL,Wg,Wx,Wy,Wz,W3,W4,W5,W6,WG,WJ,WL,WQ,WR,Ve,Vf,Vg,Vr,Vt,Vu,Vv,Vw,Vx,Vz,VM,VP,VR,VV,VW,VY,VZ,Uc,Ud,Ue,Ul,Uu,Uv,Uy,Uz,U0,U1,U2,UY,UZ,Ta,Td,Tm,Tn,Tq,Tr,Ts,Tt,Tu,Ty,T0,T1,Sl,S4,S5,S6,S7,S8,S9,SA,z,gl,gc,hws,g40,g27,g41,g35]
      tactic =>
       unfold aAL
       rw[aE N (fun o=>[.pt 0 0,I (aZ c),I (c:Nat),I (o:Nat)]) (fun _=>xW x)]
       ·(sym=>(simp[Za,Zb,Zf,Zh,Zl,Zm,Zv,Z3,Z7,ZG,ZO,ZP,ZT,ZU,Ya,Yo,Ys,Yx,YV,Xq,XI,Wd,Wx,Wy,Wz,W6,W8,WG,WJ,WK,WL,WM,WN,WO,WQ,WR,Ve,Vf,Vg,Vr,V5,V6,V8,V9,VA,VB,VC,VF,VG,VH,VI,VM,VP,VR,VW,VZ,Ub,Uc,Ud,Uv,Uy,Uz,U0,U1,UY,UZ,Ta,Te,Tm,Tn,Tp,Tr,Tt,Tu,Ty,T0,T1,Sl,e,n0,zN,aDt];all_goals tactic=>exact rfl))
       ·(sym=>(simp[Za,Y9,YU,Xb,Xp,Xv,Wx,W9,WC,WE,WG,WH,WI,WK,WM,WN,WO,WP,WU,WV,Vb,VM,VN,VO,VV,VW,VY,VZ,Ub,Ug,Ut,Uz,U0,U1,U2,Tz,TE,S5,S7];all_goals tactic=>exact rfl))
       ·exact rdb
       ·(sym=>(simp[Za,Zb,Zf,Zh,Zl,Zm,Zv,Z3,Z7,ZG,Ya,Yo,Ys,Yx,Wx,Wy,Wz,W8,VM,VP,VR,VS,Uv,UY,UZ,Ta,Te,Tm,Tn,Tr,Tt,Tu,T0,T1,e,n0,zN];all_goals tactic=>exact rfl))
    ·unfold s8
     rw[s0]; (sym=>(simp[Za,Y9,YU,YZ,Xb,Xp,Xt,Xv,Wx,W9,WC,WE,WG,WH,WI,WK,WM,WN,WO,WP,WU,WV,Vb,VN,VO,VV,VW,VY,VZ,Ub,Ug,Ut,Uz,U0,U1,U2,Tz,TE,gl];all_goals tactic=>exact rfl))
    ·exact rda
    ·unfold s8
     rw[sF]; (sym=>(simp[Za,Zb,Zf,Zh,Zl,Zm,Z3,Ys,VM,VP,VR,VS,Uv,UY,Tm,Tn,Tr,Tt,Tu,T0,z];all_goals tactic=>exact rfl))
end Go.Proofs.YtiabjdfdkiijmaaDoor
