/- Parts of a proof, joined: K85 K86 K87 K88 K89 K90 K91 K92 K93 K94 K95 K96 K97 K98 K99 K100 K101 K102 K103 K104 K105 K106 K107 K108 K109 K110 K111 K112 K113 K114. No statement of the seed is proved here. -/
import Derived.Test.YtiabjdfdkiijmaaDoorI6
set_option linter.unusedSimpArgs false
set_option linter.unusedVariables false
set_option linter.unusedSectionVars false
namespace Go.Proofs.YtiabjdfdkiijmaaDoor
open Go Go.DL
set_option maxRecDepth 100000
set_option maxHeartbeats 4000000
theorem w36 {l:La} (ok:l.Ok):runW aA 36 [.agg l.c] []=some (.agg l.md.c,[]):=by
 have hk:=l.k_lt
 have v0:=wr8 ok.F
 have v1:=wr8 ok.s
 have v2:=wr8 ok.n
 have v3:=wr8 ok.f
 have q0:jZ (l.F:Int) 7=((l.F%7:Nat):Int):=aY l.F 7
 have q1:IntKind.i64.wrap (2+((l.F%7:Nat):Int))=(l.k:Int):=by unfold La.k;rw[aD (by omega) (by omega)];omega
 have n0:((l.k:Int)<0)=False:=eq_false (by omega)
 have e:=jQ bY (i:=l.k) (by omega)
 have pz:(((2^l.k:Nat):Int)=0)=False:=eq_false (by have:=Nat.two_pow_pos l.k;omega)
 have q2:=aY l.s (2^l.k)
 have q3:=aY l.n (2^l.k)
 have q4:=aY l.f (2^l.k)
 have rda:=fun j (h1:j<l.bs.length) (h2:j<12)=>aHm ok (S:=(l.s%2^l.k:Nat)) (N:=(l.n%2^l.k:Nat)) (X:=(l.f%2^l.k:Nat)) h1 h2
 obtain⟨mb,hmb⟩:∃ m,m=min 12 l.bs.length:=⟨_,rfl⟩
 obtain⟨mp,hmp⟩:∃ m,m=min 5 l.ps.length:=⟨_,rfl⟩
 have rdb:=fun j (h1:j<l.ps.length) (h2:j<5)=>aHl ok (S:=(l.s%2^l.k:Nat)) (N:=(l.n%2^l.k:Nat)) (X:=(l.f%2^l.k:Nat)) (zA l mb) h1 h2
 have B0:zA l 0=[]:=rfl
 have P0:tH l 0=[]:=rfl
 have hB:zA l mb=(l.md.bs).map bI:=by
  show _=List.map bI ((l.bs.take 12).map (toB l.k))
  rw[zA,hmb,show l.bs.take (min 12 l.bs.length)=l.bs.take 12 by rw[←List.take_take,List.take_length]]
 have hP:tH l mp=(l.md.ps).map pI:=by
  show _=List.map pI ((l.ps.take 5).map (toP l.k))
  rw[tH,hmp,show l.ps.take (min 5 l.ps.length)=l.ps.take 5 by rw[←List.take_take,List.take_length]]
 have hres:(AV.agg l.md.c) = .agg [I l.k,.fs ((zA l mb).map qR),.fs ((tH l mp).map pR),I (l.s%2^l.k:Nat),I (l.n%2^l.k:Nat),I (l.f%2^l.k:Nat)]:=by rw[hB,hP];rfl
 have zb:(mb<l.bs.length∧mb<12)∨True:=.inr trivial
 have cb:=aNX (zA l mb)
 have cp:=aNY (tH l mp)
 have lb:=aIV (zA l mb)
 have lp:=aIW (tH l mp)
 have stb:((mb:Int)<(l.bs.length:Int))=False∨((mb:Int)<(l.bs.length:Int))=True∧((mb:Int)<12)=False:=by
  by_cases h:mb<l.bs.length
  ·exact .inr ⟨eq_true (by omega),eq_false (by omega)⟩
  ·exact .inl (eq_false (by omega))
 have stp:((mp:Int)<(l.ps.length:Int))=False∨((mp:Int)<(l.ps.length:Int))=True∧((mp:Int)<5)=False:=by
  by_cases h:mp<l.ps.length
  ·exact .inr ⟨eq_true (by omega),eq_false (by omega)⟩
  ·exact .inl (eq_false (by omega))
 rw[hres]
 clear hres hB hP
 have rda:∀ j,j<mb→_:=fun j hj=>rda j (by omega) (by omega)
 have rdb:∀ j,j<mp→_:=fun j hj=>rdb j (by omega) (by omega)
 generalize hS:l.s%2^l.k=S at *
 generalize hN:l.n%2^l.k=N at *
 generalize hX:l.f%2^l.k=X at *
 generalize 2^l.k=p2 at *
 generalize l.F%7=r7 at *
 generalize hBB:zA l mb=BB at *
 generalize hPP:tH l mp=PP at *
 have stb':=stb
 have stp':=stp
 rw[r36 (by simp)];unfold x36;dsimp only
 sym =>
  simp[aM,aN,bL,bS,bR,Za,Zb,Zc,Zd,Ze,Zf,Zh,Zi,Zl,Zm,Zo,Zv,Zw,Zz,Z0,Z3,Z7,Z8,ZH,ZI,ZK,ZL,ZN,ZO,Yb,Yc,Yl,Yq,Yz,YT,Xi,Xk,Xl,Xo,We,Wg,Wi,Wq,Ws,Wy,Wz,W0,W3,W4,W5,W7,W8,W9,WA,Vk,VN,VX,VY,VZ,Ua,Ub,Uc,Uf,Ug,Ul,Uq,Ur,Ut,Uy,Uz,U0,U6,U7,UC,UD,UE,UF,UG,UH,UN,UO,Td,Te,Ti,Tj,Tk,Tl,Ts,Tt,Tx,Ty,T6,T7,Ss,v0,v1,v2,v3,q0,q1,n0,e,pz,q2,q3,q4]
  tactic =>
   unfold aEe
   rw[aE mb (fun j=>[.pt 0 0,.pt 1 0,I l.k,.pt 2 0,I (j:Nat)]) (fun j=>gLa l S N X (zA l j) []++gLb (zA l j) [])]
   ·rw[hBB]
    rcases stb with sb|⟨sb,sb2⟩
    ·rcases BB with _|⟨b,q⟩
     ·sym =>
      simp[aM,aN,bL,bS,bR,Za,Zb,Zf,Zh,Zl,Zm,Zp,Zs,Zv,Zy,Z3,Z8,ZG,ZH,ZX,Yc,Ye,Yu,Wz,W0,W3,WA,VP,VS,VU,VZ,Uc,Uh,Uy,Td,Te,Ti,Ts,Tt,Tw,Tx,Ty,Tz,T4,T6,T7,sb]
      tactic =>
       unfold wK
       rw[aE mp (fun j=>[.pt 0 0,.pt 1 0,I l.k,.pt 2 0,I (j:Nat)]) (fun j=>gLa l S N X [] (tH l j)++gLb [] (tH l j))]
       ·rw[hPP]
        rcases stp with sp|⟨sp,sp2⟩
        ·rcases PP with _|⟨p,r⟩
         ·(sym=>(simp[aM,aN,bL,bS,bR,Za,Zb,Zc,Zf,Zh,Zl,Zm,Zp,Zs,Zv,Zy,Z3,Z8,ZG,ZH,ZL,ZM,ZX,Yc,Ye,Yu,YX,YZ,Xb,Xi,Xo,Xr,Xt,Xv,XJ,XL,XQ,We,Wg,Wm,Ws,Wz,W0,W3,W4,W5,W6,W7,W8,WA,WI,WM,WO,WP,WQ,Vu,V8,V9,VB,VC,VD,VE,VF,VI,VJ,VK,VM,VP,VS,VU,VZ,Ub,Uc,Ue,Uf,Ug,Uh,Ul,Ut,Uy,U2,U3,U4,U5,U6,U7,U8,U9,UC,UD,UE,Td,Te,Th,Ti,Tj,Tk,Ts,Tt,Tu,Tw,Ty,Tz,T4,T6,T7,Su,sp];all_goals tactic=>exact rfl))
         ·have cp:bZ (cP (p::r)) 0 3 (r.length+1)=(p::r).map pR:=cp
          have c3:((r.length+1)*3≤(cP (p::r)).length)=True:=eq_true (by rw[lp];simp)
          (sym=>(simp[aM,aN,bL,bS,bR,Za,Zb,Zc,Zf,Zh,Zl,Zm,Zp,Zs,Zv,Zy,Z3,Z8,ZG,ZH,ZL,ZM,ZX,Yc,Ye,Yu,YX,YZ,Xb,Xi,Xl,Xm,Xo,Xr,Xt,Xv,XJ,XL,XO,XQ,XX,XY,Wb,Wd,We,Wg,Wi,Wm,Ws,Wz,W0,W3,W4,W5,W6,W7,W8,WA,WI,WM,WO,WP,WQ,Vr,Vs,Vt,Vu,Vv,V4,V5,V6,V8,V9,VB,VC,VD,VE,VF,VI,VJ,VK,VM,VP,VS,VU,VY,VZ,Ua,Ub,Uc,Ue,Uf,Ug,Uh,Ul,Un,Ut,Uy,U2,U3,U4,U5,U6,U7,U8,U9,UA,UB,UC,UD,UE,Td,Te,Th,Ti,Tj,Tk,Ts,Tt,Tu,Tw,Ty,Tz,T4,T6,T7,TJ,Su,Sv,Sw,sp,cp,c3];all_goals tactic=>exact rfl))
        ·rcases PP with _|⟨p,r⟩
         ·(sym=>(simp[aM,aN,bL,bS,bR,Za,Zb,Zc,Zf,Zh,Zl,Zm,Zp,Zq,Zv,Zy,Z3,Z8,ZG,ZH,ZL,ZM,ZW,Yc,Ye,Yu,YX,YZ,Xb,Xi,Xo,Xr,Xt,Xv,XJ,XL,XQ,We,Wg,Wm,Ws,Wz,W0,W3,W4,W5,W6,W7,W8,WA,WI,WM,WO,WP,WQ,Vu,V8,V9,VB,VC,VD,VE,VF,VI,VJ,VK,VM,VP,VS,VU,VZ,Ub,Uc,Ue,Uf,Ug,Uh,Ul,Ut,Ux,Uy,U2,U3,U4,U5,U6,U7,U8,U9,UC,UD,UE,Td,Te,Th,Ti,Tj,Tk,Ts,Tt,Tu,Tw,Ty,Tz,T4,T6,T7,Su,sp,sp2];all_goals tactic=>exact rfl))
         ·have cp:bZ (cP (p::r)) 0 3 (r.length+1)=(p::r).map pR:=cp
          have c3:((r.length+1)*3≤(cP (p::r)).length)=True:=eq_true (by rw[lp];simp)
          (sym=>(simp[aM,aN,bL,bS,bR,Za,Zb,Zc,Zf,Zh,Zl,Zm,Zp,Zq,Zv,Zy,Z3,Z8,ZG,ZH,ZL,ZM,ZW,Yc,Ye,Yu,YX,YZ,Xb,Xi,Xl,Xm,Xo,Xr,Xt,Xv,XJ,XL,XO,XQ,XX,XY,Wb,Wd,We,Wg,Wi,Wm,Ws,Wz,W0,W3,W4,W5,W6,W7,W8,WA,WI,WM,WO,WP,WQ,Vr,Vs,Vt,Vu,Vv,V4,V5,V6,V8,V9,VB,VC,VD,VE,VF,VI,VJ,VK,VM,VP,VS,VU,VY,VZ,Ua,Ub,Uc,Ue,Uf,Ug,Uh,Ul,Un,Ut,Ux,Uy,U2,U3,U4,U5,U6,U7,U8,U9,UA,UB,UC,UD,UE,Td,Te,Th,Ti,Tj,Tk,Ts,Tt,Tu,Tw,Ty,Tz,T4,T6,T7,TJ,Su,Sv,Sw,sp,sp2,cp,c3];all_goals tactic=>exact rfl))
       ·rw[P0]; (sym=>(simp[aM,aN,bL,bS,bR,Za,YB,YX,Xd,Xr,Xx,Wz,WB,WC,WF,WG,WI,WJ,WK,WM,WO,WP,WQ,WR,WW,WX,Vd,VP,VQ,VR,VY,VZ,Ua,Ub,Uc,Ue,Uj,Uw,U2,U3,U4,U5,T5,TK];all_goals tactic=>exact rfl))
       ·exact rdb
       ·rw[hPP]
        rcases stp with sp|⟨sp,sp2⟩
        ·rcases PP with _|⟨p,r⟩
         ·(sym=>(simp[aM,aN,bL,bS,bR,Za,Zb,Zf,Zh,Zl,Zm,Zp,Zs,Zv,Zy,Z3,Z8,ZG,ZH,ZX,Yc,Ye,Yu,Wz,W0,W3,WA,VP,VS,VU,VV,Uc,Uh,Uy,Td,Te,Ti,Ts,Tt,Tw,Ty,Tz,T6,T7,sp];all_goals tactic=>exact rfl))
         ·(sym=>(simp[aM,aN,bL,bS,bR,Za,Zb,Zf,Zh,Zl,Zm,Zp,Zs,Zv,Zy,Z3,Z8,ZG,ZH,ZX,Yc,Ye,Yu,Wz,W0,W3,WA,VP,VS,VU,VV,Ua,Ub,Uh,Uy,Td,Te,Ti,Ts,Tt,Tw,Ty,Tz,T6,T7,sp];all_goals tactic=>exact rfl))
        ·rcases PP with _|⟨p,r⟩
         ·(sym=>(simp[aM,aN,bL,bS,bR,Za,Zb,Zf,Zh,Zl,Zm,Zp,Zq,Zv,Zy,Z3,Z8,ZG,ZH,ZW,Yc,Ye,Yu,Wz,W0,W3,WA,VP,VS,VU,VV,Uc,Uh,Ux,Uy,Td,Te,Ti,Ts,Tt,Tw,Ty,Tz,T6,T7,sp,sp2];all_goals tactic=>exact rfl))
         ·(sym=>(simp[aM,aN,bL,bS,bR,Za,Zb,Zf,Zh,Zl,Zm,Zp,Zq,Zv,Zy,Z3,Z8,ZG,ZH,ZW,Yc,Ye,Yu,Wz,W0,W3,WA,VP,VS,VU,VV,Ua,Ub,Uh,Ux,Uy,Td,Te,Ti,Ts,Tt,Tw,Ty,Tz,T6,T7,sp,sp2];all_goals tactic=>exact rfl))
     ·have cb:bZ (cQ (b::q)) 0 2 (q.length+1)=(b::q).map qR:=cb
      have b3:((q.length+1)*2≤(cQ (b::q)).length)=True:=eq_true (by rw[lb];simp)
      sym =>
       simp[aM,aN,bL,bS,bR,Za,Zb,Zf,Zh,Zl,Zm,Zp,Zs,Zv,Zy,Z3,Z8,ZG,ZH,ZX,Yc,Ye,Yu,Wz,W0,W3,WA,VP,VS,VU,VY,Ua,Ub,Uh,Uy,Td,Te,Ti,Ts,Tt,Tw,Tx,Ty,Tz,T4,T6,T7,sb]
       tactic =>
        unfold wK
        rw[aE mp (fun j=>[.pt 0 0,.pt 1 0,I l.k,.pt 2 0,I (j:Nat)]) (fun j=>gLa l S N X (b::q) (tH l j)++gLb (b::q) (tH l j))]
        ·rw[hPP]
         rcases stp with sp|⟨sp,sp2⟩
         ·rcases PP with _|⟨p,r⟩
          ·(sym=>(simp[aM,aN,bL,bS,bR,Za,Zb,Zc,Zf,Zh,Zl,Zm,Zp,Zs,Zv,Zy,Z3,Z8,ZG,ZH,ZL,ZM,ZX,Yc,Ye,Yu,YX,YZ,Xb,Xi,Xl,Xm,Xo,Xr,Xt,Xv,XJ,XL,XO,XQ,XX,XY,Wb,Wd,We,Wg,Wi,Wm,Ws,Wz,W0,W3,W4,W5,W6,W7,W8,WA,WI,WM,WO,WP,WQ,Vr,Vs,Vt,Vu,Vv,V4,V5,V6,V8,V9,VB,VC,VD,VE,VF,VI,VJ,VK,VM,VP,VS,VU,VY,VZ,Ua,Ub,Uc,Ue,Uf,Ug,Uh,Ul,Un,Ut,Uy,U2,U3,U4,U5,U6,U7,U8,U9,UA,UB,UC,UD,UE,Td,Te,Th,Ti,Tj,Tk,Ts,Tt,Tu,Tw,Ty,Tz,T4,T6,T7,TJ,Su,Sv,Sw,sp,cb,b3];all_goals tactic=>exact rfl))
          ·have cp:bZ (cP (p::r)) 0 3 (r.length+1)=(p::r).map pR:=cp
           have c3:((r.length+1)*3≤(cP (p::r)).length)=True:=eq_true (by rw[lp];simp)
           (sym=>(simp[aM,aN,bL,bS,bR,Za,Zb,Zc,Zf,Zh,Zl,Zm,Zp,Zs,Zv,Zy,Z3,Z8,ZG,ZH,ZL,ZM,ZX,Yc,Ye,Yu,YX,YZ,Xb,Xi,Xl,Xm,Xr,Xt,Xv,XJ,XL,XO,XX,XY,Wa,Wb,We,Wg,Wi,Ws,Wz,W0,W3,W4,W5,W6,W7,W8,WA,WI,WM,WO,WP,WQ,Vr,Vs,Vt,Vu,Vv,V3,V4,V5,V6,V8,V9,VB,VC,VD,VE,VF,VI,VJ,VK,VM,VP,VS,VU,VY,VZ,Ua,Ub,Uc,Ue,Uf,Ug,Uh,Ul,Un,Ut,Uu,Uy,U2,U3,U4,U5,U6,U7,U8,U9,UA,UB,UC,UD,UE,Td,Te,Th,Ti,Tj,Tk,Ts,Tt,Tu,Tw,Ty,Tz,T4,T6,T7,TJ,Su,Sv,Sw,sp,cp,c3,cb,b3];all_goals tactic=>exact rfl))
         ·rcases PP with _|⟨p,r⟩
          ·(sym=>(simp[aM,aN,bL,bS,bR,Za,Zb,Zc,Zf,Zh,Zl,Zm,Zp,Zq,Zv,Zy,Z3,Z8,ZG,ZH,ZL,ZM,ZW,Yc,Ye,Yu,YX,YZ,Xb,Xi,Xl,Xm,Xo,Xr,Xt,Xv,XJ,XL,XO,XQ,XX,XY,Wb,Wd,We,Wg,Wi,Wm,Ws,Wz,W0,W3,W4,W5,W6,W7,W8,WA,WI,WM,WO,WP,WQ,Vr,Vs,Vt,Vu,Vv,V4,V5,V6,V8,V9,VB,VC,VD,VE,VF,VI,VJ,VK,VM,VP,VS,VU,VY,VZ,Ua,Ub,Uc,Ue,Uf,Ug,Uh,Ul,Un,Ut,Ux,Uy,U2,U3,U4,U5,U6,U7,U8,U9,UA,UB,UC,UD,UE,Td,Te,Th,Ti,Tj,Tk,Ts,Tt,Tu,Tw,Ty,Tz,T4,T6,T7,TJ,Su,Sv,Sw,sp,sp2,cb,b3];all_goals tactic=>exact rfl))
          ·have cp:bZ (cP (p::r)) 0 3 (r.length+1)=(p::r).map pR:=cp
           have c3:((r.length+1)*3≤(cP (p::r)).length)=True:=eq_true (by rw[lp];simp)
           (sym=>(simp[aM,aN,bL,bS,bR,Za,Zb,Zc,Zf,Zh,Zl,Zm,Zp,Zq,Zv,Zy,Z3,Z8,ZG,ZH,ZL,ZM,ZW,Yc,Ye,Yu,YX,YZ,Xb,Xi,Xl,Xm,Xr,Xt,Xv,XJ,XL,XO,XX,XY,Wa,Wb,We,Wg,Wi,Ws,Wz,W0,W3,W4,W5,W6,W7,W8,WA,WI,WM,WO,WP,WQ,Vr,Vs,Vt,Vu,Vv,V3,V4,V5,V6,V8,V9,VB,VC,VD,VE,VF,VI,VJ,VK,VM,VP,VS,VU,VY,VZ,Ua,Ub,Uc,Ue,Uf,Ug,Uh,Ul,Un,Ut,Uu,Ux,Uy,U2,U3,U4,U5,U6,U7,U8,U9,UA,UB,UC,UD,UE,Td,Te,Th,Ti,Tj,Tk,Ts,Tt,Tu,Tw,Ty,Tz,T4,T6,T7,TJ,Su,Sv,Sw,sp,sp2,cp,c3,cb,b3];all_goals tactic=>exact rfl))
        ·rw[P0]; (sym=>(simp[aM,aN,bL,bS,bR,Za,YB,YX,Xc,Xd,Xe,Xr,Xw,Xx,Xy,Wz,WB,WC,WF,WG,WI,WJ,WK,WM,WO,WP,WQ,WR,WW,WX,WY,Vd,Ve,VP,VQ,VR,VY,VZ,Ua,Ub,Uc,Ue,Uj,Uw,U2,U3,U4,U5,T5,TK];all_goals tactic=>exact rfl))
        ·exact rdb
        ·rw[hPP]
         rcases stp with sp|⟨sp,sp2⟩
         ·rcases PP with _|⟨p,r⟩
          ·(sym=>(simp[aM,aN,bL,bS,bR,Za,Zb,Zf,Zh,Zl,Zm,Zp,Zs,Zv,Zy,Z3,Z8,ZG,ZH,ZX,Yc,Ye,Yu,Wz,W0,W3,WA,VP,VS,VU,VV,Ua,Ub,Uh,Uy,Td,Te,Ti,Ts,Tt,Tw,Ty,Tz,T6,T7,sp];all_goals tactic=>exact rfl))
          ·(sym=>(simp[aM,aN,bL,bS,bR,Za,Zb,Zf,Zh,Zl,Zm,Zp,Zs,Zv,Zy,Z3,Z8,ZG,ZH,ZX,Yc,Ye,Yu,Wz,W0,W3,WA,VP,VS,VU,VV,Ua,Ub,Uh,Uy,Td,Te,Ti,Ts,Tt,Tw,Ty,Tz,T6,T7,sp];all_goals tactic=>exact rfl))
         ·rcases PP with _|⟨p,r⟩
          ·(sym=>(simp[aM,aN,bL,bS,bR,Za,Zb,Zf,Zh,Zl,Zm,Zp,Zq,Zv,Zy,Z3,Z8,ZG,ZH,ZW,Yc,Ye,Yu,Wz,W0,W3,WA,VP,VS,VU,VV,Ua,Ub,Uh,Ux,Uy,Td,Te,Ti,Ts,Tt,Tw,Ty,Tz,T6,T7,sp,sp2];all_goals tactic=>exact rfl))
          ·(sym=>(simp[aM,aN,bL,bS,bR,Za,Zb,Zf,Zh,Zl,Zm,Zp,Zq,Zv,Zy,Z3,Z8,ZG,ZH,ZW,Yc,Ye,Yu,Wz,W0,W3,WA,VP,VS,VU,VV,Ua,Ub,Uh,Ux,Uy,Td,Te,Ti,Ts,Tt,Tw,Ty,Tz,T6,T7,sp,sp2];all_goals tactic=>exact rfl))
    ·rcases BB with _|⟨b,q⟩
     ·sym =>
      simp[aM,aN,bL,bS,bR,Za,Zb,Zf,Zh,Zl,Zm,Zp,Zq,Zv,Zy,Z3,Z8,ZG,ZH,ZW,Yc,Ye,Yu,Wz,W0,W3,WA,VP,VS,VU,VZ,Uc,Uh,Ux,Uy,Td,Te,Ti,Ts,Tt,Tw,Tx,Ty,Tz,T4,T6,T7,sb,sb2]
      tactic =>
       unfold wK
       rw[aE mp (fun j=>[.pt 0 0,.pt 1 0,I l.k,.pt 2 0,I (j:Nat)]) (fun j=>gLa l S N X [] (tH l j)++gLb [] (tH l j))]
       ·rw[hPP]
        rcases stp with sp|⟨sp,sp2⟩
        ·rcases PP with _|⟨p,r⟩
         ·(sym=>(simp[aM,aN,bL,bS,bR,Za,Zb,Zc,Zf,Zh,Zl,Zm,Zp,Zs,Zv,Zy,Z3,Z8,ZG,ZH,ZL,ZM,ZX,Yc,Ye,Yu,YX,YZ,Xb,Xi,Xo,Xr,Xt,Xv,XJ,XL,XQ,We,Wg,Wm,Ws,Wz,W0,W3,W4,W5,W6,W7,W8,WA,WI,WM,WO,WP,WQ,Vu,V8,V9,VB,VC,VD,VE,VF,VI,VJ,VK,VM,VP,VS,VU,VZ,Ub,Uc,Ue,Uf,Ug,Uh,Ul,Ut,Uy,U2,U3,U4,U5,U6,U7,U8,U9,UC,UD,UE,Td,Te,Th,Ti,Tj,Tk,Ts,Tt,Tu,Tw,Ty,Tz,T4,T6,T7,Su,sp];all_goals tactic=>exact rfl))
         ·have cp:bZ (cP (p::r)) 0 3 (r.length+1)=(p::r).map pR:=cp
          have c3:((r.length+1)*3≤(cP (p::r)).length)=True:=eq_true (by rw[lp];simp)
          (sym=>(simp[aM,aN,bL,bS,bR,Za,Zb,Zc,Zf,Zh,Zl,Zm,Zp,Zs,Zv,Zy,Z3,Z8,ZG,ZH,ZL,ZM,ZX,Yc,Ye,Yu,YX,YZ,Xb,Xi,Xl,Xm,Xo,Xr,Xt,Xv,XJ,XL,XO,XQ,XX,XY,Wb,Wd,We,Wg,Wi,Wm,Ws,Wz,W0,W3,W4,W5,W6,W7,W8,WA,WI,WM,WO,WP,WQ,Vr,Vs,Vt,Vu,Vv,V4,V5,V6,V8,V9,VB,VC,VD,VE,VF,VI,VJ,VK,VM,VP,VS,VU,VY,VZ,Ua,Ub,Uc,Ue,Uf,Ug,Uh,Ul,Un,Ut,Uy,U2,U3,U4,U5,U6,U7,U8,U9,UA,UB,UC,UD,UE,Td,Te,Th,Ti,Tj,Tk,Ts,Tt,Tu,Tw,Ty,Tz,T4,T6,T7,TJ,Su,Sv,Sw,sp,cp,c3];all_goals tactic=>exact rfl))
        ·rcases PP with _|⟨p,r⟩
         ·(sym=>(simp[aM,aN,bL,bS,bR,Za,Zb,Zc,Zf,Zh,Zl,Zm,Zp,Zq,Zv,Zy,Z3,Z8,ZG,ZH,ZL,ZM,ZW,Yc,Ye,Yu,YX,YZ,Xb,Xi,Xo,Xr,Xt,Xv,XJ,XL,XQ,We,Wg,Wm,Ws,Wz,W0,W3,W4,W5,W6,W7,W8,WA,WI,WM,WO,WP,WQ,Vu,V8,V9,VB,VC,VD,VE,VF,VI,VJ,VK,VM,VP,VS,VU,VZ,Ub,Uc,Ue,Uf,Ug,Uh,Ul,Ut,Ux,Uy,U2,U3,U4,U5,U6,U7,U8,U9,UC,UD,UE,Td,Te,Th,Ti,Tj,Tk,Ts,Tt,Tu,Tw,Ty,Tz,T4,T6,T7,Su,sp,sp2];all_goals tactic=>exact rfl))
         ·have cp:bZ (cP (p::r)) 0 3 (r.length+1)=(p::r).map pR:=cp
          have c3:((r.length+1)*3≤(cP (p::r)).length)=True:=eq_true (by rw[lp];simp)
          (sym=>(simp[aM,aN,bL,bS,bR,Za,Zb,Zc,Zf,Zh,Zl,Zm,Zp,Zq,Zv,Zy,Z3,Z8,ZG,ZH,ZL,ZM,ZW,Yc,Ye,Yu,YX,YZ,Xb,Xi,Xl,Xm,Xo,Xr,Xt,Xv,XJ,XL,XO,XQ,XX,XY,Wb,Wd,We,Wg,Wi,Wm,Ws,Wz,W0,W3,W4,W5,W6,W7,W8,WA,WI,WM,WO,WP,WQ,Vr,Vs,Vt,Vu,Vv,V4,V5,V6,V8,V9,VB,VC,VD,VE,VF,VI,VJ,VK,VM,VP,VS,VU,VY,VZ,Ua,Ub,Uc,Ue,Uf,Ug,Uh,Ul,Un,Ut,Ux,Uy,U2,U3,U4,U5,U6,U7,U8,U9,UA,UB,UC,UD,UE,Td,Te,Th,Ti,Tj,Tk,Ts,Tt,Tu,Tw,Ty,Tz,T4,T6,T7,TJ,Su,Sv,Sw,sp,sp2,cp,c3];all_goals tactic=>exact rfl))
       ·rw[P0]; (sym=>(simp[aM,aN,bL,bS,bR,Za,YB,YX,Xd,Xr,Xx,Wz,WB,WC,WF,WG,WI,WJ,WK,WM,WO,WP,WQ,WR,WW,WX,Vd,VP,VQ,VR,VY,VZ,Ua,Ub,Uc,Ue,Uj,Uw,U2,U3,U4,U5,T5,TK];all_goals tactic=>exact rfl))
       ·exact rdb
       ·rw[hPP]
        rcases stp with sp|⟨sp,sp2⟩
        ·rcases PP with _|⟨p,r⟩
         ·(sym=>(simp[aM,aN,bL,bS,bR,Za,Zb,Zf,Zh,Zl,Zm,Zp,Zs,Zv,Zy,Z3,Z8,ZG,ZH,ZX,Yc,Ye,Yu,Wz,W0,W3,WA,VP,VS,VU,VV,Uc,Uh,Uy,Td,Te,Ti,Ts,Tt,Tw,Ty,Tz,T6,T7,sp];all_goals tactic=>exact rfl))
         ·(sym=>(simp[aM,aN,bL,bS,bR,Za,Zb,Zf,Zh,Zl,Zm,Zp,Zs,Zv,Zy,Z3,Z8,ZG,ZH,ZX,Yc,Ye,Yu,Wz,W0,W3,WA,VP,VS,VU,VV,Ua,Ub,Uh,Uy,Td,Te,Ti,Ts,Tt,Tw,Ty,Tz,T6,T7,sp];all_goals tactic=>exact rfl))
        ·rcases PP with _|⟨p,r⟩
         ·(sym=>(simp[aM,aN,bL,bS,bR,Za,Zb,Zf,Zh,Zl,Zm,Zp,Zq,Zv,Zy,Z3,Z8,ZG,ZH,ZW,Yc,Ye,Yu,Wz,W0,W3,WA,VP,VS,VU,VV,Uc,Uh,Ux,Uy,Td,Te,Ti,Ts,Tt,Tw,Ty,Tz,T6,T7,sp,sp2];all_goals tactic=>exact rfl))
         ·(sym=>(simp[aM,aN,bL,bS,bR,Za,Zb,Zf,Zh,Zl,Zm,Zp,Zq,Zv,Zy,Z3,Z8,ZG,ZH,ZW,Yc,Ye,Yu,Wz,W0,W3,WA,VP,VS,VU,VV,Ua,Ub,Uh,Ux,Uy,Td,Te,Ti,Ts,Tt,Tw,Ty,Tz,T6,T7,sp,sp2];all_goals tactic=>exact rfl))
     ·have cb:bZ (cQ (b::q)) 0 2 (q.length+1)=(b::q).map qR:=cb
      have b3:((q.length+1)*2≤(cQ (b::q)).length)=True:=eq_true (by rw[lb];simp)
      sym =>
       simp[aM,aN,bL,bS,bR,Za,Zb,Zf,Zh,Zl,Zm,Zp,Zq,Zv,Zy,Z3,Z8,ZG,ZH,ZW,Yc,Ye,Yu,Wz,W0,W3,WA,VP,VS,VU,VY,Ua,Ub,Uh,Ux,Uy,Td,Te,Ti,Ts,Tt,Tw,Tx,Ty,Tz,T4,T6,T7,sb,sb2]
       tactic =>
        unfold wK
        rw[aE mp (fun j=>[.pt 0 0,.pt 1 0,I l.k,.pt 2 0,I (j:Nat)]) (fun j=>gLa l S N X (b::q) (tH l j)++gLb (b::q) (tH l j))]
        ·rw[hPP]
         rcases stp with sp|⟨sp,sp2⟩
         ·rcases PP with _|⟨p,r⟩
          ·(sym=>(simp[aM,aN,bL,bS,bR,Za,Zb,Zc,Zf,Zh,Zl,Zm,Zp,Zs,Zv,Zy,Z3,Z8,ZG,ZH,ZL,ZM,ZX,Yc,Ye,Yu,YX,YZ,Xb,Xi,Xl,Xm,Xo,Xr,Xt,Xv,XJ,XL,XO,XQ,XX,XY,Wb,Wd,We,Wg,Wi,Wm,Ws,Wz,W0,W3,W4,W5,W6,W7,W8,WA,WI,WM,WO,WP,WQ,Vr,Vs,Vt,Vu,Vv,V4,V5,V6,V8,V9,VB,VC,VD,VE,VF,VI,VJ,VK,VM,VP,VS,VU,VY,VZ,Ua,Ub,Uc,Ue,Uf,Ug,Uh,Ul,Un,Ut,Uy,U2,U3,U4,U5,U6,U7,U8,U9,UA,UB,UC,UD,UE,Td,Te,Th,Ti,Tj,Tk,Ts,Tt,Tu,Tw,Ty,Tz,T4,T6,T7,TJ,Su,Sv,Sw,sp,cb,b3];all_goals tactic=>exact rfl))
          ·have cp:bZ (cP (p::r)) 0 3 (r.length+1)=(p::r).map pR:=cp
           have c3:((r.length+1)*3≤(cP (p::r)).length)=True:=eq_true (by rw[lp];simp)
           (sym=>(simp[aM,aN,bL,bS,bR,Za,Zb,Zc,Zf,Zh,Zl,Zm,Zp,Zs,Zv,Zy,Z3,Z8,ZG,ZH,ZL,ZM,ZX,Yc,Ye,Yu,YX,YZ,Xb,Xi,Xl,Xm,Xr,Xt,Xv,XJ,XL,XO,XX,XY,Wa,Wb,We,Wg,Wi,Ws,Wz,W0,W3,W4,W5,W6,W7,W8,WA,WI,WM,WO,WP,WQ,Vr,Vs,Vt,Vu,Vv,V3,V4,V5,V6,V8,V9,VB,VC,VD,VE,VF,VI,VJ,VK,VM,VP,VS,VU,VY,VZ,Ua,Ub,Uc,Ue,Uf,Ug,Uh,Ul,Un,Ut,Uu,Uy,U2,U3,U4,U5,U6,U7,U8,U9,UA,UB,UC,UD,UE,Td,Te,Th,Ti,Tj,Tk,Ts,Tt,Tu,Tw,Ty,Tz,T4,T6,T7,TJ,Su,Sv,Sw,sp,cp,c3,cb,b3];all_goals tactic=>exact rfl))
         ·rcases PP with _|⟨p,r⟩
          ·(sym=>(simp[aM,aN,bL,bS,bR,Za,Zb,Zc,Zf,Zh,Zl,Zm,Zp,Zq,Zv,Zy,Z3,Z8,ZG,ZH,ZL,ZM,ZW,Yc,Ye,Yu,YX,YZ,Xb,Xi,Xl,Xm,Xo,Xr,Xt,Xv,XJ,XL,XO,XQ,XX,XY,Wb,Wd,We,Wg,Wi,Wm,Ws,Wz,W0,W3,W4,W5,W6,W7,W8,WA,WI,WM,WO,WP,WQ,Vr,Vs,Vt,Vu,Vv,V4,V5,V6,V8,V9,VB,VC,VD,VE,VF,VI,VJ,VK,VM,VP,VS,VU,VY,VZ,Ua,Ub,Uc,Ue,Uf,Ug,Uh,Ul,Un,Ut,Ux,Uy,U2,U3,U4,U5,U6,U7,U8,U9,UA,UB,UC,UD,UE,Td,Te,Th,Ti,Tj,Tk,Ts,Tt,Tu,Tw,Ty,Tz,T4,T6,T7,TJ,Su,Sv,Sw,sp,sp2,cb,b3];all_goals tactic=>exact rfl))
          ·have cp:bZ (cP (p::r)) 0 3 (r.length+1)=(p::r).map pR:=cp
           have c3:((r.length+1)*3≤(cP (p::r)).length)=True:=eq_true (by rw[lp];simp)
           (sym=>(simp[aM,aN,bL,bS,bR,Za,Zb,Zc,Zf,Zh,Zl,Zm,Zp,Zq,Zv,Zy,Z3,Z8,ZG,ZH,ZL,ZM,ZW,Yc,Ye,Yu,YX,YZ,Xb,Xi,Xl,Xm,Xr,Xt,Xv,XJ,XL,XO,XX,XY,Wa,Wb,We,Wg,Wi,Ws,Wz,W0,W3,W4,W5,W6,W7,W8,WA,WI,WM,WO,WP,WQ,Vr,Vs,Vt,Vu,Vv,V3,V4,V5,V6,V8,V9,VB,VC,VD,VE,VF,VI,VJ,VK,VM,VP,VS,VU,VY,VZ,Ua,Ub,Uc,Ue,Uf,Ug,Uh,Ul,Un,Ut,Uu,Ux,Uy,U2,U3,U4,U5,U6,U7,U8,U9,UA,UB,UC,UD,UE,Td,Te,Th,Ti,Tj,Tk,Ts,Tt,Tu,Tw,Ty,Tz,T4,T6,T7,TJ,Su,Sv,Sw,sp,sp2,cp,c3,cb,b3];all_goals tactic=>exact rfl))
        ·rw[P0]; (sym=>(simp[aM,aN,bL,bS,bR,Za,YB,YX,Xc,Xd,Xe,Xr,Xw,Xx,Xy,Wz,WB,WC,WF,WG,WI,WJ,WK,WM,WO,WP,WQ,WR,WW,WX,WY,Vd,Ve,VP,VQ,VR,VY,VZ,Ua,Ub,Uc,Ue,Uj,Uw,U2,U3,U4,U5,T5,TK];all_goals tactic=>exact rfl))
        ·exact rdb
        ·rw[hPP]
         rcases stp with sp|⟨sp,sp2⟩
         ·rcases PP with _|⟨p,r⟩
          ·(sym=>(simp[aM,aN,bL,bS,bR,Za,Zb,Zf,Zh,Zl,Zm,Zp,Zs,Zv,Zy,Z3,Z8,ZG,ZH,ZX,Yc,Ye,Yu,Wz,W0,W3,WA,VP,VS,VU,VV,Ua,Ub,Uh,Uy,Td,Te,Ti,Ts,Tt,Tw,Ty,Tz,T6,T7,sp];all_goals tactic=>exact rfl))
          ·(sym=>(simp[aM,aN,bL,bS,bR,Za,Zb,Zf,Zh,Zl,Zm,Zp,Zs,Zv,Zy,Z3,Z8,ZG,ZH,ZX,Yc,Ye,Yu,Wz,W0,W3,WA,VP,VS,VU,VV,Ua,Ub,Uh,Uy,Td,Te,Ti,Ts,Tt,Tw,Ty,Tz,T6,T7,sp];all_goals tactic=>exact rfl))
         ·rcases PP with _|⟨p,r⟩
          ·(sym=>(simp[aM,aN,bL,bS,bR,Za,Zb,Zf,Zh,Zl,Zm,Zp,Zq,Zv,Zy,Z3,Z8,ZG,ZH,ZW,Yc,Ye,Yu,Wz,W0,W3,WA,VP,VS,VU,VV,Ua,Ub,Uh,Ux,Uy,Td,Te,Ti,Ts,Tt,Tw,Ty,Tz,T6,T7,sp,sp2];all_goals tactic=>exact rfl))
          ·(sym=>(simp[aM,aN,bL,bS,bR,Za,Zb,Zf,Zh,Zl,Zm,Zp,Zq,Zv,Zy,Z3,Z8,ZG,ZH,ZW,Yc,Ye,Yu,Wz,W0,W3,WA,VP,VS,VU,VV,Ua,Ub,Uh,Ux,Uy,Td,Te,Ti,Ts,Tt,Tw,Ty,Tz,T6,T7,sp,sp2];all_goals tactic=>exact rfl))
   ·rw[B0]; (sym=>(simp[aM,aN,bL,bS,bR,Za,YB,YX,Xd,Xr,Xx,Wz,WB,WC,WF,WG,WI,WJ,WK,WM,WO,WP,WQ,WR,WW,WX,Vd,VQ,VR,VY,VZ,Ua,Ub,Uc,Ue,Uj,Uw,U2,U3,U4,U5,T5,TK];all_goals tactic=>exact rfl))
   ·exact rda
   ·rw[hBB]
    rcases stb with sb|⟨sb,sb2⟩
    ·rcases BB with _|⟨b,q⟩
     ·(sym=>(simp[aM,aN,bL,bS,bR,Za,Zb,Zf,Zh,Zl,Zm,Zp,Zs,Zv,Zy,Z3,Z8,ZG,ZH,ZX,Yc,Ye,Yu,Wz,W0,W3,WA,VP,VS,VU,VV,Uc,Uh,Uy,Td,Te,Ti,Ts,Tt,Tw,Ty,Tz,T6,T7,sb];all_goals tactic=>exact rfl))
     ·(sym=>(simp[aM,aN,bL,bS,bR,Za,Zb,Zf,Zh,Zl,Zm,Zp,Zs,Zv,Zy,Z3,Z8,ZG,ZH,ZX,Yc,Ye,Yu,Wz,W0,W3,WA,VP,VS,VU,VV,Ua,Ub,Uh,Uy,Td,Te,Ti,Ts,Tt,Tw,Ty,Tz,T6,T7,sb];all_goals tactic=>exact rfl))
    ·rcases BB with _|⟨b,q⟩
     ·(sym=>(simp[aM,aN,bL,bS,bR,Za,Zb,Zf,Zh,Zl,Zm,Zp,Zq,Zv,Zy,Z3,Z8,ZG,ZH,ZW,Yc,Ye,Yu,Wz,W0,W3,WA,VP,VS,VU,VV,Uc,Uh,Ux,Uy,Td,Te,Ti,Ts,Tt,Tw,Ty,Tz,T6,T7,sb,sb2];all_goals tactic=>exact rfl))
     ·(sym=>(simp[aM,aN,bL,bS,bR,Za,Zb,Zf,Zh,Zl,Zm,Zp,Zq,Zv,Zy,Z3,Z8,ZG,ZH,ZW,Yc,Ye,Yu,Wz,W0,W3,WA,VP,VS,VU,VV,Ua,Ub,Uh,Ux,Uy,Td,Te,Ti,Ts,Tt,Tw,Ty,Tz,T6,T7,sb,sb2];all_goals tactic=>exact rfl))
def dr (a:Nat):Nat→Nat
 | 0=>a
 | j+1=>dr a j&&&(dr a j-1)
theorem aAr {a:Nat} (ha:a<65536):∀ j,dr a j<65536
 | 0=>ha
 | j+1=>Nat.lt_of_le_of_lt Nat.and_le_left (aAr ha j)
theorem aIJ {a:Nat} (ha:a<65536):∀ j,j≤bK a→el (dr a j)=(el a).drop j
 | 0,_=>rfl
 | j+1,hj=>by
   have ih:=aIJ ha j (by omega)
   have h0:dr a j≠0:=by
    intro h
    rw[(aKM (aAr ha j)).2 h]at ih
    have:=congrArg List.length ih
    unfold bK at hj
    simp at this
    omega
   have h1:=sF (aAr ha j) h0
   rw[ih]at h1
   show el (dr a j&&&(dr a j-1))=_
   have h2:=congrArg List.tail h1
   simp only[List.tail_drop,List.tail_cons]at h2
   exact h2.symm
theorem aNT {a:Nat} (ha:a<65536) {j:Nat} (hj:j<bK a):dr a j≠0:=by
 intro h
 have ih:=aIJ ha j (by omega)
 rw[(aKM (aAr ha j)).2 h]at ih
 have:=congrArg List.length ih
 unfold bK at hj
 simp at this
 omega
theorem aMC {a:Nat} (ha:a<65536):dr a (bK a)=0:=by
 have ih:=aIJ ha (bK a) (Nat.le_refl _)
 rw[show bK a=(el a).length from rfl,List.drop_length]at ih
 exact(aKM (aAr ha _)).1 ih
theorem aJL {a:Nat} (ha:a<65536) {j:Nat} (hj:j<bK a) :
 aS 0 [0,3] (execW aA 42 0 none (match aEa with | .loop _ a=>a|c=>c) (aV [0,3] [I (dr a j:Nat),I (j:Nat)]) [])=some ([I (dr a (j+1):Nat),I (j+1:Nat)],[]):=by
 have h0:=aNT ha hj
 have h1:=aAr ha j
 have h2:=lB a
 have a0:((dr a j:Int)=0)=False:=eq_false (by omega)
 have a1:IntKind.i64.wrap ((dr a j:Int)-1)=((dr a j-1:Nat):Int):=by rw[aD (by omega) (by omega)];omega
 have a2:=kS bY (a:=dr a j) (b:=dr a j-1) (by omega) (by omega)
 have a3:IntKind.i64.wrap ((j:Int)+1)=(j:Int)+1:=aD (by omega) (by omega)
 have a3:IntKind.i64.wrap ((j:Int)+1)=((j+1:Nat):Int):=by rw[a3];omega
 rw[show dr a (j+1)=dr a j&&&(dr a j-1) from rfl]
 generalize dr a j&&&(dr a j-1)=z at *
 generalize dr a j-1=y at *
 generalize dr a j=d at *
 unfold aEa
 dsimp only
 (sym=>(simp[Za,Zb,Zf,Zh,Zl,Zm,Zv,Z3,Yl,Ym,Yo,Yt,YX,Xr,WI,WM,WN,WP,WQ,VP,VQ,VR,VS,VT,VY,VZ,Uc,Ue,Uq,Uy,U1,U2,U3,U4,U5,Ts,Tt,Tv,Tx,Ty,T1,T5,T6,T7,a0,a1,a2,a3];all_goals tactic=>exact rfl))
theorem w42 {a:Nat} (ha:a<65536):runW aA 42 [I a] []=some (I (bK a:Nat),[]):=by
 have z:=aMC ha
 have d0:dr a 0=a:=rfl
 rw[r42 (by simp)];unfold x42;dsimp only
 sym =>
  simp[Zb,Zf,Zh,Zl,Zv,We,VX,Ug,UC,UD,Tt,Tx,Ty,T7]
  tactic =>
   unfold aEa
   rw[aE (bK a) (fun j=>[I (dr a j:Nat),I (j:Nat)]) (fun _=>[])]
   ·rw[z]; (sym=>(simp[Za,Zb,Zf,Zh,Zl,Zm,Zv,Z3,Yt,YB,YX,Xr,XJ,We,WI,WM,WN,WP,WQ,Vu,V8,V9,VB,VC,VD,VE,VF,VI,VJ,VK,VL,VP,VS,VU,VZ,Uc,Ue,Uo,Ux,U1,U2,U3,Ts,Tt,Tu,Tw,Ty,Tz,T4,T6,T7,Su];all_goals tactic=>exact rfl))
   ·rw[d0]; (sym=>(simp[Za,YB,YX,Xr,W9,WI,WM,WN,WP,WQ,VN,VQ,VR,VY,VZ,Uc,Ue,U1,U2,U3,U4,U5,T5];all_goals tactic=>exact rfl))
   ·exact fun j hj=>aJL ha hj
   ·rw[z]; (sym=>(simp[Za,Zb,Zf,Zh,Zl,Zm,Zv,Z3,Yt,YB,VP,VS,VU,VV,Uo,Ux,Ts,Tt,Tw,Ty,Tz,T6,T7];all_goals tactic=>exact rfl))
def fC (n:Nat) (st:Nat→Nat):List AV:=(List.range n).map fun k=>I (st k)
theorem gE (n:Nat) (st:Nat→Nat):(fC n st).length=n:=by simp[fC]
theorem lV {n:Nat} {st:Nat→Nat} {k:Nat} (h:k<n):(fC n st)[k]?=some (I (st k)):=by simp[fC,h]
theorem tT {n:Nat} {st:Nat→Nat} {k v:Nat} (h:k<n):cB (fC n st) k [I (v:Nat)]=fC n (jC st k v):=by
 rw[fX (by rw[gE];exact h)]
 apply List.ext_getElem?
 intro j
 rw[List.getElem?_set]
 by_cases hj:k=j
 ·subst hj
  rw[if_pos rfl,if_pos (by rw[gE];exact h),lV h,jC,if_pos rfl]
 ·rw[if_neg hj]
  by_cases hl:j<n
  ·rw[lV hl,lV hl,jC,if_neg (by omega)]
  ·rw[List.getElem?_eq_none (by rw[gE];omega),List.getElem?_eq_none (by rw[gE];omega)]
theorem bD {n:Nat} {st:Nat→Nat}:eS (fC n st)=true:=by
 unfold fC
 generalize List.range n=l
 induction l with
 | nil=>rfl
 | cons a l ih=>simp only[List.map_cons,eS,ih];rfl
theorem aFR (n:Nat):(List.replicate n (I 0))=fC n fun _=>0:=by
 apply List.ext_getElem?
 intro j
 by_cases hl:j<n
 ·rw[lV hl];simp[hl]
 ·rw[List.getElem?_eq_none (by simpa using hl),List.getElem?_eq_none (by rw[gE];omega)]
abbrev jF (x:Vn) (st:Nat→Nat):XH:=[some (.blk true (.cells true x.c)),some (.blk true (.cells true (fC x.F st)))]
theorem aBM {x:Vn} (ok:x.Ok) (s:Nat) {i:Nat} (hi:i<x.bs.length) :
 aS 0 [1,2,5,18,19,20] (execW aA 40 0 none (match aBv with | .loop _ a=>a|c=>c) (aV [1,2,5,18,19,20] [I (s:Nat),.pt 0 0,.sl 1 0 1 x.F,rB (x.bs.map bI),I x.bs.length,I (i:Nat)]) (jF x (wX x i))) =
  some ([I (s:Nat),.pt 0 0,.sl 1 0 1 x.F,rB (x.bs.map bI),I x.bs.length,I (i+1:Nat)],jF x (wX x (i+1))):=by
 obtain⟨b,hx⟩:=bC hi
 have hb:=ok.b b (List.mem_of_getElem? hx)
 have hF:=ok.F16
 have hp:=aU hF
 have a1:=dC hi
 have a2:=dN hi (by have:=ok.nb;omega)
 have l0:=aCT ok i
 have up:wX x (i+1)=addS (addS (wX x i) b.1 b.2) b.2 b.1:=iG hx _
 rw[up]
 generalize wX x i=st at *
 have e1:=jQ bY (i:=b.1) (by omega)
 have e2:=jQ bY (i:=b.2) (by omega)
 have z1:((b.1:Int)<0)=False:=eq_false (by omega)
 have z2:((b.2:Int)<0)=False:=eq_false (by omega)
 have n1:((0:Int)≤b.1)=True:=eq_true (by omega)
 have n2:((0:Int)≤b.2)=True:=eq_true (by omega)
 have m1:((b.1:Int)<x.F)=True:=eq_true (by omega)
 have m2:((b.2:Int)<x.F)=True:=eq_true (by omega)
 have p1:(2:Nat)^b.1≤2^16:=Nat.pow_le_pow_right (by omega) (by omega)
 have p2:(2:Nat)^b.2≤2^16:=Nat.pow_le_pow_right (by omega) (by omega)
 have k1:=l0 b.1
 have k2:=l0 b.2
 have o1:=dF bY (a:=st b.1) (b:=2^b.2) (by omega) (by omega)
 have q1:=lV (n:=x.F) (st:=st) (k:=b.1) hb.1
 have s1:=tT (n:=x.F) (st:=st) (k:=b.1) (v:=st b.1|||2^b.2) hb.1
 have q2:=lV (n:=x.F) (st:=addS st b.1 b.2) (k:=b.2) hb.2.1
 have r2:addS st b.1 b.2 b.2=st b.2:=by unfold addS jC;rw[if_neg (fun h=>hb.2.2 h.symm)]
 have o2:=dF bY (a:=st b.2) (b:=2^b.1) (by omega) (by omega)
 have s2:=tT (n:=x.F) (st:=addS st b.1 b.2) (k:=b.2) (v:=st b.2|||2^b.1) hb.2.1
 rw[show jC st b.1 (st b.1|||2^b.2)=addS st b.1 b.2 from rfl]at s1
 rw[show jC (addS st b.1 b.2) b.2 (st b.2|||2^b.1)=addS (addS st b.1 b.2) b.2 b.1 by rw[addS.eq_def (addS st b.1 b.2),r2]]at s2
 rw[r2]at q2
 have y1:=gE x.F st
 have y2:=gE x.F (addS st b.1 b.2)
 have t1:(b.1+1≤x.F)=True:=eq_true (by omega)
 have t2:(b.2+1≤x.F)=True:=eq_true (by omega)
 generalize addS (addS st b.1 b.2) b.2 b.1=st2 at *
 generalize addS st b.1 b.2=st1 at *
 unfold aBv
 dsimp only
 (sym=>(simp[bD,Za,Zb,Zc,Zd,Ze,Zf,Zh,Zi,Zl,Zm,Zv,Zw,Z3,Z9,ZA,ZH,ZI,ZK,ZL,ZM,ZN,ZO,Yh,Yi,Yj,Yl,Yp,Yq,Yu,Yy,Yz,YA,YC,YF,YQ,YX,Xb,Xc,Xd,Xi,Xr,Xv,Xw,Xx,Wq,Ws,Wy,Wz,W0,W3,W4,W5,W6,W7,W8,WA,WB,WC,WF,WG,WI,WJ,WK,WM,WO,WP,WQ,WR,WW,WX,Vd,Vk,VP,VQ,VR,VS,VT,VY,VZ,Ua,Ub,Uc,Ue,Uf,Ug,Uh,Ui,Uj,Ul,Uq,Ur,Ut,Uw,Ux,Uz,U0,U2,U3,U4,U5,U6,U7,UE,Td,Te,Tf,Tg,Th,Ti,Tj,Tk,Ts,Tt,Tv,Tx,Ty,T1,T5,T6,T7,TI,TJ,TK,Ss,a1,a2,hx,e1,e2,z1,z2,n1,n2,m1,m2,o1,o2,q1,q2,s1,s2,y1,y2,t1,t2];all_goals tactic=>exact rfl))
theorem aBL {x:Vn} (ok:x.Ok) (s:Nat) {i:Nat} (hi:i<x.ps.length) :
 aS 0 [1,2,5,46,47,48] (execW aA 40 0 none (match aBu with | .loop _ a=>a|c=>c) (aV [1,2,5,46,47,48] [I (s:Nat),.pt 0 0,.sl 1 0 1 x.F,rP (x.ps.map pI),I x.ps.length,I (i:Nat)]) (jF x (wW x i))) =
  some ([I (s:Nat),.pt 0 0,.sl 1 0 1 x.F,rP (x.ps.map pI),I x.ps.length,I (i+1:Nat)],jF x (wW x (i+1))):=by
 obtain⟨b,hx⟩:=bC hi
 have hb:=ok.p b (List.mem_of_getElem? hx)
 have hF:=ok.F16
 have hp:=aU hF
 have a1:=dC hi
 have a2:=dN hi (by have:=ok.np;omega)
 have l0:=dR ok i
 have up:wW x (i+1)=addS (wW x i) b.2.1 b.2.2:=iG hx _
 rw[up]
 generalize wW x i=st at *
 have e2:=jQ bY (i:=b.2.2) (by omega)
 have z2:((b.2.2:Int)<0)=False:=eq_false (by omega)
 have n1:((0:Int)≤b.2.1)=True:=eq_true (by omega)
 have m1:((b.2.1:Int)<x.F)=True:=eq_true (by omega)
 have p2:(2:Nat)^b.2.2≤2^16:=Nat.pow_le_pow_right (by omega) (by omega)
 have k1:=l0 b.2.1
 have o1:=dF bY (a:=st b.2.1) (b:=2^b.2.2) (by omega) (by omega)
 have q1:=lV (n:=x.F) (st:=st) (k:=b.2.1) hb.2.1
 have s1:=tT (n:=x.F) (st:=st) (k:=b.2.1) (v:=st b.2.1|||2^b.2.2) hb.2.1
 rw[show jC st b.2.1 (st b.2.1|||2^b.2.2)=addS st b.2.1 b.2.2 from rfl]at s1
 have y1:=gE x.F st
 have t1:(b.2.1+1≤x.F)=True:=eq_true (by omega)
 generalize addS st b.2.1 b.2.2=st1 at *
 unfold aBu
 dsimp only
 (sym=>(simp[bD,Za,Zb,Zc,Zd,Ze,Zf,Zh,Zi,Zl,Zm,Zv,Zw,Z3,Z8,ZA,ZH,ZI,ZK,ZL,ZM,ZN,ZO,Yc,Yh,Yi,Yj,Yl,Yp,Yq,Yu,Yy,Yz,YX,Xb,Xc,Xd,Xi,Xr,Xv,Xw,Xx,Wq,Ws,Wy,Wz,W0,W3,W4,W5,W6,W7,W8,WA,WB,WC,WF,WG,WI,WJ,WK,WM,WO,WP,WQ,WR,WW,WX,Vd,Vk,VP,VQ,VR,VS,VT,VY,VZ,Ua,Ub,Uc,Ue,Uf,Ug,Uh,Ui,Uj,Ul,Uq,Ur,Ut,Uw,Ux,Uz,U0,U2,U3,U4,U5,U6,U7,UE,Td,Te,Tf,Tg,Th,Ti,Tj,Tk,Ts,Tt,Tv,Tx,Ty,T1,T5,T6,T7,TI,TJ,TK,Ss,a1,a2,hx,e2,z2,n1,m1,o1,q1,s1,y1,t1];all_goals tactic=>exact rfl))
def wA (st:Nat→Nat) (cl m i:Nat):Nat:=(List.range i).foldl (kJ st cl) m
theorem aBx (st:Nat→Nat) (cl m i:Nat):wA st cl m (i+1)=kJ st cl (wA st cl m i) i:=by rw[wA,List.range_succ,List.foldl_append];rfl
theorem aLO {st:Nat→Nat} {cl F m:Nat} (hst:∀ k,st k<2^F) (a:Nat) (h:m<2^F):kJ st cl m a<2^F:=by
 unfold kJ
 split
 ·exact Nat.or_lt_two_pow h (Nat.lt_of_le_of_lt (fS _ _) (hst a))
 ·exact h
theorem aEj {st:Nat→Nat} {cl F m:Nat} (hst:∀ k,st k<2^F) (h:m<2^F):∀ i,wA st cl m i<2^F
 | 0=>h
 | i+1=>by rw[aBx];exact aLO hst _ (aEj hst h i)
theorem aAC {st:Nat→Nat} {s cl m:Nat} (hcl:cl<65536) (h:∀ i,m.testBit i=true→Rch st s cl i):∀ n i,(wA st cl m n).testBit i=true→Rch st s cl i
 | 0,i,hi=>h i hi
 | n+1,i,hi=>by
   rw[aBx]at hi
   unfold kJ at hi
   split at hi
   ·next ha =>
    rw[Nat.testBit_or,Bool.or_eq_true]at hi
    rcases hi with hi|hi
    ·exact aAC hcl h n i hi
    ·rw[bX (by omega)]at hi
     simp only[Bool.and_eq_true,Bool.not_eq_true']at hi
     exact .step (aAC hcl h n n ha) hi.1 hi.2.2
   ·exact aAC hcl h n i hi
theorem aEi (st:Nat→Nat) (cl m:Nat) {i j:Nat} (h:i≤j):sub (wA st cl m i) (wA st cl m j):=by
 induction j with
 | zero=>obtain rfl:i=0:=by omega
         exact dG _
 | succ j ih =>
   by_cases hj:i=j+1
   ·subst hj;exact dG _
   ·rw[aBx];exact oO (ih (by omega)) (xL _ _)
theorem aJk {st:Nat→Nat} {cl F m a b:Nat} (hF:F≤16) (hcl:cl<65536) (hst:∀ k,st k<2^F) (hm:m<2^F) (ha:m.testBit a=true) (hb:(st a).testBit b=true) (hc:cl.testBit b=false):(wA st cl m F).testBit b=true:=by
 have haF:=eJ hm ha
 have hbF:=eJ (hst a) hb
 refine aEi st cl m (show a+1≤F by omega) b ?_
 rw[aBx]
 have h1:(wA st cl m a).testBit a=true:=aEi st cl m (Nat.zero_le a) a ha
 unfold kJ
 rw[if_pos h1,Nat.testBit_or,bX (by omega),hb,hc]
 simp;omega
theorem aFm {x:Vn} (ok:x.Ok) {cl:Nat} (hcl:cl<65536):rX (fun m=>wA (cE x) cl m x.F) x.F (eO x.sick cl)=eT (cE x) x.sick cl :=
 aDp ok.F16 (dR ok _) ok.s hcl (fun m=>oZ _ m) (fun m hm=>aEj (dR ok _) hm _) (fun m h=>aAC hcl h _) (fun m a b hm ha hb hc=>aJk ok.F16 hcl (dR ok _) hm ha hb hc)
section
variable {x:Vn} (ok:x.Ok) {s:Nat} (hs:s<65536)
abbrev s40 (x:Vn) (s m:Nat) (r a:Nat):List AV:=[I (s:Nat),.pt 0 0,.sl 1 0 1 x.F,I (m:Nat),I (r:Nat),.sl 1 0 1 x.F,I x.F,I (a:Nat)]
abbrev t40 (x:Vn) (s m:Nat) (r:Nat):List AV:=[I (s:Nat),.pt 0 0,.sl 1 0 1 x.F,I (m:Nat),I (r:Nat)]
include ok hs in
theorem aHj {m r a:Nat} (hm:m<2^x.F) (ha:a<x.F) :
 aS 0 [1,2,5,10,11,73,74,75] (execW aA 40 0 none (match aEc with | .loop _ a=>a|c=>c) (aV [1,2,5,10,11,73,74,75] (s40 x s m r a)) (jF x (cE x)))=some (s40 x s (kJ (cE x) s m a) r (a+1),jF x (cE x)):=by
 have hF:=ok.F16
 have hp:=aU hF
 have a1:((a:Int)<(x.F:Int))=True:=eq_true (by omega)
 have a2:=dN ha (by omega)
 have n1:((0:Int)≤a)=True:=eq_true (by omega)
 have n0:((a:Int)<0)=False:=eq_false (by omega)
 have k1:=dR ok x.ps.length a
 rw[show wW x x.ps.length=cE x from rfl]at k1
 have q1:=lV (n:=x.F) (st:=cE x) ha
 have y1:=gE x.F (cE x)
 have e:=aIZ bY (a:=m) (i:=a) (by omega) (by omega)
 have o1:=iI bY (a:=cE x a) (b:=s) (by omega) (by omega)
 have dl:=fS (cE x a) s
 have o2:=dF bY (a:=m) (b:=eO (cE x a) s) (by omega) (by omega)
 unfold kJ
 generalize eO (cE x a) s=dd at *
 generalize cE x a=sa at *
 unfold aEc
 dsimp only
 cases hb:m.testBit a
 ·rw[hb]at e
  have e:=e.trans (eq_false (by simp))
  simp only[Bool.false_eq_true,if_false]
  (sym=>(simp[bD,Za,Zb,Zf,Zh,Zl,Zm,Zv,Z3,ZA,ZH,Yh,Yl,Yo,Yr,Ys,Yu,Yy,Yz,YX,Xc,Xd,Xr,Xw,Xx,Wz,W0,W3,WB,WC,WF,WG,WI,WJ,WK,WM,WO,WP,WQ,WR,WW,WX,Vd,VP,VQ,VR,VS,VT,VU,VY,VZ,Ua,Ub,Uc,Ue,Uj,Ut,Uv,Uw,Ux,Uy,U2,U3,U4,U5,Td,Te,Ti,Ts,Tt,Tv,Tx,Ty,T1,T5,T6,T7,TI,TJ,TK,a1,a2,n1,n0,q1,y1,e,o1,o2];all_goals tactic=>exact rfl))
 ·rw[hb]at e
  have e:=e.trans (eq_true rfl)
  simp only[if_true]
  (sym=>(simp[bD,Za,Zb,Zf,Zh,Zl,Zm,Zv,Z3,ZA,ZH,Yh,Yl,Yo,Yp,Yr,Ys,Yu,Yy,Yz,YX,Xc,Xd,Xr,Xw,Xx,Wz,W0,W3,WB,WC,WF,WG,WI,WJ,WK,WM,WO,WP,WQ,WR,WW,WX,Vd,VP,VQ,VR,VS,VT,VY,VZ,Ua,Ub,Uc,Ue,Uj,Ut,Uv,Uw,Ux,U2,U3,U4,U5,Td,Te,Ti,Ts,Tt,Tv,Tx,Ty,T1,T5,T6,T7,TI,TJ,TK,SA,a1,a2,n1,n0,q1,y1,e,o1,o2];all_goals tactic=>exact rfl))
include ok hs in
theorem aHi {m r:Nat} (hm:m<2^x.F) (hr:r<x.F) :
 aS 0 [1,2,5,10,11] (execW aA 40 0 none (match aBt with | .loop _ a=>a|c=>c) (aV [1,2,5,10,11] (t40 x s m r)) (jF x (cE x)))=some (t40 x s (wA (cE x) s m x.F) (r+1),jF x (cE x)):=by
 have hF:=ok.F16
 have a1:((r:Int)<(x.F:Int))=True:=eq_true (by omega)
 have a2:=dN hr (by omega)
 have z:=Tc (n:=(x.F:Int))
 have rd:=fun a (ha:a<x.F)=>aHj ok hs (m:=wA (cE x) s m a) (r:=r) (aEj (dR ok _) hm a) ha
 have w0:wA (cE x) s m 0=m:=rfl
 generalize hw:wA (cE x) s m x.F=mF at *
 unfold aBt
 dsimp only
 sym =>
  simp[bD,Za,Zb,Zf,Zh,Zl,Zm,Zv,Z3,Z8,ZG,ZH,Yc,Yf,Yu,Wz,W0,W3,WA,VP,VS,VT,Ux,Td,Te,Ti,Ts,Tt,Tv,Tx,Ty,T6,T7,a1,a2]
  tactic =>
   unfold aEc
   rw[aE x.F (fun a=>s40 x s (wA (cE x) s m a) r a) (fun _=>jF x (cE x))]
   ·rw[hw]; (sym=>(simp[bD,Za,Zb,Zf,Zh,Zl,Zm,Zv,Z3,Yl,Yu,YX,Xc,Xd,Xr,Xw,Xx,Wz,WB,WC,WF,WG,WI,WJ,WK,WM,WO,WP,WQ,WR,WW,WX,Vd,VP,VQ,VR,VS,VU,VY,VZ,Ua,Ub,Uc,Ue,Uj,Uw,Uy,U2,U3,U4,U5,Tc,Ts,Tt,Tw,Ty,Tz,T1,T4,T5,T6,T7,TK,z,a2];all_goals tactic=>exact rfl))
   ·rw[w0]; (sym=>(simp[bD,Za,YB,YX,Xc,Xd,Xr,Xw,Xx,Wz,WB,WC,WF,WG,WI,WJ,WK,WM,WO,WP,WQ,WR,WW,WX,Vd,VP,VQ,VR,VY,VZ,Ua,Ub,Uc,Ue,Uj,Uv,Uw,U2,U3,U4,U5,T5,TK];all_goals tactic=>exact rfl))
   ·intro a ha
    rw[aBx]
    exact rd a ha
   ·rw[hw]; (sym=>(simp[bD,Za,Zb,Zf,Zh,Zl,Zm,Z3,Yu,VP,VS,VU,VV,Uy,Tc,Ts,Tt,Tw,Ty,Tz,T6,z,a2];all_goals tactic=>exact rfl))
include ok hs in
theorem w40:runW aA 40 [.agg x.c,I (s:Nat)] []=some (.bool (!dH (cE x) x.sick x.nur s),[]):=by
 have hF:=ok.F16
 have hF1:=ok.F1
 have hp:=aU hF
 have h1:=ok.s
 have h2:=ok.n
 have zb:=Tc (n:=(x.bs.length:Int))
 have zp:=Tc (n:=(x.ps.length:Int))
 have zF:=Tc (n:=(x.F:Int))
 have o1:=iI bY (a:=x.sick) (b:=s) (by omega) (by omega)
 have it:∀ k,rX (fun m=>wA (cE x) s m x.F) k (eO x.sick s)<2^x.F:=fun k=>by
  induction k with
  | zero=>exact tU ok.s
  | succ k ih=>exact aEj (dR ok _) ih _
 have hr:=aFm ok hs
 have hl:=it x.F
 rw[hr]at hl
 have o2:=kS bY (a:=eT (cE x) x.sick s) (b:=x.nur) (by omega) (by omega)
 have m0:List.map (AV.int .i64) (List.replicate x.F 0)=fC x.F (wX x 0):=by
  rw[show fC x.F (wX x 0)=fC x.F (fun _=>0) from rfl,←aFR];simp
 have m1:wW x 0=wX x x.bs.length:=rfl
 have m2:wW x x.ps.length=cE x:=rfl
 have hf:(List.replicate x.F [I 0]).flatten=fC x.F (fun _=>0):=by rw[←aFR];simp
 have c1:((x.F:Int)<0)=False:=eq_false (by omega)
 have c2:((x.F:Int)≤(x.F:Int))=True:=eq_true (by omega)
 have c3:(8*(x.F:Int)≤281474976710656)=True:=eq_true (by omega)
 have c4:((x.F:Int)≤9223372036854775807)=True:=eq_true (by omega)
 have c5:((x.F:Int)).toNat=x.F:=Int.toNat_natCast _
 have c6:((0:Int)≤(x.F:Int))=True:=eq_true (by omega)
 have i0:rX (fun m=>wA (cE x) s m x.F) 0 (eO x.sick s)=eO x.sick s:=rfl
 have rdd:=fun r (hr:r<x.F)=>aHi ok hs (m:=rX (fun m=>wA (cE x) s m x.F) r (eO x.sick s)) (r:=r) (it r) hr
 have hz:(((eT (cE x) x.sick s&&&x.nur:Nat):Int)=0)=False∧dH (cE x) x.sick x.nur s=false∨(((eT (cE x) x.sick s&&&x.nur:Nat):Int)=0)=True∧dH (cE x) x.sick x.nur s=true:=by
  unfold dH
  rcases Nat.eq_zero_or_pos (eT (cE x) x.sick s&&&x.nur)with hz|hz
  ·exact .inr ⟨eq_true (by omega),decide_eq_true hz⟩
  ·exact .inl ⟨eq_false (by omega),decide_eq_false (by omega)⟩
 generalize eT (cE x) x.sick s&&&x.nur=rn at *
 rcases hz with ⟨hz,hv⟩|⟨hz,hv⟩
 ·rw[hv]
  rw[r40 (by simp)];unfold x40;dsimp only
  sym =>
   simp[bD,Za,Zb,Zf,Zh,Zl,Zm,Zo,Zv,Zz,Z8,ZC,ZG,ZH,Yc,Ye,Yy,Yz,YO,Xi,Xk,Xl,We,Wg,Wi,Ws,Wz,W0,W3,W9,WA,VN,VX,Ua,Ub,Uf,Ug,Uh,Ul,Uq,Ut,U6,U7,UC,UD,UN,UO,UT,UU,Td,Te,Ti,Tl,Tt,Tx,Ty,T6,T7,TP,c1,c2,c3,c4,c5,c6,hf]
   tactic =>
    unfold aBv
    rw[aE x.bs.length (fun i=>[I (s:Nat),.pt 0 0,.sl 1 0 1 x.F,rB (x.bs.map bI),I x.bs.length,I (i:Nat)]) (fun i=>jF x (wX x i))]
    ·rw[←m1]
     sym =>
      simp[bD,Za,Zb,Zf,Zh,Zl,Zm,Zv,Z3,Z8,ZG,ZH,Yc,Ye,Yu,Wz,W0,W3,WA,VP,VS,VU,Uh,Uy,Tc,Td,Te,Ti,Ts,Tt,Tw,Tx,Ty,Tz,T4,T6,T7,zb]
      tactic =>
       unfold aBu
       rw[aE x.ps.length (fun i=>[I (s:Nat),.pt 0 0,.sl 1 0 1 x.F,rP (x.ps.map pI),I x.ps.length,I (i:Nat)]) (fun i=>jF x (wW x i))]
       ·rw[m2]
        sym =>
         simp[bD,Za,Zb,Zf,Zh,Zl,Zm,Zv,Z3,Z8,ZH,Yc,Yu,Wz,W0,W3,WA,VP,VS,VU,Uy,Tc,Td,Te,Ti,Ts,Tt,Tw,Tx,Ty,Tz,T4,T6,T7,SA,zp,o1]
         tactic =>
          unfold aBt
          rw[aE x.F (fun r=>t40 x s (rX (fun m=>wA (cE x) s m x.F) r (eO x.sick s)) r) (fun _=>jF x (cE x))]
          ·rw[hr]; (sym=>(simp[bD,Za,Zb,Zf,Zh,Zl,Zm,Zv,Z3,Z8,ZH,Yc,Yo,Yt,Yu,YY,Xs,XK,Wf,Wz,W0,W3,WA,WI,WM,WO,WP,WQ,Vu,V8,V9,VB,VC,VD,VE,VF,VI,VJ,VK,VL,VP,VS,VU,VZ,Uc,Ue,Uq,Uy,U2,U3,Tc,Td,Te,Ti,Ts,Tt,Tu,Tw,Ty,Tz,T4,T6,T7,Su,zF,o2,hz];all_goals tactic=>exact rfl))
          ·rw[i0]; (sym=>(simp[bD,Za,YB,YX,Xc,Xd,Xr,Xw,Xx,Wz,WB,WC,WF,WG,WI,WJ,WK,WM,WO,WP,WQ,WR,WW,WX,Vd,VP,VQ,VR,VY,VZ,Ua,Ub,Uc,Ue,Uj,Uw,U2,U3,U4,U5,T5,TK];all_goals tactic=>exact rfl))
          ·exact rdd
          ·rw[hr]; (sym=>(simp[bD,Za,Zb,Zf,Zh,Zl,Zm,Zv,Z3,Z8,ZH,Yc,Yu,Wz,W0,W3,WA,VP,VS,VU,VV,Uy,Tc,Td,Te,Ti,Ts,Tt,Tw,Ty,Tz,T6,zF];all_goals tactic=>exact rfl))
       ·(sym=>(simp[bD,Za,YB,YX,Xb,Xc,Xd,Xr,Xv,Xw,Xx,Wz,WB,WC,WF,WG,WI,WJ,WK,WM,WO,WP,WQ,WR,WW,WX,Vd,VP,VQ,VR,VY,VZ,Ua,Ub,Uc,Ue,Uj,Uw,U2,U3,U4,U5,T5,TK];all_goals tactic=>exact rfl))
       ·exact fun i hi=>aBL ok s hi
       ·rw[m2]; (sym=>(simp[bD,Za,Zb,Zf,Zh,Zl,Zm,Z3,Yu,VP,VS,VU,VV,Uy,Tc,Ts,Tt,Tw,Ty,Tz,T6,zp];all_goals tactic=>exact rfl))
    ·(sym=>(simp[bD,Za,YB,YX,Xb,Xc,Xd,Xr,Xv,Xw,Xx,Wz,W9,WB,WC,WF,WG,WI,WJ,WK,WM,WO,WP,WQ,WR,WW,WX,Vd,VN,VQ,VR,VY,VZ,Ua,Ub,Uc,Ue,Uj,Uw,U2,U3,U4,U5,T5,TK,m0];all_goals tactic=>exact rfl))
    ·exact fun i hi=>aBM ok s hi
    ·(sym=>(simp[bD,Za,Zb,Zf,Zh,Zl,Zm,Z3,Yu,VP,VS,VU,VV,Uy,Tc,Ts,Tt,Tw,Ty,Tz,T6,zb];all_goals tactic=>exact rfl))
 ·rw[hv]
  rw[r40 (by simp)];unfold x40;dsimp only
  sym =>
   simp[bD,Za,Zb,Zf,Zh,Zl,Zm,Zo,Zv,Zz,Z8,ZC,ZG,ZH,Yc,Ye,Yy,Yz,YO,Xi,Xk,Xl,We,Wg,Wi,Ws,Wz,W0,W3,W9,WA,VN,VX,Ua,Ub,Uf,Ug,Uh,Ul,Uo,Ut,U6,U7,UC,UD,UN,UO,UT,UU,Td,Te,Ti,Tl,Tt,Tx,Ty,T6,T7,TP,c1,c2,c3,c4,c5,c6,hf]
   tactic =>
    unfold aBv
    rw[aE x.bs.length (fun i=>[I (s:Nat),.pt 0 0,.sl 1 0 1 x.F,rB (x.bs.map bI),I x.bs.length,I (i:Nat)]) (fun i=>jF x (wX x i))]
    ·rw[←m1]
     sym =>
      simp[bD,Za,Zb,Zf,Zh,Zl,Zm,Zv,Z3,Z8,ZG,ZH,Yc,Ye,Yu,Wz,W0,W3,WA,VP,VS,VU,Uh,Uy,Tc,Td,Te,Ti,Ts,Tt,Tw,Tx,Ty,Tz,T4,T6,T7,zb]
      tactic =>
       unfold aBu
       rw[aE x.ps.length (fun i=>[I (s:Nat),.pt 0 0,.sl 1 0 1 x.F,rP (x.ps.map pI),I x.ps.length,I (i:Nat)]) (fun i=>jF x (wW x i))]
       ·rw[m2]
        sym =>
         simp[bD,Za,Zb,Zf,Zh,Zl,Zm,Zv,Z3,Z8,ZH,Yc,Yu,Wz,W0,W3,WA,VP,VS,VU,Uy,Tc,Td,Te,Ti,Ts,Tt,Tw,Tx,Ty,Tz,T4,T6,T7,SA,zp,o1]
         tactic =>
          unfold aBt
          rw[aE x.F (fun r=>t40 x s (rX (fun m=>wA (cE x) s m x.F) r (eO x.sick s)) r) (fun _=>jF x (cE x))]
          ·rw[hr]; (sym=>(simp[bD,Za,Zb,Zf,Zh,Zl,Zm,Zv,Z3,Z8,ZH,Yc,Yo,Yt,Yu,YY,Xs,XK,Wf,Wz,W0,W3,WA,WI,WM,WO,WP,WQ,Vu,V8,V9,VB,VC,VD,VE,VF,VI,VJ,VK,VL,VP,VS,VU,VZ,Uc,Ue,Uo,Ux,Uy,U2,U3,Tc,Td,Te,Ti,Ts,Tt,Tu,Tw,Ty,Tz,T4,T6,T7,Su,zF,o2,hz];all_goals tactic=>exact rfl))
          ·rw[i0]; (sym=>(simp[bD,Za,YB,YX,Xc,Xd,Xr,Xw,Xx,Wz,WB,WC,WF,WG,WI,WJ,WK,WM,WO,WP,WQ,WR,WW,WX,Vd,VP,VQ,VR,VY,VZ,Ua,Ub,Uc,Ue,Uj,Uw,U2,U3,U4,U5,T5,TK];all_goals tactic=>exact rfl))
          ·exact rdd
          ·rw[hr]; (sym=>(simp[bD,Za,Zb,Zf,Zh,Zl,Zm,Zv,Z3,Z8,ZH,Yc,Yu,Wz,W0,W3,WA,VP,VS,VU,VV,Uy,Tc,Td,Te,Ti,Ts,Tt,Tw,Ty,Tz,T6,zF];all_goals tactic=>exact rfl))
       ·(sym=>(simp[bD,Za,YB,YX,Xb,Xc,Xd,Xr,Xv,Xw,Xx,Wz,WB,WC,WF,WG,WI,WJ,WK,WM,WO,WP,WQ,WR,WW,WX,Vd,VP,VQ,VR,VY,VZ,Ua,Ub,Uc,Ue,Uj,Uw,U2,U3,U4,U5,T5,TK];all_goals tactic=>exact rfl))
       ·exact fun i hi=>aBL ok s hi
       ·rw[m2]; (sym=>(simp[bD,Za,Zb,Zf,Zh,Zl,Zm,Z3,Yu,VP,VS,VU,VV,Uy,Tc,Ts,Tt,Tw,Ty,Tz,T6,zp];all_goals tactic=>exact rfl))
    ·(sym=>(simp[bD,Za,YB,YX,Xb,Xc,Xd,Xr,Xv,Xw,Xx,Wz,W9,WB,WC,WF,WG,WI,WJ,WK,WM,WO,WP,WQ,WR,WW,WX,Vd,VN,VQ,VR,VY,VZ,Ua,Ub,Uc,Ue,Uj,Uw,U2,U3,U4,U5,T5,TK,m0];all_goals tactic=>exact rfl))
    ·exact fun i hi=>aBM ok s hi
    ·(sym=>(simp[bD,Za,Zb,Zf,Zh,Zl,Zm,Z3,Yu,VP,VS,VU,VV,Uy,Tc,Ts,Tt,Tw,Ty,Tz,T6,zb];all_goals tactic=>exact rfl))
end
def zI (x:Vn) (k t:Nat):Bool:=decide (bK t=k)&&qL x t
def sT (x:Vn) (k i:Nat):Nat:=((List.range i).filter (zI x k)).length
def qZ (x:Vn) (k i f:Nat):Nat:=((List.range i).filter fun t=>zI x k t&&t.testBit f).length
theorem aMG (x:Vn) (k i:Nat):sT x k (i+1)=sT x k i+(if zI x k i then 1 else 0):=by
 unfold sT
 rw[List.range_succ,List.filter_append,List.length_append]
 cases h:zI x k i<;>simp[h]
theorem aGn (x:Vn) (k i f:Nat):qZ x k (i+1) f=qZ x k i f+(if zI x k i&&i.testBit f then 1 else 0):=by
 unfold qZ
 rw[List.range_succ,List.filter_append,List.length_append]
 cases h:zI x k i&&i.testBit f<;>simp[h]
theorem aMH (x:Vn) (k i:Nat):sT x k i≤i:=by
 have:=List.length_filter_le (zI x k) (List.range i)
 simpa [sT]using this
theorem aLv (x:Vn) (k i f:Nat):qZ x k i f≤i:=by
 have:=List.length_filter_le (fun t=>zI x k t&&t.testBit f) (List.range i)
 simpa [qZ]using this
def rs (w:Nat→Nat) (t j:Nat):Nat→Nat:=fun f=>if f<j then w f+(if t.testBit f then 1 else 0) else w f
theorem aNv (w:Nat→Nat) (t j:Nat):jC (rs w t j) j (w j+(if t.testBit j then 1 else 0))=rs w t (j+1):=by
 funext f
 unfold jC rs
 by_cases h:f=j
 ·subst h;rw[if_pos rfl,if_pos (show f<f+1 by omega)]
 ·rw[if_neg h]
  by_cases h2:f<j
  ·rw[if_pos h2,if_pos (show f<j+1 by omega)]
  ·rw[if_neg h2,if_neg (show ¬f<j+1 by omega)]
theorem aCq {n:Nat} {st st':Nat→Nat} (h:∀ k,k<n→st k=st' k):fC n st=fC n st':=by
 unfold fC
 exact List.map_congr_left fun k hk=>by rw[h k (List.mem_range.1 hk)]
section
variable {x:Vn} (ok:x.Ok)
abbrev aLK (x:Vn) (c k t f:Nat):List AV:=[.pt 0 0,I (-1),I (c:Nat),.sl 1 0 1 x.F,I (k:Nat),I (t:Nat),I x.F,I (f:Nat)]
abbrev aGT (x:Vn) (c k t:Nat):List AV:=[.pt 0 0,I (-1),I (c:Nat),.sl 1 0 1 x.F,I (k:Nat),I (t:Nat)]
include ok in
theorem aHk {c k t f:Nat} {w:Nat→Nat} (ht:t<65536) (hf:f<x.F) (hw:∀ f,w f≤65536) :
 aS 0 [1,2,3,4,5,6,43,44] (execW aA 39 0 none (match aEd with | .loop _ a=>a|c=>c) (aV [1,2,3,4,5,6,43,44] (aLK x c k t f)) (jF x (rs w t f)))=some (aLK x c k t (f+1),jF x (rs w t (f+1))):=by
 have hF:=ok.F16
 have a1:((f:Int)<(x.F:Int))=True:=eq_true (by omega)
 have a2:=dN hf (by omega)
 have n1:((0:Int)≤f)=True:=eq_true (by omega)
 have n0:((f:Int)<0)=False:=eq_false (by omega)
 have q1:=lV (n:=x.F) (st:=rs w t f) hf
 have q2:rs w t f f=w f:=by unfold rs;rw[if_neg (by omega)]
 rw[q2]at q1
 have y1:=gE x.F (rs w t f)
 have e:=uC bY (a:=t) (i:=f) (by omega) (by omega)
 have e2:IntKind.i64.wrap ((w f:Int)+(if t.testBit f then 1 else 0))=((w f+(if t.testBit f then 1 else 0):Nat):Int):=by
  have:=hw f
  cases t.testBit f
  ·simp only[Bool.false_eq_true,if_false];exact aD (by omega) (by omega)
  ·simp only[if_true];rw[aD (by omega) (by omega)];omega
 have s1:=tT (n:=x.F) (st:=rs w t f) (k:=f) (v:=w f+(if t.testBit f then 1 else 0)) hf
 rw[aNv]at s1
 have t1:(f+1≤x.F)=True:=eq_true (by omega)
 generalize rs w t (f+1)=st1 at *
 generalize rs w t f=st0 at *
 generalize w f=wf at *
 unfold aEd
 dsimp only
 cases hb:t.testBit f
 ·rw[hb]at e e2 s1
  simp only[Bool.false_eq_true,if_false]at e e2 s1
  (sym=>(simp[bD,Za,Zb,Zc,Zf,Zh,Zi,Zl,Zm,Zv,Z3,ZA,ZI,ZK,ZL,ZN,ZO,Yh,Yl,Yo,Yr,Yu,Yy,Yz,YX,Xc,Xd,Xi,Xr,Xw,Xx,Wq,Wy,Wz,W0,W3,W4,WB,WC,WF,WG,WI,WJ,WK,WM,WO,WP,WQ,WR,WW,WX,Vd,Vk,VP,VQ,VR,VS,VT,VY,VZ,Ua,Ub,Uc,Ue,Uf,Ug,Uj,Ul,Uq,Ur,Ut,Uw,Ux,Uz,U0,U2,U3,U4,U5,U6,U7,Td,Te,Ti,Tj,Tk,Ts,Tt,Tv,Tx,Ty,T1,T5,T6,T7,TI,TJ,TK,Ss,a1,a2,n1,n0,q1,y1,e,e2,s1,t1];all_goals tactic=>exact rfl))
 ·rw[hb]at e e2 s1
  simp only[if_true]at e e2 s1
  (sym=>(simp[bD,Za,Zb,Zc,Zf,Zh,Zi,Zl,Zm,Zv,Z3,ZA,ZI,ZK,ZL,ZN,ZO,Yh,Yl,Yo,Yr,Yu,Yy,Yz,YX,Xc,Xd,Xi,Xr,Xw,Xx,Wq,Wy,Wz,W0,W3,W4,WB,WC,WF,WG,WI,WJ,WK,WM,WO,WP,WQ,WR,WW,WX,Vd,Vk,VP,VQ,VR,VS,VT,VY,VZ,Ua,Ub,Uc,Ue,Uf,Ug,Uj,Ul,Uq,Ur,Ut,Uw,Ux,Uz,U0,U2,U3,U4,U5,U6,U7,Td,Te,Ti,Tj,Tk,Ts,Tt,Tv,Tx,Ty,T1,T5,T6,T7,TI,TJ,TK,Ss,a1,a2,n1,n0,q1,y1,e,e2,s1,t1];all_goals tactic=>exact rfl))
include ok in
theorem aBO {k t:Nat} (hk:k≤16) (ht:t<2^x.F) :
 aS 0 [1,2,3,4,5,6] (execW aA 39 0 none (match qX with | .loop _ a=>a|c=>c) (aV [1,2,3,4,5,6] (aGT x (sT x k t) k t)) (jF x (qZ x k t)))=some (aGT x (sT x k (t+1)) k (t+1),jF x (qZ x k (t+1))):=by
 have hF:=ok.F16
 have hp:=aU hF
 have hfx:=ok.f
 have e:=jQ bY (i:=x.F) (by omega)
 have n0:((x.F:Int)<0)=False:=eq_false (by omega)
 have a1:((t:Int)<((2^x.F:Nat):Int))=True:=eq_true (by omega)
 have a2:=dN ht (by omega)
 have e42:=w42 (a:=t) (by omega)
 have e40:=w40 ok (s:=t) (by omega)
 have o1:=kS bY (a:=t) (b:=x.fix) (by omega) (by omega)
 have zF:=Tc (n:=(x.F:Int))
 have hc:=aMH x k t
 have hw:=fun f=>Nat.le_trans (aLv x k t f) (show t≤65536 by omega)
 have a3:IntKind.i64.wrap ((sT x k t:Int)+1)=((sT x k t+1:Nat):Int):=by rw[aD (by omega) (by omega)];omega
 have rd:=fun f (hf:f<x.F)=>aHk ok (c:=sT x k t+1) (k:=k) (t:=t) (f:=f) (by omega) hf hw
 have w0:rs (qZ x k t) t 0=qZ x k t:=by funext f;unfold rs;rw[if_neg (by omega)]
 rw[aMG]
 have wu:zI x k t=false→qZ x k (t+1)=qZ x k t:=fun h=>by funext f;rw[aGn,h];simp
 have wu2:zI x k t=true→fC x.F (rs (qZ x k t) t x.F)=fC x.F (qZ x k (t+1)):=fun h=>aCq fun f hf=>by
  rw[aGn,h];unfold rs;rw[if_pos hf];simp
 by_cases h1:bK t=k
 ·have c1:(bK t=k)=True:=eq_true h1
  have d1:((bK t:Int)=(k:Int))=True:=eq_true (by omega)
  by_cases h2:t&&&x.fix=0
  ·have d2:(((t&&&x.fix:Nat):Int)=0)=True:=eq_true (by omega)
   cases h3:dH (cE x) x.sick x.nur t
   ·have hb:zI x k t=false:=by unfold zI qL;rw[h3];simp
    rw[wu hb,hb]
    rw[h3]at e40
    unfold qX
    dsimp only
    (sym=>(simp[bD,Za,Zb,Zf,Zg,Zh,Zj,Zl,Zm,Zp,Zr,Zv,Zy,Z3,Z8,ZH,ZP,ZQ,ZU,ZV,ZX,Yc,Yl,Yo,Yq,Yt,Yu,Yz,YX,YZ,Xb,Xc,Xd,Xr,Xs,Xt,Xv,Xw,Xx,Wz,W0,W3,W5,W6,W7,W8,WA,WB,WC,WF,WG,WI,WJ,WK,WL,WM,WN,WO,WP,WQ,WR,WS,WT,WW,WX,Vd,Vg,Vh,Vi,Vu,Vw,Vx,Vz,V0,V2,VP,VQ,VR,VS,VT,VX,VY,VZ,Ua,Ub,Uc,Ue,Uf,Ug,Uj,Uo,Uq,Uw,Ux,U1,U2,U3,U4,U5,Td,Te,Th,Ti,Ts,Tt,Tv,Tw,Tx,Ty,Tz,T4,T5,T6,T7,TK,SB,SC,SD,SF,SG,SI,e,n0,a1,a2,e42,e40,o1,d1,d2];all_goals tactic=>exact rfl))
   ·have hb:zI x k t=true:=by unfold zI qL;rw[h3,decide_eq_true h1,decide_eq_true h2];rfl
    have wu2:=wu2 hb
    rw[hb,if_pos rfl]
    rw[h3]at e40
    generalize sT x k t+1=c1 at *
    generalize qZ x k (t+1)=wN at *
    generalize hwF:rs (qZ x k t) t x.F=wF at *
    generalize qZ x k t=w at *
    unfold qX
    dsimp only
    sym =>
     simp[bD,Za,Zb,Zf,Zg,Zh,Zj,Zl,Zm,Zp,Zr,Zv,Zy,Z3,Z8,ZG,ZH,ZP,ZQ,ZU,ZV,ZX,Yc,Yf,Yl,Yo,Yq,Yt,Yu,Yz,YX,YZ,Xb,Xr,Xs,Xt,Xv,Wz,W0,W3,W5,W6,W7,W8,WA,WI,WL,WN,WS,WT,Vg,Vh,Vi,Vu,Vw,Vx,Vz,V0,V2,VP,VS,VT,VU,VY,VZ,Ub,Uc,Uf,Ug,Uo,Ux,U1,U2,U3,U4,U5,Td,Te,Th,Ti,Ts,Tt,Tv,Tx,Ty,T6,T7,SB,SC,SD,SF,SG,SI,e,n0,a1,e42,e40,o1,d1,d2,a3]
     tactic =>
      unfold aEd
      rw[aE x.F (fun f=>aLK x c1 k t f) (fun f=>jF x (rs w t f))]
      ·rw[hwF]; (sym=>(simp[bD,Za,Zb,Zf,Zh,Zl,Zm,Zv,Z3,Yl,Yu,YX,Xc,Xd,Xr,Xw,Xx,Wz,WB,WC,WF,WG,WI,WJ,WK,WM,WO,WP,WQ,WR,WW,WX,Vd,VP,VQ,VR,VS,VU,VY,VZ,Ua,Ub,Uc,Ue,Uj,Uw,Uy,U2,U3,U4,U5,Tc,Ts,Tt,Tw,Ty,Tz,T1,T4,T5,T6,T7,TK,zF,wu2,a2];all_goals tactic=>exact rfl))
      ·rw[w0]; (sym=>(simp[bD,Za,YB,YX,Xc,Xd,Xr,Xw,Xx,Wz,WB,WC,WF,WG,WI,WJ,WK,WM,WO,WP,WQ,WR,WW,WX,Vd,VP,VQ,VR,VY,VZ,Ua,Ub,Uc,Ue,Uj,Uw,U2,U3,U4,U5,T5,TK];all_goals tactic=>exact rfl))
      ·exact rd
      ·rw[hwF]; (sym=>(simp[bD,Za,Zb,Zf,Zh,Zl,Zm,Z3,Yu,VP,VS,VU,VV,Uy,Tc,Ts,Tt,Tw,Ty,Tz,T6,zF,wu2,a2];all_goals tactic=>exact rfl))
  ·have hb:zI x k t=false:=by unfold zI qL;rw[decide_eq_false h2];simp
   have d2:(((t&&&x.fix:Nat):Int)=0)=False:=eq_false (by omega)
   rw[wu hb,hb]
   unfold qX
   dsimp only
   (sym=>(simp[bD,Za,Zb,Zf,Zg,Zh,Zj,Zl,Zm,Zp,Zr,Zt,Zv,Zy,Z3,Z8,ZH,ZP,ZQ,ZU,ZV,ZW,ZX,Yc,Yl,Yo,Yq,Yt,Yu,Yz,YX,Xc,Xd,Xr,Xw,Xx,Wz,W0,W3,W8,WA,WB,WC,WF,WG,WI,WJ,WK,WL,WM,WN,WO,WP,WQ,WR,WS,WT,WW,WX,Vd,Vg,Vh,Vi,Vu,Vw,Vx,Vz,V0,V2,VP,VQ,VR,VS,VT,VX,VY,VZ,Ua,Ub,Uc,Ue,Uf,Ug,Uj,Uo,Uq,Uw,Ux,Uy,U1,U2,U3,U4,U5,Td,Te,Ti,Ts,Tt,Tv,Tw,Tx,Ty,Tz,T4,T5,T6,T7,TK,SB,SC,SD,SF,SG,SI,e,n0,a1,a2,e42,o1,d1,d2];all_goals tactic=>exact rfl))
 ·have hb:zI x k t=false:=by unfold zI;rw[decide_eq_false h1];rfl
  have d1:((bK t:Int)=(k:Int))=False:=eq_false (by omega)
  rw[wu hb,hb]
  unfold qX
  dsimp only
  (sym=>(simp[bD,Za,Zb,Zf,Zg,Zh,Zj,Zl,Zm,Zp,Zt,Zv,Zy,Z3,Z8,ZH,ZP,ZQ,ZU,ZV,ZW,Yc,Yl,Yq,Yt,Yu,Yz,YX,Xc,Xd,Xr,Xw,Xx,Wz,W0,W3,W8,WA,WB,WC,WF,WG,WI,WJ,WK,WL,WM,WN,WO,WP,WQ,WR,WS,WT,WW,WX,Vd,Vg,Vh,Vi,Vu,Vw,Vx,Vz,V0,V2,VP,VQ,VR,VS,VT,VX,VY,VZ,Ua,Ub,Uc,Ue,Uf,Ug,Uj,Uq,Uw,Ux,Uy,U1,U2,U3,U4,U5,Td,Te,Ti,Ts,Tt,Tv,Tw,Tx,Ty,Tz,T4,T5,T6,T7,TK,SB,SC,SD,SF,SG,SI,e,n0,a1,a2,e42,d1];all_goals tactic=>exact rfl))
end
abbrev aDu (x:Vn):XH:=[some (.blk true (.cells true x.c))]
abbrev aJF (k:Nat):List AV:=[.pt 0 0,I (-1),I 0,I (k:Nat)]
theorem aKJ (n:Nat) (w:Nat→Nat):bZ (fC n w) 0 1 n=(List.range n).map fun f=>[I (w f)]:=by
 have h:uD 1 ((List.range n).map fun f=>([I (w f)]:List AV)):=by
  intro r hr
  simp only[List.mem_map]at hr
  obtain⟨k,_,rfl⟩:=hr
  exact⟨rfl,rfl,rfl,rfl⟩
 have h2:=nM h
 rw[List.length_map,List.length_range]at h2
 rw[←h2]
 congr 1
 unfold fC
 generalize List.range n=l
 induction l with
 | nil=>rfl
 | cons a l ih=>simp[ih]
theorem aBN {x:Vn} (ok:x.Ok) {k:Nat} (hk:k≤x.F) (h0:sT x k (2^x.F)=0) :
 aS 0 [1,2,3,5] (execW aA 39 0 none (match aBw with | .loop _ a=>a|c=>c) (aV [1,2,3,5] (aJF k)) (aDu x))=some (aJF (k+1),aDu x):=by
 have hF:=ok.F16
 have hp:=aU hF
 have a1:((k:Int)≤(x.F:Int))=True:=eq_true (by omega)
 have a2:=dN (show k<17 by omega) (by omega)
 have e:=jQ bY (i:=x.F) (by omega)
 have n0:((x.F:Int)<0)=False:=eq_false (by omega)
 have z:(((2^x.F:Nat):Int)<((2^x.F:Nat):Int))=False:=eq_false (by omega)
 have c2:((x.F:Int)≤(x.F:Int))=True:=eq_true (by omega)
 have c3:(8*(x.F:Int)≤281474976710656)=True:=eq_true (by omega)
 have c4:((x.F:Int)≤9223372036854775807)=True:=eq_true (by omega)
 have c5:((x.F:Int)).toNat=x.F:=Int.toNat_natCast _
 have c6:((0:Int)≤(x.F:Int))=True:=eq_true (by omega)
 have m0:List.map (AV.int .i64) (List.replicate x.F 0)=fC x.F (qZ x k 0):=by
  rw[show fC x.F (qZ x k 0)=fC x.F (fun _=>0) from rfl,←aFR];simp
 have z0:sT x k 0=0:=rfl
 have rd:=fun t (ht:t<2^x.F)=>aBO ok (k:=k) (by omega) ht
 generalize hN:2^x.F=N at *
 unfold aBw
 dsimp only
 sym =>
  simp[bD,Za,Zb,Zf,Zh,Zl,Zm,Zo,Zv,Z3,Z8,ZC,ZH,Yc,Yv,Yy,Yz,YO,Xi,Wz,W0,W3,WA,VP,VS,VT,Ua,Ub,Uf,Ug,Ul,Ut,Ux,U6,U7,UT,UU,Td,Te,Ti,Tl,Ts,Tt,Tv,Tx,Ty,T6,T7,TP,a1,c2,c3,c4,c5,c6,n0]
  tactic =>
   unfold qX
   rw[aE N (fun t=>aGT x (sT x k t) k t) (fun t=>jF x (qZ x k t))]
   ·rw[h0]; (sym=>(simp[bD,Za,Zb,Zf,Zh,Zl,Zm,Zv,Z3,Z8,ZH,Yc,Yl,Yq,Yu,Yw,Yz,YB,YX,Xd,Xr,Xx,Wz,W0,W3,WA,WB,WF,WG,WI,WJ,WK,WM,WO,WP,WQ,WR,WW,WX,Vd,VP,VQ,VR,VS,VU,VY,VZ,Ub,Uc,Ue,Uj,Uw,Uy,U2,U3,U4,U5,Tc,Td,Te,Ti,Ts,Tt,Tv,Tw,Ty,Tz,T1,T4,T5,T6,T7,TK,e,n0,z,a2];all_goals tactic=>exact rfl))
   ·rw[z0]; (sym=>(simp[bD,Za,YB,YX,Xc,Xd,Xr,Xw,Xx,Wz,WB,WC,WF,WG,WI,WJ,WK,WM,WO,WP,WQ,WR,WW,WX,Vd,VP,VQ,VR,VY,VZ,Ua,Ub,Uc,Ue,Uj,Uw,U2,U3,U4,U5,T5,TK,m0];all_goals tactic=>exact rfl))
   ·exact rd
   ·rw[h0]; (sym=>(simp[bD,Za,Zb,Zf,Zh,Zl,Zm,Zv,Z3,Z8,ZH,Yc,Yq,Yu,Yz,YB,Wz,W0,W3,WA,VP,VS,VU,VV,Uy,Tc,Td,Te,Ti,Ts,Tt,Tw,Ty,Tz,T6,T7,e,n0,z,a2];all_goals tactic=>exact rfl))
theorem aOw {x:Vn} (ok:x.Ok) {n:Nat} (hn:n≤x.F) (h0:∀ k,k<n→sT x k (2^x.F)=0) (h1:sT x n (2^x.F)≠0) :
 runW aA 39 [.agg x.c] []=some (.tup [I (n:Nat),I (sT x n (2^x.F):Nat),nL (cM ((List.range x.F).map (qZ x n (2^x.F))))],[]):=by
 have hF:=ok.F16
 have hp:=aU hF
 have a1:((n:Int)≤(x.F:Int))=True:=eq_true (by omega)
 have e:=jQ bY (i:=x.F) (by omega)
 have n0:((x.F:Int)<0)=False:=eq_false (by omega)
 have z:(((2^x.F:Nat):Int)<((2^x.F:Nat):Int))=False:=eq_false (by omega)
 have c2:((x.F:Int)≤(x.F:Int))=True:=eq_true (by omega)
 have c3:(8*(x.F:Int)≤281474976710656)=True:=eq_true (by omega)
 have c4:((x.F:Int)≤9223372036854775807)=True:=eq_true (by omega)
 have c5:((x.F:Int)).toNat=x.F:=Int.toNat_natCast _
 have c6:((0:Int)≤(x.F:Int))=True:=eq_true (by omega)
 have m0:List.map (AV.int .i64) (List.replicate x.F 0)=fC x.F (qZ x n 0):=by
  rw[show fC x.F (qZ x n 0)=fC x.F (fun _=>0) from rfl,←aFR];simp
 have z0:sT x n 0=0:=rfl
 have rd:=fun t (ht:t<2^x.F)=>aBO ok (k:=n) (by omega) ht
 have rdc:=fun k (hk:k<n)=>aBN ok (k:=k) (by omega) (h0 k hk)
 have hres:nL (cM ((List.range x.F).map (qZ x n (2^x.F)))) = .fs ((List.range x.F).map fun f=>[I (qZ x n (2^x.F) f)]):=by
  unfold cM nL;rw[List.map_map,List.map_map];rfl
 rw[hres]
 have rows:=aKJ x.F (qZ x n (2^x.F))
 have c7:=gE x.F (qZ x n (2^x.F))
 have g1:((0:Int)<(sT x n (2^x.F):Int))=True:=eq_true (by omega)
 have k0:((0:Nat):Int)=0:=rfl
 generalize 2^x.F=N at *
 rw[r39 (by simp)];unfold x39;dsimp only
 sym =>
  simp[bD,Zb,Zf,Zh,Zl,Zo,Zv,Zz,Xi,Xk,Xl,We,Wg,Wi,Ws,W9,VN,VX,Ub,Ug,Ul,U6,U7,UC,UD,UN,UO,Tl,Tt,Tx,Ty,T6,T7]
  tactic =>
   unfold aBw
   rw[aE n (fun k=>aJF k) (fun _=>aDu x)]
   ·sym =>
    simp[bD,Za,Zb,Zf,Zh,Zl,Zm,Zo,Zv,Z3,Z8,ZC,ZH,Yc,Yv,Yy,Yz,YO,Xi,Wz,W0,W3,WA,VP,VS,VT,Ua,Ub,Uf,Ug,Ul,Ut,Ux,U6,U7,UT,UU,Td,Te,Ti,Tl,Ts,Tt,Tv,Tx,Ty,T6,T7,TP,a1,c2,c3,c4,c5,c6,n0]
    tactic =>
     unfold qX
     rw[aE N (fun t=>aGT x (sT x n t) n t) (fun t=>jF x (qZ x n t))]
     ·(sym=>(simp[bD,Za,Zb,Zf,Zh,Zl,Zm,Zv,Z3,Z8,ZH,Yc,Yq,Yu,Yw,Yz,YX,Xa,Xb,Xr,Xu,Xv,XJ,XM,XO,XX,XZ,Wb,We,Wh,Wi,Wz,W0,W3,W4,WA,WI,WM,WO,WP,WQ,Vr,Vs,Vt,Vu,Vv,V4,V6,V8,V9,VB,VC,VD,VE,VH,VI,VJ,VK,VL,VP,VS,VT,VU,VY,VZ,Ub,Uc,Ue,Ut,Ux,Uy,U2,U3,U4,U5,U8,U9,UA,UB,UC,UD,Tc,Td,Te,Ti,Ts,Tt,Tu,Tw,Ty,Tz,T0,T2,T4,T6,T7,TI,TJ,TL,Su,Sv,Sw,e,n0,z,g1,rows,c7];all_goals tactic=>exact rfl))
     ·rw[z0]; (sym=>(simp[bD,m0];all_goals tactic=>exact rfl))
     ·exact rd
     ·(sym=>(simp[bD,Za,Zb,Zf,Zh,Zl,Zm,Zv,Z3,Z8,ZH,Yc,Yq,Yu,Yz,Wz,W0,W3,WA,VP,VS,VU,VV,Uy,Tc,Td,Te,Ti,Ts,Tt,Tw,Ty,Tz,T6,T7,e,n0,z,g1];all_goals tactic=>exact rfl))
   ·(sym=>(simp[bD,Za,YB,YX,Xd,Xr,Xx,Wz,WB,WF,WG,WI,WJ,WK,WM,WO,WP,WQ,WR,WW,WX,Vd,VQ,VR,VY,VZ,Ub,Uc,Ue,Uj,Uw,U2,U3,U4,U5,T5,TK,k0];all_goals tactic=>exact rfl))
   ·exact rdc
   ·sym =>
    simp[bD,Za,Zb,Zf,Zh,Zl,Zm,Zo,Zv,Z3,Z8,ZC,ZH,Yc,Yv,Yy,Yz,YO,Xi,Wz,W0,W3,WA,VP,VS,VT,Ua,Ub,Uf,Ug,Ul,Ut,Ux,U6,U7,UT,UU,Td,Te,Ti,Tl,Ts,Tt,Tv,Tx,Ty,T6,T7,TP,a1,c2,c3,c4,c5,c6,n0]
    tactic =>
     unfold qX
     rw[aE N (fun t=>aGT x (sT x n t) n t) (fun t=>jF x (qZ x n t))]
     ·(sym=>(simp[bD,Za,Zb,Zf,Zh,Zl,Zm,Zv,Z3,Z8,ZH,Yc,Yq,Yu,Yw,Yz,Wz,W0,W3,WA,VP,VS,VT,VU,VW,Ux,Uy,Tc,Td,Te,Ti,Ts,Tt,Tu,Tw,Ty,Tz,T0,T2,T4,T6,T7,e,n0,z,g1,rows,c7];all_goals tactic=>exact rfl))
     ·rw[z0]; (sym=>(simp[bD,m0];all_goals tactic=>exact rfl))
     ·exact rd
     ·(sym=>(simp[bD,Za,Zb,Zf,Zh,Zl,Zm,Zv,Z3,Z8,ZH,Yc,Yq,Yu,Yz,Wz,W0,W3,WA,VP,VS,VU,VV,Uy,Tc,Td,Te,Ti,Ts,Tt,Tw,Ty,Tz,T6,T7,e,n0,z,g1];all_goals tactic=>exact rfl))
theorem aOv {x:Vn} (ok:x.Ok) (h0:∀ k,k≤x.F→sT x k (2^x.F)=0):runW aA 39 [.agg x.c] []=some (.tup [I (-1),I 0,.fs []],[]):=by
 have hF:=ok.F16
 have a1:(((x.F+1:Nat):Int)≤(x.F:Int))=False:=eq_false (by omega)
 have a2:((x.F:Int)+1≤(x.F:Int))=False:=eq_false (by omega)
 have rdc:=fun k (hk:k<x.F+1)=>aBN ok (k:=k) (by omega) (h0 k (by omega))
 have k0:((0:Nat):Int)=0:=rfl
 rw[r39 (by simp)];unfold x39;dsimp only
 sym =>
  simp[bD,Zb,Zf,Zh,Zl,Zo,Zv,Zz,Xi,Xk,Xl,We,Wg,Wi,Ws,W9,VN,VX,Ub,Ug,Ul,U6,U7,UC,UD,UN,UO,Tl,Tt,Tx,Ty,T6,T7]
  tactic =>
   unfold aBw
   rw[aE (x.F+1) (fun k=>aJF k) (fun _=>aDu x)]
   ·(sym=>(simp[bD,Za,Zb,Zf,Zh,Zl,Zm,Zv,Z3,Z8,ZH,Yc,Yv,YX,Xa,Xb,Xr,Xu,Xv,XJ,XM,XQ,We,Wh,Wm,Wz,W0,W3,WA,WI,WM,WO,WP,WQ,Vu,V8,V9,VB,VC,VD,VE,VH,VI,VJ,VK,VL,VP,VS,VU,VZ,Uc,Ue,Uy,U2,U3,U4,U5,U8,U9,UC,UD,Td,Te,Ti,Ts,Tt,Tu,Tw,Ty,Tz,T4,T6,T7,Su,a1,a2];all_goals tactic=>exact rfl))
   ·(sym=>(simp[bD,k0];all_goals tactic=>exact rfl))
   ·exact rdc
   ·(sym=>(simp[bD,Za,Zb,Zf,Zh,Zl,Zm,Zv,Z3,Z8,ZH,Yc,Yv,Wz,W0,W3,WA,VP,VS,VU,VV,Uy,Td,Te,Ti,Ts,Tt,Tw,Ty,Tz,T6,a1,a2];all_goals tactic=>exact rfl))
theorem w39 {x:Vn} (ok:x.Ok) (hh:kP x=true):∃ n,Lea x 0 n∧0<sT x n (2^x.F)∧runW aA 39 [.agg x.c] []=some (.tup [I (n:Nat),I (sT x n (2^x.F):Nat),nL (cM ((List.range x.F).map (qZ x n (2^x.F))))],[]):=by
 have hp:=aU ok.F16
 obtain⟨c,hc,_⟩:=w29 ok ok.h23 hh
 have hn:Lea x 0 (bK c):=⟨⟨c,hc.lt,hc.min.1,rfl⟩,hc.min.2⟩
 have h1:0<sT x (bK c) (2^x.F):=by
  unfold sT
  apply List.length_pos_of_mem (a:=c)
  rw[List.mem_filter,List.mem_range]
  refine⟨hc.lt,?_⟩
  unfold zI
  rw[decide_eq_true rfl,Bool.true_and]
  exact(jH ok (by have:=hc.lt;omega)).2 hc.min.1
 refine⟨bK c,hn,h1,aOw ok (aDM hc.lt ok.F16) (fun k hk=>?_) (by omega)⟩
 unfold sT
 rw[List.length_eq_zero_iff,List.filter_eq_nil_iff]
 intro t ht
 rw[List.mem_range]at ht
 unfold zI
 intro h
 rw[Bool.and_eq_true,decide_eq_true_eq]at h
 have:=hc.min.2 t ((jH ok (by omega)).1 h.2)
 omega
theorem aOx {x:Vn} (ok:x.Ok) (hh:kP x=false):runW aA 39 [.agg x.c] []=some (.tup [I (-1),I 0,.fs []],[]):=by
 have hp:=aU ok.F16
 refine aOv ok fun k _=>?_
 unfold sT
 rw[List.length_eq_zero_iff,List.filter_eq_nil_iff]
 intro t ht
 rw[List.mem_range]at ht
 unfold zI
 intro h
 rw[Bool.and_eq_true]at h
 have:=(iF ok).2 ⟨t,ht,(jH ok (by omega)).1 h.2⟩
 rw[hh]at this
 simp at this
section
variable {x:Vn} (ok:x.Ok) {a c:Nat}
include ok in
theorem aBK {i:Nat} (hi:i<x.bs.length) (h0:bB x a c i=0) :
 aS 0 [1,2,3,12,13,14] (execW aA 73 0 none (match pO with | .loop _ a=>a|c=>c) (aV [1,2,3,12,13,14] [I a,I c,.pt 0 0,rB (x.bs.map bI),I x.bs.length,I (i:Nat)]) (vI x))=some ([I a,I c,.pt 0 0,rB (x.bs.map bI),I x.bs.length,I (i+1:Nat)],vI x):=by
 obtain⟨b,hx⟩:=bC hi
 have a1:=dC hi
 have a2:=dN hi (by have:=ok.nb;omega)
 have gl:(x.bs.map bI).length=x.bs.length:=List.length_map ..
 unfold bB at h0
 rw[aO hx]at h0
 unfold bMt at h0
 unfold pO
 dsimp only
 rcases mY b.1 a with ⟨p1,q1,s1⟩|⟨p1,q1,s1⟩<;>rcases mY b.2 c with ⟨p2,q2,s2⟩|⟨p2,q2,s2⟩<;>rcases mY b.1 c with ⟨p3,q3,s3⟩|⟨p3,q3,s3⟩<;>rcases mY b.2 a with ⟨p4,q4,s4⟩|⟨p4,q4,s4⟩<;>rw[q1,q2,q3,q4]at h0<;>first|(exfalso;revert h0;decide)|(exfalso;clear h0;omega)|(sym=>(simp[Za,Zb,Zc,Zd,Ze,Zf,Zh,Zl,Zm,Zp,Zq,Zr,Zs,Zv,Zw,Zy,Z3,Z9,ZA,ZH,ZL,ZM,ZW,ZX,Yi,Yj,Yl,Ys,Yu,Yy,Yz,YA,YC,YF,YQ,YX,Xb,Xd,Xi,Xr,Xv,Xx,Ws,Wz,W0,W3,W4,W5,W6,W7,W8,WA,WB,WF,WG,WI,WJ,WK,WM,WO,WP,WQ,WR,WW,WX,Vd,VP,VQ,VR,VS,VT,VU,VY,VZ,Ua,Ub,Uc,Ue,Uf,Ug,Uh,Ui,Uj,Ul,Ut,Uw,Ux,Uy,U2,U3,U4,U5,U6,U7,UE,Td,Te,Tf,Tg,Th,Ti,Tj,Tk,Ts,Tt,Tv,Tx,Ty,T1,T5,T6,T7,TK,a1,a2,hx,p1,p2,p3,p4];all_goals tactic=>exact rfl))
theorem aKt {i:Nat} (hi:i<x.bs.length) (h0:bB x a c i≠0):∃ e h,
 execW aA 73 0 none (match pO with | .loop _ a=>a|c=>c) (aV [1,2,3,12,13,14] [I a,I c,.pt 0 0,rB (x.bs.map bI),I x.bs.length,I (i:Nat)]) (vI x)=some (.ret,e,h)∧bU none [(6,none)] false 0 (some (.ret,e,h))=some (.bool true,[]):=by
 obtain⟨b,hx⟩:=bC hi
 have a1:=dC hi
 have gl:(x.bs.map bI).length=x.bs.length:=List.length_map ..
 unfold bB at h0
 rw[aO hx]at h0
 unfold bMt at h0
 unfold pO
 dsimp only
 rcases mY b.1 a with ⟨p1,q1,s1⟩|⟨p1,q1,s1⟩<;>rcases mY b.2 c with ⟨p2,q2,s2⟩|⟨p2,q2,s2⟩<;>rcases mY b.1 c with ⟨p3,q3,s3⟩|⟨p3,q3,s3⟩<;>rcases mY b.2 a with ⟨p4,q4,s4⟩|⟨p4,q4,s4⟩<;>rw[q1,q2,q3,q4]at h0<;>try (exfalso;revert h0;decide)
 all_goals try (exfalso;clear h0;omega)
 all_goals refine dX ?_ ?_
 all_goals (sym=>(simp[Za,Zb,Zc,Zd,Ze,Zf,Zh,Zl,Zm,Zp,Zq,Zr,Zs,Zt,Zu,Zv,Zw,Zy,Z3,Z9,ZA,ZH,ZL,ZM,ZW,ZX,Yi,Yj,Ys,Yu,Yy,Yz,YA,YC,YF,YQ,YY,Xi,Xs,XK,Wf,Ws,Wz,W0,W3,W4,W5,W6,W7,W8,WA,WI,WM,WO,WP,WQ,Vu,V8,V9,VB,VC,VD,VE,VF,VI,VJ,VK,VL,VP,VS,VT,VW,VZ,Ua,Ub,Uc,Ue,Uf,Ug,Uh,Ui,Uj,Ul,Ut,Ux,Uy,U2,U3,U6,U7,UE,Td,Te,Tf,Tg,Th,Ti,Tj,Tk,Ts,Tt,Tu,Tv,Tx,Ty,T0,T2,T6,T7,Su,a1,hx,p1,p2,p3,p4];all_goals tactic=>exact rfl))
include ok in
theorem aBJ {i:Nat} (hi:i<x.ps.length) (h0:pB x a c i=0) :
 aS 0 [1,2,42,43,44] (execW aA 73 0 none (match qW with | .loop _ a=>a|c=>c) (aV [1,2,42,43,44] [I a,I c,rP (x.ps.map pI),I x.ps.length,I (i:Nat)]) [])=some ([I a,I c,rP (x.ps.map pI),I x.ps.length,I (i+1:Nat)],[]):=by
 obtain⟨b,hx⟩:=bC hi
 have a1:=dC hi
 have a2:=dN hi (by have:=ok.np;omega)
 have gl:(x.ps.map pI).length=x.ps.length:=List.length_map ..
 unfold pB at h0
 rw[aO hx]at h0
 unfold pMt at h0
 unfold qW
 dsimp only
 rcases mY b.2.1 a with ⟨p1,q1,s1⟩|⟨p1,q1,s1⟩<;>rcases mY b.2.2 c with ⟨p2,q2,s2⟩|⟨p2,q2,s2⟩<;>rw[q1,q2]at h0<;>first|(exfalso;revert h0;decide)|(exfalso;clear h0;omega)|(sym=>(simp[Za,Zb,Zc,Zd,Ze,Zf,Zh,Zl,Zm,Zp,Zq,Zs,Zv,Zw,Zy,Z3,Z8,ZA,ZH,ZL,ZM,ZW,ZX,Yc,Yi,Yj,Yl,Ys,Yu,Yy,Yz,YX,Xb,Xi,Xr,Xv,Ws,Wz,W0,W3,W4,W5,W6,W7,W8,WA,WI,WM,WO,WP,WQ,VP,VQ,VR,VS,VT,VU,VY,VZ,Ub,Uc,Ue,Uf,Ug,Uh,Ui,Uj,Ul,Ut,Ux,Uy,U2,U3,U4,U5,U6,U7,UE,Td,Te,Tf,Tg,Th,Ti,Tj,Tk,Ts,Tt,Tv,Tx,Ty,T1,T5,T6,T7,a1,a2,hx,p1,p2];all_goals tactic=>exact rfl))
theorem aKs {i:Nat} (hi:i<x.ps.length) (h0:pB x a c i≠0):∃ e h,
 execW aA 73 0 none (match qW with | .loop _ a=>a|c=>c) (aV [1,2,42,43,44] [I a,I c,rP (x.ps.map pI),I x.ps.length,I (i:Nat)]) []=some (.ret,e,h)∧bU none [(6,none)] false 0 (some (.ret,e,h))=some (.bool true,[]):=by
 obtain⟨b,hx⟩:=bC hi
 have a1:=dC hi
 have gl:(x.ps.map pI).length=x.ps.length:=List.length_map ..
 unfold pB at h0
 rw[aO hx]at h0
 unfold pMt at h0
 unfold qW
 dsimp only
 rcases mY b.2.1 a with ⟨p1,q1,s1⟩|⟨p1,q1,s1⟩<;>rcases mY b.2.2 c with ⟨p2,q2,s2⟩|⟨p2,q2,s2⟩<;>rw[q1,q2]at h0<;>try (exfalso;revert h0;decide)
 all_goals try (exfalso;clear h0;omega)
 all_goals refine dX ?_ ?_
 all_goals (sym=>(simp[Za,Zb,Zc,Zd,Ze,Zf,Zh,Zl,Zm,Zp,Zq,Zv,Zw,Zy,Z3,Z8,ZA,ZH,ZL,ZM,ZW,Yc,Yi,Yj,Ys,Yu,Yy,Yz,YY,Xi,Xs,XK,Wf,Ws,Wz,W0,W3,W4,W5,W6,W7,W8,WA,WI,WM,WO,WP,WQ,Vu,V8,V9,VB,VC,VD,VE,VF,VI,VJ,VK,VL,VP,VS,VT,VW,VZ,Ub,Uc,Ue,Uf,Ug,Uh,Ui,Uj,Ul,Ut,Ux,U2,U3,U6,U7,UE,Td,Te,Tf,Tg,Th,Ti,Tj,Tk,Ts,Tt,Tu,Tv,Tx,Ty,T0,T2,T6,T7,Su,a1,hx,p1,p2];all_goals tactic=>exact rfl))
end
theorem w73 {x:Vn} (ok:x.Ok) (a c:Nat):runW aA 73 [.agg x.c,I a,I c] []=some (.bool ((cE x a).testBit c),[]):=by
 have z:=Tc (n:=(x.bs.length:Int))
 have zp:=Tc (n:=(x.ps.length:Int))
 have n1:(x.bs.map bI).length=x.bs.length:=List.length_map ..
 have n2:(x.ps.map pI).length=x.ps.length:=List.length_map ..
 have b1:((x.bs.map bI).map fun b=>([I b.1,I b.2]:List AV)).length=x.bs.length:=by simp
 have b2:((x.ps.map pI).map fun p=>([I p.1,I p.2.1,I p.2.2]:List AV)).length=x.ps.length:=by simp
 obtain⟨m,m1,m2,m3⟩:=dQ (bB x a c) x.bs.length
 rcases m3 with ⟨rfl,_⟩|⟨m3,m4,_⟩
 ·have hb:=aLa m2
  have rd:=fun i (hi:i<x.bs.length)=>aBK ok (a:=a) (c:=c) hi (m2 i hi)
  obtain⟨k,k1,k2,k3⟩:=dQ (pB x a c) x.ps.length
  rcases k3 with ⟨rfl,_⟩|⟨k3,k4,_⟩
  ·have hp:=aKe k2
   have rd2:=fun i (hi:i<x.ps.length)=>aBJ ok (a:=a) (c:=c) hi (k2 i hi)
   rw[aAJ,hb,hp,Bool.or_self]
   rw[r73 (by simp)];unfold x73;dsimp only
   sym =>
    simp[Za,Zb,Zf,Zh,Zl,Zm,Zo,Zv,Zz,Z8,ZG,ZH,Yc,Ye,Xi,Xk,Xl,We,Wg,Wi,Ws,Wz,W0,W3,W9,WA,VN,VX,Ub,Ug,Uh,Ul,U6,U7,UC,UD,UN,UO,Td,Te,Ti,Tl,Tt,Tx,Ty,T6,T7]
    tactic =>
     unfold pO
     rw[aE x.bs.length (fun i=>[I a,I c,.pt 0 0,rB (x.bs.map bI),I x.bs.length,I (i:Nat)]) (fun _=>vI x)]
     ·sym =>
      simp[Za,Zb,Zf,Zh,Zl,Zm,Zv,Z3,Z8,ZG,ZH,Yc,Ye,Yu,Wz,W0,W3,WA,VP,VS,VU,Uh,Uy,Tc,Td,Te,Ti,Ts,Tt,Tw,Tx,Ty,Tz,T4,T6,T7,z]
      tactic =>
       unfold qW
       rw[aE x.ps.length (fun i=>[I a,I c,rP (x.ps.map pI),I x.ps.length,I (i:Nat)]) (fun _=>[])]
       ·(sym=>(simp[Za,Zb,Zf,Zh,Zl,Zm,Zv,Z3,Yu,YY,Xs,XK,Wf,WI,WM,WN,WP,WQ,Vu,V8,V9,VB,VC,VD,VE,VF,VI,VJ,VK,VL,VP,VS,VU,VZ,Uc,Ue,Uy,U1,U2,U3,Tc,Ts,Tt,Tu,Tw,Ty,Tz,T4,T6,T7,Su,zp];all_goals tactic=>exact rfl))
       ·(sym=>(simp[Za,YB,YX,Xb,Xr,Xv,WI,WM,WO,WP,WQ,VP,VQ,VR,VY,VZ,Uc,Ue,U2,U3,U4,U5,T5];all_goals tactic=>exact rfl))
       ·exact rd2
       ·(sym=>(simp[Za,Zb,Zf,Zh,Zl,Zm,Z3,Yu,VP,VS,VU,VV,Uy,Tc,Ts,Tt,Tw,Ty,Tz,T6,zp];all_goals tactic=>exact rfl))
     ·(sym=>(simp[Za,YB,YX,Xb,Xd,Xr,Xv,Xx,Wz,W9,WB,WF,WG,WI,WJ,WK,WM,WO,WP,WQ,WR,WW,WX,Vd,VN,VQ,VR,VY,VZ,Ub,Uc,Ue,Uj,Uw,U2,U3,U4,U5,T5,TK];all_goals tactic=>exact rfl))
     ·exact rd
     ·(sym=>(simp[Za,Zb,Zf,Zh,Zl,Zm,Z3,Yu,VP,VS,VU,VV,Uy,Tc,Ts,Tt,Tw,Ty,Tz,T6,z];all_goals tactic=>exact rfl))
  ·have rd2:=fun i (hi:i<k)=>aBJ ok (a:=a) (c:=c) (show i<x.ps.length by omega) (k2 i hi)
   obtain⟨e,hh,q1,q2⟩:=aKs (a:=a) (c:=c) k3 k4
   have ht:(cE x a).testBit c=true:=by
    rw[aAJ,Bool.or_eq_true]
    obtain⟨y,hy⟩:=bC k3
    refine .inr (aBn.2 ⟨k,y,hy,?_⟩)
    unfold pB at k4
    rw[aO hy]at k4
    by_cases h:pMt y a c=true
    ·exact h
    ·rw[if_neg h]at k4;simp at k4
   rw[ht]
   rw[r73 (by simp)];unfold x73;dsimp only
   sym =>
    simp[Za,Zb,Zf,Zh,Zl,Zm,Zo,Zv,Zz,Z8,ZG,ZH,Yc,Ye,Xi,Xk,Xl,We,Wg,Wi,Ws,Wz,W0,W3,W9,WA,VN,VX,Ub,Ug,Uh,Ul,U6,U7,UC,UD,UN,UO,Td,Te,Ti,Tl,Tt,Tx,Ty,T6,T7]
    tactic =>
     unfold pO
     rw[aE x.bs.length (fun i=>[I a,I c,.pt 0 0,rB (x.bs.map bI),I x.bs.length,I (i:Nat)]) (fun _=>vI x)]
     ·sym =>
      simp[Za,Zb,Zf,Zh,Zl,Zm,Zv,Z3,Z8,ZG,ZH,Yc,Ye,Yu,Wz,W0,W3,WA,VP,VS,VU,Uh,Uy,Tc,Td,Te,Ti,Ts,Tt,Tw,Tx,Ty,Tz,T4,T6,T7,z]
      tactic =>
       unfold qW
       rw[aE k (fun i=>[I a,I c,rP (x.ps.map pI),I x.ps.length,I (i:Nat)]) (fun _=>[])]
       ·unfold qW at q1
        dsimp only at q1
        rw[q1]
        exact q2
       ·(sym=>(simp[Za,YB,YX,Xb,Xr,Xv,WI,WM,WO,WP,WQ,VP,VQ,VR,VY,VZ,Uc,Ue,U2,U3,U4,U5,T5];all_goals tactic=>exact rfl))
       ·exact rd2
       ·unfold qW at q1
        dsimp only at q1
        rw[q1]
        rfl
     ·(sym=>(simp[Za,YB,YX,Xb,Xd,Xr,Xv,Xx,Wz,W9,WB,WF,WG,WI,WJ,WK,WM,WO,WP,WQ,WR,WW,WX,Vd,VN,VQ,VR,VY,VZ,Ub,Uc,Ue,Uj,Uw,U2,U3,U4,U5,T5,TK];all_goals tactic=>exact rfl))
     ·exact rd
     ·(sym=>(simp[Za,Zb,Zf,Zh,Zl,Zm,Z3,Yu,VP,VS,VU,VV,Uy,Tc,Ts,Tt,Tw,Ty,Tz,T6,z];all_goals tactic=>exact rfl))
 ·have rd:=fun i (hi:i<m)=>aBK ok (a:=a) (c:=c) (show i<x.bs.length by omega) (m2 i hi)
  obtain⟨e,hh,q1,q2⟩:=aKt (a:=a) (c:=c) m3 m4
  have ht:(cE x a).testBit c=true:=by
   rw[aAJ,Bool.or_eq_true]
   obtain⟨y,hy⟩:=bC m3
   refine .inl (aBn.2 ⟨m,y,hy,?_⟩)
   unfold bB at m4
   rw[aO hy]at m4
   by_cases h:bMt y a c=true
   ·exact h
   ·rw[if_neg h]at m4;simp at m4
  rw[ht]
  rw[r73 (by simp)];unfold x73;dsimp only
  sym =>
   simp[Za,Zb,Zf,Zh,Zl,Zm,Zo,Zv,Zz,Z8,ZG,ZH,Yc,Ye,Xi,Xk,Xl,We,Wg,Wi,Ws,Wz,W0,W3,W9,WA,VN,VX,Ub,Ug,Uh,Ul,U6,U7,UC,UD,UN,UO,Td,Te,Ti,Tl,Tt,Tx,Ty,T6,T7]
   tactic =>
    unfold pO
    rw[aE m (fun i=>[I a,I c,.pt 0 0,rB (x.bs.map bI),I x.bs.length,I (i:Nat)]) (fun _=>vI x)]
    ·unfold pO at q1
     dsimp only at q1
     rw[q1]
     exact q2
    ·(sym=>(simp[Za,YB,YX,Xb,Xd,Xr,Xv,Xx,Wz,W9,WB,WF,WG,WI,WJ,WK,WM,WO,WP,WQ,WR,WW,WX,Vd,VN,VQ,VR,VY,VZ,Ub,Uc,Ue,Uj,Uw,U2,U3,U4,U5,T5,TK];all_goals tactic=>exact rfl))
    ·exact rd
    ·unfold pO at q1
     dsimp only at q1
     rw[q1]
     rfl

structure yY (x:Vn) (u:Nat) (ks:List Nat):Prop where
 lt:∀ k∈ks,k<x.F
 len:ks.length≤16
 ne:ks≠[]
 leads:gB x ks=true
 free:∀ (j k:Nat),ks[j]?=some k→u.testBit k=true→x.fix.testBit k=true
theorem aLx {x:Vn} {u:Nat} {w:List Int} (hF:x.F≤16) (h:nH x u w=0):∃ ks,w=cM ks∧yY x u ks:=by
 have hl:=aEh hF h
 obtain⟨ks,rfl,hks⟩:=wP h
 refine⟨ks,rfl,?_⟩
 unfold nH at h
 by_cases hn:cM ks=[]
 ·rw[if_pos hn]at h;simp at h
 rw[if_neg hn,if_neg (by rw[aDj hks];simp),eR,bO]at h
 cases hld:gB x ks
 ·rw[hld]at h;simp at h
 ·rw[hld,if_pos rfl]at h
  by_cases hf:cJ (cfE x u ks) ks.length≠0
  ·rw[if_pos hf]at h;simp at h
  ·refine⟨hks,by rw[bO]at hl;exact hl,fun h=>hn (by rw[h];rfl),hld,fun j k hj hu=>?_⟩
   have h0:=eE (by omega:cJ (cfE x u ks) ks.length=0) j (dB hj)
   unfold cfE at h0
   rw[aO hj,hu]at h0
   cases hx:x.fix.testBit k
   ·rw[hx]at h0;simp at h0
   ·rfl
theorem wR {x:Vn} {ws:List (List Int)} (hF:x.F≤16) (h:rA x ws=0):ws.length≤16∧∀ (i:Nat) (w:List Int),ws[i]?=some w→∃ ks,w=cM ks∧yY x (uK ws i) ks:=by
 refine⟨(aAD hF h).1,fun i w hw=>?_⟩
 unfold rA at h
 by_cases h16:16<ws.length
 ·rw[if_pos h16]at h;simp at h
 rw[if_neg h16]at h
 have h0:=eE h i (dB hw)
 unfold wQ at h0
 rw[aO hw]at h0
 exact aLx hF h0
def eL (ks:List Nat) (j f:Nat):Nat:=if (dP ks j).testBit f then 1 else 0
def usF (ws:List (List Int)):Nat→Nat→Nat
 | 0,_=>0
 | i+1,f=>usF ws i f+eL ((ws.getD i []).map Int.toNat) ((ws.getD i []).map Int.toNat).length f
theorem aHU (ks:List Nat):eL ks 0=fun _=>0:=by funext f;unfold eL;rw[show dP ks 0=0 from rfl];simp
theorem aKf (ks:List Nat) (j f:Nat):eL ks j f≤1:=by unfold eL;split<;>omega
theorem aGu (ws:List (List Int)):∀ i f,usF ws i f≤i
 | 0,_=>Nat.le_refl _
 | i+1,f=>by
   have:=aGu ws i f
   have:=aKf ((ws.getD i []).map Int.toNat) ((ws.getD i []).map Int.toNat).length f
   rw[usF];omega
theorem aEl {x:Vn} {ws:List (List Int)} (h:∀ (i:Nat) (w:List Int),ws[i]?=some w→∃ ks,w=cM ks∧yY x (uK ws i) ks):∀ i f,i≤ws.length→((uK ws i).testBit f=true↔0<usF ws i f)
 | 0,f,_=>by rw[show uK ws 0=0 from rfl,usF];simp
 | i+1,f,hi=>by
   obtain⟨w,hw⟩:=bC (l:=ws) (i:=i) (by omega)
   have ih:=aEl h i f (by omega)
   obtain⟨ks,rfl,hk⟩:=h i w hw
   rw[wS hw,usF,aO hw,uWi,eR,bO,aGw,Nat.testBit_or,Bool.or_eq_true,ih]
   unfold eL
   cases (dP ks ks.length).testBit f
   ·simp
   ·simp
theorem aAV {ks:List Nat} {j k:Nat} (h:ks[j]?=some k) (h0:(dP ks j).testBit k=false):jC (eL ks j) k 1=eL ks (j+1):=by
 funext f
 unfold jC eL
 rw[vN h,eU]
 by_cases hf:f=k
 ·subst hf;rw[if_pos rfl];simp
 ·rw[if_neg hf]
  have:decide (k=f)=false:=decide_eq_false (fun h=>hf h.symm)
  rw[this,Bool.or_false]
section
variable {x:Vn} (ok:x.Ok) {ws:List (List Int)} {ks:List Nat} {i:Nat} {U:Nat→Nat}
abbrev aLJ (x:Vn) (ws:List (List Int)) (ks:List Nat) (i j:Nat):List AV:=[.pt 0 0,.sl 1 0 1 x.F,nL (cM ks),.sl 2 0 1 x.F,wL ws,I ws.length,I (i:Nat),nL (cM ks),I ks.length,I (j:Nat)]
abbrev aKF (x:Vn) (U:Nat→Nat) (ks:List Nat) (j:Nat):XH:=[some (.blk true (.cells true x.c)),some (.blk true (.cells true (fC x.F fun f=>U f+eL ks j f))),some (.blk true (.cells true (fC x.F (eL ks j))))]
include ok in
theorem aHh {u:Nat} (hw:yY x u ks) (hU:∀ f,u.testBit f=true↔0<U f) (hU2:∀ f,U f≤16) {j:Nat} (hj:j<ks.length) :
 aS 0 [2,5,7,8,14,15,16,23,24,25] (execW aA 41 0 none (match aBs with | .loop _ a=>a|c=>c) (aV [2,5,7,8,14,15,16,23,24,25] (aLJ x ws ks i j)) (aKF x U ks j))=some (aLJ x ws ks i (j+1),aKF x U ks (j+1)):=by
 obtain⟨k,hk⟩:=bC hj
 have hF:=ok.F16
 have hp:=aU hF
 have hfx:=ok.f
 have hkF:=hw.lt k (List.mem_of_getElem? hk)
 have hlen:=hw.len
 have gl:=bO ks
 have gk:=fE hk
 have hld:=hw.leads
 unfold gB at hld
 rw[Bool.and_eq_true,decide_eq_true_eq]at hld
 have h0:=eE hld.1 j hj
 unfold wkE at h0
 rw[aO hk]at h0
 have hs:(dP ks j).testBit k=false:=by
  cases h:(dP ks j).testBit k
  ·rfl
  ·rw[h]at h0;simp at h0
 rw[hs]at h0
 have hfree:=hw.free j k hk
 have hUk:=hU k
 have hUk2:=hU2 k
 have a1:=dC hj
 have a2:=dN hj (by omega)
 have n0:((k:Int)<0)=False:=eq_false (by omega)
 have n1:((0:Int)≤k)=True:=eq_true (by omega)
 have m1:((x.F:Int)≤(k:Int))=False:=eq_false (by omega)
 have m2:((k:Int)<(x.F:Int))=True:=eq_true (by omega)
 have o0:eL ks j k=0:=by unfold eL;rw[hs];rfl
 have q1:(fC x.F (eL ks j))[k]?=some (I 0):=by rw[lV (n:=x.F) (st:=eL ks j) hkF,o0];rfl
 have y1:=gE x.F (eL ks j)
 have s1:cB (fC x.F (eL ks j)) k [I 1]=fC x.F (eL ks (j+1)):=by rw[←aAV hk hs];exact tT (n:=x.F) (st:=eL ks j) (k:=k) (v:=1) hkF
 have q2:(fC x.F fun f=>U f+eL ks j f)[k]?=some (I (U k)):=by rw[lV (n:=x.F) (st:=fun f=>U f+eL ks j f) hkF,o0,Nat.add_zero]
 have y2:=gE x.F (fun f=>U f+eL ks j f)
 have s2:=tT (n:=x.F) (st:=fun f=>U f+eL ks j f) (k:=k) (v:=U k+1) hkF
 have s2':jC (fun f=>U f+eL ks j f) k (U k+1)=fun f=>U f+eL ks (j+1) f:=by
  rw[←aAV hk hs]
  funext f
  unfold jC
  by_cases hf:f=k
  ·subst hf;rw[if_pos rfl,if_pos rfl]
  ·rw[if_neg hf,if_neg hf]
 rw[s2']at s2
 have o1:eL ks (j+1) k=1:=by rw[←aAV hk hs];unfold jC;rw[if_pos rfl]
 have q3:(fC x.F (eL ks (j+1)))[k]?=some (I 1):=by rw[lV (n:=x.F) (st:=eL ks (j+1)) hkF,o1];rfl
 have y3:=gE x.F (eL ks (j+1))
 have q4:(fC x.F fun f=>U f+eL ks (j+1) f)[k]?=some (I (U k+1:Nat)):=by rw[lV (n:=x.F) (st:=fun f=>U f+eL ks (j+1) f) hkF,o1]
 have y4:=gE x.F (fun f=>U f+eL ks (j+1) f)
 have t1:(k+1≤x.F)=True:=eq_true (by omega)
 have v1:IntKind.i64.wrap ((U k:Int)+1)=((U k+1:Nat):Int):=by rw[aD (by omega) (by omega)];omega
 have eb:=uC bY (a:=x.fix) (i:=k) (by omega) (by omega)
 unfold aKF
 generalize fC x.F (fun f=>U f+eL ks j f)=A0 at *
 generalize fC x.F (fun f=>U f+eL ks (j+1) f)=A1 at *
 generalize fC x.F (eL ks j)=B0 at *
 generalize fC x.F (eL ks (j+1))=B1 at *
 clear s2' o0 o1 hs hld
 have hg:(((1:Int)<((U k+1:Nat):Int))=False∧True)∨(((1:Int)<((U k+1:Nat):Int))=True∧x.fix.testBit k=true):=by
  by_cases h:U k=0
  ·exact .inl ⟨eq_false (by omega),trivial⟩
  ·exact .inr ⟨eq_true (by omega),hfree (hUk.2 (by omega))⟩
 generalize U k+1=uk1 at *
 generalize U k=uk at *
 have hst:(j=0)∨∃ p,ks[j-1]?=some p∧(cE x p).testBit k=true∧0<j:=by
  by_cases h:j=0
  ·exact .inl h
  ·obtain⟨p,hp'⟩:=bC (l:=ks) (i:=j-1) (by omega)
   refine .inr ⟨p,hp',?_,by omega⟩
   rw[aO hp',decide_eq_true (show 0<j by omega)]at h0
   cases h2:(cE x p).testBit k
   ·rw[h2]at h0;simp at h0
   ·rfl
 rcases hst with rfl|⟨p,hp',hst,hj0⟩
 ·have a1:((0:Int)<(ks.length:Int))=True:=a1
  have a2:IntKind.i64.wrap ((0:Int)+1)=1:=rfl
  unfold aBs
  dsimp only
  rcases hg with ⟨hg,_⟩|⟨hg,hg2⟩
  ·(sym=>(simp[bD,Za,Zb,Zc,Zf,Zg,Zh,Zk,Zl,Zm,Zp,Zr,Zs,Zv,Zy,Z3,Z8,ZA,ZH,ZI,ZK,ZL,ZM,ZX,Yc,Yh,Yi,Yj,Yl,Yu,Yw,Yx,Yy,Yz,Y1,YA,YB,YD,YX,Xb,Xc,Xd,Xi,Xr,Xv,Xw,Xx,Wq,Wz,W0,W3,W4,WA,WB,WC,WF,WG,WI,WJ,WK,WM,WO,WP,WQ,WR,WW,WX,Vd,Vu,Vw,Vx,Vz,V0,V2,VP,VQ,VR,VS,VT,VU,VY,VZ,Ua,Ub,Uc,Ue,Uf,Ug,Uh,Ui,Uj,Ul,Ut,Uw,Ux,Uy,U2,U3,U4,U5,U6,U7,Td,Te,Tf,Tg,Ti,Tj,Tk,Ts,Tt,Tv,Tx,Ty,T1,T5,T6,T7,TI,TJ,TK,SB,SC,SD,SF,SG,SI,a1,n0,n1,m1,m2,gk,gl,q1,q2,q3,q4,y1,y2,y3,y4,s1,s2,t1,v1,hg];all_goals tactic=>exact rfl))
  ·rw[hg2]at eb
   simp only[if_true]at eb
   (sym=>(simp[bD,Za,Zb,Zc,Zf,Zg,Zh,Zk,Zl,Zm,Zp,Zq,Zr,Zs,Zv,Zy,Z3,Z8,ZA,ZH,ZI,ZK,ZL,ZM,ZW,ZX,Yc,Yh,Yi,Yj,Yl,Yo,Yr,Ys,Yu,Yw,Yx,Yy,Yz,Y1,YA,YB,YD,YX,Xb,Xc,Xd,Xi,Xr,Xv,Xw,Xx,Wq,Wz,W0,W3,W4,WA,WB,WC,WF,WG,WI,WJ,WK,WM,WO,WP,WQ,WR,WW,WX,Vd,Vu,Vw,Vx,Vz,V0,V2,VP,VQ,VR,VS,VT,VU,VY,VZ,Ua,Ub,Uc,Ue,Uf,Ug,Uh,Ui,Uj,Ul,Ut,Uw,Ux,Uy,U2,U3,U4,U5,U6,U7,Td,Te,Tf,Tg,Ti,Tj,Tk,Ts,Tt,Tv,Tx,Ty,T1,T5,T6,T7,TI,TJ,TK,SB,SC,SD,SF,SG,SI,a1,n0,n1,m1,m2,gk,gl,q1,q2,q3,q4,y1,y2,y3,y4,s1,s2,t1,v1,hg,eb];all_goals tactic=>exact rfl))
 ·have c1:((0:Int)<(j:Int))=True:=eq_true (by omega)
  have u1:IntKind.i64.wrap ((j:Int)-1)=((j-1:Nat):Int):=by rw[aD (by omega) (by omega)];omega
  have gp:=fE hp'
  have c2:(((j-1:Nat):Int)<(ks.length:Int))=True:=eq_true (by omega)
  have c3:((0:Int)≤((j-1:Nat):Int))=True:=eq_true (by omega)
  have e73:=w73 ok p k
  rw[hst]at e73
  generalize j-1=j1 at *
  unfold aBs
  dsimp only
  rcases hg with ⟨hg,_⟩|⟨hg,hg2⟩
  ·(sym=>(simp[bD,Za,Zb,Zc,Ze,Zf,Zg,Zh,Zk,Zl,Zm,Zp,Zq,Zr,Zs,Zv,Zy,Z3,Z5,Z8,ZA,ZH,ZI,ZJ,ZK,ZL,ZM,ZN,ZR,ZS,ZU,ZV,ZW,ZX,ZZ,Yc,Yh,Yi,Yj,Yl,Ym,Yu,Yw,Yx,Yy,Yz,Y1,YX,YZ,Xb,Xc,Xd,Xi,Xr,Xs,Xt,Xv,Xw,Xx,Wq,Wz,W0,W3,W4,W5,W6,W7,W8,WA,WB,WC,WF,WG,WI,WJ,WK,WL,WM,WN,WO,WP,WQ,WR,WS,WT,WW,WX,Vd,Vg,Vh,Vi,Vk,Vm,Vo,Vu,Vw,Vx,Vz,V0,V2,VP,VQ,VR,VS,VT,VU,VY,VZ,Ua,Ub,Uc,Ue,Uf,Ug,Uh,Ui,Uj,Ul,Uo,Uq,Ur,Us,Ut,Uw,Ux,Uy,Uz,U0,U1,U2,U3,U4,U5,U6,U7,Td,Te,Tf,Tg,Th,Ti,Tj,Tk,Ts,Tt,Tv,Tx,Ty,T1,T5,T6,T7,TI,TJ,TK,SB,SC,SD,SF,SG,SI,a1,a2,c1,c2,c3,u1,gp,e73,n0,n1,m1,m2,gk,gl,q1,q2,q3,q4,y1,y2,y3,y4,s1,s2,t1,v1,hg];all_goals tactic=>exact rfl))
  ·rw[hg2]at eb
   simp only[if_true]at eb
   (sym=>(simp[bD,Za,Zb,Zc,Ze,Zf,Zg,Zh,Zk,Zl,Zm,Zp,Zq,Zr,Zv,Zy,Z3,Z5,Z8,ZA,ZH,ZI,ZJ,ZK,ZL,ZM,ZN,ZR,ZS,ZU,ZV,ZW,ZX,ZZ,Yc,Yh,Yi,Yj,Yl,Ym,Yo,Yr,Ys,Yu,Yw,Yx,Yy,Yz,Y1,YX,YZ,Xb,Xc,Xd,Xi,Xr,Xs,Xt,Xv,Xw,Xx,Wq,Wz,W0,W3,W4,W5,W6,W7,W8,WA,WB,WC,WF,WG,WI,WJ,WK,WL,WM,WN,WO,WP,WQ,WR,WS,WT,WW,WX,Vd,Vg,Vh,Vi,Vk,Vm,Vo,Vu,Vw,Vx,Vz,V0,V2,VP,VQ,VR,VS,VT,VU,VY,VZ,Ua,Ub,Uc,Ue,Uf,Ug,Uh,Ui,Uj,Ul,Uo,Uq,Ur,Us,Ut,Uw,Ux,Uy,Uz,U0,U1,U2,U3,U4,U5,U6,U7,Td,Te,Tf,Tg,Th,Ti,Tj,Tk,Ts,Tt,Tv,Tx,Ty,T1,T5,T6,T7,TI,TJ,TK,SB,SC,SD,SF,SG,SI,a1,a2,c1,c2,c3,u1,gp,e73,n0,n1,m1,m2,gk,gl,q1,q2,q3,q4,y1,y2,y3,y4,s1,s2,t1,v1,hg,eb];all_goals tactic=>exact rfl))
end
section
variable {x:Vn} (ok:x.Ok) {ws:List (List Int)} (hF:∀ (i:Nat) (w:List Int),ws[i]?=some w→∃ ks,w=cM ks∧yY x (uK ws i) ks) (hl:ws.length≤16)
abbrev aLI (x:Vn) (ws:List (List Int)) (i:Nat):List AV:=[.pt 0 0,.sl 1 0 1 x.F,wL ws,I ws.length,I (i:Nat)]
include ok hF hl in
theorem aHg {i:Nat} (hi:i<ws.length) :
 aS 0 [2,5,14,15,16] (execW aA 41 0 none (match aEb with | .loop _ a=>a|c=>c) (aV [2,5,14,15,16] (aLI x ws i)) (jF x (usF ws i)))=some (aLI x ws (i+1),jF x (usF ws (i+1))):=by
 have hF16:=ok.F16
 have hp:=aU hF16
 have hsk:=ok.s
 have hnu:=ok.n
 obtain⟨w,hw⟩:=bC hi
 obtain⟨ks,rfl,hk⟩:=hF i w hw
 have gl:=bO ks
 have hlen:=hk.len
 have hpos:0<ks.length:=List.length_pos_iff.2 hk.ne
 have hld:=hk.leads
 unfold gB at hld
 rw[Bool.and_eq_true,decide_eq_true_eq,Bool.and_eq_true]at hld
 obtain⟨a,ha⟩:=bC hpos
 obtain⟨b,hb⟩:=bC (l:=ks) (i:=ks.length-1) (by omega)
 rw[aO ha,aO hb]at hld
 have haF:=hk.lt a (List.mem_of_getElem? ha)
 have hbF:=hk.lt b (List.mem_of_getElem? hb)
 have ga:=fE ha
 have gb:=fE hb
 have e1:=uC bY (a:=x.sick) (i:=a) (by omega) (by omega)
 have e2:=uC bY (a:=x.nur) (i:=b) (by omega) (by omega)
 rw[hld.2.1]at e1
 rw[hld.2.2]at e2
 simp only[if_true]at e1 e2
 have z1:((a:Int)<0)=False:=eq_false (by omega)
 have z2:((b:Int)<0)=False:=eq_false (by omega)
 have z3:((ks.length:Int)=0)=False:=eq_false (by omega)
 have c1:((0:Int)<(ks.length:Int))=True:=eq_true (by omega)
 have u1:IntKind.i64.wrap ((ks.length:Int)-1)=((ks.length-1:Nat):Int):=by rw[aD (by omega) (by omega)];omega
 have d2:(((ks.length-1:Nat):Int)<(ks.length:Int))=True:=eq_true (by omega)
 have d3:((0:Int)≤((ks.length-1:Nat):Int))=True:=eq_true (by omega)
 have a1:=dC hi
 have a2:=dN hi (by omega)
 have z:=Tc (n:=(ks.length:Int))
 have hU:∀ f,(uK ws i).testBit f=true↔0<usF ws i f:=fun f=>aEl hF i f (by omega)
 have hU2:∀ f,usF ws i f≤16:=fun f=>Nat.le_trans (aGu ws i f) (by omega)
 have rd:=fun j (hj:j<ks.length)=>aHh ok (ws:=ws) (i:=i) hk hU hU2 hj
 have c2:((x.F:Int)≤(x.F:Int))=True:=eq_true (by omega)
 have c3:(8*(x.F:Int)≤281474976710656)=True:=eq_true (by omega)
 have c4:((x.F:Int)≤9223372036854775807)=True:=eq_true (by omega)
 have c5:((x.F:Int)).toNat=x.F:=Int.toNat_natCast _
 have c6:((0:Int)≤(x.F:Int))=True:=eq_true (by omega)
 have m0:List.map (AV.int .i64) (List.replicate x.F 0)=fC x.F (eL ks 0):=by
  rw[aHU,←aFR];simp
 have m1:(fC x.F fun f=>usF ws i f+eL ks 0 f)=fC x.F (usF ws i):=by rw[aHU];rfl
 have m2:(fC x.F fun f=>usF ws i f+eL ks ks.length f)=fC x.F (usF ws (i+1)):=aCq fun f _=>by
  rw[usF,aO hw,eR]
 generalize ks.length-1=n1 at *
 unfold aEb
 dsimp only
 sym =>
  simp[bD,Za,Zb,Zf,Zh,Zl,Zm,Zo,Zv,Z3,Z8,ZA,ZC,ZG,ZH,Yc,Ye,Yi,Yj,Yu,Yy,Yz,YO,Xi,Wz,W0,W3,WA,VP,VS,VT,Ua,Ub,Uf,Ug,Uh,Ui,Uj,Ul,Ut,Ux,U6,U7,UT,UU,Td,Te,Tf,Tg,Ti,Tl,Ts,Tt,Tv,Tx,Ty,T6,T7,TP,a1,hw,gl,c2,c3,c4,c5,c6]
  tactic =>
   unfold aBs
   rw[aE ks.length (fun j=>aLJ x ws ks i j) (fun j=>aKF x (usF ws i) ks j)]
   ·(sym=>(simp[bD,Za,Zb,Zf,Zh,Zi,Zl,Zm,Zp,Zr,Zv,Zy,Z3,Z8,ZA,ZG,ZI,ZJ,ZK,ZX,Yc,Ye,Yi,Yj,Yl,Ym,Yo,Yr,Ys,Yu,Yy,Yz,YA,YX,Xb,Xc,Xd,Xr,Xv,Xw,Xx,Wz,W0,W3,WA,WB,WC,WF,WG,WI,WJ,WK,WM,WO,WP,WQ,WR,WW,WX,Vd,VP,VQ,VR,VS,VU,VY,VZ,Ua,Ub,Uc,Ue,Uf,Ug,Uh,Ui,Uj,Ut,Uw,Uy,U2,U3,U4,U5,Tc,Td,Te,Tf,Tg,Ti,Ts,Tt,Tv,Tw,Ty,Tz,T1,T4,T5,T6,T7,TK,z,z1,z2,z3,c1,u1,d2,d3,ga,gb,e1,e2,gl,m2,a2];all_goals tactic=>exact rfl))
   ·(sym=>(simp[bD,Za,YB,YX,Xb,Xc,Xd,Xr,Xv,Xw,Xx,Wz,WB,WC,WF,WG,WI,WJ,WK,WM,WO,WP,WQ,WR,WW,WX,Vd,VP,VQ,VR,VY,VZ,Ua,Ub,Uc,Ue,Uj,Uw,U2,U3,U4,U5,T5,TK,m0,m1];all_goals tactic=>exact rfl))
   ·exact rd
   ·(sym=>(simp[bD,Za,Zb,Zf,Zh,Zl,Zm,Z3,Yu,VP,VS,VU,VV,Uy,Tc,Ts,Tt,Tw,Ty,Tz,T6,z,z1,z2,z3,c1,u1,d2,d3,ga,gb,e1,e2,gl,m2,a2];all_goals tactic=>exact rfl))
end
theorem w41 {x:Vn} (ok:x.Ok) {ws:List (List Int)} (h:rA x ws=0):runW aA 41 [.agg x.c,wL ws] []=some (.bool true,[]):=by
 obtain⟨hl,hF⟩:=wR ok.F16 h
 have hF16:=ok.F16
 have z:=Tc (n:=(ws.length:Int))
 have c2:((x.F:Int)≤(x.F:Int))=True:=eq_true (by omega)
 have c3:(8*(x.F:Int)≤281474976710656)=True:=eq_true (by omega)
 have c4:((x.F:Int)≤9223372036854775807)=True:=eq_true (by omega)
 have c5:((x.F:Int)).toNat=x.F:=Int.toNat_natCast _
 have c6:((0:Int)≤(x.F:Int))=True:=eq_true (by omega)
 have m0:List.map (AV.int .i64) (List.replicate x.F 0)=fC x.F (usF ws 0):=by
  rw[show fC x.F (usF ws 0)=fC x.F (fun _=>0) from rfl,←aFR];simp
 rw[r41 (by simp)];unfold x41;dsimp only
 sym =>
  simp[bD,Za,Zb,Zf,Zh,Zl,Zm,Zo,Zv,Zz,Z8,ZC,ZG,ZH,Yc,Ye,Yy,Yz,YO,Xi,Xk,Xl,We,Wg,Wi,Ws,Wz,W0,W3,W9,WA,VN,VX,Ua,Ub,Uf,Ug,Uh,Ul,Ut,U6,U7,UC,UD,UN,UO,UT,UU,Td,Te,Ti,Tl,Tt,Tx,Ty,T6,T7,TP,c2,c3,c4,c5,c6]
  tactic =>
   unfold aEb
   rw[aE ws.length (fun i=>aLI x ws i) (fun i=>jF x (usF ws i))]
   ·(sym=>(simp[bD,Za,Zb,Zf,Zh,Zl,Zm,Zv,Z3,Yu,YY,Xs,XK,Wf,WI,WM,WO,WP,WQ,Vu,V8,V9,VB,VC,VD,VE,VF,VI,VJ,VK,VL,VP,VS,VU,VZ,Uc,Ue,Uy,U2,U3,Tc,Ts,Tt,Tu,Tw,Ty,Tz,T4,T6,T7,Su,z];all_goals tactic=>exact rfl))
   ·(sym=>(simp[bD,Za,YB,YX,Xb,Xc,Xd,Xr,Xv,Xw,Xx,Wz,WB,WC,WF,WG,WI,WJ,WK,WM,WO,WP,WQ,WR,WW,WX,Vd,VQ,VR,VY,VZ,Ua,Ub,Uc,Ue,Uj,Uw,U2,U3,U4,U5,T5,TK,m0];all_goals tactic=>exact rfl))
   ·exact fun i hi=>aHg ok hF hl hi
   ·(sym=>(simp[bD,Za,Zb,Zf,Zh,Zl,Zm,Z3,Yu,VP,VS,VU,VV,Uy,Tc,Ts,Tt,Tw,Ty,Tz,T6,z];all_goals tactic=>exact rfl))
theorem aNP {a i j u v:Nat} (hi:(el a)[i]?=some u) (hj:(el a)[j]?=some v) (h:i<j):u<v:=by
 have hp:(el a).Pairwise (· < ·):=List.Pairwise.filter _ List.pairwise_lt_range
 rw[List.pairwise_iff_getElem]at hp
 obtain⟨h1,e1⟩:=List.getElem?_eq_some_iff.1 hi
 obtain⟨h2,e2⟩:=List.getElem?_eq_some_iff.1 hj
 have:=hp i j h1 h2 h
 rw[e1,e2]at this
 exact this
theorem aGP (ks:List Nat) (i:Nat):kC (cM ks) i=dP ks i:=by
 unfold kC dP cM
 rw[←List.map_take,List.foldl_map]
 rfl
theorem aJB {a:Nat} (ha:a<65536):dP (el a) (el a).length=a:=by
 apply Nat.eq_of_testBit_eq
 intro i
 rw[Bool.eq_iff_iff,rC,iV]
 exact⟨fun h=>h.2,fun h=>⟨fU ha h,h⟩⟩
theorem aKP {x:Vn} (ok:x.Ok) {a:Nat} (ha:a<2^x.F) (hf:∀ i,a.testBit i=true→x.fix.testBit i=false):aCw x (cM (el a))=0∧kC (cM (el a)) (cM (el a)).length=a:=by
 have hp:=aU ok.F16
 refine⟨gD _ fun i hi=>?_,by rw[aGP,bO];exact aJB (by omega)⟩
 rw[bO]at hi
 obtain⟨k,hk⟩:=bC hi
 have hm:=iV.1 (List.mem_of_getElem? hk)
 have hkF:=eJ ha hm.2
 unfold vH
 rw[aO (fE hk)]
 have h1:btw 0 (k:Int) ((x.F:Int)-1)=true:=mU.2 ⟨by omega,by omega⟩
 rw[h1,if_pos rfl]
 have h2:¬(k:Int)≤prC (cM (el a)) i:=by
  cases i with
  | zero=>show ¬(k:Int) ≤ -1;omega
  | succ i =>
    obtain⟨p,hp'⟩:=bC (l:=el a) (i:=i) (by omega)
    rw[prC,aO (fE hp')]
    have:=aNP hp' hk (by omega)
    omega
 rw[if_neg h2,Int.toNat_natCast,hf k hm.2]
 rfl
theorem aGC {x:Vn} (ok:x.Ok) {a:Nat} (ha:a<2^x.F) (hf:∀ i,a.testBit i=true→x.fix.testBit i=false) :
 runW aA 27 [.agg x.c,nL (cM (el a))] []=some (I (if dH (cE x) x.sick x.nur a then 0 else 11),[]):=by
 obtain⟨h1,h2⟩:=aKP ok ha hf
 have h:=aOz ok (aIE a) ok.h23
 unfold stE at h
 rw[if_pos h1,h2]at h
 exact h
section
variable {x:Vn} (ok:x.Ok) {c:Nat} (hc:isCut x c)
end
section
variable {x:Vn} (ok:x.Ok) {n:Nat} (hn:Lea x 0 n)
end
section
variable (x:Vn)
variable {x}
end
theorem aKY {a i:Nat} (ha:a<256) (hi:i<8):cD .and .u8 ((a:Int).fdiv (2^min i IntKind.u8.bits)) 1=if a.testBit i then 1 else 0:=by
 have hs:(a:Int).fdiv (2^min i IntKind.u8.bits)=((a>>>i:Nat):Int):=by
  rw[show IntKind.u8.bits=8 from rfl,Nat.min_eq_left (by omega),show (2:Int)^i=((2^i:Nat):Int) by norm_cast,Int.fdiv_eq_ediv_of_nonneg _ (Int.natCast_nonneg _),Nat.shiftRight_eq_div_pow]
  exact(Int.natCast_ediv a (2^i)).symm
 have hle:a>>>i≤a:=Nat.shiftRight_le a i
 rw[hs]
 have h1:cD .and .u8 ((a>>>i:Nat):Int) 1=(((a>>>i)&&&1:Nat):Int):=by
  unfold cD
  dsimp only
  rw[show (1:Int)=((1:Nat):Int) from rfl,eD,eD,show IntKind.u8.bits=8 from rfl,BitVec.toNat_and,BitVec.toNat_ofNat,BitVec.toNat_ofNat,Nat.mod_eq_of_lt (by omega),Nat.mod_eq_of_lt (by omega)]
  have:(a>>>i)&&&1≤1:=Nat.and_le_right
  rcases (by omega:(a>>>i)&&&1=0∨(a>>>i)&&&1=1)with h|h<;>rw[h]<;>rfl
 rw[h1]
 unfold Nat.testBit
 rw[Nat.and_comm,Nat.one_and_eq_mod_two]
 by_cases hb:(a>>>i)%2=0
 ·simp[hb]
 ·have:(a>>>i)%2=1:=by omega
  simp[this]
def ownA (x:Vn) (s:Nat):Nat:=eO s x.fix%2^x.F
theorem vS (x:Vn) (s:Nat):ownA x s<2^x.F:=Nat.mod_lt _ (Nat.two_pow_pos _)
theorem aBW {x:Vn} (ok:x.Ok) {s f:Nat} (hf:f<x.F):(ownA x s).testBit f=(s.testBit f && !x.fix.testBit f):=by
 have hF:=ok.F16
 have hp:=aU hF
 have hfx:=ok.f
 unfold ownA
 rw[Nat.testBit_mod_two_pow,bX (by omega),decide_eq_true hf,decide_eq_true (show f<64 by omega),Bool.true_and,Bool.true_and]
theorem aFJ {x:Vn} (ok:x.Ok) {s i:Nat} (h:(ownA x s).testBit i=true):x.fix.testBit i=false:=by
 have hi:=eJ (vS x s) h
 rw[aBW ok hi,Bool.and_eq_true]at h
 simpa using h.2
section
variable {x:Vn} (ok:x.Ok) (hF8:x.F≤8) {s ss:Nat} (hs:s<256)
include ok hF8 hs in
end
structure Les (o x:Vn):Prop where
 s:sub o.sick x.sick
 n:sub o.nur x.nur
 f:sub o.fix x.fix
 st:∀ k,sub (cE o k) (cE x k)
theorem aFd {a b i:Nat} (h:sub a b) (hi:b.testBit i=false):a.testBit i=false:=by
 cases ha:a.testBit i
 ·rfl
 ·rw[h i ha]at hi;simp at hi
theorem Les.cuts {o x:Vn} (h:Les o x) {C:Nat} (hC:Cuts x 0 C):Cuts o 0 C :=
 ⟨hC.lt,fun i hi=>aFd h.f (hC.free i hi),fun g hg=>aFd h.n (hC.cut g (hg.mono h.s h.st (dG _)))⟩
def szP (x:Vn) (v:Nat):Prop:=(kP x=true∧Lea x 0 v∧v≤16)∨(kP x=false∧v=99)
theorem Les.has {o x:Vn} (h:Les o x) (ok:o.Ok) (ox:x.Ok) (hh:kP x=true):kP o=true:=by
 obtain⟨C,_,hC⟩:=(iF ox).1 hh
 obtain⟨h1,h2⟩:=aDF ok (h.cuts hC)
 exact(iF ok).2 ⟨_,h1,h2⟩
theorem Les.size {o x:Vn} (h:Les o x) (ok:o.Ok) (ox:x.Ok) {n m:Nat} (hn:szP x n) (hm:szP o m):m≤n:=by
 rcases hn with ⟨n1,n2,n3⟩|⟨_,rfl⟩
 ·rcases hm with ⟨_,m2,_⟩|⟨m1,_⟩
  ·obtain⟨C,_,c2,c3⟩:=n2.1
   have:=m2.2 C (h.cuts c2)
   omega
  ·rw[h.has ok ox n1]at m1;simp at m1
 ·rcases hm with ⟨_,_,m3⟩|⟨_,rfl⟩
  ·omega
  ·omega
section
variable (x:Vn) (bs:List Nat)
variable {x bs} (ok:x.Ok)
end
section
variable {x:Vn} (ok:x.Ok) {bs:List Nat} (hb8:∀ v∈bs,v<256) (hl8:bs.length≤maxLen)
end
section
variable {x:Vn} (ok:x.Ok) {bs:List Nat} (hb8:∀ v∈bs,v<256) (hl8:bs.length≤maxLen)
end
section
variable {x:Vn} (ok:x.Ok) {bs:List Nat} (hb8:∀ v∈bs,v<256) (hl8:bs.length≤maxLen)
end
abbrev El:Type:=List Int×List Int
def pU:List El→List Nat→List AV
 | e::r,i::s=>.sl i e.1.length 1 e.2.length::pU r s
 | _,_=>[]
def slC (Ls:List El):List AV:=pU Ls ((List.range Ls.length).map (· + 2))
abbrev bk1 (e:El):Option XB:=some (.blk true (.cells true ((e.1++e.2).map I)))
abbrev bk (Ls:List El):XH:=Ls.map bk1
def vX (b0:ABlk):List El→XH
 | []=>[some (.blk true b0)]
 | e::r=>some (.blk true b0)::some (.blk false (.cells true (slC (e::r))))::bk (e::r)
def oL:List El→AV
 | []=>.nilsl
 | e::r=>.sl 1 0 1 (r.length+1)
theorem aGH:∀ (Ls:List El) (ids:List Nat),ids.length=Ls.length→kT (pU Ls ids)=ids
 | [],[],_=>rfl
 | e::r,i::s,h=>by
   rw[pU,kT,aGH r s (by simpa using h)];rfl
 | [],_::_,h=>by simp at h
 | _::_,[],h=>by simp at h
theorem aAb {h:XH}:∀ (ids:List Nat) (n:Nat) (acc:List Nat),ids.length≤n→(∀ i∈ids,∃ x,hat h i=some x∧nmB x=[])→(∀ i∈ids,i∉acc)→ids.Nodup→cY h 0 n ids acc=acc++ids
 | [],n,acc,_,_,_,_=>by cases n<;>simp[cY]
 | i::r,0,acc,h1,_,_,_=>by simp at h1
 | i::r,n+1,acc,h1,h2,h3,h4=>by
   obtain⟨x,hx,hn⟩:=h2 i List.mem_cons_self
   have hi:=h3 i List.mem_cons_self
   rw[List.nodup_cons]at h4
   rw[cY,if_neg (by simp[hi]),hx]
   show cY h 0 n (nmB x++r) (acc++[i])=_
   rw[hn,List.nil_append,aAb r n (acc++[i]) (by simpa using h1) (fun j hj=>h2 j (List.mem_cons_of_mem _ hj)) (fun j hj=>by
    rw[List.mem_append,List.mem_singleton]
    rintro (h|rfl)
    ·exact h3 j (List.mem_cons_of_mem _ hj) h
    ·exact h4.1 hj) h4.2]
   simp
theorem lP:∀ (l:List Nat) (i b:Nat),l.Nodup→l[i]?=some b→fB b l=some i
 | [],i,b,_,h=>by simp at h
 | c::r,0,b,_,h=>by simp at h;subst h;simp[fB]
 | c::r,i+1,b,hn,h=>by
   rw[List.nodup_cons]at hn
   have h:r[i]?=some b:=by simpa using h
   have hne:b≠c:=fun e=>hn.1 (by rw[←e];exact List.mem_of_getElem? h)
   rw[fB,if_neg hne,lP r i b hn.2 h];rfl
theorem aGG {f:Nat→Option Nat}:∀ (Ls:List El) (ids js:List Nat),ids.length=Ls.length→js.length=Ls.length→(∀ (k i j:Nat),ids[k]?=some i→js[k]?=some j→f i=some j)→jA f (pU Ls ids)=pU Ls js
 | [],[],[],_,_,_=>rfl
 | e::r,i::s,j::t,h1,h2,h3=>by
   have h0:=h3 0 i j rfl rfl
   rw[pU,pU,jA,aGG r s t (by simpa using h1) (by simpa using h2) (fun k a b ha hb=>h3 (k+1) a b ha hb)]
   simp only[rnA,h0]
 | [],_::_,_,h,_,_=>by simp at h
 | _::_,[],_,h,_,_=>by simp at h
 | _::_,_::_,[],_,h,_=>by simp at h
 | [],[],_::_,_,h,_=>by simp at h
theorem aEK {L:List Nat} {e:aG} {h:XH} {vals:List AV} {b0:ABlk} {B:Nat} {ids:List Nat} {Ls:List El} (hv:L.map e=vals) (hnm:kT vals=[0,B]) (h0:hat h 0=some (.blk true b0))
 (hB:hat h B=some (.blk false (.cells true (pU Ls ids)))) (hlen:ids.length=Ls.length) (hid:∀ (k:Nat) (x:El),Ls[k]?=some x→∃ i,ids[k]?=some i∧hat h i=bk1 x) (nd:(0::B::ids).Nodup) (hn:Ls.length≤100) :
 aS 0 L (some (.normal,e,h))=some (jA (dT 0 (0::B::ids)) vals,some (.blk true b0)::some (.blk false (.cells true (slC Ls)))::bk Ls):=by
 have hids:∀ i∈ids,∃ x,hat h i=some x∧nmB x=[]:=fun i hi=>by
  obtain⟨k,hk⟩:=List.getElem?_of_mem hi
  obtain⟨x,hx⟩:=bC (l:=Ls) (i:=k) (by have:=dB hk;omega)
  obtain⟨j,hj,hh⟩:=hid k x hx
  rw[hk]at hj
  obtain rfl:=Option.some.inj hj
  exact⟨_,hh,rfl⟩
 have nd':=nd
 rw[List.nodup_cons,List.nodup_cons]at nd'
 have hB0:B≠0:=fun e=>nd'.1 (by rw[e];exact List.mem_cons_self)
 have hr:cY h 0 4096 [0,B] []=0::B::ids:=by
  rw[show (4096:Nat)=4095+1 from rfl,cY,if_neg (by simp),h0]
  show cY h 0 4095 (nmB (.blk true b0)++[B]) ([]++[0])=_
  rw[show nmB (.blk true b0)=[] from by cases b0<;>rfl,List.nil_append,List.nil_append,show (4095:Nat)=4094+1 from rfl,cY,if_neg (by simp[hB0]),hB]
  show cY h 0 4094 (kT (pU Ls ids)++[]) ([0]++[B])=_
  rw[aGH Ls ids hlen,List.append_nil,aAb ids 4094 _ (by omega) hids (fun i hi=>by
   intro hm
   simp only[List.cons_append,List.nil_append,List.mem_cons,List.not_mem_nil,or_false]at hm
   rcases hm with rfl|rfl
   ·exact nd'.1 (List.mem_cons_of_mem _ hi)
   ·exact nd'.2.1 hi) nd'.2.2]
  rfl
 have hk:dS 0 vals h=0::B::ids:=by
  show cY h 0 4096 (kT vals++(dD 0 h).flatMap nmO) []=_
  rw[hnm]
  exact hr
 have hpos:∀ (k i:Nat),(0::B::ids)[k]?=some i→dT 0 (0::B::ids) i=some k:=fun k i hi=>by
  unfold dT
  rw[if_neg (by omega),lP _ k i nd hi];rfl
 have hC:jA (dT 0 (0::B::ids)) (pU Ls ids)=slC Ls:=by
  refine aGG Ls ids _ hlen (by simp) fun k i j hi hj=>?_
  rw[List.getElem?_map,List.getElem?_range (by have:=dB hi;omega)]at hj
  have:k+2=j:=by simpa using hj
  subst this
  exact hpos (k+2) i (by simpa using hi)
 rw[T5]
 unfold yQ mT
 rw[hv,hk]
 congr 2
 unfold lS
 show []++_=_
 rw[List.nil_append,List.map_cons,List.map_cons,h0,hB]
 congr 1
 refine(congrArg (· :: _) (show zG (dT 0 (0::B::ids)) (some (XB.blk false (.cells true (pU Ls ids))))=some (.blk false (.cells true (slC Ls))) from ?_)).trans (congrArg (_ :: ·) ?_)
 ·show some (XB.blk false (.cells true (jA _ _)))=_
  rw[hC]
 ·· apply List.ext_getElem?
    intro k
    rw[List.getElem?_map,List.getElem?_map]
    cases hx:Ls[k]? with
    | none =>
      have:ids[k]?=none:=by
       rw[List.getElem?_eq_none_iff]at hx ⊢
       omega
      rw[this];rfl
    | some x =>
      obtain⟨i,hi,hh⟩:=hid k x hx
      rw[hi]
      show some (zG _ (hat h i))=some (bk1 x)
      rw[hh];rfl
theorem aHZ (n:Nat):((List.range n).map (· + 2)).Nodup:=by
 rw[List.Nodup,List.pairwise_map]
 exact List.nodup_range.imp fun h e=>h (by omega)
theorem sB {H:XH} {N:Nat} {a:Option XB} (h:H.length=N):hat (H++[a]) N=a:=by
 subst h;simp[hat]
theorem nX {H r:XH} {b:Nat} (h:b<H.length):hat (H++r) b=hat H b:=by
 unfold hat
 rw[List.getD_eq_getElem?_getD,List.getD_eq_getElem?_getD,List.getElem?_append_left h]
theorem tN {H:XH} {b:Nat} {a:Option XB} (h:H[b]?=some a):hat H b=a:=by
 unfold hat;rw[List.getD_eq_getElem?_getD,h];rfl
theorem aJz {H:XH} {N:Nat} {a b:Option XB} (h:H.length=N):(H++[a]).set N b=H++[b]:=by
 subst h;simp
theorem eB {H:XH} {i j:Nat} {a:Option XB} (h:i≠j):hat (H.set i a) j=hat H j:=by
 unfold hat
 rw[List.getD_eq_getElem?_getD,List.getD_eq_getElem?_getD,List.getElem?_set_ne h]
theorem aOa (w:List Int):((w.map fun n=>([I n]:List AV)).all fun r=>r.length==1)=true:=by simp
theorem aLr (w:List Int):(w.map fun n=>([I n]:List AV)).flatten=w.map I:=by
 induction w with
 | nil=>rfl
 | cons a l ih=>simp[ih]
theorem aEp:∀ (Ls:List El) (ids:List Nat) (x:El) (j:Nat),ids.length=Ls.length→pU (Ls++[x]) (ids++[j])=pU Ls ids++[.sl j x.1.length 1 x.2.length]
 | [],[],x,j,_=>rfl
 | e::r,i::s,x,j,h=>by
   simp only[List.cons_append,pU]
   rw[aEp r s x j (by simpa using h)]
 | [],_::_,_,_,h=>by simp at h
 | _::_,[],_,_,h=>by simp at h
theorem vM:∀ (Ls:List El) (ids:List Nat),ids.length=Ls.length→(pU Ls ids).length=Ls.length
 | [],[],_=>rfl
 | e::r,i::s,h=>by simp only[pU,List.length_cons,vM r s (by simpa using h)]
 | [],_::_,h=>by simp at h
 | _::_,[],h=>by simp at h
theorem aEq (Ls:List El):(slC Ls).length=Ls.length:=vM Ls _ (by simp)
theorem wY:∀ (Ls:List El) (ids:List Nat) (k:Nat) (x:El) (i:Nat),Ls[k]?=some x→ids[k]?=some i→(pU Ls ids)[k]?=some (.sl i x.1.length 1 x.2.length)
 | e::r,i::s,0,x,j,h1,h2=>by simp at h1 h2;subst h1;subst h2;rfl
 | e::r,i::s,k+1,x,j,h1,h2=>by
   simp only[pU,List.getElem?_cons_succ]at h1 h2 ⊢
   exact wY r s k x j h1 h2
 | [],_,_,_,_,h1,_=>by simp at h1
 | _::_,[],_,_,_,_,h2=>by simp at h2
theorem aLH {Ls:List El} {k:Nat} {x:El} (h:Ls[k]?=some x):(slC Ls)[k]?=some (.sl (k+2) x.1.length 1 x.2.length) :=
 wY Ls _ k x (k+2) h (by rw[List.getElem?_map,List.getElem?_range (dB h)];rfl)
structure Lay (b0:ABlk) (Ls:List El) (H:XH):Prop where
 len:H.length=Ls.length+2
 h0:hat H 0=some (.blk true b0)
 h1:hat H 1=some (.blk false (.cells true (slC Ls)))
 hk:∀ (k:Nat) (x:El),Ls[k]?=some x→hat H (k+2)=bk1 x
theorem aDo (b0:ABlk) {Ls:List El} (h:Ls≠[]):Lay b0 Ls (vX b0 Ls):=by
 cases Ls with
 | nil=>exact absurd rfl h
 | cons e r =>
   refine⟨by simp[vX],rfl,rfl,fun k x hx=>tN ?_⟩
   show (some _::some _::bk (e::r))[k+2]?=_
   rw[List.getElem?_cons_succ,List.getElem?_cons_succ,List.getElem?_map,hx];rfl
theorem aEL {L:List Nat} {e:aG} {vals:List AV} {b0:ABlk} {Ls:List El} {H R:XH} {x:El} {j B:Nat} (ly:Lay b0 Ls H) (hj:hat (H++R) j=bk1 x) (hj2:Ls.length+2≤j∧j<B) (hB:B=Ls.length+2+R.length)
 (hv:L.map e=vals) (hnm:kT vals=[0,B]) (hn:Ls.length≤90) :
 ∃ f:Nat→Option Nat,f 0=some 0∧f B=some 1∧aS 0 L (some (.normal,e,(H++R).set 1 none++[some (.blk false (.cells true (slC Ls++[.sl j x.1.length 1 x.2.length])))]))=some (jA f vals,vX b0 (Ls++[x])):=by
 have hlen:((H++R).set 1 none).length=B:=by rw[List.length_set,List.length_append,ly.len,hB]
 have hin:∀ b,b<B→b≠1→hat ((H++R).set 1 none++[some (.blk false (.cells true (slC Ls++[.sl j x.1.length 1 x.2.length])))]) b=hat (H++R) b:=fun b h1 h2=>by
  rw[nX (by omega),eB (fun h=>h2 h.symm)]
 have nd:(0::B::(((List.range Ls.length).map (· + 2))++[j])).Nodup:=by
  rw[List.nodup_cons,List.nodup_cons]
  refine⟨?_,?_,?_⟩
  ·simp;omega
  ·simp;constructor
   ·intro k hk;omega
   ·omega
  ·rw[List.nodup_append]
   refine⟨?_,by simp,?_⟩
   ·exact aHZ _
   ·intro a ha b hb
    simp only[List.mem_map,List.mem_range,List.mem_singleton]at ha hb
    obtain⟨k,hk,rfl⟩:=ha
    omega
 have key:=aEK (L:=L) (e:=e) (h:=(H++R).set 1 none++[some (.blk false (.cells true (slC Ls++[.sl j x.1.length 1 x.2.length])))]) (vals:=vals) (b0:=b0) (B:=B) (ids:=((List.range Ls.length).map (· + 2))++[j]) (Ls:=Ls++[x]) hv hnm
  (by rw[hin 0 (by omega) (by omega),nX (by rw[ly.len];omega)];exact ly.h0)
  (by rw[sB hlen,aEp Ls _ x j (by simp)];rfl)
  (by simp)
  (fun k y hy=>by
   by_cases hk:k<Ls.length
   ·rw[List.getElem?_append_left hk]at hy
    refine⟨k+2,by rw[List.getElem?_append_left (by simpa using hk),List.getElem?_map,List.getElem?_range hk];rfl,?_⟩
    rw[hin (k+2) (by omega) (by omega),nX (by rw[ly.len];omega)]
    exact ly.hk k y hy
   ·have hk2:k=Ls.length:=by
     have:=dB hy
     simp at this;omega
    subst hk2
    rw[List.getElem?_append_right (Nat.le_refl _),Nat.sub_self]at hy
    obtain rfl:x=y:=by simpa using hy
    refine⟨j,by rw[List.getElem?_append_right (by simp)];simp,?_⟩
    rw[hin j hj2.2 (by omega)]
    exact hj)
  nd (by simp;omega)
 refine⟨dT 0 (0::B::(((List.range Ls.length).map (· + 2))++[j])),?_,?_,key.trans ?_⟩
 ·unfold dT
  rw[if_neg (by omega),lP _ 0 0 nd rfl];rfl
 ·unfold dT
  rw[if_neg (by omega),lP _ 1 B nd rfl];rfl
 ·cases Ls<;>rfl
theorem aIa {L:List Nat} {e:aG} {vals:List AV} {b0:ABlk} {Ls:List El} {H R:XH} {x:El} {k:Nat} (ly:Lay b0 Ls H) (hk:k<Ls.length) (hp:∀ y,Ls[k]?=some y→y.1.length=x.1.length∧y.2.length=x.2.length)
 (hv:L.map e=vals) (hnm:kT vals=[0,1]) (hn:Ls.length≤90) :
 ∃ f:Nat→Option Nat,f 0=some 0∧f 1=some 1∧aS 0 L (some (.normal,e,(H++R).set (k+2) (bk1 x)))=some (jA f vals,vX b0 (Ls.set k x)):=by
 have hin:∀ b,b<Ls.length+2→b≠k+2→hat ((H++R).set (k+2) (bk1 x)) b=hat H b:=fun b h1 h2=>by
  rw[eB (fun h=>h2 h.symm),nX (by rw[ly.len];omega)]
 have nd:(0::1::((List.range (Ls.set k x).length).map (· + 2))).Nodup:=by
  rw[List.nodup_cons,List.nodup_cons]
  refine⟨by simp,by simp,aHZ _⟩
 have hsl:slC (Ls.set k x)=slC Ls:=by
  unfold slC
  rw[List.length_set]
  apply List.ext_getElem?
  intro i
  by_cases hi:i<Ls.length
  ·obtain⟨y,hy⟩:=bC hi
   have hr:((List.range Ls.length).map (· + 2))[i]?=some (i+2):=by rw[List.getElem?_map,List.getElem?_range hi];rfl
   rw[wY Ls _ i y (i+2) hy hr]
   by_cases hik:k=i
   ·subst hik
    rw[wY _ _ k x (k+2) (by rw[List.getElem?_set_self hi]) hr,(hp y hy).1,(hp y hy).2]
   ·rw[wY _ _ i y (i+2) (by rw[List.getElem?_set_ne hik];exact hy) hr]
  ·rw[List.getElem?_eq_none (by rw[vM _ _ (by simp)];simp;omega),List.getElem?_eq_none (by rw[vM _ _ (by simp)];omega)]
 have key:=aEK (L:=L) (e:=e) (h:=(H++R).set (k+2) (bk1 x)) (vals:=vals) (b0:=b0) (B:=1) (ids:=(List.range (Ls.set k x).length).map (· + 2)) (Ls:=Ls.set k x) hv hnm
  (by rw[hin 0 (by omega) (by omega)];exact ly.h0)
  (by rw[hin 1 (by omega) (by omega),ly.h1,←hsl];rfl)
  (by simp)
  (fun i y hy=>by
   have hi:i<Ls.length:=by have:=dB hy;simpa using this
   refine⟨i+2,by rw[List.getElem?_map,List.getElem?_range (by simpa using hi)];rfl,?_⟩
   by_cases hik:k=i
   ·subst hik
    rw[List.getElem?_set_self hi]at hy
    obtain rfl:=Option.some.inj hy
    exact tN (List.getElem?_set_self (by rw[List.length_append,ly.len];omega))
   ·rw[List.getElem?_set_ne hik]at hy
    rw[hin (i+2) (by omega) (by omega)]
    exact ly.hk i y hy)
  nd (by simp;omega)
 refine⟨dT 0 (0::1::((List.range (Ls.set k x).length).map (· + 2))),?_,?_,key.trans ?_⟩
 ·unfold dT
  rw[if_neg (by omega),lP _ 0 0 nd rfl];rfl
 ·unfold dT
  rw[if_neg (by omega),lP _ 1 1 nd rfl];rfl
 ·have:Ls.set k x≠[]:=fun h=>by
   have:=congrArg List.length h
   simp at this;subst this;simp at hk
  cases h:Ls.set k x with
  | nil=>exact absurd h this
  | cons a r=>rfl
theorem aHy {x:Vn} {SR:List (List AV)} {s i:Nat} {H:XH} {Ls:List El} {ws:List (List Int)} {w:List Int} (hw:ws[i]?=some w) (hl:ws.length≤16) (hwl:w.length≤16) (ly:Lay (.cells true x.c) Ls H) (hn:Ls.length≤90) :
 aS 0 [1,2,7,10,34,35,36] (execW aA 10 0 none (match wO with | .loop _ a=>a|c=>c) (aV [1,2,7,10,34,35,36] [.fs SR,B8 s,.pt 0 0,.sl 1 0 1 Ls.length,wL ws,I ws.length,I (i:Nat)]) H) =
  some ([.fs SR,B8 s,.pt 0 0,.sl 1 0 1 (Ls.length+1),wL ws,I ws.length,I (i+1:Nat)],vX (.cells true x.c) (Ls++[([],w)])):=by
 have a1:=dC (dB hw)
 have a2:=dN (dB hw) (by omega)
 obtain⟨N,hN⟩:∃ N,H.length=N:=⟨_,rfl⟩
 have hN2:N=Ls.length+2:=by rw[←hN,ly.len]
 have h0:=ly.h0
 have h1:=ly.h1
 have hC:=aEq Ls
 have q1:=sB (a:=some (.blk true (.cells true []))) hN
 have q2:=aOa w
 have q3:=aLr w
 have q4:=aJz (a:=some (.blk true (.cells true []))) (b:=none) hN
 have q5:(w.length*8≤1099511627776)=True:=eq_true (by omega)
 have q6:(w.length≤1099511627776)=True:=eq_true (by omega)
 obtain⟨W,hW⟩:∃ W:Option XB,W=some (.blk true (.cells true (w.map I))):=⟨_,rfl⟩
 have r1:hat (H++[none]++[some (.blk true (.cells true (w.map I)))]++[some (.blk false (.cells true [.sl (N+1) 0 1 w.length]))]) 1=some (.blk false (.cells true (slC Ls))):=by
  rw[List.append_assoc,List.append_assoc,nX (by omega),h1]
 have r2:hat (H++[none]++[some (.blk true (.cells true (w.map I)))]++[some (.blk false (.cells true [.sl (N+1) 0 1 w.length]))]) (N+1+1)=some (.blk false (.cells true [.sl (N+1) 0 1 w.length])):=sB (by simp[hN])
 have q7:((Ls.length+1)*24≤1099511627776)=True:=eq_true (by omega)
 have q8:(Ls.length+1≤1099511627776)=True:=eq_true (by omega)
 have hR:H++[none]++[some (.blk true (.cells true (w.map I)))]++[some (.blk false (.cells true [.sl (N+1) 0 1 w.length]))]=H++[none,some (.blk true (.cells true (w.map I))),some (.blk false (.cells true [.sl (N+1) 0 1 w.length]))]:=by simp
 have hj:hat (H++[none,some (.blk true (.cells true (w.map I))),some (.blk false (.cells true [.sl (N+1) 0 1 w.length]))]) (N+1)=bk1 ([],w):=tN (by
  rw[List.getElem?_append_right (by omega),hN,show N+1-N=1 by omega];rfl)
 have key:=fun(e:aG) (hv:[1,2,7,10,34,35,36].map e=[.fs SR,B8 s,.pt 0 0,.sl (N+1+1+1) 0 1 (Ls.length+1),wL ws,I ws.length,I ((i:Int)+1)])=>aEL (x:=([],w)) (B:=N+1+1+1) ly hj ⟨by omega,by omega⟩ (by simp;omega) hv rfl hn
 unfold wO
 dsimp only
 sym =>
  simp[Za,Zb,Zd,Ze,Zf,Zh,Zl,Zm,Zo,Zv,Z1,Z3,ZA,ZH,ZT,Yi,Yj,Yl,Yu,Yy,Yz,Xi,Xm,Xo,Wu,W0,W3,W5,W6,W7,W8,WA,VP,VS,VT,VY,VZ,Ub,Uc,Uf,Ug,Uh,Ui,Uj,Ul,Un,Ut,Ux,Uz,U0,U1,U6,U7,UE,UF,UG,UH,UP,UQ,UR,US,UV,UW,UX,UY,Ta,Tb,Tf,Tg,Ti,Tl,Tm,Tn,Tp,Tq,Ts,Tt,Tv,Tx,Ty,T1,T6,T7,TH,TI,TJ,TR,a1,a2,hw,hN,h0,h1,hC,q1,q2,q3,q4,q5,q6,r1,r2,q7,q8]
  tactic =>
   rw[hR]
   refine Exists.elim (key _ ?_) fun f hf=>hf.2.2.trans ?_
   ·rfl
   ·simp only[jA,rnA,hf.1,hf.2.1]
    rfl
abbrev T3 (SS:List (Nat×Nat×Nat)):AV:=.fs (SS.map fun v=>[B8 v.1,B8 v.2.1,B8 v.2.2])
def yv (F:Nat) (o:Nat×Nat×Nat):List Int:=[((o.1%F:Nat):Int),((o.2.1%F:Nat):Int),((o.2.2%F:Nat):Int)]
def kv (n:Nat) (o:Nat×Nat×Nat):Nat:=o.1/16%(n+1)
def qv (o:Nat×Nat×Nat):Nat:=o.2.1/16%3
def nx (F:Nat) (Ls:List El) (o:Nat×Nat×Nat):List El:=match Ls[kv Ls.length o]? with
 | some e=>Ls.set (kv Ls.length o) (e.1,e.2.set (o.2.1%e.2.length) ((o.2.2%F:Nat):Int))
 | none=>Ls++[((yv F o).take (qv o),(yv F o).drop (qv o))]
theorem aHx {x:Vn} (ok:x.Ok) {SS:List (Nat×Nat×Nat)} {s i:Nat} {H:XH} {Ls:List El} {o:Nat×Nat×Nat} (ho:SS[i]?=some o) (h8:o.1<256∧o.2.1<256∧o.2.2<256) (hi:i<4) (ly:Lay (.cells true x.c) Ls H) (hn:Ls.length≤80) (hne:∀ e∈Ls,e.2≠[]∧e.2.length≤16∧e.1.length≤16) :
 aS 0 [1,2,7,10,13] (execW aA 10 0 none (match uJ with | .loop _ a=>a|c=>c) (aV [1,2,7,10,13] [T3 SS,B8 s,.pt 0 0,.sl 1 0 1 Ls.length,I (i:Nat)]) H) =
  some ([T3 SS,B8 s,.pt 0 0,.sl 1 0 1 (nx x.F Ls o).length,I (i+1:Nat)],vX (.cells true x.c) (nx x.F Ls o)):=by
 have hF1:=ok.F1
 have hF16:=ok.F16
 have a1:=dC (dB ho)
 have a3:((i:Int)<4)=True:=eq_true (by omega)
 have a2:=dN hi (by omega)
 obtain⟨N,hN⟩:∃ N,H.length=N:=⟨_,rfl⟩
 have hN2:N=Ls.length+2:=by rw[←hN,ly.len]
 have h0:=ly.h0
 have h1:=ly.h1
 have hC:=aEq Ls
 have v1:=wr8 h8.1
 have v2:=wr8 h8.2.1
 have v3:=wr8 h8.2.2
 have fz:((x.F:Int)=0)=False:=eq_false (by omega)
 have m1:=aY o.1 x.F
 have m2:=aY o.2.1 x.F
 have m3:=aY o.2.2 x.F
 have d1:lE (o.1:Int) 16=((o.1/16:Nat):Int):=cA o.1 16
 have wa1:IntKind.i64.wrap ((o.1/16:Nat):Int)=((o.1/16:Nat):Int):=aD (by omega) (by omega)
 have wa2:IntKind.i64.wrap ((Ls.length:Int)+1)=((Ls.length+1:Nat):Int):=by rw[aD (by omega) (by omega)];omega
 have nz:(((Ls.length+1:Nat):Int)=0)=False:=eq_false (by omega)
 have m4:jZ ((o.1/16:Nat):Int) ((Ls.length+1:Nat):Int)=((kv Ls.length o:Nat):Int):=aY _ _
 obtain⟨Y,hY⟩:∃ Y:Option XB,Y=some (.blk true (.cells true [I (o.1%x.F:Nat),I (o.2.1%x.F:Nat),I (o.2.2%x.F:Nat)])):=⟨_,rfl⟩
 have r0:hat (H++[some (.blk true (.cells true [I (o.1%x.F:Nat),I (o.2.1%x.F:Nat),I (o.2.2%x.F:Nat)]))]) 1=some (.blk false (.cells true (slC Ls))):=by rw[nX (by omega)];exact h1
 have r1:hat (H++[some (.blk true (.cells true [I (o.1%x.F:Nat),I (o.2.1%x.F:Nat),I (o.2.2%x.F:Nat)]))]) N=some (.blk true (.cells true [I (o.1%x.F:Nat),I (o.2.1%x.F:Nat),I (o.2.2%x.F:Nat)])):=sB hN
 have hk:=Nat.mod_lt (o.1/16) (show 0<Ls.length+1 by omega)
 by_cases hkk:kv Ls.length o<Ls.length
 ·obtain⟨e,he⟩:=bC hkk
  have c1:((kv Ls.length o:Int)<(Ls.length:Int))=True:=eq_true (by omega)
  have c2:((0:Int)≤(kv Ls.length o:Int))=True:=eq_true (by omega)
  have ce:=aLH he
  obtain⟨e1,e2,e3⟩:=hne e (List.mem_of_getElem? he)
  have lp:0<e.2.length:=List.length_pos_iff.2 e1
  have c3:((0:Int)<(e.2.length:Int))=True:=eq_true (by omega)
  have c4:((e.2.length:Int)=0)=False:=eq_false (by omega)
  have m5:=aY o.2.1 e.2.length
  have hml:=Nat.mod_lt o.2.1 lp
  have c5:(((o.2.1%e.2.length:Nat):Int)<(e.2.length:Int))=True:=eq_true (by omega)
  have c6:((0:Int)≤((o.2.1%e.2.length:Nat):Int))=True:=eq_true (by omega)
  have t5:(((o.2.1%e.2.length:Nat):Int)).toNat=o.2.1%e.2.length:=Int.toNat_natCast _
  have r2:hat (H++[some (.blk true (.cells true [I (o.1%x.F:Nat),I (o.2.1%x.F:Nat),I (o.2.2%x.F:Nat)]))]) (kv Ls.length o+2)=some (.blk true (.cells true ((e.1++e.2).map I))):=by rw[nX (by omega)];exact ly.hk _ e he
  have n1:(kv Ls.length o+2=N)=False:=eq_false (by omega)
  have n2:(kv Ls.length o+2=1)=False:=eq_false (by omega)
  have n3:(N=kv Ls.length o+2)=False:=eq_false (by omega)
  have c7:(e.1.length+o.2.1%e.2.length+1≤e.1.length+e.2.length)=True:=eq_true (by omega)
  have sp:cB (e.1.map I++e.2.map I) (e.1.length+o.2.1%e.2.length) [I (o.2.2%x.F:Nat)]=(e.1++e.2.set (o.2.1%e.2.length) ((o.2.2%x.F:Nat):Int)).map I:=by
   rw[fX (by simp;omega),List.set_append_right _ _ (by simp),List.map_append,List.map_set]
   simp
  have hnx:nx x.F Ls o=Ls.set (kv Ls.length o) (e.1,e.2.set (o.2.1%e.2.length) ((o.2.2%x.F:Nat):Int)):=by unfold nx;rw[he]
  have key:=fun(ev:aG) (hv:[1,2,7,10,13].map ev=[T3 SS,B8 s,.pt 0 0,.sl 1 0 1 Ls.length,I ((i:Int)+1)])=>aIa (x:=(e.1,e.2.set (o.2.1%e.2.length) ((o.2.2%x.F:Nat):Int))) (R:=[some (.blk true (.cells true [I (o.1%x.F:Nat),I (o.2.1%x.F:Nat),I (o.2.2%x.F:Nat)]))]) ly hkk (fun y hy=>by
   rw[he]at hy
   obtain rfl:=Option.some.inj hy
   exact⟨rfl,by simp⟩) hv rfl (by omega)
  have hbk:(some (.blk true (.cells true (e.1.map I++(e.2.set (o.2.1%e.2.length) ((o.2.2%x.F:Nat):Int)).map I))):Option XB)=bk1 (e.1,e.2.set (o.2.1%e.2.length) ((o.2.2%x.F:Nat):Int)):=by
   show _=some (XB.blk true (.cells true ((e.1++_).map I)))
   rw[List.map_append]
  rw[hnx,List.length_set]
  unfold uJ
  dsimp only
  sym =>
   simp[aM,aN,bL,Za,Zb,Zc,Zd,Ze,Zf,Zh,Zi,Zl,Zm,Zo,Zp,Zq,Zv,Zy,Z1,Z3,Z7,Z8,Z9,ZA,ZG,ZH,ZI,ZJ,ZK,ZL,ZN,ZO,ZW,Yb,Yc,Ye,Yf,Yh,Yi,Yj,Yl,Yu,Yw,Yy,Yz,YA,YC,YE,YH,YR,Xi,Wq,Wy,W0,W3,W5,W7,W8,WA,Vk,VP,VS,VT,VY,VZ,Ua,Ub,Uc,Uf,Ug,Uh,Ui,Uj,Ul,Uq,Ur,Ut,Ux,Uy,Uz,U0,U6,U7,UE,UF,UG,UH,UP,UQ,UR,US,Td,Te,Tf,Tg,Ti,Tj,Tk,Tl,Ts,Tt,Tv,Tx,Ty,T1,T6,T7,TG,TH,TI,TJ,TT,Ss,a1,a2,a3,ho,hN,h0,h1,hC,v1,v2,v3,fz,m1,m2,m3,d1,wa1,wa2,nz,m4,r0,r1,c1,c2,ce,c3,c4,m5,c5,c6,t5,r2,n1,n2,n3,c7,sp]
   tactic =>
    rw[hbk]
    refine Exists.elim (key _ ?_) fun f hf=>hf.2.2.trans ?_
    ·rfl
    ·simp only[jA,rnA,hf.1,hf.2.1]
     rfl
 ·have c1:((kv Ls.length o:Int)<(Ls.length:Int))=False:=eq_false (by omega)
  have d2:lE (o.2.1:Int) 16=((o.2.1/16:Nat):Int):=cA o.2.1 16
  have wa3:IntKind.i64.wrap ((o.2.1/16:Nat):Int)=((o.2.1/16:Nat):Int):=aD (by omega) (by omega)
  have m6:jZ ((o.2.1/16:Nat):Int) 3=((qv o:Nat):Int):=aY _ 3
  have hq:qv o<3:=Nat.mod_lt _ (by omega)
  have c3:((0:Int)≤(qv o:Int))=True:=eq_true (by omega)
  have c4:((qv o:Int)≤3)=True:=eq_true (by omega)
  have c5:(qv o<3)=True:=eq_true hq
  have t5:((qv o:Nat):Int).toNat=qv o:=Int.toNat_natCast _
  have s1:hat (H++[some (.blk true (.cells true [I (o.1%x.F:Nat),I (o.2.1%x.F:Nat),I (o.2.2%x.F:Nat)]))]++[some (.blk false (.cells true [.sl N (qv o) 1 (3-qv o)]))]) 1=some (.blk false (.cells true (slC Ls))):=by rw[List.append_assoc,nX (by omega)];exact h1
  have s2:hat (H++[some (.blk true (.cells true [I (o.1%x.F:Nat),I (o.2.1%x.F:Nat),I (o.2.2%x.F:Nat)]))]++[some (.blk false (.cells true [.sl N (qv o) 1 (3-qv o)]))]) (N+1)=some (.blk false (.cells true [.sl N (qv o) 1 (3-qv o)])):=sB (by simp[hN])
  have q7:((Ls.length+1)*24≤1099511627776)=True:=eq_true (by omega)
  have q8:(Ls.length+1≤1099511627776)=True:=eq_true (by omega)
  have hyl:(yv x.F o).length=3:=rfl
  have hx1:((yv x.F o).take (qv o)).length=qv o:=by rw[List.length_take,hyl];omega
  have hx2:((yv x.F o).drop (qv o)).length=3-qv o:=by rw[List.length_drop,hyl]
  have hnx:nx x.F Ls o=Ls++[((yv x.F o).take (qv o),(yv x.F o).drop (qv o))]:=by
   unfold nx
   rw[List.getElem?_eq_none (by omega)]
  have hR:H++[some (.blk true (.cells true [I (o.1%x.F:Nat),I (o.2.1%x.F:Nat),I (o.2.2%x.F:Nat)]))]++[some (.blk false (.cells true [.sl N (qv o) 1 (3-qv o)]))]=H++[some (.blk true (.cells true [I (o.1%x.F:Nat),I (o.2.1%x.F:Nat),I (o.2.2%x.F:Nat)])),some (.blk false (.cells true [.sl N (qv o) 1 (3-qv o)]))]:=by simp
  have hj:hat (H++[some (.blk true (.cells true [I (o.1%x.F:Nat),I (o.2.1%x.F:Nat),I (o.2.2%x.F:Nat)])),some (.blk false (.cells true [.sl N (qv o) 1 (3-qv o)]))]) N=bk1 ((yv x.F o).take (qv o),(yv x.F o).drop (qv o)):=by
   rw[tN (a:=some (.blk true (.cells true [I (o.1%x.F:Nat),I (o.2.1%x.F:Nat),I (o.2.2%x.F:Nat)]))) (by rw[List.getElem?_append_right (by omega),hN,Nat.sub_self];rfl)]
   show _=some (XB.blk true (.cells true (((yv x.F o).take (qv o)++(yv x.F o).drop (qv o)).map I)))
   rw[List.take_append_drop];rfl
  have key:=fun(ev:aG) (hv:[1,2,7,10,13].map ev=[T3 SS,B8 s,.pt 0 0,.sl (N+1+1) 0 1 (Ls.length+1),I ((i:Int)+1)])=>aEL (x:=((yv x.F o).take (qv o),(yv x.F o).drop (qv o))) (B:=N+1+1) ly hj ⟨by omega,by omega⟩ (by simp;omega) hv rfl (by omega)
  simp only[hx1,hx2]at key
  rw[hnx,List.length_append,List.length_singleton]
  unfold uJ
  dsimp only
  sym =>
   simp[aM,aN,bL,Za,Zb,Zd,Ze,Zf,Zh,Zi,Zl,Zm,Zn,Zo,Zp,Zq,Zs,Zv,Zy,Z1,Z3,Z7,Z8,Z9,ZA,ZE,ZG,ZH,ZI,ZJ,ZK,ZT,ZW,ZX,Yb,Yc,Ye,Yf,Yi,Yj,Yl,Yu,Yy,Yz,YA,YC,YE,YH,YR,Xi,Xm,Xo,Wq,Wu,W0,W3,W5,W6,W7,W8,WA,VP,VS,VT,VU,VY,VZ,Ua,Ub,Uc,Uf,Ug,Uh,Ui,Uj,Ul,Un,Ut,Ux,Uy,Uz,U0,U6,U7,UE,UF,UG,UH,UI,UJ,UK,UP,UQ,UR,US,UW,UX,UY,Ta,Tb,Td,Te,Tf,Tg,Ti,Tl,Tm,Tn,Tp,Ts,Tt,Tv,Tx,Ty,T1,T6,T7,TC,TD,TE,TF,TH,TI,TJ,TR,TT,a1,a2,a3,ho,hN,h0,h1,hC,v1,v2,v3,fz,m1,m2,m3,d1,wa1,wa2,nz,m4,r0,r1,c1,d2,wa3,m6,c3,c4,c5,t5,s1,s2,q7,q8]
   tactic =>
    rw[hR]
    refine Exists.elim (key _ ?_) fun f hf=>hf.2.2.trans ?_
    ·rfl
    ·simp only[jA,rnA,hf.1,hf.2.1]
     rfl
abbrev tS (e:El):AV:=nL e.2
theorem aAu:∀ (w pre:List Int),bZ ((pre++w).map I) pre.length 1 w.length=w.map fun n=>[I n]
 | [],pre=>rfl
 | a::r,pre=>by
   rw[List.length_cons,bZ]
   have ih:=aAu r (pre++[a])
   rw[List.append_assoc,List.length_append,List.length_singleton]at ih
   rw[show (pre++a::r)=pre++([a]++r) from rfl,ih]
   simp
def aCk:List El→Nat→AV→AV
 | [],_,v=>v
 | e::r,k,v=>aCk r (k+1) (pN k ((e.1++e.2).map I) v)
def fzV (Ls:List El) (v:AV):AV:=pN 1 (Ls.map tS) (aCk Ls 2 v)
def aNN (Ls:List El) (e:aG):aG:=fun j=>if j=10 then nT (fzV Ls (e j)) else fzV Ls (e j)
def fH (b0:ABlk) (D R:List El):XH :=
 some (.blk true b0)::some (.blk (decide (R=[])) (.cells true (D.map tS++pU R ((List.range' (D.length+2) R.length)))))::(List.replicate D.length none++bk R)
theorem aCj {b:Nat} {cs:List AV}:∀ D:List El,mX b cs (D.map tS)=D.map tS
 | []=>rfl
 | e::r=>by rw[List.map_cons,mX,aCj r];rfl
theorem aES {b:Nat} {cs:List AV}:∀ a c:List AV,mX b cs (a++c)=mX b cs a++mX b cs c
 | [],c=>rfl
 | v::r,c=>by rw[List.cons_append,mX,mX,aES r c];rfl
theorem aER {b:Nat} {cs:List AV}:∀ (R:List El) (k:Nat),b<k→mX b cs (pU R (List.range' k R.length))=pU R (List.range' k R.length)
 | [],k,_=>rfl
 | e::r,k,h=>by
   rw[List.length_cons,List.range'_succ,pU,mX,aER r (k+1) (by omega)]
   congr 1
   show pN b cs (.sl k e.1.length 1 e.2.length)=_
   unfold pN
   rw[if_neg (by omega)]
theorem aCi:∀ D:List El,eS (D.map tS)=true
 | []=>rfl
 | e::r=>by rw[List.map_cons,eS,aCi r];rfl
theorem aKC {R:List El} {k:Nat} (D:List El):eS (D.map tS++pU R (List.range' k R.length))=decide (R=[]):=by
 rw[aBd,aCi,Bool.true_and]
 cases R with
 | nil=>rfl
 | cons e r=>rw[List.length_cons,List.range'_succ,pU,eS];rfl
theorem map_none (b:Nat) (cs:List AV) (n:Nat):(List.replicate n (none:Option XB)).map (fzO b cs)=List.replicate n none:=by
 rw[List.map_replicate];rfl
theorem aIb (b:Nat) (cs:List AV) (R:List El):(bk R).map (fzO b cs)=bk R:=by
 unfold bk
 rw[List.map_map]
 rfl
theorem aIv {b0:ABlk} {D R:List El} {x:El} {e:aG}:fz1 (D.length+2) e (fH b0 D (x::R))=(fun j=>pN (D.length+2) ((x.1++x.2).map I) (e j),fH b0 (D++[x]) R):=by
 have hh:hat (fH b0 D (x::R)) (D.length+2)=some (.blk true (.cells true ((x.1++x.2).map I))):=tN (by
  show (some _::some _::(List.replicate D.length none++bk (x::R)))[D.length+2]?=_
  rw[List.getElem?_cons_succ,List.getElem?_cons_succ,List.getElem?_append_right (by simp)]
  simp)
 have hck:=aAu x.2 x.1
 have hcl:((x.1++x.2).map I).length=x.1.length+x.2.length:=by simp
 generalize (x.1++x.2).map I=cs at *
 unfold fz1
 rw[hh]
 show (_,_)=(_,_)
 congr 1
 unfold fH
 rw[List.map_cons,List.map_cons,List.map_append,map_none,aIb]
 show fzO _ _ (some (.blk true b0))::fzO _ _ _::(List.set _ D.length none)=_
 refine congr (congrArg List.cons (by cases b0<;>rfl)) (congr (congrArg List.cons ?_) ?_)
 ·have e1:decide (x::R=[])=false:=decide_eq_false (by simp)
  rw[e1]
  show some (XB.blk (eS (mX _ _ _)) (.cells true (mX _ _ _)))=_
  have e2:mX (D.length+2) cs (D.map tS++pU (x::R) (List.range' (D.length+2) (x::R).length))=(D++[x]).map tS++pU R (List.range' ((D++[x]).length+2) R.length):=by
   rw[aES,aCj,List.length_cons,List.range'_succ,pU,mX,aER R (D.length+2+1) (by omega)]
   have e3:pN (D.length+2) cs (.sl (D.length+2) x.1.length 1 x.2.length)=tS x:=by
    unfold pN
    rw[if_pos ⟨rfl,by omega⟩,hck]
   rw[e3]
   simp[Nat.add_assoc,Nat.add_comm,Nat.add_left_comm]
  rw[e2,aKC]
 ·rw[List.set_append_right _ _ (by simp)]
  simp[bk,List.replicate_succ']
theorem aIt {b0:ABlk}:∀ (R D:List El) (e:aG),lU (List.range' (D.length+2) R.length) e (fH b0 D R)=(fun j=>aCk R (D.length+2) (e j),fH b0 (D++R) [])
 | [],D,e=>by rw[List.append_nil];rfl
 | x::R,D,e=>by
   rw[List.length_cons,List.range'_succ,lU,aIv]
   have ih:=aIt R (D++[x]) (b0:=b0) (fun j=>pN (D.length+2) ((x.1++x.2).map I) (e j))
   rw[List.length_append,List.length_singleton,show D.length+1+2=D.length+2+1 by omega]at ih
   rw[ih,List.append_assoc]
   rfl
theorem hpS {b0:ABlk} {Ls:List El} (h:Ls≠[]):vX b0 Ls=fH b0 [] Ls:=by
 cases Ls with
 | nil=>exact absurd rfl h
 | cons e r =>
   show some _::some _::_=some _::some _::_
   rw[show decide ((e::r:List El)=[])=false from decide_eq_false (by simp)]
   congr 2
   unfold slC
   rw[show ((List.range (e::r).length).map (· + 2))=List.range' 2 (e::r).length by rw[List.range'_eq_map_range];exact List.map_congr_left fun a _=>Nat.add_comm ..]
   rfl
theorem aEn:∀ (R:List El) (k:Nat),uN (pU R (List.range' k R.length))=List.range' k R.length
 | [],_=>rfl
 | e::r,k=>by rw[List.length_cons,List.range'_succ,pU,uN,aEn r (k+1)];rfl
theorem aIs {b0:ABlk} {Ls:List El} {e:aG} (hL:Ls≠[]) (h7:e 7 = .pt 0 0) (h10:e 10 = .sl 1 0 1 Ls.length) :
 fzX [(7,true),(10,false)] e (vX b0 Ls)=(aNN Ls e,some (.blk true b0)::none::List.replicate Ls.length none):=by
 rw[hpS hL]
 have hf:decide (Ls=[])=false:=decide_eq_false hL
 have d1:∀ b,b∈List.range' 2 Ls.length→aAs (gJ (fH b0 [] Ls) 0) b (hat (fH b0 [] Ls) b)=[b]:=fun b hb=>by
  rw[List.mem_range'_1]at hb
  obtain⟨k,rfl⟩:∃ k,b=k+2:=⟨b-2,by omega⟩
  obtain⟨y,hy⟩:=bC (l:=Ls) (i:=k) (by omega)
  have:hat (fH b0 [] Ls) (k+2)=bk1 y:=tN (by
   show (some _::some _::(List.replicate 0 none++bk Ls))[k+2]?=_
   rw[List.getElem?_cons_succ,List.getElem?_cons_succ]
   simp[bk,hy])
  rw[this];rfl
 have hd:[(7,true),(10,false)].flatMap (aBe e (fH b0 [] Ls))=List.range' 2 Ls.length++[1]:=by
  show aBe e (fH b0 [] Ls) (7,true)++(aBe e (fH b0 [] Ls) (10,false)++[])=_
  unfold aBe
  simp only[h7,h10]
  show []++((zE (.sl 1 0 1 Ls.length)).flatMap (fun b=>aAs (gJ (fH b0 [] Ls) 1) b (hat (fH b0 [] Ls) b))++[])=_
  rw[List.nil_append,List.append_nil]
  show aAs (gJ (fH b0 [] Ls) 1) 1 (some (.blk (decide (Ls=[])) (.cells true ([]++pU Ls (List.range' (0+2) Ls.length)))))++[]=_
  rw[hf,List.append_nil]
  show gJ (fH b0 [] Ls) 1 (uN ([]++pU Ls (List.range' (0+2) Ls.length)))++[1]=_
  rw[List.nil_append,aEn]
  congr 1
  show (List.range' 2 Ls.length).flatMap (fun b=>aAs (gJ (fH b0 [] Ls) 0) b (hat (fH b0 [] Ls) b))=_
  generalize List.range' 2 Ls.length=l at d1 ⊢
  induction l with
  | nil=>rfl
  | cons a r ih =>
    rw[List.flatMap_cons,d1 a List.mem_cons_self,ih fun b hb=>d1 b (List.mem_cons_of_mem _ hb)]
    rfl
 have happ:∀ (a c:List Nat) (e:aG) (h:XH),lU (a++c) e h=lU c (lU a e h).1 (lU a e h).2:=fun a=>by
  induction a with
  | nil=>intro c e h;rfl
  | cons x r ih=>intro c e h;rw[List.cons_append,lU,ih];rfl
 unfold fzX
 show aIu _ _ (fH b0 [] Ls)=_
 unfold aIu
 rw[hd,happ]
 have ha:=aIt (b0:=b0) Ls [] e
 rw[show ([]:List El).length+2=2 from rfl]at ha
 rw[ha,List.nil_append]
 have h1:fz1 1 (fun j=>aCk Ls 2 (e j)) (fH b0 Ls [])=(fun j=>fzV Ls (e j),some (.blk true b0)::none::List.replicate Ls.length none):=by
  have hh:hat (fH b0 Ls []) 1=some (.blk true (.cells true (Ls.map tS))):=by
   show some (XB.blk (decide (([]:List El)=[])) (.cells true (Ls.map tS++[])))=_
   rw[List.append_nil];rfl
  unfold fz1
  rw[hh]
  show (_,_)=(_,_)
  congr 1
  unfold fH
  rw[List.map_cons,List.map_cons,List.map_append,map_none,aIb,List.set_cons_succ,List.set_cons_zero]
  refine congr (congrArg List.cons (by cases b0<;>rfl)) (congrArg (List.cons none) (by simp[bk]))
 show (xO [(7,true),(10,false)] (fz1 1 _ _).1,(fz1 1 _ _).2)=_
 rw[h1]
 rfl
theorem oY {Ls:List El} {e:aG} {j:Nat}:aNN Ls e j=if j=10 then nT (fzV Ls (e j)) else fzV Ls (e j):=rfl
theorem vZ {v:AV} (h:∀ b cs,pN b cs v=v):∀ (Ls:List El) (k:Nat),aCk Ls k v=v
 | [],_=>rfl
 | e::r,k=>by rw[aCk,h,vZ h r]
theorem oX {Ls:List El} {k:IntKind} {n:Int}:fzV Ls (.int k n) = .int k n:=by
 unfold fzV;rw[vZ (fun _ _=>rfl)];rfl
theorem lT {Ls:List El} {b:Bool}:fzV Ls (.bool b) = .bool b:=by
 unfold fzV;rw[vZ (fun _ _=>rfl)];rfl
theorem tP {Ls:List El} {b o:Nat}:fzV Ls (.pt b o) = .pt b o:=by
 unfold fzV;rw[vZ (fun _ _=>rfl)];rfl
theorem vB:∀ (Ls pre:List El),bZ ((pre++Ls).map tS) pre.length 1 Ls.length=Ls.map fun e=>[tS e]
 | [],pre=>rfl
 | a::r,pre=>by
   rw[List.length_cons,bZ]
   have ih:=vB r (pre++[a])
   rw[List.append_assoc,List.length_append,List.length_singleton]at ih
   rw[show (pre++a::r)=pre++([a]++r) from rfl,ih]
   simp
theorem aET {n:Nat}:∀ (Ls:List El) (k:Nat),2≤k→aCk Ls k (.sl 1 0 1 n) = .sl 1 0 1 n
 | [],_,_=>rfl
 | e::r,k,h=>by
   rw[aCk]
   have:pN k ((e.1++e.2).map I) (.sl 1 0 1 n) = .sl 1 0 1 n:=by
    unfold pN;rw[if_neg (by omega)]
   rw[this,aET r (k+1) (by omega)]
theorem aMr {Ls:List El}:fzV Ls (.sl 1 0 1 Ls.length)=wL (Ls.map (·.2)):=by
 unfold fzV
 rw[aET Ls 2 (Nat.le_refl _)]
 unfold pN
 rw[if_pos ⟨rfl,by simp⟩]
 have:=vB Ls []
 rw[List.nil_append]at this
 show AV.fs (bZ _ 0 1 _)=_
 rw[show (0:Nat)=([]:List El).length from rfl,this,wL,List.map_map]
 rfl
theorem aJi {x:Vn} {u C:Nat} {ks:List Nat} (h:yY x u ks):∀ (j k:Nat),ks[j]?=some k→(∀ (i m:Nat),i≤j→ks[i]?=some m→C.testBit m=false)→Rch (cE x) x.sick C k:=by
 have hld:=h.leads
 unfold gB at hld
 rw[Bool.and_eq_true,decide_eq_true_eq,Bool.and_eq_true]at hld
 intro j
 induction j with
 | zero =>
   intro k hk hC
   rw[aO hk]at hld
   exact .base hld.2.1 (hC 0 k (Nat.le_refl _) hk)
 | succ j ih =>
   intro k hk hC
   obtain⟨p,hp⟩:=bC (l:=ks) (i:=j) (by have:=dB hk;omega)
   have hr:=ih p hp fun i m hi hm=>hC i m (by omega) hm
   have h0:=eE hld.1 (j+1) (dB hk)
   unfold wkE at h0
   rw[aO hk,show j+1-1=j by omega,aO hp,decide_eq_true (show 0<j+1 by omega)]at h0
   refine .step hr ?_ (hC (j+1) k (Nat.le_refl _) hk)
   cases hs:(cE x p).testBit k
   ·rw[hs]at h0;simp at h0
   ·rfl
theorem aJj {x:Vn} {u C:Nat} {ks:List Nat} (h:yY x u ks) (hC:Cuts x 0 C):∃ f,f∈ks∧C.testBit f=true∧u.testBit f=false:=by
 have key:∃ f,f∈ks∧C.testBit f=true:=by
  apply Classical.byContradiction
  intro hn
  have hno:∀ f∈ks,C.testBit f=false:=fun f hf=>by
   cases hb:C.testBit f
   ·rfl
   ·exact absurd ⟨f,hf,hb⟩ hn
  have hpos:0<ks.length:=List.length_pos_iff.2 h.ne
  obtain⟨b,hb⟩:=bC (l:=ks) (i:=ks.length-1) (by omega)
  have hr:=aJi (C:=C|||0) h _ b hb fun i m _ hm=>by rw[Nat.or_zero];exact hno m (List.mem_of_getElem? hm)
  have h1:=hC.cut b hr
  have hld:=h.leads
  unfold gB at hld
  rw[Bool.and_eq_true,Bool.and_eq_true,aO hb,h1]at hld
  simp at hld
 obtain⟨f,hf,hb⟩:=key
 refine⟨f,hf,hb,?_⟩
 cases hu:u.testBit f
 ·rfl
 ·obtain⟨j,hj⟩:=List.getElem?_of_mem hf
  have:=h.free j f hj hu
  rw[hC.free f hb]at this;simp at this
theorem aJh {x:Vn} (ok:x.Ok) {ws:List (List Int)} (hv:rA x ws=0) {C:Nat} (hC:Cuts x 0 C):ws.length≤bK C:=by
 obtain⟨_,hF⟩:=wR ok.F16 hv
 have main:∀ i,i≤ws.length→i≤bK (uK ws i&&&C):=by
  intro i
  induction i with
  | zero=>intro _;exact Nat.zero_le _
  | succ i ih =>
    intro hi
    obtain⟨w,hw⟩:=bC (l:=ws) (i:=i) (by omega)
    obtain⟨ks,rfl,hk⟩:=hF i w hw
    obtain⟨f,h1,h2,h3⟩:=aJj hk hC
    have hu:uK ws (i+1)=uK ws i|||dP ks ks.length:=by rw[wS hw,uWi,eR,bO,aGw]
    have hlt:=aBk (a:=uK ws i&&&C) (b:=uK ws (i+1)&&&C) (i:=f) (fun j hj=>by
     rw[Nat.testBit_and,Bool.and_eq_true]at hj ⊢
     exact⟨by rw[hu,Nat.testBit_or,hj.1];rfl,hj.2⟩) (fU hC.lt h2) (by rw[Nat.testBit_and,h3];rfl) (by
     rw[Nat.testBit_and,hu,Nat.testBit_or,h2,(rC ks f).2 h1];simp)
    have:=ih (by omega)
    omega
 refine Nat.le_trans (main _ (Nat.le_refl _)) (pG fun j hj=>?_)
 rw[Nat.testBit_and,Bool.and_eq_true]at hj
 exact hj.2
theorem aFr {x:Vn} (ok:x.Ok) {s:Nat} (hs:s<65536):dH (cE x) x.sick x.nur (ownA x s)=dH (cE x) x.sick x.nur (eO s x.fix):=by
 have hp:=aU ok.F16
 have hd:eO s x.fix<65536:=Nat.lt_of_le_of_lt (fS _ _) hs
 have ho:=vS x s
 rw[Bool.eq_iff_iff,mC ok (by omega),mC ok hd]
 have agree:∀ i,i<x.F→(ownA x s).testBit i=(eO s x.fix).testBit i:=fun i hi=>by
  unfold ownA
  rw[Nat.testBit_mod_two_pow,decide_eq_true hi,Bool.true_and]
 have key:∀ C D f,(∀ i,i<x.F→C.testBit i=D.testBit i)→Rch (cE x) x.sick C f→Rch (cE x) x.sick D f:=by
  intro C D f h hr
  induction hr with
  | base h1 h2=>exact .base h1 (by rw[←h _ (eJ ok.s h1)];exact h2)
  | step _ h1 h2 ih=>exact .step ih h1 (by rw[←h _ (eJ (dR ok _ _) h1)];exact h2)
 constructor
 ·intro h f hf;exact h f (key _ _ f (fun i hi=>(agree i hi).symm) hf)
 ·intro h f hf;exact h f (key _ _ f agree hf)
theorem aMl (b0:ABlk) (x:El):vX b0 [x]=[some (.blk true b0),some (.blk false (.cells true [.sl 2 x.1.length 1 x.2.length])),bk1 x]:=rfl
theorem aFC {x:Vn} {SR:List (List AV)} {s i:Nat} {ws:List (List Int)} {w:List Int} (hw:ws[i]?=some w) (hl:ws.length≤16) (hwl:w.length≤16) :
 aS 0 [1,2,7,10,34,35,36] (execW aA 10 0 none (match wO with | .loop _ a=>a|c=>c) (aV [1,2,7,10,34,35,36] [.fs SR,B8 s,.pt 0 0,.nilsl,wL ws,I ws.length,I (i:Nat)]) (aDu x)) =
  some ([.fs SR,B8 s,.pt 0 0,.sl 1 0 1 1,wL ws,I ws.length,I (i+1:Nat)],vX (.cells true x.c) [([],w)]):=by
 have a1:=dC (dB hw)
 have a2:=dN (dB hw) (by omega)
 have q2:=aOa w
 have q3:=aLr w
 have q5:(w.length*8≤1099511627776)=True:=eq_true (by omega)
 have q6:(w.length≤1099511627776)=True:=eq_true (by omega)
 rw[show vX (.cells true x.c) [([],w)]=[some (.blk true (.cells true x.c)),some (.blk false (.cells true [.sl 2 0 1 w.length])),some (.blk true (.cells true (w.map I)))] from rfl]
 unfold wO
 dsimp only
 (sym=>(simp[aM,aN,bL,Za,Zb,Zd,Ze,Zf,Zh,Zl,Zm,Zo,Zv,Z1,Z3,ZA,ZH,ZT,Yi,Yj,Yl,Yu,Yy,Yz,YX,Xb,Xc,Xd,Xi,Xm,Xo,Xr,Xv,Xw,Xx,Wu,Wz,W0,W3,W4,W5,W6,W7,W8,WA,WB,WC,WF,WG,WI,WJ,WK,WM,WO,WP,WQ,WR,WW,WX,WY,Vd,Ve,VP,VQ,VR,VS,VT,VY,VZ,Ua,Ub,Uc,Ue,Uf,Ug,Uh,Ui,Uj,Ul,Un,Ut,Uw,Ux,Uz,U0,U1,U2,U3,U4,U5,U6,U7,UE,UF,UG,UH,UP,UQ,UR,US,UV,UW,UX,UY,UZ,Ta,Tb,Tf,Tg,Ti,Tl,Tm,Tn,Tp,Tq,Tr,Ts,Tt,Tv,Tx,Ty,T1,T5,T6,T7,TJ,TK,TR,a1,a2,hw,q2,q3,q5,q6];all_goals tactic=>exact rfl))
theorem aFB {x:Vn} (ok:x.Ok) {SS:List (Nat×Nat×Nat)} {s i:Nat} {o:Nat×Nat×Nat} (ho:SS[i]?=some o) (h8:o.1<256∧o.2.1<256∧o.2.2<256) (hi:i<4) :
 aS 0 [1,2,7,10,13] (execW aA 10 0 none (match uJ with | .loop _ a=>a|c=>c) (aV [1,2,7,10,13] [T3 SS,B8 s,.pt 0 0,.nilsl,I (i:Nat)]) (aDu x)) =
  some ([T3 SS,B8 s,.pt 0 0,.sl 1 0 1 1,I (i+1:Nat)],vX (.cells true x.c) [((yv x.F o).take (qv o),(yv x.F o).drop (qv o))]):=by
 have hF1:=ok.F1
 have hF16:=ok.F16
 have a1:=dC (dB ho)
 have a3:((i:Int)<4)=True:=eq_true (by omega)
 have a2:=dN hi (by omega)
 have v1:=wr8 h8.1
 have v2:=wr8 h8.2.1
 have v3:=wr8 h8.2.2
 have fz:((x.F:Int)=0)=False:=eq_false (by omega)
 have m1:=aY o.1 x.F
 have m2:=aY o.2.1 x.F
 have m3:=aY o.2.2 x.F
 have d1:lE (o.1:Int) 16=((o.1/16:Nat):Int):=cA o.1 16
 have wa1:IntKind.i64.wrap ((o.1/16:Nat):Int)=((o.1/16:Nat):Int):=aD (by omega) (by omega)
 have m4:jZ ((o.1/16:Nat):Int) 1=0:=by rw[show (1:Int)=((1:Nat):Int) from rfl,aY,Nat.mod_one];rfl
 have d2:lE (o.2.1:Int) 16=((o.2.1/16:Nat):Int):=cA o.2.1 16
 have wa3:IntKind.i64.wrap ((o.2.1/16:Nat):Int)=((o.2.1/16:Nat):Int):=aD (by omega) (by omega)
 have m6:jZ ((o.2.1/16:Nat):Int) 3=((qv o:Nat):Int):=aY _ 3
 have hq:qv o<3:=Nat.mod_lt _ (by omega)
 have c3:((0:Int)≤(qv o:Int))=True:=eq_true (by omega)
 have c4:((qv o:Int)≤3)=True:=eq_true (by omega)
 have c5:(qv o<3)=True:=eq_true hq
 have t5:((qv o:Nat):Int).toNat=qv o:=Int.toNat_natCast _
 have hyl:(yv x.F o).length=3:=rfl
 have hx1:((yv x.F o).take (qv o)).length=qv o:=by rw[List.length_take,hyl];omega
 have hx2:((yv x.F o).drop (qv o)).length=3-qv o:=by rw[List.length_drop,hyl]
 have hbk:bk1 ((yv x.F o).take (qv o),(yv x.F o).drop (qv o))=some (.blk true (.cells true [I (o.1%x.F:Nat),I (o.2.1%x.F:Nat),I (o.2.2%x.F:Nat)])):=by
  show some (XB.blk true (.cells true (((yv x.F o).take (qv o)++(yv x.F o).drop (qv o)).map I)))=_
  rw[List.take_append_drop];rfl
 rw[aMl,hx1,hx2,hbk]
 unfold uJ
 dsimp only
 (sym=>(simp[aM,aN,bL,Za,Zb,Zd,Ze,Zf,Zh,Zi,Zl,Zm,Zn,Zo,Zp,Zq,Zs,Zv,Zy,Z1,Z3,Z7,Z8,Z9,ZA,ZE,ZG,ZH,ZI,ZJ,ZK,ZT,ZW,ZX,Yb,Yc,Ye,Yg,Yi,Yj,Yl,Yu,Yy,Yz,Y1,YA,YC,YE,YH,YR,YX,Xb,Xc,Xd,Xi,Xm,Xo,Xr,Xv,Xw,Xx,Wq,Wu,Wz,W0,W3,W5,W6,W7,W8,WA,WB,WC,WF,WG,WI,WJ,WK,WM,WO,WP,WQ,WR,WW,WX,WY,Vd,Ve,VP,VQ,VR,VS,VT,VU,VY,VZ,Ua,Ub,Uc,Ue,Uf,Ug,Uh,Ui,Uj,Ul,Un,Ut,Uw,Ux,Uy,Uz,U0,U2,U3,U4,U5,U6,U7,UE,UF,UG,UH,UI,UJ,UK,UP,UQ,UR,US,UW,UX,UY,UZ,Td,Te,Tf,Tg,Ti,Tl,Tn,Tp,Tr,Ts,Tt,Tv,Tx,Ty,T1,T5,T6,T7,TC,TD,TE,TF,TI,TJ,TK,TR,TT,a1,a2,a3,ho,v1,v2,v3,fz,m1,m2,m3,d1,wa1,m4,d2,wa3,m6,c3,c4,c5,t5];all_goals tactic=>exact rfl))
end Go.Proofs.YtiabjdfdkiijmaaDoor
namespace Go.Proofs.YtiabjdfdkiijmaaDoor
open Go Go.DL
set_option maxRecDepth 100000
set_option maxHeartbeats 8000000
theorem cU {e:aG} {h:XH}:fzX [(7,true)] e h=fzY [(7,true)] e (kU [(7,true)] e h):=rfl
theorem aEQ {e:aG} {h:XH}:fzX [(7,true),(10,false)] e h=fzY [(7,true),(10,false)] e (kU [(7,true),(10,false)] e h):=rfl
theorem cV {e:aG} {h:XH}:fzX [(3,true)] e h=fzY [(3,true)] e (kU [(3,true)] e h):=rfl
theorem bJ {e:aG} {h:XH}:fzX [(7,true),(19,false)] e h=fzY [(7,true),(19,false)] e (kU [(7,true),(19,false)] e h):=rfl
theorem aKB {L:List Nat} {e:aG} {vals:List AV} {b0:ABlk} {Ls:List El} (hL:Ls≠[]) (hv:L.map e=vals) (hnm:kT vals=[0,1]) (hn:Ls.length≤90) :
 ∃ f:Nat→Option Nat,f 0=some 0∧f 1=some 1∧aS 0 L (some (.normal,e,vX b0 Ls))=some (jA f vals,vX b0 Ls):=by
 obtain⟨x,hx⟩:∃ x,Ls[0]?=some x:=bC (List.length_pos_iff.2 hL)
 obtain⟨f,f0,f1,h⟩:=aIa (L:=L) (e:=e) (R:=[]) (x:=x) (k:=0) (aDo b0 hL) (List.length_pos_iff.2 hL) (fun y hy=>by
  rw[hx]at hy
  obtain rfl:=Option.some.inj hy
  exact⟨rfl,rfl⟩) hv hnm hn
 have e1:Ls.set 0 x=Ls:=by
  cases Ls with
  | nil=>exact absurd rfl hL
  | cons a r=>simp at hx;subst hx;rfl
 have e2:(vX b0 Ls++[]).set (0+2) (bk1 x)=vX b0 Ls:=by
  rw[List.append_nil]
  cases Ls with
  | nil=>exact absurd rfl hL
  | cons a r=>simp at hx;subst hx;rfl
 rw[e1,e2]at h
 exact⟨f,f0,f1,h⟩
def zK (ws:List (List Int)) (i:Nat):List El:=(ws.take i).map fun w=>([],w)
theorem aMF {ws:List (List Int)} {i:Nat} {w:List Int} (h:ws[i]?=some w):zK ws (i+1)=zK ws i++[([],w)]:=by
 unfold zK;rw[List.take_add_one,h];simp
theorem aFa {ws:List (List Int)} {i:Nat} (h:i≤ws.length):(zK ws i).length=i:=by unfold zK;simp;omega
def lsq (F:Nat) (SS:List (Nat×Nat×Nat)) (L0:List El) (i:Nat):List El:=(SS.take i).foldl (nx F) L0
theorem aIc {F:Nat} {SS:List (Nat×Nat×Nat)} {L0:List El} {i:Nat} {o:Nat×Nat×Nat} (h:SS[i]?=some o):lsq F SS L0 (i+1)=nx F (lsq F SS L0 i) o:=iG h L0
theorem aAe {Ls:List El} (h:Ls≠[]):oL Ls = .sl 1 0 1 Ls.length:=by
 cases Ls with
 | nil=>exact absurd rfl h
 | cons e r=>rfl
structure aGi (n:Nat) (Ls:List El):Prop where
 len:Ls.length≤n
 el:∀ e∈Ls,e.2≠[]∧e.2.length≤16∧e.1.length≤16
theorem aEV {F n:Nat} {Ls:List El} (h:aGi n Ls) (o:Nat×Nat×Nat):aGi (n+1) (nx F Ls o)∧nx F Ls o≠[]:=by
 have hq:qv o<3:=Nat.mod_lt _ (by omega)
 have hyl:(yv F o).length=3:=rfl
 unfold nx
 cases hk:Ls[kv Ls.length o]? with
 | none =>
   refine⟨⟨by have:=h.len;simp;omega,fun e he=>?_⟩,by simp⟩
   rw[List.mem_append,List.mem_singleton]at he
   rcases he with he|rfl
   ·exact h.el e he
   ·refine⟨fun h0=>?_,?_,?_⟩
    ·have:=congrArg List.length h0
     rw[List.length_drop,hyl]at this
     simp at this;omega
    ·rw[List.length_drop,hyl];omega
    ·rw[List.length_take,hyl];omega
 | some e =>
   have he:=h.el e (List.mem_of_getElem? hk)
   refine⟨⟨by have:=h.len;simp;omega,fun y hy=>?_⟩,fun h0=>?_⟩
   ·rcases List.mem_or_eq_of_mem_set hy with hy|rfl
    ·exact h.el y hy
    ·refine⟨fun h0=>he.1 ?_,by simpa using he.2.1,he.2.2⟩
     have:=congrArg List.length h0
     simp at this
     exact this
   ·have h1:=congrArg List.length h0
    rw[List.length_set,List.length_nil]at h1
    have:=dB hk
    omega
theorem yD {F n:Nat} {L0:List El} (h:aGi n L0) (SS:List (Nat×Nat×Nat)):∀ i,aGi (n+i) (lsq F SS L0 i)
 | 0=>h
 | i+1=>by
   have ih:=yD h SS i (F:=F)
   cases ho:SS[i]? with
   | some o=>rw[aIc ho];exact(aEV ih o).1
   | none =>
     have:lsq F SS L0 (i+1)=lsq F SS L0 i:=by
      unfold lsq
      rw[List.getElem?_eq_none_iff]at ho
      rw[List.take_of_length_le ho,List.take_of_length_le (show SS.length≤i+1 by omega)]
     rw[this]
     exact⟨by have:=ih.len;omega,ih.el⟩
abbrev aFx (SS:List (Nat×Nat×Nat)) (s:Nat) (ws:List (List Int)) (i:Nat):List AV:=[T3 SS,B8 s,.pt 0 0,oL (zK ws i),wL ws,I ws.length,I (i:Nat)]
theorem aHA {x:Vn} {SS:List (Nat×Nat×Nat)} {s i:Nat} {ws:List (List Int)} (hl:ws.length≤16) (hw:∀ w∈ws,w.length≤16) (hi:i<ws.length) :
 aS 0 [1,2,7,10,34,35,36] (execW aA 10 0 none (match wO with | .loop _ a=>a|c=>c) (aV [1,2,7,10,34,35,36] (aFx SS s ws i)) (vX (.cells true x.c) (zK ws i)))=some (aFx SS s ws (i+1),vX (.cells true x.c) (zK ws (i+1))):=by
 obtain⟨w,hx⟩:=bC hi
 have h16:=hw w (List.mem_of_getElem? hx)
 have hlen:=aFa (ws:=ws) (i:=i) (by omega)
 unfold aFx
 rw[aMF hx,aAe (Ls:=zK ws i++[([],w)]) (by simp),List.length_append,List.length_singleton]
 cases hc:zK ws i with
 | nil=>exact aFC hx hl h16
 | cons e r =>
   rw[aAe (by simp)]
   exact aHy hx hl h16 (aDo _ (by simp)) (by rw[←hc];omega)
abbrev aCY (F:Nat) (SS:List (Nat×Nat×Nat)) (s:Nat) (L0:List El) (i:Nat):List AV:=[T3 SS,B8 s,.pt 0 0,oL (lsq F SS L0 i),I (i:Nat)]
theorem aHz {x:Vn} (ok:x.Ok) {SS:List (Nat×Nat×Nat)} {s i:Nat} {L0:List El} (hL:aGi 16 L0) (h8:∀ v∈SS,v.1<256∧v.2.1<256∧v.2.2<256) (hi:i<SS.length) (hi4:i<4) :
 aS 0 [1,2,7,10,13] (execW aA 10 0 none (match uJ with | .loop _ a=>a|c=>c) (aV [1,2,7,10,13] (aCY x.F SS s L0 i)) (vX (.cells true x.c) (lsq x.F SS L0 i)))=some (aCY x.F SS s L0 (i+1),vX (.cells true x.c) (lsq x.F SS L0 (i+1))):=by
 obtain⟨o,ho⟩:=bC hi
 have hf:=yD hL SS i (F:=x.F)
 have hnx:=(aEV hf o (F:=x.F)).2
 unfold aCY
 rw[aIc ho,aAe hnx]
 cases hc:lsq x.F SS L0 i with
 | nil=>exact aFB ok ho (h8 o (List.mem_of_getElem? ho)) hi4
 | cons e r =>
   rw[hc]at hf
   rw[aAe (by simp)]
   exact aHx ok ho (h8 o (List.mem_of_getElem? ho)) hi4 (aDo _ (by simp)) (by have:=hf.len;omega) hf.el
theorem aHw {x:Vn} (ok:x.Ok) (hF8:x.F≤8) {s:Nat} (hs:s<256) {f:Nat} (hf:f<x.F) :
 aS 0 [2,7,19,20] (execW aA 10 0 none (match pQ with | .loop _ a=>a|c=>c) (aV [2,7,19,20] [B8 s,.pt 0 0,oS 1 (cM (lY (ownA x s) f)),I (f:Nat)]) (gO x (cM (lY (ownA x s) f)))) =
  some ([B8 s,.pt 0 0,oS 1 (cM (lY (ownA x s) (f+1))),I (f+1:Nat)],gO x (cM (lY (ownA x s) (f+1)))):=by
 have hp:=aU ok.F16
 have hfx:=ok.f
 have a1:((f:Int)<(x.F:Int))=True:=eq_true (by omega)
 have a2:=dN hf (by omega)
 have n0:((f:Int)<0)=False:=eq_false (by omega)
 have e1:=aKY (a:=s) (i:=f) hs (by omega)
 have e2:=uC bY (a:=x.fix) (i:=f) (by omega) (by omega)
 have hb:=aBW ok (s:=s) hf
 have hl:=aEX (ownA x s) f
 have hl2:=bO (lY (ownA x s) f)
 rw[aDA]
 cases h1:s.testBit f
 ·rw[h1]at e1 hb
  simp only[Bool.false_eq_true,if_false,Bool.false_and]at e1 hb
  rw[hb,if_neg (by simp)]
  generalize cM (lY (ownA x s) f)=os at *
  unfold pQ
  dsimp only
  cases os with
  | nil=>(sym=>(simp[cU,cV,bJ,Za,Zb,Zf,Zh,Zl,Zm,Zp,Zs,Zv,Zy,Z3,Z8,ZH,ZX,Yc,Yl,Yo,Yr,Ys,Yu,Yz,YX,Xd,Xe,Xr,Xx,Xy,Wz,W0,W3,WA,WB,WF,WG,WI,WJ,WK,WM,WO,WP,WQ,WR,WW,WX,Vd,VP,VQ,VR,VS,VT,VU,VY,VZ,Ub,Uc,Ue,Uj,Uw,Ux,Uy,U2,U3,U4,U5,Td,Te,Ti,Ts,Tt,Tv,Tx,Ty,T1,T5,T6,T7,TK,TW,a1,a2,n0,e1];all_goals tactic=>exact rfl))
  | cons y r=>(sym=>(simp[cU,cV,bJ,Za,Zb,Zf,Zh,Zl,Zm,Zp,Zs,Zv,Zy,Z3,Z8,ZH,ZX,Yc,Yl,Yo,Yr,Ys,Yu,Yz,YX,Xc,Xd,Xr,Xw,Xx,Wz,W0,W3,WA,WB,WC,WF,WG,WI,WJ,WK,WM,WO,WP,WQ,WR,WW,WX,Vd,VP,VQ,VR,VS,VT,VU,VY,VZ,Ua,Ub,Uc,Ue,Uj,Uw,Ux,Uy,U2,U3,U4,U5,Td,Te,Ti,Ts,Tt,Tv,Tx,Ty,T1,T5,T6,T7,TK,TX,a1,a2,n0,e1];all_goals tactic=>exact rfl))
 ·rw[h1]at e1 hb
  simp only[if_true,Bool.true_and]at e1 hb
  cases h2:x.fix.testBit f
  ·rw[h2]at e2 hb
   simp only[Bool.false_eq_true,if_false,Bool.not_false]at e2 hb
   rw[hb,if_pos rfl]
   rw[show cM (lY (ownA x s) f++[f])=cM (lY (ownA x s) f)++[(f:Int)] by simp[cM]]
   generalize cM (lY (ownA x s) f)=os at *
   unfold pQ
   dsimp only
   cases os with
   | nil=>(sym=>(simp[cU,cV,bJ,Za,Zb,Zd,Ze,Zf,Zh,Zl,Zm,Zo,Zp,Zq,Zv,Zy,Z1,Z3,Z8,ZH,ZT,ZW,Yc,Yl,Yo,Yr,Ys,Yu,Yz,YX,Xc,Xd,Xi,Xr,Xw,Xx,Wq,Wz,W0,W3,W5,W6,W7,W8,WA,WB,WC,WF,WG,WI,WJ,WK,WM,WO,WP,WQ,WR,WW,WX,Vd,VP,VQ,VR,VS,VT,VY,VZ,Ua,Ub,Uc,Ue,Uf,Ug,Uj,Ul,Ut,Uw,Ux,Uz,U0,U2,U3,U4,U5,U6,U7,UE,UF,UG,UH,UP,UQ,UR,US,UW,UX,UY,UZ,Td,Te,Ti,Tl,Tn,Tp,Tr,Ts,Tt,Tv,Tx,Ty,T1,T5,T6,T7,TK,TR,TW,TX,a1,a2,n0,e1,e2];all_goals tactic=>exact rfl))
   | cons y r =>
     have b1:((r.length+1+1)*8≤1099511627776)=True:=eq_true (by simp at hl2;omega)
     have b2:(r.length+1+1≤1099511627776)=True:=eq_true (by simp at hl2;omega)
     (sym=>(simp[cU,cV,bJ,Za,Zb,Zd,Ze,Zf,Zh,Zl,Zm,Zo,Zp,Zq,Zv,Zy,Z1,Z3,Z8,ZH,ZT,ZW,Yc,Yl,Yo,Yr,Ys,Yu,Yz,YX,Xc,Xd,Xi,Xr,Xw,Xx,Wq,Wz,W0,W3,W4,W5,W6,W7,W8,WA,WB,WC,WF,WG,WI,WJ,WK,WM,WO,WP,WQ,WR,WW,WX,Vd,VP,VQ,VR,VS,VT,VY,VZ,Ua,Ub,Uc,Ue,Uf,Ug,Uh,Uj,Ul,Ut,Uw,Ux,Uz,U0,U2,U3,U4,U5,U6,U7,UE,UF,UG,UH,UP,UQ,UR,US,UW,UX,UY,Ta,Tb,Td,Te,Ti,Tl,Tm,Tn,Tp,Ts,Tt,Tv,Tx,Ty,T1,T5,T6,T7,TG,TH,TI,TK,TR,TX,a1,a2,n0,e1,e2,b1,b2];all_goals tactic=>exact rfl))
  ·rw[h2]at e2 hb
   simp only[if_true,Bool.not_true]at e2 hb
   rw[hb,if_neg (by simp)]
   generalize cM (lY (ownA x s) f)=os at *
   unfold pQ
   dsimp only
   cases os with
   | nil=>(sym=>(simp[cU,cV,bJ,Za,Zb,Zf,Zh,Zl,Zm,Zp,Zq,Zv,Zy,Z3,Z8,ZH,ZW,Yc,Yl,Yo,Yr,Ys,Yu,Yz,YX,Xd,Xe,Xr,Xx,Xy,Wz,W0,W3,WA,WB,WF,WG,WI,WJ,WK,WM,WO,WP,WQ,WR,WW,WX,Vd,VP,VQ,VR,VS,VT,VU,VY,VZ,Ub,Uc,Ue,Uj,Uw,Ux,Uy,U2,U3,U4,U5,Td,Te,Ti,Ts,Tt,Tv,Tx,Ty,T1,T5,T6,T7,TK,TW,a1,a2,n0,e1,e2];all_goals tactic=>exact rfl))
   | cons y r=>(sym=>(simp[cU,cV,bJ,Za,Zb,Zf,Zh,Zl,Zm,Zp,Zq,Zv,Zy,Z3,Z8,ZH,ZW,Yc,Yl,Yo,Yr,Ys,Yu,Yz,YX,Xc,Xd,Xr,Xw,Xx,Wz,W0,W3,WA,WB,WC,WF,WG,WI,WJ,WK,WM,WO,WP,WQ,WR,WW,WX,Vd,VP,VQ,VR,VS,VT,VU,VY,VZ,Ua,Ub,Uc,Ue,Uj,Uw,Ux,Uy,U2,U3,U4,U5,Td,Te,Ti,Ts,Tt,Tv,Tx,Ty,T1,T5,T6,T7,TK,TX,a1,a2,n0,e1,e2];all_goals tactic=>exact rfl))
theorem w10 {l:La} (hl:l.Ok) {SS:List (Nat×Nat×Nat)} (h8:∀ v∈SS,v.1<256∧v.2.1<256∧v.2.2<256) (hSS:SS.length≤maxLen) {s:Nat} (hs:s<256):runW aA 10 [.agg l.c,T3 SS,B8 s] []=some (.bool true,[]):=by
 have e36:=w36 hl
 have ok:=l.md_ok
 have hF8:l.md.F≤8:=l.k_lt.2
 generalize l.md=x at *
 have hF:=ok.F16
 have hp:=aU hF
 have hfx:=ok.f
 obtain⟨ws,e,g33,he,hws,hwl⟩:∃ (ws:List (List Int)) (e:Int),runW aA 33 [.agg x.c] []=some (.tup [wL ws,I e],[])∧(e=0∨e=16)∧ws.length≤16∧∀ w∈ws,w≠[]∧w.length≤16:=by
  cases hh:kP x
  ·exact⟨[],16,aOy ok hh,.inr rfl,by simp,by simp⟩
  ·obtain⟨n,ws,_,_,hv,g⟩:=w33 ok hh
   have h1:=aAD hF hv
   obtain⟨_,h2⟩:=wR hF hv
   refine⟨ws,0,g,.inl rfl,h1.1,fun w hw=>⟨fun h0=>?_,h1.2 w hw⟩⟩
   obtain⟨j,hj⟩:=List.getElem?_of_mem hw
   obtain⟨ks,rfl,hk⟩:=h2 j w hj
   apply hk.ne
   have:=congrArg List.length h0
   rw[bO]at this
   exact List.length_eq_zero_iff.1 this
 obtain⟨ls,cn,l3,g39,hls⟩:∃ (ls cn:Int) (l3:List Int),runW aA 39 [.agg x.c] []=some (.tup [I ls,I cn,nL l3],[])∧∀ W,rA x W=0→0≤ls→(W.length:Int)≤ls:=by
  cases hh:kP x
  ·exact⟨-1,0,[],aOx ok hh,fun W _ h=>by omega⟩
  ·obtain⟨n,hn,_,g⟩:=w39 ok hh
   refine⟨n,_,_,g,fun W hW _=>?_⟩
   obtain⟨C,_,c2,c3⟩:=hn.1
   have:=aJh ok hW c2
   omega
 have zw:=Tc (n:=(ws.length:Int))
 have zF:=Tc (n:=(x.F:Int))
 have fine0:aGi 16 (zK ws ws.length):=⟨by rw[aFa (Nat.le_refl _)];exact hws,fun y hy=>by
  unfold zK at hy
  rw[List.take_length,List.mem_map]at hy
  obtain⟨w,hw,rfl⟩:=hy
  exact⟨(hwl w hw).1,(hwl w hw).2,by simp⟩⟩
 have rdA:=fun i (hi:i<ws.length)=>aHA (x:=x) (SS:=SS) (s:=s) hws (fun w hw=>(hwl w hw).2) hi
 obtain⟨mS,hmS⟩:∃ m,m=min 4 SS.length:=⟨_,rfl⟩
 have rdB:=fun i (hi:i<mS)=>aHz ok (SS:=SS) (s:=s) fine0 h8 (i:=i) (by omega) (by omega)
 have rdC:=fun f (hf:f<x.F)=>aHw ok hF8 hs hf
 have c0:zK ws 0=[]:=rfl
 have l0:lsq x.F SS (zK ws ws.length) 0=zK ws ws.length:=rfl
 have hfin:=yD fine0 SS mS (F:=x.F)
 have hst:((mS:Int)<(SS.length:Int))=False∨((mS:Int)<(SS.length:Int))=True∧((mS:Int)<4)=False:=by
  by_cases h:mS<SS.length
  ·exact .inr ⟨eq_true (by omega),eq_false (by omega)⟩
  ·exact .inl (eq_false (by omega))
 have kF:=aIG (vS x s) hF
 have k0:cM (lY (ownA x s) 0)=[]:=rfl
 have g27:=aGC ok (vS x s) (fun i h=>aFJ ok h)
 rw[aFr ok (by omega)]at g27
 have hd:eO s x.fix<65536:=Nat.lt_of_le_of_lt (fS _ _) (by omega)
 have g40:=w40 ok (s:=eO s x.fix) hd
 have o1:=iI bY (a:=s) (b:=x.fix) (by omega) (by omega)
 have v1:=wr8 hs
 have hb0:vX (.cells true x.c) []=aDu x:=rfl
 generalize hLF:lsq x.F SS (zK ws ws.length) mS=LF at *
 have h0:hat (vX (.cells true x.c) LF) 0=some (.blk true (.cells true x.c)):=by cases LF<;>rfl
 obtain⟨W,hW⟩:∃ W,W=LF.map (·.2):=⟨_,rfl⟩
 have hWl:W.length≤24:=by rw[hW,List.length_map];have:=hfin.len;omega
 have hWe:∀ w∈W,w.length<1000000:=fun w hw=>by
  rw[hW,List.mem_map]at hw
  obtain⟨y,hy,rfl⟩:=hw
  have:=(hfin.el y hy).2.1
  omega
 have g35:=w35 ok (ws:=W) (by omega) hWe
 have fw:fzV LF (.sl 1 0 1 LF.length)=wL W:=by rw[aMr,hW]
 have oL0:oL [] = .nilsl:=rfl
 have hst:=hst.imp (fun h=>And.intro h h) id
 rw[r10 (by simp)];unfold x10;dsimp only
 sym =>
  simp[cU,cV,bJ,Za,Zb,Zc,Zf,Zg,Zh,Zj,Zl,Zm,Zo,Zp,Zv,Zw,Zz,Z3,ZF,ZH,ZL,ZM,ZP,ZQ,ZU,ZV,Yk,Yt,YX,YZ,Xb,Xi,Xk,Xl,Xo,Xr,Xt,Xu,Xv,We,Wg,Wi,Ws,Wz,W0,W3,W4,W5,W6,W7,W8,W9,WA,WI,WL,WN,WS,WT,Vg,Vh,Vi,Vu,Vx,Vz,V0,V2,VN,VX,VY,VZ,Ua,Ub,Uc,Uf,Ug,Ul,Ut,U1,U2,U3,U4,U5,U6,U7,UC,UD,UE,UN,UO,Td,Te,Th,Tj,Tk,Tl,Ts,Tt,Ty,T6,T7,SB,SC,SD,SF,SG,SI,e36,g33]
  tactic =>
   rcases he with rfl|rfl
   all_goals
    sym =>
     simp[cU,cV,bJ,Za,Zb,Zf,Zh,Zl,Zm,Zp,Zq,Zs,Zv,Zy,Z3,ZG,ZW,ZX,Ye,Yt,VS,VU,Uh,Uo,Uq,Ux,Uy,Ts,Tt,Tv,Tx,Ty,T6,T7]
     tactic =>
      unfold wO
      rw[aE ws.length (fun i=>aFx SS s ws i) (fun i=>vX (.cells true x.c) (zK ws i))]
      ·unfold aFx
       sym =>
        simp[cU,cV,bJ,Za,Zb,Zf,Zh,Zl,Zm,Zv,Z3,Yu,VP,VS,VU,Uy,Tc,Ts,Tt,Tw,Tx,Ty,Tz,T4,T6,T7,zw]
        tactic =>
         unfold uJ
         rw[aE mS (fun i=>aCY x.F SS s (zK ws ws.length) i) (fun i=>vX (.cells true x.c) (lsq x.F SS (zK ws ws.length) i))]
         ·unfold aCY
          rw[hLF]
          rcases hst with ⟨zSt,zSt2⟩|⟨zSt,zSt2⟩
          all_goals
           by_cases hne:LF=[]
           ·have hWn:W=[]:=by rw[hW,hne];rfl
            rw[hWn]at g35
            have hv0:rA x []=0:=rfl
            have g41:runW aA 41 [.agg x.c,.fs []] []=some (.bool true,[]):=w41 ok hv0
            rw[hv0]at g35
            have g35:runW aA 35 [.agg x.c,.fs []] []=some (I 0,[]):=g35
            rw[hne,hb0,oL0]
            by_cases hl0:0≤ls
            ·have y1:(0≤ls)=True:=eq_true hl0
             have y2:(ls<0)=False:=eq_false (by omega)
             sym =>
              simp[cU,cV,bJ,Za,Zb,Zf,Zg,Zh,Zj,Zl,Zm,Zp,Zq,Zr,Zs,Zv,Zy,Z3,Z5,ZF,ZG,ZH,ZP,ZQ,ZU,ZV,ZW,ZX,ZZ,Ye,Yk,Ys,Yu,Yw,Yx,YB,YX,YZ,Xb,Xr,Xs,Xt,Xu,Xv,XQ,Wm,Wz,W0,W3,W5,W6,W7,W8,WA,WI,WL,WN,WS,WT,Vg,Vh,Vi,Vu,Vx,Vy,Vz,V0,V2,VP,VS,VU,VY,VZ,Ub,Uc,Uf,Ug,Uh,Uo,Ux,Uy,U1,U2,U3,U4,U5,Td,Te,Th,Ts,Tt,Tv,Tw,Tx,Ty,Tz,T4,T6,T7,Su,SB,SC,SD,SE,SF,SG,SI,zSt,zSt2,g39,aEQ,g35,g41,y1,y2]
              tactic =>
               unfold pQ
               rw[aE x.F (fun f=>[B8 s,.pt 0 0,oS 1 (cM (lY (ownA x s) f)),I (f:Nat)]) (fun f=>gO x (cM (lY (ownA x s) f)))]
               ·rw[kF]
                rcases hos:cM (el (ownA x s))with _|⟨y,r⟩
                ·rw[hos]at g27
                 have g27:runW aA 27 [.agg x.c,.fs []] []=_:=g27
                 cases hsp:dH (cE x) x.sick x.nur (eO s x.fix)<;>rw[hsp]at g27 g40<;>simp only[Bool.false_eq_true,if_false,if_true,Bool.not_true,Bool.not_false]at g27 g40<;>(sym=>(simp[cU,cV,bJ,Za,Zb,Ze,Zf,Zg,Zh,Zk,Zl,Zm,Zp,Zq,Zv,Zy,Z3,Z4,Z5,Z7,Z8,ZH,ZI,ZK,ZN,ZR,ZS,ZU,ZV,ZW,ZY,ZZ,Yb,Yc,Ys,Yu,YX,YY,YZ,Xb,Xr,Xs,Xt,Xv,XK,XQ,Wf,Wm,Wz,W0,W3,W5,W6,W7,W8,WA,WI,WL,WM,WN,WO,WP,WQ,WS,WT,Vg,Vh,Vi,Vk,Vl,Vm,Vo,Vp,Vq,Vu,Vx,Vy,Vz,V0,V2,V8,V9,VB,VC,VD,VE,VF,VI,VJ,VK,VL,VP,VS,VU,VY,VZ,Ub,Uc,Ue,Uf,Ug,Ul,Uo,Uq,Ur,Us,Ux,Uy,Uz,U0,U1,U2,U3,U4,U5,Tc,Td,Te,Th,Ti,Ts,Tt,Tu,Tw,Ty,Tz,T4,T6,T7,TW,Su,SA,SB,SC,SD,SE,SF,SG,SI,zF,g27,g40,o1,v1,iY];all_goals tactic=>exact rfl))
                ·rw[hos]at g27
                 have g27:runW aA 27 [.agg x.c,.fs ([I y]::r.map fun n=>[I n])] []=_:=g27
                 cases hsp:dH (cE x) x.sick x.nur (eO s x.fix)<;>rw[hsp]at g27 g40<;>simp only[Bool.false_eq_true,if_false,if_true,Bool.not_true,Bool.not_false]at g27 g40<;>(sym=>(simp[cU,cV,bJ,Za,Zb,Ze,Zf,Zg,Zh,Zk,Zl,Zm,Zp,Zq,Zv,Zy,Z3,Z4,Z5,Z7,Z8,ZH,ZI,ZK,ZN,ZR,ZS,ZU,ZV,ZW,ZY,ZZ,Yb,Yc,Ys,Yu,YX,YY,YZ,Xb,Xr,Xs,Xt,Xv,XK,XO,XX,Wb,Wc,Wf,Wi,Wz,W0,W3,W4,W5,W6,W7,W8,WA,WI,WL,WM,WN,WO,WP,WQ,WS,WT,Vg,Vh,Vi,Vk,Vl,Vm,Vo,Vp,Vq,Vr,Vs,Vt,Vu,Vv,Vx,Vy,Vz,V0,V2,V4,V6,V8,V9,VB,VC,VD,VE,VF,VI,VJ,VK,VL,VP,VS,VU,VY,VZ,Ub,Uc,Ue,Uf,Ug,Uh,Ul,Uo,Uq,Ur,Us,Ut,Ux,Uy,Uz,U0,U1,U2,U3,U4,U5,Tc,Td,Te,Th,Ti,Ts,Tt,Tu,Tw,Ty,Tz,T4,T6,T7,TI,TJ,TL,TX,TY,Su,Sv,Sw,SA,SB,SC,SD,SE,SF,SG,SI,zF,g27,g40,o1,v1,iY];all_goals tactic=>exact rfl))
               ·rw[k0]; (sym=>(simp[cU,cV,bJ,Za,YB,YX,Xd,Xe,Xr,Xx,Xy,Wz,WB,WF,WG,WI,WJ,WK,WM,WO,WP,WQ,WR,WW,WX,Vd,VP,VQ,VR,VY,VZ,Ub,Uc,Ue,Uj,Uw,U2,U3,U4,U5,T5,TK,TW,SC,SE];all_goals tactic=>exact rfl))
               ·exact rdC
               ·rw[kF]
                rcases hos:cM (el (ownA x s))with _|⟨y,r⟩<;>(sym=>(simp[cU,cV,bJ,Za,Zb,Zf,Zh,Zl,Zm,Zv,Z3,Z8,ZH,Yc,Yu,Wz,W0,W3,WA,VP,VS,VU,VV,Uy,Tc,Td,Te,Ti,Ts,Tt,Tw,Ty,Tz,T6,TW,TX,zF];all_goals tactic=>exact rfl))
            ·have y1:(0≤ls)=False:=eq_false hl0
             sym =>
              simp[cU,cV,bJ,Za,Zb,Zf,Zg,Zh,Zj,Zl,Zm,Zp,Zq,Zr,Zs,Zv,Zy,Z3,Z5,ZF,ZG,ZH,ZP,ZQ,ZU,ZV,ZW,ZX,ZZ,Ye,Yk,Ys,Yu,Yx,YX,YZ,Xb,Xr,Xs,Xt,Xu,Xv,XQ,Wm,Wz,W0,W3,W5,W6,W7,W8,WA,WI,WL,WN,WS,WT,Vg,Vh,Vi,Vu,Vx,Vy,Vz,V0,V2,VP,VS,VU,VY,VZ,Ub,Uc,Uf,Ug,Uh,Uo,Ux,Uy,U1,U2,U3,U4,U5,Td,Te,Th,Ts,Tt,Tv,Tw,Tx,Ty,Tz,T4,T6,T7,Su,SB,SC,SD,SE,SF,SG,SI,zSt,zSt2,g39,aEQ,g35,g41,y1]
              tactic =>
               unfold pQ
               rw[aE x.F (fun f=>[B8 s,.pt 0 0,oS 1 (cM (lY (ownA x s) f)),I (f:Nat)]) (fun f=>gO x (cM (lY (ownA x s) f)))]
               ·rw[kF]
                rcases hos:cM (el (ownA x s))with _|⟨y,r⟩
                ·rw[hos]at g27
                 have g27:runW aA 27 [.agg x.c,.fs []] []=_:=g27
                 cases hsp:dH (cE x) x.sick x.nur (eO s x.fix)<;>rw[hsp]at g27 g40<;>simp only[Bool.false_eq_true,if_false,if_true,Bool.not_true,Bool.not_false]at g27 g40<;>(sym=>(simp[cU,cV,bJ,Za,Zb,Ze,Zf,Zg,Zh,Zk,Zl,Zm,Zp,Zq,Zv,Zy,Z3,Z4,Z5,Z7,Z8,ZH,ZI,ZK,ZN,ZR,ZS,ZU,ZV,ZW,ZY,ZZ,Yb,Yc,Ys,Yu,YX,YY,YZ,Xb,Xr,Xs,Xt,Xv,XK,XQ,Wf,Wm,Wz,W0,W3,W5,W6,W7,W8,WA,WI,WL,WM,WN,WO,WP,WQ,WS,WT,Vg,Vh,Vi,Vk,Vl,Vm,Vo,Vp,Vq,Vu,Vx,Vy,Vz,V0,V2,V8,V9,VB,VC,VD,VE,VF,VI,VJ,VK,VL,VP,VS,VU,VY,VZ,Ub,Uc,Ue,Uf,Ug,Ul,Uo,Uq,Ur,Us,Ux,Uy,Uz,U0,U1,U2,U3,U4,U5,Tc,Td,Te,Th,Ti,Ts,Tt,Tu,Tw,Ty,Tz,T4,T6,T7,TW,Su,SA,SB,SC,SD,SE,SF,SG,SI,zF,g27,g40,o1,v1,iY];all_goals tactic=>exact rfl))
                ·rw[hos]at g27
                 have g27:runW aA 27 [.agg x.c,.fs ([I y]::r.map fun n=>[I n])] []=_:=g27
                 cases hsp:dH (cE x) x.sick x.nur (eO s x.fix)<;>rw[hsp]at g27 g40<;>simp only[Bool.false_eq_true,if_false,if_true,Bool.not_true,Bool.not_false]at g27 g40<;>(sym=>(simp[cU,cV,bJ,Za,Zb,Ze,Zf,Zg,Zh,Zk,Zl,Zm,Zp,Zq,Zv,Zy,Z3,Z4,Z5,Z7,Z8,ZH,ZI,ZK,ZN,ZR,ZS,ZU,ZV,ZW,ZY,ZZ,Yb,Yc,Ys,Yu,YX,YY,YZ,Xb,Xr,Xs,Xt,Xv,XK,XO,XX,Wb,Wc,Wf,Wi,Wz,W0,W3,W4,W5,W6,W7,W8,WA,WI,WL,WM,WN,WO,WP,WQ,WS,WT,Vg,Vh,Vi,Vk,Vl,Vm,Vo,Vp,Vq,Vr,Vs,Vt,Vu,Vv,Vx,Vy,Vz,V0,V2,V4,V6,V8,V9,VB,VC,VD,VE,VF,VI,VJ,VK,VL,VP,VS,VU,VY,VZ,Ub,Uc,Ue,Uf,Ug,Uh,Ul,Uo,Uq,Ur,Us,Ut,Ux,Uy,Uz,U0,U1,U2,U3,U4,U5,Tc,Td,Te,Th,Ti,Ts,Tt,Tu,Tw,Ty,Tz,T4,T6,T7,TI,TJ,TL,TX,TY,Su,Sv,Sw,SA,SB,SC,SD,SE,SF,SG,SI,zF,g27,g40,o1,v1,iY];all_goals tactic=>exact rfl))
               ·rw[k0]; (sym=>(simp[cU,cV,bJ,Za,YB,YX,Xd,Xe,Xr,Xx,Xy,Wz,WB,WF,WG,WI,WJ,WK,WM,WO,WP,WQ,WR,WW,WX,Vd,VP,VQ,VR,VY,VZ,Ub,Uc,Ue,Uj,Uw,U2,U3,U4,U5,T5,TK,TW,SC,SE];all_goals tactic=>exact rfl))
               ·exact rdC
               ·rw[kF]
                rcases hos:cM (el (ownA x s))with _|⟨y,r⟩<;>(sym=>(simp[cU,cV,bJ,Za,Zb,Zf,Zh,Zl,Zm,Zv,Z3,Z8,ZH,Yc,Yu,Wz,W0,W3,WA,VP,VS,VU,VV,Uy,Tc,Td,Te,Ti,Ts,Tt,Tw,Ty,Tz,T6,TW,TX,zF];all_goals tactic=>exact rfl))
           ·rw[aAe hne]
            sym =>
             simp[cU,cV,bJ,Za,Zb,Zf,Zg,Zh,Zj,Zl,Zm,Zp,Zq,Zs,Zv,Zy,Z3,ZF,ZG,ZH,ZP,ZQ,ZU,ZV,ZW,ZX,Ye,Yk,Yu,YX,YZ,Xb,Xr,Xt,Xu,Xv,W0,W3,W5,W6,W7,W8,WA,WI,WL,WN,WS,WT,Vg,Vh,Vi,Vu,Vx,Vz,V0,V2,VP,VS,VU,VY,VZ,Ub,Uc,Uf,Ug,Uh,Ux,Uy,U1,U2,U3,U4,U5,Td,Te,Th,Ts,Tt,Tw,Ty,Tz,T4,T6,T7,SB,SC,SD,SF,SG,SI,zSt,zSt2,g39,h0]
             tactic =>
              rw[aIs hne (by rfl) (by rfl)]
              by_cases hv:rA x W=0
              ·rw[hv]at g35
               have g41:=w41 ok hv
               by_cases hl0:0≤ls
               ·have y1:(0≤ls)=True:=eq_true hl0
                have y2:(ls<(W.length:Int))=False:=eq_false (Int.not_lt.2 (hls W hv hl0))
                sym =>
                 simp[cU,cV,bJ,Za,Zb,Zf,Zg,Zh,Zl,Zm,Zp,Zq,Zr,Zv,Zy,Z3,Z5,ZG,ZH,ZP,ZQ,ZU,ZV,ZW,ZX,ZZ,Ye,Ys,Yw,Yx,YX,YZ,Xb,Xr,Xs,Xt,Xv,Wi,Wz,W0,W3,W5,W6,W7,W8,WI,WL,WN,WS,WT,Vg,Vh,Vi,VP,VS,VU,VY,VZ,Ub,Uc,Uf,Ug,Uh,Uo,Ux,Uy,U1,U2,U3,U4,U5,Td,Te,Th,Ts,Tt,Tv,Tx,Ty,T6,T7,TQ,oY,oX,lT,tP,fw,g35,g41,y1,y2]
                 tactic =>
                  unfold pQ
                  rw[aE x.F (fun f=>[B8 s,.pt 0 0,oS 1 (cM (lY (ownA x s) f)),I (f:Nat)]) (fun f=>gO x (cM (lY (ownA x s) f)))]
                  ·rw[kF]
                   rcases hos:cM (el (ownA x s))with _|⟨y,r⟩
                   ·rw[hos]at g27
                    have g27:runW aA 27 [.agg x.c,.fs []] []=_:=g27
                    cases hsp:dH (cE x) x.sick x.nur (eO s x.fix)<;>rw[hsp]at g27 g40<;>simp only[Bool.false_eq_true,if_false,if_true,Bool.not_true,Bool.not_false]at g27 g40<;>(sym=>(simp[cU,cV,bJ,Za,Zb,Ze,Zf,Zg,Zh,Zk,Zl,Zm,Zp,Zq,Zv,Zy,Z3,Z4,Z5,Z7,Z8,ZH,ZI,ZK,ZN,ZR,ZS,ZU,ZV,ZW,ZY,ZZ,Yb,Yc,Ys,Yu,YX,YY,YZ,Xb,Xr,Xs,Xt,Xv,XK,XQ,Wf,Wm,Wz,W0,W3,W5,W6,W7,W8,WA,WI,WL,WM,WN,WO,WP,WQ,WS,WT,Vg,Vh,Vi,Vk,Vl,Vm,Vo,Vp,Vq,Vu,Vx,Vy,Vz,V0,V2,V8,V9,VB,VC,VD,VE,VF,VI,VJ,VK,VL,VP,VS,VU,VY,VZ,Ub,Uc,Ue,Uf,Ug,Ul,Uo,Uq,Ur,Us,Ux,Uy,Uz,U0,U1,U2,U3,U4,U5,Tc,Td,Te,Th,Ti,Ts,Tt,Tu,Tw,Ty,Tz,T4,T6,T7,TW,Su,SA,SB,SC,SD,SE,SF,SG,SI,zF,g27,g40,o1,v1,iY];all_goals tactic=>exact rfl))
                   ·rw[hos]at g27
                    have g27:runW aA 27 [.agg x.c,.fs ([I y]::r.map fun n=>[I n])] []=_:=g27
                    cases hsp:dH (cE x) x.sick x.nur (eO s x.fix)<;>rw[hsp]at g27 g40<;>simp only[Bool.false_eq_true,if_false,if_true,Bool.not_true,Bool.not_false]at g27 g40<;>(sym=>(simp[cU,cV,bJ,Za,Zb,Ze,Zf,Zg,Zh,Zk,Zl,Zm,Zp,Zq,Zv,Zy,Z3,Z4,Z5,Z7,Z8,ZH,ZI,ZK,ZN,ZR,ZS,ZU,ZV,ZW,ZY,ZZ,Yb,Yc,Ys,Yu,YX,YY,YZ,Xb,Xr,Xs,Xt,Xv,XK,XO,XX,Wb,Wc,Wf,Wi,Wz,W0,W3,W4,W5,W6,W7,W8,WA,WI,WL,WM,WN,WO,WP,WQ,WS,WT,Vg,Vh,Vi,Vk,Vl,Vm,Vo,Vp,Vq,Vr,Vs,Vt,Vu,Vv,Vx,Vy,Vz,V0,V2,V4,V6,V8,V9,VB,VC,VD,VE,VF,VI,VJ,VK,VL,VP,VS,VU,VY,VZ,Ub,Uc,Ue,Uf,Ug,Uh,Ul,Uo,Uq,Ur,Us,Ut,Ux,Uy,Uz,U0,U1,U2,U3,U4,U5,Tc,Td,Te,Th,Ti,Ts,Tt,Tu,Tw,Ty,Tz,T4,T6,T7,TI,TJ,TL,TX,TY,Su,Sv,Sw,SA,SB,SC,SD,SE,SF,SG,SI,zF,g27,g40,o1,v1,iY];all_goals tactic=>exact rfl))
                  ·rw[k0]; (sym=>(simp[cU,cV,bJ,Za,YB,YX,Xd,Xe,Xr,Xx,Xy,Wz,WB,WF,WG,WI,WJ,WK,WM,WO,WP,WQ,WR,WW,WX,Vd,VP,VQ,VR,VY,VZ,Ub,Uc,Ue,Uj,Uw,U2,U3,U4,U5,T5,TK,TW,oY,oX,lT,tP,fw];all_goals tactic=>exact rfl))
                  ·exact rdC
                  ·rw[kF]
                   rcases hos:cM (el (ownA x s))with _|⟨y,r⟩<;>(sym=>(simp[cU,cV,bJ,Za,Zb,Zf,Zh,Zl,Zm,Zv,Z3,Z8,ZH,Yc,Yu,Wz,W0,W3,WA,VP,VS,VU,VV,Uy,Tc,Td,Te,Ti,Ts,Tt,Tw,Ty,Tz,T6,TW,TX,zF];all_goals tactic=>exact rfl))
               ·have y1:(0≤ls)=False:=eq_false hl0
                sym =>
                 simp[cU,cV,bJ,Za,Zb,Zf,Zg,Zh,Zl,Zm,Zp,Zq,Zr,Zs,Zv,Zy,Z3,Z5,ZH,ZP,ZQ,ZU,ZV,ZW,ZX,ZZ,Ys,Yx,YX,YZ,Xb,Xr,Xs,Xt,Xv,Wi,Wz,W0,W3,W5,W6,W7,W8,WI,WL,WN,WS,WT,Vg,Vh,Vi,VP,VS,VU,VY,VZ,Ub,Uc,Uf,Ug,Uo,Ux,Uy,U1,U2,U3,U4,U5,Td,Te,Th,Ts,Tt,Tv,Tx,Ty,T6,T7,TQ,oY,oX,lT,tP,fw,g35,g41,y1]
                 tactic =>
                  unfold pQ
                  rw[aE x.F (fun f=>[B8 s,.pt 0 0,oS 1 (cM (lY (ownA x s) f)),I (f:Nat)]) (fun f=>gO x (cM (lY (ownA x s) f)))]
                  ·rw[kF]
                   rcases hos:cM (el (ownA x s))with _|⟨y,r⟩
                   ·rw[hos]at g27
                    have g27:runW aA 27 [.agg x.c,.fs []] []=_:=g27
                    cases hsp:dH (cE x) x.sick x.nur (eO s x.fix)<;>rw[hsp]at g27 g40<;>simp only[Bool.false_eq_true,if_false,if_true,Bool.not_true,Bool.not_false]at g27 g40<;>(sym=>(simp[cU,cV,bJ,Za,Zb,Ze,Zf,Zg,Zh,Zk,Zl,Zm,Zp,Zq,Zv,Zy,Z3,Z4,Z5,Z7,Z8,ZH,ZI,ZK,ZN,ZR,ZS,ZU,ZV,ZW,ZY,ZZ,Yb,Yc,Ys,Yu,YX,YY,YZ,Xb,Xr,Xs,Xt,Xv,XK,XQ,Wf,Wm,Wz,W0,W3,W5,W6,W7,W8,WA,WI,WL,WM,WN,WO,WP,WQ,WS,WT,Vg,Vh,Vi,Vk,Vl,Vm,Vo,Vp,Vq,Vu,Vx,Vy,Vz,V0,V2,V8,V9,VB,VC,VD,VE,VF,VI,VJ,VK,VL,VP,VS,VU,VY,VZ,Ub,Uc,Ue,Uf,Ug,Ul,Uo,Uq,Ur,Us,Ux,Uy,Uz,U0,U1,U2,U3,U4,U5,Tc,Td,Te,Th,Ti,Ts,Tt,Tu,Tw,Ty,Tz,T4,T6,T7,TW,Su,SA,SB,SC,SD,SE,SF,SG,SI,zF,g27,g40,o1,v1,iY];all_goals tactic=>exact rfl))
                   ·rw[hos]at g27
                    have g27:runW aA 27 [.agg x.c,.fs ([I y]::r.map fun n=>[I n])] []=_:=g27
                    cases hsp:dH (cE x) x.sick x.nur (eO s x.fix)<;>rw[hsp]at g27 g40<;>simp only[Bool.false_eq_true,if_false,if_true,Bool.not_true,Bool.not_false]at g27 g40<;>(sym=>(simp[cU,cV,bJ,Za,Zb,Ze,Zf,Zg,Zh,Zk,Zl,Zm,Zp,Zq,Zv,Zy,Z3,Z4,Z5,Z7,Z8,ZH,ZI,ZK,ZN,ZR,ZS,ZU,ZV,ZW,ZY,ZZ,Yb,Yc,Ys,Yu,YX,YY,YZ,Xb,Xr,Xs,Xt,Xv,XK,XO,XX,Wb,Wc,Wf,Wi,Wz,W0,W3,W4,W5,W6,W7,W8,WA,WI,WL,WM,WN,WO,WP,WQ,WS,WT,Vg,Vh,Vi,Vk,Vl,Vm,Vo,Vp,Vq,Vr,Vs,Vt,Vu,Vv,Vx,Vy,Vz,V0,V2,V4,V6,V8,V9,VB,VC,VD,VE,VF,VI,VJ,VK,VL,VP,VS,VU,VY,VZ,Ub,Uc,Ue,Uf,Ug,Uh,Ul,Uo,Uq,Ur,Us,Ut,Ux,Uy,Uz,U0,U1,U2,U3,U4,U5,Tc,Td,Te,Th,Ti,Ts,Tt,Tu,Tw,Ty,Tz,T4,T6,T7,TI,TJ,TL,TX,TY,Su,Sv,Sw,SA,SB,SC,SD,SE,SF,SG,SI,zF,g27,g40,o1,v1,iY];all_goals tactic=>exact rfl))
                  ·rw[k0]; (sym=>(simp[cU,cV,bJ,Za,YB,YX,Xd,Xe,Xr,Xx,Xy,Wz,WB,WF,WG,WI,WJ,WK,WM,WO,WP,WQ,WR,WW,WX,Vd,VP,VQ,VR,VY,VZ,Ub,Uc,Ue,Uj,Uw,U2,U3,U4,U5,T5,TK,TW,oY,oX,lT,tP,fw];all_goals tactic=>exact rfl))
                  ·exact rdC
                  ·rw[kF]
                   rcases hos:cM (el (ownA x s))with _|⟨y,r⟩<;>(sym=>(simp[cU,cV,bJ,Za,Zb,Zf,Zh,Zl,Zm,Zv,Z3,Z8,ZH,Yc,Yu,Wz,W0,W3,WA,VP,VS,VU,VV,Uy,Tc,Td,Te,Ti,Ts,Tt,Tw,Ty,Tz,T6,TW,TX,zF];all_goals tactic=>exact rfl))
              ·have y0:(rA x W=0)=False:=eq_false hv
               sym =>
                simp[cU,cV,bJ,Za,Zb,Zf,Zg,Zh,Zl,Zm,Zp,Zs,Zu,Zv,Zy,Z3,ZH,ZP,ZQ,ZU,ZV,ZX,Ys,YX,YZ,Xb,Xr,Xt,Xv,Wi,Wz,W0,W3,W5,W6,W7,W8,WI,WL,WN,WS,WT,Vg,Vh,Vi,VP,VS,VU,VY,VZ,Ub,Uc,Uf,Ug,Uy,U1,U2,U3,U4,U5,Td,Te,Th,Ts,Tt,Tv,Tx,Ty,T6,T7,TQ,oY,oX,lT,tP,fw,g35,y0]
                tactic =>
                 unfold pQ
                 rw[aE x.F (fun f=>[B8 s,.pt 0 0,oS 1 (cM (lY (ownA x s) f)),I (f:Nat)]) (fun f=>gO x (cM (lY (ownA x s) f)))]
                 ·rw[kF]
                  rcases hos:cM (el (ownA x s))with _|⟨y,r⟩
                  ·rw[hos]at g27
                   have g27:runW aA 27 [.agg x.c,.fs []] []=_:=g27
                   cases hsp:dH (cE x) x.sick x.nur (eO s x.fix)<;>rw[hsp]at g27 g40<;>simp only[Bool.false_eq_true,if_false,if_true,Bool.not_true,Bool.not_false]at g27 g40<;>(sym=>(simp[cU,cV,bJ,Za,Zb,Ze,Zf,Zg,Zh,Zk,Zl,Zm,Zp,Zq,Zv,Zy,Z3,Z4,Z5,Z7,Z8,ZH,ZI,ZK,ZN,ZR,ZS,ZU,ZV,ZW,ZY,ZZ,Yb,Yc,Ys,Yu,YX,YY,YZ,Xb,Xr,Xs,Xt,Xv,XK,XQ,Wf,Wm,Wz,W0,W3,W5,W6,W7,W8,WA,WI,WL,WM,WN,WO,WP,WQ,WS,WT,Vg,Vh,Vi,Vk,Vl,Vm,Vo,Vp,Vq,Vu,Vx,Vy,Vz,V0,V2,V8,V9,VB,VC,VD,VE,VF,VI,VJ,VK,VL,VP,VS,VU,VY,VZ,Ub,Uc,Ue,Uf,Ug,Ul,Uo,Uq,Ur,Us,Ux,Uy,Uz,U0,U1,U2,U3,U4,U5,Tc,Td,Te,Th,Ti,Ts,Tt,Tu,Tw,Ty,Tz,T4,T6,T7,TW,Su,SA,SB,SC,SD,SE,SF,SG,SI,zF,g27,g40,o1,v1,iY];all_goals tactic=>exact rfl))
                  ·rw[hos]at g27
                   have g27:runW aA 27 [.agg x.c,.fs ([I y]::r.map fun n=>[I n])] []=_:=g27
                   cases hsp:dH (cE x) x.sick x.nur (eO s x.fix)<;>rw[hsp]at g27 g40<;>simp only[Bool.false_eq_true,if_false,if_true,Bool.not_true,Bool.not_false]at g27 g40<;>(sym=>(simp[cU,cV,bJ,Za,Zb,Ze,Zf,Zg,Zh,Zk,Zl,Zm,Zp,Zq,Zv,Zy,Z3,Z4,Z5,Z7,Z8,ZH,ZI,ZK,ZN,ZR,ZS,ZU,ZV,ZW,ZY,ZZ,Yb,Yc,Ys,Yu,YX,YY,YZ,Xb,Xr,Xs,Xt,Xv,XK,XO,XX,Wb,Wc,Wf,Wi,Wz,W0,W3,W4,W5,W6,W7,W8,WA,WI,WL,WM,WN,WO,WP,WQ,WS,WT,Vg,Vh,Vi,Vk,Vl,Vm,Vo,Vp,Vq,Vr,Vs,Vt,Vu,Vv,Vx,Vy,Vz,V0,V2,V4,V6,V8,V9,VB,VC,VD,VE,VF,VI,VJ,VK,VL,VP,VS,VU,VY,VZ,Ub,Uc,Ue,Uf,Ug,Uh,Ul,Uo,Uq,Ur,Us,Ut,Ux,Uy,Uz,U0,U1,U2,U3,U4,U5,Tc,Td,Te,Th,Ti,Ts,Tt,Tu,Tw,Ty,Tz,T4,T6,T7,TI,TJ,TL,TX,TY,Su,Sv,Sw,SA,SB,SC,SD,SE,SF,SG,SI,zF,g27,g40,o1,v1,iY];all_goals tactic=>exact rfl))
                 ·rw[k0]; (sym=>(simp[cU,cV,bJ,Za,YB,YX,Xd,Xe,Xr,Xx,Xy,Wz,WB,WF,WG,WI,WJ,WK,WM,WO,WP,WQ,WR,WW,WX,Vd,VP,VQ,VR,VY,VZ,Ub,Uc,Ue,Uj,Uw,U2,U3,U4,U5,T5,TK,TW,oY,oX,lT,tP,fw];all_goals tactic=>exact rfl))
                 ·exact rdC
                 ·rw[kF]
                  rcases hos:cM (el (ownA x s))with _|⟨y,r⟩<;>(sym=>(simp[cU,cV,bJ,Za,Zb,Zf,Zh,Zl,Zm,Zv,Z3,Z8,ZH,Yc,Yu,Wz,W0,W3,WA,VP,VS,VU,VV,Uy,Tc,Td,Te,Ti,Ts,Tt,Tw,Ty,Tz,T6,TW,TX,zF];all_goals tactic=>exact rfl))
         ·unfold aCY
          rw[l0]
          by_cases hne:zK ws ws.length=[]
          ·rw[hne]
           (sym=>(simp[cU,cV,bJ,Za,YB,YX,Xb,Xd,Xe,Xr,Xv,Xx,Xy,Wz,WB,WF,WG,WI,WJ,WK,WM,WO,WP,WQ,WR,WW,WX,Vd,VP,VQ,VR,VY,VZ,Ub,Uc,Ue,Uj,Uw,U2,U3,U4,U5,T5,TK,hb0,oL0];all_goals tactic=>exact rfl))
          ·rw[aAe hne]
           refine Exists.elim (aKB (vals:=[T3 SS,B8 s,.pt 0 0,.sl 1 0 1 (zK ws ws.length).length,I 0]) hne ?_ rfl (by have:=fine0.len;omega)) fun f hf=>hf.2.2.trans ?_
           ·rfl
           ·simp only[jA,rnA,hf.1,hf.2.1]
            rfl
         ·exact rdB
         ·unfold aCY
          rw[hLF]
          rcases hst with ⟨zSt,zSt2⟩|⟨zSt,zSt2⟩<;>(sym=>(simp[cU,cV,bJ,Za,Zb,Zf,Zh,Zl,Zm,Zp,Zq,Zs,Zv,Zy,Z3,ZG,ZW,ZX,Ye,Yu,VP,VS,VU,VV,Uh,Ux,Uy,Ts,Tt,Tw,Ty,Tz,T6,T7,zSt,zSt2];all_goals tactic=>exact rfl))
      ·unfold aFx
       rw[c0]
       (sym=>(simp[cU,cV,bJ,Za,YB,YX,Xb,Xd,Xe,Xr,Xv,Xx,Xy,Wz,W9,WB,WF,WG,WI,WJ,WK,WM,WO,WP,WQ,WR,WW,WX,Vd,VN,VQ,VR,VY,VZ,Ub,Uc,Ue,Uj,Uw,U2,U3,U4,U5,T5,TK,hb0,oL0];all_goals tactic=>exact rfl))
      ·exact rdA
      ·(sym=>(simp[cU,cV,bJ,Za,Zb,Zf,Zh,Zl,Zm,Z3,Yu,VP,VS,VU,VV,Uy,Tc,Ts,Tt,Tw,Ty,Tz,T6,zw];all_goals tactic=>exact rfl))
end Go.Proofs.YtiabjdfdkiijmaaDoor
