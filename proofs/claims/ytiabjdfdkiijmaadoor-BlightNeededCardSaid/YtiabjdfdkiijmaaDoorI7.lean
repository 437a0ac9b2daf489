/- Parts of a proof, joined: K85 K86 K87 K88 K89 K90 K91 K92 K93 K94 K95 K96. No statement of the seed is proved here. -/
import Derived.Test.YtiabjdfdkiijmaaDoorI6
set_option linter.unusedSimpArgs false
set_option linter.unusedVariables false
set_option linter.unusedSectionVars false
namespace Go.Proofs.YtiabjdfdkiijmaaDoor
open Go Go.DL
set_option maxRecDepth 100000
set_option maxHeartbeats 4000000
theorem w36 {l:La} (ok:l.Ok):runW aA 36 [.agg l.c] []=some (.agg l.md.c,[]):=by
 have hk:=l.k_lt
 have v0:=wr8 ok.F
 have v1:=wr8 ok.s
 have v2:=wr8 ok.n
 have v3:=wr8 ok.f
 have q0:kK (l.F:Int) 7=((l.F%7:Nat):Int):=bD l.F 7
 have q1:IntKind.i64.wrap (2+((l.F%7:Nat):Int))=(l.k:Int):=by unfold La.k;rw[aD (by omega) (by omega)];omega
 have n0:((l.k:Int)<0)=False:=eq_false (by omega)
 have e:=iI bV (i:=l.k) (by omega)
 have pz:(((2^l.k:Nat):Int)=0)=False:=eq_false (by have:=Nat.two_pow_pos l.k;omega)
 have q2:=bD l.s (2^l.k)
 have q3:=bD l.n (2^l.k)
 have q4:=bD l.f (2^l.k)
 have rda:=fun j (h1:j<l.bs.length) (h2:j<12)=>aFv ok (S:=(l.s%2^l.k:Nat)) (N:=(l.n%2^l.k:Nat)) (X:=(l.f%2^l.k:Nat)) h1 h2
 obtain⟨mb,hmb⟩:∃ m,m=min 12 l.bs.length:=⟨_,rfl⟩
 obtain⟨mp,hmp⟩:∃ m,m=min 5 l.ps.length:=⟨_,rfl⟩
 have rdb:=fun j (h1:j<l.ps.length) (h2:j<5)=>aFu ok (S:=(l.s%2^l.k:Nat)) (N:=(l.n%2^l.k:Nat)) (X:=(l.f%2^l.k:Nat)) (wV l mb) h1 h2
 have B0:wV l 0=[]:=rfl
 have P0:rX l 0=[]:=rfl
 have hB:wV l mb=(l.md.bs).map bI:=by
  show _=List.map bI ((l.bs.take 12).map (toB l.k))
  rw[wV,hmb,show l.bs.take (min 12 l.bs.length)=l.bs.take 12 by rw[←List.take_take,List.take_length]]
 have hP:rX l mp=(l.md.ps).map pI:=by
  show _=List.map pI ((l.ps.take 5).map (toP l.k))
  rw[rX,hmp,show l.ps.take (min 5 l.ps.length)=l.ps.take 5 by rw[←List.take_take,List.take_length]]
 have hres:(AV.agg l.md.c) = .agg [I l.k,.fs ((wV l mb).map qR),.fs ((rX l mp).map pR),I (l.s%2^l.k:Nat),I (l.n%2^l.k:Nat),I (l.f%2^l.k:Nat)]:=by rw[hB,hP];rfl
 have zb:(mb<l.bs.length∧mb<12)∨True:=.inr trivial
 have cb:=aLx (wV l mb)
 have cp:=aLy (rX l mp)
 have lb:=aGS (wV l mb)
 have lp:=aGT (rX l mp)
 have stb:((mb:Int)<(l.bs.length:Int))=False∨((mb:Int)<(l.bs.length:Int))=True∧((mb:Int)<12)=False:=by
  by_cases h:mb<l.bs.length
  ·exact .inr ⟨eq_true (by omega),eq_false (by omega)⟩
  ·exact .inl (eq_false (by omega))
 have stp:((mp:Int)<(l.ps.length:Int))=False∨((mp:Int)<(l.ps.length:Int))=True∧((mp:Int)<5)=False:=by
  by_cases h:mp<l.ps.length
  ·exact .inr ⟨eq_true (by omega),eq_false (by omega)⟩
  ·exact .inl (eq_false (by omega))
 rw[hres]
 clear hres hB hP
 have rda:∀ j,j<mb→_:=fun j hj=>rda j (by omega) (by omega)
 have rdb:∀ j,j<mp→_:=fun j hj=>rdb j (by omega) (by omega)
 generalize hS:l.s%2^l.k=S at *
 generalize hN:l.n%2^l.k=N at *
 generalize hX:l.f%2^l.k=X at *
 generalize 2^l.k=p2 at *
 generalize l.F%7=r7 at *
 generalize hBB:wV l mb=BB at *
 generalize hPP:rX l mp=PP at *
 have stb':=stb
 have stp':=stp
 rw[r36 (by simp)];unfold x36;dsimp only
 sym =>
  simp[aM,aN,bJ,bM,bL,Za,Zb,Zc,Zd,Ze,Zf,Zh,Zi,Zl,Zm,Zo,Zv,Zw,Zz,Z0,Z3,Z7,Z8,ZH,ZI,ZK,ZL,ZN,ZO,Yc,Ye,Yl,Yq,Yz,YT,Xi,Xk,Xl,Xo,We,Wg,Wi,Wq,Ws,Wy,Wz,W0,W3,W4,W5,W7,W8,W9,WA,Vk,VN,VX,VY,VZ,Ua,Ub,Uc,Uf,Ug,Ul,Uq,Ur,Ut,Uy,Uz,U0,U6,U7,UC,UD,UE,UF,UG,UH,UN,UO,Tc,Td,Th,Ti,Tj,Tk,Tq,Tr,Tv,Tw,T3,T4,Sn,v0,v1,v2,v3,q0,q1,n0,e,pz,q2,q3,q4]
  tactic =>
   unfold aCM
   rw[aF mb (fun j=>[.pt 0 0,.pt 1 0,I l.k,.pt 2 0,I (j:Nat)]) (fun j=>gLa l S N X (wV l j) []++gLb (wV l j) [])]
   ·rw[hBB]
    rcases stb with sb|⟨sb,sb2⟩
    ·rcases BB with _|⟨b,q⟩
     ·sym =>
      simp[aM,aN,bJ,bM,bL,Za,Zb,Zf,Zh,Zl,Zm,Zp,Zs,Zv,Zy,Z3,Z8,ZG,ZH,ZX,Ye,Yf,Yu,Wz,W0,W3,WA,VP,VS,VU,VZ,Uc,Uh,Uy,Tc,Td,Th,Tq,Tr,Tu,Tv,Tw,Tx,T1,T3,T4,sb]
      tactic =>
       unfold uL
       rw[aF mp (fun j=>[.pt 0 0,.pt 1 0,I l.k,.pt 2 0,I (j:Nat)]) (fun j=>gLa l S N X [] (rX l j)++gLb [] (rX l j))]
       ·rw[hPP]
        rcases stp with sp|⟨sp,sp2⟩
        ·rcases PP with _|⟨p,r⟩
         ·(sym=>(simp[aM,aN,bJ,bM,bL,Za,Zb,Zc,Zf,Zh,Zl,Zm,Zp,Zs,Zv,Zy,Z3,Z8,ZG,ZH,ZL,ZM,ZX,Ye,Yf,Yu,YX,YZ,Xb,Xi,Xo,Xr,Xt,Xv,XJ,XL,XQ,We,Wg,Wm,Ws,Wz,W0,W3,W4,W5,W6,W7,W8,WA,WI,WM,WO,WP,WQ,Vu,V8,V9,VB,VC,VD,VE,VF,VI,VJ,VK,VM,VP,VS,VU,VZ,Ub,Uc,Ue,Uf,Ug,Uh,Ul,Ut,Uy,U2,U3,U4,U5,U6,U7,U8,U9,UC,UD,UE,Tc,Td,Tg,Th,Ti,Tj,Tq,Tr,Ts,Tu,Tw,Tx,T1,T3,T4,Sr,sp];all_goals tactic=>exact rfl))
         ·have cp:cB (cP (p::r)) 0 3 (r.length+1)=(p::r).map pR:=cp
          have c3:((r.length+1)*3≤(cP (p::r)).length)=True:=eq_true (by rw[lp];simp)
          (sym=>(simp[aM,aN,bJ,bM,bL,Za,Zb,Zc,Zf,Zh,Zl,Zm,Zp,Zs,Zv,Zy,Z3,Z8,ZG,ZH,ZL,ZM,ZX,Ye,Yf,Yu,YX,YZ,Xb,Xi,Xl,Xm,Xo,Xr,Xt,Xv,XJ,XL,XO,XQ,XX,XY,Wb,Wd,We,Wg,Wi,Wm,Ws,Wz,W0,W3,W4,W5,W6,W7,W8,WA,WI,WM,WO,WP,WQ,Vr,Vs,Vt,Vu,Vv,V4,V5,V6,V8,V9,VB,VC,VD,VE,VF,VI,VJ,VK,VM,VP,VS,VU,VY,VZ,Ua,Ub,Uc,Ue,Uf,Ug,Uh,Ul,Un,Ut,Uy,U2,U3,U4,U5,U6,U7,U8,U9,UA,UB,UC,UD,UE,Tc,Td,Tg,Th,Ti,Tj,Tq,Tr,Ts,Tu,Tw,Tx,T1,T3,T4,TG,Sr,Ss,Su,sp,cp,c3];all_goals tactic=>exact rfl))
        ·rcases PP with _|⟨p,r⟩
         ·(sym=>(simp[aM,aN,bJ,bM,bL,Za,Zb,Zc,Zf,Zh,Zl,Zm,Zp,Zq,Zv,Zy,Z3,Z8,ZG,ZH,ZL,ZM,ZW,Ye,Yf,Yu,YX,YZ,Xb,Xi,Xo,Xr,Xt,Xv,XJ,XL,XQ,We,Wg,Wm,Ws,Wz,W0,W3,W4,W5,W6,W7,W8,WA,WI,WM,WO,WP,WQ,Vu,V8,V9,VB,VC,VD,VE,VF,VI,VJ,VK,VM,VP,VS,VU,VZ,Ub,Uc,Ue,Uf,Ug,Uh,Ul,Ut,Ux,Uy,U2,U3,U4,U5,U6,U7,U8,U9,UC,UD,UE,Tc,Td,Tg,Th,Ti,Tj,Tq,Tr,Ts,Tu,Tw,Tx,T1,T3,T4,Sr,sp,sp2];all_goals tactic=>exact rfl))
         ·have cp:cB (cP (p::r)) 0 3 (r.length+1)=(p::r).map pR:=cp
          have c3:((r.length+1)*3≤(cP (p::r)).length)=True:=eq_true (by rw[lp];simp)
          (sym=>(simp[aM,aN,bJ,bM,bL,Za,Zb,Zc,Zf,Zh,Zl,Zm,Zp,Zq,Zv,Zy,Z3,Z8,ZG,ZH,ZL,ZM,ZW,Ye,Yf,Yu,YX,YZ,Xb,Xi,Xl,Xm,Xo,Xr,Xt,Xv,XJ,XL,XO,XQ,XX,XY,Wb,Wd,We,Wg,Wi,Wm,Ws,Wz,W0,W3,W4,W5,W6,W7,W8,WA,WI,WM,WO,WP,WQ,Vr,Vs,Vt,Vu,Vv,V4,V5,V6,V8,V9,VB,VC,VD,VE,VF,VI,VJ,VK,VM,VP,VS,VU,VY,VZ,Ua,Ub,Uc,Ue,Uf,Ug,Uh,Ul,Un,Ut,Ux,Uy,U2,U3,U4,U5,U6,U7,U8,U9,UA,UB,UC,UD,UE,Tc,Td,Tg,Th,Ti,Tj,Tq,Tr,Ts,Tu,Tw,Tx,T1,T3,T4,TG,Sr,Ss,Su,sp,sp2,cp,c3];all_goals tactic=>exact rfl))
       ·rw[P0]; (sym=>(simp[aM,aN,bJ,bM,bL,Za,YB,YX,Xd,Xr,Xx,Wz,WB,WC,WF,WG,WI,WJ,WK,WM,WO,WP,WQ,WR,WW,WX,Vd,VP,VQ,VR,VY,VZ,Ua,Ub,Uc,Ue,Uj,Uw,U2,U3,U4,U5,T2,TH];all_goals tactic=>exact rfl))
       ·exact rdb
       ·rw[hPP]
        rcases stp with sp|⟨sp,sp2⟩
        ·rcases PP with _|⟨p,r⟩
         ·(sym=>(simp[aM,aN,bJ,bM,bL,Za,Zb,Zf,Zh,Zl,Zm,Zp,Zs,Zv,Zy,Z3,Z8,ZG,ZH,ZX,Ye,Yf,Yu,Wz,W0,W3,WA,VP,VS,VU,VV,Uc,Uh,Uy,Tc,Td,Th,Tq,Tr,Tu,Tw,Tx,T3,T4,sp];all_goals tactic=>exact rfl))
         ·(sym=>(simp[aM,aN,bJ,bM,bL,Za,Zb,Zf,Zh,Zl,Zm,Zp,Zs,Zv,Zy,Z3,Z8,ZG,ZH,ZX,Ye,Yf,Yu,Wz,W0,W3,WA,VP,VS,VU,VV,Ua,Ub,Uh,Uy,Tc,Td,Th,Tq,Tr,Tu,Tw,Tx,T3,T4,sp];all_goals tactic=>exact rfl))
        ·rcases PP with _|⟨p,r⟩
         ·(sym=>(simp[aM,aN,bJ,bM,bL,Za,Zb,Zf,Zh,Zl,Zm,Zp,Zq,Zv,Zy,Z3,Z8,ZG,ZH,ZW,Ye,Yf,Yu,Wz,W0,W3,WA,VP,VS,VU,VV,Uc,Uh,Ux,Uy,Tc,Td,Th,Tq,Tr,Tu,Tw,Tx,T3,T4,sp,sp2];all_goals tactic=>exact rfl))
         ·(sym=>(simp[aM,aN,bJ,bM,bL,Za,Zb,Zf,Zh,Zl,Zm,Zp,Zq,Zv,Zy,Z3,Z8,ZG,ZH,ZW,Ye,Yf,Yu,Wz,W0,W3,WA,VP,VS,VU,VV,Ua,Ub,Uh,Ux,Uy,Tc,Td,Th,Tq,Tr,Tu,Tw,Tx,T3,T4,sp,sp2];all_goals tactic=>exact rfl))
     ·have cb:cB (cQ (b::q)) 0 2 (q.length+1)=(b::q).map qR:=cb
      have b3:((q.length+1)*2≤(cQ (b::q)).length)=True:=eq_true (by rw[lb];simp)
      sym =>
       simp[aM,aN,bJ,bM,bL,Za,Zb,Zf,Zh,Zl,Zm,Zp,Zs,Zv,Zy,Z3,Z8,ZG,ZH,ZX,Ye,Yf,Yu,Wz,W0,W3,WA,VP,VS,VU,VY,Ua,Ub,Uh,Uy,Tc,Td,Th,Tq,Tr,Tu,Tv,Tw,Tx,T1,T3,T4,sb]
       tactic =>
        unfold uL
        rw[aF mp (fun j=>[.pt 0 0,.pt 1 0,I l.k,.pt 2 0,I (j:Nat)]) (fun j=>gLa l S N X (b::q) (rX l j)++gLb (b::q) (rX l j))]
        ·rw[hPP]
         rcases stp with sp|⟨sp,sp2⟩
         ·rcases PP with _|⟨p,r⟩
          ·(sym=>(simp[aM,aN,bJ,bM,bL,Za,Zb,Zc,Zf,Zh,Zl,Zm,Zp,Zs,Zv,Zy,Z3,Z8,ZG,ZH,ZL,ZM,ZX,Ye,Yf,Yu,YX,YZ,Xb,Xi,Xl,Xm,Xo,Xr,Xt,Xv,XJ,XL,XO,XQ,XX,XY,Wb,Wd,We,Wg,Wi,Wm,Ws,Wz,W0,W3,W4,W5,W6,W7,W8,WA,WI,WM,WO,WP,WQ,Vr,Vs,Vt,Vu,Vv,V4,V5,V6,V8,V9,VB,VC,VD,VE,VF,VI,VJ,VK,VM,VP,VS,VU,VY,VZ,Ua,Ub,Uc,Ue,Uf,Ug,Uh,Ul,Un,Ut,Uy,U2,U3,U4,U5,U6,U7,U8,U9,UA,UB,UC,UD,UE,Tc,Td,Tg,Th,Ti,Tj,Tq,Tr,Ts,Tu,Tw,Tx,T1,T3,T4,TG,Sr,Ss,Su,sp,cb,b3];all_goals tactic=>exact rfl))
          ·have cp:cB (cP (p::r)) 0 3 (r.length+1)=(p::r).map pR:=cp
           have c3:((r.length+1)*3≤(cP (p::r)).length)=True:=eq_true (by rw[lp];simp)
           (sym=>(simp[aM,aN,bJ,bM,bL,Za,Zb,Zc,Zf,Zh,Zl,Zm,Zp,Zs,Zv,Zy,Z3,Z8,ZG,ZH,ZL,ZM,ZX,Ye,Yf,Yu,YX,YZ,Xb,Xi,Xl,Xm,Xr,Xt,Xv,XJ,XL,XO,XX,XY,Wa,Wb,We,Wg,Wi,Ws,Wz,W0,W3,W4,W5,W6,W7,W8,WA,WI,WM,WO,WP,WQ,Vr,Vs,Vt,Vu,Vv,V3,V4,V5,V6,V8,V9,VB,VC,VD,VE,VF,VI,VJ,VK,VM,VP,VS,VU,VY,VZ,Ua,Ub,Uc,Ue,Uf,Ug,Uh,Ul,Un,Ut,Uu,Uy,U2,U3,U4,U5,U6,U7,U8,U9,UA,UB,UC,UD,UE,Tc,Td,Tg,Th,Ti,Tj,Tq,Tr,Ts,Tu,Tw,Tx,T1,T3,T4,TG,Sr,Ss,Su,sp,cp,c3,cb,b3];all_goals tactic=>exact rfl))
         ·rcases PP with _|⟨p,r⟩
          ·(sym=>(simp[aM,aN,bJ,bM,bL,Za,Zb,Zc,Zf,Zh,Zl,Zm,Zp,Zq,Zv,Zy,Z3,Z8,ZG,ZH,ZL,ZM,ZW,Ye,Yf,Yu,YX,YZ,Xb,Xi,Xl,Xm,Xo,Xr,Xt,Xv,XJ,XL,XO,XQ,XX,XY,Wb,Wd,We,Wg,Wi,Wm,Ws,Wz,W0,W3,W4,W5,W6,W7,W8,WA,WI,WM,WO,WP,WQ,Vr,Vs,Vt,Vu,Vv,V4,V5,V6,V8,V9,VB,VC,VD,VE,VF,VI,VJ,VK,VM,VP,VS,VU,VY,VZ,Ua,Ub,Uc,Ue,Uf,Ug,Uh,Ul,Un,Ut,Ux,Uy,U2,U3,U4,U5,U6,U7,U8,U9,UA,UB,UC,UD,UE,Tc,Td,Tg,Th,Ti,Tj,Tq,Tr,Ts,Tu,Tw,Tx,T1,T3,T4,TG,Sr,Ss,Su,sp,sp2,cb,b3];all_goals tactic=>exact rfl))
          ·have cp:cB (cP (p::r)) 0 3 (r.length+1)=(p::r).map pR:=cp
           have c3:((r.length+1)*3≤(cP (p::r)).length)=True:=eq_true (by rw[lp];simp)
           (sym=>(simp[aM,aN,bJ,bM,bL,Za,Zb,Zc,Zf,Zh,Zl,Zm,Zp,Zq,Zv,Zy,Z3,Z8,ZG,ZH,ZL,ZM,ZW,Ye,Yf,Yu,YX,YZ,Xb,Xi,Xl,Xm,Xr,Xt,Xv,XJ,XL,XO,XX,XY,Wa,Wb,We,Wg,Wi,Ws,Wz,W0,W3,W4,W5,W6,W7,W8,WA,WI,WM,WO,WP,WQ,Vr,Vs,Vt,Vu,Vv,V3,V4,V5,V6,V8,V9,VB,VC,VD,VE,VF,VI,VJ,VK,VM,VP,VS,VU,VY,VZ,Ua,Ub,Uc,Ue,Uf,Ug,Uh,Ul,Un,Ut,Uu,Ux,Uy,U2,U3,U4,U5,U6,U7,U8,U9,UA,UB,UC,UD,UE,Tc,Td,Tg,Th,Ti,Tj,Tq,Tr,Ts,Tu,Tw,Tx,T1,T3,T4,TG,Sr,Ss,Su,sp,sp2,cp,c3,cb,b3];all_goals tactic=>exact rfl))
        ·rw[P0]; (sym=>(simp[aM,aN,bJ,bM,bL,Za,YB,YX,Xc,Xd,Xe,Xr,Xw,Xx,Xy,Wz,WB,WC,WF,WG,WI,WJ,WK,WM,WO,WP,WQ,WR,WW,WX,WY,Vd,Ve,VP,VQ,VR,VY,VZ,Ua,Ub,Uc,Ue,Uj,Uw,U2,U3,U4,U5,T2,TH];all_goals tactic=>exact rfl))
        ·exact rdb
        ·rw[hPP]
         rcases stp with sp|⟨sp,sp2⟩
         ·rcases PP with _|⟨p,r⟩
          ·(sym=>(simp[aM,aN,bJ,bM,bL,Za,Zb,Zf,Zh,Zl,Zm,Zp,Zs,Zv,Zy,Z3,Z8,ZG,ZH,ZX,Ye,Yf,Yu,Wz,W0,W3,WA,VP,VS,VU,VV,Ua,Ub,Uh,Uy,Tc,Td,Th,Tq,Tr,Tu,Tw,Tx,T3,T4,sp];all_goals tactic=>exact rfl))
          ·(sym=>(simp[aM,aN,bJ,bM,bL,Za,Zb,Zf,Zh,Zl,Zm,Zp,Zs,Zv,Zy,Z3,Z8,ZG,ZH,ZX,Ye,Yf,Yu,Wz,W0,W3,WA,VP,VS,VU,VV,Ua,Ub,Uh,Uy,Tc,Td,Th,Tq,Tr,Tu,Tw,Tx,T3,T4,sp];all_goals tactic=>exact rfl))
         ·rcases PP with _|⟨p,r⟩
          ·(sym=>(simp[aM,aN,bJ,bM,bL,Za,Zb,Zf,Zh,Zl,Zm,Zp,Zq,Zv,Zy,Z3,Z8,ZG,ZH,ZW,Ye,Yf,Yu,Wz,W0,W3,WA,VP,VS,VU,VV,Ua,Ub,Uh,Ux,Uy,Tc,Td,Th,Tq,Tr,Tu,Tw,Tx,T3,T4,sp,sp2];all_goals tactic=>exact rfl))
          ·(sym=>(simp[aM,aN,bJ,bM,bL,Za,Zb,Zf,Zh,Zl,Zm,Zp,Zq,Zv,Zy,Z3,Z8,ZG,ZH,ZW,Ye,Yf,Yu,Wz,W0,W3,WA,VP,VS,VU,VV,Ua,Ub,Uh,Ux,Uy,Tc,Td,Th,Tq,Tr,Tu,Tw,Tx,T3,T4,sp,sp2];all_goals tactic=>exact rfl))
    ·rcases BB with _|⟨b,q⟩
     ·sym =>
      simp[aM,aN,bJ,bM,bL,Za,Zb,Zf,Zh,Zl,Zm,Zp,Zq,Zv,Zy,Z3,Z8,ZG,ZH,ZW,Ye,Yf,Yu,Wz,W0,W3,WA,VP,VS,VU,VZ,Uc,Uh,Ux,Uy,Tc,Td,Th,Tq,Tr,Tu,Tv,Tw,Tx,T1,T3,T4,sb,sb2]
      tactic =>
       unfold uL
       rw[aF mp (fun j=>[.pt 0 0,.pt 1 0,I l.k,.pt 2 0,I (j:Nat)]) (fun j=>gLa l S N X [] (rX l j)++gLb [] (rX l j))]
       ·rw[hPP]
        rcases stp with sp|⟨sp,sp2⟩
        ·rcases PP with _|⟨p,r⟩
         ·(sym=>(simp[aM,aN,bJ,bM,bL,Za,Zb,Zc,Zf,Zh,Zl,Zm,Zp,Zs,Zv,Zy,Z3,Z8,ZG,ZH,ZL,ZM,ZX,Ye,Yf,Yu,YX,YZ,Xb,Xi,Xo,Xr,Xt,Xv,XJ,XL,XQ,We,Wg,Wm,Ws,Wz,W0,W3,W4,W5,W6,W7,W8,WA,WI,WM,WO,WP,WQ,Vu,V8,V9,VB,VC,VD,VE,VF,VI,VJ,VK,VM,VP,VS,VU,VZ,Ub,Uc,Ue,Uf,Ug,Uh,Ul,Ut,Uy,U2,U3,U4,U5,U6,U7,U8,U9,UC,UD,UE,Tc,Td,Tg,Th,Ti,Tj,Tq,Tr,Ts,Tu,Tw,Tx,T1,T3,T4,Sr,sp];all_goals tactic=>exact rfl))
         ·have cp:cB (cP (p::r)) 0 3 (r.length+1)=(p::r).map pR:=cp
          have c3:((r.length+1)*3≤(cP (p::r)).length)=True:=eq_true (by rw[lp];simp)
          (sym=>(simp[aM,aN,bJ,bM,bL,Za,Zb,Zc,Zf,Zh,Zl,Zm,Zp,Zs,Zv,Zy,Z3,Z8,ZG,ZH,ZL,ZM,ZX,Ye,Yf,Yu,YX,YZ,Xb,Xi,Xl,Xm,Xo,Xr,Xt,Xv,XJ,XL,XO,XQ,XX,XY,Wb,Wd,We,Wg,Wi,Wm,Ws,Wz,W0,W3,W4,W5,W6,W7,W8,WA,WI,WM,WO,WP,WQ,Vr,Vs,Vt,Vu,Vv,V4,V5,V6,V8,V9,VB,VC,VD,VE,VF,VI,VJ,VK,VM,VP,VS,VU,VY,VZ,Ua,Ub,Uc,Ue,Uf,Ug,Uh,Ul,Un,Ut,Uy,U2,U3,U4,U5,U6,U7,U8,U9,UA,UB,UC,UD,UE,Tc,Td,Tg,Th,Ti,Tj,Tq,Tr,Ts,Tu,Tw,Tx,T1,T3,T4,TG,Sr,Ss,Su,sp,cp,c3];all_goals tactic=>exact rfl))
        ·rcases PP with _|⟨p,r⟩
         ·(sym=>(simp[aM,aN,bJ,bM,bL,Za,Zb,Zc,Zf,Zh,Zl,Zm,Zp,Zq,Zv,Zy,Z3,Z8,ZG,ZH,ZL,ZM,ZW,Ye,Yf,Yu,YX,YZ,Xb,Xi,Xo,Xr,Xt,Xv,XJ,XL,XQ,We,Wg,Wm,Ws,Wz,W0,W3,W4,W5,W6,W7,W8,WA,WI,WM,WO,WP,WQ,Vu,V8,V9,VB,VC,VD,VE,VF,VI,VJ,VK,VM,VP,VS,VU,VZ,Ub,Uc,Ue,Uf,Ug,Uh,Ul,Ut,Ux,Uy,U2,U3,U4,U5,U6,U7,U8,U9,UC,UD,UE,Tc,Td,Tg,Th,Ti,Tj,Tq,Tr,Ts,Tu,Tw,Tx,T1,T3,T4,Sr,sp,sp2];all_goals tactic=>exact rfl))
         ·have cp:cB (cP (p::r)) 0 3 (r.length+1)=(p::r).map pR:=cp
          have c3:((r.length+1)*3≤(cP (p::r)).length)=True:=eq_true (by rw[lp];simp)
          (sym=>(simp[aM,aN,bJ,bM,bL,Za,Zb,Zc,Zf,Zh,Zl,Zm,Zp,Zq,Zv,Zy,Z3,Z8,ZG,ZH,ZL,ZM,ZW,Ye,Yf,Yu,YX,YZ,Xb,Xi,Xl,Xm,Xo,Xr,Xt,Xv,XJ,XL,XO,XQ,XX,XY,Wb,Wd,We,Wg,Wi,Wm,Ws,Wz,W0,W3,W4,W5,W6,W7,W8,WA,WI,WM,WO,WP,WQ,Vr,Vs,Vt,Vu,Vv,V4,V5,V6,V8,V9,VB,VC,VD,VE,VF,VI,VJ,VK,VM,VP,VS,VU,VY,VZ,Ua,Ub,Uc,Ue,Uf,Ug,Uh,Ul,Un,Ut,Ux,Uy,U2,U3,U4,U5,U6,U7,U8,U9,UA,UB,UC,UD,UE,Tc,Td,Tg,Th,Ti,Tj,Tq,Tr,Ts,Tu,Tw,Tx,T1,T3,T4,TG,Sr,Ss,Su,sp,sp2,cp,c3];all_goals tactic=>exact rfl))
       ·rw[P0]; (sym=>(simp[aM,aN,bJ,bM,bL,Za,YB,YX,Xd,Xr,Xx,Wz,WB,WC,WF,WG,WI,WJ,WK,WM,WO,WP,WQ,WR,WW,WX,Vd,VP,VQ,VR,VY,VZ,Ua,Ub,Uc,Ue,Uj,Uw,U2,U3,U4,U5,T2,TH];all_goals tactic=>exact rfl))
       ·exact rdb
       ·rw[hPP]
        rcases stp with sp|⟨sp,sp2⟩
        ·rcases PP with _|⟨p,r⟩
         ·(sym=>(simp[aM,aN,bJ,bM,bL,Za,Zb,Zf,Zh,Zl,Zm,Zp,Zs,Zv,Zy,Z3,Z8,ZG,ZH,ZX,Ye,Yf,Yu,Wz,W0,W3,WA,VP,VS,VU,VV,Uc,Uh,Uy,Tc,Td,Th,Tq,Tr,Tu,Tw,Tx,T3,T4,sp];all_goals tactic=>exact rfl))
         ·(sym=>(simp[aM,aN,bJ,bM,bL,Za,Zb,Zf,Zh,Zl,Zm,Zp,Zs,Zv,Zy,Z3,Z8,ZG,ZH,ZX,Ye,Yf,Yu,Wz,W0,W3,WA,VP,VS,VU,VV,Ua,Ub,Uh,Uy,Tc,Td,Th,Tq,Tr,Tu,Tw,Tx,T3,T4,sp];all_goals tactic=>exact rfl))
        ·rcases PP with _|⟨p,r⟩
         ·(sym=>(simp[aM,aN,bJ,bM,bL,Za,Zb,Zf,Zh,Zl,Zm,Zp,Zq,Zv,Zy,Z3,Z8,ZG,ZH,ZW,Ye,Yf,Yu,Wz,W0,W3,WA,VP,VS,VU,VV,Uc,Uh,Ux,Uy,Tc,Td,Th,Tq,Tr,Tu,Tw,Tx,T3,T4,sp,sp2];all_goals tactic=>exact rfl))
         ·(sym=>(simp[aM,aN,bJ,bM,bL,Za,Zb,Zf,Zh,Zl,Zm,Zp,Zq,Zv,Zy,Z3,Z8,ZG,ZH,ZW,Ye,Yf,Yu,Wz,W0,W3,WA,VP,VS,VU,VV,Ua,Ub,Uh,Ux,Uy,Tc,Td,Th,Tq,Tr,Tu,Tw,Tx,T3,T4,sp,sp2];all_goals tactic=>exact rfl))
     ·have cb:cB (cQ (b::q)) 0 2 (q.length+1)=(b::q).map qR:=cb
      have b3:((q.length+1)*2≤(cQ (b::q)).length)=True:=eq_true (by rw[lb];simp)
      sym =>
       simp[aM,aN,bJ,bM,bL,Za,Zb,Zf,Zh,Zl,Zm,Zp,Zq,Zv,Zy,Z3,Z8,ZG,ZH,ZW,Ye,Yf,Yu,Wz,W0,W3,WA,VP,VS,VU,VY,Ua,Ub,Uh,Ux,Uy,Tc,Td,Th,Tq,Tr,Tu,Tv,Tw,Tx,T1,T3,T4,sb,sb2]
       tactic =>
        unfold uL
        rw[aF mp (fun j=>[.pt 0 0,.pt 1 0,I l.k,.pt 2 0,I (j:Nat)]) (fun j=>gLa l S N X (b::q) (rX l j)++gLb (b::q) (rX l j))]
        ·rw[hPP]
         rcases stp with sp|⟨sp,sp2⟩
         ·rcases PP with _|⟨p,r⟩
          ·(sym=>(simp[aM,aN,bJ,bM,bL,Za,Zb,Zc,Zf,Zh,Zl,Zm,Zp,Zs,Zv,Zy,Z3,Z8,ZG,ZH,ZL,ZM,ZX,Ye,Yf,Yu,YX,YZ,Xb,Xi,Xl,Xm,Xo,Xr,Xt,Xv,XJ,XL,XO,XQ,XX,XY,Wb,Wd,We,Wg,Wi,Wm,Ws,Wz,W0,W3,W4,W5,W6,W7,W8,WA,WI,WM,WO,WP,WQ,Vr,Vs,Vt,Vu,Vv,V4,V5,V6,V8,V9,VB,VC,VD,VE,VF,VI,VJ,VK,VM,VP,VS,VU,VY,VZ,Ua,Ub,Uc,Ue,Uf,Ug,Uh,Ul,Un,Ut,Uy,U2,U3,U4,U5,U6,U7,U8,U9,UA,UB,UC,UD,UE,Tc,Td,Tg,Th,Ti,Tj,Tq,Tr,Ts,Tu,Tw,Tx,T1,T3,T4,TG,Sr,Ss,Su,sp,cb,b3];all_goals tactic=>exact rfl))
          ·have cp:cB (cP (p::r)) 0 3 (r.length+1)=(p::r).map pR:=cp
           have c3:((r.length+1)*3≤(cP (p::r)).length)=True:=eq_true (by rw[lp];simp)
           (sym=>(simp[aM,aN,bJ,bM,bL,Za,Zb,Zc,Zf,Zh,Zl,Zm,Zp,Zs,Zv,Zy,Z3,Z8,ZG,ZH,ZL,ZM,ZX,Ye,Yf,Yu,YX,YZ,Xb,Xi,Xl,Xm,Xr,Xt,Xv,XJ,XL,XO,XX,XY,Wa,Wb,We,Wg,Wi,Ws,Wz,W0,W3,W4,W5,W6,W7,W8,WA,WI,WM,WO,WP,WQ,Vr,Vs,Vt,Vu,Vv,V3,V4,V5,V6,V8,V9,VB,VC,VD,VE,VF,VI,VJ,VK,VM,VP,VS,VU,VY,VZ,Ua,Ub,Uc,Ue,Uf,Ug,Uh,Ul,Un,Ut,Uu,Uy,U2,U3,U4,U5,U6,U7,U8,U9,UA,UB,UC,UD,UE,Tc,Td,Tg,Th,Ti,Tj,Tq,Tr,Ts,Tu,Tw,Tx,T1,T3,T4,TG,Sr,Ss,Su,sp,cp,c3,cb,b3];all_goals tactic=>exact rfl))
         ·rcases PP with _|⟨p,r⟩
          ·(sym=>(simp[aM,aN,bJ,bM,bL,Za,Zb,Zc,Zf,Zh,Zl,Zm,Zp,Zq,Zv,Zy,Z3,Z8,ZG,ZH,ZL,ZM,ZW,Ye,Yf,Yu,YX,YZ,Xb,Xi,Xl,Xm,Xo,Xr,Xt,Xv,XJ,XL,XO,XQ,XX,XY,Wb,Wd,We,Wg,Wi,Wm,Ws,Wz,W0,W3,W4,W5,W6,W7,W8,WA,WI,WM,WO,WP,WQ,Vr,Vs,Vt,Vu,Vv,V4,V5,V6,V8,V9,VB,VC,VD,VE,VF,VI,VJ,VK,VM,VP,VS,VU,VY,VZ,Ua,Ub,Uc,Ue,Uf,Ug,Uh,Ul,Un,Ut,Ux,Uy,U2,U3,U4,U5,U6,U7,U8,U9,UA,UB,UC,UD,UE,Tc,Td,Tg,Th,Ti,Tj,Tq,Tr,Ts,Tu,Tw,Tx,T1,T3,T4,TG,Sr,Ss,Su,sp,sp2,cb,b3];all_goals tactic=>exact rfl))
          ·have cp:cB (cP (p::r)) 0 3 (r.length+1)=(p::r).map pR:=cp
           have c3:((r.length+1)*3≤(cP (p::r)).length)=True:=eq_true (by rw[lp];simp)
           (sym=>(simp[aM,aN,bJ,bM,bL,Za,Zb,Zc,Zf,Zh,Zl,Zm,Zp,Zq,Zv,Zy,Z3,Z8,ZG,ZH,ZL,ZM,ZW,Ye,Yf,Yu,YX,YZ,Xb,Xi,Xl,Xm,Xr,Xt,Xv,XJ,XL,XO,XX,XY,Wa,Wb,We,Wg,Wi,Ws,Wz,W0,W3,W4,W5,W6,W7,W8,WA,WI,WM,WO,WP,WQ,Vr,Vs,Vt,Vu,Vv,V3,V4,V5,V6,V8,V9,VB,VC,VD,VE,VF,VI,VJ,VK,VM,VP,VS,VU,VY,VZ,Ua,Ub,Uc,Ue,Uf,Ug,Uh,Ul,Un,Ut,Uu,Ux,Uy,U2,U3,U4,U5,U6,U7,U8,U9,UA,UB,UC,UD,UE,Tc,Td,Tg,Th,Ti,Tj,Tq,Tr,Ts,Tu,Tw,Tx,T1,T3,T4,TG,Sr,Ss,Su,sp,sp2,cp,c3,cb,b3];all_goals tactic=>exact rfl))
        ·rw[P0]; (sym=>(simp[aM,aN,bJ,bM,bL,Za,YB,YX,Xc,Xd,Xe,Xr,Xw,Xx,Xy,Wz,WB,WC,WF,WG,WI,WJ,WK,WM,WO,WP,WQ,WR,WW,WX,WY,Vd,Ve,VP,VQ,VR,VY,VZ,Ua,Ub,Uc,Ue,Uj,Uw,U2,U3,U4,U5,T2,TH];all_goals tactic=>exact rfl))
        ·exact rdb
        ·rw[hPP]
         rcases stp with sp|⟨sp,sp2⟩
         ·rcases PP with _|⟨p,r⟩
          ·(sym=>(simp[aM,aN,bJ,bM,bL,Za,Zb,Zf,Zh,Zl,Zm,Zp,Zs,Zv,Zy,Z3,Z8,ZG,ZH,ZX,Ye,Yf,Yu,Wz,W0,W3,WA,VP,VS,VU,VV,Ua,Ub,Uh,Uy,Tc,Td,Th,Tq,Tr,Tu,Tw,Tx,T3,T4,sp];all_goals tactic=>exact rfl))
          ·(sym=>(simp[aM,aN,bJ,bM,bL,Za,Zb,Zf,Zh,Zl,Zm,Zp,Zs,Zv,Zy,Z3,Z8,ZG,ZH,ZX,Ye,Yf,Yu,Wz,W0,W3,WA,VP,VS,VU,VV,Ua,Ub,Uh,Uy,Tc,Td,Th,Tq,Tr,Tu,Tw,Tx,T3,T4,sp];all_goals tactic=>exact rfl))
         ·rcases PP with _|⟨p,r⟩
          ·(sym=>(simp[aM,aN,bJ,bM,bL,Za,Zb,Zf,Zh,Zl,Zm,Zp,Zq,Zv,Zy,Z3,Z8,ZG,ZH,ZW,Ye,Yf,Yu,Wz,W0,W3,WA,VP,VS,VU,VV,Ua,Ub,Uh,Ux,Uy,Tc,Td,Th,Tq,Tr,Tu,Tw,Tx,T3,T4,sp,sp2];all_goals tactic=>exact rfl))
          ·(sym=>(simp[aM,aN,bJ,bM,bL,Za,Zb,Zf,Zh,Zl,Zm,Zp,Zq,Zv,Zy,Z3,Z8,ZG,ZH,ZW,Ye,Yf,Yu,Wz,W0,W3,WA,VP,VS,VU,VV,Ua,Ub,Uh,Ux,Uy,Tc,Td,Th,Tq,Tr,Tu,Tw,Tx,T3,T4,sp,sp2];all_goals tactic=>exact rfl))
   ·rw[B0]; (sym=>(simp[aM,aN,bJ,bM,bL,Za,YB,YX,Xd,Xr,Xx,Wz,WB,WC,WF,WG,WI,WJ,WK,WM,WO,WP,WQ,WR,WW,WX,Vd,VQ,VR,VY,VZ,Ua,Ub,Uc,Ue,Uj,Uw,U2,U3,U4,U5,T2,TH];all_goals tactic=>exact rfl))
   ·exact rda
   ·rw[hBB]
    rcases stb with sb|⟨sb,sb2⟩
    ·rcases BB with _|⟨b,q⟩
     ·(sym=>(simp[aM,aN,bJ,bM,bL,Za,Zb,Zf,Zh,Zl,Zm,Zp,Zs,Zv,Zy,Z3,Z8,ZG,ZH,ZX,Ye,Yf,Yu,Wz,W0,W3,WA,VP,VS,VU,VV,Uc,Uh,Uy,Tc,Td,Th,Tq,Tr,Tu,Tw,Tx,T3,T4,sb];all_goals tactic=>exact rfl))
     ·(sym=>(simp[aM,aN,bJ,bM,bL,Za,Zb,Zf,Zh,Zl,Zm,Zp,Zs,Zv,Zy,Z3,Z8,ZG,ZH,ZX,Ye,Yf,Yu,Wz,W0,W3,WA,VP,VS,VU,VV,Ua,Ub,Uh,Uy,Tc,Td,Th,Tq,Tr,Tu,Tw,Tx,T3,T4,sb];all_goals tactic=>exact rfl))
    ·rcases BB with _|⟨b,q⟩
     ·(sym=>(simp[aM,aN,bJ,bM,bL,Za,Zb,Zf,Zh,Zl,Zm,Zp,Zq,Zv,Zy,Z3,Z8,ZG,ZH,ZW,Ye,Yf,Yu,Wz,W0,W3,WA,VP,VS,VU,VV,Uc,Uh,Ux,Uy,Tc,Td,Th,Tq,Tr,Tu,Tw,Tx,T3,T4,sb,sb2];all_goals tactic=>exact rfl))
     ·(sym=>(simp[aM,aN,bJ,bM,bL,Za,Zb,Zf,Zh,Zl,Zm,Zp,Zq,Zv,Zy,Z3,Z8,ZG,ZH,ZW,Ye,Yf,Yu,Wz,W0,W3,WA,VP,VS,VU,VV,Ua,Ub,Uh,Ux,Uy,Tc,Td,Th,Tq,Tr,Tu,Tw,Tx,T3,T4,sb,sb2];all_goals tactic=>exact rfl))
def dr (a:Nat):Nat→Nat
 | 0=>a
 | j+1=>dr a j&&&(dr a j-1)
theorem yK {a:Nat} (ha:a<65536):∀ j,dr a j<65536
 | 0=>ha
 | j+1=>Nat.lt_of_le_of_lt Nat.and_le_left (yK ha j)
theorem aGF {a:Nat} (ha:a<65536):∀ j,j≤bB a→el (dr a j)=(el a).drop j
 | 0,_=>rfl
 | j+1,hj=>by
   have ih:=aGF ha j (by omega)
   have h0:dr a j≠0:=by
    intro h
    rw[(aIy (yK ha j)).2 h]at ih
    have:=congrArg List.length ih
    unfold bB at hj
    simp at this
    omega
   have h1:=qY (yK ha j) h0
   rw[ih]at h1
   show el (dr a j&&&(dr a j-1))=_
   have h2:=congrArg List.tail h1
   simp only[List.tail_drop,List.tail_cons]at h2
   exact h2.symm
theorem aLt {a:Nat} (ha:a<65536) {j:Nat} (hj:j<bB a):dr a j≠0:=by
 intro h
 have ih:=aGF ha j (by omega)
 rw[(aIy (yK ha j)).2 h]at ih
 have:=congrArg List.length ih
 unfold bB at hj
 simp at this
 omega
theorem aKf {a:Nat} (ha:a<65536):dr a (bB a)=0:=by
 have ih:=aGF ha (bB a) (Nat.le_refl _)
 rw[show bB a=(el a).length from rfl,List.drop_length]at ih
 exact(aIy (yK ha _)).1 ih
theorem aHE {a:Nat} (ha:a<65536) {j:Nat} (hj:j<bB a) :
 aW 0 [0,3] (execW aA 42 0 none (match aCJ with | .loop _ a=>a|c=>c) (aU [0,3] [I (dr a j:Nat),I (j:Nat)]) [])=some ([I (dr a (j+1):Nat),I (j+1:Nat)],[]):=by
 have h0:=aLt ha hj
 have h1:=yK ha j
 have h2:=kD a
 have a0:((dr a j:Int)=0)=False:=eq_false (by omega)
 have a1:IntKind.i64.wrap ((dr a j:Int)-1)=((dr a j-1:Nat):Int):=by rw[aD (by omega) (by omega)];omega
 have a2:=jX bV (a:=dr a j) (b:=dr a j-1) (by omega) (by omega)
 have a3:IntKind.i64.wrap ((j:Int)+1)=(j:Int)+1:=aD (by omega) (by omega)
 have a3:IntKind.i64.wrap ((j:Int)+1)=((j+1:Nat):Int):=by rw[a3];omega
 rw[show dr a (j+1)=dr a j&&&(dr a j-1) from rfl]
 generalize dr a j&&&(dr a j-1)=z at *
 generalize dr a j-1=y at *
 generalize dr a j=d at *
 unfold aCJ
 dsimp only
 (sym=>(simp[Za,Zb,Zf,Zh,Zl,Zm,Zv,Z3,Yl,Ym,Yo,Yt,YX,Xr,WI,WM,WN,WP,WQ,VP,VQ,VR,VS,VT,VY,VZ,Uc,Ue,Uq,Uy,U1,U2,U3,U4,U5,Tq,Tr,Tt,Tv,Tw,Tz,T2,T3,T4,a0,a1,a2,a3];all_goals tactic=>exact rfl))
theorem w42 {a:Nat} (ha:a<65536):runW aA 42 [I a] []=some (I (bB a:Nat),[]):=by
 have z:=aKf ha
 have d0:dr a 0=a:=rfl
 rw[r42 (by simp)];unfold x42;dsimp only
 sym =>
  simp[Zb,Zf,Zh,Zl,Zv,We,VX,Ug,UC,UD,Tr,Tv,Tw,T4]
  tactic =>
   unfold aCJ
   rw[aF (bB a) (fun j=>[I (dr a j:Nat),I (j:Nat)]) (fun _=>[])]
   ·rw[z]; (sym=>(simp[Za,Zb,Zf,Zh,Zl,Zm,Zv,Z3,Yt,YB,YX,Xr,XJ,We,WI,WM,WN,WP,WQ,Vu,V8,V9,VB,VC,VD,VE,VF,VI,VJ,VK,VL,VP,VS,VU,VZ,Uc,Ue,Uo,Ux,U1,U2,U3,Tq,Tr,Ts,Tu,Tw,Tx,T1,T3,T4,Sr];all_goals tactic=>exact rfl))
   ·rw[d0]; (sym=>(simp[Za,YB,YX,Xr,W9,WI,WM,WN,WP,WQ,VN,VQ,VR,VY,VZ,Uc,Ue,U1,U2,U3,U4,U5,T2];all_goals tactic=>exact rfl))
   ·exact fun j hj=>aHE ha hj
   ·rw[z]; (sym=>(simp[Za,Zb,Zf,Zh,Zl,Zm,Zv,Z3,Yt,YB,VP,VS,VU,VV,Uo,Ux,Tq,Tr,Tu,Tw,Tx,T3,T4];all_goals tactic=>exact rfl))
def fC (n:Nat) (st:Nat→Nat):List AV:=(List.range n).map fun k=>I (st k)
theorem jT (n:Nat) (st:Nat→Nat):(fC n st).length=n:=by simp[fC]
theorem qX {n:Nat} {st:Nat→Nat} {k:Nat} (h:k<n):(fC n st)[k]?=some (I (st k)):=by simp[fC,h]
theorem zV {n:Nat} {st:Nat→Nat} {k v:Nat} (h:k<n):bW (fC n st) k [I (v:Nat)]=fC n (kU st k v):=by
 rw[hO (by rw[jT];exact h)]
 apply List.ext_getElem?
 intro j
 rw[List.getElem?_set]
 by_cases hj:k=j
 ·subst hj
  rw[if_pos rfl,if_pos (by rw[jT];exact h),qX h,kU,if_pos rfl]
 ·rw[if_neg hj]
  by_cases hl:j<n
  ·rw[qX hl,qX hl,kU,if_neg (by omega)]
  ·rw[List.getElem?_eq_none (by rw[jT];omega),List.getElem?_eq_none (by rw[jT];omega)]
theorem bP {n:Nat} {st:Nat→Nat}:eO (fC n st)=true:=by
 unfold fC
 generalize List.range n=l
 induction l with
 | nil=>rfl
 | cons a l ih=>simp only[List.map_cons,eO,ih];rfl
theorem aIt (n:Nat):(List.replicate n (I 0))=fC n fun _=>0:=by
 apply List.ext_getElem?
 intro j
 by_cases hl:j<n
 ·rw[qX hl];simp[hl]
 ·rw[List.getElem?_eq_none (by simpa using hl),List.getElem?_eq_none (by rw[jT];omega)]
abbrev jS (x:Vn) (st:Nat→Nat):XH:=[some (.blk true (.cells true x.c)),some (.blk true (.cells true (fC x.F st)))]
theorem aAC {x:Vn} (ok:x.Ok) (s:Nat) {i:Nat} (hi:i<x.bs.length) :
 aW 0 [1,2,5,18,19,20] (execW aA 40 0 none (match aAl with | .loop _ a=>a|c=>c) (aU [1,2,5,18,19,20] [I (s:Nat),.pt 0 0,.sl 1 0 1 x.F,rB (x.bs.map bI),I x.bs.length,I (i:Nat)]) (jS x (xA x i))) =
  some ([I (s:Nat),.pt 0 0,.sl 1 0 1 x.F,rB (x.bs.map bI),I x.bs.length,I (i+1:Nat)],jS x (xA x (i+1))):=by
 obtain⟨b,hx⟩:=cJ hi
 have hb:=ok.b b (List.mem_of_getElem? hx)
 have hF:=ok.F16
 have hp:=aV hF
 have a1:=eB hi
 have a2:=eG hi (by have:=ok.nb;omega)
 have l0:=aBF ok i
 have up:xA x (i+1)=addS (addS (xA x i) b.1 b.2) b.2 b.1:=jA hx _
 rw[up]
 generalize xA x i=st at *
 have e1:=iI bV (i:=b.1) (by omega)
 have e2:=iI bV (i:=b.2) (by omega)
 have z1:((b.1:Int)<0)=False:=eq_false (by omega)
 have z2:((b.2:Int)<0)=False:=eq_false (by omega)
 have n1:((0:Int)≤b.1)=True:=eq_true (by omega)
 have n2:((0:Int)≤b.2)=True:=eq_true (by omega)
 have m1:((b.1:Int)<x.F)=True:=eq_true (by omega)
 have m2:((b.2:Int)<x.F)=True:=eq_true (by omega)
 have p1:(2:Nat)^b.1≤2^16:=Nat.pow_le_pow_right (by omega) (by omega)
 have p2:(2:Nat)^b.2≤2^16:=Nat.pow_le_pow_right (by omega) (by omega)
 have k1:=l0 b.1
 have k2:=l0 b.2
 have o1:=cW bV (a:=st b.1) (b:=2^b.2) (by omega) (by omega)
 have q1:=qX (n:=x.F) (st:=st) (k:=b.1) hb.1
 have s1:=zV (n:=x.F) (st:=st) (k:=b.1) (v:=st b.1|||2^b.2) hb.1
 have q2:=qX (n:=x.F) (st:=addS st b.1 b.2) (k:=b.2) hb.2.1
 have r2:addS st b.1 b.2 b.2=st b.2:=by unfold addS kU;rw[if_neg (fun h=>hb.2.2 h.symm)]
 have o2:=cW bV (a:=st b.2) (b:=2^b.1) (by omega) (by omega)
 have s2:=zV (n:=x.F) (st:=addS st b.1 b.2) (k:=b.2) (v:=st b.2|||2^b.1) hb.2.1
 rw[show kU st b.1 (st b.1|||2^b.2)=addS st b.1 b.2 from rfl]at s1
 rw[show kU (addS st b.1 b.2) b.2 (st b.2|||2^b.1)=addS (addS st b.1 b.2) b.2 b.1 by rw[addS.eq_def (addS st b.1 b.2),r2]]at s2
 rw[r2]at q2
 have y1:=jT x.F st
 have y2:=jT x.F (addS st b.1 b.2)
 have t1:(b.1+1≤x.F)=True:=eq_true (by omega)
 have t2:(b.2+1≤x.F)=True:=eq_true (by omega)
 generalize addS (addS st b.1 b.2) b.2 b.1=st2 at *
 generalize addS st b.1 b.2=st1 at *
 unfold aAl
 dsimp only
 (sym=>(simp[bP,Za,Zb,Zc,Zd,Ze,Zf,Zh,Zi,Zl,Zm,Zv,Zw,Z3,Z9,ZA,ZH,ZI,ZK,ZL,ZM,ZN,ZO,Yh,Yi,Yj,Yl,Yp,Yq,Yu,Yy,Yz,YA,YC,YF,YQ,YX,Xb,Xc,Xd,Xi,Xr,Xv,Xw,Xx,Wq,Ws,Wy,Wz,W0,W3,W4,W5,W6,W7,W8,WA,WB,WC,WF,WG,WI,WJ,WK,WM,WO,WP,WQ,WR,WW,WX,Vd,Vk,VP,VQ,VR,VS,VT,VY,VZ,Ua,Ub,Uc,Ue,Uf,Ug,Uh,Ui,Uj,Ul,Uq,Ur,Ut,Uw,Ux,Uz,U0,U2,U3,U4,U5,U6,U7,UE,Tc,Td,Te,Tf,Tg,Th,Ti,Tj,Tq,Tr,Tt,Tv,Tw,Tz,T2,T3,T4,TF,TG,TH,Sn,a1,a2,hx,e1,e2,z1,z2,n1,n2,m1,m2,o1,o2,q1,q2,s1,s2,y1,y2,t1,t2];all_goals tactic=>exact rfl))
theorem aAB {x:Vn} (ok:x.Ok) (s:Nat) {i:Nat} (hi:i<x.ps.length) :
 aW 0 [1,2,5,46,47,48] (execW aA 40 0 none (match aAk with | .loop _ a=>a|c=>c) (aU [1,2,5,46,47,48] [I (s:Nat),.pt 0 0,.sl 1 0 1 x.F,rP (x.ps.map pI),I x.ps.length,I (i:Nat)]) (jS x (wT x i))) =
  some ([I (s:Nat),.pt 0 0,.sl 1 0 1 x.F,rP (x.ps.map pI),I x.ps.length,I (i+1:Nat)],jS x (wT x (i+1))):=by
 obtain⟨b,hx⟩:=cJ hi
 have hb:=ok.p b (List.mem_of_getElem? hx)
 have hF:=ok.F16
 have hp:=aV hF
 have a1:=eB hi
 have a2:=eG hi (by have:=ok.np;omega)
 have l0:=dJ ok i
 have up:wT x (i+1)=addS (wT x i) b.2.1 b.2.2:=jA hx _
 rw[up]
 generalize wT x i=st at *
 have e2:=iI bV (i:=b.2.2) (by omega)
 have z2:((b.2.2:Int)<0)=False:=eq_false (by omega)
 have n1:((0:Int)≤b.2.1)=True:=eq_true (by omega)
 have m1:((b.2.1:Int)<x.F)=True:=eq_true (by omega)
 have p2:(2:Nat)^b.2.2≤2^16:=Nat.pow_le_pow_right (by omega) (by omega)
 have k1:=l0 b.2.1
 have o1:=cW bV (a:=st b.2.1) (b:=2^b.2.2) (by omega) (by omega)
 have q1:=qX (n:=x.F) (st:=st) (k:=b.2.1) hb.2.1
 have s1:=zV (n:=x.F) (st:=st) (k:=b.2.1) (v:=st b.2.1|||2^b.2.2) hb.2.1
 rw[show kU st b.2.1 (st b.2.1|||2^b.2.2)=addS st b.2.1 b.2.2 from rfl]at s1
 have y1:=jT x.F st
 have t1:(b.2.1+1≤x.F)=True:=eq_true (by omega)
 generalize addS st b.2.1 b.2.2=st1 at *
 unfold aAk
 dsimp only
 (sym=>(simp[bP,Za,Zb,Zc,Zd,Ze,Zf,Zh,Zi,Zl,Zm,Zv,Zw,Z3,Z8,ZA,ZH,ZI,ZK,ZL,ZM,ZN,ZO,Ye,Yh,Yi,Yj,Yl,Yp,Yq,Yu,Yy,Yz,YX,Xb,Xc,Xd,Xi,Xr,Xv,Xw,Xx,Wq,Ws,Wy,Wz,W0,W3,W4,W5,W6,W7,W8,WA,WB,WC,WF,WG,WI,WJ,WK,WM,WO,WP,WQ,WR,WW,WX,Vd,Vk,VP,VQ,VR,VS,VT,VY,VZ,Ua,Ub,Uc,Ue,Uf,Ug,Uh,Ui,Uj,Ul,Uq,Ur,Ut,Uw,Ux,Uz,U0,U2,U3,U4,U5,U6,U7,UE,Tc,Td,Te,Tf,Tg,Th,Ti,Tj,Tq,Tr,Tt,Tv,Tw,Tz,T2,T3,T4,TF,TG,TH,Sn,a1,a2,hx,e2,z2,n1,m1,o1,q1,s1,y1,t1];all_goals tactic=>exact rfl))
def wA (st:Nat→Nat) (cl m i:Nat):Nat:=(List.range i).foldl (jM st cl) m
theorem aAo (st:Nat→Nat) (cl m i:Nat):wA st cl m (i+1)=jM st cl (wA st cl m i) i:=by rw[wA,List.range_succ,List.foldl_append];rfl
theorem aJu {st:Nat→Nat} {cl F m:Nat} (hst:∀ k,st k<2^F) (a:Nat) (h:m<2^F):jM st cl m a<2^F:=by
 unfold jM
 split
 ·exact Nat.or_lt_two_pow h (Nat.lt_of_le_of_lt (gI _ _) (hst a))
 ·exact h
theorem aCR {st:Nat→Nat} {cl F m:Nat} (hst:∀ k,st k<2^F) (h:m<2^F):∀ i,wA st cl m i<2^F
 | 0=>h
 | i+1=>by rw[aAo];exact aJu hst _ (aCR hst h i)
theorem yV {st:Nat→Nat} {s cl m:Nat} (hcl:cl<65536) (h:∀ i,m.testBit i=true→Rch st s cl i):∀ n i,(wA st cl m n).testBit i=true→Rch st s cl i
 | 0,i,hi=>h i hi
 | n+1,i,hi=>by
   rw[aAo]at hi
   unfold jM at hi
   split at hi
   ·next ha =>
    rw[Nat.testBit_or,Bool.or_eq_true]at hi
    rcases hi with hi|hi
    ·exact yV hcl h n i hi
    ·rw[bT (by omega)]at hi
     simp only[Bool.and_eq_true,Bool.not_eq_true']at hi
     exact .step (yV hcl h n n ha) hi.1 hi.2.2
   ·exact yV hcl h n i hi
theorem aCQ (st:Nat→Nat) (cl m:Nat) {i j:Nat} (h:i≤j):sub (wA st cl m i) (wA st cl m j):=by
 induction j with
 | zero=>obtain rfl:i=0:=by omega
         exact dC _
 | succ j ih =>
   by_cases hj:i=j+1
   ·subst hj;exact dC _
   ·rw[aAo];exact nP (ih (by omega)) (vG _ _)
theorem aHf {st:Nat→Nat} {cl F m a b:Nat} (hF:F≤16) (hcl:cl<65536) (hst:∀ k,st k<2^F) (hm:m<2^F) (ha:m.testBit a=true) (hb:(st a).testBit b=true) (hc:cl.testBit b=false):(wA st cl m F).testBit b=true:=by
 have haF:=eZ hm ha
 have hbF:=eZ (hst a) hb
 refine aCQ st cl m (show a+1≤F by omega) b ?_
 rw[aAo]
 have h1:(wA st cl m a).testBit a=true:=aCQ st cl m (Nat.zero_le a) a ha
 unfold jM
 rw[if_pos h1,Nat.testBit_or,bT (by omega),hb,hc]
 simp;omega
theorem aDJ {x:Vn} (ok:x.Ok) {cl:Nat} (hcl:cl<65536):qQ (fun m=>wA (cO x) cl m x.F) x.F (fP x.sick cl)=dZ (cO x) x.sick cl :=
 aBZ ok.F16 (dJ ok _) ok.s hcl (fun m=>nX _ m) (fun m hm=>aCR (dJ ok _) hm _) (fun m h=>yV hcl h _) (fun m a b hm ha hb hc=>aHf ok.F16 hcl (dJ ok _) hm ha hb hc)
section
variable {x:Vn} (ok:x.Ok) {s:Nat} (hs:s<65536)
abbrev s40 (x:Vn) (s m:Nat) (r a:Nat):List AV:=[I (s:Nat),.pt 0 0,.sl 1 0 1 x.F,I (m:Nat),I (r:Nat),.sl 1 0 1 x.F,I x.F,I (a:Nat)]
abbrev t40 (x:Vn) (s m:Nat) (r:Nat):List AV:=[I (s:Nat),.pt 0 0,.sl 1 0 1 x.F,I (m:Nat),I (r:Nat)]
include ok hs in
theorem aFs {m r a:Nat} (hm:m<2^x.F) (ha:a<x.F) :
 aW 0 [1,2,5,10,11,73,74,75] (execW aA 40 0 none (match aCK with | .loop _ a=>a|c=>c) (aU [1,2,5,10,11,73,74,75] (s40 x s m r a)) (jS x (cO x)))=some (s40 x s (jM (cO x) s m a) r (a+1),jS x (cO x)):=by
 have hF:=ok.F16
 have hp:=aV hF
 have a1:((a:Int)<(x.F:Int))=True:=eq_true (by omega)
 have a2:=eG ha (by omega)
 have n1:((0:Int)≤a)=True:=eq_true (by omega)
 have n0:((a:Int)<0)=False:=eq_false (by omega)
 have k1:=dJ ok x.ps.length a
 rw[show wT x x.ps.length=cO x from rfl]at k1
 have q1:=qX (n:=x.F) (st:=cO x) ha
 have y1:=jT x.F (cO x)
 have e:=aGW bV (a:=m) (i:=a) (by omega) (by omega)
 have o1:=iP bV (a:=cO x a) (b:=s) (by omega) (by omega)
 have dl:=gI (cO x a) s
 have o2:=cW bV (a:=m) (b:=fP (cO x a) s) (by omega) (by omega)
 unfold jM
 generalize fP (cO x a) s=dd at *
 generalize cO x a=sa at *
 unfold aCK
 dsimp only
 cases hb:m.testBit a
 ·rw[hb]at e
  have e:=e.trans (eq_false (by simp))
  simp only[Bool.false_eq_true,if_false]
  (sym=>(simp[bP,Za,Zb,Zf,Zh,Zl,Zm,Zv,Z3,ZA,ZH,Yh,Yl,Yo,Yr,Ys,Yu,Yy,Yz,YX,Xc,Xd,Xr,Xw,Xx,Wz,W0,W3,WB,WC,WF,WG,WI,WJ,WK,WM,WO,WP,WQ,WR,WW,WX,Vd,VP,VQ,VR,VS,VT,VU,VY,VZ,Ua,Ub,Uc,Ue,Uj,Ut,Uv,Uw,Ux,Uy,U2,U3,U4,U5,Tc,Td,Th,Tq,Tr,Tt,Tv,Tw,Tz,T2,T3,T4,TF,TG,TH,a1,a2,n1,n0,q1,y1,e,o1,o2];all_goals tactic=>exact rfl))
 ·rw[hb]at e
  have e:=e.trans (eq_true rfl)
  simp only[if_true]
  (sym=>(simp[bP,Za,Zb,Zf,Zh,Zl,Zm,Zv,Z3,ZA,ZH,Yh,Yl,Yo,Yp,Yr,Ys,Yu,Yy,Yz,YX,Xc,Xd,Xr,Xw,Xx,Wz,W0,W3,WB,WC,WF,WG,WI,WJ,WK,WM,WO,WP,WQ,WR,WW,WX,Vd,VP,VQ,VR,VS,VT,VY,VZ,Ua,Ub,Uc,Ue,Uj,Ut,Uv,Uw,Ux,U2,U3,U4,U5,Tc,Td,Th,Tq,Tr,Tt,Tv,Tw,Tz,T2,T3,T4,TF,TG,TH,S8,a1,a2,n1,n0,q1,y1,e,o1,o2];all_goals tactic=>exact rfl))
include ok hs in
theorem aFr {m r:Nat} (hm:m<2^x.F) (hr:r<x.F) :
 aW 0 [1,2,5,10,11] (execW aA 40 0 none (match aAj with | .loop _ a=>a|c=>c) (aU [1,2,5,10,11] (t40 x s m r)) (jS x (cO x)))=some (t40 x s (wA (cO x) s m x.F) (r+1),jS x (cO x)):=by
 have hF:=ok.F16
 have a1:((r:Int)<(x.F:Int))=True:=eq_true (by omega)
 have a2:=eG hr (by omega)
 have z:=Tb (n:=(x.F:Int))
 have rd:=fun a (ha:a<x.F)=>aFs ok hs (m:=wA (cO x) s m a) (r:=r) (aCR (dJ ok _) hm a) ha
 have w0:wA (cO x) s m 0=m:=rfl
 generalize hw:wA (cO x) s m x.F=mF at *
 unfold aAj
 dsimp only
 sym =>
  simp[bP,Za,Zb,Zf,Zh,Zl,Zm,Zv,Z3,Z8,ZG,ZH,Ye,Yg,Yu,Wz,W0,W3,WA,VP,VS,VT,Ux,Tc,Td,Th,Tq,Tr,Tt,Tv,Tw,T3,T4,a1,a2]
  tactic =>
   unfold aCK
   rw[aF x.F (fun a=>s40 x s (wA (cO x) s m a) r a) (fun _=>jS x (cO x))]
   ·rw[hw]; (sym=>(simp[bP,Za,Zb,Zf,Zh,Zl,Zm,Zv,Z3,Yl,Yu,YX,Xc,Xd,Xr,Xw,Xx,Wz,WB,WC,WF,WG,WI,WJ,WK,WM,WO,WP,WQ,WR,WW,WX,Vd,VP,VQ,VR,VS,VU,VY,VZ,Ua,Ub,Uc,Ue,Uj,Uw,Uy,U2,U3,U4,U5,Tb,Tq,Tr,Tu,Tw,Tx,Tz,T1,T2,T3,T4,TH,z,a2];all_goals tactic=>exact rfl))
   ·rw[w0]; (sym=>(simp[bP,Za,YB,YX,Xc,Xd,Xr,Xw,Xx,Wz,WB,WC,WF,WG,WI,WJ,WK,WM,WO,WP,WQ,WR,WW,WX,Vd,VP,VQ,VR,VY,VZ,Ua,Ub,Uc,Ue,Uj,Uv,Uw,U2,U3,U4,U5,T2,TH];all_goals tactic=>exact rfl))
   ·intro a ha
    rw[aAo]
    exact rd a ha
   ·rw[hw]; (sym=>(simp[bP,Za,Zb,Zf,Zh,Zl,Zm,Z3,Yu,VP,VS,VU,VV,Uy,Tb,Tq,Tr,Tu,Tw,Tx,T3,z,a2];all_goals tactic=>exact rfl))
include ok hs in
theorem w40:runW aA 40 [.agg x.c,I (s:Nat)] []=some (.bool (!jJ (cO x) x.sick x.nur s),[]):=by
 have hF:=ok.F16
 have hF1:=ok.F1
 have hp:=aV hF
 have h1:=ok.s
 have h2:=ok.n
 have zb:=Tb (n:=(x.bs.length:Int))
 have zp:=Tb (n:=(x.ps.length:Int))
 have zF:=Tb (n:=(x.F:Int))
 have o1:=iP bV (a:=x.sick) (b:=s) (by omega) (by omega)
 have it:∀ k,qQ (fun m=>wA (cO x) s m x.F) k (fP x.sick s)<2^x.F:=fun k=>by
  induction k with
  | zero=>exact sJ ok.s
  | succ k ih=>exact aCR (dJ ok _) ih _
 have hr:=aDJ ok hs
 have hl:=it x.F
 rw[hr]at hl
 have o2:=jX bV (a:=dZ (cO x) x.sick s) (b:=x.nur) (by omega) (by omega)
 have m0:List.map (AV.int .i64) (List.replicate x.F 0)=fC x.F (xA x 0):=by
  rw[show fC x.F (xA x 0)=fC x.F (fun _=>0) from rfl,←aIt];simp
 have m1:wT x 0=xA x x.bs.length:=rfl
 have m2:wT x x.ps.length=cO x:=rfl
 have hf:(List.replicate x.F [I 0]).flatten=fC x.F (fun _=>0):=by rw[←aIt];simp
 have c1:((x.F:Int)<0)=False:=eq_false (by omega)
 have c2:((x.F:Int)≤(x.F:Int))=True:=eq_true (by omega)
 have c3:(8*(x.F:Int)≤281474976710656)=True:=eq_true (by omega)
 have c4:((x.F:Int)≤9223372036854775807)=True:=eq_true (by omega)
 have c5:((x.F:Int)).toNat=x.F:=Int.toNat_natCast _
 have c6:((0:Int)≤(x.F:Int))=True:=eq_true (by omega)
 have i0:qQ (fun m=>wA (cO x) s m x.F) 0 (fP x.sick s)=fP x.sick s:=rfl
 have rdd:=fun r (hr:r<x.F)=>aFr ok hs (m:=qQ (fun m=>wA (cO x) s m x.F) r (fP x.sick s)) (r:=r) (it r) hr
 have hz:(((dZ (cO x) x.sick s&&&x.nur:Nat):Int)=0)=False∧jJ (cO x) x.sick x.nur s=false∨(((dZ (cO x) x.sick s&&&x.nur:Nat):Int)=0)=True∧jJ (cO x) x.sick x.nur s=true:=by
  unfold jJ
  rcases Nat.eq_zero_or_pos (dZ (cO x) x.sick s&&&x.nur)with hz|hz
  ·exact .inr ⟨eq_true (by omega),decide_eq_true hz⟩
  ·exact .inl ⟨eq_false (by omega),decide_eq_false (by omega)⟩
 generalize dZ (cO x) x.sick s&&&x.nur=rn at *
 rcases hz with ⟨hz,hv⟩|⟨hz,hv⟩
 ·rw[hv]
  rw[r40 (by simp)];unfold x40;dsimp only
  sym =>
   simp[bP,Za,Zb,Zf,Zh,Zl,Zm,Zo,Zv,Zz,Z8,ZC,ZG,ZH,Ye,Yf,Yy,Yz,YO,Xi,Xk,Xl,We,Wg,Wi,Ws,Wz,W0,W3,W9,WA,VN,VX,Ua,Ub,Uf,Ug,Uh,Ul,Uq,Ut,U6,U7,UC,UD,UN,UO,UT,UU,Tc,Td,Th,Tk,Tr,Tv,Tw,T3,T4,TM,c1,c2,c3,c4,c5,c6,hf]
   tactic =>
    unfold aAl
    rw[aF x.bs.length (fun i=>[I (s:Nat),.pt 0 0,.sl 1 0 1 x.F,rB (x.bs.map bI),I x.bs.length,I (i:Nat)]) (fun i=>jS x (xA x i))]
    ·rw[←m1]
     sym =>
      simp[bP,Za,Zb,Zf,Zh,Zl,Zm,Zv,Z3,Z8,ZG,ZH,Ye,Yf,Yu,Wz,W0,W3,WA,VP,VS,VU,Uh,Uy,Tb,Tc,Td,Th,Tq,Tr,Tu,Tv,Tw,Tx,T1,T3,T4,zb]
      tactic =>
       unfold aAk
       rw[aF x.ps.length (fun i=>[I (s:Nat),.pt 0 0,.sl 1 0 1 x.F,rP (x.ps.map pI),I x.ps.length,I (i:Nat)]) (fun i=>jS x (wT x i))]
       ·rw[m2]
        sym =>
         simp[bP,Za,Zb,Zf,Zh,Zl,Zm,Zv,Z3,Z8,ZH,Ye,Yu,Wz,W0,W3,WA,VP,VS,VU,Uy,Tb,Tc,Td,Th,Tq,Tr,Tu,Tv,Tw,Tx,T1,T3,T4,S8,zp,o1]
         tactic =>
          unfold aAj
          rw[aF x.F (fun r=>t40 x s (qQ (fun m=>wA (cO x) s m x.F) r (fP x.sick s)) r) (fun _=>jS x (cO x))]
          ·rw[hr]; (sym=>(simp[bP,Za,Zb,Zf,Zh,Zl,Zm,Zv,Z3,Z8,ZH,Ye,Yo,Yt,Yu,YY,Xs,XK,Wf,Wz,W0,W3,WA,WI,WM,WO,WP,WQ,Vu,V8,V9,VB,VC,VD,VE,VF,VI,VJ,VK,VL,VP,VS,VU,VZ,Uc,Ue,Uq,Uy,U2,U3,Tb,Tc,Td,Th,Tq,Tr,Ts,Tu,Tw,Tx,T1,T3,T4,Sr,zF,o2,hz];all_goals tactic=>exact rfl))
          ·rw[i0]; (sym=>(simp[bP,Za,YB,YX,Xc,Xd,Xr,Xw,Xx,Wz,WB,WC,WF,WG,WI,WJ,WK,WM,WO,WP,WQ,WR,WW,WX,Vd,VP,VQ,VR,VY,VZ,Ua,Ub,Uc,Ue,Uj,Uw,U2,U3,U4,U5,T2,TH];all_goals tactic=>exact rfl))
          ·exact rdd
          ·rw[hr]; (sym=>(simp[bP,Za,Zb,Zf,Zh,Zl,Zm,Zv,Z3,Z8,ZH,Ye,Yu,Wz,W0,W3,WA,VP,VS,VU,VV,Uy,Tb,Tc,Td,Th,Tq,Tr,Tu,Tw,Tx,T3,zF];all_goals tactic=>exact rfl))
       ·(sym=>(simp[bP,Za,YB,YX,Xb,Xc,Xd,Xr,Xv,Xw,Xx,Wz,WB,WC,WF,WG,WI,WJ,WK,WM,WO,WP,WQ,WR,WW,WX,Vd,VP,VQ,VR,VY,VZ,Ua,Ub,Uc,Ue,Uj,Uw,U2,U3,U4,U5,T2,TH];all_goals tactic=>exact rfl))
       ·exact fun i hi=>aAB ok s hi
       ·rw[m2]; (sym=>(simp[bP,Za,Zb,Zf,Zh,Zl,Zm,Z3,Yu,VP,VS,VU,VV,Uy,Tb,Tq,Tr,Tu,Tw,Tx,T3,zp];all_goals tactic=>exact rfl))
    ·(sym=>(simp[bP,Za,YB,YX,Xb,Xc,Xd,Xr,Xv,Xw,Xx,Wz,W9,WB,WC,WF,WG,WI,WJ,WK,WM,WO,WP,WQ,WR,WW,WX,Vd,VN,VQ,VR,VY,VZ,Ua,Ub,Uc,Ue,Uj,Uw,U2,U3,U4,U5,T2,TH,m0];all_goals tactic=>exact rfl))
    ·exact fun i hi=>aAC ok s hi
    ·(sym=>(simp[bP,Za,Zb,Zf,Zh,Zl,Zm,Z3,Yu,VP,VS,VU,VV,Uy,Tb,Tq,Tr,Tu,Tw,Tx,T3,zb];all_goals tactic=>exact rfl))
 ·rw[hv]
  rw[r40 (by simp)];unfold x40;dsimp only
  sym =>
   simp[bP,Za,Zb,Zf,Zh,Zl,Zm,Zo,Zv,Zz,Z8,ZC,ZG,ZH,Ye,Yf,Yy,Yz,YO,Xi,Xk,Xl,We,Wg,Wi,Ws,Wz,W0,W3,W9,WA,VN,VX,Ua,Ub,Uf,Ug,Uh,Ul,Uo,Ut,U6,U7,UC,UD,UN,UO,UT,UU,Tc,Td,Th,Tk,Tr,Tv,Tw,T3,T4,TM,c1,c2,c3,c4,c5,c6,hf]
   tactic =>
    unfold aAl
    rw[aF x.bs.length (fun i=>[I (s:Nat),.pt 0 0,.sl 1 0 1 x.F,rB (x.bs.map bI),I x.bs.length,I (i:Nat)]) (fun i=>jS x (xA x i))]
    ·rw[←m1]
     sym =>
      simp[bP,Za,Zb,Zf,Zh,Zl,Zm,Zv,Z3,Z8,ZG,ZH,Ye,Yf,Yu,Wz,W0,W3,WA,VP,VS,VU,Uh,Uy,Tb,Tc,Td,Th,Tq,Tr,Tu,Tv,Tw,Tx,T1,T3,T4,zb]
      tactic =>
       unfold aAk
       rw[aF x.ps.length (fun i=>[I (s:Nat),.pt 0 0,.sl 1 0 1 x.F,rP (x.ps.map pI),I x.ps.length,I (i:Nat)]) (fun i=>jS x (wT x i))]
       ·rw[m2]
        sym =>
         simp[bP,Za,Zb,Zf,Zh,Zl,Zm,Zv,Z3,Z8,ZH,Ye,Yu,Wz,W0,W3,WA,VP,VS,VU,Uy,Tb,Tc,Td,Th,Tq,Tr,Tu,Tv,Tw,Tx,T1,T3,T4,S8,zp,o1]
         tactic =>
          unfold aAj
          rw[aF x.F (fun r=>t40 x s (qQ (fun m=>wA (cO x) s m x.F) r (fP x.sick s)) r) (fun _=>jS x (cO x))]
          ·rw[hr]; (sym=>(simp[bP,Za,Zb,Zf,Zh,Zl,Zm,Zv,Z3,Z8,ZH,Ye,Yo,Yt,Yu,YY,Xs,XK,Wf,Wz,W0,W3,WA,WI,WM,WO,WP,WQ,Vu,V8,V9,VB,VC,VD,VE,VF,VI,VJ,VK,VL,VP,VS,VU,VZ,Uc,Ue,Uo,Ux,Uy,U2,U3,Tb,Tc,Td,Th,Tq,Tr,Ts,Tu,Tw,Tx,T1,T3,T4,Sr,zF,o2,hz];all_goals tactic=>exact rfl))
          ·rw[i0]; (sym=>(simp[bP,Za,YB,YX,Xc,Xd,Xr,Xw,Xx,Wz,WB,WC,WF,WG,WI,WJ,WK,WM,WO,WP,WQ,WR,WW,WX,Vd,VP,VQ,VR,VY,VZ,Ua,Ub,Uc,Ue,Uj,Uw,U2,U3,U4,U5,T2,TH];all_goals tactic=>exact rfl))
          ·exact rdd
          ·rw[hr]; (sym=>(simp[bP,Za,Zb,Zf,Zh,Zl,Zm,Zv,Z3,Z8,ZH,Ye,Yu,Wz,W0,W3,WA,VP,VS,VU,VV,Uy,Tb,Tc,Td,Th,Tq,Tr,Tu,Tw,Tx,T3,zF];all_goals tactic=>exact rfl))
       ·(sym=>(simp[bP,Za,YB,YX,Xb,Xc,Xd,Xr,Xv,Xw,Xx,Wz,WB,WC,WF,WG,WI,WJ,WK,WM,WO,WP,WQ,WR,WW,WX,Vd,VP,VQ,VR,VY,VZ,Ua,Ub,Uc,Ue,Uj,Uw,U2,U3,U4,U5,T2,TH];all_goals tactic=>exact rfl))
       ·exact fun i hi=>aAB ok s hi
       ·rw[m2]; (sym=>(simp[bP,Za,Zb,Zf,Zh,Zl,Zm,Z3,Yu,VP,VS,VU,VV,Uy,Tb,Tq,Tr,Tu,Tw,Tx,T3,zp];all_goals tactic=>exact rfl))
    ·(sym=>(simp[bP,Za,YB,YX,Xb,Xc,Xd,Xr,Xv,Xw,Xx,Wz,W9,WB,WC,WF,WG,WI,WJ,WK,WM,WO,WP,WQ,WR,WW,WX,Vd,VN,VQ,VR,VY,VZ,Ua,Ub,Uc,Ue,Uj,Uw,U2,U3,U4,U5,T2,TH,m0];all_goals tactic=>exact rfl))
    ·exact fun i hi=>aAC ok s hi
    ·(sym=>(simp[bP,Za,Zb,Zf,Zh,Zl,Zm,Z3,Yu,VP,VS,VU,VV,Uy,Tb,Tq,Tr,Tu,Tw,Tx,T3,zb];all_goals tactic=>exact rfl))
end
def vU (x:Vn) (k t:Nat):Bool:=decide (bB t=k)&&pH x t
def oO (x:Vn) (k i:Nat):Nat:=((List.range i).filter (vU x k)).length
def mM (x:Vn) (k i f:Nat):Nat:=((List.range i).filter fun t=>vU x k t&&t.testBit f).length
theorem aKi (x:Vn) (k i:Nat):oO x k (i+1)=oO x k i+(if vU x k i then 1 else 0):=by
 unfold oO
 rw[List.range_succ,List.filter_append,List.length_append]
 cases h:vU x k i<;>simp[h]
theorem aEE (x:Vn) (k i f:Nat):mM x k (i+1) f=mM x k i f+(if vU x k i&&i.testBit f then 1 else 0):=by
 unfold mM
 rw[List.range_succ,List.filter_append,List.length_append]
 cases h:vU x k i&&i.testBit f<;>simp[h]
theorem aKj (x:Vn) (k i:Nat):oO x k i≤i:=by
 have:=List.length_filter_le (vU x k) (List.range i)
 simpa [oO]using this
theorem aJd (x:Vn) (k i f:Nat):mM x k i f≤i:=by
 have:=List.length_filter_le (fun t=>vU x k t&&t.testBit f) (List.range i)
 simpa [mM]using this
def rs (w:Nat→Nat) (t j:Nat):Nat→Nat:=fun f=>if f<j then w f+(if t.testBit f then 1 else 0) else w f
theorem aKY (w:Nat→Nat) (t j:Nat):kU (rs w t j) j (w j+(if t.testBit j then 1 else 0))=rs w t (j+1):=by
 funext f
 unfold kU rs
 by_cases h:f=j
 ·subst h;rw[if_pos rfl,if_pos (show f<f+1 by omega)]
 ·rw[if_neg h]
  by_cases h2:f<j
  ·rw[if_pos h2,if_pos (show f<j+1 by omega)]
  ·rw[if_neg h2,if_neg (show ¬f<j+1 by omega)]
theorem aGz {n:Nat} {st st':Nat→Nat} (h:∀ k,k<n→st k=st' k):fC n st=fC n st':=by
 unfold fC
 exact List.map_congr_left fun k hk=>by rw[h k (List.mem_range.1 hk)]
section
variable {x:Vn} (ok:x.Ok)
abbrev aJp (x:Vn) (c k t f:Nat):List AV:=[.pt 0 0,I (-1),I (c:Nat),.sl 1 0 1 x.F,I (k:Nat),I (t:Nat),I x.F,I (f:Nat)]
abbrev aFe (x:Vn) (c k t:Nat):List AV:=[.pt 0 0,I (-1),I (c:Nat),.sl 1 0 1 x.F,I (k:Nat),I (t:Nat)]
include ok in
theorem aFt {c k t f:Nat} {w:Nat→Nat} (ht:t<65536) (hf:f<x.F) (hw:∀ f,w f≤65536) :
 aW 0 [1,2,3,4,5,6,43,44] (execW aA 39 0 none (match aCL with | .loop _ a=>a|c=>c) (aU [1,2,3,4,5,6,43,44] (aJp x c k t f)) (jS x (rs w t f)))=some (aJp x c k t (f+1),jS x (rs w t (f+1))):=by
 have hF:=ok.F16
 have a1:((f:Int)<(x.F:Int))=True:=eq_true (by omega)
 have a2:=eG hf (by omega)
 have n1:((0:Int)≤f)=True:=eq_true (by omega)
 have n0:((f:Int)<0)=False:=eq_false (by omega)
 have q1:=qX (n:=x.F) (st:=rs w t f) hf
 have q2:rs w t f f=w f:=by unfold rs;rw[if_neg (by omega)]
 rw[q2]at q1
 have y1:=jT x.F (rs w t f)
 have e:=aGX bV (a:=t) (i:=f) (by omega) (by omega)
 have e2:IntKind.i64.wrap ((w f:Int)+(if t.testBit f then 1 else 0))=((w f+(if t.testBit f then 1 else 0):Nat):Int):=by
  have:=hw f
  cases t.testBit f
  ·simp only[Bool.false_eq_true,if_false];exact aD (by omega) (by omega)
  ·simp only[if_true];rw[aD (by omega) (by omega)];omega
 have s1:=zV (n:=x.F) (st:=rs w t f) (k:=f) (v:=w f+(if t.testBit f then 1 else 0)) hf
 rw[aKY]at s1
 have t1:(f+1≤x.F)=True:=eq_true (by omega)
 generalize rs w t (f+1)=st1 at *
 generalize rs w t f=st0 at *
 generalize w f=wf at *
 unfold aCL
 dsimp only
 cases hb:t.testBit f
 ·rw[hb]at e e2 s1
  simp only[Bool.false_eq_true,if_false]at e e2 s1
  (sym=>(simp[bP,Za,Zb,Zc,Zf,Zh,Zi,Zl,Zm,Zv,Z3,ZA,ZI,ZK,ZL,ZN,ZO,Yh,Yl,Yo,Yr,Yu,Yy,Yz,YX,Xc,Xd,Xi,Xr,Xw,Xx,Wq,Wy,Wz,W0,W3,W4,WB,WC,WF,WG,WI,WJ,WK,WM,WO,WP,WQ,WR,WW,WX,Vd,Vk,VP,VQ,VR,VS,VT,VY,VZ,Ua,Ub,Uc,Ue,Uf,Ug,Uj,Ul,Uq,Ur,Ut,Uw,Ux,Uz,U0,U2,U3,U4,U5,U6,U7,Tc,Td,Th,Ti,Tj,Tq,Tr,Tt,Tv,Tw,Tz,T2,T3,T4,TF,TG,TH,Sn,a1,a2,n1,n0,q1,y1,e,e2,s1,t1];all_goals tactic=>exact rfl))
 ·rw[hb]at e e2 s1
  simp only[if_true]at e e2 s1
  (sym=>(simp[bP,Za,Zb,Zc,Zf,Zh,Zi,Zl,Zm,Zv,Z3,ZA,ZI,ZK,ZL,ZN,ZO,Yh,Yl,Yo,Yr,Yu,Yy,Yz,YX,Xc,Xd,Xi,Xr,Xw,Xx,Wq,Wy,Wz,W0,W3,W4,WB,WC,WF,WG,WI,WJ,WK,WM,WO,WP,WQ,WR,WW,WX,Vd,Vk,VP,VQ,VR,VS,VT,VY,VZ,Ua,Ub,Uc,Ue,Uf,Ug,Uj,Ul,Uq,Ur,Ut,Uw,Ux,Uz,U0,U2,U3,U4,U5,U6,U7,Tc,Td,Th,Ti,Tj,Tq,Tr,Tt,Tv,Tw,Tz,T2,T3,T4,TF,TG,TH,Sn,a1,a2,n1,n0,q1,y1,e,e2,s1,t1];all_goals tactic=>exact rfl))
include ok in
theorem aAE {k t:Nat} (hk:k≤16) (ht:t<2^x.F) :
 aW 0 [1,2,3,4,5,6] (execW aA 39 0 none (match pU with | .loop _ a=>a|c=>c) (aU [1,2,3,4,5,6] (aFe x (oO x k t) k t)) (jS x (mM x k t)))=some (aFe x (oO x k (t+1)) k (t+1),jS x (mM x k (t+1))):=by
 have hF:=ok.F16
 have hp:=aV hF
 have hfx:=ok.f
 have e:=iI bV (i:=x.F) (by omega)
 have n0:((x.F:Int)<0)=False:=eq_false (by omega)
 have a1:((t:Int)<((2^x.F:Nat):Int))=True:=eq_true (by omega)
 have a2:=eG ht (by omega)
 have e42:=w42 (a:=t) (by omega)
 have e40:=w40 ok (s:=t) (by omega)
 have o1:=jX bV (a:=t) (b:=x.fix) (by omega) (by omega)
 have zF:=Tb (n:=(x.F:Int))
 have hc:=aKj x k t
 have hw:=fun f=>Nat.le_trans (aJd x k t f) (show t≤65536 by omega)
 have a3:IntKind.i64.wrap ((oO x k t:Int)+1)=((oO x k t+1:Nat):Int):=by rw[aD (by omega) (by omega)];omega
 have rd:=fun f (hf:f<x.F)=>aFt ok (c:=oO x k t+1) (k:=k) (t:=t) (f:=f) (by omega) hf hw
 have w0:rs (mM x k t) t 0=mM x k t:=by funext f;unfold rs;rw[if_neg (by omega)]
 rw[aKi]
 have wu:vU x k t=false→mM x k (t+1)=mM x k t:=fun h=>by funext f;rw[aEE,h];simp
 have wu2:vU x k t=true→fC x.F (rs (mM x k t) t x.F)=fC x.F (mM x k (t+1)):=fun h=>aGz fun f hf=>by
  rw[aEE,h];unfold rs;rw[if_pos hf];simp
 by_cases h1:bB t=k
 ·have c1:(bB t=k)=True:=eq_true h1
  have d1:((bB t:Int)=(k:Int))=True:=eq_true (by omega)
  by_cases h2:t&&&x.fix=0
  ·have d2:(((t&&&x.fix:Nat):Int)=0)=True:=eq_true (by omega)
   cases h3:jJ (cO x) x.sick x.nur t
   ·have hb:vU x k t=false:=by unfold vU pH;rw[h3];simp
    rw[wu hb,hb]
    rw[h3]at e40
    unfold pU
    dsimp only
    (sym=>(simp[bP,Za,Zb,Zf,Zg,Zh,Zj,Zl,Zm,Zp,Zr,Zv,Zy,Z3,Z8,ZH,ZP,ZQ,ZU,ZV,ZX,Ye,Yl,Yo,Yq,Yt,Yu,Yz,YX,YZ,Xb,Xc,Xd,Xr,Xs,Xt,Xv,Xw,Xx,Wz,W0,W3,W5,W6,W7,W8,WA,WB,WC,WF,WG,WI,WJ,WK,WL,WM,WN,WO,WP,WQ,WR,WS,WT,WW,WX,Vd,Vg,Vh,Vi,Vu,Vw,Vx,Vz,V0,V2,VP,VQ,VR,VS,VT,VX,VY,VZ,Ua,Ub,Uc,Ue,Uf,Ug,Uj,Uo,Uq,Uw,Ux,U1,U2,U3,U4,U5,Tc,Td,Tg,Th,Tq,Tr,Tt,Tu,Tv,Tw,Tx,T1,T2,T3,T4,TH,S9,SA,SB,SD,SE,SF,e,n0,a1,a2,e42,e40,o1,d1,d2];all_goals tactic=>exact rfl))
   ·have hb:vU x k t=true:=by unfold vU pH;rw[h3,decide_eq_true h1,decide_eq_true h2];rfl
    have wu2:=wu2 hb
    rw[hb,if_pos rfl]
    rw[h3]at e40
    generalize oO x k t+1=c1 at *
    generalize mM x k (t+1)=wN at *
    generalize hwF:rs (mM x k t) t x.F=wF at *
    generalize mM x k t=w at *
    unfold pU
    dsimp only
    sym =>
     simp[bP,Za,Zb,Zf,Zg,Zh,Zj,Zl,Zm,Zp,Zr,Zv,Zy,Z3,Z8,ZG,ZH,ZP,ZQ,ZU,ZV,ZX,Ye,Yg,Yl,Yo,Yq,Yt,Yu,Yz,YX,YZ,Xb,Xr,Xs,Xt,Xv,Wz,W0,W3,W5,W6,W7,W8,WA,WI,WL,WN,WS,WT,Vg,Vh,Vi,Vu,Vw,Vx,Vz,V0,V2,VP,VS,VT,VU,VY,VZ,Ub,Uc,Uf,Ug,Uo,Ux,U1,U2,U3,U4,U5,Tc,Td,Tg,Th,Tq,Tr,Tt,Tv,Tw,T3,T4,S9,SA,SB,SD,SE,SF,e,n0,a1,e42,e40,o1,d1,d2,a3]
     tactic =>
      unfold aCL
      rw[aF x.F (fun f=>aJp x c1 k t f) (fun f=>jS x (rs w t f))]
      ·rw[hwF]; (sym=>(simp[bP,Za,Zb,Zf,Zh,Zl,Zm,Zv,Z3,Yl,Yu,YX,Xc,Xd,Xr,Xw,Xx,Wz,WB,WC,WF,WG,WI,WJ,WK,WM,WO,WP,WQ,WR,WW,WX,Vd,VP,VQ,VR,VS,VU,VY,VZ,Ua,Ub,Uc,Ue,Uj,Uw,Uy,U2,U3,U4,U5,Tb,Tq,Tr,Tu,Tw,Tx,Tz,T1,T2,T3,T4,TH,zF,wu2,a2];all_goals tactic=>exact rfl))
      ·rw[w0]; (sym=>(simp[bP,Za,YB,YX,Xc,Xd,Xr,Xw,Xx,Wz,WB,WC,WF,WG,WI,WJ,WK,WM,WO,WP,WQ,WR,WW,WX,Vd,VP,VQ,VR,VY,VZ,Ua,Ub,Uc,Ue,Uj,Uw,U2,U3,U4,U5,T2,TH];all_goals tactic=>exact rfl))
      ·exact rd
      ·rw[hwF]; (sym=>(simp[bP,Za,Zb,Zf,Zh,Zl,Zm,Z3,Yu,VP,VS,VU,VV,Uy,Tb,Tq,Tr,Tu,Tw,Tx,T3,zF,wu2,a2];all_goals tactic=>exact rfl))
  ·have hb:vU x k t=false:=by unfold vU pH;rw[decide_eq_false h2];simp
   have d2:(((t&&&x.fix:Nat):Int)=0)=False:=eq_false (by omega)
   rw[wu hb,hb]
   unfold pU
   dsimp only
   (sym=>(simp[bP,Za,Zb,Zf,Zg,Zh,Zj,Zl,Zm,Zp,Zr,Zt,Zv,Zy,Z3,Z8,ZH,ZP,ZQ,ZU,ZV,ZW,ZX,Ye,Yl,Yo,Yq,Yt,Yu,Yz,YX,Xc,Xd,Xr,Xw,Xx,Wz,W0,W3,W8,WA,WB,WC,WF,WG,WI,WJ,WK,WL,WM,WN,WO,WP,WQ,WR,WS,WT,WW,WX,Vd,Vg,Vh,Vi,Vu,Vw,Vx,Vz,V0,V2,VP,VQ,VR,VS,VT,VX,VY,VZ,Ua,Ub,Uc,Ue,Uf,Ug,Uj,Uo,Uq,Uw,Ux,Uy,U1,U2,U3,U4,U5,Tc,Td,Th,Tq,Tr,Tt,Tu,Tv,Tw,Tx,T1,T2,T3,T4,TH,S9,SA,SB,SD,SE,SF,e,n0,a1,a2,e42,o1,d1,d2];all_goals tactic=>exact rfl))
 ·have hb:vU x k t=false:=by unfold vU;rw[decide_eq_false h1];rfl
  have d1:((bB t:Int)=(k:Int))=False:=eq_false (by omega)
  rw[wu hb,hb]
  unfold pU
  dsimp only
  (sym=>(simp[bP,Za,Zb,Zf,Zg,Zh,Zj,Zl,Zm,Zp,Zt,Zv,Zy,Z3,Z8,ZH,ZP,ZQ,ZU,ZV,ZW,Ye,Yl,Yq,Yt,Yu,Yz,YX,Xc,Xd,Xr,Xw,Xx,Wz,W0,W3,W8,WA,WB,WC,WF,WG,WI,WJ,WK,WL,WM,WN,WO,WP,WQ,WR,WS,WT,WW,WX,Vd,Vg,Vh,Vi,Vu,Vw,Vx,Vz,V0,V2,VP,VQ,VR,VS,VT,VX,VY,VZ,Ua,Ub,Uc,Ue,Uf,Ug,Uj,Uq,Uw,Ux,Uy,U1,U2,U3,U4,U5,Tc,Td,Th,Tq,Tr,Tt,Tu,Tv,Tw,Tx,T1,T2,T3,T4,TH,S9,SA,SB,SD,SE,SF,e,n0,a1,a2,e42,d1];all_goals tactic=>exact rfl))
end
abbrev aCe (x:Vn):XH:=[some (.blk true (.cells true x.c))]
abbrev aHy (k:Nat):List AV:=[.pt 0 0,I (-1),I 0,I (k:Nat)]
theorem aIs (n:Nat) (w:Nat→Nat):cB (fC n w) 0 1 n=(List.range n).map fun f=>[I (w f)]:=by
 have h:sV 1 ((List.range n).map fun f=>([I (w f)]:List AV)):=by
  intro r hr
  simp only[List.mem_map]at hr
  obtain⟨k,_,rfl⟩:=hr
  exact⟨rfl,rfl,rfl,rfl⟩
 have h2:=mR h
 rw[List.length_map,List.length_range]at h2
 rw[←h2]
 congr 1
 unfold fC
 generalize List.range n=l
 induction l with
 | nil=>rfl
 | cons a l ih=>simp[ih]
theorem aAD {x:Vn} (ok:x.Ok) {k:Nat} (hk:k≤x.F) (h0:oO x k (2^x.F)=0) :
 aW 0 [1,2,3,5] (execW aA 39 0 none (match aAm with | .loop _ a=>a|c=>c) (aU [1,2,3,5] (aHy k)) (aCe x))=some (aHy (k+1),aCe x):=by
 have hF:=ok.F16
 have hp:=aV hF
 have a1:((k:Int)≤(x.F:Int))=True:=eq_true (by omega)
 have a2:=eG (show k<17 by omega) (by omega)
 have e:=iI bV (i:=x.F) (by omega)
 have n0:((x.F:Int)<0)=False:=eq_false (by omega)
 have z:(((2^x.F:Nat):Int)<((2^x.F:Nat):Int))=False:=eq_false (by omega)
 have c2:((x.F:Int)≤(x.F:Int))=True:=eq_true (by omega)
 have c3:(8*(x.F:Int)≤281474976710656)=True:=eq_true (by omega)
 have c4:((x.F:Int)≤9223372036854775807)=True:=eq_true (by omega)
 have c5:((x.F:Int)).toNat=x.F:=Int.toNat_natCast _
 have c6:((0:Int)≤(x.F:Int))=True:=eq_true (by omega)
 have m0:List.map (AV.int .i64) (List.replicate x.F 0)=fC x.F (mM x k 0):=by
  rw[show fC x.F (mM x k 0)=fC x.F (fun _=>0) from rfl,←aIt];simp
 have z0:oO x k 0=0:=rfl
 have rd:=fun t (ht:t<2^x.F)=>aAE ok (k:=k) (by omega) ht
 generalize hN:2^x.F=N at *
 unfold aAm
 dsimp only
 sym =>
  simp[bP,Za,Zb,Zf,Zh,Zl,Zm,Zo,Zv,Z3,Z8,ZC,ZH,Ye,Yv,Yy,Yz,YO,Xi,Wz,W0,W3,WA,VP,VS,VT,Ua,Ub,Uf,Ug,Ul,Ut,Ux,U6,U7,UT,UU,Tc,Td,Th,Tk,Tq,Tr,Tt,Tv,Tw,T3,T4,TM,a1,c2,c3,c4,c5,c6,n0]
  tactic =>
   unfold pU
   rw[aF N (fun t=>aFe x (oO x k t) k t) (fun t=>jS x (mM x k t))]
   ·rw[h0]; (sym=>(simp[bP,Za,Zb,Zf,Zh,Zl,Zm,Zv,Z3,Z8,ZH,Ye,Yl,Yq,Yu,Yw,Yz,YB,YX,Xd,Xr,Xx,Wz,W0,W3,WA,WB,WF,WG,WI,WJ,WK,WM,WO,WP,WQ,WR,WW,WX,Vd,VP,VQ,VR,VS,VU,VY,VZ,Ub,Uc,Ue,Uj,Uw,Uy,U2,U3,U4,U5,Tb,Tc,Td,Th,Tq,Tr,Tt,Tu,Tw,Tx,Tz,T1,T2,T3,T4,TH,e,n0,z,a2];all_goals tactic=>exact rfl))
   ·rw[z0]; (sym=>(simp[bP,Za,YB,YX,Xc,Xd,Xr,Xw,Xx,Wz,WB,WC,WF,WG,WI,WJ,WK,WM,WO,WP,WQ,WR,WW,WX,Vd,VP,VQ,VR,VY,VZ,Ua,Ub,Uc,Ue,Uj,Uw,U2,U3,U4,U5,T2,TH,m0];all_goals tactic=>exact rfl))
   ·exact rd
   ·rw[h0]; (sym=>(simp[bP,Za,Zb,Zf,Zh,Zl,Zm,Zv,Z3,Z8,ZH,Ye,Yq,Yu,Yz,YB,Wz,W0,W3,WA,VP,VS,VU,VV,Uy,Tb,Tc,Td,Th,Tq,Tr,Tu,Tw,Tx,T3,T4,e,n0,z,a2];all_goals tactic=>exact rfl))
theorem aLV {x:Vn} (ok:x.Ok) {n:Nat} (hn:n≤x.F) (h0:∀ k,k<n→oO x k (2^x.F)=0) (h1:oO x n (2^x.F)≠0) :
 runW aA 39 [.agg x.c] []=some (.tup [I (n:Nat),I (oO x n (2^x.F):Nat),nL (dE ((List.range x.F).map (mM x n (2^x.F))))],[]):=by
 have hF:=ok.F16
 have hp:=aV hF
 have a1:((n:Int)≤(x.F:Int))=True:=eq_true (by omega)
 have e:=iI bV (i:=x.F) (by omega)
 have n0:((x.F:Int)<0)=False:=eq_false (by omega)
 have z:(((2^x.F:Nat):Int)<((2^x.F:Nat):Int))=False:=eq_false (by omega)
 have c2:((x.F:Int)≤(x.F:Int))=True:=eq_true (by omega)
 have c3:(8*(x.F:Int)≤281474976710656)=True:=eq_true (by omega)
 have c4:((x.F:Int)≤9223372036854775807)=True:=eq_true (by omega)
 have c5:((x.F:Int)).toNat=x.F:=Int.toNat_natCast _
 have c6:((0:Int)≤(x.F:Int))=True:=eq_true (by omega)
 have m0:List.map (AV.int .i64) (List.replicate x.F 0)=fC x.F (mM x n 0):=by
  rw[show fC x.F (mM x n 0)=fC x.F (fun _=>0) from rfl,←aIt];simp
 have z0:oO x n 0=0:=rfl
 have rd:=fun t (ht:t<2^x.F)=>aAE ok (k:=n) (by omega) ht
 have rdc:=fun k (hk:k<n)=>aAD ok (k:=k) (by omega) (h0 k hk)
 have hres:nL (dE ((List.range x.F).map (mM x n (2^x.F)))) = .fs ((List.range x.F).map fun f=>[I (mM x n (2^x.F) f)]):=by
  unfold dE nL;rw[List.map_map,List.map_map];rfl
 rw[hres]
 have rows:=aIs x.F (mM x n (2^x.F))
 have c7:=jT x.F (mM x n (2^x.F))
 have g1:((0:Int)<(oO x n (2^x.F):Int))=True:=eq_true (by omega)
 have k0:((0:Nat):Int)=0:=rfl
 generalize 2^x.F=N at *
 rw[r39 (by simp)];unfold x39;dsimp only
 sym =>
  simp[bP,Zb,Zf,Zh,Zl,Zo,Zv,Zz,Xi,Xk,Xl,We,Wg,Wi,Ws,W9,VN,VX,Ub,Ug,Ul,U6,U7,UC,UD,UN,UO,Tk,Tr,Tv,Tw,T3,T4]
  tactic =>
   unfold aAm
   rw[aF n (fun k=>aHy k) (fun _=>aCe x)]
   ·sym =>
    simp[bP,Za,Zb,Zf,Zh,Zl,Zm,Zo,Zv,Z3,Z8,ZC,ZH,Ye,Yv,Yy,Yz,YO,Xi,Wz,W0,W3,WA,VP,VS,VT,Ua,Ub,Uf,Ug,Ul,Ut,Ux,U6,U7,UT,UU,Tc,Td,Th,Tk,Tq,Tr,Tt,Tv,Tw,T3,T4,TM,a1,c2,c3,c4,c5,c6,n0]
    tactic =>
     unfold pU
     rw[aF N (fun t=>aFe x (oO x n t) n t) (fun t=>jS x (mM x n t))]
     ·(sym=>(simp[bP,Za,Zb,Zf,Zh,Zl,Zm,Zv,Z3,Z8,ZH,Ye,Yq,Yu,Yw,Yz,YX,Xa,Xb,Xr,Xu,Xv,XJ,XM,XO,XX,XZ,Wb,We,Wh,Wi,Wz,W0,W3,W4,WA,WI,WM,WO,WP,WQ,Vr,Vs,Vt,Vu,Vv,V4,V6,V8,V9,VB,VC,VD,VE,VH,VI,VJ,VK,VL,VP,VS,VT,VU,VY,VZ,Ub,Uc,Ue,Ut,Ux,Uy,U2,U3,U4,U5,U8,U9,UA,UB,UC,UD,Tb,Tc,Td,Th,Tq,Tr,Ts,Tu,Tw,Tx,Ty,T0,T1,T3,T4,TF,TG,TI,Sr,Ss,Su,e,n0,z,g1,rows,c7];all_goals tactic=>exact rfl))
     ·rw[z0]; (sym=>(simp[bP,m0];all_goals tactic=>exact rfl))
     ·exact rd
     ·(sym=>(simp[bP,Za,Zb,Zf,Zh,Zl,Zm,Zv,Z3,Z8,ZH,Ye,Yq,Yu,Yz,Wz,W0,W3,WA,VP,VS,VU,VV,Uy,Tb,Tc,Td,Th,Tq,Tr,Tu,Tw,Tx,T3,T4,e,n0,z,g1];all_goals tactic=>exact rfl))
   ·(sym=>(simp[bP,Za,YB,YX,Xd,Xr,Xx,Wz,WB,WF,WG,WI,WJ,WK,WM,WO,WP,WQ,WR,WW,WX,Vd,VQ,VR,VY,VZ,Ub,Uc,Ue,Uj,Uw,U2,U3,U4,U5,T2,TH,k0];all_goals tactic=>exact rfl))
   ·exact rdc
   ·sym =>
    simp[bP,Za,Zb,Zf,Zh,Zl,Zm,Zo,Zv,Z3,Z8,ZC,ZH,Ye,Yv,Yy,Yz,YO,Xi,Wz,W0,W3,WA,VP,VS,VT,Ua,Ub,Uf,Ug,Ul,Ut,Ux,U6,U7,UT,UU,Tc,Td,Th,Tk,Tq,Tr,Tt,Tv,Tw,T3,T4,TM,a1,c2,c3,c4,c5,c6,n0]
    tactic =>
     unfold pU
     rw[aF N (fun t=>aFe x (oO x n t) n t) (fun t=>jS x (mM x n t))]
     ·(sym=>(simp[bP,Za,Zb,Zf,Zh,Zl,Zm,Zv,Z3,Z8,ZH,Ye,Yq,Yu,Yw,Yz,Wz,W0,W3,WA,VP,VS,VT,VU,VW,Ux,Uy,Tb,Tc,Td,Th,Tq,Tr,Ts,Tu,Tw,Tx,Ty,T0,T1,T3,T4,e,n0,z,g1,rows,c7];all_goals tactic=>exact rfl))
     ·rw[z0]; (sym=>(simp[bP,m0];all_goals tactic=>exact rfl))
     ·exact rd
     ·(sym=>(simp[bP,Za,Zb,Zf,Zh,Zl,Zm,Zv,Z3,Z8,ZH,Ye,Yq,Yu,Yz,Wz,W0,W3,WA,VP,VS,VU,VV,Uy,Tb,Tc,Td,Th,Tq,Tr,Tu,Tw,Tx,T3,T4,e,n0,z,g1];all_goals tactic=>exact rfl))
theorem aLU {x:Vn} (ok:x.Ok) (h0:∀ k,k≤x.F→oO x k (2^x.F)=0):runW aA 39 [.agg x.c] []=some (.tup [I (-1),I 0,.fs []],[]):=by
 have hF:=ok.F16
 have a1:(((x.F+1:Nat):Int)≤(x.F:Int))=False:=eq_false (by omega)
 have a2:((x.F:Int)+1≤(x.F:Int))=False:=eq_false (by omega)
 have rdc:=fun k (hk:k<x.F+1)=>aAD ok (k:=k) (by omega) (h0 k (by omega))
 have k0:((0:Nat):Int)=0:=rfl
 rw[r39 (by simp)];unfold x39;dsimp only
 sym =>
  simp[bP,Zb,Zf,Zh,Zl,Zo,Zv,Zz,Xi,Xk,Xl,We,Wg,Wi,Ws,W9,VN,VX,Ub,Ug,Ul,U6,U7,UC,UD,UN,UO,Tk,Tr,Tv,Tw,T3,T4]
  tactic =>
   unfold aAm
   rw[aF (x.F+1) (fun k=>aHy k) (fun _=>aCe x)]
   ·(sym=>(simp[bP,Za,Zb,Zf,Zh,Zl,Zm,Zv,Z3,Z8,ZH,Ye,Yv,YX,Xa,Xb,Xr,Xu,Xv,XJ,XM,XQ,We,Wh,Wm,Wz,W0,W3,WA,WI,WM,WO,WP,WQ,Vu,V8,V9,VB,VC,VD,VE,VH,VI,VJ,VK,VL,VP,VS,VU,VZ,Uc,Ue,Uy,U2,U3,U4,U5,U8,U9,UC,UD,Tc,Td,Th,Tq,Tr,Ts,Tu,Tw,Tx,T1,T3,T4,Sr,a1,a2];all_goals tactic=>exact rfl))
   ·(sym=>(simp[bP,k0];all_goals tactic=>exact rfl))
   ·exact rdc
   ·(sym=>(simp[bP,Za,Zb,Zf,Zh,Zl,Zm,Zv,Z3,Z8,ZH,Ye,Yv,Wz,W0,W3,WA,VP,VS,VU,VV,Uy,Tc,Td,Th,Tq,Tr,Tu,Tw,Tx,T3,a1,a2];all_goals tactic=>exact rfl))
theorem w39 {x:Vn} (ok:x.Ok) (hh:lD x=true):∃ n,Lea x 0 n∧0<oO x n (2^x.F)∧runW aA 39 [.agg x.c] []=some (.tup [I (n:Nat),I (oO x n (2^x.F):Nat),nL (dE ((List.range x.F).map (mM x n (2^x.F))))],[]):=by
 have hp:=aV ok.F16
 obtain⟨c,hc,_⟩:=w29 ok ok.h23 hh
 have hn:Lea x 0 (bB c):=⟨⟨c,hc.lt,hc.min.1,rfl⟩,hc.min.2⟩
 have h1:0<oO x (bB c) (2^x.F):=by
  unfold oO
  apply List.length_pos_of_mem (a:=c)
  rw[List.mem_filter,List.mem_range]
  refine⟨hc.lt,?_⟩
  unfold vU
  rw[decide_eq_true rfl,Bool.true_and]
  exact(gJ ok (by have:=hc.lt;omega)).2 hc.min.1
 refine⟨bB c,hn,h1,aLV ok (aCv hc.lt ok.F16) (fun k hk=>?_) (by omega)⟩
 unfold oO
 rw[List.length_eq_zero_iff,List.filter_eq_nil_iff]
 intro t ht
 rw[List.mem_range]at ht
 unfold vU
 intro h
 rw[Bool.and_eq_true,decide_eq_true_eq]at h
 have:=hc.min.2 t ((gJ ok (by omega)).1 h.2)
 omega
theorem aLW {x:Vn} (ok:x.Ok) (hh:lD x=false):runW aA 39 [.agg x.c] []=some (.tup [I (-1),I 0,.fs []],[]):=by
 have hp:=aV ok.F16
 refine aLU ok fun k _=>?_
 unfold oO
 rw[List.length_eq_zero_iff,List.filter_eq_nil_iff]
 intro t ht
 rw[List.mem_range]at ht
 unfold vU
 intro h
 rw[Bool.and_eq_true]at h
 have:=(jR ok).2 ⟨t,ht,(gJ ok (by omega)).1 h.2⟩
 rw[hh]at this
 simp at this
section
variable {x:Vn} (ok:x.Ok) {a c:Nat}
include ok in
end
structure aLB (x:Vn) (u:Nat) (ks:List Nat):Prop where
 lt:∀ k∈ks,k<x.F
 len:ks.length≤16
 ne:ks≠[]
 leads:kO x ks=true
 free:∀ (j k:Nat),ks[j]?=some k→u.testBit k=true→x.fix.testBit k=true
section
variable {x:Vn} (ok:x.Ok) {ws:List (List Int)} {ks:List Nat} {i:Nat} {U:Nat→Nat}
end
section
variable {x:Vn} (ok:x.Ok) {ws:List (List Int)} (hF:∀ (i:Nat) (w:List Int),ws[i]?=some w→∃ ks,w=dE ks∧aLB x (usN ws i) ks) (hl:ws.length≤16)
end
section
variable {x:Vn} (ok:x.Ok) {c:Nat} (hc:isCut x c)
end
theorem vY {α:Type} (p q:α→Bool):∀ l:List α,((l.filter fun t=>p t&&q t).length=(l.filter p).length)↔∀ t∈l,p t=true→q t=true
 | []=>by simp
 | a::l=>by
   have ih:=vY p q l
   have hle:(l.filter fun t=>p t&&q t).length≤(l.filter p).length:=by
    rw[←List.filter_filter]
    rw[List.filter_filter,List.filter_congr (q:=fun t=>q t&&p t) (fun t _=>Bool.and_comm _ _),←List.filter_filter]
    exact List.length_filter_le _ _
   simp only[List.filter_cons,List.mem_cons,forall_eq_or_imp]
   cases hp:p a
   ·simpa using ih
   ·cases hq:q a
    ·simp only[Bool.and_false,Bool.false_eq_true,if_false,if_true,List.length_cons]
     constructor
     ·intro h;omega
     ·rintro ⟨h,_⟩;simp at h
    ·simpa using ih
theorem aGs {x:Vn} (ok:x.Ok) {n t:Nat} (hn:Lea x 0 n) (ht:t<2^x.F):vU x n t=true↔qS x t:=by
 have hp:=aV ok.F16
 unfold vU
 rw[Bool.and_eq_true,decide_eq_true_eq,gJ ok (by omega),hn.min]
 exact And.comm
theorem aEF {x:Vn} (ok:x.Ok) {n f:Nat} (hn:Lea x 0 n):mM x n (2^x.F) f=oO x n (2^x.F)↔ndP x f:=by
 unfold mM oO
 rw[vY]
 constructor
 ·intro h D hD
  have hlt:=vM ok hD
  exact h D (List.mem_range.2 hlt) ((aGs ok hn hlt).2 hD)
 ·intro h t ht hb
  exact h t ((aGs ok hn (List.mem_range.1 ht)).1 hb)
section
variable {x:Vn} (ok:x.Ok) {n:Nat} (hn:Lea x 0 n)
abbrev s9 (q n cn:Nat) (wl:List Nat) (f:Nat):List AV:=[.pt 0 0,nL (dE (el q)),I (n:Nat),I (cn:Nat),nL (dE wl),I (mG q f).length,I (f:Nat)]
include ok hn in
theorem aJr {cn f:Nat} {wl:List Nat} (hcn:cn=oO x n (2^x.F)) (hwl:wl=(List.range x.F).map (mM x n (2^x.F))) (hf:f<x.F) :
 aW 0 [3,4,6,7,8,9,10] (execW aA 9 0 none (match aBw with | .loop _ a=>a|c=>c) (aU [3,4,6,7,8,9,10] (s9 (needN x) n cn wl f)) (aCe x))=some (s9 (needN x) n cn wl (f+1),aCe x):=by
 have hF:=ok.F16
 have hp:=aV hF
 have hfx:=ok.f
 have okf:=ok.fixed hf
 have a1:((f:Int)<(x.F:Int))=True:=eq_true (by omega)
 have a2:=eG hf (by omega)
 have n1:((0:Int)≤(f:Int))=True:=eq_true (by omega)
 have n0:((f:Int)<0)=False:=eq_false (by omega)
 have e1:=iI bV (i:=f) (by omega)
 have p1:(2:Nat)^f≤2^16:=Nat.pow_le_pow_right (by omega) (by omega)
 have o1:=cW bV (a:=x.fix) (b:=2^f) (by omega) (by omega)
 have wlen:(dE wl).length=x.F:=by rw[bX,hwl];simp
 have gw:(dE wl)[f]?=some ((mM x n (2^x.F) f:Nat):Int):=fZ (by rw[hwl,List.getElem?_map,List.getElem?_range hf];rfl)
 have hwn:=aEF ok (f:=f) hn
 rw[←hcn]at hwn
 have hb:=nU hF f (x:=x)
 have gl:=bX (el (needN x))
 have hlB:=aDv (needN x) f
 have k0:((0:Int)≤((mG (needN x) f).length:Int))=True:=eq_true (by omega)
 have hcut:(∃ m,Lea (x.fixed f) 0 m∧∃ os:List Int,os.length=m∧runW aA 29 [.agg (x.fixed f).c] []=some (.tup [nL os,I 0],[]))∨(ndP x f∧runW aA 29 [.agg (x.fixed f).c] []=some (.tup [.fs [],I 16],[])):=by
  cases hh:lD (x.fixed f)
  ·exact .inr ⟨aDi okf hh,aLY okf okf.h23 hh⟩
  ·obtain⟨c,hc,h⟩:=w29 okf okf.h23 hh
   exact .inl ⟨bB c,⟨⟨c,hc.lt,hc.min.1,rfl⟩,hc.min.2⟩,_,bX _,h⟩
 rw[show (x.fixed f).c=[I x.F,rB (x.bs.map bI),rP (x.ps.map pI),I x.sick,I x.nur,I (x.fix|||2^f:Nat)] from rfl]at hcut
 generalize hwf:mM x n (2^x.F) f=wf at *
 rw[s9,s9,aCk]
 cases hbit:(needN x).testBit f
 ·-- no best cut needs it
  have hnd:¬ndP x f:=fun h=>by rw[hb.2 ⟨hf,h⟩]at hbit;simp at hbit
  have d1:((wf:Int)=(cn:Int))=False:=eq_false fun h=>hnd (hwn.1 (by omega))
  rcases hcut with ⟨m,hm,os,hos,g29⟩|⟨h,_⟩
  ·have hle:n≤m:=by
    obtain⟨C,_,c2,c3⟩:=hm.1
    rw[←c3];exact hn.2 C (lW.1 c2).1
   have hmn:m=n:=by
    have:=zR hn hm
    by_cases h:n<m
    ·exact absurd (this.2 h) hnd
    ·omega
   have d2:((os.length:Int)=(n:Int))=True:=eq_true (by omega)
   have kk:(((mG (needN x) f).length:Int)<((el (needN x)).length:Int))=False∨(((mG (needN x) f).length:Int)<((el (needN x)).length:Int))=True∧∃ v,(el (needN x))[(mG (needN x) f).length]?=some v∧f<v:=by
    by_cases h:(mG (needN x) f).length<(el (needN x)).length
    ·obtain⟨v,hv⟩:=cJ h
     exact .inr ⟨eq_true (by omega),v,hv,aIw (by omega) hbit hv⟩
    ·exact .inl (eq_false (by omega))
   rw[if_neg (by simp)]
   generalize (mG (needN x) f).length=kf at *
   rcases kk with kk|⟨kk,v,hv,hfv⟩
   ·generalize dE (el (needN x))=ls at *
    generalize (el (needN x)).length=ll at *
    generalize dE wl=ws at *
    unfold aBw
    dsimp only
    (sym=>(simp[Za,Zb,Zc,Zf,Zg,Zh,Zi,Zj,Zl,Zm,Zp,Zq,Zr,Zs,Zv,Zw,Zy,Z3,Z4,Z8,ZA,ZF,ZG,ZH,ZI,ZK,ZL,ZM,ZN,ZO,ZP,ZQ,ZU,ZV,ZW,ZX,ZY,ZZ,Ye,Yf,Yi,Yj,Yk,Yl,Yp,Yq,Ys,Yt,Yu,Yy,Yz,YX,YZ,Xb,Xd,Xi,Xl,Xo,Xr,Xt,Xu,Xv,Xx,Wq,Ws,Wy,Wz,W0,W3,W4,W5,W6,W7,W8,WA,WB,WF,WG,WI,WJ,WK,WL,WM,WN,WO,WP,WQ,WR,WS,WT,WW,WX,Vd,Vg,Vh,Vi,Vk,Vp,Vu,Vw,Vx,Vz,V0,V2,VP,VQ,VR,VS,VT,VU,VY,VZ,Ua,Ub,Uc,Ue,Uf,Ug,Uh,Ui,Uj,Ul,Uo,Uq,Ur,Ut,Uw,Ux,Uy,Uz,U0,U1,U2,U3,U4,U5,U6,U7,UE,Tc,Td,Te,Tf,Tg,Th,Ti,Tj,Tq,Tr,Tt,Tv,Tw,Tz,T2,T3,T4,TH,Sn,Sq,S9,SA,SB,SD,SE,SF,a1,a2,n1,n0,e1,o1,wlen,gw,gl,d1,d2,kk,k0,g29];all_goals tactic=>exact rfl))
   ·have gv:=fZ hv
    have d3:((v:Int)=(f:Int))=False:=eq_false (by omega)
    generalize dE (el (needN x))=ls at *
    generalize (el (needN x)).length=ll at *
    generalize dE wl=ws at *
    unfold aBw
    dsimp only
    (sym=>(simp[Za,Zb,Zc,Zf,Zg,Zh,Zi,Zj,Zl,Zm,Zp,Zq,Zr,Zs,Zv,Zw,Zy,Z3,Z4,Z8,ZA,ZF,ZG,ZH,ZI,ZK,ZL,ZM,ZN,ZO,ZP,ZQ,ZU,ZV,ZW,ZX,ZY,ZZ,Ye,Yf,Yi,Yj,Yk,Yl,Yp,Yq,Ys,Yt,Yu,Yy,Yz,YX,YZ,Xb,Xd,Xi,Xl,Xo,Xr,Xt,Xu,Xv,Xx,Wq,Ws,Wy,Wz,W0,W3,W4,W5,W6,W7,W8,WA,WB,WF,WG,WI,WJ,WK,WL,WM,WN,WO,WP,WQ,WR,WS,WT,WW,WX,Vd,Vg,Vh,Vi,Vk,Vp,Vu,Vw,Vx,Vz,V0,V2,VP,VQ,VR,VS,VT,VU,VY,VZ,Ua,Ub,Uc,Ue,Uf,Ug,Uh,Ui,Uj,Ul,Uo,Uq,Ur,Ut,Uw,Ux,Uy,Uz,U0,U1,U2,U3,U4,U5,U6,U7,UE,Tc,Td,Te,Tf,Tg,Th,Ti,Tj,Tq,Tr,Tt,Tv,Tw,Tz,T2,T3,T4,TH,Sn,Sq,S9,SA,SB,SD,SE,SF,a1,a2,n1,n0,e1,o1,wlen,gw,gl,d1,d2,kk,k0,g29,gv,d3];all_goals tactic=>exact rfl))
  ·exact absurd h hnd
 ·have hnd:ndP x f:=(hb.1 hbit).2
  have d1:((wf:Int)=(cn:Int))=True:=eq_true (by have:=hwn.2 hnd;omega)
  have hv:=aIx (d:=f) (by omega) hbit
  have gv:=fZ hv
  have kk:(((mG (needN x) f).length:Int)<((el (needN x)).length:Int))=True:=eq_true (by have:=gD hv;omega)
  have d3:((f:Int)=(f:Int))=True:=eq_true rfl
  rw[if_pos rfl,List.length_append,List.length_singleton]
  have k1:IntKind.i64.wrap (((mG (needN x) f).length:Int)+1)=(((mG (needN x) f).length+1:Nat):Int):=by rw[aD (by omega) (by omega)];omega
  rcases hcut with ⟨m,hm,os,hos,g29⟩|⟨_,g29⟩
  ·have hmn:n<m:=(zR hn hm).1 hnd
   have d2:((os.length:Int)=(n:Int))=False:=eq_false (by omega)
   generalize (mG (needN x) f).length=kf at *
   generalize dE (el (needN x))=ls at *
   generalize (el (needN x)).length=ll at *
   generalize dE wl=ws at *
   unfold aBw
   dsimp only
   (sym=>(simp[Za,Zb,Zc,Zf,Zg,Zh,Zi,Zj,Zl,Zm,Zp,Zq,Zr,Zs,Zv,Zw,Zy,Z3,Z4,Z8,ZA,ZF,ZG,ZH,ZI,ZK,ZL,ZM,ZN,ZO,ZP,ZQ,ZU,ZV,ZW,ZX,ZY,ZZ,Ye,Yf,Yi,Yj,Yk,Yl,Yp,Yq,Ys,Yt,Yu,Yy,Yz,YX,YZ,Xb,Xd,Xi,Xl,Xo,Xr,Xt,Xu,Xv,Xx,Wq,Ws,Wy,Wz,W0,W3,W4,W5,W6,W7,W8,WA,WB,WF,WG,WI,WJ,WK,WL,WM,WN,WO,WP,WQ,WR,WS,WT,WW,WX,Vd,Vg,Vh,Vi,Vk,Vq,Vu,Vw,Vx,Vz,V0,V2,VP,VQ,VR,VS,VT,VU,VY,VZ,Ua,Ub,Uc,Ue,Uf,Ug,Uh,Ui,Uj,Ul,Uo,Uq,Ur,Ut,Uw,Ux,Uy,Uz,U0,U1,U2,U3,U4,U5,U6,U7,UE,Tc,Td,Te,Tf,Tg,Th,Ti,Tj,Tq,Tr,Tt,Tv,Tw,Tz,T2,T3,T4,TH,Sn,Sp,S9,SA,SB,SD,SE,SF,a1,a2,n1,n0,e1,o1,wlen,gw,gl,d1,d2,d3,kk,k0,k1,g29,gv];all_goals tactic=>exact rfl))
  ·generalize (mG (needN x) f).length=kf at *
   generalize dE (el (needN x))=ls at *
   generalize (el (needN x)).length=ll at *
   generalize dE wl=ws at *
   unfold aBw
   dsimp only
   (sym=>(simp[Za,Zb,Zc,Zf,Zg,Zh,Zi,Zj,Zl,Zm,Zp,Zq,Zr,Zs,Zv,Zw,Zy,Z3,Z4,Z8,ZA,ZF,ZG,ZH,ZI,ZK,ZL,ZM,ZN,ZO,ZP,ZQ,ZU,ZV,ZW,ZX,ZY,ZZ,Ye,Yf,Yi,Yj,Yk,Yl,Yp,Yq,Ys,Yt,Yu,Yy,Yz,YX,YZ,Xb,Xd,Xi,Xl,Xo,Xr,Xt,Xu,Xv,Xx,Wq,Ws,Wy,Wz,W0,W3,W4,W5,W6,W7,W8,WA,WB,WF,WG,WI,WJ,WK,WL,WM,WN,WO,WP,WQ,WR,WS,WT,WW,WX,Vd,Vg,Vh,Vi,Vk,Vq,Vu,Vw,Vx,Vz,V0,V2,VP,VQ,VR,VS,VT,VU,VY,VZ,Ua,Ub,Uc,Ue,Uf,Ug,Uh,Ui,Uj,Ul,Uo,Uq,Ur,Ut,Uw,Ux,Uy,Uz,U0,U1,U2,U3,U4,U5,U6,U7,UE,Tc,Td,Te,Tf,Tg,Th,Ti,Tj,Tq,Tr,Tt,Tv,Tw,Tz,T2,T3,T4,TH,Sn,Sp,S9,SA,SB,SD,SE,SF,a1,a2,n1,n0,e1,o1,wlen,gw,gl,d1,d3,kk,k0,k1,g29,gv];all_goals tactic=>exact rfl))
end
theorem w9 {l:La} (hl:l.Ok):runW aA 9 [.agg l.c] []=some (.bool true,[]):=by
 have e36:=w36 hl
 have ok:=l.md_ok
 generalize l.md=x at *
 have hF:=ok.F16
 cases hh:lD x
 ·have g31:=aLX ok hh
  have g39:=aLW ok hh
  rw[r9 (by simp)];unfold x9;dsimp only
  (sym=>(simp[Za,Zb,Zc,Zf,Zg,Zh,Zj,Zl,Zm,Zo,Zp,Zq,Zv,Zw,Zy,Zz,Z3,ZF,ZG,ZH,ZL,ZM,ZP,ZQ,ZU,ZV,ZW,Yf,Yk,Ys,Yu,YB,YX,YY,YZ,Xb,Xi,Xk,Xl,Xo,Xr,Xs,Xt,Xu,Xv,XK,We,Wf,Wg,Wi,Ws,Wz,W0,W3,W4,W5,W6,W7,W8,W9,WA,WI,WL,WM,WN,WO,WP,WQ,WS,WT,Vg,Vh,Vi,Vu,Vw,Vx,Vz,V0,V2,V8,V9,VB,VC,VD,VE,VF,VI,VJ,VK,VL,VN,VS,VT,VX,VY,VZ,Ua,Ub,Uc,Ue,Uf,Ug,Ul,Ut,Ux,U1,U2,U3,U4,U5,U6,U7,UC,UD,UE,UN,UO,Tc,Td,Tg,Ti,Tj,Tk,Tq,Tr,Ts,Tw,Ty,T3,T4,Sr,S9,SA,SB,SD,SE,SF,e36,g31,g39,aCO];all_goals tactic=>exact rfl))
 ·have g31:=w31 ok hh
  obtain⟨n,hn,_,g39⟩:=w39 ok hh
  have z:=Tb (n:=(x.F:Int))
  have ln:((n:Int)<0)=False:=eq_false (by omega)
  have gl:=bX (el (needN x))
  have kF:=aGC (aDh (x:=x) hF) hF
  have k0:(mG (needN x) 0).length=0:=rfl
  have rd:=fun f (hf:f<x.F)=>aJr ok hn (f:=f) rfl rfl hf
  generalize (List.range x.F).map (mM x n (2^x.F))=wl at *
  generalize oO x n (2^x.F)=cn at *
  rw[r9 (by simp)];unfold x9;dsimp only
  sym =>
   simp[Za,Zb,Zc,Zf,Zg,Zh,Zj,Zl,Zm,Zo,Zv,Zw,Zz,Z3,ZF,ZH,ZL,ZM,ZP,ZQ,ZU,ZV,Yk,Yt,Yu,YX,YZ,Xb,Xi,Xk,Xl,Xo,Xr,Xt,Xu,Xv,We,Wg,Wi,Ws,Wz,W0,W3,W4,W5,W6,W7,W8,W9,WA,WI,WL,WN,WS,WT,Vg,Vh,Vi,Vu,Vw,Vx,Vz,V0,V2,VN,VS,VU,VX,VY,VZ,Ua,Ub,Uc,Uf,Ug,Ul,Uo,Ut,Ux,Uy,U1,U2,U3,U4,U5,U6,U7,UC,UD,UE,UN,UO,Tc,Td,Tg,Ti,Tj,Tk,Tq,Tr,Tt,Tv,Tw,T3,T4,S9,SA,SB,SD,SE,SF,e36,g31,g39,ln]
   tactic =>
    unfold aBw
    rw[aF x.F (fun f=>s9 (needN x) n cn wl f) (fun _=>aCe x)]
    ·unfold s9
     rw[kF]; (sym=>(simp[Za,Zb,Zf,Zh,Zl,Zm,Zp,Zq,Zv,Zy,Z3,Z8,ZG,ZH,ZP,ZQ,ZU,ZV,ZW,Ye,Yf,Ys,Yu,YY,Xs,XK,Wf,Wz,W0,W3,W8,WA,WI,WL,WM,WN,WO,WP,WQ,WS,WT,Vg,Vh,Vi,Vu,V8,V9,VB,VC,VD,VE,VF,VI,VJ,VK,VL,VP,VS,VU,VZ,Uc,Ue,Uf,Ug,Uh,Ux,Uy,U1,U2,U3,U4,Tb,Tc,Td,Th,Tq,Tr,Ts,Tu,Tw,Tx,T1,T3,T4,Sr,z,gl,aCO];all_goals tactic=>exact rfl))
    ·unfold s9
     rw[k0]; (sym=>(simp[Za,YB,YX,Xb,Xd,Xr,Xv,Xx,Wz,WB,WF,WG,WI,WJ,WK,WM,WO,WP,WQ,WR,WW,WX,Vd,VQ,VR,VY,VZ,Ub,Uc,Ue,Uj,Uw,U2,U3,U4,U5,T2,TH];all_goals tactic=>exact rfl))
    ·exact rd
    ·unfold s9
     rw[kF]; (sym=>(simp[Za,Zb,Zf,Zh,Zl,Zm,Zv,Z3,Z8,ZH,Ye,Yu,Wz,W0,W3,WA,VP,VS,VU,VV,Uy,Tb,Tc,Td,Th,Tq,Tr,Tu,Tw,Tx,T3,z];all_goals tactic=>exact rfl))
end Go.Proofs.YtiabjdfdkiijmaaDoor
