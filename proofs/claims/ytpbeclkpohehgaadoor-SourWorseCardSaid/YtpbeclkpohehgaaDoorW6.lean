/- Parts of a proof, joined: K47 K48 K49 K50 K51 K52 K53 K54 K55 K56 K57 K58 K59 K60 K61 K62 K63 K64 K65 K66 K67 K68 K69 K70 K71 K72 K73 K74 K75 K76 K77 K78 K79 K80. No statement of the seed is proved here. -/
import Derived.Test.YtpbeclkpohehgaaDoorW5
set_option linter.unusedSimpArgs false
set_option linter.unusedVariables false
set_option linter.unusedSectionVars false
namespace Go.Proofs.YtpbeclkpohehgaaDoor
open Go Go.DL
set_option maxRecDepth 100000
set_option maxHeartbeats 4000000
theorem w44 (a b : Int) : runW progX 44 [I a,I b] [] = some (.agg [I a,I b],[]) := by
  rw [r44 (by simp)]; unfold x44; dsimp only
  (sym => (simp [irem2,iquo2,remF,Za,Zb,Zc,Zd,Ze,Zf,Zh,Zl,Zm,Zt,Zu,Zy,ZH,ZI,YK,YN,YP,Xb,Xl,Xn,Xx,Xz,XZ,Wb,Wj,Wk,Wv,Ww,Wx,Wy,Wz,W0,W3,W4,W5,WE,WI,WK,WL,WM,Vo,V2,V3,V5,V6,V7,V8,V9,VC,VD,VE,VG,VH,VQ,VR,VS,VT,VU,VV,VX,VY,VZ,Uf,Un,Uy,Uz,U0,U1,U2,U3,U4,U5,U8,U9,UA,UB,UC,UD,UV,UW,UZ,Tb,Tc,Tm,Tn,Ts,Tz,Sm]; all_goals tactic => exact rfl))
abbrev P5.ld (x : P5) : Ld := ⟨((x.e % 2 : Nat) : Int),(x.a : Int),((x.a + x.b % 50 : Nat) : Int),((1 + x.c % 60 : Nat) : Int),((1 + x.c % 60 + x.d % 30 : Nat) : Int)⟩
section
variable {q : Qu}
abbrev hN0 (q : Qu) : XH := [some (.blk true (.cells true q.c)),bZ,some (.blk false (.cells true [.sl 3 0 1 2,.nilsl,.nilsl,I (q.s0 : Nat),I ((q.s0 + q.s1 : Nat) : Int)])),some (.blk true (.cells true [rS (mdK q.k0),rS (mdK q.k1)])),some (.blk true (.cells true [.nilsl,.nilsl,.nilsl]))]
abbrev hN (q : Qu) (L : List Ld) (n : Nat) (cs : List AV) (bs : XH) : XH := [some (.blk true (.cells true q.c)),bZ,some (.blk false (.cells true [.sl 3 0 1 2,.sl 4 0 5 n,.nilsl,I (q.s0 : Nat),I ((q.s0 + q.s1 : Nat) : Int)])),some (.blk true (.cells true [rS (mdK q.k0),rS (mdK q.k1)])),some (.blk true (.cells true (cL L))),some (.blk false (.cells true cs))] ++ bs
structure LdF (x : P5) : Prop where
  wa : IntKind.i64.wrap (x.a : Int) = (x.a : Int)
  wb : IntKind.i64.wrap (x.b : Int) = (x.b : Int)
  wc : IntKind.i64.wrap (x.c : Int) = (x.c : Int)
  wd : IntKind.i64.wrap (x.d : Int) = (x.d : Int)
  we : IntKind.i64.wrap (x.e : Int) = (x.e : Int)
  m60 : tmZ (x.c : Int) 60 = ((x.c % 60 : Nat) : Int)
  m2 : tmZ (x.e : Int) 2 = ((x.e % 2 : Nat) : Int)
  m50 : tmZ (x.b : Int) 50 = ((x.b % 50 : Nat) : Int)
  m30 : tmZ (x.d : Int) 30 = ((x.d % 30 : Nat) : Int)
  d2 : tdZ (x.e : Int) 2 = ((x.e / 2 : Nat) : Int)
  wd2 : IntKind.i64.wrap (((x.e / 2 : Nat) : Int)) = ((x.e / 2 : Nat) : Int)
  m3 : tmZ ((x.e / 2 : Nat) : Int) 3 = ((x.e / 2 % 3 : Nat) : Int)
  s1 : IntKind.i64.wrap (1 + ((x.c % 60 : Nat) : Int)) = ((1 + x.c % 60 : Nat) : Int)
  s2 : IntKind.i64.wrap ((x.a : Int) + ((x.b % 50 : Nat) : Int)) = ((x.a + x.b % 50 : Nat) : Int)
  s3 : IntKind.i64.wrap (((1 + x.c % 60 : Nat) : Int) + ((x.d % 30 : Nat) : Int)) = ((1 + x.c % 60 + x.d % 30 : Nat) : Int)
theorem ldF {x : P5} (h : x.a < 256 ∧ x.b < 256 ∧ x.c < 256 ∧ x.d < 256 ∧ x.e < 256) : LdF x := by
  obtain ⟨h1,h2,h3,h4,h5⟩ := h
  refine ⟨wr8 h1,wr8 h2,wr8 h3,wr8 h4,wr8 h5,tmod_n _ 60,tmod_n _ 2,tmod_n _ 50,tmod_n _ 30,tdiv_n _ 2,?_,tmod_n _ 3,?_,?_,?_⟩
  all_goals rw [wrap_ok (by omega) (by omega)]
  all_goals omega

theorem r39_000_0 (hq : q.Ok) {x : P5} (hx : q.ls[0]? = some x) (ht : x.e / 2 % 3 = 0) :
    headX 0 [1,2,3,10,11] (execW progX 39 0 none (match x39l2 with | .loop _ a => a | c => c) (envL [1,2,3,10,11] [.pt 0 0,.pt 1 0,.pt 2 0,.pt 4 0,I 0]) (hN0 q)) =
      some ([.pt 0 0,.pt 1 0,.pt 2 0,.pt 5 0,I 1],hN q [x.ld] 1 [.sl 6 0 1 (1),.nilsl,.nilsl] [some (.blk true (.cells true ([I 0])))]) := by
  obtain ⟨wa,wb,wc,wd,we,m60,m2,m50,m30,d2,wd2,m3,s1,s2,s3⟩ := ldF (hq.ls x (List.mem_of_getElem? hx))
  have a1 : ((0 : Int) < (q.ls.length : Int)) = True := eq_true (by have := lt_of hx; omega)
  have c1 : cL [x.ld] = [I (x.e % 2 : Nat),I (x.a : Nat),I (x.a + x.b % 50 : Nat),I (1 + x.c % 60 : Nat),I (1 + x.c % 60 + x.d % 30 : Nat)] := rfl
  rw [ht] at m3
  unfold hN
  rw [c1]
  generalize x.e % 2 = ee at *
  generalize 1 + x.c % 60 + x.d % 30 = cd at *
  generalize 1 + x.c % 60 = cc at *
  generalize x.a + x.b % 50 = ab at *
  generalize x.e / 2 = e2 at *
  generalize x.d % 30 = dd at *
  generalize x.c % 60 = c6 at *
  generalize x.b % 50 = bb at *
  unfold x39l2
  dsimp only
  rcases ptf ((128 : Int) < (x.e : Int)) with h8 | h8
  · (sym => (simp [irem2,iquo2,remF,Za,Zb,Zc,Zd,Ze,Zf,Zh,Zi,Zl,Zm,Zn,Zo,Zp,Zr,Zt,Zu,Zw,Zy,Zz,Z1,Z3,Z4,Z5,Z6,ZB,ZD,ZE,ZG,ZH,ZI,ZJ,ZK,ZN,ZO,ZP,ZQ,ZR,ZS,ZT,ZV,ZW,ZY,Ya,Yc,Ye,Yg,Yo,Yq,Yt,Yy,Yz,Y0,Y2,Y4,Y5,Y6,Y8,YA,YK,YN,YT,YU,YX,Xb,Xc,Xe,Xl,Xn,Xq,Xr,Xt,Wj,Wk,Wm,Wt,Wu,Wv,Ww,Wx,Wy,Wz,W0,W3,W4,W6,W7,W8,WA,WB,WE,WF,WG,WH,WI,WJ,WK,WL,WM,WN,WO,WP,WS,WT,WU,WY,WZ,Vb,Vc,Vd,Vf,Vg,Vh,Vj,VI,VJ,VK,VL,VM,VN,VR,VS,VT,VU,VV,VX,VY,VZ,Ua,Ub,Uc,Uf,Uh,Uj,Uk,Ul,Un,Us,Ut,Uu,Uv,Uw,Ux,Uy,Uz,U0,U1,U2,U3,UA,UB,UC,UD,UI,UJ,UK,UL,UO,UP,UQ,UR,UV,UW,UX,UY,UZ,Ta,Tb,Tc,Tf,Th,Ti,Tk,Tl,Tm,Tp,Tr,Ts,Tv,Ty,Tz,T3,T8,TB,Si,Sk,Sl,a1,hx,wa,wb,wc,wd,we,m60,m2,m50,m30,d2,wd2,m3,s1,s2,s3,w44,h8]; all_goals tactic => exact rfl))
  · (sym => (simp [irem2,iquo2,remF,Za,Zb,Zc,Zd,Ze,Zf,Zh,Zi,Zl,Zm,Zn,Zo,Zp,Zr,Zt,Zu,Zw,Zy,Zz,Z1,Z3,Z4,Z5,Z6,ZB,ZD,ZE,ZG,ZH,ZI,ZJ,ZK,ZN,ZO,ZP,ZQ,ZR,ZS,ZT,ZV,ZW,ZY,Ya,Yc,Ye,Yg,Yo,Yq,Yt,Yy,Yz,Y0,Y2,Y4,Y5,Y6,Y8,YA,YK,YN,YT,YU,YX,Xb,Xc,Xe,Xl,Xn,Xq,Xr,Xt,Wj,Wk,Wm,Wt,Wu,Wv,Ww,Wx,Wy,Wz,W0,W3,W4,W6,W7,W8,WA,WB,WE,WF,WG,WH,WI,WJ,WK,WL,WM,WN,WO,WP,WS,WT,WU,WY,WZ,Vb,Vc,Vd,Vf,Vg,Vh,Vj,VI,VJ,VK,VL,VM,VN,VR,VS,VT,VU,VV,VX,VY,VZ,Ua,Ub,Uc,Uf,Uh,Uj,Uk,Ul,Un,Us,Ut,Uu,Uv,Uw,Ux,Uy,Uz,U0,U1,U2,U3,UA,UB,UC,UD,UI,UJ,UK,UL,UO,UP,UQ,UR,UV,UW,UX,UY,UZ,Ta,Tb,Tc,Tf,Th,Ti,Tk,Tl,Tm,Tp,Tr,Ts,Tv,Ty,Tz,T3,T8,TB,Si,Sk,Sl,a1,hx,wa,wb,wc,wd,we,m60,m2,m50,m30,d2,wd2,m3,s1,s2,s3,w44,h8]; all_goals tactic => exact rfl))
theorem r39_000_1 (hq : q.Ok) {x : P5} (hx : q.ls[0]? = some x) (ht : x.e / 2 % 3 = 1) :
    headX 0 [1,2,3,10,11] (execW progX 39 0 none (match x39l2 with | .loop _ a => a | c => c) (envL [1,2,3,10,11] [.pt 0 0,.pt 1 0,.pt 2 0,.pt 4 0,I 0]) (hN0 q)) =
      some ([.pt 0 0,.pt 1 0,.pt 2 0,.pt 5 0,I 1],hN q [x.ld] 1 [.nilsl,.sl 6 0 1 (1),.nilsl] [some (.blk true (.cells true ([I 0])))]) := by
  obtain ⟨wa,wb,wc,wd,we,m60,m2,m50,m30,d2,wd2,m3,s1,s2,s3⟩ := ldF (hq.ls x (List.mem_of_getElem? hx))
  have a1 : ((0 : Int) < (q.ls.length : Int)) = True := eq_true (by have := lt_of hx; omega)
  have c1 : cL [x.ld] = [I (x.e % 2 : Nat),I (x.a : Nat),I (x.a + x.b % 50 : Nat),I (1 + x.c % 60 : Nat),I (1 + x.c % 60 + x.d % 30 : Nat)] := rfl
  rw [ht] at m3
  unfold hN
  rw [c1]
  generalize x.e % 2 = ee at *
  generalize 1 + x.c % 60 + x.d % 30 = cd at *
  generalize 1 + x.c % 60 = cc at *
  generalize x.a + x.b % 50 = ab at *
  generalize x.e / 2 = e2 at *
  generalize x.d % 30 = dd at *
  generalize x.c % 60 = c6 at *
  generalize x.b % 50 = bb at *
  unfold x39l2
  dsimp only
  rcases ptf ((128 : Int) < (x.e : Int)) with h8 | h8
  · (sym => (simp [irem2,iquo2,remF,Za,Zb,Zc,Zd,Ze,Zf,Zh,Zi,Zl,Zm,Zn,Zo,Zp,Zr,Zt,Zu,Zw,Zy,Zz,Z1,Z3,Z4,Z5,Z6,ZB,ZD,ZE,ZG,ZH,ZI,ZJ,ZK,ZN,ZO,ZP,ZQ,ZR,ZS,ZT,ZV,ZW,ZY,Ya,Yc,Ye,Yg,Yo,Yq,Yt,Yy,Y0,Y1,Y2,Y4,Y5,Y6,Y8,YA,YK,YN,YT,YU,YX,Xb,Xc,Xe,Xl,Xn,Xq,Xr,Xt,Wj,Wk,Wm,Wt,Wu,Wv,Ww,Wx,Wy,Wz,W0,W3,W4,W6,W7,W8,WA,WB,WE,WF,WG,WH,WI,WJ,WK,WL,WM,WN,WO,WP,WS,WT,WU,WY,WZ,Vb,Vc,Vd,Vf,Vg,Vh,Vj,VI,VJ,VK,VL,VM,VN,VR,VS,VT,VU,VV,VX,VY,VZ,Ua,Ub,Uc,Uf,Uh,Uj,Uk,Ul,Un,Us,Ut,Uu,Uv,Uw,Ux,Uy,Uz,U0,U1,U2,U3,UA,UB,UC,UD,UI,UJ,UK,UL,UO,UP,UQ,UR,UV,UW,UX,UY,UZ,Ta,Tb,Tc,Tf,Th,Ti,Tk,Tl,Tm,Tp,Tr,Ts,Tv,Ty,Tz,T3,T8,TB,Si,Sk,Sl,a1,hx,wa,wb,wc,wd,we,m60,m2,m50,m30,d2,wd2,m3,s1,s2,s3,w44,h8]; all_goals tactic => exact rfl))
  · (sym => (simp [irem2,iquo2,remF,Za,Zb,Zc,Zd,Ze,Zf,Zh,Zi,Zl,Zm,Zn,Zo,Zp,Zr,Zt,Zu,Zw,Zy,Zz,Z1,Z3,Z4,Z5,Z6,ZB,ZD,ZE,ZG,ZH,ZI,ZJ,ZK,ZN,ZO,ZP,ZQ,ZR,ZS,ZT,ZV,ZW,ZY,Ya,Yc,Ye,Yg,Yo,Yq,Yt,Yy,Y0,Y1,Y2,Y4,Y5,Y6,Y8,YA,YK,YN,YT,YU,YX,Xb,Xc,Xe,Xl,Xn,Xq,Xr,Xt,Wj,Wk,Wm,Wt,Wu,Wv,Ww,Wx,Wy,Wz,W0,W3,W4,W6,W7,W8,WA,WB,WE,WF,WG,WH,WI,WJ,WK,WL,WM,WN,WO,WP,WS,WT,WU,WY,WZ,Vb,Vc,Vd,Vf,Vg,Vh,Vj,VI,VJ,VK,VL,VM,VN,VR,VS,VT,VU,VV,VX,VY,VZ,Ua,Ub,Uc,Uf,Uh,Uj,Uk,Ul,Un,Us,Ut,Uu,Uv,Uw,Ux,Uy,Uz,U0,U1,U2,U3,UA,UB,UC,UD,UI,UJ,UK,UL,UO,UP,UQ,UR,UV,UW,UX,UY,UZ,Ta,Tb,Tc,Tf,Th,Ti,Tk,Tl,Tm,Tp,Tr,Ts,Tv,Ty,Tz,T3,T8,TB,Si,Sk,Sl,a1,hx,wa,wb,wc,wd,we,m60,m2,m50,m30,d2,wd2,m3,s1,s2,s3,w44,h8]; all_goals tactic => exact rfl))
theorem r39_000_2 (hq : q.Ok) {x : P5} (hx : q.ls[0]? = some x) (ht : x.e / 2 % 3 = 2) :
    headX 0 [1,2,3,10,11] (execW progX 39 0 none (match x39l2 with | .loop _ a => a | c => c) (envL [1,2,3,10,11] [.pt 0 0,.pt 1 0,.pt 2 0,.pt 4 0,I 0]) (hN0 q)) =
      some ([.pt 0 0,.pt 1 0,.pt 2 0,.pt 5 0,I 1],hN q [x.ld] 1 [.nilsl,.nilsl,.sl 6 0 1 (1)] [some (.blk true (.cells true ([I 0])))]) := by
  obtain ⟨wa,wb,wc,wd,we,m60,m2,m50,m30,d2,wd2,m3,s1,s2,s3⟩ := ldF (hq.ls x (List.mem_of_getElem? hx))
  have a1 : ((0 : Int) < (q.ls.length : Int)) = True := eq_true (by have := lt_of hx; omega)
  have c1 : cL [x.ld] = [I (x.e % 2 : Nat),I (x.a : Nat),I (x.a + x.b % 50 : Nat),I (1 + x.c % 60 : Nat),I (1 + x.c % 60 + x.d % 30 : Nat)] := rfl
  rw [ht] at m3
  unfold hN
  rw [c1]
  generalize x.e % 2 = ee at *
  generalize 1 + x.c % 60 + x.d % 30 = cd at *
  generalize 1 + x.c % 60 = cc at *
  generalize x.a + x.b % 50 = ab at *
  generalize x.e / 2 = e2 at *
  generalize x.d % 30 = dd at *
  generalize x.c % 60 = c6 at *
  generalize x.b % 50 = bb at *
  unfold x39l2
  dsimp only
  rcases ptf ((128 : Int) < (x.e : Int)) with h8 | h8
  · (sym => (simp [irem2,iquo2,remF,Za,Zb,Zc,Zd,Ze,Zf,Zh,Zi,Zl,Zm,Zn,Zo,Zp,Zr,Zt,Zu,Zw,Zy,Zz,Z1,Z3,Z4,Z5,Z6,ZB,ZD,ZE,ZG,ZH,ZI,ZJ,ZK,ZN,ZO,ZP,ZQ,ZR,ZS,ZT,ZV,ZW,ZY,Ya,Yc,Ye,Yg,Yo,Yq,Yt,Yy,Y0,Y2,Y3,Y4,Y5,Y6,Y8,YA,YK,YN,YT,YU,YX,Xb,Xc,Xe,Xl,Xn,Xq,Xr,Xt,Wj,Wk,Wm,Wt,Wu,Wv,Ww,Wx,Wy,Wz,W0,W3,W4,W6,W7,W8,WA,WB,WE,WF,WG,WH,WI,WJ,WK,WL,WM,WN,WO,WP,WS,WT,WU,WY,WZ,Vb,Vc,Vd,Vf,Vg,Vh,Vj,VI,VJ,VK,VL,VM,VN,VR,VS,VT,VU,VV,VX,VY,VZ,Ua,Ub,Uc,Uf,Uh,Uj,Uk,Ul,Un,Us,Ut,Uu,Uv,Uw,Ux,Uy,Uz,U0,U1,U2,U3,UA,UB,UC,UD,UI,UJ,UK,UL,UO,UP,UQ,UR,UV,UW,UX,UY,UZ,Ta,Tb,Tc,Tf,Th,Ti,Tk,Tl,Tm,Tp,Tr,Ts,Tv,Ty,Tz,T3,T8,TB,Si,Sk,Sl,a1,hx,wa,wb,wc,wd,we,m60,m2,m50,m30,d2,wd2,m3,s1,s2,s3,w44,h8]; all_goals tactic => exact rfl))
  · (sym => (simp [irem2,iquo2,remF,Za,Zb,Zc,Zd,Ze,Zf,Zh,Zi,Zl,Zm,Zn,Zo,Zp,Zr,Zt,Zu,Zw,Zy,Zz,Z1,Z3,Z4,Z5,Z6,ZB,ZD,ZE,ZG,ZH,ZI,ZJ,ZK,ZN,ZO,ZP,ZQ,ZR,ZS,ZT,ZV,ZW,ZY,Ya,Yc,Ye,Yg,Yo,Yq,Yt,Yy,Y0,Y2,Y3,Y4,Y5,Y6,Y8,YA,YK,YN,YT,YU,YX,Xb,Xc,Xe,Xl,Xn,Xq,Xr,Xt,Wj,Wk,Wm,Wt,Wu,Wv,Ww,Wx,Wy,Wz,W0,W3,W4,W6,W7,W8,WA,WB,WE,WF,WG,WH,WI,WJ,WK,WL,WM,WN,WO,WP,WS,WT,WU,WY,WZ,Vb,Vc,Vd,Vf,Vg,Vh,Vj,VI,VJ,VK,VL,VM,VN,VR,VS,VT,VU,VV,VX,VY,VZ,Ua,Ub,Uc,Uf,Uh,Uj,Uk,Ul,Un,Us,Ut,Uu,Uv,Uw,Ux,Uy,Uz,U0,U1,U2,U3,UA,UB,UC,UD,UI,UJ,UK,UL,UO,UP,UQ,UR,UV,UW,UX,UY,UZ,Ta,Tb,Tc,Tf,Th,Ti,Tk,Tl,Tm,Tp,Tr,Ts,Tv,Ty,Tz,T3,T8,TB,Si,Sk,Sl,a1,hx,wa,wb,wc,wd,we,m60,m2,m50,m30,d2,wd2,m3,s1,s2,s3,w44,h8]; all_goals tactic => exact rfl))
theorem r39_001_0 (hq : q.Ok) {x : P5} {i : Nat} (hi : i < 5) (hx : q.ls[i]? = some x) (ht : x.e / 2 % 3 = 0) {L : List Ld} (hL : L.length = i) (a2 : Int) (r2 : List Int) (hr2 : r2.length ≤ 5) :
    headX 0 [1,2,3,10,11] (execW progX 39 0 none (match x39l2 with | .loop _ a => a | c => c) (envL [1,2,3,10,11] [.pt 0 0,.pt 1 0,.pt 2 0,.pt 5 0,I (i : Nat)]) (hN q L i [.nilsl,.nilsl,.sl 6 0 1 (r2.length + 1)] [some (.blk true (.cells true (I a2 :: r2.map I)))])) =
      some ([.pt 0 0,.pt 1 0,.pt 2 0,.pt 5 0,I (i + 1 : Nat)],hN q (L ++ [x.ld]) (i + 1) [.sl 6 0 1 (1),.nilsl,.sl 7 0 1 (r2.length + 1)] [some (.blk true (.cells true ([I (i : Nat)]))),some (.blk true (.cells true (I a2 :: r2.map I)))]) := by
  obtain ⟨wa,wb,wc,wd,we,m60,m2,m50,m30,d2,wd2,m3,s1,s2,s3⟩ := ldF (hq.ls x (List.mem_of_getElem? hx))
  have a1 := lt_ix (lt_of hx)
  have a2 := up_ix hi (by omega)
  have a5 : ((i : Int) < 5) = True := eq_true (by omega)
  have cl := cL_len L
  rw [hL] at cl
  have ca := cL_app L x.ld
  have l1 : ((i + 1) * 40 ≤ 1099511627776) = True := eq_true (by omega)
  have l2 : (i + 1 ≤ 1099511627776) = True := eq_true (by omega)
  rw [ht] at m3
  unfold hN
  rw [ca]
  unfold P5.ld Ld.row
  dsimp only
  clear ca
  generalize x.e % 2 = ee at *
  generalize 1 + x.c % 60 + x.d % 30 = cd at *
  generalize 1 + x.c % 60 = cc at *
  generalize x.a + x.b % 50 = ab at *
  generalize x.e / 2 = e2 at *
  generalize x.d % 30 = dd at *
  generalize x.c % 60 = c6 at *
  generalize x.b % 50 = bb at *
  generalize cL L = cL0 at *
  unfold x39l2
  dsimp only
  rcases ptf ((128 : Int) < (x.e : Int)) with h8 | h8
  · (sym => (simp [irem2,iquo2,remF,Za,Zb,Zc,Zd,Ze,Zf,Zh,Zi,Zl,Zm,Zn,Zo,Zp,Zr,Zt,Zu,Zw,Zy,Zz,Z1,Z3,Z4,Z5,Z6,ZB,ZD,ZE,ZG,ZH,ZI,ZJ,ZK,ZN,ZO,ZP,ZQ,ZR,ZS,ZT,ZV,ZW,ZY,Ya,Yc,Ye,Yg,Yo,Yq,Yr,Ys,Yy,Yz,Y0,Y2,Y4,Y5,Y6,Y8,YA,YK,YN,YT,YU,YX,Xb,Xc,Xe,Xl,Xn,Xq,Xr,Xt,Wj,Wk,Wm,Ws,Wt,Wv,Ww,Wx,Wy,Wz,W0,W3,W4,W6,W7,W8,WA,WB,WE,WF,WG,WH,WI,WJ,WK,WL,WM,WN,WO,WP,WS,WT,WU,WY,WZ,Vb,Vc,Vd,Vf,Vg,Vh,Vj,VI,VJ,VK,VL,VM,VN,VR,VS,VT,VU,VV,VX,VY,VZ,Ua,Ub,Uc,Uf,Uh,Uj,Uk,Ul,Un,Us,Ut,Uu,Uv,Uw,Ux,Uy,Uz,U0,U1,U2,U3,UA,UB,UC,UD,UI,UJ,UK,UL,UO,UP,UQ,UR,US,UT,UV,UW,UX,UY,UZ,Ta,Tb,Tc,Tf,Tg,Th,Ti,Tk,Tl,Tm,Tp,Tr,Ts,Tv,Ty,Tz,T3,T8,TB,Si,Sl,a1,a2,a5,cl,l1,l2,hx,wa,wb,wc,wd,we,m60,m2,m50,m30,d2,wd2,m3,s1,s2,s3,w44,h8]; all_goals tactic => exact rfl))
  · (sym => (simp [irem2,iquo2,remF,Za,Zb,Zc,Zd,Ze,Zf,Zh,Zi,Zl,Zm,Zn,Zo,Zp,Zr,Zt,Zu,Zw,Zy,Zz,Z1,Z3,Z4,Z5,Z6,ZB,ZD,ZE,ZG,ZH,ZI,ZJ,ZK,ZN,ZO,ZP,ZQ,ZR,ZS,ZT,ZV,ZW,ZY,Ya,Yc,Ye,Yg,Yo,Yq,Yr,Ys,Yy,Yz,Y0,Y2,Y4,Y5,Y6,Y8,YA,YK,YN,YT,YU,YX,Xb,Xc,Xe,Xl,Xn,Xq,Xr,Xt,Wj,Wk,Wm,Ws,Wt,Wv,Ww,Wx,Wy,Wz,W0,W3,W4,W6,W7,W8,WA,WB,WE,WF,WG,WH,WI,WJ,WK,WL,WM,WN,WO,WP,WS,WT,WU,WY,WZ,Vb,Vc,Vd,Vf,Vg,Vh,Vj,VI,VJ,VK,VL,VM,VN,VR,VS,VT,VU,VV,VX,VY,VZ,Ua,Ub,Uc,Uf,Uh,Uj,Uk,Ul,Un,Us,Ut,Uu,Uv,Uw,Ux,Uy,Uz,U0,U1,U2,U3,UA,UB,UC,UD,UI,UJ,UK,UL,UO,UP,UQ,UR,US,UT,UV,UW,UX,UY,UZ,Ta,Tb,Tc,Tf,Tg,Th,Ti,Tk,Tl,Tm,Tp,Tr,Ts,Tv,Ty,Tz,T3,T8,TB,Si,Sl,a1,a2,a5,cl,l1,l2,hx,wa,wb,wc,wd,we,m60,m2,m50,m30,d2,wd2,m3,s1,s2,s3,w44,h8]; all_goals tactic => exact rfl))
theorem r39_001_1 (hq : q.Ok) {x : P5} {i : Nat} (hi : i < 5) (hx : q.ls[i]? = some x) (ht : x.e / 2 % 3 = 1) {L : List Ld} (hL : L.length = i) (a2 : Int) (r2 : List Int) (hr2 : r2.length ≤ 5) :
    headX 0 [1,2,3,10,11] (execW progX 39 0 none (match x39l2 with | .loop _ a => a | c => c) (envL [1,2,3,10,11] [.pt 0 0,.pt 1 0,.pt 2 0,.pt 5 0,I (i : Nat)]) (hN q L i [.nilsl,.nilsl,.sl 6 0 1 (r2.length + 1)] [some (.blk true (.cells true (I a2 :: r2.map I)))])) =
      some ([.pt 0 0,.pt 1 0,.pt 2 0,.pt 5 0,I (i + 1 : Nat)],hN q (L ++ [x.ld]) (i + 1) [.nilsl,.sl 6 0 1 (1),.sl 7 0 1 (r2.length + 1)] [some (.blk true (.cells true ([I (i : Nat)]))),some (.blk true (.cells true (I a2 :: r2.map I)))]) := by
  obtain ⟨wa,wb,wc,wd,we,m60,m2,m50,m30,d2,wd2,m3,s1,s2,s3⟩ := ldF (hq.ls x (List.mem_of_getElem? hx))
  have a1 := lt_ix (lt_of hx)
  have a2 := up_ix hi (by omega)
  have a5 : ((i : Int) < 5) = True := eq_true (by omega)
  have cl := cL_len L
  rw [hL] at cl
  have ca := cL_app L x.ld
  have l1 : ((i + 1) * 40 ≤ 1099511627776) = True := eq_true (by omega)
  have l2 : (i + 1 ≤ 1099511627776) = True := eq_true (by omega)
  rw [ht] at m3
  unfold hN
  rw [ca]
  unfold P5.ld Ld.row
  dsimp only
  clear ca
  generalize x.e % 2 = ee at *
  generalize 1 + x.c % 60 + x.d % 30 = cd at *
  generalize 1 + x.c % 60 = cc at *
  generalize x.a + x.b % 50 = ab at *
  generalize x.e / 2 = e2 at *
  generalize x.d % 30 = dd at *
  generalize x.c % 60 = c6 at *
  generalize x.b % 50 = bb at *
  generalize cL L = cL0 at *
  unfold x39l2
  dsimp only
  rcases ptf ((128 : Int) < (x.e : Int)) with h8 | h8
  · (sym => (simp [irem2,iquo2,remF,Za,Zb,Zc,Zd,Ze,Zf,Zh,Zi,Zl,Zm,Zn,Zo,Zp,Zr,Zt,Zu,Zw,Zy,Zz,Z1,Z3,Z4,Z5,Z6,ZB,ZD,ZE,ZG,ZH,ZI,ZJ,ZK,ZN,ZO,ZP,ZQ,ZR,ZS,ZT,ZV,ZW,ZY,Ya,Yc,Ye,Yg,Yo,Yq,Yr,Ys,Yy,Y0,Y1,Y2,Y4,Y5,Y6,Y8,YA,YK,YN,YT,YU,YX,Xb,Xc,Xe,Xl,Xn,Xq,Xr,Xt,Wj,Wk,Wm,Ws,Wt,Wv,Ww,Wx,Wy,Wz,W0,W3,W4,W6,W7,W8,WA,WB,WE,WF,WG,WH,WI,WJ,WK,WL,WM,WN,WO,WP,WS,WT,WU,WY,WZ,Vb,Vc,Vd,Vf,Vg,Vh,Vj,VI,VJ,VK,VL,VM,VN,VR,VS,VT,VU,VV,VX,VY,VZ,Ua,Ub,Uc,Uf,Uh,Uj,Uk,Ul,Un,Us,Ut,Uu,Uv,Uw,Ux,Uy,Uz,U0,U1,U2,U3,UA,UB,UC,UD,UI,UJ,UK,UL,UO,UP,UQ,UR,US,UT,UV,UW,UX,UY,UZ,Ta,Tb,Tc,Tf,Tg,Th,Ti,Tk,Tl,Tm,Tp,Tr,Ts,Tv,Ty,Tz,T3,T8,TB,Si,Sl,a1,a2,a5,cl,l1,l2,hx,wa,wb,wc,wd,we,m60,m2,m50,m30,d2,wd2,m3,s1,s2,s3,w44,h8]; all_goals tactic => exact rfl))
  · (sym => (simp [irem2,iquo2,remF,Za,Zb,Zc,Zd,Ze,Zf,Zh,Zi,Zl,Zm,Zn,Zo,Zp,Zr,Zt,Zu,Zw,Zy,Zz,Z1,Z3,Z4,Z5,Z6,ZB,ZD,ZE,ZG,ZH,ZI,ZJ,ZK,ZN,ZO,ZP,ZQ,ZR,ZS,ZT,ZV,ZW,ZY,Ya,Yc,Ye,Yg,Yo,Yq,Yr,Ys,Yy,Y0,Y1,Y2,Y4,Y5,Y6,Y8,YA,YK,YN,YT,YU,YX,Xb,Xc,Xe,Xl,Xn,Xq,Xr,Xt,Wj,Wk,Wm,Ws,Wt,Wv,Ww,Wx,Wy,Wz,W0,W3,W4,W6,W7,W8,WA,WB,WE,WF,WG,WH,WI,WJ,WK,WL,WM,WN,WO,WP,WS,WT,WU,WY,WZ,Vb,Vc,Vd,Vf,Vg,Vh,Vj,VI,VJ,VK,VL,VM,VN,VR,VS,VT,VU,VV,VX,VY,VZ,Ua,Ub,Uc,Uf,Uh,Uj,Uk,Ul,Un,Us,Ut,Uu,Uv,Uw,Ux,Uy,Uz,U0,U1,U2,U3,UA,UB,UC,UD,UI,UJ,UK,UL,UO,UP,UQ,UR,US,UT,UV,UW,UX,UY,UZ,Ta,Tb,Tc,Tf,Tg,Th,Ti,Tk,Tl,Tm,Tp,Tr,Ts,Tv,Ty,Tz,T3,T8,TB,Si,Sl,a1,a2,a5,cl,l1,l2,hx,wa,wb,wc,wd,we,m60,m2,m50,m30,d2,wd2,m3,s1,s2,s3,w44,h8]; all_goals tactic => exact rfl))
theorem r39_001_2 (hq : q.Ok) {x : P5} {i : Nat} (hi : i < 5) (hx : q.ls[i]? = some x) (ht : x.e / 2 % 3 = 2) (h8 : ¬ 128 < x.e) {L : List Ld} (hL : L.length = i) (a2 : Int) (r2 : List Int) (hr2 : r2.length ≤ 5) :
    headX 0 [1,2,3,10,11] (execW progX 39 0 none (match x39l2 with | .loop _ a => a | c => c) (envL [1,2,3,10,11] [.pt 0 0,.pt 1 0,.pt 2 0,.pt 5 0,I (i : Nat)]) (hN q L i [.nilsl,.nilsl,.sl 6 0 1 (r2.length + 1)] [some (.blk true (.cells true (I a2 :: r2.map I)))])) =
      some ([.pt 0 0,.pt 1 0,.pt 2 0,.pt 5 0,I (i + 1 : Nat)],hN q (L ++ [x.ld]) (i + 1) [.nilsl,.nilsl,.sl 6 0 1 (r2.length + 1 + 1)] [some (.blk true (.cells true (I a2 :: (r2.map I ++ [I (i : Nat)]))))]) := by
  obtain ⟨wa,wb,wc,wd,we,m60,m2,m50,m30,d2,wd2,m3,s1,s2,s3⟩ := ldF (hq.ls x (List.mem_of_getElem? hx))
  have a1 := lt_ix (lt_of hx)
  have a2 := up_ix hi (by omega)
  have a5 : ((i : Int) < 5) = True := eq_true (by omega)
  have cl := cL_len L
  rw [hL] at cl
  have ca := cL_app L x.ld
  have l1 : ((i + 1) * 40 ≤ 1099511627776) = True := eq_true (by omega)
  have l2 : (i + 1 ≤ 1099511627776) = True := eq_true (by omega)
  rw [ht] at m3
  unfold hN
  rw [ca]
  unfold P5.ld Ld.row
  dsimp only
  clear ca
  generalize x.e % 2 = ee at *
  generalize 1 + x.c % 60 + x.d % 30 = cd at *
  generalize 1 + x.c % 60 = cc at *
  generalize x.a + x.b % 50 = ab at *
  generalize x.e / 2 = e2 at *
  generalize x.d % 30 = dd at *
  generalize x.c % 60 = c6 at *
  generalize x.b % 50 = bb at *
  generalize cL L = cL0 at *
  have g0 : ((0 : Int) < ((r2.length + 1 : Nat) : Int)) = True := eq_true (by omega)
  have b1 : ((r2.length + 1 + 1) * 8 ≤ 1099511627776) = True := eq_true (by omega)
  have b2 : (r2.length + 1 + 1 ≤ 1099511627776) = True := eq_true (by omega)
  have b3 : 1 + (r2.length + 1) = r2.length + 1 + 1 := by omega
  have b4 : r2.length + 1 - 1 = r2.length := rfl
  have b5 : List.take r2.length (r2.map I) = r2.map I := List.take_of_length_le (by simp)
  have h8 : ((128 : Int) < (x.e : Int)) = False := eq_false (by omega)
  unfold x39l2
  dsimp only
  (sym => (simp [irem2,iquo2,remF,Za,Zb,Zc,Zd,Ze,Zf,Zh,Zi,Zl,Zm,Zn,Zo,Zp,Zr,Zt,Zu,Zw,Zy,Zz,Z1,Z3,Z4,Z5,Z6,ZB,ZD,ZE,ZG,ZH,ZI,ZJ,ZK,ZN,ZO,ZP,ZQ,ZR,ZS,ZT,ZV,ZW,ZY,Yc,Ye,Yg,Yo,Yq,Yr,Ys,Yy,Y0,Y2,Y3,Y4,Y5,Y6,Y8,YA,YK,YN,YT,YU,YX,Xb,Xc,Xe,Xl,Xn,Xq,Xr,Xt,Wj,Wk,Wm,Ws,Wt,Wv,Ww,Wx,Wy,Wz,W0,W3,W4,W6,W7,W8,WA,WB,WE,WF,WG,WH,WI,WJ,WK,WL,WM,WN,WO,WP,WS,WT,WU,WY,WZ,Vb,Vc,Vd,Vf,Vg,Vh,Vj,VI,VJ,VK,VL,VM,VN,VR,VS,VT,VU,VV,VX,VY,VZ,Ua,Ub,Uc,Uf,Uh,Uj,Uk,Ul,Un,Us,Ut,Uu,Uv,Uw,Ux,Uy,Uz,U0,U1,U2,U3,UA,UB,UC,UD,UI,UJ,UK,UL,UO,UP,UQ,US,UT,UV,UW,UX,UY,UZ,Ta,Tb,Tc,Tf,Tg,Th,Ti,Tl,Tm,Tp,Tr,Ts,Tv,Ty,Tz,T3,T6,T8,TB,Si,Sl,a1,a2,a5,cl,l1,l2,hx,wa,wb,wc,wd,we,m60,m2,m50,m30,d2,wd2,m3,s1,s2,s3,w44,g0,b1,b2,b3,b4,b5,h8]; all_goals tactic => exact rfl))
theorem r39_001_2p (hq : q.Ok) {x : P5} {i : Nat} (hi : i < 5) (hx : q.ls[i]? = some x) (ht : x.e / 2 % 3 = 2) (h8 : 128 < x.e) {L : List Ld} (hL : L.length = i) (a2 : Int) (r2 : List Int) (hr2 : r2.length ≤ 5) :
    headX 0 [1,2,3,10,11] (execW progX 39 0 none (match x39l2 with | .loop _ a => a | c => c) (envL [1,2,3,10,11] [.pt 0 0,.pt 1 0,.pt 2 0,.pt 5 0,I (i : Nat)]) (hN q L i [.nilsl,.nilsl,.sl 6 0 1 (r2.length + 1)] [some (.blk true (.cells true (I a2 :: r2.map I)))])) =
      some ([.pt 0 0,.pt 1 0,.pt 2 0,.pt 5 0,I (i + 1 : Nat)],hN q (L ++ [x.ld]) (i + 1) [.nilsl,.nilsl,.sl 6 0 1 (r2.length + 1 + 1)] [some (.blk true (.cells true (I (i : Nat) :: I a2 :: r2.map I)))]) := by
  obtain ⟨wa,wb,wc,wd,we,m60,m2,m50,m30,d2,wd2,m3,s1,s2,s3⟩ := ldF (hq.ls x (List.mem_of_getElem? hx))
  have a1 := lt_ix (lt_of hx)
  have a2 := up_ix hi (by omega)
  have a5 : ((i : Int) < 5) = True := eq_true (by omega)
  have cl := cL_len L
  rw [hL] at cl
  have ca := cL_app L x.ld
  have l1 : ((i + 1) * 40 ≤ 1099511627776) = True := eq_true (by omega)
  have l2 : (i + 1 ≤ 1099511627776) = True := eq_true (by omega)
  rw [ht] at m3
  unfold hN
  rw [ca]
  unfold P5.ld Ld.row
  dsimp only
  clear ca
  generalize x.e % 2 = ee at *
  generalize 1 + x.c % 60 + x.d % 30 = cd at *
  generalize 1 + x.c % 60 = cc at *
  generalize x.a + x.b % 50 = ab at *
  generalize x.e / 2 = e2 at *
  generalize x.d % 30 = dd at *
  generalize x.c % 60 = c6 at *
  generalize x.b % 50 = bb at *
  generalize cL L = cL0 at *
  have g0 : ((0 : Int) < ((r2.length + 1 : Nat) : Int)) = True := eq_true (by omega)
  have b1 : ((r2.length + 1 + 1) * 8 ≤ 1099511627776) = True := eq_true (by omega)
  have b2 : (r2.length + 1 + 1 ≤ 1099511627776) = True := eq_true (by omega)
  have b3 : 1 + (r2.length + 1) = r2.length + 1 + 1 := by omega
  have b4 : r2.length + 1 - 1 = r2.length := rfl
  have b5 : List.take r2.length (r2.map I) = r2.map I := List.take_of_length_le (by simp)
  have h8 : ((128 : Int) < (x.e : Int)) = True := eq_true (by omega)
  unfold x39l2
  dsimp only
  (sym => (simp [irem2,iquo2,remF,Za,Zb,Zc,Zd,Ze,Zf,Zh,Zi,Zl,Zm,Zn,Zo,Zp,Zt,Zu,Zw,Zy,Zz,Z1,Z3,Z4,Z5,Z6,ZB,ZD,ZE,ZG,ZH,ZI,ZJ,ZK,ZN,ZO,ZP,ZQ,ZR,ZS,ZV,ZW,ZY,ZZ,Yc,Ye,Yg,Yo,Yq,Yr,Ys,Yy,Y0,Y2,Y3,Y4,Y5,Y6,Y8,YA,YK,YN,YT,YU,YX,Xb,Xc,Xe,Xl,Xn,Xq,Xr,Xt,Wj,Wk,Wm,Ws,Wt,Wv,Ww,Wx,Wy,Wz,W0,W3,W4,W6,W7,W8,WA,WB,WE,WF,WG,WH,WI,WJ,WK,WL,WM,WN,WO,WP,WS,WT,WU,WY,WZ,Vb,Vc,Vd,Vf,Vg,Vh,Vj,VI,VJ,VK,VL,VM,VR,VS,VT,VU,VV,VX,VY,VZ,Ua,Ub,Uc,Uf,Uh,Uj,Uk,Ul,Un,Us,Ut,Uu,Uv,Uw,Ux,Uy,Uz,U0,U1,U2,U3,UA,UB,UC,UD,UI,UJ,UK,UL,UO,UP,UQ,US,UT,UV,UW,UX,UY,UZ,Ta,Tb,Tc,Tf,Tg,Th,Ti,Tl,Tm,Tp,Tr,Ts,Tv,Ty,Tz,T3,T6,T7,T8,T9,TB,TP,Si,Sl,a1,a2,a5,cl,l1,l2,hx,wa,wb,wc,wd,we,m60,m2,m50,m30,d2,wd2,m3,s1,s2,s3,w44,g0,b1,b2,b3,b4,b5,h8]; all_goals tactic => exact rfl))
theorem r39_010_0 (hq : q.Ok) {x : P5} {i : Nat} (hi : i < 5) (hx : q.ls[i]? = some x) (ht : x.e / 2 % 3 = 0) {L : List Ld} (hL : L.length = i) (a1 : Int) (r1 : List Int) (hr1 : r1.length ≤ 5) :
    headX 0 [1,2,3,10,11] (execW progX 39 0 none (match x39l2 with | .loop _ a => a | c => c) (envL [1,2,3,10,11] [.pt 0 0,.pt 1 0,.pt 2 0,.pt 5 0,I (i : Nat)]) (hN q L i [.nilsl,.sl 6 0 1 (r1.length + 1),.nilsl] [some (.blk true (.cells true (I a1 :: r1.map I)))])) =
      some ([.pt 0 0,.pt 1 0,.pt 2 0,.pt 5 0,I (i + 1 : Nat)],hN q (L ++ [x.ld]) (i + 1) [.sl 6 0 1 (1),.sl 7 0 1 (r1.length + 1),.nilsl] [some (.blk true (.cells true ([I (i : Nat)]))),some (.blk true (.cells true (I a1 :: r1.map I)))]) := by
  obtain ⟨wa,wb,wc,wd,we,m60,m2,m50,m30,d2,wd2,m3,s1,s2,s3⟩ := ldF (hq.ls x (List.mem_of_getElem? hx))
  have a1 := lt_ix (lt_of hx)
  have a2 := up_ix hi (by omega)
  have a5 : ((i : Int) < 5) = True := eq_true (by omega)
  have cl := cL_len L
  rw [hL] at cl
  have ca := cL_app L x.ld
  have l1 : ((i + 1) * 40 ≤ 1099511627776) = True := eq_true (by omega)
  have l2 : (i + 1 ≤ 1099511627776) = True := eq_true (by omega)
  rw [ht] at m3
  unfold hN
  rw [ca]
  unfold P5.ld Ld.row
  dsimp only
  clear ca
  generalize x.e % 2 = ee at *
  generalize 1 + x.c % 60 + x.d % 30 = cd at *
  generalize 1 + x.c % 60 = cc at *
  generalize x.a + x.b % 50 = ab at *
  generalize x.e / 2 = e2 at *
  generalize x.d % 30 = dd at *
  generalize x.c % 60 = c6 at *
  generalize x.b % 50 = bb at *
  generalize cL L = cL0 at *
  unfold x39l2
  dsimp only
  rcases ptf ((128 : Int) < (x.e : Int)) with h8 | h8
  · (sym => (simp [irem2,iquo2,remF,Za,Zb,Zc,Zd,Ze,Zf,Zh,Zi,Zl,Zm,Zn,Zo,Zp,Zr,Zt,Zu,Zw,Zy,Zz,Z1,Z3,Z4,Z5,Z6,ZB,ZD,ZE,ZG,ZH,ZI,ZJ,ZK,ZN,ZO,ZP,ZQ,ZR,ZS,ZT,ZV,ZW,ZY,Ya,Yc,Ye,Yg,Yo,Yq,Yr,Ys,Yy,Yz,Y0,Y2,Y4,Y5,Y6,Y8,YA,YK,YN,YT,YU,YX,Xb,Xc,Xe,Xl,Xn,Xq,Xr,Xt,Wj,Wk,Wm,Ws,Wt,Wv,Ww,Wx,Wy,Wz,W0,W3,W4,W6,W7,W8,WA,WB,WE,WF,WG,WH,WI,WJ,WK,WL,WM,WN,WO,WP,WS,WT,WU,WY,WZ,Vb,Vc,Vd,Vf,Vg,Vh,Vj,VI,VJ,VK,VL,VM,VN,VR,VS,VT,VU,VV,VX,VY,VZ,Ua,Ub,Uc,Uf,Uh,Uj,Uk,Ul,Un,Us,Ut,Uu,Uv,Uw,Ux,Uy,Uz,U0,U1,U2,U3,UA,UB,UC,UD,UI,UJ,UK,UL,UO,UP,UQ,UR,US,UT,UV,UW,UX,UY,UZ,Ta,Tb,Tc,Tf,Tg,Th,Ti,Tk,Tl,Tm,Tp,Tr,Ts,Tv,Ty,Tz,T3,T8,TB,Si,Sl,a1,a2,a5,cl,l1,l2,hx,wa,wb,wc,wd,we,m60,m2,m50,m30,d2,wd2,m3,s1,s2,s3,w44,h8]; all_goals tactic => exact rfl))
  · (sym => (simp [irem2,iquo2,remF,Za,Zb,Zc,Zd,Ze,Zf,Zh,Zi,Zl,Zm,Zn,Zo,Zp,Zr,Zt,Zu,Zw,Zy,Zz,Z1,Z3,Z4,Z5,Z6,ZB,ZD,ZE,ZG,ZH,ZI,ZJ,ZK,ZN,ZO,ZP,ZQ,ZR,ZS,ZT,ZV,ZW,ZY,Ya,Yc,Ye,Yg,Yo,Yq,Yr,Ys,Yy,Yz,Y0,Y2,Y4,Y5,Y6,Y8,YA,YK,YN,YT,YU,YX,Xb,Xc,Xe,Xl,Xn,Xq,Xr,Xt,Wj,Wk,Wm,Ws,Wt,Wv,Ww,Wx,Wy,Wz,W0,W3,W4,W6,W7,W8,WA,WB,WE,WF,WG,WH,WI,WJ,WK,WL,WM,WN,WO,WP,WS,WT,WU,WY,WZ,Vb,Vc,Vd,Vf,Vg,Vh,Vj,VI,VJ,VK,VL,VM,VN,VR,VS,VT,VU,VV,VX,VY,VZ,Ua,Ub,Uc,Uf,Uh,Uj,Uk,Ul,Un,Us,Ut,Uu,Uv,Uw,Ux,Uy,Uz,U0,U1,U2,U3,UA,UB,UC,UD,UI,UJ,UK,UL,UO,UP,UQ,UR,US,UT,UV,UW,UX,UY,UZ,Ta,Tb,Tc,Tf,Tg,Th,Ti,Tk,Tl,Tm,Tp,Tr,Ts,Tv,Ty,Tz,T3,T8,TB,Si,Sl,a1,a2,a5,cl,l1,l2,hx,wa,wb,wc,wd,we,m60,m2,m50,m30,d2,wd2,m3,s1,s2,s3,w44,h8]; all_goals tactic => exact rfl))
theorem r39_010_1 (hq : q.Ok) {x : P5} {i : Nat} (hi : i < 5) (hx : q.ls[i]? = some x) (ht : x.e / 2 % 3 = 1) (h8 : ¬ 128 < x.e) {L : List Ld} (hL : L.length = i) (a1 : Int) (r1 : List Int) (hr1 : r1.length ≤ 5) :
    headX 0 [1,2,3,10,11] (execW progX 39 0 none (match x39l2 with | .loop _ a => a | c => c) (envL [1,2,3,10,11] [.pt 0 0,.pt 1 0,.pt 2 0,.pt 5 0,I (i : Nat)]) (hN q L i [.nilsl,.sl 6 0 1 (r1.length + 1),.nilsl] [some (.blk true (.cells true (I a1 :: r1.map I)))])) =
      some ([.pt 0 0,.pt 1 0,.pt 2 0,.pt 5 0,I (i + 1 : Nat)],hN q (L ++ [x.ld]) (i + 1) [.nilsl,.sl 6 0 1 (r1.length + 1 + 1),.nilsl] [some (.blk true (.cells true (I a1 :: (r1.map I ++ [I (i : Nat)]))))]) := by
  obtain ⟨wa,wb,wc,wd,we,m60,m2,m50,m30,d2,wd2,m3,s1,s2,s3⟩ := ldF (hq.ls x (List.mem_of_getElem? hx))
  have a1 := lt_ix (lt_of hx)
  have a2 := up_ix hi (by omega)
  have a5 : ((i : Int) < 5) = True := eq_true (by omega)
  have cl := cL_len L
  rw [hL] at cl
  have ca := cL_app L x.ld
  have l1 : ((i + 1) * 40 ≤ 1099511627776) = True := eq_true (by omega)
  have l2 : (i + 1 ≤ 1099511627776) = True := eq_true (by omega)
  rw [ht] at m3
  unfold hN
  rw [ca]
  unfold P5.ld Ld.row
  dsimp only
  clear ca
  generalize x.e % 2 = ee at *
  generalize 1 + x.c % 60 + x.d % 30 = cd at *
  generalize 1 + x.c % 60 = cc at *
  generalize x.a + x.b % 50 = ab at *
  generalize x.e / 2 = e2 at *
  generalize x.d % 30 = dd at *
  generalize x.c % 60 = c6 at *
  generalize x.b % 50 = bb at *
  generalize cL L = cL0 at *
  have g0 : ((0 : Int) < ((r1.length + 1 : Nat) : Int)) = True := eq_true (by omega)
  have b1 : ((r1.length + 1 + 1) * 8 ≤ 1099511627776) = True := eq_true (by omega)
  have b2 : (r1.length + 1 + 1 ≤ 1099511627776) = True := eq_true (by omega)
  have b3 : 1 + (r1.length + 1) = r1.length + 1 + 1 := by omega
  have b4 : r1.length + 1 - 1 = r1.length := rfl
  have b5 : List.take r1.length (r1.map I) = r1.map I := List.take_of_length_le (by simp)
  have h8 : ((128 : Int) < (x.e : Int)) = False := eq_false (by omega)
  unfold x39l2
  dsimp only
  (sym => (simp [irem2,iquo2,remF,Za,Zb,Zc,Zd,Ze,Zf,Zh,Zi,Zl,Zm,Zn,Zo,Zp,Zr,Zt,Zu,Zw,Zy,Zz,Z1,Z3,Z4,Z5,Z6,ZB,ZD,ZE,ZG,ZH,ZI,ZJ,ZK,ZN,ZO,ZP,ZQ,ZR,ZS,ZT,ZV,ZW,ZY,Yc,Ye,Yg,Yo,Yq,Yr,Ys,Yy,Y0,Y1,Y2,Y4,Y5,Y6,Y8,YA,YK,YN,YT,YU,YX,Xb,Xc,Xe,Xl,Xn,Xq,Xr,Xt,Wj,Wk,Wm,Ws,Wt,Wv,Ww,Wx,Wy,Wz,W0,W3,W4,W6,W7,W8,WA,WB,WE,WF,WG,WH,WI,WJ,WK,WL,WM,WN,WO,WP,WS,WT,WU,WY,WZ,Vb,Vc,Vd,Vf,Vg,Vh,Vj,VI,VJ,VK,VL,VM,VN,VR,VS,VT,VU,VV,VX,VY,VZ,Ua,Ub,Uc,Uf,Uh,Uj,Uk,Ul,Un,Us,Ut,Uu,Uv,Uw,Ux,Uy,Uz,U0,U1,U2,U3,UA,UB,UC,UD,UI,UJ,UK,UL,UO,UP,UQ,US,UT,UV,UW,UX,UY,UZ,Ta,Tb,Tc,Tf,Tg,Th,Ti,Tl,Tm,Tp,Tr,Ts,Tv,Ty,Tz,T3,T6,T8,TB,Si,Sl,a1,a2,a5,cl,l1,l2,hx,wa,wb,wc,wd,we,m60,m2,m50,m30,d2,wd2,m3,s1,s2,s3,w44,g0,b1,b2,b3,b4,b5,h8]; all_goals tactic => exact rfl))
theorem r39_010_1p (hq : q.Ok) {x : P5} {i : Nat} (hi : i < 5) (hx : q.ls[i]? = some x) (ht : x.e / 2 % 3 = 1) (h8 : 128 < x.e) {L : List Ld} (hL : L.length = i) (a1 : Int) (r1 : List Int) (hr1 : r1.length ≤ 5) :
    headX 0 [1,2,3,10,11] (execW progX 39 0 none (match x39l2 with | .loop _ a => a | c => c) (envL [1,2,3,10,11] [.pt 0 0,.pt 1 0,.pt 2 0,.pt 5 0,I (i : Nat)]) (hN q L i [.nilsl,.sl 6 0 1 (r1.length + 1),.nilsl] [some (.blk true (.cells true (I a1 :: r1.map I)))])) =
      some ([.pt 0 0,.pt 1 0,.pt 2 0,.pt 5 0,I (i + 1 : Nat)],hN q (L ++ [x.ld]) (i + 1) [.nilsl,.sl 6 0 1 (r1.length + 1 + 1),.nilsl] [some (.blk true (.cells true (I (i : Nat) :: I a1 :: r1.map I)))]) := by
  obtain ⟨wa,wb,wc,wd,we,m60,m2,m50,m30,d2,wd2,m3,s1,s2,s3⟩ := ldF (hq.ls x (List.mem_of_getElem? hx))
  have a1 := lt_ix (lt_of hx)
  have a2 := up_ix hi (by omega)
  have a5 : ((i : Int) < 5) = True := eq_true (by omega)
  have cl := cL_len L
  rw [hL] at cl
  have ca := cL_app L x.ld
  have l1 : ((i + 1) * 40 ≤ 1099511627776) = True := eq_true (by omega)
  have l2 : (i + 1 ≤ 1099511627776) = True := eq_true (by omega)
  rw [ht] at m3
  unfold hN
  rw [ca]
  unfold P5.ld Ld.row
  dsimp only
  clear ca
  generalize x.e % 2 = ee at *
  generalize 1 + x.c % 60 + x.d % 30 = cd at *
  generalize 1 + x.c % 60 = cc at *
  generalize x.a + x.b % 50 = ab at *
  generalize x.e / 2 = e2 at *
  generalize x.d % 30 = dd at *
  generalize x.c % 60 = c6 at *
  generalize x.b % 50 = bb at *
  generalize cL L = cL0 at *
  have g0 : ((0 : Int) < ((r1.length + 1 : Nat) : Int)) = True := eq_true (by omega)
  have b1 : ((r1.length + 1 + 1) * 8 ≤ 1099511627776) = True := eq_true (by omega)
  have b2 : (r1.length + 1 + 1 ≤ 1099511627776) = True := eq_true (by omega)
  have b3 : 1 + (r1.length + 1) = r1.length + 1 + 1 := by omega
  have b4 : r1.length + 1 - 1 = r1.length := rfl
  have b5 : List.take r1.length (r1.map I) = r1.map I := List.take_of_length_le (by simp)
  have h8 : ((128 : Int) < (x.e : Int)) = True := eq_true (by omega)
  unfold x39l2
  dsimp only
  (sym => (simp [irem2,iquo2,remF,Za,Zb,Zc,Zd,Ze,Zf,Zh,Zi,Zl,Zm,Zn,Zo,Zp,Zt,Zu,Zw,Zy,Zz,Z1,Z3,Z4,Z5,Z6,ZB,ZD,ZE,ZG,ZH,ZI,ZJ,ZK,ZN,ZO,ZP,ZQ,ZR,ZS,ZV,ZW,ZY,ZZ,Yc,Ye,Yg,Yo,Yq,Yr,Ys,Yy,Y0,Y1,Y2,Y4,Y5,Y6,Y8,YA,YK,YN,YT,YU,YX,Xb,Xc,Xe,Xl,Xn,Xq,Xr,Xt,Wj,Wk,Wm,Ws,Wt,Wv,Ww,Wx,Wy,Wz,W0,W3,W4,W6,W7,W8,WA,WB,WE,WF,WG,WH,WI,WJ,WK,WL,WM,WN,WO,WP,WS,WT,WU,WY,WZ,Vb,Vc,Vd,Vf,Vg,Vh,Vj,VI,VJ,VK,VL,VM,VR,VS,VT,VU,VV,VX,VY,VZ,Ua,Ub,Uc,Uf,Uh,Uj,Uk,Ul,Un,Us,Ut,Uu,Uv,Uw,Ux,Uy,Uz,U0,U1,U2,U3,UA,UB,UC,UD,UI,UJ,UK,UL,UO,UP,UQ,US,UT,UV,UW,UX,UY,UZ,Ta,Tb,Tc,Tf,Tg,Th,Ti,Tl,Tm,Tp,Tr,Ts,Tv,Ty,Tz,T3,T6,T7,T8,T9,TB,TP,Si,Sl,a1,a2,a5,cl,l1,l2,hx,wa,wb,wc,wd,we,m60,m2,m50,m30,d2,wd2,m3,s1,s2,s3,w44,g0,b1,b2,b3,b4,b5,h8]; all_goals tactic => exact rfl))
theorem r39_010_2 (hq : q.Ok) {x : P5} {i : Nat} (hi : i < 5) (hx : q.ls[i]? = some x) (ht : x.e / 2 % 3 = 2) {L : List Ld} (hL : L.length = i) (a1 : Int) (r1 : List Int) (hr1 : r1.length ≤ 5) :
    headX 0 [1,2,3,10,11] (execW progX 39 0 none (match x39l2 with | .loop _ a => a | c => c) (envL [1,2,3,10,11] [.pt 0 0,.pt 1 0,.pt 2 0,.pt 5 0,I (i : Nat)]) (hN q L i [.nilsl,.sl 6 0 1 (r1.length + 1),.nilsl] [some (.blk true (.cells true (I a1 :: r1.map I)))])) =
      some ([.pt 0 0,.pt 1 0,.pt 2 0,.pt 5 0,I (i + 1 : Nat)],hN q (L ++ [x.ld]) (i + 1) [.nilsl,.sl 6 0 1 (r1.length + 1),.sl 7 0 1 (1)] [some (.blk true (.cells true (I a1 :: r1.map I))),some (.blk true (.cells true ([I (i : Nat)])))]) := by
  obtain ⟨wa,wb,wc,wd,we,m60,m2,m50,m30,d2,wd2,m3,s1,s2,s3⟩ := ldF (hq.ls x (List.mem_of_getElem? hx))
  have a1 := lt_ix (lt_of hx)
  have a2 := up_ix hi (by omega)
  have a5 : ((i : Int) < 5) = True := eq_true (by omega)
  have cl := cL_len L
  rw [hL] at cl
  have ca := cL_app L x.ld
  have l1 : ((i + 1) * 40 ≤ 1099511627776) = True := eq_true (by omega)
  have l2 : (i + 1 ≤ 1099511627776) = True := eq_true (by omega)
  rw [ht] at m3
  unfold hN
  rw [ca]
  unfold P5.ld Ld.row
  dsimp only
  clear ca
  generalize x.e % 2 = ee at *
  generalize 1 + x.c % 60 + x.d % 30 = cd at *
  generalize 1 + x.c % 60 = cc at *
  generalize x.a + x.b % 50 = ab at *
  generalize x.e / 2 = e2 at *
  generalize x.d % 30 = dd at *
  generalize x.c % 60 = c6 at *
  generalize x.b % 50 = bb at *
  generalize cL L = cL0 at *
  unfold x39l2
  dsimp only
  rcases ptf ((128 : Int) < (x.e : Int)) with h8 | h8
  · (sym => (simp [irem2,iquo2,remF,Za,Zb,Zc,Zd,Ze,Zf,Zh,Zi,Zl,Zm,Zn,Zo,Zp,Zr,Zt,Zu,Zw,Zy,Zz,Z1,Z3,Z4,Z5,Z6,ZB,ZD,ZE,ZG,ZH,ZI,ZJ,ZK,ZN,ZO,ZP,ZQ,ZR,ZS,ZT,ZV,ZW,ZY,Ya,Yc,Ye,Yg,Yo,Yq,Yr,Ys,Yy,Y0,Y2,Y3,Y4,Y5,Y6,Y8,YA,YK,YN,YT,YU,YX,Xb,Xc,Xe,Xl,Xn,Xq,Xr,Xt,Wj,Wk,Wm,Ws,Wt,Wv,Ww,Wx,Wy,Wz,W0,W3,W4,W6,W7,W8,WA,WB,WE,WF,WG,WH,WI,WJ,WK,WL,WM,WN,WO,WP,WS,WT,WU,WY,WZ,Vb,Vc,Vd,Vf,Vg,Vh,Vj,VI,VJ,VK,VL,VM,VN,VR,VS,VT,VU,VV,VX,VY,VZ,Ua,Ub,Uc,Uf,Uh,Uj,Uk,Ul,Un,Us,Ut,Uu,Uv,Uw,Ux,Uy,Uz,U0,U1,U2,U3,UA,UB,UC,UD,UI,UJ,UK,UL,UO,UP,UQ,UR,US,UT,UV,UW,UX,UY,UZ,Ta,Tb,Tc,Tf,Tg,Th,Ti,Tk,Tl,Tm,Tp,Tr,Ts,Tv,Ty,Tz,T3,T8,TB,Si,Sl,a1,a2,a5,cl,l1,l2,hx,wa,wb,wc,wd,we,m60,m2,m50,m30,d2,wd2,m3,s1,s2,s3,w44,h8]; all_goals tactic => exact rfl))
  · (sym => (simp [irem2,iquo2,remF,Za,Zb,Zc,Zd,Ze,Zf,Zh,Zi,Zl,Zm,Zn,Zo,Zp,Zr,Zt,Zu,Zw,Zy,Zz,Z1,Z3,Z4,Z5,Z6,ZB,ZD,ZE,ZG,ZH,ZI,ZJ,ZK,ZN,ZO,ZP,ZQ,ZR,ZS,ZT,ZV,ZW,ZY,Ya,Yc,Ye,Yg,Yo,Yq,Yr,Ys,Yy,Y0,Y2,Y3,Y4,Y5,Y6,Y8,YA,YK,YN,YT,YU,YX,Xb,Xc,Xe,Xl,Xn,Xq,Xr,Xt,Wj,Wk,Wm,Ws,Wt,Wv,Ww,Wx,Wy,Wz,W0,W3,W4,W6,W7,W8,WA,WB,WE,WF,WG,WH,WI,WJ,WK,WL,WM,WN,WO,WP,WS,WT,WU,WY,WZ,Vb,Vc,Vd,Vf,Vg,Vh,Vj,VI,VJ,VK,VL,VM,VN,VR,VS,VT,VU,VV,VX,VY,VZ,Ua,Ub,Uc,Uf,Uh,Uj,Uk,Ul,Un,Us,Ut,Uu,Uv,Uw,Ux,Uy,Uz,U0,U1,U2,U3,UA,UB,UC,UD,UI,UJ,UK,UL,UO,UP,UQ,UR,US,UT,UV,UW,UX,UY,UZ,Ta,Tb,Tc,Tf,Tg,Th,Ti,Tk,Tl,Tm,Tp,Tr,Ts,Tv,Ty,Tz,T3,T8,TB,Si,Sl,a1,a2,a5,cl,l1,l2,hx,wa,wb,wc,wd,we,m60,m2,m50,m30,d2,wd2,m3,s1,s2,s3,w44,h8]; all_goals tactic => exact rfl))
theorem r39_011_0 (hq : q.Ok) {x : P5} {i : Nat} (hi : i < 5) (hx : q.ls[i]? = some x) (ht : x.e / 2 % 3 = 0) {L : List Ld} (hL : L.length = i) (a1 a2 : Int) (r1 r2 : List Int) (hr1 : r1.length ≤ 5) (hr2 : r2.length ≤ 5) :
    headX 0 [1,2,3,10,11] (execW progX 39 0 none (match x39l2 with | .loop _ a => a | c => c) (envL [1,2,3,10,11] [.pt 0 0,.pt 1 0,.pt 2 0,.pt 5 0,I (i : Nat)]) (hN q L i [.nilsl,.sl 6 0 1 (r1.length + 1),.sl 7 0 1 (r2.length + 1)] [some (.blk true (.cells true (I a1 :: r1.map I))),some (.blk true (.cells true (I a2 :: r2.map I)))])) =
      some ([.pt 0 0,.pt 1 0,.pt 2 0,.pt 5 0,I (i + 1 : Nat)],hN q (L ++ [x.ld]) (i + 1) [.sl 6 0 1 (1),.sl 7 0 1 (r1.length + 1),.sl 8 0 1 (r2.length + 1)] [some (.blk true (.cells true ([I (i : Nat)]))),some (.blk true (.cells true (I a1 :: r1.map I))),some (.blk true (.cells true (I a2 :: r2.map I)))]) := by
  obtain ⟨wa,wb,wc,wd,we,m60,m2,m50,m30,d2,wd2,m3,s1,s2,s3⟩ := ldF (hq.ls x (List.mem_of_getElem? hx))
  have a1 := lt_ix (lt_of hx)
  have a2 := up_ix hi (by omega)
  have a5 : ((i : Int) < 5) = True := eq_true (by omega)
  have cl := cL_len L
  rw [hL] at cl
  have ca := cL_app L x.ld
  have l1 : ((i + 1) * 40 ≤ 1099511627776) = True := eq_true (by omega)
  have l2 : (i + 1 ≤ 1099511627776) = True := eq_true (by omega)
  rw [ht] at m3
  unfold hN
  rw [ca]
  unfold P5.ld Ld.row
  dsimp only
  clear ca
  generalize x.e % 2 = ee at *
  generalize 1 + x.c % 60 + x.d % 30 = cd at *
  generalize 1 + x.c % 60 = cc at *
  generalize x.a + x.b % 50 = ab at *
  generalize x.e / 2 = e2 at *
  generalize x.d % 30 = dd at *
  generalize x.c % 60 = c6 at *
  generalize x.b % 50 = bb at *
  generalize cL L = cL0 at *
  unfold x39l2
  dsimp only
  rcases ptf ((128 : Int) < (x.e : Int)) with h8 | h8
  · (sym => (simp [irem2,iquo2,remF,Za,Zb,Zc,Zd,Ze,Zf,Zh,Zi,Zl,Zm,Zn,Zo,Zp,Zr,Zt,Zu,Zw,Zy,Zz,Z1,Z3,Z4,Z5,Z6,ZB,ZD,ZE,ZG,ZH,ZI,ZJ,ZK,ZN,ZO,ZP,ZQ,ZR,ZS,ZT,ZV,ZW,ZY,Ya,Yc,Ye,Yg,Yo,Yq,Yr,Ys,Yy,Yz,Y0,Y2,Y4,Y5,Y6,Y8,YA,YK,YN,YT,YU,YX,Xb,Xc,Xe,Xl,Xn,Xq,Xr,Xt,Wj,Wk,Wm,Ws,Wt,Wv,Ww,Wx,Wy,Wz,W0,W3,W4,W6,W7,W8,WA,WB,WE,WF,WG,WH,WI,WJ,WK,WL,WM,WN,WO,WP,WS,WT,WU,WY,WZ,Vb,Vc,Vd,Vf,Vg,Vh,Vj,VI,VJ,VK,VL,VM,VN,VR,VS,VT,VU,VV,VX,VY,VZ,Ua,Ub,Uc,Uf,Uh,Uj,Uk,Ul,Un,Us,Ut,Uu,Uv,Uw,Ux,Uy,Uz,U0,U1,U2,U3,UA,UB,UC,UD,UI,UJ,UK,UL,UO,UP,UQ,UR,US,UT,UV,UW,UX,UY,UZ,Ta,Tb,Tc,Tf,Tg,Th,Ti,Tk,Tl,Tm,Tp,Tr,Ts,Tv,Ty,Tz,T3,T8,TB,Si,Sl,a1,a2,a5,cl,l1,l2,hx,wa,wb,wc,wd,we,m60,m2,m50,m30,d2,wd2,m3,s1,s2,s3,w44,h8]; all_goals tactic => exact rfl))
  · (sym => (simp [irem2,iquo2,remF,Za,Zb,Zc,Zd,Ze,Zf,Zh,Zi,Zl,Zm,Zn,Zo,Zp,Zr,Zt,Zu,Zw,Zy,Zz,Z1,Z3,Z4,Z5,Z6,ZB,ZD,ZE,ZG,ZH,ZI,ZJ,ZK,ZN,ZO,ZP,ZQ,ZR,ZS,ZT,ZV,ZW,ZY,Ya,Yc,Ye,Yg,Yo,Yq,Yr,Ys,Yy,Yz,Y0,Y2,Y4,Y5,Y6,Y8,YA,YK,YN,YT,YU,YX,Xb,Xc,Xe,Xl,Xn,Xq,Xr,Xt,Wj,Wk,Wm,Ws,Wt,Wv,Ww,Wx,Wy,Wz,W0,W3,W4,W6,W7,W8,WA,WB,WE,WF,WG,WH,WI,WJ,WK,WL,WM,WN,WO,WP,WS,WT,WU,WY,WZ,Vb,Vc,Vd,Vf,Vg,Vh,Vj,VI,VJ,VK,VL,VM,VN,VR,VS,VT,VU,VV,VX,VY,VZ,Ua,Ub,Uc,Uf,Uh,Uj,Uk,Ul,Un,Us,Ut,Uu,Uv,Uw,Ux,Uy,Uz,U0,U1,U2,U3,UA,UB,UC,UD,UI,UJ,UK,UL,UO,UP,UQ,UR,US,UT,UV,UW,UX,UY,UZ,Ta,Tb,Tc,Tf,Tg,Th,Ti,Tk,Tl,Tm,Tp,Tr,Ts,Tv,Ty,Tz,T3,T8,TB,Si,Sl,a1,a2,a5,cl,l1,l2,hx,wa,wb,wc,wd,we,m60,m2,m50,m30,d2,wd2,m3,s1,s2,s3,w44,h8]; all_goals tactic => exact rfl))
theorem r39_011_1 (hq : q.Ok) {x : P5} {i : Nat} (hi : i < 5) (hx : q.ls[i]? = some x) (ht : x.e / 2 % 3 = 1) (h8 : ¬ 128 < x.e) {L : List Ld} (hL : L.length = i) (a1 a2 : Int) (r1 r2 : List Int) (hr1 : r1.length ≤ 5) (hr2 : r2.length ≤ 5) :
    headX 0 [1,2,3,10,11] (execW progX 39 0 none (match x39l2 with | .loop _ a => a | c => c) (envL [1,2,3,10,11] [.pt 0 0,.pt 1 0,.pt 2 0,.pt 5 0,I (i : Nat)]) (hN q L i [.nilsl,.sl 6 0 1 (r1.length + 1),.sl 7 0 1 (r2.length + 1)] [some (.blk true (.cells true (I a1 :: r1.map I))),some (.blk true (.cells true (I a2 :: r2.map I)))])) =
      some ([.pt 0 0,.pt 1 0,.pt 2 0,.pt 5 0,I (i + 1 : Nat)],hN q (L ++ [x.ld]) (i + 1) [.nilsl,.sl 6 0 1 (r1.length + 1 + 1),.sl 7 0 1 (r2.length + 1)] [some (.blk true (.cells true (I a1 :: (r1.map I ++ [I (i : Nat)])))),some (.blk true (.cells true (I a2 :: r2.map I)))]) := by
  obtain ⟨wa,wb,wc,wd,we,m60,m2,m50,m30,d2,wd2,m3,s1,s2,s3⟩ := ldF (hq.ls x (List.mem_of_getElem? hx))
  have a1 := lt_ix (lt_of hx)
  have a2 := up_ix hi (by omega)
  have a5 : ((i : Int) < 5) = True := eq_true (by omega)
  have cl := cL_len L
  rw [hL] at cl
  have ca := cL_app L x.ld
  have l1 : ((i + 1) * 40 ≤ 1099511627776) = True := eq_true (by omega)
  have l2 : (i + 1 ≤ 1099511627776) = True := eq_true (by omega)
  rw [ht] at m3
  unfold hN
  rw [ca]
  unfold P5.ld Ld.row
  dsimp only
  clear ca
  generalize x.e % 2 = ee at *
  generalize 1 + x.c % 60 + x.d % 30 = cd at *
  generalize 1 + x.c % 60 = cc at *
  generalize x.a + x.b % 50 = ab at *
  generalize x.e / 2 = e2 at *
  generalize x.d % 30 = dd at *
  generalize x.c % 60 = c6 at *
  generalize x.b % 50 = bb at *
  generalize cL L = cL0 at *
  have g0 : ((0 : Int) < ((r1.length + 1 : Nat) : Int)) = True := eq_true (by omega)
  have b1 : ((r1.length + 1 + 1) * 8 ≤ 1099511627776) = True := eq_true (by omega)
  have b2 : (r1.length + 1 + 1 ≤ 1099511627776) = True := eq_true (by omega)
  have b3 : 1 + (r1.length + 1) = r1.length + 1 + 1 := by omega
  have b4 : r1.length + 1 - 1 = r1.length := rfl
  have b5 : List.take r1.length (r1.map I) = r1.map I := List.take_of_length_le (by simp)
  have h8 : ((128 : Int) < (x.e : Int)) = False := eq_false (by omega)
  unfold x39l2
  dsimp only
  (sym => (simp [irem2,iquo2,remF,Za,Zb,Zc,Zd,Ze,Zf,Zh,Zi,Zl,Zm,Zn,Zo,Zp,Zr,Zt,Zu,Zw,Zy,Zz,Z1,Z3,Z4,Z5,Z6,ZB,ZD,ZE,ZG,ZH,ZI,ZJ,ZK,ZN,ZO,ZP,ZQ,ZR,ZS,ZT,ZV,ZW,ZY,Yc,Ye,Yg,Yo,Yq,Yr,Ys,Yy,Y0,Y1,Y2,Y4,Y5,Y6,Y8,YA,YK,YN,YT,YU,YX,Xb,Xc,Xe,Xl,Xn,Xq,Xr,Xt,Wj,Wk,Wm,Ws,Wt,Wv,Ww,Wx,Wy,Wz,W0,W3,W4,W6,W7,W8,WA,WB,WE,WF,WG,WH,WI,WJ,WK,WL,WM,WN,WO,WP,WS,WT,WU,WY,WZ,Vb,Vc,Vd,Vf,Vg,Vh,Vj,VI,VJ,VK,VL,VM,VN,VR,VS,VT,VU,VV,VX,VY,VZ,Ua,Ub,Uc,Uf,Uh,Uj,Uk,Ul,Un,Us,Ut,Uu,Uv,Uw,Ux,Uy,Uz,U0,U1,U2,U3,UA,UB,UC,UD,UI,UJ,UK,UL,UO,UP,UQ,US,UT,UV,UW,UX,UY,UZ,Ta,Tb,Tc,Tf,Tg,Th,Ti,Tl,Tm,Tp,Tr,Ts,Tv,Ty,Tz,T3,T6,T8,TB,Si,Sl,a1,a2,a5,cl,l1,l2,hx,wa,wb,wc,wd,we,m60,m2,m50,m30,d2,wd2,m3,s1,s2,s3,w44,g0,b1,b2,b3,b4,b5,h8]; all_goals tactic => exact rfl))
theorem r39_011_1p (hq : q.Ok) {x : P5} {i : Nat} (hi : i < 5) (hx : q.ls[i]? = some x) (ht : x.e / 2 % 3 = 1) (h8 : 128 < x.e) {L : List Ld} (hL : L.length = i) (a1 a2 : Int) (r1 r2 : List Int) (hr1 : r1.length ≤ 5) (hr2 : r2.length ≤ 5) :
    headX 0 [1,2,3,10,11] (execW progX 39 0 none (match x39l2 with | .loop _ a => a | c => c) (envL [1,2,3,10,11] [.pt 0 0,.pt 1 0,.pt 2 0,.pt 5 0,I (i : Nat)]) (hN q L i [.nilsl,.sl 6 0 1 (r1.length + 1),.sl 7 0 1 (r2.length + 1)] [some (.blk true (.cells true (I a1 :: r1.map I))),some (.blk true (.cells true (I a2 :: r2.map I)))])) =
      some ([.pt 0 0,.pt 1 0,.pt 2 0,.pt 5 0,I (i + 1 : Nat)],hN q (L ++ [x.ld]) (i + 1) [.nilsl,.sl 6 0 1 (r1.length + 1 + 1),.sl 7 0 1 (r2.length + 1)] [some (.blk true (.cells true (I (i : Nat) :: I a1 :: r1.map I))),some (.blk true (.cells true (I a2 :: r2.map I)))]) := by
  obtain ⟨wa,wb,wc,wd,we,m60,m2,m50,m30,d2,wd2,m3,s1,s2,s3⟩ := ldF (hq.ls x (List.mem_of_getElem? hx))
  have a1 := lt_ix (lt_of hx)
  have a2 := up_ix hi (by omega)
  have a5 : ((i : Int) < 5) = True := eq_true (by omega)
  have cl := cL_len L
  rw [hL] at cl
  have ca := cL_app L x.ld
  have l1 : ((i + 1) * 40 ≤ 1099511627776) = True := eq_true (by omega)
  have l2 : (i + 1 ≤ 1099511627776) = True := eq_true (by omega)
  rw [ht] at m3
  unfold hN
  rw [ca]
  unfold P5.ld Ld.row
  dsimp only
  clear ca
  generalize x.e % 2 = ee at *
  generalize 1 + x.c % 60 + x.d % 30 = cd at *
  generalize 1 + x.c % 60 = cc at *
  generalize x.a + x.b % 50 = ab at *
  generalize x.e / 2 = e2 at *
  generalize x.d % 30 = dd at *
  generalize x.c % 60 = c6 at *
  generalize x.b % 50 = bb at *
  generalize cL L = cL0 at *
  have g0 : ((0 : Int) < ((r1.length + 1 : Nat) : Int)) = True := eq_true (by omega)
  have b1 : ((r1.length + 1 + 1) * 8 ≤ 1099511627776) = True := eq_true (by omega)
  have b2 : (r1.length + 1 + 1 ≤ 1099511627776) = True := eq_true (by omega)
  have b3 : 1 + (r1.length + 1) = r1.length + 1 + 1 := by omega
  have b4 : r1.length + 1 - 1 = r1.length := rfl
  have b5 : List.take r1.length (r1.map I) = r1.map I := List.take_of_length_le (by simp)
  have h8 : ((128 : Int) < (x.e : Int)) = True := eq_true (by omega)
  unfold x39l2
  dsimp only
  (sym => (simp [irem2,iquo2,remF,Za,Zb,Zc,Zd,Ze,Zf,Zh,Zi,Zl,Zm,Zn,Zo,Zp,Zt,Zu,Zw,Zy,Zz,Z1,Z3,Z4,Z5,Z6,ZB,ZD,ZE,ZG,ZH,ZI,ZJ,ZK,ZN,ZO,ZP,ZQ,ZR,ZS,ZV,ZW,ZY,ZZ,Yc,Ye,Yg,Yo,Yq,Yr,Ys,Yy,Y0,Y1,Y2,Y4,Y5,Y6,Y8,YA,YK,YN,YT,YU,YX,Xb,Xc,Xe,Xl,Xn,Xq,Xr,Xt,Wj,Wk,Wm,Ws,Wt,Wv,Ww,Wx,Wy,Wz,W0,W3,W4,W6,W7,W8,WA,WB,WE,WF,WG,WH,WI,WJ,WK,WL,WM,WN,WO,WP,WS,WT,WU,WY,WZ,Vb,Vc,Vd,Vf,Vg,Vh,Vj,VI,VJ,VK,VL,VM,VR,VS,VT,VU,VV,VX,VY,VZ,Ua,Ub,Uc,Uf,Uh,Uj,Uk,Ul,Un,Us,Ut,Uu,Uv,Uw,Ux,Uy,Uz,U0,U1,U2,U3,UA,UB,UC,UD,UI,UJ,UK,UL,UO,UP,UQ,US,UT,UV,UW,UX,UY,UZ,Ta,Tb,Tc,Tf,Tg,Th,Ti,Tl,Tm,Tp,Tr,Ts,Tv,Ty,Tz,T3,T6,T7,T8,T9,TB,TP,Si,Sl,a1,a2,a5,cl,l1,l2,hx,wa,wb,wc,wd,we,m60,m2,m50,m30,d2,wd2,m3,s1,s2,s3,w44,g0,b1,b2,b3,b4,b5,h8]; all_goals tactic => exact rfl))
theorem r39_011_2 (hq : q.Ok) {x : P5} {i : Nat} (hi : i < 5) (hx : q.ls[i]? = some x) (ht : x.e / 2 % 3 = 2) (h8 : ¬ 128 < x.e) {L : List Ld} (hL : L.length = i) (a1 a2 : Int) (r1 r2 : List Int) (hr1 : r1.length ≤ 5) (hr2 : r2.length ≤ 5) :
    headX 0 [1,2,3,10,11] (execW progX 39 0 none (match x39l2 with | .loop _ a => a | c => c) (envL [1,2,3,10,11] [.pt 0 0,.pt 1 0,.pt 2 0,.pt 5 0,I (i : Nat)]) (hN q L i [.nilsl,.sl 6 0 1 (r1.length + 1),.sl 7 0 1 (r2.length + 1)] [some (.blk true (.cells true (I a1 :: r1.map I))),some (.blk true (.cells true (I a2 :: r2.map I)))])) =
      some ([.pt 0 0,.pt 1 0,.pt 2 0,.pt 5 0,I (i + 1 : Nat)],hN q (L ++ [x.ld]) (i + 1) [.nilsl,.sl 6 0 1 (r1.length + 1),.sl 7 0 1 (r2.length + 1 + 1)] [some (.blk true (.cells true (I a1 :: r1.map I))),some (.blk true (.cells true (I a2 :: (r2.map I ++ [I (i : Nat)]))))]) := by
  obtain ⟨wa,wb,wc,wd,we,m60,m2,m50,m30,d2,wd2,m3,s1,s2,s3⟩ := ldF (hq.ls x (List.mem_of_getElem? hx))
  have a1 := lt_ix (lt_of hx)
  have a2 := up_ix hi (by omega)
  have a5 : ((i : Int) < 5) = True := eq_true (by omega)
  have cl := cL_len L
  rw [hL] at cl
  have ca := cL_app L x.ld
  have l1 : ((i + 1) * 40 ≤ 1099511627776) = True := eq_true (by omega)
  have l2 : (i + 1 ≤ 1099511627776) = True := eq_true (by omega)
  rw [ht] at m3
  unfold hN
  rw [ca]
  unfold P5.ld Ld.row
  dsimp only
  clear ca
  generalize x.e % 2 = ee at *
  generalize 1 + x.c % 60 + x.d % 30 = cd at *
  generalize 1 + x.c % 60 = cc at *
  generalize x.a + x.b % 50 = ab at *
  generalize x.e / 2 = e2 at *
  generalize x.d % 30 = dd at *
  generalize x.c % 60 = c6 at *
  generalize x.b % 50 = bb at *
  generalize cL L = cL0 at *
  have g0 : ((0 : Int) < ((r2.length + 1 : Nat) : Int)) = True := eq_true (by omega)
  have b1 : ((r2.length + 1 + 1) * 8 ≤ 1099511627776) = True := eq_true (by omega)
  have b2 : (r2.length + 1 + 1 ≤ 1099511627776) = True := eq_true (by omega)
  have b3 : 1 + (r2.length + 1) = r2.length + 1 + 1 := by omega
  have b4 : r2.length + 1 - 1 = r2.length := rfl
  have b5 : List.take r2.length (r2.map I) = r2.map I := List.take_of_length_le (by simp)
  have h8 : ((128 : Int) < (x.e : Int)) = False := eq_false (by omega)
  unfold x39l2
  dsimp only
  (sym => (simp [irem2,iquo2,remF,Za,Zb,Zc,Zd,Ze,Zf,Zh,Zi,Zl,Zm,Zn,Zo,Zp,Zr,Zt,Zu,Zw,Zy,Zz,Z1,Z3,Z4,Z5,Z6,ZB,ZD,ZE,ZG,ZH,ZI,ZJ,ZK,ZN,ZO,ZP,ZQ,ZR,ZS,ZT,ZV,ZW,ZY,Yc,Ye,Yg,Yo,Yq,Yr,Ys,Yy,Y0,Y2,Y3,Y4,Y5,Y6,Y8,YA,YK,YN,YT,YU,YX,Xb,Xc,Xe,Xl,Xn,Xq,Xr,Xt,Wj,Wk,Wm,Ws,Wt,Wv,Ww,Wx,Wy,Wz,W0,W3,W4,W6,W7,W8,WA,WB,WE,WF,WG,WH,WI,WJ,WK,WL,WM,WN,WO,WP,WS,WT,WU,WY,WZ,Vb,Vc,Vd,Vf,Vg,Vh,Vj,VI,VJ,VK,VL,VM,VN,VR,VS,VT,VU,VV,VX,VY,VZ,Ua,Ub,Uc,Uf,Uh,Uj,Uk,Ul,Un,Us,Ut,Uu,Uv,Uw,Ux,Uy,Uz,U0,U1,U2,U3,UA,UB,UC,UD,UI,UJ,UK,UL,UO,UP,UQ,US,UT,UV,UW,UX,UY,UZ,Ta,Tb,Tc,Tf,Tg,Th,Ti,Tl,Tm,Tp,Tr,Ts,Tv,Ty,Tz,T3,T6,T8,TB,Si,Sl,a1,a2,a5,cl,l1,l2,hx,wa,wb,wc,wd,we,m60,m2,m50,m30,d2,wd2,m3,s1,s2,s3,w44,g0,b1,b2,b3,b4,b5,h8]; all_goals tactic => exact rfl))
theorem r39_011_2p (hq : q.Ok) {x : P5} {i : Nat} (hi : i < 5) (hx : q.ls[i]? = some x) (ht : x.e / 2 % 3 = 2) (h8 : 128 < x.e) {L : List Ld} (hL : L.length = i) (a1 a2 : Int) (r1 r2 : List Int) (hr1 : r1.length ≤ 5) (hr2 : r2.length ≤ 5) :
    headX 0 [1,2,3,10,11] (execW progX 39 0 none (match x39l2 with | .loop _ a => a | c => c) (envL [1,2,3,10,11] [.pt 0 0,.pt 1 0,.pt 2 0,.pt 5 0,I (i : Nat)]) (hN q L i [.nilsl,.sl 6 0 1 (r1.length + 1),.sl 7 0 1 (r2.length + 1)] [some (.blk true (.cells true (I a1 :: r1.map I))),some (.blk true (.cells true (I a2 :: r2.map I)))])) =
      some ([.pt 0 0,.pt 1 0,.pt 2 0,.pt 5 0,I (i + 1 : Nat)],hN q (L ++ [x.ld]) (i + 1) [.nilsl,.sl 6 0 1 (r1.length + 1),.sl 7 0 1 (r2.length + 1 + 1)] [some (.blk true (.cells true (I a1 :: r1.map I))),some (.blk true (.cells true (I (i : Nat) :: I a2 :: r2.map I)))]) := by
  obtain ⟨wa,wb,wc,wd,we,m60,m2,m50,m30,d2,wd2,m3,s1,s2,s3⟩ := ldF (hq.ls x (List.mem_of_getElem? hx))
  have a1 := lt_ix (lt_of hx)
  have a2 := up_ix hi (by omega)
  have a5 : ((i : Int) < 5) = True := eq_true (by omega)
  have cl := cL_len L
  rw [hL] at cl
  have ca := cL_app L x.ld
  have l1 : ((i + 1) * 40 ≤ 1099511627776) = True := eq_true (by omega)
  have l2 : (i + 1 ≤ 1099511627776) = True := eq_true (by omega)
  rw [ht] at m3
  unfold hN
  rw [ca]
  unfold P5.ld Ld.row
  dsimp only
  clear ca
  generalize x.e % 2 = ee at *
  generalize 1 + x.c % 60 + x.d % 30 = cd at *
  generalize 1 + x.c % 60 = cc at *
  generalize x.a + x.b % 50 = ab at *
  generalize x.e / 2 = e2 at *
  generalize x.d % 30 = dd at *
  generalize x.c % 60 = c6 at *
  generalize x.b % 50 = bb at *
  generalize cL L = cL0 at *
  have g0 : ((0 : Int) < ((r2.length + 1 : Nat) : Int)) = True := eq_true (by omega)
  have b1 : ((r2.length + 1 + 1) * 8 ≤ 1099511627776) = True := eq_true (by omega)
  have b2 : (r2.length + 1 + 1 ≤ 1099511627776) = True := eq_true (by omega)
  have b3 : 1 + (r2.length + 1) = r2.length + 1 + 1 := by omega
  have b4 : r2.length + 1 - 1 = r2.length := rfl
  have b5 : List.take r2.length (r2.map I) = r2.map I := List.take_of_length_le (by simp)
  have h8 : ((128 : Int) < (x.e : Int)) = True := eq_true (by omega)
  unfold x39l2
  dsimp only
  (sym => (simp [irem2,iquo2,remF,Za,Zb,Zc,Zd,Ze,Zf,Zh,Zi,Zl,Zm,Zn,Zo,Zp,Zt,Zu,Zw,Zy,Zz,Z1,Z3,Z4,Z5,Z6,ZB,ZD,ZE,ZG,ZH,ZI,ZJ,ZK,ZN,ZO,ZP,ZQ,ZR,ZS,ZV,ZW,ZY,ZZ,Yc,Ye,Yg,Yo,Yq,Yr,Ys,Yy,Y0,Y2,Y3,Y4,Y5,Y6,Y8,YA,YK,YN,YT,YU,YX,Xb,Xc,Xe,Xl,Xn,Xq,Xr,Xt,Wj,Wk,Wm,Ws,Wt,Wv,Ww,Wx,Wy,Wz,W0,W3,W4,W6,W7,W8,WA,WB,WE,WF,WG,WH,WI,WJ,WK,WL,WM,WN,WO,WP,WS,WT,WU,WY,WZ,Vb,Vc,Vd,Vf,Vg,Vh,Vj,VI,VJ,VK,VL,VM,VR,VS,VT,VU,VV,VX,VY,VZ,Ua,Ub,Uc,Uf,Uh,Uj,Uk,Ul,Un,Us,Ut,Uu,Uv,Uw,Ux,Uy,Uz,U0,U1,U2,U3,UA,UB,UC,UD,UI,UJ,UK,UL,UO,UP,UQ,US,UT,UV,UW,UX,UY,UZ,Ta,Tb,Tc,Tf,Tg,Th,Ti,Tl,Tm,Tp,Tr,Ts,Tv,Ty,Tz,T3,T6,T7,T8,T9,TB,TP,Si,Sl,a1,a2,a5,cl,l1,l2,hx,wa,wb,wc,wd,we,m60,m2,m50,m30,d2,wd2,m3,s1,s2,s3,w44,g0,b1,b2,b3,b4,b5,h8]; all_goals tactic => exact rfl))
theorem r39_100_0 (hq : q.Ok) {x : P5} {i : Nat} (hi : i < 5) (hx : q.ls[i]? = some x) (ht : x.e / 2 % 3 = 0) (h8 : ¬ 128 < x.e) {L : List Ld} (hL : L.length = i) (a0 : Int) (r0 : List Int) (hr0 : r0.length ≤ 5) :
    headX 0 [1,2,3,10,11] (execW progX 39 0 none (match x39l2 with | .loop _ a => a | c => c) (envL [1,2,3,10,11] [.pt 0 0,.pt 1 0,.pt 2 0,.pt 5 0,I (i : Nat)]) (hN q L i [.sl 6 0 1 (r0.length + 1),.nilsl,.nilsl] [some (.blk true (.cells true (I a0 :: r0.map I)))])) =
      some ([.pt 0 0,.pt 1 0,.pt 2 0,.pt 5 0,I (i + 1 : Nat)],hN q (L ++ [x.ld]) (i + 1) [.sl 6 0 1 (r0.length + 1 + 1),.nilsl,.nilsl] [some (.blk true (.cells true (I a0 :: (r0.map I ++ [I (i : Nat)]))))]) := by
  obtain ⟨wa,wb,wc,wd,we,m60,m2,m50,m30,d2,wd2,m3,s1,s2,s3⟩ := ldF (hq.ls x (List.mem_of_getElem? hx))
  have a1 := lt_ix (lt_of hx)
  have a2 := up_ix hi (by omega)
  have a5 : ((i : Int) < 5) = True := eq_true (by omega)
  have cl := cL_len L
  rw [hL] at cl
  have ca := cL_app L x.ld
  have l1 : ((i + 1) * 40 ≤ 1099511627776) = True := eq_true (by omega)
  have l2 : (i + 1 ≤ 1099511627776) = True := eq_true (by omega)
  rw [ht] at m3
  unfold hN
  rw [ca]
  unfold P5.ld Ld.row
  dsimp only
  clear ca
  generalize x.e % 2 = ee at *
  generalize 1 + x.c % 60 + x.d % 30 = cd at *
  generalize 1 + x.c % 60 = cc at *
  generalize x.a + x.b % 50 = ab at *
  generalize x.e / 2 = e2 at *
  generalize x.d % 30 = dd at *
  generalize x.c % 60 = c6 at *
  generalize x.b % 50 = bb at *
  generalize cL L = cL0 at *
  have g0 : ((0 : Int) < ((r0.length + 1 : Nat) : Int)) = True := eq_true (by omega)
  have b1 : ((r0.length + 1 + 1) * 8 ≤ 1099511627776) = True := eq_true (by omega)
  have b2 : (r0.length + 1 + 1 ≤ 1099511627776) = True := eq_true (by omega)
  have b3 : 1 + (r0.length + 1) = r0.length + 1 + 1 := by omega
  have b4 : r0.length + 1 - 1 = r0.length := rfl
  have b5 : List.take r0.length (r0.map I) = r0.map I := List.take_of_length_le (by simp)
  have h8 : ((128 : Int) < (x.e : Int)) = False := eq_false (by omega)
  unfold x39l2
  dsimp only
  (sym => (simp [irem2,iquo2,remF,Za,Zb,Zc,Zd,Ze,Zf,Zh,Zi,Zl,Zm,Zn,Zo,Zp,Zr,Zt,Zu,Zw,Zy,Zz,Z1,Z3,Z4,Z5,Z6,ZB,ZD,ZE,ZG,ZH,ZI,ZJ,ZK,ZN,ZO,ZP,ZQ,ZR,ZS,ZT,ZV,ZW,ZY,Yc,Ye,Yg,Yo,Yq,Yr,Ys,Yy,Yz,Y0,Y2,Y4,Y5,Y6,Y8,YA,YK,YN,YT,YU,YX,Xb,Xc,Xe,Xl,Xn,Xq,Xr,Xt,Wj,Wk,Wm,Ws,Wt,Wv,Ww,Wx,Wy,Wz,W0,W3,W4,W6,W7,W8,WA,WB,WE,WF,WG,WH,WI,WJ,WK,WL,WM,WN,WO,WP,WS,WT,WU,WY,WZ,Vb,Vc,Vd,Vf,Vg,Vh,Vj,VI,VJ,VK,VL,VM,VN,VR,VS,VT,VU,VV,VX,VY,VZ,Ua,Ub,Uc,Uf,Uh,Uj,Uk,Ul,Un,Us,Ut,Uu,Uv,Uw,Ux,Uy,Uz,U0,U1,U2,U3,UA,UB,UC,UD,UI,UJ,UK,UL,UO,UP,UQ,US,UT,UV,UW,UX,UY,UZ,Ta,Tb,Tc,Tf,Tg,Th,Ti,Tl,Tm,Tp,Tr,Ts,Tv,Ty,Tz,T3,T6,T8,TB,Si,Sl,a1,a2,a5,cl,l1,l2,hx,wa,wb,wc,wd,we,m60,m2,m50,m30,d2,wd2,m3,s1,s2,s3,w44,g0,b1,b2,b3,b4,b5,h8]; all_goals tactic => exact rfl))
theorem r39_100_0p (hq : q.Ok) {x : P5} {i : Nat} (hi : i < 5) (hx : q.ls[i]? = some x) (ht : x.e / 2 % 3 = 0) (h8 : 128 < x.e) {L : List Ld} (hL : L.length = i) (a0 : Int) (r0 : List Int) (hr0 : r0.length ≤ 5) :
    headX 0 [1,2,3,10,11] (execW progX 39 0 none (match x39l2 with | .loop _ a => a | c => c) (envL [1,2,3,10,11] [.pt 0 0,.pt 1 0,.pt 2 0,.pt 5 0,I (i : Nat)]) (hN q L i [.sl 6 0 1 (r0.length + 1),.nilsl,.nilsl] [some (.blk true (.cells true (I a0 :: r0.map I)))])) =
      some ([.pt 0 0,.pt 1 0,.pt 2 0,.pt 5 0,I (i + 1 : Nat)],hN q (L ++ [x.ld]) (i + 1) [.sl 6 0 1 (r0.length + 1 + 1),.nilsl,.nilsl] [some (.blk true (.cells true (I (i : Nat) :: I a0 :: r0.map I)))]) := by
  obtain ⟨wa,wb,wc,wd,we,m60,m2,m50,m30,d2,wd2,m3,s1,s2,s3⟩ := ldF (hq.ls x (List.mem_of_getElem? hx))
  have a1 := lt_ix (lt_of hx)
  have a2 := up_ix hi (by omega)
  have a5 : ((i : Int) < 5) = True := eq_true (by omega)
  have cl := cL_len L
  rw [hL] at cl
  have ca := cL_app L x.ld
  have l1 : ((i + 1) * 40 ≤ 1099511627776) = True := eq_true (by omega)
  have l2 : (i + 1 ≤ 1099511627776) = True := eq_true (by omega)
  rw [ht] at m3
  unfold hN
  rw [ca]
  unfold P5.ld Ld.row
  dsimp only
  clear ca
  generalize x.e % 2 = ee at *
  generalize 1 + x.c % 60 + x.d % 30 = cd at *
  generalize 1 + x.c % 60 = cc at *
  generalize x.a + x.b % 50 = ab at *
  generalize x.e / 2 = e2 at *
  generalize x.d % 30 = dd at *
  generalize x.c % 60 = c6 at *
  generalize x.b % 50 = bb at *
  generalize cL L = cL0 at *
  have g0 : ((0 : Int) < ((r0.length + 1 : Nat) : Int)) = True := eq_true (by omega)
  have b1 : ((r0.length + 1 + 1) * 8 ≤ 1099511627776) = True := eq_true (by omega)
  have b2 : (r0.length + 1 + 1 ≤ 1099511627776) = True := eq_true (by omega)
  have b3 : 1 + (r0.length + 1) = r0.length + 1 + 1 := by omega
  have b4 : r0.length + 1 - 1 = r0.length := rfl
  have b5 : List.take r0.length (r0.map I) = r0.map I := List.take_of_length_le (by simp)
  have h8 : ((128 : Int) < (x.e : Int)) = True := eq_true (by omega)
  unfold x39l2
  dsimp only
  (sym => (simp [irem2,iquo2,remF,Za,Zb,Zc,Zd,Ze,Zf,Zh,Zi,Zl,Zm,Zn,Zo,Zp,Zt,Zu,Zw,Zy,Zz,Z1,Z3,Z4,Z5,Z6,ZB,ZD,ZE,ZG,ZH,ZI,ZJ,ZK,ZN,ZO,ZP,ZQ,ZR,ZS,ZV,ZW,ZY,ZZ,Yc,Ye,Yg,Yo,Yq,Yr,Ys,Yy,Yz,Y0,Y2,Y4,Y5,Y6,Y8,YA,YK,YN,YT,YU,YX,Xb,Xc,Xe,Xl,Xn,Xq,Xr,Xt,Wj,Wk,Wm,Ws,Wt,Wv,Ww,Wx,Wy,Wz,W0,W3,W4,W6,W7,W8,WA,WB,WE,WF,WG,WH,WI,WJ,WK,WL,WM,WN,WO,WP,WS,WT,WU,WY,WZ,Vb,Vc,Vd,Vf,Vg,Vh,Vj,VI,VJ,VK,VL,VM,VR,VS,VT,VU,VV,VX,VY,VZ,Ua,Ub,Uc,Uf,Uh,Uj,Uk,Ul,Un,Us,Ut,Uu,Uv,Uw,Ux,Uy,Uz,U0,U1,U2,U3,UA,UB,UC,UD,UI,UJ,UK,UL,UO,UP,UQ,US,UT,UV,UW,UX,UY,UZ,Ta,Tb,Tc,Tf,Tg,Th,Ti,Tl,Tm,Tp,Tr,Ts,Tv,Ty,Tz,T3,T6,T7,T8,T9,TB,TP,Si,Sl,a1,a2,a5,cl,l1,l2,hx,wa,wb,wc,wd,we,m60,m2,m50,m30,d2,wd2,m3,s1,s2,s3,w44,g0,b1,b2,b3,b4,b5,h8]; all_goals tactic => exact rfl))
theorem r39_100_1 (hq : q.Ok) {x : P5} {i : Nat} (hi : i < 5) (hx : q.ls[i]? = some x) (ht : x.e / 2 % 3 = 1) {L : List Ld} (hL : L.length = i) (a0 : Int) (r0 : List Int) (hr0 : r0.length ≤ 5) :
    headX 0 [1,2,3,10,11] (execW progX 39 0 none (match x39l2 with | .loop _ a => a | c => c) (envL [1,2,3,10,11] [.pt 0 0,.pt 1 0,.pt 2 0,.pt 5 0,I (i : Nat)]) (hN q L i [.sl 6 0 1 (r0.length + 1),.nilsl,.nilsl] [some (.blk true (.cells true (I a0 :: r0.map I)))])) =
      some ([.pt 0 0,.pt 1 0,.pt 2 0,.pt 5 0,I (i + 1 : Nat)],hN q (L ++ [x.ld]) (i + 1) [.sl 6 0 1 (r0.length + 1),.sl 7 0 1 (1),.nilsl] [some (.blk true (.cells true (I a0 :: r0.map I))),some (.blk true (.cells true ([I (i : Nat)])))]) := by
  obtain ⟨wa,wb,wc,wd,we,m60,m2,m50,m30,d2,wd2,m3,s1,s2,s3⟩ := ldF (hq.ls x (List.mem_of_getElem? hx))
  have a1 := lt_ix (lt_of hx)
  have a2 := up_ix hi (by omega)
  have a5 : ((i : Int) < 5) = True := eq_true (by omega)
  have cl := cL_len L
  rw [hL] at cl
  have ca := cL_app L x.ld
  have l1 : ((i + 1) * 40 ≤ 1099511627776) = True := eq_true (by omega)
  have l2 : (i + 1 ≤ 1099511627776) = True := eq_true (by omega)
  rw [ht] at m3
  unfold hN
  rw [ca]
  unfold P5.ld Ld.row
  dsimp only
  clear ca
  generalize x.e % 2 = ee at *
  generalize 1 + x.c % 60 + x.d % 30 = cd at *
  generalize 1 + x.c % 60 = cc at *
  generalize x.a + x.b % 50 = ab at *
  generalize x.e / 2 = e2 at *
  generalize x.d % 30 = dd at *
  generalize x.c % 60 = c6 at *
  generalize x.b % 50 = bb at *
  generalize cL L = cL0 at *
  unfold x39l2
  dsimp only
  rcases ptf ((128 : Int) < (x.e : Int)) with h8 | h8
  · (sym => (simp [irem2,iquo2,remF,Za,Zb,Zc,Zd,Ze,Zf,Zh,Zi,Zl,Zm,Zn,Zo,Zp,Zr,Zt,Zu,Zw,Zy,Zz,Z1,Z3,Z4,Z5,Z6,ZB,ZD,ZE,ZG,ZH,ZI,ZJ,ZK,ZN,ZO,ZP,ZQ,ZR,ZS,ZT,ZV,ZW,ZY,Ya,Yc,Ye,Yg,Yo,Yq,Yr,Ys,Yy,Y0,Y1,Y2,Y4,Y5,Y6,Y8,YA,YK,YN,YT,YU,YX,Xb,Xc,Xe,Xl,Xn,Xq,Xr,Xt,Wj,Wk,Wm,Ws,Wt,Wv,Ww,Wx,Wy,Wz,W0,W3,W4,W6,W7,W8,WA,WB,WE,WF,WG,WH,WI,WJ,WK,WL,WM,WN,WO,WP,WS,WT,WU,WY,WZ,Vb,Vc,Vd,Vf,Vg,Vh,Vj,VI,VJ,VK,VL,VM,VN,VR,VS,VT,VU,VV,VX,VY,VZ,Ua,Ub,Uc,Uf,Uh,Uj,Uk,Ul,Un,Us,Ut,Uu,Uv,Uw,Ux,Uy,Uz,U0,U1,U2,U3,UA,UB,UC,UD,UI,UJ,UK,UL,UO,UP,UQ,UR,US,UT,UV,UW,UX,UY,UZ,Ta,Tb,Tc,Tf,Tg,Th,Ti,Tk,Tl,Tm,Tp,Tr,Ts,Tv,Ty,Tz,T3,T8,TB,Si,Sl,a1,a2,a5,cl,l1,l2,hx,wa,wb,wc,wd,we,m60,m2,m50,m30,d2,wd2,m3,s1,s2,s3,w44,h8]; all_goals tactic => exact rfl))
  · (sym => (simp [irem2,iquo2,remF,Za,Zb,Zc,Zd,Ze,Zf,Zh,Zi,Zl,Zm,Zn,Zo,Zp,Zr,Zt,Zu,Zw,Zy,Zz,Z1,Z3,Z4,Z5,Z6,ZB,ZD,ZE,ZG,ZH,ZI,ZJ,ZK,ZN,ZO,ZP,ZQ,ZR,ZS,ZT,ZV,ZW,ZY,Ya,Yc,Ye,Yg,Yo,Yq,Yr,Ys,Yy,Y0,Y1,Y2,Y4,Y5,Y6,Y8,YA,YK,YN,YT,YU,YX,Xb,Xc,Xe,Xl,Xn,Xq,Xr,Xt,Wj,Wk,Wm,Ws,Wt,Wv,Ww,Wx,Wy,Wz,W0,W3,W4,W6,W7,W8,WA,WB,WE,WF,WG,WH,WI,WJ,WK,WL,WM,WN,WO,WP,WS,WT,WU,WY,WZ,Vb,Vc,Vd,Vf,Vg,Vh,Vj,VI,VJ,VK,VL,VM,VN,VR,VS,VT,VU,VV,VX,VY,VZ,Ua,Ub,Uc,Uf,Uh,Uj,Uk,Ul,Un,Us,Ut,Uu,Uv,Uw,Ux,Uy,Uz,U0,U1,U2,U3,UA,UB,UC,UD,UI,UJ,UK,UL,UO,UP,UQ,UR,US,UT,UV,UW,UX,UY,UZ,Ta,Tb,Tc,Tf,Tg,Th,Ti,Tk,Tl,Tm,Tp,Tr,Ts,Tv,Ty,Tz,T3,T8,TB,Si,Sl,a1,a2,a5,cl,l1,l2,hx,wa,wb,wc,wd,we,m60,m2,m50,m30,d2,wd2,m3,s1,s2,s3,w44,h8]; all_goals tactic => exact rfl))
theorem r39_100_2 (hq : q.Ok) {x : P5} {i : Nat} (hi : i < 5) (hx : q.ls[i]? = some x) (ht : x.e / 2 % 3 = 2) {L : List Ld} (hL : L.length = i) (a0 : Int) (r0 : List Int) (hr0 : r0.length ≤ 5) :
    headX 0 [1,2,3,10,11] (execW progX 39 0 none (match x39l2 with | .loop _ a => a | c => c) (envL [1,2,3,10,11] [.pt 0 0,.pt 1 0,.pt 2 0,.pt 5 0,I (i : Nat)]) (hN q L i [.sl 6 0 1 (r0.length + 1),.nilsl,.nilsl] [some (.blk true (.cells true (I a0 :: r0.map I)))])) =
      some ([.pt 0 0,.pt 1 0,.pt 2 0,.pt 5 0,I (i + 1 : Nat)],hN q (L ++ [x.ld]) (i + 1) [.sl 6 0 1 (r0.length + 1),.nilsl,.sl 7 0 1 (1)] [some (.blk true (.cells true (I a0 :: r0.map I))),some (.blk true (.cells true ([I (i : Nat)])))]) := by
  obtain ⟨wa,wb,wc,wd,we,m60,m2,m50,m30,d2,wd2,m3,s1,s2,s3⟩ := ldF (hq.ls x (List.mem_of_getElem? hx))
  have a1 := lt_ix (lt_of hx)
  have a2 := up_ix hi (by omega)
  have a5 : ((i : Int) < 5) = True := eq_true (by omega)
  have cl := cL_len L
  rw [hL] at cl
  have ca := cL_app L x.ld
  have l1 : ((i + 1) * 40 ≤ 1099511627776) = True := eq_true (by omega)
  have l2 : (i + 1 ≤ 1099511627776) = True := eq_true (by omega)
  rw [ht] at m3
  unfold hN
  rw [ca]
  unfold P5.ld Ld.row
  dsimp only
  clear ca
  generalize x.e % 2 = ee at *
  generalize 1 + x.c % 60 + x.d % 30 = cd at *
  generalize 1 + x.c % 60 = cc at *
  generalize x.a + x.b % 50 = ab at *
  generalize x.e / 2 = e2 at *
  generalize x.d % 30 = dd at *
  generalize x.c % 60 = c6 at *
  generalize x.b % 50 = bb at *
  generalize cL L = cL0 at *
  unfold x39l2
  dsimp only
  rcases ptf ((128 : Int) < (x.e : Int)) with h8 | h8
  · (sym => (simp [irem2,iquo2,remF,Za,Zb,Zc,Zd,Ze,Zf,Zh,Zi,Zl,Zm,Zn,Zo,Zp,Zr,Zt,Zu,Zw,Zy,Zz,Z1,Z3,Z4,Z5,Z6,ZB,ZD,ZE,ZG,ZH,ZI,ZJ,ZK,ZN,ZO,ZP,ZQ,ZR,ZS,ZT,ZV,ZW,ZY,Ya,Yc,Ye,Yg,Yo,Yq,Yr,Ys,Yy,Y0,Y2,Y3,Y4,Y5,Y6,Y8,YA,YK,YN,YT,YU,YX,Xb,Xc,Xe,Xl,Xn,Xq,Xr,Xt,Wj,Wk,Wm,Ws,Wt,Wv,Ww,Wx,Wy,Wz,W0,W3,W4,W6,W7,W8,WA,WB,WE,WF,WG,WH,WI,WJ,WK,WL,WM,WN,WO,WP,WS,WT,WU,WY,WZ,Vb,Vc,Vd,Vf,Vg,Vh,Vj,VI,VJ,VK,VL,VM,VN,VR,VS,VT,VU,VV,VX,VY,VZ,Ua,Ub,Uc,Uf,Uh,Uj,Uk,Ul,Un,Us,Ut,Uu,Uv,Uw,Ux,Uy,Uz,U0,U1,U2,U3,UA,UB,UC,UD,UI,UJ,UK,UL,UO,UP,UQ,UR,US,UT,UV,UW,UX,UY,UZ,Ta,Tb,Tc,Tf,Tg,Th,Ti,Tk,Tl,Tm,Tp,Tr,Ts,Tv,Ty,Tz,T3,T8,TB,Si,Sl,a1,a2,a5,cl,l1,l2,hx,wa,wb,wc,wd,we,m60,m2,m50,m30,d2,wd2,m3,s1,s2,s3,w44,h8]; all_goals tactic => exact rfl))
  · (sym => (simp [irem2,iquo2,remF,Za,Zb,Zc,Zd,Ze,Zf,Zh,Zi,Zl,Zm,Zn,Zo,Zp,Zr,Zt,Zu,Zw,Zy,Zz,Z1,Z3,Z4,Z5,Z6,ZB,ZD,ZE,ZG,ZH,ZI,ZJ,ZK,ZN,ZO,ZP,ZQ,ZR,ZS,ZT,ZV,ZW,ZY,Ya,Yc,Ye,Yg,Yo,Yq,Yr,Ys,Yy,Y0,Y2,Y3,Y4,Y5,Y6,Y8,YA,YK,YN,YT,YU,YX,Xb,Xc,Xe,Xl,Xn,Xq,Xr,Xt,Wj,Wk,Wm,Ws,Wt,Wv,Ww,Wx,Wy,Wz,W0,W3,W4,W6,W7,W8,WA,WB,WE,WF,WG,WH,WI,WJ,WK,WL,WM,WN,WO,WP,WS,WT,WU,WY,WZ,Vb,Vc,Vd,Vf,Vg,Vh,Vj,VI,VJ,VK,VL,VM,VN,VR,VS,VT,VU,VV,VX,VY,VZ,Ua,Ub,Uc,Uf,Uh,Uj,Uk,Ul,Un,Us,Ut,Uu,Uv,Uw,Ux,Uy,Uz,U0,U1,U2,U3,UA,UB,UC,UD,UI,UJ,UK,UL,UO,UP,UQ,UR,US,UT,UV,UW,UX,UY,UZ,Ta,Tb,Tc,Tf,Tg,Th,Ti,Tk,Tl,Tm,Tp,Tr,Ts,Tv,Ty,Tz,T3,T8,TB,Si,Sl,a1,a2,a5,cl,l1,l2,hx,wa,wb,wc,wd,we,m60,m2,m50,m30,d2,wd2,m3,s1,s2,s3,w44,h8]; all_goals tactic => exact rfl))
theorem r39_101_0 (hq : q.Ok) {x : P5} {i : Nat} (hi : i < 5) (hx : q.ls[i]? = some x) (ht : x.e / 2 % 3 = 0) (h8 : ¬ 128 < x.e) {L : List Ld} (hL : L.length = i) (a0 a2 : Int) (r0 r2 : List Int) (hr0 : r0.length ≤ 5) (hr2 : r2.length ≤ 5) :
    headX 0 [1,2,3,10,11] (execW progX 39 0 none (match x39l2 with | .loop _ a => a | c => c) (envL [1,2,3,10,11] [.pt 0 0,.pt 1 0,.pt 2 0,.pt 5 0,I (i : Nat)]) (hN q L i [.sl 6 0 1 (r0.length + 1),.nilsl,.sl 7 0 1 (r2.length + 1)] [some (.blk true (.cells true (I a0 :: r0.map I))),some (.blk true (.cells true (I a2 :: r2.map I)))])) =
      some ([.pt 0 0,.pt 1 0,.pt 2 0,.pt 5 0,I (i + 1 : Nat)],hN q (L ++ [x.ld]) (i + 1) [.sl 6 0 1 (r0.length + 1 + 1),.nilsl,.sl 7 0 1 (r2.length + 1)] [some (.blk true (.cells true (I a0 :: (r0.map I ++ [I (i : Nat)])))),some (.blk true (.cells true (I a2 :: r2.map I)))]) := by
  obtain ⟨wa,wb,wc,wd,we,m60,m2,m50,m30,d2,wd2,m3,s1,s2,s3⟩ := ldF (hq.ls x (List.mem_of_getElem? hx))
  have a1 := lt_ix (lt_of hx)
  have a2 := up_ix hi (by omega)
  have a5 : ((i : Int) < 5) = True := eq_true (by omega)
  have cl := cL_len L
  rw [hL] at cl
  have ca := cL_app L x.ld
  have l1 : ((i + 1) * 40 ≤ 1099511627776) = True := eq_true (by omega)
  have l2 : (i + 1 ≤ 1099511627776) = True := eq_true (by omega)
  rw [ht] at m3
  unfold hN
  rw [ca]
  unfold P5.ld Ld.row
  dsimp only
  clear ca
  generalize x.e % 2 = ee at *
  generalize 1 + x.c % 60 + x.d % 30 = cd at *
  generalize 1 + x.c % 60 = cc at *
  generalize x.a + x.b % 50 = ab at *
  generalize x.e / 2 = e2 at *
  generalize x.d % 30 = dd at *
  generalize x.c % 60 = c6 at *
  generalize x.b % 50 = bb at *
  generalize cL L = cL0 at *
  have g0 : ((0 : Int) < ((r0.length + 1 : Nat) : Int)) = True := eq_true (by omega)
  have b1 : ((r0.length + 1 + 1) * 8 ≤ 1099511627776) = True := eq_true (by omega)
  have b2 : (r0.length + 1 + 1 ≤ 1099511627776) = True := eq_true (by omega)
  have b3 : 1 + (r0.length + 1) = r0.length + 1 + 1 := by omega
  have b4 : r0.length + 1 - 1 = r0.length := rfl
  have b5 : List.take r0.length (r0.map I) = r0.map I := List.take_of_length_le (by simp)
  have h8 : ((128 : Int) < (x.e : Int)) = False := eq_false (by omega)
  unfold x39l2
  dsimp only
  (sym => (simp [irem2,iquo2,remF,Za,Zb,Zc,Zd,Ze,Zf,Zh,Zi,Zl,Zm,Zn,Zo,Zp,Zr,Zt,Zu,Zw,Zy,Zz,Z1,Z3,Z4,Z5,Z6,ZB,ZD,ZE,ZG,ZH,ZI,ZJ,ZK,ZN,ZO,ZP,ZQ,ZR,ZS,ZT,ZV,ZW,ZY,Yc,Ye,Yg,Yo,Yq,Yr,Ys,Yy,Yz,Y0,Y2,Y4,Y5,Y6,Y8,YA,YK,YN,YT,YU,YX,Xb,Xc,Xe,Xl,Xn,Xq,Xr,Xt,Wj,Wk,Wm,Ws,Wt,Wv,Ww,Wx,Wy,Wz,W0,W3,W4,W6,W7,W8,WA,WB,WE,WF,WG,WH,WI,WJ,WK,WL,WM,WN,WO,WP,WS,WT,WU,WY,WZ,Vb,Vc,Vd,Vf,Vg,Vh,Vj,VI,VJ,VK,VL,VM,VN,VR,VS,VT,VU,VV,VX,VY,VZ,Ua,Ub,Uc,Uf,Uh,Uj,Uk,Ul,Un,Us,Ut,Uu,Uv,Uw,Ux,Uy,Uz,U0,U1,U2,U3,UA,UB,UC,UD,UI,UJ,UK,UL,UO,UP,UQ,US,UT,UV,UW,UX,UY,UZ,Ta,Tb,Tc,Tf,Tg,Th,Ti,Tl,Tm,Tp,Tr,Ts,Tv,Ty,Tz,T3,T6,T8,TB,Si,Sl,a1,a2,a5,cl,l1,l2,hx,wa,wb,wc,wd,we,m60,m2,m50,m30,d2,wd2,m3,s1,s2,s3,w44,g0,b1,b2,b3,b4,b5,h8]; all_goals tactic => exact rfl))
theorem r39_101_0p (hq : q.Ok) {x : P5} {i : Nat} (hi : i < 5) (hx : q.ls[i]? = some x) (ht : x.e / 2 % 3 = 0) (h8 : 128 < x.e) {L : List Ld} (hL : L.length = i) (a0 a2 : Int) (r0 r2 : List Int) (hr0 : r0.length ≤ 5) (hr2 : r2.length ≤ 5) :
    headX 0 [1,2,3,10,11] (execW progX 39 0 none (match x39l2 with | .loop _ a => a | c => c) (envL [1,2,3,10,11] [.pt 0 0,.pt 1 0,.pt 2 0,.pt 5 0,I (i : Nat)]) (hN q L i [.sl 6 0 1 (r0.length + 1),.nilsl,.sl 7 0 1 (r2.length + 1)] [some (.blk true (.cells true (I a0 :: r0.map I))),some (.blk true (.cells true (I a2 :: r2.map I)))])) =
      some ([.pt 0 0,.pt 1 0,.pt 2 0,.pt 5 0,I (i + 1 : Nat)],hN q (L ++ [x.ld]) (i + 1) [.sl 6 0 1 (r0.length + 1 + 1),.nilsl,.sl 7 0 1 (r2.length + 1)] [some (.blk true (.cells true (I (i : Nat) :: I a0 :: r0.map I))),some (.blk true (.cells true (I a2 :: r2.map I)))]) := by
  obtain ⟨wa,wb,wc,wd,we,m60,m2,m50,m30,d2,wd2,m3,s1,s2,s3⟩ := ldF (hq.ls x (List.mem_of_getElem? hx))
  have a1 := lt_ix (lt_of hx)
  have a2 := up_ix hi (by omega)
  have a5 : ((i : Int) < 5) = True := eq_true (by omega)
  have cl := cL_len L
  rw [hL] at cl
  have ca := cL_app L x.ld
  have l1 : ((i + 1) * 40 ≤ 1099511627776) = True := eq_true (by omega)
  have l2 : (i + 1 ≤ 1099511627776) = True := eq_true (by omega)
  rw [ht] at m3
  unfold hN
  rw [ca]
  unfold P5.ld Ld.row
  dsimp only
  clear ca
  generalize x.e % 2 = ee at *
  generalize 1 + x.c % 60 + x.d % 30 = cd at *
  generalize 1 + x.c % 60 = cc at *
  generalize x.a + x.b % 50 = ab at *
  generalize x.e / 2 = e2 at *
  generalize x.d % 30 = dd at *
  generalize x.c % 60 = c6 at *
  generalize x.b % 50 = bb at *
  generalize cL L = cL0 at *
  have g0 : ((0 : Int) < ((r0.length + 1 : Nat) : Int)) = True := eq_true (by omega)
  have b1 : ((r0.length + 1 + 1) * 8 ≤ 1099511627776) = True := eq_true (by omega)
  have b2 : (r0.length + 1 + 1 ≤ 1099511627776) = True := eq_true (by omega)
  have b3 : 1 + (r0.length + 1) = r0.length + 1 + 1 := by omega
  have b4 : r0.length + 1 - 1 = r0.length := rfl
  have b5 : List.take r0.length (r0.map I) = r0.map I := List.take_of_length_le (by simp)
  have h8 : ((128 : Int) < (x.e : Int)) = True := eq_true (by omega)
  unfold x39l2
  dsimp only
  (sym => (simp [irem2,iquo2,remF,Za,Zb,Zc,Zd,Ze,Zf,Zh,Zi,Zl,Zm,Zn,Zo,Zp,Zt,Zu,Zw,Zy,Zz,Z1,Z3,Z4,Z5,Z6,ZB,ZD,ZE,ZG,ZH,ZI,ZJ,ZK,ZN,ZO,ZP,ZQ,ZR,ZS,ZV,ZW,ZY,ZZ,Yc,Ye,Yg,Yo,Yq,Yr,Ys,Yy,Yz,Y0,Y2,Y4,Y5,Y6,Y8,YA,YK,YN,YT,YU,YX,Xb,Xc,Xe,Xl,Xn,Xq,Xr,Xt,Wj,Wk,Wm,Ws,Wt,Wv,Ww,Wx,Wy,Wz,W0,W3,W4,W6,W7,W8,WA,WB,WE,WF,WG,WH,WI,WJ,WK,WL,WM,WN,WO,WP,WS,WT,WU,WY,WZ,Vb,Vc,Vd,Vf,Vg,Vh,Vj,VI,VJ,VK,VL,VM,VR,VS,VT,VU,VV,VX,VY,VZ,Ua,Ub,Uc,Uf,Uh,Uj,Uk,Ul,Un,Us,Ut,Uu,Uv,Uw,Ux,Uy,Uz,U0,U1,U2,U3,UA,UB,UC,UD,UI,UJ,UK,UL,UO,UP,UQ,US,UT,UV,UW,UX,UY,UZ,Ta,Tb,Tc,Tf,Tg,Th,Ti,Tl,Tm,Tp,Tr,Ts,Tv,Ty,Tz,T3,T6,T7,T8,T9,TB,TP,Si,Sl,a1,a2,a5,cl,l1,l2,hx,wa,wb,wc,wd,we,m60,m2,m50,m30,d2,wd2,m3,s1,s2,s3,w44,g0,b1,b2,b3,b4,b5,h8]; all_goals tactic => exact rfl))
theorem r39_101_1 (hq : q.Ok) {x : P5} {i : Nat} (hi : i < 5) (hx : q.ls[i]? = some x) (ht : x.e / 2 % 3 = 1) {L : List Ld} (hL : L.length = i) (a0 a2 : Int) (r0 r2 : List Int) (hr0 : r0.length ≤ 5) (hr2 : r2.length ≤ 5) :
    headX 0 [1,2,3,10,11] (execW progX 39 0 none (match x39l2 with | .loop _ a => a | c => c) (envL [1,2,3,10,11] [.pt 0 0,.pt 1 0,.pt 2 0,.pt 5 0,I (i : Nat)]) (hN q L i [.sl 6 0 1 (r0.length + 1),.nilsl,.sl 7 0 1 (r2.length + 1)] [some (.blk true (.cells true (I a0 :: r0.map I))),some (.blk true (.cells true (I a2 :: r2.map I)))])) =
      some ([.pt 0 0,.pt 1 0,.pt 2 0,.pt 5 0,I (i + 1 : Nat)],hN q (L ++ [x.ld]) (i + 1) [.sl 6 0 1 (r0.length + 1),.sl 7 0 1 (1),.sl 8 0 1 (r2.length + 1)] [some (.blk true (.cells true (I a0 :: r0.map I))),some (.blk true (.cells true ([I (i : Nat)]))),some (.blk true (.cells true (I a2 :: r2.map I)))]) := by
  obtain ⟨wa,wb,wc,wd,we,m60,m2,m50,m30,d2,wd2,m3,s1,s2,s3⟩ := ldF (hq.ls x (List.mem_of_getElem? hx))
  have a1 := lt_ix (lt_of hx)
  have a2 := up_ix hi (by omega)
  have a5 : ((i : Int) < 5) = True := eq_true (by omega)
  have cl := cL_len L
  rw [hL] at cl
  have ca := cL_app L x.ld
  have l1 : ((i + 1) * 40 ≤ 1099511627776) = True := eq_true (by omega)
  have l2 : (i + 1 ≤ 1099511627776) = True := eq_true (by omega)
  rw [ht] at m3
  unfold hN
  rw [ca]
  unfold P5.ld Ld.row
  dsimp only
  clear ca
  generalize x.e % 2 = ee at *
  generalize 1 + x.c % 60 + x.d % 30 = cd at *
  generalize 1 + x.c % 60 = cc at *
  generalize x.a + x.b % 50 = ab at *
  generalize x.e / 2 = e2 at *
  generalize x.d % 30 = dd at *
  generalize x.c % 60 = c6 at *
  generalize x.b % 50 = bb at *
  generalize cL L = cL0 at *
  unfold x39l2
  dsimp only
  rcases ptf ((128 : Int) < (x.e : Int)) with h8 | h8
  · (sym => (simp [irem2,iquo2,remF,Za,Zb,Zc,Zd,Ze,Zf,Zh,Zi,Zl,Zm,Zn,Zo,Zp,Zr,Zt,Zu,Zw,Zy,Zz,Z1,Z3,Z4,Z5,Z6,ZB,ZD,ZE,ZG,ZH,ZI,ZJ,ZK,ZN,ZO,ZP,ZQ,ZR,ZS,ZT,ZV,ZW,ZY,Ya,Yc,Ye,Yg,Yo,Yq,Yr,Ys,Yy,Y0,Y1,Y2,Y4,Y5,Y6,Y8,YA,YK,YN,YT,YU,YX,Xb,Xc,Xe,Xl,Xn,Xq,Xr,Xt,Wj,Wk,Wm,Ws,Wt,Wv,Ww,Wx,Wy,Wz,W0,W3,W4,W6,W7,W8,WA,WB,WE,WF,WG,WH,WI,WJ,WK,WL,WM,WN,WO,WP,WS,WT,WU,WY,WZ,Vb,Vc,Vd,Vf,Vg,Vh,Vj,VI,VJ,VK,VL,VM,VN,VR,VS,VT,VU,VV,VX,VY,VZ,Ua,Ub,Uc,Uf,Uh,Uj,Uk,Ul,Un,Us,Ut,Uu,Uv,Uw,Ux,Uy,Uz,U0,U1,U2,U3,UA,UB,UC,UD,UI,UJ,UK,UL,UO,UP,UQ,UR,US,UT,UV,UW,UX,UY,UZ,Ta,Tb,Tc,Tf,Tg,Th,Ti,Tk,Tl,Tm,Tp,Tr,Ts,Tv,Ty,Tz,T3,T8,TB,Si,Sl,a1,a2,a5,cl,l1,l2,hx,wa,wb,wc,wd,we,m60,m2,m50,m30,d2,wd2,m3,s1,s2,s3,w44,h8]; all_goals tactic => exact rfl))
  · (sym => (simp [irem2,iquo2,remF,Za,Zb,Zc,Zd,Ze,Zf,Zh,Zi,Zl,Zm,Zn,Zo,Zp,Zr,Zt,Zu,Zw,Zy,Zz,Z1,Z3,Z4,Z5,Z6,ZB,ZD,ZE,ZG,ZH,ZI,ZJ,ZK,ZN,ZO,ZP,ZQ,ZR,ZS,ZT,ZV,ZW,ZY,Ya,Yc,Ye,Yg,Yo,Yq,Yr,Ys,Yy,Y0,Y1,Y2,Y4,Y5,Y6,Y8,YA,YK,YN,YT,YU,YX,Xb,Xc,Xe,Xl,Xn,Xq,Xr,Xt,Wj,Wk,Wm,Ws,Wt,Wv,Ww,Wx,Wy,Wz,W0,W3,W4,W6,W7,W8,WA,WB,WE,WF,WG,WH,WI,WJ,WK,WL,WM,WN,WO,WP,WS,WT,WU,WY,WZ,Vb,Vc,Vd,Vf,Vg,Vh,Vj,VI,VJ,VK,VL,VM,VN,VR,VS,VT,VU,VV,VX,VY,VZ,Ua,Ub,Uc,Uf,Uh,Uj,Uk,Ul,Un,Us,Ut,Uu,Uv,Uw,Ux,Uy,Uz,U0,U1,U2,U3,UA,UB,UC,UD,UI,UJ,UK,UL,UO,UP,UQ,UR,US,UT,UV,UW,UX,UY,UZ,Ta,Tb,Tc,Tf,Tg,Th,Ti,Tk,Tl,Tm,Tp,Tr,Ts,Tv,Ty,Tz,T3,T8,TB,Si,Sl,a1,a2,a5,cl,l1,l2,hx,wa,wb,wc,wd,we,m60,m2,m50,m30,d2,wd2,m3,s1,s2,s3,w44,h8]; all_goals tactic => exact rfl))
theorem r39_101_2 (hq : q.Ok) {x : P5} {i : Nat} (hi : i < 5) (hx : q.ls[i]? = some x) (ht : x.e / 2 % 3 = 2) (h8 : ¬ 128 < x.e) {L : List Ld} (hL : L.length = i) (a0 a2 : Int) (r0 r2 : List Int) (hr0 : r0.length ≤ 5) (hr2 : r2.length ≤ 5) :
    headX 0 [1,2,3,10,11] (execW progX 39 0 none (match x39l2 with | .loop _ a => a | c => c) (envL [1,2,3,10,11] [.pt 0 0,.pt 1 0,.pt 2 0,.pt 5 0,I (i : Nat)]) (hN q L i [.sl 6 0 1 (r0.length + 1),.nilsl,.sl 7 0 1 (r2.length + 1)] [some (.blk true (.cells true (I a0 :: r0.map I))),some (.blk true (.cells true (I a2 :: r2.map I)))])) =
      some ([.pt 0 0,.pt 1 0,.pt 2 0,.pt 5 0,I (i + 1 : Nat)],hN q (L ++ [x.ld]) (i + 1) [.sl 6 0 1 (r0.length + 1),.nilsl,.sl 7 0 1 (r2.length + 1 + 1)] [some (.blk true (.cells true (I a0 :: r0.map I))),some (.blk true (.cells true (I a2 :: (r2.map I ++ [I (i : Nat)]))))]) := by
  obtain ⟨wa,wb,wc,wd,we,m60,m2,m50,m30,d2,wd2,m3,s1,s2,s3⟩ := ldF (hq.ls x (List.mem_of_getElem? hx))
  have a1 := lt_ix (lt_of hx)
  have a2 := up_ix hi (by omega)
  have a5 : ((i : Int) < 5) = True := eq_true (by omega)
  have cl := cL_len L
  rw [hL] at cl
  have ca := cL_app L x.ld
  have l1 : ((i + 1) * 40 ≤ 1099511627776) = True := eq_true (by omega)
  have l2 : (i + 1 ≤ 1099511627776) = True := eq_true (by omega)
  rw [ht] at m3
  unfold hN
  rw [ca]
  unfold P5.ld Ld.row
  dsimp only
  clear ca
  generalize x.e % 2 = ee at *
  generalize 1 + x.c % 60 + x.d % 30 = cd at *
  generalize 1 + x.c % 60 = cc at *
  generalize x.a + x.b % 50 = ab at *
  generalize x.e / 2 = e2 at *
  generalize x.d % 30 = dd at *
  generalize x.c % 60 = c6 at *
  generalize x.b % 50 = bb at *
  generalize cL L = cL0 at *
  have g0 : ((0 : Int) < ((r2.length + 1 : Nat) : Int)) = True := eq_true (by omega)
  have b1 : ((r2.length + 1 + 1) * 8 ≤ 1099511627776) = True := eq_true (by omega)
  have b2 : (r2.length + 1 + 1 ≤ 1099511627776) = True := eq_true (by omega)
  have b3 : 1 + (r2.length + 1) = r2.length + 1 + 1 := by omega
  have b4 : r2.length + 1 - 1 = r2.length := rfl
  have b5 : List.take r2.length (r2.map I) = r2.map I := List.take_of_length_le (by simp)
  have h8 : ((128 : Int) < (x.e : Int)) = False := eq_false (by omega)
  unfold x39l2
  dsimp only
  (sym => (simp [irem2,iquo2,remF,Za,Zb,Zc,Zd,Ze,Zf,Zh,Zi,Zl,Zm,Zn,Zo,Zp,Zr,Zt,Zu,Zw,Zy,Zz,Z1,Z3,Z4,Z5,Z6,ZB,ZD,ZE,ZG,ZH,ZI,ZJ,ZK,ZN,ZO,ZP,ZQ,ZR,ZS,ZT,ZV,ZW,ZY,Yc,Ye,Yg,Yo,Yq,Yr,Ys,Yy,Y0,Y2,Y3,Y4,Y5,Y6,Y8,YA,YK,YN,YT,YU,YX,Xb,Xc,Xe,Xl,Xn,Xq,Xr,Xt,Wj,Wk,Wm,Ws,Wt,Wv,Ww,Wx,Wy,Wz,W0,W3,W4,W6,W7,W8,WA,WB,WE,WF,WG,WH,WI,WJ,WK,WL,WM,WN,WO,WP,WS,WT,WU,WY,WZ,Vb,Vc,Vd,Vf,Vg,Vh,Vj,VI,VJ,VK,VL,VM,VN,VR,VS,VT,VU,VV,VX,VY,VZ,Ua,Ub,Uc,Uf,Uh,Uj,Uk,Ul,Un,Us,Ut,Uu,Uv,Uw,Ux,Uy,Uz,U0,U1,U2,U3,UA,UB,UC,UD,UI,UJ,UK,UL,UO,UP,UQ,US,UT,UV,UW,UX,UY,UZ,Ta,Tb,Tc,Tf,Tg,Th,Ti,Tl,Tm,Tp,Tr,Ts,Tv,Ty,Tz,T3,T6,T8,TB,Si,Sl,a1,a2,a5,cl,l1,l2,hx,wa,wb,wc,wd,we,m60,m2,m50,m30,d2,wd2,m3,s1,s2,s3,w44,g0,b1,b2,b3,b4,b5,h8]; all_goals tactic => exact rfl))
theorem r39_101_2p (hq : q.Ok) {x : P5} {i : Nat} (hi : i < 5) (hx : q.ls[i]? = some x) (ht : x.e / 2 % 3 = 2) (h8 : 128 < x.e) {L : List Ld} (hL : L.length = i) (a0 a2 : Int) (r0 r2 : List Int) (hr0 : r0.length ≤ 5) (hr2 : r2.length ≤ 5) :
    headX 0 [1,2,3,10,11] (execW progX 39 0 none (match x39l2 with | .loop _ a => a | c => c) (envL [1,2,3,10,11] [.pt 0 0,.pt 1 0,.pt 2 0,.pt 5 0,I (i : Nat)]) (hN q L i [.sl 6 0 1 (r0.length + 1),.nilsl,.sl 7 0 1 (r2.length + 1)] [some (.blk true (.cells true (I a0 :: r0.map I))),some (.blk true (.cells true (I a2 :: r2.map I)))])) =
      some ([.pt 0 0,.pt 1 0,.pt 2 0,.pt 5 0,I (i + 1 : Nat)],hN q (L ++ [x.ld]) (i + 1) [.sl 6 0 1 (r0.length + 1),.nilsl,.sl 7 0 1 (r2.length + 1 + 1)] [some (.blk true (.cells true (I a0 :: r0.map I))),some (.blk true (.cells true (I (i : Nat) :: I a2 :: r2.map I)))]) := by
  obtain ⟨wa,wb,wc,wd,we,m60,m2,m50,m30,d2,wd2,m3,s1,s2,s3⟩ := ldF (hq.ls x (List.mem_of_getElem? hx))
  have a1 := lt_ix (lt_of hx)
  have a2 := up_ix hi (by omega)
  have a5 : ((i : Int) < 5) = True := eq_true (by omega)
  have cl := cL_len L
  rw [hL] at cl
  have ca := cL_app L x.ld
  have l1 : ((i + 1) * 40 ≤ 1099511627776) = True := eq_true (by omega)
  have l2 : (i + 1 ≤ 1099511627776) = True := eq_true (by omega)
  rw [ht] at m3
  unfold hN
  rw [ca]
  unfold P5.ld Ld.row
  dsimp only
  clear ca
  generalize x.e % 2 = ee at *
  generalize 1 + x.c % 60 + x.d % 30 = cd at *
  generalize 1 + x.c % 60 = cc at *
  generalize x.a + x.b % 50 = ab at *
  generalize x.e / 2 = e2 at *
  generalize x.d % 30 = dd at *
  generalize x.c % 60 = c6 at *
  generalize x.b % 50 = bb at *
  generalize cL L = cL0 at *
  have g0 : ((0 : Int) < ((r2.length + 1 : Nat) : Int)) = True := eq_true (by omega)
  have b1 : ((r2.length + 1 + 1) * 8 ≤ 1099511627776) = True := eq_true (by omega)
  have b2 : (r2.length + 1 + 1 ≤ 1099511627776) = True := eq_true (by omega)
  have b3 : 1 + (r2.length + 1) = r2.length + 1 + 1 := by omega
  have b4 : r2.length + 1 - 1 = r2.length := rfl
  have b5 : List.take r2.length (r2.map I) = r2.map I := List.take_of_length_le (by simp)
  have h8 : ((128 : Int) < (x.e : Int)) = True := eq_true (by omega)
  unfold x39l2
  dsimp only
  (sym => (simp [irem2,iquo2,remF,Za,Zb,Zc,Zd,Ze,Zf,Zh,Zi,Zl,Zm,Zn,Zo,Zp,Zt,Zu,Zw,Zy,Zz,Z1,Z3,Z4,Z5,Z6,ZB,ZD,ZE,ZG,ZH,ZI,ZJ,ZK,ZN,ZO,ZP,ZQ,ZR,ZS,ZV,ZW,ZY,ZZ,Yc,Ye,Yg,Yo,Yq,Yr,Ys,Yy,Y0,Y2,Y3,Y4,Y5,Y6,Y8,YA,YK,YN,YT,YU,YX,Xb,Xc,Xe,Xl,Xn,Xq,Xr,Xt,Wj,Wk,Wm,Ws,Wt,Wv,Ww,Wx,Wy,Wz,W0,W3,W4,W6,W7,W8,WA,WB,WE,WF,WG,WH,WI,WJ,WK,WL,WM,WN,WO,WP,WS,WT,WU,WY,WZ,Vb,Vc,Vd,Vf,Vg,Vh,Vj,VI,VJ,VK,VL,VM,VR,VS,VT,VU,VV,VX,VY,VZ,Ua,Ub,Uc,Uf,Uh,Uj,Uk,Ul,Un,Us,Ut,Uu,Uv,Uw,Ux,Uy,Uz,U0,U1,U2,U3,UA,UB,UC,UD,UI,UJ,UK,UL,UO,UP,UQ,US,UT,UV,UW,UX,UY,UZ,Ta,Tb,Tc,Tf,Tg,Th,Ti,Tl,Tm,Tp,Tr,Ts,Tv,Ty,Tz,T3,T6,T7,T8,T9,TB,TP,Si,Sl,a1,a2,a5,cl,l1,l2,hx,wa,wb,wc,wd,we,m60,m2,m50,m30,d2,wd2,m3,s1,s2,s3,w44,g0,b1,b2,b3,b4,b5,h8]; all_goals tactic => exact rfl))
theorem r39_110_0 (hq : q.Ok) {x : P5} {i : Nat} (hi : i < 5) (hx : q.ls[i]? = some x) (ht : x.e / 2 % 3 = 0) (h8 : ¬ 128 < x.e) {L : List Ld} (hL : L.length = i) (a0 a1 : Int) (r0 r1 : List Int) (hr0 : r0.length ≤ 5) (hr1 : r1.length ≤ 5) :
    headX 0 [1,2,3,10,11] (execW progX 39 0 none (match x39l2 with | .loop _ a => a | c => c) (envL [1,2,3,10,11] [.pt 0 0,.pt 1 0,.pt 2 0,.pt 5 0,I (i : Nat)]) (hN q L i [.sl 6 0 1 (r0.length + 1),.sl 7 0 1 (r1.length + 1),.nilsl] [some (.blk true (.cells true (I a0 :: r0.map I))),some (.blk true (.cells true (I a1 :: r1.map I)))])) =
      some ([.pt 0 0,.pt 1 0,.pt 2 0,.pt 5 0,I (i + 1 : Nat)],hN q (L ++ [x.ld]) (i + 1) [.sl 6 0 1 (r0.length + 1 + 1),.sl 7 0 1 (r1.length + 1),.nilsl] [some (.blk true (.cells true (I a0 :: (r0.map I ++ [I (i : Nat)])))),some (.blk true (.cells true (I a1 :: r1.map I)))]) := by
  obtain ⟨wa,wb,wc,wd,we,m60,m2,m50,m30,d2,wd2,m3,s1,s2,s3⟩ := ldF (hq.ls x (List.mem_of_getElem? hx))
  have a1 := lt_ix (lt_of hx)
  have a2 := up_ix hi (by omega)
  have a5 : ((i : Int) < 5) = True := eq_true (by omega)
  have cl := cL_len L
  rw [hL] at cl
  have ca := cL_app L x.ld
  have l1 : ((i + 1) * 40 ≤ 1099511627776) = True := eq_true (by omega)
  have l2 : (i + 1 ≤ 1099511627776) = True := eq_true (by omega)
  rw [ht] at m3
  unfold hN
  rw [ca]
  unfold P5.ld Ld.row
  dsimp only
  clear ca
  generalize x.e % 2 = ee at *
  generalize 1 + x.c % 60 + x.d % 30 = cd at *
  generalize 1 + x.c % 60 = cc at *
  generalize x.a + x.b % 50 = ab at *
  generalize x.e / 2 = e2 at *
  generalize x.d % 30 = dd at *
  generalize x.c % 60 = c6 at *
  generalize x.b % 50 = bb at *
  generalize cL L = cL0 at *
  have g0 : ((0 : Int) < ((r0.length + 1 : Nat) : Int)) = True := eq_true (by omega)
  have b1 : ((r0.length + 1 + 1) * 8 ≤ 1099511627776) = True := eq_true (by omega)
  have b2 : (r0.length + 1 + 1 ≤ 1099511627776) = True := eq_true (by omega)
  have b3 : 1 + (r0.length + 1) = r0.length + 1 + 1 := by omega
  have b4 : r0.length + 1 - 1 = r0.length := rfl
  have b5 : List.take r0.length (r0.map I) = r0.map I := List.take_of_length_le (by simp)
  have h8 : ((128 : Int) < (x.e : Int)) = False := eq_false (by omega)
  unfold x39l2
  dsimp only
  (sym => (simp [irem2,iquo2,remF,Za,Zb,Zc,Zd,Ze,Zf,Zh,Zi,Zl,Zm,Zn,Zo,Zp,Zr,Zt,Zu,Zw,Zy,Zz,Z1,Z3,Z4,Z5,Z6,ZB,ZD,ZE,ZG,ZH,ZI,ZJ,ZK,ZN,ZO,ZP,ZQ,ZR,ZS,ZT,ZV,ZW,ZY,Yc,Ye,Yg,Yo,Yq,Yr,Ys,Yy,Yz,Y0,Y2,Y4,Y5,Y6,Y8,YA,YK,YN,YT,YU,YX,Xb,Xc,Xe,Xl,Xn,Xq,Xr,Xt,Wj,Wk,Wm,Ws,Wt,Wv,Ww,Wx,Wy,Wz,W0,W3,W4,W6,W7,W8,WA,WB,WE,WF,WG,WH,WI,WJ,WK,WL,WM,WN,WO,WP,WS,WT,WU,WY,WZ,Vb,Vc,Vd,Vf,Vg,Vh,Vj,VI,VJ,VK,VL,VM,VN,VR,VS,VT,VU,VV,VX,VY,VZ,Ua,Ub,Uc,Uf,Uh,Uj,Uk,Ul,Un,Us,Ut,Uu,Uv,Uw,Ux,Uy,Uz,U0,U1,U2,U3,UA,UB,UC,UD,UI,UJ,UK,UL,UO,UP,UQ,US,UT,UV,UW,UX,UY,UZ,Ta,Tb,Tc,Tf,Tg,Th,Ti,Tl,Tm,Tp,Tr,Ts,Tv,Ty,Tz,T3,T6,T8,TB,Si,Sl,a1,a2,a5,cl,l1,l2,hx,wa,wb,wc,wd,we,m60,m2,m50,m30,d2,wd2,m3,s1,s2,s3,w44,g0,b1,b2,b3,b4,b5,h8]; all_goals tactic => exact rfl))
theorem r39_110_0p (hq : q.Ok) {x : P5} {i : Nat} (hi : i < 5) (hx : q.ls[i]? = some x) (ht : x.e / 2 % 3 = 0) (h8 : 128 < x.e) {L : List Ld} (hL : L.length = i) (a0 a1 : Int) (r0 r1 : List Int) (hr0 : r0.length ≤ 5) (hr1 : r1.length ≤ 5) :
    headX 0 [1,2,3,10,11] (execW progX 39 0 none (match x39l2 with | .loop _ a => a | c => c) (envL [1,2,3,10,11] [.pt 0 0,.pt 1 0,.pt 2 0,.pt 5 0,I (i : Nat)]) (hN q L i [.sl 6 0 1 (r0.length + 1),.sl 7 0 1 (r1.length + 1),.nilsl] [some (.blk true (.cells true (I a0 :: r0.map I))),some (.blk true (.cells true (I a1 :: r1.map I)))])) =
      some ([.pt 0 0,.pt 1 0,.pt 2 0,.pt 5 0,I (i + 1 : Nat)],hN q (L ++ [x.ld]) (i + 1) [.sl 6 0 1 (r0.length + 1 + 1),.sl 7 0 1 (r1.length + 1),.nilsl] [some (.blk true (.cells true (I (i : Nat) :: I a0 :: r0.map I))),some (.blk true (.cells true (I a1 :: r1.map I)))]) := by
  obtain ⟨wa,wb,wc,wd,we,m60,m2,m50,m30,d2,wd2,m3,s1,s2,s3⟩ := ldF (hq.ls x (List.mem_of_getElem? hx))
  have a1 := lt_ix (lt_of hx)
  have a2 := up_ix hi (by omega)
  have a5 : ((i : Int) < 5) = True := eq_true (by omega)
  have cl := cL_len L
  rw [hL] at cl
  have ca := cL_app L x.ld
  have l1 : ((i + 1) * 40 ≤ 1099511627776) = True := eq_true (by omega)
  have l2 : (i + 1 ≤ 1099511627776) = True := eq_true (by omega)
  rw [ht] at m3
  unfold hN
  rw [ca]
  unfold P5.ld Ld.row
  dsimp only
  clear ca
  generalize x.e % 2 = ee at *
  generalize 1 + x.c % 60 + x.d % 30 = cd at *
  generalize 1 + x.c % 60 = cc at *
  generalize x.a + x.b % 50 = ab at *
  generalize x.e / 2 = e2 at *
  generalize x.d % 30 = dd at *
  generalize x.c % 60 = c6 at *
  generalize x.b % 50 = bb at *
  generalize cL L = cL0 at *
  have g0 : ((0 : Int) < ((r0.length + 1 : Nat) : Int)) = True := eq_true (by omega)
  have b1 : ((r0.length + 1 + 1) * 8 ≤ 1099511627776) = True := eq_true (by omega)
  have b2 : (r0.length + 1 + 1 ≤ 1099511627776) = True := eq_true (by omega)
  have b3 : 1 + (r0.length + 1) = r0.length + 1 + 1 := by omega
  have b4 : r0.length + 1 - 1 = r0.length := rfl
  have b5 : List.take r0.length (r0.map I) = r0.map I := List.take_of_length_le (by simp)
  have h8 : ((128 : Int) < (x.e : Int)) = True := eq_true (by omega)
  unfold x39l2
  dsimp only
  (sym => (simp [irem2,iquo2,remF,Za,Zb,Zc,Zd,Ze,Zf,Zh,Zi,Zl,Zm,Zn,Zo,Zp,Zt,Zu,Zw,Zy,Zz,Z1,Z3,Z4,Z5,Z6,ZB,ZD,ZE,ZG,ZH,ZI,ZJ,ZK,ZN,ZO,ZP,ZQ,ZR,ZS,ZV,ZW,ZY,ZZ,Yc,Ye,Yg,Yo,Yq,Yr,Ys,Yy,Yz,Y0,Y2,Y4,Y5,Y6,Y8,YA,YK,YN,YT,YU,YX,Xb,Xc,Xe,Xl,Xn,Xq,Xr,Xt,Wj,Wk,Wm,Ws,Wt,Wv,Ww,Wx,Wy,Wz,W0,W3,W4,W6,W7,W8,WA,WB,WE,WF,WG,WH,WI,WJ,WK,WL,WM,WN,WO,WP,WS,WT,WU,WY,WZ,Vb,Vc,Vd,Vf,Vg,Vh,Vj,VI,VJ,VK,VL,VM,VR,VS,VT,VU,VV,VX,VY,VZ,Ua,Ub,Uc,Uf,Uh,Uj,Uk,Ul,Un,Us,Ut,Uu,Uv,Uw,Ux,Uy,Uz,U0,U1,U2,U3,UA,UB,UC,UD,UI,UJ,UK,UL,UO,UP,UQ,US,UT,UV,UW,UX,UY,UZ,Ta,Tb,Tc,Tf,Tg,Th,Ti,Tl,Tm,Tp,Tr,Ts,Tv,Ty,Tz,T3,T6,T7,T8,T9,TB,TP,Si,Sl,a1,a2,a5,cl,l1,l2,hx,wa,wb,wc,wd,we,m60,m2,m50,m30,d2,wd2,m3,s1,s2,s3,w44,g0,b1,b2,b3,b4,b5,h8]; all_goals tactic => exact rfl))
theorem r39_110_1 (hq : q.Ok) {x : P5} {i : Nat} (hi : i < 5) (hx : q.ls[i]? = some x) (ht : x.e / 2 % 3 = 1) (h8 : ¬ 128 < x.e) {L : List Ld} (hL : L.length = i) (a0 a1 : Int) (r0 r1 : List Int) (hr0 : r0.length ≤ 5) (hr1 : r1.length ≤ 5) :
    headX 0 [1,2,3,10,11] (execW progX 39 0 none (match x39l2 with | .loop _ a => a | c => c) (envL [1,2,3,10,11] [.pt 0 0,.pt 1 0,.pt 2 0,.pt 5 0,I (i : Nat)]) (hN q L i [.sl 6 0 1 (r0.length + 1),.sl 7 0 1 (r1.length + 1),.nilsl] [some (.blk true (.cells true (I a0 :: r0.map I))),some (.blk true (.cells true (I a1 :: r1.map I)))])) =
      some ([.pt 0 0,.pt 1 0,.pt 2 0,.pt 5 0,I (i + 1 : Nat)],hN q (L ++ [x.ld]) (i + 1) [.sl 6 0 1 (r0.length + 1),.sl 7 0 1 (r1.length + 1 + 1),.nilsl] [some (.blk true (.cells true (I a0 :: r0.map I))),some (.blk true (.cells true (I a1 :: (r1.map I ++ [I (i : Nat)]))))]) := by
  obtain ⟨wa,wb,wc,wd,we,m60,m2,m50,m30,d2,wd2,m3,s1,s2,s3⟩ := ldF (hq.ls x (List.mem_of_getElem? hx))
  have a1 := lt_ix (lt_of hx)
  have a2 := up_ix hi (by omega)
  have a5 : ((i : Int) < 5) = True := eq_true (by omega)
  have cl := cL_len L
  rw [hL] at cl
  have ca := cL_app L x.ld
  have l1 : ((i + 1) * 40 ≤ 1099511627776) = True := eq_true (by omega)
  have l2 : (i + 1 ≤ 1099511627776) = True := eq_true (by omega)
  rw [ht] at m3
  unfold hN
  rw [ca]
  unfold P5.ld Ld.row
  dsimp only
  clear ca
  generalize x.e % 2 = ee at *
  generalize 1 + x.c % 60 + x.d % 30 = cd at *
  generalize 1 + x.c % 60 = cc at *
  generalize x.a + x.b % 50 = ab at *
  generalize x.e / 2 = e2 at *
  generalize x.d % 30 = dd at *
  generalize x.c % 60 = c6 at *
  generalize x.b % 50 = bb at *
  generalize cL L = cL0 at *
  have g0 : ((0 : Int) < ((r1.length + 1 : Nat) : Int)) = True := eq_true (by omega)
  have b1 : ((r1.length + 1 + 1) * 8 ≤ 1099511627776) = True := eq_true (by omega)
  have b2 : (r1.length + 1 + 1 ≤ 1099511627776) = True := eq_true (by omega)
  have b3 : 1 + (r1.length + 1) = r1.length + 1 + 1 := by omega
  have b4 : r1.length + 1 - 1 = r1.length := rfl
  have b5 : List.take r1.length (r1.map I) = r1.map I := List.take_of_length_le (by simp)
  have h8 : ((128 : Int) < (x.e : Int)) = False := eq_false (by omega)
  unfold x39l2
  dsimp only
  (sym => (simp [irem2,iquo2,remF,Za,Zb,Zc,Zd,Ze,Zf,Zh,Zi,Zl,Zm,Zn,Zo,Zp,Zr,Zt,Zu,Zw,Zy,Zz,Z1,Z3,Z4,Z5,Z6,ZB,ZD,ZE,ZG,ZH,ZI,ZJ,ZK,ZN,ZO,ZP,ZQ,ZR,ZS,ZT,ZV,ZW,ZY,Yc,Ye,Yg,Yo,Yq,Yr,Ys,Yy,Y0,Y1,Y2,Y4,Y5,Y6,Y8,YA,YK,YN,YT,YU,YX,Xb,Xc,Xe,Xl,Xn,Xq,Xr,Xt,Wj,Wk,Wm,Ws,Wt,Wv,Ww,Wx,Wy,Wz,W0,W3,W4,W6,W7,W8,WA,WB,WE,WF,WG,WH,WI,WJ,WK,WL,WM,WN,WO,WP,WS,WT,WU,WY,WZ,Vb,Vc,Vd,Vf,Vg,Vh,Vj,VI,VJ,VK,VL,VM,VN,VR,VS,VT,VU,VV,VX,VY,VZ,Ua,Ub,Uc,Uf,Uh,Uj,Uk,Ul,Un,Us,Ut,Uu,Uv,Uw,Ux,Uy,Uz,U0,U1,U2,U3,UA,UB,UC,UD,UI,UJ,UK,UL,UO,UP,UQ,US,UT,UV,UW,UX,UY,UZ,Ta,Tb,Tc,Tf,Tg,Th,Ti,Tl,Tm,Tp,Tr,Ts,Tv,Ty,Tz,T3,T6,T8,TB,Si,Sl,a1,a2,a5,cl,l1,l2,hx,wa,wb,wc,wd,we,m60,m2,m50,m30,d2,wd2,m3,s1,s2,s3,w44,g0,b1,b2,b3,b4,b5,h8]; all_goals tactic => exact rfl))
theorem r39_110_1p (hq : q.Ok) {x : P5} {i : Nat} (hi : i < 5) (hx : q.ls[i]? = some x) (ht : x.e / 2 % 3 = 1) (h8 : 128 < x.e) {L : List Ld} (hL : L.length = i) (a0 a1 : Int) (r0 r1 : List Int) (hr0 : r0.length ≤ 5) (hr1 : r1.length ≤ 5) :
    headX 0 [1,2,3,10,11] (execW progX 39 0 none (match x39l2 with | .loop _ a => a | c => c) (envL [1,2,3,10,11] [.pt 0 0,.pt 1 0,.pt 2 0,.pt 5 0,I (i : Nat)]) (hN q L i [.sl 6 0 1 (r0.length + 1),.sl 7 0 1 (r1.length + 1),.nilsl] [some (.blk true (.cells true (I a0 :: r0.map I))),some (.blk true (.cells true (I a1 :: r1.map I)))])) =
      some ([.pt 0 0,.pt 1 0,.pt 2 0,.pt 5 0,I (i + 1 : Nat)],hN q (L ++ [x.ld]) (i + 1) [.sl 6 0 1 (r0.length + 1),.sl 7 0 1 (r1.length + 1 + 1),.nilsl] [some (.blk true (.cells true (I a0 :: r0.map I))),some (.blk true (.cells true (I (i : Nat) :: I a1 :: r1.map I)))]) := by
  obtain ⟨wa,wb,wc,wd,we,m60,m2,m50,m30,d2,wd2,m3,s1,s2,s3⟩ := ldF (hq.ls x (List.mem_of_getElem? hx))
  have a1 := lt_ix (lt_of hx)
  have a2 := up_ix hi (by omega)
  have a5 : ((i : Int) < 5) = True := eq_true (by omega)
  have cl := cL_len L
  rw [hL] at cl
  have ca := cL_app L x.ld
  have l1 : ((i + 1) * 40 ≤ 1099511627776) = True := eq_true (by omega)
  have l2 : (i + 1 ≤ 1099511627776) = True := eq_true (by omega)
  rw [ht] at m3
  unfold hN
  rw [ca]
  unfold P5.ld Ld.row
  dsimp only
  clear ca
  generalize x.e % 2 = ee at *
  generalize 1 + x.c % 60 + x.d % 30 = cd at *
  generalize 1 + x.c % 60 = cc at *
  generalize x.a + x.b % 50 = ab at *
  generalize x.e / 2 = e2 at *
  generalize x.d % 30 = dd at *
  generalize x.c % 60 = c6 at *
  generalize x.b % 50 = bb at *
  generalize cL L = cL0 at *
  have g0 : ((0 : Int) < ((r1.length + 1 : Nat) : Int)) = True := eq_true (by omega)
  have b1 : ((r1.length + 1 + 1) * 8 ≤ 1099511627776) = True := eq_true (by omega)
  have b2 : (r1.length + 1 + 1 ≤ 1099511627776) = True := eq_true (by omega)
  have b3 : 1 + (r1.length + 1) = r1.length + 1 + 1 := by omega
  have b4 : r1.length + 1 - 1 = r1.length := rfl
  have b5 : List.take r1.length (r1.map I) = r1.map I := List.take_of_length_le (by simp)
  have h8 : ((128 : Int) < (x.e : Int)) = True := eq_true (by omega)
  unfold x39l2
  dsimp only
  (sym => (simp [irem2,iquo2,remF,Za,Zb,Zc,Zd,Ze,Zf,Zh,Zi,Zl,Zm,Zn,Zo,Zp,Zt,Zu,Zw,Zy,Zz,Z1,Z3,Z4,Z5,Z6,ZB,ZD,ZE,ZG,ZH,ZI,ZJ,ZK,ZN,ZO,ZP,ZQ,ZR,ZS,ZV,ZW,ZY,ZZ,Yc,Ye,Yg,Yo,Yq,Yr,Ys,Yy,Y0,Y1,Y2,Y4,Y5,Y6,Y8,YA,YK,YN,YT,YU,YX,Xb,Xc,Xe,Xl,Xn,Xq,Xr,Xt,Wj,Wk,Wm,Ws,Wt,Wv,Ww,Wx,Wy,Wz,W0,W3,W4,W6,W7,W8,WA,WB,WE,WF,WG,WH,WI,WJ,WK,WL,WM,WN,WO,WP,WS,WT,WU,WY,WZ,Vb,Vc,Vd,Vf,Vg,Vh,Vj,VI,VJ,VK,VL,VM,VR,VS,VT,VU,VV,VX,VY,VZ,Ua,Ub,Uc,Uf,Uh,Uj,Uk,Ul,Un,Us,Ut,Uu,Uv,Uw,Ux,Uy,Uz,U0,U1,U2,U3,UA,UB,UC,UD,UI,UJ,UK,UL,UO,UP,UQ,US,UT,UV,UW,UX,UY,UZ,Ta,Tb,Tc,Tf,Tg,Th,Ti,Tl,Tm,Tp,Tr,Ts,Tv,Ty,Tz,T3,T6,T7,T8,T9,TB,TP,Si,Sl,a1,a2,a5,cl,l1,l2,hx,wa,wb,wc,wd,we,m60,m2,m50,m30,d2,wd2,m3,s1,s2,s3,w44,g0,b1,b2,b3,b4,b5,h8]; all_goals tactic => exact rfl))
theorem r39_110_2 (hq : q.Ok) {x : P5} {i : Nat} (hi : i < 5) (hx : q.ls[i]? = some x) (ht : x.e / 2 % 3 = 2) {L : List Ld} (hL : L.length = i) (a0 a1 : Int) (r0 r1 : List Int) (hr0 : r0.length ≤ 5) (hr1 : r1.length ≤ 5) :
    headX 0 [1,2,3,10,11] (execW progX 39 0 none (match x39l2 with | .loop _ a => a | c => c) (envL [1,2,3,10,11] [.pt 0 0,.pt 1 0,.pt 2 0,.pt 5 0,I (i : Nat)]) (hN q L i [.sl 6 0 1 (r0.length + 1),.sl 7 0 1 (r1.length + 1),.nilsl] [some (.blk true (.cells true (I a0 :: r0.map I))),some (.blk true (.cells true (I a1 :: r1.map I)))])) =
      some ([.pt 0 0,.pt 1 0,.pt 2 0,.pt 5 0,I (i + 1 : Nat)],hN q (L ++ [x.ld]) (i + 1) [.sl 6 0 1 (r0.length + 1),.sl 7 0 1 (r1.length + 1),.sl 8 0 1 (1)] [some (.blk true (.cells true (I a0 :: r0.map I))),some (.blk true (.cells true (I a1 :: r1.map I))),some (.blk true (.cells true ([I (i : Nat)])))]) := by
  obtain ⟨wa,wb,wc,wd,we,m60,m2,m50,m30,d2,wd2,m3,s1,s2,s3⟩ := ldF (hq.ls x (List.mem_of_getElem? hx))
  have a1 := lt_ix (lt_of hx)
  have a2 := up_ix hi (by omega)
  have a5 : ((i : Int) < 5) = True := eq_true (by omega)
  have cl := cL_len L
  rw [hL] at cl
  have ca := cL_app L x.ld
  have l1 : ((i + 1) * 40 ≤ 1099511627776) = True := eq_true (by omega)
  have l2 : (i + 1 ≤ 1099511627776) = True := eq_true (by omega)
  rw [ht] at m3
  unfold hN
  rw [ca]
  unfold P5.ld Ld.row
  dsimp only
  clear ca
  generalize x.e % 2 = ee at *
  generalize 1 + x.c % 60 + x.d % 30 = cd at *
  generalize 1 + x.c % 60 = cc at *
  generalize x.a + x.b % 50 = ab at *
  generalize x.e / 2 = e2 at *
  generalize x.d % 30 = dd at *
  generalize x.c % 60 = c6 at *
  generalize x.b % 50 = bb at *
  generalize cL L = cL0 at *
  unfold x39l2
  dsimp only
  rcases ptf ((128 : Int) < (x.e : Int)) with h8 | h8
  · (sym => (simp [irem2,iquo2,remF,Za,Zb,Zc,Zd,Ze,Zf,Zh,Zi,Zl,Zm,Zn,Zo,Zp,Zr,Zt,Zu,Zw,Zy,Zz,Z1,Z3,Z4,Z5,Z6,ZB,ZD,ZE,ZG,ZH,ZI,ZJ,ZK,ZN,ZO,ZP,ZQ,ZR,ZS,ZT,ZV,ZW,ZY,Ya,Yc,Ye,Yg,Yo,Yq,Yr,Ys,Yy,Y0,Y2,Y3,Y4,Y5,Y6,Y8,YA,YK,YN,YT,YU,YX,Xb,Xc,Xe,Xl,Xn,Xq,Xr,Xt,Wj,Wk,Wm,Ws,Wt,Wv,Ww,Wx,Wy,Wz,W0,W3,W4,W6,W7,W8,WA,WB,WE,WF,WG,WH,WI,WJ,WK,WL,WM,WN,WO,WP,WS,WT,WU,WY,WZ,Vb,Vc,Vd,Vf,Vg,Vh,Vj,VI,VJ,VK,VL,VM,VN,VR,VS,VT,VU,VV,VX,VY,VZ,Ua,Ub,Uc,Uf,Uh,Uj,Uk,Ul,Un,Us,Ut,Uu,Uv,Uw,Ux,Uy,Uz,U0,U1,U2,U3,UA,UB,UC,UD,UI,UJ,UK,UL,UO,UP,UQ,UR,US,UT,UV,UW,UX,UY,UZ,Ta,Tb,Tc,Tf,Tg,Th,Ti,Tk,Tl,Tm,Tp,Tr,Ts,Tv,Ty,Tz,T3,T8,TB,Si,Sl,a1,a2,a5,cl,l1,l2,hx,wa,wb,wc,wd,we,m60,m2,m50,m30,d2,wd2,m3,s1,s2,s3,w44,h8]; all_goals tactic => exact rfl))
  · (sym => (simp [irem2,iquo2,remF,Za,Zb,Zc,Zd,Ze,Zf,Zh,Zi,Zl,Zm,Zn,Zo,Zp,Zr,Zt,Zu,Zw,Zy,Zz,Z1,Z3,Z4,Z5,Z6,ZB,ZD,ZE,ZG,ZH,ZI,ZJ,ZK,ZN,ZO,ZP,ZQ,ZR,ZS,ZT,ZV,ZW,ZY,Ya,Yc,Ye,Yg,Yo,Yq,Yr,Ys,Yy,Y0,Y2,Y3,Y4,Y5,Y6,Y8,YA,YK,YN,YT,YU,YX,Xb,Xc,Xe,Xl,Xn,Xq,Xr,Xt,Wj,Wk,Wm,Ws,Wt,Wv,Ww,Wx,Wy,Wz,W0,W3,W4,W6,W7,W8,WA,WB,WE,WF,WG,WH,WI,WJ,WK,WL,WM,WN,WO,WP,WS,WT,WU,WY,WZ,Vb,Vc,Vd,Vf,Vg,Vh,Vj,VI,VJ,VK,VL,VM,VN,VR,VS,VT,VU,VV,VX,VY,VZ,Ua,Ub,Uc,Uf,Uh,Uj,Uk,Ul,Un,Us,Ut,Uu,Uv,Uw,Ux,Uy,Uz,U0,U1,U2,U3,UA,UB,UC,UD,UI,UJ,UK,UL,UO,UP,UQ,UR,US,UT,UV,UW,UX,UY,UZ,Ta,Tb,Tc,Tf,Tg,Th,Ti,Tk,Tl,Tm,Tp,Tr,Ts,Tv,Ty,Tz,T3,T8,TB,Si,Sl,a1,a2,a5,cl,l1,l2,hx,wa,wb,wc,wd,we,m60,m2,m50,m30,d2,wd2,m3,s1,s2,s3,w44,h8]; all_goals tactic => exact rfl))
theorem r39_111_0 (hq : q.Ok) {x : P5} {i : Nat} (hi : i < 5) (hx : q.ls[i]? = some x) (ht : x.e / 2 % 3 = 0) (h8 : ¬ 128 < x.e) {L : List Ld} (hL : L.length = i) (a0 a1 a2 : Int) (r0 r1 r2 : List Int) (hr0 : r0.length ≤ 5) (hr1 : r1.length ≤ 5) (hr2 : r2.length ≤ 5) :
    headX 0 [1,2,3,10,11] (execW progX 39 0 none (match x39l2 with | .loop _ a => a | c => c) (envL [1,2,3,10,11] [.pt 0 0,.pt 1 0,.pt 2 0,.pt 5 0,I (i : Nat)]) (hN q L i [.sl 6 0 1 (r0.length + 1),.sl 7 0 1 (r1.length + 1),.sl 8 0 1 (r2.length + 1)] [some (.blk true (.cells true (I a0 :: r0.map I))),some (.blk true (.cells true (I a1 :: r1.map I))),some (.blk true (.cells true (I a2 :: r2.map I)))])) =
      some ([.pt 0 0,.pt 1 0,.pt 2 0,.pt 5 0,I (i + 1 : Nat)],hN q (L ++ [x.ld]) (i + 1) [.sl 6 0 1 (r0.length + 1 + 1),.sl 7 0 1 (r1.length + 1),.sl 8 0 1 (r2.length + 1)] [some (.blk true (.cells true (I a0 :: (r0.map I ++ [I (i : Nat)])))),some (.blk true (.cells true (I a1 :: r1.map I))),some (.blk true (.cells true (I a2 :: r2.map I)))]) := by
  obtain ⟨wa,wb,wc,wd,we,m60,m2,m50,m30,d2,wd2,m3,s1,s2,s3⟩ := ldF (hq.ls x (List.mem_of_getElem? hx))
  have a1 := lt_ix (lt_of hx)
  have a2 := up_ix hi (by omega)
  have a5 : ((i : Int) < 5) = True := eq_true (by omega)
  have cl := cL_len L
  rw [hL] at cl
  have ca := cL_app L x.ld
  have l1 : ((i + 1) * 40 ≤ 1099511627776) = True := eq_true (by omega)
  have l2 : (i + 1 ≤ 1099511627776) = True := eq_true (by omega)
  rw [ht] at m3
  unfold hN
  rw [ca]
  unfold P5.ld Ld.row
  dsimp only
  clear ca
  generalize x.e % 2 = ee at *
  generalize 1 + x.c % 60 + x.d % 30 = cd at *
  generalize 1 + x.c % 60 = cc at *
  generalize x.a + x.b % 50 = ab at *
  generalize x.e / 2 = e2 at *
  generalize x.d % 30 = dd at *
  generalize x.c % 60 = c6 at *
  generalize x.b % 50 = bb at *
  generalize cL L = cL0 at *
  have g0 : ((0 : Int) < ((r0.length + 1 : Nat) : Int)) = True := eq_true (by omega)
  have b1 : ((r0.length + 1 + 1) * 8 ≤ 1099511627776) = True := eq_true (by omega)
  have b2 : (r0.length + 1 + 1 ≤ 1099511627776) = True := eq_true (by omega)
  have b3 : 1 + (r0.length + 1) = r0.length + 1 + 1 := by omega
  have b4 : r0.length + 1 - 1 = r0.length := rfl
  have b5 : List.take r0.length (r0.map I) = r0.map I := List.take_of_length_le (by simp)
  have h8 : ((128 : Int) < (x.e : Int)) = False := eq_false (by omega)
  unfold x39l2
  dsimp only
  (sym => (simp [irem2,iquo2,remF,Za,Zb,Zc,Zd,Ze,Zf,Zh,Zi,Zl,Zm,Zn,Zo,Zp,Zr,Zt,Zu,Zw,Zy,Zz,Z1,Z3,Z4,Z5,Z6,ZB,ZD,ZE,ZG,ZH,ZI,ZJ,ZK,ZN,ZO,ZP,ZQ,ZR,ZS,ZT,ZV,ZW,ZY,Yc,Ye,Yg,Yo,Yq,Yr,Ys,Yy,Yz,Y0,Y2,Y4,Y5,Y6,Y8,YA,YK,YN,YT,YU,YX,Xb,Xc,Xe,Xl,Xn,Xq,Xr,Xt,Wj,Wk,Wm,Ws,Wt,Wv,Ww,Wx,Wy,Wz,W0,W3,W4,W6,W7,W8,WA,WB,WE,WF,WG,WH,WI,WJ,WK,WL,WM,WN,WO,WP,WS,WT,WU,WY,WZ,Vb,Vc,Vd,Vf,Vg,Vh,Vj,VI,VJ,VK,VL,VM,VN,VR,VS,VT,VU,VV,VX,VY,VZ,Ua,Ub,Uc,Uf,Uh,Uj,Uk,Ul,Un,Us,Ut,Uu,Uv,Uw,Ux,Uy,Uz,U0,U1,U2,U3,UA,UB,UC,UD,UI,UJ,UK,UL,UO,UP,UQ,US,UT,UV,UW,UX,UY,UZ,Ta,Tb,Tc,Tf,Tg,Th,Ti,Tl,Tm,Tp,Tr,Ts,Tv,Ty,Tz,T3,T6,T8,TB,Si,Sl,a1,a2,a5,cl,l1,l2,hx,wa,wb,wc,wd,we,m60,m2,m50,m30,d2,wd2,m3,s1,s2,s3,w44,g0,b1,b2,b3,b4,b5,h8]; all_goals tactic => exact rfl))
theorem r39_111_0p (hq : q.Ok) {x : P5} {i : Nat} (hi : i < 5) (hx : q.ls[i]? = some x) (ht : x.e / 2 % 3 = 0) (h8 : 128 < x.e) {L : List Ld} (hL : L.length = i) (a0 a1 a2 : Int) (r0 r1 r2 : List Int) (hr0 : r0.length ≤ 5) (hr1 : r1.length ≤ 5) (hr2 : r2.length ≤ 5) :
    headX 0 [1,2,3,10,11] (execW progX 39 0 none (match x39l2 with | .loop _ a => a | c => c) (envL [1,2,3,10,11] [.pt 0 0,.pt 1 0,.pt 2 0,.pt 5 0,I (i : Nat)]) (hN q L i [.sl 6 0 1 (r0.length + 1),.sl 7 0 1 (r1.length + 1),.sl 8 0 1 (r2.length + 1)] [some (.blk true (.cells true (I a0 :: r0.map I))),some (.blk true (.cells true (I a1 :: r1.map I))),some (.blk true (.cells true (I a2 :: r2.map I)))])) =
      some ([.pt 0 0,.pt 1 0,.pt 2 0,.pt 5 0,I (i + 1 : Nat)],hN q (L ++ [x.ld]) (i + 1) [.sl 6 0 1 (r0.length + 1 + 1),.sl 7 0 1 (r1.length + 1),.sl 8 0 1 (r2.length + 1)] [some (.blk true (.cells true (I (i : Nat) :: I a0 :: r0.map I))),some (.blk true (.cells true (I a1 :: r1.map I))),some (.blk true (.cells true (I a2 :: r2.map I)))]) := by
  obtain ⟨wa,wb,wc,wd,we,m60,m2,m50,m30,d2,wd2,m3,s1,s2,s3⟩ := ldF (hq.ls x (List.mem_of_getElem? hx))
  have a1 := lt_ix (lt_of hx)
  have a2 := up_ix hi (by omega)
  have a5 : ((i : Int) < 5) = True := eq_true (by omega)
  have cl := cL_len L
  rw [hL] at cl
  have ca := cL_app L x.ld
  have l1 : ((i + 1) * 40 ≤ 1099511627776) = True := eq_true (by omega)
  have l2 : (i + 1 ≤ 1099511627776) = True := eq_true (by omega)
  rw [ht] at m3
  unfold hN
  rw [ca]
  unfold P5.ld Ld.row
  dsimp only
  clear ca
  generalize x.e % 2 = ee at *
  generalize 1 + x.c % 60 + x.d % 30 = cd at *
  generalize 1 + x.c % 60 = cc at *
  generalize x.a + x.b % 50 = ab at *
  generalize x.e / 2 = e2 at *
  generalize x.d % 30 = dd at *
  generalize x.c % 60 = c6 at *
  generalize x.b % 50 = bb at *
  generalize cL L = cL0 at *
  have g0 : ((0 : Int) < ((r0.length + 1 : Nat) : Int)) = True := eq_true (by omega)
  have b1 : ((r0.length + 1 + 1) * 8 ≤ 1099511627776) = True := eq_true (by omega)
  have b2 : (r0.length + 1 + 1 ≤ 1099511627776) = True := eq_true (by omega)
  have b3 : 1 + (r0.length + 1) = r0.length + 1 + 1 := by omega
  have b4 : r0.length + 1 - 1 = r0.length := rfl
  have b5 : List.take r0.length (r0.map I) = r0.map I := List.take_of_length_le (by simp)
  have h8 : ((128 : Int) < (x.e : Int)) = True := eq_true (by omega)
  unfold x39l2
  dsimp only
  (sym => (simp [irem2,iquo2,remF,Za,Zb,Zc,Zd,Ze,Zf,Zh,Zi,Zl,Zm,Zn,Zo,Zp,Zt,Zu,Zw,Zy,Zz,Z1,Z3,Z4,Z5,Z6,ZB,ZD,ZE,ZG,ZH,ZI,ZJ,ZK,ZN,ZO,ZP,ZQ,ZR,ZS,ZV,ZW,ZY,ZZ,Yc,Ye,Yg,Yo,Yq,Yr,Ys,Yy,Yz,Y0,Y2,Y4,Y5,Y6,Y8,YA,YK,YN,YT,YU,YX,Xb,Xc,Xe,Xl,Xn,Xq,Xr,Xt,Wj,Wk,Wm,Ws,Wt,Wv,Ww,Wx,Wy,Wz,W0,W3,W4,W6,W7,W8,WA,WB,WE,WF,WG,WH,WI,WJ,WK,WL,WM,WN,WO,WP,WS,WT,WU,WY,WZ,Vb,Vc,Vd,Vf,Vg,Vh,Vj,VI,VJ,VK,VL,VM,VR,VS,VT,VU,VV,VX,VY,VZ,Ua,Ub,Uc,Uf,Uh,Uj,Uk,Ul,Un,Us,Ut,Uu,Uv,Uw,Ux,Uy,Uz,U0,U1,U2,U3,UA,UB,UC,UD,UI,UJ,UK,UL,UO,UP,UQ,US,UT,UV,UW,UX,UY,UZ,Ta,Tb,Tc,Tf,Tg,Th,Ti,Tl,Tm,Tp,Tr,Ts,Tv,Ty,Tz,T3,T6,T7,T8,T9,TB,TP,Si,Sl,a1,a2,a5,cl,l1,l2,hx,wa,wb,wc,wd,we,m60,m2,m50,m30,d2,wd2,m3,s1,s2,s3,w44,g0,b1,b2,b3,b4,b5,h8]; all_goals tactic => exact rfl))
theorem r39_111_1 (hq : q.Ok) {x : P5} {i : Nat} (hi : i < 5) (hx : q.ls[i]? = some x) (ht : x.e / 2 % 3 = 1) (h8 : ¬ 128 < x.e) {L : List Ld} (hL : L.length = i) (a0 a1 a2 : Int) (r0 r1 r2 : List Int) (hr0 : r0.length ≤ 5) (hr1 : r1.length ≤ 5) (hr2 : r2.length ≤ 5) :
    headX 0 [1,2,3,10,11] (execW progX 39 0 none (match x39l2 with | .loop _ a => a | c => c) (envL [1,2,3,10,11] [.pt 0 0,.pt 1 0,.pt 2 0,.pt 5 0,I (i : Nat)]) (hN q L i [.sl 6 0 1 (r0.length + 1),.sl 7 0 1 (r1.length + 1),.sl 8 0 1 (r2.length + 1)] [some (.blk true (.cells true (I a0 :: r0.map I))),some (.blk true (.cells true (I a1 :: r1.map I))),some (.blk true (.cells true (I a2 :: r2.map I)))])) =
      some ([.pt 0 0,.pt 1 0,.pt 2 0,.pt 5 0,I (i + 1 : Nat)],hN q (L ++ [x.ld]) (i + 1) [.sl 6 0 1 (r0.length + 1),.sl 7 0 1 (r1.length + 1 + 1),.sl 8 0 1 (r2.length + 1)] [some (.blk true (.cells true (I a0 :: r0.map I))),some (.blk true (.cells true (I a1 :: (r1.map I ++ [I (i : Nat)])))),some (.blk true (.cells true (I a2 :: r2.map I)))]) := by
  obtain ⟨wa,wb,wc,wd,we,m60,m2,m50,m30,d2,wd2,m3,s1,s2,s3⟩ := ldF (hq.ls x (List.mem_of_getElem? hx))
  have a1 := lt_ix (lt_of hx)
  have a2 := up_ix hi (by omega)
  have a5 : ((i : Int) < 5) = True := eq_true (by omega)
  have cl := cL_len L
  rw [hL] at cl
  have ca := cL_app L x.ld
  have l1 : ((i + 1) * 40 ≤ 1099511627776) = True := eq_true (by omega)
  have l2 : (i + 1 ≤ 1099511627776) = True := eq_true (by omega)
  rw [ht] at m3
  unfold hN
  rw [ca]
  unfold P5.ld Ld.row
  dsimp only
  clear ca
  generalize x.e % 2 = ee at *
  generalize 1 + x.c % 60 + x.d % 30 = cd at *
  generalize 1 + x.c % 60 = cc at *
  generalize x.a + x.b % 50 = ab at *
  generalize x.e / 2 = e2 at *
  generalize x.d % 30 = dd at *
  generalize x.c % 60 = c6 at *
  generalize x.b % 50 = bb at *
  generalize cL L = cL0 at *
  have g0 : ((0 : Int) < ((r1.length + 1 : Nat) : Int)) = True := eq_true (by omega)
  have b1 : ((r1.length + 1 + 1) * 8 ≤ 1099511627776) = True := eq_true (by omega)
  have b2 : (r1.length + 1 + 1 ≤ 1099511627776) = True := eq_true (by omega)
  have b3 : 1 + (r1.length + 1) = r1.length + 1 + 1 := by omega
  have b4 : r1.length + 1 - 1 = r1.length := rfl
  have b5 : List.take r1.length (r1.map I) = r1.map I := List.take_of_length_le (by simp)
  have h8 : ((128 : Int) < (x.e : Int)) = False := eq_false (by omega)
  unfold x39l2
  dsimp only
  (sym => (simp [irem2,iquo2,remF,Za,Zb,Zc,Zd,Ze,Zf,Zh,Zi,Zl,Zm,Zn,Zo,Zp,Zr,Zt,Zu,Zw,Zy,Zz,Z1,Z3,Z4,Z5,Z6,ZB,ZD,ZE,ZG,ZH,ZI,ZJ,ZK,ZN,ZO,ZP,ZQ,ZR,ZS,ZT,ZV,ZW,ZY,Yc,Ye,Yg,Yo,Yq,Yr,Ys,Yy,Y0,Y1,Y2,Y4,Y5,Y6,Y8,YA,YK,YN,YT,YU,YX,Xb,Xc,Xe,Xl,Xn,Xq,Xr,Xt,Wj,Wk,Wm,Ws,Wt,Wv,Ww,Wx,Wy,Wz,W0,W3,W4,W6,W7,W8,WA,WB,WE,WF,WG,WH,WI,WJ,WK,WL,WM,WN,WO,WP,WS,WT,WU,WY,WZ,Vb,Vc,Vd,Vf,Vg,Vh,Vj,VI,VJ,VK,VL,VM,VN,VR,VS,VT,VU,VV,VX,VY,VZ,Ua,Ub,Uc,Uf,Uh,Uj,Uk,Ul,Un,Us,Ut,Uu,Uv,Uw,Ux,Uy,Uz,U0,U1,U2,U3,UA,UB,UC,UD,UI,UJ,UK,UL,UO,UP,UQ,US,UT,UV,UW,UX,UY,UZ,Ta,Tb,Tc,Tf,Tg,Th,Ti,Tl,Tm,Tp,Tr,Ts,Tv,Ty,Tz,T3,T6,T8,TB,Si,Sl,a1,a2,a5,cl,l1,l2,hx,wa,wb,wc,wd,we,m60,m2,m50,m30,d2,wd2,m3,s1,s2,s3,w44,g0,b1,b2,b3,b4,b5,h8]; all_goals tactic => exact rfl))
theorem r39_111_1p (hq : q.Ok) {x : P5} {i : Nat} (hi : i < 5) (hx : q.ls[i]? = some x) (ht : x.e / 2 % 3 = 1) (h8 : 128 < x.e) {L : List Ld} (hL : L.length = i) (a0 a1 a2 : Int) (r0 r1 r2 : List Int) (hr0 : r0.length ≤ 5) (hr1 : r1.length ≤ 5) (hr2 : r2.length ≤ 5) :
    headX 0 [1,2,3,10,11] (execW progX 39 0 none (match x39l2 with | .loop _ a => a | c => c) (envL [1,2,3,10,11] [.pt 0 0,.pt 1 0,.pt 2 0,.pt 5 0,I (i : Nat)]) (hN q L i [.sl 6 0 1 (r0.length + 1),.sl 7 0 1 (r1.length + 1),.sl 8 0 1 (r2.length + 1)] [some (.blk true (.cells true (I a0 :: r0.map I))),some (.blk true (.cells true (I a1 :: r1.map I))),some (.blk true (.cells true (I a2 :: r2.map I)))])) =
      some ([.pt 0 0,.pt 1 0,.pt 2 0,.pt 5 0,I (i + 1 : Nat)],hN q (L ++ [x.ld]) (i + 1) [.sl 6 0 1 (r0.length + 1),.sl 7 0 1 (r1.length + 1 + 1),.sl 8 0 1 (r2.length + 1)] [some (.blk true (.cells true (I a0 :: r0.map I))),some (.blk true (.cells true (I (i : Nat) :: I a1 :: r1.map I))),some (.blk true (.cells true (I a2 :: r2.map I)))]) := by
  obtain ⟨wa,wb,wc,wd,we,m60,m2,m50,m30,d2,wd2,m3,s1,s2,s3⟩ := ldF (hq.ls x (List.mem_of_getElem? hx))
  have a1 := lt_ix (lt_of hx)
  have a2 := up_ix hi (by omega)
  have a5 : ((i : Int) < 5) = True := eq_true (by omega)
  have cl := cL_len L
  rw [hL] at cl
  have ca := cL_app L x.ld
  have l1 : ((i + 1) * 40 ≤ 1099511627776) = True := eq_true (by omega)
  have l2 : (i + 1 ≤ 1099511627776) = True := eq_true (by omega)
  rw [ht] at m3
  unfold hN
  rw [ca]
  unfold P5.ld Ld.row
  dsimp only
  clear ca
  generalize x.e % 2 = ee at *
  generalize 1 + x.c % 60 + x.d % 30 = cd at *
  generalize 1 + x.c % 60 = cc at *
  generalize x.a + x.b % 50 = ab at *
  generalize x.e / 2 = e2 at *
  generalize x.d % 30 = dd at *
  generalize x.c % 60 = c6 at *
  generalize x.b % 50 = bb at *
  generalize cL L = cL0 at *
  have g0 : ((0 : Int) < ((r1.length + 1 : Nat) : Int)) = True := eq_true (by omega)
  have b1 : ((r1.length + 1 + 1) * 8 ≤ 1099511627776) = True := eq_true (by omega)
  have b2 : (r1.length + 1 + 1 ≤ 1099511627776) = True := eq_true (by omega)
  have b3 : 1 + (r1.length + 1) = r1.length + 1 + 1 := by omega
  have b4 : r1.length + 1 - 1 = r1.length := rfl
  have b5 : List.take r1.length (r1.map I) = r1.map I := List.take_of_length_le (by simp)
  have h8 : ((128 : Int) < (x.e : Int)) = True := eq_true (by omega)
  unfold x39l2
  dsimp only
  (sym => (simp [irem2,iquo2,remF,Za,Zb,Zc,Zd,Ze,Zf,Zh,Zi,Zl,Zm,Zn,Zo,Zp,Zt,Zu,Zw,Zy,Zz,Z1,Z3,Z4,Z5,Z6,ZB,ZD,ZE,ZG,ZH,ZI,ZJ,ZK,ZN,ZO,ZP,ZQ,ZR,ZS,ZV,ZW,ZY,ZZ,Yc,Ye,Yg,Yo,Yq,Yr,Ys,Yy,Y0,Y1,Y2,Y4,Y5,Y6,Y8,YA,YK,YN,YT,YU,YX,Xb,Xc,Xe,Xl,Xn,Xq,Xr,Xt,Wj,Wk,Wm,Ws,Wt,Wv,Ww,Wx,Wy,Wz,W0,W3,W4,W6,W7,W8,WA,WB,WE,WF,WG,WH,WI,WJ,WK,WL,WM,WN,WO,WP,WS,WT,WU,WY,WZ,Vb,Vc,Vd,Vf,Vg,Vh,Vj,VI,VJ,VK,VL,VM,VR,VS,VT,VU,VV,VX,VY,VZ,Ua,Ub,Uc,Uf,Uh,Uj,Uk,Ul,Un,Us,Ut,Uu,Uv,Uw,Ux,Uy,Uz,U0,U1,U2,U3,UA,UB,UC,UD,UI,UJ,UK,UL,UO,UP,UQ,US,UT,UV,UW,UX,UY,UZ,Ta,Tb,Tc,Tf,Tg,Th,Ti,Tl,Tm,Tp,Tr,Ts,Tv,Ty,Tz,T3,T6,T7,T8,T9,TB,TP,Si,Sl,a1,a2,a5,cl,l1,l2,hx,wa,wb,wc,wd,we,m60,m2,m50,m30,d2,wd2,m3,s1,s2,s3,w44,g0,b1,b2,b3,b4,b5,h8]; all_goals tactic => exact rfl))
theorem r39_111_2 (hq : q.Ok) {x : P5} {i : Nat} (hi : i < 5) (hx : q.ls[i]? = some x) (ht : x.e / 2 % 3 = 2) (h8 : ¬ 128 < x.e) {L : List Ld} (hL : L.length = i) (a0 a1 a2 : Int) (r0 r1 r2 : List Int) (hr0 : r0.length ≤ 5) (hr1 : r1.length ≤ 5) (hr2 : r2.length ≤ 5) :
    headX 0 [1,2,3,10,11] (execW progX 39 0 none (match x39l2 with | .loop _ a => a | c => c) (envL [1,2,3,10,11] [.pt 0 0,.pt 1 0,.pt 2 0,.pt 5 0,I (i : Nat)]) (hN q L i [.sl 6 0 1 (r0.length + 1),.sl 7 0 1 (r1.length + 1),.sl 8 0 1 (r2.length + 1)] [some (.blk true (.cells true (I a0 :: r0.map I))),some (.blk true (.cells true (I a1 :: r1.map I))),some (.blk true (.cells true (I a2 :: r2.map I)))])) =
      some ([.pt 0 0,.pt 1 0,.pt 2 0,.pt 5 0,I (i + 1 : Nat)],hN q (L ++ [x.ld]) (i + 1) [.sl 6 0 1 (r0.length + 1),.sl 7 0 1 (r1.length + 1),.sl 8 0 1 (r2.length + 1 + 1)] [some (.blk true (.cells true (I a0 :: r0.map I))),some (.blk true (.cells true (I a1 :: r1.map I))),some (.blk true (.cells true (I a2 :: (r2.map I ++ [I (i : Nat)]))))]) := by
  obtain ⟨wa,wb,wc,wd,we,m60,m2,m50,m30,d2,wd2,m3,s1,s2,s3⟩ := ldF (hq.ls x (List.mem_of_getElem? hx))
  have a1 := lt_ix (lt_of hx)
  have a2 := up_ix hi (by omega)
  have a5 : ((i : Int) < 5) = True := eq_true (by omega)
  have cl := cL_len L
  rw [hL] at cl
  have ca := cL_app L x.ld
  have l1 : ((i + 1) * 40 ≤ 1099511627776) = True := eq_true (by omega)
  have l2 : (i + 1 ≤ 1099511627776) = True := eq_true (by omega)
  rw [ht] at m3
  unfold hN
  rw [ca]
  unfold P5.ld Ld.row
  dsimp only
  clear ca
  generalize x.e % 2 = ee at *
  generalize 1 + x.c % 60 + x.d % 30 = cd at *
  generalize 1 + x.c % 60 = cc at *
  generalize x.a + x.b % 50 = ab at *
  generalize x.e / 2 = e2 at *
  generalize x.d % 30 = dd at *
  generalize x.c % 60 = c6 at *
  generalize x.b % 50 = bb at *
  generalize cL L = cL0 at *
  have g0 : ((0 : Int) < ((r2.length + 1 : Nat) : Int)) = True := eq_true (by omega)
  have b1 : ((r2.length + 1 + 1) * 8 ≤ 1099511627776) = True := eq_true (by omega)
  have b2 : (r2.length + 1 + 1 ≤ 1099511627776) = True := eq_true (by omega)
  have b3 : 1 + (r2.length + 1) = r2.length + 1 + 1 := by omega
  have b4 : r2.length + 1 - 1 = r2.length := rfl
  have b5 : List.take r2.length (r2.map I) = r2.map I := List.take_of_length_le (by simp)
  have h8 : ((128 : Int) < (x.e : Int)) = False := eq_false (by omega)
  unfold x39l2
  dsimp only
  (sym => (simp [irem2,iquo2,remF,Za,Zb,Zc,Zd,Ze,Zf,Zh,Zi,Zl,Zm,Zn,Zo,Zp,Zr,Zt,Zu,Zw,Zy,Zz,Z1,Z3,Z4,Z5,Z6,ZB,ZD,ZE,ZG,ZH,ZI,ZJ,ZK,ZN,ZO,ZP,ZQ,ZR,ZS,ZT,ZV,ZW,ZY,Yc,Ye,Yg,Yo,Yq,Yr,Ys,Yy,Y0,Y2,Y3,Y4,Y5,Y6,Y8,YA,YK,YN,YT,YU,YX,Xb,Xc,Xe,Xl,Xn,Xq,Xr,Xt,Wj,Wk,Wm,Ws,Wt,Wv,Ww,Wx,Wy,Wz,W0,W3,W4,W6,W7,W8,WA,WB,WE,WF,WG,WH,WI,WJ,WK,WL,WM,WN,WO,WP,WS,WT,WU,WY,WZ,Vb,Vc,Vd,Vf,Vg,Vh,Vj,VI,VJ,VK,VL,VM,VN,VR,VS,VT,VU,VV,VX,VY,VZ,Ua,Ub,Uc,Uf,Uh,Uj,Uk,Ul,Un,Us,Ut,Uu,Uv,Uw,Ux,Uy,Uz,U0,U1,U2,U3,UA,UB,UC,UD,UI,UJ,UK,UL,UO,UP,UQ,US,UT,UV,UW,UX,UY,UZ,Ta,Tb,Tc,Tf,Tg,Th,Ti,Tl,Tm,Tp,Tr,Ts,Tv,Ty,Tz,T3,T6,T8,TB,Si,Sl,a1,a2,a5,cl,l1,l2,hx,wa,wb,wc,wd,we,m60,m2,m50,m30,d2,wd2,m3,s1,s2,s3,w44,g0,b1,b2,b3,b4,b5,h8]; all_goals tactic => exact rfl))
theorem r39_111_2p (hq : q.Ok) {x : P5} {i : Nat} (hi : i < 5) (hx : q.ls[i]? = some x) (ht : x.e / 2 % 3 = 2) (h8 : 128 < x.e) {L : List Ld} (hL : L.length = i) (a0 a1 a2 : Int) (r0 r1 r2 : List Int) (hr0 : r0.length ≤ 5) (hr1 : r1.length ≤ 5) (hr2 : r2.length ≤ 5) :
    headX 0 [1,2,3,10,11] (execW progX 39 0 none (match x39l2 with | .loop _ a => a | c => c) (envL [1,2,3,10,11] [.pt 0 0,.pt 1 0,.pt 2 0,.pt 5 0,I (i : Nat)]) (hN q L i [.sl 6 0 1 (r0.length + 1),.sl 7 0 1 (r1.length + 1),.sl 8 0 1 (r2.length + 1)] [some (.blk true (.cells true (I a0 :: r0.map I))),some (.blk true (.cells true (I a1 :: r1.map I))),some (.blk true (.cells true (I a2 :: r2.map I)))])) =
      some ([.pt 0 0,.pt 1 0,.pt 2 0,.pt 5 0,I (i + 1 : Nat)],hN q (L ++ [x.ld]) (i + 1) [.sl 6 0 1 (r0.length + 1),.sl 7 0 1 (r1.length + 1),.sl 8 0 1 (r2.length + 1 + 1)] [some (.blk true (.cells true (I a0 :: r0.map I))),some (.blk true (.cells true (I a1 :: r1.map I))),some (.blk true (.cells true (I (i : Nat) :: I a2 :: r2.map I)))]) := by
  obtain ⟨wa,wb,wc,wd,we,m60,m2,m50,m30,d2,wd2,m3,s1,s2,s3⟩ := ldF (hq.ls x (List.mem_of_getElem? hx))
  have a1 := lt_ix (lt_of hx)
  have a2 := up_ix hi (by omega)
  have a5 : ((i : Int) < 5) = True := eq_true (by omega)
  have cl := cL_len L
  rw [hL] at cl
  have ca := cL_app L x.ld
  have l1 : ((i + 1) * 40 ≤ 1099511627776) = True := eq_true (by omega)
  have l2 : (i + 1 ≤ 1099511627776) = True := eq_true (by omega)
  rw [ht] at m3
  unfold hN
  rw [ca]
  unfold P5.ld Ld.row
  dsimp only
  clear ca
  generalize x.e % 2 = ee at *
  generalize 1 + x.c % 60 + x.d % 30 = cd at *
  generalize 1 + x.c % 60 = cc at *
  generalize x.a + x.b % 50 = ab at *
  generalize x.e / 2 = e2 at *
  generalize x.d % 30 = dd at *
  generalize x.c % 60 = c6 at *
  generalize x.b % 50 = bb at *
  generalize cL L = cL0 at *
  have g0 : ((0 : Int) < ((r2.length + 1 : Nat) : Int)) = True := eq_true (by omega)
  have b1 : ((r2.length + 1 + 1) * 8 ≤ 1099511627776) = True := eq_true (by omega)
  have b2 : (r2.length + 1 + 1 ≤ 1099511627776) = True := eq_true (by omega)
  have b3 : 1 + (r2.length + 1) = r2.length + 1 + 1 := by omega
  have b4 : r2.length + 1 - 1 = r2.length := rfl
  have b5 : List.take r2.length (r2.map I) = r2.map I := List.take_of_length_le (by simp)
  have h8 : ((128 : Int) < (x.e : Int)) = True := eq_true (by omega)
  unfold x39l2
  dsimp only
  (sym => (simp [irem2,iquo2,remF,Za,Zb,Zc,Zd,Ze,Zf,Zh,Zi,Zl,Zm,Zn,Zo,Zp,Zt,Zu,Zw,Zy,Zz,Z1,Z3,Z4,Z5,Z6,ZB,ZD,ZE,ZG,ZH,ZI,ZJ,ZK,ZN,ZO,ZP,ZQ,ZR,ZS,ZV,ZW,ZY,ZZ,Yc,Ye,Yg,Yo,Yq,Yr,Ys,Yy,Y0,Y2,Y3,Y4,Y5,Y6,Y8,YA,YK,YN,YT,YU,YX,Xb,Xc,Xe,Xl,Xn,Xq,Xr,Xt,Wj,Wk,Wm,Ws,Wt,Wv,Ww,Wx,Wy,Wz,W0,W3,W4,W6,W7,W8,WA,WB,WE,WF,WG,WH,WI,WJ,WK,WL,WM,WN,WO,WP,WS,WT,WU,WY,WZ,Vb,Vc,Vd,Vf,Vg,Vh,Vj,VI,VJ,VK,VL,VM,VR,VS,VT,VU,VV,VX,VY,VZ,Ua,Ub,Uc,Uf,Uh,Uj,Uk,Ul,Un,Us,Ut,Uu,Uv,Uw,Ux,Uy,Uz,U0,U1,U2,U3,UA,UB,UC,UD,UI,UJ,UK,UL,UO,UP,UQ,US,UT,UV,UW,UX,UY,UZ,Ta,Tb,Tc,Tf,Tg,Th,Ti,Tl,Tm,Tp,Tr,Ts,Tv,Ty,Tz,T3,T6,T7,T8,T9,TB,TP,Si,Sl,a1,a2,a5,cl,l1,l2,hx,wa,wb,wc,wd,we,m60,m2,m50,m30,d2,wd2,m3,s1,s2,s3,w44,g0,b1,b2,b3,b4,b5,h8]; all_goals tactic => exact rfl))
end
end Go.Proofs.YtpbeclkpohehgaaDoor
namespace Go.Proofs.YtpbeclkpohehgaaDoor
open Go Go.DL
set_option maxRecDepth 100000
set_option maxHeartbeats 4000000
def putT (x : P5) (i : Nat) (T : List Int) : List Int := if 128 < x.e ∧ T ≠ [] then (i : Int) :: T else T ++ [(i : Int)]
def neL : List Int → Nat
  | [] => 0
  | _ => 1
abbrev csT (T0 T1 T2 : List Int) : List AV := [oS 6 T0,oS (6 + neL T0) T1,oS (6 + neL T0 + neL T1) T2]
abbrev bsT (T0 T1 T2 : List Int) : XH := oG T0 ++ oG T1 ++ oG T2
abbrev upT (x : P5) (i t : Nat) (T : List Int) : List Int := if x.e / 2 % 3 = t then putT x i T else T
theorem rj39_0 {q : Qu} (hq : q.Ok) {x : P5} (hx : q.ls[0]? = some x) :
    headX 0 [1,2,3,10,11] (execW progX 39 0 none (match x39l2 with | .loop _ a => a | c => c) (envL [1,2,3,10,11] [.pt 0 0,.pt 1 0,.pt 2 0,.pt 4 0,I 0]) (hN0 q)) =
      some ([.pt 0 0,.pt 1 0,.pt 2 0,.pt 5 0,I 1],hN q [x.ld] 1 (csT (upT x 0 0 []) (upT x 0 1 []) (upT x 0 2 [])) (bsT (upT x 0 0 []) (upT x 0 1 []) (upT x 0 2 []))) := by
  have ht : x.e / 2 % 3 = 0 ∨ x.e / 2 % 3 = 1 ∨ x.e / 2 % 3 = 2 := by omega
  have p0 : putT x 0 [] = [0] := by unfold putT; rw [if_neg (by simp)]; rfl
  unfold upT
  rw [p0]
  rcases ht with ht | ht | ht
  · rw [if_pos ht,if_neg (show ¬ x.e / 2 % 3 = 1 by omega),if_neg (show ¬ x.e / 2 % 3 = 2 by omega)]
    exact r39_000_0 hq hx ht
  · rw [if_pos ht,if_neg (show ¬ x.e / 2 % 3 = 0 by omega),if_neg (show ¬ x.e / 2 % 3 = 2 by omega)]
    exact r39_000_1 hq hx ht
  · rw [if_pos ht,if_neg (show ¬ x.e / 2 % 3 = 0 by omega),if_neg (show ¬ x.e / 2 % 3 = 1 by omega)]
    exact r39_000_2 hq hx ht
theorem rj39 {q : Qu} (hq : q.Ok) {x : P5} {i : Nat} (hi : i < 5) (hx : q.ls[i]? = some x) {L : List Ld} (hL : L.length = i) (T0 T1 T2 : List Int) (ne : T0 ≠ [] ∨ T1 ≠ [] ∨ T2 ≠ []) (l0 : T0.length ≤ 6) (l1 : T1.length ≤ 6) (l2 : T2.length ≤ 6) :
    headX 0 [1,2,3,10,11] (execW progX 39 0 none (match x39l2 with | .loop _ a => a | c => c) (envL [1,2,3,10,11] [.pt 0 0,.pt 1 0,.pt 2 0,.pt 5 0,I (i : Nat)]) (hN q L i (csT T0 T1 T2) (bsT T0 T1 T2))) =
      some ([.pt 0 0,.pt 1 0,.pt 2 0,.pt 5 0,I (i + 1 : Nat)],hN q (L ++ [x.ld]) (i + 1) (csT (upT x i 0 T0) (upT x i 1 T1) (upT x i 2 T2)) (bsT (upT x i 0 T0) (upT x i 1 T1) (upT x i 2 T2))) := by
  have ht : x.e / 2 % 3 = 0 ∨ x.e / 2 % 3 = 1 ∨ x.e / 2 % 3 = 2 := by omega
  have pe : putT x i [] = [(i : Int)] := by unfold putT; rw [if_neg (by simp)]; rfl
  have pp : ∀ a r,128 < x.e → putT x i (a :: r) = (i : Int) :: a :: r := fun a r h => by unfold putT; rw [if_pos ⟨h,by simp⟩]
  have pa : ∀ a r,¬ 128 < x.e → putT x i (a :: r) = a :: (r ++ [(i : Int)]) := fun a r h => by unfold putT; rw [if_neg fun hc => h hc.1]; rfl
  have ap : ∀ (a : Int) r,oG (a :: (r ++ [(i : Int)])) = [some (.blk true (.cells true (I a :: (r.map I ++ [I (i : Nat)]))))] := fun a r => by
    show [some (XB.blk true (.cells true (I a :: (r ++ [(i : Int)]).map I)))] = _
    rw [List.map_append]; rfl
  have al : ∀ p (a : Int) r,oS p (a :: (r ++ [(i : Int)])) = .sl p 0 1 (r.length + 1 + 1) := fun p a r => by
    show AV.sl p 0 1 ((r ++ [(i : Int)]).length + 1) = _
    rw [List.length_append]; rfl
  unfold upT csT bsT
  rcases T0 with _ | ⟨a0,r0⟩
  all_goals rcases T1 with _ | ⟨a1,r1⟩
  all_goals rcases T2 with _ | ⟨a2,r2⟩
  all_goals rcases ht with ht | ht | ht
  · simp at ne
  · simp at ne
  · simp at ne
  · rw [if_pos ht,if_neg (show ¬ x.e / 2 % 3 = 1 by omega),if_neg (show ¬ x.e / 2 % 3 = 2 by omega)]
    rw [pe]
    exact r39_001_0 hq hi hx ht hL a2 r2 (by simp at l2; omega)
  · rw [if_pos ht,if_neg (show ¬ x.e / 2 % 3 = 0 by omega),if_neg (show ¬ x.e / 2 % 3 = 2 by omega)]
    rw [pe]
    exact r39_001_1 hq hi hx ht hL a2 r2 (by simp at l2; omega)
  · rw [if_pos ht,if_neg (show ¬ x.e / 2 % 3 = 0 by omega),if_neg (show ¬ x.e / 2 % 3 = 1 by omega)]
    by_cases h8 : 128 < x.e
    · rw [pp _ _ h8]
      exact r39_001_2p hq hi hx ht h8 hL a2 r2 (by simp at l2; omega)
    · rw [pa _ _ h8,ap,al]
      exact r39_001_2 hq hi hx ht h8 hL a2 r2 (by simp at l2; omega)
  · rw [if_pos ht,if_neg (show ¬ x.e / 2 % 3 = 1 by omega),if_neg (show ¬ x.e / 2 % 3 = 2 by omega)]
    rw [pe]
    exact r39_010_0 hq hi hx ht hL a1 r1 (by simp at l1; omega)
  · rw [if_pos ht,if_neg (show ¬ x.e / 2 % 3 = 0 by omega),if_neg (show ¬ x.e / 2 % 3 = 2 by omega)]
    by_cases h8 : 128 < x.e
    · rw [pp _ _ h8]
      exact r39_010_1p hq hi hx ht h8 hL a1 r1 (by simp at l1; omega)
    · rw [pa _ _ h8,ap,al]
      exact r39_010_1 hq hi hx ht h8 hL a1 r1 (by simp at l1; omega)
  · rw [if_pos ht,if_neg (show ¬ x.e / 2 % 3 = 0 by omega),if_neg (show ¬ x.e / 2 % 3 = 1 by omega)]
    rw [pe]
    exact r39_010_2 hq hi hx ht hL a1 r1 (by simp at l1; omega)
  · rw [if_pos ht,if_neg (show ¬ x.e / 2 % 3 = 1 by omega),if_neg (show ¬ x.e / 2 % 3 = 2 by omega)]
    rw [pe]
    exact r39_011_0 hq hi hx ht hL a1 a2 r1 r2 (by simp at l1; omega) (by simp at l2; omega)
  · rw [if_pos ht,if_neg (show ¬ x.e / 2 % 3 = 0 by omega),if_neg (show ¬ x.e / 2 % 3 = 2 by omega)]
    by_cases h8 : 128 < x.e
    · rw [pp _ _ h8]
      exact r39_011_1p hq hi hx ht h8 hL a1 a2 r1 r2 (by simp at l1; omega) (by simp at l2; omega)
    · rw [pa _ _ h8,ap,al]
      exact r39_011_1 hq hi hx ht h8 hL a1 a2 r1 r2 (by simp at l1; omega) (by simp at l2; omega)
  · rw [if_pos ht,if_neg (show ¬ x.e / 2 % 3 = 0 by omega),if_neg (show ¬ x.e / 2 % 3 = 1 by omega)]
    by_cases h8 : 128 < x.e
    · rw [pp _ _ h8]
      exact r39_011_2p hq hi hx ht h8 hL a1 a2 r1 r2 (by simp at l1; omega) (by simp at l2; omega)
    · rw [pa _ _ h8,ap,al]
      exact r39_011_2 hq hi hx ht h8 hL a1 a2 r1 r2 (by simp at l1; omega) (by simp at l2; omega)
  · rw [if_pos ht,if_neg (show ¬ x.e / 2 % 3 = 1 by omega),if_neg (show ¬ x.e / 2 % 3 = 2 by omega)]
    by_cases h8 : 128 < x.e
    · rw [pp _ _ h8]
      exact r39_100_0p hq hi hx ht h8 hL a0 r0 (by simp at l0; omega)
    · rw [pa _ _ h8,ap,al]
      exact r39_100_0 hq hi hx ht h8 hL a0 r0 (by simp at l0; omega)
  · rw [if_pos ht,if_neg (show ¬ x.e / 2 % 3 = 0 by omega),if_neg (show ¬ x.e / 2 % 3 = 2 by omega)]
    rw [pe]
    exact r39_100_1 hq hi hx ht hL a0 r0 (by simp at l0; omega)
  · rw [if_pos ht,if_neg (show ¬ x.e / 2 % 3 = 0 by omega),if_neg (show ¬ x.e / 2 % 3 = 1 by omega)]
    rw [pe]
    exact r39_100_2 hq hi hx ht hL a0 r0 (by simp at l0; omega)
  · rw [if_pos ht,if_neg (show ¬ x.e / 2 % 3 = 1 by omega),if_neg (show ¬ x.e / 2 % 3 = 2 by omega)]
    by_cases h8 : 128 < x.e
    · rw [pp _ _ h8]
      exact r39_101_0p hq hi hx ht h8 hL a0 a2 r0 r2 (by simp at l0; omega) (by simp at l2; omega)
    · rw [pa _ _ h8,ap,al]
      exact r39_101_0 hq hi hx ht h8 hL a0 a2 r0 r2 (by simp at l0; omega) (by simp at l2; omega)
  · rw [if_pos ht,if_neg (show ¬ x.e / 2 % 3 = 0 by omega),if_neg (show ¬ x.e / 2 % 3 = 2 by omega)]
    rw [pe]
    exact r39_101_1 hq hi hx ht hL a0 a2 r0 r2 (by simp at l0; omega) (by simp at l2; omega)
  · rw [if_pos ht,if_neg (show ¬ x.e / 2 % 3 = 0 by omega),if_neg (show ¬ x.e / 2 % 3 = 1 by omega)]
    by_cases h8 : 128 < x.e
    · rw [pp _ _ h8]
      exact r39_101_2p hq hi hx ht h8 hL a0 a2 r0 r2 (by simp at l0; omega) (by simp at l2; omega)
    · rw [pa _ _ h8,ap,al]
      exact r39_101_2 hq hi hx ht h8 hL a0 a2 r0 r2 (by simp at l0; omega) (by simp at l2; omega)
  · rw [if_pos ht,if_neg (show ¬ x.e / 2 % 3 = 1 by omega),if_neg (show ¬ x.e / 2 % 3 = 2 by omega)]
    by_cases h8 : 128 < x.e
    · rw [pp _ _ h8]
      exact r39_110_0p hq hi hx ht h8 hL a0 a1 r0 r1 (by simp at l0; omega) (by simp at l1; omega)
    · rw [pa _ _ h8,ap,al]
      exact r39_110_0 hq hi hx ht h8 hL a0 a1 r0 r1 (by simp at l0; omega) (by simp at l1; omega)
  · rw [if_pos ht,if_neg (show ¬ x.e / 2 % 3 = 0 by omega),if_neg (show ¬ x.e / 2 % 3 = 2 by omega)]
    by_cases h8 : 128 < x.e
    · rw [pp _ _ h8]
      exact r39_110_1p hq hi hx ht h8 hL a0 a1 r0 r1 (by simp at l0; omega) (by simp at l1; omega)
    · rw [pa _ _ h8,ap,al]
      exact r39_110_1 hq hi hx ht h8 hL a0 a1 r0 r1 (by simp at l0; omega) (by simp at l1; omega)
  · rw [if_pos ht,if_neg (show ¬ x.e / 2 % 3 = 0 by omega),if_neg (show ¬ x.e / 2 % 3 = 1 by omega)]
    rw [pe]
    exact r39_110_2 hq hi hx ht hL a0 a1 r0 r1 (by simp at l0; omega) (by simp at l1; omega)
  · rw [if_pos ht,if_neg (show ¬ x.e / 2 % 3 = 1 by omega),if_neg (show ¬ x.e / 2 % 3 = 2 by omega)]
    by_cases h8 : 128 < x.e
    · rw [pp _ _ h8]
      exact r39_111_0p hq hi hx ht h8 hL a0 a1 a2 r0 r1 r2 (by simp at l0; omega) (by simp at l1; omega) (by simp at l2; omega)
    · rw [pa _ _ h8,ap,al]
      exact r39_111_0 hq hi hx ht h8 hL a0 a1 a2 r0 r1 r2 (by simp at l0; omega) (by simp at l1; omega) (by simp at l2; omega)
  · rw [if_pos ht,if_neg (show ¬ x.e / 2 % 3 = 0 by omega),if_neg (show ¬ x.e / 2 % 3 = 2 by omega)]
    by_cases h8 : 128 < x.e
    · rw [pp _ _ h8]
      exact r39_111_1p hq hi hx ht h8 hL a0 a1 a2 r0 r1 r2 (by simp at l0; omega) (by simp at l1; omega) (by simp at l2; omega)
    · rw [pa _ _ h8,ap,al]
      exact r39_111_1 hq hi hx ht h8 hL a0 a1 a2 r0 r1 r2 (by simp at l0; omega) (by simp at l1; omega) (by simp at l2; omega)
  · rw [if_pos ht,if_neg (show ¬ x.e / 2 % 3 = 0 by omega),if_neg (show ¬ x.e / 2 % 3 = 1 by omega)]
    by_cases h8 : 128 < x.e
    · rw [pp _ _ h8]
      exact r39_111_2p hq hi hx ht h8 hL a0 a1 a2 r0 r1 r2 (by simp at l0; omega) (by simp at l1; omega) (by simp at l2; omega)
    · rw [pa _ _ h8,ap,al]
      exact r39_111_2 hq hi hx ht h8 hL a0 a1 a2 r0 r1 r2 (by simp at l0; omega) (by simp at l1; omega) (by simp at l2; omega)
end Go.Proofs.YtpbeclkpohehgaaDoor
namespace Go.Proofs.YtpbeclkpohehgaaDoor
open Go Go.DL
set_option maxRecDepth 100000
set_option maxHeartbeats 8000000
def trN (q : Qu) : Nat → Nat → List Int
  | 0,_ => []
  | i + 1,t => upT (q.ls.getD i ⟨0,0,0,0,0⟩) i t (trN q i t)
def lsN (q : Qu) (i : Nat) : List Ld := (q.ls.take i).map P5.ld
def fewL (q : Qu) : Nat := min q.ls.length 5
def nzT (T0 T1 T2 : List Int) : List (List Int) := [T0,T1,T2].filter fun T => !T.isEmpty
def mdL (q : Qu) : Li := ⟨[mdK q.k0,mdK q.k1],lsN q (fewL q),nzT (trN q (fewL q) 0) (trN q (fewL q) 1) (trN q (fewL q) 2),(q.s0 : Nat),((q.s0 + q.s1 : Nat) : Int)⟩
theorem put_len (x : P5) (i : Nat) (T : List Int) : (putT x i T).length = T.length + 1 := by
  unfold putT
  split
  · rfl
  · rw [List.length_append]; rfl
theorem tr_len (q : Qu) : ∀ i t,(trN q i t).length ≤ i
  | 0,t => Nat.le_refl _
  | i + 1,t => by
    have ih := tr_len q i t
    rw [trN]
    unfold upT
    split
    · rw [put_len]; omega
    · omega
theorem tr_ne (q : Qu) : ∀ i,trN q (i + 1) 0 ≠ [] ∨ trN q (i + 1) 1 ≠ [] ∨ trN q (i + 1) 2 ≠ [] := by
  intro i
  have pn : ∀ T,putT (q.ls.getD i ⟨0,0,0,0,0⟩) i T ≠ [] := fun T h => by
    have := put_len (q.ls.getD i ⟨0,0,0,0,0⟩) i T
    rw [h] at this; simp at this
  have ht : (q.ls.getD i ⟨0,0,0,0,0⟩).e / 2 % 3 = 0 ∨ (q.ls.getD i ⟨0,0,0,0,0⟩).e / 2 % 3 = 1 ∨ (q.ls.getD i ⟨0,0,0,0,0⟩).e / 2 % 3 = 2 := by omega
  rw [trN,trN,trN]
  unfold upT
  rcases ht with h | h | h
  · exact .inl (by rw [if_pos h]; exact pn _)
  · exact .inr (.inl (by rw [if_pos h]; exact pn _))
  · exact .inr (.inr (by rw [if_pos h]; exact pn _))
theorem ls_up {q : Qu} {i : Nat} {x : P5} (hx : q.ls[i]? = some x) : lsN q (i + 1) = lsN q i ++ [x.ld] := by
  unfold lsN
  rw [List.take_add_one,hx,List.map_append]
  rfl
def gM2 (q : Qu) : Nat → XH
  | 0 => hN0 q
  | i + 1 => hN q (lsN q (i + 1)) (i + 1) (csT (trN q (i + 1) 0) (trN q (i + 1) 1) (trN q (i + 1) 2)) (bsT (trN q (i + 1) 0) (trN q (i + 1) 1) (trN q (i + 1) 2))
def sM2 : Nat → List AV
  | 0 => [.pt 0 0,.pt 1 0,.pt 2 0,.pt 4 0,I 0]
  | i + 1 => [.pt 0 0,.pt 1 0,.pt 2 0,.pt 5 0,I (i + 1 : Nat)]
theorem gM2_up {q : Qu} (hq : q.Ok) {i : Nat} (hi : i < fewL q) : headX 0 [1,2,3,10,11] (execW progX 39 0 none (match x39l2 with | .loop _ a => a | c => c) (envL [1,2,3,10,11] (sM2 i)) (gM2 q i)) = some (sM2 (i + 1),gM2 q (i + 1)) := by
  have hi2 : i < q.ls.length ∧ i < 5 := by unfold fewL at hi; omega
  obtain ⟨x,hx⟩ := at_ix hi2.1
  have e : ∀ t,trN q (i + 1) t = upT x i t (trN q i t) := fun t => by rw [trN,getD_of hx]
  cases i with
  | zero =>
    have h := rj39_0 hq hx
    have e0 : ∀ t,trN q 1 t = upT x 0 t [] := fun t => e t
    have e1 : lsN q 1 = [x.ld] := ls_up hx
    rw [← e0 0,← e0 1,← e0 2,← e1] at h
    exact h
  | succ j =>
    have l := fun t => tr_len q (j + 1) t
    have h := rj39 hq hi2.2 hx (L := lsN q (j + 1)) (by unfold lsN; rw [List.length_map,List.length_take]; omega) (trN q (j + 1) 0) (trN q (j + 1) 1) (trN q (j + 1) 2) (tr_ne q j) (by have := l 0; omega) (by have := l 1; omega) (by have := l 2; omega)
    rw [← e 0,← e 1,← e 2,← ls_up hx] at h
    exact h
theorem few_outL (q : Qu) : (((fewL q : Nat) : Int) < (q.ls.length : Int)) = False ∨ ((((fewL q : Nat) : Int) < (q.ls.length : Int)) = True ∧ (((fewL q : Nat) : Int) < 5) = False) := by
  unfold fewL
  by_cases h : q.ls.length ≤ 5
  · exact .inl (eq_false (by omega))
  · exact .inr ⟨eq_true (by omega),eq_false (by omega)⟩
def gM1 (q : Qu) : Nat → XH
  | 0 => hM0 q
  | 1 => hM1 q
  | _ => hM2 q
theorem w39 {q : Qu} (hq : q.Ok) : runW progX 39 [.agg q.c] [] = some (.agg (mdL q).c,[]) := by
  have wa := wr8 hq.s.1
  have wb := wr8 hq.s.2
  have wc : IntKind.i64.wrap ((q.s0 : Int) + (q.s1 : Int)) = ((q.s0 + q.s1 : Nat) : Int) := by
    have := hq.s
    rw [wrap_ok (by omega) (by omega)]; omega
  have e44 := w44
  have r1 := round39 hq
  have rd1 : ∀ i : Nat,i < 2 → headX 0 [1,2,3,34,35] (execW progX 39 0 none (match x39l1 with | .loop _ a => a | c => c) (envL [1,2,3,34,35] [.pt 0 0,.pt 1 0,.pt 2 0,.agg [rP q.k0,rP q.k1],I (i : Nat)]) (gM1 q i)) = some ([.pt 0 0,.pt 1 0,.pt 2 0,.agg [rP q.k0,rP q.k1],I (i + 1 : Nat)],gM1 q (i + 1)) := by
    intro i hi
    match i,hi with
    | 0,_ => exact r1.1
    | 1,_ => exact r1.2
  have g10 : gM1 q 0 = hM0 q := rfl
  have g12 : gM1 q 2 = hM2 q := rfl
  have rd2 := fun i hi => gM2_up hq (i := i) hi
  have fo := few_outL q
  have s0 : sM2 0 = [.pt 0 0,.pt 1 0,.pt 2 0,.pt 4 0,I 0] := rfl
  have g20 : gM2 q 0 = hN0 q := rfl
  have hm : fewL q ≤ 5 := by unfold fewL; omega
  have chL := cL_ch (lsN q (fewL q))
  have clL := cL_len (lsN q (fewL q))
  have lsl : (lsN q (fewL q)).length = fewL q := by unfold lsN fewL; rw [List.length_map,List.length_take]; omega
  rw [lsl] at chL clL
  unfold mdL
  by_cases hz : fewL q = 0
  · have fo : ((0 : Int) < (q.ls.length : Int)) = False := eq_false (by unfold fewL at hz; omega)
    have lz : lsN q (fewL q) = [] := List.eq_nil_of_length_eq_zero (lsl.trans hz)
    rw [lz,hz]
    have tz : ∀ t,trN q 0 t = [] := fun _ => rfl
    rw [tz,tz,tz]
    have nz : nzT [] [] [] = [] := rfl
    rw [nz]
    rw [r39 (by simp)]; unfold x39; dsimp only
    sym =>
      simp [Za,Zb,Zc,Zd,Ze,Zf,Zg,Zh,Zj,Zl,Zm,Zn,Zo,Zp,Zr,Zt,Zu,Zw,Zx,Zy,Zz,Z1,Z3,Z4,Z5,Z7,ZB,ZD,ZH,ZI,ZL,ZM,ZP,ZQ,ZR,ZS,ZT,ZV,ZW,ZY,ZZ,Ya,Yg,Yo,Yq,Yt,Yu,Yv,Yy,Yz,Y0,Y2,Y3,Y5,YA,YK,YL,YN,YP,YR,YT,YU,YX,Xb,Xc,Xd,Xe,Xh,Xl,Xn,Xp,Xq,Xr,Xt,Xx,Xz,XJ,XL,XO,XP,XU,XV,XW,XX,XZ,Wb,Wd,Wf,Wk,Wl,Wm,Wv,Ww,Wx,Wy,Wz,W0,W3,W4,W5,W6,W7,W8,WA,WB,WE,WF,WG,WH,WI,WJ,WK,WL,WM,WN,WO,WP,WS,WT,WU,WY,WZ,Vb,Vc,Vd,Vl,Vm,Vn,Vo,Vp,Vq,Vr,Vs,Vx,Vy,Vz,V0,V2,V3,V5,V6,V7,V8,V9,VC,VD,VE,VG,VH,VI,VJ,VK,VL,VM,VN,VO,VQ,VR,VS,VT,VU,VV,VX,VY,VZ,Ua,Uc,Uf,Uh,Un,Uo,Uq,Us,Ut,Uu,Uv,Uw,Ux,Uy,Uz,U0,U1,U2,U3,U4,U5,U6,U7,U8,U9,UA,UB,UC,UD,UG,UH,UI,UJ,UK,UL,UO,UP,UQ,UR,US,UT,UV,UW,UZ,Ta,Tb,Tc,Tf,Tg,Th,Ti,Tk,Tl,Tm,Tn,Tp,Tq,Tr,Ts,Tt,Tv,Tx,Ty,Tz,T3,T6,T7,T8,T9,TB,TE,TF,TG,TH,TK,TL,TM,TN,TO,Sm,Sq,Ss,S3,S4,S6,wa,wb,wc,e44]
      tactic =>
        unfold x39l1
        rw [loop_rule 2 (fun i => [.pt 0 0,.pt 1 0,.pt 2 0,.agg [rP q.k0,rP q.k1],I (i : Nat)]) (gM1 q)]
        · rw [g12]
          unfold x39l2 x39l3
          (sym => (simp [Za,Zb,Zc,Zd,Ze,Zf,Zg,Zh,Zj,Zl,Zm,Zn,Zo,Zp,Zr,Zt,Zu,Zw,Zx,Zy,Zz,Z1,Z3,Z4,Z5,Z7,ZB,ZD,ZH,ZI,ZL,ZM,ZP,ZQ,ZR,ZS,ZT,ZV,ZW,ZY,ZZ,Ya,Yg,Yo,Yq,Yt,Yu,Yv,Yy,Yz,Y0,Y2,Y3,Y5,YA,YK,YL,YN,YP,YR,YT,YU,YX,Xb,Xc,Xd,Xe,Xh,Xl,Xn,Xp,Xq,Xr,Xt,Xx,Xz,XJ,XL,XO,XP,XU,XV,XW,XX,XZ,Wb,Wd,Wf,Wk,Wl,Wm,Wv,Ww,Wx,Wy,Wz,W0,W3,W4,W5,W6,W7,W8,WA,WB,WE,WF,WG,WH,WI,WJ,WK,WL,WM,WN,WO,WP,WS,WT,WU,WY,WZ,Vb,Vc,Vd,Vl,Vm,Vn,Vo,Vp,Vq,Vr,Vs,Vx,Vy,Vz,V0,V2,V3,V5,V6,V7,V8,V9,VC,VD,VE,VG,VH,VI,VJ,VK,VL,VM,VN,VO,VQ,VR,VS,VT,VU,VV,VX,VY,VZ,Ua,Uc,Uf,Uh,Un,Uo,Uq,Us,Ut,Uu,Uv,Uw,Ux,Uy,Uz,U0,U1,U2,U3,U4,U5,U6,U7,U8,U9,UA,UB,UC,UD,UG,UH,UI,UJ,UK,UL,UO,UP,UQ,UR,US,UT,UV,UW,UZ,Ta,Tb,Tc,Tf,Tg,Th,Ti,Tk,Tl,Tm,Tn,Tp,Tq,Tr,Ts,Tt,Tv,Tx,Ty,Tz,T3,T6,T7,T8,T9,TB,TE,TF,TG,TH,TK,TL,TM,TN,TO,Sm,Sq,Ss,S3,S4,S6,loopU,fo]; all_goals tactic => exact rfl))
        · rw [g10]
          (sym => (simp [Za,Zb,Zc,Zd,Ze,Zf,Zg,Zh,Zj,Zl,Zm,Zn,Zo,Zp,Zr,Zt,Zu,Zw,Zx,Zy,Zz,Z1,Z3,Z4,Z5,Z7,ZB,ZD,ZH,ZI,ZL,ZM,ZP,ZQ,ZR,ZS,ZT,ZV,ZW,ZY,ZZ,Ya,Yg,Yo,Yq,Yt,Yu,Yv,Yy,Yz,Y0,Y2,Y3,Y5,YA,YK,YL,YN,YP,YR,YT,YU,YX,Xb,Xc,Xd,Xe,Xh,Xl,Xn,Xp,Xq,Xr,Xt,Xx,Xz,XJ,XL,XO,XP,XU,XV,XW,XX,XZ,Wb,Wd,Wf,Wk,Wl,Wm,Wv,Ww,Wx,Wy,Wz,W0,W3,W4,W5,W6,W7,W8,WA,WB,WE,WF,WG,WH,WI,WJ,WK,WL,WM,WN,WO,WP,WS,WT,WU,WY,WZ,Vb,Vc,Vd,Vl,Vm,Vn,Vo,Vp,Vq,Vr,Vs,Vx,Vy,Vz,V0,V2,V3,V5,V6,V7,V8,V9,VC,VD,VE,VG,VH,VI,VJ,VK,VL,VM,VN,VO,VQ,VR,VS,VT,VU,VV,VX,VY,VZ,Ua,Uc,Uf,Uh,Un,Uo,Uq,Us,Ut,Uu,Uv,Uw,Ux,Uy,Uz,U0,U1,U2,U3,U4,U5,U6,U7,U8,U9,UA,UB,UC,UD,UG,UH,UI,UJ,UK,UL,UO,UP,UQ,UR,US,UT,UV,UW,UZ,Ta,Tb,Tc,Tf,Tg,Th,Ti,Tk,Tl,Tm,Tn,Tp,Tq,Tr,Ts,Tt,Tv,Tx,Ty,Tz,T3,T6,T7,T8,T9,TB,TE,TF,TG,TH,TK,TL,TM,TN,TO,Sm,Sq,Ss,S3,S4,S6]; all_goals tactic => exact rfl))
        · exact rd1
        · rw [g12]
          (sym => (simp [Za,Zb,Zc,Zd,Ze,Zf,Zg,Zh,Zj,Zl,Zm,Zn,Zo,Zp,Zr,Zt,Zu,Zw,Zx,Zy,Zz,Z1,Z3,Z4,Z5,Z7,ZB,ZD,ZH,ZI,ZL,ZM,ZP,ZQ,ZR,ZS,ZT,ZV,ZW,ZY,ZZ,Ya,Yg,Yo,Yq,Yt,Yu,Yv,Yy,Yz,Y0,Y2,Y3,Y5,YA,YK,YL,YN,YP,YR,YT,YU,YX,Xb,Xc,Xd,Xe,Xh,Xl,Xn,Xp,Xq,Xr,Xt,Xx,Xz,XJ,XL,XO,XP,XU,XV,XW,XX,XZ,Wb,Wd,Wf,Wk,Wl,Wm,Wv,Ww,Wx,Wy,Wz,W0,W3,W4,W5,W6,W7,W8,WA,WB,WE,WF,WG,WH,WI,WJ,WK,WL,WM,WN,WO,WP,WS,WT,WU,WY,WZ,Vb,Vc,Vd,Vl,Vm,Vn,Vo,Vp,Vq,Vr,Vs,Vx,Vy,Vz,V0,V2,V3,V5,V6,V7,V8,V9,VC,VD,VE,VG,VH,VI,VJ,VK,VL,VM,VN,VO,VQ,VR,VS,VT,VU,VV,VX,VY,VZ,Ua,Uc,Uf,Uh,Un,Uo,Uq,Us,Ut,Uu,Uv,Uw,Ux,Uy,Uz,U0,U1,U2,U3,U4,U5,U6,U7,U8,U9,UA,UB,UC,UD,UG,UH,UI,UJ,UK,UL,UO,UP,UQ,UR,US,UT,UV,UW,UZ,Ta,Tb,Tc,Tf,Tg,Th,Ti,Tk,Tl,Tm,Tn,Tp,Tq,Tr,Ts,Tt,Tv,Tx,Ty,Tz,T3,T6,T7,T8,T9,TB,TE,TF,TG,TH,TK,TL,TM,TN,TO,Sm,Sq,Ss,S3,S4,S6]; all_goals tactic => exact rfl))
  · obtain ⟨m,hmm⟩ : ∃ m,fewL q = m + 1 := ⟨fewL q - 1,by omega⟩
    have gL : gM2 q (fewL q) = hN q (lsN q (fewL q)) (fewL q) (csT (trN q (fewL q) 0) (trN q (fewL q) 1) (trN q (fewL q) 2)) (bsT (trN q (fewL q) 0) (trN q (fewL q) 1) (trN q (fewL q) 2)) := by rw [hmm]; rfl
    have sL : sM2 (fewL q) = [.pt 0 0,.pt 1 0,.pt 2 0,.pt 5 0,I (fewL q : Nat)] := by rw [hmm]; rfl
    have ne : trN q (fewL q) 0 ≠ [] ∨ trN q (fewL q) 1 ≠ [] ∨ trN q (fewL q) 2 ≠ [] := by rw [hmm]; exact tr_ne q m
    have ce : (fewL q * 5 ≤ fewL q * 5) = True := eq_true (Nat.le_refl _)
    have gp : ∀ r : List Int,((0 : Int) < ((r.length + 1 : Nat) : Int)) = True := fun r => eq_true (by omega)
    rw [r39 (by simp)]; unfold x39; dsimp only
    sym =>
      simp [Za,Zb,Zc,Zd,Ze,Zf,Zg,Zh,Zj,Zl,Zm,Zn,Zo,Zp,Zr,Zt,Zu,Zw,Zx,Zy,Zz,Z1,Z3,Z4,Z5,Z7,ZB,ZD,ZH,ZI,ZL,ZM,ZP,ZQ,ZR,ZS,ZT,ZV,ZW,ZY,ZZ,Ya,Yg,Yo,Yq,Yt,Yu,Yv,Yy,Yz,Y0,Y2,Y3,Y5,YA,YK,YL,YN,YP,YR,YT,YU,YX,Xb,Xc,Xd,Xe,Xh,Xl,Xn,Xp,Xq,Xr,Xt,Xx,Xz,XJ,XL,XO,XP,XU,XV,XW,XX,XZ,Wb,Wd,Wf,Wk,Wl,Wm,Wv,Ww,Wx,Wy,Wz,W0,W3,W4,W5,W6,W7,W8,WA,WB,WE,WF,WG,WH,WI,WJ,WK,WL,WM,WN,WO,WP,WS,WT,WU,WY,WZ,Vb,Vc,Vd,Vl,Vm,Vn,Vo,Vp,Vq,Vr,Vs,Vx,Vy,Vz,V0,V2,V3,V5,V6,V7,V8,V9,VC,VD,VE,VG,VH,VI,VJ,VK,VL,VM,VN,VO,VQ,VR,VS,VT,VU,VV,VX,VY,VZ,Ua,Uc,Uf,Uh,Un,Uo,Uq,Us,Ut,Uu,Uv,Uw,Ux,Uy,Uz,U0,U1,U2,U3,U4,U5,U6,U7,U8,U9,UA,UB,UC,UD,UG,UH,UI,UJ,UK,UL,UO,UP,UQ,UR,US,UT,UV,UW,UZ,Ta,Tb,Tc,Tf,Tg,Th,Ti,Tk,Tl,Tm,Tn,Tp,Tq,Tr,Ts,Tt,Tv,Tx,Ty,Tz,T3,T6,T7,T8,T9,TB,TE,TF,TG,TH,TK,TL,TM,TN,TO,Sm,Sq,Ss,S3,S4,S6,wa,wb,wc,e44]
      tactic =>
        unfold x39l1
        rw [loop_rule 2 (fun i => [.pt 0 0,.pt 1 0,.pt 2 0,.agg [rP q.k0,rP q.k1],I (i : Nat)]) (gM1 q)]
        · rw [g12]
          sym =>
            simp [Za,Zb,Zc,Zd,Ze,Zf,Zg,Zh,Zj,Zl,Zm,Zn,Zo,Zp,Zr,Zt,Zu,Zw,Zx,Zy,Zz,Z1,Z3,Z4,Z5,Z7,ZB,ZD,ZH,ZI,ZL,ZM,ZP,ZQ,ZR,ZS,ZT,ZV,ZW,ZY,ZZ,Ya,Yg,Yo,Yq,Yt,Yu,Yv,Yy,Yz,Y0,Y2,Y3,Y5,YA,YK,YL,YN,YP,YR,YT,YU,YX,Xb,Xc,Xd,Xe,Xh,Xl,Xn,Xp,Xq,Xr,Xt,Xx,Xz,XJ,XL,XO,XP,XU,XV,XW,XX,XZ,Wb,Wd,Wf,Wk,Wl,Wm,Wv,Ww,Wx,Wy,Wz,W0,W3,W4,W5,W6,W7,W8,WA,WB,WE,WF,WG,WH,WI,WJ,WK,WL,WM,WN,WO,WP,WS,WT,WU,WY,WZ,Vb,Vc,Vd,Vl,Vm,Vn,Vo,Vp,Vq,Vr,Vs,Vx,Vy,Vz,V0,V2,V3,V5,V6,V7,V8,V9,VC,VD,VE,VG,VH,VI,VJ,VK,VL,VM,VN,VO,VQ,VR,VS,VT,VU,VV,VX,VY,VZ,Ua,Uc,Uf,Uh,Un,Uo,Uq,Us,Ut,Uu,Uv,Uw,Ux,Uy,Uz,U0,U1,U2,U3,U4,U5,U6,U7,U8,U9,UA,UB,UC,UD,UG,UH,UI,UJ,UK,UL,UO,UP,UQ,UR,US,UT,UV,UW,UZ,Ta,Tb,Tc,Tf,Tg,Th,Ti,Tk,Tl,Tm,Tn,Tp,Tq,Tr,Ts,Tt,Tv,Tx,Ty,Tz,T3,T6,T7,T8,T9,TB,TE,TF,TG,TH,TK,TL,TM,TN,TO,Sm,Sq,Ss,S3,S4,S6]
            tactic =>
              unfold x39l2
              rw [loop_rule (fewL q) sM2 (gM2 q)]
              · rw [gL,sL]
                generalize trN q (fewL q) 0 = T0 at *
                generalize trN q (fewL q) 1 = T1 at *
                generalize trN q (fewL q) 2 = T2 at *
                generalize lsN q (fewL q) = L at *
                generalize fewL q = fl at *
                unfold x39l3
                unfold nzT
                rcases T0 with _ | ⟨a0,r0⟩
                all_goals rcases T1 with _ | ⟨a1,r1⟩
                all_goals rcases T2 with _ | ⟨a2,r2⟩
                · simp at ne
                all_goals try simp only [neL]
                all_goals simp only [List.filter,List.isEmpty,Bool.not_true,Bool.not_false]
                all_goals rcases fo with fo | ⟨fo,fo2⟩
                all_goals first | (sym => (simp [Za,Zb,Zc,Zd,Ze,Zf,Zg,Zh,Zj,Zl,Zm,Zn,Zo,Zp,Zr,Zt,Zu,Zw,Zx,Zy,Zz,Z1,Z3,Z4,Z5,Z7,ZB,ZD,ZH,ZI,ZL,ZM,ZP,ZQ,ZR,ZS,ZT,ZV,ZW,ZY,ZZ,Ya,Yg,Yo,Yq,Yt,Yu,Yv,Yy,Yz,Y0,Y2,Y3,Y5,YA,YK,YL,YN,YP,YR,YT,YU,YX,Xb,Xc,Xd,Xe,Xh,Xl,Xn,Xp,Xq,Xr,Xt,Xx,Xz,XJ,XL,XO,XP,XU,XV,XW,XX,XZ,Wb,Wd,Wf,Wk,Wl,Wm,Wv,Ww,Wx,Wy,Wz,W0,W3,W4,W5,W6,W7,W8,WA,WB,WE,WF,WG,WH,WI,WJ,WK,WL,WM,WN,WO,WP,WS,WT,WU,WY,WZ,Vb,Vc,Vd,Vl,Vm,Vn,Vo,Vp,Vq,Vr,Vs,Vx,Vy,Vz,V0,V2,V3,V5,V6,V7,V8,V9,VC,VD,VE,VG,VH,VI,VJ,VK,VL,VM,VN,VO,VQ,VR,VS,VT,VU,VV,VX,VY,VZ,Ua,Uc,Uf,Uh,Un,Uo,Uq,Us,Ut,Uu,Uv,Uw,Ux,Uy,Uz,U0,U1,U2,U3,U4,U5,U6,U7,U8,U9,UA,UB,UC,UD,UG,UH,UI,UJ,UK,UL,UO,UP,UQ,UR,US,UT,UV,UW,UZ,Ta,Tb,Tc,Tf,Tg,Th,Ti,Tk,Tl,Tm,Tn,Tp,Tq,Tr,Ts,Tt,Tv,Tx,Ty,Tz,T3,T6,T7,T8,T9,TB,TE,TF,TG,TH,TK,TL,TM,TN,TO,Sm,Sq,Ss,S3,S4,S6,loopU,fo,fo2,chL,clL,ce,gp]; all_goals tactic => exact rfl)) | (sym => (simp [Za,Zb,Zc,Zd,Ze,Zf,Zg,Zh,Zj,Zl,Zm,Zn,Zo,Zp,Zr,Zt,Zu,Zw,Zx,Zy,Zz,Z1,Z3,Z4,Z5,Z7,ZB,ZD,ZH,ZI,ZL,ZM,ZP,ZQ,ZR,ZS,ZT,ZV,ZW,ZY,ZZ,Ya,Yg,Yo,Yq,Yt,Yu,Yv,Yy,Yz,Y0,Y2,Y3,Y5,YA,YK,YL,YN,YP,YR,YT,YU,YX,Xb,Xc,Xd,Xe,Xh,Xl,Xn,Xp,Xq,Xr,Xt,Xx,Xz,XJ,XL,XO,XP,XU,XV,XW,XX,XZ,Wb,Wd,Wf,Wk,Wl,Wm,Wv,Ww,Wx,Wy,Wz,W0,W3,W4,W5,W6,W7,W8,WA,WB,WE,WF,WG,WH,WI,WJ,WK,WL,WM,WN,WO,WP,WS,WT,WU,WY,WZ,Vb,Vc,Vd,Vl,Vm,Vn,Vo,Vp,Vq,Vr,Vs,Vx,Vy,Vz,V0,V2,V3,V5,V6,V7,V8,V9,VC,VD,VE,VG,VH,VI,VJ,VK,VL,VM,VN,VO,VQ,VR,VS,VT,VU,VV,VX,VY,VZ,Ua,Uc,Uf,Uh,Un,Uo,Uq,Us,Ut,Uu,Uv,Uw,Ux,Uy,Uz,U0,U1,U2,U3,U4,U5,U6,U7,U8,U9,UA,UB,UC,UD,UG,UH,UI,UJ,UK,UL,UO,UP,UQ,UR,US,UT,UV,UW,UZ,Ta,Tb,Tc,Tf,Tg,Th,Ti,Tk,Tl,Tm,Tn,Tp,Tq,Tr,Ts,Tt,Tv,Tx,Ty,Tz,T3,T6,T7,T8,T9,TB,TE,TF,TG,TH,TK,TL,TM,TN,TO,Sm,Sq,Ss,S3,S4,S6,loopU,fo,chL,clL,ce,gp]; all_goals tactic => exact rfl))
              · rw [s0,g20]
                (sym => (simp [Za,Zb,Zc,Zd,Ze,Zf,Zg,Zh,Zj,Zl,Zm,Zn,Zo,Zp,Zr,Zt,Zu,Zw,Zx,Zy,Zz,Z1,Z3,Z4,Z5,Z7,ZB,ZD,ZH,ZI,ZL,ZM,ZP,ZQ,ZR,ZS,ZT,ZV,ZW,ZY,ZZ,Ya,Yg,Yo,Yq,Yt,Yu,Yv,Yy,Yz,Y0,Y2,Y3,Y5,YA,YK,YL,YN,YP,YR,YT,YU,YX,Xb,Xc,Xd,Xe,Xh,Xl,Xn,Xp,Xq,Xr,Xt,Xx,Xz,XJ,XL,XO,XP,XU,XV,XW,XX,XZ,Wb,Wd,Wf,Wk,Wl,Wm,Wv,Ww,Wx,Wy,Wz,W0,W3,W4,W5,W6,W7,W8,WA,WB,WE,WF,WG,WH,WI,WJ,WK,WL,WM,WN,WO,WP,WS,WT,WU,WY,WZ,Vb,Vc,Vd,Vl,Vm,Vn,Vo,Vp,Vq,Vr,Vs,Vx,Vy,Vz,V0,V2,V3,V5,V6,V7,V8,V9,VC,VD,VE,VG,VH,VI,VJ,VK,VL,VM,VN,VO,VQ,VR,VS,VT,VU,VV,VX,VY,VZ,Ua,Uc,Uf,Uh,Un,Uo,Uq,Us,Ut,Uu,Uv,Uw,Ux,Uy,Uz,U0,U1,U2,U3,U4,U5,U6,U7,U8,U9,UA,UB,UC,UD,UG,UH,UI,UJ,UK,UL,UO,UP,UQ,UR,US,UT,UV,UW,UZ,Ta,Tb,Tc,Tf,Tg,Th,Ti,Tk,Tl,Tm,Tn,Tp,Tq,Tr,Ts,Tt,Tv,Tx,Ty,Tz,T3,T6,T7,T8,T9,TB,TE,TF,TG,TH,TK,TL,TM,TN,TO,Sm,Sq,Ss,S3,S4,S6]; all_goals tactic => exact rfl))
              · exact rd2
              · rw [gL,sL]
                generalize fewL q = fl at *
                rcases fo with fo | ⟨fo,fo2⟩
                · (sym => (simp [Za,Zb,Zc,Zd,Ze,Zf,Zg,Zh,Zj,Zl,Zm,Zn,Zo,Zp,Zr,Zt,Zu,Zw,Zx,Zy,Zz,Z1,Z3,Z4,Z5,Z7,ZB,ZD,ZH,ZI,ZL,ZM,ZP,ZQ,ZR,ZS,ZT,ZV,ZW,ZY,ZZ,Ya,Yg,Yo,Yq,Yt,Yu,Yv,Yy,Yz,Y0,Y2,Y3,Y5,YA,YK,YL,YN,YP,YR,YT,YU,YX,Xb,Xc,Xd,Xe,Xh,Xl,Xn,Xp,Xq,Xr,Xt,Xx,Xz,XJ,XL,XO,XP,XU,XV,XW,XX,XZ,Wb,Wd,Wf,Wk,Wl,Wm,Wv,Ww,Wx,Wy,Wz,W0,W3,W4,W5,W6,W7,W8,WA,WB,WE,WF,WG,WH,WI,WJ,WK,WL,WM,WN,WO,WP,WS,WT,WU,WY,WZ,Vb,Vc,Vd,Vl,Vm,Vn,Vo,Vp,Vq,Vr,Vs,Vx,Vy,Vz,V0,V2,V3,V5,V6,V7,V8,V9,VC,VD,VE,VG,VH,VI,VJ,VK,VL,VM,VN,VO,VQ,VR,VS,VT,VU,VV,VX,VY,VZ,Ua,Uc,Uf,Uh,Un,Uo,Uq,Us,Ut,Uu,Uv,Uw,Ux,Uy,Uz,U0,U1,U2,U3,U4,U5,U6,U7,U8,U9,UA,UB,UC,UD,UG,UH,UI,UJ,UK,UL,UO,UP,UQ,UR,US,UT,UV,UW,UZ,Ta,Tb,Tc,Tf,Tg,Th,Ti,Tk,Tl,Tm,Tn,Tp,Tq,Tr,Ts,Tt,Tv,Tx,Ty,Tz,T3,T6,T7,T8,T9,TB,TE,TF,TG,TH,TK,TL,TM,TN,TO,Sm,Sq,Ss,S3,S4,S6,fo]; all_goals tactic => exact rfl))
                · (sym => (simp [Za,Zb,Zc,Zd,Ze,Zf,Zg,Zh,Zj,Zl,Zm,Zn,Zo,Zp,Zr,Zt,Zu,Zw,Zx,Zy,Zz,Z1,Z3,Z4,Z5,Z7,ZB,ZD,ZH,ZI,ZL,ZM,ZP,ZQ,ZR,ZS,ZT,ZV,ZW,ZY,ZZ,Ya,Yg,Yo,Yq,Yt,Yu,Yv,Yy,Yz,Y0,Y2,Y3,Y5,YA,YK,YL,YN,YP,YR,YT,YU,YX,Xb,Xc,Xd,Xe,Xh,Xl,Xn,Xp,Xq,Xr,Xt,Xx,Xz,XJ,XL,XO,XP,XU,XV,XW,XX,XZ,Wb,Wd,Wf,Wk,Wl,Wm,Wv,Ww,Wx,Wy,Wz,W0,W3,W4,W5,W6,W7,W8,WA,WB,WE,WF,WG,WH,WI,WJ,WK,WL,WM,WN,WO,WP,WS,WT,WU,WY,WZ,Vb,Vc,Vd,Vl,Vm,Vn,Vo,Vp,Vq,Vr,Vs,Vx,Vy,Vz,V0,V2,V3,V5,V6,V7,V8,V9,VC,VD,VE,VG,VH,VI,VJ,VK,VL,VM,VN,VO,VQ,VR,VS,VT,VU,VV,VX,VY,VZ,Ua,Uc,Uf,Uh,Un,Uo,Uq,Us,Ut,Uu,Uv,Uw,Ux,Uy,Uz,U0,U1,U2,U3,U4,U5,U6,U7,U8,U9,UA,UB,UC,UD,UG,UH,UI,UJ,UK,UL,UO,UP,UQ,UR,US,UT,UV,UW,UZ,Ta,Tb,Tc,Tf,Tg,Th,Ti,Tk,Tl,Tm,Tn,Tp,Tq,Tr,Ts,Tt,Tv,Tx,Ty,Tz,T3,T6,T7,T8,T9,TB,TE,TF,TG,TH,TK,TL,TM,TN,TO,Sm,Sq,Ss,S3,S4,S6,fo,fo2]; all_goals tactic => exact rfl))
        · rw [g10]
          (sym => (simp [Za,Zb,Zc,Zd,Ze,Zf,Zg,Zh,Zj,Zl,Zm,Zn,Zo,Zp,Zr,Zt,Zu,Zw,Zx,Zy,Zz,Z1,Z3,Z4,Z5,Z7,ZB,ZD,ZH,ZI,ZL,ZM,ZP,ZQ,ZR,ZS,ZT,ZV,ZW,ZY,ZZ,Ya,Yg,Yo,Yq,Yt,Yu,Yv,Yy,Yz,Y0,Y2,Y3,Y5,YA,YK,YL,YN,YP,YR,YT,YU,YX,Xb,Xc,Xd,Xe,Xh,Xl,Xn,Xp,Xq,Xr,Xt,Xx,Xz,XJ,XL,XO,XP,XU,XV,XW,XX,XZ,Wb,Wd,Wf,Wk,Wl,Wm,Wv,Ww,Wx,Wy,Wz,W0,W3,W4,W5,W6,W7,W8,WA,WB,WE,WF,WG,WH,WI,WJ,WK,WL,WM,WN,WO,WP,WS,WT,WU,WY,WZ,Vb,Vc,Vd,Vl,Vm,Vn,Vo,Vp,Vq,Vr,Vs,Vx,Vy,Vz,V0,V2,V3,V5,V6,V7,V8,V9,VC,VD,VE,VG,VH,VI,VJ,VK,VL,VM,VN,VO,VQ,VR,VS,VT,VU,VV,VX,VY,VZ,Ua,Uc,Uf,Uh,Un,Uo,Uq,Us,Ut,Uu,Uv,Uw,Ux,Uy,Uz,U0,U1,U2,U3,U4,U5,U6,U7,U8,U9,UA,UB,UC,UD,UG,UH,UI,UJ,UK,UL,UO,UP,UQ,UR,US,UT,UV,UW,UZ,Ta,Tb,Tc,Tf,Tg,Th,Ti,Tk,Tl,Tm,Tn,Tp,Tq,Tr,Ts,Tt,Tv,Tx,Ty,Tz,T3,T6,T7,T8,T9,TB,TE,TF,TG,TH,TK,TL,TM,TN,TO,Sm,Sq,Ss,S3,S4,S6]; all_goals tactic => exact rfl))
        · exact rd1
        · rw [g12]
          (sym => (simp [Za,Zb,Zc,Zd,Ze,Zf,Zg,Zh,Zj,Zl,Zm,Zn,Zo,Zp,Zr,Zt,Zu,Zw,Zx,Zy,Zz,Z1,Z3,Z4,Z5,Z7,ZB,ZD,ZH,ZI,ZL,ZM,ZP,ZQ,ZR,ZS,ZT,ZV,ZW,ZY,ZZ,Ya,Yg,Yo,Yq,Yt,Yu,Yv,Yy,Yz,Y0,Y2,Y3,Y5,YA,YK,YL,YN,YP,YR,YT,YU,YX,Xb,Xc,Xd,Xe,Xh,Xl,Xn,Xp,Xq,Xr,Xt,Xx,Xz,XJ,XL,XO,XP,XU,XV,XW,XX,XZ,Wb,Wd,Wf,Wk,Wl,Wm,Wv,Ww,Wx,Wy,Wz,W0,W3,W4,W5,W6,W7,W8,WA,WB,WE,WF,WG,WH,WI,WJ,WK,WL,WM,WN,WO,WP,WS,WT,WU,WY,WZ,Vb,Vc,Vd,Vl,Vm,Vn,Vo,Vp,Vq,Vr,Vs,Vx,Vy,Vz,V0,V2,V3,V5,V6,V7,V8,V9,VC,VD,VE,VG,VH,VI,VJ,VK,VL,VM,VN,VO,VQ,VR,VS,VT,VU,VV,VX,VY,VZ,Ua,Uc,Uf,Uh,Un,Uo,Uq,Us,Ut,Uu,Uv,Uw,Ux,Uy,Uz,U0,U1,U2,U3,U4,U5,U6,U7,U8,U9,UA,UB,UC,UD,UG,UH,UI,UJ,UK,UL,UO,UP,UQ,UR,US,UT,UV,UW,UZ,Ta,Tb,Tc,Tf,Tg,Th,Ti,Tk,Tl,Tm,Tn,Tp,Tq,Tr,Ts,Tt,Tv,Tx,Ty,Tz,T3,T6,T7,T8,T9,TB,TE,TF,TG,TH,TK,TL,TM,TN,TO,Sm,Sq,Ss,S3,S4,S6]; all_goals tactic => exact rfl))
end Go.Proofs.YtpbeclkpohehgaaDoor
namespace Go.Proofs.YtpbeclkpohehgaaDoor
open Go Go.DL
set_option maxRecDepth 100000
set_option maxHeartbeats 4000000

def vld (n : Nat) (b : Nat → Nat) : Nat → List Nat → Prop
  | d,[] => pop d n = n
  | d,k :: ks => k < n ∧ canB b d k = true ∧ vld n b (d ||| 2 ^ k) ks
def ordW (l : Li) : Nat → List Nat → Int
  | _,[] => 0
  | d,k :: ks => mxI (lastF l (d ||| 2 ^ k) k) (ordW l (d ||| 2 ^ k) ks)
theorem mx_le {a c a' c' : Int} (h1 : a ≤ a') (h2 : c ≤ c') : mxI a c ≤ mxI a' c' := by unfold mxI; split <;> split <;> omega
theorem mx_l (a c : Int) : a ≤ mxI a c ∧ c ≤ mxI a c := by unfold mxI; split <;> omega
theorem mx_lt {a c m : Int} (h1 : a ≤ m) (h2 : c ≤ m) : mxI a c ≤ m := by unfold mxI; split <;> omega
theorem ord_min {l : Li} {b : Nat → Nat} : ∀ {d : Nat} {ks : List Nat},vld l.ls.length b d ks → rstF l b d ≤ ordW l d ks
  | d,[],h => by rw [rest_full h]; exact Int.le_refl _
  | d,k :: ks,h => by
    have h1 := (pop_or (can_bit h.2.1) l.ls.length).1 h.1
    have h2 := pop_le (d ||| 2 ^ k) l.ls.length
    have h3 := rest_le (l := l) (by omega) h.1 h.2.1
    exact Int.le_trans h3 (mx_le (Int.le_refl _) (ord_min h.2.2))
theorem bst_vld {l : Li} (g : Good l) {b : Nat → Nat} (p : Prec l.ls.length b) {w : Int} (hw0 : 0 ≤ w) : ∀ (m d : Nat),d < 2 ^ l.ls.length → l.ls.length - pop d l.ls.length = m → rstF l b d ≤ w → vld l.ls.length b d (bstF l b w d) ∧ ordW l d (bstF l b w d) ≤ w
  | 0,d,hd,hm,hw => by
    have hle := pop_le d l.ls.length
    have e : bstF l b w d = [] := by rw [bstF,hm,bestF]
    rw [e]
    exact ⟨by show pop d l.ls.length = _; omega,hw0⟩
  | m + 1,d,hd,hm,hw => by
    obtain ⟨k,hk⟩ := pick_ex g p hd (by omega) hw
    obtain ⟨h1,h2,h3,h4,h5,_⟩ := bst_some hk
    have hr := mx_l (lastF l (d ||| 2 ^ k) k) (rstF l b (d ||| 2 ^ k))
    unfold wthF at h4
    have ih := bst_vld g p hw0 m (d ||| 2 ^ k) (or_lt hd h2) (by omega) (by omega)
    rw [h1]
    exact ⟨⟨h2,h3,ih.1⟩,mx_lt (by omega) ih.2⟩
theorem best_vld {l : Li} (g : Good l) : vld l.ls.length (behF l.ts) 0 (bestO l) ∧ ordW l 0 (bestO l) = minW l := by
  have p := g.prec
  have h := bst_vld g p (rest_bd g (behF l.ts) 0).1 _ 0 (Nat.two_pow_pos _) rfl (Int.le_refl (minW l))
  exact ⟨h.1,Int.le_antisymm h.2 (ord_min h.1)⟩
theorem Good.kd {l : Li} (g : Good l) {t : Nat} {k : List St} (ht : l.ks[t]? = some k) {m m' : Int} (hm : m ≤ m') : ∀ i,i ≤ k.length → soN k m i ≤ soN k m' i ∧ (∀ x,i < k.length → k[i]? = some x → soN k m' i < x.s)
  | 0,_ => ⟨Int.le_refl _,fun x hi hx => by
    have := g.st ht hx
    rw [soN]; omega⟩
  | i + 1,hi => by
    obtain ⟨y,hy⟩ := at_ix (l := k) (i := i) (by omega)
    obtain ⟨h1,h2⟩ := g.kd ht hm i (by omega)
    have h2 := h2 y (by omega) hy
    have up : soN k m' (i + 1) ≤ y.s := by
      rcases soN_up (m := m') hy with ⟨_,h⟩ | ⟨_,h⟩ <;> rw [h] <;> omega
    refine ⟨?_,fun x hi hx => ?_⟩
    · rcases soN_up (m := m) hy with ⟨a1,h3⟩ | ⟨a1,h3⟩
      · rcases soN_up (m := m') hy with ⟨_,h4⟩ | ⟨a2,_⟩
        · rw [h3,h4]; exact Int.le_refl _
        · have a1 := of_eq_true a1
          have a2 := of_eq_false a2
          omega
      · rcases soN_up (m := m') hy with ⟨_,h4⟩ | ⟨_,h4⟩
        · rw [h3,h4]; omega
        · rw [h3,h4]; exact h1
    · have hr := (g.st ht hx).2.2.2.2
      rw [(pr_up hy).2] at hr
      omega
theorem so_mono {l : Li} (g : Good l) {t : Nat} {k : List St} (ht : l.ks[t]? = some k) {m m' : Int} (hm : m ≤ m') : sourF k m ≤ sourF k m' := (g.kd ht hm _ (Nat.le_refl _)).1
end Go.Proofs.YtpbeclkpohehgaaDoor
namespace Go.Proofs.YtpbeclkpohehgaaDoor
open Go Go.DL
set_option maxRecDepth 100000
set_option maxHeartbeats 4000000

theorem firstN_z {f : Nat → Int} : ∀ n,(∀ i,i < n → f i = 0) → firstN f n = 0
  | 0,_ => rfl
  | n + 1,h => by rw [firstN,firstN_z n fun i hi => h i (by omega),if_pos rfl]; exact h n (by omega)
theorem ix_mem {α : Type} {l : List α} {i : Nat} {d : α} (h : i < l.length) : l.getD i d ∈ l := by
  obtain ⟨x,hx⟩ := at_ix h
  rw [getD_of hx]
  exact List.mem_of_getElem? hx
theorem nodup_ix {t : List Int} (h : t.Nodup) {i j : Nat} (hi : i < j) (hj : j < t.length) : t.getD i 0 ≠ t.getD j 0 := by
  obtain ⟨x,hx⟩ := at_ix (l := t) (i := i) (by omega)
  obtain ⟨y,hy⟩ := at_ix hj
  rw [getD_of hx,getD_of hy]
  have := List.pairwise_iff_getElem.1 h i j (by omega) hj hi
  rw [(List.getElem?_eq_some_iff.1 hx).2,(List.getElem?_eq_some_iff.1 hy).2] at this
  exact this
theorem tracks_ok {n : Nat} {T : List (List Int)} (h1 : ∀ t ∈ T,t ≠ []) (h2 : ∀ t ∈ T,∀ v ∈ t,0 ≤ v ∧ v < n) (h3 : ∀ t ∈ T,t.Nodup) (h4 : T.Pairwise fun s t => ∀ v ∈ s,v ∉ t) (h5 : ∀ k : Nat,k < n → ∃ t,t ∈ T ∧ (k : Int) ∈ t) : tracksE n T = 0 := by
  have er : ∀ j,j < T.length → errT n (T.getD j []) (accT T j) = 0 := by
    intro j hj
    have hT : T.getD j [] ∈ T := ix_mem hj
    unfold errT
    have hne := h1 _ hT
    rw [if_neg fun hz => hne (List.eq_nil_of_length_eq_zero hz)]
    refine firstN_z _ fun i hi => ?_
    have hv := ix_mem (d := 0) hi
    have hr := h2 _ hT _ hv
    rcases elE_of (n := n) (all := allT (T.getD j []) (accT T j) i) ((T.getD j []).getD i 0) with ⟨_,_,_,h⟩ | ⟨_,_,hb,_⟩ | ⟨hb,_⟩
    · exact h
    · exfalso
      rcases allT_bit.1 hb with h | ⟨i',h6,h7⟩
      · obtain ⟨j',h6,i',h7,h8⟩ := accT_bit.1 h
        have hT' : T.getD j' [] ∈ T := ix_mem (by omega)
        have hv' := ix_mem (d := 0) h7
        have hr' := h2 _ hT' _ hv'
        have he : (T.getD j' []).getD i' 0 = (T.getD j []).getD i 0 := by unfold plc at h8; omega
        rw [he] at hv'
        obtain ⟨s,hs⟩ := at_ix (l := T) (i := j') (by omega)
        obtain ⟨t,ht⟩ := at_ix hj
        have hp := List.pairwise_iff_getElem.1 h4 j' j (by omega) hj h6
        rw [(List.getElem?_eq_some_iff.1 hs).2,(List.getElem?_eq_some_iff.1 ht).2] at hp
        rw [getD_of hs] at hv'
        rw [getD_of ht] at hv hv'
        exact hp _ hv' hv
      · have hv' := ix_mem (l := T.getD j []) (d := 0) (i := i') (by omega)
        have hr' := h2 _ hT _ hv'
        exact nodup_ix (h3 _ hT) h6 hi (by omega)
    · have : btw 0 ((T.getD j []).getD i 0) ((n : Int) - 1) = true := btwF.2 (by omega)
      rw [hb] at this; simp at this
  unfold tracksE
  rw [if_pos (firstN_z _ er)]
  have : pop (accT T T.length) n = n := pop_full.2 fun k hk => by
    obtain ⟨t,h6,h7⟩ := h5 k hk
    obtain ⟨j,hj⟩ := List.getElem?_of_mem h6
    obtain ⟨i,hi⟩ := List.getElem?_of_mem h7
    exact accT_bit.2 ⟨j,lt_of hj,i,by rw [getD_of hj]; exact lt_of hi,by rw [plc,getD_of hj,getD_of hi,Int.toNat_natCast]⟩
  rw [if_neg (by omega)]
theorem put_mem {x : P5} {i : Nat} {T : List Int} {v : Int} : v ∈ putT x i T ↔ v = (i : Int) ∨ v ∈ T := by
  unfold putT
  split
  · rw [List.mem_cons]
  · rw [List.mem_append,List.mem_singleton]; exact Or.comm
theorem put_nodup {x : P5} {i : Nat} {T : List Int} (h : T.Nodup) (hi : (i : Int) ∉ T) : (putT x i T).Nodup := by
  unfold putT
  split
  · exact List.nodup_cons.2 ⟨hi,h⟩
  · rw [List.nodup_append]
    refine ⟨h,by simp,fun a ha b hb => ?_⟩
    rw [List.mem_singleton] at hb
    subst hb
    intro hc
    subst hc
    exact hi ha
structure TrOk (q : Qu) (i : Nat) : Prop where
  bd : ∀ t,∀ v ∈ trN q i t,0 ≤ v ∧ v < i
  nd : ∀ t,(trN q i t).Nodup
  dj : ∀ t t',t ≠ t' → ∀ v ∈ trN q i t,v ∉ trN q i t'
  all : ∀ k : Nat,k < i → ∃ t,t < 3 ∧ (k : Int) ∈ trN q i t
theorem tr_ok (q : Qu) : ∀ i,TrOk q i
  | 0 => ⟨fun t v hv => by simp [trN] at hv,fun t => by simp [trN],fun t t' _ v hv => by simp [trN] at hv,fun k hk => by omega⟩
  | i + 1 => by
    have ih := tr_ok q i
    have hi : ∀ t,(i : Int) ∉ trN q i t := fun t h => by have := ih.bd t _ h; omega
    have mem : ∀ t v,v ∈ trN q (i + 1) t ↔ ((q.ls.getD i ⟨0,0,0,0,0⟩).e / 2 % 3 = t ∧ v = (i : Int)) ∨ v ∈ trN q i t := by
      intro t v
      rw [trN]
      unfold upT
      by_cases h : (q.ls.getD i ⟨0,0,0,0,0⟩).e / 2 % 3 = t
      · rw [if_pos h,put_mem]
        exact ⟨fun h2 => h2.elim (fun h3 => .inl ⟨h,h3⟩) .inr,fun h2 => h2.elim (fun h3 => .inl h3.2) .inr⟩
      · rw [if_neg h]
        exact ⟨.inr,fun h2 => h2.elim (fun h3 => absurd h3.1 h) id⟩
    refine ⟨fun t v hv => ?_,fun t => ?_,fun t t' ht v hv hv' => ?_,fun k hk => ?_⟩
    · rcases (mem t v).1 hv with ⟨_,rfl⟩ | h
      · omega
      · have := ih.bd t v h; omega
    · rw [trN]
      unfold upT
      split
      · exact put_nodup (ih.nd t) (hi t)
      · exact ih.nd t
    · rcases (mem t v).1 hv with ⟨h1,rfl⟩ | h
      · rcases (mem t' _).1 hv' with ⟨h2,_⟩ | h2
        · exact ht (h1.symm.trans h2)
        · exact hi t' h2
      · rcases (mem t' _).1 hv' with ⟨_,rfl⟩ | h2
        · exact hi t h
        · exact ih.dj t t' ht v h h2
    · by_cases hki : k = i
      · subst hki
        exact ⟨(q.ls.getD k ⟨0,0,0,0,0⟩).e / 2 % 3,by omega,(mem _ _).2 (.inl ⟨rfl,rfl⟩)⟩
      · obtain ⟨t,h1,h2⟩ := ih.all k (by omega)
        exact ⟨t,h1,(mem _ _).2 (.inr h2)⟩
theorem nz_mem {T0 T1 T2 t : List Int} : t ∈ nzT T0 T1 T2 ↔ (t = T0 ∨ t = T1 ∨ t = T2) ∧ t ≠ [] := by
  unfold nzT
  rw [List.mem_filter]
  simp [List.isEmpty_iff]
theorem md_tracks (q : Qu) (n : Nat) (hn : n = fewL q) : tracksE n (nzT (trN q (fewL q) 0) (trN q (fewL q) 1) (trN q (fewL q) 2)) = 0 := by
  have h := tr_ok q (fewL q)
  subst hn
  refine tracks_ok (fun t ht => (nz_mem.1 ht).2) (fun t ht v hv => ?_) (fun t ht => ?_) ?_ (fun k hk => ?_)
  · rcases (nz_mem.1 ht).1 with rfl | rfl | rfl <;> exact h.bd _ v hv
  · rcases (nz_mem.1 ht).1 with rfl | rfl | rfl <;> exact h.nd _
  · unfold nzT
    refine List.Pairwise.filter _ ?_
    simp only [List.pairwise_cons,List.mem_cons,List.not_mem_nil,or_false,false_implies,implies_true,List.Pairwise.nil,and_true,forall_eq_or_imp,forall_eq]
    exact ⟨⟨h.dj 0 1 (by decide),h.dj 0 2 (by decide)⟩,h.dj 1 2 (by decide)⟩
  · obtain ⟨t,h1,h2⟩ := h.all k hk
    refine ⟨trN q (fewL q) t,nz_mem.2 ⟨?_,fun hc => by rw [hc] at h2; simp at h2⟩,h2⟩
    match t,h1 with
    | 0,_ => exact .inl rfl
    | 1,_ => exact .inr (.inl rfl)
    | 2,_ => exact .inr (.inr rfl)
theorem st_get {x : List P2} : ∀ {m i : Nat},i < m → (stN x m)[i]? = some ⟨(afN x (i + 1) : Nat),(nnN x (i + 1) : Nat)⟩
  | 0,i,h => by omega
  | m + 1,i,h => by
    rw [stN]
    by_cases hi : i = m
    · subst hi
      rw [List.getElem?_append_right (by rw [stN_len]; omega),stN_len,Nat.sub_self]
      rfl
    · rw [List.getElem?_append_left (by rw [stN_len]; omega)]
      exact st_get (by omega)
theorem md_kind {x : List P2} (hx : ∀ y ∈ x,y.a < 256 ∧ y.b < 256) : chkD (mdK x) = 0 := by
  have hl : (mdK x).length = fewK x := stN_len x _
  have h4 : fewK x ≤ 4 ∧ fewK x ≤ x.length := by unfold fewK; omega
  unfold chkD
  rw [hl,if_neg (by omega)]
  refine firstN_z _ fun i hi => ?_
  have hg : (mdK x)[i]? = some ⟨(afN x (i + 1) : Nat),(nnN x (i + 1) : Nat)⟩ := st_get hi
  have bd := af_bd hx (i + 1) (by omega)
  have pr : prA (mdK x) i < (afN x (i + 1) : Nat) ∧ prS (mdK x) i < (nnN x (i + 1) : Nat) ∧ 1 ≤ nnN x (i + 1) := by
    cases i with
    | zero =>
      have e1 : prA (mdK x) 0 = -1 := rfl
      have e2 : prS (mdK x) 0 = 0 := rfl
      rw [e1,e2,afN,nnN]
      omega
    | succ j =>
      have hg' : (mdK x)[j]? = some ⟨(afN x (j + 1) : Nat),(nnN x (j + 1) : Nat)⟩ := st_get (by omega)
      have e := pr_up hg'
      have e3 : afN x (j + 1 + 1) = afN x (j + 1) + 1 + (x.getD (j + 1) ⟨0,0⟩).a := rfl
      have e4 : nnN x (j + 1 + 1) = nnN x (j + 1) + 1 + (x.getD (j + 1) ⟨0,0⟩).b % 9 := rfl
      rw [e.1,e.2]
      dsimp only
      omega
  rcases kErr_of hg with ⟨_,_,_,_,h⟩ | ⟨_,_,_,h,_⟩ | ⟨_,_,h,_⟩ | ⟨_,h,_⟩ | ⟨h,_⟩
  · exact h
  · have := of_eq_true h; dsimp only at this; omega
  · have := of_eq_true h; dsimp only at this; omega
  · have : btw 1 ((nnN x (i + 1) : Nat) : Int) 1000000 = true := btwF.2 (by omega)
    rw [this] at h; simp at h
  · have : btw 0 ((afN x (i + 1) : Nat) : Int) 100000 = true := btwF.2 (by omega)
    rw [this] at h; simp at h
theorem md_ls {q : Qu} : (lsN q (fewL q)).length = fewL q := by unfold lsN fewL; rw [List.length_map,List.length_take]; omega
theorem md_good {q : Qu} (hq : q.Ok) : checkL (mdL q) = 0 := by
  unfold checkL
  have hk : kindsE (mdL q).ks = 0 := by
    unfold kindsE
    rw [if_neg (by simp [mdL])]
    refine firstN_z _ fun i hi => ?_
    have hi2 : i < 2 := hi
    match i,hi2 with
    | 0,_ => exact md_kind hq.k0
    | 1,_ => exact md_kind hq.k1
  have hm : fewL q ≤ 5 := by unfold fewL; omega
  have hl : (mdL q).ls.length = fewL q := md_ls
  have hs := hq.s
  rw [if_pos hk,if_neg (by omega)]
  have hld : firstN (ldEr (mdL q)) (mdL q).ls.length = 0 := by
    refine firstN_z _ fun i hi => ?_
    have hi2 : i < q.ls.length ∧ i < fewL q := by unfold fewL at *; omega
    obtain ⟨x,hx⟩ := at_ix hi2.1
    have hb := hq.ls x (List.mem_of_getElem? hx)
    have hg : (mdL q).ls[i]? = some x.ld := by
      show (lsN q (fewL q))[i]? = _
      unfold lsN
      rw [List.getElem?_map,List.getElem?_take,if_pos hi2.2,hx]; rfl
    unfold ldEr
    rw [getD_of hg]
    have hks : (mdL q).ks.length = 2 := rfl
    rw [hks]
    rcases ldE_of 2 x.ld with ⟨_,_,_,h⟩ | ⟨_,_,h,_⟩ | ⟨_,h,_⟩ | ⟨h,_⟩
    · exact h
    · have : inS x.ld.cl x.ld.ch 1 10000 = true := inSF.2 (by unfold P5.ld; dsimp only; omega)
      rw [this] at h; simp at h
    · have : inS x.ld.al x.ld.ah 0 100000 = true := inSF.2 (by unfold P5.ld; dsimp only; omega)
      rw [this] at h; simp at h
    · have : btw 0 x.ld.k (((2 : Nat) : Int) - 1) = true := btwF.2 (by unfold P5.ld; dsimp only; omega)
      rw [this] at h; simp at h
  rw [if_pos hld]
  have ht : tracksE (mdL q).ls.length (mdL q).ts = 0 := md_tracks q _ hl
  have hst : inS (mdL q).lo (mdL q).hi 0 100000 = true := inSF.2 (by unfold mdL; dsimp only; omega)
  rw [if_pos ht,hst]
  rfl
theorem md_fit (q : Qu) : (mdL q).Fit := by
  have hm : fewL q ≤ 5 := by unfold fewL; omega
  refine ⟨?_,fun t ht => ?_⟩
  · have : (nzT (trN q (fewL q) 0) (trN q (fewL q) 1) (trN q (fewL q) 2)).length ≤ 3 := by
      unfold nzT
      exact Nat.le_trans (List.length_filter_le _ _) (by simp)
    show (nzT _ _ _).length ≤ _
    omega
  · have h := tr_len q (fewL q)
    rcases (nz_mem.1 ht).1 with rfl | rfl | rfl
    · have := h 0; omega
    · have := h 1; omega
    · have := h 2; omega
end Go.Proofs.YtpbeclkpohehgaaDoor
namespace Go.Proofs.YtpbeclkpohehgaaDoor
open Go Go.DL
set_option maxRecDepth 100000
set_option maxHeartbeats 4000000

def cO (L : List (List Int)) : List AV := L.map fun os => rI os
theorem cO_gr (L : List (List Int)) : grL (cO L) = true := by
  induction L with
  | nil => rfl
  | cons a r ih => rw [cO,List.map_cons,grL]; exact ih
theorem cO_nm (L : List (List Int)) : nmL (cO L) = [] := by
  induction L with
  | nil => rfl
  | cons a r ih => rw [cO,List.map_cons,nmL]; exact ih
theorem cO_sl (L : List (List Int)) : slL (cO L) = [] := by
  induction L with
  | nil => rfl
  | cons a r ih => rw [cO,List.map_cons,slL]; exact ih
theorem cO_len (L : List (List Int)) : (cO L).length = L.length := by simp [cO]
theorem cO_app (A B : List (List Int)) : cO (A ++ B) = cO A ++ cO B := by simp [cO]
theorem cO_ch (L : List (List Int)) : chunks (cO L) 0 1 L.length = L.map fun os => [rI os] := by
  have := chunksV (cO L) []
  rw [List.nil_append,show ([] : List AV).length = 0 from rfl,cO_len] at this
  rw [this,cO,List.map_map]
  rfl
end Go.Proofs.YtpbeclkpohehgaaDoor
namespace Go.Proofs.YtpbeclkpohehgaaDoor
open Go Go.DL
set_option maxRecDepth 100000
set_option maxHeartbeats 4000000
section
variable {l : Li}
end
end Go.Proofs.YtpbeclkpohehgaaDoor
namespace Go.Proofs.YtpbeclkpohehgaaDoor
open Go Go.DL
set_option maxRecDepth 100000
set_option maxHeartbeats 4000000
section
variable {l : Li}
end
end Go.Proofs.YtpbeclkpohehgaaDoor
namespace Go.Proofs.YtpbeclkpohehgaaDoor
open Go Go.DL
set_option maxRecDepth 100000
set_option maxHeartbeats 4000000

section
variable {l : Li}
end
end Go.Proofs.YtpbeclkpohehgaaDoor
namespace Go.Proofs.YtpbeclkpohehgaaDoor
open Go Go.DL
set_option maxRecDepth 100000
set_option maxHeartbeats 4000000
section
variable {l : Li}
end
theorem fR_or {l : Li} {d k : Nat} (h : d.testBit k = false) : ∀ n,(k < n → fR (enS l) l.hi (d ||| 2 ^ k) n = fR (enS l) l.hi d n + (ldN l k).ch) ∧ (n ≤ k → fR (enS l) l.hi (d ||| 2 ^ k) n = fR (enS l) l.hi d n)
  | 0 => ⟨fun h => by omega,fun _ => rfl⟩
  | n + 1 => by
    have ih := fR_or (l := l) h n
    rw [fR,fR,or_bit]
    constructor
    · intro hk
      by_cases hkn : k = n
      · subst hkn
        rw [ih.2 (Nat.le_refl _),h,decide_eq_true rfl]
        rfl
      · rw [ih.1 (by omega),decide_eq_false hkn,Bool.or_false]
        split
        · show fR (enS l) l.hi d n + (ldN l k).ch + (ldN l n).ch = fR (enS l) l.hi d n + (ldN l n).ch + (ldN l k).ch
          omega
        · rfl
    · intro hk
      rw [ih.2 (by omega),decide_eq_false (by omega : ¬ k = n),Bool.or_false]
theorem end_or {l : Li} (g : Good l) {d k : Nat} (hd : d < 2 ^ l.ls.length) (hk : k < l.ls.length) (h : d.testBit k = false) : endF l (d ||| 2 ^ k) = endF l d + (ldN l k).ch := by
  have e1 : fR (enS l) l.hi (d ||| 2 ^ k) l.ls.length = endF l (d ||| 2 ^ k) := fR_el (or_lt hd hk) g.few
  have e2 : fR (enS l) l.hi d l.ls.length = endF l d := fR_el hd g.few
  rw [← e1,← e2]
  exact (fR_or h _).1 hk
theorem end_0 (l : Li) : endF l 0 = l.hi := rfl
end Go.Proofs.YtpbeclkpohehgaaDoor
namespace Go.Proofs.YtpbeclkpohehgaaDoor
open Go Go.DL
set_option maxRecDepth 100000
set_option maxHeartbeats 4000000

section
variable {l : Li}
end
end Go.Proofs.YtpbeclkpohehgaaDoor
namespace Go.Proofs.YtpbeclkpohehgaaDoor
open Go Go.DL
set_option maxRecDepth 100000
set_option maxHeartbeats 4000000

end Go.Proofs.YtpbeclkpohehgaaDoor
namespace Go.Proofs.YtpbeclkpohehgaaDoor
open Go Go.DL
set_option maxRecDepth 100000
set_option maxHeartbeats 4000000

end Go.Proofs.YtpbeclkpohehgaaDoor
namespace Go.Proofs.YtpbeclkpohehgaaDoor
open Go Go.DL
set_option maxRecDepth 100000
set_option maxHeartbeats 4000000

section
variable {l : Li}
end
end Go.Proofs.YtpbeclkpohehgaaDoor
namespace Go.Proofs.YtpbeclkpohehgaaDoor
open Go Go.DL
set_option maxRecDepth 100000
set_option maxHeartbeats 4000000

theorem oS_ne {b : Nat} {os : List Int} (h : os ≠ []) : oS b os = .sl b 0 1 os.length := by
  cases os with
  | nil => exact absurd rfl h
  | cons a r => rfl
theorem oG_ne {os : List Int} (h : os ≠ []) : oG os = [some (.blk true (.cells true (os.map I)))] := by
  cases os with
  | nil => exact absurd rfl h
  | cons a r => rfl
section
variable {l : Li}
end
end Go.Proofs.YtpbeclkpohehgaaDoor
namespace Go.Proofs.YtpbeclkpohehgaaDoor
open Go Go.DL
set_option maxRecDepth 100000
set_option maxHeartbeats 4000000

end Go.Proofs.YtpbeclkpohehgaaDoor
namespace Go.Proofs.YtpbeclkpohehgaaDoor
open Go Go.DL
set_option maxRecDepth 100000
set_option maxHeartbeats 4000000
section
variable {l : Li}
end
end Go.Proofs.YtpbeclkpohehgaaDoor
namespace Go.Proofs.YtpbeclkpohehgaaDoor
open Go Go.DL
set_option maxRecDepth 100000
set_option maxHeartbeats 4000000
section
variable {l : Li}
end
end Go.Proofs.YtpbeclkpohehgaaDoor
namespace Go.Proofs.YtpbeclkpohehgaaDoor
open Go Go.DL
set_option maxRecDepth 100000
set_option maxHeartbeats 4000000
section
variable {l : Li}
end
end Go.Proofs.YtpbeclkpohehgaaDoor
namespace Go.Proofs.YtpbeclkpohehgaaDoor
open Go Go.DL
set_option maxRecDepth 100000
set_option maxHeartbeats 4000000
end Go.Proofs.YtpbeclkpohehgaaDoor
namespace Go.Proofs.YtpbeclkpohehgaaDoor
open Go Go.DL
set_option maxRecDepth 100000
set_option maxHeartbeats 4000000
end Go.Proofs.YtpbeclkpohehgaaDoor
namespace Go.Proofs.YtpbeclkpohehgaaDoor
open Go Go.DL
set_option maxRecDepth 100000
set_option maxHeartbeats 4000000
end Go.Proofs.YtpbeclkpohehgaaDoor
namespace Go.Proofs.YtpbeclkpohehgaaDoor
open Go Go.DL
set_option maxRecDepth 100000
set_option maxHeartbeats 4000000
end Go.Proofs.YtpbeclkpohehgaaDoor
namespace Go.Proofs.YtpbeclkpohehgaaDoor
open Go Go.DL
set_option maxRecDepth 100000
set_option maxHeartbeats 4000000
end Go.Proofs.YtpbeclkpohehgaaDoor
namespace Go.Proofs.YtpbeclkpohehgaaDoor
open Go Go.DL
set_option maxRecDepth 100000
set_option maxHeartbeats 4000000
end Go.Proofs.YtpbeclkpohehgaaDoor
namespace Go.Proofs.YtpbeclkpohehgaaDoor
open Go Go.DL
set_option maxRecDepth 100000
set_option maxHeartbeats 4000000
abbrev cB8 (us : List Nat) : Option XB := some (.blk true (.cells true [.fs (us.map fun v => [B8 v])]))
end Go.Proofs.YtpbeclkpohehgaaDoor
namespace Go.Proofs.YtpbeclkpohehgaaDoor
open Go Go.DL
set_option maxRecDepth 100000
set_option maxHeartbeats 4000000
abbrev h8 (l : Li) (us : List Nat) : XH := [some (.blk true (.cells true l.c)),cB8 us]
end Go.Proofs.YtpbeclkpohehgaaDoor
namespace Go.Proofs.YtpbeclkpohehgaaDoor
open Go Go.DL
set_option maxRecDepth 100000
set_option maxHeartbeats 4000000
end Go.Proofs.YtpbeclkpohehgaaDoor
namespace Go.Proofs.YtpbeclkpohehgaaDoor
open Go Go.DL
set_option maxRecDepth 100000
set_option maxHeartbeats 4000000
structure Emb (x l : Li) (f : Nat → Option Nat) : Prop where
  lt : ∀ k m,k < l.ls.length → f k = some m → m < x.ls.length
  inj : ∀ j k m,j < l.ls.length → k < l.ls.length → f j = some m → f k = some m → j = k
  onto : ∀ m,m < x.ls.length → ∃ k,k < l.ls.length ∧ f k = some m
  ld : ∀ k m,k < l.ls.length → f k = some m → (ldN x m).k = (ldN l k).k ∧ (ldN x m).ah ≤ (ldN l k).ah ∧ (ldN x m).ch ≤ (ldN l k).ch
  ks : x.ks = l.ks
  hi : x.hi ≤ l.hi
  beh : ∀ k m j i,k < l.ls.length → j < l.ls.length → f k = some m → f j = some i → (behF x.ts m).testBit i = true → (behF l.ts k).testBit j = true
theorem emb_vld {x l : Li} {f : Nat → Option Nat} (e : Emb x l f) (gx : Good x) (gl : Good l) : ∀ {ks : List Nat} {d d' : Nat},d < 2 ^ l.ls.length → d' < 2 ^ x.ls.length → (∀ k m,k < l.ls.length → f k = some m → d'.testBit m = d.testBit k) → endF x d' ≤ endF l d → vld l.ls.length (behF l.ts) d ks → vld x.ls.length (behF x.ts) d' (ks.filterMap f) ∧ ordW x d' (ks.filterMap f) ≤ ordW l d ks
  | [],d,d',hd,hd',hr,he,hv => by
    rw [List.filterMap_nil]
    refine ⟨pop_full.2 fun m hm => ?_,Int.le_refl _⟩
    obtain ⟨k,hk,hf⟩ := e.onto m hm
    rw [hr k m hk hf]
    exact pop_full.1 hv k hk
  | k :: ks,d,d',hd,hd',hr,he,⟨hk,hc,hv⟩ => by
    have hb := can_bit hc
    have nl := gl.few
    have nx := gx.few
    have eo := end_or gl hd hk hb
    obtain ⟨y,kd,h1,h2,h3,h4,h5,h6,h7,h8⟩ := gl.ldn hk
    cases hf : f k with
    | none =>
      rw [List.filterMap_cons_none hf]
      have ih := emb_vld e gx gl (ks := ks) (or_lt hd hk) hd' (fun j m hj hm => by
        rw [hr j m hj hm,or_bit]
        have : ¬ k = j := by rintro rfl; rw [hf] at hm; simp at hm
        rw [decide_eq_false this,Bool.or_false]) (by rw [eo,h2]; omega) hv
      refine ⟨ih.1,?_⟩
      rw [ordW]
      have := mx_l (lastF l (d ||| 2 ^ k) k) (ordW l (d ||| 2 ^ k) ks)
      omega
    | some m =>
      rw [List.filterMap_cons_some hf]
      have hm := e.lt k m hk hf
      have hb' : d'.testBit m = false := by rw [hr k m hk hf]; exact hb
      have eo' := end_or gx hd' hm hb'
      obtain ⟨l1,l2,l3⟩ := e.ld k m hk hf
      have hc' : canB (behF x.ts) d' m = true := (canB_iff gx.prec nx hd').2 ⟨hb',fun i hi => by
        have hix : i < x.ls.length := by
          by_cases hl : i < x.ls.length
          · exact hl
          · rw [bit_lt (gx.prec.lt m) (by omega)] at hi; simp at hi
        obtain ⟨j,hj,hfj⟩ := e.onto i hix
        rw [hr j i hj hfj]
        exact ((canB_iff gl.prec nl hd).1 hc).2 j (e.beh k m j i hk hj hf hfj hi)⟩
      have ee : endF x (d' ||| 2 ^ m) ≤ endF l (d ||| 2 ^ k) := by rw [eo,eo']; omega
      have ih := emb_vld e gx gl (ks := ks) (or_lt hd hk) (or_lt hd' hm) (fun j i hj hfj => by
        rw [or_bit,or_bit,hr j i hj hfj]
        congr 1
        by_cases hjk : k = j
        · subst hjk
          rw [hf] at hfj
          obtain rfl := Option.some.inj hfj
          simp
        · have : ¬ m = i := by
            rintro rfl
            exact hjk (e.inj k j m hk hj hf hfj)
          rw [decide_eq_false hjk,decide_eq_false this]) ee hv
      refine ⟨⟨hm,hc',ih.1⟩,?_⟩
      rw [ordW,ordW]
      refine mx_le ?_ ih.2
      have hkd : knAt x (ldN x m) = knAt l (ldN l k) := by unfold knAt; rw [e.ks,l1]
      show sourF (knAt x (ldN x m)) ((ldN x m).ah + endF x (d' ||| 2 ^ m)) ≤ sourF (knAt l (ldN l k)) ((ldN l k).ah + endF l (d ||| 2 ^ k))
      rw [hkd,h2,h5]
      refine so_mono gl h4 ?_
      rw [h2] at l2
      omega
theorem emb_min {x l : Li} {f : Nat → Option Nat} (e : Emb x l f) (gx : Good x) (gl : Good l) : minW x ≤ minW l := by
  obtain ⟨h1,h2⟩ := best_vld gl
  obtain ⟨h3,h4⟩ := emb_vld e gx gl (d := 0) (d' := 0) (Nat.two_pow_pos _) (Nat.two_pow_pos _) (fun k m _ _ => by rw [Nat.zero_testBit,Nat.zero_testBit]) (by rw [end_0,end_0]; exact e.hi) h1
  have := ord_min h3
  unfold minW at *
  omega
theorem check_of {l : Li} (hk : kindsE l.ks = 0) (hn : l.ls.length ≤ 10) (hl : ∀ (i : Nat) (x : Ld),l.ls[i]? = some x → (0 ≤ x.k ∧ x.k < l.ks.length) ∧ (0 ≤ x.al ∧ x.al ≤ x.ah ∧ x.ah ≤ 100000) ∧ (1 ≤ x.cl ∧ x.cl ≤ x.ch ∧ x.ch ≤ 10000)) (ht : tracksE l.ls.length l.ts = 0) (hs : 0 ≤ l.lo ∧ l.lo ≤ l.hi ∧ l.hi ≤ 100000) : checkL l = 0 := by
  unfold checkL
  rw [if_pos hk,if_neg (by omega)]
  have hld : firstN (ldEr l) l.ls.length = 0 := by
    refine firstN_z _ fun i hi => ?_
    obtain ⟨x,hx⟩ := at_ix hi
    obtain ⟨h1,h2,h3⟩ := hl i x hx
    unfold ldEr
    rw [getD_of hx]
    rcases ldE_of l.ks.length x with ⟨_,_,_,h⟩ | ⟨_,_,h,_⟩ | ⟨_,h,_⟩ | ⟨h,_⟩
    · exact h
    · have : inS x.cl x.ch 1 10000 = true := inSF.2 h3
      rw [this] at h; simp at h
    · have : inS x.al x.ah 0 100000 = true := inSF.2 h2
      rw [this] at h; simp at h
    · have : btw 0 x.k ((l.ks.length : Int) - 1) = true := btwF.2 (by omega)
      rw [this] at h; simp at h
  rw [if_pos hld,if_pos ht,inSF.2 hs]
  rfl
theorem Good.trk {l : Li} (g : Good l) : tracksE l.ls.length l.ts = 0 := by
  unfold tracksE
  rw [if_pos (firstN_z _ g.tracks),if_neg (by have := g.full; omega)]
theorem Good.tne {l : Li} (g : Good l) : ∀ t ∈ l.ts,t ≠ [] := by
  intro t ht hz
  obtain ⟨j,hj⟩ := List.getElem?_of_mem ht
  have := (errT_0 (g.tracks j (lt_of hj))).1
  rw [getD_of hj,hz] at this
  simp at this
theorem Good.tbd {l : Li} (g : Good l) : ∀ t ∈ l.ts,∀ v ∈ t,0 ≤ v ∧ v < l.ls.length := by
  intro t ht v hv
  obtain ⟨j,hj⟩ := List.getElem?_of_mem ht
  obtain ⟨i,hi⟩ := List.getElem?_of_mem hv
  have := (g.fresh (j := j) (i := i) (lt_of hj) (by rw [getD_of hj]; exact lt_of hi)).1
  rw [getD_of hj,getD_of hi] at this
  exact this
theorem Good.tnd {l : Li} (g : Good l) : ∀ t ∈ l.ts,t.Nodup := by
  intro t ht
  obtain ⟨j,hj⟩ := List.getElem?_of_mem ht
  rw [List.Nodup,List.pairwise_iff_getElem]
  intro a b ha hb hab h
  have := g.apart (j := j) (i := b) (i' := a) (lt_of hj) (by rw [getD_of hj]; exact hb) hab
  unfold plc at this
  rw [getD_of hj,getD_of (List.getElem?_eq_getElem ha),getD_of (List.getElem?_eq_getElem hb)] at this
  exact this (by rw [h])
theorem Good.tpw {l : Li} (g : Good l) : l.ts.Pairwise fun s t => ∀ v ∈ s,v ∉ t := by
  rw [List.pairwise_iff_getElem]
  intro a b ha hb hab v hv hv'
  obtain ⟨i',hi'⟩ := List.getElem?_of_mem hv
  obtain ⟨i,hi⟩ := List.getElem?_of_mem hv'
  have ga := getD_of (d := []) (List.getElem?_eq_getElem ha)
  have gb := getD_of (d := []) (List.getElem?_eq_getElem hb)
  have := g.apart2 (j := b) (i := i) (j' := a) (i' := i') hb (by rw [gb]; exact lt_of hi) hab (by rw [ga]; exact lt_of hi')
  unfold plc at this
  rw [ga,gb,getD_of hi,getD_of hi'] at this
  exact this rfl
theorem Good.tal {l : Li} (g : Good l) : ∀ k : Nat,k < l.ls.length → ∃ t,t ∈ l.ts ∧ (k : Int) ∈ t := by
  intro k hk
  obtain ⟨j,hj,i,hi,h⟩ := accT_bit.1 (pop_full.1 g.full k hk)
  have hm := ix_mem (d := 0) hi
  have hT : l.ts.getD j [] ∈ l.ts := ix_mem hj
  have := g.tbd _ hT _ hm
  refine ⟨_,hT,?_⟩
  unfold plc at h
  rw [show (k : Int) = (l.ts.getD j []).getD i 0 by omega]
  exact hm
theorem std_iff {T : List (List Int)} {a b : Int} : stdF T a b = true ↔ ∃ t ∈ T,∃ i j : Nat,j < i ∧ t[i]? = some a ∧ t[j]? = some b := by
  unfold stdF
  rw [List.any_eq_true]
  constructor
  · rintro ⟨p,hp,h⟩
    have hp' := List.mem_range.1 hp
    refine ⟨T.getD p [],ix_mem hp',?_⟩
    unfold hitT at h
    obtain ⟨i,hi,h⟩ := List.any_eq_true.1 h
    have hi' := List.mem_range.1 hi
    unfold hitN at h
    rw [Bool.and_eq_true,decide_eq_true_iff,met_iff] at h
    obtain ⟨h1,j,h2,h3⟩ := h
    obtain ⟨u,hu⟩ := at_ix hi'
    obtain ⟨w,hw⟩ := at_ix (l := T.getD p []) (i := j) (by omega)
    rw [getD_of hu] at h1
    rw [getD_of hw] at h3
    exact ⟨i,j,h2,by rw [hu,h1],by rw [hw,h3]⟩
  · rintro ⟨t,ht,i,j,h1,h2,h3⟩
    obtain ⟨p,hp⟩ := List.getElem?_of_mem ht
    refine ⟨p,List.mem_range.2 (lt_of hp),?_⟩
    rw [getD_of hp]
    unfold hitT
    rw [List.any_eq_true]
    refine ⟨i,List.mem_range.2 (lt_of h2),?_⟩
    unfold hitN
    rw [Bool.and_eq_true,decide_eq_true_iff,met_iff]
    exact ⟨getD_of h2,j,h1,getD_of h3⟩
theorem beh_iff {l : Li} (g : Good l) (k j : Nat) : (behF l.ts k).testBit j = true ↔ ∃ t ∈ l.ts,∃ i p : Nat,p < i ∧ t[i]? = some (k : Int) ∧ t[p]? = some (j : Int) := by
  rw [← std_beh g k j,std_iff]
theorem md_small {q : Qu} (hq : q.Ok) : (∀ x ∈ (mdL q).ls,x.ah ≤ 400 ∧ x.ch ≤ 400) ∧ (mdL q).hi ≤ 1000 ∧ (mdL q).ls.length ≤ 5 := by
  refine ⟨fun x hx => ?_,?_,?_⟩
  · have hx : x ∈ (q.ls.take (fewL q)).map P5.ld := hx
    obtain ⟨y,hy,rfl⟩ := List.mem_map.1 hx
    have := hq.ls y (List.mem_of_mem_take hy)
    unfold P5.ld
    dsimp only
    omega
  · have := hq.s
    show ((q.s0 + q.s1 : Nat) : Int) ≤ 1000
    omega
  · have : (mdL q).ls.length = fewL q := md_ls
    rw [this]
    unfold fewL
    omega
end Go.Proofs.YtpbeclkpohehgaaDoor
namespace Go.Proofs.YtpbeclkpohehgaaDoor
open Go Go.DL
set_option maxRecDepth 100000
set_option maxHeartbeats 4000000
def oldX (x : Ld) (a c : Int) : Ld := { x with ah := x.ah + a,ch := x.ch + c }
def oldL (l : Li) (k : Nat) (a c h : Int) : Li := { l with ls := l.ls.set k (oldX (ldN l k) a c),hi := l.hi + h }
theorem old_at {l : Li} {k : Nat} {a c h : Int} {i : Nat} (hk : k < l.ls.length) (hi : i < l.ls.length) : (oldL l k a c h).ls[i]? = some (if i = k then oldX (ldN l k) a c else ldN l i) := by
  show (l.ls.set k _)[i]? = _
  rw [List.getElem?_set]
  by_cases e : k = i
  · subst e
    rw [if_pos rfl,if_pos hk,if_pos rfl]
  · rw [if_neg e,if_neg fun h => e h.symm]
    obtain ⟨x,hx⟩ := at_ix hi
    rw [hx,ldN,getD_of hx]
theorem old_ok {l : Li} (g : Good l) (hs : ∀ x ∈ l.ls,x.ah ≤ 400 ∧ x.ch ≤ 400) (hh : l.hi ≤ 1000) {k : Nat} (hk : k < l.ls.length) {a c h : Int} (ha : 0 ≤ a ∧ a ≤ 255) (hc : 0 ≤ c ∧ c ≤ 255) (h0 : 0 ≤ h ∧ h ≤ 255) : checkL (oldL l k a c h) = 0 ∧ minW l ≤ minW (oldL l k a c h) := by
  have hn : (oldL l k a c h).ls.length = l.ls.length := List.length_set ..
  have ck : checkL (oldL l k a c h) = 0 := by
    refine check_of g.kinds (by rw [hn]; exact g.few) (fun i x hx => ?_) (by rw [hn]; exact g.trk) ?_
    · have hi : i < l.ls.length := by have := lt_of hx; omega
      rw [old_at hk hi] at hx
      obtain rfl := Option.some.inj hx
      obtain ⟨y,kd,h1,h2,h3,h4,h5,h6,h7,h8⟩ := g.ldn hi
      have hy := hs y (List.mem_of_getElem? h1)
      split
      · rename_i e
        subst e
        rw [h2]
        unfold oldX
        dsimp only
        exact ⟨h3,by omega,by omega⟩
      · rw [h2]
        exact ⟨h3,h7,h8⟩
    · have st := inSF.1 g.start
      show 0 ≤ l.lo ∧ l.lo ≤ l.hi + h ∧ l.hi + h ≤ 100000
      omega
  refine ⟨ck,emb_min (f := some) ⟨?_,?_,?_,?_,rfl,?_,?_⟩ g (good_of ck)⟩
  · rintro j m hj hf
    obtain rfl := Option.some.inj hf
    omega
  · rintro j i m _ _ h1 h2
    rw [Option.some.inj h1,Option.some.inj h2]
  · exact fun m hm => ⟨m,by omega,rfl⟩
  · rintro j m hj hf
    obtain rfl := Option.some.inj hf
    rw [hn] at hj
    have := old_at (a := a) (c := c) (h := h) hk hj
    rw [show ldN (oldL l k a c h) j = _ from getD_of this]
    split
    · rename_i e
      subst e
      unfold oldX
      dsimp only
      exact ⟨rfl,by omega,by omega⟩
    · exact ⟨rfl,by omega,by omega⟩
  · show l.hi ≤ l.hi + h
    omega
  · rintro j m i p _ _ h1 h2 h3
    obtain rfl := Option.some.inj h1
    obtain rfl := Option.some.inj h2
    exact h3
def freT (n : Nat) : Nat → List (List Int)
  | 0 => []
  | j + 1 => freT n j ++ [[(n : Int) - 1 - (j : Int)]]
def freL (l : Li) : Li := { l with ts := freT l.ls.length l.ls.length }
theorem fre_len (n : Nat) : ∀ j,(freT n j).length = j
  | 0 => rfl
  | j + 1 => by rw [freT,List.length_append,fre_len n j]; rfl
theorem fre_mem {n : Nat} {t : List Int} : ∀ {j : Nat},t ∈ freT n j ↔ ∃ i : Nat,i < j ∧ t = [(n : Int) - 1 - (i : Int)]
  | 0 => ⟨fun h => by simp [freT] at h,fun ⟨i,hi,_⟩ => by omega⟩
  | j + 1 => by
    rw [freT,List.mem_append,fre_mem,List.mem_singleton]
    constructor
    · rintro (⟨i,h1,h2⟩ | h)
      · exact ⟨i,by omega,h2⟩
      · exact ⟨j,by omega,h⟩
    · rintro ⟨i,h1,h2⟩
      by_cases e : i = j
      · subst e; exact .inr h2
      · exact .inl ⟨i,by omega,h2⟩
theorem fre_pw (n : Nat) : ∀ j,(freT n j).Pairwise fun s t => ∀ v ∈ s,v ∉ t
  | 0 => by simp [freT]
  | j + 1 => by
    rw [freT,List.pairwise_append]
    refine ⟨fre_pw n j,by simp,fun s hs t ht v hv hv' => ?_⟩
    obtain ⟨i,hi,rfl⟩ := fre_mem.1 hs
    rw [List.mem_singleton] at ht
    subst ht
    rw [List.mem_singleton] at hv hv'
    omega
theorem fre_ok {l : Li} (g : Good l) : checkL (freL l) = 0 ∧ minW (freL l) ≤ minW l := by
  have ck : checkL (freL l) = 0 := by
    refine check_of g.kinds g.few (fun i x hx => ?_) ?_ (inSF.1 g.start)
    · have hx : l.ls[i]? = some x := hx
      obtain ⟨y,kd,h1,h2,h3,h4,h5,h6,h7,h8⟩ := g.ldn (lt_of hx)
      rw [hx] at h1
      obtain rfl := Option.some.inj h1
      exact ⟨h3,h7,h8⟩
    · refine tracks_ok ?_ ?_ ?_ (fre_pw _ _) ?_
      · intro t ht
        obtain ⟨i,_,rfl⟩ := fre_mem.1 ht
        simp
      · intro t ht v hv
        obtain ⟨i,hi,rfl⟩ := fre_mem.1 ht
        rw [List.mem_singleton] at hv
        show 0 ≤ v ∧ v < (l.ls.length : Int)
        omega
      · intro t ht
        obtain ⟨i,_,rfl⟩ := fre_mem.1 ht
        simp
      · intro k hk
        have hk : k < l.ls.length := hk
        exact ⟨_,fre_mem.2 ⟨l.ls.length - 1 - k,by omega,rfl⟩,by rw [List.mem_singleton]; omega⟩
  have gf := good_of ck
  refine ⟨ck,emb_min (f := some) ⟨?_,?_,?_,?_,rfl,Int.le_refl _,?_⟩ gf g⟩
  · rintro j m hj hf
    obtain rfl := Option.some.inj hf
    exact hj
  · rintro j i m _ _ h1 h2
    rw [Option.some.inj h1,Option.some.inj h2]
  · exact fun m hm => ⟨m,hm,rfl⟩
  · rintro j m hj hf
    obtain rfl := Option.some.inj hf
    exact ⟨rfl,Int.le_refl _,Int.le_refl _⟩
  · rintro j m i p _ _ h1 h2 h3
    exfalso
    obtain ⟨t,ht,a,b,hab,ha,hb⟩ := (beh_iff gf _ _).1 h3
    obtain ⟨i,_,rfl⟩ := fre_mem.1 ht
    have := lt_of ha
    have : a < 1 := this
    omega
def dcI (v n : Int) : Int := if n > v then n - 1 else n
def dcN (v n : Nat) : Nat := if n > v then n - 1 else n
def xlN (ls : List Ld) (v : Nat) : Nat → List Ld
  | 0 => []
  | j + 1 => if j = v then xlN ls v j else xlN ls v j ++ [ls.getD j ⟨0,0,0,0,0⟩]
def xtN (ts : List (List Int)) (i : Nat) (v : Int) : Nat → List (List Int)
  | 0 => []
  | j + 1 => if j = i then xtN ts i v j else xtN ts i v j ++ [(ts.getD j []).map (dcI v)]
def outL (l : Li) (i v : Nat) : Li := { l with ls := xlN l.ls v l.ls.length,ts := xtN l.ts i (v : Int) l.ts.length }
theorem dc_cast (v n : Nat) : dcI (v : Int) (n : Int) = (dcN v n : Nat) := by
  unfold dcI dcN
  by_cases h : n > v
  · rw [if_pos h,if_pos (by omega)]; omega
  · rw [if_neg h,if_neg (by omega)]
theorem dc_inj {v a b : Int} (ha : a ≠ v) (hb : b ≠ v) (h : dcI v a = dcI v b) : a = b := by
  unfold dcI at h
  split at h <;> split at h <;> omega
theorem xl_len (ls : List Ld) (v : Nat) : ∀ J,(xlN ls v J).length = if v < J then J - 1 else J
  | 0 => by simp [xlN]
  | J + 1 => by
    rw [xlN]
    have ih := xl_len ls v J
    split
    · rename_i e
      subst e
      rw [ih,if_neg (by omega),if_pos (by omega)]; omega
    · rw [List.length_append,ih]
      show _ + 1 = _
      split <;> split <;> omega
theorem xl_at (ls : List Ld) (v : Nat) : ∀ J j,j < J → j ≠ v → (xlN ls v J)[dcN v j]? = some (ls.getD j ⟨0,0,0,0,0⟩)
  | 0,j,hj,_ => by omega
  | J + 1,j,hj,hv => by
    have hl := xl_len ls v J
    rw [xlN]
    by_cases e : J = v
    · rw [if_pos e]
      exact xl_at ls v J j (by omega) hv
    · rw [if_neg e]
      by_cases ej : j = J
      · subst ej
        have : dcN v j = (xlN ls v j).length := by
          rw [hl]; unfold dcN
          split <;> first | rfl | omega | (split <;> omega)
        rw [this,List.getElem?_append_right (Nat.le_refl _),Nat.sub_self]
        rfl
      · rw [List.getElem?_append_left]
        · exact xl_at ls v J j (by omega) hv
        · rw [hl]; unfold dcN
          split <;> first | omega | (split <;> omega)
theorem xt_mem {ts : List (List Int)} {i : Nat} {v : Int} {t : List Int} : ∀ {J : Nat},t ∈ xtN ts i v J ↔ ∃ j,j < J ∧ j ≠ i ∧ t = (ts.getD j []).map (dcI v)
  | 0 => ⟨fun h => by simp [xtN] at h,fun ⟨j,hj,_⟩ => by omega⟩
  | J + 1 => by
    rw [xtN]
    split
    · rename_i e
      rw [xt_mem]
      constructor
      · rintro ⟨j,h1,h2⟩
        exact ⟨j,by omega,h2⟩
      · rintro ⟨j,h1,h2,h3⟩
        exact ⟨j,by omega,h2,h3⟩
    · rename_i e
      rw [List.mem_append,xt_mem,List.mem_singleton]
      constructor
      · rintro (⟨j,h1,h2⟩ | h)
        · exact ⟨j,by omega,h2⟩
        · exact ⟨J,by omega,e,h⟩
      · rintro ⟨j,h1,h2,h3⟩
        by_cases e : j = J
        · subst e; exact .inr h3
        · exact .inl ⟨j,by omega,h2,h3⟩
theorem xt_len (ts : List (List Int)) (i : Nat) (v : Int) : ∀ J,(xtN ts i v J).length ≤ J
  | 0 => Nat.le_refl _
  | J + 1 => by
    have ih := xt_len ts i v J
    rw [xtN]
    split
    · omega
    · rw [List.length_append]
      show _ + 1 ≤ _
      omega
theorem xt_pw {ts : List (List Int)} {i : Nat} {v : Int} (hp : ts.Pairwise fun s t => ∀ v ∈ s,v ∉ t) (hv : ∀ j,j < ts.length → j ≠ i → ∀ u ∈ ts.getD j [],u ≠ v) : ∀ J,J ≤ ts.length → (xtN ts i v J).Pairwise fun s t => ∀ v ∈ s,v ∉ t
  | 0,_ => by simp [xtN]
  | J + 1,hJ => by
    have ih := xt_pw hp hv J (by omega)
    rw [xtN]
    split
    · exact ih
    · rename_i e
      rw [List.pairwise_append]
      refine ⟨ih,by simp,fun s hs t ht u hu hu' => ?_⟩
      obtain ⟨j,h1,h2,rfl⟩ := xt_mem.1 hs
      rw [List.mem_singleton] at ht
      subst ht
      obtain ⟨a,ha,ha'⟩ := List.mem_map.1 hu
      obtain ⟨b,hb,hb'⟩ := List.mem_map.1 hu'
      have hab := dc_inj (hv j (by omega) h2 a ha) (hv J (by omega) e b hb) (by rw [ha',hb'])
      subst hab
      obtain ⟨s,hs'⟩ := at_ix (l := ts) (i := j) (by omega)
      obtain ⟨t,ht'⟩ := at_ix (l := ts) (i := J) (by omega)
      have := List.pairwise_iff_getElem.1 hp j J (by omega) (by omega) h1
      rw [(List.getElem?_eq_some_iff.1 hs').2,(List.getElem?_eq_some_iff.1 ht').2] at this
      rw [getD_of hs'] at ha
      rw [getD_of ht'] at hb
      exact this a ha hb
section
variable {l : Li} (g : Good l) {i v : Nat} (hi : l.ts[i]? = some [(v : Int)])
include g hi
theorem out_v : v < l.ls.length := by
  have := g.tbd _ (List.mem_of_getElem? hi) (v : Int) (by simp)
  omega
theorem out_ne : ∀ j,j < l.ts.length → j ≠ i → ∀ u ∈ l.ts.getD j [],u ≠ (v : Int) := by
  intro j hj hji u hu hv
  subst hv
  obtain ⟨t,ht⟩ := at_ix hj
  rw [getD_of ht] at hu
  have hil := lt_of hi
  rcases Nat.lt_or_gt_of_ne hji with h | h
  · have := List.pairwise_iff_getElem.1 g.tpw j i hj hil h
    rw [(List.getElem?_eq_some_iff.1 ht).2,(List.getElem?_eq_some_iff.1 hi).2] at this
    exact this _ hu (by simp)
  · have := List.pairwise_iff_getElem.1 g.tpw i j hil hj h
    rw [(List.getElem?_eq_some_iff.1 ht).2,(List.getElem?_eq_some_iff.1 hi).2] at this
    exact this _ (by simp) hu
theorem out_len : (outL l i v).ls.length = l.ls.length - 1 := by
  have := out_v g hi
  show (xlN l.ls v l.ls.length).length = _
  rw [xl_len,if_pos this]
theorem out_ld {j : Nat} (hj : j < l.ls.length) (hjv : j ≠ v) : (outL l i v).ls[dcN v j]? = some (ldN l j) := xl_at l.ls v _ j hj hjv
theorem out_on {m : Nat} (hm : m < l.ls.length - 1) : ∃ j,j < l.ls.length ∧ j ≠ v ∧ dcN v j = m := by
  have := out_v g hi
  unfold dcN
  by_cases h : m < v
  · exact ⟨m,by omega,by omega,by rw [if_neg (by omega)]⟩
  · exact ⟨m + 1,by omega,by omega,by rw [if_pos (by omega)]; omega⟩
theorem out_ok : checkL (outL l i v) = 0 := by
  have hvn := out_v g hi
  have hln := out_len g hi
  have hne := out_ne g hi
  have nn := g.few
  refine check_of g.kinds (by omega) (fun m x hx => ?_) ?_ (inSF.1 g.start)
  · have hm := lt_of hx
    obtain ⟨j,h1,h2,h3⟩ := out_on g hi (m := m) (by omega)
    have := out_ld g hi h1 h2
    rw [h3,hx] at this
    obtain rfl := Option.some.inj this
    obtain ⟨y,kd,h1,h2,h3,h4,h5,h6,h7,h8⟩ := g.ldn h1
    rw [h2]
    exact ⟨h3,h7,h8⟩
  · rw [hln]
    refine tracks_ok ?_ ?_ ?_ (xt_pw g.tpw hne _ (Nat.le_refl _)) ?_
    · intro t ht hz
      obtain ⟨j,h1,h2,rfl⟩ := xt_mem.1 ht
      have := g.tne _ (ix_mem (d := []) h1)
      rw [List.map_eq_nil_iff] at hz
      exact this hz
    · intro t ht u hu
      obtain ⟨j,h1,h2,rfl⟩ := xt_mem.1 ht
      obtain ⟨a,ha,rfl⟩ := List.mem_map.1 hu
      have h4 := hne j h1 h2 a ha
      have h5 := g.tbd _ (ix_mem (d := []) h1) a ha
      unfold dcI
      split <;> omega
    · intro t ht
      obtain ⟨j,h1,h2,rfl⟩ := xt_mem.1 ht
      have h3 := g.tnd _ (ix_mem (d := []) h1)
      have h4 := hne j h1 h2
      rw [List.Nodup,List.pairwise_map]
      exact List.Pairwise.imp_of_mem (fun ha hb hab he => hab (dc_inj (h4 _ ha) (h4 _ hb) he)) h3
    · intro k hk
      obtain ⟨j,h1,h2,h3⟩ := out_on g hi hk
      obtain ⟨t,ht,hj⟩ := g.tal j h1
      obtain ⟨p,hp⟩ := List.getElem?_of_mem ht
      have hpi : p ≠ i := by
        rintro rfl
        rw [hi] at hp
        obtain rfl := Option.some.inj hp
        rw [List.mem_singleton] at hj
        omega
      refine ⟨_,xt_mem.2 ⟨p,lt_of hp,hpi,rfl⟩,?_⟩
      rw [getD_of hp]
      exact List.mem_map.2 ⟨(j : Int),hj,by rw [dc_cast,h3]⟩
theorem out_min : minW (outL l i v) ≤ minW l := by
  have hvn := out_v g hi
  have hln := out_len g hi
  have hne := out_ne g hi
  have gx := good_of (out_ok g hi)
  refine emb_min (f := fun k => if k = v then none else some (dcN v k)) ⟨?_,?_,?_,?_,rfl,Int.le_refl _,?_⟩ gx g
  · intro k m hk hf
    try dsimp only at hf
    split at hf
    · simp at hf
    · obtain rfl := Option.some.inj hf
      rw [hln]
      unfold dcN
      split <;> omega
  · intro j k m hj hk h1 h2
    try dsimp only at h1 h2
    split at h1
    · simp at h1
    split at h2
    · simp at h2
    obtain rfl := Option.some.inj h1
    have := Option.some.inj h2
    unfold dcN at this
    split at this <;> split at this <;> omega
  · intro m hm
    obtain ⟨j,h1,h2,h3⟩ := out_on g hi (m := m) (by omega)
    exact ⟨j,h1,by rw [if_neg h2,h3]⟩
  · intro k m hk hf
    try dsimp only at hf
    split at hf
    · simp at hf
    rename_i e
    obtain rfl := Option.some.inj hf
    rw [show ldN (outL l i v) (dcN v k) = _ from getD_of (out_ld g hi hk e)]
    exact ⟨rfl,Int.le_refl _,Int.le_refl _⟩
  · intro k m j p hk hj h1 h2 h3
    try dsimp only at h1 h2
    split at h1
    · simp at h1
    split at h2
    · simp at h2
    rename_i e1 e2
    obtain rfl := Option.some.inj h1
    obtain rfl := Option.some.inj h2
    obtain ⟨t,ht,a,b,hab,ha,hb⟩ := (beh_iff gx _ _).1 h3
    obtain ⟨w,h4,h5,rfl⟩ := xt_mem.1 ht
    rw [List.getElem?_map] at ha hb
    obtain ⟨y,hy,hy'⟩ := Option.map_eq_some_iff.1 ha
    obtain ⟨z,hz,hz'⟩ := Option.map_eq_some_iff.1 hb
    rw [← dc_cast] at hy' hz'
    have n1 := hne w h4 h5 y (List.mem_of_getElem? hy)
    have n2 := hne w h4 h5 z (List.mem_of_getElem? hz)
    obtain rfl := dc_inj n1 (by omega) hy'
    obtain rfl := dc_inj n2 (by omega) hz'
    exact (beh_iff g _ _).2 ⟨_,ix_mem (d := []) h4,a,b,hab,hy,hz⟩
end
end Go.Proofs.YtpbeclkpohehgaaDoor
namespace Go.Proofs.YtpbeclkpohehgaaDoor
open Go Go.DL
set_option maxRecDepth 100000
set_option maxHeartbeats 4000000
theorem md_short (q : Qu) : (mdL q).ts.length ≤ 3 ∧ ∀ t ∈ (mdL q).ts,t.length ≤ 5 := by
  have hm : fewL q ≤ 5 := by unfold fewL; omega
  refine ⟨?_,fun t ht => ?_⟩
  · show (nzT (trN q (fewL q) 0) (trN q (fewL q) 1) (trN q (fewL q) 2)).length ≤ 3
    unfold nzT
    exact Nat.le_trans (List.length_filter_le _ _) (by simp)
  · have h := tr_len q (fewL q)
    rcases (nz_mem.1 ht).1 with rfl | rfl | rfl
    · have := h 0; omega
    · have := h 1; omega
    · have := h 2; omega
section
variable {l : Li}
abbrev xA (l : Li) : XH := [some (.blk true (.cells true l.c)),some (.blk true (.cells true [kR l.ks,.nilsl,.nilsl,I l.lo,I l.hi]))]
abbrev xB (l : Li) (p : Nat) (cc : List AV) : XH := [some (.blk true (.cells true l.c)),some (.blk false (.cells true [kR l.ks,.sl 2 0 5 p,.nilsl,I l.lo,I l.hi])),some (.blk true (.cells true cc))]
abbrev xC (l : Li) (p : Nat) (cc : List AV) (r : Nat) (tc : List AV) : XH := [some (.blk true (.cells true l.c)),some (.blk false (.cells true [kR l.ks,.sl 2 0 5 p,.sl 3 0 1 r,I l.lo,I l.hi])),some (.blk true (.cells true cc)),some (.blk true (.cells true tc))]
def gX1 (l : Li) (v m : Nat) : XH := if xlN l.ls v m = [] then xA l else xB l (xlN l.ls v m).length (cL (xlN l.ls v m))
theorem round12b {a : Int} {i v m : Nat} {t : List Int} (h0 : t[0]? = some (v : Int)) (hn : l.ls.length ≤ 10) (hm : m < l.ls.length) :
    headX 0 [7,13,21,22,23,150,151,152,166,167,168] (execW progX 12 0 none (match x12l1 with | .loop _ a => a | c => c) (envL [7,13,21,22,23,150,151,152,166,167,168] [.pt 0 0,I a,I (i : Nat),rI t,.pt 1 0,tR l.ts,I l.ts.length,I (i : Nat),lR l.ls,I l.ls.length,I (m : Nat)]) (gX1 l v m)) =
      some ([.pt 0 0,I a,I (i : Nat),rI t,.pt 1 0,tR l.ts,I l.ts.length,I (i : Nat),lR l.ls,I l.ls.length,I (m + 1 : Nat)],gX1 l v (m + 1)) := by
  obtain ⟨x,hx⟩ := at_ix hm
  have a1 := lt_ix hm
  have a2 := up_ix hm (by omega)
  have b0 : ((0 : Int) < (t.length : Int)) = True := eq_true (by have := lt_of h0; omega)
  unfold gX1
  by_cases hmv : m = v
  · have e : xlN l.ls v (m + 1) = xlN l.ls v m := by rw [xlN,if_pos hmv]
    have c : ((m : Int) = (v : Int)) = True := eq_true (by omega)
    rw [e]
    generalize xlN l.ls v m = xs at *
    unfold x12l1
    dsimp only
    by_cases hxs : xs = []
    · rw [if_pos hxs]
      (sym => (simp [cO_gr,cO_nm,cO_sl,cO_len,Za,Zb,Zc,Zd,Ze,Zf,Zg,Zh,Zj,Zl,Zm,Zn,Zt,Zu,Zz,Z1,Z4,Z6,ZD,ZH,ZI,ZP,ZW,Yc,Ye,Yg,Yn,Yo,Yr,Ys,Yy,YN,YR,YT,YU,YX,Xb,Xc,Xe,Xl,Xp,Xq,Xr,Xt,Wk,Wm,Wv,Ww,Wx,Wy,Wz,W0,W3,W4,W6,W7,W8,WA,WB,WE,WF,WG,WI,WK,WL,WM,WN,WS,WT,WU,WY,WZ,Vo,Vq,Vr,Vt,Vu,Vw,VI,VJ,VK,VL,VM,VN,VR,VS,VT,VU,VV,VX,VY,VZ,Ua,Ub,Uc,Uf,Uh,Ui,Uj,Un,Us,Ut,Uu,Uv,Uw,Uy,Uz,U0,U1,U2,U3,UA,UB,UC,UD,UI,UJ,UK,UL,UO,UP,UQ,UR,US,UT,UV,UW,UX,UY,UZ,Ta,Tb,Tc,Tf,Tg,Th,Ti,Tk,Tl,Tm,Tp,Tr,Ts,Tv,Ty,Tz,T3,T8,TB,S3,S4,S5,a1,a2,hx,h0,b0,c]; all_goals tactic => exact rfl))
    · rw [if_neg hxs]
      generalize cL xs = cc at *
      (sym => (simp [cO_gr,cO_nm,cO_sl,cO_len,Za,Zb,Zc,Zd,Ze,Zf,Zg,Zh,Zj,Zl,Zm,Zn,Zt,Zu,Zz,Z1,Z4,Z6,ZD,ZH,ZI,ZP,ZW,Yc,Ye,Yg,Yn,Yo,Yr,Ys,Yy,YN,YR,YT,YU,YX,Xb,Xc,Xe,Xl,Xp,Xq,Xr,Xt,Wk,Wm,Wv,Ww,Wx,Wy,Wz,W0,W3,W4,W6,W7,W8,WA,WB,WE,WF,WG,WI,WK,WL,WM,WN,WS,WT,WU,WY,WZ,Vo,Vq,Vr,Vt,Vu,Vw,VI,VJ,VK,VL,VM,VN,VR,VS,VT,VU,VV,VX,VY,VZ,Ua,Ub,Uc,Uf,Uh,Ui,Uj,Un,Us,Ut,Uu,Uv,Uw,Uy,Uz,U0,U1,U2,U3,UA,UB,UC,UD,UI,UJ,UK,UL,UO,UP,UQ,UR,US,UT,UV,UW,UX,UY,UZ,Ta,Tb,Tc,Tf,Tg,Th,Ti,Tk,Tl,Tm,Tp,Tr,Ts,Tv,Ty,Tz,T3,T8,TB,S3,S4,S5,a1,a2,hx,h0,b0,c]; all_goals tactic => exact rfl))
  · have e : xlN l.ls v (m + 1) = xlN l.ls v m ++ [x] := by rw [xlN,if_neg hmv,getD_of hx]
    have c : ((m : Int) = (v : Int)) = False := eq_false (by omega)
    have hl := xl_len l.ls v m
    have hl2 : (xlN l.ls v m).length ≤ 10 := by rw [hl]; split <;> omega
    clear hl
    rw [e,if_neg (by simp : ¬ xlN l.ls v m ++ [x] = []),cL_app]
    generalize xlN l.ls v m = xs at *
    have cl := cL_len xs
    have q1 : ((xs.length + 1) * 40 ≤ 1099511627776) = True := eq_true (by omega)
    have q2 : (xs.length + 1 ≤ 1099511627776) = True := eq_true (by omega)
    have la : (xs ++ [x]).length = xs.length + 1 := by simp
    rw [la]
    unfold x12l1
    dsimp only
    by_cases hxs : xs = []
    · rw [if_pos hxs]
      subst hxs
      have cz : cL [] = [] := rfl
      (sym => (simp [cO_gr,cO_nm,cO_sl,cO_len,Za,Zb,Zc,Zd,Ze,Zf,Zg,Zh,Zj,Zl,Zm,Zn,Zt,Zu,Zz,Z1,Z4,Z6,ZD,ZH,ZI,ZP,ZW,Yc,Ye,Yg,Yn,Yo,Yr,Ys,Yy,YN,YR,YT,YU,YX,Xb,Xc,Xe,Xl,Xp,Xq,Xr,Xt,Wk,Wm,Wv,Ww,Wx,Wy,Wz,W0,W3,W4,W6,W7,W8,WA,WB,WE,WF,WG,WI,WK,WL,WM,WN,WS,WT,WU,WY,WZ,Vo,Vq,Vr,Vt,Vu,Vw,VI,VJ,VK,VL,VM,VN,VR,VS,VT,VU,VV,VX,VY,VZ,Ua,Ub,Uc,Uf,Uh,Ui,Uj,Un,Us,Ut,Uu,Uv,Uw,Uy,Uz,U0,U1,U2,U3,UA,UB,UC,UD,UI,UJ,UK,UL,UO,UP,UQ,UR,US,UT,UV,UW,UX,UY,UZ,Ta,Tb,Tc,Tf,Tg,Th,Ti,Tk,Tl,Tm,Tp,Tr,Ts,Tv,Ty,Tz,T3,T8,TB,S3,S4,S5,a1,a2,hx,h0,b0,c,cz]; all_goals tactic => exact rfl))
    · rw [if_neg hxs]
      generalize cL xs = cc at *
      generalize xs.length = p at *
      (sym => (simp [cO_gr,cO_nm,cO_sl,cO_len,Za,Zb,Zc,Zd,Ze,Zf,Zg,Zh,Zj,Zl,Zm,Zn,Zt,Zu,Zz,Z1,Z4,Z6,ZD,ZH,ZI,ZP,ZW,Yc,Ye,Yg,Yn,Yo,Yr,Ys,Yy,YN,YR,YT,YU,YX,Xb,Xc,Xe,Xl,Xp,Xq,Xr,Xt,Wk,Wm,Wv,Ww,Wx,Wy,Wz,W0,W3,W4,W6,W7,W8,WA,WB,WE,WF,WG,WI,WK,WL,WM,WN,WS,WT,WU,WY,WZ,Vo,Vq,Vr,Vt,Vu,Vw,VI,VJ,VK,VL,VM,VN,VR,VS,VT,VU,VV,VX,VY,VZ,Ua,Ub,Uc,Uf,Uh,Ui,Uj,Un,Us,Ut,Uu,Uv,Uw,Uy,Uz,U0,U1,U2,U3,UA,UB,UC,UD,UI,UJ,UK,UL,UO,UP,UQ,UR,US,UT,UV,UW,UX,UY,UZ,Ta,Tb,Tc,Tf,Tg,Th,Ti,Tk,Tl,Tm,Tp,Tr,Ts,Tv,Ty,Tz,T3,T8,TB,S3,S4,S5,a1,a2,hx,h0,b0,c,cl,q1,q2]; all_goals tactic => exact rfl))
theorem round12c {H : XH} {b : Nat} (hH : (H = xA l ∧ b = 2) ∨ (∃ p cc,H = xB l p cc ∧ b = 3) ∨ (∃ p cc r tc,H = xC l p cc r tc ∧ b = 4)) {a v y : Int} {i j m : Nat} {t u os : List Int} (h0 : t[0]? = some v) (hy : u[m]? = some y) (hu : u.length ≤ 10) (ho : os.length ≤ 10) (hyb : 0 ≤ y ∧ y ≤ 1000) :
    headX 0 [7,13,21,22,23,26,28,150,151,152,186,187,188,193,194,195] (execW progX 12 0 none (match x12l2 with | .loop _ a => a | c => c) (envL [7,13,21,22,23,26,28,150,151,152,186,187,188,193,194,195] [.pt 0 0,I a,I (i : Nat),rI t,.pt 1 0,I (j : Nat),oS b os,tR l.ts,I l.ts.length,I (i : Nat),tR l.ts,I l.ts.length,I (j : Nat),rI u,I u.length,I (m : Nat)]) (H ++ oG os)) =
      some ([.pt 0 0,I a,I (i : Nat),rI t,.pt 1 0,I (j : Nat),oS b (os ++ [dcI v y]),tR l.ts,I l.ts.length,I (i : Nat),tR l.ts,I l.ts.length,I (j : Nat),rI u,I u.length,I (m + 1 : Nat)],H ++ oG (os ++ [dcI v y])) := by
  have a1 := lt_ix (lt_of hy)
  have a2 := up_ix (lt_of hy) (by omega)
  have b0 : ((0 : Int) < (t.length : Int)) = True := eq_true (by have := lt_of h0; omega)
  have q1 : ((os.length + 1) * 8 ≤ 1099511627776) = True := eq_true (by omega)
  have q2 : (os.length + 1 ≤ 1099511627776) = True := eq_true (by omega)
  have q3 : IntKind.i64.wrap (y - 1) = y - 1 := wrap_ok (by omega) (by omega)
  have hd : dcI v y = if y > v then y - 1 else y := rfl
  generalize hz : dcI v y = z at *
  unfold x12l2
  dsimp only
  by_cases hc : y > v
  · have c := eq_true hc
    rw [if_pos hc] at hd
    have q3 : IntKind.i64.wrap (y - 1) = z := by rw [q3,hd]
    by_cases hos : os = []
    · subst hos
      simp only [TK,TM,TL,TN,List.nil_append,List.length_nil,List.append_nil]
      rcases hH with ⟨rfl,rfl⟩ | ⟨p,cc,rfl,rfl⟩ | ⟨p,cc,r,tc,rfl,rfl⟩
      · (sym => (simp [cO_gr,cO_nm,cO_sl,cO_len,Za,Zb,Zd,Ze,Zf,Zh,Zl,Zm,Zn,Zt,Zz,Z1,Z6,ZD,ZP,Yc,Ye,Yg,Yh,Yo,Yq,Yr,Ys,Yy,YN,YR,YT,YU,YX,Xb,Xl,Xp,Xq,Xr,Xt,Wj,Wv,Ww,Wx,Wy,Wz,W0,W3,W4,W6,W7,W8,WA,WB,WE,WF,WG,WI,WK,WL,WM,WN,WS,WT,WU,WY,WZ,VI,VJ,VK,VL,VM,VN,VR,VS,VT,VU,VV,VX,VY,VZ,Ua,Ub,Uc,Uf,Un,Us,Ut,Uu,Uv,Uw,Uy,Uz,U0,U1,U2,U3,UA,UB,UC,UD,UI,UJ,UK,UL,UO,UP,UQ,UR,US,UT,UX,UY,Ta,Tf,Tg,Th,Ti,Tk,Tl,Tm,Tp,Tr,Ts,Tv,Ty,Tz,T3,T4,T5,T6,T8,TB,a1,a2,hy,h0,b0,c,q3]; all_goals tactic => exact rfl))
      · (sym => (simp [cO_gr,cO_nm,cO_sl,cO_len,Za,Zb,Zd,Ze,Zf,Zh,Zl,Zm,Zn,Zt,Zz,Z1,Z6,ZD,ZP,Yc,Ye,Yg,Yh,Yo,Yq,Yr,Ys,Yy,YN,YR,YT,YU,YX,Xb,Xl,Xp,Xq,Xr,Xt,Wj,Wv,Ww,Wx,Wy,Wz,W0,W3,W4,W6,W7,W8,WA,WB,WE,WF,WG,WI,WK,WL,WM,WN,WS,WT,WU,WY,WZ,VI,VJ,VK,VL,VM,VN,VR,VS,VT,VU,VV,VX,VY,VZ,Ua,Ub,Uc,Uf,Un,Us,Ut,Uu,Uv,Uw,Uy,Uz,U0,U1,U2,U3,UA,UB,UC,UD,UI,UJ,UK,UL,UO,UP,UQ,UR,US,UT,UX,UY,Ta,Tf,Tg,Th,Ti,Tk,Tl,Tm,Tp,Tr,Ts,Tv,Ty,Tz,T3,T4,T5,T6,T8,TB,a1,a2,hy,h0,b0,c,q3]; all_goals tactic => exact rfl))
      · (sym => (simp [cO_gr,cO_nm,cO_sl,cO_len,Za,Zb,Zd,Ze,Zf,Zh,Zl,Zm,Zn,Zt,Zz,Z1,Z6,ZD,ZP,Yc,Ye,Yg,Yh,Yo,Yq,Yr,Ys,Yy,YN,YR,YT,YU,YX,Xb,Xl,Xp,Xq,Xr,Xt,Wj,Wv,Ww,Wx,Wy,Wz,W0,W3,W4,W6,W7,W8,WA,WB,WE,WF,WG,WI,WK,WL,WM,WN,WS,WT,WU,WY,WZ,VI,VJ,VK,VL,VM,VN,VR,VS,VT,VU,VV,VX,VY,VZ,Ua,Ub,Uc,Uf,Un,Us,Ut,Uu,Uv,Uw,Uy,Uz,U0,U1,U2,U3,UA,UB,UC,UD,UI,UJ,UK,UL,UO,UP,UQ,UR,US,UT,UX,UY,Ta,Tf,Tg,Th,Ti,Tk,Tl,Tm,Tp,Tr,Ts,Tv,Ty,Tz,T3,T4,T5,T6,T8,TB,a1,a2,hy,h0,b0,c,q3]; all_goals tactic => exact rfl))
    · rw [oS_ne hos,oG_ne hos,oS_ne (show os ++ [z] ≠ [] by simp),oG_ne (show os ++ [z] ≠ [] by simp)]
      rcases hH with ⟨rfl,rfl⟩ | ⟨p,cc,rfl,rfl⟩ | ⟨p,cc,r,tc,rfl,rfl⟩
      · (sym => (simp [cO_gr,cO_nm,cO_sl,cO_len,Za,Zb,Zd,Ze,Zf,Zh,Zl,Zm,Zn,Zt,Zz,Z1,Z6,ZD,ZP,Yc,Ye,Yg,Yh,Yo,Yq,Yr,Ys,Yy,YN,YR,YT,YU,YX,Xb,Xl,Xp,Xq,Xr,Xt,Wj,Wv,Ww,Wx,Wy,Wz,W0,W3,W4,W6,W7,W8,WA,WB,WE,WF,WG,WI,WK,WL,WM,WN,WS,WT,WU,WY,WZ,VI,VJ,VK,VL,VM,VN,VR,VS,VT,VU,VV,VX,VY,VZ,Ua,Ub,Uc,Uf,Un,Us,Ut,Uu,Uv,Uw,Uy,Uz,U0,U1,U2,U3,UA,UB,UC,UD,UI,UJ,UK,UL,UO,UP,UQ,UR,US,UT,UX,UY,Ta,Tf,Tg,Th,Ti,Tk,Tl,Tm,Tp,Tr,Ts,Tv,Ty,Tz,T3,T4,T5,T6,T8,TB,a1,a2,hy,h0,b0,c,q1,q2,q3]; all_goals tactic => exact rfl))
      · (sym => (simp [cO_gr,cO_nm,cO_sl,cO_len,Za,Zb,Zd,Ze,Zf,Zh,Zl,Zm,Zn,Zt,Zz,Z1,Z6,ZD,ZP,Yc,Ye,Yg,Yh,Yo,Yq,Yr,Ys,Yy,YN,YR,YT,YU,YX,Xb,Xl,Xp,Xq,Xr,Xt,Wj,Wv,Ww,Wx,Wy,Wz,W0,W3,W4,W6,W7,W8,WA,WB,WE,WF,WG,WI,WK,WL,WM,WN,WS,WT,WU,WY,WZ,VI,VJ,VK,VL,VM,VN,VR,VS,VT,VU,VV,VX,VY,VZ,Ua,Ub,Uc,Uf,Un,Us,Ut,Uu,Uv,Uw,Uy,Uz,U0,U1,U2,U3,UA,UB,UC,UD,UI,UJ,UK,UL,UO,UP,UQ,UR,US,UT,UX,UY,Ta,Tf,Tg,Th,Ti,Tk,Tl,Tm,Tp,Tr,Ts,Tv,Ty,Tz,T3,T4,T5,T6,T8,TB,a1,a2,hy,h0,b0,c,q1,q2,q3]; all_goals tactic => exact rfl))
      · (sym => (simp [cO_gr,cO_nm,cO_sl,cO_len,Za,Zb,Zd,Ze,Zf,Zh,Zl,Zm,Zn,Zt,Zz,Z1,Z6,ZD,ZP,Yc,Ye,Yg,Yh,Yo,Yq,Yr,Ys,Yy,YN,YR,YT,YU,YX,Xb,Xl,Xp,Xq,Xr,Xt,Wj,Wv,Ww,Wx,Wy,Wz,W0,W3,W4,W6,W7,W8,WA,WB,WE,WF,WG,WI,WK,WL,WM,WN,WS,WT,WU,WY,WZ,VI,VJ,VK,VL,VM,VN,VR,VS,VT,VU,VV,VX,VY,VZ,Ua,Ub,Uc,Uf,Un,Us,Ut,Uu,Uv,Uw,Uy,Uz,U0,U1,U2,U3,UA,UB,UC,UD,UI,UJ,UK,UL,UO,UP,UQ,UR,US,UT,UX,UY,Ta,Tf,Tg,Th,Ti,Tk,Tl,Tm,Tp,Tr,Ts,Tv,Ty,Tz,T3,T4,T5,T6,T8,TB,a1,a2,hy,h0,b0,c,q1,q2,q3]; all_goals tactic => exact rfl))
  · have c := eq_false hc
    rw [if_neg hc] at hd
    subst hd
    by_cases hos : os = []
    · subst hos
      simp only [TK,TM,TL,TN,List.nil_append,List.length_nil,List.append_nil]
      rcases hH with ⟨rfl,rfl⟩ | ⟨p,cc,rfl,rfl⟩ | ⟨p,cc,r,tc,rfl,rfl⟩
      · (sym => (simp [cO_gr,cO_nm,cO_sl,cO_len,Za,Zb,Zd,Ze,Zf,Zh,Zl,Zm,Zn,Zt,Zz,Z1,Z6,ZD,ZP,Yc,Ye,Yg,Yh,Yo,Yq,Yr,Ys,Yy,YN,YR,YT,YU,YX,Xb,Xl,Xp,Xq,Xr,Xt,Wj,Wv,Ww,Wx,Wy,Wz,W0,W3,W4,W6,W7,W8,WA,WB,WE,WF,WG,WI,WK,WL,WM,WN,WS,WT,WU,WY,WZ,VI,VJ,VK,VL,VM,VN,VR,VS,VT,VU,VV,VX,VY,VZ,Ua,Ub,Uc,Uf,Un,Us,Ut,Uu,Uv,Uw,Uy,Uz,U0,U1,U2,U3,UA,UB,UC,UD,UI,UJ,UK,UL,UO,UP,UQ,UR,US,UT,UX,UY,Ta,Tf,Tg,Th,Ti,Tk,Tl,Tm,Tp,Tr,Ts,Tv,Ty,Tz,T3,T4,T5,T6,T8,TB,a1,a2,hy,h0,b0,c]; all_goals tactic => exact rfl))
      · (sym => (simp [cO_gr,cO_nm,cO_sl,cO_len,Za,Zb,Zd,Ze,Zf,Zh,Zl,Zm,Zn,Zt,Zz,Z1,Z6,ZD,ZP,Yc,Ye,Yg,Yh,Yo,Yq,Yr,Ys,Yy,YN,YR,YT,YU,YX,Xb,Xl,Xp,Xq,Xr,Xt,Wj,Wv,Ww,Wx,Wy,Wz,W0,W3,W4,W6,W7,W8,WA,WB,WE,WF,WG,WI,WK,WL,WM,WN,WS,WT,WU,WY,WZ,VI,VJ,VK,VL,VM,VN,VR,VS,VT,VU,VV,VX,VY,VZ,Ua,Ub,Uc,Uf,Un,Us,Ut,Uu,Uv,Uw,Uy,Uz,U0,U1,U2,U3,UA,UB,UC,UD,UI,UJ,UK,UL,UO,UP,UQ,UR,US,UT,UX,UY,Ta,Tf,Tg,Th,Ti,Tk,Tl,Tm,Tp,Tr,Ts,Tv,Ty,Tz,T3,T4,T5,T6,T8,TB,a1,a2,hy,h0,b0,c]; all_goals tactic => exact rfl))
      · (sym => (simp [cO_gr,cO_nm,cO_sl,cO_len,Za,Zb,Zd,Ze,Zf,Zh,Zl,Zm,Zn,Zt,Zz,Z1,Z6,ZD,ZP,Yc,Ye,Yg,Yh,Yo,Yq,Yr,Ys,Yy,YN,YR,YT,YU,YX,Xb,Xl,Xp,Xq,Xr,Xt,Wj,Wv,Ww,Wx,Wy,Wz,W0,W3,W4,W6,W7,W8,WA,WB,WE,WF,WG,WI,WK,WL,WM,WN,WS,WT,WU,WY,WZ,VI,VJ,VK,VL,VM,VN,VR,VS,VT,VU,VV,VX,VY,VZ,Ua,Ub,Uc,Uf,Un,Us,Ut,Uu,Uv,Uw,Uy,Uz,U0,U1,U2,U3,UA,UB,UC,UD,UI,UJ,UK,UL,UO,UP,UQ,UR,US,UT,UX,UY,Ta,Tf,Tg,Th,Ti,Tk,Tl,Tm,Tp,Tr,Ts,Tv,Ty,Tz,T3,T4,T5,T6,T8,TB,a1,a2,hy,h0,b0,c]; all_goals tactic => exact rfl))
    · rw [oS_ne hos,oG_ne hos,oS_ne (show os ++ [z] ≠ [] by simp),oG_ne (show os ++ [z] ≠ [] by simp)]
      rcases hH with ⟨rfl,rfl⟩ | ⟨p,cc,rfl,rfl⟩ | ⟨p,cc,r,tc,rfl,rfl⟩
      · (sym => (simp [cO_gr,cO_nm,cO_sl,cO_len,Za,Zb,Zd,Ze,Zf,Zh,Zl,Zm,Zn,Zt,Zz,Z1,Z6,ZD,ZP,Yc,Ye,Yg,Yh,Yo,Yq,Yr,Ys,Yy,YN,YR,YT,YU,YX,Xb,Xl,Xp,Xq,Xr,Xt,Wj,Wv,Ww,Wx,Wy,Wz,W0,W3,W4,W6,W7,W8,WA,WB,WE,WF,WG,WI,WK,WL,WM,WN,WS,WT,WU,WY,WZ,VI,VJ,VK,VL,VM,VN,VR,VS,VT,VU,VV,VX,VY,VZ,Ua,Ub,Uc,Uf,Un,Us,Ut,Uu,Uv,Uw,Uy,Uz,U0,U1,U2,U3,UA,UB,UC,UD,UI,UJ,UK,UL,UO,UP,UQ,UR,US,UT,UX,UY,Ta,Tf,Tg,Th,Ti,Tk,Tl,Tm,Tp,Tr,Ts,Tv,Ty,Tz,T3,T4,T5,T6,T8,TB,a1,a2,hy,h0,b0,c,q1,q2]; all_goals tactic => exact rfl))
      · (sym => (simp [cO_gr,cO_nm,cO_sl,cO_len,Za,Zb,Zd,Ze,Zf,Zh,Zl,Zm,Zn,Zt,Zz,Z1,Z6,ZD,ZP,Yc,Ye,Yg,Yh,Yo,Yq,Yr,Ys,Yy,YN,YR,YT,YU,YX,Xb,Xl,Xp,Xq,Xr,Xt,Wj,Wv,Ww,Wx,Wy,Wz,W0,W3,W4,W6,W7,W8,WA,WB,WE,WF,WG,WI,WK,WL,WM,WN,WS,WT,WU,WY,WZ,VI,VJ,VK,VL,VM,VN,VR,VS,VT,VU,VV,VX,VY,VZ,Ua,Ub,Uc,Uf,Un,Us,Ut,Uu,Uv,Uw,Uy,Uz,U0,U1,U2,U3,UA,UB,UC,UD,UI,UJ,UK,UL,UO,UP,UQ,UR,US,UT,UX,UY,Ta,Tf,Tg,Th,Ti,Tk,Tl,Tm,Tp,Tr,Ts,Tv,Ty,Tz,T3,T4,T5,T6,T8,TB,a1,a2,hy,h0,b0,c,q1,q2]; all_goals tactic => exact rfl))
      · (sym => (simp [cO_gr,cO_nm,cO_sl,cO_len,Za,Zb,Zd,Ze,Zf,Zh,Zl,Zm,Zn,Zt,Zz,Z1,Z6,ZD,ZP,Yc,Ye,Yg,Yh,Yo,Yq,Yr,Ys,Yy,YN,YR,YT,YU,YX,Xb,Xl,Xp,Xq,Xr,Xt,Wj,Wv,Ww,Wx,Wy,Wz,W0,W3,W4,W6,W7,W8,WA,WB,WE,WF,WG,WI,WK,WL,WM,WN,WS,WT,WU,WY,WZ,VI,VJ,VK,VL,VM,VN,VR,VS,VT,VU,VV,VX,VY,VZ,Ua,Ub,Uc,Uf,Un,Us,Ut,Uu,Uv,Uw,Uy,Uz,U0,U1,U2,U3,UA,UB,UC,UD,UI,UJ,UK,UL,UO,UP,UQ,UR,US,UT,UX,UY,Ta,Tf,Tg,Th,Ti,Tk,Tl,Tm,Tp,Tr,Ts,Tv,Ty,Tz,T3,T4,T5,T6,T8,TB,a1,a2,hy,h0,b0,c,q1,q2]; all_goals tactic => exact rfl))
end
end Go.Proofs.YtpbeclkpohehgaaDoor
namespace Go.Proofs.YtpbeclkpohehgaaDoor
open Go Go.DL
set_option maxRecDepth 100000
set_option maxHeartbeats 4000000
section
variable {l : Li}
abbrev xlA (l : Li) (v : Nat) : List Ld := xlN l.ls v l.ls.length
def gX3 (l : Li) (i v j : Nat) : XH := if l.ls.length = 1 then xA l else if xtN l.ts i (v : Int) j = [] then xB l (xlA l v).length (cL (xlA l v)) else xC l (xlA l v).length (cL (xlA l v)) (xtN l.ts i (v : Int) j).length (cO (xtN l.ts i (v : Int) j))
theorem round12d (g : Good l) (h3 : l.ts.length ≤ 3) (h5 : ∀ t ∈ l.ts,t.length ≤ 5) {a : Int} {i v j : Nat} {t : List Int} (hi : l.ts[i]? = some t) (ht : t = [(v : Int)]) (hj : j < l.ts.length) :
    headX 0 [7,13,21,22,23,150,151,152,186,187,188] (execW progX 12 0 none (match x12l3 with | .loop _ a => a | c => c) (envL [7,13,21,22,23,150,151,152,186,187,188] [.pt 0 0,I a,I (i : Nat),rI t,.pt 1 0,tR l.ts,I l.ts.length,I (i : Nat),tR l.ts,I l.ts.length,I (j : Nat)]) (gX3 l i v j)) =
      some ([.pt 0 0,I a,I (i : Nat),rI t,.pt 1 0,tR l.ts,I l.ts.length,I (i : Nat),tR l.ts,I l.ts.length,I (j + 1 : Nat)],gX3 l i v (j + 1)) := by
  have hn := g.few
  have h0 : t[0]? = some (v : Int) := by rw [ht]; rfl
  have hi' := hi
  rw [ht] at hi'
  have hvn := out_v g hi'
  have hne := out_ne g hi' j hj
  obtain ⟨u,hu⟩ := at_ix hj
  have hut := List.mem_of_getElem? hu
  have hu5 := h5 u hut
  have hub := g.tbd u hut
  have hune := g.tne u hut
  rw [getD_of hu] at hne
  have a1 := lt_ix hj
  have a2 := up_ix hj (by omega)
  have z := UU (n := (u.length : Int))
  obtain ⟨F,hF⟩ : ∃ F : Nat → List Int,∀ m,F m = (u.take m).map (dcI v) := ⟨_,fun _ => rfl⟩
  have F0 : F 0 = [] := by rw [hF]; rfl
  have Fl : ∀ m,(F m).length ≤ 5 := fun m => by rw [hF,List.length_map,List.length_take]; omega
  have rd : ∀ (H : XH) (b : Nat),((H = xA l ∧ b = 2) ∨ (∃ p cc,H = xB l p cc ∧ b = 3) ∨ (∃ p cc r tc,H = xC l p cc r tc ∧ b = 4)) → ∀ m,m < u.length →
      headX 0 [7,13,21,22,23,26,28,150,151,152,186,187,188,193,194,195] (execW progX 12 0 none (match x12l2 with | .loop _ a => a | c => c) (envL [7,13,21,22,23,26,28,150,151,152,186,187,188,193,194,195] [.pt 0 0,I a,I (i : Nat),rI t,.pt 1 0,I (j : Nat),oS b (F m),tR l.ts,I l.ts.length,I (i : Nat),tR l.ts,I l.ts.length,I (j : Nat),rI u,I u.length,I (m : Nat)]) (H ++ oG (F m))) =
      some ([.pt 0 0,I a,I (i : Nat),rI t,.pt 1 0,I (j : Nat),oS b (F (m + 1)),tR l.ts,I l.ts.length,I (i : Nat),tR l.ts,I l.ts.length,I (j : Nat),rI u,I u.length,I (m + 1 : Nat)],H ++ oG (F (m + 1))) := by
    intro H b hH m hm
    have hy := List.getElem?_eq_getElem hm
    have hyb := hub _ (List.mem_of_getElem? hy)
    have e : F (m + 1) = F m ++ [dcI v u[m]] := by rw [hF,hF,take_up hy,List.map_append]; rfl
    rw [e]
    exact round12c hH h0 hy (by omega) (by have := Fl m; omega) (by omega)
  have Fn : F u.length = u.map (dcI v) := by rw [hF,List.take_length]
  have hw : u.map (dcI v) ≠ [] := by rw [Ne,List.map_eq_nil_iff]; exact hune
  have hw5 : (u.map (dcI v)).length ≤ 5 := by rw [List.length_map]; exact hu5
  have ej : xtN l.ts i (v : Int) (j + 1) = if j = i then xtN l.ts i (v : Int) j else xtN l.ts i (v : Int) j ++ [u.map (dcI v)] := by rw [xtN,getD_of hu]
  have hT := xt_len l.ts i (v : Int) j
  have hone : l.ls.length = 1 → j = i := by
    intro h1
    by_cases e : j = i
    · exact e
    · exfalso
      cases u with
      | nil => exact hune rfl
      | cons y r =>
        have := hub y (by simp)
        have := hne e y (by simp)
        omega
  clear hF hub hne hut
  unfold gX3
  rw [ej]
  clear ej
  generalize u.map (dcI v) = w at *
  generalize xtN l.ts i (v : Int) j = T at *
  have hxl := cL_len (xlA l v)
  generalize cL (xlA l v) = cc at *
  generalize (xlA l v).length = p at *

  by_cases h1 : l.ls.length = 1
  · rw [if_pos h1,if_pos h1]
    obtain rfl := hone h1
    unfold x12l3
    dsimp only
    sym =>
      simp [cO_gr,cO_nm,cO_sl,cO_len,Za,Zb,Zc,Zd,Ze,Zf,Zg,Zh,Zj,Zl,Zm,Zn,Zt,Zz,Z1,Z4,Z6,ZB,ZD,ZH,ZI,ZP,ZW,ZY,Yc,Ye,Yg,Yn,Yo,Yr,Ys,Yz,YN,YR,YT,YU,YX,Xb,Xd,Xe,Xh,Xl,Xp,Xq,Xr,Xt,XJ,XO,XU,XV,XW,XX,Wd,Wl,Wm,Wv,Ww,Wx,Wy,Wz,W0,W3,W4,W6,W7,W8,WA,WB,WE,WF,WG,WI,WK,WL,WM,WN,WS,WT,WU,WY,WZ,Vl,Vm,Vn,Vo,Vp,Vq,Vr,Vs,Vy,Vz,V0,VI,VJ,VK,VL,VM,VN,VO,VR,VS,VT,VU,VV,VX,VY,VZ,Ua,Ub,Uc,Uf,Uh,Ui,Uj,Un,Uo,Us,Ut,Uu,Uv,Uw,Uy,Uz,U0,U1,U2,U3,U6,U7,UA,UB,UC,UD,UI,UJ,UK,UL,UO,UP,UQ,UR,US,UT,UU,UV,UW,UX,UY,Ta,Tb,Tc,Tf,Tg,Th,Ti,Tk,Tl,Tm,Tp,Tq,Tr,Ts,Tt,Tv,Tx,Ty,Tz,T3,T6,T7,T8,T9,TA,TB,TK,TM,Sm,Sq,Ss,S3,S4,S6,a1,hu]
      tactic =>
        unfold x12l2
        rw [loop_rule u.length (fun m => [.pt 0 0,I a,I (j : Nat),rI t,.pt 1 0,I (j : Nat),oS 2 (F m),tR l.ts,I l.ts.length,I (j : Nat),tR l.ts,I l.ts.length,I (j : Nat),rI u,I u.length,I (m : Nat)]) (fun m => xA l ++ oG (F m))]
        · rw [Fn,oS_ne hw,oG_ne hw]
          (sym => (simp [cO_gr,cO_nm,cO_sl,cO_len,Za,Zb,Zc,Zd,Ze,Zf,Zg,Zh,Zj,Zl,Zm,Zn,Zt,Zz,Z1,Z4,Z6,ZB,ZD,ZH,ZI,ZP,ZW,ZY,Yc,Ye,Yg,Yn,Yo,Yr,Ys,Yz,YN,YR,YT,YU,YX,Xb,Xd,Xe,Xh,Xl,Xp,Xq,Xr,Xt,XJ,XO,XU,XV,XW,XX,Wd,Wl,Wm,Wv,Ww,Wx,Wy,Wz,W0,W3,W4,W6,W7,W8,WA,WB,WE,WF,WG,WI,WK,WL,WM,WN,WS,WT,WU,WY,WZ,Vl,Vm,Vn,Vo,Vp,Vq,Vr,Vs,Vy,Vz,V0,VI,VJ,VK,VL,VM,VN,VO,VR,VS,VT,VU,VV,VX,VY,VZ,Ua,Ub,Uc,Uf,Uh,Ui,Uj,Un,Uo,Us,Ut,Uu,Uv,Uw,Uy,Uz,U0,U1,U2,U3,U6,U7,UA,UB,UC,UD,UI,UJ,UK,UL,UO,UP,UQ,UR,US,UT,UU,UV,UW,UX,UY,Ta,Tb,Tc,Tf,Tg,Th,Ti,Tk,Tl,Tm,Tp,Tq,Tr,Ts,Tt,Tv,Tx,Ty,Tz,T3,T6,T7,T8,T9,TA,TB,TK,TM,Sm,Sq,Ss,S3,S4,S6,z,a2]; all_goals tactic => exact rfl))
        · rw [F0]
          (sym => (simp [cO_gr,cO_nm,cO_sl,cO_len,Za,Zb,Zc,Zd,Ze,Zf,Zg,Zh,Zj,Zl,Zm,Zn,Zt,Zz,Z1,Z4,Z6,ZB,ZD,ZH,ZI,ZP,ZW,ZY,Yc,Ye,Yg,Yn,Yo,Yr,Ys,Yz,YN,YR,YT,YU,YX,Xb,Xd,Xe,Xh,Xl,Xp,Xq,Xr,Xt,XJ,XO,XU,XV,XW,XX,Wd,Wl,Wm,Wv,Ww,Wx,Wy,Wz,W0,W3,W4,W6,W7,W8,WA,WB,WE,WF,WG,WI,WK,WL,WM,WN,WS,WT,WU,WY,WZ,Vl,Vm,Vn,Vo,Vp,Vq,Vr,Vs,Vy,Vz,V0,VI,VJ,VK,VL,VM,VN,VO,VR,VS,VT,VU,VV,VX,VY,VZ,Ua,Ub,Uc,Uf,Uh,Ui,Uj,Un,Uo,Us,Ut,Uu,Uv,Uw,Uy,Uz,U0,U1,U2,U3,U6,U7,UA,UB,UC,UD,UI,UJ,UK,UL,UO,UP,UQ,UR,US,UT,UU,UV,UW,UX,UY,Ta,Tb,Tc,Tf,Tg,Th,Ti,Tk,Tl,Tm,Tp,Tq,Tr,Ts,Tt,Tv,Tx,Ty,Tz,T3,T6,T7,T8,T9,TA,TB,TK,TM,Sm,Sq,Ss,S3,S4,S6]; all_goals tactic => exact rfl))
        · exact rd _ _ (.inl ⟨rfl,rfl⟩)
        · rw [Fn,oS_ne hw,oG_ne hw]
          (sym => (simp [cO_gr,cO_nm,cO_sl,cO_len,Za,Zb,Zc,Zd,Ze,Zf,Zg,Zh,Zj,Zl,Zm,Zn,Zt,Zz,Z1,Z4,Z6,ZB,ZD,ZH,ZI,ZP,ZW,ZY,Yc,Ye,Yg,Yn,Yo,Yr,Ys,Yz,YN,YR,YT,YU,YX,Xb,Xd,Xe,Xh,Xl,Xp,Xq,Xr,Xt,XJ,XO,XU,XV,XW,XX,Wd,Wl,Wm,Wv,Ww,Wx,Wy,Wz,W0,W3,W4,W6,W7,W8,WA,WB,WE,WF,WG,WI,WK,WL,WM,WN,WS,WT,WU,WY,WZ,Vl,Vm,Vn,Vo,Vp,Vq,Vr,Vs,Vy,Vz,V0,VI,VJ,VK,VL,VM,VN,VO,VR,VS,VT,VU,VV,VX,VY,VZ,Ua,Ub,Uc,Uf,Uh,Ui,Uj,Un,Uo,Us,Ut,Uu,Uv,Uw,Uy,Uz,U0,U1,U2,U3,U6,U7,UA,UB,UC,UD,UI,UJ,UK,UL,UO,UP,UQ,UR,US,UT,UU,UV,UW,UX,UY,Ta,Tb,Tc,Tf,Tg,Th,Ti,Tk,Tl,Tm,Tp,Tq,Tr,Ts,Tt,Tv,Tx,Ty,Tz,T3,T6,T7,T8,T9,TA,TB,TK,TM,Sm,Sq,Ss,S3,S4,S6,z]; all_goals tactic => exact rfl))
  · rw [if_neg h1,if_neg h1]
    by_cases e : j = i
    · subst e
      rw [if_pos rfl]
      by_cases hTe : T = []
      · rw [if_pos hTe]
        unfold x12l3
        dsimp only
        sym =>
          simp [cO_gr,cO_nm,cO_sl,cO_len,Za,Zb,Zc,Zd,Ze,Zf,Zg,Zh,Zj,Zl,Zm,Zn,Zt,Zz,Z1,Z4,Z6,ZB,ZD,ZH,ZI,ZP,ZW,ZY,Yc,Ye,Yg,Yn,Yo,Yr,Ys,Yz,YN,YR,YT,YU,YX,Xb,Xd,Xe,Xh,Xl,Xp,Xq,Xr,Xt,XJ,XO,XU,XV,XW,XX,Wd,Wl,Wm,Wv,Ww,Wx,Wy,Wz,W0,W3,W4,W6,W7,W8,WA,WB,WE,WF,WG,WI,WK,WL,WM,WN,WS,WT,WU,WY,WZ,Vl,Vm,Vn,Vo,Vp,Vq,Vr,Vs,Vy,Vz,V0,VI,VJ,VK,VL,VM,VN,VO,VR,VS,VT,VU,VV,VX,VY,VZ,Ua,Ub,Uc,Uf,Uh,Ui,Uj,Un,Uo,Us,Ut,Uu,Uv,Uw,Uy,Uz,U0,U1,U2,U3,U6,U7,UA,UB,UC,UD,UI,UJ,UK,UL,UO,UP,UQ,UR,US,UT,UU,UV,UW,UX,UY,Ta,Tb,Tc,Tf,Tg,Th,Ti,Tk,Tl,Tm,Tp,Tq,Tr,Ts,Tt,Tv,Tx,Ty,Tz,T3,T6,T7,T8,T9,TA,TB,TK,TM,Sm,Sq,Ss,S3,S4,S6,a1,hu]
          tactic =>
            unfold x12l2
            rw [loop_rule u.length (fun m => [.pt 0 0,I a,I (j : Nat),rI t,.pt 1 0,I (j : Nat),oS 3 (F m),tR l.ts,I l.ts.length,I (j : Nat),tR l.ts,I l.ts.length,I (j : Nat),rI u,I u.length,I (m : Nat)]) (fun m => xB l p cc ++ oG (F m))]
            · rw [Fn,oS_ne hw,oG_ne hw]
              (sym => (simp [cO_gr,cO_nm,cO_sl,cO_len,Za,Zb,Zc,Zd,Ze,Zf,Zg,Zh,Zj,Zl,Zm,Zn,Zt,Zz,Z1,Z4,Z6,ZB,ZD,ZH,ZI,ZP,ZW,ZY,Yc,Ye,Yg,Yn,Yo,Yr,Ys,Yz,YN,YR,YT,YU,YX,Xb,Xd,Xe,Xh,Xl,Xp,Xq,Xr,Xt,XJ,XO,XU,XV,XW,XX,Wd,Wl,Wm,Wv,Ww,Wx,Wy,Wz,W0,W3,W4,W6,W7,W8,WA,WB,WE,WF,WG,WI,WK,WL,WM,WN,WS,WT,WU,WY,WZ,Vl,Vm,Vn,Vo,Vp,Vq,Vr,Vs,Vy,Vz,V0,VI,VJ,VK,VL,VM,VN,VO,VR,VS,VT,VU,VV,VX,VY,VZ,Ua,Ub,Uc,Uf,Uh,Ui,Uj,Un,Uo,Us,Ut,Uu,Uv,Uw,Uy,Uz,U0,U1,U2,U3,U6,U7,UA,UB,UC,UD,UI,UJ,UK,UL,UO,UP,UQ,UR,US,UT,UU,UV,UW,UX,UY,Ta,Tb,Tc,Tf,Tg,Th,Ti,Tk,Tl,Tm,Tp,Tq,Tr,Ts,Tt,Tv,Tx,Ty,Tz,T3,T6,T7,T8,T9,TA,TB,TK,TM,Sm,Sq,Ss,S3,S4,S6,z,a2]; all_goals tactic => exact rfl))
            · rw [F0]
              (sym => (simp [cO_gr,cO_nm,cO_sl,cO_len,Za,Zb,Zc,Zd,Ze,Zf,Zg,Zh,Zj,Zl,Zm,Zn,Zt,Zz,Z1,Z4,Z6,ZB,ZD,ZH,ZI,ZP,ZW,ZY,Yc,Ye,Yg,Yn,Yo,Yr,Ys,Yz,YN,YR,YT,YU,YX,Xb,Xd,Xe,Xh,Xl,Xp,Xq,Xr,Xt,XJ,XO,XU,XV,XW,XX,Wd,Wl,Wm,Wv,Ww,Wx,Wy,Wz,W0,W3,W4,W6,W7,W8,WA,WB,WE,WF,WG,WI,WK,WL,WM,WN,WS,WT,WU,WY,WZ,Vl,Vm,Vn,Vo,Vp,Vq,Vr,Vs,Vy,Vz,V0,VI,VJ,VK,VL,VM,VN,VO,VR,VS,VT,VU,VV,VX,VY,VZ,Ua,Ub,Uc,Uf,Uh,Ui,Uj,Un,Uo,Us,Ut,Uu,Uv,Uw,Uy,Uz,U0,U1,U2,U3,U6,U7,UA,UB,UC,UD,UI,UJ,UK,UL,UO,UP,UQ,UR,US,UT,UU,UV,UW,UX,UY,Ta,Tb,Tc,Tf,Tg,Th,Ti,Tk,Tl,Tm,Tp,Tq,Tr,Ts,Tt,Tv,Tx,Ty,Tz,T3,T6,T7,T8,T9,TA,TB,TK,TM,Sm,Sq,Ss,S3,S4,S6]; all_goals tactic => exact rfl))
            · exact rd _ _ (.inr (.inl ⟨_,_,rfl,rfl⟩))
            · rw [Fn,oS_ne hw,oG_ne hw]
              (sym => (simp [cO_gr,cO_nm,cO_sl,cO_len,Za,Zb,Zc,Zd,Ze,Zf,Zg,Zh,Zj,Zl,Zm,Zn,Zt,Zz,Z1,Z4,Z6,ZB,ZD,ZH,ZI,ZP,ZW,ZY,Yc,Ye,Yg,Yn,Yo,Yr,Ys,Yz,YN,YR,YT,YU,YX,Xb,Xd,Xe,Xh,Xl,Xp,Xq,Xr,Xt,XJ,XO,XU,XV,XW,XX,Wd,Wl,Wm,Wv,Ww,Wx,Wy,Wz,W0,W3,W4,W6,W7,W8,WA,WB,WE,WF,WG,WI,WK,WL,WM,WN,WS,WT,WU,WY,WZ,Vl,Vm,Vn,Vo,Vp,Vq,Vr,Vs,Vy,Vz,V0,VI,VJ,VK,VL,VM,VN,VO,VR,VS,VT,VU,VV,VX,VY,VZ,Ua,Ub,Uc,Uf,Uh,Ui,Uj,Un,Uo,Us,Ut,Uu,Uv,Uw,Uy,Uz,U0,U1,U2,U3,U6,U7,UA,UB,UC,UD,UI,UJ,UK,UL,UO,UP,UQ,UR,US,UT,UU,UV,UW,UX,UY,Ta,Tb,Tc,Tf,Tg,Th,Ti,Tk,Tl,Tm,Tp,Tq,Tr,Ts,Tt,Tv,Tx,Ty,Tz,T3,T6,T7,T8,T9,TA,TB,TK,TM,Sm,Sq,Ss,S3,S4,S6,z]; all_goals tactic => exact rfl))
      · rw [if_neg hTe]
        generalize cO T = tc at *
        generalize T.length = r at *
        unfold x12l3
        dsimp only
        sym =>
          simp [cO_gr,cO_nm,cO_sl,cO_len,Za,Zb,Zc,Zd,Ze,Zf,Zg,Zh,Zj,Zl,Zm,Zn,Zt,Zz,Z1,Z4,Z6,ZB,ZD,ZH,ZI,ZP,ZW,ZY,Yc,Ye,Yg,Yn,Yo,Yr,Ys,Yz,YN,YR,YT,YU,YX,Xb,Xd,Xe,Xh,Xl,Xp,Xq,Xr,Xt,XJ,XO,XU,XV,XW,XX,Wd,Wl,Wm,Wv,Ww,Wx,Wy,Wz,W0,W3,W4,W6,W7,W8,WA,WB,WE,WF,WG,WI,WK,WL,WM,WN,WS,WT,WU,WY,WZ,Vl,Vm,Vn,Vo,Vp,Vq,Vr,Vs,Vy,Vz,V0,VI,VJ,VK,VL,VM,VN,VO,VR,VS,VT,VU,VV,VX,VY,VZ,Ua,Ub,Uc,Uf,Uh,Ui,Uj,Un,Uo,Us,Ut,Uu,Uv,Uw,Uy,Uz,U0,U1,U2,U3,U6,U7,UA,UB,UC,UD,UI,UJ,UK,UL,UO,UP,UQ,UR,US,UT,UU,UV,UW,UX,UY,Ta,Tb,Tc,Tf,Tg,Th,Ti,Tk,Tl,Tm,Tp,Tq,Tr,Ts,Tt,Tv,Tx,Ty,Tz,T3,T6,T7,T8,T9,TA,TB,TK,TM,Sm,Sq,Ss,S3,S4,S6,a1,hu]
          tactic =>
            unfold x12l2
            rw [loop_rule u.length (fun m => [.pt 0 0,I a,I (j : Nat),rI t,.pt 1 0,I (j : Nat),oS 4 (F m),tR l.ts,I l.ts.length,I (j : Nat),tR l.ts,I l.ts.length,I (j : Nat),rI u,I u.length,I (m : Nat)]) (fun m => xC l p cc r tc ++ oG (F m))]
            · rw [Fn,oS_ne hw,oG_ne hw]
              (sym => (simp [cO_gr,cO_nm,cO_sl,cO_len,Za,Zb,Zc,Zd,Ze,Zf,Zg,Zh,Zj,Zl,Zm,Zn,Zt,Zz,Z1,Z4,Z6,ZB,ZD,ZH,ZI,ZP,ZW,ZY,Yc,Ye,Yg,Yn,Yo,Yr,Ys,Yz,YN,YR,YT,YU,YX,Xb,Xd,Xe,Xh,Xl,Xp,Xq,Xr,Xt,XJ,XO,XU,XV,XW,XX,Wd,Wl,Wm,Wv,Ww,Wx,Wy,Wz,W0,W3,W4,W6,W7,W8,WA,WB,WE,WF,WG,WI,WK,WL,WM,WN,WS,WT,WU,WY,WZ,Vl,Vm,Vn,Vo,Vp,Vq,Vr,Vs,Vy,Vz,V0,VI,VJ,VK,VL,VM,VN,VO,VR,VS,VT,VU,VV,VX,VY,VZ,Ua,Ub,Uc,Uf,Uh,Ui,Uj,Un,Uo,Us,Ut,Uu,Uv,Uw,Uy,Uz,U0,U1,U2,U3,U6,U7,UA,UB,UC,UD,UI,UJ,UK,UL,UO,UP,UQ,UR,US,UT,UU,UV,UW,UX,UY,Ta,Tb,Tc,Tf,Tg,Th,Ti,Tk,Tl,Tm,Tp,Tq,Tr,Ts,Tt,Tv,Tx,Ty,Tz,T3,T6,T7,T8,T9,TA,TB,TK,TM,Sm,Sq,Ss,S3,S4,S6,z,a2]; all_goals tactic => exact rfl))
            · rw [F0]
              (sym => (simp [cO_gr,cO_nm,cO_sl,cO_len,Za,Zb,Zc,Zd,Ze,Zf,Zg,Zh,Zj,Zl,Zm,Zn,Zt,Zz,Z1,Z4,Z6,ZB,ZD,ZH,ZI,ZP,ZW,ZY,Yc,Ye,Yg,Yn,Yo,Yr,Ys,Yz,YN,YR,YT,YU,YX,Xb,Xd,Xe,Xh,Xl,Xp,Xq,Xr,Xt,XJ,XO,XU,XV,XW,XX,Wd,Wl,Wm,Wv,Ww,Wx,Wy,Wz,W0,W3,W4,W6,W7,W8,WA,WB,WE,WF,WG,WI,WK,WL,WM,WN,WS,WT,WU,WY,WZ,Vl,Vm,Vn,Vo,Vp,Vq,Vr,Vs,Vy,Vz,V0,VI,VJ,VK,VL,VM,VN,VO,VR,VS,VT,VU,VV,VX,VY,VZ,Ua,Ub,Uc,Uf,Uh,Ui,Uj,Un,Uo,Us,Ut,Uu,Uv,Uw,Uy,Uz,U0,U1,U2,U3,U6,U7,UA,UB,UC,UD,UI,UJ,UK,UL,UO,UP,UQ,UR,US,UT,UU,UV,UW,UX,UY,Ta,Tb,Tc,Tf,Tg,Th,Ti,Tk,Tl,Tm,Tp,Tq,Tr,Ts,Tt,Tv,Tx,Ty,Tz,T3,T6,T7,T8,T9,TA,TB,TK,TM,Sm,Sq,Ss,S3,S4,S6]; all_goals tactic => exact rfl))
            · exact rd _ _ (.inr (.inr ⟨_,_,_,_,rfl,rfl⟩))
            · rw [Fn,oS_ne hw,oG_ne hw]
              (sym => (simp [cO_gr,cO_nm,cO_sl,cO_len,Za,Zb,Zc,Zd,Ze,Zf,Zg,Zh,Zj,Zl,Zm,Zn,Zt,Zz,Z1,Z4,Z6,ZB,ZD,ZH,ZI,ZP,ZW,ZY,Yc,Ye,Yg,Yn,Yo,Yr,Ys,Yz,YN,YR,YT,YU,YX,Xb,Xd,Xe,Xh,Xl,Xp,Xq,Xr,Xt,XJ,XO,XU,XV,XW,XX,Wd,Wl,Wm,Wv,Ww,Wx,Wy,Wz,W0,W3,W4,W6,W7,W8,WA,WB,WE,WF,WG,WI,WK,WL,WM,WN,WS,WT,WU,WY,WZ,Vl,Vm,Vn,Vo,Vp,Vq,Vr,Vs,Vy,Vz,V0,VI,VJ,VK,VL,VM,VN,VO,VR,VS,VT,VU,VV,VX,VY,VZ,Ua,Ub,Uc,Uf,Uh,Ui,Uj,Un,Uo,Us,Ut,Uu,Uv,Uw,Uy,Uz,U0,U1,U2,U3,U6,U7,UA,UB,UC,UD,UI,UJ,UK,UL,UO,UP,UQ,UR,US,UT,UU,UV,UW,UX,UY,Ta,Tb,Tc,Tf,Tg,Th,Ti,Tk,Tl,Tm,Tp,Tq,Tr,Ts,Tt,Tv,Tx,Ty,Tz,T3,T6,T7,T8,T9,TA,TB,TK,TM,Sm,Sq,Ss,S3,S4,S6,z]; all_goals tactic => exact rfl))
    · have c : ((j : Int) = (i : Int)) = False := eq_false (by omega)
      rw [if_neg e,if_neg (by simp : ¬ T ++ [w] = []),cO_app]
      have la : (T ++ [w]).length = T.length + 1 := by simp
      have lw : cO [w] = [rI w] := rfl
      rw [la,lw]
      by_cases hTe : T = []
      · rw [if_pos hTe]
        subst hTe
        have cz : cO [] = [] := rfl
        rw [cz,List.nil_append,List.length_nil]
        unfold x12l3
        dsimp only
        sym =>
          simp [cO_gr,cO_nm,cO_sl,cO_len,Za,Zb,Zc,Zd,Ze,Zf,Zg,Zh,Zj,Zl,Zm,Zn,Zt,Zz,Z1,Z4,Z6,ZB,ZD,ZH,ZI,ZP,ZW,ZY,Yc,Ye,Yg,Yn,Yo,Yr,Ys,Yz,YN,YR,YT,YU,YX,Xb,Xd,Xe,Xh,Xl,Xp,Xq,Xr,Xt,XJ,XO,XU,XV,XW,XX,Wd,Wl,Wm,Wv,Ww,Wx,Wy,Wz,W0,W3,W4,W6,W7,W8,WA,WB,WE,WF,WG,WI,WK,WL,WM,WN,WS,WT,WU,WY,WZ,Vl,Vm,Vn,Vo,Vp,Vq,Vr,Vs,Vy,Vz,V0,VI,VJ,VK,VL,VM,VN,VO,VR,VS,VT,VU,VV,VX,VY,VZ,Ua,Ub,Uc,Uf,Uh,Ui,Uj,Un,Uo,Us,Ut,Uu,Uv,Uw,Uy,Uz,U0,U1,U2,U3,U6,U7,UA,UB,UC,UD,UI,UJ,UK,UL,UO,UP,UQ,UR,US,UT,UU,UV,UW,UX,UY,Ta,Tb,Tc,Tf,Tg,Th,Ti,Tk,Tl,Tm,Tp,Tq,Tr,Ts,Tt,Tv,Tx,Ty,Tz,T3,T6,T7,T8,T9,TA,TB,TK,TM,Sm,Sq,Ss,S3,S4,S6,a1,hu]
          tactic =>
            unfold x12l2
            rw [loop_rule u.length (fun m => [.pt 0 0,I a,I (i : Nat),rI t,.pt 1 0,I (j : Nat),oS 3 (F m),tR l.ts,I l.ts.length,I (i : Nat),tR l.ts,I l.ts.length,I (j : Nat),rI u,I u.length,I (m : Nat)]) (fun m => xB l p cc ++ oG (F m))]
            · rw [Fn,oS_ne hw,oG_ne hw]
              (sym => (simp [cO_gr,cO_nm,cO_sl,cO_len,Za,Zb,Zc,Zd,Ze,Zf,Zg,Zh,Zj,Zl,Zm,Zn,Zt,Zz,Z1,Z4,Z6,ZB,ZD,ZH,ZI,ZP,ZW,ZY,Yc,Ye,Yg,Yn,Yo,Yr,Ys,Yz,YN,YR,YT,YU,YX,Xb,Xd,Xe,Xh,Xl,Xp,Xq,Xr,Xt,XJ,XO,XU,XV,XW,XX,Wd,Wl,Wm,Wv,Ww,Wx,Wy,Wz,W0,W3,W4,W6,W7,W8,WA,WB,WE,WF,WG,WI,WK,WL,WM,WN,WS,WT,WU,WY,WZ,Vl,Vm,Vn,Vo,Vp,Vq,Vr,Vs,Vy,Vz,V0,VI,VJ,VK,VL,VM,VN,VO,VR,VS,VT,VU,VV,VX,VY,VZ,Ua,Ub,Uc,Uf,Uh,Ui,Uj,Un,Uo,Us,Ut,Uu,Uv,Uw,Uy,Uz,U0,U1,U2,U3,U6,U7,UA,UB,UC,UD,UI,UJ,UK,UL,UO,UP,UQ,UR,US,UT,UU,UV,UW,UX,UY,Ta,Tb,Tc,Tf,Tg,Th,Ti,Tk,Tl,Tm,Tp,Tq,Tr,Ts,Tt,Tv,Tx,Ty,Tz,T3,T6,T7,T8,T9,TA,TB,TK,TM,Sm,Sq,Ss,S3,S4,S6,z,a2,c]; all_goals tactic => exact rfl))
            · rw [F0]
              (sym => (simp [cO_gr,cO_nm,cO_sl,cO_len,Za,Zb,Zc,Zd,Ze,Zf,Zg,Zh,Zj,Zl,Zm,Zn,Zt,Zz,Z1,Z4,Z6,ZB,ZD,ZH,ZI,ZP,ZW,ZY,Yc,Ye,Yg,Yn,Yo,Yr,Ys,Yz,YN,YR,YT,YU,YX,Xb,Xd,Xe,Xh,Xl,Xp,Xq,Xr,Xt,XJ,XO,XU,XV,XW,XX,Wd,Wl,Wm,Wv,Ww,Wx,Wy,Wz,W0,W3,W4,W6,W7,W8,WA,WB,WE,WF,WG,WI,WK,WL,WM,WN,WS,WT,WU,WY,WZ,Vl,Vm,Vn,Vo,Vp,Vq,Vr,Vs,Vy,Vz,V0,VI,VJ,VK,VL,VM,VN,VO,VR,VS,VT,VU,VV,VX,VY,VZ,Ua,Ub,Uc,Uf,Uh,Ui,Uj,Un,Uo,Us,Ut,Uu,Uv,Uw,Uy,Uz,U0,U1,U2,U3,U6,U7,UA,UB,UC,UD,UI,UJ,UK,UL,UO,UP,UQ,UR,US,UT,UU,UV,UW,UX,UY,Ta,Tb,Tc,Tf,Tg,Th,Ti,Tk,Tl,Tm,Tp,Tq,Tr,Ts,Tt,Tv,Tx,Ty,Tz,T3,T6,T7,T8,T9,TA,TB,TK,TM,Sm,Sq,Ss,S3,S4,S6]; all_goals tactic => exact rfl))
            · exact rd _ _ (.inr (.inl ⟨_,_,rfl,rfl⟩))
            · rw [Fn,oS_ne hw,oG_ne hw]
              (sym => (simp [cO_gr,cO_nm,cO_sl,cO_len,Za,Zb,Zc,Zd,Ze,Zf,Zg,Zh,Zj,Zl,Zm,Zn,Zt,Zz,Z1,Z4,Z6,ZB,ZD,ZH,ZI,ZP,ZW,ZY,Yc,Ye,Yg,Yn,Yo,Yr,Ys,Yz,YN,YR,YT,YU,YX,Xb,Xd,Xe,Xh,Xl,Xp,Xq,Xr,Xt,XJ,XO,XU,XV,XW,XX,Wd,Wl,Wm,Wv,Ww,Wx,Wy,Wz,W0,W3,W4,W6,W7,W8,WA,WB,WE,WF,WG,WI,WK,WL,WM,WN,WS,WT,WU,WY,WZ,Vl,Vm,Vn,Vo,Vp,Vq,Vr,Vs,Vy,Vz,V0,VI,VJ,VK,VL,VM,VN,VO,VR,VS,VT,VU,VV,VX,VY,VZ,Ua,Ub,Uc,Uf,Uh,Ui,Uj,Un,Uo,Us,Ut,Uu,Uv,Uw,Uy,Uz,U0,U1,U2,U3,U6,U7,UA,UB,UC,UD,UI,UJ,UK,UL,UO,UP,UQ,UR,US,UT,UU,UV,UW,UX,UY,Ta,Tb,Tc,Tf,Tg,Th,Ti,Tk,Tl,Tm,Tp,Tq,Tr,Ts,Tt,Tv,Tx,Ty,Tz,T3,T6,T7,T8,T9,TA,TB,TK,TM,Sm,Sq,Ss,S3,S4,S6,z]; all_goals tactic => exact rfl))
      · rw [if_neg hTe]
        have lT := cO_len T
        have q1 : ((T.length + 1) * 24 ≤ 1099511627776) = True := eq_true (by omega)
        have q2 : (T.length + 1 ≤ 1099511627776) = True := eq_true (by omega)
        generalize cO T = tc at *
        generalize T.length = r at *
        unfold x12l3
        dsimp only
        sym =>
          simp [cO_gr,cO_nm,cO_sl,cO_len,Za,Zb,Zc,Zd,Ze,Zf,Zg,Zh,Zj,Zl,Zm,Zn,Zt,Zz,Z1,Z4,Z6,ZB,ZD,ZH,ZI,ZP,ZW,ZY,Yc,Ye,Yg,Yn,Yo,Yr,Ys,Yz,YN,YR,YT,YU,YX,Xb,Xd,Xe,Xh,Xl,Xp,Xq,Xr,Xt,XJ,XO,XU,XV,XW,XX,Wd,Wl,Wm,Wv,Ww,Wx,Wy,Wz,W0,W3,W4,W6,W7,W8,WA,WB,WE,WF,WG,WI,WK,WL,WM,WN,WS,WT,WU,WY,WZ,Vl,Vm,Vn,Vo,Vp,Vq,Vr,Vs,Vy,Vz,V0,VI,VJ,VK,VL,VM,VN,VO,VR,VS,VT,VU,VV,VX,VY,VZ,Ua,Ub,Uc,Uf,Uh,Ui,Uj,Un,Uo,Us,Ut,Uu,Uv,Uw,Uy,Uz,U0,U1,U2,U3,U6,U7,UA,UB,UC,UD,UI,UJ,UK,UL,UO,UP,UQ,UR,US,UT,UU,UV,UW,UX,UY,Ta,Tb,Tc,Tf,Tg,Th,Ti,Tk,Tl,Tm,Tp,Tq,Tr,Ts,Tt,Tv,Tx,Ty,Tz,T3,T6,T7,T8,T9,TA,TB,TK,TM,Sm,Sq,Ss,S3,S4,S6,a1,hu]
          tactic =>
            unfold x12l2
            rw [loop_rule u.length (fun m => [.pt 0 0,I a,I (i : Nat),rI t,.pt 1 0,I (j : Nat),oS 4 (F m),tR l.ts,I l.ts.length,I (i : Nat),tR l.ts,I l.ts.length,I (j : Nat),rI u,I u.length,I (m : Nat)]) (fun m => xC l p cc r tc ++ oG (F m))]
            · rw [Fn,oS_ne hw,oG_ne hw]
              (sym => (simp [cO_gr,cO_nm,cO_sl,cO_len,Za,Zb,Zc,Zd,Ze,Zf,Zg,Zh,Zj,Zl,Zm,Zn,Zt,Zz,Z1,Z4,Z6,ZB,ZD,ZH,ZI,ZP,ZW,ZY,Yc,Ye,Yg,Yn,Yo,Yr,Ys,Yz,YN,YR,YT,YU,YX,Xb,Xd,Xe,Xh,Xl,Xp,Xq,Xr,Xt,XJ,XO,XU,XV,XW,XX,Wd,Wl,Wm,Wv,Ww,Wx,Wy,Wz,W0,W3,W4,W6,W7,W8,WA,WB,WE,WF,WG,WI,WK,WL,WM,WN,WS,WT,WU,WY,WZ,Vl,Vm,Vn,Vo,Vp,Vq,Vr,Vs,Vy,Vz,V0,VI,VJ,VK,VL,VM,VN,VO,VR,VS,VT,VU,VV,VX,VY,VZ,Ua,Ub,Uc,Uf,Uh,Ui,Uj,Un,Uo,Us,Ut,Uu,Uv,Uw,Uy,Uz,U0,U1,U2,U3,U6,U7,UA,UB,UC,UD,UI,UJ,UK,UL,UO,UP,UQ,UR,US,UT,UU,UV,UW,UX,UY,Ta,Tb,Tc,Tf,Tg,Th,Ti,Tk,Tl,Tm,Tp,Tq,Tr,Ts,Tt,Tv,Tx,Ty,Tz,T3,T6,T7,T8,T9,TA,TB,TK,TM,Sm,Sq,Ss,S3,S4,S6,z,a2,c,q1,q2,lT]; all_goals tactic => exact rfl))
            · rw [F0]
              (sym => (simp [cO_gr,cO_nm,cO_sl,cO_len,Za,Zb,Zc,Zd,Ze,Zf,Zg,Zh,Zj,Zl,Zm,Zn,Zt,Zz,Z1,Z4,Z6,ZB,ZD,ZH,ZI,ZP,ZW,ZY,Yc,Ye,Yg,Yn,Yo,Yr,Ys,Yz,YN,YR,YT,YU,YX,Xb,Xd,Xe,Xh,Xl,Xp,Xq,Xr,Xt,XJ,XO,XU,XV,XW,XX,Wd,Wl,Wm,Wv,Ww,Wx,Wy,Wz,W0,W3,W4,W6,W7,W8,WA,WB,WE,WF,WG,WI,WK,WL,WM,WN,WS,WT,WU,WY,WZ,Vl,Vm,Vn,Vo,Vp,Vq,Vr,Vs,Vy,Vz,V0,VI,VJ,VK,VL,VM,VN,VO,VR,VS,VT,VU,VV,VX,VY,VZ,Ua,Ub,Uc,Uf,Uh,Ui,Uj,Un,Uo,Us,Ut,Uu,Uv,Uw,Uy,Uz,U0,U1,U2,U3,U6,U7,UA,UB,UC,UD,UI,UJ,UK,UL,UO,UP,UQ,UR,US,UT,UU,UV,UW,UX,UY,Ta,Tb,Tc,Tf,Tg,Th,Ti,Tk,Tl,Tm,Tp,Tq,Tr,Ts,Tt,Tv,Tx,Ty,Tz,T3,T6,T7,T8,T9,TA,TB,TK,TM,Sm,Sq,Ss,S3,S4,S6]; all_goals tactic => exact rfl))
            · exact rd _ _ (.inr (.inr ⟨_,_,_,_,rfl,rfl⟩))
            · rw [Fn,oS_ne hw,oG_ne hw]
              (sym => (simp [cO_gr,cO_nm,cO_sl,cO_len,Za,Zb,Zc,Zd,Ze,Zf,Zg,Zh,Zj,Zl,Zm,Zn,Zt,Zz,Z1,Z4,Z6,ZB,ZD,ZH,ZI,ZP,ZW,ZY,Yc,Ye,Yg,Yn,Yo,Yr,Ys,Yz,YN,YR,YT,YU,YX,Xb,Xd,Xe,Xh,Xl,Xp,Xq,Xr,Xt,XJ,XO,XU,XV,XW,XX,Wd,Wl,Wm,Wv,Ww,Wx,Wy,Wz,W0,W3,W4,W6,W7,W8,WA,WB,WE,WF,WG,WI,WK,WL,WM,WN,WS,WT,WU,WY,WZ,Vl,Vm,Vn,Vo,Vp,Vq,Vr,Vs,Vy,Vz,V0,VI,VJ,VK,VL,VM,VN,VO,VR,VS,VT,VU,VV,VX,VY,VZ,Ua,Ub,Uc,Uf,Uh,Ui,Uj,Un,Uo,Us,Ut,Uu,Uv,Uw,Uy,Uz,U0,U1,U2,U3,U6,U7,UA,UB,UC,UD,UI,UJ,UK,UL,UO,UP,UQ,UR,US,UT,UU,UV,UW,UX,UY,Ta,Tb,Tc,Tf,Tg,Th,Ti,Tk,Tl,Tm,Tp,Tq,Tr,Ts,Tt,Tv,Tx,Ty,Tz,T3,T6,T7,T8,T9,TA,TB,TK,TM,Sm,Sq,Ss,S3,S4,S6,z]; all_goals tactic => exact rfl))
end
end Go.Proofs.YtpbeclkpohehgaaDoor
namespace Go.Proofs.YtpbeclkpohehgaaDoor
open Go Go.DL
set_option maxRecDepth 100000
set_option maxHeartbeats 4000000
theorem w29A (k : List (List St)) (a b : Int) : runW progX 29 [.agg [kR k,.nilsl,.nilsl,I a,I b]] [] = runW progX 29 [.agg [kR k,lR [],tR [],I a,I b]] [] := by
  rw [r29 (by simp),r29 (by simp)]
  rfl
theorem w29B (k : List (List St)) (x : List Ld) (a b : Int) : runW progX 29 [.agg [kR k,lR x,.nilsl,I a,I b]] [] = runW progX 29 [.agg [kR k,lR x,tR [],I a,I b]] [] := by
  rw [r29 (by simp),r29 (by simp)]
  rfl
section
variable {l : Li}
theorem x1_0 (l : Li) (v : Nat) : gX1 l v 0 = xA l := rfl
theorem x3_0 (l : Li) (i v : Nat) : gX3 l i v 0 = if l.ls.length = 1 then xA l else xB l (xlA l v).length (cL (xlA l v)) := by
  unfold gX3
  simp only [xtN,if_true]
theorem round12e (g : Good l) (hf : l.Fit) (h3 : l.ts.length ≤ 3) (h5 : ∀ t ∈ l.ts,t.length ≤ 5) {i : Nat} (hi : i < l.ts.length) :
    headX 0 [7,13,150,151,152] (execW progX 12 0 none (match x12l4 with | .loop _ a => a | c => c) (envL [7,13,150,151,152] [.pt 0 0,I (minW l),tR l.ts,I l.ts.length,I (i : Nat)]) (hL l)) =
      some ([.pt 0 0,I (minW l),tR l.ts,I l.ts.length,I (i + 1 : Nat)],hL l) := by
  have hn := g.few
  obtain ⟨t,ht⟩ := at_ix hi
  have htm := List.mem_of_getElem? ht
  have a1 := lt_ix hi
  have a2 := up_ix hi (by omega)
  by_cases hl : t.length = 1
  · have c0 : ((t.length : Int) = 1) = True := eq_true (by omega)
    obtain ⟨v0,hv0⟩ : ∃ v0,t = [v0] := List.length_eq_one_iff.1 hl
    have hb := g.tbd t htm v0 (by rw [hv0]; simp)
    obtain ⟨v,rfl⟩ : ∃ v : Nat,v0 = (v : Int) := ⟨v0.toNat,by omega⟩
    have ht' := ht
    rw [hv0] at ht'
    have h0 : t[0]? = some (v : Int) := by rw [hv0]; rfl
    have ck := out_ok g ht'
    have mn := out_min g ht'
    have hvn := out_v g ht'
    have hol := out_len g ht'
    have ff : (outL l i v).Fit := ⟨by
      have := xt_len l.ts i (v : Int) l.ts.length
      show (xtN l.ts i (v : Int) l.ts.length).length ≤ _
      omega,fun s hs => by
      obtain ⟨j,h1,h2,rfl⟩ := xt_mem.1 hs
      rw [List.length_map]
      have := h5 _ (ix_mem (d := []) h1)
      omega⟩
    have e29 := w29 (outL l i v) ff
    unfold bestR at e29
    rw [if_pos ck] at e29
    have c1 : (minW l < minW (outL l i v)) = False := eq_false (by omega)
    generalize minW (outL l i v) = dm at *
    generalize ofN (bestO (outL l i v)) = bo at *
    generalize minW l = a at *
    have rd1 := fun m (hm : m < l.ls.length) => round12b (l := l) (a := a) (i := i) h0 hn hm
    have rd2 := fun j (hj : j < l.ts.length) => round12d g h3 h5 (a := a) ht hv0 hj
    have z1 := UU (n := (l.ls.length : Int))
    have z2 := UU (n := (l.ts.length : Int))
    have cl := cL_len (xlA l v)
    have ch := cL_ch (xlA l v)
    have hxl : (xlA l v).length = l.ls.length - 1 := hol
    have hol : (outL l i v).ls = xlA l v := rfl
    have hot : (outL l i v).ts = xtN l.ts i (v : Int) l.ts.length := rfl
    have p1 : ((xlA l v).length * 5 ≤ (xlA l v).length * 5) = True := eq_true (Nat.le_refl _)
    have lT := cO_len (xtN l.ts i (v : Int) l.ts.length)
    have cT := cO_ch (xtN l.ts i (v : Int) l.ts.length)
    have p2 : ((xtN l.ts i (v : Int) l.ts.length).length ≤ (xtN l.ts i (v : Int) l.ts.length).length) = True := eq_true (Nat.le_refl _)
    have oc : (outL l i v).c = [kR l.ks,lR (xlA l v),tR (xtN l.ts i (v : Int) l.ts.length),I l.lo,I l.hi] := rfl
    have gn : gX1 l v l.ls.length = if xlA l v = [] then xA l else xB l (xlA l v).length (cL (xlA l v)) := rfl
    have g0 := x3_0 l i v
    have g3 : gX3 l i v l.ts.length = if l.ls.length = 1 then xA l else if xtN l.ts i (v : Int) l.ts.length = [] then xB l (xlA l v).length (cL (xlA l v)) else xC l (xlA l v).length (cL (xlA l v)) (xtN l.ts i (v : Int) l.ts.length).length (cO (xtN l.ts i (v : Int) l.ts.length)) := rfl
    rw [oc] at e29
    clear ck mn ff hb oc hol hot
    unfold x12l4
    dsimp only
    by_cases h1 : l.ls.length = 1
    · have xe : xlA l v = [] := List.eq_nil_of_length_eq_zero (by omega)
      have te : xtN l.ts i (v : Int) l.ts.length = [] := by
        cases hT : xtN l.ts i (v : Int) l.ts.length with
        | nil => rfl
        | cons s r =>
          exfalso
          obtain ⟨j,q1,q2,_⟩ := xt_mem.1 (show s ∈ xtN l.ts i (v : Int) l.ts.length by rw [hT]; simp)
          have q3 := out_ne g ht' j q1 q2
          obtain ⟨u,hu⟩ := at_ix q1
          rw [getD_of hu] at q3
          have hut := List.mem_of_getElem? hu
          cases u with
          | nil => exact g.tne _ hut rfl
          | cons y r =>
            have := g.tbd _ hut y (by simp)
            have := q3 y (by simp)
            omega
      rw [if_pos h1] at g0 g3
      rw [if_pos xe] at gn
      rw [xe,te] at e29
      have e29' : runW progX 29 [.agg [kR l.ks,.nilsl,.nilsl,I l.lo,I l.hi]] [] = some (.tup [rI bo,I dm,I 0],[]) := by
        rw [w29A]
        exact e29
      sym =>
        simp [cO_gr,cO_nm,cO_sl,cO_len,Za,Zb,Zc,Zd,Ze,Zf,Zg,Zh,Zj,Zl,Zm,Zo,Zq,Zt,Zu,Zw,Zy,Z1,Z4,Z6,ZA,ZB,ZD,ZH,ZI,ZL,ZM,ZQ,ZR,ZT,ZW,ZY,Yc,Ye,Yf,Yg,Yn,Yo,Yq,Yr,Ys,Yz,YK,YN,YP,YR,YT,YU,YX,Xb,Xd,Xe,Xh,Xl,Xn,Xo,Xp,Xq,Xr,Xt,Xx,XI,XJ,XL,XO,XU,XV,XW,XX,Wk,Wl,Wv,Ww,Wx,Wy,Wz,W0,W3,W4,W6,W7,W8,WA,WB,WE,WF,WG,WH,WI,WJ,WK,WL,WM,WN,WO,WP,WS,WT,WU,WY,WZ,Vb,Vc,Vd,Vl,Vm,Vn,Vo,Vp,Vq,Vr,Vt,Vu,Vv,Vw,Vx,Vy,Vz,V0,VI,VJ,VK,VL,VM,VN,VO,VR,VS,VT,VU,VV,VX,VY,VZ,Ua,Ub,Uc,Uf,Uh,Ui,Uj,Un,Uo,Us,Ut,Uu,Ux,Uy,Uz,U0,U1,U2,U3,U4,U5,U6,U7,UA,UB,UC,UD,UU,UV,UW,UX,UY,UZ,Ta,Tb,Tc,Tl,Tm,Tp,Tq,Tr,Ts,Tt,Tv,Tx,Ty,Tz,T3,T6,T7,T8,T9,Sm,Sq,Ss,S3,S4,S5,a1,ht,c0]
        tactic =>
          unfold x12l1
          rw [loop_rule l.ls.length (fun m => [.pt 0 0,I a,I (i : Nat),rI t,.pt 1 0,tR l.ts,I l.ts.length,I (i : Nat),lR l.ls,I l.ls.length,I (m : Nat)]) (fun m => gX1 l v m)]
          · rw [gn]
            sym =>
              simp [cO_gr,cO_nm,cO_sl,cO_len,Za,Zb,Zc,Zd,Ze,Zf,Zg,Zh,Zj,Zl,Zm,Zo,Zq,Zt,Zu,Zw,Zy,Z1,Z4,Z6,ZA,ZB,ZD,ZH,ZI,ZL,ZM,ZQ,ZR,ZT,ZW,ZY,Yc,Ye,Yf,Yg,Yn,Yo,Yq,Yr,Ys,Yz,YK,YN,YP,YR,YT,YU,YX,Xb,Xd,Xe,Xh,Xl,Xn,Xo,Xp,Xq,Xr,Xt,Xx,XI,XJ,XL,XO,XU,XV,XW,XX,Wk,Wl,Wv,Ww,Wx,Wy,Wz,W0,W3,W4,W6,W7,W8,WA,WB,WE,WF,WG,WH,WI,WJ,WK,WL,WM,WN,WO,WP,WS,WT,WU,WY,WZ,Vb,Vc,Vd,Vl,Vm,Vn,Vo,Vp,Vq,Vr,Vt,Vu,Vv,Vw,Vx,Vy,Vz,V0,VI,VJ,VK,VL,VM,VN,VO,VR,VS,VT,VU,VV,VX,VY,VZ,Ua,Ub,Uc,Uf,Uh,Ui,Uj,Un,Uo,Us,Ut,Uu,Ux,Uy,Uz,U0,U1,U2,U3,U4,U5,U6,U7,UA,UB,UC,UD,UU,UV,UW,UX,UY,UZ,Ta,Tb,Tc,Tl,Tm,Tp,Tq,Tr,Ts,Tt,Tv,Tx,Ty,Tz,T3,T6,T7,T8,T9,Sm,Sq,Ss,S3,S4,S5,z1]
              tactic =>
                unfold x12l3
                rw [loop_rule l.ts.length (fun j => [.pt 0 0,I a,I (i : Nat),rI t,.pt 1 0,tR l.ts,I l.ts.length,I (i : Nat),tR l.ts,I l.ts.length,I (j : Nat)]) (fun j => gX3 l i v j)]
                · rw [g3]
                  (sym => (simp [cO_gr,cO_nm,cO_sl,cO_len,Za,Zb,Zc,Zd,Ze,Zf,Zg,Zh,Zj,Zl,Zm,Zo,Zq,Zt,Zu,Zw,Zy,Z1,Z4,Z6,ZA,ZB,ZD,ZH,ZI,ZL,ZM,ZQ,ZR,ZT,ZW,ZY,Yc,Ye,Yf,Yg,Yn,Yo,Yq,Yr,Ys,Yz,YK,YN,YP,YR,YT,YU,YX,Xb,Xd,Xe,Xh,Xl,Xn,Xo,Xp,Xq,Xr,Xt,Xx,XI,XJ,XL,XO,XU,XV,XW,XX,Wk,Wl,Wv,Ww,Wx,Wy,Wz,W0,W3,W4,W6,W7,W8,WA,WB,WE,WF,WG,WH,WI,WJ,WK,WL,WM,WN,WO,WP,WS,WT,WU,WY,WZ,Vb,Vc,Vd,Vl,Vm,Vn,Vo,Vp,Vq,Vr,Vt,Vu,Vv,Vw,Vx,Vy,Vz,V0,VI,VJ,VK,VL,VM,VN,VO,VR,VS,VT,VU,VV,VX,VY,VZ,Ua,Ub,Uc,Uf,Uh,Ui,Uj,Un,Uo,Us,Ut,Uu,Ux,Uy,Uz,U0,U1,U2,U3,U4,U5,U6,U7,UA,UB,UC,UD,UU,UV,UW,UX,UY,UZ,Ta,Tb,Tc,Tl,Tm,Tp,Tq,Tr,Ts,Tt,Tv,Tx,Ty,Tz,T3,T6,T7,T8,T9,Sm,Sq,Ss,S3,S4,S5,z1,z2,p1,p2,ch,cT,cl,lT,c1,a2,e29']; all_goals tactic => exact rfl))
                · rw [g0]
                  (sym => (simp [cO_gr,cO_nm,cO_sl,cO_len,Za,Zb,Zc,Zd,Ze,Zf,Zg,Zh,Zj,Zl,Zm,Zo,Zq,Zt,Zu,Zw,Zy,Z1,Z4,Z6,ZA,ZB,ZD,ZH,ZI,ZL,ZM,ZQ,ZR,ZT,ZW,ZY,Yc,Ye,Yf,Yg,Yn,Yo,Yq,Yr,Ys,Yz,YK,YN,YP,YR,YT,YU,YX,Xb,Xd,Xe,Xh,Xl,Xn,Xo,Xp,Xq,Xr,Xt,Xx,XI,XJ,XL,XO,XU,XV,XW,XX,Wk,Wl,Wv,Ww,Wx,Wy,Wz,W0,W3,W4,W6,W7,W8,WA,WB,WE,WF,WG,WH,WI,WJ,WK,WL,WM,WN,WO,WP,WS,WT,WU,WY,WZ,Vb,Vc,Vd,Vl,Vm,Vn,Vo,Vp,Vq,Vr,Vt,Vu,Vv,Vw,Vx,Vy,Vz,V0,VI,VJ,VK,VL,VM,VN,VO,VR,VS,VT,VU,VV,VX,VY,VZ,Ua,Ub,Uc,Uf,Uh,Ui,Uj,Un,Uo,Us,Ut,Uu,Ux,Uy,Uz,U0,U1,U2,U3,U4,U5,U6,U7,UA,UB,UC,UD,UU,UV,UW,UX,UY,UZ,Ta,Tb,Tc,Tl,Tm,Tp,Tq,Tr,Ts,Tt,Tv,Tx,Ty,Tz,T3,T6,T7,T8,T9,Sm,Sq,Ss,S3,S4,S5]; all_goals tactic => exact rfl))
                · exact rd2
                · rw [g3]
                  (sym => (simp [cO_gr,cO_nm,cO_sl,cO_len,Za,Zb,Zc,Zd,Ze,Zf,Zg,Zh,Zj,Zl,Zm,Zo,Zq,Zt,Zu,Zw,Zy,Z1,Z4,Z6,ZA,ZB,ZD,ZH,ZI,ZL,ZM,ZQ,ZR,ZT,ZW,ZY,Yc,Ye,Yf,Yg,Yn,Yo,Yq,Yr,Ys,Yz,YK,YN,YP,YR,YT,YU,YX,Xb,Xd,Xe,Xh,Xl,Xn,Xo,Xp,Xq,Xr,Xt,Xx,XI,XJ,XL,XO,XU,XV,XW,XX,Wk,Wl,Wv,Ww,Wx,Wy,Wz,W0,W3,W4,W6,W7,W8,WA,WB,WE,WF,WG,WH,WI,WJ,WK,WL,WM,WN,WO,WP,WS,WT,WU,WY,WZ,Vb,Vc,Vd,Vl,Vm,Vn,Vo,Vp,Vq,Vr,Vt,Vu,Vv,Vw,Vx,Vy,Vz,V0,VI,VJ,VK,VL,VM,VN,VO,VR,VS,VT,VU,VV,VX,VY,VZ,Ua,Ub,Uc,Uf,Uh,Ui,Uj,Un,Uo,Us,Ut,Uu,Ux,Uy,Uz,U0,U1,U2,U3,U4,U5,U6,U7,UA,UB,UC,UD,UU,UV,UW,UX,UY,UZ,Ta,Tb,Tc,Tl,Tm,Tp,Tq,Tr,Ts,Tt,Tv,Tx,Ty,Tz,T3,T6,T7,T8,T9,Sm,Sq,Ss,S3,S4,S5,z2]; all_goals tactic => exact rfl))
          · rw [x1_0]
            (sym => (simp [cO_gr,cO_nm,cO_sl,cO_len,Za,Zb,Zc,Zd,Ze,Zf,Zg,Zh,Zj,Zl,Zm,Zo,Zq,Zt,Zu,Zw,Zy,Z1,Z4,Z6,ZA,ZB,ZD,ZH,ZI,ZL,ZM,ZQ,ZR,ZT,ZW,ZY,Yc,Ye,Yf,Yg,Yn,Yo,Yq,Yr,Ys,Yz,YK,YN,YP,YR,YT,YU,YX,Xb,Xd,Xe,Xh,Xl,Xn,Xo,Xp,Xq,Xr,Xt,Xx,XI,XJ,XL,XO,XU,XV,XW,XX,Wk,Wl,Wv,Ww,Wx,Wy,Wz,W0,W3,W4,W6,W7,W8,WA,WB,WE,WF,WG,WH,WI,WJ,WK,WL,WM,WN,WO,WP,WS,WT,WU,WY,WZ,Vb,Vc,Vd,Vl,Vm,Vn,Vo,Vp,Vq,Vr,Vt,Vu,Vv,Vw,Vx,Vy,Vz,V0,VI,VJ,VK,VL,VM,VN,VO,VR,VS,VT,VU,VV,VX,VY,VZ,Ua,Ub,Uc,Uf,Uh,Ui,Uj,Un,Uo,Us,Ut,Uu,Ux,Uy,Uz,U0,U1,U2,U3,U4,U5,U6,U7,UA,UB,UC,UD,UU,UV,UW,UX,UY,UZ,Ta,Tb,Tc,Tl,Tm,Tp,Tq,Tr,Ts,Tt,Tv,Tx,Ty,Tz,T3,T6,T7,T8,T9,Sm,Sq,Ss,S3,S4,S5]; all_goals tactic => exact rfl))
          · exact rd1
          · rw [gn]
            (sym => (simp [cO_gr,cO_nm,cO_sl,cO_len,Za,Zb,Zc,Zd,Ze,Zf,Zg,Zh,Zj,Zl,Zm,Zo,Zq,Zt,Zu,Zw,Zy,Z1,Z4,Z6,ZA,ZB,ZD,ZH,ZI,ZL,ZM,ZQ,ZR,ZT,ZW,ZY,Yc,Ye,Yf,Yg,Yn,Yo,Yq,Yr,Ys,Yz,YK,YN,YP,YR,YT,YU,YX,Xb,Xd,Xe,Xh,Xl,Xn,Xo,Xp,Xq,Xr,Xt,Xx,XI,XJ,XL,XO,XU,XV,XW,XX,Wk,Wl,Wv,Ww,Wx,Wy,Wz,W0,W3,W4,W6,W7,W8,WA,WB,WE,WF,WG,WH,WI,WJ,WK,WL,WM,WN,WO,WP,WS,WT,WU,WY,WZ,Vb,Vc,Vd,Vl,Vm,Vn,Vo,Vp,Vq,Vr,Vt,Vu,Vv,Vw,Vx,Vy,Vz,V0,VI,VJ,VK,VL,VM,VN,VO,VR,VS,VT,VU,VV,VX,VY,VZ,Ua,Ub,Uc,Uf,Uh,Ui,Uj,Un,Uo,Us,Ut,Uu,Ux,Uy,Uz,U0,U1,U2,U3,U4,U5,U6,U7,UA,UB,UC,UD,UU,UV,UW,UX,UY,UZ,Ta,Tb,Tc,Tl,Tm,Tp,Tq,Tr,Ts,Tt,Tv,Tx,Ty,Tz,T3,T6,T7,T8,T9,Sm,Sq,Ss,S3,S4,S5,z1]; all_goals tactic => exact rfl))
    · have xe : ¬ xlA l v = [] := fun h => by rw [h] at hxl; simp at hxl; omega
      rw [if_neg h1] at g0 g3
      rw [if_neg xe] at gn
      clear rd1
      have rd1 := fun m (hm : m < l.ls.length) => round12b (l := l) (a := a) (i := i) h0 hn hm
      by_cases te : xtN l.ts i (v : Int) l.ts.length = []
      · rw [if_pos te] at g3
        rw [te] at e29
        have e29' : runW progX 29 [.agg [kR l.ks,lR (xlA l v),.nilsl,I l.lo,I l.hi]] [] = some (.tup [rI bo,I dm,I 0],[]) := by
          rw [w29B]
          exact e29
        generalize cL (xlA l v) = cc at *
        sym =>
          simp [cO_gr,cO_nm,cO_sl,cO_len,Za,Zb,Zc,Zd,Ze,Zf,Zg,Zh,Zj,Zl,Zm,Zo,Zq,Zt,Zu,Zw,Zy,Z1,Z4,Z6,ZA,ZB,ZD,ZH,ZI,ZL,ZM,ZQ,ZR,ZT,ZW,ZY,Yc,Ye,Yf,Yg,Yn,Yo,Yq,Yr,Ys,Yz,YK,YN,YP,YR,YT,YU,YX,Xb,Xd,Xe,Xh,Xl,Xn,Xo,Xp,Xq,Xr,Xt,Xx,XI,XJ,XL,XO,XU,XV,XW,XX,Wk,Wl,Wv,Ww,Wx,Wy,Wz,W0,W3,W4,W6,W7,W8,WA,WB,WE,WF,WG,WH,WI,WJ,WK,WL,WM,WN,WO,WP,WS,WT,WU,WY,WZ,Vb,Vc,Vd,Vl,Vm,Vn,Vo,Vp,Vq,Vr,Vt,Vu,Vv,Vw,Vx,Vy,Vz,V0,VI,VJ,VK,VL,VM,VN,VO,VR,VS,VT,VU,VV,VX,VY,VZ,Ua,Ub,Uc,Uf,Uh,Ui,Uj,Un,Uo,Us,Ut,Uu,Ux,Uy,Uz,U0,U1,U2,U3,U4,U5,U6,U7,UA,UB,UC,UD,UU,UV,UW,UX,UY,UZ,Ta,Tb,Tc,Tl,Tm,Tp,Tq,Tr,Ts,Tt,Tv,Tx,Ty,Tz,T3,T6,T7,T8,T9,Sm,Sq,Ss,S3,S4,S5,a1,ht,c0]
          tactic =>
            unfold x12l1
            rw [loop_rule l.ls.length (fun m => [.pt 0 0,I a,I (i : Nat),rI t,.pt 1 0,tR l.ts,I l.ts.length,I (i : Nat),lR l.ls,I l.ls.length,I (m : Nat)]) (fun m => gX1 l v m)]
            · rw [gn]
              sym =>
                simp [cO_gr,cO_nm,cO_sl,cO_len,Za,Zb,Zc,Zd,Ze,Zf,Zg,Zh,Zj,Zl,Zm,Zo,Zq,Zt,Zu,Zw,Zy,Z1,Z4,Z6,ZA,ZB,ZD,ZH,ZI,ZL,ZM,ZQ,ZR,ZT,ZW,ZY,Yc,Ye,Yf,Yg,Yn,Yo,Yq,Yr,Ys,Yz,YK,YN,YP,YR,YT,YU,YX,Xb,Xd,Xe,Xh,Xl,Xn,Xo,Xp,Xq,Xr,Xt,Xx,XI,XJ,XL,XO,XU,XV,XW,XX,Wk,Wl,Wv,Ww,Wx,Wy,Wz,W0,W3,W4,W6,W7,W8,WA,WB,WE,WF,WG,WH,WI,WJ,WK,WL,WM,WN,WO,WP,WS,WT,WU,WY,WZ,Vb,Vc,Vd,Vl,Vm,Vn,Vo,Vp,Vq,Vr,Vt,Vu,Vv,Vw,Vx,Vy,Vz,V0,VI,VJ,VK,VL,VM,VN,VO,VR,VS,VT,VU,VV,VX,VY,VZ,Ua,Ub,Uc,Uf,Uh,Ui,Uj,Un,Uo,Us,Ut,Uu,Ux,Uy,Uz,U0,U1,U2,U3,U4,U5,U6,U7,UA,UB,UC,UD,UU,UV,UW,UX,UY,UZ,Ta,Tb,Tc,Tl,Tm,Tp,Tq,Tr,Ts,Tt,Tv,Tx,Ty,Tz,T3,T6,T7,T8,T9,Sm,Sq,Ss,S3,S4,S5,z1]
                tactic =>
                  unfold x12l3
                  rw [loop_rule l.ts.length (fun j => [.pt 0 0,I a,I (i : Nat),rI t,.pt 1 0,tR l.ts,I l.ts.length,I (i : Nat),tR l.ts,I l.ts.length,I (j : Nat)]) (fun j => gX3 l i v j)]
                  · rw [g3]
                    (sym => (simp [cO_gr,cO_nm,cO_sl,cO_len,Za,Zb,Zc,Zd,Ze,Zf,Zg,Zh,Zj,Zl,Zm,Zo,Zq,Zt,Zu,Zw,Zy,Z1,Z4,Z6,ZA,ZB,ZD,ZH,ZI,ZL,ZM,ZQ,ZR,ZT,ZW,ZY,Yc,Ye,Yf,Yg,Yn,Yo,Yq,Yr,Ys,Yz,YK,YN,YP,YR,YT,YU,YX,Xb,Xd,Xe,Xh,Xl,Xn,Xo,Xp,Xq,Xr,Xt,Xx,XI,XJ,XL,XO,XU,XV,XW,XX,Wk,Wl,Wv,Ww,Wx,Wy,Wz,W0,W3,W4,W6,W7,W8,WA,WB,WE,WF,WG,WH,WI,WJ,WK,WL,WM,WN,WO,WP,WS,WT,WU,WY,WZ,Vb,Vc,Vd,Vl,Vm,Vn,Vo,Vp,Vq,Vr,Vt,Vu,Vv,Vw,Vx,Vy,Vz,V0,VI,VJ,VK,VL,VM,VN,VO,VR,VS,VT,VU,VV,VX,VY,VZ,Ua,Ub,Uc,Uf,Uh,Ui,Uj,Un,Uo,Us,Ut,Uu,Ux,Uy,Uz,U0,U1,U2,U3,U4,U5,U6,U7,UA,UB,UC,UD,UU,UV,UW,UX,UY,UZ,Ta,Tb,Tc,Tl,Tm,Tp,Tq,Tr,Ts,Tt,Tv,Tx,Ty,Tz,T3,T6,T7,T8,T9,Sm,Sq,Ss,S3,S4,S5,z1,z2,p1,p2,ch,cT,cl,lT,c1,a2,e29']; all_goals tactic => exact rfl))
                  · rw [g0]
                    (sym => (simp [cO_gr,cO_nm,cO_sl,cO_len,Za,Zb,Zc,Zd,Ze,Zf,Zg,Zh,Zj,Zl,Zm,Zo,Zq,Zt,Zu,Zw,Zy,Z1,Z4,Z6,ZA,ZB,ZD,ZH,ZI,ZL,ZM,ZQ,ZR,ZT,ZW,ZY,Yc,Ye,Yf,Yg,Yn,Yo,Yq,Yr,Ys,Yz,YK,YN,YP,YR,YT,YU,YX,Xb,Xd,Xe,Xh,Xl,Xn,Xo,Xp,Xq,Xr,Xt,Xx,XI,XJ,XL,XO,XU,XV,XW,XX,Wk,Wl,Wv,Ww,Wx,Wy,Wz,W0,W3,W4,W6,W7,W8,WA,WB,WE,WF,WG,WH,WI,WJ,WK,WL,WM,WN,WO,WP,WS,WT,WU,WY,WZ,Vb,Vc,Vd,Vl,Vm,Vn,Vo,Vp,Vq,Vr,Vt,Vu,Vv,Vw,Vx,Vy,Vz,V0,VI,VJ,VK,VL,VM,VN,VO,VR,VS,VT,VU,VV,VX,VY,VZ,Ua,Ub,Uc,Uf,Uh,Ui,Uj,Un,Uo,Us,Ut,Uu,Ux,Uy,Uz,U0,U1,U2,U3,U4,U5,U6,U7,UA,UB,UC,UD,UU,UV,UW,UX,UY,UZ,Ta,Tb,Tc,Tl,Tm,Tp,Tq,Tr,Ts,Tt,Tv,Tx,Ty,Tz,T3,T6,T7,T8,T9,Sm,Sq,Ss,S3,S4,S5]; all_goals tactic => exact rfl))
                  · exact rd2
                  · rw [g3]
                    (sym => (simp [cO_gr,cO_nm,cO_sl,cO_len,Za,Zb,Zc,Zd,Ze,Zf,Zg,Zh,Zj,Zl,Zm,Zo,Zq,Zt,Zu,Zw,Zy,Z1,Z4,Z6,ZA,ZB,ZD,ZH,ZI,ZL,ZM,ZQ,ZR,ZT,ZW,ZY,Yc,Ye,Yf,Yg,Yn,Yo,Yq,Yr,Ys,Yz,YK,YN,YP,YR,YT,YU,YX,Xb,Xd,Xe,Xh,Xl,Xn,Xo,Xp,Xq,Xr,Xt,Xx,XI,XJ,XL,XO,XU,XV,XW,XX,Wk,Wl,Wv,Ww,Wx,Wy,Wz,W0,W3,W4,W6,W7,W8,WA,WB,WE,WF,WG,WH,WI,WJ,WK,WL,WM,WN,WO,WP,WS,WT,WU,WY,WZ,Vb,Vc,Vd,Vl,Vm,Vn,Vo,Vp,Vq,Vr,Vt,Vu,Vv,Vw,Vx,Vy,Vz,V0,VI,VJ,VK,VL,VM,VN,VO,VR,VS,VT,VU,VV,VX,VY,VZ,Ua,Ub,Uc,Uf,Uh,Ui,Uj,Un,Uo,Us,Ut,Uu,Ux,Uy,Uz,U0,U1,U2,U3,U4,U5,U6,U7,UA,UB,UC,UD,UU,UV,UW,UX,UY,UZ,Ta,Tb,Tc,Tl,Tm,Tp,Tq,Tr,Ts,Tt,Tv,Tx,Ty,Tz,T3,T6,T7,T8,T9,Sm,Sq,Ss,S3,S4,S5,z2]; all_goals tactic => exact rfl))
            · rw [x1_0]
              (sym => (simp [cO_gr,cO_nm,cO_sl,cO_len,Za,Zb,Zc,Zd,Ze,Zf,Zg,Zh,Zj,Zl,Zm,Zo,Zq,Zt,Zu,Zw,Zy,Z1,Z4,Z6,ZA,ZB,ZD,ZH,ZI,ZL,ZM,ZQ,ZR,ZT,ZW,ZY,Yc,Ye,Yf,Yg,Yn,Yo,Yq,Yr,Ys,Yz,YK,YN,YP,YR,YT,YU,YX,Xb,Xd,Xe,Xh,Xl,Xn,Xo,Xp,Xq,Xr,Xt,Xx,XI,XJ,XL,XO,XU,XV,XW,XX,Wk,Wl,Wv,Ww,Wx,Wy,Wz,W0,W3,W4,W6,W7,W8,WA,WB,WE,WF,WG,WH,WI,WJ,WK,WL,WM,WN,WO,WP,WS,WT,WU,WY,WZ,Vb,Vc,Vd,Vl,Vm,Vn,Vo,Vp,Vq,Vr,Vt,Vu,Vv,Vw,Vx,Vy,Vz,V0,VI,VJ,VK,VL,VM,VN,VO,VR,VS,VT,VU,VV,VX,VY,VZ,Ua,Ub,Uc,Uf,Uh,Ui,Uj,Un,Uo,Us,Ut,Uu,Ux,Uy,Uz,U0,U1,U2,U3,U4,U5,U6,U7,UA,UB,UC,UD,UU,UV,UW,UX,UY,UZ,Ta,Tb,Tc,Tl,Tm,Tp,Tq,Tr,Ts,Tt,Tv,Tx,Ty,Tz,T3,T6,T7,T8,T9,Sm,Sq,Ss,S3,S4,S5]; all_goals tactic => exact rfl))
            · exact rd1
            · rw [gn]
              (sym => (simp [cO_gr,cO_nm,cO_sl,cO_len,Za,Zb,Zc,Zd,Ze,Zf,Zg,Zh,Zj,Zl,Zm,Zo,Zq,Zt,Zu,Zw,Zy,Z1,Z4,Z6,ZA,ZB,ZD,ZH,ZI,ZL,ZM,ZQ,ZR,ZT,ZW,ZY,Yc,Ye,Yf,Yg,Yn,Yo,Yq,Yr,Ys,Yz,YK,YN,YP,YR,YT,YU,YX,Xb,Xd,Xe,Xh,Xl,Xn,Xo,Xp,Xq,Xr,Xt,Xx,XI,XJ,XL,XO,XU,XV,XW,XX,Wk,Wl,Wv,Ww,Wx,Wy,Wz,W0,W3,W4,W6,W7,W8,WA,WB,WE,WF,WG,WH,WI,WJ,WK,WL,WM,WN,WO,WP,WS,WT,WU,WY,WZ,Vb,Vc,Vd,Vl,Vm,Vn,Vo,Vp,Vq,Vr,Vt,Vu,Vv,Vw,Vx,Vy,Vz,V0,VI,VJ,VK,VL,VM,VN,VO,VR,VS,VT,VU,VV,VX,VY,VZ,Ua,Ub,Uc,Uf,Uh,Ui,Uj,Un,Uo,Us,Ut,Uu,Ux,Uy,Uz,U0,U1,U2,U3,U4,U5,U6,U7,UA,UB,UC,UD,UU,UV,UW,UX,UY,UZ,Ta,Tb,Tc,Tl,Tm,Tp,Tq,Tr,Ts,Tt,Tv,Tx,Ty,Tz,T3,T6,T7,T8,T9,Sm,Sq,Ss,S3,S4,S5,z1]; all_goals tactic => exact rfl))
      · rw [if_neg te] at g3
        generalize cL (xlA l v) = cc at *
        sym =>
          simp [cO_gr,cO_nm,cO_sl,cO_len,Za,Zb,Zc,Zd,Ze,Zf,Zg,Zh,Zj,Zl,Zm,Zo,Zq,Zt,Zu,Zw,Zy,Z1,Z4,Z6,ZA,ZB,ZD,ZH,ZI,ZL,ZM,ZQ,ZR,ZT,ZW,ZY,Yc,Ye,Yf,Yg,Yn,Yo,Yq,Yr,Ys,Yz,YK,YN,YP,YR,YT,YU,YX,Xb,Xd,Xe,Xh,Xl,Xn,Xo,Xp,Xq,Xr,Xt,Xx,XI,XJ,XL,XO,XU,XV,XW,XX,Wk,Wl,Wv,Ww,Wx,Wy,Wz,W0,W3,W4,W6,W7,W8,WA,WB,WE,WF,WG,WH,WI,WJ,WK,WL,WM,WN,WO,WP,WS,WT,WU,WY,WZ,Vb,Vc,Vd,Vl,Vm,Vn,Vo,Vp,Vq,Vr,Vt,Vu,Vv,Vw,Vx,Vy,Vz,V0,VI,VJ,VK,VL,VM,VN,VO,VR,VS,VT,VU,VV,VX,VY,VZ,Ua,Ub,Uc,Uf,Uh,Ui,Uj,Un,Uo,Us,Ut,Uu,Ux,Uy,Uz,U0,U1,U2,U3,U4,U5,U6,U7,UA,UB,UC,UD,UU,UV,UW,UX,UY,UZ,Ta,Tb,Tc,Tl,Tm,Tp,Tq,Tr,Ts,Tt,Tv,Tx,Ty,Tz,T3,T6,T7,T8,T9,Sm,Sq,Ss,S3,S4,S5,a1,ht,c0]
          tactic =>
            unfold x12l1
            rw [loop_rule l.ls.length (fun m => [.pt 0 0,I a,I (i : Nat),rI t,.pt 1 0,tR l.ts,I l.ts.length,I (i : Nat),lR l.ls,I l.ls.length,I (m : Nat)]) (fun m => gX1 l v m)]
            · rw [gn]
              sym =>
                simp [cO_gr,cO_nm,cO_sl,cO_len,Za,Zb,Zc,Zd,Ze,Zf,Zg,Zh,Zj,Zl,Zm,Zo,Zq,Zt,Zu,Zw,Zy,Z1,Z4,Z6,ZA,ZB,ZD,ZH,ZI,ZL,ZM,ZQ,ZR,ZT,ZW,ZY,Yc,Ye,Yf,Yg,Yn,Yo,Yq,Yr,Ys,Yz,YK,YN,YP,YR,YT,YU,YX,Xb,Xd,Xe,Xh,Xl,Xn,Xo,Xp,Xq,Xr,Xt,Xx,XI,XJ,XL,XO,XU,XV,XW,XX,Wk,Wl,Wv,Ww,Wx,Wy,Wz,W0,W3,W4,W6,W7,W8,WA,WB,WE,WF,WG,WH,WI,WJ,WK,WL,WM,WN,WO,WP,WS,WT,WU,WY,WZ,Vb,Vc,Vd,Vl,Vm,Vn,Vo,Vp,Vq,Vr,Vt,Vu,Vv,Vw,Vx,Vy,Vz,V0,VI,VJ,VK,VL,VM,VN,VO,VR,VS,VT,VU,VV,VX,VY,VZ,Ua,Ub,Uc,Uf,Uh,Ui,Uj,Un,Uo,Us,Ut,Uu,Ux,Uy,Uz,U0,U1,U2,U3,U4,U5,U6,U7,UA,UB,UC,UD,UU,UV,UW,UX,UY,UZ,Ta,Tb,Tc,Tl,Tm,Tp,Tq,Tr,Ts,Tt,Tv,Tx,Ty,Tz,T3,T6,T7,T8,T9,Sm,Sq,Ss,S3,S4,S5,z1]
                tactic =>
                  unfold x12l3
                  rw [loop_rule l.ts.length (fun j => [.pt 0 0,I a,I (i : Nat),rI t,.pt 1 0,tR l.ts,I l.ts.length,I (i : Nat),tR l.ts,I l.ts.length,I (j : Nat)]) (fun j => gX3 l i v j)]
                  · rw [g3]
                    (sym => (simp [cO_gr,cO_nm,cO_sl,cO_len,Za,Zb,Zc,Zd,Ze,Zf,Zg,Zh,Zj,Zl,Zm,Zo,Zq,Zt,Zu,Zw,Zy,Z1,Z4,Z6,ZA,ZB,ZD,ZH,ZI,ZL,ZM,ZQ,ZR,ZT,ZW,ZY,Yc,Ye,Yf,Yg,Yn,Yo,Yq,Yr,Ys,Yz,YK,YN,YP,YR,YT,YU,YX,Xb,Xd,Xe,Xh,Xl,Xn,Xo,Xp,Xq,Xr,Xt,Xx,XI,XJ,XL,XO,XU,XV,XW,XX,Wk,Wl,Wv,Ww,Wx,Wy,Wz,W0,W3,W4,W6,W7,W8,WA,WB,WE,WF,WG,WH,WI,WJ,WK,WL,WM,WN,WO,WP,WS,WT,WU,WY,WZ,Vb,Vc,Vd,Vl,Vm,Vn,Vo,Vp,Vq,Vr,Vt,Vu,Vv,Vw,Vx,Vy,Vz,V0,VI,VJ,VK,VL,VM,VN,VO,VR,VS,VT,VU,VV,VX,VY,VZ,Ua,Ub,Uc,Uf,Uh,Ui,Uj,Un,Uo,Us,Ut,Uu,Ux,Uy,Uz,U0,U1,U2,U3,U4,U5,U6,U7,UA,UB,UC,UD,UU,UV,UW,UX,UY,UZ,Ta,Tb,Tc,Tl,Tm,Tp,Tq,Tr,Ts,Tt,Tv,Tx,Ty,Tz,T3,T6,T7,T8,T9,Sm,Sq,Ss,S3,S4,S5,z1,z2,p1,p2,ch,cT,cl,lT,c1,a2,e29]; all_goals tactic => exact rfl))
                  · rw [g0]
                    (sym => (simp [cO_gr,cO_nm,cO_sl,cO_len,Za,Zb,Zc,Zd,Ze,Zf,Zg,Zh,Zj,Zl,Zm,Zo,Zq,Zt,Zu,Zw,Zy,Z1,Z4,Z6,ZA,ZB,ZD,ZH,ZI,ZL,ZM,ZQ,ZR,ZT,ZW,ZY,Yc,Ye,Yf,Yg,Yn,Yo,Yq,Yr,Ys,Yz,YK,YN,YP,YR,YT,YU,YX,Xb,Xd,Xe,Xh,Xl,Xn,Xo,Xp,Xq,Xr,Xt,Xx,XI,XJ,XL,XO,XU,XV,XW,XX,Wk,Wl,Wv,Ww,Wx,Wy,Wz,W0,W3,W4,W6,W7,W8,WA,WB,WE,WF,WG,WH,WI,WJ,WK,WL,WM,WN,WO,WP,WS,WT,WU,WY,WZ,Vb,Vc,Vd,Vl,Vm,Vn,Vo,Vp,Vq,Vr,Vt,Vu,Vv,Vw,Vx,Vy,Vz,V0,VI,VJ,VK,VL,VM,VN,VO,VR,VS,VT,VU,VV,VX,VY,VZ,Ua,Ub,Uc,Uf,Uh,Ui,Uj,Un,Uo,Us,Ut,Uu,Ux,Uy,Uz,U0,U1,U2,U3,U4,U5,U6,U7,UA,UB,UC,UD,UU,UV,UW,UX,UY,UZ,Ta,Tb,Tc,Tl,Tm,Tp,Tq,Tr,Ts,Tt,Tv,Tx,Ty,Tz,T3,T6,T7,T8,T9,Sm,Sq,Ss,S3,S4,S5]; all_goals tactic => exact rfl))
                  · exact rd2
                  · rw [g3]
                    (sym => (simp [cO_gr,cO_nm,cO_sl,cO_len,Za,Zb,Zc,Zd,Ze,Zf,Zg,Zh,Zj,Zl,Zm,Zo,Zq,Zt,Zu,Zw,Zy,Z1,Z4,Z6,ZA,ZB,ZD,ZH,ZI,ZL,ZM,ZQ,ZR,ZT,ZW,ZY,Yc,Ye,Yf,Yg,Yn,Yo,Yq,Yr,Ys,Yz,YK,YN,YP,YR,YT,YU,YX,Xb,Xd,Xe,Xh,Xl,Xn,Xo,Xp,Xq,Xr,Xt,Xx,XI,XJ,XL,XO,XU,XV,XW,XX,Wk,Wl,Wv,Ww,Wx,Wy,Wz,W0,W3,W4,W6,W7,W8,WA,WB,WE,WF,WG,WH,WI,WJ,WK,WL,WM,WN,WO,WP,WS,WT,WU,WY,WZ,Vb,Vc,Vd,Vl,Vm,Vn,Vo,Vp,Vq,Vr,Vt,Vu,Vv,Vw,Vx,Vy,Vz,V0,VI,VJ,VK,VL,VM,VN,VO,VR,VS,VT,VU,VV,VX,VY,VZ,Ua,Ub,Uc,Uf,Uh,Ui,Uj,Un,Uo,Us,Ut,Uu,Ux,Uy,Uz,U0,U1,U2,U3,U4,U5,U6,U7,UA,UB,UC,UD,UU,UV,UW,UX,UY,UZ,Ta,Tb,Tc,Tl,Tm,Tp,Tq,Tr,Ts,Tt,Tv,Tx,Ty,Tz,T3,T6,T7,T8,T9,Sm,Sq,Ss,S3,S4,S5,z2]; all_goals tactic => exact rfl))
            · rw [x1_0]
              (sym => (simp [cO_gr,cO_nm,cO_sl,cO_len,Za,Zb,Zc,Zd,Ze,Zf,Zg,Zh,Zj,Zl,Zm,Zo,Zq,Zt,Zu,Zw,Zy,Z1,Z4,Z6,ZA,ZB,ZD,ZH,ZI,ZL,ZM,ZQ,ZR,ZT,ZW,ZY,Yc,Ye,Yf,Yg,Yn,Yo,Yq,Yr,Ys,Yz,YK,YN,YP,YR,YT,YU,YX,Xb,Xd,Xe,Xh,Xl,Xn,Xo,Xp,Xq,Xr,Xt,Xx,XI,XJ,XL,XO,XU,XV,XW,XX,Wk,Wl,Wv,Ww,Wx,Wy,Wz,W0,W3,W4,W6,W7,W8,WA,WB,WE,WF,WG,WH,WI,WJ,WK,WL,WM,WN,WO,WP,WS,WT,WU,WY,WZ,Vb,Vc,Vd,Vl,Vm,Vn,Vo,Vp,Vq,Vr,Vt,Vu,Vv,Vw,Vx,Vy,Vz,V0,VI,VJ,VK,VL,VM,VN,VO,VR,VS,VT,VU,VV,VX,VY,VZ,Ua,Ub,Uc,Uf,Uh,Ui,Uj,Un,Uo,Us,Ut,Uu,Ux,Uy,Uz,U0,U1,U2,U3,U4,U5,U6,U7,UA,UB,UC,UD,UU,UV,UW,UX,UY,UZ,Ta,Tb,Tc,Tl,Tm,Tp,Tq,Tr,Ts,Tt,Tv,Tx,Ty,Tz,T3,T6,T7,T8,T9,Sm,Sq,Ss,S3,S4,S5]; all_goals tactic => exact rfl))
            · exact rd1
            · rw [gn]
              (sym => (simp [cO_gr,cO_nm,cO_sl,cO_len,Za,Zb,Zc,Zd,Ze,Zf,Zg,Zh,Zj,Zl,Zm,Zo,Zq,Zt,Zu,Zw,Zy,Z1,Z4,Z6,ZA,ZB,ZD,ZH,ZI,ZL,ZM,ZQ,ZR,ZT,ZW,ZY,Yc,Ye,Yf,Yg,Yn,Yo,Yq,Yr,Ys,Yz,YK,YN,YP,YR,YT,YU,YX,Xb,Xd,Xe,Xh,Xl,Xn,Xo,Xp,Xq,Xr,Xt,Xx,XI,XJ,XL,XO,XU,XV,XW,XX,Wk,Wl,Wv,Ww,Wx,Wy,Wz,W0,W3,W4,W6,W7,W8,WA,WB,WE,WF,WG,WH,WI,WJ,WK,WL,WM,WN,WO,WP,WS,WT,WU,WY,WZ,Vb,Vc,Vd,Vl,Vm,Vn,Vo,Vp,Vq,Vr,Vt,Vu,Vv,Vw,Vx,Vy,Vz,V0,VI,VJ,VK,VL,VM,VN,VO,VR,VS,VT,VU,VV,VX,VY,VZ,Ua,Ub,Uc,Uf,Uh,Ui,Uj,Un,Uo,Us,Ut,Uu,Ux,Uy,Uz,U0,U1,U2,U3,U4,U5,U6,U7,UA,UB,UC,UD,UU,UV,UW,UX,UY,UZ,Ta,Tb,Tc,Tl,Tm,Tp,Tq,Tr,Ts,Tt,Tv,Tx,Ty,Tz,T3,T6,T7,T8,T9,Sm,Sq,Ss,S3,S4,S5,z1]; all_goals tactic => exact rfl))
  · have c0 : ((t.length : Int) = 1) = False := eq_false (by omega)
    unfold x12l4
    dsimp only
    (sym => (simp [cO_gr,cO_nm,cO_sl,cO_len,Za,Zb,Zc,Zd,Ze,Zf,Zg,Zh,Zj,Zl,Zm,Zo,Zq,Zt,Zu,Zw,Zy,Z1,Z4,Z6,ZA,ZB,ZD,ZH,ZI,ZL,ZM,ZQ,ZR,ZT,ZW,ZY,Yc,Ye,Yf,Yg,Yn,Yo,Yq,Yr,Ys,Yz,YK,YN,YP,YR,YT,YU,YX,Xb,Xd,Xe,Xh,Xl,Xn,Xo,Xp,Xq,Xr,Xt,Xx,XI,XJ,XL,XO,XU,XV,XW,XX,Wk,Wl,Wv,Ww,Wx,Wy,Wz,W0,W3,W4,W6,W7,W8,WA,WB,WE,WF,WG,WH,WI,WJ,WK,WL,WM,WN,WO,WP,WS,WT,WU,WY,WZ,Vb,Vc,Vd,Vl,Vm,Vn,Vo,Vp,Vq,Vr,Vt,Vu,Vv,Vw,Vx,Vy,Vz,V0,VI,VJ,VK,VL,VM,VN,VO,VR,VS,VT,VU,VV,VX,VY,VZ,Ua,Ub,Uc,Uf,Uh,Ui,Uj,Un,Uo,Us,Ut,Uu,Ux,Uy,Uz,U0,U1,U2,U3,U4,U5,U6,U7,UA,UB,UC,UD,UU,UV,UW,UX,UY,UZ,Ta,Tb,Tc,Tl,Tm,Tp,Tq,Tr,Ts,Tt,Tv,Tx,Ty,Tz,T3,T6,T7,T8,T9,Sm,Sq,Ss,S3,S4,S5,a1,a2,ht,c0]; all_goals tactic => exact rfl))
end
end Go.Proofs.YtpbeclkpohehgaaDoor
namespace Go.Proofs.YtpbeclkpohehgaaDoor
open Go Go.DL
set_option maxRecDepth 100000
set_option maxHeartbeats 4000000
theorem cL_cons (y : Ld) (r : List Ld) : cL (y :: r) = I y.k :: I y.al :: I y.ah :: I y.cl :: I y.ch :: cL r := rfl
theorem cL_get {l : List Ld} {i : Nat} {x : Ld} (h : l[i]? = some x) : (cL l)[i * 5 + 2]? = some (I x.ah) ∧ (cL l)[i * 5 + 4]? = some (I x.ch) := by
  induction l generalizing i with
  | nil => simp at h
  | cons z q ih =>
    rw [cL_cons]
    cases i with
    | zero =>
      obtain rfl : z = x := by simpa using h
      exact ⟨rfl,rfl⟩
    | succ i =>
      have := ih (i := i) (by simpa using h)
      rw [show (i + 1) * 5 + 2 = i * 5 + 2 + 1 + 1 + 1 + 1 + 1 by omega,show (i + 1) * 5 + 4 = i * 5 + 4 + 1 + 1 + 1 + 1 + 1 by omega]
      simp only [List.getElem?_cons_succ]
      exact this
theorem cL_set2 {l : List Ld} {i : Nat} {x : Ld} (h : l[i]? = some x) (a : Int) : splice (cL l) (i * 5 + 2) [I a] = cL (l.set i { x with ah := a }) := by
  induction l generalizing i with
  | nil => simp at h
  | cons z q ih =>
    rw [cL_cons]
    cases i with
    | zero =>
      obtain rfl : z = x := by simpa using h
      rfl
    | succ i =>
      have := ih (i := i) (by simpa using h)
      rw [List.set_cons_succ,cL_cons,← this]
      unfold splice
      rw [show (i + 1) * 5 + 2 = i * 5 + 2 + 1 + 1 + 1 + 1 + 1 by omega,show i * 5 + 2 + 1 + 1 + 1 + 1 + 1 + [I a].length = i * 5 + 2 + [I a].length + 1 + 1 + 1 + 1 + 1 by simp]
      rfl
theorem cL_set4 {l : List Ld} {i : Nat} {x : Ld} (h : l[i]? = some x) (a : Int) : splice (cL l) (i * 5 + 4) [I a] = cL (l.set i { x with ch := a }) := by
  induction l generalizing i with
  | nil => simp at h
  | cons z q ih =>
    rw [cL_cons]
    cases i with
    | zero =>
      obtain rfl : z = x := by simpa using h
      rfl
    | succ i =>
      have := ih (i := i) (by simpa using h)
      rw [List.set_cons_succ,cL_cons,← this]
      unfold splice
      rw [show (i + 1) * 5 + 4 = i * 5 + 4 + 1 + 1 + 1 + 1 + 1 by omega,show i * 5 + 4 + 1 + 1 + 1 + 1 + 1 + [I a].length = i * 5 + 4 + [I a].length + 1 + 1 + 1 + 1 + 1 by simp]
      rfl
theorem cL_fl (l : List Ld) : (l.map fun x => [I x.k,I x.al,I x.ah,I x.cl,I x.ch]).flatten = cL l := rfl
theorem cL_all (l : List Ld) : ((l.map fun x => [I x.k,I x.al,I x.ah,I x.cl,I x.ch]).all fun r => r.length == 5) = true := by
  rw [List.all_eq_true]
  intro r hr
  obtain ⟨x,_,rfl⟩ := List.mem_map.1 hr
  rfl
section
variable {l : Li}
abbrev frH (l : Li) (h : Int) (cc : List AV) (x : List XB) : XH := some (.blk true (.cells true l.c)) :: some (.blk false (.cells true [kR l.ks,.sl 2 0 5 l.ls.length,tR l.ts,I l.lo,I h])) :: some (.blk true (.cells true cc)) :: x.map some
abbrev frB (l : Li) (j : Nat) : XB := .blk false (.cells true [kR l.ks,lR l.ls,.sl 4 0 1 j,I l.lo,I l.hi])
def frX (l : Li) (w : Nat → Int) : Nat → List XB
  | 0 => [.blk true (.cells true [kR l.ks,lR l.ls,.nilsl,I l.lo,I l.hi])]
  | 1 => [frB l 1,.blk false (.cells true [.sl 5 0 1 1]),.blk true (.cells true [I (w 0)])]
  | 2 => [frB l 2,.blk false (.cells true [.sl 5 0 1 1,.sl 6 0 1 1]),.blk true (.cells true [I (w 0)]),.blk true (.cells true [I (w 1)])]
  | 3 => [frB l 3,.blk false (.cells true [.sl 5 0 1 1,.sl 6 0 1 1,.sl 7 0 1 1]),.blk true (.cells true [I (w 0)]),.blk true (.cells true [I (w 1)]),.blk true (.cells true [I (w 2)])]
  | 4 => [frB l 4,.blk false (.cells true [.sl 5 0 1 1,.sl 6 0 1 1,.sl 7 0 1 1,.sl 8 0 1 1]),.blk true (.cells true [I (w 0)]),.blk true (.cells true [I (w 1)]),.blk true (.cells true [I (w 2)]),.blk true (.cells true [I (w 3)])]
  | 5 => [frB l 5,.blk false (.cells true [.sl 5 0 1 1,.sl 6 0 1 1,.sl 7 0 1 1,.sl 8 0 1 1,.sl 9 0 1 1]),.blk true (.cells true [I (w 0)]),.blk true (.cells true [I (w 1)]),.blk true (.cells true [I (w 2)]),.blk true (.cells true [I (w 3)]),.blk true (.cells true [I (w 4)])]
  | _ => []

def frG (l : Li) (h : Int) (cc : List AV) (w : Nat → Int) (j : Nat) : XH := frH l h cc (frX l w j)
theorem frX_0 (l : Li) (h : Int) (cc : List AV) (w : Nat → Int) : frG l h cc w 0 = [some (.blk true (.cells true l.c)),some (.blk false (.cells true [kR l.ks,.sl 2 0 5 l.ls.length,tR l.ts,I l.lo,I h])),some (.blk true (.cells true cc)),some (.blk true (.cells true [kR l.ks,lR l.ls,.nilsl,I l.lo,I l.hi]))] := rfl
theorem frX_1 (l : Li) (h : Int) (cc : List AV) (w : Nat → Int) : frG l h cc w 1 = [some (.blk true (.cells true l.c)),some (.blk false (.cells true [kR l.ks,.sl 2 0 5 l.ls.length,tR l.ts,I l.lo,I h])),some (.blk true (.cells true cc)),some (.blk false (.cells true [kR l.ks,lR l.ls,.sl 4 0 1 1,I l.lo,I l.hi])),some (.blk false (.cells true [.sl 5 0 1 1])),some (.blk true (.cells true [I (w 0)]))] := rfl
theorem frX_2 (l : Li) (h : Int) (cc : List AV) (w : Nat → Int) : frG l h cc w 2 = [some (.blk true (.cells true l.c)),some (.blk false (.cells true [kR l.ks,.sl 2 0 5 l.ls.length,tR l.ts,I l.lo,I h])),some (.blk true (.cells true cc)),some (.blk false (.cells true [kR l.ks,lR l.ls,.sl 4 0 1 2,I l.lo,I l.hi])),some (.blk false (.cells true [.sl 5 0 1 1,.sl 6 0 1 1])),some (.blk true (.cells true [I (w 0)])),some (.blk true (.cells true [I (w 1)]))] := rfl
theorem frX_3 (l : Li) (h : Int) (cc : List AV) (w : Nat → Int) : frG l h cc w 3 = [some (.blk true (.cells true l.c)),some (.blk false (.cells true [kR l.ks,.sl 2 0 5 l.ls.length,tR l.ts,I l.lo,I h])),some (.blk true (.cells true cc)),some (.blk false (.cells true [kR l.ks,lR l.ls,.sl 4 0 1 3,I l.lo,I l.hi])),some (.blk false (.cells true [.sl 5 0 1 1,.sl 6 0 1 1,.sl 7 0 1 1])),some (.blk true (.cells true [I (w 0)])),some (.blk true (.cells true [I (w 1)])),some (.blk true (.cells true [I (w 2)]))] := rfl
theorem frX_4 (l : Li) (h : Int) (cc : List AV) (w : Nat → Int) : frG l h cc w 4 = [some (.blk true (.cells true l.c)),some (.blk false (.cells true [kR l.ks,.sl 2 0 5 l.ls.length,tR l.ts,I l.lo,I h])),some (.blk true (.cells true cc)),some (.blk false (.cells true [kR l.ks,lR l.ls,.sl 4 0 1 4,I l.lo,I l.hi])),some (.blk false (.cells true [.sl 5 0 1 1,.sl 6 0 1 1,.sl 7 0 1 1,.sl 8 0 1 1])),some (.blk true (.cells true [I (w 0)])),some (.blk true (.cells true [I (w 1)])),some (.blk true (.cells true [I (w 2)])),some (.blk true (.cells true [I (w 3)]))] := rfl
theorem frX_5 (l : Li) (h : Int) (cc : List AV) (w : Nat → Int) : frG l h cc w 5 = [some (.blk true (.cells true l.c)),some (.blk false (.cells true [kR l.ks,.sl 2 0 5 l.ls.length,tR l.ts,I l.lo,I h])),some (.blk true (.cells true cc)),some (.blk false (.cells true [kR l.ks,lR l.ls,.sl 4 0 1 5,I l.lo,I l.hi])),some (.blk false (.cells true [.sl 5 0 1 1,.sl 6 0 1 1,.sl 7 0 1 1,.sl 8 0 1 1,.sl 9 0 1 1])),some (.blk true (.cells true [I (w 0)])),some (.blk true (.cells true [I (w 1)])),some (.blk true (.cells true [I (w 2)])),some (.blk true (.cells true [I (w 3)])),some (.blk true (.cells true [I (w 4)]))] := rfl
theorem round12a (hn : l.ls.length ≤ 5) {h : Int} {cc : List AV} {w : Nat → Int} (hw : ∀ j : Nat,w j = (l.ls.length : Int) - 1 - (j : Int)) {j : Nat} (hj : j < l.ls.length) :
    headX 0 [7,9,10,94,95] (execW progX 12 0 none (match x12l0 with | .loop _ a => a | c => c) (envL [7,9,10,94,95] [.pt 0 0,.pt 1 0,.pt 3 0,I l.ls.length,I (j : Nat)]) (frG l h cc w j)) =
      some ([.pt 0 0,.pt 1 0,.pt 3 0,I l.ls.length,I (j + 1 : Nat)],frG l h cc w (j + 1)) := by
  have a1 := lt_ix hj
  have a2 := up_ix hj (by omega)
  have q1 : IntKind.i64.wrap ((l.ls.length : Int) - 1) = (l.ls.length : Int) - 1 := wrap_ok (by omega) (by omega)
  have q2 : IntKind.i64.wrap ((l.ls.length : Int) - 1 - (j : Int)) = w j := by rw [hw]; exact wrap_ok (by omega) (by omega)
  generalize hz : (l.ls.length : Int) - 1 = z at *
  have hw0 : w 0 = z := by rw [hw,← hz]; omega
  clear hw
  unfold x12l0
  dsimp only
  have hj5 : j = 0 ∨ j = 1 ∨ j = 2 ∨ j = 3 ∨ j = 4 := by omega
  rcases hj5 with rfl | rfl | rfl | rfl | rfl
  · have a1 : ((0 : Int) < (l.ls.length : Int)) = True := a1
    have q2 : IntKind.i64.wrap (z - 0) = w 0 := q2
    have q3 : IntKind.i64.wrap (z - (0 : Nat)) = w 0 := q2
    rw [show (0 + 1 : Nat) = 1 from rfl,frX_0,frX_1]
    generalize w 0 = vv0 at *
    generalize w 1 = vv1 at *
    generalize w 2 = vv2 at *
    generalize w 3 = vv3 at *
    generalize w 4 = vv4 at *
    (sym => (simp [Za,Zb,Zc,Zd,Ze,Zf,Zh,Zl,Zm,Zn,Zt,Zz,Z1,Z4,ZB,ZD,ZH,ZI,ZP,ZW,ZY,Yg,Yh,Yo,Yt,Yu,Yv,Yw,Yx,Yz,Y1,Y3,Y5,Y7,Y8,YN,YR,YT,YU,Xb,Xe,Xh,Xl,Xp,Xq,Xr,Wj,Wm,Wv,Ww,Wx,Wy,Wz,W0,W3,W4,W6,W7,W8,WA,WB,WE,WF,WG,WI,WK,WL,WM,WN,WS,WT,WU,WY,WZ,VI,VJ,VK,VL,VM,VR,VS,VT,VU,VV,VX,VY,VZ,Ua,Uc,Uf,Uh,Un,Us,Ut,Uv,Uw,Uy,Uz,U0,U1,U2,U3,UA,UB,UC,UD,UI,UJ,UK,UL,UO,UP,UQ,UR,US,UT,UV,UW,Ta,Tb,Tc,Tf,Tg,Th,Ti,Tk,Tl,Tm,Tp,Tr,Ts,Tv,Ty,Tz,T3,T8,TB,a1,hz,q1,q2,q3,Int.sub_zero,hw0]; all_goals tactic => exact rfl))
  · have a1 : ((1 : Int) < (l.ls.length : Int)) = True := a1
    have q2 : IntKind.i64.wrap (z - 1) = w 1 := q2
    have q3 : IntKind.i64.wrap (z - (1 : Nat)) = w 1 := q2
    rw [show (1 + 1 : Nat) = 2 from rfl,frX_1,frX_2]
    generalize w 0 = vv0 at *
    generalize w 1 = vv1 at *
    generalize w 2 = vv2 at *
    generalize w 3 = vv3 at *
    generalize w 4 = vv4 at *
    (sym => (simp [Za,Zb,Zc,Zd,Ze,Zf,Zh,Zl,Zm,Zn,Zt,Zz,Z1,Z4,ZB,ZD,ZH,ZI,ZP,ZW,ZY,Yg,Yh,Yo,Yt,Yu,Yv,Yw,Yx,Yz,Y1,Y3,Y5,Y7,Y8,YN,YR,YT,YU,Xb,Xe,Xh,Xl,Xp,Xq,Xr,Wj,Wm,Wv,Ww,Wx,Wy,Wz,W0,W3,W4,W6,W7,W8,WA,WB,WE,WF,WG,WI,WK,WL,WM,WN,WS,WT,WU,WY,WZ,VI,VJ,VK,VL,VM,VR,VS,VT,VU,VV,VX,VY,VZ,Ua,Uc,Uf,Uh,Un,Us,Ut,Uv,Uw,Uy,Uz,U0,U1,U2,U3,UA,UB,UC,UD,UI,UJ,UK,UL,UO,UP,UQ,UR,US,UT,UV,UW,Ta,Tb,Tc,Tf,Tg,Th,Ti,Tk,Tl,Tm,Tp,Tr,Ts,Tv,Ty,Tz,T3,T8,TB,a1,hz,q1,q2,q3]; all_goals tactic => exact rfl))
  · have a1 : ((2 : Int) < (l.ls.length : Int)) = True := a1
    have q2 : IntKind.i64.wrap (z - 2) = w 2 := q2
    have q3 : IntKind.i64.wrap (z - (2 : Nat)) = w 2 := q2
    rw [show (2 + 1 : Nat) = 3 from rfl,frX_2,frX_3]
    generalize w 0 = vv0 at *
    generalize w 1 = vv1 at *
    generalize w 2 = vv2 at *
    generalize w 3 = vv3 at *
    generalize w 4 = vv4 at *
    (sym => (simp [Za,Zb,Zc,Zd,Ze,Zf,Zh,Zl,Zm,Zn,Zt,Zz,Z1,Z4,ZB,ZD,ZH,ZI,ZP,ZW,ZY,Yg,Yh,Yo,Yt,Yu,Yv,Yw,Yx,Yz,Y1,Y3,Y5,Y7,Y8,YN,YR,YT,YU,Xb,Xe,Xh,Xl,Xp,Xq,Xr,Wj,Wm,Wv,Ww,Wx,Wy,Wz,W0,W3,W4,W6,W7,W8,WA,WB,WE,WF,WG,WI,WK,WL,WM,WN,WS,WT,WU,WY,WZ,VI,VJ,VK,VL,VM,VR,VS,VT,VU,VV,VX,VY,VZ,Ua,Uc,Uf,Uh,Un,Us,Ut,Uv,Uw,Uy,Uz,U0,U1,U2,U3,UA,UB,UC,UD,UI,UJ,UK,UL,UO,UP,UQ,UR,US,UT,UV,UW,Ta,Tb,Tc,Tf,Tg,Th,Ti,Tk,Tl,Tm,Tp,Tr,Ts,Tv,Ty,Tz,T3,T8,TB,a1,hz,q1,q2,q3]; all_goals tactic => exact rfl))
  · have a1 : ((3 : Int) < (l.ls.length : Int)) = True := a1
    have q2 : IntKind.i64.wrap (z - 3) = w 3 := q2
    have q3 : IntKind.i64.wrap (z - (3 : Nat)) = w 3 := q2
    rw [show (3 + 1 : Nat) = 4 from rfl,frX_3,frX_4]
    generalize w 0 = vv0 at *
    generalize w 1 = vv1 at *
    generalize w 2 = vv2 at *
    generalize w 3 = vv3 at *
    generalize w 4 = vv4 at *
    (sym => (simp [Za,Zb,Zc,Zd,Ze,Zf,Zh,Zl,Zm,Zn,Zt,Zz,Z1,Z4,ZB,ZD,ZH,ZI,ZP,ZW,ZY,Yg,Yh,Yo,Yt,Yu,Yv,Yw,Yx,Yz,Y1,Y3,Y5,Y7,Y8,YN,YR,YT,YU,Xb,Xe,Xh,Xl,Xp,Xq,Xr,Wj,Wm,Wv,Ww,Wx,Wy,Wz,W0,W3,W4,W6,W7,W8,WA,WB,WE,WF,WG,WI,WK,WL,WM,WN,WS,WT,WU,WY,WZ,VI,VJ,VK,VL,VM,VR,VS,VT,VU,VV,VX,VY,VZ,Ua,Uc,Uf,Uh,Un,Us,Ut,Uv,Uw,Uy,Uz,U0,U1,U2,U3,UA,UB,UC,UD,UI,UJ,UK,UL,UO,UP,UQ,UR,US,UT,UV,UW,Ta,Tb,Tc,Tf,Tg,Th,Ti,Tk,Tl,Tm,Tp,Tr,Ts,Tv,Ty,Tz,T3,T8,TB,a1,hz,q1,q2,q3]; all_goals tactic => exact rfl))
  · have a1 : ((4 : Int) < (l.ls.length : Int)) = True := a1
    have q2 : IntKind.i64.wrap (z - 4) = w 4 := q2
    have q3 : IntKind.i64.wrap (z - (4 : Nat)) = w 4 := q2
    rw [show (4 + 1 : Nat) = 5 from rfl,frX_4,frX_5]
    generalize w 0 = vv0 at *
    generalize w 1 = vv1 at *
    generalize w 2 = vv2 at *
    generalize w 3 = vv3 at *
    generalize w 4 = vv4 at *
    (sym => (simp [Za,Zb,Zc,Zd,Ze,Zf,Zh,Zl,Zm,Zn,Zt,Zz,Z1,Z4,ZB,ZD,ZH,ZI,ZP,ZW,ZY,Yg,Yh,Yo,Yt,Yu,Yv,Yw,Yx,Yz,Y1,Y3,Y5,Y7,Y8,YN,YR,YT,YU,Xb,Xe,Xh,Xl,Xp,Xq,Xr,Wj,Wm,Wv,Ww,Wx,Wy,Wz,W0,W3,W4,W6,W7,W8,WA,WB,WE,WF,WG,WI,WK,WL,WM,WN,WS,WT,WU,WY,WZ,VI,VJ,VK,VL,VM,VR,VS,VT,VU,VV,VX,VY,VZ,Ua,Uc,Uf,Uh,Un,Us,Ut,Uv,Uw,Uy,Uz,U0,U1,U2,U3,UA,UB,UC,UD,UI,UJ,UK,UL,UO,UP,UQ,UR,US,UT,UV,UW,Ta,Tb,Tc,Tf,Tg,Th,Ti,Tk,Tl,Tm,Tp,Tr,Ts,Tv,Ty,Tz,T3,T8,TB,a1,hz,q1,q2,q3]; all_goals tactic => exact rfl))
end
end Go.Proofs.YtpbeclkpohehgaaDoor
