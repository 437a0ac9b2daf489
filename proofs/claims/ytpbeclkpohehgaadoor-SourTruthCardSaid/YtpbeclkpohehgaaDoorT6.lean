/- Parts of a proof, joined: K47 K48 K49 K50 K51 K52 K53 K54 K55 K56 K57 K58 K59 K60 K61 K62 K63 K64 K65 K66 K67 K68 K69 K70 K71 K72 K73 K74 K75 K76 K77 K78 K79 K80 K81. No statement of the seed is proved here. -/
import Derived.Test.YtpbeclkpohehgaaDoorT5
set_option linter.unusedSimpArgs false
set_option linter.unusedVariables false
set_option linter.unusedSectionVars false
namespace Go.Proofs.YtpbeclkpohehgaaDoor
open Go Go.DL
set_option maxRecDepth 100000
set_option maxHeartbeats 4000000
theorem w44 (a b : Int) : runW progX 44 [I a,I b] [] = some (.agg [I a,I b],[]) := by
  rw [r44 (by simp)]; unfold x44; dsimp only
  (sym => (simp [irem2,iquo2,remF,Za,Zb,Zc,Zd,Ze,Zf,Zh,Zl,Zm,Zu,Zv,Zz,ZJ,ZK,YG,YK,YM,YX,Xd,Xf,Xo,Xq,XL,XN,XW,XX,We,Wf,Wg,Wh,Wi,Wj,Wk,Wl,Wm,Wu,Wy,W0,W3,W4,WT,Vf,Vg,Vh,Vi,Vj,Vk,Vl,Vn,Vo,Vp,Vr,Vs,V1,V2,V3,V4,V5,V6,V8,V9,VA,VF,VO,VY,VZ,Ua,Ub,Uc,Ud,Ue,Uf,Ui,Uj,Uk,Ul,Um,Un,U9,UA,UD,UF,UG,UN,UO,US,UZ,Tz]; all_goals tactic => exact rfl))
abbrev P5.ld (x : P5) : Ld := ⟨((x.e % 2 : Nat) : Int),(x.a : Int),((x.a + x.b % 50 : Nat) : Int),((1 + x.c % 60 : Nat) : Int),((1 + x.c % 60 + x.d % 30 : Nat) : Int)⟩
section
variable {q : Qu}
abbrev hN0 (q : Qu) : XH := [some (.blk true (.cells true q.c)),bZ,some (.blk false (.cells true [.sl 3 0 1 2,.nilsl,.nilsl,I (q.s0 : Nat),I ((q.s0 + q.s1 : Nat) : Int)])),some (.blk true (.cells true [rS (mdK q.k0),rS (mdK q.k1)])),some (.blk true (.cells true [.nilsl,.nilsl,.nilsl]))]
abbrev hN (q : Qu) (L : List Ld) (n : Nat) (cs : List AV) (bs : XH) : XH := [some (.blk true (.cells true q.c)),bZ,some (.blk false (.cells true [.sl 3 0 1 2,.sl 4 0 5 n,.nilsl,I (q.s0 : Nat),I ((q.s0 + q.s1 : Nat) : Int)])),some (.blk true (.cells true [rS (mdK q.k0),rS (mdK q.k1)])),some (.blk true (.cells true (cL L))),some (.blk false (.cells true cs))] ++ bs
structure LdF (x : P5) : Prop where
  wa : IntKind.i64.wrap (x.a : Int) = (x.a : Int)
  wb : IntKind.i64.wrap (x.b : Int) = (x.b : Int)
  wc : IntKind.i64.wrap (x.c : Int) = (x.c : Int)
  wd : IntKind.i64.wrap (x.d : Int) = (x.d : Int)
  we : IntKind.i64.wrap (x.e : Int) = (x.e : Int)
  m60 : tmZ (x.c : Int) 60 = ((x.c % 60 : Nat) : Int)
  m2 : tmZ (x.e : Int) 2 = ((x.e % 2 : Nat) : Int)
  m50 : tmZ (x.b : Int) 50 = ((x.b % 50 : Nat) : Int)
  m30 : tmZ (x.d : Int) 30 = ((x.d % 30 : Nat) : Int)
  d2 : tdZ (x.e : Int) 2 = ((x.e / 2 : Nat) : Int)
  wd2 : IntKind.i64.wrap (((x.e / 2 : Nat) : Int)) = ((x.e / 2 : Nat) : Int)
  m3 : tmZ ((x.e / 2 : Nat) : Int) 3 = ((x.e / 2 % 3 : Nat) : Int)
  s1 : IntKind.i64.wrap (1 + ((x.c % 60 : Nat) : Int)) = ((1 + x.c % 60 : Nat) : Int)
  s2 : IntKind.i64.wrap ((x.a : Int) + ((x.b % 50 : Nat) : Int)) = ((x.a + x.b % 50 : Nat) : Int)
  s3 : IntKind.i64.wrap (((1 + x.c % 60 : Nat) : Int) + ((x.d % 30 : Nat) : Int)) = ((1 + x.c % 60 + x.d % 30 : Nat) : Int)
theorem ldF {x : P5} (h : x.a < 256 ∧ x.b < 256 ∧ x.c < 256 ∧ x.d < 256 ∧ x.e < 256) : LdF x := by
  obtain ⟨h1,h2,h3,h4,h5⟩ := h
  refine ⟨wr8 h1,wr8 h2,wr8 h3,wr8 h4,wr8 h5,tmod_n _ 60,tmod_n _ 2,tmod_n _ 50,tmod_n _ 30,tdiv_n _ 2,?_,tmod_n _ 3,?_,?_,?_⟩
  all_goals rw [wrap_ok (by omega) (by omega)]
  all_goals omega

theorem r39_000_0 (hq : q.Ok) {x : P5} (hx : q.ls[0]? = some x) (ht : x.e / 2 % 3 = 0) :
    headX 0 [1,2,3,10,11] (execW progX 39 0 none (match x39l2 with | .loop _ a => a | c => c) (envL [1,2,3,10,11] [.pt 0 0,.pt 1 0,.pt 2 0,.pt 4 0,I 0]) (hN0 q)) =
      some ([.pt 0 0,.pt 1 0,.pt 2 0,.pt 5 0,I 1],hN q [x.ld] 1 [.sl 6 0 1 (1),.nilsl,.nilsl] [some (.blk true (.cells true ([I 0])))]) := by
  obtain ⟨wa,wb,wc,wd,we,m60,m2,m50,m30,d2,wd2,m3,s1,s2,s3⟩ := ldF (hq.ls x (List.mem_of_getElem? hx))
  have a1 : ((0 : Int) < (q.ls.length : Int)) = True := eq_true (by have := lt_of hx; omega)
  have c1 : cL [x.ld] = [I (x.e % 2 : Nat),I (x.a : Nat),I (x.a + x.b % 50 : Nat),I (1 + x.c % 60 : Nat),I (1 + x.c % 60 + x.d % 30 : Nat)] := rfl
  rw [ht] at m3
  unfold hN
  rw [c1]
  generalize x.e % 2 = ee at *
  generalize 1 + x.c % 60 + x.d % 30 = cd at *
  generalize 1 + x.c % 60 = cc at *
  generalize x.a + x.b % 50 = ab at *
  generalize x.e / 2 = e2 at *
  generalize x.d % 30 = dd at *
  generalize x.c % 60 = c6 at *
  generalize x.b % 50 = bb at *
  unfold x39l2
  dsimp only
  rcases ptf ((128 : Int) < (x.e : Int)) with h8 | h8
  · (sym => (simp [irem2,iquo2,remF,Za,Zb,Zc,Zd,Ze,Zf,Zh,Zi,Zl,Zm,Zn,Zo,Zp,Zr,Zu,Zv,Zx,Zz,Z0,Z2,Z5,Z6,Z7,Z8,ZD,ZF,ZG,ZI,ZJ,ZK,ZL,ZM,ZP,ZQ,ZR,ZS,ZT,ZU,ZV,ZX,ZY,Ya,Yc,Ye,Yf,Yh,Yr,Yt,Yx,Y0,Y1,Y2,Y4,Y6,Y7,Y8,Y9,YB,YG,YK,YP,YQ,YT,YX,YY,Xa,Xd,Xf,Xi,Xj,Xl,XW,XX,XZ,Wc,Wd,We,Wf,Wg,Wh,Wi,Wj,Wk,Wl,Wn,Wo,Wp,Wr,Ws,Wu,Wv,Ww,Wx,Wy,Wz,W0,W3,W4,W5,W6,W7,WA,WB,WC,WF,WG,WH,WI,WJ,WL,WM,WN,WO,Vt,Vu,Vv,Vw,Vx,Vy,V2,V3,V4,V5,V6,V8,V9,VA,VB,VC,VD,VF,VH,VJ,VK,VL,VO,VS,VT,VU,VV,VW,VX,VY,VZ,Ua,Ub,Uc,Ud,Uk,Ul,Um,Un,Uv,Uw,Ux,Uy,U2,U3,U4,U5,U9,UA,UB,UC,UD,UE,UF,UG,UH,UJ,UK,UL,UM,UN,UP,UR,US,UV,UY,UZ,Ta,Tf,Ti,Tw,Tx,Ty,a1,hx,wa,wb,wc,wd,we,m60,m2,m50,m30,d2,wd2,m3,s1,s2,s3,w44,h8]; all_goals tactic => exact rfl))
  · (sym => (simp [irem2,iquo2,remF,Za,Zb,Zc,Zd,Ze,Zf,Zh,Zi,Zl,Zm,Zn,Zo,Zp,Zr,Zu,Zv,Zx,Zz,Z0,Z2,Z5,Z6,Z7,Z8,ZD,ZF,ZG,ZI,ZJ,ZK,ZL,ZM,ZP,ZQ,ZR,ZS,ZT,ZU,ZV,ZX,ZY,Ya,Yc,Ye,Yf,Yh,Yr,Yt,Yx,Y0,Y1,Y2,Y4,Y6,Y7,Y8,Y9,YB,YG,YK,YP,YQ,YT,YX,YY,Xa,Xd,Xf,Xi,Xj,Xl,XW,XX,XZ,Wc,Wd,We,Wf,Wg,Wh,Wi,Wj,Wk,Wl,Wn,Wo,Wp,Wr,Ws,Wu,Wv,Ww,Wx,Wy,Wz,W0,W3,W4,W5,W6,W7,WA,WB,WC,WF,WG,WH,WI,WJ,WL,WM,WN,WO,Vt,Vu,Vv,Vw,Vx,Vy,V2,V3,V4,V5,V6,V8,V9,VA,VB,VC,VD,VF,VH,VJ,VK,VL,VO,VS,VT,VU,VV,VW,VX,VY,VZ,Ua,Ub,Uc,Ud,Uk,Ul,Um,Un,Uv,Uw,Ux,Uy,U2,U3,U4,U5,U9,UA,UB,UC,UD,UE,UF,UG,UH,UJ,UK,UL,UM,UN,UP,UR,US,UV,UY,UZ,Ta,Tf,Ti,Tw,Tx,Ty,a1,hx,wa,wb,wc,wd,we,m60,m2,m50,m30,d2,wd2,m3,s1,s2,s3,w44,h8]; all_goals tactic => exact rfl))
theorem r39_000_1 (hq : q.Ok) {x : P5} (hx : q.ls[0]? = some x) (ht : x.e / 2 % 3 = 1) :
    headX 0 [1,2,3,10,11] (execW progX 39 0 none (match x39l2 with | .loop _ a => a | c => c) (envL [1,2,3,10,11] [.pt 0 0,.pt 1 0,.pt 2 0,.pt 4 0,I 0]) (hN0 q)) =
      some ([.pt 0 0,.pt 1 0,.pt 2 0,.pt 5 0,I 1],hN q [x.ld] 1 [.nilsl,.sl 6 0 1 (1),.nilsl] [some (.blk true (.cells true ([I 0])))]) := by
  obtain ⟨wa,wb,wc,wd,we,m60,m2,m50,m30,d2,wd2,m3,s1,s2,s3⟩ := ldF (hq.ls x (List.mem_of_getElem? hx))
  have a1 : ((0 : Int) < (q.ls.length : Int)) = True := eq_true (by have := lt_of hx; omega)
  have c1 : cL [x.ld] = [I (x.e % 2 : Nat),I (x.a : Nat),I (x.a + x.b % 50 : Nat),I (1 + x.c % 60 : Nat),I (1 + x.c % 60 + x.d % 30 : Nat)] := rfl
  rw [ht] at m3
  unfold hN
  rw [c1]
  generalize x.e % 2 = ee at *
  generalize 1 + x.c % 60 + x.d % 30 = cd at *
  generalize 1 + x.c % 60 = cc at *
  generalize x.a + x.b % 50 = ab at *
  generalize x.e / 2 = e2 at *
  generalize x.d % 30 = dd at *
  generalize x.c % 60 = c6 at *
  generalize x.b % 50 = bb at *
  unfold x39l2
  dsimp only
  rcases ptf ((128 : Int) < (x.e : Int)) with h8 | h8
  · (sym => (simp [irem2,iquo2,remF,Za,Zb,Zc,Zd,Ze,Zf,Zh,Zi,Zl,Zm,Zn,Zo,Zp,Zr,Zu,Zv,Zx,Zz,Z0,Z2,Z5,Z6,Z7,Z8,ZD,ZF,ZG,ZI,ZJ,ZK,ZL,ZM,ZP,ZQ,ZR,ZS,ZT,ZU,ZV,ZX,ZY,Ya,Yc,Ye,Yf,Yh,Yr,Yt,Yx,Y0,Y2,Y3,Y4,Y6,Y7,Y8,Y9,YB,YG,YK,YP,YQ,YT,YX,YY,Xa,Xd,Xf,Xi,Xj,Xl,XW,XX,XZ,Wc,Wd,We,Wf,Wg,Wh,Wi,Wj,Wk,Wl,Wn,Wo,Wp,Wr,Ws,Wu,Wv,Ww,Wx,Wy,Wz,W0,W3,W4,W5,W6,W7,WA,WB,WC,WF,WG,WH,WI,WJ,WL,WM,WN,WO,Vt,Vu,Vv,Vw,Vx,Vy,V2,V3,V4,V5,V6,V8,V9,VA,VB,VC,VD,VF,VH,VJ,VK,VL,VO,VS,VT,VU,VV,VW,VX,VY,VZ,Ua,Ub,Uc,Ud,Uk,Ul,Um,Un,Uv,Uw,Ux,Uy,U2,U3,U4,U5,U9,UA,UB,UC,UD,UE,UF,UG,UH,UJ,UK,UL,UM,UN,UP,UR,US,UV,UY,UZ,Ta,Tf,Ti,Tw,Tx,Ty,a1,hx,wa,wb,wc,wd,we,m60,m2,m50,m30,d2,wd2,m3,s1,s2,s3,w44,h8]; all_goals tactic => exact rfl))
  · (sym => (simp [irem2,iquo2,remF,Za,Zb,Zc,Zd,Ze,Zf,Zh,Zi,Zl,Zm,Zn,Zo,Zp,Zr,Zu,Zv,Zx,Zz,Z0,Z2,Z5,Z6,Z7,Z8,ZD,ZF,ZG,ZI,ZJ,ZK,ZL,ZM,ZP,ZQ,ZR,ZS,ZT,ZU,ZV,ZX,ZY,Ya,Yc,Ye,Yf,Yh,Yr,Yt,Yx,Y0,Y2,Y3,Y4,Y6,Y7,Y8,Y9,YB,YG,YK,YP,YQ,YT,YX,YY,Xa,Xd,Xf,Xi,Xj,Xl,XW,XX,XZ,Wc,Wd,We,Wf,Wg,Wh,Wi,Wj,Wk,Wl,Wn,Wo,Wp,Wr,Ws,Wu,Wv,Ww,Wx,Wy,Wz,W0,W3,W4,W5,W6,W7,WA,WB,WC,WF,WG,WH,WI,WJ,WL,WM,WN,WO,Vt,Vu,Vv,Vw,Vx,Vy,V2,V3,V4,V5,V6,V8,V9,VA,VB,VC,VD,VF,VH,VJ,VK,VL,VO,VS,VT,VU,VV,VW,VX,VY,VZ,Ua,Ub,Uc,Ud,Uk,Ul,Um,Un,Uv,Uw,Ux,Uy,U2,U3,U4,U5,U9,UA,UB,UC,UD,UE,UF,UG,UH,UJ,UK,UL,UM,UN,UP,UR,US,UV,UY,UZ,Ta,Tf,Ti,Tw,Tx,Ty,a1,hx,wa,wb,wc,wd,we,m60,m2,m50,m30,d2,wd2,m3,s1,s2,s3,w44,h8]; all_goals tactic => exact rfl))
theorem r39_000_2 (hq : q.Ok) {x : P5} (hx : q.ls[0]? = some x) (ht : x.e / 2 % 3 = 2) :
    headX 0 [1,2,3,10,11] (execW progX 39 0 none (match x39l2 with | .loop _ a => a | c => c) (envL [1,2,3,10,11] [.pt 0 0,.pt 1 0,.pt 2 0,.pt 4 0,I 0]) (hN0 q)) =
      some ([.pt 0 0,.pt 1 0,.pt 2 0,.pt 5 0,I 1],hN q [x.ld] 1 [.nilsl,.nilsl,.sl 6 0 1 (1)] [some (.blk true (.cells true ([I 0])))]) := by
  obtain ⟨wa,wb,wc,wd,we,m60,m2,m50,m30,d2,wd2,m3,s1,s2,s3⟩ := ldF (hq.ls x (List.mem_of_getElem? hx))
  have a1 : ((0 : Int) < (q.ls.length : Int)) = True := eq_true (by have := lt_of hx; omega)
  have c1 : cL [x.ld] = [I (x.e % 2 : Nat),I (x.a : Nat),I (x.a + x.b % 50 : Nat),I (1 + x.c % 60 : Nat),I (1 + x.c % 60 + x.d % 30 : Nat)] := rfl
  rw [ht] at m3
  unfold hN
  rw [c1]
  generalize x.e % 2 = ee at *
  generalize 1 + x.c % 60 + x.d % 30 = cd at *
  generalize 1 + x.c % 60 = cc at *
  generalize x.a + x.b % 50 = ab at *
  generalize x.e / 2 = e2 at *
  generalize x.d % 30 = dd at *
  generalize x.c % 60 = c6 at *
  generalize x.b % 50 = bb at *
  unfold x39l2
  dsimp only
  rcases ptf ((128 : Int) < (x.e : Int)) with h8 | h8
  · (sym => (simp [irem2,iquo2,remF,Za,Zb,Zc,Zd,Ze,Zf,Zh,Zi,Zl,Zm,Zn,Zo,Zp,Zr,Zu,Zv,Zx,Zz,Z0,Z2,Z5,Z6,Z7,Z8,ZD,ZF,ZG,ZI,ZJ,ZK,ZL,ZM,ZP,ZQ,ZR,ZS,ZT,ZU,ZV,ZX,ZY,Ya,Yc,Ye,Yf,Yh,Yr,Yt,Yx,Y0,Y2,Y4,Y5,Y6,Y7,Y8,Y9,YB,YG,YK,YP,YQ,YT,YX,YY,Xa,Xd,Xf,Xi,Xj,Xl,XW,XX,XZ,Wc,Wd,We,Wf,Wg,Wh,Wi,Wj,Wk,Wl,Wn,Wo,Wp,Wr,Ws,Wu,Wv,Ww,Wx,Wy,Wz,W0,W3,W4,W5,W6,W7,WA,WB,WC,WF,WG,WH,WI,WJ,WL,WM,WN,WO,Vt,Vu,Vv,Vw,Vx,Vy,V2,V3,V4,V5,V6,V8,V9,VA,VB,VC,VD,VF,VH,VJ,VK,VL,VO,VS,VT,VU,VV,VW,VX,VY,VZ,Ua,Ub,Uc,Ud,Uk,Ul,Um,Un,Uv,Uw,Ux,Uy,U2,U3,U4,U5,U9,UA,UB,UC,UD,UE,UF,UG,UH,UJ,UK,UL,UM,UN,UP,UR,US,UV,UY,UZ,Ta,Tf,Ti,Tw,Tx,Ty,a1,hx,wa,wb,wc,wd,we,m60,m2,m50,m30,d2,wd2,m3,s1,s2,s3,w44,h8]; all_goals tactic => exact rfl))
  · (sym => (simp [irem2,iquo2,remF,Za,Zb,Zc,Zd,Ze,Zf,Zh,Zi,Zl,Zm,Zn,Zo,Zp,Zr,Zu,Zv,Zx,Zz,Z0,Z2,Z5,Z6,Z7,Z8,ZD,ZF,ZG,ZI,ZJ,ZK,ZL,ZM,ZP,ZQ,ZR,ZS,ZT,ZU,ZV,ZX,ZY,Ya,Yc,Ye,Yf,Yh,Yr,Yt,Yx,Y0,Y2,Y4,Y5,Y6,Y7,Y8,Y9,YB,YG,YK,YP,YQ,YT,YX,YY,Xa,Xd,Xf,Xi,Xj,Xl,XW,XX,XZ,Wc,Wd,We,Wf,Wg,Wh,Wi,Wj,Wk,Wl,Wn,Wo,Wp,Wr,Ws,Wu,Wv,Ww,Wx,Wy,Wz,W0,W3,W4,W5,W6,W7,WA,WB,WC,WF,WG,WH,WI,WJ,WL,WM,WN,WO,Vt,Vu,Vv,Vw,Vx,Vy,V2,V3,V4,V5,V6,V8,V9,VA,VB,VC,VD,VF,VH,VJ,VK,VL,VO,VS,VT,VU,VV,VW,VX,VY,VZ,Ua,Ub,Uc,Ud,Uk,Ul,Um,Un,Uv,Uw,Ux,Uy,U2,U3,U4,U5,U9,UA,UB,UC,UD,UE,UF,UG,UH,UJ,UK,UL,UM,UN,UP,UR,US,UV,UY,UZ,Ta,Tf,Ti,Tw,Tx,Ty,a1,hx,wa,wb,wc,wd,we,m60,m2,m50,m30,d2,wd2,m3,s1,s2,s3,w44,h8]; all_goals tactic => exact rfl))
theorem r39_001_0 (hq : q.Ok) {x : P5} {i : Nat} (hi : i < 5) (hx : q.ls[i]? = some x) (ht : x.e / 2 % 3 = 0) {L : List Ld} (hL : L.length = i) (a2 : Int) (r2 : List Int) (hr2 : r2.length ≤ 5) :
    headX 0 [1,2,3,10,11] (execW progX 39 0 none (match x39l2 with | .loop _ a => a | c => c) (envL [1,2,3,10,11] [.pt 0 0,.pt 1 0,.pt 2 0,.pt 5 0,I (i : Nat)]) (hN q L i [.nilsl,.nilsl,.sl 6 0 1 (r2.length + 1)] [some (.blk true (.cells true (I a2 :: r2.map I)))])) =
      some ([.pt 0 0,.pt 1 0,.pt 2 0,.pt 5 0,I (i + 1 : Nat)],hN q (L ++ [x.ld]) (i + 1) [.sl 6 0 1 (1),.nilsl,.sl 7 0 1 (r2.length + 1)] [some (.blk true (.cells true ([I (i : Nat)]))),some (.blk true (.cells true (I a2 :: r2.map I)))]) := by
  obtain ⟨wa,wb,wc,wd,we,m60,m2,m50,m30,d2,wd2,m3,s1,s2,s3⟩ := ldF (hq.ls x (List.mem_of_getElem? hx))
  have a1 := lt_ix (lt_of hx)
  have a2 := up_ix hi (by omega)
  have a5 : ((i : Int) < 5) = True := eq_true (by omega)
  have cl := cL_len L
  rw [hL] at cl
  have ca := cL_app L x.ld
  have l1 : ((i + 1) * 40 ≤ 1099511627776) = True := eq_true (by omega)
  have l2 : (i + 1 ≤ 1099511627776) = True := eq_true (by omega)
  rw [ht] at m3
  unfold hN
  rw [ca]
  unfold P5.ld Ld.row
  dsimp only
  clear ca
  generalize x.e % 2 = ee at *
  generalize 1 + x.c % 60 + x.d % 30 = cd at *
  generalize 1 + x.c % 60 = cc at *
  generalize x.a + x.b % 50 = ab at *
  generalize x.e / 2 = e2 at *
  generalize x.d % 30 = dd at *
  generalize x.c % 60 = c6 at *
  generalize x.b % 50 = bb at *
  generalize cL L = cL0 at *
  unfold x39l2
  dsimp only
  rcases ptf ((128 : Int) < (x.e : Int)) with h8 | h8
  · (sym => (simp [irem2,iquo2,remF,Za,Zb,Zc,Zd,Ze,Zf,Zh,Zi,Zl,Zm,Zn,Zo,Zp,Zr,Zu,Zv,Zx,Zz,Z0,Z2,Z5,Z6,Z7,Z8,ZD,ZF,ZG,ZI,ZJ,ZK,ZL,ZM,ZP,ZQ,ZR,ZS,ZT,ZU,ZV,ZX,ZY,Ya,Yc,Ye,Yf,Yh,Yr,Yt,Yv,Yw,Y0,Y1,Y2,Y4,Y6,Y7,Y8,Y9,YB,YG,YK,YP,YQ,YT,YX,YY,Xa,Xd,Xf,Xi,Xj,Xl,XW,XX,XZ,Wb,Wc,We,Wf,Wg,Wh,Wi,Wj,Wk,Wl,Wn,Wo,Wp,Wr,Ws,Wu,Wv,Ww,Wx,Wy,Wz,W0,W3,W4,W5,W6,W7,WA,WB,WC,WF,WG,WH,WI,WJ,WL,WM,WN,WO,Vt,Vu,Vv,Vw,Vx,Vy,V2,V3,V4,V5,V6,V8,V9,VA,VB,VC,VD,VF,VH,VJ,VK,VL,VO,VS,VT,VU,VV,VW,VX,VY,VZ,Ua,Ub,Uc,Ud,Uk,Ul,Um,Un,Uv,Uw,Ux,Uy,U2,U3,U4,U5,U6,U7,U9,UA,UB,UC,UD,UE,UF,UG,UH,UI,UJ,UK,UL,UM,UN,UP,UR,US,UV,UY,UZ,Ta,Tf,Ti,Tw,Ty,a1,a2,a5,cl,l1,l2,hx,wa,wb,wc,wd,we,m60,m2,m50,m30,d2,wd2,m3,s1,s2,s3,w44,h8]; all_goals tactic => exact rfl))
  · (sym => (simp [irem2,iquo2,remF,Za,Zb,Zc,Zd,Ze,Zf,Zh,Zi,Zl,Zm,Zn,Zo,Zp,Zr,Zu,Zv,Zx,Zz,Z0,Z2,Z5,Z6,Z7,Z8,ZD,ZF,ZG,ZI,ZJ,ZK,ZL,ZM,ZP,ZQ,ZR,ZS,ZT,ZU,ZV,ZX,ZY,Ya,Yc,Ye,Yf,Yh,Yr,Yt,Yv,Yw,Y0,Y1,Y2,Y4,Y6,Y7,Y8,Y9,YB,YG,YK,YP,YQ,YT,YX,YY,Xa,Xd,Xf,Xi,Xj,Xl,XW,XX,XZ,Wb,Wc,We,Wf,Wg,Wh,Wi,Wj,Wk,Wl,Wn,Wo,Wp,Wr,Ws,Wu,Wv,Ww,Wx,Wy,Wz,W0,W3,W4,W5,W6,W7,WA,WB,WC,WF,WG,WH,WI,WJ,WL,WM,WN,WO,Vt,Vu,Vv,Vw,Vx,Vy,V2,V3,V4,V5,V6,V8,V9,VA,VB,VC,VD,VF,VH,VJ,VK,VL,VO,VS,VT,VU,VV,VW,VX,VY,VZ,Ua,Ub,Uc,Ud,Uk,Ul,Um,Un,Uv,Uw,Ux,Uy,U2,U3,U4,U5,U6,U7,U9,UA,UB,UC,UD,UE,UF,UG,UH,UI,UJ,UK,UL,UM,UN,UP,UR,US,UV,UY,UZ,Ta,Tf,Ti,Tw,Ty,a1,a2,a5,cl,l1,l2,hx,wa,wb,wc,wd,we,m60,m2,m50,m30,d2,wd2,m3,s1,s2,s3,w44,h8]; all_goals tactic => exact rfl))
theorem r39_001_1 (hq : q.Ok) {x : P5} {i : Nat} (hi : i < 5) (hx : q.ls[i]? = some x) (ht : x.e / 2 % 3 = 1) {L : List Ld} (hL : L.length = i) (a2 : Int) (r2 : List Int) (hr2 : r2.length ≤ 5) :
    headX 0 [1,2,3,10,11] (execW progX 39 0 none (match x39l2 with | .loop _ a => a | c => c) (envL [1,2,3,10,11] [.pt 0 0,.pt 1 0,.pt 2 0,.pt 5 0,I (i : Nat)]) (hN q L i [.nilsl,.nilsl,.sl 6 0 1 (r2.length + 1)] [some (.blk true (.cells true (I a2 :: r2.map I)))])) =
      some ([.pt 0 0,.pt 1 0,.pt 2 0,.pt 5 0,I (i + 1 : Nat)],hN q (L ++ [x.ld]) (i + 1) [.nilsl,.sl 6 0 1 (1),.sl 7 0 1 (r2.length + 1)] [some (.blk true (.cells true ([I (i : Nat)]))),some (.blk true (.cells true (I a2 :: r2.map I)))]) := by
  obtain ⟨wa,wb,wc,wd,we,m60,m2,m50,m30,d2,wd2,m3,s1,s2,s3⟩ := ldF (hq.ls x (List.mem_of_getElem? hx))
  have a1 := lt_ix (lt_of hx)
  have a2 := up_ix hi (by omega)
  have a5 : ((i : Int) < 5) = True := eq_true (by omega)
  have cl := cL_len L
  rw [hL] at cl
  have ca := cL_app L x.ld
  have l1 : ((i + 1) * 40 ≤ 1099511627776) = True := eq_true (by omega)
  have l2 : (i + 1 ≤ 1099511627776) = True := eq_true (by omega)
  rw [ht] at m3
  unfold hN
  rw [ca]
  unfold P5.ld Ld.row
  dsimp only
  clear ca
  generalize x.e % 2 = ee at *
  generalize 1 + x.c % 60 + x.d % 30 = cd at *
  generalize 1 + x.c % 60 = cc at *
  generalize x.a + x.b % 50 = ab at *
  generalize x.e / 2 = e2 at *
  generalize x.d % 30 = dd at *
  generalize x.c % 60 = c6 at *
  generalize x.b % 50 = bb at *
  generalize cL L = cL0 at *
  unfold x39l2
  dsimp only
  rcases ptf ((128 : Int) < (x.e : Int)) with h8 | h8
  · (sym => (simp [irem2,iquo2,remF,Za,Zb,Zc,Zd,Ze,Zf,Zh,Zi,Zl,Zm,Zn,Zo,Zp,Zr,Zu,Zv,Zx,Zz,Z0,Z2,Z5,Z6,Z7,Z8,ZD,ZF,ZG,ZI,ZJ,ZK,ZL,ZM,ZP,ZQ,ZR,ZS,ZT,ZU,ZV,ZX,ZY,Ya,Yc,Ye,Yf,Yh,Yr,Yt,Yv,Yw,Y0,Y2,Y3,Y4,Y6,Y7,Y8,Y9,YB,YG,YK,YP,YQ,YT,YX,YY,Xa,Xd,Xf,Xi,Xj,Xl,XW,XX,XZ,Wb,Wc,We,Wf,Wg,Wh,Wi,Wj,Wk,Wl,Wn,Wo,Wp,Wr,Ws,Wu,Wv,Ww,Wx,Wy,Wz,W0,W3,W4,W5,W6,W7,WA,WB,WC,WF,WG,WH,WI,WJ,WL,WM,WN,WO,Vt,Vu,Vv,Vw,Vx,Vy,V2,V3,V4,V5,V6,V8,V9,VA,VB,VC,VD,VF,VH,VJ,VK,VL,VO,VS,VT,VU,VV,VW,VX,VY,VZ,Ua,Ub,Uc,Ud,Uk,Ul,Um,Un,Uv,Uw,Ux,Uy,U2,U3,U4,U5,U6,U7,U9,UA,UB,UC,UD,UE,UF,UG,UH,UI,UJ,UK,UL,UM,UN,UP,UR,US,UV,UY,UZ,Ta,Tf,Ti,Tw,Ty,a1,a2,a5,cl,l1,l2,hx,wa,wb,wc,wd,we,m60,m2,m50,m30,d2,wd2,m3,s1,s2,s3,w44,h8]; all_goals tactic => exact rfl))
  · (sym => (simp [irem2,iquo2,remF,Za,Zb,Zc,Zd,Ze,Zf,Zh,Zi,Zl,Zm,Zn,Zo,Zp,Zr,Zu,Zv,Zx,Zz,Z0,Z2,Z5,Z6,Z7,Z8,ZD,ZF,ZG,ZI,ZJ,ZK,ZL,ZM,ZP,ZQ,ZR,ZS,ZT,ZU,ZV,ZX,ZY,Ya,Yc,Ye,Yf,Yh,Yr,Yt,Yv,Yw,Y0,Y2,Y3,Y4,Y6,Y7,Y8,Y9,YB,YG,YK,YP,YQ,YT,YX,YY,Xa,Xd,Xf,Xi,Xj,Xl,XW,XX,XZ,Wb,Wc,We,Wf,Wg,Wh,Wi,Wj,Wk,Wl,Wn,Wo,Wp,Wr,Ws,Wu,Wv,Ww,Wx,Wy,Wz,W0,W3,W4,W5,W6,W7,WA,WB,WC,WF,WG,WH,WI,WJ,WL,WM,WN,WO,Vt,Vu,Vv,Vw,Vx,Vy,V2,V3,V4,V5,V6,V8,V9,VA,VB,VC,VD,VF,VH,VJ,VK,VL,VO,VS,VT,VU,VV,VW,VX,VY,VZ,Ua,Ub,Uc,Ud,Uk,Ul,Um,Un,Uv,Uw,Ux,Uy,U2,U3,U4,U5,U6,U7,U9,UA,UB,UC,UD,UE,UF,UG,UH,UI,UJ,UK,UL,UM,UN,UP,UR,US,UV,UY,UZ,Ta,Tf,Ti,Tw,Ty,a1,a2,a5,cl,l1,l2,hx,wa,wb,wc,wd,we,m60,m2,m50,m30,d2,wd2,m3,s1,s2,s3,w44,h8]; all_goals tactic => exact rfl))
theorem r39_001_2 (hq : q.Ok) {x : P5} {i : Nat} (hi : i < 5) (hx : q.ls[i]? = some x) (ht : x.e / 2 % 3 = 2) (h8 : ¬ 128 < x.e) {L : List Ld} (hL : L.length = i) (a2 : Int) (r2 : List Int) (hr2 : r2.length ≤ 5) :
    headX 0 [1,2,3,10,11] (execW progX 39 0 none (match x39l2 with | .loop _ a => a | c => c) (envL [1,2,3,10,11] [.pt 0 0,.pt 1 0,.pt 2 0,.pt 5 0,I (i : Nat)]) (hN q L i [.nilsl,.nilsl,.sl 6 0 1 (r2.length + 1)] [some (.blk true (.cells true (I a2 :: r2.map I)))])) =
      some ([.pt 0 0,.pt 1 0,.pt 2 0,.pt 5 0,I (i + 1 : Nat)],hN q (L ++ [x.ld]) (i + 1) [.nilsl,.nilsl,.sl 6 0 1 (r2.length + 1 + 1)] [some (.blk true (.cells true (I a2 :: (r2.map I ++ [I (i : Nat)]))))]) := by
  obtain ⟨wa,wb,wc,wd,we,m60,m2,m50,m30,d2,wd2,m3,s1,s2,s3⟩ := ldF (hq.ls x (List.mem_of_getElem? hx))
  have a1 := lt_ix (lt_of hx)
  have a2 := up_ix hi (by omega)
  have a5 : ((i : Int) < 5) = True := eq_true (by omega)
  have cl := cL_len L
  rw [hL] at cl
  have ca := cL_app L x.ld
  have l1 : ((i + 1) * 40 ≤ 1099511627776) = True := eq_true (by omega)
  have l2 : (i + 1 ≤ 1099511627776) = True := eq_true (by omega)
  rw [ht] at m3
  unfold hN
  rw [ca]
  unfold P5.ld Ld.row
  dsimp only
  clear ca
  generalize x.e % 2 = ee at *
  generalize 1 + x.c % 60 + x.d % 30 = cd at *
  generalize 1 + x.c % 60 = cc at *
  generalize x.a + x.b % 50 = ab at *
  generalize x.e / 2 = e2 at *
  generalize x.d % 30 = dd at *
  generalize x.c % 60 = c6 at *
  generalize x.b % 50 = bb at *
  generalize cL L = cL0 at *
  have g0 : ((0 : Int) < ((r2.length + 1 : Nat) : Int)) = True := eq_true (by omega)
  have b1 : ((r2.length + 1 + 1) * 8 ≤ 1099511627776) = True := eq_true (by omega)
  have b2 : (r2.length + 1 + 1 ≤ 1099511627776) = True := eq_true (by omega)
  have b3 : 1 + (r2.length + 1) = r2.length + 1 + 1 := by omega
  have b4 : r2.length + 1 - 1 = r2.length := rfl
  have b5 : List.take r2.length (r2.map I) = r2.map I := List.take_of_length_le (by simp)
  have h8 : ((128 : Int) < (x.e : Int)) = False := eq_false (by omega)
  unfold x39l2
  dsimp only
  (sym => (simp [irem2,iquo2,remF,Za,Zb,Zc,Zd,Ze,Zf,Zh,Zi,Zl,Zm,Zn,Zo,Zp,Zr,Zu,Zv,Zx,Zz,Z0,Z2,Z5,Z6,Z7,Z8,ZD,ZF,ZG,ZI,ZJ,ZK,ZL,ZM,ZP,ZQ,ZR,ZS,ZT,ZU,ZV,ZX,ZY,Ya,Ye,Yf,Yh,Yr,Yt,Yv,Yw,Y0,Y2,Y4,Y5,Y6,Y7,Y8,Y9,YB,YG,YK,YP,YQ,YT,YX,YY,Xa,Xd,Xf,Xi,Xj,Xl,XW,XX,XZ,Wb,Wc,We,Wf,Wg,Wh,Wi,Wj,Wk,Wl,Wn,Wo,Wp,Wr,Ws,Wu,Wv,Ww,Wx,Wy,Wz,W0,W3,W4,W5,W6,W7,WA,WB,WC,WF,WG,WH,WI,WJ,WL,WM,WN,WO,Vt,Vu,Vv,Vw,Vx,Vy,V2,V3,V4,V5,V6,V8,V9,VA,VB,VC,VD,VF,VH,VJ,VK,VL,VO,VS,VT,VU,VV,VW,VX,VY,VZ,Ua,Ub,Uc,Ud,Uk,Ul,Um,Un,Uv,Uw,Ux,Uy,U2,U3,U4,U6,U7,U9,UA,UB,UC,UD,UE,UF,UG,UH,UI,UJ,UK,UM,UN,UP,UR,US,UV,UY,UZ,Ta,Td,Tf,Ti,Tw,Ty,a1,a2,a5,cl,l1,l2,hx,wa,wb,wc,wd,we,m60,m2,m50,m30,d2,wd2,m3,s1,s2,s3,w44,g0,b1,b2,b3,b4,b5,h8]; all_goals tactic => exact rfl))
theorem r39_001_2p (hq : q.Ok) {x : P5} {i : Nat} (hi : i < 5) (hx : q.ls[i]? = some x) (ht : x.e / 2 % 3 = 2) (h8 : 128 < x.e) {L : List Ld} (hL : L.length = i) (a2 : Int) (r2 : List Int) (hr2 : r2.length ≤ 5) :
    headX 0 [1,2,3,10,11] (execW progX 39 0 none (match x39l2 with | .loop _ a => a | c => c) (envL [1,2,3,10,11] [.pt 0 0,.pt 1 0,.pt 2 0,.pt 5 0,I (i : Nat)]) (hN q L i [.nilsl,.nilsl,.sl 6 0 1 (r2.length + 1)] [some (.blk true (.cells true (I a2 :: r2.map I)))])) =
      some ([.pt 0 0,.pt 1 0,.pt 2 0,.pt 5 0,I (i + 1 : Nat)],hN q (L ++ [x.ld]) (i + 1) [.nilsl,.nilsl,.sl 6 0 1 (r2.length + 1 + 1)] [some (.blk true (.cells true (I (i : Nat) :: I a2 :: r2.map I)))]) := by
  obtain ⟨wa,wb,wc,wd,we,m60,m2,m50,m30,d2,wd2,m3,s1,s2,s3⟩ := ldF (hq.ls x (List.mem_of_getElem? hx))
  have a1 := lt_ix (lt_of hx)
  have a2 := up_ix hi (by omega)
  have a5 : ((i : Int) < 5) = True := eq_true (by omega)
  have cl := cL_len L
  rw [hL] at cl
  have ca := cL_app L x.ld
  have l1 : ((i + 1) * 40 ≤ 1099511627776) = True := eq_true (by omega)
  have l2 : (i + 1 ≤ 1099511627776) = True := eq_true (by omega)
  rw [ht] at m3
  unfold hN
  rw [ca]
  unfold P5.ld Ld.row
  dsimp only
  clear ca
  generalize x.e % 2 = ee at *
  generalize 1 + x.c % 60 + x.d % 30 = cd at *
  generalize 1 + x.c % 60 = cc at *
  generalize x.a + x.b % 50 = ab at *
  generalize x.e / 2 = e2 at *
  generalize x.d % 30 = dd at *
  generalize x.c % 60 = c6 at *
  generalize x.b % 50 = bb at *
  generalize cL L = cL0 at *
  have g0 : ((0 : Int) < ((r2.length + 1 : Nat) : Int)) = True := eq_true (by omega)
  have b1 : ((r2.length + 1 + 1) * 8 ≤ 1099511627776) = True := eq_true (by omega)
  have b2 : (r2.length + 1 + 1 ≤ 1099511627776) = True := eq_true (by omega)
  have b3 : 1 + (r2.length + 1) = r2.length + 1 + 1 := by omega
  have b4 : r2.length + 1 - 1 = r2.length := rfl
  have b5 : List.take r2.length (r2.map I) = r2.map I := List.take_of_length_le (by simp)
  have h8 : ((128 : Int) < (x.e : Int)) = True := eq_true (by omega)
  unfold x39l2
  dsimp only
  (sym => (simp [irem2,iquo2,remF,Za,Zb,Zc,Zd,Ze,Zf,Zh,Zi,Zl,Zm,Zn,Zo,Zp,Zu,Zv,Zx,Zz,Z0,Z2,Z5,Z6,Z7,Z8,ZD,ZF,ZG,ZI,ZJ,ZK,ZL,ZM,ZP,ZQ,ZR,ZS,ZT,ZU,ZX,ZY,Ya,Yb,Ye,Yf,Yh,Yr,Yt,Yv,Yw,Y0,Y2,Y4,Y5,Y6,Y7,Y8,Y9,YB,YG,YK,YP,YQ,YT,YX,YY,Xa,Xd,Xf,Xi,Xj,Xl,XW,XX,XZ,Wb,Wc,We,Wf,Wg,Wh,Wi,Wj,Wk,Wl,Wn,Wo,Wp,Wr,Ws,Wu,Wv,Ww,Wx,Wy,Wz,W0,W3,W4,W5,W6,W7,WA,WB,WC,WF,WG,WH,WI,WJ,WL,WM,WN,WO,Vt,Vu,Vv,Vw,Vx,V2,V3,V4,V5,V6,V8,V9,VA,VB,VC,VD,VF,VH,VJ,VK,VL,VO,VS,VT,VU,VV,VW,VX,VY,VZ,Ua,Ub,Uc,Ud,Uk,Ul,Um,Un,Uv,Uw,Ux,Uy,U2,U3,U4,U6,U7,U9,UA,UB,UC,UD,UE,UF,UG,UH,UI,UJ,UK,UM,UN,UP,UR,US,UV,UY,UZ,Ta,Td,Te,Tf,Tg,Ti,Tv,Tw,Ty,a1,a2,a5,cl,l1,l2,hx,wa,wb,wc,wd,we,m60,m2,m50,m30,d2,wd2,m3,s1,s2,s3,w44,g0,b1,b2,b3,b4,b5,h8]; all_goals tactic => exact rfl))
theorem r39_010_0 (hq : q.Ok) {x : P5} {i : Nat} (hi : i < 5) (hx : q.ls[i]? = some x) (ht : x.e / 2 % 3 = 0) {L : List Ld} (hL : L.length = i) (a1 : Int) (r1 : List Int) (hr1 : r1.length ≤ 5) :
    headX 0 [1,2,3,10,11] (execW progX 39 0 none (match x39l2 with | .loop _ a => a | c => c) (envL [1,2,3,10,11] [.pt 0 0,.pt 1 0,.pt 2 0,.pt 5 0,I (i : Nat)]) (hN q L i [.nilsl,.sl 6 0 1 (r1.length + 1),.nilsl] [some (.blk true (.cells true (I a1 :: r1.map I)))])) =
      some ([.pt 0 0,.pt 1 0,.pt 2 0,.pt 5 0,I (i + 1 : Nat)],hN q (L ++ [x.ld]) (i + 1) [.sl 6 0 1 (1),.sl 7 0 1 (r1.length + 1),.nilsl] [some (.blk true (.cells true ([I (i : Nat)]))),some (.blk true (.cells true (I a1 :: r1.map I)))]) := by
  obtain ⟨wa,wb,wc,wd,we,m60,m2,m50,m30,d2,wd2,m3,s1,s2,s3⟩ := ldF (hq.ls x (List.mem_of_getElem? hx))
  have a1 := lt_ix (lt_of hx)
  have a2 := up_ix hi (by omega)
  have a5 : ((i : Int) < 5) = True := eq_true (by omega)
  have cl := cL_len L
  rw [hL] at cl
  have ca := cL_app L x.ld
  have l1 : ((i + 1) * 40 ≤ 1099511627776) = True := eq_true (by omega)
  have l2 : (i + 1 ≤ 1099511627776) = True := eq_true (by omega)
  rw [ht] at m3
  unfold hN
  rw [ca]
  unfold P5.ld Ld.row
  dsimp only
  clear ca
  generalize x.e % 2 = ee at *
  generalize 1 + x.c % 60 + x.d % 30 = cd at *
  generalize 1 + x.c % 60 = cc at *
  generalize x.a + x.b % 50 = ab at *
  generalize x.e / 2 = e2 at *
  generalize x.d % 30 = dd at *
  generalize x.c % 60 = c6 at *
  generalize x.b % 50 = bb at *
  generalize cL L = cL0 at *
  unfold x39l2
  dsimp only
  rcases ptf ((128 : Int) < (x.e : Int)) with h8 | h8
  · (sym => (simp [irem2,iquo2,remF,Za,Zb,Zc,Zd,Ze,Zf,Zh,Zi,Zl,Zm,Zn,Zo,Zp,Zr,Zu,Zv,Zx,Zz,Z0,Z2,Z5,Z6,Z7,Z8,ZD,ZF,ZG,ZI,ZJ,ZK,ZL,ZM,ZP,ZQ,ZR,ZS,ZT,ZU,ZV,ZX,ZY,Ya,Yc,Ye,Yf,Yh,Yr,Yt,Yv,Yw,Y0,Y1,Y2,Y4,Y6,Y7,Y8,Y9,YB,YG,YK,YP,YQ,YT,YX,YY,Xa,Xd,Xf,Xi,Xj,Xl,XW,XX,XZ,Wb,Wc,We,Wf,Wg,Wh,Wi,Wj,Wk,Wl,Wn,Wo,Wp,Wr,Ws,Wu,Wv,Ww,Wx,Wy,Wz,W0,W3,W4,W5,W6,W7,WA,WB,WC,WF,WG,WH,WI,WJ,WL,WM,WN,WO,Vt,Vu,Vv,Vw,Vx,Vy,V2,V3,V4,V5,V6,V8,V9,VA,VB,VC,VD,VF,VH,VJ,VK,VL,VO,VS,VT,VU,VV,VW,VX,VY,VZ,Ua,Ub,Uc,Ud,Uk,Ul,Um,Un,Uv,Uw,Ux,Uy,U2,U3,U4,U5,U6,U7,U9,UA,UB,UC,UD,UE,UF,UG,UH,UI,UJ,UK,UL,UM,UN,UP,UR,US,UV,UY,UZ,Ta,Tf,Ti,Tw,Ty,a1,a2,a5,cl,l1,l2,hx,wa,wb,wc,wd,we,m60,m2,m50,m30,d2,wd2,m3,s1,s2,s3,w44,h8]; all_goals tactic => exact rfl))
  · (sym => (simp [irem2,iquo2,remF,Za,Zb,Zc,Zd,Ze,Zf,Zh,Zi,Zl,Zm,Zn,Zo,Zp,Zr,Zu,Zv,Zx,Zz,Z0,Z2,Z5,Z6,Z7,Z8,ZD,ZF,ZG,ZI,ZJ,ZK,ZL,ZM,ZP,ZQ,ZR,ZS,ZT,ZU,ZV,ZX,ZY,Ya,Yc,Ye,Yf,Yh,Yr,Yt,Yv,Yw,Y0,Y1,Y2,Y4,Y6,Y7,Y8,Y9,YB,YG,YK,YP,YQ,YT,YX,YY,Xa,Xd,Xf,Xi,Xj,Xl,XW,XX,XZ,Wb,Wc,We,Wf,Wg,Wh,Wi,Wj,Wk,Wl,Wn,Wo,Wp,Wr,Ws,Wu,Wv,Ww,Wx,Wy,Wz,W0,W3,W4,W5,W6,W7,WA,WB,WC,WF,WG,WH,WI,WJ,WL,WM,WN,WO,Vt,Vu,Vv,Vw,Vx,Vy,V2,V3,V4,V5,V6,V8,V9,VA,VB,VC,VD,VF,VH,VJ,VK,VL,VO,VS,VT,VU,VV,VW,VX,VY,VZ,Ua,Ub,Uc,Ud,Uk,Ul,Um,Un,Uv,Uw,Ux,Uy,U2,U3,U4,U5,U6,U7,U9,UA,UB,UC,UD,UE,UF,UG,UH,UI,UJ,UK,UL,UM,UN,UP,UR,US,UV,UY,UZ,Ta,Tf,Ti,Tw,Ty,a1,a2,a5,cl,l1,l2,hx,wa,wb,wc,wd,we,m60,m2,m50,m30,d2,wd2,m3,s1,s2,s3,w44,h8]; all_goals tactic => exact rfl))
theorem r39_010_1 (hq : q.Ok) {x : P5} {i : Nat} (hi : i < 5) (hx : q.ls[i]? = some x) (ht : x.e / 2 % 3 = 1) (h8 : ¬ 128 < x.e) {L : List Ld} (hL : L.length = i) (a1 : Int) (r1 : List Int) (hr1 : r1.length ≤ 5) :
    headX 0 [1,2,3,10,11] (execW progX 39 0 none (match x39l2 with | .loop _ a => a | c => c) (envL [1,2,3,10,11] [.pt 0 0,.pt 1 0,.pt 2 0,.pt 5 0,I (i : Nat)]) (hN q L i [.nilsl,.sl 6 0 1 (r1.length + 1),.nilsl] [some (.blk true (.cells true (I a1 :: r1.map I)))])) =
      some ([.pt 0 0,.pt 1 0,.pt 2 0,.pt 5 0,I (i + 1 : Nat)],hN q (L ++ [x.ld]) (i + 1) [.nilsl,.sl 6 0 1 (r1.length + 1 + 1),.nilsl] [some (.blk true (.cells true (I a1 :: (r1.map I ++ [I (i : Nat)]))))]) := by
  obtain ⟨wa,wb,wc,wd,we,m60,m2,m50,m30,d2,wd2,m3,s1,s2,s3⟩ := ldF (hq.ls x (List.mem_of_getElem? hx))
  have a1 := lt_ix (lt_of hx)
  have a2 := up_ix hi (by omega)
  have a5 : ((i : Int) < 5) = True := eq_true (by omega)
  have cl := cL_len L
  rw [hL] at cl
  have ca := cL_app L x.ld
  have l1 : ((i + 1) * 40 ≤ 1099511627776) = True := eq_true (by omega)
  have l2 : (i + 1 ≤ 1099511627776) = True := eq_true (by omega)
  rw [ht] at m3
  unfold hN
  rw [ca]
  unfold P5.ld Ld.row
  dsimp only
  clear ca
  generalize x.e % 2 = ee at *
  generalize 1 + x.c % 60 + x.d % 30 = cd at *
  generalize 1 + x.c % 60 = cc at *
  generalize x.a + x.b % 50 = ab at *
  generalize x.e / 2 = e2 at *
  generalize x.d % 30 = dd at *
  generalize x.c % 60 = c6 at *
  generalize x.b % 50 = bb at *
  generalize cL L = cL0 at *
  have g0 : ((0 : Int) < ((r1.length + 1 : Nat) : Int)) = True := eq_true (by omega)
  have b1 : ((r1.length + 1 + 1) * 8 ≤ 1099511627776) = True := eq_true (by omega)
  have b2 : (r1.length + 1 + 1 ≤ 1099511627776) = True := eq_true (by omega)
  have b3 : 1 + (r1.length + 1) = r1.length + 1 + 1 := by omega
  have b4 : r1.length + 1 - 1 = r1.length := rfl
  have b5 : List.take r1.length (r1.map I) = r1.map I := List.take_of_length_le (by simp)
  have h8 : ((128 : Int) < (x.e : Int)) = False := eq_false (by omega)
  unfold x39l2
  dsimp only
  (sym => (simp [irem2,iquo2,remF,Za,Zb,Zc,Zd,Ze,Zf,Zh,Zi,Zl,Zm,Zn,Zo,Zp,Zr,Zu,Zv,Zx,Zz,Z0,Z2,Z5,Z6,Z7,Z8,ZD,ZF,ZG,ZI,ZJ,ZK,ZL,ZM,ZP,ZQ,ZR,ZS,ZT,ZU,ZV,ZX,ZY,Ya,Ye,Yf,Yh,Yr,Yt,Yv,Yw,Y0,Y2,Y3,Y4,Y6,Y7,Y8,Y9,YB,YG,YK,YP,YQ,YT,YX,YY,Xa,Xd,Xf,Xi,Xj,Xl,XW,XX,XZ,Wb,Wc,We,Wf,Wg,Wh,Wi,Wj,Wk,Wl,Wn,Wo,Wp,Wr,Ws,Wu,Wv,Ww,Wx,Wy,Wz,W0,W3,W4,W5,W6,W7,WA,WB,WC,WF,WG,WH,WI,WJ,WL,WM,WN,WO,Vt,Vu,Vv,Vw,Vx,Vy,V2,V3,V4,V5,V6,V8,V9,VA,VB,VC,VD,VF,VH,VJ,VK,VL,VO,VS,VT,VU,VV,VW,VX,VY,VZ,Ua,Ub,Uc,Ud,Uk,Ul,Um,Un,Uv,Uw,Ux,Uy,U2,U3,U4,U6,U7,U9,UA,UB,UC,UD,UE,UF,UG,UH,UI,UJ,UK,UM,UN,UP,UR,US,UV,UY,UZ,Ta,Td,Tf,Ti,Tw,Ty,a1,a2,a5,cl,l1,l2,hx,wa,wb,wc,wd,we,m60,m2,m50,m30,d2,wd2,m3,s1,s2,s3,w44,g0,b1,b2,b3,b4,b5,h8]; all_goals tactic => exact rfl))
theorem r39_010_1p (hq : q.Ok) {x : P5} {i : Nat} (hi : i < 5) (hx : q.ls[i]? = some x) (ht : x.e / 2 % 3 = 1) (h8 : 128 < x.e) {L : List Ld} (hL : L.length = i) (a1 : Int) (r1 : List Int) (hr1 : r1.length ≤ 5) :
    headX 0 [1,2,3,10,11] (execW progX 39 0 none (match x39l2 with | .loop _ a => a | c => c) (envL [1,2,3,10,11] [.pt 0 0,.pt 1 0,.pt 2 0,.pt 5 0,I (i : Nat)]) (hN q L i [.nilsl,.sl 6 0 1 (r1.length + 1),.nilsl] [some (.blk true (.cells true (I a1 :: r1.map I)))])) =
      some ([.pt 0 0,.pt 1 0,.pt 2 0,.pt 5 0,I (i + 1 : Nat)],hN q (L ++ [x.ld]) (i + 1) [.nilsl,.sl 6 0 1 (r1.length + 1 + 1),.nilsl] [some (.blk true (.cells true (I (i : Nat) :: I a1 :: r1.map I)))]) := by
  obtain ⟨wa,wb,wc,wd,we,m60,m2,m50,m30,d2,wd2,m3,s1,s2,s3⟩ := ldF (hq.ls x (List.mem_of_getElem? hx))
  have a1 := lt_ix (lt_of hx)
  have a2 := up_ix hi (by omega)
  have a5 : ((i : Int) < 5) = True := eq_true (by omega)
  have cl := cL_len L
  rw [hL] at cl
  have ca := cL_app L x.ld
  have l1 : ((i + 1) * 40 ≤ 1099511627776) = True := eq_true (by omega)
  have l2 : (i + 1 ≤ 1099511627776) = True := eq_true (by omega)
  rw [ht] at m3
  unfold hN
  rw [ca]
  unfold P5.ld Ld.row
  dsimp only
  clear ca
  generalize x.e % 2 = ee at *
  generalize 1 + x.c % 60 + x.d % 30 = cd at *
  generalize 1 + x.c % 60 = cc at *
  generalize x.a + x.b % 50 = ab at *
  generalize x.e / 2 = e2 at *
  generalize x.d % 30 = dd at *
  generalize x.c % 60 = c6 at *
  generalize x.b % 50 = bb at *
  generalize cL L = cL0 at *
  have g0 : ((0 : Int) < ((r1.length + 1 : Nat) : Int)) = True := eq_true (by omega)
  have b1 : ((r1.length + 1 + 1) * 8 ≤ 1099511627776) = True := eq_true (by omega)
  have b2 : (r1.length + 1 + 1 ≤ 1099511627776) = True := eq_true (by omega)
  have b3 : 1 + (r1.length + 1) = r1.length + 1 + 1 := by omega
  have b4 : r1.length + 1 - 1 = r1.length := rfl
  have b5 : List.take r1.length (r1.map I) = r1.map I := List.take_of_length_le (by simp)
  have h8 : ((128 : Int) < (x.e : Int)) = True := eq_true (by omega)
  unfold x39l2
  dsimp only
  (sym => (simp [irem2,iquo2,remF,Za,Zb,Zc,Zd,Ze,Zf,Zh,Zi,Zl,Zm,Zn,Zo,Zp,Zu,Zv,Zx,Zz,Z0,Z2,Z5,Z6,Z7,Z8,ZD,ZF,ZG,ZI,ZJ,ZK,ZL,ZM,ZP,ZQ,ZR,ZS,ZT,ZU,ZX,ZY,Ya,Yb,Ye,Yf,Yh,Yr,Yt,Yv,Yw,Y0,Y2,Y3,Y4,Y6,Y7,Y8,Y9,YB,YG,YK,YP,YQ,YT,YX,YY,Xa,Xd,Xf,Xi,Xj,Xl,XW,XX,XZ,Wb,Wc,We,Wf,Wg,Wh,Wi,Wj,Wk,Wl,Wn,Wo,Wp,Wr,Ws,Wu,Wv,Ww,Wx,Wy,Wz,W0,W3,W4,W5,W6,W7,WA,WB,WC,WF,WG,WH,WI,WJ,WL,WM,WN,WO,Vt,Vu,Vv,Vw,Vx,V2,V3,V4,V5,V6,V8,V9,VA,VB,VC,VD,VF,VH,VJ,VK,VL,VO,VS,VT,VU,VV,VW,VX,VY,VZ,Ua,Ub,Uc,Ud,Uk,Ul,Um,Un,Uv,Uw,Ux,Uy,U2,U3,U4,U6,U7,U9,UA,UB,UC,UD,UE,UF,UG,UH,UI,UJ,UK,UM,UN,UP,UR,US,UV,UY,UZ,Ta,Td,Te,Tf,Tg,Ti,Tv,Tw,Ty,a1,a2,a5,cl,l1,l2,hx,wa,wb,wc,wd,we,m60,m2,m50,m30,d2,wd2,m3,s1,s2,s3,w44,g0,b1,b2,b3,b4,b5,h8]; all_goals tactic => exact rfl))
theorem r39_010_2 (hq : q.Ok) {x : P5} {i : Nat} (hi : i < 5) (hx : q.ls[i]? = some x) (ht : x.e / 2 % 3 = 2) {L : List Ld} (hL : L.length = i) (a1 : Int) (r1 : List Int) (hr1 : r1.length ≤ 5) :
    headX 0 [1,2,3,10,11] (execW progX 39 0 none (match x39l2 with | .loop _ a => a | c => c) (envL [1,2,3,10,11] [.pt 0 0,.pt 1 0,.pt 2 0,.pt 5 0,I (i : Nat)]) (hN q L i [.nilsl,.sl 6 0 1 (r1.length + 1),.nilsl] [some (.blk true (.cells true (I a1 :: r1.map I)))])) =
      some ([.pt 0 0,.pt 1 0,.pt 2 0,.pt 5 0,I (i + 1 : Nat)],hN q (L ++ [x.ld]) (i + 1) [.nilsl,.sl 6 0 1 (r1.length + 1),.sl 7 0 1 (1)] [some (.blk true (.cells true (I a1 :: r1.map I))),some (.blk true (.cells true ([I (i : Nat)])))]) := by
  obtain ⟨wa,wb,wc,wd,we,m60,m2,m50,m30,d2,wd2,m3,s1,s2,s3⟩ := ldF (hq.ls x (List.mem_of_getElem? hx))
  have a1 := lt_ix (lt_of hx)
  have a2 := up_ix hi (by omega)
  have a5 : ((i : Int) < 5) = True := eq_true (by omega)
  have cl := cL_len L
  rw [hL] at cl
  have ca := cL_app L x.ld
  have l1 : ((i + 1) * 40 ≤ 1099511627776) = True := eq_true (by omega)
  have l2 : (i + 1 ≤ 1099511627776) = True := eq_true (by omega)
  rw [ht] at m3
  unfold hN
  rw [ca]
  unfold P5.ld Ld.row
  dsimp only
  clear ca
  generalize x.e % 2 = ee at *
  generalize 1 + x.c % 60 + x.d % 30 = cd at *
  generalize 1 + x.c % 60 = cc at *
  generalize x.a + x.b % 50 = ab at *
  generalize x.e / 2 = e2 at *
  generalize x.d % 30 = dd at *
  generalize x.c % 60 = c6 at *
  generalize x.b % 50 = bb at *
  generalize cL L = cL0 at *
  unfold x39l2
  dsimp only
  rcases ptf ((128 : Int) < (x.e : Int)) with h8 | h8
  · (sym => (simp [irem2,iquo2,remF,Za,Zb,Zc,Zd,Ze,Zf,Zh,Zi,Zl,Zm,Zn,Zo,Zp,Zr,Zu,Zv,Zx,Zz,Z0,Z2,Z5,Z6,Z7,Z8,ZD,ZF,ZG,ZI,ZJ,ZK,ZL,ZM,ZP,ZQ,ZR,ZS,ZT,ZU,ZV,ZX,ZY,Ya,Yc,Ye,Yf,Yh,Yr,Yt,Yv,Yw,Y0,Y2,Y4,Y5,Y6,Y7,Y8,Y9,YB,YG,YK,YP,YQ,YT,YX,YY,Xa,Xd,Xf,Xi,Xj,Xl,XW,XX,XZ,Wb,Wc,We,Wf,Wg,Wh,Wi,Wj,Wk,Wl,Wn,Wo,Wp,Wr,Ws,Wu,Wv,Ww,Wx,Wy,Wz,W0,W3,W4,W5,W6,W7,WA,WB,WC,WF,WG,WH,WI,WJ,WL,WM,WN,WO,Vt,Vu,Vv,Vw,Vx,Vy,V2,V3,V4,V5,V6,V8,V9,VA,VB,VC,VD,VF,VH,VJ,VK,VL,VO,VS,VT,VU,VV,VW,VX,VY,VZ,Ua,Ub,Uc,Ud,Uk,Ul,Um,Un,Uv,Uw,Ux,Uy,U2,U3,U4,U5,U6,U7,U9,UA,UB,UC,UD,UE,UF,UG,UH,UI,UJ,UK,UL,UM,UN,UP,UR,US,UV,UY,UZ,Ta,Tf,Ti,Tw,Ty,a1,a2,a5,cl,l1,l2,hx,wa,wb,wc,wd,we,m60,m2,m50,m30,d2,wd2,m3,s1,s2,s3,w44,h8]; all_goals tactic => exact rfl))
  · (sym => (simp [irem2,iquo2,remF,Za,Zb,Zc,Zd,Ze,Zf,Zh,Zi,Zl,Zm,Zn,Zo,Zp,Zr,Zu,Zv,Zx,Zz,Z0,Z2,Z5,Z6,Z7,Z8,ZD,ZF,ZG,ZI,ZJ,ZK,ZL,ZM,ZP,ZQ,ZR,ZS,ZT,ZU,ZV,ZX,ZY,Ya,Yc,Ye,Yf,Yh,Yr,Yt,Yv,Yw,Y0,Y2,Y4,Y5,Y6,Y7,Y8,Y9,YB,YG,YK,YP,YQ,YT,YX,YY,Xa,Xd,Xf,Xi,Xj,Xl,XW,XX,XZ,Wb,Wc,We,Wf,Wg,Wh,Wi,Wj,Wk,Wl,Wn,Wo,Wp,Wr,Ws,Wu,Wv,Ww,Wx,Wy,Wz,W0,W3,W4,W5,W6,W7,WA,WB,WC,WF,WG,WH,WI,WJ,WL,WM,WN,WO,Vt,Vu,Vv,Vw,Vx,Vy,V2,V3,V4,V5,V6,V8,V9,VA,VB,VC,VD,VF,VH,VJ,VK,VL,VO,VS,VT,VU,VV,VW,VX,VY,VZ,Ua,Ub,Uc,Ud,Uk,Ul,Um,Un,Uv,Uw,Ux,Uy,U2,U3,U4,U5,U6,U7,U9,UA,UB,UC,UD,UE,UF,UG,UH,UI,UJ,UK,UL,UM,UN,UP,UR,US,UV,UY,UZ,Ta,Tf,Ti,Tw,Ty,a1,a2,a5,cl,l1,l2,hx,wa,wb,wc,wd,we,m60,m2,m50,m30,d2,wd2,m3,s1,s2,s3,w44,h8]; all_goals tactic => exact rfl))
theorem r39_011_0 (hq : q.Ok) {x : P5} {i : Nat} (hi : i < 5) (hx : q.ls[i]? = some x) (ht : x.e / 2 % 3 = 0) {L : List Ld} (hL : L.length = i) (a1 a2 : Int) (r1 r2 : List Int) (hr1 : r1.length ≤ 5) (hr2 : r2.length ≤ 5) :
    headX 0 [1,2,3,10,11] (execW progX 39 0 none (match x39l2 with | .loop _ a => a | c => c) (envL [1,2,3,10,11] [.pt 0 0,.pt 1 0,.pt 2 0,.pt 5 0,I (i : Nat)]) (hN q L i [.nilsl,.sl 6 0 1 (r1.length + 1),.sl 7 0 1 (r2.length + 1)] [some (.blk true (.cells true (I a1 :: r1.map I))),some (.blk true (.cells true (I a2 :: r2.map I)))])) =
      some ([.pt 0 0,.pt 1 0,.pt 2 0,.pt 5 0,I (i + 1 : Nat)],hN q (L ++ [x.ld]) (i + 1) [.sl 6 0 1 (1),.sl 7 0 1 (r1.length + 1),.sl 8 0 1 (r2.length + 1)] [some (.blk true (.cells true ([I (i : Nat)]))),some (.blk true (.cells true (I a1 :: r1.map I))),some (.blk true (.cells true (I a2 :: r2.map I)))]) := by
  obtain ⟨wa,wb,wc,wd,we,m60,m2,m50,m30,d2,wd2,m3,s1,s2,s3⟩ := ldF (hq.ls x (List.mem_of_getElem? hx))
  have a1 := lt_ix (lt_of hx)
  have a2 := up_ix hi (by omega)
  have a5 : ((i : Int) < 5) = True := eq_true (by omega)
  have cl := cL_len L
  rw [hL] at cl
  have ca := cL_app L x.ld
  have l1 : ((i + 1) * 40 ≤ 1099511627776) = True := eq_true (by omega)
  have l2 : (i + 1 ≤ 1099511627776) = True := eq_true (by omega)
  rw [ht] at m3
  unfold hN
  rw [ca]
  unfold P5.ld Ld.row
  dsimp only
  clear ca
  generalize x.e % 2 = ee at *
  generalize 1 + x.c % 60 + x.d % 30 = cd at *
  generalize 1 + x.c % 60 = cc at *
  generalize x.a + x.b % 50 = ab at *
  generalize x.e / 2 = e2 at *
  generalize x.d % 30 = dd at *
  generalize x.c % 60 = c6 at *
  generalize x.b % 50 = bb at *
  generalize cL L = cL0 at *
  unfold x39l2
  dsimp only
  rcases ptf ((128 : Int) < (x.e : Int)) with h8 | h8
  · (sym => (simp [irem2,iquo2,remF,Za,Zb,Zc,Zd,Ze,Zf,Zh,Zi,Zl,Zm,Zn,Zo,Zp,Zr,Zu,Zv,Zx,Zz,Z0,Z2,Z5,Z6,Z7,Z8,ZD,ZF,ZG,ZI,ZJ,ZK,ZL,ZM,ZP,ZQ,ZR,ZS,ZT,ZU,ZV,ZX,ZY,Ya,Yc,Ye,Yf,Yh,Yr,Yt,Yv,Yw,Y0,Y1,Y2,Y4,Y6,Y7,Y8,Y9,YB,YG,YK,YP,YQ,YT,YX,YY,Xa,Xd,Xf,Xi,Xj,Xl,XW,XX,XZ,Wb,Wc,We,Wf,Wg,Wh,Wi,Wj,Wk,Wl,Wn,Wo,Wp,Wr,Ws,Wu,Wv,Ww,Wx,Wy,Wz,W0,W3,W4,W5,W6,W7,WA,WB,WC,WF,WG,WH,WI,WJ,WL,WM,WN,WO,Vt,Vu,Vv,Vw,Vx,Vy,V2,V3,V4,V5,V6,V8,V9,VA,VB,VC,VD,VF,VH,VJ,VK,VL,VO,VS,VT,VU,VV,VW,VX,VY,VZ,Ua,Ub,Uc,Ud,Uk,Ul,Um,Un,Uv,Uw,Ux,Uy,U2,U3,U4,U5,U6,U7,U9,UA,UB,UC,UD,UE,UF,UG,UH,UI,UJ,UK,UL,UM,UN,UP,UR,US,UV,UY,UZ,Ta,Tf,Ti,Tw,Ty,a1,a2,a5,cl,l1,l2,hx,wa,wb,wc,wd,we,m60,m2,m50,m30,d2,wd2,m3,s1,s2,s3,w44,h8]; all_goals tactic => exact rfl))
  · (sym => (simp [irem2,iquo2,remF,Za,Zb,Zc,Zd,Ze,Zf,Zh,Zi,Zl,Zm,Zn,Zo,Zp,Zr,Zu,Zv,Zx,Zz,Z0,Z2,Z5,Z6,Z7,Z8,ZD,ZF,ZG,ZI,ZJ,ZK,ZL,ZM,ZP,ZQ,ZR,ZS,ZT,ZU,ZV,ZX,ZY,Ya,Yc,Ye,Yf,Yh,Yr,Yt,Yv,Yw,Y0,Y1,Y2,Y4,Y6,Y7,Y8,Y9,YB,YG,YK,YP,YQ,YT,YX,YY,Xa,Xd,Xf,Xi,Xj,Xl,XW,XX,XZ,Wb,Wc,We,Wf,Wg,Wh,Wi,Wj,Wk,Wl,Wn,Wo,Wp,Wr,Ws,Wu,Wv,Ww,Wx,Wy,Wz,W0,W3,W4,W5,W6,W7,WA,WB,WC,WF,WG,WH,WI,WJ,WL,WM,WN,WO,Vt,Vu,Vv,Vw,Vx,Vy,V2,V3,V4,V5,V6,V8,V9,VA,VB,VC,VD,VF,VH,VJ,VK,VL,VO,VS,VT,VU,VV,VW,VX,VY,VZ,Ua,Ub,Uc,Ud,Uk,Ul,Um,Un,Uv,Uw,Ux,Uy,U2,U3,U4,U5,U6,U7,U9,UA,UB,UC,UD,UE,UF,UG,UH,UI,UJ,UK,UL,UM,UN,UP,UR,US,UV,UY,UZ,Ta,Tf,Ti,Tw,Ty,a1,a2,a5,cl,l1,l2,hx,wa,wb,wc,wd,we,m60,m2,m50,m30,d2,wd2,m3,s1,s2,s3,w44,h8]; all_goals tactic => exact rfl))
theorem r39_011_1 (hq : q.Ok) {x : P5} {i : Nat} (hi : i < 5) (hx : q.ls[i]? = some x) (ht : x.e / 2 % 3 = 1) (h8 : ¬ 128 < x.e) {L : List Ld} (hL : L.length = i) (a1 a2 : Int) (r1 r2 : List Int) (hr1 : r1.length ≤ 5) (hr2 : r2.length ≤ 5) :
    headX 0 [1,2,3,10,11] (execW progX 39 0 none (match x39l2 with | .loop _ a => a | c => c) (envL [1,2,3,10,11] [.pt 0 0,.pt 1 0,.pt 2 0,.pt 5 0,I (i : Nat)]) (hN q L i [.nilsl,.sl 6 0 1 (r1.length + 1),.sl 7 0 1 (r2.length + 1)] [some (.blk true (.cells true (I a1 :: r1.map I))),some (.blk true (.cells true (I a2 :: r2.map I)))])) =
      some ([.pt 0 0,.pt 1 0,.pt 2 0,.pt 5 0,I (i + 1 : Nat)],hN q (L ++ [x.ld]) (i + 1) [.nilsl,.sl 6 0 1 (r1.length + 1 + 1),.sl 7 0 1 (r2.length + 1)] [some (.blk true (.cells true (I a1 :: (r1.map I ++ [I (i : Nat)])))),some (.blk true (.cells true (I a2 :: r2.map I)))]) := by
  obtain ⟨wa,wb,wc,wd,we,m60,m2,m50,m30,d2,wd2,m3,s1,s2,s3⟩ := ldF (hq.ls x (List.mem_of_getElem? hx))
  have a1 := lt_ix (lt_of hx)
  have a2 := up_ix hi (by omega)
  have a5 : ((i : Int) < 5) = True := eq_true (by omega)
  have cl := cL_len L
  rw [hL] at cl
  have ca := cL_app L x.ld
  have l1 : ((i + 1) * 40 ≤ 1099511627776) = True := eq_true (by omega)
  have l2 : (i + 1 ≤ 1099511627776) = True := eq_true (by omega)
  rw [ht] at m3
  unfold hN
  rw [ca]
  unfold P5.ld Ld.row
  dsimp only
  clear ca
  generalize x.e % 2 = ee at *
  generalize 1 + x.c % 60 + x.d % 30 = cd at *
  generalize 1 + x.c % 60 = cc at *
  generalize x.a + x.b % 50 = ab at *
  generalize x.e / 2 = e2 at *
  generalize x.d % 30 = dd at *
  generalize x.c % 60 = c6 at *
  generalize x.b % 50 = bb at *
  generalize cL L = cL0 at *
  have g0 : ((0 : Int) < ((r1.length + 1 : Nat) : Int)) = True := eq_true (by omega)
  have b1 : ((r1.length + 1 + 1) * 8 ≤ 1099511627776) = True := eq_true (by omega)
  have b2 : (r1.length + 1 + 1 ≤ 1099511627776) = True := eq_true (by omega)
  have b3 : 1 + (r1.length + 1) = r1.length + 1 + 1 := by omega
  have b4 : r1.length + 1 - 1 = r1.length := rfl
  have b5 : List.take r1.length (r1.map I) = r1.map I := List.take_of_length_le (by simp)
  have h8 : ((128 : Int) < (x.e : Int)) = False := eq_false (by omega)
  unfold x39l2
  dsimp only
  (sym => (simp [irem2,iquo2,remF,Za,Zb,Zc,Zd,Ze,Zf,Zh,Zi,Zl,Zm,Zn,Zo,Zp,Zr,Zu,Zv,Zx,Zz,Z0,Z2,Z5,Z6,Z7,Z8,ZD,ZF,ZG,ZI,ZJ,ZK,ZL,ZM,ZP,ZQ,ZR,ZS,ZT,ZU,ZV,ZX,ZY,Ya,Ye,Yf,Yh,Yr,Yt,Yv,Yw,Y0,Y2,Y3,Y4,Y6,Y7,Y8,Y9,YB,YG,YK,YP,YQ,YT,YX,YY,Xa,Xd,Xf,Xi,Xj,Xl,XW,XX,XZ,Wb,Wc,We,Wf,Wg,Wh,Wi,Wj,Wk,Wl,Wn,Wo,Wp,Wr,Ws,Wu,Wv,Ww,Wx,Wy,Wz,W0,W3,W4,W5,W6,W7,WA,WB,WC,WF,WG,WH,WI,WJ,WL,WM,WN,WO,Vt,Vu,Vv,Vw,Vx,Vy,V2,V3,V4,V5,V6,V8,V9,VA,VB,VC,VD,VF,VH,VJ,VK,VL,VO,VS,VT,VU,VV,VW,VX,VY,VZ,Ua,Ub,Uc,Ud,Uk,Ul,Um,Un,Uv,Uw,Ux,Uy,U2,U3,U4,U6,U7,U9,UA,UB,UC,UD,UE,UF,UG,UH,UI,UJ,UK,UM,UN,UP,UR,US,UV,UY,UZ,Ta,Td,Tf,Ti,Tw,Ty,a1,a2,a5,cl,l1,l2,hx,wa,wb,wc,wd,we,m60,m2,m50,m30,d2,wd2,m3,s1,s2,s3,w44,g0,b1,b2,b3,b4,b5,h8]; all_goals tactic => exact rfl))
theorem r39_011_1p (hq : q.Ok) {x : P5} {i : Nat} (hi : i < 5) (hx : q.ls[i]? = some x) (ht : x.e / 2 % 3 = 1) (h8 : 128 < x.e) {L : List Ld} (hL : L.length = i) (a1 a2 : Int) (r1 r2 : List Int) (hr1 : r1.length ≤ 5) (hr2 : r2.length ≤ 5) :
    headX 0 [1,2,3,10,11] (execW progX 39 0 none (match x39l2 with | .loop _ a => a | c => c) (envL [1,2,3,10,11] [.pt 0 0,.pt 1 0,.pt 2 0,.pt 5 0,I (i : Nat)]) (hN q L i [.nilsl,.sl 6 0 1 (r1.length + 1),.sl 7 0 1 (r2.length + 1)] [some (.blk true (.cells true (I a1 :: r1.map I))),some (.blk true (.cells true (I a2 :: r2.map I)))])) =
      some ([.pt 0 0,.pt 1 0,.pt 2 0,.pt 5 0,I (i + 1 : Nat)],hN q (L ++ [x.ld]) (i + 1) [.nilsl,.sl 6 0 1 (r1.length + 1 + 1),.sl 7 0 1 (r2.length + 1)] [some (.blk true (.cells true (I (i : Nat) :: I a1 :: r1.map I))),some (.blk true (.cells true (I a2 :: r2.map I)))]) := by
  obtain ⟨wa,wb,wc,wd,we,m60,m2,m50,m30,d2,wd2,m3,s1,s2,s3⟩ := ldF (hq.ls x (List.mem_of_getElem? hx))
  have a1 := lt_ix (lt_of hx)
  have a2 := up_ix hi (by omega)
  have a5 : ((i : Int) < 5) = True := eq_true (by omega)
  have cl := cL_len L
  rw [hL] at cl
  have ca := cL_app L x.ld
  have l1 : ((i + 1) * 40 ≤ 1099511627776) = True := eq_true (by omega)
  have l2 : (i + 1 ≤ 1099511627776) = True := eq_true (by omega)
  rw [ht] at m3
  unfold hN
  rw [ca]
  unfold P5.ld Ld.row
  dsimp only
  clear ca
  generalize x.e % 2 = ee at *
  generalize 1 + x.c % 60 + x.d % 30 = cd at *
  generalize 1 + x.c % 60 = cc at *
  generalize x.a + x.b % 50 = ab at *
  generalize x.e / 2 = e2 at *
  generalize x.d % 30 = dd at *
  generalize x.c % 60 = c6 at *
  generalize x.b % 50 = bb at *
  generalize cL L = cL0 at *
  have g0 : ((0 : Int) < ((r1.length + 1 : Nat) : Int)) = True := eq_true (by omega)
  have b1 : ((r1.length + 1 + 1) * 8 ≤ 1099511627776) = True := eq_true (by omega)
  have b2 : (r1.length + 1 + 1 ≤ 1099511627776) = True := eq_true (by omega)
  have b3 : 1 + (r1.length + 1) = r1.length + 1 + 1 := by omega
  have b4 : r1.length + 1 - 1 = r1.length := rfl
  have b5 : List.take r1.length (r1.map I) = r1.map I := List.take_of_length_le (by simp)
  have h8 : ((128 : Int) < (x.e : Int)) = True := eq_true (by omega)
  unfold x39l2
  dsimp only
  (sym => (simp [irem2,iquo2,remF,Za,Zb,Zc,Zd,Ze,Zf,Zh,Zi,Zl,Zm,Zn,Zo,Zp,Zu,Zv,Zx,Zz,Z0,Z2,Z5,Z6,Z7,Z8,ZD,ZF,ZG,ZI,ZJ,ZK,ZL,ZM,ZP,ZQ,ZR,ZS,ZT,ZU,ZX,ZY,Ya,Yb,Ye,Yf,Yh,Yr,Yt,Yv,Yw,Y0,Y2,Y3,Y4,Y6,Y7,Y8,Y9,YB,YG,YK,YP,YQ,YT,YX,YY,Xa,Xd,Xf,Xi,Xj,Xl,XW,XX,XZ,Wb,Wc,We,Wf,Wg,Wh,Wi,Wj,Wk,Wl,Wn,Wo,Wp,Wr,Ws,Wu,Wv,Ww,Wx,Wy,Wz,W0,W3,W4,W5,W6,W7,WA,WB,WC,WF,WG,WH,WI,WJ,WL,WM,WN,WO,Vt,Vu,Vv,Vw,Vx,V2,V3,V4,V5,V6,V8,V9,VA,VB,VC,VD,VF,VH,VJ,VK,VL,VO,VS,VT,VU,VV,VW,VX,VY,VZ,Ua,Ub,Uc,Ud,Uk,Ul,Um,Un,Uv,Uw,Ux,Uy,U2,U3,U4,U6,U7,U9,UA,UB,UC,UD,UE,UF,UG,UH,UI,UJ,UK,UM,UN,UP,UR,US,UV,UY,UZ,Ta,Td,Te,Tf,Tg,Ti,Tv,Tw,Ty,a1,a2,a5,cl,l1,l2,hx,wa,wb,wc,wd,we,m60,m2,m50,m30,d2,wd2,m3,s1,s2,s3,w44,g0,b1,b2,b3,b4,b5,h8]; all_goals tactic => exact rfl))
theorem r39_011_2 (hq : q.Ok) {x : P5} {i : Nat} (hi : i < 5) (hx : q.ls[i]? = some x) (ht : x.e / 2 % 3 = 2) (h8 : ¬ 128 < x.e) {L : List Ld} (hL : L.length = i) (a1 a2 : Int) (r1 r2 : List Int) (hr1 : r1.length ≤ 5) (hr2 : r2.length ≤ 5) :
    headX 0 [1,2,3,10,11] (execW progX 39 0 none (match x39l2 with | .loop _ a => a | c => c) (envL [1,2,3,10,11] [.pt 0 0,.pt 1 0,.pt 2 0,.pt 5 0,I (i : Nat)]) (hN q L i [.nilsl,.sl 6 0 1 (r1.length + 1),.sl 7 0 1 (r2.length + 1)] [some (.blk true (.cells true (I a1 :: r1.map I))),some (.blk true (.cells true (I a2 :: r2.map I)))])) =
      some ([.pt 0 0,.pt 1 0,.pt 2 0,.pt 5 0,I (i + 1 : Nat)],hN q (L ++ [x.ld]) (i + 1) [.nilsl,.sl 6 0 1 (r1.length + 1),.sl 7 0 1 (r2.length + 1 + 1)] [some (.blk true (.cells true (I a1 :: r1.map I))),some (.blk true (.cells true (I a2 :: (r2.map I ++ [I (i : Nat)]))))]) := by
  obtain ⟨wa,wb,wc,wd,we,m60,m2,m50,m30,d2,wd2,m3,s1,s2,s3⟩ := ldF (hq.ls x (List.mem_of_getElem? hx))
  have a1 := lt_ix (lt_of hx)
  have a2 := up_ix hi (by omega)
  have a5 : ((i : Int) < 5) = True := eq_true (by omega)
  have cl := cL_len L
  rw [hL] at cl
  have ca := cL_app L x.ld
  have l1 : ((i + 1) * 40 ≤ 1099511627776) = True := eq_true (by omega)
  have l2 : (i + 1 ≤ 1099511627776) = True := eq_true (by omega)
  rw [ht] at m3
  unfold hN
  rw [ca]
  unfold P5.ld Ld.row
  dsimp only
  clear ca
  generalize x.e % 2 = ee at *
  generalize 1 + x.c % 60 + x.d % 30 = cd at *
  generalize 1 + x.c % 60 = cc at *
  generalize x.a + x.b % 50 = ab at *
  generalize x.e / 2 = e2 at *
  generalize x.d % 30 = dd at *
  generalize x.c % 60 = c6 at *
  generalize x.b % 50 = bb at *
  generalize cL L = cL0 at *
  have g0 : ((0 : Int) < ((r2.length + 1 : Nat) : Int)) = True := eq_true (by omega)
  have b1 : ((r2.length + 1 + 1) * 8 ≤ 1099511627776) = True := eq_true (by omega)
  have b2 : (r2.length + 1 + 1 ≤ 1099511627776) = True := eq_true (by omega)
  have b3 : 1 + (r2.length + 1) = r2.length + 1 + 1 := by omega
  have b4 : r2.length + 1 - 1 = r2.length := rfl
  have b5 : List.take r2.length (r2.map I) = r2.map I := List.take_of_length_le (by simp)
  have h8 : ((128 : Int) < (x.e : Int)) = False := eq_false (by omega)
  unfold x39l2
  dsimp only
  (sym => (simp [irem2,iquo2,remF,Za,Zb,Zc,Zd,Ze,Zf,Zh,Zi,Zl,Zm,Zn,Zo,Zp,Zr,Zu,Zv,Zx,Zz,Z0,Z2,Z5,Z6,Z7,Z8,ZD,ZF,ZG,ZI,ZJ,ZK,ZL,ZM,ZP,ZQ,ZR,ZS,ZT,ZU,ZV,ZX,ZY,Ya,Ye,Yf,Yh,Yr,Yt,Yv,Yw,Y0,Y2,Y4,Y5,Y6,Y7,Y8,Y9,YB,YG,YK,YP,YQ,YT,YX,YY,Xa,Xd,Xf,Xi,Xj,Xl,XW,XX,XZ,Wb,Wc,We,Wf,Wg,Wh,Wi,Wj,Wk,Wl,Wn,Wo,Wp,Wr,Ws,Wu,Wv,Ww,Wx,Wy,Wz,W0,W3,W4,W5,W6,W7,WA,WB,WC,WF,WG,WH,WI,WJ,WL,WM,WN,WO,Vt,Vu,Vv,Vw,Vx,Vy,V2,V3,V4,V5,V6,V8,V9,VA,VB,VC,VD,VF,VH,VJ,VK,VL,VO,VS,VT,VU,VV,VW,VX,VY,VZ,Ua,Ub,Uc,Ud,Uk,Ul,Um,Un,Uv,Uw,Ux,Uy,U2,U3,U4,U6,U7,U9,UA,UB,UC,UD,UE,UF,UG,UH,UI,UJ,UK,UM,UN,UP,UR,US,UV,UY,UZ,Ta,Td,Tf,Ti,Tw,Ty,a1,a2,a5,cl,l1,l2,hx,wa,wb,wc,wd,we,m60,m2,m50,m30,d2,wd2,m3,s1,s2,s3,w44,g0,b1,b2,b3,b4,b5,h8]; all_goals tactic => exact rfl))
theorem r39_011_2p (hq : q.Ok) {x : P5} {i : Nat} (hi : i < 5) (hx : q.ls[i]? = some x) (ht : x.e / 2 % 3 = 2) (h8 : 128 < x.e) {L : List Ld} (hL : L.length = i) (a1 a2 : Int) (r1 r2 : List Int) (hr1 : r1.length ≤ 5) (hr2 : r2.length ≤ 5) :
    headX 0 [1,2,3,10,11] (execW progX 39 0 none (match x39l2 with | .loop _ a => a | c => c) (envL [1,2,3,10,11] [.pt 0 0,.pt 1 0,.pt 2 0,.pt 5 0,I (i : Nat)]) (hN q L i [.nilsl,.sl 6 0 1 (r1.length + 1),.sl 7 0 1 (r2.length + 1)] [some (.blk true (.cells true (I a1 :: r1.map I))),some (.blk true (.cells true (I a2 :: r2.map I)))])) =
      some ([.pt 0 0,.pt 1 0,.pt 2 0,.pt 5 0,I (i + 1 : Nat)],hN q (L ++ [x.ld]) (i + 1) [.nilsl,.sl 6 0 1 (r1.length + 1),.sl 7 0 1 (r2.length + 1 + 1)] [some (.blk true (.cells true (I a1 :: r1.map I))),some (.blk true (.cells true (I (i : Nat) :: I a2 :: r2.map I)))]) := by
  obtain ⟨wa,wb,wc,wd,we,m60,m2,m50,m30,d2,wd2,m3,s1,s2,s3⟩ := ldF (hq.ls x (List.mem_of_getElem? hx))
  have a1 := lt_ix (lt_of hx)
  have a2 := up_ix hi (by omega)
  have a5 : ((i : Int) < 5) = True := eq_true (by omega)
  have cl := cL_len L
  rw [hL] at cl
  have ca := cL_app L x.ld
  have l1 : ((i + 1) * 40 ≤ 1099511627776) = True := eq_true (by omega)
  have l2 : (i + 1 ≤ 1099511627776) = True := eq_true (by omega)
  rw [ht] at m3
  unfold hN
  rw [ca]
  unfold P5.ld Ld.row
  dsimp only
  clear ca
  generalize x.e % 2 = ee at *
  generalize 1 + x.c % 60 + x.d % 30 = cd at *
  generalize 1 + x.c % 60 = cc at *
  generalize x.a + x.b % 50 = ab at *
  generalize x.e / 2 = e2 at *
  generalize x.d % 30 = dd at *
  generalize x.c % 60 = c6 at *
  generalize x.b % 50 = bb at *
  generalize cL L = cL0 at *
  have g0 : ((0 : Int) < ((r2.length + 1 : Nat) : Int)) = True := eq_true (by omega)
  have b1 : ((r2.length + 1 + 1) * 8 ≤ 1099511627776) = True := eq_true (by omega)
  have b2 : (r2.length + 1 + 1 ≤ 1099511627776) = True := eq_true (by omega)
  have b3 : 1 + (r2.length + 1) = r2.length + 1 + 1 := by omega
  have b4 : r2.length + 1 - 1 = r2.length := rfl
  have b5 : List.take r2.length (r2.map I) = r2.map I := List.take_of_length_le (by simp)
  have h8 : ((128 : Int) < (x.e : Int)) = True := eq_true (by omega)
  unfold x39l2
  dsimp only
  (sym => (simp [irem2,iquo2,remF,Za,Zb,Zc,Zd,Ze,Zf,Zh,Zi,Zl,Zm,Zn,Zo,Zp,Zu,Zv,Zx,Zz,Z0,Z2,Z5,Z6,Z7,Z8,ZD,ZF,ZG,ZI,ZJ,ZK,ZL,ZM,ZP,ZQ,ZR,ZS,ZT,ZU,ZX,ZY,Ya,Yb,Ye,Yf,Yh,Yr,Yt,Yv,Yw,Y0,Y2,Y4,Y5,Y6,Y7,Y8,Y9,YB,YG,YK,YP,YQ,YT,YX,YY,Xa,Xd,Xf,Xi,Xj,Xl,XW,XX,XZ,Wb,Wc,We,Wf,Wg,Wh,Wi,Wj,Wk,Wl,Wn,Wo,Wp,Wr,Ws,Wu,Wv,Ww,Wx,Wy,Wz,W0,W3,W4,W5,W6,W7,WA,WB,WC,WF,WG,WH,WI,WJ,WL,WM,WN,WO,Vt,Vu,Vv,Vw,Vx,V2,V3,V4,V5,V6,V8,V9,VA,VB,VC,VD,VF,VH,VJ,VK,VL,VO,VS,VT,VU,VV,VW,VX,VY,VZ,Ua,Ub,Uc,Ud,Uk,Ul,Um,Un,Uv,Uw,Ux,Uy,U2,U3,U4,U6,U7,U9,UA,UB,UC,UD,UE,UF,UG,UH,UI,UJ,UK,UM,UN,UP,UR,US,UV,UY,UZ,Ta,Td,Te,Tf,Tg,Ti,Tv,Tw,Ty,a1,a2,a5,cl,l1,l2,hx,wa,wb,wc,wd,we,m60,m2,m50,m30,d2,wd2,m3,s1,s2,s3,w44,g0,b1,b2,b3,b4,b5,h8]; all_goals tactic => exact rfl))
theorem r39_100_0 (hq : q.Ok) {x : P5} {i : Nat} (hi : i < 5) (hx : q.ls[i]? = some x) (ht : x.e / 2 % 3 = 0) (h8 : ¬ 128 < x.e) {L : List Ld} (hL : L.length = i) (a0 : Int) (r0 : List Int) (hr0 : r0.length ≤ 5) :
    headX 0 [1,2,3,10,11] (execW progX 39 0 none (match x39l2 with | .loop _ a => a | c => c) (envL [1,2,3,10,11] [.pt 0 0,.pt 1 0,.pt 2 0,.pt 5 0,I (i : Nat)]) (hN q L i [.sl 6 0 1 (r0.length + 1),.nilsl,.nilsl] [some (.blk true (.cells true (I a0 :: r0.map I)))])) =
      some ([.pt 0 0,.pt 1 0,.pt 2 0,.pt 5 0,I (i + 1 : Nat)],hN q (L ++ [x.ld]) (i + 1) [.sl 6 0 1 (r0.length + 1 + 1),.nilsl,.nilsl] [some (.blk true (.cells true (I a0 :: (r0.map I ++ [I (i : Nat)]))))]) := by
  obtain ⟨wa,wb,wc,wd,we,m60,m2,m50,m30,d2,wd2,m3,s1,s2,s3⟩ := ldF (hq.ls x (List.mem_of_getElem? hx))
  have a1 := lt_ix (lt_of hx)
  have a2 := up_ix hi (by omega)
  have a5 : ((i : Int) < 5) = True := eq_true (by omega)
  have cl := cL_len L
  rw [hL] at cl
  have ca := cL_app L x.ld
  have l1 : ((i + 1) * 40 ≤ 1099511627776) = True := eq_true (by omega)
  have l2 : (i + 1 ≤ 1099511627776) = True := eq_true (by omega)
  rw [ht] at m3
  unfold hN
  rw [ca]
  unfold P5.ld Ld.row
  dsimp only
  clear ca
  generalize x.e % 2 = ee at *
  generalize 1 + x.c % 60 + x.d % 30 = cd at *
  generalize 1 + x.c % 60 = cc at *
  generalize x.a + x.b % 50 = ab at *
  generalize x.e / 2 = e2 at *
  generalize x.d % 30 = dd at *
  generalize x.c % 60 = c6 at *
  generalize x.b % 50 = bb at *
  generalize cL L = cL0 at *
  have g0 : ((0 : Int) < ((r0.length + 1 : Nat) : Int)) = True := eq_true (by omega)
  have b1 : ((r0.length + 1 + 1) * 8 ≤ 1099511627776) = True := eq_true (by omega)
  have b2 : (r0.length + 1 + 1 ≤ 1099511627776) = True := eq_true (by omega)
  have b3 : 1 + (r0.length + 1) = r0.length + 1 + 1 := by omega
  have b4 : r0.length + 1 - 1 = r0.length := rfl
  have b5 : List.take r0.length (r0.map I) = r0.map I := List.take_of_length_le (by simp)
  have h8 : ((128 : Int) < (x.e : Int)) = False := eq_false (by omega)
  unfold x39l2
  dsimp only
  (sym => (simp [irem2,iquo2,remF,Za,Zb,Zc,Zd,Ze,Zf,Zh,Zi,Zl,Zm,Zn,Zo,Zp,Zr,Zu,Zv,Zx,Zz,Z0,Z2,Z5,Z6,Z7,Z8,ZD,ZF,ZG,ZI,ZJ,ZK,ZL,ZM,ZP,ZQ,ZR,ZS,ZT,ZU,ZV,ZX,ZY,Ya,Ye,Yf,Yh,Yr,Yt,Yv,Yw,Y0,Y1,Y2,Y4,Y6,Y7,Y8,Y9,YB,YG,YK,YP,YQ,YT,YX,YY,Xa,Xd,Xf,Xi,Xj,Xl,XW,XX,XZ,Wb,Wc,We,Wf,Wg,Wh,Wi,Wj,Wk,Wl,Wn,Wo,Wp,Wr,Ws,Wu,Wv,Ww,Wx,Wy,Wz,W0,W3,W4,W5,W6,W7,WA,WB,WC,WF,WG,WH,WI,WJ,WL,WM,WN,WO,Vt,Vu,Vv,Vw,Vx,Vy,V2,V3,V4,V5,V6,V8,V9,VA,VB,VC,VD,VF,VH,VJ,VK,VL,VO,VS,VT,VU,VV,VW,VX,VY,VZ,Ua,Ub,Uc,Ud,Uk,Ul,Um,Un,Uv,Uw,Ux,Uy,U2,U3,U4,U6,U7,U9,UA,UB,UC,UD,UE,UF,UG,UH,UI,UJ,UK,UM,UN,UP,UR,US,UV,UY,UZ,Ta,Td,Tf,Ti,Tw,Ty,a1,a2,a5,cl,l1,l2,hx,wa,wb,wc,wd,we,m60,m2,m50,m30,d2,wd2,m3,s1,s2,s3,w44,g0,b1,b2,b3,b4,b5,h8]; all_goals tactic => exact rfl))
theorem r39_100_0p (hq : q.Ok) {x : P5} {i : Nat} (hi : i < 5) (hx : q.ls[i]? = some x) (ht : x.e / 2 % 3 = 0) (h8 : 128 < x.e) {L : List Ld} (hL : L.length = i) (a0 : Int) (r0 : List Int) (hr0 : r0.length ≤ 5) :
    headX 0 [1,2,3,10,11] (execW progX 39 0 none (match x39l2 with | .loop _ a => a | c => c) (envL [1,2,3,10,11] [.pt 0 0,.pt 1 0,.pt 2 0,.pt 5 0,I (i : Nat)]) (hN q L i [.sl 6 0 1 (r0.length + 1),.nilsl,.nilsl] [some (.blk true (.cells true (I a0 :: r0.map I)))])) =
      some ([.pt 0 0,.pt 1 0,.pt 2 0,.pt 5 0,I (i + 1 : Nat)],hN q (L ++ [x.ld]) (i + 1) [.sl 6 0 1 (r0.length + 1 + 1),.nilsl,.nilsl] [some (.blk true (.cells true (I (i : Nat) :: I a0 :: r0.map I)))]) := by
  obtain ⟨wa,wb,wc,wd,we,m60,m2,m50,m30,d2,wd2,m3,s1,s2,s3⟩ := ldF (hq.ls x (List.mem_of_getElem? hx))
  have a1 := lt_ix (lt_of hx)
  have a2 := up_ix hi (by omega)
  have a5 : ((i : Int) < 5) = True := eq_true (by omega)
  have cl := cL_len L
  rw [hL] at cl
  have ca := cL_app L x.ld
  have l1 : ((i + 1) * 40 ≤ 1099511627776) = True := eq_true (by omega)
  have l2 : (i + 1 ≤ 1099511627776) = True := eq_true (by omega)
  rw [ht] at m3
  unfold hN
  rw [ca]
  unfold P5.ld Ld.row
  dsimp only
  clear ca
  generalize x.e % 2 = ee at *
  generalize 1 + x.c % 60 + x.d % 30 = cd at *
  generalize 1 + x.c % 60 = cc at *
  generalize x.a + x.b % 50 = ab at *
  generalize x.e / 2 = e2 at *
  generalize x.d % 30 = dd at *
  generalize x.c % 60 = c6 at *
  generalize x.b % 50 = bb at *
  generalize cL L = cL0 at *
  have g0 : ((0 : Int) < ((r0.length + 1 : Nat) : Int)) = True := eq_true (by omega)
  have b1 : ((r0.length + 1 + 1) * 8 ≤ 1099511627776) = True := eq_true (by omega)
  have b2 : (r0.length + 1 + 1 ≤ 1099511627776) = True := eq_true (by omega)
  have b3 : 1 + (r0.length + 1) = r0.length + 1 + 1 := by omega
  have b4 : r0.length + 1 - 1 = r0.length := rfl
  have b5 : List.take r0.length (r0.map I) = r0.map I := List.take_of_length_le (by simp)
  have h8 : ((128 : Int) < (x.e : Int)) = True := eq_true (by omega)
  unfold x39l2
  dsimp only
  (sym => (simp [irem2,iquo2,remF,Za,Zb,Zc,Zd,Ze,Zf,Zh,Zi,Zl,Zm,Zn,Zo,Zp,Zu,Zv,Zx,Zz,Z0,Z2,Z5,Z6,Z7,Z8,ZD,ZF,ZG,ZI,ZJ,ZK,ZL,ZM,ZP,ZQ,ZR,ZS,ZT,ZU,ZX,ZY,Ya,Yb,Ye,Yf,Yh,Yr,Yt,Yv,Yw,Y0,Y1,Y2,Y4,Y6,Y7,Y8,Y9,YB,YG,YK,YP,YQ,YT,YX,YY,Xa,Xd,Xf,Xi,Xj,Xl,XW,XX,XZ,Wb,Wc,We,Wf,Wg,Wh,Wi,Wj,Wk,Wl,Wn,Wo,Wp,Wr,Ws,Wu,Wv,Ww,Wx,Wy,Wz,W0,W3,W4,W5,W6,W7,WA,WB,WC,WF,WG,WH,WI,WJ,WL,WM,WN,WO,Vt,Vu,Vv,Vw,Vx,V2,V3,V4,V5,V6,V8,V9,VA,VB,VC,VD,VF,VH,VJ,VK,VL,VO,VS,VT,VU,VV,VW,VX,VY,VZ,Ua,Ub,Uc,Ud,Uk,Ul,Um,Un,Uv,Uw,Ux,Uy,U2,U3,U4,U6,U7,U9,UA,UB,UC,UD,UE,UF,UG,UH,UI,UJ,UK,UM,UN,UP,UR,US,UV,UY,UZ,Ta,Td,Te,Tf,Tg,Ti,Tv,Tw,Ty,a1,a2,a5,cl,l1,l2,hx,wa,wb,wc,wd,we,m60,m2,m50,m30,d2,wd2,m3,s1,s2,s3,w44,g0,b1,b2,b3,b4,b5,h8]; all_goals tactic => exact rfl))
theorem r39_100_1 (hq : q.Ok) {x : P5} {i : Nat} (hi : i < 5) (hx : q.ls[i]? = some x) (ht : x.e / 2 % 3 = 1) {L : List Ld} (hL : L.length = i) (a0 : Int) (r0 : List Int) (hr0 : r0.length ≤ 5) :
    headX 0 [1,2,3,10,11] (execW progX 39 0 none (match x39l2 with | .loop _ a => a | c => c) (envL [1,2,3,10,11] [.pt 0 0,.pt 1 0,.pt 2 0,.pt 5 0,I (i : Nat)]) (hN q L i [.sl 6 0 1 (r0.length + 1),.nilsl,.nilsl] [some (.blk true (.cells true (I a0 :: r0.map I)))])) =
      some ([.pt 0 0,.pt 1 0,.pt 2 0,.pt 5 0,I (i + 1 : Nat)],hN q (L ++ [x.ld]) (i + 1) [.sl 6 0 1 (r0.length + 1),.sl 7 0 1 (1),.nilsl] [some (.blk true (.cells true (I a0 :: r0.map I))),some (.blk true (.cells true ([I (i : Nat)])))]) := by
  obtain ⟨wa,wb,wc,wd,we,m60,m2,m50,m30,d2,wd2,m3,s1,s2,s3⟩ := ldF (hq.ls x (List.mem_of_getElem? hx))
  have a1 := lt_ix (lt_of hx)
  have a2 := up_ix hi (by omega)
  have a5 : ((i : Int) < 5) = True := eq_true (by omega)
  have cl := cL_len L
  rw [hL] at cl
  have ca := cL_app L x.ld
  have l1 : ((i + 1) * 40 ≤ 1099511627776) = True := eq_true (by omega)
  have l2 : (i + 1 ≤ 1099511627776) = True := eq_true (by omega)
  rw [ht] at m3
  unfold hN
  rw [ca]
  unfold P5.ld Ld.row
  dsimp only
  clear ca
  generalize x.e % 2 = ee at *
  generalize 1 + x.c % 60 + x.d % 30 = cd at *
  generalize 1 + x.c % 60 = cc at *
  generalize x.a + x.b % 50 = ab at *
  generalize x.e / 2 = e2 at *
  generalize x.d % 30 = dd at *
  generalize x.c % 60 = c6 at *
  generalize x.b % 50 = bb at *
  generalize cL L = cL0 at *
  unfold x39l2
  dsimp only
  rcases ptf ((128 : Int) < (x.e : Int)) with h8 | h8
  · (sym => (simp [irem2,iquo2,remF,Za,Zb,Zc,Zd,Ze,Zf,Zh,Zi,Zl,Zm,Zn,Zo,Zp,Zr,Zu,Zv,Zx,Zz,Z0,Z2,Z5,Z6,Z7,Z8,ZD,ZF,ZG,ZI,ZJ,ZK,ZL,ZM,ZP,ZQ,ZR,ZS,ZT,ZU,ZV,ZX,ZY,Ya,Yc,Ye,Yf,Yh,Yr,Yt,Yv,Yw,Y0,Y2,Y3,Y4,Y6,Y7,Y8,Y9,YB,YG,YK,YP,YQ,YT,YX,YY,Xa,Xd,Xf,Xi,Xj,Xl,XW,XX,XZ,Wb,Wc,We,Wf,Wg,Wh,Wi,Wj,Wk,Wl,Wn,Wo,Wp,Wr,Ws,Wu,Wv,Ww,Wx,Wy,Wz,W0,W3,W4,W5,W6,W7,WA,WB,WC,WF,WG,WH,WI,WJ,WL,WM,WN,WO,Vt,Vu,Vv,Vw,Vx,Vy,V2,V3,V4,V5,V6,V8,V9,VA,VB,VC,VD,VF,VH,VJ,VK,VL,VO,VS,VT,VU,VV,VW,VX,VY,VZ,Ua,Ub,Uc,Ud,Uk,Ul,Um,Un,Uv,Uw,Ux,Uy,U2,U3,U4,U5,U6,U7,U9,UA,UB,UC,UD,UE,UF,UG,UH,UI,UJ,UK,UL,UM,UN,UP,UR,US,UV,UY,UZ,Ta,Tf,Ti,Tw,Ty,a1,a2,a5,cl,l1,l2,hx,wa,wb,wc,wd,we,m60,m2,m50,m30,d2,wd2,m3,s1,s2,s3,w44,h8]; all_goals tactic => exact rfl))
  · (sym => (simp [irem2,iquo2,remF,Za,Zb,Zc,Zd,Ze,Zf,Zh,Zi,Zl,Zm,Zn,Zo,Zp,Zr,Zu,Zv,Zx,Zz,Z0,Z2,Z5,Z6,Z7,Z8,ZD,ZF,ZG,ZI,ZJ,ZK,ZL,ZM,ZP,ZQ,ZR,ZS,ZT,ZU,ZV,ZX,ZY,Ya,Yc,Ye,Yf,Yh,Yr,Yt,Yv,Yw,Y0,Y2,Y3,Y4,Y6,Y7,Y8,Y9,YB,YG,YK,YP,YQ,YT,YX,YY,Xa,Xd,Xf,Xi,Xj,Xl,XW,XX,XZ,Wb,Wc,We,Wf,Wg,Wh,Wi,Wj,Wk,Wl,Wn,Wo,Wp,Wr,Ws,Wu,Wv,Ww,Wx,Wy,Wz,W0,W3,W4,W5,W6,W7,WA,WB,WC,WF,WG,WH,WI,WJ,WL,WM,WN,WO,Vt,Vu,Vv,Vw,Vx,Vy,V2,V3,V4,V5,V6,V8,V9,VA,VB,VC,VD,VF,VH,VJ,VK,VL,VO,VS,VT,VU,VV,VW,VX,VY,VZ,Ua,Ub,Uc,Ud,Uk,Ul,Um,Un,Uv,Uw,Ux,Uy,U2,U3,U4,U5,U6,U7,U9,UA,UB,UC,UD,UE,UF,UG,UH,UI,UJ,UK,UL,UM,UN,UP,UR,US,UV,UY,UZ,Ta,Tf,Ti,Tw,Ty,a1,a2,a5,cl,l1,l2,hx,wa,wb,wc,wd,we,m60,m2,m50,m30,d2,wd2,m3,s1,s2,s3,w44,h8]; all_goals tactic => exact rfl))
theorem r39_100_2 (hq : q.Ok) {x : P5} {i : Nat} (hi : i < 5) (hx : q.ls[i]? = some x) (ht : x.e / 2 % 3 = 2) {L : List Ld} (hL : L.length = i) (a0 : Int) (r0 : List Int) (hr0 : r0.length ≤ 5) :
    headX 0 [1,2,3,10,11] (execW progX 39 0 none (match x39l2 with | .loop _ a => a | c => c) (envL [1,2,3,10,11] [.pt 0 0,.pt 1 0,.pt 2 0,.pt 5 0,I (i : Nat)]) (hN q L i [.sl 6 0 1 (r0.length + 1),.nilsl,.nilsl] [some (.blk true (.cells true (I a0 :: r0.map I)))])) =
      some ([.pt 0 0,.pt 1 0,.pt 2 0,.pt 5 0,I (i + 1 : Nat)],hN q (L ++ [x.ld]) (i + 1) [.sl 6 0 1 (r0.length + 1),.nilsl,.sl 7 0 1 (1)] [some (.blk true (.cells true (I a0 :: r0.map I))),some (.blk true (.cells true ([I (i : Nat)])))]) := by
  obtain ⟨wa,wb,wc,wd,we,m60,m2,m50,m30,d2,wd2,m3,s1,s2,s3⟩ := ldF (hq.ls x (List.mem_of_getElem? hx))
  have a1 := lt_ix (lt_of hx)
  have a2 := up_ix hi (by omega)
  have a5 : ((i : Int) < 5) = True := eq_true (by omega)
  have cl := cL_len L
  rw [hL] at cl
  have ca := cL_app L x.ld
  have l1 : ((i + 1) * 40 ≤ 1099511627776) = True := eq_true (by omega)
  have l2 : (i + 1 ≤ 1099511627776) = True := eq_true (by omega)
  rw [ht] at m3
  unfold hN
  rw [ca]
  unfold P5.ld Ld.row
  dsimp only
  clear ca
  generalize x.e % 2 = ee at *
  generalize 1 + x.c % 60 + x.d % 30 = cd at *
  generalize 1 + x.c % 60 = cc at *
  generalize x.a + x.b % 50 = ab at *
  generalize x.e / 2 = e2 at *
  generalize x.d % 30 = dd at *
  generalize x.c % 60 = c6 at *
  generalize x.b % 50 = bb at *
  generalize cL L = cL0 at *
  unfold x39l2
  dsimp only
  rcases ptf ((128 : Int) < (x.e : Int)) with h8 | h8
  · (sym => (simp [irem2,iquo2,remF,Za,Zb,Zc,Zd,Ze,Zf,Zh,Zi,Zl,Zm,Zn,Zo,Zp,Zr,Zu,Zv,Zx,Zz,Z0,Z2,Z5,Z6,Z7,Z8,ZD,ZF,ZG,ZI,ZJ,ZK,ZL,ZM,ZP,ZQ,ZR,ZS,ZT,ZU,ZV,ZX,ZY,Ya,Yc,Ye,Yf,Yh,Yr,Yt,Yv,Yw,Y0,Y2,Y4,Y5,Y6,Y7,Y8,Y9,YB,YG,YK,YP,YQ,YT,YX,YY,Xa,Xd,Xf,Xi,Xj,Xl,XW,XX,XZ,Wb,Wc,We,Wf,Wg,Wh,Wi,Wj,Wk,Wl,Wn,Wo,Wp,Wr,Ws,Wu,Wv,Ww,Wx,Wy,Wz,W0,W3,W4,W5,W6,W7,WA,WB,WC,WF,WG,WH,WI,WJ,WL,WM,WN,WO,Vt,Vu,Vv,Vw,Vx,Vy,V2,V3,V4,V5,V6,V8,V9,VA,VB,VC,VD,VF,VH,VJ,VK,VL,VO,VS,VT,VU,VV,VW,VX,VY,VZ,Ua,Ub,Uc,Ud,Uk,Ul,Um,Un,Uv,Uw,Ux,Uy,U2,U3,U4,U5,U6,U7,U9,UA,UB,UC,UD,UE,UF,UG,UH,UI,UJ,UK,UL,UM,UN,UP,UR,US,UV,UY,UZ,Ta,Tf,Ti,Tw,Ty,a1,a2,a5,cl,l1,l2,hx,wa,wb,wc,wd,we,m60,m2,m50,m30,d2,wd2,m3,s1,s2,s3,w44,h8]; all_goals tactic => exact rfl))
  · (sym => (simp [irem2,iquo2,remF,Za,Zb,Zc,Zd,Ze,Zf,Zh,Zi,Zl,Zm,Zn,Zo,Zp,Zr,Zu,Zv,Zx,Zz,Z0,Z2,Z5,Z6,Z7,Z8,ZD,ZF,ZG,ZI,ZJ,ZK,ZL,ZM,ZP,ZQ,ZR,ZS,ZT,ZU,ZV,ZX,ZY,Ya,Yc,Ye,Yf,Yh,Yr,Yt,Yv,Yw,Y0,Y2,Y4,Y5,Y6,Y7,Y8,Y9,YB,YG,YK,YP,YQ,YT,YX,YY,Xa,Xd,Xf,Xi,Xj,Xl,XW,XX,XZ,Wb,Wc,We,Wf,Wg,Wh,Wi,Wj,Wk,Wl,Wn,Wo,Wp,Wr,Ws,Wu,Wv,Ww,Wx,Wy,Wz,W0,W3,W4,W5,W6,W7,WA,WB,WC,WF,WG,WH,WI,WJ,WL,WM,WN,WO,Vt,Vu,Vv,Vw,Vx,Vy,V2,V3,V4,V5,V6,V8,V9,VA,VB,VC,VD,VF,VH,VJ,VK,VL,VO,VS,VT,VU,VV,VW,VX,VY,VZ,Ua,Ub,Uc,Ud,Uk,Ul,Um,Un,Uv,Uw,Ux,Uy,U2,U3,U4,U5,U6,U7,U9,UA,UB,UC,UD,UE,UF,UG,UH,UI,UJ,UK,UL,UM,UN,UP,UR,US,UV,UY,UZ,Ta,Tf,Ti,Tw,Ty,a1,a2,a5,cl,l1,l2,hx,wa,wb,wc,wd,we,m60,m2,m50,m30,d2,wd2,m3,s1,s2,s3,w44,h8]; all_goals tactic => exact rfl))
theorem r39_101_0 (hq : q.Ok) {x : P5} {i : Nat} (hi : i < 5) (hx : q.ls[i]? = some x) (ht : x.e / 2 % 3 = 0) (h8 : ¬ 128 < x.e) {L : List Ld} (hL : L.length = i) (a0 a2 : Int) (r0 r2 : List Int) (hr0 : r0.length ≤ 5) (hr2 : r2.length ≤ 5) :
    headX 0 [1,2,3,10,11] (execW progX 39 0 none (match x39l2 with | .loop _ a => a | c => c) (envL [1,2,3,10,11] [.pt 0 0,.pt 1 0,.pt 2 0,.pt 5 0,I (i : Nat)]) (hN q L i [.sl 6 0 1 (r0.length + 1),.nilsl,.sl 7 0 1 (r2.length + 1)] [some (.blk true (.cells true (I a0 :: r0.map I))),some (.blk true (.cells true (I a2 :: r2.map I)))])) =
      some ([.pt 0 0,.pt 1 0,.pt 2 0,.pt 5 0,I (i + 1 : Nat)],hN q (L ++ [x.ld]) (i + 1) [.sl 6 0 1 (r0.length + 1 + 1),.nilsl,.sl 7 0 1 (r2.length + 1)] [some (.blk true (.cells true (I a0 :: (r0.map I ++ [I (i : Nat)])))),some (.blk true (.cells true (I a2 :: r2.map I)))]) := by
  obtain ⟨wa,wb,wc,wd,we,m60,m2,m50,m30,d2,wd2,m3,s1,s2,s3⟩ := ldF (hq.ls x (List.mem_of_getElem? hx))
  have a1 := lt_ix (lt_of hx)
  have a2 := up_ix hi (by omega)
  have a5 : ((i : Int) < 5) = True := eq_true (by omega)
  have cl := cL_len L
  rw [hL] at cl
  have ca := cL_app L x.ld
  have l1 : ((i + 1) * 40 ≤ 1099511627776) = True := eq_true (by omega)
  have l2 : (i + 1 ≤ 1099511627776) = True := eq_true (by omega)
  rw [ht] at m3
  unfold hN
  rw [ca]
  unfold P5.ld Ld.row
  dsimp only
  clear ca
  generalize x.e % 2 = ee at *
  generalize 1 + x.c % 60 + x.d % 30 = cd at *
  generalize 1 + x.c % 60 = cc at *
  generalize x.a + x.b % 50 = ab at *
  generalize x.e / 2 = e2 at *
  generalize x.d % 30 = dd at *
  generalize x.c % 60 = c6 at *
  generalize x.b % 50 = bb at *
  generalize cL L = cL0 at *
  have g0 : ((0 : Int) < ((r0.length + 1 : Nat) : Int)) = True := eq_true (by omega)
  have b1 : ((r0.length + 1 + 1) * 8 ≤ 1099511627776) = True := eq_true (by omega)
  have b2 : (r0.length + 1 + 1 ≤ 1099511627776) = True := eq_true (by omega)
  have b3 : 1 + (r0.length + 1) = r0.length + 1 + 1 := by omega
  have b4 : r0.length + 1 - 1 = r0.length := rfl
  have b5 : List.take r0.length (r0.map I) = r0.map I := List.take_of_length_le (by simp)
  have h8 : ((128 : Int) < (x.e : Int)) = False := eq_false (by omega)
  unfold x39l2
  dsimp only
  (sym => (simp [irem2,iquo2,remF,Za,Zb,Zc,Zd,Ze,Zf,Zh,Zi,Zl,Zm,Zn,Zo,Zp,Zr,Zu,Zv,Zx,Zz,Z0,Z2,Z5,Z6,Z7,Z8,ZD,ZF,ZG,ZI,ZJ,ZK,ZL,ZM,ZP,ZQ,ZR,ZS,ZT,ZU,ZV,ZX,ZY,Ya,Ye,Yf,Yh,Yr,Yt,Yv,Yw,Y0,Y1,Y2,Y4,Y6,Y7,Y8,Y9,YB,YG,YK,YP,YQ,YT,YX,YY,Xa,Xd,Xf,Xi,Xj,Xl,XW,XX,XZ,Wb,Wc,We,Wf,Wg,Wh,Wi,Wj,Wk,Wl,Wn,Wo,Wp,Wr,Ws,Wu,Wv,Ww,Wx,Wy,Wz,W0,W3,W4,W5,W6,W7,WA,WB,WC,WF,WG,WH,WI,WJ,WL,WM,WN,WO,Vt,Vu,Vv,Vw,Vx,Vy,V2,V3,V4,V5,V6,V8,V9,VA,VB,VC,VD,VF,VH,VJ,VK,VL,VO,VS,VT,VU,VV,VW,VX,VY,VZ,Ua,Ub,Uc,Ud,Uk,Ul,Um,Un,Uv,Uw,Ux,Uy,U2,U3,U4,U6,U7,U9,UA,UB,UC,UD,UE,UF,UG,UH,UI,UJ,UK,UM,UN,UP,UR,US,UV,UY,UZ,Ta,Td,Tf,Ti,Tw,Ty,a1,a2,a5,cl,l1,l2,hx,wa,wb,wc,wd,we,m60,m2,m50,m30,d2,wd2,m3,s1,s2,s3,w44,g0,b1,b2,b3,b4,b5,h8]; all_goals tactic => exact rfl))
theorem r39_101_0p (hq : q.Ok) {x : P5} {i : Nat} (hi : i < 5) (hx : q.ls[i]? = some x) (ht : x.e / 2 % 3 = 0) (h8 : 128 < x.e) {L : List Ld} (hL : L.length = i) (a0 a2 : Int) (r0 r2 : List Int) (hr0 : r0.length ≤ 5) (hr2 : r2.length ≤ 5) :
    headX 0 [1,2,3,10,11] (execW progX 39 0 none (match x39l2 with | .loop _ a => a | c => c) (envL [1,2,3,10,11] [.pt 0 0,.pt 1 0,.pt 2 0,.pt 5 0,I (i : Nat)]) (hN q L i [.sl 6 0 1 (r0.length + 1),.nilsl,.sl 7 0 1 (r2.length + 1)] [some (.blk true (.cells true (I a0 :: r0.map I))),some (.blk true (.cells true (I a2 :: r2.map I)))])) =
      some ([.pt 0 0,.pt 1 0,.pt 2 0,.pt 5 0,I (i + 1 : Nat)],hN q (L ++ [x.ld]) (i + 1) [.sl 6 0 1 (r0.length + 1 + 1),.nilsl,.sl 7 0 1 (r2.length + 1)] [some (.blk true (.cells true (I (i : Nat) :: I a0 :: r0.map I))),some (.blk true (.cells true (I a2 :: r2.map I)))]) := by
  obtain ⟨wa,wb,wc,wd,we,m60,m2,m50,m30,d2,wd2,m3,s1,s2,s3⟩ := ldF (hq.ls x (List.mem_of_getElem? hx))
  have a1 := lt_ix (lt_of hx)
  have a2 := up_ix hi (by omega)
  have a5 : ((i : Int) < 5) = True := eq_true (by omega)
  have cl := cL_len L
  rw [hL] at cl
  have ca := cL_app L x.ld
  have l1 : ((i + 1) * 40 ≤ 1099511627776) = True := eq_true (by omega)
  have l2 : (i + 1 ≤ 1099511627776) = True := eq_true (by omega)
  rw [ht] at m3
  unfold hN
  rw [ca]
  unfold P5.ld Ld.row
  dsimp only
  clear ca
  generalize x.e % 2 = ee at *
  generalize 1 + x.c % 60 + x.d % 30 = cd at *
  generalize 1 + x.c % 60 = cc at *
  generalize x.a + x.b % 50 = ab at *
  generalize x.e / 2 = e2 at *
  generalize x.d % 30 = dd at *
  generalize x.c % 60 = c6 at *
  generalize x.b % 50 = bb at *
  generalize cL L = cL0 at *
  have g0 : ((0 : Int) < ((r0.length + 1 : Nat) : Int)) = True := eq_true (by omega)
  have b1 : ((r0.length + 1 + 1) * 8 ≤ 1099511627776) = True := eq_true (by omega)
  have b2 : (r0.length + 1 + 1 ≤ 1099511627776) = True := eq_true (by omega)
  have b3 : 1 + (r0.length + 1) = r0.length + 1 + 1 := by omega
  have b4 : r0.length + 1 - 1 = r0.length := rfl
  have b5 : List.take r0.length (r0.map I) = r0.map I := List.take_of_length_le (by simp)
  have h8 : ((128 : Int) < (x.e : Int)) = True := eq_true (by omega)
  unfold x39l2
  dsimp only
  (sym => (simp [irem2,iquo2,remF,Za,Zb,Zc,Zd,Ze,Zf,Zh,Zi,Zl,Zm,Zn,Zo,Zp,Zu,Zv,Zx,Zz,Z0,Z2,Z5,Z6,Z7,Z8,ZD,ZF,ZG,ZI,ZJ,ZK,ZL,ZM,ZP,ZQ,ZR,ZS,ZT,ZU,ZX,ZY,Ya,Yb,Ye,Yf,Yh,Yr,Yt,Yv,Yw,Y0,Y1,Y2,Y4,Y6,Y7,Y8,Y9,YB,YG,YK,YP,YQ,YT,YX,YY,Xa,Xd,Xf,Xi,Xj,Xl,XW,XX,XZ,Wb,Wc,We,Wf,Wg,Wh,Wi,Wj,Wk,Wl,Wn,Wo,Wp,Wr,Ws,Wu,Wv,Ww,Wx,Wy,Wz,W0,W3,W4,W5,W6,W7,WA,WB,WC,WF,WG,WH,WI,WJ,WL,WM,WN,WO,Vt,Vu,Vv,Vw,Vx,V2,V3,V4,V5,V6,V8,V9,VA,VB,VC,VD,VF,VH,VJ,VK,VL,VO,VS,VT,VU,VV,VW,VX,VY,VZ,Ua,Ub,Uc,Ud,Uk,Ul,Um,Un,Uv,Uw,Ux,Uy,U2,U3,U4,U6,U7,U9,UA,UB,UC,UD,UE,UF,UG,UH,UI,UJ,UK,UM,UN,UP,UR,US,UV,UY,UZ,Ta,Td,Te,Tf,Tg,Ti,Tv,Tw,Ty,a1,a2,a5,cl,l1,l2,hx,wa,wb,wc,wd,we,m60,m2,m50,m30,d2,wd2,m3,s1,s2,s3,w44,g0,b1,b2,b3,b4,b5,h8]; all_goals tactic => exact rfl))
theorem r39_101_1 (hq : q.Ok) {x : P5} {i : Nat} (hi : i < 5) (hx : q.ls[i]? = some x) (ht : x.e / 2 % 3 = 1) {L : List Ld} (hL : L.length = i) (a0 a2 : Int) (r0 r2 : List Int) (hr0 : r0.length ≤ 5) (hr2 : r2.length ≤ 5) :
    headX 0 [1,2,3,10,11] (execW progX 39 0 none (match x39l2 with | .loop _ a => a | c => c) (envL [1,2,3,10,11] [.pt 0 0,.pt 1 0,.pt 2 0,.pt 5 0,I (i : Nat)]) (hN q L i [.sl 6 0 1 (r0.length + 1),.nilsl,.sl 7 0 1 (r2.length + 1)] [some (.blk true (.cells true (I a0 :: r0.map I))),some (.blk true (.cells true (I a2 :: r2.map I)))])) =
      some ([.pt 0 0,.pt 1 0,.pt 2 0,.pt 5 0,I (i + 1 : Nat)],hN q (L ++ [x.ld]) (i + 1) [.sl 6 0 1 (r0.length + 1),.sl 7 0 1 (1),.sl 8 0 1 (r2.length + 1)] [some (.blk true (.cells true (I a0 :: r0.map I))),some (.blk true (.cells true ([I (i : Nat)]))),some (.blk true (.cells true (I a2 :: r2.map I)))]) := by
  obtain ⟨wa,wb,wc,wd,we,m60,m2,m50,m30,d2,wd2,m3,s1,s2,s3⟩ := ldF (hq.ls x (List.mem_of_getElem? hx))
  have a1 := lt_ix (lt_of hx)
  have a2 := up_ix hi (by omega)
  have a5 : ((i : Int) < 5) = True := eq_true (by omega)
  have cl := cL_len L
  rw [hL] at cl
  have ca := cL_app L x.ld
  have l1 : ((i + 1) * 40 ≤ 1099511627776) = True := eq_true (by omega)
  have l2 : (i + 1 ≤ 1099511627776) = True := eq_true (by omega)
  rw [ht] at m3
  unfold hN
  rw [ca]
  unfold P5.ld Ld.row
  dsimp only
  clear ca
  generalize x.e % 2 = ee at *
  generalize 1 + x.c % 60 + x.d % 30 = cd at *
  generalize 1 + x.c % 60 = cc at *
  generalize x.a + x.b % 50 = ab at *
  generalize x.e / 2 = e2 at *
  generalize x.d % 30 = dd at *
  generalize x.c % 60 = c6 at *
  generalize x.b % 50 = bb at *
  generalize cL L = cL0 at *
  unfold x39l2
  dsimp only
  rcases ptf ((128 : Int) < (x.e : Int)) with h8 | h8
  · (sym => (simp [irem2,iquo2,remF,Za,Zb,Zc,Zd,Ze,Zf,Zh,Zi,Zl,Zm,Zn,Zo,Zp,Zr,Zu,Zv,Zx,Zz,Z0,Z2,Z5,Z6,Z7,Z8,ZD,ZF,ZG,ZI,ZJ,ZK,ZL,ZM,ZP,ZQ,ZR,ZS,ZT,ZU,ZV,ZX,ZY,Ya,Yc,Ye,Yf,Yh,Yr,Yt,Yv,Yw,Y0,Y2,Y3,Y4,Y6,Y7,Y8,Y9,YB,YG,YK,YP,YQ,YT,YX,YY,Xa,Xd,Xf,Xi,Xj,Xl,XW,XX,XZ,Wb,Wc,We,Wf,Wg,Wh,Wi,Wj,Wk,Wl,Wn,Wo,Wp,Wr,Ws,Wu,Wv,Ww,Wx,Wy,Wz,W0,W3,W4,W5,W6,W7,WA,WB,WC,WF,WG,WH,WI,WJ,WL,WM,WN,WO,Vt,Vu,Vv,Vw,Vx,Vy,V2,V3,V4,V5,V6,V8,V9,VA,VB,VC,VD,VF,VH,VJ,VK,VL,VO,VS,VT,VU,VV,VW,VX,VY,VZ,Ua,Ub,Uc,Ud,Uk,Ul,Um,Un,Uv,Uw,Ux,Uy,U2,U3,U4,U5,U6,U7,U9,UA,UB,UC,UD,UE,UF,UG,UH,UI,UJ,UK,UL,UM,UN,UP,UR,US,UV,UY,UZ,Ta,Tf,Ti,Tw,Ty,a1,a2,a5,cl,l1,l2,hx,wa,wb,wc,wd,we,m60,m2,m50,m30,d2,wd2,m3,s1,s2,s3,w44,h8]; all_goals tactic => exact rfl))
  · (sym => (simp [irem2,iquo2,remF,Za,Zb,Zc,Zd,Ze,Zf,Zh,Zi,Zl,Zm,Zn,Zo,Zp,Zr,Zu,Zv,Zx,Zz,Z0,Z2,Z5,Z6,Z7,Z8,ZD,ZF,ZG,ZI,ZJ,ZK,ZL,ZM,ZP,ZQ,ZR,ZS,ZT,ZU,ZV,ZX,ZY,Ya,Yc,Ye,Yf,Yh,Yr,Yt,Yv,Yw,Y0,Y2,Y3,Y4,Y6,Y7,Y8,Y9,YB,YG,YK,YP,YQ,YT,YX,YY,Xa,Xd,Xf,Xi,Xj,Xl,XW,XX,XZ,Wb,Wc,We,Wf,Wg,Wh,Wi,Wj,Wk,Wl,Wn,Wo,Wp,Wr,Ws,Wu,Wv,Ww,Wx,Wy,Wz,W0,W3,W4,W5,W6,W7,WA,WB,WC,WF,WG,WH,WI,WJ,WL,WM,WN,WO,Vt,Vu,Vv,Vw,Vx,Vy,V2,V3,V4,V5,V6,V8,V9,VA,VB,VC,VD,VF,VH,VJ,VK,VL,VO,VS,VT,VU,VV,VW,VX,VY,VZ,Ua,Ub,Uc,Ud,Uk,Ul,Um,Un,Uv,Uw,Ux,Uy,U2,U3,U4,U5,U6,U7,U9,UA,UB,UC,UD,UE,UF,UG,UH,UI,UJ,UK,UL,UM,UN,UP,UR,US,UV,UY,UZ,Ta,Tf,Ti,Tw,Ty,a1,a2,a5,cl,l1,l2,hx,wa,wb,wc,wd,we,m60,m2,m50,m30,d2,wd2,m3,s1,s2,s3,w44,h8]; all_goals tactic => exact rfl))
theorem r39_101_2 (hq : q.Ok) {x : P5} {i : Nat} (hi : i < 5) (hx : q.ls[i]? = some x) (ht : x.e / 2 % 3 = 2) (h8 : ¬ 128 < x.e) {L : List Ld} (hL : L.length = i) (a0 a2 : Int) (r0 r2 : List Int) (hr0 : r0.length ≤ 5) (hr2 : r2.length ≤ 5) :
    headX 0 [1,2,3,10,11] (execW progX 39 0 none (match x39l2 with | .loop _ a => a | c => c) (envL [1,2,3,10,11] [.pt 0 0,.pt 1 0,.pt 2 0,.pt 5 0,I (i : Nat)]) (hN q L i [.sl 6 0 1 (r0.length + 1),.nilsl,.sl 7 0 1 (r2.length + 1)] [some (.blk true (.cells true (I a0 :: r0.map I))),some (.blk true (.cells true (I a2 :: r2.map I)))])) =
      some ([.pt 0 0,.pt 1 0,.pt 2 0,.pt 5 0,I (i + 1 : Nat)],hN q (L ++ [x.ld]) (i + 1) [.sl 6 0 1 (r0.length + 1),.nilsl,.sl 7 0 1 (r2.length + 1 + 1)] [some (.blk true (.cells true (I a0 :: r0.map I))),some (.blk true (.cells true (I a2 :: (r2.map I ++ [I (i : Nat)]))))]) := by
  obtain ⟨wa,wb,wc,wd,we,m60,m2,m50,m30,d2,wd2,m3,s1,s2,s3⟩ := ldF (hq.ls x (List.mem_of_getElem? hx))
  have a1 := lt_ix (lt_of hx)
  have a2 := up_ix hi (by omega)
  have a5 : ((i : Int) < 5) = True := eq_true (by omega)
  have cl := cL_len L
  rw [hL] at cl
  have ca := cL_app L x.ld
  have l1 : ((i + 1) * 40 ≤ 1099511627776) = True := eq_true (by omega)
  have l2 : (i + 1 ≤ 1099511627776) = True := eq_true (by omega)
  rw [ht] at m3
  unfold hN
  rw [ca]
  unfold P5.ld Ld.row
  dsimp only
  clear ca
  generalize x.e % 2 = ee at *
  generalize 1 + x.c % 60 + x.d % 30 = cd at *
  generalize 1 + x.c % 60 = cc at *
  generalize x.a + x.b % 50 = ab at *
  generalize x.e / 2 = e2 at *
  generalize x.d % 30 = dd at *
  generalize x.c % 60 = c6 at *
  generalize x.b % 50 = bb at *
  generalize cL L = cL0 at *
  have g0 : ((0 : Int) < ((r2.length + 1 : Nat) : Int)) = True := eq_true (by omega)
  have b1 : ((r2.length + 1 + 1) * 8 ≤ 1099511627776) = True := eq_true (by omega)
  have b2 : (r2.length + 1 + 1 ≤ 1099511627776) = True := eq_true (by omega)
  have b3 : 1 + (r2.length + 1) = r2.length + 1 + 1 := by omega
  have b4 : r2.length + 1 - 1 = r2.length := rfl
  have b5 : List.take r2.length (r2.map I) = r2.map I := List.take_of_length_le (by simp)
  have h8 : ((128 : Int) < (x.e : Int)) = False := eq_false (by omega)
  unfold x39l2
  dsimp only
  (sym => (simp [irem2,iquo2,remF,Za,Zb,Zc,Zd,Ze,Zf,Zh,Zi,Zl,Zm,Zn,Zo,Zp,Zr,Zu,Zv,Zx,Zz,Z0,Z2,Z5,Z6,Z7,Z8,ZD,ZF,ZG,ZI,ZJ,ZK,ZL,ZM,ZP,ZQ,ZR,ZS,ZT,ZU,ZV,ZX,ZY,Ya,Ye,Yf,Yh,Yr,Yt,Yv,Yw,Y0,Y2,Y4,Y5,Y6,Y7,Y8,Y9,YB,YG,YK,YP,YQ,YT,YX,YY,Xa,Xd,Xf,Xi,Xj,Xl,XW,XX,XZ,Wb,Wc,We,Wf,Wg,Wh,Wi,Wj,Wk,Wl,Wn,Wo,Wp,Wr,Ws,Wu,Wv,Ww,Wx,Wy,Wz,W0,W3,W4,W5,W6,W7,WA,WB,WC,WF,WG,WH,WI,WJ,WL,WM,WN,WO,Vt,Vu,Vv,Vw,Vx,Vy,V2,V3,V4,V5,V6,V8,V9,VA,VB,VC,VD,VF,VH,VJ,VK,VL,VO,VS,VT,VU,VV,VW,VX,VY,VZ,Ua,Ub,Uc,Ud,Uk,Ul,Um,Un,Uv,Uw,Ux,Uy,U2,U3,U4,U6,U7,U9,UA,UB,UC,UD,UE,UF,UG,UH,UI,UJ,UK,UM,UN,UP,UR,US,UV,UY,UZ,Ta,Td,Tf,Ti,Tw,Ty,a1,a2,a5,cl,l1,l2,hx,wa,wb,wc,wd,we,m60,m2,m50,m30,d2,wd2,m3,s1,s2,s3,w44,g0,b1,b2,b3,b4,b5,h8]; all_goals tactic => exact rfl))
theorem r39_101_2p (hq : q.Ok) {x : P5} {i : Nat} (hi : i < 5) (hx : q.ls[i]? = some x) (ht : x.e / 2 % 3 = 2) (h8 : 128 < x.e) {L : List Ld} (hL : L.length = i) (a0 a2 : Int) (r0 r2 : List Int) (hr0 : r0.length ≤ 5) (hr2 : r2.length ≤ 5) :
    headX 0 [1,2,3,10,11] (execW progX 39 0 none (match x39l2 with | .loop _ a => a | c => c) (envL [1,2,3,10,11] [.pt 0 0,.pt 1 0,.pt 2 0,.pt 5 0,I (i : Nat)]) (hN q L i [.sl 6 0 1 (r0.length + 1),.nilsl,.sl 7 0 1 (r2.length + 1)] [some (.blk true (.cells true (I a0 :: r0.map I))),some (.blk true (.cells true (I a2 :: r2.map I)))])) =
      some ([.pt 0 0,.pt 1 0,.pt 2 0,.pt 5 0,I (i + 1 : Nat)],hN q (L ++ [x.ld]) (i + 1) [.sl 6 0 1 (r0.length + 1),.nilsl,.sl 7 0 1 (r2.length + 1 + 1)] [some (.blk true (.cells true (I a0 :: r0.map I))),some (.blk true (.cells true (I (i : Nat) :: I a2 :: r2.map I)))]) := by
  obtain ⟨wa,wb,wc,wd,we,m60,m2,m50,m30,d2,wd2,m3,s1,s2,s3⟩ := ldF (hq.ls x (List.mem_of_getElem? hx))
  have a1 := lt_ix (lt_of hx)
  have a2 := up_ix hi (by omega)
  have a5 : ((i : Int) < 5) = True := eq_true (by omega)
  have cl := cL_len L
  rw [hL] at cl
  have ca := cL_app L x.ld
  have l1 : ((i + 1) * 40 ≤ 1099511627776) = True := eq_true (by omega)
  have l2 : (i + 1 ≤ 1099511627776) = True := eq_true (by omega)
  rw [ht] at m3
  unfold hN
  rw [ca]
  unfold P5.ld Ld.row
  dsimp only
  clear ca
  generalize x.e % 2 = ee at *
  generalize 1 + x.c % 60 + x.d % 30 = cd at *
  generalize 1 + x.c % 60 = cc at *
  generalize x.a + x.b % 50 = ab at *
  generalize x.e / 2 = e2 at *
  generalize x.d % 30 = dd at *
  generalize x.c % 60 = c6 at *
  generalize x.b % 50 = bb at *
  generalize cL L = cL0 at *
  have g0 : ((0 : Int) < ((r2.length + 1 : Nat) : Int)) = True := eq_true (by omega)
  have b1 : ((r2.length + 1 + 1) * 8 ≤ 1099511627776) = True := eq_true (by omega)
  have b2 : (r2.length + 1 + 1 ≤ 1099511627776) = True := eq_true (by omega)
  have b3 : 1 + (r2.length + 1) = r2.length + 1 + 1 := by omega
  have b4 : r2.length + 1 - 1 = r2.length := rfl
  have b5 : List.take r2.length (r2.map I) = r2.map I := List.take_of_length_le (by simp)
  have h8 : ((128 : Int) < (x.e : Int)) = True := eq_true (by omega)
  unfold x39l2
  dsimp only
  (sym => (simp [irem2,iquo2,remF,Za,Zb,Zc,Zd,Ze,Zf,Zh,Zi,Zl,Zm,Zn,Zo,Zp,Zu,Zv,Zx,Zz,Z0,Z2,Z5,Z6,Z7,Z8,ZD,ZF,ZG,ZI,ZJ,ZK,ZL,ZM,ZP,ZQ,ZR,ZS,ZT,ZU,ZX,ZY,Ya,Yb,Ye,Yf,Yh,Yr,Yt,Yv,Yw,Y0,Y2,Y4,Y5,Y6,Y7,Y8,Y9,YB,YG,YK,YP,YQ,YT,YX,YY,Xa,Xd,Xf,Xi,Xj,Xl,XW,XX,XZ,Wb,Wc,We,Wf,Wg,Wh,Wi,Wj,Wk,Wl,Wn,Wo,Wp,Wr,Ws,Wu,Wv,Ww,Wx,Wy,Wz,W0,W3,W4,W5,W6,W7,WA,WB,WC,WF,WG,WH,WI,WJ,WL,WM,WN,WO,Vt,Vu,Vv,Vw,Vx,V2,V3,V4,V5,V6,V8,V9,VA,VB,VC,VD,VF,VH,VJ,VK,VL,VO,VS,VT,VU,VV,VW,VX,VY,VZ,Ua,Ub,Uc,Ud,Uk,Ul,Um,Un,Uv,Uw,Ux,Uy,U2,U3,U4,U6,U7,U9,UA,UB,UC,UD,UE,UF,UG,UH,UI,UJ,UK,UM,UN,UP,UR,US,UV,UY,UZ,Ta,Td,Te,Tf,Tg,Ti,Tv,Tw,Ty,a1,a2,a5,cl,l1,l2,hx,wa,wb,wc,wd,we,m60,m2,m50,m30,d2,wd2,m3,s1,s2,s3,w44,g0,b1,b2,b3,b4,b5,h8]; all_goals tactic => exact rfl))
theorem r39_110_0 (hq : q.Ok) {x : P5} {i : Nat} (hi : i < 5) (hx : q.ls[i]? = some x) (ht : x.e / 2 % 3 = 0) (h8 : ¬ 128 < x.e) {L : List Ld} (hL : L.length = i) (a0 a1 : Int) (r0 r1 : List Int) (hr0 : r0.length ≤ 5) (hr1 : r1.length ≤ 5) :
    headX 0 [1,2,3,10,11] (execW progX 39 0 none (match x39l2 with | .loop _ a => a | c => c) (envL [1,2,3,10,11] [.pt 0 0,.pt 1 0,.pt 2 0,.pt 5 0,I (i : Nat)]) (hN q L i [.sl 6 0 1 (r0.length + 1),.sl 7 0 1 (r1.length + 1),.nilsl] [some (.blk true (.cells true (I a0 :: r0.map I))),some (.blk true (.cells true (I a1 :: r1.map I)))])) =
      some ([.pt 0 0,.pt 1 0,.pt 2 0,.pt 5 0,I (i + 1 : Nat)],hN q (L ++ [x.ld]) (i + 1) [.sl 6 0 1 (r0.length + 1 + 1),.sl 7 0 1 (r1.length + 1),.nilsl] [some (.blk true (.cells true (I a0 :: (r0.map I ++ [I (i : Nat)])))),some (.blk true (.cells true (I a1 :: r1.map I)))]) := by
  obtain ⟨wa,wb,wc,wd,we,m60,m2,m50,m30,d2,wd2,m3,s1,s2,s3⟩ := ldF (hq.ls x (List.mem_of_getElem? hx))
  have a1 := lt_ix (lt_of hx)
  have a2 := up_ix hi (by omega)
  have a5 : ((i : Int) < 5) = True := eq_true (by omega)
  have cl := cL_len L
  rw [hL] at cl
  have ca := cL_app L x.ld
  have l1 : ((i + 1) * 40 ≤ 1099511627776) = True := eq_true (by omega)
  have l2 : (i + 1 ≤ 1099511627776) = True := eq_true (by omega)
  rw [ht] at m3
  unfold hN
  rw [ca]
  unfold P5.ld Ld.row
  dsimp only
  clear ca
  generalize x.e % 2 = ee at *
  generalize 1 + x.c % 60 + x.d % 30 = cd at *
  generalize 1 + x.c % 60 = cc at *
  generalize x.a + x.b % 50 = ab at *
  generalize x.e / 2 = e2 at *
  generalize x.d % 30 = dd at *
  generalize x.c % 60 = c6 at *
  generalize x.b % 50 = bb at *
  generalize cL L = cL0 at *
  have g0 : ((0 : Int) < ((r0.length + 1 : Nat) : Int)) = True := eq_true (by omega)
  have b1 : ((r0.length + 1 + 1) * 8 ≤ 1099511627776) = True := eq_true (by omega)
  have b2 : (r0.length + 1 + 1 ≤ 1099511627776) = True := eq_true (by omega)
  have b3 : 1 + (r0.length + 1) = r0.length + 1 + 1 := by omega
  have b4 : r0.length + 1 - 1 = r0.length := rfl
  have b5 : List.take r0.length (r0.map I) = r0.map I := List.take_of_length_le (by simp)
  have h8 : ((128 : Int) < (x.e : Int)) = False := eq_false (by omega)
  unfold x39l2
  dsimp only
  (sym => (simp [irem2,iquo2,remF,Za,Zb,Zc,Zd,Ze,Zf,Zh,Zi,Zl,Zm,Zn,Zo,Zp,Zr,Zu,Zv,Zx,Zz,Z0,Z2,Z5,Z6,Z7,Z8,ZD,ZF,ZG,ZI,ZJ,ZK,ZL,ZM,ZP,ZQ,ZR,ZS,ZT,ZU,ZV,ZX,ZY,Ya,Ye,Yf,Yh,Yr,Yt,Yv,Yw,Y0,Y1,Y2,Y4,Y6,Y7,Y8,Y9,YB,YG,YK,YP,YQ,YT,YX,YY,Xa,Xd,Xf,Xi,Xj,Xl,XW,XX,XZ,Wb,Wc,We,Wf,Wg,Wh,Wi,Wj,Wk,Wl,Wn,Wo,Wp,Wr,Ws,Wu,Wv,Ww,Wx,Wy,Wz,W0,W3,W4,W5,W6,W7,WA,WB,WC,WF,WG,WH,WI,WJ,WL,WM,WN,WO,Vt,Vu,Vv,Vw,Vx,Vy,V2,V3,V4,V5,V6,V8,V9,VA,VB,VC,VD,VF,VH,VJ,VK,VL,VO,VS,VT,VU,VV,VW,VX,VY,VZ,Ua,Ub,Uc,Ud,Uk,Ul,Um,Un,Uv,Uw,Ux,Uy,U2,U3,U4,U6,U7,U9,UA,UB,UC,UD,UE,UF,UG,UH,UI,UJ,UK,UM,UN,UP,UR,US,UV,UY,UZ,Ta,Td,Tf,Ti,Tw,Ty,a1,a2,a5,cl,l1,l2,hx,wa,wb,wc,wd,we,m60,m2,m50,m30,d2,wd2,m3,s1,s2,s3,w44,g0,b1,b2,b3,b4,b5,h8]; all_goals tactic => exact rfl))
theorem r39_110_0p (hq : q.Ok) {x : P5} {i : Nat} (hi : i < 5) (hx : q.ls[i]? = some x) (ht : x.e / 2 % 3 = 0) (h8 : 128 < x.e) {L : List Ld} (hL : L.length = i) (a0 a1 : Int) (r0 r1 : List Int) (hr0 : r0.length ≤ 5) (hr1 : r1.length ≤ 5) :
    headX 0 [1,2,3,10,11] (execW progX 39 0 none (match x39l2 with | .loop _ a => a | c => c) (envL [1,2,3,10,11] [.pt 0 0,.pt 1 0,.pt 2 0,.pt 5 0,I (i : Nat)]) (hN q L i [.sl 6 0 1 (r0.length + 1),.sl 7 0 1 (r1.length + 1),.nilsl] [some (.blk true (.cells true (I a0 :: r0.map I))),some (.blk true (.cells true (I a1 :: r1.map I)))])) =
      some ([.pt 0 0,.pt 1 0,.pt 2 0,.pt 5 0,I (i + 1 : Nat)],hN q (L ++ [x.ld]) (i + 1) [.sl 6 0 1 (r0.length + 1 + 1),.sl 7 0 1 (r1.length + 1),.nilsl] [some (.blk true (.cells true (I (i : Nat) :: I a0 :: r0.map I))),some (.blk true (.cells true (I a1 :: r1.map I)))]) := by
  obtain ⟨wa,wb,wc,wd,we,m60,m2,m50,m30,d2,wd2,m3,s1,s2,s3⟩ := ldF (hq.ls x (List.mem_of_getElem? hx))
  have a1 := lt_ix (lt_of hx)
  have a2 := up_ix hi (by omega)
  have a5 : ((i : Int) < 5) = True := eq_true (by omega)
  have cl := cL_len L
  rw [hL] at cl
  have ca := cL_app L x.ld
  have l1 : ((i + 1) * 40 ≤ 1099511627776) = True := eq_true (by omega)
  have l2 : (i + 1 ≤ 1099511627776) = True := eq_true (by omega)
  rw [ht] at m3
  unfold hN
  rw [ca]
  unfold P5.ld Ld.row
  dsimp only
  clear ca
  generalize x.e % 2 = ee at *
  generalize 1 + x.c % 60 + x.d % 30 = cd at *
  generalize 1 + x.c % 60 = cc at *
  generalize x.a + x.b % 50 = ab at *
  generalize x.e / 2 = e2 at *
  generalize x.d % 30 = dd at *
  generalize x.c % 60 = c6 at *
  generalize x.b % 50 = bb at *
  generalize cL L = cL0 at *
  have g0 : ((0 : Int) < ((r0.length + 1 : Nat) : Int)) = True := eq_true (by omega)
  have b1 : ((r0.length + 1 + 1) * 8 ≤ 1099511627776) = True := eq_true (by omega)
  have b2 : (r0.length + 1 + 1 ≤ 1099511627776) = True := eq_true (by omega)
  have b3 : 1 + (r0.length + 1) = r0.length + 1 + 1 := by omega
  have b4 : r0.length + 1 - 1 = r0.length := rfl
  have b5 : List.take r0.length (r0.map I) = r0.map I := List.take_of_length_le (by simp)
  have h8 : ((128 : Int) < (x.e : Int)) = True := eq_true (by omega)
  unfold x39l2
  dsimp only
  (sym => (simp [irem2,iquo2,remF,Za,Zb,Zc,Zd,Ze,Zf,Zh,Zi,Zl,Zm,Zn,Zo,Zp,Zu,Zv,Zx,Zz,Z0,Z2,Z5,Z6,Z7,Z8,ZD,ZF,ZG,ZI,ZJ,ZK,ZL,ZM,ZP,ZQ,ZR,ZS,ZT,ZU,ZX,ZY,Ya,Yb,Ye,Yf,Yh,Yr,Yt,Yv,Yw,Y0,Y1,Y2,Y4,Y6,Y7,Y8,Y9,YB,YG,YK,YP,YQ,YT,YX,YY,Xa,Xd,Xf,Xi,Xj,Xl,XW,XX,XZ,Wb,Wc,We,Wf,Wg,Wh,Wi,Wj,Wk,Wl,Wn,Wo,Wp,Wr,Ws,Wu,Wv,Ww,Wx,Wy,Wz,W0,W3,W4,W5,W6,W7,WA,WB,WC,WF,WG,WH,WI,WJ,WL,WM,WN,WO,Vt,Vu,Vv,Vw,Vx,V2,V3,V4,V5,V6,V8,V9,VA,VB,VC,VD,VF,VH,VJ,VK,VL,VO,VS,VT,VU,VV,VW,VX,VY,VZ,Ua,Ub,Uc,Ud,Uk,Ul,Um,Un,Uv,Uw,Ux,Uy,U2,U3,U4,U6,U7,U9,UA,UB,UC,UD,UE,UF,UG,UH,UI,UJ,UK,UM,UN,UP,UR,US,UV,UY,UZ,Ta,Td,Te,Tf,Tg,Ti,Tv,Tw,Ty,a1,a2,a5,cl,l1,l2,hx,wa,wb,wc,wd,we,m60,m2,m50,m30,d2,wd2,m3,s1,s2,s3,w44,g0,b1,b2,b3,b4,b5,h8]; all_goals tactic => exact rfl))
theorem r39_110_1 (hq : q.Ok) {x : P5} {i : Nat} (hi : i < 5) (hx : q.ls[i]? = some x) (ht : x.e / 2 % 3 = 1) (h8 : ¬ 128 < x.e) {L : List Ld} (hL : L.length = i) (a0 a1 : Int) (r0 r1 : List Int) (hr0 : r0.length ≤ 5) (hr1 : r1.length ≤ 5) :
    headX 0 [1,2,3,10,11] (execW progX 39 0 none (match x39l2 with | .loop _ a => a | c => c) (envL [1,2,3,10,11] [.pt 0 0,.pt 1 0,.pt 2 0,.pt 5 0,I (i : Nat)]) (hN q L i [.sl 6 0 1 (r0.length + 1),.sl 7 0 1 (r1.length + 1),.nilsl] [some (.blk true (.cells true (I a0 :: r0.map I))),some (.blk true (.cells true (I a1 :: r1.map I)))])) =
      some ([.pt 0 0,.pt 1 0,.pt 2 0,.pt 5 0,I (i + 1 : Nat)],hN q (L ++ [x.ld]) (i + 1) [.sl 6 0 1 (r0.length + 1),.sl 7 0 1 (r1.length + 1 + 1),.nilsl] [some (.blk true (.cells true (I a0 :: r0.map I))),some (.blk true (.cells true (I a1 :: (r1.map I ++ [I (i : Nat)]))))]) := by
  obtain ⟨wa,wb,wc,wd,we,m60,m2,m50,m30,d2,wd2,m3,s1,s2,s3⟩ := ldF (hq.ls x (List.mem_of_getElem? hx))
  have a1 := lt_ix (lt_of hx)
  have a2 := up_ix hi (by omega)
  have a5 : ((i : Int) < 5) = True := eq_true (by omega)
  have cl := cL_len L
  rw [hL] at cl
  have ca := cL_app L x.ld
  have l1 : ((i + 1) * 40 ≤ 1099511627776) = True := eq_true (by omega)
  have l2 : (i + 1 ≤ 1099511627776) = True := eq_true (by omega)
  rw [ht] at m3
  unfold hN
  rw [ca]
  unfold P5.ld Ld.row
  dsimp only
  clear ca
  generalize x.e % 2 = ee at *
  generalize 1 + x.c % 60 + x.d % 30 = cd at *
  generalize 1 + x.c % 60 = cc at *
  generalize x.a + x.b % 50 = ab at *
  generalize x.e / 2 = e2 at *
  generalize x.d % 30 = dd at *
  generalize x.c % 60 = c6 at *
  generalize x.b % 50 = bb at *
  generalize cL L = cL0 at *
  have g0 : ((0 : Int) < ((r1.length + 1 : Nat) : Int)) = True := eq_true (by omega)
  have b1 : ((r1.length + 1 + 1) * 8 ≤ 1099511627776) = True := eq_true (by omega)
  have b2 : (r1.length + 1 + 1 ≤ 1099511627776) = True := eq_true (by omega)
  have b3 : 1 + (r1.length + 1) = r1.length + 1 + 1 := by omega
  have b4 : r1.length + 1 - 1 = r1.length := rfl
  have b5 : List.take r1.length (r1.map I) = r1.map I := List.take_of_length_le (by simp)
  have h8 : ((128 : Int) < (x.e : Int)) = False := eq_false (by omega)
  unfold x39l2
  dsimp only
  (sym => (simp [irem2,iquo2,remF,Za,Zb,Zc,Zd,Ze,Zf,Zh,Zi,Zl,Zm,Zn,Zo,Zp,Zr,Zu,Zv,Zx,Zz,Z0,Z2,Z5,Z6,Z7,Z8,ZD,ZF,ZG,ZI,ZJ,ZK,ZL,ZM,ZP,ZQ,ZR,ZS,ZT,ZU,ZV,ZX,ZY,Ya,Ye,Yf,Yh,Yr,Yt,Yv,Yw,Y0,Y2,Y3,Y4,Y6,Y7,Y8,Y9,YB,YG,YK,YP,YQ,YT,YX,YY,Xa,Xd,Xf,Xi,Xj,Xl,XW,XX,XZ,Wb,Wc,We,Wf,Wg,Wh,Wi,Wj,Wk,Wl,Wn,Wo,Wp,Wr,Ws,Wu,Wv,Ww,Wx,Wy,Wz,W0,W3,W4,W5,W6,W7,WA,WB,WC,WF,WG,WH,WI,WJ,WL,WM,WN,WO,Vt,Vu,Vv,Vw,Vx,Vy,V2,V3,V4,V5,V6,V8,V9,VA,VB,VC,VD,VF,VH,VJ,VK,VL,VO,VS,VT,VU,VV,VW,VX,VY,VZ,Ua,Ub,Uc,Ud,Uk,Ul,Um,Un,Uv,Uw,Ux,Uy,U2,U3,U4,U6,U7,U9,UA,UB,UC,UD,UE,UF,UG,UH,UI,UJ,UK,UM,UN,UP,UR,US,UV,UY,UZ,Ta,Td,Tf,Ti,Tw,Ty,a1,a2,a5,cl,l1,l2,hx,wa,wb,wc,wd,we,m60,m2,m50,m30,d2,wd2,m3,s1,s2,s3,w44,g0,b1,b2,b3,b4,b5,h8]; all_goals tactic => exact rfl))
theorem r39_110_1p (hq : q.Ok) {x : P5} {i : Nat} (hi : i < 5) (hx : q.ls[i]? = some x) (ht : x.e / 2 % 3 = 1) (h8 : 128 < x.e) {L : List Ld} (hL : L.length = i) (a0 a1 : Int) (r0 r1 : List Int) (hr0 : r0.length ≤ 5) (hr1 : r1.length ≤ 5) :
    headX 0 [1,2,3,10,11] (execW progX 39 0 none (match x39l2 with | .loop _ a => a | c => c) (envL [1,2,3,10,11] [.pt 0 0,.pt 1 0,.pt 2 0,.pt 5 0,I (i : Nat)]) (hN q L i [.sl 6 0 1 (r0.length + 1),.sl 7 0 1 (r1.length + 1),.nilsl] [some (.blk true (.cells true (I a0 :: r0.map I))),some (.blk true (.cells true (I a1 :: r1.map I)))])) =
      some ([.pt 0 0,.pt 1 0,.pt 2 0,.pt 5 0,I (i + 1 : Nat)],hN q (L ++ [x.ld]) (i + 1) [.sl 6 0 1 (r0.length + 1),.sl 7 0 1 (r1.length + 1 + 1),.nilsl] [some (.blk true (.cells true (I a0 :: r0.map I))),some (.blk true (.cells true (I (i : Nat) :: I a1 :: r1.map I)))]) := by
  obtain ⟨wa,wb,wc,wd,we,m60,m2,m50,m30,d2,wd2,m3,s1,s2,s3⟩ := ldF (hq.ls x (List.mem_of_getElem? hx))
  have a1 := lt_ix (lt_of hx)
  have a2 := up_ix hi (by omega)
  have a5 : ((i : Int) < 5) = True := eq_true (by omega)
  have cl := cL_len L
  rw [hL] at cl
  have ca := cL_app L x.ld
  have l1 : ((i + 1) * 40 ≤ 1099511627776) = True := eq_true (by omega)
  have l2 : (i + 1 ≤ 1099511627776) = True := eq_true (by omega)
  rw [ht] at m3
  unfold hN
  rw [ca]
  unfold P5.ld Ld.row
  dsimp only
  clear ca
  generalize x.e % 2 = ee at *
  generalize 1 + x.c % 60 + x.d % 30 = cd at *
  generalize 1 + x.c % 60 = cc at *
  generalize x.a + x.b % 50 = ab at *
  generalize x.e / 2 = e2 at *
  generalize x.d % 30 = dd at *
  generalize x.c % 60 = c6 at *
  generalize x.b % 50 = bb at *
  generalize cL L = cL0 at *
  have g0 : ((0 : Int) < ((r1.length + 1 : Nat) : Int)) = True := eq_true (by omega)
  have b1 : ((r1.length + 1 + 1) * 8 ≤ 1099511627776) = True := eq_true (by omega)
  have b2 : (r1.length + 1 + 1 ≤ 1099511627776) = True := eq_true (by omega)
  have b3 : 1 + (r1.length + 1) = r1.length + 1 + 1 := by omega
  have b4 : r1.length + 1 - 1 = r1.length := rfl
  have b5 : List.take r1.length (r1.map I) = r1.map I := List.take_of_length_le (by simp)
  have h8 : ((128 : Int) < (x.e : Int)) = True := eq_true (by omega)
  unfold x39l2
  dsimp only
  (sym => (simp [irem2,iquo2,remF,Za,Zb,Zc,Zd,Ze,Zf,Zh,Zi,Zl,Zm,Zn,Zo,Zp,Zu,Zv,Zx,Zz,Z0,Z2,Z5,Z6,Z7,Z8,ZD,ZF,ZG,ZI,ZJ,ZK,ZL,ZM,ZP,ZQ,ZR,ZS,ZT,ZU,ZX,ZY,Ya,Yb,Ye,Yf,Yh,Yr,Yt,Yv,Yw,Y0,Y2,Y3,Y4,Y6,Y7,Y8,Y9,YB,YG,YK,YP,YQ,YT,YX,YY,Xa,Xd,Xf,Xi,Xj,Xl,XW,XX,XZ,Wb,Wc,We,Wf,Wg,Wh,Wi,Wj,Wk,Wl,Wn,Wo,Wp,Wr,Ws,Wu,Wv,Ww,Wx,Wy,Wz,W0,W3,W4,W5,W6,W7,WA,WB,WC,WF,WG,WH,WI,WJ,WL,WM,WN,WO,Vt,Vu,Vv,Vw,Vx,V2,V3,V4,V5,V6,V8,V9,VA,VB,VC,VD,VF,VH,VJ,VK,VL,VO,VS,VT,VU,VV,VW,VX,VY,VZ,Ua,Ub,Uc,Ud,Uk,Ul,Um,Un,Uv,Uw,Ux,Uy,U2,U3,U4,U6,U7,U9,UA,UB,UC,UD,UE,UF,UG,UH,UI,UJ,UK,UM,UN,UP,UR,US,UV,UY,UZ,Ta,Td,Te,Tf,Tg,Ti,Tv,Tw,Ty,a1,a2,a5,cl,l1,l2,hx,wa,wb,wc,wd,we,m60,m2,m50,m30,d2,wd2,m3,s1,s2,s3,w44,g0,b1,b2,b3,b4,b5,h8]; all_goals tactic => exact rfl))
theorem r39_110_2 (hq : q.Ok) {x : P5} {i : Nat} (hi : i < 5) (hx : q.ls[i]? = some x) (ht : x.e / 2 % 3 = 2) {L : List Ld} (hL : L.length = i) (a0 a1 : Int) (r0 r1 : List Int) (hr0 : r0.length ≤ 5) (hr1 : r1.length ≤ 5) :
    headX 0 [1,2,3,10,11] (execW progX 39 0 none (match x39l2 with | .loop _ a => a | c => c) (envL [1,2,3,10,11] [.pt 0 0,.pt 1 0,.pt 2 0,.pt 5 0,I (i : Nat)]) (hN q L i [.sl 6 0 1 (r0.length + 1),.sl 7 0 1 (r1.length + 1),.nilsl] [some (.blk true (.cells true (I a0 :: r0.map I))),some (.blk true (.cells true (I a1 :: r1.map I)))])) =
      some ([.pt 0 0,.pt 1 0,.pt 2 0,.pt 5 0,I (i + 1 : Nat)],hN q (L ++ [x.ld]) (i + 1) [.sl 6 0 1 (r0.length + 1),.sl 7 0 1 (r1.length + 1),.sl 8 0 1 (1)] [some (.blk true (.cells true (I a0 :: r0.map I))),some (.blk true (.cells true (I a1 :: r1.map I))),some (.blk true (.cells true ([I (i : Nat)])))]) := by
  obtain ⟨wa,wb,wc,wd,we,m60,m2,m50,m30,d2,wd2,m3,s1,s2,s3⟩ := ldF (hq.ls x (List.mem_of_getElem? hx))
  have a1 := lt_ix (lt_of hx)
  have a2 := up_ix hi (by omega)
  have a5 : ((i : Int) < 5) = True := eq_true (by omega)
  have cl := cL_len L
  rw [hL] at cl
  have ca := cL_app L x.ld
  have l1 : ((i + 1) * 40 ≤ 1099511627776) = True := eq_true (by omega)
  have l2 : (i + 1 ≤ 1099511627776) = True := eq_true (by omega)
  rw [ht] at m3
  unfold hN
  rw [ca]
  unfold P5.ld Ld.row
  dsimp only
  clear ca
  generalize x.e % 2 = ee at *
  generalize 1 + x.c % 60 + x.d % 30 = cd at *
  generalize 1 + x.c % 60 = cc at *
  generalize x.a + x.b % 50 = ab at *
  generalize x.e / 2 = e2 at *
  generalize x.d % 30 = dd at *
  generalize x.c % 60 = c6 at *
  generalize x.b % 50 = bb at *
  generalize cL L = cL0 at *
  unfold x39l2
  dsimp only
  rcases ptf ((128 : Int) < (x.e : Int)) with h8 | h8
  · (sym => (simp [irem2,iquo2,remF,Za,Zb,Zc,Zd,Ze,Zf,Zh,Zi,Zl,Zm,Zn,Zo,Zp,Zr,Zu,Zv,Zx,Zz,Z0,Z2,Z5,Z6,Z7,Z8,ZD,ZF,ZG,ZI,ZJ,ZK,ZL,ZM,ZP,ZQ,ZR,ZS,ZT,ZU,ZV,ZX,ZY,Ya,Yc,Ye,Yf,Yh,Yr,Yt,Yv,Yw,Y0,Y2,Y4,Y5,Y6,Y7,Y8,Y9,YB,YG,YK,YP,YQ,YT,YX,YY,Xa,Xd,Xf,Xi,Xj,Xl,XW,XX,XZ,Wb,Wc,We,Wf,Wg,Wh,Wi,Wj,Wk,Wl,Wn,Wo,Wp,Wr,Ws,Wu,Wv,Ww,Wx,Wy,Wz,W0,W3,W4,W5,W6,W7,WA,WB,WC,WF,WG,WH,WI,WJ,WL,WM,WN,WO,Vt,Vu,Vv,Vw,Vx,Vy,V2,V3,V4,V5,V6,V8,V9,VA,VB,VC,VD,VF,VH,VJ,VK,VL,VO,VS,VT,VU,VV,VW,VX,VY,VZ,Ua,Ub,Uc,Ud,Uk,Ul,Um,Un,Uv,Uw,Ux,Uy,U2,U3,U4,U5,U6,U7,U9,UA,UB,UC,UD,UE,UF,UG,UH,UI,UJ,UK,UL,UM,UN,UP,UR,US,UV,UY,UZ,Ta,Tf,Ti,Tw,Ty,a1,a2,a5,cl,l1,l2,hx,wa,wb,wc,wd,we,m60,m2,m50,m30,d2,wd2,m3,s1,s2,s3,w44,h8]; all_goals tactic => exact rfl))
  · (sym => (simp [irem2,iquo2,remF,Za,Zb,Zc,Zd,Ze,Zf,Zh,Zi,Zl,Zm,Zn,Zo,Zp,Zr,Zu,Zv,Zx,Zz,Z0,Z2,Z5,Z6,Z7,Z8,ZD,ZF,ZG,ZI,ZJ,ZK,ZL,ZM,ZP,ZQ,ZR,ZS,ZT,ZU,ZV,ZX,ZY,Ya,Yc,Ye,Yf,Yh,Yr,Yt,Yv,Yw,Y0,Y2,Y4,Y5,Y6,Y7,Y8,Y9,YB,YG,YK,YP,YQ,YT,YX,YY,Xa,Xd,Xf,Xi,Xj,Xl,XW,XX,XZ,Wb,Wc,We,Wf,Wg,Wh,Wi,Wj,Wk,Wl,Wn,Wo,Wp,Wr,Ws,Wu,Wv,Ww,Wx,Wy,Wz,W0,W3,W4,W5,W6,W7,WA,WB,WC,WF,WG,WH,WI,WJ,WL,WM,WN,WO,Vt,Vu,Vv,Vw,Vx,Vy,V2,V3,V4,V5,V6,V8,V9,VA,VB,VC,VD,VF,VH,VJ,VK,VL,VO,VS,VT,VU,VV,VW,VX,VY,VZ,Ua,Ub,Uc,Ud,Uk,Ul,Um,Un,Uv,Uw,Ux,Uy,U2,U3,U4,U5,U6,U7,U9,UA,UB,UC,UD,UE,UF,UG,UH,UI,UJ,UK,UL,UM,UN,UP,UR,US,UV,UY,UZ,Ta,Tf,Ti,Tw,Ty,a1,a2,a5,cl,l1,l2,hx,wa,wb,wc,wd,we,m60,m2,m50,m30,d2,wd2,m3,s1,s2,s3,w44,h8]; all_goals tactic => exact rfl))
theorem r39_111_0 (hq : q.Ok) {x : P5} {i : Nat} (hi : i < 5) (hx : q.ls[i]? = some x) (ht : x.e / 2 % 3 = 0) (h8 : ¬ 128 < x.e) {L : List Ld} (hL : L.length = i) (a0 a1 a2 : Int) (r0 r1 r2 : List Int) (hr0 : r0.length ≤ 5) (hr1 : r1.length ≤ 5) (hr2 : r2.length ≤ 5) :
    headX 0 [1,2,3,10,11] (execW progX 39 0 none (match x39l2 with | .loop _ a => a | c => c) (envL [1,2,3,10,11] [.pt 0 0,.pt 1 0,.pt 2 0,.pt 5 0,I (i : Nat)]) (hN q L i [.sl 6 0 1 (r0.length + 1),.sl 7 0 1 (r1.length + 1),.sl 8 0 1 (r2.length + 1)] [some (.blk true (.cells true (I a0 :: r0.map I))),some (.blk true (.cells true (I a1 :: r1.map I))),some (.blk true (.cells true (I a2 :: r2.map I)))])) =
      some ([.pt 0 0,.pt 1 0,.pt 2 0,.pt 5 0,I (i + 1 : Nat)],hN q (L ++ [x.ld]) (i + 1) [.sl 6 0 1 (r0.length + 1 + 1),.sl 7 0 1 (r1.length + 1),.sl 8 0 1 (r2.length + 1)] [some (.blk true (.cells true (I a0 :: (r0.map I ++ [I (i : Nat)])))),some (.blk true (.cells true (I a1 :: r1.map I))),some (.blk true (.cells true (I a2 :: r2.map I)))]) := by
  obtain ⟨wa,wb,wc,wd,we,m60,m2,m50,m30,d2,wd2,m3,s1,s2,s3⟩ := ldF (hq.ls x (List.mem_of_getElem? hx))
  have a1 := lt_ix (lt_of hx)
  have a2 := up_ix hi (by omega)
  have a5 : ((i : Int) < 5) = True := eq_true (by omega)
  have cl := cL_len L
  rw [hL] at cl
  have ca := cL_app L x.ld
  have l1 : ((i + 1) * 40 ≤ 1099511627776) = True := eq_true (by omega)
  have l2 : (i + 1 ≤ 1099511627776) = True := eq_true (by omega)
  rw [ht] at m3
  unfold hN
  rw [ca]
  unfold P5.ld Ld.row
  dsimp only
  clear ca
  generalize x.e % 2 = ee at *
  generalize 1 + x.c % 60 + x.d % 30 = cd at *
  generalize 1 + x.c % 60 = cc at *
  generalize x.a + x.b % 50 = ab at *
  generalize x.e / 2 = e2 at *
  generalize x.d % 30 = dd at *
  generalize x.c % 60 = c6 at *
  generalize x.b % 50 = bb at *
  generalize cL L = cL0 at *
  have g0 : ((0 : Int) < ((r0.length + 1 : Nat) : Int)) = True := eq_true (by omega)
  have b1 : ((r0.length + 1 + 1) * 8 ≤ 1099511627776) = True := eq_true (by omega)
  have b2 : (r0.length + 1 + 1 ≤ 1099511627776) = True := eq_true (by omega)
  have b3 : 1 + (r0.length + 1) = r0.length + 1 + 1 := by omega
  have b4 : r0.length + 1 - 1 = r0.length := rfl
  have b5 : List.take r0.length (r0.map I) = r0.map I := List.take_of_length_le (by simp)
  have h8 : ((128 : Int) < (x.e : Int)) = False := eq_false (by omega)
  unfold x39l2
  dsimp only
  (sym => (simp [irem2,iquo2,remF,Za,Zb,Zc,Zd,Ze,Zf,Zh,Zi,Zl,Zm,Zn,Zo,Zp,Zr,Zu,Zv,Zx,Zz,Z0,Z2,Z5,Z6,Z7,Z8,ZD,ZF,ZG,ZI,ZJ,ZK,ZL,ZM,ZP,ZQ,ZR,ZS,ZT,ZU,ZV,ZX,ZY,Ya,Ye,Yf,Yh,Yr,Yt,Yv,Yw,Y0,Y1,Y2,Y4,Y6,Y7,Y8,Y9,YB,YG,YK,YP,YQ,YT,YX,YY,Xa,Xd,Xf,Xi,Xj,Xl,XW,XX,XZ,Wb,Wc,We,Wf,Wg,Wh,Wi,Wj,Wk,Wl,Wn,Wo,Wp,Wr,Ws,Wu,Wv,Ww,Wx,Wy,Wz,W0,W3,W4,W5,W6,W7,WA,WB,WC,WF,WG,WH,WI,WJ,WL,WM,WN,WO,Vt,Vu,Vv,Vw,Vx,Vy,V2,V3,V4,V5,V6,V8,V9,VA,VB,VC,VD,VF,VH,VJ,VK,VL,VO,VS,VT,VU,VV,VW,VX,VY,VZ,Ua,Ub,Uc,Ud,Uk,Ul,Um,Un,Uv,Uw,Ux,Uy,U2,U3,U4,U6,U7,U9,UA,UB,UC,UD,UE,UF,UG,UH,UI,UJ,UK,UM,UN,UP,UR,US,UV,UY,UZ,Ta,Td,Tf,Ti,Tw,Ty,a1,a2,a5,cl,l1,l2,hx,wa,wb,wc,wd,we,m60,m2,m50,m30,d2,wd2,m3,s1,s2,s3,w44,g0,b1,b2,b3,b4,b5,h8]; all_goals tactic => exact rfl))
theorem r39_111_0p (hq : q.Ok) {x : P5} {i : Nat} (hi : i < 5) (hx : q.ls[i]? = some x) (ht : x.e / 2 % 3 = 0) (h8 : 128 < x.e) {L : List Ld} (hL : L.length = i) (a0 a1 a2 : Int) (r0 r1 r2 : List Int) (hr0 : r0.length ≤ 5) (hr1 : r1.length ≤ 5) (hr2 : r2.length ≤ 5) :
    headX 0 [1,2,3,10,11] (execW progX 39 0 none (match x39l2 with | .loop _ a => a | c => c) (envL [1,2,3,10,11] [.pt 0 0,.pt 1 0,.pt 2 0,.pt 5 0,I (i : Nat)]) (hN q L i [.sl 6 0 1 (r0.length + 1),.sl 7 0 1 (r1.length + 1),.sl 8 0 1 (r2.length + 1)] [some (.blk true (.cells true (I a0 :: r0.map I))),some (.blk true (.cells true (I a1 :: r1.map I))),some (.blk true (.cells true (I a2 :: r2.map I)))])) =
      some ([.pt 0 0,.pt 1 0,.pt 2 0,.pt 5 0,I (i + 1 : Nat)],hN q (L ++ [x.ld]) (i + 1) [.sl 6 0 1 (r0.length + 1 + 1),.sl 7 0 1 (r1.length + 1),.sl 8 0 1 (r2.length + 1)] [some (.blk true (.cells true (I (i : Nat) :: I a0 :: r0.map I))),some (.blk true (.cells true (I a1 :: r1.map I))),some (.blk true (.cells true (I a2 :: r2.map I)))]) := by
  obtain ⟨wa,wb,wc,wd,we,m60,m2,m50,m30,d2,wd2,m3,s1,s2,s3⟩ := ldF (hq.ls x (List.mem_of_getElem? hx))
  have a1 := lt_ix (lt_of hx)
  have a2 := up_ix hi (by omega)
  have a5 : ((i : Int) < 5) = True := eq_true (by omega)
  have cl := cL_len L
  rw [hL] at cl
  have ca := cL_app L x.ld
  have l1 : ((i + 1) * 40 ≤ 1099511627776) = True := eq_true (by omega)
  have l2 : (i + 1 ≤ 1099511627776) = True := eq_true (by omega)
  rw [ht] at m3
  unfold hN
  rw [ca]
  unfold P5.ld Ld.row
  dsimp only
  clear ca
  generalize x.e % 2 = ee at *
  generalize 1 + x.c % 60 + x.d % 30 = cd at *
  generalize 1 + x.c % 60 = cc at *
  generalize x.a + x.b % 50 = ab at *
  generalize x.e / 2 = e2 at *
  generalize x.d % 30 = dd at *
  generalize x.c % 60 = c6 at *
  generalize x.b % 50 = bb at *
  generalize cL L = cL0 at *
  have g0 : ((0 : Int) < ((r0.length + 1 : Nat) : Int)) = True := eq_true (by omega)
  have b1 : ((r0.length + 1 + 1) * 8 ≤ 1099511627776) = True := eq_true (by omega)
  have b2 : (r0.length + 1 + 1 ≤ 1099511627776) = True := eq_true (by omega)
  have b3 : 1 + (r0.length + 1) = r0.length + 1 + 1 := by omega
  have b4 : r0.length + 1 - 1 = r0.length := rfl
  have b5 : List.take r0.length (r0.map I) = r0.map I := List.take_of_length_le (by simp)
  have h8 : ((128 : Int) < (x.e : Int)) = True := eq_true (by omega)
  unfold x39l2
  dsimp only
  (sym => (simp [irem2,iquo2,remF,Za,Zb,Zc,Zd,Ze,Zf,Zh,Zi,Zl,Zm,Zn,Zo,Zp,Zu,Zv,Zx,Zz,Z0,Z2,Z5,Z6,Z7,Z8,ZD,ZF,ZG,ZI,ZJ,ZK,ZL,ZM,ZP,ZQ,ZR,ZS,ZT,ZU,ZX,ZY,Ya,Yb,Ye,Yf,Yh,Yr,Yt,Yv,Yw,Y0,Y1,Y2,Y4,Y6,Y7,Y8,Y9,YB,YG,YK,YP,YQ,YT,YX,YY,Xa,Xd,Xf,Xi,Xj,Xl,XW,XX,XZ,Wb,Wc,We,Wf,Wg,Wh,Wi,Wj,Wk,Wl,Wn,Wo,Wp,Wr,Ws,Wu,Wv,Ww,Wx,Wy,Wz,W0,W3,W4,W5,W6,W7,WA,WB,WC,WF,WG,WH,WI,WJ,WL,WM,WN,WO,Vt,Vu,Vv,Vw,Vx,V2,V3,V4,V5,V6,V8,V9,VA,VB,VC,VD,VF,VH,VJ,VK,VL,VO,VS,VT,VU,VV,VW,VX,VY,VZ,Ua,Ub,Uc,Ud,Uk,Ul,Um,Un,Uv,Uw,Ux,Uy,U2,U3,U4,U6,U7,U9,UA,UB,UC,UD,UE,UF,UG,UH,UI,UJ,UK,UM,UN,UP,UR,US,UV,UY,UZ,Ta,Td,Te,Tf,Tg,Ti,Tv,Tw,Ty,a1,a2,a5,cl,l1,l2,hx,wa,wb,wc,wd,we,m60,m2,m50,m30,d2,wd2,m3,s1,s2,s3,w44,g0,b1,b2,b3,b4,b5,h8]; all_goals tactic => exact rfl))
theorem r39_111_1 (hq : q.Ok) {x : P5} {i : Nat} (hi : i < 5) (hx : q.ls[i]? = some x) (ht : x.e / 2 % 3 = 1) (h8 : ¬ 128 < x.e) {L : List Ld} (hL : L.length = i) (a0 a1 a2 : Int) (r0 r1 r2 : List Int) (hr0 : r0.length ≤ 5) (hr1 : r1.length ≤ 5) (hr2 : r2.length ≤ 5) :
    headX 0 [1,2,3,10,11] (execW progX 39 0 none (match x39l2 with | .loop _ a => a | c => c) (envL [1,2,3,10,11] [.pt 0 0,.pt 1 0,.pt 2 0,.pt 5 0,I (i : Nat)]) (hN q L i [.sl 6 0 1 (r0.length + 1),.sl 7 0 1 (r1.length + 1),.sl 8 0 1 (r2.length + 1)] [some (.blk true (.cells true (I a0 :: r0.map I))),some (.blk true (.cells true (I a1 :: r1.map I))),some (.blk true (.cells true (I a2 :: r2.map I)))])) =
      some ([.pt 0 0,.pt 1 0,.pt 2 0,.pt 5 0,I (i + 1 : Nat)],hN q (L ++ [x.ld]) (i + 1) [.sl 6 0 1 (r0.length + 1),.sl 7 0 1 (r1.length + 1 + 1),.sl 8 0 1 (r2.length + 1)] [some (.blk true (.cells true (I a0 :: r0.map I))),some (.blk true (.cells true (I a1 :: (r1.map I ++ [I (i : Nat)])))),some (.blk true (.cells true (I a2 :: r2.map I)))]) := by
  obtain ⟨wa,wb,wc,wd,we,m60,m2,m50,m30,d2,wd2,m3,s1,s2,s3⟩ := ldF (hq.ls x (List.mem_of_getElem? hx))
  have a1 := lt_ix (lt_of hx)
  have a2 := up_ix hi (by omega)
  have a5 : ((i : Int) < 5) = True := eq_true (by omega)
  have cl := cL_len L
  rw [hL] at cl
  have ca := cL_app L x.ld
  have l1 : ((i + 1) * 40 ≤ 1099511627776) = True := eq_true (by omega)
  have l2 : (i + 1 ≤ 1099511627776) = True := eq_true (by omega)
  rw [ht] at m3
  unfold hN
  rw [ca]
  unfold P5.ld Ld.row
  dsimp only
  clear ca
  generalize x.e % 2 = ee at *
  generalize 1 + x.c % 60 + x.d % 30 = cd at *
  generalize 1 + x.c % 60 = cc at *
  generalize x.a + x.b % 50 = ab at *
  generalize x.e / 2 = e2 at *
  generalize x.d % 30 = dd at *
  generalize x.c % 60 = c6 at *
  generalize x.b % 50 = bb at *
  generalize cL L = cL0 at *
  have g0 : ((0 : Int) < ((r1.length + 1 : Nat) : Int)) = True := eq_true (by omega)
  have b1 : ((r1.length + 1 + 1) * 8 ≤ 1099511627776) = True := eq_true (by omega)
  have b2 : (r1.length + 1 + 1 ≤ 1099511627776) = True := eq_true (by omega)
  have b3 : 1 + (r1.length + 1) = r1.length + 1 + 1 := by omega
  have b4 : r1.length + 1 - 1 = r1.length := rfl
  have b5 : List.take r1.length (r1.map I) = r1.map I := List.take_of_length_le (by simp)
  have h8 : ((128 : Int) < (x.e : Int)) = False := eq_false (by omega)
  unfold x39l2
  dsimp only
  (sym => (simp [irem2,iquo2,remF,Za,Zb,Zc,Zd,Ze,Zf,Zh,Zi,Zl,Zm,Zn,Zo,Zp,Zr,Zu,Zv,Zx,Zz,Z0,Z2,Z5,Z6,Z7,Z8,ZD,ZF,ZG,ZI,ZJ,ZK,ZL,ZM,ZP,ZQ,ZR,ZS,ZT,ZU,ZV,ZX,ZY,Ya,Ye,Yf,Yh,Yr,Yt,Yv,Yw,Y0,Y2,Y3,Y4,Y6,Y7,Y8,Y9,YB,YG,YK,YP,YQ,YT,YX,YY,Xa,Xd,Xf,Xi,Xj,Xl,XW,XX,XZ,Wb,Wc,We,Wf,Wg,Wh,Wi,Wj,Wk,Wl,Wn,Wo,Wp,Wr,Ws,Wu,Wv,Ww,Wx,Wy,Wz,W0,W3,W4,W5,W6,W7,WA,WB,WC,WF,WG,WH,WI,WJ,WL,WM,WN,WO,Vt,Vu,Vv,Vw,Vx,Vy,V2,V3,V4,V5,V6,V8,V9,VA,VB,VC,VD,VF,VH,VJ,VK,VL,VO,VS,VT,VU,VV,VW,VX,VY,VZ,Ua,Ub,Uc,Ud,Uk,Ul,Um,Un,Uv,Uw,Ux,Uy,U2,U3,U4,U6,U7,U9,UA,UB,UC,UD,UE,UF,UG,UH,UI,UJ,UK,UM,UN,UP,UR,US,UV,UY,UZ,Ta,Td,Tf,Ti,Tw,Ty,a1,a2,a5,cl,l1,l2,hx,wa,wb,wc,wd,we,m60,m2,m50,m30,d2,wd2,m3,s1,s2,s3,w44,g0,b1,b2,b3,b4,b5,h8]; all_goals tactic => exact rfl))
theorem r39_111_1p (hq : q.Ok) {x : P5} {i : Nat} (hi : i < 5) (hx : q.ls[i]? = some x) (ht : x.e / 2 % 3 = 1) (h8 : 128 < x.e) {L : List Ld} (hL : L.length = i) (a0 a1 a2 : Int) (r0 r1 r2 : List Int) (hr0 : r0.length ≤ 5) (hr1 : r1.length ≤ 5) (hr2 : r2.length ≤ 5) :
    headX 0 [1,2,3,10,11] (execW progX 39 0 none (match x39l2 with | .loop _ a => a | c => c) (envL [1,2,3,10,11] [.pt 0 0,.pt 1 0,.pt 2 0,.pt 5 0,I (i : Nat)]) (hN q L i [.sl 6 0 1 (r0.length + 1),.sl 7 0 1 (r1.length + 1),.sl 8 0 1 (r2.length + 1)] [some (.blk true (.cells true (I a0 :: r0.map I))),some (.blk true (.cells true (I a1 :: r1.map I))),some (.blk true (.cells true (I a2 :: r2.map I)))])) =
      some ([.pt 0 0,.pt 1 0,.pt 2 0,.pt 5 0,I (i + 1 : Nat)],hN q (L ++ [x.ld]) (i + 1) [.sl 6 0 1 (r0.length + 1),.sl 7 0 1 (r1.length + 1 + 1),.sl 8 0 1 (r2.length + 1)] [some (.blk true (.cells true (I a0 :: r0.map I))),some (.blk true (.cells true (I (i : Nat) :: I a1 :: r1.map I))),some (.blk true (.cells true (I a2 :: r2.map I)))]) := by
  obtain ⟨wa,wb,wc,wd,we,m60,m2,m50,m30,d2,wd2,m3,s1,s2,s3⟩ := ldF (hq.ls x (List.mem_of_getElem? hx))
  have a1 := lt_ix (lt_of hx)
  have a2 := up_ix hi (by omega)
  have a5 : ((i : Int) < 5) = True := eq_true (by omega)
  have cl := cL_len L
  rw [hL] at cl
  have ca := cL_app L x.ld
  have l1 : ((i + 1) * 40 ≤ 1099511627776) = True := eq_true (by omega)
  have l2 : (i + 1 ≤ 1099511627776) = True := eq_true (by omega)
  rw [ht] at m3
  unfold hN
  rw [ca]
  unfold P5.ld Ld.row
  dsimp only
  clear ca
  generalize x.e % 2 = ee at *
  generalize 1 + x.c % 60 + x.d % 30 = cd at *
  generalize 1 + x.c % 60 = cc at *
  generalize x.a + x.b % 50 = ab at *
  generalize x.e / 2 = e2 at *
  generalize x.d % 30 = dd at *
  generalize x.c % 60 = c6 at *
  generalize x.b % 50 = bb at *
  generalize cL L = cL0 at *
  have g0 : ((0 : Int) < ((r1.length + 1 : Nat) : Int)) = True := eq_true (by omega)
  have b1 : ((r1.length + 1 + 1) * 8 ≤ 1099511627776) = True := eq_true (by omega)
  have b2 : (r1.length + 1 + 1 ≤ 1099511627776) = True := eq_true (by omega)
  have b3 : 1 + (r1.length + 1) = r1.length + 1 + 1 := by omega
  have b4 : r1.length + 1 - 1 = r1.length := rfl
  have b5 : List.take r1.length (r1.map I) = r1.map I := List.take_of_length_le (by simp)
  have h8 : ((128 : Int) < (x.e : Int)) = True := eq_true (by omega)
  unfold x39l2
  dsimp only
  (sym => (simp [irem2,iquo2,remF,Za,Zb,Zc,Zd,Ze,Zf,Zh,Zi,Zl,Zm,Zn,Zo,Zp,Zu,Zv,Zx,Zz,Z0,Z2,Z5,Z6,Z7,Z8,ZD,ZF,ZG,ZI,ZJ,ZK,ZL,ZM,ZP,ZQ,ZR,ZS,ZT,ZU,ZX,ZY,Ya,Yb,Ye,Yf,Yh,Yr,Yt,Yv,Yw,Y0,Y2,Y3,Y4,Y6,Y7,Y8,Y9,YB,YG,YK,YP,YQ,YT,YX,YY,Xa,Xd,Xf,Xi,Xj,Xl,XW,XX,XZ,Wb,Wc,We,Wf,Wg,Wh,Wi,Wj,Wk,Wl,Wn,Wo,Wp,Wr,Ws,Wu,Wv,Ww,Wx,Wy,Wz,W0,W3,W4,W5,W6,W7,WA,WB,WC,WF,WG,WH,WI,WJ,WL,WM,WN,WO,Vt,Vu,Vv,Vw,Vx,V2,V3,V4,V5,V6,V8,V9,VA,VB,VC,VD,VF,VH,VJ,VK,VL,VO,VS,VT,VU,VV,VW,VX,VY,VZ,Ua,Ub,Uc,Ud,Uk,Ul,Um,Un,Uv,Uw,Ux,Uy,U2,U3,U4,U6,U7,U9,UA,UB,UC,UD,UE,UF,UG,UH,UI,UJ,UK,UM,UN,UP,UR,US,UV,UY,UZ,Ta,Td,Te,Tf,Tg,Ti,Tv,Tw,Ty,a1,a2,a5,cl,l1,l2,hx,wa,wb,wc,wd,we,m60,m2,m50,m30,d2,wd2,m3,s1,s2,s3,w44,g0,b1,b2,b3,b4,b5,h8]; all_goals tactic => exact rfl))
theorem r39_111_2 (hq : q.Ok) {x : P5} {i : Nat} (hi : i < 5) (hx : q.ls[i]? = some x) (ht : x.e / 2 % 3 = 2) (h8 : ¬ 128 < x.e) {L : List Ld} (hL : L.length = i) (a0 a1 a2 : Int) (r0 r1 r2 : List Int) (hr0 : r0.length ≤ 5) (hr1 : r1.length ≤ 5) (hr2 : r2.length ≤ 5) :
    headX 0 [1,2,3,10,11] (execW progX 39 0 none (match x39l2 with | .loop _ a => a | c => c) (envL [1,2,3,10,11] [.pt 0 0,.pt 1 0,.pt 2 0,.pt 5 0,I (i : Nat)]) (hN q L i [.sl 6 0 1 (r0.length + 1),.sl 7 0 1 (r1.length + 1),.sl 8 0 1 (r2.length + 1)] [some (.blk true (.cells true (I a0 :: r0.map I))),some (.blk true (.cells true (I a1 :: r1.map I))),some (.blk true (.cells true (I a2 :: r2.map I)))])) =
      some ([.pt 0 0,.pt 1 0,.pt 2 0,.pt 5 0,I (i + 1 : Nat)],hN q (L ++ [x.ld]) (i + 1) [.sl 6 0 1 (r0.length + 1),.sl 7 0 1 (r1.length + 1),.sl 8 0 1 (r2.length + 1 + 1)] [some (.blk true (.cells true (I a0 :: r0.map I))),some (.blk true (.cells true (I a1 :: r1.map I))),some (.blk true (.cells true (I a2 :: (r2.map I ++ [I (i : Nat)]))))]) := by
  obtain ⟨wa,wb,wc,wd,we,m60,m2,m50,m30,d2,wd2,m3,s1,s2,s3⟩ := ldF (hq.ls x (List.mem_of_getElem? hx))
  have a1 := lt_ix (lt_of hx)
  have a2 := up_ix hi (by omega)
  have a5 : ((i : Int) < 5) = True := eq_true (by omega)
  have cl := cL_len L
  rw [hL] at cl
  have ca := cL_app L x.ld
  have l1 : ((i + 1) * 40 ≤ 1099511627776) = True := eq_true (by omega)
  have l2 : (i + 1 ≤ 1099511627776) = True := eq_true (by omega)
  rw [ht] at m3
  unfold hN
  rw [ca]
  unfold P5.ld Ld.row
  dsimp only
  clear ca
  generalize x.e % 2 = ee at *
  generalize 1 + x.c % 60 + x.d % 30 = cd at *
  generalize 1 + x.c % 60 = cc at *
  generalize x.a + x.b % 50 = ab at *
  generalize x.e / 2 = e2 at *
  generalize x.d % 30 = dd at *
  generalize x.c % 60 = c6 at *
  generalize x.b % 50 = bb at *
  generalize cL L = cL0 at *
  have g0 : ((0 : Int) < ((r2.length + 1 : Nat) : Int)) = True := eq_true (by omega)
  have b1 : ((r2.length + 1 + 1) * 8 ≤ 1099511627776) = True := eq_true (by omega)
  have b2 : (r2.length + 1 + 1 ≤ 1099511627776) = True := eq_true (by omega)
  have b3 : 1 + (r2.length + 1) = r2.length + 1 + 1 := by omega
  have b4 : r2.length + 1 - 1 = r2.length := rfl
  have b5 : List.take r2.length (r2.map I) = r2.map I := List.take_of_length_le (by simp)
  have h8 : ((128 : Int) < (x.e : Int)) = False := eq_false (by omega)
  unfold x39l2
  dsimp only
  (sym => (simp [irem2,iquo2,remF,Za,Zb,Zc,Zd,Ze,Zf,Zh,Zi,Zl,Zm,Zn,Zo,Zp,Zr,Zu,Zv,Zx,Zz,Z0,Z2,Z5,Z6,Z7,Z8,ZD,ZF,ZG,ZI,ZJ,ZK,ZL,ZM,ZP,ZQ,ZR,ZS,ZT,ZU,ZV,ZX,ZY,Ya,Ye,Yf,Yh,Yr,Yt,Yv,Yw,Y0,Y2,Y4,Y5,Y6,Y7,Y8,Y9,YB,YG,YK,YP,YQ,YT,YX,YY,Xa,Xd,Xf,Xi,Xj,Xl,XW,XX,XZ,Wb,Wc,We,Wf,Wg,Wh,Wi,Wj,Wk,Wl,Wn,Wo,Wp,Wr,Ws,Wu,Wv,Ww,Wx,Wy,Wz,W0,W3,W4,W5,W6,W7,WA,WB,WC,WF,WG,WH,WI,WJ,WL,WM,WN,WO,Vt,Vu,Vv,Vw,Vx,Vy,V2,V3,V4,V5,V6,V8,V9,VA,VB,VC,VD,VF,VH,VJ,VK,VL,VO,VS,VT,VU,VV,VW,VX,VY,VZ,Ua,Ub,Uc,Ud,Uk,Ul,Um,Un,Uv,Uw,Ux,Uy,U2,U3,U4,U6,U7,U9,UA,UB,UC,UD,UE,UF,UG,UH,UI,UJ,UK,UM,UN,UP,UR,US,UV,UY,UZ,Ta,Td,Tf,Ti,Tw,Ty,a1,a2,a5,cl,l1,l2,hx,wa,wb,wc,wd,we,m60,m2,m50,m30,d2,wd2,m3,s1,s2,s3,w44,g0,b1,b2,b3,b4,b5,h8]; all_goals tactic => exact rfl))
theorem r39_111_2p (hq : q.Ok) {x : P5} {i : Nat} (hi : i < 5) (hx : q.ls[i]? = some x) (ht : x.e / 2 % 3 = 2) (h8 : 128 < x.e) {L : List Ld} (hL : L.length = i) (a0 a1 a2 : Int) (r0 r1 r2 : List Int) (hr0 : r0.length ≤ 5) (hr1 : r1.length ≤ 5) (hr2 : r2.length ≤ 5) :
    headX 0 [1,2,3,10,11] (execW progX 39 0 none (match x39l2 with | .loop _ a => a | c => c) (envL [1,2,3,10,11] [.pt 0 0,.pt 1 0,.pt 2 0,.pt 5 0,I (i : Nat)]) (hN q L i [.sl 6 0 1 (r0.length + 1),.sl 7 0 1 (r1.length + 1),.sl 8 0 1 (r2.length + 1)] [some (.blk true (.cells true (I a0 :: r0.map I))),some (.blk true (.cells true (I a1 :: r1.map I))),some (.blk true (.cells true (I a2 :: r2.map I)))])) =
      some ([.pt 0 0,.pt 1 0,.pt 2 0,.pt 5 0,I (i + 1 : Nat)],hN q (L ++ [x.ld]) (i + 1) [.sl 6 0 1 (r0.length + 1),.sl 7 0 1 (r1.length + 1),.sl 8 0 1 (r2.length + 1 + 1)] [some (.blk true (.cells true (I a0 :: r0.map I))),some (.blk true (.cells true (I a1 :: r1.map I))),some (.blk true (.cells true (I (i : Nat) :: I a2 :: r2.map I)))]) := by
  obtain ⟨wa,wb,wc,wd,we,m60,m2,m50,m30,d2,wd2,m3,s1,s2,s3⟩ := ldF (hq.ls x (List.mem_of_getElem? hx))
  have a1 := lt_ix (lt_of hx)
  have a2 := up_ix hi (by omega)
  have a5 : ((i : Int) < 5) = True := eq_true (by omega)
  have cl := cL_len L
  rw [hL] at cl
  have ca := cL_app L x.ld
  have l1 : ((i + 1) * 40 ≤ 1099511627776) = True := eq_true (by omega)
  have l2 : (i + 1 ≤ 1099511627776) = True := eq_true (by omega)
  rw [ht] at m3
  unfold hN
  rw [ca]
  unfold P5.ld Ld.row
  dsimp only
  clear ca
  generalize x.e % 2 = ee at *
  generalize 1 + x.c % 60 + x.d % 30 = cd at *
  generalize 1 + x.c % 60 = cc at *
  generalize x.a + x.b % 50 = ab at *
  generalize x.e / 2 = e2 at *
  generalize x.d % 30 = dd at *
  generalize x.c % 60 = c6 at *
  generalize x.b % 50 = bb at *
  generalize cL L = cL0 at *
  have g0 : ((0 : Int) < ((r2.length + 1 : Nat) : Int)) = True := eq_true (by omega)
  have b1 : ((r2.length + 1 + 1) * 8 ≤ 1099511627776) = True := eq_true (by omega)
  have b2 : (r2.length + 1 + 1 ≤ 1099511627776) = True := eq_true (by omega)
  have b3 : 1 + (r2.length + 1) = r2.length + 1 + 1 := by omega
  have b4 : r2.length + 1 - 1 = r2.length := rfl
  have b5 : List.take r2.length (r2.map I) = r2.map I := List.take_of_length_le (by simp)
  have h8 : ((128 : Int) < (x.e : Int)) = True := eq_true (by omega)
  unfold x39l2
  dsimp only
  (sym => (simp [irem2,iquo2,remF,Za,Zb,Zc,Zd,Ze,Zf,Zh,Zi,Zl,Zm,Zn,Zo,Zp,Zu,Zv,Zx,Zz,Z0,Z2,Z5,Z6,Z7,Z8,ZD,ZF,ZG,ZI,ZJ,ZK,ZL,ZM,ZP,ZQ,ZR,ZS,ZT,ZU,ZX,ZY,Ya,Yb,Ye,Yf,Yh,Yr,Yt,Yv,Yw,Y0,Y2,Y4,Y5,Y6,Y7,Y8,Y9,YB,YG,YK,YP,YQ,YT,YX,YY,Xa,Xd,Xf,Xi,Xj,Xl,XW,XX,XZ,Wb,Wc,We,Wf,Wg,Wh,Wi,Wj,Wk,Wl,Wn,Wo,Wp,Wr,Ws,Wu,Wv,Ww,Wx,Wy,Wz,W0,W3,W4,W5,W6,W7,WA,WB,WC,WF,WG,WH,WI,WJ,WL,WM,WN,WO,Vt,Vu,Vv,Vw,Vx,V2,V3,V4,V5,V6,V8,V9,VA,VB,VC,VD,VF,VH,VJ,VK,VL,VO,VS,VT,VU,VV,VW,VX,VY,VZ,Ua,Ub,Uc,Ud,Uk,Ul,Um,Un,Uv,Uw,Ux,Uy,U2,U3,U4,U6,U7,U9,UA,UB,UC,UD,UE,UF,UG,UH,UI,UJ,UK,UM,UN,UP,UR,US,UV,UY,UZ,Ta,Td,Te,Tf,Tg,Ti,Tv,Tw,Ty,a1,a2,a5,cl,l1,l2,hx,wa,wb,wc,wd,we,m60,m2,m50,m30,d2,wd2,m3,s1,s2,s3,w44,g0,b1,b2,b3,b4,b5,h8]; all_goals tactic => exact rfl))
end
end Go.Proofs.YtpbeclkpohehgaaDoor
namespace Go.Proofs.YtpbeclkpohehgaaDoor
open Go Go.DL
set_option maxRecDepth 100000
set_option maxHeartbeats 4000000
def putT (x : P5) (i : Nat) (T : List Int) : List Int := if 128 < x.e ∧ T ≠ [] then (i : Int) :: T else T ++ [(i : Int)]
def neL : List Int → Nat
  | [] => 0
  | _ => 1
abbrev csT (T0 T1 T2 : List Int) : List AV := [oS 6 T0,oS (6 + neL T0) T1,oS (6 + neL T0 + neL T1) T2]
abbrev bsT (T0 T1 T2 : List Int) : XH := oG T0 ++ oG T1 ++ oG T2
abbrev upT (x : P5) (i t : Nat) (T : List Int) : List Int := if x.e / 2 % 3 = t then putT x i T else T
theorem rj39_0 {q : Qu} (hq : q.Ok) {x : P5} (hx : q.ls[0]? = some x) :
    headX 0 [1,2,3,10,11] (execW progX 39 0 none (match x39l2 with | .loop _ a => a | c => c) (envL [1,2,3,10,11] [.pt 0 0,.pt 1 0,.pt 2 0,.pt 4 0,I 0]) (hN0 q)) =
      some ([.pt 0 0,.pt 1 0,.pt 2 0,.pt 5 0,I 1],hN q [x.ld] 1 (csT (upT x 0 0 []) (upT x 0 1 []) (upT x 0 2 [])) (bsT (upT x 0 0 []) (upT x 0 1 []) (upT x 0 2 []))) := by
  have ht : x.e / 2 % 3 = 0 ∨ x.e / 2 % 3 = 1 ∨ x.e / 2 % 3 = 2 := by omega
  have p0 : putT x 0 [] = [0] := by unfold putT; rw [if_neg (by simp)]; rfl
  unfold upT
  rw [p0]
  rcases ht with ht | ht | ht
  · rw [if_pos ht,if_neg (show ¬ x.e / 2 % 3 = 1 by omega),if_neg (show ¬ x.e / 2 % 3 = 2 by omega)]
    exact r39_000_0 hq hx ht
  · rw [if_pos ht,if_neg (show ¬ x.e / 2 % 3 = 0 by omega),if_neg (show ¬ x.e / 2 % 3 = 2 by omega)]
    exact r39_000_1 hq hx ht
  · rw [if_pos ht,if_neg (show ¬ x.e / 2 % 3 = 0 by omega),if_neg (show ¬ x.e / 2 % 3 = 1 by omega)]
    exact r39_000_2 hq hx ht
theorem rj39 {q : Qu} (hq : q.Ok) {x : P5} {i : Nat} (hi : i < 5) (hx : q.ls[i]? = some x) {L : List Ld} (hL : L.length = i) (T0 T1 T2 : List Int) (ne : T0 ≠ [] ∨ T1 ≠ [] ∨ T2 ≠ []) (l0 : T0.length ≤ 6) (l1 : T1.length ≤ 6) (l2 : T2.length ≤ 6) :
    headX 0 [1,2,3,10,11] (execW progX 39 0 none (match x39l2 with | .loop _ a => a | c => c) (envL [1,2,3,10,11] [.pt 0 0,.pt 1 0,.pt 2 0,.pt 5 0,I (i : Nat)]) (hN q L i (csT T0 T1 T2) (bsT T0 T1 T2))) =
      some ([.pt 0 0,.pt 1 0,.pt 2 0,.pt 5 0,I (i + 1 : Nat)],hN q (L ++ [x.ld]) (i + 1) (csT (upT x i 0 T0) (upT x i 1 T1) (upT x i 2 T2)) (bsT (upT x i 0 T0) (upT x i 1 T1) (upT x i 2 T2))) := by
  have ht : x.e / 2 % 3 = 0 ∨ x.e / 2 % 3 = 1 ∨ x.e / 2 % 3 = 2 := by omega
  have pe : putT x i [] = [(i : Int)] := by unfold putT; rw [if_neg (by simp)]; rfl
  have pp : ∀ a r,128 < x.e → putT x i (a :: r) = (i : Int) :: a :: r := fun a r h => by unfold putT; rw [if_pos ⟨h,by simp⟩]
  have pa : ∀ a r,¬ 128 < x.e → putT x i (a :: r) = a :: (r ++ [(i : Int)]) := fun a r h => by unfold putT; rw [if_neg fun hc => h hc.1]; rfl
  have ap : ∀ (a : Int) r,oG (a :: (r ++ [(i : Int)])) = [some (.blk true (.cells true (I a :: (r.map I ++ [I (i : Nat)]))))] := fun a r => by
    show [some (XB.blk true (.cells true (I a :: (r ++ [(i : Int)]).map I)))] = _
    rw [List.map_append]; rfl
  have al : ∀ p (a : Int) r,oS p (a :: (r ++ [(i : Int)])) = .sl p 0 1 (r.length + 1 + 1) := fun p a r => by
    show AV.sl p 0 1 ((r ++ [(i : Int)]).length + 1) = _
    rw [List.length_append]; rfl
  unfold upT csT bsT
  rcases T0 with _ | ⟨a0,r0⟩
  all_goals rcases T1 with _ | ⟨a1,r1⟩
  all_goals rcases T2 with _ | ⟨a2,r2⟩
  all_goals rcases ht with ht | ht | ht
  · simp at ne
  · simp at ne
  · simp at ne
  · rw [if_pos ht,if_neg (show ¬ x.e / 2 % 3 = 1 by omega),if_neg (show ¬ x.e / 2 % 3 = 2 by omega)]
    rw [pe]
    exact r39_001_0 hq hi hx ht hL a2 r2 (by simp at l2; omega)
  · rw [if_pos ht,if_neg (show ¬ x.e / 2 % 3 = 0 by omega),if_neg (show ¬ x.e / 2 % 3 = 2 by omega)]
    rw [pe]
    exact r39_001_1 hq hi hx ht hL a2 r2 (by simp at l2; omega)
  · rw [if_pos ht,if_neg (show ¬ x.e / 2 % 3 = 0 by omega),if_neg (show ¬ x.e / 2 % 3 = 1 by omega)]
    by_cases h8 : 128 < x.e
    · rw [pp _ _ h8]
      exact r39_001_2p hq hi hx ht h8 hL a2 r2 (by simp at l2; omega)
    · rw [pa _ _ h8,ap,al]
      exact r39_001_2 hq hi hx ht h8 hL a2 r2 (by simp at l2; omega)
  · rw [if_pos ht,if_neg (show ¬ x.e / 2 % 3 = 1 by omega),if_neg (show ¬ x.e / 2 % 3 = 2 by omega)]
    rw [pe]
    exact r39_010_0 hq hi hx ht hL a1 r1 (by simp at l1; omega)
  · rw [if_pos ht,if_neg (show ¬ x.e / 2 % 3 = 0 by omega),if_neg (show ¬ x.e / 2 % 3 = 2 by omega)]
    by_cases h8 : 128 < x.e
    · rw [pp _ _ h8]
      exact r39_010_1p hq hi hx ht h8 hL a1 r1 (by simp at l1; omega)
    · rw [pa _ _ h8,ap,al]
      exact r39_010_1 hq hi hx ht h8 hL a1 r1 (by simp at l1; omega)
  · rw [if_pos ht,if_neg (show ¬ x.e / 2 % 3 = 0 by omega),if_neg (show ¬ x.e / 2 % 3 = 1 by omega)]
    rw [pe]
    exact r39_010_2 hq hi hx ht hL a1 r1 (by simp at l1; omega)
  · rw [if_pos ht,if_neg (show ¬ x.e / 2 % 3 = 1 by omega),if_neg (show ¬ x.e / 2 % 3 = 2 by omega)]
    rw [pe]
    exact r39_011_0 hq hi hx ht hL a1 a2 r1 r2 (by simp at l1; omega) (by simp at l2; omega)
  · rw [if_pos ht,if_neg (show ¬ x.e / 2 % 3 = 0 by omega),if_neg (show ¬ x.e / 2 % 3 = 2 by omega)]
    by_cases h8 : 128 < x.e
    · rw [pp _ _ h8]
      exact r39_011_1p hq hi hx ht h8 hL a1 a2 r1 r2 (by simp at l1; omega) (by simp at l2; omega)
    · rw [pa _ _ h8,ap,al]
      exact r39_011_1 hq hi hx ht h8 hL a1 a2 r1 r2 (by simp at l1; omega) (by simp at l2; omega)
  · rw [if_pos ht,if_neg (show ¬ x.e / 2 % 3 = 0 by omega),if_neg (show ¬ x.e / 2 % 3 = 1 by omega)]
    by_cases h8 : 128 < x.e
    · rw [pp _ _ h8]
      exact r39_011_2p hq hi hx ht h8 hL a1 a2 r1 r2 (by simp at l1; omega) (by simp at l2; omega)
    · rw [pa _ _ h8,ap,al]
      exact r39_011_2 hq hi hx ht h8 hL a1 a2 r1 r2 (by simp at l1; omega) (by simp at l2; omega)
  · rw [if_pos ht,if_neg (show ¬ x.e / 2 % 3 = 1 by omega),if_neg (show ¬ x.e / 2 % 3 = 2 by omega)]
    by_cases h8 : 128 < x.e
    · rw [pp _ _ h8]
      exact r39_100_0p hq hi hx ht h8 hL a0 r0 (by simp at l0; omega)
    · rw [pa _ _ h8,ap,al]
      exact r39_100_0 hq hi hx ht h8 hL a0 r0 (by simp at l0; omega)
  · rw [if_pos ht,if_neg (show ¬ x.e / 2 % 3 = 0 by omega),if_neg (show ¬ x.e / 2 % 3 = 2 by omega)]
    rw [pe]
    exact r39_100_1 hq hi hx ht hL a0 r0 (by simp at l0; omega)
  · rw [if_pos ht,if_neg (show ¬ x.e / 2 % 3 = 0 by omega),if_neg (show ¬ x.e / 2 % 3 = 1 by omega)]
    rw [pe]
    exact r39_100_2 hq hi hx ht hL a0 r0 (by simp at l0; omega)
  · rw [if_pos ht,if_neg (show ¬ x.e / 2 % 3 = 1 by omega),if_neg (show ¬ x.e / 2 % 3 = 2 by omega)]
    by_cases h8 : 128 < x.e
    · rw [pp _ _ h8]
      exact r39_101_0p hq hi hx ht h8 hL a0 a2 r0 r2 (by simp at l0; omega) (by simp at l2; omega)
    · rw [pa _ _ h8,ap,al]
      exact r39_101_0 hq hi hx ht h8 hL a0 a2 r0 r2 (by simp at l0; omega) (by simp at l2; omega)
  · rw [if_pos ht,if_neg (show ¬ x.e / 2 % 3 = 0 by omega),if_neg (show ¬ x.e / 2 % 3 = 2 by omega)]
    rw [pe]
    exact r39_101_1 hq hi hx ht hL a0 a2 r0 r2 (by simp at l0; omega) (by simp at l2; omega)
  · rw [if_pos ht,if_neg (show ¬ x.e / 2 % 3 = 0 by omega),if_neg (show ¬ x.e / 2 % 3 = 1 by omega)]
    by_cases h8 : 128 < x.e
    · rw [pp _ _ h8]
      exact r39_101_2p hq hi hx ht h8 hL a0 a2 r0 r2 (by simp at l0; omega) (by simp at l2; omega)
    · rw [pa _ _ h8,ap,al]
      exact r39_101_2 hq hi hx ht h8 hL a0 a2 r0 r2 (by simp at l0; omega) (by simp at l2; omega)
  · rw [if_pos ht,if_neg (show ¬ x.e / 2 % 3 = 1 by omega),if_neg (show ¬ x.e / 2 % 3 = 2 by omega)]
    by_cases h8 : 128 < x.e
    · rw [pp _ _ h8]
      exact r39_110_0p hq hi hx ht h8 hL a0 a1 r0 r1 (by simp at l0; omega) (by simp at l1; omega)
    · rw [pa _ _ h8,ap,al]
      exact r39_110_0 hq hi hx ht h8 hL a0 a1 r0 r1 (by simp at l0; omega) (by simp at l1; omega)
  · rw [if_pos ht,if_neg (show ¬ x.e / 2 % 3 = 0 by omega),if_neg (show ¬ x.e / 2 % 3 = 2 by omega)]
    by_cases h8 : 128 < x.e
    · rw [pp _ _ h8]
      exact r39_110_1p hq hi hx ht h8 hL a0 a1 r0 r1 (by simp at l0; omega) (by simp at l1; omega)
    · rw [pa _ _ h8,ap,al]
      exact r39_110_1 hq hi hx ht h8 hL a0 a1 r0 r1 (by simp at l0; omega) (by simp at l1; omega)
  · rw [if_pos ht,if_neg (show ¬ x.e / 2 % 3 = 0 by omega),if_neg (show ¬ x.e / 2 % 3 = 1 by omega)]
    rw [pe]
    exact r39_110_2 hq hi hx ht hL a0 a1 r0 r1 (by simp at l0; omega) (by simp at l1; omega)
  · rw [if_pos ht,if_neg (show ¬ x.e / 2 % 3 = 1 by omega),if_neg (show ¬ x.e / 2 % 3 = 2 by omega)]
    by_cases h8 : 128 < x.e
    · rw [pp _ _ h8]
      exact r39_111_0p hq hi hx ht h8 hL a0 a1 a2 r0 r1 r2 (by simp at l0; omega) (by simp at l1; omega) (by simp at l2; omega)
    · rw [pa _ _ h8,ap,al]
      exact r39_111_0 hq hi hx ht h8 hL a0 a1 a2 r0 r1 r2 (by simp at l0; omega) (by simp at l1; omega) (by simp at l2; omega)
  · rw [if_pos ht,if_neg (show ¬ x.e / 2 % 3 = 0 by omega),if_neg (show ¬ x.e / 2 % 3 = 2 by omega)]
    by_cases h8 : 128 < x.e
    · rw [pp _ _ h8]
      exact r39_111_1p hq hi hx ht h8 hL a0 a1 a2 r0 r1 r2 (by simp at l0; omega) (by simp at l1; omega) (by simp at l2; omega)
    · rw [pa _ _ h8,ap,al]
      exact r39_111_1 hq hi hx ht h8 hL a0 a1 a2 r0 r1 r2 (by simp at l0; omega) (by simp at l1; omega) (by simp at l2; omega)
  · rw [if_pos ht,if_neg (show ¬ x.e / 2 % 3 = 0 by omega),if_neg (show ¬ x.e / 2 % 3 = 1 by omega)]
    by_cases h8 : 128 < x.e
    · rw [pp _ _ h8]
      exact r39_111_2p hq hi hx ht h8 hL a0 a1 a2 r0 r1 r2 (by simp at l0; omega) (by simp at l1; omega) (by simp at l2; omega)
    · rw [pa _ _ h8,ap,al]
      exact r39_111_2 hq hi hx ht h8 hL a0 a1 a2 r0 r1 r2 (by simp at l0; omega) (by simp at l1; omega) (by simp at l2; omega)
end Go.Proofs.YtpbeclkpohehgaaDoor
namespace Go.Proofs.YtpbeclkpohehgaaDoor
open Go Go.DL
set_option maxRecDepth 100000
set_option maxHeartbeats 8000000
def trN (q : Qu) : Nat → Nat → List Int
  | 0,_ => []
  | i + 1,t => upT (q.ls.getD i ⟨0,0,0,0,0⟩) i t (trN q i t)
def lsN (q : Qu) (i : Nat) : List Ld := (q.ls.take i).map P5.ld
def fewL (q : Qu) : Nat := min q.ls.length 5
def nzT (T0 T1 T2 : List Int) : List (List Int) := [T0,T1,T2].filter fun T => !T.isEmpty
def mdL (q : Qu) : Li := ⟨[mdK q.k0,mdK q.k1],lsN q (fewL q),nzT (trN q (fewL q) 0) (trN q (fewL q) 1) (trN q (fewL q) 2),(q.s0 : Nat),((q.s0 + q.s1 : Nat) : Int)⟩
theorem put_len (x : P5) (i : Nat) (T : List Int) : (putT x i T).length = T.length + 1 := by
  unfold putT
  split
  · rfl
  · rw [List.length_append]; rfl
theorem tr_len (q : Qu) : ∀ i t,(trN q i t).length ≤ i
  | 0,t => Nat.le_refl _
  | i + 1,t => by
    have ih := tr_len q i t
    rw [trN]
    unfold upT
    split
    · rw [put_len]; omega
    · omega
theorem tr_ne (q : Qu) : ∀ i,trN q (i + 1) 0 ≠ [] ∨ trN q (i + 1) 1 ≠ [] ∨ trN q (i + 1) 2 ≠ [] := by
  intro i
  have pn : ∀ T,putT (q.ls.getD i ⟨0,0,0,0,0⟩) i T ≠ [] := fun T h => by
    have := put_len (q.ls.getD i ⟨0,0,0,0,0⟩) i T
    rw [h] at this; simp at this
  have ht : (q.ls.getD i ⟨0,0,0,0,0⟩).e / 2 % 3 = 0 ∨ (q.ls.getD i ⟨0,0,0,0,0⟩).e / 2 % 3 = 1 ∨ (q.ls.getD i ⟨0,0,0,0,0⟩).e / 2 % 3 = 2 := by omega
  rw [trN,trN,trN]
  unfold upT
  rcases ht with h | h | h
  · exact .inl (by rw [if_pos h]; exact pn _)
  · exact .inr (.inl (by rw [if_pos h]; exact pn _))
  · exact .inr (.inr (by rw [if_pos h]; exact pn _))
theorem ls_up {q : Qu} {i : Nat} {x : P5} (hx : q.ls[i]? = some x) : lsN q (i + 1) = lsN q i ++ [x.ld] := by
  unfold lsN
  rw [List.take_add_one,hx,List.map_append]
  rfl
def gM2 (q : Qu) : Nat → XH
  | 0 => hN0 q
  | i + 1 => hN q (lsN q (i + 1)) (i + 1) (csT (trN q (i + 1) 0) (trN q (i + 1) 1) (trN q (i + 1) 2)) (bsT (trN q (i + 1) 0) (trN q (i + 1) 1) (trN q (i + 1) 2))
def sM2 : Nat → List AV
  | 0 => [.pt 0 0,.pt 1 0,.pt 2 0,.pt 4 0,I 0]
  | i + 1 => [.pt 0 0,.pt 1 0,.pt 2 0,.pt 5 0,I (i + 1 : Nat)]
theorem gM2_up {q : Qu} (hq : q.Ok) {i : Nat} (hi : i < fewL q) : headX 0 [1,2,3,10,11] (execW progX 39 0 none (match x39l2 with | .loop _ a => a | c => c) (envL [1,2,3,10,11] (sM2 i)) (gM2 q i)) = some (sM2 (i + 1),gM2 q (i + 1)) := by
  have hi2 : i < q.ls.length ∧ i < 5 := by unfold fewL at hi; omega
  obtain ⟨x,hx⟩ := at_ix hi2.1
  have e : ∀ t,trN q (i + 1) t = upT x i t (trN q i t) := fun t => by rw [trN,getD_of hx]
  cases i with
  | zero =>
    have h := rj39_0 hq hx
    have e0 : ∀ t,trN q 1 t = upT x 0 t [] := fun t => e t
    have e1 : lsN q 1 = [x.ld] := ls_up hx
    rw [← e0 0,← e0 1,← e0 2,← e1] at h
    exact h
  | succ j =>
    have l := fun t => tr_len q (j + 1) t
    have h := rj39 hq hi2.2 hx (L := lsN q (j + 1)) (by unfold lsN; rw [List.length_map,List.length_take]; omega) (trN q (j + 1) 0) (trN q (j + 1) 1) (trN q (j + 1) 2) (tr_ne q j) (by have := l 0; omega) (by have := l 1; omega) (by have := l 2; omega)
    rw [← e 0,← e 1,← e 2,← ls_up hx] at h
    exact h
theorem few_outL (q : Qu) : (((fewL q : Nat) : Int) < (q.ls.length : Int)) = False ∨ ((((fewL q : Nat) : Int) < (q.ls.length : Int)) = True ∧ (((fewL q : Nat) : Int) < 5) = False) := by
  unfold fewL
  by_cases h : q.ls.length ≤ 5
  · exact .inl (eq_false (by omega))
  · exact .inr ⟨eq_true (by omega),eq_false (by omega)⟩
def gM1 (q : Qu) : Nat → XH
  | 0 => hM0 q
  | 1 => hM1 q
  | _ => hM2 q
theorem w39 {q : Qu} (hq : q.Ok) : runW progX 39 [.agg q.c] [] = some (.agg (mdL q).c,[]) := by
  have wa := wr8 hq.s.1
  have wb := wr8 hq.s.2
  have wc : IntKind.i64.wrap ((q.s0 : Int) + (q.s1 : Int)) = ((q.s0 + q.s1 : Nat) : Int) := by
    have := hq.s
    rw [wrap_ok (by omega) (by omega)]; omega
  have e44 := w44
  have r1 := round39 hq
  have rd1 : ∀ i : Nat,i < 2 → headX 0 [1,2,3,34,35] (execW progX 39 0 none (match x39l1 with | .loop _ a => a | c => c) (envL [1,2,3,34,35] [.pt 0 0,.pt 1 0,.pt 2 0,.agg [rP q.k0,rP q.k1],I (i : Nat)]) (gM1 q i)) = some ([.pt 0 0,.pt 1 0,.pt 2 0,.agg [rP q.k0,rP q.k1],I (i + 1 : Nat)],gM1 q (i + 1)) := by
    intro i hi
    match i,hi with
    | 0,_ => exact r1.1
    | 1,_ => exact r1.2
  have g10 : gM1 q 0 = hM0 q := rfl
  have g12 : gM1 q 2 = hM2 q := rfl
  have rd2 := fun i hi => gM2_up hq (i := i) hi
  have fo := few_outL q
  have s0 : sM2 0 = [.pt 0 0,.pt 1 0,.pt 2 0,.pt 4 0,I 0] := rfl
  have g20 : gM2 q 0 = hN0 q := rfl
  have hm : fewL q ≤ 5 := by unfold fewL; omega
  have chL := cL_ch (lsN q (fewL q))
  have clL := cL_len (lsN q (fewL q))
  have lsl : (lsN q (fewL q)).length = fewL q := by unfold lsN fewL; rw [List.length_map,List.length_take]; omega
  rw [lsl] at chL clL
  unfold mdL
  by_cases hz : fewL q = 0
  · have fo : ((0 : Int) < (q.ls.length : Int)) = False := eq_false (by unfold fewL at hz; omega)
    have lz : lsN q (fewL q) = [] := List.eq_nil_of_length_eq_zero (lsl.trans hz)
    rw [lz,hz]
    have tz : ∀ t,trN q 0 t = [] := fun _ => rfl
    rw [tz,tz,tz]
    have nz : nzT [] [] [] = [] := rfl
    rw [nz]
    rw [r39 (by simp)]; unfold x39; dsimp only
    sym =>
      simp [Za,Zb,Zc,Zd,Ze,Zf,Zg,Zh,Zj,Zl,Zm,Zn,Zo,Zp,Zr,Zu,Zv,Zx,Zy,Zz,Z0,Z2,Z5,Z6,Z7,Z9,ZD,ZF,ZJ,ZK,ZN,ZO,ZR,ZS,ZT,ZU,ZV,ZX,ZY,Ya,Yb,Yc,Yh,Yr,Yt,Yx,Yy,Yz,Y0,Y1,Y2,Y4,Y5,Y7,YB,YG,YH,YK,YM,YO,YP,YQ,YT,YX,YY,YZ,Xa,Xc,Xd,Xf,Xh,Xi,Xj,Xl,Xo,Xq,Xt,Xv,Xx,Xy,X0,XI,XJ,XK,XL,XN,XP,XU,XX,XY,XZ,We,Wf,Wg,Wh,Wi,Wj,Wk,Wl,Wm,Wn,Wo,Wp,Wr,Ws,Wu,Wv,Ww,Wx,Wy,Wz,W0,W3,W4,W5,W6,W7,WA,WB,WC,WF,WG,WH,WI,WJ,WQ,WR,WS,WT,WU,WV,WW,WX,Vb,Vc,Vd,Ve,Vf,Vg,Vh,Vi,Vj,Vk,Vl,Vn,Vo,Vp,Vr,Vs,Vt,Vu,Vv,Vw,Vx,Vy,Vz,V1,V2,V3,V4,V5,V6,V8,V9,VA,VB,VD,VF,VH,VO,VP,VQ,VS,VT,VU,VV,VW,VX,VY,VZ,Ua,Ub,Uc,Ud,Ue,Uf,Ug,Uh,Ui,Uj,Uk,Ul,Um,Un,Ut,Uu,Uv,Uw,Ux,Uy,U2,U3,U4,U5,U6,U7,U9,UA,UD,UE,UF,UG,UH,UI,UJ,UK,UL,UM,UN,UO,UP,UQ,UR,US,UT,UV,UX,UY,UZ,Ta,Td,Te,Tf,Tg,Ti,Tl,Tm,Tn,Tp,Tq,Tr,Ts,Tt,Tu,Tz,T3,T4,TD,TE,TG,wa,wb,wc,e44]
      tactic =>
        unfold x39l1
        rw [loop_rule 2 (fun i => [.pt 0 0,.pt 1 0,.pt 2 0,.agg [rP q.k0,rP q.k1],I (i : Nat)]) (gM1 q)]
        · rw [g12]
          unfold x39l2 x39l3
          (sym => (simp [Za,Zb,Zc,Zd,Ze,Zf,Zg,Zh,Zj,Zl,Zm,Zn,Zo,Zp,Zr,Zu,Zv,Zx,Zy,Zz,Z0,Z2,Z5,Z6,Z7,Z9,ZD,ZF,ZJ,ZK,ZN,ZO,ZR,ZS,ZT,ZU,ZV,ZX,ZY,Ya,Yb,Yc,Yh,Yr,Yt,Yx,Yy,Yz,Y0,Y1,Y2,Y4,Y5,Y7,YB,YG,YH,YK,YM,YO,YP,YQ,YT,YX,YY,YZ,Xa,Xc,Xd,Xf,Xh,Xi,Xj,Xl,Xo,Xq,Xt,Xv,Xx,Xy,X0,XI,XJ,XK,XL,XN,XP,XU,XX,XY,XZ,We,Wf,Wg,Wh,Wi,Wj,Wk,Wl,Wm,Wn,Wo,Wp,Wr,Ws,Wu,Wv,Ww,Wx,Wy,Wz,W0,W3,W4,W5,W6,W7,WA,WB,WC,WF,WG,WH,WI,WJ,WQ,WR,WS,WT,WU,WV,WW,WX,Vb,Vc,Vd,Ve,Vf,Vg,Vh,Vi,Vj,Vk,Vl,Vn,Vo,Vp,Vr,Vs,Vt,Vu,Vv,Vw,Vx,Vy,Vz,V1,V2,V3,V4,V5,V6,V8,V9,VA,VB,VD,VF,VH,VO,VP,VQ,VS,VT,VU,VV,VW,VX,VY,VZ,Ua,Ub,Uc,Ud,Ue,Uf,Ug,Uh,Ui,Uj,Uk,Ul,Um,Un,Ut,Uu,Uv,Uw,Ux,Uy,U2,U3,U4,U5,U6,U7,U9,UA,UD,UE,UF,UG,UH,UI,UJ,UK,UL,UM,UN,UO,UP,UQ,UR,US,UT,UV,UX,UY,UZ,Ta,Td,Te,Tf,Tg,Ti,Tl,Tm,Tn,Tp,Tq,Tr,Ts,Tt,Tu,Tz,T3,T4,TD,TE,TG,loopU,fo]; all_goals tactic => exact rfl))
        · rw [g10]
          (sym => (simp [Za,Zb,Zc,Zd,Ze,Zf,Zg,Zh,Zj,Zl,Zm,Zn,Zo,Zp,Zr,Zu,Zv,Zx,Zy,Zz,Z0,Z2,Z5,Z6,Z7,Z9,ZD,ZF,ZJ,ZK,ZN,ZO,ZR,ZS,ZT,ZU,ZV,ZX,ZY,Ya,Yb,Yc,Yh,Yr,Yt,Yx,Yy,Yz,Y0,Y1,Y2,Y4,Y5,Y7,YB,YG,YH,YK,YM,YO,YP,YQ,YT,YX,YY,YZ,Xa,Xc,Xd,Xf,Xh,Xi,Xj,Xl,Xo,Xq,Xt,Xv,Xx,Xy,X0,XI,XJ,XK,XL,XN,XP,XU,XX,XY,XZ,We,Wf,Wg,Wh,Wi,Wj,Wk,Wl,Wm,Wn,Wo,Wp,Wr,Ws,Wu,Wv,Ww,Wx,Wy,Wz,W0,W3,W4,W5,W6,W7,WA,WB,WC,WF,WG,WH,WI,WJ,WQ,WR,WS,WT,WU,WV,WW,WX,Vb,Vc,Vd,Ve,Vf,Vg,Vh,Vi,Vj,Vk,Vl,Vn,Vo,Vp,Vr,Vs,Vt,Vu,Vv,Vw,Vx,Vy,Vz,V1,V2,V3,V4,V5,V6,V8,V9,VA,VB,VD,VF,VH,VO,VP,VQ,VS,VT,VU,VV,VW,VX,VY,VZ,Ua,Ub,Uc,Ud,Ue,Uf,Ug,Uh,Ui,Uj,Uk,Ul,Um,Un,Ut,Uu,Uv,Uw,Ux,Uy,U2,U3,U4,U5,U6,U7,U9,UA,UD,UE,UF,UG,UH,UI,UJ,UK,UL,UM,UN,UO,UP,UQ,UR,US,UT,UV,UX,UY,UZ,Ta,Td,Te,Tf,Tg,Ti,Tl,Tm,Tn,Tp,Tq,Tr,Ts,Tt,Tu,Tz,T3,T4,TD,TE,TG]; all_goals tactic => exact rfl))
        · exact rd1
        · rw [g12]
          (sym => (simp [Za,Zb,Zc,Zd,Ze,Zf,Zg,Zh,Zj,Zl,Zm,Zn,Zo,Zp,Zr,Zu,Zv,Zx,Zy,Zz,Z0,Z2,Z5,Z6,Z7,Z9,ZD,ZF,ZJ,ZK,ZN,ZO,ZR,ZS,ZT,ZU,ZV,ZX,ZY,Ya,Yb,Yc,Yh,Yr,Yt,Yx,Yy,Yz,Y0,Y1,Y2,Y4,Y5,Y7,YB,YG,YH,YK,YM,YO,YP,YQ,YT,YX,YY,YZ,Xa,Xc,Xd,Xf,Xh,Xi,Xj,Xl,Xo,Xq,Xt,Xv,Xx,Xy,X0,XI,XJ,XK,XL,XN,XP,XU,XX,XY,XZ,We,Wf,Wg,Wh,Wi,Wj,Wk,Wl,Wm,Wn,Wo,Wp,Wr,Ws,Wu,Wv,Ww,Wx,Wy,Wz,W0,W3,W4,W5,W6,W7,WA,WB,WC,WF,WG,WH,WI,WJ,WQ,WR,WS,WT,WU,WV,WW,WX,Vb,Vc,Vd,Ve,Vf,Vg,Vh,Vi,Vj,Vk,Vl,Vn,Vo,Vp,Vr,Vs,Vt,Vu,Vv,Vw,Vx,Vy,Vz,V1,V2,V3,V4,V5,V6,V8,V9,VA,VB,VD,VF,VH,VO,VP,VQ,VS,VT,VU,VV,VW,VX,VY,VZ,Ua,Ub,Uc,Ud,Ue,Uf,Ug,Uh,Ui,Uj,Uk,Ul,Um,Un,Ut,Uu,Uv,Uw,Ux,Uy,U2,U3,U4,U5,U6,U7,U9,UA,UD,UE,UF,UG,UH,UI,UJ,UK,UL,UM,UN,UO,UP,UQ,UR,US,UT,UV,UX,UY,UZ,Ta,Td,Te,Tf,Tg,Ti,Tl,Tm,Tn,Tp,Tq,Tr,Ts,Tt,Tu,Tz,T3,T4,TD,TE,TG]; all_goals tactic => exact rfl))
  · obtain ⟨m,hmm⟩ : ∃ m,fewL q = m + 1 := ⟨fewL q - 1,by omega⟩
    have gL : gM2 q (fewL q) = hN q (lsN q (fewL q)) (fewL q) (csT (trN q (fewL q) 0) (trN q (fewL q) 1) (trN q (fewL q) 2)) (bsT (trN q (fewL q) 0) (trN q (fewL q) 1) (trN q (fewL q) 2)) := by rw [hmm]; rfl
    have sL : sM2 (fewL q) = [.pt 0 0,.pt 1 0,.pt 2 0,.pt 5 0,I (fewL q : Nat)] := by rw [hmm]; rfl
    have ne : trN q (fewL q) 0 ≠ [] ∨ trN q (fewL q) 1 ≠ [] ∨ trN q (fewL q) 2 ≠ [] := by rw [hmm]; exact tr_ne q m
    have ce : (fewL q * 5 ≤ fewL q * 5) = True := eq_true (Nat.le_refl _)
    have gp : ∀ r : List Int,((0 : Int) < ((r.length + 1 : Nat) : Int)) = True := fun r => eq_true (by omega)
    rw [r39 (by simp)]; unfold x39; dsimp only
    sym =>
      simp [Za,Zb,Zc,Zd,Ze,Zf,Zg,Zh,Zj,Zl,Zm,Zn,Zo,Zp,Zr,Zu,Zv,Zx,Zy,Zz,Z0,Z2,Z5,Z6,Z7,Z9,ZD,ZF,ZJ,ZK,ZN,ZO,ZR,ZS,ZT,ZU,ZV,ZX,ZY,Ya,Yb,Yc,Yh,Yr,Yt,Yx,Yy,Yz,Y0,Y1,Y2,Y4,Y5,Y7,YB,YG,YH,YK,YM,YO,YP,YQ,YT,YX,YY,YZ,Xa,Xc,Xd,Xf,Xh,Xi,Xj,Xl,Xo,Xq,Xt,Xv,Xx,Xy,X0,XI,XJ,XK,XL,XN,XP,XU,XX,XY,XZ,We,Wf,Wg,Wh,Wi,Wj,Wk,Wl,Wm,Wn,Wo,Wp,Wr,Ws,Wu,Wv,Ww,Wx,Wy,Wz,W0,W3,W4,W5,W6,W7,WA,WB,WC,WF,WG,WH,WI,WJ,WQ,WR,WS,WT,WU,WV,WW,WX,Vb,Vc,Vd,Ve,Vf,Vg,Vh,Vi,Vj,Vk,Vl,Vn,Vo,Vp,Vr,Vs,Vt,Vu,Vv,Vw,Vx,Vy,Vz,V1,V2,V3,V4,V5,V6,V8,V9,VA,VB,VD,VF,VH,VO,VP,VQ,VS,VT,VU,VV,VW,VX,VY,VZ,Ua,Ub,Uc,Ud,Ue,Uf,Ug,Uh,Ui,Uj,Uk,Ul,Um,Un,Ut,Uu,Uv,Uw,Ux,Uy,U2,U3,U4,U5,U6,U7,U9,UA,UD,UE,UF,UG,UH,UI,UJ,UK,UL,UM,UN,UO,UP,UQ,UR,US,UT,UV,UX,UY,UZ,Ta,Td,Te,Tf,Tg,Ti,Tl,Tm,Tn,Tp,Tq,Tr,Ts,Tt,Tu,Tz,T3,T4,TD,TE,TG,wa,wb,wc,e44]
      tactic =>
        unfold x39l1
        rw [loop_rule 2 (fun i => [.pt 0 0,.pt 1 0,.pt 2 0,.agg [rP q.k0,rP q.k1],I (i : Nat)]) (gM1 q)]
        · rw [g12]
          sym =>
            simp [Za,Zb,Zc,Zd,Ze,Zf,Zg,Zh,Zj,Zl,Zm,Zn,Zo,Zp,Zr,Zu,Zv,Zx,Zy,Zz,Z0,Z2,Z5,Z6,Z7,Z9,ZD,ZF,ZJ,ZK,ZN,ZO,ZR,ZS,ZT,ZU,ZV,ZX,ZY,Ya,Yb,Yc,Yh,Yr,Yt,Yx,Yy,Yz,Y0,Y1,Y2,Y4,Y5,Y7,YB,YG,YH,YK,YM,YO,YP,YQ,YT,YX,YY,YZ,Xa,Xc,Xd,Xf,Xh,Xi,Xj,Xl,Xo,Xq,Xt,Xv,Xx,Xy,X0,XI,XJ,XK,XL,XN,XP,XU,XX,XY,XZ,We,Wf,Wg,Wh,Wi,Wj,Wk,Wl,Wm,Wn,Wo,Wp,Wr,Ws,Wu,Wv,Ww,Wx,Wy,Wz,W0,W3,W4,W5,W6,W7,WA,WB,WC,WF,WG,WH,WI,WJ,WQ,WR,WS,WT,WU,WV,WW,WX,Vb,Vc,Vd,Ve,Vf,Vg,Vh,Vi,Vj,Vk,Vl,Vn,Vo,Vp,Vr,Vs,Vt,Vu,Vv,Vw,Vx,Vy,Vz,V1,V2,V3,V4,V5,V6,V8,V9,VA,VB,VD,VF,VH,VO,VP,VQ,VS,VT,VU,VV,VW,VX,VY,VZ,Ua,Ub,Uc,Ud,Ue,Uf,Ug,Uh,Ui,Uj,Uk,Ul,Um,Un,Ut,Uu,Uv,Uw,Ux,Uy,U2,U3,U4,U5,U6,U7,U9,UA,UD,UE,UF,UG,UH,UI,UJ,UK,UL,UM,UN,UO,UP,UQ,UR,US,UT,UV,UX,UY,UZ,Ta,Td,Te,Tf,Tg,Ti,Tl,Tm,Tn,Tp,Tq,Tr,Ts,Tt,Tu,Tz,T3,T4,TD,TE,TG]
            tactic =>
              unfold x39l2
              rw [loop_rule (fewL q) sM2 (gM2 q)]
              · rw [gL,sL]
                generalize trN q (fewL q) 0 = T0 at *
                generalize trN q (fewL q) 1 = T1 at *
                generalize trN q (fewL q) 2 = T2 at *
                generalize lsN q (fewL q) = L at *
                generalize fewL q = fl at *
                unfold x39l3
                unfold nzT
                rcases T0 with _ | ⟨a0,r0⟩
                all_goals rcases T1 with _ | ⟨a1,r1⟩
                all_goals rcases T2 with _ | ⟨a2,r2⟩
                · simp at ne
                all_goals try simp only [neL]
                all_goals simp only [List.filter,List.isEmpty,Bool.not_true,Bool.not_false]
                all_goals rcases fo with fo | ⟨fo,fo2⟩
                all_goals first | (sym => (simp [Za,Zb,Zc,Zd,Ze,Zf,Zg,Zh,Zj,Zl,Zm,Zn,Zo,Zp,Zr,Zu,Zv,Zx,Zy,Zz,Z0,Z2,Z5,Z6,Z7,Z9,ZD,ZF,ZJ,ZK,ZN,ZO,ZR,ZS,ZT,ZU,ZV,ZX,ZY,Ya,Yb,Yc,Yh,Yr,Yt,Yx,Yy,Yz,Y0,Y1,Y2,Y4,Y5,Y7,YB,YG,YH,YK,YM,YO,YP,YQ,YT,YX,YY,YZ,Xa,Xc,Xd,Xf,Xh,Xi,Xj,Xl,Xo,Xq,Xt,Xv,Xx,Xy,X0,XI,XJ,XK,XL,XN,XP,XU,XX,XY,XZ,We,Wf,Wg,Wh,Wi,Wj,Wk,Wl,Wm,Wn,Wo,Wp,Wr,Ws,Wu,Wv,Ww,Wx,Wy,Wz,W0,W3,W4,W5,W6,W7,WA,WB,WC,WF,WG,WH,WI,WJ,WQ,WR,WS,WT,WU,WV,WW,WX,Vb,Vc,Vd,Ve,Vf,Vg,Vh,Vi,Vj,Vk,Vl,Vn,Vo,Vp,Vr,Vs,Vt,Vu,Vv,Vw,Vx,Vy,Vz,V1,V2,V3,V4,V5,V6,V8,V9,VA,VB,VD,VF,VH,VO,VP,VQ,VS,VT,VU,VV,VW,VX,VY,VZ,Ua,Ub,Uc,Ud,Ue,Uf,Ug,Uh,Ui,Uj,Uk,Ul,Um,Un,Ut,Uu,Uv,Uw,Ux,Uy,U2,U3,U4,U5,U6,U7,U9,UA,UD,UE,UF,UG,UH,UI,UJ,UK,UL,UM,UN,UO,UP,UQ,UR,US,UT,UV,UX,UY,UZ,Ta,Td,Te,Tf,Tg,Ti,Tl,Tm,Tn,Tp,Tq,Tr,Ts,Tt,Tu,Tz,T3,T4,TD,TE,TG,loopU,fo,fo2,chL,clL,ce,gp]; all_goals tactic => exact rfl)) | (sym => (simp [Za,Zb,Zc,Zd,Ze,Zf,Zg,Zh,Zj,Zl,Zm,Zn,Zo,Zp,Zr,Zu,Zv,Zx,Zy,Zz,Z0,Z2,Z5,Z6,Z7,Z9,ZD,ZF,ZJ,ZK,ZN,ZO,ZR,ZS,ZT,ZU,ZV,ZX,ZY,Ya,Yb,Yc,Yh,Yr,Yt,Yx,Yy,Yz,Y0,Y1,Y2,Y4,Y5,Y7,YB,YG,YH,YK,YM,YO,YP,YQ,YT,YX,YY,YZ,Xa,Xc,Xd,Xf,Xh,Xi,Xj,Xl,Xo,Xq,Xt,Xv,Xx,Xy,X0,XI,XJ,XK,XL,XN,XP,XU,XX,XY,XZ,We,Wf,Wg,Wh,Wi,Wj,Wk,Wl,Wm,Wn,Wo,Wp,Wr,Ws,Wu,Wv,Ww,Wx,Wy,Wz,W0,W3,W4,W5,W6,W7,WA,WB,WC,WF,WG,WH,WI,WJ,WQ,WR,WS,WT,WU,WV,WW,WX,Vb,Vc,Vd,Ve,Vf,Vg,Vh,Vi,Vj,Vk,Vl,Vn,Vo,Vp,Vr,Vs,Vt,Vu,Vv,Vw,Vx,Vy,Vz,V1,V2,V3,V4,V5,V6,V8,V9,VA,VB,VD,VF,VH,VO,VP,VQ,VS,VT,VU,VV,VW,VX,VY,VZ,Ua,Ub,Uc,Ud,Ue,Uf,Ug,Uh,Ui,Uj,Uk,Ul,Um,Un,Ut,Uu,Uv,Uw,Ux,Uy,U2,U3,U4,U5,U6,U7,U9,UA,UD,UE,UF,UG,UH,UI,UJ,UK,UL,UM,UN,UO,UP,UQ,UR,US,UT,UV,UX,UY,UZ,Ta,Td,Te,Tf,Tg,Ti,Tl,Tm,Tn,Tp,Tq,Tr,Ts,Tt,Tu,Tz,T3,T4,TD,TE,TG,loopU,fo,chL,clL,ce,gp]; all_goals tactic => exact rfl))
              · rw [s0,g20]
                (sym => (simp [Za,Zb,Zc,Zd,Ze,Zf,Zg,Zh,Zj,Zl,Zm,Zn,Zo,Zp,Zr,Zu,Zv,Zx,Zy,Zz,Z0,Z2,Z5,Z6,Z7,Z9,ZD,ZF,ZJ,ZK,ZN,ZO,ZR,ZS,ZT,ZU,ZV,ZX,ZY,Ya,Yb,Yc,Yh,Yr,Yt,Yx,Yy,Yz,Y0,Y1,Y2,Y4,Y5,Y7,YB,YG,YH,YK,YM,YO,YP,YQ,YT,YX,YY,YZ,Xa,Xc,Xd,Xf,Xh,Xi,Xj,Xl,Xo,Xq,Xt,Xv,Xx,Xy,X0,XI,XJ,XK,XL,XN,XP,XU,XX,XY,XZ,We,Wf,Wg,Wh,Wi,Wj,Wk,Wl,Wm,Wn,Wo,Wp,Wr,Ws,Wu,Wv,Ww,Wx,Wy,Wz,W0,W3,W4,W5,W6,W7,WA,WB,WC,WF,WG,WH,WI,WJ,WQ,WR,WS,WT,WU,WV,WW,WX,Vb,Vc,Vd,Ve,Vf,Vg,Vh,Vi,Vj,Vk,Vl,Vn,Vo,Vp,Vr,Vs,Vt,Vu,Vv,Vw,Vx,Vy,Vz,V1,V2,V3,V4,V5,V6,V8,V9,VA,VB,VD,VF,VH,VO,VP,VQ,VS,VT,VU,VV,VW,VX,VY,VZ,Ua,Ub,Uc,Ud,Ue,Uf,Ug,Uh,Ui,Uj,Uk,Ul,Um,Un,Ut,Uu,Uv,Uw,Ux,Uy,U2,U3,U4,U5,U6,U7,U9,UA,UD,UE,UF,UG,UH,UI,UJ,UK,UL,UM,UN,UO,UP,UQ,UR,US,UT,UV,UX,UY,UZ,Ta,Td,Te,Tf,Tg,Ti,Tl,Tm,Tn,Tp,Tq,Tr,Ts,Tt,Tu,Tz,T3,T4,TD,TE,TG]; all_goals tactic => exact rfl))
              · exact rd2
              · rw [gL,sL]
                generalize fewL q = fl at *
                rcases fo with fo | ⟨fo,fo2⟩
                · (sym => (simp [Za,Zb,Zc,Zd,Ze,Zf,Zg,Zh,Zj,Zl,Zm,Zn,Zo,Zp,Zr,Zu,Zv,Zx,Zy,Zz,Z0,Z2,Z5,Z6,Z7,Z9,ZD,ZF,ZJ,ZK,ZN,ZO,ZR,ZS,ZT,ZU,ZV,ZX,ZY,Ya,Yb,Yc,Yh,Yr,Yt,Yx,Yy,Yz,Y0,Y1,Y2,Y4,Y5,Y7,YB,YG,YH,YK,YM,YO,YP,YQ,YT,YX,YY,YZ,Xa,Xc,Xd,Xf,Xh,Xi,Xj,Xl,Xo,Xq,Xt,Xv,Xx,Xy,X0,XI,XJ,XK,XL,XN,XP,XU,XX,XY,XZ,We,Wf,Wg,Wh,Wi,Wj,Wk,Wl,Wm,Wn,Wo,Wp,Wr,Ws,Wu,Wv,Ww,Wx,Wy,Wz,W0,W3,W4,W5,W6,W7,WA,WB,WC,WF,WG,WH,WI,WJ,WQ,WR,WS,WT,WU,WV,WW,WX,Vb,Vc,Vd,Ve,Vf,Vg,Vh,Vi,Vj,Vk,Vl,Vn,Vo,Vp,Vr,Vs,Vt,Vu,Vv,Vw,Vx,Vy,Vz,V1,V2,V3,V4,V5,V6,V8,V9,VA,VB,VD,VF,VH,VO,VP,VQ,VS,VT,VU,VV,VW,VX,VY,VZ,Ua,Ub,Uc,Ud,Ue,Uf,Ug,Uh,Ui,Uj,Uk,Ul,Um,Un,Ut,Uu,Uv,Uw,Ux,Uy,U2,U3,U4,U5,U6,U7,U9,UA,UD,UE,UF,UG,UH,UI,UJ,UK,UL,UM,UN,UO,UP,UQ,UR,US,UT,UV,UX,UY,UZ,Ta,Td,Te,Tf,Tg,Ti,Tl,Tm,Tn,Tp,Tq,Tr,Ts,Tt,Tu,Tz,T3,T4,TD,TE,TG,fo]; all_goals tactic => exact rfl))
                · (sym => (simp [Za,Zb,Zc,Zd,Ze,Zf,Zg,Zh,Zj,Zl,Zm,Zn,Zo,Zp,Zr,Zu,Zv,Zx,Zy,Zz,Z0,Z2,Z5,Z6,Z7,Z9,ZD,ZF,ZJ,ZK,ZN,ZO,ZR,ZS,ZT,ZU,ZV,ZX,ZY,Ya,Yb,Yc,Yh,Yr,Yt,Yx,Yy,Yz,Y0,Y1,Y2,Y4,Y5,Y7,YB,YG,YH,YK,YM,YO,YP,YQ,YT,YX,YY,YZ,Xa,Xc,Xd,Xf,Xh,Xi,Xj,Xl,Xo,Xq,Xt,Xv,Xx,Xy,X0,XI,XJ,XK,XL,XN,XP,XU,XX,XY,XZ,We,Wf,Wg,Wh,Wi,Wj,Wk,Wl,Wm,Wn,Wo,Wp,Wr,Ws,Wu,Wv,Ww,Wx,Wy,Wz,W0,W3,W4,W5,W6,W7,WA,WB,WC,WF,WG,WH,WI,WJ,WQ,WR,WS,WT,WU,WV,WW,WX,Vb,Vc,Vd,Ve,Vf,Vg,Vh,Vi,Vj,Vk,Vl,Vn,Vo,Vp,Vr,Vs,Vt,Vu,Vv,Vw,Vx,Vy,Vz,V1,V2,V3,V4,V5,V6,V8,V9,VA,VB,VD,VF,VH,VO,VP,VQ,VS,VT,VU,VV,VW,VX,VY,VZ,Ua,Ub,Uc,Ud,Ue,Uf,Ug,Uh,Ui,Uj,Uk,Ul,Um,Un,Ut,Uu,Uv,Uw,Ux,Uy,U2,U3,U4,U5,U6,U7,U9,UA,UD,UE,UF,UG,UH,UI,UJ,UK,UL,UM,UN,UO,UP,UQ,UR,US,UT,UV,UX,UY,UZ,Ta,Td,Te,Tf,Tg,Ti,Tl,Tm,Tn,Tp,Tq,Tr,Ts,Tt,Tu,Tz,T3,T4,TD,TE,TG,fo,fo2]; all_goals tactic => exact rfl))
        · rw [g10]
          (sym => (simp [Za,Zb,Zc,Zd,Ze,Zf,Zg,Zh,Zj,Zl,Zm,Zn,Zo,Zp,Zr,Zu,Zv,Zx,Zy,Zz,Z0,Z2,Z5,Z6,Z7,Z9,ZD,ZF,ZJ,ZK,ZN,ZO,ZR,ZS,ZT,ZU,ZV,ZX,ZY,Ya,Yb,Yc,Yh,Yr,Yt,Yx,Yy,Yz,Y0,Y1,Y2,Y4,Y5,Y7,YB,YG,YH,YK,YM,YO,YP,YQ,YT,YX,YY,YZ,Xa,Xc,Xd,Xf,Xh,Xi,Xj,Xl,Xo,Xq,Xt,Xv,Xx,Xy,X0,XI,XJ,XK,XL,XN,XP,XU,XX,XY,XZ,We,Wf,Wg,Wh,Wi,Wj,Wk,Wl,Wm,Wn,Wo,Wp,Wr,Ws,Wu,Wv,Ww,Wx,Wy,Wz,W0,W3,W4,W5,W6,W7,WA,WB,WC,WF,WG,WH,WI,WJ,WQ,WR,WS,WT,WU,WV,WW,WX,Vb,Vc,Vd,Ve,Vf,Vg,Vh,Vi,Vj,Vk,Vl,Vn,Vo,Vp,Vr,Vs,Vt,Vu,Vv,Vw,Vx,Vy,Vz,V1,V2,V3,V4,V5,V6,V8,V9,VA,VB,VD,VF,VH,VO,VP,VQ,VS,VT,VU,VV,VW,VX,VY,VZ,Ua,Ub,Uc,Ud,Ue,Uf,Ug,Uh,Ui,Uj,Uk,Ul,Um,Un,Ut,Uu,Uv,Uw,Ux,Uy,U2,U3,U4,U5,U6,U7,U9,UA,UD,UE,UF,UG,UH,UI,UJ,UK,UL,UM,UN,UO,UP,UQ,UR,US,UT,UV,UX,UY,UZ,Ta,Td,Te,Tf,Tg,Ti,Tl,Tm,Tn,Tp,Tq,Tr,Ts,Tt,Tu,Tz,T3,T4,TD,TE,TG]; all_goals tactic => exact rfl))
        · exact rd1
        · rw [g12]
          (sym => (simp [Za,Zb,Zc,Zd,Ze,Zf,Zg,Zh,Zj,Zl,Zm,Zn,Zo,Zp,Zr,Zu,Zv,Zx,Zy,Zz,Z0,Z2,Z5,Z6,Z7,Z9,ZD,ZF,ZJ,ZK,ZN,ZO,ZR,ZS,ZT,ZU,ZV,ZX,ZY,Ya,Yb,Yc,Yh,Yr,Yt,Yx,Yy,Yz,Y0,Y1,Y2,Y4,Y5,Y7,YB,YG,YH,YK,YM,YO,YP,YQ,YT,YX,YY,YZ,Xa,Xc,Xd,Xf,Xh,Xi,Xj,Xl,Xo,Xq,Xt,Xv,Xx,Xy,X0,XI,XJ,XK,XL,XN,XP,XU,XX,XY,XZ,We,Wf,Wg,Wh,Wi,Wj,Wk,Wl,Wm,Wn,Wo,Wp,Wr,Ws,Wu,Wv,Ww,Wx,Wy,Wz,W0,W3,W4,W5,W6,W7,WA,WB,WC,WF,WG,WH,WI,WJ,WQ,WR,WS,WT,WU,WV,WW,WX,Vb,Vc,Vd,Ve,Vf,Vg,Vh,Vi,Vj,Vk,Vl,Vn,Vo,Vp,Vr,Vs,Vt,Vu,Vv,Vw,Vx,Vy,Vz,V1,V2,V3,V4,V5,V6,V8,V9,VA,VB,VD,VF,VH,VO,VP,VQ,VS,VT,VU,VV,VW,VX,VY,VZ,Ua,Ub,Uc,Ud,Ue,Uf,Ug,Uh,Ui,Uj,Uk,Ul,Um,Un,Ut,Uu,Uv,Uw,Ux,Uy,U2,U3,U4,U5,U6,U7,U9,UA,UD,UE,UF,UG,UH,UI,UJ,UK,UL,UM,UN,UO,UP,UQ,UR,US,UT,UV,UX,UY,UZ,Ta,Td,Te,Tf,Tg,Ti,Tl,Tm,Tn,Tp,Tq,Tr,Ts,Tt,Tu,Tz,T3,T4,TD,TE,TG]; all_goals tactic => exact rfl))
end Go.Proofs.YtpbeclkpohehgaaDoor
namespace Go.Proofs.YtpbeclkpohehgaaDoor
open Go Go.DL
set_option maxRecDepth 100000
set_option maxHeartbeats 4000000

def vld (n : Nat) (b : Nat → Nat) : Nat → List Nat → Prop
  | d,[] => pop d n = n
  | d,k :: ks => k < n ∧ canB b d k = true ∧ vld n b (d ||| 2 ^ k) ks
theorem mx_l (a c : Int) : a ≤ mxI a c ∧ c ≤ mxI a c := by unfold mxI; split <;> omega
theorem vld_len {n : Nat} {b : Nat → Nat} : ∀ {d : Nat} {ks : List Nat},vld n b d ks → pop d n + ks.length = n
  | d,[],h => h
  | d,k :: ks,h => by
    have h1 := (pop_or (can_bit h.2.1) n).1 h.1
    have h2 := vld_len h.2.2
    rw [List.length_cons]
    omega
theorem Good.kd {l : Li} (g : Good l) {t : Nat} {k : List St} (ht : l.ks[t]? = some k) {m m' : Int} (hm : m ≤ m') : ∀ i,i ≤ k.length → soN k m i ≤ soN k m' i ∧ (∀ x,i < k.length → k[i]? = some x → soN k m' i < x.s)
  | 0,_ => ⟨Int.le_refl _,fun x hi hx => by
    have := g.st ht hx
    rw [soN]; omega⟩
  | i + 1,hi => by
    obtain ⟨y,hy⟩ := at_ix (l := k) (i := i) (by omega)
    obtain ⟨h1,h2⟩ := g.kd ht hm i (by omega)
    have h2 := h2 y (by omega) hy
    have up : soN k m' (i + 1) ≤ y.s := by
      rcases soN_up (m := m') hy with ⟨_,h⟩ | ⟨_,h⟩ <;> rw [h] <;> omega
    refine ⟨?_,fun x hi hx => ?_⟩
    · rcases soN_up (m := m) hy with ⟨a1,h3⟩ | ⟨a1,h3⟩
      · rcases soN_up (m := m') hy with ⟨_,h4⟩ | ⟨a2,_⟩
        · rw [h3,h4]; exact Int.le_refl _
        · have a1 := of_eq_true a1
          have a2 := of_eq_false a2
          omega
      · rcases soN_up (m := m') hy with ⟨_,h4⟩ | ⟨_,h4⟩
        · rw [h3,h4]; omega
        · rw [h3,h4]; exact h1
    · have hr := (g.st ht hx).2.2.2.2
      rw [(pr_up hy).2] at hr
      omega
theorem so_mono {l : Li} (g : Good l) {t : Nat} {k : List St} (ht : l.ks[t]? = some k) {m m' : Int} (hm : m ≤ m') : sourF k m ≤ sourF k m' := (g.kd ht hm _ (Nat.le_refl _)).1
end Go.Proofs.YtpbeclkpohehgaaDoor
namespace Go.Proofs.YtpbeclkpohehgaaDoor
open Go Go.DL
set_option maxRecDepth 100000
set_option maxHeartbeats 4000000

theorem firstN_z {f : Nat → Int} : ∀ n,(∀ i,i < n → f i = 0) → firstN f n = 0
  | 0,_ => rfl
  | n + 1,h => by rw [firstN,firstN_z n fun i hi => h i (by omega),if_pos rfl]; exact h n (by omega)
theorem ix_mem {α : Type} {l : List α} {i : Nat} {d : α} (h : i < l.length) : l.getD i d ∈ l := by
  obtain ⟨x,hx⟩ := at_ix h
  rw [getD_of hx]
  exact List.mem_of_getElem? hx
theorem nodup_ix {t : List Int} (h : t.Nodup) {i j : Nat} (hi : i < j) (hj : j < t.length) : t.getD i 0 ≠ t.getD j 0 := by
  obtain ⟨x,hx⟩ := at_ix (l := t) (i := i) (by omega)
  obtain ⟨y,hy⟩ := at_ix hj
  rw [getD_of hx,getD_of hy]
  have := List.pairwise_iff_getElem.1 h i j (by omega) hj hi
  rw [(List.getElem?_eq_some_iff.1 hx).2,(List.getElem?_eq_some_iff.1 hy).2] at this
  exact this
theorem tracks_ok {n : Nat} {T : List (List Int)} (h1 : ∀ t ∈ T,t ≠ []) (h2 : ∀ t ∈ T,∀ v ∈ t,0 ≤ v ∧ v < n) (h3 : ∀ t ∈ T,t.Nodup) (h4 : T.Pairwise fun s t => ∀ v ∈ s,v ∉ t) (h5 : ∀ k : Nat,k < n → ∃ t,t ∈ T ∧ (k : Int) ∈ t) : tracksE n T = 0 := by
  have er : ∀ j,j < T.length → errT n (T.getD j []) (accT T j) = 0 := by
    intro j hj
    have hT : T.getD j [] ∈ T := ix_mem hj
    unfold errT
    have hne := h1 _ hT
    rw [if_neg fun hz => hne (List.eq_nil_of_length_eq_zero hz)]
    refine firstN_z _ fun i hi => ?_
    have hv := ix_mem (d := 0) hi
    have hr := h2 _ hT _ hv
    rcases elE_of (n := n) (all := allT (T.getD j []) (accT T j) i) ((T.getD j []).getD i 0) with ⟨_,_,_,h⟩ | ⟨_,_,hb,_⟩ | ⟨hb,_⟩
    · exact h
    · exfalso
      rcases allT_bit.1 hb with h | ⟨i',h6,h7⟩
      · obtain ⟨j',h6,i',h7,h8⟩ := accT_bit.1 h
        have hT' : T.getD j' [] ∈ T := ix_mem (by omega)
        have hv' := ix_mem (d := 0) h7
        have hr' := h2 _ hT' _ hv'
        have he : (T.getD j' []).getD i' 0 = (T.getD j []).getD i 0 := by unfold plc at h8; omega
        rw [he] at hv'
        obtain ⟨s,hs⟩ := at_ix (l := T) (i := j') (by omega)
        obtain ⟨t,ht⟩ := at_ix hj
        have hp := List.pairwise_iff_getElem.1 h4 j' j (by omega) hj h6
        rw [(List.getElem?_eq_some_iff.1 hs).2,(List.getElem?_eq_some_iff.1 ht).2] at hp
        rw [getD_of hs] at hv'
        rw [getD_of ht] at hv hv'
        exact hp _ hv' hv
      · have hv' := ix_mem (l := T.getD j []) (d := 0) (i := i') (by omega)
        have hr' := h2 _ hT _ hv'
        exact nodup_ix (h3 _ hT) h6 hi (by omega)
    · have : btw 0 ((T.getD j []).getD i 0) ((n : Int) - 1) = true := btwF.2 (by omega)
      rw [hb] at this; simp at this
  unfold tracksE
  rw [if_pos (firstN_z _ er)]
  have : pop (accT T T.length) n = n := pop_full.2 fun k hk => by
    obtain ⟨t,h6,h7⟩ := h5 k hk
    obtain ⟨j,hj⟩ := List.getElem?_of_mem h6
    obtain ⟨i,hi⟩ := List.getElem?_of_mem h7
    exact accT_bit.2 ⟨j,lt_of hj,i,by rw [getD_of hj]; exact lt_of hi,by rw [plc,getD_of hj,getD_of hi,Int.toNat_natCast]⟩
  rw [if_neg (by omega)]
theorem put_mem {x : P5} {i : Nat} {T : List Int} {v : Int} : v ∈ putT x i T ↔ v = (i : Int) ∨ v ∈ T := by
  unfold putT
  split
  · rw [List.mem_cons]
  · rw [List.mem_append,List.mem_singleton]; exact Or.comm
theorem put_nodup {x : P5} {i : Nat} {T : List Int} (h : T.Nodup) (hi : (i : Int) ∉ T) : (putT x i T).Nodup := by
  unfold putT
  split
  · exact List.nodup_cons.2 ⟨hi,h⟩
  · rw [List.nodup_append]
    refine ⟨h,by simp,fun a ha b hb => ?_⟩
    rw [List.mem_singleton] at hb
    subst hb
    intro hc
    subst hc
    exact hi ha
structure TrOk (q : Qu) (i : Nat) : Prop where
  bd : ∀ t,∀ v ∈ trN q i t,0 ≤ v ∧ v < i
  nd : ∀ t,(trN q i t).Nodup
  dj : ∀ t t',t ≠ t' → ∀ v ∈ trN q i t,v ∉ trN q i t'
  all : ∀ k : Nat,k < i → ∃ t,t < 3 ∧ (k : Int) ∈ trN q i t
theorem tr_ok (q : Qu) : ∀ i,TrOk q i
  | 0 => ⟨fun t v hv => by simp [trN] at hv,fun t => by simp [trN],fun t t' _ v hv => by simp [trN] at hv,fun k hk => by omega⟩
  | i + 1 => by
    have ih := tr_ok q i
    have hi : ∀ t,(i : Int) ∉ trN q i t := fun t h => by have := ih.bd t _ h; omega
    have mem : ∀ t v,v ∈ trN q (i + 1) t ↔ ((q.ls.getD i ⟨0,0,0,0,0⟩).e / 2 % 3 = t ∧ v = (i : Int)) ∨ v ∈ trN q i t := by
      intro t v
      rw [trN]
      unfold upT
      by_cases h : (q.ls.getD i ⟨0,0,0,0,0⟩).e / 2 % 3 = t
      · rw [if_pos h,put_mem]
        exact ⟨fun h2 => h2.elim (fun h3 => .inl ⟨h,h3⟩) .inr,fun h2 => h2.elim (fun h3 => .inl h3.2) .inr⟩
      · rw [if_neg h]
        exact ⟨.inr,fun h2 => h2.elim (fun h3 => absurd h3.1 h) id⟩
    refine ⟨fun t v hv => ?_,fun t => ?_,fun t t' ht v hv hv' => ?_,fun k hk => ?_⟩
    · rcases (mem t v).1 hv with ⟨_,rfl⟩ | h
      · omega
      · have := ih.bd t v h; omega
    · rw [trN]
      unfold upT
      split
      · exact put_nodup (ih.nd t) (hi t)
      · exact ih.nd t
    · rcases (mem t v).1 hv with ⟨h1,rfl⟩ | h
      · rcases (mem t' _).1 hv' with ⟨h2,_⟩ | h2
        · exact ht (h1.symm.trans h2)
        · exact hi t' h2
      · rcases (mem t' _).1 hv' with ⟨_,rfl⟩ | h2
        · exact hi t h
        · exact ih.dj t t' ht v h h2
    · by_cases hki : k = i
      · subst hki
        exact ⟨(q.ls.getD k ⟨0,0,0,0,0⟩).e / 2 % 3,by omega,(mem _ _).2 (.inl ⟨rfl,rfl⟩)⟩
      · obtain ⟨t,h1,h2⟩ := ih.all k (by omega)
        exact ⟨t,h1,(mem _ _).2 (.inr h2)⟩
theorem nz_mem {T0 T1 T2 t : List Int} : t ∈ nzT T0 T1 T2 ↔ (t = T0 ∨ t = T1 ∨ t = T2) ∧ t ≠ [] := by
  unfold nzT
  rw [List.mem_filter]
  simp [List.isEmpty_iff]
theorem md_tracks (q : Qu) (n : Nat) (hn : n = fewL q) : tracksE n (nzT (trN q (fewL q) 0) (trN q (fewL q) 1) (trN q (fewL q) 2)) = 0 := by
  have h := tr_ok q (fewL q)
  subst hn
  refine tracks_ok (fun t ht => (nz_mem.1 ht).2) (fun t ht v hv => ?_) (fun t ht => ?_) ?_ (fun k hk => ?_)
  · rcases (nz_mem.1 ht).1 with rfl | rfl | rfl <;> exact h.bd _ v hv
  · rcases (nz_mem.1 ht).1 with rfl | rfl | rfl <;> exact h.nd _
  · unfold nzT
    refine List.Pairwise.filter _ ?_
    simp only [List.pairwise_cons,List.mem_cons,List.not_mem_nil,or_false,false_implies,implies_true,List.Pairwise.nil,and_true,forall_eq_or_imp,forall_eq]
    exact ⟨⟨h.dj 0 1 (by decide),h.dj 0 2 (by decide)⟩,h.dj 1 2 (by decide)⟩
  · obtain ⟨t,h1,h2⟩ := h.all k hk
    refine ⟨trN q (fewL q) t,nz_mem.2 ⟨?_,fun hc => by rw [hc] at h2; simp at h2⟩,h2⟩
    match t,h1 with
    | 0,_ => exact .inl rfl
    | 1,_ => exact .inr (.inl rfl)
    | 2,_ => exact .inr (.inr rfl)
theorem st_get {x : List P2} : ∀ {m i : Nat},i < m → (stN x m)[i]? = some ⟨(afN x (i + 1) : Nat),(nnN x (i + 1) : Nat)⟩
  | 0,i,h => by omega
  | m + 1,i,h => by
    rw [stN]
    by_cases hi : i = m
    · subst hi
      rw [List.getElem?_append_right (by rw [stN_len]; omega),stN_len,Nat.sub_self]
      rfl
    · rw [List.getElem?_append_left (by rw [stN_len]; omega)]
      exact st_get (by omega)
theorem md_kind {x : List P2} (hx : ∀ y ∈ x,y.a < 256 ∧ y.b < 256) : chkD (mdK x) = 0 := by
  have hl : (mdK x).length = fewK x := stN_len x _
  have h4 : fewK x ≤ 4 ∧ fewK x ≤ x.length := by unfold fewK; omega
  unfold chkD
  rw [hl,if_neg (by omega)]
  refine firstN_z _ fun i hi => ?_
  have hg : (mdK x)[i]? = some ⟨(afN x (i + 1) : Nat),(nnN x (i + 1) : Nat)⟩ := st_get hi
  have bd := af_bd hx (i + 1) (by omega)
  have pr : prA (mdK x) i < (afN x (i + 1) : Nat) ∧ prS (mdK x) i < (nnN x (i + 1) : Nat) ∧ 1 ≤ nnN x (i + 1) := by
    cases i with
    | zero =>
      have e1 : prA (mdK x) 0 = -1 := rfl
      have e2 : prS (mdK x) 0 = 0 := rfl
      rw [e1,e2,afN,nnN]
      omega
    | succ j =>
      have hg' : (mdK x)[j]? = some ⟨(afN x (j + 1) : Nat),(nnN x (j + 1) : Nat)⟩ := st_get (by omega)
      have e := pr_up hg'
      have e3 : afN x (j + 1 + 1) = afN x (j + 1) + 1 + (x.getD (j + 1) ⟨0,0⟩).a := rfl
      have e4 : nnN x (j + 1 + 1) = nnN x (j + 1) + 1 + (x.getD (j + 1) ⟨0,0⟩).b % 9 := rfl
      rw [e.1,e.2]
      dsimp only
      omega
  rcases kErr_of hg with ⟨_,_,_,_,h⟩ | ⟨_,_,_,h,_⟩ | ⟨_,_,h,_⟩ | ⟨_,h,_⟩ | ⟨h,_⟩
  · exact h
  · have := of_eq_true h; dsimp only at this; omega
  · have := of_eq_true h; dsimp only at this; omega
  · have : btw 1 ((nnN x (i + 1) : Nat) : Int) 1000000 = true := btwF.2 (by omega)
    rw [this] at h; simp at h
  · have : btw 0 ((afN x (i + 1) : Nat) : Int) 100000 = true := btwF.2 (by omega)
    rw [this] at h; simp at h
theorem md_ls {q : Qu} : (lsN q (fewL q)).length = fewL q := by unfold lsN fewL; rw [List.length_map,List.length_take]; omega
theorem md_good {q : Qu} (hq : q.Ok) : checkL (mdL q) = 0 := by
  unfold checkL
  have hk : kindsE (mdL q).ks = 0 := by
    unfold kindsE
    rw [if_neg (by simp [mdL])]
    refine firstN_z _ fun i hi => ?_
    have hi2 : i < 2 := hi
    match i,hi2 with
    | 0,_ => exact md_kind hq.k0
    | 1,_ => exact md_kind hq.k1
  have hm : fewL q ≤ 5 := by unfold fewL; omega
  have hl : (mdL q).ls.length = fewL q := md_ls
  have hs := hq.s
  rw [if_pos hk,if_neg (by omega)]
  have hld : firstN (ldEr (mdL q)) (mdL q).ls.length = 0 := by
    refine firstN_z _ fun i hi => ?_
    have hi2 : i < q.ls.length ∧ i < fewL q := by unfold fewL at *; omega
    obtain ⟨x,hx⟩ := at_ix hi2.1
    have hb := hq.ls x (List.mem_of_getElem? hx)
    have hg : (mdL q).ls[i]? = some x.ld := by
      show (lsN q (fewL q))[i]? = _
      unfold lsN
      rw [List.getElem?_map,List.getElem?_take,if_pos hi2.2,hx]; rfl
    unfold ldEr
    rw [getD_of hg]
    have hks : (mdL q).ks.length = 2 := rfl
    rw [hks]
    rcases ldE_of 2 x.ld with ⟨_,_,_,h⟩ | ⟨_,_,h,_⟩ | ⟨_,h,_⟩ | ⟨h,_⟩
    · exact h
    · have : inS x.ld.cl x.ld.ch 1 10000 = true := inSF.2 (by unfold P5.ld; dsimp only; omega)
      rw [this] at h; simp at h
    · have : inS x.ld.al x.ld.ah 0 100000 = true := inSF.2 (by unfold P5.ld; dsimp only; omega)
      rw [this] at h; simp at h
    · have : btw 0 x.ld.k (((2 : Nat) : Int) - 1) = true := btwF.2 (by unfold P5.ld; dsimp only; omega)
      rw [this] at h; simp at h
  rw [if_pos hld]
  have ht : tracksE (mdL q).ls.length (mdL q).ts = 0 := md_tracks q _ hl
  have hst : inS (mdL q).lo (mdL q).hi 0 100000 = true := inSF.2 (by unfold mdL; dsimp only; omega)
  rw [if_pos ht,hst]
  rfl
theorem md_fit (q : Qu) : (mdL q).Fit := by
  have hm : fewL q ≤ 5 := by unfold fewL; omega
  refine ⟨?_,fun t ht => ?_⟩
  · have : (nzT (trN q (fewL q) 0) (trN q (fewL q) 1) (trN q (fewL q) 2)).length ≤ 3 := by
      unfold nzT
      exact Nat.le_trans (List.length_filter_le _ _) (by simp)
    show (nzT _ _ _).length ≤ _
    omega
  · have h := tr_len q (fewL q)
    rcases (nz_mem.1 ht).1 with rfl | rfl | rfl
    · have := h 0; omega
    · have := h 1; omega
    · have := h 2; omega
end Go.Proofs.YtpbeclkpohehgaaDoor
namespace Go.Proofs.YtpbeclkpohehgaaDoor
open Go Go.DL
set_option maxRecDepth 100000
set_option maxHeartbeats 4000000

def cnN (b : Nat → Nat) (d k : Nat) : Nat → Bool
  | 0 => !d.testBit k
  | j + 1 => cnN b d k j && (d.testBit j || !(b k).testBit j)
theorem cnN_iff {b : Nat → Nat} {d k : Nat} : ∀ n,(cnN b d k n = true ↔ d.testBit k = false ∧ ∀ j,j < n → (b k).testBit j = true → d.testBit j = true)
  | 0 => by
    rw [cnN]
    cases d.testBit k <;> simp
  | n + 1 => by
    rw [cnN,Bool.and_eq_true,cnN_iff n]
    constructor
    · rintro ⟨⟨h1,h2⟩,h3⟩
      refine ⟨h1,fun j hj hb => ?_⟩
      by_cases hjn : j = n
      · subst hjn
        rw [hb] at h3
        simpa using h3
      · exact h2 j (by omega) hb
    · rintro ⟨h1,h2⟩
      refine ⟨⟨h1,fun j hj => h2 j (by omega)⟩,?_⟩
      cases hb : (b k).testBit n with
      | false => simp
      | true => rw [h2 n (by omega) hb]; rfl
theorem cn_can {n : Nat} {b : Nat → Nat} (p : Prec n b) (hn : n ≤ 10) {d k : Nat} (hd : d < 2 ^ n) : cnN b d k n = canB b d k := by
  apply Bool.eq_iff_iff.2
  rw [cnN_iff,canB_iff p hn hd]
  constructor
  · rintro ⟨h1,h2⟩
    refine ⟨h1,fun i hi => ?_⟩
    by_cases hin : i < n
    · exact h2 i hin hi
    · rw [bit_lt (p.lt k) (by omega)] at hi; simp at hi
  · rintro ⟨h1,h2⟩
    exact ⟨h1,fun j _ => h2 j⟩
end Go.Proofs.YtpbeclkpohehgaaDoor
namespace Go.Proofs.YtpbeclkpohehgaaDoor
open Go Go.DL
set_option maxRecDepth 100000
set_option maxHeartbeats 4000000
section
variable {l : Li}
end
end Go.Proofs.YtpbeclkpohehgaaDoor
namespace Go.Proofs.YtpbeclkpohehgaaDoor
open Go Go.DL
set_option maxRecDepth 100000
set_option maxHeartbeats 4000000
section
variable {l : Li}
end
end Go.Proofs.YtpbeclkpohehgaaDoor
namespace Go.Proofs.YtpbeclkpohehgaaDoor
open Go Go.DL
set_option maxRecDepth 100000
set_option maxHeartbeats 4000000

theorem allT_ext {t t' : List Int} {a : Nat} : ∀ i,(∀ j,j < i → t.getD j 0 = t'.getD j 0) → allT t a i = allT t' a i
  | 0,_ => rfl
  | i + 1,h => by rw [allT,allT,allT_ext i fun j hj => h j (by omega),h i (by omega)]
theorem allT_snoc (os : List Int) (k : Nat) : allT (os ++ [(k : Int)]) 0 (os ++ [(k : Int)]).length = allT os 0 os.length ||| 2 ^ k := by
  rw [List.length_append,List.length_singleton,allT,allT_ext (t' := os) os.length fun j hj => by
    obtain ⟨x,hx⟩ := at_ix hj
    rw [getD_of hx,getD_of (by rw [List.getElem?_append_left hj]; exact hx)]]
  have : (os ++ [(k : Int)]).getD os.length 0 = (k : Int) := getD_of (by rw [List.getElem?_append_right (Nat.le_refl _),Nat.sub_self]; rfl)
  rw [this,Int.toNat_natCast]
section
variable {l : Li}
end
end Go.Proofs.YtpbeclkpohehgaaDoor
namespace Go.Proofs.YtpbeclkpohehgaaDoor
open Go Go.DL
set_option maxRecDepth 100000
set_option maxHeartbeats 4000000
section
variable {l : Li}
end
end Go.Proofs.YtpbeclkpohehgaaDoor
namespace Go.Proofs.YtpbeclkpohehgaaDoor
open Go Go.DL
set_option maxRecDepth 100000
set_option maxHeartbeats 4000000

section
variable {l : Li}
end
end Go.Proofs.YtpbeclkpohehgaaDoor
namespace Go.Proofs.YtpbeclkpohehgaaDoor
open Go Go.DL
set_option maxRecDepth 100000
set_option maxHeartbeats 4000000

theorem ord_ok0 {n : Nat} {b : Nat → Nat} (p : Prec n b) (hn : n ≤ 10) {o : List Int} : ∀ (ks : List Nat) (i d : Nat),d < 2 ^ n → vld n b d ks → o.drop i = ofN ks → allT o 0 i = d → i + ks.length = o.length → ∀ j,i ≤ j → j < o.length → ordE n b (allT o 0 j) (o.getD j 0) = 0
  | [],i,d,_,_,_,_,hl,j,h1,h2 => by simp at hl; omega
  | k :: ks,i,d,hd,hv,ho,ha,hl,j,h1,h2 => by
    rw [ofN_c] at ho
    have hi : o[i]? = some (k : Int) := by
      have := congrArg (fun q => q[0]?) ho
      simpa using this
    have ho2 : o.drop (i + 1) = ofN ks := by
      have := congrArg (List.drop 1) ho
      rw [List.drop_drop] at this
      simpa using this
    have hc := (canB_iff p hn hd).1 hv.2.1
    by_cases hj : j = i
    · subst hj
      rw [getD_of hi,ha]
      have e := Int.toNat_natCast k
      have lb := lt_10 (p.lt k) hn
      have ld := lt_10 hd hn
      rcases ordE_of (n := n) (b := b) (a := d) (k : Int) with ⟨_,_,_,_,h⟩ | ⟨_,_,_,h,_⟩ | ⟨_,_,h,_⟩ | ⟨h,_⟩
      · exact h
      · rw [e] at h
        exact absurd ((dif_zero (by omega) (by omega)).2 hc.2) h
      · rw [e,hc.1] at h; simp at h
      · have := hv.1
        have : btw 0 (k : Int) ((n : Int) - 1) = true := btwF.2 (by omega)
        rw [this] at h; simp at h
    · refine ord_ok0 p hn ks (i + 1) (d ||| 2 ^ k) (or_lt hd hv.1) hv.2.2 ho2 ?_ ?_ j (by omega) h2
      · rw [allT,getD_of hi,Int.toNat_natCast,ha]
      · rw [List.length_cons] at hl; omega
theorem ord_ok {l : Li} (g : Good l) (hc : checkL l = 0) {ks : List Nat} (h : vld l.ls.length (behF l.ts) 0 ks) : runE l (ofN ks) = 0 := by
  have hl := vld_len h
  rw [pop_0] at hl
  have ol := ofN_len ks
  unfold runE
  rw [if_pos hc]
  unfold orderE
  rw [if_pos (by omega)]
  exact firstN_z _ fun j hj => ord_ok0 g.prec g.few ks 0 0 (Nat.two_pow_pos _) h List.drop_zero rfl (by omega) j (by omega) hj
theorem ws_set {s : List Sp} {k : Nat} {x : Sp} (hk : s[k]? = some ⟨0,0⟩) (hx : 0 ≤ x.hi) : ∀ n,0 ≤ wsN s n ∧ (n ≤ k → wsN (s.set k x) n = wsN s n) ∧ (k < n → n ≤ s.length → wsN (s.set k x) n = mxI (wsN s n) x.hi)
  | 0 => ⟨Int.le_refl _,fun _ => rfl,fun h => by omega⟩
  | n + 1 => by
    obtain ⟨h0,h1,h2⟩ := ws_set hk hx n
    have hp : 0 ≤ wsN s (n + 1) := by rw [wsN]; unfold mxI; split <;> omega
    refine ⟨hp,fun h => ?_,fun h hl => ?_⟩
    · rw [wsN,wsN,h1 (by omega)]
      congr 1
      obtain ⟨y,hy⟩ | hy : (∃ y,s[n]? = some y) ∨ s[n]? = none := by cases s[n]? <;> simp
      · rw [getD_of hy,getD_of (by rw [List.getElem?_set_ne (by omega)]; exact hy)]
      · rw [List.getD_eq_getElem?_getD,List.getD_eq_getElem?_getD,List.getElem?_set_ne (by omega)]
    · by_cases hkn : k = n
      · subst hkn
        rw [wsN,wsN,h1 (Nat.le_refl _),getD_of hk,getD_of (List.getElem?_set_self (by omega))]
        unfold mxI
        dsimp only
        repeat' split
        all_goals omega
      · obtain ⟨y,hy⟩ := at_ix (l := s) (i := n) (by omega)
        rw [wsN,wsN,h2 (by omega) (by omega),getD_of hy,getD_of (by rw [List.getElem?_set_ne hkn]; exact hy)]
        unfold mxI
        repeat' split
        all_goals omega
theorem ws_rep : ∀ n,wsN (List.replicate n ⟨0,0⟩) n = 0 := by
  intro n
  have : ∀ m,m ≤ n → wsN (List.replicate n ⟨0,0⟩) m = 0 := by
    intro m
    induction m with
    | zero => intro _; rfl
    | succ m ih =>
      intro hm
      have e : (List.replicate n (⟨0,0⟩ : Sp)).getD m ⟨0,0⟩ = ⟨0,0⟩ := by
        rw [List.getD_eq_getElem?_getD,List.getElem?_replicate_of_lt (by omega)]; rfl
      rw [wsN,ih (by omega),e]
      rfl
  exact this n (Nat.le_refl _)
theorem so_pos {l : Li} (g : Good l) {o : List Int} {n : Nat} (ho : ∀ i,i < n → 0 ≤ o.getD i 0 ∧ o.getD i 0 < l.ls.length) {i : Nat} (hi : i < n) : 0 ≤ soHi l o i := by
  obtain ⟨x,k,_,h2,_,h4,h5,_⟩ := g.ld (ho i hi)
  unfold soHi sourF
  rw [h2,h5]
  exact (so_bd g h4 _ _ (Nat.le_refl _)).1
theorem ws_ms {l : Li} (g : Good l) {o : List Int} (hord : orderE l.ls.length (behF l.ts) o = 0) : ∀ i,i ≤ l.ls.length → wsN (sA l o i) l.ls.length = msN l o i ∧ ∀ k,k < l.ls.length → (allT o 0 i).testBit k = false → (sA l o i)[k]? = some ⟨0,0⟩
  | 0,_ => by
    refine ⟨ws_rep _,fun k hk _ => ?_⟩
    rw [sA,List.getElem?_replicate_of_lt hk]
  | i + 1,hi => by
    obtain ⟨hl,hoe,ho⟩ := ord_of hord
    obtain ⟨h1,h2⟩ := ws_ms g hord i (by omega)
    have hr := ho i (by omega)
    have he := hoe i (by omega)
    have hb : (allT o 0 i).testBit (o.getD i 0).toNat = false := by
      rcases ordE_of (n := l.ls.length) (b := behF l.ts) (a := allT o 0 i) (o.getD i 0) with ⟨_,_,h,_,_⟩ | ⟨_,_,h,_,_⟩ | ⟨_,_,_,h⟩ | ⟨_,h⟩
      · exact h
      · exact h
      · rw [he] at h; simp at h
      · rw [he] at h; simp at h
    have hz := h2 (o.getD i 0).toNat (by omega) hb
    have sl := sA_len l o i
    refine ⟨?_,fun k hk hkb => ?_⟩
    · rw [sA,(ws_set hz (x := ⟨soLo l o i,soHi l o i⟩) (so_pos g ho (i := i) (by omega)) l.ls.length).2.2 (by omega) (by omega),h1,msN]
    · rw [allT,or_bit,Bool.or_eq_false_iff] at hkb
      have hne : (o.getD i 0).toNat ≠ k := by simpa using hkb.2
      rw [sA,List.getElem?_set_ne hne]
      exact h2 k hk hkb.1
theorem worst_ms {l : Li} {o : List Int} (h : runE l o = 0) : worst l o = msN l o o.length := by
  obtain ⟨g,hl,hord⟩ := runE_len h
  have := (ws_ms g hord l.ls.length (Nat.le_refl _)).1
  unfold worst
  rw [hl]
  exact this
end Go.Proofs.YtpbeclkpohehgaaDoor
namespace Go.Proofs.YtpbeclkpohehgaaDoor
open Go Go.DL
set_option maxRecDepth 100000
set_option maxHeartbeats 4000000

end Go.Proofs.YtpbeclkpohehgaaDoor
namespace Go.Proofs.YtpbeclkpohehgaaDoor
open Go Go.DL
set_option maxRecDepth 100000
set_option maxHeartbeats 4000000

section
variable {l : Li}
end
end Go.Proofs.YtpbeclkpohehgaaDoor
namespace Go.Proofs.YtpbeclkpohehgaaDoor
open Go Go.DL
set_option maxRecDepth 100000
set_option maxHeartbeats 4000000

theorem met_bit {os : List Int} (hv : ∀ v ∈ os,0 ≤ v) (j : Nat) : metN os (j : Int) os.length = (allT os 0 os.length).testBit j := by
  apply Bool.eq_iff_iff.2
  rw [met_iff,allT_bit,Nat.zero_testBit]
  constructor
  · rintro ⟨i,hi,h⟩
    exact .inr ⟨i,hi,by rw [h,Int.toNat_natCast]⟩
  · rintro (h | ⟨i,hi,h⟩)
    · simp at h
    · obtain ⟨x,hx⟩ := at_ix hi
      rw [getD_of hx] at h
      have := hv x (List.mem_of_getElem? hx)
      exact ⟨i,hi,by rw [getD_of hx]; omega⟩
theorem met_up {os : List Int} {j v : Int} {i : Nat} (hx : os[i]? = some v) : metN os j (i + 1) = (metN os j i || decide (v = j)) := by rw [metN,getD_of hx]
def cB (os : List Int) : Nat := if os = [] then 1 else 2
theorem cB_0 : cB [] = 1 := rfl
theorem cB_ne {os : List Int} (h : os ≠ []) : cB os = 2 := if_neg h
theorem oS_ne {b : Nat} {os : List Int} (h : os ≠ []) : oS b os = .sl b 0 1 os.length := by
  cases os with
  | nil => exact absurd rfl h
  | cons a r => rfl
theorem oG_ne {os : List Int} (h : os ≠ []) : oG os = [some (.blk true (.cells true (os.map I)))] := by
  cases os with
  | nil => exact absurd rfl h
  | cons a r => rfl
theorem ne_ix {os : List Int} {i : Nat} {v : Int} (h : os[i]? = some v) : os ≠ [] := by rintro rfl; simp at h
section
variable {l : Li}
theorem round40a (R : List (List AV)) (x : Int) {n : Nat} {os cs : List Int} (hl : os.length ≤ 10) {k i : Nat} {v : Int} (hv : os[i]? = some v) (f r : Bool) (hr : r = (f && !decide (v = (k : Int)))) :
    headX 0 [1,2,5,6,7,8,9,27,28,31,32,33] (execW progX 40 0 none (match x40l0 with | .loop _ a => a | c => c) (envL [1,2,5,6,7,8,9,27,28,31,32,33] [.fs R,.pt 0 0,oS 1 os,I x,oS (cB os) cs,I (k : Nat),.bool f,I (n : Nat),I (k : Nat),oS 1 os,I os.length,I (i : Nat)]) ([some (.blk true (.cells true l.c))] ++ (oG os ++ oG cs))) =
      some ([.fs R,.pt 0 0,oS 1 os,I x,oS (cB os) cs,I (k : Nat),.bool r,I (n : Nat),I (k : Nat),oS 1 os,I os.length,I (i + 1 : Nat)],[some (.blk true (.cells true l.c))] ++ (oG os ++ oG cs)) := by
  have a1 := lt_ix (lt_of hv)
  have a2 := up_ix (lt_of hv) (by omega)
  subst hr
  rw [oS_ne (ne_ix hv),oG_ne (ne_ix hv),cB_ne (ne_ix hv)]
  unfold x40l0
  dsimp only
  by_cases hvk : v = (k : Int)
  · have q : (v = (k : Int)) = True := eq_true hvk
    cases cs <;> cases f <;> (sym => (simp [Za,Zb,Zf,Zh,Zl,Zm,Zo,Zp,Zr,Zu,Zx,Z2,Z8,ZF,ZU,ZV,Yd,Yh,Yq,Yr,Yv,Yw,YK,YL,YO,YP,YQ,YT,Xd,Xe,Xh,Xi,Xj,Xl,We,Wf,Wg,Wo,Wp,Wr,Ws,Wu,Wv,Ww,Wy,W0,W3,W4,W5,WA,WB,WF,Vt,Vu,Vv,Vw,Vx,V2,V3,V4,V5,V6,V8,VC,VD,VF,VH,VI,VJ,VO,VR,VS,VT,VU,VY,VZ,Ua,Ub,U9,UA,UE,UM,UN,UP,UR,US,UV,UY,UZ,Ta,Td,Te,Tf,Tq,Tr,Ts,Tt,a1,a2,hv,q]; all_goals tactic => exact rfl))
  · have q : (v = (k : Int)) = False := eq_false hvk
    cases cs <;> cases f <;> (sym => (simp [Za,Zb,Zf,Zh,Zl,Zm,Zo,Zp,Zr,Zu,Zx,Z2,Z8,ZF,ZU,ZV,Yd,Yh,Yq,Yr,Yv,Yw,YK,YL,YO,YP,YQ,YT,Xd,Xe,Xh,Xi,Xj,Xl,We,Wf,Wg,Wo,Wp,Wr,Ws,Wu,Wv,Ww,Wy,W0,W3,W4,W5,WA,WB,WF,Vt,Vu,Vv,Vw,Vx,V2,V3,V4,V5,V6,V8,VC,VD,VF,VH,VI,VJ,VO,VR,VS,VT,VU,VY,VZ,Ua,Ub,U9,UA,UE,UM,UN,UP,UR,US,UV,UY,UZ,Ta,Td,Te,Tf,Tq,Tr,Ts,Tt,a1,a2,hv,q]; all_goals tactic => exact rfl))
theorem round40b (R : List (List AV)) (x : Int) {n : Nat} {os cs : List Int} (hl : os.length ≤ 10) {k j i : Nat} {v : Int} (hv : os[i]? = some v) (g f r : Bool) (hr : r = (f || decide (v = (j : Int)))) :
    headX 0 [1,2,5,6,7,8,9,12,13,27,28,46,47,50,51,52] (execW progX 40 0 none (match x40l1 with | .loop _ a => a | c => c) (envL [1,2,5,6,7,8,9,12,13,27,28,46,47,50,51,52] [.fs R,.pt 0 0,oS 1 os,I x,oS (cB os) cs,I (k : Nat),.bool g,I (j : Nat),.bool f,I (n : Nat),I (k : Nat),I (n : Nat),I (j : Nat),oS 1 os,I os.length,I (i : Nat)]) ([some (.blk true (.cells true l.c))] ++ (oG os ++ oG cs))) =
      some ([.fs R,.pt 0 0,oS 1 os,I x,oS (cB os) cs,I (k : Nat),.bool g,I (j : Nat),.bool r,I (n : Nat),I (k : Nat),I (n : Nat),I (j : Nat),oS 1 os,I os.length,I (i + 1 : Nat)],[some (.blk true (.cells true l.c))] ++ (oG os ++ oG cs)) := by
  have a1 := lt_ix (lt_of hv)
  have a2 := up_ix (lt_of hv) (by omega)
  subst hr
  rw [oS_ne (ne_ix hv),oG_ne (ne_ix hv),cB_ne (ne_ix hv)]
  unfold x40l1
  dsimp only
  by_cases hvk : v = (j : Int)
  · have q : (v = (j : Int)) = True := eq_true hvk
    cases cs <;> cases f <;> (sym => (simp [Za,Zb,Zf,Zh,Zl,Zm,Zo,Zq,Zs,Zu,Zx,Z2,Z8,ZF,ZU,ZV,Yd,Yh,Yp,Yr,Yv,Yw,YK,YL,YO,YP,YQ,YT,Xd,Xe,Xh,Xi,Xj,Xl,We,Wf,Wg,Wo,Wp,Wr,Ws,Wu,Wv,Ww,Wy,W0,W3,W4,W5,WA,WB,WF,Vt,Vu,Vv,Vw,Vx,V2,V3,V4,V5,V6,V8,VC,VD,VL,VN,VO,VR,VS,VT,VU,VY,VZ,Ua,Ub,U9,UA,UE,UM,UN,UP,UR,US,UV,UY,UZ,Ta,Td,Te,Tf,Tq,Tr,Ts,Tt,a1,a2,hv,q]; all_goals tactic => exact rfl))
  · have q : (v = (j : Int)) = False := eq_false hvk
    cases cs <;> cases f <;> (sym => (simp [Za,Zb,Zf,Zh,Zl,Zm,Zo,Zq,Zs,Zu,Zx,Z2,Z8,ZF,ZU,ZV,Yd,Yh,Yp,Yr,Yv,Yw,YK,YL,YO,YP,YQ,YT,Xd,Xe,Xh,Xi,Xj,Xl,We,Wf,Wg,Wo,Wp,Wr,Ws,Wu,Wv,Ww,Wy,W0,W3,W4,W5,WA,WB,WF,Vt,Vu,Vv,Vw,Vx,V2,V3,V4,V5,V6,V8,VC,VD,VL,VN,VO,VR,VS,VT,VU,VY,VZ,Ua,Ub,U9,UA,UE,UM,UN,UP,UR,US,UV,UY,UZ,Ta,Td,Te,Tf,Tq,Tr,Ts,Tt,a1,a2,hv,q]; all_goals tactic => exact rfl))
theorem round40c (g : Good l) (hf : l.Fit) (R : List (List AV)) (x : Int) {os cs : List Int} (hl : os.length ≤ 10) {d k j : Nat} (hj : j < l.ls.length) (hd : metN os (j : Int) os.length = d.testBit j) (f r : Bool) (hr : r = (f && (d.testBit j || !(behF l.ts k).testBit j))) :
    headX 0 [1,2,5,6,7,8,9,27,28,46,47] (execW progX 40 0 none (match x40l2 with | .loop _ a => a | c => c) (envL [1,2,5,6,7,8,9,27,28,46,47] [.fs R,.pt 0 0,oS 1 os,I x,oS (cB os) cs,I (k : Nat),.bool f,I l.ls.length,I (k : Nat),I l.ls.length,I (j : Nat)]) ([some (.blk true (.cells true l.c))] ++ (oG os ++ oG cs))) =
      some ([.fs R,.pt 0 0,oS 1 os,I x,oS (cB os) cs,I (k : Nat),.bool r,I l.ls.length,I (k : Nat),I l.ls.length,I (j + 1 : Nat)],[some (.blk true (.cells true l.c))] ++ (oG os ++ oG cs)) := by
  have hn := g.few
  have a1 := lt_ix hj
  have a2 := up_ix hj (by omega)
  have z1 := U8 (n := (os.length : Int))
  have e92 := w92 hf (k : Int) (j : Int)
  rw [std_beh g] at e92
  have rd := fun i (hi : i < os.length) => round40b (l := l) R x (n := l.ls.length) (cs := cs) hl (k := k) (j := j) (List.getElem?_eq_getElem hi) f (metN os (j : Int) i) (metN os (j : Int) (i + 1)) (met_up (List.getElem?_eq_getElem hi))
  have h0 : metN os (j : Int) 0 = false := rfl
  subst hr
  generalize (behF l.ts k).testBit j = bb at *
  generalize d.testBit j = db at *
  unfold x40l2
  dsimp only
  by_cases hne : os = []
  · subst hne
    have hd : db = false := hd.symm
    subst hd
    rcases cs with _ | ⟨c,cs⟩
    · simp only [cB_0,Tq,Ts,List.append_nil]
      sym =>
        simp [Za,Zb,Zf,Zg,Zh,Zj,Zl,Zm,Zo,Zp,Zq,Zr,Zs,Zt,Zu,Zx,Z2,Z4,ZD,ZF,ZN,ZO,ZS,ZT,ZU,ZV,ZW,Yb,Yc,Yh,Yr,Y1,YK,YL,YM,YO,YP,YQ,YT,Xd,Xe,Xf,Xh,Xi,Xj,Xl,We,Wf,Wg,Wi,Wj,Wk,Wl,Wo,Wp,Wr,Ws,Wu,Wv,Ww,Wx,Wy,Wz,W0,W3,W4,W5,W6,W7,WA,WB,WF,WH,WI,WJ,WT,WV,WW,WY,WZ,Va,Vt,Vu,Vv,Vw,Vx,Vy,Vz,V2,V3,V4,V5,V6,V8,V9,VA,VD,VF,VH,VI,VJ,VL,VM,VN,VR,VS,VT,VU,VX,VY,VZ,Ua,Ub,U8,U9,UA,UD,UM,UN,UP,UQ,UR,US,UT,UV,UX,UY,UZ,Ta,Tf,TD,TE,TF,a1]
        tactic =>
          unfold x40l1
          rw [loop_rule 0 (fun i => [.fs R,.pt 0 0,.nilsl,I x,.nilsl,I (k : Nat),.bool f,I (j : Nat),.bool false,I l.ls.length,I (k : Nat),I l.ls.length,I (j : Nat),.nilsl,I 0,I (i : Nat)]) (fun _ => [some (.blk true (.cells true l.c))])]
          · cases f <;> cases bb <;> (sym => (simp [Za,Zb,Zf,Zg,Zh,Zj,Zl,Zm,Zo,Zp,Zq,Zr,Zs,Zt,Zu,Zx,Z2,Z4,ZD,ZF,ZN,ZO,ZS,ZT,ZU,ZV,ZW,Yb,Yc,Yh,Yr,Y1,YK,YL,YM,YO,YP,YQ,YT,Xd,Xe,Xf,Xh,Xi,Xj,Xl,We,Wf,Wg,Wi,Wj,Wk,Wl,Wo,Wp,Wr,Ws,Wu,Wv,Ww,Wx,Wy,Wz,W0,W3,W4,W5,W6,W7,WA,WB,WF,WH,WI,WJ,WT,WV,WW,WY,WZ,Va,Vt,Vu,Vv,Vw,Vx,Vy,Vz,V2,V3,V4,V5,V6,V8,V9,VA,VD,VF,VH,VI,VJ,VL,VM,VN,VR,VS,VT,VU,VX,VY,VZ,Ua,Ub,U8,U9,UA,UD,UM,UN,UP,UQ,UR,US,UT,UV,UX,UY,UZ,Ta,Tf,TD,TE,TF,a1,a2,e92]; all_goals tactic => exact rfl))
          · (sym => (simp [Za,Zb,Zf,Zg,Zh,Zj,Zl,Zm,Zo,Zp,Zq,Zr,Zs,Zt,Zu,Zx,Z2,Z4,ZD,ZF,ZN,ZO,ZS,ZT,ZU,ZV,ZW,Yb,Yc,Yh,Yr,Y1,YK,YL,YM,YO,YP,YQ,YT,Xd,Xe,Xf,Xh,Xi,Xj,Xl,We,Wf,Wg,Wi,Wj,Wk,Wl,Wo,Wp,Wr,Ws,Wu,Wv,Ww,Wx,Wy,Wz,W0,W3,W4,W5,W6,W7,WA,WB,WF,WH,WI,WJ,WT,WV,WW,WY,WZ,Va,Vt,Vu,Vv,Vw,Vx,Vy,Vz,V2,V3,V4,V5,V6,V8,V9,VA,VD,VF,VH,VI,VJ,VL,VM,VN,VR,VS,VT,VU,VX,VY,VZ,Ua,Ub,U8,U9,UA,UD,UM,UN,UP,UQ,UR,US,UT,UV,UX,UY,UZ,Ta,Tf,TD,TE,TF]; all_goals tactic => exact rfl))
          · exact fun i hi => absurd hi (Nat.not_lt_zero i)
          · (sym => (simp [Za,Zb,Zf,Zg,Zh,Zj,Zl,Zm,Zo,Zp,Zq,Zr,Zs,Zt,Zu,Zx,Z2,Z4,ZD,ZF,ZN,ZO,ZS,ZT,ZU,ZV,ZW,Yb,Yc,Yh,Yr,Y1,YK,YL,YM,YO,YP,YQ,YT,Xd,Xe,Xf,Xh,Xi,Xj,Xl,We,Wf,Wg,Wi,Wj,Wk,Wl,Wo,Wp,Wr,Ws,Wu,Wv,Ww,Wx,Wy,Wz,W0,W3,W4,W5,W6,W7,WA,WB,WF,WH,WI,WJ,WT,WV,WW,WY,WZ,Va,Vt,Vu,Vv,Vw,Vx,Vy,Vz,V2,V3,V4,V5,V6,V8,V9,VA,VD,VF,VH,VI,VJ,VL,VM,VN,VR,VS,VT,VU,VX,VY,VZ,Ua,Ub,U8,U9,UA,UD,UM,UN,UP,UQ,UR,US,UT,UV,UX,UY,UZ,Ta,Tf,TD,TE,TF]; all_goals tactic => exact rfl))
    · simp only [cB_0,Tq,Ts,Tr,Tt,List.cons_append,List.nil_append]
      sym =>
        simp [Za,Zb,Zf,Zg,Zh,Zj,Zl,Zm,Zo,Zp,Zq,Zr,Zs,Zt,Zu,Zx,Z2,Z4,ZD,ZF,ZN,ZO,ZS,ZT,ZU,ZV,ZW,Yb,Yc,Yh,Yr,Y1,YK,YL,YM,YO,YP,YQ,YT,Xd,Xe,Xf,Xh,Xi,Xj,Xl,We,Wf,Wg,Wi,Wj,Wk,Wl,Wo,Wp,Wr,Ws,Wu,Wv,Ww,Wx,Wy,Wz,W0,W3,W4,W5,W6,W7,WA,WB,WF,WH,WI,WJ,WT,WV,WW,WY,WZ,Va,Vt,Vu,Vv,Vw,Vx,Vy,Vz,V2,V3,V4,V5,V6,V8,V9,VA,VD,VF,VH,VI,VJ,VL,VM,VN,VR,VS,VT,VU,VX,VY,VZ,Ua,Ub,U8,U9,UA,UD,UM,UN,UP,UQ,UR,US,UT,UV,UX,UY,UZ,Ta,Tf,TD,TE,TF,a1]
        tactic =>
          unfold x40l1
          rw [loop_rule 0 (fun i => [.fs R,.pt 0 0,.nilsl,I x,.sl 1 0 1 (cs.length + 1),I (k : Nat),.bool f,I (j : Nat),.bool false,I l.ls.length,I (k : Nat),I l.ls.length,I (j : Nat),.nilsl,I 0,I (i : Nat)]) (fun _ => [some (.blk true (.cells true l.c)),some (.blk true (.cells true (I c :: cs.map I)))])]
          · cases f <;> cases bb <;> (sym => (simp [Za,Zb,Zf,Zg,Zh,Zj,Zl,Zm,Zo,Zp,Zq,Zr,Zs,Zt,Zu,Zx,Z2,Z4,ZD,ZF,ZN,ZO,ZS,ZT,ZU,ZV,ZW,Yb,Yc,Yh,Yr,Y1,YK,YL,YM,YO,YP,YQ,YT,Xd,Xe,Xf,Xh,Xi,Xj,Xl,We,Wf,Wg,Wi,Wj,Wk,Wl,Wo,Wp,Wr,Ws,Wu,Wv,Ww,Wx,Wy,Wz,W0,W3,W4,W5,W6,W7,WA,WB,WF,WH,WI,WJ,WT,WV,WW,WY,WZ,Va,Vt,Vu,Vv,Vw,Vx,Vy,Vz,V2,V3,V4,V5,V6,V8,V9,VA,VD,VF,VH,VI,VJ,VL,VM,VN,VR,VS,VT,VU,VX,VY,VZ,Ua,Ub,U8,U9,UA,UD,UM,UN,UP,UQ,UR,US,UT,UV,UX,UY,UZ,Ta,Tf,TD,TE,TF,a1,a2,e92]; all_goals tactic => exact rfl))
          · (sym => (simp [Za,Zb,Zf,Zg,Zh,Zj,Zl,Zm,Zo,Zp,Zq,Zr,Zs,Zt,Zu,Zx,Z2,Z4,ZD,ZF,ZN,ZO,ZS,ZT,ZU,ZV,ZW,Yb,Yc,Yh,Yr,Y1,YK,YL,YM,YO,YP,YQ,YT,Xd,Xe,Xf,Xh,Xi,Xj,Xl,We,Wf,Wg,Wi,Wj,Wk,Wl,Wo,Wp,Wr,Ws,Wu,Wv,Ww,Wx,Wy,Wz,W0,W3,W4,W5,W6,W7,WA,WB,WF,WH,WI,WJ,WT,WV,WW,WY,WZ,Va,Vt,Vu,Vv,Vw,Vx,Vy,Vz,V2,V3,V4,V5,V6,V8,V9,VA,VD,VF,VH,VI,VJ,VL,VM,VN,VR,VS,VT,VU,VX,VY,VZ,Ua,Ub,U8,U9,UA,UD,UM,UN,UP,UQ,UR,US,UT,UV,UX,UY,UZ,Ta,Tf,TD,TE,TF]; all_goals tactic => exact rfl))
          · exact fun i hi => absurd hi (Nat.not_lt_zero i)
          · (sym => (simp [Za,Zb,Zf,Zg,Zh,Zj,Zl,Zm,Zo,Zp,Zq,Zr,Zs,Zt,Zu,Zx,Z2,Z4,ZD,ZF,ZN,ZO,ZS,ZT,ZU,ZV,ZW,Yb,Yc,Yh,Yr,Y1,YK,YL,YM,YO,YP,YQ,YT,Xd,Xe,Xf,Xh,Xi,Xj,Xl,We,Wf,Wg,Wi,Wj,Wk,Wl,Wo,Wp,Wr,Ws,Wu,Wv,Ww,Wx,Wy,Wz,W0,W3,W4,W5,W6,W7,WA,WB,WF,WH,WI,WJ,WT,WV,WW,WY,WZ,Va,Vt,Vu,Vv,Vw,Vx,Vy,Vz,V2,V3,V4,V5,V6,V8,V9,VA,VD,VF,VH,VI,VJ,VL,VM,VN,VR,VS,VT,VU,VX,VY,VZ,Ua,Ub,U8,U9,UA,UD,UM,UN,UP,UQ,UR,US,UT,UV,UX,UY,UZ,Ta,Tf,TD,TE,TF]; all_goals tactic => exact rfl))
  · rcases cs with _ | ⟨c,cs⟩
    · simp only [oS_ne hne,oG_ne hne,cB_ne hne,Tq,Ts,List.append_nil,List.cons_append,List.nil_append] at rd ⊢
      sym =>
        simp [Za,Zb,Zf,Zg,Zh,Zj,Zl,Zm,Zo,Zp,Zq,Zr,Zs,Zt,Zu,Zx,Z2,Z4,ZD,ZF,ZN,ZO,ZS,ZT,ZU,ZV,ZW,Yb,Yc,Yh,Yr,Y1,YK,YL,YM,YO,YP,YQ,YT,Xd,Xe,Xf,Xh,Xi,Xj,Xl,We,Wf,Wg,Wi,Wj,Wk,Wl,Wo,Wp,Wr,Ws,Wu,Wv,Ww,Wx,Wy,Wz,W0,W3,W4,W5,W6,W7,WA,WB,WF,WH,WI,WJ,WT,WV,WW,WY,WZ,Va,Vt,Vu,Vv,Vw,Vx,Vy,Vz,V2,V3,V4,V5,V6,V8,V9,VA,VD,VF,VH,VI,VJ,VL,VM,VN,VR,VS,VT,VU,VX,VY,VZ,Ua,Ub,U8,U9,UA,UD,UM,UN,UP,UQ,UR,US,UT,UV,UX,UY,UZ,Ta,Tf,TD,TE,TF,a1]
        tactic =>
          unfold x40l1
          rw [loop_rule os.length (fun i => [.fs R,.pt 0 0,.sl 1 0 1 os.length,I x,.nilsl,I (k : Nat),.bool f,I (j : Nat),.bool (metN os (j : Int) i),I l.ls.length,I (k : Nat),I l.ls.length,I (j : Nat),.sl 1 0 1 os.length,I os.length,I (i : Nat)]) (fun _ => [some (.blk true (.cells true l.c)),some (.blk true (.cells true (os.map I)))])]
          · rw [hd]
            cases f <;> cases bb <;> cases db <;> (sym => (simp [Za,Zb,Zf,Zg,Zh,Zj,Zl,Zm,Zo,Zp,Zq,Zr,Zs,Zt,Zu,Zx,Z2,Z4,ZD,ZF,ZN,ZO,ZS,ZT,ZU,ZV,ZW,Yb,Yc,Yh,Yr,Y1,YK,YL,YM,YO,YP,YQ,YT,Xd,Xe,Xf,Xh,Xi,Xj,Xl,We,Wf,Wg,Wi,Wj,Wk,Wl,Wo,Wp,Wr,Ws,Wu,Wv,Ww,Wx,Wy,Wz,W0,W3,W4,W5,W6,W7,WA,WB,WF,WH,WI,WJ,WT,WV,WW,WY,WZ,Va,Vt,Vu,Vv,Vw,Vx,Vy,Vz,V2,V3,V4,V5,V6,V8,V9,VA,VD,VF,VH,VI,VJ,VL,VM,VN,VR,VS,VT,VU,VX,VY,VZ,Ua,Ub,U8,U9,UA,UD,UM,UN,UP,UQ,UR,US,UT,UV,UX,UY,UZ,Ta,Tf,TD,TE,TF,a1,a2,e92,z1]; all_goals tactic => exact rfl))
          · rw [h0]
            (sym => (simp [Za,Zb,Zf,Zg,Zh,Zj,Zl,Zm,Zo,Zp,Zq,Zr,Zs,Zt,Zu,Zx,Z2,Z4,ZD,ZF,ZN,ZO,ZS,ZT,ZU,ZV,ZW,Yb,Yc,Yh,Yr,Y1,YK,YL,YM,YO,YP,YQ,YT,Xd,Xe,Xf,Xh,Xi,Xj,Xl,We,Wf,Wg,Wi,Wj,Wk,Wl,Wo,Wp,Wr,Ws,Wu,Wv,Ww,Wx,Wy,Wz,W0,W3,W4,W5,W6,W7,WA,WB,WF,WH,WI,WJ,WT,WV,WW,WY,WZ,Va,Vt,Vu,Vv,Vw,Vx,Vy,Vz,V2,V3,V4,V5,V6,V8,V9,VA,VD,VF,VH,VI,VJ,VL,VM,VN,VR,VS,VT,VU,VX,VY,VZ,Ua,Ub,U8,U9,UA,UD,UM,UN,UP,UQ,UR,US,UT,UV,UX,UY,UZ,Ta,Tf,TD,TE,TF]; all_goals tactic => exact rfl))
          · exact rd
          · rw [hd]
            (sym => (simp [Za,Zb,Zf,Zg,Zh,Zj,Zl,Zm,Zo,Zp,Zq,Zr,Zs,Zt,Zu,Zx,Z2,Z4,ZD,ZF,ZN,ZO,ZS,ZT,ZU,ZV,ZW,Yb,Yc,Yh,Yr,Y1,YK,YL,YM,YO,YP,YQ,YT,Xd,Xe,Xf,Xh,Xi,Xj,Xl,We,Wf,Wg,Wi,Wj,Wk,Wl,Wo,Wp,Wr,Ws,Wu,Wv,Ww,Wx,Wy,Wz,W0,W3,W4,W5,W6,W7,WA,WB,WF,WH,WI,WJ,WT,WV,WW,WY,WZ,Va,Vt,Vu,Vv,Vw,Vx,Vy,Vz,V2,V3,V4,V5,V6,V8,V9,VA,VD,VF,VH,VI,VJ,VL,VM,VN,VR,VS,VT,VU,VX,VY,VZ,Ua,Ub,U8,U9,UA,UD,UM,UN,UP,UQ,UR,US,UT,UV,UX,UY,UZ,Ta,Tf,TD,TE,TF,z1]; all_goals tactic => exact rfl))
    · simp only [oS_ne hne,oG_ne hne,cB_ne hne,Tr,Tt,List.cons_append,List.nil_append] at rd ⊢
      sym =>
        simp [Za,Zb,Zf,Zg,Zh,Zj,Zl,Zm,Zo,Zp,Zq,Zr,Zs,Zt,Zu,Zx,Z2,Z4,ZD,ZF,ZN,ZO,ZS,ZT,ZU,ZV,ZW,Yb,Yc,Yh,Yr,Y1,YK,YL,YM,YO,YP,YQ,YT,Xd,Xe,Xf,Xh,Xi,Xj,Xl,We,Wf,Wg,Wi,Wj,Wk,Wl,Wo,Wp,Wr,Ws,Wu,Wv,Ww,Wx,Wy,Wz,W0,W3,W4,W5,W6,W7,WA,WB,WF,WH,WI,WJ,WT,WV,WW,WY,WZ,Va,Vt,Vu,Vv,Vw,Vx,Vy,Vz,V2,V3,V4,V5,V6,V8,V9,VA,VD,VF,VH,VI,VJ,VL,VM,VN,VR,VS,VT,VU,VX,VY,VZ,Ua,Ub,U8,U9,UA,UD,UM,UN,UP,UQ,UR,US,UT,UV,UX,UY,UZ,Ta,Tf,TD,TE,TF,a1]
        tactic =>
          unfold x40l1
          rw [loop_rule os.length (fun i => [.fs R,.pt 0 0,.sl 1 0 1 os.length,I x,.sl 2 0 1 (cs.length + 1),I (k : Nat),.bool f,I (j : Nat),.bool (metN os (j : Int) i),I l.ls.length,I (k : Nat),I l.ls.length,I (j : Nat),.sl 1 0 1 os.length,I os.length,I (i : Nat)]) (fun _ => [some (.blk true (.cells true l.c)),some (.blk true (.cells true (os.map I))),some (.blk true (.cells true (I c :: cs.map I)))])]
          · rw [hd]
            cases f <;> cases bb <;> cases db <;> (sym => (simp [Za,Zb,Zf,Zg,Zh,Zj,Zl,Zm,Zo,Zp,Zq,Zr,Zs,Zt,Zu,Zx,Z2,Z4,ZD,ZF,ZN,ZO,ZS,ZT,ZU,ZV,ZW,Yb,Yc,Yh,Yr,Y1,YK,YL,YM,YO,YP,YQ,YT,Xd,Xe,Xf,Xh,Xi,Xj,Xl,We,Wf,Wg,Wi,Wj,Wk,Wl,Wo,Wp,Wr,Ws,Wu,Wv,Ww,Wx,Wy,Wz,W0,W3,W4,W5,W6,W7,WA,WB,WF,WH,WI,WJ,WT,WV,WW,WY,WZ,Va,Vt,Vu,Vv,Vw,Vx,Vy,Vz,V2,V3,V4,V5,V6,V8,V9,VA,VD,VF,VH,VI,VJ,VL,VM,VN,VR,VS,VT,VU,VX,VY,VZ,Ua,Ub,U8,U9,UA,UD,UM,UN,UP,UQ,UR,US,UT,UV,UX,UY,UZ,Ta,Tf,TD,TE,TF,a1,a2,e92,z1]; all_goals tactic => exact rfl))
          · rw [h0]
            (sym => (simp [Za,Zb,Zf,Zg,Zh,Zj,Zl,Zm,Zo,Zp,Zq,Zr,Zs,Zt,Zu,Zx,Z2,Z4,ZD,ZF,ZN,ZO,ZS,ZT,ZU,ZV,ZW,Yb,Yc,Yh,Yr,Y1,YK,YL,YM,YO,YP,YQ,YT,Xd,Xe,Xf,Xh,Xi,Xj,Xl,We,Wf,Wg,Wi,Wj,Wk,Wl,Wo,Wp,Wr,Ws,Wu,Wv,Ww,Wx,Wy,Wz,W0,W3,W4,W5,W6,W7,WA,WB,WF,WH,WI,WJ,WT,WV,WW,WY,WZ,Va,Vt,Vu,Vv,Vw,Vx,Vy,Vz,V2,V3,V4,V5,V6,V8,V9,VA,VD,VF,VH,VI,VJ,VL,VM,VN,VR,VS,VT,VU,VX,VY,VZ,Ua,Ub,U8,U9,UA,UD,UM,UN,UP,UQ,UR,US,UT,UV,UX,UY,UZ,Ta,Tf,TD,TE,TF]; all_goals tactic => exact rfl))
          · exact rd
          · rw [hd]
            (sym => (simp [Za,Zb,Zf,Zg,Zh,Zj,Zl,Zm,Zo,Zp,Zq,Zr,Zs,Zt,Zu,Zx,Z2,Z4,ZD,ZF,ZN,ZO,ZS,ZT,ZU,ZV,ZW,Yb,Yc,Yh,Yr,Y1,YK,YL,YM,YO,YP,YQ,YT,Xd,Xe,Xf,Xh,Xi,Xj,Xl,We,Wf,Wg,Wi,Wj,Wk,Wl,Wo,Wp,Wr,Ws,Wu,Wv,Ww,Wx,Wy,Wz,W0,W3,W4,W5,W6,W7,WA,WB,WF,WH,WI,WJ,WT,WV,WW,WY,WZ,Va,Vt,Vu,Vv,Vw,Vx,Vy,Vz,V2,V3,V4,V5,V6,V8,V9,VA,VD,VF,VH,VI,VJ,VL,VM,VN,VR,VS,VT,VU,VX,VY,VZ,Ua,Ub,U8,U9,UA,UD,UM,UN,UP,UQ,UR,US,UT,UV,UX,UY,UZ,Ta,Tf,TD,TE,TF,z1]; all_goals tactic => exact rfl))
end
end Go.Proofs.YtpbeclkpohehgaaDoor
namespace Go.Proofs.YtpbeclkpohehgaaDoor
open Go Go.DL
set_option maxRecDepth 100000
set_option maxHeartbeats 4000000

def nxL (n : Nat) (b : Nat → Nat) (d : Nat) : List Nat := (List.range n).filter (canB b d)
def pkO (us : List Nat) (n : Nat) (b : Nat → Nat) (d i : Nat) : Nat := (nxL n b d).getD (us.getD i 0 % (nxL n b d).length) 0
def byS (us : List Nat) (n : Nat) (b : Nat → Nat) : Nat → Nat × List Nat
  | 0 => (0,[])
  | i + 1 => ((byS us n b i).1 ||| 2 ^ pkO us n b (byS us n b i).1 i,(byS us n b i).2 ++ [pkO us n b (byS us n b i).1 i])
def byO (us : List Nat) (n : Nat) (b : Nat → Nat) : List Nat := (byS us n b n).2
theorem nx_ne {l : Li} {b : Nat → Nat} (p : Prec l.ls.length b) (hn : l.ls.length ≤ 10) {d : Nat} (hd : d < 2 ^ l.ls.length) (hm : pop d l.ls.length < l.ls.length) : 0 < (nxL l.ls.length b d).length := by
  obtain ⟨k,h1,h2⟩ := can_ex p hn hd hm
  exact List.length_pos_of_mem (nx_mem.2 ⟨h1,h2⟩ : k ∈ nxL l.ls.length b d)
theorem pk_can {us : List Nat} {l : Li} {b : Nat → Nat} (p : Prec l.ls.length b) (hn : l.ls.length ≤ 10) {d i : Nat} (hd : d < 2 ^ l.ls.length) (hm : pop d l.ls.length < l.ls.length) : (nxL l.ls.length b d)[us.getD i 0 % (nxL l.ls.length b d).length]? = some (pkO us l.ls.length b d i) ∧ pkO us l.ls.length b d i < l.ls.length ∧ canB b d (pkO us l.ls.length b d i) = true := by
  have h := nx_ne p hn hd hm
  obtain ⟨x,hx⟩ := at_ix (Nat.mod_lt (us.getD i 0) h)
  have e : pkO us l.ls.length b d i = x := getD_of hx
  rw [e]
  exact ⟨hx,nx_mem.1 (List.mem_of_getElem? hx)⟩
theorem by_st (us : List Nat) {l : Li} {b : Nat → Nat} (p : Prec l.ls.length b) (hn : l.ls.length ≤ 10) : ∀ i,i ≤ l.ls.length → (byS us l.ls.length b i).1 < 2 ^ l.ls.length ∧ pop (byS us l.ls.length b i).1 l.ls.length = i ∧ (byS us l.ls.length b i).2.length = i ∧ (∀ k ∈ (byS us l.ls.length b i).2,k < l.ls.length) ∧ (byS us l.ls.length b i).1 = allT (ofN (byS us l.ls.length b i).2) 0 i ∧ ∀ ks,vld l.ls.length b (byS us l.ls.length b i).1 ks → vld l.ls.length b 0 ((byS us l.ls.length b i).2 ++ ks)
  | 0,_ => ⟨Nat.two_pow_pos _,pop_0 _,rfl,fun k hk => by simp [byS] at hk,rfl,fun ks h => h⟩
  | i + 1,hi => by
    obtain ⟨h1,h2,h3,h4,h5,h6⟩ := by_st us p hn i (by omega)
    obtain ⟨_,q1,q2⟩ := pk_can (us := us) (i := i) p hn h1 (by omega)
    have h7 := (pop_or (can_bit q2) l.ls.length).1 q1
    refine ⟨or_lt h1 q1,by show pop (_ ||| _) l.ls.length = _; omega,by rw [byS,List.length_append,h3]; rfl,fun k hk => ?_,?_,fun ks h => ?_⟩
    · rcases List.mem_append.1 hk with h | h
      · exact h4 k h
      · rw [List.mem_singleton] at h; omega
    · have e := allT_snoc (ofN (byS us l.ls.length b i).2) (pkO us l.ls.length b (byS us l.ls.length b i).1 i)
      have e2 : ofN (byS us l.ls.length b i).2 ++ [(pkO us l.ls.length b (byS us l.ls.length b i).1 i : Int)] = ofN (byS us l.ls.length b (i + 1)).2 := by unfold ofN; rw [byS,List.map_append]; rfl
      have e3 : (ofN (byS us l.ls.length b (i + 1)).2).length = i + 1 := by unfold ofN; rw [List.length_map]; rw [byS,List.length_append,h3]; rfl
      have e4 : (ofN (byS us l.ls.length b i).2).length = i := by unfold ofN; rw [List.length_map]; exact h3
      rw [e2,e3,e4,← h5] at e
      exact e.symm
    · have := h6 (pkO us l.ls.length b (byS us l.ls.length b i).1 i :: ks) ⟨q1,q2,h⟩
      show vld l.ls.length b 0 ((_ ++ [_]) ++ ks)
      rw [List.append_assoc]
      exact this
theorem by_vld (us : List Nat) {l : Li} {b : Nat → Nat} (p : Prec l.ls.length b) (hn : l.ls.length ≤ 10) : vld l.ls.length b 0 (byO us l.ls.length b) := by
  obtain ⟨h1,h2,h3,h4,h5,h6⟩ := by_st us p hn _ (Nat.le_refl _)
  have := h6 [] h2
  rw [List.append_nil] at this
  exact this
def nxK (b : Nat → Nat) (d k : Nat) : List Nat := (List.range k).filter (canB b d)
theorem nxK_up (b : Nat → Nat) (d k : Nat) : nxK b d (k + 1) = if canB b d k = true then nxK b d k ++ [k] else nxK b d k := by
  unfold nxK
  rw [List.range_succ,List.filter_append]
  cases h : canB b d k <;> simp [h]
theorem nxK_len (b : Nat → Nat) (d k : Nat) : (nxK b d k).length ≤ k := by
  have := List.length_filter_le (canB b d) (List.range k)
  rw [List.length_range] at this
  exact this
end Go.Proofs.YtpbeclkpohehgaaDoor
namespace Go.Proofs.YtpbeclkpohehgaaDoor
open Go Go.DL
set_option maxRecDepth 100000
set_option maxHeartbeats 4000000
section
variable {l : Li}
theorem round40d (g : Good l) (hf : l.Fit) (R : List (List AV)) (x : Int) {os cs : List Int} (hl : os.length ≤ 10) (hcl : cs.length ≤ 10) {d k : Nat} (hk : k < l.ls.length) (hd : ∀ j : Nat,metN os (j : Int) os.length = d.testBit j) {c : Bool} (hc : cnN (behF l.ts) d k l.ls.length = c) :
    headX 0 [1,2,5,6,7,27,28] (execW progX 40 0 none (match x40l3 with | .loop _ a => a | c => c) (envL [1,2,5,6,7,27,28] [.fs R,.pt 0 0,oS 1 os,I x,oS (cB os) cs,I l.ls.length,I (k : Nat)]) ([some (.blk true (.cells true l.c))] ++ (oG os ++ oG cs))) =
      some ([.fs R,.pt 0 0,oS 1 os,I x,oS (cB os) (if c then cs ++ [(k : Int)] else cs),I l.ls.length,I (k + 1 : Nat)],[some (.blk true (.cells true l.c))] ++ (oG os ++ oG (if c then cs ++ [(k : Int)] else cs))) := by
  have hn := g.few
  have a1 := lt_ix hk
  have a2 := up_ix hk (by omega)
  have z := U8 (n := (l.ls.length : Int))
  have z1 := U8 (n := (os.length : Int))
  have m0 : metN os (k : Int) 0 = false := rfl
  have cn0 : (!d.testBit k) = cnN (behF l.ts) d k 0 := rfl
  have rd0 := fun i (hi : i < os.length) => round40a (l := l) R x (n := l.ls.length) (cs := cs) hl (k := k) (List.getElem?_eq_getElem hi) (!metN os (k : Int) i) (!metN os (k : Int) (i + 1)) (by rw [met_up (List.getElem?_eq_getElem hi),Bool.not_or])
  have rd2 := fun j (hj : j < l.ls.length) => round40c g hf R x (cs := cs) hl (k := k) hj (hd j) (cnN (behF l.ts) d k j) (cnN (behF l.ts) d k (j + 1)) rfl
  generalize behF l.ts = b at *
  unfold x40l3
  dsimp only
  by_cases hne : os = []
  · subst hne
    have hd0 := hd k
    rcases cs with _ | ⟨e,cs⟩
    · simp only [cB_0,Tq,Ts,Tr,Tt,List.append_nil,List.cons_append,List.nil_append] at rd0 rd2 ⊢
      sym =>
        simp [Za,Zb,Zd,Ze,Zf,Zh,Zl,Zm,Zn,Zu,Z0,Z2,Z6,ZD,ZF,ZR,ZY,Ya,Yb,Yc,Yh,Yr,Y1,YK,YL,YO,YP,YQ,YT,YX,Xd,Xe,Xh,Xi,Xj,Xl,XW,We,Wf,Wg,Wh,Wi,Wj,Wk,Wl,Wn,Wo,Wp,Wr,Ws,Wu,Wv,Ww,Wy,W0,W3,W4,W5,WA,WB,WF,Vt,Vu,Vv,Vw,Vx,Vy,Vz,V1,V2,V3,V4,V5,V6,V8,V9,VA,VB,VD,VF,VJ,VO,VR,VS,VT,VU,VV,VW,VY,VZ,Ua,Ub,Uc,Ud,Uk,Ul,Um,Un,Uv,Uw,Ux,Uy,U2,U3,U4,U5,U6,U7,U8,U9,UA,UE,UH,UI,UJ,UK,UL,UM,UN,UP,UQ,UR,US,UT,UV,UX,UY,UZ,Ta,Tb,Tc,Td,Tf,Ti,Tq,Tr,Ts,Tt,a1]
        tactic =>
          unfold x40l0
          rw [loop_rule 0 (fun i => [.fs R,.pt 0 0,.nilsl,I x,.nilsl,I (k : Nat),.bool (!metN [] (k : Int) i),I l.ls.length,I (k : Nat),.nilsl,I 0,I (i : Nat)]) (fun _ => [some (.blk true (.cells true l.c))])]
          · rw [show metN [] (k : Int) 0 = d.testBit k from hd0,cn0]
            sym =>
              simp [Za,Zb,Zd,Ze,Zf,Zh,Zl,Zm,Zn,Zu,Z0,Z2,Z6,ZD,ZF,ZR,ZY,Ya,Yb,Yc,Yh,Yr,Y1,YK,YL,YO,YP,YQ,YT,YX,Xd,Xe,Xh,Xi,Xj,Xl,XW,We,Wf,Wg,Wh,Wi,Wj,Wk,Wl,Wn,Wo,Wp,Wr,Ws,Wu,Wv,Ww,Wy,W0,W3,W4,W5,WA,WB,WF,Vt,Vu,Vv,Vw,Vx,Vy,Vz,V1,V2,V3,V4,V5,V6,V8,V9,VA,VB,VD,VF,VJ,VO,VR,VS,VT,VU,VV,VW,VY,VZ,Ua,Ub,Uc,Ud,Uk,Ul,Um,Un,Uv,Uw,Ux,Uy,U2,U3,U4,U5,U6,U7,U8,U9,UA,UE,UH,UI,UJ,UK,UL,UM,UN,UP,UQ,UR,US,UT,UV,UX,UY,UZ,Ta,Tb,Tc,Td,Tf,Ti,Tq,Tr,Ts,Tt,z1]
              tactic =>
                unfold x40l2
                rw [loop_rule l.ls.length (fun j => [.fs R,.pt 0 0,.nilsl,I x,.nilsl,I (k : Nat),.bool (cnN b d k j),I l.ls.length,I (k : Nat),I l.ls.length,I (j : Nat)]) (fun _ => [some (.blk true (.cells true l.c))])]
                · rw [hc]
                  cases c
                  · (sym => (simp [Za,Zb,Zd,Ze,Zf,Zh,Zl,Zm,Zn,Zu,Z0,Z2,Z6,ZD,ZF,ZR,ZY,Ya,Yb,Yc,Yh,Yr,Y1,YK,YL,YO,YP,YQ,YT,YX,Xd,Xe,Xh,Xi,Xj,Xl,XW,We,Wf,Wg,Wh,Wi,Wj,Wk,Wl,Wn,Wo,Wp,Wr,Ws,Wu,Wv,Ww,Wy,W0,W3,W4,W5,WA,WB,WF,Vt,Vu,Vv,Vw,Vx,Vy,Vz,V1,V2,V3,V4,V5,V6,V8,V9,VA,VB,VD,VF,VJ,VO,VR,VS,VT,VU,VV,VW,VY,VZ,Ua,Ub,Uc,Ud,Uk,Ul,Um,Un,Uv,Uw,Ux,Uy,U2,U3,U4,U5,U6,U7,U8,U9,UA,UE,UH,UI,UJ,UK,UL,UM,UN,UP,UQ,UR,US,UT,UV,UX,UY,UZ,Ta,Tb,Tc,Td,Tf,Ti,Tq,Tr,Ts,Tt,a1,a2,z]; all_goals tactic => exact rfl))
                  · (sym => (simp [Za,Zb,Zd,Ze,Zf,Zh,Zl,Zm,Zn,Zu,Z0,Z2,Z6,ZD,ZF,ZR,ZY,Ya,Yb,Yc,Yh,Yr,Y1,YK,YL,YO,YP,YQ,YT,YX,Xd,Xe,Xh,Xi,Xj,Xl,XW,We,Wf,Wg,Wh,Wi,Wj,Wk,Wl,Wn,Wo,Wp,Wr,Ws,Wu,Wv,Ww,Wy,W0,W3,W4,W5,WA,WB,WF,Vt,Vu,Vv,Vw,Vx,Vy,Vz,V1,V2,V3,V4,V5,V6,V8,V9,VA,VB,VD,VF,VJ,VO,VR,VS,VT,VU,VV,VW,VY,VZ,Ua,Ub,Uc,Ud,Uk,Ul,Um,Un,Uv,Uw,Ux,Uy,U2,U3,U4,U5,U6,U7,U8,U9,UA,UE,UH,UI,UJ,UK,UL,UM,UN,UP,UQ,UR,US,UT,UV,UX,UY,UZ,Ta,Tb,Tc,Td,Tf,Ti,Tq,Tr,Ts,Tt,a1,a2,z]; all_goals tactic => exact rfl))
                · (sym => (simp [Za,Zb,Zd,Ze,Zf,Zh,Zl,Zm,Zn,Zu,Z0,Z2,Z6,ZD,ZF,ZR,ZY,Ya,Yb,Yc,Yh,Yr,Y1,YK,YL,YO,YP,YQ,YT,YX,Xd,Xe,Xh,Xi,Xj,Xl,XW,We,Wf,Wg,Wh,Wi,Wj,Wk,Wl,Wn,Wo,Wp,Wr,Ws,Wu,Wv,Ww,Wy,W0,W3,W4,W5,WA,WB,WF,Vt,Vu,Vv,Vw,Vx,Vy,Vz,V1,V2,V3,V4,V5,V6,V8,V9,VA,VB,VD,VF,VJ,VO,VR,VS,VT,VU,VV,VW,VY,VZ,Ua,Ub,Uc,Ud,Uk,Ul,Um,Un,Uv,Uw,Ux,Uy,U2,U3,U4,U5,U6,U7,U8,U9,UA,UE,UH,UI,UJ,UK,UL,UM,UN,UP,UQ,UR,US,UT,UV,UX,UY,UZ,Ta,Tb,Tc,Td,Tf,Ti,Tq,Tr,Ts,Tt]; all_goals tactic => exact rfl))
                · exact rd2
                · rw [hc]
                  (sym => (simp [Za,Zb,Zd,Ze,Zf,Zh,Zl,Zm,Zn,Zu,Z0,Z2,Z6,ZD,ZF,ZR,ZY,Ya,Yb,Yc,Yh,Yr,Y1,YK,YL,YO,YP,YQ,YT,YX,Xd,Xe,Xh,Xi,Xj,Xl,XW,We,Wf,Wg,Wh,Wi,Wj,Wk,Wl,Wn,Wo,Wp,Wr,Ws,Wu,Wv,Ww,Wy,W0,W3,W4,W5,WA,WB,WF,Vt,Vu,Vv,Vw,Vx,Vy,Vz,V1,V2,V3,V4,V5,V6,V8,V9,VA,VB,VD,VF,VJ,VO,VR,VS,VT,VU,VV,VW,VY,VZ,Ua,Ub,Uc,Ud,Uk,Ul,Um,Un,Uv,Uw,Ux,Uy,U2,U3,U4,U5,U6,U7,U8,U9,UA,UE,UH,UI,UJ,UK,UL,UM,UN,UP,UQ,UR,US,UT,UV,UX,UY,UZ,Ta,Tb,Tc,Td,Tf,Ti,Tq,Tr,Ts,Tt,z]; all_goals tactic => exact rfl))
          · rw [m0]
            (sym => (simp [Za,Zb,Zd,Ze,Zf,Zh,Zl,Zm,Zn,Zu,Z0,Z2,Z6,ZD,ZF,ZR,ZY,Ya,Yb,Yc,Yh,Yr,Y1,YK,YL,YO,YP,YQ,YT,YX,Xd,Xe,Xh,Xi,Xj,Xl,XW,We,Wf,Wg,Wh,Wi,Wj,Wk,Wl,Wn,Wo,Wp,Wr,Ws,Wu,Wv,Ww,Wy,W0,W3,W4,W5,WA,WB,WF,Vt,Vu,Vv,Vw,Vx,Vy,Vz,V1,V2,V3,V4,V5,V6,V8,V9,VA,VB,VD,VF,VJ,VO,VR,VS,VT,VU,VV,VW,VY,VZ,Ua,Ub,Uc,Ud,Uk,Ul,Um,Un,Uv,Uw,Ux,Uy,U2,U3,U4,U5,U6,U7,U8,U9,UA,UE,UH,UI,UJ,UK,UL,UM,UN,UP,UQ,UR,US,UT,UV,UX,UY,UZ,Ta,Tb,Tc,Td,Tf,Ti,Tq,Tr,Ts,Tt]; all_goals tactic => exact rfl))
          · exact fun i hi => absurd hi (Nat.not_lt_zero i)
          · rw [show metN [] (k : Int) 0 = d.testBit k from hd0]
            (sym => (simp [Za,Zb,Zd,Ze,Zf,Zh,Zl,Zm,Zn,Zu,Z0,Z2,Z6,ZD,ZF,ZR,ZY,Ya,Yb,Yc,Yh,Yr,Y1,YK,YL,YO,YP,YQ,YT,YX,Xd,Xe,Xh,Xi,Xj,Xl,XW,We,Wf,Wg,Wh,Wi,Wj,Wk,Wl,Wn,Wo,Wp,Wr,Ws,Wu,Wv,Ww,Wy,W0,W3,W4,W5,WA,WB,WF,Vt,Vu,Vv,Vw,Vx,Vy,Vz,V1,V2,V3,V4,V5,V6,V8,V9,VA,VB,VD,VF,VJ,VO,VR,VS,VT,VU,VV,VW,VY,VZ,Ua,Ub,Uc,Ud,Uk,Ul,Um,Un,Uv,Uw,Ux,Uy,U2,U3,U4,U5,U6,U7,U8,U9,UA,UE,UH,UI,UJ,UK,UL,UM,UN,UP,UQ,UR,US,UT,UV,UX,UY,UZ,Ta,Tb,Tc,Td,Tf,Ti,Tq,Tr,Ts,Tt,z1]; all_goals tactic => exact rfl))
    · simp only [cB_0,Tq,Ts,Tr,Tt,List.append_nil,List.cons_append,List.nil_append] at rd0 rd2 ⊢
      rw [List.length_cons] at hcl
      have q1 : ((cs.length + 1 + 1) * 8 ≤ 1099511627776) = True := eq_true (by omega)
      have q2 : (cs.length + 1 + 1 ≤ 1099511627776) = True := eq_true (by omega)
      sym =>
        simp [Za,Zb,Zd,Ze,Zf,Zh,Zl,Zm,Zn,Zu,Z0,Z2,Z6,ZD,ZF,ZR,ZY,Ya,Yb,Yc,Yh,Yr,Y1,YK,YL,YO,YP,YQ,YT,YX,Xd,Xe,Xh,Xi,Xj,Xl,XW,We,Wf,Wg,Wh,Wi,Wj,Wk,Wl,Wn,Wo,Wp,Wr,Ws,Wu,Wv,Ww,Wy,W0,W3,W4,W5,WA,WB,WF,Vt,Vu,Vv,Vw,Vx,Vy,Vz,V1,V2,V3,V4,V5,V6,V8,V9,VA,VB,VD,VF,VJ,VO,VR,VS,VT,VU,VV,VW,VY,VZ,Ua,Ub,Uc,Ud,Uk,Ul,Um,Un,Uv,Uw,Ux,Uy,U2,U3,U4,U5,U6,U7,U8,U9,UA,UE,UH,UI,UJ,UK,UL,UM,UN,UP,UQ,UR,US,UT,UV,UX,UY,UZ,Ta,Tb,Tc,Td,Tf,Ti,Tq,Tr,Ts,Tt,a1]
        tactic =>
          unfold x40l0
          rw [loop_rule 0 (fun i => [.fs R,.pt 0 0,.nilsl,I x,.sl 1 0 1 (cs.length + 1),I (k : Nat),.bool (!metN [] (k : Int) i),I l.ls.length,I (k : Nat),.nilsl,I 0,I (i : Nat)]) (fun _ => [some (.blk true (.cells true l.c)),some (.blk true (.cells true (I e :: cs.map I)))])]
          · rw [show metN [] (k : Int) 0 = d.testBit k from hd0,cn0]
            sym =>
              simp [Za,Zb,Zd,Ze,Zf,Zh,Zl,Zm,Zn,Zu,Z0,Z2,Z6,ZD,ZF,ZR,ZY,Ya,Yb,Yc,Yh,Yr,Y1,YK,YL,YO,YP,YQ,YT,YX,Xd,Xe,Xh,Xi,Xj,Xl,XW,We,Wf,Wg,Wh,Wi,Wj,Wk,Wl,Wn,Wo,Wp,Wr,Ws,Wu,Wv,Ww,Wy,W0,W3,W4,W5,WA,WB,WF,Vt,Vu,Vv,Vw,Vx,Vy,Vz,V1,V2,V3,V4,V5,V6,V8,V9,VA,VB,VD,VF,VJ,VO,VR,VS,VT,VU,VV,VW,VY,VZ,Ua,Ub,Uc,Ud,Uk,Ul,Um,Un,Uv,Uw,Ux,Uy,U2,U3,U4,U5,U6,U7,U8,U9,UA,UE,UH,UI,UJ,UK,UL,UM,UN,UP,UQ,UR,US,UT,UV,UX,UY,UZ,Ta,Tb,Tc,Td,Tf,Ti,Tq,Tr,Ts,Tt,z1]
              tactic =>
                unfold x40l2
                rw [loop_rule l.ls.length (fun j => [.fs R,.pt 0 0,.nilsl,I x,.sl 1 0 1 (cs.length + 1),I (k : Nat),.bool (cnN b d k j),I l.ls.length,I (k : Nat),I l.ls.length,I (j : Nat)]) (fun _ => [some (.blk true (.cells true l.c)),some (.blk true (.cells true (I e :: cs.map I)))])]
                · rw [hc]
                  cases c
                  · (sym => (simp [Za,Zb,Zd,Ze,Zf,Zh,Zl,Zm,Zn,Zu,Z0,Z2,Z6,ZD,ZF,ZR,ZY,Ya,Yb,Yc,Yh,Yr,Y1,YK,YL,YO,YP,YQ,YT,YX,Xd,Xe,Xh,Xi,Xj,Xl,XW,We,Wf,Wg,Wh,Wi,Wj,Wk,Wl,Wn,Wo,Wp,Wr,Ws,Wu,Wv,Ww,Wy,W0,W3,W4,W5,WA,WB,WF,Vt,Vu,Vv,Vw,Vx,Vy,Vz,V1,V2,V3,V4,V5,V6,V8,V9,VA,VB,VD,VF,VJ,VO,VR,VS,VT,VU,VV,VW,VY,VZ,Ua,Ub,Uc,Ud,Uk,Ul,Um,Un,Uv,Uw,Ux,Uy,U2,U3,U4,U5,U6,U7,U8,U9,UA,UE,UH,UI,UJ,UK,UL,UM,UN,UP,UQ,UR,US,UT,UV,UX,UY,UZ,Ta,Tb,Tc,Td,Tf,Ti,Tq,Tr,Ts,Tt,a1,a2,z,q1,q2]; all_goals tactic => exact rfl))
                  · (sym => (simp [Za,Zb,Zd,Ze,Zf,Zh,Zl,Zm,Zn,Zu,Z0,Z2,Z6,ZD,ZF,ZR,ZY,Ya,Yb,Yc,Yh,Yr,Y1,YK,YL,YO,YP,YQ,YT,YX,Xd,Xe,Xh,Xi,Xj,Xl,XW,We,Wf,Wg,Wh,Wi,Wj,Wk,Wl,Wn,Wo,Wp,Wr,Ws,Wu,Wv,Ww,Wy,W0,W3,W4,W5,WA,WB,WF,Vt,Vu,Vv,Vw,Vx,Vy,Vz,V1,V2,V3,V4,V5,V6,V8,V9,VA,VB,VD,VF,VJ,VO,VR,VS,VT,VU,VV,VW,VY,VZ,Ua,Ub,Uc,Ud,Uk,Ul,Um,Un,Uv,Uw,Ux,Uy,U2,U3,U4,U5,U6,U7,U8,U9,UA,UE,UH,UI,UJ,UK,UL,UM,UN,UP,UQ,UR,US,UT,UV,UX,UY,UZ,Ta,Tb,Tc,Td,Tf,Ti,Tq,Tr,Ts,Tt,a1,a2,z,q1,q2]; all_goals tactic => exact rfl))
                · (sym => (simp [Za,Zb,Zd,Ze,Zf,Zh,Zl,Zm,Zn,Zu,Z0,Z2,Z6,ZD,ZF,ZR,ZY,Ya,Yb,Yc,Yh,Yr,Y1,YK,YL,YO,YP,YQ,YT,YX,Xd,Xe,Xh,Xi,Xj,Xl,XW,We,Wf,Wg,Wh,Wi,Wj,Wk,Wl,Wn,Wo,Wp,Wr,Ws,Wu,Wv,Ww,Wy,W0,W3,W4,W5,WA,WB,WF,Vt,Vu,Vv,Vw,Vx,Vy,Vz,V1,V2,V3,V4,V5,V6,V8,V9,VA,VB,VD,VF,VJ,VO,VR,VS,VT,VU,VV,VW,VY,VZ,Ua,Ub,Uc,Ud,Uk,Ul,Um,Un,Uv,Uw,Ux,Uy,U2,U3,U4,U5,U6,U7,U8,U9,UA,UE,UH,UI,UJ,UK,UL,UM,UN,UP,UQ,UR,US,UT,UV,UX,UY,UZ,Ta,Tb,Tc,Td,Tf,Ti,Tq,Tr,Ts,Tt]; all_goals tactic => exact rfl))
                · exact rd2
                · rw [hc]
                  (sym => (simp [Za,Zb,Zd,Ze,Zf,Zh,Zl,Zm,Zn,Zu,Z0,Z2,Z6,ZD,ZF,ZR,ZY,Ya,Yb,Yc,Yh,Yr,Y1,YK,YL,YO,YP,YQ,YT,YX,Xd,Xe,Xh,Xi,Xj,Xl,XW,We,Wf,Wg,Wh,Wi,Wj,Wk,Wl,Wn,Wo,Wp,Wr,Ws,Wu,Wv,Ww,Wy,W0,W3,W4,W5,WA,WB,WF,Vt,Vu,Vv,Vw,Vx,Vy,Vz,V1,V2,V3,V4,V5,V6,V8,V9,VA,VB,VD,VF,VJ,VO,VR,VS,VT,VU,VV,VW,VY,VZ,Ua,Ub,Uc,Ud,Uk,Ul,Um,Un,Uv,Uw,Ux,Uy,U2,U3,U4,U5,U6,U7,U8,U9,UA,UE,UH,UI,UJ,UK,UL,UM,UN,UP,UQ,UR,US,UT,UV,UX,UY,UZ,Ta,Tb,Tc,Td,Tf,Ti,Tq,Tr,Ts,Tt,z]; all_goals tactic => exact rfl))
          · rw [m0]
            (sym => (simp [Za,Zb,Zd,Ze,Zf,Zh,Zl,Zm,Zn,Zu,Z0,Z2,Z6,ZD,ZF,ZR,ZY,Ya,Yb,Yc,Yh,Yr,Y1,YK,YL,YO,YP,YQ,YT,YX,Xd,Xe,Xh,Xi,Xj,Xl,XW,We,Wf,Wg,Wh,Wi,Wj,Wk,Wl,Wn,Wo,Wp,Wr,Ws,Wu,Wv,Ww,Wy,W0,W3,W4,W5,WA,WB,WF,Vt,Vu,Vv,Vw,Vx,Vy,Vz,V1,V2,V3,V4,V5,V6,V8,V9,VA,VB,VD,VF,VJ,VO,VR,VS,VT,VU,VV,VW,VY,VZ,Ua,Ub,Uc,Ud,Uk,Ul,Um,Un,Uv,Uw,Ux,Uy,U2,U3,U4,U5,U6,U7,U8,U9,UA,UE,UH,UI,UJ,UK,UL,UM,UN,UP,UQ,UR,US,UT,UV,UX,UY,UZ,Ta,Tb,Tc,Td,Tf,Ti,Tq,Tr,Ts,Tt]; all_goals tactic => exact rfl))
          · exact fun i hi => absurd hi (Nat.not_lt_zero i)
          · rw [show metN [] (k : Int) 0 = d.testBit k from hd0]
            (sym => (simp [Za,Zb,Zd,Ze,Zf,Zh,Zl,Zm,Zn,Zu,Z0,Z2,Z6,ZD,ZF,ZR,ZY,Ya,Yb,Yc,Yh,Yr,Y1,YK,YL,YO,YP,YQ,YT,YX,Xd,Xe,Xh,Xi,Xj,Xl,XW,We,Wf,Wg,Wh,Wi,Wj,Wk,Wl,Wn,Wo,Wp,Wr,Ws,Wu,Wv,Ww,Wy,W0,W3,W4,W5,WA,WB,WF,Vt,Vu,Vv,Vw,Vx,Vy,Vz,V1,V2,V3,V4,V5,V6,V8,V9,VA,VB,VD,VF,VJ,VO,VR,VS,VT,VU,VV,VW,VY,VZ,Ua,Ub,Uc,Ud,Uk,Ul,Um,Un,Uv,Uw,Ux,Uy,U2,U3,U4,U5,U6,U7,U8,U9,UA,UE,UH,UI,UJ,UK,UL,UM,UN,UP,UQ,UR,US,UT,UV,UX,UY,UZ,Ta,Tb,Tc,Td,Tf,Ti,Tq,Tr,Ts,Tt,z1]; all_goals tactic => exact rfl))
  · rcases cs with _ | ⟨e,cs⟩
    · simp only [oS_ne hne,oG_ne hne,cB_ne hne,Tq,Ts,Tr,Tt,List.append_nil,List.cons_append,List.nil_append] at rd0 rd2 ⊢
      sym =>
        simp [Za,Zb,Zd,Ze,Zf,Zh,Zl,Zm,Zn,Zu,Z0,Z2,Z6,ZD,ZF,ZR,ZY,Ya,Yb,Yc,Yh,Yr,Y1,YK,YL,YO,YP,YQ,YT,YX,Xd,Xe,Xh,Xi,Xj,Xl,XW,We,Wf,Wg,Wh,Wi,Wj,Wk,Wl,Wn,Wo,Wp,Wr,Ws,Wu,Wv,Ww,Wy,W0,W3,W4,W5,WA,WB,WF,Vt,Vu,Vv,Vw,Vx,Vy,Vz,V1,V2,V3,V4,V5,V6,V8,V9,VA,VB,VD,VF,VJ,VO,VR,VS,VT,VU,VV,VW,VY,VZ,Ua,Ub,Uc,Ud,Uk,Ul,Um,Un,Uv,Uw,Ux,Uy,U2,U3,U4,U5,U6,U7,U8,U9,UA,UE,UH,UI,UJ,UK,UL,UM,UN,UP,UQ,UR,US,UT,UV,UX,UY,UZ,Ta,Tb,Tc,Td,Tf,Ti,Tq,Tr,Ts,Tt,a1]
        tactic =>
          unfold x40l0
          rw [loop_rule os.length (fun i => [.fs R,.pt 0 0,.sl 1 0 1 os.length,I x,.nilsl,I (k : Nat),.bool (!metN os (k : Int) i),I l.ls.length,I (k : Nat),.sl 1 0 1 os.length,I os.length,I (i : Nat)]) (fun _ => [some (.blk true (.cells true l.c)),some (.blk true (.cells true (os.map I)))])]
          · rw [hd k,cn0]
            sym =>
              simp [Za,Zb,Zd,Ze,Zf,Zh,Zl,Zm,Zn,Zu,Z0,Z2,Z6,ZD,ZF,ZR,ZY,Ya,Yb,Yc,Yh,Yr,Y1,YK,YL,YO,YP,YQ,YT,YX,Xd,Xe,Xh,Xi,Xj,Xl,XW,We,Wf,Wg,Wh,Wi,Wj,Wk,Wl,Wn,Wo,Wp,Wr,Ws,Wu,Wv,Ww,Wy,W0,W3,W4,W5,WA,WB,WF,Vt,Vu,Vv,Vw,Vx,Vy,Vz,V1,V2,V3,V4,V5,V6,V8,V9,VA,VB,VD,VF,VJ,VO,VR,VS,VT,VU,VV,VW,VY,VZ,Ua,Ub,Uc,Ud,Uk,Ul,Um,Un,Uv,Uw,Ux,Uy,U2,U3,U4,U5,U6,U7,U8,U9,UA,UE,UH,UI,UJ,UK,UL,UM,UN,UP,UQ,UR,US,UT,UV,UX,UY,UZ,Ta,Tb,Tc,Td,Tf,Ti,Tq,Tr,Ts,Tt,z1]
              tactic =>
                unfold x40l2
                rw [loop_rule l.ls.length (fun j => [.fs R,.pt 0 0,.sl 1 0 1 os.length,I x,.nilsl,I (k : Nat),.bool (cnN b d k j),I l.ls.length,I (k : Nat),I l.ls.length,I (j : Nat)]) (fun _ => [some (.blk true (.cells true l.c)),some (.blk true (.cells true (os.map I)))])]
                · rw [hc]
                  cases c
                  · (sym => (simp [Za,Zb,Zd,Ze,Zf,Zh,Zl,Zm,Zn,Zu,Z0,Z2,Z6,ZD,ZF,ZR,ZY,Ya,Yb,Yc,Yh,Yr,Y1,YK,YL,YO,YP,YQ,YT,YX,Xd,Xe,Xh,Xi,Xj,Xl,XW,We,Wf,Wg,Wh,Wi,Wj,Wk,Wl,Wn,Wo,Wp,Wr,Ws,Wu,Wv,Ww,Wy,W0,W3,W4,W5,WA,WB,WF,Vt,Vu,Vv,Vw,Vx,Vy,Vz,V1,V2,V3,V4,V5,V6,V8,V9,VA,VB,VD,VF,VJ,VO,VR,VS,VT,VU,VV,VW,VY,VZ,Ua,Ub,Uc,Ud,Uk,Ul,Um,Un,Uv,Uw,Ux,Uy,U2,U3,U4,U5,U6,U7,U8,U9,UA,UE,UH,UI,UJ,UK,UL,UM,UN,UP,UQ,UR,US,UT,UV,UX,UY,UZ,Ta,Tb,Tc,Td,Tf,Ti,Tq,Tr,Ts,Tt,a1,a2,z]; all_goals tactic => exact rfl))
                  · (sym => (simp [Za,Zb,Zd,Ze,Zf,Zh,Zl,Zm,Zn,Zu,Z0,Z2,Z6,ZD,ZF,ZR,ZY,Ya,Yb,Yc,Yh,Yr,Y1,YK,YL,YO,YP,YQ,YT,YX,Xd,Xe,Xh,Xi,Xj,Xl,XW,We,Wf,Wg,Wh,Wi,Wj,Wk,Wl,Wn,Wo,Wp,Wr,Ws,Wu,Wv,Ww,Wy,W0,W3,W4,W5,WA,WB,WF,Vt,Vu,Vv,Vw,Vx,Vy,Vz,V1,V2,V3,V4,V5,V6,V8,V9,VA,VB,VD,VF,VJ,VO,VR,VS,VT,VU,VV,VW,VY,VZ,Ua,Ub,Uc,Ud,Uk,Ul,Um,Un,Uv,Uw,Ux,Uy,U2,U3,U4,U5,U6,U7,U8,U9,UA,UE,UH,UI,UJ,UK,UL,UM,UN,UP,UQ,UR,US,UT,UV,UX,UY,UZ,Ta,Tb,Tc,Td,Tf,Ti,Tq,Tr,Ts,Tt,a1,a2,z]; all_goals tactic => exact rfl))
                · (sym => (simp [Za,Zb,Zd,Ze,Zf,Zh,Zl,Zm,Zn,Zu,Z0,Z2,Z6,ZD,ZF,ZR,ZY,Ya,Yb,Yc,Yh,Yr,Y1,YK,YL,YO,YP,YQ,YT,YX,Xd,Xe,Xh,Xi,Xj,Xl,XW,We,Wf,Wg,Wh,Wi,Wj,Wk,Wl,Wn,Wo,Wp,Wr,Ws,Wu,Wv,Ww,Wy,W0,W3,W4,W5,WA,WB,WF,Vt,Vu,Vv,Vw,Vx,Vy,Vz,V1,V2,V3,V4,V5,V6,V8,V9,VA,VB,VD,VF,VJ,VO,VR,VS,VT,VU,VV,VW,VY,VZ,Ua,Ub,Uc,Ud,Uk,Ul,Um,Un,Uv,Uw,Ux,Uy,U2,U3,U4,U5,U6,U7,U8,U9,UA,UE,UH,UI,UJ,UK,UL,UM,UN,UP,UQ,UR,US,UT,UV,UX,UY,UZ,Ta,Tb,Tc,Td,Tf,Ti,Tq,Tr,Ts,Tt]; all_goals tactic => exact rfl))
                · exact rd2
                · rw [hc]
                  (sym => (simp [Za,Zb,Zd,Ze,Zf,Zh,Zl,Zm,Zn,Zu,Z0,Z2,Z6,ZD,ZF,ZR,ZY,Ya,Yb,Yc,Yh,Yr,Y1,YK,YL,YO,YP,YQ,YT,YX,Xd,Xe,Xh,Xi,Xj,Xl,XW,We,Wf,Wg,Wh,Wi,Wj,Wk,Wl,Wn,Wo,Wp,Wr,Ws,Wu,Wv,Ww,Wy,W0,W3,W4,W5,WA,WB,WF,Vt,Vu,Vv,Vw,Vx,Vy,Vz,V1,V2,V3,V4,V5,V6,V8,V9,VA,VB,VD,VF,VJ,VO,VR,VS,VT,VU,VV,VW,VY,VZ,Ua,Ub,Uc,Ud,Uk,Ul,Um,Un,Uv,Uw,Ux,Uy,U2,U3,U4,U5,U6,U7,U8,U9,UA,UE,UH,UI,UJ,UK,UL,UM,UN,UP,UQ,UR,US,UT,UV,UX,UY,UZ,Ta,Tb,Tc,Td,Tf,Ti,Tq,Tr,Ts,Tt,z]; all_goals tactic => exact rfl))
          · rw [m0]
            (sym => (simp [Za,Zb,Zd,Ze,Zf,Zh,Zl,Zm,Zn,Zu,Z0,Z2,Z6,ZD,ZF,ZR,ZY,Ya,Yb,Yc,Yh,Yr,Y1,YK,YL,YO,YP,YQ,YT,YX,Xd,Xe,Xh,Xi,Xj,Xl,XW,We,Wf,Wg,Wh,Wi,Wj,Wk,Wl,Wn,Wo,Wp,Wr,Ws,Wu,Wv,Ww,Wy,W0,W3,W4,W5,WA,WB,WF,Vt,Vu,Vv,Vw,Vx,Vy,Vz,V1,V2,V3,V4,V5,V6,V8,V9,VA,VB,VD,VF,VJ,VO,VR,VS,VT,VU,VV,VW,VY,VZ,Ua,Ub,Uc,Ud,Uk,Ul,Um,Un,Uv,Uw,Ux,Uy,U2,U3,U4,U5,U6,U7,U8,U9,UA,UE,UH,UI,UJ,UK,UL,UM,UN,UP,UQ,UR,US,UT,UV,UX,UY,UZ,Ta,Tb,Tc,Td,Tf,Ti,Tq,Tr,Ts,Tt]; all_goals tactic => exact rfl))
          · exact rd0
          · rw [hd k]
            (sym => (simp [Za,Zb,Zd,Ze,Zf,Zh,Zl,Zm,Zn,Zu,Z0,Z2,Z6,ZD,ZF,ZR,ZY,Ya,Yb,Yc,Yh,Yr,Y1,YK,YL,YO,YP,YQ,YT,YX,Xd,Xe,Xh,Xi,Xj,Xl,XW,We,Wf,Wg,Wh,Wi,Wj,Wk,Wl,Wn,Wo,Wp,Wr,Ws,Wu,Wv,Ww,Wy,W0,W3,W4,W5,WA,WB,WF,Vt,Vu,Vv,Vw,Vx,Vy,Vz,V1,V2,V3,V4,V5,V6,V8,V9,VA,VB,VD,VF,VJ,VO,VR,VS,VT,VU,VV,VW,VY,VZ,Ua,Ub,Uc,Ud,Uk,Ul,Um,Un,Uv,Uw,Ux,Uy,U2,U3,U4,U5,U6,U7,U8,U9,UA,UE,UH,UI,UJ,UK,UL,UM,UN,UP,UQ,UR,US,UT,UV,UX,UY,UZ,Ta,Tb,Tc,Td,Tf,Ti,Tq,Tr,Ts,Tt,z1]; all_goals tactic => exact rfl))
    · simp only [oS_ne hne,oG_ne hne,cB_ne hne,Tq,Ts,Tr,Tt,List.append_nil,List.cons_append,List.nil_append] at rd0 rd2 ⊢
      rw [List.length_cons] at hcl
      have q1 : ((cs.length + 1 + 1) * 8 ≤ 1099511627776) = True := eq_true (by omega)
      have q2 : (cs.length + 1 + 1 ≤ 1099511627776) = True := eq_true (by omega)
      sym =>
        simp [Za,Zb,Zd,Ze,Zf,Zh,Zl,Zm,Zn,Zu,Z0,Z2,Z6,ZD,ZF,ZR,ZY,Ya,Yb,Yc,Yh,Yr,Y1,YK,YL,YO,YP,YQ,YT,YX,Xd,Xe,Xh,Xi,Xj,Xl,XW,We,Wf,Wg,Wh,Wi,Wj,Wk,Wl,Wn,Wo,Wp,Wr,Ws,Wu,Wv,Ww,Wy,W0,W3,W4,W5,WA,WB,WF,Vt,Vu,Vv,Vw,Vx,Vy,Vz,V1,V2,V3,V4,V5,V6,V8,V9,VA,VB,VD,VF,VJ,VO,VR,VS,VT,VU,VV,VW,VY,VZ,Ua,Ub,Uc,Ud,Uk,Ul,Um,Un,Uv,Uw,Ux,Uy,U2,U3,U4,U5,U6,U7,U8,U9,UA,UE,UH,UI,UJ,UK,UL,UM,UN,UP,UQ,UR,US,UT,UV,UX,UY,UZ,Ta,Tb,Tc,Td,Tf,Ti,Tq,Tr,Ts,Tt,a1]
        tactic =>
          unfold x40l0
          rw [loop_rule os.length (fun i => [.fs R,.pt 0 0,.sl 1 0 1 os.length,I x,.sl 2 0 1 (cs.length + 1),I (k : Nat),.bool (!metN os (k : Int) i),I l.ls.length,I (k : Nat),.sl 1 0 1 os.length,I os.length,I (i : Nat)]) (fun _ => [some (.blk true (.cells true l.c)),some (.blk true (.cells true (os.map I))),some (.blk true (.cells true (I e :: cs.map I)))])]
          · rw [hd k,cn0]
            sym =>
              simp [Za,Zb,Zd,Ze,Zf,Zh,Zl,Zm,Zn,Zu,Z0,Z2,Z6,ZD,ZF,ZR,ZY,Ya,Yb,Yc,Yh,Yr,Y1,YK,YL,YO,YP,YQ,YT,YX,Xd,Xe,Xh,Xi,Xj,Xl,XW,We,Wf,Wg,Wh,Wi,Wj,Wk,Wl,Wn,Wo,Wp,Wr,Ws,Wu,Wv,Ww,Wy,W0,W3,W4,W5,WA,WB,WF,Vt,Vu,Vv,Vw,Vx,Vy,Vz,V1,V2,V3,V4,V5,V6,V8,V9,VA,VB,VD,VF,VJ,VO,VR,VS,VT,VU,VV,VW,VY,VZ,Ua,Ub,Uc,Ud,Uk,Ul,Um,Un,Uv,Uw,Ux,Uy,U2,U3,U4,U5,U6,U7,U8,U9,UA,UE,UH,UI,UJ,UK,UL,UM,UN,UP,UQ,UR,US,UT,UV,UX,UY,UZ,Ta,Tb,Tc,Td,Tf,Ti,Tq,Tr,Ts,Tt,z1]
              tactic =>
                unfold x40l2
                rw [loop_rule l.ls.length (fun j => [.fs R,.pt 0 0,.sl 1 0 1 os.length,I x,.sl 2 0 1 (cs.length + 1),I (k : Nat),.bool (cnN b d k j),I l.ls.length,I (k : Nat),I l.ls.length,I (j : Nat)]) (fun _ => [some (.blk true (.cells true l.c)),some (.blk true (.cells true (os.map I))),some (.blk true (.cells true (I e :: cs.map I)))])]
                · rw [hc]
                  cases c
                  · (sym => (simp [Za,Zb,Zd,Ze,Zf,Zh,Zl,Zm,Zn,Zu,Z0,Z2,Z6,ZD,ZF,ZR,ZY,Ya,Yb,Yc,Yh,Yr,Y1,YK,YL,YO,YP,YQ,YT,YX,Xd,Xe,Xh,Xi,Xj,Xl,XW,We,Wf,Wg,Wh,Wi,Wj,Wk,Wl,Wn,Wo,Wp,Wr,Ws,Wu,Wv,Ww,Wy,W0,W3,W4,W5,WA,WB,WF,Vt,Vu,Vv,Vw,Vx,Vy,Vz,V1,V2,V3,V4,V5,V6,V8,V9,VA,VB,VD,VF,VJ,VO,VR,VS,VT,VU,VV,VW,VY,VZ,Ua,Ub,Uc,Ud,Uk,Ul,Um,Un,Uv,Uw,Ux,Uy,U2,U3,U4,U5,U6,U7,U8,U9,UA,UE,UH,UI,UJ,UK,UL,UM,UN,UP,UQ,UR,US,UT,UV,UX,UY,UZ,Ta,Tb,Tc,Td,Tf,Ti,Tq,Tr,Ts,Tt,a1,a2,z,q1,q2]; all_goals tactic => exact rfl))
                  · (sym => (simp [Za,Zb,Zd,Ze,Zf,Zh,Zl,Zm,Zn,Zu,Z0,Z2,Z6,ZD,ZF,ZR,ZY,Ya,Yb,Yc,Yh,Yr,Y1,YK,YL,YO,YP,YQ,YT,YX,Xd,Xe,Xh,Xi,Xj,Xl,XW,We,Wf,Wg,Wh,Wi,Wj,Wk,Wl,Wn,Wo,Wp,Wr,Ws,Wu,Wv,Ww,Wy,W0,W3,W4,W5,WA,WB,WF,Vt,Vu,Vv,Vw,Vx,Vy,Vz,V1,V2,V3,V4,V5,V6,V8,V9,VA,VB,VD,VF,VJ,VO,VR,VS,VT,VU,VV,VW,VY,VZ,Ua,Ub,Uc,Ud,Uk,Ul,Um,Un,Uv,Uw,Ux,Uy,U2,U3,U4,U5,U6,U7,U8,U9,UA,UE,UH,UI,UJ,UK,UL,UM,UN,UP,UQ,UR,US,UT,UV,UX,UY,UZ,Ta,Tb,Tc,Td,Tf,Ti,Tq,Tr,Ts,Tt,a1,a2,z,q1,q2]; all_goals tactic => exact rfl))
                · (sym => (simp [Za,Zb,Zd,Ze,Zf,Zh,Zl,Zm,Zn,Zu,Z0,Z2,Z6,ZD,ZF,ZR,ZY,Ya,Yb,Yc,Yh,Yr,Y1,YK,YL,YO,YP,YQ,YT,YX,Xd,Xe,Xh,Xi,Xj,Xl,XW,We,Wf,Wg,Wh,Wi,Wj,Wk,Wl,Wn,Wo,Wp,Wr,Ws,Wu,Wv,Ww,Wy,W0,W3,W4,W5,WA,WB,WF,Vt,Vu,Vv,Vw,Vx,Vy,Vz,V1,V2,V3,V4,V5,V6,V8,V9,VA,VB,VD,VF,VJ,VO,VR,VS,VT,VU,VV,VW,VY,VZ,Ua,Ub,Uc,Ud,Uk,Ul,Um,Un,Uv,Uw,Ux,Uy,U2,U3,U4,U5,U6,U7,U8,U9,UA,UE,UH,UI,UJ,UK,UL,UM,UN,UP,UQ,UR,US,UT,UV,UX,UY,UZ,Ta,Tb,Tc,Td,Tf,Ti,Tq,Tr,Ts,Tt]; all_goals tactic => exact rfl))
                · exact rd2
                · rw [hc]
                  (sym => (simp [Za,Zb,Zd,Ze,Zf,Zh,Zl,Zm,Zn,Zu,Z0,Z2,Z6,ZD,ZF,ZR,ZY,Ya,Yb,Yc,Yh,Yr,Y1,YK,YL,YO,YP,YQ,YT,YX,Xd,Xe,Xh,Xi,Xj,Xl,XW,We,Wf,Wg,Wh,Wi,Wj,Wk,Wl,Wn,Wo,Wp,Wr,Ws,Wu,Wv,Ww,Wy,W0,W3,W4,W5,WA,WB,WF,Vt,Vu,Vv,Vw,Vx,Vy,Vz,V1,V2,V3,V4,V5,V6,V8,V9,VA,VB,VD,VF,VJ,VO,VR,VS,VT,VU,VV,VW,VY,VZ,Ua,Ub,Uc,Ud,Uk,Ul,Um,Un,Uv,Uw,Ux,Uy,U2,U3,U4,U5,U6,U7,U8,U9,UA,UE,UH,UI,UJ,UK,UL,UM,UN,UP,UQ,UR,US,UT,UV,UX,UY,UZ,Ta,Tb,Tc,Td,Tf,Ti,Tq,Tr,Ts,Tt,z]; all_goals tactic => exact rfl))
          · rw [m0]
            (sym => (simp [Za,Zb,Zd,Ze,Zf,Zh,Zl,Zm,Zn,Zu,Z0,Z2,Z6,ZD,ZF,ZR,ZY,Ya,Yb,Yc,Yh,Yr,Y1,YK,YL,YO,YP,YQ,YT,YX,Xd,Xe,Xh,Xi,Xj,Xl,XW,We,Wf,Wg,Wh,Wi,Wj,Wk,Wl,Wn,Wo,Wp,Wr,Ws,Wu,Wv,Ww,Wy,W0,W3,W4,W5,WA,WB,WF,Vt,Vu,Vv,Vw,Vx,Vy,Vz,V1,V2,V3,V4,V5,V6,V8,V9,VA,VB,VD,VF,VJ,VO,VR,VS,VT,VU,VV,VW,VY,VZ,Ua,Ub,Uc,Ud,Uk,Ul,Um,Un,Uv,Uw,Ux,Uy,U2,U3,U4,U5,U6,U7,U8,U9,UA,UE,UH,UI,UJ,UK,UL,UM,UN,UP,UQ,UR,US,UT,UV,UX,UY,UZ,Ta,Tb,Tc,Td,Tf,Ti,Tq,Tr,Ts,Tt]; all_goals tactic => exact rfl))
          · exact rd0
          · rw [hd k]
            (sym => (simp [Za,Zb,Zd,Ze,Zf,Zh,Zl,Zm,Zn,Zu,Z0,Z2,Z6,ZD,ZF,ZR,ZY,Ya,Yb,Yc,Yh,Yr,Y1,YK,YL,YO,YP,YQ,YT,YX,Xd,Xe,Xh,Xi,Xj,Xl,XW,We,Wf,Wg,Wh,Wi,Wj,Wk,Wl,Wn,Wo,Wp,Wr,Ws,Wu,Wv,Ww,Wy,W0,W3,W4,W5,WA,WB,WF,Vt,Vu,Vv,Vw,Vx,Vy,Vz,V1,V2,V3,V4,V5,V6,V8,V9,VA,VB,VD,VF,VJ,VO,VR,VS,VT,VU,VV,VW,VY,VZ,Ua,Ub,Uc,Ud,Uk,Ul,Um,Un,Uv,Uw,Ux,Uy,U2,U3,U4,U5,U6,U7,U8,U9,UA,UE,UH,UI,UJ,UK,UL,UM,UN,UP,UQ,UR,US,UT,UV,UX,UY,UZ,Ta,Tb,Tc,Td,Tf,Ti,Tq,Tr,Ts,Tt,z1]; all_goals tactic => exact rfl))
end
end Go.Proofs.YtpbeclkpohehgaaDoor
namespace Go.Proofs.YtpbeclkpohehgaaDoor
open Go Go.DL
set_option maxRecDepth 100000
set_option maxHeartbeats 4000000
theorem nxK_of (b : Nat → Nat) (d k : Nat) : (if canB b d k = true then ofN (nxK b d k) ++ [(k : Int)] else ofN (nxK b d k)) = ofN (nxK b d (k + 1)) := by
  rw [nxK_up]
  unfold ofN
  cases canB b d k <;> simp
section
variable {l : Li}
theorem round40e (g : Good l) (hf : l.Fit) {us : List Nat} (hu : ∀ v ∈ us,v < 256) (hul : us.length ≤ maxLen) {i : Nat} (hi : i < l.ls.length) {os : List Int} (ho : os.length = i) {d : Nat} (hdl : d < 2 ^ l.ls.length) (hd : ∀ j : Nat,metN os (j : Int) os.length = d.testBit j) {pk : Nat} (hpk : (nxL l.ls.length (behF l.ts) d)[us.getD i 0 % (nxL l.ls.length (behF l.ts) d).length]? = some pk) :
    headX 0 [1,2,5,6] (execW progX 40 0 none (match x40l4 with | .loop _ a => a | c => c) (envL [1,2,5,6] [.fs (us.map fun v => [B8 v]),.pt 0 0,oS 1 os,I (i : Nat)]) ([some (.blk true (.cells true l.c))] ++ oG os)) =
      some ([.fs (us.map fun v => [B8 v]),.pt 0 0,oS 1 (os ++ [(pk : Int)]),I (i + 1 : Nat)],[some (.blk true (.cells true l.c))] ++ oG (os ++ [(pk : Int)])) := by
  have hn := g.few
  have p := g.prec
  have a1 : ((os.length : Int) < (l.ls.length : Int)) = True := eq_true (by omega)
  have a0 : ((0 : Int) < (l.ls.length : Int)) = True := eq_true (by omega)
  have a2 : IntKind.i64.wrap ((i : Int) + 1) = (i : Int) + 1 := wrap_ok (by omega) (by omega)
  have z := U8 (n := (l.ls.length : Int))
  have rd3 : ∀ k,k < l.ls.length → headX 0 [1,2,5,6,7,27,28] (execW progX 40 0 none (match x40l3 with | .loop _ a => a | c => c) (envL [1,2,5,6,7,27,28] [.fs (us.map fun v => [B8 v]),.pt 0 0,oS 1 os,I (i : Nat),oS (cB os) (ofN (nxK (behF l.ts) d k)),I l.ls.length,I (k : Nat)]) ([some (.blk true (.cells true l.c))] ++ (oG os ++ oG (ofN (nxK (behF l.ts) d k))))) =
      some ([.fs (us.map fun v => [B8 v]),.pt 0 0,oS 1 os,I (i : Nat),oS (cB os) (ofN (nxK (behF l.ts) d (k + 1))),I l.ls.length,I (k + 1 : Nat)],[some (.blk true (.cells true l.c))] ++ (oG os ++ oG (ofN (nxK (behF l.ts) d (k + 1))))) := by
    intro k hk
    have := nxK_len (behF l.ts) d k
    have e := round40d g hf (us.map fun v => [B8 v]) (i : Int) (os := os) (cs := ofN (nxK (behF l.ts) d k)) (by omega) (by rw [ofN_len]; omega) hk hd (cn_can p hn hdl)
    rw [nxK_of] at e
    exact e
  have k0 : ofN (nxK (behF l.ts) d 0) = [] := rfl
  have kn : nxK (behF l.ts) d l.ls.length = nxL l.ls.length (behF l.ts) d := rfl
  have hcl : (nxL l.ls.length (behF l.ts) d).length ≤ l.ls.length := nxK_len (behF l.ts) d l.ls.length
  rw [← kn] at hpk hcl
  have hix := lt_of hpk
  have hpk2 : (ofN (nxK (behF l.ts) d l.ls.length))[us.getD i 0 % (nxK (behF l.ts) d l.ls.length).length]? = some (pk : Int) := by
    unfold ofN
    rw [List.getElem?_map,hpk]; rfl
  have hle := ofN_len (nxK (behF l.ts) d l.ls.length)
  generalize ht : ofN (nxK (behF l.ts) d l.ls.length) = cn at *
  rw [← hle] at hpk2 hix hcl
  clear hle hpk kn
  have b1 : ((0 : Int) < (cn.length : Int)) = True := eq_true (by omega)
  have b2 : ((cn.length : Int) = 0) = False := eq_false (by omega)
  have hcn : cn ≠ [] := by rintro rfl; simp at hpk2
  have q1 : ((os.length + 1) * 8 ≤ 1099511627776) = True := eq_true (by omega)
  have q2 : (os.length + 1 ≤ 1099511627776) = True := eq_true (by omega)
  have fin : ∀ {P : Prop},P → P := id
  generalize behF l.ts = b at *
  by_cases hus : i < us.length
  · obtain ⟨u,hux⟩ := at_ix hus
    rw [getD_of hux] at hpk2 hix
    have hub := hu u (List.mem_of_getElem? hux)
    have c1 : ((i : Int) < (us.length : Int)) = True := eq_true (by omega)
    have c2 : IntKind.i64.wrap (u : Int) = (u : Int) := wrap_ok (by omega) (by omega)
    have c3 : Int.tmod (u : Int) (cn.length : Int) = ((u % cn.length : Nat) : Int) := by rw [Int.tmod_eq_emod_of_nonneg (by omega)]; omega
    have c4 : (((u % cn.length : Nat) : Int) < (cn.length : Int)) = True := eq_true (by omega)

    by_cases hne : os = []
    · subst hne
      simp only [cB_0,Tq,Ts,Tr,Tt,List.nil_append,List.length_nil,List.append_nil] at rd3 ⊢
      unfold x40l4
      dsimp only
      sym =>
        simp [Za,Zb,Zd,Ze,Zf,Zh,Zl,Zm,Zn,Zu,Z0,Z2,Z5,Z6,Z8,ZD,ZF,ZR,ZX,ZY,Ya,Yb,Yc,Yd,Ye,Yf,Yh,Yk,Yp,Yr,Yv,Yw,Y0,Y1,YK,YO,YP,YQ,YT,YX,Xd,Xh,Xi,Xj,Xl,XW,We,Wf,Wg,Wh,Wi,Wj,Wk,Wl,Wn,Wo,Wp,Wr,Ws,Wu,Wv,Ww,Wy,W0,W3,W4,W5,WA,WB,WF,Vt,Vu,Vv,Vw,Vx,Vy,Vz,V2,V3,V4,V5,V6,V8,V9,VA,VB,VC,VD,VF,VO,VS,VT,VU,VV,VW,VY,VZ,Ua,Ub,Uc,Ud,Uk,Ul,Um,Un,Uv,Uw,Ux,Uy,U2,U3,U4,U5,U6,U7,U8,U9,UA,UB,UC,UE,UH,UI,UJ,UK,UL,UM,UN,UP,UQ,UR,US,UT,UV,UX,UY,UZ,Ta,Tb,Tc,Td,Te,Tf,Ti,Tq,Ts,a0,a1]
        tactic =>
          unfold x40l3
          rw [loop_rule l.ls.length (fun k => [.fs (us.map fun v => [B8 v]),.pt 0 0,.nilsl,I (i : Nat),oS 1 (ofN (nxK b d k)),I l.ls.length,I (k : Nat)]) (fun k => [some (.blk true (.cells true l.c))] ++ oG (ofN (nxK b d k)))]
          · rw [ht,oS_ne hcn,oG_ne hcn]
            (sym => (simp [Za,Zb,Zd,Ze,Zf,Zh,Zl,Zm,Zn,Zu,Z0,Z2,Z5,Z6,Z8,ZD,ZF,ZR,ZX,ZY,Ya,Yb,Yc,Yd,Ye,Yf,Yh,Yk,Yp,Yr,Yv,Yw,Y0,Y1,YK,YO,YP,YQ,YT,YX,Xd,Xh,Xi,Xj,Xl,XW,We,Wf,Wg,Wh,Wi,Wj,Wk,Wl,Wn,Wo,Wp,Wr,Ws,Wu,Wv,Ww,Wy,W0,W3,W4,W5,WA,WB,WF,Vt,Vu,Vv,Vw,Vx,Vy,Vz,V2,V3,V4,V5,V6,V8,V9,VA,VB,VC,VD,VF,VO,VS,VT,VU,VV,VW,VY,VZ,Ua,Ub,Uc,Ud,Uk,Ul,Um,Un,Uv,Uw,Ux,Uy,U2,U3,U4,U5,U6,U7,U8,U9,UA,UB,UC,UE,UH,UI,UJ,UK,UL,UM,UN,UP,UQ,UR,US,UT,UV,UX,UY,UZ,Ta,Tb,Tc,Td,Te,Tf,Ti,Tq,Ts,a0,a1,a2,z,b1,b2,hux,c1,c2,c3,c4,hpk2,q1,q2]; all_goals tactic => exact rfl))
          · rw [k0]
            (sym => (simp [Za,Zb,Zd,Ze,Zf,Zh,Zl,Zm,Zn,Zu,Z0,Z2,Z5,Z6,Z8,ZD,ZF,ZR,ZX,ZY,Ya,Yb,Yc,Yd,Ye,Yf,Yh,Yk,Yp,Yr,Yv,Yw,Y0,Y1,YK,YO,YP,YQ,YT,YX,Xd,Xh,Xi,Xj,Xl,XW,We,Wf,Wg,Wh,Wi,Wj,Wk,Wl,Wn,Wo,Wp,Wr,Ws,Wu,Wv,Ww,Wy,W0,W3,W4,W5,WA,WB,WF,Vt,Vu,Vv,Vw,Vx,Vy,Vz,V2,V3,V4,V5,V6,V8,V9,VA,VB,VC,VD,VF,VO,VS,VT,VU,VV,VW,VY,VZ,Ua,Ub,Uc,Ud,Uk,Ul,Um,Un,Uv,Uw,Ux,Uy,U2,U3,U4,U5,U6,U7,U8,U9,UA,UB,UC,UE,UH,UI,UJ,UK,UL,UM,UN,UP,UQ,UR,US,UT,UV,UX,UY,UZ,Ta,Tb,Tc,Td,Te,Tf,Ti,Tq,Ts]; all_goals tactic => exact rfl))
          · exact rd3
          · rw [ht,oS_ne hcn,oG_ne hcn]
            (sym => (simp [Za,Zb,Zd,Ze,Zf,Zh,Zl,Zm,Zn,Zu,Z0,Z2,Z5,Z6,Z8,ZD,ZF,ZR,ZX,ZY,Ya,Yb,Yc,Yd,Ye,Yf,Yh,Yk,Yp,Yr,Yv,Yw,Y0,Y1,YK,YO,YP,YQ,YT,YX,Xd,Xh,Xi,Xj,Xl,XW,We,Wf,Wg,Wh,Wi,Wj,Wk,Wl,Wn,Wo,Wp,Wr,Ws,Wu,Wv,Ww,Wy,W0,W3,W4,W5,WA,WB,WF,Vt,Vu,Vv,Vw,Vx,Vy,Vz,V2,V3,V4,V5,V6,V8,V9,VA,VB,VC,VD,VF,VO,VS,VT,VU,VV,VW,VY,VZ,Ua,Ub,Uc,Ud,Uk,Ul,Um,Un,Uv,Uw,Ux,Uy,U2,U3,U4,U5,U6,U7,U8,U9,UA,UB,UC,UE,UH,UI,UJ,UK,UL,UM,UN,UP,UQ,UR,US,UT,UV,UX,UY,UZ,Ta,Tb,Tc,Td,Te,Tf,Ti,Tq,Ts,z]; all_goals tactic => exact rfl))
    · simp only [oS_ne hne,oG_ne hne,cB_ne hne,oS_ne (show os ++ [(pk : Int)] ≠ [] by simp),oG_ne (show os ++ [(pk : Int)] ≠ [] by simp),List.cons_append,List.nil_append] at rd3 ⊢
      unfold x40l4
      dsimp only
      sym =>
        simp [Za,Zb,Zd,Ze,Zf,Zh,Zl,Zm,Zn,Zu,Z0,Z2,Z5,Z6,Z8,ZD,ZF,ZR,ZX,ZY,Ya,Yb,Yc,Yd,Ye,Yf,Yh,Yk,Yp,Yr,Yv,Yw,Y0,Y1,YK,YO,YP,YQ,YT,YX,Xd,Xh,Xi,Xj,Xl,XW,We,Wf,Wg,Wh,Wi,Wj,Wk,Wl,Wn,Wo,Wp,Wr,Ws,Wu,Wv,Ww,Wy,W0,W3,W4,W5,WA,WB,WF,Vt,Vu,Vv,Vw,Vx,Vy,Vz,V2,V3,V4,V5,V6,V8,V9,VA,VB,VC,VD,VF,VO,VS,VT,VU,VV,VW,VY,VZ,Ua,Ub,Uc,Ud,Uk,Ul,Um,Un,Uv,Uw,Ux,Uy,U2,U3,U4,U5,U6,U7,U8,U9,UA,UB,UC,UE,UH,UI,UJ,UK,UL,UM,UN,UP,UQ,UR,US,UT,UV,UX,UY,UZ,Ta,Tb,Tc,Td,Te,Tf,Ti,Tq,Ts,a0,a1]
        tactic =>
          unfold x40l3
          rw [loop_rule l.ls.length (fun k => [.fs (us.map fun v => [B8 v]),.pt 0 0,.sl 1 0 1 os.length,I (i : Nat),oS 2 (ofN (nxK b d k)),I l.ls.length,I (k : Nat)]) (fun k => [some (.blk true (.cells true l.c)),some (.blk true (.cells true (os.map I)))] ++ oG (ofN (nxK b d k)))]
          · rw [ht,oS_ne hcn,oG_ne hcn]
            (sym => (simp [Za,Zb,Zd,Ze,Zf,Zh,Zl,Zm,Zn,Zu,Z0,Z2,Z5,Z6,Z8,ZD,ZF,ZR,ZX,ZY,Ya,Yb,Yc,Yd,Ye,Yf,Yh,Yk,Yp,Yr,Yv,Yw,Y0,Y1,YK,YO,YP,YQ,YT,YX,Xd,Xh,Xi,Xj,Xl,XW,We,Wf,Wg,Wh,Wi,Wj,Wk,Wl,Wn,Wo,Wp,Wr,Ws,Wu,Wv,Ww,Wy,W0,W3,W4,W5,WA,WB,WF,Vt,Vu,Vv,Vw,Vx,Vy,Vz,V2,V3,V4,V5,V6,V8,V9,VA,VB,VC,VD,VF,VO,VS,VT,VU,VV,VW,VY,VZ,Ua,Ub,Uc,Ud,Uk,Ul,Um,Un,Uv,Uw,Ux,Uy,U2,U3,U4,U5,U6,U7,U8,U9,UA,UB,UC,UE,UH,UI,UJ,UK,UL,UM,UN,UP,UQ,UR,US,UT,UV,UX,UY,UZ,Ta,Tb,Tc,Td,Te,Tf,Ti,Tq,Ts,a0,a1,a2,z,b1,b2,hux,c1,c2,c3,c4,hpk2,q1,q2]; all_goals tactic => exact rfl))
          · rw [k0]
            (sym => (simp [Za,Zb,Zd,Ze,Zf,Zh,Zl,Zm,Zn,Zu,Z0,Z2,Z5,Z6,Z8,ZD,ZF,ZR,ZX,ZY,Ya,Yb,Yc,Yd,Ye,Yf,Yh,Yk,Yp,Yr,Yv,Yw,Y0,Y1,YK,YO,YP,YQ,YT,YX,Xd,Xh,Xi,Xj,Xl,XW,We,Wf,Wg,Wh,Wi,Wj,Wk,Wl,Wn,Wo,Wp,Wr,Ws,Wu,Wv,Ww,Wy,W0,W3,W4,W5,WA,WB,WF,Vt,Vu,Vv,Vw,Vx,Vy,Vz,V2,V3,V4,V5,V6,V8,V9,VA,VB,VC,VD,VF,VO,VS,VT,VU,VV,VW,VY,VZ,Ua,Ub,Uc,Ud,Uk,Ul,Um,Un,Uv,Uw,Ux,Uy,U2,U3,U4,U5,U6,U7,U8,U9,UA,UB,UC,UE,UH,UI,UJ,UK,UL,UM,UN,UP,UQ,UR,US,UT,UV,UX,UY,UZ,Ta,Tb,Tc,Td,Te,Tf,Ti,Tq,Ts]; all_goals tactic => exact rfl))
          · exact rd3
          · rw [ht,oS_ne hcn,oG_ne hcn]
            (sym => (simp [Za,Zb,Zd,Ze,Zf,Zh,Zl,Zm,Zn,Zu,Z0,Z2,Z5,Z6,Z8,ZD,ZF,ZR,ZX,ZY,Ya,Yb,Yc,Yd,Ye,Yf,Yh,Yk,Yp,Yr,Yv,Yw,Y0,Y1,YK,YO,YP,YQ,YT,YX,Xd,Xh,Xi,Xj,Xl,XW,We,Wf,Wg,Wh,Wi,Wj,Wk,Wl,Wn,Wo,Wp,Wr,Ws,Wu,Wv,Ww,Wy,W0,W3,W4,W5,WA,WB,WF,Vt,Vu,Vv,Vw,Vx,Vy,Vz,V2,V3,V4,V5,V6,V8,V9,VA,VB,VC,VD,VF,VO,VS,VT,VU,VV,VW,VY,VZ,Ua,Ub,Uc,Ud,Uk,Ul,Um,Un,Uv,Uw,Ux,Uy,U2,U3,U4,U5,U6,U7,U8,U9,UA,UB,UC,UE,UH,UI,UJ,UK,UL,UM,UN,UP,UQ,UR,US,UT,UV,UX,UY,UZ,Ta,Tb,Tc,Td,Te,Tf,Ti,Tq,Ts,z]; all_goals tactic => exact rfl))
  · have c1 : ((i : Int) < (us.length : Int)) = False := eq_false (by omega)
    rw [show us.getD i 0 = 0 by rw [List.getD_eq_getElem?_getD,List.getElem?_eq_none (by omega)]; rfl,Nat.zero_mod] at hpk2 hix
    by_cases hne : os = []
    · subst hne
      simp only [cB_0,Tq,Ts,Tr,Tt,List.nil_append,List.length_nil,List.append_nil] at rd3 ⊢
      unfold x40l4
      dsimp only
      sym =>
        simp [Za,Zb,Zd,Ze,Zf,Zh,Zl,Zm,Zn,Zu,Z0,Z2,Z5,Z6,Z8,ZD,ZF,ZR,ZX,ZY,Ya,Yb,Yc,Yd,Ye,Yf,Yh,Yk,Yp,Yr,Yv,Yw,Y0,Y1,YK,YO,YP,YQ,YT,YX,Xd,Xh,Xi,Xj,Xl,XW,We,Wf,Wg,Wh,Wi,Wj,Wk,Wl,Wn,Wo,Wp,Wr,Ws,Wu,Wv,Ww,Wy,W0,W3,W4,W5,WA,WB,WF,Vt,Vu,Vv,Vw,Vx,Vy,Vz,V2,V3,V4,V5,V6,V8,V9,VA,VB,VC,VD,VF,VO,VS,VT,VU,VV,VW,VY,VZ,Ua,Ub,Uc,Ud,Uk,Ul,Um,Un,Uv,Uw,Ux,Uy,U2,U3,U4,U5,U6,U7,U8,U9,UA,UB,UC,UE,UH,UI,UJ,UK,UL,UM,UN,UP,UQ,UR,US,UT,UV,UX,UY,UZ,Ta,Tb,Tc,Td,Te,Tf,Ti,Tq,Ts,a0,a1]
        tactic =>
          unfold x40l3
          rw [loop_rule l.ls.length (fun k => [.fs (us.map fun v => [B8 v]),.pt 0 0,.nilsl,I (i : Nat),oS 1 (ofN (nxK b d k)),I l.ls.length,I (k : Nat)]) (fun k => [some (.blk true (.cells true l.c))] ++ oG (ofN (nxK b d k)))]
          · rw [ht,oS_ne hcn,oG_ne hcn]
            (sym => (simp [Za,Zb,Zd,Ze,Zf,Zh,Zl,Zm,Zn,Zu,Z0,Z2,Z5,Z6,Z8,ZD,ZF,ZR,ZX,ZY,Ya,Yb,Yc,Yd,Ye,Yf,Yh,Yk,Yp,Yr,Yv,Yw,Y0,Y1,YK,YO,YP,YQ,YT,YX,Xd,Xh,Xi,Xj,Xl,XW,We,Wf,Wg,Wh,Wi,Wj,Wk,Wl,Wn,Wo,Wp,Wr,Ws,Wu,Wv,Ww,Wy,W0,W3,W4,W5,WA,WB,WF,Vt,Vu,Vv,Vw,Vx,Vy,Vz,V2,V3,V4,V5,V6,V8,V9,VA,VB,VC,VD,VF,VO,VS,VT,VU,VV,VW,VY,VZ,Ua,Ub,Uc,Ud,Uk,Ul,Um,Un,Uv,Uw,Ux,Uy,U2,U3,U4,U5,U6,U7,U8,U9,UA,UB,UC,UE,UH,UI,UJ,UK,UL,UM,UN,UP,UQ,UR,US,UT,UV,UX,UY,UZ,Ta,Tb,Tc,Td,Te,Tf,Ti,Tq,Ts,a0,a1,a2,z,b1,b2,c1,hpk2,q1,q2]; all_goals tactic => exact rfl))
          · rw [k0]
            (sym => (simp [Za,Zb,Zd,Ze,Zf,Zh,Zl,Zm,Zn,Zu,Z0,Z2,Z5,Z6,Z8,ZD,ZF,ZR,ZX,ZY,Ya,Yb,Yc,Yd,Ye,Yf,Yh,Yk,Yp,Yr,Yv,Yw,Y0,Y1,YK,YO,YP,YQ,YT,YX,Xd,Xh,Xi,Xj,Xl,XW,We,Wf,Wg,Wh,Wi,Wj,Wk,Wl,Wn,Wo,Wp,Wr,Ws,Wu,Wv,Ww,Wy,W0,W3,W4,W5,WA,WB,WF,Vt,Vu,Vv,Vw,Vx,Vy,Vz,V2,V3,V4,V5,V6,V8,V9,VA,VB,VC,VD,VF,VO,VS,VT,VU,VV,VW,VY,VZ,Ua,Ub,Uc,Ud,Uk,Ul,Um,Un,Uv,Uw,Ux,Uy,U2,U3,U4,U5,U6,U7,U8,U9,UA,UB,UC,UE,UH,UI,UJ,UK,UL,UM,UN,UP,UQ,UR,US,UT,UV,UX,UY,UZ,Ta,Tb,Tc,Td,Te,Tf,Ti,Tq,Ts]; all_goals tactic => exact rfl))
          · exact rd3
          · rw [ht,oS_ne hcn,oG_ne hcn]
            (sym => (simp [Za,Zb,Zd,Ze,Zf,Zh,Zl,Zm,Zn,Zu,Z0,Z2,Z5,Z6,Z8,ZD,ZF,ZR,ZX,ZY,Ya,Yb,Yc,Yd,Ye,Yf,Yh,Yk,Yp,Yr,Yv,Yw,Y0,Y1,YK,YO,YP,YQ,YT,YX,Xd,Xh,Xi,Xj,Xl,XW,We,Wf,Wg,Wh,Wi,Wj,Wk,Wl,Wn,Wo,Wp,Wr,Ws,Wu,Wv,Ww,Wy,W0,W3,W4,W5,WA,WB,WF,Vt,Vu,Vv,Vw,Vx,Vy,Vz,V2,V3,V4,V5,V6,V8,V9,VA,VB,VC,VD,VF,VO,VS,VT,VU,VV,VW,VY,VZ,Ua,Ub,Uc,Ud,Uk,Ul,Um,Un,Uv,Uw,Ux,Uy,U2,U3,U4,U5,U6,U7,U8,U9,UA,UB,UC,UE,UH,UI,UJ,UK,UL,UM,UN,UP,UQ,UR,US,UT,UV,UX,UY,UZ,Ta,Tb,Tc,Td,Te,Tf,Ti,Tq,Ts,z]; all_goals tactic => exact rfl))
    · simp only [oS_ne hne,oG_ne hne,cB_ne hne,oS_ne (show os ++ [(pk : Int)] ≠ [] by simp),oG_ne (show os ++ [(pk : Int)] ≠ [] by simp),List.cons_append,List.nil_append] at rd3 ⊢
      unfold x40l4
      dsimp only
      sym =>
        simp [Za,Zb,Zd,Ze,Zf,Zh,Zl,Zm,Zn,Zu,Z0,Z2,Z5,Z6,Z8,ZD,ZF,ZR,ZX,ZY,Ya,Yb,Yc,Yd,Ye,Yf,Yh,Yk,Yp,Yr,Yv,Yw,Y0,Y1,YK,YO,YP,YQ,YT,YX,Xd,Xh,Xi,Xj,Xl,XW,We,Wf,Wg,Wh,Wi,Wj,Wk,Wl,Wn,Wo,Wp,Wr,Ws,Wu,Wv,Ww,Wy,W0,W3,W4,W5,WA,WB,WF,Vt,Vu,Vv,Vw,Vx,Vy,Vz,V2,V3,V4,V5,V6,V8,V9,VA,VB,VC,VD,VF,VO,VS,VT,VU,VV,VW,VY,VZ,Ua,Ub,Uc,Ud,Uk,Ul,Um,Un,Uv,Uw,Ux,Uy,U2,U3,U4,U5,U6,U7,U8,U9,UA,UB,UC,UE,UH,UI,UJ,UK,UL,UM,UN,UP,UQ,UR,US,UT,UV,UX,UY,UZ,Ta,Tb,Tc,Td,Te,Tf,Ti,Tq,Ts,a0,a1]
        tactic =>
          unfold x40l3
          rw [loop_rule l.ls.length (fun k => [.fs (us.map fun v => [B8 v]),.pt 0 0,.sl 1 0 1 os.length,I (i : Nat),oS 2 (ofN (nxK b d k)),I l.ls.length,I (k : Nat)]) (fun k => [some (.blk true (.cells true l.c)),some (.blk true (.cells true (os.map I)))] ++ oG (ofN (nxK b d k)))]
          · rw [ht,oS_ne hcn,oG_ne hcn]
            (sym => (simp [Za,Zb,Zd,Ze,Zf,Zh,Zl,Zm,Zn,Zu,Z0,Z2,Z5,Z6,Z8,ZD,ZF,ZR,ZX,ZY,Ya,Yb,Yc,Yd,Ye,Yf,Yh,Yk,Yp,Yr,Yv,Yw,Y0,Y1,YK,YO,YP,YQ,YT,YX,Xd,Xh,Xi,Xj,Xl,XW,We,Wf,Wg,Wh,Wi,Wj,Wk,Wl,Wn,Wo,Wp,Wr,Ws,Wu,Wv,Ww,Wy,W0,W3,W4,W5,WA,WB,WF,Vt,Vu,Vv,Vw,Vx,Vy,Vz,V2,V3,V4,V5,V6,V8,V9,VA,VB,VC,VD,VF,VO,VS,VT,VU,VV,VW,VY,VZ,Ua,Ub,Uc,Ud,Uk,Ul,Um,Un,Uv,Uw,Ux,Uy,U2,U3,U4,U5,U6,U7,U8,U9,UA,UB,UC,UE,UH,UI,UJ,UK,UL,UM,UN,UP,UQ,UR,US,UT,UV,UX,UY,UZ,Ta,Tb,Tc,Td,Te,Tf,Ti,Tq,Ts,a0,a1,a2,z,b1,b2,c1,hpk2,q1,q2]; all_goals tactic => exact rfl))
          · rw [k0]
            (sym => (simp [Za,Zb,Zd,Ze,Zf,Zh,Zl,Zm,Zn,Zu,Z0,Z2,Z5,Z6,Z8,ZD,ZF,ZR,ZX,ZY,Ya,Yb,Yc,Yd,Ye,Yf,Yh,Yk,Yp,Yr,Yv,Yw,Y0,Y1,YK,YO,YP,YQ,YT,YX,Xd,Xh,Xi,Xj,Xl,XW,We,Wf,Wg,Wh,Wi,Wj,Wk,Wl,Wn,Wo,Wp,Wr,Ws,Wu,Wv,Ww,Wy,W0,W3,W4,W5,WA,WB,WF,Vt,Vu,Vv,Vw,Vx,Vy,Vz,V2,V3,V4,V5,V6,V8,V9,VA,VB,VC,VD,VF,VO,VS,VT,VU,VV,VW,VY,VZ,Ua,Ub,Uc,Ud,Uk,Ul,Um,Un,Uv,Uw,Ux,Uy,U2,U3,U4,U5,U6,U7,U8,U9,UA,UB,UC,UE,UH,UI,UJ,UK,UL,UM,UN,UP,UQ,UR,US,UT,UV,UX,UY,UZ,Ta,Tb,Tc,Td,Te,Tf,Ti,Tq,Ts]; all_goals tactic => exact rfl))
          · exact rd3
          · rw [ht,oS_ne hcn,oG_ne hcn]
            (sym => (simp [Za,Zb,Zd,Ze,Zf,Zh,Zl,Zm,Zn,Zu,Z0,Z2,Z5,Z6,Z8,ZD,ZF,ZR,ZX,ZY,Ya,Yb,Yc,Yd,Ye,Yf,Yh,Yk,Yp,Yr,Yv,Yw,Y0,Y1,YK,YO,YP,YQ,YT,YX,Xd,Xh,Xi,Xj,Xl,XW,We,Wf,Wg,Wh,Wi,Wj,Wk,Wl,Wn,Wo,Wp,Wr,Ws,Wu,Wv,Ww,Wy,W0,W3,W4,W5,WA,WB,WF,Vt,Vu,Vv,Vw,Vx,Vy,Vz,V2,V3,V4,V5,V6,V8,V9,VA,VB,VC,VD,VF,VO,VS,VT,VU,VV,VW,VY,VZ,Ua,Ub,Uc,Ud,Uk,Ul,Um,Un,Uv,Uw,Ux,Uy,U2,U3,U4,U5,U6,U7,U8,U9,UA,UB,UC,UE,UH,UI,UJ,UK,UL,UM,UN,UP,UQ,UR,US,UT,UV,UX,UY,UZ,Ta,Tb,Tc,Td,Te,Tf,Ti,Tq,Ts,z]; all_goals tactic => exact rfl))
end
end Go.Proofs.YtpbeclkpohehgaaDoor
namespace Go.Proofs.YtpbeclkpohehgaaDoor
open Go Go.DL
set_option maxRecDepth 100000
set_option maxHeartbeats 4000000
section
variable {l : Li}
theorem w40 (g : Good l) (hf : l.Fit) {us : List Nat} (hu : ∀ v ∈ us,v < 256) (hul : us.length ≤ maxLen) : runW progX 40 [.agg l.c,.fs (us.map fun v => [B8 v])] [] = some (rI (ofN (byO us l.ls.length (behF l.ts))),[]) := by
  have hn := g.few
  have p := g.prec
  have rd : ∀ i,i < l.ls.length → headX 0 [1,2,5,6] (execW progX 40 0 none (match x40l4 with | .loop _ a => a | c => c) (envL [1,2,5,6] [.fs (us.map fun v => [B8 v]),.pt 0 0,oS 1 (ofN (byS us l.ls.length (behF l.ts) i).2),I (i : Nat)]) ([some (.blk true (.cells true l.c))] ++ oG (ofN (byS us l.ls.length (behF l.ts) i).2))) =
      some ([.fs (us.map fun v => [B8 v]),.pt 0 0,oS 1 (ofN (byS us l.ls.length (behF l.ts) (i + 1)).2),I (i + 1 : Nat)],[some (.blk true (.cells true l.c))] ++ oG (ofN (byS us l.ls.length (behF l.ts) (i + 1)).2)) := by
    intro i hi
    obtain ⟨h1,h2,h3,h4,h5,h6⟩ := by_st us p hn i (by omega)
    obtain ⟨q0,q1,q2⟩ := pk_can (us := us) (i := i) p hn h1 (by omega)
    have e4 := ofN_len (byS us l.ls.length (behF l.ts) i).2
    have e := round40e g hf hu hul hi (os := ofN (byS us l.ls.length (behF l.ts) i).2) (by omega) h1 (fun j => by
      rw [met_bit (fun v hv => by
        unfold ofN at hv
        obtain ⟨x,_,rfl⟩ := List.mem_map.1 hv
        exact Int.natCast_nonneg x) j,e4,h3,← h5]) q0
    have e2 : ofN (byS us l.ls.length (behF l.ts) i).2 ++ [(pkO us l.ls.length (behF l.ts) (byS us l.ls.length (behF l.ts) i).1 i : Int)] = ofN (byS us l.ls.length (behF l.ts) (i + 1)).2 := by unfold ofN; rw [byS,List.map_append]; rfl
    rw [e2] at e
    exact e
  have h0 : ofN (byS us l.ls.length (behF l.ts) 0).2 = [] := rfl
  have hl : (ofN (byS us l.ls.length (behF l.ts) l.ls.length).2).length = l.ls.length := by rw [ofN_len]; exact (by_st us p hn _ (Nat.le_refl _)).2.2.1
  unfold byO
  generalize ht : ofN (byS us l.ls.length (behF l.ts) l.ls.length).2 = o at *
  have z := U8 (n := (l.ls.length : Int))
  generalize behF l.ts = b at *
  rw [r40 (by simp)]; unfold x40; dsimp only
  sym =>
    simp [Za,Zb,Zf,Zh,Zl,Zm,Zn,Zu,Zy,Z2,Z6,ZD,ZF,ZY,Ya,Yb,Yc,Yr,Y1,YK,YO,YQ,YT,YX,YY,YZ,Xd,Xh,Xj,Xl,Xt,Xv,XI,XL,XN,XP,XU,XX,We,Wf,Wg,Wh,Wm,Wn,Wo,Wr,Ws,Wu,Wv,Ww,Wy,W0,W3,W4,W5,WA,WB,WF,WQ,WR,WS,WT,WU,Vc,Ve,Vf,Vg,Vh,Vi,Vj,Vk,Vl,Vn,Vo,Vp,Vq,Vs,Vt,Vu,Vv,Vw,Vy,Vz,V1,V2,V3,V4,V5,V6,V8,VA,VB,VD,VF,VO,VS,VU,VY,VZ,Ua,Ub,Uc,Ud,Ui,Uj,Ut,Uu,U8,U9,UA,UE,UH,UM,UN,UO,UQ,UR,US,UT,UX,UY,UZ,Ta,Td,Te,Tf,Tg,Th,Tq,Ts,Tz,T3,T4]
    tactic =>
      unfold x40l4
      rw [loop_rule l.ls.length (fun i => [.fs (us.map fun v => [B8 v]),.pt 0 0,oS 1 (ofN (byS us l.ls.length b i).2),I (i : Nat)]) (fun i => [some (.blk true (.cells true l.c))] ++ oG (ofN (byS us l.ls.length b i).2))]
      · rw [ht]
        by_cases ho : o = []
        · subst ho
          have z0 : ((0 : Int) < (l.ls.length : Int)) = False := eq_false (by rw [List.length_nil] at hl; omega)
          rw [Tq,Ts]
          (sym => (simp [Za,Zb,Zf,Zh,Zl,Zm,Zn,Zu,Zy,Z2,Z6,ZD,ZF,ZY,Ya,Yb,Yc,Yr,Y1,YK,YO,YQ,YT,YX,YY,YZ,Xd,Xh,Xj,Xl,Xt,Xv,XI,XL,XN,XP,XU,XX,We,Wf,Wg,Wh,Wm,Wn,Wo,Wr,Ws,Wu,Wv,Ww,Wy,W0,W3,W4,W5,WA,WB,WF,WQ,WR,WS,WT,WU,Vc,Ve,Vf,Vg,Vh,Vi,Vj,Vk,Vl,Vn,Vo,Vp,Vq,Vs,Vt,Vu,Vv,Vw,Vy,Vz,V1,V2,V3,V4,V5,V6,V8,VA,VB,VD,VF,VO,VS,VU,VY,VZ,Ua,Ub,Uc,Ud,Ui,Uj,Ut,Uu,U8,U9,UA,UE,UH,UM,UN,UO,UQ,UR,US,UT,UX,UY,UZ,Ta,Td,Te,Tf,Tg,Th,Tq,Ts,Tz,T3,T4,z0]; all_goals tactic => exact rfl))
        · have z2 : ((o.length : Int) < (l.ls.length : Int)) = False := eq_false (by omega)
          rw [oS_ne ho,oG_ne ho]
          (sym => (simp [Za,Zb,Zf,Zh,Zl,Zm,Zn,Zu,Zy,Z2,Z6,ZD,ZF,ZY,Ya,Yb,Yc,Yr,Y1,YK,YO,YQ,YT,YX,YY,YZ,Xd,Xh,Xj,Xl,Xt,Xv,XI,XL,XN,XP,XU,XX,We,Wf,Wg,Wh,Wm,Wn,Wo,Wr,Ws,Wu,Wv,Ww,Wy,W0,W3,W4,W5,WA,WB,WF,WQ,WR,WS,WT,WU,Vc,Ve,Vf,Vg,Vh,Vi,Vj,Vk,Vl,Vn,Vo,Vp,Vq,Vs,Vt,Vu,Vv,Vw,Vy,Vz,V1,V2,V3,V4,V5,V6,V8,VA,VB,VD,VF,VO,VS,VU,VY,VZ,Ua,Ub,Uc,Ud,Ui,Uj,Ut,Uu,U8,U9,UA,UE,UH,UM,UN,UO,UQ,UR,US,UT,UX,UY,UZ,Ta,Td,Te,Tf,Tg,Th,Tq,Ts,Tz,T3,T4,z2]; all_goals tactic => exact rfl))
      · rw [h0]
        (sym => (simp [Za,Zb,Zf,Zh,Zl,Zm,Zn,Zu,Zy,Z2,Z6,ZD,ZF,ZY,Ya,Yb,Yc,Yr,Y1,YK,YO,YQ,YT,YX,YY,YZ,Xd,Xh,Xj,Xl,Xt,Xv,XI,XL,XN,XP,XU,XX,We,Wf,Wg,Wh,Wm,Wn,Wo,Wr,Ws,Wu,Wv,Ww,Wy,W0,W3,W4,W5,WA,WB,WF,WQ,WR,WS,WT,WU,Vc,Ve,Vf,Vg,Vh,Vi,Vj,Vk,Vl,Vn,Vo,Vp,Vq,Vs,Vt,Vu,Vv,Vw,Vy,Vz,V1,V2,V3,V4,V5,V6,V8,VA,VB,VD,VF,VO,VS,VU,VY,VZ,Ua,Ub,Uc,Ud,Ui,Uj,Ut,Uu,U8,U9,UA,UE,UH,UM,UN,UO,UQ,UR,US,UT,UX,UY,UZ,Ta,Td,Te,Tf,Tg,Th,Tq,Ts,Tz,T3,T4]; all_goals tactic => exact rfl))
      · exact rd
      · rw [ht]
        by_cases ho : o = []
        · subst ho
          have z0 : ((0 : Int) < (l.ls.length : Int)) = False := eq_false (by rw [List.length_nil] at hl; omega)
          rw [Tq,Ts]
          (sym => (simp [Za,Zb,Zf,Zh,Zl,Zm,Zn,Zu,Zy,Z2,Z6,ZD,ZF,ZY,Ya,Yb,Yc,Yr,Y1,YK,YO,YQ,YT,YX,YY,YZ,Xd,Xh,Xj,Xl,Xt,Xv,XI,XL,XN,XP,XU,XX,We,Wf,Wg,Wh,Wm,Wn,Wo,Wr,Ws,Wu,Wv,Ww,Wy,W0,W3,W4,W5,WA,WB,WF,WQ,WR,WS,WT,WU,Vc,Ve,Vf,Vg,Vh,Vi,Vj,Vk,Vl,Vn,Vo,Vp,Vq,Vs,Vt,Vu,Vv,Vw,Vy,Vz,V1,V2,V3,V4,V5,V6,V8,VA,VB,VD,VF,VO,VS,VU,VY,VZ,Ua,Ub,Uc,Ud,Ui,Uj,Ut,Uu,U8,U9,UA,UE,UH,UM,UN,UO,UQ,UR,US,UT,UX,UY,UZ,Ta,Td,Te,Tf,Tg,Th,Tq,Ts,Tz,T3,T4,z0]; all_goals tactic => exact rfl))
        · have z2 : ((o.length : Int) < (l.ls.length : Int)) = False := eq_false (by omega)
          rw [oS_ne ho,oG_ne ho]
          (sym => (simp [Za,Zb,Zf,Zh,Zl,Zm,Zn,Zu,Zy,Z2,Z6,ZD,ZF,ZY,Ya,Yb,Yc,Yr,Y1,YK,YO,YQ,YT,YX,YY,YZ,Xd,Xh,Xj,Xl,Xt,Xv,XI,XL,XN,XP,XU,XX,We,Wf,Wg,Wh,Wm,Wn,Wo,Wr,Ws,Wu,Wv,Ww,Wy,W0,W3,W4,W5,WA,WB,WF,WQ,WR,WS,WT,WU,Vc,Ve,Vf,Vg,Vh,Vi,Vj,Vk,Vl,Vn,Vo,Vp,Vq,Vs,Vt,Vu,Vv,Vw,Vy,Vz,V1,V2,V3,V4,V5,V6,V8,VA,VB,VD,VF,VO,VS,VU,VY,VZ,Ua,Ub,Uc,Ud,Ui,Uj,Ut,Uu,U8,U9,UA,UE,UH,UM,UN,UO,UQ,UR,US,UT,UX,UY,UZ,Ta,Td,Te,Tf,Tg,Th,Tq,Ts,Tz,T3,T4,z2]; all_goals tactic => exact rfl))
end
end Go.Proofs.YtpbeclkpohehgaaDoor
namespace Go.Proofs.YtpbeclkpohehgaaDoor
open Go Go.DL
set_option maxRecDepth 100000
set_option maxHeartbeats 4000000
end Go.Proofs.YtpbeclkpohehgaaDoor
namespace Go.Proofs.YtpbeclkpohehgaaDoor
open Go Go.DL
set_option maxRecDepth 100000
set_option maxHeartbeats 4000000
end Go.Proofs.YtpbeclkpohehgaaDoor
namespace Go.Proofs.YtpbeclkpohehgaaDoor
open Go Go.DL
set_option maxRecDepth 100000
set_option maxHeartbeats 4000000
theorem eA_at {l : Li} {o : List Int} {n : Nat} (ho : ∀ i,i < n → 0 ≤ o.getD i 0 ∧ o.getD i 0 < l.ls.length) (hf : ∀ j,j < n → (allT o 0 j).testBit (o.getD j 0).toNat = false) : ∀ m,m ≤ n → ∀ i,i < m → (eA l o m)[(o.getD i 0).toNat]? = some ⟨nwL l o (i + 1),nwH l o (i + 1)⟩
  | 0,_,i,hi => by omega
  | m + 1,hm,i,hi => by
    have ih := eA_at ho hf m (by omega)
    have hl := eA_len l o m
    have b1 := ho m (by omega)
    rw [eA]
    by_cases him : i = m
    · subst him
      exact List.getElem?_set_self (by omega)
    · have hne : (o.getD m 0).toNat ≠ (o.getD i 0).toNat := by
        intro hc
        have h1 : (allT o 0 m).testBit (o.getD m 0).toNat = true := allT_bit.2 (.inr ⟨i,by omega,hc.symm⟩)
        rw [hf m (by omega)] at h1
        simp at h1
      rw [List.getElem?_set_ne hne]
      exact ih i (by omega)
end Go.Proofs.YtpbeclkpohehgaaDoor
namespace Go.Proofs.YtpbeclkpohehgaaDoor
open Go Go.DL
set_option maxRecDepth 100000
set_option maxHeartbeats 4000000
theorem fresh_of {l : Li} {o : List Int} (hord : orderE l.ls.length (behF l.ts) o = 0) : ∀ j,j < l.ls.length → (allT o 0 j).testBit (o.getD j 0).toNat = false := by
  intro i hi
  obtain ⟨hl,hoe,ho⟩ := ord_of hord
  have he := hoe i hi
  rcases ordE_of (n := l.ls.length) (b := behF l.ts) (a := allT o 0 i) (o.getD i 0) with ⟨_,_,h,_,_⟩ | ⟨_,_,h,_,_⟩ | ⟨_,_,_,h⟩ | ⟨_,h⟩
  · exact h
  · exact h
  · rw [he] at h; simp at h
  · rw [he] at h; simp at h
end Go.Proofs.YtpbeclkpohehgaaDoor
namespace Go.Proofs.YtpbeclkpohehgaaDoor
open Go Go.DL
set_option maxRecDepth 100000
set_option maxHeartbeats 4000000
end Go.Proofs.YtpbeclkpohehgaaDoor
namespace Go.Proofs.YtpbeclkpohehgaaDoor
open Go Go.DL
set_option maxRecDepth 100000
set_option maxHeartbeats 4000000
end Go.Proofs.YtpbeclkpohehgaaDoor
namespace Go.Proofs.YtpbeclkpohehgaaDoor
open Go Go.DL
set_option maxRecDepth 100000
set_option maxHeartbeats 4000000
def pkT (us : List Nat) (i : Nat) (lo hi : Int) : Int := if us.length = 0 then lo else lo + tmZ ((us.getD (i % us.length) 0 : Nat) : Int) (hi - lo + 1)
theorem tm_bd {u : Nat} {m : Int} (h : 0 < m) : 0 ≤ tmZ (u : Int) m ∧ tmZ (u : Int) m < m := ⟨Int.tmod_nonneg _ (by omega),Int.tmod_lt_of_pos _ h⟩
theorem pk_bd (us : List Nat) (i : Nat) {lo hi : Int} (h : lo ≤ hi) : lo ≤ pkT us i lo hi ∧ pkT us i lo hi ≤ hi := by
  unfold pkT
  split
  · omega
  · have := tm_bd (u := us.getD (i % us.length) 0) (m := hi - lo + 1) (by omega)
    omega
abbrev cB8 (us : List Nat) : Option XB := some (.blk true (.cells true [.fs (us.map fun v => [B8 v])]))
theorem w42 {us : List Nat} (hu : ∀ v ∈ us,v < 256) (hul : us.length ≤ maxLen) {i : Nat} (hi : i ≤ 1000) {a b : Int} (ha : 0 ≤ a) (hab : a ≤ b) (hb : b ≤ 1000000) : runW progX 42 [I i,.agg [I a,I b],.pt 0 0] [cB8 us] = some (I (pkT us i a b),[cB8 us]) := by
  have bd := pk_bd us i hab
  by_cases h0 : us.length = 0
  · have e : pkT us i a b = a := if_pos h0
    have c1 : ((us.length : Int) = 0) = True := eq_true (by omega)
    rw [e]
    rw [r42 (by simp)]; unfold x42; dsimp only
    (sym => (simp [irem2,iquo2,remF,Za,Zb,Zf,Zh,Zi,Zl,Zm,Zn,Zu,Zy,Z2,Z5,Z6,Z8,ZD,ZF,ZG,ZH,ZI,ZX,ZY,Ya,Ye,Yf,Yh,Yi,Yp,Yv,Yw,YK,YX,YY,Xd,Xo,XL,XN,XQ,XX,We,Wf,Wg,Wm,Wn,Wu,Wy,W0,W3,W4,WA,WB,WE,WF,WT,Vf,Vg,Vh,Vi,Vj,Vk,Vl,Vn,Vo,Vp,Vq,Vs,Vw,Vx,Vy,V1,V2,V3,V4,V5,V6,V7,V8,V9,VA,VB,VC,VD,VF,VO,VT,VU,VY,VZ,Uc,Ud,Ui,Uj,Ut,Uu,U9,UA,UB,UC,UE,UH,UM,UN,UO,UP,US,UU,UZ,Ta,Tz,c1]; all_goals tactic => exact rfl))
  · have e : pkT us i a b = a + tmZ ((us.getD (i % us.length) 0 : Nat) : Int) (b - a + 1) := if_neg h0
    have c1 : ((us.length : Int) = 0) = False := eq_false (by omega)
    have hm : i % us.length < us.length := Nat.mod_lt _ (by omega)
    have c2 : tmZ (i : Int) (us.length : Int) = ((i % us.length : Nat) : Int) := tmod_n _ _
    obtain ⟨u,hux⟩ := at_ix hm
    rw [getD_of hux] at e
    have hub := hu u (List.mem_of_getElem? hux)
    generalize i % us.length = j at *
    have c3 := lt_ix hm
    have c4 := wr8 hub
    have tb := tm_bd (u := u) (m := b - a + 1) (by omega)
    have q1 : IntKind.i64.wrap (b - a) = b - a := wrap_ok (by omega) (by omega)
    have q2 : IntKind.i64.wrap (b - a + 1) = b - a + 1 := wrap_ok (by omega) (by omega)
    have q3 : (b - a + 1 = 0) = False := eq_false (by omega)
    have q4 : IntKind.i64.wrap (a + tmZ (u : Int) (b - a + 1)) = pkT us i a b := by rw [e]; exact wrap_ok (by omega) (by omega)
    clear e
    generalize hp : pkT us i a b = p at *
    generalize hw : b - a + 1 = w at *
    rw [r42 (by simp)]; unfold x42; dsimp only
    (sym => (simp [irem2,iquo2,remF,Za,Zb,Zf,Zh,Zi,Zl,Zm,Zn,Zu,Zy,Z2,Z5,Z6,Z8,ZD,ZF,ZG,ZH,ZI,ZX,ZY,Ya,Ye,Yf,Yh,Yi,Yp,Yv,Yw,YK,YX,YY,Xd,Xo,XL,XN,XQ,XX,We,Wf,Wg,Wm,Wn,Wu,Wy,W0,W3,W4,WA,WB,WE,WF,WT,Vf,Vg,Vh,Vi,Vj,Vk,Vl,Vn,Vo,Vp,Vq,Vs,Vw,Vx,Vy,V1,V2,V3,V4,V5,V6,V7,V8,V9,VA,VB,VC,VD,VF,VO,VT,VU,VY,VZ,Uc,Ud,Ui,Uj,Ut,Uu,U9,UA,UB,UC,UE,UH,UM,UN,UO,UP,US,UU,UZ,Ta,Tz,c1,c2,hux,c3,c4,q1,hw,q2,q3,q4]; all_goals tactic => exact rfl))
def nowT (us : List Nat) (l : Li) (o : List Int) : Nat → Int
  | 0 => pkT us 0 l.lo l.hi
  | i + 1 => nowT us l o i + pkT us (2 * i + 1) (ldAt l (o.getD i 0)).cl (ldAt l (o.getD i 0)).ch
theorem now_bd {l : Li} (g : Good l) (us : List Nat) {o : List Int} {n : Nat} (ho : ∀ i,i < n → 0 ≤ o.getD i 0 ∧ o.getD i 0 < l.ls.length) : ∀ i,i ≤ n → nwL l o i ≤ nowT us l o i ∧ nowT us l o i ≤ nwH l o i
  | 0,_ => by
    have st := inSF.1 g.start
    rw [nwL,nwH,nowT]
    exact pk_bd us 0 (by omega)
  | i + 1,hi => by
    have ih := now_bd g us ho i (by omega)
    obtain ⟨x,k,h1,h2,h3,h4,h5,h6,h7,h8⟩ := g.ld (ho i (by omega))
    rw [nwL,nwH,nowT,h2]
    have := pk_bd us (2 * i + 1) (lo := x.cl) (hi := x.ch) (by omega)
    omega
theorem sA_at {l : Li} {o : List Int} {n : Nat} (ho : ∀ i,i < n → 0 ≤ o.getD i 0 ∧ o.getD i 0 < l.ls.length) (hf : ∀ j,j < n → (allT o 0 j).testBit (o.getD j 0).toNat = false) : ∀ m,m ≤ n → ∀ i,i < m → (sA l o m)[(o.getD i 0).toNat]? = some ⟨soLo l o i,soHi l o i⟩
  | 0,_,i,hi => by omega
  | m + 1,hm,i,hi => by
    rw [sA,List.getElem?_set]
    by_cases e : (o.getD m 0).toNat = (o.getD i 0).toNat
    · by_cases him : i = m
      · subst him
        have := ho i (by omega)
        rw [if_pos rfl,if_pos (by rw [sA_len]; omega)]
      · exfalso
        have h1 := hf m (by omega)
        rw [e] at h1
        have : (allT o 0 m).testBit (o.getD i 0).toNat = true := allT_bit.2 (.inr ⟨i,by omega,rfl⟩)
        rw [h1] at this
        simp at this
    · rw [if_neg e]
      have him : i ≠ m := fun h => e (by rw [h])
      exact sA_at ho hf m (by omega) i (by omega)
theorem ms_ge {l : Li} {o : List Int} : ∀ n i,i < n → soHi l o i ≤ msN l o n
  | 0,i,hi => by omega
  | n + 1,i,hi => by
    rw [msN]
    have h := mx_l (msN l o n) (soHi l o n)
    by_cases e : i = n
    · subst e; exact h.2
    · have := ms_ge n i (by omega) (l := l) (o := o)
      omega
end Go.Proofs.YtpbeclkpohehgaaDoor
namespace Go.Proofs.YtpbeclkpohehgaaDoor
open Go Go.DL
set_option maxRecDepth 100000
set_option maxHeartbeats 4000000
abbrev h8 (l : Li) (us : List Nat) : XH := [some (.blk true (.cells true l.c)),cB8 us]
theorem round8 {l : Li} {us : List Nat} (hu : ∀ v ∈ us,v < 256) (hul : us.length ≤ maxLen) {o : List Int} (h : runE l o = 0) {i : Nat} (hi : i < o.length) :
    headX 0 [7,9,10,12,14,15,16,17,79,80,81] (execW progX 8 0 none (match x8l0 with | .loop _ a => a | c => c) (envL [7,9,10,12,14,15,16,17,79,80,81] [.pt 0 0,sR (eA l o o.length),sR (sA l o o.length),I (msN l o o.length),.fn (.func 42) [] [.pt 1 0],I (nowT us l o i),I (nwL l o i),I (nwH l o i),rI o,I o.length,I (i : Nat)]) (h8 l us)) =
      some ([.pt 0 0,sR (eA l o o.length),sR (sA l o o.length),I (msN l o o.length),.fn (.func 42) [] [.pt 1 0],I (nowT us l o (i + 1)),I (nwL l o (i + 1)),I (nwH l o (i + 1)),rI o,I o.length,I (i + 1 : Nat)],h8 l us) := by
  obtain ⟨g,hl,hord⟩ := runE_len h
  obtain ⟨_,_,ho⟩ := ord_of hord
  have hn := g.few
  obtain ⟨v,hv⟩ := at_ix hi
  have hvn : o.getD i 0 = v := getD_of hv
  have hv2 := ho i (by omega)
  have bd1 := nw_bd g ho i (by omega)
  have bd2 := nw_bd g ho (i + 1) (by omega)
  have nb1 := now_bd g us ho i (by omega)
  have nb2 := now_bd g us ho (i + 1) (by omega)
  have e1 := eA_at ho (fresh_of hord) o.length (by omega) i hi
  have e2 := sA_at ho (fresh_of hord) o.length (by omega) i hi
  have l1 := eA_len l o o.length
  have l2 := sA_len l o o.length
  have f1 : soLo l o i = sourF (knAt l (ldAt l v)) ((ldAt l v).al + nwL l o (i + 1)) := by rw [soLo,hvn]
  have f2 : soHi l o i = sourF (knAt l (ldAt l v)) ((ldAt l v).ah + nwH l o (i + 1)) := by rw [soHi,hvn]
  have f3 : nwL l o (i + 1) = nwL l o i + (ldAt l v).cl := by rw [nwL,hvn]
  have f4 : nwH l o (i + 1) = nwH l o i + (ldAt l v).ch := by rw [nwH,hvn]
  have f5 : nowT us l o (i + 1) = nowT us l o i + pkT us (2 * i + 1) (ldAt l v).cl (ldAt l v).ch := by rw [nowT,hvn]
  have f6 := ms_ge (l := l) (o := o) o.length i hi
  rw [hvn] at hv2 e1 e2
  obtain ⟨x,k,h1,h2,h3,h4,h5,h6,h7,h8⟩ := g.ld hv2
  rw [h2] at f1 f2 f3 f4 f5
  rw [h5] at f1 f2
  have p1 := pk_bd us (2 * i + 1) (lo := x.cl) (hi := x.ch) (by omega)
  have p2 := pk_bd us (2 * i + 2) (lo := x.al) (hi := x.ah) (by omega)
  have wa1 := w42 hu hul (i := 2 * i + 1) (by omega) (a := x.cl) (b := x.ch) (by omega) (by omega) (by omega)
  have wa2 := w42 hu hul (i := 2 * i + 2) (by omega) (a := x.al) (b := x.ah) (by omega) (by omega) (by omega)
  have wa3 := w43 k (nowT us l o (i + 1) + pkT us (2 * i + 2) x.al x.ah) h6
  have m1 := so_mono g h4 (m := x.al + nwL l o (i + 1)) (m' := nowT us l o (i + 1) + pkT us (2 * i + 2) x.al x.ah) (by omega)
  have m2 := so_mono g h4 (m := nowT us l o (i + 1) + pkT us (2 * i + 2) x.al x.ah) (m' := x.ah + nwH l o (i + 1)) (by omega)
  have wa4 := w43 k (nwL l o (i + 1) + x.al) h6
  have wa5 := w43 k (nwH l o (i + 1) + x.ah) h6
  rw [show nwL l o (i + 1) + x.al = x.al + nwL l o (i + 1) by omega,← f1] at wa4
  rw [show nwH l o (i + 1) + x.ah = x.ah + nwH l o (i + 1) by omega,← f2] at wa5
  rw [← f1] at m1
  rw [← f2] at m2
  have wa6 := w44 (nwL l o (i + 1)) (nwH l o (i + 1))
  have wa7 := w44 (soLo l o i) (soHi l o i)
  have c0 : ((2 * i + 1 : Nat) : Int) = 2 * (i : Int) + 1 := by omega
  have c0' : ((2 * i + 2 : Nat) : Int) = 2 * (i : Int) + 2 := by omega
  rw [c0] at wa1
  rw [c0'] at wa2
  have a1 := lt_ix hi
  have a2 := up_ix hi (by omega)
  have c1 : (0 ≤ v) = True := eq_true (by omega)
  have c2 : (v < (l.ls.length : Int)) = True := eq_true (by omega)
  have c3 : (0 ≤ x.k) = True := eq_true (by omega)
  have c4 : (x.k < (l.ks.length : Int)) = True := eq_true (by omega)
  have c5 : (v < ((eA l o o.length).length : Int)) = True := eq_true (by omega)
  have c6 : (v < ((sA l o o.length).length : Int)) = True := eq_true (by omega)
  have q0 : IntKind.i64.wrap (2 * (i : Int)) = 2 * (i : Int) := wrap_ok (by omega) (by omega)
  have q1 : IntKind.i64.wrap (2 * (i : Int) + 1) = 2 * (i : Int) + 1 := wrap_ok (by omega) (by omega)
  have q2 : IntKind.i64.wrap (2 * (i : Int) + 2) = 2 * (i : Int) + 2 := wrap_ok (by omega) (by omega)
  have q3 : IntKind.i64.wrap (nowT us l o i + pkT us (2 * i + 1) x.cl x.ch) = nowT us l o (i + 1) := by rw [← f5]; exact wrap_ok (by omega) (by omega)
  have q4 : IntKind.i64.wrap (nwL l o i + x.cl) = nwL l o (i + 1) := by rw [← f3]; exact wrap_ok (by omega) (by omega)
  have q5 : IntKind.i64.wrap (nwH l o i + x.ch) = nwH l o (i + 1) := by rw [← f4]; exact wrap_ok (by omega) (by omega)
  have q6 : IntKind.i64.wrap (nowT us l o (i + 1) + pkT us (2 * i + 2) x.al x.ah) = nowT us l o (i + 1) + pkT us (2 * i + 2) x.al x.ah := wrap_ok (by omega) (by omega)
  have q7 : IntKind.i64.wrap (nwL l o (i + 1) + x.al) = x.al + nwL l o (i + 1) := by rw [Int.add_comm]; exact wrap_ok (by omega) (by omega)
  have q8 : IntKind.i64.wrap (nwH l o (i + 1) + x.ah) = x.ah + nwH l o (i + 1) := by rw [Int.add_comm]; exact wrap_ok (by omega) (by omega)
  have d1 : (nowT us l o (i + 1) < nwL l o (i + 1)) = False := eq_false (by omega)
  have d2 : (nwH l o (i + 1) < nowT us l o (i + 1)) = False := eq_false (by omega)
  generalize sourF k (nowT us l o (i + 1) + pkT us (2 * i + 2) x.al x.ah) = sn at *
  have d3 : (sn < soLo l o i) = False := eq_false (by omega)
  have d4 : (soHi l o i < sn) = False := eq_false (by omega)
  have d5 : (msN l o o.length < sn) = False := eq_false (by omega)
  clear f1 f2 f3 f4 f5 f6 h5 h2 m1 m2 l1 l2
  generalize nwL l o (i + 1) = nl at *
  generalize nwH l o (i + 1) = nh at *
  generalize nowT us l o (i + 1) = nt at *
  generalize soLo l o i = sl at *
  generalize soHi l o i = sh at *
  generalize pkT us (2 * i + 1) x.cl x.ch = pa at *
  generalize pkT us (2 * i + 2) x.al x.ah = pb at *
  generalize msN l o o.length = mw at *
  generalize eA l o o.length = es at *
  generalize sA l o o.length = ss at *
  obtain ⟨E,e1,E1,E2⟩ : ∃ E : Sp,es[v.toNat]? = some E ∧ E.lo = nl ∧ E.hi = nh := ⟨_,e1,rfl,rfl⟩
  obtain ⟨F,e2,F1,F2⟩ : ∃ F : Sp,ss[v.toNat]? = some F ∧ F.lo = sl ∧ F.hi = sh := ⟨_,e2,rfl,rfl⟩
  unfold x8l0
  dsimp only
  (sym => (simp [irem2,iquo2,remF,Za,Zb,Zc,Zd,Ze,Zf,Zg,Zh,Zj,Zk,Zl,Zm,Zo,Zq,Zu,Zv,Zx,Z2,Z3,Z6,Z8,ZF,ZG,ZH,ZI,ZJ,ZK,ZL,ZN,ZO,ZP,ZQ,ZS,ZT,ZV,ZY,ZZ,Ye,Yf,Yh,Yj,Yr,Yt,Yv,Yw,YE,YF,YK,YM,YO,YQ,YV,YX,Xd,Xf,Xh,Xj,Xn,Xs,XP,XX,We,Wf,Wg,Wh,Wi,Wj,Wk,Wl,Wn,Wo,Wp,Wq,Wr,Ws,Wu,Wv,Ww,Wx,Wy,Wz,W0,W3,W4,W5,W6,W7,W8,WA,WB,WF,WH,WI,WJ,WK,WL,WM,WN,WO,WP,WT,WV,WW,WX,WY,WZ,Va,Vt,Vu,Vv,Vw,Vx,Vy,V2,V3,V4,V5,V6,V8,V9,VA,VB,VC,VD,VF,VI,VJ,VK,VL,VO,VS,VT,VU,VV,VW,VX,VY,VZ,Ua,Ub,Uc,Ud,Uk,Uo,Uq,Ur,Us,U9,UA,UB,UC,UD,UE,UF,UG,UM,UN,UP,UR,US,UV,UY,UZ,Ta,Tf,Tz,T5,T6,T7,T8,TD,TE,TF,TG,E1,E2,F1,F2,a1,a2,hv,h1,h4,c1,c2,c3,c4,c5,c6,q0,q1,q2,q3,q4,q5,q6,q7,q8,wa1,wa2,wa3,wa4,wa5,wa6,wa7,e1,e2,d1,d2,d3,d4,d5]; all_goals tactic => exact rfl))
end Go.Proofs.YtpbeclkpohehgaaDoor
namespace Go.Proofs.YtpbeclkpohehgaaDoor
open Go Go.DL
set_option maxRecDepth 100000
set_option maxHeartbeats 4000000
theorem w8 {q : Qu} (hq : q.Ok) {bs : List Nat} (hb : ∀ v ∈ bs,v < 256) (hbl : bs.length ≤ maxLen) {us : List Nat} (hu : ∀ v ∈ us,v < 256) (hul : us.length ≤ maxLen) : runW progX 8 [.agg q.c,.fs (bs.map fun v => [B8 v]),.fs (us.map fun v => [B8 v])] [] = some (.bool true,[]) := by
  have e39 := w39 hq
  have hc := md_good hq
  have hf := md_fit q
  generalize mdL q = l at *
  have g := good_of hc
  have hn := g.few
  have e40 := w40 g hf hb hbl
  have hv := by_vld bs g.prec hn
  have hr := ord_ok g hc hv
  have hwo := worst_ms hr
  generalize ofN (byO bs l.ls.length (behF l.ts)) = o at *
  obtain ⟨_,hl,hord⟩ := runE_len hr
  obtain ⟨_,_,ho⟩ := ord_of hord
  have e41 := w41 g (o := o) (by omega) (fun i hi => ho i (by omega))
  have e17 := w17 l hf o
  unfold runR at e17
  rw [if_pos hr] at e17
  have e19 := w19 l hf o
  unfold worR at e19
  rw [if_pos hr,hwo] at e19
  have st := inSF.1 g.start
  have w0 : runW progX 42 [I 0,.agg [I l.lo,I l.hi],.pt 0 0] [cB8 us] = some (I (nowT us l o 0),[cB8 us]) := w42 hu hul (i := 0) (by omega) (a := l.lo) (b := l.hi) (by omega) (by omega) (by omega)
  have rd := fun i (hi : i < o.length) => round8 hu hul hr hi
  have s1 : nwL l o 0 = l.lo := rfl
  have s2 : nwH l o 0 = l.hi := rfl
  have l1 : (eA l o o.length).length = o.length := by rw [eA_len]; omega
  have l2 : (sA l o o.length).length = o.length := by rw [sA_len]; omega
  have z := U8 (n := (o.length : Int))
  generalize eA l o o.length = es at *
  generalize sA l o o.length = ss at *
  generalize msN l o o.length = mw at *
  rw [r8 (by simp)]; unfold x8; dsimp only
  sym =>
    simp [irem2,iquo2,remF,Za,Zb,Zc,Zd,Ze,Zf,Zg,Zh,Zj,Zk,Zl,Zm,Zn,Zo,Zq,Zu,Zv,Zw,Zx,Zy,Z2,Z6,ZC,ZD,ZF,ZG,ZI,ZJ,ZK,ZL,ZN,ZO,ZP,ZQ,ZS,ZT,ZV,ZY,Ya,Yg,Yq,Yr,Y1,YK,YL,YM,YO,YQ,YV,YX,YY,YZ,Xc,Xd,Xe,Xf,Xg,Xh,Xj,Xn,Xp,Xs,XL,XM,XN,XP,XX,XY,We,Wf,Wg,Wh,Wi,Wj,Wk,Wl,Wm,Wn,Wo,Wp,Wq,Wr,Ws,Wu,Wv,Ww,Wx,Wy,Wz,W0,W3,W4,W5,W6,W7,W8,WA,WB,WF,WH,WI,WJ,WK,WL,WM,WN,WO,WP,WT,WV,WW,WX,WY,WZ,Va,Vf,Vg,Vh,Vi,Vj,Vk,Vl,Vn,Vo,Vp,Vq,Vs,Vt,Vu,Vv,Vw,Vy,Vz,V1,V2,V3,V4,V5,V6,V8,V9,VA,VB,VD,VE,VF,VI,VJ,VK,VL,VO,VS,VT,VU,VV,VW,VX,VY,VZ,Ua,Ub,Uc,Ud,Ui,Uj,Uk,Ut,Uu,U8,U9,UA,UD,UE,UF,UG,UH,UM,UN,UO,UP,UQ,UR,US,UT,UX,UY,UZ,Ta,Tf,Tz,T5,T6,T7,T8,T9,TD,TE,TF,TG,e39,e40,e17,e19,e41,l1,l2,w0]
    tactic =>
      unfold x8l0
      rw [loop_rule o.length (fun i => [.pt 0 0,sR es,sR ss,I mw,.fn (.func 42) [] [.pt 1 0],I (nowT us l o i),I (nwL l o i),I (nwH l o i),rI o,I o.length,I (i : Nat)]) (fun _ => h8 l us)]
      · (sym => (simp [irem2,iquo2,remF,Za,Zb,Zc,Zd,Ze,Zf,Zg,Zh,Zj,Zk,Zl,Zm,Zn,Zo,Zq,Zu,Zv,Zw,Zx,Zy,Z2,Z6,ZC,ZD,ZF,ZG,ZI,ZJ,ZK,ZL,ZN,ZO,ZP,ZQ,ZS,ZT,ZV,ZY,Ya,Yg,Yq,Yr,Y1,YK,YL,YM,YO,YQ,YV,YX,YY,YZ,Xc,Xd,Xe,Xf,Xg,Xh,Xj,Xn,Xp,Xs,XL,XM,XN,XP,XX,XY,We,Wf,Wg,Wh,Wi,Wj,Wk,Wl,Wm,Wn,Wo,Wp,Wq,Wr,Ws,Wu,Wv,Ww,Wx,Wy,Wz,W0,W3,W4,W5,W6,W7,W8,WA,WB,WF,WH,WI,WJ,WK,WL,WM,WN,WO,WP,WT,WV,WW,WX,WY,WZ,Va,Vf,Vg,Vh,Vi,Vj,Vk,Vl,Vn,Vo,Vp,Vq,Vs,Vt,Vu,Vv,Vw,Vy,Vz,V1,V2,V3,V4,V5,V6,V8,V9,VA,VB,VD,VE,VF,VI,VJ,VK,VL,VO,VS,VT,VU,VV,VW,VX,VY,VZ,Ua,Ub,Uc,Ud,Ui,Uj,Uk,Ut,Uu,U8,U9,UA,UD,UE,UF,UG,UH,UM,UN,UO,UP,UQ,UR,US,UT,UX,UY,UZ,Ta,Tf,Tz,T5,T6,T7,T8,T9,TD,TE,TF,TG,z,works_w]; all_goals tactic => exact rfl))
      · (sym => (simp [irem2,iquo2,remF,Za,Zb,Zc,Zd,Ze,Zf,Zg,Zh,Zj,Zk,Zl,Zm,Zn,Zo,Zq,Zu,Zv,Zw,Zx,Zy,Z2,Z6,ZC,ZD,ZF,ZG,ZI,ZJ,ZK,ZL,ZN,ZO,ZP,ZQ,ZS,ZT,ZV,ZY,Ya,Yg,Yq,Yr,Y1,YK,YL,YM,YO,YQ,YV,YX,YY,YZ,Xc,Xd,Xe,Xf,Xg,Xh,Xj,Xn,Xp,Xs,XL,XM,XN,XP,XX,XY,We,Wf,Wg,Wh,Wi,Wj,Wk,Wl,Wm,Wn,Wo,Wp,Wq,Wr,Ws,Wu,Wv,Ww,Wx,Wy,Wz,W0,W3,W4,W5,W6,W7,W8,WA,WB,WF,WH,WI,WJ,WK,WL,WM,WN,WO,WP,WT,WV,WW,WX,WY,WZ,Va,Vf,Vg,Vh,Vi,Vj,Vk,Vl,Vn,Vo,Vp,Vq,Vs,Vt,Vu,Vv,Vw,Vy,Vz,V1,V2,V3,V4,V5,V6,V8,V9,VA,VB,VD,VE,VF,VI,VJ,VK,VL,VO,VS,VT,VU,VV,VW,VX,VY,VZ,Ua,Ub,Uc,Ud,Ui,Uj,Uk,Ut,Uu,U8,U9,UA,UD,UE,UF,UG,UH,UM,UN,UO,UP,UQ,UR,US,UT,UX,UY,UZ,Ta,Tf,Tz,T5,T6,T7,T8,T9,TD,TE,TF,TG,s1,s2]; all_goals tactic => exact rfl))
      · exact rd
      · (sym => (simp [irem2,iquo2,remF,Za,Zb,Zc,Zd,Ze,Zf,Zg,Zh,Zj,Zk,Zl,Zm,Zn,Zo,Zq,Zu,Zv,Zw,Zx,Zy,Z2,Z6,ZC,ZD,ZF,ZG,ZI,ZJ,ZK,ZL,ZN,ZO,ZP,ZQ,ZS,ZT,ZV,ZY,Ya,Yg,Yq,Yr,Y1,YK,YL,YM,YO,YQ,YV,YX,YY,YZ,Xc,Xd,Xe,Xf,Xg,Xh,Xj,Xn,Xp,Xs,XL,XM,XN,XP,XX,XY,We,Wf,Wg,Wh,Wi,Wj,Wk,Wl,Wm,Wn,Wo,Wp,Wq,Wr,Ws,Wu,Wv,Ww,Wx,Wy,Wz,W0,W3,W4,W5,W6,W7,W8,WA,WB,WF,WH,WI,WJ,WK,WL,WM,WN,WO,WP,WT,WV,WW,WX,WY,WZ,Va,Vf,Vg,Vh,Vi,Vj,Vk,Vl,Vn,Vo,Vp,Vq,Vs,Vt,Vu,Vv,Vw,Vy,Vz,V1,V2,V3,V4,V5,V6,V8,V9,VA,VB,VD,VE,VF,VI,VJ,VK,VL,VO,VS,VT,VU,VV,VW,VX,VY,VZ,Ua,Ub,Uc,Ud,Ui,Uj,Uk,Ut,Uu,U8,U9,UA,UD,UE,UF,UG,UH,UM,UN,UO,UP,UQ,UR,US,UT,UX,UY,UZ,Ta,Tf,Tz,T5,T6,T7,T8,T9,TD,TE,TF,TG,z]; all_goals tactic => exact rfl))
end Go.Proofs.YtpbeclkpohehgaaDoor
namespace Go.Proofs.YtpbeclkpohehgaaDoor
open Go Go.DL
set_option maxRecDepth 100000
set_option maxHeartbeats 4000000
end Go.Proofs.YtpbeclkpohehgaaDoor
namespace Go.Proofs.YtpbeclkpohehgaaDoor
open Go Go.DL
set_option maxRecDepth 100000
set_option maxHeartbeats 4000000
section
variable {l : Li} (g : Good l) {i v : Nat} (hi : l.ts[i]? = some [(v : Int)])
include g hi
end
end Go.Proofs.YtpbeclkpohehgaaDoor
namespace Go.Proofs.YtpbeclkpohehgaaDoor
open Go Go.DL
set_option maxRecDepth 100000
set_option maxHeartbeats 4000000
section
variable {l : Li}
end
end Go.Proofs.YtpbeclkpohehgaaDoor
namespace Go.Proofs.YtpbeclkpohehgaaDoor
open Go Go.DL
set_option maxRecDepth 100000
set_option maxHeartbeats 4000000
section
variable {l : Li}
end
end Go.Proofs.YtpbeclkpohehgaaDoor
namespace Go.Proofs.YtpbeclkpohehgaaDoor
open Go Go.DL
set_option maxRecDepth 100000
set_option maxHeartbeats 4000000
section
variable {l : Li}
end
end Go.Proofs.YtpbeclkpohehgaaDoor
namespace Go.Proofs.YtpbeclkpohehgaaDoor
open Go Go.DL
set_option maxRecDepth 100000
set_option maxHeartbeats 4000000
section
variable {l : Li}
end
end Go.Proofs.YtpbeclkpohehgaaDoor
namespace Go.Proofs.YtpbeclkpohehgaaDoor
open Go Go.DL
set_option maxRecDepth 100000
set_option maxHeartbeats 8000000
end Go.Proofs.YtpbeclkpohehgaaDoor
