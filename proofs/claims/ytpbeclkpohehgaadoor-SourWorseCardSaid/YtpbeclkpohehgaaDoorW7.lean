/- Parts of a proof, joined: K81 K82 K83 K84. No statement of the seed is proved here. -/
import Derived.Test.YtpbeclkpohehgaaDoorW6
set_option linter.unusedSimpArgs false
set_option linter.unusedVariables false
set_option linter.unusedSectionVars false
namespace Go.Proofs.YtpbeclkpohehgaaDoor
open Go Go.DL
set_option maxRecDepth 100000
set_option maxHeartbeats 8000000
theorem w12 {q : Qu} (hq : q.Ok) {s : Nat} (hs : s < 256) {a0 a1 a2 : Nat} (h0 : a0 < 256) (h1 : a1 < 256) (h2 : a2 < 256) : runW progX 12 [.agg q.c,B8 s,.agg [B8 a0,B8 a1,B8 a2]] [] = some (.bool true,[]) := by
  have e39 := w39 hq
  have hc := md_good hq
  have hf := md_fit q
  have sm := md_small hq
  have sh := md_short q
  generalize mdL q = l at *
  obtain ⟨sm1,sm2,n5⟩ := sm
  obtain ⟨sh1,sh2⟩ := sh
  have g := good_of hc
  by_cases hn : l.ls.length = 0
  · have c0 : ((l.ls.length : Int) = 0) = True := eq_true (by omega)
    rw [r12 (by simp)]; unfold x12; dsimp only
    (sym => (simp [irem2,iquo2,remF,cL_fl,cL_all,Za,Zb,Zc,Zf,Zg,Zh,Zi,Zj,Zl,Zm,Zn,Zo,Zq,Zt,Zu,Zw,Zx,Zz,Z1,Z3,Z4,Z5,Z6,ZA,ZB,ZD,ZE,ZG,ZH,ZI,ZJ,ZK,ZL,ZM,ZP,ZQ,ZR,ZT,ZV,ZW,ZY,Yb,Yf,Yg,Ym,Yn,Yo,Yq,Yr,Ys,Yy,Yz,Y0,Y2,Y5,YA,YN,YO,YP,YR,YT,YU,Xb,Xc,Xd,Xe,Xh,Xl,Xm,Xn,Xo,Xp,Xq,Xr,Xx,Xy,XI,XJ,XO,XU,XV,XW,XZ,Wa,Wb,Wd,Wj,Wk,Wm,Wp,Wt,Wv,Ww,Wx,Wy,Wz,W0,W3,W4,W5,W6,W7,W8,WA,WB,WE,WF,WG,WH,WI,WJ,WK,WL,WM,WN,WO,WP,WS,WT,WU,WY,WZ,Vb,Vc,Vd,Vf,Vl,Vm,Vn,Vo,Vp,Vq,Vr,Vt,Vu,Vv,Vw,Vx,Vy,Vz,V0,V2,V3,V5,V6,V7,V8,V9,VC,VD,VE,VF,VH,VI,VJ,VK,VL,VM,VN,VO,VQ,VR,VS,VT,VU,VV,VX,VY,VZ,Ua,Uc,Uf,Uh,Ui,Uj,Uk,Un,Uo,Uq,Us,Ut,Uu,Uv,Uw,Ux,Uy,Uz,U0,U1,U2,U3,U4,U5,U6,U7,U8,U9,UA,UB,UG,UH,UI,UJ,UK,UN,UQ,US,UT,UU,UV,UW,UZ,Ta,Tb,Tc,Tf,Tg,Th,Ti,Tj,Tl,Tm,Tn,Tp,Tq,Tr,Ts,Tt,Tu,Tx,Ty,Tz,T3,T7,T8,T9,TE,TF,TG,TH,TI,TJ,Sl,Sm,Sn,Sq,Sr,Ss,S3,S4,S5,e39,c0,works_w]; all_goals tactic => exact rfl))
  · have c0 : ((l.ls.length : Int) = 0) = False := eq_false (by omega)
    have ws := wr8 hs
    have w0 := wr8 h0
    have w1 := wr8 h1
    have w2 := wr8 h2
    have tm : tmZ (s : Int) (l.ls.length : Int) = ((s % l.ls.length : Nat) : Int) := tmod_n _ _
    have hk : s % l.ls.length < l.ls.length := Nat.mod_lt _ (by omega)
    generalize s % l.ls.length = k at *
    obtain ⟨ck,mn⟩ := old_ok g sm1 sm2 hk (a := (a0 : Int)) (c := (a1 : Int)) (h := (a2 : Int)) (by omega) (by omega) (by omega)
    obtain ⟨ck2,mn2⟩ := fre_ok g
    obtain ⟨x,kd,hx,hxe,hx3,_,_,_,hx7,hx8⟩ := g.ldn hk
    have hxs := sm1 x (List.mem_of_getElem? hx)
    have fo : (oldL l k (a0 : Int) (a1 : Int) (a2 : Int)).Fit := ⟨hf.ts,hf.each⟩
    have ff : (freL l).Fit := ⟨by show (freT l.ls.length l.ls.length).length ≤ _; rw [fre_len]; omega,fun t ht => by
      obtain ⟨i,_,rfl⟩ := fre_mem.1 ht
      simp⟩
    have e29 := w29 l hf
    have e29o := w29 _ fo
    have e29f := w29 _ ff
    unfold bestR at e29 e29o e29f
    rw [if_pos hc] at e29
    rw [if_pos ck] at e29o
    rw [if_pos ck2] at e29f
    have rd2 := fun i (hi : i < l.ts.length) => round12e g hf sh1 sh2 hi
    have lk := lt_of hx
    have gt1 := (cL_get hx).1
    have sp1 := cL_set2 hx (x.ah + (a0 : Int))
    have hx' : (l.ls.set k { x with ah := x.ah + (a0 : Int) })[k]? = some { x with ah := x.ah + (a0 : Int) } := by rw [List.getElem?_set,if_pos rfl,if_pos hk]
    have gt2 := (cL_get hx').2
    have sp2 := cL_set4 hx' (x.ch + (a1 : Int))
    rw [List.set_set] at sp2
    have oe : (l.ls.set k { x with ah := x.ah + (a0 : Int),ch := x.ch + (a1 : Int) }) = (oldL l k (a0 : Int) (a1 : Int) (a2 : Int)).ls := by
      show _ = l.ls.set k (oldX (ldN l k) (a0 : Int) (a1 : Int))
      rw [hxe]; rfl
    have oc : (oldL l k (a0 : Int) (a1 : Int) (a2 : Int)).c = [kR l.ks,lR (oldL l k (a0 : Int) (a1 : Int) (a2 : Int)).ls,tR l.ts,I l.lo,I (l.hi + (a2 : Int))] := rfl
    have ol : (oldL l k (a0 : Int) (a1 : Int) (a2 : Int)).ls.length = l.ls.length := List.length_set ..
    have gt2 : (cL (l.ls.set k { x with ah := x.ah + (a0 : Int) }))[k * 5 + 4]? = some (I x.ch) := gt2
    have sp2 : splice (cL (l.ls.set k { x with ah := x.ah + (a0 : Int) })) (k * 5 + 4) [I (x.ch + (a1 : Int))] = cL (oldL l k (a0 : Int) (a1 : Int) (a2 : Int)).ls := by rw [← oe]; exact sp2
    have cl0 := cL_len l.ls
    have cl1 := cL_len (l.ls.set k { x with ah := x.ah + (a0 : Int) })
    rw [List.length_set] at cl1
    have ch := cL_ch (oldL l k (a0 : Int) (a1 : Int) (a2 : Int)).ls
    have cl2 := cL_len (oldL l k (a0 : Int) (a1 : Int) (a2 : Int)).ls
    rw [ol] at ch cl2
    rw [oc] at e29o
    generalize minW (oldL l k (a0 : Int) (a1 : Int) (a2 : Int)) = mo at *
    generalize ofN (bestO (oldL l k (a0 : Int) (a1 : Int) (a2 : Int))) = bo at *
    generalize (oldL l k (a0 : Int) (a1 : Int) (a2 : Int)).ls = ls2 at *
    generalize cL ls2 = cc2 at *
    generalize cL (l.ls.set k { x with ah := x.ah + (a0 : Int) }) = cc1 at *
    generalize hcc : cL l.ls = cc0 at *
    generalize minW (freL l) = mf at *
    generalize ofN (bestO (freL l)) = bf at *
    have b1 : (mo < minW l) = False := eq_false (by omega)
    have b2 : (minW l < mf) = False := eq_false (by omega)
    have k1 : (0 ≤ (k : Int)) = True := eq_true (by omega)
    have k2 : ((k : Int) < (l.ls.length : Int)) = True := eq_true (by omega)
    have p1 : (l.ls.length * 40 ≤ 1099511627776) = True := eq_true (by omega)
    have p2 : (l.ls.length ≤ 1099511627776) = True := eq_true (by omega)
    have p3 : (l.ls.length = 0) = False := eq_false hn
    have p4 : (k * 5 + 2 + 1 ≤ l.ls.length * 5) = True := eq_true (by omega)
    have p5 : (k * 5 + 4 + 1 ≤ l.ls.length * 5) = True := eq_true (by omega)
    have p6 : (l.ls.length * 5 ≤ l.ls.length * 5) = True := eq_true (Nat.le_refl _)
    have q1 : IntKind.i64.wrap (x.ah + (a0 : Int)) = x.ah + (a0 : Int) := wrap_ok (by omega) (by omega)
    have q2 : IntKind.i64.wrap (x.ch + (a1 : Int)) = x.ch + (a1 : Int) := wrap_ok (by omega) (by omega)
    have st := inSF.1 g.start
    have q3 : IntKind.i64.wrap (l.hi + (a2 : Int)) = l.hi + (a2 : Int) := wrap_ok (by omega) (by omega)
    obtain ⟨w,hw⟩ : ∃ w : Nat → Int,∀ j : Nat,w j = (l.ls.length : Int) - 1 - (j : Int) := ⟨_,fun _ => rfl⟩
    have hw' : w = fun j : Nat => (l.ls.length : Int) - 1 - (j : Int) := funext hw
    have rd1 := fun j (hj : j < l.ls.length) => round12a n5 (h := (l.hi + (a2 : Int))) (cc := cc2) hw hj
    have fr0 := frX_0 l (l.hi + (a2 : Int)) cc2 w
    have z := UU (n := (l.ls.length : Int))
    have z2 := UU (n := (l.ts.length : Int))
    have hN5 : l.ls.length = 1 ∨ l.ls.length = 2 ∨ l.ls.length = 3 ∨ l.ls.length = 4 ∨ l.ls.length = 5 := by omega
    have ec1 : l.ls.length = 1 → runW progX 29 [.agg [kR l.ks,lR l.ls,.fs [[.fs [[I (w 0)]]]],I l.lo,I l.hi]] [] = some (.tup [rI bf,I mf,I 0],[]) := fun hN => by
      have e : (freL l).c = [kR l.ks,lR l.ls,.fs [[.fs [[I (w 0)]]]],I l.lo,I l.hi] := by
        show [kR l.ks,lR l.ls,tR (freT l.ls.length l.ls.length),I l.lo,I l.hi] = _
        rw [show freT l.ls.length l.ls.length = freT l.ls.length 1 by rw [hN],hw']
        rfl
      rw [← e]
      exact e29f
    have fr1 : l.ls.length = 1 → frG l (l.hi + (a2 : Int)) cc2 w l.ls.length = _ := fun hN => (congrArg (frG l (l.hi + (a2 : Int)) cc2 w) hN).trans (frX_1 l (l.hi + (a2 : Int)) cc2 w)
    have ec2 : l.ls.length = 2 → runW progX 29 [.agg [kR l.ks,lR l.ls,.fs [[.fs [[I (w 0)]]],[.fs [[I (w 1)]]]],I l.lo,I l.hi]] [] = some (.tup [rI bf,I mf,I 0],[]) := fun hN => by
      have e : (freL l).c = [kR l.ks,lR l.ls,.fs [[.fs [[I (w 0)]]],[.fs [[I (w 1)]]]],I l.lo,I l.hi] := by
        show [kR l.ks,lR l.ls,tR (freT l.ls.length l.ls.length),I l.lo,I l.hi] = _
        rw [show freT l.ls.length l.ls.length = freT l.ls.length 2 by rw [hN],hw']
        rfl
      rw [← e]
      exact e29f
    have fr2 : l.ls.length = 2 → frG l (l.hi + (a2 : Int)) cc2 w l.ls.length = _ := fun hN => (congrArg (frG l (l.hi + (a2 : Int)) cc2 w) hN).trans (frX_2 l (l.hi + (a2 : Int)) cc2 w)
    have ec3 : l.ls.length = 3 → runW progX 29 [.agg [kR l.ks,lR l.ls,.fs [[.fs [[I (w 0)]]],[.fs [[I (w 1)]]],[.fs [[I (w 2)]]]],I l.lo,I l.hi]] [] = some (.tup [rI bf,I mf,I 0],[]) := fun hN => by
      have e : (freL l).c = [kR l.ks,lR l.ls,.fs [[.fs [[I (w 0)]]],[.fs [[I (w 1)]]],[.fs [[I (w 2)]]]],I l.lo,I l.hi] := by
        show [kR l.ks,lR l.ls,tR (freT l.ls.length l.ls.length),I l.lo,I l.hi] = _
        rw [show freT l.ls.length l.ls.length = freT l.ls.length 3 by rw [hN],hw']
        rfl
      rw [← e]
      exact e29f
    have fr3 : l.ls.length = 3 → frG l (l.hi + (a2 : Int)) cc2 w l.ls.length = _ := fun hN => (congrArg (frG l (l.hi + (a2 : Int)) cc2 w) hN).trans (frX_3 l (l.hi + (a2 : Int)) cc2 w)
    have ec4 : l.ls.length = 4 → runW progX 29 [.agg [kR l.ks,lR l.ls,.fs [[.fs [[I (w 0)]]],[.fs [[I (w 1)]]],[.fs [[I (w 2)]]],[.fs [[I (w 3)]]]],I l.lo,I l.hi]] [] = some (.tup [rI bf,I mf,I 0],[]) := fun hN => by
      have e : (freL l).c = [kR l.ks,lR l.ls,.fs [[.fs [[I (w 0)]]],[.fs [[I (w 1)]]],[.fs [[I (w 2)]]],[.fs [[I (w 3)]]]],I l.lo,I l.hi] := by
        show [kR l.ks,lR l.ls,tR (freT l.ls.length l.ls.length),I l.lo,I l.hi] = _
        rw [show freT l.ls.length l.ls.length = freT l.ls.length 4 by rw [hN],hw']
        rfl
      rw [← e]
      exact e29f
    have fr4 : l.ls.length = 4 → frG l (l.hi + (a2 : Int)) cc2 w l.ls.length = _ := fun hN => (congrArg (frG l (l.hi + (a2 : Int)) cc2 w) hN).trans (frX_4 l (l.hi + (a2 : Int)) cc2 w)
    have ec5 : l.ls.length = 5 → runW progX 29 [.agg [kR l.ks,lR l.ls,.fs [[.fs [[I (w 0)]]],[.fs [[I (w 1)]]],[.fs [[I (w 2)]]],[.fs [[I (w 3)]]],[.fs [[I (w 4)]]]],I l.lo,I l.hi]] [] = some (.tup [rI bf,I mf,I 0],[]) := fun hN => by
      have e : (freL l).c = [kR l.ks,lR l.ls,.fs [[.fs [[I (w 0)]]],[.fs [[I (w 1)]]],[.fs [[I (w 2)]]],[.fs [[I (w 3)]]],[.fs [[I (w 4)]]]],I l.lo,I l.hi] := by
        show [kR l.ks,lR l.ls,tR (freT l.ls.length l.ls.length),I l.lo,I l.hi] = _
        rw [show freT l.ls.length l.ls.length = freT l.ls.length 5 by rw [hN],hw']
        rfl
      rw [← e]
      exact e29f
    have fr5 : l.ls.length = 5 → frG l (l.hi + (a2 : Int)) cc2 w l.ls.length = _ := fun hN => (congrArg (frG l (l.hi + (a2 : Int)) cc2 w) hN).trans (frX_5 l (l.hi + (a2 : Int)) cc2 w)
    clear hw hw' e29f mn mn2 ck ck2 fo ff hx' oe oc ol
    generalize w 0 = v0 at *
    rw [r12 (by simp)]; unfold x12; dsimp only
    sym =>
      simp [irem2,iquo2,remF,cL_fl,cL_all,Za,Zb,Zc,Zf,Zg,Zh,Zi,Zj,Zl,Zm,Zn,Zo,Zq,Zt,Zu,Zw,Zx,Zz,Z1,Z3,Z4,Z5,Z6,ZA,ZB,ZD,ZE,ZG,ZH,ZI,ZJ,ZK,ZL,ZM,ZP,ZQ,ZR,ZT,ZV,ZW,ZY,Yb,Yf,Yg,Ym,Yn,Yo,Yq,Yr,Ys,Yy,Yz,Y0,Y2,Y5,YA,YN,YO,YP,YR,YT,YU,Xb,Xc,Xd,Xe,Xh,Xl,Xm,Xn,Xo,Xp,Xq,Xr,Xx,Xy,XI,XJ,XO,XU,XV,XW,XZ,Wa,Wb,Wd,Wj,Wk,Wm,Wp,Wt,Wv,Ww,Wx,Wy,Wz,W0,W3,W4,W5,W6,W7,W8,WA,WB,WE,WF,WG,WH,WI,WJ,WK,WL,WM,WN,WO,WP,WS,WT,WU,WY,WZ,Vb,Vc,Vd,Vf,Vl,Vm,Vn,Vo,Vp,Vq,Vr,Vt,Vu,Vv,Vw,Vx,Vy,Vz,V0,V2,V3,V5,V6,V7,V8,V9,VC,VD,VE,VF,VH,VI,VJ,VK,VL,VM,VN,VO,VQ,VR,VS,VT,VU,VV,VX,VY,VZ,Ua,Uc,Uf,Uh,Ui,Uj,Uk,Un,Uo,Uq,Us,Ut,Uu,Uv,Uw,Ux,Uy,Uz,U0,U1,U2,U3,U4,U5,U6,U7,U8,U9,UA,UB,UG,UH,UI,UJ,UK,UN,UQ,US,UT,UU,UV,UW,UZ,Ta,Tb,Tc,Tf,Tg,Th,Ti,Tj,Tl,Tm,Tn,Tp,Tq,Tr,Ts,Tt,Tu,Tx,Ty,Tz,T3,T7,T8,T9,TE,TF,TG,TH,TI,TJ,Sl,Sm,Sn,Sq,Sr,Ss,S3,S4,S5,e39,c0,ws,w0,w1,w2,tm,hcc,p1,p2,p3,k1,k2,gt1,gt2,sp1,sp2,cl0,cl1,cl2,p4,p5,q1,q2,q3]
      tactic =>
        unfold x12l0
        rw [loop_rule l.ls.length (fun j => [.pt 0 0,.pt 1 0,.pt 3 0,I l.ls.length,I (j : Nat)]) (fun j => frG l (l.hi + (a2 : Int)) cc2 w j)]
        · rcases hN5 with hN | hN | hN | hN | hN
          · have ec := ec1 hN
            rw [fr1 hN]
            sym =>
              simp [irem2,iquo2,remF,cL_fl,cL_all,Za,Zb,Zc,Zf,Zg,Zh,Zi,Zj,Zl,Zm,Zn,Zo,Zq,Zt,Zu,Zw,Zx,Zz,Z1,Z3,Z4,Z5,Z6,ZA,ZB,ZD,ZE,ZG,ZH,ZI,ZJ,ZK,ZL,ZM,ZP,ZQ,ZR,ZT,ZV,ZW,ZY,Yb,Yf,Yg,Ym,Yn,Yo,Yq,Yr,Ys,Yy,Yz,Y0,Y2,Y5,YA,YN,YO,YP,YR,YT,YU,Xb,Xc,Xd,Xe,Xh,Xl,Xm,Xn,Xo,Xp,Xq,Xr,Xx,Xy,XI,XJ,XO,XU,XV,XW,XZ,Wa,Wb,Wd,Wj,Wk,Wm,Wp,Wt,Wv,Ww,Wx,Wy,Wz,W0,W3,W4,W5,W6,W7,W8,WA,WB,WE,WF,WG,WH,WI,WJ,WK,WL,WM,WN,WO,WP,WS,WT,WU,WY,WZ,Vb,Vc,Vd,Vf,Vl,Vm,Vn,Vo,Vp,Vq,Vr,Vt,Vu,Vv,Vw,Vx,Vy,Vz,V0,V2,V3,V5,V6,V7,V8,V9,VC,VD,VE,VF,VH,VI,VJ,VK,VL,VM,VN,VO,VQ,VR,VS,VT,VU,VV,VX,VY,VZ,Ua,Uc,Uf,Uh,Ui,Uj,Uk,Un,Uo,Uq,Us,Ut,Uu,Uv,Uw,Ux,Uy,Uz,U0,U1,U2,U3,U4,U5,U6,U7,U8,U9,UA,UB,UG,UH,UI,UJ,UK,UN,UQ,US,UT,UU,UV,UW,UZ,Ta,Tb,Tc,Tf,Tg,Th,Ti,Tj,Tl,Tm,Tn,Tp,Tq,Tr,Ts,Tt,Tu,Tx,Ty,Tz,T3,T7,T8,T9,TE,TF,TG,TH,TI,TJ,Sl,Sm,Sn,Sq,Sr,Ss,S3,S4,S5,z,e29,e29o,ec,ch,cl2,p6,b1,b2]
              tactic =>
                unfold x12l4
                rw [loop_rule l.ts.length (fun i => [.pt 0 0,I (minW l),tR l.ts,I l.ts.length,I (i : Nat)]) (fun _ => hL l)]
                · (sym => (simp [irem2,iquo2,remF,cL_fl,cL_all,Za,Zb,Zc,Zf,Zg,Zh,Zi,Zj,Zl,Zm,Zn,Zo,Zq,Zt,Zu,Zw,Zx,Zz,Z1,Z3,Z4,Z5,Z6,ZA,ZB,ZD,ZE,ZG,ZH,ZI,ZJ,ZK,ZL,ZM,ZP,ZQ,ZR,ZT,ZV,ZW,ZY,Yb,Yf,Yg,Ym,Yn,Yo,Yq,Yr,Ys,Yy,Yz,Y0,Y2,Y5,YA,YN,YO,YP,YR,YT,YU,Xb,Xc,Xd,Xe,Xh,Xl,Xm,Xn,Xo,Xp,Xq,Xr,Xx,Xy,XI,XJ,XO,XU,XV,XW,XZ,Wa,Wb,Wd,Wj,Wk,Wm,Wp,Wt,Wv,Ww,Wx,Wy,Wz,W0,W3,W4,W5,W6,W7,W8,WA,WB,WE,WF,WG,WH,WI,WJ,WK,WL,WM,WN,WO,WP,WS,WT,WU,WY,WZ,Vb,Vc,Vd,Vf,Vl,Vm,Vn,Vo,Vp,Vq,Vr,Vt,Vu,Vv,Vw,Vx,Vy,Vz,V0,V2,V3,V5,V6,V7,V8,V9,VC,VD,VE,VF,VH,VI,VJ,VK,VL,VM,VN,VO,VQ,VR,VS,VT,VU,VV,VX,VY,VZ,Ua,Uc,Uf,Uh,Ui,Uj,Uk,Un,Uo,Uq,Us,Ut,Uu,Uv,Uw,Ux,Uy,Uz,U0,U1,U2,U3,U4,U5,U6,U7,U8,U9,UA,UB,UG,UH,UI,UJ,UK,UN,UQ,US,UT,UU,UV,UW,UZ,Ta,Tb,Tc,Tf,Tg,Th,Ti,Tj,Tl,Tm,Tn,Tp,Tq,Tr,Ts,Tt,Tu,Tx,Ty,Tz,T3,T7,T8,T9,TE,TF,TG,TH,TI,TJ,Sl,Sm,Sn,Sq,Sr,Ss,S3,S4,S5,z2,works_w]; all_goals tactic => exact rfl))
                · (sym => (simp [irem2,iquo2,remF,cL_fl,cL_all,Za,Zb,Zc,Zf,Zg,Zh,Zi,Zj,Zl,Zm,Zn,Zo,Zq,Zt,Zu,Zw,Zx,Zz,Z1,Z3,Z4,Z5,Z6,ZA,ZB,ZD,ZE,ZG,ZH,ZI,ZJ,ZK,ZL,ZM,ZP,ZQ,ZR,ZT,ZV,ZW,ZY,Yb,Yf,Yg,Ym,Yn,Yo,Yq,Yr,Ys,Yy,Yz,Y0,Y2,Y5,YA,YN,YO,YP,YR,YT,YU,Xb,Xc,Xd,Xe,Xh,Xl,Xm,Xn,Xo,Xp,Xq,Xr,Xx,Xy,XI,XJ,XO,XU,XV,XW,XZ,Wa,Wb,Wd,Wj,Wk,Wm,Wp,Wt,Wv,Ww,Wx,Wy,Wz,W0,W3,W4,W5,W6,W7,W8,WA,WB,WE,WF,WG,WH,WI,WJ,WK,WL,WM,WN,WO,WP,WS,WT,WU,WY,WZ,Vb,Vc,Vd,Vf,Vl,Vm,Vn,Vo,Vp,Vq,Vr,Vt,Vu,Vv,Vw,Vx,Vy,Vz,V0,V2,V3,V5,V6,V7,V8,V9,VC,VD,VE,VF,VH,VI,VJ,VK,VL,VM,VN,VO,VQ,VR,VS,VT,VU,VV,VX,VY,VZ,Ua,Uc,Uf,Uh,Ui,Uj,Uk,Un,Uo,Uq,Us,Ut,Uu,Uv,Uw,Ux,Uy,Uz,U0,U1,U2,U3,U4,U5,U6,U7,U8,U9,UA,UB,UG,UH,UI,UJ,UK,UN,UQ,US,UT,UU,UV,UW,UZ,Ta,Tb,Tc,Tf,Tg,Th,Ti,Tj,Tl,Tm,Tn,Tp,Tq,Tr,Ts,Tt,Tu,Tx,Ty,Tz,T3,T7,T8,T9,TE,TF,TG,TH,TI,TJ,Sl,Sm,Sn,Sq,Sr,Ss,S3,S4,S5]; all_goals tactic => exact rfl))
                · exact rd2
                · (sym => (simp [irem2,iquo2,remF,cL_fl,cL_all,Za,Zb,Zc,Zf,Zg,Zh,Zi,Zj,Zl,Zm,Zn,Zo,Zq,Zt,Zu,Zw,Zx,Zz,Z1,Z3,Z4,Z5,Z6,ZA,ZB,ZD,ZE,ZG,ZH,ZI,ZJ,ZK,ZL,ZM,ZP,ZQ,ZR,ZT,ZV,ZW,ZY,Yb,Yf,Yg,Ym,Yn,Yo,Yq,Yr,Ys,Yy,Yz,Y0,Y2,Y5,YA,YN,YO,YP,YR,YT,YU,Xb,Xc,Xd,Xe,Xh,Xl,Xm,Xn,Xo,Xp,Xq,Xr,Xx,Xy,XI,XJ,XO,XU,XV,XW,XZ,Wa,Wb,Wd,Wj,Wk,Wm,Wp,Wt,Wv,Ww,Wx,Wy,Wz,W0,W3,W4,W5,W6,W7,W8,WA,WB,WE,WF,WG,WH,WI,WJ,WK,WL,WM,WN,WO,WP,WS,WT,WU,WY,WZ,Vb,Vc,Vd,Vf,Vl,Vm,Vn,Vo,Vp,Vq,Vr,Vt,Vu,Vv,Vw,Vx,Vy,Vz,V0,V2,V3,V5,V6,V7,V8,V9,VC,VD,VE,VF,VH,VI,VJ,VK,VL,VM,VN,VO,VQ,VR,VS,VT,VU,VV,VX,VY,VZ,Ua,Uc,Uf,Uh,Ui,Uj,Uk,Un,Uo,Uq,Us,Ut,Uu,Uv,Uw,Ux,Uy,Uz,U0,U1,U2,U3,U4,U5,U6,U7,U8,U9,UA,UB,UG,UH,UI,UJ,UK,UN,UQ,US,UT,UU,UV,UW,UZ,Ta,Tb,Tc,Tf,Tg,Th,Ti,Tj,Tl,Tm,Tn,Tp,Tq,Tr,Ts,Tt,Tu,Tx,Ty,Tz,T3,T7,T8,T9,TE,TF,TG,TH,TI,TJ,Sl,Sm,Sn,Sq,Sr,Ss,S3,S4,S5,z2]; all_goals tactic => exact rfl))
          · have ec := ec2 hN
            rw [fr2 hN]
            sym =>
              simp [irem2,iquo2,remF,cL_fl,cL_all,Za,Zb,Zc,Zf,Zg,Zh,Zi,Zj,Zl,Zm,Zn,Zo,Zq,Zt,Zu,Zw,Zx,Zz,Z1,Z3,Z4,Z5,Z6,ZA,ZB,ZD,ZE,ZG,ZH,ZI,ZJ,ZK,ZL,ZM,ZP,ZQ,ZR,ZT,ZV,ZW,ZY,Yb,Yf,Yg,Ym,Yn,Yo,Yq,Yr,Ys,Yy,Yz,Y0,Y2,Y5,YA,YN,YO,YP,YR,YT,YU,Xb,Xc,Xd,Xe,Xh,Xl,Xm,Xn,Xo,Xp,Xq,Xr,Xx,Xy,XI,XJ,XO,XU,XV,XW,XZ,Wa,Wb,Wd,Wj,Wk,Wm,Wp,Wt,Wv,Ww,Wx,Wy,Wz,W0,W3,W4,W5,W6,W7,W8,WA,WB,WE,WF,WG,WH,WI,WJ,WK,WL,WM,WN,WO,WP,WS,WT,WU,WY,WZ,Vb,Vc,Vd,Vf,Vl,Vm,Vn,Vo,Vp,Vq,Vr,Vt,Vu,Vv,Vw,Vx,Vy,Vz,V0,V2,V3,V5,V6,V7,V8,V9,VC,VD,VE,VF,VH,VI,VJ,VK,VL,VM,VN,VO,VQ,VR,VS,VT,VU,VV,VX,VY,VZ,Ua,Uc,Uf,Uh,Ui,Uj,Uk,Un,Uo,Uq,Us,Ut,Uu,Uv,Uw,Ux,Uy,Uz,U0,U1,U2,U3,U4,U5,U6,U7,U8,U9,UA,UB,UG,UH,UI,UJ,UK,UN,UQ,US,UT,UU,UV,UW,UZ,Ta,Tb,Tc,Tf,Tg,Th,Ti,Tj,Tl,Tm,Tn,Tp,Tq,Tr,Ts,Tt,Tu,Tx,Ty,Tz,T3,T7,T8,T9,TE,TF,TG,TH,TI,TJ,Sl,Sm,Sn,Sq,Sr,Ss,S3,S4,S5,z,e29,e29o,ec,ch,cl2,p6,b1,b2]
              tactic =>
                unfold x12l4
                rw [loop_rule l.ts.length (fun i => [.pt 0 0,I (minW l),tR l.ts,I l.ts.length,I (i : Nat)]) (fun _ => hL l)]
                · (sym => (simp [irem2,iquo2,remF,cL_fl,cL_all,Za,Zb,Zc,Zf,Zg,Zh,Zi,Zj,Zl,Zm,Zn,Zo,Zq,Zt,Zu,Zw,Zx,Zz,Z1,Z3,Z4,Z5,Z6,ZA,ZB,ZD,ZE,ZG,ZH,ZI,ZJ,ZK,ZL,ZM,ZP,ZQ,ZR,ZT,ZV,ZW,ZY,Yb,Yf,Yg,Ym,Yn,Yo,Yq,Yr,Ys,Yy,Yz,Y0,Y2,Y5,YA,YN,YO,YP,YR,YT,YU,Xb,Xc,Xd,Xe,Xh,Xl,Xm,Xn,Xo,Xp,Xq,Xr,Xx,Xy,XI,XJ,XO,XU,XV,XW,XZ,Wa,Wb,Wd,Wj,Wk,Wm,Wp,Wt,Wv,Ww,Wx,Wy,Wz,W0,W3,W4,W5,W6,W7,W8,WA,WB,WE,WF,WG,WH,WI,WJ,WK,WL,WM,WN,WO,WP,WS,WT,WU,WY,WZ,Vb,Vc,Vd,Vf,Vl,Vm,Vn,Vo,Vp,Vq,Vr,Vt,Vu,Vv,Vw,Vx,Vy,Vz,V0,V2,V3,V5,V6,V7,V8,V9,VC,VD,VE,VF,VH,VI,VJ,VK,VL,VM,VN,VO,VQ,VR,VS,VT,VU,VV,VX,VY,VZ,Ua,Uc,Uf,Uh,Ui,Uj,Uk,Un,Uo,Uq,Us,Ut,Uu,Uv,Uw,Ux,Uy,Uz,U0,U1,U2,U3,U4,U5,U6,U7,U8,U9,UA,UB,UG,UH,UI,UJ,UK,UN,UQ,US,UT,UU,UV,UW,UZ,Ta,Tb,Tc,Tf,Tg,Th,Ti,Tj,Tl,Tm,Tn,Tp,Tq,Tr,Ts,Tt,Tu,Tx,Ty,Tz,T3,T7,T8,T9,TE,TF,TG,TH,TI,TJ,Sl,Sm,Sn,Sq,Sr,Ss,S3,S4,S5,z2,works_w]; all_goals tactic => exact rfl))
                · (sym => (simp [irem2,iquo2,remF,cL_fl,cL_all,Za,Zb,Zc,Zf,Zg,Zh,Zi,Zj,Zl,Zm,Zn,Zo,Zq,Zt,Zu,Zw,Zx,Zz,Z1,Z3,Z4,Z5,Z6,ZA,ZB,ZD,ZE,ZG,ZH,ZI,ZJ,ZK,ZL,ZM,ZP,ZQ,ZR,ZT,ZV,ZW,ZY,Yb,Yf,Yg,Ym,Yn,Yo,Yq,Yr,Ys,Yy,Yz,Y0,Y2,Y5,YA,YN,YO,YP,YR,YT,YU,Xb,Xc,Xd,Xe,Xh,Xl,Xm,Xn,Xo,Xp,Xq,Xr,Xx,Xy,XI,XJ,XO,XU,XV,XW,XZ,Wa,Wb,Wd,Wj,Wk,Wm,Wp,Wt,Wv,Ww,Wx,Wy,Wz,W0,W3,W4,W5,W6,W7,W8,WA,WB,WE,WF,WG,WH,WI,WJ,WK,WL,WM,WN,WO,WP,WS,WT,WU,WY,WZ,Vb,Vc,Vd,Vf,Vl,Vm,Vn,Vo,Vp,Vq,Vr,Vt,Vu,Vv,Vw,Vx,Vy,Vz,V0,V2,V3,V5,V6,V7,V8,V9,VC,VD,VE,VF,VH,VI,VJ,VK,VL,VM,VN,VO,VQ,VR,VS,VT,VU,VV,VX,VY,VZ,Ua,Uc,Uf,Uh,Ui,Uj,Uk,Un,Uo,Uq,Us,Ut,Uu,Uv,Uw,Ux,Uy,Uz,U0,U1,U2,U3,U4,U5,U6,U7,U8,U9,UA,UB,UG,UH,UI,UJ,UK,UN,UQ,US,UT,UU,UV,UW,UZ,Ta,Tb,Tc,Tf,Tg,Th,Ti,Tj,Tl,Tm,Tn,Tp,Tq,Tr,Ts,Tt,Tu,Tx,Ty,Tz,T3,T7,T8,T9,TE,TF,TG,TH,TI,TJ,Sl,Sm,Sn,Sq,Sr,Ss,S3,S4,S5]; all_goals tactic => exact rfl))
                · exact rd2
                · (sym => (simp [irem2,iquo2,remF,cL_fl,cL_all,Za,Zb,Zc,Zf,Zg,Zh,Zi,Zj,Zl,Zm,Zn,Zo,Zq,Zt,Zu,Zw,Zx,Zz,Z1,Z3,Z4,Z5,Z6,ZA,ZB,ZD,ZE,ZG,ZH,ZI,ZJ,ZK,ZL,ZM,ZP,ZQ,ZR,ZT,ZV,ZW,ZY,Yb,Yf,Yg,Ym,Yn,Yo,Yq,Yr,Ys,Yy,Yz,Y0,Y2,Y5,YA,YN,YO,YP,YR,YT,YU,Xb,Xc,Xd,Xe,Xh,Xl,Xm,Xn,Xo,Xp,Xq,Xr,Xx,Xy,XI,XJ,XO,XU,XV,XW,XZ,Wa,Wb,Wd,Wj,Wk,Wm,Wp,Wt,Wv,Ww,Wx,Wy,Wz,W0,W3,W4,W5,W6,W7,W8,WA,WB,WE,WF,WG,WH,WI,WJ,WK,WL,WM,WN,WO,WP,WS,WT,WU,WY,WZ,Vb,Vc,Vd,Vf,Vl,Vm,Vn,Vo,Vp,Vq,Vr,Vt,Vu,Vv,Vw,Vx,Vy,Vz,V0,V2,V3,V5,V6,V7,V8,V9,VC,VD,VE,VF,VH,VI,VJ,VK,VL,VM,VN,VO,VQ,VR,VS,VT,VU,VV,VX,VY,VZ,Ua,Uc,Uf,Uh,Ui,Uj,Uk,Un,Uo,Uq,Us,Ut,Uu,Uv,Uw,Ux,Uy,Uz,U0,U1,U2,U3,U4,U5,U6,U7,U8,U9,UA,UB,UG,UH,UI,UJ,UK,UN,UQ,US,UT,UU,UV,UW,UZ,Ta,Tb,Tc,Tf,Tg,Th,Ti,Tj,Tl,Tm,Tn,Tp,Tq,Tr,Ts,Tt,Tu,Tx,Ty,Tz,T3,T7,T8,T9,TE,TF,TG,TH,TI,TJ,Sl,Sm,Sn,Sq,Sr,Ss,S3,S4,S5,z2]; all_goals tactic => exact rfl))
          · have ec := ec3 hN
            rw [fr3 hN]
            sym =>
              simp [irem2,iquo2,remF,cL_fl,cL_all,Za,Zb,Zc,Zf,Zg,Zh,Zi,Zj,Zl,Zm,Zn,Zo,Zq,Zt,Zu,Zw,Zx,Zz,Z1,Z3,Z4,Z5,Z6,ZA,ZB,ZD,ZE,ZG,ZH,ZI,ZJ,ZK,ZL,ZM,ZP,ZQ,ZR,ZT,ZV,ZW,ZY,Yb,Yf,Yg,Ym,Yn,Yo,Yq,Yr,Ys,Yy,Yz,Y0,Y2,Y5,YA,YN,YO,YP,YR,YT,YU,Xb,Xc,Xd,Xe,Xh,Xl,Xm,Xn,Xo,Xp,Xq,Xr,Xx,Xy,XI,XJ,XO,XU,XV,XW,XZ,Wa,Wb,Wd,Wj,Wk,Wm,Wp,Wt,Wv,Ww,Wx,Wy,Wz,W0,W3,W4,W5,W6,W7,W8,WA,WB,WE,WF,WG,WH,WI,WJ,WK,WL,WM,WN,WO,WP,WS,WT,WU,WY,WZ,Vb,Vc,Vd,Vf,Vl,Vm,Vn,Vo,Vp,Vq,Vr,Vt,Vu,Vv,Vw,Vx,Vy,Vz,V0,V2,V3,V5,V6,V7,V8,V9,VC,VD,VE,VF,VH,VI,VJ,VK,VL,VM,VN,VO,VQ,VR,VS,VT,VU,VV,VX,VY,VZ,Ua,Uc,Uf,Uh,Ui,Uj,Uk,Un,Uo,Uq,Us,Ut,Uu,Uv,Uw,Ux,Uy,Uz,U0,U1,U2,U3,U4,U5,U6,U7,U8,U9,UA,UB,UG,UH,UI,UJ,UK,UN,UQ,US,UT,UU,UV,UW,UZ,Ta,Tb,Tc,Tf,Tg,Th,Ti,Tj,Tl,Tm,Tn,Tp,Tq,Tr,Ts,Tt,Tu,Tx,Ty,Tz,T3,T7,T8,T9,TE,TF,TG,TH,TI,TJ,Sl,Sm,Sn,Sq,Sr,Ss,S3,S4,S5,z,e29,e29o,ec,ch,cl2,p6,b1,b2]
              tactic =>
                unfold x12l4
                rw [loop_rule l.ts.length (fun i => [.pt 0 0,I (minW l),tR l.ts,I l.ts.length,I (i : Nat)]) (fun _ => hL l)]
                · (sym => (simp [irem2,iquo2,remF,cL_fl,cL_all,Za,Zb,Zc,Zf,Zg,Zh,Zi,Zj,Zl,Zm,Zn,Zo,Zq,Zt,Zu,Zw,Zx,Zz,Z1,Z3,Z4,Z5,Z6,ZA,ZB,ZD,ZE,ZG,ZH,ZI,ZJ,ZK,ZL,ZM,ZP,ZQ,ZR,ZT,ZV,ZW,ZY,Yb,Yf,Yg,Ym,Yn,Yo,Yq,Yr,Ys,Yy,Yz,Y0,Y2,Y5,YA,YN,YO,YP,YR,YT,YU,Xb,Xc,Xd,Xe,Xh,Xl,Xm,Xn,Xo,Xp,Xq,Xr,Xx,Xy,XI,XJ,XO,XU,XV,XW,XZ,Wa,Wb,Wd,Wj,Wk,Wm,Wp,Wt,Wv,Ww,Wx,Wy,Wz,W0,W3,W4,W5,W6,W7,W8,WA,WB,WE,WF,WG,WH,WI,WJ,WK,WL,WM,WN,WO,WP,WS,WT,WU,WY,WZ,Vb,Vc,Vd,Vf,Vl,Vm,Vn,Vo,Vp,Vq,Vr,Vt,Vu,Vv,Vw,Vx,Vy,Vz,V0,V2,V3,V5,V6,V7,V8,V9,VC,VD,VE,VF,VH,VI,VJ,VK,VL,VM,VN,VO,VQ,VR,VS,VT,VU,VV,VX,VY,VZ,Ua,Uc,Uf,Uh,Ui,Uj,Uk,Un,Uo,Uq,Us,Ut,Uu,Uv,Uw,Ux,Uy,Uz,U0,U1,U2,U3,U4,U5,U6,U7,U8,U9,UA,UB,UG,UH,UI,UJ,UK,UN,UQ,US,UT,UU,UV,UW,UZ,Ta,Tb,Tc,Tf,Tg,Th,Ti,Tj,Tl,Tm,Tn,Tp,Tq,Tr,Ts,Tt,Tu,Tx,Ty,Tz,T3,T7,T8,T9,TE,TF,TG,TH,TI,TJ,Sl,Sm,Sn,Sq,Sr,Ss,S3,S4,S5,z2,works_w]; all_goals tactic => exact rfl))
                · (sym => (simp [irem2,iquo2,remF,cL_fl,cL_all,Za,Zb,Zc,Zf,Zg,Zh,Zi,Zj,Zl,Zm,Zn,Zo,Zq,Zt,Zu,Zw,Zx,Zz,Z1,Z3,Z4,Z5,Z6,ZA,ZB,ZD,ZE,ZG,ZH,ZI,ZJ,ZK,ZL,ZM,ZP,ZQ,ZR,ZT,ZV,ZW,ZY,Yb,Yf,Yg,Ym,Yn,Yo,Yq,Yr,Ys,Yy,Yz,Y0,Y2,Y5,YA,YN,YO,YP,YR,YT,YU,Xb,Xc,Xd,Xe,Xh,Xl,Xm,Xn,Xo,Xp,Xq,Xr,Xx,Xy,XI,XJ,XO,XU,XV,XW,XZ,Wa,Wb,Wd,Wj,Wk,Wm,Wp,Wt,Wv,Ww,Wx,Wy,Wz,W0,W3,W4,W5,W6,W7,W8,WA,WB,WE,WF,WG,WH,WI,WJ,WK,WL,WM,WN,WO,WP,WS,WT,WU,WY,WZ,Vb,Vc,Vd,Vf,Vl,Vm,Vn,Vo,Vp,Vq,Vr,Vt,Vu,Vv,Vw,Vx,Vy,Vz,V0,V2,V3,V5,V6,V7,V8,V9,VC,VD,VE,VF,VH,VI,VJ,VK,VL,VM,VN,VO,VQ,VR,VS,VT,VU,VV,VX,VY,VZ,Ua,Uc,Uf,Uh,Ui,Uj,Uk,Un,Uo,Uq,Us,Ut,Uu,Uv,Uw,Ux,Uy,Uz,U0,U1,U2,U3,U4,U5,U6,U7,U8,U9,UA,UB,UG,UH,UI,UJ,UK,UN,UQ,US,UT,UU,UV,UW,UZ,Ta,Tb,Tc,Tf,Tg,Th,Ti,Tj,Tl,Tm,Tn,Tp,Tq,Tr,Ts,Tt,Tu,Tx,Ty,Tz,T3,T7,T8,T9,TE,TF,TG,TH,TI,TJ,Sl,Sm,Sn,Sq,Sr,Ss,S3,S4,S5]; all_goals tactic => exact rfl))
                · exact rd2
                · (sym => (simp [irem2,iquo2,remF,cL_fl,cL_all,Za,Zb,Zc,Zf,Zg,Zh,Zi,Zj,Zl,Zm,Zn,Zo,Zq,Zt,Zu,Zw,Zx,Zz,Z1,Z3,Z4,Z5,Z6,ZA,ZB,ZD,ZE,ZG,ZH,ZI,ZJ,ZK,ZL,ZM,ZP,ZQ,ZR,ZT,ZV,ZW,ZY,Yb,Yf,Yg,Ym,Yn,Yo,Yq,Yr,Ys,Yy,Yz,Y0,Y2,Y5,YA,YN,YO,YP,YR,YT,YU,Xb,Xc,Xd,Xe,Xh,Xl,Xm,Xn,Xo,Xp,Xq,Xr,Xx,Xy,XI,XJ,XO,XU,XV,XW,XZ,Wa,Wb,Wd,Wj,Wk,Wm,Wp,Wt,Wv,Ww,Wx,Wy,Wz,W0,W3,W4,W5,W6,W7,W8,WA,WB,WE,WF,WG,WH,WI,WJ,WK,WL,WM,WN,WO,WP,WS,WT,WU,WY,WZ,Vb,Vc,Vd,Vf,Vl,Vm,Vn,Vo,Vp,Vq,Vr,Vt,Vu,Vv,Vw,Vx,Vy,Vz,V0,V2,V3,V5,V6,V7,V8,V9,VC,VD,VE,VF,VH,VI,VJ,VK,VL,VM,VN,VO,VQ,VR,VS,VT,VU,VV,VX,VY,VZ,Ua,Uc,Uf,Uh,Ui,Uj,Uk,Un,Uo,Uq,Us,Ut,Uu,Uv,Uw,Ux,Uy,Uz,U0,U1,U2,U3,U4,U5,U6,U7,U8,U9,UA,UB,UG,UH,UI,UJ,UK,UN,UQ,US,UT,UU,UV,UW,UZ,Ta,Tb,Tc,Tf,Tg,Th,Ti,Tj,Tl,Tm,Tn,Tp,Tq,Tr,Ts,Tt,Tu,Tx,Ty,Tz,T3,T7,T8,T9,TE,TF,TG,TH,TI,TJ,Sl,Sm,Sn,Sq,Sr,Ss,S3,S4,S5,z2]; all_goals tactic => exact rfl))
          · have ec := ec4 hN
            rw [fr4 hN]
            sym =>
              simp [irem2,iquo2,remF,cL_fl,cL_all,Za,Zb,Zc,Zf,Zg,Zh,Zi,Zj,Zl,Zm,Zn,Zo,Zq,Zt,Zu,Zw,Zx,Zz,Z1,Z3,Z4,Z5,Z6,ZA,ZB,ZD,ZE,ZG,ZH,ZI,ZJ,ZK,ZL,ZM,ZP,ZQ,ZR,ZT,ZV,ZW,ZY,Yb,Yf,Yg,Ym,Yn,Yo,Yq,Yr,Ys,Yy,Yz,Y0,Y2,Y5,YA,YN,YO,YP,YR,YT,YU,Xb,Xc,Xd,Xe,Xh,Xl,Xm,Xn,Xo,Xp,Xq,Xr,Xx,Xy,XI,XJ,XO,XU,XV,XW,XZ,Wa,Wb,Wd,Wj,Wk,Wm,Wp,Wt,Wv,Ww,Wx,Wy,Wz,W0,W3,W4,W5,W6,W7,W8,WA,WB,WE,WF,WG,WH,WI,WJ,WK,WL,WM,WN,WO,WP,WS,WT,WU,WY,WZ,Vb,Vc,Vd,Vf,Vl,Vm,Vn,Vo,Vp,Vq,Vr,Vt,Vu,Vv,Vw,Vx,Vy,Vz,V0,V2,V3,V5,V6,V7,V8,V9,VC,VD,VE,VF,VH,VI,VJ,VK,VL,VM,VN,VO,VQ,VR,VS,VT,VU,VV,VX,VY,VZ,Ua,Uc,Uf,Uh,Ui,Uj,Uk,Un,Uo,Uq,Us,Ut,Uu,Uv,Uw,Ux,Uy,Uz,U0,U1,U2,U3,U4,U5,U6,U7,U8,U9,UA,UB,UG,UH,UI,UJ,UK,UN,UQ,US,UT,UU,UV,UW,UZ,Ta,Tb,Tc,Tf,Tg,Th,Ti,Tj,Tl,Tm,Tn,Tp,Tq,Tr,Ts,Tt,Tu,Tx,Ty,Tz,T3,T7,T8,T9,TE,TF,TG,TH,TI,TJ,Sl,Sm,Sn,Sq,Sr,Ss,S3,S4,S5,z,e29,e29o,ec,ch,cl2,p6,b1,b2]
              tactic =>
                unfold x12l4
                rw [loop_rule l.ts.length (fun i => [.pt 0 0,I (minW l),tR l.ts,I l.ts.length,I (i : Nat)]) (fun _ => hL l)]
                · (sym => (simp [irem2,iquo2,remF,cL_fl,cL_all,Za,Zb,Zc,Zf,Zg,Zh,Zi,Zj,Zl,Zm,Zn,Zo,Zq,Zt,Zu,Zw,Zx,Zz,Z1,Z3,Z4,Z5,Z6,ZA,ZB,ZD,ZE,ZG,ZH,ZI,ZJ,ZK,ZL,ZM,ZP,ZQ,ZR,ZT,ZV,ZW,ZY,Yb,Yf,Yg,Ym,Yn,Yo,Yq,Yr,Ys,Yy,Yz,Y0,Y2,Y5,YA,YN,YO,YP,YR,YT,YU,Xb,Xc,Xd,Xe,Xh,Xl,Xm,Xn,Xo,Xp,Xq,Xr,Xx,Xy,XI,XJ,XO,XU,XV,XW,XZ,Wa,Wb,Wd,Wj,Wk,Wm,Wp,Wt,Wv,Ww,Wx,Wy,Wz,W0,W3,W4,W5,W6,W7,W8,WA,WB,WE,WF,WG,WH,WI,WJ,WK,WL,WM,WN,WO,WP,WS,WT,WU,WY,WZ,Vb,Vc,Vd,Vf,Vl,Vm,Vn,Vo,Vp,Vq,Vr,Vt,Vu,Vv,Vw,Vx,Vy,Vz,V0,V2,V3,V5,V6,V7,V8,V9,VC,VD,VE,VF,VH,VI,VJ,VK,VL,VM,VN,VO,VQ,VR,VS,VT,VU,VV,VX,VY,VZ,Ua,Uc,Uf,Uh,Ui,Uj,Uk,Un,Uo,Uq,Us,Ut,Uu,Uv,Uw,Ux,Uy,Uz,U0,U1,U2,U3,U4,U5,U6,U7,U8,U9,UA,UB,UG,UH,UI,UJ,UK,UN,UQ,US,UT,UU,UV,UW,UZ,Ta,Tb,Tc,Tf,Tg,Th,Ti,Tj,Tl,Tm,Tn,Tp,Tq,Tr,Ts,Tt,Tu,Tx,Ty,Tz,T3,T7,T8,T9,TE,TF,TG,TH,TI,TJ,Sl,Sm,Sn,Sq,Sr,Ss,S3,S4,S5,z2,works_w]; all_goals tactic => exact rfl))
                · (sym => (simp [irem2,iquo2,remF,cL_fl,cL_all,Za,Zb,Zc,Zf,Zg,Zh,Zi,Zj,Zl,Zm,Zn,Zo,Zq,Zt,Zu,Zw,Zx,Zz,Z1,Z3,Z4,Z5,Z6,ZA,ZB,ZD,ZE,ZG,ZH,ZI,ZJ,ZK,ZL,ZM,ZP,ZQ,ZR,ZT,ZV,ZW,ZY,Yb,Yf,Yg,Ym,Yn,Yo,Yq,Yr,Ys,Yy,Yz,Y0,Y2,Y5,YA,YN,YO,YP,YR,YT,YU,Xb,Xc,Xd,Xe,Xh,Xl,Xm,Xn,Xo,Xp,Xq,Xr,Xx,Xy,XI,XJ,XO,XU,XV,XW,XZ,Wa,Wb,Wd,Wj,Wk,Wm,Wp,Wt,Wv,Ww,Wx,Wy,Wz,W0,W3,W4,W5,W6,W7,W8,WA,WB,WE,WF,WG,WH,WI,WJ,WK,WL,WM,WN,WO,WP,WS,WT,WU,WY,WZ,Vb,Vc,Vd,Vf,Vl,Vm,Vn,Vo,Vp,Vq,Vr,Vt,Vu,Vv,Vw,Vx,Vy,Vz,V0,V2,V3,V5,V6,V7,V8,V9,VC,VD,VE,VF,VH,VI,VJ,VK,VL,VM,VN,VO,VQ,VR,VS,VT,VU,VV,VX,VY,VZ,Ua,Uc,Uf,Uh,Ui,Uj,Uk,Un,Uo,Uq,Us,Ut,Uu,Uv,Uw,Ux,Uy,Uz,U0,U1,U2,U3,U4,U5,U6,U7,U8,U9,UA,UB,UG,UH,UI,UJ,UK,UN,UQ,US,UT,UU,UV,UW,UZ,Ta,Tb,Tc,Tf,Tg,Th,Ti,Tj,Tl,Tm,Tn,Tp,Tq,Tr,Ts,Tt,Tu,Tx,Ty,Tz,T3,T7,T8,T9,TE,TF,TG,TH,TI,TJ,Sl,Sm,Sn,Sq,Sr,Ss,S3,S4,S5]; all_goals tactic => exact rfl))
                · exact rd2
                · (sym => (simp [irem2,iquo2,remF,cL_fl,cL_all,Za,Zb,Zc,Zf,Zg,Zh,Zi,Zj,Zl,Zm,Zn,Zo,Zq,Zt,Zu,Zw,Zx,Zz,Z1,Z3,Z4,Z5,Z6,ZA,ZB,ZD,ZE,ZG,ZH,ZI,ZJ,ZK,ZL,ZM,ZP,ZQ,ZR,ZT,ZV,ZW,ZY,Yb,Yf,Yg,Ym,Yn,Yo,Yq,Yr,Ys,Yy,Yz,Y0,Y2,Y5,YA,YN,YO,YP,YR,YT,YU,Xb,Xc,Xd,Xe,Xh,Xl,Xm,Xn,Xo,Xp,Xq,Xr,Xx,Xy,XI,XJ,XO,XU,XV,XW,XZ,Wa,Wb,Wd,Wj,Wk,Wm,Wp,Wt,Wv,Ww,Wx,Wy,Wz,W0,W3,W4,W5,W6,W7,W8,WA,WB,WE,WF,WG,WH,WI,WJ,WK,WL,WM,WN,WO,WP,WS,WT,WU,WY,WZ,Vb,Vc,Vd,Vf,Vl,Vm,Vn,Vo,Vp,Vq,Vr,Vt,Vu,Vv,Vw,Vx,Vy,Vz,V0,V2,V3,V5,V6,V7,V8,V9,VC,VD,VE,VF,VH,VI,VJ,VK,VL,VM,VN,VO,VQ,VR,VS,VT,VU,VV,VX,VY,VZ,Ua,Uc,Uf,Uh,Ui,Uj,Uk,Un,Uo,Uq,Us,Ut,Uu,Uv,Uw,Ux,Uy,Uz,U0,U1,U2,U3,U4,U5,U6,U7,U8,U9,UA,UB,UG,UH,UI,UJ,UK,UN,UQ,US,UT,UU,UV,UW,UZ,Ta,Tb,Tc,Tf,Tg,Th,Ti,Tj,Tl,Tm,Tn,Tp,Tq,Tr,Ts,Tt,Tu,Tx,Ty,Tz,T3,T7,T8,T9,TE,TF,TG,TH,TI,TJ,Sl,Sm,Sn,Sq,Sr,Ss,S3,S4,S5,z2]; all_goals tactic => exact rfl))
          · have ec := ec5 hN
            rw [fr5 hN]
            sym =>
              simp [irem2,iquo2,remF,cL_fl,cL_all,Za,Zb,Zc,Zf,Zg,Zh,Zi,Zj,Zl,Zm,Zn,Zo,Zq,Zt,Zu,Zw,Zx,Zz,Z1,Z3,Z4,Z5,Z6,ZA,ZB,ZD,ZE,ZG,ZH,ZI,ZJ,ZK,ZL,ZM,ZP,ZQ,ZR,ZT,ZV,ZW,ZY,Yb,Yf,Yg,Ym,Yn,Yo,Yq,Yr,Ys,Yy,Yz,Y0,Y2,Y5,YA,YN,YO,YP,YR,YT,YU,Xb,Xc,Xd,Xe,Xh,Xl,Xm,Xn,Xo,Xp,Xq,Xr,Xx,Xy,XI,XJ,XO,XU,XV,XW,XZ,Wa,Wb,Wd,Wj,Wk,Wm,Wp,Wt,Wv,Ww,Wx,Wy,Wz,W0,W3,W4,W5,W6,W7,W8,WA,WB,WE,WF,WG,WH,WI,WJ,WK,WL,WM,WN,WO,WP,WS,WT,WU,WY,WZ,Vb,Vc,Vd,Vf,Vl,Vm,Vn,Vo,Vp,Vq,Vr,Vt,Vu,Vv,Vw,Vx,Vy,Vz,V0,V2,V3,V5,V6,V7,V8,V9,VC,VD,VE,VF,VH,VI,VJ,VK,VL,VM,VN,VO,VQ,VR,VS,VT,VU,VV,VX,VY,VZ,Ua,Uc,Uf,Uh,Ui,Uj,Uk,Un,Uo,Uq,Us,Ut,Uu,Uv,Uw,Ux,Uy,Uz,U0,U1,U2,U3,U4,U5,U6,U7,U8,U9,UA,UB,UG,UH,UI,UJ,UK,UN,UQ,US,UT,UU,UV,UW,UZ,Ta,Tb,Tc,Tf,Tg,Th,Ti,Tj,Tl,Tm,Tn,Tp,Tq,Tr,Ts,Tt,Tu,Tx,Ty,Tz,T3,T7,T8,T9,TE,TF,TG,TH,TI,TJ,Sl,Sm,Sn,Sq,Sr,Ss,S3,S4,S5,z,e29,e29o,ec,ch,cl2,p6,b1,b2]
              tactic =>
                unfold x12l4
                rw [loop_rule l.ts.length (fun i => [.pt 0 0,I (minW l),tR l.ts,I l.ts.length,I (i : Nat)]) (fun _ => hL l)]
                · (sym => (simp [irem2,iquo2,remF,cL_fl,cL_all,Za,Zb,Zc,Zf,Zg,Zh,Zi,Zj,Zl,Zm,Zn,Zo,Zq,Zt,Zu,Zw,Zx,Zz,Z1,Z3,Z4,Z5,Z6,ZA,ZB,ZD,ZE,ZG,ZH,ZI,ZJ,ZK,ZL,ZM,ZP,ZQ,ZR,ZT,ZV,ZW,ZY,Yb,Yf,Yg,Ym,Yn,Yo,Yq,Yr,Ys,Yy,Yz,Y0,Y2,Y5,YA,YN,YO,YP,YR,YT,YU,Xb,Xc,Xd,Xe,Xh,Xl,Xm,Xn,Xo,Xp,Xq,Xr,Xx,Xy,XI,XJ,XO,XU,XV,XW,XZ,Wa,Wb,Wd,Wj,Wk,Wm,Wp,Wt,Wv,Ww,Wx,Wy,Wz,W0,W3,W4,W5,W6,W7,W8,WA,WB,WE,WF,WG,WH,WI,WJ,WK,WL,WM,WN,WO,WP,WS,WT,WU,WY,WZ,Vb,Vc,Vd,Vf,Vl,Vm,Vn,Vo,Vp,Vq,Vr,Vt,Vu,Vv,Vw,Vx,Vy,Vz,V0,V2,V3,V5,V6,V7,V8,V9,VC,VD,VE,VF,VH,VI,VJ,VK,VL,VM,VN,VO,VQ,VR,VS,VT,VU,VV,VX,VY,VZ,Ua,Uc,Uf,Uh,Ui,Uj,Uk,Un,Uo,Uq,Us,Ut,Uu,Uv,Uw,Ux,Uy,Uz,U0,U1,U2,U3,U4,U5,U6,U7,U8,U9,UA,UB,UG,UH,UI,UJ,UK,UN,UQ,US,UT,UU,UV,UW,UZ,Ta,Tb,Tc,Tf,Tg,Th,Ti,Tj,Tl,Tm,Tn,Tp,Tq,Tr,Ts,Tt,Tu,Tx,Ty,Tz,T3,T7,T8,T9,TE,TF,TG,TH,TI,TJ,Sl,Sm,Sn,Sq,Sr,Ss,S3,S4,S5,z2,works_w]; all_goals tactic => exact rfl))
                · (sym => (simp [irem2,iquo2,remF,cL_fl,cL_all,Za,Zb,Zc,Zf,Zg,Zh,Zi,Zj,Zl,Zm,Zn,Zo,Zq,Zt,Zu,Zw,Zx,Zz,Z1,Z3,Z4,Z5,Z6,ZA,ZB,ZD,ZE,ZG,ZH,ZI,ZJ,ZK,ZL,ZM,ZP,ZQ,ZR,ZT,ZV,ZW,ZY,Yb,Yf,Yg,Ym,Yn,Yo,Yq,Yr,Ys,Yy,Yz,Y0,Y2,Y5,YA,YN,YO,YP,YR,YT,YU,Xb,Xc,Xd,Xe,Xh,Xl,Xm,Xn,Xo,Xp,Xq,Xr,Xx,Xy,XI,XJ,XO,XU,XV,XW,XZ,Wa,Wb,Wd,Wj,Wk,Wm,Wp,Wt,Wv,Ww,Wx,Wy,Wz,W0,W3,W4,W5,W6,W7,W8,WA,WB,WE,WF,WG,WH,WI,WJ,WK,WL,WM,WN,WO,WP,WS,WT,WU,WY,WZ,Vb,Vc,Vd,Vf,Vl,Vm,Vn,Vo,Vp,Vq,Vr,Vt,Vu,Vv,Vw,Vx,Vy,Vz,V0,V2,V3,V5,V6,V7,V8,V9,VC,VD,VE,VF,VH,VI,VJ,VK,VL,VM,VN,VO,VQ,VR,VS,VT,VU,VV,VX,VY,VZ,Ua,Uc,Uf,Uh,Ui,Uj,Uk,Un,Uo,Uq,Us,Ut,Uu,Uv,Uw,Ux,Uy,Uz,U0,U1,U2,U3,U4,U5,U6,U7,U8,U9,UA,UB,UG,UH,UI,UJ,UK,UN,UQ,US,UT,UU,UV,UW,UZ,Ta,Tb,Tc,Tf,Tg,Th,Ti,Tj,Tl,Tm,Tn,Tp,Tq,Tr,Ts,Tt,Tu,Tx,Ty,Tz,T3,T7,T8,T9,TE,TF,TG,TH,TI,TJ,Sl,Sm,Sn,Sq,Sr,Ss,S3,S4,S5]; all_goals tactic => exact rfl))
                · exact rd2
                · (sym => (simp [irem2,iquo2,remF,cL_fl,cL_all,Za,Zb,Zc,Zf,Zg,Zh,Zi,Zj,Zl,Zm,Zn,Zo,Zq,Zt,Zu,Zw,Zx,Zz,Z1,Z3,Z4,Z5,Z6,ZA,ZB,ZD,ZE,ZG,ZH,ZI,ZJ,ZK,ZL,ZM,ZP,ZQ,ZR,ZT,ZV,ZW,ZY,Yb,Yf,Yg,Ym,Yn,Yo,Yq,Yr,Ys,Yy,Yz,Y0,Y2,Y5,YA,YN,YO,YP,YR,YT,YU,Xb,Xc,Xd,Xe,Xh,Xl,Xm,Xn,Xo,Xp,Xq,Xr,Xx,Xy,XI,XJ,XO,XU,XV,XW,XZ,Wa,Wb,Wd,Wj,Wk,Wm,Wp,Wt,Wv,Ww,Wx,Wy,Wz,W0,W3,W4,W5,W6,W7,W8,WA,WB,WE,WF,WG,WH,WI,WJ,WK,WL,WM,WN,WO,WP,WS,WT,WU,WY,WZ,Vb,Vc,Vd,Vf,Vl,Vm,Vn,Vo,Vp,Vq,Vr,Vt,Vu,Vv,Vw,Vx,Vy,Vz,V0,V2,V3,V5,V6,V7,V8,V9,VC,VD,VE,VF,VH,VI,VJ,VK,VL,VM,VN,VO,VQ,VR,VS,VT,VU,VV,VX,VY,VZ,Ua,Uc,Uf,Uh,Ui,Uj,Uk,Un,Uo,Uq,Us,Ut,Uu,Uv,Uw,Ux,Uy,Uz,U0,U1,U2,U3,U4,U5,U6,U7,U8,U9,UA,UB,UG,UH,UI,UJ,UK,UN,UQ,US,UT,UU,UV,UW,UZ,Ta,Tb,Tc,Tf,Tg,Th,Ti,Tj,Tl,Tm,Tn,Tp,Tq,Tr,Ts,Tt,Tu,Tx,Ty,Tz,T3,T7,T8,T9,TE,TF,TG,TH,TI,TJ,Sl,Sm,Sn,Sq,Sr,Ss,S3,S4,S5,z2]; all_goals tactic => exact rfl))
        · rw [fr0]
          (sym => (simp [irem2,iquo2,remF,cL_fl,cL_all,Za,Zb,Zc,Zf,Zg,Zh,Zi,Zj,Zl,Zm,Zn,Zo,Zq,Zt,Zu,Zw,Zx,Zz,Z1,Z3,Z4,Z5,Z6,ZA,ZB,ZD,ZE,ZG,ZH,ZI,ZJ,ZK,ZL,ZM,ZP,ZQ,ZR,ZT,ZV,ZW,ZY,Yb,Yf,Yg,Ym,Yn,Yo,Yq,Yr,Ys,Yy,Yz,Y0,Y2,Y5,YA,YN,YO,YP,YR,YT,YU,Xb,Xc,Xd,Xe,Xh,Xl,Xm,Xn,Xo,Xp,Xq,Xr,Xx,Xy,XI,XJ,XO,XU,XV,XW,XZ,Wa,Wb,Wd,Wj,Wk,Wm,Wp,Wt,Wv,Ww,Wx,Wy,Wz,W0,W3,W4,W5,W6,W7,W8,WA,WB,WE,WF,WG,WH,WI,WJ,WK,WL,WM,WN,WO,WP,WS,WT,WU,WY,WZ,Vb,Vc,Vd,Vf,Vl,Vm,Vn,Vo,Vp,Vq,Vr,Vt,Vu,Vv,Vw,Vx,Vy,Vz,V0,V2,V3,V5,V6,V7,V8,V9,VC,VD,VE,VF,VH,VI,VJ,VK,VL,VM,VN,VO,VQ,VR,VS,VT,VU,VV,VX,VY,VZ,Ua,Uc,Uf,Uh,Ui,Uj,Uk,Un,Uo,Uq,Us,Ut,Uu,Uv,Uw,Ux,Uy,Uz,U0,U1,U2,U3,U4,U5,U6,U7,U8,U9,UA,UB,UG,UH,UI,UJ,UK,UN,UQ,US,UT,UU,UV,UW,UZ,Ta,Tb,Tc,Tf,Tg,Th,Ti,Tj,Tl,Tm,Tn,Tp,Tq,Tr,Ts,Tt,Tu,Tx,Ty,Tz,T3,T7,T8,T9,TE,TF,TG,TH,TI,TJ,Sl,Sm,Sn,Sq,Sr,Ss,S3,S4,S5]; all_goals tactic => exact rfl))
        · exact rd1
        · rcases hN5 with hN | hN | hN | hN | hN
          · rw [fr1 hN]
            (sym => (simp [irem2,iquo2,remF,cL_fl,cL_all,Za,Zb,Zc,Zf,Zg,Zh,Zi,Zj,Zl,Zm,Zn,Zo,Zq,Zt,Zu,Zw,Zx,Zz,Z1,Z3,Z4,Z5,Z6,ZA,ZB,ZD,ZE,ZG,ZH,ZI,ZJ,ZK,ZL,ZM,ZP,ZQ,ZR,ZT,ZV,ZW,ZY,Yb,Yf,Yg,Ym,Yn,Yo,Yq,Yr,Ys,Yy,Yz,Y0,Y2,Y5,YA,YN,YO,YP,YR,YT,YU,Xb,Xc,Xd,Xe,Xh,Xl,Xm,Xn,Xo,Xp,Xq,Xr,Xx,Xy,XI,XJ,XO,XU,XV,XW,XZ,Wa,Wb,Wd,Wj,Wk,Wm,Wp,Wt,Wv,Ww,Wx,Wy,Wz,W0,W3,W4,W5,W6,W7,W8,WA,WB,WE,WF,WG,WH,WI,WJ,WK,WL,WM,WN,WO,WP,WS,WT,WU,WY,WZ,Vb,Vc,Vd,Vf,Vl,Vm,Vn,Vo,Vp,Vq,Vr,Vt,Vu,Vv,Vw,Vx,Vy,Vz,V0,V2,V3,V5,V6,V7,V8,V9,VC,VD,VE,VF,VH,VI,VJ,VK,VL,VM,VN,VO,VQ,VR,VS,VT,VU,VV,VX,VY,VZ,Ua,Uc,Uf,Uh,Ui,Uj,Uk,Un,Uo,Uq,Us,Ut,Uu,Uv,Uw,Ux,Uy,Uz,U0,U1,U2,U3,U4,U5,U6,U7,U8,U9,UA,UB,UG,UH,UI,UJ,UK,UN,UQ,US,UT,UU,UV,UW,UZ,Ta,Tb,Tc,Tf,Tg,Th,Ti,Tj,Tl,Tm,Tn,Tp,Tq,Tr,Ts,Tt,Tu,Tx,Ty,Tz,T3,T7,T8,T9,TE,TF,TG,TH,TI,TJ,Sl,Sm,Sn,Sq,Sr,Ss,S3,S4,S5,z]; all_goals tactic => exact rfl))
          · rw [fr2 hN]
            (sym => (simp [irem2,iquo2,remF,cL_fl,cL_all,Za,Zb,Zc,Zf,Zg,Zh,Zi,Zj,Zl,Zm,Zn,Zo,Zq,Zt,Zu,Zw,Zx,Zz,Z1,Z3,Z4,Z5,Z6,ZA,ZB,ZD,ZE,ZG,ZH,ZI,ZJ,ZK,ZL,ZM,ZP,ZQ,ZR,ZT,ZV,ZW,ZY,Yb,Yf,Yg,Ym,Yn,Yo,Yq,Yr,Ys,Yy,Yz,Y0,Y2,Y5,YA,YN,YO,YP,YR,YT,YU,Xb,Xc,Xd,Xe,Xh,Xl,Xm,Xn,Xo,Xp,Xq,Xr,Xx,Xy,XI,XJ,XO,XU,XV,XW,XZ,Wa,Wb,Wd,Wj,Wk,Wm,Wp,Wt,Wv,Ww,Wx,Wy,Wz,W0,W3,W4,W5,W6,W7,W8,WA,WB,WE,WF,WG,WH,WI,WJ,WK,WL,WM,WN,WO,WP,WS,WT,WU,WY,WZ,Vb,Vc,Vd,Vf,Vl,Vm,Vn,Vo,Vp,Vq,Vr,Vt,Vu,Vv,Vw,Vx,Vy,Vz,V0,V2,V3,V5,V6,V7,V8,V9,VC,VD,VE,VF,VH,VI,VJ,VK,VL,VM,VN,VO,VQ,VR,VS,VT,VU,VV,VX,VY,VZ,Ua,Uc,Uf,Uh,Ui,Uj,Uk,Un,Uo,Uq,Us,Ut,Uu,Uv,Uw,Ux,Uy,Uz,U0,U1,U2,U3,U4,U5,U6,U7,U8,U9,UA,UB,UG,UH,UI,UJ,UK,UN,UQ,US,UT,UU,UV,UW,UZ,Ta,Tb,Tc,Tf,Tg,Th,Ti,Tj,Tl,Tm,Tn,Tp,Tq,Tr,Ts,Tt,Tu,Tx,Ty,Tz,T3,T7,T8,T9,TE,TF,TG,TH,TI,TJ,Sl,Sm,Sn,Sq,Sr,Ss,S3,S4,S5,z]; all_goals tactic => exact rfl))
          · rw [fr3 hN]
            (sym => (simp [irem2,iquo2,remF,cL_fl,cL_all,Za,Zb,Zc,Zf,Zg,Zh,Zi,Zj,Zl,Zm,Zn,Zo,Zq,Zt,Zu,Zw,Zx,Zz,Z1,Z3,Z4,Z5,Z6,ZA,ZB,ZD,ZE,ZG,ZH,ZI,ZJ,ZK,ZL,ZM,ZP,ZQ,ZR,ZT,ZV,ZW,ZY,Yb,Yf,Yg,Ym,Yn,Yo,Yq,Yr,Ys,Yy,Yz,Y0,Y2,Y5,YA,YN,YO,YP,YR,YT,YU,Xb,Xc,Xd,Xe,Xh,Xl,Xm,Xn,Xo,Xp,Xq,Xr,Xx,Xy,XI,XJ,XO,XU,XV,XW,XZ,Wa,Wb,Wd,Wj,Wk,Wm,Wp,Wt,Wv,Ww,Wx,Wy,Wz,W0,W3,W4,W5,W6,W7,W8,WA,WB,WE,WF,WG,WH,WI,WJ,WK,WL,WM,WN,WO,WP,WS,WT,WU,WY,WZ,Vb,Vc,Vd,Vf,Vl,Vm,Vn,Vo,Vp,Vq,Vr,Vt,Vu,Vv,Vw,Vx,Vy,Vz,V0,V2,V3,V5,V6,V7,V8,V9,VC,VD,VE,VF,VH,VI,VJ,VK,VL,VM,VN,VO,VQ,VR,VS,VT,VU,VV,VX,VY,VZ,Ua,Uc,Uf,Uh,Ui,Uj,Uk,Un,Uo,Uq,Us,Ut,Uu,Uv,Uw,Ux,Uy,Uz,U0,U1,U2,U3,U4,U5,U6,U7,U8,U9,UA,UB,UG,UH,UI,UJ,UK,UN,UQ,US,UT,UU,UV,UW,UZ,Ta,Tb,Tc,Tf,Tg,Th,Ti,Tj,Tl,Tm,Tn,Tp,Tq,Tr,Ts,Tt,Tu,Tx,Ty,Tz,T3,T7,T8,T9,TE,TF,TG,TH,TI,TJ,Sl,Sm,Sn,Sq,Sr,Ss,S3,S4,S5,z]; all_goals tactic => exact rfl))
          · rw [fr4 hN]
            (sym => (simp [irem2,iquo2,remF,cL_fl,cL_all,Za,Zb,Zc,Zf,Zg,Zh,Zi,Zj,Zl,Zm,Zn,Zo,Zq,Zt,Zu,Zw,Zx,Zz,Z1,Z3,Z4,Z5,Z6,ZA,ZB,ZD,ZE,ZG,ZH,ZI,ZJ,ZK,ZL,ZM,ZP,ZQ,ZR,ZT,ZV,ZW,ZY,Yb,Yf,Yg,Ym,Yn,Yo,Yq,Yr,Ys,Yy,Yz,Y0,Y2,Y5,YA,YN,YO,YP,YR,YT,YU,Xb,Xc,Xd,Xe,Xh,Xl,Xm,Xn,Xo,Xp,Xq,Xr,Xx,Xy,XI,XJ,XO,XU,XV,XW,XZ,Wa,Wb,Wd,Wj,Wk,Wm,Wp,Wt,Wv,Ww,Wx,Wy,Wz,W0,W3,W4,W5,W6,W7,W8,WA,WB,WE,WF,WG,WH,WI,WJ,WK,WL,WM,WN,WO,WP,WS,WT,WU,WY,WZ,Vb,Vc,Vd,Vf,Vl,Vm,Vn,Vo,Vp,Vq,Vr,Vt,Vu,Vv,Vw,Vx,Vy,Vz,V0,V2,V3,V5,V6,V7,V8,V9,VC,VD,VE,VF,VH,VI,VJ,VK,VL,VM,VN,VO,VQ,VR,VS,VT,VU,VV,VX,VY,VZ,Ua,Uc,Uf,Uh,Ui,Uj,Uk,Un,Uo,Uq,Us,Ut,Uu,Uv,Uw,Ux,Uy,Uz,U0,U1,U2,U3,U4,U5,U6,U7,U8,U9,UA,UB,UG,UH,UI,UJ,UK,UN,UQ,US,UT,UU,UV,UW,UZ,Ta,Tb,Tc,Tf,Tg,Th,Ti,Tj,Tl,Tm,Tn,Tp,Tq,Tr,Ts,Tt,Tu,Tx,Ty,Tz,T3,T7,T8,T9,TE,TF,TG,TH,TI,TJ,Sl,Sm,Sn,Sq,Sr,Ss,S3,S4,S5,z]; all_goals tactic => exact rfl))
          · rw [fr5 hN]
            (sym => (simp [irem2,iquo2,remF,cL_fl,cL_all,Za,Zb,Zc,Zf,Zg,Zh,Zi,Zj,Zl,Zm,Zn,Zo,Zq,Zt,Zu,Zw,Zx,Zz,Z1,Z3,Z4,Z5,Z6,ZA,ZB,ZD,ZE,ZG,ZH,ZI,ZJ,ZK,ZL,ZM,ZP,ZQ,ZR,ZT,ZV,ZW,ZY,Yb,Yf,Yg,Ym,Yn,Yo,Yq,Yr,Ys,Yy,Yz,Y0,Y2,Y5,YA,YN,YO,YP,YR,YT,YU,Xb,Xc,Xd,Xe,Xh,Xl,Xm,Xn,Xo,Xp,Xq,Xr,Xx,Xy,XI,XJ,XO,XU,XV,XW,XZ,Wa,Wb,Wd,Wj,Wk,Wm,Wp,Wt,Wv,Ww,Wx,Wy,Wz,W0,W3,W4,W5,W6,W7,W8,WA,WB,WE,WF,WG,WH,WI,WJ,WK,WL,WM,WN,WO,WP,WS,WT,WU,WY,WZ,Vb,Vc,Vd,Vf,Vl,Vm,Vn,Vo,Vp,Vq,Vr,Vt,Vu,Vv,Vw,Vx,Vy,Vz,V0,V2,V3,V5,V6,V7,V8,V9,VC,VD,VE,VF,VH,VI,VJ,VK,VL,VM,VN,VO,VQ,VR,VS,VT,VU,VV,VX,VY,VZ,Ua,Uc,Uf,Uh,Ui,Uj,Uk,Un,Uo,Uq,Us,Ut,Uu,Uv,Uw,Ux,Uy,Uz,U0,U1,U2,U3,U4,U5,U6,U7,U8,U9,UA,UB,UG,UH,UI,UJ,UK,UN,UQ,US,UT,UU,UV,UW,UZ,Ta,Tb,Tc,Tf,Tg,Th,Ti,Tj,Tl,Tm,Tn,Tp,Tq,Tr,Ts,Tt,Tu,Tx,Ty,Tz,T3,T7,T8,T9,TE,TF,TG,TH,TI,TJ,Sl,Sm,Sn,Sq,Sr,Ss,S3,S4,S5,z]; all_goals tactic => exact rfl))
end Go.Proofs.YtpbeclkpohehgaaDoor
namespace Go.Proofs.YtpbeclkpohehgaaDoor
open Go Go.DL
set_option maxRecDepth 100000
set_option maxHeartbeats 4000000
section
variable {l : Li} (g : Good l) {t : Nat}
include g
end
end Go.Proofs.YtpbeclkpohehgaaDoor
namespace Go.Proofs.YtpbeclkpohehgaaDoor
open Go Go.DL
set_option maxRecDepth 100000
set_option maxHeartbeats 4000000
section
variable {l : Li} (g : Good l) {t : Nat} {ks : List Nat} (hl : ks.length = l.ls.length) (hk : ∀ k ∈ ks,k < l.ls.length)
include g hl hk
end
section
variable {l : Li} (g : Good l) {rs : List Nat} (hnd : rs.Nodup) (hal : ∀ j,j < l.ls.length → j ∈ rs) (hlt : ∀ k ∈ rs,k < l.ls.length) (hne : 0 < l.ls.length)
include g hnd hal hlt hne
end
end Go.Proofs.YtpbeclkpohehgaaDoor
namespace Go.Proofs.YtpbeclkpohehgaaDoor
open Go Go.DL
set_option maxRecDepth 100000
set_option maxHeartbeats 4000000
section
variable {l : Li}
end
end Go.Proofs.YtpbeclkpohehgaaDoor
