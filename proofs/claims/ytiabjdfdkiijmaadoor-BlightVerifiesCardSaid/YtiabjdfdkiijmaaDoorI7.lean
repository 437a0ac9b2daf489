/- Parts of a proof, joined: K69 K70 K71 K72 K73 K74 K75 K76 K77 K78 K79 K80 K81 K82 K83. No statement of the seed is proved here. -/
import Derived.KernelRfl
import Derived.Test.YtiabjdfdkiijmaaDoorI6
set_option linter.unusedSimpArgs false
set_option linter.unusedVariables false
set_option linter.unusedSectionVars false
namespace Go.Proofs.YtiabjdfdkiijmaaDoor
open Go Go.DL
set_option maxRecDepth 100000
set_option maxHeartbeats 4000000
abbrev s34 (ws:List (List Int)) (u i:Nat):List AV:=[wL ws,.pt 0 0,I (u:Nat),I (i:Nat)]
section
variable {x:Vn} (ok:x.Ok) {ws:List (List Int)} (hws:ws.length≤100) (hw:∀ w∈ws,w.length<1000000) {u i:Nat} (hu:u<2^x.F)
include ok hu in
theorem aIr {ks:List Nat} (hx:ws[i]?=some (cQ ks)) (hks:∀ k∈ks,k<x.F) (hl:ks.length<1000000) (hkn:ks≠[]) (hws:ws.length≤100) :
 (fP x ks=false→∃ e h,execW aA 34 0 none (match cV with | .loop _ a=>a|c=>c) (aS [1,2,6,7] (s34 ws u i)) (dT x)=some (.ret,e,h)∧bD none x34.res x34.ownR 0 (some (.ret,e,h))=some (I 21,[])) ∧
 (fP x ks=true→bJ (xB x u ks) ks.length≠0→∃ e h,execW aA 34 0 none (match cV with | .loop _ a=>a|c=>c) (aS [1,2,6,7] (s34 ws u i)) (dT x)=some (.ret,e,h)∧bD none x34.res x34.ownR 0 (some (.ret,e,h))=some (I 6,[])) ∧
 (fP x ks=true→bJ (xB x u ks) ks.length=0→aV 0 [1,2,6,7] (execW aA 34 0 none (match cV with | .loop _ a=>a|c=>c) (aS [1,2,6,7] (s34 ws u i)) (dT x))=some (s34 ws (uWi u (cQ ks)) (i+1),dT x)):=by
 have hi:=eI hx
 have hF:=ok.F16
 have hp:=bA hF
 have hsk:=ok.s
 have hnu:=ok.n
 have hfx:=ok.f
 have a1:=cT hi
 have a2:=fD hi (by omega)
 have hnf:=aBK hks
 have rda:=fun j (hj:j<(cQ ks).length)=>aAw (ws:=ws) (u:=u) (i:=i) ok (w:=cQ ks) (by rw[bR];omega) hj (dS hnf j hj)
 have rdb:=fun j (hj:j<ks.length)=>aET (ws:=ws) (u:=u) (i:=i) ok hks hl hj
 have hpos:0<ks.length:=List.length_pos_iff.2 hkn
 obtain⟨a,ha⟩:=bK hpos
 obtain⟨b,hb⟩:=bK (l:=ks) (i:=ks.length-1) (by omega)
 have haF:=hks a (List.mem_of_getElem? ha)
 have hbF:=hks b (List.mem_of_getElem? hb)
 have g0:gB x ks 0=(x.sick.testBit a&&x.nur.testBit b):=by rw[gB,aO ha,aO hb]
 have ga:=fO ha
 have gb:=fO hb
 have gl:=bR ks
 rw[gl]at rda
 have e1:=w52 (a:=x.sick) (j:=a) (by omega) (by omega)
 have e2:=w52 (a:=x.nur) (j:=b) (by omega) (by omega)
 have c1:((0:Int)<(ks.length:Int))=True:=eq_true (by omega)
 have c0:((ks.length:Int)=0)=False:=eq_false (by omega)
 have u1:IntKind.i64.wrap ((ks.length:Int)-1)=((ks.length-1:Nat):Int):=by rw[aE (by omega) (by omega)];omega
 have c2:(((ks.length-1:Nat):Int)<(ks.length:Int))=True:=eq_true (by omega)
 have c3:((0:Int)≤((ks.length-1:Nat):Int))=True:=eq_true (by omega)
 have hWl:=tT hks ks.length
 have hlt:u&&&cE ks ks.length<65536:=Nat.lt_of_le_of_lt Nat.and_le_left (by omega)
 have b1:=nK cN (a:=u) (b:=cE ks ks.length) (by omega) (by omega)
 have b2:=jR cN (a:=u&&&cE ks ks.length) (b:=x.fix) (by omega) (by omega)
 have b3:=dH cN (a:=u) (b:=cE ks ks.length) (by omega) (by omega)
 have hcf:=aJE (x:=x) (u:=u) (ks:=ks) (by omega) (by omega) (by omega)
 have hgl:=aFP x ks
 have z:=Te (n:=(ks.length:Int))
 have huw:uWi u (cQ ks)=u|||cE ks ks.length:=by unfold uWi;rw[eY,bR,aIs]
 rw[huw]
 have w0:cE ks 0=0:=rfl
 generalize ks.length-1=n1 at *
 generalize hd:jP (u&&&cE ks ks.length) x.fix=d at *
 generalize u&&&cE ks ks.length=uw at *
 generalize u|||cE ks ks.length=uo at *
 generalize hW:cE ks ks.length=W at *
 rw[←hgl]
 refine⟨fun hld=>?_,fun hld hc=>?_,fun hld hc=>?_⟩
 ·generalize x.sick.testBit a=sb at *
  generalize x.nur.testBit b=nb at *
  cases sb
  ·cases nb
   ·-- case
    refine bU ?_ ?_
    ·-- dJ
     unfold cV
     dsimp only
     sym =>
      simp[Za,Zb,Zf,Zh,Zl,Zm,Zv,Z3,ZA,ZF,ZG,Yc,Yg,Yh,Yq,Ys,Yw,Yx,WC,VQ,VT,VU,VV,Ug,Uh,Ui,Uj,Uk,Uu,Uy,Uz,Th,Ti,Tk,Tt,Tu,Tw,Ty,Tz,T6,T7,a1,hx,gl,c0]
      tactic =>
       unfold dD
       rw[aD ks.length (fun j=>iN ws u i (cQ ks) j) (fun _=>dT x)]
       ·sym =>
        simp[Za,Zb,Ze,Zf,Zg,Zh,Zk,Zl,Zm,Zp,Zs,Zv,Zy,Z3,Z8,ZA,ZF,ZH,ZI,ZJ,ZM,ZQ,ZR,ZT,ZU,ZW,Ya,Yc,Yg,Yh,Ys,Y8,YX,Xr,Xs,W3,W4,W5,WA,WC,WK,WN,WP,WU,WV,Vi,Vj,Vk,Vm,Vp,Vq,Vv,Vx,Vy,V0,V1,V3,VQ,VT,VV,VZ,Ua,Uc,Ud,Ug,Uh,Ui,Uj,Uk,Um,Ur,Us,Ut,Uu,Uz,U0,U1,U2,U3,U4,U5,U6,Te,Tf,Tg,Th,Ti,Tk,Tt,Tu,Tx,Ty,Tz,T0,T4,T6,T7,SB,SC,SD,SF,SG,SI,z,gl,ga,e1,c1,gb,e2,c2,c3,u1]
        tactic =>
         unfold dV
         rw[aD ks.length (fun j=>bN x ws u i ks j) (fun _=>dT x)]
         ·rw[bN,hld,hW]; (sym=>(simp[Za,Zb,Zf,Zh,Zl,Zm,Zv,Z3,Z5,ZF,ZX,Yc,Ys,VQ,VT,VU,VV,VX,Ui,Ur,Uz,Te,Tt,Tu,Tv,Tx,Tz,T0,T1,T3,T4,T6,T7,z,gl];all_goals tactic=>exact rfl))
         ·rw[bN,g0,w0]; (sym=>(simp[Za,Y9,YX,YY,Xb,Xd,Xr,Xs,Xv,Xx,W3,WE,WH,WI,WK,WL,WM,WO,WQ,WR,WS,WT,WY,WZ,Vf,VQ,VR,VS,VZ,Ua,Uc,Ud,Uf,Uk,Uo,Ux,U3,U4,U5,U6,T5,TK,gl];all_goals tactic=>exact rfl))
         ·exact rdb
         ·rw[bN,hld,hW]; (sym=>(simp[Za,Zb,Zf,Zh,Zl,Zm,Zv,Z3,ZF,Yc,Ys,VQ,VT,VV,VW,Ui,Uz,Te,Tt,Tu,Tx,Tz,T0,T6,z,gl];all_goals tactic=>exact rfl))
       ·(sym=>(simp[Za,Y9,YX,Xb,Xd,Xr,Xv,Xx,W3,WE,WH,WI,WK,WL,WM,WO,WQ,WR,WS,WT,WY,WZ,Vf,VQ,VR,VS,VZ,Ua,Uc,Ud,Uf,Uk,Ux,U3,U4,U5,U6,T5,TK,gl];all_goals tactic=>exact rfl))
       ·exact rda
       ·(sym=>(simp[Za,Zb,Zf,Zh,Zl,Zm,Zv,Z3,ZF,Yc,Ys,VQ,VT,VV,VW,Ui,Uz,Te,Tt,Tu,Tx,Tz,T0,T6,z,gl];all_goals tactic=>exact rfl))
    ·-- returns
     unfold cV
     dsimp only
     sym =>
      simp[Za,Zb,Zf,Zh,Zl,Zm,Zv,Z3,ZA,ZF,ZG,Yc,Yg,Yh,Yq,Ys,Yw,Yx,WC,VQ,VT,VU,VV,Ug,Uh,Ui,Uj,Uk,Uu,Uy,Uz,Th,Ti,Tk,Tt,Tu,Tw,Ty,Tz,T6,T7,a1,hx,gl,c0]
      tactic =>
       unfold dD
       rw[aD ks.length (fun j=>iN ws u i (cQ ks) j) (fun _=>dT x)]
       ·sym =>
        simp[Za,Zb,Ze,Zf,Zg,Zh,Zk,Zl,Zm,Zp,Zs,Zv,Zy,Z3,Z8,ZA,ZF,ZH,ZI,ZJ,ZM,ZQ,ZR,ZT,ZU,ZW,Ya,Yc,Yg,Yh,Ys,Y8,YX,Xr,Xs,W3,W4,W5,WA,WC,WK,WN,WP,WU,WV,Vi,Vj,Vk,Vm,Vp,Vq,Vv,Vx,Vy,V0,V1,V3,VQ,VT,VV,VZ,Ua,Uc,Ud,Ug,Uh,Ui,Uj,Uk,Um,Ur,Us,Ut,Uu,Uz,U0,U1,U2,U3,U4,U5,U6,Te,Tf,Tg,Th,Ti,Tk,Tt,Tu,Tx,Ty,Tz,T0,T4,T6,T7,SB,SC,SD,SF,SG,SI,z,gl,ga,e1,c1,gb,e2,c2,c3,u1]
        tactic =>
         unfold dV
         rw[aD ks.length (fun j=>bN x ws u i ks j) (fun _=>dT x)]
         ·rw[bN,hld,hW]; (sym=>(simp[Za,Zb,Zf,Zh,Zl,Zm,Zv,Z3,Z5,ZF,ZX,Yc,Ys,V9,VF,VQ,VT,VU,VV,Ui,Ur,Uz,Te,Tt,Tu,Tv,Tx,Tz,T0,T1,T3,T4,T6,T7,z,gl];all_goals tactic=>exact rfl))
         ·rw[bN,g0,w0]; (sym=>(simp[Za,Y9,YX,YY,Xb,Xd,Xr,Xs,Xv,Xx,W3,WE,WH,WI,WK,WL,WM,WO,WQ,WR,WS,WT,WY,WZ,Vf,VQ,VR,VS,VZ,Ua,Uc,Ud,Uf,Uk,Uo,Ux,U3,U4,U5,U6,T5,TK,gl];all_goals tactic=>exact rfl))
         ·exact rdb
         ·rw[bN,hld,hW]; (sym=>(simp[Za,Zb,Zf,Zh,Zl,Zm,Zv,Z3,ZF,Yc,Ys,VQ,VT,VV,VW,Ui,Uz,Te,Tt,Tu,Tx,Tz,T0,T6,z,gl];all_goals tactic=>exact rfl))
       ·(sym=>(simp[Za,Y9,YX,Xb,Xd,Xr,Xv,Xx,W3,WE,WH,WI,WK,WL,WM,WO,WQ,WR,WS,WT,WY,WZ,Vf,VQ,VR,VS,VZ,Ua,Uc,Ud,Uf,Uk,Ux,U3,U4,U5,U6,T5,TK,gl];all_goals tactic=>exact rfl))
       ·exact rda
       ·(sym=>(simp[Za,Zb,Zf,Zh,Zl,Zm,Zv,Z3,ZF,Yc,Ys,VQ,VT,VV,VW,Ui,Uz,Te,Tt,Tu,Tx,Tz,T0,T6,z,gl];all_goals tactic=>exact rfl))
   ·-- case
    refine bU ?_ ?_
    ·-- dJ
     unfold cV
     dsimp only
     sym =>
      simp[Za,Zb,Zf,Zh,Zl,Zm,Zv,Z3,ZA,ZF,ZG,Yc,Yg,Yh,Yq,Ys,Yw,Yx,WC,VQ,VT,VU,VV,Ug,Uh,Ui,Uj,Uk,Uu,Uy,Uz,Th,Ti,Tk,Tt,Tu,Tw,Ty,Tz,T6,T7,a1,hx,gl,c0]
      tactic =>
       unfold dD
       rw[aD ks.length (fun j=>iN ws u i (cQ ks) j) (fun _=>dT x)]
       ·sym =>
        simp[Za,Zb,Ze,Zf,Zg,Zh,Zk,Zl,Zm,Zp,Zs,Zv,Zy,Z3,Z8,ZA,ZF,ZH,ZI,ZJ,ZM,ZQ,ZR,ZT,ZU,ZW,Ya,Yc,Yg,Yh,Ys,Y8,YX,Xr,Xs,W3,W4,W5,WA,WC,WK,WN,WP,WU,WV,Vi,Vj,Vk,Vm,Vp,Vq,Vv,Vx,Vy,V0,V1,V3,VQ,VT,VV,VZ,Ua,Uc,Ud,Ug,Uh,Ui,Uj,Uk,Um,Ur,Us,Ut,Uu,Uz,U0,U1,U2,U3,U4,U5,U6,Te,Tf,Tg,Th,Ti,Tk,Tt,Tu,Tx,Ty,Tz,T0,T4,T6,T7,SB,SC,SD,SF,SG,SI,z,gl,ga,e1,c1,gb,e2,c2,c3,u1]
        tactic =>
         unfold dV
         rw[aD ks.length (fun j=>bN x ws u i ks j) (fun _=>dT x)]
         ·rw[bN,hld,hW]; (sym=>(simp[Za,Zb,Zf,Zh,Zl,Zm,Zv,Z3,Z5,ZF,ZX,Yc,Ys,VQ,VT,VU,VV,VX,Ui,Ur,Uz,Te,Tt,Tu,Tv,Tx,Tz,T0,T1,T3,T4,T6,T7,z,gl];all_goals tactic=>exact rfl))
         ·rw[bN,g0,w0]; (sym=>(simp[Za,Y9,YX,YY,Xb,Xd,Xr,Xs,Xv,Xx,W3,WE,WH,WI,WK,WL,WM,WO,WQ,WR,WS,WT,WY,WZ,Vf,VQ,VR,VS,VZ,Ua,Uc,Ud,Uf,Uk,Um,Ux,U3,U4,U5,U6,T5,TK,gl];all_goals tactic=>exact rfl))
         ·exact rdb
         ·rw[bN,hld,hW]; (sym=>(simp[Za,Zb,Zf,Zh,Zl,Zm,Zv,Z3,ZF,Yc,Ys,VQ,VT,VV,VW,Ui,Uz,Te,Tt,Tu,Tx,Tz,T0,T6,z,gl];all_goals tactic=>exact rfl))
       ·(sym=>(simp[Za,Y9,YX,Xb,Xd,Xr,Xv,Xx,W3,WE,WH,WI,WK,WL,WM,WO,WQ,WR,WS,WT,WY,WZ,Vf,VQ,VR,VS,VZ,Ua,Uc,Ud,Uf,Uk,Ux,U3,U4,U5,U6,T5,TK,gl];all_goals tactic=>exact rfl))
       ·exact rda
       ·(sym=>(simp[Za,Zb,Zf,Zh,Zl,Zm,Zv,Z3,ZF,Yc,Ys,VQ,VT,VV,VW,Ui,Uz,Te,Tt,Tu,Tx,Tz,T0,T6,z,gl];all_goals tactic=>exact rfl))
    ·-- returns
     unfold cV
     dsimp only
     sym =>
      simp[Za,Zb,Zf,Zh,Zl,Zm,Zv,Z3,ZA,ZF,ZG,Yc,Yg,Yh,Yq,Ys,Yw,Yx,WC,VQ,VT,VU,VV,Ug,Uh,Ui,Uj,Uk,Uu,Uy,Uz,Th,Ti,Tk,Tt,Tu,Tw,Ty,Tz,T6,T7,a1,hx,gl,c0]
      tactic =>
       unfold dD
       rw[aD ks.length (fun j=>iN ws u i (cQ ks) j) (fun _=>dT x)]
       ·sym =>
        simp[Za,Zb,Ze,Zf,Zg,Zh,Zk,Zl,Zm,Zp,Zs,Zv,Zy,Z3,Z8,ZA,ZF,ZH,ZI,ZJ,ZM,ZQ,ZR,ZT,ZU,ZW,Ya,Yc,Yg,Yh,Ys,Y8,YX,Xr,Xs,W3,W4,W5,WA,WC,WK,WN,WP,WU,WV,Vi,Vj,Vk,Vm,Vp,Vq,Vv,Vx,Vy,V0,V1,V3,VQ,VT,VV,VZ,Ua,Uc,Ud,Ug,Uh,Ui,Uj,Uk,Um,Ur,Us,Ut,Uu,Uz,U0,U1,U2,U3,U4,U5,U6,Te,Tf,Tg,Th,Ti,Tk,Tt,Tu,Tx,Ty,Tz,T0,T4,T6,T7,SB,SC,SD,SF,SG,SI,z,gl,ga,e1,c1,gb,e2,c2,c3,u1]
        tactic =>
         unfold dV
         rw[aD ks.length (fun j=>bN x ws u i ks j) (fun _=>dT x)]
         ·rw[bN,hld,hW]; (sym=>(simp[Za,Zb,Zf,Zh,Zl,Zm,Zv,Z3,Z5,ZF,ZX,Yc,Ys,V9,VF,VQ,VT,VU,VV,Ui,Ur,Uz,Te,Tt,Tu,Tv,Tx,Tz,T0,T1,T3,T4,T6,T7,z,gl];all_goals tactic=>exact rfl))
         ·rw[bN,g0,w0]; (sym=>(simp[Za,Y9,YX,YY,Xb,Xd,Xr,Xs,Xv,Xx,W3,WE,WH,WI,WK,WL,WM,WO,WQ,WR,WS,WT,WY,WZ,Vf,VQ,VR,VS,VZ,Ua,Uc,Ud,Uf,Uk,Um,Ux,U3,U4,U5,U6,T5,TK,gl];all_goals tactic=>exact rfl))
         ·exact rdb
         ·rw[bN,hld,hW]; (sym=>(simp[Za,Zb,Zf,Zh,Zl,Zm,Zv,Z3,ZF,Yc,Ys,VQ,VT,VV,VW,Ui,Uz,Te,Tt,Tu,Tx,Tz,T0,T6,z,gl];all_goals tactic=>exact rfl))
       ·(sym=>(simp[Za,Y9,YX,Xb,Xd,Xr,Xv,Xx,W3,WE,WH,WI,WK,WL,WM,WO,WQ,WR,WS,WT,WY,WZ,Vf,VQ,VR,VS,VZ,Ua,Uc,Ud,Uf,Uk,Ux,U3,U4,U5,U6,T5,TK,gl];all_goals tactic=>exact rfl))
       ·exact rda
       ·(sym=>(simp[Za,Zb,Zf,Zh,Zl,Zm,Zv,Z3,ZF,Yc,Ys,VQ,VT,VV,VW,Ui,Uz,Te,Tt,Tu,Tx,Tz,T0,T6,z,gl];all_goals tactic=>exact rfl))
  ·cases nb
   ·-- case
    refine bU ?_ ?_
    ·-- dJ
     unfold cV
     dsimp only
     sym =>
      simp[Za,Zb,Zf,Zh,Zl,Zm,Zv,Z3,ZA,ZF,ZG,Yc,Yg,Yh,Yq,Ys,Yw,Yx,WC,VQ,VT,VU,VV,Ug,Uh,Ui,Uj,Uk,Uu,Uy,Uz,Th,Ti,Tk,Tt,Tu,Tw,Ty,Tz,T6,T7,a1,hx,gl,c0]
      tactic =>
       unfold dD
       rw[aD ks.length (fun j=>iN ws u i (cQ ks) j) (fun _=>dT x)]
       ·sym =>
        simp[Za,Zb,Ze,Zf,Zg,Zh,Zk,Zl,Zm,Zp,Zq,Zv,Zy,Z3,Z8,ZA,ZF,ZH,ZI,ZJ,ZM,ZQ,ZR,ZT,ZU,ZV,Ya,Yc,Yg,Yh,Yk,Ys,Yw,Yx,Y8,YX,Xr,Xs,W3,W4,W5,WA,WC,WK,WN,WP,WU,WV,Vi,Vj,Vk,Vm,Vp,Vq,Vv,Vx,Vy,V0,V1,V3,VQ,VT,VV,VZ,Ua,Uc,Ud,Ug,Uh,Ui,Uj,Uk,Um,Ur,Us,Ut,Uu,Uz,U0,U1,U2,U3,U4,U5,U6,Te,Tf,Tg,Th,Ti,Tk,Tt,Tu,Tx,Ty,Tz,T0,T4,T6,T7,SB,SC,SD,SF,SG,SI,z,gl,ga,e1,c1,gb,e2,c2,c3,u1]
        tactic =>
         unfold dV
         rw[aD ks.length (fun j=>bN x ws u i ks j) (fun _=>dT x)]
         ·rw[bN,hld,hW]; (sym=>(simp[Za,Zb,Zf,Zh,Zl,Zm,Zv,Z3,Z5,ZF,ZX,Yc,Ys,VQ,VT,VU,VV,VX,Ui,Ur,Uz,Te,Tt,Tu,Tv,Tx,Tz,T0,T1,T3,T4,T6,T7,z,gl];all_goals tactic=>exact rfl))
         ·rw[bN,g0,w0]; (sym=>(simp[Za,Y9,YX,YY,Xb,Xd,Xr,Xs,Xv,Xx,W3,WE,WH,WI,WK,WL,WM,WO,WQ,WR,WS,WT,WY,WZ,Vf,VQ,VR,VS,VZ,Ua,Uc,Ud,Uf,Uk,Uo,Ux,U3,U4,U5,U6,T5,TK,gl];all_goals tactic=>exact rfl))
         ·exact rdb
         ·rw[bN,hld,hW]; (sym=>(simp[Za,Zb,Zf,Zh,Zl,Zm,Zv,Z3,ZF,Yc,Ys,VQ,VT,VV,VW,Ui,Uz,Te,Tt,Tu,Tx,Tz,T0,T6,z,gl];all_goals tactic=>exact rfl))
       ·(sym=>(simp[Za,Y9,YX,Xb,Xd,Xr,Xv,Xx,W3,WE,WH,WI,WK,WL,WM,WO,WQ,WR,WS,WT,WY,WZ,Vf,VQ,VR,VS,VZ,Ua,Uc,Ud,Uf,Uk,Ux,U3,U4,U5,U6,T5,TK,gl];all_goals tactic=>exact rfl))
       ·exact rda
       ·(sym=>(simp[Za,Zb,Zf,Zh,Zl,Zm,Zv,Z3,ZF,Yc,Ys,VQ,VT,VV,VW,Ui,Uz,Te,Tt,Tu,Tx,Tz,T0,T6,z,gl];all_goals tactic=>exact rfl))
    ·-- returns
     unfold cV
     dsimp only
     sym =>
      simp[Za,Zb,Zf,Zh,Zl,Zm,Zv,Z3,ZA,ZF,ZG,Yc,Yg,Yh,Yq,Ys,Yw,Yx,WC,VQ,VT,VU,VV,Ug,Uh,Ui,Uj,Uk,Uu,Uy,Uz,Th,Ti,Tk,Tt,Tu,Tw,Ty,Tz,T6,T7,a1,hx,gl,c0]
      tactic =>
       unfold dD
       rw[aD ks.length (fun j=>iN ws u i (cQ ks) j) (fun _=>dT x)]
       ·sym =>
        simp[Za,Zb,Ze,Zf,Zg,Zh,Zk,Zl,Zm,Zp,Zq,Zv,Zy,Z3,Z8,ZA,ZF,ZH,ZI,ZJ,ZM,ZQ,ZR,ZT,ZU,ZV,Ya,Yc,Yg,Yh,Yk,Ys,Yw,Yx,Y8,YX,Xr,Xs,W3,W4,W5,WA,WC,WK,WN,WP,WU,WV,Vi,Vj,Vk,Vm,Vp,Vq,Vv,Vx,Vy,V0,V1,V3,VQ,VT,VV,VZ,Ua,Uc,Ud,Ug,Uh,Ui,Uj,Uk,Um,Ur,Us,Ut,Uu,Uz,U0,U1,U2,U3,U4,U5,U6,Te,Tf,Tg,Th,Ti,Tk,Tt,Tu,Tx,Ty,Tz,T0,T4,T6,T7,SB,SC,SD,SF,SG,SI,z,gl,ga,e1,c1,gb,e2,c2,c3,u1]
        tactic =>
         unfold dV
         rw[aD ks.length (fun j=>bN x ws u i ks j) (fun _=>dT x)]
         ·rw[bN,hld,hW]; (sym=>(simp[Za,Zb,Zf,Zh,Zl,Zm,Zv,Z3,Z5,ZF,ZX,Yc,Ys,V9,VF,VQ,VT,VU,VV,Ui,Ur,Uz,Te,Tt,Tu,Tv,Tx,Tz,T0,T1,T3,T4,T6,T7,z,gl];all_goals tactic=>exact rfl))
         ·rw[bN,g0,w0]; (sym=>(simp[Za,Y9,YX,YY,Xb,Xd,Xr,Xs,Xv,Xx,W3,WE,WH,WI,WK,WL,WM,WO,WQ,WR,WS,WT,WY,WZ,Vf,VQ,VR,VS,VZ,Ua,Uc,Ud,Uf,Uk,Uo,Ux,U3,U4,U5,U6,T5,TK,gl];all_goals tactic=>exact rfl))
         ·exact rdb
         ·rw[bN,hld,hW]; (sym=>(simp[Za,Zb,Zf,Zh,Zl,Zm,Zv,Z3,ZF,Yc,Ys,VQ,VT,VV,VW,Ui,Uz,Te,Tt,Tu,Tx,Tz,T0,T6,z,gl];all_goals tactic=>exact rfl))
       ·(sym=>(simp[Za,Y9,YX,Xb,Xd,Xr,Xv,Xx,W3,WE,WH,WI,WK,WL,WM,WO,WQ,WR,WS,WT,WY,WZ,Vf,VQ,VR,VS,VZ,Ua,Uc,Ud,Uf,Uk,Ux,U3,U4,U5,U6,T5,TK,gl];all_goals tactic=>exact rfl))
       ·exact rda
       ·(sym=>(simp[Za,Zb,Zf,Zh,Zl,Zm,Zv,Z3,ZF,Yc,Ys,VQ,VT,VV,VW,Ui,Uz,Te,Tt,Tu,Tx,Tz,T0,T6,z,gl];all_goals tactic=>exact rfl))
   ·-- case
    refine bU ?_ ?_
    ·-- dJ
     unfold cV
     dsimp only
     sym =>
      simp[Za,Zb,Zf,Zh,Zl,Zm,Zv,Z3,ZA,ZF,ZG,Yc,Yg,Yh,Yq,Ys,Yw,Yx,WC,VQ,VT,VU,VV,Ug,Uh,Ui,Uj,Uk,Uu,Uy,Uz,Th,Ti,Tk,Tt,Tu,Tw,Ty,Tz,T6,T7,a1,hx,gl,c0]
      tactic =>
       unfold dD
       rw[aD ks.length (fun j=>iN ws u i (cQ ks) j) (fun _=>dT x)]
       ·sym =>
        simp[Za,Zb,Ze,Zf,Zg,Zh,Zk,Zl,Zm,Zp,Zq,Zv,Zy,Z3,Z8,ZA,ZF,ZH,ZI,ZJ,ZM,ZQ,ZR,ZT,ZU,ZV,Ya,Yc,Yg,Yh,Yk,Ys,Yw,Yx,Y8,YX,Xr,Xs,W3,W4,W5,WA,WC,WK,WN,WP,WU,WV,Vi,Vj,Vk,Vm,Vp,Vq,Vv,Vx,Vy,V0,V1,V3,VQ,VT,VV,VZ,Ua,Uc,Ud,Ug,Uh,Ui,Uj,Uk,Um,Ur,Us,Ut,Uu,Uz,U0,U1,U2,U3,U4,U5,U6,Te,Tf,Tg,Th,Ti,Tk,Tt,Tu,Tx,Ty,Tz,T0,T4,T6,T7,SB,SC,SD,SF,SG,SI,z,gl,ga,e1,c1,gb,e2,c2,c3,u1]
        tactic =>
         unfold dV
         rw[aD ks.length (fun j=>bN x ws u i ks j) (fun _=>dT x)]
         ·rw[bN,hld,hW]; (sym=>(simp[Za,Zb,Zf,Zh,Zl,Zm,Zv,Z3,Z5,ZF,ZX,Yc,Ys,VQ,VT,VU,VV,VX,Ui,Ur,Uz,Te,Tt,Tu,Tv,Tx,Tz,T0,T1,T3,T4,T6,T7,z,gl];all_goals tactic=>exact rfl))
         ·rw[bN,g0,w0]; (sym=>(simp[Za,Y9,YX,YY,Xb,Xd,Xr,Xs,Xv,Xx,W3,WE,WH,WI,WK,WL,WM,WO,WQ,WR,WS,WT,WY,WZ,Vf,VQ,VR,VS,VZ,Ua,Uc,Ud,Uf,Uk,Um,Ux,U3,U4,U5,U6,T5,TK,gl];all_goals tactic=>exact rfl))
         ·exact rdb
         ·rw[bN,hld,hW]; (sym=>(simp[Za,Zb,Zf,Zh,Zl,Zm,Zv,Z3,ZF,Yc,Ys,VQ,VT,VV,VW,Ui,Uz,Te,Tt,Tu,Tx,Tz,T0,T6,z,gl];all_goals tactic=>exact rfl))
       ·(sym=>(simp[Za,Y9,YX,Xb,Xd,Xr,Xv,Xx,W3,WE,WH,WI,WK,WL,WM,WO,WQ,WR,WS,WT,WY,WZ,Vf,VQ,VR,VS,VZ,Ua,Uc,Ud,Uf,Uk,Ux,U3,U4,U5,U6,T5,TK,gl];all_goals tactic=>exact rfl))
       ·exact rda
       ·(sym=>(simp[Za,Zb,Zf,Zh,Zl,Zm,Zv,Z3,ZF,Yc,Ys,VQ,VT,VV,VW,Ui,Uz,Te,Tt,Tu,Tx,Tz,T0,T6,z,gl];all_goals tactic=>exact rfl))
    ·-- returns
     unfold cV
     dsimp only
     sym =>
      simp[Za,Zb,Zf,Zh,Zl,Zm,Zv,Z3,ZA,ZF,ZG,Yc,Yg,Yh,Yq,Ys,Yw,Yx,WC,VQ,VT,VU,VV,Ug,Uh,Ui,Uj,Uk,Uu,Uy,Uz,Th,Ti,Tk,Tt,Tu,Tw,Ty,Tz,T6,T7,a1,hx,gl,c0]
      tactic =>
       unfold dD
       rw[aD ks.length (fun j=>iN ws u i (cQ ks) j) (fun _=>dT x)]
       ·sym =>
        simp[Za,Zb,Ze,Zf,Zg,Zh,Zk,Zl,Zm,Zp,Zq,Zv,Zy,Z3,Z8,ZA,ZF,ZH,ZI,ZJ,ZM,ZQ,ZR,ZT,ZU,ZV,Ya,Yc,Yg,Yh,Yk,Ys,Yw,Yx,Y8,YX,Xr,Xs,W3,W4,W5,WA,WC,WK,WN,WP,WU,WV,Vi,Vj,Vk,Vm,Vp,Vq,Vv,Vx,Vy,V0,V1,V3,VQ,VT,VV,VZ,Ua,Uc,Ud,Ug,Uh,Ui,Uj,Uk,Um,Ur,Us,Ut,Uu,Uz,U0,U1,U2,U3,U4,U5,U6,Te,Tf,Tg,Th,Ti,Tk,Tt,Tu,Tx,Ty,Tz,T0,T4,T6,T7,SB,SC,SD,SF,SG,SI,z,gl,ga,e1,c1,gb,e2,c2,c3,u1]
        tactic =>
         unfold dV
         rw[aD ks.length (fun j=>bN x ws u i ks j) (fun _=>dT x)]
         ·rw[bN,hld,hW]; (sym=>(simp[Za,Zb,Zf,Zh,Zl,Zm,Zv,Z3,Z5,ZF,ZX,Yc,Ys,V9,VF,VQ,VT,VU,VV,Ui,Ur,Uz,Te,Tt,Tu,Tv,Tx,Tz,T0,T1,T3,T4,T6,T7,z,gl];all_goals tactic=>exact rfl))
         ·rw[bN,g0,w0]; (sym=>(simp[Za,Y9,YX,YY,Xb,Xd,Xr,Xs,Xv,Xx,W3,WE,WH,WI,WK,WL,WM,WO,WQ,WR,WS,WT,WY,WZ,Vf,VQ,VR,VS,VZ,Ua,Uc,Ud,Uf,Uk,Um,Ux,U3,U4,U5,U6,T5,TK,gl];all_goals tactic=>exact rfl))
         ·exact rdb
         ·rw[bN,hld,hW]; (sym=>(simp[Za,Zb,Zf,Zh,Zl,Zm,Zv,Z3,ZF,Yc,Ys,VQ,VT,VV,VW,Ui,Uz,Te,Tt,Tu,Tx,Tz,T0,T6,z,gl];all_goals tactic=>exact rfl))
       ·(sym=>(simp[Za,Y9,YX,Xb,Xd,Xr,Xv,Xx,W3,WE,WH,WI,WK,WL,WM,WO,WQ,WR,WS,WT,WY,WZ,Vf,VQ,VR,VS,VZ,Ua,Uc,Ud,Uf,Uk,Ux,U3,U4,U5,U6,T5,TK,gl];all_goals tactic=>exact rfl))
       ·exact rda
       ·(sym=>(simp[Za,Zb,Zf,Zh,Zl,Zm,Zv,Z3,ZF,Yc,Ys,VQ,VT,VV,VW,Ui,Uz,Te,Tt,Tu,Tx,Tz,T0,T6,z,gl];all_goals tactic=>exact rfl))
 ·generalize x.sick.testBit a=sb at *
  generalize x.nur.testBit b=nb at *
  have d0:((d:Int)=0)=False:=eq_false (fun h=>hc (hcf.1 (by omega)))
  cases sb
  ·cases nb
   ·-- case
    refine bU ?_ ?_
    ·-- dJ
     unfold cV
     dsimp only
     sym =>
      simp[Za,Zb,Zf,Zh,Zl,Zm,Zv,Z3,ZA,ZF,ZG,Yc,Yg,Yh,Yq,Ys,Yw,Yx,WC,VQ,VT,VU,VV,Ug,Uh,Ui,Uj,Uk,Uu,Uy,Uz,Th,Ti,Tk,Tt,Tu,Tw,Ty,Tz,T6,T7,a1,hx,gl,c0]
      tactic =>
       unfold dD
       rw[aD ks.length (fun j=>iN ws u i (cQ ks) j) (fun _=>dT x)]
       ·sym =>
        simp[Za,Zb,Ze,Zf,Zg,Zh,Zk,Zl,Zm,Zp,Zs,Zv,Zy,Z3,Z8,ZA,ZF,ZH,ZI,ZJ,ZM,ZQ,ZR,ZT,ZU,ZW,Ya,Yc,Yg,Yh,Ys,Y8,YX,Xr,Xs,W3,W4,W5,WA,WC,WK,WN,WP,WU,WV,Vi,Vj,Vk,Vm,Vp,Vq,Vv,Vx,Vy,V0,V1,V3,VQ,VT,VV,VZ,Ua,Uc,Ud,Ug,Uh,Ui,Uj,Uk,Um,Ur,Us,Ut,Uu,Uz,U0,U1,U2,U3,U4,U5,U6,Te,Tf,Tg,Th,Ti,Tk,Tt,Tu,Tx,Ty,Tz,T0,T4,T6,T7,SB,SC,SD,SF,SG,SI,z,gl,ga,e1,c1,gb,e2,c2,c3,u1]
        tactic =>
         unfold dV
         rw[aD ks.length (fun j=>bN x ws u i ks j) (fun _=>dT x)]
         ·rw[bN,hld,hW]; (sym=>(simp[Za,Zb,Zf,Zh,Zl,Zm,Zv,Z3,Z5,Z8,ZF,ZG,ZX,Ya,Yc,Ym,Yr,Ys,W3,W4,W5,WC,VQ,VT,VU,VV,VX,Ui,Uq,Ur,Uz,Te,Tf,Tg,Tk,Tt,Tu,Tv,Tw,Tx,Tz,T0,T1,T3,T4,T6,T7,SA,z,gl,b1,b2,d0];all_goals tactic=>exact rfl))
         ·rw[bN,g0,w0]; (sym=>(simp[Za,Y9,YX,YY,Xb,Xd,Xr,Xs,Xv,Xx,W3,WE,WH,WI,WK,WL,WM,WO,WQ,WR,WS,WT,WY,WZ,Vf,VQ,VR,VS,VZ,Ua,Uc,Ud,Uf,Uk,Uo,Ux,U3,U4,U5,U6,T5,TK,gl];all_goals tactic=>exact rfl))
         ·exact rdb
         ·rw[bN,hld,hW]; (sym=>(simp[Za,Zb,Zf,Zh,Zl,Zm,Zv,Z3,ZF,Yc,Ys,VQ,VT,VV,VW,Ui,Uz,Te,Tt,Tu,Tx,Tz,T0,T6,z,gl];all_goals tactic=>exact rfl))
       ·(sym=>(simp[Za,Y9,YX,Xb,Xd,Xr,Xv,Xx,W3,WE,WH,WI,WK,WL,WM,WO,WQ,WR,WS,WT,WY,WZ,Vf,VQ,VR,VS,VZ,Ua,Uc,Ud,Uf,Uk,Ux,U3,U4,U5,U6,T5,TK,gl];all_goals tactic=>exact rfl))
       ·exact rda
       ·(sym=>(simp[Za,Zb,Zf,Zh,Zl,Zm,Zv,Z3,ZF,Yc,Ys,VQ,VT,VV,VW,Ui,Uz,Te,Tt,Tu,Tx,Tz,T0,T6,z,gl];all_goals tactic=>exact rfl))
    ·-- returns
     unfold cV
     dsimp only
     sym =>
      simp[Za,Zb,Zf,Zh,Zl,Zm,Zv,Z3,ZA,ZF,ZG,Yc,Yg,Yh,Yq,Ys,Yw,Yx,WC,VQ,VT,VU,VV,Ug,Uh,Ui,Uj,Uk,Uu,Uy,Uz,Th,Ti,Tk,Tt,Tu,Tw,Ty,Tz,T6,T7,a1,hx,gl,c0]
      tactic =>
       unfold dD
       rw[aD ks.length (fun j=>iN ws u i (cQ ks) j) (fun _=>dT x)]
       ·sym =>
        simp[Za,Zb,Ze,Zf,Zg,Zh,Zk,Zl,Zm,Zp,Zs,Zv,Zy,Z3,Z8,ZA,ZF,ZH,ZI,ZJ,ZM,ZQ,ZR,ZT,ZU,ZW,Ya,Yc,Yg,Yh,Ys,Y8,YX,Xr,Xs,W3,W4,W5,WA,WC,WK,WN,WP,WU,WV,Vi,Vj,Vk,Vm,Vp,Vq,Vv,Vx,Vy,V0,V1,V3,VQ,VT,VV,VZ,Ua,Uc,Ud,Ug,Uh,Ui,Uj,Uk,Um,Ur,Us,Ut,Uu,Uz,U0,U1,U2,U3,U4,U5,U6,Te,Tf,Tg,Th,Ti,Tk,Tt,Tu,Tx,Ty,Tz,T0,T4,T6,T7,SB,SC,SD,SF,SG,SI,z,gl,ga,e1,c1,gb,e2,c2,c3,u1]
        tactic =>
         unfold dV
         rw[aD ks.length (fun j=>bN x ws u i ks j) (fun _=>dT x)]
         ·rw[bN,hld,hW]; (sym=>(simp[Za,Zb,Zf,Zh,Zl,Zm,Zv,Z3,Z5,Z8,ZF,ZG,ZX,Ya,Yc,Ym,Yr,Ys,W3,W4,W5,WC,V9,VF,VQ,VT,VU,VV,Ui,Uq,Ur,Uz,Te,Tf,Tg,Tk,Tt,Tu,Tv,Tw,Tx,Tz,T0,T1,T3,T4,T6,T7,SA,z,gl,b1,b2,d0];all_goals tactic=>exact rfl))
         ·rw[bN,g0,w0]; (sym=>(simp[Za,Y9,YX,YY,Xb,Xd,Xr,Xs,Xv,Xx,W3,WE,WH,WI,WK,WL,WM,WO,WQ,WR,WS,WT,WY,WZ,Vf,VQ,VR,VS,VZ,Ua,Uc,Ud,Uf,Uk,Uo,Ux,U3,U4,U5,U6,T5,TK,gl];all_goals tactic=>exact rfl))
         ·exact rdb
         ·rw[bN,hld,hW]; (sym=>(simp[Za,Zb,Zf,Zh,Zl,Zm,Zv,Z3,ZF,Yc,Ys,VQ,VT,VV,VW,Ui,Uz,Te,Tt,Tu,Tx,Tz,T0,T6,z,gl];all_goals tactic=>exact rfl))
       ·(sym=>(simp[Za,Y9,YX,Xb,Xd,Xr,Xv,Xx,W3,WE,WH,WI,WK,WL,WM,WO,WQ,WR,WS,WT,WY,WZ,Vf,VQ,VR,VS,VZ,Ua,Uc,Ud,Uf,Uk,Ux,U3,U4,U5,U6,T5,TK,gl];all_goals tactic=>exact rfl))
       ·exact rda
       ·(sym=>(simp[Za,Zb,Zf,Zh,Zl,Zm,Zv,Z3,ZF,Yc,Ys,VQ,VT,VV,VW,Ui,Uz,Te,Tt,Tu,Tx,Tz,T0,T6,z,gl];all_goals tactic=>exact rfl))
   ·-- case
    refine bU ?_ ?_
    ·-- dJ
     unfold cV
     dsimp only
     sym =>
      simp[Za,Zb,Zf,Zh,Zl,Zm,Zv,Z3,ZA,ZF,ZG,Yc,Yg,Yh,Yq,Ys,Yw,Yx,WC,VQ,VT,VU,VV,Ug,Uh,Ui,Uj,Uk,Uu,Uy,Uz,Th,Ti,Tk,Tt,Tu,Tw,Ty,Tz,T6,T7,a1,hx,gl,c0]
      tactic =>
       unfold dD
       rw[aD ks.length (fun j=>iN ws u i (cQ ks) j) (fun _=>dT x)]
       ·sym =>
        simp[Za,Zb,Ze,Zf,Zg,Zh,Zk,Zl,Zm,Zp,Zs,Zv,Zy,Z3,Z8,ZA,ZF,ZH,ZI,ZJ,ZM,ZQ,ZR,ZT,ZU,ZW,Ya,Yc,Yg,Yh,Ys,Y8,YX,Xr,Xs,W3,W4,W5,WA,WC,WK,WN,WP,WU,WV,Vi,Vj,Vk,Vm,Vp,Vq,Vv,Vx,Vy,V0,V1,V3,VQ,VT,VV,VZ,Ua,Uc,Ud,Ug,Uh,Ui,Uj,Uk,Um,Ur,Us,Ut,Uu,Uz,U0,U1,U2,U3,U4,U5,U6,Te,Tf,Tg,Th,Ti,Tk,Tt,Tu,Tx,Ty,Tz,T0,T4,T6,T7,SB,SC,SD,SF,SG,SI,z,gl,ga,e1,c1,gb,e2,c2,c3,u1]
        tactic =>
         unfold dV
         rw[aD ks.length (fun j=>bN x ws u i ks j) (fun _=>dT x)]
         ·rw[bN,hld,hW]; (sym=>(simp[Za,Zb,Zf,Zh,Zl,Zm,Zv,Z3,Z5,Z8,ZF,ZG,ZX,Ya,Yc,Ym,Yr,Ys,W3,W4,W5,WC,VQ,VT,VU,VV,VX,Ui,Uq,Ur,Uz,Te,Tf,Tg,Tk,Tt,Tu,Tv,Tw,Tx,Tz,T0,T1,T3,T4,T6,T7,SA,z,gl,b1,b2,d0];all_goals tactic=>exact rfl))
         ·rw[bN,g0,w0]; (sym=>(simp[Za,Y9,YX,YY,Xb,Xd,Xr,Xs,Xv,Xx,W3,WE,WH,WI,WK,WL,WM,WO,WQ,WR,WS,WT,WY,WZ,Vf,VQ,VR,VS,VZ,Ua,Uc,Ud,Uf,Uk,Um,Ux,U3,U4,U5,U6,T5,TK,gl];all_goals tactic=>exact rfl))
         ·exact rdb
         ·rw[bN,hld,hW]; (sym=>(simp[Za,Zb,Zf,Zh,Zl,Zm,Zv,Z3,ZF,Yc,Ys,VQ,VT,VV,VW,Ui,Uz,Te,Tt,Tu,Tx,Tz,T0,T6,z,gl];all_goals tactic=>exact rfl))
       ·(sym=>(simp[Za,Y9,YX,Xb,Xd,Xr,Xv,Xx,W3,WE,WH,WI,WK,WL,WM,WO,WQ,WR,WS,WT,WY,WZ,Vf,VQ,VR,VS,VZ,Ua,Uc,Ud,Uf,Uk,Ux,U3,U4,U5,U6,T5,TK,gl];all_goals tactic=>exact rfl))
       ·exact rda
       ·(sym=>(simp[Za,Zb,Zf,Zh,Zl,Zm,Zv,Z3,ZF,Yc,Ys,VQ,VT,VV,VW,Ui,Uz,Te,Tt,Tu,Tx,Tz,T0,T6,z,gl];all_goals tactic=>exact rfl))
    ·-- returns
     unfold cV
     dsimp only
     sym =>
      simp[Za,Zb,Zf,Zh,Zl,Zm,Zv,Z3,ZA,ZF,ZG,Yc,Yg,Yh,Yq,Ys,Yw,Yx,WC,VQ,VT,VU,VV,Ug,Uh,Ui,Uj,Uk,Uu,Uy,Uz,Th,Ti,Tk,Tt,Tu,Tw,Ty,Tz,T6,T7,a1,hx,gl,c0]
      tactic =>
       unfold dD
       rw[aD ks.length (fun j=>iN ws u i (cQ ks) j) (fun _=>dT x)]
       ·sym =>
        simp[Za,Zb,Ze,Zf,Zg,Zh,Zk,Zl,Zm,Zp,Zs,Zv,Zy,Z3,Z8,ZA,ZF,ZH,ZI,ZJ,ZM,ZQ,ZR,ZT,ZU,ZW,Ya,Yc,Yg,Yh,Ys,Y8,YX,Xr,Xs,W3,W4,W5,WA,WC,WK,WN,WP,WU,WV,Vi,Vj,Vk,Vm,Vp,Vq,Vv,Vx,Vy,V0,V1,V3,VQ,VT,VV,VZ,Ua,Uc,Ud,Ug,Uh,Ui,Uj,Uk,Um,Ur,Us,Ut,Uu,Uz,U0,U1,U2,U3,U4,U5,U6,Te,Tf,Tg,Th,Ti,Tk,Tt,Tu,Tx,Ty,Tz,T0,T4,T6,T7,SB,SC,SD,SF,SG,SI,z,gl,ga,e1,c1,gb,e2,c2,c3,u1]
        tactic =>
         unfold dV
         rw[aD ks.length (fun j=>bN x ws u i ks j) (fun _=>dT x)]
         ·rw[bN,hld,hW]; (sym=>(simp[Za,Zb,Zf,Zh,Zl,Zm,Zv,Z3,Z5,Z8,ZF,ZG,ZX,Ya,Yc,Ym,Yr,Ys,W3,W4,W5,WC,V9,VF,VQ,VT,VU,VV,Ui,Uq,Ur,Uz,Te,Tf,Tg,Tk,Tt,Tu,Tv,Tw,Tx,Tz,T0,T1,T3,T4,T6,T7,SA,z,gl,b1,b2,d0];all_goals tactic=>exact rfl))
         ·rw[bN,g0,w0]; (sym=>(simp[Za,Y9,YX,YY,Xb,Xd,Xr,Xs,Xv,Xx,W3,WE,WH,WI,WK,WL,WM,WO,WQ,WR,WS,WT,WY,WZ,Vf,VQ,VR,VS,VZ,Ua,Uc,Ud,Uf,Uk,Um,Ux,U3,U4,U5,U6,T5,TK,gl];all_goals tactic=>exact rfl))
         ·exact rdb
         ·rw[bN,hld,hW]; (sym=>(simp[Za,Zb,Zf,Zh,Zl,Zm,Zv,Z3,ZF,Yc,Ys,VQ,VT,VV,VW,Ui,Uz,Te,Tt,Tu,Tx,Tz,T0,T6,z,gl];all_goals tactic=>exact rfl))
       ·(sym=>(simp[Za,Y9,YX,Xb,Xd,Xr,Xv,Xx,W3,WE,WH,WI,WK,WL,WM,WO,WQ,WR,WS,WT,WY,WZ,Vf,VQ,VR,VS,VZ,Ua,Uc,Ud,Uf,Uk,Ux,U3,U4,U5,U6,T5,TK,gl];all_goals tactic=>exact rfl))
       ·exact rda
       ·(sym=>(simp[Za,Zb,Zf,Zh,Zl,Zm,Zv,Z3,ZF,Yc,Ys,VQ,VT,VV,VW,Ui,Uz,Te,Tt,Tu,Tx,Tz,T0,T6,z,gl];all_goals tactic=>exact rfl))
  ·cases nb
   ·-- case
    refine bU ?_ ?_
    ·-- dJ
     unfold cV
     dsimp only
     sym =>
      simp[Za,Zb,Zf,Zh,Zl,Zm,Zv,Z3,ZA,ZF,ZG,Yc,Yg,Yh,Yq,Ys,Yw,Yx,WC,VQ,VT,VU,VV,Ug,Uh,Ui,Uj,Uk,Uu,Uy,Uz,Th,Ti,Tk,Tt,Tu,Tw,Ty,Tz,T6,T7,a1,hx,gl,c0]
      tactic =>
       unfold dD
       rw[aD ks.length (fun j=>iN ws u i (cQ ks) j) (fun _=>dT x)]
       ·sym =>
        simp[Za,Zb,Ze,Zf,Zg,Zh,Zk,Zl,Zm,Zp,Zq,Zv,Zy,Z3,Z8,ZA,ZF,ZH,ZI,ZJ,ZM,ZQ,ZR,ZT,ZU,ZV,Ya,Yc,Yg,Yh,Yk,Ys,Yw,Yx,Y8,YX,Xr,Xs,W3,W4,W5,WA,WC,WK,WN,WP,WU,WV,Vi,Vj,Vk,Vm,Vp,Vq,Vv,Vx,Vy,V0,V1,V3,VQ,VT,VV,VZ,Ua,Uc,Ud,Ug,Uh,Ui,Uj,Uk,Um,Ur,Us,Ut,Uu,Uz,U0,U1,U2,U3,U4,U5,U6,Te,Tf,Tg,Th,Ti,Tk,Tt,Tu,Tx,Ty,Tz,T0,T4,T6,T7,SB,SC,SD,SF,SG,SI,z,gl,ga,e1,c1,gb,e2,c2,c3,u1]
        tactic =>
         unfold dV
         rw[aD ks.length (fun j=>bN x ws u i ks j) (fun _=>dT x)]
         ·rw[bN,hld,hW]; (sym=>(simp[Za,Zb,Zf,Zh,Zl,Zm,Zv,Z3,Z5,Z8,ZF,ZG,ZX,Ya,Yc,Ym,Yr,Ys,W3,W4,W5,WC,VQ,VT,VU,VV,VX,Ui,Uq,Ur,Uz,Te,Tf,Tg,Tk,Tt,Tu,Tv,Tw,Tx,Tz,T0,T1,T3,T4,T6,T7,SA,z,gl,b1,b2,d0];all_goals tactic=>exact rfl))
         ·rw[bN,g0,w0]; (sym=>(simp[Za,Y9,YX,YY,Xb,Xd,Xr,Xs,Xv,Xx,W3,WE,WH,WI,WK,WL,WM,WO,WQ,WR,WS,WT,WY,WZ,Vf,VQ,VR,VS,VZ,Ua,Uc,Ud,Uf,Uk,Uo,Ux,U3,U4,U5,U6,T5,TK,gl];all_goals tactic=>exact rfl))
         ·exact rdb
         ·rw[bN,hld,hW]; (sym=>(simp[Za,Zb,Zf,Zh,Zl,Zm,Zv,Z3,ZF,Yc,Ys,VQ,VT,VV,VW,Ui,Uz,Te,Tt,Tu,Tx,Tz,T0,T6,z,gl];all_goals tactic=>exact rfl))
       ·(sym=>(simp[Za,Y9,YX,Xb,Xd,Xr,Xv,Xx,W3,WE,WH,WI,WK,WL,WM,WO,WQ,WR,WS,WT,WY,WZ,Vf,VQ,VR,VS,VZ,Ua,Uc,Ud,Uf,Uk,Ux,U3,U4,U5,U6,T5,TK,gl];all_goals tactic=>exact rfl))
       ·exact rda
       ·(sym=>(simp[Za,Zb,Zf,Zh,Zl,Zm,Zv,Z3,ZF,Yc,Ys,VQ,VT,VV,VW,Ui,Uz,Te,Tt,Tu,Tx,Tz,T0,T6,z,gl];all_goals tactic=>exact rfl))
    ·-- returns
     unfold cV
     dsimp only
     sym =>
      simp[Za,Zb,Zf,Zh,Zl,Zm,Zv,Z3,ZA,ZF,ZG,Yc,Yg,Yh,Yq,Ys,Yw,Yx,WC,VQ,VT,VU,VV,Ug,Uh,Ui,Uj,Uk,Uu,Uy,Uz,Th,Ti,Tk,Tt,Tu,Tw,Ty,Tz,T6,T7,a1,hx,gl,c0]
      tactic =>
       unfold dD
       rw[aD ks.length (fun j=>iN ws u i (cQ ks) j) (fun _=>dT x)]
       ·sym =>
        simp[Za,Zb,Ze,Zf,Zg,Zh,Zk,Zl,Zm,Zp,Zq,Zv,Zy,Z3,Z8,ZA,ZF,ZH,ZI,ZJ,ZM,ZQ,ZR,ZT,ZU,ZV,Ya,Yc,Yg,Yh,Yk,Ys,Yw,Yx,Y8,YX,Xr,Xs,W3,W4,W5,WA,WC,WK,WN,WP,WU,WV,Vi,Vj,Vk,Vm,Vp,Vq,Vv,Vx,Vy,V0,V1,V3,VQ,VT,VV,VZ,Ua,Uc,Ud,Ug,Uh,Ui,Uj,Uk,Um,Ur,Us,Ut,Uu,Uz,U0,U1,U2,U3,U4,U5,U6,Te,Tf,Tg,Th,Ti,Tk,Tt,Tu,Tx,Ty,Tz,T0,T4,T6,T7,SB,SC,SD,SF,SG,SI,z,gl,ga,e1,c1,gb,e2,c2,c3,u1]
        tactic =>
         unfold dV
         rw[aD ks.length (fun j=>bN x ws u i ks j) (fun _=>dT x)]
         ·rw[bN,hld,hW]; (sym=>(simp[Za,Zb,Zf,Zh,Zl,Zm,Zv,Z3,Z5,Z8,ZF,ZG,ZX,Ya,Yc,Ym,Yr,Ys,W3,W4,W5,WC,V9,VF,VQ,VT,VU,VV,Ui,Uq,Ur,Uz,Te,Tf,Tg,Tk,Tt,Tu,Tv,Tw,Tx,Tz,T0,T1,T3,T4,T6,T7,SA,z,gl,b1,b2,d0];all_goals tactic=>exact rfl))
         ·rw[bN,g0,w0]; (sym=>(simp[Za,Y9,YX,YY,Xb,Xd,Xr,Xs,Xv,Xx,W3,WE,WH,WI,WK,WL,WM,WO,WQ,WR,WS,WT,WY,WZ,Vf,VQ,VR,VS,VZ,Ua,Uc,Ud,Uf,Uk,Uo,Ux,U3,U4,U5,U6,T5,TK,gl];all_goals tactic=>exact rfl))
         ·exact rdb
         ·rw[bN,hld,hW]; (sym=>(simp[Za,Zb,Zf,Zh,Zl,Zm,Zv,Z3,ZF,Yc,Ys,VQ,VT,VV,VW,Ui,Uz,Te,Tt,Tu,Tx,Tz,T0,T6,z,gl];all_goals tactic=>exact rfl))
       ·(sym=>(simp[Za,Y9,YX,Xb,Xd,Xr,Xv,Xx,W3,WE,WH,WI,WK,WL,WM,WO,WQ,WR,WS,WT,WY,WZ,Vf,VQ,VR,VS,VZ,Ua,Uc,Ud,Uf,Uk,Ux,U3,U4,U5,U6,T5,TK,gl];all_goals tactic=>exact rfl))
       ·exact rda
       ·(sym=>(simp[Za,Zb,Zf,Zh,Zl,Zm,Zv,Z3,ZF,Yc,Ys,VQ,VT,VV,VW,Ui,Uz,Te,Tt,Tu,Tx,Tz,T0,T6,z,gl];all_goals tactic=>exact rfl))
   ·-- case
    refine bU ?_ ?_
    ·-- dJ
     unfold cV
     dsimp only
     sym =>
      simp[Za,Zb,Zf,Zh,Zl,Zm,Zv,Z3,ZA,ZF,ZG,Yc,Yg,Yh,Yq,Ys,Yw,Yx,WC,VQ,VT,VU,VV,Ug,Uh,Ui,Uj,Uk,Uu,Uy,Uz,Th,Ti,Tk,Tt,Tu,Tw,Ty,Tz,T6,T7,a1,hx,gl,c0]
      tactic =>
       unfold dD
       rw[aD ks.length (fun j=>iN ws u i (cQ ks) j) (fun _=>dT x)]
       ·sym =>
        simp[Za,Zb,Ze,Zf,Zg,Zh,Zk,Zl,Zm,Zp,Zq,Zv,Zy,Z3,Z8,ZA,ZF,ZH,ZI,ZJ,ZM,ZQ,ZR,ZT,ZU,ZV,Ya,Yc,Yg,Yh,Yk,Ys,Yw,Yx,Y8,YX,Xr,Xs,W3,W4,W5,WA,WC,WK,WN,WP,WU,WV,Vi,Vj,Vk,Vm,Vp,Vq,Vv,Vx,Vy,V0,V1,V3,VQ,VT,VV,VZ,Ua,Uc,Ud,Ug,Uh,Ui,Uj,Uk,Um,Ur,Us,Ut,Uu,Uz,U0,U1,U2,U3,U4,U5,U6,Te,Tf,Tg,Th,Ti,Tk,Tt,Tu,Tx,Ty,Tz,T0,T4,T6,T7,SB,SC,SD,SF,SG,SI,z,gl,ga,e1,c1,gb,e2,c2,c3,u1]
        tactic =>
         unfold dV
         rw[aD ks.length (fun j=>bN x ws u i ks j) (fun _=>dT x)]
         ·rw[bN,hld,hW]; (sym=>(simp[Za,Zb,Zf,Zh,Zl,Zm,Zv,Z3,Z5,Z8,ZF,ZG,ZX,Ya,Yc,Ym,Yr,Ys,W3,W4,W5,WC,VQ,VT,VU,VV,VX,Ui,Uq,Ur,Uz,Te,Tf,Tg,Tk,Tt,Tu,Tv,Tw,Tx,Tz,T0,T1,T3,T4,T6,T7,SA,z,gl,b1,b2,d0];all_goals tactic=>exact rfl))
         ·rw[bN,g0,w0]; (sym=>(simp[Za,Y9,YX,YY,Xb,Xd,Xr,Xs,Xv,Xx,W3,WE,WH,WI,WK,WL,WM,WO,WQ,WR,WS,WT,WY,WZ,Vf,VQ,VR,VS,VZ,Ua,Uc,Ud,Uf,Uk,Um,Ux,U3,U4,U5,U6,T5,TK,gl];all_goals tactic=>exact rfl))
         ·exact rdb
         ·rw[bN,hld,hW]; (sym=>(simp[Za,Zb,Zf,Zh,Zl,Zm,Zv,Z3,ZF,Yc,Ys,VQ,VT,VV,VW,Ui,Uz,Te,Tt,Tu,Tx,Tz,T0,T6,z,gl];all_goals tactic=>exact rfl))
       ·(sym=>(simp[Za,Y9,YX,Xb,Xd,Xr,Xv,Xx,W3,WE,WH,WI,WK,WL,WM,WO,WQ,WR,WS,WT,WY,WZ,Vf,VQ,VR,VS,VZ,Ua,Uc,Ud,Uf,Uk,Ux,U3,U4,U5,U6,T5,TK,gl];all_goals tactic=>exact rfl))
       ·exact rda
       ·(sym=>(simp[Za,Zb,Zf,Zh,Zl,Zm,Zv,Z3,ZF,Yc,Ys,VQ,VT,VV,VW,Ui,Uz,Te,Tt,Tu,Tx,Tz,T0,T6,z,gl];all_goals tactic=>exact rfl))
    ·-- returns
     unfold cV
     dsimp only
     sym =>
      simp[Za,Zb,Zf,Zh,Zl,Zm,Zv,Z3,ZA,ZF,ZG,Yc,Yg,Yh,Yq,Ys,Yw,Yx,WC,VQ,VT,VU,VV,Ug,Uh,Ui,Uj,Uk,Uu,Uy,Uz,Th,Ti,Tk,Tt,Tu,Tw,Ty,Tz,T6,T7,a1,hx,gl,c0]
      tactic =>
       unfold dD
       rw[aD ks.length (fun j=>iN ws u i (cQ ks) j) (fun _=>dT x)]
       ·sym =>
        simp[Za,Zb,Ze,Zf,Zg,Zh,Zk,Zl,Zm,Zp,Zq,Zv,Zy,Z3,Z8,ZA,ZF,ZH,ZI,ZJ,ZM,ZQ,ZR,ZT,ZU,ZV,Ya,Yc,Yg,Yh,Yk,Ys,Yw,Yx,Y8,YX,Xr,Xs,W3,W4,W5,WA,WC,WK,WN,WP,WU,WV,Vi,Vj,Vk,Vm,Vp,Vq,Vv,Vx,Vy,V0,V1,V3,VQ,VT,VV,VZ,Ua,Uc,Ud,Ug,Uh,Ui,Uj,Uk,Um,Ur,Us,Ut,Uu,Uz,U0,U1,U2,U3,U4,U5,U6,Te,Tf,Tg,Th,Ti,Tk,Tt,Tu,Tx,Ty,Tz,T0,T4,T6,T7,SB,SC,SD,SF,SG,SI,z,gl,ga,e1,c1,gb,e2,c2,c3,u1]
        tactic =>
         unfold dV
         rw[aD ks.length (fun j=>bN x ws u i ks j) (fun _=>dT x)]
         ·rw[bN,hld,hW]; (sym=>(simp[Za,Zb,Zf,Zh,Zl,Zm,Zv,Z3,Z5,Z8,ZF,ZG,ZX,Ya,Yc,Ym,Yr,Ys,W3,W4,W5,WC,V9,VF,VQ,VT,VU,VV,Ui,Uq,Ur,Uz,Te,Tf,Tg,Tk,Tt,Tu,Tv,Tw,Tx,Tz,T0,T1,T3,T4,T6,T7,SA,z,gl,b1,b2,d0];all_goals tactic=>exact rfl))
         ·rw[bN,g0,w0]; (sym=>(simp[Za,Y9,YX,YY,Xb,Xd,Xr,Xs,Xv,Xx,W3,WE,WH,WI,WK,WL,WM,WO,WQ,WR,WS,WT,WY,WZ,Vf,VQ,VR,VS,VZ,Ua,Uc,Ud,Uf,Uk,Um,Ux,U3,U4,U5,U6,T5,TK,gl];all_goals tactic=>exact rfl))
         ·exact rdb
         ·rw[bN,hld,hW]; (sym=>(simp[Za,Zb,Zf,Zh,Zl,Zm,Zv,Z3,ZF,Yc,Ys,VQ,VT,VV,VW,Ui,Uz,Te,Tt,Tu,Tx,Tz,T0,T6,z,gl];all_goals tactic=>exact rfl))
       ·(sym=>(simp[Za,Y9,YX,Xb,Xd,Xr,Xv,Xx,W3,WE,WH,WI,WK,WL,WM,WO,WQ,WR,WS,WT,WY,WZ,Vf,VQ,VR,VS,VZ,Ua,Uc,Ud,Uf,Uk,Ux,U3,U4,U5,U6,T5,TK,gl];all_goals tactic=>exact rfl))
       ·exact rda
       ·(sym=>(simp[Za,Zb,Zf,Zh,Zl,Zm,Zv,Z3,ZF,Yc,Ys,VQ,VT,VV,VW,Ui,Uz,Te,Tt,Tu,Tx,Tz,T0,T6,z,gl];all_goals tactic=>exact rfl))
 ·generalize x.sick.testBit a=sb at *
  generalize x.nur.testBit b=nb at *
  have d0:((d:Int)=0)=True:=eq_true (by have:=hcf.2 hc;omega)
  cases sb
  ·cases nb
   ·-- case
    unfold cV
    dsimp only
    sym =>
     simp[Za,Zb,Zf,Zh,Zl,Zm,Zv,Z3,ZA,ZF,ZG,Yc,Yg,Yh,Yq,Ys,Yw,Yx,WC,VQ,VT,VU,VV,Ug,Uh,Ui,Uj,Uk,Uu,Uy,Uz,Th,Ti,Tk,Tt,Tu,Tw,Ty,Tz,T6,T7,a1,hx,gl,c0]
     tactic =>
      unfold dD
      rw[aD ks.length (fun j=>iN ws u i (cQ ks) j) (fun _=>dT x)]
      ·sym =>
       simp[Za,Zb,Ze,Zf,Zg,Zh,Zk,Zl,Zm,Zp,Zs,Zv,Zy,Z3,Z8,ZA,ZF,ZH,ZI,ZJ,ZM,ZQ,ZR,ZT,ZU,ZW,Ya,Yc,Yg,Yh,Ys,Y8,YX,Xr,Xs,W3,W4,W5,WA,WC,WK,WN,WP,WU,WV,Vi,Vj,Vk,Vm,Vp,Vq,Vv,Vx,Vy,V0,V1,V3,VQ,VT,VV,VZ,Ua,Uc,Ud,Ug,Uh,Ui,Uj,Uk,Um,Ur,Us,Ut,Uu,Uz,U0,U1,U2,U3,U4,U5,U6,Te,Tf,Tg,Th,Ti,Tk,Tt,Tu,Tx,Ty,Tz,T0,T4,T6,T7,SB,SC,SD,SF,SG,SI,z,gl,ga,e1,c1,gb,e2,c2,c3,u1]
       tactic =>
        unfold dV
        rw[aD ks.length (fun j=>bN x ws u i ks j) (fun _=>dT x)]
        ·rw[bN,hld,hW]; (sym=>(simp[Za,Zb,Zf,Zh,Zl,Zm,Zv,Z3,Z5,Z8,ZF,ZG,ZX,Ya,Yc,Yj,Ym,Yn,Yr,Ys,YX,Xb,Xd,Xr,Xv,Xx,W3,W4,W5,WC,WE,WH,WI,WK,WL,WM,WO,WQ,WR,WS,WT,WY,WZ,Vf,VQ,VR,VS,VT,VV,VZ,Ua,Uc,Ud,Uf,Ui,Uk,Uq,Ux,Uy,Uz,U3,U4,U5,U6,Te,Tf,Tg,Tk,Tt,Tu,Tw,Tx,Tz,T0,T2,T4,T5,T6,T7,TK,SA,z,gl,b1,b2,b3,d0,a2];all_goals tactic=>exact rfl))
        ·rw[bN,g0,w0]; (sym=>(simp[Za,Y9,YX,YY,Xb,Xd,Xr,Xs,Xv,Xx,W3,WE,WH,WI,WK,WL,WM,WO,WQ,WR,WS,WT,WY,WZ,Vf,VQ,VR,VS,VZ,Ua,Uc,Ud,Uf,Uk,Uo,Ux,U3,U4,U5,U6,T5,TK,gl];all_goals tactic=>exact rfl))
        ·exact rdb
        ·rw[bN,hld,hW]; (sym=>(simp[Za,Zb,Zf,Zh,Zl,Zm,Zv,Z3,ZF,Yc,Ys,VQ,VT,VV,VW,Ui,Uz,Te,Tt,Tu,Tx,Tz,T0,T6,z,gl];all_goals tactic=>exact rfl))
      ·(sym=>(simp[Za,Y9,YX,Xb,Xd,Xr,Xv,Xx,W3,WE,WH,WI,WK,WL,WM,WO,WQ,WR,WS,WT,WY,WZ,Vf,VQ,VR,VS,VZ,Ua,Uc,Ud,Uf,Uk,Ux,U3,U4,U5,U6,T5,TK,gl];all_goals tactic=>exact rfl))
      ·exact rda
      ·(sym=>(simp[Za,Zb,Zf,Zh,Zl,Zm,Zv,Z3,ZF,Yc,Ys,VQ,VT,VV,VW,Ui,Uz,Te,Tt,Tu,Tx,Tz,T0,T6,z,gl];all_goals tactic=>exact rfl))
   ·-- case
    unfold cV
    dsimp only
    sym =>
     simp[Za,Zb,Zf,Zh,Zl,Zm,Zv,Z3,ZA,ZF,ZG,Yc,Yg,Yh,Yq,Ys,Yw,Yx,WC,VQ,VT,VU,VV,Ug,Uh,Ui,Uj,Uk,Uu,Uy,Uz,Th,Ti,Tk,Tt,Tu,Tw,Ty,Tz,T6,T7,a1,hx,gl,c0]
     tactic =>
      unfold dD
      rw[aD ks.length (fun j=>iN ws u i (cQ ks) j) (fun _=>dT x)]
      ·sym =>
       simp[Za,Zb,Ze,Zf,Zg,Zh,Zk,Zl,Zm,Zp,Zs,Zv,Zy,Z3,Z8,ZA,ZF,ZH,ZI,ZJ,ZM,ZQ,ZR,ZT,ZU,ZW,Ya,Yc,Yg,Yh,Ys,Y8,YX,Xr,Xs,W3,W4,W5,WA,WC,WK,WN,WP,WU,WV,Vi,Vj,Vk,Vm,Vp,Vq,Vv,Vx,Vy,V0,V1,V3,VQ,VT,VV,VZ,Ua,Uc,Ud,Ug,Uh,Ui,Uj,Uk,Um,Ur,Us,Ut,Uu,Uz,U0,U1,U2,U3,U4,U5,U6,Te,Tf,Tg,Th,Ti,Tk,Tt,Tu,Tx,Ty,Tz,T0,T4,T6,T7,SB,SC,SD,SF,SG,SI,z,gl,ga,e1,c1,gb,e2,c2,c3,u1]
       tactic =>
        unfold dV
        rw[aD ks.length (fun j=>bN x ws u i ks j) (fun _=>dT x)]
        ·rw[bN,hld,hW]; (sym=>(simp[Za,Zb,Zf,Zh,Zl,Zm,Zv,Z3,Z5,Z8,ZF,ZG,ZX,Ya,Yc,Yj,Ym,Yn,Yr,Ys,YX,Xb,Xd,Xr,Xv,Xx,W3,W4,W5,WC,WE,WH,WI,WK,WL,WM,WO,WQ,WR,WS,WT,WY,WZ,Vf,VQ,VR,VS,VT,VV,VZ,Ua,Uc,Ud,Uf,Ui,Uk,Uq,Ux,Uy,Uz,U3,U4,U5,U6,Te,Tf,Tg,Tk,Tt,Tu,Tw,Tx,Tz,T0,T2,T4,T5,T6,T7,TK,SA,z,gl,b1,b2,b3,d0,a2];all_goals tactic=>exact rfl))
        ·rw[bN,g0,w0]; (sym=>(simp[Za,Y9,YX,YY,Xb,Xd,Xr,Xs,Xv,Xx,W3,WE,WH,WI,WK,WL,WM,WO,WQ,WR,WS,WT,WY,WZ,Vf,VQ,VR,VS,VZ,Ua,Uc,Ud,Uf,Uk,Um,Ux,U3,U4,U5,U6,T5,TK,gl];all_goals tactic=>exact rfl))
        ·exact rdb
        ·rw[bN,hld,hW]; (sym=>(simp[Za,Zb,Zf,Zh,Zl,Zm,Zv,Z3,ZF,Yc,Ys,VQ,VT,VV,VW,Ui,Uz,Te,Tt,Tu,Tx,Tz,T0,T6,z,gl];all_goals tactic=>exact rfl))
      ·(sym=>(simp[Za,Y9,YX,Xb,Xd,Xr,Xv,Xx,W3,WE,WH,WI,WK,WL,WM,WO,WQ,WR,WS,WT,WY,WZ,Vf,VQ,VR,VS,VZ,Ua,Uc,Ud,Uf,Uk,Ux,U3,U4,U5,U6,T5,TK,gl];all_goals tactic=>exact rfl))
      ·exact rda
      ·(sym=>(simp[Za,Zb,Zf,Zh,Zl,Zm,Zv,Z3,ZF,Yc,Ys,VQ,VT,VV,VW,Ui,Uz,Te,Tt,Tu,Tx,Tz,T0,T6,z,gl];all_goals tactic=>exact rfl))
  ·cases nb
   ·-- case
    unfold cV
    dsimp only
    sym =>
     simp[Za,Zb,Zf,Zh,Zl,Zm,Zv,Z3,ZA,ZF,ZG,Yc,Yg,Yh,Yq,Ys,Yw,Yx,WC,VQ,VT,VU,VV,Ug,Uh,Ui,Uj,Uk,Uu,Uy,Uz,Th,Ti,Tk,Tt,Tu,Tw,Ty,Tz,T6,T7,a1,hx,gl,c0]
     tactic =>
      unfold dD
      rw[aD ks.length (fun j=>iN ws u i (cQ ks) j) (fun _=>dT x)]
      ·sym =>
       simp[Za,Zb,Ze,Zf,Zg,Zh,Zk,Zl,Zm,Zp,Zq,Zv,Zy,Z3,Z8,ZA,ZF,ZH,ZI,ZJ,ZM,ZQ,ZR,ZT,ZU,ZV,Ya,Yc,Yg,Yh,Yk,Ys,Yw,Yx,Y8,YX,Xr,Xs,W3,W4,W5,WA,WC,WK,WN,WP,WU,WV,Vi,Vj,Vk,Vm,Vp,Vq,Vv,Vx,Vy,V0,V1,V3,VQ,VT,VV,VZ,Ua,Uc,Ud,Ug,Uh,Ui,Uj,Uk,Um,Ur,Us,Ut,Uu,Uz,U0,U1,U2,U3,U4,U5,U6,Te,Tf,Tg,Th,Ti,Tk,Tt,Tu,Tx,Ty,Tz,T0,T4,T6,T7,SB,SC,SD,SF,SG,SI,z,gl,ga,e1,c1,gb,e2,c2,c3,u1]
       tactic =>
        unfold dV
        rw[aD ks.length (fun j=>bN x ws u i ks j) (fun _=>dT x)]
        ·rw[bN,hld,hW]; (sym=>(simp[Za,Zb,Zf,Zh,Zl,Zm,Zv,Z3,Z5,Z8,ZF,ZG,ZX,Ya,Yc,Yj,Ym,Yn,Yr,Ys,YX,Xb,Xd,Xr,Xv,Xx,W3,W4,W5,WC,WE,WH,WI,WK,WL,WM,WO,WQ,WR,WS,WT,WY,WZ,Vf,VQ,VR,VS,VT,VV,VZ,Ua,Uc,Ud,Uf,Ui,Uk,Uq,Ux,Uy,Uz,U3,U4,U5,U6,Te,Tf,Tg,Tk,Tt,Tu,Tw,Tx,Tz,T0,T2,T4,T5,T6,T7,TK,SA,z,gl,b1,b2,b3,d0,a2];all_goals tactic=>exact rfl))
        ·rw[bN,g0,w0]; (sym=>(simp[Za,Y9,YX,YY,Xb,Xd,Xr,Xs,Xv,Xx,W3,WE,WH,WI,WK,WL,WM,WO,WQ,WR,WS,WT,WY,WZ,Vf,VQ,VR,VS,VZ,Ua,Uc,Ud,Uf,Uk,Uo,Ux,U3,U4,U5,U6,T5,TK,gl];all_goals tactic=>exact rfl))
        ·exact rdb
        ·rw[bN,hld,hW]; (sym=>(simp[Za,Zb,Zf,Zh,Zl,Zm,Zv,Z3,ZF,Yc,Ys,VQ,VT,VV,VW,Ui,Uz,Te,Tt,Tu,Tx,Tz,T0,T6,z,gl];all_goals tactic=>exact rfl))
      ·(sym=>(simp[Za,Y9,YX,Xb,Xd,Xr,Xv,Xx,W3,WE,WH,WI,WK,WL,WM,WO,WQ,WR,WS,WT,WY,WZ,Vf,VQ,VR,VS,VZ,Ua,Uc,Ud,Uf,Uk,Ux,U3,U4,U5,U6,T5,TK,gl];all_goals tactic=>exact rfl))
      ·exact rda
      ·(sym=>(simp[Za,Zb,Zf,Zh,Zl,Zm,Zv,Z3,ZF,Yc,Ys,VQ,VT,VV,VW,Ui,Uz,Te,Tt,Tu,Tx,Tz,T0,T6,z,gl];all_goals tactic=>exact rfl))
   ·-- case
    unfold cV
    dsimp only
    sym =>
     simp[Za,Zb,Zf,Zh,Zl,Zm,Zv,Z3,ZA,ZF,ZG,Yc,Yg,Yh,Yq,Ys,Yw,Yx,WC,VQ,VT,VU,VV,Ug,Uh,Ui,Uj,Uk,Uu,Uy,Uz,Th,Ti,Tk,Tt,Tu,Tw,Ty,Tz,T6,T7,a1,hx,gl,c0]
     tactic =>
      unfold dD
      rw[aD ks.length (fun j=>iN ws u i (cQ ks) j) (fun _=>dT x)]
      ·sym =>
       simp[Za,Zb,Ze,Zf,Zg,Zh,Zk,Zl,Zm,Zp,Zq,Zv,Zy,Z3,Z8,ZA,ZF,ZH,ZI,ZJ,ZM,ZQ,ZR,ZT,ZU,ZV,Ya,Yc,Yg,Yh,Yk,Ys,Yw,Yx,Y8,YX,Xr,Xs,W3,W4,W5,WA,WC,WK,WN,WP,WU,WV,Vi,Vj,Vk,Vm,Vp,Vq,Vv,Vx,Vy,V0,V1,V3,VQ,VT,VV,VZ,Ua,Uc,Ud,Ug,Uh,Ui,Uj,Uk,Um,Ur,Us,Ut,Uu,Uz,U0,U1,U2,U3,U4,U5,U6,Te,Tf,Tg,Th,Ti,Tk,Tt,Tu,Tx,Ty,Tz,T0,T4,T6,T7,SB,SC,SD,SF,SG,SI,z,gl,ga,e1,c1,gb,e2,c2,c3,u1]
       tactic =>
        unfold dV
        rw[aD ks.length (fun j=>bN x ws u i ks j) (fun _=>dT x)]
        ·rw[bN,hld,hW]; (sym=>(simp[Za,Zb,Zf,Zh,Zl,Zm,Zv,Z3,Z5,Z8,ZF,ZG,ZX,Ya,Yc,Yj,Ym,Yn,Yr,Ys,YX,Xb,Xd,Xr,Xv,Xx,W3,W4,W5,WC,WE,WH,WI,WK,WL,WM,WO,WQ,WR,WS,WT,WY,WZ,Vf,VQ,VR,VS,VT,VV,VZ,Ua,Uc,Ud,Uf,Ui,Uk,Uq,Ux,Uy,Uz,U3,U4,U5,U6,Te,Tf,Tg,Tk,Tt,Tu,Tw,Tx,Tz,T0,T2,T4,T5,T6,T7,TK,SA,z,gl,b1,b2,b3,d0,a2];all_goals tactic=>exact rfl))
        ·rw[bN,g0,w0]; (sym=>(simp[Za,Y9,YX,YY,Xb,Xd,Xr,Xs,Xv,Xx,W3,WE,WH,WI,WK,WL,WM,WO,WQ,WR,WS,WT,WY,WZ,Vf,VQ,VR,VS,VZ,Ua,Uc,Ud,Uf,Uk,Um,Ux,U3,U4,U5,U6,T5,TK,gl];all_goals tactic=>exact rfl))
        ·exact rdb
        ·rw[bN,hld,hW]; (sym=>(simp[Za,Zb,Zf,Zh,Zl,Zm,Zv,Z3,ZF,Yc,Ys,VQ,VT,VV,VW,Ui,Uz,Te,Tt,Tu,Tx,Tz,T0,T6,z,gl];all_goals tactic=>exact rfl))
      ·(sym=>(simp[Za,Y9,YX,Xb,Xd,Xr,Xv,Xx,W3,WE,WH,WI,WK,WL,WM,WO,WQ,WR,WS,WT,WY,WZ,Vf,VQ,VR,VS,VZ,Ua,Uc,Ud,Uf,Uk,Ux,U3,U4,U5,U6,T5,TK,gl];all_goals tactic=>exact rfl))
      ·exact rda
      ·(sym=>(simp[Za,Zb,Zf,Zh,Zl,Zm,Zv,Z3,ZF,Yc,Ys,VQ,VT,VV,VW,Ui,Uz,Te,Tt,Tu,Tx,Tz,T0,T6,z,gl];all_goals tactic=>exact rfl))
end
section
variable {x:Vn} (ok:x.Ok) {ws:List (List Int)} (hws:ws.length≤100) (hw:∀ w∈ws,w.length<1000000) {u i:Nat} (hu:u<2^x.F)
include ok hws hw hu in
theorem aHa {w:List Int} (hx:ws[i]?=some w) (h0:jZ x u w=0) :
 aV 0 [1,2,6,7] (execW aA 34 0 none (match cV with | .loop _ a=>a|c=>c) (aS [1,2,6,7] (s34 ws u i)) (dT x))=some (s34 ws (uWi u w) (i+1),dT x):=by
 have hwl:=hw w (List.mem_of_getElem? hx)
 unfold jZ at h0
 by_cases hn:w=[]
 ·rw[if_pos hn]at h0;simp at h0
 rw[if_neg hn]at h0
 by_cases hf:bJ (wU x w) w.length=0
 ·rw[if_neg (by simpa using hf)]at h0
  obtain⟨ks,rfl,hks⟩:=qJ hf
  rw[eY,bR]at *
  have hkn:ks≠[]:=fun h=>hn (by rw[h];rfl)
  cases hld:fP x ks
  ·rw[hld]at h0;simp at h0
  rw[hld,if_pos rfl]at h0
  have hcf:bJ (xB x u ks) ks.length=0:=by
   by_cases h:bJ (xB x u ks) ks.length=0
   ·exact h
   ·rw[if_pos h]at h0;simp at h0
  exact(aIr ok hu hx hks hwl hkn hws).2.2 hld hcf
 ·rw[if_pos (by simpa using hf)]at h0;simp at h0
include ok hws hw hu in
theorem aJf {w:List Int} (hx:ws[i]?=some w) (h0:jZ x u w≠0):∃ e h,
 execW aA 34 0 none (match cV with | .loop _ a=>a|c=>c) (aS [1,2,6,7] (s34 ws u i)) (dT x)=some (.ret,e,h)∧bD none x34.res x34.ownR 0 (some (.ret,e,h))=some (I (jZ x u w),[]):=by
 have hi:=eI hx
 have hwl:=hw w (List.mem_of_getElem? hx)
 have a1:=cT hi
 unfold jZ at h0 ⊢
 by_cases hn:w=[]
 ·rw[if_pos hn]
  subst hn
  refine bU ?_ ?_
  ·unfold cV;dsimp only; (sym=>(simp[Za,Zb,Zf,Zh,Zl,Zm,Zv,Z3,ZA,ZF,ZG,Yc,Yg,Yh,Yq,Ys,Yw,Yx,Y9,WC,VQ,VT,VU,VX,Ua,Ug,Uh,Ui,Uj,Uk,Uu,Uy,Th,Ti,Tk,Tt,Tu,Tv,Tw,Ty,Tz,T1,T3,T6,T7,a1,hx];all_goals tactic=>exact rfl))
  ·unfold cV;dsimp only; (sym=>(simp[Za,Zb,Zf,Zh,Zl,Zm,Zv,Z3,ZA,ZF,ZG,Yc,Yg,Yh,Yq,Ys,Yw,Yx,Y9,WC,V9,VF,VQ,VT,VU,Ua,Ug,Uh,Ui,Uj,Uk,Uu,Uy,Th,Ti,Tk,Tt,Tu,Tv,Tw,Ty,Tz,T1,T3,T6,T7,a1,hx];all_goals tactic=>exact rfl))
 rw[if_neg hn]at h0 ⊢
 have wpos:0<w.length:=List.length_pos_iff.2 hn
 by_cases hf:bJ (wU x w) w.length=0
 ·rw[if_neg (by simpa using hf)]at h0 ⊢
  obtain⟨ks,rfl,hks⟩:=qJ hf
  rw[eY,bR]at *
  have hkn:ks≠[]:=fun h=>hn (by rw[h];rfl)
  have key:=aIr ok hu hx hks hwl hkn hws
  cases hld:fP x ks
  ·rw[if_neg (by simp)]
   exact key.1 hld
  ·rw[hld,if_pos rfl]at h0
   rw[if_pos rfl]
   have hcf:bJ (xB x u ks) ks.length≠0:=by
    by_cases h:bJ (xB x u ks) ks.length=0
    ·rw[if_neg (by simpa using h)]at h0;exact absurd rfl h0
    ·exact h
   rw[if_pos hcf]
   exact key.2.1 hld hcf
 ·rw[if_pos (by simpa using hf)]
  have c0:((w.length:Int)=0)=False:=eq_false (by omega)
  obtain⟨m,m1,m2,m3⟩:=cH (wU x w) w.length
  rcases m3 with ⟨_,m4⟩|⟨m3,m4,_⟩
  ·exact absurd m4 hf
  ·have rda:=fun j (hj:j<m)=>aAw (ws:=ws) (u:=u) (i:=i) ok (w:=w) (by omega) (show j<w.length by omega) (m2 j hj)
   obtain⟨e,hh,q1,q2⟩:=aHI (ws:=ws) (u:=u) (i:=i) ok m3 m4
   refine bU ?_ ?_
   ·unfold cV
    dsimp only
    sym =>
     simp[Za,Zb,Zf,Zh,Zl,Zm,Zv,Z3,ZA,ZF,ZG,Yc,Yg,Yh,Yq,Ys,Yw,Yx,WC,VQ,VT,VU,VV,Ug,Uh,Ui,Uj,Uk,Uu,Uy,Uz,Th,Ti,Tk,Tt,Tu,Tw,Ty,Tz,T6,T7,a1,hx,c0]
     tactic =>
      unfold dD
      rw[aD m (fun j=>iN ws u i w j) (fun _=>dT x)]
      ·unfold dD at q1
       dsimp only at q1
       rw[q1]
       rfl
      ·(sym=>(simp[Za,Y9,YX,Xb,Xd,Xr,Xv,Xx,W3,WE,WH,WI,WK,WL,WM,WO,WQ,WR,WS,WT,WY,WZ,Vf,VQ,VR,VS,VZ,Ua,Uc,Ud,Uf,Uk,Ux,U3,U4,U5,U6,T5,TK];all_goals tactic=>exact rfl))
      ·exact rda
      ·unfold dD at q1
       dsimp only at q1
       rw[q1]
       rfl
   ·unfold cV
    dsimp only
    sym =>
     simp[Za,Zb,Zf,Zh,Zl,Zm,Zv,Z3,ZA,ZF,ZG,Yc,Yg,Yh,Yq,Ys,Yw,Yx,WC,VQ,VT,VU,VV,Ug,Uh,Ui,Uj,Uk,Uu,Uy,Uz,Th,Ti,Tk,Tt,Tu,Tw,Ty,Tz,T6,T7,a1,hx,c0]
     tactic =>
      unfold dD
      rw[aD m (fun j=>iN ws u i w j) (fun _=>dT x)]
      ·unfold dD at q1
       dsimp only at q1
       rw[q1]
       exact q2
      ·(sym=>(simp[Za,Y9,YX,Xb,Xd,Xr,Xv,Xx,W3,WE,WH,WI,WK,WL,WM,WO,WQ,WR,WS,WT,WY,WZ,Vf,VQ,VR,VS,VZ,Ua,Uc,Ud,Uf,Uk,Ux,U3,U4,U5,U6,T5,TK];all_goals tactic=>exact rfl))
      ·exact rda
      ·unfold dD at q1
       dsimp only at q1
       rw[q1]
       rfl
end
theorem w34 {x:Vn} (ok:x.Ok) {ws:List (List Int)} (hws:ws.length<1000000000) (hw:∀ w∈ws,w.length<1000000):runW aA 34 [.agg x.c,wL ws] []=some (I (aAh x ws),[]):=by
 have h24:=ok.h24
 have z:=Te (n:=(ws.length:Int))
 unfold aAh
 by_cases h16:16<ws.length
 ·rw[if_pos h16]
  have c1:((16:Int)<(ws.length:Int))=True:=eq_true (by omega)
  rw[r34 (by simp)];unfold x34;dsimp only
  (sym=>(simp[Za,Zb,Zf,Zg,Zh,Zj,Zl,Zm,Zo,Zv,Zz,Z3,ZF,ZG,ZO,ZP,ZT,ZU,Yc,Yr,Yu,YX,YZ,Xb,Xi,Xk,Xl,Xr,Xt,Xv,XJ,We,Wg,Wi,Ws,W3,W4,W5,W7,W8,W9,WA,WB,WK,WN,WO,WP,WQ,WR,WS,WU,WV,Vi,Vj,Vk,Vv,Vx,Vy,V0,V1,V3,V9,VA,VC,VD,VE,VF,VG,VJ,VK,VL,VM,VO,VT,VU,VV,VY,VZ,Ua,Uc,Ud,Uf,Ug,Uh,Ui,Um,Uq,Uy,U2,U3,U4,U5,U6,U7,U8,UD,UE,US,UT,Tf,Tg,Tj,Tn,Tt,Tu,Tv,Tw,Tz,T1,T6,T7,Su,SB,SC,SD,SF,SG,SI,h24,c1];all_goals tactic=>exact rfl))
 ·rw[if_neg h16]
  have c1:((16:Int)<(ws.length:Int))=False:=eq_false (by omega)
  have u0:wS ws 0=0:=rfl
  obtain⟨m,m1,m2,m3⟩:=cH (rI x ws) ws.length
  have hus:=fun i (hi:i≤m)=>aBq (x:=x) (ws:=ws) i (by omega) (fun j hj=>m2 j (by omega))
  have rd:∀ i,i<m→aV 0 [1,2,6,7] (execW aA 34 0 none (match cV with | .loop _ a=>a|c=>c) (aS [1,2,6,7] (s34 ws (wS ws i) i)) (dT x))=some (s34 ws (wS ws (i+1)) (i+1),dT x):=by
   intro i hi
   obtain⟨w,hx⟩:=bK (l:=ws) (i:=i) (by omega)
   have h0:=m2 i hi
   unfold rI at h0
   rw[aO hx]at h0
   rw[yQ hx]
   exact aHa ok (by omega) hw (hus i (by omega)) hx h0
  rcases m3 with ⟨rfl,m4⟩|⟨m3,m4,m5⟩
  ·rw[m4]
   generalize huF:wS ws ws.length=uF at *
   rw[r34 (by simp)];unfold x34;dsimp only
   sym =>
    simp[Za,Zb,Zf,Zg,Zh,Zj,Zl,Zm,Zo,Zv,Zz,Z3,ZF,ZG,ZO,ZP,ZT,ZU,Yc,Yr,Yu,YX,YZ,Xb,Xi,Xk,Xl,Xr,Xt,Xv,We,Wg,Wi,Ws,W3,W4,W5,W7,W8,W9,WA,WB,WK,WN,WP,WU,WV,Vi,Vj,Vk,Vv,Vx,Vy,V0,V1,V3,VO,VT,VV,VY,VZ,Ua,Uc,Ud,Ug,Uh,Ui,Um,Uq,Uy,Uz,U2,U3,U4,U5,U6,U7,U8,UD,UE,US,UT,Tf,Tg,Tj,Tn,Tt,Tu,Tw,Ty,Tz,T6,T7,SB,SC,SD,SF,SG,SI,h24,c1]
    tactic =>
     unfold cV
     rw[aD ws.length (fun i=>s34 ws (wS ws i) i) (fun _=>dT x)]
     ·rw[huF]; (sym=>(simp[Za,Zb,Zf,Zh,Zl,Zm,Zv,Z3,ZF,Yc,Ys,YX,Xr,XJ,We,WK,WO,WQ,WR,WS,Vv,V9,VA,VC,VD,VE,VF,VG,VJ,VK,VL,VM,VQ,VT,VV,Ua,Ud,Uf,Ui,Uz,U3,U4,Te,Tt,Tu,Tv,Tx,Tz,T0,T4,T6,T7,Su,z];all_goals tactic=>exact rfl))
     ·rw[u0]; (sym=>(simp[Za,Y9,YX,Xb,Xd,Xr,Xv,Xx,W3,WB,WE,WH,WI,WK,WL,WM,WO,WQ,WR,WS,WT,WY,WZ,Vf,VO,VR,VS,VZ,Ua,Uc,Ud,Uf,Uk,Ux,U3,U4,U5,U6,T5,TK];all_goals tactic=>exact rfl))
     ·exact rd
     ·rw[huF]; (sym=>(simp[Za,Zb,Zf,Zh,Zl,Zm,Zv,Z3,ZF,Yc,Ys,VQ,VT,VV,VW,Ui,Uz,Te,Tt,Tu,Tx,Tz,T0,T6,z];all_goals tactic=>exact rfl))
  ·rw[m5]
   obtain⟨w,hx⟩:=bK m3
   unfold rI at m4 ⊢
   rw[aO hx]at m4 ⊢
   obtain⟨e,hh,q1,q2⟩:=aJf ok (by omega) hw (hus m (Nat.le_refl _)) hx m4
   generalize jZ x (wS ws m) w=er at *
   rw[r34 (by simp)];unfold x34;dsimp only
   sym =>
    simp[Za,Zb,Zf,Zg,Zh,Zj,Zl,Zm,Zo,Zv,Zz,Z3,ZF,ZG,ZO,ZP,ZT,ZU,Yc,Yr,Yu,YX,YZ,Xb,Xi,Xk,Xl,Xr,Xt,Xv,We,Wg,Wi,Ws,W3,W4,W5,W7,W8,W9,WA,WB,WK,WN,WP,WU,WV,Vi,Vj,Vk,Vv,Vx,Vy,V0,V1,V3,VO,VT,VV,VY,VZ,Ua,Uc,Ud,Ug,Uh,Ui,Um,Uq,Uy,Uz,U2,U3,U4,U5,U6,U7,U8,UD,UE,US,UT,Tf,Tg,Tj,Tn,Tt,Tu,Tw,Ty,Tz,T6,T7,SB,SC,SD,SF,SG,SI,h24,c1]
    tactic =>
     unfold cV
     rw[aD m (fun i=>s34 ws (wS ws i) i) (fun _=>dT x)]
     ·unfold cV at q1
      dsimp only at q1
      rw[q1]
      exact q2
     ·rw[u0]; (sym=>(simp[Za,Y9,YX,Xb,Xd,Xr,Xv,Xx,W3,WB,WE,WH,WI,WK,WL,WM,WO,WQ,WR,WS,WT,WY,WZ,Vf,VO,VR,VS,VZ,Ua,Uc,Ud,Uf,Uk,Ux,U3,U4,U5,U6,T5,TK];all_goals tactic=>exact rfl))
     ·exact rd
     ·unfold cV at q1
      dsimp only at q1
      rw[q1]
      rfl
theorem aLr {v:Va} {ws:List (List Int)} (hb:v.bs.length<1000000000) (hp:v.ps.length<1000000000) (hv:vE v≠0):runW aA 34 [.agg v.c,wL ws] []=some (I (vE v),[]):=by
 have e:=w24 v hb hp
 have n0:=aDF hv
 generalize vE v=er at *
 rw[r34 (by simp)];unfold x34;dsimp only
 (sym=>(simp[Za,Zb,Zf,Zg,Zh,Zj,Zl,Zm,Zo,Zv,Zz,Z3,ZG,ZO,ZP,ZT,ZU,Yr,YX,YZ,Xb,Xi,Xk,Xl,Xr,Xt,Xv,XJ,We,Wg,Wi,Ws,W3,W4,W5,W7,W8,W9,WA,WB,WK,WN,WO,WP,WQ,WR,WS,WU,WV,Vi,Vj,Vk,Vv,Vx,Vy,V0,V1,V3,V9,VA,VC,VD,VE,VF,VG,VJ,VK,VL,VM,VO,VT,VU,VY,VZ,Ua,Uc,Ud,Uf,Ug,Uh,Um,Ur,Uz,U2,U3,U4,U5,U6,U7,U8,UD,UE,US,UT,Tf,Tg,Tj,Tn,Tt,Tu,Tv,Tz,T1,T6,T7,Su,SB,SC,SD,SF,SG,SI,e,n0];all_goals tactic=>exact rfl))
theorem aIE (v:Va) (hb:v.bs.length<1000000000) (hp:v.ps.length<1000000000) {ws:List (List Int)} (hws:ws.length<1000000000) (hw:∀ w∈ws,w.length<1000000) :
 ∃ e:Int,runW aA 35 [.agg v.c,wL ws] []=some (I e,[])∧runW aA 34 [.agg v.c,wL ws] []=some (I e,[]):=by
 by_cases hv:vE v=0
 ·obtain⟨x,ok,rfl⟩:=aKm hv
  exact⟨_,w35 ok hws hw,w34 ok hws hw⟩
 ·exact⟨_,aLq hb hp hv,aLr hb hp hv⟩
theorem w67 (k:Int):runW aA 67 [I k] []=some (.bool (decide (0<k)),[]):=by
 rcases ptf (0<k)with h|h
 ·rw[show decide (0<k)=true from by simp[h]]
  rw[r67 (by simp)];unfold x67;dsimp only
  (sym=>(simp[aJ,aI,aK,aL,aR,aF,Za,Zb,Zf,Zh,Zl,Zm,Zv,Z3,Yu,YY,Xs,XK,We,Wf,WB,WK,WO,WP,WR,WS,Vv,V9,VA,VC,VD,VE,VF,VG,VJ,VK,VL,VM,VO,VY,Ua,Ud,Uf,Uh,Uy,U2,U3,U4,UD,UE,Tt,Tu,Tv,Tz,T6,T7,Su,h];all_goals tactic=>exact rfl))
 ·rw[show decide (0<k)=false from by simp[h]]
  rw[r67 (by simp)];unfold x67;dsimp only
  (sym=>(simp[aJ,aI,aK,aL,aR,aF,Za,Zb,Zf,Zh,Zl,Zm,Zv,Z3,Yu,YY,Xs,XK,We,Wf,WB,WK,WO,WP,WR,WS,Vv,V9,VA,VC,VD,VE,VF,VG,VJ,VK,VL,VM,VO,VY,Ua,Ud,Uf,Uh,Uz,U2,U3,U4,UD,UE,Tt,Tu,Tv,Tz,T6,T7,Su,h];all_goals tactic=>exact rfl))
def goE (fl:Nat→Nat→Int) (a i:Nat):Int:=if 0<fl a i then 1 else 0
section
variable {l:List AV} {fl:Nat→Nat→Int} {a:Nat} (ha:a<34)
abbrev s66 (a i:Nat):List AV:=[.sl 0 (1+a*34) 1 34,.fn (.func 67) [] [],I 34,I (i:Nat)]
include ha in
theorem aEP {i:Nat} (hi:i<34) (h0:goE fl a i=0) :
 aV 2 [0,1,7,8] (execW aA 66 2 none (match hP with | .loop _ a=>a|c=>c) (aS [0,1,7,8] (s66 a i)) (gN l fl))=some (s66 a (i+1),gN l fl):=by
 have a1:((i:Int)<34)=True:=eq_true (by omega)
 have a0:((0:Int)≤i)=True:=eq_true (by omega)
 have a2:IntKind.i64.wrap ((i:Int)+1)=(i:Int)+1:=aE (by omega) (by omega)
 have k1:=bM (v:=.pt 1 0) (fl:=fl) ha hi
 have e:=w67 (fl a i)
 unfold goE at h0
 have hk:¬0<fl a i:=fun h=>by rw[if_pos h]at h0;simp at h0
 rw[decide_eq_false hk]at e
 unfold hP
 dsimp only
 (sym=>(simp[aJ,aI,aK,aL,aR,aF,Za,Zb,Zf,Zh,Zl,Zm,Zv,Z3,ZA,ZG,ZO,ZP,ZT,ZU,Yf,Yj,Ys,Yw,Yx,YX,Xc,Xd,Xg,Xr,Xs,Xw,Xx,X0,W3,W4,W5,WA,WE,WI,WK,WM,WN,WO,WP,WQ,WR,WS,WU,WV,WY,WZ,Vb,Ve,Vf,Vg,Vi,Vj,Vk,VQ,VR,VS,VT,VU,VV,VZ,Ua,Ub,Uc,Ud,Ue,Uf,Ug,Uh,Uu,Ux,Uy,U2,U3,U4,U5,U6,Tf,Tg,Tk,Tt,Tu,Tw,Ty,Tz,T2,T5,T6,T7,TI,S8,a0,a1,a2,k1,e];all_goals tactic=>exact rfl))
include ha in
theorem aHG {i:Nat} (hi:i<34) (h0:goE fl a i≠0):∃ e h,
 execW aA 66 2 none (match hP with | .loop _ a=>a|c=>c) (aS [0,1,7,8] (s66 a i)) (gN l fl)=some (.ret,e,h)∧bD none x66.res x66.ownR 2 (some (.ret,e,h))=some (I (i:Nat),gN l fl):=by
 have a1:((i:Int)<34)=True:=eq_true (by omega)
 have a0:((0:Int)≤i)=True:=eq_true (by omega)
 have k1:=bM (v:=.pt 1 0) (fl:=fl) ha hi
 have e:=w67 (fl a i)
 unfold goE at h0
 have hk:0<fl a i:=by
  by_cases h:0<fl a i
  ·exact h
  ·rw[if_neg h]at h0;exact absurd rfl h0
 rw[decide_eq_true hk]at e
 refine bU ?_ ?_
 ·unfold hP;dsimp only; (sym=>(simp[aJ,aI,aK,aL,aR,aF,Za,Zb,Zf,Zh,Zl,Zm,Zv,Z3,ZA,ZG,ZO,ZP,ZT,ZU,Yf,Ys,Yw,Yx,YX,Xr,Xs,W3,W4,W5,WA,WK,WN,WP,WU,WV,Vi,Vj,Vk,VQ,VT,VU,VX,VZ,Ua,Uc,Ud,Ug,Uh,Uu,Uy,U2,U3,U4,U5,U6,Tf,Tg,Tk,Tt,Tu,Tv,Tw,Ty,Tz,T1,T3,T6,TI,S8,a0,a1,k1,e];all_goals tactic=>exact rfl))
 ·unfold hP;dsimp only; (sym=>(simp[aJ,aI,aK,aL,aR,aF,Za,Zb,Zf,Zh,Zl,Zm,Zv,Z3,ZA,ZG,ZO,ZP,ZT,ZU,Yf,Ys,Yw,Yx,YX,Xr,Xs,W3,W4,W5,WA,WK,WN,WP,WU,WV,Vi,Vj,Vk,V9,VF,VQ,VT,VU,VZ,Ua,Uc,Ud,Ug,Uh,Uu,Uy,U2,U3,U4,U5,U6,Tf,Tg,Tk,Tt,Tu,Tv,Tw,Ty,Tz,T1,T3,T6,TI,S8,a0,a1,k1,e];all_goals tactic=>exact rfl))
include ha in
theorem aLn {d:Nat} (hd:d<34) (hp:0<fl a d):∃ m,m<34∧0<fl a m∧runW aA 66 [.sl 0 (1+a*34) 1 34,.fn (.func 67) [] []] (gN l fl)=some (I (m:Nat),gN l fl):=by
 obtain⟨m,m1,m2,m3⟩:=cH (goE fl a) 34
 have hne:goE fl a d≠0:=by unfold goE;rw[if_pos hp];decide
 rcases m3 with ⟨_,m4⟩|⟨m3,m4,_⟩
 ·exact absurd (dS m4 d hd) hne
 ·have hk:0<fl a m:=by
   unfold goE at m4
   by_cases h:0<fl a m
   ·exact h
   ·rw[if_neg h]at m4;exact absurd rfl m4
  have rd:=fun i (hi:i<m)=>aEP (l:=l) (fl:=fl) ha (show i<34 by omega) (m2 i hi)
  obtain⟨e,hh,q1,q2⟩:=aHG (l:=l) (fl:=fl) ha m3 m4
  refine⟨m,m3,hk,?_⟩
  rw[r66 (by simp)];unfold x66;dsimp only
  sym =>
   simp[aJ,aI,aK,aL,aR,aF,Za,Zb,Zf,Zh,Zl,Zm,Zv,ZF,Ye,Wj,Wo,WB,VO,VY,Ug,Uh,UD,UE,Tu,Ty,Tz,T6,T7,S8]
   tactic =>
    unfold hP
    rw[aD m (fun i=>s66 a i) (fun _=>gN l fl)]
    ·unfold hP at q1
     dsimp only at q1
     rw[q1]
     exact q2
    ·(sym=>(simp[aJ,aI,aK,aL,aR,aF,Za,Y9,YX,Xc,Xd,Xg,Xr,Xw,Xx,X0,WB,WE,WI,WK,WM,WO,WP,WQ,WR,WS,WY,WZ,Vb,Ve,Vf,Vg,VO,VR,VS,VZ,Ua,Ub,Uc,Ud,Ue,Uf,Ux,U2,U3,U4,U5,U6,T5];all_goals tactic=>exact rfl))
    ·exact rd
    ·unfold hP at q1
     dsimp only at q1
     rw[q1]
     rfl
end
def ixE (ks:List Int) (f:Int) (i:Nat):Int:=if f=ks.getD i 0 then 1 else 0
section
variable {ks:List Int} {f:Int} (hl:ks.length<1000000)
abbrev s68 (ks:List Int) (f:Int) (i:Nat):List AV:=[.sl 0 0 1 ks.length,I f,I ks.length,I (i:Nat)]
abbrev g68 (ks:List Int):XH:=[some (.blk true (.cells true (ks.map I)))]
include hl in
theorem aCF {i:Nat} (hi:i<ks.length) (h0:ixE ks f i=0) :
 aV 1 [0,1,7,8] (execW aA 68 1 none (match mH with | .loop _ a=>a|c=>c) (aS [0,1,7,8] (s68 ks f i)) (g68 ks))=some (s68 ks f (i+1),g68 ks):=by
 obtain⟨v,hv⟩:=bK hi
 have a1:=cT hi
 have a0:((0:Int)≤i)=True:=eq_true (by omega)
 have a2:=fD hi (by omega)
 unfold ixE at h0
 rw[aO hv]at h0
 have hne:(f=v)=False:=eq_false (fun h=>by rw[if_pos h]at h0;simp at h0)
 unfold mH
 dsimp only
 (sym=>(simp[Za,Zb,Zf,Zh,Zl,Zm,Zv,Z3,ZA,ZG,Yf,Yj,Yq,Ys,Yw,Yx,YX,Xc,Xr,Xw,W3,W4,W5,WE,WI,WK,WM,WO,WP,WQ,WR,WS,WY,WZ,Ve,Vf,VQ,VR,VS,VT,VU,VV,VZ,Ua,Ud,Ue,Uf,Uj,Uk,Uu,Ux,Uy,Uz,U2,U3,U4,U5,U6,Tf,Tg,Tk,Tt,Tu,Tw,Ty,Tz,T2,T5,T6,T7,TI,TJ,a0,a1,a2,hv,hne];all_goals tactic=>exact rfl))
theorem aJc {i:Nat} (hi:i<ks.length) (h0:ixE ks f i≠0):∃ e h,
 execW aA 68 1 none (match mH with | .loop _ a=>a|c=>c) (aS [0,1,7,8] (s68 ks f i)) (g68 ks)=some (.ret,e,h)∧bD none x68.res x68.ownR 1 (some (.ret,e,h))=some (I (i:Nat),g68 ks):=by
 obtain⟨v,hv⟩:=bK hi
 have a1:=cT hi
 have a0:((0:Int)≤i)=True:=eq_true (by omega)
 unfold ixE at h0
 rw[aO hv]at h0
 have heq:f=v:=by
  by_cases h:f=v
  ·exact h
  ·rw[if_neg h]at h0;exact absurd rfl h0
 have hne:(f=v)=True:=eq_true heq
 refine bU ?_ ?_
 ·unfold mH;dsimp only; (sym=>(simp[Za,Zb,Zf,Zh,Zl,Zm,Zv,Z3,ZA,ZG,Yf,Yq,Ys,Yw,Yx,W3,W4,W5,VQ,VT,VU,VX,Uj,Uk,Uu,Uy,Tf,Tg,Tk,Tt,Tu,Tv,Tw,Ty,Tz,T1,T3,T6,TI,TJ,a0,a1,hv,hne];all_goals tactic=>exact rfl))
 ·unfold mH;dsimp only; (sym=>(simp[Za,Zb,Zf,Zh,Zl,Zm,Zv,Z3,ZA,ZG,Yf,Yq,Ys,Yw,Yx,W3,W4,W5,V9,VF,VQ,VT,VU,Uj,Uk,Uu,Uy,Tf,Tg,Tk,Tt,Tu,Tv,Tw,Ty,Tz,T1,T3,T6,TI,TJ,a0,a1,hv,hne];all_goals tactic=>exact rfl))
include hl in
theorem w68:(f∉ks∧runW aA 68 [.sl 0 0 1 ks.length,I f] (g68 ks)=some (I (-1),g68 ks))∨(∃ m,ks[m]?=some f∧runW aA 68 [.sl 0 0 1 ks.length,I f] (g68 ks)=some (I (m:Nat),g68 ks)):=by
 have z:=Te (n:=(ks.length:Int))
 obtain⟨m,m1,m2,m3⟩:=cH (ixE ks f) ks.length
 rcases m3 with ⟨rfl,m4⟩|⟨m3,m4,_⟩
 ·left
  have rd:=fun i (hi:i<ks.length)=>aCF hl hi (m2 i hi)
  refine⟨fun hm=>?_,?_⟩
  ·obtain⟨i,hi⟩:=List.getElem?_of_mem hm
   have:=m2 i (eI hi)
   unfold ixE at this
   rw[aO hi,if_pos rfl]at this
   simp at this
  ·rw[r68 (by simp)];unfold x68;dsimp only
   sym =>
    simp[Za,Zb,Zf,Zh,Zl,Zm,Zv,ZF,Ye,We,Wj,WB,VO,VY,Ug,Uh,UD,UE,Tu,Ty,Tz,T6,T7]
    tactic =>
     unfold mH
     rw[aD ks.length (fun i=>s68 ks f i) (fun _=>g68 ks)]
     ·(sym=>(simp[Za,Zb,Zf,Zh,Zl,Zm,Zv,Z3,Ys,YX,Xr,XJ,We,WK,WO,WP,WQ,WR,WS,WY,WZ,Ve,Vf,Vv,V9,VA,VC,VD,VE,VF,VG,VJ,VK,VL,VM,VQ,VT,VV,VZ,Ua,Ud,Ue,Uf,Uz,U2,U3,U4,Te,Tt,Tu,Tv,Tx,Tz,T0,T4,T6,T7,Su,z];all_goals tactic=>exact rfl))
     ·(sym=>(simp[Za,Y9,YX,Xc,Xr,Xw,WB,WE,WI,WK,WM,WO,WP,WQ,WR,WS,WY,WZ,Ve,Vf,VO,VR,VS,VZ,Ua,Ud,Ue,Uf,Ux,U2,U3,U4,U5,U6,T5];all_goals tactic=>exact rfl))
     ·exact rd
     ·(sym=>(simp[Za,Zb,Zf,Zh,Zl,Zm,Z3,Ys,VQ,VT,VV,VW,Uz,Te,Tt,Tu,Tx,Tz,T0,T6,z];all_goals tactic=>exact rfl))
 ·right
  have rd:=fun i (hi:i<m)=>aCF hl (show i<ks.length by omega) (m2 i hi)
  obtain⟨e,hh,q1,q2⟩:=aJc m3 m4
  obtain⟨v,hv⟩:=bK m3
  have heq:f=v:=by
   unfold ixE at m4
   rw[aO hv]at m4
   by_cases h:f=v
   ·exact h
   ·rw[if_neg h]at m4;exact absurd rfl m4
  refine⟨m,by rw[heq];exact hv,?_⟩
  rw[r68 (by simp)];unfold x68;dsimp only
  sym =>
   simp[Za,Zb,Zf,Zh,Zl,Zm,Zv,ZF,Ye,We,Wj,WB,VO,VY,Ug,Uh,UD,UE,Tu,Ty,Tz,T6,T7]
   tactic =>
    unfold mH
    rw[aD m (fun i=>s68 ks f i) (fun _=>g68 ks)]
    ·unfold mH at q1
     dsimp only at q1
     rw[q1]
     exact q2
    ·(sym=>(simp[Za,Y9,YX,Xc,Xr,Xw,WB,WE,WI,WK,WM,WO,WP,WQ,WR,WS,WY,WZ,Ve,Vf,VO,VR,VS,VZ,Ua,Ud,Ue,Uf,Ux,U2,U3,U4,U5,U6,T5];all_goals tactic=>exact rfl))
    ·exact rd
    ·unfold mH at q1
     dsimp only at q1
     rw[q1]
     rfl
end
theorem aLm (f:Int):runW aA 68 [.nilsl,I f] []=some (I (-1),[]):=by
 rw[r68 (by simp)];unfold x68;dsimp only
 sym =>
  simp[Za,Zb,Zf,Zh,Zl,Zm,Zv,ZF,Yc,Y9,We,Wm,WB,VO,VY,Uh,UD,UE,Tu,Ty,Tz,T6,T7]
  tactic =>
   unfold mH
   rw[aD 0 (fun i=>[.fs [],I f,I 0,I 0]) (fun _=>[])]
   ·(sym=>(simp[Za,Zb,Zf,Zh,Zl,Zm,Zv,Z3,Ys,YX,Xr,XJ,We,WK,WO,WP,WR,WS,Vv,V9,VA,VC,VD,VE,VF,VG,VJ,VK,VL,VM,VQ,VT,VV,Ua,Ud,Uf,Uz,U2,U3,U4,Tt,Tu,Tv,Tx,Tz,T0,T4,T6,T7,Su];all_goals tactic=>exact rfl))
   ·(sym=>(simp[Za,YX,Xb,Xr,Xv,WB,WK,WO,WP,WR,WS,VO,VR,VS,VZ,Ua,Ud,Uf,U2,U3,U4,U5,U6,T5];all_goals tactic=>exact rfl))
   ·intro i hi;omega
   ·(sym=>(simp[Za,Zb,Zf,Zh,Zl,Zm,Z3,Ys,VQ,VT,VV,VW,Uz,Tt,Tu,Tx,Tz,T0,T6];all_goals tactic=>exact rfl))
abbrev oR (rows:List (List Int)):AV:=match rows with
 | []=>.nilsl
 | r::rs=>.sl 2 0 1 (rs.length+1)
abbrev oW (rows:List (List Int)) (ks:List Int):AV:=match rows with
 | []=>oS 2 ks
 | r::rs=>oS 3 ks
abbrev gY (l:List AV) (fl:Nat→Nat→Int) (rows:List (List Int)) (ks:List Int):XH:=match rows,ks with
 | [],[]=>[some (.blk false (.cells true (gJ (.pt 1 0) fl))),some (.blk true (.cells true l))]
 | r::rs,[]=>[some (.blk false (.cells true (gJ (.pt 1 0) fl))),some (.blk true (.cells true l)),some (.blk true (.cells true (nL r::rs.map fun w=>nL w)))]
 | [],k::kr=>[some (.blk false (.cells true (gJ (.pt 1 0) fl))),some (.blk true (.cells true l)),some (.blk true (.cells true (I k::kr.map I)))]
 | r::rs,k::kr=>[some (.blk false (.cells true (gJ (.pt 1 0) fl))),some (.blk true (.cells true l)),some (.blk true (.cells true (nL r::rs.map fun w=>nL w))),some (.blk true (.cells true (I k::kr.map I)))]
abbrev s33 (rows:List (List Int)) (ks:List Int) (a n i:Nat):List AV:=[.pt 0 0,oR rows,oW rows ks,I (a:Nat),I (n:Nat),I (i:Nat)]
section
variable {l:List AV} {fl:Nat→Nat→Int} {rows:List (List Int)} {ks:List Int} {a d n i:Nat} (ha:a<33) (hd:d<34) (hf:FlB fl) (hp:0<fl a d)
 (e66:runW aA 66 [.sl 0 (1+a*34) 1 34,.fn (.func 67) [] []] (gN l fl)=some (I (d:Nat),gN l fl))
include ha hd hf hp e66 in
theorem aEk (ho:¬(d<32∧d%2=0)) :
 aV 0 [7,9,10,11,29,30] (execW aA 33 0 none (match iT with | .loop _ a=>a|c=>c) (aS [7,9,10,11,29,30] (s33 rows ks a n i)) (gY l fl rows ks))=some (s33 rows ks d n i,gY l (kA fl a d (fl a d-1)) rows ks):=by
 have hb:=hf a d
 have n0:((a:Int)=33)=False:=eq_false (by omega)
 have v1:((0:Int)≤a)=True:=eq_true (by omega)
 have v2:((a:Int)<34)=True:=eq_true (by omega)
 have v3:((0:Int)≤d)=True:=eq_true (by omega)
 have v4:((d:Int)<34)=True:=eq_true (by omega)
 have k1:=bM (v:=.pt 1 0) (fl:=fl) (a:=a) (b:=d) (by omega) (by omega)
 have s1:=qK (v:=.pt 1 0) (fl:=fl) (a:=a) (b:=d) (n:=fl a d-1) (by omega) (by omega)
 have t1:(1+a*34+d+1≤1157)=True:=eq_true (by omega)
 have t0:(1+a*34+34≤1157)=True:=eq_true (by omega)
 have u:IntKind.i64.wrap (fl a d-1)=fl a d-1:=aE (by omega) (by omega)
 have t3:lE (d:Int) 2=((d/2:Nat):Int):=bX d 2
 have t5:IntKind.i64.wrap ((d/2:Nat):Int)=((d/2:Nat):Int):=aE (by omega) (by omega)
 have t2:lD (d:Int) 2=((d%2:Nat):Int):=bW d 2
 generalize kA fl a d (fl a d-1)=fl2 at *
 by_cases h32:d<32
 ·have c1:((d:Int)<32)=True:=eq_true (by omega)
  have c2:(((d%2:Nat):Int)=0)=False:=eq_false (by omega)
  unfold iT
  dsimp only
  cases rows<;>cases ks
  ·(sym=>(simp[dF,dG,fJ,aJ,aI,aK,aL,aR,aF,Za,Zb,Zc,Zf,Zh,Zi,Zl,Zm,Zn,Zp,Zq,Zv,Zy,Z2,Z3,Z8,Z9,ZC,ZH,ZJ,ZK,ZM,ZN,ZO,ZP,ZT,ZU,ZV,Ya,Yk,Yq,Yr,Ys,Yw,Yx,YO,YV,YX,Xc,Xd,Xe,Xg,Xi,Xr,Xw,Xx,Xy,X0,Wq,Wz,W3,W4,W5,W6,W9,WA,WC,WE,WF,WG,WH,WI,WJ,WK,WL,WM,WN,WO,WP,WQ,WR,WS,WT,WU,WV,WW,WY,WZ,Vb,Vf,Vg,Vi,Vj,Vk,Vl,Vm,VQ,VR,VS,VT,VU,VV,VZ,Ua,Ub,Uc,Ud,Uf,Ug,Uh,Uk,Um,Ur,Us,Uu,Ux,Uy,Uz,U0,U1,U2,U3,U4,U5,U6,U7,U8,UN,Tf,Tg,Tk,Tl,Tm,Tt,Tu,Tw,Ty,Tz,T2,T5,T6,T7,T8,T9,TA,TB,TI,TK,TU,Ss,S8,n0,v1,v2,v3,v4,k1,s1,t1,t0,u,t3,t5,t2,c1,c2,e66];all_goals tactic=>exact rfl))
  ·(sym=>(simp[dF,dG,fJ,aJ,aI,aK,aL,aR,aF,Za,Zb,Zc,Zf,Zh,Zi,Zl,Zm,Zn,Zp,Zq,Zv,Zy,Z2,Z3,Z8,Z9,ZC,ZH,ZJ,ZK,ZM,ZN,ZO,ZP,ZT,ZU,ZV,Ya,Yk,Yq,Yr,Ys,Yw,Yx,YO,YV,YX,Xc,Xd,Xe,Xg,Xi,Xr,Xw,Xx,Xy,X0,Wq,Wz,W3,W4,W5,W6,W9,WA,WC,WE,WF,WG,WH,WI,WJ,WK,WL,WM,WN,WO,WP,WQ,WR,WS,WT,WU,WV,WW,WY,WZ,Vb,Vf,Vg,Vi,Vj,Vk,Vl,Vm,VQ,VR,VS,VT,VU,VV,VZ,Ua,Ub,Uc,Ud,Uf,Ug,Uh,Uk,Um,Ur,Us,Uu,Ux,Uy,Uz,U0,U1,U2,U3,U4,U5,U6,U7,U8,UN,Tf,Tg,Tk,Tl,Tm,Tt,Tu,Tw,Ty,Tz,T2,T5,T6,T7,T8,T9,TA,TB,TI,TK,TV,Ss,S8,n0,v1,v2,v3,v4,k1,s1,t1,t0,u,t3,t5,t2,c1,c2,e66];all_goals tactic=>exact rfl))
  ·(sym=>(simp[dF,dG,fJ,aJ,aI,aK,aL,aR,aF,Za,Zb,Zc,Zf,Zh,Zi,Zl,Zm,Zn,Zp,Zq,Zv,Zy,Z2,Z3,Z8,Z9,ZC,ZH,ZJ,ZK,ZM,ZN,ZO,ZP,ZT,ZU,ZV,Ya,Yk,Yq,Yr,Ys,Yw,Yx,YO,YV,YX,Xc,Xd,Xe,Xg,Xi,Xr,Xw,Xx,Xy,X0,Wq,Wz,W3,W4,W5,W6,W9,WA,WC,WE,WF,WG,WH,WI,WJ,WK,WL,WM,WN,WO,WP,WQ,WR,WS,WT,WU,WV,WW,WY,WZ,Vb,Vf,Vg,Vi,Vj,Vk,Vl,Vm,VQ,VR,VS,VT,VU,VV,VZ,Ua,Ub,Uc,Ud,Uf,Ug,Uh,Uk,Um,Ur,Us,Uu,Ux,Uy,Uz,U0,U1,U2,U3,U4,U5,U6,U7,U8,UN,Tf,Tg,Tk,Tl,Tm,Tt,Tu,Tw,Ty,Tz,T2,T5,T6,T7,T8,T9,TA,TB,TI,TK,TU,Ss,S8,n0,v1,v2,v3,v4,k1,s1,t1,t0,u,t3,t5,t2,c1,c2,e66];all_goals tactic=>exact rfl))
  ·(sym=>(simp[dF,dG,fJ,aJ,aI,aK,aL,aR,aF,Za,Zb,Zc,Zf,Zh,Zi,Zl,Zm,Zn,Zp,Zq,Zv,Zy,Z2,Z3,Z8,Z9,ZC,ZH,ZJ,ZK,ZM,ZN,ZO,ZP,ZT,ZU,ZV,Ya,Yk,Yq,Yr,Ys,Yw,Yx,YO,YV,YX,Xc,Xd,Xg,Xi,Xr,Xw,Xx,X0,Wq,Wz,W3,W4,W5,W6,W9,WA,WC,WE,WF,WG,WH,WI,WJ,WK,WL,WM,WN,WO,WP,WQ,WR,WS,WT,WU,WV,WW,WY,WZ,Vb,Vf,Vg,Vi,Vj,Vk,Vl,Vm,VQ,VR,VS,VT,VU,VV,VZ,Ua,Ub,Uc,Ud,Uf,Ug,Uh,Uk,Um,Ur,Us,Uu,Ux,Uy,Uz,U0,U1,U2,U3,U4,U5,U6,U7,U8,UN,Tf,Tg,Tk,Tl,Tm,Tt,Tu,Tw,Ty,Tz,T2,T5,T6,T7,T8,T9,TA,TB,TI,TK,TV,Ss,S8,n0,v1,v2,v3,v4,k1,s1,t1,t0,u,t3,t5,t2,c1,c2,e66];all_goals tactic=>exact rfl))
 ·have c1:((d:Int)<32)=False:=eq_false (by omega)
  unfold iT
  dsimp only
  cases rows<;>cases ks
  ·(sym=>(simp[dF,dG,fJ,aJ,aI,aK,aL,aR,aF,Za,Zb,Zc,Zf,Zh,Zi,Zl,Zm,Zn,Zp,Zs,Zv,Zy,Z2,Z3,Z8,Z9,ZC,ZH,ZJ,ZK,ZM,ZN,ZO,ZP,ZT,ZU,ZW,Ya,Yk,Yr,Ys,Yw,Yx,YO,YV,YX,Xc,Xd,Xe,Xg,Xi,Xr,Xw,Xx,Xy,X0,Wq,Wz,W3,W4,W5,W6,W9,WA,WC,WE,WF,WG,WH,WI,WJ,WK,WL,WM,WN,WO,WP,WQ,WR,WS,WT,WU,WV,WW,WY,WZ,Vb,Vf,Vg,Vi,Vj,Vk,Vl,Vm,VQ,VR,VS,VT,VU,VV,VZ,Ua,Ub,Uc,Ud,Uf,Ug,Uh,Uk,Um,Ur,Us,Uu,Ux,Uz,U0,U1,U2,U3,U4,U5,U6,U7,U8,UN,Tf,Tg,Tk,Tl,Tm,Tt,Tu,Tw,Ty,Tz,T2,T5,T6,T7,T8,T9,TA,TB,TI,TK,TU,Ss,S8,n0,v1,v2,v3,v4,k1,s1,t1,t0,u,t3,t5,t2,c1,e66];all_goals tactic=>exact rfl))
  ·(sym=>(simp[dF,dG,fJ,aJ,aI,aK,aL,aR,aF,Za,Zb,Zc,Zf,Zh,Zi,Zl,Zm,Zn,Zp,Zs,Zv,Zy,Z2,Z3,Z8,Z9,ZC,ZH,ZJ,ZK,ZM,ZN,ZO,ZP,ZT,ZU,ZW,Ya,Yk,Yr,Ys,Yw,Yx,YO,YV,YX,Xc,Xd,Xe,Xg,Xi,Xr,Xw,Xx,Xy,X0,Wq,Wz,W3,W4,W5,W6,W9,WA,WC,WE,WF,WG,WH,WI,WJ,WK,WL,WM,WN,WO,WP,WQ,WR,WS,WT,WU,WV,WW,WY,WZ,Vb,Vf,Vg,Vi,Vj,Vk,Vl,Vm,VQ,VR,VS,VT,VU,VV,VZ,Ua,Ub,Uc,Ud,Uf,Ug,Uh,Uk,Um,Ur,Us,Uu,Ux,Uz,U0,U1,U2,U3,U4,U5,U6,U7,U8,UN,Tf,Tg,Tk,Tl,Tm,Tt,Tu,Tw,Ty,Tz,T2,T5,T6,T7,T8,T9,TA,TB,TI,TK,TV,Ss,S8,n0,v1,v2,v3,v4,k1,s1,t1,t0,u,t3,t5,t2,c1,e66];all_goals tactic=>exact rfl))
  ·(sym=>(simp[dF,dG,fJ,aJ,aI,aK,aL,aR,aF,Za,Zb,Zc,Zf,Zh,Zi,Zl,Zm,Zn,Zp,Zs,Zv,Zy,Z2,Z3,Z8,Z9,ZC,ZH,ZJ,ZK,ZM,ZN,ZO,ZP,ZT,ZU,ZW,Ya,Yk,Yr,Ys,Yw,Yx,YO,YV,YX,Xc,Xd,Xe,Xg,Xi,Xr,Xw,Xx,Xy,X0,Wq,Wz,W3,W4,W5,W6,W9,WA,WC,WE,WF,WG,WH,WI,WJ,WK,WL,WM,WN,WO,WP,WQ,WR,WS,WT,WU,WV,WW,WY,WZ,Vb,Vf,Vg,Vi,Vj,Vk,Vl,Vm,VQ,VR,VS,VT,VU,VV,VZ,Ua,Ub,Uc,Ud,Uf,Ug,Uh,Uk,Um,Ur,Us,Uu,Ux,Uz,U0,U1,U2,U3,U4,U5,U6,U7,U8,UN,Tf,Tg,Tk,Tl,Tm,Tt,Tu,Tw,Ty,Tz,T2,T5,T6,T7,T8,T9,TA,TB,TI,TK,TU,Ss,S8,n0,v1,v2,v3,v4,k1,s1,t1,t0,u,t3,t5,t2,c1,e66];all_goals tactic=>exact rfl))
  ·(sym=>(simp[dF,dG,fJ,aJ,aI,aK,aL,aR,aF,Za,Zb,Zc,Zf,Zh,Zi,Zl,Zm,Zn,Zp,Zs,Zv,Zy,Z2,Z3,Z8,Z9,ZC,ZH,ZJ,ZK,ZM,ZN,ZO,ZP,ZT,ZU,ZW,Ya,Yk,Yr,Ys,Yw,Yx,YO,YV,YX,Xc,Xd,Xg,Xi,Xr,Xw,Xx,X0,Wq,Wz,W3,W4,W5,W6,W9,WA,WC,WE,WF,WG,WH,WI,WJ,WK,WL,WM,WN,WO,WP,WQ,WR,WS,WT,WU,WV,WW,WY,WZ,Vb,Vf,Vg,Vi,Vj,Vk,Vl,Vm,VQ,VR,VS,VT,VU,VV,VZ,Ua,Ub,Uc,Ud,Uf,Ug,Uh,Uk,Um,Ur,Us,Uu,Ux,Uz,U0,U1,U2,U3,U4,U5,U6,U7,U8,UN,Tf,Tg,Tk,Tl,Tm,Tt,Tu,Tw,Ty,Tz,T2,T5,T6,T7,T8,T9,TA,TB,TI,TK,TV,Ss,S8,n0,v1,v2,v3,v4,k1,s1,t1,t0,u,t3,t5,t2,c1,e66];all_goals tactic=>exact rfl))
end
section
variable {l:List AV} {fl:Nat→Nat→Int} {rows:List (List Int)} {ks:List Int} {a d n i:Nat} (ha:a<33) (hd:d<32) (hde:d%2=0) (hf:FlB fl) (hp:0<fl a d) (hl:ks.length<1000)
 (e66:runW aA 66 [.sl 0 (1+a*34) 1 34,.fn (.func 67) [] []] (gN l fl)=some (I (d:Nat),gN l fl))
include ha hd hde hf hp e66 hl in
theorem aEl (hn:((d/2:Nat):Int)∉ks) :
 aV 0 [7,9,10,11,29,30] (execW aA 33 0 none (match iT with | .loop _ a=>a|c=>c) (aS [7,9,10,11,29,30] (s33 rows ks a n i)) (gY l fl rows ks))=some (s33 rows (ks++[((d/2:Nat):Int)]) d n i,gY l (kA fl a d (fl a d-1)) rows (ks++[((d/2:Nat):Int)])):=by
 have hb:=hf a d
 have n0:((a:Int)=33)=False:=eq_false (by omega)
 have v1:((0:Int)≤a)=True:=eq_true (by omega)
 have v2:((a:Int)<34)=True:=eq_true (by omega)
 have v3:((0:Int)≤d)=True:=eq_true (by omega)
 have v4:((d:Int)<34)=True:=eq_true (by omega)
 have k1:=bM (v:=.pt 1 0) (fl:=fl) (a:=a) (b:=d) (by omega) (by omega)
 have s1:=qK (v:=.pt 1 0) (fl:=fl) (a:=a) (b:=d) (n:=fl a d-1) (by omega) (by omega)
 have t1:(1+a*34+d+1≤1157)=True:=eq_true (by omega)
 have t0:(1+a*34+34≤1157)=True:=eq_true (by omega)
 have u:IntKind.i64.wrap (fl a d-1)=fl a d-1:=aE (by omega) (by omega)
 have t3:lE (d:Int) 2=((d/2:Nat):Int):=bX d 2
 have t5:IntKind.i64.wrap ((d/2:Nat):Int)=((d/2:Nat):Int):=aE (by omega) (by omega)
 have t2:lD (d:Int) 2=((d%2:Nat):Int):=bW d 2
 have c1:((d:Int)<32)=True:=eq_true (by omega)
 have c2:(((d%2:Nat):Int)=0)=True:=eq_true (by omega)
 have e0:=aLm ((d/2:Nat):Int)
 have e1:runW aA 68 [.sl 0 0 1 ks.length,I ((d/2:Nat):Int)] (g68 ks)=some (I (-1),g68 ks):=by
  rcases w68 (ks:=ks) (f:=((d/2:Nat):Int)) (by omega)with h|⟨m,h,_⟩
  ·exact h.2
  ·exact absurd (List.mem_of_getElem? h) hn
 generalize kA fl a d (fl a d-1)=fl2 at *
 generalize d/2=f at *
 unfold iT
 dsimp only
 cases ks with
 | nil =>
   cases rows
   ·(sym=>(simp[dF,dG,fJ,aJ,aI,aK,aL,aR,aF,Za,Zb,Zc,Zd,Ze,Zf,Zg,Zh,Zi,Zj,Zl,Zm,Zn,Zo,Zp,Zq,Zv,Zy,Z1,Z2,Z3,Z8,Z9,ZC,ZH,ZJ,ZK,ZM,ZN,ZO,ZP,ZS,ZT,ZU,ZV,Ya,Yk,Yq,Yr,Ys,Yv,Yw,Yx,YO,YV,YX,Xc,Xd,Xe,Xg,Xi,Xr,Xw,Xx,Xy,X0,XW,Wq,Wz,W3,W4,W5,W6,W7,W8,W9,WA,WC,WE,WF,WG,WH,WI,WJ,WK,WL,WM,WN,WO,WP,WQ,WR,WS,WT,WU,WV,WW,WY,WZ,Vb,Vf,Vg,Vi,Vj,Vk,Vl,Vm,Vv,Vx,Vy,Vz,VP,VQ,VR,VS,VT,VU,VV,VZ,Ua,Ub,Uc,Ud,Uf,Ug,Uh,Uk,Um,Ur,Us,Uu,Ux,Uy,Uz,U0,U1,U2,U3,U4,U5,U6,U7,U8,UF,UG,UH,UI,UN,UU,UV,UW,UX,UY,UZ,Ta,Tb,Tf,Tg,Tk,Tl,Tm,Tn,Tq,Tr,Ts,Tt,Tu,Tw,Ty,Tz,T2,T5,T6,T7,T8,T9,TA,TB,TI,TK,TP,TU,TV,Ss,Su,S8,SB,SC,SE,SF,SG,SI,SL,n0,v1,v2,v3,v4,k1,s1,t1,t0,u,t3,t5,t2,c1,c2,e66,e0];all_goals tactic=>exact rfl))
   ·(sym=>(simp[dF,dG,fJ,aJ,aI,aK,aL,aR,aF,Za,Zb,Zc,Zd,Ze,Zf,Zg,Zh,Zi,Zj,Zl,Zm,Zn,Zo,Zp,Zq,Zv,Zy,Z1,Z2,Z3,Z8,Z9,ZC,ZH,ZJ,ZK,ZM,ZN,ZO,ZP,ZS,ZT,ZU,ZV,Ya,Yk,Yq,Yr,Ys,Yv,Yw,Yx,YO,YV,YX,Xc,Xd,Xe,Xg,Xi,Xr,Xw,Xx,Xy,X0,XW,Wq,Wz,W3,W4,W5,W6,W7,W8,W9,WA,WC,WE,WF,WG,WH,WI,WJ,WK,WL,WM,WN,WO,WP,WQ,WR,WS,WT,WU,WV,WW,WY,WZ,Vb,Vf,Vg,Vi,Vj,Vk,Vl,Vm,Vv,Vx,Vy,Vz,VP,VQ,VR,VS,VT,VU,VV,VZ,Ua,Ub,Uc,Ud,Uf,Ug,Uh,Uk,Um,Ur,Us,Uu,Ux,Uy,Uz,U0,U1,U2,U3,U4,U5,U6,U7,U8,UF,UG,UH,UI,UN,UU,UV,UW,UX,UY,UZ,Ta,Tb,Tf,Tg,Tk,Tl,Tm,Tn,Tq,Tr,Ts,Tt,Tu,Tw,Ty,Tz,T2,T5,T6,T7,T8,T9,TA,TB,TI,TK,TP,TU,TV,Ss,Su,S8,SB,SC,SE,SF,SG,SI,SL,n0,v1,v2,v3,v4,k1,s1,t1,t0,u,t3,t5,t2,c1,c2,e66,e0];all_goals tactic=>exact rfl))
 | cons k kr =>
   have e1:runW aA 68 [.sl 0 0 1 (kr.length+1),I (f:Nat)] [some (.blk true (.cells true (I k::kr.map I)))]=some (I (-1),[some (.blk true (.cells true (I k::kr.map I)))]):=e1
   have b1:((kr.length+1+1)*8≤1099511627776)=True:=eq_true (by simp at hl;omega)
   have b2:(kr.length+1+1≤1099511627776)=True:=eq_true (by simp at hl;omega)
   have tk:List.take (kr.length+1-1) (kr.map I)=kr.map I:=List.take_of_length_le (by simp)
   cases rows
   ·(sym=>(simp[dF,dG,fJ,aJ,aI,aK,aL,aR,aF,Za,Zb,Zc,Zd,Ze,Zf,Zg,Zh,Zi,Zj,Zl,Zm,Zn,Zo,Zp,Zq,Zv,Zy,Z1,Z2,Z3,Z8,Z9,ZC,ZH,ZJ,ZK,ZM,ZN,ZO,ZP,ZS,ZT,ZU,ZV,Ya,Yk,Yq,Yr,Ys,Yv,Yw,Yx,YO,YV,YX,Xc,Xd,Xe,Xg,Xi,Xr,Xw,Xx,Xy,X0,XW,Wq,Wz,W3,W4,W5,W6,W7,W8,W9,WA,WC,WE,WF,WG,WH,WI,WJ,WK,WL,WM,WN,WO,WP,WQ,WR,WS,WT,WU,WV,WW,WY,WZ,Vb,Vf,Vg,Vi,Vj,Vk,Vl,Vm,Vv,Vx,Vy,Vz,VP,VQ,VR,VS,VT,VU,VV,VZ,Ua,Ub,Uc,Ud,Uf,Ug,Uh,Ui,Uk,Um,Ur,Us,Uu,Ux,Uy,Uz,U0,U1,U2,U3,U4,U5,U6,U7,U8,UF,UG,UH,UI,UN,UU,UV,UW,UX,UY,UZ,Ta,Tc,Td,Tf,Tg,Tk,Tl,Tm,Tn,Tp,Tq,Tr,Tt,Tu,Tw,Ty,Tz,T2,T5,T6,T7,T8,T9,TA,TB,TG,TH,TI,TK,TP,TV,TX,Ss,Su,S8,SB,SC,SE,SF,SG,SI,SJ,SK,n0,v1,v2,v3,v4,k1,s1,t1,t0,u,t3,t5,t2,c1,c2,e66,e1,b1,b2,tk];all_goals tactic=>exact rfl))
   ·(sym=>(simp[dF,dG,fJ,aJ,aI,aK,aL,aR,aF,Za,Zb,Zc,Zd,Ze,Zf,Zg,Zh,Zi,Zj,Zl,Zm,Zn,Zo,Zp,Zq,Zv,Zy,Z1,Z2,Z3,Z8,Z9,ZC,ZH,ZJ,ZK,ZM,ZN,ZO,ZP,ZS,ZT,ZU,ZV,Ya,Yk,Yq,Yr,Ys,Yv,Yw,Yx,YO,YV,YX,Xc,Xd,Xg,Xi,Xr,Xw,Xx,X0,XW,Wq,Wz,W3,W4,W5,W6,W7,W8,W9,WA,WC,WE,WF,WG,WH,WI,WJ,WK,WL,WM,WN,WO,WP,WQ,WR,WS,WT,WU,WV,WW,WY,WZ,Vb,Vf,Vg,Vi,Vj,Vk,Vl,Vm,Vv,Vx,Vy,Vz,VP,VQ,VR,VS,VT,VU,VV,VZ,Ua,Ub,Uc,Ud,Uf,Ug,Uh,Ui,Uk,Um,Ur,Us,Uu,Ux,Uy,Uz,U0,U1,U2,U3,U4,U5,U6,U7,U8,UF,UG,UH,UI,UN,UU,UV,UW,UX,UY,UZ,Ta,Tc,Td,Tf,Tg,Tk,Tl,Tm,Tn,Tp,Tq,Tr,Tt,Tu,Tw,Ty,Tz,T2,T5,T6,T7,T8,T9,TA,TB,TG,TH,TI,TK,TP,TV,TX,Ss,Su,S8,SB,SC,SE,SF,SG,SI,SJ,SK,n0,v1,v2,v3,v4,k1,s1,t1,t0,u,t3,t5,t2,c1,c2,e66,e1,b1,b2,tk];all_goals tactic=>exact rfl))
include ha hd hde hf hp e66 hl in
theorem aDm {m:Nat} (hm:ks[m]?=some ((d/2:Nat):Int)) (e1:runW aA 68 [.sl 0 0 1 ks.length,I ((d/2:Nat):Int)] (g68 ks)=some (I (m:Nat),g68 ks)) :
 aV 0 [7,9,10,11,29,30] (execW aA 33 0 none (match iT with | .loop _ a=>a|c=>c) (aS [7,9,10,11,29,30] (s33 rows ks a n i)) (gY l fl rows ks))=some (s33 rows (ks.take (m+1)) d n i,gY l (kA fl a d (fl a d-1)) rows (ks.take (m+1))):=by
 have hb:=hf a d
 have hml:=eI hm
 have n0:((a:Int)=33)=False:=eq_false (by omega)
 have v1:((0:Int)≤a)=True:=eq_true (by omega)
 have v2:((a:Int)<34)=True:=eq_true (by omega)
 have v3:((0:Int)≤d)=True:=eq_true (by omega)
 have v4:((d:Int)<34)=True:=eq_true (by omega)
 have k1:=bM (v:=.pt 1 0) (fl:=fl) (a:=a) (b:=d) (by omega) (by omega)
 have s1:=qK (v:=.pt 1 0) (fl:=fl) (a:=a) (b:=d) (n:=fl a d-1) (by omega) (by omega)
 have t1:(1+a*34+d+1≤1157)=True:=eq_true (by omega)
 have t0:(1+a*34+34≤1157)=True:=eq_true (by omega)
 have u:IntKind.i64.wrap (fl a d-1)=fl a d-1:=aE (by omega) (by omega)
 have t3:lE (d:Int) 2=((d/2:Nat):Int):=bX d 2
 have t5:IntKind.i64.wrap ((d/2:Nat):Int)=((d/2:Nat):Int):=aE (by omega) (by omega)
 have t2:lD (d:Int) 2=((d%2:Nat):Int):=bW d 2
 have c1:((d:Int)<32)=True:=eq_true (by omega)
 have c2:(((d%2:Nat):Int)=0)=True:=eq_true (by omega)
 generalize kA fl a d (fl a d-1)=fl2 at *
 generalize d/2=f at *
 cases ks with
 | nil=>simp at hm
 | cons k kr =>
   have e1:runW aA 68 [.sl 0 0 1 (kr.length+1),I (f:Nat)] [some (.blk true (.cells true (I k::kr.map I)))]=some (I (m:Nat),[some (.blk true (.cells true (I k::kr.map I)))]):=e1
   by_cases hm0:m=0
   ·subst hm0
    have hkf:k=(f:Int):=by simpa using hm
    subst hkf
    have e1:runW aA 68 [.sl 0 0 1 (kr.length+1),I (f:Nat)] [some (.blk true (.cells true (I (f:Nat)::kr.map I)))]=some (I 0,[some (.blk true (.cells true (I (f:Nat)::kr.map I)))]):=e1
    unfold iT
    dsimp only
    cases rows
    ·(sym=>(simp[dF,dG,fJ,aJ,aI,aK,aL,aR,aF,Za,Zb,Zc,Zd,Ze,Zf,Zg,Zh,Zi,Zj,Zl,Zm,Zn,Zo,Zp,Zq,Zv,Zy,Z1,Z2,Z3,Z8,Z9,ZC,ZD,ZH,ZJ,ZK,ZM,ZN,ZO,ZP,ZS,ZT,ZU,ZV,Ya,Yk,Yq,Yr,Ys,Yv,Yw,Yx,Y8,YO,YV,YX,Xc,Xd,Xe,Xg,Xi,Xr,Xw,Xx,Xy,X0,XW,Wq,Wz,W3,W4,W5,W6,W7,W8,W9,WA,WC,WE,WF,WG,WH,WI,WJ,WK,WL,WM,WN,WO,WP,WQ,WR,WS,WT,WU,WV,WW,WY,WZ,Vb,Vf,Vg,Vi,Vj,Vk,Vl,Vm,Vv,Vx,Vy,Vz,VP,VQ,VR,VS,VT,VU,VZ,Ua,Ub,Uc,Ud,Uf,Ug,Uh,Uk,Um,Ur,Us,Uu,Ux,Uy,Uz,U0,U1,U2,U3,U4,U5,U6,U7,U8,UF,UG,UH,UI,UN,UO,UP,UU,UV,UW,UX,UY,UZ,Ta,Tc,Td,Tf,Tg,Tk,Tl,Tm,Tn,Tp,Tq,Tr,Tt,Tu,Tw,Ty,Tz,T2,T5,T6,T7,T8,T9,TA,TB,TC,TD,TE,TF,TI,TK,TP,TV,Ss,Su,S8,SB,SC,SE,SF,SG,SI,SJ,SK,n0,v1,v2,v3,v4,k1,s1,t1,t0,u,t3,t5,t2,c1,c2,e66,e1];all_goals tactic=>exact rfl))
    ·(sym=>(simp[dF,dG,fJ,aJ,aI,aK,aL,aR,aF,Za,Zb,Zc,Zd,Ze,Zf,Zg,Zh,Zi,Zj,Zl,Zm,Zn,Zo,Zp,Zq,Zv,Zy,Z1,Z2,Z3,Z8,Z9,ZC,ZD,ZH,ZJ,ZK,ZM,ZN,ZO,ZP,ZS,ZT,ZU,ZV,Ya,Yk,Yq,Yr,Ys,Yv,Yw,Yx,Y8,YO,YV,YX,Xc,Xd,Xg,Xi,Xr,Xw,Xx,X0,XW,Wq,Wz,W3,W4,W5,W6,W7,W8,W9,WA,WC,WE,WF,WG,WH,WI,WJ,WK,WL,WM,WN,WO,WP,WQ,WR,WS,WT,WU,WV,WW,WY,WZ,Vb,Vf,Vg,Vi,Vj,Vk,Vl,Vm,Vv,Vx,Vy,Vz,VP,VQ,VR,VS,VT,VU,VZ,Ua,Ub,Uc,Ud,Uf,Ug,Uh,Uk,Um,Ur,Us,Uu,Ux,Uy,Uz,U0,U1,U2,U3,U4,U5,U6,U7,U8,UF,UG,UH,UI,UN,UO,UP,UU,UV,UW,UX,UY,UZ,Ta,Tc,Td,Tf,Tg,Tk,Tl,Tm,Tn,Tp,Tq,Tr,Tt,Tu,Tw,Ty,Tz,T2,T5,T6,T7,T8,T9,TA,TB,TC,TD,TE,TF,TI,TK,TP,TV,Ss,Su,S8,SB,SC,SE,SF,SG,SI,SJ,SK,n0,v1,v2,v3,v4,k1,s1,t1,t0,u,t3,t5,t2,c1,c2,e66,e1];all_goals tactic=>exact rfl))
   ·have c3:((0:Int)≤(m:Int))=True:=eq_true (by omega)
    have hml2:m<kr.length+1:=by simpa using hml
    have c4:((m:Int)≤((kr.length+1:Nat):Int))=True:=eq_true (by omega)
    have c5:(0<m)=True:=eq_true (by omega)
    have b1:((m+1)*8≤1099511627776)=True:=eq_true (by simp at hl;omega)
    have b2:(m+1≤1099511627776)=True:=eq_true (by simp at hl;omega)
    rw[show (k::kr).take (m+1)=k::kr.take m from rfl]
    have lk:(kr.take m).length=m:=by rw[List.length_take];omega
    have b3:(m≤kr.length+1)=True:=eq_true (by omega)
    have c6:(m=0)=False:=eq_false hm0
    have l2:(List.take (m-1) (kr.map I)).length=m-1:=by rw[List.length_take,List.length_map];omega
    have c7:(m=m-1+1)=True:=eq_true (by omega)
    have hkm:kr[m-1]?=some (f:Int):=by
     obtain⟨p,rfl⟩:∃ p,m=p+1:=⟨m-1,by omega⟩
     simpa using hm
    have tk:List.take (m-1) (kr.map I)++[I f]=(kr.take m).map I:=by
     obtain⟨p,rfl⟩:∃ p,m=p+1:=⟨m-1,by omega⟩
     have hkm:kr[p]?=some (f:Int):=hkm
     show List.take p (kr.map I)++[I f]=(kr.take (p+1)).map I
     rw[List.take_add_one,hkm,List.map_append,List.map_take];rfl
    unfold iT
    dsimp only
    cases rows
    ·(sym=>(simp[dF,dG,fJ,aJ,aI,aK,aL,aR,aF,Za,Zb,Zc,Zd,Ze,Zf,Zg,Zh,Zi,Zj,Zl,Zm,Zn,Zo,Zp,Zq,Zv,Zy,Z1,Z2,Z3,Z8,Z9,ZC,ZD,ZH,ZJ,ZK,ZM,ZN,ZO,ZP,ZS,ZT,ZU,ZV,Ya,Yk,Yq,Yr,Ys,Yv,Yw,Yx,YO,YV,YX,Xc,Xd,Xe,Xg,Xi,Xr,Xw,Xx,Xy,X0,XW,Wq,Wz,W3,W4,W5,W6,W7,W8,W9,WA,WC,WE,WF,WG,WH,WI,WJ,WK,WL,WM,WN,WO,WP,WQ,WR,WS,WT,WU,WV,WW,WY,WZ,Vb,Vf,Vg,Vi,Vj,Vk,Vl,Vm,Vv,Vx,Vy,Vz,VP,VQ,VR,VS,VT,VU,VZ,Ua,Ub,Uc,Ud,Uf,Ug,Uh,Uk,Um,Ur,Us,Uu,Ux,Uy,Uz,U0,U1,U2,U3,U4,U5,U6,U7,U8,UF,UG,UH,UI,UN,UO,UP,UU,UV,UW,UX,UY,UZ,Ta,Tc,Td,Tf,Tg,Tk,Tl,Tm,Tn,Tp,Tq,Tr,Tt,Tu,Tw,Ty,Tz,T2,T5,T6,T7,T8,T9,TA,TB,TC,TD,TE,TF,TI,TK,TM,TP,TV,Ss,Su,S8,SB,SC,SE,SF,SG,SI,SJ,SK,n0,v1,v2,v3,v4,k1,s1,t1,t0,u,t3,t5,t2,c1,c2,c3,c4,c5,c6,c7,e66,e1,b1,b2,b3,lk,l2,tk];all_goals tactic=>exact rfl))
    ·(sym=>(simp[dF,dG,fJ,aJ,aI,aK,aL,aR,aF,Za,Zb,Zc,Zd,Ze,Zf,Zg,Zh,Zi,Zj,Zl,Zm,Zn,Zo,Zp,Zq,Zv,Zy,Z1,Z2,Z3,Z8,Z9,ZC,ZD,ZH,ZJ,ZK,ZM,ZN,ZO,ZP,ZS,ZT,ZU,ZV,Ya,Yk,Yq,Yr,Ys,Yv,Yw,Yx,YO,YV,YX,Xc,Xd,Xg,Xi,Xr,Xw,Xx,X0,XW,Wq,Wz,W3,W4,W5,W6,W7,W8,W9,WA,WC,WE,WF,WG,WH,WI,WJ,WK,WL,WM,WN,WO,WP,WQ,WR,WS,WT,WU,WV,WW,WY,WZ,Vb,Vf,Vg,Vi,Vj,Vk,Vl,Vm,Vv,Vx,Vy,Vz,VP,VQ,VR,VS,VT,VU,VZ,Ua,Ub,Uc,Ud,Uf,Ug,Uh,Uk,Um,Ur,Us,Uu,Ux,Uy,Uz,U0,U1,U2,U3,U4,U5,U6,U7,U8,UF,UG,UH,UI,UN,UO,UP,UU,UV,UW,UX,UY,UZ,Ta,Tc,Td,Tf,Tg,Tk,Tl,Tm,Tn,Tp,Tq,Tr,Tt,Tu,Tw,Ty,Tz,T2,T5,T6,T7,T8,T9,TA,TB,TC,TD,TE,TF,TI,TK,TM,TP,TV,Ss,Su,S8,SB,SC,SE,SF,SG,SI,SJ,SK,n0,v1,v2,v3,v4,k1,s1,t1,t0,u,t3,t5,t2,c1,c2,c3,c4,c5,c6,c7,e66,e1,b1,b2,b3,lk,l2,tk];all_goals tactic=>exact rfl))
end
end Go.Proofs.YtiabjdfdkiijmaaDoor
namespace Go.Proofs.YtiabjdfdkiijmaaDoor
abbrev wZ (fl:Nat→Nat→Int) (a d:Nat):Nat→Nat→Int:=kA fl a d (fl a d-1)
theorem kI (fl:Nat→Nat→Int) (a d c e:Nat):wZ fl a d c e=fl c e-(if c=a∧e=d then 1 else 0):=by
 unfold wZ kA
 split
 ·next h=>obtain⟨rfl,rfl⟩:=h;rfl
 ·omega
theorem aJz {fl:Nat→Nat→Int} {a d:Nat} (had:a≠d) (ha:a<34) (hd:d<34) (c:Nat):ex (wZ fl a d) c=ex fl c-(if c=a then 1 else 0)+(if c=d then 1 else 0):=by
 unfold ex
 rw[cO 34 (g:=fun e=>(oT fl c e + - (if c=a∧e=d then 1 else 0))+(if c=d∧e=a then 1 else 0)) (fun e _=>by
  unfold oT
  rw[kI,kI]
  have:(if e=a∧c=d then (1:Int) else 0)=if c=d∧e=a then 1 else 0:=by
   by_cases h:c=d∧e=a
   ·rw[if_pos h,if_pos ⟨h.2,h.1⟩]
   ·rw[if_neg h,if_neg (fun q=>h ⟨q.2,q.1⟩)]
  rw[this];omega)]
 rw[fI,fI,jE]
 rw[gD (f:=fun e=>if c=a∧e=d then 1 else 0) (a:=d) (fun k hk=>if_neg (by omega)),gD (f:=fun e=>if c=d∧e=a then 1 else 0) (a:=a) (fun k hk=>if_neg (by omega))]
 rw[if_pos hd,if_pos ha]
 have e1:(if c=a∧d=d then (1:Int) else 0)=if c=a then 1 else 0:=by simp
 have e2:(if c=d∧a=a then (1:Int) else 0)=if c=d then 1 else 0:=by simp
 have e3:bY (fun e=>oT fl c e) 34=bY (oT fl c) 34:=rfl
 rw[e1,e2,e3];omega
def tot (fl:Nat→Nat→Int):Int:=bY (fun a=>bY (fl a) 34) 34
theorem aGE {fl:Nat→Nat→Int} {a d:Nat} (ha:a<34) (hd:d<34):tot (wZ fl a d)=tot fl-1:=by
 unfold tot
 rw[cO 34 (g:=fun c=>bY (fl c) 34 + - (if c=a then 1 else 0)) (fun c _=>by
  rw[cO 34 (g:=fun e=>fl c e + - (if c=a∧e=d then 1 else 0)) (fun e _=>by rw[kI];omega),fI,jE]
  rw[gD (f:=fun e=>if c=a∧e=d then 1 else 0) (a:=d) (fun k hk=>if_neg (by omega)),if_pos hd]
  have e1:(if c=a∧d=d then (1:Int) else 0)=if c=a then 1 else 0:=by simp
  rw[e1])]
 rw[fI,jE,gD (f:=fun c=>if c=a then 1 else 0) (a:=a) (fun k hk=>if_neg hk),if_pos ha,if_pos rfl]
 omega
theorem aGD {cap fl:Nat→Nat→Int} (h:FlI cap fl):0≤tot fl:=mL 34 fun c _=>mL 34 fun e _=>(h c e).1
theorem nX {st:Nat→Nat} {s nur fix a d:Nat} (h:0<bO st s nur fix a d) :
 (a=32∧d%2=0∧d<32∧s.testBit (d/2)=true)∨(d=33∧a%2=1∧a<32∧nur.testBit (a/2)=true) ∨
 (a<32∧a%2=0∧d=a+1)∨(a<32∧d<32∧a%2=1∧d%2=0∧(st (a/2)).testBit (d/2)=true):=by
 unfold bO at h
 split at h
 ·split at h
  ·next q1 q2=>exact .inl ⟨q1,q2⟩
  ·omega
 ·split at h
  ·split at h
   ·next q1 q2 q3=>exact .inr (.inl ⟨q2,q3⟩)
   ·omega
  ·split at h
   ·omega
   ·split at h
    ·next q1 q2 q3 q4=>exact .inr (.inr (.inl ⟨by omega,q4.1,q4.2⟩))
    ·split at h
     ·next q1 q2 q3 q4 q5=>exact .inr (.inr (.inr ⟨by omega,by omega,q5⟩))
     ·omega
theorem aDX {st:Nat→Nat} {s nur fix f:Nat} (hf:f<16) (hx:fix.testBit f=false):bO st s nur fix (2*f) (2*f+1)=1:=by
 unfold bO
 rw[if_neg (by omega),if_neg (by omega),if_neg (by omega),if_pos ⟨by omega,rfl⟩,show 2*f/2=f by omega,if_neg (by rw[hx];simp)]
structure Wk (st:Nat→Nat) (s nur fix F u r:Nat) (fl:Nat→Nat→Int) (a:Nat) (ks:List Nat):Prop where
 ok:FlI (bO st s nur fix) fl
 ex:∀ c,ex fl c=(if c=32 then (r:Int) else 0)-(if c=33 then (r:Int)+1 else 0)+(if c=a then 1 else 0)
 lt:a<34
 f:∀ k∈ks,k<F
 nd:ks.Nodup
 stp:∀ i k k',ks[i]?=some k→ks[i+1]?=some k'→(st k).testBit k'=true
 fst:∀ k,ks[0]?=some k→s.testBit k=true
 pos:(a=32∧ks=[])∨(a=33∧∃ f,ks.getLast?=some f∧nur.testBit f=true)∨(a<32∧ks.getLast?=some (a/2))
 used:∀ g,u.testBit g=true→fix.testBit g=false→fl (2*g) (2*g+1)=0
 free:∀ k∈ks,fix.testBit k=false→u.testBit k=false
 pass:∀ k∈ks,fix.testBit k=false→a=2*k∨fl (2*k) (2*k+1)=0
section
variable {st:Nat→Nat} {s nur fix F u r:Nat} (hst:∀ k,st k<2^F) (hs:s<2^F) (hF:F≤16) (hu:u<2^F) {fl:Nat→Nat→Int} {a:Nat} {ks:List Nat} (h:Wk st s nur fix F u r fl a ks)
include h in
theorem Wk.next (ha:a≠33):∃ d,d<34∧0<fl a d:=by
 by_cases hd:∃ d,d<34∧0<fl a d
 ·exact hd
 ·exfalso
  have h1:Go.Proofs.YtiabjdfdkiijmaaDoor.ex fl a≤0:=by
   unfold Go.Proofs.YtiabjdfdkiijmaaDoor.ex
   rw[←rK 34]
   refine nN 34 fun e he=>?_
   have:=(h.ok e a).1
   have:¬0<fl a e:=fun q=>hd ⟨e,he,q⟩
   unfold oT;omega
  rw[h.ex]at h1
  rw[if_neg ha,if_pos rfl]at h1
  split at h1<;>omega
include h in
theorem Wk.cap {d:Nat} (hp:0<fl a d):0<bO st s nur fix a d:=by
 have:=(h.ok a d).2
 omega
include h in
theorem Wk.ok' {d:Nat} (hp:0<fl a d):FlI (bO st s nur fix) (wZ fl a d):=by
 intro c e
 have:=h.ok c e
 rw[kI]
 split
 ·next q=>obtain⟨rfl,rfl⟩:=q;omega
 ·omega
include h in
theorem Wk.ex' {d:Nat} (hd:d<34) (hp:0<fl a d) (c:Nat):Go.Proofs.YtiabjdfdkiijmaaDoor.ex (wZ fl a d) c=(if c=32 then (r:Int) else 0)-(if c=33 then (r:Int)+1 else 0)+(if c=d then 1 else 0):=by
 have hne:a≠d:=by
  rcases nX (h.cap hp)with q|q|q|q<;>omega
 rw[aJz hne h.lt hd,h.ex]
 omega
include h in
theorem Wk.odd {d:Nat} (hd:d<34) (hp:0<fl a d) (ho:¬(d<32∧d%2=0)):Wk st s nur fix F u r (wZ fl a d) d ks:=by
 have same:∀ k,a≠2*k→wZ fl a d (2*k) (2*k+1)=fl (2*k) (2*k+1):=fun k hk=>by
  rw[kI,if_neg (by omega)];omega
 rcases nX (h.cap hp)with q|q|q|q
 ·exact absurd ⟨q.2.2.1,q.2.1⟩ ho
 ·refine⟨h.ok' hp,h.ex' hd hp,hd,h.f,h.nd,h.stp,h.fst,?_,?_,h.free,?_⟩
  ·rcases h.pos with p|p|p
   ·omega
   ·omega
   ·exact .inr (.inl ⟨q.1,_,p.2,q.2.2.2⟩)
  ·intro g hg hx
   rw[same g (by omega)];exact h.used g hg hx
  ·intro k hk hx
   rcases h.pass k hk hx with p|p
   ·omega
   ·exact .inr (by rw[same k (by omega)];exact p)
 ·refine⟨h.ok' hp,h.ex' hd hp,hd,h.f,h.nd,h.stp,h.fst,?_,?_,h.free,?_⟩
  ·rcases h.pos with p|p|p
   ·omega
   ·omega
   ·by_cases h33:d=33
    ·omega
    ·exact .inr (.inr ⟨by omega,by rw[show d/2=a/2 by omega];exact p.2⟩)
  ·intro g hg hx
   have:=h.used g hg hx
   by_cases e:a=2*g
   ·rw[show d=2*g+1 by omega,e]at hp;omega
   ·rw[same g e];exact this
  ·intro k hk hx
   right
   by_cases e:a=2*k
   ·have h1:=(h.ok (2*k) (2*k+1)).2
    rw[aDX (by omega) hx]at h1
    rw[kI,if_pos ⟨e.symm,by omega⟩]
    rw[e,show d=2*k+1 by omega]at hp
    omega
   ·rcases h.pass k hk hx with p|p
    ·omega
    ·rw[same k e];exact p
 ·exact absurd ⟨q.2.1,q.2.2.2.1⟩ ho
include hst hs hF h in
theorem Wk.fld {d:Nat} (hp:0<fl a d) (hd:d<32) (hde:d%2=0):d/2<F∧(a=32∧ks=[]∧s.testBit (d/2)=true∨a<32∧a%2=1∧ks.getLast?=some (a/2)∧(st (a/2)).testBit (d/2)=true):=by
 rcases nX (h.cap hp)with q|q|q|q
 ·refine⟨fW hs q.2.2.2,.inl ⟨q.1,?_,q.2.2.2⟩⟩
  rcases h.pos with p|p|p
  ·exact p.2
  ·omega
  ·omega
 ·omega
 ·omega
 ·refine⟨fW (hst _) q.2.2.2.2,.inr ⟨q.1,q.2.2.1,?_,q.2.2.2.2⟩⟩
  rcases h.pos with p|p|p
  ·omega
  ·omega
  ·exact p.2
include hst hs hF h in
theorem Wk.app {d:Nat} (hp:0<fl a d) (hd:d<32) (hde:d%2=0) (hn:d/2∉ks):Wk st s nur fix F u r (wZ fl a d) d (ks++[d/2]):=by
 obtain⟨hfF,hq⟩:=h.fld hst hs hF hp hd hde
 have hao:∀ k,k<16→a≠2*k:=fun k hk=>by rcases hq with q|q<;>omega
 have same:∀ k,k<16→wZ fl a d (2*k) (2*k+1)=fl (2*k) (2*k+1):=fun k hk=>by
  rw[kI,if_neg (by omega)];omega
 have ok':=h.ok' hp
 have ex':=h.ex' (by omega) hp
 have used':∀ g,u.testBit g=true→fix.testBit g=false→wZ fl a d (2*g) (2*g+1)=0:=fun g hg hx=>by
  have:=(ok' (2*g) (2*g+1)).1
  have h0:=h.used g hg hx
  rw[kI]at this ⊢
  split<;>rename_i hh
  ·rw[if_pos hh]at this;omega
  ·omega
 refine⟨ok',ex',by omega,?_,?_,?_,?_,?_,used',?_,?_⟩
 ·intro k hk
  rw[List.mem_append,List.mem_singleton]at hk
  rcases hk with hk|rfl
  ·exact h.f k hk
  ·exact hfF
 ·rw[List.nodup_append]
  refine⟨h.nd,by simp,?_⟩
  intro k hk k' hk' e
  rw[List.mem_singleton]at hk'
  rw[e,hk']at hk
  exact hn hk
 ·intro i k k' h1 h2
  by_cases hi:i+1<ks.length
  ·rw[List.getElem?_append_left (by omega)]at h1
   rw[List.getElem?_append_left hi]at h2
   exact h.stp i k k' h1 h2
  ·have hlt:=eI h2
   rw[List.length_append,List.length_singleton]at hlt
   rw[List.getElem?_append_left (by omega)]at h1
   rw[List.getElem?_append_right (by omega),show i+1-ks.length=0 by omega]at h2
   have h2:d/2=k':=by simpa using h2
   rcases hq with q|q
   ·rw[q.2.1]at h1;simp at h1
   ·have h3:=q.2.2.1
    rw[List.getLast?_eq_getElem?,show ks.length-1=i by omega,h1]at h3
    rw[Option.some.inj h3,←h2];exact q.2.2.2
 ·intro k hk
  rcases hq with q|q
  ·rw[q.2.1]at hk
   have:d/2=k:=by simpa using hk
   rw[←this];exact q.2.2
  ·have hpos:0<ks.length:=by
    by_cases h0:0<ks.length
    ·exact h0
    ·have:ks=[]:=List.eq_nil_of_length_eq_zero (by omega)
     rw[this]at q;simp at q
   rw[List.getElem?_append_left hpos]at hk
   exact h.fst k hk
 ·refine .inr (.inr ⟨hd,?_⟩)
  rw[List.getLast?_append];rfl
 ·intro k hk hx
  rw[List.mem_append,List.mem_singleton]at hk
  rcases hk with hk|rfl
  ·exact h.free k hk hx
  ·-- the way goes on behind the field
   cases hub:u.testBit (d/2)
   ·rfl
   ·exfalso
    have h0:=used' (d/2) hub hx
    have h1:Go.Proofs.YtiabjdfdkiijmaaDoor.ex (wZ fl a d) d≤0:=by
     unfold Go.Proofs.YtiabjdfdkiijmaaDoor.ex
     rw[←rK 34]
     refine nN 34 fun e he=>?_
     have g1:=(ok' e d).1
     have g2:=ok' d e
     have:wZ fl a d d e≤0:=by
      by_cases hlt:0<wZ fl a d d e
      ·rcases nX (show 0<bO st s nur fix d e by omega)with q|q|q|q
       ·omega
       ·omega
       ·rw[show 2*(d/2)=d by omega,←q.2.2]at h0;omega
       ·omega
      ·omega
     unfold oT;omega
    rw[ex']at h1
    rw[if_neg (by omega),if_neg (by omega),if_pos rfl]at h1
    omega
 ·intro k hk hx
  rw[List.mem_append,List.mem_singleton]at hk
  rcases hk with hk|rfl
  ·have hkF:=h.f k hk
   rcases h.pass k hk hx with p|p
   ·exact absurd p (hao k (by omega))
   ·exact .inr (by rw[same k (by omega)];exact p)
  ·exact .inl (by omega)
include hst hs hF h in
theorem Wk.trim {d m:Nat} (hp:0<fl a d) (hd:d<32) (hde:d%2=0) (hm:ks[m]?=some (d/2)):Wk st s nur fix F u r (wZ fl a d) d (ks.take (m+1)):=by
 obtain⟨hfF,hq⟩:=h.fld hst hs hF hp hd hde
 have hml:=eI hm
 have hao:∀ k,k<16→a≠2*k:=fun k hk=>by rcases hq with q|q<;>omega
 have same:∀ k,k<16→wZ fl a d (2*k) (2*k+1)=fl (2*k) (2*k+1):=fun k hk=>by
  rw[kI,if_neg (by omega)];omega
 have ok':=h.ok' hp
 have used':∀ g,u.testBit g=true→fix.testBit g=false→wZ fl a d (2*g) (2*g+1)=0:=fun g hg hx=>by
  have:=(ok' (2*g) (2*g+1)).1
  have h0:=h.used g hg hx
  rw[kI]at this ⊢
  split<;>rename_i hh
  ·rw[if_pos hh]at this;omega
  ·omega
 have at_take:∀ i k,(ks.take (m+1))[i]?=some k→ks[i]?=some k:=fun i k hi=>by
  have:=eI hi
  rw[List.length_take]at this
  rw[List.getElem?_take_of_lt (by omega)]at hi
  exact hi
 refine⟨ok',h.ex' (by omega) hp,by omega,fun k hk=>h.f k (List.mem_of_mem_take hk),h.nd.sublist (List.take_sublist _ _),fun i k k' h1 h2=>h.stp i k k' (at_take i k h1) (at_take _ k' h2),fun k hk=>h.fst k (at_take 0 k hk),?_,used',fun k hk hx=>h.free k (List.mem_of_mem_take hk) hx,?_⟩
 ·refine .inr (.inr ⟨hd,?_⟩)
  rw[List.getLast?_eq_getElem?,List.length_take,show min (m+1) ks.length-1=m by omega,List.getElem?_take_of_lt (by omega)]
  exact hm
 ·intro k hk hx
  have hk:=List.mem_of_mem_take hk
  have hkF:=h.f k hk
  rcases h.pass k hk hx with p|p
  ·exact absurd p (hao k (by omega))
  ·exact .inr (by rw[same k (by omega)];exact p)
end
structure Ow (st:Nat→Nat) (s nur fix u r:Nat) (fl:Nat→Nat→Int):Prop where
 ok:FlI (bO st s nur fix) fl
 ex:∀ c,ex fl c=(if c=32 then (r:Int) else 0)-(if c=33 then (r:Int) else 0)
 used:∀ g,u.testBit g=true→fix.testBit g=false→fl (2*g) (2*g+1)=0
theorem Ow.of_net {st:Nat→Nat} {s nur fix n:Nat} {fl:Nat→Nat→Int} (h:Net (bO st s nur fix) fl n):Ow st s nur fix 0 n fl :=
 ⟨h.ok,fun c=>h.ex c,fun g hg=>by simp at hg⟩
theorem Ow.start {st:Nat→Nat} {s nur fix F u r:Nat} {fl:Nat→Nat→Int} (h:Ow st s nur fix u (r+1) fl):Wk st s nur fix F u r fl 32 []:=by
 refine⟨h.ok,fun c=>?_,by omega,fun k hk=>by simp at hk,List.nodup_nil,fun i k k' hk=>by simp at hk,fun k hk=>by simp at hk,.inl ⟨rfl,rfl⟩,h.used,fun k hk=>by simp at hk,fun k hk=>by simp at hk⟩
 rw[h.ex]
 split<;>split<;>omega
theorem xJ (ks:List Nat) (i f:Nat):(cE ks i).testBit f=true↔f∈ks.take i:=by
 have:=pV (ks.take i) f
 rw[show cE (ks.take i) (ks.take i).length=cE ks i by unfold cE;rw[List.take_length]]at this
 exact this
theorem aIF (u:Nat) (ks:List Nat) (f:Nat):(uW u ks ks.length).testBit f=true↔u.testBit f=true∨f∈ks:=by
 rw[aIs,Nat.testBit_or,Bool.or_eq_true,pV]
theorem Wk.done {x:Vn} (ok:x.Ok) {u r:Nat} {fl:Nat→Nat→Int} {ks:List Nat} (h:Wk (dQ x) x.sick x.nur x.fix x.F u r fl 33 ks) :
 jZ x u (cQ ks)=0∧Ow (dQ x) x.sick x.nur x.fix (uWi u (cQ ks)) r fl:=by
 have hF:=ok.F16
 obtain⟨f,hf,hn⟩:∃ f,ks.getLast?=some f∧x.nur.testBit f=true:=by
  rcases h.pos with p|p|p
  ·omega
  ·exact p.2
  ·omega
 have hne:ks≠[]:=fun e=>by rw[e]at hf;simp at hf
 have hpos:0<ks.length:=List.length_pos_iff.2 hne
 have hw:bJ (wkE x ks) ks.length=0:=by
  refine eB _ fun i hi=>?_
  obtain⟨k,hk⟩:=bK hi
  unfold wkE
  rw[aO hk]
  have h1:(cE ks i).testBit k=false:=by
   cases hb:(cE ks i).testBit k
   ·rfl
   ·exfalso
    rw[xJ,List.mem_iff_getElem?]at hb
    obtain⟨j,hj⟩:=hb
    have hjl:=eI hj
    rw[List.length_take]at hjl
    rw[List.getElem?_take_of_lt (by omega)]at hj
    have e1:=List.getElem?_eq_some_iff.1 hj
    have e2:=List.getElem?_eq_some_iff.1 hk
    obtain⟨h1,e1⟩:=e1
    obtain⟨h2,e2⟩:=e2
    exact List.pairwise_iff_getElem.1 h.nd j i h1 h2 (by omega) (e1.trans e2.symm)
  rw[h1,Bool.false_or]
  by_cases hi0:0<i
  ·obtain⟨k',hk'⟩:=bK (l:=ks) (i:=i-1) (by omega)
   rw[aO hk']
   have:=h.stp (i-1) k' k hk' (by rw[show i-1+1=i by omega];exact hk)
   rw[this,Bool.not_true,Bool.and_false];rfl
  ·rw[decide_eq_false hi0];rfl
 obtain⟨a,ha⟩:=bK hpos
 have hl:fP x ks=true:=by
  unfold fP
  rw[hw,aO ha,h.fst a ha,aO (by rw[List.getLast?_eq_getElem?]at hf;exact hf),hn]
  rfl
 have hc:bJ (xB x u ks) ks.length=0:=by
  refine eB _ fun i hi=>?_
  obtain⟨k,hk⟩:=bK hi
  unfold xB
  rw[aO hk]
  cases hx:x.fix.testBit k
  ·rw[h.free k (List.mem_of_getElem? hk) hx];rfl
  ·rw[Bool.not_true,Bool.and_false];rfl
 refine⟨?_,h.ok,fun c=>?_,?_⟩
 ·unfold jZ
  rw[if_neg (fun e=>hne (by
   have:=congrArg List.length e
   rw[bR]at this
   exact List.eq_nil_of_length_eq_zero this)),if_neg (by rw[aBK h.f];simp),eY,hl,if_pos rfl,bR,hc]
  rfl
 ·rw[h.ex]
  split<;>split<;>omega
 ·intro g hg hx
  unfold uWi at hg
  rw[eY,bR,aIF]at hg
  rcases hg with hg|hg
  ·exact h.used g hg hx
  ·rcases h.pass g hg hx with p|p
   ·omega
   ·exact p
def VerP (x:Vn) (rows:List (List Int)) (u:Nat):Prop:=(∀ j,j<rows.length→rI x rows j=0)∧wS rows rows.length=u
theorem VerP.nil (x:Vn):VerP x [] 0:=⟨fun j hj=>absurd hj (by simp),rfl⟩
theorem aCy (rows:List (List Int)) (w:List Int) {j:Nat} (hj:j≤rows.length):wS (rows++[w]) j=wS rows j:=by
 unfold wS
 rw[List.take_append_of_le_length hj]
theorem VerP.app {x:Vn} {rows:List (List Int)} {u:Nat} {w:List Int} (h:VerP x rows u) (hw:jZ x u w=0):VerP x (rows++[w]) (uWi u w):=by
 refine⟨fun j hj=>?_,?_⟩
 ·rw[List.length_append,List.length_singleton]at hj
  unfold rI
  rw[aCy rows w (by omega)]
  by_cases e:j=rows.length
  ·subst e
   rw[h.2,show (rows++[w]).getD rows.length []=w by simp[List.getD]]
   exact hw
  ·have:=h.1 j (by omega)
   unfold rI at this
   rw[show (rows++[w]).getD j []=rows.getD j [] by simp only[List.getD];rw[List.getElem?_append_left (by omega)]]
   exact this
 ·have hx:(rows++[w])[rows.length]?=some w:=by simp
  rw[List.length_append,List.length_singleton,yQ hx,aCy rows w (Nat.le_refl _),h.2]
end Go.Proofs.YtiabjdfdkiijmaaDoor
namespace Go.Proofs.YtiabjdfdkiijmaaDoor
open Go Go.DL
set_option maxRecDepth 100000
set_option maxHeartbeats 4000000
abbrev sU (rows:List (List Int)) (n i:Nat):List AV:=[.pt 0 0,oR rows,I (n:Nat),I (i:Nat)]
section
variable {x:Vn} (ok:x.Ok) {u r n i:Nat} (hu:u<2^x.F) {rows:List (List Int)}
include ok in
theorem aID {fl:Nat→Nat→Int} (ho:Ow (dQ x) x.sick x.nur x.fix u (r+1) fl) :
 ∃ fl' ks,Wk (dQ x) x.sick x.nur x.fix x.F u r fl' 33 ks ∧
   execW aA 33 0 none iT (aS [7,9,10,11,29,30] (s33 rows [] 32 n i)) (gY (eR x (dQ x)) fl rows [])=execW aA 33 0 none (match iT with | .loop _ a=>a|c=>c) (aS [7,9,10,11,29,30] (s33 rows (cQ ks) 33 n i)) (gY (eR x (dQ x)) fl' rows (cQ ks)):=by
 have hF:=ok.F16
 have hst:=gE ok x.ps.length
 have key:∃ q:(Nat→Nat→Int)×Nat×List Nat,Wk (dQ x) x.sick x.nur x.fix x.F u r q.1 q.2.1 q.2.2∧q.2.1=33 ∧
  execW aA 33 0 none iT (aS [7,9,10,11,29,30] (s33 rows [] 32 n i)) (gY (eR x (dQ x)) fl rows [])=execW aA 33 0 none (match iT with | .loop _ a=>a|c=>c) (aS [7,9,10,11,29,30] (s33 rows (cQ q.2.2) q.2.1 n i)) (gY (eR x (dQ x)) q.1 rows (cQ q.2.2)):=by
  have hd0:aV 0 [7,9,10,11,29,30] (some (.normal,aS [7,9,10,11,29,30] (s33 rows [] 32 n i),gY (eR x (dQ x)) fl rows []))=some (s33 rows [] 32 n i,gY (eR x (dQ x)) fl rows []):=by
   cases rows
   ·(sym=>(simp[aJ,aI,aK,aL,aR,aF,YX,Xd,Xe,Xr,Xx,Xy,W3,WE,WF,WH,WI,WK,WL,WM,WO,WQ,WR,WS,WT,WY,WZ,Vb,Vf,Vg,VQ,VR,VS,VZ,Ua,Ub,Uc,Ud,Uf,Uk,Ux,U3,U4,U5,U6,T5,TK,TU,S7];all_goals tactic=>exact rfl))
   ·(sym=>(simp[aJ,aI,aK,aL,aR,aF,YX,Xc,Xd,Xe,Xr,Xw,Xx,Xy,W3,WE,WF,WH,WI,WK,WL,WM,WO,WQ,WR,WS,WT,WY,WZ,Vb,Vf,Vg,VQ,VR,VS,VZ,Ua,Ub,Uc,Ud,Uf,Uk,Ux,U3,U4,U5,U6,T5,TK,TU,S7];all_goals tactic=>exact rfl))
  unfold iT
  refine qN (σ:=(Nat→Nat→Int)×Nat×List Nat) (fun q=>s33 rows (cQ q.2.2) q.2.1 n i) (fun q=>gY (eR x (dQ x)) q.1 rows (cQ q.2.2)) (fun q=>Wk (dQ x) x.sick x.nur x.fix x.F u r q.1 q.2.1 q.2.2) (fun q=>q.2.1=33) (fun q=>(tot q.1).toNat) (fl,32,[]) hd0 ho.start ?_
  rintro ⟨f,a,ks⟩ w
  dsimp only at w ⊢
  have hal:=w.lt
  by_cases h33:a=33
  ·left
   refine⟨?_,h33⟩
   subst h33
   rw[show s33 rows (cQ ks) 33 n i=[.pt 0 0,oR rows,oW rows (cQ ks),I 33,I (n:Nat),I (i:Nat)] from rfl]
   generalize cQ ks=os
   cases rows<;>cases os
   ·(sym=>(simp[aJ,aI,aK,aL,aR,aF,Za,Zb,Zf,Zh,Zl,Zm,Zv,Z3,Yr,VQ,VT,VV,VW,Uq,Uy,Tt,Tu,Tx,Tz,T0,T6,T7,TU];all_goals tactic=>exact rfl))
   ·(sym=>(simp[aJ,aI,aK,aL,aR,aF,Za,Zb,Zf,Zh,Zl,Zm,Zv,Z3,Yr,VQ,VT,VV,VW,Uq,Uy,Tt,Tu,Tx,Tz,T0,T6,T7,TV];all_goals tactic=>exact rfl))
   ·(sym=>(simp[aJ,aI,aK,aL,aR,aF,Za,Zb,Zf,Zh,Zl,Zm,Zv,Z3,Yr,VQ,VT,VV,VW,Uq,Uy,Tt,Tu,Tx,Tz,T0,T6,T7,TU];all_goals tactic=>exact rfl))
   ·(sym=>(simp[aJ,aI,aK,aL,aR,aF,Za,Zb,Zf,Zh,Zl,Zm,Zv,Z3,Yr,VQ,VT,VV,VW,Uq,Uy,Tt,Tu,Tx,Tz,T0,T6,T7,TV];all_goals tactic=>exact rfl))
  ·right
   obtain⟨d0,hd0,hp0⟩:=w.next h33
   obtain⟨d,hd,hp,e66⟩:=aLn (l:=eR x (dQ x)) (fl:=f) hal hd0 hp0
   have hb:=w.ok.b
   have hdec:=aGE (fl:=f) (a:=a) (d:=d) hal hd
   have hpos:=aGD (w.ok' hp)
   have hm:(tot (wZ f a d)).toNat<(tot f).toNat:=by omega
   have hksl:(cQ ks).length<1000:=by
    rw[bR]
    have h1:ks.length≤16:=by
     have h2:ks.length=bP (cE ks ks.length):=by
      have:∀ j,j≤ks.length→bP (cE ks j)=j:=by
       intro j
       induction j with
       | zero=>intro _;rw[show cE ks 0=0 from rfl];exact aCi
       | succ j ih =>
         intro hj
         obtain⟨k,hk⟩:=bK (l:=ks) (i:=j) (by omega)
         have hkF:=w.f k (List.mem_of_getElem? hk)
         rw[tS hk,lX (by omega),ih (by omega)]
         cases hb:(cE ks j).testBit k
         ·rfl
         ·exfalso
          rw[xJ,List.mem_iff_getElem?]at hb
          obtain⟨j',hj'⟩:=hb
          have hjl:=eI hj'
          rw[List.length_take]at hjl
          rw[List.getElem?_take_of_lt (by omega)]at hj'
          obtain⟨h1,e1⟩:=List.getElem?_eq_some_iff.1 hj'
          obtain⟨h2,e2⟩:=List.getElem?_eq_some_iff.1 hk
          exact List.pairwise_iff_getElem.1 w.nd j' j h1 h2 (by omega) (e1.trans e2.symm)
      exact(this ks.length (Nat.le_refl _)).symm
     have:=lY (cE ks ks.length)
     omega
    omega
   by_cases hde:d<32∧d%2=0
   ·rcases w68 (ks:=cQ ks) (f:=((d/2:Nat):Int)) (by omega)with ⟨hn,_⟩|⟨m,hm2,e68⟩
    ·have hn2:d/2∉ks:=fun h=>hn (List.mem_map_of_mem (f:=fun k:Nat=>(k:Int)) h)
     refine⟨(wZ f a d,d,ks++[d/2]),hm,?_,w.app hst ok.s hF hp hde.1 hde.2 hn2⟩
     have:=aEl (l:=eR x (dQ x)) (rows:=rows) (n:=n) (i:=i) (by omega) hde.1 hde.2 hb hp hksl e66 hn
     rw[←zK]at this
     exact this
    ·have hm3:ks[m]?=some (d/2):=by
      have:=eI hm2
      rw[bR]at this
      obtain⟨k,hk⟩:=bK this
      rw[fO hk]at hm2
      rw[hk]
      have:=Option.some.inj hm2
      congr 1;omega
     refine⟨(wZ f a d,d,ks.take (m+1)),hm,?_,w.trim hst ok.s hF hp hde.1 hde.2 hm3⟩
     have:=aDm (l:=eR x (dQ x)) (rows:=rows) (n:=n) (i:=i) (by omega) hde.1 hde.2 hb hp hksl e66 hm2 e68
     rw[show (cQ ks).take (m+1)=cQ (ks.take (m+1)) from (List.map_take ..).symm]at this
     exact this
   ·refine⟨(wZ f a d,d,ks),hm,?_,w.odd hd hp hde⟩
    exact aEk (l:=eR x (dQ x)) (rows:=rows) (n:=n) (i:=i) (by omega) hd hb hp e66 hde
 obtain⟨⟨f,a,ks⟩,w,rfl,hrun⟩:=key
 exact⟨f,ks,w,hrun⟩
include ok in
theorem aHb {fl:Nat→Nat→Int} (ho:Ow (dQ x) x.sick x.nur x.fix u (r+1) fl) (hv:VerP x rows u) (hi:i<n) (hn:n≤100) (hr:rows.length=i) :
 ∃ fl' w,Ow (dQ x) x.sick x.nur x.fix (uWi u w) r fl'∧VerP x (rows++[w]) (uWi u w) ∧
   aV 0 [7,9,29,30] (execW aA 33 0 none (match xG with | .loop _ a=>a|c=>c) (aS [7,9,29,30] (sU rows n i)) (gY (eR x (dQ x)) fl rows []))=some (sU (rows++[w]) n (i+1),gY (eR x (dQ x)) fl' (rows++[w]) []):=by
 obtain⟨fl',ks,wk,hrun⟩:=aID (rows:=rows) (n:=n) (i:=i) ok ho
 obtain⟨h1,h2⟩:=wk.done ok
 refine⟨fl',cQ ks,h2,hv.app h1,?_⟩
 have hks:ks≠[]:=by
  rintro rfl
  unfold jZ at h1
  rw[if_pos (show cQ []=[] from rfl)]at h1;simp at h1
 have a1:((i:Int)<(n:Int))=True:=eq_true (by omega)
 have a2:IntKind.i64.wrap ((i:Int)+1)=(i:Int)+1:=aE (by omega) (by omega)
 rw[show s33 rows (cQ ks) 33 n i=[.pt 0 0,oR rows,oW rows (cQ ks),I 33,I (n:Nat),I (i:Nat)] from rfl,show s33 rows [] 32 n i=[.pt 0 0,oR rows,oW rows [],I 32,I (n:Nat),I (i:Nat)] from rfl]at hrun
 have hos:cQ ks≠[]:=fun e=>hks (by
  have:=congrArg List.length e
  rw[bR]at this
  exact List.eq_nil_of_length_eq_zero this)
 generalize cQ ks=os at *
 generalize eR x (dQ x)=l at *
 unfold xG
 dsimp only
 rcases os with _|⟨k,kr⟩
 ·exact absurd rfl hos
 ·rcases rows with _|⟨q,qr⟩
  ·sym =>
   simp[aJ,aI,aK,aL,aR,aF,Za,Zb,Zf,Zh,Zl,Zm,Zv,Z3,Ys,VQ,VT,VU,VZ,Ua,Uc,Uh,Uy,Tt,Tu,Tw,Ty,Tz,T6,T7,a1]
   tactic =>
    unfold iT at hrun ⊢
    rw[hZ (e':=aS [7,9,10,11,29,30] [.pt 0 0,oR [],oW [] [],I 32,I (n:Nat),I (i:Nat)]) (H':=gY l fl [] []) (by (sym=>(simp[aJ,aI,aK,aL,aR,aF,Za,YX,Xd,Xe,Xr,Xx,Xy,W3,WE,WF,WH,WI,WK,WL,WM,WO,WQ,WR,WS,WT,WY,WZ,Vb,Vf,Vg,VQ,VR,VS,VZ,Ua,Ub,Uc,Ud,Uf,Uk,Ux,U3,U4,U5,U6,T5,TK,TU];all_goals tactic=>exact rfl))),hrun]
    (sym=>(simp[aJ,aI,aK,aL,aR,aF,Za,Zb,Zd,Ze,Zf,Zg,Zh,Zj,Zl,Zm,Zo,Zv,Z1,Z3,ZS,Yj,Yr,YX,Xc,Xd,Xl,Xn,Xo,Xr,Xw,Xx,XO,XX,Wb,Wc,Wd,Wi,Wt,W3,W4,W5,W6,W7,W8,W9,WA,WE,WF,WH,WI,WK,WL,WM,WO,WQ,WR,WS,WT,WY,WZ,Vb,Vf,Vg,Vs,Vt,Vu,Vv,Vw,Vx,Vy,Vz,V5,V6,V7,VQ,VR,VS,VT,VV,VZ,Ua,Ub,Uc,Ud,Uf,Ug,Uh,Ui,Uk,Um,Uq,Uu,Ux,Uy,U0,U1,U3,U4,U5,U6,U7,U8,UF,UG,UH,UI,UU,UV,UW,UX,UY,UZ,Ta,Tb,Tn,Tq,Tr,Ts,Tt,Tu,Tx,Tz,T0,T2,T4,T5,T6,T7,TI,TJ,TK,TL,TP,TV,TW,Su,Sv,Sw,SB,SC,SE,SF,SG,SI,a2];all_goals tactic=>exact rfl))
  ·have b1:((qr.length+1+1)*24≤1099511627776)=True:=eq_true (by simp at hr;omega)
   have b2:(qr.length+1+1≤1099511627776)=True:=eq_true (by simp at hr;omega)
   sym =>
    simp[aJ,aI,aK,aL,aR,aF,Za,Zb,Zf,Zh,Zl,Zm,Zv,Z3,Ys,VQ,VT,VU,VZ,Ua,Ub,Ug,Uh,Uy,Tt,Tu,Tw,Ty,Tz,T6,T7,TG,TH,a1]
    tactic =>
     unfold iT at hrun ⊢
     rw[hZ (e':=aS [7,9,10,11,29,30] [.pt 0 0,oR (q::qr),oW (q::qr) [],I 32,I (n:Nat),I (i:Nat)]) (H':=gY l fl (q::qr) []) (by (sym=>(simp[aJ,aI,aK,aL,aR,aF,Za,YX,Xc,Xd,Xe,Xr,Xw,Xx,Xy,W3,WE,WF,WH,WI,WK,WL,WM,WO,WQ,WR,WS,WT,WY,WZ,Vb,Vf,Vg,VQ,VR,VS,VZ,Ua,Ub,Uc,Ud,Uf,Uk,Ux,U3,U4,U5,U6,T5,TK,TU];all_goals tactic=>exact rfl))),hrun]
     (sym=>(simp[aJ,aI,aK,aL,aR,aF,Za,Zb,Zd,Ze,Zf,Zg,Zh,Zj,Zl,Zm,Zo,Zv,Z1,Z3,ZS,Yj,Yr,YX,Xc,Xd,Xl,Xn,Xo,Xr,Xw,Xx,XO,XX,Wb,Wc,Wi,Wt,W3,W4,W5,W6,W7,W8,W9,WA,WE,WF,WH,WI,WK,WL,WM,WO,WQ,WR,WS,WT,WY,WZ,Vb,Vf,Vg,Vs,Vt,Vu,Vv,Vw,Vx,Vy,Vz,V5,V6,V7,VQ,VR,VS,VT,VV,VZ,Ua,Ub,Uc,Ud,Uf,Ug,Uh,Ui,Uk,Um,Uq,Uu,Uv,Ux,Uy,U0,U1,U3,U4,U5,U6,U7,U8,UF,UG,UH,UI,UU,UV,UW,UX,UY,UZ,Ta,Tc,Td,Tn,Tp,Tq,Tr,Tt,Tu,Tx,Tz,T0,T2,T4,T5,T6,T7,TI,TJ,TK,TL,TP,TV,TW,Su,Sv,Sw,SB,SC,SE,SF,SG,SI,a2,b1,b2];all_goals tactic=>exact rfl))
end
theorem aCb {x:Vn} {C:Nat}:FC (dQ x) x.sick x.nur x.fix C↔Cuts x 0 C:=by
 constructor
 ·intro h
  exact⟨h.lt,h.free,fun f hf=>h.cut f (by rw[Nat.or_zero]at hf;exact hf)⟩
 ·intro h
  exact⟨h.lt,h.free,fun f hf=>h.cut f (by rw[Nat.or_zero];exact hf)⟩
theorem w33 {x:Vn} (ok:x.Ok) (hh:qT x=true):∃ n ws,Lea x 0 n∧ws.length=n∧aAh x ws=0∧runW aA 33 [.agg x.c] []=some (.tup [wL ws,I 0],[]):=by
 have hF:=ok.F16
 obtain⟨n,hn,e59⟩:=aGB ok ok.h23 hh
 obtain⟨C0,c1,c2⟩:=(kY ok).1 hh
 have hn16:n≤16:=by
  have:=hn.2 C0 c2
  have:=lY C0
  omega
 obtain⟨n',fl,q1,q2,q3,e65⟩:=w65 (aNG ok)
 have hl:=aAJ (gE ok _) ok.s hF q1 q3 (aCb.2 c2) c1
 have hnn:n'=n:=by
  refine Lea.eq (x:=x) (cl:=0) ⟨?_,fun C hC=>hl.2 C (aCb.2 hC)⟩ hn
  obtain⟨C,d1,d2,d3⟩:=hl.1
  exact⟨C,d1,aCb.1 d2,d3⟩
 subst hnn
 obtain⟨G,g0,g1,g2⟩:=aED n'
  (fun i (q:(Nat→Nat→Int)×List (List Int)×Nat)=>Ow (dQ x) x.sick x.nur x.fix q.2.2 (n'-i) q.1∧VerP x q.2.1 q.2.2∧q.2.1.length=i)
  (fun i q q'=>aV 0 [7,9,29,30] (execW aA 33 0 none (match xG with | .loop _ a=>a|c=>c) (aS [7,9,29,30] (sU q.2.1 n' i)) (gY (eR x (dQ x)) q.1 q.2.1 []))=some (sU q'.2.1 n' (i+1),gY (eR x (dQ x)) q'.1 q'.2.1 []))
  (fl,[],0) ⟨.of_net q1,.nil x,rfl⟩ (by
   rintro i ⟨f,rows,u⟩ hi ⟨p1,p2,p3⟩
   dsimp only at p1 p2 p3
   rw[show n'-i=(n'-(i+1))+1 by omega]at p1
   obtain⟨f',w,r1,r2,r3⟩:=aHb ok p1 p2 hi (by omega) p3
   refine⟨(f',rows++[w],uWi u w),⟨r1,r2,?_⟩,r3⟩
   show (rows++[w]).length=i+1
   rw[List.length_append,p3];rfl)
 obtain⟨p1,p2,p3⟩:=g1 n' (Nat.le_refl _)
 refine⟨n',(G n').2.1,hn,p3,?_,?_⟩
 ·unfold aAh
  rw[if_neg (by omega)]
  exact eB _ p2.1
 ·have z:=Te (n:=(n':Int))
  have b0:(G 0).2.1=[]:=by rw[g0]
  have f0':(G 0).1=fl:=by rw[g0]
  generalize hrn:(G n').2.1=rn at *
  generalize hfn:(G n').1=fn at *
  have e65:runW aA 65 [.pt 0 0] [some (.blk true (.cells true (eR x (dQ x))))]=some (.tup [.pt 1 0,I (n':Nat)],[some (.blk true (.cells true (eR x (dQ x)))),some (.blk false (.cells true (gJ (.pt 0 0) fl)))]):=e65
  have g2':∀ i,i<n'→aV 0 [7,9,29,30] (execW aA 33 0 none (match xG with | .loop _ a=>a|c=>c) (aS [7,9,29,30] (sU (G i).2.1 n' i)) (gY (eR x (dQ x)) (G i).1 (G i).2.1 []))=some (sU (G (i+1)).2.1 n' (i+1),gY (eR x (dQ x)) (G (i+1)).1 (G (i+1)).2.1 []):=g2
  clear g1 g2
  rw[r33 (by simp)];unfold x33;dsimp only
  sym =>
   simp[aJ,aI,aK,aL,aR,aF,Za,Zb,Zf,Zg,Zh,Zj,Zl,Zm,Zo,Zv,Zz,Z3,ZE,ZG,ZO,ZP,ZT,ZU,Yi,Yr,YX,YZ,Xb,Xd,Xi,Xk,Xl,Xr,Xt,Xu,Xv,Xx,XP,We,Wg,Wi,Wl,Ws,W3,W4,W5,W6,W7,W8,W9,WB,WC,WE,WG,WH,WJ,WK,WL,WM,WN,WQ,WU,WV,WW,WY,WZ,Vb,Vf,Vi,Vj,Vk,Vl,Vv,Vx,Vy,Vz,V0,V1,V3,VO,VT,VV,VY,VZ,Ua,Ub,Uc,Ud,Ug,Uh,Um,Uq,Ux,Uy,U3,U4,U5,U6,U7,U8,UD,UE,US,UT,Tf,Tg,Tj,Tn,Tt,Tu,Tw,Ty,Tz,T6,T7,Su,SB,SC,SD,SE,SF,SG,SI,e59,e65]
   tactic =>
    unfold xG
    rw[aD n' (fun i=>sU (G i).2.1 n' i) (fun i=>gY (eR x (dQ x)) (G i).1 (G i).2.1 [])]
    ·rw[hrn,hfn]
     rcases rn with _|⟨q,qr⟩
     ·(sym=>(simp[aJ,aI,aK,aL,aR,aF,Za,Zb,Zf,Zh,Zl,Zm,Zv,Z3,Ys,YX,Xa,Xb,Xr,Xu,Xv,XJ,XM,XQ,We,Wh,Wm,WK,WO,WQ,WR,WS,Vv,V9,VA,VC,VD,VE,VF,VI,VJ,VK,VL,VM,VQ,VT,VV,Ua,Ud,Uf,Uz,U3,U4,U5,U6,U9,UA,UD,UE,Te,Tt,Tu,Tv,Tx,Tz,T0,T4,T6,T7,Su,z];all_goals tactic=>exact rfl))
     ·have ch:=zU (f:=fun w:List Int=>nL w) (q::qr) []
      have ch2:dC (nL q::qr.map fun w=>nL w) 0 1 (qr.length+1)=[nL q]::qr.map fun w=>[nL w]:=ch
      (sym=>(simp[aJ,aI,aK,aL,aR,aF,Za,Zb,Zf,Zh,Zl,Zm,Zv,Z3,Ys,YX,Xa,Xb,Xn,Xr,Xu,Xv,XJ,XM,XO,XX,XZ,Wb,Wc,We,Wh,Wi,W3,W6,WK,WO,WQ,WR,WS,Vs,Vt,Vu,Vv,Vw,V5,V6,V7,V9,VA,VC,VD,VE,VF,VI,VJ,VK,VL,VM,VQ,VT,VV,VZ,Ua,Ud,Uf,Ug,Ui,Uu,Uz,U3,U4,U5,U6,U9,UA,UB,UC,UD,UE,Te,Tt,Tu,Tv,Tx,Tz,T0,T4,T6,T7,TI,TJ,TL,Su,Sv,Sw,z,ch2];all_goals tactic=>exact rfl))
    ·rw[b0,f0']; (sym=>(simp[aJ,aI,aK,aL,aR,aF,Za,Y9,YX,Xd,Xe,Xr,Xx,Xy,W3,WE,WF,WH,WI,WK,WL,WM,WO,WQ,WR,WS,WT,WY,WZ,Vb,Vf,Vg,VR,VS,VZ,Ua,Ub,Uc,Ud,Uf,Uk,Ux,U3,U4,U5,U6,T5,TK];all_goals tactic=>exact rfl))
    ·exact g2'
    ·rw[hrn,hfn]
     rcases rn with _|⟨q,qr⟩
     ·(sym=>(simp[aJ,aI,aK,aL,aR,aF,Za,Zb,Zf,Zh,Zl,Zm,Z3,Ys,VQ,VT,VV,VW,Uz,Te,Tt,Tu,Tx,Tz,T0,T6,z];all_goals tactic=>exact rfl))
     ·(sym=>(simp[aJ,aI,aK,aL,aR,aF,Za,Zb,Zf,Zh,Zl,Zm,Z3,Ys,VQ,VT,VV,VW,Uz,Te,Tt,Tu,Tx,Tz,T0,T6,z];all_goals tactic=>exact rfl))
def xV (fix:Nat):Vn:=⟨8,[(0,1),(0,2),(1,3),(2,3),(3,4),(3,5),(4,6),(5,6)],[(0,2,7),(3,4,7)],1,192,fix⟩
theorem uL {fix:Nat} (h:fix<256):(xV fix).Ok:=by
 refine⟨by show (1:Nat)≤8;decide,by show (8:Nat)≤16;decide,by show (8:Nat)≤60;decide,by show (2:Nat)≤20;decide,?_,?_,by show (1:Nat)<2^8;decide,by show (192:Nat)<2^8;decide,h⟩
 ·intro p hp
  have:∀ p∈[(0,1),(0,2),(1,3),(2,3),(3,4),(3,5),(4,6),(5,6)],p.1<8∧p.2<8∧p.1≠p.2:=by decide
  exact this p hp
 ·intro p hp
  have:∀ p∈[(0,2,7),(3,4,7)],p.1≤100∧p.2.1<8∧p.2.2<8∧p.2.1≠p.2.2:=by decide
  exact this p hp
def aAb (a b:Nat):Bool:=(List.range 16).any fun d=>((List.range d).all fun j=>a.testBit j==b.testBit j)&&(a.testBit d && !b.testBit d)
theorem aEb {a b:Nat} (h:aAb a b=true):yM a b:=by
 unfold aAb at h
 rw[List.any_eq_true]at h
 obtain⟨d,_,h⟩:=h
 simp only[Bool.and_eq_true,List.all_eq_true,List.mem_range,beq_iff_eq,Bool.not_eq_true']at h
 exact⟨d,h.1,h.2.1,h.2.2⟩
theorem aFI {x:Vn} (ok:x.Ok) {c:Nat} {l:List Nat} (hl:csN x=l) (h:(l.contains c&&l.all fun t=>t==c||aAb c t)=true):isCut x c:=by
 rw[Bool.and_eq_true,List.all_eq_true]at h
 obtain⟨h1,h2⟩:=h
 rw[List.contains_iff_mem,←hl]at h1
 refine aFH ok ((qY ok).1 h1) fun t ht q=>?_
 have:=h2 t (by rw[←hl];exact(qY ok).2 ht)
 rw[Bool.or_eq_true,beq_iff_eq]at this
 rcases this with rfl|h
 ·exact yL q
 ·exact yL (aBl q (aEb h))
theorem aOO:csN (xV 0)=[1]:=by kernel_rfl
theorem aHZ:csN (xV 9)=[6,192]:=by kernel_rfl
theorem aKR:csN (xV 79)=[176]:=by kernel_rfl
theorem aKS:csN (xV 15)=[192]:=by kernel_rfl
theorem aFO {x:Vn} (ok:x.Ok) {l:List Nat} (h:csN x=l) (hl:l≠[]):qT x=true:=(aIa ok).2 (by rw[h];exact hl)
theorem aCd {x:Vn} (ok:x.Ok) {c:Nat} {l:List Nat} (hl:csN x=l) (h:(l.contains c&&l.all fun t=>t==c||aAb c t)=true):runW aA 29 [.agg x.c] []=some (.tup [nL (cQ (el c)),I 0],[]):=by
 have hc:=aFI ok hl h
 have hh:qT x=true:=(kY ok).2 ⟨c,hc.lt,hc.min.1⟩
 obtain⟨c',h1,h2⟩:=w29 ok ok.h23 hh
 rw[hc.eq h1];exact h2
theorem aCM {x:Vn} (ok:x.Ok) {c:Nat} {l:List Nat} (hl:csN x=l) (hn:l≠[]) (h:aJN l l.length=c):runW aA 31 [.agg x.c] []=some (.tup [nL (cQ (el c)),I 0],[]):=by
 have:=aEa ok (by rw[hl];exact hn)
 rw[hl,h]at this
 rw[this]
 exact w31 ok (aFO ok hl hn)
abbrev vC (f:Int):List AV:=[I (8),.fs [[I (0),I (1)],[I (0),I (2)],[I (1),I (3)],[I (2),I (3)],[I (3),I (4)],[I (3),I (5)],[I (4),I (6)],[I (5),I (6)]],.fs [[I (0),I (2),I (7)],[I (3),I (4),I (7)]],I (1),I (192),I f]
theorem aLg:runW aA 29 [.agg (vC 0)] []=some (.tup [.fs [[I (0)]],I (0)],[]):=aCd (x:=xV 0) (uL (by omega)) (c:=1) aOO (by decide)
theorem aLe:runW aA 29 [.agg (vC 9)] []=some (.tup [.fs [[I (1)],[I (2)]],I (0)],[]):=aCd (x:=xV 9) (uL (by omega)) (c:=6) aHZ (by decide)
theorem aLc:runW aA 29 [.agg (vC 79)] []=some (.tup [.fs [[I (4)],[I (5)],[I (7)]],I (0)],[]):=aCd (x:=xV 79) (uL (by omega)) (c:=176) aKR (by decide)
theorem aLa:runW aA 31 [.agg (vC 15)] []=some (.tup [.fs [[I (6)],[I (7)]],I (0)],[]):=aCM (x:=xV 15) (uL (by omega)) (c:=192) aKS (by simp) (by decide)
theorem aKj:runW aA 31 [.agg (vC 9)] []=some (.tup [.fs [],I (0)],[]):=aCM (x:=xV 9) (uL (by omega)) (c:=0) aHZ (by simp) (by decide)
theorem aIC:aCx (xV 0)=[0,1,1,2,3,3,4,1]:=by kernel_rfl
theorem aLh:runW aA 20 [.agg (vC 0)] []=some (.tup [.fs [[I (0)],[I (1)],[I (1)],[I (2)],[I (3)],[I (3)],[I (4)],[I (1)]],I (0)],[]):=by
 rcases w20 (xV 0).v (by decide) (by decide)with ⟨h,_⟩|⟨_,x,_,hx,h⟩
 ·exact absurd (uL (fix:=0) (by omega)).vE h
 ·have e:aCx x=[0,1,1,2,3,3,4,1]:=by
   have hinj:∀ {x y:Vn},x.v=y.v→x=y:=by
    rintro ⟨a,b,c,d,e,f⟩ ⟨a',b',c',d',e',f'⟩ h
    simp only[Vn.v,Va.mk.injEq]at h
    obtain⟨h1,h2,h3,h4,h5,h6⟩:=h
    have e2:b=b':=(List.map_inj_right (f:=bI) (fun p q h=>by
     obtain⟨p1,p2⟩:=p
     obtain⟨q1,q2⟩:=q
     simp only[bI,Prod.mk.injEq]at h
     simp only[Prod.mk.injEq];omega)).1 h2
    have e3:c=c':=(List.map_inj_right (f:=pI) (fun p q h=>by
     obtain⟨p1,p2,p3⟩:=p
     obtain⟨q1,q2,q3⟩:=q
     simp only[pI,Prod.mk.injEq]at h
     simp only[Prod.mk.injEq];omega)).1 h3
    simp only[Vn.mk.injEq]
    exact⟨by omega,e2,e3,by omega,by omega,by omega⟩
   rw[←hinj hx]
   exact aIC
  rw[e]at h
  exact h
theorem aGA {x:Vn} {u:Nat} {w:List Int} (hF:x.F≤16) (h:jZ x u w=0):w.length≤16:=by
 obtain⟨ks,rfl,hks⟩:=aAg h
 unfold jZ at h
 by_cases hn:cQ ks=[]
 ·rw[if_pos hn]at h;simp at h
 rw[if_neg hn,if_neg (by rw[aBK hks];simp),eY]at h
 cases hl:fP x ks
 ·rw[hl]at h;simp at h
 ·unfold fP at hl
  rw[Bool.and_eq_true,decide_eq_true_eq]at hl
  have hc:∀ j,j≤ks.length→bP (cE ks j)=j:=by
   intro j
   induction j with
   | zero=>intro _;rw[show cE ks 0=0 from rfl];exact aCi
   | succ j ih =>
     intro hj
     obtain⟨k,hk⟩:=bK (l:=ks) (i:=j) (by omega)
     have hkF:=hks k (List.mem_of_getElem? hk)
     rw[tS hk,lX (by omega),ih (by omega)]
     have h0:=dS hl.1 j (by omega)
     unfold wkE at h0
     rw[aO hk]at h0
     cases hb:(cE ks j).testBit k
     ·rfl
     ·rw[hb]at h0;simp at h0
  have h1:=hc ks.length (Nat.le_refl _)
  have h2:=lY (cE ks ks.length)
  rw[bR];omega
theorem aGC {x:Vn} {ws:List (List Int)} (hF:x.F≤16) (h:aAh x ws=0):ws.length≤16∧∀ w∈ws,w.length≤16:=by
 unfold aAh at h
 by_cases h16:16<ws.length
 ·rw[if_pos h16]at h;simp at h
 rw[if_neg h16]at h
 refine⟨by omega,fun w hw=>?_⟩
 obtain⟨j,hj⟩:=List.getElem?_of_mem hw
 have h0:=dS h j (eI hj)
 unfold rI at h0
 rw[aO hj]at h0
 exact aGA hF h0
theorem aKi:∃ ws:List (List Int),ws.length=2∧runW aA 33 [.agg (vC 9)] []=some (.tup [wL ws,I 0],[])∧runW aA 35 [.agg (vC 9),wL ws] []=some (I 0,[]):=by
 have ok:(xV 9).Ok:=uL (by omega)
 obtain⟨n,ws,hn,hl,hv,hr⟩:=w33 ok (aFO ok aHZ (by simp))
 have hm:tE (xV 9) 6:=(qY ok).1 (by rw[aHZ];simp)
 have h2:=(hn.min.1 hm).2
 have h3:bP 6=2:=by decide
 have hw:∀ w∈ws,w.length<1000000:=by
  intro w hw
  have:=(aGC ok.F16 hv).2 w hw
  omega
 have hV:=w35 ok (ws:=ws) (by omega) hw
 rw[hv]at hV
 exact⟨ws,by omega,hr,hV⟩
theorem pU:runW aA 16 [] []=some (.bool true,[]):=by
 obtain⟨ws,h1,h2,h3⟩:=aKi
 have l1:((ws.length:Int)=2)=True:=eq_true (by omega)
 rw[r16 (by simp)];unfold x16;dsimp only
 (sym=>(simp[Za,Zb,Zd,Ze,Zf,Zg,Zh,Zj,Zl,Zm,Zo,Zp,Zq,Zr,Zv,Zy,Z1,Z3,ZE,ZF,ZO,ZP,ZT,ZU,ZV,ZW,Yc,Yi,Yq,Yr,Y9,YX,YY,YZ,Xb,Xc,Xi,Xm,Xo,Xr,Xs,Xt,Xu,Xv,Xw,XK,XN,Wf,Wi,Wq,Wu,W3,W6,W7,W9,WA,WC,WE,WF,WG,WH,WK,WL,WM,WN,WO,WP,WQ,WR,WS,WU,WV,WW,WX,WY,WZ,Vb,Vf,Vg,Vi,Vj,Vk,Vl,Vv,Vx,Vy,Vz,V9,VA,VC,VD,VE,VF,VG,VJ,VK,VL,VM,VT,VV,VY,VZ,Ua,Ub,Uc,Ud,Uf,Ug,Uh,Ui,Uk,Um,Uo,Uq,Uu,Ux,Uy,U0,U1,U2,U3,U4,U5,U6,U7,U8,UD,UF,UG,UH,UI,UU,UV,UW,UX,Tn,Tt,Tu,Tv,Tw,Tz,T6,T7,TP,TQ,TR,TS,TT,Su,SB,SC,SE,SF,SG,SI,aLj,aLi,aLh,aLg,aLf,aLe,aLd,aLc,aLb,aLa,aKj,h2,h3,l1,aKh,aKg,aKf,aKe,aKd,aKc,aKb,aKa,aJZ,aJY,aJX];all_goals tactic=>exact rfl))
abbrev pR (p:Int×Int×Int):List AV:=[I p.1,I p.2.1,I p.2.2]
def cP (l:List (Int×Int×Int)):List AV:=(l.map pR).flatten
theorem aGg (k:List (Int×Int×Int)):aAd 3 (k.map pR):=by
 intro r hr
 simp only[List.mem_map]at hr
 obtain⟨x,_,rfl⟩:=hr
 exact⟨rfl,rfl,rfl,rfl⟩
theorem aGp (l:List (Int×Int×Int)):(cP l).length=l.length*3:=by rw[cP,(lH (aGg _)).2.2.2,List.length_map]
theorem aJG (l:List (Int×Int×Int)) (x:Int×Int×Int):cP (l++[x])=cP l++pR x:=by simp[cP]
theorem nJ {l:List (Int×Int×Int)}:fG (cP l)=true:=(lH (aGg _)).1
theorem aKU (l:List (Int×Int×Int)):dC (cP l) 0 3 l.length=l.map pR:=by
 have:=aAs (aGg l)
 rw[List.length_map]at this
 exact this
abbrev gP (v:Va):List (Int×Int×Int)→XH
 | []=>[some (.blk true (.cells true v.c)),some (.blk true (.cells true [I 0,.nilsl,.nilsl,I 0,I 0,I 0])),some (.blk true (.cells true [I v.F,rB v.bs,.nilsl,I v.sick,I v.nur,I v.fix]))]
 | p::r=>[some (.blk true (.cells true v.c)),some (.blk true (.cells true [I 0,.nilsl,.nilsl,I 0,I 0,I 0])),some (.blk false (.cells true [I v.F,rB v.bs,.sl 3 0 3 (r.length+1),I v.sick,I v.nur,I v.fix])),some (.blk true (.cells true (cP (p::r))))]
abbrev s17 (i:Nat):List AV:=[.pt 0 0,.pt 1 0,.pt 2 0,I (i:Nat)]
theorem aHc {v:Va} (hp:v.ps.length≤1000) {i:Nat} (hi:i<v.ps.length) :
 aV 0 [1,2,3,4] (execW aA 17 0 none (match aCw with | .loop _ a=>a|c=>c) (aS [1,2,3,4] (s17 i)) (gP v (v.ps.take i)))=some (s17 (i+1),gP v (v.ps.take (i+1))):=by
 obtain⟨p,hx⟩:=bK hi
 have a1:=cT hi
 have a2:=fD hi (by omega)
 have hl:(v.ps.take i).length=i:=by rw[List.length_take];omega
 rw[show v.ps.take (i+1)=v.ps.take i++[p] by rw[List.take_add_one,hx];rfl]
 have hap:=aJG (v.ps.take i) p
 have hcl:=aGp (v.ps.take i)
 generalize v.ps.take i=l at *
 unfold aCw
 dsimp only
 cases l with
 | nil =>
   have e1:cP ([]++[p])=[I p.1,I p.2.1,I p.2.2]:=rfl
   have e1:cP [p]=[I p.1,I p.2.1,I p.2.2]:=rfl
   (sym=>(simp[nJ,Za,Zb,Zc,Zd,Ze,Zf,Zh,Zi,Zl,Zm,Zo,Zv,Z1,Z3,Z8,ZA,ZF,ZG,ZH,ZI,ZJ,ZK,ZM,ZN,Ya,Yc,Yg,Yh,Yj,Ys,Yw,Yx,YX,Xb,Xc,Xd,Xi,Xk,Xm,Xr,Xv,Xw,Xx,Ws,Wu,Wz,W0,W3,W4,W5,W6,W7,W8,W9,WA,WC,WE,WF,WH,WI,WK,WL,WM,WO,WQ,WR,WS,WT,WY,WZ,Vb,Vf,Vg,Vm,VQ,VR,VS,VT,VU,VZ,Ua,Ub,Uc,Ud,Uf,Ug,Uh,Ui,Uj,Uk,Um,Uo,Ur,Us,Uu,Ux,Uy,U0,U1,U3,U4,U5,U6,U7,U8,UF,UG,UH,UI,UU,UV,UW,UX,UY,UZ,Ta,Tb,Tf,Tg,Th,Ti,Tj,Tk,Tl,Tm,Tn,Tq,Tr,Ts,Tt,Tu,Tw,Ty,Tz,T2,T5,T6,T7,TK,TP,Sq,Sr,Ss,a1,a2,hx,e1];all_goals tactic=>exact rfl))
 | cons q r =>
   have hl:r.length+1=i:=by simpa using hl
   have b1:((r.length+1+1)*24≤1099511627776)=True:=eq_true (by omega)
   have b2:(r.length+1+1≤1099511627776)=True:=eq_true (by omega)
   have b3:((r.length+1)*3=(cP (q::r)).length)=True:=eq_true (by rw[hcl];simp)
   have e1:cP (q::r)++[I p.1,I p.2.1,I p.2.2]=cP (q::(r++[p])):=hap.symm
   (sym=>(simp[nJ,Za,Zb,Zc,Zd,Ze,Zf,Zh,Zi,Zl,Zm,Zo,Zv,Z1,Z3,Z8,ZA,ZF,ZG,ZH,ZI,ZJ,ZK,ZM,ZN,Ya,Yc,Yg,Yh,Yj,Ys,Yw,Yx,YX,Xb,Xc,Xd,Xi,Xk,Xm,Xr,Xv,Xw,Xx,Ws,Wu,Wy,Wz,W3,W4,W5,W6,W7,W8,W9,WA,WC,WE,WF,WH,WI,WK,WL,WM,WO,WQ,WR,WS,WT,WY,WZ,Vb,Vf,Vg,Vm,VQ,VR,VS,VT,VU,VZ,Ua,Ub,Uc,Ud,Uf,Ug,Uh,Ui,Uj,Uk,Um,Uo,Ur,Us,Uu,Ux,Uy,Uz,U0,U1,U3,U4,U5,U6,U7,U8,UF,UG,UH,UI,UU,UV,UW,UX,UY,UZ,Ta,Tc,Td,Tf,Tg,Th,Ti,Tj,Tk,Tl,Tm,Tn,Tp,Tq,Tr,Tt,Tu,Tw,Ty,Tz,T2,T5,T6,T7,TH,TK,TP,Sq,Ss,a1,a2,hx,b1,b2,b3,e1];all_goals tactic=>exact rfl))
theorem w17 (v:Va) (hp:v.ps.length≤1000):runW aA 17 [.agg v.c] []=some (.agg v.c,[]):=by
 have z:=Te (n:=(v.ps.length:Int))
 have rd:=fun i (hi:i<v.ps.length)=>aHc hp hi
 have ht:v.ps.take v.ps.length=v.ps:=List.take_length
 have h0:v.ps.take 0=[]:=rfl
 rw[r17 (by simp)];unfold x17;dsimp only
 sym =>
  simp[nJ,Za,Zb,Zc,Zd,Ze,Zf,Zh,Zl,Zm,Zo,Zv,Zw,Zz,Z0,Z8,ZG,ZK,ZL,Ya,YT,Xi,Xk,Xl,Xo,We,Wg,Wi,Wq,Ws,Wt,W3,W4,W5,W6,W7,W9,WA,WB,WC,VO,VY,VZ,Ua,Ub,Uc,Ud,Ug,Uh,Um,Uu,U7,U8,UD,UE,UF,UG,UH,UI,US,UT,Tf,Tg,Tk,Tl,Tm,Tn,Tu,Ty,Tz,T6,T7]
  tactic =>
   unfold aCw
   rw[aD v.ps.length (fun i=>s17 i) (fun i=>gP v (v.ps.take i))]
   ·rw[ht]
    have hc:=aKU v.ps
    have hcl:=aGp v.ps
    rcases hv:v.ps with _|⟨q,r⟩
    ·rw[hv]at z
     (sym=>(simp[nJ,Za,Zb,Zc,Zf,Zh,Zl,Zm,Zv,Z3,Z8,ZF,ZG,ZK,ZL,Ya,Yc,Ys,Y9,YX,YZ,Xb,Xi,Xl,Xo,Xr,Xt,Xv,XJ,XL,XN,XQ,We,Wg,Wi,Wm,Ws,W3,W4,W5,W6,W7,W8,W9,WA,WC,WK,WO,WQ,WR,WS,Vv,V9,VA,VC,VD,VE,VF,VG,VJ,VK,VL,VN,VQ,VT,VV,Ua,Uc,Ud,Uf,Ug,Uh,Um,Uu,Uz,U3,U4,U5,U6,U7,U8,U9,UA,UD,UE,UF,Tf,Tg,Tj,Tk,Tl,Tm,Tt,Tu,Tv,Tx,Tz,T0,T4,T6,Su,z,hv];all_goals tactic=>exact rfl))
    ·rw[hv]at z hc hcl
     have hc:dC (cP (q::r)) 0 3 (r.length+1)=(q::r).map pR:=hc
     have b3:((r.length+1)*3≤(cP (q::r)).length)=True:=eq_true (by rw[hcl];simp)
     (sym=>(simp[nJ,Za,Zb,Zc,Zf,Zh,Zl,Zm,Zv,Z3,Z8,ZF,ZG,ZK,ZL,Ya,Yc,Ys,YX,YZ,Xb,Xi,Xl,Xm,Xr,Xt,Xv,XJ,XL,XN,XO,XX,XY,Wa,Wb,We,Wg,Wi,Ws,W3,W4,W5,W6,W7,W8,W9,WA,WC,WK,WO,WQ,WR,WS,Vs,Vt,Vu,Vv,Vw,V5,V6,V7,V9,VA,VC,VD,VE,VF,VG,VJ,VK,VL,VN,VQ,VT,VV,VZ,Ua,Uc,Ud,Uf,Ug,Uh,Ui,Um,Uo,Uu,Uz,U3,U4,U5,U6,U7,U8,U9,UA,UB,UC,UD,UE,UF,Te,Tf,Tg,Tj,Tk,Tl,Tm,Tt,Tu,Tv,Tx,Tz,T0,T4,T6,TJ,Su,Sv,Sw,z,hv,hc,b3];all_goals tactic=>exact rfl))
   ·rw[h0]; (sym=>(simp[nJ,Za,Y9,YX,Xd,Xr,Xx,W3,WE,WF,WH,WI,WK,WL,WM,WO,WQ,WR,WS,WT,WY,WZ,Vf,VR,VS,VZ,Ua,Ub,Uc,Ud,Uf,Uk,Ux,U3,U4,U5,U6,T5,TK];all_goals tactic=>exact rfl))
   ·exact rd
   ·rw[ht]
    rcases hv:v.ps with _|⟨q,r⟩
    ·rw[hv]at z
     (sym=>(simp[nJ,Za,Zb,Zf,Zh,Zl,Zm,Zv,Z3,Z8,ZF,ZG,Ya,Yc,Ys,Y9,W3,W4,W5,WC,VQ,VT,VV,VW,Ua,Uh,Uz,Tf,Tg,Tk,Tt,Tu,Tx,Tz,T0,T6,z,hv];all_goals tactic=>exact rfl))
    ·rw[hv]at z
     (sym=>(simp[nJ,Za,Zb,Zf,Zh,Zl,Zm,Zv,Z3,Z8,ZF,ZG,Ya,Yc,Ys,W3,W4,W5,WC,VQ,VT,VV,VW,VZ,Ug,Ui,Uz,Te,Tf,Tg,Tk,Tt,Tu,Tx,Tz,T0,T6,z,hv];all_goals tactic=>exact rfl))
theorem w15 (v:Va):runW aA 15 [.agg v.c] []=some (.bool (decide (100<v.bs.length)||decide (50<v.ps.length)),[]):=by
 by_cases h1:100<v.bs.length
 ·have c1:((100:Int)<(v.bs.length:Int))=True:=eq_true (by omega)
  rw[decide_eq_true h1,Bool.true_or]
  rw[r15 (by simp)];unfold x15;dsimp only
  (sym=>(simp[nJ,Za,Zb,Zf,Zh,Zl,Zm,Zo,Zp,Zt,Zv,Zy,Zz,Z3,Z8,ZF,ZG,ZV,Ya,Yc,Yu,YY,Xi,Xk,Xl,Xs,XK,We,Wf,Wg,Wi,Ws,W3,W4,W5,WB,WC,WK,WO,WQ,WR,WS,Vv,V9,VA,VC,VD,VE,VF,VG,VJ,VK,VL,VM,VO,VY,Ua,Uc,Ud,Uf,Uh,Ui,Um,Uy,U3,U4,U7,U8,UD,UE,US,UT,Tf,Tg,Tk,Tn,Tt,Tu,Tv,Tz,T6,T7,Su,c1];all_goals tactic=>exact rfl))
 ·have c1:((100:Int)<(v.bs.length:Int))=False:=eq_false (by omega)
  rw[decide_eq_false h1,Bool.false_or]
  by_cases h2:50<v.ps.length
  ·have c2:((50:Int)<(v.ps.length:Int))=True:=eq_true (by omega)
   rw[decide_eq_true h2]
   rw[r15 (by simp)];unfold x15;dsimp only
   (sym=>(simp[nJ,Za,Zb,Zf,Zh,Zl,Zm,Zo,Zp,Zr,Zv,Zy,Zz,Z3,Z8,ZF,ZG,ZW,Ya,Yc,Yu,YY,Xi,Xk,Xl,Xs,XK,We,Wf,Wg,Wi,Ws,W3,W4,W5,WB,WC,WK,WO,WQ,WR,WS,Vv,V9,VA,VC,VD,VE,VF,VG,VJ,VK,VL,VM,VO,VY,Ua,Uc,Ud,Uf,Uh,Ui,Um,Uy,Uz,U3,U4,U7,U8,UD,UE,US,UT,Tf,Tg,Tk,Tn,Tt,Tu,Tv,Tz,T6,T7,Su,c1,c2];all_goals tactic=>exact rfl))
  ·have c2:((50:Int)<(v.ps.length:Int))=False:=eq_false (by omega)
   rw[decide_eq_false h2]
   rw[r15 (by simp)];unfold x15;dsimp only
   (sym=>(simp[nJ,Za,Zb,Zf,Zh,Zl,Zm,Zo,Zp,Zr,Zv,Zy,Zz,Z3,Z8,ZF,ZG,ZW,Ya,Yc,Yu,YY,Xi,Xk,Xl,Xs,XK,We,Wf,Wg,Wi,Ws,W3,W4,W5,WB,WC,WK,WO,WQ,WR,WS,Vv,V9,VA,VC,VD,VE,VF,VG,VJ,VK,VL,VM,VO,VY,Ua,Uc,Ud,Uf,Uh,Ui,Um,Uz,U3,U4,U7,U8,UD,UE,US,UT,Tf,Tg,Tk,Tn,Tt,Tu,Tv,Tz,T6,T7,Su,c1,c2];all_goals tactic=>exact rfl))
theorem aLs {v:Va} (h:100<v.bs.length∨50<v.ps.length):runW aA 15 [.agg v.c] []=some (.bool true,[]):=by
 rw[w15]
 rcases h with h|h
 ·rw[decide_eq_true h,Bool.true_or]
 ·rw[decide_eq_true h,Bool.or_true]
theorem aLt {v:Va} (h:¬(100<v.bs.length∨50<v.ps.length)):runW aA 15 [.agg v.c] []=some (.bool false,[]):=by
 rw[w15,decide_eq_false (by omega),decide_eq_false (by omega)]
 rfl
def lgE (ws:List (List Int)) (i:Nat):Int:=if 40<(ws.getD i []).length then 1 else 0
abbrev gV6 (v:Va):XH:=[some (.blk true (.cells true v.c))]
abbrev s6 (ws:List (List Int)) (i:Nat):List AV:=[wL ws,.pt 0 0,I (i:Nat)]
theorem aIO {v:Va} {ws:List (List Int)} (hws:ws.length<1000000000) {i:Nat} (hi:i<ws.length) (h0:lgE ws i=0) :
 aV 0 [1,2,5] (execW aA 6 0 none (match aEh with | .loop _ a=>a|c=>c) (aS [1,2,5] (s6 ws i)) (gV6 v))=some (s6 ws (i+1),gV6 v):=by
 obtain⟨w,hx⟩:=bK hi
 unfold lgE at h0
 rw[aO hx]at h0
 have c1:((40:Int)<(w.length:Int))=False:=eq_false (by intro h;rw[if_pos (by omega)]at h0;simp at h0)
 have a1:=cT hi
 have a2:=fD hi (by omega)
 unfold aEh
 dsimp only
 (sym=>(simp[Za,Zb,Zf,Zh,Zl,Zm,Zv,Z3,ZA,ZF,ZG,Yc,Yg,Yh,Yj,Ys,Yu,Yw,Yx,YX,Xb,Xd,Xr,Xv,Xx,W3,WC,WE,WH,WI,WK,WL,WM,WO,WQ,WR,WS,WT,WY,WZ,Vf,VQ,VR,VS,VT,VU,VV,VZ,Ua,Uc,Ud,Uf,Ug,Uh,Ui,Uj,Uk,Uu,Ux,Uy,Uz,U3,U4,U5,U6,Th,Ti,Tk,Tt,Tu,Tw,Ty,Tz,T2,T5,T6,T7,TK,a1,a2,hx,c1];all_goals tactic=>exact rfl))
theorem w6 (v:Va) (ws:List (List Int)):runW aA 6 [.agg v.c,wL ws] []=some (.bool true,[]):=by
 by_cases hl:100<v.bs.length∨50<v.ps.length
 ·have h15:=aLs hl
  rw[r6 (by simp)];unfold x6;dsimp only
  (sym=>(simp[Za,Zb,Zf,Zg,Zh,Zj,Zl,Zm,Zo,Zp,Zt,Zv,Zy,Zz,ZG,ZO,ZP,ZT,ZU,ZV,YX,YY,YZ,Xb,Xi,Xk,Xl,Xr,Xs,Xt,Xv,XK,We,Wf,Wg,Wi,Ws,W3,W4,W5,W7,W8,W9,WA,WB,WK,WN,WO,WP,WQ,WR,WS,WU,WV,Vi,Vj,Vk,Vv,Vx,Vy,V0,V1,V3,V9,VA,VC,VD,VE,VF,VG,VJ,VK,VL,VM,VO,VT,VU,VY,VZ,Ua,Uc,Ud,Uf,Ug,Uh,Um,U2,U3,U4,U5,U6,U7,U8,UD,UE,US,UT,Tf,Tg,Tj,Tn,Tu,Tv,Tz,T1,T6,T7,Su,SB,SC,SD,SF,SG,SI,h15,pU];all_goals tactic=>exact rfl))
 ·have h15:=aLt hl
  by_cases h30:30<ws.length
  ·have a1:((30:Int)<(ws.length:Int))=True:=eq_true (by omega)
   rw[r6 (by simp)];unfold x6;dsimp only
   (sym=>(simp[Za,Zb,Zf,Zg,Zh,Zj,Zl,Zm,Zo,Zp,Zr,Zv,Zy,Zz,Z3,ZF,ZG,ZO,ZP,ZT,ZU,ZW,Yc,Yu,YX,YY,YZ,Xb,Xi,Xk,Xl,Xr,Xs,Xt,Xv,XK,We,Wf,Wg,Wi,Ws,W3,W4,W5,W7,W8,W9,WA,WB,WK,WN,WO,WP,WQ,WR,WS,WU,WV,Vi,Vj,Vk,Vv,Vx,Vy,V0,V1,V3,V9,VA,VC,VD,VE,VF,VG,VJ,VK,VL,VM,VO,VT,VU,VY,VZ,Ua,Uc,Ud,Uf,Ug,Uh,Ui,Um,Uy,U2,U3,U4,U5,U6,U7,U8,UD,UE,US,UT,Tf,Tg,Tj,Tn,Tt,Tu,Tv,Tz,T1,T6,T7,Su,SB,SC,SD,SF,SG,SI,h15,a1,pU];all_goals tactic=>exact rfl))
  ·have a1:((30:Int)<(ws.length:Int))=False:=eq_false (by omega)
   have hb:v.bs.length<1000000000:=by omega
   have hp:v.ps.length<1000000000:=by omega
   have h17:=w17 v (by omega)
   have hws:ws.length<1000000000:=by omega
   have z:=Te (n:=(ws.length:Int))
   obtain⟨m,m1,m2,m3⟩:=cH (lgE ws) ws.length
   have rd:=fun i (hi:i<m)=>aIO (v:=v) hws (i:=i) (by omega) (m2 i hi)
   rcases m3 with ⟨rfl,m4⟩|⟨m3,m4,m5⟩
   ·have hw:∀ w∈ws,w.length<1000000:=by
     intro w hw
     obtain⟨j,hj⟩:=List.getElem?_of_mem hw
     have h0:=m2 j (eI hj)
     unfold lgE at h0
     rw[aO hj]at h0
     by_cases h:40<w.length
     ·rw[if_pos h]at h0;simp at h0
     ·omega
    obtain⟨e,h35,h34⟩:=aIE v hb hp hws hw
    rw[r6 (by simp)];unfold x6;dsimp only
    sym =>
     simp[Za,Zb,Zf,Zg,Zh,Zj,Zl,Zm,Zo,Zp,Zr,Zv,Zy,Zz,Z3,ZF,ZG,ZO,ZP,ZT,ZU,ZW,Yc,Yu,YX,YZ,Xb,Xi,Xk,Xl,Xr,Xs,Xt,Xv,We,Wg,Wi,Ws,W3,W4,W5,W7,W8,W9,WA,WB,WK,WN,WP,WU,WV,Vi,Vj,Vk,Vv,Vx,Vy,V0,V1,V3,VO,VT,VV,VY,VZ,Ua,Uc,Ud,Ug,Uh,Ui,Um,Uz,U2,U3,U4,U5,U6,U7,U8,UD,UE,US,UT,Tf,Tg,Tj,Tn,Tt,Tu,Tw,Ty,Tz,T6,T7,SB,SC,SD,SF,SG,SI,h15,a1]
     tactic =>
      unfold aEh
      rw[aD ws.length (fun i=>s6 ws i) (fun _=>gV6 v)]
      ·(sym=>(simp[Za,Zb,Ze,Zf,Zg,Zh,Zk,Zl,Zm,Zp,Zq,Zv,Zy,Z3,ZF,ZH,ZJ,ZM,ZQ,ZR,ZT,ZU,ZV,Yc,Yq,Ys,YX,YY,YZ,Xb,Xr,Xs,Xt,Xv,XK,XN,Wf,Wi,W3,W4,W5,W7,W8,W9,WA,WK,WN,WO,WP,WQ,WR,WS,WU,WV,Vi,Vj,Vk,Vm,Vo,Vp,Vq,Vv,Vx,Vy,Vz,V0,V1,V3,V9,VA,VC,VD,VE,VF,VG,VJ,VK,VL,VM,VQ,VT,VV,VZ,Ua,Uc,Ud,Uf,Ug,Uh,Ui,Um,Ur,Us,Ut,Uy,Uz,U0,U1,U2,U3,U4,U5,U6,Te,Tf,Tg,Tj,Tt,Tu,Tv,Tx,Tz,T0,T4,T6,T7,Su,SB,SC,SD,SE,SF,SG,SI,z,h17,h35,h34,pU];all_goals tactic=>exact rfl))
      ·(sym=>(simp[Za,Y9,YX,Xb,Xd,Xr,Xv,Xx,W3,WB,WE,WH,WI,WK,WL,WM,WO,WQ,WR,WS,WT,WY,WZ,Vf,VO,VR,VS,VZ,Ua,Uc,Ud,Uf,Uk,Ux,U3,U4,U5,U6,T5,TK];all_goals tactic=>exact rfl))
      ·exact rd
      ·(sym=>(simp[Za,Zb,Zf,Zh,Zl,Zm,Zv,Z3,ZF,Yc,Ys,VQ,VT,VV,VW,Ui,Uz,Te,Tt,Tu,Tx,Tz,T0,T6,z];all_goals tactic=>exact rfl))
   ·obtain⟨w,hx⟩:=bK m3
    have a2:=cT m3
    unfold lgE at m4
    rw[aO hx]at m4
    have c1:((40:Int)<(w.length:Int))=True:=eq_true (by
     by_cases h:40<w.length
     ·omega
     ·rw[if_neg h]at m4;simp at m4)
    rw[r6 (by simp)];unfold x6;dsimp only
    sym =>
     simp[Za,Zb,Zf,Zg,Zh,Zj,Zl,Zm,Zo,Zp,Zr,Zv,Zy,Zz,Z3,ZF,ZG,ZO,ZP,ZT,ZU,ZW,Yc,Yu,YX,YZ,Xb,Xi,Xk,Xl,Xr,Xs,Xt,Xv,We,Wg,Wi,Ws,W3,W4,W5,W7,W8,W9,WA,WB,WK,WN,WP,WU,WV,Vi,Vj,Vk,Vv,Vx,Vy,V0,V1,V3,VO,VT,VV,VY,VZ,Ua,Uc,Ud,Ug,Uh,Ui,Um,Uz,U2,U3,U4,U5,U6,U7,U8,UD,UE,US,UT,Tf,Tg,Tj,Tn,Tt,Tu,Tw,Ty,Tz,T6,T7,SB,SC,SD,SF,SG,SI,h15,a1]
     tactic =>
      unfold aEh
      rw[aD m (fun i=>s6 ws i) (fun _=>gV6 v)]
      ·(sym=>(simp[Za,Zb,Zf,Zh,Zl,Zm,Zv,Z3,ZA,ZF,ZG,ZO,ZP,ZT,ZU,Yc,Yg,Yh,Ys,Yu,Yw,Yx,YY,Xs,XK,Wf,WA,WC,WK,WN,WO,WP,WQ,WR,WS,WU,WV,Vi,Vj,Vk,Vv,V9,VA,VC,VD,VE,VF,VG,VJ,VK,VL,VM,VQ,VT,VU,Ua,Ud,Uf,Ug,Uh,Ui,Uj,Uk,Uu,Uy,U2,U3,U4,U5,Th,Ti,Tk,Tt,Tu,Tv,Tw,Ty,Tz,T1,T3,T6,T7,Su,a2,hx,c1,pU];all_goals tactic=>exact rfl))
      ·(sym=>(simp[Za,Y9,YX,Xb,Xd,Xr,Xv,Xx,W3,WB,WE,WH,WI,WK,WL,WM,WO,WQ,WR,WS,WT,WY,WZ,Vf,VO,VR,VS,VZ,Ua,Uc,Ud,Uf,Uk,Ux,U3,U4,U5,U6,T5,TK];all_goals tactic=>exact rfl))
      ·exact rd
      ·(sym=>(simp[Za,Zb,Zf,Zh,Zl,Zm,Zv,Z3,ZA,ZF,ZG,ZO,ZP,ZT,ZU,Yc,Yg,Yh,Ys,Yu,Yw,Yx,Xs,WA,WC,WK,WN,WP,WU,WV,Vi,Vj,Vk,VQ,VT,VU,VX,Ua,Ud,Ug,Uh,Ui,Uj,Uk,Uu,Uy,U2,U3,U5,Th,Ti,Tk,Tt,Tu,Tv,Tw,Ty,Tz,T1,T3,T6,T7,a2,hx,c1,pU];all_goals tactic=>exact rfl))
end Go.Proofs.YtiabjdfdkiijmaaDoor
