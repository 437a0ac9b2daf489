/- Parts of a proof, joined: K67 K68 K69 K70 K71 K72 K73 K74 K75 K76 K77 K78 K79 K80 K81 K82 K83. No statement of the seed is proved here. -/
import Derived.KernelRfl
import Derived.Test.YtiabjdfdkiijmaaDoorI6
set_option linter.unusedSimpArgs false
set_option linter.unusedVariables false
set_option linter.unusedSectionVars false
namespace Go.Proofs.YtiabjdfdkiijmaaDoor
open Go Go.DL
set_option maxRecDepth 100000
set_option maxHeartbeats 4000000
section
variable {x:Vn} (ok:x.Ok) {ws:List (List Int)} (hws:ws.length≤100) (hw:∀ w∈ws,w.length<1000000) {u i:Nat} (hu:u<2^x.F)
include ok hw hu in
theorem aJX {w:List Int} (hx:ws[i]?=some w) (h0:oZ x u w≠0):∃ e h,
 execW aA 35 0 none (match iI with | .loop _ a=>a|c=>c) (aR [2,5,7,27,28,29] (s35 ws u i)) (pX x)=some (.ret,e,h)∧bA none x35.res x35.ownR 0 (some (.ret,e,h))=some (I (oZ x u w),[]):=by
 have hi:=fP hx
 have hwl:=hw w (List.mem_of_getElem? hx)
 have a1:=cU hi
 unfold oZ at h0 ⊢
 by_cases hn:w=[]
 ·rw[if_pos hn]
  subst hn
  refine bY ?_ ?_
  ·unfold iI;dsimp only; (sym=>(simp[Za,Zb,Zf,Zh,Zl,Zm,Zv,Z3,ZA,ZF,ZG,Yc,Yg,Yh,Yq,Ys,Yw,Yx,Y9,WC,VQ,VT,VU,VX,Ua,Ug,Uh,Ui,Uj,Uk,Uu,Uy,Th,Ti,Tk,Tt,Tu,Tv,Tw,Ty,Tz,T1,T3,T6,T7,a1,hx];all_goals tactic=>exact rfl))
  ·unfold iI;dsimp only; (sym=>(simp[Za,Zb,Zf,Zh,Zl,Zm,Zv,Z3,ZA,ZF,ZG,Yc,Yg,Yh,Yq,Ys,Yw,Yx,Y9,WC,V9,VF,VQ,VT,VU,Ua,Ug,Uh,Ui,Uj,Uk,Uu,Uy,Th,Ti,Tk,Tt,Tu,Tv,Tw,Ty,Tz,T1,T3,T6,T7,a1,hx];all_goals tactic=>exact rfl))
 rw[if_neg hn]at h0 ⊢
 have wpos:0<w.length:=List.length_pos_iff.2 hn
 by_cases hf:cB (noF x w) w.length=0
 ·rw[if_neg (by simpa using hf)]at h0 ⊢
  obtain⟨ks,rfl,hks⟩:=zX hf
  rw[jB,bZ]at *
  have hkn:ks≠[]:=fun h=>hn (by rw[h];rfl)
  have e70:=w70 ok (w:=dA ks) (by rw[bZ];omega)
  rw[bZ,hf,show decide ((0:Int)≠0)=false from by decide]at e70
  have e72:=w72 ok hks hwl hkn
  have gl:=bZ ks
  have c0:((ks.length:Int)=0)=False:=eq_false (by omega)
  cases hld:lS x ks
  ·rw[hld]at e72
   rw[if_neg (by simp)]
   generalize dA ks=os at *
   refine bY ?_ ?_
   ·unfold iI;dsimp only; (sym=>(simp[Za,Zb,Zf,Zg,Zh,Zj,Zl,Zm,Zv,Zx,Z3,Z5,ZA,ZF,ZG,ZO,ZP,ZT,ZU,ZX,Yc,Yg,Yh,Yq,Ys,Yw,Yx,Xb,Xd,Xg,Xs,Xv,Xx,X0,XN,XP,Wi,Wl,W3,W6,W9,WA,WC,WE,WG,WH,WK,WL,WM,WN,WP,WQ,WU,WV,WW,WY,WZ,Vf,Vi,Vj,Vk,Vl,Vv,Vx,Vy,Vz,VQ,VT,VU,VV,VX,VZ,Ua,Uc,Ud,Ug,Uh,Ui,Uj,Uk,Ur,Uu,Ux,Uy,Uz,U2,U3,U4,U5,U6,Th,Ti,Tk,Tt,Tu,Tv,Tw,Ty,Tz,T1,T3,T6,T7,Sw,SD,SE,SG,SI,SJ,SK,a1,hx,gl,c0,e70,e72];all_goals tactic=>exact rfl))
   ·unfold iI;dsimp only; (sym=>(simp[Za,Zb,Zf,Zg,Zh,Zj,Zl,Zm,Zv,Zx,Z3,Z5,ZA,ZF,ZG,ZO,ZP,ZT,ZU,ZX,Yc,Yg,Yh,Yq,Ys,Yw,Yx,Xb,Xd,Xg,Xs,Xv,Xx,X0,XN,XP,Wi,Wl,W3,W6,W9,WA,WC,WE,WG,WH,WK,WL,WM,WN,WP,WQ,WU,WV,WW,WY,WZ,Vf,Vi,Vj,Vk,Vl,Vv,Vx,Vy,Vz,V9,VF,VQ,VT,VU,VV,VZ,Ua,Uc,Ud,Ug,Uh,Ui,Uj,Uk,Ur,Uu,Ux,Uy,Uz,U2,U3,U4,U5,U6,Th,Ti,Tk,Tt,Tu,Tv,Tw,Ty,Tz,T1,T3,T6,T7,Sw,SD,SE,SG,SI,SJ,SK,a1,hx,gl,c0,e70,e72];all_goals tactic=>exact rfl))
  ·rw[hld]at e72
   rw[hld,if_pos rfl]at h0
   rw[if_pos rfl]
   have hcf:cB (cfE x u ks) ks.length≠0:=by
    by_cases h:cB (cfE x u ks) ks.length=0
    ·rw[if_neg (by simpa using h)]at h0;exact absurd rfl h0
    ·exact h
   rw[if_pos hcf]
   obtain⟨m,m1,m2,m3⟩:=cN (cfE x u ks) ks.length
   rcases m3 with ⟨_,m4⟩|⟨m3,m4,_⟩
   ·exact absurd m4 hcf
   ·have rda:=fun j (hj:j<m)=>aAG (ws:=ws) (i:=i) ok hks hwl hu (show j<ks.length by omega) (m2 j hj)
    obtain⟨e,hh,q1,q2⟩:=aIy (ws:=ws) (i:=i) ok hks hu m3 m4
    refine bY ?_ ?_
    ·unfold iI
     dsimp only
     sym =>
      simp[Za,Zb,Zf,Zg,Zh,Zj,Zl,Zm,Zv,Zx,Z3,Z5,ZA,ZF,ZG,ZO,ZP,ZT,ZU,ZX,Yc,Yg,Yh,Yq,Ys,Yw,Yx,Xb,Xd,Xg,Xs,Xv,Xx,X0,XN,XP,Wi,Wl,W3,W6,W9,WA,WC,WE,WG,WH,WK,WL,WM,WN,WP,WQ,WU,WV,WW,WY,WZ,Vf,Vi,Vj,Vk,Vl,Vv,Vx,Vy,Vz,VQ,VT,VU,VV,VZ,Ua,Uc,Ud,Ug,Uh,Ui,Uj,Uk,Uq,Uu,Ux,Uy,Uz,U2,U3,U4,U5,U6,Th,Ti,Tk,Tt,Tu,Tw,Ty,Tz,T2,T6,T7,Sw,SD,SE,SG,SI,SJ,SK,a1,hx,gl,c0,e70,e72]
      tactic =>
       unfold kO
       rw[aE m (fun j=>zO ws ks u i j) (fun _=>pX x)]
       ·unfold kO at q1
        dsimp only at q1
        rw[q1]
        rfl
       ·(sym=>(simp[Za,Y9,YX,Xb,Xd,Xr,Xv,Xx,Wi,Wl,W3,WE,WF,WH,WI,WK,WL,WM,WO,WQ,WR,WS,WT,WY,WZ,Vf,VQ,VR,VS,VZ,Ua,Ub,Uc,Ud,Uf,Uk,Ux,U3,U4,U5,U6,T5,TK,SE,SG,gl];all_goals tactic=>exact rfl))
       ·exact rda
       ·unfold kO at q1
        dsimp only at q1
        rw[q1]
        rfl
    ·unfold iI
     dsimp only
     sym =>
      simp[Za,Zb,Zf,Zg,Zh,Zj,Zl,Zm,Zv,Zx,Z3,Z5,ZA,ZF,ZG,ZO,ZP,ZT,ZU,ZX,Yc,Yg,Yh,Yq,Ys,Yw,Yx,Xb,Xd,Xg,Xs,Xv,Xx,X0,XN,XP,Wi,Wl,W3,W6,W9,WA,WC,WE,WG,WH,WK,WL,WM,WN,WP,WQ,WU,WV,WW,WY,WZ,Vf,Vi,Vj,Vk,Vl,Vv,Vx,Vy,Vz,VQ,VT,VU,VV,VZ,Ua,Uc,Ud,Ug,Uh,Ui,Uj,Uk,Uq,Uu,Ux,Uy,Uz,U2,U3,U4,U5,U6,Th,Ti,Tk,Tt,Tu,Tw,Ty,Tz,T2,T6,T7,Sw,SD,SE,SG,SI,SJ,SK,a1,hx,gl,c0,e70,e72]
      tactic =>
       unfold kO
       rw[aE m (fun j=>zO ws ks u i j) (fun _=>pX x)]
       ·unfold kO at q1
        dsimp only at q1
        rw[q1]
        exact q2
       ·(sym=>(simp[Za,Y9,YX,Xb,Xd,Xr,Xv,Xx,Wi,Wl,W3,WE,WF,WH,WI,WK,WL,WM,WO,WQ,WR,WS,WT,WY,WZ,Vf,VQ,VR,VS,VZ,Ua,Ub,Uc,Ud,Uf,Uk,Ux,U3,U4,U5,U6,T5,TK,SE,SG,gl];all_goals tactic=>exact rfl))
       ·exact rda
       ·unfold kO at q1
        dsimp only at q1
        rw[q1]
        rfl
 ·rw[if_pos (by simpa using hf)]
  have e70:=w70 ok (w:=w) (by omega)
  rw[decide_eq_true hf]at e70
  have c0:((w.length:Int)=0)=False:=eq_false (by omega)
  refine bY ?_ ?_
  ·unfold iI;dsimp only; (sym=>(simp[Za,Zb,Zf,Zg,Zh,Zj,Zl,Zm,Zv,Zx,Z3,ZA,ZF,ZG,ZO,ZP,ZT,ZU,Yc,Yg,Yh,Yq,Ys,Yw,Yx,Xb,Xd,Xg,Xs,Xv,Xx,X0,XN,Wi,W3,W6,W9,WA,WC,WE,WG,WH,WK,WL,WM,WN,WP,WQ,WU,WV,WW,WY,WZ,Vf,Vi,Vj,Vk,Vl,Vv,Vx,Vy,Vz,VQ,VT,VU,VV,VX,VZ,Ua,Uc,Ud,Ug,Uh,Ui,Uj,Uk,Uu,Ux,Uy,Uz,U2,U3,U4,U5,U6,Th,Ti,Tk,Tt,Tu,Tv,Tw,Ty,Tz,T1,T3,T6,T7,Sw,SD,SE,SG,SI,SJ,SK,a1,hx,c0,e70];all_goals tactic=>exact rfl))
  ·unfold iI;dsimp only; (sym=>(simp[Za,Zb,Zf,Zg,Zh,Zj,Zl,Zm,Zv,Zx,Z3,ZA,ZF,ZG,ZO,ZP,ZT,ZU,Yc,Yg,Yh,Yq,Ys,Yw,Yx,Xb,Xd,Xg,Xs,Xv,Xx,X0,XN,Wi,W3,W6,W9,WA,WC,WE,WG,WH,WK,WL,WM,WN,WP,WQ,WU,WV,WW,WY,WZ,Vf,Vi,Vj,Vk,Vl,Vv,Vx,Vy,Vz,V9,VF,VQ,VT,VU,VV,VZ,Ua,Uc,Ud,Ug,Uh,Ui,Uj,Uk,Uu,Ux,Uy,Uz,U2,U3,U4,U5,U6,Th,Ti,Tk,Tt,Tu,Tv,Tw,Ty,Tz,T1,T3,T6,T7,Sw,SD,SE,SG,SI,SJ,SK,a1,hx,c0,e70];all_goals tactic=>exact rfl))
end
def usN (ws:List (List Int)) (i:Nat):Nat:=(ws.take i).foldl uWi 0
theorem aBE {ws:List (List Int)} {i:Nat} {w:List Int} (h:ws[i]?=some w):usN ws (i+1)=uWi (usN ws i) w:=iH h 0
def xD (x:Vn) (ws:List (List Int)) (i:Nat):Int:=oZ x (usN ws i) (ws.getD i [])
def aDN (x:Vn) (ws:List (List Int)):Int:=if 16<ws.length then 1 else cB (xD x ws) ws.length
theorem aAr {x:Vn} {u:Nat} {w:List Int} (h:oZ x u w=0):∃ ks:List Nat,w=dA ks∧∀ k∈ks,k<x.F:=by
 unfold oZ at h
 by_cases hn:w=[]
 ·rw[if_pos hn]at h;simp at h
 ·rw[if_neg hn]at h
  by_cases hf:cB (noF x w) w.length=0
  ·exact zX hf
  ·rw[if_pos hf]at h;simp at h
theorem aEM {x:Vn} {ws:List (List Int)}:∀ i,i≤ws.length→(∀ j,j<i→xD x ws j=0)→usN ws i<2^x.F
 | 0,_,_=>Nat.two_pow_pos _
 | i+1,hi,h=>by
   have ih:=aEM i (by omega) (fun j hj=>h j (by omega))
   obtain⟨w,hw⟩:=bG (l:=ws) (i:=i) (by omega)
   have h0:=h i (by omega)
   unfold xD at h0
   rw[aW hw]at h0
   obtain⟨ks,rfl,hks⟩:=aAr h0
   rw[aBE hw,uWi,jB]
   exact aEO ih hks _
theorem w35 {x:Vn} (ok:x.Ok) {ws:List (List Int)} (hws:ws.length<1000000000) (hw:∀ w∈ws,w.length<1000000):runW aA 35 [.agg x.c,wL ws] []=some (I (aDN x ws),[]):=by
 have h23:=ok.h23
 have e56:=w56 ok h23
 have z:=Te (n:=(ws.length:Int))
 unfold aDN
 by_cases h16:16<ws.length
 ·rw[if_pos h16]
  have c1:((16:Int)<(ws.length:Int))=True:=eq_true (by omega)
  rw[r35 (by simp)];unfold x35;dsimp only
  (sym=>(simp[Za,Zb,Zf,Zg,Zh,Zj,Zl,Zm,Zo,Zv,Zz,Z3,ZE,ZF,ZG,ZO,ZP,ZT,ZU,Yc,Yi,Yr,Yu,YX,YZ,Xb,Xi,Xk,Xl,Xr,Xt,Xu,Xv,Xx,XJ,We,Wg,Wi,Ws,W3,W4,W5,W7,W8,W9,WB,WC,WJ,WK,WN,WO,WQ,WR,WS,WU,WV,WY,WZ,Vi,Vj,Vk,Vv,Vx,Vy,V0,V1,V3,V9,VA,VC,VD,VE,VF,VG,VJ,VK,VL,VM,VO,VT,VU,VV,VY,VZ,Ua,Ub,Uc,Ud,Uf,Ug,Uh,Ui,Um,Uq,Uy,U3,U4,U5,U6,U7,U8,UD,UE,US,UT,Tf,Tg,Tj,Tn,Tt,Tu,Tv,Ty,Tz,T1,T3,T6,T7,Sw,SD,SE,SF,SI,SJ,SK,e56,c1];all_goals tactic=>exact rfl))
 ·rw[if_neg h16]
  have c1:((16:Int)<(ws.length:Int))=False:=eq_false (by omega)
  have u0:usN ws 0=0:=rfl
  obtain⟨m,m1,m2,m3⟩:=cN (xD x ws) ws.length
  have hus:=fun i (hi:i≤m)=>aEM (x:=x) (ws:=ws) i (by omega) (fun j hj=>m2 j (by omega))
  have rd:∀ i,i<m→aV 0 [2,5,7,27,28,29] (execW aA 35 0 none (match iI with | .loop _ a=>a|c=>c) (aR [2,5,7,27,28,29] (s35 ws (usN ws i) i)) (pX x))=some (s35 ws (usN ws (i+1)) (i+1),pX x):=by
   intro i hi
   obtain⟨w,hx⟩:=bG (l:=ws) (i:=i) (by omega)
   have h0:=m2 i hi
   unfold xD at h0
   rw[aW hx]at h0
   rw[aBE hx]
   exact(aHN ok (by omega) hw (hus i (by omega)) hx h0).1
  rcases m3 with ⟨rfl,m4⟩|⟨m3,m4,m5⟩
  ·rw[m4]
   generalize huF:usN ws ws.length=uF at *
   rw[r35 (by simp)];unfold x35;dsimp only
   sym =>
    simp[Za,Zb,Zf,Zg,Zh,Zj,Zl,Zm,Zo,Zv,Zz,Z3,ZE,ZF,ZG,ZO,ZP,ZT,ZU,Yc,Yi,Yr,Yu,YX,YZ,Xb,Xi,Xk,Xl,Xr,Xt,Xu,Xv,Xx,We,Wg,Wi,Ws,W3,W4,W5,W7,W8,W9,WB,WC,WJ,WK,WN,WQ,WU,WV,WY,WZ,Vi,Vj,Vk,Vv,Vx,Vy,V0,V1,V3,VO,VT,VV,VY,VZ,Ua,Ub,Uc,Ud,Ug,Uh,Ui,Um,Uq,Uy,Uz,U3,U4,U5,U6,U7,U8,UD,UE,US,UT,Tf,Tg,Tj,Tn,Tt,Tu,Tw,Ty,Tz,T2,T6,T7,SD,SE,SF,SI,SJ,SK,e56,c1]
    tactic =>
     unfold iI
     rw[aE ws.length (fun i=>s35 ws (usN ws i) i) (fun _=>pX x)]
     ·rw[huF]; (sym=>(simp[Za,Zb,Zf,Zh,Zl,Zm,Zv,Z3,Ys,YX,Xr,XJ,We,WK,WO,WQ,WR,WS,Vv,V9,VA,VC,VD,VE,VF,VG,VJ,VK,VL,VM,VQ,VT,VV,Ua,Ud,Uf,Uz,U3,U4,Te,Tt,Tu,Tv,Tx,Tz,T0,T4,T6,T7,Sw,z];all_goals tactic=>exact rfl))
     ·rw[u0]; (sym=>(simp[Za,Y9,YX,Xb,Xd,Xr,Xv,Xx,W3,WE,WF,WH,WI,WK,WL,WM,WO,WQ,WR,WS,WT,WY,WZ,Vf,VR,VS,VZ,Ua,Ub,Uc,Ud,Uf,Uk,Ux,U3,U4,U5,U6,T5,TK];all_goals tactic=>exact rfl))
     ·exact rd
     ·rw[huF]; (sym=>(simp[Za,Zb,Zf,Zh,Zl,Zm,Z3,Ys,VQ,VT,VV,VW,Uz,Te,Tt,Tu,Tx,Tz,T0,T6,z];all_goals tactic=>exact rfl))
  ·rw[m5]
   obtain⟨w,hx⟩:=bG m3
   unfold xD at m4 ⊢
   rw[aW hx]at m4 ⊢
   obtain⟨e,hh,q1,q2⟩:=aJX ok hw (hus m (Nat.le_refl _)) hx m4
   generalize oZ x (usN ws m) w=er at *
   rw[r35 (by simp)];unfold x35;dsimp only
   sym =>
    simp[Za,Zb,Zf,Zg,Zh,Zj,Zl,Zm,Zo,Zv,Zz,Z3,ZE,ZF,ZG,ZO,ZP,ZT,ZU,Yc,Yi,Yr,Yu,YX,YZ,Xb,Xi,Xk,Xl,Xr,Xt,Xu,Xv,Xx,We,Wg,Wi,Ws,W3,W4,W5,W7,W8,W9,WB,WC,WJ,WK,WN,WQ,WU,WV,WY,WZ,Vi,Vj,Vk,Vv,Vx,Vy,V0,V1,V3,VO,VT,VV,VY,VZ,Ua,Ub,Uc,Ud,Ug,Uh,Ui,Um,Uq,Uy,Uz,U3,U4,U5,U6,U7,U8,UD,UE,US,UT,Tf,Tg,Tj,Tn,Tt,Tu,Tw,Ty,Tz,T2,T6,T7,SD,SE,SF,SI,SJ,SK,e56,c1]
    tactic =>
     unfold iI
     rw[aE m (fun i=>s35 ws (usN ws i) i) (fun _=>pX x)]
     ·unfold iI at q1
      dsimp only at q1
      rw[q1]
      exact q2
     ·rw[u0]; (sym=>(simp[Za,Y9,YX,Xb,Xd,Xr,Xv,Xx,W3,WE,WF,WH,WI,WK,WL,WM,WO,WQ,WR,WS,WT,WY,WZ,Vf,VR,VS,VZ,Ua,Ub,Uc,Ud,Uf,Uk,Ux,U3,U4,U5,U6,T5,TK];all_goals tactic=>exact rfl))
     ·exact rd
     ·unfold iI at q1
      dsimp only at q1
      rw[q1]
      rfl
theorem aAu (ks:List Nat) (f:Nat):(dY ks ks.length).testBit f=true↔f∈ks:=by
 have:∀ (l:List Nat) (o:Nat),(l.foldl (fun s k=>s|||2^k) o).testBit f=true↔o.testBit f=true∨f∈l:=by
  intro l
  induction l with
  | nil=>intro o;simp
  | cons k l ih =>
    intro o
    rw[List.foldl_cons,ih,dL,Bool.or_eq_true,decide_eq_true_eq,List.mem_cons,or_assoc]
    have:(k=f)↔(f=k):=⟨Eq.symm,Eq.symm⟩
    rw[this]
 rw[dY,List.take_length,this];simp
theorem aLd (u:Nat) (ks:List Nat):uW u ks ks.length=u|||dY ks ks.length:=by
 have:∀ (l:List Nat) (o:Nat),l.foldl (fun s k=>s|||2^k) o=o|||l.foldl (fun s k=>s|||2^k) 0:=by
  intro l
  induction l with
  | nil=>intro o;simp
  | cons k l ih =>
    intro o
    rw[List.foldl_cons,List.foldl_cons,ih,ih (0|||2^k),Nat.zero_or,Nat.or_assoc]
 rw[uW,dY,List.take_length,this]
section
variable {x:Vn} (ok:x.Ok) {ws:List (List Int)} {u i:Nat}
end
section
variable {x:Vn} (ok:x.Ok) {ws:List (List Int)} (hws:ws.length≤100) (hw:∀ w∈ws,w.length<1000000) {u i:Nat} (hu:u<2^x.F)
include ok hu in
end
section
variable {x:Vn} (ok:x.Ok) {ws:List (List Int)} (hws:ws.length≤100) (hw:∀ w∈ws,w.length<1000000) {u i:Nat} (hu:u<2^x.F)
include ok hws hw hu in
end
theorem w67 (k:Int):runW aA 67 [I k] []=some (.bool (decide (0<k)),[]):=by
 rcases ptf (0<k)with h|h
 ·rw[show decide (0<k)=true from by simp[h]]
  rw[r67 (by simp)];unfold x67;dsimp only
  (sym=>(simp[aJ,aI,aK,aL,aS,aF,Za,Zb,Zf,Zh,Zl,Zm,Zv,Z3,Yu,YY,Xs,XK,We,Wf,WB,WK,WO,WP,WR,WS,Vv,V9,VA,VC,VD,VE,VF,VG,VJ,VK,VL,VM,VO,VY,Ua,Ud,Uf,Uh,Uy,U2,U3,U4,UD,UE,Tt,Tu,Tv,Tz,T6,T7,Sw,h];all_goals tactic=>exact rfl))
 ·rw[show decide (0<k)=false from by simp[h]]
  rw[r67 (by simp)];unfold x67;dsimp only
  (sym=>(simp[aJ,aI,aK,aL,aS,aF,Za,Zb,Zf,Zh,Zl,Zm,Zv,Z3,Yu,YY,Xs,XK,We,Wf,WB,WK,WO,WP,WR,WS,Vv,V9,VA,VC,VD,VE,VF,VG,VJ,VK,VL,VM,VO,VY,Ua,Ud,Uf,Uh,Uz,U2,U3,U4,UD,UE,Tt,Tu,Tv,Tz,T6,T7,Sw,h];all_goals tactic=>exact rfl))
def goE (fl:Nat→Nat→Int) (a i:Nat):Int:=if 0<fl a i then 1 else 0
section
variable {l:List AV} {fl:Nat→Nat→Int} {a:Nat} (ha:a<34)
abbrev s66 (a i:Nat):List AV:=[.sl 0 (1+a*34) 1 34,.fn (.func 67) [] [],I 34,I (i:Nat)]
include ha in
theorem aFq {i:Nat} (hi:i<34) (h0:goE fl a i=0) :
 aV 2 [0,1,7,8] (execW aA 66 2 none (match hG with | .loop _ a=>a|c=>c) (aR [0,1,7,8] (s66 a i)) (gN l fl))=some (s66 a (i+1),gN l fl):=by
 have a1:((i:Int)<34)=True:=eq_true (by omega)
 have a0:((0:Int)≤i)=True:=eq_true (by omega)
 have a2:IntKind.i64.wrap ((i:Int)+1)=(i:Int)+1:=aD (by omega) (by omega)
 have k1:=bM (v:=.pt 1 0) (fl:=fl) ha hi
 have e:=w67 (fl a i)
 unfold goE at h0
 have hk:¬0<fl a i:=fun h=>by rw[if_pos h]at h0;simp at h0
 rw[decide_eq_false hk]at e
 unfold hG
 dsimp only
 (sym=>(simp[aJ,aI,aK,aL,aS,aF,Za,Zb,Zf,Zh,Zl,Zm,Zv,Z3,ZA,ZG,ZO,ZP,ZT,ZU,Yf,Yj,Ys,Yw,Yx,YX,Xc,Xd,Xg,Xr,Xs,Xw,Xx,X0,W3,W4,W5,WA,WE,WI,WK,WM,WN,WO,WP,WQ,WR,WS,WU,WV,WY,WZ,Vb,Ve,Vf,Vg,Vi,Vj,Vk,VQ,VR,VS,VT,VU,VV,VZ,Ua,Ub,Uc,Ud,Ue,Uf,Ug,Uh,Uu,Ux,Uy,U2,U3,U4,U5,U6,Tf,Tg,Tk,Tt,Tu,Tw,Ty,Tz,T2,T5,T6,T7,TI,SA,a0,a1,a2,k1,e];all_goals tactic=>exact rfl))
include ha in
theorem aIx {i:Nat} (hi:i<34) (h0:goE fl a i≠0):∃ e h,
 execW aA 66 2 none (match hG with | .loop _ a=>a|c=>c) (aR [0,1,7,8] (s66 a i)) (gN l fl)=some (.ret,e,h)∧bA none x66.res x66.ownR 2 (some (.ret,e,h))=some (I (i:Nat),gN l fl):=by
 have a1:((i:Int)<34)=True:=eq_true (by omega)
 have a0:((0:Int)≤i)=True:=eq_true (by omega)
 have k1:=bM (v:=.pt 1 0) (fl:=fl) ha hi
 have e:=w67 (fl a i)
 unfold goE at h0
 have hk:0<fl a i:=by
  by_cases h:0<fl a i
  ·exact h
  ·rw[if_neg h]at h0;exact absurd rfl h0
 rw[decide_eq_true hk]at e
 refine bY ?_ ?_
 ·unfold hG;dsimp only; (sym=>(simp[aJ,aI,aK,aL,aS,aF,Za,Zb,Zf,Zh,Zl,Zm,Zv,Z3,ZA,ZG,ZO,ZP,ZT,ZU,Yf,Ys,Yw,Yx,YX,Xr,Xs,W3,W4,W5,WA,WK,WN,WP,WU,WV,Vi,Vj,Vk,VQ,VT,VU,VX,VZ,Ua,Uc,Ud,Ug,Uh,Uu,Uy,U2,U3,U4,U5,U6,Tf,Tg,Tk,Tt,Tu,Tv,Tw,Ty,Tz,T1,T3,T6,TI,SA,a0,a1,k1,e];all_goals tactic=>exact rfl))
 ·unfold hG;dsimp only; (sym=>(simp[aJ,aI,aK,aL,aS,aF,Za,Zb,Zf,Zh,Zl,Zm,Zv,Z3,ZA,ZG,ZO,ZP,ZT,ZU,Yf,Ys,Yw,Yx,YX,Xr,Xs,W3,W4,W5,WA,WK,WN,WP,WU,WV,Vi,Vj,Vk,V9,VF,VQ,VT,VU,VZ,Ua,Uc,Ud,Ug,Uh,Uu,Uy,U2,U3,U4,U5,U6,Tf,Tg,Tk,Tt,Tu,Tv,Tw,Ty,Tz,T1,T3,T6,TI,SA,a0,a1,k1,e];all_goals tactic=>exact rfl))
include ha in
theorem aMd {d:Nat} (hd:d<34) (hp:0<fl a d):∃ m,m<34∧0<fl a m∧runW aA 66 [.sl 0 (1+a*34) 1 34,.fn (.func 67) [] []] (gN l fl)=some (I (m:Nat),gN l fl):=by
 obtain⟨m,m1,m2,m3⟩:=cN (goE fl a) 34
 have hne:goE fl a d≠0:=by unfold goE;rw[if_pos hp];decide
 rcases m3 with ⟨_,m4⟩|⟨m3,m4,_⟩
 ·exact absurd (gH m4 d hd) hne
 ·have hk:0<fl a m:=by
   unfold goE at m4
   by_cases h:0<fl a m
   ·exact h
   ·rw[if_neg h]at m4;exact absurd rfl m4
  have rd:=fun i (hi:i<m)=>aFq (l:=l) (fl:=fl) ha (show i<34 by omega) (m2 i hi)
  obtain⟨e,hh,q1,q2⟩:=aIx (l:=l) (fl:=fl) ha m3 m4
  refine⟨m,m3,hk,?_⟩
  rw[r66 (by simp)];unfold x66;dsimp only
  sym =>
   simp[aJ,aI,aK,aL,aS,aF,Za,Zb,Zf,Zh,Zl,Zm,Zv,ZF,Ye,Wj,Wo,WB,VO,VY,Ug,Uh,UD,UE,Tu,Ty,Tz,T6,T7,SA]
   tactic =>
    unfold hG
    rw[aE m (fun i=>s66 a i) (fun _=>gN l fl)]
    ·unfold hG at q1
     dsimp only at q1
     rw[q1]
     exact q2
    ·(sym=>(simp[aJ,aI,aK,aL,aS,aF,Za,Y9,YX,Xc,Xd,Xg,Xr,Xw,Xx,X0,WB,WE,WI,WK,WM,WO,WP,WQ,WR,WS,WY,WZ,Vb,Ve,Vf,Vg,VO,VR,VS,VZ,Ua,Ub,Uc,Ud,Ue,Uf,Ux,U2,U3,U4,U5,U6,T5];all_goals tactic=>exact rfl))
    ·exact rd
    ·unfold hG at q1
     dsimp only at q1
     rw[q1]
     rfl
end
def ixE (ks:List Int) (f:Int) (i:Nat):Int:=if f=ks.getD i 0 then 1 else 0
section
variable {ks:List Int} {f:Int} (hl:ks.length<1000000)
abbrev s68 (ks:List Int) (f:Int) (i:Nat):List AV:=[.sl 0 0 1 ks.length,I f,I ks.length,I (i:Nat)]
abbrev g68 (ks:List Int):XH:=[some (.blk true (.cells true (ks.map I)))]
include hl in
theorem aCY {i:Nat} (hi:i<ks.length) (h0:ixE ks f i=0) :
 aV 1 [0,1,7,8] (execW aA 68 1 none (match mM with | .loop _ a=>a|c=>c) (aR [0,1,7,8] (s68 ks f i)) (g68 ks))=some (s68 ks f (i+1),g68 ks):=by
 obtain⟨v,hv⟩:=bG hi
 have a1:=cU hi
 have a0:((0:Int)≤i)=True:=eq_true (by omega)
 have a2:=eK hi (by omega)
 unfold ixE at h0
 rw[aW hv]at h0
 have hne:(f=v)=False:=eq_false (fun h=>by rw[if_pos h]at h0;simp at h0)
 unfold mM
 dsimp only
 (sym=>(simp[Za,Zb,Zf,Zh,Zl,Zm,Zv,Z3,ZA,ZG,Yf,Yj,Yq,Ys,Yw,Yx,YX,Xc,Xr,Xw,W3,W4,W5,WE,WI,WK,WM,WO,WP,WQ,WR,WS,WY,WZ,Ve,Vf,VQ,VR,VS,VT,VU,VV,VZ,Ua,Ud,Ue,Uf,Uj,Uk,Uu,Ux,Uy,Uz,U2,U3,U4,U5,U6,Tf,Tg,Tk,Tt,Tu,Tw,Ty,Tz,T2,T5,T6,T7,TI,TJ,a0,a1,a2,hv,hne];all_goals tactic=>exact rfl))
theorem aJT {i:Nat} (hi:i<ks.length) (h0:ixE ks f i≠0):∃ e h,
 execW aA 68 1 none (match mM with | .loop _ a=>a|c=>c) (aR [0,1,7,8] (s68 ks f i)) (g68 ks)=some (.ret,e,h)∧bA none x68.res x68.ownR 1 (some (.ret,e,h))=some (I (i:Nat),g68 ks):=by
 obtain⟨v,hv⟩:=bG hi
 have a1:=cU hi
 have a0:((0:Int)≤i)=True:=eq_true (by omega)
 unfold ixE at h0
 rw[aW hv]at h0
 have heq:f=v:=by
  by_cases h:f=v
  ·exact h
  ·rw[if_neg h]at h0;exact absurd rfl h0
 have hne:(f=v)=True:=eq_true heq
 refine bY ?_ ?_
 ·unfold mM;dsimp only; (sym=>(simp[Za,Zb,Zf,Zh,Zl,Zm,Zv,Z3,ZA,ZG,Yf,Yq,Ys,Yw,Yx,W3,W4,W5,VQ,VT,VU,VX,Uj,Uk,Uu,Uy,Tf,Tg,Tk,Tt,Tu,Tv,Tw,Ty,Tz,T1,T3,T6,TI,TJ,a0,a1,hv,hne];all_goals tactic=>exact rfl))
 ·unfold mM;dsimp only; (sym=>(simp[Za,Zb,Zf,Zh,Zl,Zm,Zv,Z3,ZA,ZG,Yf,Yq,Ys,Yw,Yx,W3,W4,W5,V9,VF,VQ,VT,VU,Uj,Uk,Uu,Uy,Tf,Tg,Tk,Tt,Tu,Tv,Tw,Ty,Tz,T1,T3,T6,TI,TJ,a0,a1,hv,hne];all_goals tactic=>exact rfl))
include hl in
theorem w68:(f∉ks∧runW aA 68 [.sl 0 0 1 ks.length,I f] (g68 ks)=some (I (-1),g68 ks))∨(∃ m,ks[m]?=some f∧runW aA 68 [.sl 0 0 1 ks.length,I f] (g68 ks)=some (I (m:Nat),g68 ks)):=by
 have z:=Te (n:=(ks.length:Int))
 obtain⟨m,m1,m2,m3⟩:=cN (ixE ks f) ks.length
 rcases m3 with ⟨rfl,m4⟩|⟨m3,m4,_⟩
 ·left
  have rd:=fun i (hi:i<ks.length)=>aCY hl hi (m2 i hi)
  refine⟨fun hm=>?_,?_⟩
  ·obtain⟨i,hi⟩:=List.getElem?_of_mem hm
   have:=m2 i (fP hi)
   unfold ixE at this
   rw[aW hi,if_pos rfl]at this
   simp at this
  ·rw[r68 (by simp)];unfold x68;dsimp only
   sym =>
    simp[Za,Zb,Zf,Zh,Zl,Zm,Zv,ZF,Ye,We,Wj,WB,VO,VY,Ug,Uh,UD,UE,Tu,Ty,Tz,T6,T7]
    tactic =>
     unfold mM
     rw[aE ks.length (fun i=>s68 ks f i) (fun _=>g68 ks)]
     ·(sym=>(simp[Za,Zb,Zf,Zh,Zl,Zm,Zv,Z3,Ys,YX,Xr,XJ,We,WK,WO,WP,WQ,WR,WS,WY,WZ,Ve,Vf,Vv,V9,VA,VC,VD,VE,VF,VG,VJ,VK,VL,VM,VQ,VT,VV,VZ,Ua,Ud,Ue,Uf,Uz,U2,U3,U4,Te,Tt,Tu,Tv,Tx,Tz,T0,T4,T6,T7,Sw,z];all_goals tactic=>exact rfl))
     ·(sym=>(simp[Za,Y9,YX,Xc,Xr,Xw,WB,WE,WI,WK,WM,WO,WP,WQ,WR,WS,WY,WZ,Ve,Vf,VO,VR,VS,VZ,Ua,Ud,Ue,Uf,Ux,U2,U3,U4,U5,U6,T5];all_goals tactic=>exact rfl))
     ·exact rd
     ·(sym=>(simp[Za,Zb,Zf,Zh,Zl,Zm,Z3,Ys,VQ,VT,VV,VW,Uz,Te,Tt,Tu,Tx,Tz,T0,T6,z];all_goals tactic=>exact rfl))
 ·right
  have rd:=fun i (hi:i<m)=>aCY hl (show i<ks.length by omega) (m2 i hi)
  obtain⟨e,hh,q1,q2⟩:=aJT m3 m4
  obtain⟨v,hv⟩:=bG m3
  have heq:f=v:=by
   unfold ixE at m4
   rw[aW hv]at m4
   by_cases h:f=v
   ·exact h
   ·rw[if_neg h]at m4;exact absurd rfl m4
  refine⟨m,by rw[heq];exact hv,?_⟩
  rw[r68 (by simp)];unfold x68;dsimp only
  sym =>
   simp[Za,Zb,Zf,Zh,Zl,Zm,Zv,ZF,Ye,We,Wj,WB,VO,VY,Ug,Uh,UD,UE,Tu,Ty,Tz,T6,T7]
   tactic =>
    unfold mM
    rw[aE m (fun i=>s68 ks f i) (fun _=>g68 ks)]
    ·unfold mM at q1
     dsimp only at q1
     rw[q1]
     exact q2
    ·(sym=>(simp[Za,Y9,YX,Xc,Xr,Xw,WB,WE,WI,WK,WM,WO,WP,WQ,WR,WS,WY,WZ,Ve,Vf,VO,VR,VS,VZ,Ua,Ud,Ue,Uf,Ux,U2,U3,U4,U5,U6,T5];all_goals tactic=>exact rfl))
    ·exact rd
    ·unfold mM at q1
     dsimp only at q1
     rw[q1]
     rfl
end
theorem aMc (f:Int):runW aA 68 [.nilsl,I f] []=some (I (-1),[]):=by
 rw[r68 (by simp)];unfold x68;dsimp only
 sym =>
  simp[Za,Zb,Zf,Zh,Zl,Zm,Zv,ZF,Yc,Y9,We,Wm,WB,VO,VY,Uh,UD,UE,Tu,Ty,Tz,T6,T7]
  tactic =>
   unfold mM
   rw[aE 0 (fun i=>[.fs [],I f,I 0,I 0]) (fun _=>[])]
   ·(sym=>(simp[Za,Zb,Zf,Zh,Zl,Zm,Zv,Z3,Ys,YX,Xr,XJ,We,WK,WO,WP,WR,WS,Vv,V9,VA,VC,VD,VE,VF,VG,VJ,VK,VL,VM,VQ,VT,VV,Ua,Ud,Uf,Uz,U2,U3,U4,Tt,Tu,Tv,Tx,Tz,T0,T4,T6,T7,Sw];all_goals tactic=>exact rfl))
   ·(sym=>(simp[Za,YX,Xb,Xr,Xv,WB,WK,WO,WP,WR,WS,VO,VR,VS,VZ,Ua,Ud,Uf,U2,U3,U4,U5,U6,T5];all_goals tactic=>exact rfl))
   ·intro i hi;omega
   ·(sym=>(simp[Za,Zb,Zf,Zh,Zl,Zm,Z3,Ys,VQ,VT,VV,VW,Uz,Tt,Tu,Tx,Tz,T0,T6];all_goals tactic=>exact rfl))
abbrev oR (rows:List (List Int)):AV:=match rows with
 | []=>.nilsl
 | r::rs=>.sl 2 0 1 (rs.length+1)
abbrev oW (rows:List (List Int)) (ks:List Int):AV:=match rows with
 | []=>oS 2 ks
 | r::rs=>oS 3 ks
abbrev gY (l:List AV) (fl:Nat→Nat→Int) (rows:List (List Int)) (ks:List Int):XH:=match rows,ks with
 | [],[]=>[some (.blk false (.cells true (gA (.pt 1 0) fl))),some (.blk true (.cells true l))]
 | r::rs,[]=>[some (.blk false (.cells true (gA (.pt 1 0) fl))),some (.blk true (.cells true l)),some (.blk true (.cells true (nL r::rs.map fun w=>nL w)))]
 | [],k::kr=>[some (.blk false (.cells true (gA (.pt 1 0) fl))),some (.blk true (.cells true l)),some (.blk true (.cells true (I k::kr.map I)))]
 | r::rs,k::kr=>[some (.blk false (.cells true (gA (.pt 1 0) fl))),some (.blk true (.cells true l)),some (.blk true (.cells true (nL r::rs.map fun w=>nL w))),some (.blk true (.cells true (I k::kr.map I)))]
abbrev s33 (rows:List (List Int)) (ks:List Int) (a n i:Nat):List AV:=[.pt 0 0,oR rows,oW rows ks,I (a:Nat),I (n:Nat),I (i:Nat)]
section
variable {l:List AV} {fl:Nat→Nat→Int} {rows:List (List Int)} {ks:List Int} {a d n i:Nat} (ha:a<33) (hd:d<34) (hf:FlB fl) (hp:0<fl a d)
 (e66:runW aA 66 [.sl 0 (1+a*34) 1 34,.fn (.func 67) [] []] (gN l fl)=some (I (d:Nat),gN l fl))
include ha hd hf hp e66 in
theorem aEJ (ho:¬(d<32∧d%2=0)) :
 aV 0 [7,9,10,11,29,30] (execW aA 33 0 none (match iV with | .loop _ a=>a|c=>c) (aR [7,9,10,11,29,30] (s33 rows ks a n i)) (gY l fl rows ks))=some (s33 rows ks d n i,gY l (kC fl a d (fl a d-1)) rows ks):=by
 have hb:=hf a d
 have n0:((a:Int)=33)=False:=eq_false (by omega)
 have v1:((0:Int)≤a)=True:=eq_true (by omega)
 have v2:((a:Int)<34)=True:=eq_true (by omega)
 have v3:((0:Int)≤d)=True:=eq_true (by omega)
 have v4:((d:Int)<34)=True:=eq_true (by omega)
 have k1:=bM (v:=.pt 1 0) (fl:=fl) (a:=a) (b:=d) (by omega) (by omega)
 have s1:=qP (v:=.pt 1 0) (fl:=fl) (a:=a) (b:=d) (n:=fl a d-1) (by omega) (by omega)
 have t1:(1+a*34+d+1≤1157)=True:=eq_true (by omega)
 have t0:(1+a*34+34≤1157)=True:=eq_true (by omega)
 have u:IntKind.i64.wrap (fl a d-1)=fl a d-1:=aD (by omega) (by omega)
 have t3:lH (d:Int) 2=((d/2:Nat):Int):=bU d 2
 have t5:IntKind.i64.wrap ((d/2:Nat):Int)=((d/2:Nat):Int):=aD (by omega) (by omega)
 have t2:lG (d:Int) 2=((d%2:Nat):Int):=bT d 2
 generalize kC fl a d (fl a d-1)=fl2 at *
 by_cases h32:d<32
 ·have c1:((d:Int)<32)=True:=eq_true (by omega)
  have c2:(((d%2:Nat):Int)=0)=False:=eq_false (by omega)
  unfold iV
  dsimp only
  cases rows<;>cases ks
  ·(sym=>(simp[dE,dF,fF,aJ,aI,aK,aL,aS,aF,Za,Zb,Zc,Zf,Zh,Zi,Zl,Zm,Zn,Zp,Zq,Zv,Zy,Z2,Z3,Z8,Z9,ZC,ZH,ZJ,ZK,ZM,ZN,ZO,ZP,ZT,ZU,ZV,Ya,Yk,Yq,Yr,Ys,Yw,Yx,YO,YV,YX,Xc,Xd,Xe,Xg,Xi,Xr,Xw,Xx,Xy,X0,Wq,Wz,W3,W4,W5,W6,W9,WA,WC,WE,WF,WG,WH,WI,WJ,WK,WL,WM,WN,WO,WP,WQ,WR,WS,WT,WU,WV,WW,WY,WZ,Vb,Vf,Vg,Vi,Vj,Vk,Vl,Vm,VQ,VR,VS,VT,VU,VV,VZ,Ua,Ub,Uc,Ud,Uf,Ug,Uh,Uk,Um,Ur,Us,Uu,Ux,Uy,Uz,U0,U1,U2,U3,U4,U5,U6,U7,U8,UN,Tf,Tg,Tk,Tl,Tm,Tt,Tu,Tw,Ty,Tz,T2,T5,T6,T7,T8,T9,TA,TB,TI,TK,TU,Sv,SA,n0,v1,v2,v3,v4,k1,s1,t1,t0,u,t3,t5,t2,c1,c2,e66];all_goals tactic=>exact rfl))
  ·(sym=>(simp[dE,dF,fF,aJ,aI,aK,aL,aS,aF,Za,Zb,Zc,Zf,Zh,Zi,Zl,Zm,Zn,Zp,Zq,Zv,Zy,Z2,Z3,Z8,Z9,ZC,ZH,ZJ,ZK,ZM,ZN,ZO,ZP,ZT,ZU,ZV,Ya,Yk,Yq,Yr,Ys,Yw,Yx,YO,YV,YX,Xc,Xd,Xe,Xg,Xi,Xr,Xw,Xx,Xy,X0,Wq,Wz,W3,W4,W5,W6,W9,WA,WC,WE,WF,WG,WH,WI,WJ,WK,WL,WM,WN,WO,WP,WQ,WR,WS,WT,WU,WV,WW,WY,WZ,Vb,Vf,Vg,Vi,Vj,Vk,Vl,Vm,VQ,VR,VS,VT,VU,VV,VZ,Ua,Ub,Uc,Ud,Uf,Ug,Uh,Uk,Um,Ur,Us,Uu,Ux,Uy,Uz,U0,U1,U2,U3,U4,U5,U6,U7,U8,UN,Tf,Tg,Tk,Tl,Tm,Tt,Tu,Tw,Ty,Tz,T2,T5,T6,T7,T8,T9,TA,TB,TI,TK,TV,Sv,SA,n0,v1,v2,v3,v4,k1,s1,t1,t0,u,t3,t5,t2,c1,c2,e66];all_goals tactic=>exact rfl))
  ·(sym=>(simp[dE,dF,fF,aJ,aI,aK,aL,aS,aF,Za,Zb,Zc,Zf,Zh,Zi,Zl,Zm,Zn,Zp,Zq,Zv,Zy,Z2,Z3,Z8,Z9,ZC,ZH,ZJ,ZK,ZM,ZN,ZO,ZP,ZT,ZU,ZV,Ya,Yk,Yq,Yr,Ys,Yw,Yx,YO,YV,YX,Xc,Xd,Xe,Xg,Xi,Xr,Xw,Xx,Xy,X0,Wq,Wz,W3,W4,W5,W6,W9,WA,WC,WE,WF,WG,WH,WI,WJ,WK,WL,WM,WN,WO,WP,WQ,WR,WS,WT,WU,WV,WW,WY,WZ,Vb,Vf,Vg,Vi,Vj,Vk,Vl,Vm,VQ,VR,VS,VT,VU,VV,VZ,Ua,Ub,Uc,Ud,Uf,Ug,Uh,Uk,Um,Ur,Us,Uu,Ux,Uy,Uz,U0,U1,U2,U3,U4,U5,U6,U7,U8,UN,Tf,Tg,Tk,Tl,Tm,Tt,Tu,Tw,Ty,Tz,T2,T5,T6,T7,T8,T9,TA,TB,TI,TK,TU,Sv,SA,n0,v1,v2,v3,v4,k1,s1,t1,t0,u,t3,t5,t2,c1,c2,e66];all_goals tactic=>exact rfl))
  ·(sym=>(simp[dE,dF,fF,aJ,aI,aK,aL,aS,aF,Za,Zb,Zc,Zf,Zh,Zi,Zl,Zm,Zn,Zp,Zq,Zv,Zy,Z2,Z3,Z8,Z9,ZC,ZH,ZJ,ZK,ZM,ZN,ZO,ZP,ZT,ZU,ZV,Ya,Yk,Yq,Yr,Ys,Yw,Yx,YO,YV,YX,Xc,Xd,Xg,Xi,Xr,Xw,Xx,X0,Wq,Wz,W3,W4,W5,W6,W9,WA,WC,WE,WF,WG,WH,WI,WJ,WK,WL,WM,WN,WO,WP,WQ,WR,WS,WT,WU,WV,WW,WY,WZ,Vb,Vf,Vg,Vi,Vj,Vk,Vl,Vm,VQ,VR,VS,VT,VU,VV,VZ,Ua,Ub,Uc,Ud,Uf,Ug,Uh,Uk,Um,Ur,Us,Uu,Ux,Uy,Uz,U0,U1,U2,U3,U4,U5,U6,U7,U8,UN,Tf,Tg,Tk,Tl,Tm,Tt,Tu,Tw,Ty,Tz,T2,T5,T6,T7,T8,T9,TA,TB,TI,TK,TV,Sv,SA,n0,v1,v2,v3,v4,k1,s1,t1,t0,u,t3,t5,t2,c1,c2,e66];all_goals tactic=>exact rfl))
 ·have c1:((d:Int)<32)=False:=eq_false (by omega)
  unfold iV
  dsimp only
  cases rows<;>cases ks
  ·(sym=>(simp[dE,dF,fF,aJ,aI,aK,aL,aS,aF,Za,Zb,Zc,Zf,Zh,Zi,Zl,Zm,Zn,Zp,Zs,Zv,Zy,Z2,Z3,Z8,Z9,ZC,ZH,ZJ,ZK,ZM,ZN,ZO,ZP,ZT,ZU,ZW,Ya,Yk,Yr,Ys,Yw,Yx,YO,YV,YX,Xc,Xd,Xe,Xg,Xi,Xr,Xw,Xx,Xy,X0,Wq,Wz,W3,W4,W5,W6,W9,WA,WC,WE,WF,WG,WH,WI,WJ,WK,WL,WM,WN,WO,WP,WQ,WR,WS,WT,WU,WV,WW,WY,WZ,Vb,Vf,Vg,Vi,Vj,Vk,Vl,Vm,VQ,VR,VS,VT,VU,VV,VZ,Ua,Ub,Uc,Ud,Uf,Ug,Uh,Uk,Um,Ur,Us,Uu,Ux,Uz,U0,U1,U2,U3,U4,U5,U6,U7,U8,UN,Tf,Tg,Tk,Tl,Tm,Tt,Tu,Tw,Ty,Tz,T2,T5,T6,T7,T8,T9,TA,TB,TI,TK,TU,Sv,SA,n0,v1,v2,v3,v4,k1,s1,t1,t0,u,t3,t5,t2,c1,e66];all_goals tactic=>exact rfl))
  ·(sym=>(simp[dE,dF,fF,aJ,aI,aK,aL,aS,aF,Za,Zb,Zc,Zf,Zh,Zi,Zl,Zm,Zn,Zp,Zs,Zv,Zy,Z2,Z3,Z8,Z9,ZC,ZH,ZJ,ZK,ZM,ZN,ZO,ZP,ZT,ZU,ZW,Ya,Yk,Yr,Ys,Yw,Yx,YO,YV,YX,Xc,Xd,Xe,Xg,Xi,Xr,Xw,Xx,Xy,X0,Wq,Wz,W3,W4,W5,W6,W9,WA,WC,WE,WF,WG,WH,WI,WJ,WK,WL,WM,WN,WO,WP,WQ,WR,WS,WT,WU,WV,WW,WY,WZ,Vb,Vf,Vg,Vi,Vj,Vk,Vl,Vm,VQ,VR,VS,VT,VU,VV,VZ,Ua,Ub,Uc,Ud,Uf,Ug,Uh,Uk,Um,Ur,Us,Uu,Ux,Uz,U0,U1,U2,U3,U4,U5,U6,U7,U8,UN,Tf,Tg,Tk,Tl,Tm,Tt,Tu,Tw,Ty,Tz,T2,T5,T6,T7,T8,T9,TA,TB,TI,TK,TV,Sv,SA,n0,v1,v2,v3,v4,k1,s1,t1,t0,u,t3,t5,t2,c1,e66];all_goals tactic=>exact rfl))
  ·(sym=>(simp[dE,dF,fF,aJ,aI,aK,aL,aS,aF,Za,Zb,Zc,Zf,Zh,Zi,Zl,Zm,Zn,Zp,Zs,Zv,Zy,Z2,Z3,Z8,Z9,ZC,ZH,ZJ,ZK,ZM,ZN,ZO,ZP,ZT,ZU,ZW,Ya,Yk,Yr,Ys,Yw,Yx,YO,YV,YX,Xc,Xd,Xe,Xg,Xi,Xr,Xw,Xx,Xy,X0,Wq,Wz,W3,W4,W5,W6,W9,WA,WC,WE,WF,WG,WH,WI,WJ,WK,WL,WM,WN,WO,WP,WQ,WR,WS,WT,WU,WV,WW,WY,WZ,Vb,Vf,Vg,Vi,Vj,Vk,Vl,Vm,VQ,VR,VS,VT,VU,VV,VZ,Ua,Ub,Uc,Ud,Uf,Ug,Uh,Uk,Um,Ur,Us,Uu,Ux,Uz,U0,U1,U2,U3,U4,U5,U6,U7,U8,UN,Tf,Tg,Tk,Tl,Tm,Tt,Tu,Tw,Ty,Tz,T2,T5,T6,T7,T8,T9,TA,TB,TI,TK,TU,Sv,SA,n0,v1,v2,v3,v4,k1,s1,t1,t0,u,t3,t5,t2,c1,e66];all_goals tactic=>exact rfl))
  ·(sym=>(simp[dE,dF,fF,aJ,aI,aK,aL,aS,aF,Za,Zb,Zc,Zf,Zh,Zi,Zl,Zm,Zn,Zp,Zs,Zv,Zy,Z2,Z3,Z8,Z9,ZC,ZH,ZJ,ZK,ZM,ZN,ZO,ZP,ZT,ZU,ZW,Ya,Yk,Yr,Ys,Yw,Yx,YO,YV,YX,Xc,Xd,Xg,Xi,Xr,Xw,Xx,X0,Wq,Wz,W3,W4,W5,W6,W9,WA,WC,WE,WF,WG,WH,WI,WJ,WK,WL,WM,WN,WO,WP,WQ,WR,WS,WT,WU,WV,WW,WY,WZ,Vb,Vf,Vg,Vi,Vj,Vk,Vl,Vm,VQ,VR,VS,VT,VU,VV,VZ,Ua,Ub,Uc,Ud,Uf,Ug,Uh,Uk,Um,Ur,Us,Uu,Ux,Uz,U0,U1,U2,U3,U4,U5,U6,U7,U8,UN,Tf,Tg,Tk,Tl,Tm,Tt,Tu,Tw,Ty,Tz,T2,T5,T6,T7,T8,T9,TA,TB,TI,TK,TV,Sv,SA,n0,v1,v2,v3,v4,k1,s1,t1,t0,u,t3,t5,t2,c1,e66];all_goals tactic=>exact rfl))
end
section
variable {l:List AV} {fl:Nat→Nat→Int} {rows:List (List Int)} {ks:List Int} {a d n i:Nat} (ha:a<33) (hd:d<32) (hde:d%2=0) (hf:FlB fl) (hp:0<fl a d) (hl:ks.length<1000)
 (e66:runW aA 66 [.sl 0 (1+a*34) 1 34,.fn (.func 67) [] []] (gN l fl)=some (I (d:Nat),gN l fl))
include ha hd hde hf hp e66 hl in
theorem aEK (hn:((d/2:Nat):Int)∉ks) :
 aV 0 [7,9,10,11,29,30] (execW aA 33 0 none (match iV with | .loop _ a=>a|c=>c) (aR [7,9,10,11,29,30] (s33 rows ks a n i)) (gY l fl rows ks))=some (s33 rows (ks++[((d/2:Nat):Int)]) d n i,gY l (kC fl a d (fl a d-1)) rows (ks++[((d/2:Nat):Int)])):=by
 have hb:=hf a d
 have n0:((a:Int)=33)=False:=eq_false (by omega)
 have v1:((0:Int)≤a)=True:=eq_true (by omega)
 have v2:((a:Int)<34)=True:=eq_true (by omega)
 have v3:((0:Int)≤d)=True:=eq_true (by omega)
 have v4:((d:Int)<34)=True:=eq_true (by omega)
 have k1:=bM (v:=.pt 1 0) (fl:=fl) (a:=a) (b:=d) (by omega) (by omega)
 have s1:=qP (v:=.pt 1 0) (fl:=fl) (a:=a) (b:=d) (n:=fl a d-1) (by omega) (by omega)
 have t1:(1+a*34+d+1≤1157)=True:=eq_true (by omega)
 have t0:(1+a*34+34≤1157)=True:=eq_true (by omega)
 have u:IntKind.i64.wrap (fl a d-1)=fl a d-1:=aD (by omega) (by omega)
 have t3:lH (d:Int) 2=((d/2:Nat):Int):=bU d 2
 have t5:IntKind.i64.wrap ((d/2:Nat):Int)=((d/2:Nat):Int):=aD (by omega) (by omega)
 have t2:lG (d:Int) 2=((d%2:Nat):Int):=bT d 2
 have c1:((d:Int)<32)=True:=eq_true (by omega)
 have c2:(((d%2:Nat):Int)=0)=True:=eq_true (by omega)
 have e0:=aMc ((d/2:Nat):Int)
 have e1:runW aA 68 [.sl 0 0 1 ks.length,I ((d/2:Nat):Int)] (g68 ks)=some (I (-1),g68 ks):=by
  rcases w68 (ks:=ks) (f:=((d/2:Nat):Int)) (by omega)with h|⟨m,h,_⟩
  ·exact h.2
  ·exact absurd (List.mem_of_getElem? h) hn
 generalize kC fl a d (fl a d-1)=fl2 at *
 generalize d/2=f at *
 unfold iV
 dsimp only
 cases ks with
 | nil =>
   cases rows
   ·(sym=>(simp[dE,dF,fF,aJ,aI,aK,aL,aS,aF,Za,Zb,Zc,Zd,Ze,Zf,Zg,Zh,Zi,Zj,Zl,Zm,Zn,Zo,Zp,Zq,Zv,Zy,Z1,Z2,Z3,Z8,Z9,ZC,ZH,ZJ,ZK,ZM,ZN,ZO,ZP,ZS,ZT,ZU,ZV,Ya,Yk,Yq,Yr,Ys,Yv,Yw,Yx,YO,YV,YX,Xc,Xd,Xe,Xg,Xi,Xr,Xw,Xx,Xy,X0,XW,Wq,Wz,W3,W4,W5,W6,W7,W8,W9,WA,WC,WE,WF,WG,WH,WI,WJ,WK,WL,WM,WN,WO,WP,WQ,WR,WS,WT,WU,WV,WW,WY,WZ,Vb,Vf,Vg,Vi,Vj,Vk,Vl,Vm,Vv,Vx,Vy,Vz,VP,VQ,VR,VS,VT,VU,VV,VZ,Ua,Ub,Uc,Ud,Uf,Ug,Uh,Uk,Um,Ur,Us,Uu,Ux,Uy,Uz,U0,U1,U2,U3,U4,U5,U6,U7,U8,UF,UG,UH,UI,UN,UU,UV,UW,UX,UY,UZ,Ta,Tb,Tf,Tg,Tk,Tl,Tm,Tn,Tq,Tr,Ts,Tt,Tu,Tw,Ty,Tz,T2,T5,T6,T7,T8,T9,TA,TB,TI,TK,TP,TU,TV,Sv,Sw,SA,SD,SE,SG,SI,SJ,SK,SN,n0,v1,v2,v3,v4,k1,s1,t1,t0,u,t3,t5,t2,c1,c2,e66,e0];all_goals tactic=>exact rfl))
   ·(sym=>(simp[dE,dF,fF,aJ,aI,aK,aL,aS,aF,Za,Zb,Zc,Zd,Ze,Zf,Zg,Zh,Zi,Zj,Zl,Zm,Zn,Zo,Zp,Zq,Zv,Zy,Z1,Z2,Z3,Z8,Z9,ZC,ZH,ZJ,ZK,ZM,ZN,ZO,ZP,ZS,ZT,ZU,ZV,Ya,Yk,Yq,Yr,Ys,Yv,Yw,Yx,YO,YV,YX,Xc,Xd,Xe,Xg,Xi,Xr,Xw,Xx,Xy,X0,XW,Wq,Wz,W3,W4,W5,W6,W7,W8,W9,WA,WC,WE,WF,WG,WH,WI,WJ,WK,WL,WM,WN,WO,WP,WQ,WR,WS,WT,WU,WV,WW,WY,WZ,Vb,Vf,Vg,Vi,Vj,Vk,Vl,Vm,Vv,Vx,Vy,Vz,VP,VQ,VR,VS,VT,VU,VV,VZ,Ua,Ub,Uc,Ud,Uf,Ug,Uh,Uk,Um,Ur,Us,Uu,Ux,Uy,Uz,U0,U1,U2,U3,U4,U5,U6,U7,U8,UF,UG,UH,UI,UN,UU,UV,UW,UX,UY,UZ,Ta,Tb,Tf,Tg,Tk,Tl,Tm,Tn,Tq,Tr,Ts,Tt,Tu,Tw,Ty,Tz,T2,T5,T6,T7,T8,T9,TA,TB,TI,TK,TP,TU,TV,Sv,Sw,SA,SD,SE,SG,SI,SJ,SK,SN,n0,v1,v2,v3,v4,k1,s1,t1,t0,u,t3,t5,t2,c1,c2,e66,e0];all_goals tactic=>exact rfl))
 | cons k kr =>
   have e1:runW aA 68 [.sl 0 0 1 (kr.length+1),I (f:Nat)] [some (.blk true (.cells true (I k::kr.map I)))]=some (I (-1),[some (.blk true (.cells true (I k::kr.map I)))]):=e1
   have b1:((kr.length+1+1)*8≤1099511627776)=True:=eq_true (by simp at hl;omega)
   have b2:(kr.length+1+1≤1099511627776)=True:=eq_true (by simp at hl;omega)
   have tk:List.take (kr.length+1-1) (kr.map I)=kr.map I:=List.take_of_length_le (by simp)
   cases rows
   ·(sym=>(simp[dE,dF,fF,aJ,aI,aK,aL,aS,aF,Za,Zb,Zc,Zd,Ze,Zf,Zg,Zh,Zi,Zj,Zl,Zm,Zn,Zo,Zp,Zq,Zv,Zy,Z1,Z2,Z3,Z8,Z9,ZC,ZH,ZJ,ZK,ZM,ZN,ZO,ZP,ZS,ZT,ZU,ZV,Ya,Yk,Yq,Yr,Ys,Yv,Yw,Yx,YO,YV,YX,Xc,Xd,Xe,Xg,Xi,Xr,Xw,Xx,Xy,X0,XW,Wq,Wz,W3,W4,W5,W6,W7,W8,W9,WA,WC,WE,WF,WG,WH,WI,WJ,WK,WL,WM,WN,WO,WP,WQ,WR,WS,WT,WU,WV,WW,WY,WZ,Vb,Vf,Vg,Vi,Vj,Vk,Vl,Vm,Vv,Vx,Vy,Vz,VP,VQ,VR,VS,VT,VU,VV,VZ,Ua,Ub,Uc,Ud,Uf,Ug,Uh,Ui,Uk,Um,Ur,Us,Uu,Ux,Uy,Uz,U0,U1,U2,U3,U4,U5,U6,U7,U8,UF,UG,UH,UI,UN,UU,UV,UW,UX,UY,UZ,Ta,Tc,Td,Tf,Tg,Tk,Tl,Tm,Tn,Tp,Tq,Tr,Tt,Tu,Tw,Ty,Tz,T2,T5,T6,T7,T8,T9,TA,TB,TG,TH,TI,TK,TP,TV,TZ,Sv,Sw,SA,SD,SE,SG,SI,SJ,SK,SL,SM,n0,v1,v2,v3,v4,k1,s1,t1,t0,u,t3,t5,t2,c1,c2,e66,e1,b1,b2,tk];all_goals tactic=>exact rfl))
   ·(sym=>(simp[dE,dF,fF,aJ,aI,aK,aL,aS,aF,Za,Zb,Zc,Zd,Ze,Zf,Zg,Zh,Zi,Zj,Zl,Zm,Zn,Zo,Zp,Zq,Zv,Zy,Z1,Z2,Z3,Z8,Z9,ZC,ZH,ZJ,ZK,ZM,ZN,ZO,ZP,ZS,ZT,ZU,ZV,Ya,Yk,Yq,Yr,Ys,Yv,Yw,Yx,YO,YV,YX,Xc,Xd,Xg,Xi,Xr,Xw,Xx,X0,XW,Wq,Wz,W3,W4,W5,W6,W7,W8,W9,WA,WC,WE,WF,WG,WH,WI,WJ,WK,WL,WM,WN,WO,WP,WQ,WR,WS,WT,WU,WV,WW,WY,WZ,Vb,Vf,Vg,Vi,Vj,Vk,Vl,Vm,Vv,Vx,Vy,Vz,VP,VQ,VR,VS,VT,VU,VV,VZ,Ua,Ub,Uc,Ud,Uf,Ug,Uh,Ui,Uk,Um,Ur,Us,Uu,Ux,Uy,Uz,U0,U1,U2,U3,U4,U5,U6,U7,U8,UF,UG,UH,UI,UN,UU,UV,UW,UX,UY,UZ,Ta,Tc,Td,Tf,Tg,Tk,Tl,Tm,Tn,Tp,Tq,Tr,Tt,Tu,Tw,Ty,Tz,T2,T5,T6,T7,T8,T9,TA,TB,TG,TH,TI,TK,TP,TV,TZ,Sv,Sw,SA,SD,SE,SG,SI,SJ,SK,SL,SM,n0,v1,v2,v3,v4,k1,s1,t1,t0,u,t3,t5,t2,c1,c2,e66,e1,b1,b2,tk];all_goals tactic=>exact rfl))
include ha hd hde hf hp e66 hl in
theorem aDM {m:Nat} (hm:ks[m]?=some ((d/2:Nat):Int)) (e1:runW aA 68 [.sl 0 0 1 ks.length,I ((d/2:Nat):Int)] (g68 ks)=some (I (m:Nat),g68 ks)) :
 aV 0 [7,9,10,11,29,30] (execW aA 33 0 none (match iV with | .loop _ a=>a|c=>c) (aR [7,9,10,11,29,30] (s33 rows ks a n i)) (gY l fl rows ks))=some (s33 rows (ks.take (m+1)) d n i,gY l (kC fl a d (fl a d-1)) rows (ks.take (m+1))):=by
 have hb:=hf a d
 have hml:=fP hm
 have n0:((a:Int)=33)=False:=eq_false (by omega)
 have v1:((0:Int)≤a)=True:=eq_true (by omega)
 have v2:((a:Int)<34)=True:=eq_true (by omega)
 have v3:((0:Int)≤d)=True:=eq_true (by omega)
 have v4:((d:Int)<34)=True:=eq_true (by omega)
 have k1:=bM (v:=.pt 1 0) (fl:=fl) (a:=a) (b:=d) (by omega) (by omega)
 have s1:=qP (v:=.pt 1 0) (fl:=fl) (a:=a) (b:=d) (n:=fl a d-1) (by omega) (by omega)
 have t1:(1+a*34+d+1≤1157)=True:=eq_true (by omega)
 have t0:(1+a*34+34≤1157)=True:=eq_true (by omega)
 have u:IntKind.i64.wrap (fl a d-1)=fl a d-1:=aD (by omega) (by omega)
 have t3:lH (d:Int) 2=((d/2:Nat):Int):=bU d 2
 have t5:IntKind.i64.wrap ((d/2:Nat):Int)=((d/2:Nat):Int):=aD (by omega) (by omega)
 have t2:lG (d:Int) 2=((d%2:Nat):Int):=bT d 2
 have c1:((d:Int)<32)=True:=eq_true (by omega)
 have c2:(((d%2:Nat):Int)=0)=True:=eq_true (by omega)
 generalize kC fl a d (fl a d-1)=fl2 at *
 generalize d/2=f at *
 cases ks with
 | nil=>simp at hm
 | cons k kr =>
   have e1:runW aA 68 [.sl 0 0 1 (kr.length+1),I (f:Nat)] [some (.blk true (.cells true (I k::kr.map I)))]=some (I (m:Nat),[some (.blk true (.cells true (I k::kr.map I)))]):=e1
   by_cases hm0:m=0
   ·subst hm0
    have hkf:k=(f:Int):=by simpa using hm
    subst hkf
    have e1:runW aA 68 [.sl 0 0 1 (kr.length+1),I (f:Nat)] [some (.blk true (.cells true (I (f:Nat)::kr.map I)))]=some (I 0,[some (.blk true (.cells true (I (f:Nat)::kr.map I)))]):=e1
    unfold iV
    dsimp only
    cases rows
    ·(sym=>(simp[dE,dF,fF,aJ,aI,aK,aL,aS,aF,Za,Zb,Zc,Zd,Ze,Zf,Zg,Zh,Zi,Zj,Zl,Zm,Zn,Zo,Zp,Zq,Zv,Zy,Z1,Z2,Z3,Z8,Z9,ZC,ZD,ZH,ZJ,ZK,ZM,ZN,ZO,ZP,ZS,ZT,ZU,ZV,Ya,Yk,Yq,Yr,Ys,Yv,Yw,Yx,Y8,YO,YV,YX,Xc,Xd,Xe,Xg,Xi,Xr,Xw,Xx,Xy,X0,XW,Wq,Wz,W3,W4,W5,W6,W7,W8,W9,WA,WC,WE,WF,WG,WH,WI,WJ,WK,WL,WM,WN,WO,WP,WQ,WR,WS,WT,WU,WV,WW,WY,WZ,Vb,Vf,Vg,Vi,Vj,Vk,Vl,Vm,Vv,Vx,Vy,Vz,VP,VQ,VR,VS,VT,VU,VZ,Ua,Ub,Uc,Ud,Uf,Ug,Uh,Uk,Um,Ur,Us,Uu,Ux,Uy,Uz,U0,U1,U2,U3,U4,U5,U6,U7,U8,UF,UG,UH,UI,UN,UO,UP,UU,UV,UW,UX,UY,UZ,Ta,Tc,Td,Tf,Tg,Tk,Tl,Tm,Tn,Tp,Tq,Tr,Tt,Tu,Tw,Ty,Tz,T2,T5,T6,T7,T8,T9,TA,TB,TC,TD,TE,TF,TI,TK,TP,TV,Sv,Sw,SA,SD,SE,SG,SI,SJ,SK,SL,SM,n0,v1,v2,v3,v4,k1,s1,t1,t0,u,t3,t5,t2,c1,c2,e66,e1];all_goals tactic=>exact rfl))
    ·(sym=>(simp[dE,dF,fF,aJ,aI,aK,aL,aS,aF,Za,Zb,Zc,Zd,Ze,Zf,Zg,Zh,Zi,Zj,Zl,Zm,Zn,Zo,Zp,Zq,Zv,Zy,Z1,Z2,Z3,Z8,Z9,ZC,ZD,ZH,ZJ,ZK,ZM,ZN,ZO,ZP,ZS,ZT,ZU,ZV,Ya,Yk,Yq,Yr,Ys,Yv,Yw,Yx,Y8,YO,YV,YX,Xc,Xd,Xg,Xi,Xr,Xw,Xx,X0,XW,Wq,Wz,W3,W4,W5,W6,W7,W8,W9,WA,WC,WE,WF,WG,WH,WI,WJ,WK,WL,WM,WN,WO,WP,WQ,WR,WS,WT,WU,WV,WW,WY,WZ,Vb,Vf,Vg,Vi,Vj,Vk,Vl,Vm,Vv,Vx,Vy,Vz,VP,VQ,VR,VS,VT,VU,VZ,Ua,Ub,Uc,Ud,Uf,Ug,Uh,Uk,Um,Ur,Us,Uu,Ux,Uy,Uz,U0,U1,U2,U3,U4,U5,U6,U7,U8,UF,UG,UH,UI,UN,UO,UP,UU,UV,UW,UX,UY,UZ,Ta,Tc,Td,Tf,Tg,Tk,Tl,Tm,Tn,Tp,Tq,Tr,Tt,Tu,Tw,Ty,Tz,T2,T5,T6,T7,T8,T9,TA,TB,TC,TD,TE,TF,TI,TK,TP,TV,Sv,Sw,SA,SD,SE,SG,SI,SJ,SK,SL,SM,n0,v1,v2,v3,v4,k1,s1,t1,t0,u,t3,t5,t2,c1,c2,e66,e1];all_goals tactic=>exact rfl))
   ·have c3:((0:Int)≤(m:Int))=True:=eq_true (by omega)
    have hml2:m<kr.length+1:=by simpa using hml
    have c4:((m:Int)≤((kr.length+1:Nat):Int))=True:=eq_true (by omega)
    have c5:(0<m)=True:=eq_true (by omega)
    have b1:((m+1)*8≤1099511627776)=True:=eq_true (by simp at hl;omega)
    have b2:(m+1≤1099511627776)=True:=eq_true (by simp at hl;omega)
    rw[show (k::kr).take (m+1)=k::kr.take m from rfl]
    have lk:(kr.take m).length=m:=by rw[List.length_take];omega
    have b3:(m≤kr.length+1)=True:=eq_true (by omega)
    have c6:(m=0)=False:=eq_false hm0
    have l2:(List.take (m-1) (kr.map I)).length=m-1:=by rw[List.length_take,List.length_map];omega
    have c7:(m=m-1+1)=True:=eq_true (by omega)
    have hkm:kr[m-1]?=some (f:Int):=by
     obtain⟨p,rfl⟩:∃ p,m=p+1:=⟨m-1,by omega⟩
     simpa using hm
    have tk:List.take (m-1) (kr.map I)++[I f]=(kr.take m).map I:=by
     obtain⟨p,rfl⟩:∃ p,m=p+1:=⟨m-1,by omega⟩
     have hkm:kr[p]?=some (f:Int):=hkm
     show List.take p (kr.map I)++[I f]=(kr.take (p+1)).map I
     rw[List.take_add_one,hkm,List.map_append,List.map_take];rfl
    unfold iV
    dsimp only
    cases rows
    ·(sym=>(simp[dE,dF,fF,aJ,aI,aK,aL,aS,aF,Za,Zb,Zc,Zd,Ze,Zf,Zg,Zh,Zi,Zj,Zl,Zm,Zn,Zo,Zp,Zq,Zv,Zy,Z1,Z2,Z3,Z8,Z9,ZC,ZD,ZH,ZJ,ZK,ZM,ZN,ZO,ZP,ZS,ZT,ZU,ZV,Ya,Yk,Yq,Yr,Ys,Yv,Yw,Yx,YO,YV,YX,Xc,Xd,Xe,Xg,Xi,Xr,Xw,Xx,Xy,X0,XW,Wq,Wz,W3,W4,W5,W6,W7,W8,W9,WA,WC,WE,WF,WG,WH,WI,WJ,WK,WL,WM,WN,WO,WP,WQ,WR,WS,WT,WU,WV,WW,WY,WZ,Vb,Vf,Vg,Vi,Vj,Vk,Vl,Vm,Vv,Vx,Vy,Vz,VP,VQ,VR,VS,VT,VU,VZ,Ua,Ub,Uc,Ud,Uf,Ug,Uh,Uk,Um,Ur,Us,Uu,Ux,Uy,Uz,U0,U1,U2,U3,U4,U5,U6,U7,U8,UF,UG,UH,UI,UN,UO,UP,UU,UV,UW,UX,UY,UZ,Ta,Tc,Td,Tf,Tg,Tk,Tl,Tm,Tn,Tp,Tq,Tr,Tt,Tu,Tw,Ty,Tz,T2,T5,T6,T7,T8,T9,TA,TB,TC,TD,TE,TF,TI,TK,TM,TP,TV,Sv,Sw,SA,SD,SE,SG,SI,SJ,SK,SL,SM,n0,v1,v2,v3,v4,k1,s1,t1,t0,u,t3,t5,t2,c1,c2,c3,c4,c5,c6,c7,e66,e1,b1,b2,b3,lk,l2,tk];all_goals tactic=>exact rfl))
    ·(sym=>(simp[dE,dF,fF,aJ,aI,aK,aL,aS,aF,Za,Zb,Zc,Zd,Ze,Zf,Zg,Zh,Zi,Zj,Zl,Zm,Zn,Zo,Zp,Zq,Zv,Zy,Z1,Z2,Z3,Z8,Z9,ZC,ZD,ZH,ZJ,ZK,ZM,ZN,ZO,ZP,ZS,ZT,ZU,ZV,Ya,Yk,Yq,Yr,Ys,Yv,Yw,Yx,YO,YV,YX,Xc,Xd,Xg,Xi,Xr,Xw,Xx,X0,XW,Wq,Wz,W3,W4,W5,W6,W7,W8,W9,WA,WC,WE,WF,WG,WH,WI,WJ,WK,WL,WM,WN,WO,WP,WQ,WR,WS,WT,WU,WV,WW,WY,WZ,Vb,Vf,Vg,Vi,Vj,Vk,Vl,Vm,Vv,Vx,Vy,Vz,VP,VQ,VR,VS,VT,VU,VZ,Ua,Ub,Uc,Ud,Uf,Ug,Uh,Uk,Um,Ur,Us,Uu,Ux,Uy,Uz,U0,U1,U2,U3,U4,U5,U6,U7,U8,UF,UG,UH,UI,UN,UO,UP,UU,UV,UW,UX,UY,UZ,Ta,Tc,Td,Tf,Tg,Tk,Tl,Tm,Tn,Tp,Tq,Tr,Tt,Tu,Tw,Ty,Tz,T2,T5,T6,T7,T8,T9,TA,TB,TC,TD,TE,TF,TI,TK,TM,TP,TV,Sv,Sw,SA,SD,SE,SG,SI,SJ,SK,SL,SM,n0,v1,v2,v3,v4,k1,s1,t1,t0,u,t3,t5,t2,c1,c2,c3,c4,c5,c6,c7,e66,e1,b1,b2,b3,lk,l2,tk];all_goals tactic=>exact rfl))
end
end Go.Proofs.YtiabjdfdkiijmaaDoor
namespace Go.Proofs.YtiabjdfdkiijmaaDoor
abbrev xI (fl:Nat→Nat→Int) (a d:Nat):Nat→Nat→Int:=kC fl a d (fl a d-1)
theorem kK (fl:Nat→Nat→Int) (a d c e:Nat):xI fl a d c e=fl c e-(if c=a∧e=d then 1 else 0):=by
 unfold xI kC
 split
 ·next h=>obtain⟨rfl,rfl⟩:=h;rfl
 ·omega
theorem aKq {fl:Nat→Nat→Int} {a d:Nat} (had:a≠d) (ha:a<34) (hd:d<34) (c:Nat):ex (xI fl a d) c=ex fl c-(if c=a then 1 else 0)+(if c=d then 1 else 0):=by
 unfold ex
 rw[cQ 34 (g:=fun e=>(pD fl c e + - (if c=a∧e=d then 1 else 0))+(if c=d∧e=a then 1 else 0)) (fun e _=>by
  unfold pD
  rw[kK,kK]
  have:(if e=a∧c=d then (1:Int) else 0)=if c=d∧e=a then 1 else 0:=by
   by_cases h:c=d∧e=a
   ·rw[if_pos h,if_pos ⟨h.2,h.1⟩]
   ·rw[if_neg h,if_neg (fun q=>h ⟨q.2,q.1⟩)]
  rw[this];omega)]
 rw[fE,fE,jH]
 rw[fV (f:=fun e=>if c=a∧e=d then 1 else 0) (a:=d) (fun k hk=>if_neg (by omega)),fV (f:=fun e=>if c=d∧e=a then 1 else 0) (a:=a) (fun k hk=>if_neg (by omega))]
 rw[if_pos hd,if_pos ha]
 have e1:(if c=a∧d=d then (1:Int) else 0)=if c=a then 1 else 0:=by simp
 have e2:(if c=d∧a=a then (1:Int) else 0)=if c=d then 1 else 0:=by simp
 have e3:bV (fun e=>pD fl c e) 34=bV (pD fl c) 34:=rfl
 rw[e1,e2,e3];omega
def tot (fl:Nat→Nat→Int):Int:=bV (fun a=>bV (fl a) 34) 34
theorem aHr {fl:Nat→Nat→Int} {a d:Nat} (ha:a<34) (hd:d<34):tot (xI fl a d)=tot fl-1:=by
 unfold tot
 rw[cQ 34 (g:=fun c=>bV (fl c) 34 + - (if c=a then 1 else 0)) (fun c _=>by
  rw[cQ 34 (g:=fun e=>fl c e + - (if c=a∧e=d then 1 else 0)) (fun e _=>by rw[kK];omega),fE,jH]
  rw[fV (f:=fun e=>if c=a∧e=d then 1 else 0) (a:=d) (fun k hk=>if_neg (by omega)),if_pos hd]
  have e1:(if c=a∧d=d then (1:Int) else 0)=if c=a then 1 else 0:=by simp
  rw[e1])]
 rw[fE,jH,fV (f:=fun c=>if c=a then 1 else 0) (a:=a) (fun k hk=>if_neg hk),if_pos ha,if_pos rfl]
 omega
theorem aHq {cap fl:Nat→Nat→Int} (h:FlI cap fl):0≤tot fl:=mQ 34 fun c _=>mQ 34 fun e _=>(h c e).1
theorem oE {st:Nat→Nat} {s nur fix a d:Nat} (h:0<bN st s nur fix a d) :
 (a=32∧d%2=0∧d<32∧s.testBit (d/2)=true)∨(d=33∧a%2=1∧a<32∧nur.testBit (a/2)=true) ∨
 (a<32∧a%2=0∧d=a+1)∨(a<32∧d<32∧a%2=1∧d%2=0∧(st (a/2)).testBit (d/2)=true):=by
 unfold bN at h
 split at h
 ·split at h
  ·next q1 q2=>exact .inl ⟨q1,q2⟩
  ·omega
 ·split at h
  ·split at h
   ·next q1 q2 q3=>exact .inr (.inl ⟨q2,q3⟩)
   ·omega
  ·split at h
   ·omega
   ·split at h
    ·next q1 q2 q3 q4=>exact .inr (.inr (.inl ⟨by omega,q4.1,q4.2⟩))
    ·split at h
     ·next q1 q2 q3 q4 q5=>exact .inr (.inr (.inr ⟨by omega,by omega,q5⟩))
     ·omega
theorem aEx {st:Nat→Nat} {s nur fix f:Nat} (hf:f<16) (hx:fix.testBit f=false):bN st s nur fix (2*f) (2*f+1)=1:=by
 unfold bN
 rw[if_neg (by omega),if_neg (by omega),if_neg (by omega),if_pos ⟨by omega,rfl⟩,show 2*f/2=f by omega,if_neg (by rw[hx];simp)]
structure Wk (st:Nat→Nat) (s nur fix F u r:Nat) (fl:Nat→Nat→Int) (a:Nat) (ks:List Nat):Prop where
 ok:FlI (bN st s nur fix) fl
 ex:∀ c,ex fl c=(if c=32 then (r:Int) else 0)-(if c=33 then (r:Int)+1 else 0)+(if c=a then 1 else 0)
 lt:a<34
 f:∀ k∈ks,k<F
 nd:ks.Nodup
 stp:∀ i k k',ks[i]?=some k→ks[i+1]?=some k'→(st k).testBit k'=true
 fst:∀ k,ks[0]?=some k→s.testBit k=true
 pos:(a=32∧ks=[])∨(a=33∧∃ f,ks.getLast?=some f∧nur.testBit f=true)∨(a<32∧ks.getLast?=some (a/2))
 used:∀ g,u.testBit g=true→fix.testBit g=false→fl (2*g) (2*g+1)=0
 free:∀ k∈ks,fix.testBit k=false→u.testBit k=false
 pass:∀ k∈ks,fix.testBit k=false→a=2*k∨fl (2*k) (2*k+1)=0
section
variable {st:Nat→Nat} {s nur fix F u r:Nat} (hst:∀ k,st k<2^F) (hs:s<2^F) (hF:F≤16) (hu:u<2^F) {fl:Nat→Nat→Int} {a:Nat} {ks:List Nat} (h:Wk st s nur fix F u r fl a ks)
include h in
theorem Wk.next (ha:a≠33):∃ d,d<34∧0<fl a d:=by
 by_cases hd:∃ d,d<34∧0<fl a d
 ·exact hd
 ·exfalso
  have h1:Go.Proofs.YtiabjdfdkiijmaaDoor.ex fl a≤0:=by
   unfold Go.Proofs.YtiabjdfdkiijmaaDoor.ex
   rw[←rO 34]
   refine nT 34 fun e he=>?_
   have:=(h.ok e a).1
   have:¬0<fl a e:=fun q=>hd ⟨e,he,q⟩
   unfold pD;omega
  rw[h.ex]at h1
  rw[if_neg ha,if_pos rfl]at h1
  split at h1<;>omega
include h in
theorem Wk.cap {d:Nat} (hp:0<fl a d):0<bN st s nur fix a d:=by
 have:=(h.ok a d).2
 omega
include h in
theorem Wk.ok' {d:Nat} (hp:0<fl a d):FlI (bN st s nur fix) (xI fl a d):=by
 intro c e
 have:=h.ok c e
 rw[kK]
 split
 ·next q=>obtain⟨rfl,rfl⟩:=q;omega
 ·omega
include h in
theorem Wk.ex' {d:Nat} (hd:d<34) (hp:0<fl a d) (c:Nat):Go.Proofs.YtiabjdfdkiijmaaDoor.ex (xI fl a d) c=(if c=32 then (r:Int) else 0)-(if c=33 then (r:Int)+1 else 0)+(if c=d then 1 else 0):=by
 have hne:a≠d:=by
  rcases oE (h.cap hp)with q|q|q|q<;>omega
 rw[aKq hne h.lt hd,h.ex]
 omega
include h in
theorem Wk.odd {d:Nat} (hd:d<34) (hp:0<fl a d) (ho:¬(d<32∧d%2=0)):Wk st s nur fix F u r (xI fl a d) d ks:=by
 have same:∀ k,a≠2*k→xI fl a d (2*k) (2*k+1)=fl (2*k) (2*k+1):=fun k hk=>by
  rw[kK,if_neg (by omega)];omega
 rcases oE (h.cap hp)with q|q|q|q
 ·exact absurd ⟨q.2.2.1,q.2.1⟩ ho
 ·refine⟨h.ok' hp,h.ex' hd hp,hd,h.f,h.nd,h.stp,h.fst,?_,?_,h.free,?_⟩
  ·rcases h.pos with p|p|p
   ·omega
   ·omega
   ·exact .inr (.inl ⟨q.1,_,p.2,q.2.2.2⟩)
  ·intro g hg hx
   rw[same g (by omega)];exact h.used g hg hx
  ·intro k hk hx
   rcases h.pass k hk hx with p|p
   ·omega
   ·exact .inr (by rw[same k (by omega)];exact p)
 ·refine⟨h.ok' hp,h.ex' hd hp,hd,h.f,h.nd,h.stp,h.fst,?_,?_,h.free,?_⟩
  ·rcases h.pos with p|p|p
   ·omega
   ·omega
   ·by_cases h33:d=33
    ·omega
    ·exact .inr (.inr ⟨by omega,by rw[show d/2=a/2 by omega];exact p.2⟩)
  ·intro g hg hx
   have:=h.used g hg hx
   by_cases e:a=2*g
   ·rw[show d=2*g+1 by omega,e]at hp;omega
   ·rw[same g e];exact this
  ·intro k hk hx
   right
   by_cases e:a=2*k
   ·have h1:=(h.ok (2*k) (2*k+1)).2
    rw[aEx (by omega) hx]at h1
    rw[kK,if_pos ⟨e.symm,by omega⟩]
    rw[e,show d=2*k+1 by omega]at hp
    omega
   ·rcases h.pass k hk hx with p|p
    ·omega
    ·rw[same k e];exact p
 ·exact absurd ⟨q.2.1,q.2.2.2.1⟩ ho
include hst hs hF h in
theorem Wk.fld {d:Nat} (hp:0<fl a d) (hd:d<32) (hde:d%2=0):d/2<F∧(a=32∧ks=[]∧s.testBit (d/2)=true∨a<32∧a%2=1∧ks.getLast?=some (a/2)∧(st (a/2)).testBit (d/2)=true):=by
 rcases oE (h.cap hp)with q|q|q|q
 ·refine⟨eH hs q.2.2.2,.inl ⟨q.1,?_,q.2.2.2⟩⟩
  rcases h.pos with p|p|p
  ·exact p.2
  ·omega
  ·omega
 ·omega
 ·omega
 ·refine⟨eH (hst _) q.2.2.2.2,.inr ⟨q.1,q.2.2.1,?_,q.2.2.2.2⟩⟩
  rcases h.pos with p|p|p
  ·omega
  ·omega
  ·exact p.2
include hst hs hF h in
theorem Wk.app {d:Nat} (hp:0<fl a d) (hd:d<32) (hde:d%2=0) (hn:d/2∉ks):Wk st s nur fix F u r (xI fl a d) d (ks++[d/2]):=by
 obtain⟨hfF,hq⟩:=h.fld hst hs hF hp hd hde
 have hao:∀ k,k<16→a≠2*k:=fun k hk=>by rcases hq with q|q<;>omega
 have same:∀ k,k<16→xI fl a d (2*k) (2*k+1)=fl (2*k) (2*k+1):=fun k hk=>by
  rw[kK,if_neg (by omega)];omega
 have ok':=h.ok' hp
 have ex':=h.ex' (by omega) hp
 have used':∀ g,u.testBit g=true→fix.testBit g=false→xI fl a d (2*g) (2*g+1)=0:=fun g hg hx=>by
  have:=(ok' (2*g) (2*g+1)).1
  have h0:=h.used g hg hx
  rw[kK]at this ⊢
  split<;>rename_i hh
  ·rw[if_pos hh]at this;omega
  ·omega
 refine⟨ok',ex',by omega,?_,?_,?_,?_,?_,used',?_,?_⟩
 ·intro k hk
  rw[List.mem_append,List.mem_singleton]at hk
  rcases hk with hk|rfl
  ·exact h.f k hk
  ·exact hfF
 ·rw[List.nodup_append]
  refine⟨h.nd,by simp,?_⟩
  intro k hk k' hk' e
  rw[List.mem_singleton]at hk'
  rw[e,hk']at hk
  exact hn hk
 ·intro i k k' h1 h2
  by_cases hi:i+1<ks.length
  ·rw[List.getElem?_append_left (by omega)]at h1
   rw[List.getElem?_append_left hi]at h2
   exact h.stp i k k' h1 h2
  ·have hlt:=fP h2
   rw[List.length_append,List.length_singleton]at hlt
   rw[List.getElem?_append_left (by omega)]at h1
   rw[List.getElem?_append_right (by omega),show i+1-ks.length=0 by omega]at h2
   have h2:d/2=k':=by simpa using h2
   rcases hq with q|q
   ·rw[q.2.1]at h1;simp at h1
   ·have h3:=q.2.2.1
    rw[List.getLast?_eq_getElem?,show ks.length-1=i by omega,h1]at h3
    rw[Option.some.inj h3,←h2];exact q.2.2.2
 ·intro k hk
  rcases hq with q|q
  ·rw[q.2.1]at hk
   have:d/2=k:=by simpa using hk
   rw[←this];exact q.2.2
  ·have hpos:0<ks.length:=by
    by_cases h0:0<ks.length
    ·exact h0
    ·have:ks=[]:=List.eq_nil_of_length_eq_zero (by omega)
     rw[this]at q;simp at q
   rw[List.getElem?_append_left hpos]at hk
   exact h.fst k hk
 ·refine .inr (.inr ⟨hd,?_⟩)
  rw[List.getLast?_append];rfl
 ·intro k hk hx
  rw[List.mem_append,List.mem_singleton]at hk
  rcases hk with hk|rfl
  ·exact h.free k hk hx
  ·-- the way goes on behind the field
   cases hub:u.testBit (d/2)
   ·rfl
   ·exfalso
    have h0:=used' (d/2) hub hx
    have h1:Go.Proofs.YtiabjdfdkiijmaaDoor.ex (xI fl a d) d≤0:=by
     unfold Go.Proofs.YtiabjdfdkiijmaaDoor.ex
     rw[←rO 34]
     refine nT 34 fun e he=>?_
     have g1:=(ok' e d).1
     have g2:=ok' d e
     have:xI fl a d d e≤0:=by
      by_cases hlt:0<xI fl a d d e
      ·rcases oE (show 0<bN st s nur fix d e by omega)with q|q|q|q
       ·omega
       ·omega
       ·rw[show 2*(d/2)=d by omega,←q.2.2]at h0;omega
       ·omega
      ·omega
     unfold pD;omega
    rw[ex']at h1
    rw[if_neg (by omega),if_neg (by omega),if_pos rfl]at h1
    omega
 ·intro k hk hx
  rw[List.mem_append,List.mem_singleton]at hk
  rcases hk with hk|rfl
  ·have hkF:=h.f k hk
   rcases h.pass k hk hx with p|p
   ·exact absurd p (hao k (by omega))
   ·exact .inr (by rw[same k (by omega)];exact p)
  ·exact .inl (by omega)
include hst hs hF h in
theorem Wk.trim {d m:Nat} (hp:0<fl a d) (hd:d<32) (hde:d%2=0) (hm:ks[m]?=some (d/2)):Wk st s nur fix F u r (xI fl a d) d (ks.take (m+1)):=by
 obtain⟨hfF,hq⟩:=h.fld hst hs hF hp hd hde
 have hml:=fP hm
 have hao:∀ k,k<16→a≠2*k:=fun k hk=>by rcases hq with q|q<;>omega
 have same:∀ k,k<16→xI fl a d (2*k) (2*k+1)=fl (2*k) (2*k+1):=fun k hk=>by
  rw[kK,if_neg (by omega)];omega
 have ok':=h.ok' hp
 have used':∀ g,u.testBit g=true→fix.testBit g=false→xI fl a d (2*g) (2*g+1)=0:=fun g hg hx=>by
  have:=(ok' (2*g) (2*g+1)).1
  have h0:=h.used g hg hx
  rw[kK]at this ⊢
  split<;>rename_i hh
  ·rw[if_pos hh]at this;omega
  ·omega
 have at_take:∀ i k,(ks.take (m+1))[i]?=some k→ks[i]?=some k:=fun i k hi=>by
  have:=fP hi
  rw[List.length_take]at this
  rw[List.getElem?_take_of_lt (by omega)]at hi
  exact hi
 refine⟨ok',h.ex' (by omega) hp,by omega,fun k hk=>h.f k (List.mem_of_mem_take hk),h.nd.sublist (List.take_sublist _ _),fun i k k' h1 h2=>h.stp i k k' (at_take i k h1) (at_take _ k' h2),fun k hk=>h.fst k (at_take 0 k hk),?_,used',fun k hk hx=>h.free k (List.mem_of_mem_take hk) hx,?_⟩
 ·refine .inr (.inr ⟨hd,?_⟩)
  rw[List.getLast?_eq_getElem?,List.length_take,show min (m+1) ks.length-1=m by omega,List.getElem?_take_of_lt (by omega)]
  exact hm
 ·intro k hk hx
  have hk:=List.mem_of_mem_take hk
  have hkF:=h.f k hk
  rcases h.pass k hk hx with p|p
  ·exact absurd p (hao k (by omega))
  ·exact .inr (by rw[same k (by omega)];exact p)
end
structure Ow (st:Nat→Nat) (s nur fix u r:Nat) (fl:Nat→Nat→Int):Prop where
 ok:FlI (bN st s nur fix) fl
 ex:∀ c,ex fl c=(if c=32 then (r:Int) else 0)-(if c=33 then (r:Int) else 0)
 used:∀ g,u.testBit g=true→fix.testBit g=false→fl (2*g) (2*g+1)=0
theorem Ow.of_net {st:Nat→Nat} {s nur fix n:Nat} {fl:Nat→Nat→Int} (h:Net (bN st s nur fix) fl n):Ow st s nur fix 0 n fl :=
 ⟨h.ok,fun c=>h.ex c,fun g hg=>by simp at hg⟩
theorem Ow.start {st:Nat→Nat} {s nur fix F u r:Nat} {fl:Nat→Nat→Int} (h:Ow st s nur fix u (r+1) fl):Wk st s nur fix F u r fl 32 []:=by
 refine⟨h.ok,fun c=>?_,by omega,fun k hk=>by simp at hk,List.nodup_nil,fun i k k' hk=>by simp at hk,fun k hk=>by simp at hk,.inl ⟨rfl,rfl⟩,h.used,fun k hk=>by simp at hk,fun k hk=>by simp at hk⟩
 rw[h.ex]
 split<;>split<;>omega
theorem xS (ks:List Nat) (i f:Nat):(dY ks i).testBit f=true↔f∈ks.take i:=by
 have:=aAu (ks.take i) f
 rw[show dY (ks.take i) (ks.take i).length=dY ks i by unfold dY;rw[List.take_length]]at this
 exact this
theorem aJv (u:Nat) (ks:List Nat) (f:Nat):(uW u ks ks.length).testBit f=true↔u.testBit f=true∨f∈ks:=by
 rw[aLd,Nat.testBit_or,Bool.or_eq_true,aAu]
theorem Wk.done {x:Vn} (ok:x.Ok) {u r:Nat} {fl:Nat→Nat→Int} {ks:List Nat} (h:Wk (cL x) x.sick x.nur x.fix x.F u r fl 33 ks) :
 oZ x u (dA ks)=0∧Ow (cL x) x.sick x.nur x.fix (uWi u (dA ks)) r fl:=by
 have hF:=ok.F16
 obtain⟨f,hf,hn⟩:∃ f,ks.getLast?=some f∧x.nur.testBit f=true:=by
  rcases h.pos with p|p|p
  ·omega
  ·exact p.2
  ·omega
 have hne:ks≠[]:=fun e=>by rw[e]at hf;simp at hf
 have hpos:0<ks.length:=List.length_pos_iff.2 hne
 have hw:cB (wkE x ks) ks.length=0:=by
  refine hZ _ fun i hi=>?_
  obtain⟨k,hk⟩:=bG hi
  unfold wkE
  rw[aW hk]
  have h1:(dY ks i).testBit k=false:=by
   cases hb:(dY ks i).testBit k
   ·rfl
   ·exfalso
    rw[xS,List.mem_iff_getElem?]at hb
    obtain⟨j,hj⟩:=hb
    have hjl:=fP hj
    rw[List.length_take]at hjl
    rw[List.getElem?_take_of_lt (by omega)]at hj
    have e1:=List.getElem?_eq_some_iff.1 hj
    have e2:=List.getElem?_eq_some_iff.1 hk
    obtain⟨h1,e1⟩:=e1
    obtain⟨h2,e2⟩:=e2
    exact List.pairwise_iff_getElem.1 h.nd j i h1 h2 (by omega) (e1.trans e2.symm)
  rw[h1,Bool.false_or]
  by_cases hi0:0<i
  ·obtain⟨k',hk'⟩:=bG (l:=ks) (i:=i-1) (by omega)
   rw[aW hk']
   have:=h.stp (i-1) k' k hk' (by rw[show i-1+1=i by omega];exact hk)
   rw[this,Bool.not_true,Bool.and_false];rfl
  ·rw[decide_eq_false hi0];rfl
 obtain⟨a,ha⟩:=bG hpos
 have hl:lS x ks=true:=by
  unfold lS
  rw[hw,aW ha,h.fst a ha,aW (by rw[List.getLast?_eq_getElem?]at hf;exact hf),hn]
  rfl
 have hc:cB (cfE x u ks) ks.length=0:=by
  refine hZ _ fun i hi=>?_
  obtain⟨k,hk⟩:=bG hi
  unfold cfE
  rw[aW hk]
  cases hx:x.fix.testBit k
  ·rw[h.free k (List.mem_of_getElem? hk) hx];rfl
  ·rw[Bool.not_true,Bool.and_false];rfl
 refine⟨?_,h.ok,fun c=>?_,?_⟩
 ·unfold oZ
  rw[if_neg (fun e=>hne (by
   have:=congrArg List.length e
   rw[bZ]at this
   exact List.eq_nil_of_length_eq_zero this)),if_neg (by rw[aGg h.f];simp),jB,hl,if_pos rfl,bZ,hc]
  rfl
 ·rw[h.ex]
  split<;>split<;>omega
 ·intro g hg hx
  unfold uWi at hg
  rw[jB,bZ,aJv]at hg
  rcases hg with hg|hg
  ·exact h.used g hg hx
  ·rcases h.pass g hg hx with p|p
   ·omega
   ·exact p
def VerP (x:Vn) (rows:List (List Int)) (u:Nat):Prop:=(∀ j,j<rows.length→xD x rows j=0)∧usN rows rows.length=u
theorem VerP.nil (x:Vn):VerP x [] 0:=⟨fun j hj=>absurd hj (by simp),rfl⟩
theorem aCR (rows:List (List Int)) (w:List Int) {j:Nat} (hj:j≤rows.length):usN (rows++[w]) j=usN rows j:=by
 unfold usN
 rw[List.take_append_of_le_length hj]
theorem VerP.app {x:Vn} {rows:List (List Int)} {u:Nat} {w:List Int} (h:VerP x rows u) (hw:oZ x u w=0):VerP x (rows++[w]) (uWi u w):=by
 refine⟨fun j hj=>?_,?_⟩
 ·rw[List.length_append,List.length_singleton]at hj
  unfold xD
  rw[aCR rows w (by omega)]
  by_cases e:j=rows.length
  ·subst e
   rw[h.2,show (rows++[w]).getD rows.length []=w by simp[List.getD]]
   exact hw
  ·have:=h.1 j (by omega)
   unfold xD at this
   rw[show (rows++[w]).getD j []=rows.getD j [] by simp only[List.getD];rw[List.getElem?_append_left (by omega)]]
   exact this
 ·have hx:(rows++[w])[rows.length]?=some w:=by simp
  rw[List.length_append,List.length_singleton,aBE hx,aCR rows w (Nat.le_refl _),h.2]
end Go.Proofs.YtiabjdfdkiijmaaDoor
namespace Go.Proofs.YtiabjdfdkiijmaaDoor
open Go Go.DL
set_option maxRecDepth 100000
set_option maxHeartbeats 4000000
abbrev sU (rows:List (List Int)) (n i:Nat):List AV:=[.pt 0 0,oR rows,I (n:Nat),I (i:Nat)]
section
variable {x:Vn} (ok:x.Ok) {u r n i:Nat} (hu:u<2^x.F) {rows:List (List Int)}
include ok in
theorem aJr {fl:Nat→Nat→Int} (ho:Ow (cL x) x.sick x.nur x.fix u (r+1) fl) :
 ∃ fl' ks,Wk (cL x) x.sick x.nur x.fix x.F u r fl' 33 ks ∧
   execW aA 33 0 none iV (aR [7,9,10,11,29,30] (s33 rows [] 32 n i)) (gY (eJ x (cL x)) fl rows [])=execW aA 33 0 none (match iV with | .loop _ a=>a|c=>c) (aR [7,9,10,11,29,30] (s33 rows (dA ks) 33 n i)) (gY (eJ x (cL x)) fl' rows (dA ks)):=by
 have hF:=ok.F16
 have hst:=eB ok x.ps.length
 have key:∃ q:(Nat→Nat→Int)×Nat×List Nat,Wk (cL x) x.sick x.nur x.fix x.F u r q.1 q.2.1 q.2.2∧q.2.1=33 ∧
  execW aA 33 0 none iV (aR [7,9,10,11,29,30] (s33 rows [] 32 n i)) (gY (eJ x (cL x)) fl rows [])=execW aA 33 0 none (match iV with | .loop _ a=>a|c=>c) (aR [7,9,10,11,29,30] (s33 rows (dA q.2.2) q.2.1 n i)) (gY (eJ x (cL x)) q.1 rows (dA q.2.2)):=by
  have hd0:aV 0 [7,9,10,11,29,30] (some (.normal,aR [7,9,10,11,29,30] (s33 rows [] 32 n i),gY (eJ x (cL x)) fl rows []))=some (s33 rows [] 32 n i,gY (eJ x (cL x)) fl rows []):=by
   cases rows
   ·(sym=>(simp[aJ,aI,aK,aL,aS,aF,YX,Xd,Xe,Xr,Xx,Xy,W3,WE,WF,WH,WI,WK,WL,WM,WO,WQ,WR,WS,WT,WY,WZ,Vb,Vf,Vg,VQ,VR,VS,VZ,Ua,Ub,Uc,Ud,Uf,Uk,Ux,U3,U4,U5,U6,T5,TK,TU,S9];all_goals tactic=>exact rfl))
   ·(sym=>(simp[aJ,aI,aK,aL,aS,aF,YX,Xc,Xd,Xe,Xr,Xw,Xx,Xy,W3,WE,WF,WH,WI,WK,WL,WM,WO,WQ,WR,WS,WT,WY,WZ,Vb,Vf,Vg,VQ,VR,VS,VZ,Ua,Ub,Uc,Ud,Uf,Uk,Ux,U3,U4,U5,U6,T5,TK,TU,S9];all_goals tactic=>exact rfl))
  unfold iV
  refine qS (σ:=(Nat→Nat→Int)×Nat×List Nat) (fun q=>s33 rows (dA q.2.2) q.2.1 n i) (fun q=>gY (eJ x (cL x)) q.1 rows (dA q.2.2)) (fun q=>Wk (cL x) x.sick x.nur x.fix x.F u r q.1 q.2.1 q.2.2) (fun q=>q.2.1=33) (fun q=>(tot q.1).toNat) (fl,32,[]) hd0 ho.start ?_
  rintro ⟨f,a,ks⟩ w
  dsimp only at w ⊢
  have hal:=w.lt
  by_cases h33:a=33
  ·left
   refine⟨?_,h33⟩
   subst h33
   rw[show s33 rows (dA ks) 33 n i=[.pt 0 0,oR rows,oW rows (dA ks),I 33,I (n:Nat),I (i:Nat)] from rfl]
   generalize dA ks=os
   cases rows<;>cases os
   ·(sym=>(simp[aJ,aI,aK,aL,aS,aF,Za,Zb,Zf,Zh,Zl,Zm,Zv,Z3,Yr,VQ,VT,VV,VW,Uq,Uy,Tt,Tu,Tx,Tz,T0,T6,T7,TU];all_goals tactic=>exact rfl))
   ·(sym=>(simp[aJ,aI,aK,aL,aS,aF,Za,Zb,Zf,Zh,Zl,Zm,Zv,Z3,Yr,VQ,VT,VV,VW,Uq,Uy,Tt,Tu,Tx,Tz,T0,T6,T7,TV];all_goals tactic=>exact rfl))
   ·(sym=>(simp[aJ,aI,aK,aL,aS,aF,Za,Zb,Zf,Zh,Zl,Zm,Zv,Z3,Yr,VQ,VT,VV,VW,Uq,Uy,Tt,Tu,Tx,Tz,T0,T6,T7,TU];all_goals tactic=>exact rfl))
   ·(sym=>(simp[aJ,aI,aK,aL,aS,aF,Za,Zb,Zf,Zh,Zl,Zm,Zv,Z3,Yr,VQ,VT,VV,VW,Uq,Uy,Tt,Tu,Tx,Tz,T0,T6,T7,TV];all_goals tactic=>exact rfl))
  ·right
   obtain⟨d0,hd0,hp0⟩:=w.next h33
   obtain⟨d,hd,hp,e66⟩:=aMd (l:=eJ x (cL x)) (fl:=f) hal hd0 hp0
   have hb:=w.ok.b
   have hdec:=aHr (fl:=f) (a:=a) (d:=d) hal hd
   have hpos:=aHq (w.ok' hp)
   have hm:(tot (xI f a d)).toNat<(tot f).toNat:=by omega
   have hksl:(dA ks).length<1000:=by
    rw[bZ]
    have h1:ks.length≤16:=by
     have h2:ks.length=bP (dY ks ks.length):=by
      have:∀ j,j≤ks.length→bP (dY ks j)=j:=by
       intro j
       induction j with
       | zero=>intro _;rw[show dY ks 0=0 from rfl];exact aCx
       | succ j ih =>
         intro hj
         obtain⟨k,hk⟩:=bG (l:=ks) (i:=j) (by omega)
         have hkF:=w.f k (List.mem_of_getElem? hk)
         rw[zL hk,mC (by omega),ih (by omega)]
         cases hb:(dY ks j).testBit k
         ·rfl
         ·exfalso
          rw[xS,List.mem_iff_getElem?]at hb
          obtain⟨j',hj'⟩:=hb
          have hjl:=fP hj'
          rw[List.length_take]at hjl
          rw[List.getElem?_take_of_lt (by omega)]at hj'
          obtain⟨h1,e1⟩:=List.getElem?_eq_some_iff.1 hj'
          obtain⟨h2,e2⟩:=List.getElem?_eq_some_iff.1 hk
          exact List.pairwise_iff_getElem.1 w.nd j' j h1 h2 (by omega) (e1.trans e2.symm)
      exact(this ks.length (Nat.le_refl _)).symm
     have:=mD (dY ks ks.length)
     omega
    omega
   by_cases hde:d<32∧d%2=0
   ·rcases w68 (ks:=dA ks) (f:=((d/2:Nat):Int)) (by omega)with ⟨hn,_⟩|⟨m,hm2,e68⟩
    ·have hn2:d/2∉ks:=fun h=>hn (List.mem_map_of_mem (f:=fun k:Nat=>(k:Int)) h)
     refine⟨(xI f a d,d,ks++[d/2]),hm,?_,w.app hst ok.s hF hp hde.1 hde.2 hn2⟩
     have:=aEK (l:=eJ x (cL x)) (rows:=rows) (n:=n) (i:=i) (by omega) hde.1 hde.2 hb hp hksl e66 hn
     rw[←uE]at this
     exact this
    ·have hm3:ks[m]?=some (d/2):=by
      have:=fP hm2
      rw[bZ]at this
      obtain⟨k,hk⟩:=bG this
      rw[jL hk]at hm2
      rw[hk]
      have:=Option.some.inj hm2
      congr 1;omega
     refine⟨(xI f a d,d,ks.take (m+1)),hm,?_,w.trim hst ok.s hF hp hde.1 hde.2 hm3⟩
     have:=aDM (l:=eJ x (cL x)) (rows:=rows) (n:=n) (i:=i) (by omega) hde.1 hde.2 hb hp hksl e66 hm2 e68
     rw[show (dA ks).take (m+1)=dA (ks.take (m+1)) from (List.map_take ..).symm]at this
     exact this
   ·refine⟨(xI f a d,d,ks),hm,?_,w.odd hd hp hde⟩
    exact aEJ (l:=eJ x (cL x)) (rows:=rows) (n:=n) (i:=i) (by omega) hd hb hp e66 hde
 obtain⟨⟨f,a,ks⟩,w,rfl,hrun⟩:=key
 exact⟨f,ks,w,hrun⟩
include ok in
theorem aHO {fl:Nat→Nat→Int} (ho:Ow (cL x) x.sick x.nur x.fix u (r+1) fl) (hv:VerP x rows u) (hi:i<n) (hn:n≤100) (hr:rows.length=i) :
 ∃ fl' w,Ow (cL x) x.sick x.nur x.fix (uWi u w) r fl'∧VerP x (rows++[w]) (uWi u w) ∧
   aV 0 [7,9,29,30] (execW aA 33 0 none (match xP with | .loop _ a=>a|c=>c) (aR [7,9,29,30] (sU rows n i)) (gY (eJ x (cL x)) fl rows []))=some (sU (rows++[w]) n (i+1),gY (eJ x (cL x)) fl' (rows++[w]) []):=by
 obtain⟨fl',ks,wk,hrun⟩:=aJr (rows:=rows) (n:=n) (i:=i) ok ho
 obtain⟨h1,h2⟩:=wk.done ok
 refine⟨fl',dA ks,h2,hv.app h1,?_⟩
 have hks:ks≠[]:=by
  rintro rfl
  unfold oZ at h1
  rw[if_pos (show dA []=[] from rfl)]at h1;simp at h1
 have a1:((i:Int)<(n:Int))=True:=eq_true (by omega)
 have a2:IntKind.i64.wrap ((i:Int)+1)=(i:Int)+1:=aD (by omega) (by omega)
 rw[show s33 rows (dA ks) 33 n i=[.pt 0 0,oR rows,oW rows (dA ks),I 33,I (n:Nat),I (i:Nat)] from rfl,show s33 rows [] 32 n i=[.pt 0 0,oR rows,oW rows [],I 32,I (n:Nat),I (i:Nat)] from rfl]at hrun
 have hos:dA ks≠[]:=fun e=>hks (by
  have:=congrArg List.length e
  rw[bZ]at this
  exact List.eq_nil_of_length_eq_zero this)
 generalize dA ks=os at *
 generalize eJ x (cL x)=l at *
 unfold xP
 dsimp only
 rcases os with _|⟨k,kr⟩
 ·exact absurd rfl hos
 ·rcases rows with _|⟨q,qr⟩
  ·sym =>
   simp[aJ,aI,aK,aL,aS,aF,Za,Zb,Zf,Zh,Zl,Zm,Zv,Z3,Ys,VQ,VT,VU,VZ,Ua,Uc,Uh,Uy,Tt,Tu,Tw,Ty,Tz,T6,T7,a1]
   tactic =>
    unfold iV at hrun ⊢
    rw[hP (e':=aR [7,9,10,11,29,30] [.pt 0 0,oR [],oW [] [],I 32,I (n:Nat),I (i:Nat)]) (H':=gY l fl [] []) (by (sym=>(simp[aJ,aI,aK,aL,aS,aF,Za,YX,Xd,Xe,Xr,Xx,Xy,W3,WE,WF,WH,WI,WK,WL,WM,WO,WQ,WR,WS,WT,WY,WZ,Vb,Vf,Vg,VQ,VR,VS,VZ,Ua,Ub,Uc,Ud,Uf,Uk,Ux,U3,U4,U5,U6,T5,TK,TU];all_goals tactic=>exact rfl))),hrun]
    (sym=>(simp[aJ,aI,aK,aL,aS,aF,Za,Zb,Zd,Ze,Zf,Zg,Zh,Zj,Zl,Zm,Zo,Zv,Z1,Z3,ZS,Yj,Yr,YX,Xc,Xd,Xl,Xn,Xo,Xr,Xw,Xx,XO,XX,Wb,Wc,Wd,Wi,Wt,W3,W4,W5,W6,W7,W8,W9,WA,WE,WF,WH,WI,WK,WL,WM,WO,WQ,WR,WS,WT,WY,WZ,Vb,Vf,Vg,Vs,Vt,Vu,Vv,Vw,Vx,Vy,Vz,V5,V6,V7,VQ,VR,VS,VT,VV,VZ,Ua,Ub,Uc,Ud,Uf,Ug,Uh,Ui,Uk,Um,Uq,Uu,Ux,Uy,U0,U1,U3,U4,U5,U6,U7,U8,UF,UG,UH,UI,UU,UV,UW,UX,UY,UZ,Ta,Tb,Tn,Tq,Tr,Ts,Tt,Tu,Tx,Tz,T0,T2,T4,T5,T6,T7,TI,TJ,TK,TL,TP,TV,TY,Sw,Sx,Sy,SD,SE,SG,SI,SJ,SK,a2];all_goals tactic=>exact rfl))
  ·have b1:((qr.length+1+1)*24≤1099511627776)=True:=eq_true (by simp at hr;omega)
   have b2:(qr.length+1+1≤1099511627776)=True:=eq_true (by simp at hr;omega)
   sym =>
    simp[aJ,aI,aK,aL,aS,aF,Za,Zb,Zf,Zh,Zl,Zm,Zv,Z3,Ys,VQ,VT,VU,VZ,Ua,Ub,Ug,Uh,Uy,Tt,Tu,Tw,Ty,Tz,T6,T7,TG,TH,a1]
    tactic =>
     unfold iV at hrun ⊢
     rw[hP (e':=aR [7,9,10,11,29,30] [.pt 0 0,oR (q::qr),oW (q::qr) [],I 32,I (n:Nat),I (i:Nat)]) (H':=gY l fl (q::qr) []) (by (sym=>(simp[aJ,aI,aK,aL,aS,aF,Za,YX,Xc,Xd,Xe,Xr,Xw,Xx,Xy,W3,WE,WF,WH,WI,WK,WL,WM,WO,WQ,WR,WS,WT,WY,WZ,Vb,Vf,Vg,VQ,VR,VS,VZ,Ua,Ub,Uc,Ud,Uf,Uk,Ux,U3,U4,U5,U6,T5,TK,TU];all_goals tactic=>exact rfl))),hrun]
     (sym=>(simp[aJ,aI,aK,aL,aS,aF,Za,Zb,Zd,Ze,Zf,Zg,Zh,Zj,Zl,Zm,Zo,Zv,Z1,Z3,ZS,Yj,Yr,YX,Xc,Xd,Xl,Xn,Xo,Xr,Xw,Xx,XO,XX,Wb,Wc,Wi,Wt,W3,W4,W5,W6,W7,W8,W9,WA,WE,WF,WH,WI,WK,WL,WM,WO,WQ,WR,WS,WT,WY,WZ,Vb,Vf,Vg,Vs,Vt,Vu,Vv,Vw,Vx,Vy,Vz,V5,V6,V7,VQ,VR,VS,VT,VV,VZ,Ua,Ub,Uc,Ud,Uf,Ug,Uh,Ui,Uk,Um,Uq,Uu,Uv,Ux,Uy,U0,U1,U3,U4,U5,U6,U7,U8,UF,UG,UH,UI,UU,UV,UW,UX,UY,UZ,Ta,Tc,Td,Tn,Tp,Tq,Tr,Tt,Tu,Tx,Tz,T0,T2,T4,T5,T6,T7,TI,TJ,TK,TL,TP,TV,TY,Sw,Sx,Sy,SD,SE,SG,SI,SJ,SK,a2,b1,b2];all_goals tactic=>exact rfl))
end
theorem aCq {x:Vn} {C:Nat}:FC (cL x) x.sick x.nur x.fix C↔Cuts x 0 C:=by
 constructor
 ·intro h
  exact⟨h.lt,h.free,fun f hf=>h.cut f (by rw[Nat.or_zero]at hf;exact hf)⟩
 ·intro h
  exact⟨h.lt,h.free,fun f hf=>h.cut f (by rw[Nat.or_zero];exact hf)⟩
theorem w33 {x:Vn} (ok:x.Ok) (hh:qY x=true):∃ n ws,Lea x 0 n∧ws.length=n∧aDN x ws=0∧runW aA 33 [.agg x.c] []=some (.tup [wL ws,I 0],[]):=by
 have hF:=ok.F16
 obtain⟨n,hn,e59⟩:=aHl ok ok.h23 hh
 obtain⟨C0,c1,c2⟩:=(lB ok).1 hh
 have hn16:n≤16:=by
  have:=hn.2 C0 c2
  have:=mD C0
  omega
 obtain⟨n',fl,q1,q2,q3,e65⟩:=w65 (aOM ok)
 have hl:=aAW (eB ok _) ok.s hF q1 q3 (aCq.2 c2) c1
 have hnn:n'=n:=by
  refine Lea.eq (x:=x) (cl:=0) ⟨?_,fun C hC=>hl.2 C (aCq.2 hC)⟩ hn
  obtain⟨C,d1,d2,d3⟩:=hl.1
  exact⟨C,d1,aCq.1 d2,d3⟩
 subst hnn
 obtain⟨G,g0,g1,g2⟩:=aFe n'
  (fun i (q:(Nat→Nat→Int)×List (List Int)×Nat)=>Ow (cL x) x.sick x.nur x.fix q.2.2 (n'-i) q.1∧VerP x q.2.1 q.2.2∧q.2.1.length=i)
  (fun i q q'=>aV 0 [7,9,29,30] (execW aA 33 0 none (match xP with | .loop _ a=>a|c=>c) (aR [7,9,29,30] (sU q.2.1 n' i)) (gY (eJ x (cL x)) q.1 q.2.1 []))=some (sU q'.2.1 n' (i+1),gY (eJ x (cL x)) q'.1 q'.2.1 []))
  (fl,[],0) ⟨.of_net q1,.nil x,rfl⟩ (by
   rintro i ⟨f,rows,u⟩ hi ⟨p1,p2,p3⟩
   dsimp only at p1 p2 p3
   rw[show n'-i=(n'-(i+1))+1 by omega]at p1
   obtain⟨f',w,r1,r2,r3⟩:=aHO ok p1 p2 hi (by omega) p3
   refine⟨(f',rows++[w],uWi u w),⟨r1,r2,?_⟩,r3⟩
   show (rows++[w]).length=i+1
   rw[List.length_append,p3];rfl)
 obtain⟨p1,p2,p3⟩:=g1 n' (Nat.le_refl _)
 refine⟨n',(G n').2.1,hn,p3,?_,?_⟩
 ·unfold aDN
  rw[if_neg (by omega)]
  exact hZ _ p2.1
 ·have z:=Te (n:=(n':Int))
  have b0:(G 0).2.1=[]:=by rw[g0]
  have f0':(G 0).1=fl:=by rw[g0]
  generalize hrn:(G n').2.1=rn at *
  generalize hfn:(G n').1=fn at *
  have e65:runW aA 65 [.pt 0 0] [some (.blk true (.cells true (eJ x (cL x))))]=some (.tup [.pt 1 0,I (n':Nat)],[some (.blk true (.cells true (eJ x (cL x)))),some (.blk false (.cells true (gA (.pt 0 0) fl)))]):=e65
  have g2':∀ i,i<n'→aV 0 [7,9,29,30] (execW aA 33 0 none (match xP with | .loop _ a=>a|c=>c) (aR [7,9,29,30] (sU (G i).2.1 n' i)) (gY (eJ x (cL x)) (G i).1 (G i).2.1 []))=some (sU (G (i+1)).2.1 n' (i+1),gY (eJ x (cL x)) (G (i+1)).1 (G (i+1)).2.1 []):=g2
  clear g1 g2
  rw[r33 (by simp)];unfold x33;dsimp only
  sym =>
   simp[aJ,aI,aK,aL,aS,aF,Za,Zb,Zf,Zg,Zh,Zj,Zl,Zm,Zo,Zv,Zz,Z3,ZE,ZG,ZO,ZP,ZT,ZU,Yi,Yr,YX,YZ,Xb,Xd,Xi,Xk,Xl,Xr,Xt,Xu,Xv,Xx,XP,We,Wg,Wi,Wl,Ws,W3,W4,W5,W6,W7,W8,W9,WB,WC,WE,WG,WH,WJ,WK,WL,WM,WN,WQ,WU,WV,WW,WY,WZ,Vb,Vf,Vi,Vj,Vk,Vl,Vv,Vx,Vy,Vz,V0,V1,V3,VO,VT,VV,VY,VZ,Ua,Ub,Uc,Ud,Ug,Uh,Um,Uq,Ux,Uy,U3,U4,U5,U6,U7,U8,UD,UE,US,UT,Tf,Tg,Tj,Tn,Tt,Tu,Tw,Ty,Tz,T6,T7,Sw,SD,SE,SF,SG,SI,SJ,SK,e59,e65]
   tactic =>
    unfold xP
    rw[aE n' (fun i=>sU (G i).2.1 n' i) (fun i=>gY (eJ x (cL x)) (G i).1 (G i).2.1 [])]
    ·rw[hrn,hfn]
     rcases rn with _|⟨q,qr⟩
     ·(sym=>(simp[aJ,aI,aK,aL,aS,aF,Za,Zb,Zf,Zh,Zl,Zm,Zv,Z3,Ys,YX,Xa,Xb,Xr,Xu,Xv,XJ,XM,XQ,We,Wh,Wm,WK,WO,WQ,WR,WS,Vv,V9,VA,VC,VD,VE,VF,VI,VJ,VK,VL,VM,VQ,VT,VV,Ua,Ud,Uf,Uz,U3,U4,U5,U6,U9,UA,UD,UE,Te,Tt,Tu,Tv,Tx,Tz,T0,T4,T6,T7,Sw,z];all_goals tactic=>exact rfl))
     ·have ch:=aAe (f:=fun w:List Int=>nL w) (q::qr) []
      have ch2:dC (nL q::qr.map fun w=>nL w) 0 1 (qr.length+1)=[nL q]::qr.map fun w=>[nL w]:=ch
      (sym=>(simp[aJ,aI,aK,aL,aS,aF,Za,Zb,Zf,Zh,Zl,Zm,Zv,Z3,Ys,YX,Xa,Xb,Xn,Xr,Xu,Xv,XJ,XM,XO,XX,XZ,Wb,Wc,We,Wh,Wi,W3,W6,WK,WO,WQ,WR,WS,Vs,Vt,Vu,Vv,Vw,V5,V6,V7,V9,VA,VC,VD,VE,VF,VI,VJ,VK,VL,VM,VQ,VT,VV,VZ,Ua,Ud,Uf,Ug,Ui,Uu,Uz,U3,U4,U5,U6,U9,UA,UB,UC,UD,UE,Te,Tt,Tu,Tv,Tx,Tz,T0,T4,T6,T7,TI,TJ,TL,Sw,Sx,Sy,z,ch2];all_goals tactic=>exact rfl))
    ·rw[b0,f0']; (sym=>(simp[aJ,aI,aK,aL,aS,aF,Za,Y9,YX,Xd,Xe,Xr,Xx,Xy,W3,WE,WF,WH,WI,WK,WL,WM,WO,WQ,WR,WS,WT,WY,WZ,Vb,Vf,Vg,VR,VS,VZ,Ua,Ub,Uc,Ud,Uf,Uk,Ux,U3,U4,U5,U6,T5,TK];all_goals tactic=>exact rfl))
    ·exact g2'
    ·rw[hrn,hfn]
     rcases rn with _|⟨q,qr⟩
     ·(sym=>(simp[aJ,aI,aK,aL,aS,aF,Za,Zb,Zf,Zh,Zl,Zm,Z3,Ys,VQ,VT,VV,VW,Uz,Te,Tt,Tu,Tx,Tz,T0,T6,z];all_goals tactic=>exact rfl))
     ·(sym=>(simp[aJ,aI,aK,aL,aS,aF,Za,Zb,Zf,Zh,Zl,Zm,Z3,Ys,VQ,VT,VV,VW,Uz,Te,Tt,Tu,Tx,Tz,T0,T6,z];all_goals tactic=>exact rfl))
def xV (fix:Nat):Vn:=⟨8,[(0,1),(0,2),(1,3),(2,3),(3,4),(3,5),(4,6),(5,6)],[(0,2,7),(3,4,7)],1,192,fix⟩
theorem uS {fix:Nat} (h:fix<256):(xV fix).Ok:=by
 refine⟨by show (1:Nat)≤8;decide,by show (8:Nat)≤16;decide,by show (8:Nat)≤60;decide,by show (2:Nat)≤20;decide,?_,?_,by show (1:Nat)<2^8;decide,by show (192:Nat)<2^8;decide,h⟩
 ·intro p hp
  have:∀ p∈[(0,1),(0,2),(1,3),(2,3),(3,4),(3,5),(4,6),(5,6)],p.1<8∧p.2<8∧p.1≠p.2:=by decide
  exact this p hp
 ·intro p hp
  have:∀ p∈[(0,2,7),(3,4,7)],p.1≤100∧p.2.1<8∧p.2.2<8∧p.2.1≠p.2.2:=by decide
  exact this p hp
def aAl (a b:Nat):Bool:=(List.range 16).any fun d=>((List.range d).all fun j=>a.testBit j==b.testBit j)&&(a.testBit d && !b.testBit d)
theorem aEB {a b:Nat} (h:aAl a b=true):yY a b:=by
 unfold aAl at h
 rw[List.any_eq_true]at h
 obtain⟨d,_,h⟩:=h
 simp only[Bool.and_eq_true,List.all_eq_true,List.mem_range,beq_iff_eq,Bool.not_eq_true']at h
 exact⟨d,h.1,h.2.1,h.2.2⟩
theorem aGv {x:Vn} (ok:x.Ok) {c:Nat} {l:List Nat} (hl:csN x=l) (h:(l.contains c&&l.all fun t=>t==c||aAl c t)=true):isCut x c:=by
 rw[Bool.and_eq_true,List.all_eq_true]at h
 obtain⟨h1,h2⟩:=h
 rw[List.contains_iff_mem,←hl]at h1
 refine aGu ok ((rE ok).1 h1) fun t ht q=>?_
 have:=h2 t (by rw[←hl];exact(rE ok).2 ht)
 rw[Bool.or_eq_true,beq_iff_eq]at this
 rcases this with rfl|h
 ·exact yX q
 ·exact yX (aBy q (aEB h))
theorem aPZ:csN (xV 0)=[1]:=by kernel_rfl
theorem aIO:csN (xV 9)=[6,192]:=by kernel_rfl
theorem aLG:csN (xV 79)=[176]:=by kernel_rfl
theorem aLH:csN (xV 15)=[192]:=by kernel_rfl
theorem aGB {x:Vn} (ok:x.Ok) {l:List Nat} (h:csN x=l) (hl:l≠[]):qY x=true:=(aIP ok).2 (by rw[h];exact hl)
theorem aCs {x:Vn} (ok:x.Ok) {c:Nat} {l:List Nat} (hl:csN x=l) (h:(l.contains c&&l.all fun t=>t==c||aAl c t)=true):runW aA 29 [.agg x.c] []=some (.tup [nL (dA (el c)),I 0],[]):=by
 have hc:=aGv ok hl h
 have hh:qY x=true:=(lB ok).2 ⟨c,hc.lt,hc.min.1⟩
 obtain⟨c',h1,h2⟩:=w29 ok ok.h23 hh
 rw[hc.eq h1];exact h2
theorem aDh {x:Vn} (ok:x.Ok) {c:Nat} {l:List Nat} (hl:csN x=l) (hn:l≠[]) (h:aKD l l.length=c):runW aA 31 [.agg x.c] []=some (.tup [nL (dA (el c)),I 0],[]):=by
 have:=aEA ok (by rw[hl];exact hn)
 rw[hl,h]at this
 rw[this]
 exact w31 ok (aGB ok hl hn)
abbrev vC (f:Int):List AV:=[I (8),.fs [[I (0),I (1)],[I (0),I (2)],[I (1),I (3)],[I (2),I (3)],[I (3),I (4)],[I (3),I (5)],[I (4),I (6)],[I (5),I (6)]],.fs [[I (0),I (2),I (7)],[I (3),I (4),I (7)]],I (1),I (192),I f]
theorem aLV:runW aA 29 [.agg (vC 0)] []=some (.tup [.fs [[I (0)]],I (0)],[]):=aCs (x:=xV 0) (uS (by omega)) (c:=1) aPZ (by decide)
theorem aLT:runW aA 29 [.agg (vC 9)] []=some (.tup [.fs [[I (1)],[I (2)]],I (0)],[]):=aCs (x:=xV 9) (uS (by omega)) (c:=6) aIO (by decide)
theorem aLR:runW aA 29 [.agg (vC 79)] []=some (.tup [.fs [[I (4)],[I (5)],[I (7)]],I (0)],[]):=aCs (x:=xV 79) (uS (by omega)) (c:=176) aLG (by decide)
theorem aLP:runW aA 31 [.agg (vC 15)] []=some (.tup [.fs [[I (6)],[I (7)]],I (0)],[]):=aDh (x:=xV 15) (uS (by omega)) (c:=192) aLH (by simp) (by decide)
theorem aKX:runW aA 31 [.agg (vC 9)] []=some (.tup [.fs [],I (0)],[]):=aDh (x:=xV 9) (uS (by omega)) (c:=0) aIO (by simp) (by decide)
theorem aJq:aCQ (xV 0)=[0,1,1,2,3,3,4,1]:=by kernel_rfl
theorem aLW:runW aA 20 [.agg (vC 0)] []=some (.tup [.fs [[I (0)],[I (1)],[I (1)],[I (2)],[I (3)],[I (3)],[I (4)],[I (1)]],I (0)],[]):=by
 rcases w20 (xV 0).v (by decide) (by decide)with ⟨h,_⟩|⟨_,x,_,hx,h⟩
 ·exact absurd (uS (fix:=0) (by omega)).vE h
 ·have e:aCQ x=[0,1,1,2,3,3,4,1]:=by
   have hinj:∀ {x y:Vn},x.v=y.v→x=y:=by
    rintro ⟨a,b,c,d,e,f⟩ ⟨a',b',c',d',e',f'⟩ h
    simp only[Vn.v,Va.mk.injEq]at h
    obtain⟨h1,h2,h3,h4,h5,h6⟩:=h
    have e2:b=b':=(List.map_inj_right (f:=bI) (fun p q h=>by
     obtain⟨p1,p2⟩:=p
     obtain⟨q1,q2⟩:=q
     simp only[bI,Prod.mk.injEq]at h
     simp only[Prod.mk.injEq];omega)).1 h2
    have e3:c=c':=(List.map_inj_right (f:=pI) (fun p q h=>by
     obtain⟨p1,p2,p3⟩:=p
     obtain⟨q1,q2,q3⟩:=q
     simp only[pI,Prod.mk.injEq]at h
     simp only[Prod.mk.injEq];omega)).1 h3
    simp only[Vn.mk.injEq]
    exact⟨by omega,e2,e3,by omega,by omega,by omega⟩
   rw[←hinj hx]
   exact aJq
  rw[e]at h
  exact h
theorem aHk {x:Vn} {u:Nat} {w:List Int} (hF:x.F≤16) (h:oZ x u w=0):w.length≤16:=by
 obtain⟨ks,rfl,hks⟩:=aAr h
 unfold oZ at h
 by_cases hn:dA ks=[]
 ·rw[if_pos hn]at h;simp at h
 rw[if_neg hn,if_neg (by rw[aGg hks];simp),jB]at h
 cases hl:lS x ks
 ·rw[hl]at h;simp at h
 ·unfold lS at hl
  rw[Bool.and_eq_true,decide_eq_true_eq]at hl
  have hc:∀ j,j≤ks.length→bP (dY ks j)=j:=by
   intro j
   induction j with
   | zero=>intro _;rw[show dY ks 0=0 from rfl];exact aCx
   | succ j ih =>
     intro hj
     obtain⟨k,hk⟩:=bG (l:=ks) (i:=j) (by omega)
     have hkF:=hks k (List.mem_of_getElem? hk)
     rw[zL hk,mC (by omega),ih (by omega)]
     have h0:=gH hl.1 j (by omega)
     unfold wkE at h0
     rw[aW hk]at h0
     cases hb:(dY ks j).testBit k
     ·rfl
     ·rw[hb]at h0;simp at h0
  have h1:=hc ks.length (Nat.le_refl _)
  have h2:=mD (dY ks ks.length)
  rw[bZ];omega
theorem aHp {x:Vn} {ws:List (List Int)} (hF:x.F≤16) (h:aDN x ws=0):ws.length≤16∧∀ w∈ws,w.length≤16:=by
 unfold aDN at h
 by_cases h16:16<ws.length
 ·rw[if_pos h16]at h;simp at h
 rw[if_neg h16]at h
 refine⟨by omega,fun w hw=>?_⟩
 obtain⟨j,hj⟩:=List.getElem?_of_mem hw
 have h0:=gH h j (fP hj)
 unfold xD at h0
 rw[aW hj]at h0
 exact aHk hF h0
theorem aKW:∃ ws:List (List Int),ws.length=2∧runW aA 33 [.agg (vC 9)] []=some (.tup [wL ws,I 0],[])∧runW aA 35 [.agg (vC 9),wL ws] []=some (I 0,[]):=by
 have ok:(xV 9).Ok:=uS (by omega)
 obtain⟨n,ws,hn,hl,hv,hr⟩:=w33 ok (aGB ok aIO (by simp))
 have hm:tI (xV 9) 6:=(rE ok).1 (by rw[aIO];simp)
 have h2:=(hn.min.1 hm).2
 have h3:bP 6=2:=by decide
 have hw:∀ w∈ws,w.length<1000000:=by
  intro w hw
  have:=(aHp ok.F16 hv).2 w hw
  omega
 have hV:=w35 ok (ws:=ws) (by omega) hw
 rw[hv]at hV
 exact⟨ws,by omega,hr,hV⟩
theorem zC:runW aA 16 [] []=some (.bool true,[]):=by
 obtain⟨ws,h1,h2,h3⟩:=aKW
 have l1:((ws.length:Int)=2)=True:=eq_true (by omega)
 rw[r16 (by simp)];unfold x16;dsimp only
 (sym=>(simp[Za,Zb,Zd,Ze,Zf,Zg,Zh,Zj,Zl,Zm,Zo,Zp,Zq,Zr,Zv,Zy,Z1,Z3,ZE,ZF,ZO,ZP,ZT,ZU,ZV,ZW,Yc,Yi,Yq,Yr,Y9,YX,YY,YZ,Xb,Xc,Xi,Xm,Xo,Xr,Xs,Xt,Xu,Xv,Xw,XK,XN,Wf,Wi,Wq,Wu,W3,W6,W7,W9,WA,WC,WE,WF,WG,WH,WK,WL,WM,WN,WO,WP,WQ,WR,WS,WU,WV,WW,WX,WY,WZ,Vb,Vf,Vg,Vi,Vj,Vk,Vl,Vv,Vx,Vy,Vz,V9,VA,VC,VD,VE,VF,VG,VJ,VK,VL,VM,VT,VV,VY,VZ,Ua,Ub,Uc,Ud,Uf,Ug,Uh,Ui,Uk,Um,Uo,Uq,Uu,Ux,Uy,U0,U1,U2,U3,U4,U5,U6,U7,U8,UD,UF,UG,UH,UI,UU,UV,UW,UX,Tn,Tt,Tu,Tv,Tw,Tz,T6,T7,TP,TQ,TR,TS,TT,Sw,SD,SE,SG,SI,SJ,SK,aLY,aLX,aLW,aLV,aLU,aLT,aLS,aLR,aLQ,aLP,aKX,h2,h3,l1,aKV,aKU,aKT,aKS,aKR,aKQ,aKP,aKO,aKN,aKM,aKL];all_goals tactic=>exact rfl))
abbrev pR (p:Int×Int×Int):List AV:=[I p.1,I p.2.1,I p.2.2]
def cP (l:List (Int×Int×Int)):List AV:=(l.map pR).flatten
theorem aGS (k:List (Int×Int×Int)):aAn 3 (k.map pR):=by
 intro r hr
 simp only[List.mem_map]at hr
 obtain⟨x,_,rfl⟩:=hr
 exact⟨rfl,rfl,rfl,rfl⟩
theorem aHb (l:List (Int×Int×Int)):(cP l).length=l.length*3:=by rw[cP,(lL (aGS _)).2.2.2,List.length_map]
theorem aKw (l:List (Int×Int×Int)) (x:Int×Int×Int):cP (l++[x])=cP l++pR x:=by simp[cP]
theorem nP {l:List (Int×Int×Int)}:fB (cP l)=true:=(lL (aGS _)).1
theorem aLJ (l:List (Int×Int×Int)):dC (cP l) 0 3 l.length=l.map pR:=by
 have:=aAD (aGS l)
 rw[List.length_map]at this
 exact this
abbrev gP (v:Va):List (Int×Int×Int)→XH
 | []=>[some (.blk true (.cells true v.c)),some (.blk true (.cells true [I 0,.nilsl,.nilsl,I 0,I 0,I 0])),some (.blk true (.cells true [I v.F,rB v.bs,.nilsl,I v.sick,I v.nur,I v.fix]))]
 | p::r=>[some (.blk true (.cells true v.c)),some (.blk true (.cells true [I 0,.nilsl,.nilsl,I 0,I 0,I 0])),some (.blk false (.cells true [I v.F,rB v.bs,.sl 3 0 3 (r.length+1),I v.sick,I v.nur,I v.fix])),some (.blk true (.cells true (cP (p::r))))]
abbrev s17 (i:Nat):List AV:=[.pt 0 0,.pt 1 0,.pt 2 0,I (i:Nat)]
theorem aHQ {v:Va} (hp:v.ps.length≤1000) {i:Nat} (hi:i<v.ps.length) :
 aV 0 [1,2,3,4] (execW aA 17 0 none (match aCP with | .loop _ a=>a|c=>c) (aR [1,2,3,4] (s17 i)) (gP v (v.ps.take i)))=some (s17 (i+1),gP v (v.ps.take (i+1))):=by
 obtain⟨p,hx⟩:=bG hi
 have a1:=cU hi
 have a2:=eK hi (by omega)
 have hl:(v.ps.take i).length=i:=by rw[List.length_take];omega
 rw[show v.ps.take (i+1)=v.ps.take i++[p] by rw[List.take_add_one,hx];rfl]
 have hap:=aKw (v.ps.take i) p
 have hcl:=aHb (v.ps.take i)
 generalize v.ps.take i=l at *
 unfold aCP
 dsimp only
 cases l with
 | nil =>
   have e1:cP ([]++[p])=[I p.1,I p.2.1,I p.2.2]:=rfl
   have e1:cP [p]=[I p.1,I p.2.1,I p.2.2]:=rfl
   (sym=>(simp[nP,Za,Zb,Zc,Zd,Ze,Zf,Zh,Zi,Zl,Zm,Zo,Zv,Z1,Z3,Z8,ZA,ZF,ZG,ZH,ZI,ZJ,ZK,ZM,ZN,Ya,Yc,Yg,Yh,Yj,Ys,Yw,Yx,YX,Xb,Xc,Xd,Xi,Xk,Xm,Xr,Xv,Xw,Xx,Ws,Wu,Wz,W0,W3,W4,W5,W6,W7,W8,W9,WA,WC,WE,WF,WH,WI,WK,WL,WM,WO,WQ,WR,WS,WT,WY,WZ,Vb,Vf,Vg,Vm,VQ,VR,VS,VT,VU,VZ,Ua,Ub,Uc,Ud,Uf,Ug,Uh,Ui,Uj,Uk,Um,Uo,Ur,Us,Uu,Ux,Uy,U0,U1,U3,U4,U5,U6,U7,U8,UF,UG,UH,UI,UU,UV,UW,UX,UY,UZ,Ta,Tb,Tf,Tg,Th,Ti,Tj,Tk,Tl,Tm,Tn,Tq,Tr,Ts,Tt,Tu,Tw,Ty,Tz,T2,T5,T6,T7,TK,TP,Ss,Su,Sv,a1,a2,hx,e1];all_goals tactic=>exact rfl))
 | cons q r =>
   have hl:r.length+1=i:=by simpa using hl
   have b1:((r.length+1+1)*24≤1099511627776)=True:=eq_true (by omega)
   have b2:(r.length+1+1≤1099511627776)=True:=eq_true (by omega)
   have b3:((r.length+1)*3=(cP (q::r)).length)=True:=eq_true (by rw[hcl];simp)
   have e1:cP (q::r)++[I p.1,I p.2.1,I p.2.2]=cP (q::(r++[p])):=hap.symm
   (sym=>(simp[nP,Za,Zb,Zc,Zd,Ze,Zf,Zh,Zi,Zl,Zm,Zo,Zv,Z1,Z3,Z8,ZA,ZF,ZG,ZH,ZI,ZJ,ZK,ZM,ZN,Ya,Yc,Yg,Yh,Yj,Ys,Yw,Yx,YX,Xb,Xc,Xd,Xi,Xk,Xm,Xr,Xv,Xw,Xx,Ws,Wu,Wy,Wz,W3,W4,W5,W6,W7,W8,W9,WA,WC,WE,WF,WH,WI,WK,WL,WM,WO,WQ,WR,WS,WT,WY,WZ,Vb,Vf,Vg,Vm,VQ,VR,VS,VT,VU,VZ,Ua,Ub,Uc,Ud,Uf,Ug,Uh,Ui,Uj,Uk,Um,Uo,Ur,Us,Uu,Ux,Uy,Uz,U0,U1,U3,U4,U5,U6,U7,U8,UF,UG,UH,UI,UU,UV,UW,UX,UY,UZ,Ta,Tc,Td,Tf,Tg,Th,Ti,Tj,Tk,Tl,Tm,Tn,Tp,Tq,Tr,Tt,Tu,Tw,Ty,Tz,T2,T5,T6,T7,TH,TK,TP,Ss,Sv,a1,a2,hx,b1,b2,b3,e1];all_goals tactic=>exact rfl))
theorem w17 (v:Va) (hp:v.ps.length≤1000):runW aA 17 [.agg v.c] []=some (.agg v.c,[]):=by
 have z:=Te (n:=(v.ps.length:Int))
 have rd:=fun i (hi:i<v.ps.length)=>aHQ hp hi
 have ht:v.ps.take v.ps.length=v.ps:=List.take_length
 have h0:v.ps.take 0=[]:=rfl
 rw[r17 (by simp)];unfold x17;dsimp only
 sym =>
  simp[nP,Za,Zb,Zc,Zd,Ze,Zf,Zh,Zl,Zm,Zo,Zv,Zw,Zz,Z0,Z8,ZG,ZK,ZL,Ya,YT,Xi,Xk,Xl,Xo,We,Wg,Wi,Wq,Ws,Wt,W3,W4,W5,W6,W7,W9,WA,WB,WC,VO,VY,VZ,Ua,Ub,Uc,Ud,Ug,Uh,Um,Uu,U7,U8,UD,UE,UF,UG,UH,UI,US,UT,Tf,Tg,Tk,Tl,Tm,Tn,Tu,Ty,Tz,T6,T7]
  tactic =>
   unfold aCP
   rw[aE v.ps.length (fun i=>s17 i) (fun i=>gP v (v.ps.take i))]
   ·rw[ht]
    have hc:=aLJ v.ps
    have hcl:=aHb v.ps
    rcases hv:v.ps with _|⟨q,r⟩
    ·rw[hv]at z
     (sym=>(simp[nP,Za,Zb,Zc,Zf,Zh,Zl,Zm,Zv,Z3,Z8,ZF,ZG,ZK,ZL,Ya,Yc,Ys,Y9,YX,YZ,Xb,Xi,Xl,Xo,Xr,Xt,Xv,XJ,XL,XN,XQ,We,Wg,Wi,Wm,Ws,W3,W4,W5,W6,W7,W8,W9,WA,WC,WK,WO,WQ,WR,WS,Vv,V9,VA,VC,VD,VE,VF,VG,VJ,VK,VL,VN,VQ,VT,VV,Ua,Uc,Ud,Uf,Ug,Uh,Um,Uu,Uz,U3,U4,U5,U6,U7,U8,U9,UA,UD,UE,UF,Tf,Tg,Tj,Tk,Tl,Tm,Tt,Tu,Tv,Tx,Tz,T0,T4,T6,Sw,z,hv];all_goals tactic=>exact rfl))
    ·rw[hv]at z hc hcl
     have hc:dC (cP (q::r)) 0 3 (r.length+1)=(q::r).map pR:=hc
     have b3:((r.length+1)*3≤(cP (q::r)).length)=True:=eq_true (by rw[hcl];simp)
     (sym=>(simp[nP,Za,Zb,Zc,Zf,Zh,Zl,Zm,Zv,Z3,Z8,ZF,ZG,ZK,ZL,Ya,Yc,Ys,YX,YZ,Xb,Xi,Xl,Xm,Xr,Xt,Xv,XJ,XL,XN,XO,XX,XY,Wa,Wb,We,Wg,Wi,Ws,W3,W4,W5,W6,W7,W8,W9,WA,WC,WK,WO,WQ,WR,WS,Vs,Vt,Vu,Vv,Vw,V5,V6,V7,V9,VA,VC,VD,VE,VF,VG,VJ,VK,VL,VN,VQ,VT,VV,VZ,Ua,Uc,Ud,Uf,Ug,Uh,Ui,Um,Uo,Uu,Uz,U3,U4,U5,U6,U7,U8,U9,UA,UB,UC,UD,UE,UF,Te,Tf,Tg,Tj,Tk,Tl,Tm,Tt,Tu,Tv,Tx,Tz,T0,T4,T6,TJ,Sw,Sx,Sy,z,hv,hc,b3];all_goals tactic=>exact rfl))
   ·rw[h0]; (sym=>(simp[nP,Za,Y9,YX,Xd,Xr,Xx,W3,WE,WF,WH,WI,WK,WL,WM,WO,WQ,WR,WS,WT,WY,WZ,Vf,VR,VS,VZ,Ua,Ub,Uc,Ud,Uf,Uk,Ux,U3,U4,U5,U6,T5,TK];all_goals tactic=>exact rfl))
   ·exact rd
   ·rw[ht]
    rcases hv:v.ps with _|⟨q,r⟩
    ·rw[hv]at z
     (sym=>(simp[nP,Za,Zb,Zf,Zh,Zl,Zm,Zv,Z3,Z8,ZF,ZG,Ya,Yc,Ys,Y9,W3,W4,W5,WC,VQ,VT,VV,VW,Ua,Uh,Uz,Tf,Tg,Tk,Tt,Tu,Tx,Tz,T0,T6,z,hv];all_goals tactic=>exact rfl))
    ·rw[hv]at z
     (sym=>(simp[nP,Za,Zb,Zf,Zh,Zl,Zm,Zv,Z3,Z8,ZF,ZG,Ya,Yc,Ys,W3,W4,W5,WC,VQ,VT,VV,VW,VZ,Ug,Ui,Uz,Te,Tf,Tg,Tk,Tt,Tu,Tx,Tz,T0,T6,z,hv];all_goals tactic=>exact rfl))
theorem w15 (v:Va):runW aA 15 [.agg v.c] []=some (.bool (decide (100<v.bs.length)||decide (50<v.ps.length)),[]):=by
 by_cases h1:100<v.bs.length
 ·have c1:((100:Int)<(v.bs.length:Int))=True:=eq_true (by omega)
  rw[decide_eq_true h1,Bool.true_or]
  rw[r15 (by simp)];unfold x15;dsimp only
  (sym=>(simp[nP,Za,Zb,Zf,Zh,Zl,Zm,Zo,Zp,Zt,Zv,Zy,Zz,Z3,Z8,ZF,ZG,ZV,Ya,Yc,Yu,YY,Xi,Xk,Xl,Xs,XK,We,Wf,Wg,Wi,Ws,W3,W4,W5,WB,WC,WK,WO,WQ,WR,WS,Vv,V9,VA,VC,VD,VE,VF,VG,VJ,VK,VL,VM,VO,VY,Ua,Uc,Ud,Uf,Uh,Ui,Um,Uy,U3,U4,U7,U8,UD,UE,US,UT,Tf,Tg,Tk,Tn,Tt,Tu,Tv,Tz,T6,T7,Sw,c1];all_goals tactic=>exact rfl))
 ·have c1:((100:Int)<(v.bs.length:Int))=False:=eq_false (by omega)
  rw[decide_eq_false h1,Bool.false_or]
  by_cases h2:50<v.ps.length
  ·have c2:((50:Int)<(v.ps.length:Int))=True:=eq_true (by omega)
   rw[decide_eq_true h2]
   rw[r15 (by simp)];unfold x15;dsimp only
   (sym=>(simp[nP,Za,Zb,Zf,Zh,Zl,Zm,Zo,Zp,Zr,Zv,Zy,Zz,Z3,Z8,ZF,ZG,ZW,Ya,Yc,Yu,YY,Xi,Xk,Xl,Xs,XK,We,Wf,Wg,Wi,Ws,W3,W4,W5,WB,WC,WK,WO,WQ,WR,WS,Vv,V9,VA,VC,VD,VE,VF,VG,VJ,VK,VL,VM,VO,VY,Ua,Uc,Ud,Uf,Uh,Ui,Um,Uy,Uz,U3,U4,U7,U8,UD,UE,US,UT,Tf,Tg,Tk,Tn,Tt,Tu,Tv,Tz,T6,T7,Sw,c1,c2];all_goals tactic=>exact rfl))
  ·have c2:((50:Int)<(v.ps.length:Int))=False:=eq_false (by omega)
   rw[decide_eq_false h2]
   rw[r15 (by simp)];unfold x15;dsimp only
   (sym=>(simp[nP,Za,Zb,Zf,Zh,Zl,Zm,Zo,Zp,Zr,Zv,Zy,Zz,Z3,Z8,ZF,ZG,ZW,Ya,Yc,Yu,YY,Xi,Xk,Xl,Xs,XK,We,Wf,Wg,Wi,Ws,W3,W4,W5,WB,WC,WK,WO,WQ,WR,WS,Vv,V9,VA,VC,VD,VE,VF,VG,VJ,VK,VL,VM,VO,VY,Ua,Uc,Ud,Uf,Uh,Ui,Um,Uz,U3,U4,U7,U8,UD,UE,US,UT,Tf,Tg,Tk,Tn,Tt,Tu,Tv,Tz,T6,T7,Sw,c1,c2];all_goals tactic=>exact rfl))
theorem aGL (a:Nat):(dA (el a)).length<1000000000:=by
 rw[bZ]
 have:=wK a
 omega
theorem aMo {v:Va} (h:100<v.bs.length∨50<v.ps.length):runW aA 15 [.agg v.c] []=some (.bool true,[]):=by
 rw[w15]
 rcases h with h|h
 ·rw[decide_eq_true h,Bool.true_or]
 ·rw[decide_eq_true h,Bool.or_true]
theorem aMp {v:Va} (h:¬(100<v.bs.length∨50<v.ps.length)):runW aA 15 [.agg v.c] []=some (.bool false,[]):=by
 rw[w15,decide_eq_false (by omega),decide_eq_false (by omega)]
 rfl
theorem aMn {l:List Int} (h:l.length<1000000000):runW aA 22 [nL l,nL l] []=some (.bool true,[]):=by
 rw[w22 l l h,decide_eq_true rfl]
theorem aHo (v:Va) (hb:v.bs.length<1000000000) (hp:v.ps.length<1000000000) {c:List Int} (hc:c.length<1000000000) (s:Int) :
 ∃ (l:List Int) (e:Int),l.length<1000000000∧runW aA 25 [.agg v.c,nL c,I s] []=some (.tup [nL l,I e],[])∧runW aA 26 [.agg v.c,nL c,I s] []=some (.tup [nL l,I e],[]):=by
 rcases aJt v hb hp hc s with ⟨e,_,h1,h2⟩|⟨x,n,_,_,_,_,_,h1,h2⟩
 ·exact⟨[],e,by simp,h1,h2⟩
 ·exact⟨_,_,aGL _,h1,h2⟩
theorem w4 (v:Va) (c:List Int) (s:Int):runW aA 4 [.agg v.c,nL c,I s] []=some (.bool true,[]):=by
 by_cases hl:100<v.bs.length∨50<v.ps.length
 ·have h15:=aMo hl
  rw[r4 (by simp)];unfold x4;dsimp only
  (sym=>(simp[Za,Zb,Zf,Zg,Zh,Zj,Zl,Zm,Zo,Zp,Zt,Zv,Zy,Zz,ZG,ZO,ZP,ZT,ZU,ZV,YX,YY,YZ,Xb,Xi,Xk,Xl,Xr,Xs,Xt,Xv,XK,We,Wf,Wg,Wi,Ws,W3,W4,W5,W7,W8,W9,WA,WB,WK,WN,WO,WP,WQ,WR,WS,WU,WV,Vi,Vj,Vk,Vv,Vx,Vy,V0,V1,V3,V9,VA,VC,VD,VE,VF,VG,VJ,VK,VL,VM,VO,VT,VU,VY,VZ,Ua,Uc,Ud,Uf,Ug,Uh,Um,U2,U3,U4,U5,U6,U7,U8,UD,UE,US,UT,Tf,Tg,Tj,Tn,Tu,Tv,Tz,T1,T6,T7,Sw,SD,SE,SF,SI,SJ,SK,h15,zC];all_goals tactic=>exact rfl))
 ·have h15:=aMp hl
  by_cases hc:40<c.length
  ·have a1:((40:Int)<(c.length:Int))=True:=eq_true (by omega)
   rw[r4 (by simp)];unfold x4;dsimp only
   (sym=>(simp[Za,Zb,Zf,Zg,Zh,Zj,Zl,Zm,Zo,Zp,Zr,Zv,Zy,Zz,Z3,ZF,ZG,ZO,ZP,ZT,ZU,ZW,Yc,Yu,YX,YY,YZ,Xb,Xi,Xk,Xl,Xr,Xs,Xt,Xv,XK,We,Wf,Wg,Wi,Ws,W3,W4,W5,W7,W8,W9,WA,WB,WK,WN,WO,WP,WQ,WR,WS,WU,WV,Vi,Vj,Vk,Vv,Vx,Vy,V0,V1,V3,V9,VA,VC,VD,VE,VF,VG,VJ,VK,VL,VM,VO,VT,VU,VY,VZ,Ua,Uc,Ud,Uf,Ug,Uh,Ui,Um,Uy,U2,U3,U4,U5,U6,U7,U8,UD,UE,US,UT,Tf,Tg,Tj,Tn,Tt,Tu,Tv,Tz,T1,T6,T7,Sw,SD,SE,SF,SI,SJ,SK,h15,a1,zC];all_goals tactic=>exact rfl))
  ·have a1:((40:Int)<(c.length:Int))=False:=eq_false (by omega)
   have hb:v.bs.length<1000000000:=by omega
   have hp:v.ps.length<1000000000:=by omega
   have h17:=w17 v (by omega)
   obtain⟨a,e,la,h25,h26⟩:=aHo v hb hp (c:=c) (by omega) s
   obtain⟨f,h27,h28⟩:=aJs v hb hp (c:=c) (by omega)
   have c1:=aMn la
   rw[r4 (by simp)];unfold x4;dsimp only
   (sym=>(simp[Za,Zb,Zc,Ze,Zf,Zg,Zh,Zj,Zk,Zl,Zm,Zo,Zp,Zq,Zr,Zv,Zw,Zy,Zz,Z3,ZE,ZF,ZG,ZH,ZJ,ZK,ZL,ZM,ZO,ZP,ZQ,ZR,ZT,ZU,ZV,ZW,Yc,Yi,Yq,Yu,YX,YY,YZ,Xb,Xi,Xk,Xl,Xo,Xr,Xs,Xt,Xu,Xv,XJ,XK,XN,We,Wf,Wg,Wi,Ws,W3,W4,W5,W6,W7,W8,W9,WA,WB,WC,WK,WN,WO,WP,WQ,WR,WS,WU,WV,Vi,Vj,Vk,Vm,Vo,Vp,Vq,Vv,Vx,Vy,Vz,V0,V1,V3,V9,VA,VC,VD,VE,VF,VG,VJ,VK,VL,VM,VO,VT,VV,VY,VZ,Ua,Ub,Uc,Ud,Uf,Ug,Uh,Ui,Um,Ur,Us,Ut,Uu,Uy,Uz,U0,U1,U2,U3,U4,U5,U6,U7,U8,UD,UE,UF,US,UT,Tf,Tg,Tj,Tl,Tm,Tn,Tt,Tu,Tv,Tw,Tz,T6,T7,Sw,SD,SE,SF,SG,SI,SJ,SK,h15,a1,h17,h25,h26,h27,h28,c1,zC];all_goals tactic=>exact rfl))
end Go.Proofs.YtiabjdfdkiijmaaDoor
