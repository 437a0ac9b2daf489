/- Parts of a proof, joined: K77 K78 K79 K80 K81 K82 K83 K84 K85 K86 K87 K88 K89 K90 K91 K92 K93 K94 K95 K96 K97 K98 K99 K100 K101 K102. No statement of the seed is proved here. -/
import Derived.KernelRfl
import Derived.Test.YtiabjdfdkiijmaaDoorI6
set_option linter.unusedSimpArgs false
set_option linter.unusedVariables false
set_option linter.unusedSectionVars false
namespace Go.Proofs.YtiabjdfdkiijmaaDoor
open Go Go.DL
set_option maxRecDepth 100000
set_option maxHeartbeats 4000000
abbrev sU (rows:List (List Int)) (n i:Nat):List AV:=[.pt 0 0,oR rows,I (n:Nat),I (i:Nat)]
section
variable {x:Vn} (ok:x.Ok) {u r n i:Nat} (hu:u<2^x.F) {rows:List (List Int)}
include ok in
theorem aIR {fl:Nat→Nat→Int} (ho:Ow (dC x) x.sick x.nur x.fix u (r+1) fl) :
 ∃ fl' ks,Wk (dC x) x.sick x.nur x.fix x.F u r fl' 33 ks ∧
   execW aA 33 0 none iV (aU [7,9,10,11,29,30] (s33 rows [] 32 n i)) (gY (eH x (dC x)) fl rows [])=execW aA 33 0 none (match iV with | .loop _ a=>a|c=>c) (aU [7,9,10,11,29,30] (s33 rows (cK ks) 33 n i)) (gY (eH x (dC x)) fl' rows (cK ks)):=by
 have hF:=ok.F16
 have hst:=fC ok x.ps.length
 have key:∃ q:(Nat→Nat→Int)×Nat×List Nat,Wk (dC x) x.sick x.nur x.fix x.F u r q.1 q.2.1 q.2.2∧q.2.1=33 ∧
  execW aA 33 0 none iV (aU [7,9,10,11,29,30] (s33 rows [] 32 n i)) (gY (eH x (dC x)) fl rows [])=execW aA 33 0 none (match iV with | .loop _ a=>a|c=>c) (aU [7,9,10,11,29,30] (s33 rows (cK q.2.2) q.2.1 n i)) (gY (eH x (dC x)) q.1 rows (cK q.2.2)):=by
  have hd0:aZ 0 [7,9,10,11,29,30] (some (.normal,aU [7,9,10,11,29,30] (s33 rows [] 32 n i),gY (eH x (dC x)) fl rows []))=some (s33 rows [] 32 n i,gY (eH x (dC x)) fl rows []):=by
   cases rows
   ·(sym=>(simp[aJ,aI,aK,aL,aS,aE,YR,YZ,Xa,Xn,Xt,Xu,Wv,W7,W8,WA,WB,WE,WF,WG,WI,WK,WL,WM,WN,WS,WT,WU,WY,WZ,VK,VL,VM,VT,VU,VV,VW,VX,VZ,Ue,Ur,Ux,Uy,Uz,U0,Tv,TA,TK,Ss];all_goals tactic=>exact rfl))
   ·(sym=>(simp[aJ,aI,aK,aL,aS,aE,YR,YY,YZ,Xa,Xn,Xs,Xt,Xu,Wv,W7,W8,WA,WB,WE,WF,WG,WI,WK,WL,WM,WN,WS,WT,WU,WY,WZ,VK,VL,VM,VT,VU,VV,VW,VX,VZ,Ue,Ur,Ux,Uy,Uz,U0,Tv,TA,TK,Ss];all_goals tactic=>exact rfl))
  unfold iV
  refine qG (σ:=(Nat→Nat→Int)×Nat×List Nat) (fun q=>s33 rows (cK q.2.2) q.2.1 n i) (fun q=>gY (eH x (dC x)) q.1 rows (cK q.2.2)) (fun q=>Wk (dC x) x.sick x.nur x.fix x.F u r q.1 q.2.1 q.2.2) (fun q=>q.2.1=33) (fun q=>(tot q.1).toNat) (fl,32,[]) hd0 ho.start ?_
  rintro ⟨f,a,ks⟩ w
  dsimp only at w ⊢
  have hal:=w.lt
  by_cases h33:a=33
  ·left
   refine⟨?_,h33⟩
   subst h33
   rw[show s33 rows (cK ks) 33 n i=[.pt 0 0,oR rows,oW rows (cK ks),I 33,I (n:Nat),I (i:Nat)] from rfl]
   generalize cK ks=os
   cases rows<;>cases os
   ·(sym=>(simp[aJ,aI,aK,aL,aS,aE,Za,Zb,Zf,Zh,Zl,Zm,Zv,Z3,Yp,VK,VN,VP,VQ,Uj,Us,Ti,Tj,Tm,Tp,Tq,Tw,Tx,TK];all_goals tactic=>exact rfl))
   ·(sym=>(simp[aJ,aI,aK,aL,aS,aE,Za,Zb,Zf,Zh,Zl,Zm,Zv,Z3,Yp,VK,VN,VP,VQ,Uj,Us,Ti,Tj,Tm,Tp,Tq,Tw,Tx,TL];all_goals tactic=>exact rfl))
   ·(sym=>(simp[aJ,aI,aK,aL,aS,aE,Za,Zb,Zf,Zh,Zl,Zm,Zv,Z3,Yp,VK,VN,VP,VQ,Uj,Us,Ti,Tj,Tm,Tp,Tq,Tw,Tx,TK];all_goals tactic=>exact rfl))
   ·(sym=>(simp[aJ,aI,aK,aL,aS,aE,Za,Zb,Zf,Zh,Zl,Zm,Zv,Z3,Yp,VK,VN,VP,VQ,Uj,Us,Ti,Tj,Tm,Tp,Tq,Tw,Tx,TL];all_goals tactic=>exact rfl))
  ·right
   obtain⟨d0,hd0,hp0⟩:=w.next h33
   obtain⟨d,hd,hp,e66⟩:=aLF (l:=eH x (dC x)) (fl:=f) hal hd0 hp0
   have hb:=w.ok.b
   have hdec:=aGT (fl:=f) (a:=a) (d:=d) hal hd
   have hpos:=aGS (w.ok' hp)
   have hm:(tot (xA f a d)).toNat<(tot f).toNat:=by omega
   have hksl:(cK ks).length<1000:=by
    rw[bT]
    have h1:ks.length≤16:=by
     have h2:ks.length=bU (dQ ks ks.length):=by
      have:∀ j,j≤ks.length→bU (dQ ks j)=j:=by
       intro j
       induction j with
       | zero=>intro _;rw[show dQ ks 0=0 from rfl];exact aCl
       | succ j ih =>
         intro hj
         obtain⟨k,hk⟩:=bY (l:=ks) (i:=j) (by omega)
         have hkF:=w.f k (List.mem_of_getElem? hk)
         rw[zB hk,lU (by omega),ih (by omega)]
         cases hb:(dQ ks j).testBit k
         ·rfl
         ·exfalso
          rw[xJ,List.mem_iff_getElem?]at hb
          obtain⟨j',hj'⟩:=hb
          have hjl:=fG hj'
          rw[List.length_take]at hjl
          rw[List.getElem?_take_of_lt (by omega)]at hj'
          obtain⟨h1,e1⟩:=List.getElem?_eq_some_iff.1 hj'
          obtain⟨h2,e2⟩:=List.getElem?_eq_some_iff.1 hk
          exact List.pairwise_iff_getElem.1 w.nd j' j h1 h2 (by omega) (e1.trans e2.symm)
      exact(this ks.length (Nat.le_refl _)).symm
     have:=lV (dQ ks ks.length)
     omega
    omega
   by_cases hde:d<32∧d%2=0
   ·rcases w68 (ks:=cK ks) (f:=((d/2:Nat):Int)) (by omega)with ⟨hn,_⟩|⟨m,hm2,e68⟩
    ·have hn2:d/2∉ks:=fun h=>hn (List.mem_map_of_mem (f:=fun k:Nat=>(k:Int)) h)
     refine⟨(xA f a d,d,ks++[d/2]),hm,?_,w.app hst ok.s hF hp hde.1 hde.2 hn2⟩
     have:=aEu (l:=eH x (dC x)) (rows:=rows) (n:=n) (i:=i) (by omega) hde.1 hde.2 hb hp hksl e66 hn
     rw[←zQ]at this
     exact this
    ·have hm3:ks[m]?=some (d/2):=by
      have:=fG hm2
      rw[bT]at this
      obtain⟨k,hk⟩:=bY this
      rw[gA hk]at hm2
      rw[hk]
      have:=Option.some.inj hm2
      congr 1;omega
     refine⟨(xA f a d,d,ks.take (m+1)),hm,?_,w.trim hst ok.s hF hp hde.1 hde.2 hm3⟩
     have:=aDv (l:=eH x (dC x)) (rows:=rows) (n:=n) (i:=i) (by omega) hde.1 hde.2 hb hp hksl e66 hm2 e68
     rw[show (cK ks).take (m+1)=cK (ks.take (m+1)) from (List.map_take ..).symm]at this
     exact this
   ·refine⟨(xA f a d,d,ks),hm,?_,w.odd hd hp hde⟩
    exact aEt (l:=eH x (dC x)) (rows:=rows) (n:=n) (i:=i) (by omega) hd hb hp e66 hde
 obtain⟨⟨f,a,ks⟩,w,rfl,hrun⟩:=key
 exact⟨f,ks,w,hrun⟩
include ok in
theorem aHr {fl:Nat→Nat→Int} (ho:Ow (dC x) x.sick x.nur x.fix u (r+1) fl) (hv:VerP x rows u) (hi:i<n) (hn:n≤100) (hr:rows.length=i) :
 ∃ fl' w,Ow (dC x) x.sick x.nur x.fix (uWi u w) r fl'∧VerP x (rows++[w]) (uWi u w) ∧
   aZ 0 [7,9,29,30] (execW aA 33 0 none (match xG with | .loop _ a=>a|c=>c) (aU [7,9,29,30] (sU rows n i)) (gY (eH x (dC x)) fl rows []))=some (sU (rows++[w]) n (i+1),gY (eH x (dC x)) fl' (rows++[w]) []):=by
 obtain⟨fl',ks,wk,hrun⟩:=aIR (rows:=rows) (n:=n) (i:=i) ok ho
 obtain⟨h1,h2⟩:=wk.done ok
 refine⟨fl',cK ks,h2,hv.app h1,?_⟩
 have hks:ks≠[]:=by
  rintro rfl
  unfold oI at h1
  rw[if_pos (show cK []=[] from rfl)]at h1;simp at h1
 have a1:((i:Int)<(n:Int))=True:=eq_true (by omega)
 have a2:IntKind.i64.wrap ((i:Int)+1)=(i:Int)+1:=aD (by omega) (by omega)
 rw[show s33 rows (cK ks) 33 n i=[.pt 0 0,oR rows,oW rows (cK ks),I 33,I (n:Nat),I (i:Nat)] from rfl,show s33 rows [] 32 n i=[.pt 0 0,oR rows,oW rows [],I 32,I (n:Nat),I (i:Nat)] from rfl]at hrun
 have hos:cK ks≠[]:=fun e=>hks (by
  have:=congrArg List.length e
  rw[bT]at this
  exact List.eq_nil_of_length_eq_zero this)
 generalize cK ks=os at *
 generalize eH x (dC x)=l at *
 unfold xG
 dsimp only
 rcases os with _|⟨k,kr⟩
 ·exact absurd rfl hos
 ·rcases rows with _|⟨q,qr⟩
  ·sym =>
   simp[aJ,aI,aK,aL,aS,aE,Za,Zb,Zf,Zh,Zl,Zm,Zv,Z3,Yq,VK,VN,VO,VT,VU,VW,Ub,Us,Ti,Tj,Tl,Tn,Tp,Tw,Tx,a1]
   tactic =>
    unfold iV at hrun ⊢
    rw[iA (e':=aU [7,9,10,11,29,30] [.pt 0 0,oR [],oW [] [],I 32,I (n:Nat),I (i:Nat)]) (H':=gY l fl [] []) (by (sym=>(simp[aJ,aI,aK,aL,aS,aE,Za,YR,YZ,Xa,Xn,Xt,Xu,Wv,W7,W8,WA,WB,WE,WF,WG,WI,WK,WL,WM,WN,WS,WT,WU,WY,WZ,VK,VL,VM,VT,VU,VV,VW,VX,VZ,Ue,Ur,Ux,Uy,Uz,U0,Tv,TA,TK];all_goals tactic=>exact rfl))),hrun]
    (sym=>(simp[aJ,aI,aK,aL,aS,aE,Za,Zb,Zd,Ze,Zf,Zg,Zh,Zj,Zl,Zm,Zo,Zv,Z1,Z3,ZR,Yh,Yp,YR,YY,YZ,Xh,Xj,Xk,Xn,Xs,Xt,XK,XQ,XX,XY,XZ,We,Wp,Wv,Ww,Wx,Wy,Wz,W0,W3,W4,W7,W8,WA,WB,WE,WF,WG,WI,WK,WL,WM,WN,WS,WT,WU,WY,WZ,Vl,Vm,Vo,Vp,Vq,Vr,Vs,Vt,Vz,V0,V1,VK,VL,VM,VN,VP,VT,VU,VV,VW,VX,VZ,Ua,Ub,Uc,Ue,Ug,Uj,Un,Ur,Us,Uu,Uv,Ux,Uy,Uz,U0,U1,U2,U9,UA,UB,UC,UK,UL,UM,UN,UO,UP,UQ,UR,Td,Tf,Tg,Th,Ti,Tj,Tm,Tp,Tq,Ts,Tu,Tv,Tw,Tx,T8,T9,TA,TB,TF,TL,TM,Sf,Sg,Si,Sx,Sy,S2,S3,S4,S5,a2];all_goals tactic=>exact rfl))
  ·have b1:((qr.length+1+1)*24≤1099511627776)=True:=eq_true (by simp at hr;omega)
   have b2:(qr.length+1+1≤1099511627776)=True:=eq_true (by simp at hr;omega)
   sym =>
    simp[aJ,aI,aK,aL,aS,aE,Za,Zb,Zf,Zh,Zl,Zm,Zv,Z3,Yq,VK,VN,VO,VT,VU,VV,Ua,Ub,Us,Ti,Tj,Tl,Tn,Tp,Tw,Tx,T6,T7,a1]
    tactic =>
     unfold iV at hrun ⊢
     rw[iA (e':=aU [7,9,10,11,29,30] [.pt 0 0,oR (q::qr),oW (q::qr) [],I 32,I (n:Nat),I (i:Nat)]) (H':=gY l fl (q::qr) []) (by (sym=>(simp[aJ,aI,aK,aL,aS,aE,Za,YR,YY,YZ,Xa,Xn,Xs,Xt,Xu,Wv,W7,W8,WA,WB,WE,WF,WG,WI,WK,WL,WM,WN,WS,WT,WU,WY,WZ,VK,VL,VM,VT,VU,VV,VW,VX,VZ,Ue,Ur,Ux,Uy,Uz,U0,Tv,TA,TK];all_goals tactic=>exact rfl))),hrun]
     (sym=>(simp[aJ,aI,aK,aL,aS,aE,Za,Zb,Zd,Ze,Zf,Zg,Zh,Zj,Zl,Zm,Zo,Zv,Z1,Z3,ZR,Yh,Yp,YR,YY,YZ,Xh,Xj,Xk,Xn,Xs,Xt,XK,XQ,XX,XY,We,Wp,Wv,Ww,Wx,Wy,Wz,W0,W3,W4,W7,W8,WA,WB,WE,WF,WG,WI,WK,WL,WM,WN,WS,WT,WU,WY,WZ,Vl,Vm,Vo,Vp,Vq,Vr,Vs,Vt,Vz,V0,V1,VK,VL,VM,VN,VP,VT,VU,VV,VW,VX,VZ,Ua,Ub,Uc,Ue,Ug,Uj,Un,Uo,Ur,Us,Uu,Uv,Ux,Uy,Uz,U0,U1,U2,U9,UA,UB,UC,UK,UL,UM,UN,UO,UP,UQ,US,UT,Td,Te,Tf,Tg,Ti,Tj,Tm,Tp,Tq,Ts,Tu,Tv,Tw,Tx,T8,T9,TA,TB,TF,TL,TM,Sf,Sg,Si,Sx,Sy,S2,S3,S4,S5,a2,b1,b2];all_goals tactic=>exact rfl))
end
theorem aCe {x:Vn} {C:Nat}:FC (dC x) x.sick x.nur x.fix C↔Cuts x 0 C:=by
 constructor
 ·intro h
  exact⟨h.lt,h.free,fun f hf=>h.cut f (by rw[Nat.or_zero]at hf;exact hf)⟩
 ·intro h
  exact⟨h.lt,h.free,fun f hf=>h.cut f (by rw[Nat.or_zero];exact hf)⟩
theorem w33 {x:Vn} (ok:x.Ok) (hh:nX x=true):∃ n ws,Lea x 0 n∧ws.length=n∧aDw x ws=0∧runW aA 33 [.agg x.c] []=some (.tup [wL ws,I 0],[]):=by
 have hF:=ok.F16
 obtain⟨n,hn,e59⟩:=aGQ ok ok.h23 hh
 obtain⟨C0,c1,c2⟩:=(kU ok).1 hh
 have hn16:n≤16:=by
  have:=hn.2 C0 c2
  have:=lV C0
  omega
 obtain⟨n',fl,q1,q2,q3,e65⟩:=w65 (aNP ok)
 have hl:=aAO (fC ok _) ok.s hF q1 q3 (aCe.2 c2) c1
 have hnn:n'=n:=by
  refine Lea.eq (x:=x) (cl:=0) ⟨?_,fun C hC=>hl.2 C (aCe.2 hC)⟩ hn
  obtain⟨C,d1,d2,d3⟩:=hl.1
  exact⟨C,d1,aCe.1 d2,d3⟩
 subst hnn
 obtain⟨G,g0,g1,g2⟩:=aEP n'
  (fun i (q:(Nat→Nat→Int)×List (List Int)×Nat)=>Ow (dC x) x.sick x.nur x.fix q.2.2 (n'-i) q.1∧VerP x q.2.1 q.2.2∧q.2.1.length=i)
  (fun i q q'=>aZ 0 [7,9,29,30] (execW aA 33 0 none (match xG with | .loop _ a=>a|c=>c) (aU [7,9,29,30] (sU q.2.1 n' i)) (gY (eH x (dC x)) q.1 q.2.1 []))=some (sU q'.2.1 n' (i+1),gY (eH x (dC x)) q'.1 q'.2.1 []))
  (fl,[],0) ⟨.of_net q1,.nil x,rfl⟩ (by
   rintro i ⟨f,rows,u⟩ hi ⟨p1,p2,p3⟩
   dsimp only at p1 p2 p3
   rw[show n'-i=(n'-(i+1))+1 by omega]at p1
   obtain⟨f',w,r1,r2,r3⟩:=aHr ok p1 p2 hi (by omega) p3
   refine⟨(f',rows++[w],uWi u w),⟨r1,r2,?_⟩,r3⟩
   show (rows++[w]).length=i+1
   rw[List.length_append,p3];rfl)
 obtain⟨p1,p2,p3⟩:=g1 n' (Nat.le_refl _)
 refine⟨n',(G n').2.1,hn,p3,?_,?_⟩
 ·unfold aDw
  rw[if_neg (by omega)]
  exact fK _ p2.1
 ·have z:=UU (n:=(n':Int))
  have b0:(G 0).2.1=[]:=by rw[g0]
  have f0':(G 0).1=fl:=by rw[g0]
  generalize hrn:(G n').2.1=rn at *
  generalize hfn:(G n').1=fn at *
  have e65:runW aA 65 [.pt 0 0] [some (.blk true (.cells true (eH x (dC x))))]=some (.tup [.pt 1 0,I (n':Nat)],[some (.blk true (.cells true (eH x (dC x)))),some (.blk false (.cells true (gB (.pt 0 0) fl)))]):=e65
  have g2':∀ i,i<n'→aZ 0 [7,9,29,30] (execW aA 33 0 none (match xG with | .loop _ a=>a|c=>c) (aU [7,9,29,30] (sU (G i).2.1 n' i)) (gY (eH x (dC x)) (G i).1 (G i).2.1 []))=some (sU (G (i+1)).2.1 n' (i+1),gY (eH x (dC x)) (G (i+1)).1 (G (i+1)).2.1 []):=g2
  clear g1 g2
  rw[r33 (by simp)];unfold x33;dsimp only
  sym =>
   simp[aJ,aI,aK,aL,aS,aE,Za,Zb,Zf,Zg,Zh,Zj,Zl,Zm,Zo,Zv,Zz,Z3,ZD,ZF,ZN,ZO,ZS,ZT,Yg,Yp,YR,YU,YX,YZ,Xe,Xg,Xh,Xn,Xp,Xq,Xr,Xt,XL,Wa,Wc,We,Wg,Wo,Wv,Ww,Wx,Wy,Wz,W0,W3,W5,W6,W7,W9,WA,WC,WE,WF,WG,WH,WK,WO,WP,WQ,WS,WT,WU,WY,Vc,Vd,Ve,Vf,Vp,Vr,Vs,Vt,Vu,Vv,Vx,VI,VN,VP,VS,VT,VU,VV,VW,VX,Ua,Ub,Ug,Uj,Ur,Us,Ux,Uy,Uz,U0,U1,U2,U7,U8,UI,UJ,UV,UW,UZ,Td,Ti,Tj,Tl,Tn,Tp,Tw,Tx,Sf,Sx,Sy,Sz,S2,S3,S4,S5,e59,e65]
   tactic =>
    unfold xG
    rw[aF n' (fun i=>sU (G i).2.1 n' i) (fun i=>gY (eH x (dC x)) (G i).1 (G i).2.1 [])]
    ·rw[hrn,hfn]
     rcases rn with _|⟨q,qr⟩
     ·(sym=>(simp[aJ,aI,aK,aL,aS,aE,Za,Zb,Zf,Zh,Zl,Zm,Zv,Z3,Yq,YR,YV,YX,Xn,Xq,Xr,Xy,XI,XM,Wa,Wd,Wh,WE,WI,WK,WL,WM,Vp,V3,V4,V6,V7,V8,V9,VC,VD,VE,VF,VG,VK,VN,VP,VU,VX,VZ,Ut,Ux,Uy,Uz,U0,U3,U4,U7,U8,UU,Ti,Tj,Tk,Tm,Tp,Tq,Tu,Tw,Tx,Sf,z];all_goals tactic=>exact rfl))
     ·have ch:=aAb (f:=fun w:List Int=>nL w) (q::qr) []
      have ch2:cB (nL q::qr.map fun w=>nL w) 0 1 (qr.length+1)=[nL q]::qr.map fun w=>[nL w]:=ch
      (sym=>(simp[aJ,aI,aK,aL,aS,aE,Za,Zb,Zf,Zh,Zl,Zm,Zv,Z3,Yq,YR,YV,YX,Xj,Xn,Xq,Xr,Xy,XI,XK,XQ,XV,XX,XY,Wa,Wd,We,Wv,Wy,WE,WI,WK,WL,WM,Vl,Vm,Vo,Vp,Vq,Vz,V0,V1,V3,V4,V6,V7,V8,V9,VC,VD,VE,VF,VG,VK,VN,VP,VT,VU,VX,VZ,Ua,Uc,Un,Ut,Ux,Uy,Uz,U0,U3,U4,U5,U6,U7,U8,UU,Ti,Tj,Tk,Tm,Tp,Tq,Tu,Tw,Tx,T8,T9,TB,Sf,Sg,Si,z,ch2];all_goals tactic=>exact rfl))
    ·rw[b0,f0']; (sym=>(simp[aJ,aI,aK,aL,aS,aE,Za,Y7,YR,YZ,Xa,Xn,Xt,Xu,Wv,W7,W8,WA,WB,WE,WF,WG,WI,WK,WL,WM,WN,WS,WT,WU,WY,WZ,VL,VM,VT,VU,VV,VW,VX,VZ,Ue,Ur,Ux,Uy,Uz,U0,Tv,TA];all_goals tactic=>exact rfl))
    ·exact g2'
    ·rw[hrn,hfn]
     rcases rn with _|⟨q,qr⟩
     ·(sym=>(simp[aJ,aI,aK,aL,aS,aE,Za,Zb,Zf,Zh,Zl,Zm,Z3,Yq,VK,VN,VP,VQ,Ut,UU,Ti,Tj,Tm,Tp,Tq,Tw,z];all_goals tactic=>exact rfl))
     ·(sym=>(simp[aJ,aI,aK,aL,aS,aE,Za,Zb,Zf,Zh,Zl,Zm,Z3,Yq,VK,VN,VP,VQ,Ut,UU,Ti,Tj,Tm,Tp,Tq,Tw,z];all_goals tactic=>exact rfl))
def xV (fix:Nat):Vn:=⟨8,[(0,1),(0,2),(1,3),(2,3),(3,4),(3,5),(4,6),(5,6)],[(0,2,7),(3,4,7)],1,192,fix⟩
theorem uI {fix:Nat} (h:fix<256):(xV fix).Ok:=by
 refine⟨by show (1:Nat)≤8;decide,by show (8:Nat)≤16;decide,by show (8:Nat)≤60;decide,by show (2:Nat)≤20;decide,?_,?_,by show (1:Nat)<2^8;decide,by show (192:Nat)<2^8;decide,h⟩
 ·intro p hp
  have:∀ p∈[(0,1),(0,2),(1,3),(2,3),(3,4),(3,5),(4,6),(5,6)],p.1<8∧p.2<8∧p.1≠p.2:=by decide
  exact this p hp
 ·intro p hp
  have:∀ p∈[(0,2,7),(3,4,7)],p.1≤100∧p.2.1<8∧p.2.2<8∧p.2.1≠p.2.2:=by decide
  exact this p hp
def aAh (a b:Nat):Bool:=(List.range 16).any fun d=>((List.range d).all fun j=>a.testBit j==b.testBit j)&&(a.testBit d && !b.testBit d)
theorem aEl {a b:Nat} (h:aAh a b=true):yM a b:=by
 unfold aAh at h
 rw[List.any_eq_true]at h
 obtain⟨d,_,h⟩:=h
 simp only[Bool.and_eq_true,List.all_eq_true,List.mem_range,beq_iff_eq,Bool.not_eq_true']at h
 exact⟨d,h.1,h.2.1,h.2.2⟩
theorem aFX {x:Vn} (ok:x.Ok) {c:Nat} {l:List Nat} (hl:csN x=l) (h:(l.contains c&&l.all fun t=>t==c||aAh c t)=true):isCut x c:=by
 rw[Bool.and_eq_true,List.all_eq_true]at h
 obtain⟨h1,h2⟩:=h
 rw[List.contains_iff_mem,←hl]at h1
 refine aFW ok ((qO ok).1 h1) fun t ht q=>?_
 have:=h2 t (by rw[←hl];exact(qO ok).2 ht)
 rw[Bool.or_eq_true,beq_iff_eq]at this
 rcases this with rfl|h
 ·exact yL q
 ·exact yL (aBp q (aEl h))
theorem aOR:csN (xV 0)=[1]:=by kernel_rfl
theorem aIm:csN (xV 9)=[6,192]:=by kernel_rfl
theorem aLe:csN (xV 79)=[176]:=by kernel_rfl
theorem aLf:csN (xV 15)=[192]:=by kernel_rfl
theorem aGd {x:Vn} (ok:x.Ok) {l:List Nat} (h:csN x=l) (hl:l≠[]):nX x=true:=(aIn ok).2 (by rw[h];exact hl)
theorem aCg {x:Vn} (ok:x.Ok) {c:Nat} {l:List Nat} (hl:csN x=l) (h:(l.contains c&&l.all fun t=>t==c||aAh c t)=true):runW aA 29 [.agg x.c] []=some (.tup [nL (cK (el c)),I 0],[]):=by
 have hc:=aFX ok hl h
 have hh:nX x=true:=(kU ok).2 ⟨c,hc.lt,hc.min.1⟩
 obtain⟨c',h1,h2⟩:=w29 ok ok.h23 hh
 rw[hc.eq h1];exact h2
theorem aCR {x:Vn} (ok:x.Ok) {c:Nat} {l:List Nat} (hl:csN x=l) (hn:l≠[]) (h:aJY l l.length=c):runW aA 31 [.agg x.c] []=some (.tup [nL (cK (el c)),I 0],[]):=by
 have:=aEk ok (by rw[hl];exact hn)
 rw[hl,h]at this
 rw[this]
 exact w31 ok (aGd ok hl hn)
abbrev vC (f:Int):List AV:=[I (8),.fs [[I (0),I (1)],[I (0),I (2)],[I (1),I (3)],[I (2),I (3)],[I (3),I (4)],[I (3),I (5)],[I (4),I (6)],[I (5),I (6)]],.fs [[I (0),I (2),I (7)],[I (3),I (4),I (7)]],I (1),I (192),I f]
theorem aLx:runW aA 29 [.agg (vC 0)] []=some (.tup [.fs [[I (0)]],I (0)],[]):=aCg (x:=xV 0) (uI (by omega)) (c:=1) aOR (by decide)
theorem aLv:runW aA 29 [.agg (vC 9)] []=some (.tup [.fs [[I (1)],[I (2)]],I (0)],[]):=aCg (x:=xV 9) (uI (by omega)) (c:=6) aIm (by decide)
theorem aLt:runW aA 29 [.agg (vC 79)] []=some (.tup [.fs [[I (4)],[I (5)],[I (7)]],I (0)],[]):=aCg (x:=xV 79) (uI (by omega)) (c:=176) aLe (by decide)
theorem aLr:runW aA 31 [.agg (vC 15)] []=some (.tup [.fs [[I (6)],[I (7)]],I (0)],[]):=aCR (x:=xV 15) (uI (by omega)) (c:=192) aLf (by simp) (by decide)
theorem aKs:runW aA 31 [.agg (vC 9)] []=some (.tup [.fs [],I (0)],[]):=aCR (x:=xV 9) (uI (by omega)) (c:=0) aIm (by simp) (by decide)
theorem aIQ:aCA (xV 0)=[0,1,1,2,3,3,4,1]:=by kernel_rfl
theorem aLy:runW aA 20 [.agg (vC 0)] []=some (.tup [.fs [[I (0)],[I (1)],[I (1)],[I (2)],[I (3)],[I (3)],[I (4)],[I (1)]],I (0)],[]):=by
 rcases w20 (xV 0).v (by decide) (by decide)with ⟨h,_⟩|⟨_,x,_,hx,h⟩
 ·exact absurd (uI (fix:=0) (by omega)).vE h
 ·have e:aCA x=[0,1,1,2,3,3,4,1]:=by
   have hinj:∀ {x y:Vn},x.v=y.v→x=y:=by
    rintro ⟨a,b,c,d,e,f⟩ ⟨a',b',c',d',e',f'⟩ h
    simp only[Vn.v,Va.mk.injEq]at h
    obtain⟨h1,h2,h3,h4,h5,h6⟩:=h
    have e2:b=b':=(List.map_inj_right (f:=bI) (fun p q h=>by
     obtain⟨p1,p2⟩:=p
     obtain⟨q1,q2⟩:=q
     simp only[bI,Prod.mk.injEq]at h
     simp only[Prod.mk.injEq];omega)).1 h2
    have e3:c=c':=(List.map_inj_right (f:=pI) (fun p q h=>by
     obtain⟨p1,p2,p3⟩:=p
     obtain⟨q1,q2,q3⟩:=q
     simp only[pI,Prod.mk.injEq]at h
     simp only[Prod.mk.injEq];omega)).1 h3
    simp only[Vn.mk.injEq]
    exact⟨by omega,e2,e3,by omega,by omega,by omega⟩
   rw[←hinj hx]
   exact aIQ
  rw[e]at h
  exact h
theorem aGP {x:Vn} {u:Nat} {w:List Int} (hF:x.F≤16) (h:oI x u w=0):w.length≤16:=by
 obtain⟨ks,rfl,hks⟩:=aAn h
 unfold oI at h
 by_cases hn:cK ks=[]
 ·rw[if_pos hn]at h;simp at h
 rw[if_neg hn,if_neg (by rw[aFP hks];simp),jA]at h
 cases hl:kB x ks
 ·rw[hl]at h;simp at h
 ·unfold kB at hl
  rw[Bool.and_eq_true,decide_eq_true_eq]at hl
  have hc:∀ j,j≤ks.length→bU (dQ ks j)=j:=by
   intro j
   induction j with
   | zero=>intro _;rw[show dQ ks 0=0 from rfl];exact aCl
   | succ j ih =>
     intro hj
     obtain⟨k,hk⟩:=bY (l:=ks) (i:=j) (by omega)
     have hkF:=hks k (List.mem_of_getElem? hk)
     rw[zB hk,lU (by omega),ih (by omega)]
     have h0:=gP hl.1 j (by omega)
     unfold wkE at h0
     rw[bC hk]at h0
     cases hb:(dQ ks j).testBit k
     ·rfl
     ·rw[hb]at h0;simp at h0
  have h1:=hc ks.length (Nat.le_refl _)
  have h2:=lV (dQ ks ks.length)
  rw[bT];omega
theorem aGR {x:Vn} {ws:List (List Int)} (hF:x.F≤16) (h:aDw x ws=0):ws.length≤16∧∀ w∈ws,w.length≤16:=by
 unfold aDw at h
 by_cases h16:16<ws.length
 ·rw[if_pos h16]at h;simp at h
 rw[if_neg h16]at h
 refine⟨by omega,fun w hw=>?_⟩
 obtain⟨j,hj⟩:=List.getElem?_of_mem hw
 have h0:=gP h j (fG hj)
 unfold wV at h0
 rw[bC hj]at h0
 exact aGP hF h0
theorem aKr:∃ ws:List (List Int),ws.length=2∧runW aA 33 [.agg (vC 9)] []=some (.tup [wL ws,I 0],[])∧runW aA 35 [.agg (vC 9),wL ws] []=some (I 0,[]):=by
 have ok:(xV 9).Ok:=uI (by omega)
 obtain⟨n,ws,hn,hl,hv,hr⟩:=w33 ok (aGd ok aIm (by simp))
 have hm:tB (xV 9) 6:=(qO ok).1 (by rw[aIm];simp)
 have h2:=(hn.min.1 hm).2
 have h3:bU 6=2:=by decide
 have hw:∀ w∈ws,w.length<1000000:=by
  intro w hw
  have:=(aGR ok.F16 hv).2 w hw
  omega
 have hV:=w35 ok (ws:=ws) (by omega) hw
 rw[hv]at hV
 exact⟨ws,by omega,hr,hV⟩
theorem tN:runW aA 16 [] []=some (.bool true,[]):=by
 obtain⟨ws,h1,h2,h3⟩:=aKr
 have l1:((ws.length:Int)=2)=True:=eq_true (by omega)
 rw[r16 (by simp)];unfold x16;dsimp only
 (sym=>(simp[Za,Zb,Zd,Ze,Zf,Zg,Zh,Zj,Zl,Zm,Zo,Zp,Zq,Zr,Zv,Zy,Z1,Z3,ZD,ZE,ZN,ZO,ZS,ZT,ZU,ZV,Ya,Yg,Yo,Yp,Y7,YR,YT,YU,YX,YY,Xe,Xi,Xk,Xn,Xo,Xp,Xq,Xr,Xs,Xz,XJ,Wb,We,Wm,Wq,Wv,Wy,Wz,W3,W4,W6,W7,W8,W9,WA,WE,WF,WG,WH,WI,WJ,WK,WL,WM,WO,WP,WQ,WR,WS,WT,WU,WY,WZ,Vc,Vd,Ve,Vf,Vp,Vr,Vs,Vt,V3,V4,V6,V7,V8,V9,VA,VD,VE,VF,VG,VN,VP,VS,VT,VU,VV,VW,VX,VZ,Ua,Ub,Uc,Ue,Ug,Ui,Uj,Un,Ur,Us,Uu,Uv,Uw,Ux,Uy,Uz,U0,U1,U2,U7,U9,UA,UB,UC,UK,UL,UM,UN,Td,Ti,Tj,Tk,Tl,Tp,Tw,Tx,TF,TG,TH,TI,TJ,Sf,Sx,Sy,S2,S3,S4,S5,aLA,aLz,aLy,aLx,aLw,aLv,aLu,aLt,aLs,aLr,aKs,h2,h3,l1,aKq,aKp,aKo,aKn,aKm,aKl,aKk,aKj,aKi,aKh,aKg];all_goals tactic=>exact rfl))
abbrev pR (p:Int×Int×Int):List AV:=[I p.1,I p.2.1,I p.2.2]
def cP (l:List (Int×Int×Int)):List AV:=(l.map pR).flatten
theorem aGv (k:List (Int×Int×Int)):wS 3 (k.map pR):=by
 intro r hr
 simp only[List.mem_map]at hr
 obtain⟨x,_,rfl⟩:=hr
 exact⟨rfl,rfl,rfl,rfl⟩
theorem aGF (l:List (Int×Int×Int)):(cP l).length=l.length*3:=by rw[cP,(hO (aGv _)).2.2.2,List.length_map]
theorem aJR (l:List (Int×Int×Int)) (x:Int×Int×Int):cP (l++[x])=cP l++pR x:=by simp[cP]
theorem bN {l:List (Int×Int×Int)}:eT (cP l)=true:=(hO (aGv _)).1
theorem aLi (l:List (Int×Int×Int)):cB (cP l) 0 3 l.length=l.map pR:=by
 have:=sS (aGv l)
 rw[List.length_map]at this
 exact this
theorem wA (a:Nat):(cK (el a)).length<1000000000:=by
 rw[bT]
 have:=rZ a
 omega
theorem Lea.len {x:Vn} {n c:Nat} (h:Lea x 0 n) (g:isCut x c):(cK (el c)).length=n:=by
 have:=(h.min.1 g.min).2
 rw[bT]
 exact this
abbrev B8 (n:Nat):AV:=.int .u8 (n:Int)
theorem wr8 {n:Nat} (h:n<256):IntKind.i64.wrap (n:Int)=(n:Int):=aD (by omega) (by omega)
structure La where
 F:Nat
 bs:List (Nat×Nat)
 ps:List (Nat×Nat×Nat)
 s:Nat
 n:Nat
 f:Nat
abbrev La.c (l:La):List AV:=[B8 l.F,.fs (l.bs.map fun b=>[B8 b.1,B8 b.2]),.fs (l.ps.map fun p=>[B8 p.1,B8 p.2.1,B8 p.2.2]),B8 l.s,B8 l.n,B8 l.f]
structure La.Ok (l:La):Prop where
 F:l.F<256
 b:∀ y∈l.bs,y.1<256∧y.2<256
 p:∀ y∈l.ps,y.1<256∧y.2.1<256∧y.2.2<256
 s:l.s<256
 n:l.n<256
 f:l.f<256
def La.k (l:La):Nat:=2+l.F%7
def toB (k:Nat) (y:Nat×Nat):Nat×Nat:=(y.1%k,if y.1%k=y.2%k then (y.1%k+1)%k else y.2%k)
def toP (k:Nat) (y:Nat×Nat×Nat):Nat×Nat×Nat:=(y.1%5,y.2.1%k,if y.2.1%k=y.2.2%k then (y.2.1%k+1)%k else y.2.2%k)
def La.md (l:La):Vn:=⟨l.k,(l.bs.take 12).map (toB l.k),(l.ps.take 5).map (toP l.k),l.s%2^l.k,l.n%2^l.k,l.f%2^l.k⟩
theorem La.k_lt (l:La):2≤l.k∧l.k≤8:=by unfold La.k;omega
theorem aIE {k u:Nat} (hk:2≤k) (hu:u<k):u≠(u+1)%k:=by
 by_cases h:u+1=k
 ·rw[h,Nat.mod_self];omega
 ·rw[Nat.mod_eq_of_lt (by omega)];omega
theorem La.md_ok (l:La):l.md.Ok:=by
 have hk:=l.k_lt
 refine⟨by show 1≤l.k;omega,by show l.k≤16;omega,?_,?_,?_,?_,Nat.mod_lt _ (Nat.two_pow_pos _),Nat.mod_lt _ (Nat.two_pow_pos _),Nat.mod_lt _ (Nat.two_pow_pos _)⟩
 ·simp[La.md];omega
 ·simp[La.md];omega
 ·intro p hp
  simp only[La.md,List.mem_map]at hp
  obtain⟨y,_,rfl⟩:=hp
  have h1:=Nat.mod_lt y.1 (show 0<l.k by omega)
  have h2:=Nat.mod_lt y.2 (show 0<l.k by omega)
  have h3:=Nat.mod_lt (y.1%l.k+1) (show 0<l.k by omega)
  show (toB l.k y).1<l.k∧(toB l.k y).2<l.k∧(toB l.k y).1≠(toB l.k y).2
  unfold toB
  by_cases h:y.1%l.k=y.2%l.k
  ·simp only[if_pos h];exact⟨h1,h3,aIE hk.1 h1⟩
  ·simp only[if_neg h];exact⟨h1,h2,h⟩
 ·intro p hp
  simp only[La.md,List.mem_map]at hp
  obtain⟨y,_,rfl⟩:=hp
  have h1:=Nat.mod_lt y.2.1 (show 0<l.k by omega)
  have h2:=Nat.mod_lt y.2.2 (show 0<l.k by omega)
  have h3:=Nat.mod_lt (y.2.1%l.k+1) (show 0<l.k by omega)
  show (toP l.k y).1≤100∧(toP l.k y).2.1<l.k∧(toP l.k y).2.2<l.k∧(toP l.k y).2.1≠(toP l.k y).2.2
  unfold toP
  by_cases h:y.2.1%l.k=y.2.2%l.k
  ·simp only[if_pos h];exact⟨by omega,h1,h3,aIE hk.1 h1⟩
  ·simp only[if_neg h];exact⟨by omega,h1,h2,h⟩
abbrev qR (p:Int×Int):List AV:=[I p.1,I p.2]
def cQ (l:List (Int×Int)):List AV:=(l.map qR).flatten
theorem aGu (k:List (Int×Int)):wS 2 (k.map qR):=by
 intro r hr
 simp only[List.mem_map]at hr
 obtain⟨x,_,rfl⟩:=hr
 exact⟨rfl,rfl,rfl,rfl⟩
theorem aGE (l:List (Int×Int)):(cQ l).length=l.length*2:=by rw[cQ,(hO (aGu _)).2.2.2,List.length_map]
theorem aJQ (l:List (Int×Int)) (x:Int×Int):cQ (l++[x])=cQ l++qR x:=by simp[cQ]
theorem bM {l:List (Int×Int)}:eT (cQ l)=true:=(hO (aGu _)).1
theorem aLh (l:List (Int×Int)):cB (cQ l) 0 2 l.length=l.map qR:=by
 have:=sS (aGu l)
 rw[List.length_map]at this
 exact this
abbrev bZ6:Option XB:=some (.blk true (.cells true [I 0,.nilsl,.nilsl,I 0,I 0,I 0]))
section
variable (l:La)
abbrev gLa (S N X:Int):List (Int×Int)→List (Int×Int×Int)→XH
 | [],[]=>[some (.blk true (.cells true l.c)),bZ6,some (.blk true (.cells true [I l.k,.nilsl,.nilsl,I S,I N,I X]))]
 | [],_::r=>[some (.blk true (.cells true l.c)),bZ6,some (.blk false (.cells true [I l.k,.nilsl,.sl 3 0 3 (r.length+1),I S,I N,I X]))]
 | _::q,[]=>[some (.blk true (.cells true l.c)),bZ6,some (.blk false (.cells true [I l.k,.sl 3 0 2 (q.length+1),.nilsl,I S,I N,I X]))]
 | _::q,_::r=>[some (.blk true (.cells true l.c)),bZ6,some (.blk false (.cells true [I l.k,.sl 3 0 2 (q.length+1),.sl 4 0 3 (r.length+1),I S,I N,I X]))]
abbrev gLb:List (Int×Int)→List (Int×Int×Int)→XH
 | [],[]=>[]
 | [],p::r=>[some (.blk true (.cells true (cP (p::r))))]
 | b::q,[]=>[some (.blk true (.cells true (cQ (b::q))))]
 | b::q,p::r=>[some (.blk true (.cells true (cQ (b::q)))),some (.blk true (.cells true (cP (p::r))))]
def wU (j:Nat):List (Int×Int):=((l.bs.take j).map (toB l.k)).map bI
def rN (j:Nat):List (Int×Int×Int):=((l.ps.take j).map (toP l.k)).map pI
theorem aJl {j:Nat} {y:Nat×Nat} (h:l.bs[j]?=some y):wU l (j+1)=wU l j++[bI (toB l.k y)]:=by unfold wU;rw[List.take_add_one,h];simp
theorem aJk {j:Nat} {y:Nat×Nat×Nat} (h:l.ps[j]?=some y):rN l (j+1)=rN l j++[pI (toP l.k y)]:=by unfold rN;rw[List.take_add_one,h];simp
theorem aHT {j:Nat} (h:j≤l.bs.length):(wU l j).length=j:=by unfold wU;simp;omega
theorem aHS {j:Nat} (h:j≤l.ps.length):(rN l j).length=j:=by unfold rN;simp;omega
variable {l}
theorem aFf (ok:l.Ok) {S N X:Int} {j:Nat} (hj:j<l.bs.length) (hj2:j<12) :
 aZ 0 [1,2,3,4,5] (execW aA 36 0 none (match aCy with | .loop _ a=>a|c=>c) (aU [1,2,3,4,5] [.pt 0 0,.pt 1 0,I l.k,.pt 2 0,I (j:Nat)]) (gLa l S N X (wU l j) []++gLb (wU l j) [])) =
  some ([.pt 0 0,.pt 1 0,I l.k,.pt 2 0,I (j+1:Nat)],gLa l S N X (wU l (j+1)) []++gLb (wU l (j+1)) []):=by
 obtain⟨y,hy⟩:=bY hj
 have hb:=ok.b y (List.mem_of_getElem? hy)
 have hk:=l.k_lt
 have a1:=dM hj
 have a4:((j:Int)<12)=True:=eq_true (by omega)
 have a2:=fO hj2 (by omega)
 have w1:=wr8 hb.1
 have w2:=wr8 hb.2
 have kz:((l.k:Int)=0)=False:=eq_false (by omega)
 have q1:=bD y.1 l.k
 have q2:=bD y.2 l.k
 have h1:=Nat.mod_lt y.1 (show 0<l.k by omega)
 have q3:IntKind.i64.wrap (((y.1%l.k:Nat):Int)+1)=((y.1%l.k:Nat):Int)+1:=aD (by omega) (by omega)
 have q4:jR (((y.1%l.k:Nat):Int)+1) (l.k:Int)=(((y.1%l.k+1)%l.k:Nat):Int):=bD (y.1%l.k+1) l.k
 have hl:=aHT l (j:=j) (by omega)
 rw[aJl l hy]
 have hap:=aJQ (wU l j) (bI (toB l.k y))
 have hcl:=aGE (wU l j)
 have hz:((((y.1%l.k:Nat):Int)=((y.2%l.k:Nat):Int))=True∧toB l.k y=(y.1%l.k,(y.1%l.k+1)%l.k))∨((((y.1%l.k:Nat):Int)=((y.2%l.k:Nat):Int))=False∧toB l.k y=(y.1%l.k,y.2%l.k)):=by
  unfold toB
  by_cases h:y.1%l.k=y.2%l.k
  ·exact .inl ⟨eq_true (by omega),by rw[if_pos h]⟩
  ·exact .inr ⟨eq_false (by omega),by rw[if_neg h]⟩
 generalize wU l j=B at *
 generalize l.k=k at *
 generalize toB k y=tb at *
 generalize (y.1%k+1)%k=t at *
 generalize y.1%k=u at *
 generalize y.2%k=v at *
 unfold aCy
 dsimp only
 rcases hz with ⟨hz,rfl⟩|⟨hz,rfl⟩
 ·cases B with
  | nil =>
    have e1:cQ [bI (u,t)]=[I (u:Nat),I (t:Nat)]:=rfl
    (sym=>(simp[aM,aN,aY,bN,bM,Za,Zb,Zc,Zd,Ze,Zf,Zh,Zi,Zl,Zm,Zo,Zp,Zq,Zv,Zy,Z0,Z1,Z3,Z6,Z7,Z8,Z9,ZE,ZF,ZG,ZH,ZI,ZJ,ZK,ZR,ZU,ZY,ZZ,Ya,Ye,Yf,Yh,Yo,Yq,Yu,Yv,Y6,Y8,YB,YN,YO,YR,YY,YZ,Xa,Xe,Xg,Xi,Xn,Xs,Xt,Xu,Wm,Wo,Wq,Wv,Ww,Wx,Wy,Wz,W0,W3,W4,W6,W7,W8,WA,WB,WE,WF,WG,WI,WK,WL,WM,WN,WS,WT,WU,WY,WZ,VK,VL,VM,VN,VO,VT,VU,VV,VW,VX,VZ,Ua,Ub,Uc,Ud,Ue,Ug,Ui,Un,Ur,Us,Ut,Uu,Uv,Ux,Uy,Uz,U0,U1,U2,U9,UA,UB,UC,UK,UL,UM,UN,UO,UP,UQ,UR,UV,UW,UX,UY,Ta,Tb,Tc,Td,Tf,Tg,Th,Ti,Tj,Tl,Tn,Tp,Ts,Tv,Tw,Tx,TA,TF,a1,a2,a4,hy,w1,w2,kz,q1,q2,q3,q4,hz,e1];all_goals tactic=>exact rfl))
  | cons q r =>
    have hl:r.length+1=j:=by simpa using hl
    have b1:((r.length+1+1)*16≤1099511627776)=True:=eq_true (by omega)
    have b2:(r.length+1+1≤1099511627776)=True:=eq_true (by omega)
    have b3:((r.length+1)*2=(cQ (q::r)).length)=True:=eq_true (by rw[hcl];simp)
    have e1:cQ (q::r)++[I (u:Nat),I (t:Nat)]=cQ (q::(r++[bI (u,t)])):=hap.symm
    (sym=>(simp[aM,aN,aY,bN,bM,Za,Zb,Zc,Zd,Ze,Zf,Zh,Zi,Zl,Zm,Zo,Zp,Zq,Zv,Zy,Z0,Z1,Z3,Z6,Z7,Z8,Z9,ZE,ZF,ZG,ZH,ZI,ZJ,ZK,ZR,ZU,ZY,ZZ,Ya,Ye,Yf,Yh,Yo,Yq,Yu,Yv,Y6,Y8,YB,YN,YO,YR,YY,YZ,Xa,Xe,Xg,Xi,Xn,Xs,Xt,Xu,Wm,Wo,Wq,Wv,Ww,Wx,Wy,Wz,W0,W3,W4,W6,W7,W8,WA,WB,WE,WF,WG,WI,WK,WL,WM,WN,WS,WT,WU,WY,WZ,VK,VL,VM,VN,VO,VT,VU,VV,VW,VX,VZ,Ua,Ub,Uc,Ud,Ue,Ug,Ui,Un,Ur,Us,Ut,Uu,Uv,Ux,Uy,Uz,U0,U1,U2,U9,UA,UB,UC,UK,UL,UM,UN,UO,UP,UQ,US,UT,UV,UW,UX,UY,Ta,Tb,Tc,Td,Te,Tf,Tg,Ti,Tj,Tl,Tn,Tp,Ts,Tv,Tw,Tx,T7,TA,TF,a1,a2,a4,hy,w1,w2,kz,q1,q2,q3,q4,hz,e1,b1,b2,b3];all_goals tactic=>exact rfl))
 ·cases B with
  | nil =>
    have e1:cQ [bI (u,v)]=[I (u:Nat),I (v:Nat)]:=rfl
    (sym=>(simp[aM,aN,aY,bN,bM,Za,Zb,Zc,Zd,Ze,Zf,Zh,Zi,Zl,Zm,Zo,Zp,Zq,Zv,Zy,Z0,Z1,Z3,Z6,Z7,Z8,Z9,ZE,ZF,ZG,ZH,ZI,ZJ,ZK,ZR,ZU,ZY,ZZ,Ya,Ye,Yf,Yh,Yo,Yq,Yu,Yv,Y6,Y8,YB,YN,YO,YR,YY,YZ,Xa,Xe,Xg,Xi,Xn,Xs,Xt,Xu,Wm,Wo,Wq,Wv,Ww,Wx,Wy,Wz,W0,W3,W4,W6,W7,W8,WA,WB,WE,WF,WG,WI,WK,WL,WM,WN,WS,WT,WU,WY,WZ,VK,VL,VM,VN,VO,VP,VT,VU,VV,VW,VX,VZ,Ua,Ub,Uc,Ud,Ue,Ug,Ui,Un,Ur,Us,Ut,Uu,Uv,Ux,Uy,Uz,U0,U1,U2,U9,UA,UB,UC,UK,UL,UM,UN,UO,UP,UQ,UR,UV,UW,UX,UY,Ta,Tb,Tc,Td,Tf,Tg,Th,Ti,Tj,Tl,Tn,Tp,Ts,Tv,Tw,Tx,TA,TF,a1,a2,a4,hy,w1,w2,kz,q1,q2,q3,q4,hz,e1];all_goals tactic=>exact rfl))
  | cons q r =>
    have hl:r.length+1=j:=by simpa using hl
    have b1:((r.length+1+1)*16≤1099511627776)=True:=eq_true (by omega)
    have b2:(r.length+1+1≤1099511627776)=True:=eq_true (by omega)
    have b3:((r.length+1)*2=(cQ (q::r)).length)=True:=eq_true (by rw[hcl];simp)
    have e1:cQ (q::r)++[I (u:Nat),I (v:Nat)]=cQ (q::(r++[bI (u,v)])):=hap.symm
    (sym=>(simp[aM,aN,aY,bN,bM,Za,Zb,Zc,Zd,Ze,Zf,Zh,Zi,Zl,Zm,Zo,Zp,Zq,Zv,Zy,Z0,Z1,Z3,Z6,Z7,Z8,Z9,ZE,ZF,ZG,ZH,ZI,ZJ,ZK,ZR,ZU,ZY,ZZ,Ya,Ye,Yf,Yh,Yo,Yq,Yu,Yv,Y6,Y8,YB,YN,YO,YR,YY,YZ,Xa,Xe,Xg,Xi,Xn,Xs,Xt,Xu,Wm,Wo,Wq,Wv,Ww,Wx,Wy,Wz,W0,W3,W4,W6,W7,W8,WA,WB,WE,WF,WG,WI,WK,WL,WM,WN,WS,WT,WU,WY,WZ,VK,VL,VM,VN,VO,VP,VT,VU,VV,VW,VX,VZ,Ua,Ub,Uc,Ud,Ue,Ug,Ui,Un,Ur,Us,Ut,Uu,Uv,Ux,Uy,Uz,U0,U1,U2,U9,UA,UB,UC,UK,UL,UM,UN,UO,UP,UQ,US,UT,UV,UW,UX,UY,Ta,Tb,Tc,Td,Te,Tf,Tg,Ti,Tj,Tl,Tn,Tp,Ts,Tv,Tw,Tx,T7,TA,TF,a1,a2,a4,hy,w1,w2,kz,q1,q2,q3,q4,hz,e1,b1,b2,b3];all_goals tactic=>exact rfl))
theorem aFe (ok:l.Ok) {S N X:Int} (B:List (Int×Int)) {j:Nat} (hj:j<l.ps.length) (hj2:j<5) :
 aZ 0 [1,2,3,4,8] (execW aA 36 0 none (match uL with | .loop _ a=>a|c=>c) (aU [1,2,3,4,8] [.pt 0 0,.pt 1 0,I l.k,.pt 2 0,I (j:Nat)]) (gLa l S N X B (rN l j)++gLb B (rN l j))) =
  some ([.pt 0 0,.pt 1 0,I l.k,.pt 2 0,I (j+1:Nat)],gLa l S N X B (rN l (j+1))++gLb B (rN l (j+1))):=by
 obtain⟨y,hy⟩:=bY hj
 have hb:=ok.p y (List.mem_of_getElem? hy)
 have hk:=l.k_lt
 have a1:=dM hj
 have a4:((j:Int)<5)=True:=eq_true (by omega)
 have a2:=fO hj2 (by omega)
 have w0:=wr8 hb.1
 have w1:=wr8 hb.2.1
 have w2:=wr8 hb.2.2
 have kz:((l.k:Int)=0)=False:=eq_false (by omega)
 have q0:jR (y.1:Int) 5=((y.1%5:Nat):Int):=bD y.1 5
 have q1:=bD y.2.1 l.k
 have q2:=bD y.2.2 l.k
 have h1:=Nat.mod_lt y.2.1 (show 0<l.k by omega)
 have q3:IntKind.i64.wrap (((y.2.1%l.k:Nat):Int)+1)=((y.2.1%l.k:Nat):Int)+1:=aD (by omega) (by omega)
 have q4:jR (((y.2.1%l.k:Nat):Int)+1) (l.k:Int)=(((y.2.1%l.k+1)%l.k:Nat):Int):=bD (y.2.1%l.k+1) l.k
 have hl:=aHS l (j:=j) (by omega)
 rw[aJk l hy]
 have hap:=aJR (rN l j) (pI (toP l.k y))
 have hcl:=aGF (rN l j)
 have hz:((((y.2.1%l.k:Nat):Int)=((y.2.2%l.k:Nat):Int))=True∧toP l.k y=(y.1%5,y.2.1%l.k,(y.2.1%l.k+1)%l.k))∨((((y.2.1%l.k:Nat):Int)=((y.2.2%l.k:Nat):Int))=False∧toP l.k y=(y.1%5,y.2.1%l.k,y.2.2%l.k)):=by
  unfold toP
  by_cases h:y.2.1%l.k=y.2.2%l.k
  ·exact .inl ⟨eq_true (by omega),by rw[if_pos h]⟩
  ·exact .inr ⟨eq_false (by omega),by rw[if_neg h]⟩
 generalize rN l j=M at *
 generalize l.k=k at *
 generalize toP k y=tb at *
 generalize (y.2.1%k+1)%k=t at *
 generalize y.2.1%k=u at *
 generalize y.2.2%k=v at *
 generalize y.1%5=w at *
 unfold uL
 dsimp only
 rcases hz with ⟨hz,rfl⟩|⟨hz,rfl⟩
 ·cases M with
  | nil =>
    have e1:cP [pI (w,u,t)]=[I (w:Nat),I (u:Nat),I (t:Nat)]:=rfl
    cases B with
    | nil=>(sym=>(simp[aM,aN,aY,bN,bM,Za,Zb,Zc,Zd,Ze,Zf,Zg,Zh,Zi,Zj,Zl,Zm,Zo,Zp,Zq,Zv,Zw,Zy,Z0,Z1,Z3,Z6,Z7,Z8,Z9,ZE,ZF,ZG,ZH,ZI,ZJ,ZK,ZL,ZM,ZR,ZU,ZY,ZZ,Ya,Ye,Yf,Yh,Yo,Yq,Yu,Yv,Y6,Y8,YA,YD,YN,YO,YR,YY,YZ,Xa,Xe,Xg,Xi,Xn,Xs,Xt,Xu,Wm,Wo,Wq,Wu,Wv,Ww,Wx,Wy,Wz,W0,W3,W4,W6,W7,W8,WA,WB,WE,WF,WG,WI,WK,WL,WM,WN,WS,WT,WU,WY,WZ,Vg,Vp,Vr,Vs,Vu,Vv,Vx,VK,VL,VM,VN,VO,VT,VU,VV,VW,VX,VZ,Ua,Ub,Uc,Ud,Ue,Ug,Ui,Uk,Ul,Un,Ur,Us,Ut,Uu,Uv,Ux,Uy,Uz,U0,U1,U2,U9,UA,UB,UC,UK,UL,UM,UN,UO,UP,UQ,UR,UV,UW,UX,UY,UZ,Ta,Tb,Tc,Td,Tf,Tg,Th,Ti,Tj,Tl,Tn,Tp,Ts,Tv,Tw,Tx,TA,TF,Se,Sx,Sy,Sz,S3,S4,S5,a1,a2,a4,hy,w0,w1,w2,kz,q0,q1,q2,q3,q4,hz,e1];all_goals tactic=>exact rfl))
    | cons b bs=>(sym=>(simp[aM,aN,aY,bN,bM,Za,Zb,Zc,Zd,Ze,Zf,Zg,Zh,Zi,Zj,Zl,Zm,Zo,Zp,Zq,Zv,Zw,Zy,Z0,Z1,Z3,Z6,Z7,Z8,Z9,ZE,ZF,ZG,ZH,ZI,ZJ,ZK,ZL,ZM,ZR,ZU,ZY,ZZ,Ya,Ye,Yf,Yh,Yo,Yq,Yu,Yv,Y6,Y8,YA,YD,YN,YO,YR,YY,YZ,Xe,Xg,Xi,Xn,Xs,Xt,Wm,Wo,Wq,Wu,Wv,Ww,Wx,Wy,Wz,W0,W3,W4,W6,W7,W8,WA,WB,WE,WF,WG,WI,WK,WL,WM,WN,WS,WT,WU,WY,WZ,Vg,Vp,Vr,Vs,Vu,Vv,Vx,VK,VL,VM,VN,VO,VT,VU,VV,VW,VX,VZ,Ua,Ub,Uc,Ud,Ue,Ug,Ui,Uk,Ul,Un,Ur,Us,Ut,Uu,Uv,Ux,Uy,Uz,U0,U1,U2,U9,UA,UB,UC,UK,UL,UM,UN,UO,UP,UQ,UR,UV,UW,UX,UY,UZ,Ta,Tb,Tc,Td,Tf,Tg,Th,Ti,Tj,Tl,Tn,Tp,Ts,Tv,Tw,Tx,TA,TF,Se,Sx,Sy,Sz,S3,S4,S5,a1,a2,a4,hy,w0,w1,w2,kz,q0,q1,q2,q3,q4,hz,e1];all_goals tactic=>exact rfl))
  | cons q r =>
    have hl:r.length+1=j:=by simpa using hl
    have b1:((r.length+1+1)*24≤1099511627776)=True:=eq_true (by omega)
    have b2:(r.length+1+1≤1099511627776)=True:=eq_true (by omega)
    have b3:((r.length+1)*3=(cP (q::r)).length)=True:=eq_true (by rw[hcl];simp)
    have e1:cP (q::r)++[I (w:Nat),I (u:Nat),I (t:Nat)]=cP (q::(r++[pI (w,u,t)])):=hap.symm
    cases B with
    | nil=>(sym=>(simp[aM,aN,aY,bN,bM,Za,Zb,Zc,Zd,Ze,Zf,Zg,Zh,Zi,Zj,Zl,Zm,Zo,Zp,Zq,Zv,Zw,Zy,Z0,Z1,Z3,Z6,Z7,Z8,Z9,ZE,ZF,ZG,ZH,ZI,ZJ,ZK,ZL,ZM,ZR,ZU,ZY,ZZ,Ya,Ye,Yf,Yh,Yo,Yq,Yu,Yv,Y6,Y8,YA,YD,YN,YO,YR,YY,YZ,Xa,Xe,Xg,Xi,Xn,Xs,Xt,Xu,Wm,Wo,Wq,Wu,Wv,Ww,Wx,Wy,Wz,W0,W3,W4,W6,W7,W8,WA,WB,WE,WF,WG,WI,WK,WL,WM,WN,WS,WT,WU,WY,WZ,Vg,Vp,Vr,Vs,Vu,Vv,Vx,VK,VL,VM,VN,VO,VT,VU,VV,VW,VX,VZ,Ua,Ub,Uc,Ud,Ue,Ug,Ui,Uk,Ul,Un,Ur,Us,Ut,Uu,Uv,Ux,Uy,Uz,U0,U1,U2,U9,UA,UB,UC,UK,UL,UM,UN,UO,UP,UQ,US,UT,UV,UW,UX,UY,UZ,Ta,Tb,Tc,Td,Te,Tf,Tg,Ti,Tj,Tl,Tn,Tp,Ts,Tv,Tw,Tx,T7,TA,TF,Se,Sx,Sy,Sz,S3,S4,S5,a1,a2,a4,hy,w0,w1,w2,kz,q0,q1,q2,q3,q4,hz,e1,b1,b2,b3];all_goals tactic=>exact rfl))
    | cons b bs=>(sym=>(simp[aM,aN,aY,bN,bM,Za,Zb,Zc,Zd,Ze,Zf,Zg,Zh,Zi,Zj,Zl,Zm,Zo,Zp,Zq,Zv,Zw,Zy,Z0,Z1,Z3,Z6,Z7,Z8,Z9,ZE,ZF,ZG,ZH,ZI,ZJ,ZK,ZL,ZM,ZR,ZU,ZY,ZZ,Ya,Ye,Yf,Yh,Yo,Yq,Yu,Yv,Y6,Y8,YA,YD,YN,YO,YR,YY,YZ,Xe,Xg,Xi,Xn,Xs,Xt,Wm,Wo,Wq,Wu,Wv,Ww,Wx,Wy,Wz,W0,W3,W4,W6,W7,W8,WA,WB,WE,WF,WG,WI,WK,WL,WM,WN,WS,WT,WU,WY,WZ,Vg,Vp,Vr,Vs,Vu,Vv,Vx,VK,VL,VM,VN,VO,VT,VU,VV,VW,VX,VZ,Ua,Ub,Uc,Ud,Ue,Ug,Ui,Uk,Ul,Un,Ur,Us,Ut,Uu,Uv,Ux,Uy,Uz,U0,U1,U2,U9,UA,UB,UC,UK,UL,UM,UN,UO,UP,UQ,US,UT,UV,UW,UX,UY,UZ,Ta,Tb,Tc,Td,Te,Tf,Tg,Ti,Tj,Tl,Tn,Tp,Ts,Tv,Tw,Tx,T7,TA,TF,Se,Sx,Sy,Sz,S3,S4,S5,a1,a2,a4,hy,w0,w1,w2,kz,q0,q1,q2,q3,q4,hz,e1,b1,b2,b3];all_goals tactic=>exact rfl))
 ·cases M with
  | nil =>
    have e1:cP [pI (w,u,v)]=[I (w:Nat),I (u:Nat),I (v:Nat)]:=rfl
    cases B with
    | nil=>(sym=>(simp[aM,aN,aY,bN,bM,Za,Zb,Zc,Zd,Ze,Zf,Zg,Zh,Zi,Zj,Zl,Zm,Zo,Zp,Zq,Zv,Zw,Zy,Z0,Z1,Z3,Z6,Z7,Z8,Z9,ZE,ZF,ZG,ZH,ZI,ZJ,ZK,ZL,ZM,ZR,ZU,ZY,ZZ,Ya,Ye,Yf,Yh,Yo,Yq,Yu,Yv,Y6,Y8,YA,YD,YN,YO,YR,YY,YZ,Xa,Xe,Xg,Xi,Xn,Xs,Xt,Xu,Wm,Wo,Wq,Wu,Wv,Ww,Wx,Wy,Wz,W0,W3,W4,W6,W7,W8,WA,WB,WE,WF,WG,WI,WK,WL,WM,WN,WS,WT,WU,WY,WZ,Vg,Vp,Vr,Vs,Vu,Vv,Vx,VK,VL,VM,VN,VO,VP,VT,VU,VV,VW,VX,VZ,Ua,Ub,Uc,Ud,Ue,Ug,Ui,Uk,Ul,Un,Ur,Us,Ut,Uu,Uv,Ux,Uy,Uz,U0,U1,U2,U9,UA,UB,UC,UK,UL,UM,UN,UO,UP,UQ,UR,UV,UW,UX,UY,UZ,Ta,Tb,Tc,Td,Tf,Tg,Th,Ti,Tj,Tl,Tn,Tp,Ts,Tv,Tw,Tx,TA,TF,Se,Sx,Sy,Sz,S3,S4,S5,a1,a2,a4,hy,w0,w1,w2,kz,q0,q1,q2,q3,q4,hz,e1];all_goals tactic=>exact rfl))
    | cons b bs=>(sym=>(simp[aM,aN,aY,bN,bM,Za,Zb,Zc,Zd,Ze,Zf,Zg,Zh,Zi,Zj,Zl,Zm,Zo,Zp,Zq,Zv,Zw,Zy,Z0,Z1,Z3,Z6,Z7,Z8,Z9,ZE,ZF,ZG,ZH,ZI,ZJ,ZK,ZL,ZM,ZR,ZU,ZY,ZZ,Ya,Ye,Yf,Yh,Yo,Yq,Yu,Yv,Y6,Y8,YA,YD,YN,YO,YR,YY,YZ,Xe,Xg,Xi,Xn,Xs,Xt,Wm,Wo,Wq,Wu,Wv,Ww,Wx,Wy,Wz,W0,W3,W4,W6,W7,W8,WA,WB,WE,WF,WG,WI,WK,WL,WM,WN,WS,WT,WU,WY,WZ,Vg,Vp,Vr,Vs,Vu,Vv,Vx,VK,VL,VM,VN,VO,VP,VT,VU,VV,VW,VX,VZ,Ua,Ub,Uc,Ud,Ue,Ug,Ui,Uk,Ul,Un,Ur,Us,Ut,Uu,Uv,Ux,Uy,Uz,U0,U1,U2,U9,UA,UB,UC,UK,UL,UM,UN,UO,UP,UQ,UR,UV,UW,UX,UY,UZ,Ta,Tb,Tc,Td,Tf,Tg,Th,Ti,Tj,Tl,Tn,Tp,Ts,Tv,Tw,Tx,TA,TF,Se,Sx,Sy,Sz,S3,S4,S5,a1,a2,a4,hy,w0,w1,w2,kz,q0,q1,q2,q3,q4,hz,e1];all_goals tactic=>exact rfl))
  | cons q r =>
    have hl:r.length+1=j:=by simpa using hl
    have b1:((r.length+1+1)*24≤1099511627776)=True:=eq_true (by omega)
    have b2:(r.length+1+1≤1099511627776)=True:=eq_true (by omega)
    have b3:((r.length+1)*3=(cP (q::r)).length)=True:=eq_true (by rw[hcl];simp)
    have e1:cP (q::r)++[I (w:Nat),I (u:Nat),I (v:Nat)]=cP (q::(r++[pI (w,u,v)])):=hap.symm
    cases B with
    | nil=>(sym=>(simp[aM,aN,aY,bN,bM,Za,Zb,Zc,Zd,Ze,Zf,Zg,Zh,Zi,Zj,Zl,Zm,Zo,Zp,Zq,Zv,Zw,Zy,Z0,Z1,Z3,Z6,Z7,Z8,Z9,ZE,ZF,ZG,ZH,ZI,ZJ,ZK,ZL,ZM,ZR,ZU,ZY,ZZ,Ya,Ye,Yf,Yh,Yo,Yq,Yu,Yv,Y6,Y8,YA,YD,YN,YO,YR,YY,YZ,Xa,Xe,Xg,Xi,Xn,Xs,Xt,Xu,Wm,Wo,Wq,Wu,Wv,Ww,Wx,Wy,Wz,W0,W3,W4,W6,W7,W8,WA,WB,WE,WF,WG,WI,WK,WL,WM,WN,WS,WT,WU,WY,WZ,Vg,Vp,Vr,Vs,Vu,Vv,Vx,VK,VL,VM,VN,VO,VP,VT,VU,VV,VW,VX,VZ,Ua,Ub,Uc,Ud,Ue,Ug,Ui,Uk,Ul,Un,Ur,Us,Ut,Uu,Uv,Ux,Uy,Uz,U0,U1,U2,U9,UA,UB,UC,UK,UL,UM,UN,UO,UP,UQ,US,UT,UV,UW,UX,UY,UZ,Ta,Tb,Tc,Td,Te,Tf,Tg,Ti,Tj,Tl,Tn,Tp,Ts,Tv,Tw,Tx,T7,TA,TF,Se,Sx,Sy,Sz,S3,S4,S5,a1,a2,a4,hy,w0,w1,w2,kz,q0,q1,q2,q3,q4,hz,e1,b1,b2,b3];all_goals tactic=>exact rfl))
    | cons b bs=>(sym=>(simp[aM,aN,aY,bN,bM,Za,Zb,Zc,Zd,Ze,Zf,Zg,Zh,Zi,Zj,Zl,Zm,Zo,Zp,Zq,Zv,Zw,Zy,Z0,Z1,Z3,Z6,Z7,Z8,Z9,ZE,ZF,ZG,ZH,ZI,ZJ,ZK,ZL,ZM,ZR,ZU,ZY,ZZ,Ya,Ye,Yf,Yh,Yo,Yq,Yu,Yv,Y6,Y8,YA,YD,YN,YO,YR,YY,YZ,Xe,Xg,Xi,Xn,Xs,Xt,Wm,Wo,Wq,Wu,Wv,Ww,Wx,Wy,Wz,W0,W3,W4,W6,W7,W8,WA,WB,WE,WF,WG,WI,WK,WL,WM,WN,WS,WT,WU,WY,WZ,Vg,Vp,Vr,Vs,Vu,Vv,Vx,VK,VL,VM,VN,VO,VP,VT,VU,VV,VW,VX,VZ,Ua,Ub,Uc,Ud,Ue,Ug,Ui,Uk,Ul,Un,Ur,Us,Ut,Uu,Uv,Ux,Uy,Uz,U0,U1,U2,U9,UA,UB,UC,UK,UL,UM,UN,UO,UP,UQ,US,UT,UV,UW,UX,UY,UZ,Ta,Tb,Tc,Td,Te,Tf,Tg,Ti,Tj,Tl,Tn,Tp,Ts,Tv,Tw,Tx,T7,TA,TF,Se,Sx,Sy,Sz,S3,S4,S5,a1,a2,a4,hy,w0,w1,w2,kz,q0,q1,q2,q3,q4,hz,e1,b1,b2,b3];all_goals tactic=>exact rfl))
end
theorem w36 {l:La} (ok:l.Ok):runW aA 36 [.agg l.c] []=some (.agg l.md.c,[]):=by
 have hk:=l.k_lt
 have v0:=wr8 ok.F
 have v1:=wr8 ok.s
 have v2:=wr8 ok.n
 have v3:=wr8 ok.f
 have q0:jR (l.F:Int) 7=((l.F%7:Nat):Int):=bD l.F 7
 have q1:IntKind.i64.wrap (2+((l.F%7:Nat):Int))=(l.k:Int):=by unfold La.k;rw[aD (by omega) (by omega)];omega
 have n0:((l.k:Int)<0)=False:=eq_false (by omega)
 have e:=yZ cV (i:=l.k) (by omega)
 have pz:(((2^l.k:Nat):Int)=0)=False:=eq_false (by have:=Nat.two_pow_pos l.k;omega)
 have q2:=bD l.s (2^l.k)
 have q3:=bD l.n (2^l.k)
 have q4:=bD l.f (2^l.k)
 have rda:=fun j (h1:j<l.bs.length) (h2:j<12)=>aFf ok (S:=(l.s%2^l.k:Nat)) (N:=(l.n%2^l.k:Nat)) (X:=(l.f%2^l.k:Nat)) h1 h2
 obtain⟨mb,hmb⟩:∃ m,m=min 12 l.bs.length:=⟨_,rfl⟩
 obtain⟨mp,hmp⟩:∃ m,m=min 5 l.ps.length:=⟨_,rfl⟩
 have rdb:=fun j (h1:j<l.ps.length) (h2:j<5)=>aFe ok (S:=(l.s%2^l.k:Nat)) (N:=(l.n%2^l.k:Nat)) (X:=(l.f%2^l.k:Nat)) (wU l mb) h1 h2
 have B0:wU l 0=[]:=rfl
 have P0:rN l 0=[]:=rfl
 have hB:wU l mb=(l.md.bs).map bI:=by
  show _=List.map bI ((l.bs.take 12).map (toB l.k))
  rw[wU,hmb,show l.bs.take (min 12 l.bs.length)=l.bs.take 12 by rw[←List.take_take,List.take_length]]
 have hP:rN l mp=(l.md.ps).map pI:=by
  show _=List.map pI ((l.ps.take 5).map (toP l.k))
  rw[rN,hmp,show l.ps.take (min 5 l.ps.length)=l.ps.take 5 by rw[←List.take_take,List.take_length]]
 have hres:(AV.agg l.md.c) = .agg [I l.k,.fs ((wU l mb).map qR),.fs ((rN l mp).map pR),I (l.s%2^l.k:Nat),I (l.n%2^l.k:Nat),I (l.f%2^l.k:Nat)]:=by rw[hB,hP];rfl
 have zb:(mb<l.bs.length∧mb<12)∨True:=.inr trivial
 have cb:=aLh (wU l mb)
 have cp:=aLi (rN l mp)
 have lb:=aGE (wU l mb)
 have lp:=aGF (rN l mp)
 have stb:((mb:Int)<(l.bs.length:Int))=False∨((mb:Int)<(l.bs.length:Int))=True∧((mb:Int)<12)=False:=by
  by_cases h:mb<l.bs.length
  ·exact .inr ⟨eq_true (by omega),eq_false (by omega)⟩
  ·exact .inl (eq_false (by omega))
 have stp:((mp:Int)<(l.ps.length:Int))=False∨((mp:Int)<(l.ps.length:Int))=True∧((mp:Int)<5)=False:=by
  by_cases h:mp<l.ps.length
  ·exact .inr ⟨eq_true (by omega),eq_false (by omega)⟩
  ·exact .inl (eq_false (by omega))
 rw[hres]
 clear hres hB hP
 have rda:∀ j,j<mb→_:=fun j hj=>rda j (by omega) (by omega)
 have rdb:∀ j,j<mp→_:=fun j hj=>rdb j (by omega) (by omega)
 generalize hS:l.s%2^l.k=S at *
 generalize hN:l.n%2^l.k=N at *
 generalize hX:l.f%2^l.k=X at *
 generalize 2^l.k=p2 at *
 generalize l.F%7=r7 at *
 generalize hBB:wU l mb=BB at *
 generalize hPP:rN l mp=PP at *
 have stb':=stb
 have stp':=stp
 rw[r36 (by simp)];unfold x36;dsimp only
 sym =>
  simp[aM,aN,aY,bN,bM,Za,Zb,Zc,Zd,Ze,Zf,Zh,Zi,Zl,Zm,Zo,Zv,Zw,Zz,Z0,Z3,Z6,Z7,ZF,ZG,ZI,ZJ,ZL,ZM,ZY,ZZ,Yh,Ym,Yv,YO,Xe,Xg,Xh,Xk,Wa,Wc,We,Wm,Wo,Wu,Wv,Ww,Wx,Wy,Wz,W3,W4,W5,W6,Vg,VI,VS,VT,VU,VV,VW,VX,Ua,Ub,Ug,Uk,Ul,Un,Ut,Uu,Uv,U1,U2,U7,U8,U9,UA,UB,UC,UI,UJ,UV,UW,Ta,Tb,Tc,Td,Ti,Tj,Tn,Tp,Tw,Tx,Se,v0,v1,v2,v3,q0,q1,n0,e,pz,q2,q3,q4]
  tactic =>
   unfold aCy
   rw[aF mb (fun j=>[.pt 0 0,.pt 1 0,I l.k,.pt 2 0,I (j:Nat)]) (fun j=>gLa l S N X (wU l j) []++gLb (wU l j) [])]
   ·rw[hBB]
    rcases stb with sb|⟨sb,sb2⟩
    ·rcases BB with _|⟨b,q⟩
     ·sym =>
      simp[aM,aN,aY,bN,bM,Za,Zb,Zf,Zh,Zl,Zm,Zp,Zs,Zv,Zy,Z3,Z7,ZE,ZF,ZV,ZZ,Ya,Yq,Wv,Ww,Wx,W6,VK,VN,VP,VU,VX,Uc,Ut,UV,UW,Ta,Ti,Tj,Tm,Tn,Tp,Tq,Tu,Tw,Tx,sb]
      tactic =>
       unfold uL
       rw[aF mp (fun j=>[.pt 0 0,.pt 1 0,I l.k,.pt 2 0,I (j:Nat)]) (fun j=>gLa l S N X [] (rN l j)++gLb [] (rN l j))]
       ·rw[hPP]
        rcases stp with sp|⟨sp,sp2⟩
        ·rcases PP with _|⟨p,r⟩
         ·(sym=>(simp[aM,aN,aY,bN,bM,Za,Zb,Zc,Zf,Zh,Zl,Zm,Zp,Zs,Zv,Zy,Z3,Z7,ZE,ZF,ZJ,ZK,ZV,ZZ,Ya,Yq,YR,YU,YX,Xe,Xk,Xn,Xp,Xr,Xy,X0,XM,Wa,Wc,Wh,Wo,Wv,Ww,Wx,Wy,Wz,W0,W3,W4,W6,WE,WI,WK,WL,WM,Vp,V3,V4,V6,V7,V8,V9,VA,VD,VE,VF,VH,VK,VN,VP,VU,VW,VX,VZ,Ua,Ub,Uc,Ug,Un,Ut,Ux,Uy,Uz,U0,U1,U2,U3,U4,U7,U8,U9,UV,UW,UZ,Ta,Tb,Tc,Ti,Tj,Tk,Tm,Tp,Tq,Tu,Tw,Tx,Sf,sp];all_goals tactic=>exact rfl))
         ·have cp:cB (cP (p::r)) 0 3 (r.length+1)=(p::r).map pR:=cp
          have c3:((r.length+1)*3≤(cP (p::r)).length)=True:=eq_true (by rw[lp];simp)
          (sym=>(simp[aM,aN,aY,bN,bM,Za,Zb,Zc,Zf,Zh,Zl,Zm,Zp,Zs,Zv,Zy,Z3,Z7,ZE,ZF,ZJ,ZK,ZV,ZZ,Ya,Yq,YR,YU,YX,Xe,Xh,Xi,Xk,Xn,Xp,Xr,Xy,X0,XK,XM,XQ,XU,XX,XZ,Wa,Wc,We,Wh,Wo,Wv,Ww,Wx,Wy,Wz,W0,W3,W4,W6,WE,WI,WK,WL,WM,Vl,Vm,Vo,Vp,Vq,Vz,V0,V1,V3,V4,V6,V7,V8,V9,VA,VD,VE,VF,VH,VK,VN,VP,VT,VU,VV,VW,VX,VZ,Ua,Ub,Uc,Ug,Ui,Un,Ut,Ux,Uy,Uz,U0,U1,U2,U3,U4,U5,U6,U7,U8,U9,UV,UW,UZ,Ta,Tb,Tc,Ti,Tj,Tk,Tm,Tp,Tq,Tu,Tw,Tx,T9,Sf,Sg,Si,sp,cp,c3];all_goals tactic=>exact rfl))
        ·rcases PP with _|⟨p,r⟩
         ·(sym=>(simp[aM,aN,aY,bN,bM,Za,Zb,Zc,Zf,Zh,Zl,Zm,Zp,Zq,Zv,Zy,Z3,Z7,ZE,ZF,ZJ,ZK,ZU,ZZ,Ya,Yq,YR,YU,YX,Xe,Xk,Xn,Xp,Xr,Xy,X0,XM,Wa,Wc,Wh,Wo,Wv,Ww,Wx,Wy,Wz,W0,W3,W4,W6,WE,WI,WK,WL,WM,Vp,V3,V4,V6,V7,V8,V9,VA,VD,VE,VF,VH,VK,VN,VP,VU,VW,VX,VZ,Ua,Ub,Uc,Ug,Un,Us,Ut,Ux,Uy,Uz,U0,U1,U2,U3,U4,U7,U8,U9,UV,UW,UZ,Ta,Tb,Tc,Ti,Tj,Tk,Tm,Tp,Tq,Tu,Tw,Tx,Sf,sp,sp2];all_goals tactic=>exact rfl))
         ·have cp:cB (cP (p::r)) 0 3 (r.length+1)=(p::r).map pR:=cp
          have c3:((r.length+1)*3≤(cP (p::r)).length)=True:=eq_true (by rw[lp];simp)
          (sym=>(simp[aM,aN,aY,bN,bM,Za,Zb,Zc,Zf,Zh,Zl,Zm,Zp,Zq,Zv,Zy,Z3,Z7,ZE,ZF,ZJ,ZK,ZU,ZZ,Ya,Yq,YR,YU,YX,Xe,Xh,Xi,Xk,Xn,Xp,Xr,Xy,X0,XK,XM,XQ,XU,XX,XZ,Wa,Wc,We,Wh,Wo,Wv,Ww,Wx,Wy,Wz,W0,W3,W4,W6,WE,WI,WK,WL,WM,Vl,Vm,Vo,Vp,Vq,Vz,V0,V1,V3,V4,V6,V7,V8,V9,VA,VD,VE,VF,VH,VK,VN,VP,VT,VU,VV,VW,VX,VZ,Ua,Ub,Uc,Ug,Ui,Un,Us,Ut,Ux,Uy,Uz,U0,U1,U2,U3,U4,U5,U6,U7,U8,U9,UV,UW,UZ,Ta,Tb,Tc,Ti,Tj,Tk,Tm,Tp,Tq,Tu,Tw,Tx,T9,Sf,Sg,Si,sp,sp2,cp,c3];all_goals tactic=>exact rfl))
       ·rw[P0]; (sym=>(simp[aM,aN,aY,bN,bM,Za,Y7,YR,YZ,Xn,Xt,Wv,W7,W8,WA,WB,WE,WF,WG,WI,WK,WL,WM,WN,WS,WT,WY,VK,VL,VM,VT,VU,VV,VW,VX,VZ,Ue,Ur,Ux,Uy,Uz,U0,Tv,TA];all_goals tactic=>exact rfl))
       ·exact rdb
       ·rw[hPP]
        rcases stp with sp|⟨sp,sp2⟩
        ·rcases PP with _|⟨p,r⟩
         ·(sym=>(simp[aM,aN,aY,bN,bM,Za,Zb,Zf,Zh,Zl,Zm,Zp,Zs,Zv,Zy,Z3,Z7,ZE,ZF,ZV,ZZ,Ya,Yq,Wv,Ww,Wx,W6,VK,VN,VP,VQ,VX,Uc,Ut,UV,UW,Ta,Ti,Tj,Tm,Tp,Tq,Tw,Tx,sp];all_goals tactic=>exact rfl))
         ·(sym=>(simp[aM,aN,aY,bN,bM,Za,Zb,Zf,Zh,Zl,Zm,Zp,Zs,Zv,Zy,Z3,Z7,ZE,ZF,ZV,ZZ,Ya,Yq,Wv,Ww,Wx,W6,VK,VN,VP,VQ,VV,VW,Uc,Ut,UV,UW,Ta,Ti,Tj,Tm,Tp,Tq,Tw,Tx,sp];all_goals tactic=>exact rfl))
        ·rcases PP with _|⟨p,r⟩
         ·(sym=>(simp[aM,aN,aY,bN,bM,Za,Zb,Zf,Zh,Zl,Zm,Zp,Zq,Zv,Zy,Z3,Z7,ZE,ZF,ZU,ZZ,Ya,Yq,Wv,Ww,Wx,W6,VK,VN,VP,VQ,VX,Uc,Us,Ut,UV,UW,Ta,Ti,Tj,Tm,Tp,Tq,Tw,Tx,sp,sp2];all_goals tactic=>exact rfl))
         ·(sym=>(simp[aM,aN,aY,bN,bM,Za,Zb,Zf,Zh,Zl,Zm,Zp,Zq,Zv,Zy,Z3,Z7,ZE,ZF,ZU,ZZ,Ya,Yq,Wv,Ww,Wx,W6,VK,VN,VP,VQ,VV,VW,Uc,Us,Ut,UV,UW,Ta,Ti,Tj,Tm,Tp,Tq,Tw,Tx,sp,sp2];all_goals tactic=>exact rfl))
     ·have cb:cB (cQ (b::q)) 0 2 (q.length+1)=(b::q).map qR:=cb
      have b3:((q.length+1)*2≤(cQ (b::q)).length)=True:=eq_true (by rw[lb];simp)
      sym =>
       simp[aM,aN,aY,bN,bM,Za,Zb,Zf,Zh,Zl,Zm,Zp,Zs,Zv,Zy,Z3,Z7,ZE,ZF,ZV,ZZ,Ya,Yq,Wv,Ww,Wx,W6,VK,VN,VP,VT,VV,VW,Uc,Ut,UV,UW,Ta,Ti,Tj,Tm,Tn,Tp,Tq,Tu,Tw,Tx,sb]
       tactic =>
        unfold uL
        rw[aF mp (fun j=>[.pt 0 0,.pt 1 0,I l.k,.pt 2 0,I (j:Nat)]) (fun j=>gLa l S N X (b::q) (rN l j)++gLb (b::q) (rN l j))]
        ·rw[hPP]
         rcases stp with sp|⟨sp,sp2⟩
         ·rcases PP with _|⟨p,r⟩
          ·(sym=>(simp[aM,aN,aY,bN,bM,Za,Zb,Zc,Zf,Zh,Zl,Zm,Zp,Zs,Zv,Zy,Z3,Z7,ZE,ZF,ZJ,ZK,ZV,ZZ,Ya,Yq,YR,YU,YX,Xe,Xh,Xi,Xk,Xn,Xp,Xr,Xy,X0,XK,XM,XQ,XU,XX,XZ,Wa,Wc,We,Wh,Wo,Wv,Ww,Wx,Wy,Wz,W0,W3,W4,W6,WE,WI,WK,WL,WM,Vl,Vm,Vo,Vp,Vq,Vz,V0,V1,V3,V4,V6,V7,V8,V9,VA,VD,VE,VF,VH,VK,VN,VP,VT,VU,VV,VW,VX,VZ,Ua,Ub,Uc,Ug,Ui,Un,Ut,Ux,Uy,Uz,U0,U1,U2,U3,U4,U5,U6,U7,U8,U9,UV,UW,UZ,Ta,Tb,Tc,Ti,Tj,Tk,Tm,Tp,Tq,Tu,Tw,Tx,T9,Sf,Sg,Si,sp,cb,b3];all_goals tactic=>exact rfl))
          ·have cp:cB (cP (p::r)) 0 3 (r.length+1)=(p::r).map pR:=cp
           have c3:((r.length+1)*3≤(cP (p::r)).length)=True:=eq_true (by rw[lp];simp)
           (sym=>(simp[aM,aN,aY,bN,bM,Za,Zb,Zc,Zf,Zh,Zl,Zm,Zp,Zs,Zv,Zy,Z3,Z7,ZE,ZF,ZJ,ZK,ZV,ZZ,Ya,Yq,YR,YU,YX,Xe,Xh,Xi,Xn,Xp,Xr,Xy,X0,XK,XQ,XU,XW,XX,Wa,Wc,We,Wo,Wv,Ww,Wx,Wy,Wz,W0,W3,W4,W6,WE,WI,WK,WL,WM,Vl,Vm,Vo,Vp,Vq,Vy,Vz,V0,V1,V3,V4,V6,V7,V8,V9,VA,VD,VE,VF,VH,VK,VN,VP,VT,VU,VV,VW,VX,VZ,Ua,Ub,Uc,Ug,Ui,Un,Uo,Ut,Ux,Uy,Uz,U0,U1,U2,U3,U4,U5,U6,U7,U8,U9,UV,UW,UZ,Ta,Tb,Tc,Ti,Tj,Tk,Tm,Tp,Tq,Tu,Tw,Tx,T9,Sf,Sg,Si,sp,cp,c3,cb,b3];all_goals tactic=>exact rfl))
         ·rcases PP with _|⟨p,r⟩
          ·(sym=>(simp[aM,aN,aY,bN,bM,Za,Zb,Zc,Zf,Zh,Zl,Zm,Zp,Zq,Zv,Zy,Z3,Z7,ZE,ZF,ZJ,ZK,ZU,ZZ,Ya,Yq,YR,YU,YX,Xe,Xh,Xi,Xk,Xn,Xp,Xr,Xy,X0,XK,XM,XQ,XU,XX,XZ,Wa,Wc,We,Wh,Wo,Wv,Ww,Wx,Wy,Wz,W0,W3,W4,W6,WE,WI,WK,WL,WM,Vl,Vm,Vo,Vp,Vq,Vz,V0,V1,V3,V4,V6,V7,V8,V9,VA,VD,VE,VF,VH,VK,VN,VP,VT,VU,VV,VW,VX,VZ,Ua,Ub,Uc,Ug,Ui,Un,Us,Ut,Ux,Uy,Uz,U0,U1,U2,U3,U4,U5,U6,U7,U8,U9,UV,UW,UZ,Ta,Tb,Tc,Ti,Tj,Tk,Tm,Tp,Tq,Tu,Tw,Tx,T9,Sf,Sg,Si,sp,sp2,cb,b3];all_goals tactic=>exact rfl))
          ·have cp:cB (cP (p::r)) 0 3 (r.length+1)=(p::r).map pR:=cp
           have c3:((r.length+1)*3≤(cP (p::r)).length)=True:=eq_true (by rw[lp];simp)
           (sym=>(simp[aM,aN,aY,bN,bM,Za,Zb,Zc,Zf,Zh,Zl,Zm,Zp,Zq,Zv,Zy,Z3,Z7,ZE,ZF,ZJ,ZK,ZU,ZZ,Ya,Yq,YR,YU,YX,Xe,Xh,Xi,Xn,Xp,Xr,Xy,X0,XK,XQ,XU,XW,XX,Wa,Wc,We,Wo,Wv,Ww,Wx,Wy,Wz,W0,W3,W4,W6,WE,WI,WK,WL,WM,Vl,Vm,Vo,Vp,Vq,Vy,Vz,V0,V1,V3,V4,V6,V7,V8,V9,VA,VD,VE,VF,VH,VK,VN,VP,VT,VU,VV,VW,VX,VZ,Ua,Ub,Uc,Ug,Ui,Un,Uo,Us,Ut,Ux,Uy,Uz,U0,U1,U2,U3,U4,U5,U6,U7,U8,U9,UV,UW,UZ,Ta,Tb,Tc,Ti,Tj,Tk,Tm,Tp,Tq,Tu,Tw,Tx,T9,Sf,Sg,Si,sp,sp2,cp,c3,cb,b3];all_goals tactic=>exact rfl))
        ·rw[P0]; (sym=>(simp[aM,aN,aY,bN,bM,Za,Y7,YR,YY,YZ,Xa,Xn,Xs,Xt,Xu,Wv,W7,W8,WA,WB,WE,WF,WG,WI,WK,WL,WM,WN,WS,WT,WU,WY,WZ,VK,VL,VM,VT,VU,VV,VW,VX,VZ,Ue,Ur,Ux,Uy,Uz,U0,Tv,TA];all_goals tactic=>exact rfl))
        ·exact rdb
        ·rw[hPP]
         rcases stp with sp|⟨sp,sp2⟩
         ·rcases PP with _|⟨p,r⟩
          ·(sym=>(simp[aM,aN,aY,bN,bM,Za,Zb,Zf,Zh,Zl,Zm,Zp,Zs,Zv,Zy,Z3,Z7,ZE,ZF,ZV,ZZ,Ya,Yq,Wv,Ww,Wx,W6,VK,VN,VP,VQ,VV,VW,Uc,Ut,UV,UW,Ta,Ti,Tj,Tm,Tp,Tq,Tw,Tx,sp];all_goals tactic=>exact rfl))
          ·(sym=>(simp[aM,aN,aY,bN,bM,Za,Zb,Zf,Zh,Zl,Zm,Zp,Zs,Zv,Zy,Z3,Z7,ZE,ZF,ZV,ZZ,Ya,Yq,Wv,Ww,Wx,W6,VK,VN,VP,VQ,VV,VW,Uc,Ut,UV,UW,Ta,Ti,Tj,Tm,Tp,Tq,Tw,Tx,sp];all_goals tactic=>exact rfl))
         ·rcases PP with _|⟨p,r⟩
          ·(sym=>(simp[aM,aN,aY,bN,bM,Za,Zb,Zf,Zh,Zl,Zm,Zp,Zq,Zv,Zy,Z3,Z7,ZE,ZF,ZU,ZZ,Ya,Yq,Wv,Ww,Wx,W6,VK,VN,VP,VQ,VV,VW,Uc,Us,Ut,UV,UW,Ta,Ti,Tj,Tm,Tp,Tq,Tw,Tx,sp,sp2];all_goals tactic=>exact rfl))
          ·(sym=>(simp[aM,aN,aY,bN,bM,Za,Zb,Zf,Zh,Zl,Zm,Zp,Zq,Zv,Zy,Z3,Z7,ZE,ZF,ZU,ZZ,Ya,Yq,Wv,Ww,Wx,W6,VK,VN,VP,VQ,VV,VW,Uc,Us,Ut,UV,UW,Ta,Ti,Tj,Tm,Tp,Tq,Tw,Tx,sp,sp2];all_goals tactic=>exact rfl))
    ·rcases BB with _|⟨b,q⟩
     ·sym =>
      simp[aM,aN,aY,bN,bM,Za,Zb,Zf,Zh,Zl,Zm,Zp,Zq,Zv,Zy,Z3,Z7,ZE,ZF,ZU,ZZ,Ya,Yq,Wv,Ww,Wx,W6,VK,VN,VP,VU,VX,Uc,Us,Ut,UV,UW,Ta,Ti,Tj,Tm,Tn,Tp,Tq,Tu,Tw,Tx,sb,sb2]
      tactic =>
       unfold uL
       rw[aF mp (fun j=>[.pt 0 0,.pt 1 0,I l.k,.pt 2 0,I (j:Nat)]) (fun j=>gLa l S N X [] (rN l j)++gLb [] (rN l j))]
       ·rw[hPP]
        rcases stp with sp|⟨sp,sp2⟩
        ·rcases PP with _|⟨p,r⟩
         ·(sym=>(simp[aM,aN,aY,bN,bM,Za,Zb,Zc,Zf,Zh,Zl,Zm,Zp,Zs,Zv,Zy,Z3,Z7,ZE,ZF,ZJ,ZK,ZV,ZZ,Ya,Yq,YR,YU,YX,Xe,Xk,Xn,Xp,Xr,Xy,X0,XM,Wa,Wc,Wh,Wo,Wv,Ww,Wx,Wy,Wz,W0,W3,W4,W6,WE,WI,WK,WL,WM,Vp,V3,V4,V6,V7,V8,V9,VA,VD,VE,VF,VH,VK,VN,VP,VU,VW,VX,VZ,Ua,Ub,Uc,Ug,Un,Ut,Ux,Uy,Uz,U0,U1,U2,U3,U4,U7,U8,U9,UV,UW,UZ,Ta,Tb,Tc,Ti,Tj,Tk,Tm,Tp,Tq,Tu,Tw,Tx,Sf,sp];all_goals tactic=>exact rfl))
         ·have cp:cB (cP (p::r)) 0 3 (r.length+1)=(p::r).map pR:=cp
          have c3:((r.length+1)*3≤(cP (p::r)).length)=True:=eq_true (by rw[lp];simp)
          (sym=>(simp[aM,aN,aY,bN,bM,Za,Zb,Zc,Zf,Zh,Zl,Zm,Zp,Zs,Zv,Zy,Z3,Z7,ZE,ZF,ZJ,ZK,ZV,ZZ,Ya,Yq,YR,YU,YX,Xe,Xh,Xi,Xk,Xn,Xp,Xr,Xy,X0,XK,XM,XQ,XU,XX,XZ,Wa,Wc,We,Wh,Wo,Wv,Ww,Wx,Wy,Wz,W0,W3,W4,W6,WE,WI,WK,WL,WM,Vl,Vm,Vo,Vp,Vq,Vz,V0,V1,V3,V4,V6,V7,V8,V9,VA,VD,VE,VF,VH,VK,VN,VP,VT,VU,VV,VW,VX,VZ,Ua,Ub,Uc,Ug,Ui,Un,Ut,Ux,Uy,Uz,U0,U1,U2,U3,U4,U5,U6,U7,U8,U9,UV,UW,UZ,Ta,Tb,Tc,Ti,Tj,Tk,Tm,Tp,Tq,Tu,Tw,Tx,T9,Sf,Sg,Si,sp,cp,c3];all_goals tactic=>exact rfl))
        ·rcases PP with _|⟨p,r⟩
         ·(sym=>(simp[aM,aN,aY,bN,bM,Za,Zb,Zc,Zf,Zh,Zl,Zm,Zp,Zq,Zv,Zy,Z3,Z7,ZE,ZF,ZJ,ZK,ZU,ZZ,Ya,Yq,YR,YU,YX,Xe,Xk,Xn,Xp,Xr,Xy,X0,XM,Wa,Wc,Wh,Wo,Wv,Ww,Wx,Wy,Wz,W0,W3,W4,W6,WE,WI,WK,WL,WM,Vp,V3,V4,V6,V7,V8,V9,VA,VD,VE,VF,VH,VK,VN,VP,VU,VW,VX,VZ,Ua,Ub,Uc,Ug,Un,Us,Ut,Ux,Uy,Uz,U0,U1,U2,U3,U4,U7,U8,U9,UV,UW,UZ,Ta,Tb,Tc,Ti,Tj,Tk,Tm,Tp,Tq,Tu,Tw,Tx,Sf,sp,sp2];all_goals tactic=>exact rfl))
         ·have cp:cB (cP (p::r)) 0 3 (r.length+1)=(p::r).map pR:=cp
          have c3:((r.length+1)*3≤(cP (p::r)).length)=True:=eq_true (by rw[lp];simp)
          (sym=>(simp[aM,aN,aY,bN,bM,Za,Zb,Zc,Zf,Zh,Zl,Zm,Zp,Zq,Zv,Zy,Z3,Z7,ZE,ZF,ZJ,ZK,ZU,ZZ,Ya,Yq,YR,YU,YX,Xe,Xh,Xi,Xk,Xn,Xp,Xr,Xy,X0,XK,XM,XQ,XU,XX,XZ,Wa,Wc,We,Wh,Wo,Wv,Ww,Wx,Wy,Wz,W0,W3,W4,W6,WE,WI,WK,WL,WM,Vl,Vm,Vo,Vp,Vq,Vz,V0,V1,V3,V4,V6,V7,V8,V9,VA,VD,VE,VF,VH,VK,VN,VP,VT,VU,VV,VW,VX,VZ,Ua,Ub,Uc,Ug,Ui,Un,Us,Ut,Ux,Uy,Uz,U0,U1,U2,U3,U4,U5,U6,U7,U8,U9,UV,UW,UZ,Ta,Tb,Tc,Ti,Tj,Tk,Tm,Tp,Tq,Tu,Tw,Tx,T9,Sf,Sg,Si,sp,sp2,cp,c3];all_goals tactic=>exact rfl))
       ·rw[P0]; (sym=>(simp[aM,aN,aY,bN,bM,Za,Y7,YR,YZ,Xn,Xt,Wv,W7,W8,WA,WB,WE,WF,WG,WI,WK,WL,WM,WN,WS,WT,WY,VK,VL,VM,VT,VU,VV,VW,VX,VZ,Ue,Ur,Ux,Uy,Uz,U0,Tv,TA];all_goals tactic=>exact rfl))
       ·exact rdb
       ·rw[hPP]
        rcases stp with sp|⟨sp,sp2⟩
        ·rcases PP with _|⟨p,r⟩
         ·(sym=>(simp[aM,aN,aY,bN,bM,Za,Zb,Zf,Zh,Zl,Zm,Zp,Zs,Zv,Zy,Z3,Z7,ZE,ZF,ZV,ZZ,Ya,Yq,Wv,Ww,Wx,W6,VK,VN,VP,VQ,VX,Uc,Ut,UV,UW,Ta,Ti,Tj,Tm,Tp,Tq,Tw,Tx,sp];all_goals tactic=>exact rfl))
         ·(sym=>(simp[aM,aN,aY,bN,bM,Za,Zb,Zf,Zh,Zl,Zm,Zp,Zs,Zv,Zy,Z3,Z7,ZE,ZF,ZV,ZZ,Ya,Yq,Wv,Ww,Wx,W6,VK,VN,VP,VQ,VV,VW,Uc,Ut,UV,UW,Ta,Ti,Tj,Tm,Tp,Tq,Tw,Tx,sp];all_goals tactic=>exact rfl))
        ·rcases PP with _|⟨p,r⟩
         ·(sym=>(simp[aM,aN,aY,bN,bM,Za,Zb,Zf,Zh,Zl,Zm,Zp,Zq,Zv,Zy,Z3,Z7,ZE,ZF,ZU,ZZ,Ya,Yq,Wv,Ww,Wx,W6,VK,VN,VP,VQ,VX,Uc,Us,Ut,UV,UW,Ta,Ti,Tj,Tm,Tp,Tq,Tw,Tx,sp,sp2];all_goals tactic=>exact rfl))
         ·(sym=>(simp[aM,aN,aY,bN,bM,Za,Zb,Zf,Zh,Zl,Zm,Zp,Zq,Zv,Zy,Z3,Z7,ZE,ZF,ZU,ZZ,Ya,Yq,Wv,Ww,Wx,W6,VK,VN,VP,VQ,VV,VW,Uc,Us,Ut,UV,UW,Ta,Ti,Tj,Tm,Tp,Tq,Tw,Tx,sp,sp2];all_goals tactic=>exact rfl))
     ·have cb:cB (cQ (b::q)) 0 2 (q.length+1)=(b::q).map qR:=cb
      have b3:((q.length+1)*2≤(cQ (b::q)).length)=True:=eq_true (by rw[lb];simp)
      sym =>
       simp[aM,aN,aY,bN,bM,Za,Zb,Zf,Zh,Zl,Zm,Zp,Zq,Zv,Zy,Z3,Z7,ZE,ZF,ZU,ZZ,Ya,Yq,Wv,Ww,Wx,W6,VK,VN,VP,VT,VV,VW,Uc,Us,Ut,UV,UW,Ta,Ti,Tj,Tm,Tn,Tp,Tq,Tu,Tw,Tx,sb,sb2]
       tactic =>
        unfold uL
        rw[aF mp (fun j=>[.pt 0 0,.pt 1 0,I l.k,.pt 2 0,I (j:Nat)]) (fun j=>gLa l S N X (b::q) (rN l j)++gLb (b::q) (rN l j))]
        ·rw[hPP]
         rcases stp with sp|⟨sp,sp2⟩
         ·rcases PP with _|⟨p,r⟩
          ·(sym=>(simp[aM,aN,aY,bN,bM,Za,Zb,Zc,Zf,Zh,Zl,Zm,Zp,Zs,Zv,Zy,Z3,Z7,ZE,ZF,ZJ,ZK,ZV,ZZ,Ya,Yq,YR,YU,YX,Xe,Xh,Xi,Xk,Xn,Xp,Xr,Xy,X0,XK,XM,XQ,XU,XX,XZ,Wa,Wc,We,Wh,Wo,Wv,Ww,Wx,Wy,Wz,W0,W3,W4,W6,WE,WI,WK,WL,WM,Vl,Vm,Vo,Vp,Vq,Vz,V0,V1,V3,V4,V6,V7,V8,V9,VA,VD,VE,VF,VH,VK,VN,VP,VT,VU,VV,VW,VX,VZ,Ua,Ub,Uc,Ug,Ui,Un,Ut,Ux,Uy,Uz,U0,U1,U2,U3,U4,U5,U6,U7,U8,U9,UV,UW,UZ,Ta,Tb,Tc,Ti,Tj,Tk,Tm,Tp,Tq,Tu,Tw,Tx,T9,Sf,Sg,Si,sp,cb,b3];all_goals tactic=>exact rfl))
          ·have cp:cB (cP (p::r)) 0 3 (r.length+1)=(p::r).map pR:=cp
           have c3:((r.length+1)*3≤(cP (p::r)).length)=True:=eq_true (by rw[lp];simp)
           (sym=>(simp[aM,aN,aY,bN,bM,Za,Zb,Zc,Zf,Zh,Zl,Zm,Zp,Zs,Zv,Zy,Z3,Z7,ZE,ZF,ZJ,ZK,ZV,ZZ,Ya,Yq,YR,YU,YX,Xe,Xh,Xi,Xn,Xp,Xr,Xy,X0,XK,XQ,XU,XW,XX,Wa,Wc,We,Wo,Wv,Ww,Wx,Wy,Wz,W0,W3,W4,W6,WE,WI,WK,WL,WM,Vl,Vm,Vo,Vp,Vq,Vy,Vz,V0,V1,V3,V4,V6,V7,V8,V9,VA,VD,VE,VF,VH,VK,VN,VP,VT,VU,VV,VW,VX,VZ,Ua,Ub,Uc,Ug,Ui,Un,Uo,Ut,Ux,Uy,Uz,U0,U1,U2,U3,U4,U5,U6,U7,U8,U9,UV,UW,UZ,Ta,Tb,Tc,Ti,Tj,Tk,Tm,Tp,Tq,Tu,Tw,Tx,T9,Sf,Sg,Si,sp,cp,c3,cb,b3];all_goals tactic=>exact rfl))
         ·rcases PP with _|⟨p,r⟩
          ·(sym=>(simp[aM,aN,aY,bN,bM,Za,Zb,Zc,Zf,Zh,Zl,Zm,Zp,Zq,Zv,Zy,Z3,Z7,ZE,ZF,ZJ,ZK,ZU,ZZ,Ya,Yq,YR,YU,YX,Xe,Xh,Xi,Xk,Xn,Xp,Xr,Xy,X0,XK,XM,XQ,XU,XX,XZ,Wa,Wc,We,Wh,Wo,Wv,Ww,Wx,Wy,Wz,W0,W3,W4,W6,WE,WI,WK,WL,WM,Vl,Vm,Vo,Vp,Vq,Vz,V0,V1,V3,V4,V6,V7,V8,V9,VA,VD,VE,VF,VH,VK,VN,VP,VT,VU,VV,VW,VX,VZ,Ua,Ub,Uc,Ug,Ui,Un,Us,Ut,Ux,Uy,Uz,U0,U1,U2,U3,U4,U5,U6,U7,U8,U9,UV,UW,UZ,Ta,Tb,Tc,Ti,Tj,Tk,Tm,Tp,Tq,Tu,Tw,Tx,T9,Sf,Sg,Si,sp,sp2,cb,b3];all_goals tactic=>exact rfl))
          ·have cp:cB (cP (p::r)) 0 3 (r.length+1)=(p::r).map pR:=cp
           have c3:((r.length+1)*3≤(cP (p::r)).length)=True:=eq_true (by rw[lp];simp)
           (sym=>(simp[aM,aN,aY,bN,bM,Za,Zb,Zc,Zf,Zh,Zl,Zm,Zp,Zq,Zv,Zy,Z3,Z7,ZE,ZF,ZJ,ZK,ZU,ZZ,Ya,Yq,YR,YU,YX,Xe,Xh,Xi,Xn,Xp,Xr,Xy,X0,XK,XQ,XU,XW,XX,Wa,Wc,We,Wo,Wv,Ww,Wx,Wy,Wz,W0,W3,W4,W6,WE,WI,WK,WL,WM,Vl,Vm,Vo,Vp,Vq,Vy,Vz,V0,V1,V3,V4,V6,V7,V8,V9,VA,VD,VE,VF,VH,VK,VN,VP,VT,VU,VV,VW,VX,VZ,Ua,Ub,Uc,Ug,Ui,Un,Uo,Us,Ut,Ux,Uy,Uz,U0,U1,U2,U3,U4,U5,U6,U7,U8,U9,UV,UW,UZ,Ta,Tb,Tc,Ti,Tj,Tk,Tm,Tp,Tq,Tu,Tw,Tx,T9,Sf,Sg,Si,sp,sp2,cp,c3,cb,b3];all_goals tactic=>exact rfl))
        ·rw[P0]; (sym=>(simp[aM,aN,aY,bN,bM,Za,Y7,YR,YY,YZ,Xa,Xn,Xs,Xt,Xu,Wv,W7,W8,WA,WB,WE,WF,WG,WI,WK,WL,WM,WN,WS,WT,WU,WY,WZ,VK,VL,VM,VT,VU,VV,VW,VX,VZ,Ue,Ur,Ux,Uy,Uz,U0,Tv,TA];all_goals tactic=>exact rfl))
        ·exact rdb
        ·rw[hPP]
         rcases stp with sp|⟨sp,sp2⟩
         ·rcases PP with _|⟨p,r⟩
          ·(sym=>(simp[aM,aN,aY,bN,bM,Za,Zb,Zf,Zh,Zl,Zm,Zp,Zs,Zv,Zy,Z3,Z7,ZE,ZF,ZV,ZZ,Ya,Yq,Wv,Ww,Wx,W6,VK,VN,VP,VQ,VV,VW,Uc,Ut,UV,UW,Ta,Ti,Tj,Tm,Tp,Tq,Tw,Tx,sp];all_goals tactic=>exact rfl))
          ·(sym=>(simp[aM,aN,aY,bN,bM,Za,Zb,Zf,Zh,Zl,Zm,Zp,Zs,Zv,Zy,Z3,Z7,ZE,ZF,ZV,ZZ,Ya,Yq,Wv,Ww,Wx,W6,VK,VN,VP,VQ,VV,VW,Uc,Ut,UV,UW,Ta,Ti,Tj,Tm,Tp,Tq,Tw,Tx,sp];all_goals tactic=>exact rfl))
         ·rcases PP with _|⟨p,r⟩
          ·(sym=>(simp[aM,aN,aY,bN,bM,Za,Zb,Zf,Zh,Zl,Zm,Zp,Zq,Zv,Zy,Z3,Z7,ZE,ZF,ZU,ZZ,Ya,Yq,Wv,Ww,Wx,W6,VK,VN,VP,VQ,VV,VW,Uc,Us,Ut,UV,UW,Ta,Ti,Tj,Tm,Tp,Tq,Tw,Tx,sp,sp2];all_goals tactic=>exact rfl))
          ·(sym=>(simp[aM,aN,aY,bN,bM,Za,Zb,Zf,Zh,Zl,Zm,Zp,Zq,Zv,Zy,Z3,Z7,ZE,ZF,ZU,ZZ,Ya,Yq,Wv,Ww,Wx,W6,VK,VN,VP,VQ,VV,VW,Uc,Us,Ut,UV,UW,Ta,Ti,Tj,Tm,Tp,Tq,Tw,Tx,sp,sp2];all_goals tactic=>exact rfl))
   ·rw[B0]; (sym=>(simp[aM,aN,aY,bN,bM,Za,Y7,YR,YZ,Xn,Xt,Wv,W7,W8,WA,WB,WE,WF,WG,WI,WK,WL,WM,WN,WS,WT,WY,VL,VM,VT,VU,VV,VW,VX,VZ,Ue,Ur,Ux,Uy,Uz,U0,Tv,TA];all_goals tactic=>exact rfl))
   ·exact rda
   ·rw[hBB]
    rcases stb with sb|⟨sb,sb2⟩
    ·rcases BB with _|⟨b,q⟩
     ·(sym=>(simp[aM,aN,aY,bN,bM,Za,Zb,Zf,Zh,Zl,Zm,Zp,Zs,Zv,Zy,Z3,Z7,ZE,ZF,ZV,ZZ,Ya,Yq,Wv,Ww,Wx,W6,VK,VN,VP,VQ,VX,Uc,Ut,UV,UW,Ta,Ti,Tj,Tm,Tp,Tq,Tw,Tx,sb];all_goals tactic=>exact rfl))
     ·(sym=>(simp[aM,aN,aY,bN,bM,Za,Zb,Zf,Zh,Zl,Zm,Zp,Zs,Zv,Zy,Z3,Z7,ZE,ZF,ZV,ZZ,Ya,Yq,Wv,Ww,Wx,W6,VK,VN,VP,VQ,VV,VW,Uc,Ut,UV,UW,Ta,Ti,Tj,Tm,Tp,Tq,Tw,Tx,sb];all_goals tactic=>exact rfl))
    ·rcases BB with _|⟨b,q⟩
     ·(sym=>(simp[aM,aN,aY,bN,bM,Za,Zb,Zf,Zh,Zl,Zm,Zp,Zq,Zv,Zy,Z3,Z7,ZE,ZF,ZU,ZZ,Ya,Yq,Wv,Ww,Wx,W6,VK,VN,VP,VQ,VX,Uc,Us,Ut,UV,UW,Ta,Ti,Tj,Tm,Tp,Tq,Tw,Tx,sb,sb2];all_goals tactic=>exact rfl))
     ·(sym=>(simp[aM,aN,aY,bN,bM,Za,Zb,Zf,Zh,Zl,Zm,Zp,Zq,Zv,Zy,Z3,Z7,ZE,ZF,ZU,ZZ,Ya,Yq,Wv,Ww,Wx,W6,VK,VN,VP,VQ,VV,VW,Uc,Us,Ut,UV,UW,Ta,Ti,Tj,Tm,Tp,Tq,Tw,Tx,sb,sb2];all_goals tactic=>exact rfl))
def hE (l:List Int) (n:Int) (i:Nat):Int:=if l.getD i 0=n then 1 else 0
theorem w37 {l:List Int} {n:Int} (hl:l.length<1000000000):runW aA 37 [nL l,I n] []=some (.bool (decide (n∈l)),[]):=by
 have z:=UU (n:=(l.length:Int))
 obtain⟨m,m1,m2,m3⟩:=dG (hE l n) l.length
 have rd:∀ i,i<m→aZ 0 [1,7,8,9] (execW aA 37 0 none (match aAl with | .loop _ a=>a|c=>c) (aU [1,7,8,9] [I n,nL l,I l.length,I (i:Nat)]) [])=some ([I n,nL l,I l.length,I (i+1:Nat)],[]):=by
  intro i hi
  obtain⟨v,hv⟩:=bY (l:=l) (i:=i) (by omega)
  have h0:=m2 i hi
  unfold hE at h0
  rw[bC hv]at h0
  have c1:(v=n)=False:=eq_false (by intro h;rw[if_pos h]at h0;simp at h0)
  have a1:=dM (fG hv)
  have a2:=fO (fG hv) (by omega)
  unfold aAl
  dsimp only
  (sym=>(simp[Za,Zb,Zf,Zh,Zl,Zm,Zv,Z3,Z9,ZF,Ye,Yf,Yh,Yo,Yq,Yu,Yv,YR,YX,Xn,Xr,W6,WE,WI,WJ,WL,WM,VK,VL,VM,VN,VO,VP,VT,VU,VX,VZ,Ua,Ub,Uc,Ud,Ue,Un,Us,Ut,Uw,Ux,Uy,Uz,U0,UX,UY,Ta,Ti,Tj,Tl,Tn,Tp,Ts,Tv,Tw,Tx,a1,a2,hv,c1];all_goals tactic=>exact rfl))
 rcases m3 with ⟨rfl,m4⟩|⟨m3,m4,m5⟩
 ·have hn:¬n∈l:=by
   intro h
   obtain⟨j,hj⟩:=List.getElem?_of_mem h
   have h0:=m2 j (fG hj)
   unfold hE at h0
   rw[bC hj,if_pos rfl]at h0
   simp at h0
  rw[decide_eq_false hn]
  rw[r37 (by simp)];unfold x37;dsimp only
  sym =>
   simp[Za,Zb,Zf,Zh,Zl,Zm,Zv,ZE,Ya,Wa,We,W5,VI,VS,Ub,Uc,U7,U8,Tj,Tn,Tp,Tw,Tx]
   tactic =>
    unfold aAl
    rw[aF l.length (fun i=>[I n,nL l,I l.length,I (i:Nat)]) (fun _=>[])]
    ·(sym=>(simp[Za,Zb,Zf,Zh,Zl,Zm,Zv,Z3,Yq,YT,Xo,Xz,Wb,WE,WI,WJ,WL,WM,Vp,V3,V4,V6,V7,V8,V9,VA,VD,VE,VF,VG,VK,VN,VP,VU,VX,VZ,Ut,Uw,Ux,Uy,UU,Ti,Tj,Tk,Tm,Tp,Tq,Tu,Tw,Tx,Sf,z];all_goals tactic=>exact rfl))
    ·(sym=>(simp[Za,Y7,YR,YX,Xn,Xr,W5,WE,WI,WJ,WL,WM,VI,VL,VM,VT,VU,VX,VZ,Uw,Ux,Uy,Uz,U0,Tv];all_goals tactic=>exact rfl))
    ·exact rd
    ·(sym=>(simp[Za,Zb,Zf,Zh,Zl,Zm,Z3,Yq,VK,VN,VP,VQ,Ut,UU,Ti,Tj,Tm,Tp,Tq,Tw,z];all_goals tactic=>exact rfl))
 ·obtain⟨v,hv⟩:=bY m3
  unfold hE at m4
  rw[bC hv]at m4
  have hn:v=n:=by
   by_cases h:v=n
   ·exact h
   ·rw[if_neg h]at m4;simp at m4
  subst hn
  have a1:=dM m3
  rw[decide_eq_true (List.mem_of_getElem? hv)]
  rw[r37 (by simp)];unfold x37;dsimp only
  sym =>
   simp[Za,Zb,Zf,Zh,Zl,Zm,Zv,ZE,Ya,Wa,We,W5,VI,VS,Ub,Uc,U7,U8,Tj,Tn,Tp,Tw,Tx]
   tactic =>
    unfold aAl
    rw[aF m (fun i=>[I v,nL l,I l.length,I (i:Nat)]) (fun _=>[])]
    ·(sym=>(simp[Za,Zb,Zf,Zh,Zl,Zm,Zv,Z3,Z9,ZF,Ye,Yf,Yo,Yq,Yu,Yv,YT,Xo,Xz,Wb,W6,WE,WI,WJ,WL,WM,Vp,V3,V4,V6,V7,V8,V9,VA,VD,VE,VF,VG,VK,VN,VO,VU,VX,VZ,Ua,Ub,Uc,Ud,Ue,Un,Us,Uw,Ux,Uy,UX,UY,Ta,Ti,Tj,Tk,Tl,Tn,Tp,Tr,Tt,Tw,Tx,Sf,a1,hv];all_goals tactic=>exact rfl))
    ·(sym=>(simp[Za,Y7,YR,YX,Xn,Xr,W5,WE,WI,WJ,WL,WM,VI,VL,VM,VT,VU,VX,VZ,Uw,Ux,Uy,Uz,U0,Tv];all_goals tactic=>exact rfl))
    ·exact rd
    ·(sym=>(simp[Za,Zb,Zf,Zh,Zl,Zm,Zv,Z3,Z9,ZF,Ye,Yf,Yo,Yq,Yu,Yv,W6,VK,VN,VO,VR,Ua,Ub,Uc,Ud,Ue,Un,Us,UX,UY,Ta,Ti,Tj,Tk,Tl,Tn,Tp,Tr,Tt,Tw,Tx,a1,hv];all_goals tactic=>exact rfl))
section
variable {x:Vn} (ok:x.Ok) {s:Nat} (hs:s<65536)
end
def rs (w:Nat→Nat) (t j:Nat):Nat→Nat:=fun f=>if f<j then w f+(if t.testBit f then 1 else 0) else w f
section
variable {x:Vn} (ok:x.Ok)
end
section
variable {x:Vn} (ok:x.Ok) {a c:Nat}
include ok in
end
structure aLm (x:Vn) (u:Nat) (ks:List Nat):Prop where
 lt:∀ k∈ks,k<x.F
 len:ks.length≤16
 ne:ks≠[]
 leads:kB x ks=true
 free:∀ (j k:Nat),ks[j]?=some k→u.testBit k=true→x.fix.testBit k=true
section
variable {x:Vn} (ok:x.Ok) {ws:List (List Int)} {ks:List Nat} {i:Nat} {U:Nat→Nat}
end
section
variable {x:Vn} (ok:x.Ok) {ws:List (List Int)} (hF:∀ (i:Nat) (w:List Int),ws[i]?=some w→∃ ks,w=cK ks∧aLm x (usN ws i) ks) (hl:ws.length≤16)
end
theorem aLa {a i j u v:Nat} (hi:(el a)[i]?=some u) (hj:(el a)[j]?=some v) (h:i<j):u<v:=by
 have hp:(el a).Pairwise (· < ·):=List.Pairwise.filter _ List.pairwise_lt_range
 rw[List.pairwise_iff_getElem]at hp
 obtain⟨h1,e1⟩:=List.getElem?_eq_some_iff.1 hi
 obtain⟨h2,e2⟩:=List.getElem?_eq_some_iff.1 hj
 have:=hp i j h1 h2 h
 rw[e1,e2]at this
 exact this
theorem aEO (ks:List Nat) (i:Nat):iK (cK ks) i=dQ ks i:=by
 unfold iK dQ cK
 rw[←List.map_take,List.foldl_map]
 rfl
theorem aHg {a:Nat} (ha:a<65536):dQ (el a) (el a).length=a:=by
 apply Nat.eq_of_testBit_eq
 intro i
 rw[Bool.eq_iff_iff,uR,eQ]
 exact⟨fun h=>h.2,fun h=>⟨gQ ha h,h⟩⟩
theorem aDj {x:Vn} (ok:x.Ok) {a:Nat} (ha:a<2^x.F) (hf:∀ i,a.testBit i=true→x.fix.testBit i=false):zZ x (cK (el a))=0∧iK (cK (el a)) (cK (el a)).length=a:=by
 have hp:=aW ok.F16
 refine⟨fK _ fun i hi=>?_,by rw[aEO,bT];exact aHg (by omega)⟩
 rw[bT]at hi
 obtain⟨k,hk⟩:=bY hi
 have hm:=eQ.1 (List.mem_of_getElem? hk)
 have hkF:=eE ha hm.2
 unfold tM
 rw[bC (gA hk)]
 have h1:btw 0 (k:Int) ((x.F:Int)-1)=true:=kZ.2 ⟨by omega,by omega⟩
 rw[h1,if_pos rfl]
 have h2:¬(k:Int)≤zM (cK (el a)) i:=by
  cases i with
  | zero=>show ¬(k:Int) ≤ -1;omega
  | succ i =>
    obtain⟨p,hp'⟩:=bY (l:=el a) (i:=i) (by omega)
    rw[zM,bC (gA hp')]
    have:=aLa hp' hk (by omega)
    omega
 rw[if_neg h2,Int.toNat_natCast,hf k hm.2]
 rfl
theorem aED {x:Vn} (ok:x.Ok) {a:Nat} (ha:a<2^x.F) (hf:∀ i,a.testBit i=true→x.fix.testBit i=false) :
 runW aA 27 [.agg x.c,nL (cK (el a))] []=some (I (if iQ (dC x) x.sick x.nur a then 0 else 11),[]):=by
 obtain⟨h1,h2⟩:=aDj ok ha hf
 have h:=aLH ok (wA a) ok.h23
 unfold stE at h
 rw[if_pos h1,h2]at h
 exact h
section
variable {x:Vn} (ok:x.Ok) {c:Nat} (hc:isCut x c)
end
section
variable {x:Vn} (ok:x.Ok) {n:Nat} (hn:Lea x 0 n)
end
section
variable (x:Vn)
variable {x}
end
theorem vU {α:Type} {P:Nat→Prop} {f:Nat→α→Nat}:∀ (l:List α) (o:Nat),(∀ y∈l,∀ o,P o→P (f o y))→P o→P (l.foldl f o)
 | [],_,_,h=>h
 | y::l,o,hf,h=>vU l (f o y) (fun z hz=>hf z (List.mem_cons_of_mem _ hz)) (hf y List.mem_cons_self o h)
theorem aKB {x:Vn} {b:Nat×Nat} (h:b∈x.bs):(dC x b.1).testBit b.2=true∧(dC x b.2).testBit b.1=true:=by
 rw[yX,yX]
 have h1:(x.bs.any fun c=>bMt c b.1 b.2)=true:=List.any_eq_true.2 ⟨b,h,by simp[bMt]⟩
 have h2:(x.bs.any fun c=>bMt c b.2 b.1)=true:=List.any_eq_true.2 ⟨b,h,by simp[bMt]⟩
 rw[h1,h2]
 exact⟨rfl,rfl⟩
theorem aLK {x:Vn} {p:Nat×Nat×Nat} (h:p∈x.ps):(dC x p.2.1).testBit p.2.2=true:=by
 rw[yX]
 have h1:(x.ps.any fun c=>pMt c p.2.1 p.2.2)=true:=List.any_eq_true.2 ⟨p,h,by simp[pMt]⟩
 rw[h1,Bool.or_true]
theorem zP {s k i:Nat} {c:Bool} (h:(orB s c k).testBit i=true):s.testBit i=true∨(c=true∧i=k):=by
 unfold orB at h
 split at h
 ·next hc =>
  rw[dX,Bool.or_eq_true,decide_eq_true_eq]at h
  rcases h with h|h
  ·exact .inl h
  ·exact .inr ⟨hc,h.symm⟩
 ·exact .inl h
theorem aCW {x:Vn} {cl:Nat} (hcl:cl<65536):∀ n f,(bG x cl n).testBit f=true→Rch (dC x) x.sick cl f
 | 0,f,h=>by
   rw[bG,bS (by omega)]at h
   simp only[Bool.and_eq_true,Bool.not_eq_true']at h
   exact .base h.1 h.2.2
 | n+1,f,h=>by
   have ih:=aCW (x:=x) hcl n
   have hb:∀ i,(bor x (bG x cl n)).testBit i=true→cl.testBit i=true∨Rch (dC x) x.sick cl i:=by
    unfold bor
    refine vU (P:=fun o=>∀ i,o.testBit i=true→cl.testBit i=true∨Rch (dC x) x.sick cl i) _ _ (fun b hb o ho i hi=>?_) (fun i hi=>.inr (ih i hi))
    unfold brd at hi
    have key:∀ a c,(bG x cl n).testBit a=true→(dC x a).testBit c=true→cl.testBit c=true∨Rch (dC x) x.sick cl c:=fun a c h1 h2=>by
     cases hc:cl.testBit c
     ·exact .inr (.step (ih a h1) h2 hc)
     ·exact .inl rfl
    rcases zP hi with hi|⟨h1,rfl⟩
    ·rcases zP hi with hi|⟨h1,rfl⟩
     ·exact ho i hi
     ·exact key _ _ h1 (aKB hb).1
    ·exact key _ _ h1 (aKB hb).2
   have main:∀ i,(aDF x (bG x cl n) cl (n:Int)).testBit i=true→Rch (dC x) x.sick cl i:=by
    unfold aDF
    refine vU (P:=fun o=>∀ i,o.testBit i=true→Rch (dC x) x.sick cl i) _ _ (fun p hp o ho i hi=>?_) (fun i hi=>?_)
    ·unfold plt at hi
     rcases zP hi with hi|⟨h1,rfl⟩
     ·exact ho i hi
     ·simp only[Bool.and_eq_true,Bool.not_eq_true']at h1
      exact .step (ho _ h1.2.1) (aLK hp) h1.2.2
    ·rw[bS (by omega)]at hi
     simp only[Bool.and_eq_true,Bool.not_eq_true']at hi
     rcases hb i hi.1 with h|h
     ·rw[hi.2.2]at h;simp at h
     ·exact h
   exact main f h
theorem aIu {a i:Nat} (ha:a<256) (hi:i<8):bW .and .u8 ((a:Int).fdiv (2^min i IntKind.u8.bits)) 1=if a.testBit i then 1 else 0:=by
 have hs:(a:Int).fdiv (2^min i IntKind.u8.bits)=((a>>>i:Nat):Int):=by
  rw[show IntKind.u8.bits=8 from rfl,Nat.min_eq_left (by omega),show (2:Int)^i=((2^i:Nat):Int) by norm_cast,Int.fdiv_eq_ediv_of_nonneg _ (Int.natCast_nonneg _),Nat.shiftRight_eq_div_pow]
  exact(Int.natCast_ediv a (2^i)).symm
 have hle:a>>>i≤a:=Nat.shiftRight_le a i
 rw[hs]
 have h1:bW .and .u8 ((a>>>i:Nat):Int) 1=(((a>>>i)&&&1:Nat):Int):=by
  unfold bW
  dsimp only
  rw[show (1:Int)=((1:Nat):Int) from rfl,dR,dR,show IntKind.u8.bits=8 from rfl,BitVec.toNat_and,BitVec.toNat_ofNat,BitVec.toNat_ofNat,Nat.mod_eq_of_lt (by omega),Nat.mod_eq_of_lt (by omega)]
  have:(a>>>i)&&&1≤1:=Nat.and_le_right
  rcases (by omega:(a>>>i)&&&1=0∨(a>>>i)&&&1=1)with h|h<;>rw[h]<;>rfl
 rw[h1]
 unfold Nat.testBit
 rw[Nat.and_comm,Nat.one_and_eq_mod_two]
 by_cases hb:(a>>>i)%2=0
 ·simp[hb]
 ·have:(a>>>i)%2=1:=by omega
  simp[this]
def ownA (x:Vn) (s:Nat):Nat:=jQ s x.fix%2^x.F
theorem zO (x:Vn) (s:Nat):ownA x s<2^x.F:=Nat.mod_lt _ (Nat.two_pow_pos _)
theorem aAI {x:Vn} (ok:x.Ok) {s f:Nat} (hf:f<x.F):(ownA x s).testBit f=(s.testBit f && !x.fix.testBit f):=by
 have hF:=ok.F16
 have hp:=aW hF
 have hfx:=ok.f
 unfold ownA
 rw[Nat.testBit_mod_two_pow,bS (by omega),decide_eq_true hf,decide_eq_true (show f<64 by omega),Bool.true_and,Bool.true_and]
theorem aDP {x:Vn} (ok:x.Ok) {s i:Nat} (h:(ownA x s).testBit i=true):x.fix.testBit i=false:=by
 have hi:=eE (zO x s) h
 rw[aAI ok hi,Bool.and_eq_true]at h
 simpa using h.2
section
variable {x:Vn} (ok:x.Ok) (hF8:x.F≤8) {s ss:Nat} (hs:s<256)
include ok hF8 hs in
theorem aFq {f:Nat} (hf:f<x.F) :
 aZ 0 [1,2,7,8,9] (execW aA 11 0 none (match pN with | .loop _ a=>a|c=>c) (aU [1,2,7,8,9] [B8 s,B8 ss,.pt 0 0,oS 1 (cK (lR (ownA x s) f)),I (f:Nat)]) (gO x (cK (lR (ownA x s) f)))) =
  some ([B8 s,B8 ss,.pt 0 0,oS 1 (cK (lR (ownA x s) (f+1))),I (f+1:Nat)],gO x (cK (lR (ownA x s) (f+1)))):=by
 have hp:=aW ok.F16
 have hfx:=ok.f
 have a1:((f:Int)<(x.F:Int))=True:=eq_true (by omega)
 have a2:=fO hf (by omega)
 have n0:((f:Int)<0)=False:=eq_false (by omega)
 have e1:=aIu (a:=s) (i:=f) hs (by omega)
 have e2:=aCn cV (a:=x.fix) (i:=f) (by omega) (by omega)
 have hb:=aAI ok (s:=s) hf
 have hl:=aDf (ownA x s) f
 have hl2:=bT (lR (ownA x s) f)
 rw[aCa]
 cases h1:s.testBit f
 ·rw[h1]at e1 hb
  simp only[Bool.false_eq_true,if_false,Bool.false_and]at e1 hb
  rw[hb,if_neg (by simp)]
  generalize cK (lR (ownA x s) f)=os at *
  unfold pN
  dsimp only
  cases os with
  | nil=>(sym=>(simp[aM,aN,aY,Za,Zb,Zf,Zh,Zl,Zm,Zp,Zs,Zv,Zy,Z3,Z7,ZF,ZV,ZZ,Yh,Yk,Yn,Yo,Yq,Yv,YR,YZ,Xa,Xn,Xt,Xu,Wv,Ww,Wx,W6,W7,WA,WB,WE,WF,WG,WI,WK,WL,WM,WN,WS,WT,WY,VK,VL,VM,VN,VO,VP,VT,VU,VW,VX,VZ,Ue,Ur,Us,Ut,Ux,Uy,Uz,U0,UV,UW,Ta,Ti,Tj,Tl,Tn,Tp,Ts,Tv,Tw,Tx,TA,TK,a1,a2,n0,e1];all_goals tactic=>exact rfl))
  | cons y r=>(sym=>(simp[aM,aN,aY,Za,Zb,Zf,Zh,Zl,Zm,Zp,Zs,Zv,Zy,Z3,Z7,ZF,ZV,ZZ,Yh,Yk,Yn,Yo,Yq,Yv,YR,YY,YZ,Xn,Xs,Xt,Wv,Ww,Wx,W6,W7,W8,WA,WB,WE,WF,WG,WI,WK,WL,WM,WN,WS,WT,WY,VK,VL,VM,VN,VO,VP,VT,VU,VV,VW,VX,VZ,Ue,Ur,Us,Ut,Ux,Uy,Uz,U0,UV,UW,Ta,Ti,Tj,Tl,Tn,Tp,Ts,Tv,Tw,Tx,TA,TL,a1,a2,n0,e1];all_goals tactic=>exact rfl))
 ·rw[h1]at e1 hb
  simp only[if_true,Bool.true_and]at e1 hb
  cases h2:x.fix.testBit f
  ·rw[h2]at e2 hb
   simp only[Bool.false_eq_true,if_false,Bool.not_false]at e2 hb
   rw[hb,if_pos rfl]
   rw[show cK (lR (ownA x s) f++[f])=cK (lR (ownA x s) f)++[(f:Int)] by simp[cK]]
   generalize cK (lR (ownA x s) f)=os at *
   unfold pN
   dsimp only
   cases os with
   | nil=>(sym=>(simp[aM,aN,aY,Za,Zb,Zd,Ze,Zf,Zh,Zl,Zm,Zo,Zp,Zq,Zv,Zy,Z1,Z3,Z7,ZF,ZR,ZU,ZZ,Yh,Yk,Yn,Yo,Yq,Yv,YR,YY,YZ,Xe,Xn,Xs,Xt,Wm,Wv,Ww,Wx,Wz,W0,W3,W4,W6,W7,W8,WA,WB,WE,WF,WG,WI,WK,WL,WM,WN,WS,WT,WY,VK,VL,VM,VN,VO,VT,VU,VV,VW,VX,VZ,Ua,Ub,Ue,Ug,Un,Ur,Us,Uu,Uv,Ux,Uy,Uz,U0,U1,U2,U9,UA,UB,UC,UK,UL,UM,UN,UO,UP,UQ,UR,UV,UW,Ta,Td,Tf,Tg,Th,Ti,Tj,Tl,Tn,Tp,Ts,Tv,Tw,Tx,TA,TF,TK,TL,a1,a2,n0,e1,e2];all_goals tactic=>exact rfl))
   | cons y r =>
     have b1:((r.length+1+1)*8≤1099511627776)=True:=eq_true (by simp at hl2;omega)
     have b2:(r.length+1+1≤1099511627776)=True:=eq_true (by simp at hl2;omega)
     (sym=>(simp[aM,aN,aY,Za,Zb,Zd,Ze,Zf,Zh,Zl,Zm,Zo,Zp,Zq,Zv,Zy,Z1,Z3,Z7,ZF,ZR,ZU,ZZ,Yh,Yk,Yn,Yo,Yq,Yv,YR,YY,YZ,Xe,Xn,Xs,Xt,Wm,Wv,Ww,Wx,Wy,Wz,W0,W3,W4,W6,W7,W8,WA,WB,WE,WF,WG,WI,WK,WL,WM,WN,WS,WT,WY,VK,VL,VM,VN,VO,VT,VU,VV,VW,VX,VZ,Ua,Ub,Uc,Ue,Ug,Un,Ur,Us,Uu,Uv,Ux,Uy,Uz,U0,U1,U2,U9,UA,UB,UC,UK,UL,UM,UN,UO,UP,UQ,US,UT,UV,UW,Ta,Td,Te,Tf,Tg,Ti,Tj,Tl,Tn,Tp,Ts,Tv,Tw,Tx,T6,T7,T8,TA,TF,TL,a1,a2,n0,e1,e2,b1,b2];all_goals tactic=>exact rfl))
  ·rw[h2]at e2 hb
   simp only[if_true,Bool.not_true]at e2 hb
   rw[hb,if_neg (by simp)]
   generalize cK (lR (ownA x s) f)=os at *
   unfold pN
   dsimp only
   cases os with
   | nil=>(sym=>(simp[aM,aN,aY,Za,Zb,Zf,Zh,Zl,Zm,Zp,Zq,Zv,Zy,Z3,Z7,ZF,ZU,ZZ,Yh,Yk,Yn,Yo,Yq,Yv,YR,YZ,Xa,Xn,Xt,Xu,Wv,Ww,Wx,W6,W7,WA,WB,WE,WF,WG,WI,WK,WL,WM,WN,WS,WT,WY,VK,VL,VM,VN,VO,VP,VT,VU,VW,VX,VZ,Ue,Ur,Us,Ut,Ux,Uy,Uz,U0,UV,UW,Ta,Ti,Tj,Tl,Tn,Tp,Ts,Tv,Tw,Tx,TA,TK,a1,a2,n0,e1,e2];all_goals tactic=>exact rfl))
   | cons y r=>(sym=>(simp[aM,aN,aY,Za,Zb,Zf,Zh,Zl,Zm,Zp,Zq,Zv,Zy,Z3,Z7,ZF,ZU,ZZ,Yh,Yk,Yn,Yo,Yq,Yv,YR,YY,YZ,Xn,Xs,Xt,Wv,Ww,Wx,W6,W7,W8,WA,WB,WE,WF,WG,WI,WK,WL,WM,WN,WS,WT,WY,VK,VL,VM,VN,VO,VP,VT,VU,VV,VW,VX,VZ,Ue,Ur,Us,Ut,Ux,Uy,Uz,U0,UV,UW,Ta,Ti,Tj,Tl,Tn,Tp,Ts,Tv,Tw,Tx,TA,TL,a1,a2,n0,e1,e2];all_goals tactic=>exact rfl))
def cC (CS:List Nat):List AV:=CS.map fun a=>nL (cK (el a))
theorem aIN (CS:List Nat):eT (cC CS)=true:=by
 unfold cC
 induction CS with
 | nil=>rfl
 | cons a l ih=>simp only[List.map_cons,eT,ih];rfl
abbrev gH (x:Vn) (CS:List Nat):XH:=[some (.blk true (.cells true x.c)),some (.blk true (.cells true (cC CS)))]
abbrev s11 (ss n i:Nat):List AV:=[B8 ss,.pt 0 0,.sl 1 0 1 n,I (n:Nat),I (i:Nat)]
abbrev aHj (ss n i a q:Nat) (st:Bool) (j:Nat):List AV:=[B8 ss,.pt 0 0,nL (cK (el a)),.bool st,.sl 1 0 1 n,I (n:Nat),I (i:Nat),nL (cK (el q)),I (el q).length,I (j:Nat)]
theorem aGI (CS:List Nat):(cC CS).length=CS.length:=List.length_map ..
theorem aLj {CS:List Nat} {i a:Nat} (h:CS[i]?=some a):(cC CS)[i]?=some (nL (cK (el a))):=by unfold cC;rw[List.getElem?_map,h];rfl
include ok in
theorem aFp {CS:List Nat} {n i a m:Nat} {st:Bool} (ha:a<2^x.F) (hst:st=iQ (dC x) x.sick x.nur a) {j:Nat} (hj:j<(el (bG x a m)).length) :
 aZ 0 [2,7,14,17,58,59,60,79,80,81] (execW aA 11 0 none (match aAm with | .loop _ a=>a|c=>c) (aU [2,7,14,17,58,59,60,79,80,81] (aHj ss n i a (bG x a m) st j)) (gH x CS))=some (aHj ss n i a (bG x a m) st (j+1),gH x CS):=by
 have hp:=aW ok.F16
 have hn:=ok.n
 have hF:=ok.F16
 have hlen:=rZ (bG x a m)
 obtain⟨k,hk⟩:=bY hj
 have hm:=eQ.1 (List.mem_of_getElem? hk)
 have hr:=aCW (x:=x) (cl:=a) (by omega) m k hm.2
 have hkF:=hr.lt ok.s (fC ok _)
 have hka:=hr.free
 have gl:=bT (el (bG x a m))
 have gk:=gA hk
 have a1:=dM hj
 have a2:=fO hj (by omega)
 have n0:((k:Int)<0)=False:=eq_false (by omega)
 have m1:((x.F:Int)≤(k:Int))=False:=eq_false (by omega)
 have e37:=w37 (l:=cK (el a)) (n:=(k:Int)) (wA a)
 have hmem:¬((k:Int)∈cK (el a)):=by
  unfold cK
  rw[List.mem_map]
  rintro ⟨k',h1,h2⟩
  have:k'=k:=by omega
  subst this
  have:=(eQ.1 h1).2
  rw[hka]at this;simp at this
 rw[decide_eq_false hmem]at e37
 have cl:=aGI CS
 have cg:=aIN CS
 have eb:=aCn cV (a:=x.nur) (i:=k) (by omega) (by omega)
 have hstop:st=true→x.nur.testBit k=false:=fun h=>by
  rw[hst]at h
  exact(oK ok (by omega)).1 h k hr
 generalize bG x a m=q at *
 unfold aAm
 dsimp only
 cases st
 ·(sym=>(simp[aM,aN,aY,Za,Zb,Zf,Zg,Zh,Zj,Zl,Zm,Zp,Zr,Zs,Zv,Zy,Z3,Z7,Z9,ZF,ZN,ZO,ZS,ZT,ZV,ZZ,Ye,Yf,Yh,Yq,Yt,Yu,Yv,YR,YT,YX,YY,YZ,Xn,Xo,Xr,Xs,Xt,XJ,We,Wv,Ww,Wx,W4,W6,W7,W8,WA,WB,WE,WF,WG,WH,WI,WJ,WK,WL,WM,WN,WO,WP,WS,WT,WY,Vc,Vd,Ve,Vp,Vr,Vs,Vt,VK,VL,VM,VN,VO,VP,VT,VU,VV,VW,VX,VZ,Ua,Ub,Uc,Ud,Ue,Un,Ur,Us,Ut,Uw,Ux,Uy,Uz,U0,UV,UW,UX,UY,Ta,Ti,Tj,Tl,Tn,Tp,Ts,Tv,Tw,Tx,TA,Sf,Sx,Sy,S2,S3,S4,S5,a1,a2,gl,gk,n0,m1,e37,cg];all_goals tactic=>exact rfl))
 ·rw[hstop rfl]at eb
  simp only[Bool.false_eq_true,if_false]at eb
  (sym=>(simp[aM,aN,aY,Za,Zb,Zf,Zg,Zh,Zj,Zl,Zm,Zp,Zq,Zr,Zv,Zy,Z3,Z7,Z9,ZF,ZN,ZO,ZS,ZT,ZU,ZV,ZZ,Ye,Yf,Yh,Yk,Yn,Yo,Yq,Yt,Yu,Yv,YR,YT,YX,YY,YZ,Xn,Xo,Xr,Xs,Xt,XJ,We,Wv,Ww,Wx,W4,W6,W7,W8,WA,WB,WE,WF,WG,WH,WI,WJ,WK,WL,WM,WN,WO,WP,WS,WT,WY,Vc,Vd,Ve,Vp,Vr,Vs,Vt,VK,VL,VM,VN,VO,VP,VT,VU,VV,VW,VX,VZ,Ua,Ub,Uc,Ud,Ue,Un,Ur,Us,Ut,Uw,Ux,Uy,Uz,U0,UV,UW,UX,UY,Ta,Ti,Tj,Tl,Tn,Tp,Ts,Tv,Tw,Tx,TA,Sf,Sx,Sy,S2,S3,S4,S5,a1,a2,gl,gk,n0,m1,e37,eb,cg];all_goals tactic=>exact rfl))
include ok in
theorem aAB {CS:List Nat} (hss:ss<256) (hC:∀ a∈CS,a<2^x.F∧∀ i,a.testBit i=true→x.fix.testBit i=false) (hn:CS.length≤2) {i:Nat} (hi:i<CS.length) :
 aZ 0 [2,7,58,59,60] (execW aA 11 0 none (match sP with | .loop _ a=>a|c=>c) (aU [2,7,58,59,60] (s11 ss CS.length i)) (gH x CS))=some (s11 ss CS.length (i+1),gH x CS):=by
 have hp:=aW ok.F16
 obtain⟨a,ha⟩:=bY hi
 obtain⟨h1,h2⟩:=hC a (List.mem_of_getElem? ha)
 obtain⟨h3,h4⟩:=aDj ok h1 h2
 have m1:=wr8 hss
 have q1:jR (ss:Int) 101=((ss%101:Nat):Int):=bD ss 101
 have e25:=aLI ok (wA a) ok.h23 h3 (n:=ss%101) (by omega)
 rw[h4]at e25
 have e27:=aED ok h1 h2
 have a1:=dM hi
 have a2:=fO hi (by omega)
 have ca:=aLj ha
 have cl:=aGI CS
 have cg:=aIN CS
 have rd:=fun st (hst:st=iQ (dC x) x.sick x.nur a) j (hj:j<(el (bG x a (ss%101))).length)=>aFp ok (ss:=ss) (CS:=CS) (n:=CS.length) (i:=i) h1 hst hj
 have gl:=bT (el (bG x a (ss%101)))
 have z:=UU (n:=((el (bG x a (ss%101))).length:Int))
 generalize bG x a (ss%101)=q at *
 generalize ss%101=mm at *
 cases hst:iQ (dC x) x.sick x.nur a
 ·rw[hst]at e27
  simp only[Bool.false_eq_true,if_false]at e27
  have rd:=rd false hst.symm
  unfold sP
  dsimp only
  sym =>
   simp[aM,aN,aY,Za,Zb,Zf,Zg,Zh,Zj,Zl,Zm,Zv,Z3,Z6,Z9,ZD,ZE,ZF,ZN,ZO,ZS,ZT,ZY,Ya,Yc,Yg,Yo,Yp,Yq,Yu,Yv,YR,YU,YX,Xn,Xp,Xq,Xr,XJ,We,Wv,Ww,Wx,Wz,W0,W3,W4,W6,WE,WH,WJ,WO,WP,Vc,Vd,Ve,Vp,Vr,Vs,Vt,Vu,Vv,Vx,VK,VN,VO,VP,VT,VU,VW,VX,Ua,Ub,Uc,Uj,Un,Us,Ut,Uw,Ux,Uy,Uz,U0,UV,UW,UZ,Ta,Ti,Tj,Tl,Tn,Tp,Tw,Tx,T8,T9,Sf,Sx,Sy,Sz,S2,S3,S4,S5,a1,ca,cl,cg,m1,q1,e25,e27,gl]
   tactic =>
    unfold aAm
    rw[aF (el q).length (fun j=>aHj ss CS.length i a q false j) (fun _=>gH x CS)]
    ·(sym=>(simp[aM,aN,aY,Za,Zb,Zf,Zh,Zl,Zm,Zv,Z3,Yh,Yq,YR,YY,YZ,Xn,Xs,Xt,Wv,W7,W8,WA,WB,WE,WF,WG,WI,WK,WL,WM,WN,WS,WT,WY,VK,VL,VM,VN,VP,VT,VU,VV,VW,VX,VZ,Ue,Ur,Ut,Ux,Uy,Uz,U0,UU,Ti,Tj,Tm,Tp,Tq,Ts,Tu,Tv,Tw,Tx,TA,z,a2,cg];all_goals tactic=>exact rfl))
    ·(sym=>(simp[aM,aN,aY,Za,Y7,YR,YT,YX,YY,YZ,Xn,Xo,Xr,Xs,Xt,We,Wv,W7,W8,WA,WB,WE,WF,WG,WI,WK,WL,WM,WN,WS,WT,WY,VK,VL,VM,VT,VU,VV,VW,VX,VZ,Ue,Ur,Ux,Uy,Uz,U0,Tv,TA,Sy,S2,gl,cg];all_goals tactic=>exact rfl))
    ·exact rd
    ·(sym=>(simp[aM,aN,aY,Za,Zb,Zf,Zh,Zl,Zm,Z3,Yq,VK,VN,VP,VQ,Ut,UU,Ti,Tj,Tm,Tp,Tq,Tw,z,a2,cg];all_goals tactic=>exact rfl))
 ·rw[hst]at e27
  simp only[if_true]at e27
  have rd:=rd true hst.symm
  unfold sP
  dsimp only
  sym =>
   simp[aM,aN,aY,Za,Zb,Zf,Zg,Zh,Zj,Zl,Zm,Zv,Z3,Z6,Z9,ZD,ZE,ZF,ZN,ZO,ZS,ZT,ZY,Ya,Yc,Yg,Yo,Yp,Yq,Yu,Yv,YR,YU,YX,Xn,Xp,Xq,Xr,XJ,We,Wv,Ww,Wx,Wz,W0,W3,W4,W6,WE,WH,WJ,WO,WP,Vc,Vd,Ve,Vp,Vr,Vs,Vt,Vu,Vv,Vx,VK,VN,VO,VP,VT,VU,VW,VX,Ua,Ub,Uc,Uj,Un,Us,Ut,Uw,Ux,Uy,Uz,U0,UV,UW,UZ,Ta,Ti,Tj,Tl,Tn,Tp,Tw,Tx,T8,T9,Sf,Sx,Sy,Sz,S2,S3,S4,S5,a1,ca,cl,cg,m1,q1,e25,e27,gl]
   tactic =>
    unfold aAm
    rw[aF (el q).length (fun j=>aHj ss CS.length i a q true j) (fun _=>gH x CS)]
    ·(sym=>(simp[aM,aN,aY,Za,Zb,Zf,Zh,Zl,Zm,Zv,Z3,Yh,Yq,YR,YY,YZ,Xn,Xs,Xt,Wv,W7,W8,WA,WB,WE,WF,WG,WI,WK,WL,WM,WN,WS,WT,WY,VK,VL,VM,VN,VP,VT,VU,VV,VW,VX,VZ,Ue,Ur,Ut,Ux,Uy,Uz,U0,UU,Ti,Tj,Tm,Tp,Tq,Ts,Tu,Tv,Tw,Tx,TA,z,a2,cg];all_goals tactic=>exact rfl))
    ·(sym=>(simp[aM,aN,aY,Za,Y7,YR,YT,YX,YY,YZ,Xn,Xo,Xr,Xs,Xt,We,Wv,W7,W8,WA,WB,WE,WF,WG,WI,WK,WL,WM,WN,WS,WT,WY,VK,VL,VM,VT,VU,VV,VW,VX,VZ,Ue,Ur,Ux,Uy,Uz,U0,Tv,TA,Sy,S2,gl,cg];all_goals tactic=>exact rfl))
    ·exact rd
    ·(sym=>(simp[aM,aN,aY,Za,Zb,Zf,Zh,Zl,Zm,Z3,Yq,VK,VN,VP,VQ,Ut,UU,Ti,Tj,Tm,Tp,Tq,Tw,z,a2,cg];all_goals tactic=>exact rfl))
end
theorem w11 {l:La} (hl:l.Ok) {s ss:Nat} (hs:s<256) (hss:ss<256):runW aA 11 [.agg l.c,B8 s,B8 ss] []=some (.bool true,[]):=by
 have e36:=w36 hl
 have ok:=l.md_ok
 have hF8:l.md.F≤8:=l.k_lt.2
 generalize l.md=x at *
 have hF:=ok.F16
 have zF:=UU (n:=(x.F:Int))
 have kF:=aGo (zO x s) hF
 have k0:cK (lR (ownA x s) 0)=[]:=rfl
 have rda:=fun f (hf:f<x.F)=>aFq ok hF8 (ss:=ss) hs hf
 have hA:ownA x s<2^x.F∧∀ i,(ownA x s).testBit i=true→x.fix.testBit i=false:=⟨zO x s,fun i h=>aDP ok h⟩
 cases hh:nX x
 ·have g29:=aLG ok ok.h23 hh
  have rdc:=fun i (hi:i<[ownA x s].length)=>aAB ok (ss:=ss) (CS:=[ownA x s]) hss (fun a ha=>by rw[List.mem_singleton]at ha;rw[ha];exact hA) (by simp) hi
  have cl:cC [ownA x s]=[nL (cK (el (ownA x s)))]:=rfl
  have z1:(((1:Nat):Int)<((1:Nat):Int))=False:=eq_false (by omega)
  rcases hos:cK (el (ownA x s))with _|⟨y,r⟩
  ·rw[hos]at cl
   rw[r11 (by simp)];unfold x11;dsimp only
   sym =>
    simp[Za,Zb,Zc,Zf,Zg,Zh,Zj,Zl,Zm,Zo,Zv,Zw,Zz,ZF,ZJ,ZK,ZN,ZO,ZS,ZT,YR,YU,YX,Xe,Xg,Xh,Xk,Xn,Xp,Xr,Wa,Wc,We,Wo,Wv,Ww,Wx,Wy,Wz,W0,W3,W4,W5,WE,WH,WJ,WO,WP,Vc,Vd,Ve,Vp,Vr,Vs,Vu,Vv,Vx,VI,VS,VT,VU,VV,VW,VX,Ua,Ub,Ug,Un,Uw,Ux,Uy,Uz,U0,U1,U2,U7,U8,U9,UI,UJ,UV,UW,UZ,Tb,Tc,Td,Tj,Tn,Tp,Tw,Tx,Sx,Sy,Sz,S3,S4,S5,e36]
    tactic =>
     unfold pN
     rw[aF x.F (fun f=>[B8 s,B8 ss,.pt 0 0,oS 1 (cK (lR (ownA x s) f)),I (f:Nat)]) (fun f=>gO x (cK (lR (ownA x s) f)))]
     ·rw[kF,hos]
      sym =>
       simp[Za,Zb,Zd,Ze,Zf,Zg,Zh,Zj,Zl,Zm,Zo,Zv,Z1,Z3,Z7,ZD,ZE,ZF,ZN,ZO,ZS,ZT,ZZ,Yb,Yg,Yo,Yq,Y9,YR,YU,YX,Xh,Xk,Xn,Xp,Xq,Xr,XM,Wh,Wp,Wv,Ww,Wx,Wz,W0,W3,W4,W6,WE,WH,WJ,WO,WP,Vc,Vd,Ve,Vp,Vr,Vs,Vt,Vu,Vv,Vx,VK,VN,VP,VT,VU,VV,VW,VX,Ua,Ub,Ug,Un,Ut,Uu,Uv,Uw,Ux,Uy,Uz,U0,U1,U2,U9,UA,UB,UC,UK,UL,UM,UN,UU,UV,UW,UZ,Ta,Td,Ti,Tj,Tl,Tm,Tn,Tp,Tq,Tu,Tw,Tx,TF,TK,Sf,Sx,Sy,Sz,S2,S3,S4,S5,zF,g29]
       tactic =>
        unfold sP
        rw[aF 1 (fun i=>s11 ss 1 i) (fun _=>gH x [ownA x s])]
        ·(sym=>(simp[Za,Zb,Zf,Zh,Zl,Zm,Zv,Z3,ZN,ZO,ZS,ZT,Yq,Y9,YT,Xo,Xz,Wb,W4,WE,WH,WI,WJ,WK,WL,WM,WO,WP,Vc,Vd,Ve,Vp,V3,V4,V6,V7,V8,V9,VA,VD,VE,VF,VG,VK,VN,VP,VU,VX,VZ,Ua,Ub,Ut,Uw,Ux,Uy,Uz,Ti,Tj,Tk,Tm,Tp,Tq,Tu,Tw,Tx,Sf,tN];all_goals tactic=>exact rfl))
        ·(sym=>(simp[Za,Y7,Y9,YR,YY,YZ,Xn,Xs,Xt,Wv,W7,W8,WA,WB,WE,WF,WG,WI,WK,WL,WM,WN,WS,WT,WY,VK,VL,VM,VT,VU,VV,VW,VX,VZ,Ue,Ur,Ux,Uy,Uz,U0,Tv,TA,Sy,S2,cl];all_goals tactic=>exact rfl))
        ·exact rdc
        ·(sym=>(simp[Za,Zb,Zf,Zh,Zl,Zm,Z3,Yq,Y9,VK,VN,VP,VQ,VU,Ut,Ti,Tj,Tm,Tp,Tq,Tw,cl];all_goals tactic=>exact rfl))
     ·rw[k0]; (sym=>(simp[Za,Y7,YR,YZ,Xa,Xn,Xt,Xu,Wv,W5,W7,WA,WB,WE,WF,WG,WI,WK,WL,WM,WN,WS,WT,WY,VI,VL,VM,VT,VU,VW,VX,VZ,Ue,Ur,Ux,Uy,Uz,U0,Tv,TA,TK];all_goals tactic=>exact rfl))
     ·exact rda
     ·rw[kF,hos]; (sym=>(simp[Za,Zb,Zf,Zh,Zl,Zm,Zv,Z3,Z7,ZF,ZZ,Yq,Wv,Ww,Wx,W6,VK,VN,VP,VQ,Ut,UU,UV,UW,Ta,Ti,Tj,Tm,Tp,Tq,Tw,TK,zF];all_goals tactic=>exact rfl))
  ·rw[hos]at cl
   rw[r11 (by simp)];unfold x11;dsimp only
   sym =>
    simp[Za,Zb,Zc,Zf,Zg,Zh,Zj,Zl,Zm,Zo,Zv,Zw,Zz,ZF,ZJ,ZK,ZN,ZO,ZS,ZT,YR,YU,YX,Xe,Xg,Xh,Xk,Xn,Xp,Xr,Wa,Wc,We,Wo,Wv,Ww,Wx,Wy,Wz,W0,W3,W4,W5,WE,WH,WJ,WO,WP,Vc,Vd,Ve,Vp,Vr,Vs,Vu,Vv,Vx,VI,VS,VT,VU,VV,VW,VX,Ua,Ub,Ug,Un,Uw,Ux,Uy,Uz,U0,U1,U2,U7,U8,U9,UI,UJ,UV,UW,UZ,Tb,Tc,Td,Tj,Tn,Tp,Tw,Tx,Sx,Sy,Sz,S3,S4,S5,e36]
    tactic =>
     unfold pN
     rw[aF x.F (fun f=>[B8 s,B8 ss,.pt 0 0,oS 1 (cK (lR (ownA x s) f)),I (f:Nat)]) (fun f=>gO x (cK (lR (ownA x s) f)))]
     ·rw[kF,hos]
      sym =>
       simp[Za,Zb,Zd,Ze,Zf,Zg,Zh,Zj,Zl,Zm,Zo,Zv,Z1,Z3,Z7,ZD,ZE,ZF,ZN,ZO,ZS,ZT,ZZ,Yb,Yg,Yo,Yq,Y9,YR,YU,YX,Xh,Xk,Xn,Xp,Xq,Xr,XK,XQ,XX,We,Wp,Wv,Ww,Wx,Wy,Wz,W0,W3,W4,W6,WE,WH,WJ,WO,WP,Vc,Vd,Ve,Vl,Vm,Vo,Vp,Vq,Vr,Vs,Vt,Vu,Vv,Vx,Vz,V1,VK,VN,VP,VT,VU,VV,VW,VX,Ua,Ub,Uc,Ug,Un,Ut,Uu,Uv,Uw,Ux,Uy,Uz,U0,U1,U2,U9,UA,UB,UC,UK,UL,UM,UN,UU,UV,UW,UZ,Ta,Td,Ti,Tj,Tl,Tm,Tn,Tp,Tq,Tu,Tw,Tx,T8,T9,TB,TF,TL,TM,Sf,Sg,Si,Sx,Sy,Sz,S2,S3,S4,S5,zF,g29]
       tactic =>
        unfold sP
        rw[aF 1 (fun i=>s11 ss 1 i) (fun _=>gH x [ownA x s])]
        ·(sym=>(simp[Za,Zb,Zf,Zh,Zl,Zm,Zv,Z3,ZN,ZO,ZS,ZT,Yq,Y9,YT,Xo,Xz,Wb,W4,WE,WH,WI,WJ,WK,WL,WM,WO,WP,Vc,Vd,Ve,Vp,V3,V4,V6,V7,V8,V9,VA,VD,VE,VF,VG,VK,VN,VP,VU,VX,VZ,Ua,Ub,Ut,Uw,Ux,Uy,Uz,Ti,Tj,Tk,Tm,Tp,Tq,Tu,Tw,Tx,Sf,tN];all_goals tactic=>exact rfl))
        ·(sym=>(simp[Za,Y7,Y9,YR,YY,YZ,Xn,Xs,Xt,XQ,XY,Wv,W7,W8,WA,WB,WE,WF,WG,WI,WK,WL,WM,WN,WS,WT,WY,Vl,VK,VL,VM,VT,VU,VV,VW,VX,VZ,Ue,Ur,Ux,Uy,Uz,U0,Tv,TA,Sy,S2,cl];all_goals tactic=>exact rfl))
        ·exact rdc
        ·(sym=>(simp[Za,Zb,Zf,Zh,Zl,Zm,Z3,Yq,Y9,VK,VN,VP,VQ,VT,Ut,Ti,Tj,Tm,Tp,Tq,Tw,cl];all_goals tactic=>exact rfl))
     ·rw[k0]; (sym=>(simp[Za,Y7,YR,YZ,Xa,Xn,Xt,Xu,Wv,W5,W7,WA,WB,WE,WF,WG,WI,WK,WL,WM,WN,WS,WT,WY,VI,VL,VM,VT,VU,VW,VX,VZ,Ue,Ur,Ux,Uy,Uz,U0,Tv,TA,TK];all_goals tactic=>exact rfl))
     ·exact rda
     ·rw[kF,hos]; (sym=>(simp[Za,Zb,Zf,Zh,Zl,Zm,Zv,Z3,Z7,ZF,ZZ,Yq,Wv,Ww,Wx,W6,VK,VN,VP,VQ,Ut,UU,UV,UW,Ta,Ti,Tj,Tm,Tp,Tq,Tw,TL,zF];all_goals tactic=>exact rfl))
 ·obtain⟨c,hc,g29⟩:=w29 ok ok.h23 hh
  have hC:∀ a∈[ownA x s,c],a<2^x.F∧∀ i,a.testBit i=true→x.fix.testBit i=false:=fun a ha=>by
   simp only[List.mem_cons,List.not_mem_nil,or_false]at ha
   rcases ha with rfl|rfl
   ·exact hA
   ·exact⟨hc.lt,hc.min.1.free⟩
  have rdc:=fun i (hi:i<[ownA x s,c].length)=>aAB ok (ss:=ss) (CS:=[ownA x s,c]) hss hC (by simp) hi
  have cl:cC [ownA x s,c]=[nL (cK (el (ownA x s))),nL (cK (el c))]:=rfl
  generalize cK (el c)=oc at *
  rcases hos:cK (el (ownA x s))with _|⟨y,r⟩
  ·rw[hos]at cl
   rw[r11 (by simp)];unfold x11;dsimp only
   sym =>
    simp[Za,Zb,Zc,Zf,Zg,Zh,Zj,Zl,Zm,Zo,Zv,Zw,Zz,ZF,ZJ,ZK,ZN,ZO,ZS,ZT,YR,YU,YX,Xe,Xg,Xh,Xk,Xn,Xp,Xr,Wa,Wc,We,Wo,Wv,Ww,Wx,Wy,Wz,W0,W3,W4,W5,WE,WH,WJ,WO,WP,Vc,Vd,Ve,Vp,Vr,Vs,Vu,Vv,Vx,VI,VS,VT,VU,VV,VW,VX,Ua,Ub,Ug,Un,Uw,Ux,Uy,Uz,U0,U1,U2,U7,U8,U9,UI,UJ,UV,UW,UZ,Tb,Tc,Td,Tj,Tn,Tp,Tw,Tx,Sx,Sy,Sz,S3,S4,S5,e36]
    tactic =>
     unfold pN
     rw[aF x.F (fun f=>[B8 s,B8 ss,.pt 0 0,oS 1 (cK (lR (ownA x s) f)),I (f:Nat)]) (fun f=>gO x (cK (lR (ownA x s) f)))]
     ·rw[kF,hos]
      sym =>
       simp[Za,Zb,Zd,Ze,Zf,Zg,Zh,Zj,Zl,Zm,Zo,Zv,Z1,Z3,Z7,ZD,ZE,ZF,ZN,ZO,ZR,ZS,ZT,ZZ,Yb,Yg,Yo,Yq,YB,YR,YU,YX,Xh,Xk,Xn,Xp,Xq,Xr,XJ,XM,We,Wh,Wp,Wv,Ww,Wx,Wy,Wz,W0,W3,W4,W6,WE,WH,WJ,WO,WP,Vc,Vd,Ve,Vp,Vr,Vs,Vt,Vu,Vv,Vx,VK,VN,VO,VP,VT,VU,VV,VW,VX,Ua,Ub,Ug,Un,Us,Ut,Uu,Uv,Uw,Ux,Uy,Uz,U0,U1,U2,U9,UA,UB,UC,UK,UL,UM,UN,UO,UP,UQ,US,UT,UU,UV,UW,UZ,Ta,Td,Te,Tf,Tg,Ti,Tj,Tm,Tn,Tp,Tq,Tu,Tw,Tx,TF,TK,Sf,Sx,Sy,Sz,S2,S3,S4,S5,zF,g29]
       tactic =>
        unfold sP
        rw[aF 2 (fun i=>s11 ss 2 i) (fun _=>gH x [ownA x s,c])]
        ·(sym=>(simp[Za,Zb,Zf,Zh,Zl,Zm,Zv,Z3,ZN,ZO,ZS,ZT,Yq,YB,YT,Xo,Xz,Wb,W4,WE,WH,WI,WJ,WK,WL,WM,WO,WP,Vc,Vd,Ve,Vp,V3,V4,V6,V7,V8,V9,VA,VD,VE,VF,VG,VK,VN,VP,VU,VX,VZ,Ua,Ub,Ut,Uw,Ux,Uy,Uz,Ti,Tj,Tk,Tm,Tp,Tq,Tu,Tw,Tx,Sf,tN];all_goals tactic=>exact rfl))
        ·(sym=>(simp[Za,Y7,YB,YR,YY,YZ,Xn,Xs,Xt,Wv,W7,W8,WA,WB,WE,WF,WG,WI,WK,WL,WM,WN,WS,WT,WY,VK,VL,VM,VT,VU,VV,VW,VX,VZ,Ue,Ur,Ux,Uy,Uz,U0,Tv,TA,Sy,S2,cl];all_goals tactic=>exact rfl))
        ·exact rdc
        ·(sym=>(simp[Za,Zb,Zf,Zh,Zl,Zm,Z3,Yq,YB,VK,VN,VP,VQ,VU,Ut,Ti,Tj,Tm,Tp,Tq,Tw,cl];all_goals tactic=>exact rfl))
     ·rw[k0]; (sym=>(simp[Za,Y7,YR,YZ,Xa,Xn,Xt,Xu,Wv,W5,W7,WA,WB,WE,WF,WG,WI,WK,WL,WM,WN,WS,WT,WY,VI,VL,VM,VT,VU,VW,VX,VZ,Ue,Ur,Ux,Uy,Uz,U0,Tv,TA,TK];all_goals tactic=>exact rfl))
     ·exact rda
     ·rw[kF,hos]; (sym=>(simp[Za,Zb,Zf,Zh,Zl,Zm,Zv,Z3,Z7,ZF,ZZ,Yq,Wv,Ww,Wx,W6,VK,VN,VP,VQ,Ut,UU,UV,UW,Ta,Ti,Tj,Tm,Tp,Tq,Tw,TK,zF];all_goals tactic=>exact rfl))
  ·rw[hos]at cl
   rw[r11 (by simp)];unfold x11;dsimp only
   sym =>
    simp[Za,Zb,Zc,Zf,Zg,Zh,Zj,Zl,Zm,Zo,Zv,Zw,Zz,ZF,ZJ,ZK,ZN,ZO,ZS,ZT,YR,YU,YX,Xe,Xg,Xh,Xk,Xn,Xp,Xr,Wa,Wc,We,Wo,Wv,Ww,Wx,Wy,Wz,W0,W3,W4,W5,WE,WH,WJ,WO,WP,Vc,Vd,Ve,Vp,Vr,Vs,Vu,Vv,Vx,VI,VS,VT,VU,VV,VW,VX,Ua,Ub,Ug,Un,Uw,Ux,Uy,Uz,U0,U1,U2,U7,U8,U9,UI,UJ,UV,UW,UZ,Tb,Tc,Td,Tj,Tn,Tp,Tw,Tx,Sx,Sy,Sz,S3,S4,S5,e36]
    tactic =>
     unfold pN
     rw[aF x.F (fun f=>[B8 s,B8 ss,.pt 0 0,oS 1 (cK (lR (ownA x s) f)),I (f:Nat)]) (fun f=>gO x (cK (lR (ownA x s) f)))]
     ·rw[kF,hos]
      sym =>
       simp[Za,Zb,Zd,Ze,Zf,Zg,Zh,Zj,Zl,Zm,Zo,Zv,Z1,Z3,Z7,ZD,ZE,ZF,ZN,ZO,ZR,ZS,ZT,ZZ,Yb,Yg,Yo,Yq,YB,YR,YU,YX,Xh,Xk,Xn,Xp,Xq,Xr,XJ,XK,XQ,XW,XX,We,Wp,Wv,Ww,Wx,Wy,Wz,W0,W3,W4,W6,WE,WH,WJ,WO,WP,Vc,Vd,Ve,Vl,Vm,Vo,Vp,Vq,Vr,Vs,Vt,Vu,Vv,Vx,Vz,V1,VK,VN,VO,VP,VT,VU,VV,VW,VX,Ua,Ub,Uc,Ug,Un,Us,Ut,Uu,Uv,Uw,Ux,Uy,Uz,U0,U1,U2,U9,UA,UB,UC,UK,UL,UM,UN,UO,UP,UQ,US,UT,UU,UV,UW,UZ,Ta,Td,Te,Tf,Tg,Ti,Tj,Tm,Tn,Tp,Tq,Tu,Tw,Tx,T8,T9,TB,TF,TL,TM,Sf,Sg,Si,Sx,Sy,Sz,S2,S3,S4,S5,zF,g29]
       tactic =>
        unfold sP
        rw[aF 2 (fun i=>s11 ss 2 i) (fun _=>gH x [ownA x s,c])]
        ·(sym=>(simp[Za,Zb,Zf,Zh,Zl,Zm,Zv,Z3,ZN,ZO,ZS,ZT,Yq,YB,YT,Xo,Xz,Wb,W4,WE,WH,WI,WJ,WK,WL,WM,WO,WP,Vc,Vd,Ve,Vp,V3,V4,V6,V7,V8,V9,VA,VD,VE,VF,VG,VK,VN,VP,VU,VX,VZ,Ua,Ub,Ut,Uw,Ux,Uy,Uz,Ti,Tj,Tk,Tm,Tp,Tq,Tu,Tw,Tx,Sf,tN];all_goals tactic=>exact rfl))
        ·(sym=>(simp[Za,Y7,YB,YR,YY,YZ,Xn,Xs,Xt,XQ,XY,Wv,W7,W8,WA,WB,WE,WF,WG,WI,WK,WL,WM,WN,WS,WT,WY,Vl,VK,VL,VM,VT,VU,VV,VW,VX,VZ,Ue,Ur,Ux,Uy,Uz,U0,Tv,TA,Sy,S2,cl];all_goals tactic=>exact rfl))
        ·exact rdc
        ·(sym=>(simp[Za,Zb,Zf,Zh,Zl,Zm,Z3,Yq,YB,VK,VN,VP,VQ,VT,Ut,Ti,Tj,Tm,Tp,Tq,Tw,cl];all_goals tactic=>exact rfl))
     ·rw[k0]; (sym=>(simp[Za,Y7,YR,YZ,Xa,Xn,Xt,Xu,Wv,W5,W7,WA,WB,WE,WF,WG,WI,WK,WL,WM,WN,WS,WT,WY,VI,VL,VM,VT,VU,VW,VX,VZ,Ue,Ur,Ux,Uy,Uz,U0,Tv,TA,TK];all_goals tactic=>exact rfl))
     ·exact rda
     ·rw[kF,hos]; (sym=>(simp[Za,Zb,Zf,Zh,Zl,Zm,Zv,Z3,Z7,ZF,ZZ,Yq,Wv,Ww,Wx,W6,VK,VN,VP,VQ,Ut,UU,UV,UW,Ta,Ti,Tj,Tm,Tp,Tq,Tw,TL,zF];all_goals tactic=>exact rfl))
end Go.Proofs.YtiabjdfdkiijmaaDoor
