/- Parts of a proof, joined: K78 K79 K80 K81 K82 K83. No statement of the seed is proved here. -/
import Derived.KernelRfl
import Derived.Test.YtiabjdfdkiijmaaDoorI6
set_option linter.unusedSimpArgs false
set_option linter.unusedVariables false
set_option linter.unusedSectionVars false
namespace Go.Proofs.YtiabjdfdkiijmaaDoor
open Go Go.DL
set_option maxRecDepth 100000
set_option maxHeartbeats 4000000
theorem cuts_0 {x:Vn} {C:Nat}:FC (stL x) x.sick x.nur x.fix C↔Cuts x 0 C:=by
 constructor
 ·intro h
  exact ⟨h.lt,h.free,fun f hf=>h.cut f (by rw [Nat.or_zero] at hf;exact hf)⟩
 ·intro h
  exact ⟨h.lt,h.free,fun f hf=>h.cut f (by rw [Nat.or_zero];exact hf)⟩
theorem w33 {x:Vn} (ok:x.Ok) (hh:hasC x=true):∃ n ws,Lea x 0 n∧ws.length=n∧verE x ws=0∧runW progX 33 [.agg x.c] []=some (.tup [wL ws,I 0],[]):=by
 have hF:=ok.F16
 obtain ⟨n,hn,e59⟩:=w59t ok ok.h23 hh
 obtain ⟨C0,c1,c2⟩:=(hasC_iff ok).1 hh
 have hn16:n≤16:=by
  have:=hn.2 C0 c2
  have:=card_16 C0
  omega
 obtain ⟨n',fl,q1,q2,q3,e65⟩:=w65 (lnOk ok)
 have hl:=least_of (stP_lt ok _) ok.s hF q1 q3 (cuts_0.2 c2) c1
 have hnn:n'=n:=by
  refine Lea.eq (x:=x) (cl:=0) ⟨?_,fun C hC=>hl.2 C (cuts_0.2 hC)⟩ hn
  obtain ⟨C,d1,d2,d3⟩:=hl.1
  exact ⟨C,d1,cuts_0.1 d2,d3⟩
 subst hnn
 obtain ⟨G,g0,g1,g2⟩:=seq_of n'
  (fun i (q:(Nat→Nat→Int)×List (List Int)×Nat)=>Ow (stL x) x.sick x.nur x.fix q.2.2 (n'-i) q.1∧VerP x q.2.1 q.2.2∧q.2.1.length=i)
  (fun i q q'=>headX 0 [7,9,29,30] (execW progX 33 0 none (match x33l1 with | .loop _ a=>a | c=>c) (envL [7,9,29,30] (sU q.2.1 n' i)) (gY (lnd x (stL x)) q.1 q.2.1 []))=some (sU q'.2.1 n' (i+1),gY (lnd x (stL x)) q'.1 q'.2.1 []))
  (fl,[],0) ⟨.of_net q1,.nil x,rfl⟩ (by
   rintro i ⟨f,rows,u⟩ hi ⟨p1,p2,p3⟩
   dsimp only at p1 p2 p3
   rw [show n'-i=(n'-(i+1))+1 by omega] at p1
   obtain ⟨f',w,r1,r2,r3⟩:=round33 ok p1 p2 hi (by omega) p3
   refine ⟨(f',rows++[w],uWi u w),⟨r1,r2,?_⟩,r3⟩
   show (rows++[w]).length=i+1
   rw [List.length_append,p3];rfl)
 obtain ⟨p1,p2,p3⟩:=g1 n' (Nat.le_refl _)
 refine ⟨n',(G n').2.1,hn,p3,?_,?_⟩
 ·unfold verE
  rw [if_neg (by omega)]
  exact firstN_all _ p2.1
 ·have z:=UQ (n:=(n':Int))
  have b0:(G 0).2.1=[]:=by rw [g0]
  have f0':(G 0).1=fl:=by rw [g0]
  generalize hrn:(G n').2.1=rn at *
  generalize hfn:(G n').1=fn at *
  have e65:runW progX 65 [.pt 0 0] [some (.blk true (.cells true (lnd x (stL x))))]=some (.tup [.pt 1 0,I (n':Nat)],[some (.blk true (.cells true (lnd x (stL x)))),some (.blk false (.cells true (netA (.pt 0 0) fl)))]):=e65
  have g2':∀ i,i<n'→headX 0 [7,9,29,30] (execW progX 33 0 none (match x33l1 with | .loop _ a=>a | c=>c) (envL [7,9,29,30] (sU (G i).2.1 n' i)) (gY (lnd x (stL x)) (G i).1 (G i).2.1 []))=some (sU (G (i+1)).2.1 n' (i+1),gY (lnd x (stL x)) (G (i+1)).1 (G (i+1)).2.1 []):=g2
  clear g1 g2
  rw [r33 (by simp)];unfold x33;dsimp only
  sym =>
   simp [net_nm,net_rn,net_gr,net_fz,net_0,net_len,Za,Zb,Zf,Zg,Zh,Zj,Zl,Zm,Zo,Zv,Zz,Z3,ZD,ZF,ZN,ZO,ZS,ZT,Yg,Yp,Yq,Y7,YR,YU,YV,YX,YZ,Xa,Xe,Xg,Xh,Xj,Xn,Xp,Xq,Xr,Xt,Xu,Xy,X0,XJ,XK,XL,XP,XQ,XU,XV,XX,XZ,Wa,Wb,Wd,We,Wl,Ws,Wt,Wu,Wv,Ww,Wx,Wy,W0,W3,W4,W5,W6,W7,W8,W9,WA,WB,WC,WE,WF,WH,WI,WJ,WK,WL,WM,WN,WP,WQ,WR,WV,WW,WY,WZ,Vb,Vc,Vi,Vj,Vk,Vl,Vm,Vo,Vp,Vq,Vr,Vs,Vu,Vw,Vx,Vy,V0,V1,V3,V4,V5,V6,V9,VA,VB,VC,VD,VE,VG,VH,VI,VJ,VL,VM,VO,VP,VQ,VR,VS,VT,VV,VW,VX,VY,Ua,Uc,Uf,Uj,Um,Un,Uo,Ut,Uu,Uv,Uw,Ux,Uy,Uz,U0,U1,U2,U3,U4,UE,UF,UQ,UR,US,UV,UZ,Te,Tf,Tg,Th,Ti,Tj,Tk,Tl,Tq,Tr,Ts,Tt,T4,T5,T6,T7,Sb,Sc,Sd,Ss,Su,Sv,Sw,Sx,Sy,Sz,e59,e65]
   tactic =>
    unfold x33l1
    rw [loop_rule n' (fun i=>sU (G i).2.1 n' i) (fun i=>gY (lnd x (stL x)) (G i).1 (G i).2.1 [])]
    ·rw [hrn,hfn]
     rcases rn with _ | ⟨q,qr⟩
     ·(sym=>(simp [net_nm,net_rn,net_gr,net_fz,net_0,net_len,Za,Zb,Zf,Zg,Zh,Zj,Zl,Zm,Zo,Zv,Zz,Z3,ZD,ZF,ZN,ZO,ZS,ZT,Yg,Yp,Yq,Y7,YR,YU,YV,YX,YZ,Xa,Xe,Xg,Xh,Xj,Xn,Xp,Xq,Xr,Xt,Xu,Xy,X0,XJ,XK,XL,XP,XQ,XU,XV,XX,XZ,Wa,Wb,Wd,We,Wl,Ws,Wt,Wu,Wv,Ww,Wx,Wy,W0,W3,W4,W5,W6,W7,W8,W9,WA,WB,WC,WE,WF,WH,WI,WJ,WK,WL,WM,WN,WP,WQ,WR,WV,WW,WY,WZ,Vb,Vc,Vi,Vj,Vk,Vl,Vm,Vo,Vp,Vq,Vr,Vs,Vu,Vw,Vx,Vy,V0,V1,V3,V4,V5,V6,V9,VA,VB,VC,VD,VE,VG,VH,VI,VJ,VL,VM,VO,VP,VQ,VR,VS,VT,VV,VW,VX,VY,Ua,Uc,Uf,Uj,Um,Un,Uo,Ut,Uu,Uv,Uw,Ux,Uy,Uz,U0,U1,U2,U3,U4,UE,UF,UQ,UR,US,UV,UZ,Te,Tf,Tg,Th,Ti,Tj,Tk,Tl,Tq,Tr,Ts,Tt,T4,T5,T6,T7,Sb,Sc,Sd,Ss,Su,Sv,Sw,Sx,Sy,Sz,z];all_goals tactic=>exact rfl))
     ·have ch:=chunks1 (f:=fun w:List Int=>nL w) (q::qr) []
      have ch2:chunks (nL q::qr.map fun w=>nL w) 0 1 (qr.length+1)=[nL q]::qr.map fun w=>[nL w]:=ch
      (sym=>(simp [net_nm,net_rn,net_gr,net_fz,net_0,net_len,Za,Zb,Zf,Zg,Zh,Zj,Zl,Zm,Zo,Zv,Zz,Z3,ZD,ZF,ZN,ZO,ZS,ZT,Yg,Yp,Yq,Y7,YR,YU,YV,YX,YZ,Xa,Xe,Xg,Xh,Xj,Xn,Xp,Xq,Xr,Xt,Xu,Xy,X0,XJ,XK,XL,XP,XQ,XU,XV,XX,XZ,Wa,Wb,Wd,We,Wl,Ws,Wt,Wu,Wv,Ww,Wx,Wy,W0,W3,W4,W5,W6,W7,W8,W9,WA,WB,WC,WE,WF,WH,WI,WJ,WK,WL,WM,WN,WP,WQ,WR,WV,WW,WY,WZ,Vb,Vc,Vi,Vj,Vk,Vl,Vm,Vo,Vp,Vq,Vr,Vs,Vu,Vw,Vx,Vy,V0,V1,V3,V4,V5,V6,V9,VA,VB,VC,VD,VE,VG,VH,VI,VJ,VL,VM,VO,VP,VQ,VR,VS,VT,VV,VW,VX,VY,Ua,Uc,Uf,Uj,Um,Un,Uo,Ut,Uu,Uv,Uw,Ux,Uy,Uz,U0,U1,U2,U3,U4,UE,UF,UQ,UR,US,UV,UZ,Te,Tf,Tg,Th,Ti,Tj,Tk,Tl,Tq,Tr,Ts,Tt,T4,T5,T6,T7,Sb,Sc,Sd,Ss,Su,Sv,Sw,Sx,Sy,Sz,z,ch2];all_goals tactic=>exact rfl))
    ·rw [b0,f0']; (sym=>(simp [net_nm,net_rn,net_gr,net_fz,net_0,net_len,Za,Zb,Zf,Zg,Zh,Zj,Zl,Zm,Zo,Zv,Zz,Z3,ZD,ZF,ZN,ZO,ZS,ZT,Yg,Yp,Yq,Y7,YR,YU,YV,YX,YZ,Xa,Xe,Xg,Xh,Xj,Xn,Xp,Xq,Xr,Xt,Xu,Xy,X0,XJ,XK,XL,XP,XQ,XU,XV,XX,XZ,Wa,Wb,Wd,We,Wl,Ws,Wt,Wu,Wv,Ww,Wx,Wy,W0,W3,W4,W5,W6,W7,W8,W9,WA,WB,WC,WE,WF,WH,WI,WJ,WK,WL,WM,WN,WP,WQ,WR,WV,WW,WY,WZ,Vb,Vc,Vi,Vj,Vk,Vl,Vm,Vo,Vp,Vq,Vr,Vs,Vu,Vw,Vx,Vy,V0,V1,V3,V4,V5,V6,V9,VA,VB,VC,VD,VE,VG,VH,VI,VJ,VL,VM,VO,VP,VQ,VR,VS,VT,VV,VW,VX,VY,Ua,Uc,Uf,Uj,Um,Un,Uo,Ut,Uu,Uv,Uw,Ux,Uy,Uz,U0,U1,U2,U3,U4,UE,UF,UQ,UR,US,UV,UZ,Te,Tf,Tg,Th,Ti,Tj,Tk,Tl,Tq,Tr,Ts,Tt,T4,T5,T6,T7,Sb,Sc,Sd,Ss,Su,Sv,Sw,Sx,Sy,Sz];all_goals tactic=>exact rfl))
    ·exact g2'
    ·rw [hrn,hfn]
     rcases rn with _ | ⟨q,qr⟩
     ·(sym=>(simp [net_nm,net_rn,net_gr,net_fz,net_0,net_len,Za,Zb,Zf,Zg,Zh,Zj,Zl,Zm,Zo,Zv,Zz,Z3,ZD,ZF,ZN,ZO,ZS,ZT,Yg,Yp,Yq,Y7,YR,YU,YV,YX,YZ,Xa,Xe,Xg,Xh,Xj,Xn,Xp,Xq,Xr,Xt,Xu,Xy,X0,XJ,XK,XL,XP,XQ,XU,XV,XX,XZ,Wa,Wb,Wd,We,Wl,Ws,Wt,Wu,Wv,Ww,Wx,Wy,W0,W3,W4,W5,W6,W7,W8,W9,WA,WB,WC,WE,WF,WH,WI,WJ,WK,WL,WM,WN,WP,WQ,WR,WV,WW,WY,WZ,Vb,Vc,Vi,Vj,Vk,Vl,Vm,Vo,Vp,Vq,Vr,Vs,Vu,Vw,Vx,Vy,V0,V1,V3,V4,V5,V6,V9,VA,VB,VC,VD,VE,VG,VH,VI,VJ,VL,VM,VO,VP,VQ,VR,VS,VT,VV,VW,VX,VY,Ua,Uc,Uf,Uj,Um,Un,Uo,Ut,Uu,Uv,Uw,Ux,Uy,Uz,U0,U1,U2,U3,U4,UE,UF,UQ,UR,US,UV,UZ,Te,Tf,Tg,Th,Ti,Tj,Tk,Tl,Tq,Tr,Ts,Tt,T4,T5,T6,T7,Sb,Sc,Sd,Ss,Su,Sv,Sw,Sx,Sy,Sz,z];all_goals tactic=>exact rfl))
     ·(sym=>(simp [net_nm,net_rn,net_gr,net_fz,net_0,net_len,Za,Zb,Zf,Zg,Zh,Zj,Zl,Zm,Zo,Zv,Zz,Z3,ZD,ZF,ZN,ZO,ZS,ZT,Yg,Yp,Yq,Y7,YR,YU,YV,YX,YZ,Xa,Xe,Xg,Xh,Xj,Xn,Xp,Xq,Xr,Xt,Xu,Xy,X0,XJ,XK,XL,XP,XQ,XU,XV,XX,XZ,Wa,Wb,Wd,We,Wl,Ws,Wt,Wu,Wv,Ww,Wx,Wy,W0,W3,W4,W5,W6,W7,W8,W9,WA,WB,WC,WE,WF,WH,WI,WJ,WK,WL,WM,WN,WP,WQ,WR,WV,WW,WY,WZ,Vb,Vc,Vi,Vj,Vk,Vl,Vm,Vo,Vp,Vq,Vr,Vs,Vu,Vw,Vx,Vy,V0,V1,V3,V4,V5,V6,V9,VA,VB,VC,VD,VE,VG,VH,VI,VJ,VL,VM,VO,VP,VQ,VR,VS,VT,VV,VW,VX,VY,Ua,Uc,Uf,Uj,Um,Un,Uo,Ut,Uu,Uv,Uw,Ux,Uy,Uz,U0,U1,U2,U3,U4,UE,UF,UQ,UR,US,UV,UZ,Te,Tf,Tg,Th,Ti,Tj,Tk,Tl,Tq,Tr,Ts,Tt,T4,T5,T6,T7,Sb,Sc,Sd,Ss,Su,Sv,Sw,Sx,Sy,Sz,z];all_goals tactic=>exact rfl))
def xV (fix:Nat):Vn:=⟨8,[(0,1),(0,2),(1,3),(2,3),(3,4),(3,5),(4,6),(5,6)],[(0,2,7),(3,4,7)],1,192,fix⟩
theorem xV_ok {fix:Nat} (h:fix<256):(xV fix).Ok:=by
 refine ⟨by show (1:Nat)≤8;decide,by show (8:Nat)≤16;decide,by show (8:Nat)≤60;decide,by show (2:Nat)≤20;decide,?_,?_,by show (1:Nat)<2^8;decide,by show (192:Nat)<2^8;decide,h⟩
 ·intro p hp
  have:∀ p∈[(0,1),(0,2),(1,3),(2,3),(3,4),(3,5),(4,6),(5,6)],p.1<8∧p.2<8∧p.1≠p.2:=by decide
  exact this p hp
 ·intro p hp
  have:∀ p∈[(0,2,7),(3,4,7)],p.1≤100∧p.2.1<8∧p.2.2<8∧p.2.1≠p.2.2:=by decide
  exact this p hp
def aheadB (a b:Nat):Bool:=(List.range 16).any fun d=>((List.range d).all fun j=>a.testBit j==b.testBit j)&&(a.testBit d && !b.testBit d)
theorem aheadB_of {a b:Nat} (h:aheadB a b=true):ahead a b:=by
 unfold aheadB at h
 rw [List.any_eq_true] at h
 obtain ⟨d,_,h⟩:=h
 simp only [Bool.and_eq_true,List.all_eq_true,List.mem_range,beq_iff_eq,Bool.not_eq_true'] at h
 exact ⟨d,h.1,h.2.1,h.2.2⟩
theorem isCut_by {x:Vn} (ok:x.Ok) {c:Nat} {l:List Nat} (hl:csN x=l) (h:(l.contains c&&l.all fun t=>t==c||aheadB c t)=true):isCut x c:=by
 rw [Bool.and_eq_true,List.all_eq_true] at h
 obtain ⟨h1,h2⟩:=h
 rw [List.contains_iff_mem,←hl] at h1
 refine isCut_of ok ((csN_mem ok).1 h1) fun t ht q=>?_
 have:=h2 t (by rw [←hl];exact (csN_mem ok).2 ht)
 rw [Bool.or_eq_true,beq_iff_eq] at this
 rcases this with rfl | h
 ·exact ahead_irr q
 ·exact ahead_irr (ahead_trans q (aheadB_of h))
theorem cs_0:csN (xV 0)=[1]:=by kernel_rfl
theorem cs_9:csN (xV 9)=[6,192]:=by kernel_rfl
theorem cs_79:csN (xV 79)=[176]:=by kernel_rfl
theorem cs_15:csN (xV 15)=[192]:=by kernel_rfl
theorem has_by {x:Vn} (ok:x.Ok) {l:List Nat} (h:csN x=l) (hl:l≠[]):hasC x=true:=(csN_has ok).2 (by rw [h];exact hl)
theorem cut_by {x:Vn} (ok:x.Ok) {c:Nat} {l:List Nat} (hl:csN x=l) (h:(l.contains c&&l.all fun t=>t==c||aheadB c t)=true):runW progX 29 [.agg x.c] []=some (.tup [nL (ofN (el c)),I 0],[]):=by
 have hc:=isCut_by ok hl h
 have hh:hasC x=true:=(hasC_iff ok).2 ⟨c,hc.lt,hc.min.1⟩
 obtain ⟨c',h1,h2⟩:=w29 ok ok.h23 hh
 rw [hc.eq h1];exact h2
theorem need_by {x:Vn} (ok:x.Ok) {c:Nat} {l:List Nat} (hl:csN x=l) (hn:l≠[]) (h:allN l l.length=c):runW progX 31 [.agg x.c] []=some (.tup [nL (ofN (el c)),I 0],[]):=by
 have:=allN_need ok (by rw [hl];exact hn)
 rw [hl,h] at this
 rw [this]
 exact w31 ok (has_by ok hl hn)
abbrev vC (f:Int):List AV:=[I (8),.fs [[I (0),I (1)],[I (0),I (2)],[I (1),I (3)],[I (2),I (3)],[I (3),I (4)],[I (3),I (5)],[I (4),I (6)],[I (5),I (6)]],.fs [[I (0),I (2),I (7)],[I (3),I (4),I (7)]],I (1),I (192),I f]
theorem wk_3:runW progX 29 [.agg (vC 0)] []=some (.tup [.fs [[I (0)]],I (0)],[]):=cut_by (x:=xV 0) (xV_ok (by omega)) (c:=1) cs_0 (by decide)
theorem wk_5:runW progX 29 [.agg (vC 9)] []=some (.tup [.fs [[I (1)],[I (2)]],I (0)],[]):=cut_by (x:=xV 9) (xV_ok (by omega)) (c:=6) cs_9 (by decide)
theorem wk_7:runW progX 29 [.agg (vC 79)] []=some (.tup [.fs [[I (4)],[I (5)],[I (7)]],I (0)],[]):=cut_by (x:=xV 79) (xV_ok (by omega)) (c:=176) cs_79 (by decide)
theorem wk_9:runW progX 31 [.agg (vC 15)] []=some (.tup [.fs [[I (6)],[I (7)]],I (0)],[]):=need_by (x:=xV 15) (xV_ok (by omega)) (c:=192) cs_15 (by simp) (by decide)
theorem wk_10:runW progX 31 [.agg (vC 9)] []=some (.tup [.fs [],I (0)],[]):=need_by (x:=xV 9) (xV_ok (by omega)) (c:=0) cs_9 (by simp) (by decide)
theorem when_0:whenL (xV 0)=[0,1,1,2,3,3,4,1]:=by kernel_rfl
theorem wk_2:runW progX 20 [.agg (vC 0)] []=some (.tup [.fs [[I (0)],[I (1)],[I (1)],[I (2)],[I (3)],[I (3)],[I (4)],[I (1)]],I (0)],[]):=by
 rcases w20 (xV 0).v (by decide) (by decide) with ⟨h,_⟩ | ⟨_,x,_,hx,h⟩
 ·exact absurd (xV_ok (fix:=0) (by omega)).vE h
 ·have e:whenL x=[0,1,1,2,3,3,4,1]:=by
   have hinj:∀ {x y:Vn},x.v=y.v→x=y:=by
    rintro ⟨a,b,c,d,e,f⟩ ⟨a',b',c',d',e',f'⟩ h
    simp only [Vn.v,Va.mk.injEq] at h
    obtain ⟨h1,h2,h3,h4,h5,h6⟩:=h
    have e2:b=b':=(List.map_inj_right (f:=bI) (fun p q h=>by
     obtain ⟨p1,p2⟩:=p
     obtain ⟨q1,q2⟩:=q
     simp only [bI,Prod.mk.injEq] at h
     simp only [Prod.mk.injEq];omega)).1 h2
    have e3:c=c':=(List.map_inj_right (f:=pI) (fun p q h=>by
     obtain ⟨p1,p2,p3⟩:=p
     obtain ⟨q1,q2,q3⟩:=q
     simp only [pI,Prod.mk.injEq] at h
     simp only [Prod.mk.injEq];omega)).1 h3
    simp only [Vn.mk.injEq]
    exact ⟨by omega,e2,e3,by omega,by omega,by omega⟩
   rw [←hinj hx]
   exact when_0
  rw [e] at h
  exact h
theorem way_len {x:Vn} {u:Nat} {w:List Int} (hF:x.F≤16) (h:wayE x u w=0):w.length≤16:=by
 obtain ⟨ks,rfl,hks⟩:=wayI_nat h
 unfold wayE at h
 by_cases hn:ofN ks=[]
 ·rw [if_pos hn] at h;simp at h
 rw [if_neg hn,if_neg (by rw [noF_of hks];simp),ofN_toNat] at h
 cases hl:leadsB x ks
 ·rw [hl] at h;simp at h
 ·unfold leadsB at hl
  rw [Bool.and_eq_true,decide_eq_true_eq] at hl
  have hc:∀ j,j≤ks.length→card (setW ks j)=j:=by
   intro j
   induction j with
   | zero=>intro _;rw [show setW ks 0=0 from rfl];exact card_0
   | succ j ih =>
     intro hj
     obtain ⟨k,hk⟩:=at_ix (l:=ks) (i:=j) (by omega)
     have hkF:=hks k (List.mem_of_getElem? hk)
     rw [setW_up hk,card_up (by omega),ih (by omega)]
     have h0:=firstN_0 hl.1 j (by omega)
     unfold wkE at h0
     rw [getD_of hk] at h0
     cases hb:(setW ks j).testBit k
     ·rfl
     ·rw [hb] at h0;simp at h0
  have h1:=hc ks.length (Nat.le_refl _)
  have h2:=card_16 (setW ks ks.length)
  rw [ofN_len];omega
theorem ver_len {x:Vn} {ws:List (List Int)} (hF:x.F≤16) (h:verE x ws=0):ws.length≤16∧∀ w∈ws,w.length≤16:=by
 unfold verE at h
 by_cases h16:16<ws.length
 ·rw [if_pos h16] at h;simp at h
 rw [if_neg h16] at h
 refine ⟨by omega,fun w hw=>?_⟩
 obtain ⟨j,hj⟩:=List.getElem?_of_mem hw
 have h0:=firstN_0 h j (lt_of hj)
 unfold wayI at h0
 rw [getD_of hj] at h0
 exact way_len hF h0
theorem wk_11:∃ ws:List (List Int),ws.length=2∧runW progX 33 [.agg (vC 9)] []=some (.tup [wL ws,I 0],[])∧runW progX 35 [.agg (vC 9),wL ws] []=some (I 0,[]):=by
 have ok:(xV 9).Ok:=xV_ok (by omega)
 obtain ⟨n,ws,hn,hl,hv,hr⟩:=w33 ok (has_by ok cs_9 (by simp))
 have hm:isMin (xV 9) 6:=(csN_mem ok).1 (by rw [cs_9];simp)
 have h2:=(hn.min.1 hm).2
 have h3:card 6=2:=by decide
 have hw:∀ w∈ws,w.length<1000000:=by
  intro w hw
  have:=(ver_len ok.F16 hv).2 w hw
  omega
 have hV:=w35 ok (ws:=ws) (by omega) hw
 rw [hv] at hV
 exact ⟨ws,by omega,hr,hV⟩
theorem works_w:runW progX 16 [] []=some (.bool true,[]):=by
 obtain ⟨ws,h1,h2,h3⟩:=wk_11
 have l1:((ws.length:Int)=2)=True:=eq_true (by omega)
 rw [r16 (by simp)];unfold x16;dsimp only
 (sym=>(simp [Za,Zb,Zd,Ze,Zf,Zg,Zh,Zj,Zl,Zm,Zo,Zp,Zq,Zr,Zv,Zy,Z1,Z3,ZD,ZE,ZN,ZO,ZS,ZT,ZU,ZV,Ya,Yg,Yo,Yp,Y7,YR,YT,YU,YX,YY,Xe,Xi,Xk,Xn,Xo,Xp,Xq,Xr,Xs,Xz,XI,XY,Wb,Wi,Wn,Ws,Wv,Ww,Wy,Wz,W3,W4,W5,W6,W7,WA,WB,WC,WE,WF,WG,WH,WI,WJ,WL,WM,WN,WO,WP,WQ,WR,WV,WW,WY,WZ,Vb,Vc,Vl,Vo,Vp,Vq,V0,V1,V3,V4,V5,V6,V7,VA,VB,VC,VD,VJ,VL,VO,VP,VQ,VR,VS,VT,VV,VW,VX,VY,Ua,Uc,Ue,Uf,Uj,Um,Un,Uq,Ur,Us,Ut,Uu,Uv,Uw,Ux,Uy,U3,U5,U6,U7,U8,UG,UH,UI,UJ,UZ,Te,Tf,Tg,Th,Tk,Ts,Tt,TB,TC,TD,TE,TF,Sb,Ss,Su,Sw,Sx,Sy,Sz,wk_0,wk_1,wk_2,wk_3,wk_4,wk_5,wk_6,wk_7,wk_8,wk_9,wk_10,h2,h3,l1,wk_12,wk_13,wk_14,wk_15,wk_16,wk_17,wk_18,wk_20,wk_21,wk_22,wk_23];all_goals tactic=>exact rfl))
theorem wk_30:runW progX 18 [.agg (vC 0),I 4] []=some (.tup [.fs [[I 0],[I 1],[I 2],[I 3],[I 4],[I 5],[I 6],[I 7]],I 0],[]):=runW_iff.2 ⟨400,by kernel_rfl⟩
theorem wk_31:runW progX 29 [.agg (vC 15)] []=some (.tup [.fs [[I 6],[I 7]],I 0],[]):=cut_by (x:=xV 15) (xV_ok (by omega)) (c:=192) cs_15 (by decide)
theorem wk_32:runW progX 31 [.agg (vC 79)] []=some (.tup [.fs [[I 4],[I 5],[I 7]],I 0],[]):=need_by (x:=xV 79) (xV_ok (by omega)) (c:=176) cs_79 (by simp) (by decide)
theorem wk_33:runW progX 22 [.fs [[I (0)],[I (1)],[I (2)],[I (3)],[I (4)],[I (5)],[I (6)],[I (7)]],.sl 0 0 1 8] [some (.blk true (.cells true [I (0),I (1),I (2),I (3),I (4),I (5),I (6),I (7)]))]=some (.bool true,[some (.blk true (.cells true [I (0),I (1),I (2),I (3),I (4),I (5),I (6),I (7)]))]):=runW_iff.2 ⟨400,by kernel_rfl⟩
theorem wk_34:runW progX 27 [.agg (vC 9),.sl 0 0 1 1] [some (.blk true (.cells true [I (3)]))]=some (I 23,[none]):=runW_iff.2 ⟨400,by kernel_rfl⟩
theorem wk_35:runW progX 35 [.agg (vC 9),.sl 0 0 1 2] [some (.blk false (.cells true [.sl 1 0 1 5,.sl 2 0 1 5])),some (.blk true (.cells true [I (0),I (1),I (3),I (4),I (6)])),some (.blk true (.cells true [I (0),I (2),I (3),I (5),I (6)]))]=some (I (6),[some (.blk true (.cells true [.fs [[I (0)],[I (1)],[I (3)],[I (4)],[I (6)]],.fs [[I (0)],[I (2)],[I (3)],[I (5)],[I (6)]]])),none,none]):=runW_iff.2 ⟨400,by kernel_rfl⟩
theorem w14:runW progX 14 [] []=some (.bool true,[]):=by
 rw [r14 (by simp)];unfold x14;dsimp only
 (sym=>(simp [Za,Zb,Zd,Ze,Zf,Zg,Zh,Zj,Zl,Zm,Zo,Zp,Zq,Zv,Zy,Z1,Z3,ZD,ZN,ZO,ZS,ZT,ZU,Yg,Yo,YR,YT,YU,YX,YY,Xe,Xi,Xk,Xn,Xo,Xp,Xq,Xr,Xs,Xz,XI,XY,Wb,Wi,Wn,Ws,Wv,Ww,Wy,Wz,W3,W4,W5,W6,W7,WA,WB,WC,WE,WF,WG,WH,WI,WJ,WL,WM,WN,WO,WP,WQ,WR,WV,WW,WY,WZ,Vb,Vc,Vl,Vo,Vp,Vq,V0,V1,V3,V4,V5,V6,V7,VA,VB,VC,VD,VO,VP,VQ,VR,VS,VT,VV,VW,VX,Ua,Uc,Ue,Uj,Um,Un,Uq,Ur,Us,Ut,Uu,Uv,Uw,Ux,Uy,U3,U5,U6,U7,U8,UG,UH,UI,UJ,UZ,Te,Tf,Tg,Tk,Ts,Tt,TB,TC,TD,TE,TF,Sb,Ss,Su,Sw,Sx,Sy,Sz,wk_0,wk_30,wk_8,wk_31,wk_6,wk_32,wk_4,wk_33,wk_18,wk_17,wk_34,wk_35,works_w];all_goals tactic=>exact rfl))
end Go.Proofs.YtiabjdfdkiijmaaDoor
