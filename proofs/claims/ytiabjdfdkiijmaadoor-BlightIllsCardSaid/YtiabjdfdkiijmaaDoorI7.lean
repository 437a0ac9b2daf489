/- Parts of a proof, joined: K66 K67 K68 K69 K70 K71 K72 K73 K74 K75 K76 K77 K78 K79 K80 K81 K82 K83. No statement of the seed is proved here. -/
import Derived.KernelRfl
import Derived.Test.YtiabjdfdkiijmaaDoorI6
set_option linter.unusedSimpArgs false
set_option linter.unusedVariables false
set_option linter.unusedSectionVars false
namespace Go.Proofs.YtiabjdfdkiijmaaDoor
open Go Go.DL
set_option maxRecDepth 100000
set_option maxHeartbeats 4000000
abbrev wL (ws:List (List Int)):AV:=.fs (ws.map fun w=>[nL w])
def cfE (x:Vn) (u:Nat) (ks:List Nat) (j:Nat):Int:=if u.testBit (ks.getD j 0) && !x.fix.testBit (ks.getD j 0) then 1 else 0
def uW (u:Nat) (ks:List Nat) (j:Nat):Nat:=(ks.take j).foldl (fun s k=>s|||2^k) u
theorem uW_up {u:Nat} {ks:List Nat} {i k:Nat} (h:ks[i]?=some k):uW u ks (i+1)=uW u ks i|||2^k:=fold_up h u
theorem uW_lt {u:Nat} {ks:List Nat} {F:Nat} (hu:u<2^F) (h:∀ k∈ks,k<F) (i:Nat):uW u ks i<2^F :=
 fold_lt (fun k hk o ho=>or_lt ho (h k (List.mem_of_mem_take hk))) hu
section
variable {x:Vn} (ok:x.Ok) {ws:List (List Int)} {ks:List Nat} (hks:∀ k∈ks,k<x.F) (hl:ks.length<1000000) {u i:Nat} (hu:u<2^x.F)
abbrev s35a (ws:List (List Int)) (ks:List Nat) (u i j:Nat):List AV:=[.pt 0 0,.pt 1 0,I (u:Nat),nL (ofN ks),wL ws,I ws.length,I (i:Nat),nL (ofN ks),I ks.length,I (j:Nat)]
abbrev s35b (ws:List (List Int)) (ks:List Nat) (u i j:Nat):List AV:=[.pt 0 0,.pt 1 0,I (u:Nat),wL ws,I ws.length,I (i:Nat),nL (ofN ks),I ks.length,I (j:Nat)]
include ok hks hl hu in
theorem round35a {j:Nat} (hj:j<ks.length) (h0:cfE x u ks j=0) :
 headX 0 [2,5,7,9,27,28,29,46,47,48] (execW progX 35 0 none (match x35l0 with | .loop _ a=>a | c=>c) (envL [2,5,7,9,27,28,29,46,47,48] (s35a ws ks u i j)) (gC2 x))=some (s35a ws ks u i (j+1),gC2 x):=by
 obtain ⟨k,hk⟩:=at_ix hj
 have hF:=ok.F16
 have hp:=pow_16 hF
 have hfx:=ok.f
 have hkF:=hks k (List.mem_of_getElem? hk)
 have a1:=lt_ix hj
 have a2:=up_ix hj (by omega)
 have e1:=w60 (a:=u) (j:=k) (by omega) (by omega)
 have e2:=w60 (a:=x.fix) (j:=k) (by omega) (by omega)
 have g:=ofN_ix hk
 have gl:=ofN_len ks
 unfold cfE at h0
 rw [getD_of hk] at h0
 rw [s35a,s35a]
 generalize ofN ks=os at *
 generalize u.testBit k=ub at *
 generalize x.fix.testBit k=fb at *
 unfold x35l0
 dsimp only
 cases ub
 ·(sym=>(simp [Za,Zb,Zf,Zg,Zh,Zj,Zl,Zm,Zp,Zq,Zs,Zv,Zy,Z3,Z4,Z7,Z9,ZF,ZN,ZO,ZS,ZT,ZU,ZV,ZW,ZZ,Ye,Yf,Yh,Yq,Yu,Yv,YR,YX,YZ,Xn,Xo,Xr,Xt,Xy,Wa,Wx,Wy,Wz,W6,W8,W9,WA,WC,WE,WG,WH,WI,WJ,WK,WL,WM,WN,WO,WP,WQ,WR,WU,WV,Vb,Ve,Vf,Vg,Vr,Vt,Vu,Vv,Vw,Vx,Vz,VM,VN,VO,VP,VQ,VR,VV,VW,VX,VY,VZ,Ub,Uc,Ud,Ue,Uf,Ug,Ul,Uq,Ut,Uu,Uy,Uz,U0,U1,U2,UX,UY,UZ,Ta,Tc,Tk,Tl,Tn,Tq,Tr,Tu,Tx,Ty,Tz,TC,Sm,S5,S6,S7,S8,S9,SA,SB,a1,a2,e1,g,gl];all_goals tactic=>exact rfl))
 ·cases fb
  ·simp at h0
  ·(sym=>(simp [Za,Zb,Zf,Zg,Zh,Zj,Zl,Zm,Zp,Zq,Zs,Zv,Zy,Z3,Z4,Z7,Z9,ZF,ZN,ZO,ZS,ZT,ZU,ZV,ZW,ZZ,Ye,Yf,Yh,Yq,Yu,Yv,YR,YX,YZ,Xn,Xo,Xr,Xt,Xy,Wa,Wx,Wy,Wz,W6,W8,W9,WA,WC,WE,WG,WH,WI,WJ,WK,WL,WM,WN,WO,WP,WQ,WR,WU,WV,Vb,Ve,Vf,Vg,Vr,Vt,Vu,Vv,Vw,Vx,Vz,VM,VN,VO,VP,VQ,VR,VV,VW,VX,VY,VZ,Ub,Uc,Ud,Ue,Uf,Ug,Ul,Uq,Ut,Uu,Uy,Uz,U0,U1,U2,UX,UY,UZ,Ta,Tc,Tk,Tl,Tn,Tq,Tr,Tu,Tx,Ty,Tz,TC,Sm,S5,S6,S7,S8,S9,SA,SB,a1,a2,e1,e2,g,gl];all_goals tactic=>exact rfl))
include ok hks hu in
theorem left35a {j:Nat} (hj:j<ks.length) (h0:cfE x u ks j≠0):∃ e h,
 execW progX 35 0 none (match x35l0 with | .loop _ a=>a | c=>c) (envL [2,5,7,9,27,28,29,46,47,48] (s35a ws ks u i j)) (gC2 x)=some (.ret,e,h)∧retX none x35.res x35.ownR 0 (some (.ret,e,h))=some (I 6,[]):=by
 obtain ⟨k,hk⟩:=at_ix hj
 have hF:=ok.F16
 have hp:=pow_16 hF
 have hfx:=ok.f
 have hkF:=hks k (List.mem_of_getElem? hk)
 have a1:=lt_ix hj
 have e1:=w60 (a:=u) (j:=k) (by omega) (by omega)
 have e2:=w60 (a:=x.fix) (j:=k) (by omega) (by omega)
 have g:=ofN_ix hk
 have gl:=ofN_len ks
 unfold cfE at h0
 rw [getD_of hk] at h0
 rw [s35a]
 generalize ofN ks=os at *
 generalize u.testBit k=ub at *
 generalize x.fix.testBit k=fb at *
 cases ub
 ·simp at h0
 ·cases fb
  ·refine ret_of ?_ ?_
   ·unfold x35l0;dsimp only; (sym=>(simp [Za,Zb,Zf,Zg,Zh,Zj,Zl,Zm,Zp,Zq,Zv,Zy,Z3,Z4,Z7,Z9,ZF,ZN,ZO,ZS,ZT,ZU,ZW,ZZ,Ye,Yf,Yq,Yu,Yv,YR,Xn,Xo,Xy,Wa,Wx,Wy,Wz,W6,W8,WG,WJ,WL,WQ,WR,Ve,Vf,Vg,Vr,Vt,Vu,Vv,Vw,Vx,Vz,V5,VB,VM,VP,VQ,VT,VV,VW,VY,VZ,Uc,Ud,Ue,Uf,Ug,Um,Uq,Uu,Uy,Uz,U0,U1,U2,UX,UY,UZ,Ta,Tc,Tk,Tl,Tm,Tn,Tq,Tr,Tt,Tv,Ty,Tz,Sm,S5,S6,S7,S8,S9,SA,SB,a1,e1,e2,g,gl];all_goals tactic=>exact rfl))
   ·unfold x35l0;dsimp only; (sym=>(simp [Za,Zb,Zf,Zg,Zh,Zj,Zl,Zm,Zp,Zq,Zv,Zy,Z3,Z4,Z7,Z9,ZF,ZN,ZO,ZS,ZT,ZU,ZW,ZZ,Ye,Yf,Yq,Yu,Yv,YR,Xn,Xo,Xy,Wa,Wx,Wy,Wz,W6,W8,WG,WJ,WL,WQ,WR,Ve,Vf,Vg,Vr,Vt,Vu,Vv,Vw,Vx,Vz,V5,VB,VM,VP,VQ,VT,VV,VW,VY,VZ,Uc,Ud,Ue,Uf,Ug,Um,Uq,Uu,Uy,Uz,U0,U1,U2,UX,UY,UZ,Ta,Tc,Tk,Tl,Tm,Tn,Tq,Tr,Tt,Tv,Ty,Tz,Sm,S5,S6,S7,S8,S9,SA,SB,a1,e1,e2,g,gl];all_goals tactic=>exact rfl))
  ·simp at h0
include ok hks hl hu in
theorem round35b {j:Nat} (hj:j<ks.length) :
 headX 0 [2,5,7,27,28,29,63,64,65] (execW progX 35 0 none (match x35l1 with | .loop _ a=>a | c=>c) (envL [2,5,7,27,28,29,63,64,65] (s35b ws ks (uW u ks j) i j)) (gC2 x))=some (s35b ws ks (uW u ks (j+1)) i (j+1),gC2 x):=by
 obtain ⟨k,hk⟩:=at_ix hj
 have hF:=ok.F16
 have hp:=pow_16 hF
 have hkF:=hks k (List.mem_of_getElem? hk)
 have a1:=lt_ix hj
 have a2:=up_ix hj (by omega)
 have e2:=w62 (j:=k) (by omega)
 have hul:=uW_lt hu hks j
 have p1:(2:Nat)^k≤2^16:=Nat.pow_le_pow_right (by omega) (by omega)
 have o1:=bits_or big_i (a:=uW u ks j) (b:=2^k) (by omega) (by omega)
 have g:=ofN_ix hk
 have gl:=ofN_len ks
 rw [s35b,s35b,uW_up hk]
 generalize uW u ks j|||2^k=q2 at *
 generalize uW u ks j=q at *
 generalize ofN ks=os at *
 unfold x35l1
 dsimp only
 (sym=>(simp [Za,Zb,Zf,Zg,Zh,Zj,Zl,Zm,Zv,Z3,Z9,ZF,ZN,ZO,ZS,ZT,Ye,Yf,Yh,Yl,Yq,Yu,Yv,YR,YX,YZ,Xn,Xr,Xt,Xy,Wa,Wx,W6,W8,W9,WA,WC,WE,WG,WH,WI,WJ,WK,WL,WM,WN,WO,WP,WQ,WR,WU,WV,Vb,Ve,Vf,Vg,Vr,Vt,Vu,Vv,VM,VN,VO,VP,VQ,VV,VW,VX,VY,VZ,Ub,Uc,Ud,Ue,Uf,Ug,Uq,Ut,Uu,Uy,Uz,U0,U1,U2,UZ,Ta,Tc,Tk,Tl,Tn,Tq,Tr,Tu,Tx,Ty,Tz,TC,Sm,S5,S6,S8,S9,SA,SB,a1,a2,e2,o1,g,gl];all_goals tactic=>exact rfl))
end
def wayE (x:Vn) (u:Nat) (w:List Int):Int:=if w=[] then 4 else if firstN (noF x w) w.length≠0 then 5 else if leadsB x (w.map Int.toNat) then (if firstN (cfE x u (w.map Int.toNat)) w.length≠0 then 6 else 0) else 21
def uWi (u:Nat) (w:List Int):Nat:=uW u (w.map Int.toNat) w.length
theorem ofN_toNat (ks:List Nat):(ofN ks).map Int.toNat=ks:=by
 unfold ofN
 rw [List.map_map]
 exact (List.map_congr_left (fun a _=>Int.toNat_natCast a)).trans (List.map_id ks)
abbrev s35 (ws:List (List Int)) (u i:Nat):List AV:=[.pt 0 0,.pt 1 0,I (u:Nat),wL ws,I ws.length,I (i:Nat)]
section
variable {x:Vn} (ok:x.Ok) {ws:List (List Int)} (hws:ws.length≤100) (hw:∀ w∈ws,w.length<1000000) {u i:Nat} (hu:u<2^x.F)
include ok hws hw hu in
theorem round35 {w:List Int} (hx:ws[i]?=some w) (h0:wayE x u w=0) :
 headX 0 [2,5,7,27,28,29] (execW progX 35 0 none (match x35l2 with | .loop _ a=>a | c=>c) (envL [2,5,7,27,28,29] (s35 ws u i)) (gC2 x))=some (s35 ws (uWi u w) (i+1),gC2 x)∧uWi u w<2^x.F:=by
 have hi:=lt_of hx
 have hwl:=hw w (List.mem_of_getElem? hx)
 have a1:=lt_ix hi
 have a2:=up_ix hi (by omega)
 unfold wayE at h0
 by_cases hn:w=[]
 ·rw [if_pos hn] at h0;simp at h0
 rw [if_neg hn] at h0
 by_cases hf:firstN (noF x w) w.length=0
 ·rw [if_neg (by simpa using hf)] at h0
  obtain ⟨ks,rfl,hks⟩:=noF_nat hf
  unfold uWi
  rw [ofN_toNat,ofN_len] at *
  have hkn:ks≠[]:=fun h=>hn (by rw [h];rfl)
  have e70:=w70 ok (w:=ofN ks) (by rw [ofN_len];omega)
  rw [ofN_len,hf,show decide ((0:Int)≠0)=false from by decide] at e70
  have e72:=w72 ok hks hwl hkn
  cases hld:leadsB x ks
  ·rw [hld] at h0;simp at h0
  rw [hld,if_pos rfl] at h0
  rw [hld] at e72
  have hcf:firstN (cfE x u ks) ks.length=0:=by
   by_cases h:firstN (cfE x u ks) ks.length=0
   ·exact h
   ·rw [if_pos h] at h0;simp at h0
  have hc2:=firstN_0 hcf
  have rda:=fun j (hj:j<ks.length)=>round35a (ws:=ws) (i:=i) ok hks hwl hu hj (hc2 j hj)
  have rdb:=fun j (hj:j<ks.length)=>round35b (ws:=ws) (i:=i) ok hks hwl hu hj
  have hul:=uW_lt hu hks ks.length
  refine ⟨?_,hul⟩
  have z:=UW (n:=(ks.length:Int))
  have gl:=ofN_len ks
  have kpos:0<ks.length:=List.length_pos_iff.2 hkn
  have c0:((ks.length:Int)=0)=False:=eq_false (by omega)
  have u0:uW u ks 0=u:=rfl
  generalize huF:uW u ks ks.length=uF at *
  unfold x35l2
  dsimp only
  sym =>
   simp [Za,Zb,Zf,Zg,Zh,Zj,Zl,Zm,Zv,Zx,Z3,Z4,Z9,ZE,ZF,ZN,ZO,ZS,ZT,ZW,Ya,Ye,Yf,Yh,Yo,Yq,Yu,Yv,Y7,YR,YX,YZ,Xc,Xn,Xo,Xr,Xt,Xw,XJ,XL,We,Wg,Wx,W0,W5,W6,W8,W9,WA,WB,WC,WE,WG,WH,WI,WJ,WK,WL,WM,WN,WO,WP,WQ,WR,WS,WU,WV,Vb,Ve,Vf,Vg,Vh,Vr,Vt,Vu,Vv,VM,VN,VO,VP,VQ,VR,VS,VV,VW,VX,VY,VZ,Ub,Uc,Ud,Ue,Uf,Ug,Ul,Uq,Ut,Uu,Uv,Uy,Uz,U0,U1,U2,UW,UZ,Ta,Tc,Tk,Tl,Tn,Tp,Tq,Tr,Ts,Tu,Tw,Tx,Ty,Tz,TC,Sm,S5,S6,S8,S9,SA,SB,a1,hx,gl,c0,e70,e72]
   tactic =>
    unfold x35l0
    rw [loop_rule ks.length (fun j=>s35a ws ks u i j) (fun _=>gC2 x)]
    ·sym =>
     simp [Za,Zb,Zf,Zg,Zh,Zj,Zl,Zm,Zv,Zx,Z3,Z4,Z9,ZE,ZF,ZN,ZO,ZS,ZT,ZW,Ya,Ye,Yf,Yh,Yo,Yq,Yu,Yv,Y7,YR,YX,YZ,Xc,Xn,Xo,Xr,Xt,Xw,XJ,XL,We,Wg,Wx,W0,W5,W6,W8,W9,WA,WB,WC,WE,WG,WH,WI,WJ,WK,WL,WM,WN,WO,WP,WQ,WR,WS,WU,WV,Vb,Ve,Vf,Vg,Vh,Vr,Vt,Vu,Vv,VM,VN,VO,VP,VQ,VR,VS,VV,VW,VX,VY,VZ,Ub,Uc,Ud,Ue,Uf,Ug,Ul,Uq,Ut,Uu,Uv,Uy,Uz,U0,U1,U2,UW,UZ,Ta,Tc,Tk,Tl,Tn,Tp,Tq,Tr,Ts,Tu,Tw,Tx,Ty,Tz,TC,Sm,S5,S6,S8,S9,SA,SB,z,gl]
     tactic =>
      unfold x35l1
      rw [loop_rule ks.length (fun j=>s35b ws ks (uW u ks j) i j) (fun _=>gC2 x)]
      ·rw [huF]; (sym=>(simp [Za,Zb,Zf,Zg,Zh,Zj,Zl,Zm,Zv,Zx,Z3,Z4,Z9,ZE,ZF,ZN,ZO,ZS,ZT,ZW,Ya,Ye,Yf,Yh,Yo,Yq,Yu,Yv,Y7,YR,YX,YZ,Xc,Xn,Xo,Xr,Xt,Xw,XJ,XL,We,Wg,Wx,W0,W5,W6,W8,W9,WA,WB,WC,WE,WG,WH,WI,WJ,WK,WL,WM,WN,WO,WP,WQ,WR,WS,WU,WV,Vb,Ve,Vf,Vg,Vh,Vr,Vt,Vu,Vv,VM,VN,VO,VP,VQ,VR,VS,VV,VW,VX,VY,VZ,Ub,Uc,Ud,Ue,Uf,Ug,Ul,Uq,Ut,Uu,Uv,Uy,Uz,U0,U1,U2,UW,UZ,Ta,Tc,Tk,Tl,Tn,Tp,Tq,Tr,Ts,Tu,Tw,Tx,Ty,Tz,TC,Sm,S5,S6,S8,S9,SA,SB,z,gl,a2];all_goals tactic=>exact rfl))
      ·rw [u0]; (sym=>(simp [Za,Zb,Zf,Zg,Zh,Zj,Zl,Zm,Zv,Zx,Z3,Z4,Z9,ZE,ZF,ZN,ZO,ZS,ZT,ZW,Ya,Ye,Yf,Yh,Yo,Yq,Yu,Yv,Y7,YR,YX,YZ,Xc,Xn,Xo,Xr,Xt,Xw,XJ,XL,We,Wg,Wx,W0,W5,W6,W8,W9,WA,WB,WC,WE,WG,WH,WI,WJ,WK,WL,WM,WN,WO,WP,WQ,WR,WS,WU,WV,Vb,Ve,Vf,Vg,Vh,Vr,Vt,Vu,Vv,VM,VN,VO,VP,VQ,VR,VS,VV,VW,VX,VY,VZ,Ub,Uc,Ud,Ue,Uf,Ug,Ul,Uq,Ut,Uu,Uv,Uy,Uz,U0,U1,U2,UW,UZ,Ta,Tc,Tk,Tl,Tn,Tp,Tq,Tr,Ts,Tu,Tw,Tx,Ty,Tz,TC,Sm,S5,S6,S8,S9,SA,SB,gl];all_goals tactic=>exact rfl))
      ·exact rdb
      ·rw [huF]; (sym=>(simp [Za,Zb,Zf,Zg,Zh,Zj,Zl,Zm,Zv,Zx,Z3,Z4,Z9,ZE,ZF,ZN,ZO,ZS,ZT,ZW,Ya,Ye,Yf,Yh,Yo,Yq,Yu,Yv,Y7,YR,YX,YZ,Xc,Xn,Xo,Xr,Xt,Xw,XJ,XL,We,Wg,Wx,W0,W5,W6,W8,W9,WA,WB,WC,WE,WG,WH,WI,WJ,WK,WL,WM,WN,WO,WP,WQ,WR,WS,WU,WV,Vb,Ve,Vf,Vg,Vh,Vr,Vt,Vu,Vv,VM,VN,VO,VP,VQ,VR,VS,VV,VW,VX,VY,VZ,Ub,Uc,Ud,Ue,Uf,Ug,Ul,Uq,Ut,Uu,Uv,Uy,Uz,U0,U1,U2,UW,UZ,Ta,Tc,Tk,Tl,Tn,Tp,Tq,Tr,Ts,Tu,Tw,Tx,Ty,Tz,TC,Sm,S5,S6,S8,S9,SA,SB,z,gl];all_goals tactic=>exact rfl))
    ·(sym=>(simp [Za,Zb,Zf,Zg,Zh,Zj,Zl,Zm,Zv,Zx,Z3,Z4,Z9,ZE,ZF,ZN,ZO,ZS,ZT,ZW,Ya,Ye,Yf,Yh,Yo,Yq,Yu,Yv,Y7,YR,YX,YZ,Xc,Xn,Xo,Xr,Xt,Xw,XJ,XL,We,Wg,Wx,W0,W5,W6,W8,W9,WA,WB,WC,WE,WG,WH,WI,WJ,WK,WL,WM,WN,WO,WP,WQ,WR,WS,WU,WV,Vb,Ve,Vf,Vg,Vh,Vr,Vt,Vu,Vv,VM,VN,VO,VP,VQ,VR,VS,VV,VW,VX,VY,VZ,Ub,Uc,Ud,Ue,Uf,Ug,Ul,Uq,Ut,Uu,Uv,Uy,Uz,U0,U1,U2,UW,UZ,Ta,Tc,Tk,Tl,Tn,Tp,Tq,Tr,Ts,Tu,Tw,Tx,Ty,Tz,TC,Sm,S5,S6,S8,S9,SA,SB,gl];all_goals tactic=>exact rfl))
    ·exact rda
    ·(sym=>(simp [Za,Zb,Zf,Zg,Zh,Zj,Zl,Zm,Zv,Zx,Z3,Z4,Z9,ZE,ZF,ZN,ZO,ZS,ZT,ZW,Ya,Ye,Yf,Yh,Yo,Yq,Yu,Yv,Y7,YR,YX,YZ,Xc,Xn,Xo,Xr,Xt,Xw,XJ,XL,We,Wg,Wx,W0,W5,W6,W8,W9,WA,WB,WC,WE,WG,WH,WI,WJ,WK,WL,WM,WN,WO,WP,WQ,WR,WS,WU,WV,Vb,Ve,Vf,Vg,Vh,Vr,Vt,Vu,Vv,VM,VN,VO,VP,VQ,VR,VS,VV,VW,VX,VY,VZ,Ub,Uc,Ud,Ue,Uf,Ug,Ul,Uq,Ut,Uu,Uv,Uy,Uz,U0,U1,U2,UW,UZ,Ta,Tc,Tk,Tl,Tn,Tp,Tq,Tr,Ts,Tu,Tw,Tx,Ty,Tz,TC,Sm,S5,S6,S8,S9,SA,SB,z,gl];all_goals tactic=>exact rfl))
 ·rw [if_pos (by simpa using hf)] at h0;simp at h0
end
section
variable {x:Vn} (ok:x.Ok) {ws:List (List Int)} (hws:ws.length≤100) (hw:∀ w∈ws,w.length<1000000) {u i:Nat} (hu:u<2^x.F)
include ok hw hu in
theorem left35 {w:List Int} (hx:ws[i]?=some w) (h0:wayE x u w≠0):∃ e h,
 execW progX 35 0 none (match x35l2 with | .loop _ a=>a | c=>c) (envL [2,5,7,27,28,29] (s35 ws u i)) (gC2 x)=some (.ret,e,h)∧retX none x35.res x35.ownR 0 (some (.ret,e,h))=some (I (wayE x u w),[]):=by
 have hi:=lt_of hx
 have hwl:=hw w (List.mem_of_getElem? hx)
 have a1:=lt_ix hi
 unfold wayE at h0 ⊢
 by_cases hn:w=[]
 ·rw [if_pos hn]
  subst hn
  refine ret_of ?_ ?_
  ·unfold x35l2;dsimp only; (sym=>(simp [Za,Zb,Zf,Zg,Zh,Zj,Zl,Zm,Zv,Zx,Z3,Z4,Z9,ZE,ZF,ZN,ZO,ZS,ZT,ZW,Ya,Ye,Yf,Yo,Yq,Yu,Yv,Y7,YR,YX,YZ,Xc,Xn,Xo,Xr,Xt,Xw,XJ,XL,We,Wg,Wx,W0,W5,W6,W8,W9,WA,WB,WC,WE,WG,WH,WI,WJ,WK,WL,WM,WN,WO,WP,WQ,WR,WS,WU,WV,Vb,Ve,Vf,Vg,Vh,Vr,Vt,Vu,Vv,V5,VB,VM,VN,VO,VP,VQ,VR,VT,VV,VW,VX,VY,VZ,Ub,Uc,Ud,Ue,Uf,Ug,Ul,Um,Uq,Ut,Uu,Uv,Uy,Uz,U0,U1,U2,UZ,Ta,Tc,Tk,Tl,Tm,Tn,Tq,Tr,Tt,Tu,Tv,Tx,Ty,Tz,TC,Sm,S5,S6,S8,S9,SA,SB,a1,hx];all_goals tactic=>exact rfl))
  ·unfold x35l2;dsimp only; (sym=>(simp [Za,Zb,Zf,Zg,Zh,Zj,Zl,Zm,Zv,Zx,Z3,Z4,Z9,ZE,ZF,ZN,ZO,ZS,ZT,ZW,Ya,Ye,Yf,Yo,Yq,Yu,Yv,Y7,YR,YX,YZ,Xc,Xn,Xo,Xr,Xt,Xw,XJ,XL,We,Wg,Wx,W0,W5,W6,W8,W9,WA,WB,WC,WE,WG,WH,WI,WJ,WK,WL,WM,WN,WO,WP,WQ,WR,WS,WU,WV,Vb,Ve,Vf,Vg,Vh,Vr,Vt,Vu,Vv,V5,VB,VM,VN,VO,VP,VQ,VR,VT,VV,VW,VX,VY,VZ,Ub,Uc,Ud,Ue,Uf,Ug,Ul,Um,Uq,Ut,Uu,Uv,Uy,Uz,U0,U1,U2,UZ,Ta,Tc,Tk,Tl,Tm,Tn,Tq,Tr,Tt,Tu,Tv,Tx,Ty,Tz,TC,Sm,S5,S6,S8,S9,SA,SB,a1,hx];all_goals tactic=>exact rfl))
 rw [if_neg hn] at h0 ⊢
 have wpos:0<w.length:=List.length_pos_iff.2 hn
 by_cases hf:firstN (noF x w) w.length=0
 ·rw [if_neg (by simpa using hf)] at h0 ⊢
  obtain ⟨ks,rfl,hks⟩:=noF_nat hf
  rw [ofN_toNat,ofN_len] at *
  have hkn:ks≠[]:=fun h=>hn (by rw [h];rfl)
  have e70:=w70 ok (w:=ofN ks) (by rw [ofN_len];omega)
  rw [ofN_len,hf,show decide ((0:Int)≠0)=false from by decide] at e70
  have e72:=w72 ok hks hwl hkn
  have gl:=ofN_len ks
  have c0:((ks.length:Int)=0)=False:=eq_false (by omega)
  cases hld:leadsB x ks
  ·rw [hld] at e72
   rw [if_neg (by simp)]
   generalize ofN ks=os at *
   refine ret_of ?_ ?_
   ·unfold x35l2;dsimp only; (sym=>(simp [Za,Zb,Zf,Zg,Zh,Zj,Zl,Zm,Zv,Zx,Z3,Z4,Z9,ZE,ZF,ZN,ZO,ZS,ZT,ZW,Ya,Ye,Yf,Yo,Yq,Yu,Yv,Y7,YR,YX,YZ,Xc,Xn,Xo,Xr,Xt,Xw,XJ,XL,We,Wg,Wx,W0,W5,W6,W8,W9,WA,WB,WC,WE,WG,WH,WI,WJ,WK,WL,WM,WN,WO,WP,WQ,WR,WS,WU,WV,Vb,Ve,Vf,Vg,Vh,Vr,Vt,Vu,Vv,V5,VB,VM,VN,VO,VP,VQ,VR,VT,VV,VW,VX,VY,VZ,Ub,Uc,Ud,Ue,Uf,Ug,Ul,Um,Uq,Ut,Uu,Uv,Uy,Uz,U0,U1,U2,UZ,Ta,Tc,Tk,Tl,Tm,Tn,Tq,Tr,Tt,Tu,Tv,Tx,Ty,Tz,TC,Sm,S5,S6,S8,S9,SA,SB,a1,hx,gl,c0,e70,e72];all_goals tactic=>exact rfl))
   ·unfold x35l2;dsimp only; (sym=>(simp [Za,Zb,Zf,Zg,Zh,Zj,Zl,Zm,Zv,Zx,Z3,Z4,Z9,ZE,ZF,ZN,ZO,ZS,ZT,ZW,Ya,Ye,Yf,Yo,Yq,Yu,Yv,Y7,YR,YX,YZ,Xc,Xn,Xo,Xr,Xt,Xw,XJ,XL,We,Wg,Wx,W0,W5,W6,W8,W9,WA,WB,WC,WE,WG,WH,WI,WJ,WK,WL,WM,WN,WO,WP,WQ,WR,WS,WU,WV,Vb,Ve,Vf,Vg,Vh,Vr,Vt,Vu,Vv,V5,VB,VM,VN,VO,VP,VQ,VR,VT,VV,VW,VX,VY,VZ,Ub,Uc,Ud,Ue,Uf,Ug,Ul,Um,Uq,Ut,Uu,Uv,Uy,Uz,U0,U1,U2,UZ,Ta,Tc,Tk,Tl,Tm,Tn,Tq,Tr,Tt,Tu,Tv,Tx,Ty,Tz,TC,Sm,S5,S6,S8,S9,SA,SB,a1,hx,gl,c0,e70,e72];all_goals tactic=>exact rfl))
  ·rw [hld] at e72
   rw [hld,if_pos rfl] at h0
   rw [if_pos rfl]
   have hcf:firstN (cfE x u ks) ks.length≠0:=by
    by_cases h:firstN (cfE x u ks) ks.length=0
    ·rw [if_neg (by simpa using h)] at h0;exact absurd rfl h0
    ·exact h
   rw [if_pos hcf]
   obtain ⟨m,m1,m2,m3⟩:=firstN_ix (cfE x u ks) ks.length
   rcases m3 with ⟨_,m4⟩ | ⟨m3,m4,_⟩
   ·exact absurd m4 hcf
   ·have rda:=fun j (hj:j<m)=>round35a (ws:=ws) (i:=i) ok hks hwl hu (show j<ks.length by omega) (m2 j hj)
    obtain ⟨e,hh,q1,q2⟩:=left35a (ws:=ws) (i:=i) ok hks hu m3 m4
    refine ret_of ?_ ?_
    ·unfold x35l2
     dsimp only
     sym =>
      simp [Za,Zb,Zf,Zg,Zh,Zj,Zl,Zm,Zv,Zx,Z3,Z4,Z9,ZE,ZF,ZN,ZO,ZS,ZT,ZW,Ya,Ye,Yf,Yo,Yq,Yu,Yv,Y7,YR,YX,YZ,Xc,Xn,Xo,Xr,Xt,Xw,XJ,XL,We,Wg,Wx,W0,W5,W6,W8,W9,WA,WB,WC,WE,WG,WH,WI,WJ,WK,WL,WM,WN,WO,WP,WQ,WR,WS,WU,WV,Vb,Ve,Vf,Vg,Vh,Vr,Vt,Vu,Vv,V5,VB,VM,VN,VO,VP,VQ,VR,VT,VV,VW,VX,VY,VZ,Ub,Uc,Ud,Ue,Uf,Ug,Ul,Um,Uq,Ut,Uu,Uv,Uy,Uz,U0,U1,U2,UZ,Ta,Tc,Tk,Tl,Tm,Tn,Tq,Tr,Tt,Tu,Tv,Tx,Ty,Tz,TC,Sm,S5,S6,S8,S9,SA,SB,a1,hx,gl,c0,e70,e72]
      tactic =>
       unfold x35l0
       rw [loop_rule m (fun j=>s35a ws ks u i j) (fun _=>gC2 x)]
       ·unfold x35l0 at q1
        dsimp only at q1
        rw [q1]
        rfl
       ·(sym=>(simp [Za,Zb,Zf,Zg,Zh,Zj,Zl,Zm,Zv,Zx,Z3,Z4,Z9,ZE,ZF,ZN,ZO,ZS,ZT,ZW,Ya,Ye,Yf,Yo,Yq,Yu,Yv,Y7,YR,YX,YZ,Xc,Xn,Xo,Xr,Xt,Xw,XJ,XL,We,Wg,Wx,W0,W5,W6,W8,W9,WA,WB,WC,WE,WG,WH,WI,WJ,WK,WL,WM,WN,WO,WP,WQ,WR,WS,WU,WV,Vb,Ve,Vf,Vg,Vh,Vr,Vt,Vu,Vv,V5,VB,VM,VN,VO,VP,VQ,VR,VT,VV,VW,VX,VY,VZ,Ub,Uc,Ud,Ue,Uf,Ug,Ul,Um,Uq,Ut,Uu,Uv,Uy,Uz,U0,U1,U2,UZ,Ta,Tc,Tk,Tl,Tm,Tn,Tq,Tr,Tt,Tu,Tv,Tx,Ty,Tz,TC,Sm,S5,S6,S8,S9,SA,SB,gl];all_goals tactic=>exact rfl))
       ·exact rda
       ·unfold x35l0 at q1
        dsimp only at q1
        rw [q1]
        rfl
    ·unfold x35l2
     dsimp only
     sym =>
      simp [Za,Zb,Zf,Zg,Zh,Zj,Zl,Zm,Zv,Zx,Z3,Z4,Z9,ZE,ZF,ZN,ZO,ZS,ZT,ZW,Ya,Ye,Yf,Yo,Yq,Yu,Yv,Y7,YR,YX,YZ,Xc,Xn,Xo,Xr,Xt,Xw,XJ,XL,We,Wg,Wx,W0,W5,W6,W8,W9,WA,WB,WC,WE,WG,WH,WI,WJ,WK,WL,WM,WN,WO,WP,WQ,WR,WS,WU,WV,Vb,Ve,Vf,Vg,Vh,Vr,Vt,Vu,Vv,V5,VB,VM,VN,VO,VP,VQ,VR,VT,VV,VW,VX,VY,VZ,Ub,Uc,Ud,Ue,Uf,Ug,Ul,Um,Uq,Ut,Uu,Uv,Uy,Uz,U0,U1,U2,UZ,Ta,Tc,Tk,Tl,Tm,Tn,Tq,Tr,Tt,Tu,Tv,Tx,Ty,Tz,TC,Sm,S5,S6,S8,S9,SA,SB,a1,hx,gl,c0,e70,e72]
      tactic =>
       unfold x35l0
       rw [loop_rule m (fun j=>s35a ws ks u i j) (fun _=>gC2 x)]
       ·unfold x35l0 at q1
        dsimp only at q1
        rw [q1]
        exact q2
       ·(sym=>(simp [Za,Zb,Zf,Zg,Zh,Zj,Zl,Zm,Zv,Zx,Z3,Z4,Z9,ZE,ZF,ZN,ZO,ZS,ZT,ZW,Ya,Ye,Yf,Yo,Yq,Yu,Yv,Y7,YR,YX,YZ,Xc,Xn,Xo,Xr,Xt,Xw,XJ,XL,We,Wg,Wx,W0,W5,W6,W8,W9,WA,WB,WC,WE,WG,WH,WI,WJ,WK,WL,WM,WN,WO,WP,WQ,WR,WS,WU,WV,Vb,Ve,Vf,Vg,Vh,Vr,Vt,Vu,Vv,V5,VB,VM,VN,VO,VP,VQ,VR,VT,VV,VW,VX,VY,VZ,Ub,Uc,Ud,Ue,Uf,Ug,Ul,Um,Uq,Ut,Uu,Uv,Uy,Uz,U0,U1,U2,UZ,Ta,Tc,Tk,Tl,Tm,Tn,Tq,Tr,Tt,Tu,Tv,Tx,Ty,Tz,TC,Sm,S5,S6,S8,S9,SA,SB,gl];all_goals tactic=>exact rfl))
       ·exact rda
       ·unfold x35l0 at q1
        dsimp only at q1
        rw [q1]
        rfl
 ·rw [if_pos (by simpa using hf)]
  have e70:=w70 ok (w:=w) (by omega)
  rw [decide_eq_true hf] at e70
  have c0:((w.length:Int)=0)=False:=eq_false (by omega)
  refine ret_of ?_ ?_
  ·unfold x35l2;dsimp only; (sym=>(simp [Za,Zb,Zf,Zg,Zh,Zj,Zl,Zm,Zv,Zx,Z3,Z4,Z9,ZE,ZF,ZN,ZO,ZS,ZT,ZW,Ya,Ye,Yf,Yo,Yq,Yu,Yv,Y7,YR,YX,YZ,Xc,Xn,Xo,Xr,Xt,Xw,XJ,XL,We,Wg,Wx,W0,W5,W6,W8,W9,WA,WB,WC,WE,WG,WH,WI,WJ,WK,WL,WM,WN,WO,WP,WQ,WR,WS,WU,WV,Vb,Ve,Vf,Vg,Vh,Vr,Vt,Vu,Vv,V5,VB,VM,VN,VO,VP,VQ,VR,VT,VV,VW,VX,VY,VZ,Ub,Uc,Ud,Ue,Uf,Ug,Ul,Um,Uq,Ut,Uu,Uv,Uy,Uz,U0,U1,U2,UZ,Ta,Tc,Tk,Tl,Tm,Tn,Tq,Tr,Tt,Tu,Tv,Tx,Ty,Tz,TC,Sm,S5,S6,S8,S9,SA,SB,a1,hx,c0,e70];all_goals tactic=>exact rfl))
  ·unfold x35l2;dsimp only; (sym=>(simp [Za,Zb,Zf,Zg,Zh,Zj,Zl,Zm,Zv,Zx,Z3,Z4,Z9,ZE,ZF,ZN,ZO,ZS,ZT,ZW,Ya,Ye,Yf,Yo,Yq,Yu,Yv,Y7,YR,YX,YZ,Xc,Xn,Xo,Xr,Xt,Xw,XJ,XL,We,Wg,Wx,W0,W5,W6,W8,W9,WA,WB,WC,WE,WG,WH,WI,WJ,WK,WL,WM,WN,WO,WP,WQ,WR,WS,WU,WV,Vb,Ve,Vf,Vg,Vh,Vr,Vt,Vu,Vv,V5,VB,VM,VN,VO,VP,VQ,VR,VT,VV,VW,VX,VY,VZ,Ub,Uc,Ud,Ue,Uf,Ug,Ul,Um,Uq,Ut,Uu,Uv,Uy,Uz,U0,U1,U2,UZ,Ta,Tc,Tk,Tl,Tm,Tn,Tq,Tr,Tt,Tu,Tv,Tx,Ty,Tz,TC,Sm,S5,S6,S8,S9,SA,SB,a1,hx,c0,e70];all_goals tactic=>exact rfl))
end
def usN (ws:List (List Int)) (i:Nat):Nat:=(ws.take i).foldl uWi 0
theorem usN_up {ws:List (List Int)} {i:Nat} {w:List Int} (h:ws[i]?=some w):usN ws (i+1)=uWi (usN ws i) w:=fold_up h 0
def wayI (x:Vn) (ws:List (List Int)) (i:Nat):Int:=wayE x (usN ws i) (ws.getD i [])
def verE (x:Vn) (ws:List (List Int)):Int:=if 16<ws.length then 1 else firstN (wayI x ws) ws.length
theorem wayI_nat {x:Vn} {u:Nat} {w:List Int} (h:wayE x u w=0):∃ ks:List Nat,w=ofN ks∧∀ k∈ks,k<x.F:=by
 unfold wayE at h
 by_cases hn:w=[]
 ·rw [if_pos hn] at h;simp at h
 ·rw [if_neg hn] at h
  by_cases hf:firstN (noF x w) w.length=0
  ·exact noF_nat hf
  ·rw [if_pos hf] at h;simp at h
theorem usN_lt {x:Vn} {ws:List (List Int)}:∀ i,i≤ws.length→(∀ j,j<i→wayI x ws j=0)→usN ws i<2^x.F
 | 0,_,_=>Nat.two_pow_pos _
 | i+1,hi,h=>by
   have ih:=usN_lt i (by omega) (fun j hj=>h j (by omega))
   obtain ⟨w,hw⟩:=at_ix (l:=ws) (i:=i) (by omega)
   have h0:=h i (by omega)
   unfold wayI at h0
   rw [getD_of hw] at h0
   obtain ⟨ks,rfl,hks⟩:=wayI_nat h0
   rw [usN_up hw,uWi,ofN_toNat]
   exact uW_lt ih hks _
theorem w35 {x:Vn} (ok:x.Ok) {ws:List (List Int)} (hws:ws.length<1000000000) (hw:∀ w∈ws,w.length<1000000):runW progX 35 [.agg x.c,wL ws] []=some (I (verE x ws),[]):=by
 have h23:=ok.h23
 have e56:=w56 ok h23
 have z:=UW (n:=(ws.length:Int))
 unfold verE
 by_cases h16:16<ws.length
 ·rw [if_pos h16]
  have c1:((16:Int)<(ws.length:Int))=True:=eq_true (by omega)
  rw [r35 (by simp)];unfold x35;dsimp only
  (sym=>(simp [Za,Zb,Zf,Zg,Zh,Zj,Zl,Zm,Zo,Zv,Zz,Z3,ZD,ZE,ZF,ZN,ZO,ZS,ZT,Ya,Yg,Yp,Yq,Ys,Y7,YR,YU,YX,YZ,Xe,Xg,Xh,Xn,Xp,Xq,Xr,Xt,Xy,Wa,Wc,We,Wo,Wx,Wy,Wz,W3,W4,W5,W7,W8,W9,WA,WC,WE,WF,WG,WH,WI,WJ,WK,WM,WN,WO,WP,WQ,WR,WU,WV,Vb,Ve,Vf,Vg,Vr,Vt,Vu,Vw,Vx,Vz,V5,V6,V8,V9,VA,VB,VC,VF,VG,VH,VI,VK,VM,VN,VO,VP,VQ,VR,VS,VU,VV,VW,VX,VY,VZ,Ub,Uc,Ud,Ue,Ug,Ui,Ul,Ut,Uu,Uv,Uz,U0,U1,U2,U3,U4,U9,UA,UK,UL,UW,UX,UY,Tb,Tf,Tk,Tl,Tm,Tn,Tp,Tq,Tr,Ts,Tt,Tu,Tv,Tw,Tx,Ty,Tz,TC,Sm,S5,S6,S7,S9,SA,SB,e56,c1];all_goals tactic=>exact rfl))
 ·rw [if_neg h16]
  have c1:((16:Int)<(ws.length:Int))=False:=eq_false (by omega)
  have u0:usN ws 0=0:=rfl
  obtain ⟨m,m1,m2,m3⟩:=firstN_ix (wayI x ws) ws.length
  have hus:=fun i (hi:i≤m)=>usN_lt (x:=x) (ws:=ws) i (by omega) (fun j hj=>m2 j (by omega))
  have rd:∀ i,i<m→headX 0 [2,5,7,27,28,29] (execW progX 35 0 none (match x35l2 with | .loop _ a=>a | c=>c) (envL [2,5,7,27,28,29] (s35 ws (usN ws i) i)) (gC2 x))=some (s35 ws (usN ws (i+1)) (i+1),gC2 x):=by
   intro i hi
   obtain ⟨w,hx⟩:=at_ix (l:=ws) (i:=i) (by omega)
   have h0:=m2 i hi
   unfold wayI at h0
   rw [getD_of hx] at h0
   rw [usN_up hx]
   exact (round35 ok (by omega) hw (hus i (by omega)) hx h0).1
  rcases m3 with ⟨rfl,m4⟩ | ⟨m3,m4,m5⟩
  ·rw [m4]
   generalize huF:usN ws ws.length=uF at *
   rw [r35 (by simp)];unfold x35;dsimp only
   sym =>
    simp [Za,Zb,Zf,Zg,Zh,Zj,Zl,Zm,Zo,Zv,Zz,Z3,ZD,ZE,ZF,ZN,ZO,ZS,ZT,Ya,Yg,Yp,Yq,Ys,Y7,YR,YU,YX,YZ,Xe,Xg,Xh,Xn,Xp,Xq,Xr,Xt,Xy,Wa,Wc,We,Wo,Wx,Wy,Wz,W3,W4,W5,W7,W8,W9,WA,WC,WE,WF,WG,WH,WI,WJ,WK,WM,WN,WO,WP,WQ,WR,WU,WV,Vb,Ve,Vf,Vg,Vr,Vt,Vu,Vw,Vx,Vz,V5,V6,V8,V9,VA,VB,VC,VF,VG,VH,VI,VK,VM,VN,VO,VP,VQ,VR,VS,VU,VV,VW,VX,VY,VZ,Ub,Uc,Ud,Ue,Ug,Ui,Ul,Ut,Uu,Uv,Uz,U0,U1,U2,U3,U4,U9,UA,UK,UL,UW,UX,UY,Tb,Tf,Tk,Tl,Tm,Tn,Tp,Tq,Tr,Ts,Tt,Tu,Tv,Tw,Tx,Ty,Tz,TC,Sm,S5,S6,S7,S9,SA,SB,e56,c1]
    tactic =>
     unfold x35l2
     rw [loop_rule ws.length (fun i=>s35 ws (usN ws i) i) (fun _=>gC2 x)]
     ·rw [huF]; (sym=>(simp [Za,Zb,Zf,Zg,Zh,Zj,Zl,Zm,Zo,Zv,Zz,Z3,ZD,ZE,ZF,ZN,ZO,ZS,ZT,Ya,Yg,Yp,Yq,Ys,Y7,YR,YU,YX,YZ,Xe,Xg,Xh,Xn,Xp,Xq,Xr,Xt,Xy,Wa,Wc,We,Wo,Wx,Wy,Wz,W3,W4,W5,W7,W8,W9,WA,WC,WE,WF,WG,WH,WI,WJ,WK,WM,WN,WO,WP,WQ,WR,WU,WV,Vb,Ve,Vf,Vg,Vr,Vt,Vu,Vw,Vx,Vz,V5,V6,V8,V9,VA,VB,VC,VF,VG,VH,VI,VK,VM,VN,VO,VP,VQ,VR,VS,VU,VV,VW,VX,VY,VZ,Ub,Uc,Ud,Ue,Ug,Ui,Ul,Ut,Uu,Uv,Uz,U0,U1,U2,U3,U4,U9,UA,UK,UL,UW,UX,UY,Tb,Tf,Tk,Tl,Tm,Tn,Tp,Tq,Tr,Ts,Tt,Tu,Tv,Tw,Tx,Ty,Tz,TC,Sm,S5,S6,S7,S9,SA,SB,z];all_goals tactic=>exact rfl))
     ·rw [u0]; (sym=>(simp [Za,Zb,Zf,Zg,Zh,Zj,Zl,Zm,Zo,Zv,Zz,Z3,ZD,ZE,ZF,ZN,ZO,ZS,ZT,Ya,Yg,Yp,Yq,Ys,Y7,YR,YU,YX,YZ,Xe,Xg,Xh,Xn,Xp,Xq,Xr,Xt,Xy,Wa,Wc,We,Wo,Wx,Wy,Wz,W3,W4,W5,W7,W8,W9,WA,WC,WE,WF,WG,WH,WI,WJ,WK,WM,WN,WO,WP,WQ,WR,WU,WV,Vb,Ve,Vf,Vg,Vr,Vt,Vu,Vw,Vx,Vz,V5,V6,V8,V9,VA,VB,VC,VF,VG,VH,VI,VK,VM,VN,VO,VP,VQ,VR,VS,VU,VV,VW,VX,VY,VZ,Ub,Uc,Ud,Ue,Ug,Ui,Ul,Ut,Uu,Uv,Uz,U0,U1,U2,U3,U4,U9,UA,UK,UL,UW,UX,UY,Tb,Tf,Tk,Tl,Tm,Tn,Tp,Tq,Tr,Ts,Tt,Tu,Tv,Tw,Tx,Ty,Tz,TC,Sm,S5,S6,S7,S9,SA,SB];all_goals tactic=>exact rfl))
     ·exact rd
     ·rw [huF]; (sym=>(simp [Za,Zb,Zf,Zg,Zh,Zj,Zl,Zm,Zo,Zv,Zz,Z3,ZD,ZE,ZF,ZN,ZO,ZS,ZT,Ya,Yg,Yp,Yq,Ys,Y7,YR,YU,YX,YZ,Xe,Xg,Xh,Xn,Xp,Xq,Xr,Xt,Xy,Wa,Wc,We,Wo,Wx,Wy,Wz,W3,W4,W5,W7,W8,W9,WA,WC,WE,WF,WG,WH,WI,WJ,WK,WM,WN,WO,WP,WQ,WR,WU,WV,Vb,Ve,Vf,Vg,Vr,Vt,Vu,Vw,Vx,Vz,V5,V6,V8,V9,VA,VB,VC,VF,VG,VH,VI,VK,VM,VN,VO,VP,VQ,VR,VS,VU,VV,VW,VX,VY,VZ,Ub,Uc,Ud,Ue,Ug,Ui,Ul,Ut,Uu,Uv,Uz,U0,U1,U2,U3,U4,U9,UA,UK,UL,UW,UX,UY,Tb,Tf,Tk,Tl,Tm,Tn,Tp,Tq,Tr,Ts,Tt,Tu,Tv,Tw,Tx,Ty,Tz,TC,Sm,S5,S6,S7,S9,SA,SB,z];all_goals tactic=>exact rfl))
  ·rw [m5]
   obtain ⟨w,hx⟩:=at_ix m3
   unfold wayI at m4 ⊢
   rw [getD_of hx] at m4 ⊢
   obtain ⟨e,hh,q1,q2⟩:=left35 ok hw (hus m (Nat.le_refl _)) hx m4
   generalize wayE x (usN ws m) w=er at *
   rw [r35 (by simp)];unfold x35;dsimp only
   sym =>
    simp [Za,Zb,Zf,Zg,Zh,Zj,Zl,Zm,Zo,Zv,Zz,Z3,ZD,ZE,ZF,ZN,ZO,ZS,ZT,Ya,Yg,Yp,Yq,Ys,Y7,YR,YU,YX,YZ,Xe,Xg,Xh,Xn,Xp,Xq,Xr,Xt,Xy,Wa,Wc,We,Wo,Wx,Wy,Wz,W3,W4,W5,W7,W8,W9,WA,WC,WE,WF,WG,WH,WI,WJ,WK,WM,WN,WO,WP,WQ,WR,WU,WV,Vb,Ve,Vf,Vg,Vr,Vt,Vu,Vw,Vx,Vz,V5,V6,V8,V9,VA,VB,VC,VF,VG,VH,VI,VK,VM,VN,VO,VP,VQ,VR,VS,VU,VV,VW,VX,VY,VZ,Ub,Uc,Ud,Ue,Ug,Ui,Ul,Ut,Uu,Uv,Uz,U0,U1,U2,U3,U4,U9,UA,UK,UL,UW,UX,UY,Tb,Tf,Tk,Tl,Tm,Tn,Tp,Tq,Tr,Ts,Tt,Tu,Tv,Tw,Tx,Ty,Tz,TC,Sm,S5,S6,S7,S9,SA,SB,e56,c1]
    tactic =>
     unfold x35l2
     rw [loop_rule m (fun i=>s35 ws (usN ws i) i) (fun _=>gC2 x)]
     ·unfold x35l2 at q1
      dsimp only at q1
      rw [q1]
      exact q2
     ·rw [u0]; (sym=>(simp [Za,Zb,Zf,Zg,Zh,Zj,Zl,Zm,Zo,Zv,Zz,Z3,ZD,ZE,ZF,ZN,ZO,ZS,ZT,Ya,Yg,Yp,Yq,Ys,Y7,YR,YU,YX,YZ,Xe,Xg,Xh,Xn,Xp,Xq,Xr,Xt,Xy,Wa,Wc,We,Wo,Wx,Wy,Wz,W3,W4,W5,W7,W8,W9,WA,WC,WE,WF,WG,WH,WI,WJ,WK,WM,WN,WO,WP,WQ,WR,WU,WV,Vb,Ve,Vf,Vg,Vr,Vt,Vu,Vw,Vx,Vz,V5,V6,V8,V9,VA,VB,VC,VF,VG,VH,VI,VK,VM,VN,VO,VP,VQ,VR,VS,VU,VV,VW,VX,VY,VZ,Ub,Uc,Ud,Ue,Ug,Ui,Ul,Ut,Uu,Uv,Uz,U0,U1,U2,U3,U4,U9,UA,UK,UL,UW,UX,UY,Tb,Tf,Tk,Tl,Tm,Tn,Tp,Tq,Tr,Ts,Tt,Tu,Tv,Tw,Tx,Ty,Tz,TC,Sm,S5,S6,S7,S9,SA,SB];all_goals tactic=>exact rfl))
     ·exact rd
     ·unfold x35l2 at q1
      dsimp only at q1
      rw [q1]
      rfl
theorem setW_bit (ks:List Nat) (f:Nat):(setW ks ks.length).testBit f=true↔f∈ks:=by
 have:∀ (l:List Nat) (o:Nat),(l.foldl (fun s k=>s|||2^k) o).testBit f=true↔o.testBit f=true∨f∈l:=by
  intro l
  induction l with
  | nil=>intro o;simp
  | cons k l ih =>
    intro o
    rw [List.foldl_cons,ih,or_bit,Bool.or_eq_true,decide_eq_true_eq,List.mem_cons,or_assoc]
    have:(k=f)↔(f=k):=⟨Eq.symm,Eq.symm⟩
    rw [this]
 rw [setW,List.take_length,this];simp
theorem uW_or (u:Nat) (ks:List Nat):uW u ks ks.length=u|||setW ks ks.length:=by
 have:∀ (l:List Nat) (o:Nat),l.foldl (fun s k=>s|||2^k) o=o|||l.foldl (fun s k=>s|||2^k) 0:=by
  intro l
  induction l with
  | nil=>intro o;simp
  | cons k l ih =>
    intro o
    rw [List.foldl_cons,List.foldl_cons,ih,ih (0|||2^k),Nat.zero_or,Nat.or_assoc]
 rw [uW,setW,List.take_length,this]
section
variable {x:Vn} (ok:x.Ok) {ws:List (List Int)} {u i:Nat}
end
section
variable {x:Vn} (ok:x.Ok) {ws:List (List Int)} (hws:ws.length≤100) (hw:∀ w∈ws,w.length<1000000) {u i:Nat} (hu:u<2^x.F)
include ok hu in
end
section
variable {x:Vn} (ok:x.Ok) {ws:List (List Int)} (hws:ws.length≤100) (hw:∀ w∈ws,w.length<1000000) {u i:Nat} (hu:u<2^x.F)
include ok hws hw hu in
end
theorem w67 (k:Int):runW progX 67 [I k] []=some (.bool (decide (0<k)),[]):=by
 rcases ptf (0<k) with h | h
 ·rw [show decide (0<k)=true from by simp [h]]
  rw [r67 (by simp)];unfold x67;dsimp only
  (sym=>(simp [net_nm,net_rn,net_gr,net_fz,net_0,net_len,Za,Zb,Zf,Zh,Zl,Zm,Zv,Z3,Ys,YT,Xo,Xz,Wa,Wb,W7,WG,WK,WL,WN,WO,Vr,V5,V6,V8,V9,VA,VB,VC,VF,VG,VH,VI,VK,VU,VW,VZ,Ub,Ud,Uu,Uv,Uy,Uz,U0,U9,UA,Tk,Tl,Tm,Tr,Ty,Tz,Sm,h];all_goals tactic=>exact rfl))
 ·rw [show decide (0<k)=false from by simp [h]]
  rw [r67 (by simp)];unfold x67;dsimp only
  (sym=>(simp [net_nm,net_rn,net_gr,net_fz,net_0,net_len,Za,Zb,Zf,Zh,Zl,Zm,Zv,Z3,Ys,YT,Xo,Xz,Wa,Wb,W7,WG,WK,WL,WN,WO,Vr,V5,V6,V8,V9,VA,VB,VC,VF,VG,VH,VI,VK,VU,VW,VZ,Ub,Ud,Uu,Uv,Uy,Uz,U0,U9,UA,Tk,Tl,Tm,Tr,Ty,Tz,Sm,h];all_goals tactic=>exact rfl))
def goE (fl:Nat→Nat→Int) (a i:Nat):Int:=if 0<fl a i then 1 else 0
section
variable {l:List AV} {fl:Nat→Nat→Int} {a:Nat} (ha:a<34)
abbrev s66 (a i:Nat):List AV:=[.sl 0 (1+a*34) 1 34,.fn (.func 67) [] [],I 34,I (i:Nat)]
include ha in
theorem round66n {i:Nat} (hi:i<34) (h0:goE fl a i=0) :
 headX 2 [0,1,7,8] (execW progX 66 2 none (match x66l0 with | .loop _ a=>a | c=>c) (envL [0,1,7,8] (s66 a i)) (gN l fl))=some (s66 a (i+1),gN l fl):=by
 have a1:((i:Int)<34)=True:=eq_true (by omega)
 have a0:((0:Int)≤i)=True:=eq_true (by omega)
 have a2:IntKind.i64.wrap ((i:Int)+1)=(i:Int)+1:=wrap_ok (by omega) (by omega)
 have k1:=net_at (v:=.pt 1 0) (fl:=fl) ha hi
 have e:=w67 (fl a i)
 unfold goE at h0
 have hk:¬0<fl a i:=fun h=>by rw [if_pos h] at h0;simp at h0
 rw [decide_eq_false hk] at e
 unfold x66l0
 dsimp only
 (sym=>(simp [net_nm,net_rn,net_gr,net_fz,net_0,net_len,Za,Zb,Zf,Zh,Zl,Zm,Zv,Z3,Z9,ZF,ZN,ZO,ZS,ZT,Yc,Yh,Yq,Yu,Yv,YR,YY,YZ,Xc,Xn,Xo,Xs,Xt,Xw,Wx,Wy,Wz,W6,W9,WE,WG,WI,WJ,WK,WL,WM,WN,WO,WQ,WR,WU,WV,WW,WZ,Vb,Vc,Ve,Vf,Vg,VM,VN,VO,VP,VQ,VR,VV,VW,VX,VY,VZ,Ua,Ub,Uc,Ud,Uq,Ut,Uu,Uy,Uz,U0,U1,U2,UX,UY,Tc,Tk,Tl,Tn,Tq,Tr,Tu,Tx,Ty,Tz,TA,S2,a0,a1,a2,k1,e];all_goals tactic=>exact rfl))
include ha in
theorem left66n {i:Nat} (hi:i<34) (h0:goE fl a i≠0):∃ e h,
 execW progX 66 2 none (match x66l0 with | .loop _ a=>a | c=>c) (envL [0,1,7,8] (s66 a i)) (gN l fl)=some (.ret,e,h)∧retX none x66.res x66.ownR 2 (some (.ret,e,h))=some (I (i:Nat),gN l fl):=by
 have a1:((i:Int)<34)=True:=eq_true (by omega)
 have a0:((0:Int)≤i)=True:=eq_true (by omega)
 have k1:=net_at (v:=.pt 1 0) (fl:=fl) ha hi
 have e:=w67 (fl a i)
 unfold goE at h0
 have hk:0<fl a i:=by
  by_cases h:0<fl a i
  ·exact h
  ·rw [if_neg h] at h0;exact absurd rfl h0
 rw [decide_eq_true hk] at e
 refine ret_of ?_ ?_
 ·unfold x66l0;dsimp only; (sym=>(simp [net_nm,net_rn,net_gr,net_fz,net_0,net_len,Za,Zb,Zf,Zh,Zl,Zm,Zv,Z3,Z9,ZF,ZN,ZO,ZS,ZT,Yc,Yq,Yu,Yv,YR,Xn,Xo,Wx,Wy,Wz,W6,WG,WJ,WL,WQ,WR,Ve,Vf,Vg,V5,VB,VM,VP,VQ,VT,VV,VW,VY,VZ,Uc,Ud,Uq,Uu,Uy,Uz,U0,U1,U2,UX,UY,Tc,Tk,Tl,Tm,Tn,Tq,Tr,Tt,Tv,Ty,TA,S2,a0,a1,k1,e];all_goals tactic=>exact rfl))
 ·unfold x66l0;dsimp only; (sym=>(simp [net_nm,net_rn,net_gr,net_fz,net_0,net_len,Za,Zb,Zf,Zh,Zl,Zm,Zv,Z3,Z9,ZF,ZN,ZO,ZS,ZT,Yc,Yq,Yu,Yv,YR,Xn,Xo,Wx,Wy,Wz,W6,WG,WJ,WL,WQ,WR,Ve,Vf,Vg,V5,VB,VM,VP,VQ,VT,VV,VW,VY,VZ,Uc,Ud,Uq,Uu,Uy,Uz,U0,U1,U2,UX,UY,Tc,Tk,Tl,Tm,Tn,Tq,Tr,Tt,Tv,Ty,TA,S2,a0,a1,k1,e];all_goals tactic=>exact rfl))
include ha in
theorem w66n {d:Nat} (hd:d<34) (hp:0<fl a d):∃ m,m<34∧0<fl a m∧runW progX 66 [.sl 0 (1+a*34) 1 34,.fn (.func 67) [] []] (gN l fl)=some (I (m:Nat),gN l fl):=by
 obtain ⟨m,m1,m2,m3⟩:=firstN_ix (goE fl a) 34
 have hne:goE fl a d≠0:=by unfold goE;rw [if_pos hp];decide
 rcases m3 with ⟨_,m4⟩ | ⟨m3,m4,_⟩
 ·exact absurd (firstN_0 m4 d hd) hne
 ·have hk:0<fl a m:=by
   unfold goE at m4
   by_cases h:0<fl a m
   ·exact h
   ·rw [if_neg h] at m4;exact absurd rfl m4
  have rd:=fun i (hi:i<m)=>round66n (l:=l) (fl:=fl) ha (show i<34 by omega) (m2 i hi)
  obtain ⟨e,hh,q1,q2⟩:=left66n (l:=l) (fl:=fl) ha m3 m4
  refine ⟨m,m3,hk,?_⟩
  rw [r66 (by simp)];unfold x66;dsimp only
  sym =>
   simp [net_nm,net_rn,net_gr,net_fz,net_0,net_len,Za,Zb,Zf,Zh,Zl,Zm,Zv,ZE,Yb,Y7,YR,YY,YZ,Xc,Xn,Xs,Xt,Xw,Wf,Wj,W7,W9,WE,WG,WI,WK,WL,WM,WN,WO,WU,WV,WW,WZ,Vb,Vc,VK,VN,VO,VU,VV,VW,VX,VY,VZ,Ua,Ub,Uc,Ud,Ut,Uy,Uz,U0,U1,U2,U9,UA,Tl,Tq,Tr,Tx,Ty,Tz,S2]
   tactic =>
    unfold x66l0
    rw [loop_rule m (fun i=>s66 a i) (fun _=>gN l fl)]
    ·unfold x66l0 at q1
     dsimp only at q1
     rw [q1]
     exact q2
    ·(sym=>(simp [net_nm,net_rn,net_gr,net_fz,net_0,net_len,Za,Zb,Zf,Zh,Zl,Zm,Zv,ZE,Yb,Y7,YR,YY,YZ,Xc,Xn,Xs,Xt,Xw,Wf,Wj,W7,W9,WE,WG,WI,WK,WL,WM,WN,WO,WU,WV,WW,WZ,Vb,Vc,VK,VN,VO,VU,VV,VW,VX,VY,VZ,Ua,Ub,Uc,Ud,Ut,Uy,Uz,U0,U1,U2,U9,UA,Tl,Tq,Tr,Tx,Ty,Tz,S2];all_goals tactic=>exact rfl))
    ·exact rd
    ·unfold x66l0 at q1
     dsimp only at q1
     rw [q1]
     rfl
end
def ixE (ks:List Int) (f:Int) (i:Nat):Int:=if f=ks.getD i 0 then 1 else 0
section
variable {ks:List Int} {f:Int} (hl:ks.length<1000000)
abbrev s68 (ks:List Int) (f:Int) (i:Nat):List AV:=[.sl 0 0 1 ks.length,I f,I ks.length,I (i:Nat)]
abbrev g68 (ks:List Int):XH:=[some (.blk true (.cells true (ks.map I)))]
include hl in
theorem round68 {i:Nat} (hi:i<ks.length) (h0:ixE ks f i=0) :
 headX 1 [0,1,7,8] (execW progX 68 1 none (match x68l0 with | .loop _ a=>a | c=>c) (envL [0,1,7,8] (s68 ks f i)) (g68 ks))=some (s68 ks f (i+1),g68 ks):=by
 obtain ⟨v,hv⟩:=at_ix hi
 have a1:=lt_ix hi
 have a0:((0:Int)≤i)=True:=eq_true (by omega)
 have a2:=up_ix hi (by omega)
 unfold ixE at h0
 rw [getD_of hv] at h0
 have hne:(f=v)=False:=eq_false (fun h=>by rw [if_pos h] at h0;simp at h0)
 unfold x68l0
 dsimp only
 (sym=>(simp [Za,Zb,Zf,Zh,Zl,Zm,Zv,Z3,Z9,ZF,Yc,Yh,Yo,Yq,Yu,Yv,YR,YY,Xn,Xs,Wx,Wy,Wz,W9,WE,WG,WI,WK,WL,WM,WN,WO,WU,WV,WZ,Vb,VM,VN,VO,VP,VQ,VR,VV,VW,VZ,Ua,Ub,Uf,Ug,Uq,Ut,Uu,Uv,Uy,Uz,U0,U1,U2,UX,UY,Tc,Tk,Tl,Tn,Tq,Tr,Tu,Tx,Ty,Tz,TA,TB,a0,a1,a2,hv,hne];all_goals tactic=>exact rfl))
theorem left68 {i:Nat} (hi:i<ks.length) (h0:ixE ks f i≠0):∃ e h,
 execW progX 68 1 none (match x68l0 with | .loop _ a=>a | c=>c) (envL [0,1,7,8] (s68 ks f i)) (g68 ks)=some (.ret,e,h)∧retX none x68.res x68.ownR 1 (some (.ret,e,h))=some (I (i:Nat),g68 ks):=by
 obtain ⟨v,hv⟩:=at_ix hi
 have a1:=lt_ix hi
 have a0:((0:Int)≤i)=True:=eq_true (by omega)
 unfold ixE at h0
 rw [getD_of hv] at h0
 have heq:f=v:=by
  by_cases h:f=v
  ·exact h
  ·rw [if_neg h] at h0;exact absurd rfl h0
 have hne:(f=v)=True:=eq_true heq
 refine ret_of ?_ ?_
 ·unfold x68l0;dsimp only; (sym=>(simp [Za,Zb,Zf,Zh,Zl,Zm,Zv,Z3,Z9,ZF,Yc,Yo,Yq,Yu,Yv,Wx,Wy,Wz,V5,VB,VM,VP,VQ,VT,Uf,Ug,Uq,Uu,UX,UY,Tc,Tk,Tl,Tm,Tn,Tq,Tr,Tt,Tv,Ty,TA,TB,a0,a1,hv,hne];all_goals tactic=>exact rfl))
 ·unfold x68l0;dsimp only; (sym=>(simp [Za,Zb,Zf,Zh,Zl,Zm,Zv,Z3,Z9,ZF,Yc,Yo,Yq,Yu,Yv,Wx,Wy,Wz,V5,VB,VM,VP,VQ,VT,Uf,Ug,Uq,Uu,UX,UY,Tc,Tk,Tl,Tm,Tn,Tq,Tr,Tt,Tv,Ty,TA,TB,a0,a1,hv,hne];all_goals tactic=>exact rfl))
include hl in
theorem w68:(f∉ks∧runW progX 68 [.sl 0 0 1 ks.length,I f] (g68 ks)=some (I (-1),g68 ks))∨(∃ m,ks[m]?=some f∧runW progX 68 [.sl 0 0 1 ks.length,I f] (g68 ks)=some (I (m:Nat),g68 ks)):=by
 have z:=UW (n:=(ks.length:Int))
 obtain ⟨m,m1,m2,m3⟩:=firstN_ix (ixE ks f) ks.length
 rcases m3 with ⟨rfl,m4⟩ | ⟨m3,m4,_⟩
 ·left
  have rd:=fun i (hi:i<ks.length)=>round68 hl hi (m2 i hi)
  refine ⟨fun hm=>?_,?_⟩
  ·obtain ⟨i,hi⟩:=List.getElem?_of_mem hm
   have:=m2 i (lt_of hi)
   unfold ixE at this
   rw [getD_of hi,if_pos rfl] at this
   simp at this
  ·rw [r68 (by simp)];unfold x68;dsimp only
   sym =>
    simp [Za,Zb,Zf,Zh,Zl,Zm,Zv,Z3,ZE,Yb,Yq,Y7,YR,YY,Xn,Xs,Xy,Wa,Wf,W7,W9,WE,WG,WI,WK,WL,WM,WN,WO,WU,WV,WZ,Vb,Vr,V5,V6,V8,V9,VA,VB,VC,VF,VG,VH,VI,VK,VM,VN,VO,VP,VR,VS,VU,VV,VW,VZ,Ua,Ub,Uc,Ud,Ut,Uv,Uy,Uz,U0,U1,U2,U9,UA,UW,Tk,Tl,Tm,Tp,Tq,Tr,Ts,Tw,Tx,Ty,Tz,Sm]
    tactic =>
     unfold x68l0
     rw [loop_rule ks.length (fun i=>s68 ks f i) (fun _=>g68 ks)]
     ·(sym=>(simp [Za,Zb,Zf,Zh,Zl,Zm,Zv,Z3,ZE,Yb,Yq,Y7,YR,YY,Xn,Xs,Xy,Wa,Wf,W7,W9,WE,WG,WI,WK,WL,WM,WN,WO,WU,WV,WZ,Vb,Vr,V5,V6,V8,V9,VA,VB,VC,VF,VG,VH,VI,VK,VM,VN,VO,VP,VR,VS,VU,VV,VW,VZ,Ua,Ub,Uc,Ud,Ut,Uv,Uy,Uz,U0,U1,U2,U9,UA,UW,Tk,Tl,Tm,Tp,Tq,Tr,Ts,Tw,Tx,Ty,Tz,Sm,z];all_goals tactic=>exact rfl))
     ·(sym=>(simp [Za,Zb,Zf,Zh,Zl,Zm,Zv,Z3,ZE,Yb,Yq,Y7,YR,YY,Xn,Xs,Xy,Wa,Wf,W7,W9,WE,WG,WI,WK,WL,WM,WN,WO,WU,WV,WZ,Vb,Vr,V5,V6,V8,V9,VA,VB,VC,VF,VG,VH,VI,VK,VM,VN,VO,VP,VR,VS,VU,VV,VW,VZ,Ua,Ub,Uc,Ud,Ut,Uv,Uy,Uz,U0,U1,U2,U9,UA,UW,Tk,Tl,Tm,Tp,Tq,Tr,Ts,Tw,Tx,Ty,Tz,Sm];all_goals tactic=>exact rfl))
     ·exact rd
     ·(sym=>(simp [Za,Zb,Zf,Zh,Zl,Zm,Zv,Z3,ZE,Yb,Yq,Y7,YR,YY,Xn,Xs,Xy,Wa,Wf,W7,W9,WE,WG,WI,WK,WL,WM,WN,WO,WU,WV,WZ,Vb,Vr,V5,V6,V8,V9,VA,VB,VC,VF,VG,VH,VI,VK,VM,VN,VO,VP,VR,VS,VU,VV,VW,VZ,Ua,Ub,Uc,Ud,Ut,Uv,Uy,Uz,U0,U1,U2,U9,UA,UW,Tk,Tl,Tm,Tp,Tq,Tr,Ts,Tw,Tx,Ty,Tz,Sm,z];all_goals tactic=>exact rfl))
 ·right
  have rd:=fun i (hi:i<m)=>round68 hl (show i<ks.length by omega) (m2 i hi)
  obtain ⟨e,hh,q1,q2⟩:=left68 m3 m4
  obtain ⟨v,hv⟩:=at_ix m3
  have heq:f=v:=by
   unfold ixE at m4
   rw [getD_of hv] at m4
   by_cases h:f=v
   ·exact h
   ·rw [if_neg h] at m4;exact absurd rfl m4
  refine ⟨m,by rw [heq];exact hv,?_⟩
  rw [r68 (by simp)];unfold x68;dsimp only
  sym =>
   simp [Za,Zb,Zf,Zh,Zl,Zm,Zv,Z3,ZE,Yb,Yq,Y7,YR,YY,Xn,Xs,Xy,Wa,Wf,W7,W9,WE,WG,WI,WK,WL,WM,WN,WO,WU,WV,WZ,Vb,Vr,V5,V6,V8,V9,VA,VB,VC,VF,VG,VH,VI,VK,VM,VN,VO,VP,VR,VS,VU,VV,VW,VZ,Ua,Ub,Uc,Ud,Ut,Uv,Uy,Uz,U0,U1,U2,U9,UA,UW,Tk,Tl,Tm,Tp,Tq,Tr,Ts,Tw,Tx,Ty,Tz,Sm]
   tactic =>
    unfold x68l0
    rw [loop_rule m (fun i=>s68 ks f i) (fun _=>g68 ks)]
    ·unfold x68l0 at q1
     dsimp only at q1
     rw [q1]
     exact q2
    ·(sym=>(simp [Za,Zb,Zf,Zh,Zl,Zm,Zv,Z3,ZE,Yb,Yq,Y7,YR,YY,Xn,Xs,Xy,Wa,Wf,W7,W9,WE,WG,WI,WK,WL,WM,WN,WO,WU,WV,WZ,Vb,Vr,V5,V6,V8,V9,VA,VB,VC,VF,VG,VH,VI,VK,VM,VN,VO,VP,VR,VS,VU,VV,VW,VZ,Ua,Ub,Uc,Ud,Ut,Uv,Uy,Uz,U0,U1,U2,U9,UA,UW,Tk,Tl,Tm,Tp,Tq,Tr,Ts,Tw,Tx,Ty,Tz,Sm];all_goals tactic=>exact rfl))
    ·exact rd
    ·unfold x68l0 at q1
     dsimp only at q1
     rw [q1]
     rfl
end
theorem w68n (f:Int):runW progX 68 [.nilsl,I f] []=some (I (-1),[]):=by
 rw [r68 (by simp)];unfold x68;dsimp only
 sym =>
  simp [Za,Zb,Zf,Zh,Zl,Zm,Zv,Z3,ZE,Ya,Yq,Y7,YR,YX,Xn,Xr,Xy,Wa,Wh,W7,WG,WK,WL,WN,WO,Vr,V5,V6,V8,V9,VA,VB,VC,VF,VG,VH,VI,VK,VM,VN,VO,VP,VR,VS,VU,VV,VW,VZ,Ub,Ud,Uv,Uy,Uz,U0,U1,U2,U9,UA,Tk,Tl,Tm,Tp,Tq,Tr,Ts,Tw,Tx,Ty,Tz,Sm]
  tactic =>
   unfold x68l0
   rw [loop_rule 0 (fun i=>[.fs [],I f,I 0,I 0]) (fun _=>[])]
   ·(sym=>(simp [Za,Zb,Zf,Zh,Zl,Zm,Zv,Z3,ZE,Ya,Yq,Y7,YR,YX,Xn,Xr,Xy,Wa,Wh,W7,WG,WK,WL,WN,WO,Vr,V5,V6,V8,V9,VA,VB,VC,VF,VG,VH,VI,VK,VM,VN,VO,VP,VR,VS,VU,VV,VW,VZ,Ub,Ud,Uv,Uy,Uz,U0,U1,U2,U9,UA,Tk,Tl,Tm,Tp,Tq,Tr,Ts,Tw,Tx,Ty,Tz,Sm];all_goals tactic=>exact rfl))
   ·(sym=>(simp [Za,Zb,Zf,Zh,Zl,Zm,Zv,Z3,ZE,Ya,Yq,Y7,YR,YX,Xn,Xr,Xy,Wa,Wh,W7,WG,WK,WL,WN,WO,Vr,V5,V6,V8,V9,VA,VB,VC,VF,VG,VH,VI,VK,VM,VN,VO,VP,VR,VS,VU,VV,VW,VZ,Ub,Ud,Uv,Uy,Uz,U0,U1,U2,U9,UA,Tk,Tl,Tm,Tp,Tq,Tr,Ts,Tw,Tx,Ty,Tz,Sm];all_goals tactic=>exact rfl))
   ·intro i hi;omega
   ·(sym=>(simp [Za,Zb,Zf,Zh,Zl,Zm,Zv,Z3,ZE,Ya,Yq,Y7,YR,YX,Xn,Xr,Xy,Wa,Wh,W7,WG,WK,WL,WN,WO,Vr,V5,V6,V8,V9,VA,VB,VC,VF,VG,VH,VI,VK,VM,VN,VO,VP,VR,VS,VU,VV,VW,VZ,Ub,Ud,Uv,Uy,Uz,U0,U1,U2,U9,UA,Tk,Tl,Tm,Tp,Tq,Tr,Ts,Tw,Tx,Ty,Tz,Sm];all_goals tactic=>exact rfl))
abbrev oR (rows:List (List Int)):AV:=match rows with
 | []=>.nilsl
 | r::rs=>.sl 2 0 1 (rs.length+1)
abbrev oW (rows:List (List Int)) (ks:List Int):AV:=match rows with
 | []=>oS 2 ks
 | r::rs=>oS 3 ks
abbrev gY (l:List AV) (fl:Nat→Nat→Int) (rows:List (List Int)) (ks:List Int):XH:=match rows,ks with
 | [],[]=>[some (.blk false (.cells true (netA (.pt 1 0) fl))),some (.blk true (.cells true l))]
 | r::rs,[]=>[some (.blk false (.cells true (netA (.pt 1 0) fl))),some (.blk true (.cells true l)),some (.blk true (.cells true (nL r::rs.map fun w=>nL w)))]
 | [],k::kr=>[some (.blk false (.cells true (netA (.pt 1 0) fl))),some (.blk true (.cells true l)),some (.blk true (.cells true (I k::kr.map I)))]
 | r::rs,k::kr=>[some (.blk false (.cells true (netA (.pt 1 0) fl))),some (.blk true (.cells true l)),some (.blk true (.cells true (nL r::rs.map fun w=>nL w))),some (.blk true (.cells true (I k::kr.map I)))]
abbrev s33 (rows:List (List Int)) (ks:List Int) (a n i:Nat):List AV:=[.pt 0 0,oR rows,oW rows ks,I (a:Nat),I (n:Nat),I (i:Nat)]
section
variable {l:List AV} {fl:Nat→Nat→Int} {rows:List (List Int)} {ks:List Int} {a d n i:Nat} (ha:a<33) (hd:d<34) (hf:FlB fl) (hp:0<fl a d)
 (e66:runW progX 66 [.sl 0 (1+a*34) 1 34,.fn (.func 67) [] []] (gN l fl)=some (I (d:Nat),gN l fl))
include ha hd hf hp e66 in
theorem walk_odd (ho:¬(d<32∧d%2=0)) :
 headX 0 [7,9,10,11,29,30] (execW progX 33 0 none (match x33l0 with | .loop _ a=>a | c=>c) (envL [7,9,10,11,29,30] (s33 rows ks a n i)) (gY l fl rows ks))=some (s33 rows ks d n i,gY l (updF fl a d (fl a d-1)) rows ks):=by
 have hb:=hf a d
 have n0:((a:Int)=33)=False:=eq_false (by omega)
 have v1:((0:Int)≤a)=True:=eq_true (by omega)
 have v2:((a:Int)<34)=True:=eq_true (by omega)
 have v3:((0:Int)≤d)=True:=eq_true (by omega)
 have v4:((d:Int)<34)=True:=eq_true (by omega)
 have k1:=net_at (v:=.pt 1 0) (fl:=fl) (a:=a) (b:=d) (by omega) (by omega)
 have s1:=net_set (v:=.pt 1 0) (fl:=fl) (a:=a) (b:=d) (n:=fl a d-1) (by omega) (by omega)
 have t1:(1+a*34+d+1≤1157)=True:=eq_true (by omega)
 have t0:(1+a*34+34≤1157)=True:=eq_true (by omega)
 have u:IntKind.i64.wrap (fl a d-1)=fl a d-1:=wrap_ok (by omega) (by omega)
 have t3:tdZ (d:Int) 2=((d/2:Nat):Int):=tdiv_n d 2
 have t5:IntKind.i64.wrap ((d/2:Nat):Int)=((d/2:Nat):Int):=wrap_ok (by omega) (by omega)
 have t2:tmZ (d:Int) 2=((d%2:Nat):Int):=tmod_n d 2
 generalize updF fl a d (fl a d-1)=fl2 at *
 by_cases h32:d<32
 ·have c1:((d:Int)<32)=True:=eq_true (by omega)
  have c2:(((d%2:Nat):Int)=0)=False:=eq_false (by omega)
  unfold x33l0
  dsimp only
  cases rows<;>cases ks
  ·(sym=>(simp [irem2,iquo2,remF,net_nm,net_rn,net_gr,net_fz,net_0,net_len,Za,Zb,Zc,Zf,Zh,Zi,Zl,Zm,Zn,Zp,Zq,Zs,Zv,Zy,Z2,Z3,Z7,Z8,ZB,ZG,ZI,ZJ,ZL,ZM,ZN,ZO,ZS,ZT,ZU,ZV,ZZ,Yi,Yo,Yp,Yq,Yu,Yv,YM,YQ,YR,YY,YZ,Xa,Xc,Xe,Xn,Xs,Xt,Xu,Xw,Wm,Wv,Wx,Wy,Wz,W0,W5,W6,W8,W9,WA,WB,WC,WE,WF,WG,WH,WI,WJ,WK,WL,WM,WN,WO,WP,WQ,WR,WS,WU,WV,WW,Vb,Vc,Ve,Vf,Vg,Vh,Vi,VM,VN,VO,VP,VQ,VR,VV,VW,VX,VY,VZ,Ub,Uc,Ud,Ug,Ui,Um,Un,Uq,Ut,Uu,Uv,Uw,Ux,Uy,Uz,U0,U1,U2,U3,U4,UF,UX,UY,Tc,Td,Te,Tk,Tl,Tn,Tq,Tr,Tu,Tx,Ty,Tz,T0,T1,T2,T3,TA,TC,TM,TN,Sl,S2,n0,v1,v2,v3,v4,k1,s1,t1,t0,u,t3,t5,t2,c1,c2,e66];all_goals tactic=>exact rfl))
  ·(sym=>(simp [irem2,iquo2,remF,net_nm,net_rn,net_gr,net_fz,net_0,net_len,Za,Zb,Zc,Zf,Zh,Zi,Zl,Zm,Zn,Zp,Zq,Zs,Zv,Zy,Z2,Z3,Z7,Z8,ZB,ZG,ZI,ZJ,ZL,ZM,ZN,ZO,ZS,ZT,ZU,ZV,ZZ,Yi,Yo,Yp,Yq,Yu,Yv,YM,YQ,YR,YY,YZ,Xa,Xc,Xe,Xn,Xs,Xt,Xu,Xw,Wm,Wv,Wx,Wy,Wz,W0,W5,W6,W8,W9,WA,WB,WC,WE,WF,WG,WH,WI,WJ,WK,WL,WM,WN,WO,WP,WQ,WR,WS,WU,WV,WW,Vb,Vc,Ve,Vf,Vg,Vh,Vi,VM,VN,VO,VP,VQ,VR,VV,VW,VX,VY,VZ,Ub,Uc,Ud,Ug,Ui,Um,Un,Uq,Ut,Uu,Uv,Uw,Ux,Uy,Uz,U0,U1,U2,U3,U4,UF,UX,UY,Tc,Td,Te,Tk,Tl,Tn,Tq,Tr,Tu,Tx,Ty,Tz,T0,T1,T2,T3,TA,TC,TM,TN,Sl,S2,n0,v1,v2,v3,v4,k1,s1,t1,t0,u,t3,t5,t2,c1,c2,e66];all_goals tactic=>exact rfl))
  ·(sym=>(simp [irem2,iquo2,remF,net_nm,net_rn,net_gr,net_fz,net_0,net_len,Za,Zb,Zc,Zf,Zh,Zi,Zl,Zm,Zn,Zp,Zq,Zs,Zv,Zy,Z2,Z3,Z7,Z8,ZB,ZG,ZI,ZJ,ZL,ZM,ZN,ZO,ZS,ZT,ZU,ZV,ZZ,Yi,Yo,Yp,Yq,Yu,Yv,YM,YQ,YR,YY,YZ,Xa,Xc,Xe,Xn,Xs,Xt,Xu,Xw,Wm,Wv,Wx,Wy,Wz,W0,W5,W6,W8,W9,WA,WB,WC,WE,WF,WG,WH,WI,WJ,WK,WL,WM,WN,WO,WP,WQ,WR,WS,WU,WV,WW,Vb,Vc,Ve,Vf,Vg,Vh,Vi,VM,VN,VO,VP,VQ,VR,VV,VW,VX,VY,VZ,Ub,Uc,Ud,Ug,Ui,Um,Un,Uq,Ut,Uu,Uv,Uw,Ux,Uy,Uz,U0,U1,U2,U3,U4,UF,UX,UY,Tc,Td,Te,Tk,Tl,Tn,Tq,Tr,Tu,Tx,Ty,Tz,T0,T1,T2,T3,TA,TC,TM,TN,Sl,S2,n0,v1,v2,v3,v4,k1,s1,t1,t0,u,t3,t5,t2,c1,c2,e66];all_goals tactic=>exact rfl))
  ·(sym=>(simp [irem2,iquo2,remF,net_nm,net_rn,net_gr,net_fz,net_0,net_len,Za,Zb,Zc,Zf,Zh,Zi,Zl,Zm,Zn,Zp,Zq,Zs,Zv,Zy,Z2,Z3,Z7,Z8,ZB,ZG,ZI,ZJ,ZL,ZM,ZN,ZO,ZS,ZT,ZU,ZV,ZZ,Yi,Yo,Yp,Yq,Yu,Yv,YM,YQ,YR,YY,YZ,Xa,Xc,Xe,Xn,Xs,Xt,Xu,Xw,Wm,Wv,Wx,Wy,Wz,W0,W5,W6,W8,W9,WA,WB,WC,WE,WF,WG,WH,WI,WJ,WK,WL,WM,WN,WO,WP,WQ,WR,WS,WU,WV,WW,Vb,Vc,Ve,Vf,Vg,Vh,Vi,VM,VN,VO,VP,VQ,VR,VV,VW,VX,VY,VZ,Ub,Uc,Ud,Ug,Ui,Um,Un,Uq,Ut,Uu,Uv,Uw,Ux,Uy,Uz,U0,U1,U2,U3,U4,UF,UX,UY,Tc,Td,Te,Tk,Tl,Tn,Tq,Tr,Tu,Tx,Ty,Tz,T0,T1,T2,T3,TA,TC,TM,TN,Sl,S2,n0,v1,v2,v3,v4,k1,s1,t1,t0,u,t3,t5,t2,c1,c2,e66];all_goals tactic=>exact rfl))
 ·have c1:((d:Int)<32)=False:=eq_false (by omega)
  unfold x33l0
  dsimp only
  cases rows<;>cases ks
  ·(sym=>(simp [irem2,iquo2,remF,net_nm,net_rn,net_gr,net_fz,net_0,net_len,Za,Zb,Zc,Zf,Zh,Zi,Zl,Zm,Zn,Zp,Zq,Zs,Zv,Zy,Z2,Z3,Z7,Z8,ZB,ZG,ZI,ZJ,ZL,ZM,ZN,ZO,ZS,ZT,ZU,ZV,ZZ,Yi,Yo,Yp,Yq,Yu,Yv,YM,YQ,YR,YY,YZ,Xa,Xc,Xe,Xn,Xs,Xt,Xu,Xw,Wm,Wv,Wx,Wy,Wz,W0,W5,W6,W8,W9,WA,WB,WC,WE,WF,WG,WH,WI,WJ,WK,WL,WM,WN,WO,WP,WQ,WR,WS,WU,WV,WW,Vb,Vc,Ve,Vf,Vg,Vh,Vi,VM,VN,VO,VP,VQ,VR,VV,VW,VX,VY,VZ,Ub,Uc,Ud,Ug,Ui,Um,Un,Uq,Ut,Uu,Uv,Uw,Ux,Uy,Uz,U0,U1,U2,U3,U4,UF,UX,UY,Tc,Td,Te,Tk,Tl,Tn,Tq,Tr,Tu,Tx,Ty,Tz,T0,T1,T2,T3,TA,TC,TM,TN,Sl,S2,n0,v1,v2,v3,v4,k1,s1,t1,t0,u,t3,t5,t2,c1,e66];all_goals tactic=>exact rfl))
  ·(sym=>(simp [irem2,iquo2,remF,net_nm,net_rn,net_gr,net_fz,net_0,net_len,Za,Zb,Zc,Zf,Zh,Zi,Zl,Zm,Zn,Zp,Zq,Zs,Zv,Zy,Z2,Z3,Z7,Z8,ZB,ZG,ZI,ZJ,ZL,ZM,ZN,ZO,ZS,ZT,ZU,ZV,ZZ,Yi,Yo,Yp,Yq,Yu,Yv,YM,YQ,YR,YY,YZ,Xa,Xc,Xe,Xn,Xs,Xt,Xu,Xw,Wm,Wv,Wx,Wy,Wz,W0,W5,W6,W8,W9,WA,WB,WC,WE,WF,WG,WH,WI,WJ,WK,WL,WM,WN,WO,WP,WQ,WR,WS,WU,WV,WW,Vb,Vc,Ve,Vf,Vg,Vh,Vi,VM,VN,VO,VP,VQ,VR,VV,VW,VX,VY,VZ,Ub,Uc,Ud,Ug,Ui,Um,Un,Uq,Ut,Uu,Uv,Uw,Ux,Uy,Uz,U0,U1,U2,U3,U4,UF,UX,UY,Tc,Td,Te,Tk,Tl,Tn,Tq,Tr,Tu,Tx,Ty,Tz,T0,T1,T2,T3,TA,TC,TM,TN,Sl,S2,n0,v1,v2,v3,v4,k1,s1,t1,t0,u,t3,t5,t2,c1,e66];all_goals tactic=>exact rfl))
  ·(sym=>(simp [irem2,iquo2,remF,net_nm,net_rn,net_gr,net_fz,net_0,net_len,Za,Zb,Zc,Zf,Zh,Zi,Zl,Zm,Zn,Zp,Zq,Zs,Zv,Zy,Z2,Z3,Z7,Z8,ZB,ZG,ZI,ZJ,ZL,ZM,ZN,ZO,ZS,ZT,ZU,ZV,ZZ,Yi,Yo,Yp,Yq,Yu,Yv,YM,YQ,YR,YY,YZ,Xa,Xc,Xe,Xn,Xs,Xt,Xu,Xw,Wm,Wv,Wx,Wy,Wz,W0,W5,W6,W8,W9,WA,WB,WC,WE,WF,WG,WH,WI,WJ,WK,WL,WM,WN,WO,WP,WQ,WR,WS,WU,WV,WW,Vb,Vc,Ve,Vf,Vg,Vh,Vi,VM,VN,VO,VP,VQ,VR,VV,VW,VX,VY,VZ,Ub,Uc,Ud,Ug,Ui,Um,Un,Uq,Ut,Uu,Uv,Uw,Ux,Uy,Uz,U0,U1,U2,U3,U4,UF,UX,UY,Tc,Td,Te,Tk,Tl,Tn,Tq,Tr,Tu,Tx,Ty,Tz,T0,T1,T2,T3,TA,TC,TM,TN,Sl,S2,n0,v1,v2,v3,v4,k1,s1,t1,t0,u,t3,t5,t2,c1,e66];all_goals tactic=>exact rfl))
  ·(sym=>(simp [irem2,iquo2,remF,net_nm,net_rn,net_gr,net_fz,net_0,net_len,Za,Zb,Zc,Zf,Zh,Zi,Zl,Zm,Zn,Zp,Zq,Zs,Zv,Zy,Z2,Z3,Z7,Z8,ZB,ZG,ZI,ZJ,ZL,ZM,ZN,ZO,ZS,ZT,ZU,ZV,ZZ,Yi,Yo,Yp,Yq,Yu,Yv,YM,YQ,YR,YY,YZ,Xa,Xc,Xe,Xn,Xs,Xt,Xu,Xw,Wm,Wv,Wx,Wy,Wz,W0,W5,W6,W8,W9,WA,WB,WC,WE,WF,WG,WH,WI,WJ,WK,WL,WM,WN,WO,WP,WQ,WR,WS,WU,WV,WW,Vb,Vc,Ve,Vf,Vg,Vh,Vi,VM,VN,VO,VP,VQ,VR,VV,VW,VX,VY,VZ,Ub,Uc,Ud,Ug,Ui,Um,Un,Uq,Ut,Uu,Uv,Uw,Ux,Uy,Uz,U0,U1,U2,U3,U4,UF,UX,UY,Tc,Td,Te,Tk,Tl,Tn,Tq,Tr,Tu,Tx,Ty,Tz,T0,T1,T2,T3,TA,TC,TM,TN,Sl,S2,n0,v1,v2,v3,v4,k1,s1,t1,t0,u,t3,t5,t2,c1,e66];all_goals tactic=>exact rfl))
end
section
variable {l:List AV} {fl:Nat→Nat→Int} {rows:List (List Int)} {ks:List Int} {a d n i:Nat} (ha:a<33) (hd:d<32) (hde:d%2=0) (hf:FlB fl) (hp:0<fl a d) (hl:ks.length<1000)
 (e66:runW progX 66 [.sl 0 (1+a*34) 1 34,.fn (.func 67) [] []] (gN l fl)=some (I (d:Nat),gN l fl))
include ha hd hde hf hp e66 hl in
theorem walk_app (hn:((d/2:Nat):Int)∉ks) :
 headX 0 [7,9,10,11,29,30] (execW progX 33 0 none (match x33l0 with | .loop _ a=>a | c=>c) (envL [7,9,10,11,29,30] (s33 rows ks a n i)) (gY l fl rows ks))=some (s33 rows (ks++[((d/2:Nat):Int)]) d n i,gY l (updF fl a d (fl a d-1)) rows (ks++[((d/2:Nat):Int)])):=by
 have hb:=hf a d
 have n0:((a:Int)=33)=False:=eq_false (by omega)
 have v1:((0:Int)≤a)=True:=eq_true (by omega)
 have v2:((a:Int)<34)=True:=eq_true (by omega)
 have v3:((0:Int)≤d)=True:=eq_true (by omega)
 have v4:((d:Int)<34)=True:=eq_true (by omega)
 have k1:=net_at (v:=.pt 1 0) (fl:=fl) (a:=a) (b:=d) (by omega) (by omega)
 have s1:=net_set (v:=.pt 1 0) (fl:=fl) (a:=a) (b:=d) (n:=fl a d-1) (by omega) (by omega)
 have t1:(1+a*34+d+1≤1157)=True:=eq_true (by omega)
 have t0:(1+a*34+34≤1157)=True:=eq_true (by omega)
 have u:IntKind.i64.wrap (fl a d-1)=fl a d-1:=wrap_ok (by omega) (by omega)
 have t3:tdZ (d:Int) 2=((d/2:Nat):Int):=tdiv_n d 2
 have t5:IntKind.i64.wrap ((d/2:Nat):Int)=((d/2:Nat):Int):=wrap_ok (by omega) (by omega)
 have t2:tmZ (d:Int) 2=((d%2:Nat):Int):=tmod_n d 2
 have c1:((d:Int)<32)=True:=eq_true (by omega)
 have c2:(((d%2:Nat):Int)=0)=True:=eq_true (by omega)
 have e0:=w68n ((d/2:Nat):Int)
 have e1:runW progX 68 [.sl 0 0 1 ks.length,I ((d/2:Nat):Int)] (g68 ks)=some (I (-1),g68 ks):=by
  rcases w68 (ks:=ks) (f:=((d/2:Nat):Int)) (by omega) with h | ⟨m,h,_⟩
  ·exact h.2
  ·exact absurd (List.mem_of_getElem? h) hn
 generalize updF fl a d (fl a d-1)=fl2 at *
 generalize d/2=f at *
 unfold x33l0
 dsimp only
 cases ks with
 | nil =>
   cases rows
   ·(sym=>(simp [irem2,iquo2,remF,net_nm,net_rn,net_gr,net_fz,net_0,net_len,Za,Zb,Zc,Zd,Ze,Zf,Zg,Zh,Zi,Zj,Zl,Zm,Zn,Zo,Zp,Zq,Zv,Zy,Z1,Z2,Z3,Z7,Z8,ZB,ZG,ZI,ZJ,ZL,ZM,ZN,ZO,ZR,ZS,ZT,ZU,ZZ,Yi,Yo,Yp,Yq,Yt,Yu,Yv,YM,YQ,YR,YY,YZ,Xa,Xc,Xe,Xn,Xs,Xt,Xu,Xw,XP,Wm,Wv,Wx,Wy,Wz,W0,W3,W4,W5,W6,W8,W9,WA,WB,WC,WE,WF,WG,WH,WI,WJ,WK,WL,WM,WN,WO,WP,WQ,WR,WS,WU,WV,WW,Vb,Vc,Ve,Vf,Vg,Vh,Vi,Vr,Vt,Vu,Vv,VL,VM,VN,VO,VP,VQ,VR,VV,VW,VX,VY,VZ,Ub,Uc,Ud,Ue,Ug,Ui,Um,Un,Uq,Ut,Uu,Uv,Uw,Ux,Uy,Uz,U0,U1,U2,U3,U4,UB,UC,UD,UE,UF,UM,UN,UO,UP,UQ,UR,US,UT,UU,UV,UX,UY,Tc,Td,Te,Tf,Tg,Th,Ti,Tj,Tk,Tl,Tn,Tq,Tr,Tu,Tx,Ty,Tz,T0,T1,T2,T3,T8,T9,TA,TC,TH,TM,TN,TR,Sl,Sm,S2,S5,S6,S8,S9,SA,SB,SC,SD,SE,n0,v1,v2,v3,v4,k1,s1,t1,t0,u,t3,t5,t2,c1,c2,e66,e0];all_goals tactic=>exact rfl))
   ·(sym=>(simp [irem2,iquo2,remF,net_nm,net_rn,net_gr,net_fz,net_0,net_len,Za,Zb,Zc,Zd,Ze,Zf,Zg,Zh,Zi,Zj,Zl,Zm,Zn,Zo,Zp,Zq,Zv,Zy,Z1,Z2,Z3,Z7,Z8,ZB,ZG,ZI,ZJ,ZL,ZM,ZN,ZO,ZR,ZS,ZT,ZU,ZZ,Yi,Yo,Yp,Yq,Yt,Yu,Yv,YM,YQ,YR,YY,YZ,Xa,Xc,Xe,Xn,Xs,Xt,Xu,Xw,XP,Wm,Wv,Wx,Wy,Wz,W0,W3,W4,W5,W6,W8,W9,WA,WB,WC,WE,WF,WG,WH,WI,WJ,WK,WL,WM,WN,WO,WP,WQ,WR,WS,WU,WV,WW,Vb,Vc,Ve,Vf,Vg,Vh,Vi,Vr,Vt,Vu,Vv,VL,VM,VN,VO,VP,VQ,VR,VV,VW,VX,VY,VZ,Ub,Uc,Ud,Ue,Ug,Ui,Um,Un,Uq,Ut,Uu,Uv,Uw,Ux,Uy,Uz,U0,U1,U2,U3,U4,UB,UC,UD,UE,UF,UM,UN,UO,UP,UQ,UR,US,UT,UU,UV,UX,UY,Tc,Td,Te,Tf,Tg,Th,Ti,Tj,Tk,Tl,Tn,Tq,Tr,Tu,Tx,Ty,Tz,T0,T1,T2,T3,T8,T9,TA,TC,TH,TM,TN,TR,Sl,Sm,S2,S5,S6,S8,S9,SA,SB,SC,SD,SE,n0,v1,v2,v3,v4,k1,s1,t1,t0,u,t3,t5,t2,c1,c2,e66,e0];all_goals tactic=>exact rfl))
 | cons k kr =>
   have e1:runW progX 68 [.sl 0 0 1 (kr.length+1),I (f:Nat)] [some (.blk true (.cells true (I k::kr.map I)))]=some (I (-1),[some (.blk true (.cells true (I k::kr.map I)))]):=e1
   have b1:((kr.length+1+1)*8≤1099511627776)=True:=eq_true (by simp at hl;omega)
   have b2:(kr.length+1+1≤1099511627776)=True:=eq_true (by simp at hl;omega)
   have tk:List.take (kr.length+1-1) (kr.map I)=kr.map I:=List.take_of_length_le (by simp)
   cases rows
   ·(sym=>(simp [irem2,iquo2,remF,net_nm,net_rn,net_gr,net_fz,net_0,net_len,Za,Zb,Zc,Zd,Ze,Zf,Zg,Zh,Zi,Zj,Zl,Zm,Zn,Zo,Zp,Zq,Zv,Zy,Z1,Z2,Z3,Z7,Z8,ZB,ZG,ZI,ZJ,ZL,ZM,ZN,ZO,ZR,ZS,ZT,ZU,ZZ,Yi,Yo,Yp,Yq,Yt,Yu,Yv,YM,YQ,YR,YY,YZ,Xa,Xc,Xe,Xn,Xs,Xt,Xu,Xw,XP,Wm,Wv,Wx,Wy,Wz,W0,W3,W4,W5,W6,W8,W9,WA,WB,WC,WE,WF,WG,WH,WI,WJ,WK,WL,WM,WN,WO,WP,WQ,WR,WS,WU,WV,WW,Vb,Vc,Ve,Vf,Vg,Vh,Vi,Vr,Vt,Vu,Vv,VL,VM,VN,VO,VP,VQ,VR,VV,VW,VX,VY,VZ,Ub,Uc,Ud,Ue,Ug,Ui,Um,Un,Uq,Ut,Uu,Uv,Uw,Ux,Uy,Uz,U0,U1,U2,U3,U4,UB,UC,UD,UE,UF,UM,UN,UO,UP,UQ,UR,US,UT,UU,UV,UX,UY,Tc,Td,Te,Tf,Tg,Th,Ti,Tj,Tk,Tl,Tn,Tq,Tr,Tu,Tx,Ty,Tz,T0,T1,T2,T3,T8,T9,TA,TC,TH,TM,TN,TR,Sl,Sm,S2,S5,S6,S8,S9,SA,SB,SC,SD,SE,n0,v1,v2,v3,v4,k1,s1,t1,t0,u,t3,t5,t2,c1,c2,e66,e1,b1,b2,tk];all_goals tactic=>exact rfl))
   ·(sym=>(simp [irem2,iquo2,remF,net_nm,net_rn,net_gr,net_fz,net_0,net_len,Za,Zb,Zc,Zd,Ze,Zf,Zg,Zh,Zi,Zj,Zl,Zm,Zn,Zo,Zp,Zq,Zv,Zy,Z1,Z2,Z3,Z7,Z8,ZB,ZG,ZI,ZJ,ZL,ZM,ZN,ZO,ZR,ZS,ZT,ZU,ZZ,Yi,Yo,Yp,Yq,Yt,Yu,Yv,YM,YQ,YR,YY,YZ,Xa,Xc,Xe,Xn,Xs,Xt,Xu,Xw,XP,Wm,Wv,Wx,Wy,Wz,W0,W3,W4,W5,W6,W8,W9,WA,WB,WC,WE,WF,WG,WH,WI,WJ,WK,WL,WM,WN,WO,WP,WQ,WR,WS,WU,WV,WW,Vb,Vc,Ve,Vf,Vg,Vh,Vi,Vr,Vt,Vu,Vv,VL,VM,VN,VO,VP,VQ,VR,VV,VW,VX,VY,VZ,Ub,Uc,Ud,Ue,Ug,Ui,Um,Un,Uq,Ut,Uu,Uv,Uw,Ux,Uy,Uz,U0,U1,U2,U3,U4,UB,UC,UD,UE,UF,UM,UN,UO,UP,UQ,UR,US,UT,UU,UV,UX,UY,Tc,Td,Te,Tf,Tg,Th,Ti,Tj,Tk,Tl,Tn,Tq,Tr,Tu,Tx,Ty,Tz,T0,T1,T2,T3,T8,T9,TA,TC,TH,TM,TN,TR,Sl,Sm,S2,S5,S6,S8,S9,SA,SB,SC,SD,SE,n0,v1,v2,v3,v4,k1,s1,t1,t0,u,t3,t5,t2,c1,c2,e66,e1,b1,b2,tk];all_goals tactic=>exact rfl))
include ha hd hde hf hp e66 hl in
theorem walk_trim {m:Nat} (hm:ks[m]?=some ((d/2:Nat):Int)) (e1:runW progX 68 [.sl 0 0 1 ks.length,I ((d/2:Nat):Int)] (g68 ks)=some (I (m:Nat),g68 ks)) :
 headX 0 [7,9,10,11,29,30] (execW progX 33 0 none (match x33l0 with | .loop _ a=>a | c=>c) (envL [7,9,10,11,29,30] (s33 rows ks a n i)) (gY l fl rows ks))=some (s33 rows (ks.take (m+1)) d n i,gY l (updF fl a d (fl a d-1)) rows (ks.take (m+1))):=by
 have hb:=hf a d
 have hml:=lt_of hm
 have n0:((a:Int)=33)=False:=eq_false (by omega)
 have v1:((0:Int)≤a)=True:=eq_true (by omega)
 have v2:((a:Int)<34)=True:=eq_true (by omega)
 have v3:((0:Int)≤d)=True:=eq_true (by omega)
 have v4:((d:Int)<34)=True:=eq_true (by omega)
 have k1:=net_at (v:=.pt 1 0) (fl:=fl) (a:=a) (b:=d) (by omega) (by omega)
 have s1:=net_set (v:=.pt 1 0) (fl:=fl) (a:=a) (b:=d) (n:=fl a d-1) (by omega) (by omega)
 have t1:(1+a*34+d+1≤1157)=True:=eq_true (by omega)
 have t0:(1+a*34+34≤1157)=True:=eq_true (by omega)
 have u:IntKind.i64.wrap (fl a d-1)=fl a d-1:=wrap_ok (by omega) (by omega)
 have t3:tdZ (d:Int) 2=((d/2:Nat):Int):=tdiv_n d 2
 have t5:IntKind.i64.wrap ((d/2:Nat):Int)=((d/2:Nat):Int):=wrap_ok (by omega) (by omega)
 have t2:tmZ (d:Int) 2=((d%2:Nat):Int):=tmod_n d 2
 have c1:((d:Int)<32)=True:=eq_true (by omega)
 have c2:(((d%2:Nat):Int)=0)=True:=eq_true (by omega)
 generalize updF fl a d (fl a d-1)=fl2 at *
 generalize d/2=f at *
 cases ks with
 | nil=>simp at hm
 | cons k kr =>
   have e1:runW progX 68 [.sl 0 0 1 (kr.length+1),I (f:Nat)] [some (.blk true (.cells true (I k::kr.map I)))]=some (I (m:Nat),[some (.blk true (.cells true (I k::kr.map I)))]):=e1
   by_cases hm0:m=0
   ·subst hm0
    have hkf:k=(f:Int):=by simpa using hm
    subst hkf
    have e1:runW progX 68 [.sl 0 0 1 (kr.length+1),I (f:Nat)] [some (.blk true (.cells true (I (f:Nat)::kr.map I)))]=some (I 0,[some (.blk true (.cells true (I (f:Nat)::kr.map I)))]):=e1
    unfold x33l0
    dsimp only
    cases rows
    ·(sym=>(simp [irem2,iquo2,remF,net_nm,net_rn,net_gr,net_fz,net_0,net_len,Za,Zb,Zc,Zd,Ze,Zf,Zg,Zh,Zi,Zj,Zl,Zm,Zn,Zo,Zp,Zq,Zv,Zy,Z1,Z2,Z3,Z7,Z8,ZB,ZC,ZG,ZI,ZJ,ZL,ZM,ZN,ZO,ZR,ZS,ZT,ZU,ZZ,Yi,Yo,Yp,Yq,Yt,Yu,Yv,Y6,YM,YQ,YR,YY,YZ,Xa,Xc,Xe,Xn,Xs,Xt,Xu,Xw,XP,Wm,Wv,Wx,Wy,Wz,W0,W3,W4,W5,W6,W8,W9,WA,WB,WC,WE,WF,WG,WH,WI,WJ,WK,WL,WM,WN,WO,WP,WQ,WR,WS,WU,WV,WW,Vb,Vc,Ve,Vf,Vg,Vh,Vi,Vr,Vt,Vu,Vv,VL,VM,VN,VO,VP,VQ,VV,VW,VX,VY,VZ,Ub,Uc,Ud,Ug,Ui,Um,Un,Uq,Ut,Uu,Uv,Uw,Ux,Uy,Uz,U0,U1,U2,U3,U4,UB,UC,UD,UE,UF,UG,UH,UM,UN,UO,UP,UQ,UR,US,UU,UV,UX,UY,Tc,Td,Te,Tf,Tg,Th,Ti,Tk,Tl,Tn,Tq,Tr,Tu,Tx,Ty,Tz,T0,T1,T2,T3,T4,T5,T6,T7,TA,TC,TE,TH,TN,Sl,Sm,S2,S5,S6,S8,S9,SA,SB,SC,SD,n0,v1,v2,v3,v4,k1,s1,t1,t0,u,t3,t5,t2,c1,c2,e66,e1];all_goals tactic=>exact rfl))
    ·(sym=>(simp [irem2,iquo2,remF,net_nm,net_rn,net_gr,net_fz,net_0,net_len,Za,Zb,Zc,Zd,Ze,Zf,Zg,Zh,Zi,Zj,Zl,Zm,Zn,Zo,Zp,Zq,Zv,Zy,Z1,Z2,Z3,Z7,Z8,ZB,ZC,ZG,ZI,ZJ,ZL,ZM,ZN,ZO,ZR,ZS,ZT,ZU,ZZ,Yi,Yo,Yp,Yq,Yt,Yu,Yv,Y6,YM,YQ,YR,YY,YZ,Xa,Xc,Xe,Xn,Xs,Xt,Xu,Xw,XP,Wm,Wv,Wx,Wy,Wz,W0,W3,W4,W5,W6,W8,W9,WA,WB,WC,WE,WF,WG,WH,WI,WJ,WK,WL,WM,WN,WO,WP,WQ,WR,WS,WU,WV,WW,Vb,Vc,Ve,Vf,Vg,Vh,Vi,Vr,Vt,Vu,Vv,VL,VM,VN,VO,VP,VQ,VV,VW,VX,VY,VZ,Ub,Uc,Ud,Ug,Ui,Um,Un,Uq,Ut,Uu,Uv,Uw,Ux,Uy,Uz,U0,U1,U2,U3,U4,UB,UC,UD,UE,UF,UG,UH,UM,UN,UO,UP,UQ,UR,US,UU,UV,UX,UY,Tc,Td,Te,Tf,Tg,Th,Ti,Tk,Tl,Tn,Tq,Tr,Tu,Tx,Ty,Tz,T0,T1,T2,T3,T4,T5,T6,T7,TA,TC,TE,TH,TN,Sl,Sm,S2,S5,S6,S8,S9,SA,SB,SC,SD,n0,v1,v2,v3,v4,k1,s1,t1,t0,u,t3,t5,t2,c1,c2,e66,e1];all_goals tactic=>exact rfl))
   ·have c3:((0:Int)≤(m:Int))=True:=eq_true (by omega)
    have hml2:m<kr.length+1:=by simpa using hml
    have c4:((m:Int)≤((kr.length+1:Nat):Int))=True:=eq_true (by omega)
    have c5:(0<m)=True:=eq_true (by omega)
    have b1:((m+1)*8≤1099511627776)=True:=eq_true (by simp at hl;omega)
    have b2:(m+1≤1099511627776)=True:=eq_true (by simp at hl;omega)
    rw [show (k::kr).take (m+1)=k::kr.take m from rfl]
    have lk:(kr.take m).length=m:=by rw [List.length_take];omega
    have b3:(m≤kr.length+1)=True:=eq_true (by omega)
    have c6:(m=0)=False:=eq_false hm0
    have l2:(List.take (m-1) (kr.map I)).length=m-1:=by rw [List.length_take,List.length_map];omega
    have c7:(m=m-1+1)=True:=eq_true (by omega)
    have hkm:kr[m-1]?=some (f:Int):=by
     obtain ⟨p,rfl⟩:∃ p,m=p+1:=⟨m-1,by omega⟩
     simpa using hm
    have tk:List.take (m-1) (kr.map I)++[I f]=(kr.take m).map I:=by
     obtain ⟨p,rfl⟩:∃ p,m=p+1:=⟨m-1,by omega⟩
     have hkm:kr[p]?=some (f:Int):=hkm
     show List.take p (kr.map I)++[I f]=(kr.take (p+1)).map I
     rw [List.take_add_one,hkm,List.map_append,List.map_take];rfl
    unfold x33l0
    dsimp only
    cases rows
    ·(sym=>(simp [irem2,iquo2,remF,net_nm,net_rn,net_gr,net_fz,net_0,net_len,Za,Zb,Zc,Zd,Ze,Zf,Zg,Zh,Zi,Zj,Zl,Zm,Zn,Zo,Zp,Zq,Zv,Zy,Z1,Z2,Z3,Z7,Z8,ZB,ZC,ZG,ZI,ZJ,ZL,ZM,ZN,ZO,ZR,ZS,ZT,ZU,ZZ,Yi,Yo,Yp,Yq,Yt,Yu,Yv,Y6,YM,YQ,YR,YY,YZ,Xa,Xc,Xe,Xn,Xs,Xt,Xu,Xw,XP,Wm,Wv,Wx,Wy,Wz,W0,W3,W4,W5,W6,W8,W9,WA,WB,WC,WE,WF,WG,WH,WI,WJ,WK,WL,WM,WN,WO,WP,WQ,WR,WS,WU,WV,WW,Vb,Vc,Ve,Vf,Vg,Vh,Vi,Vr,Vt,Vu,Vv,VL,VM,VN,VO,VP,VQ,VV,VW,VX,VY,VZ,Ub,Uc,Ud,Ug,Ui,Um,Un,Uq,Ut,Uu,Uv,Uw,Ux,Uy,Uz,U0,U1,U2,U3,U4,UB,UC,UD,UE,UF,UG,UH,UM,UN,UO,UP,UQ,UR,US,UU,UV,UX,UY,Tc,Td,Te,Tf,Tg,Th,Ti,Tk,Tl,Tn,Tq,Tr,Tu,Tx,Ty,Tz,T0,T1,T2,T3,T4,T5,T6,T7,TA,TC,TE,TH,TN,Sl,Sm,S2,S5,S6,S8,S9,SA,SB,SC,SD,n0,v1,v2,v3,v4,k1,s1,t1,t0,u,t3,t5,t2,c1,c2,c3,c4,c5,c6,c7,e66,e1,b1,b2,b3,lk,l2,tk];all_goals tactic=>exact rfl))
    ·(sym=>(simp [irem2,iquo2,remF,net_nm,net_rn,net_gr,net_fz,net_0,net_len,Za,Zb,Zc,Zd,Ze,Zf,Zg,Zh,Zi,Zj,Zl,Zm,Zn,Zo,Zp,Zq,Zv,Zy,Z1,Z2,Z3,Z7,Z8,ZB,ZC,ZG,ZI,ZJ,ZL,ZM,ZN,ZO,ZR,ZS,ZT,ZU,ZZ,Yi,Yo,Yp,Yq,Yt,Yu,Yv,Y6,YM,YQ,YR,YY,YZ,Xa,Xc,Xe,Xn,Xs,Xt,Xu,Xw,XP,Wm,Wv,Wx,Wy,Wz,W0,W3,W4,W5,W6,W8,W9,WA,WB,WC,WE,WF,WG,WH,WI,WJ,WK,WL,WM,WN,WO,WP,WQ,WR,WS,WU,WV,WW,Vb,Vc,Ve,Vf,Vg,Vh,Vi,Vr,Vt,Vu,Vv,VL,VM,VN,VO,VP,VQ,VV,VW,VX,VY,VZ,Ub,Uc,Ud,Ug,Ui,Um,Un,Uq,Ut,Uu,Uv,Uw,Ux,Uy,Uz,U0,U1,U2,U3,U4,UB,UC,UD,UE,UF,UG,UH,UM,UN,UO,UP,UQ,UR,US,UU,UV,UX,UY,Tc,Td,Te,Tf,Tg,Th,Ti,Tk,Tl,Tn,Tq,Tr,Tu,Tx,Ty,Tz,T0,T1,T2,T3,T4,T5,T6,T7,TA,TC,TE,TH,TN,Sl,Sm,S2,S5,S6,S8,S9,SA,SB,SC,SD,n0,v1,v2,v3,v4,k1,s1,t1,t0,u,t3,t5,t2,c1,c2,c3,c4,c5,c6,c7,e66,e1,b1,b2,b3,lk,l2,tk];all_goals tactic=>exact rfl))
end
end Go.Proofs.YtiabjdfdkiijmaaDoor
namespace Go.Proofs.YtiabjdfdkiijmaaDoor
abbrev dec (fl:Nat→Nat→Int) (a d:Nat):Nat→Nat→Int:=updF fl a d (fl a d-1)
theorem dec_at (fl:Nat→Nat→Int) (a d c e:Nat):dec fl a d c e=fl c e-(if c=a∧e=d then 1 else 0):=by
 unfold dec updF
 split
 ·next h=>obtain ⟨rfl,rfl⟩:=h;rfl
 ·omega
theorem ex_dec {fl:Nat→Nat→Int} {a d:Nat} (had:a≠d) (ha:a<34) (hd:d<34) (c:Nat):ex (dec fl a d) c=ex fl c-(if c=a then 1 else 0)+(if c=d then 1 else 0):=by
 unfold ex
 rw [sumZ_congr 34 (g:=fun e=>(phi fl c e + - (if c=a∧e=d then 1 else 0))+(if c=d∧e=a then 1 else 0)) (fun e _=>by
  unfold phi
  rw [dec_at,dec_at]
  have:(if e=a∧c=d then (1:Int) else 0)=if c=d∧e=a then 1 else 0:=by
   by_cases h:c=d∧e=a
   ·rw [if_pos h,if_pos ⟨h.2,h.1⟩]
   ·rw [if_neg h,if_neg (fun q=>h ⟨q.2,q.1⟩)]
  rw [this];omega)]
 rw [sumZ_add,sumZ_add,sumZ_neg]
 rw [sumZ_one (f:=fun e=>if c=a∧e=d then 1 else 0) (a:=d) (fun k hk=>if_neg (by omega)),sumZ_one (f:=fun e=>if c=d∧e=a then 1 else 0) (a:=a) (fun k hk=>if_neg (by omega))]
 rw [if_pos hd,if_pos ha]
 have e1:(if c=a∧d=d then (1:Int) else 0)=if c=a then 1 else 0:=by simp
 have e2:(if c=d∧a=a then (1:Int) else 0)=if c=d then 1 else 0:=by simp
 have e3:sumZ (fun e=>phi fl c e) 34=sumZ (phi fl c) 34:=rfl
 rw [e1,e2,e3];omega
def tot (fl:Nat→Nat→Int):Int:=sumZ (fun a=>sumZ (fl a) 34) 34
theorem tot_dec {fl:Nat→Nat→Int} {a d:Nat} (ha:a<34) (hd:d<34):tot (dec fl a d)=tot fl-1:=by
 unfold tot
 rw [sumZ_congr 34 (g:=fun c=>sumZ (fl c) 34 + - (if c=a then 1 else 0)) (fun c _=>by
  rw [sumZ_congr 34 (g:=fun e=>fl c e + - (if c=a∧e=d then 1 else 0)) (fun e _=>by rw [dec_at];omega),sumZ_add,sumZ_neg]
  rw [sumZ_one (f:=fun e=>if c=a∧e=d then 1 else 0) (a:=d) (fun k hk=>if_neg (by omega)),if_pos hd]
  have e1:(if c=a∧d=d then (1:Int) else 0)=if c=a then 1 else 0:=by simp
  rw [e1])]
 rw [sumZ_add,sumZ_neg,sumZ_one (f:=fun c=>if c=a then 1 else 0) (a:=a) (fun k hk=>if_neg hk),if_pos ha,if_pos rfl]
 omega
theorem tot_pos {cap fl:Nat→Nat→Int} (h:FlI cap fl):0≤tot fl:=sumZ_pos 34 fun c _=>sumZ_pos 34 fun e _=>(h c e).1
theorem cap_cases {st:Nat→Nat} {s nur fix a d:Nat} (h:0<capN st s nur fix a d) :
 (a=32∧d%2=0∧d<32∧s.testBit (d/2)=true)∨(d=33∧a%2=1∧a<32∧nur.testBit (a/2)=true) ∨
 (a<32∧a%2=0∧d=a+1)∨(a<32∧d<32∧a%2=1∧d%2=0∧(st (a/2)).testBit (d/2)=true):=by
 unfold capN at h
 split at h
 ·split at h
  ·next q1 q2=>exact .inl ⟨q1,q2⟩
  ·omega
 ·split at h
  ·split at h
   ·next q1 q2 q3=>exact .inr (.inl ⟨q2,q3⟩)
   ·omega
  ·split at h
   ·omega
   ·split at h
    ·next q1 q2 q3 q4=>exact .inr (.inr (.inl ⟨by omega,q4.1,q4.2⟩))
    ·split at h
     ·next q1 q2 q3 q4 q5=>exact .inr (.inr (.inr ⟨by omega,by omega,q5⟩))
     ·omega
theorem cap_field {st:Nat→Nat} {s nur fix f:Nat} (hf:f<16) (hx:fix.testBit f=false):capN st s nur fix (2*f) (2*f+1)=1:=by
 unfold capN
 rw [if_neg (by omega),if_neg (by omega),if_neg (by omega),if_pos ⟨by omega,rfl⟩,show 2*f/2=f by omega,if_neg (by rw [hx];simp)]
structure Wk (st:Nat→Nat) (s nur fix F u r:Nat) (fl:Nat→Nat→Int) (a:Nat) (ks:List Nat):Prop where
 ok:FlI (capN st s nur fix) fl
 ex:∀ c,ex fl c=(if c=32 then (r:Int) else 0)-(if c=33 then (r:Int)+1 else 0)+(if c=a then 1 else 0)
 lt:a<34
 f:∀ k∈ks,k<F
 nd:ks.Nodup
 stp:∀ i k k',ks[i]?=some k→ks[i+1]?=some k'→(st k).testBit k'=true
 fst:∀ k,ks[0]?=some k→s.testBit k=true
 pos:(a=32∧ks=[])∨(a=33∧∃ f,ks.getLast?=some f∧nur.testBit f=true)∨(a<32∧ks.getLast?=some (a/2))
 used:∀ g,u.testBit g=true→fix.testBit g=false→fl (2*g) (2*g+1)=0
 free:∀ k∈ks,fix.testBit k=false→u.testBit k=false
 pass:∀ k∈ks,fix.testBit k=false→a=2*k∨fl (2*k) (2*k+1)=0
section
variable {st:Nat→Nat} {s nur fix F u r:Nat} (hst:∀ k,st k<2^F) (hs:s<2^F) (hF:F≤16) (hu:u<2^F) {fl:Nat→Nat→Int} {a:Nat} {ks:List Nat} (h:Wk st s nur fix F u r fl a ks)
include h in
theorem Wk.next (ha:a≠33):∃ d,d<34∧0<fl a d:=by
 by_cases hd:∃ d,d<34∧0<fl a d
 ·exact hd
 ·exfalso
  have h1:Go.Proofs.YtiabjdfdkiijmaaDoor.ex fl a≤0:=by
   unfold Go.Proofs.YtiabjdfdkiijmaaDoor.ex
   rw [←sumZ_0 34]
   refine sumZ_le 34 fun e he=>?_
   have:=(h.ok e a).1
   have:¬0<fl a e:=fun q=>hd ⟨e,he,q⟩
   unfold phi;omega
  rw [h.ex] at h1
  rw [if_neg ha,if_pos rfl] at h1
  split at h1<;>omega
include h in
theorem Wk.cap {d:Nat} (hp:0<fl a d):0<capN st s nur fix a d:=by
 have:=(h.ok a d).2
 omega
include h in
theorem Wk.ok' {d:Nat} (hp:0<fl a d):FlI (capN st s nur fix) (dec fl a d):=by
 intro c e
 have:=h.ok c e
 rw [dec_at]
 split
 ·next q=>obtain ⟨rfl,rfl⟩:=q;omega
 ·omega
include h in
theorem Wk.ex' {d:Nat} (hd:d<34) (hp:0<fl a d) (c:Nat):Go.Proofs.YtiabjdfdkiijmaaDoor.ex (dec fl a d) c=(if c=32 then (r:Int) else 0)-(if c=33 then (r:Int)+1 else 0)+(if c=d then 1 else 0):=by
 have hne:a≠d:=by
  rcases cap_cases (h.cap hp) with q | q | q | q<;>omega
 rw [ex_dec hne h.lt hd,h.ex]
 omega
include h in
theorem Wk.odd {d:Nat} (hd:d<34) (hp:0<fl a d) (ho:¬(d<32∧d%2=0)):Wk st s nur fix F u r (dec fl a d) d ks:=by
 have same:∀ k,a≠2*k→dec fl a d (2*k) (2*k+1)=fl (2*k) (2*k+1):=fun k hk=>by
  rw [dec_at,if_neg (by omega)];omega
 rcases cap_cases (h.cap hp) with q | q | q | q
 ·exact absurd ⟨q.2.2.1,q.2.1⟩ ho
 ·refine ⟨h.ok' hp,h.ex' hd hp,hd,h.f,h.nd,h.stp,h.fst,?_,?_,h.free,?_⟩
  ·rcases h.pos with p | p | p
   ·omega
   ·omega
   ·exact .inr (.inl ⟨q.1,_,p.2,q.2.2.2⟩)
  ·intro g hg hx
   rw [same g (by omega)];exact h.used g hg hx
  ·intro k hk hx
   rcases h.pass k hk hx with p | p
   ·omega
   ·exact .inr (by rw [same k (by omega)];exact p)
 ·refine ⟨h.ok' hp,h.ex' hd hp,hd,h.f,h.nd,h.stp,h.fst,?_,?_,h.free,?_⟩
  ·rcases h.pos with p | p | p
   ·omega
   ·omega
   ·by_cases h33:d=33
    ·omega
    ·exact .inr (.inr ⟨by omega,by rw [show d/2=a/2 by omega];exact p.2⟩)
  ·intro g hg hx
   have:=h.used g hg hx
   by_cases e:a=2*g
   ·rw [show d=2*g+1 by omega,e] at hp;omega
   ·rw [same g e];exact this
  ·intro k hk hx
   right
   by_cases e:a=2*k
   ·have h1:=(h.ok (2*k) (2*k+1)).2
    rw [cap_field (by omega) hx] at h1
    rw [dec_at,if_pos ⟨e.symm,by omega⟩]
    rw [e,show d=2*k+1 by omega] at hp
    omega
   ·rcases h.pass k hk hx with p | p
    ·omega
    ·rw [same k e];exact p
 ·exact absurd ⟨q.2.1,q.2.2.2.1⟩ ho
include hst hs hF h in
theorem Wk.fld {d:Nat} (hp:0<fl a d) (hd:d<32) (hde:d%2=0):d/2<F∧(a=32∧ks=[]∧s.testBit (d/2)=true∨a<32∧a%2=1∧ks.getLast?=some (a/2)∧(st (a/2)).testBit (d/2)=true):=by
 rcases cap_cases (h.cap hp) with q | q | q | q
 ·refine ⟨bit_F hs q.2.2.2,.inl ⟨q.1,?_,q.2.2.2⟩⟩
  rcases h.pos with p | p | p
  ·exact p.2
  ·omega
  ·omega
 ·omega
 ·omega
 ·refine ⟨bit_F (hst _) q.2.2.2.2,.inr ⟨q.1,q.2.2.1,?_,q.2.2.2.2⟩⟩
  rcases h.pos with p | p | p
  ·omega
  ·omega
  ·exact p.2
include hst hs hF h in
theorem Wk.app {d:Nat} (hp:0<fl a d) (hd:d<32) (hde:d%2=0) (hn:d/2∉ks):Wk st s nur fix F u r (dec fl a d) d (ks++[d/2]):=by
 obtain ⟨hfF,hq⟩:=h.fld hst hs hF hp hd hde
 have hao:∀ k,k<16→a≠2*k:=fun k hk=>by rcases hq with q | q<;>omega
 have same:∀ k,k<16→dec fl a d (2*k) (2*k+1)=fl (2*k) (2*k+1):=fun k hk=>by
  rw [dec_at,if_neg (by omega)];omega
 have ok':=h.ok' hp
 have ex':=h.ex' (by omega) hp
 have used':∀ g,u.testBit g=true→fix.testBit g=false→dec fl a d (2*g) (2*g+1)=0:=fun g hg hx=>by
  have:=(ok' (2*g) (2*g+1)).1
  have h0:=h.used g hg hx
  rw [dec_at] at this ⊢
  split<;>rename_i hh
  ·rw [if_pos hh] at this;omega
  ·omega
 refine ⟨ok',ex',by omega,?_,?_,?_,?_,?_,used',?_,?_⟩
 ·intro k hk
  rw [List.mem_append,List.mem_singleton] at hk
  rcases hk with hk | rfl
  ·exact h.f k hk
  ·exact hfF
 ·rw [List.nodup_append]
  refine ⟨h.nd,by simp,?_⟩
  intro k hk k' hk' e
  rw [List.mem_singleton] at hk'
  rw [e,hk'] at hk
  exact hn hk
 ·intro i k k' h1 h2
  by_cases hi:i+1<ks.length
  ·rw [List.getElem?_append_left (by omega)] at h1
   rw [List.getElem?_append_left hi] at h2
   exact h.stp i k k' h1 h2
  ·have hlt:=lt_of h2
   rw [List.length_append,List.length_singleton] at hlt
   rw [List.getElem?_append_left (by omega)] at h1
   rw [List.getElem?_append_right (by omega),show i+1-ks.length=0 by omega] at h2
   have h2:d/2=k':=by simpa using h2
   rcases hq with q | q
   ·rw [q.2.1] at h1;simp at h1
   ·have h3:=q.2.2.1
    rw [List.getLast?_eq_getElem?,show ks.length-1=i by omega,h1] at h3
    rw [Option.some.inj h3,←h2];exact q.2.2.2
 ·intro k hk
  rcases hq with q | q
  ·rw [q.2.1] at hk
   have:d/2=k:=by simpa using hk
   rw [←this];exact q.2.2
  ·have hpos:0<ks.length:=by
    by_cases h0:0<ks.length
    ·exact h0
    ·have:ks=[]:=List.eq_nil_of_length_eq_zero (by omega)
     rw [this] at q;simp at q
   rw [List.getElem?_append_left hpos] at hk
   exact h.fst k hk
 ·refine .inr (.inr ⟨hd,?_⟩)
  rw [List.getLast?_append];rfl
 ·intro k hk hx
  rw [List.mem_append,List.mem_singleton] at hk
  rcases hk with hk | rfl
  ·exact h.free k hk hx
  ·-- the way goes on behind the field
   cases hub:u.testBit (d/2)
   ·rfl
   ·exfalso
    have h0:=used' (d/2) hub hx
    have h1:Go.Proofs.YtiabjdfdkiijmaaDoor.ex (dec fl a d) d≤0:=by
     unfold Go.Proofs.YtiabjdfdkiijmaaDoor.ex
     rw [←sumZ_0 34]
     refine sumZ_le 34 fun e he=>?_
     have g1:=(ok' e d).1
     have g2:=ok' d e
     have:dec fl a d d e≤0:=by
      by_cases hlt:0<dec fl a d d e
      ·rcases cap_cases (show 0<capN st s nur fix d e by omega) with q | q | q | q
       ·omega
       ·omega
       ·rw [show 2*(d/2)=d by omega,←q.2.2] at h0;omega
       ·omega
      ·omega
     unfold phi;omega
    rw [ex'] at h1
    rw [if_neg (by omega),if_neg (by omega),if_pos rfl] at h1
    omega
 ·intro k hk hx
  rw [List.mem_append,List.mem_singleton] at hk
  rcases hk with hk | rfl
  ·have hkF:=h.f k hk
   rcases h.pass k hk hx with p | p
   ·exact absurd p (hao k (by omega))
   ·exact .inr (by rw [same k (by omega)];exact p)
  ·exact .inl (by omega)
include hst hs hF h in
theorem Wk.trim {d m:Nat} (hp:0<fl a d) (hd:d<32) (hde:d%2=0) (hm:ks[m]?=some (d/2)):Wk st s nur fix F u r (dec fl a d) d (ks.take (m+1)):=by
 obtain ⟨hfF,hq⟩:=h.fld hst hs hF hp hd hde
 have hml:=lt_of hm
 have hao:∀ k,k<16→a≠2*k:=fun k hk=>by rcases hq with q | q<;>omega
 have same:∀ k,k<16→dec fl a d (2*k) (2*k+1)=fl (2*k) (2*k+1):=fun k hk=>by
  rw [dec_at,if_neg (by omega)];omega
 have ok':=h.ok' hp
 have used':∀ g,u.testBit g=true→fix.testBit g=false→dec fl a d (2*g) (2*g+1)=0:=fun g hg hx=>by
  have:=(ok' (2*g) (2*g+1)).1
  have h0:=h.used g hg hx
  rw [dec_at] at this ⊢
  split<;>rename_i hh
  ·rw [if_pos hh] at this;omega
  ·omega
 have at_take:∀ i k,(ks.take (m+1))[i]?=some k→ks[i]?=some k:=fun i k hi=>by
  have:=lt_of hi
  rw [List.length_take] at this
  rw [List.getElem?_take_of_lt (by omega)] at hi
  exact hi
 refine ⟨ok',h.ex' (by omega) hp,by omega,fun k hk=>h.f k (List.mem_of_mem_take hk),h.nd.sublist (List.take_sublist _ _),fun i k k' h1 h2=>h.stp i k k' (at_take i k h1) (at_take _ k' h2),fun k hk=>h.fst k (at_take 0 k hk),?_,used',fun k hk hx=>h.free k (List.mem_of_mem_take hk) hx,?_⟩
 ·refine .inr (.inr ⟨hd,?_⟩)
  rw [List.getLast?_eq_getElem?,List.length_take,show min (m+1) ks.length-1=m by omega,List.getElem?_take_of_lt (by omega)]
  exact hm
 ·intro k hk hx
  have hk:=List.mem_of_mem_take hk
  have hkF:=h.f k hk
  rcases h.pass k hk hx with p | p
  ·exact absurd p (hao k (by omega))
  ·exact .inr (by rw [same k (by omega)];exact p)
end
structure Ow (st:Nat→Nat) (s nur fix u r:Nat) (fl:Nat→Nat→Int):Prop where
 ok:FlI (capN st s nur fix) fl
 ex:∀ c,ex fl c=(if c=32 then (r:Int) else 0)-(if c=33 then (r:Int) else 0)
 used:∀ g,u.testBit g=true→fix.testBit g=false→fl (2*g) (2*g+1)=0
theorem Ow.of_net {st:Nat→Nat} {s nur fix n:Nat} {fl:Nat→Nat→Int} (h:Net (capN st s nur fix) fl n):Ow st s nur fix 0 n fl :=
 ⟨h.ok,fun c=>h.ex c,fun g hg=>by simp at hg⟩
theorem Ow.start {st:Nat→Nat} {s nur fix F u r:Nat} {fl:Nat→Nat→Int} (h:Ow st s nur fix u (r+1) fl):Wk st s nur fix F u r fl 32 []:=by
 refine ⟨h.ok,fun c=>?_,by omega,fun k hk=>by simp at hk,List.nodup_nil,fun i k k' hk=>by simp at hk,fun k hk=>by simp at hk,.inl ⟨rfl,rfl⟩,h.used,fun k hk=>by simp at hk,fun k hk=>by simp at hk⟩
 rw [h.ex]
 split<;>split<;>omega
theorem setW_take (ks:List Nat) (i f:Nat):(setW ks i).testBit f=true↔f∈ks.take i:=by
 have:=setW_bit (ks.take i) f
 rw [show setW (ks.take i) (ks.take i).length=setW ks i by unfold setW;rw [List.take_length]] at this
 exact this
theorem uW_bit (u:Nat) (ks:List Nat) (f:Nat):(uW u ks ks.length).testBit f=true↔u.testBit f=true∨f∈ks:=by
 rw [uW_or,Nat.testBit_or,Bool.or_eq_true,setW_bit]
theorem Wk.done {x:Vn} (ok:x.Ok) {u r:Nat} {fl:Nat→Nat→Int} {ks:List Nat} (h:Wk (stL x) x.sick x.nur x.fix x.F u r fl 33 ks) :
 wayE x u (ofN ks)=0∧Ow (stL x) x.sick x.nur x.fix (uWi u (ofN ks)) r fl:=by
 have hF:=ok.F16
 obtain ⟨f,hf,hn⟩:∃ f,ks.getLast?=some f∧x.nur.testBit f=true:=by
  rcases h.pos with p | p | p
  ·omega
  ·exact p.2
  ·omega
 have hne:ks≠[]:=fun e=>by rw [e] at hf;simp at hf
 have hpos:0<ks.length:=List.length_pos_iff.2 hne
 have hw:firstN (wkE x ks) ks.length=0:=by
  refine firstN_all _ fun i hi=>?_
  obtain ⟨k,hk⟩:=at_ix hi
  unfold wkE
  rw [getD_of hk]
  have h1:(setW ks i).testBit k=false:=by
   cases hb:(setW ks i).testBit k
   ·rfl
   ·exfalso
    rw [setW_take,List.mem_iff_getElem?] at hb
    obtain ⟨j,hj⟩:=hb
    have hjl:=lt_of hj
    rw [List.length_take] at hjl
    rw [List.getElem?_take_of_lt (by omega)] at hj
    have e1:=List.getElem?_eq_some_iff.1 hj
    have e2:=List.getElem?_eq_some_iff.1 hk
    obtain ⟨h1,e1⟩:=e1
    obtain ⟨h2,e2⟩:=e2
    exact List.pairwise_iff_getElem.1 h.nd j i h1 h2 (by omega) (e1.trans e2.symm)
  rw [h1,Bool.false_or]
  by_cases hi0:0<i
  ·obtain ⟨k',hk'⟩:=at_ix (l:=ks) (i:=i-1) (by omega)
   rw [getD_of hk']
   have:=h.stp (i-1) k' k hk' (by rw [show i-1+1=i by omega];exact hk)
   rw [this,Bool.not_true,Bool.and_false];rfl
  ·rw [decide_eq_false hi0];rfl
 obtain ⟨a,ha⟩:=at_ix hpos
 have hl:leadsB x ks=true:=by
  unfold leadsB
  rw [hw,getD_of ha,h.fst a ha,getD_of (by rw [List.getLast?_eq_getElem?] at hf;exact hf),hn]
  rfl
 have hc:firstN (cfE x u ks) ks.length=0:=by
  refine firstN_all _ fun i hi=>?_
  obtain ⟨k,hk⟩:=at_ix hi
  unfold cfE
  rw [getD_of hk]
  cases hx:x.fix.testBit k
  ·rw [h.free k (List.mem_of_getElem? hk) hx];rfl
  ·rw [Bool.not_true,Bool.and_false];rfl
 refine ⟨?_,h.ok,fun c=>?_,?_⟩
 ·unfold wayE
  rw [if_neg (fun e=>hne (by
   have:=congrArg List.length e
   rw [ofN_len] at this
   exact List.eq_nil_of_length_eq_zero this)),if_neg (by rw [noF_of h.f];simp),ofN_toNat,hl,if_pos rfl,ofN_len,hc]
  rfl
 ·rw [h.ex]
  split<;>split<;>omega
 ·intro g hg hx
  unfold uWi at hg
  rw [ofN_toNat,ofN_len,uW_bit] at hg
  rcases hg with hg | hg
  ·exact h.used g hg hx
  ·rcases h.pass g hg hx with p | p
   ·omega
   ·exact p
def VerP (x:Vn) (rows:List (List Int)) (u:Nat):Prop:=(∀ j,j<rows.length→wayI x rows j=0)∧usN rows rows.length=u
theorem VerP.nil (x:Vn):VerP x [] 0:=⟨fun j hj=>absurd hj (by simp),rfl⟩
theorem usN_app (rows:List (List Int)) (w:List Int) {j:Nat} (hj:j≤rows.length):usN (rows++[w]) j=usN rows j:=by
 unfold usN
 rw [List.take_append_of_le_length hj]
theorem VerP.app {x:Vn} {rows:List (List Int)} {u:Nat} {w:List Int} (h:VerP x rows u) (hw:wayE x u w=0):VerP x (rows++[w]) (uWi u w):=by
 refine ⟨fun j hj=>?_,?_⟩
 ·rw [List.length_append,List.length_singleton] at hj
  unfold wayI
  rw [usN_app rows w (by omega)]
  by_cases e:j=rows.length
  ·subst e
   rw [h.2,show (rows++[w]).getD rows.length []=w by simp [List.getD]]
   exact hw
  ·have:=h.1 j (by omega)
   unfold wayI at this
   rw [show (rows++[w]).getD j []=rows.getD j [] by simp only [List.getD];rw [List.getElem?_append_left (by omega)]]
   exact this
 ·have hx:(rows++[w])[rows.length]?=some w:=by simp
  rw [List.length_append,List.length_singleton,usN_up hx,usN_app rows w (Nat.le_refl _),h.2]
end Go.Proofs.YtiabjdfdkiijmaaDoor
namespace Go.Proofs.YtiabjdfdkiijmaaDoor
open Go Go.DL
set_option maxRecDepth 100000
set_option maxHeartbeats 4000000
abbrev sU (rows:List (List Int)) (n i:Nat):List AV:=[.pt 0 0,oR rows,I (n:Nat),I (i:Nat)]
section
variable {x:Vn} (ok:x.Ok) {u r n i:Nat} (hu:u<2^x.F) {rows:List (List Int)}
include ok in
theorem walk33 {fl:Nat→Nat→Int} (ho:Ow (stL x) x.sick x.nur x.fix u (r+1) fl) :
 ∃ fl' ks,Wk (stL x) x.sick x.nur x.fix x.F u r fl' 33 ks ∧
   execW progX 33 0 none x33l0 (envL [7,9,10,11,29,30] (s33 rows [] 32 n i)) (gY (lnd x (stL x)) fl rows [])=execW progX 33 0 none (match x33l0 with | .loop _ a=>a | c=>c) (envL [7,9,10,11,29,30] (s33 rows (ofN ks) 33 n i)) (gY (lnd x (stL x)) fl' rows (ofN ks)):=by
 have hF:=ok.F16
 have hst:=stP_lt ok x.ps.length
 have key:∃ q:(Nat→Nat→Int)×Nat×List Nat,Wk (stL x) x.sick x.nur x.fix x.F u r q.1 q.2.1 q.2.2∧q.2.1=33 ∧
  execW progX 33 0 none x33l0 (envL [7,9,10,11,29,30] (s33 rows [] 32 n i)) (gY (lnd x (stL x)) fl rows [])=execW progX 33 0 none (match x33l0 with | .loop _ a=>a | c=>c) (envL [7,9,10,11,29,30] (s33 rows (ofN q.2.2) q.2.1 n i)) (gY (lnd x (stL x)) q.1 rows (ofN q.2.2)):=by
  have hd0:headX 0 [7,9,10,11,29,30] (some (.normal,envL [7,9,10,11,29,30] (s33 rows [] 32 n i),gY (lnd x (stL x)) fl rows []))=some (s33 rows [] 32 n i,gY (lnd x (stL x)) fl rows []):=by
   cases rows
   ·(sym=>(simp [net_nm,net_rn,net_gr,net_fz,net_0,net_len,Za,Zb,Zf,Zh,Zl,Zm,Zv,Z3,Yp,YR,YY,YZ,Xa,Xn,Xs,Xt,Xu,Wx,W9,WA,WC,WE,WG,WH,WI,WK,WM,WN,WO,WP,WU,WV,WW,Vb,Vc,VM,VN,VO,VP,VR,VS,VV,VW,VX,VY,VZ,Ub,Ug,Ul,Ut,Uu,Uz,U0,U1,U2,Tk,Tl,Tp,Tr,Ts,Tx,Ty,Tz,TC,TM,TN,Sz];all_goals tactic=>exact rfl))
   ·(sym=>(simp [net_nm,net_rn,net_gr,net_fz,net_0,net_len,Za,Zb,Zf,Zh,Zl,Zm,Zv,Z3,Yp,YR,YY,YZ,Xa,Xn,Xs,Xt,Xu,Wx,W9,WA,WC,WE,WG,WH,WI,WK,WM,WN,WO,WP,WU,WV,WW,Vb,Vc,VM,VN,VO,VP,VR,VS,VV,VW,VX,VY,VZ,Ub,Ug,Ul,Ut,Uu,Uz,U0,U1,U2,Tk,Tl,Tp,Tr,Ts,Tx,Ty,Tz,TC,TM,TN,Sz];all_goals tactic=>exact rfl))
  unfold x33l0
  refine loop_inv (σ:=(Nat→Nat→Int)×Nat×List Nat) (fun q=>s33 rows (ofN q.2.2) q.2.1 n i) (fun q=>gY (lnd x (stL x)) q.1 rows (ofN q.2.2)) (fun q=>Wk (stL x) x.sick x.nur x.fix x.F u r q.1 q.2.1 q.2.2) (fun q=>q.2.1=33) (fun q=>(tot q.1).toNat) (fl,32,[]) hd0 ho.start ?_
  rintro ⟨f,a,ks⟩ w
  dsimp only at w ⊢
  have hal:=w.lt
  by_cases h33:a=33
  ·left
   refine ⟨?_,h33⟩
   subst h33
   rw [show s33 rows (ofN ks) 33 n i=[.pt 0 0,oR rows,oW rows (ofN ks),I 33,I (n:Nat),I (i:Nat)] from rfl]
   generalize ofN ks=os
   cases rows<;>cases os
   ·(sym=>(simp [net_nm,net_rn,net_gr,net_fz,net_0,net_len,Za,Zb,Zf,Zh,Zl,Zm,Zv,Z3,Yp,YR,YY,YZ,Xa,Xn,Xs,Xt,Xu,Wx,W9,WA,WC,WE,WG,WH,WI,WK,WM,WN,WO,WP,WU,WV,WW,Vb,Vc,VM,VN,VO,VP,VR,VS,VV,VW,VX,VY,VZ,Ub,Ug,Ul,Ut,Uu,Uz,U0,U1,U2,Tk,Tl,Tp,Tr,Ts,Tx,Ty,Tz,TC,TM,TN,Sz];all_goals tactic=>exact rfl))
   ·(sym=>(simp [net_nm,net_rn,net_gr,net_fz,net_0,net_len,Za,Zb,Zf,Zh,Zl,Zm,Zv,Z3,Yp,YR,YY,YZ,Xa,Xn,Xs,Xt,Xu,Wx,W9,WA,WC,WE,WG,WH,WI,WK,WM,WN,WO,WP,WU,WV,WW,Vb,Vc,VM,VN,VO,VP,VR,VS,VV,VW,VX,VY,VZ,Ub,Ug,Ul,Ut,Uu,Uz,U0,U1,U2,Tk,Tl,Tp,Tr,Ts,Tx,Ty,Tz,TC,TM,TN,Sz];all_goals tactic=>exact rfl))
   ·(sym=>(simp [net_nm,net_rn,net_gr,net_fz,net_0,net_len,Za,Zb,Zf,Zh,Zl,Zm,Zv,Z3,Yp,YR,YY,YZ,Xa,Xn,Xs,Xt,Xu,Wx,W9,WA,WC,WE,WG,WH,WI,WK,WM,WN,WO,WP,WU,WV,WW,Vb,Vc,VM,VN,VO,VP,VR,VS,VV,VW,VX,VY,VZ,Ub,Ug,Ul,Ut,Uu,Uz,U0,U1,U2,Tk,Tl,Tp,Tr,Ts,Tx,Ty,Tz,TC,TM,TN,Sz];all_goals tactic=>exact rfl))
   ·(sym=>(simp [net_nm,net_rn,net_gr,net_fz,net_0,net_len,Za,Zb,Zf,Zh,Zl,Zm,Zv,Z3,Yp,YR,YY,YZ,Xa,Xn,Xs,Xt,Xu,Wx,W9,WA,WC,WE,WG,WH,WI,WK,WM,WN,WO,WP,WU,WV,WW,Vb,Vc,VM,VN,VO,VP,VR,VS,VV,VW,VX,VY,VZ,Ub,Ug,Ul,Ut,Uu,Uz,U0,U1,U2,Tk,Tl,Tp,Tr,Ts,Tx,Ty,Tz,TC,TM,TN,Sz];all_goals tactic=>exact rfl))
  ·right
   obtain ⟨d0,hd0,hp0⟩:=w.next h33
   obtain ⟨d,hd,hp,e66⟩:=w66n (l:=lnd x (stL x)) (fl:=f) hal hd0 hp0
   have hb:=w.ok.b
   have hdec:=tot_dec (fl:=f) (a:=a) (d:=d) hal hd
   have hpos:=tot_pos (w.ok' hp)
   have hm:(tot (dec f a d)).toNat<(tot f).toNat:=by omega
   have hksl:(ofN ks).length<1000:=by
    rw [ofN_len]
    have h1:ks.length≤16:=by
     have h2:ks.length=card (setW ks ks.length):=by
      have:∀ j,j≤ks.length→card (setW ks j)=j:=by
       intro j
       induction j with
       | zero=>intro _;rw [show setW ks 0=0 from rfl];exact card_0
       | succ j ih =>
         intro hj
         obtain ⟨k,hk⟩:=at_ix (l:=ks) (i:=j) (by omega)
         have hkF:=w.f k (List.mem_of_getElem? hk)
         rw [setW_up hk,card_up (by omega),ih (by omega)]
         cases hb:(setW ks j).testBit k
         ·rfl
         ·exfalso
          rw [setW_take,List.mem_iff_getElem?] at hb
          obtain ⟨j',hj'⟩:=hb
          have hjl:=lt_of hj'
          rw [List.length_take] at hjl
          rw [List.getElem?_take_of_lt (by omega)] at hj'
          obtain ⟨h1,e1⟩:=List.getElem?_eq_some_iff.1 hj'
          obtain ⟨h2,e2⟩:=List.getElem?_eq_some_iff.1 hk
          exact List.pairwise_iff_getElem.1 w.nd j' j h1 h2 (by omega) (e1.trans e2.symm)
      exact (this ks.length (Nat.le_refl _)).symm
     have:=card_16 (setW ks ks.length)
     omega
    omega
   by_cases hde:d<32∧d%2=0
   ·rcases w68 (ks:=ofN ks) (f:=((d/2:Nat):Int)) (by omega) with ⟨hn,_⟩ | ⟨m,hm2,e68⟩
    ·have hn2:d/2∉ks:=fun h=>hn (List.mem_map_of_mem (f:=fun k:Nat=>(k:Int)) h)
     refine ⟨(dec f a d,d,ks++[d/2]),hm,?_,w.app hst ok.s hF hp hde.1 hde.2 hn2⟩
     have:=walk_app (l:=lnd x (stL x)) (rows:=rows) (n:=n) (i:=i) (by omega) hde.1 hde.2 hb hp hksl e66 hn
     rw [←ofN_app] at this
     exact this
    ·have hm3:ks[m]?=some (d/2):=by
      have:=lt_of hm2
      rw [ofN_len] at this
      obtain ⟨k,hk⟩:=at_ix this
      rw [ofN_ix hk] at hm2
      rw [hk]
      have:=Option.some.inj hm2
      congr 1;omega
     refine ⟨(dec f a d,d,ks.take (m+1)),hm,?_,w.trim hst ok.s hF hp hde.1 hde.2 hm3⟩
     have:=walk_trim (l:=lnd x (stL x)) (rows:=rows) (n:=n) (i:=i) (by omega) hde.1 hde.2 hb hp hksl e66 hm2 e68
     rw [show (ofN ks).take (m+1)=ofN (ks.take (m+1)) from (List.map_take ..).symm] at this
     exact this
   ·refine ⟨(dec f a d,d,ks),hm,?_,w.odd hd hp hde⟩
    exact walk_odd (l:=lnd x (stL x)) (rows:=rows) (n:=n) (i:=i) (by omega) hd hb hp e66 hde
 obtain ⟨⟨f,a,ks⟩,w,rfl,hrun⟩:=key
 exact ⟨f,ks,w,hrun⟩
include ok in
theorem round33 {fl:Nat→Nat→Int} (ho:Ow (stL x) x.sick x.nur x.fix u (r+1) fl) (hv:VerP x rows u) (hi:i<n) (hn:n≤100) (hr:rows.length=i) :
 ∃ fl' w,Ow (stL x) x.sick x.nur x.fix (uWi u w) r fl'∧VerP x (rows++[w]) (uWi u w) ∧
   headX 0 [7,9,29,30] (execW progX 33 0 none (match x33l1 with | .loop _ a=>a | c=>c) (envL [7,9,29,30] (sU rows n i)) (gY (lnd x (stL x)) fl rows []))=some (sU (rows++[w]) n (i+1),gY (lnd x (stL x)) fl' (rows++[w]) []):=by
 obtain ⟨fl',ks,wk,hrun⟩:=walk33 (rows:=rows) (n:=n) (i:=i) ok ho
 obtain ⟨h1,h2⟩:=wk.done ok
 refine ⟨fl',ofN ks,h2,hv.app h1,?_⟩
 have hks:ks≠[]:=by
  rintro rfl
  unfold wayE at h1
  rw [if_pos (show ofN []=[] from rfl)] at h1;simp at h1
 have a1:((i:Int)<(n:Int))=True:=eq_true (by omega)
 have a2:IntKind.i64.wrap ((i:Int)+1)=(i:Int)+1:=wrap_ok (by omega) (by omega)
 rw [show s33 rows (ofN ks) 33 n i=[.pt 0 0,oR rows,oW rows (ofN ks),I 33,I (n:Nat),I (i:Nat)] from rfl,show s33 rows [] 32 n i=[.pt 0 0,oR rows,oW rows [],I 32,I (n:Nat),I (i:Nat)] from rfl] at hrun
 have hos:ofN ks≠[]:=fun e=>hks (by
  have:=congrArg List.length e
  rw [ofN_len] at this
  exact List.eq_nil_of_length_eq_zero this)
 generalize ofN ks=os at *
 generalize lnd x (stL x)=l at *
 unfold x33l1
 dsimp only
 rcases os with _ | ⟨k,kr⟩
 ·exact absurd rfl hos
 ·rcases rows with _ | ⟨q,qr⟩
  ·sym =>
   simp [net_nm,net_rn,net_gr,net_fz,net_0,net_len,Za,Zb,Zd,Ze,Zf,Zg,Zh,Zj,Zl,Zm,Zo,Zv,Z1,Z3,ZR,Yh,Yp,Yq,YR,YY,YZ,Xa,Xh,Xj,Xk,Xn,Xs,Xt,Xu,XK,XQ,XX,XY,XZ,We,Wp,Wx,Wy,Wz,W0,W3,W4,W5,W6,W9,WA,WC,WE,WG,WH,WI,WK,WM,WN,WO,WP,WU,WV,WW,Vb,Vc,Vo,Vp,Vq,Vr,Vs,Vt,Vu,Vv,V1,V2,V3,VM,VN,VO,VP,VQ,VR,VV,VW,VX,VY,VZ,Ub,Uc,Ud,Ue,Ug,Ui,Ul,Uq,Ur,Ut,Uu,Uw,Ux,Uz,U0,U1,U2,U3,U4,UB,UC,UD,UE,UM,UN,UO,UP,UQ,UR,US,UT,UU,UV,Tf,Tg,Th,Ti,Tj,Tk,Tl,Tn,Tp,Tq,Tr,Ts,Tu,Tw,Tx,Ty,Tz,T8,T9,TA,TB,TC,TD,TH,TM,TN,TQ,Sm,Sn,Sp,S5,S6,S8,S9,SA,SB,a1]
   tactic =>
    unfold x33l0 at hrun ⊢
    rw [loop_head2 (e':=envL [7,9,10,11,29,30] [.pt 0 0,oR [],oW [] [],I 32,I (n:Nat),I (i:Nat)]) (H':=gY l fl [] []) (by (sym=>(simp [net_nm,net_rn,net_gr,net_fz,net_0,net_len,Za,Zb,Zd,Ze,Zf,Zg,Zh,Zj,Zl,Zm,Zo,Zv,Z1,Z3,ZR,Yh,Yp,Yq,YR,YY,YZ,Xa,Xh,Xj,Xk,Xn,Xs,Xt,Xu,XK,XQ,XX,XY,XZ,We,Wp,Wx,Wy,Wz,W0,W3,W4,W5,W6,W9,WA,WC,WE,WG,WH,WI,WK,WM,WN,WO,WP,WU,WV,WW,Vb,Vc,Vo,Vp,Vq,Vr,Vs,Vt,Vu,Vv,V1,V2,V3,VM,VN,VO,VP,VQ,VR,VV,VW,VX,VY,VZ,Ub,Uc,Ud,Ue,Ug,Ui,Ul,Uq,Ur,Ut,Uu,Uw,Ux,Uz,U0,U1,U2,U3,U4,UB,UC,UD,UE,UM,UN,UO,UP,UQ,UR,US,UT,UU,UV,Tf,Tg,Th,Ti,Tj,Tk,Tl,Tn,Tp,Tq,Tr,Ts,Tu,Tw,Tx,Ty,Tz,T8,T9,TA,TB,TC,TD,TH,TM,TN,TQ,Sm,Sn,Sp,S5,S6,S8,S9,SA,SB];all_goals tactic=>exact rfl))),hrun]
    (sym=>(simp [net_nm,net_rn,net_gr,net_fz,net_0,net_len,Za,Zb,Zd,Ze,Zf,Zg,Zh,Zj,Zl,Zm,Zo,Zv,Z1,Z3,ZR,Yh,Yp,Yq,YR,YY,YZ,Xa,Xh,Xj,Xk,Xn,Xs,Xt,Xu,XK,XQ,XX,XY,XZ,We,Wp,Wx,Wy,Wz,W0,W3,W4,W5,W6,W9,WA,WC,WE,WG,WH,WI,WK,WM,WN,WO,WP,WU,WV,WW,Vb,Vc,Vo,Vp,Vq,Vr,Vs,Vt,Vu,Vv,V1,V2,V3,VM,VN,VO,VP,VQ,VR,VV,VW,VX,VY,VZ,Ub,Uc,Ud,Ue,Ug,Ui,Ul,Uq,Ur,Ut,Uu,Uw,Ux,Uz,U0,U1,U2,U3,U4,UB,UC,UD,UE,UM,UN,UO,UP,UQ,UR,US,UT,UU,UV,Tf,Tg,Th,Ti,Tj,Tk,Tl,Tn,Tp,Tq,Tr,Ts,Tu,Tw,Tx,Ty,Tz,T8,T9,TA,TB,TC,TD,TH,TM,TN,TQ,Sm,Sn,Sp,S5,S6,S8,S9,SA,SB,a2];all_goals tactic=>exact rfl))
  ·have b1:((qr.length+1+1)*24≤1099511627776)=True:=eq_true (by simp at hr;omega)
   have b2:(qr.length+1+1≤1099511627776)=True:=eq_true (by simp at hr;omega)
   sym =>
    simp [net_nm,net_rn,net_gr,net_fz,net_0,net_len,Za,Zb,Zd,Ze,Zf,Zg,Zh,Zj,Zl,Zm,Zo,Zv,Z1,Z3,ZR,Yh,Yp,Yq,YR,YY,YZ,Xa,Xh,Xj,Xk,Xn,Xs,Xt,Xu,XK,XQ,XX,XY,XZ,We,Wp,Wx,Wy,Wz,W0,W3,W4,W5,W6,W9,WA,WC,WE,WG,WH,WI,WK,WM,WN,WO,WP,WU,WV,WW,Vb,Vc,Vo,Vp,Vq,Vr,Vs,Vt,Vu,Vv,V1,V2,V3,VM,VN,VO,VP,VQ,VR,VV,VW,VX,VY,VZ,Ub,Uc,Ud,Ue,Ug,Ui,Ul,Uq,Ur,Ut,Uu,Uw,Ux,Uz,U0,U1,U2,U3,U4,UB,UC,UD,UE,UM,UN,UO,UP,UQ,UR,US,UT,UU,UV,Tf,Tg,Th,Ti,Tj,Tk,Tl,Tn,Tp,Tq,Tr,Ts,Tu,Tw,Tx,Ty,Tz,T8,T9,TA,TB,TC,TD,TH,TM,TN,TQ,Sm,Sn,Sp,S5,S6,S8,S9,SA,SB,a1]
    tactic =>
     unfold x33l0 at hrun ⊢
     rw [loop_head2 (e':=envL [7,9,10,11,29,30] [.pt 0 0,oR (q::qr),oW (q::qr) [],I 32,I (n:Nat),I (i:Nat)]) (H':=gY l fl (q::qr) []) (by (sym=>(simp [net_nm,net_rn,net_gr,net_fz,net_0,net_len,Za,Zb,Zd,Ze,Zf,Zg,Zh,Zj,Zl,Zm,Zo,Zv,Z1,Z3,ZR,Yh,Yp,Yq,YR,YY,YZ,Xa,Xh,Xj,Xk,Xn,Xs,Xt,Xu,XK,XQ,XX,XY,XZ,We,Wp,Wx,Wy,Wz,W0,W3,W4,W5,W6,W9,WA,WC,WE,WG,WH,WI,WK,WM,WN,WO,WP,WU,WV,WW,Vb,Vc,Vo,Vp,Vq,Vr,Vs,Vt,Vu,Vv,V1,V2,V3,VM,VN,VO,VP,VQ,VR,VV,VW,VX,VY,VZ,Ub,Uc,Ud,Ue,Ug,Ui,Ul,Uq,Ur,Ut,Uu,Uw,Ux,Uz,U0,U1,U2,U3,U4,UB,UC,UD,UE,UM,UN,UO,UP,UQ,UR,US,UT,UU,UV,Tf,Tg,Th,Ti,Tj,Tk,Tl,Tn,Tp,Tq,Tr,Ts,Tu,Tw,Tx,Ty,Tz,T8,T9,TA,TB,TC,TD,TH,TM,TN,TQ,Sm,Sn,Sp,S5,S6,S8,S9,SA,SB];all_goals tactic=>exact rfl))),hrun]
     (sym=>(simp [net_nm,net_rn,net_gr,net_fz,net_0,net_len,Za,Zb,Zd,Ze,Zf,Zg,Zh,Zj,Zl,Zm,Zo,Zv,Z1,Z3,ZR,Yh,Yp,Yq,YR,YY,YZ,Xa,Xh,Xj,Xk,Xn,Xs,Xt,Xu,XK,XQ,XX,XY,XZ,We,Wp,Wx,Wy,Wz,W0,W3,W4,W5,W6,W9,WA,WC,WE,WG,WH,WI,WK,WM,WN,WO,WP,WU,WV,WW,Vb,Vc,Vo,Vp,Vq,Vr,Vs,Vt,Vu,Vv,V1,V2,V3,VM,VN,VO,VP,VQ,VR,VV,VW,VX,VY,VZ,Ub,Uc,Ud,Ue,Ug,Ui,Ul,Uq,Ur,Ut,Uu,Uw,Ux,Uz,U0,U1,U2,U3,U4,UB,UC,UD,UE,UM,UN,UO,UP,UQ,UR,US,UT,UU,UV,Tf,Tg,Th,Ti,Tj,Tk,Tl,Tn,Tp,Tq,Tr,Ts,Tu,Tw,Tx,Ty,Tz,T8,T9,TA,TB,TC,TD,TH,TM,TN,TQ,Sm,Sn,Sp,S5,S6,S8,S9,SA,SB,a2,b1,b2];all_goals tactic=>exact rfl))
end
theorem cuts_0 {x:Vn} {C:Nat}:FC (stL x) x.sick x.nur x.fix C↔Cuts x 0 C:=by
 constructor
 ·intro h
  exact ⟨h.lt,h.free,fun f hf=>h.cut f (by rw [Nat.or_zero] at hf;exact hf)⟩
 ·intro h
  exact ⟨h.lt,h.free,fun f hf=>h.cut f (by rw [Nat.or_zero];exact hf)⟩
theorem w33 {x:Vn} (ok:x.Ok) (hh:hasC x=true):∃ n ws,Lea x 0 n∧ws.length=n∧verE x ws=0∧runW progX 33 [.agg x.c] []=some (.tup [wL ws,I 0],[]):=by
 have hF:=ok.F16
 obtain ⟨n,hn,e59⟩:=w59t ok ok.h23 hh
 obtain ⟨C0,c1,c2⟩:=(hasC_iff ok).1 hh
 have hn16:n≤16:=by
  have:=hn.2 C0 c2
  have:=card_16 C0
  omega
 obtain ⟨n',fl,q1,q2,q3,e65⟩:=w65 (lnOk ok)
 have hl:=least_of (stP_lt ok _) ok.s hF q1 q3 (cuts_0.2 c2) c1
 have hnn:n'=n:=by
  refine Lea.eq (x:=x) (cl:=0) ⟨?_,fun C hC=>hl.2 C (cuts_0.2 hC)⟩ hn
  obtain ⟨C,d1,d2,d3⟩:=hl.1
  exact ⟨C,d1,cuts_0.1 d2,d3⟩
 subst hnn
 obtain ⟨G,g0,g1,g2⟩:=seq_of n'
  (fun i (q:(Nat→Nat→Int)×List (List Int)×Nat)=>Ow (stL x) x.sick x.nur x.fix q.2.2 (n'-i) q.1∧VerP x q.2.1 q.2.2∧q.2.1.length=i)
  (fun i q q'=>headX 0 [7,9,29,30] (execW progX 33 0 none (match x33l1 with | .loop _ a=>a | c=>c) (envL [7,9,29,30] (sU q.2.1 n' i)) (gY (lnd x (stL x)) q.1 q.2.1 []))=some (sU q'.2.1 n' (i+1),gY (lnd x (stL x)) q'.1 q'.2.1 []))
  (fl,[],0) ⟨.of_net q1,.nil x,rfl⟩ (by
   rintro i ⟨f,rows,u⟩ hi ⟨p1,p2,p3⟩
   dsimp only at p1 p2 p3
   rw [show n'-i=(n'-(i+1))+1 by omega] at p1
   obtain ⟨f',w,r1,r2,r3⟩:=round33 ok p1 p2 hi (by omega) p3
   refine ⟨(f',rows++[w],uWi u w),⟨r1,r2,?_⟩,r3⟩
   show (rows++[w]).length=i+1
   rw [List.length_append,p3];rfl)
 obtain ⟨p1,p2,p3⟩:=g1 n' (Nat.le_refl _)
 refine ⟨n',(G n').2.1,hn,p3,?_,?_⟩
 ·unfold verE
  rw [if_neg (by omega)]
  exact firstN_all _ p2.1
 ·have z:=UW (n:=(n':Int))
  have b0:(G 0).2.1=[]:=by rw [g0]
  have f0':(G 0).1=fl:=by rw [g0]
  generalize hrn:(G n').2.1=rn at *
  generalize hfn:(G n').1=fn at *
  have e65:runW progX 65 [.pt 0 0] [some (.blk true (.cells true (lnd x (stL x))))]=some (.tup [.pt 1 0,I (n':Nat)],[some (.blk true (.cells true (lnd x (stL x)))),some (.blk false (.cells true (netA (.pt 0 0) fl)))]):=e65
  have g2':∀ i,i<n'→headX 0 [7,9,29,30] (execW progX 33 0 none (match x33l1 with | .loop _ a=>a | c=>c) (envL [7,9,29,30] (sU (G i).2.1 n' i)) (gY (lnd x (stL x)) (G i).1 (G i).2.1 []))=some (sU (G (i+1)).2.1 n' (i+1),gY (lnd x (stL x)) (G (i+1)).1 (G (i+1)).2.1 []):=g2
  clear g1 g2
  rw [r33 (by simp)];unfold x33;dsimp only
  sym =>
   simp [net_nm,net_rn,net_gr,net_fz,net_0,net_len,Za,Zb,Zf,Zg,Zh,Zj,Zl,Zm,Zo,Zv,Zz,Z3,ZD,ZF,ZN,ZO,ZS,ZT,Yg,Yp,Yq,Y7,YR,YU,YV,YX,YZ,Xa,Xe,Xg,Xh,Xj,Xn,Xp,Xq,Xr,Xt,Xu,Xy,XI,XK,XL,XM,XQ,XV,XX,XY,Wa,Wc,Wd,We,Wg,Wh,Wo,Wx,Wy,Wz,W0,W3,W4,W5,W7,W8,W9,WA,WB,WC,WE,WF,WG,WH,WI,WJ,WK,WM,WN,WO,WP,WQ,WR,WS,WU,WV,WW,Vb,Vc,Ve,Vf,Vg,Vh,Vo,Vp,Vq,Vr,Vs,Vt,Vu,Vv,Vw,Vx,Vz,V1,V2,V3,V5,V6,V8,V9,VA,VB,VE,VF,VG,VH,VI,VK,VM,VN,VO,VP,VR,VS,VU,VV,VW,VX,VY,VZ,Ub,Uc,Ud,Ue,Ug,Ui,Ul,Uq,Ut,Uu,Uv,Uz,U0,U1,U2,U3,U4,U5,U6,U7,U8,U9,UA,UK,UL,UW,UX,UY,Tb,Tf,Tk,Tl,Tm,Tn,Tp,Tq,Tr,Ts,Tw,Tx,Ty,Tz,TA,TB,TC,TD,Sm,Sn,Sp,S5,S6,S7,S8,S9,SA,SB,e59,e65]
   tactic =>
    unfold x33l1
    rw [loop_rule n' (fun i=>sU (G i).2.1 n' i) (fun i=>gY (lnd x (stL x)) (G i).1 (G i).2.1 [])]
    ·rw [hrn,hfn]
     rcases rn with _ | ⟨q,qr⟩
     ·(sym=>(simp [net_nm,net_rn,net_gr,net_fz,net_0,net_len,Za,Zb,Zf,Zg,Zh,Zj,Zl,Zm,Zo,Zv,Zz,Z3,ZD,ZF,ZN,ZO,ZS,ZT,Yg,Yp,Yq,Y7,YR,YU,YV,YX,YZ,Xa,Xe,Xg,Xh,Xj,Xn,Xp,Xq,Xr,Xt,Xu,Xy,XI,XK,XL,XM,XQ,XV,XX,XY,Wa,Wc,Wd,We,Wg,Wh,Wo,Wx,Wy,Wz,W0,W3,W4,W5,W7,W8,W9,WA,WB,WC,WE,WF,WG,WH,WI,WJ,WK,WM,WN,WO,WP,WQ,WR,WS,WU,WV,WW,Vb,Vc,Ve,Vf,Vg,Vh,Vo,Vp,Vq,Vr,Vs,Vt,Vu,Vv,Vw,Vx,Vz,V1,V2,V3,V5,V6,V8,V9,VA,VB,VE,VF,VG,VH,VI,VK,VM,VN,VO,VP,VR,VS,VU,VV,VW,VX,VY,VZ,Ub,Uc,Ud,Ue,Ug,Ui,Ul,Uq,Ut,Uu,Uv,Uz,U0,U1,U2,U3,U4,U5,U6,U7,U8,U9,UA,UK,UL,UW,UX,UY,Tb,Tf,Tk,Tl,Tm,Tn,Tp,Tq,Tr,Ts,Tw,Tx,Ty,Tz,TA,TB,TC,TD,Sm,Sn,Sp,S5,S6,S7,S8,S9,SA,SB,z];all_goals tactic=>exact rfl))
     ·have ch:=chunks1 (f:=fun w:List Int=>nL w) (q::qr) []
      have ch2:chunks (nL q::qr.map fun w=>nL w) 0 1 (qr.length+1)=[nL q]::qr.map fun w=>[nL w]:=ch
      (sym=>(simp [net_nm,net_rn,net_gr,net_fz,net_0,net_len,Za,Zb,Zf,Zg,Zh,Zj,Zl,Zm,Zo,Zv,Zz,Z3,ZD,ZF,ZN,ZO,ZS,ZT,Yg,Yp,Yq,Y7,YR,YU,YV,YX,YZ,Xa,Xe,Xg,Xh,Xj,Xn,Xp,Xq,Xr,Xt,Xu,Xy,XI,XK,XL,XM,XQ,XV,XX,XY,Wa,Wc,Wd,We,Wg,Wh,Wo,Wx,Wy,Wz,W0,W3,W4,W5,W7,W8,W9,WA,WB,WC,WE,WF,WG,WH,WI,WJ,WK,WM,WN,WO,WP,WQ,WR,WS,WU,WV,WW,Vb,Vc,Ve,Vf,Vg,Vh,Vo,Vp,Vq,Vr,Vs,Vt,Vu,Vv,Vw,Vx,Vz,V1,V2,V3,V5,V6,V8,V9,VA,VB,VE,VF,VG,VH,VI,VK,VM,VN,VO,VP,VR,VS,VU,VV,VW,VX,VY,VZ,Ub,Uc,Ud,Ue,Ug,Ui,Ul,Uq,Ut,Uu,Uv,Uz,U0,U1,U2,U3,U4,U5,U6,U7,U8,U9,UA,UK,UL,UW,UX,UY,Tb,Tf,Tk,Tl,Tm,Tn,Tp,Tq,Tr,Ts,Tw,Tx,Ty,Tz,TA,TB,TC,TD,Sm,Sn,Sp,S5,S6,S7,S8,S9,SA,SB,z,ch2];all_goals tactic=>exact rfl))
    ·rw [b0,f0']; (sym=>(simp [net_nm,net_rn,net_gr,net_fz,net_0,net_len,Za,Zb,Zf,Zg,Zh,Zj,Zl,Zm,Zo,Zv,Zz,Z3,ZD,ZF,ZN,ZO,ZS,ZT,Yg,Yp,Yq,Y7,YR,YU,YV,YX,YZ,Xa,Xe,Xg,Xh,Xj,Xn,Xp,Xq,Xr,Xt,Xu,Xy,XI,XK,XL,XM,XQ,XV,XX,XY,Wa,Wc,Wd,We,Wg,Wh,Wo,Wx,Wy,Wz,W0,W3,W4,W5,W7,W8,W9,WA,WB,WC,WE,WF,WG,WH,WI,WJ,WK,WM,WN,WO,WP,WQ,WR,WS,WU,WV,WW,Vb,Vc,Ve,Vf,Vg,Vh,Vo,Vp,Vq,Vr,Vs,Vt,Vu,Vv,Vw,Vx,Vz,V1,V2,V3,V5,V6,V8,V9,VA,VB,VE,VF,VG,VH,VI,VK,VM,VN,VO,VP,VR,VS,VU,VV,VW,VX,VY,VZ,Ub,Uc,Ud,Ue,Ug,Ui,Ul,Uq,Ut,Uu,Uv,Uz,U0,U1,U2,U3,U4,U5,U6,U7,U8,U9,UA,UK,UL,UW,UX,UY,Tb,Tf,Tk,Tl,Tm,Tn,Tp,Tq,Tr,Ts,Tw,Tx,Ty,Tz,TA,TB,TC,TD,Sm,Sn,Sp,S5,S6,S7,S8,S9,SA,SB];all_goals tactic=>exact rfl))
    ·exact g2'
    ·rw [hrn,hfn]
     rcases rn with _ | ⟨q,qr⟩
     ·(sym=>(simp [net_nm,net_rn,net_gr,net_fz,net_0,net_len,Za,Zb,Zf,Zg,Zh,Zj,Zl,Zm,Zo,Zv,Zz,Z3,ZD,ZF,ZN,ZO,ZS,ZT,Yg,Yp,Yq,Y7,YR,YU,YV,YX,YZ,Xa,Xe,Xg,Xh,Xj,Xn,Xp,Xq,Xr,Xt,Xu,Xy,XI,XK,XL,XM,XQ,XV,XX,XY,Wa,Wc,Wd,We,Wg,Wh,Wo,Wx,Wy,Wz,W0,W3,W4,W5,W7,W8,W9,WA,WB,WC,WE,WF,WG,WH,WI,WJ,WK,WM,WN,WO,WP,WQ,WR,WS,WU,WV,WW,Vb,Vc,Ve,Vf,Vg,Vh,Vo,Vp,Vq,Vr,Vs,Vt,Vu,Vv,Vw,Vx,Vz,V1,V2,V3,V5,V6,V8,V9,VA,VB,VE,VF,VG,VH,VI,VK,VM,VN,VO,VP,VR,VS,VU,VV,VW,VX,VY,VZ,Ub,Uc,Ud,Ue,Ug,Ui,Ul,Uq,Ut,Uu,Uv,Uz,U0,U1,U2,U3,U4,U5,U6,U7,U8,U9,UA,UK,UL,UW,UX,UY,Tb,Tf,Tk,Tl,Tm,Tn,Tp,Tq,Tr,Ts,Tw,Tx,Ty,Tz,TA,TB,TC,TD,Sm,Sn,Sp,S5,S6,S7,S8,S9,SA,SB,z];all_goals tactic=>exact rfl))
     ·(sym=>(simp [net_nm,net_rn,net_gr,net_fz,net_0,net_len,Za,Zb,Zf,Zg,Zh,Zj,Zl,Zm,Zo,Zv,Zz,Z3,ZD,ZF,ZN,ZO,ZS,ZT,Yg,Yp,Yq,Y7,YR,YU,YV,YX,YZ,Xa,Xe,Xg,Xh,Xj,Xn,Xp,Xq,Xr,Xt,Xu,Xy,XI,XK,XL,XM,XQ,XV,XX,XY,Wa,Wc,Wd,We,Wg,Wh,Wo,Wx,Wy,Wz,W0,W3,W4,W5,W7,W8,W9,WA,WB,WC,WE,WF,WG,WH,WI,WJ,WK,WM,WN,WO,WP,WQ,WR,WS,WU,WV,WW,Vb,Vc,Ve,Vf,Vg,Vh,Vo,Vp,Vq,Vr,Vs,Vt,Vu,Vv,Vw,Vx,Vz,V1,V2,V3,V5,V6,V8,V9,VA,VB,VE,VF,VG,VH,VI,VK,VM,VN,VO,VP,VR,VS,VU,VV,VW,VX,VY,VZ,Ub,Uc,Ud,Ue,Ug,Ui,Ul,Uq,Ut,Uu,Uv,Uz,U0,U1,U2,U3,U4,U5,U6,U7,U8,U9,UA,UK,UL,UW,UX,UY,Tb,Tf,Tk,Tl,Tm,Tn,Tp,Tq,Tr,Ts,Tw,Tx,Ty,Tz,TA,TB,TC,TD,Sm,Sn,Sp,S5,S6,S7,S8,S9,SA,SB,z];all_goals tactic=>exact rfl))
def xV (fix:Nat):Vn:=⟨8,[(0,1),(0,2),(1,3),(2,3),(3,4),(3,5),(4,6),(5,6)],[(0,2,7),(3,4,7)],1,192,fix⟩
theorem xV_ok {fix:Nat} (h:fix<256):(xV fix).Ok:=by
 refine ⟨by show (1:Nat)≤8;decide,by show (8:Nat)≤16;decide,by show (8:Nat)≤60;decide,by show (2:Nat)≤20;decide,?_,?_,by show (1:Nat)<2^8;decide,by show (192:Nat)<2^8;decide,h⟩
 ·intro p hp
  have:∀ p∈[(0,1),(0,2),(1,3),(2,3),(3,4),(3,5),(4,6),(5,6)],p.1<8∧p.2<8∧p.1≠p.2:=by decide
  exact this p hp
 ·intro p hp
  have:∀ p∈[(0,2,7),(3,4,7)],p.1≤100∧p.2.1<8∧p.2.2<8∧p.2.1≠p.2.2:=by decide
  exact this p hp
def aheadB (a b:Nat):Bool:=(List.range 16).any fun d=>((List.range d).all fun j=>a.testBit j==b.testBit j)&&(a.testBit d && !b.testBit d)
theorem aheadB_of {a b:Nat} (h:aheadB a b=true):ahead a b:=by
 unfold aheadB at h
 rw [List.any_eq_true] at h
 obtain ⟨d,_,h⟩:=h
 simp only [Bool.and_eq_true,List.all_eq_true,List.mem_range,beq_iff_eq,Bool.not_eq_true'] at h
 exact ⟨d,h.1,h.2.1,h.2.2⟩
theorem isCut_by {x:Vn} (ok:x.Ok) {c:Nat} {l:List Nat} (hl:csN x=l) (h:(l.contains c&&l.all fun t=>t==c||aheadB c t)=true):isCut x c:=by
 rw [Bool.and_eq_true,List.all_eq_true] at h
 obtain ⟨h1,h2⟩:=h
 rw [List.contains_iff_mem,←hl] at h1
 refine isCut_of ok ((csN_mem ok).1 h1) fun t ht q=>?_
 have:=h2 t (by rw [←hl];exact (csN_mem ok).2 ht)
 rw [Bool.or_eq_true,beq_iff_eq] at this
 rcases this with rfl | h
 ·exact ahead_irr q
 ·exact ahead_irr (ahead_trans q (aheadB_of h))
theorem cs_0:csN (xV 0)=[1]:=by kernel_rfl
theorem cs_9:csN (xV 9)=[6,192]:=by kernel_rfl
theorem cs_79:csN (xV 79)=[176]:=by kernel_rfl
theorem cs_15:csN (xV 15)=[192]:=by kernel_rfl
theorem has_by {x:Vn} (ok:x.Ok) {l:List Nat} (h:csN x=l) (hl:l≠[]):hasC x=true:=(csN_has ok).2 (by rw [h];exact hl)
theorem cut_by {x:Vn} (ok:x.Ok) {c:Nat} {l:List Nat} (hl:csN x=l) (h:(l.contains c&&l.all fun t=>t==c||aheadB c t)=true):runW progX 29 [.agg x.c] []=some (.tup [nL (ofN (el c)),I 0],[]):=by
 have hc:=isCut_by ok hl h
 have hh:hasC x=true:=(hasC_iff ok).2 ⟨c,hc.lt,hc.min.1⟩
 obtain ⟨c',h1,h2⟩:=w29 ok ok.h23 hh
 rw [hc.eq h1];exact h2
theorem need_by {x:Vn} (ok:x.Ok) {c:Nat} {l:List Nat} (hl:csN x=l) (hn:l≠[]) (h:allN l l.length=c):runW progX 31 [.agg x.c] []=some (.tup [nL (ofN (el c)),I 0],[]):=by
 have:=allN_need ok (by rw [hl];exact hn)
 rw [hl,h] at this
 rw [this]
 exact w31 ok (has_by ok hl hn)
abbrev vC (f:Int):List AV:=[I (8),.fs [[I (0),I (1)],[I (0),I (2)],[I (1),I (3)],[I (2),I (3)],[I (3),I (4)],[I (3),I (5)],[I (4),I (6)],[I (5),I (6)]],.fs [[I (0),I (2),I (7)],[I (3),I (4),I (7)]],I (1),I (192),I f]
theorem wk_3:runW progX 29 [.agg (vC 0)] []=some (.tup [.fs [[I (0)]],I (0)],[]):=cut_by (x:=xV 0) (xV_ok (by omega)) (c:=1) cs_0 (by decide)
theorem wk_5:runW progX 29 [.agg (vC 9)] []=some (.tup [.fs [[I (1)],[I (2)]],I (0)],[]):=cut_by (x:=xV 9) (xV_ok (by omega)) (c:=6) cs_9 (by decide)
theorem wk_7:runW progX 29 [.agg (vC 79)] []=some (.tup [.fs [[I (4)],[I (5)],[I (7)]],I (0)],[]):=cut_by (x:=xV 79) (xV_ok (by omega)) (c:=176) cs_79 (by decide)
theorem wk_9:runW progX 31 [.agg (vC 15)] []=some (.tup [.fs [[I (6)],[I (7)]],I (0)],[]):=need_by (x:=xV 15) (xV_ok (by omega)) (c:=192) cs_15 (by simp) (by decide)
theorem wk_10:runW progX 31 [.agg (vC 9)] []=some (.tup [.fs [],I (0)],[]):=need_by (x:=xV 9) (xV_ok (by omega)) (c:=0) cs_9 (by simp) (by decide)
theorem when_0:whenL (xV 0)=[0,1,1,2,3,3,4,1]:=by kernel_rfl
theorem wk_2:runW progX 20 [.agg (vC 0)] []=some (.tup [.fs [[I (0)],[I (1)],[I (1)],[I (2)],[I (3)],[I (3)],[I (4)],[I (1)]],I (0)],[]):=by
 rcases w20 (xV 0).v (by decide) (by decide) with ⟨h,_⟩ | ⟨_,x,_,hx,h⟩
 ·exact absurd (xV_ok (fix:=0) (by omega)).vE h
 ·have e:whenL x=[0,1,1,2,3,3,4,1]:=by
   have hinj:∀ {x y:Vn},x.v=y.v→x=y:=by
    rintro ⟨a,b,c,d,e,f⟩ ⟨a',b',c',d',e',f'⟩ h
    simp only [Vn.v,Va.mk.injEq] at h
    obtain ⟨h1,h2,h3,h4,h5,h6⟩:=h
    have e2:b=b':=(List.map_inj_right (f:=bI) (fun p q h=>by
     obtain ⟨p1,p2⟩:=p
     obtain ⟨q1,q2⟩:=q
     simp only [bI,Prod.mk.injEq] at h
     simp only [Prod.mk.injEq];omega)).1 h2
    have e3:c=c':=(List.map_inj_right (f:=pI) (fun p q h=>by
     obtain ⟨p1,p2,p3⟩:=p
     obtain ⟨q1,q2,q3⟩:=q
     simp only [pI,Prod.mk.injEq] at h
     simp only [Prod.mk.injEq];omega)).1 h3
    simp only [Vn.mk.injEq]
    exact ⟨by omega,e2,e3,by omega,by omega,by omega⟩
   rw [←hinj hx]
   exact when_0
  rw [e] at h
  exact h
theorem way_len {x:Vn} {u:Nat} {w:List Int} (hF:x.F≤16) (h:wayE x u w=0):w.length≤16:=by
 obtain ⟨ks,rfl,hks⟩:=wayI_nat h
 unfold wayE at h
 by_cases hn:ofN ks=[]
 ·rw [if_pos hn] at h;simp at h
 rw [if_neg hn,if_neg (by rw [noF_of hks];simp),ofN_toNat] at h
 cases hl:leadsB x ks
 ·rw [hl] at h;simp at h
 ·unfold leadsB at hl
  rw [Bool.and_eq_true,decide_eq_true_eq] at hl
  have hc:∀ j,j≤ks.length→card (setW ks j)=j:=by
   intro j
   induction j with
   | zero=>intro _;rw [show setW ks 0=0 from rfl];exact card_0
   | succ j ih =>
     intro hj
     obtain ⟨k,hk⟩:=at_ix (l:=ks) (i:=j) (by omega)
     have hkF:=hks k (List.mem_of_getElem? hk)
     rw [setW_up hk,card_up (by omega),ih (by omega)]
     have h0:=firstN_0 hl.1 j (by omega)
     unfold wkE at h0
     rw [getD_of hk] at h0
     cases hb:(setW ks j).testBit k
     ·rfl
     ·rw [hb] at h0;simp at h0
  have h1:=hc ks.length (Nat.le_refl _)
  have h2:=card_16 (setW ks ks.length)
  rw [ofN_len];omega
theorem ver_len {x:Vn} {ws:List (List Int)} (hF:x.F≤16) (h:verE x ws=0):ws.length≤16∧∀ w∈ws,w.length≤16:=by
 unfold verE at h
 by_cases h16:16<ws.length
 ·rw [if_pos h16] at h;simp at h
 rw [if_neg h16] at h
 refine ⟨by omega,fun w hw=>?_⟩
 obtain ⟨j,hj⟩:=List.getElem?_of_mem hw
 have h0:=firstN_0 h j (lt_of hj)
 unfold wayI at h0
 rw [getD_of hj] at h0
 exact way_len hF h0
theorem wk_11:∃ ws:List (List Int),ws.length=2∧runW progX 33 [.agg (vC 9)] []=some (.tup [wL ws,I 0],[])∧runW progX 35 [.agg (vC 9),wL ws] []=some (I 0,[]):=by
 have ok:(xV 9).Ok:=xV_ok (by omega)
 obtain ⟨n,ws,hn,hl,hv,hr⟩:=w33 ok (has_by ok cs_9 (by simp))
 have hm:isMin (xV 9) 6:=(csN_mem ok).1 (by rw [cs_9];simp)
 have h2:=(hn.min.1 hm).2
 have h3:card 6=2:=by decide
 have hw:∀ w∈ws,w.length<1000000:=by
  intro w hw
  have:=(ver_len ok.F16 hv).2 w hw
  omega
 have hV:=w35 ok (ws:=ws) (by omega) hw
 rw [hv] at hV
 exact ⟨ws,by omega,hr,hV⟩
theorem works_w:runW progX 16 [] []=some (.bool true,[]):=by
 obtain ⟨ws,h1,h2,h3⟩:=wk_11
 have l1:((ws.length:Int)=2)=True:=eq_true (by omega)
 rw [r16 (by simp)];unfold x16;dsimp only
 (sym=>(simp [Za,Zb,Zd,Ze,Zf,Zg,Zh,Zj,Zl,Zm,Zo,Zp,Zq,Zr,Zv,Zy,Z1,Z3,ZD,ZE,ZN,ZO,ZS,ZT,ZU,ZV,Ya,Yg,Yo,Yp,Y7,YR,YT,YU,YX,YY,Xe,Xi,Xk,Xn,Xo,Xp,Xq,Xr,Xs,Xz,XJ,Wb,We,Wm,Wq,Wx,W0,W3,W5,W6,W8,W9,WA,WB,WC,WG,WH,WI,WJ,WK,WL,WM,WN,WO,WQ,WR,WS,WT,WU,WV,WW,Vb,Vc,Ve,Vf,Vg,Vh,Vr,Vt,Vu,Vv,V5,V6,V8,V9,VA,VB,VC,VF,VG,VH,VI,VP,VR,VU,VV,VW,VX,VY,VZ,Ub,Uc,Ud,Ue,Ug,Ui,Uk,Ul,Uq,Ut,Uu,Uw,Ux,Uy,Uz,U0,U1,U2,U3,U4,U9,UB,UC,UD,UE,UM,UN,UO,UP,Tf,Tk,Tl,Tm,Tn,Tr,Ty,Tz,TH,TI,TJ,TK,TL,Sm,S5,S6,S8,S9,SA,SB,wk_0,wk_1,wk_2,wk_3,wk_4,wk_5,wk_6,wk_7,wk_8,wk_9,wk_10,h2,h3,l1,wk_12,wk_13,wk_14,wk_15,wk_16,wk_17,wk_18,wk_20,wk_21,wk_22,wk_23];all_goals tactic=>exact rfl))
abbrev pR (p:Int×Int×Int):List AV:=[I p.1,I p.2.1,I p.2.2]
def cP (l:List (Int×Int×Int)):List AV:=(l.map pR).flatten
theorem cp_ok (k:List (Int×Int×Int)):RowsOk 3 (k.map pR):=by
 intro r hr
 simp only [List.mem_map] at hr
 obtain ⟨x,_,rfl⟩:=hr
 exact ⟨rfl,rfl,rfl,rfl⟩
theorem cP_len (l:List (Int×Int×Int)):(cP l).length=l.length*3:=by rw [cP,(rows_cells (cp_ok _)).2.2.2,List.length_map]
theorem cP_app (l:List (Int×Int×Int)) (x:Int×Int×Int):cP (l++[x])=cP l++pR x:=by simp [cP]
theorem cP_gr {l:List (Int×Int×Int)}:grL (cP l)=true:=(rows_cells (cp_ok _)).1
theorem cP_ch (l:List (Int×Int×Int)):chunks (cP l) 0 3 l.length=l.map pR:=by
 have:=rows_chunks (cp_ok l)
 rw [List.length_map] at this
 exact this
abbrev gP (v:Va):List (Int×Int×Int)→XH
 | []=>[some (.blk true (.cells true v.c)),some (.blk true (.cells true [I 0,.nilsl,.nilsl,I 0,I 0,I 0])),some (.blk true (.cells true [I v.F,rB v.bs,.nilsl,I v.sick,I v.nur,I v.fix]))]
 | p::r=>[some (.blk true (.cells true v.c)),some (.blk true (.cells true [I 0,.nilsl,.nilsl,I 0,I 0,I 0])),some (.blk false (.cells true [I v.F,rB v.bs,.sl 3 0 3 (r.length+1),I v.sick,I v.nur,I v.fix])),some (.blk true (.cells true (cP (p::r))))]
abbrev s17 (i:Nat):List AV:=[.pt 0 0,.pt 1 0,.pt 2 0,I (i:Nat)]
theorem round17 {v:Va} (hp:v.ps.length≤1000) {i:Nat} (hi:i<v.ps.length) :
 headX 0 [1,2,3,4] (execW progX 17 0 none (match x17l0 with | .loop _ a=>a | c=>c) (envL [1,2,3,4] (s17 i)) (gP v (v.ps.take i)))=some (s17 (i+1),gP v (v.ps.take (i+1))):=by
 obtain ⟨p,hx⟩:=at_ix hi
 have a1:=lt_ix hi
 have a2:=up_ix hi (by omega)
 have hl:(v.ps.take i).length=i:=by rw [List.length_take];omega
 rw [show v.ps.take (i+1)=v.ps.take i++[p] by rw [List.take_add_one,hx];rfl]
 have hap:=cP_app (v.ps.take i) p
 have hcl:=cP_len (v.ps.take i)
 generalize v.ps.take i=l at *
 unfold x17l0
 dsimp only
 cases l with
 | nil =>
   have e1:cP ([]++[p])=[I p.1,I p.2.1,I p.2.2]:=rfl
   have e1:cP [p]=[I p.1,I p.2.1,I p.2.2]:=rfl
   (sym=>(simp [cP_gr,Za,Zb,Zc,Zd,Ze,Zf,Zh,Zi,Zl,Zm,Zo,Zv,Z1,Z3,Z7,Z9,ZE,ZF,ZG,ZH,ZI,ZJ,ZL,ZM,ZZ,Ya,Ye,Yf,Yh,Yq,Yu,Yv,YR,YX,YY,YZ,Xe,Xg,Xi,Xn,Xr,Xs,Xt,Wo,Wq,Wu,Wv,Ww,Wx,Wy,Wz,W0,W3,W4,W5,W6,W8,W9,WA,WC,WE,WG,WH,WI,WK,WM,WN,WO,WP,WU,WV,WW,Vb,Vc,Vi,VM,VN,VO,VP,VQ,VV,VW,VX,VY,VZ,Ub,Uc,Ud,Ue,Uf,Ug,Ui,Uk,Um,Un,Uq,Ut,Uu,Uv,Uw,Ux,Uz,U0,U1,U2,U3,U4,UB,UC,UD,UE,UM,UN,UO,UP,UQ,UR,US,UT,UU,UV,UX,UY,UZ,Ta,Tb,Tc,Td,Te,Tf,Tg,Th,Ti,Tj,Tk,Tl,Tn,Tq,Tr,Tu,Tx,Ty,Tz,T9,TC,TH,Sj,Sk,Sl,a1,a2,hx,e1];all_goals tactic=>exact rfl))
 | cons q r =>
   have hl:r.length+1=i:=by simpa using hl
   have b1:((r.length+1+1)*24≤1099511627776)=True:=eq_true (by omega)
   have b2:(r.length+1+1≤1099511627776)=True:=eq_true (by omega)
   have b3:((r.length+1)*3=(cP (q::r)).length)=True:=eq_true (by rw [hcl];simp)
   have e1:cP (q::r)++[I p.1,I p.2.1,I p.2.2]=cP (q::(r++[p])):=hap.symm
   (sym=>(simp [cP_gr,Za,Zb,Zc,Zd,Ze,Zf,Zh,Zi,Zl,Zm,Zo,Zv,Z1,Z3,Z7,Z9,ZE,ZF,ZG,ZH,ZI,ZJ,ZL,ZM,ZZ,Ya,Ye,Yf,Yh,Yq,Yu,Yv,YR,YX,YY,YZ,Xe,Xg,Xi,Xn,Xr,Xs,Xt,Wo,Wq,Wu,Wv,Ww,Wx,Wy,Wz,W0,W3,W4,W5,W6,W8,W9,WA,WC,WE,WG,WH,WI,WK,WM,WN,WO,WP,WU,WV,WW,Vb,Vc,Vi,VM,VN,VO,VP,VQ,VV,VW,VX,VY,VZ,Ub,Uc,Ud,Ue,Uf,Ug,Ui,Uk,Um,Un,Uq,Ut,Uu,Uv,Uw,Ux,Uz,U0,U1,U2,U3,U4,UB,UC,UD,UE,UM,UN,UO,UP,UQ,UR,US,UT,UU,UV,UX,UY,UZ,Ta,Tb,Tc,Td,Te,Tf,Tg,Th,Ti,Tj,Tk,Tl,Tn,Tq,Tr,Tu,Tx,Ty,Tz,T9,TC,TH,Sj,Sk,Sl,a1,a2,hx,b1,b2,b3,e1];all_goals tactic=>exact rfl))
theorem w17 (v:Va) (hp:v.ps.length≤1000):runW progX 17 [.agg v.c] []=some (.agg v.c,[]):=by
 have z:=UW (n:=(v.ps.length:Int))
 have rd:=fun i (hi:i<v.ps.length)=>round17 hp hi
 have ht:v.ps.take v.ps.length=v.ps:=List.take_length
 have h0:v.ps.take 0=[]:=rfl
 rw [r17 (by simp)];unfold x17;dsimp only
 sym =>
  simp [cP_gr,Za,Zb,Zc,Zd,Ze,Zf,Zh,Zl,Zm,Zo,Zv,Zw,Zz,Z0,Z3,Z7,ZE,ZF,ZJ,ZK,ZZ,Ya,Yq,Y7,YO,YR,YU,YX,YZ,Xe,Xg,Xh,Xi,Xk,Xn,Xp,Xr,Xt,Xy,X0,XJ,XK,XM,XQ,XU,XW,XX,Wa,Wc,We,Wh,Wm,Wo,Wp,Wx,Wy,Wz,W0,W3,W4,W5,W6,W7,W8,W9,WA,WC,WE,WG,WH,WI,WK,WM,WN,WO,WP,WU,WV,Vb,Vo,Vp,Vq,Vr,Vs,V1,V2,V3,V5,V6,V8,V9,VA,VB,VC,VF,VG,VH,VJ,VK,VM,VN,VO,VP,VR,VS,VU,VV,VW,VX,VY,VZ,Ub,Uc,Ud,Ue,Ug,Ui,Uk,Uq,Ut,Uv,Uz,U0,U1,U2,U3,U4,U5,U6,U7,U8,U9,UA,UB,UC,UD,UE,UK,UL,UW,UX,UY,Tb,Tc,Td,Te,Tf,Tk,Tl,Tm,Tp,Tq,Tr,Ts,Tw,Tx,Ty,Tz,TB,TC,Sm,Sn,Sp]
  tactic =>
   unfold x17l0
   rw [loop_rule v.ps.length (fun i=>s17 i) (fun i=>gP v (v.ps.take i))]
   ·rw [ht]
    have hc:=cP_ch v.ps
    have hcl:=cP_len v.ps
    rcases hv:v.ps with _ | ⟨q,r⟩
    ·rw [hv] at z
     (sym=>(simp [cP_gr,Za,Zb,Zc,Zd,Ze,Zf,Zh,Zl,Zm,Zo,Zv,Zw,Zz,Z0,Z3,Z7,ZE,ZF,ZJ,ZK,ZZ,Ya,Yq,Y7,YO,YR,YU,YX,YZ,Xe,Xg,Xh,Xi,Xk,Xn,Xp,Xr,Xt,Xy,X0,XJ,XK,XM,XQ,XU,XW,XX,Wa,Wc,We,Wh,Wm,Wo,Wp,Wx,Wy,Wz,W0,W3,W4,W5,W6,W7,W8,W9,WA,WC,WE,WG,WH,WI,WK,WM,WN,WO,WP,WU,WV,Vb,Vo,Vp,Vq,Vr,Vs,V1,V2,V3,V5,V6,V8,V9,VA,VB,VC,VF,VG,VH,VJ,VK,VM,VN,VO,VP,VR,VS,VU,VV,VW,VX,VY,VZ,Ub,Uc,Ud,Ue,Ug,Ui,Uk,Uq,Ut,Uv,Uz,U0,U1,U2,U3,U4,U5,U6,U7,U8,U9,UA,UB,UC,UD,UE,UK,UL,UW,UX,UY,Tb,Tc,Td,Te,Tf,Tk,Tl,Tm,Tp,Tq,Tr,Ts,Tw,Tx,Ty,Tz,TB,TC,Sm,Sn,Sp,z,hv];all_goals tactic=>exact rfl))
    ·rw [hv] at z hc hcl
     have hc:chunks (cP (q::r)) 0 3 (r.length+1)=(q::r).map pR:=hc
     have b3:((r.length+1)*3≤(cP (q::r)).length)=True:=eq_true (by rw [hcl];simp)
     (sym=>(simp [cP_gr,Za,Zb,Zc,Zd,Ze,Zf,Zh,Zl,Zm,Zo,Zv,Zw,Zz,Z0,Z3,Z7,ZE,ZF,ZJ,ZK,ZZ,Ya,Yq,Y7,YO,YR,YU,YX,YZ,Xe,Xg,Xh,Xi,Xk,Xn,Xp,Xr,Xt,Xy,X0,XJ,XK,XM,XQ,XU,XW,XX,Wa,Wc,We,Wh,Wm,Wo,Wp,Wx,Wy,Wz,W0,W3,W4,W5,W6,W7,W8,W9,WA,WC,WE,WG,WH,WI,WK,WM,WN,WO,WP,WU,WV,Vb,Vo,Vp,Vq,Vr,Vs,V1,V2,V3,V5,V6,V8,V9,VA,VB,VC,VF,VG,VH,VJ,VK,VM,VN,VO,VP,VR,VS,VU,VV,VW,VX,VY,VZ,Ub,Uc,Ud,Ue,Ug,Ui,Uk,Uq,Ut,Uv,Uz,U0,U1,U2,U3,U4,U5,U6,U7,U8,U9,UA,UB,UC,UD,UE,UK,UL,UW,UX,UY,Tb,Tc,Td,Te,Tf,Tk,Tl,Tm,Tp,Tq,Tr,Ts,Tw,Tx,Ty,Tz,TB,TC,Sm,Sn,Sp,z,hv,hc,b3];all_goals tactic=>exact rfl))
   ·rw [h0]; (sym=>(simp [cP_gr,Za,Zb,Zc,Zd,Ze,Zf,Zh,Zl,Zm,Zo,Zv,Zw,Zz,Z0,Z3,Z7,ZE,ZF,ZJ,ZK,ZZ,Ya,Yq,Y7,YO,YR,YU,YX,YZ,Xe,Xg,Xh,Xi,Xk,Xn,Xp,Xr,Xt,Xy,X0,XJ,XK,XM,XQ,XU,XW,XX,Wa,Wc,We,Wh,Wm,Wo,Wp,Wx,Wy,Wz,W0,W3,W4,W5,W6,W7,W8,W9,WA,WC,WE,WG,WH,WI,WK,WM,WN,WO,WP,WU,WV,Vb,Vo,Vp,Vq,Vr,Vs,V1,V2,V3,V5,V6,V8,V9,VA,VB,VC,VF,VG,VH,VJ,VK,VM,VN,VO,VP,VR,VS,VU,VV,VW,VX,VY,VZ,Ub,Uc,Ud,Ue,Ug,Ui,Uk,Uq,Ut,Uv,Uz,U0,U1,U2,U3,U4,U5,U6,U7,U8,U9,UA,UB,UC,UD,UE,UK,UL,UW,UX,UY,Tb,Tc,Td,Te,Tf,Tk,Tl,Tm,Tp,Tq,Tr,Ts,Tw,Tx,Ty,Tz,TB,TC,Sm,Sn,Sp];all_goals tactic=>exact rfl))
   ·exact rd
   ·rw [ht]
    rcases hv:v.ps with _ | ⟨q,r⟩
    ·rw [hv] at z
     (sym=>(simp [cP_gr,Za,Zb,Zc,Zd,Ze,Zf,Zh,Zl,Zm,Zo,Zv,Zw,Zz,Z0,Z3,Z7,ZE,ZF,ZJ,ZK,ZZ,Ya,Yq,Y7,YO,YR,YU,YX,YZ,Xe,Xg,Xh,Xi,Xk,Xn,Xp,Xr,Xt,Xy,X0,XJ,XK,XM,XQ,XU,XW,XX,Wa,Wc,We,Wh,Wm,Wo,Wp,Wx,Wy,Wz,W0,W3,W4,W5,W6,W7,W8,W9,WA,WC,WE,WG,WH,WI,WK,WM,WN,WO,WP,WU,WV,Vb,Vo,Vp,Vq,Vr,Vs,V1,V2,V3,V5,V6,V8,V9,VA,VB,VC,VF,VG,VH,VJ,VK,VM,VN,VO,VP,VR,VS,VU,VV,VW,VX,VY,VZ,Ub,Uc,Ud,Ue,Ug,Ui,Uk,Uq,Ut,Uv,Uz,U0,U1,U2,U3,U4,U5,U6,U7,U8,U9,UA,UB,UC,UD,UE,UK,UL,UW,UX,UY,Tb,Tc,Td,Te,Tf,Tk,Tl,Tm,Tp,Tq,Tr,Ts,Tw,Tx,Ty,Tz,TB,TC,Sm,Sn,Sp,z,hv];all_goals tactic=>exact rfl))
    ·rw [hv] at z
     (sym=>(simp [cP_gr,Za,Zb,Zc,Zd,Ze,Zf,Zh,Zl,Zm,Zo,Zv,Zw,Zz,Z0,Z3,Z7,ZE,ZF,ZJ,ZK,ZZ,Ya,Yq,Y7,YO,YR,YU,YX,YZ,Xe,Xg,Xh,Xi,Xk,Xn,Xp,Xr,Xt,Xy,X0,XJ,XK,XM,XQ,XU,XW,XX,Wa,Wc,We,Wh,Wm,Wo,Wp,Wx,Wy,Wz,W0,W3,W4,W5,W6,W7,W8,W9,WA,WC,WE,WG,WH,WI,WK,WM,WN,WO,WP,WU,WV,Vb,Vo,Vp,Vq,Vr,Vs,V1,V2,V3,V5,V6,V8,V9,VA,VB,VC,VF,VG,VH,VJ,VK,VM,VN,VO,VP,VR,VS,VU,VV,VW,VX,VY,VZ,Ub,Uc,Ud,Ue,Ug,Ui,Uk,Uq,Ut,Uv,Uz,U0,U1,U2,U3,U4,U5,U6,U7,U8,U9,UA,UB,UC,UD,UE,UK,UL,UW,UX,UY,Tb,Tc,Td,Te,Tf,Tk,Tl,Tm,Tp,Tq,Tr,Ts,Tw,Tx,Ty,Tz,TB,TC,Sm,Sn,Sp,z,hv];all_goals tactic=>exact rfl))
theorem w15 (v:Va):runW progX 15 [.agg v.c] []=some (.bool (decide (100<v.bs.length)||decide (50<v.ps.length)),[]):=by
 by_cases h1:100<v.bs.length
 ·have c1:((100:Int)<(v.bs.length:Int))=True:=eq_true (by omega)
  rw [decide_eq_true h1,Bool.true_or]
  rw [r15 (by simp)];unfold x15;dsimp only
  (sym=>(simp [cP_gr,Za,Zb,Zf,Zh,Zl,Zm,Zo,Zp,Zr,Zt,Zv,Zy,Zz,Z3,Z7,ZE,ZF,ZU,ZV,ZZ,Ya,Ys,YT,Xe,Xg,Xh,Xo,Xz,Wa,Wb,Wc,We,Wo,Wx,Wy,Wz,W7,W8,WG,WK,WM,WN,WO,Vr,V5,V6,V8,V9,VA,VB,VC,VF,VG,VH,VI,VK,VU,VW,VY,VZ,Ub,Ud,Ue,Ui,Uu,Uv,Uz,U0,U3,U4,U9,UA,UK,UL,UX,UY,Tc,Tf,Tk,Tl,Tm,Tr,Ty,Tz,Sm,c1];all_goals tactic=>exact rfl))
 ·have c1:((100:Int)<(v.bs.length:Int))=False:=eq_false (by omega)
  rw [decide_eq_false h1,Bool.false_or]
  by_cases h2:50<v.ps.length
  ·have c2:((50:Int)<(v.ps.length:Int))=True:=eq_true (by omega)
   rw [decide_eq_true h2]
   rw [r15 (by simp)];unfold x15;dsimp only
   (sym=>(simp [cP_gr,Za,Zb,Zf,Zh,Zl,Zm,Zo,Zp,Zr,Zt,Zv,Zy,Zz,Z3,Z7,ZE,ZF,ZU,ZV,ZZ,Ya,Ys,YT,Xe,Xg,Xh,Xo,Xz,Wa,Wb,Wc,We,Wo,Wx,Wy,Wz,W7,W8,WG,WK,WM,WN,WO,Vr,V5,V6,V8,V9,VA,VB,VC,VF,VG,VH,VI,VK,VU,VW,VY,VZ,Ub,Ud,Ue,Ui,Uu,Uv,Uz,U0,U3,U4,U9,UA,UK,UL,UX,UY,Tc,Tf,Tk,Tl,Tm,Tr,Ty,Tz,Sm,c1,c2];all_goals tactic=>exact rfl))
  ·have c2:((50:Int)<(v.ps.length:Int))=False:=eq_false (by omega)
   rw [decide_eq_false h2]
   rw [r15 (by simp)];unfold x15;dsimp only
   (sym=>(simp [cP_gr,Za,Zb,Zf,Zh,Zl,Zm,Zo,Zp,Zr,Zt,Zv,Zy,Zz,Z3,Z7,ZE,ZF,ZU,ZV,ZZ,Ya,Ys,YT,Xe,Xg,Xh,Xo,Xz,Wa,Wb,Wc,We,Wo,Wx,Wy,Wz,W7,W8,WG,WK,WM,WN,WO,Vr,V5,V6,V8,V9,VA,VB,VC,VF,VG,VH,VI,VK,VU,VW,VY,VZ,Ub,Ud,Ue,Ui,Uu,Uv,Uz,U0,U3,U4,U9,UA,UK,UL,UX,UY,Tc,Tf,Tk,Tl,Tm,Tr,Ty,Tz,Sm,c1,c2];all_goals tactic=>exact rfl))
theorem el_small (a:Nat):(ofN (el a)).length<1000000000:=by
 rw [ofN_len]
 have:=el_len a
 omega
theorem whenL_small {x:Vn} (ok:x.Ok):(whenL x).length<1000000000:=by
 have:=ok.F16
 simp [whenL];omega
theorem v_inj {x y:Vn} (h:x.v=y.v):x=y:=by
 have:=congrArg (fun v:Va=>(v.F.toNat,v.bs.map fun b=>(b.1.toNat,b.2.toNat),v.ps.map fun p=>(p.1.toNat,p.2.1.toNat,p.2.2.toNat),v.sick.toNat,v.nur.toNat,v.fix.toNat)) h
 simp only [Vn.v,Int.toNat_natCast,List.map_map,Prod.mk.injEq] at this
 obtain ⟨a1,a2,a3,a4,a5,a6⟩:=this
 have b2:∀ l:List (Nat×Nat),l.map ((fun b:Int×Int=>(b.1.toNat,b.2.toNat))∘bI)=l:=fun l=>(List.map_congr_left (g:=id) (fun b _=>rfl)).trans (List.map_id l)
 have b3:∀ l:List (Nat×Nat×Nat),l.map ((fun p:Int×Int×Int=>(p.1.toNat,p.2.1.toNat,p.2.2.toNat))∘pI)=l:=fun l=>(List.map_congr_left (g:=id) (fun b _=>rfl)).trans (List.map_id l)
 rw [b2,b2] at a2
 rw [b3,b3] at a3
 cases x;cases y
 simp_all
theorem w18_19 (v:Va) (hb:v.bs.length<1000000000) (hp:v.ps.length<1000000000) (s:Int) :
 ∃ (l:List Int) (e:Int),l.length<1000000000∧runW progX 18 [.agg v.c,I s] []=some (.tup [nL l,I e],[])∧runW progX 19 [.agg v.c,I s] []=some (.tup [nL l,I e],[]):=by
 rcases w18 v hb hp s with ⟨h1,h2⟩ | ⟨h1,x,n,ok,rfl,rfl,hn,h2⟩
 ·rcases w19 v hb hp s with ⟨g1,g2⟩ | ⟨g1,_⟩
  ·exact ⟨[],_,by simp,h2,g2⟩
  ·exact absurd g1 h1
 ·rcases w19 x.v hb hp (n:Int) with ⟨g1,_⟩ | ⟨g1,y,m,ok',hy,hm,hm',g2⟩
  ·exact absurd h1 g1
  ·obtain rfl:=v_inj hy
   have e2:n=m:=by omega
   subst e2
   exact ⟨_,_,el_small _,h2,g2⟩
theorem w20_21 (v:Va) (hb:v.bs.length<1000000000) (hp:v.ps.length<1000000000) :
 ∃ (l:List Int) (e:Int),l.length<1000000000∧runW progX 20 [.agg v.c] []=some (.tup [nL l,I e],[])∧runW progX 21 [.agg v.c] []=some (.tup [nL l,I e],[]):=by
 rcases w20 v hb hp with ⟨h1,h2⟩ | ⟨h1,x,ok,rfl,h2⟩
 ·rcases w21 v hb hp with ⟨g1,g2⟩ | ⟨g1,_⟩
  ·exact ⟨[],_,by simp,h2,g2⟩
  ·exact absurd g1 h1
 ·rcases w21 x.v hb hp with ⟨g1,_⟩ | ⟨g1,y,ok',hy,g2⟩
  ·exact absurd h1 g1
  ·obtain rfl:=v_inj hy
   exact ⟨_,_,whenL_small ok,h2,g2⟩
theorem w15t {v:Va} (h:100<v.bs.length∨50<v.ps.length):runW progX 15 [.agg v.c] []=some (.bool true,[]):=by
 rw [w15]
 rcases h with h | h
 ·rw [decide_eq_true h,Bool.true_or]
 ·rw [decide_eq_true h,Bool.or_true]
theorem w15f {v:Va} (h:¬(100<v.bs.length∨50<v.ps.length)):runW progX 15 [.agg v.c] []=some (.bool false,[]):=by
 rw [w15,decide_eq_false (by omega),decide_eq_false (by omega)]
 rfl
theorem w22t {l:List Int} (h:l.length<1000000000):runW progX 22 [nL l,nL l] []=some (.bool true,[]):=by
 rw [w22 l l h,decide_eq_true rfl]
theorem w3 (v:Va) (s:Int):runW progX 3 [.agg v.c,I s] []=some (.bool true,[]):=by
 by_cases hl:100<v.bs.length∨50<v.ps.length
 ·have h15:=w15t hl
  rw [r3 (by simp)];unfold x3;dsimp only
  (sym=>(simp [Za,Zb,Zc,Ze,Zf,Zg,Zh,Zj,Zk,Zl,Zm,Zo,Zp,Zq,Zv,Zw,Zy,Zz,Z3,ZD,ZF,ZG,ZI,ZJ,ZK,ZL,ZN,ZO,ZP,ZQ,ZS,ZT,ZU,Yg,Yo,YR,YT,YU,YX,Xe,Xg,Xh,Xk,Xn,Xo,Xp,Xq,Xr,Xy,Xz,XJ,Wa,Wb,Wc,We,Wo,Wx,Wy,Wz,W0,W3,W4,W5,W6,W7,W8,WG,WJ,WK,WL,WM,WN,WO,WQ,WR,Ve,Vf,Vg,Vi,Vj,Vk,Vl,Vr,Vt,Vu,Vv,Vw,Vx,Vz,V5,V6,V8,V9,VA,VB,VC,VF,VG,VH,VI,VK,VP,VQ,VR,VU,VV,VW,VX,VY,VZ,Ub,Uc,Ud,Ui,Um,Un,Uo,Uq,Uu,Uw,Ux,Uy,Uz,U0,U1,U2,U3,U4,U9,UA,UB,UK,UL,UX,UY,Tb,Td,Te,Tf,Tk,Tl,Tm,Tn,Tr,Tt,Ty,Tz,Sm,S5,S6,S7,S8,S9,SA,SB,h15,works_w];all_goals tactic=>exact rfl))
 ·have h15:=w15f hl
  have hb:v.bs.length<1000000000:=by omega
  have hp:v.ps.length<1000000000:=by omega
  have h17:=w17 v (by omega)
  obtain ⟨a,e,la,h18,h19⟩:=w18_19 v hb hp s
  obtain ⟨b,f,lb,h20,h21⟩:=w20_21 v hb hp
  have h23:=w23 v hb hp
  have h24:=w24 v hb hp
  have c1:=w22t la
  have c2:=w22t lb
  rw [r3 (by simp)];unfold x3;dsimp only
  (sym=>(simp [Za,Zb,Zc,Ze,Zf,Zg,Zh,Zj,Zk,Zl,Zm,Zo,Zp,Zq,Zv,Zw,Zy,Zz,Z3,ZD,ZF,ZG,ZI,ZJ,ZK,ZL,ZN,ZO,ZP,ZQ,ZS,ZT,ZU,Yg,Yo,YR,YT,YU,YX,Xe,Xg,Xh,Xk,Xn,Xo,Xp,Xq,Xr,Xy,Xz,XJ,Wa,Wb,Wc,We,Wo,Wx,Wy,Wz,W0,W3,W4,W5,W6,W7,W8,WG,WJ,WK,WL,WM,WN,WO,WQ,WR,Ve,Vf,Vg,Vi,Vj,Vk,Vl,Vr,Vt,Vu,Vv,Vw,Vx,Vz,V5,V6,V8,V9,VA,VB,VC,VF,VG,VH,VI,VK,VP,VQ,VR,VU,VV,VW,VX,VY,VZ,Ub,Uc,Ud,Ui,Um,Un,Uo,Uq,Uu,Uw,Ux,Uy,Uz,U0,U1,U2,U3,U4,U9,UA,UB,UK,UL,UX,UY,Tb,Td,Te,Tf,Tk,Tl,Tm,Tn,Tr,Tt,Ty,Tz,Sm,S5,S6,S7,S8,S9,SA,SB,h15,h17,h18,h19,h20,h21,h23,h24,c1,c2,works_w];all_goals tactic=>exact rfl))
end Go.Proofs.YtiabjdfdkiijmaaDoor
