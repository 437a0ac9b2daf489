/- Parts of a proof, joined: K102. No statement of the seed is proved here. -/
import Derived.KernelRfl
import Derived.Test.YtpbeclkpohehgaaDoorC6
set_option linter.unusedSimpArgs false
set_option linter.unusedVariables false
set_option linter.unusedSectionVars false
namespace Go.Proofs.YtpbeclkpohehgaaDoor
open Go Go.DL
set_option maxRecDepth 100000
set_option maxHeartbeats 8000000
theorem tp_le {sw : List Int} {c r : Int} (h0 : sw.length ≠ 0) (h : ∀ (j : Nat) (v : Int),sw[j]? = some v → v - c ≤ r ∧ 0 ≤ v ∧ v ≤ 30000) : ∀ n,n ≤ sw.length → tpN sw n - c ≤ r ∧ 0 ≤ tpN sw n ∧ tpN sw n ≤ 30000
  | 0,_ => by
    obtain ⟨v,hv⟩ := at_ix (l := sw) (i := 0) (by omega)
    rw [tpN,getD_of hv]
    exact h 0 v hv
  | n + 1,hn => by
    have ih := tp_le h0 h n (by omega)
    obtain ⟨v,hv⟩ := at_ix (l := sw) (i := n) (by omega)
    have := h n v hv
    rw [tpN,getD_of hv]
    unfold mxI
    split <;> omega
def kT : List (List St) := [[⟨30,100⟩,⟨120,300⟩,⟨400,900⟩],[⟨200,50⟩]]
def tkT : Nat → List (List Int)
  | 0 => []
  | 1 => [[0]]
  | 2 => [[0,1]]
  | 3 => [[0,1],[2]]
  | 4 => [[0,1],[2,3]]
  | 5 => [[0,1],[2,3],[4]]
  | _ => []
def lnT (ld : Nat → Ld) (m : Nat) : Li := ⟨kT,(List.range m).map ld,tkT m,0,20⟩
theorem ldQ_ok {x : P4} (h : x.Ok) : (0 ≤ (ldQ x).k ∧ (ldQ x).k < 2) ∧ (0 ≤ (ldQ x).al ∧ (ldQ x).al ≤ (ldQ x).ah ∧ (ldQ x).ah ≤ 100000) ∧ (1 ≤ (ldQ x).cl ∧ (ldQ x).cl ≤ (ldQ x).ch ∧ (ldQ x).ch ≤ 10000) := by
  have := h.a
  have h2 : x.b % 2 < 2 := Nat.mod_lt _ (by decide)
  have h3 : x.d % 30 < 30 := Nat.mod_lt _ (by decide)
  have h4 : x.c % 60 < 60 := Nat.mod_lt _ (by decide)
  have h5 : x.d % 20 < 20 := Nat.mod_lt _ (by decide)
  unfold ldQ
  dsimp only
  generalize x.b % 2 = p2 at *
  generalize x.d % 30 = p3 at *
  generalize x.c % 60 = p4 at *
  generalize x.d % 20 = p5 at *
  omega
theorem kT_ok : kindsE kT = 0 := by kernel_rfl
theorem tkT_0 : tracksE 0 (tkT 0) = 0 := by kernel_rfl
theorem tkT_1 : tracksE 1 (tkT 1) = 0 := by kernel_rfl
theorem tkT_2 : tracksE 2 (tkT 2) = 0 := by kernel_rfl
theorem tkT_3 : tracksE 3 (tkT 3) = 0 := by kernel_rfl
theorem tkT_4 : tracksE 4 (tkT 4) = 0 := by kernel_rfl
theorem tkT_5 : tracksE 5 (tkT 5) = 0 := by kernel_rfl
theorem lnT_ok {ld : Nat → Ld} (h : ∀ i : Nat,∃ x : P4,x.Ok ∧ ld i = ldQ x) {m : Nat} (hm : m ≤ 5) : checkL (lnT ld m) = 0 ∧ (lnT ld m).Fit ∧ (lnT ld m).ls.length = m := by
  have hl : (lnT ld m).ls.length = m := by
    show ((List.range m).map ld).length = m
    rw [List.length_map,List.length_range]
  have hm6 : m = 0 ∨ m = 1 ∨ m = 2 ∨ m = 3 ∨ m = 4 ∨ m = 5 := by omega
  refine ⟨check_of kT_ok (by rw [hl]; omega) (fun i x hx => ?_) ?_ (by show (0 : Int) ≤ 0 ∧ (0 : Int) ≤ 20 ∧ (20 : Int) ≤ 100000; omega),?_,hl⟩
  · have hx : ((List.range m).map ld)[i]? = some x := hx
    obtain ⟨y,_,rfl⟩ := List.mem_map.1 (List.mem_of_getElem? hx)
    obtain ⟨z,hz,e⟩ := h y
    rw [e]
    exact ldQ_ok hz
  · rw [hl]
    rcases hm6 with rfl | rfl | rfl | rfl | rfl | rfl
    · exact tkT_0
    · exact tkT_1
    · exact tkT_2
    · exact tkT_3
    · exact tkT_4
    · exact tkT_5
  · have key : ∀ m : Nat,(tkT m).length ≤ 9223372036854775807 → (∀ t ∈ tkT m,t.length ≤ 9223372036854775807) → (lnT ld m).Fit := fun m h1 h2 => ⟨h1,h2⟩
    rcases hm6 with rfl | rfl | rfl | rfl | rfl | rfl <;> exact key _ (by decide) (by decide)
structure Cho (fs : List P4) (i : Nat) (p : Nat × Int × List Sp) : Prop where
  w : p.1 < 6
  r : ∀ k : Nat,k < 6 → swF (fs.getD (i % fs.length) ⟨0,0,0,0⟩) k - swF (fs.getD (i % fs.length) ⟨0,0,0,0⟩) p.1 ≤ p.2.1
  bd : -2000000000 ≤ p.2.1 ∧ p.2.1 ≤ 2000000000
  e27 : runW progX 27 [.agg (fdC (smL (fs.getD (i % fs.length) ⟨0,0,0,0⟩) 6))] [] = some (.tup [I (p.1 : Nat),I p.2.1,I 0],[])
  kn : KnP (swF (fs.getD (i % fs.length) ⟨0,0,0,0⟩)) 6 p.2.2
  e28 : runW progX 28 [.agg (fdC (smL (fs.getD (i % fs.length) ⟨0,0,0,0⟩) 6))] [] = some (.tup [sR p.2.2,I 0],[])
theorem p4_0 : P4.Ok ⟨0,0,0,0⟩ := ⟨by decide,by decide,by decide,by decide⟩
theorem p4_at {fs : List P4} (h : ∀ x ∈ fs,x.Ok) (i : Nat) : (fs.getD i ⟨0,0,0,0⟩).Ok := by
  by_cases hi : i < fs.length
  · obtain ⟨x,hx⟩ := at_ix hi
    rw [getD_of hx]
    exact h x (List.mem_of_getElem? hx)
  · rw [List.getD_eq_getElem?_getD,List.getElem?_eq_none (by omega)]
    exact p4_0
theorem cho {fs : List P4} (h : ∀ x ∈ fs,x.Ok) : ∃ p : Nat → Nat × Int × List Sp,∀ i,Cho fs i (p i) := by
  refine Classical.axiomOfChoice (r := fun i p => Cho fs i p) fun i => ?_
  have ok := p4_at h (i % fs.length)
  obtain ⟨hl,hs⟩ := sm_ok ok 6 (Nat.le_refl _)
  have bd : ∀ w : Nat,w < 6 → 0 ≤ swF (fs.getD (i % fs.length) ⟨0,0,0,0⟩) w ∧ swF (fs.getD (i % fs.length) ⟨0,0,0,0⟩) w ≤ 30000 := fun w hw => by
    have := sw_bd ok w hw
    omega
  obtain ⟨wk,r,h1,h2,h3,h4⟩ := w27 bd (fun w hw => sw_d ok w hw) hs hl
  obtain ⟨L,h5,h6⟩ := w28 bd (fun w hw => sw_d ok w hw) hs hl
  exact ⟨(wk,r,L),h1,h2,h3,h4,h5,h6⟩
theorem wT_0 : runW progX 29 [.agg [.fs [[.fs [[I 30,I 100],[I 120,I 300],[I 400,I 900]]],[.fs [[I 200,I 50]]]],.nilsl,.nilsl,I 0,I 20]] [] = some (.tup [.fs [],I 0,I 0],[]) := runW_iff.2 ⟨400,by kernel_rfl⟩
section
variable {fs ls : List P4} {us : List Nat}
theorem top0 (hfo : ∀ x ∈ fs,x.Ok) (hlo : ∀ x ∈ ls,x.Ok) (hN : ls.length ≤ 9223372036854775807) (hf0 : fs.length ≠ 0) (hu : ∀ v ∈ us,v < 256) (hul : us.length ≤ maxLen) (hm : ls.length = 0) : runW progX 4 [rF fs,rF ls,.fs (us.map fun v => [B8 v])] [] = some (.bool true,[]) := by
  obtain ⟨p,hp⟩ := cho hfo
  obtain ⟨ld,hld⟩ : ∃ ld : Nat → Ld,∀ i,ld i = ldQ (ls.getD i ⟨0,0,0,0⟩) := ⟨_,fun _ => rfl⟩
  obtain ⟨cF,hcF⟩ : ∃ cF : Nat → Int,∀ i,cF i = swF (fs.getD (i % fs.length) ⟨0,0,0,0⟩) (p i).1 := ⟨_,fun _ => rfl⟩
  obtain ⟨tF,htF⟩ : ∃ tF : Nat → Int,∀ i,tF i = tpN (aL 6 (swF (fs.getD (i % fs.length) ⟨0,0,0,0⟩))) 6 := ⟨_,fun _ => rfl⟩
  obtain ⟨rF',hrF⟩ : ∃ rF' : Nat → Int,∀ i,rF' i = (p i).2.1 := ⟨_,fun _ => rfl⟩
  obtain ⟨ck,ff,ll⟩ := lnT_ok (ld := ld) (fun i => ⟨_,p4_at hlo i,hld i⟩) (m := 0) (by decide)
  have g := good_of ck
  obtain ⟨bv,bw⟩ := best_vld g
  have hr := ord_ok g ck bv
  have hms : msN (lnT ld 0) (ofN (bestO (lnT ld 0))) (ofN (bestO (lnT ld 0))).length = minW (lnT ld 0) := by rw [← worst_ms hr,worst_ord g ck bv,bw]
  have e29 := w29 _ ff
  unfold bestR at e29
  rw [if_pos ck,← hms] at e29
  have hol : (ofN (bestO (lnT ld 0))).length = 0 := by rw [(runE_len hr).2.1,ll]
  have c1 : ((fs.length : Int) = 0) = False := eq_false (by omega)
  have e25 := w25 0 20
  have a0 : ((0 : Int) < (ls.length : Int)) = False := eq_false (by omega)
  have w0 : runW progX 30 [I 0,.agg [I 0,I 20],.pt 0 0] [cB8 us] = some (I (pkT us 0 0 20),[cB8 us]) := w30 hu hul (i := 0) (by omega) (a := 0) (b := 20) (by omega) (by omega) (by omega)
  generalize pkT us 0 0 20 = n0 at *
  clear hp ck ff ll g bv bw hr hms e29 hol
  rw [r4 (by simp)]; unfold x4; dsimp only
  sym =>
    simp [irem2,iquo2,remF,Za,Zb,Zc,Zd,Ze,Zf,Zg,Zh,Zj,Zl,Zm,Zn,Zo,Zq,Zr,Zt,Zu,Zv,Zw,Zx,Zy,Zz,Z1,Z5,ZA,ZB,ZD,ZH,ZI,ZL,ZM,ZQ,ZR,ZT,ZX,ZZ,Yb,Yg,Yo,Yp,Yq,Y3,YO,YQ,YR,YT,YV,YX,YY,Xa,Xc,Xe,Xf,Xg,Xh,Xk,Xo,Xp,Xq,Xr,Xs,Xt,Xu,Xw,Xy,X0,XI,XM,XO,XU,XX,XY,XZ,Wa,Wd,Wg,Wn,Wo,Wp,Wq,Wz,W0,W3,W4,W5,W6,W7,W8,W9,WA,WB,WC,WE,WF,WG,WI,WJ,WK,WL,WM,WN,WO,WP,WQ,WR,WS,WT,WU,WW,WX,WY,Vc,Vd,Vf,Vg,Vh,Vi,Vp,Vq,Vr,Vs,Vt,Vu,Vv,Vx,Vy,Vz,V0,V1,V2,V3,V4,V6,V7,V9,VA,VB,VC,VD,VG,VH,VI,VJ,VL,VM,VN,VO,VP,VR,VS,VU,VV,VW,VX,VY,VZ,Ub,Uc,Ud,Ue,Ug,Uj,Ul,Um,Us,Uw,Ux,Uy,Uz,U0,U1,U2,U3,U4,U5,U6,U7,U8,U9,UA,UB,UC,UD,UE,UF,UG,UH,UK,UL,UM,UN,UO,UP,UY,UZ,Tc,Td,Te,Tf,Ti,Tn,Tp,Tq,Tr,Ts,Tt,Tu,Tv,Tz,T0,T1,T2,T6,TA,TB,TC,TD,TE,TF,TG,Sg,Si,Sj,Sk,Sl,Sy,Sz,S6,c1,e25]
    tactic =>
      unfold x4l1
      rw [loop_rule 0 (fun _ => [rF fs,rF ls,.pt 0 0,.pt 1 0,.nilsl,.nilsl,.nilsl,I 0]) (fun _ => hC0 us ld cF tF rF')]
      · sym =>
          simp [irem2,iquo2,remF,Za,Zb,Zc,Zd,Ze,Zf,Zg,Zh,Zj,Zl,Zm,Zn,Zo,Zq,Zr,Zt,Zu,Zv,Zw,Zx,Zy,Zz,Z1,Z5,ZA,ZB,ZD,ZH,ZI,ZL,ZM,ZQ,ZR,ZT,ZX,ZZ,Yb,Yg,Yo,Yp,Yq,Y3,YO,YQ,YR,YT,YV,YX,YY,Xa,Xc,Xe,Xf,Xg,Xh,Xk,Xo,Xp,Xq,Xr,Xs,Xt,Xu,Xw,Xy,X0,XI,XM,XO,XU,XX,XY,XZ,Wa,Wd,Wg,Wn,Wo,Wp,Wq,Wz,W0,W3,W4,W5,W6,W7,W8,W9,WA,WB,WC,WE,WF,WG,WI,WJ,WK,WL,WM,WN,WO,WP,WQ,WR,WS,WT,WU,WW,WX,WY,Vc,Vd,Vf,Vg,Vh,Vi,Vp,Vq,Vr,Vs,Vt,Vu,Vv,Vx,Vy,Vz,V0,V1,V2,V3,V4,V6,V7,V9,VA,VB,VC,VD,VG,VH,VI,VJ,VL,VM,VN,VO,VP,VR,VS,VU,VV,VW,VX,VY,VZ,Ub,Uc,Ud,Ue,Ug,Uj,Ul,Um,Us,Uw,Ux,Uy,Uz,U0,U1,U2,U3,U4,U5,U6,U7,U8,U9,UA,UB,UC,UD,UE,UF,UG,UH,UK,UL,UM,UN,UO,UP,UY,UZ,Tc,Td,Te,Tf,Ti,Tn,Tp,Tq,Tr,Ts,Tt,Tu,Tv,Tz,T0,T1,T2,T6,TA,TB,TC,TD,TE,TF,TG,Sg,Si,Sj,Sk,Sl,Sy,Sz,S6,a0,wT_0,w0]
          tactic =>
            unfold x4l3
            (sym => (simp [irem2,iquo2,remF,Za,Zb,Zc,Zd,Ze,Zf,Zg,Zh,Zj,Zl,Zm,Zn,Zo,Zq,Zr,Zt,Zu,Zv,Zw,Zx,Zy,Zz,Z1,Z5,ZA,ZB,ZD,ZH,ZI,ZL,ZM,ZQ,ZR,ZT,ZX,ZZ,Yb,Yg,Yo,Yp,Yq,Y3,YO,YQ,YR,YT,YV,YX,YY,Xa,Xc,Xe,Xf,Xg,Xh,Xk,Xo,Xp,Xq,Xr,Xs,Xt,Xu,Xw,Xy,X0,XI,XM,XO,XU,XX,XY,XZ,Wa,Wd,Wg,Wn,Wo,Wp,Wq,Wz,W0,W3,W4,W5,W6,W7,W8,W9,WA,WB,WC,WE,WF,WG,WI,WJ,WK,WL,WM,WN,WO,WP,WQ,WR,WS,WT,WU,WW,WX,WY,Vc,Vd,Vf,Vg,Vh,Vi,Vp,Vq,Vr,Vs,Vt,Vu,Vv,Vx,Vy,Vz,V0,V1,V2,V3,V4,V6,V7,V9,VA,VB,VC,VD,VG,VH,VI,VJ,VL,VM,VN,VO,VP,VR,VS,VU,VV,VW,VX,VY,VZ,Ub,Uc,Ud,Ue,Ug,Uj,Ul,Um,Us,Uw,Ux,Uy,Uz,U0,U1,U2,U3,U4,U5,U6,U7,U8,U9,UA,UB,UC,UD,UE,UF,UG,UH,UK,UL,UM,UN,UO,UP,UY,UZ,Tc,Td,Te,Tf,Ti,Tn,Tp,Tq,Tr,Ts,Tt,Tu,Tv,Tz,T0,T1,T2,T6,TA,TB,TC,TD,TE,TF,TG,Sg,Si,Sj,Sk,Sl,Sy,Sz,S6,loopU,crushed_w]; all_goals tactic => exact rfl))
      · (sym => (simp [irem2,iquo2,remF,Za,Zb,Zc,Zd,Ze,Zf,Zg,Zh,Zj,Zl,Zm,Zn,Zo,Zq,Zr,Zt,Zu,Zv,Zw,Zx,Zy,Zz,Z1,Z5,ZA,ZB,ZD,ZH,ZI,ZL,ZM,ZQ,ZR,ZT,ZX,ZZ,Yb,Yg,Yo,Yp,Yq,Y3,YO,YQ,YR,YT,YV,YX,YY,Xa,Xc,Xe,Xf,Xg,Xh,Xk,Xo,Xp,Xq,Xr,Xs,Xt,Xu,Xw,Xy,X0,XI,XM,XO,XU,XX,XY,XZ,Wa,Wd,Wg,Wn,Wo,Wp,Wq,Wz,W0,W3,W4,W5,W6,W7,W8,W9,WA,WB,WC,WE,WF,WG,WI,WJ,WK,WL,WM,WN,WO,WP,WQ,WR,WS,WT,WU,WW,WX,WY,Vc,Vd,Vf,Vg,Vh,Vi,Vp,Vq,Vr,Vs,Vt,Vu,Vv,Vx,Vy,Vz,V0,V1,V2,V3,V4,V6,V7,V9,VA,VB,VC,VD,VG,VH,VI,VJ,VL,VM,VN,VO,VP,VR,VS,VU,VV,VW,VX,VY,VZ,Ub,Uc,Ud,Ue,Ug,Uj,Ul,Um,Us,Uw,Ux,Uy,Uz,U0,U1,U2,U3,U4,U5,U6,U7,U8,U9,UA,UB,UC,UD,UE,UF,UG,UH,UK,UL,UM,UN,UO,UP,UY,UZ,Tc,Td,Te,Tf,Ti,Tn,Tp,Tq,Tr,Ts,Tt,Tu,Tv,Tz,T0,T1,T2,T6,TA,TB,TC,TD,TE,TF,TG,Sg,Si,Sj,Sk,Sl,Sy,Sz,S6]; all_goals tactic => exact rfl))
      · exact fun i hi => absurd hi (Nat.not_lt_zero i)
      · (sym => (simp [irem2,iquo2,remF,Za,Zb,Zc,Zd,Ze,Zf,Zg,Zh,Zj,Zl,Zm,Zn,Zo,Zq,Zr,Zt,Zu,Zv,Zw,Zx,Zy,Zz,Z1,Z5,ZA,ZB,ZD,ZH,ZI,ZL,ZM,ZQ,ZR,ZT,ZX,ZZ,Yb,Yg,Yo,Yp,Yq,Y3,YO,YQ,YR,YT,YV,YX,YY,Xa,Xc,Xe,Xf,Xg,Xh,Xk,Xo,Xp,Xq,Xr,Xs,Xt,Xu,Xw,Xy,X0,XI,XM,XO,XU,XX,XY,XZ,Wa,Wd,Wg,Wn,Wo,Wp,Wq,Wz,W0,W3,W4,W5,W6,W7,W8,W9,WA,WB,WC,WE,WF,WG,WI,WJ,WK,WL,WM,WN,WO,WP,WQ,WR,WS,WT,WU,WW,WX,WY,Vc,Vd,Vf,Vg,Vh,Vi,Vp,Vq,Vr,Vs,Vt,Vu,Vv,Vx,Vy,Vz,V0,V1,V2,V3,V4,V6,V7,V9,VA,VB,VC,VD,VG,VH,VI,VJ,VL,VM,VN,VO,VP,VR,VS,VU,VV,VW,VX,VY,VZ,Ub,Uc,Ud,Ue,Ug,Uj,Ul,Um,Us,Uw,Ux,Uy,Uz,U0,U1,U2,U3,U4,U5,U6,U7,U8,U9,UA,UB,UC,UD,UE,UF,UG,UH,UK,UL,UM,UN,UO,UP,UY,UZ,Tc,Td,Te,Tf,Ti,Tn,Tp,Tq,Tr,Ts,Tt,Tu,Tv,Tz,T0,T1,T2,T6,TA,TB,TC,TD,TE,TF,TG,Sg,Si,Sj,Sk,Sl,Sy,Sz,S6,a0]; all_goals tactic => exact rfl))
theorem top1 (hfo : ∀ x ∈ fs,x.Ok) (hlo : ∀ x ∈ ls,x.Ok) (hN : ls.length ≤ 9223372036854775807) (hf0 : fs.length ≠ 0) (hu : ∀ v ∈ us,v < 256) (hul : us.length ≤ maxLen) (hm : ls.length = 1) : runW progX 4 [rF fs,rF ls,.fs (us.map fun v => [B8 v])] [] = some (.bool true,[]) := by
  obtain ⟨p,hp⟩ := cho hfo
  obtain ⟨ld,hld⟩ : ∃ ld : Nat → Ld,∀ i,ld i = ldQ (ls.getD i ⟨0,0,0,0⟩) := ⟨_,fun _ => rfl⟩
  obtain ⟨cF,hcF⟩ : ∃ cF : Nat → Int,∀ i,cF i = swF (fs.getD (i % fs.length) ⟨0,0,0,0⟩) (p i).1 := ⟨_,fun _ => rfl⟩
  obtain ⟨tF,htF⟩ : ∃ tF : Nat → Int,∀ i,tF i = tpN (aL 6 (swF (fs.getD (i % fs.length) ⟨0,0,0,0⟩))) 6 := ⟨_,fun _ => rfl⟩
  obtain ⟨rF',hrF⟩ : ∃ rF' : Nat → Int,∀ i,rF' i = (p i).2.1 := ⟨_,fun _ => rfl⟩
  obtain ⟨ck,ff,ll⟩ := lnT_ok (ld := ld) (fun i => ⟨_,p4_at hlo i,hld i⟩) (m := 1) (by decide)
  have g := good_of ck
  obtain ⟨bv,bw⟩ := best_vld g
  have hr := ord_ok g ck bv
  have hms : msN (lnT ld 1) (ofN (bestO (lnT ld 1))) (ofN (bestO (lnT ld 1))).length = minW (lnT ld 1) := by rw [← worst_ms hr,worst_ord g ck bv,bw]
  have e29 := w29 _ ff
  unfold bestR at e29
  rw [if_pos ck,← hms] at e29
  have hol : (ofN (bestO (lnT ld 1))).length = 1 := by rw [(runE_len hr).2.1,ll]
  have c1 : ((fs.length : Int) = 0) = False := eq_false (by omega)
  have e25 := w25 0 20
  have lc : (lnT ld 1).c = [.fs [[.fs [[I 30,I 100],[I 120,I 300],[I 400,I 900]]],[.fs [[I 200,I 50]]]],.fs [[I (ld 0).k,I (ld 0).al,I (ld 0).ah,I (ld 0).cl,I (ld 0).ch]],.fs [[.fs [[I 0]]]],I 0,I 20] := rfl
  have w0 : runW progX 30 [I 0,.agg [I 0,I 20],.pt 0 0] [cB8 us] = some (I (nowT us (lnT ld 1) (ofN (bestO (lnT ld 1))) 0),[cB8 us]) := w30 hu hul (i := 0) (by omega) (a := 0) (b := 20) (by omega) (by omega) (by omega)
  have hcs : (aL 1 cF).map I = [I (cF 0)] := rfl
  have hts : (aL 1 tF).map I = [I (tF 0)] := rfl
  have hrs : (aL 1 rF').map I = [I (rF' 0)] := rfl
  have hb : ∀ (k : Nat) (c t r : Int),(aL 1 cF)[k]? = some c → (aL 1 tF)[k]? = some t → (aL 1 rF')[k]? = some r → t - c ≤ r ∧ (-1000000000 ≤ c ∧ c ≤ 1000000000) ∧ (-1000000000 ≤ t ∧ t ≤ 1000000000) ∧ (-2000000000 ≤ r ∧ r ≤ 2000000000) := by
    intro k c t r h1 h2 h3
    have hk : k < 1 := by have := lt_of h1; rw [aL_len] at this; exact this
    rw [aL_get hk] at h1 h2 h3
    obtain rfl := Option.some.inj h1
    obtain rfl := Option.some.inj h2
    obtain rfl := Option.some.inj h3
    rw [hcF,htF,hrF]
    have ok := p4_at hfo (k % fs.length)
    have hc := hp k
    have b1 := sw_bd ok (p k).1 hc.w
    have tp := tp_le (sw := aL 6 (swF (fs.getD (k % fs.length) ⟨0,0,0,0⟩))) (c := swF (fs.getD (k % fs.length) ⟨0,0,0,0⟩) (p k).1) (r := (p k).2.1) (by rw [aL_len]; decide) (fun j v hv => by
      have hj : j < 6 := by have := lt_of hv; rw [aL_len] at this; exact this
      rw [aL_get hj] at hv
      obtain rfl := Option.some.inj hv
      have := sw_bd ok j hj
      exact ⟨hc.r j hj,by omega,by omega⟩) 6 (by rw [aL_len]; exact Nat.le_refl _)
    have := hc.bd
    exact ⟨tp.1,by omega,by omega,this⟩
  have rd3 := fun i (hi : i < (ofN (bestO (lnT ld 1))).length) => round4d hu hul g hr (cs := aL 1 cF) (ts := aL 1 tF) (rs := aL 1 rF') (by rw [aL_len,ll]) (by rw [aL_len,ll]) (by rw [aL_len,ll]) hb hi
  rw [ll] at rd3
  have z := UX (n := ((ofN (bestO (lnT ld 1))).length : Int))
  have st0 : headX 0 [0,1,5,7,8,9,10,11] (execW progX 4 0 none (match x4l1 with | .loop _ a => a | c => c) (envL [0,1,5,7,8,9,10,11] [rF fs,rF ls,.pt 0 0,.pt 1 0,.nilsl,.nilsl,.nilsl,I 0]) (hC0 us ld cF tF rF')) = some ([rF fs,rF ls,.pt 0 0,.pt 1 0,.sl 8 0 1 1,.sl 9 0 1 1,.sl 10 0 1 1,I 1],hC1z us ld cF tF rF') := by
    have hi : 0 < ls.length := by omega
    obtain ⟨x,hx⟩ := at_ix hi
    have hqm : tmZ 0 (fs.length : Int) = ((0 % fs.length : Nat) : Int) := tmod_n 0 fs.length
    have hql : 0 % fs.length < fs.length := Nat.mod_lt _ (by omega)
    obtain ⟨y,hy⟩ := at_ix hql
    have c := hp 0
    have ye := getD_of (d := (⟨0,0,0,0⟩ : P4)) hy
    have h1 := hld 0
    have h2 := hcF 0
    have h3 := htF 0
    have h4 := hrF 0
    rw [getD_of hx] at h1
    have cw := c.w
    have c27 := c.e27
    have c28 := c.e28
    have ckn := c.kn
    rw [ye] at h2 h3 c27 c28 ckn
    have yok := hfo y (List.mem_of_getElem? hy)
    obtain ⟨e,he⟩ := at_ix (l := (p 0).2.2) (i := (p 0).1) (by rw [ckn.1]; exact cw)
    have en := ckn.2 _ e he
    exact round4c0z (us := us) (ld := ld) (cF := cF) (tF := tF) (rF' := rF') (fs := fs) (ls := ls) hN hy hqm hf0 hx (hlo x (List.mem_of_getElem? hx)) (w26 yok) c27 c28 (aL_len 6 _) ckn.1 cw (c := swF y (p 0).1) (aL_get cw) he en.1 en.2 h1 h2 h3 h4 (by omega)
  obtain ⟨SS,hS⟩ : ∃ SS : Nat → List AV,SS 0 = [rF fs,rF ls,.pt 0 0,.pt 1 0,.nilsl,.nilsl,.nilsl,I 0] ∧ SS 1 = [rF fs,rF ls,.pt 0 0,.pt 1 0,.sl 8 0 1 1,.sl 9 0 1 1,.sl 10 0 1 1,I 1] := ⟨fun i => match i with | 0 => [rF fs,rF ls,.pt 0 0,.pt 1 0,.nilsl,.nilsl,.nilsl,I 0] | 1 => [rF fs,rF ls,.pt 0 0,.pt 1 0,.sl 8 0 1 1,.sl 9 0 1 1,.sl 10 0 1 1,I 1] | _ => [],⟨rfl,rfl⟩⟩
  obtain ⟨GG,hG⟩ : ∃ GG : Nat → XH,GG 0 = hC0 us ld cF tF rF' ∧ GG 1 = hC1z us ld cF tF rF' := ⟨fun i => match i with | 0 => hC0 us ld cF tF rF' | 1 => hC1z us ld cF tF rF' | _ => [],⟨rfl,rfl⟩⟩
  obtain ⟨S0,S1⟩ := hS
  obtain ⟨G0,G1⟩ := hG
  have rd : ∀ i,i < 1 → headX 0 [0,1,5,7,8,9,10,11] (execW progX 4 0 none (match x4l1 with | .loop _ a => a | c => c) (envL [0,1,5,7,8,9,10,11] (SS i)) (GG i)) = some (SS (i + 1),GG (i + 1)) := by
    intro i hi
    have hc : i = 0 := by omega
    rcases hc with rfl
    · rw [S0,G0,S1,G1]; exact st0
  have a0 : ((1 : Int) < (ls.length : Int)) = False ∨ ((1 : Int) < (ls.length : Int)) = True := by
    by_cases h : (1 : Int) < (ls.length : Int)
    · exact .inr (eq_true h)
    · exact .inl (eq_false h)
  have hf5 : ¬ (1 : Int) < (ls.length : Int) := by omega
  clear st0 hb hld hcF htF hrF hp hms bv bw ck ff hr
  generalize msN (lnT ld 1) (ofN (bestO (lnT ld 1))) (ofN (bestO (lnT ld 1))).length = mw at *
  generalize ofN (bestO (lnT ld 1)) = oo at *
  rw [r4 (by simp)]; unfold x4; dsimp only
  sym =>
    simp [irem2,iquo2,remF,Za,Zb,Zc,Zd,Ze,Zf,Zg,Zh,Zj,Zl,Zm,Zn,Zo,Zq,Zr,Zt,Zu,Zv,Zw,Zx,Zy,Zz,Z1,Z5,ZA,ZB,ZD,ZH,ZI,ZL,ZM,ZQ,ZR,ZT,ZX,ZZ,Yg,Yo,Yp,Yq,Y3,Y5,YO,YQ,YR,YT,YV,YX,YY,Xc,Xe,Xf,Xg,Xh,Xk,Xo,Xp,Xq,Xr,Xs,Xt,Xu,Xy,X0,XI,XM,XU,XX,XY,XZ,Wd,Wg,Wn,Wo,Wp,Wq,Wz,W0,W3,W4,W5,W6,W7,W8,W9,WA,WB,WC,WE,WF,WG,WI,WJ,WK,WL,WM,WN,WO,WP,WQ,WR,WS,WT,WU,WW,WX,Vc,Vf,Vg,Vh,Vi,Vp,Vq,Vr,Vs,Vt,Vu,Vv,Vx,Vy,Vz,V0,V1,V2,V3,V4,V6,V7,V9,VA,VB,VC,VD,VG,VH,VI,VJ,VL,VM,VN,VO,VP,VR,VS,VU,VV,VW,VX,VY,VZ,Ub,Uc,Ud,Ue,Ug,Uj,Ul,Um,Us,Uu,Uw,Ux,Uy,Uz,U0,U1,U2,U3,U4,U5,U6,U7,U8,U9,UA,UB,UC,UD,UE,UF,UG,UH,UK,UL,UM,UN,UO,UP,UX,UY,UZ,Tc,Td,Te,Tf,Ti,Tn,Tp,Tq,Tr,Ts,Tt,Tu,Tv,Tz,T0,T1,T2,T6,TA,TB,TC,TD,TE,TF,TG,Sg,Si,Sj,Sk,Sl,Sy,Sz,S6,c1,e25]
    tactic =>
      unfold x4l1
      rw [loop_rule 1 SS GG]
      · rw [S1,G1]
        rw [lc] at e29
        have a0 := eq_false hf5
        sym =>
          simp [irem2,iquo2,remF,Za,Zb,Zc,Zd,Ze,Zf,Zg,Zh,Zj,Zl,Zm,Zn,Zo,Zq,Zr,Zt,Zu,Zv,Zw,Zx,Zy,Zz,Z1,Z5,ZA,ZB,ZD,ZH,ZI,ZL,ZM,ZQ,ZR,ZT,ZX,ZZ,Yg,Yo,Yp,Yq,Y3,Y5,YO,YQ,YR,YT,YV,YX,YY,Xc,Xe,Xf,Xg,Xh,Xk,Xo,Xp,Xq,Xr,Xs,Xt,Xu,Xy,X0,XI,XM,XU,XX,XY,XZ,Wd,Wg,Wn,Wo,Wp,Wq,Wz,W0,W3,W4,W5,W6,W7,W8,W9,WA,WB,WC,WE,WF,WG,WI,WJ,WK,WL,WM,WN,WO,WP,WQ,WR,WS,WT,WU,WW,WX,Vc,Vf,Vg,Vh,Vi,Vp,Vq,Vr,Vs,Vt,Vu,Vv,Vx,Vy,Vz,V0,V1,V2,V3,V4,V6,V7,V9,VA,VB,VC,VD,VG,VH,VI,VJ,VL,VM,VN,VO,VP,VR,VS,VU,VV,VW,VX,VY,VZ,Ub,Uc,Ud,Ue,Ug,Uj,Ul,Um,Us,Uu,Uw,Ux,Uy,Uz,U0,U1,U2,U3,U4,U5,U6,U7,U8,U9,UA,UB,UC,UD,UE,UF,UG,UH,UK,UL,UM,UN,UO,UP,UX,UY,UZ,Tc,Td,Te,Tf,Ti,Tn,Tp,Tq,Tr,Ts,Tt,Tu,Tv,Tz,T0,T1,T2,T6,TA,TB,TC,TD,TE,TF,TG,Sg,Si,Sj,Sk,Sl,Sy,Sz,S6,a0,e29,w0,hol]
          tactic =>
            unfold x4l3
            rw [loop_rule oo.length (fun i => [.pt 0 0,.sl 1 0 1 1,.sl 2 0 1 1,.sl 3 0 1 1,I mw,cl30,I (nowT us (lnT ld 1) oo i),rI oo,I oo.length,I (i : Nat)]) (fun _ => hT4 (lnT ld 1).c (aL 1 cF) (aL 1 tF) (aL 1 rF') us)]
            · (sym => (simp [irem2,iquo2,remF,Za,Zb,Zc,Zd,Ze,Zf,Zg,Zh,Zj,Zl,Zm,Zn,Zo,Zq,Zr,Zt,Zu,Zv,Zw,Zx,Zy,Zz,Z1,Z5,ZA,ZB,ZD,ZH,ZI,ZL,ZM,ZQ,ZR,ZT,ZX,ZZ,Yg,Yo,Yp,Yq,Y3,Y5,YO,YQ,YR,YT,YV,YX,YY,Xc,Xe,Xf,Xg,Xh,Xk,Xo,Xp,Xq,Xr,Xs,Xt,Xu,Xy,X0,XI,XM,XU,XX,XY,XZ,Wd,Wg,Wn,Wo,Wp,Wq,Wz,W0,W3,W4,W5,W6,W7,W8,W9,WA,WB,WC,WE,WF,WG,WI,WJ,WK,WL,WM,WN,WO,WP,WQ,WR,WS,WT,WU,WW,WX,Vc,Vf,Vg,Vh,Vi,Vp,Vq,Vr,Vs,Vt,Vu,Vv,Vx,Vy,Vz,V0,V1,V2,V3,V4,V6,V7,V9,VA,VB,VC,VD,VG,VH,VI,VJ,VL,VM,VN,VO,VP,VR,VS,VU,VV,VW,VX,VY,VZ,Ub,Uc,Ud,Ue,Ug,Uj,Ul,Um,Us,Uu,Uw,Ux,Uy,Uz,U0,U1,U2,U3,U4,U5,U6,U7,U8,U9,UA,UB,UC,UD,UE,UF,UG,UH,UK,UL,UM,UN,UO,UP,UX,UY,UZ,Tc,Td,Te,Tf,Ti,Tn,Tp,Tq,Tr,Ts,Tt,Tu,Tv,Tz,T0,T1,T2,T6,TA,TB,TC,TD,TE,TF,TG,Sg,Si,Sj,Sk,Sl,Sy,Sz,S6,z,crushed_w]; all_goals tactic => exact rfl))
            · show _ = some (_,([some (.blk true (.cells true [.fs [[.fs [[I 30,I 100],[I 120,I 300],[I 400,I 900]]],[.fs [[I 200,I 50]]]],.fs [[I (ld 0).k,I (ld 0).al,I (ld 0).ah,I (ld 0).cl,I (ld 0).ch]],.fs [[.fs [[I 0]]]],I 0,I 20])),some (.blk true (.cells true [I (cF 0)])),some (.blk true (.cells true [I (tF 0)])),some (.blk true (.cells true [I (rF' 0)])),cB8 us] : XH))
              (sym => (simp [irem2,iquo2,remF,Za,Zb,Zc,Zd,Ze,Zf,Zg,Zh,Zj,Zl,Zm,Zn,Zo,Zq,Zr,Zt,Zu,Zv,Zw,Zx,Zy,Zz,Z1,Z5,ZA,ZB,ZD,ZH,ZI,ZL,ZM,ZQ,ZR,ZT,ZX,ZZ,Yg,Yo,Yp,Yq,Y3,Y5,YO,YQ,YR,YT,YV,YX,YY,Xc,Xe,Xf,Xg,Xh,Xk,Xo,Xp,Xq,Xr,Xs,Xt,Xu,Xy,X0,XI,XM,XU,XX,XY,XZ,Wd,Wg,Wn,Wo,Wp,Wq,Wz,W0,W3,W4,W5,W6,W7,W8,W9,WA,WB,WC,WE,WF,WG,WI,WJ,WK,WL,WM,WN,WO,WP,WQ,WR,WS,WT,WU,WW,WX,Vc,Vf,Vg,Vh,Vi,Vp,Vq,Vr,Vs,Vt,Vu,Vv,Vx,Vy,Vz,V0,V1,V2,V3,V4,V6,V7,V9,VA,VB,VC,VD,VG,VH,VI,VJ,VL,VM,VN,VO,VP,VR,VS,VU,VV,VW,VX,VY,VZ,Ub,Uc,Ud,Ue,Ug,Uj,Ul,Um,Us,Uu,Uw,Ux,Uy,Uz,U0,U1,U2,U3,U4,U5,U6,U7,U8,U9,UA,UB,UC,UD,UE,UF,UG,UH,UK,UL,UM,UN,UO,UP,UX,UY,UZ,Tc,Td,Te,Tf,Ti,Tn,Tp,Tq,Tr,Ts,Tt,Tu,Tv,Tz,T0,T1,T2,T6,TA,TB,TC,TD,TE,TF,TG,Sg,Si,Sj,Sk,Sl,Sy,Sz,S6,hol]; all_goals tactic => exact rfl))
            · exact rd3
            · (sym => (simp [irem2,iquo2,remF,Za,Zb,Zc,Zd,Ze,Zf,Zg,Zh,Zj,Zl,Zm,Zn,Zo,Zq,Zr,Zt,Zu,Zv,Zw,Zx,Zy,Zz,Z1,Z5,ZA,ZB,ZD,ZH,ZI,ZL,ZM,ZQ,ZR,ZT,ZX,ZZ,Yg,Yo,Yp,Yq,Y3,Y5,YO,YQ,YR,YT,YV,YX,YY,Xc,Xe,Xf,Xg,Xh,Xk,Xo,Xp,Xq,Xr,Xs,Xt,Xu,Xy,X0,XI,XM,XU,XX,XY,XZ,Wd,Wg,Wn,Wo,Wp,Wq,Wz,W0,W3,W4,W5,W6,W7,W8,W9,WA,WB,WC,WE,WF,WG,WI,WJ,WK,WL,WM,WN,WO,WP,WQ,WR,WS,WT,WU,WW,WX,Vc,Vf,Vg,Vh,Vi,Vp,Vq,Vr,Vs,Vt,Vu,Vv,Vx,Vy,Vz,V0,V1,V2,V3,V4,V6,V7,V9,VA,VB,VC,VD,VG,VH,VI,VJ,VL,VM,VN,VO,VP,VR,VS,VU,VV,VW,VX,VY,VZ,Ub,Uc,Ud,Ue,Ug,Uj,Ul,Um,Us,Uu,Uw,Ux,Uy,Uz,U0,U1,U2,U3,U4,U5,U6,U7,U8,U9,UA,UB,UC,UD,UE,UF,UG,UH,UK,UL,UM,UN,UO,UP,UX,UY,UZ,Tc,Td,Te,Tf,Ti,Tn,Tp,Tq,Tr,Ts,Tt,Tu,Tv,Tz,T0,T1,T2,T6,TA,TB,TC,TD,TE,TF,TG,Sg,Si,Sj,Sk,Sl,Sy,Sz,S6,z]; all_goals tactic => exact rfl))
      · rw [S0,G0]
        (sym => (simp [irem2,iquo2,remF,Za,Zb,Zc,Zd,Ze,Zf,Zg,Zh,Zj,Zl,Zm,Zn,Zo,Zq,Zr,Zt,Zu,Zv,Zw,Zx,Zy,Zz,Z1,Z5,ZA,ZB,ZD,ZH,ZI,ZL,ZM,ZQ,ZR,ZT,ZX,ZZ,Yg,Yo,Yp,Yq,Y3,Y5,YO,YQ,YR,YT,YV,YX,YY,Xc,Xe,Xf,Xg,Xh,Xk,Xo,Xp,Xq,Xr,Xs,Xt,Xu,Xy,X0,XI,XM,XU,XX,XY,XZ,Wd,Wg,Wn,Wo,Wp,Wq,Wz,W0,W3,W4,W5,W6,W7,W8,W9,WA,WB,WC,WE,WF,WG,WI,WJ,WK,WL,WM,WN,WO,WP,WQ,WR,WS,WT,WU,WW,WX,Vc,Vf,Vg,Vh,Vi,Vp,Vq,Vr,Vs,Vt,Vu,Vv,Vx,Vy,Vz,V0,V1,V2,V3,V4,V6,V7,V9,VA,VB,VC,VD,VG,VH,VI,VJ,VL,VM,VN,VO,VP,VR,VS,VU,VV,VW,VX,VY,VZ,Ub,Uc,Ud,Ue,Ug,Uj,Ul,Um,Us,Uu,Uw,Ux,Uy,Uz,U0,U1,U2,U3,U4,U5,U6,U7,U8,U9,UA,UB,UC,UD,UE,UF,UG,UH,UK,UL,UM,UN,UO,UP,UX,UY,UZ,Tc,Td,Te,Tf,Ti,Tn,Tp,Tq,Tr,Ts,Tt,Tu,Tv,Tz,T0,T1,T2,T6,TA,TB,TC,TD,TE,TF,TG,Sg,Si,Sj,Sk,Sl,Sy,Sz,S6]; all_goals tactic => exact rfl))
      · exact rd
      · rw [S1,G1]
        have a0 := eq_false hf5
        (sym => (simp [irem2,iquo2,remF,Za,Zb,Zc,Zd,Ze,Zf,Zg,Zh,Zj,Zl,Zm,Zn,Zo,Zq,Zr,Zt,Zu,Zv,Zw,Zx,Zy,Zz,Z1,Z5,ZA,ZB,ZD,ZH,ZI,ZL,ZM,ZQ,ZR,ZT,ZX,ZZ,Yg,Yo,Yp,Yq,Y3,Y5,YO,YQ,YR,YT,YV,YX,YY,Xc,Xe,Xf,Xg,Xh,Xk,Xo,Xp,Xq,Xr,Xs,Xt,Xu,Xy,X0,XI,XM,XU,XX,XY,XZ,Wd,Wg,Wn,Wo,Wp,Wq,Wz,W0,W3,W4,W5,W6,W7,W8,W9,WA,WB,WC,WE,WF,WG,WI,WJ,WK,WL,WM,WN,WO,WP,WQ,WR,WS,WT,WU,WW,WX,Vc,Vf,Vg,Vh,Vi,Vp,Vq,Vr,Vs,Vt,Vu,Vv,Vx,Vy,Vz,V0,V1,V2,V3,V4,V6,V7,V9,VA,VB,VC,VD,VG,VH,VI,VJ,VL,VM,VN,VO,VP,VR,VS,VU,VV,VW,VX,VY,VZ,Ub,Uc,Ud,Ue,Ug,Uj,Ul,Um,Us,Uu,Uw,Ux,Uy,Uz,U0,U1,U2,U3,U4,U5,U6,U7,U8,U9,UA,UB,UC,UD,UE,UF,UG,UH,UK,UL,UM,UN,UO,UP,UX,UY,UZ,Tc,Td,Te,Tf,Ti,Tn,Tp,Tq,Tr,Ts,Tt,Tu,Tv,Tz,T0,T1,T2,T6,TA,TB,TC,TD,TE,TF,TG,Sg,Si,Sj,Sk,Sl,Sy,Sz,S6,a0]; all_goals tactic => exact rfl))
theorem top2 (hfo : ∀ x ∈ fs,x.Ok) (hlo : ∀ x ∈ ls,x.Ok) (hN : ls.length ≤ 9223372036854775807) (hf0 : fs.length ≠ 0) (hu : ∀ v ∈ us,v < 256) (hul : us.length ≤ maxLen) (hm : ls.length = 2) : runW progX 4 [rF fs,rF ls,.fs (us.map fun v => [B8 v])] [] = some (.bool true,[]) := by
  obtain ⟨p,hp⟩ := cho hfo
  obtain ⟨ld,hld⟩ : ∃ ld : Nat → Ld,∀ i,ld i = ldQ (ls.getD i ⟨0,0,0,0⟩) := ⟨_,fun _ => rfl⟩
  obtain ⟨cF,hcF⟩ : ∃ cF : Nat → Int,∀ i,cF i = swF (fs.getD (i % fs.length) ⟨0,0,0,0⟩) (p i).1 := ⟨_,fun _ => rfl⟩
  obtain ⟨tF,htF⟩ : ∃ tF : Nat → Int,∀ i,tF i = tpN (aL 6 (swF (fs.getD (i % fs.length) ⟨0,0,0,0⟩))) 6 := ⟨_,fun _ => rfl⟩
  obtain ⟨rF',hrF⟩ : ∃ rF' : Nat → Int,∀ i,rF' i = (p i).2.1 := ⟨_,fun _ => rfl⟩
  obtain ⟨ck,ff,ll⟩ := lnT_ok (ld := ld) (fun i => ⟨_,p4_at hlo i,hld i⟩) (m := 2) (by decide)
  have g := good_of ck
  obtain ⟨bv,bw⟩ := best_vld g
  have hr := ord_ok g ck bv
  have hms : msN (lnT ld 2) (ofN (bestO (lnT ld 2))) (ofN (bestO (lnT ld 2))).length = minW (lnT ld 2) := by rw [← worst_ms hr,worst_ord g ck bv,bw]
  have e29 := w29 _ ff
  unfold bestR at e29
  rw [if_pos ck,← hms] at e29
  have hol : (ofN (bestO (lnT ld 2))).length = 2 := by rw [(runE_len hr).2.1,ll]
  have c1 : ((fs.length : Int) = 0) = False := eq_false (by omega)
  have e25 := w25 0 20
  have lc : (lnT ld 2).c = [.fs [[.fs [[I 30,I 100],[I 120,I 300],[I 400,I 900]]],[.fs [[I 200,I 50]]]],.fs [[I (ld 0).k,I (ld 0).al,I (ld 0).ah,I (ld 0).cl,I (ld 0).ch],[I (ld 1).k,I (ld 1).al,I (ld 1).ah,I (ld 1).cl,I (ld 1).ch]],.fs [[.fs [[I 0],[I 1]]]],I 0,I 20] := rfl
  have w0 : runW progX 30 [I 0,.agg [I 0,I 20],.pt 0 0] [cB8 us] = some (I (nowT us (lnT ld 2) (ofN (bestO (lnT ld 2))) 0),[cB8 us]) := w30 hu hul (i := 0) (by omega) (a := 0) (b := 20) (by omega) (by omega) (by omega)
  have hcs : (aL 2 cF).map I = [I (cF 0),I (cF 1)] := rfl
  have hts : (aL 2 tF).map I = [I (tF 0),I (tF 1)] := rfl
  have hrs : (aL 2 rF').map I = [I (rF' 0),I (rF' 1)] := rfl
  have hb : ∀ (k : Nat) (c t r : Int),(aL 2 cF)[k]? = some c → (aL 2 tF)[k]? = some t → (aL 2 rF')[k]? = some r → t - c ≤ r ∧ (-1000000000 ≤ c ∧ c ≤ 1000000000) ∧ (-1000000000 ≤ t ∧ t ≤ 1000000000) ∧ (-2000000000 ≤ r ∧ r ≤ 2000000000) := by
    intro k c t r h1 h2 h3
    have hk : k < 2 := by have := lt_of h1; rw [aL_len] at this; exact this
    rw [aL_get hk] at h1 h2 h3
    obtain rfl := Option.some.inj h1
    obtain rfl := Option.some.inj h2
    obtain rfl := Option.some.inj h3
    rw [hcF,htF,hrF]
    have ok := p4_at hfo (k % fs.length)
    have hc := hp k
    have b1 := sw_bd ok (p k).1 hc.w
    have tp := tp_le (sw := aL 6 (swF (fs.getD (k % fs.length) ⟨0,0,0,0⟩))) (c := swF (fs.getD (k % fs.length) ⟨0,0,0,0⟩) (p k).1) (r := (p k).2.1) (by rw [aL_len]; decide) (fun j v hv => by
      have hj : j < 6 := by have := lt_of hv; rw [aL_len] at this; exact this
      rw [aL_get hj] at hv
      obtain rfl := Option.some.inj hv
      have := sw_bd ok j hj
      exact ⟨hc.r j hj,by omega,by omega⟩) 6 (by rw [aL_len]; exact Nat.le_refl _)
    have := hc.bd
    exact ⟨tp.1,by omega,by omega,this⟩
  have rd3 := fun i (hi : i < (ofN (bestO (lnT ld 2))).length) => round4d hu hul g hr (cs := aL 2 cF) (ts := aL 2 tF) (rs := aL 2 rF') (by rw [aL_len,ll]) (by rw [aL_len,ll]) (by rw [aL_len,ll]) hb hi
  rw [ll] at rd3
  have z := UX (n := ((ofN (bestO (lnT ld 2))).length : Int))
  have st0 : headX 0 [0,1,5,7,8,9,10,11] (execW progX 4 0 none (match x4l1 with | .loop _ a => a | c => c) (envL [0,1,5,7,8,9,10,11] [rF fs,rF ls,.pt 0 0,.pt 1 0,.nilsl,.nilsl,.nilsl,I 0]) (hC0 us ld cF tF rF')) = some ([rF fs,rF ls,.pt 0 0,.pt 1 0,.sl 6 0 1 1,.sl 7 0 1 1,.sl 8 0 1 1,I 1],hC1 us ld cF tF rF') := by
    have hi : 0 < ls.length := by omega
    obtain ⟨x,hx⟩ := at_ix hi
    have hqm : tmZ 0 (fs.length : Int) = ((0 % fs.length : Nat) : Int) := tmod_n 0 fs.length
    have hql : 0 % fs.length < fs.length := Nat.mod_lt _ (by omega)
    obtain ⟨y,hy⟩ := at_ix hql
    have c := hp 0
    have ye := getD_of (d := (⟨0,0,0,0⟩ : P4)) hy
    have h1 := hld 0
    have h2 := hcF 0
    have h3 := htF 0
    have h4 := hrF 0
    rw [getD_of hx] at h1
    have cw := c.w
    have c27 := c.e27
    have c28 := c.e28
    have ckn := c.kn
    rw [ye] at h2 h3 c27 c28 ckn
    have yok := hfo y (List.mem_of_getElem? hy)
    obtain ⟨e,he⟩ := at_ix (l := (p 0).2.2) (i := (p 0).1) (by rw [ckn.1]; exact cw)
    have en := ckn.2 _ e he
    exact round4c0 (us := us) (ld := ld) (cF := cF) (tF := tF) (rF' := rF') (fs := fs) (ls := ls) hN hy hqm hf0 hx (hlo x (List.mem_of_getElem? hx)) (w26 yok) c27 c28 (aL_len 6 _) ckn.1 cw (c := swF y (p 0).1) (aL_get cw) he en.1 en.2 h1 h2 h3 h4 (by omega)
  have st1 : headX 0 [0,1,5,7,8,9,10,11] (execW progX 4 0 none (match x4l1 with | .loop _ a => a | c => c) (envL [0,1,5,7,8,9,10,11] [rF fs,rF ls,.pt 0 0,.pt 1 0,.sl 6 0 1 1,.sl 7 0 1 1,.sl 8 0 1 1,I 1]) (hC1 us ld cF tF rF')) = some ([rF fs,rF ls,.pt 0 0,.pt 1 0,.sl 8 0 1 2,.sl 9 0 1 2,.sl 10 0 1 2,I 2],hC2 us ld cF tF rF') := by
    have hi : 1 < ls.length := by omega
    obtain ⟨x,hx⟩ := at_ix hi
    have hqm : tmZ 1 (fs.length : Int) = ((1 % fs.length : Nat) : Int) := tmod_n 1 fs.length
    have hql : 1 % fs.length < fs.length := Nat.mod_lt _ (by omega)
    obtain ⟨y,hy⟩ := at_ix hql
    have c := hp 1
    have ye := getD_of (d := (⟨0,0,0,0⟩ : P4)) hy
    have h1 := hld 1
    have h2 := hcF 1
    have h3 := htF 1
    have h4 := hrF 1
    rw [getD_of hx] at h1
    have cw := c.w
    have c27 := c.e27
    have c28 := c.e28
    have ckn := c.kn
    rw [ye] at h2 h3 c27 c28 ckn
    have yok := hfo y (List.mem_of_getElem? hy)
    obtain ⟨e,he⟩ := at_ix (l := (p 1).2.2) (i := (p 1).1) (by rw [ckn.1]; exact cw)
    have en := ckn.2 _ e he
    exact round4c1 (us := us) (ld := ld) (cF := cF) (tF := tF) (rF' := rF') (fs := fs) (ls := ls) hN hy hqm hf0 hx (hlo x (List.mem_of_getElem? hx)) (w26 yok) c27 c28 (aL_len 6 _) ckn.1 cw (c := swF y (p 1).1) (aL_get cw) he en.1 en.2 h1 h2 h3 h4
  obtain ⟨SS,hS⟩ : ∃ SS : Nat → List AV,SS 0 = [rF fs,rF ls,.pt 0 0,.pt 1 0,.nilsl,.nilsl,.nilsl,I 0] ∧ SS 1 = [rF fs,rF ls,.pt 0 0,.pt 1 0,.sl 6 0 1 1,.sl 7 0 1 1,.sl 8 0 1 1,I 1] ∧ SS 2 = [rF fs,rF ls,.pt 0 0,.pt 1 0,.sl 8 0 1 2,.sl 9 0 1 2,.sl 10 0 1 2,I 2] := ⟨fun i => match i with | 0 => [rF fs,rF ls,.pt 0 0,.pt 1 0,.nilsl,.nilsl,.nilsl,I 0] | 1 => [rF fs,rF ls,.pt 0 0,.pt 1 0,.sl 6 0 1 1,.sl 7 0 1 1,.sl 8 0 1 1,I 1] | 2 => [rF fs,rF ls,.pt 0 0,.pt 1 0,.sl 8 0 1 2,.sl 9 0 1 2,.sl 10 0 1 2,I 2] | _ => [],⟨rfl,rfl,rfl⟩⟩
  obtain ⟨GG,hG⟩ : ∃ GG : Nat → XH,GG 0 = hC0 us ld cF tF rF' ∧ GG 1 = hC1 us ld cF tF rF' ∧ GG 2 = hC2 us ld cF tF rF' := ⟨fun i => match i with | 0 => hC0 us ld cF tF rF' | 1 => hC1 us ld cF tF rF' | 2 => hC2 us ld cF tF rF' | _ => [],⟨rfl,rfl,rfl⟩⟩
  obtain ⟨S0,S1,S2⟩ := hS
  obtain ⟨G0,G1,G2⟩ := hG
  have rd : ∀ i,i < 2 → headX 0 [0,1,5,7,8,9,10,11] (execW progX 4 0 none (match x4l1 with | .loop _ a => a | c => c) (envL [0,1,5,7,8,9,10,11] (SS i)) (GG i)) = some (SS (i + 1),GG (i + 1)) := by
    intro i hi
    have hc : i = 0 ∨ i = 1 := by omega
    rcases hc with rfl | rfl
    · rw [S0,G0,S1,G1]; exact st0
    · rw [S1,G1,S2,G2]; exact st1
  have a0 : ((2 : Int) < (ls.length : Int)) = False ∨ ((2 : Int) < (ls.length : Int)) = True := by
    by_cases h : (2 : Int) < (ls.length : Int)
    · exact .inr (eq_true h)
    · exact .inl (eq_false h)
  have hf5 : ¬ (2 : Int) < (ls.length : Int) := by omega
  clear st0 st1 hb hld hcF htF hrF hp hms bv bw ck ff hr
  generalize msN (lnT ld 2) (ofN (bestO (lnT ld 2))) (ofN (bestO (lnT ld 2))).length = mw at *
  generalize ofN (bestO (lnT ld 2)) = oo at *
  rw [r4 (by simp)]; unfold x4; dsimp only
  sym =>
    simp [irem2,iquo2,remF,Za,Zb,Zc,Zd,Ze,Zf,Zg,Zh,Zj,Zl,Zm,Zn,Zo,Zq,Zr,Zt,Zu,Zv,Zw,Zx,Zy,Zz,Z1,Z5,ZA,ZB,ZD,ZH,ZI,ZL,ZM,ZQ,ZR,ZT,ZX,ZZ,Yg,Yo,Yp,Yq,Y3,Y7,YO,YQ,YR,YT,YV,YX,YY,Xc,Xe,Xf,Xg,Xh,Xk,Xo,Xp,Xq,Xr,Xs,Xt,Xu,Xy,X0,XI,XM,XU,XX,XY,XZ,Wd,Wg,Wn,Wo,Wp,Wq,Wz,W0,W3,W4,W5,W6,W7,W8,W9,WA,WB,WC,WE,WF,WG,WI,WJ,WK,WL,WM,WN,WO,WP,WQ,WR,WS,WT,WU,WW,WX,Vc,Vf,Vg,Vh,Vi,Vp,Vq,Vr,Vs,Vt,Vu,Vv,Vx,Vy,Vz,V0,V1,V2,V3,V4,V6,V7,V9,VA,VB,VC,VD,VG,VH,VI,VJ,VL,VM,VN,VO,VP,VR,VS,VU,VV,VW,VX,VY,VZ,Ub,Uc,Ud,Ue,Ug,Uj,Ul,Um,Us,Uu,Uw,Ux,Uy,Uz,U0,U1,U2,U3,U4,U5,U6,U7,U8,U9,UA,UB,UC,UD,UE,UF,UG,UH,UK,UL,UM,UN,UO,UP,UX,UY,UZ,Tc,Td,Te,Tf,Ti,Tn,Tp,Tq,Tr,Ts,Tt,Tu,Tv,Tz,T0,T1,T2,T6,TA,TB,TC,TD,TE,TF,TG,Sg,Si,Sj,Sk,Sl,Sy,Sz,S6,c1,e25]
    tactic =>
      unfold x4l1
      rw [loop_rule 2 SS GG]
      · rw [S2,G2]
        rw [lc] at e29
        have a0 := eq_false hf5
        sym =>
          simp [irem2,iquo2,remF,Za,Zb,Zc,Zd,Ze,Zf,Zg,Zh,Zj,Zl,Zm,Zn,Zo,Zq,Zr,Zt,Zu,Zv,Zw,Zx,Zy,Zz,Z1,Z5,ZA,ZB,ZD,ZH,ZI,ZL,ZM,ZQ,ZR,ZT,ZX,ZZ,Yg,Yo,Yp,Yq,Y3,Y7,YO,YQ,YR,YT,YV,YX,YY,Xc,Xe,Xf,Xg,Xh,Xk,Xo,Xp,Xq,Xr,Xs,Xt,Xu,Xy,X0,XI,XM,XU,XX,XY,XZ,Wd,Wg,Wn,Wo,Wp,Wq,Wz,W0,W3,W4,W5,W6,W7,W8,W9,WA,WB,WC,WE,WF,WG,WI,WJ,WK,WL,WM,WN,WO,WP,WQ,WR,WS,WT,WU,WW,WX,Vc,Vf,Vg,Vh,Vi,Vp,Vq,Vr,Vs,Vt,Vu,Vv,Vx,Vy,Vz,V0,V1,V2,V3,V4,V6,V7,V9,VA,VB,VC,VD,VG,VH,VI,VJ,VL,VM,VN,VO,VP,VR,VS,VU,VV,VW,VX,VY,VZ,Ub,Uc,Ud,Ue,Ug,Uj,Ul,Um,Us,Uu,Uw,Ux,Uy,Uz,U0,U1,U2,U3,U4,U5,U6,U7,U8,U9,UA,UB,UC,UD,UE,UF,UG,UH,UK,UL,UM,UN,UO,UP,UX,UY,UZ,Tc,Td,Te,Tf,Ti,Tn,Tp,Tq,Tr,Ts,Tt,Tu,Tv,Tz,T0,T1,T2,T6,TA,TB,TC,TD,TE,TF,TG,Sg,Si,Sj,Sk,Sl,Sy,Sz,S6,a0,e29,w0,hol]
          tactic =>
            unfold x4l3
            rw [loop_rule oo.length (fun i => [.pt 0 0,.sl 1 0 1 2,.sl 2 0 1 2,.sl 3 0 1 2,I mw,cl30,I (nowT us (lnT ld 2) oo i),rI oo,I oo.length,I (i : Nat)]) (fun _ => hT4 (lnT ld 2).c (aL 2 cF) (aL 2 tF) (aL 2 rF') us)]
            · (sym => (simp [irem2,iquo2,remF,Za,Zb,Zc,Zd,Ze,Zf,Zg,Zh,Zj,Zl,Zm,Zn,Zo,Zq,Zr,Zt,Zu,Zv,Zw,Zx,Zy,Zz,Z1,Z5,ZA,ZB,ZD,ZH,ZI,ZL,ZM,ZQ,ZR,ZT,ZX,ZZ,Yg,Yo,Yp,Yq,Y3,Y7,YO,YQ,YR,YT,YV,YX,YY,Xc,Xe,Xf,Xg,Xh,Xk,Xo,Xp,Xq,Xr,Xs,Xt,Xu,Xy,X0,XI,XM,XU,XX,XY,XZ,Wd,Wg,Wn,Wo,Wp,Wq,Wz,W0,W3,W4,W5,W6,W7,W8,W9,WA,WB,WC,WE,WF,WG,WI,WJ,WK,WL,WM,WN,WO,WP,WQ,WR,WS,WT,WU,WW,WX,Vc,Vf,Vg,Vh,Vi,Vp,Vq,Vr,Vs,Vt,Vu,Vv,Vx,Vy,Vz,V0,V1,V2,V3,V4,V6,V7,V9,VA,VB,VC,VD,VG,VH,VI,VJ,VL,VM,VN,VO,VP,VR,VS,VU,VV,VW,VX,VY,VZ,Ub,Uc,Ud,Ue,Ug,Uj,Ul,Um,Us,Uu,Uw,Ux,Uy,Uz,U0,U1,U2,U3,U4,U5,U6,U7,U8,U9,UA,UB,UC,UD,UE,UF,UG,UH,UK,UL,UM,UN,UO,UP,UX,UY,UZ,Tc,Td,Te,Tf,Ti,Tn,Tp,Tq,Tr,Ts,Tt,Tu,Tv,Tz,T0,T1,T2,T6,TA,TB,TC,TD,TE,TF,TG,Sg,Si,Sj,Sk,Sl,Sy,Sz,S6,z,crushed_w]; all_goals tactic => exact rfl))
            · show _ = some (_,([some (.blk true (.cells true [.fs [[.fs [[I 30,I 100],[I 120,I 300],[I 400,I 900]]],[.fs [[I 200,I 50]]]],.fs [[I (ld 0).k,I (ld 0).al,I (ld 0).ah,I (ld 0).cl,I (ld 0).ch],[I (ld 1).k,I (ld 1).al,I (ld 1).ah,I (ld 1).cl,I (ld 1).ch]],.fs [[.fs [[I 0],[I 1]]]],I 0,I 20])),some (.blk true (.cells true [I (cF 0),I (cF 1)])),some (.blk true (.cells true [I (tF 0),I (tF 1)])),some (.blk true (.cells true [I (rF' 0),I (rF' 1)])),cB8 us] : XH))
              (sym => (simp [irem2,iquo2,remF,Za,Zb,Zc,Zd,Ze,Zf,Zg,Zh,Zj,Zl,Zm,Zn,Zo,Zq,Zr,Zt,Zu,Zv,Zw,Zx,Zy,Zz,Z1,Z5,ZA,ZB,ZD,ZH,ZI,ZL,ZM,ZQ,ZR,ZT,ZX,ZZ,Yg,Yo,Yp,Yq,Y3,Y7,YO,YQ,YR,YT,YV,YX,YY,Xc,Xe,Xf,Xg,Xh,Xk,Xo,Xp,Xq,Xr,Xs,Xt,Xu,Xy,X0,XI,XM,XU,XX,XY,XZ,Wd,Wg,Wn,Wo,Wp,Wq,Wz,W0,W3,W4,W5,W6,W7,W8,W9,WA,WB,WC,WE,WF,WG,WI,WJ,WK,WL,WM,WN,WO,WP,WQ,WR,WS,WT,WU,WW,WX,Vc,Vf,Vg,Vh,Vi,Vp,Vq,Vr,Vs,Vt,Vu,Vv,Vx,Vy,Vz,V0,V1,V2,V3,V4,V6,V7,V9,VA,VB,VC,VD,VG,VH,VI,VJ,VL,VM,VN,VO,VP,VR,VS,VU,VV,VW,VX,VY,VZ,Ub,Uc,Ud,Ue,Ug,Uj,Ul,Um,Us,Uu,Uw,Ux,Uy,Uz,U0,U1,U2,U3,U4,U5,U6,U7,U8,U9,UA,UB,UC,UD,UE,UF,UG,UH,UK,UL,UM,UN,UO,UP,UX,UY,UZ,Tc,Td,Te,Tf,Ti,Tn,Tp,Tq,Tr,Ts,Tt,Tu,Tv,Tz,T0,T1,T2,T6,TA,TB,TC,TD,TE,TF,TG,Sg,Si,Sj,Sk,Sl,Sy,Sz,S6,hol]; all_goals tactic => exact rfl))
            · exact rd3
            · (sym => (simp [irem2,iquo2,remF,Za,Zb,Zc,Zd,Ze,Zf,Zg,Zh,Zj,Zl,Zm,Zn,Zo,Zq,Zr,Zt,Zu,Zv,Zw,Zx,Zy,Zz,Z1,Z5,ZA,ZB,ZD,ZH,ZI,ZL,ZM,ZQ,ZR,ZT,ZX,ZZ,Yg,Yo,Yp,Yq,Y3,Y7,YO,YQ,YR,YT,YV,YX,YY,Xc,Xe,Xf,Xg,Xh,Xk,Xo,Xp,Xq,Xr,Xs,Xt,Xu,Xy,X0,XI,XM,XU,XX,XY,XZ,Wd,Wg,Wn,Wo,Wp,Wq,Wz,W0,W3,W4,W5,W6,W7,W8,W9,WA,WB,WC,WE,WF,WG,WI,WJ,WK,WL,WM,WN,WO,WP,WQ,WR,WS,WT,WU,WW,WX,Vc,Vf,Vg,Vh,Vi,Vp,Vq,Vr,Vs,Vt,Vu,Vv,Vx,Vy,Vz,V0,V1,V2,V3,V4,V6,V7,V9,VA,VB,VC,VD,VG,VH,VI,VJ,VL,VM,VN,VO,VP,VR,VS,VU,VV,VW,VX,VY,VZ,Ub,Uc,Ud,Ue,Ug,Uj,Ul,Um,Us,Uu,Uw,Ux,Uy,Uz,U0,U1,U2,U3,U4,U5,U6,U7,U8,U9,UA,UB,UC,UD,UE,UF,UG,UH,UK,UL,UM,UN,UO,UP,UX,UY,UZ,Tc,Td,Te,Tf,Ti,Tn,Tp,Tq,Tr,Ts,Tt,Tu,Tv,Tz,T0,T1,T2,T6,TA,TB,TC,TD,TE,TF,TG,Sg,Si,Sj,Sk,Sl,Sy,Sz,S6,z]; all_goals tactic => exact rfl))
      · rw [S0,G0]
        (sym => (simp [irem2,iquo2,remF,Za,Zb,Zc,Zd,Ze,Zf,Zg,Zh,Zj,Zl,Zm,Zn,Zo,Zq,Zr,Zt,Zu,Zv,Zw,Zx,Zy,Zz,Z1,Z5,ZA,ZB,ZD,ZH,ZI,ZL,ZM,ZQ,ZR,ZT,ZX,ZZ,Yg,Yo,Yp,Yq,Y3,Y7,YO,YQ,YR,YT,YV,YX,YY,Xc,Xe,Xf,Xg,Xh,Xk,Xo,Xp,Xq,Xr,Xs,Xt,Xu,Xy,X0,XI,XM,XU,XX,XY,XZ,Wd,Wg,Wn,Wo,Wp,Wq,Wz,W0,W3,W4,W5,W6,W7,W8,W9,WA,WB,WC,WE,WF,WG,WI,WJ,WK,WL,WM,WN,WO,WP,WQ,WR,WS,WT,WU,WW,WX,Vc,Vf,Vg,Vh,Vi,Vp,Vq,Vr,Vs,Vt,Vu,Vv,Vx,Vy,Vz,V0,V1,V2,V3,V4,V6,V7,V9,VA,VB,VC,VD,VG,VH,VI,VJ,VL,VM,VN,VO,VP,VR,VS,VU,VV,VW,VX,VY,VZ,Ub,Uc,Ud,Ue,Ug,Uj,Ul,Um,Us,Uu,Uw,Ux,Uy,Uz,U0,U1,U2,U3,U4,U5,U6,U7,U8,U9,UA,UB,UC,UD,UE,UF,UG,UH,UK,UL,UM,UN,UO,UP,UX,UY,UZ,Tc,Td,Te,Tf,Ti,Tn,Tp,Tq,Tr,Ts,Tt,Tu,Tv,Tz,T0,T1,T2,T6,TA,TB,TC,TD,TE,TF,TG,Sg,Si,Sj,Sk,Sl,Sy,Sz,S6]; all_goals tactic => exact rfl))
      · exact rd
      · rw [S2,G2]
        have a0 := eq_false hf5
        (sym => (simp [irem2,iquo2,remF,Za,Zb,Zc,Zd,Ze,Zf,Zg,Zh,Zj,Zl,Zm,Zn,Zo,Zq,Zr,Zt,Zu,Zv,Zw,Zx,Zy,Zz,Z1,Z5,ZA,ZB,ZD,ZH,ZI,ZL,ZM,ZQ,ZR,ZT,ZX,ZZ,Yg,Yo,Yp,Yq,Y3,Y7,YO,YQ,YR,YT,YV,YX,YY,Xc,Xe,Xf,Xg,Xh,Xk,Xo,Xp,Xq,Xr,Xs,Xt,Xu,Xy,X0,XI,XM,XU,XX,XY,XZ,Wd,Wg,Wn,Wo,Wp,Wq,Wz,W0,W3,W4,W5,W6,W7,W8,W9,WA,WB,WC,WE,WF,WG,WI,WJ,WK,WL,WM,WN,WO,WP,WQ,WR,WS,WT,WU,WW,WX,Vc,Vf,Vg,Vh,Vi,Vp,Vq,Vr,Vs,Vt,Vu,Vv,Vx,Vy,Vz,V0,V1,V2,V3,V4,V6,V7,V9,VA,VB,VC,VD,VG,VH,VI,VJ,VL,VM,VN,VO,VP,VR,VS,VU,VV,VW,VX,VY,VZ,Ub,Uc,Ud,Ue,Ug,Uj,Ul,Um,Us,Uu,Uw,Ux,Uy,Uz,U0,U1,U2,U3,U4,U5,U6,U7,U8,U9,UA,UB,UC,UD,UE,UF,UG,UH,UK,UL,UM,UN,UO,UP,UX,UY,UZ,Tc,Td,Te,Tf,Ti,Tn,Tp,Tq,Tr,Ts,Tt,Tu,Tv,Tz,T0,T1,T2,T6,TA,TB,TC,TD,TE,TF,TG,Sg,Si,Sj,Sk,Sl,Sy,Sz,S6,a0]; all_goals tactic => exact rfl))
theorem top3 (hfo : ∀ x ∈ fs,x.Ok) (hlo : ∀ x ∈ ls,x.Ok) (hN : ls.length ≤ 9223372036854775807) (hf0 : fs.length ≠ 0) (hu : ∀ v ∈ us,v < 256) (hul : us.length ≤ maxLen) (hm : ls.length = 3) : runW progX 4 [rF fs,rF ls,.fs (us.map fun v => [B8 v])] [] = some (.bool true,[]) := by
  obtain ⟨p,hp⟩ := cho hfo
  obtain ⟨ld,hld⟩ : ∃ ld : Nat → Ld,∀ i,ld i = ldQ (ls.getD i ⟨0,0,0,0⟩) := ⟨_,fun _ => rfl⟩
  obtain ⟨cF,hcF⟩ : ∃ cF : Nat → Int,∀ i,cF i = swF (fs.getD (i % fs.length) ⟨0,0,0,0⟩) (p i).1 := ⟨_,fun _ => rfl⟩
  obtain ⟨tF,htF⟩ : ∃ tF : Nat → Int,∀ i,tF i = tpN (aL 6 (swF (fs.getD (i % fs.length) ⟨0,0,0,0⟩))) 6 := ⟨_,fun _ => rfl⟩
  obtain ⟨rF',hrF⟩ : ∃ rF' : Nat → Int,∀ i,rF' i = (p i).2.1 := ⟨_,fun _ => rfl⟩
  obtain ⟨ck,ff,ll⟩ := lnT_ok (ld := ld) (fun i => ⟨_,p4_at hlo i,hld i⟩) (m := 3) (by decide)
  have g := good_of ck
  obtain ⟨bv,bw⟩ := best_vld g
  have hr := ord_ok g ck bv
  have hms : msN (lnT ld 3) (ofN (bestO (lnT ld 3))) (ofN (bestO (lnT ld 3))).length = minW (lnT ld 3) := by rw [← worst_ms hr,worst_ord g ck bv,bw]
  have e29 := w29 _ ff
  unfold bestR at e29
  rw [if_pos ck,← hms] at e29
  have hol : (ofN (bestO (lnT ld 3))).length = 3 := by rw [(runE_len hr).2.1,ll]
  have c1 : ((fs.length : Int) = 0) = False := eq_false (by omega)
  have e25 := w25 0 20
  have lc : (lnT ld 3).c = [.fs [[.fs [[I 30,I 100],[I 120,I 300],[I 400,I 900]]],[.fs [[I 200,I 50]]]],.fs [[I (ld 0).k,I (ld 0).al,I (ld 0).ah,I (ld 0).cl,I (ld 0).ch],[I (ld 1).k,I (ld 1).al,I (ld 1).ah,I (ld 1).cl,I (ld 1).ch],[I (ld 2).k,I (ld 2).al,I (ld 2).ah,I (ld 2).cl,I (ld 2).ch]],.fs [[.fs [[I 0],[I 1]]],[.fs [[I 2]]]],I 0,I 20] := rfl
  have w0 : runW progX 30 [I 0,.agg [I 0,I 20],.pt 0 0] [cB8 us] = some (I (nowT us (lnT ld 3) (ofN (bestO (lnT ld 3))) 0),[cB8 us]) := w30 hu hul (i := 0) (by omega) (a := 0) (b := 20) (by omega) (by omega) (by omega)
  have hcs : (aL 3 cF).map I = [I (cF 0),I (cF 1),I (cF 2)] := rfl
  have hts : (aL 3 tF).map I = [I (tF 0),I (tF 1),I (tF 2)] := rfl
  have hrs : (aL 3 rF').map I = [I (rF' 0),I (rF' 1),I (rF' 2)] := rfl
  have hb : ∀ (k : Nat) (c t r : Int),(aL 3 cF)[k]? = some c → (aL 3 tF)[k]? = some t → (aL 3 rF')[k]? = some r → t - c ≤ r ∧ (-1000000000 ≤ c ∧ c ≤ 1000000000) ∧ (-1000000000 ≤ t ∧ t ≤ 1000000000) ∧ (-2000000000 ≤ r ∧ r ≤ 2000000000) := by
    intro k c t r h1 h2 h3
    have hk : k < 3 := by have := lt_of h1; rw [aL_len] at this; exact this
    rw [aL_get hk] at h1 h2 h3
    obtain rfl := Option.some.inj h1
    obtain rfl := Option.some.inj h2
    obtain rfl := Option.some.inj h3
    rw [hcF,htF,hrF]
    have ok := p4_at hfo (k % fs.length)
    have hc := hp k
    have b1 := sw_bd ok (p k).1 hc.w
    have tp := tp_le (sw := aL 6 (swF (fs.getD (k % fs.length) ⟨0,0,0,0⟩))) (c := swF (fs.getD (k % fs.length) ⟨0,0,0,0⟩) (p k).1) (r := (p k).2.1) (by rw [aL_len]; decide) (fun j v hv => by
      have hj : j < 6 := by have := lt_of hv; rw [aL_len] at this; exact this
      rw [aL_get hj] at hv
      obtain rfl := Option.some.inj hv
      have := sw_bd ok j hj
      exact ⟨hc.r j hj,by omega,by omega⟩) 6 (by rw [aL_len]; exact Nat.le_refl _)
    have := hc.bd
    exact ⟨tp.1,by omega,by omega,this⟩
  have rd3 := fun i (hi : i < (ofN (bestO (lnT ld 3))).length) => round4d hu hul g hr (cs := aL 3 cF) (ts := aL 3 tF) (rs := aL 3 rF') (by rw [aL_len,ll]) (by rw [aL_len,ll]) (by rw [aL_len,ll]) hb hi
  rw [ll] at rd3
  have z := UX (n := ((ofN (bestO (lnT ld 3))).length : Int))
  have st0 : headX 0 [0,1,5,7,8,9,10,11] (execW progX 4 0 none (match x4l1 with | .loop _ a => a | c => c) (envL [0,1,5,7,8,9,10,11] [rF fs,rF ls,.pt 0 0,.pt 1 0,.nilsl,.nilsl,.nilsl,I 0]) (hC0 us ld cF tF rF')) = some ([rF fs,rF ls,.pt 0 0,.pt 1 0,.sl 6 0 1 1,.sl 7 0 1 1,.sl 8 0 1 1,I 1],hC1 us ld cF tF rF') := by
    have hi : 0 < ls.length := by omega
    obtain ⟨x,hx⟩ := at_ix hi
    have hqm : tmZ 0 (fs.length : Int) = ((0 % fs.length : Nat) : Int) := tmod_n 0 fs.length
    have hql : 0 % fs.length < fs.length := Nat.mod_lt _ (by omega)
    obtain ⟨y,hy⟩ := at_ix hql
    have c := hp 0
    have ye := getD_of (d := (⟨0,0,0,0⟩ : P4)) hy
    have h1 := hld 0
    have h2 := hcF 0
    have h3 := htF 0
    have h4 := hrF 0
    rw [getD_of hx] at h1
    have cw := c.w
    have c27 := c.e27
    have c28 := c.e28
    have ckn := c.kn
    rw [ye] at h2 h3 c27 c28 ckn
    have yok := hfo y (List.mem_of_getElem? hy)
    obtain ⟨e,he⟩ := at_ix (l := (p 0).2.2) (i := (p 0).1) (by rw [ckn.1]; exact cw)
    have en := ckn.2 _ e he
    exact round4c0 (us := us) (ld := ld) (cF := cF) (tF := tF) (rF' := rF') (fs := fs) (ls := ls) hN hy hqm hf0 hx (hlo x (List.mem_of_getElem? hx)) (w26 yok) c27 c28 (aL_len 6 _) ckn.1 cw (c := swF y (p 0).1) (aL_get cw) he en.1 en.2 h1 h2 h3 h4 (by omega)
  have st1 : headX 0 [0,1,5,7,8,9,10,11] (execW progX 4 0 none (match x4l1 with | .loop _ a => a | c => c) (envL [0,1,5,7,8,9,10,11] [rF fs,rF ls,.pt 0 0,.pt 1 0,.sl 6 0 1 1,.sl 7 0 1 1,.sl 8 0 1 1,I 1]) (hC1 us ld cF tF rF')) = some ([rF fs,rF ls,.pt 0 0,.pt 1 0,.sl 8 0 1 2,.sl 9 0 1 2,.sl 10 0 1 2,I 2],hC2 us ld cF tF rF') := by
    have hi : 1 < ls.length := by omega
    obtain ⟨x,hx⟩ := at_ix hi
    have hqm : tmZ 1 (fs.length : Int) = ((1 % fs.length : Nat) : Int) := tmod_n 1 fs.length
    have hql : 1 % fs.length < fs.length := Nat.mod_lt _ (by omega)
    obtain ⟨y,hy⟩ := at_ix hql
    have c := hp 1
    have ye := getD_of (d := (⟨0,0,0,0⟩ : P4)) hy
    have h1 := hld 1
    have h2 := hcF 1
    have h3 := htF 1
    have h4 := hrF 1
    rw [getD_of hx] at h1
    have cw := c.w
    have c27 := c.e27
    have c28 := c.e28
    have ckn := c.kn
    rw [ye] at h2 h3 c27 c28 ckn
    have yok := hfo y (List.mem_of_getElem? hy)
    obtain ⟨e,he⟩ := at_ix (l := (p 1).2.2) (i := (p 1).1) (by rw [ckn.1]; exact cw)
    have en := ckn.2 _ e he
    exact round4c1 (us := us) (ld := ld) (cF := cF) (tF := tF) (rF' := rF') (fs := fs) (ls := ls) hN hy hqm hf0 hx (hlo x (List.mem_of_getElem? hx)) (w26 yok) c27 c28 (aL_len 6 _) ckn.1 cw (c := swF y (p 1).1) (aL_get cw) he en.1 en.2 h1 h2 h3 h4
  have st2 : headX 0 [0,1,5,7,8,9,10,11] (execW progX 4 0 none (match x4l1 with | .loop _ a => a | c => c) (envL [0,1,5,7,8,9,10,11] [rF fs,rF ls,.pt 0 0,.pt 1 0,.sl 8 0 1 2,.sl 9 0 1 2,.sl 10 0 1 2,I 2]) (hC2 us ld cF tF rF')) = some ([rF fs,rF ls,.pt 0 0,.pt 1 0,.sl 9 0 1 3,.sl 10 0 1 3,.sl 11 0 1 3,I 3],hC3z us ld cF tF rF') := by
    have hi : 2 < ls.length := by omega
    obtain ⟨x,hx⟩ := at_ix hi
    have hqm : tmZ 2 (fs.length : Int) = ((2 % fs.length : Nat) : Int) := tmod_n 2 fs.length
    have hql : 2 % fs.length < fs.length := Nat.mod_lt _ (by omega)
    obtain ⟨y,hy⟩ := at_ix hql
    have c := hp 2
    have ye := getD_of (d := (⟨0,0,0,0⟩ : P4)) hy
    have h1 := hld 2
    have h2 := hcF 2
    have h3 := htF 2
    have h4 := hrF 2
    rw [getD_of hx] at h1
    have cw := c.w
    have c27 := c.e27
    have c28 := c.e28
    have ckn := c.kn
    rw [ye] at h2 h3 c27 c28 ckn
    have yok := hfo y (List.mem_of_getElem? hy)
    obtain ⟨e,he⟩ := at_ix (l := (p 2).2.2) (i := (p 2).1) (by rw [ckn.1]; exact cw)
    have en := ckn.2 _ e he
    exact round4c2z (us := us) (ld := ld) (cF := cF) (tF := tF) (rF' := rF') (fs := fs) (ls := ls) hN hy hqm hf0 hx (hlo x (List.mem_of_getElem? hx)) (w26 yok) c27 c28 (aL_len 6 _) ckn.1 cw (c := swF y (p 2).1) (aL_get cw) he en.1 en.2 h1 h2 h3 h4 (by omega)
  obtain ⟨SS,hS⟩ : ∃ SS : Nat → List AV,SS 0 = [rF fs,rF ls,.pt 0 0,.pt 1 0,.nilsl,.nilsl,.nilsl,I 0] ∧ SS 1 = [rF fs,rF ls,.pt 0 0,.pt 1 0,.sl 6 0 1 1,.sl 7 0 1 1,.sl 8 0 1 1,I 1] ∧ SS 2 = [rF fs,rF ls,.pt 0 0,.pt 1 0,.sl 8 0 1 2,.sl 9 0 1 2,.sl 10 0 1 2,I 2] ∧ SS 3 = [rF fs,rF ls,.pt 0 0,.pt 1 0,.sl 9 0 1 3,.sl 10 0 1 3,.sl 11 0 1 3,I 3] := ⟨fun i => match i with | 0 => [rF fs,rF ls,.pt 0 0,.pt 1 0,.nilsl,.nilsl,.nilsl,I 0] | 1 => [rF fs,rF ls,.pt 0 0,.pt 1 0,.sl 6 0 1 1,.sl 7 0 1 1,.sl 8 0 1 1,I 1] | 2 => [rF fs,rF ls,.pt 0 0,.pt 1 0,.sl 8 0 1 2,.sl 9 0 1 2,.sl 10 0 1 2,I 2] | 3 => [rF fs,rF ls,.pt 0 0,.pt 1 0,.sl 9 0 1 3,.sl 10 0 1 3,.sl 11 0 1 3,I 3] | _ => [],⟨rfl,rfl,rfl,rfl⟩⟩
  obtain ⟨GG,hG⟩ : ∃ GG : Nat → XH,GG 0 = hC0 us ld cF tF rF' ∧ GG 1 = hC1 us ld cF tF rF' ∧ GG 2 = hC2 us ld cF tF rF' ∧ GG 3 = hC3z us ld cF tF rF' := ⟨fun i => match i with | 0 => hC0 us ld cF tF rF' | 1 => hC1 us ld cF tF rF' | 2 => hC2 us ld cF tF rF' | 3 => hC3z us ld cF tF rF' | _ => [],⟨rfl,rfl,rfl,rfl⟩⟩
  obtain ⟨S0,S1,S2,S3⟩ := hS
  obtain ⟨G0,G1,G2,G3⟩ := hG
  have rd : ∀ i,i < 3 → headX 0 [0,1,5,7,8,9,10,11] (execW progX 4 0 none (match x4l1 with | .loop _ a => a | c => c) (envL [0,1,5,7,8,9,10,11] (SS i)) (GG i)) = some (SS (i + 1),GG (i + 1)) := by
    intro i hi
    have hc : i = 0 ∨ i = 1 ∨ i = 2 := by omega
    rcases hc with rfl | rfl | rfl
    · rw [S0,G0,S1,G1]; exact st0
    · rw [S1,G1,S2,G2]; exact st1
    · rw [S2,G2,S3,G3]; exact st2
  have a0 : ((3 : Int) < (ls.length : Int)) = False ∨ ((3 : Int) < (ls.length : Int)) = True := by
    by_cases h : (3 : Int) < (ls.length : Int)
    · exact .inr (eq_true h)
    · exact .inl (eq_false h)
  have hf5 : ¬ (3 : Int) < (ls.length : Int) := by omega
  clear st0 st1 st2 hb hld hcF htF hrF hp hms bv bw ck ff hr
  generalize msN (lnT ld 3) (ofN (bestO (lnT ld 3))) (ofN (bestO (lnT ld 3))).length = mw at *
  generalize ofN (bestO (lnT ld 3)) = oo at *
  rw [r4 (by simp)]; unfold x4; dsimp only
  sym =>
    simp [irem2,iquo2,remF,Za,Zb,Zc,Zd,Ze,Zf,Zg,Zh,Zj,Zl,Zm,Zn,Zo,Zq,Zr,Zt,Zu,Zv,Zw,Zx,Zy,Zz,Z1,Z5,ZA,ZB,ZD,ZH,ZI,ZL,ZM,ZQ,ZR,ZT,ZX,ZZ,Yg,Yo,Yp,Yq,Y3,Y9,YO,YQ,YR,YT,YV,YX,YY,Xc,Xe,Xf,Xg,Xh,Xk,Xo,Xp,Xq,Xr,Xs,Xt,Xu,Xy,X0,XI,XM,XU,XX,XY,XZ,Wd,Wg,Wn,Wo,Wp,Wq,Wz,W0,W3,W4,W5,W6,W7,W8,W9,WA,WB,WC,WE,WF,WG,WI,WJ,WK,WL,WM,WN,WO,WP,WQ,WR,WS,WT,WU,WW,WX,Vc,Vf,Vg,Vh,Vi,Vp,Vq,Vr,Vs,Vt,Vu,Vv,Vx,Vy,Vz,V0,V1,V2,V3,V4,V6,V7,V9,VA,VB,VC,VD,VG,VH,VI,VJ,VL,VM,VN,VO,VP,VR,VS,VU,VV,VW,VX,VY,VZ,Ub,Uc,Ud,Ue,Ug,Uj,Ul,Um,Us,Uu,Uw,Ux,Uy,Uz,U0,U1,U2,U3,U4,U5,U6,U7,U8,U9,UA,UB,UC,UD,UE,UF,UG,UH,UK,UL,UM,UN,UO,UP,UX,UY,UZ,Tc,Td,Te,Tf,Ti,Tn,Tp,Tq,Tr,Ts,Tt,Tu,Tv,Tz,T0,T1,T2,T6,TA,TB,TC,TD,TE,TF,TG,Sg,Si,Sj,Sk,Sl,Sy,Sz,S6,c1,e25]
    tactic =>
      unfold x4l1
      rw [loop_rule 3 SS GG]
      · rw [S3,G3]
        rw [lc] at e29
        have a0 := eq_false hf5
        sym =>
          simp [irem2,iquo2,remF,Za,Zb,Zc,Zd,Ze,Zf,Zg,Zh,Zj,Zl,Zm,Zn,Zo,Zq,Zr,Zt,Zu,Zv,Zw,Zx,Zy,Zz,Z1,Z5,ZA,ZB,ZD,ZH,ZI,ZL,ZM,ZQ,ZR,ZT,ZX,ZZ,Yg,Yo,Yp,Yq,Y3,Y9,YO,YQ,YR,YT,YV,YX,YY,Xc,Xe,Xf,Xg,Xh,Xk,Xo,Xp,Xq,Xr,Xs,Xt,Xu,Xy,X0,XI,XM,XU,XX,XY,XZ,Wd,Wg,Wn,Wo,Wp,Wq,Wz,W0,W3,W4,W5,W6,W7,W8,W9,WA,WB,WC,WE,WF,WG,WI,WJ,WK,WL,WM,WN,WO,WP,WQ,WR,WS,WT,WU,WW,WX,Vc,Vf,Vg,Vh,Vi,Vp,Vq,Vr,Vs,Vt,Vu,Vv,Vx,Vy,Vz,V0,V1,V2,V3,V4,V6,V7,V9,VA,VB,VC,VD,VG,VH,VI,VJ,VL,VM,VN,VO,VP,VR,VS,VU,VV,VW,VX,VY,VZ,Ub,Uc,Ud,Ue,Ug,Uj,Ul,Um,Us,Uu,Uw,Ux,Uy,Uz,U0,U1,U2,U3,U4,U5,U6,U7,U8,U9,UA,UB,UC,UD,UE,UF,UG,UH,UK,UL,UM,UN,UO,UP,UX,UY,UZ,Tc,Td,Te,Tf,Ti,Tn,Tp,Tq,Tr,Ts,Tt,Tu,Tv,Tz,T0,T1,T2,T6,TA,TB,TC,TD,TE,TF,TG,Sg,Si,Sj,Sk,Sl,Sy,Sz,S6,a0,e29,w0,hol]
          tactic =>
            unfold x4l3
            rw [loop_rule oo.length (fun i => [.pt 0 0,.sl 1 0 1 3,.sl 2 0 1 3,.sl 3 0 1 3,I mw,cl30,I (nowT us (lnT ld 3) oo i),rI oo,I oo.length,I (i : Nat)]) (fun _ => hT4 (lnT ld 3).c (aL 3 cF) (aL 3 tF) (aL 3 rF') us)]
            · (sym => (simp [irem2,iquo2,remF,Za,Zb,Zc,Zd,Ze,Zf,Zg,Zh,Zj,Zl,Zm,Zn,Zo,Zq,Zr,Zt,Zu,Zv,Zw,Zx,Zy,Zz,Z1,Z5,ZA,ZB,ZD,ZH,ZI,ZL,ZM,ZQ,ZR,ZT,ZX,ZZ,Yg,Yo,Yp,Yq,Y3,Y9,YO,YQ,YR,YT,YV,YX,YY,Xc,Xe,Xf,Xg,Xh,Xk,Xo,Xp,Xq,Xr,Xs,Xt,Xu,Xy,X0,XI,XM,XU,XX,XY,XZ,Wd,Wg,Wn,Wo,Wp,Wq,Wz,W0,W3,W4,W5,W6,W7,W8,W9,WA,WB,WC,WE,WF,WG,WI,WJ,WK,WL,WM,WN,WO,WP,WQ,WR,WS,WT,WU,WW,WX,Vc,Vf,Vg,Vh,Vi,Vp,Vq,Vr,Vs,Vt,Vu,Vv,Vx,Vy,Vz,V0,V1,V2,V3,V4,V6,V7,V9,VA,VB,VC,VD,VG,VH,VI,VJ,VL,VM,VN,VO,VP,VR,VS,VU,VV,VW,VX,VY,VZ,Ub,Uc,Ud,Ue,Ug,Uj,Ul,Um,Us,Uu,Uw,Ux,Uy,Uz,U0,U1,U2,U3,U4,U5,U6,U7,U8,U9,UA,UB,UC,UD,UE,UF,UG,UH,UK,UL,UM,UN,UO,UP,UX,UY,UZ,Tc,Td,Te,Tf,Ti,Tn,Tp,Tq,Tr,Ts,Tt,Tu,Tv,Tz,T0,T1,T2,T6,TA,TB,TC,TD,TE,TF,TG,Sg,Si,Sj,Sk,Sl,Sy,Sz,S6,z,crushed_w]; all_goals tactic => exact rfl))
            · show _ = some (_,([some (.blk true (.cells true [.fs [[.fs [[I 30,I 100],[I 120,I 300],[I 400,I 900]]],[.fs [[I 200,I 50]]]],.fs [[I (ld 0).k,I (ld 0).al,I (ld 0).ah,I (ld 0).cl,I (ld 0).ch],[I (ld 1).k,I (ld 1).al,I (ld 1).ah,I (ld 1).cl,I (ld 1).ch],[I (ld 2).k,I (ld 2).al,I (ld 2).ah,I (ld 2).cl,I (ld 2).ch]],.fs [[.fs [[I 0],[I 1]]],[.fs [[I 2]]]],I 0,I 20])),some (.blk true (.cells true [I (cF 0),I (cF 1),I (cF 2)])),some (.blk true (.cells true [I (tF 0),I (tF 1),I (tF 2)])),some (.blk true (.cells true [I (rF' 0),I (rF' 1),I (rF' 2)])),cB8 us] : XH))
              (sym => (simp [irem2,iquo2,remF,Za,Zb,Zc,Zd,Ze,Zf,Zg,Zh,Zj,Zl,Zm,Zn,Zo,Zq,Zr,Zt,Zu,Zv,Zw,Zx,Zy,Zz,Z1,Z5,ZA,ZB,ZD,ZH,ZI,ZL,ZM,ZQ,ZR,ZT,ZX,ZZ,Yg,Yo,Yp,Yq,Y3,Y9,YO,YQ,YR,YT,YV,YX,YY,Xc,Xe,Xf,Xg,Xh,Xk,Xo,Xp,Xq,Xr,Xs,Xt,Xu,Xy,X0,XI,XM,XU,XX,XY,XZ,Wd,Wg,Wn,Wo,Wp,Wq,Wz,W0,W3,W4,W5,W6,W7,W8,W9,WA,WB,WC,WE,WF,WG,WI,WJ,WK,WL,WM,WN,WO,WP,WQ,WR,WS,WT,WU,WW,WX,Vc,Vf,Vg,Vh,Vi,Vp,Vq,Vr,Vs,Vt,Vu,Vv,Vx,Vy,Vz,V0,V1,V2,V3,V4,V6,V7,V9,VA,VB,VC,VD,VG,VH,VI,VJ,VL,VM,VN,VO,VP,VR,VS,VU,VV,VW,VX,VY,VZ,Ub,Uc,Ud,Ue,Ug,Uj,Ul,Um,Us,Uu,Uw,Ux,Uy,Uz,U0,U1,U2,U3,U4,U5,U6,U7,U8,U9,UA,UB,UC,UD,UE,UF,UG,UH,UK,UL,UM,UN,UO,UP,UX,UY,UZ,Tc,Td,Te,Tf,Ti,Tn,Tp,Tq,Tr,Ts,Tt,Tu,Tv,Tz,T0,T1,T2,T6,TA,TB,TC,TD,TE,TF,TG,Sg,Si,Sj,Sk,Sl,Sy,Sz,S6,hol]; all_goals tactic => exact rfl))
            · exact rd3
            · (sym => (simp [irem2,iquo2,remF,Za,Zb,Zc,Zd,Ze,Zf,Zg,Zh,Zj,Zl,Zm,Zn,Zo,Zq,Zr,Zt,Zu,Zv,Zw,Zx,Zy,Zz,Z1,Z5,ZA,ZB,ZD,ZH,ZI,ZL,ZM,ZQ,ZR,ZT,ZX,ZZ,Yg,Yo,Yp,Yq,Y3,Y9,YO,YQ,YR,YT,YV,YX,YY,Xc,Xe,Xf,Xg,Xh,Xk,Xo,Xp,Xq,Xr,Xs,Xt,Xu,Xy,X0,XI,XM,XU,XX,XY,XZ,Wd,Wg,Wn,Wo,Wp,Wq,Wz,W0,W3,W4,W5,W6,W7,W8,W9,WA,WB,WC,WE,WF,WG,WI,WJ,WK,WL,WM,WN,WO,WP,WQ,WR,WS,WT,WU,WW,WX,Vc,Vf,Vg,Vh,Vi,Vp,Vq,Vr,Vs,Vt,Vu,Vv,Vx,Vy,Vz,V0,V1,V2,V3,V4,V6,V7,V9,VA,VB,VC,VD,VG,VH,VI,VJ,VL,VM,VN,VO,VP,VR,VS,VU,VV,VW,VX,VY,VZ,Ub,Uc,Ud,Ue,Ug,Uj,Ul,Um,Us,Uu,Uw,Ux,Uy,Uz,U0,U1,U2,U3,U4,U5,U6,U7,U8,U9,UA,UB,UC,UD,UE,UF,UG,UH,UK,UL,UM,UN,UO,UP,UX,UY,UZ,Tc,Td,Te,Tf,Ti,Tn,Tp,Tq,Tr,Ts,Tt,Tu,Tv,Tz,T0,T1,T2,T6,TA,TB,TC,TD,TE,TF,TG,Sg,Si,Sj,Sk,Sl,Sy,Sz,S6,z]; all_goals tactic => exact rfl))
      · rw [S0,G0]
        (sym => (simp [irem2,iquo2,remF,Za,Zb,Zc,Zd,Ze,Zf,Zg,Zh,Zj,Zl,Zm,Zn,Zo,Zq,Zr,Zt,Zu,Zv,Zw,Zx,Zy,Zz,Z1,Z5,ZA,ZB,ZD,ZH,ZI,ZL,ZM,ZQ,ZR,ZT,ZX,ZZ,Yg,Yo,Yp,Yq,Y3,Y9,YO,YQ,YR,YT,YV,YX,YY,Xc,Xe,Xf,Xg,Xh,Xk,Xo,Xp,Xq,Xr,Xs,Xt,Xu,Xy,X0,XI,XM,XU,XX,XY,XZ,Wd,Wg,Wn,Wo,Wp,Wq,Wz,W0,W3,W4,W5,W6,W7,W8,W9,WA,WB,WC,WE,WF,WG,WI,WJ,WK,WL,WM,WN,WO,WP,WQ,WR,WS,WT,WU,WW,WX,Vc,Vf,Vg,Vh,Vi,Vp,Vq,Vr,Vs,Vt,Vu,Vv,Vx,Vy,Vz,V0,V1,V2,V3,V4,V6,V7,V9,VA,VB,VC,VD,VG,VH,VI,VJ,VL,VM,VN,VO,VP,VR,VS,VU,VV,VW,VX,VY,VZ,Ub,Uc,Ud,Ue,Ug,Uj,Ul,Um,Us,Uu,Uw,Ux,Uy,Uz,U0,U1,U2,U3,U4,U5,U6,U7,U8,U9,UA,UB,UC,UD,UE,UF,UG,UH,UK,UL,UM,UN,UO,UP,UX,UY,UZ,Tc,Td,Te,Tf,Ti,Tn,Tp,Tq,Tr,Ts,Tt,Tu,Tv,Tz,T0,T1,T2,T6,TA,TB,TC,TD,TE,TF,TG,Sg,Si,Sj,Sk,Sl,Sy,Sz,S6]; all_goals tactic => exact rfl))
      · exact rd
      · rw [S3,G3]
        have a0 := eq_false hf5
        (sym => (simp [irem2,iquo2,remF,Za,Zb,Zc,Zd,Ze,Zf,Zg,Zh,Zj,Zl,Zm,Zn,Zo,Zq,Zr,Zt,Zu,Zv,Zw,Zx,Zy,Zz,Z1,Z5,ZA,ZB,ZD,ZH,ZI,ZL,ZM,ZQ,ZR,ZT,ZX,ZZ,Yg,Yo,Yp,Yq,Y3,Y9,YO,YQ,YR,YT,YV,YX,YY,Xc,Xe,Xf,Xg,Xh,Xk,Xo,Xp,Xq,Xr,Xs,Xt,Xu,Xy,X0,XI,XM,XU,XX,XY,XZ,Wd,Wg,Wn,Wo,Wp,Wq,Wz,W0,W3,W4,W5,W6,W7,W8,W9,WA,WB,WC,WE,WF,WG,WI,WJ,WK,WL,WM,WN,WO,WP,WQ,WR,WS,WT,WU,WW,WX,Vc,Vf,Vg,Vh,Vi,Vp,Vq,Vr,Vs,Vt,Vu,Vv,Vx,Vy,Vz,V0,V1,V2,V3,V4,V6,V7,V9,VA,VB,VC,VD,VG,VH,VI,VJ,VL,VM,VN,VO,VP,VR,VS,VU,VV,VW,VX,VY,VZ,Ub,Uc,Ud,Ue,Ug,Uj,Ul,Um,Us,Uu,Uw,Ux,Uy,Uz,U0,U1,U2,U3,U4,U5,U6,U7,U8,U9,UA,UB,UC,UD,UE,UF,UG,UH,UK,UL,UM,UN,UO,UP,UX,UY,UZ,Tc,Td,Te,Tf,Ti,Tn,Tp,Tq,Tr,Ts,Tt,Tu,Tv,Tz,T0,T1,T2,T6,TA,TB,TC,TD,TE,TF,TG,Sg,Si,Sj,Sk,Sl,Sy,Sz,S6,a0]; all_goals tactic => exact rfl))
theorem top4 (hfo : ∀ x ∈ fs,x.Ok) (hlo : ∀ x ∈ ls,x.Ok) (hN : ls.length ≤ 9223372036854775807) (hf0 : fs.length ≠ 0) (hu : ∀ v ∈ us,v < 256) (hul : us.length ≤ maxLen) (hm : ls.length = 4) : runW progX 4 [rF fs,rF ls,.fs (us.map fun v => [B8 v])] [] = some (.bool true,[]) := by
  obtain ⟨p,hp⟩ := cho hfo
  obtain ⟨ld,hld⟩ : ∃ ld : Nat → Ld,∀ i,ld i = ldQ (ls.getD i ⟨0,0,0,0⟩) := ⟨_,fun _ => rfl⟩
  obtain ⟨cF,hcF⟩ : ∃ cF : Nat → Int,∀ i,cF i = swF (fs.getD (i % fs.length) ⟨0,0,0,0⟩) (p i).1 := ⟨_,fun _ => rfl⟩
  obtain ⟨tF,htF⟩ : ∃ tF : Nat → Int,∀ i,tF i = tpN (aL 6 (swF (fs.getD (i % fs.length) ⟨0,0,0,0⟩))) 6 := ⟨_,fun _ => rfl⟩
  obtain ⟨rF',hrF⟩ : ∃ rF' : Nat → Int,∀ i,rF' i = (p i).2.1 := ⟨_,fun _ => rfl⟩
  obtain ⟨ck,ff,ll⟩ := lnT_ok (ld := ld) (fun i => ⟨_,p4_at hlo i,hld i⟩) (m := 4) (by decide)
  have g := good_of ck
  obtain ⟨bv,bw⟩ := best_vld g
  have hr := ord_ok g ck bv
  have hms : msN (lnT ld 4) (ofN (bestO (lnT ld 4))) (ofN (bestO (lnT ld 4))).length = minW (lnT ld 4) := by rw [← worst_ms hr,worst_ord g ck bv,bw]
  have e29 := w29 _ ff
  unfold bestR at e29
  rw [if_pos ck,← hms] at e29
  have hol : (ofN (bestO (lnT ld 4))).length = 4 := by rw [(runE_len hr).2.1,ll]
  have c1 : ((fs.length : Int) = 0) = False := eq_false (by omega)
  have e25 := w25 0 20
  have lc : (lnT ld 4).c = [.fs [[.fs [[I 30,I 100],[I 120,I 300],[I 400,I 900]]],[.fs [[I 200,I 50]]]],.fs [[I (ld 0).k,I (ld 0).al,I (ld 0).ah,I (ld 0).cl,I (ld 0).ch],[I (ld 1).k,I (ld 1).al,I (ld 1).ah,I (ld 1).cl,I (ld 1).ch],[I (ld 2).k,I (ld 2).al,I (ld 2).ah,I (ld 2).cl,I (ld 2).ch],[I (ld 3).k,I (ld 3).al,I (ld 3).ah,I (ld 3).cl,I (ld 3).ch]],.fs [[.fs [[I 0],[I 1]]],[.fs [[I 2],[I 3]]]],I 0,I 20] := rfl
  have w0 : runW progX 30 [I 0,.agg [I 0,I 20],.pt 0 0] [cB8 us] = some (I (nowT us (lnT ld 4) (ofN (bestO (lnT ld 4))) 0),[cB8 us]) := w30 hu hul (i := 0) (by omega) (a := 0) (b := 20) (by omega) (by omega) (by omega)
  have hcs : (aL 4 cF).map I = [I (cF 0),I (cF 1),I (cF 2),I (cF 3)] := rfl
  have hts : (aL 4 tF).map I = [I (tF 0),I (tF 1),I (tF 2),I (tF 3)] := rfl
  have hrs : (aL 4 rF').map I = [I (rF' 0),I (rF' 1),I (rF' 2),I (rF' 3)] := rfl
  have hb : ∀ (k : Nat) (c t r : Int),(aL 4 cF)[k]? = some c → (aL 4 tF)[k]? = some t → (aL 4 rF')[k]? = some r → t - c ≤ r ∧ (-1000000000 ≤ c ∧ c ≤ 1000000000) ∧ (-1000000000 ≤ t ∧ t ≤ 1000000000) ∧ (-2000000000 ≤ r ∧ r ≤ 2000000000) := by
    intro k c t r h1 h2 h3
    have hk : k < 4 := by have := lt_of h1; rw [aL_len] at this; exact this
    rw [aL_get hk] at h1 h2 h3
    obtain rfl := Option.some.inj h1
    obtain rfl := Option.some.inj h2
    obtain rfl := Option.some.inj h3
    rw [hcF,htF,hrF]
    have ok := p4_at hfo (k % fs.length)
    have hc := hp k
    have b1 := sw_bd ok (p k).1 hc.w
    have tp := tp_le (sw := aL 6 (swF (fs.getD (k % fs.length) ⟨0,0,0,0⟩))) (c := swF (fs.getD (k % fs.length) ⟨0,0,0,0⟩) (p k).1) (r := (p k).2.1) (by rw [aL_len]; decide) (fun j v hv => by
      have hj : j < 6 := by have := lt_of hv; rw [aL_len] at this; exact this
      rw [aL_get hj] at hv
      obtain rfl := Option.some.inj hv
      have := sw_bd ok j hj
      exact ⟨hc.r j hj,by omega,by omega⟩) 6 (by rw [aL_len]; exact Nat.le_refl _)
    have := hc.bd
    exact ⟨tp.1,by omega,by omega,this⟩
  have rd3 := fun i (hi : i < (ofN (bestO (lnT ld 4))).length) => round4d hu hul g hr (cs := aL 4 cF) (ts := aL 4 tF) (rs := aL 4 rF') (by rw [aL_len,ll]) (by rw [aL_len,ll]) (by rw [aL_len,ll]) hb hi
  rw [ll] at rd3
  have z := UX (n := ((ofN (bestO (lnT ld 4))).length : Int))
  have st0 : headX 0 [0,1,5,7,8,9,10,11] (execW progX 4 0 none (match x4l1 with | .loop _ a => a | c => c) (envL [0,1,5,7,8,9,10,11] [rF fs,rF ls,.pt 0 0,.pt 1 0,.nilsl,.nilsl,.nilsl,I 0]) (hC0 us ld cF tF rF')) = some ([rF fs,rF ls,.pt 0 0,.pt 1 0,.sl 6 0 1 1,.sl 7 0 1 1,.sl 8 0 1 1,I 1],hC1 us ld cF tF rF') := by
    have hi : 0 < ls.length := by omega
    obtain ⟨x,hx⟩ := at_ix hi
    have hqm : tmZ 0 (fs.length : Int) = ((0 % fs.length : Nat) : Int) := tmod_n 0 fs.length
    have hql : 0 % fs.length < fs.length := Nat.mod_lt _ (by omega)
    obtain ⟨y,hy⟩ := at_ix hql
    have c := hp 0
    have ye := getD_of (d := (⟨0,0,0,0⟩ : P4)) hy
    have h1 := hld 0
    have h2 := hcF 0
    have h3 := htF 0
    have h4 := hrF 0
    rw [getD_of hx] at h1
    have cw := c.w
    have c27 := c.e27
    have c28 := c.e28
    have ckn := c.kn
    rw [ye] at h2 h3 c27 c28 ckn
    have yok := hfo y (List.mem_of_getElem? hy)
    obtain ⟨e,he⟩ := at_ix (l := (p 0).2.2) (i := (p 0).1) (by rw [ckn.1]; exact cw)
    have en := ckn.2 _ e he
    exact round4c0 (us := us) (ld := ld) (cF := cF) (tF := tF) (rF' := rF') (fs := fs) (ls := ls) hN hy hqm hf0 hx (hlo x (List.mem_of_getElem? hx)) (w26 yok) c27 c28 (aL_len 6 _) ckn.1 cw (c := swF y (p 0).1) (aL_get cw) he en.1 en.2 h1 h2 h3 h4 (by omega)
  have st1 : headX 0 [0,1,5,7,8,9,10,11] (execW progX 4 0 none (match x4l1 with | .loop _ a => a | c => c) (envL [0,1,5,7,8,9,10,11] [rF fs,rF ls,.pt 0 0,.pt 1 0,.sl 6 0 1 1,.sl 7 0 1 1,.sl 8 0 1 1,I 1]) (hC1 us ld cF tF rF')) = some ([rF fs,rF ls,.pt 0 0,.pt 1 0,.sl 8 0 1 2,.sl 9 0 1 2,.sl 10 0 1 2,I 2],hC2 us ld cF tF rF') := by
    have hi : 1 < ls.length := by omega
    obtain ⟨x,hx⟩ := at_ix hi
    have hqm : tmZ 1 (fs.length : Int) = ((1 % fs.length : Nat) : Int) := tmod_n 1 fs.length
    have hql : 1 % fs.length < fs.length := Nat.mod_lt _ (by omega)
    obtain ⟨y,hy⟩ := at_ix hql
    have c := hp 1
    have ye := getD_of (d := (⟨0,0,0,0⟩ : P4)) hy
    have h1 := hld 1
    have h2 := hcF 1
    have h3 := htF 1
    have h4 := hrF 1
    rw [getD_of hx] at h1
    have cw := c.w
    have c27 := c.e27
    have c28 := c.e28
    have ckn := c.kn
    rw [ye] at h2 h3 c27 c28 ckn
    have yok := hfo y (List.mem_of_getElem? hy)
    obtain ⟨e,he⟩ := at_ix (l := (p 1).2.2) (i := (p 1).1) (by rw [ckn.1]; exact cw)
    have en := ckn.2 _ e he
    exact round4c1 (us := us) (ld := ld) (cF := cF) (tF := tF) (rF' := rF') (fs := fs) (ls := ls) hN hy hqm hf0 hx (hlo x (List.mem_of_getElem? hx)) (w26 yok) c27 c28 (aL_len 6 _) ckn.1 cw (c := swF y (p 1).1) (aL_get cw) he en.1 en.2 h1 h2 h3 h4
  have st2 : headX 0 [0,1,5,7,8,9,10,11] (execW progX 4 0 none (match x4l1 with | .loop _ a => a | c => c) (envL [0,1,5,7,8,9,10,11] [rF fs,rF ls,.pt 0 0,.pt 1 0,.sl 8 0 1 2,.sl 9 0 1 2,.sl 10 0 1 2,I 2]) (hC2 us ld cF tF rF')) = some ([rF fs,rF ls,.pt 0 0,.pt 1 0,.sl 8 0 1 3,.sl 9 0 1 3,.sl 10 0 1 3,I 3],hC3 us ld cF tF rF') := by
    have hi : 2 < ls.length := by omega
    obtain ⟨x,hx⟩ := at_ix hi
    have hqm : tmZ 2 (fs.length : Int) = ((2 % fs.length : Nat) : Int) := tmod_n 2 fs.length
    have hql : 2 % fs.length < fs.length := Nat.mod_lt _ (by omega)
    obtain ⟨y,hy⟩ := at_ix hql
    have c := hp 2
    have ye := getD_of (d := (⟨0,0,0,0⟩ : P4)) hy
    have h1 := hld 2
    have h2 := hcF 2
    have h3 := htF 2
    have h4 := hrF 2
    rw [getD_of hx] at h1
    have cw := c.w
    have c27 := c.e27
    have c28 := c.e28
    have ckn := c.kn
    rw [ye] at h2 h3 c27 c28 ckn
    have yok := hfo y (List.mem_of_getElem? hy)
    obtain ⟨e,he⟩ := at_ix (l := (p 2).2.2) (i := (p 2).1) (by rw [ckn.1]; exact cw)
    have en := ckn.2 _ e he
    exact round4c2 (us := us) (ld := ld) (cF := cF) (tF := tF) (rF' := rF') (fs := fs) (ls := ls) hN hy hqm hf0 hx (hlo x (List.mem_of_getElem? hx)) (w26 yok) c27 c28 (aL_len 6 _) ckn.1 cw (c := swF y (p 2).1) (aL_get cw) he en.1 en.2 h1 h2 h3 h4 (by omega)
  have st3 : headX 0 [0,1,5,7,8,9,10,11] (execW progX 4 0 none (match x4l1 with | .loop _ a => a | c => c) (envL [0,1,5,7,8,9,10,11] [rF fs,rF ls,.pt 0 0,.pt 1 0,.sl 8 0 1 3,.sl 9 0 1 3,.sl 10 0 1 3,I 3]) (hC3 us ld cF tF rF')) = some ([rF fs,rF ls,.pt 0 0,.pt 1 0,.sl 9 0 1 4,.sl 10 0 1 4,.sl 11 0 1 4,I 4],hC4 us ld cF tF rF') := by
    have hi : 3 < ls.length := by omega
    obtain ⟨x,hx⟩ := at_ix hi
    have hqm : tmZ 3 (fs.length : Int) = ((3 % fs.length : Nat) : Int) := tmod_n 3 fs.length
    have hql : 3 % fs.length < fs.length := Nat.mod_lt _ (by omega)
    obtain ⟨y,hy⟩ := at_ix hql
    have c := hp 3
    have ye := getD_of (d := (⟨0,0,0,0⟩ : P4)) hy
    have h1 := hld 3
    have h2 := hcF 3
    have h3 := htF 3
    have h4 := hrF 3
    rw [getD_of hx] at h1
    have cw := c.w
    have c27 := c.e27
    have c28 := c.e28
    have ckn := c.kn
    rw [ye] at h2 h3 c27 c28 ckn
    have yok := hfo y (List.mem_of_getElem? hy)
    obtain ⟨e,he⟩ := at_ix (l := (p 3).2.2) (i := (p 3).1) (by rw [ckn.1]; exact cw)
    have en := ckn.2 _ e he
    exact round4c3 (us := us) (ld := ld) (cF := cF) (tF := tF) (rF' := rF') (fs := fs) (ls := ls) hN hy hqm hf0 hx (hlo x (List.mem_of_getElem? hx)) (w26 yok) c27 c28 (aL_len 6 _) ckn.1 cw (c := swF y (p 3).1) (aL_get cw) he en.1 en.2 h1 h2 h3 h4
  obtain ⟨SS,hS⟩ : ∃ SS : Nat → List AV,SS 0 = [rF fs,rF ls,.pt 0 0,.pt 1 0,.nilsl,.nilsl,.nilsl,I 0] ∧ SS 1 = [rF fs,rF ls,.pt 0 0,.pt 1 0,.sl 6 0 1 1,.sl 7 0 1 1,.sl 8 0 1 1,I 1] ∧ SS 2 = [rF fs,rF ls,.pt 0 0,.pt 1 0,.sl 8 0 1 2,.sl 9 0 1 2,.sl 10 0 1 2,I 2] ∧ SS 3 = [rF fs,rF ls,.pt 0 0,.pt 1 0,.sl 8 0 1 3,.sl 9 0 1 3,.sl 10 0 1 3,I 3] ∧ SS 4 = [rF fs,rF ls,.pt 0 0,.pt 1 0,.sl 9 0 1 4,.sl 10 0 1 4,.sl 11 0 1 4,I 4] := ⟨fun i => match i with | 0 => [rF fs,rF ls,.pt 0 0,.pt 1 0,.nilsl,.nilsl,.nilsl,I 0] | 1 => [rF fs,rF ls,.pt 0 0,.pt 1 0,.sl 6 0 1 1,.sl 7 0 1 1,.sl 8 0 1 1,I 1] | 2 => [rF fs,rF ls,.pt 0 0,.pt 1 0,.sl 8 0 1 2,.sl 9 0 1 2,.sl 10 0 1 2,I 2] | 3 => [rF fs,rF ls,.pt 0 0,.pt 1 0,.sl 8 0 1 3,.sl 9 0 1 3,.sl 10 0 1 3,I 3] | 4 => [rF fs,rF ls,.pt 0 0,.pt 1 0,.sl 9 0 1 4,.sl 10 0 1 4,.sl 11 0 1 4,I 4] | _ => [],⟨rfl,rfl,rfl,rfl,rfl⟩⟩
  obtain ⟨GG,hG⟩ : ∃ GG : Nat → XH,GG 0 = hC0 us ld cF tF rF' ∧ GG 1 = hC1 us ld cF tF rF' ∧ GG 2 = hC2 us ld cF tF rF' ∧ GG 3 = hC3 us ld cF tF rF' ∧ GG 4 = hC4 us ld cF tF rF' := ⟨fun i => match i with | 0 => hC0 us ld cF tF rF' | 1 => hC1 us ld cF tF rF' | 2 => hC2 us ld cF tF rF' | 3 => hC3 us ld cF tF rF' | 4 => hC4 us ld cF tF rF' | _ => [],⟨rfl,rfl,rfl,rfl,rfl⟩⟩
  obtain ⟨S0,S1,S2,S3,S4⟩ := hS
  obtain ⟨G0,G1,G2,G3,G4⟩ := hG
  have rd : ∀ i,i < 4 → headX 0 [0,1,5,7,8,9,10,11] (execW progX 4 0 none (match x4l1 with | .loop _ a => a | c => c) (envL [0,1,5,7,8,9,10,11] (SS i)) (GG i)) = some (SS (i + 1),GG (i + 1)) := by
    intro i hi
    have hc : i = 0 ∨ i = 1 ∨ i = 2 ∨ i = 3 := by omega
    rcases hc with rfl | rfl | rfl | rfl
    · rw [S0,G0,S1,G1]; exact st0
    · rw [S1,G1,S2,G2]; exact st1
    · rw [S2,G2,S3,G3]; exact st2
    · rw [S3,G3,S4,G4]; exact st3
  have a0 : ((4 : Int) < (ls.length : Int)) = False ∨ ((4 : Int) < (ls.length : Int)) = True := by
    by_cases h : (4 : Int) < (ls.length : Int)
    · exact .inr (eq_true h)
    · exact .inl (eq_false h)
  have hf5 : ¬ (4 : Int) < (ls.length : Int) := by omega
  clear st0 st1 st2 st3 hb hld hcF htF hrF hp hms bv bw ck ff hr
  generalize msN (lnT ld 4) (ofN (bestO (lnT ld 4))) (ofN (bestO (lnT ld 4))).length = mw at *
  generalize ofN (bestO (lnT ld 4)) = oo at *
  rw [r4 (by simp)]; unfold x4; dsimp only
  sym =>
    simp [irem2,iquo2,remF,Za,Zb,Zc,Zd,Ze,Zf,Zg,Zh,Zj,Zl,Zm,Zn,Zo,Zq,Zr,Zt,Zu,Zv,Zw,Zx,Zy,Zz,Z1,Z5,ZA,ZB,ZD,ZH,ZI,ZL,ZM,ZQ,ZR,ZT,ZX,ZZ,Yg,Yo,Yp,Yq,Y3,YB,YO,YQ,YR,YT,YV,YX,YY,Xc,Xe,Xf,Xg,Xh,Xk,Xo,Xp,Xq,Xr,Xs,Xt,Xu,Xy,X0,XI,XM,XU,XX,XY,XZ,Wd,Wg,Wn,Wo,Wp,Wq,Wz,W0,W3,W4,W5,W6,W7,W8,W9,WA,WB,WC,WE,WF,WG,WI,WJ,WK,WL,WM,WN,WO,WP,WQ,WR,WS,WT,WU,WW,WX,Vc,Vf,Vg,Vh,Vi,Vp,Vq,Vr,Vs,Vt,Vu,Vv,Vx,Vy,Vz,V0,V1,V2,V3,V4,V6,V7,V9,VA,VB,VC,VD,VG,VH,VI,VJ,VL,VM,VN,VO,VP,VR,VS,VU,VV,VW,VX,VY,VZ,Ub,Uc,Ud,Ue,Ug,Uj,Ul,Um,Us,Uu,Uw,Ux,Uy,Uz,U0,U1,U2,U3,U4,U5,U6,U7,U8,U9,UA,UB,UC,UD,UE,UF,UG,UH,UK,UL,UM,UN,UO,UP,UX,UY,UZ,Tc,Td,Te,Tf,Ti,Tn,Tp,Tq,Tr,Ts,Tt,Tu,Tv,Tz,T0,T1,T2,T6,TA,TB,TC,TD,TE,TF,TG,TH,Sg,Si,Sj,Sk,Sl,Sy,Sz,S6,c1,e25]
    tactic =>
      unfold x4l1
      rw [loop_rule 4 SS GG]
      · rw [S4,G4]
        rw [lc] at e29
        have a0 := eq_false hf5
        sym =>
          simp [irem2,iquo2,remF,Za,Zb,Zc,Zd,Ze,Zf,Zg,Zh,Zj,Zl,Zm,Zn,Zo,Zq,Zr,Zt,Zu,Zv,Zw,Zx,Zy,Zz,Z1,Z5,ZA,ZB,ZD,ZH,ZI,ZL,ZM,ZQ,ZR,ZT,ZX,ZZ,Yg,Yo,Yp,Yq,Y3,YB,YO,YQ,YR,YT,YV,YX,YY,Xc,Xe,Xf,Xg,Xh,Xk,Xo,Xp,Xq,Xr,Xs,Xt,Xu,Xy,X0,XI,XM,XU,XX,XY,XZ,Wd,Wg,Wn,Wo,Wp,Wq,Wz,W0,W3,W4,W5,W6,W7,W8,W9,WA,WB,WC,WE,WF,WG,WI,WJ,WK,WL,WM,WN,WO,WP,WQ,WR,WS,WT,WU,WW,WX,Vc,Vf,Vg,Vh,Vi,Vp,Vq,Vr,Vs,Vt,Vu,Vv,Vx,Vy,Vz,V0,V1,V2,V3,V4,V6,V7,V9,VA,VB,VC,VD,VG,VH,VI,VJ,VL,VM,VN,VO,VP,VR,VS,VU,VV,VW,VX,VY,VZ,Ub,Uc,Ud,Ue,Ug,Uj,Ul,Um,Us,Uu,Uw,Ux,Uy,Uz,U0,U1,U2,U3,U4,U5,U6,U7,U8,U9,UA,UB,UC,UD,UE,UF,UG,UH,UK,UL,UM,UN,UO,UP,UX,UY,UZ,Tc,Td,Te,Tf,Ti,Tn,Tp,Tq,Tr,Ts,Tt,Tu,Tv,Tz,T0,T1,T2,T6,TA,TB,TC,TD,TE,TF,TG,TH,Sg,Si,Sj,Sk,Sl,Sy,Sz,S6,a0,e29,w0,hol]
          tactic =>
            unfold x4l3
            rw [loop_rule oo.length (fun i => [.pt 0 0,.sl 1 0 1 4,.sl 2 0 1 4,.sl 3 0 1 4,I mw,cl30,I (nowT us (lnT ld 4) oo i),rI oo,I oo.length,I (i : Nat)]) (fun _ => hT4 (lnT ld 4).c (aL 4 cF) (aL 4 tF) (aL 4 rF') us)]
            · (sym => (simp [irem2,iquo2,remF,Za,Zb,Zc,Zd,Ze,Zf,Zg,Zh,Zj,Zl,Zm,Zn,Zo,Zq,Zr,Zt,Zu,Zv,Zw,Zx,Zy,Zz,Z1,Z5,ZA,ZB,ZD,ZH,ZI,ZL,ZM,ZQ,ZR,ZT,ZX,ZZ,Yg,Yo,Yp,Yq,Y3,YB,YO,YQ,YR,YT,YV,YX,YY,Xc,Xe,Xf,Xg,Xh,Xk,Xo,Xp,Xq,Xr,Xs,Xt,Xu,Xy,X0,XI,XM,XU,XX,XY,XZ,Wd,Wg,Wn,Wo,Wp,Wq,Wz,W0,W3,W4,W5,W6,W7,W8,W9,WA,WB,WC,WE,WF,WG,WI,WJ,WK,WL,WM,WN,WO,WP,WQ,WR,WS,WT,WU,WW,WX,Vc,Vf,Vg,Vh,Vi,Vp,Vq,Vr,Vs,Vt,Vu,Vv,Vx,Vy,Vz,V0,V1,V2,V3,V4,V6,V7,V9,VA,VB,VC,VD,VG,VH,VI,VJ,VL,VM,VN,VO,VP,VR,VS,VU,VV,VW,VX,VY,VZ,Ub,Uc,Ud,Ue,Ug,Uj,Ul,Um,Us,Uu,Uw,Ux,Uy,Uz,U0,U1,U2,U3,U4,U5,U6,U7,U8,U9,UA,UB,UC,UD,UE,UF,UG,UH,UK,UL,UM,UN,UO,UP,UX,UY,UZ,Tc,Td,Te,Tf,Ti,Tn,Tp,Tq,Tr,Ts,Tt,Tu,Tv,Tz,T0,T1,T2,T6,TA,TB,TC,TD,TE,TF,TG,TH,Sg,Si,Sj,Sk,Sl,Sy,Sz,S6,z,crushed_w]; all_goals tactic => exact rfl))
            · show _ = some (_,([some (.blk true (.cells true [.fs [[.fs [[I 30,I 100],[I 120,I 300],[I 400,I 900]]],[.fs [[I 200,I 50]]]],.fs [[I (ld 0).k,I (ld 0).al,I (ld 0).ah,I (ld 0).cl,I (ld 0).ch],[I (ld 1).k,I (ld 1).al,I (ld 1).ah,I (ld 1).cl,I (ld 1).ch],[I (ld 2).k,I (ld 2).al,I (ld 2).ah,I (ld 2).cl,I (ld 2).ch],[I (ld 3).k,I (ld 3).al,I (ld 3).ah,I (ld 3).cl,I (ld 3).ch]],.fs [[.fs [[I 0],[I 1]]],[.fs [[I 2],[I 3]]]],I 0,I 20])),some (.blk true (.cells true [I (cF 0),I (cF 1),I (cF 2),I (cF 3)])),some (.blk true (.cells true [I (tF 0),I (tF 1),I (tF 2),I (tF 3)])),some (.blk true (.cells true [I (rF' 0),I (rF' 1),I (rF' 2),I (rF' 3)])),cB8 us] : XH))
              (sym => (simp [irem2,iquo2,remF,Za,Zb,Zc,Zd,Ze,Zf,Zg,Zh,Zj,Zl,Zm,Zn,Zo,Zq,Zr,Zt,Zu,Zv,Zw,Zx,Zy,Zz,Z1,Z5,ZA,ZB,ZD,ZH,ZI,ZL,ZM,ZQ,ZR,ZT,ZX,ZZ,Yg,Yo,Yp,Yq,Y3,YB,YO,YQ,YR,YT,YV,YX,YY,Xc,Xe,Xf,Xg,Xh,Xk,Xo,Xp,Xq,Xr,Xs,Xt,Xu,Xy,X0,XI,XM,XU,XX,XY,XZ,Wd,Wg,Wn,Wo,Wp,Wq,Wz,W0,W3,W4,W5,W6,W7,W8,W9,WA,WB,WC,WE,WF,WG,WI,WJ,WK,WL,WM,WN,WO,WP,WQ,WR,WS,WT,WU,WW,WX,Vc,Vf,Vg,Vh,Vi,Vp,Vq,Vr,Vs,Vt,Vu,Vv,Vx,Vy,Vz,V0,V1,V2,V3,V4,V6,V7,V9,VA,VB,VC,VD,VG,VH,VI,VJ,VL,VM,VN,VO,VP,VR,VS,VU,VV,VW,VX,VY,VZ,Ub,Uc,Ud,Ue,Ug,Uj,Ul,Um,Us,Uu,Uw,Ux,Uy,Uz,U0,U1,U2,U3,U4,U5,U6,U7,U8,U9,UA,UB,UC,UD,UE,UF,UG,UH,UK,UL,UM,UN,UO,UP,UX,UY,UZ,Tc,Td,Te,Tf,Ti,Tn,Tp,Tq,Tr,Ts,Tt,Tu,Tv,Tz,T0,T1,T2,T6,TA,TB,TC,TD,TE,TF,TG,TH,Sg,Si,Sj,Sk,Sl,Sy,Sz,S6,hol]; all_goals tactic => exact rfl))
            · exact rd3
            · (sym => (simp [irem2,iquo2,remF,Za,Zb,Zc,Zd,Ze,Zf,Zg,Zh,Zj,Zl,Zm,Zn,Zo,Zq,Zr,Zt,Zu,Zv,Zw,Zx,Zy,Zz,Z1,Z5,ZA,ZB,ZD,ZH,ZI,ZL,ZM,ZQ,ZR,ZT,ZX,ZZ,Yg,Yo,Yp,Yq,Y3,YB,YO,YQ,YR,YT,YV,YX,YY,Xc,Xe,Xf,Xg,Xh,Xk,Xo,Xp,Xq,Xr,Xs,Xt,Xu,Xy,X0,XI,XM,XU,XX,XY,XZ,Wd,Wg,Wn,Wo,Wp,Wq,Wz,W0,W3,W4,W5,W6,W7,W8,W9,WA,WB,WC,WE,WF,WG,WI,WJ,WK,WL,WM,WN,WO,WP,WQ,WR,WS,WT,WU,WW,WX,Vc,Vf,Vg,Vh,Vi,Vp,Vq,Vr,Vs,Vt,Vu,Vv,Vx,Vy,Vz,V0,V1,V2,V3,V4,V6,V7,V9,VA,VB,VC,VD,VG,VH,VI,VJ,VL,VM,VN,VO,VP,VR,VS,VU,VV,VW,VX,VY,VZ,Ub,Uc,Ud,Ue,Ug,Uj,Ul,Um,Us,Uu,Uw,Ux,Uy,Uz,U0,U1,U2,U3,U4,U5,U6,U7,U8,U9,UA,UB,UC,UD,UE,UF,UG,UH,UK,UL,UM,UN,UO,UP,UX,UY,UZ,Tc,Td,Te,Tf,Ti,Tn,Tp,Tq,Tr,Ts,Tt,Tu,Tv,Tz,T0,T1,T2,T6,TA,TB,TC,TD,TE,TF,TG,TH,Sg,Si,Sj,Sk,Sl,Sy,Sz,S6,z]; all_goals tactic => exact rfl))
      · rw [S0,G0]
        (sym => (simp [irem2,iquo2,remF,Za,Zb,Zc,Zd,Ze,Zf,Zg,Zh,Zj,Zl,Zm,Zn,Zo,Zq,Zr,Zt,Zu,Zv,Zw,Zx,Zy,Zz,Z1,Z5,ZA,ZB,ZD,ZH,ZI,ZL,ZM,ZQ,ZR,ZT,ZX,ZZ,Yg,Yo,Yp,Yq,Y3,YB,YO,YQ,YR,YT,YV,YX,YY,Xc,Xe,Xf,Xg,Xh,Xk,Xo,Xp,Xq,Xr,Xs,Xt,Xu,Xy,X0,XI,XM,XU,XX,XY,XZ,Wd,Wg,Wn,Wo,Wp,Wq,Wz,W0,W3,W4,W5,W6,W7,W8,W9,WA,WB,WC,WE,WF,WG,WI,WJ,WK,WL,WM,WN,WO,WP,WQ,WR,WS,WT,WU,WW,WX,Vc,Vf,Vg,Vh,Vi,Vp,Vq,Vr,Vs,Vt,Vu,Vv,Vx,Vy,Vz,V0,V1,V2,V3,V4,V6,V7,V9,VA,VB,VC,VD,VG,VH,VI,VJ,VL,VM,VN,VO,VP,VR,VS,VU,VV,VW,VX,VY,VZ,Ub,Uc,Ud,Ue,Ug,Uj,Ul,Um,Us,Uu,Uw,Ux,Uy,Uz,U0,U1,U2,U3,U4,U5,U6,U7,U8,U9,UA,UB,UC,UD,UE,UF,UG,UH,UK,UL,UM,UN,UO,UP,UX,UY,UZ,Tc,Td,Te,Tf,Ti,Tn,Tp,Tq,Tr,Ts,Tt,Tu,Tv,Tz,T0,T1,T2,T6,TA,TB,TC,TD,TE,TF,TG,TH,Sg,Si,Sj,Sk,Sl,Sy,Sz,S6]; all_goals tactic => exact rfl))
      · exact rd
      · rw [S4,G4]
        have a0 := eq_false hf5
        (sym => (simp [irem2,iquo2,remF,Za,Zb,Zc,Zd,Ze,Zf,Zg,Zh,Zj,Zl,Zm,Zn,Zo,Zq,Zr,Zt,Zu,Zv,Zw,Zx,Zy,Zz,Z1,Z5,ZA,ZB,ZD,ZH,ZI,ZL,ZM,ZQ,ZR,ZT,ZX,ZZ,Yg,Yo,Yp,Yq,Y3,YB,YO,YQ,YR,YT,YV,YX,YY,Xc,Xe,Xf,Xg,Xh,Xk,Xo,Xp,Xq,Xr,Xs,Xt,Xu,Xy,X0,XI,XM,XU,XX,XY,XZ,Wd,Wg,Wn,Wo,Wp,Wq,Wz,W0,W3,W4,W5,W6,W7,W8,W9,WA,WB,WC,WE,WF,WG,WI,WJ,WK,WL,WM,WN,WO,WP,WQ,WR,WS,WT,WU,WW,WX,Vc,Vf,Vg,Vh,Vi,Vp,Vq,Vr,Vs,Vt,Vu,Vv,Vx,Vy,Vz,V0,V1,V2,V3,V4,V6,V7,V9,VA,VB,VC,VD,VG,VH,VI,VJ,VL,VM,VN,VO,VP,VR,VS,VU,VV,VW,VX,VY,VZ,Ub,Uc,Ud,Ue,Ug,Uj,Ul,Um,Us,Uu,Uw,Ux,Uy,Uz,U0,U1,U2,U3,U4,U5,U6,U7,U8,U9,UA,UB,UC,UD,UE,UF,UG,UH,UK,UL,UM,UN,UO,UP,UX,UY,UZ,Tc,Td,Te,Tf,Ti,Tn,Tp,Tq,Tr,Ts,Tt,Tu,Tv,Tz,T0,T1,T2,T6,TA,TB,TC,TD,TE,TF,TG,TH,Sg,Si,Sj,Sk,Sl,Sy,Sz,S6,a0]; all_goals tactic => exact rfl))
theorem top5 (hfo : ∀ x ∈ fs,x.Ok) (hlo : ∀ x ∈ ls,x.Ok) (hN : ls.length ≤ 9223372036854775807) (hf0 : fs.length ≠ 0) (hu : ∀ v ∈ us,v < 256) (hul : us.length ≤ maxLen) (hm : 5 ≤ ls.length) : runW progX 4 [rF fs,rF ls,.fs (us.map fun v => [B8 v])] [] = some (.bool true,[]) := by
  obtain ⟨p,hp⟩ := cho hfo
  obtain ⟨ld,hld⟩ : ∃ ld : Nat → Ld,∀ i,ld i = ldQ (ls.getD i ⟨0,0,0,0⟩) := ⟨_,fun _ => rfl⟩
  obtain ⟨cF,hcF⟩ : ∃ cF : Nat → Int,∀ i,cF i = swF (fs.getD (i % fs.length) ⟨0,0,0,0⟩) (p i).1 := ⟨_,fun _ => rfl⟩
  obtain ⟨tF,htF⟩ : ∃ tF : Nat → Int,∀ i,tF i = tpN (aL 6 (swF (fs.getD (i % fs.length) ⟨0,0,0,0⟩))) 6 := ⟨_,fun _ => rfl⟩
  obtain ⟨rF',hrF⟩ : ∃ rF' : Nat → Int,∀ i,rF' i = (p i).2.1 := ⟨_,fun _ => rfl⟩
  obtain ⟨ck,ff,ll⟩ := lnT_ok (ld := ld) (fun i => ⟨_,p4_at hlo i,hld i⟩) (m := 5) (by decide)
  have g := good_of ck
  obtain ⟨bv,bw⟩ := best_vld g
  have hr := ord_ok g ck bv
  have hms : msN (lnT ld 5) (ofN (bestO (lnT ld 5))) (ofN (bestO (lnT ld 5))).length = minW (lnT ld 5) := by rw [← worst_ms hr,worst_ord g ck bv,bw]
  have e29 := w29 _ ff
  unfold bestR at e29
  rw [if_pos ck,← hms] at e29
  have hol : (ofN (bestO (lnT ld 5))).length = 5 := by rw [(runE_len hr).2.1,ll]
  have c1 : ((fs.length : Int) = 0) = False := eq_false (by omega)
  have e25 := w25 0 20
  have lc : (lnT ld 5).c = [.fs [[.fs [[I 30,I 100],[I 120,I 300],[I 400,I 900]]],[.fs [[I 200,I 50]]]],.fs [[I (ld 0).k,I (ld 0).al,I (ld 0).ah,I (ld 0).cl,I (ld 0).ch],[I (ld 1).k,I (ld 1).al,I (ld 1).ah,I (ld 1).cl,I (ld 1).ch],[I (ld 2).k,I (ld 2).al,I (ld 2).ah,I (ld 2).cl,I (ld 2).ch],[I (ld 3).k,I (ld 3).al,I (ld 3).ah,I (ld 3).cl,I (ld 3).ch],[I (ld 4).k,I (ld 4).al,I (ld 4).ah,I (ld 4).cl,I (ld 4).ch]],.fs [[.fs [[I 0],[I 1]]],[.fs [[I 2],[I 3]]],[.fs [[I 4]]]],I 0,I 20] := rfl
  have w0 : runW progX 30 [I 0,.agg [I 0,I 20],.pt 0 0] [cB8 us] = some (I (nowT us (lnT ld 5) (ofN (bestO (lnT ld 5))) 0),[cB8 us]) := w30 hu hul (i := 0) (by omega) (a := 0) (b := 20) (by omega) (by omega) (by omega)
  have hcs : (aL 5 cF).map I = [I (cF 0),I (cF 1),I (cF 2),I (cF 3),I (cF 4)] := rfl
  have hts : (aL 5 tF).map I = [I (tF 0),I (tF 1),I (tF 2),I (tF 3),I (tF 4)] := rfl
  have hrs : (aL 5 rF').map I = [I (rF' 0),I (rF' 1),I (rF' 2),I (rF' 3),I (rF' 4)] := rfl
  have hb : ∀ (k : Nat) (c t r : Int),(aL 5 cF)[k]? = some c → (aL 5 tF)[k]? = some t → (aL 5 rF')[k]? = some r → t - c ≤ r ∧ (-1000000000 ≤ c ∧ c ≤ 1000000000) ∧ (-1000000000 ≤ t ∧ t ≤ 1000000000) ∧ (-2000000000 ≤ r ∧ r ≤ 2000000000) := by
    intro k c t r h1 h2 h3
    have hk : k < 5 := by have := lt_of h1; rw [aL_len] at this; exact this
    rw [aL_get hk] at h1 h2 h3
    obtain rfl := Option.some.inj h1
    obtain rfl := Option.some.inj h2
    obtain rfl := Option.some.inj h3
    rw [hcF,htF,hrF]
    have ok := p4_at hfo (k % fs.length)
    have hc := hp k
    have b1 := sw_bd ok (p k).1 hc.w
    have tp := tp_le (sw := aL 6 (swF (fs.getD (k % fs.length) ⟨0,0,0,0⟩))) (c := swF (fs.getD (k % fs.length) ⟨0,0,0,0⟩) (p k).1) (r := (p k).2.1) (by rw [aL_len]; decide) (fun j v hv => by
      have hj : j < 6 := by have := lt_of hv; rw [aL_len] at this; exact this
      rw [aL_get hj] at hv
      obtain rfl := Option.some.inj hv
      have := sw_bd ok j hj
      exact ⟨hc.r j hj,by omega,by omega⟩) 6 (by rw [aL_len]; exact Nat.le_refl _)
    have := hc.bd
    exact ⟨tp.1,by omega,by omega,this⟩
  have rd3 := fun i (hi : i < (ofN (bestO (lnT ld 5))).length) => round4d hu hul g hr (cs := aL 5 cF) (ts := aL 5 tF) (rs := aL 5 rF') (by rw [aL_len,ll]) (by rw [aL_len,ll]) (by rw [aL_len,ll]) hb hi
  rw [ll] at rd3
  have z := UX (n := ((ofN (bestO (lnT ld 5))).length : Int))
  have st0 : headX 0 [0,1,5,7,8,9,10,11] (execW progX 4 0 none (match x4l1 with | .loop _ a => a | c => c) (envL [0,1,5,7,8,9,10,11] [rF fs,rF ls,.pt 0 0,.pt 1 0,.nilsl,.nilsl,.nilsl,I 0]) (hC0 us ld cF tF rF')) = some ([rF fs,rF ls,.pt 0 0,.pt 1 0,.sl 6 0 1 1,.sl 7 0 1 1,.sl 8 0 1 1,I 1],hC1 us ld cF tF rF') := by
    have hi : 0 < ls.length := by omega
    obtain ⟨x,hx⟩ := at_ix hi
    have hqm : tmZ 0 (fs.length : Int) = ((0 % fs.length : Nat) : Int) := tmod_n 0 fs.length
    have hql : 0 % fs.length < fs.length := Nat.mod_lt _ (by omega)
    obtain ⟨y,hy⟩ := at_ix hql
    have c := hp 0
    have ye := getD_of (d := (⟨0,0,0,0⟩ : P4)) hy
    have h1 := hld 0
    have h2 := hcF 0
    have h3 := htF 0
    have h4 := hrF 0
    rw [getD_of hx] at h1
    have cw := c.w
    have c27 := c.e27
    have c28 := c.e28
    have ckn := c.kn
    rw [ye] at h2 h3 c27 c28 ckn
    have yok := hfo y (List.mem_of_getElem? hy)
    obtain ⟨e,he⟩ := at_ix (l := (p 0).2.2) (i := (p 0).1) (by rw [ckn.1]; exact cw)
    have en := ckn.2 _ e he
    exact round4c0 (us := us) (ld := ld) (cF := cF) (tF := tF) (rF' := rF') (fs := fs) (ls := ls) hN hy hqm hf0 hx (hlo x (List.mem_of_getElem? hx)) (w26 yok) c27 c28 (aL_len 6 _) ckn.1 cw (c := swF y (p 0).1) (aL_get cw) he en.1 en.2 h1 h2 h3 h4 (by omega)
  have st1 : headX 0 [0,1,5,7,8,9,10,11] (execW progX 4 0 none (match x4l1 with | .loop _ a => a | c => c) (envL [0,1,5,7,8,9,10,11] [rF fs,rF ls,.pt 0 0,.pt 1 0,.sl 6 0 1 1,.sl 7 0 1 1,.sl 8 0 1 1,I 1]) (hC1 us ld cF tF rF')) = some ([rF fs,rF ls,.pt 0 0,.pt 1 0,.sl 8 0 1 2,.sl 9 0 1 2,.sl 10 0 1 2,I 2],hC2 us ld cF tF rF') := by
    have hi : 1 < ls.length := by omega
    obtain ⟨x,hx⟩ := at_ix hi
    have hqm : tmZ 1 (fs.length : Int) = ((1 % fs.length : Nat) : Int) := tmod_n 1 fs.length
    have hql : 1 % fs.length < fs.length := Nat.mod_lt _ (by omega)
    obtain ⟨y,hy⟩ := at_ix hql
    have c := hp 1
    have ye := getD_of (d := (⟨0,0,0,0⟩ : P4)) hy
    have h1 := hld 1
    have h2 := hcF 1
    have h3 := htF 1
    have h4 := hrF 1
    rw [getD_of hx] at h1
    have cw := c.w
    have c27 := c.e27
    have c28 := c.e28
    have ckn := c.kn
    rw [ye] at h2 h3 c27 c28 ckn
    have yok := hfo y (List.mem_of_getElem? hy)
    obtain ⟨e,he⟩ := at_ix (l := (p 1).2.2) (i := (p 1).1) (by rw [ckn.1]; exact cw)
    have en := ckn.2 _ e he
    exact round4c1 (us := us) (ld := ld) (cF := cF) (tF := tF) (rF' := rF') (fs := fs) (ls := ls) hN hy hqm hf0 hx (hlo x (List.mem_of_getElem? hx)) (w26 yok) c27 c28 (aL_len 6 _) ckn.1 cw (c := swF y (p 1).1) (aL_get cw) he en.1 en.2 h1 h2 h3 h4
  have st2 : headX 0 [0,1,5,7,8,9,10,11] (execW progX 4 0 none (match x4l1 with | .loop _ a => a | c => c) (envL [0,1,5,7,8,9,10,11] [rF fs,rF ls,.pt 0 0,.pt 1 0,.sl 8 0 1 2,.sl 9 0 1 2,.sl 10 0 1 2,I 2]) (hC2 us ld cF tF rF')) = some ([rF fs,rF ls,.pt 0 0,.pt 1 0,.sl 8 0 1 3,.sl 9 0 1 3,.sl 10 0 1 3,I 3],hC3 us ld cF tF rF') := by
    have hi : 2 < ls.length := by omega
    obtain ⟨x,hx⟩ := at_ix hi
    have hqm : tmZ 2 (fs.length : Int) = ((2 % fs.length : Nat) : Int) := tmod_n 2 fs.length
    have hql : 2 % fs.length < fs.length := Nat.mod_lt _ (by omega)
    obtain ⟨y,hy⟩ := at_ix hql
    have c := hp 2
    have ye := getD_of (d := (⟨0,0,0,0⟩ : P4)) hy
    have h1 := hld 2
    have h2 := hcF 2
    have h3 := htF 2
    have h4 := hrF 2
    rw [getD_of hx] at h1
    have cw := c.w
    have c27 := c.e27
    have c28 := c.e28
    have ckn := c.kn
    rw [ye] at h2 h3 c27 c28 ckn
    have yok := hfo y (List.mem_of_getElem? hy)
    obtain ⟨e,he⟩ := at_ix (l := (p 2).2.2) (i := (p 2).1) (by rw [ckn.1]; exact cw)
    have en := ckn.2 _ e he
    exact round4c2 (us := us) (ld := ld) (cF := cF) (tF := tF) (rF' := rF') (fs := fs) (ls := ls) hN hy hqm hf0 hx (hlo x (List.mem_of_getElem? hx)) (w26 yok) c27 c28 (aL_len 6 _) ckn.1 cw (c := swF y (p 2).1) (aL_get cw) he en.1 en.2 h1 h2 h3 h4 (by omega)
  have st3 : headX 0 [0,1,5,7,8,9,10,11] (execW progX 4 0 none (match x4l1 with | .loop _ a => a | c => c) (envL [0,1,5,7,8,9,10,11] [rF fs,rF ls,.pt 0 0,.pt 1 0,.sl 8 0 1 3,.sl 9 0 1 3,.sl 10 0 1 3,I 3]) (hC3 us ld cF tF rF')) = some ([rF fs,rF ls,.pt 0 0,.pt 1 0,.sl 9 0 1 4,.sl 10 0 1 4,.sl 11 0 1 4,I 4],hC4 us ld cF tF rF') := by
    have hi : 3 < ls.length := by omega
    obtain ⟨x,hx⟩ := at_ix hi
    have hqm : tmZ 3 (fs.length : Int) = ((3 % fs.length : Nat) : Int) := tmod_n 3 fs.length
    have hql : 3 % fs.length < fs.length := Nat.mod_lt _ (by omega)
    obtain ⟨y,hy⟩ := at_ix hql
    have c := hp 3
    have ye := getD_of (d := (⟨0,0,0,0⟩ : P4)) hy
    have h1 := hld 3
    have h2 := hcF 3
    have h3 := htF 3
    have h4 := hrF 3
    rw [getD_of hx] at h1
    have cw := c.w
    have c27 := c.e27
    have c28 := c.e28
    have ckn := c.kn
    rw [ye] at h2 h3 c27 c28 ckn
    have yok := hfo y (List.mem_of_getElem? hy)
    obtain ⟨e,he⟩ := at_ix (l := (p 3).2.2) (i := (p 3).1) (by rw [ckn.1]; exact cw)
    have en := ckn.2 _ e he
    exact round4c3 (us := us) (ld := ld) (cF := cF) (tF := tF) (rF' := rF') (fs := fs) (ls := ls) hN hy hqm hf0 hx (hlo x (List.mem_of_getElem? hx)) (w26 yok) c27 c28 (aL_len 6 _) ckn.1 cw (c := swF y (p 3).1) (aL_get cw) he en.1 en.2 h1 h2 h3 h4
  have st4 : headX 0 [0,1,5,7,8,9,10,11] (execW progX 4 0 none (match x4l1 with | .loop _ a => a | c => c) (envL [0,1,5,7,8,9,10,11] [rF fs,rF ls,.pt 0 0,.pt 1 0,.sl 9 0 1 4,.sl 10 0 1 4,.sl 11 0 1 4,I 4]) (hC4 us ld cF tF rF')) = some ([rF fs,rF ls,.pt 0 0,.pt 1 0,.sl 10 0 1 5,.sl 11 0 1 5,.sl 12 0 1 5,I 5],hC5z us ld cF tF rF') := by
    have hi : 4 < ls.length := by omega
    obtain ⟨x,hx⟩ := at_ix hi
    have hqm : tmZ 4 (fs.length : Int) = ((4 % fs.length : Nat) : Int) := tmod_n 4 fs.length
    have hql : 4 % fs.length < fs.length := Nat.mod_lt _ (by omega)
    obtain ⟨y,hy⟩ := at_ix hql
    have c := hp 4
    have ye := getD_of (d := (⟨0,0,0,0⟩ : P4)) hy
    have h1 := hld 4
    have h2 := hcF 4
    have h3 := htF 4
    have h4 := hrF 4
    rw [getD_of hx] at h1
    have cw := c.w
    have c27 := c.e27
    have c28 := c.e28
    have ckn := c.kn
    rw [ye] at h2 h3 c27 c28 ckn
    have yok := hfo y (List.mem_of_getElem? hy)
    obtain ⟨e,he⟩ := at_ix (l := (p 4).2.2) (i := (p 4).1) (by rw [ckn.1]; exact cw)
    have en := ckn.2 _ e he
    exact round4c4z (us := us) (ld := ld) (cF := cF) (tF := tF) (rF' := rF') (fs := fs) (ls := ls) hN hy hqm hf0 hx (hlo x (List.mem_of_getElem? hx)) (w26 yok) c27 c28 (aL_len 6 _) ckn.1 cw (c := swF y (p 4).1) (aL_get cw) he en.1 en.2 h1 h2 h3 h4
  obtain ⟨SS,hS⟩ : ∃ SS : Nat → List AV,SS 0 = [rF fs,rF ls,.pt 0 0,.pt 1 0,.nilsl,.nilsl,.nilsl,I 0] ∧ SS 1 = [rF fs,rF ls,.pt 0 0,.pt 1 0,.sl 6 0 1 1,.sl 7 0 1 1,.sl 8 0 1 1,I 1] ∧ SS 2 = [rF fs,rF ls,.pt 0 0,.pt 1 0,.sl 8 0 1 2,.sl 9 0 1 2,.sl 10 0 1 2,I 2] ∧ SS 3 = [rF fs,rF ls,.pt 0 0,.pt 1 0,.sl 8 0 1 3,.sl 9 0 1 3,.sl 10 0 1 3,I 3] ∧ SS 4 = [rF fs,rF ls,.pt 0 0,.pt 1 0,.sl 9 0 1 4,.sl 10 0 1 4,.sl 11 0 1 4,I 4] ∧ SS 5 = [rF fs,rF ls,.pt 0 0,.pt 1 0,.sl 10 0 1 5,.sl 11 0 1 5,.sl 12 0 1 5,I 5] := ⟨fun i => match i with | 0 => [rF fs,rF ls,.pt 0 0,.pt 1 0,.nilsl,.nilsl,.nilsl,I 0] | 1 => [rF fs,rF ls,.pt 0 0,.pt 1 0,.sl 6 0 1 1,.sl 7 0 1 1,.sl 8 0 1 1,I 1] | 2 => [rF fs,rF ls,.pt 0 0,.pt 1 0,.sl 8 0 1 2,.sl 9 0 1 2,.sl 10 0 1 2,I 2] | 3 => [rF fs,rF ls,.pt 0 0,.pt 1 0,.sl 8 0 1 3,.sl 9 0 1 3,.sl 10 0 1 3,I 3] | 4 => [rF fs,rF ls,.pt 0 0,.pt 1 0,.sl 9 0 1 4,.sl 10 0 1 4,.sl 11 0 1 4,I 4] | 5 => [rF fs,rF ls,.pt 0 0,.pt 1 0,.sl 10 0 1 5,.sl 11 0 1 5,.sl 12 0 1 5,I 5] | _ => [],⟨rfl,rfl,rfl,rfl,rfl,rfl⟩⟩
  obtain ⟨GG,hG⟩ : ∃ GG : Nat → XH,GG 0 = hC0 us ld cF tF rF' ∧ GG 1 = hC1 us ld cF tF rF' ∧ GG 2 = hC2 us ld cF tF rF' ∧ GG 3 = hC3 us ld cF tF rF' ∧ GG 4 = hC4 us ld cF tF rF' ∧ GG 5 = hC5z us ld cF tF rF' := ⟨fun i => match i with | 0 => hC0 us ld cF tF rF' | 1 => hC1 us ld cF tF rF' | 2 => hC2 us ld cF tF rF' | 3 => hC3 us ld cF tF rF' | 4 => hC4 us ld cF tF rF' | 5 => hC5z us ld cF tF rF' | _ => [],⟨rfl,rfl,rfl,rfl,rfl,rfl⟩⟩
  obtain ⟨S0,S1,S2,S3,S4,S5⟩ := hS
  obtain ⟨G0,G1,G2,G3,G4,G5⟩ := hG
  have rd : ∀ i,i < 5 → headX 0 [0,1,5,7,8,9,10,11] (execW progX 4 0 none (match x4l1 with | .loop _ a => a | c => c) (envL [0,1,5,7,8,9,10,11] (SS i)) (GG i)) = some (SS (i + 1),GG (i + 1)) := by
    intro i hi
    have hc : i = 0 ∨ i = 1 ∨ i = 2 ∨ i = 3 ∨ i = 4 := by omega
    rcases hc with rfl | rfl | rfl | rfl | rfl
    · rw [S0,G0,S1,G1]; exact st0
    · rw [S1,G1,S2,G2]; exact st1
    · rw [S2,G2,S3,G3]; exact st2
    · rw [S3,G3,S4,G4]; exact st3
    · rw [S4,G4,S5,G5]; exact st4
  have a0 : ((5 : Int) < (ls.length : Int)) = False ∨ ((5 : Int) < (ls.length : Int)) = True := by
    by_cases h : (5 : Int) < (ls.length : Int)
    · exact .inr (eq_true h)
    · exact .inl (eq_false h)
  have hf5 : True := trivial
  clear st0 st1 st2 st3 st4 hb hld hcF htF hrF hp hms bv bw ck ff hr
  generalize msN (lnT ld 5) (ofN (bestO (lnT ld 5))) (ofN (bestO (lnT ld 5))).length = mw at *
  generalize ofN (bestO (lnT ld 5)) = oo at *
  rw [r4 (by simp)]; unfold x4; dsimp only
  sym =>
    simp [irem2,iquo2,remF,Za,Zb,Zc,Zd,Ze,Zf,Zg,Zh,Zj,Zl,Zm,Zn,Zo,Zp,Zq,Zr,Zt,Zu,Zv,Zw,Zx,Zy,Zz,Z1,Z5,ZA,ZB,ZD,ZH,ZI,ZL,ZM,ZQ,ZR,ZS,ZT,ZX,ZZ,Yg,Yo,Yp,Yq,Y3,YC,YO,YQ,YR,YT,YV,YX,YY,Xc,Xe,Xf,Xg,Xh,Xk,Xo,Xp,Xq,Xr,Xs,Xt,Xu,Xy,X0,XI,XM,XU,XX,XY,XZ,Wd,Wg,Wn,Wo,Wp,Wq,Wz,W0,W3,W4,W5,W6,W7,W8,W9,WA,WB,WC,WE,WF,WG,WI,WJ,WK,WL,WM,WN,WO,WP,WQ,WR,WS,WT,WU,WW,WX,Vc,Vf,Vg,Vh,Vi,Vp,Vq,Vr,Vs,Vt,Vu,Vv,Vx,Vy,Vz,V0,V1,V2,V3,V4,V6,V7,V9,VA,VB,VC,VD,VG,VH,VI,VJ,VL,VM,VN,VO,VP,VR,VS,VU,VV,VW,VX,VY,VZ,Ub,Uc,Ud,Ue,Ug,Uj,Ul,Um,Us,Uu,Uw,Ux,Uy,Uz,U0,U1,U2,U3,U4,U5,U6,U7,U8,U9,UA,UB,UC,UD,UE,UF,UG,UH,UK,UL,UM,UN,UO,UP,UX,UY,UZ,Tc,Td,Te,Tf,Ti,Tn,Tp,Tq,Tr,Ts,Tt,Tu,Tv,Tz,T0,T1,T2,T6,TA,TB,TC,TD,TE,TF,TG,TH,TI,Sg,Si,Sj,Sk,Sl,Sy,Sz,S6,c1,e25]
    tactic =>
      unfold x4l1
      rw [loop_rule 5 SS GG]
      · rw [S5, G5]
        rw [lc] at e29
        rcases a0 with a0 | a0
        · sym =>
            simp [irem2,iquo2,remF,Za,Zb,Zc,Zd,Ze,Zf,Zg,Zh,Zj,Zl,Zm,Zn,Zo,Zp,Zq,Zr,Zt,Zu,Zv,Zw,Zx,Zy,Zz,Z1,Z5,ZA,ZB,ZD,ZH,ZI,ZL,ZM,ZQ,ZR,ZS,ZT,ZX,ZZ,Yg,Yo,Yp,Yq,Y3,YC,YO,YQ,YR,YT,YV,YX,YY,Xc,Xe,Xf,Xg,Xh,Xk,Xo,Xp,Xq,Xr,Xs,Xt,Xu,Xy,X0,XI,XM,XU,XX,XY,XZ,Wd,Wg,Wn,Wo,Wp,Wq,Wz,W0,W3,W4,W5,W6,W7,W8,W9,WA,WB,WC,WE,WF,WG,WI,WJ,WK,WL,WM,WN,WO,WP,WQ,WR,WS,WT,WU,WW,WX,Vc,Vf,Vg,Vh,Vi,Vp,Vq,Vr,Vs,Vt,Vu,Vv,Vx,Vy,Vz,V0,V1,V2,V3,V4,V6,V7,V9,VA,VB,VC,VD,VG,VH,VI,VJ,VL,VM,VN,VO,VP,VR,VS,VU,VV,VW,VX,VY,VZ,Ub,Uc,Ud,Ue,Ug,Uj,Ul,Um,Us,Uu,Uw,Ux,Uy,Uz,U0,U1,U2,U3,U4,U5,U6,U7,U8,U9,UA,UB,UC,UD,UE,UF,UG,UH,UK,UL,UM,UN,UO,UP,UX,UY,UZ,Tc,Td,Te,Tf,Ti,Tn,Tp,Tq,Tr,Ts,Tt,Tu,Tv,Tz,T0,T1,T2,T6,TA,TB,TC,TD,TE,TF,TG,TH,TI,Sg,Si,Sj,Sk,Sl,Sy,Sz,S6,a0,e29,w0,hol]
            tactic =>
              unfold x4l3
              rw [loop_rule oo.length (fun i => [.pt 0 0,.sl 1 0 1 5,.sl 2 0 1 5,.sl 3 0 1 5,I mw,cl30,I (nowT us (lnT ld 5) oo i),rI oo,I oo.length,I (i : Nat)]) (fun _ => hT4 (lnT ld 5).c (aL 5 cF) (aL 5 tF) (aL 5 rF') us)]
              · (sym => (simp [irem2,iquo2,remF,Za,Zb,Zc,Zd,Ze,Zf,Zg,Zh,Zj,Zl,Zm,Zn,Zo,Zp,Zq,Zr,Zt,Zu,Zv,Zw,Zx,Zy,Zz,Z1,Z5,ZA,ZB,ZD,ZH,ZI,ZL,ZM,ZQ,ZR,ZS,ZT,ZX,ZZ,Yg,Yo,Yp,Yq,Y3,YC,YO,YQ,YR,YT,YV,YX,YY,Xc,Xe,Xf,Xg,Xh,Xk,Xo,Xp,Xq,Xr,Xs,Xt,Xu,Xy,X0,XI,XM,XU,XX,XY,XZ,Wd,Wg,Wn,Wo,Wp,Wq,Wz,W0,W3,W4,W5,W6,W7,W8,W9,WA,WB,WC,WE,WF,WG,WI,WJ,WK,WL,WM,WN,WO,WP,WQ,WR,WS,WT,WU,WW,WX,Vc,Vf,Vg,Vh,Vi,Vp,Vq,Vr,Vs,Vt,Vu,Vv,Vx,Vy,Vz,V0,V1,V2,V3,V4,V6,V7,V9,VA,VB,VC,VD,VG,VH,VI,VJ,VL,VM,VN,VO,VP,VR,VS,VU,VV,VW,VX,VY,VZ,Ub,Uc,Ud,Ue,Ug,Uj,Ul,Um,Us,Uu,Uw,Ux,Uy,Uz,U0,U1,U2,U3,U4,U5,U6,U7,U8,U9,UA,UB,UC,UD,UE,UF,UG,UH,UK,UL,UM,UN,UO,UP,UX,UY,UZ,Tc,Td,Te,Tf,Ti,Tn,Tp,Tq,Tr,Ts,Tt,Tu,Tv,Tz,T0,T1,T2,T6,TA,TB,TC,TD,TE,TF,TG,TH,TI,Sg,Si,Sj,Sk,Sl,Sy,Sz,S6,z,crushed_w]; all_goals tactic => exact rfl))
              · show _ = some (_,([some (.blk true (.cells true [.fs [[.fs [[I 30,I 100],[I 120,I 300],[I 400,I 900]]],[.fs [[I 200,I 50]]]],.fs [[I (ld 0).k,I (ld 0).al,I (ld 0).ah,I (ld 0).cl,I (ld 0).ch],[I (ld 1).k,I (ld 1).al,I (ld 1).ah,I (ld 1).cl,I (ld 1).ch],[I (ld 2).k,I (ld 2).al,I (ld 2).ah,I (ld 2).cl,I (ld 2).ch],[I (ld 3).k,I (ld 3).al,I (ld 3).ah,I (ld 3).cl,I (ld 3).ch],[I (ld 4).k,I (ld 4).al,I (ld 4).ah,I (ld 4).cl,I (ld 4).ch]],.fs [[.fs [[I 0],[I 1]]],[.fs [[I 2],[I 3]]],[.fs [[I 4]]]],I 0,I 20])),some (.blk true (.cells true [I (cF 0),I (cF 1),I (cF 2),I (cF 3),I (cF 4)])),some (.blk true (.cells true [I (tF 0),I (tF 1),I (tF 2),I (tF 3),I (tF 4)])),some (.blk true (.cells true [I (rF' 0),I (rF' 1),I (rF' 2),I (rF' 3),I (rF' 4)])),cB8 us] : XH))
                (sym => (simp [irem2,iquo2,remF,Za,Zb,Zc,Zd,Ze,Zf,Zg,Zh,Zj,Zl,Zm,Zn,Zo,Zp,Zq,Zr,Zt,Zu,Zv,Zw,Zx,Zy,Zz,Z1,Z5,ZA,ZB,ZD,ZH,ZI,ZL,ZM,ZQ,ZR,ZS,ZT,ZX,ZZ,Yg,Yo,Yp,Yq,Y3,YC,YO,YQ,YR,YT,YV,YX,YY,Xc,Xe,Xf,Xg,Xh,Xk,Xo,Xp,Xq,Xr,Xs,Xt,Xu,Xy,X0,XI,XM,XU,XX,XY,XZ,Wd,Wg,Wn,Wo,Wp,Wq,Wz,W0,W3,W4,W5,W6,W7,W8,W9,WA,WB,WC,WE,WF,WG,WI,WJ,WK,WL,WM,WN,WO,WP,WQ,WR,WS,WT,WU,WW,WX,Vc,Vf,Vg,Vh,Vi,Vp,Vq,Vr,Vs,Vt,Vu,Vv,Vx,Vy,Vz,V0,V1,V2,V3,V4,V6,V7,V9,VA,VB,VC,VD,VG,VH,VI,VJ,VL,VM,VN,VO,VP,VR,VS,VU,VV,VW,VX,VY,VZ,Ub,Uc,Ud,Ue,Ug,Uj,Ul,Um,Us,Uu,Uw,Ux,Uy,Uz,U0,U1,U2,U3,U4,U5,U6,U7,U8,U9,UA,UB,UC,UD,UE,UF,UG,UH,UK,UL,UM,UN,UO,UP,UX,UY,UZ,Tc,Td,Te,Tf,Ti,Tn,Tp,Tq,Tr,Ts,Tt,Tu,Tv,Tz,T0,T1,T2,T6,TA,TB,TC,TD,TE,TF,TG,TH,TI,Sg,Si,Sj,Sk,Sl,Sy,Sz,S6,hol]; all_goals tactic => exact rfl))
              · exact rd3
              · (sym => (simp [irem2,iquo2,remF,Za,Zb,Zc,Zd,Ze,Zf,Zg,Zh,Zj,Zl,Zm,Zn,Zo,Zp,Zq,Zr,Zt,Zu,Zv,Zw,Zx,Zy,Zz,Z1,Z5,ZA,ZB,ZD,ZH,ZI,ZL,ZM,ZQ,ZR,ZS,ZT,ZX,ZZ,Yg,Yo,Yp,Yq,Y3,YC,YO,YQ,YR,YT,YV,YX,YY,Xc,Xe,Xf,Xg,Xh,Xk,Xo,Xp,Xq,Xr,Xs,Xt,Xu,Xy,X0,XI,XM,XU,XX,XY,XZ,Wd,Wg,Wn,Wo,Wp,Wq,Wz,W0,W3,W4,W5,W6,W7,W8,W9,WA,WB,WC,WE,WF,WG,WI,WJ,WK,WL,WM,WN,WO,WP,WQ,WR,WS,WT,WU,WW,WX,Vc,Vf,Vg,Vh,Vi,Vp,Vq,Vr,Vs,Vt,Vu,Vv,Vx,Vy,Vz,V0,V1,V2,V3,V4,V6,V7,V9,VA,VB,VC,VD,VG,VH,VI,VJ,VL,VM,VN,VO,VP,VR,VS,VU,VV,VW,VX,VY,VZ,Ub,Uc,Ud,Ue,Ug,Uj,Ul,Um,Us,Uu,Uw,Ux,Uy,Uz,U0,U1,U2,U3,U4,U5,U6,U7,U8,U9,UA,UB,UC,UD,UE,UF,UG,UH,UK,UL,UM,UN,UO,UP,UX,UY,UZ,Tc,Td,Te,Tf,Ti,Tn,Tp,Tq,Tr,Ts,Tt,Tu,Tv,Tz,T0,T1,T2,T6,TA,TB,TC,TD,TE,TF,TG,TH,TI,Sg,Si,Sj,Sk,Sl,Sy,Sz,S6,z]; all_goals tactic => exact rfl))
        · sym =>
            simp [irem2,iquo2,remF,Za,Zb,Zc,Zd,Ze,Zf,Zg,Zh,Zj,Zl,Zm,Zn,Zo,Zp,Zq,Zr,Zt,Zu,Zv,Zw,Zx,Zy,Zz,Z1,Z5,ZA,ZB,ZD,ZH,ZI,ZL,ZM,ZQ,ZR,ZS,ZT,ZX,ZZ,Yg,Yo,Yp,Yq,Y3,YC,YO,YQ,YR,YT,YV,YX,YY,Xc,Xe,Xf,Xg,Xh,Xk,Xo,Xp,Xq,Xr,Xs,Xt,Xu,Xy,X0,XI,XM,XU,XX,XY,XZ,Wd,Wg,Wn,Wo,Wp,Wq,Wz,W0,W3,W4,W5,W6,W7,W8,W9,WA,WB,WC,WE,WF,WG,WI,WJ,WK,WL,WM,WN,WO,WP,WQ,WR,WS,WT,WU,WW,WX,Vc,Vf,Vg,Vh,Vi,Vp,Vq,Vr,Vs,Vt,Vu,Vv,Vx,Vy,Vz,V0,V1,V2,V3,V4,V6,V7,V9,VA,VB,VC,VD,VG,VH,VI,VJ,VL,VM,VN,VO,VP,VR,VS,VU,VV,VW,VX,VY,VZ,Ub,Uc,Ud,Ue,Ug,Uj,Ul,Um,Us,Uu,Uw,Ux,Uy,Uz,U0,U1,U2,U3,U4,U5,U6,U7,U8,U9,UA,UB,UC,UD,UE,UF,UG,UH,UK,UL,UM,UN,UO,UP,UX,UY,UZ,Tc,Td,Te,Tf,Ti,Tn,Tp,Tq,Tr,Ts,Tt,Tu,Tv,Tz,T0,T1,T2,T6,TA,TB,TC,TD,TE,TF,TG,TH,TI,Sg,Si,Sj,Sk,Sl,Sy,Sz,S6,a0,e29,w0,hol]
            tactic =>
              unfold x4l3
              rw [loop_rule oo.length (fun i => [.pt 0 0,.sl 1 0 1 5,.sl 2 0 1 5,.sl 3 0 1 5,I mw,cl30,I (nowT us (lnT ld 5) oo i),rI oo,I oo.length,I (i : Nat)]) (fun _ => hT4 (lnT ld 5).c (aL 5 cF) (aL 5 tF) (aL 5 rF') us)]
              · (sym => (simp [irem2,iquo2,remF,Za,Zb,Zc,Zd,Ze,Zf,Zg,Zh,Zj,Zl,Zm,Zn,Zo,Zp,Zq,Zr,Zt,Zu,Zv,Zw,Zx,Zy,Zz,Z1,Z5,ZA,ZB,ZD,ZH,ZI,ZL,ZM,ZQ,ZR,ZS,ZT,ZX,ZZ,Yg,Yo,Yp,Yq,Y3,YC,YO,YQ,YR,YT,YV,YX,YY,Xc,Xe,Xf,Xg,Xh,Xk,Xo,Xp,Xq,Xr,Xs,Xt,Xu,Xy,X0,XI,XM,XU,XX,XY,XZ,Wd,Wg,Wn,Wo,Wp,Wq,Wz,W0,W3,W4,W5,W6,W7,W8,W9,WA,WB,WC,WE,WF,WG,WI,WJ,WK,WL,WM,WN,WO,WP,WQ,WR,WS,WT,WU,WW,WX,Vc,Vf,Vg,Vh,Vi,Vp,Vq,Vr,Vs,Vt,Vu,Vv,Vx,Vy,Vz,V0,V1,V2,V3,V4,V6,V7,V9,VA,VB,VC,VD,VG,VH,VI,VJ,VL,VM,VN,VO,VP,VR,VS,VU,VV,VW,VX,VY,VZ,Ub,Uc,Ud,Ue,Ug,Uj,Ul,Um,Us,Uu,Uw,Ux,Uy,Uz,U0,U1,U2,U3,U4,U5,U6,U7,U8,U9,UA,UB,UC,UD,UE,UF,UG,UH,UK,UL,UM,UN,UO,UP,UX,UY,UZ,Tc,Td,Te,Tf,Ti,Tn,Tp,Tq,Tr,Ts,Tt,Tu,Tv,Tz,T0,T1,T2,T6,TA,TB,TC,TD,TE,TF,TG,TH,TI,Sg,Si,Sj,Sk,Sl,Sy,Sz,S6,z,crushed_w]; all_goals tactic => exact rfl))
              · show _ = some (_,([some (.blk true (.cells true [.fs [[.fs [[I 30,I 100],[I 120,I 300],[I 400,I 900]]],[.fs [[I 200,I 50]]]],.fs [[I (ld 0).k,I (ld 0).al,I (ld 0).ah,I (ld 0).cl,I (ld 0).ch],[I (ld 1).k,I (ld 1).al,I (ld 1).ah,I (ld 1).cl,I (ld 1).ch],[I (ld 2).k,I (ld 2).al,I (ld 2).ah,I (ld 2).cl,I (ld 2).ch],[I (ld 3).k,I (ld 3).al,I (ld 3).ah,I (ld 3).cl,I (ld 3).ch],[I (ld 4).k,I (ld 4).al,I (ld 4).ah,I (ld 4).cl,I (ld 4).ch]],.fs [[.fs [[I 0],[I 1]]],[.fs [[I 2],[I 3]]],[.fs [[I 4]]]],I 0,I 20])),some (.blk true (.cells true [I (cF 0),I (cF 1),I (cF 2),I (cF 3),I (cF 4)])),some (.blk true (.cells true [I (tF 0),I (tF 1),I (tF 2),I (tF 3),I (tF 4)])),some (.blk true (.cells true [I (rF' 0),I (rF' 1),I (rF' 2),I (rF' 3),I (rF' 4)])),cB8 us] : XH))
                (sym => (simp [irem2,iquo2,remF,Za,Zb,Zc,Zd,Ze,Zf,Zg,Zh,Zj,Zl,Zm,Zn,Zo,Zp,Zq,Zr,Zt,Zu,Zv,Zw,Zx,Zy,Zz,Z1,Z5,ZA,ZB,ZD,ZH,ZI,ZL,ZM,ZQ,ZR,ZS,ZT,ZX,ZZ,Yg,Yo,Yp,Yq,Y3,YC,YO,YQ,YR,YT,YV,YX,YY,Xc,Xe,Xf,Xg,Xh,Xk,Xo,Xp,Xq,Xr,Xs,Xt,Xu,Xy,X0,XI,XM,XU,XX,XY,XZ,Wd,Wg,Wn,Wo,Wp,Wq,Wz,W0,W3,W4,W5,W6,W7,W8,W9,WA,WB,WC,WE,WF,WG,WI,WJ,WK,WL,WM,WN,WO,WP,WQ,WR,WS,WT,WU,WW,WX,Vc,Vf,Vg,Vh,Vi,Vp,Vq,Vr,Vs,Vt,Vu,Vv,Vx,Vy,Vz,V0,V1,V2,V3,V4,V6,V7,V9,VA,VB,VC,VD,VG,VH,VI,VJ,VL,VM,VN,VO,VP,VR,VS,VU,VV,VW,VX,VY,VZ,Ub,Uc,Ud,Ue,Ug,Uj,Ul,Um,Us,Uu,Uw,Ux,Uy,Uz,U0,U1,U2,U3,U4,U5,U6,U7,U8,U9,UA,UB,UC,UD,UE,UF,UG,UH,UK,UL,UM,UN,UO,UP,UX,UY,UZ,Tc,Td,Te,Tf,Ti,Tn,Tp,Tq,Tr,Ts,Tt,Tu,Tv,Tz,T0,T1,T2,T6,TA,TB,TC,TD,TE,TF,TG,TH,TI,Sg,Si,Sj,Sk,Sl,Sy,Sz,S6,hol]; all_goals tactic => exact rfl))
              · exact rd3
              · (sym => (simp [irem2,iquo2,remF,Za,Zb,Zc,Zd,Ze,Zf,Zg,Zh,Zj,Zl,Zm,Zn,Zo,Zp,Zq,Zr,Zt,Zu,Zv,Zw,Zx,Zy,Zz,Z1,Z5,ZA,ZB,ZD,ZH,ZI,ZL,ZM,ZQ,ZR,ZS,ZT,ZX,ZZ,Yg,Yo,Yp,Yq,Y3,YC,YO,YQ,YR,YT,YV,YX,YY,Xc,Xe,Xf,Xg,Xh,Xk,Xo,Xp,Xq,Xr,Xs,Xt,Xu,Xy,X0,XI,XM,XU,XX,XY,XZ,Wd,Wg,Wn,Wo,Wp,Wq,Wz,W0,W3,W4,W5,W6,W7,W8,W9,WA,WB,WC,WE,WF,WG,WI,WJ,WK,WL,WM,WN,WO,WP,WQ,WR,WS,WT,WU,WW,WX,Vc,Vf,Vg,Vh,Vi,Vp,Vq,Vr,Vs,Vt,Vu,Vv,Vx,Vy,Vz,V0,V1,V2,V3,V4,V6,V7,V9,VA,VB,VC,VD,VG,VH,VI,VJ,VL,VM,VN,VO,VP,VR,VS,VU,VV,VW,VX,VY,VZ,Ub,Uc,Ud,Ue,Ug,Uj,Ul,Um,Us,Uu,Uw,Ux,Uy,Uz,U0,U1,U2,U3,U4,U5,U6,U7,U8,U9,UA,UB,UC,UD,UE,UF,UG,UH,UK,UL,UM,UN,UO,UP,UX,UY,UZ,Tc,Td,Te,Tf,Ti,Tn,Tp,Tq,Tr,Ts,Tt,Tu,Tv,Tz,T0,T1,T2,T6,TA,TB,TC,TD,TE,TF,TG,TH,TI,Sg,Si,Sj,Sk,Sl,Sy,Sz,S6,z]; all_goals tactic => exact rfl))
      · rw [S0,G0]
        (sym => (simp [irem2,iquo2,remF,Za,Zb,Zc,Zd,Ze,Zf,Zg,Zh,Zj,Zl,Zm,Zn,Zo,Zp,Zq,Zr,Zt,Zu,Zv,Zw,Zx,Zy,Zz,Z1,Z5,ZA,ZB,ZD,ZH,ZI,ZL,ZM,ZQ,ZR,ZS,ZT,ZX,ZZ,Yg,Yo,Yp,Yq,Y3,YC,YO,YQ,YR,YT,YV,YX,YY,Xc,Xe,Xf,Xg,Xh,Xk,Xo,Xp,Xq,Xr,Xs,Xt,Xu,Xy,X0,XI,XM,XU,XX,XY,XZ,Wd,Wg,Wn,Wo,Wp,Wq,Wz,W0,W3,W4,W5,W6,W7,W8,W9,WA,WB,WC,WE,WF,WG,WI,WJ,WK,WL,WM,WN,WO,WP,WQ,WR,WS,WT,WU,WW,WX,Vc,Vf,Vg,Vh,Vi,Vp,Vq,Vr,Vs,Vt,Vu,Vv,Vx,Vy,Vz,V0,V1,V2,V3,V4,V6,V7,V9,VA,VB,VC,VD,VG,VH,VI,VJ,VL,VM,VN,VO,VP,VR,VS,VU,VV,VW,VX,VY,VZ,Ub,Uc,Ud,Ue,Ug,Uj,Ul,Um,Us,Uu,Uw,Ux,Uy,Uz,U0,U1,U2,U3,U4,U5,U6,U7,U8,U9,UA,UB,UC,UD,UE,UF,UG,UH,UK,UL,UM,UN,UO,UP,UX,UY,UZ,Tc,Td,Te,Tf,Ti,Tn,Tp,Tq,Tr,Ts,Tt,Tu,Tv,Tz,T0,T1,T2,T6,TA,TB,TC,TD,TE,TF,TG,TH,TI,Sg,Si,Sj,Sk,Sl,Sy,Sz,S6]; all_goals tactic => exact rfl))
      · exact rd
      · rw [S5,G5]
        rcases a0 with a0 | a0
        · (sym => (simp [irem2,iquo2,remF,Za,Zb,Zc,Zd,Ze,Zf,Zg,Zh,Zj,Zl,Zm,Zn,Zo,Zp,Zq,Zr,Zt,Zu,Zv,Zw,Zx,Zy,Zz,Z1,Z5,ZA,ZB,ZD,ZH,ZI,ZL,ZM,ZQ,ZR,ZS,ZT,ZX,ZZ,Yg,Yo,Yp,Yq,Y3,YC,YO,YQ,YR,YT,YV,YX,YY,Xc,Xe,Xf,Xg,Xh,Xk,Xo,Xp,Xq,Xr,Xs,Xt,Xu,Xy,X0,XI,XM,XU,XX,XY,XZ,Wd,Wg,Wn,Wo,Wp,Wq,Wz,W0,W3,W4,W5,W6,W7,W8,W9,WA,WB,WC,WE,WF,WG,WI,WJ,WK,WL,WM,WN,WO,WP,WQ,WR,WS,WT,WU,WW,WX,Vc,Vf,Vg,Vh,Vi,Vp,Vq,Vr,Vs,Vt,Vu,Vv,Vx,Vy,Vz,V0,V1,V2,V3,V4,V6,V7,V9,VA,VB,VC,VD,VG,VH,VI,VJ,VL,VM,VN,VO,VP,VR,VS,VU,VV,VW,VX,VY,VZ,Ub,Uc,Ud,Ue,Ug,Uj,Ul,Um,Us,Uu,Uw,Ux,Uy,Uz,U0,U1,U2,U3,U4,U5,U6,U7,U8,U9,UA,UB,UC,UD,UE,UF,UG,UH,UK,UL,UM,UN,UO,UP,UX,UY,UZ,Tc,Td,Te,Tf,Ti,Tn,Tp,Tq,Tr,Ts,Tt,Tu,Tv,Tz,T0,T1,T2,T6,TA,TB,TC,TD,TE,TF,TG,TH,TI,Sg,Si,Sj,Sk,Sl,Sy,Sz,S6,a0]; all_goals tactic => exact rfl))
        · (sym => (simp [irem2,iquo2,remF,Za,Zb,Zc,Zd,Ze,Zf,Zg,Zh,Zj,Zl,Zm,Zn,Zo,Zp,Zq,Zr,Zt,Zu,Zv,Zw,Zx,Zy,Zz,Z1,Z5,ZA,ZB,ZD,ZH,ZI,ZL,ZM,ZQ,ZR,ZS,ZT,ZX,ZZ,Yg,Yo,Yp,Yq,Y3,YC,YO,YQ,YR,YT,YV,YX,YY,Xc,Xe,Xf,Xg,Xh,Xk,Xo,Xp,Xq,Xr,Xs,Xt,Xu,Xy,X0,XI,XM,XU,XX,XY,XZ,Wd,Wg,Wn,Wo,Wp,Wq,Wz,W0,W3,W4,W5,W6,W7,W8,W9,WA,WB,WC,WE,WF,WG,WI,WJ,WK,WL,WM,WN,WO,WP,WQ,WR,WS,WT,WU,WW,WX,Vc,Vf,Vg,Vh,Vi,Vp,Vq,Vr,Vs,Vt,Vu,Vv,Vx,Vy,Vz,V0,V1,V2,V3,V4,V6,V7,V9,VA,VB,VC,VD,VG,VH,VI,VJ,VL,VM,VN,VO,VP,VR,VS,VU,VV,VW,VX,VY,VZ,Ub,Uc,Ud,Ue,Ug,Uj,Ul,Um,Us,Uu,Uw,Ux,Uy,Uz,U0,U1,U2,U3,U4,U5,U6,U7,U8,U9,UA,UB,UC,UD,UE,UF,UG,UH,UK,UL,UM,UN,UO,UP,UX,UY,UZ,Tc,Td,Te,Tf,Ti,Tn,Tp,Tq,Tr,Ts,Tt,Tu,Tv,Tz,T0,T1,T2,T6,TA,TB,TC,TD,TE,TF,TG,TH,TI,Sg,Si,Sj,Sk,Sl,Sy,Sz,S6,a0]; all_goals tactic => exact rfl))
theorem w4 (hfo : ∀ x ∈ fs,x.Ok) (hlo : ∀ x ∈ ls,x.Ok) (hN : ls.length ≤ maxLen) (hu : ∀ v ∈ us,v < 256) (hul : us.length ≤ maxLen) : runW progX 4 [rF fs,rF ls,.fs (us.map fun v => [B8 v])] [] = some (.bool true,[]) := by
  have hN : ls.length ≤ 9223372036854775807 := Nat.le_trans hN (by decide)
  by_cases hf0 : fs.length = 0
  · have c1 : ((fs.length : Int) = 0) = True := eq_true (by omega)
    rw [r4 (by simp)]; unfold x4; dsimp only
    (sym => (simp [irem2,iquo2,remF,Za,Zb,Zf,Zh,Zl,Zm,Zn,Zt,Zx,Z1,ZB,ZL,ZM,ZQ,ZR,ZZ,Yo,YR,Xg,Xp,XI,Wd,Wg,Wp,W8,W9,WI,WL,WM,WN,WO,WP,WQ,WS,WT,Vf,Vg,Vh,Vs,V6,V7,V9,VA,VB,VC,VD,VG,VH,VI,VJ,VL,VP,VQ,VU,VW,VY,VZ,Ub,Uc,Ud,Ue,Ux,U1,U2,U3,U4,UC,UD,UK,UL,Ti,Tn,Tp,Tq,Tu,Tw,T1,T2,Sg,c1,crushed_w]; all_goals tactic => exact rfl))
  · by_cases h5 : 5 ≤ ls.length
    · exact top5 hfo hlo hN hf0 hu hul h5
    · have h : ls.length = 0 ∨ ls.length = 1 ∨ ls.length = 2 ∨ ls.length = 3 ∨ ls.length = 4 := by omega
      rcases h with h | h | h | h | h
      · exact top0 hfo hlo hN hf0 hu hul h
      · exact top1 hfo hlo hN hf0 hu hul h
      · exact top2 hfo hlo hN hf0 hu hul h
      · exact top3 hfo hlo hN hf0 hu hul h
      · exact top4 hfo hlo hN hf0 hu hul h
end
end Go.Proofs.YtpbeclkpohehgaaDoor
