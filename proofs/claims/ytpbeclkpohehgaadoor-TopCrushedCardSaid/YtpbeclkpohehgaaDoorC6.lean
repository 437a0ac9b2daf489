/- Parts of a proof, joined: K92 K93 K94 K95 K96 K97 K98 K99 K100 K101. No statement of the seed is proved here. -/
import Derived.Test.YtpbeclkpohehgaaDoorC5
set_option linter.unusedSimpArgs false
set_option linter.unusedVariables false
set_option linter.unusedSectionVars false
namespace Go.Proofs.YtpbeclkpohehgaaDoor
open Go Go.DL
set_option maxRecDepth 100000
set_option maxHeartbeats 4000000
theorem seq_of {σ : Type} (n : Nat) (Inv : Nat → σ → Prop) (St : Nat → σ → σ → Prop) (s0 : σ) (h0 : Inv 0 s0) (hs : ∀ i s,i < n → Inv i s → ∃ s',Inv (i + 1) s' ∧ St i s s') : ∃ F : Nat → σ,F 0 = s0 ∧ (∀ i,i ≤ n → Inv i (F i)) ∧ ∀ i,i < n → St i (F i) (F (i + 1)) := by
  induction n with
  | zero => exact ⟨fun _ => s0,rfl,fun i hi => by obtain rfl : i = 0 := (by omega); exact h0,fun i hi => by omega⟩
  | succ n ih =>
    obtain ⟨F,h1,h2,h3⟩ := ih fun i s hi => hs i s (by omega)
    obtain ⟨s',h4,h5⟩ := hs n (F n) (by omega) (h2 n (Nat.le_refl _))
    refine ⟨fun i => if i ≤ n then F i else s',(if_pos (Nat.zero_le n)).trans h1,fun i hi => ?_,fun i hi => ?_⟩
    · dsimp only
      by_cases h : i ≤ n
      · rw [if_pos h]; exact h2 i h
      · obtain rfl : i = n + 1 := by omega
        rw [if_neg h]; exact h4
    · dsimp only
      by_cases h : i + 1 ≤ n
      · rw [if_pos h,if_pos (by omega)]; exact h3 i (by omega)
      · obtain rfl : i = n := by omega
        rw [if_neg h,if_pos (Nat.le_refl _)]; exact h5
structure SwOk (s lo hi : Nat → Int) : Prop where
  gl : ∀ w : Nat,w < 6 → lo w ≤ s w
  gh : ∀ w : Nat,w < 6 → s w ≤ hi w
  bd : ∀ w : Nat,w < 6 → 0 ≤ s w ∧ s w ≤ 30000
  d : ∀ w : Nat,w + 2 < 6 → s w + s (w + 2) ≤ 2 * s (w + 1)
theorem tri6 {i w k : Nat} (h1 : i < w) (h2 : w < k) (h3 : k < 6) {P : Nat → Nat → Nat → Prop} (p012 : P 0 1 2) (p013 : P 0 1 3) (p014 : P 0 1 4) (p015 : P 0 1 5) (p023 : P 0 2 3) (p024 : P 0 2 4) (p025 : P 0 2 5) (p034 : P 0 3 4) (p035 : P 0 3 5) (p045 : P 0 4 5) (p123 : P 1 2 3) (p124 : P 1 2 4) (p125 : P 1 2 5) (p134 : P 1 3 4) (p135 : P 1 3 5) (p145 : P 1 4 5) (p234 : P 2 3 4) (p235 : P 2 3 5) (p245 : P 2 4 5) (p345 : P 3 4 5) : P i w k := by
  have : (i = 0 ∨ i = 1 ∨ i = 2 ∨ i = 3) ∧ (w = 1 ∨ w = 2 ∨ w = 3 ∨ w = 4) ∧ (k = 2 ∨ k = 3 ∨ k = 4 ∨ k = 5) := by omega
  obtain ⟨rfl | rfl | rfl | rfl,rfl | rfl | rfl | rfl,rfl | rfl | rfl | rfl⟩ := this <;> first | assumption | omega
section
variable {s lo hi : Nat → Int} (t : SwOk s lo hi)
include t
theorem conc {i w k : Nat} (h1 : i < w) (h2 : w < k) (h3 : k < 6) : s i * ((k : Int) - (w : Int)) + s k * ((w : Int) - (i : Int)) ≤ s w * ((k : Int) - (i : Int)) := by
  have d0 : s 0 + s 2 ≤ 2 * s 1 := t.d 0 (by omega)
  have d1 : s 1 + s 3 ≤ 2 * s 2 := t.d 1 (by omega)
  have d2 : s 2 + s 4 ≤ 2 * s 3 := t.d 2 (by omega)
  have d3 : s 3 + s 5 ≤ 2 * s 4 := t.d 3 (by omega)
  refine tri6 h1 h2 h3 (P := fun i w k => s i * ((k : Int) - (w : Int)) + s k * ((w : Int) - (i : Int)) ≤ s w * ((k : Int) - (i : Int))) ?_ ?_ ?_ ?_ ?_ ?_ ?_ ?_ ?_ ?_ ?_ ?_ ?_ ?_ ?_ ?_ ?_ ?_ ?_ ?_ <;> omega
structure LowP (s : Nat → Int) (w : Nat) (o u : Int) : Prop where
  u1 : 1 ≤ u
  u2 : u ≤ 5
  o1 : -1000000 ≤ o
  o2 : o ≤ 1000000
  le : o ≤ s w * u
theorem low_line (bl : ∀ w : Nat,w < 6 → 0 ≤ lo w ∧ lo w ≤ 30000) {i w k : Nat} (h1 : i < w) (h2 : w < k) (h3 : k < 6) : LowP s w (lnO i (lo i) 1 k (lo k) 1 w) (lnU i 1 k 1) := by
  have hc := conc t h1 h2 h3
  have l1 := t.gl i (by omega)
  have l2 := t.gl k (by omega)
  have b1 := bl i (by omega)
  have b2 := bl k (by omega)
  have eU : lnU (i : Int) 1 (k : Int) 1 = (k : Int) - (i : Int) := by unfold lnU; omega
  have eO : lnO (i : Int) (lo i) 1 (k : Int) (lo k) 1 (w : Int) = lo i * ((k : Int) - (w : Int)) + lo k * ((w : Int) - (i : Int)) := by unfold lnO; grind
  rw [eU,eO]
  have m1 := Int.mul_le_mul_of_nonneg_right l1 (show (0 : Int) ≤ (k : Int) - (w : Int) by omega)
  have m2 := Int.mul_le_mul_of_nonneg_right l2 (show (0 : Int) ≤ (w : Int) - (i : Int) by omega)
  have n1 := mul_bd (a := lo i) (b := (k : Int) - (w : Int)) (A := 30000) (B := 5) (by omega) (by omega)
  have n2 := mul_bd (a := lo k) (b := (w : Int) - (i : Int)) (A := 30000) (B := 5) (by omega) (by omega)
  exact ⟨by omega,by omega,by omega,by omega,by omega⟩
end
theorem low_bst {s : Nat → Int} {w : Nat} {o u a b : Int} (h1 : LowP s w o u) (h2 : LowP s w a b) : ∃ o' u',LowP s w o' u' ∧ bstF2 o u a b = .agg [I o',I u'] := by
  unfold bstF2
  split
  · exact ⟨a,b,h2,rfl⟩
  · exact ⟨o,u,h1,rfl⟩
theorem low_98 {s : Nat → Int} {w : Nat} {o u a b : Int} (h1 : LowP s w o u) (h2 : LowP s w a b) : runW progX 98 [.fn (.func 67) [] [],.agg [I o,I u],.sl 0 0 2 1] [some (.blk true (.cells true [I a,I b]))] = some (bstF2 o u a b,[some (.blk true (.cells true [I a,I b]))]) :=
  w98s (mul_ok (A := 1000000) (B := 5) ⟨h2.o1,h2.o2⟩ ⟨by have := h1.u1; omega,h1.u2⟩ (by decide)) (mul_ok (A := 1000000) (B := 5) ⟨h1.o1,h1.o2⟩ ⟨by have := h2.u1; omega,h2.u2⟩ (by decide))
theorem w101 (yc : List AV) (w : Nat) : runW progX 101 [.pt 0 0,I (w : Nat)] [bY yc] = some (.fn (.func 115) [] [.pt 1 0,.pt 2 0],[bY yc,some (.blk true (.cells true [I (w : Nat)])),some (.blk false (.cells true [.pt 0 0]))]) := by
  rw [r101 (by simp)]; unfold x101; dsimp only
  (sym => (simp [Za,Zb,Zf,Zh,Zl,Zn,Zt,Zv,Zx,YY,Xc,Xe,Xi,Xu,Xy,XQ,Wc,Wi,Wl,Wn,Wr,Wz,W9,WB,WC,WF,WG,WI,WJ,WK,WM,WO,WP,WQ,WR,WW,WX,WY,Vb,Vc,Vd,Vs,V6,V7,V9,VA,VB,VC,VD,VG,VH,VI,VJ,VL,VU,VV,VW,VX,VY,VZ,Ua,Ub,Uc,Ud,Ug,Uw,U2,U3,U4,U5,UC,UD,UK,UL,Ti,Tp,Tq,Tu,T1,T2,Sg]; all_goals tactic => exact rfl))
abbrev hL9 (yc : List AV) (w : Nat) (o u : Int) : XH := [some (.loop 69 0 [.pt 1 0] .ready),some (.blk true (.cells true [I o,I u])),some (.blk true (.cells true [I (w : Nat)])),some (.blk false (.cells true [.pt 4 0])),bY yc]
section
variable {s lo hi : Nat → Int} (t : SwOk s lo hi) {yc : List AV} (y : YrOk yc lo hi)
include t y
theorem round115 {w : Nat} (hw : w < 6) {i k : Nat} (hi : i < w) (hk : w < k) (hk6 : k < 6) {o u : Int} (h : LowP s w o u) : ∃ p : Int × Int,LowP s w p.1 p.2 ∧
    headX 5 [0,1,2,4,5,6,7] (execW progX 115 5 none (match x115l0 with | .loop _ a => a | c => c) (envL [0,1,2,4,5,6,7] [.fn (.yield 0) [] [],.pt 2 0,.pt 3 0,I (i : Nat),I (k : Nat),I (w : Nat),I (i : Nat)]) (hL9 yc w o u)) = some ([.fn (.yield 0) [] [],.pt 2 0,.pt 3 0,I (i : Nat),I (k + 1 : Nat),I (w : Nat),I (i : Nat)],hL9 yc w p.1 p.2) := by
  have hl := low_line t y.bl hi hk hk6
  have e1 := w103 y (w := i) (by omega)
  have e2 := w103 y (w := k) (by omega)
  have b1 := y.bl i (by omega)
  have b2 := y.bl k (by omega)
  have e3 := w104 (pw := i) (po := lo i) (pu := 1) (qw := k) (qo := lo k) (qu := 1) (wk := w) (by omega) (by omega) (by omega) (by omega) (by omega) (by omega) (by omega)
  unfold lnR at e3
  rw [if_neg (by have := hl.u1; omega)] at e3
  generalize lnO (i : Int) (lo i) 1 (k : Int) (lo k) 1 (w : Int) = a at *
  generalize lnU (i : Int) 1 (k : Int) 1 = b at *
  have e4 := low_98 h hl
  obtain ⟨o',u',hp,he⟩ := low_bst h hl
  rw [he] at e4
  refine ⟨(o',u'),hp,?_⟩
  have yy : runYW progX (.fn (.yield 0) [] []) [.agg [I a,I b]] [some (.loop 69 0 [.pt 1 0] .ready),some (.blk true (.cells true [I o,I u]))] = some (.bool true,[some (.loop 69 0 [.pt 1 0] .ready),some (.blk true (.cells true [I o',I u']))]) := by
    rw [runYW_eq (K := 69) (d := x69) (site := 0) (vs := [.pt 1 0]) rfl rfl (by rfl) rfl]
    (sym => (simp [Za,Zb,Zc,Zd,Ze,Zf,Zg,Zh,Zj,Zk,Zl,Zm,Zn,Zt,Zu,Zz,Z0,Z1,Z2,Z5,ZD,ZE,ZG,ZH,ZI,ZJ,ZL,ZM,ZN,ZO,ZQ,ZR,ZU,ZX,Yh,Yq,YP,YQ,YR,YT,YX,YY,Xc,Xd,Xe,Xf,Xo,Xp,Xq,Xt,Xu,Xy,Xz,XN,Wo,Wz,W0,W3,W4,W5,W6,W7,W8,WA,WB,WC,WE,WF,WG,WH,WI,WJ,WK,WL,WM,WN,WO,WP,WQ,WS,WT,WU,WW,WX,WY,WZ,Vb,Vc,Vd,Ve,Vf,Vg,Vh,Vi,Vj,Vk,Vl,Vm,Vn,Vo,Vs,Vu,Vv,Vx,Vy,Vz,V0,V8,VB,VM,VN,VO,VP,VQ,VR,VV,VW,VX,VY,VZ,Ua,Ub,Uc,Ud,Ug,Uj,Um,Un,Uo,Uq,Us,Uw,Ux,Uz,U0,U1,U2,U3,U4,U5,U6,U7,U8,U9,UE,UF,UG,UH,UI,UJ,UM,UN,UO,UP,UY,UZ,Tc,Td,Te,Tf,Ti,Tn,Tp,Tr,Tt,Tu,Tx,T0,T1,T2,TA,TL,TM,TN,TO,TW,TX,TY,TZ,Sa,Sg,Sn,Sq,Sr,Ss,Su,Sy,Sz,S6,e4]; all_goals tactic => exact rfl))
  have a2 := up_ix hk6 (by omega)
  have a1 : ((k : Int) < 6) = True := eq_true (by omega)
  have c0 := y.c0
  generalize lo i = li at *
  generalize lo k = lk at *
  unfold x115l0
  dsimp only
  (sym => (simp [Za,Zb,Zc,Zd,Ze,Zf,Zg,Zh,Zj,Zk,Zl,Zm,Zn,Zt,Zu,Zz,Z0,Z1,Z2,Z5,ZD,ZE,ZG,ZH,ZI,ZJ,ZL,ZM,ZN,ZO,ZQ,ZR,ZU,ZX,Yh,Yq,YP,YQ,YR,YT,YX,YY,Xc,Xd,Xe,Xf,Xo,Xp,Xq,Xt,Xu,Xy,Xz,XN,Wo,Wz,W0,W3,W4,W5,W6,W7,W8,WA,WB,WC,WE,WF,WG,WH,WI,WJ,WK,WL,WM,WN,WO,WP,WQ,WS,WT,WU,WW,WX,WY,WZ,Vb,Vc,Vd,Ve,Vf,Vg,Vh,Vi,Vj,Vk,Vl,Vm,Vn,Vo,Vs,Vu,Vv,Vx,Vy,Vz,V0,V8,VB,VM,VN,VO,VP,VQ,VR,VV,VW,VX,VY,VZ,Ua,Ub,Uc,Ud,Ug,Uj,Um,Un,Uo,Uq,Us,Uw,Ux,Uz,U0,U1,U2,U3,U4,U5,U6,U7,U8,U9,UE,UF,UG,UH,UI,UJ,UM,UN,UO,UP,UY,UZ,Tc,Td,Te,Tf,Ti,Tn,Tp,Tr,Tt,Tu,Tx,T0,T1,T2,TA,TL,TM,TN,TO,TW,TX,TY,TZ,Sa,Sg,Sn,Sq,Sr,Ss,Su,Sy,Sz,S6,a1,a2,c0,e1,e2,e3,yy]; all_goals tactic => exact rfl))
end
end Go.Proofs.YtpbeclkpohehgaaDoor
namespace Go.Proofs.YtpbeclkpohehgaaDoor
open Go Go.DL
set_option maxRecDepth 100000
set_option maxHeartbeats 4000000
section
variable {s lo hi : Nat → Int} (t : SwOk s lo hi) {yc : List AV} (y : YrOk yc lo hi)
include t y
theorem round115o {w : Nat} (hw : w < 6) {i : Nat} (hi : i < w) {o u : Int} (h : LowP s w o u) : ∃ p : Int × Int,LowP s w p.1 p.2 ∧
    headX 5 [0,1,2,6,7] (execW progX 115 5 none (match x115l1 with | .loop _ a => a | c => c) (envL [0,1,2,6,7] [.fn (.yield 0) [] [],.pt 2 0,.pt 3 0,I (w : Nat),I (i : Nat)]) (hL9 yc w o u)) = some ([.fn (.yield 0) [] [],.pt 2 0,.pt 3 0,I (w : Nat),I (i + 1 : Nat)],hL9 yc w p.1 p.2) := by
  obtain ⟨F,F0,FI,FS⟩ := seq_of (σ := Int × Int) (5 - w) (fun _ p => LowP s w p.1 p.2) (fun j p p' => headX 5 [0,1,2,4,5,6,7] (execW progX 115 5 none (match x115l0 with | .loop _ a => a | c => c) (envL [0,1,2,4,5,6,7] [.fn (.yield 0) [] [],.pt 2 0,.pt 3 0,I (i : Nat),I (w + 1 + j : Nat),I (w : Nat),I (i : Nat)]) (hL9 yc w p.1 p.2)) = some ([.fn (.yield 0) [] [],.pt 2 0,.pt 3 0,I (i : Nat),I (w + 1 + j + 1 : Nat),I (w : Nat),I (i : Nat)],hL9 yc w p'.1 p'.2)) (o,u) h (fun j p hj hp => round115 t y hw hi (k := w + 1 + j) (by omega) (by omega) hp)
  refine ⟨F (5 - w),FI _ (Nat.le_refl _),?_⟩
  have a1 := eq_true (show ((i : Int) < (w : Int)) by omega)
  have a2 := up_ix hi (by omega)
  have a3 : IntKind.i64.wrap ((w : Int) + 1) = ((w + 1 : Nat) : Int) := wrap_ok (by omega) (by omega)
  have hk : w + 1 + (5 - w) = 6 := by omega
  have c0 := y.c0
  have e0 : F 0 = (o,u) := F0
  generalize hm : w + 1 = m at *
  unfold x115l1
  dsimp only
  sym =>
    simp [Za,Zb,Zd,Ze,Zf,Zh,Zl,Zm,Zt,Z0,Z1,Z5,ZD,ZX,Yh,Yq,YD,YP,YQ,YY,Xd,Xo,Xu,Xz,Wz,W0,W3,WA,WB,WG,WI,WK,WM,WN,WO,WP,WQ,WW,WX,WY,WZ,Vb,Vc,Vd,Ve,VM,VN,VO,VP,VQ,VR,VS,VV,VW,VX,VY,VZ,Ua,Ub,Uw,Ux,Uy,U1,U2,U3,U4,U5,UY,UZ,Td,Tn,Tp,Tr,Ts,Tt,Tu,Tv,Tx,Tz,T0,T1,T2,a1,a3]
    tactic =>
      unfold x115l0
      rw [loop_rule (5 - w) (fun j => [.fn (.yield 0) [] [],.pt 2 0,.pt 3 0,I (i : Nat),I (m + j : Nat),I (w : Nat),I (i : Nat)]) (fun j => hL9 yc w (F j).1 (F j).2)]
      · rw [hk]
        (sym => (simp [Za,Zb,Zd,Ze,Zf,Zh,Zl,Zm,Zt,Z0,Z1,Z5,ZD,ZX,Yh,Yq,YD,YP,YQ,YY,Xd,Xo,Xu,Xz,Wz,W0,W3,WA,WB,WG,WI,WK,WM,WN,WO,WP,WQ,WW,WX,WY,WZ,Vb,Vc,Vd,Ve,VM,VN,VO,VP,VQ,VR,VS,VV,VW,VX,VY,VZ,Ua,Ub,Uw,Ux,Uy,U1,U2,U3,U4,U5,UY,UZ,Td,Tn,Tp,Tr,Ts,Tt,Tu,Tv,Tx,Tz,T0,T1,T2,c0,a2]; all_goals tactic => exact rfl))
      · rw [e0,Nat.add_zero]
        (sym => (simp [Za,Zb,Zd,Ze,Zf,Zh,Zl,Zm,Zt,Z0,Z1,Z5,ZD,ZX,Yh,Yq,YD,YP,YQ,YY,Xd,Xo,Xu,Xz,Wz,W0,W3,WA,WB,WG,WI,WK,WM,WN,WO,WP,WQ,WW,WX,WY,WZ,Vb,Vc,Vd,Ve,VM,VN,VO,VP,VQ,VR,VS,VV,VW,VX,VY,VZ,Ua,Ub,Uw,Ux,Uy,U1,U2,U3,U4,U5,UY,UZ,Td,Tn,Tp,Tr,Ts,Tt,Tu,Tv,Tx,Tz,T0,T1,T2]; all_goals tactic => exact rfl))
      · exact FS
      · rw [hk]
        (sym => (simp [Za,Zb,Zd,Ze,Zf,Zh,Zl,Zm,Zt,Z0,Z1,Z5,ZD,ZX,Yh,Yq,YD,YP,YQ,YY,Xd,Xo,Xu,Xz,Wz,W0,W3,WA,WB,WG,WI,WK,WM,WN,WO,WP,WQ,WW,WX,WY,WZ,Vb,Vc,Vd,Ve,VM,VN,VO,VP,VQ,VR,VS,VV,VW,VX,VY,VZ,Ua,Ub,Uw,Ux,Uy,U1,U2,U3,U4,U5,UY,UZ,Td,Tn,Tp,Tr,Ts,Tt,Tu,Tv,Tx,Tz,T0,T1,T2,c0]; all_goals tactic => exact rfl))
theorem w115 {w : Nat} (hw : w < 6) {o u : Int} (h : LowP s w o u) : ∃ p : Int × Int,LowP s w p.1 p.2 ∧ runW progX 115 [.fn (.yield 0) [] [],.pt 2 0,.pt 3 0] (hL9 yc w o u) = some (.tup [],hL9 yc w p.1 p.2) := by
  obtain ⟨F,F0,FI,FS⟩ := seq_of (σ := Int × Int) w (fun _ p => LowP s w p.1 p.2) (fun i p p' => headX 5 [0,1,2,6,7] (execW progX 115 5 none (match x115l1 with | .loop _ a => a | c => c) (envL [0,1,2,6,7] [.fn (.yield 0) [] [],.pt 2 0,.pt 3 0,I (w : Nat),I (i : Nat)]) (hL9 yc w p.1 p.2)) = some ([.fn (.yield 0) [] [],.pt 2 0,.pt 3 0,I (w : Nat),I (i + 1 : Nat)],hL9 yc w p'.1 p'.2)) (o,u) h (fun i p hi hp => round115o t y hw hi hp)
  refine ⟨F w,FI _ (Nat.le_refl _),?_⟩
  have z := UX (n := (w : Int))
  have e0 : F 0 = (o,u) := F0
  rw [r115 (by simp)]; unfold x115; dsimp only
  sym =>
    simp [Za,Zb,Zd,Ze,Zf,Zh,Zl,Zm,Zt,Z1,ZD,Yq,Y3,YQ,YU,YY,Xd,Xo,Xr,Xu,Xz,XK,Wf,Wi,Wm,Wz,W0,W3,W9,WA,WB,WG,WI,WK,WM,WN,WO,WP,WQ,WW,WX,WY,WZ,Vb,Vc,Vd,Ve,Vs,V5,V7,V9,VA,VB,VC,VE,VG,VL,VM,VN,VO,VP,VR,VS,VU,VV,VW,VX,VY,VZ,Ua,Ub,Uc,Ud,Uw,Uy,U1,U2,U3,U4,U5,U8,UC,UD,UX,UY,UZ,Td,Tn,Tp,Ts,Tt,Tu,Tv,Tz,T0,T1,T2,Sg]
    tactic =>
      unfold x115l1
      rw [loop_rule w (fun i => [.fn (.yield 0) [] [],.pt 2 0,.pt 3 0,I (w : Nat),I (i : Nat)]) (fun i => hL9 yc w (F i).1 (F i).2)]
      · (sym => (simp [Za,Zb,Zd,Ze,Zf,Zh,Zl,Zm,Zt,Z1,ZD,Yq,Y3,YQ,YU,YY,Xd,Xo,Xr,Xu,Xz,XK,Wf,Wi,Wm,Wz,W0,W3,W9,WA,WB,WG,WI,WK,WM,WN,WO,WP,WQ,WW,WX,WY,WZ,Vb,Vc,Vd,Ve,Vs,V5,V7,V9,VA,VB,VC,VE,VG,VL,VM,VN,VO,VP,VR,VS,VU,VV,VW,VX,VY,VZ,Ua,Ub,Uc,Ud,Uw,Uy,U1,U2,U3,U4,U5,U8,UC,UD,UX,UY,UZ,Td,Tn,Tp,Ts,Tt,Tu,Tv,Tz,T0,T1,T2,Sg,z]; all_goals tactic => exact rfl))
      · rw [e0]
        (sym => (simp [Za,Zb,Zd,Ze,Zf,Zh,Zl,Zm,Zt,Z1,ZD,Yq,Y3,YQ,YU,YY,Xd,Xo,Xr,Xu,Xz,XK,Wf,Wi,Wm,Wz,W0,W3,W9,WA,WB,WG,WI,WK,WM,WN,WO,WP,WQ,WW,WX,WY,WZ,Vb,Vc,Vd,Ve,Vs,V5,V7,V9,VA,VB,VC,VE,VG,VL,VM,VN,VO,VP,VR,VS,VU,VV,VW,VX,VY,VZ,Ua,Ub,Uc,Ud,Uw,Uy,U1,U2,U3,U4,U5,U8,UC,UD,UX,UY,UZ,Td,Tn,Tp,Ts,Tt,Tu,Tv,Tz,T0,T1,T2,Sg]; all_goals tactic => exact rfl))
      · exact FS
      · (sym => (simp [Za,Zb,Zd,Ze,Zf,Zh,Zl,Zm,Zt,Z1,ZD,Yq,Y3,YQ,YU,YY,Xd,Xo,Xr,Xu,Xz,XK,Wf,Wi,Wm,Wz,W0,W3,W9,WA,WB,WG,WI,WK,WM,WN,WO,WP,WQ,WW,WX,WY,WZ,Vb,Vc,Vd,Ve,Vs,V5,V7,V9,VA,VB,VC,VE,VG,VL,VM,VN,VO,VP,VR,VS,VU,VV,VW,VX,VY,VZ,Ua,Ub,Uc,Ud,Uw,Uy,U1,U2,U3,U4,U5,U8,UC,UD,UX,UY,UZ,Td,Tn,Tp,Ts,Tt,Tu,Tv,Tz,T0,T1,T2,Sg,z]; all_goals tactic => exact rfl))
theorem w69 {w : Nat} (hw : w < 6) : ∃ o u : Int,LowP s w o u ∧ runW progX 69 [.pt 0 0,I (w : Nat)] [bY yc] = some (.agg [I o,I u],[bY yc]) := by
  have b := y.bl w hw
  have l := t.gl w hw
  obtain ⟨p,hp,e⟩ := w115 t y hw (o := lo w) (u := 1) ⟨by omega,by omega,by omega,by omega,by omega⟩
  refine ⟨p.1,p.2,hp,?_⟩
  have c1 := y.gl w hw
  have c2 : yc[1 + w]? = some (I (lo w)) := by rw [Nat.add_comm]; exact c1
  have k1 : (0 ≤ (w : Int)) = True := eq_true (by omega)
  have k2 : ((w : Int) < 30) = True := eq_true (by omega)
  have e1 := w97 (lo w)
  have e2 := w101 yc w
  generalize lo w = x at *
  generalize p.1 = o at *
  generalize p.2 = u at *
  rw [r69 (by simp)]; unfold x69; dsimp only
  (sym => (simp [Za,Zb,Zc,Zf,Zg,Zh,Zj,Zl,Zm,Zt,Zu,Z0,Z5,Z6,ZD,ZH,ZI,ZL,ZM,ZQ,ZR,ZX,Yu,Yv,YF,YP,YQ,YT,YY,Xd,Xe,Xo,Xq,Xr,Xu,Xy,Xz,X0,XJ,XN,Wc,We,Wi,Wo,Wz,W0,W3,W4,W5,W6,W7,W8,W9,WA,WB,WC,WE,WF,WH,WI,WJ,WK,WL,WM,WN,WO,WP,WQ,WS,WT,WU,WW,WX,WY,WZ,Vb,Vc,Vd,Ve,Vf,Vg,Vh,Vi,Vs,Vu,Vv,Vw,V6,V7,V9,VA,VB,VC,VD,VG,VH,VI,VK,VL,VU,VV,VW,VX,VY,VZ,Ua,Ub,Uc,Ud,Ug,Uj,Us,Uw,U1,U2,U3,U4,U5,U6,U7,U8,U9,UC,UD,UE,UY,UZ,Tc,Td,Te,Tf,Tp,Tq,Tt,Tu,Tx,T1,T2,T4,TL,TM,TP,TQ,TR,TS,TT,TU,Sg,Sw,Sy,Sz,S7,c1,c2,k1,k2,e,e1,e2]; all_goals tactic => exact rfl))
end
end Go.Proofs.YtpbeclkpohehgaaDoor
namespace Go.Proofs.YtpbeclkpohehgaaDoor
open Go Go.DL
set_option maxRecDepth 100000
set_option maxHeartbeats 4000000
structure UpP (s : Nat → Int) (w : Nat) (o u : Int) : Prop where
  u1 : 1 ≤ u
  u2 : u ≤ 5
  o1 : -1000000 ≤ o
  o2 : o ≤ 1000000
  le : s w * u ≤ o
def Mid (i j w : Nat) : Prop := (i < j ∧ j < w ∧ w < 6) ∨ (w < j ∧ j < i ∧ i < 6)
abbrev hB2 (yc : List AV) (w : Nat) (o u : Int) : XH := [some (.blk false (.cells true [.pt 1 0])),bY yc,some (.blk true (.cells true [I (w : Nat)])),some (.blk true (.cells true [I o,I u]))]
section
variable {s lo hi : Nat → Int} (t : SwOk s lo hi) {yc : List AV} (y : YrOk yc lo hi)
include t y
theorem up_line {i j w : Nat} (h : Mid i j w) : ∃ a b : Int,lnR i (lo i) 1 j (hi j) 1 w = .agg [I a,I b] ∧ UpP s w a b := by
  have eU : lnU (i : Int) 1 (j : Int) 1 = (j : Int) - (i : Int) := by unfold lnU; omega
  have eO : lnO (i : Int) (lo i) 1 (j : Int) (hi j) 1 (w : Int) = lo i * ((j : Int) - (w : Int)) + hi j * ((w : Int) - (i : Int)) := by unfold lnO; grind
  have hi6 : i < 6 ∧ j < 6 := by unfold Mid at h; omega
  have l1 := t.gl i hi6.1
  have l2 := t.gh j hi6.2
  have b1 := y.bl i hi6.1
  have b2 := y.bh j hi6.2
  unfold lnR
  rw [eU,eO]
  rcases h with ⟨h1,h2,h3⟩ | ⟨h1,h2,h3⟩
  · have hc := conc t h1 h2 h3
    rw [if_neg (by omega)]
    refine ⟨_,_,rfl,?_⟩
    have m1 := Int.mul_le_mul_of_nonneg_right l1 (show (0 : Int) ≤ (w : Int) - (j : Int) by omega)
    have m2 := Int.mul_le_mul_of_nonneg_right l2 (show (0 : Int) ≤ (w : Int) - (i : Int) by omega)
    have n1 := mul_bd (a := lo i) (b := (w : Int) - (j : Int)) (A := 30000) (B := 5) (by omega) (by omega)
    have n2 := mul_bd (a := hi j) (b := (w : Int) - (i : Int)) (A := 30000) (B := 5) (by omega) (by omega)
    rw [show (j : Int) - (w : Int) = -((w : Int) - (j : Int)) by omega,Int.mul_neg]
    exact ⟨by omega,by omega,by omega,by omega,by omega⟩
  · have hc := conc t h1 h2 h3
    rw [if_pos (by omega)]
    refine ⟨_,_,rfl,?_⟩
    have m1 := Int.mul_le_mul_of_nonneg_right l1 (show (0 : Int) ≤ (j : Int) - (w : Int) by omega)
    have m2 := Int.mul_le_mul_of_nonneg_right l2 (show (0 : Int) ≤ (i : Int) - (w : Int) by omega)
    have n1 := mul_bd (a := lo i) (b := (j : Int) - (w : Int)) (A := 30000) (B := 5) (by omega) (by omega)
    have n2 := mul_bd (a := hi j) (b := (i : Int) - (w : Int)) (A := 30000) (B := 5) (by omega) (by omega)
    rw [show (w : Int) - (i : Int) = -((i : Int) - (w : Int)) by omega,Int.mul_neg]
    rw [show -((j : Int) - (i : Int)) = (i : Int) - (j : Int) by omega]
    exact ⟨by omega,by omega,by omega,by omega,by omega⟩
theorem w102 {i j w : Nat} (h : Mid i j w) {o u : Int} (hp : UpP s w o u) : ∃ p : Int × Int,UpP s w p.1 p.2 ∧ runW progX 102 [I (i : Nat),I (j : Nat),.pt 0 0,.pt 2 0,.pt 3 0] (hB2 yc w o u) = some (.tup [],hB2 yc w p.1 p.2) := by
  have hi6 : i < 6 ∧ j < 6 ∧ w < 6 := by unfold Mid at h; omega
  obtain ⟨a,b,e,hq⟩ := up_line t y h
  have b1 := y.bl i hi6.1
  have b2 := y.bh j hi6.2.1
  have e1 := w103 y hi6.1
  have e2 := w97 (hi j)
  have e3 := w104 (pw := i) (po := lo i) (pu := 1) (qw := j) (qo := hi j) (qu := 1) (wk := w) (by omega) (by omega) (by omega) (by omega) (by omega) (by omega) (by omega)
  rw [e] at e3
  have e4 := w67 (a := a) (b := b) (c := o) (d := u) (mul_ok (A := 1000000) (B := 5) ⟨hq.o1,hq.o2⟩ ⟨by have := hp.u1; omega,hp.u2⟩ (by decide)) (mul_ok (A := 1000000) (B := 5) ⟨hp.o1,hp.o2⟩ ⟨by have := hq.u1; omega,hq.u2⟩ (by decide))
  have c2 := y.gh j hi6.2.1
  have c3 : yc[31 + j]? = some (I (hi j)) := by rw [Nat.add_comm]; exact c2
  have k1 : (0 ≤ (j : Int)) = True := eq_true (by omega)
  have k2 : ((j : Int) < 30) = True := eq_true (by omega)
  have sm := y.sm
  generalize lo i = li at *
  generalize hi j = hj at *
  unfold cmpF at e4
  by_cases g : a * u < o * b
  · rw [if_pos g] at e4
    refine ⟨(a,b),hq,?_⟩
    rw [r102 (by simp)]; unfold x102; dsimp only
    (sym => (simp [Za,Zb,Zc,Zd,Ze,Zf,Zg,Zh,Zj,Zk,Zl,Zm,Zt,Zu,Zy,Z0,Z1,Z5,Z6,ZD,ZE,ZG,ZH,ZI,ZJ,ZK,ZL,ZM,ZN,ZO,ZQ,ZR,ZX,Yq,Yu,Yv,YF,YO,YP,YQ,YT,YU,YY,Xe,Xo,Xq,Xr,Xu,X0,XK,XN,Wc,Wf,Wi,Wn,Wo,Wx,Wz,W0,W3,W4,W5,W6,W7,W8,W9,WA,WB,WE,WF,WG,WI,WJ,WK,WL,WM,WN,WO,WP,WQ,WS,WT,WU,WW,WX,WY,Vb,Vc,Vd,Vf,Vg,Vh,Vi,Vj,Vk,Vl,Vn,Vo,Vs,Vu,Vv,Vw,Vx,Vy,Vz,V0,V5,V7,V9,VA,VB,VC,VE,VG,VL,VP,VQ,VR,VU,VV,VW,VX,VY,VZ,Ua,Ub,Uc,Ud,Uj,Um,Un,Uo,Uq,Us,Uw,Ux,Uy,Uz,U0,U1,U2,U3,U4,U5,U6,U7,U8,U9,UC,UD,UE,UF,UG,UH,UY,UZ,Tc,Td,Te,Tf,Tn,Tp,Tr,Tu,T1,T2,T4,Sf,Sg,Sn,Sq,Sr,Ss,Su,Sw,Sy,Sz,S6,S7,c2,c3,k1,k2,sm,e1,e2,e3,e4]; all_goals tactic => exact rfl))
  · rw [if_neg g] at e4
    refine ⟨(o,u),hp,?_⟩
    by_cases g' : o * b < a * u
    · rw [if_pos g'] at e4
      rw [r102 (by simp)]; unfold x102; dsimp only
      (sym => (simp [Za,Zb,Zc,Zd,Ze,Zf,Zg,Zh,Zj,Zk,Zl,Zm,Zt,Zu,Zy,Z0,Z1,Z5,Z6,ZD,ZE,ZG,ZH,ZI,ZJ,ZK,ZL,ZM,ZN,ZO,ZQ,ZR,ZX,Yq,Yu,Yv,YF,YO,YP,YQ,YT,YU,YY,Xe,Xo,Xq,Xr,Xu,X0,XK,XN,Wc,Wf,Wi,Wn,Wo,Wx,Wz,W0,W3,W4,W5,W6,W7,W8,W9,WA,WB,WE,WF,WG,WI,WJ,WK,WL,WM,WN,WO,WP,WQ,WS,WT,WU,WW,WX,WY,Vb,Vc,Vd,Vf,Vg,Vh,Vi,Vj,Vk,Vl,Vn,Vo,Vs,Vu,Vv,Vw,Vx,Vy,Vz,V0,V5,V7,V9,VA,VB,VC,VE,VG,VL,VP,VQ,VR,VU,VV,VW,VX,VY,VZ,Ua,Ub,Uc,Ud,Uj,Um,Un,Uo,Uq,Us,Uw,Ux,Uy,Uz,U0,U1,U2,U3,U4,U5,U6,U7,U8,U9,UC,UD,UE,UF,UG,UH,UY,UZ,Tc,Td,Te,Tf,Tn,Tp,Tr,Tu,T1,T2,T4,Sf,Sg,Sn,Sq,Sr,Ss,Su,Sw,Sy,Sz,S6,S7,c2,c3,k1,k2,sm,e1,e2,e3,e4]; all_goals tactic => exact rfl))
    · rw [if_neg g'] at e4
      rw [r102 (by simp)]; unfold x102; dsimp only
      (sym => (simp [Za,Zb,Zc,Zd,Ze,Zf,Zg,Zh,Zj,Zk,Zl,Zm,Zt,Zu,Zy,Z0,Z1,Z5,Z6,ZD,ZE,ZG,ZH,ZI,ZJ,ZK,ZL,ZM,ZN,ZO,ZQ,ZR,ZX,Yq,Yu,Yv,YF,YO,YP,YQ,YT,YU,YY,Xe,Xo,Xq,Xr,Xu,X0,XK,XN,Wc,Wf,Wi,Wn,Wo,Wx,Wz,W0,W3,W4,W5,W6,W7,W8,W9,WA,WB,WE,WF,WG,WI,WJ,WK,WL,WM,WN,WO,WP,WQ,WS,WT,WU,WW,WX,WY,Vb,Vc,Vd,Vf,Vg,Vh,Vi,Vj,Vk,Vl,Vn,Vo,Vs,Vu,Vv,Vw,Vx,Vy,Vz,V0,V5,V7,V9,VA,VB,VC,VE,VG,VL,VP,VQ,VR,VU,VV,VW,VX,VY,VZ,Ua,Ub,Uc,Ud,Uj,Um,Un,Uo,Uq,Us,Uw,Ux,Uy,Uz,U0,U1,U2,U3,U4,U5,U6,U7,U8,U9,UC,UD,UE,UF,UG,UH,UY,UZ,Tc,Td,Te,Tf,Tn,Tp,Tr,Tu,T1,T2,T4,Sf,Sg,Sn,Sq,Sr,Ss,Su,Sw,Sy,Sz,S6,S7,c2,c3,k1,k2,sm,e1,e2,e3,e4]; all_goals tactic => exact rfl))
end
abbrev hU7 (yc : List AV) (w : Nat) (o u : Int) : XH := [bY yc,some (.blk true (.cells true [I (w : Nat)])),some (.blk true (.cells true [I 0,I 0])),some (.blk true (.cells true [I o,I u])),some (.blk false (.cells true [.pt 0 0]))]
abbrev cl71 : AV := .fn (.func 102) [] [.pt 4 0,.pt 1 0,.pt 3 0]
section
variable {s lo hi : Nat → Int} (t : SwOk s lo hi) {yc : List AV} (y : YrOk yc lo hi)
include t y
theorem round71 {i j w : Nat} (h : Mid i j w) {o u : Int} (hp : UpP s w o u) : ∃ p : Int × Int,UpP s w p.1 p.2 ∧
    headX 1 [3,4,5,6,7,8,20,21] (execW progX 71 1 none (match x71l0 with | .loop _ a => a | c => c) (envL [3,4,5,6,7,8,20,21] [.pt 1 0,.pt 2 0,.pt 3 0,cl71,I (i : Nat),I (j : Nat),I 6,I (i : Nat)]) (hU7 yc w o u)) = some ([.pt 1 0,.pt 2 0,.pt 3 0,cl71,I (i : Nat),I (j + 1 : Nat),I 6,I (i : Nat)],hU7 yc w p.1 p.2) := by
  obtain ⟨p,hq,e⟩ := w102 t y h hp
  refine ⟨p,hq,?_⟩
  have a2 : IntKind.i64.wrap ((j : Int) + 1) = (j : Int) + 1 := wrap_ok (by unfold Mid at h; omega) (by unfold Mid at h; omega)
  generalize p.1 = o' at *
  generalize p.2 = u' at *
  unfold x71l0
  dsimp only
  by_cases g : (w : Int) > (i : Int)
  · have g1 := eq_true g
    have g2 : ((j : Int) < (w : Int)) = True := eq_true (by unfold Mid at h; omega)
    (sym => (simp [Za,Zb,Zf,Zh,Zl,Zm,Zt,Z1,ZC,ZD,ZL,ZM,ZQ,ZR,Yh,Yq,YG,YQ,YY,Xc,Xo,Xr,Xu,Xy,Wz,W0,W3,W4,W7,W8,WA,WB,WC,WE,WF,WG,WH,WI,WJ,WK,WL,WM,WN,WO,WP,WQ,WR,WS,WT,WU,WW,WX,WY,Vb,Vc,Vd,Vf,Vg,Vh,Vi,VM,VN,VO,VP,VQ,VV,VW,VX,VY,VZ,Ua,Ub,Uc,Ud,Ug,Uv,Uw,Ux,U1,U2,U3,U4,U5,UY,UZ,Td,Tn,Tp,Tr,Tt,Tu,Tx,T0,T1,T2,e,a2,g1,g2]; all_goals tactic => exact rfl))
  · have g1 := eq_false g
    have g2 : ((j : Int) < (i : Int)) = True := eq_true (by unfold Mid at h; omega)
    (sym => (simp [Za,Zb,Zf,Zh,Zl,Zm,Zt,Z1,ZC,ZD,ZL,ZM,ZQ,ZR,Yh,Yq,YG,YQ,YY,Xc,Xo,Xr,Xu,Xy,Wz,W0,W3,W4,W7,W8,WA,WB,WC,WE,WF,WG,WH,WI,WJ,WK,WL,WM,WN,WO,WP,WQ,WR,WS,WT,WU,WW,WX,WY,Vb,Vc,Vd,Vf,Vg,Vh,Vi,VM,VN,VO,VP,VQ,VV,VW,VX,VY,VZ,Ua,Ub,Uc,Ud,Ug,Uv,Uw,Ux,U1,U2,U3,U4,U5,UY,UZ,Td,Tn,Tp,Tr,Tt,Tu,Tx,T0,T1,T2,e,a2,g1,g2]; all_goals tactic => exact rfl))
theorem round71o {i w : Nat} (hi : i < 6) (hw : w < 6) {o u : Int} (hp : UpP s w o u) : ∃ p : Int × Int,UpP s w p.1 p.2 ∧
    headX 1 [3,4,5,6,20,21] (execW progX 71 1 none (match x71l1 with | .loop _ a => a | c => c) (envL [3,4,5,6,20,21] [.pt 1 0,.pt 2 0,.pt 3 0,cl71,I 6,I (i : Nat)]) (hU7 yc w o u)) = some ([.pt 1 0,.pt 2 0,.pt 3 0,cl71,I 6,I (i + 1 : Nat)],hU7 yc w p.1 p.2) := by
  obtain ⟨F,F0,FI,FS⟩ := seq_of (σ := Int × Int) (max i w - (min i w + 1)) (fun _ p => UpP s w p.1 p.2) (fun j p p' => headX 1 [3,4,5,6,7,8,20,21] (execW progX 71 1 none (match x71l0 with | .loop _ a => a | c => c) (envL [3,4,5,6,7,8,20,21] [.pt 1 0,.pt 2 0,.pt 3 0,cl71,I (i : Nat),I (min i w + 1 + j : Nat),I 6,I (i : Nat)]) (hU7 yc w p.1 p.2)) = some ([.pt 1 0,.pt 2 0,.pt 3 0,cl71,I (i : Nat),I (min i w + 1 + j + 1 : Nat),I 6,I (i : Nat)],hU7 yc w p'.1 p'.2)) (o,u) hp (fun j p hj hq => round71 t y (by unfold Mid; omega) hq)
  refine ⟨F (max i w - (min i w + 1)),FI _ (Nat.le_refl _),?_⟩
  have a1 := eq_true (show ((i : Int) < 6) by omega)
  have a2 := up_ix hi (by omega)
  have e0 : F 0 = (o,u) := F0
  have hk : ∃ e : Nat,min i w + 1 + (max i w - (min i w + 1)) = e ∧ max i w ≤ e ∧ e ≤ 6 := ⟨_,rfl,by omega,by omega⟩
  obtain ⟨e,hk,he,he6⟩ := hk
  by_cases g : (w : Int) > (i : Int)
  · have g1 := eq_true g
    have g3 := eq_false (show ¬ ((w : Int) < (i : Int)) by omega)
    have a3 : IntKind.i64.wrap ((i : Int) + 1) = ((min i w + 1 : Nat) : Int) := by rw [a2]; omega
    have g4 := eq_false (show ¬ ((e : Int) < (w : Int)) by omega)
    generalize min i w + 1 = m at *
    generalize max i w - m = n at *
    unfold x71l1
    dsimp only
    sym =>
      simp [Za,Zb,Zd,Ze,Zf,Zh,Zl,Zm,Zt,Z1,ZC,ZD,Yh,Yq,YG,YH,YQ,YY,Xc,Xo,Xu,Xy,Wz,W0,W3,WA,WB,WC,WF,WG,WI,WJ,WK,WM,WO,WP,WQ,WR,WW,WX,WY,Vb,Vc,Vd,VM,VN,VO,VP,VQ,VR,VS,VV,VW,VX,VY,VZ,Ua,Ub,Ug,Uv,Uw,Ux,Uy,U2,U3,U4,U5,UY,UZ,Td,Tn,Tp,Tr,Ts,Tt,Tu,Tv,Tx,Tz,T0,T1,T2,a1,a3,g1,g3]
      tactic =>
        unfold x71l0
        rw [loop_rule n (fun j => [.pt 1 0,.pt 2 0,.pt 3 0,cl71,I (i : Nat),I (m + j : Nat),I 6,I (i : Nat)]) (fun j => hU7 yc w (F j).1 (F j).2)]
        · rw [hk]
          (sym => (simp [Za,Zb,Zd,Ze,Zf,Zh,Zl,Zm,Zt,Z1,ZC,ZD,Yh,Yq,YG,YH,YQ,YY,Xc,Xo,Xu,Xy,Wz,W0,W3,WA,WB,WC,WF,WG,WI,WJ,WK,WM,WO,WP,WQ,WR,WW,WX,WY,Vb,Vc,Vd,VM,VN,VO,VP,VQ,VR,VS,VV,VW,VX,VY,VZ,Ua,Ub,Ug,Uv,Uw,Ux,Uy,U2,U3,U4,U5,UY,UZ,Td,Tn,Tp,Tr,Ts,Tt,Tu,Tv,Tx,Tz,T0,T1,T2,g1,g4,a2]; all_goals tactic => exact rfl))
        · rw [e0,Nat.add_zero]
          (sym => (simp [Za,Zb,Zd,Ze,Zf,Zh,Zl,Zm,Zt,Z1,ZC,ZD,Yh,Yq,YG,YH,YQ,YY,Xc,Xo,Xu,Xy,Wz,W0,W3,WA,WB,WC,WF,WG,WI,WJ,WK,WM,WO,WP,WQ,WR,WW,WX,WY,Vb,Vc,Vd,VM,VN,VO,VP,VQ,VR,VS,VV,VW,VX,VY,VZ,Ua,Ub,Ug,Uv,Uw,Ux,Uy,U2,U3,U4,U5,UY,UZ,Td,Tn,Tp,Tr,Ts,Tt,Tu,Tv,Tx,Tz,T0,T1,T2]; all_goals tactic => exact rfl))
        · exact FS
        · rw [hk]
          (sym => (simp [Za,Zb,Zd,Ze,Zf,Zh,Zl,Zm,Zt,Z1,ZC,ZD,Yh,Yq,YG,YH,YQ,YY,Xc,Xo,Xu,Xy,Wz,W0,W3,WA,WB,WC,WF,WG,WI,WJ,WK,WM,WO,WP,WQ,WR,WW,WX,WY,Vb,Vc,Vd,VM,VN,VO,VP,VQ,VR,VS,VV,VW,VX,VY,VZ,Ua,Ub,Ug,Uv,Uw,Ux,Uy,U2,U3,U4,U5,UY,UZ,Td,Tn,Tp,Tr,Ts,Tt,Tu,Tv,Tx,Tz,T0,T1,T2,g1,g4]; all_goals tactic => exact rfl))
  · have g1 := eq_false g
    have a3 : IntKind.i64.wrap ((w : Int) + 1) = ((min i w + 1 : Nat) : Int) := by rw [wrap_ok (by omega) (by omega)]; omega
    have g4 := eq_false (show ¬ ((e : Int) < (i : Int)) by omega)
    by_cases gg : (w : Int) < (i : Int)
    · have g3 := eq_true gg
      generalize min i w + 1 = m at *
      generalize max i w - m = n at *
      unfold x71l1
      dsimp only
      sym =>
        simp [Za,Zb,Zd,Ze,Zf,Zh,Zl,Zm,Zt,Z1,ZC,ZD,Yh,Yq,YG,YH,YQ,YY,Xc,Xo,Xu,Xy,Wz,W0,W3,WA,WB,WC,WF,WG,WI,WJ,WK,WM,WO,WP,WQ,WR,WW,WX,WY,Vb,Vc,Vd,VM,VN,VO,VP,VQ,VR,VS,VV,VW,VX,VY,VZ,Ua,Ub,Ug,Uv,Uw,Ux,Uy,U2,U3,U4,U5,UY,UZ,Td,Tn,Tp,Tr,Ts,Tt,Tu,Tv,Tx,Tz,T0,T1,T2,a1,a3,g1,g3]
        tactic =>
          unfold x71l0
          rw [loop_rule n (fun j => [.pt 1 0,.pt 2 0,.pt 3 0,cl71,I (i : Nat),I (m + j : Nat),I 6,I (i : Nat)]) (fun j => hU7 yc w (F j).1 (F j).2)]
          · rw [hk]
            (sym => (simp [Za,Zb,Zd,Ze,Zf,Zh,Zl,Zm,Zt,Z1,ZC,ZD,Yh,Yq,YG,YH,YQ,YY,Xc,Xo,Xu,Xy,Wz,W0,W3,WA,WB,WC,WF,WG,WI,WJ,WK,WM,WO,WP,WQ,WR,WW,WX,WY,Vb,Vc,Vd,VM,VN,VO,VP,VQ,VR,VS,VV,VW,VX,VY,VZ,Ua,Ub,Ug,Uv,Uw,Ux,Uy,U2,U3,U4,U5,UY,UZ,Td,Tn,Tp,Tr,Ts,Tt,Tu,Tv,Tx,Tz,T0,T1,T2,g1,g4,a2]; all_goals tactic => exact rfl))
          · rw [e0,Nat.add_zero]
            (sym => (simp [Za,Zb,Zd,Ze,Zf,Zh,Zl,Zm,Zt,Z1,ZC,ZD,Yh,Yq,YG,YH,YQ,YY,Xc,Xo,Xu,Xy,Wz,W0,W3,WA,WB,WC,WF,WG,WI,WJ,WK,WM,WO,WP,WQ,WR,WW,WX,WY,Vb,Vc,Vd,VM,VN,VO,VP,VQ,VR,VS,VV,VW,VX,VY,VZ,Ua,Ub,Ug,Uv,Uw,Ux,Uy,U2,U3,U4,U5,UY,UZ,Td,Tn,Tp,Tr,Ts,Tt,Tu,Tv,Tx,Tz,T0,T1,T2]; all_goals tactic => exact rfl))
          · exact FS
          · rw [hk]
            (sym => (simp [Za,Zb,Zd,Ze,Zf,Zh,Zl,Zm,Zt,Z1,ZC,ZD,Yh,Yq,YG,YH,YQ,YY,Xc,Xo,Xu,Xy,Wz,W0,W3,WA,WB,WC,WF,WG,WI,WJ,WK,WM,WO,WP,WQ,WR,WW,WX,WY,Vb,Vc,Vd,VM,VN,VO,VP,VQ,VR,VS,VV,VW,VX,VY,VZ,Ua,Ub,Ug,Uv,Uw,Ux,Uy,U2,U3,U4,U5,UY,UZ,Td,Tn,Tp,Tr,Ts,Tt,Tu,Tv,Tx,Tz,T0,T1,T2,g1,g4]; all_goals tactic => exact rfl))
    · have g3 := eq_false gg
      have a3 : IntKind.i64.wrap ((i : Int) + 1) = ((min i w + 1 : Nat) : Int) := by rw [a2]; omega
      generalize min i w + 1 = m at *
      generalize max i w - m = n at *
      unfold x71l1
      dsimp only
      sym =>
        simp [Za,Zb,Zd,Ze,Zf,Zh,Zl,Zm,Zt,Z1,ZC,ZD,Yh,Yq,YG,YH,YQ,YY,Xc,Xo,Xu,Xy,Wz,W0,W3,WA,WB,WC,WF,WG,WI,WJ,WK,WM,WO,WP,WQ,WR,WW,WX,WY,Vb,Vc,Vd,VM,VN,VO,VP,VQ,VR,VS,VV,VW,VX,VY,VZ,Ua,Ub,Ug,Uv,Uw,Ux,Uy,U2,U3,U4,U5,UY,UZ,Td,Tn,Tp,Tr,Ts,Tt,Tu,Tv,Tx,Tz,T0,T1,T2,a1,a3,g1,g3]
        tactic =>
          unfold x71l0
          rw [loop_rule n (fun j => [.pt 1 0,.pt 2 0,.pt 3 0,cl71,I (i : Nat),I (m + j : Nat),I 6,I (i : Nat)]) (fun j => hU7 yc w (F j).1 (F j).2)]
          · rw [hk]
            (sym => (simp [Za,Zb,Zd,Ze,Zf,Zh,Zl,Zm,Zt,Z1,ZC,ZD,Yh,Yq,YG,YH,YQ,YY,Xc,Xo,Xu,Xy,Wz,W0,W3,WA,WB,WC,WF,WG,WI,WJ,WK,WM,WO,WP,WQ,WR,WW,WX,WY,Vb,Vc,Vd,VM,VN,VO,VP,VQ,VR,VS,VV,VW,VX,VY,VZ,Ua,Ub,Ug,Uv,Uw,Ux,Uy,U2,U3,U4,U5,UY,UZ,Td,Tn,Tp,Tr,Ts,Tt,Tu,Tv,Tx,Tz,T0,T1,T2,g1,g4,a2]; all_goals tactic => exact rfl))
          · rw [e0,Nat.add_zero]
            (sym => (simp [Za,Zb,Zd,Ze,Zf,Zh,Zl,Zm,Zt,Z1,ZC,ZD,Yh,Yq,YG,YH,YQ,YY,Xc,Xo,Xu,Xy,Wz,W0,W3,WA,WB,WC,WF,WG,WI,WJ,WK,WM,WO,WP,WQ,WR,WW,WX,WY,Vb,Vc,Vd,VM,VN,VO,VP,VQ,VR,VS,VV,VW,VX,VY,VZ,Ua,Ub,Ug,Uv,Uw,Ux,Uy,U2,U3,U4,U5,UY,UZ,Td,Tn,Tp,Tr,Ts,Tt,Tu,Tv,Tx,Tz,T0,T1,T2]; all_goals tactic => exact rfl))
          · exact FS
          · rw [hk]
            (sym => (simp [Za,Zb,Zd,Ze,Zf,Zh,Zl,Zm,Zt,Z1,ZC,ZD,Yh,Yq,YG,YH,YQ,YY,Xc,Xo,Xu,Xy,Wz,W0,W3,WA,WB,WC,WF,WG,WI,WJ,WK,WM,WO,WP,WQ,WR,WW,WX,WY,Vb,Vc,Vd,VM,VN,VO,VP,VQ,VR,VS,VV,VW,VX,VY,VZ,Ua,Ub,Ug,Uv,Uw,Ux,Uy,U2,U3,U4,U5,UY,UZ,Td,Tn,Tp,Tr,Ts,Tt,Tu,Tv,Tx,Tz,T0,T1,T2,g1,g4]; all_goals tactic => exact rfl))
theorem w71 {w : Nat} (hw : w < 6) : ∃ o u : Int,UpP s w o u ∧ runW progX 71 [.pt 0 0,I (w : Nat)] [bY yc] = some (.agg [I o,I u],[bY yc]) := by
  have b := y.bh w hw
  have l := t.gh w hw
  obtain ⟨F,F0,FI,FS⟩ := seq_of (σ := Int × Int) 6 (fun _ p => UpP s w p.1 p.2) (fun i p p' => headX 1 [3,4,5,6,20,21] (execW progX 71 1 none (match x71l1 with | .loop _ a => a | c => c) (envL [3,4,5,6,20,21] [.pt 1 0,.pt 2 0,.pt 3 0,cl71,I 6,I (i : Nat)]) (hU7 yc w p.1 p.2)) = some ([.pt 1 0,.pt 2 0,.pt 3 0,cl71,I 6,I (i + 1 : Nat)],hU7 yc w p'.1 p'.2)) (hi w,1) ⟨by dsimp only; omega,by dsimp only; omega,by dsimp only; omega,by dsimp only; omega,by dsimp only; omega⟩ (fun i p hi6 hq => round71o t y hi6 hw hq)
  refine ⟨(F 6).1,(F 6).2,FI _ (Nat.le_refl _),?_⟩
  have e0 : F 0 = (hi w,1) := F0
  have c0 := y.c0
  have c1 := y.gh w hw
  have c2 : yc[31 + w]? = some (I (hi w)) := by rw [Nat.add_comm]; exact c1
  have k1 : (0 ≤ (w : Int)) = True := eq_true (by omega)
  have k2 : ((w : Int) < 30) = True := eq_true (by omega)
  have e1 := w97 (hi w)
  generalize hi w = x at *
  rw [r71 (by simp)]; unfold x71; dsimp only
  sym =>
    simp [Za,Zb,Zc,Zd,Ze,Zf,Zh,Zi,Zl,Zm,Zn,Zt,Zu,Zv,Zx,Z0,Z1,Z5,Z6,ZD,ZE,ZG,ZH,ZI,ZJ,ZK,ZN,ZO,ZQ,ZR,ZX,Yq,Yu,Yv,Y3,YD,YF,YP,YQ,YT,YY,Xc,Xe,Xi,Xo,Xq,Xu,Xy,X0,XJ,Wc,We,Wi,Wn,Wo,Wr,Wx,Wz,W0,W3,W4,W5,W6,W7,W8,W9,WA,WB,WC,WF,WG,WI,WJ,WK,WL,WM,WN,WO,WP,WQ,WR,WS,WT,WW,WX,WY,Vb,Vc,Vd,Vf,Vg,Vh,Vj,Vl,Vn,Vs,V6,V7,V9,VA,VB,VC,VD,VG,VH,VI,VK,VL,VM,VN,VO,VP,VR,VS,VU,VV,VW,VX,VY,VZ,Ua,Ub,Uc,Ud,Ug,Uj,Un,Uo,Uq,Us,Uv,Uw,Uy,Uz,U0,U1,U2,U3,U4,U5,U6,U7,U8,U9,UC,UD,UE,UK,UL,UY,UZ,Tc,Td,Te,Tf,Ti,Tn,Tp,Tq,Ts,Tt,Tu,Tv,Tz,T0,T1,T2,T4,Sf,Sg,Sw,c0,c1,c2,k1,k2,e1]
    tactic =>
      unfold x71l1
      rw [loop_rule 6 (fun i => [.pt 1 0,.pt 2 0,.pt 3 0,cl71,I 6,I (i : Nat)]) (fun i => hU7 yc w (F i).1 (F i).2)]
      · (sym => (simp [Za,Zb,Zc,Zd,Ze,Zf,Zh,Zi,Zl,Zm,Zn,Zt,Zu,Zv,Zx,Z0,Z1,Z5,Z6,ZD,ZE,ZG,ZH,ZI,ZJ,ZK,ZN,ZO,ZQ,ZR,ZX,Yq,Yu,Yv,Y3,YD,YF,YP,YQ,YT,YY,Xc,Xe,Xi,Xo,Xq,Xu,Xy,X0,XJ,Wc,We,Wi,Wn,Wo,Wr,Wx,Wz,W0,W3,W4,W5,W6,W7,W8,W9,WA,WB,WC,WF,WG,WI,WJ,WK,WL,WM,WN,WO,WP,WQ,WR,WS,WT,WW,WX,WY,Vb,Vc,Vd,Vf,Vg,Vh,Vj,Vl,Vn,Vs,V6,V7,V9,VA,VB,VC,VD,VG,VH,VI,VK,VL,VM,VN,VO,VP,VR,VS,VU,VV,VW,VX,VY,VZ,Ua,Ub,Uc,Ud,Ug,Uj,Un,Uo,Uq,Us,Uv,Uw,Uy,Uz,U0,U1,U2,U3,U4,U5,U6,U7,U8,U9,UC,UD,UE,UK,UL,UY,UZ,Tc,Td,Te,Tf,Ti,Tn,Tp,Tq,Ts,Tt,Tu,Tv,Tz,T0,T1,T2,T4,Sf,Sg,Sw]; all_goals tactic => exact rfl))
      · rw [e0]
        (sym => (simp [Za,Zb,Zc,Zd,Ze,Zf,Zh,Zi,Zl,Zm,Zn,Zt,Zu,Zv,Zx,Z0,Z1,Z5,Z6,ZD,ZE,ZG,ZH,ZI,ZJ,ZK,ZN,ZO,ZQ,ZR,ZX,Yq,Yu,Yv,Y3,YD,YF,YP,YQ,YT,YY,Xc,Xe,Xi,Xo,Xq,Xu,Xy,X0,XJ,Wc,We,Wi,Wn,Wo,Wr,Wx,Wz,W0,W3,W4,W5,W6,W7,W8,W9,WA,WB,WC,WF,WG,WI,WJ,WK,WL,WM,WN,WO,WP,WQ,WR,WS,WT,WW,WX,WY,Vb,Vc,Vd,Vf,Vg,Vh,Vj,Vl,Vn,Vs,V6,V7,V9,VA,VB,VC,VD,VG,VH,VI,VK,VL,VM,VN,VO,VP,VR,VS,VU,VV,VW,VX,VY,VZ,Ua,Ub,Uc,Ud,Ug,Uj,Un,Uo,Uq,Us,Uv,Uw,Uy,Uz,U0,U1,U2,U3,U4,U5,U6,U7,U8,U9,UC,UD,UE,UK,UL,UY,UZ,Tc,Td,Te,Tf,Ti,Tn,Tp,Tq,Ts,Tt,Tu,Tv,Tz,T0,T1,T2,T4,Sf,Sg,Sw]; all_goals tactic => exact rfl))
      · exact FS
      · (sym => (simp [Za,Zb,Zc,Zd,Ze,Zf,Zh,Zi,Zl,Zm,Zn,Zt,Zu,Zv,Zx,Z0,Z1,Z5,Z6,ZD,ZE,ZG,ZH,ZI,ZJ,ZK,ZN,ZO,ZQ,ZR,ZX,Yq,Yu,Yv,Y3,YD,YF,YP,YQ,YT,YY,Xc,Xe,Xi,Xo,Xq,Xu,Xy,X0,XJ,Wc,We,Wi,Wn,Wo,Wr,Wx,Wz,W0,W3,W4,W5,W6,W7,W8,W9,WA,WB,WC,WF,WG,WI,WJ,WK,WL,WM,WN,WO,WP,WQ,WR,WS,WT,WW,WX,WY,Vb,Vc,Vd,Vf,Vg,Vh,Vj,Vl,Vn,Vs,V6,V7,V9,VA,VB,VC,VD,VG,VH,VI,VK,VL,VM,VN,VO,VP,VR,VS,VU,VV,VW,VX,VY,VZ,Ua,Ub,Uc,Ud,Ug,Uj,Un,Uo,Uq,Us,Uv,Uw,Uy,Uz,U0,U1,U2,U3,U4,U5,U6,U7,U8,U9,UC,UD,UE,UK,UL,UY,UZ,Tc,Td,Te,Tf,Ti,Tn,Tp,Tq,Ts,Tt,Tu,Tv,Tz,T0,T1,T2,T4,Sf,Sg,Sw]; all_goals tactic => exact rfl))
end
end Go.Proofs.YtpbeclkpohehgaaDoor
namespace Go.Proofs.YtpbeclkpohehgaaDoor
open Go Go.DL
set_option maxRecDepth 100000
set_option maxHeartbeats 4000000
structure GivP (s : Nat → Int) (w k : Nat) (o u go gu : Int) : Prop where
  u1 : 1 ≤ gu
  u2 : gu ≤ 125
  o1 : -100000000 ≤ go
  o2 : go ≤ 100000000
  le : go * u ≤ (o - (s k - s w) * u) * gu
theorem giv_low {s : Nat → Int} {w k : Nat} {o u a b : Int} (h : UpP s k o u) (l : LowP s w a b) : GivP s w k o u a b := by
  refine ⟨l.u1,by have := l.u2; omega,by have := l.o1; omega,by have := l.o2; omega,?_⟩
  have h1 := Int.mul_le_mul_of_nonneg_right l.le (show (0 : Int) ≤ u by have := h.u1; omega)
  have h2 := Int.mul_le_mul_of_nonneg_right h.le (show (0 : Int) ≤ b by have := l.u1; omega)
  have e1 : (o - (s k - s w) * u) * b = o * b - s k * u * b + s w * b * u := by grind
  rw [e1]
  omega
section
variable {s lo hi : Nat → Int} (t : SwOk s lo hi) {yc : List AV} (y : YrOk yc lo hi)
include t y
theorem giv_line {w k i : Nat} (hw : w < 6) (hk : k < 6) (hi6 : i < 6) (h : (i ≤ w ∧ w < k) ∨ (k < w ∧ w ≤ i)) {o u : Int} (hp : UpP s k o u) : ∃ a b : Int,lnR k o u i (lo i) 1 w = .agg [I a,I b] ∧ GivP s w k o u a b := by
  have l1 := t.gl i hi6
  have b1 := y.bl i hi6
  have u1 := hp.u1
  have u2 := hp.u2
  have o1 := hp.o1
  have o2 := hp.o2
  have uu := Int.mul_pos (show (0 : Int) < u by omega) (show (0 : Int) < u by omega)
  have u25 := mul_bd (a := u) (b := u) (A := 5) (B := 5) (by omega) (by omega)
  have key : ∀ a b D : Int,0 ≤ a → 0 < b → D = a + b → D ≤ 5 → s k * a + s i * b ≤ s w * D → GivP s w k o u (u * (o * a + lo i * u * b)) (u * u * D) := by
    intro a b D ha hb hD hD5 hc
    have m1 := Int.mul_le_mul_of_nonneg_right l1 (show (0 : Int) ≤ b by omega)
    have h2 : lo i * b + (s k - s w) * D ≤ s k * b := by
      have e : (s k - s w) * D = s k * a + s k * b - s w * D := by rw [Int.sub_mul,hD,Int.mul_add]
      rw [e]; omega
    have le := giv_le hD (show (0 : Int) ≤ b by omega) (show (0 : Int) < u by omega) hp.le h2
    have n1 := mul_bd (a := o) (b := a) (A := 1000000) (B := 5) (by omega) (by omega)
    have n2 := mul_bd (a := lo i) (b := u) (A := 30000) (B := 5) (by omega) (by omega)
    have n3 := mul_bd (a := lo i * u) (b := b) (A := 150000) (B := 5) (by omega) (by omega)
    have n4 := mul_bd (a := u) (b := o * a + lo i * u * b) (A := 5) (B := 6000000) (by omega) (by omega)
    have n5 := mul_bd (a := u * u) (b := D) (A := 25) (B := 5) (by omega) (by omega)
    have n6 := Int.mul_pos uu (show (0 : Int) < D by omega)
    exact ⟨by omega,by omega,by omega,by omega,le⟩
  have eU : lnU (k : Int) u (i : Int) 1 = u * u * ((i : Int) - (k : Int)) := by unfold lnU; grind
  have eO : lnO (k : Int) o u (i : Int) (lo i) 1 (w : Int) = u * (o * ((i : Int) - (w : Int)) + lo i * u * ((w : Int) - (k : Int))) := by unfold lnO; grind
  unfold lnR
  rw [eU,eO]
  rcases h with ⟨h1,h2⟩ | ⟨h1,h2⟩
  · have hc : s k * ((w : Int) - (i : Int)) + s i * ((k : Int) - (w : Int)) ≤ s w * ((k : Int) - (i : Int)) := by
      by_cases e : i = w
      · subst e
        rw [Int.sub_self,Int.mul_zero]; omega
      · have := conc t (show i < w by omega) h2 hk
        omega
    have r := key ((w : Int) - (i : Int)) ((k : Int) - (w : Int)) ((k : Int) - (i : Int)) (by omega) (by omega) (by omega) (by omega) hc
    have neg : u * u * ((i : Int) - (k : Int)) = -(u * u * ((k : Int) - (i : Int))) := by grind
    have pos := Int.mul_pos uu (show (0 : Int) < (k : Int) - (i : Int) by omega)
    rw [if_pos (by rw [neg]; omega)]
    refine ⟨_,_,rfl,?_⟩
    have e1 : -(u * (o * ((i : Int) - (w : Int)) + lo i * u * ((w : Int) - (k : Int)))) = u * (o * ((w : Int) - (i : Int)) + lo i * u * ((k : Int) - (w : Int))) := by grind
    have e2 : -(u * u * ((i : Int) - (k : Int))) = u * u * ((k : Int) - (i : Int)) := by grind
    rw [e1,e2]
    exact r
  · have hc : s k * ((i : Int) - (w : Int)) + s i * ((w : Int) - (k : Int)) ≤ s w * ((i : Int) - (k : Int)) := by
      by_cases e : i = w
      · subst e
        rw [Int.sub_self,Int.mul_zero]; omega
      · have := conc t h1 (show w < i by omega) hi6
        omega
    have r := key ((i : Int) - (w : Int)) ((w : Int) - (k : Int)) ((i : Int) - (k : Int)) (by omega) (by omega) (by omega) (by omega) hc
    have pos := Int.mul_pos uu (show (0 : Int) < (i : Int) - (k : Int) by omega)
    rw [if_neg (by omega)]
    exact ⟨_,_,rfl,r⟩
end
theorem giv_98 {s : Nat → Int} {w k : Nat} {o u go gu a b : Int} (h1 : GivP s w k o u go gu) (h2 : GivP s w k o u a b) : ∃ go' gu',GivP s w k o u go' gu' ∧ runW progX 98 [.fn (.func 67) [] [],.agg [I go,I gu],.sl 0 0 2 1] [some (.blk true (.cells true [I a,I b]))] = some (.agg [I go',I gu'],[some (.blk true (.cells true [I a,I b]))]) := by
  have e := w98s (a := go) (b := gu) (c := a) (d := b) (mul_ok (A := 100000000) (B := 125) ⟨h2.o1,h2.o2⟩ ⟨by have := h1.u1; omega,h1.u2⟩ (by decide)) (mul_ok (A := 100000000) (B := 125) ⟨h1.o1,h1.o2⟩ ⟨by have := h2.u1; omega,h2.u2⟩ (by decide))
  unfold bstF2 at e
  by_cases g : a * gu > go * b
  · rw [if_pos g] at e
    exact ⟨a,b,h2,e⟩
  · rw [if_neg g] at e
    exact ⟨go,gu,h1,e⟩
abbrev hG4 (yc : List AV) (k : Nat) (o u go gu : Int) : XH := [bY yc,some (.blk true (.cells true [I (k : Nat),I o,I u])),some (.blk true (.cells true [I 0,I 0])),some (.blk true (.cells true [I go,I gu]))]
section
variable {s lo hi : Nat → Int} (t : SwOk s lo hi) {yc : List AV} (y : YrOk yc lo hi)
include t y
theorem round100 {w k i : Nat} (hw : w < 6) (hk : k < 6) (hi6 : i < 6) (h : (i ≤ w ∧ w < k) ∨ (k < w ∧ w ≤ i)) {to : Int} (hto : (i : Int) ≤ to) {o u : Int} (hp : UpP s k o u) {go gu : Int} (hg : GivP s w k o u go gu) : ∃ p : Int × Int,GivP s w k o u p.1 p.2 ∧
    headX 1 [0,1,5,6,7,9,10] (execW progX 100 1 none (match x100l0 with | .loop _ a => a | c => c) (envL [0,1,5,6,7,9,10] [.pt 0 0,I (w : Nat),.pt 1 0,.pt 2 0,.pt 3 0,I to,I (i : Nat)]) (hG4 yc k o u go gu)) = some ([.pt 0 0,I (w : Nat),.pt 1 0,.pt 2 0,.pt 3 0,I to,I (i + 1 : Nat)],hG4 yc k o u p.1 p.2) := by
  obtain ⟨a,b,e,hq⟩ := giv_line t y hw hk hi6 h hp
  have b1 := y.bl i hi6
  have e1 := w103 y hi6
  have e3 := w104 (pw := k) (po := o) (pu := u) (qw := i) (qo := lo i) (qu := 1) (wk := w) (by omega) (by omega) (by omega) ⟨hp.o1,hp.o2⟩ (by omega) ⟨hp.u1,by have := hp.u2; omega⟩ (by omega)
  rw [e] at e3
  obtain ⟨go',gu',hr,e4⟩ := giv_98 hg hq
  refine ⟨(go',gu'),hr,?_⟩
  have a1 := eq_true hto
  have a2 : IntKind.i64.wrap ((i : Int) + 1) = (i : Int) + 1 := wrap_ok (by omega) (by omega)
  have sm := y.sm
  generalize lo i = li at *
  unfold x100l0
  dsimp only
  (sym => (simp [Za,Zb,Zc,Zd,Ze,Zf,Zg,Zh,Zk,Zl,Zm,Zn,Zt,Zz,Z1,ZE,ZG,ZH,ZJ,ZK,ZN,ZO,ZQ,ZR,Yh,Yr,YQ,YT,YX,YY,Xc,Xe,Xf,Xo,Xq,Xt,Xu,Xy,XN,Wi,Wo,Wx,Wz,W0,W3,W4,W5,W6,W7,W8,WB,WC,WE,WF,WG,WI,WJ,WK,WL,WM,WN,WO,WP,WQ,WR,WS,WT,WU,WW,WX,Vb,Vc,Vf,Vg,Vh,Vi,Vj,Vk,Vl,Vn,Vo,Vs,Vu,Vv,Vw,Vx,Vy,V0,VM,VN,VO,VP,VQ,VV,VW,VX,VY,VZ,Ua,Ub,Uc,Ud,Ug,Uj,Um,Un,Uo,Uq,Us,Uw,Ux,Uz,U0,U1,U2,U3,U4,U5,U6,U7,UE,UF,UG,UH,UM,UN,UO,UP,UY,UZ,Tc,Te,Tf,Ti,Tn,Tp,Tr,Tt,Tu,Tx,T0,T1,T2,TA,Sf,Sg,Sn,Sq,Sr,Ss,Sy,Sz,S6,S7,a1,a2,sm,e1,e3,e4]; all_goals tactic => exact rfl))
theorem w100 {w k : Nat} (hw : w < 6) (hk : k < 6) {o u : Int} (hp : UpP s k o u) : ∃ go gu : Int,GivP s w k o u go gu ∧ runW progX 100 [.pt 0 0,I (w : Nat),.agg [I (k : Nat),I o,I u]] [bY yc] = some (.agg [I go,I gu],[bY yc]) := by
  by_cases e : w = k
  · subst e
    refine ⟨o,u,⟨hp.u1,by have := hp.u2; omega,by have := hp.o1; omega,by have := hp.o2; omega,?_⟩,?_⟩
    · rw [Int.sub_self,Int.zero_mul,Int.sub_zero]; exact Int.le_refl _
    · rw [r100 (by simp)]; unfold x100; dsimp only
      (sym => (simp [Za,Zb,Zc,Zd,Ze,Zf,Zg,Zh,Zi,Zj,Zl,Zm,Zn,Zt,Zu,Zx,Z0,Z1,Z5,ZD,ZE,ZG,ZH,ZI,ZL,ZM,ZQ,ZR,ZX,Yi,Yo,Yr,Ys,Y1,Y3,YD,YP,YQ,YT,YY,Xe,Xf,Xo,Xq,Xu,X0,XJ,XN,Wc,We,Wi,Wo,Wz,W0,W3,W4,W5,W6,W7,W8,W9,WA,WB,WC,WE,WF,WG,WI,WJ,WK,WL,WM,WN,WO,WP,WQ,WR,WS,WT,WU,WW,WX,Vb,Vc,Vf,Vg,Vh,Vi,Vs,Vu,Vv,Vw,V6,V7,V9,VA,VB,VC,VD,VG,VH,VI,VK,VL,VM,VN,VO,VP,VQ,VR,VS,VU,VV,VW,VX,VY,VZ,Ua,Ub,Uc,Ud,Ug,Uj,Us,Uw,Ux,Uy,U1,U2,U3,U4,U5,U6,U7,U8,U9,UC,UD,UE,UK,UL,UY,UZ,Tc,Td,Te,Tf,Ti,Tn,Tp,Tq,Tr,Ts,Tt,Tu,Tv,Tw,Tz,T0,T1,T2,Sg,Sy,Sz,S7]; all_goals tactic => exact rfl))
  · obtain ⟨a,b,hl,e69⟩ := w69 t y hw
    have hg0 := giv_low hp hl
    have c0 := y.c0
    have c1 := eq_false (show ¬ ((w : Int) = (k : Int)) by omega)
    have q1 : IntKind.i64.wrap ((6 : Int) - 1) = 5 := wrap_ok (by omega) (by omega)
    by_cases g : (w : Int) > (k : Int)
    · obtain ⟨F,F0,FI,FS⟩ := seq_of (σ := Int × Int) (6 - w) (fun _ p => GivP s w k o u p.1 p.2) (fun j p p' => headX 1 [0,1,5,6,7,9,10] (execW progX 100 1 none (match x100l0 with | .loop _ a => a | c => c) (envL [0,1,5,6,7,9,10] [.pt 0 0,I (w : Nat),.pt 1 0,.pt 2 0,.pt 3 0,I 5,I (w + j : Nat)]) (hG4 yc k o u p.1 p.2)) = some ([.pt 0 0,I (w : Nat),.pt 1 0,.pt 2 0,.pt 3 0,I 5,I (w + j + 1 : Nat)],hG4 yc k o u p'.1 p'.2)) (a,b) hg0 (fun j p hj hq => round100 t y hw hk (by omega) (by omega) (by omega) hp hq)
      refine ⟨(F (6 - w)).1,(F (6 - w)).2,FI _ (Nat.le_refl _),?_⟩
      have e0 : F 0 = (a,b) := F0
      have g1 := eq_true g
      have hk6 : w + (6 - w) = 6 := by omega
      generalize 6 - w = n at *
      rw [r100 (by simp)]; unfold x100; dsimp only
      sym =>
        simp [Za,Zb,Zc,Zd,Ze,Zf,Zg,Zh,Zi,Zj,Zl,Zm,Zn,Zt,Zu,Zx,Z0,Z1,Z5,ZD,ZE,ZG,ZH,ZI,ZL,ZM,ZQ,ZR,ZX,Yi,Yo,Yr,Ys,Y1,Y3,YD,YP,YQ,YT,YY,Xe,Xf,Xo,Xq,Xu,X0,XJ,XN,Wc,We,Wi,Wo,Wz,W0,W3,W4,W5,W6,W7,W8,W9,WA,WB,WC,WE,WF,WG,WI,WJ,WK,WL,WM,WN,WO,WP,WQ,WR,WS,WT,WU,WW,WX,Vb,Vc,Vf,Vg,Vh,Vi,Vs,Vu,Vv,Vw,V6,V7,V9,VA,VB,VC,VD,VG,VH,VI,VK,VL,VM,VN,VO,VP,VQ,VR,VS,VU,VV,VW,VX,VY,VZ,Ua,Ub,Uc,Ud,Ug,Uj,Us,Uw,Ux,Uy,U1,U2,U3,U4,U5,U6,U7,U8,U9,UC,UD,UE,UK,UL,UY,UZ,Tc,Td,Te,Tf,Ti,Tn,Tp,Tq,Tr,Ts,Tt,Tu,Tv,Tw,Tz,T0,T1,T2,Sg,Sy,Sz,S7,c0,c1,q1,g1,e69]
        tactic =>
          unfold x100l0
          rw [loop_rule n (fun j => [.pt 0 0,I (w : Nat),.pt 1 0,.pt 2 0,.pt 3 0,I 5,I (w + j : Nat)]) (fun j => hG4 yc k o u (F j).1 (F j).2)]
          · rw [hk6]
            (sym => (simp [Za,Zb,Zc,Zd,Ze,Zf,Zg,Zh,Zi,Zj,Zl,Zm,Zn,Zt,Zu,Zx,Z0,Z1,Z5,ZD,ZE,ZG,ZH,ZI,ZL,ZM,ZQ,ZR,ZX,Yi,Yo,Yr,Ys,Y1,Y3,YD,YP,YQ,YT,YY,Xe,Xf,Xo,Xq,Xu,X0,XJ,XN,Wc,We,Wi,Wo,Wz,W0,W3,W4,W5,W6,W7,W8,W9,WA,WB,WC,WE,WF,WG,WI,WJ,WK,WL,WM,WN,WO,WP,WQ,WR,WS,WT,WU,WW,WX,Vb,Vc,Vf,Vg,Vh,Vi,Vs,Vu,Vv,Vw,V6,V7,V9,VA,VB,VC,VD,VG,VH,VI,VK,VL,VM,VN,VO,VP,VQ,VR,VS,VU,VV,VW,VX,VY,VZ,Ua,Ub,Uc,Ud,Ug,Uj,Us,Uw,Ux,Uy,U1,U2,U3,U4,U5,U6,U7,U8,U9,UC,UD,UE,UK,UL,UY,UZ,Tc,Td,Te,Tf,Ti,Tn,Tp,Tq,Tr,Ts,Tt,Tu,Tv,Tw,Tz,T0,T1,T2,Sg,Sy,Sz,S7]; all_goals tactic => exact rfl))
          · rw [e0,Nat.add_zero]
            (sym => (simp [Za,Zb,Zc,Zd,Ze,Zf,Zg,Zh,Zi,Zj,Zl,Zm,Zn,Zt,Zu,Zx,Z0,Z1,Z5,ZD,ZE,ZG,ZH,ZI,ZL,ZM,ZQ,ZR,ZX,Yi,Yo,Yr,Ys,Y1,Y3,YD,YP,YQ,YT,YY,Xe,Xf,Xo,Xq,Xu,X0,XJ,XN,Wc,We,Wi,Wo,Wz,W0,W3,W4,W5,W6,W7,W8,W9,WA,WB,WC,WE,WF,WG,WI,WJ,WK,WL,WM,WN,WO,WP,WQ,WR,WS,WT,WU,WW,WX,Vb,Vc,Vf,Vg,Vh,Vi,Vs,Vu,Vv,Vw,V6,V7,V9,VA,VB,VC,VD,VG,VH,VI,VK,VL,VM,VN,VO,VP,VQ,VR,VS,VU,VV,VW,VX,VY,VZ,Ua,Ub,Uc,Ud,Ug,Uj,Us,Uw,Ux,Uy,U1,U2,U3,U4,U5,U6,U7,U8,U9,UC,UD,UE,UK,UL,UY,UZ,Tc,Td,Te,Tf,Ti,Tn,Tp,Tq,Tr,Ts,Tt,Tu,Tv,Tw,Tz,T0,T1,T2,Sg,Sy,Sz,S7]; all_goals tactic => exact rfl))
          · exact FS
          · rw [hk6]
            (sym => (simp [Za,Zb,Zc,Zd,Ze,Zf,Zg,Zh,Zi,Zj,Zl,Zm,Zn,Zt,Zu,Zx,Z0,Z1,Z5,ZD,ZE,ZG,ZH,ZI,ZL,ZM,ZQ,ZR,ZX,Yi,Yo,Yr,Ys,Y1,Y3,YD,YP,YQ,YT,YY,Xe,Xf,Xo,Xq,Xu,X0,XJ,XN,Wc,We,Wi,Wo,Wz,W0,W3,W4,W5,W6,W7,W8,W9,WA,WB,WC,WE,WF,WG,WI,WJ,WK,WL,WM,WN,WO,WP,WQ,WR,WS,WT,WU,WW,WX,Vb,Vc,Vf,Vg,Vh,Vi,Vs,Vu,Vv,Vw,V6,V7,V9,VA,VB,VC,VD,VG,VH,VI,VK,VL,VM,VN,VO,VP,VQ,VR,VS,VU,VV,VW,VX,VY,VZ,Ua,Ub,Uc,Ud,Ug,Uj,Us,Uw,Ux,Uy,U1,U2,U3,U4,U5,U6,U7,U8,U9,UC,UD,UE,UK,UL,UY,UZ,Tc,Td,Te,Tf,Ti,Tn,Tp,Tq,Tr,Ts,Tt,Tu,Tv,Tw,Tz,T0,T1,T2,Sg,Sy,Sz,S7]; all_goals tactic => exact rfl))
    · obtain ⟨F,F0,FI,FS⟩ := seq_of (σ := Int × Int) (w + 1) (fun _ p => GivP s w k o u p.1 p.2) (fun j p p' => headX 1 [0,1,5,6,7,9,10] (execW progX 100 1 none (match x100l0 with | .loop _ a => a | c => c) (envL [0,1,5,6,7,9,10] [.pt 0 0,I (w : Nat),.pt 1 0,.pt 2 0,.pt 3 0,I (w : Nat),I (j : Nat)]) (hG4 yc k o u p.1 p.2)) = some ([.pt 0 0,I (w : Nat),.pt 1 0,.pt 2 0,.pt 3 0,I (w : Nat),I (j + 1 : Nat)],hG4 yc k o u p'.1 p'.2)) (a,b) hg0 (fun j p hj hq => round100 t y hw hk (by omega) (by omega) (by omega) hp hq)
      refine ⟨(F (w + 1)).1,(F (w + 1)).2,FI _ (Nat.le_refl _),?_⟩
      have e0 : F 0 = (a,b) := F0
      have g1 := eq_false g
      have g2 := eq_false (show ¬ (((w + 1 : Nat) : Int) ≤ (w : Int)) by omega)
      generalize hn : w + 1 = n at *
      rw [r100 (by simp)]; unfold x100; dsimp only
      sym =>
        simp [Za,Zb,Zc,Zd,Ze,Zf,Zg,Zh,Zi,Zj,Zl,Zm,Zn,Zt,Zu,Zx,Z0,Z1,Z5,ZD,ZE,ZG,ZH,ZI,ZL,ZM,ZQ,ZR,ZX,Yi,Yo,Yr,Ys,Y1,Y3,YD,YP,YQ,YT,YY,Xe,Xf,Xo,Xq,Xu,X0,XJ,XN,Wc,We,Wi,Wo,Wz,W0,W3,W4,W5,W6,W7,W8,W9,WA,WB,WC,WE,WF,WG,WI,WJ,WK,WL,WM,WN,WO,WP,WQ,WR,WS,WT,WU,WW,WX,Vb,Vc,Vf,Vg,Vh,Vi,Vs,Vu,Vv,Vw,V6,V7,V9,VA,VB,VC,VD,VG,VH,VI,VK,VL,VM,VN,VO,VP,VQ,VR,VS,VU,VV,VW,VX,VY,VZ,Ua,Ub,Uc,Ud,Ug,Uj,Us,Uw,Ux,Uy,U1,U2,U3,U4,U5,U6,U7,U8,U9,UC,UD,UE,UK,UL,UY,UZ,Tc,Td,Te,Tf,Ti,Tn,Tp,Tq,Tr,Ts,Tt,Tu,Tv,Tw,Tz,T0,T1,T2,Sg,Sy,Sz,S7,c0,c1,g1,e69]
        tactic =>
          unfold x100l0
          rw [loop_rule n (fun j => [.pt 0 0,I (w : Nat),.pt 1 0,.pt 2 0,.pt 3 0,I (w : Nat),I (j : Nat)]) (fun j => hG4 yc k o u (F j).1 (F j).2)]
          · (sym => (simp [Za,Zb,Zc,Zd,Ze,Zf,Zg,Zh,Zi,Zj,Zl,Zm,Zn,Zt,Zu,Zx,Z0,Z1,Z5,ZD,ZE,ZG,ZH,ZI,ZL,ZM,ZQ,ZR,ZX,Yi,Yo,Yr,Ys,Y1,Y3,YD,YP,YQ,YT,YY,Xe,Xf,Xo,Xq,Xu,X0,XJ,XN,Wc,We,Wi,Wo,Wz,W0,W3,W4,W5,W6,W7,W8,W9,WA,WB,WC,WE,WF,WG,WI,WJ,WK,WL,WM,WN,WO,WP,WQ,WR,WS,WT,WU,WW,WX,Vb,Vc,Vf,Vg,Vh,Vi,Vs,Vu,Vv,Vw,V6,V7,V9,VA,VB,VC,VD,VG,VH,VI,VK,VL,VM,VN,VO,VP,VQ,VR,VS,VU,VV,VW,VX,VY,VZ,Ua,Ub,Uc,Ud,Ug,Uj,Us,Uw,Ux,Uy,U1,U2,U3,U4,U5,U6,U7,U8,U9,UC,UD,UE,UK,UL,UY,UZ,Tc,Td,Te,Tf,Ti,Tn,Tp,Tq,Tr,Ts,Tt,Tu,Tv,Tw,Tz,T0,T1,T2,Sg,Sy,Sz,S7,g2]; all_goals tactic => exact rfl))
          · rw [e0]
            (sym => (simp [Za,Zb,Zc,Zd,Ze,Zf,Zg,Zh,Zi,Zj,Zl,Zm,Zn,Zt,Zu,Zx,Z0,Z1,Z5,ZD,ZE,ZG,ZH,ZI,ZL,ZM,ZQ,ZR,ZX,Yi,Yo,Yr,Ys,Y1,Y3,YD,YP,YQ,YT,YY,Xe,Xf,Xo,Xq,Xu,X0,XJ,XN,Wc,We,Wi,Wo,Wz,W0,W3,W4,W5,W6,W7,W8,W9,WA,WB,WC,WE,WF,WG,WI,WJ,WK,WL,WM,WN,WO,WP,WQ,WR,WS,WT,WU,WW,WX,Vb,Vc,Vf,Vg,Vh,Vi,Vs,Vu,Vv,Vw,V6,V7,V9,VA,VB,VC,VD,VG,VH,VI,VK,VL,VM,VN,VO,VP,VQ,VR,VS,VU,VV,VW,VX,VY,VZ,Ua,Ub,Uc,Ud,Ug,Uj,Us,Uw,Ux,Uy,U1,U2,U3,U4,U5,U6,U7,U8,U9,UC,UD,UE,UK,UL,UY,UZ,Tc,Td,Te,Tf,Ti,Tn,Tp,Tq,Tr,Ts,Tt,Tu,Tv,Tw,Tz,T0,T1,T2,Sg,Sy,Sz,S7]; all_goals tactic => exact rfl))
          · exact FS
          · (sym => (simp [Za,Zb,Zc,Zd,Ze,Zf,Zg,Zh,Zi,Zj,Zl,Zm,Zn,Zt,Zu,Zx,Z0,Z1,Z5,ZD,ZE,ZG,ZH,ZI,ZL,ZM,ZQ,ZR,ZX,Yi,Yo,Yr,Ys,Y1,Y3,YD,YP,YQ,YT,YY,Xe,Xf,Xo,Xq,Xu,X0,XJ,XN,Wc,We,Wi,Wo,Wz,W0,W3,W4,W5,W6,W7,W8,W9,WA,WB,WC,WE,WF,WG,WI,WJ,WK,WL,WM,WN,WO,WP,WQ,WR,WS,WT,WU,WW,WX,Vb,Vc,Vf,Vg,Vh,Vi,Vs,Vu,Vv,Vw,V6,V7,V9,VA,VB,VC,VD,VG,VH,VI,VK,VL,VM,VN,VO,VP,VQ,VR,VS,VU,VV,VW,VX,VY,VZ,Ua,Ub,Uc,Ud,Ug,Uj,Us,Uw,Ux,Uy,U1,U2,U3,U4,U5,U6,U7,U8,U9,UC,UD,UE,UK,UL,UY,UZ,Tc,Td,Te,Tf,Ti,Tn,Tp,Tq,Tr,Ts,Tt,Tu,Tv,Tw,Tz,T0,T1,T2,Sg,Sy,Sz,S7,g2]; all_goals tactic => exact rfl))
end
structure RegP (s : Nat → Int) (w n : Nat) (o u : Int) : Prop where
  u1 : 1 ≤ u
  u2 : u ≤ 625
  o1 : -1000000000 ≤ o
  o2 : o ≤ 1000000000
  le : ∀ k : Nat,k < n → (s k - s w) * u ≤ o
theorem reg_98 {s : Nat → Int} {w n : Nat} {o u a b : Int} (h1 : RegP s w n o u) (u1 : 1 ≤ b) (u2 : b ≤ 625) (o1 : -1000000000 ≤ a) (o2 : a ≤ 1000000000) (hd : (s n - s w) * b ≤ a) : ∃ o' u',RegP s w (n + 1) o' u' ∧ runW progX 98 [.fn (.func 67) [] [],.agg [I o,I u],.sl 0 0 2 1] [some (.blk true (.cells true [I a,I b]))] = some (.agg [I o',I u'],[some (.blk true (.cells true [I a,I b]))]) := by
  have v1 := h1.u1
  have e := w98s (a := o) (b := u) (c := a) (d := b) (mul_ok (A := 1000000000) (B := 625) ⟨o1,o2⟩ ⟨by omega,h1.u2⟩ (by decide)) (mul_ok (A := 1000000000) (B := 625) ⟨h1.o1,h1.o2⟩ ⟨by omega,u2⟩ (by decide))
  unfold bstF2 at e
  by_cases g : a * u > o * b
  · rw [if_pos g] at e
    refine ⟨a,b,⟨u1,u2,o1,o2,fun k hk => ?_⟩,e⟩
    by_cases hkn : k = n
    · subst hkn; exact hd
    · have := fr_tr (a := s k - s w) (b := 1) (c := o) (d := u) (e := a) (f := b) (by omega) (by omega) (by omega) (by rw [Int.mul_one]; exact h1.le k (by omega)) (by omega)
      rw [Int.mul_one] at this
      exact this
  · rw [if_neg g] at e
    refine ⟨o,u,⟨h1.u1,h1.u2,h1.o1,h1.o2,fun k hk => ?_⟩,e⟩
    by_cases hkn : k = n
    · subst hkn
      have := fr_tr (a := s k - s w) (b := 1) (c := a) (d := b) (e := o) (f := u) (by omega) (by omega) (by omega) (by rw [Int.mul_one]; exact hd) (by omega)
      rw [Int.mul_one] at this
      exact this
    · exact h1.le k (by omega)
abbrev hG6 (yc : List AV) (o u : Int) : XH := [bY yc,some (.blk true (.cells true [I 0,I 0])),some (.blk true (.cells true [I o,I u]))]
section
variable {s lo hi : Nat → Int} (t : SwOk s lo hi) {yc : List AV} (y : YrOk yc lo hi)
include t y
theorem round66 {w k : Nat} (hw : w < 6) (hk : k < 6) {o u : Int} (h : RegP s w k o u) : ∃ p : Int × Int,RegP s w (k + 1) p.1 p.2 ∧
    headX 1 [0,1,4,5,12,13] (execW progX 66 1 none (match x66l0 with | .loop _ a => a | c => c) (envL [0,1,4,5,12,13] [.pt 0 0,I (w : Nat),.pt 1 0,.pt 2 0,I 6,I (k : Nat)]) (hG6 yc o u)) = some ([.pt 0 0,I (w : Nat),.pt 1 0,.pt 2 0,I 6,I (k + 1 : Nat)],hG6 yc p.1 p.2) := by
  obtain ⟨a,b,hp,e1⟩ := w71 t y hk
  obtain ⟨go,gu,hg,e2⟩ := w100 t y hw hk hp
  have a1 := hp.u1
  have a2 := hp.u2
  have g1 := hg.u1
  have g2 := hg.u2
  have n1 := mul_bd (a := a) (b := gu) (A := 1000000) (B := 125) ⟨hp.o1,hp.o2⟩ (by omega)
  have n2 := mul_bd (a := go) (b := b) (A := 100000000) (B := 5) ⟨hg.o1,hg.o2⟩ (by omega)
  have n3 := mul_bd (a := b) (b := gu) (A := 5) (B := 125) (by omega) (by omega)
  have n4 := Int.mul_pos (show (0 : Int) < b by omega) (show (0 : Int) < gu by omega)
  have e3 := w99 (a := a) (b := b) (c := go) (d := gu) (wrap_ok (by omega) (by omega)) (wrap_ok (by omega) (by omega)) (wrap_ok (by omega) (by omega)) (wrap_ok (by omega) (by omega))
  obtain ⟨o',u',hr,e4⟩ := reg_98 h (a := a * gu - go * b) (b := b * gu) (by omega) (by omega) (by omega) (by omega) (rgt_le hg.le)
  refine ⟨(o',u'),hr,?_⟩
  generalize a * gu - go * b = v at *
  generalize b * gu = z at *
  have c1 := eq_true (show ((k : Int) < 6) by omega)
  have c2 : IntKind.i64.wrap ((k : Int) + 1) = (k : Int) + 1 := wrap_ok (by omega) (by omega)
  have sm := y.sm
  unfold x66l0
  dsimp only
  (sym => (simp [Za,Zb,Zc,Zd,Ze,Zf,Zg,Zh,Zj,Zk,Zl,Zm,Zn,Zt,Zu,Zy,Zz,Z1,Z5,ZE,ZG,ZH,ZI,ZJ,ZK,ZL,ZM,ZN,ZO,ZQ,ZR,ZX,Yh,Yq,YO,YQ,YT,YX,YY,Xc,Xe,Xf,Xo,Xq,Xt,Xu,Xy,X0,XN,Wc,Wi,Wn,Wo,Wx,Wz,W0,W3,W4,W5,W6,W7,W8,WB,WC,WE,WF,WG,WI,WJ,WK,WL,WM,WN,WO,WP,WQ,WR,WS,WT,WU,WW,WX,Vb,Vc,Vf,Vg,Vh,Vi,Vj,Vk,Vl,Vn,Vo,Vs,Vu,Vv,Vw,Vx,Vy,V0,VM,VN,VO,VP,VQ,VV,VW,VX,VY,VZ,Ua,Ub,Uc,Ud,Ug,Uj,Um,Un,Uo,Uq,Us,Uw,Ux,Uz,U0,U1,U2,U3,U4,U5,U6,U7,UE,UF,UG,UH,UM,UN,UO,UP,UY,UZ,Tc,Te,Tf,Ti,Tn,Tp,Tr,Tt,Tu,Tx,T0,T1,T2,TA,Sf,Sg,Sn,Sq,Sr,Ss,Sy,Sz,S6,S7,c1,c2,sm,e1,e2,e3,e4]; all_goals tactic => exact rfl))
theorem w66 {w : Nat} (hw : w < 6) : ∃ o u : Int,RegP s w 6 o u ∧ runW progX 66 [.pt 0 0,I (w : Nat)] [bY yc] = some (.agg [I o,I u],[bY yc]) := by
  obtain ⟨F,F0,FI,FS⟩ := seq_of (σ := Int × Int) 6 (fun k p => RegP s w k p.1 p.2) (fun k p p' => headX 1 [0,1,4,5,12,13] (execW progX 66 1 none (match x66l0 with | .loop _ a => a | c => c) (envL [0,1,4,5,12,13] [.pt 0 0,I (w : Nat),.pt 1 0,.pt 2 0,I 6,I (k : Nat)]) (hG6 yc p.1 p.2)) = some ([.pt 0 0,I (w : Nat),.pt 1 0,.pt 2 0,I 6,I (k + 1 : Nat)],hG6 yc p'.1 p'.2)) (0,1) ⟨by decide,by decide,by decide,by decide,fun k hk => by omega⟩ (fun k p hk hq => round66 t y hw hk hq)
  refine ⟨(F 6).1,(F 6).2,FI _ (Nat.le_refl _),?_⟩
  have e0 : F 0 = (0,1) := F0
  have c0 := y.c0
  have e1 := w97 0
  rw [r66 (by simp)]; unfold x66; dsimp only
  sym =>
    simp [Za,Zb,Zc,Zd,Ze,Zf,Zh,Zl,Zm,Zt,Zu,Z0,Z1,Z5,ZD,ZH,ZI,ZL,ZM,ZQ,ZR,ZX,Yq,Y3,YD,YP,YQ,YT,YY,Xe,Xo,Xq,Xu,X0,XJ,Wc,We,Wi,Wo,Wz,W0,W3,W4,W5,W6,W7,W8,W9,WB,WC,WF,WG,WI,WJ,WK,WL,WM,WN,WO,WP,WQ,WR,WS,WT,WW,WX,Vb,Vc,Vf,Vg,Vh,Vs,V6,V7,V9,VA,VB,VC,VD,VG,VH,VI,VK,VL,VM,VN,VO,VP,VR,VS,VU,VV,VW,VX,VY,VZ,Ua,Ub,Uc,Ud,Ug,Uj,Us,Uw,Uy,U1,U2,U3,U4,U5,U6,U7,U8,U9,UC,UD,UE,UY,UZ,Tc,Td,Te,Tf,Tn,Tp,Tq,Ts,Tt,Tu,Tv,Tz,T0,T1,T2,Sg,c0,e1]
    tactic =>
      unfold x66l0
      rw [loop_rule 6 (fun k => [.pt 0 0,I (w : Nat),.pt 1 0,.pt 2 0,I 6,I (k : Nat)]) (fun k => hG6 yc (F k).1 (F k).2)]
      · (sym => (simp [Za,Zb,Zc,Zd,Ze,Zf,Zh,Zl,Zm,Zt,Zu,Z0,Z1,Z5,ZD,ZH,ZI,ZL,ZM,ZQ,ZR,ZX,Yq,Y3,YD,YP,YQ,YT,YY,Xe,Xo,Xq,Xu,X0,XJ,Wc,We,Wi,Wo,Wz,W0,W3,W4,W5,W6,W7,W8,W9,WB,WC,WF,WG,WI,WJ,WK,WL,WM,WN,WO,WP,WQ,WR,WS,WT,WW,WX,Vb,Vc,Vf,Vg,Vh,Vs,V6,V7,V9,VA,VB,VC,VD,VG,VH,VI,VK,VL,VM,VN,VO,VP,VR,VS,VU,VV,VW,VX,VY,VZ,Ua,Ub,Uc,Ud,Ug,Uj,Us,Uw,Uy,U1,U2,U3,U4,U5,U6,U7,U8,U9,UC,UD,UE,UY,UZ,Tc,Td,Te,Tf,Tn,Tp,Tq,Ts,Tt,Tu,Tv,Tz,T0,T1,T2,Sg]; all_goals tactic => exact rfl))
      · rw [e0]
        (sym => (simp [Za,Zb,Zc,Zd,Ze,Zf,Zh,Zl,Zm,Zt,Zu,Z0,Z1,Z5,ZD,ZH,ZI,ZL,ZM,ZQ,ZR,ZX,Yq,Y3,YD,YP,YQ,YT,YY,Xe,Xo,Xq,Xu,X0,XJ,Wc,We,Wi,Wo,Wz,W0,W3,W4,W5,W6,W7,W8,W9,WB,WC,WF,WG,WI,WJ,WK,WL,WM,WN,WO,WP,WQ,WR,WS,WT,WW,WX,Vb,Vc,Vf,Vg,Vh,Vs,V6,V7,V9,VA,VB,VC,VD,VG,VH,VI,VK,VL,VM,VN,VO,VP,VR,VS,VU,VV,VW,VX,VY,VZ,Ua,Ub,Uc,Ud,Ug,Uj,Us,Uw,Uy,U1,U2,U3,U4,U5,U6,U7,U8,U9,UC,UD,UE,UY,UZ,Tc,Td,Te,Tf,Tn,Tp,Tq,Ts,Tt,Tu,Tv,Tz,T0,T1,T2,Sg]; all_goals tactic => exact rfl))
      · exact FS
      · (sym => (simp [Za,Zb,Zc,Zd,Ze,Zf,Zh,Zl,Zm,Zt,Zu,Z0,Z1,Z5,ZD,ZH,ZI,ZL,ZM,ZQ,ZR,ZX,Yq,Y3,YD,YP,YQ,YT,YY,Xe,Xo,Xq,Xu,X0,XJ,Wc,We,Wi,Wo,Wz,W0,W3,W4,W5,W6,W7,W8,W9,WB,WC,WF,WG,WI,WJ,WK,WL,WM,WN,WO,WP,WQ,WR,WS,WT,WW,WX,Vb,Vc,Vf,Vg,Vh,Vs,V6,V7,V9,VA,VB,VC,VD,VG,VH,VI,VK,VL,VM,VN,VO,VP,VR,VS,VU,VV,VW,VX,VY,VZ,Ua,Ub,Uc,Ud,Ug,Uj,Us,Uw,Uy,U1,U2,U3,U4,U5,U6,U7,U8,U9,UC,UD,UE,UY,UZ,Tc,Td,Te,Tf,Tn,Tp,Tq,Ts,Tt,Tu,Tv,Tz,T0,T1,T2,Sg]; all_goals tactic => exact rfl))
end
end Go.Proofs.YtpbeclkpohehgaaDoor
namespace Go.Proofs.YtpbeclkpohehgaaDoor
open Go Go.DL
set_option maxRecDepth 100000
set_option maxHeartbeats 4000000
section
variable {s lo hi : Nat → Int} (t : SwOk s lo hi) {yc : List AV} (y : YrOk yc lo hi)
include t y
theorem w114a {j : Nat} (hj : j < 6) : runW progX 114 [.pt 0 0,I (j : Nat),I (j : Nat),I (j : Nat)] [bY yc] = some (.bool false,[bY yc]) := by
  have c1 := y.gl j hj
  have c2 : yc[1 + j]? = some (I (lo j)) := by rw [Nat.add_comm]; exact c1
  have c3 := y.gh j hj
  have c4 : yc[31 + j]? = some (I (hi j)) := by rw [Nat.add_comm]; exact c3
  have g := eq_false (show ¬ (lo j > hi j) by have := t.gl j hj; have := t.gh j hj; omega)
  have k1 : (0 ≤ (j : Int)) = True := eq_true (by omega)
  have k2 : ((j : Int) < 30) = True := eq_true (by omega)
  generalize lo j = a at *
  generalize hi j = b at *
  rw [r114 (by simp)]; unfold x114; dsimp only
  (sym => (simp [Za,Zb,Zf,Zh,Zi,Zl,Zm,Zo,Zp,Zt,Zw,Z0,Z1,Z5,Z6,ZE,ZG,ZS,ZX,Yo,Ys,Yu,Yv,YF,YP,YR,Xp,XI,Wc,Wd,Wi,Wz,W0,W3,W9,WI,WM,WN,WO,WP,WQ,WW,WX,Vb,Vc,Vs,V6,V7,V9,VA,VB,VC,VD,VG,VH,VI,VJ,VL,VP,VQ,VU,VV,VW,VZ,Ua,Ub,Uc,Ud,Us,Ux,Uy,U1,U2,U3,UC,UD,UY,UZ,Td,Tn,Tp,Tq,Tt,Tu,Tw,Ty,T1,T2,T4,Sg,Sw,c1,c2,c3,c4,g,k1,k2]; all_goals tactic => exact rfl))
theorem w114b {i j k : Nat} (h1 : i < j) (h2 : j < k) (h3 : k < 6) : runW progX 114 [.pt 0 0,I (i : Nat),I (j : Nat),I (k : Nat)] [bY yc] = some (.bool false,[bY yc]) := by
  have hc := conc t h1 h2 h3
  have li := t.gl i (by omega)
  have lk := t.gl k (by omega)
  have hj := t.gh j (by omega)
  have bi := y.bl i (by omega)
  have bk := y.bl k (by omega)
  have bj := y.bh j (by omega)
  have c1 : yc[1 + i]? = some (I (lo i)) := by rw [Nat.add_comm]; exact y.gl i (by omega)
  have c2 : yc[1 + k]? = some (I (lo k)) := by rw [Nat.add_comm]; exact y.gl k (by omega)
  have c3 : yc[31 + j]? = some (I (hi j)) := by rw [Nat.add_comm]; exact y.gh j (by omega)
  have c4 := y.gl i (by omega)
  have c5 := y.gl k (by omega)
  have c6 := y.gh j (by omega)
  have k1 : (0 ≤ (i : Int)) = True := eq_true (by omega)
  have k2 : ((i : Int) < 30) = True := eq_true (by omega)
  have k3 : (0 ≤ (j : Int)) = True := eq_true (by omega)
  have k4 : ((j : Int) < 30) = True := eq_true (by omega)
  have k5 : (0 ≤ (k : Int)) = True := eq_true (by omega)
  have k6 : ((k : Int) < 30) = True := eq_true (by omega)
  have d1 := eq_false (show ¬ ((i : Int) = (j : Int)) by omega)
  have d2 := eq_true (show ((i : Int) < (j : Int)) by omega)
  have d3 := eq_true (show ((j : Int) < (k : Int)) by omega)
  have q1 : IntKind.i64.wrap ((k : Int) - (j : Int)) = (k : Int) - (j : Int) := wrap_ok (by omega) (by omega)
  have q2 : IntKind.i64.wrap ((j : Int) - (i : Int)) = (j : Int) - (i : Int) := wrap_ok (by omega) (by omega)
  have q3 : IntKind.i64.wrap ((k : Int) - (i : Int)) = (k : Int) - (i : Int) := wrap_ok (by omega) (by omega)
  have m1 := mul_bd (a := lo i) (b := (k : Int) - (j : Int)) (A := 30000) (B := 5) (by omega) (by omega)
  have m2 := mul_bd (a := lo k) (b := (j : Int) - (i : Int)) (A := 30000) (B := 5) (by omega) (by omega)
  have m3 := mul_bd (a := hi j) (b := (k : Int) - (i : Int)) (A := 30000) (B := 5) (by omega) (by omega)
  have n1 := Int.mul_le_mul_of_nonneg_right li (show (0 : Int) ≤ (k : Int) - (j : Int) by omega)
  have n2 := Int.mul_le_mul_of_nonneg_right lk (show (0 : Int) ≤ (j : Int) - (i : Int) by omega)
  have n3 := Int.mul_le_mul_of_nonneg_right hj (show (0 : Int) ≤ (k : Int) - (i : Int) by omega)
  have q4 : IntKind.i64.wrap (lo i * ((k : Int) - (j : Int))) = lo i * ((k : Int) - (j : Int)) := wrap_ok (by omega) (by omega)
  have q5 : IntKind.i64.wrap (lo k * ((j : Int) - (i : Int))) = lo k * ((j : Int) - (i : Int)) := wrap_ok (by omega) (by omega)
  have q6 : IntKind.i64.wrap (hi j * ((k : Int) - (i : Int))) = hi j * ((k : Int) - (i : Int)) := wrap_ok (by omega) (by omega)
  have q7 : IntKind.i64.wrap (lo i * ((k : Int) - (j : Int)) + lo k * ((j : Int) - (i : Int))) = lo i * ((k : Int) - (j : Int)) + lo k * ((j : Int) - (i : Int)) := wrap_ok (by omega) (by omega)
  have g := eq_false (show ¬ (lo i * ((k : Int) - (j : Int)) + lo k * ((j : Int) - (i : Int)) > hi j * ((k : Int) - (i : Int))) by omega)
  clear m1 m2 m3 n1 n2 n3 hc li lk hj
  generalize lo i = a at *
  generalize lo k = b at *
  generalize hi j = c at *
  generalize hkj : (k : Int) - (j : Int) = kj at *
  generalize hji : (j : Int) - (i : Int) = ji at *
  generalize hki : (k : Int) - (i : Int) = ki at *
  generalize hx : a * kj = x at *
  generalize hy : b * ji = y' at *
  generalize hz : c * ki = z at *
  generalize hs : x + y' = u at *
  rw [r114 (by simp)]; unfold x114; dsimp only
  (sym => (simp [Za,Zb,Zf,Zh,Zi,Zl,Zm,Zo,Zp,Zr,Zt,Zw,Z0,Z1,Z5,Z6,ZE,ZG,ZS,ZT,ZX,Yh,Yi,Yj,Yo,Yq,Ys,Yu,Yv,YF,YP,YR,Xp,XI,Wc,Wd,Wi,Wz,W0,W3,W9,WI,WM,WN,WO,WP,WQ,WW,WX,Vb,Vc,Vs,V6,V7,V9,VA,VB,VC,VD,VG,VH,VI,VJ,VL,VP,VQ,VR,VU,VV,VW,VZ,Ua,Ub,Uc,Ud,Us,Ux,Uy,U1,U2,U3,UC,UD,UY,UZ,Td,Tn,Tp,Tq,Tt,Tu,Tw,Ty,T1,T2,T4,Sg,Sw,c1,c2,c3,c4,c5,c6,k1,k2,k3,k4,k5,k6,d1,d2,d3,hkj,hji,hki,hx,hy,hz,hs,q1,q2,q3,q4,q5,q6,q7,g]; all_goals tactic => exact rfl))
theorem round96a {i j k : Nat} (h1 : i < j) (h2 : j < k) (h3 : k < 6) : headX 1 [0,4,5,6,10,11,23,24] (execW progX 96 1 none (match x96l0 with | .loop _ a => a | c => c) (envL [0,4,5,6,10,11,23,24] [.pt 0 0,I (j : Nat),I (i : Nat),I (k : Nat),I 6,I (j : Nat),I (j : Nat),I (i : Nat)]) [bY yc]) = some ([.pt 0 0,I (j : Nat),I (i : Nat),I (k + 1 : Nat),I 6,I (j : Nat),I (j : Nat),I (i : Nat)],[bY yc]) := by
  have e := w114b t y h1 h2 h3
  have a1 := eq_true (show ((k : Int) < 6) by omega)
  have a2 := up_ix h3 (by omega)
  have c0 := y.c0
  unfold x96l0
  dsimp only
  (sym => (simp [Za,Zb,Zf,Zg,Zh,Zj,Zl,Zm,Zt,Z0,Z1,Z5,ZD,ZL,ZM,ZQ,ZR,ZX,Yh,Yq,YP,YQ,YY,Xo,Xp,Xu,XN,Wi,Wz,W0,W3,W4,W7,W8,WB,WE,WF,WG,WI,WJ,WK,WL,WM,WN,WO,WP,WQ,WS,WT,WU,WW,WX,Vb,Vc,Vf,Vg,Vh,Vi,Vs,Vu,Vv,Vw,VM,VN,VO,VP,VQ,VR,VV,VW,VY,VZ,Ua,Ub,Uc,Ud,Uw,Ux,U1,U2,U3,U4,U5,UY,UZ,Td,Tn,Tp,Tr,Tt,Tu,Tx,T0,T1,T2,Sg,Sy,Sz,S7,e,a1,a2,c0]; all_goals tactic => exact rfl))
theorem round96b {i j : Nat} (h1 : i < j) (h2 : j < 6) : headX 1 [0,4,10,11,23,24] (execW progX 96 1 none (match x96l1 with | .loop _ a => a | c => c) (envL [0,4,10,11,23,24] [.pt 0 0,I (j : Nat),I 6,I (j : Nat),I (j : Nat),I (i : Nat)]) [bY yc]) = some ([.pt 0 0,I (j : Nat),I 6,I (j : Nat),I (j : Nat),I (i + 1 : Nat)],[bY yc]) := by
  have a1 := eq_true (show ((i : Int) < (j : Int)) by omega)
  have a2 := up_ix (show i < 6 by omega) (by omega)
  have a3 : IntKind.i64.wrap ((j : Int) + 1) = ((j + 1 : Nat) : Int) := wrap_ok (by omega) (by omega)
  have c0 := y.c0
  have rd := fun m (hm : m < 5 - j) => round96a t y h1 (k := j + 1 + m) (by omega) (by omega)
  have hk : j + 1 + (5 - j) = 6 := by omega
  generalize hjm : j + 1 = jm at *
  unfold x96l1
  dsimp only
  sym =>
    simp [Za,Zb,Zf,Zh,Zl,Zm,Zt,Z0,Z1,Z5,ZD,ZX,Yh,Yq,YD,YP,YQ,YY,Xo,Xu,Wz,W0,W3,WB,WG,WI,WK,WM,WN,WO,WP,WQ,WW,WX,Vb,Vc,VM,VN,VO,VP,VQ,VR,VS,VV,VW,VZ,Ua,Ub,Uw,Ux,Uy,U1,U2,U3,U4,U5,UY,UZ,Td,Tn,Tp,Tr,Ts,Tt,Tu,Tv,Tx,Tz,T0,T1,T2,a1,a3]
    tactic =>
      unfold x96l0
      rw [loop_rule (5 - j) (fun m => [.pt 0 0,I (j : Nat),I (i : Nat),I (jm + m : Nat),I 6,I (j : Nat),I (j : Nat),I (i : Nat)]) (fun _ => [bY yc])]
      · rw [hk]
        (sym => (simp [Za,Zb,Zf,Zh,Zl,Zm,Zt,Z0,Z1,Z5,ZD,ZX,Yh,Yq,YD,YP,YQ,YY,Xo,Xu,Wz,W0,W3,WB,WG,WI,WK,WM,WN,WO,WP,WQ,WW,WX,Vb,Vc,VM,VN,VO,VP,VQ,VR,VS,VV,VW,VZ,Ua,Ub,Uw,Ux,Uy,U1,U2,U3,U4,U5,UY,UZ,Td,Tn,Tp,Tr,Ts,Tt,Tu,Tv,Tx,Tz,T0,T1,T2,c0,a2]; all_goals tactic => exact rfl))
      · rw [Nat.add_zero]
        (sym => (simp [Za,Zb,Zf,Zh,Zl,Zm,Zt,Z0,Z1,Z5,ZD,ZX,Yh,Yq,YD,YP,YQ,YY,Xo,Xu,Wz,W0,W3,WB,WG,WI,WK,WM,WN,WO,WP,WQ,WW,WX,Vb,Vc,VM,VN,VO,VP,VQ,VR,VS,VV,VW,VZ,Ua,Ub,Uw,Ux,Uy,U1,U2,U3,U4,U5,UY,UZ,Td,Tn,Tp,Tr,Ts,Tt,Tu,Tv,Tx,Tz,T0,T1,T2]; all_goals tactic => exact rfl))
      · exact rd
      · rw [hk]
        (sym => (simp [Za,Zb,Zf,Zh,Zl,Zm,Zt,Z0,Z1,Z5,ZD,ZX,Yh,Yq,YD,YP,YQ,YY,Xo,Xu,Wz,W0,W3,WB,WG,WI,WK,WM,WN,WO,WP,WQ,WW,WX,Vb,Vc,VM,VN,VO,VP,VQ,VR,VS,VV,VW,VZ,Ua,Ub,Uw,Ux,Uy,U1,U2,U3,U4,U5,UY,UZ,Td,Tn,Tp,Tr,Ts,Tt,Tu,Tv,Tx,Tz,T0,T1,T2,c0]; all_goals tactic => exact rfl))
theorem round96c {j : Nat} (h2 : j < 6) : headX 1 [0,10,11] (execW progX 96 1 none (match x96l2 with | .loop _ a => a | c => c) (envL [0,10,11] [.pt 0 0,I 6,I (j : Nat)]) [bY yc]) = some ([.pt 0 0,I 6,I (j + 1 : Nat)],[bY yc]) := by
  have a1 := eq_true (show ((j : Int) < 6) by omega)
  have a2 := up_ix h2 (by omega)
  have e := w114a t y h2
  have rd := fun i (hi : i < j) => round96b t y hi h2
  have z := UX (n := (j : Int))
  unfold x96l2
  dsimp only
  sym =>
    simp [Za,Zb,Zf,Zg,Zh,Zj,Zl,Zm,Zt,Z1,ZL,ZM,ZQ,ZR,Yh,Yq,Y3,YQ,YY,Xo,Xp,Xu,XN,Wi,Wz,W4,W7,W8,WB,WE,WF,WG,WI,WJ,WK,WL,WM,WN,WO,WP,WQ,WS,WT,WU,WW,WX,Vb,Vc,Vf,Vg,Vh,Vi,Vs,Vu,Vv,Vw,VM,VN,VO,VP,VQ,VR,VS,VV,VW,VY,VZ,Ua,Ub,Uc,Ud,Uw,Ux,Uy,U1,U2,U3,U4,U5,UX,Tn,Tp,Tr,Ts,Tt,Tu,Tv,Tx,Tz,T0,T1,T2,Sg,Sy,Sz,S7,a1,e]
    tactic =>
      unfold x96l1
      rw [loop_rule j (fun i => [.pt 0 0,I (j : Nat),I 6,I (j : Nat),I (j : Nat),I (i : Nat)]) (fun _ => [bY yc])]
      · (sym => (simp [Za,Zb,Zf,Zg,Zh,Zj,Zl,Zm,Zt,Z1,ZL,ZM,ZQ,ZR,Yh,Yq,Y3,YQ,YY,Xo,Xp,Xu,XN,Wi,Wz,W4,W7,W8,WB,WE,WF,WG,WI,WJ,WK,WL,WM,WN,WO,WP,WQ,WS,WT,WU,WW,WX,Vb,Vc,Vf,Vg,Vh,Vi,Vs,Vu,Vv,Vw,VM,VN,VO,VP,VQ,VR,VS,VV,VW,VY,VZ,Ua,Ub,Uc,Ud,Uw,Ux,Uy,U1,U2,U3,U4,U5,UX,Tn,Tp,Tr,Ts,Tt,Tu,Tv,Tx,Tz,T0,T1,T2,Sg,Sy,Sz,S7,z,a2]; all_goals tactic => exact rfl))
      · (sym => (simp [Za,Zb,Zf,Zg,Zh,Zj,Zl,Zm,Zt,Z1,ZL,ZM,ZQ,ZR,Yh,Yq,Y3,YQ,YY,Xo,Xp,Xu,XN,Wi,Wz,W4,W7,W8,WB,WE,WF,WG,WI,WJ,WK,WL,WM,WN,WO,WP,WQ,WS,WT,WU,WW,WX,Vb,Vc,Vf,Vg,Vh,Vi,Vs,Vu,Vv,Vw,VM,VN,VO,VP,VQ,VR,VS,VV,VW,VY,VZ,Ua,Ub,Uc,Ud,Uw,Ux,Uy,U1,U2,U3,U4,U5,UX,Tn,Tp,Tr,Ts,Tt,Tu,Tv,Tx,Tz,T0,T1,T2,Sg,Sy,Sz,S7]; all_goals tactic => exact rfl))
      · exact rd
      · (sym => (simp [Za,Zb,Zf,Zg,Zh,Zj,Zl,Zm,Zt,Z1,ZL,ZM,ZQ,ZR,Yh,Yq,Y3,YQ,YY,Xo,Xp,Xu,XN,Wi,Wz,W4,W7,W8,WB,WE,WF,WG,WI,WJ,WK,WL,WM,WN,WO,WP,WQ,WS,WT,WU,WW,WX,Vb,Vc,Vf,Vg,Vh,Vi,Vs,Vu,Vv,Vw,VM,VN,VO,VP,VQ,VR,VS,VV,VW,VY,VZ,Ua,Ub,Uc,Ud,Uw,Ux,Uy,U1,U2,U3,U4,U5,UX,Tn,Tp,Tr,Ts,Tt,Tu,Tv,Tx,Tz,T0,T1,T2,Sg,Sy,Sz,S7,z]; all_goals tactic => exact rfl))
theorem w96 : runW progX 96 [.pt 0 0] [bY yc] = some (.tup [.fs [],.bool false],[bY yc]) := by
  have c0 := y.c0
  have rd := fun j (hj : j < 6) => round96c t y hj
  rw [r96 (by simp)]; unfold x96; dsimp only
  sym =>
    simp [Za,Zb,Zf,Zh,Zl,Zm,Zt,Z0,Z1,Z5,ZD,ZX,Yq,Y3,YD,YP,YQ,YR,YU,YV,YY,Xo,Xp,Xr,Xs,Xu,XI,XK,XO,Wd,Wf,Wi,Wj,Wz,W0,W3,W9,WB,WG,WI,WK,WM,WN,WO,WP,WQ,WW,WX,Vb,Vc,Vs,V6,V7,V9,VA,VB,VC,VF,VG,VH,VI,VJ,VL,VM,VN,VO,VP,VR,VS,VU,VV,VW,VZ,Ua,Ub,Uc,Ud,Uw,Uy,U1,U2,U3,U4,U5,U8,U9,UC,UD,UY,UZ,Td,Tn,Tp,Tq,Ts,Tt,Tu,Tv,Tz,T0,T1,T2,Sg,c0]
    tactic =>
      unfold x96l2
      rw [loop_rule 6 (fun j => [.pt 0 0,I 6,I (j : Nat)]) (fun _ => [bY yc])]
      · (sym => (simp [Za,Zb,Zf,Zh,Zl,Zm,Zt,Z0,Z1,Z5,ZD,ZX,Yq,Y3,YD,YP,YQ,YR,YU,YV,YY,Xo,Xp,Xr,Xs,Xu,XI,XK,XO,Wd,Wf,Wi,Wj,Wz,W0,W3,W9,WB,WG,WI,WK,WM,WN,WO,WP,WQ,WW,WX,Vb,Vc,Vs,V6,V7,V9,VA,VB,VC,VF,VG,VH,VI,VJ,VL,VM,VN,VO,VP,VR,VS,VU,VV,VW,VZ,Ua,Ub,Uc,Ud,Uw,Uy,U1,U2,U3,U4,U5,U8,U9,UC,UD,UY,UZ,Td,Tn,Tp,Tq,Ts,Tt,Tu,Tv,Tz,T0,T1,T2,Sg]; all_goals tactic => exact rfl))
      · (sym => (simp [Za,Zb,Zf,Zh,Zl,Zm,Zt,Z0,Z1,Z5,ZD,ZX,Yq,Y3,YD,YP,YQ,YR,YU,YV,YY,Xo,Xp,Xr,Xs,Xu,XI,XK,XO,Wd,Wf,Wi,Wj,Wz,W0,W3,W9,WB,WG,WI,WK,WM,WN,WO,WP,WQ,WW,WX,Vb,Vc,Vs,V6,V7,V9,VA,VB,VC,VF,VG,VH,VI,VJ,VL,VM,VN,VO,VP,VR,VS,VU,VV,VW,VZ,Ua,Ub,Uc,Ud,Uw,Uy,U1,U2,U3,U4,U5,U8,U9,UC,UD,UY,UZ,Td,Tn,Tp,Tq,Ts,Tt,Tu,Tv,Tz,T0,T1,T2,Sg]; all_goals tactic => exact rfl))
      · exact rd
      · (sym => (simp [Za,Zb,Zf,Zh,Zl,Zm,Zt,Z0,Z1,Z5,ZD,ZX,Yq,Y3,YD,YP,YQ,YR,YU,YV,YY,Xo,Xp,Xr,Xs,Xu,XI,XK,XO,Wd,Wf,Wi,Wj,Wz,W0,W3,W9,WB,WG,WI,WK,WM,WN,WO,WP,WQ,WW,WX,Vb,Vc,Vs,V6,V7,V9,VA,VB,VC,VF,VG,VH,VI,VJ,VL,VM,VN,VO,VP,VR,VS,VU,VV,VW,VZ,Ua,Ub,Uc,Ud,Uw,Uy,U1,U2,U3,U4,U5,U8,U9,UC,UD,UY,UZ,Td,Tn,Tp,Tq,Ts,Tt,Tu,Tv,Tz,T0,T1,T2,Sg]; all_goals tactic => exact rfl))
end
end Go.Proofs.YtpbeclkpohehgaaDoor
namespace Go.Proofs.YtpbeclkpohehgaaDoor
open Go Go.DL
set_option maxRecDepth 100000
set_option maxHeartbeats 4000000
structure Sm where
  w : Nat
  v : Int
  o : Int
abbrev Sm.row (x : Sm) : List AV := [I (x.w : Nat),I x.v,I x.o]
structure Sm.Ok (s : Nat → Int) (x : Sm) : Prop where
  w : x.w < 6
  v : 0 ≤ x.v ∧ x.v ≤ 30000
  o : 0 ≤ x.o ∧ x.o ≤ 30000
  l : x.v - x.o ≤ s x.w
  h : s x.w ≤ x.v + x.o
abbrev fdC (ss : List Sm) : List AV := [I 6,I 0,I 30000,.fs (ss.map Sm.row)]
theorem btw_t {a b c : Int} (h : a ≤ b ∧ b ≤ c) : btw a b c = true := btwF.2 h
theorem w94 {s : Nat → Int} {ss : List Sm} (hs : ∀ x ∈ ss,x.Ok s) (hl : ss.length ≤ 6) : runW progX 94 [.agg (fdC ss)] [] = some (I 0,[]) := by
  have z := UX (n := (ss.length : Int))
  have b1 := w113 1 6 30
  have b2 := w113 0 0 30000
  rw [btw_t (by omega)] at b1 b2
  have g := eq_false (show ¬ ((ss.length : Int) > 100) by omega)
  have q5 : IntKind.i64.wrap ((6 : Int) - 1) = 5 := wrap_ok (by omega) (by omega)
  have rd : ∀ i,i < ss.length → headX 0 [1,32,33,34] (execW progX 94 0 none (match x94l0 with | .loop _ a => a | c => c) (envL [1,32,33,34] [.pt 0 0,.fs (ss.map Sm.row),I ss.length,I (i : Nat)]) [some (.blk true (.cells true (fdC ss)))]) = some ([.pt 0 0,.fs (ss.map Sm.row),I ss.length,I (i + 1 : Nat)],[some (.blk true (.cells true (fdC ss)))]) := by
    intro i hi
    obtain ⟨x,hx⟩ := at_ix hi
    have ok := hs x (List.mem_of_getElem? hx)
    have a1 := lt_ix hi
    have a2 := up_ix hi (by omega)
    have e1 := w113 0 (x.w : Nat) 5
    have e2 := w113 0 x.v 30000
    have e3 := w113 0 x.o 30000
    rw [btw_t (by have := ok.w; omega)] at e1
    rw [btw_t ok.v] at e2
    rw [btw_t ok.o] at e3
    unfold x94l0
    dsimp only
    (sym => (simp [Za,Zb,Zc,Zf,Zg,Zh,Zj,Zl,Zm,Zn,Zo,Zq,Zt,Zu,Zw,Zx,Z1,Z2,Z5,Z7,ZB,ZD,ZH,ZI,ZL,ZM,ZQ,ZR,ZT,ZU,ZX,ZZ,Ye,Yf,Yh,Yi,Yq,Ys,Yu,Yv,Y1,Y3,YQ,YV,YY,Xe,Xf,Xg,Xo,Xp,Xs,Xu,X0,Wc,We,Wg,Wo,Wz,W0,W3,W4,W5,W6,W7,W8,W9,WA,WB,WF,WG,WI,WJ,WK,WL,WM,WN,WO,WP,WQ,WR,WS,WT,WW,WX,Vc,Vf,Vg,Vh,Vs,Vu,Vv,Vx,Vy,V0,V6,V7,V9,VA,VB,VC,VD,VG,VH,VI,VJ,VL,VM,VN,VO,VP,VQ,VR,VS,VU,VV,VW,VX,VY,VZ,Ub,Uc,Ud,Ue,Uf,Ug,Uj,Um,Us,Uw,Ux,Uy,U1,U2,U3,U4,U5,U6,U7,UC,UD,UE,UK,UL,UX,UY,UZ,Ta,Tb,Tc,Td,Te,Tf,Ti,Tn,Tp,Tq,Tr,Ts,Tt,Tu,Tv,Tx,Tz,T0,T1,T2,T6,Sg,Sy,Sz,S6,a1,a2,hx,e1,e2,e3,q5]; all_goals tactic => exact rfl))
  rw [r94 (by simp)]; unfold x94; dsimp only
  sym =>
    simp [Za,Zb,Zc,Zf,Zg,Zh,Zj,Zl,Zm,Zn,Zo,Zq,Zt,Zu,Zw,Zx,Z1,Z2,Z5,Z7,ZB,ZD,ZH,ZI,ZL,ZM,ZQ,ZR,ZT,ZU,ZX,ZZ,Ye,Yf,Yh,Yi,Yq,Ys,Yu,Yv,Y1,Y3,YQ,YV,YY,Xe,Xf,Xg,Xo,Xp,Xs,Xu,X0,Wc,We,Wg,Wo,Wz,W0,W3,W4,W5,W6,W7,W8,W9,WA,WB,WF,WG,WI,WJ,WK,WL,WM,WN,WO,WP,WQ,WR,WS,WT,WW,WX,Vc,Vf,Vg,Vh,Vs,Vu,Vv,Vx,Vy,V0,V6,V7,V9,VA,VB,VC,VD,VG,VH,VI,VJ,VL,VM,VN,VO,VP,VQ,VR,VS,VU,VV,VW,VX,VY,VZ,Ub,Uc,Ud,Ue,Uf,Ug,Uj,Um,Us,Uw,Ux,Uy,U1,U2,U3,U4,U5,U6,U7,UC,UD,UE,UK,UL,UX,UY,UZ,Ta,Tb,Tc,Td,Te,Tf,Ti,Tn,Tp,Tq,Tr,Ts,Tt,Tu,Tv,Tx,Tz,T0,T1,T2,T6,Sg,Sy,Sz,S6,b1,b2,g]
    tactic =>
      unfold x94l0
      rw [loop_rule ss.length (fun i => [.pt 0 0,.fs (ss.map Sm.row),I ss.length,I (i : Nat)]) (fun _ => [some (.blk true (.cells true (fdC ss)))])]
      · (sym => (simp [Za,Zb,Zc,Zf,Zg,Zh,Zj,Zl,Zm,Zn,Zo,Zq,Zt,Zu,Zw,Zx,Z1,Z2,Z5,Z7,ZB,ZD,ZH,ZI,ZL,ZM,ZQ,ZR,ZT,ZU,ZX,ZZ,Ye,Yf,Yh,Yi,Yq,Ys,Yu,Yv,Y1,Y3,YQ,YV,YY,Xe,Xf,Xg,Xo,Xp,Xs,Xu,X0,Wc,We,Wg,Wo,Wz,W0,W3,W4,W5,W6,W7,W8,W9,WA,WB,WF,WG,WI,WJ,WK,WL,WM,WN,WO,WP,WQ,WR,WS,WT,WW,WX,Vc,Vf,Vg,Vh,Vs,Vu,Vv,Vx,Vy,V0,V6,V7,V9,VA,VB,VC,VD,VG,VH,VI,VJ,VL,VM,VN,VO,VP,VQ,VR,VS,VU,VV,VW,VX,VY,VZ,Ub,Uc,Ud,Ue,Uf,Ug,Uj,Um,Us,Uw,Ux,Uy,U1,U2,U3,U4,U5,U6,U7,UC,UD,UE,UK,UL,UX,UY,UZ,Ta,Tb,Tc,Td,Te,Tf,Ti,Tn,Tp,Tq,Tr,Ts,Tt,Tu,Tv,Tx,Tz,T0,T1,T2,T6,Sg,Sy,Sz,S6,z]; all_goals tactic => exact rfl))
      · (sym => (simp [Za,Zb,Zc,Zf,Zg,Zh,Zj,Zl,Zm,Zn,Zo,Zq,Zt,Zu,Zw,Zx,Z1,Z2,Z5,Z7,ZB,ZD,ZH,ZI,ZL,ZM,ZQ,ZR,ZT,ZU,ZX,ZZ,Ye,Yf,Yh,Yi,Yq,Ys,Yu,Yv,Y1,Y3,YQ,YV,YY,Xe,Xf,Xg,Xo,Xp,Xs,Xu,X0,Wc,We,Wg,Wo,Wz,W0,W3,W4,W5,W6,W7,W8,W9,WA,WB,WF,WG,WI,WJ,WK,WL,WM,WN,WO,WP,WQ,WR,WS,WT,WW,WX,Vc,Vf,Vg,Vh,Vs,Vu,Vv,Vx,Vy,V0,V6,V7,V9,VA,VB,VC,VD,VG,VH,VI,VJ,VL,VM,VN,VO,VP,VQ,VR,VS,VU,VV,VW,VX,VY,VZ,Ub,Uc,Ud,Ue,Uf,Ug,Uj,Um,Us,Uw,Ux,Uy,U1,U2,U3,U4,U5,U6,U7,UC,UD,UE,UK,UL,UX,UY,UZ,Ta,Tb,Tc,Td,Te,Tf,Ti,Tn,Tp,Tq,Tr,Ts,Tt,Tu,Tv,Tx,Tz,T0,T1,T2,T6,Sg,Sy,Sz,S6]; all_goals tactic => exact rfl))
      · exact rd
      · (sym => (simp [Za,Zb,Zc,Zf,Zg,Zh,Zj,Zl,Zm,Zn,Zo,Zq,Zt,Zu,Zw,Zx,Z1,Z2,Z5,Z7,ZB,ZD,ZH,ZI,ZL,ZM,ZQ,ZR,ZT,ZU,ZX,ZZ,Ye,Yf,Yh,Yi,Yq,Ys,Yu,Yv,Y1,Y3,YQ,YV,YY,Xe,Xf,Xg,Xo,Xp,Xs,Xu,X0,Wc,We,Wg,Wo,Wz,W0,W3,W4,W5,W6,W7,W8,W9,WA,WB,WF,WG,WI,WJ,WK,WL,WM,WN,WO,WP,WQ,WR,WS,WT,WW,WX,Vc,Vf,Vg,Vh,Vs,Vu,Vv,Vx,Vy,V0,V6,V7,V9,VA,VB,VC,VD,VG,VH,VI,VJ,VL,VM,VN,VO,VP,VQ,VR,VS,VU,VV,VW,VX,VY,VZ,Ub,Uc,Ud,Ue,Uf,Ug,Uj,Um,Us,Uw,Ux,Uy,U1,U2,U3,U4,U5,U6,U7,UC,UD,UE,UK,UL,UX,UY,UZ,Ta,Tb,Tc,Td,Te,Tf,Ti,Tn,Tp,Tq,Tr,Ts,Tt,Tu,Tv,Tx,Tz,T0,T1,T2,T6,Sg,Sy,Sz,S6,z]; all_goals tactic => exact rfl))
def yB : Nat → Nat → Int
  | 0 => fun x => if x = 0 then 6 else 0
  | j + 1 => upF (upF (yB j) (1 + j) 0) (31 + j) 30000
def yS (ss : List Sm) : Nat → Nat → Int
  | 0 => yB 6
  | m + 1 => upF (upF (yS ss m) (1 + (ss.getD m ⟨0,0,0⟩).w) (mxI (yS ss m (1 + (ss.getD m ⟨0,0,0⟩).w)) ((ss.getD m ⟨0,0,0⟩).v - (ss.getD m ⟨0,0,0⟩).o))) (31 + (ss.getD m ⟨0,0,0⟩).w) (mnI (yS ss m (31 + (ss.getD m ⟨0,0,0⟩).w)) ((ss.getD m ⟨0,0,0⟩).v + (ss.getD m ⟨0,0,0⟩).o))
theorem yB_at : ∀ j,j ≤ 6 → yB j 0 = 6 ∧ ∀ w : Nat,w < j → yB j (1 + w) = 0 ∧ yB j (31 + w) = 30000
  | 0,_ => ⟨rfl,fun w hw => by omega⟩
  | j + 1,hj => by
    obtain ⟨h1,h2⟩ := yB_at j (by omega)
    rw [yB]
    refine ⟨by rw [up_ne (by omega),up_ne (by omega)]; exact h1,fun w hw => ?_⟩
    by_cases e : w = j
    · subst e
      rw [up_ne (by omega),up_at,up_at]
      exact ⟨rfl,rfl⟩
    · rw [up_ne (by omega),up_ne (by omega),up_ne (by omega),up_ne (by omega)]
      exact h2 w (by omega)
theorem yS_at {s : Nat → Int} {ss : List Sm} (bd : ∀ w : Nat,w < 6 → 0 ≤ s w ∧ s w ≤ 30000) (hs : ∀ x ∈ ss,x.Ok s) : ∀ m,m ≤ ss.length → yS ss m 0 = 6 ∧ ∀ w : Nat,w < 6 → (0 ≤ yS ss m (1 + w) ∧ yS ss m (1 + w) ≤ s w) ∧ s w ≤ yS ss m (31 + w) ∧ yS ss m (31 + w) ≤ 30000
  | 0,_ => by
    obtain ⟨h1,h2⟩ := yB_at 6 (Nat.le_refl _)
    refine ⟨h1,fun w hw => ?_⟩
    obtain ⟨e1,e2⟩ := h2 w hw
    have := bd w hw
    rw [yS,e1,e2]
    omega
  | m + 1,hm => by
    obtain ⟨h1,h2⟩ := yS_at bd hs m (by omega)
    obtain ⟨x,hx⟩ := at_ix (l := ss) (i := m) (by omega)
    have ok := hs x (List.mem_of_getElem? hx)
    have okw := ok.w
    rw [yS,getD_of hx]
    refine ⟨by rw [up_ne (by omega),up_ne (by omega)]; exact h1,fun w hw => ?_⟩
    obtain ⟨p1,p2⟩ := h2 w hw
    by_cases e : w = x.w
    · subst e
      rw [up_ne (by omega),up_at,up_at]
      have := ok.l
      have := ok.h
      have := ok.v
      have := ok.o
      unfold mxI mnI
      constructor
      · split <;> omega
      · split <;> omega
    · rw [up_ne (by omega),up_ne (by omega),up_ne (by omega),up_ne (by omega)]
      exact ⟨p1,p2⟩
theorem same_map : ∀ l : List Int,sameL (l.map I) (l.map I) = true
  | [] => rfl
  | a :: r => by
    rw [List.map_cons,sameL,same_map r]
    simp [sameA]
abbrev yC9 (ss : List Sm) : List AV := (aL 61 (yS ss ss.length)).map I
theorem yr_ok {s : Nat → Int} {ss : List Sm} (bd : ∀ w : Nat,w < 6 → 0 ≤ s w ∧ s w ≤ 30000) (d : ∀ w : Nat,w + 2 < 6 → s w + s (w + 2) ≤ 2 * s (w + 1)) (hs : ∀ x ∈ ss,x.Ok s) : YrOk (yC9 ss) (fun w => yS ss ss.length (1 + w)) (fun w => yS ss ss.length (31 + w)) ∧ SwOk s (fun w => yS ss ss.length (1 + w)) (fun w => yS ss ss.length (31 + w)) := by
  obtain ⟨h1,h2⟩ := yS_at bd hs _ (Nat.le_refl _)
  have get : ∀ k : Nat,k < 61 → (yC9 ss)[k]? = some (I (yS ss ss.length k)) := fun k hk => by
    unfold yC9
    rw [List.getElem?_map,aL_get hk]; rfl
  refine ⟨⟨by unfold yC9; rw [List.length_map,aL_len],same_map _,by rw [get 0 (by omega),h1],fun w hw => by rw [get _ (by omega),Nat.add_comm],fun w hw => by rw [get _ (by omega),Nat.add_comm],fun w hw => ?_,fun w hw => ?_⟩,⟨fun w hw => (h2 w hw).1.2,fun w hw => (h2 w hw).2.1,bd,d⟩⟩
  · have := bd w hw
    have := h2 w hw
    try dsimp only
    omega
  · have := bd w hw
    have := h2 w hw
    try dsimp only
    omega
theorem y0_lit : (aL 61 (yB 0)).map I = [I 6,I 0,I 0,I 0,I 0,I 0,I 0,I 0,I 0,I 0,I 0,I 0,I 0,I 0,I 0,I 0,I 0,I 0,I 0,I 0,I 0,I 0,I 0,I 0,I 0,I 0,I 0,I 0,I 0,I 0,I 0,I 0,I 0,I 0,I 0,I 0,I 0,I 0,I 0,I 0,I 0,I 0,I 0,I 0,I 0,I 0,I 0,I 0,I 0,I 0,I 0,I 0,I 0,I 0,I 0,I 0,I 0,I 0,I 0,I 0,I 0] := rfl
abbrev h95 (ss : List Sm) (F : Nat → Int) : XH := [some (.blk true (.cells true (fdC ss))),some (.blk true (.cells true ((aL 61 F).map I)))]
theorem round95a {ss : List Sm} {j : Nat} (hj : j < 6) : headX 0 [1,3,12,13] (execW progX 95 0 none (match x95l0 with | .loop _ a => a | c => c) (envL [1,3,12,13] [.pt 0 0,.pt 1 0,I 6,I (j : Nat)]) (h95 ss (yB j))) = some ([.pt 0 0,.pt 1 0,I 6,I (j + 1 : Nat)],h95 ss (yB (j + 1))) := by
  have a1 := eq_true (show ((j : Int) < 6) by omega)
  have a2 := up_ix hj (by omega)
  have s1 := aL_set (N := 61) (k := 1 + j) (F := yB j) (a := 0) (by omega)
  have s2 := aL_set (N := 61) (k := 31 + j) (F := upF (yB j) (1 + j) 0) (a := 30000) (by omega)
  have l1 := aL_len 61 (yB j)
  have l2 := aL_len 61 (upF (yB j) (1 + j) 0)
  have k1 : (0 ≤ (j : Int)) = True := eq_true (by omega)
  have k2 : ((j : Int) < 30) = True := eq_true (by omega)
  have p1 : (1 + j + 1 ≤ 61) = True := eq_true (by omega)
  have p2 : (31 + j + 1 ≤ 61) = True := eq_true (by omega)
  rw [yB]
  generalize upF (upF (yB j) (1 + j) 0) (31 + j) 30000 = F2 at *
  generalize upF (yB j) (1 + j) 0 = F1 at *
  generalize yB j = F at *
  unfold x95l0
  dsimp only
  (sym => (simp [Za,Zb,Zc,Zd,Ze,Zf,Zh,Zi,Zl,Zm,Zt,Z0,Z1,Z5,Z6,ZE,ZG,ZH,ZJ,ZK,ZX,Yh,Yq,Yu,Yv,YF,YP,YQ,YY,Xe,Xo,Xu,Wn,Wx,Wz,W0,W3,W4,WA,WB,WC,WF,WG,WI,WJ,WK,WM,WO,WP,WQ,WR,WW,WX,Vc,Vj,Vk,VM,VN,VO,VP,VQ,VV,VW,VX,VY,VZ,Ub,Uc,Ud,Ue,Ug,Uj,Um,Un,Uo,Uq,Us,Uw,Ux,Uy,Uz,U0,U2,U3,U4,U5,U6,U7,UY,UZ,Td,Te,Tf,Tn,Tp,Tr,Tt,Tu,Tx,T0,T1,T2,T4,T6,T8,Sf,Sw,a1,a2,s1,s2,l1,l2,k1,k2,p1,p2]; all_goals tactic => exact rfl))
theorem round95b {s : Nat → Int} {ss : List Sm} (bd : ∀ w : Nat,w < 6 → 0 ≤ s w ∧ s w ≤ 30000) (hs : ∀ x ∈ ss,x.Ok s) (hl : ss.length ≤ 6) {m : Nat} (hm : m < ss.length) : headX 0 [3,34,35,36] (execW progX 95 0 none (match x95l1 with | .loop _ a => a | c => c) (envL [3,34,35,36] [.pt 0 0,.fs (ss.map Sm.row),I ss.length,I (m : Nat)]) [some (.blk true (.cells true ((aL 61 (yS ss m)).map I)))]) = some ([.pt 0 0,.fs (ss.map Sm.row),I ss.length,I (m + 1 : Nat)],[some (.blk true (.cells true ((aL 61 (yS ss (m + 1))).map I)))]) := by
  obtain ⟨x,hx⟩ := at_ix hm
  have ok := hs x (List.mem_of_getElem? hx)
  have okw := ok.w
  have okv := ok.v
  have oko := ok.o
  obtain ⟨_,hh2⟩ := yS_at bd hs m (by omega)
  obtain ⟨⟨b1,b2⟩,b3,b4⟩ := hh2 x.w okw
  clear hh2
  have a1 := lt_ix hm
  have a2 := up_ix hm (by omega)
  have k1 : (0 ≤ (x.w : Int)) = True := eq_true (by omega)
  have k2 : ((x.w : Int) < 30) = True := eq_true (by omega)
  have q1 : IntKind.i64.wrap (x.v - x.o) = x.v - x.o := wrap_ok (by omega) (by omega)
  have q2 : IntKind.i64.wrap (x.v + x.o) = x.v + x.o := wrap_ok (by omega) (by omega)
  have e : yS ss (m + 1) = upF (upF (yS ss m) (1 + x.w) (mxI (yS ss m (1 + x.w)) (x.v - x.o))) (31 + x.w) (mnI (yS ss m (31 + x.w)) (x.v + x.o)) := by rw [yS,getD_of hx]
  rw [e]
  clear e
  generalize yS ss m = F at *
  have g1 := aL_get (N := 61) (k := 1 + x.w) (F := F) (by omega)
  have g2 := aL_get (N := 61) (k := 31 + x.w) (F := upF F (1 + x.w) (mxI (F (1 + x.w)) (x.v - x.o))) (by omega)
  rw [up_ne (by omega)] at g2
  have s1 := aL_set (N := 61) (k := 1 + x.w) (F := F) (a := mxI (F (1 + x.w)) (x.v - x.o)) (by omega)
  have s2 := aL_set (N := 61) (k := 31 + x.w) (F := upF F (1 + x.w) (mxI (F (1 + x.w)) (x.v - x.o))) (a := mnI (F (31 + x.w)) (x.v + x.o)) (by omega)
  have l1 := aL_len 61 F
  have l2 := aL_len 61 (upF F (1 + x.w) (mxI (F (1 + x.w)) (x.v - x.o)))
  have p3 : (1 + x.w + 1 ≤ 61) = True := eq_true (by omega)
  have p4 : (31 + x.w + 1 ≤ 61) = True := eq_true (by omega)
  have h1 : (mxI (F (1 + x.w)) (x.v - x.o) = x.v - x.o ∧ ((F (1 + x.w) < x.v - x.o) = True)) ∨ (mxI (F (1 + x.w)) (x.v - x.o) = F (1 + x.w) ∧ ((F (1 + x.w) < x.v - x.o) = False)) := by
    unfold mxI
    by_cases h : x.v - x.o > F (1 + x.w)
    · exact .inl ⟨if_pos h,eq_true h⟩
    · exact .inr ⟨if_neg h,eq_false h⟩
  have h2 : (mnI (F (31 + x.w)) (x.v + x.o) = x.v + x.o ∧ ((x.v + x.o < F (31 + x.w)) = True)) ∨ (mnI (F (31 + x.w)) (x.v + x.o) = F (31 + x.w) ∧ ((x.v + x.o < F (31 + x.w)) = False)) := by
    unfold mnI
    by_cases h : x.v + x.o < F (31 + x.w)
    · exact .inl ⟨if_pos h,eq_true h⟩
    · exact .inr ⟨if_neg h,eq_false h⟩
  generalize upF (upF F (1 + x.w) (mxI (F (1 + x.w)) (x.v - x.o))) (31 + x.w) (mnI (F (31 + x.w)) (x.v + x.o)) = F2 at *
  generalize upF F (1 + x.w) (mxI (F (1 + x.w)) (x.v - x.o)) = F1 at *
  generalize mxI (F (1 + x.w)) (x.v - x.o) = v1 at *
  generalize mnI (F (31 + x.w)) (x.v + x.o) = v2 at *
  generalize F (1 + x.w) = f1 at *
  generalize F (31 + x.w) = f2 at *
  unfold x95l1
  dsimp only
  rcases h1 with ⟨rfl,h1⟩ | ⟨rfl,h1⟩
  · rcases h2 with ⟨rfl,h2⟩ | ⟨rfl,h2⟩
    · (sym => (simp [Za,Zb,Zc,Zf,Zh,Zi,Zl,Zm,Zt,Zu,Z0,Z1,Z5,Z6,Z7,ZC,ZD,ZE,ZG,ZH,ZI,ZJ,ZK,ZX,Ye,Yf,Yh,Yi,Yq,Yu,Yv,YF,YG,YH,YP,YQ,YV,YY,Xe,Xo,Xs,Xu,Wn,Wo,Wx,Wz,W0,W3,W4,W5,W6,W7,W8,WA,WB,WF,WG,WI,WJ,WK,WM,WO,WP,WQ,WR,WW,WX,Vc,Vj,VM,VN,VO,VP,VQ,VV,VW,VX,VY,VZ,Ub,Uc,Ud,Ue,Uf,Ug,Uj,Un,Uo,Us,Uw,Ux,Uz,U0,U2,U3,U4,U5,U6,U7,UE,UY,UZ,Ta,Tb,Tc,Td,Te,Tf,Tn,Tp,Tr,Tt,Tu,Tx,T0,T1,T2,T4,T6,T8,Sf,Sw,a1,a2,hx,k1,k2,q1,q2,g1,g2,s1,s2,l1,l2,p3,p4,h1,h2]; all_goals tactic => exact rfl))
    · (sym => (simp [Za,Zb,Zc,Zf,Zh,Zi,Zl,Zm,Zt,Zu,Z0,Z1,Z5,Z6,Z7,ZC,ZD,ZE,ZG,ZH,ZI,ZJ,ZK,ZX,Ye,Yf,Yh,Yi,Yq,Yu,Yv,YF,YG,YH,YP,YQ,YV,YY,Xe,Xo,Xs,Xu,Wn,Wo,Wx,Wz,W0,W3,W4,W5,W6,W7,W8,WA,WB,WF,WG,WI,WJ,WK,WM,WO,WP,WQ,WR,WW,WX,Vc,Vj,VM,VN,VO,VP,VQ,VV,VW,VX,VY,VZ,Ub,Uc,Ud,Ue,Uf,Ug,Uj,Un,Uo,Us,Uw,Ux,Uz,U0,U2,U3,U4,U5,U6,U7,UE,UY,UZ,Ta,Tb,Tc,Td,Te,Tf,Tn,Tp,Tr,Tt,Tu,Tx,T0,T1,T2,T4,T6,T8,Sf,Sw,a1,a2,hx,k1,k2,q1,q2,g1,g2,s1,s2,l1,l2,p3,p4,h1,h2]; all_goals tactic => exact rfl))
  · rcases h2 with ⟨rfl,h2⟩ | ⟨rfl,h2⟩
    · (sym => (simp [Za,Zb,Zc,Zf,Zh,Zi,Zl,Zm,Zt,Zu,Z0,Z1,Z5,Z6,Z7,ZC,ZD,ZE,ZG,ZH,ZI,ZJ,ZK,ZX,Ye,Yf,Yh,Yi,Yq,Yu,Yv,YF,YG,YH,YP,YQ,YV,YY,Xe,Xo,Xs,Xu,Wn,Wo,Wx,Wz,W0,W3,W4,W5,W6,W7,W8,WA,WB,WF,WG,WI,WJ,WK,WM,WO,WP,WQ,WR,WW,WX,Vc,Vj,VM,VN,VO,VP,VQ,VV,VW,VX,VY,VZ,Ub,Uc,Ud,Ue,Uf,Ug,Uj,Un,Uo,Us,Uw,Ux,Uz,U0,U2,U3,U4,U5,U6,U7,UE,UY,UZ,Ta,Tb,Tc,Td,Te,Tf,Tn,Tp,Tr,Tt,Tu,Tx,T0,T1,T2,T4,T6,T8,Sf,Sw,a1,a2,hx,k1,k2,q1,q2,g1,g2,s1,s2,l1,l2,p3,p4,h1,h2]; all_goals tactic => exact rfl))
    · (sym => (simp [Za,Zb,Zc,Zf,Zh,Zi,Zl,Zm,Zt,Zu,Z0,Z1,Z5,Z6,Z7,ZC,ZD,ZE,ZG,ZH,ZI,ZJ,ZK,ZX,Ye,Yf,Yh,Yi,Yq,Yu,Yv,YF,YG,YH,YP,YQ,YV,YY,Xe,Xo,Xs,Xu,Wn,Wo,Wx,Wz,W0,W3,W4,W5,W6,W7,W8,WA,WB,WF,WG,WI,WJ,WK,WM,WO,WP,WQ,WR,WW,WX,Vc,Vj,VM,VN,VO,VP,VQ,VV,VW,VX,VY,VZ,Ub,Uc,Ud,Ue,Uf,Ug,Uj,Un,Uo,Us,Uw,Ux,Uz,U0,U2,U3,U4,U5,U6,U7,UE,UY,UZ,Ta,Tb,Tc,Td,Te,Tf,Tn,Tp,Tr,Tt,Tu,Tx,T0,T1,T2,T4,T6,T8,Sf,Sw,a1,a2,hx,k1,k2,q1,q2,g1,g2,s1,s2,l1,l2,p3,p4,h1,h2]; all_goals tactic => exact rfl))
theorem w95 {s : Nat → Int} {ss : List Sm} (bd : ∀ w : Nat,w < 6 → 0 ≤ s w ∧ s w ≤ 30000) (hs : ∀ x ∈ ss,x.Ok s) (hl : ss.length ≤ 6) : runW progX 95 [.agg (fdC ss)] [] = some (.pt 0 0,[some (.blk true (.cells true (yC9 ss)))]) := by
  have z := UX (n := (ss.length : Int))
  have rd1 := fun j (hj : j < 6) => round95a (ss := ss) hj
  have rd2 := fun m (hm : m < ss.length) => round95b bd hs hl hm
  have e0 : yS ss 0 = yB 6 := rfl
  rw [r95 (by simp)]; unfold x95; dsimp only
  sym =>
    simp [Za,Zb,Zd,Ze,Zf,Zh,Zl,Zm,Zn,Zt,Zx,Zy,Z1,Z5,ZB,ZD,ZX,ZZ,Yq,Y3,YD,YO,YQ,YV,YY,Xe,Xf,Xg,Xo,Xs,Xu,XN,Wc,We,Wg,Wi,Wn,Wo,Wz,W0,W3,W5,W7,W9,WA,WB,WC,WF,WG,WI,WJ,WK,WM,WO,WP,WQ,WR,WW,WX,Vc,Vs,V6,V7,V9,VA,VB,VC,VD,VG,VH,VI,VJ,VL,VM,VN,VO,VP,VR,VS,VU,VV,VW,VX,VY,VZ,Ub,Uc,Ud,Ue,Ug,Uj,Us,Uw,Uy,U2,U3,U4,U5,U6,U7,UC,UD,UE,UF,UG,UH,UK,UL,UX,UY,UZ,Td,Ti,Tn,Tp,Tq,Ts,Tt,Tu,Tv,Tz,T0,T1,T2,T6,Sg]
    tactic =>
      unfold x95l0
      rw [loop_rule 6 (fun j => [.pt 0 0,.pt 1 0,I 6,I (j : Nat)]) (fun j => h95 ss (yB j))]
      · sym =>
          simp [Za,Zb,Zd,Ze,Zf,Zh,Zl,Zm,Zn,Zt,Zx,Zy,Z1,Z5,ZB,ZD,ZX,ZZ,Yq,Y3,YD,YO,YQ,YV,YY,Xe,Xf,Xg,Xo,Xs,Xu,XN,Wc,We,Wg,Wi,Wn,Wo,Wz,W0,W3,W5,W7,W9,WA,WB,WC,WF,WG,WI,WJ,WK,WM,WO,WP,WQ,WR,WW,WX,Vc,Vs,V6,V7,V9,VA,VB,VC,VD,VG,VH,VI,VJ,VL,VM,VN,VO,VP,VR,VS,VU,VV,VW,VX,VY,VZ,Ub,Uc,Ud,Ue,Ug,Uj,Us,Uw,Uy,U2,U3,U4,U5,U6,U7,UC,UD,UE,UF,UG,UH,UK,UL,UX,UY,UZ,Td,Ti,Tn,Tp,Tq,Ts,Tt,Tu,Tv,Tz,T0,T1,T2,T6,Sg]
          tactic =>
            unfold x95l1
            rw [loop_rule ss.length (fun m => [.pt 0 0,.fs (ss.map Sm.row),I ss.length,I (m : Nat)]) (fun m => [some (.blk true (.cells true ((aL 61 (yS ss m)).map I)))])]
            · (sym => (simp [Za,Zb,Zd,Ze,Zf,Zh,Zl,Zm,Zn,Zt,Zx,Zy,Z1,Z5,ZB,ZD,ZX,ZZ,Yq,Y3,YD,YO,YQ,YV,YY,Xe,Xf,Xg,Xo,Xs,Xu,XN,Wc,We,Wg,Wi,Wn,Wo,Wz,W0,W3,W5,W7,W9,WA,WB,WC,WF,WG,WI,WJ,WK,WM,WO,WP,WQ,WR,WW,WX,Vc,Vs,V6,V7,V9,VA,VB,VC,VD,VG,VH,VI,VJ,VL,VM,VN,VO,VP,VR,VS,VU,VV,VW,VX,VY,VZ,Ub,Uc,Ud,Ue,Ug,Uj,Us,Uw,Uy,U2,U3,U4,U5,U6,U7,UC,UD,UE,UF,UG,UH,UK,UL,UX,UY,UZ,Td,Ti,Tn,Tp,Tq,Ts,Tt,Tu,Tv,Tz,T0,T1,T2,T6,Sg,z]; all_goals tactic => exact rfl))
            · rw [e0]
              (sym => (simp [Za,Zb,Zd,Ze,Zf,Zh,Zl,Zm,Zn,Zt,Zx,Zy,Z1,Z5,ZB,ZD,ZX,ZZ,Yq,Y3,YD,YO,YQ,YV,YY,Xe,Xf,Xg,Xo,Xs,Xu,XN,Wc,We,Wg,Wi,Wn,Wo,Wz,W0,W3,W5,W7,W9,WA,WB,WC,WF,WG,WI,WJ,WK,WM,WO,WP,WQ,WR,WW,WX,Vc,Vs,V6,V7,V9,VA,VB,VC,VD,VG,VH,VI,VJ,VL,VM,VN,VO,VP,VR,VS,VU,VV,VW,VX,VY,VZ,Ub,Uc,Ud,Ue,Ug,Uj,Us,Uw,Uy,U2,U3,U4,U5,U6,U7,UC,UD,UE,UF,UG,UH,UK,UL,UX,UY,UZ,Td,Ti,Tn,Tp,Tq,Ts,Tt,Tu,Tv,Tz,T0,T1,T2,T6,Sg]; all_goals tactic => exact rfl))
            · exact rd2
            · (sym => (simp [Za,Zb,Zd,Ze,Zf,Zh,Zl,Zm,Zn,Zt,Zx,Zy,Z1,Z5,ZB,ZD,ZX,ZZ,Yq,Y3,YD,YO,YQ,YV,YY,Xe,Xf,Xg,Xo,Xs,Xu,XN,Wc,We,Wg,Wi,Wn,Wo,Wz,W0,W3,W5,W7,W9,WA,WB,WC,WF,WG,WI,WJ,WK,WM,WO,WP,WQ,WR,WW,WX,Vc,Vs,V6,V7,V9,VA,VB,VC,VD,VG,VH,VI,VJ,VL,VM,VN,VO,VP,VR,VS,VU,VV,VW,VX,VY,VZ,Ub,Uc,Ud,Ue,Ug,Uj,Us,Uw,Uy,U2,U3,U4,U5,U6,U7,UC,UD,UE,UF,UG,UH,UK,UL,UX,UY,UZ,Td,Ti,Tn,Tp,Tq,Ts,Tt,Tu,Tv,Tz,T0,T1,T2,T6,Sg,z]; all_goals tactic => exact rfl))
      · show _ = some (_,([some (.blk true (.cells true (fdC ss))),some (.blk true (.cells true ((aL 61 (yB 0)).map I)))] : XH))
        rw [y0_lit]
        (sym => (simp [Za,Zb,Zd,Ze,Zf,Zh,Zl,Zm,Zn,Zt,Zx,Zy,Z1,Z5,ZB,ZD,ZX,ZZ,Yq,Y3,YD,YO,YQ,YV,YY,Xe,Xf,Xg,Xo,Xs,Xu,XN,Wc,We,Wg,Wi,Wn,Wo,Wz,W0,W3,W5,W7,W9,WA,WB,WC,WF,WG,WI,WJ,WK,WM,WO,WP,WQ,WR,WW,WX,Vc,Vs,V6,V7,V9,VA,VB,VC,VD,VG,VH,VI,VJ,VL,VM,VN,VO,VP,VR,VS,VU,VV,VW,VX,VY,VZ,Ub,Uc,Ud,Ue,Ug,Uj,Us,Uw,Uy,U2,U3,U4,U5,U6,U7,UC,UD,UE,UF,UG,UH,UK,UL,UX,UY,UZ,Td,Ti,Tn,Tp,Tq,Ts,Tt,Tu,Tv,Tz,T0,T1,T2,T6,Sg]; all_goals tactic => exact rfl))
      · exact rd1
      · (sym => (simp [Za,Zb,Zd,Ze,Zf,Zh,Zl,Zm,Zn,Zt,Zx,Zy,Z1,Z5,ZB,ZD,ZX,ZZ,Yq,Y3,YD,YO,YQ,YV,YY,Xe,Xf,Xg,Xo,Xs,Xu,XN,Wc,We,Wg,Wi,Wn,Wo,Wz,W0,W3,W5,W7,W9,WA,WB,WC,WF,WG,WI,WJ,WK,WM,WO,WP,WQ,WR,WW,WX,Vc,Vs,V6,V7,V9,VA,VB,VC,VD,VG,VH,VI,VJ,VL,VM,VN,VO,VP,VR,VS,VU,VV,VW,VX,VY,VZ,Ub,Uc,Ud,Ue,Ug,Uj,Us,Uw,Uy,U2,U3,U4,U5,U6,U7,UC,UD,UE,UF,UG,UH,UK,UL,UX,UY,UZ,Td,Ti,Tn,Tp,Tq,Ts,Tt,Tu,Tv,Tz,T0,T1,T2,T6,Sg]; all_goals tactic => exact rfl))
theorem w65 {s : Nat → Int} {ss : List Sm} (bd : ∀ w : Nat,w < 6 → 0 ≤ s w ∧ s w ≤ 30000) (d : ∀ w : Nat,w + 2 < 6 → s w + s (w + 2) ≤ 2 * s (w + 1)) (hs : ∀ x ∈ ss,x.Ok s) (hl : ss.length ≤ 6) : runW progX 65 [.agg (fdC ss)] [] = some (.tup [.pt 0 0,I 0],[some (.blk true (.cells true (yC9 ss)))]) := by
  obtain ⟨y,t⟩ := yr_ok bd d hs
  have e1 := w94 hs hl
  have e2 := w95 bd hs hl
  have e3 := w96 t y
  generalize yC9 ss = yc at *
  rw [r65 (by simp)]; unfold x65; dsimp only
  (sym => (simp [Za,Zb,Zf,Zg,Zh,Zj,Zl,Zm,Zn,Zt,Zx,Z1,ZA,ZD,ZL,ZM,ZQ,ZR,Yg,Yp,YQ,YT,YU,YV,YY,Xe,Xf,Xg,Xo,Xp,Xq,Xr,Xs,Xu,X0,XK,XN,Wc,We,Wf,Wg,Wi,Wo,Wz,W0,W3,W4,W5,W6,W7,W8,W9,WA,WB,WE,WF,WG,WH,WI,WJ,WK,WL,WM,WN,WO,WP,WQ,WR,WS,WT,WU,WW,WX,Vc,Vf,Vg,Vh,Vi,Vs,Vu,Vv,Vw,Vx,Vy,V0,V6,V7,V9,VA,VB,VC,VF,VG,VH,VI,VJ,VL,VP,VR,VU,VV,VW,VX,VY,VZ,Ub,Uc,Ud,Ug,Uj,Um,Uw,Ux,U1,U2,U3,U4,U5,U6,U7,U8,U9,UC,UD,UK,UL,UY,UZ,Tc,Ti,Tn,Tp,Tq,Tr,Tu,T1,T2,T6,Sg,Sy,Sz,S6,S7,e1,e2,e3]; all_goals tactic => exact rfl))
end Go.Proofs.YtpbeclkpohehgaaDoor
namespace Go.Proofs.YtpbeclkpohehgaaDoor
open Go Go.DL
set_option maxRecDepth 100000
set_option maxHeartbeats 4000000
theorem cS_app (l : List Sp) (x : Sp) : cS (l ++ [x]) = cS l ++ x.row := by simp [cS]
abbrev h27 (ss : List Sm) (yc : List AV) (o u : Int) : XH := [some (.blk true (.cells true (fdC ss))),bY yc,some (.blk true (.cells true [I o,I u]))]
section
variable {s : Nat → Int} {ss : List Sm} (bd : ∀ w : Nat,w < 6 → 0 ≤ s w ∧ s w ≤ 30000) (d : ∀ w : Nat,w + 2 < 6 → s w + s (w + 2) ≤ 2 * s (w + 1)) (hs : ∀ x ∈ ss,x.Ok s) (hl : ss.length ≤ 6)
include bd d hs hl
theorem round27 {w : Nat} (hw : w < 6) {p : Nat × Int × Int} (hp : p.1 < 6 ∧ RegP s p.1 6 p.2.1 p.2.2) : ∃ p' : Nat × Int × Int,(p'.1 < 6 ∧ RegP s p'.1 6 p'.2.1 p'.2.2) ∧
    headX 0 [1,2,5,6,7] (execW progX 27 0 none (match x27l0 with | .loop _ a => a | c => c) (envL [1,2,5,6,7] [.pt 0 0,I (p.1 : Nat),.pt 1 0,.pt 2 0,I (w : Nat)]) (h27 ss (yC9 ss) p.2.1 p.2.2)) = some ([.pt 0 0,I (p'.1 : Nat),.pt 1 0,.pt 2 0,I (w + 1 : Nat)],h27 ss (yC9 ss) p'.2.1 p'.2.2) := by
  obtain ⟨y,t⟩ := yr_ok bd d hs
  obtain ⟨a,b,hq,e1⟩ := w66 t y hw
  obtain ⟨wk,o,u⟩ := p
  obtain ⟨hw0,hr⟩ := hp
  dsimp only at hw0 hr ⊢
  have e2 := w67 (a := a) (b := b) (c := o) (d := u) (mul_ok (A := 1000000000) (B := 625) ⟨hq.o1,hq.o2⟩ ⟨by have := hr.u1; omega,hr.u2⟩ (by decide)) (mul_ok (A := 1000000000) (B := 625) ⟨hr.o1,hr.o2⟩ ⟨by have := hq.u1; omega,hq.u2⟩ (by decide))
  unfold cmpF at e2
  have a1 := eq_true (show ((w : Int) < 6) by omega)
  have a2 := up_ix hw (by omega)
  clear y t
  generalize yC9 ss = yc at *
  by_cases g : a * u < o * b
  · rw [if_pos g] at e2
    refine ⟨(w,a,b),⟨hw,hq⟩,?_⟩
    unfold x27l0
    dsimp only
    (sym => (simp [cS_gr,cS_nm,cS_sl,cS_len,Za,Zb,Zc,Zf,Zg,Zh,Zi,Zj,Zl,Zm,Zt,Zu,Z1,Z5,ZD,ZE,ZG,ZH,ZI,ZJ,ZK,ZL,ZM,ZQ,ZR,ZX,Yh,Yq,YQ,YT,YY,Xe,Xo,Xq,Xu,XN,Wi,Wo,Wx,Wz,W0,W3,W4,W5,W6,W7,W8,WA,WB,WC,WE,WF,WG,WI,WJ,WK,WL,WM,WN,WO,WP,WQ,WR,WS,WT,WU,WW,WX,Vc,Vf,Vg,Vh,Vi,Vj,Vs,Vu,Vv,Vw,Vx,Vy,V0,VM,VN,VO,VP,VQ,VR,VV,VW,VX,VY,VZ,Ub,Uc,Ud,Ug,Uj,Un,Uo,Us,Uw,Ux,Uy,Uz,U0,U1,U2,U3,U4,U5,U6,U7,UE,UY,UZ,Tc,Td,Te,Tf,Tn,Tp,Tr,Tt,Tu,Tx,T0,T1,T2,T6,Sf,Sg,Sy,Sz,S6,S7,a1,a2,e1,e2]; all_goals tactic => exact rfl))
  · rw [if_neg g] at e2
    refine ⟨(wk,o,u),⟨hw0,hr⟩,?_⟩
    unfold x27l0
    dsimp only
    by_cases g' : o * b < a * u
    · rw [if_pos g'] at e2
      (sym => (simp [cS_gr,cS_nm,cS_sl,cS_len,Za,Zb,Zc,Zf,Zg,Zh,Zi,Zj,Zl,Zm,Zt,Zu,Z1,Z5,ZD,ZE,ZG,ZH,ZI,ZJ,ZK,ZL,ZM,ZQ,ZR,ZX,Yh,Yq,YQ,YT,YY,Xe,Xo,Xq,Xu,XN,Wi,Wo,Wx,Wz,W0,W3,W4,W5,W6,W7,W8,WA,WB,WC,WE,WF,WG,WI,WJ,WK,WL,WM,WN,WO,WP,WQ,WR,WS,WT,WU,WW,WX,Vc,Vf,Vg,Vh,Vi,Vj,Vs,Vu,Vv,Vw,Vx,Vy,V0,VM,VN,VO,VP,VQ,VR,VV,VW,VX,VY,VZ,Ub,Uc,Ud,Ug,Uj,Un,Uo,Us,Uw,Ux,Uy,Uz,U0,U1,U2,U3,U4,U5,U6,U7,UE,UY,UZ,Tc,Td,Te,Tf,Tn,Tp,Tr,Tt,Tu,Tx,T0,T1,T2,T6,Sf,Sg,Sy,Sz,S6,S7,a1,a2,e1,e2]; all_goals tactic => exact rfl))
    · rw [if_neg g'] at e2
      (sym => (simp [cS_gr,cS_nm,cS_sl,cS_len,Za,Zb,Zc,Zf,Zg,Zh,Zi,Zj,Zl,Zm,Zt,Zu,Z1,Z5,ZD,ZE,ZG,ZH,ZI,ZJ,ZK,ZL,ZM,ZQ,ZR,ZX,Yh,Yq,YQ,YT,YY,Xe,Xo,Xq,Xu,XN,Wi,Wo,Wx,Wz,W0,W3,W4,W5,W6,W7,W8,WA,WB,WC,WE,WF,WG,WI,WJ,WK,WL,WM,WN,WO,WP,WQ,WR,WS,WT,WU,WW,WX,Vc,Vf,Vg,Vh,Vi,Vj,Vs,Vu,Vv,Vw,Vx,Vy,V0,VM,VN,VO,VP,VQ,VR,VV,VW,VX,VY,VZ,Ub,Uc,Ud,Ug,Uj,Un,Uo,Us,Uw,Ux,Uy,Uz,U0,U1,U2,U3,U4,U5,U6,U7,UE,UY,UZ,Tc,Td,Te,Tf,Tn,Tp,Tr,Tt,Tu,Tx,T0,T1,T2,T6,Sf,Sg,Sy,Sz,S6,S7,a1,a2,e1,e2]; all_goals tactic => exact rfl))
theorem w27 : ∃ (wk : Nat) (r : Int),wk < 6 ∧ (∀ k : Nat,k < 6 → s k - s wk ≤ r) ∧ (-2000000000 ≤ r ∧ r ≤ 2000000000) ∧ runW progX 27 [.agg (fdC ss)] [] = some (.tup [I (wk : Nat),I r,I 0],[]) := by
  obtain ⟨y,t⟩ := yr_ok bd d hs
  obtain ⟨a,b,hq,e1⟩ := w66 t y (w := 0) (by omega)
  have e1 : runW progX 66 [.pt 0 0,I 0] [bY (yC9 ss)] = some (.agg [I a,I b],[bY (yC9 ss)]) := e1
  have e65 := w65 bd d hs hl
  obtain ⟨F,F0,FI,FS⟩ := seq_of (σ := Nat × Int × Int) 5 (fun _ p => p.1 < 6 ∧ RegP s p.1 6 p.2.1 p.2.2) (fun w p p' => headX 0 [1,2,5,6,7] (execW progX 27 0 none (match x27l0 with | .loop _ a => a | c => c) (envL [1,2,5,6,7] [.pt 0 0,I (p.1 : Nat),.pt 1 0,.pt 2 0,I (1 + w : Nat)]) (h27 ss (yC9 ss) p.2.1 p.2.2)) = some ([.pt 0 0,I (p'.1 : Nat),.pt 1 0,.pt 2 0,I (1 + w + 1 : Nat)],h27 ss (yC9 ss) p'.2.1 p'.2.2)) (0,a,b) ⟨by dsimp only; omega,hq⟩ (fun w p hw hp => round27 bd d hs hl (w := 1 + w) (by omega) hp)
  obtain ⟨q1,q2⟩ := FI 5 (Nat.le_refl _)
  have v1 := q2.u1
  have v2 := q2.o1
  have v3 := q2.o2
  have e68 := w68 (o := (F 5).2.1) (u := (F 5).2.2) (by omega) (by omega)
  have ce := ce_le (o := (F 5).2.1) (u := (F 5).2.2) (by omega)
  refine ⟨(F 5).1,-flF (-(F 5).2.1) (F 5).2.2,q1,fun k hk => rat_le (by omega) ce (q2.le k hk),?_,?_⟩
  · obtain ⟨_,_,_,h⟩ := dm_eq (o := -(F 5).2.1) (u := (F 5).2.2) (by omega)
    unfold flF
    split <;> omega
  · have e0 : F 0 = (0,a,b) := F0
    clear ce q1 q2 v1 v2 v3 y t
    generalize -flF (-(F 5).2.1) (F 5).2.2 = r at *
    generalize yC9 ss = yc at *
    rw [r27 (by simp)]; unfold x27; dsimp only
    sym =>
      simp [cS_gr,cS_nm,cS_sl,cS_len,Za,Zb,Zc,Zd,Ze,Zf,Zg,Zh,Zj,Zl,Zm,Zn,Zt,Zu,Zx,Z1,Z5,ZA,ZD,ZH,ZI,ZL,ZM,ZQ,ZR,ZX,Yg,Yp,Yq,Y3,Y5,YD,YQ,YT,YU,YV,YY,Xe,Xf,Xg,Xo,Xq,Xr,Xs,Xu,X0,XK,XN,Wc,We,Wf,Wg,Wi,Wo,Wz,W0,W3,W4,W5,W6,W7,W8,W9,WA,WB,WC,WE,WF,WG,WH,WI,WJ,WK,WL,WM,WN,WO,WP,WQ,WR,WS,WT,WU,WW,WX,Vc,Vf,Vg,Vh,Vi,Vs,Vu,Vv,Vw,Vx,Vy,V0,V6,V7,V9,VA,VB,VC,VF,VG,VH,VI,VJ,VL,VM,VN,VO,VP,VR,VS,VU,VV,VW,VX,VY,VZ,Ub,Uc,Ud,Ug,Uj,Um,Us,Uw,Ux,Uy,U1,U2,U3,U4,U5,U6,U7,U8,U9,UC,UD,UE,UK,UL,UY,UZ,Tc,Td,Te,Tf,Ti,Tn,Tp,Tq,Tr,Ts,Tt,Tu,Tv,Tz,T0,T1,T2,T6,Sg,Sy,Sz,S6,S7,e65,e1]
      tactic =>
        unfold x27l0
        rw [loop_rule 5 (fun w => [.pt 0 0,I ((F w).1 : Nat),.pt 1 0,.pt 2 0,I (1 + w : Nat)]) (fun w => h27 ss yc (F w).2.1 (F w).2.2)]
        · (sym => (simp [cS_gr,cS_nm,cS_sl,cS_len,Za,Zb,Zc,Zd,Ze,Zf,Zg,Zh,Zj,Zl,Zm,Zn,Zt,Zu,Zx,Z1,Z5,ZA,ZD,ZH,ZI,ZL,ZM,ZQ,ZR,ZX,Yg,Yp,Yq,Y3,Y5,YD,YQ,YT,YU,YV,YY,Xe,Xf,Xg,Xo,Xq,Xr,Xs,Xu,X0,XK,XN,Wc,We,Wf,Wg,Wi,Wo,Wz,W0,W3,W4,W5,W6,W7,W8,W9,WA,WB,WC,WE,WF,WG,WH,WI,WJ,WK,WL,WM,WN,WO,WP,WQ,WR,WS,WT,WU,WW,WX,Vc,Vf,Vg,Vh,Vi,Vs,Vu,Vv,Vw,Vx,Vy,V0,V6,V7,V9,VA,VB,VC,VF,VG,VH,VI,VJ,VL,VM,VN,VO,VP,VR,VS,VU,VV,VW,VX,VY,VZ,Ub,Uc,Ud,Ug,Uj,Um,Us,Uw,Ux,Uy,U1,U2,U3,U4,U5,U6,U7,U8,U9,UC,UD,UE,UK,UL,UY,UZ,Tc,Td,Te,Tf,Ti,Tn,Tp,Tq,Tr,Ts,Tt,Tu,Tv,Tz,T0,T1,T2,T6,Sg,Sy,Sz,S6,S7,e68]; all_goals tactic => exact rfl))
        · rw [e0]
          (sym => (simp [cS_gr,cS_nm,cS_sl,cS_len,Za,Zb,Zc,Zd,Ze,Zf,Zg,Zh,Zj,Zl,Zm,Zn,Zt,Zu,Zx,Z1,Z5,ZA,ZD,ZH,ZI,ZL,ZM,ZQ,ZR,ZX,Yg,Yp,Yq,Y3,Y5,YD,YQ,YT,YU,YV,YY,Xe,Xf,Xg,Xo,Xq,Xr,Xs,Xu,X0,XK,XN,Wc,We,Wf,Wg,Wi,Wo,Wz,W0,W3,W4,W5,W6,W7,W8,W9,WA,WB,WC,WE,WF,WG,WH,WI,WJ,WK,WL,WM,WN,WO,WP,WQ,WR,WS,WT,WU,WW,WX,Vc,Vf,Vg,Vh,Vi,Vs,Vu,Vv,Vw,Vx,Vy,V0,V6,V7,V9,VA,VB,VC,VF,VG,VH,VI,VJ,VL,VM,VN,VO,VP,VR,VS,VU,VV,VW,VX,VY,VZ,Ub,Uc,Ud,Ug,Uj,Um,Us,Uw,Ux,Uy,U1,U2,U3,U4,U5,U6,U7,U8,U9,UC,UD,UE,UK,UL,UY,UZ,Tc,Td,Te,Tf,Ti,Tn,Tp,Tq,Tr,Ts,Tt,Tu,Tv,Tz,T0,T1,T2,T6,Sg,Sy,Sz,S6,S7]; all_goals tactic => exact rfl))
        · exact FS
        · (sym => (simp [cS_gr,cS_nm,cS_sl,cS_len,Za,Zb,Zc,Zd,Ze,Zf,Zg,Zh,Zj,Zl,Zm,Zn,Zt,Zu,Zx,Z1,Z5,ZA,ZD,ZH,ZI,ZL,ZM,ZQ,ZR,ZX,Yg,Yp,Yq,Y3,Y5,YD,YQ,YT,YU,YV,YY,Xe,Xf,Xg,Xo,Xq,Xr,Xs,Xu,X0,XK,XN,Wc,We,Wf,Wg,Wi,Wo,Wz,W0,W3,W4,W5,W6,W7,W8,W9,WA,WB,WC,WE,WF,WG,WH,WI,WJ,WK,WL,WM,WN,WO,WP,WQ,WR,WS,WT,WU,WW,WX,Vc,Vf,Vg,Vh,Vi,Vs,Vu,Vv,Vw,Vx,Vy,V0,V6,V7,V9,VA,VB,VC,VF,VG,VH,VI,VJ,VL,VM,VN,VO,VP,VR,VS,VU,VV,VW,VX,VY,VZ,Ub,Uc,Ud,Ug,Uj,Um,Us,Uw,Ux,Uy,U1,U2,U3,U4,U5,U6,U7,U8,U9,UC,UD,UE,UK,UL,UY,UZ,Tc,Td,Te,Tf,Ti,Tn,Tp,Tq,Tr,Ts,Tt,Tu,Tv,Tz,T0,T1,T2,T6,Sg,Sy,Sz,S6,S7]; all_goals tactic => exact rfl))
def KnP (s : Nat → Int) (m : Nat) (L : List Sp) : Prop := L.length = m ∧ ∀ (i : Nat) (e : Sp),L[i]? = some e → e.lo ≤ s i ∧ s i ≤ e.hi
abbrev h28 (yc : List AV) (L : List Sp) : XH := if L = [] then [bY yc] else [bY yc,some (.blk true (.cells true (cS L)))]
abbrev v28 (L : List Sp) : AV := if L = [] then .nilsl else .sl 1 0 2 L.length
theorem round28 {w : Nat} (hw : w < 6) {L : List Sp} (hL : KnP s w L) : ∃ L' : List Sp,KnP s (w + 1) L' ∧
    headX 0 [4,6,17,18] (execW progX 28 0 none (match x28l0 with | .loop _ a => a | c => c) (envL [4,6,17,18] [.pt 0 0,v28 L,I 6,I (w : Nat)]) (h28 (yC9 ss) L)) = some ([.pt 0 0,v28 L',I 6,I (w + 1 : Nat)],h28 (yC9 ss) L') := by
  obtain ⟨y,t⟩ := yr_ok bd d hs
  obtain ⟨a,b,hp,e1⟩ := w69 t y hw
  obtain ⟨a',b',hq,e2⟩ := w71 t y hw
  have p1 := hp.u1
  have p2 := hp.o1
  have p3 := hp.o2
  have q1 := hq.u1
  have q2 := hq.o1
  have q3 := hq.o2
  have e3 := w70 (o := a) (u := b) (by omega) (by omega)
  have e4 := w68 (o := a') (u := b') (by omega) (by omega)
  have l1 : flF a b ≤ s w := rat_le (show 0 < b by omega) hp.le (fl_le (by omega)).1
  have l2 : s w ≤ -flF (-a') b' := rat_le (show 0 < b' by omega) (ce_le (by omega)) hq.le
  obtain ⟨hLl,hLe⟩ := hL
  refine ⟨L ++ [⟨flF a b,-flF (-a') b'⟩],⟨by rw [List.length_append,hLl]; rfl,fun i e he => ?_⟩,?_⟩
  · by_cases hi : i < L.length
    · rw [List.getElem?_append_left hi] at he
      exact hLe i e he
    · rw [List.getElem?_append_right (by omega)] at he
      have : i - L.length = 0 := by
        have := lt_of he
        have : i - L.length < 1 := this
        omega
      rw [this] at he
      obtain rfl : (⟨flF a b,-flF (-a') b'⟩ : Sp) = e := by simpa using he
      obtain rfl : i = w := by omega
      exact ⟨l1,l2⟩
  · have a1 := eq_true (show ((w : Int) < 6) by omega)
    have a2 := up_ix hw (by omega)
    have r1 : ((L.length + 1) * 16 ≤ 1099511627776) = True := eq_true (by omega)
    have r2 : (L.length + 1 ≤ 1099511627776) = True := eq_true (by omega)
    have la : (L ++ [(⟨flF a b,-flF (-a') b'⟩ : Sp)]).length = L.length + 1 := by simp
    have cl := cS_len L
    unfold h28 v28
    rw [if_neg (by simp : ¬ L ++ [(⟨flF a b,-flF (-a') b'⟩ : Sp)] = []),if_neg (by simp : ¬ L ++ [(⟨flF a b,-flF (-a') b'⟩ : Sp)] = []),la,cS_app]
    dsimp only [Sp.row]
    clear y t l1 l2 la
    generalize flF a b = f at *
    generalize -flF (-a') b' = f2 at *
    generalize yC9 ss = yc at *
    unfold x28l0
    dsimp only
    by_cases hL0 : L = []
    · subst hL0
      rw [if_pos rfl,if_pos rfl]
      have cz : cS [] = [] := rfl
      rw [cz]
      (sym => (simp [cS_gr,cS_nm,cS_sl,cS_len,Za,Zb,Zd,Ze,Zf,Zg,Zh,Zj,Zl,Zm,Zn,Zt,Zy,Zz,Z1,ZL,ZM,ZP,ZQ,ZR,Yh,Yq,YO,YQ,YT,YX,YY,Xe,Xf,Xo,Xq,Xt,Xu,XN,Wi,Wn,Wo,Wz,W0,W3,W4,W5,W6,W7,W8,WB,WC,WE,WF,WG,WI,WJ,WK,WL,WM,WN,WO,WP,WQ,WR,WS,WT,WU,WW,WX,Vc,Vf,Vg,Vh,Vi,Vs,Vu,Vv,Vw,VM,VN,VO,VP,VQ,VV,VW,VX,VY,VZ,Ub,Uc,Ud,Ug,Uj,Us,Uw,Ux,Uz,U0,U1,U2,U3,U4,U5,U6,U7,UE,UF,UG,UH,UM,UN,UO,UP,UR,US,UT,UU,UV,UW,Ti,Tj,Tk,Tl,Tm,Tn,Tp,Tr,Tt,Tu,Tx,T0,T1,T2,T6,TA,Sg,Sy,Sz,S7,a1,a2,e1,e2,e3,e4]; all_goals tactic => exact rfl))
    · rw [if_neg hL0,if_neg hL0]
      generalize cS L = cc at *
      generalize L.length = m at *
      (sym => (simp [cS_gr,cS_nm,cS_sl,cS_len,Za,Zb,Zd,Ze,Zf,Zg,Zh,Zj,Zl,Zm,Zn,Zt,Zy,Zz,Z1,ZL,ZM,ZP,ZQ,ZR,Yh,Yq,YO,YQ,YT,YX,YY,Xe,Xf,Xo,Xq,Xt,Xu,XN,Wi,Wn,Wo,Wz,W0,W3,W4,W5,W6,W7,W8,WB,WC,WE,WF,WG,WI,WJ,WK,WL,WM,WN,WO,WP,WQ,WR,WS,WT,WU,WW,WX,Vc,Vf,Vg,Vh,Vi,Vs,Vu,Vv,Vw,VM,VN,VO,VP,VQ,VV,VW,VX,VY,VZ,Ub,Uc,Ud,Ug,Uj,Us,Uw,Ux,Uz,U0,U1,U2,U3,U4,U5,U6,U7,UE,UF,UG,UH,UM,UN,UO,UP,UR,US,UT,UU,UV,UW,Ti,Tj,Tk,Tl,Tm,Tn,Tp,Tr,Tt,Tu,Tx,T0,T1,T2,T6,TA,Sg,Sy,Sz,S7,a1,a2,e1,e2,e3,e4,r1,r2,cl]; all_goals tactic => exact rfl))
theorem w28 : ∃ L : List Sp,KnP s 6 L ∧ runW progX 28 [.agg (fdC ss)] [] = some (.tup [sR L,I 0],[]) := by
  have e65 := w65 bd d hs hl
  obtain ⟨F,F0,FI,FS⟩ := seq_of (σ := List Sp) 6 (fun w L => KnP s w L) (fun w L L' => headX 0 [4,6,17,18] (execW progX 28 0 none (match x28l0 with | .loop _ a => a | c => c) (envL [4,6,17,18] [.pt 0 0,v28 L,I 6,I (w : Nat)]) (h28 (yC9 ss) L)) = some ([.pt 0 0,v28 L',I 6,I (w + 1 : Nat)],h28 (yC9 ss) L')) [] ⟨rfl,fun i e h => by simp at h⟩ (fun w L hw hL => round28 bd d hs hl hw hL)
  obtain ⟨h1,h2⟩ := FI 6 (Nat.le_refl _)
  refine ⟨F 6,⟨h1,h2⟩,?_⟩
  have e0 : F 0 = [] := F0
  have ch := cS_ch (F 6)
  have cl := cS_len (F 6)
  have hne : ¬ F 6 = [] := fun h => by rw [h] at h1; simp at h1
  have p2 : ((F 6).length * 2 ≤ (F 6).length * 2) = True := eq_true (Nat.le_refl _)
  generalize yC9 ss = yc at *
  rw [r28 (by simp)]; unfold x28; dsimp only
  sym =>
    simp [cS_gr,cS_nm,cS_sl,cS_len,Za,Zb,Zf,Zg,Zh,Zj,Zl,Zm,Zn,Zt,Zx,Z1,Z5,ZA,ZD,ZL,ZM,ZQ,ZR,ZX,Yg,Yp,Yq,Y3,YD,YQ,YT,YU,YV,YY,Xa,Xe,Xf,Xg,Xo,Xq,Xr,Xs,Xu,Xw,X0,XK,XM,XU,XW,XY,Wc,We,Wf,Wg,Wo,Wz,W0,W3,W4,W5,W6,W7,W9,WA,WB,WF,WG,WH,WI,WJ,WK,WL,WM,WO,WP,WQ,WR,WS,WT,WW,WX,Vc,Vf,Vg,Vh,Vp,Vq,Vr,Vs,Vt,Vu,Vv,Vx,Vy,V0,V2,V4,V6,V7,V9,VA,VB,VC,VF,VG,VH,VI,VJ,VL,VM,VN,VO,VP,VR,VS,VU,VV,VW,VX,VY,VZ,Ub,Uc,Ud,Ug,Uj,Um,Us,Uw,Ux,Uy,U2,U3,U4,U5,U6,U7,U8,U9,UA,UB,UC,UD,UK,UL,UY,UZ,Tc,Td,Ti,Tn,Tp,Tq,Tr,Ts,Tt,Tu,Tv,Tz,T0,T1,T2,T5,T6,T7,Sg,Sj,Sl,Sy,Sz,S6,e65]
    tactic =>
      unfold x28l0
      rw [loop_rule 6 (fun w => [.pt 0 0,v28 (F w),I 6,I (w : Nat)]) (fun w => h28 yc (F w))]
      · unfold v28 h28
        rw [if_neg hne,if_neg hne]
        (sym => (simp [cS_gr,cS_nm,cS_sl,cS_len,Za,Zb,Zf,Zg,Zh,Zj,Zl,Zm,Zn,Zt,Zx,Z1,Z5,ZA,ZD,ZL,ZM,ZQ,ZR,ZX,Yg,Yp,Yq,Y3,YD,YQ,YT,YU,YV,YY,Xa,Xe,Xf,Xg,Xo,Xq,Xr,Xs,Xu,Xw,X0,XK,XM,XU,XW,XY,Wc,We,Wf,Wg,Wo,Wz,W0,W3,W4,W5,W6,W7,W9,WA,WB,WF,WG,WH,WI,WJ,WK,WL,WM,WO,WP,WQ,WR,WS,WT,WW,WX,Vc,Vf,Vg,Vh,Vp,Vq,Vr,Vs,Vt,Vu,Vv,Vx,Vy,V0,V2,V4,V6,V7,V9,VA,VB,VC,VF,VG,VH,VI,VJ,VL,VM,VN,VO,VP,VR,VS,VU,VV,VW,VX,VY,VZ,Ub,Uc,Ud,Ug,Uj,Um,Us,Uw,Ux,Uy,U2,U3,U4,U5,U6,U7,U8,U9,UA,UB,UC,UD,UK,UL,UY,UZ,Tc,Td,Ti,Tn,Tp,Tq,Tr,Ts,Tt,Tu,Tv,Tz,T0,T1,T2,T5,T6,T7,Sg,Sj,Sl,Sy,Sz,S6,ch,cl,p2]; all_goals tactic => exact rfl))
      · rw [e0]
        unfold v28 h28
        rw [if_pos rfl,if_pos rfl]
        (sym => (simp [cS_gr,cS_nm,cS_sl,cS_len,Za,Zb,Zf,Zg,Zh,Zj,Zl,Zm,Zn,Zt,Zx,Z1,Z5,ZA,ZD,ZL,ZM,ZQ,ZR,ZX,Yg,Yp,Yq,Y3,YD,YQ,YT,YU,YV,YY,Xa,Xe,Xf,Xg,Xo,Xq,Xr,Xs,Xu,Xw,X0,XK,XM,XU,XW,XY,Wc,We,Wf,Wg,Wo,Wz,W0,W3,W4,W5,W6,W7,W9,WA,WB,WF,WG,WH,WI,WJ,WK,WL,WM,WO,WP,WQ,WR,WS,WT,WW,WX,Vc,Vf,Vg,Vh,Vp,Vq,Vr,Vs,Vt,Vu,Vv,Vx,Vy,V0,V2,V4,V6,V7,V9,VA,VB,VC,VF,VG,VH,VI,VJ,VL,VM,VN,VO,VP,VR,VS,VU,VV,VW,VX,VY,VZ,Ub,Uc,Ud,Ug,Uj,Um,Us,Uw,Ux,Uy,U2,U3,U4,U5,U6,U7,U8,U9,UA,UB,UC,UD,UK,UL,UY,UZ,Tc,Td,Ti,Tn,Tp,Tq,Tr,Ts,Tt,Tu,Tv,Tz,T0,T1,T2,T5,T6,T7,Sg,Sj,Sl,Sy,Sz,S6]; all_goals tactic => exact rfl))
      · exact FS
      · unfold v28 h28
        rw [if_neg hne,if_neg hne]
        (sym => (simp [cS_gr,cS_nm,cS_sl,cS_len,Za,Zb,Zf,Zg,Zh,Zj,Zl,Zm,Zn,Zt,Zx,Z1,Z5,ZA,ZD,ZL,ZM,ZQ,ZR,ZX,Yg,Yp,Yq,Y3,YD,YQ,YT,YU,YV,YY,Xa,Xe,Xf,Xg,Xo,Xq,Xr,Xs,Xu,Xw,X0,XK,XM,XU,XW,XY,Wc,We,Wf,Wg,Wo,Wz,W0,W3,W4,W5,W6,W7,W9,WA,WB,WF,WG,WH,WI,WJ,WK,WL,WM,WO,WP,WQ,WR,WS,WT,WW,WX,Vc,Vf,Vg,Vh,Vp,Vq,Vr,Vs,Vt,Vu,Vv,Vx,Vy,V0,V2,V4,V6,V7,V9,VA,VB,VC,VF,VG,VH,VI,VJ,VL,VM,VN,VO,VP,VR,VS,VU,VV,VW,VX,VY,VZ,Ub,Uc,Ud,Ug,Uj,Um,Us,Uw,Ux,Uy,U2,U3,U4,U5,U6,U7,U8,U9,UA,UB,UC,UD,UK,UL,UY,UZ,Tc,Td,Ti,Tn,Tp,Tq,Tr,Ts,Tt,Tu,Tv,Tz,T0,T1,T2,T5,T6,T7,Sg,Sj,Sl,Sy,Sz,S6]; all_goals tactic => exact rfl))
end
end Go.Proofs.YtpbeclkpohehgaaDoor
namespace Go.Proofs.YtpbeclkpohehgaaDoor
open Go Go.DL
set_option maxRecDepth 100000
set_option maxHeartbeats 4000000
structure P4 where
  a : Nat
  b : Nat
  c : Nat
  d : Nat
abbrev P4.row (x : P4) : List AV := [B8 x.a,B8 x.b,B8 x.c,B8 x.d]
structure P4.Ok (x : P4) : Prop where
  a : x.a < 256
  b : x.b < 256
  c : x.c < 256
  d : x.d < 256
def sgF (x : P4) (w : Nat) : Int := 2 * (x.b : Int) - (w : Int) * (x.c : Int)
def swF (x : P4) : Nat → Int
  | 0 => 6000 + 20 * (x.a : Int)
  | w + 1 => swF x w + sgF x w
def smL (x : P4) : Nat → List Sm
  | 0 => []
  | w + 1 => if x.d.testBit w = true then smL x w ++ [⟨w,mxI 0 (swF x w - ((x.c / (w + 1) / 2 : Nat) : Int)),((x.c / (w + 1) : Nat) : Int)⟩] else smL x w
theorem sg_bd {x : P4} (hx : x.Ok) {w : Nat} (hw : w < 6) : -2000 ≤ sgF x w ∧ sgF x w ≤ 510 ∧ sgF x (w + 1) = sgF x w - (x.c : Int) := by
  have := hx.b
  have := hx.c
  unfold sgF
  have e : ((w + 1 : Nat) : Int) * (x.c : Int) = (w : Int) * (x.c : Int) + (x.c : Int) := by
    rw [show ((w + 1 : Nat) : Int) = (w : Int) + 1 by omega,Int.add_mul,Int.one_mul]
  have m := mul_bd (a := (w : Int)) (b := (x.c : Int)) (A := 5) (B := 255) (by omega) (by omega)
  rw [e]
  have m0 : 0 ≤ (w : Int) * (x.c : Int) := Int.mul_nonneg (by omega) (by omega)
  omega
theorem sw_bd {x : P4} (hx : x.Ok) : ∀ w : Nat,w < 6 → 3000 ≤ swF x w ∧ swF x w ≤ 30000 := by
  have := hx.a
  have := hx.b
  have := hx.c
  have s0 : sgF x 0 = 2 * (x.b : Int) - 0 * (x.c : Int) := rfl
  have s1 : sgF x 1 = 2 * (x.b : Int) - 1 * (x.c : Int) := rfl
  have s2 : sgF x 2 = 2 * (x.b : Int) - 2 * (x.c : Int) := rfl
  have s3 : sgF x 3 = 2 * (x.b : Int) - 3 * (x.c : Int) := rfl
  have s4 : sgF x 4 = 2 * (x.b : Int) - 4 * (x.c : Int) := rfl
  have w0 : swF x 0 = 6000 + 20 * (x.a : Int) := rfl
  have w1 : swF x 1 = swF x 0 + sgF x 0 := rfl
  have w2 : swF x 2 = swF x 1 + sgF x 1 := rfl
  have wh3 : swF x 3 = swF x 2 + sgF x 2 := rfl
  have w4 : swF x 4 = swF x 3 + sgF x 3 := rfl
  have wh5 : swF x 5 = swF x 4 + sgF x 4 := rfl
  intro w hw
  have hw6 : w = 0 ∨ w = 1 ∨ w = 2 ∨ w = 3 ∨ w = 4 ∨ w = 5 := by omega
  rcases hw6 with rfl | rfl | rfl | rfl | rfl | rfl <;> omega
theorem sw_d {x : P4} (hx : x.Ok) (w : Nat) (hw : w + 2 < 6) : swF x w + swF x (w + 2) ≤ 2 * swF x (w + 1) := by
  have := (sg_bd hx (w := w) (by omega)).2.2
  have e1 : swF x (w + 2) = swF x (w + 1) + sgF x (w + 1) := rfl
  have e2 : swF x (w + 1) = swF x w + sgF x w := rfl
  omega
theorem sm_ok {x : P4} (hx : x.Ok) : ∀ w,w ≤ 6 → (smL x w).length ≤ w ∧ ∀ y ∈ smL x w,y.Ok (swF x)
  | 0,_ => ⟨Nat.le_refl _,fun y hy => by simp [smL] at hy⟩
  | w + 1,hw => by
    obtain ⟨h1,h2⟩ := sm_ok hx w (by omega)
    rw [smL]
    split
    · refine ⟨by rw [List.length_append]; show _ + 1 ≤ _; omega,fun y hy => ?_⟩
      rcases List.mem_append.1 hy with hy | hy
      · exact h2 y hy
      · rw [List.mem_singleton] at hy
        subst hy
        have b := sw_bd hx w (by omega)
        have hc := hx.c
        have d1 : x.c / (w + 1) ≤ x.c := Nat.div_le_self _ _
        have d2 : x.c / (w + 1) / 2 * 2 ≤ x.c / (w + 1) := Nat.div_mul_le_self _ _
        generalize x.c / (w + 1) / 2 = h at *
        generalize x.c / (w + 1) = o at *
        have e : mxI 0 (swF x w - (h : Int)) = swF x w - (h : Int) := by unfold mxI; rw [if_pos (by omega)]
        rw [e]
        exact ⟨by dsimp only; omega,by dsimp only; omega,by dsimp only; omega,by dsimp only; omega,by dsimp only; omega⟩
    · exact ⟨by omega,h2⟩
theorem aL_up (n : Nat) (F : Nat → Int) : aL (n + 1) F = aL n F ++ [F n] := by
  unfold aL
  rw [List.range_succ,List.map_append]; rfl
abbrev bR26 : Option XB := some (.blk true (.cells true [I 0,I 0,I 0,.nilsl]))
abbrev h26 (x : P4) (n : Nat) : XH := [some (.blk true (.cells true x.row)),bR26,some (.blk true (.cells true [I 6,I 0,I 30000,.nilsl])),some (.blk true (.cells true ((aL n (swF x)).map I)))]
theorem round26a {x : P4} (hx : x.Ok) {j : Nat} (hj : j < 5) : headX 0 [1,2,4,5,6,7] (execW progX 26 0 none (match x26l0 with | .loop _ a => a | c => c) (envL [1,2,4,5,6,7] [.pt 0 0,.pt 1 0,.pt 2 0,.sl 3 0 1 (1 + j),I (sgF x j),I (1 + j : Nat)]) (h26 x (1 + j))) = some ([.pt 0 0,.pt 1 0,.pt 2 0,.sl 3 0 1 (1 + j + 1),I (sgF x (j + 1)),I (1 + j + 1 : Nat)],h26 x (1 + j + 1)) := by
  obtain ⟨g1,g2,g3⟩ := sg_bd hx (w := j) (by omega)
  have b1 := sw_bd hx j (by omega)
  have b2 := sw_bd hx (j + 1) (by omega)
  have e2 : swF x (j + 1) = swF x j + sgF x j := rfl
  have q1 : IntKind.i64.wrap (swF x j + sgF x j) = swF x (1 + j) := by rw [Nat.add_comm,e2]; exact wrap_ok (by omega) (by omega)
  have hc := wr8 hx.c
  have q2 : IntKind.i64.wrap (sgF x j - (x.c : Int)) = sgF x (j + 1) := by rw [g3]; exact wrap_ok (by have := hx.c; omega) (by omega)
  have a1 := eq_true (show (((1 + j : Nat) : Int) < 6) by omega)
  have a2 : IntKind.i64.wrap (((1 + j : Nat) : Int) + 1) = ((1 + j + 1 : Nat) : Int) := wrap_ok (by omega) (by omega)
  have a3 : IntKind.i64.wrap (((1 + j : Nat) : Int) - 1) = (j : Int) := by rw [wrap_ok (by omega) (by omega)]; omega
  have k1 : (0 ≤ (j : Int)) = True := eq_true (by omega)
  have k2 : ((j : Int) < ((1 + j : Nat) : Int)) = True := eq_true (by omega)
  have gt := aL_get (N := 1 + j) (k := j) (F := swF x) (by omega)
  have up := aL_up (1 + j) (swF x)
  have ll := aL_len (1 + j) (swF x)
  have r1 : ((1 + j + 1) * 8 ≤ 1099511627776) = True := eq_true (by omega)
  have r2 : (1 + j + 1 ≤ 1099511627776) = True := eq_true (by omega)
  unfold h26
  rw [up,List.map_append]
  clear b1 b2 e2 g1 g2 g3 up
  generalize sgF x (j + 1) = v1 at *
  generalize swF x (1 + j) = v2 at *
  generalize sgF x j = v3 at *
  generalize swF x j = v4 at *
  generalize aL (1 + j) (swF x) = cc at *
  generalize hm : 1 + j = m at *
  unfold x26l0
  dsimp only
  (sym => (simp [irem2,iquo2,remF,Za,Zb,Zd,Ze,Zf,Zh,Zl,Zm,Zn,Zt,Zz,Z1,Z4,Z6,Z7,ZD,ZP,ZW,Yc,Yh,Yi,Yq,Yu,Yv,Y6,YB,YF,YQ,YX,YY,Xe,Xo,Xt,Xu,Wn,Wz,W0,W3,W4,W5,W6,W7,W8,WA,WB,WC,WF,WG,WI,WJ,WK,WM,WO,WP,WQ,WR,WW,WX,Vc,VM,VN,VO,VP,VQ,VV,VW,VX,VY,VZ,Ub,Uc,Ud,Ue,Uf,Ug,Uj,Us,Uw,Ux,Uz,U0,U2,U3,U4,U5,U6,U7,UE,UF,UG,UH,UM,UN,UO,UP,UR,US,UT,UV,UW,UY,UZ,Td,Ti,Tj,Tk,Tl,Tn,Tp,Tr,Tt,Tu,Tx,T0,T1,T2,T4,T5,T6,TA,q1,q2,hc,a1,a2,a3,k1,k2,gt,ll,r1,r2]; all_goals tactic => exact rfl))
def cM (l : List Sm) : List AV := (l.map Sm.row).flatten
theorem cm_ok (k : List Sm) : RowsOk 3 (k.map Sm.row) := by
  intro r hr
  simp only [List.mem_map] at hr
  obtain ⟨x,_,rfl⟩ := hr
  exact ⟨rfl,rfl,rfl,rfl⟩
theorem cM_len (l : List Sm) : (cM l).length = l.length * 3 := by rw [cM,(rows_cells (cm_ok _)).2.2.2,List.length_map]
theorem cM_app (l : List Sm) (x : Sm) : cM (l ++ [x]) = cM l ++ x.row := by simp [cM]
theorem cM_ch (l : List Sm) : chunks (cM l) 0 3 l.length = l.map Sm.row := by
  have := rows_chunks (cm_ok l)
  rw [List.length_map] at this
  exact this
def g26 (x : P4) (sw : List AV) (L : List Sm) : XH := if L = [] then [some (.blk true (.cells true x.row)),bR26,some (.blk true (.cells true [I 6,I 0,I 30000,.nilsl])),some (.blk true (.cells true sw))] else [some (.blk true (.cells true x.row)),bR26,some (.blk false (.cells true [I 6,I 0,I 30000,.sl 3 0 3 L.length])),some (.blk true (.cells true (cM L))),some (.blk true (.cells true sw))]
def v26 (L : List Sm) : AV := if L = [] then .sl 3 0 1 6 else .sl 4 0 1 6
theorem round26b {x : P4} (hx : x.Ok) {w : Nat} (hw : w < 6) : headX 0 [1,2,4,5,8] (execW progX 26 0 none (match x26l1 with | .loop _ a => a | c => c) (envL [1,2,4,5,8] [.pt 0 0,.pt 1 0,.pt 2 0,v26 (smL x w),I (w : Nat)]) (g26 x ((aL 6 (swF x)).map I) (smL x w))) = some ([.pt 0 0,.pt 1 0,.pt 2 0,v26 (smL x (w + 1)),I (w + 1 : Nat)],g26 x ((aL 6 (swF x)).map I) (smL x (w + 1))) := by
  have a1 := eq_true (show ((w : Int) < 6) by omega)
  have a2 := up_ix hw (by omega)
  have lL := (sm_ok hx w (by omega)).1
  have nw := eq_false (show ¬ ((w : Int) < 0) by omega)
  rcases bit_8 hx.d (show w < 8 by omega) with ⟨hb,c1⟩ | ⟨hb,c1⟩
  · have e : smL x (w + 1) = smL x w ++ [⟨w,mxI 0 (swF x w - ((x.c / (w + 1) / 2 : Nat) : Int)),((x.c / (w + 1) : Nat) : Int)⟩] := by rw [smL,if_pos hb]
    have gt := aL_get (N := 6) (k := w) (F := swF x) hw
    have ll := aL_len 6 (swF x)
    have k1 : (0 ≤ (w : Int)) = True := eq_true (by omega)
    have hc := wr8 hx.c
    have b := sw_bd hx w hw
    have d1 : x.c / (w + 1) ≤ x.c := Nat.div_le_self _ _
    have q1 : tdZ (x.c : Int) ((w : Int) + 1) = ((x.c / (w + 1) : Nat) : Int) := tdiv_n x.c (w + 1)
    have q2 := wr8 (n := x.c / (w + 1)) (Nat.lt_of_le_of_lt d1 hx.c)
    have q3 : ((w : Int) + 1 = 0) = False := eq_false (by omega)
    have hcb := hx.c
    rw [e]
    unfold g26 v26
    rw [if_neg (by simp : ¬ smL x w ++ [_] = []),if_neg (by simp : ¬ smL x w ++ [_] = []),cM_app]
    have la : (smL x w ++ [(⟨w,mxI 0 (swF x w - ((x.c / (w + 1) / 2 : Nat) : Int)),((x.c / (w + 1) : Nat) : Int)⟩ : Sm)]).length = (smL x w).length + 1 := by simp
    rw [la]
    dsimp only [Sm.row]
    have q4 : tdZ ((x.c / (w + 1) : Nat) : Int) 2 = ((x.c / (w + 1) / 2 : Nat) : Int) := tdiv_n (x.c / (w + 1)) 2
    have d2 : x.c / (w + 1) / 2 ≤ x.c / (w + 1) := Nat.div_le_self _ _
    clear e la
    generalize x.c / (w + 1) / 2 = h2 at *
    generalize x.c / (w + 1) = h1 at *
    have q5 : IntKind.i64.wrap (h2 : Int) = (h2 : Int) := wrap_ok (by omega) (by omega)
    have q6 : IntKind.i64.wrap (swF x w - (h2 : Int)) = swF x w - (h2 : Int) := wrap_ok (by omega) (by omega)
    have em : mxI 0 (swF x w - (h2 : Int)) = swF x w - (h2 : Int) := by unfold mxI; rw [if_pos (by omega)]
    have g0 := eq_true (show 0 < swF x w - (h2 : Int) by omega)
    rw [em]
    clear em b
    generalize swF x w = sw at *
    generalize hv : sw - (h2 : Int) = v at *
    have r1 : (((smL x w).length + 1) * 24 ≤ 1099511627776) = True := eq_true (by omega)
    have r2 : ((smL x w).length + 1 ≤ 1099511627776) = True := eq_true (by omega)
    have cl := cM_len (smL x w)
    generalize aL 6 (swF x) = cc at *
    generalize smL x w = L at *
    unfold x26l1
    dsimp only
    by_cases hL : L = []
    · subst hL
      have cz : cM [] = [] := rfl
      rw [if_pos rfl,if_pos rfl,cz]
      (sym => (simp [irem2,iquo2,remF,Za,Zb,Zc,Zd,Ze,Zf,Zh,Zi,Zl,Zm,Zn,Zt,Zy,Zz,Z1,Z4,Z5,Z6,Z7,ZC,ZD,ZE,ZG,ZH,ZJ,ZK,ZW,ZX,Yc,Yh,Yi,Yk,Yn,Yo,Yq,Yu,Yv,Y6,Y8,YB,YD,YF,YG,YO,YQ,YX,YY,Xe,Xf,Xh,Xo,Xt,Xu,Wn,Wo,Wq,Ww,Wx,Wy,Wz,W0,W3,W4,W5,W6,W7,W8,WA,WB,WC,WF,WG,WI,WJ,WK,WM,WO,WP,WQ,WR,WW,WX,WY,Vc,Vd,Vj,VM,VN,VO,VP,VQ,VR,VV,VW,VX,VY,VZ,Ub,Uc,Ud,Uf,Ug,Uj,Ul,Un,Uo,Us,Uw,Ux,Uy,Uz,U0,U2,U3,U4,U5,U6,U7,UE,UF,UG,UH,UM,UN,UO,UP,UR,US,UT,UU,UV,UW,UY,UZ,Td,Te,Tf,Ti,Tj,Tk,Tl,Tm,Tn,Tp,Tr,Tt,Tu,Tx,T0,T1,T2,T4,T5,T6,TA,Sc,Se,Sf,a1,a2,nw,c1,gt,ll,k1,hc,q1,q2,q3,q4,q5,q6,hv,g0]; all_goals tactic => exact rfl))
    · rw [if_neg hL,if_neg hL]
      generalize cM L = cm at *
      generalize L.length = m at *
      (sym => (simp [irem2,iquo2,remF,Za,Zb,Zc,Zd,Ze,Zf,Zh,Zi,Zl,Zm,Zn,Zt,Zy,Zz,Z1,Z4,Z5,Z6,Z7,ZC,ZD,ZE,ZG,ZH,ZJ,ZK,ZW,ZX,Yc,Yh,Yi,Yk,Yn,Yo,Yq,Yu,Yv,Y6,Y8,YB,YD,YF,YG,YO,YQ,YX,YY,Xe,Xf,Xh,Xo,Xt,Xu,Wn,Wo,Wq,Ww,Wx,Wy,Wz,W0,W3,W4,W5,W6,W7,W8,WA,WB,WC,WF,WG,WI,WJ,WK,WM,WO,WP,WQ,WR,WW,WX,WY,Vc,Vd,Vj,VM,VN,VO,VP,VQ,VR,VV,VW,VX,VY,VZ,Ub,Uc,Ud,Uf,Ug,Uj,Ul,Un,Uo,Us,Uw,Ux,Uy,Uz,U0,U2,U3,U4,U5,U6,U7,UE,UF,UG,UH,UM,UN,UO,UP,UR,US,UT,UU,UV,UW,UY,UZ,Td,Te,Tf,Ti,Tj,Tk,Tl,Tm,Tn,Tp,Tr,Tt,Tu,Tx,T0,T1,T2,T4,T5,T6,TA,Sc,Se,Sf,a1,a2,nw,c1,gt,ll,k1,hc,q1,q2,q3,q4,q5,q6,hv,g0,r1,r2,cl]; all_goals tactic => exact rfl))
  · have e : smL x (w + 1) = smL x w := by rw [smL,hb]; rfl
    rw [e]
    unfold g26 v26
    generalize (aL 6 (swF x)).map I = cc at *
    generalize smL x w = L at *
    unfold x26l1
    dsimp only
    by_cases hL : L = []
    · rw [if_pos hL,if_pos hL]
      (sym => (simp [irem2,iquo2,remF,Za,Zb,Zc,Zd,Ze,Zf,Zh,Zi,Zl,Zm,Zn,Zt,Zy,Zz,Z1,Z4,Z5,Z6,Z7,ZC,ZD,ZE,ZG,ZH,ZJ,ZK,ZW,ZX,Yc,Yh,Yi,Yk,Yn,Yo,Yq,Yu,Yv,Y6,Y8,YB,YD,YF,YG,YO,YQ,YX,YY,Xe,Xf,Xh,Xo,Xt,Xu,Wn,Wo,Wq,Ww,Wx,Wy,Wz,W0,W3,W4,W5,W6,W7,W8,WA,WB,WC,WF,WG,WI,WJ,WK,WM,WO,WP,WQ,WR,WW,WX,WY,Vc,Vd,Vj,VM,VN,VO,VP,VQ,VR,VV,VW,VX,VY,VZ,Ub,Uc,Ud,Uf,Ug,Uj,Ul,Un,Uo,Us,Uw,Ux,Uy,Uz,U0,U2,U3,U4,U5,U6,U7,UE,UF,UG,UH,UM,UN,UO,UP,UR,US,UT,UU,UV,UW,UY,UZ,Td,Te,Tf,Ti,Tj,Tk,Tl,Tm,Tn,Tp,Tr,Tt,Tu,Tx,T0,T1,T2,T4,T5,T6,TA,Sc,Se,Sf,a1,a2,nw,c1]; all_goals tactic => exact rfl))
    · rw [if_neg hL,if_neg hL]
      generalize cM L = cm at *
      generalize L.length = m at *
      (sym => (simp [irem2,iquo2,remF,Za,Zb,Zc,Zd,Ze,Zf,Zh,Zi,Zl,Zm,Zn,Zt,Zy,Zz,Z1,Z4,Z5,Z6,Z7,ZC,ZD,ZE,ZG,ZH,ZJ,ZK,ZW,ZX,Yc,Yh,Yi,Yk,Yn,Yo,Yq,Yu,Yv,Y6,Y8,YB,YD,YF,YG,YO,YQ,YX,YY,Xe,Xf,Xh,Xo,Xt,Xu,Wn,Wo,Wq,Ww,Wx,Wy,Wz,W0,W3,W4,W5,W6,W7,W8,WA,WB,WC,WF,WG,WI,WJ,WK,WM,WO,WP,WQ,WR,WW,WX,WY,Vc,Vd,Vj,VM,VN,VO,VP,VQ,VR,VV,VW,VX,VY,VZ,Ub,Uc,Ud,Uf,Ug,Uj,Ul,Un,Uo,Us,Uw,Ux,Uy,Uz,U0,U2,U3,U4,U5,U6,U7,UE,UF,UG,UH,UM,UN,UO,UP,UR,US,UT,UU,UV,UW,UY,UZ,Td,Te,Tf,Ti,Tj,Tk,Tl,Tm,Tn,Tp,Tr,Tt,Tu,Tx,T0,T1,T2,T4,T5,T6,TA,Sc,Se,Sf,a1,a2,nw,c1]; all_goals tactic => exact rfl))
theorem w26 {x : P4} (hx : x.Ok) : runW progX 26 [.agg x.row] [] = some (.tup [.agg (fdC (smL x 6)),rI (aL 6 (swF x))],[]) := by
  have e25 := w25 0 30000
  have ha := wr8 hx.a
  have hb := wr8 hx.b
  have bA := hx.a
  have bB := hx.b
  have q1 : IntKind.i64.wrap (20 * (x.a : Int)) = 20 * (x.a : Int) := wrap_ok (by omega) (by omega)
  have q2 : IntKind.i64.wrap (6000 + 20 * (x.a : Int)) = swF x 0 := wrap_ok (by omega) (by omega)
  have q3 : IntKind.i64.wrap (2 * (x.b : Int)) = sgF x 0 := by
    rw [wrap_ok (by omega) (by omega)]
    unfold sgF
    omega
  have rd1 := fun j (hj : j < 5) => round26a hx hj
  have rd2 := fun w (hw : w < 6) => round26b hx hw
  have s1 : (aL 1 (swF x)).map I = [I (swF x 0)] := rfl
  have s6 : (aL 6 (swF x)).map I = [I (swF x 0),I (swF x 1),I (swF x 2),I (swF x 3),I (swF x 4),I (swF x 5)] := rfl
  have t6 : rI (aL 6 (swF x)) = .fs [[I (swF x 0)],[I (swF x 1)],[I (swF x 2)],[I (swF x 3)],[I (swF x 4)],[I (swF x 5)]] := rfl
  have L0 : smL x 0 = [] := rfl
  have cl := cM_len (smL x 6)
  have ch := cM_ch (smL x 6)
  have p3 : ((smL x 6).length * 3 ≤ (smL x 6).length * 3) = True := eq_true (Nat.le_refl _)
  rw [t6]
  rw [r26 (by simp)]; unfold x26; dsimp only
  sym =>
    simp [irem2,iquo2,remF,Za,Zb,Zc,Zd,Ze,Zf,Zh,Zi,Zl,Zm,Zn,Zt,Zu,Zx,Zy,Zz,Z1,Z4,Z6,ZD,ZE,ZG,ZH,ZI,ZL,ZM,ZQ,ZR,ZW,Yh,Yj,Yq,Y2,Y3,Y4,Y5,YB,YD,YF,YO,YQ,YT,YU,YV,YX,YY,Xe,Xf,Xg,Xh,Xk,Xo,Xq,Xr,Xs,Xt,Xu,X0,XJ,XK,XM,XO,XU,XV,XW,XX,XY,Wa,Wc,We,Wf,Wg,Wj,Wn,Wo,Wz,W0,W3,W4,W5,W6,W7,W8,W9,WA,WB,WC,WF,WG,WI,WJ,WK,WL,WM,WN,WO,WP,WQ,WR,WS,WT,WW,WX,Vc,Vf,Vg,Vh,Vp,Vq,Vr,Vs,Vt,V1,V2,V3,V4,V6,V7,V9,VA,VB,VC,VF,VG,VH,VI,VJ,VK,VL,VM,VN,VO,VP,VR,VS,VU,VV,VW,VX,VY,VZ,Ub,Uc,Ud,Ug,Uj,Ul,Us,Ut,Uw,Uy,Uz,U0,U1,U2,U3,U4,U5,U6,U7,U8,U9,UA,UB,UC,UD,UE,UF,UG,UH,UK,UL,UM,UN,UO,UP,UY,UZ,Tc,Td,Te,Tf,Ti,Tn,Tp,Tq,Ts,Tt,Tu,Tv,Tz,T0,T1,T2,T5,T6,T7,TA,TD,TE,TF,TG,TH,TI,TJ,Sg,Sj,Sl,e25,ha,hb,q1,q2,q3]
    tactic =>
      unfold x26l0
      rw [loop_rule 5 (fun j => [.pt 0 0,.pt 1 0,.pt 2 0,.sl 3 0 1 (1 + j),I (sgF x j),I (1 + j : Nat)]) (fun j => h26 x (1 + j))]
      · unfold h26
        rw [show (1 + 5 : Nat) = 6 from rfl,s6]
        sym =>
          simp [irem2,iquo2,remF,Za,Zb,Zc,Zd,Ze,Zf,Zh,Zi,Zl,Zm,Zn,Zt,Zu,Zx,Zy,Zz,Z1,Z4,Z6,ZD,ZE,ZG,ZH,ZI,ZL,ZM,ZQ,ZR,ZW,Yh,Yj,Yq,Y2,Y3,Y4,Y5,YB,YD,YF,YO,YQ,YT,YU,YV,YX,YY,Xe,Xf,Xg,Xh,Xk,Xo,Xq,Xr,Xs,Xt,Xu,X0,XJ,XK,XM,XO,XU,XV,XW,XX,XY,Wa,Wc,We,Wf,Wg,Wj,Wn,Wo,Wz,W0,W3,W4,W5,W6,W7,W8,W9,WA,WB,WC,WF,WG,WI,WJ,WK,WL,WM,WN,WO,WP,WQ,WR,WS,WT,WW,WX,Vc,Vf,Vg,Vh,Vp,Vq,Vr,Vs,Vt,V1,V2,V3,V4,V6,V7,V9,VA,VB,VC,VF,VG,VH,VI,VJ,VK,VL,VM,VN,VO,VP,VR,VS,VU,VV,VW,VX,VY,VZ,Ub,Uc,Ud,Ug,Uj,Ul,Us,Ut,Uw,Uy,Uz,U0,U1,U2,U3,U4,U5,U6,U7,U8,U9,UA,UB,UC,UD,UE,UF,UG,UH,UK,UL,UM,UN,UO,UP,UY,UZ,Tc,Td,Te,Tf,Ti,Tn,Tp,Tq,Ts,Tt,Tu,Tv,Tz,T0,T1,T2,T5,T6,T7,TA,TD,TE,TF,TG,TH,TI,TJ,Sg,Sj,Sl]
          tactic =>
            unfold x26l1
            rw [loop_rule 6 (fun w => [.pt 0 0,.pt 1 0,.pt 2 0,v26 (smL x w),I (w : Nat)]) (fun w => g26 x ((aL 6 (swF x)).map I) (smL x w))]
            · unfold v26 g26
              rw [s6]
              generalize smL x 6 = L at *
              by_cases hL : L = []
              · subst hL
                rw [if_pos rfl,if_pos rfl]
                (sym => (simp [irem2,iquo2,remF,Za,Zb,Zc,Zd,Ze,Zf,Zh,Zi,Zl,Zm,Zn,Zt,Zu,Zx,Zy,Zz,Z1,Z4,Z6,ZD,ZE,ZG,ZH,ZI,ZL,ZM,ZQ,ZR,ZW,Yh,Yj,Yq,Y2,Y3,Y4,Y5,YB,YD,YF,YO,YQ,YT,YU,YV,YX,YY,Xe,Xf,Xg,Xh,Xk,Xo,Xq,Xr,Xs,Xt,Xu,X0,XJ,XK,XM,XO,XU,XV,XW,XX,XY,Wa,Wc,We,Wf,Wg,Wj,Wn,Wo,Wz,W0,W3,W4,W5,W6,W7,W8,W9,WA,WB,WC,WF,WG,WI,WJ,WK,WL,WM,WN,WO,WP,WQ,WR,WS,WT,WW,WX,Vc,Vf,Vg,Vh,Vp,Vq,Vr,Vs,Vt,V1,V2,V3,V4,V6,V7,V9,VA,VB,VC,VF,VG,VH,VI,VJ,VK,VL,VM,VN,VO,VP,VR,VS,VU,VV,VW,VX,VY,VZ,Ub,Uc,Ud,Ug,Uj,Ul,Us,Ut,Uw,Uy,Uz,U0,U1,U2,U3,U4,U5,U6,U7,U8,U9,UA,UB,UC,UD,UE,UF,UG,UH,UK,UL,UM,UN,UO,UP,UY,UZ,Tc,Td,Te,Tf,Ti,Tn,Tp,Tq,Ts,Tt,Tu,Tv,Tz,T0,T1,T2,T5,T6,T7,TA,TD,TE,TF,TG,TH,TI,TJ,Sg,Sj,Sl]; all_goals tactic => exact rfl))
              · rw [if_neg hL,if_neg hL]
                generalize cM L = cm at *
                (sym => (simp [irem2,iquo2,remF,Za,Zb,Zc,Zd,Ze,Zf,Zh,Zi,Zl,Zm,Zn,Zt,Zu,Zx,Zy,Zz,Z1,Z4,Z6,ZD,ZE,ZG,ZH,ZI,ZL,ZM,ZQ,ZR,ZW,Yh,Yj,Yq,Y2,Y3,Y4,Y5,YB,YD,YF,YO,YQ,YT,YU,YV,YX,YY,Xe,Xf,Xg,Xh,Xk,Xo,Xq,Xr,Xs,Xt,Xu,X0,XJ,XK,XM,XO,XU,XV,XW,XX,XY,Wa,Wc,We,Wf,Wg,Wj,Wn,Wo,Wz,W0,W3,W4,W5,W6,W7,W8,W9,WA,WB,WC,WF,WG,WI,WJ,WK,WL,WM,WN,WO,WP,WQ,WR,WS,WT,WW,WX,Vc,Vf,Vg,Vh,Vp,Vq,Vr,Vs,Vt,V1,V2,V3,V4,V6,V7,V9,VA,VB,VC,VF,VG,VH,VI,VJ,VK,VL,VM,VN,VO,VP,VR,VS,VU,VV,VW,VX,VY,VZ,Ub,Uc,Ud,Ug,Uj,Ul,Us,Ut,Uw,Uy,Uz,U0,U1,U2,U3,U4,U5,U6,U7,U8,U9,UA,UB,UC,UD,UE,UF,UG,UH,UK,UL,UM,UN,UO,UP,UY,UZ,Tc,Td,Te,Tf,Ti,Tn,Tp,Tq,Ts,Tt,Tu,Tv,Tz,T0,T1,T2,T5,T6,T7,TA,TD,TE,TF,TG,TH,TI,TJ,Sg,Sj,Sl,cl,ch,p3]; all_goals tactic => exact rfl))
            · rw [L0]
              unfold v26 g26
              rw [if_pos rfl,if_pos rfl,s6]
              (sym => (simp [irem2,iquo2,remF,Za,Zb,Zc,Zd,Ze,Zf,Zh,Zi,Zl,Zm,Zn,Zt,Zu,Zx,Zy,Zz,Z1,Z4,Z6,ZD,ZE,ZG,ZH,ZI,ZL,ZM,ZQ,ZR,ZW,Yh,Yj,Yq,Y2,Y3,Y4,Y5,YB,YD,YF,YO,YQ,YT,YU,YV,YX,YY,Xe,Xf,Xg,Xh,Xk,Xo,Xq,Xr,Xs,Xt,Xu,X0,XJ,XK,XM,XO,XU,XV,XW,XX,XY,Wa,Wc,We,Wf,Wg,Wj,Wn,Wo,Wz,W0,W3,W4,W5,W6,W7,W8,W9,WA,WB,WC,WF,WG,WI,WJ,WK,WL,WM,WN,WO,WP,WQ,WR,WS,WT,WW,WX,Vc,Vf,Vg,Vh,Vp,Vq,Vr,Vs,Vt,V1,V2,V3,V4,V6,V7,V9,VA,VB,VC,VF,VG,VH,VI,VJ,VK,VL,VM,VN,VO,VP,VR,VS,VU,VV,VW,VX,VY,VZ,Ub,Uc,Ud,Ug,Uj,Ul,Us,Ut,Uw,Uy,Uz,U0,U1,U2,U3,U4,U5,U6,U7,U8,U9,UA,UB,UC,UD,UE,UF,UG,UH,UK,UL,UM,UN,UO,UP,UY,UZ,Tc,Td,Te,Tf,Ti,Tn,Tp,Tq,Ts,Tt,Tu,Tv,Tz,T0,T1,T2,T5,T6,T7,TA,TD,TE,TF,TG,TH,TI,TJ,Sg,Sj,Sl]; all_goals tactic => exact rfl))
            · exact rd2
            · unfold v26 g26
              rw [s6]
              generalize smL x 6 = L at *
              by_cases hL : L = []
              · rw [if_pos hL,if_pos hL]
                (sym => (simp [irem2,iquo2,remF,Za,Zb,Zc,Zd,Ze,Zf,Zh,Zi,Zl,Zm,Zn,Zt,Zu,Zx,Zy,Zz,Z1,Z4,Z6,ZD,ZE,ZG,ZH,ZI,ZL,ZM,ZQ,ZR,ZW,Yh,Yj,Yq,Y2,Y3,Y4,Y5,YB,YD,YF,YO,YQ,YT,YU,YV,YX,YY,Xe,Xf,Xg,Xh,Xk,Xo,Xq,Xr,Xs,Xt,Xu,X0,XJ,XK,XM,XO,XU,XV,XW,XX,XY,Wa,Wc,We,Wf,Wg,Wj,Wn,Wo,Wz,W0,W3,W4,W5,W6,W7,W8,W9,WA,WB,WC,WF,WG,WI,WJ,WK,WL,WM,WN,WO,WP,WQ,WR,WS,WT,WW,WX,Vc,Vf,Vg,Vh,Vp,Vq,Vr,Vs,Vt,V1,V2,V3,V4,V6,V7,V9,VA,VB,VC,VF,VG,VH,VI,VJ,VK,VL,VM,VN,VO,VP,VR,VS,VU,VV,VW,VX,VY,VZ,Ub,Uc,Ud,Ug,Uj,Ul,Us,Ut,Uw,Uy,Uz,U0,U1,U2,U3,U4,U5,U6,U7,U8,U9,UA,UB,UC,UD,UE,UF,UG,UH,UK,UL,UM,UN,UO,UP,UY,UZ,Tc,Td,Te,Tf,Ti,Tn,Tp,Tq,Ts,Tt,Tu,Tv,Tz,T0,T1,T2,T5,T6,T7,TA,TD,TE,TF,TG,TH,TI,TJ,Sg,Sj,Sl]; all_goals tactic => exact rfl))
              · rw [if_neg hL,if_neg hL]
                generalize cM L = cm at *
                (sym => (simp [irem2,iquo2,remF,Za,Zb,Zc,Zd,Ze,Zf,Zh,Zi,Zl,Zm,Zn,Zt,Zu,Zx,Zy,Zz,Z1,Z4,Z6,ZD,ZE,ZG,ZH,ZI,ZL,ZM,ZQ,ZR,ZW,Yh,Yj,Yq,Y2,Y3,Y4,Y5,YB,YD,YF,YO,YQ,YT,YU,YV,YX,YY,Xe,Xf,Xg,Xh,Xk,Xo,Xq,Xr,Xs,Xt,Xu,X0,XJ,XK,XM,XO,XU,XV,XW,XX,XY,Wa,Wc,We,Wf,Wg,Wj,Wn,Wo,Wz,W0,W3,W4,W5,W6,W7,W8,W9,WA,WB,WC,WF,WG,WI,WJ,WK,WL,WM,WN,WO,WP,WQ,WR,WS,WT,WW,WX,Vc,Vf,Vg,Vh,Vp,Vq,Vr,Vs,Vt,V1,V2,V3,V4,V6,V7,V9,VA,VB,VC,VF,VG,VH,VI,VJ,VK,VL,VM,VN,VO,VP,VR,VS,VU,VV,VW,VX,VY,VZ,Ub,Uc,Ud,Ug,Uj,Ul,Us,Ut,Uw,Uy,Uz,U0,U1,U2,U3,U4,U5,U6,U7,U8,U9,UA,UB,UC,UD,UE,UF,UG,UH,UK,UL,UM,UN,UO,UP,UY,UZ,Tc,Td,Te,Tf,Ti,Tn,Tp,Tq,Ts,Tt,Tu,Tv,Tz,T0,T1,T2,T5,T6,T7,TA,TD,TE,TF,TG,TH,TI,TJ,Sg,Sj,Sl]; all_goals tactic => exact rfl))
      · show _ = some (_,h26 x 1)
        unfold h26
        rw [s1]
        (sym => (simp [irem2,iquo2,remF,Za,Zb,Zc,Zd,Ze,Zf,Zh,Zi,Zl,Zm,Zn,Zt,Zu,Zx,Zy,Zz,Z1,Z4,Z6,ZD,ZE,ZG,ZH,ZI,ZL,ZM,ZQ,ZR,ZW,Yh,Yj,Yq,Y2,Y3,Y4,Y5,YB,YD,YF,YO,YQ,YT,YU,YV,YX,YY,Xe,Xf,Xg,Xh,Xk,Xo,Xq,Xr,Xs,Xt,Xu,X0,XJ,XK,XM,XO,XU,XV,XW,XX,XY,Wa,Wc,We,Wf,Wg,Wj,Wn,Wo,Wz,W0,W3,W4,W5,W6,W7,W8,W9,WA,WB,WC,WF,WG,WI,WJ,WK,WL,WM,WN,WO,WP,WQ,WR,WS,WT,WW,WX,Vc,Vf,Vg,Vh,Vp,Vq,Vr,Vs,Vt,V1,V2,V3,V4,V6,V7,V9,VA,VB,VC,VF,VG,VH,VI,VJ,VK,VL,VM,VN,VO,VP,VR,VS,VU,VV,VW,VX,VY,VZ,Ub,Uc,Ud,Ug,Uj,Ul,Us,Ut,Uw,Uy,Uz,U0,U1,U2,U3,U4,U5,U6,U7,U8,U9,UA,UB,UC,UD,UE,UF,UG,UH,UK,UL,UM,UN,UO,UP,UY,UZ,Tc,Td,Te,Tf,Ti,Tn,Tp,Tq,Ts,Tt,Tu,Tv,Tz,T0,T1,T2,T5,T6,T7,TA,TD,TE,TF,TG,TH,TI,TJ,Sg,Sj,Sl]; all_goals tactic => exact rfl))
      · exact rd1
      · unfold h26
        rw [show (1 + 5 : Nat) = 6 from rfl,s6]
        (sym => (simp [irem2,iquo2,remF,Za,Zb,Zc,Zd,Ze,Zf,Zh,Zi,Zl,Zm,Zn,Zt,Zu,Zx,Zy,Zz,Z1,Z4,Z6,ZD,ZE,ZG,ZH,ZI,ZL,ZM,ZQ,ZR,ZW,Yh,Yj,Yq,Y2,Y3,Y4,Y5,YB,YD,YF,YO,YQ,YT,YU,YV,YX,YY,Xe,Xf,Xg,Xh,Xk,Xo,Xq,Xr,Xs,Xt,Xu,X0,XJ,XK,XM,XO,XU,XV,XW,XX,XY,Wa,Wc,We,Wf,Wg,Wj,Wn,Wo,Wz,W0,W3,W4,W5,W6,W7,W8,W9,WA,WB,WC,WF,WG,WI,WJ,WK,WL,WM,WN,WO,WP,WQ,WR,WS,WT,WW,WX,Vc,Vf,Vg,Vh,Vp,Vq,Vr,Vs,Vt,V1,V2,V3,V4,V6,V7,V9,VA,VB,VC,VF,VG,VH,VI,VJ,VK,VL,VM,VN,VO,VP,VR,VS,VU,VV,VW,VX,VY,VZ,Ub,Uc,Ud,Ug,Uj,Ul,Us,Ut,Uw,Uy,Uz,U0,U1,U2,U3,U4,U5,U6,U7,U8,U9,UA,UB,UC,UD,UE,UF,UG,UH,UK,UL,UM,UN,UO,UP,UY,UZ,Tc,Td,Te,Tf,Ti,Tn,Tp,Tq,Ts,Tt,Tu,Tv,Tz,T0,T1,T2,T5,T6,T7,TA,TD,TE,TF,TG,TH,TI,TJ,Sg,Sj,Sl]; all_goals tactic => exact rfl))
end Go.Proofs.YtpbeclkpohehgaaDoor
namespace Go.Proofs.YtpbeclkpohehgaaDoor
open Go Go.DL
set_option maxRecDepth 100000
set_option maxHeartbeats 4000000
theorem w30 {us : List Nat} (hu : ∀ v ∈ us,v < 256) (hul : us.length ≤ maxLen) {i : Nat} (hi : i ≤ 1000) {a b : Int} (ha : 0 ≤ a) (hab : a ≤ b) (hb : b ≤ 1000000) : runW progX 30 [I i,.agg [I a,I b],.pt 0 0] [cB8 us] = some (I (pkT us i a b),[cB8 us]) := by
  have bd := pk_bd us i hab
  by_cases h0 : us.length = 0
  · have e : pkT us i a b = a := if_pos h0
    have c1 : ((us.length : Int) = 0) = True := eq_true (by omega)
    rw [e]
    rw [r30 (by simp)]; unfold x30; dsimp only
    (sym => (simp [irem2,iquo2,remF,Za,Zb,Zf,Zh,Zi,Zl,Zm,Zn,Zt,Zx,Z1,Z4,Z5,Z7,ZB,ZD,ZE,ZF,ZG,ZW,ZX,ZZ,Ye,Yf,Yh,Yi,Yo,Yu,Yv,YQ,Xe,Xf,Xo,X0,Wc,We,Wi,Wo,Wz,W0,W3,W9,WA,WI,WM,WO,WP,WQ,WW,WX,Vb,Vc,Vs,V6,V7,V9,VA,VB,VC,VD,VG,VH,VI,VJ,VL,VP,VQ,VR,VU,VV,VW,VX,VY,VZ,Ua,Ub,Uc,Ud,Ue,Uf,Ug,Uj,Us,Ux,Uy,U2,U3,U6,U7,UC,UD,UK,UL,UY,UZ,Ta,Tb,Td,Ti,Tn,Tp,Tq,Tr,Tu,Tw,T1,T2,Sg,c1]; all_goals tactic => exact rfl))
  · have e : pkT us i a b = a + tmZ ((us.getD (i % us.length) 0 : Nat) : Int) (b - a + 1) := if_neg h0
    have c1 : ((us.length : Int) = 0) = False := eq_false (by omega)
    have hm : i % us.length < us.length := Nat.mod_lt _ (by omega)
    have c2 : tmZ (i : Int) (us.length : Int) = ((i % us.length : Nat) : Int) := tmod_n _ _
    obtain ⟨u,hux⟩ := at_ix hm
    rw [getD_of hux] at e
    have hub := hu u (List.mem_of_getElem? hux)
    generalize i % us.length = j at *
    have c3 := lt_ix hm
    have c4 := wr8 hub
    have tb := tm_bd (u := u) (m := b - a + 1) (by omega)
    have q1 : IntKind.i64.wrap (b - a) = b - a := wrap_ok (by omega) (by omega)
    have q2 : IntKind.i64.wrap (b - a + 1) = b - a + 1 := wrap_ok (by omega) (by omega)
    have q3 : (b - a + 1 = 0) = False := eq_false (by omega)
    have q4 : IntKind.i64.wrap (a + tmZ (u : Int) (b - a + 1)) = pkT us i a b := by rw [e]; exact wrap_ok (by omega) (by omega)
    clear e
    generalize hp : pkT us i a b = p at *
    generalize hw : b - a + 1 = w at *
    rw [r30 (by simp)]; unfold x30; dsimp only
    (sym => (simp [irem2,iquo2,remF,Za,Zb,Zf,Zh,Zi,Zl,Zm,Zn,Zt,Zx,Z1,Z4,Z5,Z7,ZB,ZD,ZE,ZF,ZG,ZW,ZX,ZZ,Ye,Yf,Yh,Yi,Yo,Yu,Yv,YQ,Xe,Xf,Xo,X0,Wc,We,Wi,Wo,Wz,W0,W3,W9,WA,WI,WM,WO,WP,WQ,WW,WX,Vb,Vc,Vs,V6,V7,V9,VA,VB,VC,VD,VG,VH,VI,VJ,VL,VP,VQ,VR,VU,VV,VW,VX,VY,VZ,Ua,Ub,Uc,Ud,Ue,Uf,Ug,Uj,Us,Ux,Uy,U2,U3,U6,U7,UC,UD,UK,UL,UY,UZ,Ta,Tb,Td,Ti,Tn,Tp,Tq,Tr,Tu,Tw,T1,T2,Sg,c1,c2,hux,c3,c4,q1,hw,q2,q3,q4]; all_goals tactic => exact rfl))
abbrev hT4 (lc : List AV) (cs ts rs : List Int) (us : List Nat) : XH := [some (.blk true (.cells true lc)),some (.blk true (.cells true (cs.map I))),some (.blk true (.cells true (ts.map I))),some (.blk true (.cells true (rs.map I))),cB8 us]
abbrev cl30 : AV := .fn (.func 30) [] [.pt 4 0]
abbrev hT5 (lc : List AV) (cs ts rs : List Int) (us : List Nat) (x : Ld) : XH := [some (.blk true (.cells true lc)),some (.blk true (.cells true (cs.map I))),some (.blk true (.cells true (ts.map I))),some (.blk true (.cells true (rs.map I))),cB8 us,some (.blk true (.cells true x.row))]
section
variable {l : Li} {us : List Nat} (hu : ∀ v ∈ us,v < 256) (hul : us.length ≤ maxLen)
include hu hul
theorem round4e {cs ts rs : List Int} {w nt : Int} {i n : Nat} {o : List Int} {v : Int} {x : Ld} {k : List St} (hi : i ≤ 100) (hx1 : 0 ≤ x.al) (hx2 : x.al ≤ x.ah) (hx3 : x.ah ≤ 100000) (hnt : 0 ≤ nt ∧ nt ≤ 1000000) (hk : k.length ≤ 8) {j : Nat} (hj : j < k.length) :
    headX 0 [7,8,9,10,26,28,29,30,31,32,33,243,244,245,278,279,280] (execW progX 4 0 none (match x4l2 with | .loop _ a => a | c => c) (envL [7,8,9,10,26,28,29,30,31,32,33,243,244,245,278,279,280] [.pt 0 0,.sl 1 0 1 n,.sl 2 0 1 n,.sl 3 0 1 n,I w,cl30,I nt,I (i : Nat),I v,.pt 5 0,I (soN k (pkT us (2 * i + 2) x.al x.ah + nt) j),rI o,I o.length,I (i : Nat),rS k,I k.length,I (j : Nat)]) (hT5 l.c cs ts rs us x)) =
      some ([.pt 0 0,.sl 1 0 1 n,.sl 2 0 1 n,.sl 3 0 1 n,I w,cl30,I nt,I (i : Nat),I v,.pt 5 0,I (soN k (pkT us (2 * i + 2) x.al x.ah + nt) (j + 1)),rI o,I o.length,I (i : Nat),rS k,I k.length,I (j + 1 : Nat)],hT5 l.c cs ts rs us x) := by
  obtain ⟨y,hy⟩ := at_ix hj
  have a1 := lt_ix hj
  have a2 := up_ix hj (by omega)
  have p2 := pk_bd us (2 * i + 2) (lo := x.al) (hi := x.ah) hx2
  have w2 := w30 hu hul (i := 2 * i + 2) (by omega) (a := x.al) (b := x.ah) (by omega) (by omega) (by omega)
  have c0' : ((2 * i + 2 : Nat) : Int) = 2 * (i : Int) + 2 := by omega
  rw [c0'] at w2
  have q0 : IntKind.i64.wrap (2 * (i : Int)) = 2 * (i : Int) := wrap_ok (by omega) (by omega)
  have q2 : IntKind.i64.wrap (2 * (i : Int) + 2) = 2 * (i : Int) + 2 := wrap_ok (by omega) (by omega)
  have q6 : IntKind.i64.wrap (pkT us (2 * i + 2) x.al x.ah + nt) = pkT us (2 * i + 2) x.al x.ah + nt := wrap_ok (by omega) (by omega)
  generalize pkT us (2 * i + 2) x.al x.ah = pk at *
  generalize hm : pk + nt = m at *
  unfold x4l2
  dsimp only
  rcases soN_up (m := m) hy with ⟨h1,h2⟩ | ⟨h1,h2⟩
  · rw [h2]; (sym => (simp [irem2,iquo2,remF,Za,Zb,Zc,Zd,Ze,Zf,Zg,Zh,Zk,Zl,Zm,Zt,Zu,Z1,Z5,Z7,ZD,ZE,ZG,ZH,ZI,ZJ,ZN,ZO,ZQ,ZR,ZX,Ye,Yf,Yh,Yj,Yq,Yr,Yu,Yv,YQ,YT,YV,YX,YY,Xc,Xe,Xo,Xq,Xs,Xt,Xu,Xy,Wo,Wz,W0,W3,W4,W5,W6,W7,W8,WA,WB,WC,WE,WF,WG,WI,WJ,WK,WL,WM,WN,WO,WP,WQ,WR,WS,WT,WU,WW,WX,Vc,Vf,Vg,Vh,Vi,Vj,Vk,Vl,Vn,Vo,Vs,Vu,Vv,Vx,Vy,V0,VM,VN,VO,VP,VQ,VR,VV,VW,VX,VY,VZ,Ub,Uc,Ud,Ue,Uf,Ug,Uj,Um,Un,Uq,Us,Uw,Ux,Uy,Uz,U0,U1,U2,U3,U4,U5,U6,U7,UE,UY,UZ,Ta,Tb,Tc,Td,Te,Tf,Tn,Tp,Tr,Tt,Tu,Tx,T0,T1,T2,T6,Sn,Sq,Sr,Ss,Sy,Sz,S6,a1,a2,hy,h1,w2,q0,q2,hm,q6]; all_goals tactic => exact rfl))
  · rw [h2]; (sym => (simp [irem2,iquo2,remF,Za,Zb,Zc,Zd,Ze,Zf,Zg,Zh,Zk,Zl,Zm,Zt,Zu,Z1,Z5,Z7,ZD,ZE,ZG,ZH,ZI,ZJ,ZN,ZO,ZQ,ZR,ZX,Ye,Yf,Yh,Yj,Yq,Yr,Yu,Yv,YQ,YT,YV,YX,YY,Xc,Xe,Xo,Xq,Xs,Xt,Xu,Xy,Wo,Wz,W0,W3,W4,W5,W6,W7,W8,WA,WB,WC,WE,WF,WG,WI,WJ,WK,WL,WM,WN,WO,WP,WQ,WR,WS,WT,WU,WW,WX,Vc,Vf,Vg,Vh,Vi,Vj,Vk,Vl,Vn,Vo,Vs,Vu,Vv,Vx,Vy,V0,VM,VN,VO,VP,VQ,VR,VV,VW,VX,VY,VZ,Ub,Uc,Ud,Ue,Uf,Ug,Uj,Um,Un,Uq,Us,Uw,Ux,Uy,Uz,U0,U1,U2,U3,U4,U5,U6,U7,UE,UY,UZ,Ta,Tb,Tc,Td,Te,Tf,Tn,Tp,Tr,Tt,Tu,Tx,T0,T1,T2,T6,Sn,Sq,Sr,Ss,Sy,Sz,S6,a1,a2,hy,h1,w2,q0,q2,hm,q6]; all_goals tactic => exact rfl))
theorem round4d (g : Good l) {ks : List Nat} (hr : runE l (ofN ks) = 0) {cs ts rs : List Int} (lc : cs.length = l.ls.length) (lt : ts.length = l.ls.length) (lr : rs.length = l.ls.length) (hb : ∀ (k : Nat) (c t r : Int),cs[k]? = some c → ts[k]? = some t → rs[k]? = some r → t - c ≤ r ∧ (-1000000000 ≤ c ∧ c ≤ 1000000000) ∧ (-1000000000 ≤ t ∧ t ≤ 1000000000) ∧ (-2000000000 ≤ r ∧ r ≤ 2000000000)) {i : Nat} (hi : i < (ofN ks).length) :
    headX 0 [7,8,9,10,26,28,29,243,244,245] (execW progX 4 0 none (match x4l3 with | .loop _ a => a | c => c) (envL [7,8,9,10,26,28,29,243,244,245] [.pt 0 0,.sl 1 0 1 l.ls.length,.sl 2 0 1 l.ls.length,.sl 3 0 1 l.ls.length,I (msN l (ofN ks) (ofN ks).length),cl30,I (nowT us l (ofN ks) i),rI (ofN ks),I (ofN ks).length,I (i : Nat)]) (hT4 l.c cs ts rs us)) =
      some ([.pt 0 0,.sl 1 0 1 l.ls.length,.sl 2 0 1 l.ls.length,.sl 3 0 1 l.ls.length,I (msN l (ofN ks) (ofN ks).length),cl30,I (nowT us l (ofN ks) (i + 1)),rI (ofN ks),I (ofN ks).length,I (i + 1 : Nat)],hT4 l.c cs ts rs us) := by
  obtain ⟨_,hl,hord⟩ := runE_len hr
  obtain ⟨_,_,ho⟩ := ord_of hord
  have hn := g.few
  generalize ofN ks = o at *
  obtain ⟨v,hv⟩ := at_ix hi
  have hvn : o.getD i 0 = v := getD_of hv
  have hv2 := ho i (by omega)
  have bd2 := nw_bd g ho (i + 1) (by omega)
  have nb1 := now_bd g us ho i (by omega)
  have bd1 := nw_bd g ho i (by omega)
  have nb2 := now_bd g us ho (i + 1) (by omega)
  have f2 : soHi l o i = sourF (knAt l (ldAt l v)) ((ldAt l v).ah + nwH l o (i + 1)) := by rw [soHi,hvn]
  have f5 : nowT us l o (i + 1) = nowT us l o i + pkT us (2 * i + 1) (ldAt l v).cl (ldAt l v).ch := by rw [nowT,hvn]
  have f6 := ms_ge (l := l) (o := o) o.length i hi
  rw [hvn] at hv2
  obtain ⟨x,k,h1,h2,h3,h4,h5,h6,h7,h8⟩ := g.ld hv2
  rw [h2] at f2 f5
  rw [h5] at f2
  have p1 := pk_bd us (2 * i + 1) (lo := x.cl) (hi := x.ch) (by omega)
  have p2 := pk_bd us (2 * i + 2) (lo := x.al) (hi := x.ah) (by omega)
  have w1 := w30 hu hul (i := 2 * i + 1) (by omega) (a := x.cl) (b := x.ch) (by omega) (by omega) (by omega)
  have m2 := so_mono g h4 (m := pkT us (2 * i + 2) x.al x.ah + nowT us l o (i + 1)) (m' := x.ah + nwH l o (i + 1)) (by omega)
  rw [← f2] at m2
  have sb : ∀ m : Int,0 ≤ sourF k m ∧ sourF k m ≤ 1000000 := fun m => by
    have hks := g.kinds
    have := last_bd g (a := 0) (k := v.toNat) (by omega)
    unfold sourF
    have key : ∀ j,j ≤ k.length → 0 ≤ soN k m j ∧ soN k m j ≤ 1000000 := by
      intro j
      induction j with
      | zero => intro _; exact ⟨Int.le_refl _,show (0 : Int) ≤ 1000000 by decide⟩
      | succ j ih =>
        intro hj
        obtain ⟨y,hy⟩ := at_ix (l := k) (i := j) (by omega)
        have st := g.st h4 hy
        rw [soN,getD_of hy]
        split
        · omega
        · exact ih (by omega)
    exact key _ (Nat.le_refl _)
  have sbn := sb (pkT us (2 * i + 2) x.al x.ah + nowT us l o (i + 1))
  have rd := fun j (hj : j < k.length) => round4e (l := l) hu hul (cs := cs) (ts := ts) (rs := rs) (w := msN l o o.length) (nt := nowT us l o (i + 1)) (i := i) (n := l.ls.length) (o := o) (v := v) (x := x) (k := k) (by omega) (by omega) (by omega) (by omega) (by omega) h6 hj
  have s0 : soN k (pkT us (2 * i + 2) x.al x.ah + nowT us l o (i + 1)) 0 = 0 := rfl
  have sf : soN k (pkT us (2 * i + 2) x.al x.ah + nowT us l o (i + 1)) k.length = sourF k (pkT us (2 * i + 2) x.al x.ah + nowT us l o (i + 1)) := rfl
  obtain ⟨c,hc⟩ := at_ix (l := cs) (i := v.toNat) (by omega)
  obtain ⟨tt,ht⟩ := at_ix (l := ts) (i := v.toNat) (by omega)
  obtain ⟨r,hrr⟩ := at_ix (l := rs) (i := v.toNat) (by omega)
  obtain ⟨b1,b2,b3,b4⟩ := hb _ c tt r hc ht hrr
  have msb : msN l o o.length ≤ 1000000 := by
    have : ∀ n,n ≤ o.length → msN l o n ≤ 1000000 := by
      intro n
      induction n with
      | zero => intro _; exact show (0 : Int) ≤ 1000000 by decide
      | succ n ih =>
        intro hn
        have := ih (by omega)
        obtain ⟨x',k',_,g2,_,g4,g5,_⟩ := g.ld (ho n (by omega))
        have e : soHi l o n ≤ 1000000 := by
          have := last_bd g (a := 0) (k := (o.getD n 0).toNat) (by have := ho n (by omega); omega)
          unfold soHi
          rw [g2,g5]
          have key : ∀ j,j ≤ k'.length → soN k' (x'.ah + nwH l o (n + 1)) j ≤ 1000000 := by
            intro j
            induction j with
            | zero => intro _; exact show (0 : Int) ≤ 1000000 by decide
            | succ j ih =>
              intro hj
              obtain ⟨y,hy⟩ := at_ix (l := k') (i := j) (by omega)
              have st := g.st g4 hy
              rw [soN,getD_of hy]
              split
              · omega
              · exact ih (by omega)
          exact key _ (Nat.le_refl _)
        rw [msN]
        unfold mxI
        split <;> omega
    exact this _ (Nat.le_refl _)
  generalize hsn : sourF k (pkT us (2 * i + 2) x.al x.ah + nowT us l o (i + 1)) = sn at *
  have ms0 : 0 ≤ msN l o o.length := by omega
  have c0 : ((2 * i + 1 : Nat) : Int) = 2 * (i : Int) + 1 := by omega
  rw [c0] at w1
  have a1 := lt_ix hi
  have a2 := up_ix hi (by omega)
  have k1 : (0 ≤ v) = True := eq_true (by omega)
  have k2 : (v < (l.ls.length : Int)) = True := eq_true (by omega)
  have k3 : (v < 0) = False := eq_false (by omega)
  have k4 : (v ≥ (l.ls.length : Int)) = False := eq_false (by omega)
  have k4' : ((l.ls.length : Int) ≤ v) = False := eq_false (by omega)
  have k5 : (0 ≤ x.k) = True := eq_true (by omega)
  have k6 : (x.k < (l.ks.length : Int)) = True := eq_true (by omega)
  have q0 : IntKind.i64.wrap (2 * (i : Int)) = 2 * (i : Int) := wrap_ok (by omega) (by omega)
  have q1 : IntKind.i64.wrap (2 * (i : Int) + 1) = 2 * (i : Int) + 1 := wrap_ok (by omega) (by omega)
  have q3 : IntKind.i64.wrap (nowT us l o i + pkT us (2 * i + 1) x.cl x.ch) = nowT us l o (i + 1) := by rw [← f5]; exact wrap_ok (by omega) (by omega)
  have q4 : IntKind.i64.wrap (c - sn) = c - sn := wrap_ok (by omega) (by omega)
  have q5 : IntKind.i64.wrap (tt - r) = tt - r := wrap_ok (by omega) (by omega)
  have q6 : IntKind.i64.wrap (tt - r - msN l o o.length) = tt - r - msN l o o.length := wrap_ok (by omega) (by omega)
  have d1 : (c - sn < tt - r - msN l o o.length) = False := eq_false (by omega)
  have z := UX (n := (k.length : Int))
  clear f2 f5 f6 h5 h2 m2 sb sbn hb b1 nb1 nb2 bd1 bd2 hsn ms0 msb
  generalize nowT us l o (i + 1) = nt at *
  generalize nowT us l o i = n0 at *
  generalize pkT us (2 * i + 1) x.cl x.ch = pa at *
  generalize pkT us (2 * i + 2) x.al x.ah = pb at *
  generalize hmm : pb + nt = mm at *
  generalize msN l o o.length = mw at *
  generalize hcs : c - sn = v1 at *
  generalize htr : tt - r = v2 at *
  generalize hv3 : v2 - mw = v3 at *
  unfold x4l3
  dsimp only
  sym =>
    simp [irem2,iquo2,remF,Za,Zb,Zc,Zf,Zg,Zh,Zi,Zj,Zl,Zm,Zo,Zq,Zt,Zu,Zw,Z1,Z5,Z7,ZB,ZD,ZE,ZG,ZH,ZI,ZL,ZM,ZQ,ZR,ZT,ZX,ZZ,Yc,Ye,Yf,Yh,Yi,Yj,Yq,Yt,Yu,Yv,Y3,YQ,YT,YV,YX,YY,Xc,Xe,Xo,Xq,Xs,Xt,Xu,Xy,Wo,Wz,W0,W3,W4,W5,W6,W7,W8,WA,WB,WC,WE,WF,WG,WI,WJ,WK,WL,WM,WN,WO,WP,WQ,WR,WS,WT,WU,WW,WX,Vc,Vf,Vg,Vh,Vi,Vs,Vu,Vv,Vx,Vy,V0,VM,VN,VO,VP,VQ,VR,VS,VV,VW,VX,VY,VZ,Ub,Uc,Ud,Ue,Uf,Ug,Uj,Us,Uw,Ux,Uy,U1,U2,U3,U4,U5,U6,U7,UE,UX,UY,UZ,Ta,Tb,Tc,Td,Te,Tf,Tn,Tp,Tr,Ts,Tt,Tu,Tv,Tx,Tz,T0,T1,T2,T4,T5,T6,Sy,Sz,S6,a1,hv,h1,h4,k1,k2,k3,k4,k4',k5,k6,q0,q1,q3,w1]
    tactic =>
      unfold x4l2
      rw [loop_rule k.length (fun j => [.pt 0 0,.sl 1 0 1 l.ls.length,.sl 2 0 1 l.ls.length,.sl 3 0 1 l.ls.length,I mw,cl30,I nt,I (i : Nat),I v,.pt 5 0,I (soN k mm j),rI o,I o.length,I (i : Nat),rS k,I k.length,I (j : Nat)]) (fun j => hT5 l.c cs ts rs us x)]
      · rw [sf]
        (sym => (simp [irem2,iquo2,remF,Za,Zb,Zc,Zf,Zg,Zh,Zi,Zj,Zl,Zm,Zo,Zq,Zt,Zu,Zw,Z1,Z5,Z7,ZB,ZD,ZE,ZG,ZH,ZI,ZL,ZM,ZQ,ZR,ZT,ZX,ZZ,Yc,Ye,Yf,Yh,Yi,Yj,Yq,Yt,Yu,Yv,Y3,YQ,YT,YV,YX,YY,Xc,Xe,Xo,Xq,Xs,Xt,Xu,Xy,Wo,Wz,W0,W3,W4,W5,W6,W7,W8,WA,WB,WC,WE,WF,WG,WI,WJ,WK,WL,WM,WN,WO,WP,WQ,WR,WS,WT,WU,WW,WX,Vc,Vf,Vg,Vh,Vi,Vs,Vu,Vv,Vx,Vy,V0,VM,VN,VO,VP,VQ,VR,VS,VV,VW,VX,VY,VZ,Ub,Uc,Ud,Ue,Uf,Ug,Uj,Us,Uw,Ux,Uy,U1,U2,U3,U4,U5,U6,U7,UE,UX,UY,UZ,Ta,Tb,Tc,Td,Te,Tf,Tn,Tp,Tr,Ts,Tt,Tu,Tv,Tx,Tz,T0,T1,T2,T4,T5,T6,Sy,Sz,S6,z,a2,k1,k2,lc,lt,lr,hc,ht,hrr,hcs,htr,hv3,q4,q5,q6,d1]; all_goals tactic => exact rfl))
      · rw [s0]
        (sym => (simp [irem2,iquo2,remF,Za,Zb,Zc,Zf,Zg,Zh,Zi,Zj,Zl,Zm,Zo,Zq,Zt,Zu,Zw,Z1,Z5,Z7,ZB,ZD,ZE,ZG,ZH,ZI,ZL,ZM,ZQ,ZR,ZT,ZX,ZZ,Yc,Ye,Yf,Yh,Yi,Yj,Yq,Yt,Yu,Yv,Y3,YQ,YT,YV,YX,YY,Xc,Xe,Xo,Xq,Xs,Xt,Xu,Xy,Wo,Wz,W0,W3,W4,W5,W6,W7,W8,WA,WB,WC,WE,WF,WG,WI,WJ,WK,WL,WM,WN,WO,WP,WQ,WR,WS,WT,WU,WW,WX,Vc,Vf,Vg,Vh,Vi,Vs,Vu,Vv,Vx,Vy,V0,VM,VN,VO,VP,VQ,VR,VS,VV,VW,VX,VY,VZ,Ub,Uc,Ud,Ue,Uf,Ug,Uj,Us,Uw,Ux,Uy,U1,U2,U3,U4,U5,U6,U7,UE,UX,UY,UZ,Ta,Tb,Tc,Td,Te,Tf,Tn,Tp,Tr,Ts,Tt,Tu,Tv,Tx,Tz,T0,T1,T2,T4,T5,T6,Sy,Sz,S6]; all_goals tactic => exact rfl))
      · exact rd
      · (sym => (simp [irem2,iquo2,remF,Za,Zb,Zc,Zf,Zg,Zh,Zi,Zj,Zl,Zm,Zo,Zq,Zt,Zu,Zw,Z1,Z5,Z7,ZB,ZD,ZE,ZG,ZH,ZI,ZL,ZM,ZQ,ZR,ZT,ZX,ZZ,Yc,Ye,Yf,Yh,Yi,Yj,Yq,Yt,Yu,Yv,Y3,YQ,YT,YV,YX,YY,Xc,Xe,Xo,Xq,Xs,Xt,Xu,Xy,Wo,Wz,W0,W3,W4,W5,W6,W7,W8,WA,WB,WC,WE,WF,WG,WI,WJ,WK,WL,WM,WN,WO,WP,WQ,WR,WS,WT,WU,WW,WX,Vc,Vf,Vg,Vh,Vi,Vs,Vu,Vv,Vx,Vy,V0,VM,VN,VO,VP,VQ,VR,VS,VV,VW,VX,VY,VZ,Ub,Uc,Ud,Ue,Uf,Ug,Uj,Us,Uw,Ux,Uy,U1,U2,U3,U4,U5,U6,U7,UE,UX,UY,UZ,Ta,Tb,Tc,Td,Te,Tf,Tn,Tp,Tr,Ts,Tt,Tu,Tv,Tx,Tz,T0,T1,T2,T4,T5,T6,Sy,Sz,S6,z]; all_goals tactic => exact rfl))
end
end Go.Proofs.YtpbeclkpohehgaaDoor
namespace Go.Proofs.YtpbeclkpohehgaaDoor
open Go Go.DL
set_option maxRecDepth 100000
set_option maxHeartbeats 4000000
abbrev rF (fs : List P4) : AV := .fs (fs.map P4.row)
def ldQ (x : P4) : Ld := ⟨((x.b % 2 : Nat) : Int),(x.a : Int),(x.a : Int) + ((x.d % 30 : Nat) : Int),1 + ((x.c % 60 : Nat) : Int),1 + ((x.c % 60 : Nat) : Int) + ((x.d % 20 : Nat) : Int)⟩
def tpN (sw : List Int) : Nat → Int
  | 0 => sw.getD 0 0
  | j + 1 => mxI (tpN sw j) (sw.getD j 0)

abbrev hC0 (us : List Nat) (ld : Nat → Ld) (cF tF rF : Nat → Int) : XH := [cB8 us,some (.blk false (.cells true [.sl 2 0 1 2,.nilsl,.nilsl,I 0,I 20])),some (.blk false (.cells true [.sl 3 0 2 3,.sl 4 0 2 1])),some (.blk true (.cells true [I 30,I 100,I 120,I 300,I 400,I 900])),some (.blk true (.cells true [I 200,I 50]))]
abbrev hC1 (us : List Nat) (ld : Nat → Ld) (cF tF rF : Nat → Int) : XH := [cB8 us,some (.blk false (.cells true [.sl 2 0 1 2,.sl 5 0 5 1,.nilsl,I 0,I 20])),some (.blk false (.cells true [.sl 3 0 2 3,.sl 4 0 2 1])),some (.blk true (.cells true [I 30,I 100,I 120,I 300,I 400,I 900])),some (.blk true (.cells true [I 200,I 50])),some (.blk true (.cells true [I (ld 0).k,I (ld 0).al,I (ld 0).ah,I (ld 0).cl,I (ld 0).ch])),some (.blk true (.cells true [I (cF 0)])),some (.blk true (.cells true [I (tF 0)])),some (.blk true (.cells true [I (rF 0)]))]
abbrev hC1z (us : List Nat) (ld : Nat → Ld) (cF tF rF : Nat → Int) : XH := [cB8 us,some (.blk false (.cells true [.sl 2 0 1 2,.sl 5 0 5 1,.sl 6 0 1 1,I 0,I 20])),some (.blk false (.cells true [.sl 3 0 2 3,.sl 4 0 2 1])),some (.blk true (.cells true [I 30,I 100,I 120,I 300,I 400,I 900])),some (.blk true (.cells true [I 200,I 50])),some (.blk true (.cells true [I (ld 0).k,I (ld 0).al,I (ld 0).ah,I (ld 0).cl,I (ld 0).ch])),some (.blk false (.cells true [.sl 7 0 1 1])),some (.blk true (.cells true [I 0])),some (.blk true (.cells true [I (cF 0)])),some (.blk true (.cells true [I (tF 0)])),some (.blk true (.cells true [I (rF 0)]))]
abbrev hC2 (us : List Nat) (ld : Nat → Ld) (cF tF rF : Nat → Int) : XH := [cB8 us,some (.blk false (.cells true [.sl 2 0 1 2,.sl 5 0 5 2,.sl 6 0 1 1,I 0,I 20])),some (.blk false (.cells true [.sl 3 0 2 3,.sl 4 0 2 1])),some (.blk true (.cells true [I 30,I 100,I 120,I 300,I 400,I 900])),some (.blk true (.cells true [I 200,I 50])),some (.blk true (.cells true [I (ld 0).k,I (ld 0).al,I (ld 0).ah,I (ld 0).cl,I (ld 0).ch,I (ld 1).k,I (ld 1).al,I (ld 1).ah,I (ld 1).cl,I (ld 1).ch])),some (.blk false (.cells true [.sl 7 0 1 2])),some (.blk true (.cells true [I 0,I 1])),some (.blk true (.cells true [I (cF 0),I (cF 1)])),some (.blk true (.cells true [I (tF 0),I (tF 1)])),some (.blk true (.cells true [I (rF 0),I (rF 1)]))]
abbrev hC3 (us : List Nat) (ld : Nat → Ld) (cF tF rF : Nat → Int) : XH := [cB8 us,some (.blk false (.cells true [.sl 2 0 1 2,.sl 5 0 5 3,.sl 6 0 1 1,I 0,I 20])),some (.blk false (.cells true [.sl 3 0 2 3,.sl 4 0 2 1])),some (.blk true (.cells true [I 30,I 100,I 120,I 300,I 400,I 900])),some (.blk true (.cells true [I 200,I 50])),some (.blk true (.cells true [I (ld 0).k,I (ld 0).al,I (ld 0).ah,I (ld 0).cl,I (ld 0).ch,I (ld 1).k,I (ld 1).al,I (ld 1).ah,I (ld 1).cl,I (ld 1).ch,I (ld 2).k,I (ld 2).al,I (ld 2).ah,I (ld 2).cl,I (ld 2).ch])),some (.blk false (.cells true [.sl 7 0 1 2])),some (.blk true (.cells true [I 0,I 1])),some (.blk true (.cells true [I (cF 0),I (cF 1),I (cF 2)])),some (.blk true (.cells true [I (tF 0),I (tF 1),I (tF 2)])),some (.blk true (.cells true [I (rF 0),I (rF 1),I (rF 2)]))]
abbrev hC3z (us : List Nat) (ld : Nat → Ld) (cF tF rF : Nat → Int) : XH := [cB8 us,some (.blk false (.cells true [.sl 2 0 1 2,.sl 5 0 5 3,.sl 6 0 1 2,I 0,I 20])),some (.blk false (.cells true [.sl 3 0 2 3,.sl 4 0 2 1])),some (.blk true (.cells true [I 30,I 100,I 120,I 300,I 400,I 900])),some (.blk true (.cells true [I 200,I 50])),some (.blk true (.cells true [I (ld 0).k,I (ld 0).al,I (ld 0).ah,I (ld 0).cl,I (ld 0).ch,I (ld 1).k,I (ld 1).al,I (ld 1).ah,I (ld 1).cl,I (ld 1).ch,I (ld 2).k,I (ld 2).al,I (ld 2).ah,I (ld 2).cl,I (ld 2).ch])),some (.blk false (.cells true [.sl 7 0 1 2,.sl 8 0 1 1])),some (.blk true (.cells true [I 0,I 1])),some (.blk true (.cells true [I 2])),some (.blk true (.cells true [I (cF 0),I (cF 1),I (cF 2)])),some (.blk true (.cells true [I (tF 0),I (tF 1),I (tF 2)])),some (.blk true (.cells true [I (rF 0),I (rF 1),I (rF 2)]))]
abbrev hC4 (us : List Nat) (ld : Nat → Ld) (cF tF rF : Nat → Int) : XH := [cB8 us,some (.blk false (.cells true [.sl 2 0 1 2,.sl 5 0 5 4,.sl 6 0 1 2,I 0,I 20])),some (.blk false (.cells true [.sl 3 0 2 3,.sl 4 0 2 1])),some (.blk true (.cells true [I 30,I 100,I 120,I 300,I 400,I 900])),some (.blk true (.cells true [I 200,I 50])),some (.blk true (.cells true [I (ld 0).k,I (ld 0).al,I (ld 0).ah,I (ld 0).cl,I (ld 0).ch,I (ld 1).k,I (ld 1).al,I (ld 1).ah,I (ld 1).cl,I (ld 1).ch,I (ld 2).k,I (ld 2).al,I (ld 2).ah,I (ld 2).cl,I (ld 2).ch,I (ld 3).k,I (ld 3).al,I (ld 3).ah,I (ld 3).cl,I (ld 3).ch])),some (.blk false (.cells true [.sl 7 0 1 2,.sl 8 0 1 2])),some (.blk true (.cells true [I 0,I 1])),some (.blk true (.cells true [I 2,I 3])),some (.blk true (.cells true [I (cF 0),I (cF 1),I (cF 2),I (cF 3)])),some (.blk true (.cells true [I (tF 0),I (tF 1),I (tF 2),I (tF 3)])),some (.blk true (.cells true [I (rF 0),I (rF 1),I (rF 2),I (rF 3)]))]
abbrev hC5z (us : List Nat) (ld : Nat → Ld) (cF tF rF : Nat → Int) : XH := [cB8 us,some (.blk false (.cells true [.sl 2 0 1 2,.sl 5 0 5 5,.sl 6 0 1 3,I 0,I 20])),some (.blk false (.cells true [.sl 3 0 2 3,.sl 4 0 2 1])),some (.blk true (.cells true [I 30,I 100,I 120,I 300,I 400,I 900])),some (.blk true (.cells true [I 200,I 50])),some (.blk true (.cells true [I (ld 0).k,I (ld 0).al,I (ld 0).ah,I (ld 0).cl,I (ld 0).ch,I (ld 1).k,I (ld 1).al,I (ld 1).ah,I (ld 1).cl,I (ld 1).ch,I (ld 2).k,I (ld 2).al,I (ld 2).ah,I (ld 2).cl,I (ld 2).ch,I (ld 3).k,I (ld 3).al,I (ld 3).ah,I (ld 3).cl,I (ld 3).ch,I (ld 4).k,I (ld 4).al,I (ld 4).ah,I (ld 4).cl,I (ld 4).ch])),some (.blk false (.cells true [.sl 7 0 1 2,.sl 8 0 1 2,.sl 9 0 1 1])),some (.blk true (.cells true [I 0,I 1])),some (.blk true (.cells true [I 2,I 3])),some (.blk true (.cells true [I 4])),some (.blk true (.cells true [I (cF 0),I (cF 1),I (cF 2),I (cF 3),I (cF 4)])),some (.blk true (.cells true [I (tF 0),I (tF 1),I (tF 2),I (tF 3),I (tF 4)])),some (.blk true (.cells true [I (rF 0),I (rF 1),I (rF 2),I (rF 3),I (rF 4)]))]
theorem wr_u8 {a : Nat} (h : a < 256) (m : Nat) (hm : 0 < m) : tmZ (a : Int) (m : Int) = ((a % m : Nat) : Int) ∧ a % m < m := ⟨tmod_n a m,Nat.mod_lt _ hm⟩
section
variable {us : List Nat} {ld : Nat → Ld} {cF tF rF' : Nat → Int} {fs ls : List P4}
theorem round4b0 {sw : List Int} {wk r : Int} {j : Nat} (hj : j < sw.length) (hl : sw.length ≤ 6) :
    headX 0 [0,1,5,7,8,9,10,11,13,14,15,19,131,132,133] (execW progX 4 0 none (match x4l0 with | .loop _ a => a | c => c) (envL [0,1,5,7,8,9,10,11,13,14,15,19,131,132,133] [rF fs,rF ls,.pt 0 0,.pt 1 0,.nilsl,.nilsl,.nilsl,I 0,rI sw,I wk,I r,I (tpN sw j),rI sw,I sw.length,I (j : Nat)]) (hC0 us ld cF tF rF')) = some ([rF fs,rF ls,.pt 0 0,.pt 1 0,.nilsl,.nilsl,.nilsl,I 0,rI sw,I wk,I r,I (tpN sw (j + 1)),rI sw,I sw.length,I (j + 1 : Nat)],hC0 us ld cF tF rF') := by
  obtain ⟨v,hv⟩ := at_ix hj
  have a1 := lt_ix hj
  have a2 := up_ix hj (by omega)
  rw [tpN,getD_of hv]
  generalize tpN sw j = m at *
  unfold mxI
  unfold x4l0
  dsimp only
  rcases ptf (v > m) with g | g
  · simp only [g,if_true]
    (sym => (simp [irem2,iquo2,remF,Za,Zb,Zf,Zh,Zl,Zm,Zt,Z1,Z7,ZC,ZD,Ye,Yf,Yh,Yq,Yu,Yv,YG,YQ,YV,YX,YY,Xa,Xo,Xs,Xt,Xu,Xw,Wz,WA,WB,WC,WF,WG,WI,WJ,WK,WM,WO,WP,WQ,WR,WW,WX,WY,Vc,Vd,VM,VN,VO,VP,VQ,VV,VW,VX,VY,VZ,Ub,Uc,Ud,Ue,Uf,Ug,Us,Uw,Ux,U2,U3,U4,U5,Ta,Tb,Td,Tn,Tp,Tr,Tt,Tu,Tx,T0,T1,T2,T6,a1,a2,hv,g]; all_goals tactic => exact rfl))
  · simp only [g,if_false]
    (sym => (simp [irem2,iquo2,remF,Za,Zb,Zf,Zh,Zl,Zm,Zt,Z1,Z7,ZC,ZD,Ye,Yf,Yh,Yq,Yu,Yv,YG,YQ,YV,YX,YY,Xa,Xo,Xs,Xt,Xu,Xw,Wz,WA,WB,WC,WF,WG,WI,WJ,WK,WM,WO,WP,WQ,WR,WW,WX,WY,Vc,Vd,VM,VN,VO,VP,VQ,VV,VW,VX,VY,VZ,Ub,Uc,Ud,Ue,Uf,Ug,Us,Uw,Ux,U2,U3,U4,U5,Ta,Tb,Td,Tn,Tp,Tr,Tt,Tu,Tx,T0,T1,T2,T6,a1,a2,hv,g]; all_goals tactic => exact rfl))
theorem round4b1 {sw : List Int} {wk r : Int} {j : Nat} (hj : j < sw.length) (hl : sw.length ≤ 6) :
    headX 0 [0,1,5,7,8,9,10,11,13,14,15,19,131,132,133] (execW progX 4 0 none (match x4l0 with | .loop _ a => a | c => c) (envL [0,1,5,7,8,9,10,11,13,14,15,19,131,132,133] [rF fs,rF ls,.pt 0 0,.pt 1 0,.sl 6 0 1 1,.sl 7 0 1 1,.sl 8 0 1 1,I 1,rI sw,I wk,I r,I (tpN sw j),rI sw,I sw.length,I (j : Nat)]) (hC1 us ld cF tF rF')) = some ([rF fs,rF ls,.pt 0 0,.pt 1 0,.sl 6 0 1 1,.sl 7 0 1 1,.sl 8 0 1 1,I 1,rI sw,I wk,I r,I (tpN sw (j + 1)),rI sw,I sw.length,I (j + 1 : Nat)],hC1 us ld cF tF rF') := by
  obtain ⟨v,hv⟩ := at_ix hj
  have a1 := lt_ix hj
  have a2 := up_ix hj (by omega)
  rw [tpN,getD_of hv]
  generalize tpN sw j = m at *
  unfold mxI
  unfold x4l0
  dsimp only
  rcases ptf (v > m) with g | g
  · simp only [g,if_true]
    (sym => (simp [irem2,iquo2,remF,Za,Zb,Zf,Zh,Zl,Zm,Zt,Z1,Z7,ZC,ZD,Ye,Yf,Yh,Yq,Yu,Yv,YG,YQ,YV,YX,YY,Xa,Xo,Xs,Xt,Xu,Xw,Wz,WA,WB,WC,WF,WG,WI,WJ,WK,WM,WO,WP,WQ,WR,WW,WX,WY,Vc,Vd,VM,VN,VO,VP,VQ,VV,VW,VX,VY,VZ,Ub,Uc,Ud,Ue,Uf,Ug,Us,Uw,Ux,U2,U3,U4,U5,Ta,Tb,Td,Tn,Tp,Tr,Tt,Tu,Tx,T0,T1,T2,T6,a1,a2,hv,g]; all_goals tactic => exact rfl))
  · simp only [g,if_false]
    (sym => (simp [irem2,iquo2,remF,Za,Zb,Zf,Zh,Zl,Zm,Zt,Z1,Z7,ZC,ZD,Ye,Yf,Yh,Yq,Yu,Yv,YG,YQ,YV,YX,YY,Xa,Xo,Xs,Xt,Xu,Xw,Wz,WA,WB,WC,WF,WG,WI,WJ,WK,WM,WO,WP,WQ,WR,WW,WX,WY,Vc,Vd,VM,VN,VO,VP,VQ,VV,VW,VX,VY,VZ,Ub,Uc,Ud,Ue,Uf,Ug,Us,Uw,Ux,U2,U3,U4,U5,Ta,Tb,Td,Tn,Tp,Tr,Tt,Tu,Tx,T0,T1,T2,T6,a1,a2,hv,g]; all_goals tactic => exact rfl))
theorem round4b2 {sw : List Int} {wk r : Int} {j : Nat} (hj : j < sw.length) (hl : sw.length ≤ 6) :
    headX 0 [0,1,5,7,8,9,10,11,13,14,15,19,131,132,133] (execW progX 4 0 none (match x4l0 with | .loop _ a => a | c => c) (envL [0,1,5,7,8,9,10,11,13,14,15,19,131,132,133] [rF fs,rF ls,.pt 0 0,.pt 1 0,.sl 8 0 1 2,.sl 9 0 1 2,.sl 10 0 1 2,I 2,rI sw,I wk,I r,I (tpN sw j),rI sw,I sw.length,I (j : Nat)]) (hC2 us ld cF tF rF')) = some ([rF fs,rF ls,.pt 0 0,.pt 1 0,.sl 8 0 1 2,.sl 9 0 1 2,.sl 10 0 1 2,I 2,rI sw,I wk,I r,I (tpN sw (j + 1)),rI sw,I sw.length,I (j + 1 : Nat)],hC2 us ld cF tF rF') := by
  obtain ⟨v,hv⟩ := at_ix hj
  have a1 := lt_ix hj
  have a2 := up_ix hj (by omega)
  rw [tpN,getD_of hv]
  generalize tpN sw j = m at *
  unfold mxI
  unfold x4l0
  dsimp only
  rcases ptf (v > m) with g | g
  · simp only [g,if_true]
    (sym => (simp [irem2,iquo2,remF,Za,Zb,Zf,Zh,Zl,Zm,Zt,Z1,Z7,ZC,ZD,Ye,Yf,Yh,Yq,Yu,Yv,YG,YQ,YV,YX,YY,Xo,Xs,Xt,Xu,Wz,WA,WB,WC,WF,WG,WI,WJ,WK,WM,WO,WP,WQ,WR,WW,WX,WY,Vc,Vd,VM,VN,VO,VP,VQ,VV,VW,VX,VY,VZ,Ub,Uc,Ud,Ue,Uf,Ug,Us,Uw,Ux,U2,U3,U4,U5,Ta,Tb,Td,Tn,Tp,Tr,Tt,Tu,Tx,T0,T1,T2,T6,a1,a2,hv,g]; all_goals tactic => exact rfl))
  · simp only [g,if_false]
    (sym => (simp [irem2,iquo2,remF,Za,Zb,Zf,Zh,Zl,Zm,Zt,Z1,Z7,ZC,ZD,Ye,Yf,Yh,Yq,Yu,Yv,YG,YQ,YV,YX,YY,Xo,Xs,Xt,Xu,Wz,WA,WB,WC,WF,WG,WI,WJ,WK,WM,WO,WP,WQ,WR,WW,WX,WY,Vc,Vd,VM,VN,VO,VP,VQ,VV,VW,VX,VY,VZ,Ub,Uc,Ud,Ue,Uf,Ug,Us,Uw,Ux,U2,U3,U4,U5,Ta,Tb,Td,Tn,Tp,Tr,Tt,Tu,Tx,T0,T1,T2,T6,a1,a2,hv,g]; all_goals tactic => exact rfl))
theorem round4b3 {sw : List Int} {wk r : Int} {j : Nat} (hj : j < sw.length) (hl : sw.length ≤ 6) :
    headX 0 [0,1,5,7,8,9,10,11,13,14,15,19,131,132,133] (execW progX 4 0 none (match x4l0 with | .loop _ a => a | c => c) (envL [0,1,5,7,8,9,10,11,13,14,15,19,131,132,133] [rF fs,rF ls,.pt 0 0,.pt 1 0,.sl 8 0 1 3,.sl 9 0 1 3,.sl 10 0 1 3,I 3,rI sw,I wk,I r,I (tpN sw j),rI sw,I sw.length,I (j : Nat)]) (hC3 us ld cF tF rF')) = some ([rF fs,rF ls,.pt 0 0,.pt 1 0,.sl 8 0 1 3,.sl 9 0 1 3,.sl 10 0 1 3,I 3,rI sw,I wk,I r,I (tpN sw (j + 1)),rI sw,I sw.length,I (j + 1 : Nat)],hC3 us ld cF tF rF') := by
  obtain ⟨v,hv⟩ := at_ix hj
  have a1 := lt_ix hj
  have a2 := up_ix hj (by omega)
  rw [tpN,getD_of hv]
  generalize tpN sw j = m at *
  unfold mxI
  unfold x4l0
  dsimp only
  rcases ptf (v > m) with g | g
  · simp only [g,if_true]
    (sym => (simp [irem2,iquo2,remF,Za,Zb,Zf,Zh,Zl,Zm,Zt,Z1,Z7,ZC,ZD,Ye,Yf,Yh,Yq,Yu,Yv,YG,YQ,YV,YX,YY,Xo,Xs,Xt,Xu,Wz,WA,WB,WC,WF,WG,WI,WJ,WK,WM,WO,WP,WQ,WR,WW,WX,WY,Vc,Vd,VM,VN,VO,VP,VQ,VV,VW,VX,VY,VZ,Ub,Uc,Ud,Ue,Uf,Ug,Us,Uw,Ux,U2,U3,U4,U5,Ta,Tb,Td,Tn,Tp,Tr,Tt,Tu,Tx,T0,T1,T2,T6,a1,a2,hv,g]; all_goals tactic => exact rfl))
  · simp only [g,if_false]
    (sym => (simp [irem2,iquo2,remF,Za,Zb,Zf,Zh,Zl,Zm,Zt,Z1,Z7,ZC,ZD,Ye,Yf,Yh,Yq,Yu,Yv,YG,YQ,YV,YX,YY,Xo,Xs,Xt,Xu,Wz,WA,WB,WC,WF,WG,WI,WJ,WK,WM,WO,WP,WQ,WR,WW,WX,WY,Vc,Vd,VM,VN,VO,VP,VQ,VV,VW,VX,VY,VZ,Ub,Uc,Ud,Ue,Uf,Ug,Us,Uw,Ux,U2,U3,U4,U5,Ta,Tb,Td,Tn,Tp,Tr,Tt,Tu,Tx,T0,T1,T2,T6,a1,a2,hv,g]; all_goals tactic => exact rfl))
theorem round4b4 {sw : List Int} {wk r : Int} {j : Nat} (hj : j < sw.length) (hl : sw.length ≤ 6) :
    headX 0 [0,1,5,7,8,9,10,11,13,14,15,19,131,132,133] (execW progX 4 0 none (match x4l0 with | .loop _ a => a | c => c) (envL [0,1,5,7,8,9,10,11,13,14,15,19,131,132,133] [rF fs,rF ls,.pt 0 0,.pt 1 0,.sl 9 0 1 4,.sl 10 0 1 4,.sl 11 0 1 4,I 4,rI sw,I wk,I r,I (tpN sw j),rI sw,I sw.length,I (j : Nat)]) (hC4 us ld cF tF rF')) = some ([rF fs,rF ls,.pt 0 0,.pt 1 0,.sl 9 0 1 4,.sl 10 0 1 4,.sl 11 0 1 4,I 4,rI sw,I wk,I r,I (tpN sw (j + 1)),rI sw,I sw.length,I (j + 1 : Nat)],hC4 us ld cF tF rF') := by
  obtain ⟨v,hv⟩ := at_ix hj
  have a1 := lt_ix hj
  have a2 := up_ix hj (by omega)
  rw [tpN,getD_of hv]
  generalize tpN sw j = m at *
  unfold mxI
  unfold x4l0
  dsimp only
  rcases ptf (v > m) with g | g
  · simp only [g,if_true]
    (sym => (simp [irem2,iquo2,remF,Za,Zb,Zf,Zh,Zl,Zm,Zt,Z1,Z7,ZC,ZD,Ye,Yf,Yh,Yq,Yu,Yv,YG,YQ,YV,YX,YY,Xo,Xs,Xt,Xu,Wz,WA,WB,WC,WF,WG,WI,WJ,WK,WM,WO,WP,WQ,WR,WW,WX,WY,Vc,Vd,VM,VN,VO,VP,VQ,VV,VW,VX,VY,VZ,Ub,Uc,Ud,Ue,Uf,Ug,Us,Uw,Ux,U2,U3,U4,U5,Ta,Tb,Td,Tn,Tp,Tr,Tt,Tu,Tx,T0,T1,T2,T6,a1,a2,hv,g]; all_goals tactic => exact rfl))
  · simp only [g,if_false]
    (sym => (simp [irem2,iquo2,remF,Za,Zb,Zf,Zh,Zl,Zm,Zt,Z1,Z7,ZC,ZD,Ye,Yf,Yh,Yq,Yu,Yv,YG,YQ,YV,YX,YY,Xo,Xs,Xt,Xu,Wz,WA,WB,WC,WF,WG,WI,WJ,WK,WM,WO,WP,WQ,WR,WW,WX,WY,Vc,Vd,VM,VN,VO,VP,VQ,VV,VW,VX,VY,VZ,Ub,Uc,Ud,Ue,Uf,Ug,Us,Uw,Ux,U2,U3,U4,U5,Ta,Tb,Td,Tn,Tp,Tr,Tt,Tu,Tx,T0,T1,T2,T6,a1,a2,hv,g]; all_goals tactic => exact rfl))
theorem round4c0 (hN : ls.length ≤ 9223372036854775807) {y x : P4} {wk q : Nat} {r c : Int} {sw : List Int} {L : List Sp} {ss : List Sm} {e : Sp}
    (hq : fs[q]? = some y) (hqm : tmZ 0 (fs.length : Int) = (q : Int)) (hnf : fs.length ≠ 0) (hx : ls[0]? = some x) (hxo : x.Ok)
    (e26 : runW progX 26 [.agg y.row] [] = some (.tup [.agg (fdC ss),rI sw],[])) (e27 : runW progX 27 [.agg (fdC ss)] [] = some (.tup [I (wk : Nat),I r,I 0],[])) (e28 : runW progX 28 [.agg (fdC ss)] [] = some (.tup [sR L,I 0],[]))
    (hsw : sw.length = 6) (hL : L.length = 6) (hwk : wk < 6) (hc : sw[wk]? = some c) (he : L[wk]? = some e) (he1 : e.lo ≤ c) (he2 : c ≤ e.hi)
    (hld : ld 0 = ldQ x) (hcF : cF 0 = c) (htF : tF 0 = tpN sw 6) (hrF : rF' 0 = r) (hlast : ls.length ≠ 1) :
    headX 0 [0,1,5,7,8,9,10,11] (execW progX 4 0 none (match x4l1 with | .loop _ a => a | c => c) (envL [0,1,5,7,8,9,10,11] [rF fs,rF ls,.pt 0 0,.pt 1 0,.nilsl,.nilsl,.nilsl,I 0]) (hC0 us ld cF tF rF')) = some ([rF fs,rF ls,.pt 0 0,.pt 1 0,.sl 6 0 1 1,.sl 7 0 1 1,.sl 8 0 1 1,I 1],hC1 us ld cF tF rF') := by
  have hxl := lt_of hx
  have a1 : ((0 : Int) < (ls.length : Int)) = True := eq_true (by omega)
  have c1 : ((fs.length : Int) = 0) = False := eq_false (by omega)
  have k1 : (0 ≤ (q : Int)) = True := eq_true (by omega)
  have k2 : ((q : Int) < (fs.length : Int)) = True := eq_true (by have := lt_of hq; omega)
  have k3 : (0 ≤ (wk : Int)) = True := eq_true (by omega)
  have k4 : ((wk : Int) < (sw.length : Int)) = True := eq_true (by omega)
  have k5 : ((wk : Int) < 0) = False := eq_false (by omega)
  have k6 : ((sw.length : Int) ≤ (wk : Int)) = False := eq_false (by omega)
  have k7 : ((0 : Int) < (sw.length : Int)) = True := eq_true (by omega)
  have hLs : L.length = sw.length := by omega
  have d1 : (c < e.lo) = False := eq_false (by omega)
  have d2 : (e.hi < c) = False := eq_false (by omega)
  obtain ⟨s0,sw0⟩ := at_ix (l := sw) (i := 0) (by omega)
  have t0 : tpN sw 0 = s0 := by rw [tpN,getD_of sw0]
  have tn : tpN sw sw.length = tF 0 := by rw [hsw,htF]
  have rd := fun j (hj : j < sw.length) => round4b0 (us := us) (ld := ld) (cF := cF) (tF := tF) (rF' := rF') (fs := fs) (ls := ls) (wk := (wk : Int)) (r := r) hj (by omega)
  have z := UX (n := (sw.length : Int))
  have b1 := wr8 hxo.a
  have b2 := wr8 hxo.b
  have b3 := wr8 hxo.c
  have b4 := wr8 hxo.d
  obtain ⟨m1,n1⟩ := wr_u8 hxo.c 60 (by decide)
  obtain ⟨m2,n2⟩ := wr_u8 hxo.b 2 (by decide)
  obtain ⟨m3,n3⟩ := wr_u8 hxo.d 30 (by decide)
  obtain ⟨m4,n4⟩ := wr_u8 hxo.d 20 (by decide)
  have xa := hxo.a
  have l1 : (ld 0).k = ((x.b % 2 : Nat) : Int) := by rw [hld]; rfl
  have l2 : (ld 0).al = (x.a : Int) := by rw [hld]; rfl
  have l3 : (ld 0).ah = (x.a : Int) + ((x.d % 30 : Nat) : Int) := by rw [hld]; rfl
  have l4 : (ld 0).cl = 1 + ((x.c % 60 : Nat) : Int) := by rw [hld]; rfl
  have l5 : (ld 0).ch = 1 + ((x.c % 60 : Nat) : Int) + ((x.d % 20 : Nat) : Int) := by rw [hld]; rfl
  have q1 : IntKind.i64.wrap (1 + ((x.c % 60 : Nat) : Int)) = (ld 0).cl := by rw [l4]; exact wrap_ok (by omega) (by omega)
  have q2 : IntKind.i64.wrap ((ld 0).al + ((x.d % 30 : Nat) : Int)) = (ld 0).ah := by rw [l2,l3]; exact wrap_ok (by omega) (by omega)
  have q3 : IntKind.i64.wrap ((ld 0).cl + ((x.d % 20 : Nat) : Int)) = (ld 0).ch := by rw [l4,l5]; exact wrap_ok (by omega) (by omega)
  rw [← l1] at m2
  have b1 : IntKind.i64.wrap (x.a : Int) = (ld 0).al := by rw [l2]; exact b1
  have m1 : tmZ (x.c : Int) 60 = ((x.c % 60 : Nat) : Int) := m1
  have m2 : tmZ (x.b : Int) 2 = (ld 0).k := m2
  have m3 : tmZ (x.d : Int) 30 = ((x.d % 30 : Nat) : Int) := m3
  have m4 : tmZ (x.d : Int) 20 = ((x.d % 20 : Nat) : Int) := m4
  have w1 := w25 (ld 0).al (ld 0).ah
  have w2 := w25 (ld 0).cl (ld 0).ch
  have mi : tmZ 0 2 = 0 := rfl
  have wi : IntKind.i64.wrap (0 + 1) = 1 := rfl
  have wj : IntKind.i64.wrap (0 - 1) = -1 := rfl
  clear l1 l2 l3 l4 l5 n1 n2 n3 n4 hld htF hwk xa hxo
  have wv3 : IntKind.i64.wrap ((ls.length : Int) - 1) = (ls.length : Int) - 1 := wrap_ok (by omega) (by omega)
  have g5 : ((0 : Int) = (ls.length : Int) - 1) = False := eq_false (by omega)
  unfold x4l1
  dsimp only
  sym =>
    simp [irem2,iquo2,remF,Za,Zb,Zc,Zd,Ze,Zf,Zg,Zh,Zi,Zj,Zl,Zm,Zn,Zo,Zp,Zq,Zt,Zu,Zw,Zy,Zz,Z1,Z4,Z5,Z6,Z7,ZA,ZB,ZD,ZE,ZF,ZG,ZH,ZI,ZJ,ZK,ZL,ZM,ZN,ZO,ZP,ZQ,ZR,ZS,ZT,ZW,ZX,ZY,ZZ,Ye,Yf,Yg,Yh,Yi,Yo,Yp,Yq,Ys,Yt,Yu,Yv,Yx,Y2,Y3,Y4,Y6,Y8,YB,YF,YO,YQ,YT,YV,YX,YY,Xa,Xe,Xf,Xg,Xh,Xk,Xo,Xq,Xr,Xs,Xt,Xu,Xw,X0,Wc,Wn,Wo,Wq,Wx,Wy,Wz,W0,W3,W4,W5,W6,W7,W8,WA,WB,WC,WF,WG,WI,WJ,WK,WL,WM,WN,WO,WP,WQ,WR,WS,WT,WW,WX,WY,Vc,Vd,Vf,Vg,Vh,Vj,Vk,Vl,Vn,Vs,Vu,Vv,Vw,Vx,Vy,V0,VM,VN,VO,VP,VQ,VR,VS,VV,VW,VX,VY,VZ,Ub,Uc,Ud,Ue,Uf,Ug,Uj,Ul,Um,Un,Uo,Uq,Us,Uw,Ux,Uy,Uz,U0,U1,U2,U3,U4,U5,U6,U7,UE,UF,UG,UH,UM,UN,UO,UP,UR,US,UT,UU,UX,UY,UZ,Ta,Tb,Tc,Td,Te,Tf,Ti,Tk,Tl,Tm,Tn,Tp,Tr,Ts,Tt,Tu,Tv,Tx,Tz,T0,T1,T2,T6,TA,Sc,Se,Sf,Sg,Sy,Sz,S6,S7,a1,c1,hqm,hq,k1,k2,e26,e27,e28,hLs,k3,k4,k5,k6,k7,hc,he,d1,d2,sw0]
    tactic =>
      unfold x4l0
      rw [loop_rule sw.length (fun j => [rF fs,rF ls,.pt 0 0,.pt 1 0,.nilsl,.nilsl,.nilsl,I 0,rI sw,I (wk : Nat),I r,I (tpN sw j),rI sw,I sw.length,I (j : Nat)]) (fun _ => hC0 us ld cF tF rF')]
      · rw [tn]
        (sym => (simp [irem2,iquo2,remF,Za,Zb,Zc,Zd,Ze,Zf,Zg,Zh,Zi,Zj,Zl,Zm,Zn,Zo,Zp,Zq,Zt,Zu,Zw,Zy,Zz,Z1,Z4,Z5,Z6,Z7,ZA,ZB,ZD,ZE,ZF,ZG,ZH,ZI,ZJ,ZK,ZL,ZM,ZN,ZO,ZP,ZQ,ZR,ZS,ZT,ZW,ZX,ZY,ZZ,Ye,Yf,Yg,Yh,Yi,Yo,Yp,Yq,Ys,Yt,Yu,Yv,Yx,Y2,Y3,Y4,Y6,Y8,YB,YF,YO,YQ,YT,YV,YX,YY,Xa,Xe,Xf,Xg,Xh,Xk,Xo,Xq,Xr,Xs,Xt,Xu,Xw,X0,Wc,Wn,Wo,Wq,Wx,Wy,Wz,W0,W3,W4,W5,W6,W7,W8,WA,WB,WC,WF,WG,WI,WJ,WK,WL,WM,WN,WO,WP,WQ,WR,WS,WT,WW,WX,WY,Vc,Vd,Vf,Vg,Vh,Vj,Vk,Vl,Vn,Vs,Vu,Vv,Vw,Vx,Vy,V0,VM,VN,VO,VP,VQ,VR,VS,VV,VW,VX,VY,VZ,Ub,Uc,Ud,Ue,Uf,Ug,Uj,Ul,Um,Un,Uo,Uq,Us,Uw,Ux,Uy,Uz,U0,U1,U2,U3,U4,U5,U6,U7,UE,UF,UG,UH,UM,UN,UO,UP,UR,US,UT,UU,UX,UY,UZ,Ta,Tb,Tc,Td,Te,Tf,Ti,Tk,Tl,Tm,Tn,Tp,Tr,Ts,Tt,Tu,Tv,Tx,Tz,T0,T1,T2,T6,TA,Sc,Se,Sf,Sg,Sy,Sz,S6,S7,z,hLs,hc,he,k3,k4,k5,k6,k7,d1,d2,tn,sw0,hx,a1,b1,b2,b3,b4,m1,m2,m3,m4,q1,q2,q3,w1,w2,mi,wi,wj,hcF,hrF,wv3,g5]; all_goals tactic => exact rfl))
      · rw [t0]
        (sym => (simp [irem2,iquo2,remF,Za,Zb,Zc,Zd,Ze,Zf,Zg,Zh,Zi,Zj,Zl,Zm,Zn,Zo,Zp,Zq,Zt,Zu,Zw,Zy,Zz,Z1,Z4,Z5,Z6,Z7,ZA,ZB,ZD,ZE,ZF,ZG,ZH,ZI,ZJ,ZK,ZL,ZM,ZN,ZO,ZP,ZQ,ZR,ZS,ZT,ZW,ZX,ZY,ZZ,Ye,Yf,Yg,Yh,Yi,Yo,Yp,Yq,Ys,Yt,Yu,Yv,Yx,Y2,Y3,Y4,Y6,Y8,YB,YF,YO,YQ,YT,YV,YX,YY,Xa,Xe,Xf,Xg,Xh,Xk,Xo,Xq,Xr,Xs,Xt,Xu,Xw,X0,Wc,Wn,Wo,Wq,Wx,Wy,Wz,W0,W3,W4,W5,W6,W7,W8,WA,WB,WC,WF,WG,WI,WJ,WK,WL,WM,WN,WO,WP,WQ,WR,WS,WT,WW,WX,WY,Vc,Vd,Vf,Vg,Vh,Vj,Vk,Vl,Vn,Vs,Vu,Vv,Vw,Vx,Vy,V0,VM,VN,VO,VP,VQ,VR,VS,VV,VW,VX,VY,VZ,Ub,Uc,Ud,Ue,Uf,Ug,Uj,Ul,Um,Un,Uo,Uq,Us,Uw,Ux,Uy,Uz,U0,U1,U2,U3,U4,U5,U6,U7,UE,UF,UG,UH,UM,UN,UO,UP,UR,US,UT,UU,UX,UY,UZ,Ta,Tb,Tc,Td,Te,Tf,Ti,Tk,Tl,Tm,Tn,Tp,Tr,Ts,Tt,Tu,Tv,Tx,Tz,T0,T1,T2,T6,TA,Sc,Se,Sf,Sg,Sy,Sz,S6,S7]; all_goals tactic => exact rfl))
      · exact rd
      · (sym => (simp [irem2,iquo2,remF,Za,Zb,Zc,Zd,Ze,Zf,Zg,Zh,Zi,Zj,Zl,Zm,Zn,Zo,Zp,Zq,Zt,Zu,Zw,Zy,Zz,Z1,Z4,Z5,Z6,Z7,ZA,ZB,ZD,ZE,ZF,ZG,ZH,ZI,ZJ,ZK,ZL,ZM,ZN,ZO,ZP,ZQ,ZR,ZS,ZT,ZW,ZX,ZY,ZZ,Ye,Yf,Yg,Yh,Yi,Yo,Yp,Yq,Ys,Yt,Yu,Yv,Yx,Y2,Y3,Y4,Y6,Y8,YB,YF,YO,YQ,YT,YV,YX,YY,Xa,Xe,Xf,Xg,Xh,Xk,Xo,Xq,Xr,Xs,Xt,Xu,Xw,X0,Wc,Wn,Wo,Wq,Wx,Wy,Wz,W0,W3,W4,W5,W6,W7,W8,WA,WB,WC,WF,WG,WI,WJ,WK,WL,WM,WN,WO,WP,WQ,WR,WS,WT,WW,WX,WY,Vc,Vd,Vf,Vg,Vh,Vj,Vk,Vl,Vn,Vs,Vu,Vv,Vw,Vx,Vy,V0,VM,VN,VO,VP,VQ,VR,VS,VV,VW,VX,VY,VZ,Ub,Uc,Ud,Ue,Uf,Ug,Uj,Ul,Um,Un,Uo,Uq,Us,Uw,Ux,Uy,Uz,U0,U1,U2,U3,U4,U5,U6,U7,UE,UF,UG,UH,UM,UN,UO,UP,UR,US,UT,UU,UX,UY,UZ,Ta,Tb,Tc,Td,Te,Tf,Ti,Tk,Tl,Tm,Tn,Tp,Tr,Ts,Tt,Tu,Tv,Tx,Tz,T0,T1,T2,T6,TA,Sc,Se,Sf,Sg,Sy,Sz,S6,S7,z]; all_goals tactic => exact rfl))
theorem round4c0z (hN : ls.length ≤ 9223372036854775807) {y x : P4} {wk q : Nat} {r c : Int} {sw : List Int} {L : List Sp} {ss : List Sm} {e : Sp}
    (hq : fs[q]? = some y) (hqm : tmZ 0 (fs.length : Int) = (q : Int)) (hnf : fs.length ≠ 0) (hx : ls[0]? = some x) (hxo : x.Ok)
    (e26 : runW progX 26 [.agg y.row] [] = some (.tup [.agg (fdC ss),rI sw],[])) (e27 : runW progX 27 [.agg (fdC ss)] [] = some (.tup [I (wk : Nat),I r,I 0],[])) (e28 : runW progX 28 [.agg (fdC ss)] [] = some (.tup [sR L,I 0],[]))
    (hsw : sw.length = 6) (hL : L.length = 6) (hwk : wk < 6) (hc : sw[wk]? = some c) (he : L[wk]? = some e) (he1 : e.lo ≤ c) (he2 : c ≤ e.hi)
    (hld : ld 0 = ldQ x) (hcF : cF 0 = c) (htF : tF 0 = tpN sw 6) (hrF : rF' 0 = r) (hlast : ls.length = 1) :
    headX 0 [0,1,5,7,8,9,10,11] (execW progX 4 0 none (match x4l1 with | .loop _ a => a | c => c) (envL [0,1,5,7,8,9,10,11] [rF fs,rF ls,.pt 0 0,.pt 1 0,.nilsl,.nilsl,.nilsl,I 0]) (hC0 us ld cF tF rF')) = some ([rF fs,rF ls,.pt 0 0,.pt 1 0,.sl 8 0 1 1,.sl 9 0 1 1,.sl 10 0 1 1,I 1],hC1z us ld cF tF rF') := by
  have hxl := lt_of hx
  have a1 : ((0 : Int) < (ls.length : Int)) = True := eq_true (by omega)
  have c1 : ((fs.length : Int) = 0) = False := eq_false (by omega)
  have k1 : (0 ≤ (q : Int)) = True := eq_true (by omega)
  have k2 : ((q : Int) < (fs.length : Int)) = True := eq_true (by have := lt_of hq; omega)
  have k3 : (0 ≤ (wk : Int)) = True := eq_true (by omega)
  have k4 : ((wk : Int) < (sw.length : Int)) = True := eq_true (by omega)
  have k5 : ((wk : Int) < 0) = False := eq_false (by omega)
  have k6 : ((sw.length : Int) ≤ (wk : Int)) = False := eq_false (by omega)
  have k7 : ((0 : Int) < (sw.length : Int)) = True := eq_true (by omega)
  have hLs : L.length = sw.length := by omega
  have d1 : (c < e.lo) = False := eq_false (by omega)
  have d2 : (e.hi < c) = False := eq_false (by omega)
  obtain ⟨s0,sw0⟩ := at_ix (l := sw) (i := 0) (by omega)
  have t0 : tpN sw 0 = s0 := by rw [tpN,getD_of sw0]
  have tn : tpN sw sw.length = tF 0 := by rw [hsw,htF]
  have rd := fun j (hj : j < sw.length) => round4b0 (us := us) (ld := ld) (cF := cF) (tF := tF) (rF' := rF') (fs := fs) (ls := ls) (wk := (wk : Int)) (r := r) hj (by omega)
  have z := UX (n := (sw.length : Int))
  have b1 := wr8 hxo.a
  have b2 := wr8 hxo.b
  have b3 := wr8 hxo.c
  have b4 := wr8 hxo.d
  obtain ⟨m1,n1⟩ := wr_u8 hxo.c 60 (by decide)
  obtain ⟨m2,n2⟩ := wr_u8 hxo.b 2 (by decide)
  obtain ⟨m3,n3⟩ := wr_u8 hxo.d 30 (by decide)
  obtain ⟨m4,n4⟩ := wr_u8 hxo.d 20 (by decide)
  have xa := hxo.a
  have l1 : (ld 0).k = ((x.b % 2 : Nat) : Int) := by rw [hld]; rfl
  have l2 : (ld 0).al = (x.a : Int) := by rw [hld]; rfl
  have l3 : (ld 0).ah = (x.a : Int) + ((x.d % 30 : Nat) : Int) := by rw [hld]; rfl
  have l4 : (ld 0).cl = 1 + ((x.c % 60 : Nat) : Int) := by rw [hld]; rfl
  have l5 : (ld 0).ch = 1 + ((x.c % 60 : Nat) : Int) + ((x.d % 20 : Nat) : Int) := by rw [hld]; rfl
  have q1 : IntKind.i64.wrap (1 + ((x.c % 60 : Nat) : Int)) = (ld 0).cl := by rw [l4]; exact wrap_ok (by omega) (by omega)
  have q2 : IntKind.i64.wrap ((ld 0).al + ((x.d % 30 : Nat) : Int)) = (ld 0).ah := by rw [l2,l3]; exact wrap_ok (by omega) (by omega)
  have q3 : IntKind.i64.wrap ((ld 0).cl + ((x.d % 20 : Nat) : Int)) = (ld 0).ch := by rw [l4,l5]; exact wrap_ok (by omega) (by omega)
  rw [← l1] at m2
  have b1 : IntKind.i64.wrap (x.a : Int) = (ld 0).al := by rw [l2]; exact b1
  have m1 : tmZ (x.c : Int) 60 = ((x.c % 60 : Nat) : Int) := m1
  have m2 : tmZ (x.b : Int) 2 = (ld 0).k := m2
  have m3 : tmZ (x.d : Int) 30 = ((x.d % 30 : Nat) : Int) := m3
  have m4 : tmZ (x.d : Int) 20 = ((x.d % 20 : Nat) : Int) := m4
  have w1 := w25 (ld 0).al (ld 0).ah
  have w2 := w25 (ld 0).cl (ld 0).ch
  have mi : tmZ 0 2 = 0 := rfl
  have wi : IntKind.i64.wrap (0 + 1) = 1 := rfl
  have wj : IntKind.i64.wrap (0 - 1) = -1 := rfl
  clear l1 l2 l3 l4 l5 n1 n2 n3 n4 hld htF hwk xa hxo
  have wv3 : IntKind.i64.wrap ((ls.length : Int) - 1) = 0 := by rw [hlast]; rfl
  unfold x4l1
  dsimp only
  sym =>
    simp [irem2,iquo2,remF,Za,Zb,Zc,Zd,Ze,Zf,Zg,Zh,Zi,Zj,Zl,Zm,Zn,Zo,Zp,Zq,Zs,Zt,Zu,Zw,Zy,Zz,Z1,Z4,Z5,Z6,Z7,ZA,ZB,ZD,ZE,ZF,ZG,ZH,ZI,ZJ,ZK,ZL,ZM,ZN,ZO,ZP,ZQ,ZR,ZS,ZT,ZW,ZX,ZY,ZZ,Ye,Yf,Yg,Yh,Yi,Yo,Yp,Yq,Ys,Yt,Yu,Yv,Yx,Y2,Y4,Y6,Y8,YB,YF,YO,YQ,YT,YV,YX,YY,Xe,Xf,Xg,Xh,Xk,Xo,Xq,Xr,Xs,Xt,Xu,X0,Wc,Wn,Wo,Wq,Wx,Wy,Wz,W0,W3,W4,W5,W6,W7,W8,WA,WB,WC,WF,WG,WI,WJ,WK,WL,WM,WN,WO,WP,WQ,WR,WS,WT,WW,WX,WY,Vc,Vd,Vf,Vg,Vh,Vj,Vk,Vl,Vn,Vs,Vu,Vv,Vw,Vx,Vy,V0,VM,VN,VO,VP,VQ,VR,VV,VW,VX,VY,VZ,Ub,Uc,Ud,Ue,Uf,Ug,Uj,Ul,Um,Un,Uo,Uq,Us,Uw,Ux,Uy,Uz,U0,U1,U2,U3,U4,U5,U6,U7,UE,UF,UG,UH,UM,UN,UO,UP,UR,US,UT,UU,UX,UY,UZ,Ta,Tb,Tc,Td,Te,Tf,Ti,Tk,Tl,Tm,Tn,Tp,Tr,Ts,Tt,Tu,Tv,Tx,Tz,T0,T1,T2,T6,TA,Sc,Se,Sf,Sg,Sy,Sz,S6,S7,a1,c1,hqm,hq,k1,k2,e26,e27,e28,hLs,k3,k4,k5,k6,k7,hc,he,d1,d2,sw0]
    tactic =>
      unfold x4l0
      rw [loop_rule sw.length (fun j => [rF fs,rF ls,.pt 0 0,.pt 1 0,.nilsl,.nilsl,.nilsl,I 0,rI sw,I (wk : Nat),I r,I (tpN sw j),rI sw,I sw.length,I (j : Nat)]) (fun _ => hC0 us ld cF tF rF')]
      · rw [tn]
        (sym => (simp [irem2,iquo2,remF,Za,Zb,Zc,Zd,Ze,Zf,Zg,Zh,Zi,Zj,Zl,Zm,Zn,Zo,Zp,Zq,Zs,Zt,Zu,Zw,Zy,Zz,Z1,Z4,Z5,Z6,Z7,ZA,ZB,ZD,ZE,ZF,ZG,ZH,ZI,ZJ,ZK,ZL,ZM,ZN,ZO,ZP,ZQ,ZR,ZS,ZT,ZW,ZX,ZY,ZZ,Ye,Yf,Yg,Yh,Yi,Yo,Yp,Yq,Ys,Yt,Yu,Yv,Yx,Y2,Y4,Y6,Y8,YB,YF,YO,YQ,YT,YV,YX,YY,Xe,Xf,Xg,Xh,Xk,Xo,Xq,Xr,Xs,Xt,Xu,X0,Wc,Wn,Wo,Wq,Wx,Wy,Wz,W0,W3,W4,W5,W6,W7,W8,WA,WB,WC,WF,WG,WI,WJ,WK,WL,WM,WN,WO,WP,WQ,WR,WS,WT,WW,WX,WY,Vc,Vd,Vf,Vg,Vh,Vj,Vk,Vl,Vn,Vs,Vu,Vv,Vw,Vx,Vy,V0,VM,VN,VO,VP,VQ,VR,VV,VW,VX,VY,VZ,Ub,Uc,Ud,Ue,Uf,Ug,Uj,Ul,Um,Un,Uo,Uq,Us,Uw,Ux,Uy,Uz,U0,U1,U2,U3,U4,U5,U6,U7,UE,UF,UG,UH,UM,UN,UO,UP,UR,US,UT,UU,UX,UY,UZ,Ta,Tb,Tc,Td,Te,Tf,Ti,Tk,Tl,Tm,Tn,Tp,Tr,Ts,Tt,Tu,Tv,Tx,Tz,T0,T1,T2,T6,TA,Sc,Se,Sf,Sg,Sy,Sz,S6,S7,z,hLs,hc,he,k3,k4,k5,k6,k7,d1,d2,tn,sw0,hx,a1,b1,b2,b3,b4,m1,m2,m3,m4,q1,q2,q3,w1,w2,mi,wi,wj,hcF,hrF,wv3]; all_goals tactic => exact rfl))
      · rw [t0]
        (sym => (simp [irem2,iquo2,remF,Za,Zb,Zc,Zd,Ze,Zf,Zg,Zh,Zi,Zj,Zl,Zm,Zn,Zo,Zp,Zq,Zs,Zt,Zu,Zw,Zy,Zz,Z1,Z4,Z5,Z6,Z7,ZA,ZB,ZD,ZE,ZF,ZG,ZH,ZI,ZJ,ZK,ZL,ZM,ZN,ZO,ZP,ZQ,ZR,ZS,ZT,ZW,ZX,ZY,ZZ,Ye,Yf,Yg,Yh,Yi,Yo,Yp,Yq,Ys,Yt,Yu,Yv,Yx,Y2,Y4,Y6,Y8,YB,YF,YO,YQ,YT,YV,YX,YY,Xe,Xf,Xg,Xh,Xk,Xo,Xq,Xr,Xs,Xt,Xu,X0,Wc,Wn,Wo,Wq,Wx,Wy,Wz,W0,W3,W4,W5,W6,W7,W8,WA,WB,WC,WF,WG,WI,WJ,WK,WL,WM,WN,WO,WP,WQ,WR,WS,WT,WW,WX,WY,Vc,Vd,Vf,Vg,Vh,Vj,Vk,Vl,Vn,Vs,Vu,Vv,Vw,Vx,Vy,V0,VM,VN,VO,VP,VQ,VR,VV,VW,VX,VY,VZ,Ub,Uc,Ud,Ue,Uf,Ug,Uj,Ul,Um,Un,Uo,Uq,Us,Uw,Ux,Uy,Uz,U0,U1,U2,U3,U4,U5,U6,U7,UE,UF,UG,UH,UM,UN,UO,UP,UR,US,UT,UU,UX,UY,UZ,Ta,Tb,Tc,Td,Te,Tf,Ti,Tk,Tl,Tm,Tn,Tp,Tr,Ts,Tt,Tu,Tv,Tx,Tz,T0,T1,T2,T6,TA,Sc,Se,Sf,Sg,Sy,Sz,S6,S7]; all_goals tactic => exact rfl))
      · exact rd
      · (sym => (simp [irem2,iquo2,remF,Za,Zb,Zc,Zd,Ze,Zf,Zg,Zh,Zi,Zj,Zl,Zm,Zn,Zo,Zp,Zq,Zs,Zt,Zu,Zw,Zy,Zz,Z1,Z4,Z5,Z6,Z7,ZA,ZB,ZD,ZE,ZF,ZG,ZH,ZI,ZJ,ZK,ZL,ZM,ZN,ZO,ZP,ZQ,ZR,ZS,ZT,ZW,ZX,ZY,ZZ,Ye,Yf,Yg,Yh,Yi,Yo,Yp,Yq,Ys,Yt,Yu,Yv,Yx,Y2,Y4,Y6,Y8,YB,YF,YO,YQ,YT,YV,YX,YY,Xe,Xf,Xg,Xh,Xk,Xo,Xq,Xr,Xs,Xt,Xu,X0,Wc,Wn,Wo,Wq,Wx,Wy,Wz,W0,W3,W4,W5,W6,W7,W8,WA,WB,WC,WF,WG,WI,WJ,WK,WL,WM,WN,WO,WP,WQ,WR,WS,WT,WW,WX,WY,Vc,Vd,Vf,Vg,Vh,Vj,Vk,Vl,Vn,Vs,Vu,Vv,Vw,Vx,Vy,V0,VM,VN,VO,VP,VQ,VR,VV,VW,VX,VY,VZ,Ub,Uc,Ud,Ue,Uf,Ug,Uj,Ul,Um,Un,Uo,Uq,Us,Uw,Ux,Uy,Uz,U0,U1,U2,U3,U4,U5,U6,U7,UE,UF,UG,UH,UM,UN,UO,UP,UR,US,UT,UU,UX,UY,UZ,Ta,Tb,Tc,Td,Te,Tf,Ti,Tk,Tl,Tm,Tn,Tp,Tr,Ts,Tt,Tu,Tv,Tx,Tz,T0,T1,T2,T6,TA,Sc,Se,Sf,Sg,Sy,Sz,S6,S7,z]; all_goals tactic => exact rfl))
theorem round4c1 (hN : ls.length ≤ 9223372036854775807) {y x : P4} {wk q : Nat} {r c : Int} {sw : List Int} {L : List Sp} {ss : List Sm} {e : Sp}
    (hq : fs[q]? = some y) (hqm : tmZ 1 (fs.length : Int) = (q : Int)) (hnf : fs.length ≠ 0) (hx : ls[1]? = some x) (hxo : x.Ok)
    (e26 : runW progX 26 [.agg y.row] [] = some (.tup [.agg (fdC ss),rI sw],[])) (e27 : runW progX 27 [.agg (fdC ss)] [] = some (.tup [I (wk : Nat),I r,I 0],[])) (e28 : runW progX 28 [.agg (fdC ss)] [] = some (.tup [sR L,I 0],[]))
    (hsw : sw.length = 6) (hL : L.length = 6) (hwk : wk < 6) (hc : sw[wk]? = some c) (he : L[wk]? = some e) (he1 : e.lo ≤ c) (he2 : c ≤ e.hi)
    (hld : ld 1 = ldQ x) (hcF : cF 1 = c) (htF : tF 1 = tpN sw 6) (hrF : rF' 1 = r) :
    headX 0 [0,1,5,7,8,9,10,11] (execW progX 4 0 none (match x4l1 with | .loop _ a => a | c => c) (envL [0,1,5,7,8,9,10,11] [rF fs,rF ls,.pt 0 0,.pt 1 0,.sl 6 0 1 1,.sl 7 0 1 1,.sl 8 0 1 1,I 1]) (hC1 us ld cF tF rF')) = some ([rF fs,rF ls,.pt 0 0,.pt 1 0,.sl 8 0 1 2,.sl 9 0 1 2,.sl 10 0 1 2,I 2],hC2 us ld cF tF rF') := by
  have hxl := lt_of hx
  have a1 : ((1 : Int) < (ls.length : Int)) = True := eq_true (by omega)
  have c1 : ((fs.length : Int) = 0) = False := eq_false (by omega)
  have k1 : (0 ≤ (q : Int)) = True := eq_true (by omega)
  have k2 : ((q : Int) < (fs.length : Int)) = True := eq_true (by have := lt_of hq; omega)
  have k3 : (0 ≤ (wk : Int)) = True := eq_true (by omega)
  have k4 : ((wk : Int) < (sw.length : Int)) = True := eq_true (by omega)
  have k5 : ((wk : Int) < 0) = False := eq_false (by omega)
  have k6 : ((sw.length : Int) ≤ (wk : Int)) = False := eq_false (by omega)
  have k7 : ((0 : Int) < (sw.length : Int)) = True := eq_true (by omega)
  have hLs : L.length = sw.length := by omega
  have d1 : (c < e.lo) = False := eq_false (by omega)
  have d2 : (e.hi < c) = False := eq_false (by omega)
  obtain ⟨s0,sw0⟩ := at_ix (l := sw) (i := 0) (by omega)
  have t0 : tpN sw 0 = s0 := by rw [tpN,getD_of sw0]
  have tn : tpN sw sw.length = tF 1 := by rw [hsw,htF]
  have rd := fun j (hj : j < sw.length) => round4b1 (us := us) (ld := ld) (cF := cF) (tF := tF) (rF' := rF') (fs := fs) (ls := ls) (wk := (wk : Int)) (r := r) hj (by omega)
  have z := UX (n := (sw.length : Int))
  have b1 := wr8 hxo.a
  have b2 := wr8 hxo.b
  have b3 := wr8 hxo.c
  have b4 := wr8 hxo.d
  obtain ⟨m1,n1⟩ := wr_u8 hxo.c 60 (by decide)
  obtain ⟨m2,n2⟩ := wr_u8 hxo.b 2 (by decide)
  obtain ⟨m3,n3⟩ := wr_u8 hxo.d 30 (by decide)
  obtain ⟨m4,n4⟩ := wr_u8 hxo.d 20 (by decide)
  have xa := hxo.a
  have l1 : (ld 1).k = ((x.b % 2 : Nat) : Int) := by rw [hld]; rfl
  have l2 : (ld 1).al = (x.a : Int) := by rw [hld]; rfl
  have l3 : (ld 1).ah = (x.a : Int) + ((x.d % 30 : Nat) : Int) := by rw [hld]; rfl
  have l4 : (ld 1).cl = 1 + ((x.c % 60 : Nat) : Int) := by rw [hld]; rfl
  have l5 : (ld 1).ch = 1 + ((x.c % 60 : Nat) : Int) + ((x.d % 20 : Nat) : Int) := by rw [hld]; rfl
  have q1 : IntKind.i64.wrap (1 + ((x.c % 60 : Nat) : Int)) = (ld 1).cl := by rw [l4]; exact wrap_ok (by omega) (by omega)
  have q2 : IntKind.i64.wrap ((ld 1).al + ((x.d % 30 : Nat) : Int)) = (ld 1).ah := by rw [l2,l3]; exact wrap_ok (by omega) (by omega)
  have q3 : IntKind.i64.wrap ((ld 1).cl + ((x.d % 20 : Nat) : Int)) = (ld 1).ch := by rw [l4,l5]; exact wrap_ok (by omega) (by omega)
  rw [← l1] at m2
  have b1 : IntKind.i64.wrap (x.a : Int) = (ld 1).al := by rw [l2]; exact b1
  have m1 : tmZ (x.c : Int) 60 = ((x.c % 60 : Nat) : Int) := m1
  have m2 : tmZ (x.b : Int) 2 = (ld 1).k := m2
  have m3 : tmZ (x.d : Int) 30 = ((x.d % 30 : Nat) : Int) := m3
  have m4 : tmZ (x.d : Int) 20 = ((x.d % 20 : Nat) : Int) := m4
  have w1 := w25 (ld 1).al (ld 1).ah
  have w2 := w25 (ld 1).cl (ld 1).ch
  have mi : tmZ 1 2 = 1 := rfl
  have wi : IntKind.i64.wrap (1 + 1) = 2 := rfl
  have wj : IntKind.i64.wrap (1 - 1) = 0 := rfl
  clear l1 l2 l3 l4 l5 n1 n2 n3 n4 hld htF hwk xa hxo
  unfold x4l1
  dsimp only
  sym =>
    simp [irem2,iquo2,remF,Za,Zb,Zc,Zd,Ze,Zf,Zg,Zh,Zi,Zj,Zl,Zm,Zn,Zo,Zp,Zq,Zt,Zu,Zw,Zy,Zz,Z1,Z4,Z5,Z6,Z7,ZA,ZB,ZD,ZE,ZF,ZG,ZH,ZI,ZJ,ZK,ZL,ZM,ZN,ZO,ZP,ZQ,ZR,ZS,ZT,ZW,ZX,ZY,ZZ,Ye,Yf,Yg,Yh,Yi,Yo,Yp,Yq,Ys,Yt,Yu,Yv,Yw,Yy,Y2,Y3,Y4,Y6,Y8,YB,YF,YO,YQ,YT,YV,YX,YY,Xa,Xe,Xf,Xg,Xh,Xk,Xo,Xq,Xr,Xs,Xt,Xu,Xw,X0,Wc,Wn,Wo,Wq,Ww,Wx,Wz,W0,W3,W4,W5,W6,W7,W8,WA,WB,WC,WF,WG,WI,WJ,WK,WL,WM,WN,WO,WP,WQ,WR,WS,WT,WW,WX,WY,Vc,Vd,Vf,Vg,Vh,Vj,Vk,Vl,Vn,Vs,Vu,Vv,Vw,Vx,Vy,V0,VM,VN,VO,VP,VQ,VR,VS,VV,VW,VX,VY,VZ,Ub,Uc,Ud,Ue,Uf,Ug,Uj,Ul,Um,Un,Uo,Uq,Us,Uw,Ux,Uy,Uz,U0,U1,U2,U3,U4,U5,U6,U7,UE,UF,UG,UH,UM,UN,UO,UP,UR,US,UT,UU,UV,UW,UX,UY,UZ,Ta,Tb,Tc,Td,Te,Tf,Ti,Tj,Tk,Tl,Tm,Tn,Tp,Tr,Ts,Tt,Tu,Tv,Tx,Tz,T0,T1,T2,T6,TA,TB,Sc,Sf,Sg,Sy,Sz,S6,S7,a1,c1,hqm,hq,k1,k2,e26,e27,e28,hLs,k3,k4,k5,k6,k7,hc,he,d1,d2,sw0]
    tactic =>
      unfold x4l0
      rw [loop_rule sw.length (fun j => [rF fs,rF ls,.pt 0 0,.pt 1 0,.sl 6 0 1 1,.sl 7 0 1 1,.sl 8 0 1 1,I 1,rI sw,I (wk : Nat),I r,I (tpN sw j),rI sw,I sw.length,I (j : Nat)]) (fun _ => hC1 us ld cF tF rF')]
      · rw [tn]
        (sym => (simp [irem2,iquo2,remF,Za,Zb,Zc,Zd,Ze,Zf,Zg,Zh,Zi,Zj,Zl,Zm,Zn,Zo,Zp,Zq,Zt,Zu,Zw,Zy,Zz,Z1,Z4,Z5,Z6,Z7,ZA,ZB,ZD,ZE,ZF,ZG,ZH,ZI,ZJ,ZK,ZL,ZM,ZN,ZO,ZP,ZQ,ZR,ZS,ZT,ZW,ZX,ZY,ZZ,Ye,Yf,Yg,Yh,Yi,Yo,Yp,Yq,Ys,Yt,Yu,Yv,Yw,Yy,Y2,Y3,Y4,Y6,Y8,YB,YF,YO,YQ,YT,YV,YX,YY,Xa,Xe,Xf,Xg,Xh,Xk,Xo,Xq,Xr,Xs,Xt,Xu,Xw,X0,Wc,Wn,Wo,Wq,Ww,Wx,Wz,W0,W3,W4,W5,W6,W7,W8,WA,WB,WC,WF,WG,WI,WJ,WK,WL,WM,WN,WO,WP,WQ,WR,WS,WT,WW,WX,WY,Vc,Vd,Vf,Vg,Vh,Vj,Vk,Vl,Vn,Vs,Vu,Vv,Vw,Vx,Vy,V0,VM,VN,VO,VP,VQ,VR,VS,VV,VW,VX,VY,VZ,Ub,Uc,Ud,Ue,Uf,Ug,Uj,Ul,Um,Un,Uo,Uq,Us,Uw,Ux,Uy,Uz,U0,U1,U2,U3,U4,U5,U6,U7,UE,UF,UG,UH,UM,UN,UO,UP,UR,US,UT,UU,UV,UW,UX,UY,UZ,Ta,Tb,Tc,Td,Te,Tf,Ti,Tj,Tk,Tl,Tm,Tn,Tp,Tr,Ts,Tt,Tu,Tv,Tx,Tz,T0,T1,T2,T6,TA,TB,Sc,Sf,Sg,Sy,Sz,S6,S7,z,hLs,hc,he,k3,k4,k5,k6,k7,d1,d2,tn,sw0,hx,a1,b1,b2,b3,b4,m1,m2,m3,m4,q1,q2,q3,w1,w2,mi,wi,wj,hcF,hrF]; all_goals tactic => exact rfl))
      · rw [t0]
        (sym => (simp [irem2,iquo2,remF,Za,Zb,Zc,Zd,Ze,Zf,Zg,Zh,Zi,Zj,Zl,Zm,Zn,Zo,Zp,Zq,Zt,Zu,Zw,Zy,Zz,Z1,Z4,Z5,Z6,Z7,ZA,ZB,ZD,ZE,ZF,ZG,ZH,ZI,ZJ,ZK,ZL,ZM,ZN,ZO,ZP,ZQ,ZR,ZS,ZT,ZW,ZX,ZY,ZZ,Ye,Yf,Yg,Yh,Yi,Yo,Yp,Yq,Ys,Yt,Yu,Yv,Yw,Yy,Y2,Y3,Y4,Y6,Y8,YB,YF,YO,YQ,YT,YV,YX,YY,Xa,Xe,Xf,Xg,Xh,Xk,Xo,Xq,Xr,Xs,Xt,Xu,Xw,X0,Wc,Wn,Wo,Wq,Ww,Wx,Wz,W0,W3,W4,W5,W6,W7,W8,WA,WB,WC,WF,WG,WI,WJ,WK,WL,WM,WN,WO,WP,WQ,WR,WS,WT,WW,WX,WY,Vc,Vd,Vf,Vg,Vh,Vj,Vk,Vl,Vn,Vs,Vu,Vv,Vw,Vx,Vy,V0,VM,VN,VO,VP,VQ,VR,VS,VV,VW,VX,VY,VZ,Ub,Uc,Ud,Ue,Uf,Ug,Uj,Ul,Um,Un,Uo,Uq,Us,Uw,Ux,Uy,Uz,U0,U1,U2,U3,U4,U5,U6,U7,UE,UF,UG,UH,UM,UN,UO,UP,UR,US,UT,UU,UV,UW,UX,UY,UZ,Ta,Tb,Tc,Td,Te,Tf,Ti,Tj,Tk,Tl,Tm,Tn,Tp,Tr,Ts,Tt,Tu,Tv,Tx,Tz,T0,T1,T2,T6,TA,TB,Sc,Sf,Sg,Sy,Sz,S6,S7]; all_goals tactic => exact rfl))
      · exact rd
      · (sym => (simp [irem2,iquo2,remF,Za,Zb,Zc,Zd,Ze,Zf,Zg,Zh,Zi,Zj,Zl,Zm,Zn,Zo,Zp,Zq,Zt,Zu,Zw,Zy,Zz,Z1,Z4,Z5,Z6,Z7,ZA,ZB,ZD,ZE,ZF,ZG,ZH,ZI,ZJ,ZK,ZL,ZM,ZN,ZO,ZP,ZQ,ZR,ZS,ZT,ZW,ZX,ZY,ZZ,Ye,Yf,Yg,Yh,Yi,Yo,Yp,Yq,Ys,Yt,Yu,Yv,Yw,Yy,Y2,Y3,Y4,Y6,Y8,YB,YF,YO,YQ,YT,YV,YX,YY,Xa,Xe,Xf,Xg,Xh,Xk,Xo,Xq,Xr,Xs,Xt,Xu,Xw,X0,Wc,Wn,Wo,Wq,Ww,Wx,Wz,W0,W3,W4,W5,W6,W7,W8,WA,WB,WC,WF,WG,WI,WJ,WK,WL,WM,WN,WO,WP,WQ,WR,WS,WT,WW,WX,WY,Vc,Vd,Vf,Vg,Vh,Vj,Vk,Vl,Vn,Vs,Vu,Vv,Vw,Vx,Vy,V0,VM,VN,VO,VP,VQ,VR,VS,VV,VW,VX,VY,VZ,Ub,Uc,Ud,Ue,Uf,Ug,Uj,Ul,Um,Un,Uo,Uq,Us,Uw,Ux,Uy,Uz,U0,U1,U2,U3,U4,U5,U6,U7,UE,UF,UG,UH,UM,UN,UO,UP,UR,US,UT,UU,UV,UW,UX,UY,UZ,Ta,Tb,Tc,Td,Te,Tf,Ti,Tj,Tk,Tl,Tm,Tn,Tp,Tr,Ts,Tt,Tu,Tv,Tx,Tz,T0,T1,T2,T6,TA,TB,Sc,Sf,Sg,Sy,Sz,S6,S7,z]; all_goals tactic => exact rfl))
theorem round4c2 (hN : ls.length ≤ 9223372036854775807) {y x : P4} {wk q : Nat} {r c : Int} {sw : List Int} {L : List Sp} {ss : List Sm} {e : Sp}
    (hq : fs[q]? = some y) (hqm : tmZ 2 (fs.length : Int) = (q : Int)) (hnf : fs.length ≠ 0) (hx : ls[2]? = some x) (hxo : x.Ok)
    (e26 : runW progX 26 [.agg y.row] [] = some (.tup [.agg (fdC ss),rI sw],[])) (e27 : runW progX 27 [.agg (fdC ss)] [] = some (.tup [I (wk : Nat),I r,I 0],[])) (e28 : runW progX 28 [.agg (fdC ss)] [] = some (.tup [sR L,I 0],[]))
    (hsw : sw.length = 6) (hL : L.length = 6) (hwk : wk < 6) (hc : sw[wk]? = some c) (he : L[wk]? = some e) (he1 : e.lo ≤ c) (he2 : c ≤ e.hi)
    (hld : ld 2 = ldQ x) (hcF : cF 2 = c) (htF : tF 2 = tpN sw 6) (hrF : rF' 2 = r) (hlast : ls.length ≠ 3) :
    headX 0 [0,1,5,7,8,9,10,11] (execW progX 4 0 none (match x4l1 with | .loop _ a => a | c => c) (envL [0,1,5,7,8,9,10,11] [rF fs,rF ls,.pt 0 0,.pt 1 0,.sl 8 0 1 2,.sl 9 0 1 2,.sl 10 0 1 2,I 2]) (hC2 us ld cF tF rF')) = some ([rF fs,rF ls,.pt 0 0,.pt 1 0,.sl 8 0 1 3,.sl 9 0 1 3,.sl 10 0 1 3,I 3],hC3 us ld cF tF rF') := by
  have hxl := lt_of hx
  have a1 : ((2 : Int) < (ls.length : Int)) = True := eq_true (by omega)
  have c1 : ((fs.length : Int) = 0) = False := eq_false (by omega)
  have k1 : (0 ≤ (q : Int)) = True := eq_true (by omega)
  have k2 : ((q : Int) < (fs.length : Int)) = True := eq_true (by have := lt_of hq; omega)
  have k3 : (0 ≤ (wk : Int)) = True := eq_true (by omega)
  have k4 : ((wk : Int) < (sw.length : Int)) = True := eq_true (by omega)
  have k5 : ((wk : Int) < 0) = False := eq_false (by omega)
  have k6 : ((sw.length : Int) ≤ (wk : Int)) = False := eq_false (by omega)
  have k7 : ((0 : Int) < (sw.length : Int)) = True := eq_true (by omega)
  have hLs : L.length = sw.length := by omega
  have d1 : (c < e.lo) = False := eq_false (by omega)
  have d2 : (e.hi < c) = False := eq_false (by omega)
  obtain ⟨s0,sw0⟩ := at_ix (l := sw) (i := 0) (by omega)
  have t0 : tpN sw 0 = s0 := by rw [tpN,getD_of sw0]
  have tn : tpN sw sw.length = tF 2 := by rw [hsw,htF]
  have rd := fun j (hj : j < sw.length) => round4b2 (us := us) (ld := ld) (cF := cF) (tF := tF) (rF' := rF') (fs := fs) (ls := ls) (wk := (wk : Int)) (r := r) hj (by omega)
  have z := UX (n := (sw.length : Int))
  have b1 := wr8 hxo.a
  have b2 := wr8 hxo.b
  have b3 := wr8 hxo.c
  have b4 := wr8 hxo.d
  obtain ⟨m1,n1⟩ := wr_u8 hxo.c 60 (by decide)
  obtain ⟨m2,n2⟩ := wr_u8 hxo.b 2 (by decide)
  obtain ⟨m3,n3⟩ := wr_u8 hxo.d 30 (by decide)
  obtain ⟨m4,n4⟩ := wr_u8 hxo.d 20 (by decide)
  have xa := hxo.a
  have l1 : (ld 2).k = ((x.b % 2 : Nat) : Int) := by rw [hld]; rfl
  have l2 : (ld 2).al = (x.a : Int) := by rw [hld]; rfl
  have l3 : (ld 2).ah = (x.a : Int) + ((x.d % 30 : Nat) : Int) := by rw [hld]; rfl
  have l4 : (ld 2).cl = 1 + ((x.c % 60 : Nat) : Int) := by rw [hld]; rfl
  have l5 : (ld 2).ch = 1 + ((x.c % 60 : Nat) : Int) + ((x.d % 20 : Nat) : Int) := by rw [hld]; rfl
  have q1 : IntKind.i64.wrap (1 + ((x.c % 60 : Nat) : Int)) = (ld 2).cl := by rw [l4]; exact wrap_ok (by omega) (by omega)
  have q2 : IntKind.i64.wrap ((ld 2).al + ((x.d % 30 : Nat) : Int)) = (ld 2).ah := by rw [l2,l3]; exact wrap_ok (by omega) (by omega)
  have q3 : IntKind.i64.wrap ((ld 2).cl + ((x.d % 20 : Nat) : Int)) = (ld 2).ch := by rw [l4,l5]; exact wrap_ok (by omega) (by omega)
  rw [← l1] at m2
  have b1 : IntKind.i64.wrap (x.a : Int) = (ld 2).al := by rw [l2]; exact b1
  have m1 : tmZ (x.c : Int) 60 = ((x.c % 60 : Nat) : Int) := m1
  have m2 : tmZ (x.b : Int) 2 = (ld 2).k := m2
  have m3 : tmZ (x.d : Int) 30 = ((x.d % 30 : Nat) : Int) := m3
  have m4 : tmZ (x.d : Int) 20 = ((x.d % 20 : Nat) : Int) := m4
  have w1 := w25 (ld 2).al (ld 2).ah
  have w2 := w25 (ld 2).cl (ld 2).ch
  have mi : tmZ 2 2 = 0 := rfl
  have wi : IntKind.i64.wrap (2 + 1) = 3 := rfl
  have wj : IntKind.i64.wrap (2 - 1) = 1 := rfl
  clear l1 l2 l3 l4 l5 n1 n2 n3 n4 hld htF hwk xa hxo
  have wv3 : IntKind.i64.wrap ((ls.length : Int) - 1) = (ls.length : Int) - 1 := wrap_ok (by omega) (by omega)
  have g5 : ((2 : Int) = (ls.length : Int) - 1) = False := eq_false (by omega)
  unfold x4l1
  dsimp only
  sym =>
    simp [irem2,iquo2,remF,Za,Zb,Zc,Zd,Ze,Zf,Zg,Zh,Zi,Zj,Zl,Zm,Zn,Zo,Zp,Zq,Zt,Zu,Zw,Zy,Zz,Z1,Z4,Z5,Z6,Z7,ZA,ZB,ZD,ZE,ZF,ZG,ZH,ZI,ZJ,ZK,ZL,ZM,ZN,ZO,ZP,ZQ,ZR,ZS,ZT,ZW,ZX,ZY,ZZ,Ye,Yf,Yg,Yh,Yi,Yo,Yp,Yq,Ys,Yt,Yu,Yv,Yz,Y2,Y3,Y4,Y6,Y8,YB,YF,YO,YQ,YT,YV,YX,YY,Xe,Xf,Xg,Xh,Xk,Xo,Xq,Xr,Xs,Xt,Xu,X0,Wc,Wn,Wo,Wq,Ww,Wx,Wz,W0,W3,W4,W5,W6,W7,W8,WA,WB,WC,WF,WG,WI,WJ,WK,WL,WM,WN,WO,WP,WQ,WR,WS,WT,WW,WX,WY,Vc,Vd,Vf,Vg,Vh,Vj,Vk,Vl,Vn,Vs,Vu,Vv,Vw,Vx,Vy,V0,VM,VN,VO,VP,VQ,VR,VS,VV,VW,VX,VY,VZ,Ub,Uc,Ud,Ue,Uf,Ug,Uj,Ul,Um,Un,Uo,Uq,Us,Uw,Ux,Uy,Uz,U0,U1,U2,U3,U4,U5,U6,U7,UE,UF,UG,UH,UM,UN,UO,UP,UR,US,UT,UV,UW,UX,UY,UZ,Ta,Tb,Tc,Td,Te,Tf,Ti,Tj,Tk,Tl,Tn,Tp,Tr,Ts,Tt,Tu,Tv,Tx,Tz,T0,T1,T2,T6,TA,Sc,Sf,Sg,Sy,Sz,S6,S7,a1,c1,hqm,hq,k1,k2,e26,e27,e28,hLs,k3,k4,k5,k6,k7,hc,he,d1,d2,sw0]
    tactic =>
      unfold x4l0
      rw [loop_rule sw.length (fun j => [rF fs,rF ls,.pt 0 0,.pt 1 0,.sl 8 0 1 2,.sl 9 0 1 2,.sl 10 0 1 2,I 2,rI sw,I (wk : Nat),I r,I (tpN sw j),rI sw,I sw.length,I (j : Nat)]) (fun _ => hC2 us ld cF tF rF')]
      · rw [tn]
        (sym => (simp [irem2,iquo2,remF,Za,Zb,Zc,Zd,Ze,Zf,Zg,Zh,Zi,Zj,Zl,Zm,Zn,Zo,Zp,Zq,Zt,Zu,Zw,Zy,Zz,Z1,Z4,Z5,Z6,Z7,ZA,ZB,ZD,ZE,ZF,ZG,ZH,ZI,ZJ,ZK,ZL,ZM,ZN,ZO,ZP,ZQ,ZR,ZS,ZT,ZW,ZX,ZY,ZZ,Ye,Yf,Yg,Yh,Yi,Yo,Yp,Yq,Ys,Yt,Yu,Yv,Yz,Y2,Y3,Y4,Y6,Y8,YB,YF,YO,YQ,YT,YV,YX,YY,Xe,Xf,Xg,Xh,Xk,Xo,Xq,Xr,Xs,Xt,Xu,X0,Wc,Wn,Wo,Wq,Ww,Wx,Wz,W0,W3,W4,W5,W6,W7,W8,WA,WB,WC,WF,WG,WI,WJ,WK,WL,WM,WN,WO,WP,WQ,WR,WS,WT,WW,WX,WY,Vc,Vd,Vf,Vg,Vh,Vj,Vk,Vl,Vn,Vs,Vu,Vv,Vw,Vx,Vy,V0,VM,VN,VO,VP,VQ,VR,VS,VV,VW,VX,VY,VZ,Ub,Uc,Ud,Ue,Uf,Ug,Uj,Ul,Um,Un,Uo,Uq,Us,Uw,Ux,Uy,Uz,U0,U1,U2,U3,U4,U5,U6,U7,UE,UF,UG,UH,UM,UN,UO,UP,UR,US,UT,UV,UW,UX,UY,UZ,Ta,Tb,Tc,Td,Te,Tf,Ti,Tj,Tk,Tl,Tn,Tp,Tr,Ts,Tt,Tu,Tv,Tx,Tz,T0,T1,T2,T6,TA,Sc,Sf,Sg,Sy,Sz,S6,S7,z,hLs,hc,he,k3,k4,k5,k6,k7,d1,d2,tn,sw0,hx,a1,b1,b2,b3,b4,m1,m2,m3,m4,q1,q2,q3,w1,w2,mi,wi,wj,hcF,hrF,wv3,g5]; all_goals tactic => exact rfl))
      · rw [t0]
        (sym => (simp [irem2,iquo2,remF,Za,Zb,Zc,Zd,Ze,Zf,Zg,Zh,Zi,Zj,Zl,Zm,Zn,Zo,Zp,Zq,Zt,Zu,Zw,Zy,Zz,Z1,Z4,Z5,Z6,Z7,ZA,ZB,ZD,ZE,ZF,ZG,ZH,ZI,ZJ,ZK,ZL,ZM,ZN,ZO,ZP,ZQ,ZR,ZS,ZT,ZW,ZX,ZY,ZZ,Ye,Yf,Yg,Yh,Yi,Yo,Yp,Yq,Ys,Yt,Yu,Yv,Yz,Y2,Y3,Y4,Y6,Y8,YB,YF,YO,YQ,YT,YV,YX,YY,Xe,Xf,Xg,Xh,Xk,Xo,Xq,Xr,Xs,Xt,Xu,X0,Wc,Wn,Wo,Wq,Ww,Wx,Wz,W0,W3,W4,W5,W6,W7,W8,WA,WB,WC,WF,WG,WI,WJ,WK,WL,WM,WN,WO,WP,WQ,WR,WS,WT,WW,WX,WY,Vc,Vd,Vf,Vg,Vh,Vj,Vk,Vl,Vn,Vs,Vu,Vv,Vw,Vx,Vy,V0,VM,VN,VO,VP,VQ,VR,VS,VV,VW,VX,VY,VZ,Ub,Uc,Ud,Ue,Uf,Ug,Uj,Ul,Um,Un,Uo,Uq,Us,Uw,Ux,Uy,Uz,U0,U1,U2,U3,U4,U5,U6,U7,UE,UF,UG,UH,UM,UN,UO,UP,UR,US,UT,UV,UW,UX,UY,UZ,Ta,Tb,Tc,Td,Te,Tf,Ti,Tj,Tk,Tl,Tn,Tp,Tr,Ts,Tt,Tu,Tv,Tx,Tz,T0,T1,T2,T6,TA,Sc,Sf,Sg,Sy,Sz,S6,S7]; all_goals tactic => exact rfl))
      · exact rd
      · (sym => (simp [irem2,iquo2,remF,Za,Zb,Zc,Zd,Ze,Zf,Zg,Zh,Zi,Zj,Zl,Zm,Zn,Zo,Zp,Zq,Zt,Zu,Zw,Zy,Zz,Z1,Z4,Z5,Z6,Z7,ZA,ZB,ZD,ZE,ZF,ZG,ZH,ZI,ZJ,ZK,ZL,ZM,ZN,ZO,ZP,ZQ,ZR,ZS,ZT,ZW,ZX,ZY,ZZ,Ye,Yf,Yg,Yh,Yi,Yo,Yp,Yq,Ys,Yt,Yu,Yv,Yz,Y2,Y3,Y4,Y6,Y8,YB,YF,YO,YQ,YT,YV,YX,YY,Xe,Xf,Xg,Xh,Xk,Xo,Xq,Xr,Xs,Xt,Xu,X0,Wc,Wn,Wo,Wq,Ww,Wx,Wz,W0,W3,W4,W5,W6,W7,W8,WA,WB,WC,WF,WG,WI,WJ,WK,WL,WM,WN,WO,WP,WQ,WR,WS,WT,WW,WX,WY,Vc,Vd,Vf,Vg,Vh,Vj,Vk,Vl,Vn,Vs,Vu,Vv,Vw,Vx,Vy,V0,VM,VN,VO,VP,VQ,VR,VS,VV,VW,VX,VY,VZ,Ub,Uc,Ud,Ue,Uf,Ug,Uj,Ul,Um,Un,Uo,Uq,Us,Uw,Ux,Uy,Uz,U0,U1,U2,U3,U4,U5,U6,U7,UE,UF,UG,UH,UM,UN,UO,UP,UR,US,UT,UV,UW,UX,UY,UZ,Ta,Tb,Tc,Td,Te,Tf,Ti,Tj,Tk,Tl,Tn,Tp,Tr,Ts,Tt,Tu,Tv,Tx,Tz,T0,T1,T2,T6,TA,Sc,Sf,Sg,Sy,Sz,S6,S7,z]; all_goals tactic => exact rfl))
theorem round4c2z (hN : ls.length ≤ 9223372036854775807) {y x : P4} {wk q : Nat} {r c : Int} {sw : List Int} {L : List Sp} {ss : List Sm} {e : Sp}
    (hq : fs[q]? = some y) (hqm : tmZ 2 (fs.length : Int) = (q : Int)) (hnf : fs.length ≠ 0) (hx : ls[2]? = some x) (hxo : x.Ok)
    (e26 : runW progX 26 [.agg y.row] [] = some (.tup [.agg (fdC ss),rI sw],[])) (e27 : runW progX 27 [.agg (fdC ss)] [] = some (.tup [I (wk : Nat),I r,I 0],[])) (e28 : runW progX 28 [.agg (fdC ss)] [] = some (.tup [sR L,I 0],[]))
    (hsw : sw.length = 6) (hL : L.length = 6) (hwk : wk < 6) (hc : sw[wk]? = some c) (he : L[wk]? = some e) (he1 : e.lo ≤ c) (he2 : c ≤ e.hi)
    (hld : ld 2 = ldQ x) (hcF : cF 2 = c) (htF : tF 2 = tpN sw 6) (hrF : rF' 2 = r) (hlast : ls.length = 3) :
    headX 0 [0,1,5,7,8,9,10,11] (execW progX 4 0 none (match x4l1 with | .loop _ a => a | c => c) (envL [0,1,5,7,8,9,10,11] [rF fs,rF ls,.pt 0 0,.pt 1 0,.sl 8 0 1 2,.sl 9 0 1 2,.sl 10 0 1 2,I 2]) (hC2 us ld cF tF rF')) = some ([rF fs,rF ls,.pt 0 0,.pt 1 0,.sl 9 0 1 3,.sl 10 0 1 3,.sl 11 0 1 3,I 3],hC3z us ld cF tF rF') := by
  have hxl := lt_of hx
  have a1 : ((2 : Int) < (ls.length : Int)) = True := eq_true (by omega)
  have c1 : ((fs.length : Int) = 0) = False := eq_false (by omega)
  have k1 : (0 ≤ (q : Int)) = True := eq_true (by omega)
  have k2 : ((q : Int) < (fs.length : Int)) = True := eq_true (by have := lt_of hq; omega)
  have k3 : (0 ≤ (wk : Int)) = True := eq_true (by omega)
  have k4 : ((wk : Int) < (sw.length : Int)) = True := eq_true (by omega)
  have k5 : ((wk : Int) < 0) = False := eq_false (by omega)
  have k6 : ((sw.length : Int) ≤ (wk : Int)) = False := eq_false (by omega)
  have k7 : ((0 : Int) < (sw.length : Int)) = True := eq_true (by omega)
  have hLs : L.length = sw.length := by omega
  have d1 : (c < e.lo) = False := eq_false (by omega)
  have d2 : (e.hi < c) = False := eq_false (by omega)
  obtain ⟨s0,sw0⟩ := at_ix (l := sw) (i := 0) (by omega)
  have t0 : tpN sw 0 = s0 := by rw [tpN,getD_of sw0]
  have tn : tpN sw sw.length = tF 2 := by rw [hsw,htF]
  have rd := fun j (hj : j < sw.length) => round4b2 (us := us) (ld := ld) (cF := cF) (tF := tF) (rF' := rF') (fs := fs) (ls := ls) (wk := (wk : Int)) (r := r) hj (by omega)
  have z := UX (n := (sw.length : Int))
  have b1 := wr8 hxo.a
  have b2 := wr8 hxo.b
  have b3 := wr8 hxo.c
  have b4 := wr8 hxo.d
  obtain ⟨m1,n1⟩ := wr_u8 hxo.c 60 (by decide)
  obtain ⟨m2,n2⟩ := wr_u8 hxo.b 2 (by decide)
  obtain ⟨m3,n3⟩ := wr_u8 hxo.d 30 (by decide)
  obtain ⟨m4,n4⟩ := wr_u8 hxo.d 20 (by decide)
  have xa := hxo.a
  have l1 : (ld 2).k = ((x.b % 2 : Nat) : Int) := by rw [hld]; rfl
  have l2 : (ld 2).al = (x.a : Int) := by rw [hld]; rfl
  have l3 : (ld 2).ah = (x.a : Int) + ((x.d % 30 : Nat) : Int) := by rw [hld]; rfl
  have l4 : (ld 2).cl = 1 + ((x.c % 60 : Nat) : Int) := by rw [hld]; rfl
  have l5 : (ld 2).ch = 1 + ((x.c % 60 : Nat) : Int) + ((x.d % 20 : Nat) : Int) := by rw [hld]; rfl
  have q1 : IntKind.i64.wrap (1 + ((x.c % 60 : Nat) : Int)) = (ld 2).cl := by rw [l4]; exact wrap_ok (by omega) (by omega)
  have q2 : IntKind.i64.wrap ((ld 2).al + ((x.d % 30 : Nat) : Int)) = (ld 2).ah := by rw [l2,l3]; exact wrap_ok (by omega) (by omega)
  have q3 : IntKind.i64.wrap ((ld 2).cl + ((x.d % 20 : Nat) : Int)) = (ld 2).ch := by rw [l4,l5]; exact wrap_ok (by omega) (by omega)
  rw [← l1] at m2
  have b1 : IntKind.i64.wrap (x.a : Int) = (ld 2).al := by rw [l2]; exact b1
  have m1 : tmZ (x.c : Int) 60 = ((x.c % 60 : Nat) : Int) := m1
  have m2 : tmZ (x.b : Int) 2 = (ld 2).k := m2
  have m3 : tmZ (x.d : Int) 30 = ((x.d % 30 : Nat) : Int) := m3
  have m4 : tmZ (x.d : Int) 20 = ((x.d % 20 : Nat) : Int) := m4
  have w1 := w25 (ld 2).al (ld 2).ah
  have w2 := w25 (ld 2).cl (ld 2).ch
  have mi : tmZ 2 2 = 0 := rfl
  have wi : IntKind.i64.wrap (2 + 1) = 3 := rfl
  have wj : IntKind.i64.wrap (2 - 1) = 1 := rfl
  clear l1 l2 l3 l4 l5 n1 n2 n3 n4 hld htF hwk xa hxo
  have wv3 : IntKind.i64.wrap ((ls.length : Int) - 1) = 2 := by rw [hlast]; rfl
  unfold x4l1
  dsimp only
  sym =>
    simp [irem2,iquo2,remF,Za,Zb,Zc,Zd,Ze,Zf,Zg,Zh,Zi,Zj,Zl,Zm,Zn,Zo,Zp,Zq,Zs,Zt,Zu,Zw,Zy,Zz,Z1,Z4,Z5,Z6,Z7,ZA,ZB,ZD,ZE,ZF,ZG,ZH,ZI,ZJ,ZK,ZL,ZM,ZN,ZO,ZP,ZQ,ZR,ZS,ZT,ZW,ZX,ZY,ZZ,Ye,Yf,Yg,Yh,Yi,Yo,Yp,Yq,Ys,Yt,Yu,Yv,Yz,Y2,Y4,Y6,Y8,YB,YF,YO,YQ,YT,YV,YX,YY,Xe,Xf,Xg,Xh,Xk,Xo,Xq,Xr,Xs,Xt,Xu,X0,Wc,Wn,Wo,Wq,Ww,Wx,Wz,W0,W3,W4,W5,W6,W7,W8,WA,WB,WC,WF,WG,WI,WJ,WK,WL,WM,WN,WO,WP,WQ,WR,WS,WT,WW,WX,WY,Vc,Vd,Vf,Vg,Vh,Vj,Vk,Vl,Vn,Vs,Vu,Vv,Vw,Vx,Vy,V0,VM,VN,VO,VP,VQ,VR,VV,VW,VX,VY,VZ,Ub,Uc,Ud,Ue,Uf,Ug,Uj,Ul,Um,Un,Uo,Uq,Us,Uw,Ux,Uy,Uz,U0,U1,U2,U3,U4,U5,U6,U7,UE,UF,UG,UH,UM,UN,UO,UP,UR,US,UT,UV,UW,UX,UY,UZ,Ta,Tb,Tc,Td,Te,Tf,Ti,Tj,Tk,Tl,Tn,Tp,Tr,Ts,Tt,Tu,Tv,Tx,Tz,T0,T1,T2,T6,TA,Sc,Sf,Sg,Sy,Sz,S6,S7,a1,c1,hqm,hq,k1,k2,e26,e27,e28,hLs,k3,k4,k5,k6,k7,hc,he,d1,d2,sw0]
    tactic =>
      unfold x4l0
      rw [loop_rule sw.length (fun j => [rF fs,rF ls,.pt 0 0,.pt 1 0,.sl 8 0 1 2,.sl 9 0 1 2,.sl 10 0 1 2,I 2,rI sw,I (wk : Nat),I r,I (tpN sw j),rI sw,I sw.length,I (j : Nat)]) (fun _ => hC2 us ld cF tF rF')]
      · rw [tn]
        (sym => (simp [irem2,iquo2,remF,Za,Zb,Zc,Zd,Ze,Zf,Zg,Zh,Zi,Zj,Zl,Zm,Zn,Zo,Zp,Zq,Zs,Zt,Zu,Zw,Zy,Zz,Z1,Z4,Z5,Z6,Z7,ZA,ZB,ZD,ZE,ZF,ZG,ZH,ZI,ZJ,ZK,ZL,ZM,ZN,ZO,ZP,ZQ,ZR,ZS,ZT,ZW,ZX,ZY,ZZ,Ye,Yf,Yg,Yh,Yi,Yo,Yp,Yq,Ys,Yt,Yu,Yv,Yz,Y2,Y4,Y6,Y8,YB,YF,YO,YQ,YT,YV,YX,YY,Xe,Xf,Xg,Xh,Xk,Xo,Xq,Xr,Xs,Xt,Xu,X0,Wc,Wn,Wo,Wq,Ww,Wx,Wz,W0,W3,W4,W5,W6,W7,W8,WA,WB,WC,WF,WG,WI,WJ,WK,WL,WM,WN,WO,WP,WQ,WR,WS,WT,WW,WX,WY,Vc,Vd,Vf,Vg,Vh,Vj,Vk,Vl,Vn,Vs,Vu,Vv,Vw,Vx,Vy,V0,VM,VN,VO,VP,VQ,VR,VV,VW,VX,VY,VZ,Ub,Uc,Ud,Ue,Uf,Ug,Uj,Ul,Um,Un,Uo,Uq,Us,Uw,Ux,Uy,Uz,U0,U1,U2,U3,U4,U5,U6,U7,UE,UF,UG,UH,UM,UN,UO,UP,UR,US,UT,UV,UW,UX,UY,UZ,Ta,Tb,Tc,Td,Te,Tf,Ti,Tj,Tk,Tl,Tn,Tp,Tr,Ts,Tt,Tu,Tv,Tx,Tz,T0,T1,T2,T6,TA,Sc,Sf,Sg,Sy,Sz,S6,S7,z,hLs,hc,he,k3,k4,k5,k6,k7,d1,d2,tn,sw0,hx,a1,b1,b2,b3,b4,m1,m2,m3,m4,q1,q2,q3,w1,w2,mi,wi,wj,hcF,hrF,wv3]; all_goals tactic => exact rfl))
      · rw [t0]
        (sym => (simp [irem2,iquo2,remF,Za,Zb,Zc,Zd,Ze,Zf,Zg,Zh,Zi,Zj,Zl,Zm,Zn,Zo,Zp,Zq,Zs,Zt,Zu,Zw,Zy,Zz,Z1,Z4,Z5,Z6,Z7,ZA,ZB,ZD,ZE,ZF,ZG,ZH,ZI,ZJ,ZK,ZL,ZM,ZN,ZO,ZP,ZQ,ZR,ZS,ZT,ZW,ZX,ZY,ZZ,Ye,Yf,Yg,Yh,Yi,Yo,Yp,Yq,Ys,Yt,Yu,Yv,Yz,Y2,Y4,Y6,Y8,YB,YF,YO,YQ,YT,YV,YX,YY,Xe,Xf,Xg,Xh,Xk,Xo,Xq,Xr,Xs,Xt,Xu,X0,Wc,Wn,Wo,Wq,Ww,Wx,Wz,W0,W3,W4,W5,W6,W7,W8,WA,WB,WC,WF,WG,WI,WJ,WK,WL,WM,WN,WO,WP,WQ,WR,WS,WT,WW,WX,WY,Vc,Vd,Vf,Vg,Vh,Vj,Vk,Vl,Vn,Vs,Vu,Vv,Vw,Vx,Vy,V0,VM,VN,VO,VP,VQ,VR,VV,VW,VX,VY,VZ,Ub,Uc,Ud,Ue,Uf,Ug,Uj,Ul,Um,Un,Uo,Uq,Us,Uw,Ux,Uy,Uz,U0,U1,U2,U3,U4,U5,U6,U7,UE,UF,UG,UH,UM,UN,UO,UP,UR,US,UT,UV,UW,UX,UY,UZ,Ta,Tb,Tc,Td,Te,Tf,Ti,Tj,Tk,Tl,Tn,Tp,Tr,Ts,Tt,Tu,Tv,Tx,Tz,T0,T1,T2,T6,TA,Sc,Sf,Sg,Sy,Sz,S6,S7]; all_goals tactic => exact rfl))
      · exact rd
      · (sym => (simp [irem2,iquo2,remF,Za,Zb,Zc,Zd,Ze,Zf,Zg,Zh,Zi,Zj,Zl,Zm,Zn,Zo,Zp,Zq,Zs,Zt,Zu,Zw,Zy,Zz,Z1,Z4,Z5,Z6,Z7,ZA,ZB,ZD,ZE,ZF,ZG,ZH,ZI,ZJ,ZK,ZL,ZM,ZN,ZO,ZP,ZQ,ZR,ZS,ZT,ZW,ZX,ZY,ZZ,Ye,Yf,Yg,Yh,Yi,Yo,Yp,Yq,Ys,Yt,Yu,Yv,Yz,Y2,Y4,Y6,Y8,YB,YF,YO,YQ,YT,YV,YX,YY,Xe,Xf,Xg,Xh,Xk,Xo,Xq,Xr,Xs,Xt,Xu,X0,Wc,Wn,Wo,Wq,Ww,Wx,Wz,W0,W3,W4,W5,W6,W7,W8,WA,WB,WC,WF,WG,WI,WJ,WK,WL,WM,WN,WO,WP,WQ,WR,WS,WT,WW,WX,WY,Vc,Vd,Vf,Vg,Vh,Vj,Vk,Vl,Vn,Vs,Vu,Vv,Vw,Vx,Vy,V0,VM,VN,VO,VP,VQ,VR,VV,VW,VX,VY,VZ,Ub,Uc,Ud,Ue,Uf,Ug,Uj,Ul,Um,Un,Uo,Uq,Us,Uw,Ux,Uy,Uz,U0,U1,U2,U3,U4,U5,U6,U7,UE,UF,UG,UH,UM,UN,UO,UP,UR,US,UT,UV,UW,UX,UY,UZ,Ta,Tb,Tc,Td,Te,Tf,Ti,Tj,Tk,Tl,Tn,Tp,Tr,Ts,Tt,Tu,Tv,Tx,Tz,T0,T1,T2,T6,TA,Sc,Sf,Sg,Sy,Sz,S6,S7,z]; all_goals tactic => exact rfl))
theorem round4c3 (hN : ls.length ≤ 9223372036854775807) {y x : P4} {wk q : Nat} {r c : Int} {sw : List Int} {L : List Sp} {ss : List Sm} {e : Sp}
    (hq : fs[q]? = some y) (hqm : tmZ 3 (fs.length : Int) = (q : Int)) (hnf : fs.length ≠ 0) (hx : ls[3]? = some x) (hxo : x.Ok)
    (e26 : runW progX 26 [.agg y.row] [] = some (.tup [.agg (fdC ss),rI sw],[])) (e27 : runW progX 27 [.agg (fdC ss)] [] = some (.tup [I (wk : Nat),I r,I 0],[])) (e28 : runW progX 28 [.agg (fdC ss)] [] = some (.tup [sR L,I 0],[]))
    (hsw : sw.length = 6) (hL : L.length = 6) (hwk : wk < 6) (hc : sw[wk]? = some c) (he : L[wk]? = some e) (he1 : e.lo ≤ c) (he2 : c ≤ e.hi)
    (hld : ld 3 = ldQ x) (hcF : cF 3 = c) (htF : tF 3 = tpN sw 6) (hrF : rF' 3 = r) :
    headX 0 [0,1,5,7,8,9,10,11] (execW progX 4 0 none (match x4l1 with | .loop _ a => a | c => c) (envL [0,1,5,7,8,9,10,11] [rF fs,rF ls,.pt 0 0,.pt 1 0,.sl 8 0 1 3,.sl 9 0 1 3,.sl 10 0 1 3,I 3]) (hC3 us ld cF tF rF')) = some ([rF fs,rF ls,.pt 0 0,.pt 1 0,.sl 9 0 1 4,.sl 10 0 1 4,.sl 11 0 1 4,I 4],hC4 us ld cF tF rF') := by
  have hxl := lt_of hx
  have a1 : ((3 : Int) < (ls.length : Int)) = True := eq_true (by omega)
  have c1 : ((fs.length : Int) = 0) = False := eq_false (by omega)
  have k1 : (0 ≤ (q : Int)) = True := eq_true (by omega)
  have k2 : ((q : Int) < (fs.length : Int)) = True := eq_true (by have := lt_of hq; omega)
  have k3 : (0 ≤ (wk : Int)) = True := eq_true (by omega)
  have k4 : ((wk : Int) < (sw.length : Int)) = True := eq_true (by omega)
  have k5 : ((wk : Int) < 0) = False := eq_false (by omega)
  have k6 : ((sw.length : Int) ≤ (wk : Int)) = False := eq_false (by omega)
  have k7 : ((0 : Int) < (sw.length : Int)) = True := eq_true (by omega)
  have hLs : L.length = sw.length := by omega
  have d1 : (c < e.lo) = False := eq_false (by omega)
  have d2 : (e.hi < c) = False := eq_false (by omega)
  obtain ⟨s0,sw0⟩ := at_ix (l := sw) (i := 0) (by omega)
  have t0 : tpN sw 0 = s0 := by rw [tpN,getD_of sw0]
  have tn : tpN sw sw.length = tF 3 := by rw [hsw,htF]
  have rd := fun j (hj : j < sw.length) => round4b3 (us := us) (ld := ld) (cF := cF) (tF := tF) (rF' := rF') (fs := fs) (ls := ls) (wk := (wk : Int)) (r := r) hj (by omega)
  have z := UX (n := (sw.length : Int))
  have b1 := wr8 hxo.a
  have b2 := wr8 hxo.b
  have b3 := wr8 hxo.c
  have b4 := wr8 hxo.d
  obtain ⟨m1,n1⟩ := wr_u8 hxo.c 60 (by decide)
  obtain ⟨m2,n2⟩ := wr_u8 hxo.b 2 (by decide)
  obtain ⟨m3,n3⟩ := wr_u8 hxo.d 30 (by decide)
  obtain ⟨m4,n4⟩ := wr_u8 hxo.d 20 (by decide)
  have xa := hxo.a
  have l1 : (ld 3).k = ((x.b % 2 : Nat) : Int) := by rw [hld]; rfl
  have l2 : (ld 3).al = (x.a : Int) := by rw [hld]; rfl
  have l3 : (ld 3).ah = (x.a : Int) + ((x.d % 30 : Nat) : Int) := by rw [hld]; rfl
  have l4 : (ld 3).cl = 1 + ((x.c % 60 : Nat) : Int) := by rw [hld]; rfl
  have l5 : (ld 3).ch = 1 + ((x.c % 60 : Nat) : Int) + ((x.d % 20 : Nat) : Int) := by rw [hld]; rfl
  have q1 : IntKind.i64.wrap (1 + ((x.c % 60 : Nat) : Int)) = (ld 3).cl := by rw [l4]; exact wrap_ok (by omega) (by omega)
  have q2 : IntKind.i64.wrap ((ld 3).al + ((x.d % 30 : Nat) : Int)) = (ld 3).ah := by rw [l2,l3]; exact wrap_ok (by omega) (by omega)
  have q3 : IntKind.i64.wrap ((ld 3).cl + ((x.d % 20 : Nat) : Int)) = (ld 3).ch := by rw [l4,l5]; exact wrap_ok (by omega) (by omega)
  rw [← l1] at m2
  have b1 : IntKind.i64.wrap (x.a : Int) = (ld 3).al := by rw [l2]; exact b1
  have m1 : tmZ (x.c : Int) 60 = ((x.c % 60 : Nat) : Int) := m1
  have m2 : tmZ (x.b : Int) 2 = (ld 3).k := m2
  have m3 : tmZ (x.d : Int) 30 = ((x.d % 30 : Nat) : Int) := m3
  have m4 : tmZ (x.d : Int) 20 = ((x.d % 20 : Nat) : Int) := m4
  have w1 := w25 (ld 3).al (ld 3).ah
  have w2 := w25 (ld 3).cl (ld 3).ch
  have mi : tmZ 3 2 = 1 := rfl
  have wi : IntKind.i64.wrap (3 + 1) = 4 := rfl
  have wj : IntKind.i64.wrap (3 - 1) = 2 := rfl
  clear l1 l2 l3 l4 l5 n1 n2 n3 n4 hld htF hwk xa hxo
  unfold x4l1
  dsimp only
  sym =>
    simp [irem2,iquo2,remF,Za,Zb,Zc,Zd,Ze,Zf,Zg,Zh,Zi,Zj,Zl,Zm,Zn,Zo,Zp,Zq,Zt,Zu,Zw,Zy,Zz,Z1,Z4,Z5,Z6,Z7,ZA,ZB,ZD,ZE,ZF,ZG,ZH,ZI,ZJ,ZK,ZL,ZM,ZN,ZO,ZP,ZQ,ZR,ZS,ZT,ZW,ZX,ZY,ZZ,Ye,Yf,Yg,Yh,Yi,Yo,Yp,Yq,Ys,Yt,Yu,Yv,Yy,Y0,Y2,Y3,Y4,Y6,Y8,YB,YF,YO,YQ,YT,YV,YX,YY,Xe,Xf,Xg,Xh,Xk,Xo,Xq,Xr,Xs,Xt,Xu,X0,Wc,Wn,Wo,Wq,Ww,Wx,Wz,W0,W3,W4,W5,W6,W7,W8,WA,WB,WC,WF,WG,WI,WJ,WK,WL,WM,WN,WO,WP,WQ,WR,WS,WT,WW,WX,WY,Vc,Vd,Vf,Vg,Vh,Vj,Vk,Vl,Vn,Vs,Vu,Vv,Vw,Vx,Vy,V0,VM,VN,VO,VP,VQ,VR,VS,VV,VW,VX,VY,VZ,Ub,Uc,Ud,Ue,Uf,Ug,Uj,Ul,Um,Un,Uo,Uq,Us,Uw,Ux,Uy,Uz,U0,U1,U2,U3,U4,U5,U6,U7,UE,UF,UG,UH,UM,UN,UO,UP,UR,US,UT,UV,UW,UX,UY,UZ,Ta,Tb,Tc,Td,Te,Tf,Ti,Tj,Tk,Tl,Tn,Tp,Tr,Ts,Tt,Tu,Tv,Tx,Tz,T0,T1,T2,T6,TA,TB,Sc,Sf,Sg,Sy,Sz,S6,S7,a1,c1,hqm,hq,k1,k2,e26,e27,e28,hLs,k3,k4,k5,k6,k7,hc,he,d1,d2,sw0]
    tactic =>
      unfold x4l0
      rw [loop_rule sw.length (fun j => [rF fs,rF ls,.pt 0 0,.pt 1 0,.sl 8 0 1 3,.sl 9 0 1 3,.sl 10 0 1 3,I 3,rI sw,I (wk : Nat),I r,I (tpN sw j),rI sw,I sw.length,I (j : Nat)]) (fun _ => hC3 us ld cF tF rF')]
      · rw [tn]
        (sym => (simp [irem2,iquo2,remF,Za,Zb,Zc,Zd,Ze,Zf,Zg,Zh,Zi,Zj,Zl,Zm,Zn,Zo,Zp,Zq,Zt,Zu,Zw,Zy,Zz,Z1,Z4,Z5,Z6,Z7,ZA,ZB,ZD,ZE,ZF,ZG,ZH,ZI,ZJ,ZK,ZL,ZM,ZN,ZO,ZP,ZQ,ZR,ZS,ZT,ZW,ZX,ZY,ZZ,Ye,Yf,Yg,Yh,Yi,Yo,Yp,Yq,Ys,Yt,Yu,Yv,Yy,Y0,Y2,Y3,Y4,Y6,Y8,YB,YF,YO,YQ,YT,YV,YX,YY,Xe,Xf,Xg,Xh,Xk,Xo,Xq,Xr,Xs,Xt,Xu,X0,Wc,Wn,Wo,Wq,Ww,Wx,Wz,W0,W3,W4,W5,W6,W7,W8,WA,WB,WC,WF,WG,WI,WJ,WK,WL,WM,WN,WO,WP,WQ,WR,WS,WT,WW,WX,WY,Vc,Vd,Vf,Vg,Vh,Vj,Vk,Vl,Vn,Vs,Vu,Vv,Vw,Vx,Vy,V0,VM,VN,VO,VP,VQ,VR,VS,VV,VW,VX,VY,VZ,Ub,Uc,Ud,Ue,Uf,Ug,Uj,Ul,Um,Un,Uo,Uq,Us,Uw,Ux,Uy,Uz,U0,U1,U2,U3,U4,U5,U6,U7,UE,UF,UG,UH,UM,UN,UO,UP,UR,US,UT,UV,UW,UX,UY,UZ,Ta,Tb,Tc,Td,Te,Tf,Ti,Tj,Tk,Tl,Tn,Tp,Tr,Ts,Tt,Tu,Tv,Tx,Tz,T0,T1,T2,T6,TA,TB,Sc,Sf,Sg,Sy,Sz,S6,S7,z,hLs,hc,he,k3,k4,k5,k6,k7,d1,d2,tn,sw0,hx,a1,b1,b2,b3,b4,m1,m2,m3,m4,q1,q2,q3,w1,w2,mi,wi,wj,hcF,hrF]; all_goals tactic => exact rfl))
      · rw [t0]
        (sym => (simp [irem2,iquo2,remF,Za,Zb,Zc,Zd,Ze,Zf,Zg,Zh,Zi,Zj,Zl,Zm,Zn,Zo,Zp,Zq,Zt,Zu,Zw,Zy,Zz,Z1,Z4,Z5,Z6,Z7,ZA,ZB,ZD,ZE,ZF,ZG,ZH,ZI,ZJ,ZK,ZL,ZM,ZN,ZO,ZP,ZQ,ZR,ZS,ZT,ZW,ZX,ZY,ZZ,Ye,Yf,Yg,Yh,Yi,Yo,Yp,Yq,Ys,Yt,Yu,Yv,Yy,Y0,Y2,Y3,Y4,Y6,Y8,YB,YF,YO,YQ,YT,YV,YX,YY,Xe,Xf,Xg,Xh,Xk,Xo,Xq,Xr,Xs,Xt,Xu,X0,Wc,Wn,Wo,Wq,Ww,Wx,Wz,W0,W3,W4,W5,W6,W7,W8,WA,WB,WC,WF,WG,WI,WJ,WK,WL,WM,WN,WO,WP,WQ,WR,WS,WT,WW,WX,WY,Vc,Vd,Vf,Vg,Vh,Vj,Vk,Vl,Vn,Vs,Vu,Vv,Vw,Vx,Vy,V0,VM,VN,VO,VP,VQ,VR,VS,VV,VW,VX,VY,VZ,Ub,Uc,Ud,Ue,Uf,Ug,Uj,Ul,Um,Un,Uo,Uq,Us,Uw,Ux,Uy,Uz,U0,U1,U2,U3,U4,U5,U6,U7,UE,UF,UG,UH,UM,UN,UO,UP,UR,US,UT,UV,UW,UX,UY,UZ,Ta,Tb,Tc,Td,Te,Tf,Ti,Tj,Tk,Tl,Tn,Tp,Tr,Ts,Tt,Tu,Tv,Tx,Tz,T0,T1,T2,T6,TA,TB,Sc,Sf,Sg,Sy,Sz,S6,S7]; all_goals tactic => exact rfl))
      · exact rd
      · (sym => (simp [irem2,iquo2,remF,Za,Zb,Zc,Zd,Ze,Zf,Zg,Zh,Zi,Zj,Zl,Zm,Zn,Zo,Zp,Zq,Zt,Zu,Zw,Zy,Zz,Z1,Z4,Z5,Z6,Z7,ZA,ZB,ZD,ZE,ZF,ZG,ZH,ZI,ZJ,ZK,ZL,ZM,ZN,ZO,ZP,ZQ,ZR,ZS,ZT,ZW,ZX,ZY,ZZ,Ye,Yf,Yg,Yh,Yi,Yo,Yp,Yq,Ys,Yt,Yu,Yv,Yy,Y0,Y2,Y3,Y4,Y6,Y8,YB,YF,YO,YQ,YT,YV,YX,YY,Xe,Xf,Xg,Xh,Xk,Xo,Xq,Xr,Xs,Xt,Xu,X0,Wc,Wn,Wo,Wq,Ww,Wx,Wz,W0,W3,W4,W5,W6,W7,W8,WA,WB,WC,WF,WG,WI,WJ,WK,WL,WM,WN,WO,WP,WQ,WR,WS,WT,WW,WX,WY,Vc,Vd,Vf,Vg,Vh,Vj,Vk,Vl,Vn,Vs,Vu,Vv,Vw,Vx,Vy,V0,VM,VN,VO,VP,VQ,VR,VS,VV,VW,VX,VY,VZ,Ub,Uc,Ud,Ue,Uf,Ug,Uj,Ul,Um,Un,Uo,Uq,Us,Uw,Ux,Uy,Uz,U0,U1,U2,U3,U4,U5,U6,U7,UE,UF,UG,UH,UM,UN,UO,UP,UR,US,UT,UV,UW,UX,UY,UZ,Ta,Tb,Tc,Td,Te,Tf,Ti,Tj,Tk,Tl,Tn,Tp,Tr,Ts,Tt,Tu,Tv,Tx,Tz,T0,T1,T2,T6,TA,TB,Sc,Sf,Sg,Sy,Sz,S6,S7,z]; all_goals tactic => exact rfl))
theorem round4c4z (hN : ls.length ≤ 9223372036854775807) {y x : P4} {wk q : Nat} {r c : Int} {sw : List Int} {L : List Sp} {ss : List Sm} {e : Sp}
    (hq : fs[q]? = some y) (hqm : tmZ 4 (fs.length : Int) = (q : Int)) (hnf : fs.length ≠ 0) (hx : ls[4]? = some x) (hxo : x.Ok)
    (e26 : runW progX 26 [.agg y.row] [] = some (.tup [.agg (fdC ss),rI sw],[])) (e27 : runW progX 27 [.agg (fdC ss)] [] = some (.tup [I (wk : Nat),I r,I 0],[])) (e28 : runW progX 28 [.agg (fdC ss)] [] = some (.tup [sR L,I 0],[]))
    (hsw : sw.length = 6) (hL : L.length = 6) (hwk : wk < 6) (hc : sw[wk]? = some c) (he : L[wk]? = some e) (he1 : e.lo ≤ c) (he2 : c ≤ e.hi)
    (hld : ld 4 = ldQ x) (hcF : cF 4 = c) (htF : tF 4 = tpN sw 6) (hrF : rF' 4 = r) :
    headX 0 [0,1,5,7,8,9,10,11] (execW progX 4 0 none (match x4l1 with | .loop _ a => a | c => c) (envL [0,1,5,7,8,9,10,11] [rF fs,rF ls,.pt 0 0,.pt 1 0,.sl 9 0 1 4,.sl 10 0 1 4,.sl 11 0 1 4,I 4]) (hC4 us ld cF tF rF')) = some ([rF fs,rF ls,.pt 0 0,.pt 1 0,.sl 10 0 1 5,.sl 11 0 1 5,.sl 12 0 1 5,I 5],hC5z us ld cF tF rF') := by
  have hxl := lt_of hx
  have a1 : ((4 : Int) < (ls.length : Int)) = True := eq_true (by omega)
  have c1 : ((fs.length : Int) = 0) = False := eq_false (by omega)
  have k1 : (0 ≤ (q : Int)) = True := eq_true (by omega)
  have k2 : ((q : Int) < (fs.length : Int)) = True := eq_true (by have := lt_of hq; omega)
  have k3 : (0 ≤ (wk : Int)) = True := eq_true (by omega)
  have k4 : ((wk : Int) < (sw.length : Int)) = True := eq_true (by omega)
  have k5 : ((wk : Int) < 0) = False := eq_false (by omega)
  have k6 : ((sw.length : Int) ≤ (wk : Int)) = False := eq_false (by omega)
  have k7 : ((0 : Int) < (sw.length : Int)) = True := eq_true (by omega)
  have hLs : L.length = sw.length := by omega
  have d1 : (c < e.lo) = False := eq_false (by omega)
  have d2 : (e.hi < c) = False := eq_false (by omega)
  obtain ⟨s0,sw0⟩ := at_ix (l := sw) (i := 0) (by omega)
  have t0 : tpN sw 0 = s0 := by rw [tpN,getD_of sw0]
  have tn : tpN sw sw.length = tF 4 := by rw [hsw,htF]
  have rd := fun j (hj : j < sw.length) => round4b4 (us := us) (ld := ld) (cF := cF) (tF := tF) (rF' := rF') (fs := fs) (ls := ls) (wk := (wk : Int)) (r := r) hj (by omega)
  have z := UX (n := (sw.length : Int))
  have b1 := wr8 hxo.a
  have b2 := wr8 hxo.b
  have b3 := wr8 hxo.c
  have b4 := wr8 hxo.d
  obtain ⟨m1,n1⟩ := wr_u8 hxo.c 60 (by decide)
  obtain ⟨m2,n2⟩ := wr_u8 hxo.b 2 (by decide)
  obtain ⟨m3,n3⟩ := wr_u8 hxo.d 30 (by decide)
  obtain ⟨m4,n4⟩ := wr_u8 hxo.d 20 (by decide)
  have xa := hxo.a
  have l1 : (ld 4).k = ((x.b % 2 : Nat) : Int) := by rw [hld]; rfl
  have l2 : (ld 4).al = (x.a : Int) := by rw [hld]; rfl
  have l3 : (ld 4).ah = (x.a : Int) + ((x.d % 30 : Nat) : Int) := by rw [hld]; rfl
  have l4 : (ld 4).cl = 1 + ((x.c % 60 : Nat) : Int) := by rw [hld]; rfl
  have l5 : (ld 4).ch = 1 + ((x.c % 60 : Nat) : Int) + ((x.d % 20 : Nat) : Int) := by rw [hld]; rfl
  have q1 : IntKind.i64.wrap (1 + ((x.c % 60 : Nat) : Int)) = (ld 4).cl := by rw [l4]; exact wrap_ok (by omega) (by omega)
  have q2 : IntKind.i64.wrap ((ld 4).al + ((x.d % 30 : Nat) : Int)) = (ld 4).ah := by rw [l2,l3]; exact wrap_ok (by omega) (by omega)
  have q3 : IntKind.i64.wrap ((ld 4).cl + ((x.d % 20 : Nat) : Int)) = (ld 4).ch := by rw [l4,l5]; exact wrap_ok (by omega) (by omega)
  rw [← l1] at m2
  have b1 : IntKind.i64.wrap (x.a : Int) = (ld 4).al := by rw [l2]; exact b1
  have m1 : tmZ (x.c : Int) 60 = ((x.c % 60 : Nat) : Int) := m1
  have m2 : tmZ (x.b : Int) 2 = (ld 4).k := m2
  have m3 : tmZ (x.d : Int) 30 = ((x.d % 30 : Nat) : Int) := m3
  have m4 : tmZ (x.d : Int) 20 = ((x.d % 20 : Nat) : Int) := m4
  have w1 := w25 (ld 4).al (ld 4).ah
  have w2 := w25 (ld 4).cl (ld 4).ch
  have mi : tmZ 4 2 = 0 := rfl
  have wi : IntKind.i64.wrap (4 + 1) = 5 := rfl
  have wj : IntKind.i64.wrap (4 - 1) = 3 := rfl
  clear l1 l2 l3 l4 l5 n1 n2 n3 n4 hld htF hwk xa hxo
  have wv3 : IntKind.i64.wrap ((ls.length : Int) - 1) = (ls.length : Int) - 1 := wrap_ok (by omega) (by omega)
  rcases ptf ((4 : Int) = (ls.length : Int) - 1) with g5 | g5
  · unfold x4l1
    dsimp only
    sym =>
      simp [irem2,iquo2,remF,Za,Zb,Zc,Zd,Ze,Zf,Zg,Zh,Zi,Zj,Zl,Zm,Zn,Zo,Zp,Zq,Zs,Zt,Zu,Zw,Zy,Zz,Z1,Z4,Z5,Z6,Z7,ZA,ZB,ZD,ZE,ZF,ZG,ZH,ZI,ZJ,ZK,ZL,ZM,ZN,ZO,ZP,ZQ,ZR,ZS,ZT,ZW,ZX,ZY,ZZ,Ye,Yf,Yg,Yh,Yi,Yo,Yp,Yq,Ys,Yt,Yu,Yv,Y1,Y2,Y3,Y4,Y6,Y8,YA,YB,YF,YO,YQ,YT,YV,YX,YY,Xe,Xf,Xg,Xh,Xk,Xo,Xq,Xr,Xs,Xt,Xu,X0,Wc,Wn,Wo,Wq,Ww,Wx,Wz,W0,W3,W4,W5,W6,W7,W8,WA,WB,WC,WF,WG,WI,WJ,WK,WL,WM,WN,WO,WP,WQ,WR,WS,WT,WW,WX,WY,Vc,Vd,Vf,Vg,Vh,Vj,Vk,Vl,Vn,Vs,Vu,Vv,Vw,Vx,Vy,V0,VM,VN,VO,VP,VQ,VR,VS,VV,VW,VX,VY,VZ,Ub,Uc,Ud,Ue,Uf,Ug,Uj,Ul,Um,Un,Uo,Uq,Us,Uw,Ux,Uy,Uz,U0,U1,U2,U3,U4,U5,U6,U7,UE,UF,UG,UH,UM,UN,UO,UP,UR,US,UT,UV,UW,UX,UY,UZ,Ta,Tb,Tc,Td,Te,Tf,Ti,Tj,Tk,Tl,Tn,Tp,Tr,Ts,Tt,Tu,Tv,Tx,Tz,T0,T1,T2,T6,TA,Sc,Sf,Sg,Sy,Sz,S6,S7,a1,c1,hqm,hq,k1,k2,e26,e27,e28,hLs,k3,k4,k5,k6,k7,hc,he,d1,d2,sw0]
      tactic =>
        unfold x4l0
        rw [loop_rule sw.length (fun j => [rF fs,rF ls,.pt 0 0,.pt 1 0,.sl 9 0 1 4,.sl 10 0 1 4,.sl 11 0 1 4,I 4,rI sw,I (wk : Nat),I r,I (tpN sw j),rI sw,I sw.length,I (j : Nat)]) (fun _ => hC4 us ld cF tF rF')]
        · rw [tn]
          (sym => (simp [irem2,iquo2,remF,Za,Zb,Zc,Zd,Ze,Zf,Zg,Zh,Zi,Zj,Zl,Zm,Zn,Zo,Zp,Zq,Zs,Zt,Zu,Zw,Zy,Zz,Z1,Z4,Z5,Z6,Z7,ZA,ZB,ZD,ZE,ZF,ZG,ZH,ZI,ZJ,ZK,ZL,ZM,ZN,ZO,ZP,ZQ,ZR,ZS,ZT,ZW,ZX,ZY,ZZ,Ye,Yf,Yg,Yh,Yi,Yo,Yp,Yq,Ys,Yt,Yu,Yv,Y1,Y2,Y3,Y4,Y6,Y8,YA,YB,YF,YO,YQ,YT,YV,YX,YY,Xe,Xf,Xg,Xh,Xk,Xo,Xq,Xr,Xs,Xt,Xu,X0,Wc,Wn,Wo,Wq,Ww,Wx,Wz,W0,W3,W4,W5,W6,W7,W8,WA,WB,WC,WF,WG,WI,WJ,WK,WL,WM,WN,WO,WP,WQ,WR,WS,WT,WW,WX,WY,Vc,Vd,Vf,Vg,Vh,Vj,Vk,Vl,Vn,Vs,Vu,Vv,Vw,Vx,Vy,V0,VM,VN,VO,VP,VQ,VR,VS,VV,VW,VX,VY,VZ,Ub,Uc,Ud,Ue,Uf,Ug,Uj,Ul,Um,Un,Uo,Uq,Us,Uw,Ux,Uy,Uz,U0,U1,U2,U3,U4,U5,U6,U7,UE,UF,UG,UH,UM,UN,UO,UP,UR,US,UT,UV,UW,UX,UY,UZ,Ta,Tb,Tc,Td,Te,Tf,Ti,Tj,Tk,Tl,Tn,Tp,Tr,Ts,Tt,Tu,Tv,Tx,Tz,T0,T1,T2,T6,TA,Sc,Sf,Sg,Sy,Sz,S6,S7,z,hLs,hc,he,k3,k4,k5,k6,k7,d1,d2,tn,sw0,hx,a1,b1,b2,b3,b4,m1,m2,m3,m4,q1,q2,q3,w1,w2,mi,wi,wj,hcF,hrF,wv3,g5]; all_goals tactic => exact rfl))
        · rw [t0]
          (sym => (simp [irem2,iquo2,remF,Za,Zb,Zc,Zd,Ze,Zf,Zg,Zh,Zi,Zj,Zl,Zm,Zn,Zo,Zp,Zq,Zs,Zt,Zu,Zw,Zy,Zz,Z1,Z4,Z5,Z6,Z7,ZA,ZB,ZD,ZE,ZF,ZG,ZH,ZI,ZJ,ZK,ZL,ZM,ZN,ZO,ZP,ZQ,ZR,ZS,ZT,ZW,ZX,ZY,ZZ,Ye,Yf,Yg,Yh,Yi,Yo,Yp,Yq,Ys,Yt,Yu,Yv,Y1,Y2,Y3,Y4,Y6,Y8,YA,YB,YF,YO,YQ,YT,YV,YX,YY,Xe,Xf,Xg,Xh,Xk,Xo,Xq,Xr,Xs,Xt,Xu,X0,Wc,Wn,Wo,Wq,Ww,Wx,Wz,W0,W3,W4,W5,W6,W7,W8,WA,WB,WC,WF,WG,WI,WJ,WK,WL,WM,WN,WO,WP,WQ,WR,WS,WT,WW,WX,WY,Vc,Vd,Vf,Vg,Vh,Vj,Vk,Vl,Vn,Vs,Vu,Vv,Vw,Vx,Vy,V0,VM,VN,VO,VP,VQ,VR,VS,VV,VW,VX,VY,VZ,Ub,Uc,Ud,Ue,Uf,Ug,Uj,Ul,Um,Un,Uo,Uq,Us,Uw,Ux,Uy,Uz,U0,U1,U2,U3,U4,U5,U6,U7,UE,UF,UG,UH,UM,UN,UO,UP,UR,US,UT,UV,UW,UX,UY,UZ,Ta,Tb,Tc,Td,Te,Tf,Ti,Tj,Tk,Tl,Tn,Tp,Tr,Ts,Tt,Tu,Tv,Tx,Tz,T0,T1,T2,T6,TA,Sc,Sf,Sg,Sy,Sz,S6,S7]; all_goals tactic => exact rfl))
        · exact rd
        · (sym => (simp [irem2,iquo2,remF,Za,Zb,Zc,Zd,Ze,Zf,Zg,Zh,Zi,Zj,Zl,Zm,Zn,Zo,Zp,Zq,Zs,Zt,Zu,Zw,Zy,Zz,Z1,Z4,Z5,Z6,Z7,ZA,ZB,ZD,ZE,ZF,ZG,ZH,ZI,ZJ,ZK,ZL,ZM,ZN,ZO,ZP,ZQ,ZR,ZS,ZT,ZW,ZX,ZY,ZZ,Ye,Yf,Yg,Yh,Yi,Yo,Yp,Yq,Ys,Yt,Yu,Yv,Y1,Y2,Y3,Y4,Y6,Y8,YA,YB,YF,YO,YQ,YT,YV,YX,YY,Xe,Xf,Xg,Xh,Xk,Xo,Xq,Xr,Xs,Xt,Xu,X0,Wc,Wn,Wo,Wq,Ww,Wx,Wz,W0,W3,W4,W5,W6,W7,W8,WA,WB,WC,WF,WG,WI,WJ,WK,WL,WM,WN,WO,WP,WQ,WR,WS,WT,WW,WX,WY,Vc,Vd,Vf,Vg,Vh,Vj,Vk,Vl,Vn,Vs,Vu,Vv,Vw,Vx,Vy,V0,VM,VN,VO,VP,VQ,VR,VS,VV,VW,VX,VY,VZ,Ub,Uc,Ud,Ue,Uf,Ug,Uj,Ul,Um,Un,Uo,Uq,Us,Uw,Ux,Uy,Uz,U0,U1,U2,U3,U4,U5,U6,U7,UE,UF,UG,UH,UM,UN,UO,UP,UR,US,UT,UV,UW,UX,UY,UZ,Ta,Tb,Tc,Td,Te,Tf,Ti,Tj,Tk,Tl,Tn,Tp,Tr,Ts,Tt,Tu,Tv,Tx,Tz,T0,T1,T2,T6,TA,Sc,Sf,Sg,Sy,Sz,S6,S7,z]; all_goals tactic => exact rfl))
  · unfold x4l1
    dsimp only
    sym =>
      simp [irem2,iquo2,remF,Za,Zb,Zc,Zd,Ze,Zf,Zg,Zh,Zi,Zj,Zl,Zm,Zn,Zo,Zp,Zq,Zs,Zt,Zu,Zw,Zy,Zz,Z1,Z4,Z5,Z6,Z7,ZA,ZB,ZD,ZE,ZF,ZG,ZH,ZI,ZJ,ZK,ZL,ZM,ZN,ZO,ZP,ZQ,ZR,ZS,ZT,ZW,ZX,ZY,ZZ,Ye,Yf,Yg,Yh,Yi,Yo,Yp,Yq,Ys,Yt,Yu,Yv,Y1,Y2,Y3,Y4,Y6,Y8,YA,YB,YF,YO,YQ,YT,YV,YX,YY,Xe,Xf,Xg,Xh,Xk,Xo,Xq,Xr,Xs,Xt,Xu,X0,Wc,Wn,Wo,Wq,Ww,Wx,Wz,W0,W3,W4,W5,W6,W7,W8,WA,WB,WC,WF,WG,WI,WJ,WK,WL,WM,WN,WO,WP,WQ,WR,WS,WT,WW,WX,WY,Vc,Vd,Vf,Vg,Vh,Vj,Vk,Vl,Vn,Vs,Vu,Vv,Vw,Vx,Vy,V0,VM,VN,VO,VP,VQ,VR,VS,VV,VW,VX,VY,VZ,Ub,Uc,Ud,Ue,Uf,Ug,Uj,Ul,Um,Un,Uo,Uq,Us,Uw,Ux,Uy,Uz,U0,U1,U2,U3,U4,U5,U6,U7,UE,UF,UG,UH,UM,UN,UO,UP,UR,US,UT,UV,UW,UX,UY,UZ,Ta,Tb,Tc,Td,Te,Tf,Ti,Tj,Tk,Tl,Tn,Tp,Tr,Ts,Tt,Tu,Tv,Tx,Tz,T0,T1,T2,T6,TA,Sc,Sf,Sg,Sy,Sz,S6,S7,a1,c1,hqm,hq,k1,k2,e26,e27,e28,hLs,k3,k4,k5,k6,k7,hc,he,d1,d2,sw0]
      tactic =>
        unfold x4l0
        rw [loop_rule sw.length (fun j => [rF fs,rF ls,.pt 0 0,.pt 1 0,.sl 9 0 1 4,.sl 10 0 1 4,.sl 11 0 1 4,I 4,rI sw,I (wk : Nat),I r,I (tpN sw j),rI sw,I sw.length,I (j : Nat)]) (fun _ => hC4 us ld cF tF rF')]
        · rw [tn]
          (sym => (simp [irem2,iquo2,remF,Za,Zb,Zc,Zd,Ze,Zf,Zg,Zh,Zi,Zj,Zl,Zm,Zn,Zo,Zp,Zq,Zs,Zt,Zu,Zw,Zy,Zz,Z1,Z4,Z5,Z6,Z7,ZA,ZB,ZD,ZE,ZF,ZG,ZH,ZI,ZJ,ZK,ZL,ZM,ZN,ZO,ZP,ZQ,ZR,ZS,ZT,ZW,ZX,ZY,ZZ,Ye,Yf,Yg,Yh,Yi,Yo,Yp,Yq,Ys,Yt,Yu,Yv,Y1,Y2,Y3,Y4,Y6,Y8,YA,YB,YF,YO,YQ,YT,YV,YX,YY,Xe,Xf,Xg,Xh,Xk,Xo,Xq,Xr,Xs,Xt,Xu,X0,Wc,Wn,Wo,Wq,Ww,Wx,Wz,W0,W3,W4,W5,W6,W7,W8,WA,WB,WC,WF,WG,WI,WJ,WK,WL,WM,WN,WO,WP,WQ,WR,WS,WT,WW,WX,WY,Vc,Vd,Vf,Vg,Vh,Vj,Vk,Vl,Vn,Vs,Vu,Vv,Vw,Vx,Vy,V0,VM,VN,VO,VP,VQ,VR,VS,VV,VW,VX,VY,VZ,Ub,Uc,Ud,Ue,Uf,Ug,Uj,Ul,Um,Un,Uo,Uq,Us,Uw,Ux,Uy,Uz,U0,U1,U2,U3,U4,U5,U6,U7,UE,UF,UG,UH,UM,UN,UO,UP,UR,US,UT,UV,UW,UX,UY,UZ,Ta,Tb,Tc,Td,Te,Tf,Ti,Tj,Tk,Tl,Tn,Tp,Tr,Ts,Tt,Tu,Tv,Tx,Tz,T0,T1,T2,T6,TA,Sc,Sf,Sg,Sy,Sz,S6,S7,z,hLs,hc,he,k3,k4,k5,k6,k7,d1,d2,tn,sw0,hx,a1,b1,b2,b3,b4,m1,m2,m3,m4,q1,q2,q3,w1,w2,mi,wi,wj,hcF,hrF,wv3,g5]; all_goals tactic => exact rfl))
        · rw [t0]
          (sym => (simp [irem2,iquo2,remF,Za,Zb,Zc,Zd,Ze,Zf,Zg,Zh,Zi,Zj,Zl,Zm,Zn,Zo,Zp,Zq,Zs,Zt,Zu,Zw,Zy,Zz,Z1,Z4,Z5,Z6,Z7,ZA,ZB,ZD,ZE,ZF,ZG,ZH,ZI,ZJ,ZK,ZL,ZM,ZN,ZO,ZP,ZQ,ZR,ZS,ZT,ZW,ZX,ZY,ZZ,Ye,Yf,Yg,Yh,Yi,Yo,Yp,Yq,Ys,Yt,Yu,Yv,Y1,Y2,Y3,Y4,Y6,Y8,YA,YB,YF,YO,YQ,YT,YV,YX,YY,Xe,Xf,Xg,Xh,Xk,Xo,Xq,Xr,Xs,Xt,Xu,X0,Wc,Wn,Wo,Wq,Ww,Wx,Wz,W0,W3,W4,W5,W6,W7,W8,WA,WB,WC,WF,WG,WI,WJ,WK,WL,WM,WN,WO,WP,WQ,WR,WS,WT,WW,WX,WY,Vc,Vd,Vf,Vg,Vh,Vj,Vk,Vl,Vn,Vs,Vu,Vv,Vw,Vx,Vy,V0,VM,VN,VO,VP,VQ,VR,VS,VV,VW,VX,VY,VZ,Ub,Uc,Ud,Ue,Uf,Ug,Uj,Ul,Um,Un,Uo,Uq,Us,Uw,Ux,Uy,Uz,U0,U1,U2,U3,U4,U5,U6,U7,UE,UF,UG,UH,UM,UN,UO,UP,UR,US,UT,UV,UW,UX,UY,UZ,Ta,Tb,Tc,Td,Te,Tf,Ti,Tj,Tk,Tl,Tn,Tp,Tr,Ts,Tt,Tu,Tv,Tx,Tz,T0,T1,T2,T6,TA,Sc,Sf,Sg,Sy,Sz,S6,S7]; all_goals tactic => exact rfl))
        · exact rd
        · (sym => (simp [irem2,iquo2,remF,Za,Zb,Zc,Zd,Ze,Zf,Zg,Zh,Zi,Zj,Zl,Zm,Zn,Zo,Zp,Zq,Zs,Zt,Zu,Zw,Zy,Zz,Z1,Z4,Z5,Z6,Z7,ZA,ZB,ZD,ZE,ZF,ZG,ZH,ZI,ZJ,ZK,ZL,ZM,ZN,ZO,ZP,ZQ,ZR,ZS,ZT,ZW,ZX,ZY,ZZ,Ye,Yf,Yg,Yh,Yi,Yo,Yp,Yq,Ys,Yt,Yu,Yv,Y1,Y2,Y3,Y4,Y6,Y8,YA,YB,YF,YO,YQ,YT,YV,YX,YY,Xe,Xf,Xg,Xh,Xk,Xo,Xq,Xr,Xs,Xt,Xu,X0,Wc,Wn,Wo,Wq,Ww,Wx,Wz,W0,W3,W4,W5,W6,W7,W8,WA,WB,WC,WF,WG,WI,WJ,WK,WL,WM,WN,WO,WP,WQ,WR,WS,WT,WW,WX,WY,Vc,Vd,Vf,Vg,Vh,Vj,Vk,Vl,Vn,Vs,Vu,Vv,Vw,Vx,Vy,V0,VM,VN,VO,VP,VQ,VR,VS,VV,VW,VX,VY,VZ,Ub,Uc,Ud,Ue,Uf,Ug,Uj,Ul,Um,Un,Uo,Uq,Us,Uw,Ux,Uy,Uz,U0,U1,U2,U3,U4,U5,U6,U7,UE,UF,UG,UH,UM,UN,UO,UP,UR,US,UT,UV,UW,UX,UY,UZ,Ta,Tb,Tc,Td,Te,Tf,Ti,Tj,Tk,Tl,Tn,Tp,Tr,Ts,Tt,Tu,Tv,Tx,Tz,T0,T1,T2,T6,TA,Sc,Sf,Sg,Sy,Sz,S6,S7,z]; all_goals tactic => exact rfl))
end
end Go.Proofs.YtpbeclkpohehgaaDoor
