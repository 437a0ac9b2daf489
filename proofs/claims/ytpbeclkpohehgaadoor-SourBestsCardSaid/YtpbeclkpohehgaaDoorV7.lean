/- Parts of a proof, joined: K41 K42. No statement of the seed is proved here. -/
import Derived.Test.YtpbeclkpohehgaaDoorV6
set_option linter.unusedSimpArgs false
set_option linter.unusedVariables false
set_option linter.unusedSectionVars false
namespace Go.Proofs.YtpbeclkpohehgaaDoor
open Go Go.DL
set_option maxRecDepth 100000
set_option maxHeartbeats 4000000
def eN (a : Nat) : Nat → List Int
  | 0 => []
  | k + 1 => if a.testBit k = true then eN a k ++ [(k : Int)] else eN a k
theorem eN_len (a : Nat) : ∀ k, (eN a k).length ≤ k
  | 0 => Nat.le_refl _
  | k + 1 => by
    have := eN_len a k
    rw [eN]
    split
    · rw [List.length_append, List.length_singleton]; omega
    · omega
section
variable {l : Li}
theorem round33i (hf : l.Fit) (g : Good l) {a k : Nat} {w : Int} {os os' : List Int} (ha : a < 2 ^ l.ls.length) (hk : k < l.ls.length) (hl : os.length ≤ 10) (hs : w ≤ rsF l (behF l.ts) a) (he : os' = if a.testBit k = true then os ++ [(k : Int)] else os) :
    headX 0 [1, 5, 7, 8, 9] (execW progX 33 0 none (match x33l0 with | .loop _ a => a | c => c) (envL [1, 5, 7, 8, 9] [.pt 0 0, I w, oS 1 os, I (a : Nat), I (k : Nat)]) (hO l os)) =
      some ([.pt 0 0, I w, oS 1 os', I (a : Nat), I (k + 1 : Nat)], hO l os') := by
  have hn := g.few
  have ha2 := lt_10 ha hn
  have a1 := lt_ix hk
  have a2 := up_ix hk (by omega)
  have n1 := neg_n k
  have e87 := w87 hf g ha
  have c1 : (rsF l (behF l.ts) a ≥ w) = True := eq_true hs
  generalize rsF l (behF l.ts) a = rv at *
  unfold x33l0
  dsimp only
  rcases os with _ | ⟨x, r⟩
  · rcases bit_1 (a := a) (i := k) (by omega) (by omega) with ⟨h1, h2⟩ | ⟨h1, h2⟩
    · rw [h1, if_pos rfl] at he
      subst he
      (sym => (simp [Za,Zb,Zd,Ze,Zf,Zg,Zh,Zj,Zl,Zm,Zn,Zo,Zp,Zu,Zx,Z0,Z2,Z5,ZC,ZE,ZM,ZN,ZQ,ZR,ZS,ZT,ZX,ZZ,Yh,Yj,Ym,Yn,Yp,Ys,Yu,YE,YG,YJ,YK,YL,YN,YR,Xe,Xg,Xi,Xj,Xk,Xm,Wc,Wp,Wq,Wr,Ws,Wt,Wu,Wv,Ww,Wy,Wz,W0,W4,W5,W7,W8,W9,WA,WB,WC,WE,WF,WG,WH,WI,WJ,WM,WN,WS,WV,WW,WX,Vi,Vk,Vl,Vn,Vo,Vq,VC,VD,VE,VF,VG,VH,VL,VM,VN,VO,VP,VR,VS,VT,VU,VW,VZ,Uh,Uk,Ul,Um,Un,Uo,Uq,Ur,Us,Ut,Uu,Uv,Uw,U3,U4,U5,U6,UB,UC,UD,UE,UI,UJ,UK,UL,UM,UN,UP,UQ,UT,UU,UZ,Ta,Tb,Tc,Td,Te,Tf,Th,Tj,Tk,Tn,Tr,Ts,Tt,Tu,Tv,Tw,Ty,T5,T8,T9,TA,TB,Sn,Sq,Sr, a1, a2, n1, e87, c1, h2]; all_goals tactic => exact rfl))
    · rw [h1, if_neg (by simp)] at he
      subst he
      (sym => (simp [Za,Zb,Zd,Ze,Zf,Zg,Zh,Zj,Zl,Zm,Zn,Zo,Zp,Zu,Zx,Z0,Z2,Z5,ZC,ZE,ZM,ZN,ZQ,ZR,ZS,ZT,ZX,ZZ,Yh,Yj,Ym,Yn,Yp,Ys,Yu,YE,YG,YJ,YK,YL,YN,YR,Xe,Xg,Xi,Xj,Xk,Xm,Wc,Wp,Wq,Wr,Ws,Wt,Wu,Wv,Ww,Wy,Wz,W0,W4,W5,W7,W8,W9,WA,WB,WC,WE,WF,WG,WH,WI,WJ,WM,WN,WS,WV,WW,WX,Vi,Vk,Vl,Vn,Vo,Vq,VC,VD,VE,VF,VG,VH,VL,VM,VN,VO,VP,VR,VS,VT,VU,VW,VZ,Uh,Uk,Ul,Um,Un,Uo,Uq,Ur,Us,Ut,Uu,Uv,Uw,U3,U4,U5,U6,UB,UC,UD,UE,UI,UJ,UK,UL,UM,UN,UP,UQ,UT,UU,UZ,Ta,Tb,Tc,Td,Te,Tf,Th,Tj,Tk,Tn,Tr,Ts,Tt,Tu,Tv,Tw,Ty,T5,T8,T9,TA,TB,Sn,Sq,Sr, a1, a2, n1, e87, c1, h2]; all_goals tactic => exact rfl))
  · have b1 : ((r.length + 1 + 1) * 8 ≤ 1099511627776) = True := eq_true (by simp at hl; omega)
    have b2 : (r.length + 1 + 1 ≤ 1099511627776) = True := eq_true (by simp at hl; omega)
    rcases bit_1 (a := a) (i := k) (by omega) (by omega) with ⟨h1, h2⟩ | ⟨h1, h2⟩
    · rw [h1, if_pos rfl, List.cons_append] at he
      subst he
      (sym => (simp [Za,Zb,Zd,Ze,Zf,Zg,Zh,Zj,Zl,Zm,Zn,Zo,Zp,Zu,Zx,Z0,Z2,Z5,ZC,ZE,ZM,ZN,ZQ,ZR,ZS,ZT,ZX,ZZ,Yh,Yj,Ym,Yn,Yp,Ys,Yu,YE,YG,YJ,YK,YL,YN,YR,Xe,Xg,Xi,Xj,Xk,Xm,Wc,Wp,Wq,Wr,Ws,Wt,Wu,Wv,Ww,Wy,Wz,W0,W4,W5,W7,W8,W9,WA,WB,WC,WE,WF,WG,WH,WI,WJ,WM,WN,WS,WV,WW,WX,Vi,Vk,Vl,Vn,Vo,Vq,VC,VD,VE,VF,VG,VH,VL,VM,VN,VO,VP,VR,VS,VT,VU,VW,VZ,Uh,Uk,Ul,Um,Un,Uo,Uq,Ur,Us,Ut,Uu,Uv,Uw,U3,U4,U5,U6,UB,UC,UD,UE,UI,UJ,UK,UL,UM,UN,UP,UQ,UT,UU,UZ,Ta,Tb,Tc,Td,Te,Tf,Th,Tj,Tk,Tn,Tr,Ts,Tt,Tu,Tv,Tw,Ty,T5,T8,T9,TA,TB,Sn,Sq,Sr, a1, a2, n1, e87, c1, h2, b1, b2]; all_goals tactic => exact rfl))
    · rw [h1, if_neg (by simp)] at he
      subst he
      (sym => (simp [Za,Zb,Zd,Ze,Zf,Zg,Zh,Zj,Zl,Zm,Zn,Zo,Zp,Zu,Zx,Z0,Z2,Z5,ZC,ZE,ZM,ZN,ZQ,ZR,ZS,ZT,ZX,ZZ,Yh,Yj,Ym,Yn,Yp,Ys,Yu,YE,YG,YJ,YK,YL,YN,YR,Xe,Xg,Xi,Xj,Xk,Xm,Wc,Wp,Wq,Wr,Ws,Wt,Wu,Wv,Ww,Wy,Wz,W0,W4,W5,W7,W8,W9,WA,WB,WC,WE,WF,WG,WH,WI,WJ,WM,WN,WS,WV,WW,WX,Vi,Vk,Vl,Vn,Vo,Vq,VC,VD,VE,VF,VG,VH,VL,VM,VN,VO,VP,VR,VS,VT,VU,VW,VZ,Uh,Uk,Ul,Um,Un,Uo,Uq,Ur,Us,Ut,Uu,Uv,Uw,U3,U4,U5,U6,UB,UC,UD,UE,UI,UJ,UK,UL,UM,UN,UP,UQ,UT,UU,UZ,Ta,Tb,Tc,Td,Te,Tf,Th,Tj,Tk,Tn,Tr,Ts,Tt,Tu,Tv,Tw,Ty,T5,T8,T9,TA,TB,Sn,Sq,Sr, a1, a2, n1, e87, c1, h2]; all_goals tactic => exact rfl))
theorem round33 (hf : l.Fit) (g : Good l) {a : Nat} (w : Int) (ha : a < 2 ^ l.ls.length) :
    ∃ os, os.length ≤ 10 ∧ headX 0 [1, 5, 7, 8] (execW progX 33 0 none (match x33l1 with | .loop _ a => a | c => c) (envL [1, 5, 7, 8] [.pt 0 0, I w, oS 1 [], I (a : Nat)]) (hO l [])) =
      some ([.pt 0 0, I w, oS 1 os, I (a + 1 : Nat)], hO l os) := by
  have hn := g.few
  have hN : 2 ^ l.ls.length ≤ 2 ^ 10 := Nat.pow_le_pow_right (by omega) hn
  have s1 := shl_one big_i (i := l.ls.length) (by omega)
  have s2 := shl_1 big_i (i := l.ls.length) (by omega)
  have n1 := neg_n l.ls.length
  have i1 : ((a : Int) < ((2 ^ l.ls.length : Nat) : Int)) = True := eq_true (by omega)
  have u1 := up_ix ha (by omega)
  have z := UO (n := (l.ls.length : Int))
  have e87 := w87 hf g ha
  have e0 : eN a 0 = [] := rfl
  by_cases hs : w ≤ rsF l (behF l.ts) a
  · refine ⟨eN a l.ls.length, by have := eN_len a l.ls.length; omega, ?_⟩
    have rd := fun k hk => round33i hf g (os := eN a k) (os' := eN a (k + 1)) ha hk (by have := eN_len a k; omega) hs rfl
    generalize 2 ^ l.ls.length = N at *
    generalize rsF l (behF l.ts) a = rv at *
    unfold x33l1
    dsimp only
    sym =>
      simp [Za,Zb,Zf,Zg,Zh,Zj,Zl,Zm,Zo,Zp,Zr,Zu,Zx,Z2,Z5,ZC,ZE,ZM,ZN,ZR,ZS,ZT,ZU,ZX,ZZ,Yb,Yh,Yl,Yn,Yp,Ys,Yu,Yx,YE,YG,YJ,YK,YL,YN,Xe,Xg,Xi,Xj,Xk,Xm,Wp,Wq,Wr,Wt,Wu,Wv,Ww,Wy,Wz,W0,W4,W5,W7,W8,W9,WA,WB,WC,WE,WF,WG,WH,WI,WJ,WM,WN,WS,WV,WW,WX,Vi,Vk,Vl,Vn,Vo,Vq,VC,VD,VE,VF,VG,VH,VI,VL,VM,VN,VO,VP,VR,VS,VT,VU,VW,Uk,Ul,Um,Uq,Ur,Us,Ut,Uu,UO,UP,UQ,UT,UU,Te,Tf,Th,Ti,Tj,Tk,Tl,Tn,Tq,Tr,Ts,Tt,Ty,T8,T9,TA,TB,Sn,Sq,Sr, s1, s2, n1, i1]
      tactic =>
        unfold x33l0
        rw [loop_rule l.ls.length (fun k => [.pt 0 0, I w, oS 1 (eN a k), I (a : Nat), I (k : Nat)]) (fun k => hO l (eN a k))]
        · generalize eN a l.ls.length = os at *
          rcases os with _ | ⟨x, r⟩
          · (sym => (simp [Za,Zb,Zf,Zg,Zh,Zj,Zl,Zm,Zo,Zp,Zr,Zu,Zx,Z2,Z5,ZC,ZE,ZM,ZN,ZR,ZS,ZT,ZU,ZX,ZZ,Yb,Yh,Yl,Yn,Yp,Ys,Yu,Yx,YE,YG,YJ,YK,YL,YN,Xe,Xg,Xi,Xj,Xk,Xm,Wp,Wq,Wr,Wt,Wu,Wv,Ww,Wy,Wz,W0,W4,W5,W7,W8,W9,WA,WB,WC,WE,WF,WG,WH,WI,WJ,WM,WN,WS,WV,WW,WX,Vi,Vk,Vl,Vn,Vo,Vq,VC,VD,VE,VF,VG,VH,VI,VL,VM,VN,VO,VP,VR,VS,VT,VU,VW,Uk,Ul,Um,Uq,Ur,Us,Ut,Uu,UO,UP,UQ,UT,UU,Te,Tf,Th,Ti,Tj,Tk,Tl,Tn,Tq,Tr,Ts,Tt,Ty,T8,T9,TA,TB,Sn,Sq,Sr, z, u1]; all_goals tactic => exact rfl))
          · (sym => (simp [Za,Zb,Zf,Zg,Zh,Zj,Zl,Zm,Zo,Zp,Zr,Zu,Zx,Z2,Z5,ZC,ZE,ZM,ZN,ZR,ZS,ZT,ZU,ZX,ZZ,Yb,Yh,Yl,Yn,Yp,Ys,Yu,Yx,YE,YG,YJ,YK,YL,YN,Xe,Xg,Xi,Xj,Xk,Xm,Wp,Wq,Wr,Wt,Wu,Wv,Ww,Wy,Wz,W0,W4,W5,W7,W8,W9,WA,WB,WC,WE,WF,WG,WH,WI,WJ,WM,WN,WS,WV,WW,WX,Vi,Vk,Vl,Vn,Vo,Vq,VC,VD,VE,VF,VG,VH,VI,VL,VM,VN,VO,VP,VR,VS,VT,VU,VW,Uk,Ul,Um,Uq,Ur,Us,Ut,Uu,UO,UP,UQ,UT,UU,Te,Tf,Th,Ti,Tj,Tk,Tl,Tn,Tq,Tr,Ts,Tt,Ty,T8,T9,TA,TB,Sn,Sq,Sr, z, u1]; all_goals tactic => exact rfl))
        · rw [e0]; (sym => (simp [Za,Zb,Zf,Zg,Zh,Zj,Zl,Zm,Zo,Zp,Zr,Zu,Zx,Z2,Z5,ZC,ZE,ZM,ZN,ZR,ZS,ZT,ZU,ZX,ZZ,Yb,Yh,Yl,Yn,Yp,Ys,Yu,Yx,YE,YG,YJ,YK,YL,YN,Xe,Xg,Xi,Xj,Xk,Xm,Wp,Wq,Wr,Wt,Wu,Wv,Ww,Wy,Wz,W0,W4,W5,W7,W8,W9,WA,WB,WC,WE,WF,WG,WH,WI,WJ,WM,WN,WS,WV,WW,WX,Vi,Vk,Vl,Vn,Vo,Vq,VC,VD,VE,VF,VG,VH,VI,VL,VM,VN,VO,VP,VR,VS,VT,VU,VW,Uk,Ul,Um,Uq,Ur,Us,Ut,Uu,UO,UP,UQ,UT,UU,Te,Tf,Th,Ti,Tj,Tk,Tl,Tn,Tq,Tr,Ts,Tt,Ty,T8,T9,TA,TB,Sn,Sq,Sr]; all_goals tactic => exact rfl))
        · exact rd
        · generalize eN a l.ls.length = os at *
          rcases os with _ | ⟨x, r⟩
          · (sym => (simp [Za,Zb,Zf,Zg,Zh,Zj,Zl,Zm,Zo,Zp,Zr,Zu,Zx,Z2,Z5,ZC,ZE,ZM,ZN,ZR,ZS,ZT,ZU,ZX,ZZ,Yb,Yh,Yl,Yn,Yp,Ys,Yu,Yx,YE,YG,YJ,YK,YL,YN,Xe,Xg,Xi,Xj,Xk,Xm,Wp,Wq,Wr,Wt,Wu,Wv,Ww,Wy,Wz,W0,W4,W5,W7,W8,W9,WA,WB,WC,WE,WF,WG,WH,WI,WJ,WM,WN,WS,WV,WW,WX,Vi,Vk,Vl,Vn,Vo,Vq,VC,VD,VE,VF,VG,VH,VI,VL,VM,VN,VO,VP,VR,VS,VT,VU,VW,Uk,Ul,Um,Uq,Ur,Us,Ut,Uu,UO,UP,UQ,UT,UU,Te,Tf,Th,Ti,Tj,Tk,Tl,Tn,Tq,Tr,Ts,Tt,Ty,T8,T9,TA,TB,Sn,Sq,Sr, z]; all_goals tactic => exact rfl))
          · (sym => (simp [Za,Zb,Zf,Zg,Zh,Zj,Zl,Zm,Zo,Zp,Zr,Zu,Zx,Z2,Z5,ZC,ZE,ZM,ZN,ZR,ZS,ZT,ZU,ZX,ZZ,Yb,Yh,Yl,Yn,Yp,Ys,Yu,Yx,YE,YG,YJ,YK,YL,YN,Xe,Xg,Xi,Xj,Xk,Xm,Wp,Wq,Wr,Wt,Wu,Wv,Ww,Wy,Wz,W0,W4,W5,W7,W8,W9,WA,WB,WC,WE,WF,WG,WH,WI,WJ,WM,WN,WS,WV,WW,WX,Vi,Vk,Vl,Vn,Vo,Vq,VC,VD,VE,VF,VG,VH,VI,VL,VM,VN,VO,VP,VR,VS,VT,VU,VW,Uk,Ul,Um,Uq,Ur,Us,Ut,Uu,UO,UP,UQ,UT,UU,Te,Tf,Th,Ti,Tj,Tk,Tl,Tn,Tq,Tr,Ts,Tt,Ty,T8,T9,TA,TB,Sn,Sq,Sr, z]; all_goals tactic => exact rfl))
  · refine ⟨[], by simp, ?_⟩
    have c1 : (rsF l (behF l.ts) a ≥ w) = False := eq_false hs
    generalize 2 ^ l.ls.length = N at *
    generalize rsF l (behF l.ts) a = rv at *
    have lf : leaves (execW progX 33 0 none (match x33l0 with | .loop _ a => a | c => c) (envL [1, 5, 7, 8, 9] [.pt 0 0, I w, oS 1 [], I (a : Nat), I 0]) (hO l [])) = true := by
      unfold x33l0
      dsimp only
      by_cases hz : l.ls.length = 0
      · have c2 : ((0 : Int) < (l.ls.length : Int)) = False := eq_false (by omega)
        (sym => (simp [Za,Zb,Zf,Zg,Zh,Zj,Zl,Zm,Zo,Zp,Zr,Zu,Zx,Z2,Z5,ZC,ZE,ZM,ZN,ZR,ZS,ZT,ZU,ZX,ZZ,Yb,Yh,Yl,Yn,Yp,Ys,Yu,Yx,YE,YG,YJ,YK,YL,YN,Xe,Xg,Xi,Xj,Xk,Xm,Wp,Wq,Wr,Wt,Wu,Wv,Ww,Wy,Wz,W0,W4,W5,W7,W8,W9,WA,WB,WC,WE,WF,WG,WH,WI,WJ,WM,WN,WS,WV,WW,WX,Vi,Vk,Vl,Vn,Vo,Vq,VC,VD,VE,VF,VG,VH,VI,VL,VM,VN,VO,VP,VR,VS,VT,VU,VW,Uk,Ul,Um,Uq,Ur,Us,Ut,Uu,UO,UP,UQ,UT,UU,Te,Tf,Th,Ti,Tj,Tk,Tl,Tn,Tq,Tr,Ts,Tt,Ty,T8,T9,TA,TB,Sn,Sq,Sr, c2]; all_goals tactic => exact rfl))
      · have c2 : ((0 : Int) < (l.ls.length : Int)) = True := eq_true (by omega)
        (sym => (simp [Za,Zb,Zf,Zg,Zh,Zj,Zl,Zm,Zo,Zp,Zr,Zu,Zx,Z2,Z5,ZC,ZE,ZM,ZN,ZR,ZS,ZT,ZU,ZX,ZZ,Yb,Yh,Yl,Yn,Yp,Ys,Yu,Yx,YE,YG,YJ,YK,YL,YN,Xe,Xg,Xi,Xj,Xk,Xm,Wp,Wq,Wr,Wt,Wu,Wv,Ww,Wy,Wz,W0,W4,W5,W7,W8,W9,WA,WB,WC,WE,WF,WG,WH,WI,WJ,WM,WN,WS,WV,WW,WX,Vi,Vk,Vl,Vn,Vo,Vq,VC,VD,VE,VF,VG,VH,VI,VL,VM,VN,VO,VP,VR,VS,VT,VU,VW,Uk,Ul,Um,Uq,Ur,Us,Ut,Uu,UO,UP,UQ,UT,UU,Te,Tf,Th,Ti,Tj,Tk,Tl,Tn,Tq,Tr,Ts,Tt,Ty,T8,T9,TA,TB,Sn,Sq,Sr, c2, e87, c1]; all_goals tactic => exact rfl))
    unfold x33l1
    dsimp only
    sym =>
      simp [Za,Zb,Zf,Zg,Zh,Zj,Zl,Zm,Zo,Zp,Zr,Zu,Zx,Z2,Z5,ZC,ZE,ZM,ZN,ZR,ZS,ZT,ZU,ZX,ZZ,Yb,Yh,Yl,Yn,Yp,Ys,Yu,Yx,YE,YG,YJ,YK,YL,YN,Xe,Xg,Xi,Xj,Xk,Xm,Wp,Wq,Wr,Wt,Wu,Wv,Ww,Wy,Wz,W0,W4,W5,W7,W8,W9,WA,WB,WC,WE,WF,WG,WH,WI,WJ,WM,WN,WS,WV,WW,WX,Vi,Vk,Vl,Vn,Vo,Vq,VC,VD,VE,VF,VG,VH,VI,VL,VM,VN,VO,VP,VR,VS,VT,VU,VW,Uk,Ul,Um,Uq,Ur,Us,Ut,Uu,UO,UP,UQ,UT,UU,Te,Tf,Th,Ti,Tj,Tk,Tl,Tn,Tq,Tr,Ts,Tt,Ty,T8,T9,TA,TB,Sn,Sq,Sr, s1, s2, n1, i1]
      tactic =>
        unfold x33l0 at lf ⊢
        rw [loop_rule 0 (fun k => [.pt 0 0, I w, oS 1 [], I (a : Nat), I 0]) (fun k => hO l [])]
        · by_cases hz : l.ls.length = 0
          · have c2 : ((0 : Int) < (l.ls.length : Int)) = False := eq_false (by omega)
            (sym => (simp [Za,Zb,Zf,Zg,Zh,Zj,Zl,Zm,Zo,Zp,Zr,Zu,Zx,Z2,Z5,ZC,ZE,ZM,ZN,ZR,ZS,ZT,ZU,ZX,ZZ,Yb,Yh,Yl,Yn,Yp,Ys,Yu,Yx,YE,YG,YJ,YK,YL,YN,Xe,Xg,Xi,Xj,Xk,Xm,Wp,Wq,Wr,Wt,Wu,Wv,Ww,Wy,Wz,W0,W4,W5,W7,W8,W9,WA,WB,WC,WE,WF,WG,WH,WI,WJ,WM,WN,WS,WV,WW,WX,Vi,Vk,Vl,Vn,Vo,Vq,VC,VD,VE,VF,VG,VH,VI,VL,VM,VN,VO,VP,VR,VS,VT,VU,VW,Uk,Ul,Um,Uq,Ur,Us,Ut,Uu,UO,UP,UQ,UT,UU,Te,Tf,Th,Ti,Tj,Tk,Tl,Tn,Tq,Tr,Ts,Tt,Ty,T8,T9,TA,TB,Sn,Sq,Sr, c2, u1]; all_goals tactic => exact rfl))
          · have c2 : ((0 : Int) < (l.ls.length : Int)) = True := eq_true (by omega)
            (sym => (simp [Za,Zb,Zf,Zg,Zh,Zj,Zl,Zm,Zo,Zp,Zr,Zu,Zx,Z2,Z5,ZC,ZE,ZM,ZN,ZR,ZS,ZT,ZU,ZX,ZZ,Yb,Yh,Yl,Yn,Yp,Ys,Yu,Yx,YE,YG,YJ,YK,YL,YN,Xe,Xg,Xi,Xj,Xk,Xm,Wp,Wq,Wr,Wt,Wu,Wv,Ww,Wy,Wz,W0,W4,W5,W7,W8,W9,WA,WB,WC,WE,WF,WG,WH,WI,WJ,WM,WN,WS,WV,WW,WX,Vi,Vk,Vl,Vn,Vo,Vq,VC,VD,VE,VF,VG,VH,VI,VL,VM,VN,VO,VP,VR,VS,VT,VU,VW,Uk,Ul,Um,Uq,Ur,Us,Ut,Uu,UO,UP,UQ,UT,UU,Te,Tf,Th,Ti,Tj,Tk,Tl,Tn,Tq,Tr,Ts,Tt,Ty,T8,T9,TA,TB,Sn,Sq,Sr, c2, e87, c1, u1]; all_goals tactic => exact rfl))
        · (sym => (simp [Za,Zb,Zf,Zg,Zh,Zj,Zl,Zm,Zo,Zp,Zr,Zu,Zx,Z2,Z5,ZC,ZE,ZM,ZN,ZR,ZS,ZT,ZU,ZX,ZZ,Yb,Yh,Yl,Yn,Yp,Ys,Yu,Yx,YE,YG,YJ,YK,YL,YN,Xe,Xg,Xi,Xj,Xk,Xm,Wp,Wq,Wr,Wt,Wu,Wv,Ww,Wy,Wz,W0,W4,W5,W7,W8,W9,WA,WB,WC,WE,WF,WG,WH,WI,WJ,WM,WN,WS,WV,WW,WX,Vi,Vk,Vl,Vn,Vo,Vq,VC,VD,VE,VF,VG,VH,VI,VL,VM,VN,VO,VP,VR,VS,VT,VU,VW,Uk,Ul,Um,Uq,Ur,Us,Ut,Uu,UO,UP,UQ,UT,UU,Te,Tf,Th,Ti,Tj,Tk,Tl,Tn,Tq,Tr,Ts,Tt,Ty,T8,T9,TA,TB,Sn,Sq,Sr]; all_goals tactic => exact rfl))
        · intro i hi; omega
        · exact lf
theorem w33 (hf : l.Fit) : ∃ os, runW progX 33 [.agg l.c] [] = some (.tup [rI os, I (prvE l)], []) := by
  have e31 := w31 l hf
  unfold bestR at e31
  unfold prvE
  by_cases hc : checkL l = 0
  · rw [if_pos hc]
    rw [if_pos hc] at e31
    have g := good_of hc
    have hn := g.few
    by_cases hw : minW l = 0
    · rw [if_pos hw]
      refine ⟨[], ?_⟩
      rw [hw] at e31
      generalize ofN (bestO l) = bo at *
      rw [r33 (by simp)]; unfold x33; dsimp only
      (sym => (simp [Za,Zb,Zf,Zg,Zh,Zj,Zl,Zm,Zn,Zo,Zp,Zr,Zu,Zx,Zy,Z2,Z5,ZB,ZC,ZE,ZM,ZN,ZR,ZS,ZT,ZU,ZX,ZZ,Ya,Yg,Yl,Yn,Yo,Yp,Yu,Yz,YE,YG,YH,YJ,YL,YN,YR,YU,YV,Xe,Xg,Xh,Xi,Xk,Xm,Xq,Xt,Xv,Xx,X0,XJ,XL,XP,XU,XV,XW,XY,We,Wp,Wq,Wr,Ws,Wt,Wu,Wv,Ww,Wx,Wy,Wz,W4,W5,W7,W8,W9,WA,WB,WC,WE,WF,WG,WH,WI,WJ,WM,WN,WS,WV,WW,WX,Vf,Vg,Vh,Vi,Vj,Vk,Vl,Vn,Vo,Vq,Vs,Vu,Vw,Vx,Vz,V0,V1,V2,V5,V6,V7,V8,V9,VB,VC,VD,VE,VF,VG,VH,VI,VK,VL,VM,VO,VP,VR,VS,VT,VU,VW,VZ,Uc,Ud,Uh,Uk,Ul,Um,Uq,Ur,Us,Ut,Uu,Uv,Uw,Ux,Uy,Uz,U0,U1,U2,U9,UA,UO,UP,UQ,UT,UU,UZ,Te,Tf,Tg,Th,Ti,Tj,Tk,Tl,Tm,Tq,Tr,Ts,Tt,Tw,Tx,Ty,Tz,T8,T9,TA,TB,TC,Sc,Sd,Se,Sn,Sq,Sr, e31]; all_goals tactic => exact rfl))
    · rw [if_neg hw]
      have q0 : (minW l = 0) = False := eq_false hw
      have hN0 := Nat.two_pow_pos l.ls.length
      have hN : 2 ^ l.ls.length ≤ 2 ^ 10 := Nat.pow_le_pow_right (by omega) hn
      have s1 := shl_one big_i (i := l.ls.length) (by omega)
      have s2 := shl_1 big_i (i := l.ls.length) (by omega)
      have n1 := neg_n l.ls.length
      have rd := fun a ha => round33 hf g (a := a) (minW l) ha
      have z := UO (n := ((2 ^ l.ls.length : Nat) : Int))
      generalize minW l = w at *
      have key : ∃ t : Nat × List Int, (t.1 ≤ 2 ^ l.ls.length) ∧ (t.1 = 2 ^ l.ls.length ∨ t.2 ≠ []) ∧ execW progX 33 0 none x33l1 (envL [1, 5, 7, 8] [.pt 0 0, I w, .nilsl, I 1]) (hL l) = execW progX 33 0 none (match x33l1 with | .loop _ a => a | c => c) (envL [1, 5, 7, 8] [.pt 0 0, I w, oS 1 t.2, I (t.1 : Nat)]) (hO l t.2) := by
        unfold x33l1
        refine loop_inv (σ := Nat × List Int) (fun t => [.pt 0 0, I w, oS 1 t.2, I (t.1 : Nat)]) (fun t => hO l t.2) (fun t => t.1 ≤ 2 ^ l.ls.length) (fun t => t.1 = 2 ^ l.ls.length ∨ t.2 ≠ []) (fun t => 2 ^ l.ls.length - t.1) (1, []) (by dsimp only; (sym => (simp [Za,Zb,Zf,Zg,Zh,Zj,Zl,Zm,Zn,Zo,Zp,Zr,Zu,Zx,Zy,Z2,Z5,ZB,ZC,ZE,ZM,ZN,ZR,ZS,ZT,ZU,ZX,ZZ,Ya,Yg,Yl,Yn,Yo,Yp,Yu,Yz,YE,YG,YH,YJ,YL,YN,YR,YU,YV,Xe,Xg,Xh,Xi,Xk,Xm,Xq,Xt,Xv,Xx,X0,XJ,XL,XP,XU,XV,XW,XY,We,Wp,Wq,Wr,Ws,Wt,Wu,Wv,Ww,Wx,Wy,Wz,W4,W5,W7,W8,W9,WA,WB,WC,WE,WF,WG,WH,WI,WJ,WM,WN,WS,WV,WW,WX,Vf,Vg,Vh,Vi,Vj,Vk,Vl,Vn,Vo,Vq,Vs,Vu,Vw,Vx,Vz,V0,V1,V2,V5,V6,V7,V8,V9,VB,VC,VD,VE,VF,VG,VH,VI,VK,VL,VM,VO,VP,VR,VS,VT,VU,VW,VZ,Uc,Ud,Uh,Uk,Ul,Um,Uq,Ur,Us,Ut,Uu,Uv,Uw,Ux,Uy,Uz,U0,U1,U2,U9,UA,UO,UP,UQ,UT,UU,UZ,Te,Tf,Tg,Th,Ti,Tj,Tk,Tl,Tm,Tq,Tr,Ts,Tt,Tw,Tx,Ty,Tz,T8,T9,TA,TB,TC,Sc,Sd,Se,Sn,Sq,Sr]; all_goals tactic => exact rfl))) (by dsimp only; omega) ?_
        rintro ⟨a, os⟩ ha
        dsimp only at ha ⊢
        by_cases hz : a = 2 ^ l.ls.length
        · refine .inl ⟨?_, .inl hz⟩
          rw [hz]
          generalize 2 ^ l.ls.length = N at *
          rcases os with _ | ⟨x, r⟩
          · (sym => (simp [Za,Zb,Zf,Zg,Zh,Zj,Zl,Zm,Zn,Zo,Zp,Zr,Zu,Zx,Zy,Z2,Z5,ZB,ZC,ZE,ZM,ZN,ZR,ZS,ZT,ZU,ZX,ZZ,Ya,Yg,Yl,Yn,Yo,Yp,Yu,Yz,YE,YG,YH,YJ,YL,YN,YR,YU,YV,Xe,Xg,Xh,Xi,Xk,Xm,Xq,Xt,Xv,Xx,X0,XJ,XL,XP,XU,XV,XW,XY,We,Wp,Wq,Wr,Ws,Wt,Wu,Wv,Ww,Wx,Wy,Wz,W4,W5,W7,W8,W9,WA,WB,WC,WE,WF,WG,WH,WI,WJ,WM,WN,WS,WV,WW,WX,Vf,Vg,Vh,Vi,Vj,Vk,Vl,Vn,Vo,Vq,Vs,Vu,Vw,Vx,Vz,V0,V1,V2,V5,V6,V7,V8,V9,VB,VC,VD,VE,VF,VG,VH,VI,VK,VL,VM,VO,VP,VR,VS,VT,VU,VW,VZ,Uc,Ud,Uh,Uk,Ul,Um,Uq,Ur,Us,Ut,Uu,Uv,Uw,Ux,Uy,Uz,U0,U1,U2,U9,UA,UO,UP,UQ,UT,UU,UZ,Te,Tf,Tg,Th,Ti,Tj,Tk,Tl,Tm,Tq,Tr,Ts,Tt,Tw,Tx,Ty,Tz,T8,T9,TA,TB,TC,Sc,Sd,Se,Sn,Sq,Sr, s1, s2, n1, z]; all_goals tactic => exact rfl))
          · (sym => (simp [Za,Zb,Zf,Zg,Zh,Zj,Zl,Zm,Zn,Zo,Zp,Zr,Zu,Zx,Zy,Z2,Z5,ZB,ZC,ZE,ZM,ZN,ZR,ZS,ZT,ZU,ZX,ZZ,Ya,Yg,Yl,Yn,Yo,Yp,Yu,Yz,YE,YG,YH,YJ,YL,YN,YR,YU,YV,Xe,Xg,Xh,Xi,Xk,Xm,Xq,Xt,Xv,Xx,X0,XJ,XL,XP,XU,XV,XW,XY,We,Wp,Wq,Wr,Ws,Wt,Wu,Wv,Ww,Wx,Wy,Wz,W4,W5,W7,W8,W9,WA,WB,WC,WE,WF,WG,WH,WI,WJ,WM,WN,WS,WV,WW,WX,Vf,Vg,Vh,Vi,Vj,Vk,Vl,Vn,Vo,Vq,Vs,Vu,Vw,Vx,Vz,V0,V1,V2,V5,V6,V7,V8,V9,VB,VC,VD,VE,VF,VG,VH,VI,VK,VL,VM,VO,VP,VR,VS,VT,VU,VW,VZ,Uc,Ud,Uh,Uk,Ul,Um,Uq,Ur,Us,Ut,Uu,Uv,Uw,Ux,Uy,Uz,U0,U1,U2,U9,UA,UO,UP,UQ,UT,UU,UZ,Te,Tf,Tg,Th,Ti,Tj,Tk,Tl,Tm,Tq,Tr,Ts,Tt,Tw,Tx,Ty,Tz,T8,T9,TA,TB,TC,Sc,Sd,Se,Sn,Sq,Sr, s1, s2, n1, z]; all_goals tactic => exact rfl))
        · have i1 : ((a : Int) < ((2 ^ l.ls.length : Nat) : Int)) = True := eq_true (by omega)
          rcases os with _ | ⟨x, r⟩
          · obtain ⟨os, _, h⟩ := rd a (by omega)
            exact .inr ⟨(a + 1, os), by dsimp only; omega, h, by dsimp only; omega⟩
          · refine .inl ⟨?_, .inr (by simp)⟩
            have n2 : (((r.length + 1 : Nat) : Int) = 0) = False := eq_false (by omega)
            generalize 2 ^ l.ls.length = N at *
            (sym => (simp [Za,Zb,Zf,Zg,Zh,Zj,Zl,Zm,Zn,Zo,Zp,Zr,Zu,Zx,Zy,Z2,Z5,ZB,ZC,ZE,ZM,ZN,ZR,ZS,ZT,ZU,ZX,ZZ,Ya,Yg,Yl,Yn,Yo,Yp,Yu,Yz,YE,YG,YH,YJ,YL,YN,YR,YU,YV,Xe,Xg,Xh,Xi,Xk,Xm,Xq,Xt,Xv,Xx,X0,XJ,XL,XP,XU,XV,XW,XY,We,Wp,Wq,Wr,Ws,Wt,Wu,Wv,Ww,Wx,Wy,Wz,W4,W5,W7,W8,W9,WA,WB,WC,WE,WF,WG,WH,WI,WJ,WM,WN,WS,WV,WW,WX,Vf,Vg,Vh,Vi,Vj,Vk,Vl,Vn,Vo,Vq,Vs,Vu,Vw,Vx,Vz,V0,V1,V2,V5,V6,V7,V8,V9,VB,VC,VD,VE,VF,VG,VH,VI,VK,VL,VM,VO,VP,VR,VS,VT,VU,VW,VZ,Uc,Ud,Uh,Uk,Ul,Um,Uq,Ur,Us,Ut,Uu,Uv,Uw,Ux,Uy,Uz,U0,U1,U2,U9,UA,UO,UP,UQ,UT,UU,UZ,Te,Tf,Tg,Th,Ti,Tj,Tk,Tl,Tm,Tq,Tr,Ts,Tt,Tw,Tx,Ty,Tz,T8,T9,TA,TB,TC,Sc,Sd,Se,Sn,Sq,Sr, s1, s2, n1, i1, n2]; all_goals tactic => exact rfl))
      obtain ⟨⟨a, os⟩, ha, hq, hrun⟩ := key
      dsimp only at ha hq hrun
      refine ⟨os, ?_⟩
      generalize ofN (bestO l) = bo at *
      generalize 2 ^ l.ls.length = N at *
      rw [r33 (by simp)]; unfold x33; dsimp only
      sym =>
        simp [Za,Zb,Zf,Zg,Zh,Zj,Zl,Zm,Zn,Zo,Zp,Zr,Zu,Zx,Zy,Z2,Z5,ZB,ZC,ZE,ZM,ZN,ZR,ZS,ZT,ZU,ZX,ZZ,Ya,Yg,Yl,Yn,Yo,Yp,Yu,Yz,YE,YG,YH,YJ,YL,YN,YR,YU,YV,Xe,Xg,Xh,Xi,Xk,Xm,Xq,Xt,Xv,Xx,X0,XJ,XL,XP,XU,XV,XW,XY,We,Wp,Wq,Wr,Ws,Wt,Wu,Wv,Ww,Wx,Wy,Wz,W4,W5,W7,W8,W9,WA,WB,WC,WE,WF,WG,WH,WI,WJ,WM,WN,WS,WV,WW,WX,Vf,Vg,Vh,Vi,Vj,Vk,Vl,Vn,Vo,Vq,Vs,Vu,Vw,Vx,Vz,V0,V1,V2,V5,V6,V7,V8,V9,VB,VC,VD,VE,VF,VG,VH,VI,VK,VL,VM,VO,VP,VR,VS,VT,VU,VW,VZ,Uc,Ud,Uh,Uk,Ul,Um,Uq,Ur,Us,Ut,Uu,Uv,Uw,Ux,Uy,Uz,U0,U1,U2,U9,UA,UO,UP,UQ,UT,UU,UZ,Te,Tf,Tg,Th,Ti,Tj,Tk,Tl,Tm,Tq,Tr,Ts,Tt,Tw,Tx,Ty,Tz,T8,T9,TA,TB,TC,Sc,Sd,Se,Sn,Sq,Sr, e31, q0]
        tactic =>
          unfold x33l1 at hrun ⊢
          rw [loop_head2 (e' := envL [1, 5, 7, 8] [.pt 0 0, I w, .nilsl, I 1]) (H' := hL l) (by (sym => (simp [Za,Zb,Zf,Zg,Zh,Zj,Zl,Zm,Zn,Zo,Zp,Zr,Zu,Zx,Zy,Z2,Z5,ZB,ZC,ZE,ZM,ZN,ZR,ZS,ZT,ZU,ZX,ZZ,Ya,Yg,Yl,Yn,Yo,Yp,Yu,Yz,YE,YG,YH,YJ,YL,YN,YR,YU,YV,Xe,Xg,Xh,Xi,Xk,Xm,Xq,Xt,Xv,Xx,X0,XJ,XL,XP,XU,XV,XW,XY,We,Wp,Wq,Wr,Ws,Wt,Wu,Wv,Ww,Wx,Wy,Wz,W4,W5,W7,W8,W9,WA,WB,WC,WE,WF,WG,WH,WI,WJ,WM,WN,WS,WV,WW,WX,Vf,Vg,Vh,Vi,Vj,Vk,Vl,Vn,Vo,Vq,Vs,Vu,Vw,Vx,Vz,V0,V1,V2,V5,V6,V7,V8,V9,VB,VC,VD,VE,VF,VG,VH,VI,VK,VL,VM,VO,VP,VR,VS,VT,VU,VW,VZ,Uc,Ud,Uh,Uk,Ul,Um,Uq,Ur,Us,Ut,Uu,Uv,Uw,Ux,Uy,Uz,U0,U1,U2,U9,UA,UO,UP,UQ,UT,UU,UZ,Te,Tf,Tg,Th,Ti,Tj,Tk,Tl,Tm,Tq,Tr,Ts,Tt,Tw,Tx,Ty,Tz,T8,T9,TA,TB,TC,Sc,Sd,Se,Sn,Sq,Sr]; all_goals tactic => exact rfl))), hrun]
          rcases hq with rfl | hq
          · rcases os with _ | ⟨x, r⟩
            · (sym => (simp [Za,Zb,Zf,Zg,Zh,Zj,Zl,Zm,Zn,Zo,Zp,Zr,Zu,Zx,Zy,Z2,Z5,ZB,ZC,ZE,ZM,ZN,ZR,ZS,ZT,ZU,ZX,ZZ,Ya,Yg,Yl,Yn,Yo,Yp,Yu,Yz,YE,YG,YH,YJ,YL,YN,YR,YU,YV,Xe,Xg,Xh,Xi,Xk,Xm,Xq,Xt,Xv,Xx,X0,XJ,XL,XP,XU,XV,XW,XY,We,Wp,Wq,Wr,Ws,Wt,Wu,Wv,Ww,Wx,Wy,Wz,W4,W5,W7,W8,W9,WA,WB,WC,WE,WF,WG,WH,WI,WJ,WM,WN,WS,WV,WW,WX,Vf,Vg,Vh,Vi,Vj,Vk,Vl,Vn,Vo,Vq,Vs,Vu,Vw,Vx,Vz,V0,V1,V2,V5,V6,V7,V8,V9,VB,VC,VD,VE,VF,VG,VH,VI,VK,VL,VM,VO,VP,VR,VS,VT,VU,VW,VZ,Uc,Ud,Uh,Uk,Ul,Um,Uq,Ur,Us,Ut,Uu,Uv,Uw,Ux,Uy,Uz,U0,U1,U2,U9,UA,UO,UP,UQ,UT,UU,UZ,Te,Tf,Tg,Th,Ti,Tj,Tk,Tl,Tm,Tq,Tr,Ts,Tt,Tw,Tx,Ty,Tz,T8,T9,TA,TB,TC,Sc,Sd,Se,Sn,Sq,Sr, s1, s2, n1, z]; all_goals tactic => exact rfl))
            · (sym => (simp [Za,Zb,Zf,Zg,Zh,Zj,Zl,Zm,Zn,Zo,Zp,Zr,Zu,Zx,Zy,Z2,Z5,ZB,ZC,ZE,ZM,ZN,ZR,ZS,ZT,ZU,ZX,ZZ,Ya,Yg,Yl,Yn,Yo,Yp,Yu,Yz,YE,YG,YH,YJ,YL,YN,YR,YU,YV,Xe,Xg,Xh,Xi,Xk,Xm,Xq,Xt,Xv,Xx,X0,XJ,XL,XP,XU,XV,XW,XY,We,Wp,Wq,Wr,Ws,Wt,Wu,Wv,Ww,Wx,Wy,Wz,W4,W5,W7,W8,W9,WA,WB,WC,WE,WF,WG,WH,WI,WJ,WM,WN,WS,WV,WW,WX,Vf,Vg,Vh,Vi,Vj,Vk,Vl,Vn,Vo,Vq,Vs,Vu,Vw,Vx,Vz,V0,V1,V2,V5,V6,V7,V8,V9,VB,VC,VD,VE,VF,VG,VH,VI,VK,VL,VM,VO,VP,VR,VS,VT,VU,VW,VZ,Uc,Ud,Uh,Uk,Ul,Um,Uq,Ur,Us,Ut,Uu,Uv,Uw,Ux,Uy,Uz,U0,U1,U2,U9,UA,UO,UP,UQ,UT,UU,UZ,Te,Tf,Tg,Th,Ti,Tj,Tk,Tl,Tm,Tq,Tr,Ts,Tt,Tw,Tx,Ty,Tz,T8,T9,TA,TB,TC,Sc,Sd,Se,Sn,Sq,Sr, s1, s2, n1, z]; all_goals tactic => exact rfl))
          · by_cases hz : a = N
            · subst hz
              rcases os with _ | ⟨x, r⟩
              · exact absurd rfl hq
              · (sym => (simp [Za,Zb,Zf,Zg,Zh,Zj,Zl,Zm,Zn,Zo,Zp,Zr,Zu,Zx,Zy,Z2,Z5,ZB,ZC,ZE,ZM,ZN,ZR,ZS,ZT,ZU,ZX,ZZ,Ya,Yg,Yl,Yn,Yo,Yp,Yu,Yz,YE,YG,YH,YJ,YL,YN,YR,YU,YV,Xe,Xg,Xh,Xi,Xk,Xm,Xq,Xt,Xv,Xx,X0,XJ,XL,XP,XU,XV,XW,XY,We,Wp,Wq,Wr,Ws,Wt,Wu,Wv,Ww,Wx,Wy,Wz,W4,W5,W7,W8,W9,WA,WB,WC,WE,WF,WG,WH,WI,WJ,WM,WN,WS,WV,WW,WX,Vf,Vg,Vh,Vi,Vj,Vk,Vl,Vn,Vo,Vq,Vs,Vu,Vw,Vx,Vz,V0,V1,V2,V5,V6,V7,V8,V9,VB,VC,VD,VE,VF,VG,VH,VI,VK,VL,VM,VO,VP,VR,VS,VT,VU,VW,VZ,Uc,Ud,Uh,Uk,Ul,Um,Uq,Ur,Us,Ut,Uu,Uv,Uw,Ux,Uy,Uz,U0,U1,U2,U9,UA,UO,UP,UQ,UT,UU,UZ,Te,Tf,Tg,Th,Ti,Tj,Tk,Tl,Tm,Tq,Tr,Ts,Tt,Tw,Tx,Ty,Tz,T8,T9,TA,TB,TC,Sc,Sd,Se,Sn,Sq,Sr, s1, s2, n1, z]; all_goals tactic => exact rfl))
            · have i1 : ((a : Int) < (N : Int)) = True := eq_true (by omega)
              rcases os with _ | ⟨x, r⟩
              · exact absurd rfl hq
              · have n2 : (((r.length + 1 : Nat) : Int) = 0) = False := eq_false (by omega)
                (sym => (simp [Za,Zb,Zf,Zg,Zh,Zj,Zl,Zm,Zn,Zo,Zp,Zr,Zu,Zx,Zy,Z2,Z5,ZB,ZC,ZE,ZM,ZN,ZR,ZS,ZT,ZU,ZX,ZZ,Ya,Yg,Yl,Yn,Yo,Yp,Yu,Yz,YE,YG,YH,YJ,YL,YN,YR,YU,YV,Xe,Xg,Xh,Xi,Xk,Xm,Xq,Xt,Xv,Xx,X0,XJ,XL,XP,XU,XV,XW,XY,We,Wp,Wq,Wr,Ws,Wt,Wu,Wv,Ww,Wx,Wy,Wz,W4,W5,W7,W8,W9,WA,WB,WC,WE,WF,WG,WH,WI,WJ,WM,WN,WS,WV,WW,WX,Vf,Vg,Vh,Vi,Vj,Vk,Vl,Vn,Vo,Vq,Vs,Vu,Vw,Vx,Vz,V0,V1,V2,V5,V6,V7,V8,V9,VB,VC,VD,VE,VF,VG,VH,VI,VK,VL,VM,VO,VP,VR,VS,VT,VU,VW,VZ,Uc,Ud,Uh,Uk,Ul,Um,Uq,Ur,Us,Ut,Uu,Uv,Uw,Ux,Uy,Uz,U0,U1,U2,U9,UA,UO,UP,UQ,UT,UU,UZ,Te,Tf,Tg,Th,Ti,Tj,Tk,Tl,Tm,Tq,Tr,Ts,Tt,Tw,Tx,Ty,Tz,T8,T9,TA,TB,TC,Sc,Sd,Se,Sn,Sq,Sr, s1, s2, n1, i1, n2]; all_goals tactic => exact rfl))
  · rw [if_neg hc]
    rw [if_neg hc] at e31
    have g := eq_false hc
    refine ⟨[], ?_⟩
    rw [r33 (by simp)]; unfold x33; dsimp only
    (sym => (simp [Za,Zb,Zf,Zg,Zh,Zj,Zl,Zm,Zn,Zo,Zp,Zr,Zu,Zx,Zy,Z2,Z5,ZB,ZC,ZE,ZM,ZN,ZR,ZS,ZT,ZU,ZX,ZZ,Ya,Yg,Yl,Yn,Yo,Yp,Yu,Yz,YE,YG,YH,YJ,YL,YN,YR,YU,YV,Xe,Xg,Xh,Xi,Xk,Xm,Xq,Xt,Xv,Xx,X0,XJ,XL,XP,XU,XV,XW,XY,We,Wp,Wq,Wr,Ws,Wt,Wu,Wv,Ww,Wx,Wy,Wz,W4,W5,W7,W8,W9,WA,WB,WC,WE,WF,WG,WH,WI,WJ,WM,WN,WS,WV,WW,WX,Vf,Vg,Vh,Vi,Vj,Vk,Vl,Vn,Vo,Vq,Vs,Vu,Vw,Vx,Vz,V0,V1,V2,V5,V6,V7,V8,V9,VB,VC,VD,VE,VF,VG,VH,VI,VK,VL,VM,VO,VP,VR,VS,VT,VU,VW,VZ,Uc,Ud,Uh,Uk,Ul,Um,Uq,Ur,Us,Ut,Uu,Uv,Uw,Ux,Uy,Uz,U0,U1,U2,U9,UA,UO,UP,UQ,UT,UU,UZ,Te,Tf,Tg,Th,Ti,Tj,Tk,Tl,Tm,Tq,Tr,Ts,Tt,Tw,Tx,Ty,Tz,T8,T9,TA,TB,TC,Sc,Sd,Se,Sn,Sq,Sr, e31, g]; all_goals tactic => exact rfl))
end
end Go.Proofs.YtpbeclkpohehgaaDoor
namespace Go.Proofs.YtpbeclkpohehgaaDoor
open Go Go.DL
set_option maxRecDepth 100000
set_option maxHeartbeats 4000000
theorem el_sorted (a : Nat) : (el a).Pairwise (· < ·) := List.Pairwise.filter _ List.pairwise_lt_range
theorem el_allT {a : Nat} (ha : a < 1024) : allT (ofN (el a)) 0 (ofN (el a)).length = a := by
  apply Nat.eq_of_testBit_eq
  intro x
  apply Bool.eq_iff_iff.2
  rw [allT_bit, Nat.zero_testBit, ofN_len]
  constructor
  · rintro (h | ⟨j, h1, h2⟩)
    · simp at h
    · obtain ⟨v, hv⟩ := at_ix h1
      rw [getD_of (ofN_ix hv), Int.toNat_natCast] at h2
      subst h2
      exact (el_mem.1 (List.mem_of_getElem? hv)).2
  · intro h
    have hx : x < 10 := by
      by_cases hc : x < 10
      · exact hc
      · rw [bit_lt (n := 10) ha (by omega)] at h; simp at h
    obtain ⟨j, hj⟩ := List.getElem?_of_mem (el_mem.2 ⟨hx, h⟩)
    exact .inr ⟨j, lt_of hj, by rw [getD_of (ofN_ix hj), Int.toNat_natCast]⟩
theorem el_vs {a n : Nat} (ha : a < 2 ^ n) (i : Nat) (hi : i < (el a).length) : vsE n (ofN (el a)) i = 0 := by
  obtain ⟨v, hv⟩ := at_ix hi
  have hvn := el_lt ha (List.mem_of_getElem? hv)
  rcases vsE_of (n := n) (ofN_ix hv) with ⟨_, _, _, h⟩ | ⟨_, _, h3, _⟩ | ⟨h1, _⟩
  · exact h
  · exfalso
    have h3 := of_eq_true h3
    cases i with
    | zero =>
      have : prv (ofN (el a)) 0 = -1 := rfl
      omega
    | succ j =>
      obtain ⟨u, hu⟩ := at_ix (l := el a) (i := j) (by omega)
      have e : prv (ofN (el a)) (j + 1) = (u : Int) := getD_of (ofN_ix hu)
      have hp := List.pairwise_iff_getElem.1 (el_sorted a) j (j + 1) (by omega) hi (by omega)
      rw [(List.getElem?_eq_some_iff.1 hu).2, (List.getElem?_eq_some_iff.1 hv).2] at hp
      omega
  · have : btw 0 (v : Int) ((n : Int) - 1) = true := btwF.2 (by omega)
    rw [h1] at this; simp at this
theorem ver_ok {l : Li} (hc : checkL l = 0) {w : Int} (h1 : 1 ≤ w) (h2 : w ≤ 1000000) {a : Nat} (h0 : a ≠ 0) (ha : a < 2 ^ l.ls.length) (hs : w ≤ shF l (behF l.ts) a) : verE l w (ofN (el a)) = 0 := by
  have g := good_of hc
  have ha2 := lt_10 ha g.few
  have hne : (el a).length ≠ 0 := fun hz => h0 ((el_0 a ha2).1 (List.eq_nil_of_length_eq_zero hz))
  unfold verE
  rw [if_pos hc, if_pos (btwF.2 ⟨h1, h2⟩), el_allT ha2, ofN_len, if_neg hne]
  obtain ⟨m, m1, m2, m3⟩ := firstN_ix (vsE l.ls.length (ofN (el a))) (el a).length
  rcases m3 with ⟨_, e⟩ | ⟨m3, m4, _⟩
  · rw [if_pos e, if_neg (by omega)]
  · exact absurd (el_vs ha m m3) m4
theorem w5 (l : Li) (hf : l.Fit2) : runW progX 5 [.agg l.c] [] = some (.bool true, []) := by
  have e14 := w14 l hf
  cases hl : largeB l
  · rw [hl] at e14
    have hs := small_of hl
    by_cases ho : 7 < l.ls.length ∧ l.ls.length ≤ 10
    · have g1 : ((7 : Int) < (l.ls.length : Int)) = True := eq_true (by omega)
      have g2 : ((l.ls.length : Int) ≤ 10) = True := eq_true (by omega)
      rw [r5 (by simp)]; unfold x5; dsimp only
      (sym => (simp [Za,Zb,Zc,Zf,Zg,Zh,Zj,Zl,Zm,Zn,Zo,Zp,Zq,Zr,Zs,Zt,Zu,Zv,Zx,Zy,Z2,Z3,Z5,ZB,ZC,ZE,ZI,ZJ,ZM,ZN,ZR,ZS,ZT,ZU,ZV,ZX,ZZ,Yg,Yn,Yo,Yq,Yr,Yx,YE,YF,YG,YJ,YR,YU,YV,Xa,Xe,Xf,Xg,Xh,Xi,Xr,Xu,XP,XQ,XU,XW,We,Wp,Wq,Wr,Ws,Wt,Wu,Wv,Ww,Wx,Wy,W7,WA,WB,WC,WE,WF,WG,WI,WJ,WV,WW,WX,Vi,Vk,Vl,Vm,Vn,Vo,Vq,Vw,Vx,Vz,V0,V1,V2,V3,V6,V7,V8,V9,VB,VF,VG,VH,VK,VL,VM,VN,VO,VP,VR,VS,VT,VU,VZ,Uc,Ud,Uh,Ul,Um,Uq,Ur,Us,Ut,Uu,Uv,Uw,U1,U2,U3,U9,UA,UP,UQ,UT,UU,UV,UW,UZ,Te,Tf,Tg,Th,Tk,Tm,Ts,Tt,Sc,Sn,Sq,Sr,Ss, e14, g1, g2, works_w]; all_goals tactic => exact rfl))
    · have e16 := w16 hs
      have e29 := w29 l hf.fit
      have e31 := w31 l hf.fit
      obtain ⟨os, e33⟩ := w33 (l := l) hf.fit
      have e32 := w32 (l := l) hf.fit
      unfold bestR at e29 e31
      have go : ∀ (P : Prop), (((7 : Int) < (l.ls.length : Int)) = False → P) → (((7 : Int) < (l.ls.length : Int)) = True → ((l.ls.length : Int) ≤ 10) = False → P) → P := fun P h1 h2 => by
        by_cases h7 : 7 < l.ls.length
        · exact h2 (eq_true (by omega)) (eq_false (by omega))
        · exact h1 (eq_false (by omega))
      by_cases hc : checkL l = 0
      · rw [if_pos hc] at e29 e31
        have g := good_of hc
        have hn := g.few
        have hlen : (ofN (bestO l)).length ≤ 10 := by
          rw [ofN_len]
          have hq : (bestO l).length = l.ls.length := path_len g g.prec (Int.le_refl (minW l))
          omega
        have e34 := w34s (ofN (bestO l)) (by omega)
        rcases e32 with ⟨p0, e32⟩ | ⟨p0, _, best, b1, b2, b3, b4, b5, e32⟩
        · have p0 := eq_false p0
          generalize prvE l = pe at *
          generalize minW l = w at *
          generalize ofN (bestO l) = bo at *
          apply go
          · intro g1
            rw [r5 (by simp)]; unfold x5; dsimp only
            (sym => (simp [Za,Zb,Zc,Zf,Zg,Zh,Zj,Zl,Zm,Zn,Zo,Zp,Zq,Zr,Zs,Zt,Zu,Zv,Zx,Zy,Z2,Z3,Z5,ZB,ZC,ZE,ZI,ZJ,ZM,ZN,ZR,ZS,ZT,ZU,ZV,ZX,ZZ,Yg,Yn,Yo,Yq,Yr,Yx,YE,YF,YG,YJ,YR,YU,YV,Xa,Xe,Xf,Xg,Xh,Xi,Xr,Xu,XP,XQ,XU,XW,We,Wp,Wq,Wr,Ws,Wt,Wu,Wv,Ww,Wx,Wy,W7,WA,WB,WC,WE,WF,WG,WI,WJ,WV,WW,WX,Vi,Vk,Vl,Vm,Vn,Vo,Vq,Vw,Vx,Vz,V0,V1,V2,V3,V6,V7,V8,V9,VB,VF,VG,VH,VK,VL,VM,VN,VO,VP,VR,VS,VT,VU,VZ,Uc,Ud,Uh,Ul,Um,Uq,Ur,Us,Ut,Uu,Uv,Uw,U1,U2,U3,U9,UA,UP,UQ,UT,UU,UV,UW,UZ,Te,Tf,Tg,Th,Tk,Tm,Ts,Tt,Sc,Sn,Sq,Sr,Ss, e14, g1, e16, e29, e31, e32, e33, e34, p0, works_w]; all_goals tactic => exact rfl))
          · intro g1 g2
            exact absurd hn (of_eq_false g2 ∘ fun h => by omega)
        · have e35 := w35 hf.fit (minW l) (ofN (el best)) (by rw [ofN_len]; have := el_len best; omega)
          rw [ver_ok hc b3 b4 b1 b2 b5] at e35
          rw [p0] at e33
          generalize minW l = w at *
          generalize ofN (bestO l) = bo at *
          generalize ofN (el best) = be at *
          apply go
          · intro g1
            rw [r5 (by simp)]; unfold x5; dsimp only
            (sym => (simp [Za,Zb,Zc,Zf,Zg,Zh,Zj,Zl,Zm,Zn,Zo,Zp,Zq,Zr,Zs,Zt,Zu,Zv,Zx,Zy,Z2,Z3,Z5,ZB,ZC,ZE,ZI,ZJ,ZM,ZN,ZR,ZS,ZT,ZU,ZV,ZX,ZZ,Yg,Yn,Yo,Yq,Yr,Yx,YE,YF,YG,YJ,YR,YU,YV,Xa,Xe,Xf,Xg,Xh,Xi,Xr,Xu,XP,XQ,XU,XW,We,Wp,Wq,Wr,Ws,Wt,Wu,Wv,Ww,Wx,Wy,W7,WA,WB,WC,WE,WF,WG,WI,WJ,WV,WW,WX,Vi,Vk,Vl,Vm,Vn,Vo,Vq,Vw,Vx,Vz,V0,V1,V2,V3,V6,V7,V8,V9,VB,VF,VG,VH,VK,VL,VM,VN,VO,VP,VR,VS,VT,VU,VZ,Uc,Ud,Uh,Ul,Um,Uq,Ur,Us,Ut,Uu,Uv,Uw,U1,U2,U3,U9,UA,UP,UQ,UT,UU,UV,UW,UZ,Te,Tf,Tg,Th,Tk,Tm,Ts,Tt,Sc,Sn,Sq,Sr,Ss, e14, g1, e16, e29, e31, e32, e33, e34, e35, works_w]; all_goals tactic => exact rfl))
          · intro g1 g2
            exact absurd hn (of_eq_false g2 ∘ fun h => by omega)
      · rw [if_neg hc] at e29 e31
        have e34 := w34s [] (by simp)
        have e34 : runW progX 34 [.fs [], .fs []] [] = some (.bool true, []) := e34
        rcases e32 with ⟨p0, e32⟩ | ⟨_, hc2, _⟩
        · have p0 := eq_false p0
          generalize prvE l = pe at *
          apply go
          · intro g1
            rw [r5 (by simp)]; unfold x5; dsimp only
            (sym => (simp [Za,Zb,Zc,Zf,Zg,Zh,Zj,Zl,Zm,Zn,Zo,Zp,Zq,Zr,Zs,Zt,Zu,Zv,Zx,Zy,Z2,Z3,Z5,ZB,ZC,ZE,ZI,ZJ,ZM,ZN,ZR,ZS,ZT,ZU,ZV,ZX,ZZ,Yg,Yn,Yo,Yq,Yr,Yx,YE,YF,YG,YJ,YR,YU,YV,Xa,Xe,Xf,Xg,Xh,Xi,Xr,Xu,XP,XQ,XU,XW,We,Wp,Wq,Wr,Ws,Wt,Wu,Wv,Ww,Wx,Wy,W7,WA,WB,WC,WE,WF,WG,WI,WJ,WV,WW,WX,Vi,Vk,Vl,Vm,Vn,Vo,Vq,Vw,Vx,Vz,V0,V1,V2,V3,V6,V7,V8,V9,VB,VF,VG,VH,VK,VL,VM,VN,VO,VP,VR,VS,VT,VU,VZ,Uc,Ud,Uh,Ul,Um,Uq,Ur,Us,Ut,Uu,Uv,Uw,U1,U2,U3,U9,UA,UP,UQ,UT,UU,UV,UW,UZ,Te,Tf,Tg,Th,Tk,Tm,Ts,Tt,Sc,Sn,Sq,Sr,Ss, e14, g1, e16, e29, e31, e32, e33, e34, p0, works_w]; all_goals tactic => exact rfl))
          · intro g1 g2
            rw [r5 (by simp)]; unfold x5; dsimp only
            (sym => (simp [Za,Zb,Zc,Zf,Zg,Zh,Zj,Zl,Zm,Zn,Zo,Zp,Zq,Zr,Zs,Zt,Zu,Zv,Zx,Zy,Z2,Z3,Z5,ZB,ZC,ZE,ZI,ZJ,ZM,ZN,ZR,ZS,ZT,ZU,ZV,ZX,ZZ,Yg,Yn,Yo,Yq,Yr,Yx,YE,YF,YG,YJ,YR,YU,YV,Xa,Xe,Xf,Xg,Xh,Xi,Xr,Xu,XP,XQ,XU,XW,We,Wp,Wq,Wr,Ws,Wt,Wu,Wv,Ww,Wx,Wy,W7,WA,WB,WC,WE,WF,WG,WI,WJ,WV,WW,WX,Vi,Vk,Vl,Vm,Vn,Vo,Vq,Vw,Vx,Vz,V0,V1,V2,V3,V6,V7,V8,V9,VB,VF,VG,VH,VK,VL,VM,VN,VO,VP,VR,VS,VT,VU,VZ,Uc,Ud,Uh,Ul,Um,Uq,Ur,Us,Ut,Uu,Uv,Uw,U1,U2,U3,U9,UA,UP,UQ,UT,UU,UV,UW,UZ,Te,Tf,Tg,Th,Tk,Tm,Ts,Tt,Sc,Sn,Sq,Sr,Ss, e14, g1, g2, e16, e29, e31, e32, e33, e34, p0, works_w]; all_goals tactic => exact rfl))
        · exact absurd hc2 hc
  · rw [hl] at e14
    rw [r5 (by simp)]; unfold x5; dsimp only
    (sym => (simp [Za,Zb,Zc,Zf,Zg,Zh,Zj,Zl,Zm,Zn,Zo,Zp,Zq,Zr,Zs,Zt,Zu,Zv,Zx,Zy,Z2,Z3,Z5,ZB,ZC,ZE,ZI,ZJ,ZM,ZN,ZR,ZS,ZT,ZU,ZV,ZX,ZZ,Yg,Yn,Yo,Yq,Yr,Yx,YE,YF,YG,YJ,YR,YU,YV,Xa,Xe,Xf,Xg,Xh,Xi,Xr,Xu,XP,XQ,XU,XW,We,Wp,Wq,Wr,Ws,Wt,Wu,Wv,Ww,Wx,Wy,W7,WA,WB,WC,WE,WF,WG,WI,WJ,WV,WW,WX,Vi,Vk,Vl,Vm,Vn,Vo,Vq,Vw,Vx,Vz,V0,V1,V2,V3,V6,V7,V8,V9,VB,VF,VG,VH,VK,VL,VM,VN,VO,VP,VR,VS,VT,VU,VZ,Uc,Ud,Uh,Ul,Um,Uq,Ur,Us,Ut,Uu,Uv,Uw,U1,U2,U3,U9,UA,UP,UQ,UT,UU,UV,UW,UZ,Te,Tf,Tg,Th,Tk,Tm,Ts,Tt,Sc,Sn,Sq,Sr,Ss, e14, works_w]; all_goals tactic => exact rfl))
end Go.Proofs.YtpbeclkpohehgaaDoor
