/- Parts of a proof, joined: K29 K30 K31 K32 K33 K34 K35 K36 K37 K38 K39 K40 K41 K42 K43 K44 K45 K46 K47. No statement of the seed is proved here. -/
import Derived.Test.YtpbeclkpohehgaaDoorT5
set_option linter.unusedSimpArgs false
set_option linter.unusedVariables false
set_option linter.unusedSectionVars false
namespace Go.Proofs.YtpbeclkpohehgaaDoor
open Go Go.DL
set_option maxRecDepth 100000
set_option maxHeartbeats 4000000

def goodB (l : Li) (b : Nat → Nat) (w : Int) (d k : Nat) : Bool := canB b d k && decide (wthF l b d k ≤ w)
def pickF (l : Li) (b : Nat → Nat) (w : Int) (d : Nat) : Option Nat := (List.range l.ls.length).find? (goodB l b w d)
def bestF (l : Li) (b : Nat → Nat) (w : Int) : Nat → Nat → List Nat
  | 0,_ => []
  | m + 1,d => match pickF l b w d with
    | some k => k :: bestF l b w m (d ||| 2 ^ k)
    | none => []
def bstF (l : Li) (b : Nat → Nat) (w : Int) (d : Nat) : List Nat := bestF l b w (l.ls.length - pop d l.ls.length) d
theorem range_find {P : Nat → Bool} {n : Nat} : (∃ k,(List.range n).find? P = some k ∧ k < n ∧ P k = true ∧ ∀ j,j < k → P j = false) ∨ ((List.range n).find? P = none ∧ ∀ j,j < n → P j = false) := by
  cases h : (List.range n).find? P with
  | none =>
    refine .inr ⟨rfl,fun j hj => ?_⟩
    have := List.find?_eq_none.1 h j (List.mem_range.2 hj)
    simpa using this
  | some k =>
    obtain ⟨h1,xs,ys,h2,h3⟩ := List.find?_eq_some_iff_append.1 h
    have hk : xs.length < (List.range n).length := by rw [h2]; simp
    have hk2 : (List.range n)[xs.length]? = some k := by rw [h2]; simp
    rw [List.length_range] at hk
    rw [List.getElem?_range hk] at hk2
    have hk2 := Option.some.inj hk2
    refine .inl ⟨k,rfl,by omega,h1,fun j hj => ?_⟩
    have hj2 : (List.range n)[j]? = some j := List.getElem?_range (by omega)
    rw [h2,List.getElem?_append_left (by omega)] at hj2
    simpa using h3 j (List.mem_of_getElem? hj2)
theorem bst_some {l : Li} {b : Nat → Nat} {w : Int} {d k : Nat} (h : pickF l b w d = some k) : bstF l b w d = k :: bstF l b w (d ||| 2 ^ k) ∧ k < l.ls.length ∧ canB b d k = true ∧ wthF l b d k ≤ w ∧ pop (d ||| 2 ^ k) l.ls.length = pop d l.ls.length + 1 ∧ ∀ j,j < k → goodB l b w d j = false := by
  rcases range_find (P := goodB l b w d) (n := l.ls.length) with ⟨k',h1,h2,h3,h4⟩ | ⟨h1,_⟩
  · have hk : k' = k := by
      have := h1.symm.trans h
      exact Option.some.inj this
    subst hk
    unfold goodB at h3
    rw [Bool.and_eq_true,decide_eq_true_iff] at h3
    have hp := (pop_or (can_bit h3.1) l.ls.length).1 h2
    have hle := pop_le (d ||| 2 ^ k') l.ls.length
    refine ⟨?_,h2,h3.1,h3.2,hp,h4⟩
    unfold bstF
    obtain ⟨m,hm⟩ : ∃ m,l.ls.length - pop d l.ls.length = m + 1 := ⟨l.ls.length - pop d l.ls.length - 1,by omega⟩
    rw [hm,bestF,h]
    dsimp only
    rw [show l.ls.length - pop (d ||| 2 ^ k') l.ls.length = m by omega]
  · unfold pickF at h
    rw [h1] at h; simp at h
theorem bst_none {l : Li} {b : Nat → Nat} {w : Int} {d : Nat} (h : pickF l b w d = none) : bstF l b w d = [] ∧ ∀ j,j < l.ls.length → goodB l b w d j = false := by
  rcases range_find (P := goodB l b w d) (n := l.ls.length) with ⟨k',h1,_⟩ | ⟨h1,h2⟩
  · unfold pickF at h
    rw [h1] at h; simp at h
  · refine ⟨?_,h2⟩
    unfold bstF
    cases l.ls.length - pop d l.ls.length with
    | zero => rfl
    | succ m => rw [bestF,h]
section
variable {l : Li} {b : Nat → Nat}
abbrev h73n (l : Li) (b : Nat → Nat) (es : List (Int × Int)) (d : Nat) (w : Int) : XH := [some (.blk false (.cells true [.pt 1 0])),some (.blk false (.cells true (yC l b 2))),some (.blk true (.map true (encM es))),cU d,some (.blk true (.cells true [I w])),some (.blk true (.cells true [.nilsl])),some (.blk false (.cells true [.fn (.func 73) [] [.pt 0 0,.pt 3 0,.pt 4 0,.pt 5 0,.pt 6 0]]))]
abbrev h73c (l : Li) (b : Nat → Nat) (es : List (Int × Int)) (d : Nat) (w : Int) (a : Int) (r : List Int) : XH := [some (.blk false (.cells true [.pt 1 0])),some (.blk false (.cells true (yC l b 2))),some (.blk true (.map true (encM es))),cU d,some (.blk true (.cells true [I w])),some (.blk false (.cells true [.sl 6 0 1 (r.length + 1)])),some (.blk true (.cells true (I a :: r.map I))),some (.blk false (.cells true [.fn (.func 73) [] [.pt 0 0,.pt 3 0,.pt 4 0,.pt 5 0,.pt 7 0]]))]
abbrev g73n (l : Li) (b : Nat → Nat) (es : List (Int × Int)) (d : Nat) (w : Int) (s : LSt) : XH := [some (.loop 73 0 [.pt 1 0,.pt 4 0,.pt 5 0,.pt 6 0,.pt 7 0] s),some (.blk false (.cells true [.pt 2 0])),some (.blk false (.cells true (yC l b 3))),some (.blk true (.map true (encM es))),cU d,some (.blk true (.cells true [I w])),some (.blk true (.cells true [.nilsl])),some (.blk false (.cells true [.fn (.func 73) [] [.pt 1 0,.pt 4 0,.pt 5 0,.pt 6 0,.pt 7 0]]))]
abbrev g73c (l : Li) (b : Nat → Nat) (es : List (Int × Int)) (d : Nat) (w : Int) (a : Int) (r : List Int) (s : LSt) : XH := [some (.loop 73 0 [.pt 1 0,.pt 4 0,.pt 5 0,.pt 6 0,.pt 8 0] s),some (.blk false (.cells true [.pt 2 0])),some (.blk false (.cells true (yC l b 3))),some (.blk true (.map true (encM es))),cU d,some (.blk true (.cells true [I w])),some (.blk false (.cells true [.sl 7 0 1 (r.length + 1)])),some (.blk true (.cells true (I a :: r.map I))),some (.blk false (.cells true [.fn (.func 73) [] [.pt 1 0,.pt 4 0,.pt 5 0,.pt 6 0,.pt 8 0]]))]
theorem home73n (es : List (Int × Int)) (d : Nat) (w : Int) (s : LSt) : Home2 8 2 l b (g73n l b es d w s) := by
  refine ⟨⟨3,fun _ => rfl⟩,fun _ => rfl,fun _ => rfl,fun _ => rfl,?_,?_⟩
  · intro a e j k h0 h1 h2 h3 h4
    (sym => (simp [yC_nm,yC_rn,yM_s,yC_gr,yC_sl,yC_fz,yC_len,yC_0,yC_1,yC_2,yC_3,yC_4,yC_15,yC_same,Za,YN,YQ,YU,YZ,Xa,Xm,Xp,Xs,Xw,Xx,XI,Wd,WA,WF,WH,WJ,WL,WM,WN,WO,WP,WV,WW,WX,WY,Va,Vb,Vc,Vd,Vr,V8,V9,VA,VM,VN,VU,VV,VW,VX,VY,VZ,Ua,Uv,U0,U1,U2,U3,U4,U7,UB,T6,Sy,h0,h1,h2,h3,h4]; all_goals tactic => exact rfl))
  · intro a
    (sym => (simp [yC_nm,yC_rn,yM_s,yC_gr,yC_sl,yC_fz,yC_len,yC_0,yC_1,yC_2,yC_3,yC_4,yC_15,yC_same,Za,YN,YQ,YU,YZ,Xa,Xm,Xp,Xs,Xw,Xx,XI,Wd,WA,WF,WH,WJ,WL,WM,WN,WO,WP,WV,WW,WX,WY,Va,Vb,Vc,Vd,Vr,V8,V9,VA,VM,VN,VU,VV,VW,VX,VY,VZ,Ua,Uv,U0,U1,U2,U3,U4,U7,UB,T6,Sy]; all_goals tactic => exact rfl))
theorem home73c (es : List (Int × Int)) (d : Nat) (w : Int) (a : Int) (r : List Int) (s : LSt) : Home2 9 2 l b (g73c l b es d w a r s) := by
  refine ⟨⟨3,fun _ => rfl⟩,fun _ => rfl,fun _ => rfl,fun _ => rfl,?_,?_⟩
  · intro a e j k h0 h1 h2 h3 h4
    (sym => (simp [yC_nm,yC_rn,yM_s,yC_gr,yC_sl,yC_fz,yC_len,yC_0,yC_1,yC_2,yC_3,yC_4,yC_15,yC_same,Za,YN,YQ,YT,YU,YZ,Xa,Xm,Xp,Xr,Xs,Xw,Xx,XI,Wd,WA,WF,WH,WJ,WL,WM,WN,WO,WP,WV,WW,WX,WY,Va,Vb,Vc,Vd,Vr,V8,V9,VA,VM,VN,VU,VV,VW,VX,VY,VZ,Ua,Uv,U0,U1,U2,U3,U4,U7,UB,T6,Sy,h0,h1,h2,h3,h4]; all_goals tactic => exact rfl))
  · intro a
    (sym => (simp [yC_nm,yC_rn,yM_s,yC_gr,yC_sl,yC_fz,yC_len,yC_0,yC_1,yC_2,yC_3,yC_4,yC_15,yC_same,Za,YN,YQ,YT,YU,YZ,Xa,Xm,Xp,Xr,Xs,Xw,Xx,XI,Wd,WA,WF,WH,WJ,WL,WM,WN,WO,WP,WV,WW,WX,WY,Va,Vb,Vc,Vd,Vr,V8,V9,VA,VM,VN,VU,VV,VW,VX,VY,VZ,Ua,Uv,U0,U1,U2,U3,U4,U7,UB,T6,Sy]; all_goals tactic => exact rfl))
theorem y73n {d k : Nat} {es es' : List (Int × Int)} {w r : Int} (h : runW progX 75 [.pt 0 0,U d,I (k : Nat)] (hY l b (encM es)) = some (I r,hY l b (encM es'))) (hr : (r ≤ w) = False) : Yd2 2 (g73n l b es d w .ready) (g73n l b es' d w .ready) k true := by
  have y : runYW progX (.fn (.yield 0) [] []) [I (k : Nat)] (g73n l b es d w .ready) = some (.bool true,g73n l b es' d w .ready) := by
    rw [runYW_eq (K := 73) (d := x73) (site := 0) (vs := [.pt 1 0,.pt 4 0,.pt 5 0,.pt 6 0,.pt 7 0]) rfl rfl (by rfl) rfl]
    (sym => (simp [yC_nm,yC_rn,yM_s,yC_gr,yC_sl,yC_fz,yC_len,yC_0,yC_1,yC_2,yC_3,yC_4,yC_15,yC_same,Za,Zb,Zd,Ze,Zf,Zg,Zh,Zk,Zl,Zm,Zu,Z2,ZG,ZI,ZL,ZP,ZQ,ZS,ZT,Yr,YN,YO,YU,YZ,Xa,Xm,Xn,Xs,Xw,Xx,XL,Wy,Wz,W0,W3,W6,W7,W9,WA,WB,WC,WE,WF,WG,WH,WI,WJ,WK,WL,WM,WN,WO,WP,WR,WS,WT,WV,WW,WX,WY,Va,Vb,Vc,Vd,Ve,Vf,Vg,Vh,Vi,Vj,Vk,Vm,Vn,Vr,Vt,Vu,Vw,Vx,Vy,Vz,V7,VA,VL,VO,VQ,VU,VV,VW,VX,VY,VZ,Ua,Ub,Uc,Uf,Ui,Ul,Um,Uo,Uu,Uv,Ux,Uy,Uz,U0,U1,U2,U3,U4,U7,U8,UH,UI,Ta,Tb,Tf,Tr,Ts,Tu,Tw,Tx,T3,T7,T8,TV,TW,TX,TY,Sj,Sk,Sl,Sm,Sn,Sy,S3,S4,S5,S6,S7,SB,SC,SD,h,hr]; all_goals tactic => exact rfl))
  intro c
  (sym => (simp [yC_nm,yC_rn,yM_s,yC_gr,yC_sl,yC_fz,yC_len,yC_0,yC_1,yC_2,yC_3,yC_4,yC_15,yC_same,Za,Zb,Zd,Ze,Zf,Zg,Zh,Zk,Zl,Zm,Zu,Z2,ZG,ZI,ZL,ZP,ZQ,ZS,ZT,Yr,YN,YO,YU,YZ,Xa,Xm,Xn,Xs,Xw,Xx,XL,Wy,Wz,W0,W3,W6,W7,W9,WA,WB,WC,WE,WF,WG,WH,WI,WJ,WK,WL,WM,WN,WO,WP,WR,WS,WT,WV,WW,WX,WY,Va,Vb,Vc,Vd,Ve,Vf,Vg,Vh,Vi,Vj,Vk,Vm,Vn,Vr,Vt,Vu,Vw,Vx,Vy,Vz,V7,VA,VL,VO,VQ,VU,VV,VW,VX,VY,VZ,Ua,Ub,Uc,Uf,Ui,Ul,Um,Uo,Uu,Uv,Ux,Uy,Uz,U0,U1,U2,U3,U4,U7,U8,UH,UI,Ta,Tb,Tf,Tr,Ts,Tu,Tw,Tx,T3,T7,T8,TV,TW,TX,TY,Sj,Sk,Sl,Sm,Sn,Sy,S3,S4,S5,S6,S7,SB,SC,SD,y]; all_goals tactic => exact rfl))
theorem y73c {d k : Nat} {es es' : List (Int × Int)} {w r a : Int} {q : List Int} (h : runW progX 75 [.pt 0 0,U d,I (k : Nat)] (hY l b (encM es)) = some (I r,hY l b (encM es'))) (hr : (r ≤ w) = False) : Yd2 2 (g73c l b es d w a q .ready) (g73c l b es' d w a q .ready) k true := by
  have y : runYW progX (.fn (.yield 0) [] []) [I (k : Nat)] (g73c l b es d w a q .ready) = some (.bool true,g73c l b es' d w a q .ready) := by
    rw [runYW_eq (K := 73) (d := x73) (site := 0) (vs := [.pt 1 0,.pt 4 0,.pt 5 0,.pt 6 0,.pt 8 0]) rfl rfl (by rfl) rfl]
    (sym => (simp [yC_nm,yC_rn,yM_s,yC_gr,yC_sl,yC_fz,yC_len,yC_0,yC_1,yC_2,yC_3,yC_4,yC_15,yC_same,Za,Zb,Zd,Ze,Zf,Zg,Zh,Zk,Zl,Zm,Zu,Z2,ZG,ZI,ZL,ZP,ZQ,ZS,ZT,Yr,YN,YO,YT,YU,YZ,Xa,Xm,Xn,Xr,Xs,Xw,Xx,XL,Wy,Wz,W0,W3,W6,W7,W9,WA,WB,WC,WE,WF,WG,WH,WI,WJ,WK,WL,WM,WN,WO,WP,WR,WS,WT,WV,WW,WX,WY,Va,Vb,Vc,Vd,Ve,Vf,Vg,Vh,Vi,Vj,Vk,Vm,Vn,Vr,Vt,Vu,Vw,Vx,Vy,Vz,V7,VA,VL,VO,VQ,VU,VV,VW,VX,VY,VZ,Ua,Ub,Uc,Uf,Ui,Ul,Um,Uo,Uu,Uv,Ux,Uy,Uz,U0,U1,U2,U3,U4,U7,U8,UH,UI,Ta,Tb,Tf,Tr,Ts,Tu,Tw,Tx,T3,T7,T8,TV,TW,TX,TY,Sj,Sk,Sl,Sm,Sn,Sy,S3,S4,S5,S6,S7,SB,SC,SD,h,hr]; all_goals tactic => exact rfl))
  intro c
  (sym => (simp [yC_nm,yC_rn,yM_s,yC_gr,yC_sl,yC_fz,yC_len,yC_0,yC_1,yC_2,yC_3,yC_4,yC_15,yC_same,Za,Zb,Zd,Ze,Zf,Zg,Zh,Zk,Zl,Zm,Zu,Z2,ZG,ZI,ZL,ZP,ZQ,ZS,ZT,Yr,YN,YO,YT,YU,YZ,Xa,Xm,Xn,Xr,Xs,Xw,Xx,XL,Wy,Wz,W0,W3,W6,W7,W9,WA,WB,WC,WE,WF,WG,WH,WI,WJ,WK,WL,WM,WN,WO,WP,WR,WS,WT,WV,WW,WX,WY,Va,Vb,Vc,Vd,Ve,Vf,Vg,Vh,Vi,Vj,Vk,Vm,Vn,Vr,Vt,Vu,Vw,Vx,Vy,Vz,V7,VA,VL,VO,VQ,VU,VV,VW,VX,VY,VZ,Ua,Ub,Uc,Uf,Ui,Ul,Um,Uo,Uu,Uv,Ux,Uy,Uz,U0,U1,U2,U3,U4,U7,U8,UH,UI,Ta,Tb,Tf,Tr,Ts,Tu,Tw,Tx,T3,T7,T8,TV,TW,TX,TY,Sj,Sk,Sl,Sm,Sn,Sy,S3,S4,S5,S6,S7,SB,SC,SD,y]; all_goals tactic => exact rfl))
abbrev r73c (l : Li) (b : Nat → Nat) (es : List (Int × Int)) (d : Nat) (w : Int) (a : Int) (r : List Int) : XH := [some (.blk false (.cells true [.pt 1 0])),some (.blk false (.cells true (yC l b 2))),some (.blk true (.map true (encM es))),cU d,some (.blk true (.cells true [I w])),some (.blk false (.cells true [.sl 8 0 1 (r.length + 1)])),none,some (.blk false (.cells true [.fn (.func 73) [] [.pt 0 0,.pt 3 0,.pt 4 0,.pt 5 0,.pt 7 0]])),some (.blk true (.cells true (I a :: r.map I)))]
abbrev r73n (l : Li) (b : Nat → Nat) (es : List (Int × Int)) (d : Nat) (w : Int) (a : Int) (r : List Int) : XH := [some (.blk false (.cells true [.pt 1 0])),some (.blk false (.cells true (yC l b 2))),some (.blk true (.map true (encM es))),cU d,some (.blk true (.cells true [I w])),some (.blk false (.cells true [.sl 7 0 1 (r.length + 1)])),some (.blk false (.cells true [.fn (.func 73) [] [.pt 0 0,.pt 3 0,.pt 4 0,.pt 5 0,.pt 6 0]])),some (.blk true (.cells true (I a :: r.map I)))]
abbrev z73n (l : Li) (b : Nat → Nat) (es : List (Int × Int)) (d : Nat) (w : Int) (a : Int) (r : List Int) (c : Nat) : XH := [some (.loop 73 0 [.pt 1 0,.pt 4 0,.pt 5 0,.pt 6 0,.pt 7 0] (.done .ret)),some (.blk false (.cells true [.pt 2 0])),some (.blk false (.cells true (yC l b 3))),some (.blk true (.map true (encM es))),cU d,some (.blk true (.cells true [I w])),some (.blk false (.cells true [.sl 10 0 1 (r.length + 1)])),some (.blk false (.cells true [.fn (.func 73) [] [.pt 1 0,.pt 4 0,.pt 5 0,.pt 6 0,.pt 7 0]])),some (.blk false (.cells true [.pt 2 0])),cU c,some (.blk true (.cells true (I a :: r.map I)))]
abbrev z73c (l : Li) (b : Nat → Nat) (es : List (Int × Int)) (d : Nat) (w : Int) (a : Int) (r : List Int) (c : Nat) : XH := [some (.loop 73 0 [.pt 1 0,.pt 4 0,.pt 5 0,.pt 6 0,.pt 8 0] (.done .ret)),some (.blk false (.cells true [.pt 2 0])),some (.blk false (.cells true (yC l b 3))),some (.blk true (.map true (encM es))),cU d,some (.blk true (.cells true [I w])),some (.blk false (.cells true [.sl 11 0 1 (r.length + 1)])),none,some (.blk false (.cells true [.fn (.func 73) [] [.pt 1 0,.pt 4 0,.pt 5 0,.pt 6 0,.pt 8 0]])),some (.blk false (.cells true [.pt 2 0])),cU c,some (.blk true (.cells true (I a :: r.map I)))]
theorem l73n {d k d2 c : Nat} (hd : d < 2 ^ 10) (hk : k < 10) {es es' es2 : List (Int × Int)} {w r : Int} {a2 : Int} {q2 : List Int} (h : runW progX 75 [.pt 0 0,U d,I (k : Nat)] (hY l b (encM es)) = some (I r,hY l b (encM es'))) (hr : (r ≤ w) = True)
    (hx : runW progX 73 [.pt 0 0,.pt 3 0,.pt 4 0,.pt 5 0,.pt 7 0] (h73c l b es' (d ||| 2 ^ k) w (k : Int) []) = some (.tup [],h73c l b es2 d2 w a2 q2) ∨ runW progX 73 [.pt 0 0,.pt 3 0,.pt 4 0,.pt 5 0,.pt 7 0] (h73c l b es' (d ||| 2 ^ k) w (k : Int) []) = some (.tup [],r73c l b es2 d2 w a2 q2)) :
    Lv 8 2 c (g73n l b es d w .ready) k (z73n l b es2 d2 w a2 q2 c) := by
  have n0 := (eq_false (by omega) : ((k : Int) < 0) = False)
  have o1 := or_n hd hk
  have o2 := or_n1 hd hk
  generalize d ||| 2 ^ k = d' at *
  have y : runYW progX (.fn (.yield 0) [] []) [I (k : Nat)] (g73n l b es d w .ready) = some (.bool false,[some (.loop 73 0 [.pt 1 0,.pt 4 0,.pt 5 0,.pt 6 0,.pt 7 0] (.done .ret)),some (.blk false (.cells true [.pt 2 0])),some (.blk false (.cells true (yC l b 3))),some (.blk true (.map true (encM es2))),cU d2,some (.blk true (.cells true [I w])),some (.blk false (.cells true [.sl 8 0 1 (q2.length + 1)])),some (.blk false (.cells true [.fn (.func 73) [] [.pt 1 0,.pt 4 0,.pt 5 0,.pt 6 0,.pt 7 0]])),some (.blk true (.cells true (I a2 :: q2.map I)))]) := by
    rw [runYW_eq (K := 73) (d := x73) (site := 0) (vs := [.pt 1 0,.pt 4 0,.pt 5 0,.pt 6 0,.pt 7 0]) rfl rfl (by rfl) rfl]
    rcases hx with hx | hx
    · have hx : runW progX 73 [.pt 0 0,.pt 3 0,.pt 4 0,.pt 5 0,.pt 7 0] [some (.blk false (.cells true [.pt 1 0])),some (.blk false (.cells true (yC l b 2))),some (.blk true (.map true (encM es'))),cU d',some (.blk true (.cells true [I w])),some (.blk false (.cells true [.sl 6 0 1 1])),some (.blk true (.cells true [I (k : Nat)])),some (.blk false (.cells true [.fn (.func 73) [] [.pt 0 0,.pt 3 0,.pt 4 0,.pt 5 0,.pt 7 0]]))] = some (.tup [],h73c l b es2 d2 w a2 q2) := hx
      (sym => (simp [yC_nm,yC_rn,yM_s,yC_gr,yC_sl,yC_fz,yC_len,yC_0,yC_1,yC_2,yC_3,yC_4,yC_15,yC_same,Za,Zb,Zc,Zd,Ze,Zf,Zg,Zh,Zi,Zk,Zl,Zm,Zn,Zu,Z0,Z2,ZF,ZG,ZI,ZJ,ZK,ZL,ZM,ZN,ZO,ZP,ZQ,ZR,ZS,ZT,Yl,Ym,Yr,Yv,YN,YO,YQ,YT,YU,YZ,Xa,Xb,Xf,Xm,Xn,Xp,Xr,Xs,Xw,Xx,XI,XL,Wd,Wl,Wp,Ww,Wy,Wz,W0,W3,W4,W5,W6,W7,W9,WA,WB,WC,WE,WF,WG,WH,WI,WJ,WK,WL,WM,WN,WO,WP,WQ,WR,WS,WT,WU,WV,WW,WX,WY,Va,Vb,Vc,Vd,Ve,Vf,Vg,Vh,Vi,Vj,Vk,Vm,Vn,Vr,Vt,Vu,Vw,Vx,Vy,Vz,V7,V8,V9,VA,VL,VO,VP,VU,VV,VW,VX,VY,VZ,Ua,Ub,Uc,Uf,Ui,Uk,Ul,Um,Un,Uo,Ur,Uu,Uv,Uw,Uy,Uz,U0,U1,U2,U3,U4,U5,U6,U7,U8,UB,UD,UE,UF,UG,UH,UI,UL,UM,UN,UO,UT,UU,UV,UW,Ta,Tb,Tf,Tg,Th,Tk,Tm,Tn,Tq,Tr,Ts,Tt,Tw,Tx,T4,T7,T8,TI,TV,TW,TX,TY,Sj,Sk,Sl,Sm,Sq,Sx,Sy,S3,S4,S5,S6,S7,SB,SC,SD,h,hr,n0,o1,o2,hx]; all_goals tactic => exact rfl))
    · have hx : runW progX 73 [.pt 0 0,.pt 3 0,.pt 4 0,.pt 5 0,.pt 7 0] [some (.blk false (.cells true [.pt 1 0])),some (.blk false (.cells true (yC l b 2))),some (.blk true (.map true (encM es'))),cU d',some (.blk true (.cells true [I w])),some (.blk false (.cells true [.sl 6 0 1 1])),some (.blk true (.cells true [I (k : Nat)])),some (.blk false (.cells true [.fn (.func 73) [] [.pt 0 0,.pt 3 0,.pt 4 0,.pt 5 0,.pt 7 0]]))] = some (.tup [],r73c l b es2 d2 w a2 q2) := hx
      (sym => (simp [yC_nm,yC_rn,yM_s,yC_gr,yC_sl,yC_fz,yC_len,yC_0,yC_1,yC_2,yC_3,yC_4,yC_15,yC_same,Za,Zb,Zc,Zd,Ze,Zf,Zg,Zh,Zi,Zk,Zl,Zm,Zn,Zu,Z0,Z2,ZF,ZG,ZI,ZJ,ZK,ZL,ZM,ZN,ZO,ZP,ZQ,ZR,ZS,ZT,Yl,Ym,Yr,Yv,YN,YO,YQ,YT,YU,YZ,Xa,Xb,Xf,Xm,Xn,Xp,Xr,Xs,Xw,Xx,XI,XL,Wd,Wl,Wp,Ww,Wy,Wz,W0,W3,W4,W5,W6,W7,W9,WA,WB,WC,WE,WF,WG,WH,WI,WJ,WK,WL,WM,WN,WO,WP,WQ,WR,WS,WT,WU,WV,WW,WX,WY,Va,Vb,Vc,Vd,Ve,Vf,Vg,Vh,Vi,Vj,Vk,Vm,Vn,Vr,Vt,Vu,Vw,Vx,Vy,Vz,V7,V8,V9,VA,VL,VO,VP,VU,VV,VW,VX,VY,VZ,Ua,Ub,Uc,Uf,Ui,Uk,Ul,Um,Un,Uo,Ur,Uu,Uv,Uw,Uy,Uz,U0,U1,U2,U3,U4,U5,U6,U7,U8,UB,UD,UE,UF,UG,UH,UI,UL,UM,UN,UO,UT,UU,UV,UW,Ta,Tb,Tf,Tg,Th,Tk,Tm,Tn,Tq,Tr,Ts,Tt,Tw,Tx,T4,T7,T8,TI,TV,TW,TX,TY,Sj,Sk,Sl,Sm,Sq,Sx,Sy,S3,S4,S5,S6,S7,SB,SC,SD,h,hr,n0,o1,o2,hx]; all_goals tactic => exact rfl))
  refine ⟨z73n l b es2 d2 w a2 q2 c,?_,?_,rfl,rfl,rfl⟩
  · (sym => (simp [yC_nm,yC_rn,yM_s,yC_gr,yC_sl,yC_fz,yC_len,yC_0,yC_1,yC_2,yC_3,yC_4,yC_15,yC_same,Za,Zb,Zc,Zd,Ze,Zf,Zg,Zh,Zi,Zk,Zl,Zm,Zn,Zu,Z0,Z2,ZF,ZG,ZI,ZJ,ZK,ZL,ZM,ZN,ZO,ZP,ZQ,ZR,ZS,ZT,Yl,Ym,Yr,Yv,YN,YO,YQ,YT,YU,YZ,Xa,Xb,Xf,Xm,Xn,Xp,Xr,Xs,Xw,Xx,XI,XL,Wd,Wl,Wp,Ww,Wy,Wz,W0,W3,W4,W5,W6,W7,W9,WA,WB,WC,WE,WF,WG,WH,WI,WJ,WK,WL,WM,WN,WO,WP,WQ,WR,WS,WT,WU,WV,WW,WX,WY,Va,Vb,Vc,Vd,Ve,Vf,Vg,Vh,Vi,Vj,Vk,Vm,Vn,Vr,Vt,Vu,Vw,Vx,Vy,Vz,V7,V8,V9,VA,VL,VO,VP,VU,VV,VW,VX,VY,VZ,Ua,Ub,Uc,Uf,Ui,Uk,Ul,Um,Un,Uo,Ur,Uu,Uv,Uw,Uy,Uz,U0,U1,U2,U3,U4,U5,U6,U7,U8,UB,UD,UE,UF,UG,UH,UI,UL,UM,UN,UO,UT,UU,UV,UW,Ta,Tb,Tf,Tg,Th,Tk,Tm,Tn,Tq,Tr,Ts,Tt,Tw,Tx,T4,T7,T8,TI,TV,TW,TX,TY,Sj,Sk,Sl,Sm,Sq,Sx,Sy,S3,S4,S5,S6,S7,SB,SC,SD,y]; all_goals tactic => exact rfl))
  · (sym => (simp [yC_nm,yC_rn,yM_s,yC_gr,yC_sl,yC_fz,yC_len,yC_0,yC_1,yC_2,yC_3,yC_4,yC_15,yC_same,Za,Zb,Zc,Zd,Ze,Zf,Zg,Zh,Zi,Zk,Zl,Zm,Zn,Zu,Z0,Z2,ZF,ZG,ZI,ZJ,ZK,ZL,ZM,ZN,ZO,ZP,ZQ,ZR,ZS,ZT,Yl,Ym,Yr,Yv,YN,YO,YQ,YT,YU,YZ,Xa,Xb,Xf,Xm,Xn,Xp,Xr,Xs,Xw,Xx,XI,XL,Wd,Wl,Wp,Ww,Wy,Wz,W0,W3,W4,W5,W6,W7,W9,WA,WB,WC,WE,WF,WG,WH,WI,WJ,WK,WL,WM,WN,WO,WP,WQ,WR,WS,WT,WU,WV,WW,WX,WY,Va,Vb,Vc,Vd,Ve,Vf,Vg,Vh,Vi,Vj,Vk,Vm,Vn,Vr,Vt,Vu,Vw,Vx,Vy,Vz,V7,V8,V9,VA,VL,VO,VP,VU,VV,VW,VX,VY,VZ,Ua,Ub,Uc,Uf,Ui,Uk,Ul,Um,Un,Uo,Ur,Uu,Uv,Uw,Uy,Uz,U0,U1,U2,U3,U4,U5,U6,U7,U8,UB,UD,UE,UF,UG,UH,UI,UL,UM,UN,UO,UT,UU,UV,UW,Ta,Tb,Tf,Tg,Th,Tk,Tm,Tn,Tq,Tr,Ts,Tt,Tw,Tx,T4,T7,T8,TI,TV,TW,TX,TY,Sj,Sk,Sl,Sm,Sq,Sx,Sy,S3,S4,S5,S6,S7,SB,SC,SD]; all_goals tactic => exact rfl))
theorem l73c {d k d2 c : Nat} (hd : d < 2 ^ 10) (hk : k < 10) {es es' es2 : List (Int × Int)} {w r a : Int} {q : List Int} {a2 : Int} {q2 : List Int} (hq : q.length ≤ 10) (h : runW progX 75 [.pt 0 0,U d,I (k : Nat)] (hY l b (encM es)) = some (I r,hY l b (encM es'))) (hr : (r ≤ w) = True)
    (hx : runW progX 73 [.pt 0 0,.pt 3 0,.pt 4 0,.pt 5 0,.pt 7 0] (h73c l b es' (d ||| 2 ^ k) w a (q ++ [(k : Int)])) = some (.tup [],h73c l b es2 d2 w a2 q2) ∨ runW progX 73 [.pt 0 0,.pt 3 0,.pt 4 0,.pt 5 0,.pt 7 0] (h73c l b es' (d ||| 2 ^ k) w a (q ++ [(k : Int)])) = some (.tup [],r73c l b es2 d2 w a2 q2)) :
    Lv 9 2 c (g73c l b es d w a q .ready) k (z73c l b es2 d2 w a2 q2 c) := by
  have n0 := (eq_false (by omega) : ((k : Int) < 0) = False)
  have o1 := or_n hd hk
  have o2 := or_n1 hd hk
  have b1 : ((q.length + 1 + 1) * 8 ≤ 1099511627776) = True := eq_true (by omega)
  have b2 : (q.length + 1 + 1 ≤ 1099511627776) = True := eq_true (by omega)
  generalize d ||| 2 ^ k = d' at *
  have y : runYW progX (.fn (.yield 0) [] []) [I (k : Nat)] (g73c l b es d w a q .ready) = some (.bool false,[some (.loop 73 0 [.pt 1 0,.pt 4 0,.pt 5 0,.pt 6 0,.pt 8 0] (.done .ret)),some (.blk false (.cells true [.pt 2 0])),some (.blk false (.cells true (yC l b 3))),some (.blk true (.map true (encM es2))),cU d2,some (.blk true (.cells true [I w])),some (.blk false (.cells true [.sl 9 0 1 (q2.length + 1)])),none,some (.blk false (.cells true [.fn (.func 73) [] [.pt 1 0,.pt 4 0,.pt 5 0,.pt 6 0,.pt 8 0]])),some (.blk true (.cells true (I a2 :: q2.map I)))]) := by
    rw [runYW_eq (K := 73) (d := x73) (site := 0) (vs := [.pt 1 0,.pt 4 0,.pt 5 0,.pt 6 0,.pt 8 0]) rfl rfl (by rfl) rfl]
    unfold h73c r73c at hx
    simp only [List.map_append,List.map_cons,List.map_nil,List.length_append,List.length_cons,List.length_nil,Nat.zero_add] at hx
    rcases hx with hx | hx
    · (sym => (simp [yC_nm,yC_rn,yM_s,yC_gr,yC_sl,yC_fz,yC_len,yC_0,yC_1,yC_2,yC_3,yC_4,yC_15,yC_same,Za,Zb,Zc,Zd,Ze,Zf,Zg,Zh,Zi,Zk,Zl,Zm,Zn,Zu,Z0,Z2,ZF,ZG,ZI,ZJ,ZK,ZL,ZM,ZN,ZO,ZP,ZQ,ZR,ZS,ZT,Yl,Ym,Yr,Yv,YN,YO,YQ,YT,YU,YZ,Xa,Xb,Xf,Xm,Xn,Xp,Xr,Xs,Xw,Xx,XI,XL,Wd,Wl,Wp,Ww,Wy,Wz,W0,W3,W4,W5,W6,W7,W9,WA,WB,WC,WE,WF,WG,WH,WI,WJ,WK,WL,WM,WN,WO,WP,WQ,WR,WS,WT,WU,WV,WW,WX,WY,WZ,Va,Vb,Vc,Vd,Ve,Vf,Vg,Vh,Vi,Vj,Vk,Vm,Vn,Vr,Vt,Vu,Vw,Vx,Vy,Vz,V7,V8,V9,VA,VL,VO,VP,VU,VV,VW,VX,VY,VZ,Ua,Ub,Uc,Ud,Uf,Ui,Uk,Ul,Um,Un,Uo,Ur,Uu,Uv,Uw,Uy,Uz,U0,U1,U2,U3,U4,U5,U6,U7,U8,UB,UD,UE,UF,UG,UH,UI,UL,UM,UN,UO,UT,UU,UV,UX,UY,Ta,Tb,Tf,Tg,Th,Tk,Tl,Tm,Tn,Tr,Ts,Tt,Tw,Tx,T4,T7,T8,TB,TI,TV,TW,TX,TY,Sj,Sk,Sl,Sm,Sq,Sx,Sy,S3,S4,S5,S6,S7,SB,SC,SD,h,hr,n0,o1,o2,hx,b1,b2]; all_goals tactic => exact rfl))
    · (sym => (simp [yC_nm,yC_rn,yM_s,yC_gr,yC_sl,yC_fz,yC_len,yC_0,yC_1,yC_2,yC_3,yC_4,yC_15,yC_same,Za,Zb,Zc,Zd,Ze,Zf,Zg,Zh,Zi,Zk,Zl,Zm,Zn,Zu,Z0,Z2,ZF,ZG,ZI,ZJ,ZK,ZL,ZM,ZN,ZO,ZP,ZQ,ZR,ZS,ZT,Yl,Ym,Yr,Yv,YN,YO,YQ,YT,YU,YZ,Xa,Xb,Xf,Xm,Xn,Xp,Xr,Xs,Xw,Xx,XI,XL,Wd,Wl,Wp,Ww,Wy,Wz,W0,W3,W4,W5,W6,W7,W9,WA,WB,WC,WE,WF,WG,WH,WI,WJ,WK,WL,WM,WN,WO,WP,WQ,WR,WS,WT,WU,WV,WW,WX,WY,WZ,Va,Vb,Vc,Vd,Ve,Vf,Vg,Vh,Vi,Vj,Vk,Vm,Vn,Vr,Vt,Vu,Vw,Vx,Vy,Vz,V7,V8,V9,VA,VL,VO,VP,VU,VV,VW,VX,VY,VZ,Ua,Ub,Uc,Ud,Uf,Ui,Uk,Ul,Um,Un,Uo,Ur,Uu,Uv,Uw,Uy,Uz,U0,U1,U2,U3,U4,U5,U6,U7,U8,UB,UD,UE,UF,UG,UH,UI,UL,UM,UN,UO,UT,UU,UV,UX,UY,Ta,Tb,Tf,Tg,Th,Tk,Tl,Tm,Tn,Tr,Ts,Tt,Tw,Tx,T4,T7,T8,TB,TI,TV,TW,TX,TY,Sj,Sk,Sl,Sm,Sq,Sx,Sy,S3,S4,S5,S6,S7,SB,SC,SD,h,hr,n0,o1,o2,hx,b1,b2]; all_goals tactic => exact rfl))
  refine ⟨z73c l b es2 d2 w a2 q2 c,?_,?_,rfl,rfl,rfl⟩
  · (sym => (simp [yC_nm,yC_rn,yM_s,yC_gr,yC_sl,yC_fz,yC_len,yC_0,yC_1,yC_2,yC_3,yC_4,yC_15,yC_same,Za,Zb,Zc,Zd,Ze,Zf,Zg,Zh,Zi,Zk,Zl,Zm,Zn,Zu,Z0,Z2,ZF,ZG,ZI,ZJ,ZK,ZL,ZM,ZN,ZO,ZP,ZQ,ZR,ZS,ZT,Yl,Ym,Yr,Yv,YN,YO,YQ,YT,YU,YZ,Xa,Xb,Xf,Xm,Xn,Xp,Xr,Xs,Xw,Xx,XI,XL,Wd,Wl,Wp,Ww,Wy,Wz,W0,W3,W4,W5,W6,W7,W9,WA,WB,WC,WE,WF,WG,WH,WI,WJ,WK,WL,WM,WN,WO,WP,WQ,WR,WS,WT,WU,WV,WW,WX,WY,WZ,Va,Vb,Vc,Vd,Ve,Vf,Vg,Vh,Vi,Vj,Vk,Vm,Vn,Vr,Vt,Vu,Vw,Vx,Vy,Vz,V7,V8,V9,VA,VL,VO,VP,VU,VV,VW,VX,VY,VZ,Ua,Ub,Uc,Ud,Uf,Ui,Uk,Ul,Um,Un,Uo,Ur,Uu,Uv,Uw,Uy,Uz,U0,U1,U2,U3,U4,U5,U6,U7,U8,UB,UD,UE,UF,UG,UH,UI,UL,UM,UN,UO,UT,UU,UV,UX,UY,Ta,Tb,Tf,Tg,Th,Tk,Tl,Tm,Tn,Tr,Ts,Tt,Tw,Tx,T4,T7,T8,TB,TI,TV,TW,TX,TY,Sj,Sk,Sl,Sm,Sq,Sx,Sy,S3,S4,S5,S6,S7,SB,SC,SD,y]; all_goals tactic => exact rfl))
  · (sym => (simp [yC_nm,yC_rn,yM_s,yC_gr,yC_sl,yC_fz,yC_len,yC_0,yC_1,yC_2,yC_3,yC_4,yC_15,yC_same,Za,Zb,Zc,Zd,Ze,Zf,Zg,Zh,Zi,Zk,Zl,Zm,Zn,Zu,Z0,Z2,ZF,ZG,ZI,ZJ,ZK,ZL,ZM,ZN,ZO,ZP,ZQ,ZR,ZS,ZT,Yl,Ym,Yr,Yv,YN,YO,YQ,YT,YU,YZ,Xa,Xb,Xf,Xm,Xn,Xp,Xr,Xs,Xw,Xx,XI,XL,Wd,Wl,Wp,Ww,Wy,Wz,W0,W3,W4,W5,W6,W7,W9,WA,WB,WC,WE,WF,WG,WH,WI,WJ,WK,WL,WM,WN,WO,WP,WQ,WR,WS,WT,WU,WV,WW,WX,WY,WZ,Va,Vb,Vc,Vd,Ve,Vf,Vg,Vh,Vi,Vj,Vk,Vm,Vn,Vr,Vt,Vu,Vw,Vx,Vy,Vz,V7,V8,V9,VA,VL,VO,VP,VU,VV,VW,VX,VY,VZ,Ua,Ub,Uc,Ud,Uf,Ui,Uk,Ul,Um,Un,Uo,Ur,Uu,Uv,Uw,Uy,Uz,U0,U1,U2,U3,U4,U5,U6,U7,U8,UB,UD,UE,UF,UG,UH,UI,UL,UM,UN,UO,UT,UU,UV,UX,UY,Ta,Tb,Tf,Tg,Th,Tk,Tl,Tm,Tn,Tr,Ts,Tt,Tw,Tx,T4,T7,T8,TB,TI,TV,TW,TX,TY,Sj,Sk,Sl,Sm,Sq,Sx,Sy,S3,S4,S5,S6,S7,SB,SC,SD]; all_goals tactic => exact rfl))
end
end Go.Proofs.YtpbeclkpohehgaaDoor
namespace Go.Proofs.YtpbeclkpohehgaaDoor
open Go Go.DL
set_option maxRecDepth 100000
set_option maxHeartbeats 4000000

theorem pick_some {l : Li} {b : Nat → Nat} {w : Int} {d k : Nat} (hk : k < l.ls.length) (hg : goodB l b w d k = true) (hno : ∀ j,j < k → goodB l b w d j = false) : pickF l b w d = some k := by
  rcases range_find (P := goodB l b w d) (n := l.ls.length) with ⟨k',h1,h2,h3,h4⟩ | ⟨_,h2⟩
  · have : k' = k := by
      rcases Nat.lt_trichotomy k' k with h | h | h
      · rw [hno k' h] at h3; simp at h3
      · exact h
      · rw [h4 k h] at hg; simp at hg
    rw [← this]; exact h1
  · rw [h2 k hk] at hg; simp at hg
theorem pick_none {l : Li} {b : Nat → Nat} {w : Int} {d : Nat} (hno : ∀ j,j < l.ls.length → goodB l b w d j = false) : pickF l b w d = none := by
  rcases range_find (P := goodB l b w d) (n := l.ls.length) with ⟨k',_,h2,h3,_⟩ | ⟨h1,_⟩
  · rw [hno k' h2] at h3; simp at h3
  · exact h1
def ofN (ks : List Nat) : List Int := ks.map Int.ofNat
theorem ofN_c (k : Nat) (ks : List Nat) : ofN (k :: ks) = (k : Int) :: ofN ks := rfl
theorem ofN_0 : ofN [] = [] := rfl
section
variable {l : Li} {b : Nat → Nat}
abbrev t73c (l : Li) (b : Nat → Nat) (es : List (Int × Int)) (d : Nat) (w : Int) (a : Int) (r : List Int) (s : LSt) (c : Nat) : XH := [some (.loop 73 0 [.pt 1 0,.pt 4 0,.pt 5 0,.pt 6 0,.pt 8 0] s),some (.blk false (.cells true [.pt 2 0])),some (.blk false (.cells true (yC l b 3))),some (.blk true (.map true (encM es))),cU d,some (.blk true (.cells true [I w])),some (.blk false (.cells true [.sl 7 0 1 (r.length + 1)])),some (.blk true (.cells true (I a :: r.map I))),some (.blk false (.cells true [.fn (.func 73) [] [.pt 1 0,.pt 4 0,.pt 5 0,.pt 6 0,.pt 8 0]])),some (.blk false (.cells true [.pt 2 0])),cU c]
abbrev t73n (l : Li) (b : Nat → Nat) (es : List (Int × Int)) (d : Nat) (w : Int) (s : LSt) (c : Nat) : XH := [some (.loop 73 0 [.pt 1 0,.pt 4 0,.pt 5 0,.pt 6 0,.pt 7 0] s),some (.blk false (.cells true [.pt 2 0])),some (.blk false (.cells true (yC l b 3))),some (.blk true (.map true (encM es))),cU d,some (.blk true (.cells true [I w])),some (.blk true (.cells true [.nilsl])),some (.blk false (.cells true [.fn (.func 73) [] [.pt 1 0,.pt 4 0,.pt 5 0,.pt 6 0,.pt 7 0]])),some (.blk false (.cells true [.pt 2 0])),cU c]
theorem w73c (g : Good l) (p : Prec l.ls.length b) (w : Int) : ∀ (m d : Nat),d < 2 ^ l.ls.length → l.ls.length - pop d l.ls.length = m → ∀ es,Memo l b es → ∀ (a : Int) (q : List Int),q.length + m ≤ 10 →
    ∃ es2 d2,runW progX 73 [.pt 0 0,.pt 3 0,.pt 4 0,.pt 5 0,.pt 7 0] (h73c l b es d w a q) = some (.tup [],h73c l b es2 d2 w a (q ++ ofN (bstF l b w d))) ∨ runW progX 73 [.pt 0 0,.pt 3 0,.pt 4 0,.pt 5 0,.pt 7 0] (h73c l b es d w a q) = some (.tup [],r73c l b es2 d2 w a (q ++ ofN (bstF l b w d))) := by
  have hn := g.few
  have hb : ∀ k,b k < 2 ^ 10 := fun k => lt_10 (p.lt k) hn
  intro m
  induction m using Nat.strongRecOn with
  | ind m ih =>
    intro d hd hm es he a q hq
    have hr := next_rule (n := 9) (p := 2) (d := d) hn hb (lt_10 hd hn) (fun es => g73c l b es d w a q .ready) (fun es => home73c es d w a q .ready) (fun k es1 => Memo l b es1 ∧ ∀ j,j < k → goodB l b w d j = false)
      (fun X => ∃ es2 d2,X = z73c l b es2 d2 w a (q ++ ofN (bstF l b w d)) d) es ⟨he,fun j hj => by omega⟩
      (by
        rintro k es1 hk ⟨he1,hno⟩ hcb
        have hpo := (pop_or (can_bit hcb) l.ls.length).1 hk
        have hle := pop_le (d ||| 2 ^ k) l.ls.length
        obtain ⟨es2,he2,e72⟩ := w72 g p _ (d ||| 2 ^ k) (or_lt hd hk) rfl es1 he1
        have e75 := w75 g hd hk e72
        by_cases hw : wthF l b d k ≤ w
        · have hg : goodB l b w d k = true := by unfold goodB; rw [hcb,decide_eq_true hw]; rfl
          have hbs := bst_some (pick_some hk hg hno)
          obtain ⟨es3,d3,hx⟩ := ih (l.ls.length - pop (d ||| 2 ^ k) l.ls.length) (by omega) (d ||| 2 ^ k) (or_lt hd hk) rfl es2 he2 a (q ++ [(k : Int)]) (by simp; omega)
          have eq : q ++ [(k : Int)] ++ ofN (bstF l b w (d ||| 2 ^ k)) = q ++ ofN (bstF l b w d) := by rw [hbs.1,ofN_c]; simp
          rw [eq] at hx
          exact .inr ⟨_,l73c (lt_10 hd hn) (by omega) (by omega) e75 (eq_true hw) hx,es3,d3,rfl⟩
        · refine .inl ⟨es2,y73c e75 (eq_false hw),he2,fun j hj => ?_⟩
          by_cases hjk : j = k
          · subst hjk; unfold goodB; rw [decide_eq_false hw,Bool.and_false]
          · exact hno j (by omega))
      (by
        rintro k es1 hk ⟨he1,hno⟩ hcb
        refine ⟨he1,fun j hj => ?_⟩
        by_cases hjk : j = k
        · subst hjk; unfold goodB; rw [hcb,Bool.false_and]
        · exact hno j (by omega))
    have e74 := w74 (l := l) (b := b) (encM es) d
    rcases hr with ⟨es1,⟨_,hno⟩,hr⟩ | ⟨X,⟨es2,d2,rfl⟩,hr⟩
    · refine ⟨es1,d,.inl ?_⟩
      have hr : runW progX 105 [.fn (.yield 0) [] [],.pt 9 0,.pt 10 0] (t73c l b es d w a q .ready d) = some (.tup [],t73c l b es1 d w a q .ready d) := hr
      rw [(bst_none (pick_none hno)).1,ofN_0,List.append_nil]
      rw [r73 (by simp)]; unfold x73; dsimp only
      (sym => (simp [yC_nm,yC_rn,yM_s,yC_gr,yC_sl,yC_fz,yC_len,yC_0,yC_1,yC_2,yC_3,yC_4,yC_15,yC_same,Za,Zb,Zf,Zg,Zj,Zl,Zm,ZF,ZN,ZO,ZS,ZT,YN,YQ,YT,YU,YZ,Xa,Xm,Xp,Xr,Xs,Xw,Xx,XI,XL,Wd,Wg,Wy,Wz,W0,W3,W6,W7,W8,W9,WA,WB,WC,WE,WF,WG,WH,WI,WJ,WK,WL,WM,WN,WO,WP,WQ,WR,WS,WT,WU,WV,WW,WX,WY,WZ,Va,Vb,Vc,Vd,Ve,Vf,Vg,Vh,Vr,Vt,Vu,Vw,Vx,Vy,Vz,V4,V5,V6,V8,V9,VA,VB,VD,VF,VK,VT,VU,VV,VW,VX,VY,VZ,Ua,Ub,Uc,Uf,Ui,Uu,Uv,U0,U1,U2,U3,U4,U7,U8,UB,UC,Ta,Tb,Tf,Ts,Tw,Tx,T3,T4,T7,T8,TV,TW,TZ,Sc,Sd,Se,Sf,Sg,Si,Sy,SB,SC,SD,e74,hr]; all_goals tactic => exact rfl))
    · refine ⟨es2,d2,.inr ?_⟩
      have hr : runW progX 105 [.fn (.yield 0) [] [],.pt 9 0,.pt 10 0] (t73c l b es d w a q .ready d) = some (.tup [],z73c l b es2 d2 w a (q ++ ofN (bstF l b w d)) d) := hr
      generalize q ++ ofN (bstF l b w d) = q2 at *
      rw [r73 (by simp)]; unfold x73; dsimp only
      (sym => (simp [yC_nm,yC_rn,yM_s,yC_gr,yC_sl,yC_fz,yC_len,yC_0,yC_1,yC_2,yC_3,yC_4,yC_15,yC_same,Za,Zb,Zf,Zg,Zj,Zl,Zm,ZF,ZN,ZO,ZS,ZT,YN,YQ,YT,YU,YZ,Xa,Xm,Xp,Xr,Xs,Xw,Xx,XI,XL,Wd,Wg,Wy,Wz,W0,W3,W6,W7,W8,W9,WA,WB,WC,WE,WF,WG,WH,WI,WJ,WK,WL,WM,WN,WO,WP,WQ,WR,WS,WT,WU,WV,WW,WX,WY,WZ,Va,Vb,Vc,Vd,Ve,Vf,Vg,Vh,Vr,Vt,Vu,Vw,Vx,Vy,Vz,V4,V5,V6,V8,V9,VA,VB,VD,VF,VK,VT,VU,VV,VW,VX,VY,VZ,Ua,Ub,Uc,Uf,Ui,Uu,Uv,U0,U1,U2,U3,U4,U7,U8,UB,UC,Ta,Tb,Tf,Ts,Tw,Tx,T3,T4,T7,T8,TV,TW,TZ,Sc,Sd,Se,Sf,Sg,Si,Sy,SB,SC,SD,e74,hr]; all_goals tactic => exact rfl))
theorem w73n (g : Good l) (p : Prec l.ls.length b) (w : Int) {d : Nat} (hd : d < 2 ^ l.ls.length) {es : List (Int × Int)} (he : Memo l b es) :
    ∃ es2 d2,(bstF l b w d = [] ∧ runW progX 73 [.pt 0 0,.pt 3 0,.pt 4 0,.pt 5 0,.pt 6 0] (h73n l b es d w) = some (.tup [],h73n l b es2 d2 w)) ∨ ∃ k ks,bstF l b w d = k :: ks ∧ runW progX 73 [.pt 0 0,.pt 3 0,.pt 4 0,.pt 5 0,.pt 6 0] (h73n l b es d w) = some (.tup [],r73n l b es2 d2 w (k : Int) (ofN ks)) := by
  have hn := g.few
  have hb : ∀ k,b k < 2 ^ 10 := fun k => lt_10 (p.lt k) hn
  have hr := next_rule (n := 8) (p := 2) (d := d) hn hb (lt_10 hd hn) (fun es => g73n l b es d w .ready) (fun es => home73n es d w .ready) (fun k es1 => Memo l b es1 ∧ ∀ j,j < k → goodB l b w d j = false)
    (fun X => ∃ es2 d2 k ks,bstF l b w d = k :: ks ∧ X = z73n l b es2 d2 w (k : Int) (ofN ks) d) es ⟨he,fun j hj => by omega⟩
    (by
      rintro k es1 hk ⟨he1,hno⟩ hcb
      have hpo := (pop_or (can_bit hcb) l.ls.length).1 hk
      have hle := pop_le (d ||| 2 ^ k) l.ls.length
      obtain ⟨es2,he2,e72⟩ := w72 g p _ (d ||| 2 ^ k) (or_lt hd hk) rfl es1 he1
      have e75 := w75 g hd hk e72
      by_cases hw : wthF l b d k ≤ w
      · have hg : goodB l b w d k = true := by unfold goodB; rw [hcb,decide_eq_true hw]; rfl
        have hbs := bst_some (pick_some hk hg hno)
        obtain ⟨es3,d3,hx⟩ := w73c g p w _ (d ||| 2 ^ k) (or_lt hd hk) rfl es2 he2 (k : Int) [] (by simp; omega)
        exact .inr ⟨_,l73n (lt_10 hd hn) (by omega) e75 (eq_true hw) hx,es3,d3,k,_,hbs.1,rfl⟩
      · refine .inl ⟨es2,y73n e75 (eq_false hw),he2,fun j hj => ?_⟩
        by_cases hjk : j = k
        · subst hjk; unfold goodB; rw [decide_eq_false hw,Bool.and_false]
        · exact hno j (by omega))
    (by
      rintro k es1 hk ⟨he1,hno⟩ hcb
      refine ⟨he1,fun j hj => ?_⟩
      by_cases hjk : j = k
      · subst hjk; unfold goodB; rw [hcb,Bool.false_and]
      · exact hno j (by omega))
  have e74 := w74 (l := l) (b := b) (encM es) d
  rcases hr with ⟨es1,⟨_,hno⟩,hr⟩ | ⟨X,⟨es2,d2,k,ks,hbs,rfl⟩,hr⟩
  · refine ⟨es1,d,.inl ⟨(bst_none (pick_none hno)).1,?_⟩⟩
    have hr : runW progX 105 [.fn (.yield 0) [] [],.pt 8 0,.pt 9 0] (t73n l b es d w .ready d) = some (.tup [],t73n l b es1 d w .ready d) := hr
    rw [r73 (by simp)]; unfold x73; dsimp only
    (sym => (simp [yC_nm,yC_rn,yM_s,yC_gr,yC_sl,yC_fz,yC_len,yC_0,yC_1,yC_2,yC_3,yC_4,yC_15,yC_same,Za,Zb,Zf,Zg,Zj,Zl,Zm,ZF,ZN,ZO,ZS,ZT,YN,YQ,YT,YU,YZ,Xa,Xm,Xp,Xr,Xs,Xw,Xx,XI,XL,Wd,Wg,Wy,Wz,W0,W3,W6,W7,W8,W9,WA,WB,WC,WE,WF,WG,WH,WI,WJ,WK,WL,WM,WN,WO,WP,WQ,WR,WS,WT,WV,WW,WX,WY,Va,Vb,Vc,Vd,Ve,Vf,Vg,Vh,Vr,Vt,Vu,Vw,Vx,Vy,Vz,V4,V5,V6,V8,V9,VA,VB,VD,VF,VK,VT,VU,VV,VW,VX,VY,VZ,Ua,Ub,Uc,Uf,Ui,Uu,Uv,U0,U1,U2,U3,U4,U7,U8,UB,UC,Ta,Tb,Tf,Ts,Tw,Tx,T3,T4,T7,T8,TV,TW,TZ,Sc,Sd,Se,Sf,Sg,Si,Sy,SB,SC,SD,e74,hr]; all_goals tactic => exact rfl))
  · refine ⟨es2,d2,.inr ⟨k,ks,hbs,?_⟩⟩
    have hr : runW progX 105 [.fn (.yield 0) [] [],.pt 8 0,.pt 9 0] (t73n l b es d w .ready d) = some (.tup [],z73n l b es2 d2 w (k : Int) (ofN ks) d) := hr
    rw [r73 (by simp)]; unfold x73; dsimp only
    (sym => (simp [yC_nm,yC_rn,yM_s,yC_gr,yC_sl,yC_fz,yC_len,yC_0,yC_1,yC_2,yC_3,yC_4,yC_15,yC_same,Za,Zb,Zf,Zg,Zj,Zl,Zm,ZF,ZN,ZO,ZS,ZT,YN,YQ,YT,YU,YZ,Xa,Xm,Xp,Xr,Xs,Xw,Xx,XI,XL,Wd,Wg,Wy,Wz,W0,W3,W6,W7,W8,W9,WA,WB,WC,WE,WF,WG,WH,WI,WJ,WK,WL,WM,WN,WO,WP,WQ,WR,WS,WT,WV,WW,WX,WY,Va,Vb,Vc,Vd,Ve,Vf,Vg,Vh,Vr,Vt,Vu,Vw,Vx,Vy,Vz,V4,V5,V6,V8,V9,VA,VB,VD,VF,VK,VT,VU,VV,VW,VX,VY,VZ,Ua,Ub,Uc,Uf,Ui,Uu,Uv,U0,U1,U2,U3,U4,U7,U8,UB,UC,Ta,Tb,Tf,Ts,Tw,Tx,T3,T4,T7,T8,TV,TW,TZ,Sc,Sd,Se,Sf,Sg,Si,Sy,SB,SC,SD,e74,hr]; all_goals tactic => exact rfl))
end
end Go.Proofs.YtpbeclkpohehgaaDoor
namespace Go.Proofs.YtpbeclkpohehgaaDoor
open Go Go.DL
set_option maxRecDepth 100000
set_option maxHeartbeats 4000000

def minW (l : Li) : Int := rstF l (behF l.ts) 0
def bestO (l : Li) : List Nat := bstF l (behF l.ts) (minW l) 0
def bestR (l : Li) : Option (AV × XH) := if checkL l = 0 then some (.tup [rI (ofN (bestO l)),I (minW l),I 0],[]) else some (.tup [.fs [],I 0,I (checkL l)],[])
theorem w29 (l : Li) (hf : l.Fit) : runW progX 29 [.agg l.c] [] = bestR l := by
  have e52 := w52 l hf
  unfold w52R at e52
  unfold bestR
  by_cases hc : checkL l = 0
  · rw [if_pos hc]
    rw [if_pos hc] at e52
    have g := good_of hc
    have hn := g.few
    have p := g.prec
    unfold bestO minW
    generalize behF l.ts = b at *
    obtain ⟨es1,he1,e72⟩ := w72 g p _ 0 (Nat.two_pow_pos _) rfl [] (memo_0 l b)
    have e72 : runW progX 72 [.pt 0 0,.int .u64 0] [some (.blk false (.cells true (yC l b 1))),some (.blk true (.map true []))] = some (I (rstF l b 0),hY l b (encM es1)) := e72
    generalize rstF l b 0 = w at *
    obtain ⟨es2,d2,hx⟩ := w73n g p w (d := 0) (Nat.two_pow_pos _) he1
    rcases hx with ⟨h1,e73⟩ | ⟨k,ks,h1,e73⟩
    · have e73 : runW progX 73 [.pt 0 0,.pt 3 0,.pt 4 0,.pt 5 0,.pt 6 0] [some (.blk false (.cells true [.pt 1 0])),some (.blk false (.cells true (yC l b 2))),some (.blk true (.map true (encM es1))),some (.blk true (.cells true [.int .u64 0])),some (.blk true (.cells true [I w])),some (.blk true (.cells true [.nilsl])),some (.blk false (.cells true [.fn (.func 73) [] [.pt 0 0,.pt 3 0,.pt 4 0,.pt 5 0,.pt 6 0]]))] = some (.tup [],h73n l b es2 d2 w) := e73
      rw [h1,ofN_0]
      rw [r29 (by simp)]; unfold x29; dsimp only
      (sym => (simp [yC_nm,yC_rn,yM_s,yC_gr,yC_sl,yC_fz,yC_len,yC_0,yC_1,yC_2,yC_3,yC_4,yC_15,yC_same,Za,Zb,Zc,Zd,Ze,Zf,Zg,Zh,Zi,Zj,Zl,Zm,Zn,Zu,Zv,Zw,Zy,Z2,ZC,ZF,ZG,ZI,ZJ,ZK,ZL,ZM,ZN,ZO,ZS,ZT,Yh,Yp,YN,YP,YQ,YR,YU,YZ,Xb,Xd,Xe,Xf,Xg,Xi,Xj,Xk,Xl,Xm,Xo,Xp,Xq,Xr,Xs,Xv,Xw,Xy,XI,XK,XL,XM,XP,XU,XW,XX,XZ,Wa,Wc,Wd,We,Wh,Wl,Wn,Wp,Wq,Ws,Wt,Wu,Ww,Wy,Wz,W0,W3,W4,W5,W6,W7,W8,W9,WA,WB,WC,WE,WG,WH,WI,WJ,WK,WL,WM,WN,WO,WP,WR,WS,WT,WV,WW,WX,Vb,Vc,Ve,Vf,Vg,Vh,Vi,Vj,Vo,Vp,Vq,Vr,Vs,Vt,Vu,Vw,Vx,Vy,Vz,V1,V2,V3,V5,V6,V8,V9,VA,VB,VE,VF,VG,VH,VI,VJ,VK,VO,VP,VQ,VT,VU,VV,VW,VX,VY,Ua,Ub,Uc,Ud,Uf,Ui,Uk,Ul,Um,Un,Uo,Uq,Ur,Uu,Uv,Uw,Ux,Uy,Uz,U0,U1,U2,U3,U4,U5,U6,U7,U8,U9,UA,UB,UC,UD,UJ,UK,Ta,Tb,Te,Tf,Tg,Th,Tk,Tr,Ts,Tt,Tu,Tx,Tz,T7,T8,TB,TC,TE,TT,Sx,Sy,Sz,S2,SB,SC,SD,e52,e72,e73]; all_goals tactic => exact rfl))
    · have e73 : runW progX 73 [.pt 0 0,.pt 3 0,.pt 4 0,.pt 5 0,.pt 6 0] [some (.blk false (.cells true [.pt 1 0])),some (.blk false (.cells true (yC l b 2))),some (.blk true (.map true (encM es1))),some (.blk true (.cells true [.int .u64 0])),some (.blk true (.cells true [I w])),some (.blk true (.cells true [.nilsl])),some (.blk false (.cells true [.fn (.func 73) [] [.pt 0 0,.pt 3 0,.pt 4 0,.pt 5 0,.pt 6 0]]))] = some (.tup [],r73n l b es2 d2 w (k : Int) (ofN ks)) := e73
      rw [h1,ofN_c]
      rw [r29 (by simp)]; unfold x29; dsimp only
      (sym => (simp [yC_nm,yC_rn,yM_s,yC_gr,yC_sl,yC_fz,yC_len,yC_0,yC_1,yC_2,yC_3,yC_4,yC_15,yC_same,Za,Zb,Zc,Zd,Ze,Zf,Zg,Zh,Zi,Zj,Zl,Zm,Zn,Zu,Zv,Zw,Zy,Z2,ZC,ZF,ZG,ZI,ZJ,ZK,ZL,ZM,ZN,ZO,ZS,ZT,Yh,Yp,YN,YP,YQ,YR,YU,YZ,Xb,Xd,Xe,Xf,Xg,Xi,Xj,Xk,Xl,Xm,Xo,Xp,Xq,Xr,Xs,Xv,Xw,Xy,XI,XK,XL,XM,XP,XU,XW,XX,XZ,Wa,Wc,Wd,We,Wh,Wl,Wn,Wp,Wq,Ws,Wt,Wu,Ww,Wy,Wz,W0,W3,W4,W5,W6,W7,W8,W9,WA,WB,WC,WE,WG,WH,WI,WJ,WK,WL,WM,WN,WO,WP,WR,WS,WT,WV,WW,WX,Vb,Vc,Ve,Vf,Vg,Vh,Vi,Vj,Vo,Vp,Vq,Vr,Vs,Vt,Vu,Vw,Vx,Vy,Vz,V1,V2,V3,V5,V6,V8,V9,VA,VB,VE,VF,VG,VH,VI,VJ,VK,VO,VP,VQ,VT,VU,VV,VW,VX,VY,Ua,Ub,Uc,Ud,Uf,Ui,Uk,Ul,Um,Un,Uo,Uq,Ur,Uu,Uv,Uw,Ux,Uy,Uz,U0,U1,U2,U3,U4,U5,U6,U7,U8,U9,UA,UB,UC,UD,UJ,UK,Ta,Tb,Te,Tf,Tg,Th,Tk,Tr,Ts,Tt,Tu,Tx,Tz,T7,T8,TB,TC,TE,TT,Sx,Sy,Sz,S2,SB,SC,SD,e52,e72,e73]; all_goals tactic => exact rfl))
  · rw [if_neg hc]
    rw [if_neg hc] at e52
    have g := eq_false hc
    rw [r29 (by simp)]; unfold x29; dsimp only
    (sym => (simp [yC_nm,yC_rn,yM_s,yC_gr,yC_sl,yC_fz,yC_len,yC_0,yC_1,yC_2,yC_3,yC_4,yC_15,yC_same,Za,Zb,Zc,Zd,Ze,Zf,Zg,Zh,Zi,Zj,Zl,Zm,Zn,Zu,Zv,Zw,Zy,Z2,ZC,ZF,ZG,ZI,ZJ,ZK,ZL,ZM,ZN,ZO,ZS,ZT,Yh,Yp,YN,YP,YQ,YR,YU,YZ,Xb,Xd,Xe,Xf,Xg,Xi,Xj,Xk,Xl,Xm,Xo,Xp,Xq,Xr,Xs,Xv,Xw,Xy,XI,XK,XL,XM,XP,XU,XW,XX,XZ,Wa,Wc,Wd,We,Wh,Wl,Wn,Wp,Wq,Ws,Wt,Wu,Ww,Wy,Wz,W0,W3,W4,W5,W6,W7,W8,W9,WA,WB,WC,WE,WG,WH,WI,WJ,WK,WL,WM,WN,WO,WP,WR,WS,WT,WV,WW,WX,Vb,Vc,Ve,Vf,Vg,Vh,Vi,Vj,Vo,Vp,Vq,Vr,Vs,Vt,Vu,Vw,Vx,Vy,Vz,V1,V2,V3,V5,V6,V8,V9,VA,VB,VE,VF,VG,VH,VI,VJ,VK,VO,VP,VQ,VT,VU,VV,VW,VX,VY,Ua,Ub,Uc,Ud,Uf,Ui,Uk,Ul,Um,Un,Uo,Uq,Ur,Uu,Uv,Uw,Ux,Uy,Uz,U0,U1,U2,U3,U4,U5,U6,U7,U8,U9,UA,UB,UC,UD,UJ,UK,Ta,Tb,Te,Tf,Tg,Th,Tk,Tr,Ts,Tt,Tu,Tx,Tz,T7,T8,TB,TC,TE,TT,Sx,Sy,Sz,S2,SB,SC,SD,e52,g]; all_goals tactic => exact rfl))
end Go.Proofs.YtpbeclkpohehgaaDoor
namespace Go.Proofs.YtpbeclkpohehgaaDoor
open Go Go.DL
set_option maxRecDepth 100000
set_option maxHeartbeats 4000000

def aL (N : Nat) (F : Nat → Int) : List Int := (List.range N).map F
def gdN (b : Nat → Nat) (d : Nat) : Nat → Bool
  | 0 => true
  | k + 1 => gdN b d k && (!d.testBit k || decide (dif (b k) d = 0))
def clB (b : Nat → Nat) (n d : Nat) : Bool := gdN b d n
theorem gdN_iff {b : Nat → Nat} {d : Nat} : ∀ n,(gdN b d n = true ↔ ∀ k,k < n → d.testBit k = true → dif (b k) d = 0)
  | 0 => ⟨fun _ k hk => by omega,fun _ => rfl⟩
  | n + 1 => by
    rw [gdN,Bool.and_eq_true,gdN_iff n]
    constructor
    · rintro ⟨h1,h2⟩ k hk hb
      by_cases hkn : k = n
      · subst hkn
        rw [hb] at h2
        simpa using h2
      · exact h1 k (by omega) hb
    · intro h
      refine ⟨fun k hk => h k (by omega),?_⟩
      cases hb : d.testBit n with
      | false => rfl
      | true => rw [decide_eq_true (h n (by omega) hb)]; rfl
theorem mn_bd {f : Nat → Int} : ∀ (ks : List Nat) (n : Int),(∀ k ∈ ks,0 ≤ f k) → 0 ≤ n → 0 ≤ ks.foldl (fun n k => mnI n (f k)) n ∧ ks.foldl (fun n k => mnI n (f k)) n ≤ n
  | [],n,_,hn => ⟨hn,Int.le_refl _⟩
  | k :: ks,n,h,hn => by
    have h0 := h k (by simp)
    have hm : 0 ≤ mnI n (f k) ∧ mnI n (f k) ≤ n := by unfold mnI; split <;> omega
    have ih := mn_bd ks (mnI n (f k)) (fun j hj => h j (by simp [hj])) hm.1
    rw [List.foldl_cons]
    omega
theorem mx_bd {a c m : Int} (h1 : 0 ≤ a ∧ a ≤ m) (h2 : 0 ≤ c ∧ c ≤ m) : 0 ≤ mxI a c ∧ mxI a c ≤ m := by unfold mxI; split <;> omega
theorem rest_bd0 {l : Li} (g : Good l) {b : Nat → Nat} : ∀ (m d : Nat),0 ≤ restF l b m d ∧ restF l b m d ≤ 1000000
  | 0,d => by rw [restF]; omega
  | m + 1,d => by
    rw [restF]
    refine mn_bd (f := fun k => mxI (lastF l (d ||| 2 ^ k) k) (restF l b m (d ||| 2 ^ k))) _ _ (fun k hk => ?_) (by omega)
    exact (mx_bd (last_bd g (List.mem_range.1 (List.mem_filter.1 hk).1)) (rest_bd0 g m _)).1
theorem rest_bd {l : Li} (g : Good l) (b : Nat → Nat) (d : Nat) : 0 ≤ rstF l b d ∧ rstF l b d ≤ 1000000 := rest_bd0 g _ _
theorem wth_bd {l : Li} (g : Good l) (b : Nat → Nat) (d : Nat) {k : Nat} (hk : k < l.ls.length) : 0 ≤ wthF l b d k ∧ wthF l b d k ≤ 1000000 := mx_bd (last_bd g hk) (rest_bd g b _)
theorem can_ex {l : Li} {b : Nat → Nat} (p : Prec l.ls.length b) (hn : l.ls.length ≤ 10) {d : Nat} (hd : d < 2 ^ l.ls.length) (h : pop d l.ls.length < l.ls.length) : ∃ k,k < l.ls.length ∧ canB b d k = true := by
  have : ∃ k,k < l.ls.length ∧ d.testBit k = false := by
    by_cases hc : ∀ i,i < l.ls.length → d.testBit i = true
    · have := pop_full.2 hc
      omega
    · rw [Classical.not_forall] at hc
      obtain ⟨i,hi⟩ := hc
      rw [Classical.not_imp] at hi
      exact ⟨i,hi.1,by simpa using hi.2⟩
  obtain ⟨k,hk,hkd⟩ := this
  obtain ⟨k2,h1,h2,h3⟩ := p.next _ k hk hkd (Nat.le_refl _)
  exact ⟨k2,h1,(canB_iff p hn hd).2 ⟨h2,h3⟩⟩
theorem cl_next {l : Li} {b : Nat → Nat} (p : Prec l.ls.length b) (hn : l.ls.length ≤ 10) {d k : Nat} (hd : d < 2 ^ l.ls.length) (hk : k < l.ls.length) (hc : clB b l.ls.length d = true) (hcan : canB b d k = true) : clB b l.ls.length (d ||| 2 ^ k) = true := by
  have h1 := (gdN_iff _).1 hc
  have h2 := (canB_iff p hn hd).1 hcan
  have hd2 := or_lt hd hk
  have lb : ∀ x,b x < 2 ^ 63 := fun x => by have := lt_10 (p.lt x) hn; omega
  refine (gdN_iff _).2 fun j hj hb => ?_
  rw [dif_zero (lb j) (by have := lt_10 hd2 hn; omega)]
  intro i hi
  rw [or_bit,Bool.or_eq_true] at hb ⊢
  rcases hb with hb | hb
  · exact .inl ((dif_zero (lb j) (by have := lt_10 hd hn; omega)).1 (h1 j hj hb) i hi)
  · have : k = j := by simpa using hb
    subst this
    exact .inl (h2.2 i hi)
end Go.Proofs.YtpbeclkpohehgaaDoor
namespace Go.Proofs.YtpbeclkpohehgaaDoor
open Go Go.DL
set_option maxRecDepth 100000
set_option maxHeartbeats 4000000
section
variable {l : Li} {b : Nat → Nat}
abbrev hA (l : Li) (N : Nat) (F : Nat → Int) : XH := [some (.blk true (.cells true l.c)),some (.blk true (.cells true ((aL N F).map I)))]
end
end Go.Proofs.YtpbeclkpohehgaaDoor
namespace Go.Proofs.YtpbeclkpohehgaaDoor
open Go Go.DL
set_option maxRecDepth 100000
set_option maxHeartbeats 4000000
theorem full_iff {n d : Nat} (hd : d < 2 ^ n) : pop d n = n ↔ d = 2 ^ n - 1 := by
  rw [pop_full]
  constructor
  · intro h
    apply Nat.eq_of_testBit_eq
    intro i
    rw [Nat.testBit_two_pow_sub_one]
    by_cases hi : i < n
    · rw [h i hi,decide_eq_true hi]
    · rw [bit_lt hd (by omega),decide_eq_false hi]
  · rintro rfl i hi
    rw [Nat.testBit_two_pow_sub_one,decide_eq_true hi]
section
variable {l : Li} {b : Nat → Nat}
end
end Go.Proofs.YtpbeclkpohehgaaDoor
namespace Go.Proofs.YtpbeclkpohehgaaDoor
open Go Go.DL
set_option maxRecDepth 100000
set_option maxHeartbeats 4000000
theorem mn_ex {f : Nat → Int} : ∀ (ks : List Nat) (n : Int),ks.foldl (fun n k => mnI n (f k)) n = n ∨ ∃ k,k ∈ ks ∧ ks.foldl (fun n k => mnI n (f k)) n = f k
  | [],n => .inl rfl
  | k :: ks,n => by
    rw [List.foldl_cons]
    rcases mn_ex (f := f) ks (mnI n (f k)) with h | ⟨j,h1,h2⟩
    · rw [h]
      unfold mnI
      by_cases hc : f k < n
      · rw [if_pos hc]; exact .inr ⟨k,by simp,rfl⟩
      · rw [if_neg hc]; exact .inl rfl
    · exact .inr ⟨j,by simp [h1],h2⟩
theorem mn_le {f : Nat → Int} : ∀ (ks : List Nat) (n : Int),ks.foldl (fun n k => mnI n (f k)) n ≤ n ∧ ∀ k ∈ ks,ks.foldl (fun n k => mnI n (f k)) n ≤ f k
  | [],n => ⟨Int.le_refl _,fun k hk => by simp at hk⟩
  | k :: ks,n => by
    rw [List.foldl_cons]
    obtain ⟨h1,h2⟩ := mn_le (f := f) ks (mnI n (f k))
    have h3 : mnI n (f k) ≤ n ∧ mnI n (f k) ≤ f k := by unfold mnI; split <;> omega
    refine ⟨by omega,fun j hj => ?_⟩
    rcases List.mem_cons.1 hj with rfl | hj
    · omega
    · exact h2 j hj
theorem nx_mem {n : Nat} {b : Nat → Nat} {d k : Nat} : k ∈ (List.range n).filter (canB b d) ↔ k < n ∧ canB b d k = true := by
  rw [List.mem_filter,List.mem_range]
theorem rest_le {l : Li} {b : Nat → Nat} {d k : Nat} (h : pop d l.ls.length < l.ls.length) (hk : k < l.ls.length) (hc : canB b d k = true) : rstF l b d ≤ wthF l b d k := by
  rw [rest_step h,rsT_fl]
  exact (mn_le _ _).2 k (nx_mem.2 ⟨hk,hc⟩)
theorem rest_ex {l : Li} (g : Good l) {b : Nat → Nat} (p : Prec l.ls.length b) {d : Nat} (hd : d < 2 ^ l.ls.length) (h : pop d l.ls.length < l.ls.length) : ∃ k,k < l.ls.length ∧ canB b d k = true ∧ wthF l b d k = rstF l b d := by
  obtain ⟨k0,h1,h2⟩ := can_ex p g.few hd h
  have h3 := rest_le h h1 h2
  have h4 := wth_bd g b d h1
  rw [rest_step h,rsT_fl] at *
  rcases mn_ex (f := wthF l b d) ((List.range l.ls.length).filter (canB b d)) 1000000 with h5 | ⟨k,h5,h6⟩
  · exact ⟨k0,h1,h2,by omega⟩
  · have := nx_mem.1 h5
    exact ⟨k,this.1,this.2,h6.symm⟩
theorem cl_0 (b : Nat → Nat) (n : Nat) : clB b n 0 = true := (gdN_iff _).2 fun k _ hb => by rw [Nat.zero_testBit] at hb; simp at hb
theorem pick_ex {l : Li} (g : Good l) {b : Nat → Nat} (p : Prec l.ls.length b) {w : Int} {d : Nat} (hd : d < 2 ^ l.ls.length) (h : pop d l.ls.length < l.ls.length) (hw : rstF l b d ≤ w) : ∃ k,pickF l b w d = some k := by
  obtain ⟨k,h1,h2,h3⟩ := rest_ex g p hd h
  cases hp : pickF l b w d with
  | some k => exact ⟨k,rfl⟩
  | none =>
    have := (bst_none hp).2 k h1
    unfold goodB at this
    rw [h2,decide_eq_true (by omega)] at this
    simp at this
theorem pop_0 : ∀ n,pop 0 n = 0
  | 0 => rfl
  | n + 1 => by rw [pop,pop_0 n,Nat.zero_testBit]; simp
section
variable {l : Li} {b : Nat → Nat}
end
end Go.Proofs.YtpbeclkpohehgaaDoor
namespace Go.Proofs.YtpbeclkpohehgaaDoor
open Go Go.DL
set_option maxRecDepth 100000
set_option maxHeartbeats 4000000
section
variable {l : Li} {b : Nat → Nat}
end
end Go.Proofs.YtpbeclkpohehgaaDoor
namespace Go.Proofs.YtpbeclkpohehgaaDoor
open Go Go.DL
set_option maxRecDepth 100000
set_option maxHeartbeats 4000000

structure HomeF (n : Nat) (M K : Nat → XH) : Prop where
  hat : ∀ a,hat (M a) n = cU a
  set : ∀ a b,(M a).set n (cU b) = M b
  head : ∀ (a : Nat) (e : Env),e 0 = .fn (.yield 0) [] [] → e 1 = .pt n 0 → headX (n + 1) [0,1] (some (.normal,e,M a)) = some ([.fn (.yield 0) [] [],.pt n 0],K a)
def YdF (K K' : Nat → XH) (v : Nat) (b : Bool) : Prop := ∀ a : Nat,callX (runW progX) (runYW progX) (.fn (.yield 0) [] []) [I v] (K a) = some (.bool b,K' a)
theorem roundF {n : Nat} {K M K' : Nat → XH} {a : Nat} (h1 : hat (K a) n = cU a) (g' : HomeF n M K') (ha : a < 1024) (h0 : a ≠ 0) (hy : YdF K M (lowB a) true) :
    headX (n + 1) [0,1] (execW progX 106 (n + 1) none (match x106l0 with | .loop _ a => a | c => c) (envL [0,1] [.fn (.yield 0) [] [],.pt n 0]) (K a)) = some ([.fn (.yield 0) [] [],.pt n 0],K' (a &&& (a - 1))) := by
  have h2 := g'.hat a
  have h3 := g'.set a
  have h4 := hy a
  have t := w107 ha h0
  have n0 : ((a : Int) = 0) = False := eq_false (by omega)
  have u1 : IntKind.u64.wrap ((a : Int) - 1) = ((a - 1 : Nat) : Int) := by
    rw [show (a : Int) - 1 = ((a - 1 : Nat) : Int) by omega]; exact big_wrap big_u (by omega)
  have u2 := bits_and big_u (a := a) (b := a - 1) (by omega) (by omega)
  have hd := g'.head (a &&& (a - 1))
  unfold x106l0
  dsimp only
  sym =>
    simp [Za,Zb,Zc,Zf,Zg,Zh,Zj,Zl,Zm,Zu,Z2,Z3,ZF,ZJ,ZK,ZN,ZO,ZS,ZT,ZW,Yj,Yk,Yp,YN,Xb,Xm,Wl,Wz,W0,W4,W6,W7,W9,WH,WK,WM,WR,WS,Ve,Vf,Vg,Vr,Vt,Vu,Vw,Vx,Vz,VL,VO,VP,VQ,VU,VV,VX,VY,Ub,Uc,Ui,Ul,Um,Ur,Ux,U0,U1,U2,U3,U4,U5,U6,UD,Ta,Tb,Tf,Tg,Th,Tr,Ts,Tu,Tw,Tx,T3,T7,T8,SB,SC,SD,h1,h2,t,h4,n0,u1,u2,h3]
    tactic => exact hd _ rfl rfl
theorem eachF {n : Nat} {G : Nat → Nat → XH} {a : Nat} {X : XH} (ha : a < 1024) (l0 : (G 0 a).length = n + 1) (g0 : HomeF n (G 0) (G 0)) (gh : ∀ i,i ≤ (el a).length → ∀ a,hat (G i a) n = cU a) (hf : finX false (n + 1) (.tup []) (G (el a).length 0) = (.tup [],X)) (hy : ∀ i v,(el a)[i]? = some v → ∃ M,YdF (G i) M v true ∧ HomeF n M (G (i + 1))) :
    runW progX 106 [.fn (.yield 0) [] [],.pt n 0] (G 0 a) = some (.tup [],X) := by
  have h1 := gh (el a).length (by omega) 0
  have h1 : hat (G (el a).length 0) n = some (.blk true (.cells true [.int .u64 0])) := h1
  have c0 := cut_end ha
  rw [r106 (by simp)]; unfold x106; dsimp only
  rw [l0]
  unfold x106l0
  sym =>
    simp [Za,Zb,Zf,Zh,Zl,Zm,Z2,ZF,Yp,Wg,Wk,Wz,W0,W9,V4,V6,VB,VD,VF,VL,VO,VQ,VR,VT,Ul,Uw,UB,UC,Ta,Tb,Tf,Tr,Ts,Tv,Tw,Tx,Ty,T5,T7,T8]
    tactic =>
      rw [loop_rule (el a).length (fun _ => [.fn (.yield 0) [] [],.pt n 0]) (fun i => G i (cutS a i))]
      · rw [c0]
        (sym => (simp [Za,Zb,Zf,Zh,Zl,Zm,Z2,ZF,Yp,Wg,Wk,Wz,W0,W9,V4,V6,VB,VD,VF,VL,VO,VQ,VR,VT,Ul,Uw,UB,UC,Ta,Tb,Tf,Tr,Ts,Tv,Tw,Tx,Ty,T5,T7,T8,h1,hf]; all_goals tactic => exact rfl))
      · exact g0.head a _ rfl rfl
      · intro i hi
        obtain ⟨p1,p2⟩ := cut_at ha hi
        obtain ⟨M,m1,m2⟩ := hy i _ p2
        exact roundF (gh i (by omega) _) m2 (cut_lt ha i) p1 m1
      · rw [c0]
        (sym => (simp [Za,Zb,Zf,Zh,Zl,Zm,Z2,ZF,Yp,Wg,Wk,Wz,W0,W9,V4,V6,VB,VD,VF,VL,VO,VQ,VR,VT,Ul,Uw,UB,UC,Ta,Tb,Tf,Tr,Ts,Tv,Tw,Tx,Ty,T5,T7,T8,h1]; all_goals tactic => exact rfl))
end Go.Proofs.YtpbeclkpohehgaaDoor
namespace Go.Proofs.YtpbeclkpohehgaaDoor
open Go Go.DL
set_option maxRecDepth 100000
set_option maxHeartbeats 4000000

theorem w34s (a : List Int) (ha : a.length ≤ 9223372036854775807) : runW progX 34 [rI a,rI a] [] = some (.bool true,[]) := by
  have z := UZ (n := (a.length : Int))
  have rd : ∀ i,i < a.length → headX 0 [0,1,5] (execW progX 34 0 none (match x34l0 with | .loop _ a => a | c => c) (envL [0,1,5] [rI a,rI a,I (i : Nat)]) []) = some ([rI a,rI a,I (i + 1 : Nat)],[]) := by
    intro i hi
    obtain ⟨x,hx⟩ := at_ix hi
    have a1 := lt_ix hi
    have a2 := up_ix hi ha
    unfold x34l0
    dsimp only
    (sym => (simp [yC_nm,yC_rn,yM_s,yC_gr,yC_sl,yC_fz,yC_len,yC_0,yC_1,yC_2,yC_3,yC_4,yC_15,yC_same,Za,Zb,Zf,Zh,Zi,Zl,Zm,Zu,Z2,Z7,ZD,ZH,ZI,Ya,Yf,Yg,Yi,Yp,Yq,Yu,Yv,Y0,YN,YO,YR,Xm,Xn,Xq,Xz,Wb,We,W8,W9,WH,WL,WM,WO,WP,Vr,V5,V6,V8,V9,VA,VB,VC,VF,VG,VH,VI,VK,VL,VM,VN,VO,VP,VQ,VR,VT,VU,VV,VY,Ua,Ub,Uc,Ud,Ue,Uf,Ul,Ur,Uw,Ux,U0,U1,U2,U3,U4,UB,UC,UZ,Tc,Td,Tf,Tr,Ts,Tt,Tu,Tv,Tw,Tx,Ty,T3,T5,T6,T7,T8,Sy,a1,a2,hx]; all_goals tactic => exact rfl))
  rw [r34 (by simp)]; unfold x34; dsimp only
  sym =>
    simp [yC_nm,yC_rn,yM_s,yC_gr,yC_sl,yC_fz,yC_len,yC_0,yC_1,yC_2,yC_3,yC_4,yC_15,yC_same,Za,Zb,Zf,Zh,Zi,Zl,Zm,Zu,Z2,Z7,ZD,ZH,ZI,Ya,Yf,Yg,Yi,Yp,Yq,Yu,Yv,Y0,YN,YO,YR,Xm,Xn,Xq,Xz,Wb,We,W8,W9,WH,WL,WM,WO,WP,Vr,V5,V6,V8,V9,VA,VB,VC,VF,VG,VH,VI,VK,VL,VM,VN,VO,VP,VQ,VR,VT,VU,VV,VY,Ua,Ub,Uc,Ud,Ue,Uf,Ul,Ur,Uw,Ux,U0,U1,U2,U3,U4,UB,UC,UZ,Tc,Td,Tf,Tr,Ts,Tt,Tu,Tv,Tw,Tx,Ty,T3,T5,T6,T7,T8,Sy]
    tactic =>
      unfold x34l0
      rw [loop_rule a.length (fun i => [rI a,rI a,I (i : Nat)]) (fun _ => [])]
      · (sym => (simp [yC_nm,yC_rn,yM_s,yC_gr,yC_sl,yC_fz,yC_len,yC_0,yC_1,yC_2,yC_3,yC_4,yC_15,yC_same,Za,Zb,Zf,Zh,Zi,Zl,Zm,Zu,Z2,Z7,ZD,ZH,ZI,Ya,Yf,Yg,Yi,Yp,Yq,Yu,Yv,Y0,YN,YO,YR,Xm,Xn,Xq,Xz,Wb,We,W8,W9,WH,WL,WM,WO,WP,Vr,V5,V6,V8,V9,VA,VB,VC,VF,VG,VH,VI,VK,VL,VM,VN,VO,VP,VQ,VR,VT,VU,VV,VY,Ua,Ub,Uc,Ud,Ue,Uf,Ul,Ur,Uw,Ux,U0,U1,U2,U3,U4,UB,UC,UZ,Tc,Td,Tf,Tr,Ts,Tt,Tu,Tv,Tw,Tx,Ty,T3,T5,T6,T7,T8,Sy,z]; all_goals tactic => exact rfl))
      · (sym => (simp [yC_nm,yC_rn,yM_s,yC_gr,yC_sl,yC_fz,yC_len,yC_0,yC_1,yC_2,yC_3,yC_4,yC_15,yC_same,Za,Zb,Zf,Zh,Zi,Zl,Zm,Zu,Z2,Z7,ZD,ZH,ZI,Ya,Yf,Yg,Yi,Yp,Yq,Yu,Yv,Y0,YN,YO,YR,Xm,Xn,Xq,Xz,Wb,We,W8,W9,WH,WL,WM,WO,WP,Vr,V5,V6,V8,V9,VA,VB,VC,VF,VG,VH,VI,VK,VL,VM,VN,VO,VP,VQ,VR,VT,VU,VV,VY,Ua,Ub,Uc,Ud,Ue,Uf,Ul,Ur,Uw,Ux,U0,U1,U2,U3,U4,UB,UC,UZ,Tc,Td,Tf,Tr,Ts,Tt,Tu,Tv,Tw,Tx,Ty,T3,T5,T6,T7,T8,Sy]; all_goals tactic => exact rfl))
      · exact rd
      · (sym => (simp [yC_nm,yC_rn,yM_s,yC_gr,yC_sl,yC_fz,yC_len,yC_0,yC_1,yC_2,yC_3,yC_4,yC_15,yC_same,Za,Zb,Zf,Zh,Zi,Zl,Zm,Zu,Z2,Z7,ZD,ZH,ZI,Ya,Yf,Yg,Yi,Yp,Yq,Yu,Yv,Y0,YN,YO,YR,Xm,Xn,Xq,Xz,Wb,We,W8,W9,WH,WL,WM,WO,WP,Vr,V5,V6,V8,V9,VA,VB,VC,VF,VG,VH,VI,VK,VL,VM,VN,VO,VP,VQ,VR,VT,VU,VV,VY,Ua,Ub,Uc,Ud,Ue,Uf,Ul,Ur,Uw,Ux,U0,U1,U2,U3,U4,UB,UC,UZ,Tc,Td,Tf,Tr,Ts,Tt,Tu,Tv,Tw,Tx,Ty,T3,T5,T6,T7,T8,Sy,z]; all_goals tactic => exact rfl))
theorem ofN_ix {ks : List Nat} {i v : Nat} (h : ks[i]? = some v) : (ofN ks)[i]? = some (v : Int) := by
  unfold ofN
  rw [List.getElem?_map,h]; rfl
theorem ofN_len (ks : List Nat) : (ofN ks).length = ks.length := by simp [ofN]
abbrev gCn (a : Nat) : XH := [some (.loop 109 0 [.pt 1 0] .ready),some (.blk true (.cells true [.nilsl])),cU a]
abbrev gCc (x : Int) (r : List Int) (a : Nat) : XH := [some (.loop 109 0 [.pt 1 0] .ready),some (.blk false (.cells true [.sl 3 0 1 (r.length + 1)])),cU a,some (.blk true (.cells true (I x :: r.map I)))]
abbrev gCm (x : Int) (r : List Int) (a : Nat) : XH := [some (.loop 109 0 [.pt 1 0] .ready),some (.blk false (.cells true [.sl 4 0 1 (r.length + 1)])),cU a,none,some (.blk true (.cells true (I x :: r.map I)))]
def gC : List Int → Nat → XH
  | [] => gCn
  | x :: r => gCc x r
theorem homeCn : HomeF 2 gCn gCn := by
  refine ⟨fun _ => rfl,fun _ _ => rfl,?_⟩
  intro a e h0 h1
  (sym => (simp [yC_nm,yC_rn,yM_s,yC_gr,yC_sl,yC_fz,yC_len,yC_0,yC_1,yC_2,yC_3,yC_4,yC_15,yC_same,YU,Xa,Xs,Xx,WA,WF,WH,WJ,WL,WM,WN,WO,WP,WV,WW,WY,Va,Vb,Vd,VM,VN,VU,VV,VW,VX,VY,VZ,Ua,Uv,U0,U1,U2,U3,U4,T6,h0,h1]; all_goals tactic => exact rfl))
theorem homeCc (x : Int) (r : List Int) : HomeF 2 (gCc x r) (gCc x r) := by
  refine ⟨fun _ => rfl,fun _ _ => rfl,?_⟩
  intro a e h0 h1
  (sym => (simp [yC_nm,yC_rn,yM_s,yC_gr,yC_sl,yC_fz,yC_len,yC_0,yC_1,yC_2,yC_3,yC_4,yC_15,yC_same,YT,YU,Xa,Xr,Xs,Xx,Wy,WA,WE,WF,WH,WI,WJ,WL,WN,WO,WP,WQ,WV,WW,WX,WY,Va,Vb,Vc,Vd,VM,VN,VU,VV,VW,VX,VY,VZ,Ua,Uf,Uv,U1,U2,U3,U4,T6,h0,h1]; all_goals tactic => exact rfl))
theorem homeCm (x : Int) (r : List Int) : HomeF 2 (gCm x r) (gCc x r) := by
  refine ⟨fun _ => rfl,fun _ _ => rfl,?_⟩
  intro a e h0 h1
  (sym => (simp [yC_nm,yC_rn,yM_s,yC_gr,yC_sl,yC_fz,yC_len,yC_0,yC_1,yC_2,yC_3,yC_4,yC_15,yC_same,YT,YU,Xa,Xr,Xs,Xx,Wy,WA,WE,WF,WH,WI,WJ,WL,WN,WO,WP,WQ,WV,WW,WX,WY,Va,Vb,Vc,Vd,VM,VN,VU,VV,VW,VX,VY,VZ,Ua,Uf,Uv,U1,U2,U3,U4,T6,h0,h1]; all_goals tactic => exact rfl))
theorem yCn (v : Nat) : YdF gCn (gCc (v : Int) []) v true := by
  have y : runYW progX (.fn (.yield 0) [] []) [I (v : Nat)] [some (.loop 109 0 [.pt 1 0] .ready),some (.blk true (.cells true [.nilsl]))] = some (.bool true,[some (.loop 109 0 [.pt 1 0] .ready),some (.blk false (.cells true [.sl 2 0 1 1])),some (.blk true (.cells true [I (v : Nat)]))]) := by
    rw [runYW_eq (K := 109) (d := x109) (site := 0) (vs := [.pt 1 0]) rfl rfl (by rfl) rfl]
    (sym => (simp [yC_nm,yC_rn,yM_s,yC_gr,yC_sl,yC_fz,yC_len,yC_0,yC_1,yC_2,yC_3,yC_4,yC_15,yC_same,Za,Zb,Zc,Zd,Ze,Zf,Zg,Zh,Zj,Zl,Zm,Zn,Zu,Z0,ZF,ZJ,ZK,ZR,YN,YO,YT,YU,Xa,Xb,Xf,Xm,Xn,Xr,Xs,Xx,Xy,Wa,Wl,Wp,Wy,Wz,W0,W3,W4,W5,W6,W7,W9,WA,WB,WC,WE,WF,WG,WH,WI,WJ,WK,WL,WN,WO,WP,WQ,WR,WS,WT,WV,WW,WX,WY,Va,Vb,Vc,Vd,Ve,Vf,Vg,Vh,Vr,Vt,Vu,Vv,V7,VA,VL,VU,VV,VW,VX,VY,VZ,Ua,Ub,Uc,Uf,Ui,Uk,Ur,Uv,Uy,Uz,U1,U2,U3,U4,U5,U6,UD,UE,UF,UG,UH,UI,UL,UM,UN,UO,UT,UU,UV,UW,Ta,Tb,Tf,Tg,Th,Tk,Tm,Tn,Tq,Tw,T3,T7,TI,TV,TW,TX,TY,Sj,Sk,Sl,Sm,Sn,Sy,SB,SC,SE]; all_goals tactic => exact rfl))
  intro a
  (sym => (simp [yC_nm,yC_rn,yM_s,yC_gr,yC_sl,yC_fz,yC_len,yC_0,yC_1,yC_2,yC_3,yC_4,yC_15,yC_same,Za,Zb,Zc,Zd,Ze,Zf,Zg,Zh,Zj,Zl,Zm,Zn,Zu,Z0,ZF,ZJ,ZK,ZR,YN,YO,YT,YU,Xa,Xb,Xf,Xm,Xn,Xr,Xs,Xx,Xy,Wa,Wl,Wp,Wy,Wz,W0,W3,W4,W5,W6,W7,W9,WA,WB,WC,WE,WF,WG,WH,WI,WJ,WK,WL,WN,WO,WP,WQ,WR,WS,WT,WV,WW,WX,WY,Va,Vb,Vc,Vd,Ve,Vf,Vg,Vh,Vr,Vt,Vu,Vv,V7,VA,VL,VU,VV,VW,VX,VY,VZ,Ua,Ub,Uc,Uf,Ui,Uk,Ur,Uv,Uy,Uz,U1,U2,U3,U4,U5,U6,UD,UE,UF,UG,UH,UI,UL,UM,UN,UO,UT,UU,UV,UW,Ta,Tb,Tf,Tg,Th,Tk,Tm,Tn,Tq,Tw,T3,T7,TI,TV,TW,TX,TY,Sj,Sk,Sl,Sm,Sn,Sy,SB,SC,SE,y]; all_goals tactic => exact rfl))
theorem yCc (v : Nat) (x : Int) (r : List Int) (hr : r.length ≤ 10) : YdF (gCc x r) (gCm x (r ++ [(v : Int)])) v true := by
  have b1 : ((r.length + 1 + 1) * 8 ≤ 1099511627776) = True := eq_true (by omega)
  have b2 : (r.length + 1 + 1 ≤ 1099511627776) = True := eq_true (by omega)
  have y : runYW progX (.fn (.yield 0) [] []) [I (v : Nat)] [some (.loop 109 0 [.pt 1 0] .ready),some (.blk false (.cells true [.sl 2 0 1 (r.length + 1)])),some (.blk true (.cells true (I x :: r.map I)))] = some (.bool true,[some (.loop 109 0 [.pt 1 0] .ready),some (.blk false (.cells true [.sl 3 0 1 (r.length + 1 + 1)])),none,some (.blk true (.cells true (I x :: (r.map I ++ [I (v : Nat)]))))]) := by
    rw [runYW_eq (K := 109) (d := x109) (site := 0) (vs := [.pt 1 0]) rfl rfl (by rfl) rfl]
    (sym => (simp [yC_nm,yC_rn,yM_s,yC_gr,yC_sl,yC_fz,yC_len,yC_0,yC_1,yC_2,yC_3,yC_4,yC_15,yC_same,Za,Zb,Zc,Zd,Ze,Zf,Zg,Zh,Zj,Zl,Zm,Zn,Zu,Z0,ZF,ZJ,ZK,ZR,YN,YO,YT,YU,Xa,Xb,Xf,Xm,Xn,Xr,Xs,Xx,Xy,Wa,Wl,Wp,Wy,Wz,W0,W3,W4,W5,W6,W7,W9,WA,WB,WC,WE,WF,WG,WH,WI,WJ,WK,WL,WN,WO,WP,WQ,WR,WS,WT,WU,WV,WW,WX,WY,WZ,Va,Vb,Vc,Vd,Ve,Vf,Vg,Vh,Vr,Vt,Vu,Vv,V7,VA,VL,VU,VV,VW,VX,VY,VZ,Ua,Ub,Uc,Ud,Uf,Ui,Uk,Ur,Uv,Uy,Uz,U1,U2,U3,U4,U5,U6,UD,UE,UF,UG,UH,UI,UL,UM,UN,UO,UT,UU,UV,UX,UY,Ta,Tb,Tf,Tg,Th,Tk,Tl,Tm,Tn,Tw,T3,T7,T9,TA,TB,TI,TV,TW,TX,TY,Sj,Sk,Sl,Sm,Sn,Sy,SB,SC,SE,b1,b2]; all_goals tactic => exact rfl))
  intro a
  (sym => (simp [yC_nm,yC_rn,yM_s,yC_gr,yC_sl,yC_fz,yC_len,yC_0,yC_1,yC_2,yC_3,yC_4,yC_15,yC_same,Za,Zb,Zc,Zd,Ze,Zf,Zg,Zh,Zj,Zl,Zm,Zn,Zu,Z0,ZF,ZJ,ZK,ZR,YN,YO,YT,YU,Xa,Xb,Xf,Xm,Xn,Xr,Xs,Xx,Xy,Wa,Wl,Wp,Wy,Wz,W0,W3,W4,W5,W6,W7,W9,WA,WB,WC,WE,WF,WG,WH,WI,WJ,WK,WL,WN,WO,WP,WQ,WR,WS,WT,WU,WV,WW,WX,WY,WZ,Va,Vb,Vc,Vd,Ve,Vf,Vg,Vh,Vr,Vt,Vu,Vv,V7,VA,VL,VU,VV,VW,VX,VY,VZ,Ua,Ub,Uc,Ud,Uf,Ui,Uk,Ur,Uv,Uy,Uz,U1,U2,U3,U4,U5,U6,UD,UE,UF,UG,UH,UI,UL,UM,UN,UO,UT,UU,UV,UX,UY,Ta,Tb,Tf,Tg,Th,Tk,Tl,Tm,Tn,Tw,T3,T7,T9,TA,TB,TI,TV,TW,TX,TY,Sj,Sk,Sl,Sm,Sn,Sy,SB,SC,SE,y]; all_goals tactic => exact rfl))
theorem gC_fin (os : List Int) : finX false 3 (.tup []) (gC os 0) = (.tup [],gC os 0) := by
  cases os with
  | nil => unfold gC; (sym => (simp [yC_nm,yC_rn,yM_s,yC_gr,yC_sl,yC_fz,yC_len,yC_0,yC_1,yC_2,yC_3,yC_4,yC_15,yC_same,Za,Y0,YQ,YT,YU,Xp,Xr,Xs,XI,Wd,Wy,WA,WE,WF,WH,WI,WJ,WL,WM,WN,WO,WP,WQ,WV,WW,WX,WY,Va,Vb,Vc,Vd,Vr,V8,V9,VA,VU,VV,VW,VX,VY,VZ,Ua,Uf,Uv,U0,U1,U2,U3,U4,U7,UB,Sy]; all_goals tactic => exact rfl))
  | cons x r => unfold gC; (sym => (simp [yC_nm,yC_rn,yM_s,yC_gr,yC_sl,yC_fz,yC_len,yC_0,yC_1,yC_2,yC_3,yC_4,yC_15,yC_same,Za,Y0,YQ,YT,YU,Xp,Xr,Xs,XI,Wd,Wy,WA,WE,WF,WH,WI,WJ,WL,WM,WN,WO,WP,WQ,WV,WW,WX,WY,Va,Vb,Vc,Vd,Vr,V8,V9,VA,VU,VV,VW,VX,VY,VZ,Ua,Uf,Uv,U0,U1,U2,U3,U4,U7,UB,Sy]; all_goals tactic => exact rfl))
theorem w109 {a : Nat} (ha : a < 1024) : runW progX 109 [.nilsl,.fn (.func 106) [] [.pt 0 0]] [cU a] = some (rI (ofN (el a)),[some (.blk true (.cells true [.int .u64 0]))]) := by
  have e := eachF (n := 2) (G := fun i => gC (ofN ((el a).take i))) (X := gC (ofN (el a)) 0) ha rfl homeCn
    (by intro i _ c; cases ofN ((el a).take i) <;> rfl)
    (by
      show finX false 3 (.tup []) (gC (ofN ((el a).take (el a).length)) 0) = _
      rw [List.take_length]
      exact gC_fin _)
    (by
      intro i v hv
      have e1 : ofN ((el a).take (i + 1)) = ofN ((el a).take i) ++ [(v : Int)] := by
        rw [List.take_add_one,hv]
        simp [ofN]
      have hl := ofN_len ((el a).take i)
      have hl2 := el_len a
      rw [List.length_take] at hl
      rw [e1]
      generalize ofN ((el a).take i) = os at *
      rcases os with _ | ⟨x,r⟩
      · exact ⟨_,yCn v,homeCc _ _⟩
      · exact ⟨_,yCc v x r (by simp at hl; omega),homeCm _ _⟩)
  have e : runW progX 106 [.fn (.yield 0) [] [],.pt 2 0] [some (.loop 109 0 [.pt 1 0] .ready),some (.blk true (.cells true [.nilsl])),cU a] = some (.tup [],gC (ofN (el a)) 0) := e
  generalize ofN (el a) = os at *
  rw [r109 (by simp)]; unfold x109; dsimp only
  rcases os with _ | ⟨x,r⟩
  · have e : runW progX 106 [.fn (.yield 0) [] [],.pt 2 0] [some (.loop 109 0 [.pt 1 0] .ready),some (.blk true (.cells true [.nilsl])),cU a] = some (.tup [],[some (.loop 109 0 [.pt 1 0] .ready),some (.blk true (.cells true [.nilsl])),some (.blk true (.cells true [.int .u64 0]))]) := e
    (sym => (simp [yC_nm,yC_rn,yM_s,yC_gr,yC_sl,yC_fz,yC_len,yC_0,yC_1,yC_2,yC_3,yC_4,yC_15,yC_same,Za,Zb,Zf,Zh,Zl,Zm,Zn,Zu,Zy,ZF,ZS,ZT,YR,YU,Xa,Xe,Xi,Xp,Xq,Xr,Xs,Xx,XK,XM,XW,We,Wh,Ws,Wy,Wz,W0,W3,W6,W7,W8,W9,WA,WB,WC,WE,WG,WH,WI,WJ,WK,WL,WM,WN,WO,WP,WR,WS,WT,WV,WW,WX,WY,Va,Vb,Vd,Ve,Vf,Vg,Vh,Vo,Vp,Vq,Vr,Vs,V0,V1,V2,V3,V5,V6,V8,V9,VA,VB,VC,VF,VG,VH,VI,VK,VU,VV,VW,VX,VY,VZ,Ua,Ub,Uc,Ud,Uf,Ui,Ur,Uv,U0,U1,U2,U3,U4,U5,U6,U9,UA,UJ,UK,Ta,Tb,Tf,Tk,Ts,Tt,Tw,Tx,T3,T7,T8,TB,TC,TE,TT,TV,TW,TZ,Sc,Sd,Se,Sf,Sg,Sy,Sz,S2,e]; all_goals tactic => exact rfl))
  · have e : runW progX 106 [.fn (.yield 0) [] [],.pt 2 0] [some (.loop 109 0 [.pt 1 0] .ready),some (.blk true (.cells true [.nilsl])),cU a] = some (.tup [],[some (.loop 109 0 [.pt 1 0] .ready),some (.blk false (.cells true [.sl 3 0 1 (r.length + 1)])),some (.blk true (.cells true [.int .u64 0])),some (.blk true (.cells true (I x :: r.map I)))]) := e
    (sym => (simp [yC_nm,yC_rn,yM_s,yC_gr,yC_sl,yC_fz,yC_len,yC_0,yC_1,yC_2,yC_3,yC_4,yC_15,yC_same,Za,Zb,Zf,Zh,Zl,Zm,Zn,Zu,Zy,ZF,ZS,ZT,YR,YU,Xa,Xe,Xi,Xp,Xq,Xr,Xs,Xx,XK,XM,XW,We,Wh,Ws,Wy,Wz,W0,W3,W6,W7,W8,W9,WA,WB,WC,WE,WG,WH,WI,WJ,WK,WL,WM,WN,WO,WP,WR,WS,WT,WV,WW,WX,WY,Va,Vb,Vd,Ve,Vf,Vg,Vh,Vo,Vp,Vq,Vr,Vs,V0,V1,V2,V3,V5,V6,V8,V9,VA,VB,VC,VF,VG,VH,VI,VK,VU,VV,VW,VX,VY,VZ,Ua,Ub,Uc,Ud,Uf,Ui,Ur,Uv,U0,U1,U2,U3,U4,U5,U6,U9,UA,UJ,UK,Ta,Tb,Tf,Tk,Ts,Tt,Tw,Tx,T3,T7,T8,TB,TC,TE,TT,TV,TW,TZ,Sc,Sd,Se,Sf,Sg,Sy,Sz,S2,e]; all_goals tactic => exact rfl))
theorem w85 {a : Nat} (ha : a < 1024) : runW progX 85 [.fn (.func 106) [] [.pt 0 0]] [cU a] = some (rI (ofN (el a)),[some (.blk true (.cells true [.int .u64 0]))]) := by
  have e := w109 ha
  generalize ofN (el a) = os at *
  rw [r85 (by simp)]; unfold x85; dsimp only
  (sym => (simp [yC_nm,yC_rn,yM_s,yC_gr,yC_sl,yC_fz,yC_len,yC_0,yC_1,yC_2,yC_3,yC_4,yC_15,yC_same,Za,Zb,Zf,Zh,Zl,Zu,ZN,ZO,ZS,ZT,YR,YU,YX,YZ,Xq,Xs,Xu,Xw,XJ,We,Wj,Wy,W3,W6,W7,W8,WA,WC,WE,WH,WI,WJ,WK,WL,WM,WN,WO,WP,WR,WS,WT,WV,WW,Va,Vb,Ve,Vf,Vg,Vh,Vr,V5,V6,V8,V9,VA,VB,VC,VF,VG,VH,VI,VK,VT,VU,VV,VX,VY,VZ,Ua,Ub,Uc,Uv,U0,U1,U2,U3,U4,UB,UC,Ts,Tt,Tx,T7,T8,Sy,e]; all_goals tactic => exact rfl))
section
variable {l : Li} {b : Nat → Nat} {es : List (AV × AV)}
abbrev h82 (l : Li) (b : Nat → Nat) (es : List (AV × AV)) (k : Nat) : XH := [some (.blk false (.cells true [.pt 1 0])),some (.blk false (.cells true (yC l b 2))),some (.blk true (.map true es)),some (.blk true (.cells true [I (k : Nat)]))]
theorem w82 (hb : ∀ k,b k < 2 ^ 10) {j k : Nat} (hj : j < 10) (hk : k < 10) : runW progX 82 [I (j : Nat),.pt 0 0,.pt 3 0] (h82 l b es k) = some (.bool ((b j).testBit k),h82 l b es k) := by
  have s1 := yC_b (l := l) (b := b) (m := 2) (k := j) hj
  have c2 : ((j : Int) < 10) = True := eq_true (by omega)
  have e := w83 (a := b j) (lo_63 (hb j)) (i := (k : Int)) (j := k) rfl (by omega)
  generalize (b j).testBit k = v at *
  rw [r82 (by simp)]; unfold x82; dsimp only
  (sym => (simp [yC_nm,yC_rn,yM_s,yC_gr,yC_sl,yC_fz,yC_len,yC_0,yC_1,yC_2,yC_3,yC_4,yC_15,yC_same,Za,Zb,Ze,Zf,Zg,Zh,Zk,Zl,Zm,Zu,Z1,Z5,Z6,ZG,ZI,ZL,ZP,ZQ,ZS,ZT,ZY,Yu,Yv,YA,YM,YN,YO,YU,Xm,Xn,Xs,Xz,Wa,Wb,Wg,Wy,Wz,W0,W7,W8,W9,WA,WF,WH,WJ,WK,WL,WM,WN,WO,WP,WR,WS,WV,WW,WX,Va,Vb,Vc,Ve,Vf,Vg,Vi,Vk,Vm,Vr,Vt,Vu,Vw,Vx,Vz,V5,V6,V8,V9,VA,VB,VC,VF,VG,VH,VI,VK,VT,VU,VV,VW,VX,VY,VZ,Ua,Ub,Uc,Ui,Um,Un,Uo,Ur,Uv,Uy,Uz,U0,U1,U2,U3,U4,UB,UC,Ta,Tb,Tf,Ts,Tt,Tx,T7,T8,TB,Sy,S8,SB,SC,SD,s1,c2,e]; all_goals tactic => exact rfl))
def f82 (b : Nat → Nat) (k : Nat) (ks : List Nat) (i : Nat) : Int := if (b (ks.getD i 0)).testBit k = true then (i : Int) + 1 else 0
theorem w108 (hb : ∀ k,b k < 2 ^ 10) {k : Nat} (hk : k < 10) {ks : List Nat} (hks : ∀ j ∈ ks,j < 10) (hl : ks.length ≤ 10) : runW progX 108 [rI (ofN ks),.fn (.func 82) [] [.pt 0 0,.pt 3 0]] (h82 l b es k) = some (I (firstN (f82 b k ks) ks.length - 1),h82 l b es k) := by
  have ol := ofN_len ks
  have z := UZ (n := (ks.length : Int))
  obtain ⟨m,m1,m2,m3⟩ := firstN_ix (f82 b k ks) ks.length
  have go : ∀ i,i < ks.length → ∃ v : Nat,(ofN ks)[i]? = some (v : Int) ∧ runW progX 82 [I (v : Nat),.pt 0 0,.pt 3 0] (h82 l b es k) = some (.bool ((b v).testBit k),h82 l b es k) ∧ (((b v).testBit k = true ∧ f82 b k ks i = (i : Int) + 1) ∨ ((b v).testBit k = false ∧ f82 b k ks i = 0)) := by
    intro i hi
    obtain ⟨v,hv⟩ := at_ix hi
    refine ⟨v,ofN_ix hv,w82 hb (hks v (List.mem_of_getElem? hv)) hk,?_⟩
    unfold f82
    rw [getD_of hv]
    cases (b v).testBit k <;> simp
  generalize ofN ks = os at *
  have rd : ∀ i,i < m → headX 4 [0,1,7,8] (execW progX 108 4 none (match x108l0 with | .loop _ a => a | c => c) (envL [0,1,7,8] [rI os,.fn (.func 82) [] [.pt 0 0,.pt 3 0],I ks.length,I (i : Nat)]) (h82 l b es k)) =
    some ([rI os,.fn (.func 82) [] [.pt 0 0,.pt 3 0],I ks.length,I (i + 1 : Nat)],h82 l b es k) := by
    intro i hi
    have hil : i < ks.length := by omega
    obtain ⟨v,hv,wc,h⟩ := go i hil
    have e0 := m2 i hi
    have a1 := lt_ix hil
    have a2 := up_ix hil (by omega)
    rcases h with ⟨g,e⟩ | ⟨g,e⟩
    · rw [e] at e0; omega
    rw [g] at wc
    unfold x108l0
    dsimp only
    (sym => (simp [yC_nm,yC_rn,yM_s,yC_gr,yC_sl,yC_fz,yC_len,yC_0,yC_1,yC_2,yC_3,yC_4,yC_15,yC_same,Za,Zb,Zf,Zh,Zl,Zm,Zu,Z2,Z7,ZD,ZF,ZN,ZO,ZS,ZT,Ya,Yf,Yg,Yi,Yq,Yu,Yv,Y0,YN,YR,YU,YZ,Xm,Xn,Xq,Xs,Xw,Xy,Wa,We,Wj,Wy,W3,W6,W7,W8,W9,WA,WB,WC,WE,WF,WG,WH,WI,WJ,WK,WL,WM,WN,WO,WP,WR,WS,WT,WV,WW,WX,Va,Vb,Vc,Ve,Vf,Vg,Vh,Vr,V5,V6,V8,V9,VA,VB,VC,VF,VG,VH,VI,VK,VL,VM,VN,VO,VP,VQ,VR,VS,VT,VU,VV,VW,VX,VY,VZ,Ua,Ub,Uc,Ud,Ue,Uf,Ur,Uv,Uw,Ux,U0,U1,U2,U3,U4,UB,UC,UZ,Tc,Td,Tf,Tr,Ts,Tt,Tu,Tv,Tw,Tx,Ty,Tz,T3,T4,T5,T6,T7,T8,Sy,a1,a2,hv,wc,ol]; all_goals tactic => exact rfl))
  rw [r108 (by simp)]; unfold x108; dsimp only
  sym =>
    simp [yC_nm,yC_rn,yM_s,yC_gr,yC_sl,yC_fz,yC_len,yC_0,yC_1,yC_2,yC_3,yC_4,yC_15,yC_same,Za,Zb,Zf,Zh,Zl,Zm,Zu,Z2,Z7,ZD,ZF,ZN,ZO,ZS,ZT,Ya,Yf,Yg,Yi,Yq,Yu,Yv,Y0,YN,YR,YU,YZ,Xm,Xn,Xq,Xs,Xw,Xy,Wa,We,Wj,Wy,W3,W6,W7,W8,W9,WA,WB,WC,WE,WF,WG,WH,WI,WJ,WK,WL,WM,WN,WO,WP,WR,WS,WT,WV,WW,WX,Va,Vb,Vc,Ve,Vf,Vg,Vh,Vr,V5,V6,V8,V9,VA,VB,VC,VF,VG,VH,VI,VK,VL,VM,VN,VO,VP,VQ,VR,VS,VT,VU,VV,VW,VX,VY,VZ,Ua,Ub,Uc,Ud,Ue,Uf,Ur,Uv,Uw,Ux,U0,U1,U2,U3,U4,UB,UC,UZ,Tc,Td,Tf,Tr,Ts,Tt,Tu,Tv,Tw,Tx,Ty,Tz,T3,T4,T5,T6,T7,T8,Sy,ol]
    tactic =>
      unfold x108l0
      rw [loop_rule m (fun i => [rI os,.fn (.func 82) [] [.pt 0 0,.pt 3 0],I ks.length,I (i : Nat)]) (fun _ => h82 l b es k)]
      · rcases m3 with ⟨rfl,e⟩ | ⟨m3,m4,e⟩
        · rw [e]; (sym => (simp [yC_nm,yC_rn,yM_s,yC_gr,yC_sl,yC_fz,yC_len,yC_0,yC_1,yC_2,yC_3,yC_4,yC_15,yC_same,Za,Zb,Zf,Zh,Zl,Zm,Zu,Z2,Z7,ZD,ZF,ZN,ZO,ZS,ZT,Ya,Yf,Yg,Yi,Yq,Yu,Yv,Y0,YN,YR,YU,YZ,Xm,Xn,Xq,Xs,Xw,Xy,Wa,We,Wj,Wy,W3,W6,W7,W8,W9,WA,WB,WC,WE,WF,WG,WH,WI,WJ,WK,WL,WM,WN,WO,WP,WR,WS,WT,WV,WW,WX,Va,Vb,Vc,Ve,Vf,Vg,Vh,Vr,V5,V6,V8,V9,VA,VB,VC,VF,VG,VH,VI,VK,VL,VM,VN,VO,VP,VQ,VR,VS,VT,VU,VV,VW,VX,VY,VZ,Ua,Ub,Uc,Ud,Ue,Uf,Ur,Uv,Uw,Ux,U0,U1,U2,U3,U4,UB,UC,UZ,Tc,Td,Tf,Tr,Ts,Tt,Tu,Tv,Tw,Tx,Ty,Tz,T3,T4,T5,T6,T7,T8,Sy,z]; all_goals tactic => exact rfl))
        · rw [e]
          obtain ⟨v,hv,wc,h⟩ := go m m3
          have a1 := lt_ix m3
          rcases h with ⟨g,e2⟩ | ⟨g,e2⟩
          · rw [g] at wc
            have e3 : (m : Int) + 1 - 1 = m := by omega
            rw [e2,e3]
            (sym => (simp [yC_nm,yC_rn,yM_s,yC_gr,yC_sl,yC_fz,yC_len,yC_0,yC_1,yC_2,yC_3,yC_4,yC_15,yC_same,Za,Zb,Zf,Zh,Zl,Zm,Zu,Z2,Z7,ZD,ZF,ZN,ZO,ZS,ZT,Ya,Yf,Yg,Yi,Yq,Yu,Yv,Y0,YN,YR,YU,YZ,Xm,Xn,Xq,Xs,Xw,Xy,Wa,We,Wj,Wy,W3,W6,W7,W8,W9,WA,WB,WC,WE,WF,WG,WH,WI,WJ,WK,WL,WM,WN,WO,WP,WR,WS,WT,WV,WW,WX,Va,Vb,Vc,Ve,Vf,Vg,Vh,Vr,V5,V6,V8,V9,VA,VB,VC,VF,VG,VH,VI,VK,VL,VM,VN,VO,VP,VQ,VR,VS,VT,VU,VV,VW,VX,VY,VZ,Ua,Ub,Uc,Ud,Ue,Uf,Ur,Uv,Uw,Ux,U0,U1,U2,U3,U4,UB,UC,UZ,Tc,Td,Tf,Tr,Ts,Tt,Tu,Tv,Tw,Tx,Ty,Tz,T3,T4,T5,T6,T7,T8,Sy,a1,hv,wc,ol]; all_goals tactic => exact rfl))
          · exact absurd e2 m4
      · (sym => (simp [yC_nm,yC_rn,yM_s,yC_gr,yC_sl,yC_fz,yC_len,yC_0,yC_1,yC_2,yC_3,yC_4,yC_15,yC_same,Za,Zb,Zf,Zh,Zl,Zm,Zu,Z2,Z7,ZD,ZF,ZN,ZO,ZS,ZT,Ya,Yf,Yg,Yi,Yq,Yu,Yv,Y0,YN,YR,YU,YZ,Xm,Xn,Xq,Xs,Xw,Xy,Wa,We,Wj,Wy,W3,W6,W7,W8,W9,WA,WB,WC,WE,WF,WG,WH,WI,WJ,WK,WL,WM,WN,WO,WP,WR,WS,WT,WV,WW,WX,Va,Vb,Vc,Ve,Vf,Vg,Vh,Vr,V5,V6,V8,V9,VA,VB,VC,VF,VG,VH,VI,VK,VL,VM,VN,VO,VP,VQ,VR,VS,VT,VU,VV,VW,VX,VY,VZ,Ua,Ub,Uc,Ud,Ue,Uf,Ur,Uv,Uw,Ux,U0,U1,U2,U3,U4,UB,UC,UZ,Tc,Td,Tf,Tr,Ts,Tt,Tu,Tv,Tw,Tx,Ty,Tz,T3,T4,T5,T6,T7,T8,Sy]; all_goals tactic => exact rfl))
      · exact rd
      · rcases m3 with ⟨rfl,e⟩ | ⟨m3,m4,e⟩
        · (sym => (simp [yC_nm,yC_rn,yM_s,yC_gr,yC_sl,yC_fz,yC_len,yC_0,yC_1,yC_2,yC_3,yC_4,yC_15,yC_same,Za,Zb,Zf,Zh,Zl,Zm,Zu,Z2,Z7,ZD,ZF,ZN,ZO,ZS,ZT,Ya,Yf,Yg,Yi,Yq,Yu,Yv,Y0,YN,YR,YU,YZ,Xm,Xn,Xq,Xs,Xw,Xy,Wa,We,Wj,Wy,W3,W6,W7,W8,W9,WA,WB,WC,WE,WF,WG,WH,WI,WJ,WK,WL,WM,WN,WO,WP,WR,WS,WT,WV,WW,WX,Va,Vb,Vc,Ve,Vf,Vg,Vh,Vr,V5,V6,V8,V9,VA,VB,VC,VF,VG,VH,VI,VK,VL,VM,VN,VO,VP,VQ,VR,VS,VT,VU,VV,VW,VX,VY,VZ,Ua,Ub,Uc,Ud,Ue,Uf,Ur,Uv,Uw,Ux,U0,U1,U2,U3,U4,UB,UC,UZ,Tc,Td,Tf,Tr,Ts,Tt,Tu,Tv,Tw,Tx,Ty,Tz,T3,T4,T5,T6,T7,T8,Sy,z]; all_goals tactic => exact rfl))
        · obtain ⟨v,hv,wc,h⟩ := go m m3
          have a1 := lt_ix m3
          rcases h with ⟨g,e2⟩ | ⟨g,e2⟩
          · rw [g] at wc
            (sym => (simp [yC_nm,yC_rn,yM_s,yC_gr,yC_sl,yC_fz,yC_len,yC_0,yC_1,yC_2,yC_3,yC_4,yC_15,yC_same,Za,Zb,Zf,Zh,Zl,Zm,Zu,Z2,Z7,ZD,ZF,ZN,ZO,ZS,ZT,Ya,Yf,Yg,Yi,Yq,Yu,Yv,Y0,YN,YR,YU,YZ,Xm,Xn,Xq,Xs,Xw,Xy,Wa,We,Wj,Wy,W3,W6,W7,W8,W9,WA,WB,WC,WE,WF,WG,WH,WI,WJ,WK,WL,WM,WN,WO,WP,WR,WS,WT,WV,WW,WX,Va,Vb,Vc,Ve,Vf,Vg,Vh,Vr,V5,V6,V8,V9,VA,VB,VC,VF,VG,VH,VI,VK,VL,VM,VN,VO,VP,VQ,VR,VS,VT,VU,VV,VW,VX,VY,VZ,Ua,Ub,Uc,Ud,Ue,Uf,Ur,Uv,Uw,Ux,U0,U1,U2,U3,U4,UB,UC,UZ,Tc,Td,Tf,Tr,Ts,Tt,Tu,Tv,Tw,Tx,Ty,Tz,T3,T4,T5,T6,T7,T8,Sy,a1,hv,wc,ol]; all_goals tactic => exact rfl))
          · exact absurd e2 m4
theorem w84 (hb : ∀ k,b k < 2 ^ 10) {k : Nat} (hk : k < 10) {a : Nat} : runW progX 84 [rI (ofN (el a)),.fn (.func 82) [] [.pt 0 0,.pt 3 0]] (h82 l b es k) = some (.bool (!freeB b a k),h82 l b es k) := by
  have e := w108 (l := l) (es := es) hb hk (ks := el a) (fun j hj => (el_mem.1 hj).1) (el_len a)
  have q : decide (firstN (f82 b k (el a)) (el a).length - 1 ≥ 0) = !freeB b a k := by
    obtain ⟨m,m1,m2,m3⟩ := firstN_ix (f82 b k (el a)) (el a).length
    rcases m3 with ⟨rfl,e⟩ | ⟨m3,m4,e⟩
    · rw [e]
      have : freeB b a k = true := by
        unfold freeB
        rw [List.all_eq_true]
        intro j hj
        obtain ⟨i,hi⟩ := List.getElem?_of_mem hj
        have h0 := m2 i (lt_of hi)
        unfold f82 at h0
        rw [getD_of hi] at h0
        cases hc : (b j).testBit k with
        | false => rfl
        | true => rw [hc,if_pos rfl] at h0; omega
      rw [this]; rfl
    · rw [e]
      obtain ⟨v,hv⟩ := at_ix m3
      have hm := m4
      unfold f82 at m4 ⊢
      rw [getD_of hv] at m4 ⊢
      cases hc : (b v).testBit k with
      | false => rw [hc] at m4; simp at m4
      | true =>
        have : freeB b a k = false := by
          unfold freeB
          rw [List.all_eq_false]
          exact ⟨v,List.mem_of_getElem? hv,by simp [hc]⟩
        rw [this,if_pos rfl]
        exact decide_eq_true (by omega)
  generalize firstN (f82 b k (el a)) (el a).length - 1 = v at *
  generalize ofN (el a) = os at *
  rw [← q]
  rcases ptf (v ≥ 0) with g | g
  · rw [decide_eq_true (of_eq_true g)]
    rw [r84 (by simp)]; unfold x84; dsimp only
    (sym => (simp [yC_nm,yC_rn,yM_s,yC_gr,yC_sl,yC_fz,yC_len,yC_0,yC_1,yC_2,yC_3,yC_4,yC_15,yC_same,Za,Zb,Zf,Zg,Zh,Zj,Zl,Zm,Zu,Z2,ZN,ZO,ZS,ZT,Yt,YO,YR,YU,YZ,Xm,Xn,Xq,Xs,Xw,Xz,XJ,XO,Wb,We,Wj,Wy,W3,W6,W7,W8,W9,WA,WB,WC,WE,WF,WG,WH,WI,WJ,WK,WL,WM,WN,WO,WP,WR,WS,WT,WV,WW,WX,Va,Vb,Vc,Ve,Vf,Vg,Vh,Vr,Vt,Vu,Vv,V5,V6,V8,V9,VA,VB,VC,VF,VG,VH,VI,VK,VT,VU,VV,VW,VX,VY,VZ,Ua,Ub,Uc,Uf,Uv,Uw,Ux,U0,U1,U2,U3,U4,UB,UC,Tr,Ts,Tt,Tx,T7,T8,Sy,SB,SC,SE,e,g]; all_goals tactic => exact rfl))
  · rw [decide_eq_false (of_eq_false g)]
    rw [r84 (by simp)]; unfold x84; dsimp only
    (sym => (simp [yC_nm,yC_rn,yM_s,yC_gr,yC_sl,yC_fz,yC_len,yC_0,yC_1,yC_2,yC_3,yC_4,yC_15,yC_same,Za,Zb,Zf,Zg,Zh,Zj,Zl,Zm,Zu,Z2,ZN,ZO,ZS,ZT,Yt,YO,YR,YU,YZ,Xm,Xn,Xq,Xs,Xw,Xz,XJ,XO,Wb,We,Wj,Wy,W3,W6,W7,W8,W9,WA,WB,WC,WE,WF,WG,WH,WI,WJ,WK,WL,WM,WN,WO,WP,WR,WS,WT,WV,WW,WX,Va,Vb,Vc,Ve,Vf,Vg,Vh,Vr,Vt,Vu,Vv,V5,V6,V8,V9,VA,VB,VC,VF,VG,VH,VI,VK,VT,VU,VV,VW,VX,VY,VZ,Ua,Ub,Uc,Uf,Uv,Uw,Ux,U0,U1,U2,U3,U4,UB,UC,Tr,Ts,Tt,Tx,T7,T8,Sy,SB,SC,SE,e,g]; all_goals tactic => exact rfl))
end
end Go.Proofs.YtpbeclkpohehgaaDoor
namespace Go.Proofs.YtpbeclkpohehgaaDoor
open Go Go.DL
set_option maxRecDepth 100000
set_option maxHeartbeats 4000000

abbrev plS (l : Li) (b : Nat → Nat) (a : Nat) (s : Int × Int) (k : Nat) : Int × Int := if freeB b a k = true then (if lastF l a k < s.2 then ((k : Int),lastF l a k) else s) else s
def plF (l : Li) (b : Nat → Nat) (a : Nat) : Int × Int := (el a).foldl (plS l b a) (0,1000001)
section
variable {l : Li} {b : Nat → Nat} {es : List (AV × AV)}
abbrev h32i (l : Li) (b : Nat → Nat) (es : List (AV × AV)) (a : Nat) (o m : Int) : XH := [some (.loop 32 0 [.pt 1 0,.pt 4 0,.pt 5 0,.pt 6 0] .ready),some (.blk false (.cells true [.pt 2 0])),some (.blk false (.cells true (yC l b 3))),some (.blk true (.map true es)),cU a,some (.blk true (.cells true [I o])),some (.blk true (.cells true [I m]))]
theorem home32 (a : Nat) (o m : Int) : Home 7 (h32i l b es a o m) := by
  refine ⟨fun _ => rfl,fun _ _ => rfl,fun _ => rfl,?_,?_⟩
  · intro c e h0 h1
    (sym => (simp [yC_nm,yC_rn,yM_s,yC_gr,yC_sl,yC_fz,yC_len,yC_0,yC_1,yC_2,yC_3,yC_4,yC_15,yC_same,Za,YQ,YU,Xa,Xp,Xs,Xx,XI,Wd,WA,WF,WH,WJ,WL,WM,WN,WO,WP,WV,WW,WX,WY,Va,Vb,Vc,Vd,Vr,V8,V9,VA,VM,VN,VU,VV,VW,VX,VY,VZ,Ua,Uv,U0,U1,U2,U3,U4,U7,UB,T6,Sy,h0,h1]; all_goals tactic => exact rfl))
  · intro c
    (sym => (simp [yC_nm,yC_rn,yM_s,yC_gr,yC_sl,yC_fz,yC_len,yC_0,yC_1,yC_2,yC_3,yC_4,yC_15,yC_same,Za,YQ,YU,Xa,Xp,Xs,Xx,XI,Wd,WA,WF,WH,WJ,WL,WM,WN,WO,WP,WV,WW,WX,WY,Va,Vb,Vc,Vd,Vr,V8,V9,VA,VM,VN,VU,VV,VW,VX,VY,VZ,Ua,Uv,U0,U1,U2,U3,U4,U7,UB,T6,Sy]; all_goals tactic => exact rfl))
theorem y32 (g : Good l) (hb : ∀ k,b k < 2 ^ 10) {a : Nat} (ha : a < 2 ^ l.ls.length) (o m : Int) {k : Nat} (hk : k < l.ls.length) : Yd (h32i l b es a o m) (h32i l b es a (plS l b a (o,m) k).1 (plS l b a (o,m) k).2) k true := by
  have hn := g.few
  have ha2 := lt_10 ha hn
  have e81 := w81 a
  have e85 := w85 ha2
  have e84 := w84 (l := l) (es := es) hb (k := k) (by omega) (a := a)
  have e86 := w86 (b := b) (es := es) g ha hk
  have y : runYW progX (.fn (.yield 0) [] []) [I (k : Nat)] (h32i l b es a o m) = some (.bool true,h32i l b es a (plS l b a (o,m) k).1 (plS l b a (o,m) k).2) := by
    rw [runYW_eq (K := 32) (d := x32) (site := 0) (vs := [.pt 1 0,.pt 4 0,.pt 5 0,.pt 6 0]) rfl rfl (by rfl) rfl]
    unfold plS
    generalize lastF l a k = lv at *
    generalize ofN (el a) = os at *
    cases hf : freeB b a k with
    | false =>
      rw [hf] at e84
      rw [if_neg (by simp)]
      (sym => (simp [yC_nm,yC_rn,yM_s,yC_gr,yC_sl,yC_fz,yC_len,yC_0,yC_1,yC_2,yC_3,yC_4,yC_15,yC_same,Za,Zb,Zc,Zd,Ze,Zf,Zg,Zh,Zk,Zl,Zm,Zo,Zp,Zr,Zu,Zv,Zw,Zx,Z2,Z3,ZG,ZI,ZJ,ZK,ZL,ZM,ZP,ZQ,ZS,ZT,ZU,ZV,ZW,Yq,YN,YO,YR,YU,YZ,Xa,Xb,Xm,Xn,Xq,Xs,Xw,Xx,XL,XO,Wj,Wl,Ww,Wy,Wz,W0,W3,W4,W6,W7,W9,WA,WB,WC,WE,WF,WG,WH,WI,WJ,WK,WL,WM,WN,WO,WP,WR,WS,WT,WV,WW,WX,WY,Va,Vb,Vc,Vd,Ve,Vf,Vg,Vh,Vi,Vj,Vk,Vm,Vn,Vr,Vt,Vu,Vv,Vw,Vx,Vy,Vz,V7,VA,VL,VO,VP,VQ,VU,VV,VW,VX,VY,VZ,Ua,Ub,Uc,Uf,Ui,Ul,Um,Un,Uo,Ur,Uv,Uw,Ux,Uy,Uz,U0,U1,U2,U3,U4,U5,U6,U7,U8,UD,UH,UI,Ta,Tb,Tf,Tg,Th,Tr,Ts,Tu,Tw,Tx,T3,T7,T8,TV,TW,TX,TY,Sj,Sk,Sl,Sm,Sn,Sx,Sy,S3,S4,S5,S6,S7,SB,SC,SD,SE,e81,e85,e84,e86]; all_goals tactic => exact rfl))
    | true =>
      rw [hf] at e84
      rw [if_pos rfl]
      rcases ptf (lv < m) with h | h
      · simp only [h,if_true]
        (sym => (simp [yC_nm,yC_rn,yM_s,yC_gr,yC_sl,yC_fz,yC_len,yC_0,yC_1,yC_2,yC_3,yC_4,yC_15,yC_same,Za,Zb,Zc,Zd,Ze,Zf,Zg,Zh,Zk,Zl,Zm,Zo,Zp,Zr,Zu,Zv,Zw,Zx,Z2,Z3,ZG,ZI,ZJ,ZK,ZL,ZM,ZP,ZQ,ZS,ZT,ZU,ZV,ZW,Yq,YN,YO,YR,YU,YZ,Xa,Xb,Xm,Xn,Xq,Xs,Xw,Xx,XL,XO,Wj,Wl,Ww,Wy,Wz,W0,W3,W4,W6,W7,W9,WA,WB,WC,WE,WF,WG,WH,WI,WJ,WK,WL,WM,WN,WO,WP,WR,WS,WT,WV,WW,WX,WY,Va,Vb,Vc,Vd,Ve,Vf,Vg,Vh,Vi,Vj,Vk,Vm,Vn,Vr,Vt,Vu,Vv,Vw,Vx,Vy,Vz,V7,VA,VL,VO,VP,VQ,VU,VV,VW,VX,VY,VZ,Ua,Ub,Uc,Uf,Ui,Ul,Um,Un,Uo,Ur,Uv,Uw,Ux,Uy,Uz,U0,U1,U2,U3,U4,U5,U6,U7,U8,UD,UH,UI,Ta,Tb,Tf,Tg,Th,Tr,Ts,Tu,Tw,Tx,T3,T7,T8,TV,TW,TX,TY,Sj,Sk,Sl,Sm,Sn,Sx,Sy,S3,S4,S5,S6,S7,SB,SC,SD,SE,e81,e85,e84,e86,h]; all_goals tactic => exact rfl))
      · simp only [h,if_false]
        (sym => (simp [yC_nm,yC_rn,yM_s,yC_gr,yC_sl,yC_fz,yC_len,yC_0,yC_1,yC_2,yC_3,yC_4,yC_15,yC_same,Za,Zb,Zc,Zd,Ze,Zf,Zg,Zh,Zk,Zl,Zm,Zo,Zp,Zr,Zu,Zv,Zw,Zx,Z2,Z3,ZG,ZI,ZJ,ZK,ZL,ZM,ZP,ZQ,ZS,ZT,ZU,ZV,ZW,Yq,YN,YO,YR,YU,YZ,Xa,Xb,Xm,Xn,Xq,Xs,Xw,Xx,XL,XO,Wj,Wl,Ww,Wy,Wz,W0,W3,W4,W6,W7,W9,WA,WB,WC,WE,WF,WG,WH,WI,WJ,WK,WL,WM,WN,WO,WP,WR,WS,WT,WV,WW,WX,WY,Va,Vb,Vc,Vd,Ve,Vf,Vg,Vh,Vi,Vj,Vk,Vm,Vn,Vr,Vt,Vu,Vv,Vw,Vx,Vy,Vz,V7,VA,VL,VO,VP,VQ,VU,VV,VW,VX,VY,VZ,Ua,Ub,Uc,Uf,Ui,Ul,Um,Un,Uo,Ur,Uv,Uw,Ux,Uy,Uz,U0,U1,U2,U3,U4,U5,U6,U7,U8,UD,UH,UI,Ta,Tb,Tf,Tg,Th,Tr,Ts,Tu,Tw,Tx,T3,T7,T8,TV,TW,TX,TY,Sj,Sk,Sl,Sm,Sn,Sx,Sy,S3,S4,S5,S6,S7,SB,SC,SD,SE,e81,e85,e84,e86,h]; all_goals tactic => exact rfl))
  generalize plS l b a (o,m) k = r at *
  intro c
  (sym => (simp [yC_nm,yC_rn,yM_s,yC_gr,yC_sl,yC_fz,yC_len,yC_0,yC_1,yC_2,yC_3,yC_4,yC_15,yC_same,Za,Zb,Zc,Zd,Ze,Zf,Zg,Zh,Zk,Zl,Zm,Zo,Zp,Zr,Zu,Zv,Zw,Zx,Z2,Z3,ZG,ZI,ZJ,ZK,ZL,ZM,ZP,ZQ,ZS,ZT,ZU,ZV,ZW,Yq,YN,YO,YR,YU,YZ,Xa,Xb,Xm,Xn,Xq,Xs,Xw,Xx,XL,XO,Wj,Wl,Ww,Wy,Wz,W0,W3,W4,W6,W7,W9,WA,WB,WC,WE,WF,WG,WH,WI,WJ,WK,WL,WM,WN,WO,WP,WR,WS,WT,WV,WW,WX,WY,Va,Vb,Vc,Vd,Ve,Vf,Vg,Vh,Vi,Vj,Vk,Vm,Vn,Vr,Vt,Vu,Vv,Vw,Vx,Vy,Vz,V7,VA,VL,VO,VP,VQ,VU,VV,VW,VX,VY,VZ,Ua,Ub,Uc,Uf,Ui,Ul,Um,Un,Uo,Ur,Uv,Uw,Ux,Uy,Uz,U0,U1,U2,U3,U4,U5,U6,U7,U8,UD,UH,UI,Ta,Tb,Tf,Tg,Th,Tr,Ts,Tu,Tw,Tx,T3,T7,T8,TV,TW,TX,TY,Sj,Sk,Sl,Sm,Sn,Sx,Sy,S3,S4,S5,S6,S7,SB,SC,SD,SE,y]; all_goals tactic => exact rfl))
theorem in32 (g : Good l) (hb : ∀ k,b k < 2 ^ 10) {a : Nat} (ha : a < 2 ^ l.ls.length) :
    runW progX 106 [.fn (.yield 0) [] [],.pt 7 0] [some (.loop 32 0 [.pt 1 0,.pt 4 0,.pt 5 0,.pt 6 0] .ready),some (.blk false (.cells true [.pt 2 0])),some (.blk false (.cells true (yC l b 3))),some (.blk true (.map true es)),cU a,some (.blk true (.cells true [I 0])),some (.blk true (.cells true [I 1000001])),cU a] =
      some (.tup [],[some (.loop 32 0 [.pt 1 0,.pt 4 0,.pt 5 0,.pt 6 0] .ready),some (.blk false (.cells true [.pt 2 0])),some (.blk false (.cells true (yC l b 3))),some (.blk true (.map true es)),cU a,some (.blk true (.cells true [I (plF l b a).1])),some (.blk true (.cells true [I (plF l b a).2])),some (.blk true (.cells true [.int .u64 0]))]) := by
  have h := each_all (n := 7) (G := fun i => h32i l b es a (fT (plS l b a) (0,1000001) (el a) i).1 (fT (plS l b a) (0,1000001) (el a) i).2) (lt_10 ha g.few) (fun i _ => home32 a _ _) (by
    intro i v hv
    rw [fT_up hv]
    exact y32 g hb ha _ _ (el_lt ha (List.mem_of_getElem? hv)))
  unfold plF
  rw [fT_all] at h
  exact h
end
theorem pl_eq {l : Li} (g : Good l) {b : Nat → Nat} {a : Nat} : ∀ (ks : List Nat) (s : Int × Int) (n : Int),(∀ k ∈ ks,k < l.ls.length) → mnI 1000000 s.2 = n → (s.2 = 1000001 ∨ (∃ k : Nat,s.1 = (k : Int) ∧ k < l.ls.length ∧ k ∈ el a ∧ freeB b a k = true ∧ lastF l a k = s.2)) → (∀ k ∈ ks,k ∈ el a) →
    mnI 1000000 (ks.foldl (plS l b a) s).2 = ks.foldl (shS l b a) n ∧ ((ks.foldl (plS l b a) s).2 = 1000001 ∨ (∃ k : Nat,(ks.foldl (plS l b a) s).1 = (k : Int) ∧ k < l.ls.length ∧ k ∈ el a ∧ freeB b a k = true ∧ lastF l a k = (ks.foldl (plS l b a) s).2)) ∧ ((ks.foldl (plS l b a) s).2 ≤ s.2) ∧ (∀ k ∈ ks,freeB b a k = true → (ks.foldl (plS l b a) s).2 ≤ 1000000)
  | [],s,n,_,h1,h2,_ => ⟨h1,h2,Int.le_refl _,fun k hk => by simp at hk⟩
  | k :: ks,s,n,h,h1,h2,h3 => by
    have hk := h k (by simp)
    have bd := last_bd (a := a) g hk
    rw [List.foldl_cons,List.foldl_cons]
    have st : mnI 1000000 (plS l b a s k).2 = shS l b a n k ∧ ((plS l b a s k).2 = 1000001 ∨ (∃ j : Nat,(plS l b a s k).1 = (j : Int) ∧ j < l.ls.length ∧ j ∈ el a ∧ freeB b a j = true ∧ lastF l a j = (plS l b a s k).2)) ∧ (plS l b a s k).2 ≤ s.2 ∧ (freeB b a k = true → (plS l b a s k).2 ≤ 1000000) := by
      unfold plS shS
      cases hf : freeB b a k with
      | false =>
        rw [if_neg (by simp),if_neg (by simp)]
        exact ⟨h1,h2,Int.le_refl _,fun h => by simp at h⟩
      | true =>
        rw [if_pos rfl,if_pos rfl]
        unfold mnI at h1 ⊢
        by_cases hc : lastF l a k < s.2
        · rw [if_pos hc]
          refine ⟨?_,.inr ⟨k,rfl,hk,h3 k (by simp),hf,rfl⟩,by dsimp only; omega,fun _ => bd.2⟩
          dsimp only
          rw [← h1]
          repeat' split
          all_goals omega
        · rw [if_neg hc]
          refine ⟨?_,h2,Int.le_refl _,fun _ => by omega⟩
          rw [← h1]
          repeat' split
          all_goals omega
    obtain ⟨i1,i2,i3,i4⟩ := pl_eq g ks (plS l b a s k) (shS l b a n k) (fun j hj => h j (by simp [hj])) st.1 st.2.1 (fun j hj => h3 j (by simp [hj]))
    refine ⟨i1,i2,by omega,fun j hj hfj => ?_⟩
    rcases List.mem_cons.1 hj with rfl | hj
    · have := st.2.2.2 hfj
      omega
    · exact i4 j hj hfj
theorem pl_of {l : Li} (g : Good l) {b : Nat → Nat} (p : Prec l.ls.length b) {a : Nat} (ha : a < 2 ^ l.ls.length) (h0 : a ≠ 0) : ∃ k : Nat,(plF l b a).1 = (k : Int) ∧ k < l.ls.length ∧ k ∈ el a ∧ freeB b a k = true ∧ lastF l a k = shF l b a := by
  have hne : el a ≠ [] := fun hc => h0 ((el_0 a (lt_10 ha g.few)).1 hc)
  obtain ⟨k0,hk0⟩ := List.exists_mem_of_ne_nil _ hne
  obtain ⟨k1,hk1,hf1⟩ := p.free _ k0 hk0 (Nat.le_refl _)
  obtain ⟨i1,i2,_,i4⟩ := pl_eq g (b := b) (a := a) (el a) (0,1000001) 1000000 (fun k hk => el_lt ha hk) (by unfold mnI; rw [if_neg (by decide)]) (.inl rfl) (fun k hk => hk)
  have i4 := i4 k1 hk1 hf1
  rcases i2 with h | ⟨k,h1,h2,h3,h4,h5⟩
  · unfold plF at *; omega
  · refine ⟨k,h1,h2,h3,h4,?_⟩
    rw [h5]
    unfold shF
    rw [← i1]
    unfold mnI
    split <;> omega
end Go.Proofs.YtpbeclkpohehgaaDoor
namespace Go.Proofs.YtpbeclkpohehgaaDoor
open Go Go.DL
set_option maxRecDepth 100000
set_option maxHeartbeats 4000000

theorem out_bit {a k : Nat} (ha : a < 1024) (hk : k < 10) (i : Nat) : (dif a (2 ^ k)).testBit i = (a.testBit i && !decide (k = i)) := by
  have h2 : 2 ^ k < 2 ^ 10 := Nat.pow_lt_pow_right (by omega) hk
  rw [dif_bit (by omega),Nat.testBit_two_pow]
  cases h : a.testBit i with
  | false => rfl
  | true =>
    have : i < 64 := by
      by_cases hc : i < 64
      · exact hc
      · rw [bit_lt (n := 10) ha (by omega)] at h; simp at h
    rw [decide_eq_true this]
    rfl
theorem loop_head2 {D : Nat → Option XFn} {K k : Nat} {rd : Option Nat} {L : List Nat} {a : XCode} {e e' : Env} {H H' : XH} (h : headX k L (some (.normal,e,H)) = headX k L (some (.normal,e',H'))) : execW D K k rd (.loop L a) e H = execW D K k rd (.loop L a) e' H' := by
  simp only [headX,Option.some.injEq,Prod.mk.injEq] at h
  rw [execW_loop,execW_loop (e := e')]
  have e1 : canonE k L e H = canonE k L e' H' := congrArg (envL L) h.1
  rw [e1,h.2]
theorem out_or {a k : Nat} (ha : a < 1024) (hk : k < 10) (h : a.testBit k = true) : dif a (2 ^ k) ||| 2 ^ k = a := by
  apply Nat.eq_of_testBit_eq
  intro i
  rw [or_bit,out_bit ha hk]
  by_cases hi : k = i
  · subst hi; rw [h]; simp
  · rw [decide_eq_false hi]; simp
structure Peel (l : Li) (b : Nat → Nat) (a best : Nat) (most : Int) : Prop where
  lt : a < 2 ^ l.ls.length
  cl : clB b l.ls.length a = true
  rest : rstF l b a ≤ most
  pos : 0 ≤ most
  blt : best < 2 ^ l.ls.length
  sh : most = 0 ∨ (best ≠ 0 ∧ shF l b best = most)
theorem Peel.step {l : Li} (g : Good l) {b : Nat → Nat} (p : Prec l.ls.length b) {a best : Nat} {most : Int} (q : Peel l b a best most) (h0 : a ≠ 0) {k : Nat} (hk : k < l.ls.length) (hke : k ∈ el a) (hf : freeB b a k = true) (hl : lastF l a k = shF l b a) :
    dif a (2 ^ k) < a ∧ Peel l b (dif a (2 ^ k)) (if shF l b a > most then a else best) (if shF l b a > most then shF l b a else most) := by
  have hn := g.few
  have ha := lt_10 q.lt hn
  have hb := fun i => out_bit ha (k := k) (by omega) i
  have hor := out_or ha (k := k) (by omega) (el_mem.1 hke).2
  have hak := (el_mem.1 hke).2
  have h1 : dif a (2 ^ k) < a := sub_lt (fun i hi => by rw [hb,Bool.and_eq_true] at hi; exact hi.1) fun hc => by
    have := hb k
    rw [hc,hak] at this
    simp at this
  have hlt : dif a (2 ^ k) < 2 ^ l.ls.length := by have := q.lt; omega
  have lb : ∀ x,b x < 2 ^ 63 := fun x => by have := lt_10 (p.lt x) hn; omega
  have lo : dif a (2 ^ k) < 2 ^ 63 := by omega
  have hcl := (gdN_iff _).1 q.cl
  have hbk : (dif a (2 ^ k)).testBit k = false := by rw [hb]; simp
  have hcan : canB b (dif a (2 ^ k)) k = true := (canB_iff p hn hlt).2 ⟨hbk,fun i hi => by
    rw [hb]
    have h2 := (dif_zero (lb k) (by omega)).1 (hcl k hk hak) i hi
    have h3 : k ≠ i := fun hc => by subst hc; rw [p.irr k] at hi; simp at hi
    rw [h2,decide_eq_false h3]; rfl⟩
  have hpo := (pop_or hbk l.ls.length).1 hk
  rw [hor] at hpo
  have hle := pop_le a l.ls.length
  have hr := rest_le (l := l) (by omega) hk hcan
  unfold wthF at hr
  rw [hor,hl] at hr
  refine ⟨h1,hlt,?_,?_,?_,?_,?_⟩
  · refine (gdN_iff _).2 fun j hj hja => ?_
    rw [hb,Bool.and_eq_true] at hja
    rw [dif_zero (lb j) lo]
    intro i hi
    rw [hb,(dif_zero (lb j) (by omega)).1 (hcl j hj hja.1) i hi]
    have h3 : k ≠ i := fun hc => by
      subst hc
      unfold freeB at hf
      have := List.all_eq_true.1 hf j (el_mem.2 ⟨by omega,hja.1⟩)
      rw [hi] at this; simp at this
    rw [decide_eq_false h3]; rfl
  · have := q.rest
    unfold mxI at hr
    split at hr <;> split <;> omega
  · have := q.pos
    split <;> omega
  · split
    · exact q.lt
    · exact q.blt
  · split
    · exact .inr ⟨h0,rfl⟩
    · exact q.sh
def prvE (l : Li) : Int := if checkL l = 0 then (if minW l = 0 then 5 else 0) else checkL l
section
variable {l : Li} {b : Nat → Nat}
abbrev h32 (l : Li) (b : Nat → Nat) (es : List (AV × AV)) (a : Nat) : XH := [some (.blk false (.cells true [.pt 1 0])),some (.blk false (.cells true (yC l b 2))),some (.blk true (.map true es)),cU a]
theorem round32 (g : Good l) (p : Prec l.ls.length b) {es : List (AV × AV)} {a best k : Nat} {most : Int} (ha : a < 2 ^ l.ls.length) (h0 : a ≠ 0) (hk : k < l.ls.length) (hp : (plF l b a).1 = (k : Int)) :
    headX 0 [2,3,4,7,8,9] (execW progX 32 0 none (match x32l0 with | .loop _ a => a | c => c) (envL [2,3,4,7,8,9] [.nilsl,I 0,.pt 0 0,U best,I most,.pt 3 0]) (h32 l b es a)) =
      some ([.nilsl,I 0,.pt 0 0,U (if shF l b a > most then a else best),I (if shF l b a > most then shF l b a else most),.pt 3 0],h32 l b es (dif a (2 ^ k))) := by
  have hn := g.few
  have hb : ∀ k,b k < 2 ^ 10 := fun k => lt_10 (p.lt k) hn
  have ha2 := lt_10 ha hn
  have e80 := w80 (es := es) g hb ha
  have e81 := w81 a
  have e106 := in32 (es := es) g hb ha
  rw [hp] at e106
  have n0 : ((a : Int) = 0) = False := eq_false (by omega)
  have n1 := neg_n k
  have s1 : bitsA .andNot .u64 (a : Int) (IntKind.u64.wrap (1 * 2 ^ min k IntKind.u64.bits)) = ((dif a (2 ^ k) : Nat) : Int) := by
    rw [shl_one big_u (by omega),bits_dif big_u (by omega) (Nat.pow_lt_pow_right (by omega) (by omega))]
  have s2 : bitsA .andNot .u64 (a : Int) (IntKind.u64.wrap (2 ^ min k IntKind.u64.bits)) = ((dif a (2 ^ k) : Nat) : Int) := by
    rw [shl_1 big_u (by omega),bits_dif big_u (by omega) (Nat.pow_lt_pow_right (by omega) (by omega))]
  generalize shF l b a = sv at *
  generalize (plF l b a).2 = m2 at *
  generalize dif a (2 ^ k) = a' at *
  unfold x32l0
  dsimp only
  rcases ptf (sv > most) with h | h
  · simp only [h,if_true]
    (sym => (simp [yC_nm,yC_rn,yM_s,yC_gr,yC_sl,yC_fz,yC_len,yC_0,yC_1,yC_2,yC_3,yC_4,yC_15,yC_same,Za,Zb,Zc,Zf,Zg,Zh,Zi,Zj,Zl,Zm,Zu,Zv,Z2,ZF,ZG,ZI,ZJ,ZK,ZL,ZM,ZN,ZO,ZS,ZT,Ym,Yp,Ys,Yv,YN,YU,YX,Xa,Xb,Xm,Xp,Xs,Xu,Xw,Xx,XL,Wl,Ww,Wy,Wz,W0,W3,W4,W6,W7,W9,WA,WB,WC,WE,WF,WG,WH,WI,WJ,WK,WL,WM,WN,WO,WP,WQ,WR,WS,WT,WV,WW,WX,WY,Vb,Vc,Vd,Ve,Vf,Vg,Vh,Vi,Vr,Vt,Vu,Vw,Vx,Vy,Vz,VL,VM,VN,VO,VP,VQ,VU,VV,VW,VX,VY,Ua,Ub,Uc,Uf,Ui,Um,Un,Ur,Uv,Uw,Ux,Uy,Uz,U0,U1,U2,U3,U4,U5,U6,U7,U8,UD,Ta,Tb,Tf,Tg,Th,Tr,Ts,Tu,Tw,Tx,T3,T6,T7,T8,TD,TV,TW,TZ,Sc,Sd,Se,Sf,Sg,Sx,Sy,SA,SB,SC,SD,n0,n1,e80,e81,e106,s1,s2,h]; all_goals tactic => exact rfl))
  · simp only [h,if_false]
    (sym => (simp [yC_nm,yC_rn,yM_s,yC_gr,yC_sl,yC_fz,yC_len,yC_0,yC_1,yC_2,yC_3,yC_4,yC_15,yC_same,Za,Zb,Zc,Zf,Zg,Zh,Zi,Zj,Zl,Zm,Zu,Zv,Z2,ZF,ZG,ZI,ZJ,ZK,ZL,ZM,ZN,ZO,ZS,ZT,Ym,Yp,Ys,Yv,YN,YU,YX,Xa,Xb,Xm,Xp,Xs,Xu,Xw,Xx,XL,Wl,Ww,Wy,Wz,W0,W3,W4,W6,W7,W9,WA,WB,WC,WE,WF,WG,WH,WI,WJ,WK,WL,WM,WN,WO,WP,WQ,WR,WS,WT,WV,WW,WX,WY,Vb,Vc,Vd,Ve,Vf,Vg,Vh,Vi,Vr,Vt,Vu,Vw,Vx,Vy,Vz,VL,VM,VN,VO,VP,VQ,VU,VV,VW,VX,VY,Ua,Ub,Uc,Uf,Ui,Um,Un,Ur,Uv,Uw,Ux,Uy,Uz,U0,U1,U2,U3,U4,U5,U6,U7,U8,UD,Ta,Tb,Tf,Tg,Th,Tr,Ts,Tu,Tw,Tx,T3,T6,T7,T8,TD,TV,TW,TZ,Sc,Sd,Se,Sf,Sg,Sx,Sy,SA,SB,SC,SD,n0,n1,e80,e81,e106,s1,s2,h]; all_goals tactic => exact rfl))
theorem w32 (hf : l.Fit) : (prvE l ≠ 0 ∧ runW progX 32 [.agg l.c] [] = some (.tup [.fs [],I (prvE l)],[])) ∨ (prvE l = 0 ∧ checkL l = 0 ∧ ∃ best,best ≠ 0 ∧ best < 2 ^ l.ls.length ∧ 1 ≤ minW l ∧ minW l ≤ 1000000 ∧ minW l ≤ shF l (behF l.ts) best ∧ runW progX 32 [.agg l.c] [] = some (.tup [rI (ofN (el best)),I 0],[])) := by
  have e52 := w52 l hf
  unfold w52R at e52
  unfold prvE
  by_cases hc : checkL l = 0
  · rw [if_pos hc]
    rw [if_pos hc] at e52
    have g := good_of hc
    have hn := g.few
    have p := g.prec
    unfold minW
    generalize behF l.ts = b at *
    have hb : ∀ k,b k < 2 ^ 10 := fun k => lt_10 (p.lt k) hn
    obtain ⟨es1,he1,e72⟩ := w72 g p _ 0 (Nat.two_pow_pos _) rfl [] (memo_0 l b)
    have e72 : runW progX 72 [.pt 0 0,.int .u64 0] [some (.blk false (.cells true (yC l b 1))),some (.blk true (.map true []))] = some (I (rstF l b 0),hY l b (encM es1)) := e72
    have wb := rest_bd g b 0
    by_cases hw : rstF l b 0 = 0
    · rw [if_pos hw]
      refine .inl ⟨by decide,?_⟩
      rw [hw] at e72
      rw [r32 (by simp)]; unfold x32; dsimp only
      (sym => (simp [yC_nm,yC_rn,yM_s,yC_gr,yC_sl,yC_fz,yC_len,yC_0,yC_1,yC_2,yC_3,yC_4,yC_15,yC_same,Za,Zb,Zc,Zf,Zg,Zh,Zj,Zl,Zm,Zn,Zu,Zv,Zy,Z2,Z5,ZC,ZD,ZF,ZJ,ZK,ZN,ZO,ZS,ZT,ZY,Ya,Yh,Yj,Ym,Yo,Yp,Yv,Y0,YN,YP,YQ,YR,YU,YX,YZ,Xb,Xd,Xe,Xg,Xj,Xm,Xo,Xp,Xq,Xs,Xu,Xv,Xw,Xy,XI,XJ,XL,XM,Wa,Wc,Wd,We,Wh,Wl,Wn,Wq,Wt,Wy,Wz,W0,W3,W4,W5,W6,W7,W8,W9,WA,WB,WC,WE,WF,WG,WH,WI,WJ,WK,WL,WM,WN,WO,WP,WQ,WR,WS,WT,WV,WW,WX,Vb,Vc,Ve,Vf,Vg,Vh,Vr,Vt,Vu,Vw,Vx,Vy,Vz,V5,V6,V8,V9,VA,VB,VE,VF,VG,VH,VI,VK,VL,VM,VN,VO,VP,VQ,VR,VT,VU,VV,VW,VX,VY,Ua,Ub,Uc,Ud,Uf,Ui,Uk,Ul,Um,Ur,Uv,Uw,Ux,U0,U1,U2,U3,U4,U5,U6,U7,U8,UB,UC,UD,UJ,UK,Ta,Tb,Te,Tf,Tg,Th,Tk,Tr,Ts,Tt,Tu,Tv,Tw,Tx,Ty,Tz,T5,T6,T7,T8,TD,Sy,SB,SC,SD,e52,e72]; all_goals tactic => exact rfl))
    · rw [if_neg hw]
      refine .inr ⟨rfl,hc,?_⟩
      have q0 : (rstF l b 0 = 0) = False := eq_false hw
      have hN0 := Nat.two_pow_pos l.ls.length
      have hN : 2 ^ l.ls.length ≤ 2 ^ 10 := Nat.pow_le_pow_right (by omega) hn
      have s1 := shl_one big_u (i := l.ls.length) (by omega)
      have s2 := shl_1 big_u (i := l.ls.length) (by omega)
      have n1 := neg_n l.ls.length
      have w2 : IntKind.u64.wrap (((2 ^ l.ls.length : Nat) : Int) - 1) = ((2 ^ l.ls.length - 1 : Nat) : Int) := by
        rw [show ((2 ^ l.ls.length : Nat) : Int) - 1 = ((2 ^ l.ls.length - 1 : Nat) : Int) by omega]
        exact big_wrap big_u (by omega)
      have pe : Peel l b (2 ^ l.ls.length - 1) 0 0 := by
        refine ⟨by omega,(gdN_iff _).2 fun j hj _ => ?_,?_,by decide,hN0,.inl rfl⟩
        · have := hb j
          rw [dif_zero (by omega) (by omega)]
          intro i hi
          rw [Nat.testBit_two_pow_sub_one]
          by_cases hin : i < l.ls.length
          · exact decide_eq_true hin
          · rw [bit_lt (p.lt j) (by omega)] at hi; simp at hi
        · rw [rest_full ((full_iff (by omega)).2 rfl)]; decide
      have hd0 : headX 0 [2,3,4,7,8,9] (some (.normal,envL [2,3,4,7,8,9] [.nilsl,I 0,.pt 0 0,.int .u64 0,I 0,.pt 3 0],h32 l b (encM es1) (2 ^ l.ls.length - 1))) = some ([.nilsl,I 0,.pt 0 0,.int .u64 0,I 0,.pt 3 0],h32 l b (encM es1) (2 ^ l.ls.length - 1)) := by
        generalize 2 ^ l.ls.length - 1 = N at *
        (sym => (simp [yC_nm,yC_rn,yM_s,yC_gr,yC_sl,yC_fz,yC_len,yC_0,yC_1,yC_2,yC_3,yC_4,yC_15,yC_same,Za,Zb,Zc,Zf,Zg,Zh,Zj,Zl,Zm,Zn,Zu,Zv,Zy,Z2,Z5,ZC,ZD,ZF,ZJ,ZK,ZN,ZO,ZS,ZT,ZY,Ya,Yh,Yj,Ym,Yo,Yp,Yv,Y0,YN,YP,YQ,YR,YU,YX,YZ,Xb,Xd,Xe,Xg,Xj,Xm,Xo,Xp,Xq,Xs,Xu,Xv,Xw,Xy,XI,XJ,XL,XM,Wa,Wc,Wd,We,Wh,Wl,Wn,Wq,Wt,Wy,Wz,W0,W3,W4,W5,W6,W7,W8,W9,WA,WB,WC,WE,WF,WG,WH,WI,WJ,WK,WL,WM,WN,WO,WP,WQ,WR,WS,WT,WV,WW,WX,Vb,Vc,Ve,Vf,Vg,Vh,Vr,Vt,Vu,Vw,Vx,Vy,Vz,V5,V6,V8,V9,VA,VB,VE,VF,VG,VH,VI,VK,VL,VM,VN,VO,VP,VQ,VR,VT,VU,VV,VW,VX,VY,Ua,Ub,Uc,Ud,Uf,Ui,Uk,Ul,Um,Ur,Uv,Uw,Ux,U0,U1,U2,U3,U4,U5,U6,U7,U8,UB,UC,UD,UJ,UK,Ta,Tb,Te,Tf,Tg,Th,Tk,Tr,Ts,Tt,Tu,Tv,Tw,Tx,Ty,Tz,T5,T6,T7,T8,TD,Sy,SB,SC,SD]; all_goals tactic => exact rfl))
      have key : ∃ t : Nat × Nat × Int,Peel l b t.1 t.2.1 t.2.2 ∧ t.1 = 0 ∧ execW progX 32 0 none x32l0 (envL [2,3,4,7,8,9] [.nilsl,I 0,.pt 0 0,.int .u64 0,I 0,.pt 3 0]) (h32 l b (encM es1) (2 ^ l.ls.length - 1)) = execW progX 32 0 none (match x32l0 with | .loop _ a => a | c => c) (envL [2,3,4,7,8,9] [.nilsl,I 0,.pt 0 0,U t.2.1,I t.2.2,.pt 3 0]) (h32 l b (encM es1) t.1) := by
        unfold x32l0
        refine loop_inv (σ := Nat × Nat × Int) (fun t => [.nilsl,I 0,.pt 0 0,U t.2.1,I t.2.2,.pt 3 0]) (fun t => h32 l b (encM es1) t.1) (fun t => Peel l b t.1 t.2.1 t.2.2) (fun t => t.1 = 0) (fun t => t.1) (2 ^ l.ls.length - 1,0,0) hd0 pe ?_
        rintro ⟨a,best,most⟩ q
        dsimp only at q ⊢
        by_cases hz : a = 0
        · subst hz
          refine .inl ⟨?_,rfl⟩
          (sym => (simp [yC_nm,yC_rn,yM_s,yC_gr,yC_sl,yC_fz,yC_len,yC_0,yC_1,yC_2,yC_3,yC_4,yC_15,yC_same,Za,Zb,Zc,Zf,Zg,Zh,Zj,Zl,Zm,Zn,Zu,Zv,Zy,Z2,Z5,ZC,ZD,ZF,ZJ,ZK,ZN,ZO,ZS,ZT,ZY,Ya,Yh,Yj,Ym,Yo,Yp,Yv,Y0,YN,YP,YQ,YR,YU,YX,YZ,Xb,Xd,Xe,Xg,Xj,Xm,Xo,Xp,Xq,Xs,Xu,Xv,Xw,Xy,XI,XJ,XL,XM,Wa,Wc,Wd,We,Wh,Wl,Wn,Wq,Wt,Wy,Wz,W0,W3,W4,W5,W6,W7,W8,W9,WA,WB,WC,WE,WF,WG,WH,WI,WJ,WK,WL,WM,WN,WO,WP,WQ,WR,WS,WT,WV,WW,WX,Vb,Vc,Ve,Vf,Vg,Vh,Vr,Vt,Vu,Vw,Vx,Vy,Vz,V5,V6,V8,V9,VA,VB,VE,VF,VG,VH,VI,VK,VL,VM,VN,VO,VP,VQ,VR,VT,VU,VV,VW,VX,VY,Ua,Ub,Uc,Ud,Uf,Ui,Uk,Ul,Um,Ur,Uv,Uw,Ux,U0,U1,U2,U3,U4,U5,U6,U7,U8,UB,UC,UD,UJ,UK,Ta,Tb,Te,Tf,Tg,Th,Tk,Tr,Ts,Tt,Tu,Tv,Tw,Tx,Ty,Tz,T5,T6,T7,T8,TD,Sy,SB,SC,SD]; all_goals tactic => exact rfl))
        · obtain ⟨k,h1,h2,h3,h4,h5⟩ := pl_of g p q.lt hz
          have hs := q.step g p hz h2 h3 h4 h5
          exact .inr ⟨(dif a (2 ^ k),_,_),hs.1,round32 g p q.lt hz h2 h1,hs.2⟩
      obtain ⟨⟨a,best,most⟩,q,rfl,hrun⟩ := key
      dsimp only at q hrun
      have hm := q.rest
      have hne : best ≠ 0 ∧ shF l b best = most := by
        rcases q.sh with h | h
        · omega
        · exact h
      refine ⟨best,hne.1,q.blt,by omega,wb.2,by omega,?_⟩
      have ha2 := lt_10 q.blt hn
      have e81 := w81 best
      have e85 := w85 ha2
      generalize ofN (el best) = os at *
      generalize 2 ^ l.ls.length - 1 = N at *
      rw [r32 (by simp)]; unfold x32; dsimp only
      sym =>
        simp [yC_nm,yC_rn,yM_s,yC_gr,yC_sl,yC_fz,yC_len,yC_0,yC_1,yC_2,yC_3,yC_4,yC_15,yC_same,Za,Zb,Zc,Zf,Zg,Zh,Zj,Zl,Zm,Zn,Zu,Zv,Zy,Z2,Z5,ZC,ZD,ZF,ZJ,ZK,ZN,ZO,ZS,ZT,ZY,Ya,Yh,Yj,Ym,Yo,Yp,Yv,Y0,YN,YP,YQ,YR,YU,YX,YZ,Xb,Xd,Xe,Xg,Xj,Xm,Xo,Xp,Xq,Xs,Xu,Xv,Xw,Xy,XI,XJ,XL,XM,Wa,Wc,Wd,We,Wh,Wl,Wn,Wq,Wt,Wy,Wz,W0,W3,W4,W5,W6,W7,W8,W9,WA,WB,WC,WE,WF,WG,WH,WI,WJ,WK,WL,WM,WN,WO,WP,WQ,WR,WS,WT,WV,WW,WX,Vb,Vc,Ve,Vf,Vg,Vh,Vr,Vt,Vu,Vw,Vx,Vy,Vz,V5,V6,V8,V9,VA,VB,VE,VF,VG,VH,VI,VK,VL,VM,VN,VO,VP,VQ,VR,VT,VU,VV,VW,VX,VY,Ua,Ub,Uc,Ud,Uf,Ui,Uk,Ul,Um,Ur,Uv,Uw,Ux,U0,U1,U2,U3,U4,U5,U6,U7,U8,UB,UC,UD,UJ,UK,Ta,Tb,Te,Tf,Tg,Th,Tk,Tr,Ts,Tt,Tu,Tv,Tw,Tx,Ty,Tz,T5,T6,T7,T8,TD,Sy,SB,SC,SD,e52,e72,q0,s1,s2,n1,w2]
        tactic =>
          unfold x32l0 at hrun ⊢
          rw [loop_head2 (e' := envL [2,3,4,7,8,9] [.nilsl,I 0,.pt 0 0,.int .u64 0,I 0,.pt 3 0]) (H' := h32 l b (encM es1) N) (by rw [hd0]; (sym => (simp [yC_nm,yC_rn,yM_s,yC_gr,yC_sl,yC_fz,yC_len,yC_0,yC_1,yC_2,yC_3,yC_4,yC_15,yC_same,Za,Zb,Zc,Zf,Zg,Zh,Zj,Zl,Zm,Zn,Zu,Zv,Zy,Z2,Z5,ZC,ZD,ZF,ZJ,ZK,ZN,ZO,ZS,ZT,ZY,Ya,Yh,Yj,Ym,Yo,Yp,Yv,Y0,YN,YP,YQ,YR,YU,YX,YZ,Xb,Xd,Xe,Xg,Xj,Xm,Xo,Xp,Xq,Xs,Xu,Xv,Xw,Xy,XI,XJ,XL,XM,Wa,Wc,Wd,We,Wh,Wl,Wn,Wq,Wt,Wy,Wz,W0,W3,W4,W5,W6,W7,W8,W9,WA,WB,WC,WE,WF,WG,WH,WI,WJ,WK,WL,WM,WN,WO,WP,WQ,WR,WS,WT,WV,WW,WX,Vb,Vc,Ve,Vf,Vg,Vh,Vr,Vt,Vu,Vw,Vx,Vy,Vz,V5,V6,V8,V9,VA,VB,VE,VF,VG,VH,VI,VK,VL,VM,VN,VO,VP,VQ,VR,VT,VU,VV,VW,VX,VY,Ua,Ub,Uc,Ud,Uf,Ui,Uk,Ul,Um,Ur,Uv,Uw,Ux,U0,U1,U2,U3,U4,U5,U6,U7,U8,UB,UC,UD,UJ,UK,Ta,Tb,Te,Tf,Tg,Th,Tk,Tr,Ts,Tt,Tu,Tv,Tw,Tx,Ty,Tz,T5,T6,T7,T8,TD,Sy,SB,SC,SD]; all_goals tactic => exact rfl))),hrun]
          (sym => (simp [yC_nm,yC_rn,yM_s,yC_gr,yC_sl,yC_fz,yC_len,yC_0,yC_1,yC_2,yC_3,yC_4,yC_15,yC_same,Za,Zb,Zc,Zf,Zg,Zh,Zj,Zl,Zm,Zn,Zu,Zv,Zy,Z2,Z5,ZC,ZD,ZF,ZJ,ZK,ZN,ZO,ZS,ZT,ZY,Ya,Yh,Yj,Ym,Yo,Yp,Yv,Y0,YN,YP,YQ,YR,YU,YX,YZ,Xb,Xd,Xe,Xg,Xj,Xm,Xo,Xp,Xq,Xs,Xu,Xv,Xw,Xy,XI,XJ,XL,XM,Wa,Wc,Wd,We,Wh,Wl,Wn,Wq,Wt,Wy,Wz,W0,W3,W4,W5,W6,W7,W8,W9,WA,WB,WC,WE,WF,WG,WH,WI,WJ,WK,WL,WM,WN,WO,WP,WQ,WR,WS,WT,WV,WW,WX,Vb,Vc,Ve,Vf,Vg,Vh,Vr,Vt,Vu,Vw,Vx,Vy,Vz,V5,V6,V8,V9,VA,VB,VE,VF,VG,VH,VI,VK,VL,VM,VN,VO,VP,VQ,VR,VT,VU,VV,VW,VX,VY,Ua,Ub,Uc,Ud,Uf,Ui,Uk,Ul,Um,Ur,Uv,Uw,Ux,U0,U1,U2,U3,U4,U5,U6,U7,U8,UB,UC,UD,UJ,UK,Ta,Tb,Te,Tf,Tg,Th,Tk,Tr,Ts,Tt,Tu,Tv,Tw,Tx,Ty,Tz,T5,T6,T7,T8,TD,Sy,SB,SC,SD,e81,e85]; all_goals tactic => exact rfl))
  · rw [if_neg hc]
    rw [if_neg hc] at e52
    have g := eq_false hc
    refine .inl ⟨hc,?_⟩
    rw [r32 (by simp)]; unfold x32; dsimp only
    (sym => (simp [yC_nm,yC_rn,yM_s,yC_gr,yC_sl,yC_fz,yC_len,yC_0,yC_1,yC_2,yC_3,yC_4,yC_15,yC_same,Za,Zb,Zc,Zf,Zg,Zh,Zj,Zl,Zm,Zn,Zu,Zv,Zy,Z2,Z5,ZC,ZD,ZF,ZJ,ZK,ZN,ZO,ZS,ZT,ZY,Ya,Yh,Yj,Ym,Yo,Yp,Yv,Y0,YN,YP,YQ,YR,YU,YX,YZ,Xb,Xd,Xe,Xg,Xj,Xm,Xo,Xp,Xq,Xs,Xu,Xv,Xw,Xy,XI,XJ,XL,XM,Wa,Wc,Wd,We,Wh,Wl,Wn,Wq,Wt,Wy,Wz,W0,W3,W4,W5,W6,W7,W8,W9,WA,WB,WC,WE,WF,WG,WH,WI,WJ,WK,WL,WM,WN,WO,WP,WQ,WR,WS,WT,WV,WW,WX,Vb,Vc,Ve,Vf,Vg,Vh,Vr,Vt,Vu,Vw,Vx,Vy,Vz,V5,V6,V8,V9,VA,VB,VE,VF,VG,VH,VI,VK,VL,VM,VN,VO,VP,VQ,VR,VT,VU,VV,VW,VX,VY,Ua,Ub,Uc,Ud,Uf,Ui,Uk,Ul,Um,Ur,Uv,Uw,Ux,U0,U1,U2,U3,U4,U5,U6,U7,U8,UB,UC,UD,UJ,UK,Ta,Tb,Te,Tf,Tg,Th,Tk,Tr,Ts,Tt,Tu,Tv,Tw,Tx,Ty,Tz,T5,T6,T7,T8,TD,Sy,SB,SC,SD,e52,g]; all_goals tactic => exact rfl))
end
end Go.Proofs.YtpbeclkpohehgaaDoor
namespace Go.Proofs.YtpbeclkpohehgaaDoor
open Go Go.DL
set_option maxRecDepth 100000
set_option maxHeartbeats 4000000
section
variable {l : Li}
end
end Go.Proofs.YtpbeclkpohehgaaDoor
namespace Go.Proofs.YtpbeclkpohehgaaDoor
open Go Go.DL
set_option maxRecDepth 100000
set_option maxHeartbeats 4000000
theorem el_sorted (a : Nat) : (el a).Pairwise (· < ·) := List.Pairwise.filter _ List.pairwise_lt_range
theorem el_allT {a : Nat} (ha : a < 1024) : allT (ofN (el a)) 0 (ofN (el a)).length = a := by
  apply Nat.eq_of_testBit_eq
  intro x
  apply Bool.eq_iff_iff.2
  rw [allT_bit,Nat.zero_testBit,ofN_len]
  constructor
  · rintro (h | ⟨j,h1,h2⟩)
    · simp at h
    · obtain ⟨v,hv⟩ := at_ix h1
      rw [getD_of (ofN_ix hv),Int.toNat_natCast] at h2
      subst h2
      exact (el_mem.1 (List.mem_of_getElem? hv)).2
  · intro h
    have hx : x < 10 := by
      by_cases hc : x < 10
      · exact hc
      · rw [bit_lt (n := 10) ha (by omega)] at h; simp at h
    obtain ⟨j,hj⟩ := List.getElem?_of_mem (el_mem.2 ⟨hx,h⟩)
    exact .inr ⟨j,lt_of hj,by rw [getD_of (ofN_ix hj),Int.toNat_natCast]⟩
theorem el_vs {a n : Nat} (ha : a < 2 ^ n) (i : Nat) (hi : i < (el a).length) : vsE n (ofN (el a)) i = 0 := by
  obtain ⟨v,hv⟩ := at_ix hi
  have hvn := el_lt ha (List.mem_of_getElem? hv)
  rcases vsE_of (n := n) (ofN_ix hv) with ⟨_,_,_,h⟩ | ⟨_,_,h3,_⟩ | ⟨h1,_⟩
  · exact h
  · exfalso
    have h3 := of_eq_true h3
    cases i with
    | zero =>
      have : prv (ofN (el a)) 0 = -1 := rfl
      omega
    | succ j =>
      obtain ⟨u,hu⟩ := at_ix (l := el a) (i := j) (by omega)
      have e : prv (ofN (el a)) (j + 1) = (u : Int) := getD_of (ofN_ix hu)
      have hp := List.pairwise_iff_getElem.1 (el_sorted a) j (j + 1) (by omega) hi (by omega)
      rw [(List.getElem?_eq_some_iff.1 hu).2,(List.getElem?_eq_some_iff.1 hv).2] at hp
      omega
  · have : btw 0 (v : Int) ((n : Int) - 1) = true := btwF.2 (by omega)
    rw [h1] at this; simp at this
theorem ver_ok {l : Li} (hc : checkL l = 0) {w : Int} (h1 : 1 ≤ w) (h2 : w ≤ 1000000) {a : Nat} (h0 : a ≠ 0) (ha : a < 2 ^ l.ls.length) (hs : w ≤ shF l (behF l.ts) a) : verE l w (ofN (el a)) = 0 := by
  have g := good_of hc
  have ha2 := lt_10 ha g.few
  have hne : (el a).length ≠ 0 := fun hz => h0 ((el_0 a ha2).1 (List.eq_nil_of_length_eq_zero hz))
  unfold verE
  rw [if_pos hc,if_pos (btwF.2 ⟨h1,h2⟩),el_allT ha2,ofN_len,if_neg hne]
  obtain ⟨m,m1,m2,m3⟩ := firstN_ix (vsE l.ls.length (ofN (el a))) (el a).length
  rcases m3 with ⟨_,e⟩ | ⟨m3,m4,_⟩
  · rw [if_pos e,if_neg (by omega)]
  · exact absurd (el_vs ha m m3) m4
end Go.Proofs.YtpbeclkpohehgaaDoor
namespace Go.Proofs.YtpbeclkpohehgaaDoor
open Go Go.DL
set_option maxRecDepth 100000
set_option maxHeartbeats 4000000

theorem w43 (k : List St) (m : Int) (hk : k.length ≤ 8) : runW progX 43 [rS k,I m] [] = some (I (sourF k m),[]) := by
  have z := UZ (n := (k.length : Int))
  have s0 : soN k m 0 = 0 := rfl
  have sf : soN k m k.length = sourF k m := rfl
  have rd : ∀ i,i < k.length → headX 0 [1,5,8,9,10] (execW progX 43 0 none (match x43l0 with | .loop _ a => a | c => c) (envL [1,5,8,9,10] [I m,I (soN k m i),rS k,I k.length,I (i : Nat)]) []) = some ([I m,I (soN k m (i + 1)),rS k,I k.length,I (i + 1 : Nat)],[]) := by
    intro i hi
    obtain ⟨x,hx⟩ := at_ix hi
    have a1 := lt_ix hi
    have a2 := up_ix hi (by omega)
    unfold x43l0
    dsimp only
    rcases soN_up (m := m) hx with ⟨h1,h2⟩ | ⟨h1,h2⟩
    · rw [h2]; (sym => (simp [Za,Zb,Zc,Zf,Zh,Zl,Zm,Zu,Zv,Z2,Z5,Z7,ZD,ZF,ZJ,ZK,ZY,Ya,Yf,Yg,Yi,Yq,Yt,Yu,Yv,Y0,YN,YR,Xb,Xm,Xq,Xy,Wa,We,Wn,Wy,Wz,W0,W3,W4,W5,W6,W7,W8,W9,WH,WL,WM,WN,WO,WP,Vr,V5,V6,V8,V9,VA,VB,VC,VF,VG,VH,VI,VK,VL,VM,VN,VO,VP,VQ,VR,VT,VU,VV,VX,VY,Ua,Ub,Uc,Ud,Ue,Uf,Ui,Ur,Uw,Ux,U0,U1,U2,U3,U4,U5,U6,UB,UC,UD,UZ,Ta,Tb,Tc,Td,Te,Tf,Tg,Th,Tr,Ts,Tt,Tu,Tv,Tw,Tx,Ty,T3,T5,T6,T7,T8,Sy,a1,a2,hx,h1]; all_goals tactic => exact rfl))
    · rw [h2]; (sym => (simp [Za,Zb,Zc,Zf,Zh,Zl,Zm,Zu,Zv,Z2,Z5,Z7,ZD,ZF,ZJ,ZK,ZY,Ya,Yf,Yg,Yi,Yq,Yt,Yu,Yv,Y0,YN,YR,Xb,Xm,Xq,Xy,Wa,We,Wn,Wy,Wz,W0,W3,W4,W5,W6,W7,W8,W9,WH,WL,WM,WN,WO,WP,Vr,V5,V6,V8,V9,VA,VB,VC,VF,VG,VH,VI,VK,VL,VM,VN,VO,VP,VQ,VR,VT,VU,VV,VX,VY,Ua,Ub,Uc,Ud,Ue,Uf,Ui,Ur,Uw,Ux,U0,U1,U2,U3,U4,U5,U6,UB,UC,UD,UZ,Ta,Tb,Tc,Td,Te,Tf,Tg,Th,Tr,Ts,Tt,Tu,Tv,Tw,Tx,Ty,T3,T5,T6,T7,T8,Sy,a1,a2,hx,h1]; all_goals tactic => exact rfl))
  rw [r43 (by simp)]; unfold x43; dsimp only
  sym =>
    simp [Za,Zb,Zc,Zf,Zh,Zl,Zm,Zu,Zv,Z2,Z5,Z7,ZD,ZF,ZJ,ZK,ZY,Ya,Yf,Yg,Yi,Yq,Yt,Yu,Yv,Y0,YN,YR,Xb,Xm,Xq,Xy,Wa,We,Wn,Wy,Wz,W0,W3,W4,W5,W6,W7,W8,W9,WH,WL,WM,WN,WO,WP,Vr,V5,V6,V8,V9,VA,VB,VC,VF,VG,VH,VI,VK,VL,VM,VN,VO,VP,VQ,VR,VT,VU,VV,VX,VY,Ua,Ub,Uc,Ud,Ue,Uf,Ui,Ur,Uw,Ux,U0,U1,U2,U3,U4,U5,U6,UB,UC,UD,UZ,Ta,Tb,Tc,Td,Te,Tf,Tg,Th,Tr,Ts,Tt,Tu,Tv,Tw,Tx,Ty,T3,T5,T6,T7,T8,Sy]
    tactic =>
      unfold x43l0
      rw [loop_rule k.length (fun i => [I m,I (soN k m i),rS k,I k.length,I (i : Nat)]) (fun _ => [])]
      · (sym => (simp [Za,Zb,Zc,Zf,Zh,Zl,Zm,Zu,Zv,Z2,Z5,Z7,ZD,ZF,ZJ,ZK,ZY,Ya,Yf,Yg,Yi,Yq,Yt,Yu,Yv,Y0,YN,YR,Xb,Xm,Xq,Xy,Wa,We,Wn,Wy,Wz,W0,W3,W4,W5,W6,W7,W8,W9,WH,WL,WM,WN,WO,WP,Vr,V5,V6,V8,V9,VA,VB,VC,VF,VG,VH,VI,VK,VL,VM,VN,VO,VP,VQ,VR,VT,VU,VV,VX,VY,Ua,Ub,Uc,Ud,Ue,Uf,Ui,Ur,Uw,Ux,U0,U1,U2,U3,U4,U5,U6,UB,UC,UD,UZ,Ta,Tb,Tc,Td,Te,Tf,Tg,Th,Tr,Ts,Tt,Tu,Tv,Tw,Tx,Ty,T3,T5,T6,T7,T8,Sy,z,sf]; all_goals tactic => exact rfl))
      · (sym => (simp [Za,Zb,Zc,Zf,Zh,Zl,Zm,Zu,Zv,Z2,Z5,Z7,ZD,ZF,ZJ,ZK,ZY,Ya,Yf,Yg,Yi,Yq,Yt,Yu,Yv,Y0,YN,YR,Xb,Xm,Xq,Xy,Wa,We,Wn,Wy,Wz,W0,W3,W4,W5,W6,W7,W8,W9,WH,WL,WM,WN,WO,WP,Vr,V5,V6,V8,V9,VA,VB,VC,VF,VG,VH,VI,VK,VL,VM,VN,VO,VP,VQ,VR,VT,VU,VV,VX,VY,Ua,Ub,Uc,Ud,Ue,Uf,Ui,Ur,Uw,Ux,U0,U1,U2,U3,U4,U5,U6,UB,UC,UD,UZ,Ta,Tb,Tc,Td,Te,Tf,Tg,Th,Tr,Ts,Tt,Tu,Tv,Tw,Tx,Ty,T3,T5,T6,T7,T8,Sy,s0]; all_goals tactic => exact rfl))
      · exact rd
      · (sym => (simp [Za,Zb,Zc,Zf,Zh,Zl,Zm,Zu,Zv,Z2,Z5,Z7,ZD,ZF,ZJ,ZK,ZY,Ya,Yf,Yg,Yi,Yq,Yt,Yu,Yv,Y0,YN,YR,Xb,Xm,Xq,Xy,Wa,We,Wn,Wy,Wz,W0,W3,W4,W5,W6,W7,W8,W9,WH,WL,WM,WN,WO,WP,Vr,V5,V6,V8,V9,VA,VB,VC,VF,VG,VH,VI,VK,VL,VM,VN,VO,VP,VQ,VR,VT,VU,VV,VX,VY,Ua,Ub,Uc,Ud,Ue,Uf,Ui,Ur,Uw,Ux,U0,U1,U2,U3,U4,U5,U6,UB,UC,UD,UZ,Ta,Tb,Tc,Td,Te,Tf,Tg,Th,Tr,Ts,Tt,Tu,Tv,Tw,Tx,Ty,T3,T5,T6,T7,T8,Sy,z]; all_goals tactic => exact rfl))
def msN (l : Li) (o : List Int) : Nat → Int
  | 0 => 0
  | i + 1 => mxI (msN l o i) (soHi l o i)
theorem round41 {l : Li} (g : Good l) {o : List Int} (hl : o.length ≤ 10) (ho : ∀ i,i < o.length → 0 ≤ o.getD i 0 ∧ o.getD i 0 < l.ls.length) {i : Nat} (hi : i < o.length) :
    headX 0 [2,5,6,13,14,15] (execW progX 41 0 none (match x41l0 with | .loop _ a => a | c => c) (envL [2,5,6,13,14,15] [.pt 0 0,I (msN l o i),I (nwH l o i),rI o,I o.length,I (i : Nat)]) (hL l)) =
      some ([.pt 0 0,I (msN l o (i + 1)),I (nwH l o (i + 1)),rI o,I o.length,I (i + 1 : Nat)],hL l) := by
  obtain ⟨v,hv⟩ := at_ix hi
  have hv2 := ho i hi
  have bd1 := nw_bd g ho i (by omega)
  have bd2 := nw_bd g ho (i + 1) (by omega)
  have e4 : nwH l o (i + 1) = nwH l o i + (ldAt l v).ch := by rw [nwH,getD_of hv]
  have e6 : soHi l o i = sourF (knAt l (ldAt l v)) ((ldAt l v).ah + nwH l o (i + 1)) := by rw [soHi,getD_of hv]
  rw [getD_of hv] at hv2
  have hfew := g.few
  obtain ⟨x,k,h1,h2,h3,h4,h5,h6,h7,h8⟩ := g.ld hv2
  rw [h2] at e4 e6
  rw [h5] at e6
  have w2 := w43 k (x.ah + nwH l o (i + 1)) h6
  rw [← e6] at w2
  have a1 := lt_ix hi
  have a2 := up_ix hi (by omega)
  have c1 : (0 ≤ v) = True := eq_true (by omega)
  have c2 : (v < (l.ls.length : Int)) = True := eq_true (by omega)
  have c3 : (0 ≤ x.k) = True := eq_true (by omega)
  have c4 : (x.k < (l.ks.length : Int)) = True := eq_true (by omega)
  have q2 : IntKind.i64.wrap (nwH l o i + x.ch) = nwH l o (i + 1) := by rw [← e4]; exact wrap_ok (by omega) (by omega)
  have q4 : IntKind.i64.wrap (x.ah + nwH l o (i + 1)) = x.ah + nwH l o (i + 1) := wrap_ok (by omega) (by omega)
  rw [msN]
  unfold mxI
  clear e4 e6 h5 h2
  generalize nwH l o (i + 1) = nh at *
  generalize soHi l o i = sh at *
  generalize msN l o i = mv at *
  unfold x41l0
  dsimp only
  (sym => (simp [Za,Zb,Zc,Ze,Zf,Zh,Zi,Zl,Zm,Zu,Zv,Z2,Z5,Z7,ZE,ZF,ZG,ZH,ZI,ZJ,ZK,ZL,ZP,ZQ,ZS,ZT,ZY,Yf,Yg,Yi,Yq,Yu,Yv,YC,YN,YR,YU,Xb,Xm,Xq,Xs,Wn,Wy,Wz,W0,W3,W4,W5,W6,W7,W9,WA,WE,WF,WH,WI,WJ,WK,WL,WM,WN,WO,WP,WQ,WR,WS,WV,WW,Vb,Ve,Vf,Vg,Vi,Vk,Vm,VL,VM,VN,VO,VP,VU,VV,VW,VX,VY,Ua,Ub,Uc,Ud,Ue,Uf,Ui,Um,Un,Uo,Ur,Uv,Uw,Uy,Uz,U0,U1,U2,U3,U4,U5,U6,UD,Ta,Tb,Tc,Td,Te,Tf,Tg,Th,Tr,Ts,Tu,Tw,Tx,T3,T6,T7,T8,TD,a1,a2,hv,h1,h4,c1,c2,c3,c4,q2,q4,w2]; all_goals tactic => exact rfl))
theorem w41 {l : Li} (g : Good l) {o : List Int} (hl : o.length ≤ 10) (ho : ∀ i,i < o.length → 0 ≤ o.getD i 0 ∧ o.getD i 0 < l.ls.length) : runW progX 41 [.agg l.c,rI o] [] = some (I (msN l o o.length),[]) := by
  have z := UZ (n := (o.length : Int))
  have s0 : msN l o 0 = 0 := rfl
  have s3 : nwH l o 0 = l.hi := rfl
  rw [r41 (by simp)]; unfold x41; dsimp only
  sym =>
    simp [Za,Zb,Zf,Zh,Zi,Zl,Zm,Zn,Zu,Zy,Z2,Z5,ZD,ZG,ZI,ZY,Ya,Yq,Y0,YN,YR,YU,Xb,Xd,Xe,Xm,Xq,Xs,Xy,Wa,Wc,We,Wn,Wy,Wz,W0,W8,W9,WA,WE,WF,WH,WI,WJ,WL,WN,WO,WP,WQ,WV,WW,Vb,Vr,V5,V6,V8,V9,VA,VB,VC,VF,VG,VH,VI,VK,VL,VM,VN,VO,VQ,VR,VT,VU,VV,VX,VY,Ua,Uc,Ud,Uf,Ui,Uv,Ux,U1,U2,U3,U4,U5,U6,UB,UC,UJ,UK,UZ,Ta,Tb,Tf,Tk,Tr,Ts,Tt,Tv,Tw,Tx,Ty,T5,T6,T7,T8,TD,Sy]
    tactic =>
      unfold x41l0
      rw [loop_rule o.length (fun i => [.pt 0 0,I (msN l o i),I (nwH l o i),rI o,I o.length,I (i : Nat)]) (fun _ => hL l)]
      · (sym => (simp [Za,Zb,Zf,Zh,Zi,Zl,Zm,Zn,Zu,Zy,Z2,Z5,ZD,ZG,ZI,ZY,Ya,Yq,Y0,YN,YR,YU,Xb,Xd,Xe,Xm,Xq,Xs,Xy,Wa,Wc,We,Wn,Wy,Wz,W0,W8,W9,WA,WE,WF,WH,WI,WJ,WL,WN,WO,WP,WQ,WV,WW,Vb,Vr,V5,V6,V8,V9,VA,VB,VC,VF,VG,VH,VI,VK,VL,VM,VN,VO,VQ,VR,VT,VU,VV,VX,VY,Ua,Uc,Ud,Uf,Ui,Uv,Ux,U1,U2,U3,U4,U5,U6,UB,UC,UJ,UK,UZ,Ta,Tb,Tf,Tk,Tr,Ts,Tt,Tv,Tw,Tx,Ty,T5,T6,T7,T8,TD,Sy,z]; all_goals tactic => exact rfl))
      · (sym => (simp [Za,Zb,Zf,Zh,Zi,Zl,Zm,Zn,Zu,Zy,Z2,Z5,ZD,ZG,ZI,ZY,Ya,Yq,Y0,YN,YR,YU,Xb,Xd,Xe,Xm,Xq,Xs,Xy,Wa,Wc,We,Wn,Wy,Wz,W0,W8,W9,WA,WE,WF,WH,WI,WJ,WL,WN,WO,WP,WQ,WV,WW,Vb,Vr,V5,V6,V8,V9,VA,VB,VC,VF,VG,VH,VI,VK,VL,VM,VN,VO,VQ,VR,VT,VU,VV,VX,VY,Ua,Uc,Ud,Uf,Ui,Uv,Ux,U1,U2,U3,U4,U5,U6,UB,UC,UJ,UK,UZ,Ta,Tb,Tf,Tk,Tr,Ts,Tt,Tv,Tw,Tx,Ty,T5,T6,T7,T8,TD,Sy,s0,s3]; all_goals tactic => exact rfl))
      · exact fun i hi => round41 g hl ho hi
      · (sym => (simp [Za,Zb,Zf,Zh,Zi,Zl,Zm,Zn,Zu,Zy,Z2,Z5,ZD,ZG,ZI,ZY,Ya,Yq,Y0,YN,YR,YU,Xb,Xd,Xe,Xm,Xq,Xs,Xy,Wa,Wc,We,Wn,Wy,Wz,W0,W8,W9,WA,WE,WF,WH,WI,WJ,WL,WN,WO,WP,WQ,WV,WW,Vb,Vr,V5,V6,V8,V9,VA,VB,VC,VF,VG,VH,VI,VK,VL,VM,VN,VO,VQ,VR,VT,VU,VV,VX,VY,Ua,Uc,Ud,Uf,Ui,Uv,Ux,U1,U2,U3,U4,U5,U6,UB,UC,UJ,UK,UZ,Ta,Tb,Tf,Tk,Tr,Ts,Tt,Tv,Tw,Tx,Ty,T5,T6,T7,T8,TD,Sy,z]; all_goals tactic => exact rfl))
def metN (t : List Int) (ah : Int) : Nat → Bool
  | 0 => false
  | i + 1 => metN t ah i || decide (t.getD i 0 = ah)
def hitN (t : List Int) (bh ah : Int) (i : Nat) : Bool := decide (t.getD i 0 = bh) && metN t ah i
def hitT (t : List Int) (bh ah : Int) : Bool := (List.range t.length).any (hitN t bh ah)
def stdF (T : List (List Int)) (bh ah : Int) : Bool := (List.range T.length).any fun j => hitT (T.getD j []) bh ah
theorem any_ix (P : Nat → Bool) (n : Nat) : ∃ m,m ≤ n ∧ (∀ i,i < m → P i = false) ∧ ((m = n ∧ (List.range n).any P = false) ∨ (m < n ∧ P m = true ∧ (List.range n).any P = true)) := by
  obtain ⟨m,m1,m2,m3⟩ := firstN_ix (fun i => if P i = true then 1 else 0) n
  have h2 : ∀ i,i < m → P i = false := fun i hi => by
    have := m2 i hi
    cases hP : P i with
    | false => rfl
    | true => simp [hP] at this
  refine ⟨m,m1,h2,?_⟩
  rcases m3 with ⟨rfl,_⟩ | ⟨m3,m4,_⟩
  · refine .inl ⟨rfl,?_⟩
    rw [List.any_eq_false]
    intro i hi
    rw [h2 i (List.mem_range.1 hi)]
    simp
  · have : P m = true := by
      cases hP : P m with
      | true => rfl
      | false => simp [hP] at m4
    exact .inr ⟨m3,this,List.any_eq_true.2 ⟨m,List.mem_range.2 m3,this⟩⟩
theorem met_iff {t : List Int} {ah : Int} : ∀ i,(metN t ah i = true ↔ ∃ j,j < i ∧ t.getD j 0 = ah)
  | 0 => ⟨fun h => by simp [metN] at h,fun ⟨j,hj,_⟩ => by omega⟩
  | i + 1 => by
    rw [metN,Bool.or_eq_true,met_iff i,decide_eq_true_iff]
    constructor
    · rintro (⟨j,h1,h2⟩ | h)
      · exact ⟨j,by omega,h2⟩
      · exact ⟨i,by omega,h⟩
    · rintro ⟨j,h1,h2⟩
      by_cases hj : j = i
      · subst hj; exact .inr h2
      · exact .inl ⟨j,by omega,h2⟩
section
variable {l : Li}
theorem round92i {t : List Int} {j : Nat} {bh ah : Int} {i : Nat} (hi : i < t.length) (hl : t.length ≤ 9223372036854775807) (h : hitN t bh ah i = false) :
    headX 0 [1,2,9,13,14,15,19,20,21] (execW progX 92 0 none (match x92l0 with | .loop _ a => a | c => c) (envL [1,2,9,13,14,15,19,20,21] [I bh,I ah,.bool (metN t ah i),tR l.ts,I l.ts.length,I (j : Nat),rI t,I t.length,I (i : Nat)]) []) =
      some ([I bh,I ah,.bool (metN t ah (i + 1)),tR l.ts,I l.ts.length,I (j : Nat),rI t,I t.length,I (i + 1 : Nat)],[]) := by
  obtain ⟨v,hv⟩ := at_ix hi
  have a1 := lt_ix hi
  have a2 := up_ix hi (by omega)
  unfold hitN at h
  rw [metN]
  rw [getD_of hv] at h ⊢
  unfold x92l0
  dsimp only
  cases hm : metN t ah i with
  | false =>
    rcases ptf (v = ah) with h2 | h2
    · rw [decide_eq_true (of_eq_true h2)]
      rcases ptf (v = bh) with h1 | h1
      · (sym => (simp [Za,Zb,Zf,Zh,Zl,Zm,Zo,Zp,Zq,Zr,Zs,Zu,Zx,Z2,Z7,ZF,ZU,ZV,Yf,Yg,Yi,Yo,Yq,Yu,Yv,YN,YO,YR,Xm,Xn,Xq,W9,WH,WL,WM,WO,WP,VL,VM,VN,VO,VP,VQ,VU,VV,VY,Ua,Ub,Uc,Ud,Ue,Uf,Un,Uo,Uq,Ur,Uw,Ux,U0,U1,U2,U3,U4,Tc,Td,Tf,Tr,Ts,Tu,Tw,Tx,T3,T6,T7,T8,a1,a2,hv,h1,h2]; all_goals tactic => exact rfl))
      · (sym => (simp [Za,Zb,Zf,Zh,Zl,Zm,Zo,Zp,Zq,Zr,Zs,Zu,Zx,Z2,Z7,ZF,ZU,ZV,Yf,Yg,Yi,Yo,Yq,Yu,Yv,YN,YO,YR,Xm,Xn,Xq,W9,WH,WL,WM,WO,WP,VL,VM,VN,VO,VP,VQ,VU,VV,VY,Ua,Ub,Uc,Ud,Ue,Uf,Un,Uo,Uq,Ur,Uw,Ux,U0,U1,U2,U3,U4,Tc,Td,Tf,Tr,Ts,Tu,Tw,Tx,T3,T6,T7,T8,a1,a2,hv,h1,h2]; all_goals tactic => exact rfl))
    · rw [decide_eq_false (of_eq_false h2)]
      rcases ptf (v = bh) with h1 | h1
      · (sym => (simp [Za,Zb,Zf,Zh,Zl,Zm,Zo,Zp,Zq,Zr,Zs,Zu,Zx,Z2,Z7,ZF,ZU,ZV,Yf,Yg,Yi,Yo,Yq,Yu,Yv,YN,YO,YR,Xm,Xn,Xq,W9,WH,WL,WM,WO,WP,VL,VM,VN,VO,VP,VQ,VU,VV,VY,Ua,Ub,Uc,Ud,Ue,Uf,Un,Uo,Uq,Ur,Uw,Ux,U0,U1,U2,U3,U4,Tc,Td,Tf,Tr,Ts,Tu,Tw,Tx,T3,T6,T7,T8,a1,a2,hv,h1,h2]; all_goals tactic => exact rfl))
      · (sym => (simp [Za,Zb,Zf,Zh,Zl,Zm,Zo,Zp,Zq,Zr,Zs,Zu,Zx,Z2,Z7,ZF,ZU,ZV,Yf,Yg,Yi,Yo,Yq,Yu,Yv,YN,YO,YR,Xm,Xn,Xq,W9,WH,WL,WM,WO,WP,VL,VM,VN,VO,VP,VQ,VU,VV,VY,Ua,Ub,Uc,Ud,Ue,Uf,Un,Uo,Uq,Ur,Uw,Ux,U0,U1,U2,U3,U4,Tc,Td,Tf,Tr,Ts,Tu,Tw,Tx,T3,T6,T7,T8,a1,a2,hv,h1,h2]; all_goals tactic => exact rfl))
  | true =>
    rw [hm] at h
    have h1 : (v = bh) = False := eq_false (by simpa using h)
    (sym => (simp [Za,Zb,Zf,Zh,Zl,Zm,Zo,Zp,Zq,Zr,Zs,Zu,Zx,Z2,Z7,ZF,ZU,ZV,Yf,Yg,Yi,Yo,Yq,Yu,Yv,YN,YO,YR,Xm,Xn,Xq,W9,WH,WL,WM,WO,WP,VL,VM,VN,VO,VP,VQ,VU,VV,VY,Ua,Ub,Uc,Ud,Ue,Uf,Un,Uo,Uq,Ur,Uw,Ux,U0,U1,U2,U3,U4,Tc,Td,Tf,Tr,Ts,Tu,Tw,Tx,T3,T6,T7,T8,a1,a2,hv,h1]; all_goals tactic => exact rfl))
theorem left92i {t : List Int} {j : Nat} {bh ah : Int} {i : Nat} (hi : i < t.length) (h : hitN t bh ah i = true) :
    ∃ e,execW progX 92 0 none (match x92l0 with | .loop _ a => a | c => c) (envL [1,2,9,13,14,15,19,20,21] [I bh,I ah,.bool (metN t ah i),tR l.ts,I l.ts.length,I (j : Nat),rI t,I t.length,I (i : Nat)]) [] = some (.ret,e,[]) ∧ e 6 = .bool true := by
  obtain ⟨v,hv⟩ := at_ix hi
  have a1 := lt_ix hi
  unfold hitN at h
  rw [getD_of hv,Bool.and_eq_true,decide_eq_true_iff] at h
  have h1 := eq_true h.1
  rw [h.2]
  unfold x92l0
  dsimp only
  sym =>
    simp [Za,Zb,Zf,Zh,Zl,Zm,Zo,Zp,Zu,Zx,Z2,Z7,ZF,ZU,Yf,Yg,Yo,Yq,Yu,Yv,W9,VL,VO,VP,Ub,Uc,Ud,Ue,Uf,Ur,Uw,Tc,Td,Tf,Tr,Ts,Tt,Tu,Tw,Tx,Tz,T4,T7,T8,a1,hv,h1]
    tactic => exact ⟨_,rfl,rfl⟩
end
end Go.Proofs.YtpbeclkpohehgaaDoor
namespace Go.Proofs.YtpbeclkpohehgaaDoor
open Go Go.DL
set_option maxRecDepth 100000
set_option maxHeartbeats 4000000
section
variable {l : Li}
theorem round92 {bh ah : Int} {j : Nat} {t : List Int} (ht : l.ts[j]? = some t) (hT : l.ts.length ≤ 9223372036854775807) (hl : t.length ≤ 9223372036854775807) (h : hitT t bh ah = false) :
    headX 0 [1,2,13,14,15] (execW progX 92 0 none (match x92l1 with | .loop _ a => a | c => c) (envL [1,2,13,14,15] [I bh,I ah,tR l.ts,I l.ts.length,I (j : Nat)]) []) =
      some ([I bh,I ah,tR l.ts,I l.ts.length,I (j + 1 : Nat)],[]) := by
  have a1 := lt_ix (lt_of ht)
  have a2 := up_ix (lt_of ht) hT
  have z := UZ (n := (t.length : Int))
  have m0 : metN t ah 0 = false := rfl
  have hn : ∀ i,i < t.length → hitN t bh ah i = false := fun i hi => by
    have := List.any_eq_false.1 h i (List.mem_range.2 hi)
    simpa using this
  unfold x92l1
  dsimp only
  sym =>
    simp [Za,Zb,Zf,Zh,Zl,Zm,Zu,Z2,Z7,ZD,ZF,Ya,Yf,Yg,Yi,Yq,Yu,Yv,Y0,YN,YO,YR,Xm,Xn,Xq,W9,WH,WL,WM,WO,WP,VL,VM,VN,VO,VP,VQ,VR,VU,VV,VY,Ua,Ub,Uc,Ud,Ue,Uf,Ur,Uw,Ux,U0,U1,U2,U3,U4,UZ,Tc,Td,Tf,Tr,Ts,Tu,Tv,Tw,Tx,Ty,T3,T5,T6,T7,T8,a1,ht]
    tactic =>
      unfold x92l0
      rw [loop_rule t.length (fun i => [I bh,I ah,.bool (metN t ah i),tR l.ts,I l.ts.length,I (j : Nat),rI t,I t.length,I (i : Nat)]) (fun _ => [])]
      · (sym => (simp [Za,Zb,Zf,Zh,Zl,Zm,Zu,Z2,Z7,ZD,ZF,Ya,Yf,Yg,Yi,Yq,Yu,Yv,Y0,YN,YO,YR,Xm,Xn,Xq,W9,WH,WL,WM,WO,WP,VL,VM,VN,VO,VP,VQ,VR,VU,VV,VY,Ua,Ub,Uc,Ud,Ue,Uf,Ur,Uw,Ux,U0,U1,U2,U3,U4,UZ,Tc,Td,Tf,Tr,Ts,Tu,Tv,Tw,Tx,Ty,T3,T5,T6,T7,T8,z,a2]; all_goals tactic => exact rfl))
      · (sym => (simp [Za,Zb,Zf,Zh,Zl,Zm,Zu,Z2,Z7,ZD,ZF,Ya,Yf,Yg,Yi,Yq,Yu,Yv,Y0,YN,YO,YR,Xm,Xn,Xq,W9,WH,WL,WM,WO,WP,VL,VM,VN,VO,VP,VQ,VR,VU,VV,VY,Ua,Ub,Uc,Ud,Ue,Uf,Ur,Uw,Ux,U0,U1,U2,U3,U4,UZ,Tc,Td,Tf,Tr,Ts,Tu,Tv,Tw,Tx,Ty,T3,T5,T6,T7,T8,m0]; all_goals tactic => exact rfl))
      · exact fun i hi => round92i hi hl (hn i hi)
      · (sym => (simp [Za,Zb,Zf,Zh,Zl,Zm,Zu,Z2,Z7,ZD,ZF,Ya,Yf,Yg,Yi,Yq,Yu,Yv,Y0,YN,YO,YR,Xm,Xn,Xq,W9,WH,WL,WM,WO,WP,VL,VM,VN,VO,VP,VQ,VR,VU,VV,VY,Ua,Ub,Uc,Ud,Ue,Uf,Ur,Uw,Ux,U0,U1,U2,U3,U4,UZ,Tc,Td,Tf,Tr,Ts,Tu,Tv,Tw,Tx,Ty,T3,T5,T6,T7,T8,z]; all_goals tactic => exact rfl))
theorem left92 {bh ah : Int} {j : Nat} {t : List Int} (ht : l.ts[j]? = some t) (hl : t.length ≤ 9223372036854775807) (h : hitT t bh ah = true) :
    ∃ e,execW progX 92 0 none (match x92l1 with | .loop _ a => a | c => c) (envL [1,2,13,14,15] [I bh,I ah,tR l.ts,I l.ts.length,I (j : Nat)]) [] = some (.ret,e,[]) ∧ e 6 = .bool true := by
  have a1 := lt_ix (lt_of ht)
  have m0 : metN t ah 0 = false := rfl
  obtain ⟨m,m1,m2,m3⟩ := any_ix (hitN t bh ah) t.length
  have hm : m < t.length ∧ hitN t bh ah m = true := by
    rcases m3 with ⟨_,h2⟩ | ⟨h1,h2,_⟩
    · unfold hitT at h; rw [h] at h2; simp at h2
    · exact ⟨h1,h2⟩
  obtain ⟨e,he,h6⟩ := left92i (l := l) (j := j) hm.1 hm.2
  refine ⟨e,?_,h6⟩
  unfold x92l1
  dsimp only
  sym =>
    simp [Za,Zb,Zf,Zh,Zl,Zm,Zu,Z2,Z7,ZD,ZF,Ya,Yf,Yg,Yq,Yu,Yv,W9,VL,VO,VP,Ub,Uc,Ud,Ue,Uf,Ur,Uw,Tc,Td,Tf,Tr,Ts,Tu,Tw,Tx,T7,T8,a1,ht]
    tactic =>
      unfold x92l0 at he ⊢
      dsimp only at he
      rw [loop_rule m (fun i => [I bh,I ah,.bool (metN t ah i),tR l.ts,I l.ts.length,I (j : Nat),rI t,I t.length,I (i : Nat)]) (fun _ => [])]
      · rw [he]; rfl
      · (sym => (simp [Za,Zb,Zf,Zh,Zl,Zm,Zu,Z2,Z7,ZD,ZF,Ya,Yf,Yg,Yq,Yu,Yv,W9,VL,VO,VP,Ub,Uc,Ud,Ue,Uf,Ur,Uw,Tc,Td,Tf,Tr,Ts,Tu,Tw,Tx,T7,T8,m0]; all_goals tactic => exact rfl))
      · exact fun i hi => round92i (by omega) hl (m2 i hi)
      · rw [he]; rfl
theorem w92 (hf : l.Fit) (bh ah : Int) : runW progX 92 [.agg l.c,I bh,I ah] [] = some (.bool (stdF l.ts bh ah),[]) := by
  have z := UZ (n := (l.ts.length : Int))
  obtain ⟨m,m1,m2,m3⟩ := any_ix (fun j => hitT (l.ts.getD j []) bh ah) l.ts.length
  have rd : ∀ j,j < m → headX 0 [1,2,13,14,15] (execW progX 92 0 none (match x92l1 with | .loop _ a => a | c => c) (envL [1,2,13,14,15] [I bh,I ah,tR l.ts,I l.ts.length,I (j : Nat)]) []) =
      some ([I bh,I ah,tR l.ts,I l.ts.length,I (j + 1 : Nat)],[]) := fun j hj => by
    obtain ⟨t,ht⟩ := at_ix (l := l.ts) (i := j) (by omega)
    have := m2 j hj
    rw [getD_of ht] at this
    exact round92 ht hf.ts (hf.each t (List.mem_of_getElem? ht)) this
  unfold stdF
  rw [r92 (by simp)]; unfold x92; dsimp only
  rcases m3 with ⟨rfl,e⟩ | ⟨m3,m4,e⟩
  · rw [e]
    sym =>
      simp [Za,Zb,Zf,Zh,Zl,Zm,Zn,Zu,Zy,Z2,Z5,ZD,ZF,ZY,Ya,Yq,Y0,YN,YO,YR,Xb,Xd,Xe,Xm,Xn,Xq,Xz,Wa,Wb,Wc,We,Wn,Wy,Wz,W0,W8,W9,WH,WL,WM,WN,WO,WP,Vr,V5,V6,V8,V9,VA,VB,VC,VF,VG,VH,VI,VK,VL,VM,VN,VO,VQ,VR,VT,VU,VV,VX,VY,Ua,Uc,Ud,Ui,Ux,U0,U1,U2,U3,U4,U5,U6,UB,UC,UJ,UK,UZ,Ta,Tb,Tf,Tk,Tr,Ts,Tt,Tv,Tw,Tx,Ty,Tz,T4,T5,T6,T7,T8,Sy]
      tactic =>
        unfold x92l1
        rw [loop_rule l.ts.length (fun j => [I bh,I ah,tR l.ts,I l.ts.length,I (j : Nat)]) (fun _ => [])]
        · (sym => (simp [Za,Zb,Zf,Zh,Zl,Zm,Zn,Zu,Zy,Z2,Z5,ZD,ZF,ZY,Ya,Yq,Y0,YN,YO,YR,Xb,Xd,Xe,Xm,Xn,Xq,Xz,Wa,Wb,Wc,We,Wn,Wy,Wz,W0,W8,W9,WH,WL,WM,WN,WO,WP,Vr,V5,V6,V8,V9,VA,VB,VC,VF,VG,VH,VI,VK,VL,VM,VN,VO,VQ,VR,VT,VU,VV,VX,VY,Ua,Uc,Ud,Ui,Ux,U0,U1,U2,U3,U4,U5,U6,UB,UC,UJ,UK,UZ,Ta,Tb,Tf,Tk,Tr,Ts,Tt,Tv,Tw,Tx,Ty,Tz,T4,T5,T6,T7,T8,Sy,z]; all_goals tactic => exact rfl))
        · (sym => (simp [Za,Zb,Zf,Zh,Zl,Zm,Zn,Zu,Zy,Z2,Z5,ZD,ZF,ZY,Ya,Yq,Y0,YN,YO,YR,Xb,Xd,Xe,Xm,Xn,Xq,Xz,Wa,Wb,Wc,We,Wn,Wy,Wz,W0,W8,W9,WH,WL,WM,WN,WO,WP,Vr,V5,V6,V8,V9,VA,VB,VC,VF,VG,VH,VI,VK,VL,VM,VN,VO,VQ,VR,VT,VU,VV,VX,VY,Ua,Uc,Ud,Ui,Ux,U0,U1,U2,U3,U4,U5,U6,UB,UC,UJ,UK,UZ,Ta,Tb,Tf,Tk,Tr,Ts,Tt,Tv,Tw,Tx,Ty,Tz,T4,T5,T6,T7,T8,Sy]; all_goals tactic => exact rfl))
        · exact rd
        · (sym => (simp [Za,Zb,Zf,Zh,Zl,Zm,Zn,Zu,Zy,Z2,Z5,ZD,ZF,ZY,Ya,Yq,Y0,YN,YO,YR,Xb,Xd,Xe,Xm,Xn,Xq,Xz,Wa,Wb,Wc,We,Wn,Wy,Wz,W0,W8,W9,WH,WL,WM,WN,WO,WP,Vr,V5,V6,V8,V9,VA,VB,VC,VF,VG,VH,VI,VK,VL,VM,VN,VO,VQ,VR,VT,VU,VV,VX,VY,Ua,Uc,Ud,Ui,Ux,U0,U1,U2,U3,U4,U5,U6,UB,UC,UJ,UK,UZ,Ta,Tb,Tf,Tk,Tr,Ts,Tt,Tv,Tw,Tx,Ty,Tz,T4,T5,T6,T7,T8,Sy,z]; all_goals tactic => exact rfl))
  · rw [e]
    obtain ⟨t,ht⟩ := at_ix m3
    rw [getD_of ht] at m4
    obtain ⟨eo,he,h6⟩ := left92 ht (hf.each t (List.mem_of_getElem? ht)) m4
    sym =>
      simp [Za,Zb,Zf,Zh,Zl,Zm,Zn,Zu,Zy,Z2,Z5,ZD,ZF,ZY,Ya,Yq,Y0,YN,YO,YR,Xb,Xd,Xe,Xm,Xn,Xq,Xz,Wa,Wb,Wc,We,Wn,Wy,Wz,W0,W8,W9,WH,WL,WM,WN,WO,WP,Vr,V5,V6,V8,V9,VA,VB,VC,VF,VG,VH,VI,VK,VL,VM,VN,VO,VQ,VR,VT,VU,VV,VX,VY,Ua,Uc,Ud,Ui,Ux,U0,U1,U2,U3,U4,U5,U6,UB,UC,UJ,UK,UZ,Ta,Tb,Tf,Tk,Tr,Ts,Tt,Tv,Tw,Tx,Ty,Tz,T4,T5,T6,T7,T8,Sy]
      tactic =>
        unfold x92l1 at he ⊢
        dsimp only at he
        rw [loop_rule m (fun j => [I bh,I ah,tR l.ts,I l.ts.length,I (j : Nat)]) (fun _ => [])]
        · rw [he]
          (sym => (simp [Za,Zb,Zf,Zh,Zl,Zm,Zn,Zu,Zy,Z2,Z5,ZD,ZF,ZY,Ya,Yq,Y0,YN,YO,YR,Xb,Xd,Xe,Xm,Xn,Xq,Xz,Wa,Wb,Wc,We,Wn,Wy,Wz,W0,W8,W9,WH,WL,WM,WN,WO,WP,Vr,V5,V6,V8,V9,VA,VB,VC,VF,VG,VH,VI,VK,VL,VM,VN,VO,VQ,VR,VT,VU,VV,VX,VY,Ua,Uc,Ud,Ui,Ux,U0,U1,U2,U3,U4,U5,U6,UB,UC,UJ,UK,UZ,Ta,Tb,Tf,Tk,Tr,Ts,Tt,Tv,Tw,Tx,Ty,Tz,T4,T5,T6,T7,T8,Sy,h6]; all_goals tactic => exact rfl))
        · (sym => (simp [Za,Zb,Zf,Zh,Zl,Zm,Zn,Zu,Zy,Z2,Z5,ZD,ZF,ZY,Ya,Yq,Y0,YN,YO,YR,Xb,Xd,Xe,Xm,Xn,Xq,Xz,Wa,Wb,Wc,We,Wn,Wy,Wz,W0,W8,W9,WH,WL,WM,WN,WO,WP,Vr,V5,V6,V8,V9,VA,VB,VC,VF,VG,VH,VI,VK,VL,VM,VN,VO,VQ,VR,VT,VU,VV,VX,VY,Ua,Uc,Ud,Ui,Ux,U0,U1,U2,U3,U4,U5,U6,UB,UC,UJ,UK,UZ,Ta,Tb,Tf,Tk,Tr,Ts,Tt,Tv,Tw,Tx,Ty,Tz,T4,T5,T6,T7,T8,Sy]; all_goals tactic => exact rfl))
        · exact rd
        · rw [he]; rfl
end
theorem std_beh {l : Li} (g : Good l) (k j : Nat) : stdF l.ts (k : Int) (j : Int) = (behF l.ts k).testBit j := by
  apply Bool.eq_iff_iff.2
  unfold stdF hitT hitN
  constructor
  · intro h
    obtain ⟨T,hT,h⟩ := List.any_eq_true.1 h
    obtain ⟨i,hi,h⟩ := List.any_eq_true.1 h
    rw [List.mem_range] at hT hi
    rw [Bool.and_eq_true,decide_eq_true_iff,met_iff] at h
    obtain ⟨h1,i',h2,h3⟩ := h
    have e : behF l.ts k = allT (l.ts.getD T []) 0 i := by
      have := beh_at g _ (Nat.le_refl _) T i hT hi
      rw [plc,h1,Int.toNat_natCast] at this
      exact this
    rw [e,allT_bit]
    exact .inr ⟨i',h2,by rw [h3,Int.toNat_natCast]⟩
  · intro h
    rcases bA_occ (T := l.ts) (x := k) l.ts.length with h0 | ⟨T,hT,i,hi,h1⟩
    · unfold behF at h
      rw [h0,Nat.zero_testBit] at h; simp at h
    · have e := beh_at g _ (Nat.le_refl _) T i hT hi
      rw [h1] at e
      unfold behF at h
      rw [e,allT_bit,Nat.zero_testBit] at h
      rcases h with h | ⟨i',h2,h3⟩
      · simp at h
      · have r1 := (g.fresh hT hi).1
        have r2 := (g.fresh hT (i := i') (by omega)).1
        refine List.any_eq_true.2 ⟨T,List.mem_range.2 hT,List.any_eq_true.2 ⟨i,List.mem_range.2 hi,?_⟩⟩
        rw [Bool.and_eq_true,decide_eq_true_iff,met_iff]
        unfold plc at h1
        exact ⟨by omega,i',h2,by omega⟩
end Go.Proofs.YtpbeclkpohehgaaDoor
namespace Go.Proofs.YtpbeclkpohehgaaDoor
open Go Go.DL
set_option maxRecDepth 100000
set_option maxHeartbeats 4000000

theorem loopU {D : Nat → Option XFn} {K k : Nat} {rd : Option Nat} {L : List Nat} {a : XCode} {e : Env} {h : XH} : execW D K k rd (.loop L a) e h = thenX (execW D K k rd a (envL L (canonL k L e h)) (canonH k L e h)) (execW D K k rd (.loop L a)) := execW_loop
def tmZ (a b : Int) : Int := Int.tmod a b
def tdZ (a b : Int) : Int := Int.tdiv a b
def remI (z : Bool) (k : IntKind) (v : Int) : Option AV := if z then none else some (.int k v)
theorem remF (k : IntKind) (v : Int) : remI false k v = some (.int k v) := rfl
theorem irem2 {k : IntKind} {a b : Int} : intA .rem k a k b = remI (decide (b = 0)) k (tmZ a b) := by
  by_cases h : b = 0 <;> simp [intA,remI,h,tmZ]
theorem iquo2 {k : IntKind} {a b : Int} : intA .quo k a k b = remI (decide (b = 0)) k (k.wrap (tdZ a b)) := by
  by_cases h : b = 0 <;> simp [intA,remI,h,tdZ]
abbrev B8 (n : Nat) : AV := .int .u8 (n : Int)
structure P2 where
  a : Nat
  b : Nat
abbrev P2.row (x : P2) : List AV := [B8 x.a,B8 x.b]
structure P5 where
  a : Nat
  b : Nat
  c : Nat
  d : Nat
  e : Nat
abbrev P5.row (x : P5) : List AV := [B8 x.a,B8 x.b,B8 x.c,B8 x.d,B8 x.e]
structure Qu where
  k0 : List P2
  k1 : List P2
  ls : List P5
  s0 : Nat
  s1 : Nat
abbrev rP (k : List P2) : AV := .fs (k.map P2.row)
abbrev Qu.c (q : Qu) : List AV := [rP q.k0,rP q.k1,.fs (q.ls.map P5.row),B8 q.s0,B8 q.s1]
structure Qu.Ok (q : Qu) : Prop where
  k0 : ∀ x ∈ q.k0,x.a < 256 ∧ x.b < 256
  k1 : ∀ x ∈ q.k1,x.a < 256 ∧ x.b < 256
  ls : ∀ x ∈ q.ls,x.a < 256 ∧ x.b < 256 ∧ x.c < 256 ∧ x.d < 256 ∧ x.e < 256
  s : q.s0 < 256 ∧ q.s1 < 256
theorem wr8 {n : Nat} (h : n < 256) : IntKind.i64.wrap (n : Int) = (n : Int) := wrap_ok (by omega) (by omega)
theorem tdiv_n (a b : Nat) : tdZ (a : Int) (b : Int) = ((a / b : Nat) : Int) := by rw [tdZ,Int.tdiv_eq_ediv_of_nonneg (by omega)]; exact (Int.natCast_ediv a b).symm
theorem tmod_n (a b : Nat) : tmZ (a : Int) (b : Int) = ((a % b : Nat) : Int) := by rw [tmZ,Int.tmod_eq_emod_of_nonneg (by omega)]; exact (Int.natCast_emod a b).symm
def afN (x : List P2) : Nat → Nat
  | 0 => 0
  | j + 1 => afN x j + 1 + (x.getD j ⟨0,0⟩).a
def nnN (x : List P2) : Nat → Nat
  | 0 => 0
  | j + 1 => nnN x j + 1 + (x.getD j ⟨0,0⟩).b % 9
def stN (x : List P2) : Nat → List St
  | 0 => []
  | j + 1 => stN x j ++ [⟨(afN x (j + 1) : Nat),(nnN x (j + 1) : Nat)⟩]
theorem stN_len (x : List P2) : ∀ j,(stN x j).length = j
  | 0 => rfl
  | j + 1 => by rw [stN,List.length_append,stN_len x j]; rfl
theorem af_bd {x : List P2} (hx : ∀ y ∈ x,y.a < 256 ∧ y.b < 256) : ∀ j,j ≤ x.length → afN x j ≤ 256 * j ∧ nnN x j ≤ 9 * j
  | 0,_ => ⟨Nat.le_refl _,Nat.le_refl _⟩
  | j + 1,hj => by
    have ih := af_bd hx j (by omega)
    obtain ⟨y,hy⟩ := at_ix (l := x) (i := j) (by omega)
    have hb := hx y (List.mem_of_getElem? hy)
    rw [afN,nnN,getD_of hy]
    omega
def fewK (x : List P2) : Nat := min x.length 4
def mdK (x : List P2) : List St := stN x (fewK x)
section
variable {q : Qu}
abbrev hM0 (q : Qu) : XH := [some (.blk true (.cells true q.c)),bZ,some (.blk true (.cells true [.nilsl,.nilsl,.nilsl,I (q.s0 : Nat),I ((q.s0 + q.s1 : Nat) : Int)]))]
abbrev hM1 (q : Qu) : XH := [some (.blk true (.cells true q.c)),bZ,some (.blk false (.cells true [.sl 3 0 1 1,.nilsl,.nilsl,I (q.s0 : Nat),I ((q.s0 + q.s1 : Nat) : Int)])),some (.blk true (.cells true [rS (mdK q.k0)]))]
abbrev hM2 (q : Qu) : XH := [some (.blk true (.cells true q.c)),bZ,some (.blk false (.cells true [.sl 3 0 1 2,.nilsl,.nilsl,I (q.s0 : Nat),I ((q.s0 + q.s1 : Nat) : Int)])),some (.blk true (.cells true [rS (mdK q.k0),rS (mdK q.k1)]))]
def tS (p : Nat) (j : Nat) : AV := if j = 0 then .nilsl else .sl p 0 2 j
def tG (x : List P2) (j : Nat) : XH := if j = 0 then [] else [some (.blk true (.cells true (cT (stN x j))))]
theorem round39k {H : XH} {p : Nat} (hH : (H = hM0 q ∧ p = 3) ∨ (H = hM1 q ∧ p = 4)) {x : List P2} (hx : ∀ y ∈ x,y.a < 256 ∧ y.b < 256) {u v : AV} {i : Nat} (hu : u = .agg [rP q.k0,rP q.k1]) {j : Nat} (hj : j < fewK x) :
    headX 0 [1,2,3,5,6,7,8,9,34,35] (execW progX 39 0 none (match x39l0 with | .loop _ a => a | c => c) (envL [1,2,3,5,6,7,8,9,34,35] [.pt 0 0,.pt 1 0,.pt 2 0,rP x,tS p j,I (afN x j : Nat),I (nnN x j : Nat),I (j : Nat),.agg [rP q.k0,rP q.k1],I (i : Nat)]) (H ++ tG x j)) =
      some ([.pt 0 0,.pt 1 0,.pt 2 0,rP x,tS p (j + 1),I (afN x (j + 1) : Nat),I (nnN x (j + 1) : Nat),I (j + 1 : Nat),.agg [rP q.k0,rP q.k1],I (i : Nat)],H ++ tG x (j + 1)) := by
  have hj2 : j < x.length ∧ j < 4 := by unfold fewK at hj; omega
  obtain ⟨y,hy⟩ := at_ix hj2.1
  have hb := hx y (List.mem_of_getElem? hy)
  have bd := af_bd hx j (by omega)
  have a1 := lt_ix hj2.1
  have a4 : ((j : Int) < 4) = True := eq_true (by omega)
  have a2 := up_ix hj2.2 (by omega)
  have w1 := wr8 hb.1
  have w2 := wr8 hb.2
  have e1 : afN x (j + 1) = afN x j + 1 + y.a := by rw [afN,getD_of hy]
  have e2 : nnN x (j + 1) = nnN x j + 1 + y.b % 9 := by rw [nnN,getD_of hy]
  have q1 : IntKind.i64.wrap ((afN x j : Int) + 1) = (afN x j : Int) + 1 := wrap_ok (by omega) (by omega)
  have q2 : IntKind.i64.wrap ((afN x j : Int) + 1 + (y.a : Int)) = ((afN x (j + 1) : Nat) : Int) := by rw [wrap_ok (by omega) (by omega)]; omega
  have q3 : IntKind.i64.wrap ((nnN x j : Int) + 1) = (nnN x j : Int) + 1 := wrap_ok (by omega) (by omega)
  have q5 : tmZ (y.b : Int) 9 = ((y.b % 9 : Nat) : Int) := tmod_n y.b 9
  have q4 : IntKind.i64.wrap ((nnN x j : Int) + 1 + ((y.b % 9 : Nat) : Int)) = ((nnN x (j + 1) : Nat) : Int) := by rw [wrap_ok (by omega) (by omega)]; omega
  have cl := cT_len (stN x j)
  rw [stN_len] at cl
  have ca := cT_app (stN x j) ⟨(afN x (j + 1) : Nat),(nnN x (j + 1) : Nat)⟩
  have c0 : cT (stN x 0) = [] := rfl
  have l1 : ((j + 1) * 16 ≤ 1099511627776) = True := eq_true (by omega)
  have l2 : (j + 1 ≤ 1099511627776) = True := eq_true (by omega)
  unfold tS tG
  rw [stN,ca]
  simp only [Nat.add_one_ne_zero,if_false]
  generalize afN x (j + 1) = af at *
  generalize nnN x (j + 1) = nf at *
  clear e1 e2 ca
  unfold x39l0
  dsimp only
  rcases hH with ⟨rfl,rfl⟩ | ⟨rfl,rfl⟩
  · by_cases hj0 : j = 0
    · subst hj0
      have a1 : ((0 : Int) < (x.length : Int)) = True := a1
      simp only [if_true]
      (sym => (simp [irem2,iquo2,remF,Za,Zb,Zd,Ze,Zf,Zh,Zi,Zl,Zm,Zn,Zo,Zp,Zu,Zx,Zz,Z0,Z2,Z4,Z6,Z7,ZD,ZH,ZI,ZR,ZU,ZX,Ya,Yf,Yg,Yi,Yq,Yu,Yv,Yw,Yz,Y0,Y1,Y2,Y4,YB,YK,YN,YP,YR,YT,YU,YX,Xb,Xd,Xm,Xo,Xq,Xr,Xs,Xu,Wl,Wn,Wy,Wz,W0,W3,W4,W5,W6,W7,W9,WA,WB,WE,WF,WH,WI,WJ,WL,WN,WO,WP,WQ,WV,WW,WX,Vb,Vc,VL,VM,VN,VO,VP,VU,VV,VW,VX,VY,Ua,Ub,Uc,Ud,Ue,Uf,Ui,Ur,Uv,Uw,Ux,Uy,Uz,U1,U2,U3,U4,U5,U6,UD,UE,UF,UG,UL,UM,UN,UO,UT,UU,UV,UW,UX,UY,Tc,Td,Tf,Tk,Tl,Tm,Tn,Tq,Tr,Ts,Tu,Tw,Tx,T3,T6,T7,T8,TD,TI,a1,hy,w1,w2,q1,q2,q3,q4,q5,c0]; all_goals tactic => exact rfl))
    · simp only [hj0,if_false]
      generalize cT (stN x j) = cc at *
      (sym => (simp [irem2,iquo2,remF,Za,Zb,Zd,Ze,Zf,Zh,Zi,Zl,Zm,Zn,Zo,Zp,Zu,Zx,Zz,Z0,Z2,Z4,Z6,Z7,ZD,ZH,ZI,ZR,ZU,ZX,Ya,Yf,Yg,Yi,Yq,Yu,Yv,Yw,Yz,Y0,Y1,Y2,Y4,YB,YK,YN,YP,YR,YT,YU,YX,Xb,Xd,Xm,Xo,Xq,Xr,Xs,Xu,Wl,Wn,Wy,Wz,W0,W3,W4,W5,W6,W7,W9,WA,WB,WE,WF,WH,WI,WJ,WL,WN,WO,WP,WQ,WV,WW,WX,Vb,Vc,VL,VM,VN,VO,VP,VU,VV,VW,VX,VY,Ua,Ub,Uc,Ud,Ue,Uf,Ui,Ur,Uv,Uw,Ux,Uy,Uz,U1,U2,U3,U4,U5,U6,UD,UE,UF,UG,UL,UM,UN,UO,UT,UU,UV,UW,UX,UY,Tc,Td,Tf,Tk,Tl,Tm,Tn,Tq,Tr,Ts,Tu,Tw,Tx,T3,T6,T7,T8,TD,TI,a1,a2,a4,hy,w1,w2,q1,q2,q3,q4,q5,l1,l2,cl]; all_goals tactic => exact rfl))
  · by_cases hj0 : j = 0
    · subst hj0
      have a1 : ((0 : Int) < (x.length : Int)) = True := a1
      simp only [if_true]
      (sym => (simp [irem2,iquo2,remF,Za,Zb,Zd,Ze,Zf,Zh,Zi,Zl,Zm,Zn,Zo,Zp,Zu,Zx,Zz,Z0,Z2,Z4,Z6,Z7,ZD,ZH,ZI,ZR,ZU,ZX,Ya,Yf,Yg,Yi,Yq,Yu,Yv,Yw,Yz,Y0,Y1,Y2,Y4,YB,YK,YN,YP,YR,YT,YU,YX,Xb,Xd,Xm,Xo,Xq,Xr,Xs,Xu,Wl,Wn,Wy,Wz,W0,W3,W4,W5,W6,W7,W9,WA,WB,WE,WF,WH,WI,WJ,WL,WN,WO,WP,WQ,WV,WW,WX,Vb,Vc,VL,VM,VN,VO,VP,VU,VV,VW,VX,VY,Ua,Ub,Uc,Ud,Ue,Uf,Ui,Ur,Uv,Uw,Ux,Uy,Uz,U1,U2,U3,U4,U5,U6,UD,UE,UF,UG,UL,UM,UN,UO,UT,UU,UV,UW,UX,UY,Tc,Td,Tf,Tk,Tl,Tm,Tn,Tq,Tr,Ts,Tu,Tw,Tx,T3,T6,T7,T8,TD,TI,a1,hy,w1,w2,q1,q2,q3,q4,q5,c0]; all_goals tactic => exact rfl))
    · simp only [hj0,if_false]
      generalize cT (stN x j) = cc at *
      (sym => (simp [irem2,iquo2,remF,Za,Zb,Zd,Ze,Zf,Zh,Zi,Zl,Zm,Zn,Zo,Zp,Zu,Zx,Zz,Z0,Z2,Z4,Z6,Z7,ZD,ZH,ZI,ZR,ZU,ZX,Ya,Yf,Yg,Yi,Yq,Yu,Yv,Yw,Yz,Y0,Y1,Y2,Y4,YB,YK,YN,YP,YR,YT,YU,YX,Xb,Xd,Xm,Xo,Xq,Xr,Xs,Xu,Wl,Wn,Wy,Wz,W0,W3,W4,W5,W6,W7,W9,WA,WB,WE,WF,WH,WI,WJ,WL,WN,WO,WP,WQ,WV,WW,WX,Vb,Vc,VL,VM,VN,VO,VP,VU,VV,VW,VX,VY,Ua,Ub,Uc,Ud,Ue,Uf,Ui,Ur,Uv,Uw,Ux,Uy,Uz,U1,U2,U3,U4,U5,U6,UD,UE,UF,UG,UL,UM,UN,UO,UT,UU,UV,UW,UX,UY,Tc,Td,Tf,Tk,Tl,Tm,Tn,Tq,Tr,Ts,Tu,Tw,Tx,T3,T6,T7,T8,TD,TI,a1,a2,a4,hy,w1,w2,q1,q2,q3,q4,q5,l1,l2,cl]; all_goals tactic => exact rfl))
end
end Go.Proofs.YtpbeclkpohehgaaDoor
namespace Go.Proofs.YtpbeclkpohehgaaDoor
open Go Go.DL
set_option maxRecDepth 100000
set_option maxHeartbeats 4000000
theorem few_out (x : List P2) : (((fewK x : Nat) : Int) < (x.length : Int)) = False ∨ ((((fewK x : Nat) : Int) < (x.length : Int)) = True ∧ (((fewK x : Nat) : Int) < 4) = False) := by
  unfold fewK
  by_cases h : x.length ≤ 4
  · exact .inl (eq_false (by omega))
  · exact .inr ⟨eq_true (by omega),eq_false (by omega)⟩
section
variable {q : Qu}
theorem round39 (hq : q.Ok) :
    headX 0 [1,2,3,34,35] (execW progX 39 0 none (match x39l1 with | .loop _ a => a | c => c) (envL [1,2,3,34,35] [.pt 0 0,.pt 1 0,.pt 2 0,.agg [rP q.k0,rP q.k1],I 0]) (hM0 q)) = some ([.pt 0 0,.pt 1 0,.pt 2 0,.agg [rP q.k0,rP q.k1],I 1],hM1 q) ∧
    headX 0 [1,2,3,34,35] (execW progX 39 0 none (match x39l1 with | .loop _ a => a | c => c) (envL [1,2,3,34,35] [.pt 0 0,.pt 1 0,.pt 2 0,.agg [rP q.k0,rP q.k1],I 1]) (hM1 q)) = some ([.pt 0 0,.pt 1 0,.pt 2 0,.agg [rP q.k0,rP q.k1],I 2],hM2 q) := by
  have af0 : ∀ x,afN x 0 = 0 := fun _ => rfl
  have nn0 : ∀ x,nnN x 0 = 0 := fun _ => rfl
  have ts0 : ∀ p,tS p 0 = .nilsl := fun _ => rfl
  have tg0 : ∀ x,tG x 0 = [] := fun _ => rfl
  have tsn : ∀ p j,j ≠ 0 → tS p j = .sl p 0 2 j := fun p j h => if_neg h
  have tgn : ∀ x j,j ≠ 0 → tG x j = [some (.blk true (.cells true (cT (stN x j))))] := fun x j h => if_neg h
  have ch := fun x => cT_ch (mdK x)
  have cl := fun x => cT_len (mdK x)
  have ml : ∀ x,(mdK x).length = fewK x := fun x => stN_len x _
  constructor
  · have rd := fun j hj => round39k (q := q) (p := 3) (u := .agg [rP q.k0,rP q.k1]) (v := .nilsl) (i := 0) (.inl ⟨rfl,rfl⟩) hq.k0 rfl (j := j) hj
    have fo := few_out q.k0
    have ch := ch q.k0
    have cl := cl q.k0
    have ml := ml q.k0
    rw [ml] at ch cl
    have ce : (fewK q.k0 * 2 ≤ fewK q.k0 * 2) = True := eq_true (Nat.le_refl _)
    have mz : fewK q.k0 = 0 → rS (mdK q.k0) = .fs [] := fun h => by rw [List.eq_nil_of_length_eq_zero (ml.trans h)]; rfl
    have mk : stN q.k0 (fewK q.k0) = mdK q.k0 := rfl
    unfold x39l1
    dsimp only
    sym =>
      simp [Za,Zb,Zc,Zd,Ze,Zf,Zg,Zh,Zj,Zl,Zm,Zn,Zo,Zp,Zr,Zu,Zx,Z0,Z2,Z5,Z8,ZD,ZF,ZJ,ZK,ZR,ZU,ZV,ZY,Ya,Yi,Yq,Yw,Yx,Yz,Y0,Y1,Y2,Y4,YL,YN,YP,YR,YT,YU,YX,Xb,Xe,Xf,Xi,Xm,Xo,Xq,Xr,Xs,Xu,XK,XM,XP,XQ,XV,XW,XX,XY,We,Wh,Wo,Wp,Wy,Wz,W0,W3,W4,W5,W6,W7,W9,WA,WB,WE,WF,WH,WI,WJ,WL,WN,WO,WP,WQ,WV,WW,WX,Vb,Vc,Vo,Vp,Vq,Vr,Vs,Vt,Vu,Vv,V1,V2,V3,VL,VM,VN,VO,VP,VQ,VR,VU,VV,VW,VX,VY,Ua,Ub,Uc,Ud,Uf,Ui,Uk,Ur,Us,Uv,Uw,Ux,Uy,Uz,U1,U2,U3,U4,U5,U6,U9,UA,UD,UE,UF,UG,UL,UM,UN,UO,UT,UU,UV,UW,UX,UY,Ta,Tb,Tf,Tg,Th,Tk,Tl,Tm,Tn,Tq,Tr,Ts,Tu,Tv,Tw,Tx,Ty,T3,T5,T6,T7,T8,TC,TD,TE,TI,Sy,Sz,S2,SB,SC,SE]
      tactic =>
        unfold x39l0
        rw [loop_rule (fewK q.k0) (fun j => [.pt 0 0,.pt 1 0,.pt 2 0,rP q.k0,tS 3 j,I (afN q.k0 j : Nat),I (nnN q.k0 j : Nat),I (j : Nat),.agg [rP q.k0,rP q.k1],I ((0 : Nat) : Int)]) (fun j => hM0 q ++ tG q.k0 j)]
        · by_cases hz : fewK q.k0 = 0
          · rw [mz hz]
            have fo : ((0 : Int) < (q.k0.length : Int)) = False := eq_false (by unfold fewK at hz; omega)
            rw [hz,ts0,tg0,af0,nn0]
            (sym => (simp [Za,Zb,Zc,Zd,Ze,Zf,Zg,Zh,Zj,Zl,Zm,Zn,Zo,Zp,Zr,Zu,Zx,Z0,Z2,Z5,Z8,ZD,ZF,ZJ,ZK,ZR,ZU,ZV,ZY,Ya,Yi,Yq,Yw,Yx,Yz,Y0,Y1,Y2,Y4,YL,YN,YP,YR,YT,YU,YX,Xb,Xe,Xf,Xi,Xm,Xo,Xq,Xr,Xs,Xu,XK,XM,XP,XQ,XV,XW,XX,XY,We,Wh,Wo,Wp,Wy,Wz,W0,W3,W4,W5,W6,W7,W9,WA,WB,WE,WF,WH,WI,WJ,WL,WN,WO,WP,WQ,WV,WW,WX,Vb,Vc,Vo,Vp,Vq,Vr,Vs,Vt,Vu,Vv,V1,V2,V3,VL,VM,VN,VO,VP,VQ,VR,VU,VV,VW,VX,VY,Ua,Ub,Uc,Ud,Uf,Ui,Uk,Ur,Us,Uv,Uw,Ux,Uy,Uz,U1,U2,U3,U4,U5,U6,U9,UA,UD,UE,UF,UG,UL,UM,UN,UO,UT,UU,UV,UW,UX,UY,Ta,Tb,Tf,Tg,Th,Tk,Tl,Tm,Tn,Tq,Tr,Ts,Tu,Tv,Tw,Tx,Ty,T3,T5,T6,T7,T8,TC,TD,TE,TI,Sy,Sz,S2,SB,SC,SE,fo]; all_goals tactic => exact rfl))
          · rw [tsn _ _ hz,tgn _ _ hz,mk]
            generalize afN q.k0 (fewK q.k0) = af at *
            generalize nnN q.k0 (fewK q.k0) = nf at *
            generalize mdK q.k0 = md at *
            rcases fo with fo | ⟨fo,fo2⟩
            · (sym => (simp [Za,Zb,Zc,Zd,Ze,Zf,Zg,Zh,Zj,Zl,Zm,Zn,Zo,Zp,Zr,Zu,Zx,Z0,Z2,Z5,Z8,ZD,ZF,ZJ,ZK,ZR,ZU,ZV,ZY,Ya,Yi,Yq,Yw,Yx,Yz,Y0,Y1,Y2,Y4,YL,YN,YP,YR,YT,YU,YX,Xb,Xe,Xf,Xi,Xm,Xo,Xq,Xr,Xs,Xu,XK,XM,XP,XQ,XV,XW,XX,XY,We,Wh,Wo,Wp,Wy,Wz,W0,W3,W4,W5,W6,W7,W9,WA,WB,WE,WF,WH,WI,WJ,WL,WN,WO,WP,WQ,WV,WW,WX,Vb,Vc,Vo,Vp,Vq,Vr,Vs,Vt,Vu,Vv,V1,V2,V3,VL,VM,VN,VO,VP,VQ,VR,VU,VV,VW,VX,VY,Ua,Ub,Uc,Ud,Uf,Ui,Uk,Ur,Us,Uv,Uw,Ux,Uy,Uz,U1,U2,U3,U4,U5,U6,U9,UA,UD,UE,UF,UG,UL,UM,UN,UO,UT,UU,UV,UW,UX,UY,Ta,Tb,Tf,Tg,Th,Tk,Tl,Tm,Tn,Tq,Tr,Ts,Tu,Tv,Tw,Tx,Ty,T3,T5,T6,T7,T8,TC,TD,TE,TI,Sy,Sz,S2,SB,SC,SE,fo,ch,cl,ce]; all_goals tactic => exact rfl))
            · (sym => (simp [Za,Zb,Zc,Zd,Ze,Zf,Zg,Zh,Zj,Zl,Zm,Zn,Zo,Zp,Zr,Zu,Zx,Z0,Z2,Z5,Z8,ZD,ZF,ZJ,ZK,ZR,ZU,ZV,ZY,Ya,Yi,Yq,Yw,Yx,Yz,Y0,Y1,Y2,Y4,YL,YN,YP,YR,YT,YU,YX,Xb,Xe,Xf,Xi,Xm,Xo,Xq,Xr,Xs,Xu,XK,XM,XP,XQ,XV,XW,XX,XY,We,Wh,Wo,Wp,Wy,Wz,W0,W3,W4,W5,W6,W7,W9,WA,WB,WE,WF,WH,WI,WJ,WL,WN,WO,WP,WQ,WV,WW,WX,Vb,Vc,Vo,Vp,Vq,Vr,Vs,Vt,Vu,Vv,V1,V2,V3,VL,VM,VN,VO,VP,VQ,VR,VU,VV,VW,VX,VY,Ua,Ub,Uc,Ud,Uf,Ui,Uk,Ur,Us,Uv,Uw,Ux,Uy,Uz,U1,U2,U3,U4,U5,U6,U9,UA,UD,UE,UF,UG,UL,UM,UN,UO,UT,UU,UV,UW,UX,UY,Ta,Tb,Tf,Tg,Th,Tk,Tl,Tm,Tn,Tq,Tr,Ts,Tu,Tv,Tw,Tx,Ty,T3,T5,T6,T7,T8,TC,TD,TE,TI,Sy,Sz,S2,SB,SC,SE,fo,fo2,ch,cl,ce]; all_goals tactic => exact rfl))
        · (sym => (simp [Za,Zb,Zc,Zd,Ze,Zf,Zg,Zh,Zj,Zl,Zm,Zn,Zo,Zp,Zr,Zu,Zx,Z0,Z2,Z5,Z8,ZD,ZF,ZJ,ZK,ZR,ZU,ZV,ZY,Ya,Yi,Yq,Yw,Yx,Yz,Y0,Y1,Y2,Y4,YL,YN,YP,YR,YT,YU,YX,Xb,Xe,Xf,Xi,Xm,Xo,Xq,Xr,Xs,Xu,XK,XM,XP,XQ,XV,XW,XX,XY,We,Wh,Wo,Wp,Wy,Wz,W0,W3,W4,W5,W6,W7,W9,WA,WB,WE,WF,WH,WI,WJ,WL,WN,WO,WP,WQ,WV,WW,WX,Vb,Vc,Vo,Vp,Vq,Vr,Vs,Vt,Vu,Vv,V1,V2,V3,VL,VM,VN,VO,VP,VQ,VR,VU,VV,VW,VX,VY,Ua,Ub,Uc,Ud,Uf,Ui,Uk,Ur,Us,Uv,Uw,Ux,Uy,Uz,U1,U2,U3,U4,U5,U6,U9,UA,UD,UE,UF,UG,UL,UM,UN,UO,UT,UU,UV,UW,UX,UY,Ta,Tb,Tf,Tg,Th,Tk,Tl,Tm,Tn,Tq,Tr,Ts,Tu,Tv,Tw,Tx,Ty,T3,T5,T6,T7,T8,TC,TD,TE,TI,Sy,Sz,S2,SB,SC,SE,af0,nn0,ts0,tg0]; all_goals tactic => exact rfl))
        · exact rd
        · rcases fo with fo | ⟨fo,fo2⟩
          · generalize fewK q.k0 = fk at *
            (sym => (simp [Za,Zb,Zc,Zd,Ze,Zf,Zg,Zh,Zj,Zl,Zm,Zn,Zo,Zp,Zr,Zu,Zx,Z0,Z2,Z5,Z8,ZD,ZF,ZJ,ZK,ZR,ZU,ZV,ZY,Ya,Yi,Yq,Yw,Yx,Yz,Y0,Y1,Y2,Y4,YL,YN,YP,YR,YT,YU,YX,Xb,Xe,Xf,Xi,Xm,Xo,Xq,Xr,Xs,Xu,XK,XM,XP,XQ,XV,XW,XX,XY,We,Wh,Wo,Wp,Wy,Wz,W0,W3,W4,W5,W6,W7,W9,WA,WB,WE,WF,WH,WI,WJ,WL,WN,WO,WP,WQ,WV,WW,WX,Vb,Vc,Vo,Vp,Vq,Vr,Vs,Vt,Vu,Vv,V1,V2,V3,VL,VM,VN,VO,VP,VQ,VR,VU,VV,VW,VX,VY,Ua,Ub,Uc,Ud,Uf,Ui,Uk,Ur,Us,Uv,Uw,Ux,Uy,Uz,U1,U2,U3,U4,U5,U6,U9,UA,UD,UE,UF,UG,UL,UM,UN,UO,UT,UU,UV,UW,UX,UY,Ta,Tb,Tf,Tg,Th,Tk,Tl,Tm,Tn,Tq,Tr,Ts,Tu,Tv,Tw,Tx,Ty,T3,T5,T6,T7,T8,TC,TD,TE,TI,Sy,Sz,S2,SB,SC,SE,fo]; all_goals tactic => exact rfl))
          · generalize fewK q.k0 = fk at *
            (sym => (simp [Za,Zb,Zc,Zd,Ze,Zf,Zg,Zh,Zj,Zl,Zm,Zn,Zo,Zp,Zr,Zu,Zx,Z0,Z2,Z5,Z8,ZD,ZF,ZJ,ZK,ZR,ZU,ZV,ZY,Ya,Yi,Yq,Yw,Yx,Yz,Y0,Y1,Y2,Y4,YL,YN,YP,YR,YT,YU,YX,Xb,Xe,Xf,Xi,Xm,Xo,Xq,Xr,Xs,Xu,XK,XM,XP,XQ,XV,XW,XX,XY,We,Wh,Wo,Wp,Wy,Wz,W0,W3,W4,W5,W6,W7,W9,WA,WB,WE,WF,WH,WI,WJ,WL,WN,WO,WP,WQ,WV,WW,WX,Vb,Vc,Vo,Vp,Vq,Vr,Vs,Vt,Vu,Vv,V1,V2,V3,VL,VM,VN,VO,VP,VQ,VR,VU,VV,VW,VX,VY,Ua,Ub,Uc,Ud,Uf,Ui,Uk,Ur,Us,Uv,Uw,Ux,Uy,Uz,U1,U2,U3,U4,U5,U6,U9,UA,UD,UE,UF,UG,UL,UM,UN,UO,UT,UU,UV,UW,UX,UY,Ta,Tb,Tf,Tg,Th,Tk,Tl,Tm,Tn,Tq,Tr,Ts,Tu,Tv,Tw,Tx,Ty,T3,T5,T6,T7,T8,TC,TD,TE,TI,Sy,Sz,S2,SB,SC,SE,fo,fo2]; all_goals tactic => exact rfl))
  · have rd := fun j hj => round39k (q := q) (p := 4) (u := .agg [rP q.k0,rP q.k1]) (v := .nilsl) (i := 1) (.inr ⟨rfl,rfl⟩) hq.k1 rfl (j := j) hj
    have fo := few_out q.k1
    have ch := ch q.k1
    have cl := cl q.k1
    have ml := ml q.k1
    rw [ml] at ch cl
    have ce : (fewK q.k1 * 2 ≤ fewK q.k1 * 2) = True := eq_true (Nat.le_refl _)
    have mz : fewK q.k1 = 0 → rS (mdK q.k1) = .fs [] := fun h => by rw [List.eq_nil_of_length_eq_zero (ml.trans h)]; rfl
    have mk : stN q.k1 (fewK q.k1) = mdK q.k1 := rfl
    unfold x39l1
    dsimp only
    sym =>
      simp [Za,Zb,Zc,Zd,Ze,Zf,Zg,Zh,Zj,Zl,Zm,Zn,Zo,Zp,Zr,Zu,Zx,Z0,Z2,Z5,Z8,ZD,ZF,ZJ,ZK,ZR,ZU,ZV,ZY,Ya,Yi,Yq,Yw,Yx,Yz,Y0,Y1,Y2,Y4,YL,YN,YP,YR,YT,YU,YX,Xb,Xe,Xf,Xi,Xm,Xo,Xq,Xr,Xs,Xu,XK,XM,XP,XQ,XV,XW,XX,XY,We,Wh,Wo,Wp,Wy,Wz,W0,W3,W4,W5,W6,W7,W9,WA,WB,WE,WF,WH,WI,WJ,WL,WN,WO,WP,WQ,WV,WW,WX,Vb,Vc,Vo,Vp,Vq,Vr,Vs,Vt,Vu,Vv,V1,V2,V3,VL,VM,VN,VO,VP,VQ,VR,VU,VV,VW,VX,VY,Ua,Ub,Uc,Ud,Uf,Ui,Uk,Ur,Us,Uv,Uw,Ux,Uy,Uz,U1,U2,U3,U4,U5,U6,U9,UA,UD,UE,UF,UG,UL,UM,UN,UO,UT,UU,UV,UW,UX,UY,Ta,Tb,Tf,Tg,Th,Tk,Tl,Tm,Tn,Tq,Tr,Ts,Tu,Tv,Tw,Tx,Ty,T3,T5,T6,T7,T8,TC,TD,TE,TI,Sy,Sz,S2,SB,SC,SE]
      tactic =>
        unfold x39l0
        rw [loop_rule (fewK q.k1) (fun j => [.pt 0 0,.pt 1 0,.pt 2 0,rP q.k1,tS 4 j,I (afN q.k1 j : Nat),I (nnN q.k1 j : Nat),I (j : Nat),.agg [rP q.k0,rP q.k1],I ((1 : Nat) : Int)]) (fun j => hM1 q ++ tG q.k1 j)]
        · by_cases hz : fewK q.k1 = 0
          · rw [mz hz]
            have fo : ((0 : Int) < (q.k1.length : Int)) = False := eq_false (by unfold fewK at hz; omega)
            rw [hz,ts0,tg0,af0,nn0]
            (sym => (simp [Za,Zb,Zc,Zd,Ze,Zf,Zg,Zh,Zj,Zl,Zm,Zn,Zo,Zp,Zr,Zu,Zx,Z0,Z2,Z5,Z8,ZD,ZF,ZJ,ZK,ZR,ZU,ZV,ZY,Ya,Yi,Yq,Yw,Yx,Yz,Y0,Y1,Y2,Y4,YL,YN,YP,YR,YT,YU,YX,Xb,Xe,Xf,Xi,Xm,Xo,Xq,Xr,Xs,Xu,XK,XM,XP,XQ,XV,XW,XX,XY,We,Wh,Wo,Wp,Wy,Wz,W0,W3,W4,W5,W6,W7,W9,WA,WB,WE,WF,WH,WI,WJ,WL,WN,WO,WP,WQ,WV,WW,WX,Vb,Vc,Vo,Vp,Vq,Vr,Vs,Vt,Vu,Vv,V1,V2,V3,VL,VM,VN,VO,VP,VQ,VR,VU,VV,VW,VX,VY,Ua,Ub,Uc,Ud,Uf,Ui,Uk,Ur,Us,Uv,Uw,Ux,Uy,Uz,U1,U2,U3,U4,U5,U6,U9,UA,UD,UE,UF,UG,UL,UM,UN,UO,UT,UU,UV,UW,UX,UY,Ta,Tb,Tf,Tg,Th,Tk,Tl,Tm,Tn,Tq,Tr,Ts,Tu,Tv,Tw,Tx,Ty,T3,T5,T6,T7,T8,TC,TD,TE,TI,Sy,Sz,S2,SB,SC,SE,fo]; all_goals tactic => exact rfl))
          · rw [tsn _ _ hz,tgn _ _ hz,mk]
            generalize afN q.k1 (fewK q.k1) = af at *
            generalize nnN q.k1 (fewK q.k1) = nf at *
            generalize mdK q.k1 = md at *
            rcases fo with fo | ⟨fo,fo2⟩
            · (sym => (simp [Za,Zb,Zc,Zd,Ze,Zf,Zg,Zh,Zj,Zl,Zm,Zn,Zo,Zp,Zr,Zu,Zx,Z0,Z2,Z5,Z8,ZD,ZF,ZJ,ZK,ZR,ZU,ZV,ZY,Ya,Yi,Yq,Yw,Yx,Yz,Y0,Y1,Y2,Y4,YL,YN,YP,YR,YT,YU,YX,Xb,Xe,Xf,Xi,Xm,Xo,Xq,Xr,Xs,Xu,XK,XM,XP,XQ,XV,XW,XX,XY,We,Wh,Wo,Wp,Wy,Wz,W0,W3,W4,W5,W6,W7,W9,WA,WB,WE,WF,WH,WI,WJ,WL,WN,WO,WP,WQ,WV,WW,WX,Vb,Vc,Vo,Vp,Vq,Vr,Vs,Vt,Vu,Vv,V1,V2,V3,VL,VM,VN,VO,VP,VQ,VR,VU,VV,VW,VX,VY,Ua,Ub,Uc,Ud,Uf,Ui,Uk,Ur,Us,Uv,Uw,Ux,Uy,Uz,U1,U2,U3,U4,U5,U6,U9,UA,UD,UE,UF,UG,UL,UM,UN,UO,UT,UU,UV,UW,UX,UY,Ta,Tb,Tf,Tg,Th,Tk,Tl,Tm,Tn,Tq,Tr,Ts,Tu,Tv,Tw,Tx,Ty,T3,T5,T6,T7,T8,TC,TD,TE,TI,Sy,Sz,S2,SB,SC,SE,fo,ch,cl,ce]; all_goals tactic => exact rfl))
            · (sym => (simp [Za,Zb,Zc,Zd,Ze,Zf,Zg,Zh,Zj,Zl,Zm,Zn,Zo,Zp,Zr,Zu,Zx,Z0,Z2,Z5,Z8,ZD,ZF,ZJ,ZK,ZR,ZU,ZV,ZY,Ya,Yi,Yq,Yw,Yx,Yz,Y0,Y1,Y2,Y4,YL,YN,YP,YR,YT,YU,YX,Xb,Xe,Xf,Xi,Xm,Xo,Xq,Xr,Xs,Xu,XK,XM,XP,XQ,XV,XW,XX,XY,We,Wh,Wo,Wp,Wy,Wz,W0,W3,W4,W5,W6,W7,W9,WA,WB,WE,WF,WH,WI,WJ,WL,WN,WO,WP,WQ,WV,WW,WX,Vb,Vc,Vo,Vp,Vq,Vr,Vs,Vt,Vu,Vv,V1,V2,V3,VL,VM,VN,VO,VP,VQ,VR,VU,VV,VW,VX,VY,Ua,Ub,Uc,Ud,Uf,Ui,Uk,Ur,Us,Uv,Uw,Ux,Uy,Uz,U1,U2,U3,U4,U5,U6,U9,UA,UD,UE,UF,UG,UL,UM,UN,UO,UT,UU,UV,UW,UX,UY,Ta,Tb,Tf,Tg,Th,Tk,Tl,Tm,Tn,Tq,Tr,Ts,Tu,Tv,Tw,Tx,Ty,T3,T5,T6,T7,T8,TC,TD,TE,TI,Sy,Sz,S2,SB,SC,SE,fo,fo2,ch,cl,ce]; all_goals tactic => exact rfl))
        · (sym => (simp [Za,Zb,Zc,Zd,Ze,Zf,Zg,Zh,Zj,Zl,Zm,Zn,Zo,Zp,Zr,Zu,Zx,Z0,Z2,Z5,Z8,ZD,ZF,ZJ,ZK,ZR,ZU,ZV,ZY,Ya,Yi,Yq,Yw,Yx,Yz,Y0,Y1,Y2,Y4,YL,YN,YP,YR,YT,YU,YX,Xb,Xe,Xf,Xi,Xm,Xo,Xq,Xr,Xs,Xu,XK,XM,XP,XQ,XV,XW,XX,XY,We,Wh,Wo,Wp,Wy,Wz,W0,W3,W4,W5,W6,W7,W9,WA,WB,WE,WF,WH,WI,WJ,WL,WN,WO,WP,WQ,WV,WW,WX,Vb,Vc,Vo,Vp,Vq,Vr,Vs,Vt,Vu,Vv,V1,V2,V3,VL,VM,VN,VO,VP,VQ,VR,VU,VV,VW,VX,VY,Ua,Ub,Uc,Ud,Uf,Ui,Uk,Ur,Us,Uv,Uw,Ux,Uy,Uz,U1,U2,U3,U4,U5,U6,U9,UA,UD,UE,UF,UG,UL,UM,UN,UO,UT,UU,UV,UW,UX,UY,Ta,Tb,Tf,Tg,Th,Tk,Tl,Tm,Tn,Tq,Tr,Ts,Tu,Tv,Tw,Tx,Ty,T3,T5,T6,T7,T8,TC,TD,TE,TI,Sy,Sz,S2,SB,SC,SE,af0,nn0,ts0,tg0]; all_goals tactic => exact rfl))
        · exact rd
        · rcases fo with fo | ⟨fo,fo2⟩
          · generalize fewK q.k1 = fk at *
            (sym => (simp [Za,Zb,Zc,Zd,Ze,Zf,Zg,Zh,Zj,Zl,Zm,Zn,Zo,Zp,Zr,Zu,Zx,Z0,Z2,Z5,Z8,ZD,ZF,ZJ,ZK,ZR,ZU,ZV,ZY,Ya,Yi,Yq,Yw,Yx,Yz,Y0,Y1,Y2,Y4,YL,YN,YP,YR,YT,YU,YX,Xb,Xe,Xf,Xi,Xm,Xo,Xq,Xr,Xs,Xu,XK,XM,XP,XQ,XV,XW,XX,XY,We,Wh,Wo,Wp,Wy,Wz,W0,W3,W4,W5,W6,W7,W9,WA,WB,WE,WF,WH,WI,WJ,WL,WN,WO,WP,WQ,WV,WW,WX,Vb,Vc,Vo,Vp,Vq,Vr,Vs,Vt,Vu,Vv,V1,V2,V3,VL,VM,VN,VO,VP,VQ,VR,VU,VV,VW,VX,VY,Ua,Ub,Uc,Ud,Uf,Ui,Uk,Ur,Us,Uv,Uw,Ux,Uy,Uz,U1,U2,U3,U4,U5,U6,U9,UA,UD,UE,UF,UG,UL,UM,UN,UO,UT,UU,UV,UW,UX,UY,Ta,Tb,Tf,Tg,Th,Tk,Tl,Tm,Tn,Tq,Tr,Ts,Tu,Tv,Tw,Tx,Ty,T3,T5,T6,T7,T8,TC,TD,TE,TI,Sy,Sz,S2,SB,SC,SE,fo]; all_goals tactic => exact rfl))
          · generalize fewK q.k1 = fk at *
            (sym => (simp [Za,Zb,Zc,Zd,Ze,Zf,Zg,Zh,Zj,Zl,Zm,Zn,Zo,Zp,Zr,Zu,Zx,Z0,Z2,Z5,Z8,ZD,ZF,ZJ,ZK,ZR,ZU,ZV,ZY,Ya,Yi,Yq,Yw,Yx,Yz,Y0,Y1,Y2,Y4,YL,YN,YP,YR,YT,YU,YX,Xb,Xe,Xf,Xi,Xm,Xo,Xq,Xr,Xs,Xu,XK,XM,XP,XQ,XV,XW,XX,XY,We,Wh,Wo,Wp,Wy,Wz,W0,W3,W4,W5,W6,W7,W9,WA,WB,WE,WF,WH,WI,WJ,WL,WN,WO,WP,WQ,WV,WW,WX,Vb,Vc,Vo,Vp,Vq,Vr,Vs,Vt,Vu,Vv,V1,V2,V3,VL,VM,VN,VO,VP,VQ,VR,VU,VV,VW,VX,VY,Ua,Ub,Uc,Ud,Uf,Ui,Uk,Ur,Us,Uv,Uw,Ux,Uy,Uz,U1,U2,U3,U4,U5,U6,U9,UA,UD,UE,UF,UG,UL,UM,UN,UO,UT,UU,UV,UW,UX,UY,Ta,Tb,Tf,Tg,Th,Tk,Tl,Tm,Tn,Tq,Tr,Ts,Tu,Tv,Tw,Tx,Ty,T3,T5,T6,T7,T8,TC,TD,TE,TI,Sy,Sz,S2,SB,SC,SE,fo,fo2]; all_goals tactic => exact rfl))
end
end Go.Proofs.YtpbeclkpohehgaaDoor
namespace Go.Proofs.YtpbeclkpohehgaaDoor
open Go Go.DL
set_option maxRecDepth 100000
set_option maxHeartbeats 4000000
theorem w44 (a b : Int) : runW progX 44 [I a,I b] [] = some (.agg [I a,I b],[]) := by
  rw [r44 (by simp)]; unfold x44; dsimp only
  (sym => (simp [irem2,iquo2,remF,Za,Zb,Zc,Zd,Ze,Zf,Zh,Zl,Zm,Zu,Zv,Zz,ZJ,ZK,YK,YN,YP,Xb,Xm,Xo,Xy,X0,Wa,Wc,Wl,Wn,Wy,Wz,W0,W3,W4,W5,W6,W7,W8,WH,WL,WN,WO,WP,Vr,V5,V6,V8,V9,VA,VB,VC,VF,VG,VH,VJ,VK,VT,VU,VV,VW,VX,VY,Ua,Ub,Uc,Ui,Ur,U1,U2,U3,U4,U5,U6,U7,U8,UB,UC,UD,UE,UF,UG,Ta,Tb,Te,Tg,Th,Ts,Tt,Tx,T7,Sy]; all_goals tactic => exact rfl))
abbrev P5.ld (x : P5) : Ld := ⟨((x.e % 2 : Nat) : Int),(x.a : Int),((x.a + x.b % 50 : Nat) : Int),((1 + x.c % 60 : Nat) : Int),((1 + x.c % 60 + x.d % 30 : Nat) : Int)⟩
section
variable {q : Qu}
abbrev hN0 (q : Qu) : XH := [some (.blk true (.cells true q.c)),bZ,some (.blk false (.cells true [.sl 3 0 1 2,.nilsl,.nilsl,I (q.s0 : Nat),I ((q.s0 + q.s1 : Nat) : Int)])),some (.blk true (.cells true [rS (mdK q.k0),rS (mdK q.k1)])),some (.blk true (.cells true [.nilsl,.nilsl,.nilsl]))]
abbrev hN (q : Qu) (L : List Ld) (n : Nat) (cs : List AV) (bs : XH) : XH := [some (.blk true (.cells true q.c)),bZ,some (.blk false (.cells true [.sl 3 0 1 2,.sl 4 0 5 n,.nilsl,I (q.s0 : Nat),I ((q.s0 + q.s1 : Nat) : Int)])),some (.blk true (.cells true [rS (mdK q.k0),rS (mdK q.k1)])),some (.blk true (.cells true (cL L))),some (.blk false (.cells true cs))] ++ bs
structure LdF (x : P5) : Prop where
  wa : IntKind.i64.wrap (x.a : Int) = (x.a : Int)
  wb : IntKind.i64.wrap (x.b : Int) = (x.b : Int)
  wc : IntKind.i64.wrap (x.c : Int) = (x.c : Int)
  wd : IntKind.i64.wrap (x.d : Int) = (x.d : Int)
  we : IntKind.i64.wrap (x.e : Int) = (x.e : Int)
  m60 : tmZ (x.c : Int) 60 = ((x.c % 60 : Nat) : Int)
  m2 : tmZ (x.e : Int) 2 = ((x.e % 2 : Nat) : Int)
  m50 : tmZ (x.b : Int) 50 = ((x.b % 50 : Nat) : Int)
  m30 : tmZ (x.d : Int) 30 = ((x.d % 30 : Nat) : Int)
  d2 : tdZ (x.e : Int) 2 = ((x.e / 2 : Nat) : Int)
  wd2 : IntKind.i64.wrap (((x.e / 2 : Nat) : Int)) = ((x.e / 2 : Nat) : Int)
  m3 : tmZ ((x.e / 2 : Nat) : Int) 3 = ((x.e / 2 % 3 : Nat) : Int)
  s1 : IntKind.i64.wrap (1 + ((x.c % 60 : Nat) : Int)) = ((1 + x.c % 60 : Nat) : Int)
  s2 : IntKind.i64.wrap ((x.a : Int) + ((x.b % 50 : Nat) : Int)) = ((x.a + x.b % 50 : Nat) : Int)
  s3 : IntKind.i64.wrap (((1 + x.c % 60 : Nat) : Int) + ((x.d % 30 : Nat) : Int)) = ((1 + x.c % 60 + x.d % 30 : Nat) : Int)
theorem ldF {x : P5} (h : x.a < 256 ∧ x.b < 256 ∧ x.c < 256 ∧ x.d < 256 ∧ x.e < 256) : LdF x := by
  obtain ⟨h1,h2,h3,h4,h5⟩ := h
  refine ⟨wr8 h1,wr8 h2,wr8 h3,wr8 h4,wr8 h5,tmod_n _ 60,tmod_n _ 2,tmod_n _ 50,tmod_n _ 30,tdiv_n _ 2,?_,tmod_n _ 3,?_,?_,?_⟩
  all_goals rw [wrap_ok (by omega) (by omega)]
  all_goals omega

theorem r39_000_0 (hq : q.Ok) {x : P5} (hx : q.ls[0]? = some x) (ht : x.e / 2 % 3 = 0) :
    headX 0 [1,2,3,10,11] (execW progX 39 0 none (match x39l2 with | .loop _ a => a | c => c) (envL [1,2,3,10,11] [.pt 0 0,.pt 1 0,.pt 2 0,.pt 4 0,I 0]) (hN0 q)) =
      some ([.pt 0 0,.pt 1 0,.pt 2 0,.pt 5 0,I 1],hN q [x.ld] 1 [.sl 6 0 1 (1),.nilsl,.nilsl] [some (.blk true (.cells true ([I 0])))]) := by
  obtain ⟨wa,wb,wc,wd,we,m60,m2,m50,m30,d2,wd2,m3,s1,s2,s3⟩ := ldF (hq.ls x (List.mem_of_getElem? hx))
  have a1 : ((0 : Int) < (q.ls.length : Int)) = True := eq_true (by have := lt_of hx; omega)
  have c1 : cL [x.ld] = [I (x.e % 2 : Nat),I (x.a : Nat),I (x.a + x.b % 50 : Nat),I (1 + x.c % 60 : Nat),I (1 + x.c % 60 + x.d % 30 : Nat)] := rfl
  rw [ht] at m3
  unfold hN
  rw [c1]
  generalize x.e % 2 = ee at *
  generalize 1 + x.c % 60 + x.d % 30 = cd at *
  generalize 1 + x.c % 60 = cc at *
  generalize x.a + x.b % 50 = ab at *
  generalize x.e / 2 = e2 at *
  generalize x.d % 30 = dd at *
  generalize x.c % 60 = c6 at *
  generalize x.b % 50 = bb at *
  unfold x39l2
  dsimp only
  rcases ptf ((128 : Int) < (x.e : Int)) with h8 | h8
  · (sym => (simp [irem2,iquo2,remF,Za,Zb,Zc,Zd,Ze,Zf,Zh,Zi,Zl,Zm,Zn,Zo,Zp,Zr,Zu,Zv,Zx,Zz,Z0,Z2,Z4,Z5,Z6,Z7,ZD,ZF,ZG,ZI,ZJ,ZK,ZL,ZM,ZP,ZQ,ZR,ZS,ZT,ZU,ZV,ZX,ZY,Ya,Yc,Yf,Yg,Yi,Yq,Ys,Yw,Yz,Y0,Y1,Y3,Y5,Y6,Y7,Y8,YA,YK,YN,YT,YU,YX,Xb,Xd,Xf,Xm,Xo,Xr,Xs,Xu,Wl,Wn,Wp,Ww,Wx,Wy,Wz,W0,W3,W4,W5,W6,W7,W9,WA,WB,WE,WF,WH,WI,WJ,WK,WL,WM,WN,WO,WP,WQ,WR,WS,WV,WW,WX,Vb,Vc,Ve,Vf,Vg,Vi,Vj,Vk,Vm,VL,VM,VN,VO,VP,VQ,VU,VV,VW,VX,VY,Ua,Ub,Uc,Ud,Ue,Uf,Ui,Uk,Um,Un,Uo,Ur,Uv,Uw,Ux,Uy,Uz,U0,U1,U2,U3,U4,U5,U6,UD,UE,UF,UG,UL,UM,UN,UO,UT,UU,UV,UW,Ta,Tb,Tc,Td,Te,Tf,Tg,Th,Tk,Tm,Tn,Tq,Tr,Ts,Tu,Tw,Tx,T3,T6,T7,T8,TD,TI,Su,Sw,Sx,a1,hx,wa,wb,wc,wd,we,m60,m2,m50,m30,d2,wd2,m3,s1,s2,s3,w44,h8]; all_goals tactic => exact rfl))
  · (sym => (simp [irem2,iquo2,remF,Za,Zb,Zc,Zd,Ze,Zf,Zh,Zi,Zl,Zm,Zn,Zo,Zp,Zr,Zu,Zv,Zx,Zz,Z0,Z2,Z4,Z5,Z6,Z7,ZD,ZF,ZG,ZI,ZJ,ZK,ZL,ZM,ZP,ZQ,ZR,ZS,ZT,ZU,ZV,ZX,ZY,Ya,Yc,Yf,Yg,Yi,Yq,Ys,Yw,Yz,Y0,Y1,Y3,Y5,Y6,Y7,Y8,YA,YK,YN,YT,YU,YX,Xb,Xd,Xf,Xm,Xo,Xr,Xs,Xu,Wl,Wn,Wp,Ww,Wx,Wy,Wz,W0,W3,W4,W5,W6,W7,W9,WA,WB,WE,WF,WH,WI,WJ,WK,WL,WM,WN,WO,WP,WQ,WR,WS,WV,WW,WX,Vb,Vc,Ve,Vf,Vg,Vi,Vj,Vk,Vm,VL,VM,VN,VO,VP,VQ,VU,VV,VW,VX,VY,Ua,Ub,Uc,Ud,Ue,Uf,Ui,Uk,Um,Un,Uo,Ur,Uv,Uw,Ux,Uy,Uz,U0,U1,U2,U3,U4,U5,U6,UD,UE,UF,UG,UL,UM,UN,UO,UT,UU,UV,UW,Ta,Tb,Tc,Td,Te,Tf,Tg,Th,Tk,Tm,Tn,Tq,Tr,Ts,Tu,Tw,Tx,T3,T6,T7,T8,TD,TI,Su,Sw,Sx,a1,hx,wa,wb,wc,wd,we,m60,m2,m50,m30,d2,wd2,m3,s1,s2,s3,w44,h8]; all_goals tactic => exact rfl))
theorem r39_000_1 (hq : q.Ok) {x : P5} (hx : q.ls[0]? = some x) (ht : x.e / 2 % 3 = 1) :
    headX 0 [1,2,3,10,11] (execW progX 39 0 none (match x39l2 with | .loop _ a => a | c => c) (envL [1,2,3,10,11] [.pt 0 0,.pt 1 0,.pt 2 0,.pt 4 0,I 0]) (hN0 q)) =
      some ([.pt 0 0,.pt 1 0,.pt 2 0,.pt 5 0,I 1],hN q [x.ld] 1 [.nilsl,.sl 6 0 1 (1),.nilsl] [some (.blk true (.cells true ([I 0])))]) := by
  obtain ⟨wa,wb,wc,wd,we,m60,m2,m50,m30,d2,wd2,m3,s1,s2,s3⟩ := ldF (hq.ls x (List.mem_of_getElem? hx))
  have a1 : ((0 : Int) < (q.ls.length : Int)) = True := eq_true (by have := lt_of hx; omega)
  have c1 : cL [x.ld] = [I (x.e % 2 : Nat),I (x.a : Nat),I (x.a + x.b % 50 : Nat),I (1 + x.c % 60 : Nat),I (1 + x.c % 60 + x.d % 30 : Nat)] := rfl
  rw [ht] at m3
  unfold hN
  rw [c1]
  generalize x.e % 2 = ee at *
  generalize 1 + x.c % 60 + x.d % 30 = cd at *
  generalize 1 + x.c % 60 = cc at *
  generalize x.a + x.b % 50 = ab at *
  generalize x.e / 2 = e2 at *
  generalize x.d % 30 = dd at *
  generalize x.c % 60 = c6 at *
  generalize x.b % 50 = bb at *
  unfold x39l2
  dsimp only
  rcases ptf ((128 : Int) < (x.e : Int)) with h8 | h8
  · (sym => (simp [irem2,iquo2,remF,Za,Zb,Zc,Zd,Ze,Zf,Zh,Zi,Zl,Zm,Zn,Zo,Zp,Zr,Zu,Zv,Zx,Zz,Z0,Z2,Z4,Z5,Z6,Z7,ZD,ZF,ZG,ZI,ZJ,ZK,ZL,ZM,ZP,ZQ,ZR,ZS,ZT,ZU,ZV,ZX,ZY,Ya,Yc,Yf,Yg,Yi,Yq,Ys,Yw,Yz,Y1,Y2,Y3,Y5,Y6,Y7,Y8,YA,YK,YN,YT,YU,YX,Xb,Xd,Xf,Xm,Xo,Xr,Xs,Xu,Wl,Wn,Wp,Ww,Wx,Wy,Wz,W0,W3,W4,W5,W6,W7,W9,WA,WB,WE,WF,WH,WI,WJ,WK,WL,WM,WN,WO,WP,WQ,WR,WS,WV,WW,WX,Vb,Vc,Ve,Vf,Vg,Vi,Vj,Vk,Vm,VL,VM,VN,VO,VP,VQ,VU,VV,VW,VX,VY,Ua,Ub,Uc,Ud,Ue,Uf,Ui,Uk,Um,Un,Uo,Ur,Uv,Uw,Ux,Uy,Uz,U0,U1,U2,U3,U4,U5,U6,UD,UE,UF,UG,UL,UM,UN,UO,UT,UU,UV,UW,Ta,Tb,Tc,Td,Te,Tf,Tg,Th,Tk,Tm,Tn,Tq,Tr,Ts,Tu,Tw,Tx,T3,T6,T7,T8,TD,TI,Su,Sw,Sx,a1,hx,wa,wb,wc,wd,we,m60,m2,m50,m30,d2,wd2,m3,s1,s2,s3,w44,h8]; all_goals tactic => exact rfl))
  · (sym => (simp [irem2,iquo2,remF,Za,Zb,Zc,Zd,Ze,Zf,Zh,Zi,Zl,Zm,Zn,Zo,Zp,Zr,Zu,Zv,Zx,Zz,Z0,Z2,Z4,Z5,Z6,Z7,ZD,ZF,ZG,ZI,ZJ,ZK,ZL,ZM,ZP,ZQ,ZR,ZS,ZT,ZU,ZV,ZX,ZY,Ya,Yc,Yf,Yg,Yi,Yq,Ys,Yw,Yz,Y1,Y2,Y3,Y5,Y6,Y7,Y8,YA,YK,YN,YT,YU,YX,Xb,Xd,Xf,Xm,Xo,Xr,Xs,Xu,Wl,Wn,Wp,Ww,Wx,Wy,Wz,W0,W3,W4,W5,W6,W7,W9,WA,WB,WE,WF,WH,WI,WJ,WK,WL,WM,WN,WO,WP,WQ,WR,WS,WV,WW,WX,Vb,Vc,Ve,Vf,Vg,Vi,Vj,Vk,Vm,VL,VM,VN,VO,VP,VQ,VU,VV,VW,VX,VY,Ua,Ub,Uc,Ud,Ue,Uf,Ui,Uk,Um,Un,Uo,Ur,Uv,Uw,Ux,Uy,Uz,U0,U1,U2,U3,U4,U5,U6,UD,UE,UF,UG,UL,UM,UN,UO,UT,UU,UV,UW,Ta,Tb,Tc,Td,Te,Tf,Tg,Th,Tk,Tm,Tn,Tq,Tr,Ts,Tu,Tw,Tx,T3,T6,T7,T8,TD,TI,Su,Sw,Sx,a1,hx,wa,wb,wc,wd,we,m60,m2,m50,m30,d2,wd2,m3,s1,s2,s3,w44,h8]; all_goals tactic => exact rfl))
theorem r39_000_2 (hq : q.Ok) {x : P5} (hx : q.ls[0]? = some x) (ht : x.e / 2 % 3 = 2) :
    headX 0 [1,2,3,10,11] (execW progX 39 0 none (match x39l2 with | .loop _ a => a | c => c) (envL [1,2,3,10,11] [.pt 0 0,.pt 1 0,.pt 2 0,.pt 4 0,I 0]) (hN0 q)) =
      some ([.pt 0 0,.pt 1 0,.pt 2 0,.pt 5 0,I 1],hN q [x.ld] 1 [.nilsl,.nilsl,.sl 6 0 1 (1)] [some (.blk true (.cells true ([I 0])))]) := by
  obtain ⟨wa,wb,wc,wd,we,m60,m2,m50,m30,d2,wd2,m3,s1,s2,s3⟩ := ldF (hq.ls x (List.mem_of_getElem? hx))
  have a1 : ((0 : Int) < (q.ls.length : Int)) = True := eq_true (by have := lt_of hx; omega)
  have c1 : cL [x.ld] = [I (x.e % 2 : Nat),I (x.a : Nat),I (x.a + x.b % 50 : Nat),I (1 + x.c % 60 : Nat),I (1 + x.c % 60 + x.d % 30 : Nat)] := rfl
  rw [ht] at m3
  unfold hN
  rw [c1]
  generalize x.e % 2 = ee at *
  generalize 1 + x.c % 60 + x.d % 30 = cd at *
  generalize 1 + x.c % 60 = cc at *
  generalize x.a + x.b % 50 = ab at *
  generalize x.e / 2 = e2 at *
  generalize x.d % 30 = dd at *
  generalize x.c % 60 = c6 at *
  generalize x.b % 50 = bb at *
  unfold x39l2
  dsimp only
  rcases ptf ((128 : Int) < (x.e : Int)) with h8 | h8
  · (sym => (simp [irem2,iquo2,remF,Za,Zb,Zc,Zd,Ze,Zf,Zh,Zi,Zl,Zm,Zn,Zo,Zp,Zr,Zu,Zv,Zx,Zz,Z0,Z2,Z4,Z5,Z6,Z7,ZD,ZF,ZG,ZI,ZJ,ZK,ZL,ZM,ZP,ZQ,ZR,ZS,ZT,ZU,ZV,ZX,ZY,Ya,Yc,Yf,Yg,Yi,Yq,Ys,Yw,Yz,Y1,Y3,Y4,Y5,Y6,Y7,Y8,YA,YK,YN,YT,YU,YX,Xb,Xd,Xf,Xm,Xo,Xr,Xs,Xu,Wl,Wn,Wp,Ww,Wx,Wy,Wz,W0,W3,W4,W5,W6,W7,W9,WA,WB,WE,WF,WH,WI,WJ,WK,WL,WM,WN,WO,WP,WQ,WR,WS,WV,WW,WX,Vb,Vc,Ve,Vf,Vg,Vi,Vj,Vk,Vm,VL,VM,VN,VO,VP,VQ,VU,VV,VW,VX,VY,Ua,Ub,Uc,Ud,Ue,Uf,Ui,Uk,Um,Un,Uo,Ur,Uv,Uw,Ux,Uy,Uz,U0,U1,U2,U3,U4,U5,U6,UD,UE,UF,UG,UL,UM,UN,UO,UT,UU,UV,UW,Ta,Tb,Tc,Td,Te,Tf,Tg,Th,Tk,Tm,Tn,Tq,Tr,Ts,Tu,Tw,Tx,T3,T6,T7,T8,TD,TI,Su,Sw,Sx,a1,hx,wa,wb,wc,wd,we,m60,m2,m50,m30,d2,wd2,m3,s1,s2,s3,w44,h8]; all_goals tactic => exact rfl))
  · (sym => (simp [irem2,iquo2,remF,Za,Zb,Zc,Zd,Ze,Zf,Zh,Zi,Zl,Zm,Zn,Zo,Zp,Zr,Zu,Zv,Zx,Zz,Z0,Z2,Z4,Z5,Z6,Z7,ZD,ZF,ZG,ZI,ZJ,ZK,ZL,ZM,ZP,ZQ,ZR,ZS,ZT,ZU,ZV,ZX,ZY,Ya,Yc,Yf,Yg,Yi,Yq,Ys,Yw,Yz,Y1,Y3,Y4,Y5,Y6,Y7,Y8,YA,YK,YN,YT,YU,YX,Xb,Xd,Xf,Xm,Xo,Xr,Xs,Xu,Wl,Wn,Wp,Ww,Wx,Wy,Wz,W0,W3,W4,W5,W6,W7,W9,WA,WB,WE,WF,WH,WI,WJ,WK,WL,WM,WN,WO,WP,WQ,WR,WS,WV,WW,WX,Vb,Vc,Ve,Vf,Vg,Vi,Vj,Vk,Vm,VL,VM,VN,VO,VP,VQ,VU,VV,VW,VX,VY,Ua,Ub,Uc,Ud,Ue,Uf,Ui,Uk,Um,Un,Uo,Ur,Uv,Uw,Ux,Uy,Uz,U0,U1,U2,U3,U4,U5,U6,UD,UE,UF,UG,UL,UM,UN,UO,UT,UU,UV,UW,Ta,Tb,Tc,Td,Te,Tf,Tg,Th,Tk,Tm,Tn,Tq,Tr,Ts,Tu,Tw,Tx,T3,T6,T7,T8,TD,TI,Su,Sw,Sx,a1,hx,wa,wb,wc,wd,we,m60,m2,m50,m30,d2,wd2,m3,s1,s2,s3,w44,h8]; all_goals tactic => exact rfl))
theorem r39_001_0 (hq : q.Ok) {x : P5} {i : Nat} (hi : i < 5) (hx : q.ls[i]? = some x) (ht : x.e / 2 % 3 = 0) {L : List Ld} (hL : L.length = i) (a2 : Int) (r2 : List Int) (hr2 : r2.length ≤ 5) :
    headX 0 [1,2,3,10,11] (execW progX 39 0 none (match x39l2 with | .loop _ a => a | c => c) (envL [1,2,3,10,11] [.pt 0 0,.pt 1 0,.pt 2 0,.pt 5 0,I (i : Nat)]) (hN q L i [.nilsl,.nilsl,.sl 6 0 1 (r2.length + 1)] [some (.blk true (.cells true (I a2 :: r2.map I)))])) =
      some ([.pt 0 0,.pt 1 0,.pt 2 0,.pt 5 0,I (i + 1 : Nat)],hN q (L ++ [x.ld]) (i + 1) [.sl 6 0 1 (1),.nilsl,.sl 7 0 1 (r2.length + 1)] [some (.blk true (.cells true ([I (i : Nat)]))),some (.blk true (.cells true (I a2 :: r2.map I)))]) := by
  obtain ⟨wa,wb,wc,wd,we,m60,m2,m50,m30,d2,wd2,m3,s1,s2,s3⟩ := ldF (hq.ls x (List.mem_of_getElem? hx))
  have a1 := lt_ix (lt_of hx)
  have a2 := up_ix hi (by omega)
  have a5 : ((i : Int) < 5) = True := eq_true (by omega)
  have cl := cL_len L
  rw [hL] at cl
  have ca := cL_app L x.ld
  have l1 : ((i + 1) * 40 ≤ 1099511627776) = True := eq_true (by omega)
  have l2 : (i + 1 ≤ 1099511627776) = True := eq_true (by omega)
  rw [ht] at m3
  unfold hN
  rw [ca]
  unfold P5.ld Ld.row
  dsimp only
  clear ca
  generalize x.e % 2 = ee at *
  generalize 1 + x.c % 60 + x.d % 30 = cd at *
  generalize 1 + x.c % 60 = cc at *
  generalize x.a + x.b % 50 = ab at *
  generalize x.e / 2 = e2 at *
  generalize x.d % 30 = dd at *
  generalize x.c % 60 = c6 at *
  generalize x.b % 50 = bb at *
  generalize cL L = cL0 at *
  unfold x39l2
  dsimp only
  rcases ptf ((128 : Int) < (x.e : Int)) with h8 | h8
  · (sym => (simp [irem2,iquo2,remF,Za,Zb,Zc,Zd,Ze,Zf,Zh,Zi,Zl,Zm,Zn,Zo,Zp,Zr,Zu,Zv,Zx,Zz,Z0,Z2,Z4,Z5,Z6,Z7,ZD,ZF,ZG,ZI,ZJ,ZK,ZL,ZM,ZP,ZQ,ZR,ZS,ZT,ZU,ZV,ZX,ZY,Ya,Yc,Yf,Yg,Yi,Yq,Ys,Yu,Yv,Yz,Y0,Y1,Y3,Y5,Y6,Y7,Y8,YA,YK,YN,YT,YU,YX,Xb,Xd,Xf,Xm,Xo,Xr,Xs,Xu,Wl,Wn,Wp,Wv,Ww,Wy,Wz,W0,W3,W4,W5,W6,W7,W9,WA,WB,WE,WF,WH,WI,WJ,WK,WL,WM,WN,WO,WP,WQ,WR,WS,WV,WW,WX,Vb,Vc,Ve,Vf,Vg,Vi,Vj,Vk,Vm,VL,VM,VN,VO,VP,VQ,VU,VV,VW,VX,VY,Ua,Ub,Uc,Ud,Ue,Uf,Ui,Uk,Um,Un,Uo,Ur,Uv,Uw,Ux,Uy,Uz,U0,U1,U2,U3,U4,U5,U6,UD,UE,UF,UG,UL,UM,UN,UO,UT,UU,UV,UW,UX,UY,Ta,Tb,Tc,Td,Te,Tf,Tg,Th,Tk,Tl,Tm,Tn,Tq,Tr,Ts,Tu,Tw,Tx,T3,T6,T7,T8,TD,TI,Su,Sx,a1,a2,a5,cl,l1,l2,hx,wa,wb,wc,wd,we,m60,m2,m50,m30,d2,wd2,m3,s1,s2,s3,w44,h8]; all_goals tactic => exact rfl))
  · (sym => (simp [irem2,iquo2,remF,Za,Zb,Zc,Zd,Ze,Zf,Zh,Zi,Zl,Zm,Zn,Zo,Zp,Zr,Zu,Zv,Zx,Zz,Z0,Z2,Z4,Z5,Z6,Z7,ZD,ZF,ZG,ZI,ZJ,ZK,ZL,ZM,ZP,ZQ,ZR,ZS,ZT,ZU,ZV,ZX,ZY,Ya,Yc,Yf,Yg,Yi,Yq,Ys,Yu,Yv,Yz,Y0,Y1,Y3,Y5,Y6,Y7,Y8,YA,YK,YN,YT,YU,YX,Xb,Xd,Xf,Xm,Xo,Xr,Xs,Xu,Wl,Wn,Wp,Wv,Ww,Wy,Wz,W0,W3,W4,W5,W6,W7,W9,WA,WB,WE,WF,WH,WI,WJ,WK,WL,WM,WN,WO,WP,WQ,WR,WS,WV,WW,WX,Vb,Vc,Ve,Vf,Vg,Vi,Vj,Vk,Vm,VL,VM,VN,VO,VP,VQ,VU,VV,VW,VX,VY,Ua,Ub,Uc,Ud,Ue,Uf,Ui,Uk,Um,Un,Uo,Ur,Uv,Uw,Ux,Uy,Uz,U0,U1,U2,U3,U4,U5,U6,UD,UE,UF,UG,UL,UM,UN,UO,UT,UU,UV,UW,UX,UY,Ta,Tb,Tc,Td,Te,Tf,Tg,Th,Tk,Tl,Tm,Tn,Tq,Tr,Ts,Tu,Tw,Tx,T3,T6,T7,T8,TD,TI,Su,Sx,a1,a2,a5,cl,l1,l2,hx,wa,wb,wc,wd,we,m60,m2,m50,m30,d2,wd2,m3,s1,s2,s3,w44,h8]; all_goals tactic => exact rfl))
theorem r39_001_1 (hq : q.Ok) {x : P5} {i : Nat} (hi : i < 5) (hx : q.ls[i]? = some x) (ht : x.e / 2 % 3 = 1) {L : List Ld} (hL : L.length = i) (a2 : Int) (r2 : List Int) (hr2 : r2.length ≤ 5) :
    headX 0 [1,2,3,10,11] (execW progX 39 0 none (match x39l2 with | .loop _ a => a | c => c) (envL [1,2,3,10,11] [.pt 0 0,.pt 1 0,.pt 2 0,.pt 5 0,I (i : Nat)]) (hN q L i [.nilsl,.nilsl,.sl 6 0 1 (r2.length + 1)] [some (.blk true (.cells true (I a2 :: r2.map I)))])) =
      some ([.pt 0 0,.pt 1 0,.pt 2 0,.pt 5 0,I (i + 1 : Nat)],hN q (L ++ [x.ld]) (i + 1) [.nilsl,.sl 6 0 1 (1),.sl 7 0 1 (r2.length + 1)] [some (.blk true (.cells true ([I (i : Nat)]))),some (.blk true (.cells true (I a2 :: r2.map I)))]) := by
  obtain ⟨wa,wb,wc,wd,we,m60,m2,m50,m30,d2,wd2,m3,s1,s2,s3⟩ := ldF (hq.ls x (List.mem_of_getElem? hx))
  have a1 := lt_ix (lt_of hx)
  have a2 := up_ix hi (by omega)
  have a5 : ((i : Int) < 5) = True := eq_true (by omega)
  have cl := cL_len L
  rw [hL] at cl
  have ca := cL_app L x.ld
  have l1 : ((i + 1) * 40 ≤ 1099511627776) = True := eq_true (by omega)
  have l2 : (i + 1 ≤ 1099511627776) = True := eq_true (by omega)
  rw [ht] at m3
  unfold hN
  rw [ca]
  unfold P5.ld Ld.row
  dsimp only
  clear ca
  generalize x.e % 2 = ee at *
  generalize 1 + x.c % 60 + x.d % 30 = cd at *
  generalize 1 + x.c % 60 = cc at *
  generalize x.a + x.b % 50 = ab at *
  generalize x.e / 2 = e2 at *
  generalize x.d % 30 = dd at *
  generalize x.c % 60 = c6 at *
  generalize x.b % 50 = bb at *
  generalize cL L = cL0 at *
  unfold x39l2
  dsimp only
  rcases ptf ((128 : Int) < (x.e : Int)) with h8 | h8
  · (sym => (simp [irem2,iquo2,remF,Za,Zb,Zc,Zd,Ze,Zf,Zh,Zi,Zl,Zm,Zn,Zo,Zp,Zr,Zu,Zv,Zx,Zz,Z0,Z2,Z4,Z5,Z6,Z7,ZD,ZF,ZG,ZI,ZJ,ZK,ZL,ZM,ZP,ZQ,ZR,ZS,ZT,ZU,ZV,ZX,ZY,Ya,Yc,Yf,Yg,Yi,Yq,Ys,Yu,Yv,Yz,Y1,Y2,Y3,Y5,Y6,Y7,Y8,YA,YK,YN,YT,YU,YX,Xb,Xd,Xf,Xm,Xo,Xr,Xs,Xu,Wl,Wn,Wp,Wv,Ww,Wy,Wz,W0,W3,W4,W5,W6,W7,W9,WA,WB,WE,WF,WH,WI,WJ,WK,WL,WM,WN,WO,WP,WQ,WR,WS,WV,WW,WX,Vb,Vc,Ve,Vf,Vg,Vi,Vj,Vk,Vm,VL,VM,VN,VO,VP,VQ,VU,VV,VW,VX,VY,Ua,Ub,Uc,Ud,Ue,Uf,Ui,Uk,Um,Un,Uo,Ur,Uv,Uw,Ux,Uy,Uz,U0,U1,U2,U3,U4,U5,U6,UD,UE,UF,UG,UL,UM,UN,UO,UT,UU,UV,UW,UX,UY,Ta,Tb,Tc,Td,Te,Tf,Tg,Th,Tk,Tl,Tm,Tn,Tq,Tr,Ts,Tu,Tw,Tx,T3,T6,T7,T8,TD,TI,Su,Sx,a1,a2,a5,cl,l1,l2,hx,wa,wb,wc,wd,we,m60,m2,m50,m30,d2,wd2,m3,s1,s2,s3,w44,h8]; all_goals tactic => exact rfl))
  · (sym => (simp [irem2,iquo2,remF,Za,Zb,Zc,Zd,Ze,Zf,Zh,Zi,Zl,Zm,Zn,Zo,Zp,Zr,Zu,Zv,Zx,Zz,Z0,Z2,Z4,Z5,Z6,Z7,ZD,ZF,ZG,ZI,ZJ,ZK,ZL,ZM,ZP,ZQ,ZR,ZS,ZT,ZU,ZV,ZX,ZY,Ya,Yc,Yf,Yg,Yi,Yq,Ys,Yu,Yv,Yz,Y1,Y2,Y3,Y5,Y6,Y7,Y8,YA,YK,YN,YT,YU,YX,Xb,Xd,Xf,Xm,Xo,Xr,Xs,Xu,Wl,Wn,Wp,Wv,Ww,Wy,Wz,W0,W3,W4,W5,W6,W7,W9,WA,WB,WE,WF,WH,WI,WJ,WK,WL,WM,WN,WO,WP,WQ,WR,WS,WV,WW,WX,Vb,Vc,Ve,Vf,Vg,Vi,Vj,Vk,Vm,VL,VM,VN,VO,VP,VQ,VU,VV,VW,VX,VY,Ua,Ub,Uc,Ud,Ue,Uf,Ui,Uk,Um,Un,Uo,Ur,Uv,Uw,Ux,Uy,Uz,U0,U1,U2,U3,U4,U5,U6,UD,UE,UF,UG,UL,UM,UN,UO,UT,UU,UV,UW,UX,UY,Ta,Tb,Tc,Td,Te,Tf,Tg,Th,Tk,Tl,Tm,Tn,Tq,Tr,Ts,Tu,Tw,Tx,T3,T6,T7,T8,TD,TI,Su,Sx,a1,a2,a5,cl,l1,l2,hx,wa,wb,wc,wd,we,m60,m2,m50,m30,d2,wd2,m3,s1,s2,s3,w44,h8]; all_goals tactic => exact rfl))
theorem r39_001_2 (hq : q.Ok) {x : P5} {i : Nat} (hi : i < 5) (hx : q.ls[i]? = some x) (ht : x.e / 2 % 3 = 2) (h8 : ¬ 128 < x.e) {L : List Ld} (hL : L.length = i) (a2 : Int) (r2 : List Int) (hr2 : r2.length ≤ 5) :
    headX 0 [1,2,3,10,11] (execW progX 39 0 none (match x39l2 with | .loop _ a => a | c => c) (envL [1,2,3,10,11] [.pt 0 0,.pt 1 0,.pt 2 0,.pt 5 0,I (i : Nat)]) (hN q L i [.nilsl,.nilsl,.sl 6 0 1 (r2.length + 1)] [some (.blk true (.cells true (I a2 :: r2.map I)))])) =
      some ([.pt 0 0,.pt 1 0,.pt 2 0,.pt 5 0,I (i + 1 : Nat)],hN q (L ++ [x.ld]) (i + 1) [.nilsl,.nilsl,.sl 6 0 1 (r2.length + 1 + 1)] [some (.blk true (.cells true (I a2 :: (r2.map I ++ [I (i : Nat)]))))]) := by
  obtain ⟨wa,wb,wc,wd,we,m60,m2,m50,m30,d2,wd2,m3,s1,s2,s3⟩ := ldF (hq.ls x (List.mem_of_getElem? hx))
  have a1 := lt_ix (lt_of hx)
  have a2 := up_ix hi (by omega)
  have a5 : ((i : Int) < 5) = True := eq_true (by omega)
  have cl := cL_len L
  rw [hL] at cl
  have ca := cL_app L x.ld
  have l1 : ((i + 1) * 40 ≤ 1099511627776) = True := eq_true (by omega)
  have l2 : (i + 1 ≤ 1099511627776) = True := eq_true (by omega)
  rw [ht] at m3
  unfold hN
  rw [ca]
  unfold P5.ld Ld.row
  dsimp only
  clear ca
  generalize x.e % 2 = ee at *
  generalize 1 + x.c % 60 + x.d % 30 = cd at *
  generalize 1 + x.c % 60 = cc at *
  generalize x.a + x.b % 50 = ab at *
  generalize x.e / 2 = e2 at *
  generalize x.d % 30 = dd at *
  generalize x.c % 60 = c6 at *
  generalize x.b % 50 = bb at *
  generalize cL L = cL0 at *
  have g0 : ((0 : Int) < ((r2.length + 1 : Nat) : Int)) = True := eq_true (by omega)
  have b1 : ((r2.length + 1 + 1) * 8 ≤ 1099511627776) = True := eq_true (by omega)
  have b2 : (r2.length + 1 + 1 ≤ 1099511627776) = True := eq_true (by omega)
  have b3 : 1 + (r2.length + 1) = r2.length + 1 + 1 := by omega
  have b4 : r2.length + 1 - 1 = r2.length := rfl
  have b5 : List.take r2.length (r2.map I) = r2.map I := List.take_of_length_le (by simp)
  have h8 : ((128 : Int) < (x.e : Int)) = False := eq_false (by omega)
  unfold x39l2
  dsimp only
  (sym => (simp [irem2,iquo2,remF,Za,Zb,Zc,Zd,Ze,Zf,Zh,Zi,Zl,Zm,Zn,Zo,Zp,Zr,Zu,Zv,Zx,Zz,Z0,Z2,Z4,Z5,Z6,Z7,ZD,ZF,ZG,ZI,ZJ,ZK,ZL,ZM,ZP,ZQ,ZR,ZS,ZT,ZU,ZV,ZX,ZY,Ya,Yf,Yg,Yi,Yq,Ys,Yu,Yv,Yz,Y1,Y3,Y4,Y5,Y6,Y7,Y8,YA,YK,YN,YT,YU,YX,Xb,Xd,Xf,Xm,Xo,Xr,Xs,Xu,Wl,Wn,Wp,Wv,Ww,Wy,Wz,W0,W3,W4,W5,W6,W7,W9,WA,WB,WE,WF,WH,WI,WJ,WK,WL,WM,WN,WO,WP,WQ,WR,WS,WV,WW,WX,Vb,Vc,Ve,Vf,Vg,Vi,Vj,Vk,Vm,VL,VM,VN,VO,VP,VQ,VU,VV,VW,VX,VY,Ua,Ub,Uc,Ud,Ue,Uf,Ui,Uk,Um,Un,Uo,Ur,Uv,Uw,Ux,Uy,Uz,U0,U1,U2,U3,U4,U5,U6,UD,UE,UF,UG,UL,UM,UN,UO,UT,UU,UV,UX,UY,Ta,Tb,Tc,Td,Te,Tf,Tg,Th,Tk,Tl,Tm,Tn,Tr,Ts,Tu,Tw,Tx,T3,T6,T7,T8,TB,TD,TI,Su,Sx,a1,a2,a5,cl,l1,l2,hx,wa,wb,wc,wd,we,m60,m2,m50,m30,d2,wd2,m3,s1,s2,s3,w44,g0,b1,b2,b3,b4,b5,h8]; all_goals tactic => exact rfl))
theorem r39_001_2p (hq : q.Ok) {x : P5} {i : Nat} (hi : i < 5) (hx : q.ls[i]? = some x) (ht : x.e / 2 % 3 = 2) (h8 : 128 < x.e) {L : List Ld} (hL : L.length = i) (a2 : Int) (r2 : List Int) (hr2 : r2.length ≤ 5) :
    headX 0 [1,2,3,10,11] (execW progX 39 0 none (match x39l2 with | .loop _ a => a | c => c) (envL [1,2,3,10,11] [.pt 0 0,.pt 1 0,.pt 2 0,.pt 5 0,I (i : Nat)]) (hN q L i [.nilsl,.nilsl,.sl 6 0 1 (r2.length + 1)] [some (.blk true (.cells true (I a2 :: r2.map I)))])) =
      some ([.pt 0 0,.pt 1 0,.pt 2 0,.pt 5 0,I (i + 1 : Nat)],hN q (L ++ [x.ld]) (i + 1) [.nilsl,.nilsl,.sl 6 0 1 (r2.length + 1 + 1)] [some (.blk true (.cells true (I (i : Nat) :: I a2 :: r2.map I)))]) := by
  obtain ⟨wa,wb,wc,wd,we,m60,m2,m50,m30,d2,wd2,m3,s1,s2,s3⟩ := ldF (hq.ls x (List.mem_of_getElem? hx))
  have a1 := lt_ix (lt_of hx)
  have a2 := up_ix hi (by omega)
  have a5 : ((i : Int) < 5) = True := eq_true (by omega)
  have cl := cL_len L
  rw [hL] at cl
  have ca := cL_app L x.ld
  have l1 : ((i + 1) * 40 ≤ 1099511627776) = True := eq_true (by omega)
  have l2 : (i + 1 ≤ 1099511627776) = True := eq_true (by omega)
  rw [ht] at m3
  unfold hN
  rw [ca]
  unfold P5.ld Ld.row
  dsimp only
  clear ca
  generalize x.e % 2 = ee at *
  generalize 1 + x.c % 60 + x.d % 30 = cd at *
  generalize 1 + x.c % 60 = cc at *
  generalize x.a + x.b % 50 = ab at *
  generalize x.e / 2 = e2 at *
  generalize x.d % 30 = dd at *
  generalize x.c % 60 = c6 at *
  generalize x.b % 50 = bb at *
  generalize cL L = cL0 at *
  have g0 : ((0 : Int) < ((r2.length + 1 : Nat) : Int)) = True := eq_true (by omega)
  have b1 : ((r2.length + 1 + 1) * 8 ≤ 1099511627776) = True := eq_true (by omega)
  have b2 : (r2.length + 1 + 1 ≤ 1099511627776) = True := eq_true (by omega)
  have b3 : 1 + (r2.length + 1) = r2.length + 1 + 1 := by omega
  have b4 : r2.length + 1 - 1 = r2.length := rfl
  have b5 : List.take r2.length (r2.map I) = r2.map I := List.take_of_length_le (by simp)
  have h8 : ((128 : Int) < (x.e : Int)) = True := eq_true (by omega)
  unfold x39l2
  dsimp only
  (sym => (simp [irem2,iquo2,remF,Za,Zb,Zc,Zd,Ze,Zf,Zh,Zi,Zl,Zm,Zn,Zo,Zp,Zu,Zv,Zx,Zz,Z0,Z2,Z4,Z5,Z6,Z7,ZD,ZF,ZG,ZI,ZJ,ZK,ZL,ZM,ZP,ZQ,ZR,ZS,ZT,ZU,ZX,ZY,Ya,Yb,Yf,Yg,Yi,Yq,Ys,Yu,Yv,Yz,Y1,Y3,Y4,Y5,Y6,Y7,Y8,YA,YK,YN,YT,YU,YX,Xb,Xd,Xf,Xm,Xo,Xr,Xs,Xu,Wl,Wn,Wp,Wv,Ww,Wy,Wz,W0,W3,W4,W5,W6,W7,W9,WA,WB,WE,WF,WH,WI,WJ,WK,WL,WM,WN,WO,WP,WQ,WR,WS,WV,WW,WX,Vb,Vc,Ve,Vf,Vg,Vi,Vj,Vk,Vm,VL,VM,VN,VO,VP,VU,VV,VW,VX,VY,Ua,Ub,Uc,Ud,Ue,Uf,Ui,Uk,Um,Un,Uo,Ur,Uv,Uw,Ux,Uy,Uz,U0,U1,U2,U3,U4,U5,U6,UD,UE,UF,UG,UL,UM,UN,UO,UT,UU,UV,UX,UY,Ta,Tb,Tc,Td,Te,Tf,Tg,Th,Tk,Tl,Tm,Tn,Tr,Ts,Tu,Tw,Tx,T3,T6,T7,T8,TB,TC,TD,TE,TI,TU,Su,Sx,a1,a2,a5,cl,l1,l2,hx,wa,wb,wc,wd,we,m60,m2,m50,m30,d2,wd2,m3,s1,s2,s3,w44,g0,b1,b2,b3,b4,b5,h8]; all_goals tactic => exact rfl))
theorem r39_010_0 (hq : q.Ok) {x : P5} {i : Nat} (hi : i < 5) (hx : q.ls[i]? = some x) (ht : x.e / 2 % 3 = 0) {L : List Ld} (hL : L.length = i) (a1 : Int) (r1 : List Int) (hr1 : r1.length ≤ 5) :
    headX 0 [1,2,3,10,11] (execW progX 39 0 none (match x39l2 with | .loop _ a => a | c => c) (envL [1,2,3,10,11] [.pt 0 0,.pt 1 0,.pt 2 0,.pt 5 0,I (i : Nat)]) (hN q L i [.nilsl,.sl 6 0 1 (r1.length + 1),.nilsl] [some (.blk true (.cells true (I a1 :: r1.map I)))])) =
      some ([.pt 0 0,.pt 1 0,.pt 2 0,.pt 5 0,I (i + 1 : Nat)],hN q (L ++ [x.ld]) (i + 1) [.sl 6 0 1 (1),.sl 7 0 1 (r1.length + 1),.nilsl] [some (.blk true (.cells true ([I (i : Nat)]))),some (.blk true (.cells true (I a1 :: r1.map I)))]) := by
  obtain ⟨wa,wb,wc,wd,we,m60,m2,m50,m30,d2,wd2,m3,s1,s2,s3⟩ := ldF (hq.ls x (List.mem_of_getElem? hx))
  have a1 := lt_ix (lt_of hx)
  have a2 := up_ix hi (by omega)
  have a5 : ((i : Int) < 5) = True := eq_true (by omega)
  have cl := cL_len L
  rw [hL] at cl
  have ca := cL_app L x.ld
  have l1 : ((i + 1) * 40 ≤ 1099511627776) = True := eq_true (by omega)
  have l2 : (i + 1 ≤ 1099511627776) = True := eq_true (by omega)
  rw [ht] at m3
  unfold hN
  rw [ca]
  unfold P5.ld Ld.row
  dsimp only
  clear ca
  generalize x.e % 2 = ee at *
  generalize 1 + x.c % 60 + x.d % 30 = cd at *
  generalize 1 + x.c % 60 = cc at *
  generalize x.a + x.b % 50 = ab at *
  generalize x.e / 2 = e2 at *
  generalize x.d % 30 = dd at *
  generalize x.c % 60 = c6 at *
  generalize x.b % 50 = bb at *
  generalize cL L = cL0 at *
  unfold x39l2
  dsimp only
  rcases ptf ((128 : Int) < (x.e : Int)) with h8 | h8
  · (sym => (simp [irem2,iquo2,remF,Za,Zb,Zc,Zd,Ze,Zf,Zh,Zi,Zl,Zm,Zn,Zo,Zp,Zr,Zu,Zv,Zx,Zz,Z0,Z2,Z4,Z5,Z6,Z7,ZD,ZF,ZG,ZI,ZJ,ZK,ZL,ZM,ZP,ZQ,ZR,ZS,ZT,ZU,ZV,ZX,ZY,Ya,Yc,Yf,Yg,Yi,Yq,Ys,Yu,Yv,Yz,Y0,Y1,Y3,Y5,Y6,Y7,Y8,YA,YK,YN,YT,YU,YX,Xb,Xd,Xf,Xm,Xo,Xr,Xs,Xu,Wl,Wn,Wp,Wv,Ww,Wy,Wz,W0,W3,W4,W5,W6,W7,W9,WA,WB,WE,WF,WH,WI,WJ,WK,WL,WM,WN,WO,WP,WQ,WR,WS,WV,WW,WX,Vb,Vc,Ve,Vf,Vg,Vi,Vj,Vk,Vm,VL,VM,VN,VO,VP,VQ,VU,VV,VW,VX,VY,Ua,Ub,Uc,Ud,Ue,Uf,Ui,Uk,Um,Un,Uo,Ur,Uv,Uw,Ux,Uy,Uz,U0,U1,U2,U3,U4,U5,U6,UD,UE,UF,UG,UL,UM,UN,UO,UT,UU,UV,UW,UX,UY,Ta,Tb,Tc,Td,Te,Tf,Tg,Th,Tk,Tl,Tm,Tn,Tq,Tr,Ts,Tu,Tw,Tx,T3,T6,T7,T8,TD,TI,Su,Sx,a1,a2,a5,cl,l1,l2,hx,wa,wb,wc,wd,we,m60,m2,m50,m30,d2,wd2,m3,s1,s2,s3,w44,h8]; all_goals tactic => exact rfl))
  · (sym => (simp [irem2,iquo2,remF,Za,Zb,Zc,Zd,Ze,Zf,Zh,Zi,Zl,Zm,Zn,Zo,Zp,Zr,Zu,Zv,Zx,Zz,Z0,Z2,Z4,Z5,Z6,Z7,ZD,ZF,ZG,ZI,ZJ,ZK,ZL,ZM,ZP,ZQ,ZR,ZS,ZT,ZU,ZV,ZX,ZY,Ya,Yc,Yf,Yg,Yi,Yq,Ys,Yu,Yv,Yz,Y0,Y1,Y3,Y5,Y6,Y7,Y8,YA,YK,YN,YT,YU,YX,Xb,Xd,Xf,Xm,Xo,Xr,Xs,Xu,Wl,Wn,Wp,Wv,Ww,Wy,Wz,W0,W3,W4,W5,W6,W7,W9,WA,WB,WE,WF,WH,WI,WJ,WK,WL,WM,WN,WO,WP,WQ,WR,WS,WV,WW,WX,Vb,Vc,Ve,Vf,Vg,Vi,Vj,Vk,Vm,VL,VM,VN,VO,VP,VQ,VU,VV,VW,VX,VY,Ua,Ub,Uc,Ud,Ue,Uf,Ui,Uk,Um,Un,Uo,Ur,Uv,Uw,Ux,Uy,Uz,U0,U1,U2,U3,U4,U5,U6,UD,UE,UF,UG,UL,UM,UN,UO,UT,UU,UV,UW,UX,UY,Ta,Tb,Tc,Td,Te,Tf,Tg,Th,Tk,Tl,Tm,Tn,Tq,Tr,Ts,Tu,Tw,Tx,T3,T6,T7,T8,TD,TI,Su,Sx,a1,a2,a5,cl,l1,l2,hx,wa,wb,wc,wd,we,m60,m2,m50,m30,d2,wd2,m3,s1,s2,s3,w44,h8]; all_goals tactic => exact rfl))
theorem r39_010_1 (hq : q.Ok) {x : P5} {i : Nat} (hi : i < 5) (hx : q.ls[i]? = some x) (ht : x.e / 2 % 3 = 1) (h8 : ¬ 128 < x.e) {L : List Ld} (hL : L.length = i) (a1 : Int) (r1 : List Int) (hr1 : r1.length ≤ 5) :
    headX 0 [1,2,3,10,11] (execW progX 39 0 none (match x39l2 with | .loop _ a => a | c => c) (envL [1,2,3,10,11] [.pt 0 0,.pt 1 0,.pt 2 0,.pt 5 0,I (i : Nat)]) (hN q L i [.nilsl,.sl 6 0 1 (r1.length + 1),.nilsl] [some (.blk true (.cells true (I a1 :: r1.map I)))])) =
      some ([.pt 0 0,.pt 1 0,.pt 2 0,.pt 5 0,I (i + 1 : Nat)],hN q (L ++ [x.ld]) (i + 1) [.nilsl,.sl 6 0 1 (r1.length + 1 + 1),.nilsl] [some (.blk true (.cells true (I a1 :: (r1.map I ++ [I (i : Nat)]))))]) := by
  obtain ⟨wa,wb,wc,wd,we,m60,m2,m50,m30,d2,wd2,m3,s1,s2,s3⟩ := ldF (hq.ls x (List.mem_of_getElem? hx))
  have a1 := lt_ix (lt_of hx)
  have a2 := up_ix hi (by omega)
  have a5 : ((i : Int) < 5) = True := eq_true (by omega)
  have cl := cL_len L
  rw [hL] at cl
  have ca := cL_app L x.ld
  have l1 : ((i + 1) * 40 ≤ 1099511627776) = True := eq_true (by omega)
  have l2 : (i + 1 ≤ 1099511627776) = True := eq_true (by omega)
  rw [ht] at m3
  unfold hN
  rw [ca]
  unfold P5.ld Ld.row
  dsimp only
  clear ca
  generalize x.e % 2 = ee at *
  generalize 1 + x.c % 60 + x.d % 30 = cd at *
  generalize 1 + x.c % 60 = cc at *
  generalize x.a + x.b % 50 = ab at *
  generalize x.e / 2 = e2 at *
  generalize x.d % 30 = dd at *
  generalize x.c % 60 = c6 at *
  generalize x.b % 50 = bb at *
  generalize cL L = cL0 at *
  have g0 : ((0 : Int) < ((r1.length + 1 : Nat) : Int)) = True := eq_true (by omega)
  have b1 : ((r1.length + 1 + 1) * 8 ≤ 1099511627776) = True := eq_true (by omega)
  have b2 : (r1.length + 1 + 1 ≤ 1099511627776) = True := eq_true (by omega)
  have b3 : 1 + (r1.length + 1) = r1.length + 1 + 1 := by omega
  have b4 : r1.length + 1 - 1 = r1.length := rfl
  have b5 : List.take r1.length (r1.map I) = r1.map I := List.take_of_length_le (by simp)
  have h8 : ((128 : Int) < (x.e : Int)) = False := eq_false (by omega)
  unfold x39l2
  dsimp only
  (sym => (simp [irem2,iquo2,remF,Za,Zb,Zc,Zd,Ze,Zf,Zh,Zi,Zl,Zm,Zn,Zo,Zp,Zr,Zu,Zv,Zx,Zz,Z0,Z2,Z4,Z5,Z6,Z7,ZD,ZF,ZG,ZI,ZJ,ZK,ZL,ZM,ZP,ZQ,ZR,ZS,ZT,ZU,ZV,ZX,ZY,Ya,Yf,Yg,Yi,Yq,Ys,Yu,Yv,Yz,Y1,Y2,Y3,Y5,Y6,Y7,Y8,YA,YK,YN,YT,YU,YX,Xb,Xd,Xf,Xm,Xo,Xr,Xs,Xu,Wl,Wn,Wp,Wv,Ww,Wy,Wz,W0,W3,W4,W5,W6,W7,W9,WA,WB,WE,WF,WH,WI,WJ,WK,WL,WM,WN,WO,WP,WQ,WR,WS,WV,WW,WX,Vb,Vc,Ve,Vf,Vg,Vi,Vj,Vk,Vm,VL,VM,VN,VO,VP,VQ,VU,VV,VW,VX,VY,Ua,Ub,Uc,Ud,Ue,Uf,Ui,Uk,Um,Un,Uo,Ur,Uv,Uw,Ux,Uy,Uz,U0,U1,U2,U3,U4,U5,U6,UD,UE,UF,UG,UL,UM,UN,UO,UT,UU,UV,UX,UY,Ta,Tb,Tc,Td,Te,Tf,Tg,Th,Tk,Tl,Tm,Tn,Tr,Ts,Tu,Tw,Tx,T3,T6,T7,T8,TB,TD,TI,Su,Sx,a1,a2,a5,cl,l1,l2,hx,wa,wb,wc,wd,we,m60,m2,m50,m30,d2,wd2,m3,s1,s2,s3,w44,g0,b1,b2,b3,b4,b5,h8]; all_goals tactic => exact rfl))
theorem r39_010_1p (hq : q.Ok) {x : P5} {i : Nat} (hi : i < 5) (hx : q.ls[i]? = some x) (ht : x.e / 2 % 3 = 1) (h8 : 128 < x.e) {L : List Ld} (hL : L.length = i) (a1 : Int) (r1 : List Int) (hr1 : r1.length ≤ 5) :
    headX 0 [1,2,3,10,11] (execW progX 39 0 none (match x39l2 with | .loop _ a => a | c => c) (envL [1,2,3,10,11] [.pt 0 0,.pt 1 0,.pt 2 0,.pt 5 0,I (i : Nat)]) (hN q L i [.nilsl,.sl 6 0 1 (r1.length + 1),.nilsl] [some (.blk true (.cells true (I a1 :: r1.map I)))])) =
      some ([.pt 0 0,.pt 1 0,.pt 2 0,.pt 5 0,I (i + 1 : Nat)],hN q (L ++ [x.ld]) (i + 1) [.nilsl,.sl 6 0 1 (r1.length + 1 + 1),.nilsl] [some (.blk true (.cells true (I (i : Nat) :: I a1 :: r1.map I)))]) := by
  obtain ⟨wa,wb,wc,wd,we,m60,m2,m50,m30,d2,wd2,m3,s1,s2,s3⟩ := ldF (hq.ls x (List.mem_of_getElem? hx))
  have a1 := lt_ix (lt_of hx)
  have a2 := up_ix hi (by omega)
  have a5 : ((i : Int) < 5) = True := eq_true (by omega)
  have cl := cL_len L
  rw [hL] at cl
  have ca := cL_app L x.ld
  have l1 : ((i + 1) * 40 ≤ 1099511627776) = True := eq_true (by omega)
  have l2 : (i + 1 ≤ 1099511627776) = True := eq_true (by omega)
  rw [ht] at m3
  unfold hN
  rw [ca]
  unfold P5.ld Ld.row
  dsimp only
  clear ca
  generalize x.e % 2 = ee at *
  generalize 1 + x.c % 60 + x.d % 30 = cd at *
  generalize 1 + x.c % 60 = cc at *
  generalize x.a + x.b % 50 = ab at *
  generalize x.e / 2 = e2 at *
  generalize x.d % 30 = dd at *
  generalize x.c % 60 = c6 at *
  generalize x.b % 50 = bb at *
  generalize cL L = cL0 at *
  have g0 : ((0 : Int) < ((r1.length + 1 : Nat) : Int)) = True := eq_true (by omega)
  have b1 : ((r1.length + 1 + 1) * 8 ≤ 1099511627776) = True := eq_true (by omega)
  have b2 : (r1.length + 1 + 1 ≤ 1099511627776) = True := eq_true (by omega)
  have b3 : 1 + (r1.length + 1) = r1.length + 1 + 1 := by omega
  have b4 : r1.length + 1 - 1 = r1.length := rfl
  have b5 : List.take r1.length (r1.map I) = r1.map I := List.take_of_length_le (by simp)
  have h8 : ((128 : Int) < (x.e : Int)) = True := eq_true (by omega)
  unfold x39l2
  dsimp only
  (sym => (simp [irem2,iquo2,remF,Za,Zb,Zc,Zd,Ze,Zf,Zh,Zi,Zl,Zm,Zn,Zo,Zp,Zu,Zv,Zx,Zz,Z0,Z2,Z4,Z5,Z6,Z7,ZD,ZF,ZG,ZI,ZJ,ZK,ZL,ZM,ZP,ZQ,ZR,ZS,ZT,ZU,ZX,ZY,Ya,Yb,Yf,Yg,Yi,Yq,Ys,Yu,Yv,Yz,Y1,Y2,Y3,Y5,Y6,Y7,Y8,YA,YK,YN,YT,YU,YX,Xb,Xd,Xf,Xm,Xo,Xr,Xs,Xu,Wl,Wn,Wp,Wv,Ww,Wy,Wz,W0,W3,W4,W5,W6,W7,W9,WA,WB,WE,WF,WH,WI,WJ,WK,WL,WM,WN,WO,WP,WQ,WR,WS,WV,WW,WX,Vb,Vc,Ve,Vf,Vg,Vi,Vj,Vk,Vm,VL,VM,VN,VO,VP,VU,VV,VW,VX,VY,Ua,Ub,Uc,Ud,Ue,Uf,Ui,Uk,Um,Un,Uo,Ur,Uv,Uw,Ux,Uy,Uz,U0,U1,U2,U3,U4,U5,U6,UD,UE,UF,UG,UL,UM,UN,UO,UT,UU,UV,UX,UY,Ta,Tb,Tc,Td,Te,Tf,Tg,Th,Tk,Tl,Tm,Tn,Tr,Ts,Tu,Tw,Tx,T3,T6,T7,T8,TB,TC,TD,TE,TI,TU,Su,Sx,a1,a2,a5,cl,l1,l2,hx,wa,wb,wc,wd,we,m60,m2,m50,m30,d2,wd2,m3,s1,s2,s3,w44,g0,b1,b2,b3,b4,b5,h8]; all_goals tactic => exact rfl))
theorem r39_010_2 (hq : q.Ok) {x : P5} {i : Nat} (hi : i < 5) (hx : q.ls[i]? = some x) (ht : x.e / 2 % 3 = 2) {L : List Ld} (hL : L.length = i) (a1 : Int) (r1 : List Int) (hr1 : r1.length ≤ 5) :
    headX 0 [1,2,3,10,11] (execW progX 39 0 none (match x39l2 with | .loop _ a => a | c => c) (envL [1,2,3,10,11] [.pt 0 0,.pt 1 0,.pt 2 0,.pt 5 0,I (i : Nat)]) (hN q L i [.nilsl,.sl 6 0 1 (r1.length + 1),.nilsl] [some (.blk true (.cells true (I a1 :: r1.map I)))])) =
      some ([.pt 0 0,.pt 1 0,.pt 2 0,.pt 5 0,I (i + 1 : Nat)],hN q (L ++ [x.ld]) (i + 1) [.nilsl,.sl 6 0 1 (r1.length + 1),.sl 7 0 1 (1)] [some (.blk true (.cells true (I a1 :: r1.map I))),some (.blk true (.cells true ([I (i : Nat)])))]) := by
  obtain ⟨wa,wb,wc,wd,we,m60,m2,m50,m30,d2,wd2,m3,s1,s2,s3⟩ := ldF (hq.ls x (List.mem_of_getElem? hx))
  have a1 := lt_ix (lt_of hx)
  have a2 := up_ix hi (by omega)
  have a5 : ((i : Int) < 5) = True := eq_true (by omega)
  have cl := cL_len L
  rw [hL] at cl
  have ca := cL_app L x.ld
  have l1 : ((i + 1) * 40 ≤ 1099511627776) = True := eq_true (by omega)
  have l2 : (i + 1 ≤ 1099511627776) = True := eq_true (by omega)
  rw [ht] at m3
  unfold hN
  rw [ca]
  unfold P5.ld Ld.row
  dsimp only
  clear ca
  generalize x.e % 2 = ee at *
  generalize 1 + x.c % 60 + x.d % 30 = cd at *
  generalize 1 + x.c % 60 = cc at *
  generalize x.a + x.b % 50 = ab at *
  generalize x.e / 2 = e2 at *
  generalize x.d % 30 = dd at *
  generalize x.c % 60 = c6 at *
  generalize x.b % 50 = bb at *
  generalize cL L = cL0 at *
  unfold x39l2
  dsimp only
  rcases ptf ((128 : Int) < (x.e : Int)) with h8 | h8
  · (sym => (simp [irem2,iquo2,remF,Za,Zb,Zc,Zd,Ze,Zf,Zh,Zi,Zl,Zm,Zn,Zo,Zp,Zr,Zu,Zv,Zx,Zz,Z0,Z2,Z4,Z5,Z6,Z7,ZD,ZF,ZG,ZI,ZJ,ZK,ZL,ZM,ZP,ZQ,ZR,ZS,ZT,ZU,ZV,ZX,ZY,Ya,Yc,Yf,Yg,Yi,Yq,Ys,Yu,Yv,Yz,Y1,Y3,Y4,Y5,Y6,Y7,Y8,YA,YK,YN,YT,YU,YX,Xb,Xd,Xf,Xm,Xo,Xr,Xs,Xu,Wl,Wn,Wp,Wv,Ww,Wy,Wz,W0,W3,W4,W5,W6,W7,W9,WA,WB,WE,WF,WH,WI,WJ,WK,WL,WM,WN,WO,WP,WQ,WR,WS,WV,WW,WX,Vb,Vc,Ve,Vf,Vg,Vi,Vj,Vk,Vm,VL,VM,VN,VO,VP,VQ,VU,VV,VW,VX,VY,Ua,Ub,Uc,Ud,Ue,Uf,Ui,Uk,Um,Un,Uo,Ur,Uv,Uw,Ux,Uy,Uz,U0,U1,U2,U3,U4,U5,U6,UD,UE,UF,UG,UL,UM,UN,UO,UT,UU,UV,UW,UX,UY,Ta,Tb,Tc,Td,Te,Tf,Tg,Th,Tk,Tl,Tm,Tn,Tq,Tr,Ts,Tu,Tw,Tx,T3,T6,T7,T8,TD,TI,Su,Sx,a1,a2,a5,cl,l1,l2,hx,wa,wb,wc,wd,we,m60,m2,m50,m30,d2,wd2,m3,s1,s2,s3,w44,h8]; all_goals tactic => exact rfl))
  · (sym => (simp [irem2,iquo2,remF,Za,Zb,Zc,Zd,Ze,Zf,Zh,Zi,Zl,Zm,Zn,Zo,Zp,Zr,Zu,Zv,Zx,Zz,Z0,Z2,Z4,Z5,Z6,Z7,ZD,ZF,ZG,ZI,ZJ,ZK,ZL,ZM,ZP,ZQ,ZR,ZS,ZT,ZU,ZV,ZX,ZY,Ya,Yc,Yf,Yg,Yi,Yq,Ys,Yu,Yv,Yz,Y1,Y3,Y4,Y5,Y6,Y7,Y8,YA,YK,YN,YT,YU,YX,Xb,Xd,Xf,Xm,Xo,Xr,Xs,Xu,Wl,Wn,Wp,Wv,Ww,Wy,Wz,W0,W3,W4,W5,W6,W7,W9,WA,WB,WE,WF,WH,WI,WJ,WK,WL,WM,WN,WO,WP,WQ,WR,WS,WV,WW,WX,Vb,Vc,Ve,Vf,Vg,Vi,Vj,Vk,Vm,VL,VM,VN,VO,VP,VQ,VU,VV,VW,VX,VY,Ua,Ub,Uc,Ud,Ue,Uf,Ui,Uk,Um,Un,Uo,Ur,Uv,Uw,Ux,Uy,Uz,U0,U1,U2,U3,U4,U5,U6,UD,UE,UF,UG,UL,UM,UN,UO,UT,UU,UV,UW,UX,UY,Ta,Tb,Tc,Td,Te,Tf,Tg,Th,Tk,Tl,Tm,Tn,Tq,Tr,Ts,Tu,Tw,Tx,T3,T6,T7,T8,TD,TI,Su,Sx,a1,a2,a5,cl,l1,l2,hx,wa,wb,wc,wd,we,m60,m2,m50,m30,d2,wd2,m3,s1,s2,s3,w44,h8]; all_goals tactic => exact rfl))
theorem r39_011_0 (hq : q.Ok) {x : P5} {i : Nat} (hi : i < 5) (hx : q.ls[i]? = some x) (ht : x.e / 2 % 3 = 0) {L : List Ld} (hL : L.length = i) (a1 a2 : Int) (r1 r2 : List Int) (hr1 : r1.length ≤ 5) (hr2 : r2.length ≤ 5) :
    headX 0 [1,2,3,10,11] (execW progX 39 0 none (match x39l2 with | .loop _ a => a | c => c) (envL [1,2,3,10,11] [.pt 0 0,.pt 1 0,.pt 2 0,.pt 5 0,I (i : Nat)]) (hN q L i [.nilsl,.sl 6 0 1 (r1.length + 1),.sl 7 0 1 (r2.length + 1)] [some (.blk true (.cells true (I a1 :: r1.map I))),some (.blk true (.cells true (I a2 :: r2.map I)))])) =
      some ([.pt 0 0,.pt 1 0,.pt 2 0,.pt 5 0,I (i + 1 : Nat)],hN q (L ++ [x.ld]) (i + 1) [.sl 6 0 1 (1),.sl 7 0 1 (r1.length + 1),.sl 8 0 1 (r2.length + 1)] [some (.blk true (.cells true ([I (i : Nat)]))),some (.blk true (.cells true (I a1 :: r1.map I))),some (.blk true (.cells true (I a2 :: r2.map I)))]) := by
  obtain ⟨wa,wb,wc,wd,we,m60,m2,m50,m30,d2,wd2,m3,s1,s2,s3⟩ := ldF (hq.ls x (List.mem_of_getElem? hx))
  have a1 := lt_ix (lt_of hx)
  have a2 := up_ix hi (by omega)
  have a5 : ((i : Int) < 5) = True := eq_true (by omega)
  have cl := cL_len L
  rw [hL] at cl
  have ca := cL_app L x.ld
  have l1 : ((i + 1) * 40 ≤ 1099511627776) = True := eq_true (by omega)
  have l2 : (i + 1 ≤ 1099511627776) = True := eq_true (by omega)
  rw [ht] at m3
  unfold hN
  rw [ca]
  unfold P5.ld Ld.row
  dsimp only
  clear ca
  generalize x.e % 2 = ee at *
  generalize 1 + x.c % 60 + x.d % 30 = cd at *
  generalize 1 + x.c % 60 = cc at *
  generalize x.a + x.b % 50 = ab at *
  generalize x.e / 2 = e2 at *
  generalize x.d % 30 = dd at *
  generalize x.c % 60 = c6 at *
  generalize x.b % 50 = bb at *
  generalize cL L = cL0 at *
  unfold x39l2
  dsimp only
  rcases ptf ((128 : Int) < (x.e : Int)) with h8 | h8
  · (sym => (simp [irem2,iquo2,remF,Za,Zb,Zc,Zd,Ze,Zf,Zh,Zi,Zl,Zm,Zn,Zo,Zp,Zr,Zu,Zv,Zx,Zz,Z0,Z2,Z4,Z5,Z6,Z7,ZD,ZF,ZG,ZI,ZJ,ZK,ZL,ZM,ZP,ZQ,ZR,ZS,ZT,ZU,ZV,ZX,ZY,Ya,Yc,Yf,Yg,Yi,Yq,Ys,Yu,Yv,Yz,Y0,Y1,Y3,Y5,Y6,Y7,Y8,YA,YK,YN,YT,YU,YX,Xb,Xd,Xf,Xm,Xo,Xr,Xs,Xu,Wl,Wn,Wp,Wv,Ww,Wy,Wz,W0,W3,W4,W5,W6,W7,W9,WA,WB,WE,WF,WH,WI,WJ,WK,WL,WM,WN,WO,WP,WQ,WR,WS,WV,WW,WX,Vb,Vc,Ve,Vf,Vg,Vi,Vj,Vk,Vm,VL,VM,VN,VO,VP,VQ,VU,VV,VW,VX,VY,Ua,Ub,Uc,Ud,Ue,Uf,Ui,Uk,Um,Un,Uo,Ur,Uv,Uw,Ux,Uy,Uz,U0,U1,U2,U3,U4,U5,U6,UD,UE,UF,UG,UL,UM,UN,UO,UT,UU,UV,UW,UX,UY,Ta,Tb,Tc,Td,Te,Tf,Tg,Th,Tk,Tl,Tm,Tn,Tq,Tr,Ts,Tu,Tw,Tx,T3,T6,T7,T8,TD,TI,Su,Sx,a1,a2,a5,cl,l1,l2,hx,wa,wb,wc,wd,we,m60,m2,m50,m30,d2,wd2,m3,s1,s2,s3,w44,h8]; all_goals tactic => exact rfl))
  · (sym => (simp [irem2,iquo2,remF,Za,Zb,Zc,Zd,Ze,Zf,Zh,Zi,Zl,Zm,Zn,Zo,Zp,Zr,Zu,Zv,Zx,Zz,Z0,Z2,Z4,Z5,Z6,Z7,ZD,ZF,ZG,ZI,ZJ,ZK,ZL,ZM,ZP,ZQ,ZR,ZS,ZT,ZU,ZV,ZX,ZY,Ya,Yc,Yf,Yg,Yi,Yq,Ys,Yu,Yv,Yz,Y0,Y1,Y3,Y5,Y6,Y7,Y8,YA,YK,YN,YT,YU,YX,Xb,Xd,Xf,Xm,Xo,Xr,Xs,Xu,Wl,Wn,Wp,Wv,Ww,Wy,Wz,W0,W3,W4,W5,W6,W7,W9,WA,WB,WE,WF,WH,WI,WJ,WK,WL,WM,WN,WO,WP,WQ,WR,WS,WV,WW,WX,Vb,Vc,Ve,Vf,Vg,Vi,Vj,Vk,Vm,VL,VM,VN,VO,VP,VQ,VU,VV,VW,VX,VY,Ua,Ub,Uc,Ud,Ue,Uf,Ui,Uk,Um,Un,Uo,Ur,Uv,Uw,Ux,Uy,Uz,U0,U1,U2,U3,U4,U5,U6,UD,UE,UF,UG,UL,UM,UN,UO,UT,UU,UV,UW,UX,UY,Ta,Tb,Tc,Td,Te,Tf,Tg,Th,Tk,Tl,Tm,Tn,Tq,Tr,Ts,Tu,Tw,Tx,T3,T6,T7,T8,TD,TI,Su,Sx,a1,a2,a5,cl,l1,l2,hx,wa,wb,wc,wd,we,m60,m2,m50,m30,d2,wd2,m3,s1,s2,s3,w44,h8]; all_goals tactic => exact rfl))
theorem r39_011_1 (hq : q.Ok) {x : P5} {i : Nat} (hi : i < 5) (hx : q.ls[i]? = some x) (ht : x.e / 2 % 3 = 1) (h8 : ¬ 128 < x.e) {L : List Ld} (hL : L.length = i) (a1 a2 : Int) (r1 r2 : List Int) (hr1 : r1.length ≤ 5) (hr2 : r2.length ≤ 5) :
    headX 0 [1,2,3,10,11] (execW progX 39 0 none (match x39l2 with | .loop _ a => a | c => c) (envL [1,2,3,10,11] [.pt 0 0,.pt 1 0,.pt 2 0,.pt 5 0,I (i : Nat)]) (hN q L i [.nilsl,.sl 6 0 1 (r1.length + 1),.sl 7 0 1 (r2.length + 1)] [some (.blk true (.cells true (I a1 :: r1.map I))),some (.blk true (.cells true (I a2 :: r2.map I)))])) =
      some ([.pt 0 0,.pt 1 0,.pt 2 0,.pt 5 0,I (i + 1 : Nat)],hN q (L ++ [x.ld]) (i + 1) [.nilsl,.sl 6 0 1 (r1.length + 1 + 1),.sl 7 0 1 (r2.length + 1)] [some (.blk true (.cells true (I a1 :: (r1.map I ++ [I (i : Nat)])))),some (.blk true (.cells true (I a2 :: r2.map I)))]) := by
  obtain ⟨wa,wb,wc,wd,we,m60,m2,m50,m30,d2,wd2,m3,s1,s2,s3⟩ := ldF (hq.ls x (List.mem_of_getElem? hx))
  have a1 := lt_ix (lt_of hx)
  have a2 := up_ix hi (by omega)
  have a5 : ((i : Int) < 5) = True := eq_true (by omega)
  have cl := cL_len L
  rw [hL] at cl
  have ca := cL_app L x.ld
  have l1 : ((i + 1) * 40 ≤ 1099511627776) = True := eq_true (by omega)
  have l2 : (i + 1 ≤ 1099511627776) = True := eq_true (by omega)
  rw [ht] at m3
  unfold hN
  rw [ca]
  unfold P5.ld Ld.row
  dsimp only
  clear ca
  generalize x.e % 2 = ee at *
  generalize 1 + x.c % 60 + x.d % 30 = cd at *
  generalize 1 + x.c % 60 = cc at *
  generalize x.a + x.b % 50 = ab at *
  generalize x.e / 2 = e2 at *
  generalize x.d % 30 = dd at *
  generalize x.c % 60 = c6 at *
  generalize x.b % 50 = bb at *
  generalize cL L = cL0 at *
  have g0 : ((0 : Int) < ((r1.length + 1 : Nat) : Int)) = True := eq_true (by omega)
  have b1 : ((r1.length + 1 + 1) * 8 ≤ 1099511627776) = True := eq_true (by omega)
  have b2 : (r1.length + 1 + 1 ≤ 1099511627776) = True := eq_true (by omega)
  have b3 : 1 + (r1.length + 1) = r1.length + 1 + 1 := by omega
  have b4 : r1.length + 1 - 1 = r1.length := rfl
  have b5 : List.take r1.length (r1.map I) = r1.map I := List.take_of_length_le (by simp)
  have h8 : ((128 : Int) < (x.e : Int)) = False := eq_false (by omega)
  unfold x39l2
  dsimp only
  (sym => (simp [irem2,iquo2,remF,Za,Zb,Zc,Zd,Ze,Zf,Zh,Zi,Zl,Zm,Zn,Zo,Zp,Zr,Zu,Zv,Zx,Zz,Z0,Z2,Z4,Z5,Z6,Z7,ZD,ZF,ZG,ZI,ZJ,ZK,ZL,ZM,ZP,ZQ,ZR,ZS,ZT,ZU,ZV,ZX,ZY,Ya,Yf,Yg,Yi,Yq,Ys,Yu,Yv,Yz,Y1,Y2,Y3,Y5,Y6,Y7,Y8,YA,YK,YN,YT,YU,YX,Xb,Xd,Xf,Xm,Xo,Xr,Xs,Xu,Wl,Wn,Wp,Wv,Ww,Wy,Wz,W0,W3,W4,W5,W6,W7,W9,WA,WB,WE,WF,WH,WI,WJ,WK,WL,WM,WN,WO,WP,WQ,WR,WS,WV,WW,WX,Vb,Vc,Ve,Vf,Vg,Vi,Vj,Vk,Vm,VL,VM,VN,VO,VP,VQ,VU,VV,VW,VX,VY,Ua,Ub,Uc,Ud,Ue,Uf,Ui,Uk,Um,Un,Uo,Ur,Uv,Uw,Ux,Uy,Uz,U0,U1,U2,U3,U4,U5,U6,UD,UE,UF,UG,UL,UM,UN,UO,UT,UU,UV,UX,UY,Ta,Tb,Tc,Td,Te,Tf,Tg,Th,Tk,Tl,Tm,Tn,Tr,Ts,Tu,Tw,Tx,T3,T6,T7,T8,TB,TD,TI,Su,Sx,a1,a2,a5,cl,l1,l2,hx,wa,wb,wc,wd,we,m60,m2,m50,m30,d2,wd2,m3,s1,s2,s3,w44,g0,b1,b2,b3,b4,b5,h8]; all_goals tactic => exact rfl))
theorem r39_011_1p (hq : q.Ok) {x : P5} {i : Nat} (hi : i < 5) (hx : q.ls[i]? = some x) (ht : x.e / 2 % 3 = 1) (h8 : 128 < x.e) {L : List Ld} (hL : L.length = i) (a1 a2 : Int) (r1 r2 : List Int) (hr1 : r1.length ≤ 5) (hr2 : r2.length ≤ 5) :
    headX 0 [1,2,3,10,11] (execW progX 39 0 none (match x39l2 with | .loop _ a => a | c => c) (envL [1,2,3,10,11] [.pt 0 0,.pt 1 0,.pt 2 0,.pt 5 0,I (i : Nat)]) (hN q L i [.nilsl,.sl 6 0 1 (r1.length + 1),.sl 7 0 1 (r2.length + 1)] [some (.blk true (.cells true (I a1 :: r1.map I))),some (.blk true (.cells true (I a2 :: r2.map I)))])) =
      some ([.pt 0 0,.pt 1 0,.pt 2 0,.pt 5 0,I (i + 1 : Nat)],hN q (L ++ [x.ld]) (i + 1) [.nilsl,.sl 6 0 1 (r1.length + 1 + 1),.sl 7 0 1 (r2.length + 1)] [some (.blk true (.cells true (I (i : Nat) :: I a1 :: r1.map I))),some (.blk true (.cells true (I a2 :: r2.map I)))]) := by
  obtain ⟨wa,wb,wc,wd,we,m60,m2,m50,m30,d2,wd2,m3,s1,s2,s3⟩ := ldF (hq.ls x (List.mem_of_getElem? hx))
  have a1 := lt_ix (lt_of hx)
  have a2 := up_ix hi (by omega)
  have a5 : ((i : Int) < 5) = True := eq_true (by omega)
  have cl := cL_len L
  rw [hL] at cl
  have ca := cL_app L x.ld
  have l1 : ((i + 1) * 40 ≤ 1099511627776) = True := eq_true (by omega)
  have l2 : (i + 1 ≤ 1099511627776) = True := eq_true (by omega)
  rw [ht] at m3
  unfold hN
  rw [ca]
  unfold P5.ld Ld.row
  dsimp only
  clear ca
  generalize x.e % 2 = ee at *
  generalize 1 + x.c % 60 + x.d % 30 = cd at *
  generalize 1 + x.c % 60 = cc at *
  generalize x.a + x.b % 50 = ab at *
  generalize x.e / 2 = e2 at *
  generalize x.d % 30 = dd at *
  generalize x.c % 60 = c6 at *
  generalize x.b % 50 = bb at *
  generalize cL L = cL0 at *
  have g0 : ((0 : Int) < ((r1.length + 1 : Nat) : Int)) = True := eq_true (by omega)
  have b1 : ((r1.length + 1 + 1) * 8 ≤ 1099511627776) = True := eq_true (by omega)
  have b2 : (r1.length + 1 + 1 ≤ 1099511627776) = True := eq_true (by omega)
  have b3 : 1 + (r1.length + 1) = r1.length + 1 + 1 := by omega
  have b4 : r1.length + 1 - 1 = r1.length := rfl
  have b5 : List.take r1.length (r1.map I) = r1.map I := List.take_of_length_le (by simp)
  have h8 : ((128 : Int) < (x.e : Int)) = True := eq_true (by omega)
  unfold x39l2
  dsimp only
  (sym => (simp [irem2,iquo2,remF,Za,Zb,Zc,Zd,Ze,Zf,Zh,Zi,Zl,Zm,Zn,Zo,Zp,Zu,Zv,Zx,Zz,Z0,Z2,Z4,Z5,Z6,Z7,ZD,ZF,ZG,ZI,ZJ,ZK,ZL,ZM,ZP,ZQ,ZR,ZS,ZT,ZU,ZX,ZY,Ya,Yb,Yf,Yg,Yi,Yq,Ys,Yu,Yv,Yz,Y1,Y2,Y3,Y5,Y6,Y7,Y8,YA,YK,YN,YT,YU,YX,Xb,Xd,Xf,Xm,Xo,Xr,Xs,Xu,Wl,Wn,Wp,Wv,Ww,Wy,Wz,W0,W3,W4,W5,W6,W7,W9,WA,WB,WE,WF,WH,WI,WJ,WK,WL,WM,WN,WO,WP,WQ,WR,WS,WV,WW,WX,Vb,Vc,Ve,Vf,Vg,Vi,Vj,Vk,Vm,VL,VM,VN,VO,VP,VU,VV,VW,VX,VY,Ua,Ub,Uc,Ud,Ue,Uf,Ui,Uk,Um,Un,Uo,Ur,Uv,Uw,Ux,Uy,Uz,U0,U1,U2,U3,U4,U5,U6,UD,UE,UF,UG,UL,UM,UN,UO,UT,UU,UV,UX,UY,Ta,Tb,Tc,Td,Te,Tf,Tg,Th,Tk,Tl,Tm,Tn,Tr,Ts,Tu,Tw,Tx,T3,T6,T7,T8,TB,TC,TD,TE,TI,TU,Su,Sx,a1,a2,a5,cl,l1,l2,hx,wa,wb,wc,wd,we,m60,m2,m50,m30,d2,wd2,m3,s1,s2,s3,w44,g0,b1,b2,b3,b4,b5,h8]; all_goals tactic => exact rfl))
theorem r39_011_2 (hq : q.Ok) {x : P5} {i : Nat} (hi : i < 5) (hx : q.ls[i]? = some x) (ht : x.e / 2 % 3 = 2) (h8 : ¬ 128 < x.e) {L : List Ld} (hL : L.length = i) (a1 a2 : Int) (r1 r2 : List Int) (hr1 : r1.length ≤ 5) (hr2 : r2.length ≤ 5) :
    headX 0 [1,2,3,10,11] (execW progX 39 0 none (match x39l2 with | .loop _ a => a | c => c) (envL [1,2,3,10,11] [.pt 0 0,.pt 1 0,.pt 2 0,.pt 5 0,I (i : Nat)]) (hN q L i [.nilsl,.sl 6 0 1 (r1.length + 1),.sl 7 0 1 (r2.length + 1)] [some (.blk true (.cells true (I a1 :: r1.map I))),some (.blk true (.cells true (I a2 :: r2.map I)))])) =
      some ([.pt 0 0,.pt 1 0,.pt 2 0,.pt 5 0,I (i + 1 : Nat)],hN q (L ++ [x.ld]) (i + 1) [.nilsl,.sl 6 0 1 (r1.length + 1),.sl 7 0 1 (r2.length + 1 + 1)] [some (.blk true (.cells true (I a1 :: r1.map I))),some (.blk true (.cells true (I a2 :: (r2.map I ++ [I (i : Nat)]))))]) := by
  obtain ⟨wa,wb,wc,wd,we,m60,m2,m50,m30,d2,wd2,m3,s1,s2,s3⟩ := ldF (hq.ls x (List.mem_of_getElem? hx))
  have a1 := lt_ix (lt_of hx)
  have a2 := up_ix hi (by omega)
  have a5 : ((i : Int) < 5) = True := eq_true (by omega)
  have cl := cL_len L
  rw [hL] at cl
  have ca := cL_app L x.ld
  have l1 : ((i + 1) * 40 ≤ 1099511627776) = True := eq_true (by omega)
  have l2 : (i + 1 ≤ 1099511627776) = True := eq_true (by omega)
  rw [ht] at m3
  unfold hN
  rw [ca]
  unfold P5.ld Ld.row
  dsimp only
  clear ca
  generalize x.e % 2 = ee at *
  generalize 1 + x.c % 60 + x.d % 30 = cd at *
  generalize 1 + x.c % 60 = cc at *
  generalize x.a + x.b % 50 = ab at *
  generalize x.e / 2 = e2 at *
  generalize x.d % 30 = dd at *
  generalize x.c % 60 = c6 at *
  generalize x.b % 50 = bb at *
  generalize cL L = cL0 at *
  have g0 : ((0 : Int) < ((r2.length + 1 : Nat) : Int)) = True := eq_true (by omega)
  have b1 : ((r2.length + 1 + 1) * 8 ≤ 1099511627776) = True := eq_true (by omega)
  have b2 : (r2.length + 1 + 1 ≤ 1099511627776) = True := eq_true (by omega)
  have b3 : 1 + (r2.length + 1) = r2.length + 1 + 1 := by omega
  have b4 : r2.length + 1 - 1 = r2.length := rfl
  have b5 : List.take r2.length (r2.map I) = r2.map I := List.take_of_length_le (by simp)
  have h8 : ((128 : Int) < (x.e : Int)) = False := eq_false (by omega)
  unfold x39l2
  dsimp only
  (sym => (simp [irem2,iquo2,remF,Za,Zb,Zc,Zd,Ze,Zf,Zh,Zi,Zl,Zm,Zn,Zo,Zp,Zr,Zu,Zv,Zx,Zz,Z0,Z2,Z4,Z5,Z6,Z7,ZD,ZF,ZG,ZI,ZJ,ZK,ZL,ZM,ZP,ZQ,ZR,ZS,ZT,ZU,ZV,ZX,ZY,Ya,Yf,Yg,Yi,Yq,Ys,Yu,Yv,Yz,Y1,Y3,Y4,Y5,Y6,Y7,Y8,YA,YK,YN,YT,YU,YX,Xb,Xd,Xf,Xm,Xo,Xr,Xs,Xu,Wl,Wn,Wp,Wv,Ww,Wy,Wz,W0,W3,W4,W5,W6,W7,W9,WA,WB,WE,WF,WH,WI,WJ,WK,WL,WM,WN,WO,WP,WQ,WR,WS,WV,WW,WX,Vb,Vc,Ve,Vf,Vg,Vi,Vj,Vk,Vm,VL,VM,VN,VO,VP,VQ,VU,VV,VW,VX,VY,Ua,Ub,Uc,Ud,Ue,Uf,Ui,Uk,Um,Un,Uo,Ur,Uv,Uw,Ux,Uy,Uz,U0,U1,U2,U3,U4,U5,U6,UD,UE,UF,UG,UL,UM,UN,UO,UT,UU,UV,UX,UY,Ta,Tb,Tc,Td,Te,Tf,Tg,Th,Tk,Tl,Tm,Tn,Tr,Ts,Tu,Tw,Tx,T3,T6,T7,T8,TB,TD,TI,Su,Sx,a1,a2,a5,cl,l1,l2,hx,wa,wb,wc,wd,we,m60,m2,m50,m30,d2,wd2,m3,s1,s2,s3,w44,g0,b1,b2,b3,b4,b5,h8]; all_goals tactic => exact rfl))
theorem r39_011_2p (hq : q.Ok) {x : P5} {i : Nat} (hi : i < 5) (hx : q.ls[i]? = some x) (ht : x.e / 2 % 3 = 2) (h8 : 128 < x.e) {L : List Ld} (hL : L.length = i) (a1 a2 : Int) (r1 r2 : List Int) (hr1 : r1.length ≤ 5) (hr2 : r2.length ≤ 5) :
    headX 0 [1,2,3,10,11] (execW progX 39 0 none (match x39l2 with | .loop _ a => a | c => c) (envL [1,2,3,10,11] [.pt 0 0,.pt 1 0,.pt 2 0,.pt 5 0,I (i : Nat)]) (hN q L i [.nilsl,.sl 6 0 1 (r1.length + 1),.sl 7 0 1 (r2.length + 1)] [some (.blk true (.cells true (I a1 :: r1.map I))),some (.blk true (.cells true (I a2 :: r2.map I)))])) =
      some ([.pt 0 0,.pt 1 0,.pt 2 0,.pt 5 0,I (i + 1 : Nat)],hN q (L ++ [x.ld]) (i + 1) [.nilsl,.sl 6 0 1 (r1.length + 1),.sl 7 0 1 (r2.length + 1 + 1)] [some (.blk true (.cells true (I a1 :: r1.map I))),some (.blk true (.cells true (I (i : Nat) :: I a2 :: r2.map I)))]) := by
  obtain ⟨wa,wb,wc,wd,we,m60,m2,m50,m30,d2,wd2,m3,s1,s2,s3⟩ := ldF (hq.ls x (List.mem_of_getElem? hx))
  have a1 := lt_ix (lt_of hx)
  have a2 := up_ix hi (by omega)
  have a5 : ((i : Int) < 5) = True := eq_true (by omega)
  have cl := cL_len L
  rw [hL] at cl
  have ca := cL_app L x.ld
  have l1 : ((i + 1) * 40 ≤ 1099511627776) = True := eq_true (by omega)
  have l2 : (i + 1 ≤ 1099511627776) = True := eq_true (by omega)
  rw [ht] at m3
  unfold hN
  rw [ca]
  unfold P5.ld Ld.row
  dsimp only
  clear ca
  generalize x.e % 2 = ee at *
  generalize 1 + x.c % 60 + x.d % 30 = cd at *
  generalize 1 + x.c % 60 = cc at *
  generalize x.a + x.b % 50 = ab at *
  generalize x.e / 2 = e2 at *
  generalize x.d % 30 = dd at *
  generalize x.c % 60 = c6 at *
  generalize x.b % 50 = bb at *
  generalize cL L = cL0 at *
  have g0 : ((0 : Int) < ((r2.length + 1 : Nat) : Int)) = True := eq_true (by omega)
  have b1 : ((r2.length + 1 + 1) * 8 ≤ 1099511627776) = True := eq_true (by omega)
  have b2 : (r2.length + 1 + 1 ≤ 1099511627776) = True := eq_true (by omega)
  have b3 : 1 + (r2.length + 1) = r2.length + 1 + 1 := by omega
  have b4 : r2.length + 1 - 1 = r2.length := rfl
  have b5 : List.take r2.length (r2.map I) = r2.map I := List.take_of_length_le (by simp)
  have h8 : ((128 : Int) < (x.e : Int)) = True := eq_true (by omega)
  unfold x39l2
  dsimp only
  (sym => (simp [irem2,iquo2,remF,Za,Zb,Zc,Zd,Ze,Zf,Zh,Zi,Zl,Zm,Zn,Zo,Zp,Zu,Zv,Zx,Zz,Z0,Z2,Z4,Z5,Z6,Z7,ZD,ZF,ZG,ZI,ZJ,ZK,ZL,ZM,ZP,ZQ,ZR,ZS,ZT,ZU,ZX,ZY,Ya,Yb,Yf,Yg,Yi,Yq,Ys,Yu,Yv,Yz,Y1,Y3,Y4,Y5,Y6,Y7,Y8,YA,YK,YN,YT,YU,YX,Xb,Xd,Xf,Xm,Xo,Xr,Xs,Xu,Wl,Wn,Wp,Wv,Ww,Wy,Wz,W0,W3,W4,W5,W6,W7,W9,WA,WB,WE,WF,WH,WI,WJ,WK,WL,WM,WN,WO,WP,WQ,WR,WS,WV,WW,WX,Vb,Vc,Ve,Vf,Vg,Vi,Vj,Vk,Vm,VL,VM,VN,VO,VP,VU,VV,VW,VX,VY,Ua,Ub,Uc,Ud,Ue,Uf,Ui,Uk,Um,Un,Uo,Ur,Uv,Uw,Ux,Uy,Uz,U0,U1,U2,U3,U4,U5,U6,UD,UE,UF,UG,UL,UM,UN,UO,UT,UU,UV,UX,UY,Ta,Tb,Tc,Td,Te,Tf,Tg,Th,Tk,Tl,Tm,Tn,Tr,Ts,Tu,Tw,Tx,T3,T6,T7,T8,TB,TC,TD,TE,TI,TU,Su,Sx,a1,a2,a5,cl,l1,l2,hx,wa,wb,wc,wd,we,m60,m2,m50,m30,d2,wd2,m3,s1,s2,s3,w44,g0,b1,b2,b3,b4,b5,h8]; all_goals tactic => exact rfl))
theorem r39_100_0 (hq : q.Ok) {x : P5} {i : Nat} (hi : i < 5) (hx : q.ls[i]? = some x) (ht : x.e / 2 % 3 = 0) (h8 : ¬ 128 < x.e) {L : List Ld} (hL : L.length = i) (a0 : Int) (r0 : List Int) (hr0 : r0.length ≤ 5) :
    headX 0 [1,2,3,10,11] (execW progX 39 0 none (match x39l2 with | .loop _ a => a | c => c) (envL [1,2,3,10,11] [.pt 0 0,.pt 1 0,.pt 2 0,.pt 5 0,I (i : Nat)]) (hN q L i [.sl 6 0 1 (r0.length + 1),.nilsl,.nilsl] [some (.blk true (.cells true (I a0 :: r0.map I)))])) =
      some ([.pt 0 0,.pt 1 0,.pt 2 0,.pt 5 0,I (i + 1 : Nat)],hN q (L ++ [x.ld]) (i + 1) [.sl 6 0 1 (r0.length + 1 + 1),.nilsl,.nilsl] [some (.blk true (.cells true (I a0 :: (r0.map I ++ [I (i : Nat)]))))]) := by
  obtain ⟨wa,wb,wc,wd,we,m60,m2,m50,m30,d2,wd2,m3,s1,s2,s3⟩ := ldF (hq.ls x (List.mem_of_getElem? hx))
  have a1 := lt_ix (lt_of hx)
  have a2 := up_ix hi (by omega)
  have a5 : ((i : Int) < 5) = True := eq_true (by omega)
  have cl := cL_len L
  rw [hL] at cl
  have ca := cL_app L x.ld
  have l1 : ((i + 1) * 40 ≤ 1099511627776) = True := eq_true (by omega)
  have l2 : (i + 1 ≤ 1099511627776) = True := eq_true (by omega)
  rw [ht] at m3
  unfold hN
  rw [ca]
  unfold P5.ld Ld.row
  dsimp only
  clear ca
  generalize x.e % 2 = ee at *
  generalize 1 + x.c % 60 + x.d % 30 = cd at *
  generalize 1 + x.c % 60 = cc at *
  generalize x.a + x.b % 50 = ab at *
  generalize x.e / 2 = e2 at *
  generalize x.d % 30 = dd at *
  generalize x.c % 60 = c6 at *
  generalize x.b % 50 = bb at *
  generalize cL L = cL0 at *
  have g0 : ((0 : Int) < ((r0.length + 1 : Nat) : Int)) = True := eq_true (by omega)
  have b1 : ((r0.length + 1 + 1) * 8 ≤ 1099511627776) = True := eq_true (by omega)
  have b2 : (r0.length + 1 + 1 ≤ 1099511627776) = True := eq_true (by omega)
  have b3 : 1 + (r0.length + 1) = r0.length + 1 + 1 := by omega
  have b4 : r0.length + 1 - 1 = r0.length := rfl
  have b5 : List.take r0.length (r0.map I) = r0.map I := List.take_of_length_le (by simp)
  have h8 : ((128 : Int) < (x.e : Int)) = False := eq_false (by omega)
  unfold x39l2
  dsimp only
  (sym => (simp [irem2,iquo2,remF,Za,Zb,Zc,Zd,Ze,Zf,Zh,Zi,Zl,Zm,Zn,Zo,Zp,Zr,Zu,Zv,Zx,Zz,Z0,Z2,Z4,Z5,Z6,Z7,ZD,ZF,ZG,ZI,ZJ,ZK,ZL,ZM,ZP,ZQ,ZR,ZS,ZT,ZU,ZV,ZX,ZY,Ya,Yf,Yg,Yi,Yq,Ys,Yu,Yv,Yz,Y0,Y1,Y3,Y5,Y6,Y7,Y8,YA,YK,YN,YT,YU,YX,Xb,Xd,Xf,Xm,Xo,Xr,Xs,Xu,Wl,Wn,Wp,Wv,Ww,Wy,Wz,W0,W3,W4,W5,W6,W7,W9,WA,WB,WE,WF,WH,WI,WJ,WK,WL,WM,WN,WO,WP,WQ,WR,WS,WV,WW,WX,Vb,Vc,Ve,Vf,Vg,Vi,Vj,Vk,Vm,VL,VM,VN,VO,VP,VQ,VU,VV,VW,VX,VY,Ua,Ub,Uc,Ud,Ue,Uf,Ui,Uk,Um,Un,Uo,Ur,Uv,Uw,Ux,Uy,Uz,U0,U1,U2,U3,U4,U5,U6,UD,UE,UF,UG,UL,UM,UN,UO,UT,UU,UV,UX,UY,Ta,Tb,Tc,Td,Te,Tf,Tg,Th,Tk,Tl,Tm,Tn,Tr,Ts,Tu,Tw,Tx,T3,T6,T7,T8,TB,TD,TI,Su,Sx,a1,a2,a5,cl,l1,l2,hx,wa,wb,wc,wd,we,m60,m2,m50,m30,d2,wd2,m3,s1,s2,s3,w44,g0,b1,b2,b3,b4,b5,h8]; all_goals tactic => exact rfl))
theorem r39_100_0p (hq : q.Ok) {x : P5} {i : Nat} (hi : i < 5) (hx : q.ls[i]? = some x) (ht : x.e / 2 % 3 = 0) (h8 : 128 < x.e) {L : List Ld} (hL : L.length = i) (a0 : Int) (r0 : List Int) (hr0 : r0.length ≤ 5) :
    headX 0 [1,2,3,10,11] (execW progX 39 0 none (match x39l2 with | .loop _ a => a | c => c) (envL [1,2,3,10,11] [.pt 0 0,.pt 1 0,.pt 2 0,.pt 5 0,I (i : Nat)]) (hN q L i [.sl 6 0 1 (r0.length + 1),.nilsl,.nilsl] [some (.blk true (.cells true (I a0 :: r0.map I)))])) =
      some ([.pt 0 0,.pt 1 0,.pt 2 0,.pt 5 0,I (i + 1 : Nat)],hN q (L ++ [x.ld]) (i + 1) [.sl 6 0 1 (r0.length + 1 + 1),.nilsl,.nilsl] [some (.blk true (.cells true (I (i : Nat) :: I a0 :: r0.map I)))]) := by
  obtain ⟨wa,wb,wc,wd,we,m60,m2,m50,m30,d2,wd2,m3,s1,s2,s3⟩ := ldF (hq.ls x (List.mem_of_getElem? hx))
  have a1 := lt_ix (lt_of hx)
  have a2 := up_ix hi (by omega)
  have a5 : ((i : Int) < 5) = True := eq_true (by omega)
  have cl := cL_len L
  rw [hL] at cl
  have ca := cL_app L x.ld
  have l1 : ((i + 1) * 40 ≤ 1099511627776) = True := eq_true (by omega)
  have l2 : (i + 1 ≤ 1099511627776) = True := eq_true (by omega)
  rw [ht] at m3
  unfold hN
  rw [ca]
  unfold P5.ld Ld.row
  dsimp only
  clear ca
  generalize x.e % 2 = ee at *
  generalize 1 + x.c % 60 + x.d % 30 = cd at *
  generalize 1 + x.c % 60 = cc at *
  generalize x.a + x.b % 50 = ab at *
  generalize x.e / 2 = e2 at *
  generalize x.d % 30 = dd at *
  generalize x.c % 60 = c6 at *
  generalize x.b % 50 = bb at *
  generalize cL L = cL0 at *
  have g0 : ((0 : Int) < ((r0.length + 1 : Nat) : Int)) = True := eq_true (by omega)
  have b1 : ((r0.length + 1 + 1) * 8 ≤ 1099511627776) = True := eq_true (by omega)
  have b2 : (r0.length + 1 + 1 ≤ 1099511627776) = True := eq_true (by omega)
  have b3 : 1 + (r0.length + 1) = r0.length + 1 + 1 := by omega
  have b4 : r0.length + 1 - 1 = r0.length := rfl
  have b5 : List.take r0.length (r0.map I) = r0.map I := List.take_of_length_le (by simp)
  have h8 : ((128 : Int) < (x.e : Int)) = True := eq_true (by omega)
  unfold x39l2
  dsimp only
  (sym => (simp [irem2,iquo2,remF,Za,Zb,Zc,Zd,Ze,Zf,Zh,Zi,Zl,Zm,Zn,Zo,Zp,Zu,Zv,Zx,Zz,Z0,Z2,Z4,Z5,Z6,Z7,ZD,ZF,ZG,ZI,ZJ,ZK,ZL,ZM,ZP,ZQ,ZR,ZS,ZT,ZU,ZX,ZY,Ya,Yb,Yf,Yg,Yi,Yq,Ys,Yu,Yv,Yz,Y0,Y1,Y3,Y5,Y6,Y7,Y8,YA,YK,YN,YT,YU,YX,Xb,Xd,Xf,Xm,Xo,Xr,Xs,Xu,Wl,Wn,Wp,Wv,Ww,Wy,Wz,W0,W3,W4,W5,W6,W7,W9,WA,WB,WE,WF,WH,WI,WJ,WK,WL,WM,WN,WO,WP,WQ,WR,WS,WV,WW,WX,Vb,Vc,Ve,Vf,Vg,Vi,Vj,Vk,Vm,VL,VM,VN,VO,VP,VU,VV,VW,VX,VY,Ua,Ub,Uc,Ud,Ue,Uf,Ui,Uk,Um,Un,Uo,Ur,Uv,Uw,Ux,Uy,Uz,U0,U1,U2,U3,U4,U5,U6,UD,UE,UF,UG,UL,UM,UN,UO,UT,UU,UV,UX,UY,Ta,Tb,Tc,Td,Te,Tf,Tg,Th,Tk,Tl,Tm,Tn,Tr,Ts,Tu,Tw,Tx,T3,T6,T7,T8,TB,TC,TD,TE,TI,TU,Su,Sx,a1,a2,a5,cl,l1,l2,hx,wa,wb,wc,wd,we,m60,m2,m50,m30,d2,wd2,m3,s1,s2,s3,w44,g0,b1,b2,b3,b4,b5,h8]; all_goals tactic => exact rfl))
theorem r39_100_1 (hq : q.Ok) {x : P5} {i : Nat} (hi : i < 5) (hx : q.ls[i]? = some x) (ht : x.e / 2 % 3 = 1) {L : List Ld} (hL : L.length = i) (a0 : Int) (r0 : List Int) (hr0 : r0.length ≤ 5) :
    headX 0 [1,2,3,10,11] (execW progX 39 0 none (match x39l2 with | .loop _ a => a | c => c) (envL [1,2,3,10,11] [.pt 0 0,.pt 1 0,.pt 2 0,.pt 5 0,I (i : Nat)]) (hN q L i [.sl 6 0 1 (r0.length + 1),.nilsl,.nilsl] [some (.blk true (.cells true (I a0 :: r0.map I)))])) =
      some ([.pt 0 0,.pt 1 0,.pt 2 0,.pt 5 0,I (i + 1 : Nat)],hN q (L ++ [x.ld]) (i + 1) [.sl 6 0 1 (r0.length + 1),.sl 7 0 1 (1),.nilsl] [some (.blk true (.cells true (I a0 :: r0.map I))),some (.blk true (.cells true ([I (i : Nat)])))]) := by
  obtain ⟨wa,wb,wc,wd,we,m60,m2,m50,m30,d2,wd2,m3,s1,s2,s3⟩ := ldF (hq.ls x (List.mem_of_getElem? hx))
  have a1 := lt_ix (lt_of hx)
  have a2 := up_ix hi (by omega)
  have a5 : ((i : Int) < 5) = True := eq_true (by omega)
  have cl := cL_len L
  rw [hL] at cl
  have ca := cL_app L x.ld
  have l1 : ((i + 1) * 40 ≤ 1099511627776) = True := eq_true (by omega)
  have l2 : (i + 1 ≤ 1099511627776) = True := eq_true (by omega)
  rw [ht] at m3
  unfold hN
  rw [ca]
  unfold P5.ld Ld.row
  dsimp only
  clear ca
  generalize x.e % 2 = ee at *
  generalize 1 + x.c % 60 + x.d % 30 = cd at *
  generalize 1 + x.c % 60 = cc at *
  generalize x.a + x.b % 50 = ab at *
  generalize x.e / 2 = e2 at *
  generalize x.d % 30 = dd at *
  generalize x.c % 60 = c6 at *
  generalize x.b % 50 = bb at *
  generalize cL L = cL0 at *
  unfold x39l2
  dsimp only
  rcases ptf ((128 : Int) < (x.e : Int)) with h8 | h8
  · (sym => (simp [irem2,iquo2,remF,Za,Zb,Zc,Zd,Ze,Zf,Zh,Zi,Zl,Zm,Zn,Zo,Zp,Zr,Zu,Zv,Zx,Zz,Z0,Z2,Z4,Z5,Z6,Z7,ZD,ZF,ZG,ZI,ZJ,ZK,ZL,ZM,ZP,ZQ,ZR,ZS,ZT,ZU,ZV,ZX,ZY,Ya,Yc,Yf,Yg,Yi,Yq,Ys,Yu,Yv,Yz,Y1,Y2,Y3,Y5,Y6,Y7,Y8,YA,YK,YN,YT,YU,YX,Xb,Xd,Xf,Xm,Xo,Xr,Xs,Xu,Wl,Wn,Wp,Wv,Ww,Wy,Wz,W0,W3,W4,W5,W6,W7,W9,WA,WB,WE,WF,WH,WI,WJ,WK,WL,WM,WN,WO,WP,WQ,WR,WS,WV,WW,WX,Vb,Vc,Ve,Vf,Vg,Vi,Vj,Vk,Vm,VL,VM,VN,VO,VP,VQ,VU,VV,VW,VX,VY,Ua,Ub,Uc,Ud,Ue,Uf,Ui,Uk,Um,Un,Uo,Ur,Uv,Uw,Ux,Uy,Uz,U0,U1,U2,U3,U4,U5,U6,UD,UE,UF,UG,UL,UM,UN,UO,UT,UU,UV,UW,UX,UY,Ta,Tb,Tc,Td,Te,Tf,Tg,Th,Tk,Tl,Tm,Tn,Tq,Tr,Ts,Tu,Tw,Tx,T3,T6,T7,T8,TD,TI,Su,Sx,a1,a2,a5,cl,l1,l2,hx,wa,wb,wc,wd,we,m60,m2,m50,m30,d2,wd2,m3,s1,s2,s3,w44,h8]; all_goals tactic => exact rfl))
  · (sym => (simp [irem2,iquo2,remF,Za,Zb,Zc,Zd,Ze,Zf,Zh,Zi,Zl,Zm,Zn,Zo,Zp,Zr,Zu,Zv,Zx,Zz,Z0,Z2,Z4,Z5,Z6,Z7,ZD,ZF,ZG,ZI,ZJ,ZK,ZL,ZM,ZP,ZQ,ZR,ZS,ZT,ZU,ZV,ZX,ZY,Ya,Yc,Yf,Yg,Yi,Yq,Ys,Yu,Yv,Yz,Y1,Y2,Y3,Y5,Y6,Y7,Y8,YA,YK,YN,YT,YU,YX,Xb,Xd,Xf,Xm,Xo,Xr,Xs,Xu,Wl,Wn,Wp,Wv,Ww,Wy,Wz,W0,W3,W4,W5,W6,W7,W9,WA,WB,WE,WF,WH,WI,WJ,WK,WL,WM,WN,WO,WP,WQ,WR,WS,WV,WW,WX,Vb,Vc,Ve,Vf,Vg,Vi,Vj,Vk,Vm,VL,VM,VN,VO,VP,VQ,VU,VV,VW,VX,VY,Ua,Ub,Uc,Ud,Ue,Uf,Ui,Uk,Um,Un,Uo,Ur,Uv,Uw,Ux,Uy,Uz,U0,U1,U2,U3,U4,U5,U6,UD,UE,UF,UG,UL,UM,UN,UO,UT,UU,UV,UW,UX,UY,Ta,Tb,Tc,Td,Te,Tf,Tg,Th,Tk,Tl,Tm,Tn,Tq,Tr,Ts,Tu,Tw,Tx,T3,T6,T7,T8,TD,TI,Su,Sx,a1,a2,a5,cl,l1,l2,hx,wa,wb,wc,wd,we,m60,m2,m50,m30,d2,wd2,m3,s1,s2,s3,w44,h8]; all_goals tactic => exact rfl))
theorem r39_100_2 (hq : q.Ok) {x : P5} {i : Nat} (hi : i < 5) (hx : q.ls[i]? = some x) (ht : x.e / 2 % 3 = 2) {L : List Ld} (hL : L.length = i) (a0 : Int) (r0 : List Int) (hr0 : r0.length ≤ 5) :
    headX 0 [1,2,3,10,11] (execW progX 39 0 none (match x39l2 with | .loop _ a => a | c => c) (envL [1,2,3,10,11] [.pt 0 0,.pt 1 0,.pt 2 0,.pt 5 0,I (i : Nat)]) (hN q L i [.sl 6 0 1 (r0.length + 1),.nilsl,.nilsl] [some (.blk true (.cells true (I a0 :: r0.map I)))])) =
      some ([.pt 0 0,.pt 1 0,.pt 2 0,.pt 5 0,I (i + 1 : Nat)],hN q (L ++ [x.ld]) (i + 1) [.sl 6 0 1 (r0.length + 1),.nilsl,.sl 7 0 1 (1)] [some (.blk true (.cells true (I a0 :: r0.map I))),some (.blk true (.cells true ([I (i : Nat)])))]) := by
  obtain ⟨wa,wb,wc,wd,we,m60,m2,m50,m30,d2,wd2,m3,s1,s2,s3⟩ := ldF (hq.ls x (List.mem_of_getElem? hx))
  have a1 := lt_ix (lt_of hx)
  have a2 := up_ix hi (by omega)
  have a5 : ((i : Int) < 5) = True := eq_true (by omega)
  have cl := cL_len L
  rw [hL] at cl
  have ca := cL_app L x.ld
  have l1 : ((i + 1) * 40 ≤ 1099511627776) = True := eq_true (by omega)
  have l2 : (i + 1 ≤ 1099511627776) = True := eq_true (by omega)
  rw [ht] at m3
  unfold hN
  rw [ca]
  unfold P5.ld Ld.row
  dsimp only
  clear ca
  generalize x.e % 2 = ee at *
  generalize 1 + x.c % 60 + x.d % 30 = cd at *
  generalize 1 + x.c % 60 = cc at *
  generalize x.a + x.b % 50 = ab at *
  generalize x.e / 2 = e2 at *
  generalize x.d % 30 = dd at *
  generalize x.c % 60 = c6 at *
  generalize x.b % 50 = bb at *
  generalize cL L = cL0 at *
  unfold x39l2
  dsimp only
  rcases ptf ((128 : Int) < (x.e : Int)) with h8 | h8
  · (sym => (simp [irem2,iquo2,remF,Za,Zb,Zc,Zd,Ze,Zf,Zh,Zi,Zl,Zm,Zn,Zo,Zp,Zr,Zu,Zv,Zx,Zz,Z0,Z2,Z4,Z5,Z6,Z7,ZD,ZF,ZG,ZI,ZJ,ZK,ZL,ZM,ZP,ZQ,ZR,ZS,ZT,ZU,ZV,ZX,ZY,Ya,Yc,Yf,Yg,Yi,Yq,Ys,Yu,Yv,Yz,Y1,Y3,Y4,Y5,Y6,Y7,Y8,YA,YK,YN,YT,YU,YX,Xb,Xd,Xf,Xm,Xo,Xr,Xs,Xu,Wl,Wn,Wp,Wv,Ww,Wy,Wz,W0,W3,W4,W5,W6,W7,W9,WA,WB,WE,WF,WH,WI,WJ,WK,WL,WM,WN,WO,WP,WQ,WR,WS,WV,WW,WX,Vb,Vc,Ve,Vf,Vg,Vi,Vj,Vk,Vm,VL,VM,VN,VO,VP,VQ,VU,VV,VW,VX,VY,Ua,Ub,Uc,Ud,Ue,Uf,Ui,Uk,Um,Un,Uo,Ur,Uv,Uw,Ux,Uy,Uz,U0,U1,U2,U3,U4,U5,U6,UD,UE,UF,UG,UL,UM,UN,UO,UT,UU,UV,UW,UX,UY,Ta,Tb,Tc,Td,Te,Tf,Tg,Th,Tk,Tl,Tm,Tn,Tq,Tr,Ts,Tu,Tw,Tx,T3,T6,T7,T8,TD,TI,Su,Sx,a1,a2,a5,cl,l1,l2,hx,wa,wb,wc,wd,we,m60,m2,m50,m30,d2,wd2,m3,s1,s2,s3,w44,h8]; all_goals tactic => exact rfl))
  · (sym => (simp [irem2,iquo2,remF,Za,Zb,Zc,Zd,Ze,Zf,Zh,Zi,Zl,Zm,Zn,Zo,Zp,Zr,Zu,Zv,Zx,Zz,Z0,Z2,Z4,Z5,Z6,Z7,ZD,ZF,ZG,ZI,ZJ,ZK,ZL,ZM,ZP,ZQ,ZR,ZS,ZT,ZU,ZV,ZX,ZY,Ya,Yc,Yf,Yg,Yi,Yq,Ys,Yu,Yv,Yz,Y1,Y3,Y4,Y5,Y6,Y7,Y8,YA,YK,YN,YT,YU,YX,Xb,Xd,Xf,Xm,Xo,Xr,Xs,Xu,Wl,Wn,Wp,Wv,Ww,Wy,Wz,W0,W3,W4,W5,W6,W7,W9,WA,WB,WE,WF,WH,WI,WJ,WK,WL,WM,WN,WO,WP,WQ,WR,WS,WV,WW,WX,Vb,Vc,Ve,Vf,Vg,Vi,Vj,Vk,Vm,VL,VM,VN,VO,VP,VQ,VU,VV,VW,VX,VY,Ua,Ub,Uc,Ud,Ue,Uf,Ui,Uk,Um,Un,Uo,Ur,Uv,Uw,Ux,Uy,Uz,U0,U1,U2,U3,U4,U5,U6,UD,UE,UF,UG,UL,UM,UN,UO,UT,UU,UV,UW,UX,UY,Ta,Tb,Tc,Td,Te,Tf,Tg,Th,Tk,Tl,Tm,Tn,Tq,Tr,Ts,Tu,Tw,Tx,T3,T6,T7,T8,TD,TI,Su,Sx,a1,a2,a5,cl,l1,l2,hx,wa,wb,wc,wd,we,m60,m2,m50,m30,d2,wd2,m3,s1,s2,s3,w44,h8]; all_goals tactic => exact rfl))
theorem r39_101_0 (hq : q.Ok) {x : P5} {i : Nat} (hi : i < 5) (hx : q.ls[i]? = some x) (ht : x.e / 2 % 3 = 0) (h8 : ¬ 128 < x.e) {L : List Ld} (hL : L.length = i) (a0 a2 : Int) (r0 r2 : List Int) (hr0 : r0.length ≤ 5) (hr2 : r2.length ≤ 5) :
    headX 0 [1,2,3,10,11] (execW progX 39 0 none (match x39l2 with | .loop _ a => a | c => c) (envL [1,2,3,10,11] [.pt 0 0,.pt 1 0,.pt 2 0,.pt 5 0,I (i : Nat)]) (hN q L i [.sl 6 0 1 (r0.length + 1),.nilsl,.sl 7 0 1 (r2.length + 1)] [some (.blk true (.cells true (I a0 :: r0.map I))),some (.blk true (.cells true (I a2 :: r2.map I)))])) =
      some ([.pt 0 0,.pt 1 0,.pt 2 0,.pt 5 0,I (i + 1 : Nat)],hN q (L ++ [x.ld]) (i + 1) [.sl 6 0 1 (r0.length + 1 + 1),.nilsl,.sl 7 0 1 (r2.length + 1)] [some (.blk true (.cells true (I a0 :: (r0.map I ++ [I (i : Nat)])))),some (.blk true (.cells true (I a2 :: r2.map I)))]) := by
  obtain ⟨wa,wb,wc,wd,we,m60,m2,m50,m30,d2,wd2,m3,s1,s2,s3⟩ := ldF (hq.ls x (List.mem_of_getElem? hx))
  have a1 := lt_ix (lt_of hx)
  have a2 := up_ix hi (by omega)
  have a5 : ((i : Int) < 5) = True := eq_true (by omega)
  have cl := cL_len L
  rw [hL] at cl
  have ca := cL_app L x.ld
  have l1 : ((i + 1) * 40 ≤ 1099511627776) = True := eq_true (by omega)
  have l2 : (i + 1 ≤ 1099511627776) = True := eq_true (by omega)
  rw [ht] at m3
  unfold hN
  rw [ca]
  unfold P5.ld Ld.row
  dsimp only
  clear ca
  generalize x.e % 2 = ee at *
  generalize 1 + x.c % 60 + x.d % 30 = cd at *
  generalize 1 + x.c % 60 = cc at *
  generalize x.a + x.b % 50 = ab at *
  generalize x.e / 2 = e2 at *
  generalize x.d % 30 = dd at *
  generalize x.c % 60 = c6 at *
  generalize x.b % 50 = bb at *
  generalize cL L = cL0 at *
  have g0 : ((0 : Int) < ((r0.length + 1 : Nat) : Int)) = True := eq_true (by omega)
  have b1 : ((r0.length + 1 + 1) * 8 ≤ 1099511627776) = True := eq_true (by omega)
  have b2 : (r0.length + 1 + 1 ≤ 1099511627776) = True := eq_true (by omega)
  have b3 : 1 + (r0.length + 1) = r0.length + 1 + 1 := by omega
  have b4 : r0.length + 1 - 1 = r0.length := rfl
  have b5 : List.take r0.length (r0.map I) = r0.map I := List.take_of_length_le (by simp)
  have h8 : ((128 : Int) < (x.e : Int)) = False := eq_false (by omega)
  unfold x39l2
  dsimp only
  (sym => (simp [irem2,iquo2,remF,Za,Zb,Zc,Zd,Ze,Zf,Zh,Zi,Zl,Zm,Zn,Zo,Zp,Zr,Zu,Zv,Zx,Zz,Z0,Z2,Z4,Z5,Z6,Z7,ZD,ZF,ZG,ZI,ZJ,ZK,ZL,ZM,ZP,ZQ,ZR,ZS,ZT,ZU,ZV,ZX,ZY,Ya,Yf,Yg,Yi,Yq,Ys,Yu,Yv,Yz,Y0,Y1,Y3,Y5,Y6,Y7,Y8,YA,YK,YN,YT,YU,YX,Xb,Xd,Xf,Xm,Xo,Xr,Xs,Xu,Wl,Wn,Wp,Wv,Ww,Wy,Wz,W0,W3,W4,W5,W6,W7,W9,WA,WB,WE,WF,WH,WI,WJ,WK,WL,WM,WN,WO,WP,WQ,WR,WS,WV,WW,WX,Vb,Vc,Ve,Vf,Vg,Vi,Vj,Vk,Vm,VL,VM,VN,VO,VP,VQ,VU,VV,VW,VX,VY,Ua,Ub,Uc,Ud,Ue,Uf,Ui,Uk,Um,Un,Uo,Ur,Uv,Uw,Ux,Uy,Uz,U0,U1,U2,U3,U4,U5,U6,UD,UE,UF,UG,UL,UM,UN,UO,UT,UU,UV,UX,UY,Ta,Tb,Tc,Td,Te,Tf,Tg,Th,Tk,Tl,Tm,Tn,Tr,Ts,Tu,Tw,Tx,T3,T6,T7,T8,TB,TD,TI,Su,Sx,a1,a2,a5,cl,l1,l2,hx,wa,wb,wc,wd,we,m60,m2,m50,m30,d2,wd2,m3,s1,s2,s3,w44,g0,b1,b2,b3,b4,b5,h8]; all_goals tactic => exact rfl))
theorem r39_101_0p (hq : q.Ok) {x : P5} {i : Nat} (hi : i < 5) (hx : q.ls[i]? = some x) (ht : x.e / 2 % 3 = 0) (h8 : 128 < x.e) {L : List Ld} (hL : L.length = i) (a0 a2 : Int) (r0 r2 : List Int) (hr0 : r0.length ≤ 5) (hr2 : r2.length ≤ 5) :
    headX 0 [1,2,3,10,11] (execW progX 39 0 none (match x39l2 with | .loop _ a => a | c => c) (envL [1,2,3,10,11] [.pt 0 0,.pt 1 0,.pt 2 0,.pt 5 0,I (i : Nat)]) (hN q L i [.sl 6 0 1 (r0.length + 1),.nilsl,.sl 7 0 1 (r2.length + 1)] [some (.blk true (.cells true (I a0 :: r0.map I))),some (.blk true (.cells true (I a2 :: r2.map I)))])) =
      some ([.pt 0 0,.pt 1 0,.pt 2 0,.pt 5 0,I (i + 1 : Nat)],hN q (L ++ [x.ld]) (i + 1) [.sl 6 0 1 (r0.length + 1 + 1),.nilsl,.sl 7 0 1 (r2.length + 1)] [some (.blk true (.cells true (I (i : Nat) :: I a0 :: r0.map I))),some (.blk true (.cells true (I a2 :: r2.map I)))]) := by
  obtain ⟨wa,wb,wc,wd,we,m60,m2,m50,m30,d2,wd2,m3,s1,s2,s3⟩ := ldF (hq.ls x (List.mem_of_getElem? hx))
  have a1 := lt_ix (lt_of hx)
  have a2 := up_ix hi (by omega)
  have a5 : ((i : Int) < 5) = True := eq_true (by omega)
  have cl := cL_len L
  rw [hL] at cl
  have ca := cL_app L x.ld
  have l1 : ((i + 1) * 40 ≤ 1099511627776) = True := eq_true (by omega)
  have l2 : (i + 1 ≤ 1099511627776) = True := eq_true (by omega)
  rw [ht] at m3
  unfold hN
  rw [ca]
  unfold P5.ld Ld.row
  dsimp only
  clear ca
  generalize x.e % 2 = ee at *
  generalize 1 + x.c % 60 + x.d % 30 = cd at *
  generalize 1 + x.c % 60 = cc at *
  generalize x.a + x.b % 50 = ab at *
  generalize x.e / 2 = e2 at *
  generalize x.d % 30 = dd at *
  generalize x.c % 60 = c6 at *
  generalize x.b % 50 = bb at *
  generalize cL L = cL0 at *
  have g0 : ((0 : Int) < ((r0.length + 1 : Nat) : Int)) = True := eq_true (by omega)
  have b1 : ((r0.length + 1 + 1) * 8 ≤ 1099511627776) = True := eq_true (by omega)
  have b2 : (r0.length + 1 + 1 ≤ 1099511627776) = True := eq_true (by omega)
  have b3 : 1 + (r0.length + 1) = r0.length + 1 + 1 := by omega
  have b4 : r0.length + 1 - 1 = r0.length := rfl
  have b5 : List.take r0.length (r0.map I) = r0.map I := List.take_of_length_le (by simp)
  have h8 : ((128 : Int) < (x.e : Int)) = True := eq_true (by omega)
  unfold x39l2
  dsimp only
  (sym => (simp [irem2,iquo2,remF,Za,Zb,Zc,Zd,Ze,Zf,Zh,Zi,Zl,Zm,Zn,Zo,Zp,Zu,Zv,Zx,Zz,Z0,Z2,Z4,Z5,Z6,Z7,ZD,ZF,ZG,ZI,ZJ,ZK,ZL,ZM,ZP,ZQ,ZR,ZS,ZT,ZU,ZX,ZY,Ya,Yb,Yf,Yg,Yi,Yq,Ys,Yu,Yv,Yz,Y0,Y1,Y3,Y5,Y6,Y7,Y8,YA,YK,YN,YT,YU,YX,Xb,Xd,Xf,Xm,Xo,Xr,Xs,Xu,Wl,Wn,Wp,Wv,Ww,Wy,Wz,W0,W3,W4,W5,W6,W7,W9,WA,WB,WE,WF,WH,WI,WJ,WK,WL,WM,WN,WO,WP,WQ,WR,WS,WV,WW,WX,Vb,Vc,Ve,Vf,Vg,Vi,Vj,Vk,Vm,VL,VM,VN,VO,VP,VU,VV,VW,VX,VY,Ua,Ub,Uc,Ud,Ue,Uf,Ui,Uk,Um,Un,Uo,Ur,Uv,Uw,Ux,Uy,Uz,U0,U1,U2,U3,U4,U5,U6,UD,UE,UF,UG,UL,UM,UN,UO,UT,UU,UV,UX,UY,Ta,Tb,Tc,Td,Te,Tf,Tg,Th,Tk,Tl,Tm,Tn,Tr,Ts,Tu,Tw,Tx,T3,T6,T7,T8,TB,TC,TD,TE,TI,TU,Su,Sx,a1,a2,a5,cl,l1,l2,hx,wa,wb,wc,wd,we,m60,m2,m50,m30,d2,wd2,m3,s1,s2,s3,w44,g0,b1,b2,b3,b4,b5,h8]; all_goals tactic => exact rfl))
theorem r39_101_1 (hq : q.Ok) {x : P5} {i : Nat} (hi : i < 5) (hx : q.ls[i]? = some x) (ht : x.e / 2 % 3 = 1) {L : List Ld} (hL : L.length = i) (a0 a2 : Int) (r0 r2 : List Int) (hr0 : r0.length ≤ 5) (hr2 : r2.length ≤ 5) :
    headX 0 [1,2,3,10,11] (execW progX 39 0 none (match x39l2 with | .loop _ a => a | c => c) (envL [1,2,3,10,11] [.pt 0 0,.pt 1 0,.pt 2 0,.pt 5 0,I (i : Nat)]) (hN q L i [.sl 6 0 1 (r0.length + 1),.nilsl,.sl 7 0 1 (r2.length + 1)] [some (.blk true (.cells true (I a0 :: r0.map I))),some (.blk true (.cells true (I a2 :: r2.map I)))])) =
      some ([.pt 0 0,.pt 1 0,.pt 2 0,.pt 5 0,I (i + 1 : Nat)],hN q (L ++ [x.ld]) (i + 1) [.sl 6 0 1 (r0.length + 1),.sl 7 0 1 (1),.sl 8 0 1 (r2.length + 1)] [some (.blk true (.cells true (I a0 :: r0.map I))),some (.blk true (.cells true ([I (i : Nat)]))),some (.blk true (.cells true (I a2 :: r2.map I)))]) := by
  obtain ⟨wa,wb,wc,wd,we,m60,m2,m50,m30,d2,wd2,m3,s1,s2,s3⟩ := ldF (hq.ls x (List.mem_of_getElem? hx))
  have a1 := lt_ix (lt_of hx)
  have a2 := up_ix hi (by omega)
  have a5 : ((i : Int) < 5) = True := eq_true (by omega)
  have cl := cL_len L
  rw [hL] at cl
  have ca := cL_app L x.ld
  have l1 : ((i + 1) * 40 ≤ 1099511627776) = True := eq_true (by omega)
  have l2 : (i + 1 ≤ 1099511627776) = True := eq_true (by omega)
  rw [ht] at m3
  unfold hN
  rw [ca]
  unfold P5.ld Ld.row
  dsimp only
  clear ca
  generalize x.e % 2 = ee at *
  generalize 1 + x.c % 60 + x.d % 30 = cd at *
  generalize 1 + x.c % 60 = cc at *
  generalize x.a + x.b % 50 = ab at *
  generalize x.e / 2 = e2 at *
  generalize x.d % 30 = dd at *
  generalize x.c % 60 = c6 at *
  generalize x.b % 50 = bb at *
  generalize cL L = cL0 at *
  unfold x39l2
  dsimp only
  rcases ptf ((128 : Int) < (x.e : Int)) with h8 | h8
  · (sym => (simp [irem2,iquo2,remF,Za,Zb,Zc,Zd,Ze,Zf,Zh,Zi,Zl,Zm,Zn,Zo,Zp,Zr,Zu,Zv,Zx,Zz,Z0,Z2,Z4,Z5,Z6,Z7,ZD,ZF,ZG,ZI,ZJ,ZK,ZL,ZM,ZP,ZQ,ZR,ZS,ZT,ZU,ZV,ZX,ZY,Ya,Yc,Yf,Yg,Yi,Yq,Ys,Yu,Yv,Yz,Y1,Y2,Y3,Y5,Y6,Y7,Y8,YA,YK,YN,YT,YU,YX,Xb,Xd,Xf,Xm,Xo,Xr,Xs,Xu,Wl,Wn,Wp,Wv,Ww,Wy,Wz,W0,W3,W4,W5,W6,W7,W9,WA,WB,WE,WF,WH,WI,WJ,WK,WL,WM,WN,WO,WP,WQ,WR,WS,WV,WW,WX,Vb,Vc,Ve,Vf,Vg,Vi,Vj,Vk,Vm,VL,VM,VN,VO,VP,VQ,VU,VV,VW,VX,VY,Ua,Ub,Uc,Ud,Ue,Uf,Ui,Uk,Um,Un,Uo,Ur,Uv,Uw,Ux,Uy,Uz,U0,U1,U2,U3,U4,U5,U6,UD,UE,UF,UG,UL,UM,UN,UO,UT,UU,UV,UW,UX,UY,Ta,Tb,Tc,Td,Te,Tf,Tg,Th,Tk,Tl,Tm,Tn,Tq,Tr,Ts,Tu,Tw,Tx,T3,T6,T7,T8,TD,TI,Su,Sx,a1,a2,a5,cl,l1,l2,hx,wa,wb,wc,wd,we,m60,m2,m50,m30,d2,wd2,m3,s1,s2,s3,w44,h8]; all_goals tactic => exact rfl))
  · (sym => (simp [irem2,iquo2,remF,Za,Zb,Zc,Zd,Ze,Zf,Zh,Zi,Zl,Zm,Zn,Zo,Zp,Zr,Zu,Zv,Zx,Zz,Z0,Z2,Z4,Z5,Z6,Z7,ZD,ZF,ZG,ZI,ZJ,ZK,ZL,ZM,ZP,ZQ,ZR,ZS,ZT,ZU,ZV,ZX,ZY,Ya,Yc,Yf,Yg,Yi,Yq,Ys,Yu,Yv,Yz,Y1,Y2,Y3,Y5,Y6,Y7,Y8,YA,YK,YN,YT,YU,YX,Xb,Xd,Xf,Xm,Xo,Xr,Xs,Xu,Wl,Wn,Wp,Wv,Ww,Wy,Wz,W0,W3,W4,W5,W6,W7,W9,WA,WB,WE,WF,WH,WI,WJ,WK,WL,WM,WN,WO,WP,WQ,WR,WS,WV,WW,WX,Vb,Vc,Ve,Vf,Vg,Vi,Vj,Vk,Vm,VL,VM,VN,VO,VP,VQ,VU,VV,VW,VX,VY,Ua,Ub,Uc,Ud,Ue,Uf,Ui,Uk,Um,Un,Uo,Ur,Uv,Uw,Ux,Uy,Uz,U0,U1,U2,U3,U4,U5,U6,UD,UE,UF,UG,UL,UM,UN,UO,UT,UU,UV,UW,UX,UY,Ta,Tb,Tc,Td,Te,Tf,Tg,Th,Tk,Tl,Tm,Tn,Tq,Tr,Ts,Tu,Tw,Tx,T3,T6,T7,T8,TD,TI,Su,Sx,a1,a2,a5,cl,l1,l2,hx,wa,wb,wc,wd,we,m60,m2,m50,m30,d2,wd2,m3,s1,s2,s3,w44,h8]; all_goals tactic => exact rfl))
theorem r39_101_2 (hq : q.Ok) {x : P5} {i : Nat} (hi : i < 5) (hx : q.ls[i]? = some x) (ht : x.e / 2 % 3 = 2) (h8 : ¬ 128 < x.e) {L : List Ld} (hL : L.length = i) (a0 a2 : Int) (r0 r2 : List Int) (hr0 : r0.length ≤ 5) (hr2 : r2.length ≤ 5) :
    headX 0 [1,2,3,10,11] (execW progX 39 0 none (match x39l2 with | .loop _ a => a | c => c) (envL [1,2,3,10,11] [.pt 0 0,.pt 1 0,.pt 2 0,.pt 5 0,I (i : Nat)]) (hN q L i [.sl 6 0 1 (r0.length + 1),.nilsl,.sl 7 0 1 (r2.length + 1)] [some (.blk true (.cells true (I a0 :: r0.map I))),some (.blk true (.cells true (I a2 :: r2.map I)))])) =
      some ([.pt 0 0,.pt 1 0,.pt 2 0,.pt 5 0,I (i + 1 : Nat)],hN q (L ++ [x.ld]) (i + 1) [.sl 6 0 1 (r0.length + 1),.nilsl,.sl 7 0 1 (r2.length + 1 + 1)] [some (.blk true (.cells true (I a0 :: r0.map I))),some (.blk true (.cells true (I a2 :: (r2.map I ++ [I (i : Nat)]))))]) := by
  obtain ⟨wa,wb,wc,wd,we,m60,m2,m50,m30,d2,wd2,m3,s1,s2,s3⟩ := ldF (hq.ls x (List.mem_of_getElem? hx))
  have a1 := lt_ix (lt_of hx)
  have a2 := up_ix hi (by omega)
  have a5 : ((i : Int) < 5) = True := eq_true (by omega)
  have cl := cL_len L
  rw [hL] at cl
  have ca := cL_app L x.ld
  have l1 : ((i + 1) * 40 ≤ 1099511627776) = True := eq_true (by omega)
  have l2 : (i + 1 ≤ 1099511627776) = True := eq_true (by omega)
  rw [ht] at m3
  unfold hN
  rw [ca]
  unfold P5.ld Ld.row
  dsimp only
  clear ca
  generalize x.e % 2 = ee at *
  generalize 1 + x.c % 60 + x.d % 30 = cd at *
  generalize 1 + x.c % 60 = cc at *
  generalize x.a + x.b % 50 = ab at *
  generalize x.e / 2 = e2 at *
  generalize x.d % 30 = dd at *
  generalize x.c % 60 = c6 at *
  generalize x.b % 50 = bb at *
  generalize cL L = cL0 at *
  have g0 : ((0 : Int) < ((r2.length + 1 : Nat) : Int)) = True := eq_true (by omega)
  have b1 : ((r2.length + 1 + 1) * 8 ≤ 1099511627776) = True := eq_true (by omega)
  have b2 : (r2.length + 1 + 1 ≤ 1099511627776) = True := eq_true (by omega)
  have b3 : 1 + (r2.length + 1) = r2.length + 1 + 1 := by omega
  have b4 : r2.length + 1 - 1 = r2.length := rfl
  have b5 : List.take r2.length (r2.map I) = r2.map I := List.take_of_length_le (by simp)
  have h8 : ((128 : Int) < (x.e : Int)) = False := eq_false (by omega)
  unfold x39l2
  dsimp only
  (sym => (simp [irem2,iquo2,remF,Za,Zb,Zc,Zd,Ze,Zf,Zh,Zi,Zl,Zm,Zn,Zo,Zp,Zr,Zu,Zv,Zx,Zz,Z0,Z2,Z4,Z5,Z6,Z7,ZD,ZF,ZG,ZI,ZJ,ZK,ZL,ZM,ZP,ZQ,ZR,ZS,ZT,ZU,ZV,ZX,ZY,Ya,Yf,Yg,Yi,Yq,Ys,Yu,Yv,Yz,Y1,Y3,Y4,Y5,Y6,Y7,Y8,YA,YK,YN,YT,YU,YX,Xb,Xd,Xf,Xm,Xo,Xr,Xs,Xu,Wl,Wn,Wp,Wv,Ww,Wy,Wz,W0,W3,W4,W5,W6,W7,W9,WA,WB,WE,WF,WH,WI,WJ,WK,WL,WM,WN,WO,WP,WQ,WR,WS,WV,WW,WX,Vb,Vc,Ve,Vf,Vg,Vi,Vj,Vk,Vm,VL,VM,VN,VO,VP,VQ,VU,VV,VW,VX,VY,Ua,Ub,Uc,Ud,Ue,Uf,Ui,Uk,Um,Un,Uo,Ur,Uv,Uw,Ux,Uy,Uz,U0,U1,U2,U3,U4,U5,U6,UD,UE,UF,UG,UL,UM,UN,UO,UT,UU,UV,UX,UY,Ta,Tb,Tc,Td,Te,Tf,Tg,Th,Tk,Tl,Tm,Tn,Tr,Ts,Tu,Tw,Tx,T3,T6,T7,T8,TB,TD,TI,Su,Sx,a1,a2,a5,cl,l1,l2,hx,wa,wb,wc,wd,we,m60,m2,m50,m30,d2,wd2,m3,s1,s2,s3,w44,g0,b1,b2,b3,b4,b5,h8]; all_goals tactic => exact rfl))
theorem r39_101_2p (hq : q.Ok) {x : P5} {i : Nat} (hi : i < 5) (hx : q.ls[i]? = some x) (ht : x.e / 2 % 3 = 2) (h8 : 128 < x.e) {L : List Ld} (hL : L.length = i) (a0 a2 : Int) (r0 r2 : List Int) (hr0 : r0.length ≤ 5) (hr2 : r2.length ≤ 5) :
    headX 0 [1,2,3,10,11] (execW progX 39 0 none (match x39l2 with | .loop _ a => a | c => c) (envL [1,2,3,10,11] [.pt 0 0,.pt 1 0,.pt 2 0,.pt 5 0,I (i : Nat)]) (hN q L i [.sl 6 0 1 (r0.length + 1),.nilsl,.sl 7 0 1 (r2.length + 1)] [some (.blk true (.cells true (I a0 :: r0.map I))),some (.blk true (.cells true (I a2 :: r2.map I)))])) =
      some ([.pt 0 0,.pt 1 0,.pt 2 0,.pt 5 0,I (i + 1 : Nat)],hN q (L ++ [x.ld]) (i + 1) [.sl 6 0 1 (r0.length + 1),.nilsl,.sl 7 0 1 (r2.length + 1 + 1)] [some (.blk true (.cells true (I a0 :: r0.map I))),some (.blk true (.cells true (I (i : Nat) :: I a2 :: r2.map I)))]) := by
  obtain ⟨wa,wb,wc,wd,we,m60,m2,m50,m30,d2,wd2,m3,s1,s2,s3⟩ := ldF (hq.ls x (List.mem_of_getElem? hx))
  have a1 := lt_ix (lt_of hx)
  have a2 := up_ix hi (by omega)
  have a5 : ((i : Int) < 5) = True := eq_true (by omega)
  have cl := cL_len L
  rw [hL] at cl
  have ca := cL_app L x.ld
  have l1 : ((i + 1) * 40 ≤ 1099511627776) = True := eq_true (by omega)
  have l2 : (i + 1 ≤ 1099511627776) = True := eq_true (by omega)
  rw [ht] at m3
  unfold hN
  rw [ca]
  unfold P5.ld Ld.row
  dsimp only
  clear ca
  generalize x.e % 2 = ee at *
  generalize 1 + x.c % 60 + x.d % 30 = cd at *
  generalize 1 + x.c % 60 = cc at *
  generalize x.a + x.b % 50 = ab at *
  generalize x.e / 2 = e2 at *
  generalize x.d % 30 = dd at *
  generalize x.c % 60 = c6 at *
  generalize x.b % 50 = bb at *
  generalize cL L = cL0 at *
  have g0 : ((0 : Int) < ((r2.length + 1 : Nat) : Int)) = True := eq_true (by omega)
  have b1 : ((r2.length + 1 + 1) * 8 ≤ 1099511627776) = True := eq_true (by omega)
  have b2 : (r2.length + 1 + 1 ≤ 1099511627776) = True := eq_true (by omega)
  have b3 : 1 + (r2.length + 1) = r2.length + 1 + 1 := by omega
  have b4 : r2.length + 1 - 1 = r2.length := rfl
  have b5 : List.take r2.length (r2.map I) = r2.map I := List.take_of_length_le (by simp)
  have h8 : ((128 : Int) < (x.e : Int)) = True := eq_true (by omega)
  unfold x39l2
  dsimp only
  (sym => (simp [irem2,iquo2,remF,Za,Zb,Zc,Zd,Ze,Zf,Zh,Zi,Zl,Zm,Zn,Zo,Zp,Zu,Zv,Zx,Zz,Z0,Z2,Z4,Z5,Z6,Z7,ZD,ZF,ZG,ZI,ZJ,ZK,ZL,ZM,ZP,ZQ,ZR,ZS,ZT,ZU,ZX,ZY,Ya,Yb,Yf,Yg,Yi,Yq,Ys,Yu,Yv,Yz,Y1,Y3,Y4,Y5,Y6,Y7,Y8,YA,YK,YN,YT,YU,YX,Xb,Xd,Xf,Xm,Xo,Xr,Xs,Xu,Wl,Wn,Wp,Wv,Ww,Wy,Wz,W0,W3,W4,W5,W6,W7,W9,WA,WB,WE,WF,WH,WI,WJ,WK,WL,WM,WN,WO,WP,WQ,WR,WS,WV,WW,WX,Vb,Vc,Ve,Vf,Vg,Vi,Vj,Vk,Vm,VL,VM,VN,VO,VP,VU,VV,VW,VX,VY,Ua,Ub,Uc,Ud,Ue,Uf,Ui,Uk,Um,Un,Uo,Ur,Uv,Uw,Ux,Uy,Uz,U0,U1,U2,U3,U4,U5,U6,UD,UE,UF,UG,UL,UM,UN,UO,UT,UU,UV,UX,UY,Ta,Tb,Tc,Td,Te,Tf,Tg,Th,Tk,Tl,Tm,Tn,Tr,Ts,Tu,Tw,Tx,T3,T6,T7,T8,TB,TC,TD,TE,TI,TU,Su,Sx,a1,a2,a5,cl,l1,l2,hx,wa,wb,wc,wd,we,m60,m2,m50,m30,d2,wd2,m3,s1,s2,s3,w44,g0,b1,b2,b3,b4,b5,h8]; all_goals tactic => exact rfl))
theorem r39_110_0 (hq : q.Ok) {x : P5} {i : Nat} (hi : i < 5) (hx : q.ls[i]? = some x) (ht : x.e / 2 % 3 = 0) (h8 : ¬ 128 < x.e) {L : List Ld} (hL : L.length = i) (a0 a1 : Int) (r0 r1 : List Int) (hr0 : r0.length ≤ 5) (hr1 : r1.length ≤ 5) :
    headX 0 [1,2,3,10,11] (execW progX 39 0 none (match x39l2 with | .loop _ a => a | c => c) (envL [1,2,3,10,11] [.pt 0 0,.pt 1 0,.pt 2 0,.pt 5 0,I (i : Nat)]) (hN q L i [.sl 6 0 1 (r0.length + 1),.sl 7 0 1 (r1.length + 1),.nilsl] [some (.blk true (.cells true (I a0 :: r0.map I))),some (.blk true (.cells true (I a1 :: r1.map I)))])) =
      some ([.pt 0 0,.pt 1 0,.pt 2 0,.pt 5 0,I (i + 1 : Nat)],hN q (L ++ [x.ld]) (i + 1) [.sl 6 0 1 (r0.length + 1 + 1),.sl 7 0 1 (r1.length + 1),.nilsl] [some (.blk true (.cells true (I a0 :: (r0.map I ++ [I (i : Nat)])))),some (.blk true (.cells true (I a1 :: r1.map I)))]) := by
  obtain ⟨wa,wb,wc,wd,we,m60,m2,m50,m30,d2,wd2,m3,s1,s2,s3⟩ := ldF (hq.ls x (List.mem_of_getElem? hx))
  have a1 := lt_ix (lt_of hx)
  have a2 := up_ix hi (by omega)
  have a5 : ((i : Int) < 5) = True := eq_true (by omega)
  have cl := cL_len L
  rw [hL] at cl
  have ca := cL_app L x.ld
  have l1 : ((i + 1) * 40 ≤ 1099511627776) = True := eq_true (by omega)
  have l2 : (i + 1 ≤ 1099511627776) = True := eq_true (by omega)
  rw [ht] at m3
  unfold hN
  rw [ca]
  unfold P5.ld Ld.row
  dsimp only
  clear ca
  generalize x.e % 2 = ee at *
  generalize 1 + x.c % 60 + x.d % 30 = cd at *
  generalize 1 + x.c % 60 = cc at *
  generalize x.a + x.b % 50 = ab at *
  generalize x.e / 2 = e2 at *
  generalize x.d % 30 = dd at *
  generalize x.c % 60 = c6 at *
  generalize x.b % 50 = bb at *
  generalize cL L = cL0 at *
  have g0 : ((0 : Int) < ((r0.length + 1 : Nat) : Int)) = True := eq_true (by omega)
  have b1 : ((r0.length + 1 + 1) * 8 ≤ 1099511627776) = True := eq_true (by omega)
  have b2 : (r0.length + 1 + 1 ≤ 1099511627776) = True := eq_true (by omega)
  have b3 : 1 + (r0.length + 1) = r0.length + 1 + 1 := by omega
  have b4 : r0.length + 1 - 1 = r0.length := rfl
  have b5 : List.take r0.length (r0.map I) = r0.map I := List.take_of_length_le (by simp)
  have h8 : ((128 : Int) < (x.e : Int)) = False := eq_false (by omega)
  unfold x39l2
  dsimp only
  (sym => (simp [irem2,iquo2,remF,Za,Zb,Zc,Zd,Ze,Zf,Zh,Zi,Zl,Zm,Zn,Zo,Zp,Zr,Zu,Zv,Zx,Zz,Z0,Z2,Z4,Z5,Z6,Z7,ZD,ZF,ZG,ZI,ZJ,ZK,ZL,ZM,ZP,ZQ,ZR,ZS,ZT,ZU,ZV,ZX,ZY,Ya,Yf,Yg,Yi,Yq,Ys,Yu,Yv,Yz,Y0,Y1,Y3,Y5,Y6,Y7,Y8,YA,YK,YN,YT,YU,YX,Xb,Xd,Xf,Xm,Xo,Xr,Xs,Xu,Wl,Wn,Wp,Wv,Ww,Wy,Wz,W0,W3,W4,W5,W6,W7,W9,WA,WB,WE,WF,WH,WI,WJ,WK,WL,WM,WN,WO,WP,WQ,WR,WS,WV,WW,WX,Vb,Vc,Ve,Vf,Vg,Vi,Vj,Vk,Vm,VL,VM,VN,VO,VP,VQ,VU,VV,VW,VX,VY,Ua,Ub,Uc,Ud,Ue,Uf,Ui,Uk,Um,Un,Uo,Ur,Uv,Uw,Ux,Uy,Uz,U0,U1,U2,U3,U4,U5,U6,UD,UE,UF,UG,UL,UM,UN,UO,UT,UU,UV,UX,UY,Ta,Tb,Tc,Td,Te,Tf,Tg,Th,Tk,Tl,Tm,Tn,Tr,Ts,Tu,Tw,Tx,T3,T6,T7,T8,TB,TD,TI,Su,Sx,a1,a2,a5,cl,l1,l2,hx,wa,wb,wc,wd,we,m60,m2,m50,m30,d2,wd2,m3,s1,s2,s3,w44,g0,b1,b2,b3,b4,b5,h8]; all_goals tactic => exact rfl))
theorem r39_110_0p (hq : q.Ok) {x : P5} {i : Nat} (hi : i < 5) (hx : q.ls[i]? = some x) (ht : x.e / 2 % 3 = 0) (h8 : 128 < x.e) {L : List Ld} (hL : L.length = i) (a0 a1 : Int) (r0 r1 : List Int) (hr0 : r0.length ≤ 5) (hr1 : r1.length ≤ 5) :
    headX 0 [1,2,3,10,11] (execW progX 39 0 none (match x39l2 with | .loop _ a => a | c => c) (envL [1,2,3,10,11] [.pt 0 0,.pt 1 0,.pt 2 0,.pt 5 0,I (i : Nat)]) (hN q L i [.sl 6 0 1 (r0.length + 1),.sl 7 0 1 (r1.length + 1),.nilsl] [some (.blk true (.cells true (I a0 :: r0.map I))),some (.blk true (.cells true (I a1 :: r1.map I)))])) =
      some ([.pt 0 0,.pt 1 0,.pt 2 0,.pt 5 0,I (i + 1 : Nat)],hN q (L ++ [x.ld]) (i + 1) [.sl 6 0 1 (r0.length + 1 + 1),.sl 7 0 1 (r1.length + 1),.nilsl] [some (.blk true (.cells true (I (i : Nat) :: I a0 :: r0.map I))),some (.blk true (.cells true (I a1 :: r1.map I)))]) := by
  obtain ⟨wa,wb,wc,wd,we,m60,m2,m50,m30,d2,wd2,m3,s1,s2,s3⟩ := ldF (hq.ls x (List.mem_of_getElem? hx))
  have a1 := lt_ix (lt_of hx)
  have a2 := up_ix hi (by omega)
  have a5 : ((i : Int) < 5) = True := eq_true (by omega)
  have cl := cL_len L
  rw [hL] at cl
  have ca := cL_app L x.ld
  have l1 : ((i + 1) * 40 ≤ 1099511627776) = True := eq_true (by omega)
  have l2 : (i + 1 ≤ 1099511627776) = True := eq_true (by omega)
  rw [ht] at m3
  unfold hN
  rw [ca]
  unfold P5.ld Ld.row
  dsimp only
  clear ca
  generalize x.e % 2 = ee at *
  generalize 1 + x.c % 60 + x.d % 30 = cd at *
  generalize 1 + x.c % 60 = cc at *
  generalize x.a + x.b % 50 = ab at *
  generalize x.e / 2 = e2 at *
  generalize x.d % 30 = dd at *
  generalize x.c % 60 = c6 at *
  generalize x.b % 50 = bb at *
  generalize cL L = cL0 at *
  have g0 : ((0 : Int) < ((r0.length + 1 : Nat) : Int)) = True := eq_true (by omega)
  have b1 : ((r0.length + 1 + 1) * 8 ≤ 1099511627776) = True := eq_true (by omega)
  have b2 : (r0.length + 1 + 1 ≤ 1099511627776) = True := eq_true (by omega)
  have b3 : 1 + (r0.length + 1) = r0.length + 1 + 1 := by omega
  have b4 : r0.length + 1 - 1 = r0.length := rfl
  have b5 : List.take r0.length (r0.map I) = r0.map I := List.take_of_length_le (by simp)
  have h8 : ((128 : Int) < (x.e : Int)) = True := eq_true (by omega)
  unfold x39l2
  dsimp only
  (sym => (simp [irem2,iquo2,remF,Za,Zb,Zc,Zd,Ze,Zf,Zh,Zi,Zl,Zm,Zn,Zo,Zp,Zu,Zv,Zx,Zz,Z0,Z2,Z4,Z5,Z6,Z7,ZD,ZF,ZG,ZI,ZJ,ZK,ZL,ZM,ZP,ZQ,ZR,ZS,ZT,ZU,ZX,ZY,Ya,Yb,Yf,Yg,Yi,Yq,Ys,Yu,Yv,Yz,Y0,Y1,Y3,Y5,Y6,Y7,Y8,YA,YK,YN,YT,YU,YX,Xb,Xd,Xf,Xm,Xo,Xr,Xs,Xu,Wl,Wn,Wp,Wv,Ww,Wy,Wz,W0,W3,W4,W5,W6,W7,W9,WA,WB,WE,WF,WH,WI,WJ,WK,WL,WM,WN,WO,WP,WQ,WR,WS,WV,WW,WX,Vb,Vc,Ve,Vf,Vg,Vi,Vj,Vk,Vm,VL,VM,VN,VO,VP,VU,VV,VW,VX,VY,Ua,Ub,Uc,Ud,Ue,Uf,Ui,Uk,Um,Un,Uo,Ur,Uv,Uw,Ux,Uy,Uz,U0,U1,U2,U3,U4,U5,U6,UD,UE,UF,UG,UL,UM,UN,UO,UT,UU,UV,UX,UY,Ta,Tb,Tc,Td,Te,Tf,Tg,Th,Tk,Tl,Tm,Tn,Tr,Ts,Tu,Tw,Tx,T3,T6,T7,T8,TB,TC,TD,TE,TI,TU,Su,Sx,a1,a2,a5,cl,l1,l2,hx,wa,wb,wc,wd,we,m60,m2,m50,m30,d2,wd2,m3,s1,s2,s3,w44,g0,b1,b2,b3,b4,b5,h8]; all_goals tactic => exact rfl))
theorem r39_110_1 (hq : q.Ok) {x : P5} {i : Nat} (hi : i < 5) (hx : q.ls[i]? = some x) (ht : x.e / 2 % 3 = 1) (h8 : ¬ 128 < x.e) {L : List Ld} (hL : L.length = i) (a0 a1 : Int) (r0 r1 : List Int) (hr0 : r0.length ≤ 5) (hr1 : r1.length ≤ 5) :
    headX 0 [1,2,3,10,11] (execW progX 39 0 none (match x39l2 with | .loop _ a => a | c => c) (envL [1,2,3,10,11] [.pt 0 0,.pt 1 0,.pt 2 0,.pt 5 0,I (i : Nat)]) (hN q L i [.sl 6 0 1 (r0.length + 1),.sl 7 0 1 (r1.length + 1),.nilsl] [some (.blk true (.cells true (I a0 :: r0.map I))),some (.blk true (.cells true (I a1 :: r1.map I)))])) =
      some ([.pt 0 0,.pt 1 0,.pt 2 0,.pt 5 0,I (i + 1 : Nat)],hN q (L ++ [x.ld]) (i + 1) [.sl 6 0 1 (r0.length + 1),.sl 7 0 1 (r1.length + 1 + 1),.nilsl] [some (.blk true (.cells true (I a0 :: r0.map I))),some (.blk true (.cells true (I a1 :: (r1.map I ++ [I (i : Nat)]))))]) := by
  obtain ⟨wa,wb,wc,wd,we,m60,m2,m50,m30,d2,wd2,m3,s1,s2,s3⟩ := ldF (hq.ls x (List.mem_of_getElem? hx))
  have a1 := lt_ix (lt_of hx)
  have a2 := up_ix hi (by omega)
  have a5 : ((i : Int) < 5) = True := eq_true (by omega)
  have cl := cL_len L
  rw [hL] at cl
  have ca := cL_app L x.ld
  have l1 : ((i + 1) * 40 ≤ 1099511627776) = True := eq_true (by omega)
  have l2 : (i + 1 ≤ 1099511627776) = True := eq_true (by omega)
  rw [ht] at m3
  unfold hN
  rw [ca]
  unfold P5.ld Ld.row
  dsimp only
  clear ca
  generalize x.e % 2 = ee at *
  generalize 1 + x.c % 60 + x.d % 30 = cd at *
  generalize 1 + x.c % 60 = cc at *
  generalize x.a + x.b % 50 = ab at *
  generalize x.e / 2 = e2 at *
  generalize x.d % 30 = dd at *
  generalize x.c % 60 = c6 at *
  generalize x.b % 50 = bb at *
  generalize cL L = cL0 at *
  have g0 : ((0 : Int) < ((r1.length + 1 : Nat) : Int)) = True := eq_true (by omega)
  have b1 : ((r1.length + 1 + 1) * 8 ≤ 1099511627776) = True := eq_true (by omega)
  have b2 : (r1.length + 1 + 1 ≤ 1099511627776) = True := eq_true (by omega)
  have b3 : 1 + (r1.length + 1) = r1.length + 1 + 1 := by omega
  have b4 : r1.length + 1 - 1 = r1.length := rfl
  have b5 : List.take r1.length (r1.map I) = r1.map I := List.take_of_length_le (by simp)
  have h8 : ((128 : Int) < (x.e : Int)) = False := eq_false (by omega)
  unfold x39l2
  dsimp only
  (sym => (simp [irem2,iquo2,remF,Za,Zb,Zc,Zd,Ze,Zf,Zh,Zi,Zl,Zm,Zn,Zo,Zp,Zr,Zu,Zv,Zx,Zz,Z0,Z2,Z4,Z5,Z6,Z7,ZD,ZF,ZG,ZI,ZJ,ZK,ZL,ZM,ZP,ZQ,ZR,ZS,ZT,ZU,ZV,ZX,ZY,Ya,Yf,Yg,Yi,Yq,Ys,Yu,Yv,Yz,Y1,Y2,Y3,Y5,Y6,Y7,Y8,YA,YK,YN,YT,YU,YX,Xb,Xd,Xf,Xm,Xo,Xr,Xs,Xu,Wl,Wn,Wp,Wv,Ww,Wy,Wz,W0,W3,W4,W5,W6,W7,W9,WA,WB,WE,WF,WH,WI,WJ,WK,WL,WM,WN,WO,WP,WQ,WR,WS,WV,WW,WX,Vb,Vc,Ve,Vf,Vg,Vi,Vj,Vk,Vm,VL,VM,VN,VO,VP,VQ,VU,VV,VW,VX,VY,Ua,Ub,Uc,Ud,Ue,Uf,Ui,Uk,Um,Un,Uo,Ur,Uv,Uw,Ux,Uy,Uz,U0,U1,U2,U3,U4,U5,U6,UD,UE,UF,UG,UL,UM,UN,UO,UT,UU,UV,UX,UY,Ta,Tb,Tc,Td,Te,Tf,Tg,Th,Tk,Tl,Tm,Tn,Tr,Ts,Tu,Tw,Tx,T3,T6,T7,T8,TB,TD,TI,Su,Sx,a1,a2,a5,cl,l1,l2,hx,wa,wb,wc,wd,we,m60,m2,m50,m30,d2,wd2,m3,s1,s2,s3,w44,g0,b1,b2,b3,b4,b5,h8]; all_goals tactic => exact rfl))
theorem r39_110_1p (hq : q.Ok) {x : P5} {i : Nat} (hi : i < 5) (hx : q.ls[i]? = some x) (ht : x.e / 2 % 3 = 1) (h8 : 128 < x.e) {L : List Ld} (hL : L.length = i) (a0 a1 : Int) (r0 r1 : List Int) (hr0 : r0.length ≤ 5) (hr1 : r1.length ≤ 5) :
    headX 0 [1,2,3,10,11] (execW progX 39 0 none (match x39l2 with | .loop _ a => a | c => c) (envL [1,2,3,10,11] [.pt 0 0,.pt 1 0,.pt 2 0,.pt 5 0,I (i : Nat)]) (hN q L i [.sl 6 0 1 (r0.length + 1),.sl 7 0 1 (r1.length + 1),.nilsl] [some (.blk true (.cells true (I a0 :: r0.map I))),some (.blk true (.cells true (I a1 :: r1.map I)))])) =
      some ([.pt 0 0,.pt 1 0,.pt 2 0,.pt 5 0,I (i + 1 : Nat)],hN q (L ++ [x.ld]) (i + 1) [.sl 6 0 1 (r0.length + 1),.sl 7 0 1 (r1.length + 1 + 1),.nilsl] [some (.blk true (.cells true (I a0 :: r0.map I))),some (.blk true (.cells true (I (i : Nat) :: I a1 :: r1.map I)))]) := by
  obtain ⟨wa,wb,wc,wd,we,m60,m2,m50,m30,d2,wd2,m3,s1,s2,s3⟩ := ldF (hq.ls x (List.mem_of_getElem? hx))
  have a1 := lt_ix (lt_of hx)
  have a2 := up_ix hi (by omega)
  have a5 : ((i : Int) < 5) = True := eq_true (by omega)
  have cl := cL_len L
  rw [hL] at cl
  have ca := cL_app L x.ld
  have l1 : ((i + 1) * 40 ≤ 1099511627776) = True := eq_true (by omega)
  have l2 : (i + 1 ≤ 1099511627776) = True := eq_true (by omega)
  rw [ht] at m3
  unfold hN
  rw [ca]
  unfold P5.ld Ld.row
  dsimp only
  clear ca
  generalize x.e % 2 = ee at *
  generalize 1 + x.c % 60 + x.d % 30 = cd at *
  generalize 1 + x.c % 60 = cc at *
  generalize x.a + x.b % 50 = ab at *
  generalize x.e / 2 = e2 at *
  generalize x.d % 30 = dd at *
  generalize x.c % 60 = c6 at *
  generalize x.b % 50 = bb at *
  generalize cL L = cL0 at *
  have g0 : ((0 : Int) < ((r1.length + 1 : Nat) : Int)) = True := eq_true (by omega)
  have b1 : ((r1.length + 1 + 1) * 8 ≤ 1099511627776) = True := eq_true (by omega)
  have b2 : (r1.length + 1 + 1 ≤ 1099511627776) = True := eq_true (by omega)
  have b3 : 1 + (r1.length + 1) = r1.length + 1 + 1 := by omega
  have b4 : r1.length + 1 - 1 = r1.length := rfl
  have b5 : List.take r1.length (r1.map I) = r1.map I := List.take_of_length_le (by simp)
  have h8 : ((128 : Int) < (x.e : Int)) = True := eq_true (by omega)
  unfold x39l2
  dsimp only
  (sym => (simp [irem2,iquo2,remF,Za,Zb,Zc,Zd,Ze,Zf,Zh,Zi,Zl,Zm,Zn,Zo,Zp,Zu,Zv,Zx,Zz,Z0,Z2,Z4,Z5,Z6,Z7,ZD,ZF,ZG,ZI,ZJ,ZK,ZL,ZM,ZP,ZQ,ZR,ZS,ZT,ZU,ZX,ZY,Ya,Yb,Yf,Yg,Yi,Yq,Ys,Yu,Yv,Yz,Y1,Y2,Y3,Y5,Y6,Y7,Y8,YA,YK,YN,YT,YU,YX,Xb,Xd,Xf,Xm,Xo,Xr,Xs,Xu,Wl,Wn,Wp,Wv,Ww,Wy,Wz,W0,W3,W4,W5,W6,W7,W9,WA,WB,WE,WF,WH,WI,WJ,WK,WL,WM,WN,WO,WP,WQ,WR,WS,WV,WW,WX,Vb,Vc,Ve,Vf,Vg,Vi,Vj,Vk,Vm,VL,VM,VN,VO,VP,VU,VV,VW,VX,VY,Ua,Ub,Uc,Ud,Ue,Uf,Ui,Uk,Um,Un,Uo,Ur,Uv,Uw,Ux,Uy,Uz,U0,U1,U2,U3,U4,U5,U6,UD,UE,UF,UG,UL,UM,UN,UO,UT,UU,UV,UX,UY,Ta,Tb,Tc,Td,Te,Tf,Tg,Th,Tk,Tl,Tm,Tn,Tr,Ts,Tu,Tw,Tx,T3,T6,T7,T8,TB,TC,TD,TE,TI,TU,Su,Sx,a1,a2,a5,cl,l1,l2,hx,wa,wb,wc,wd,we,m60,m2,m50,m30,d2,wd2,m3,s1,s2,s3,w44,g0,b1,b2,b3,b4,b5,h8]; all_goals tactic => exact rfl))
theorem r39_110_2 (hq : q.Ok) {x : P5} {i : Nat} (hi : i < 5) (hx : q.ls[i]? = some x) (ht : x.e / 2 % 3 = 2) {L : List Ld} (hL : L.length = i) (a0 a1 : Int) (r0 r1 : List Int) (hr0 : r0.length ≤ 5) (hr1 : r1.length ≤ 5) :
    headX 0 [1,2,3,10,11] (execW progX 39 0 none (match x39l2 with | .loop _ a => a | c => c) (envL [1,2,3,10,11] [.pt 0 0,.pt 1 0,.pt 2 0,.pt 5 0,I (i : Nat)]) (hN q L i [.sl 6 0 1 (r0.length + 1),.sl 7 0 1 (r1.length + 1),.nilsl] [some (.blk true (.cells true (I a0 :: r0.map I))),some (.blk true (.cells true (I a1 :: r1.map I)))])) =
      some ([.pt 0 0,.pt 1 0,.pt 2 0,.pt 5 0,I (i + 1 : Nat)],hN q (L ++ [x.ld]) (i + 1) [.sl 6 0 1 (r0.length + 1),.sl 7 0 1 (r1.length + 1),.sl 8 0 1 (1)] [some (.blk true (.cells true (I a0 :: r0.map I))),some (.blk true (.cells true (I a1 :: r1.map I))),some (.blk true (.cells true ([I (i : Nat)])))]) := by
  obtain ⟨wa,wb,wc,wd,we,m60,m2,m50,m30,d2,wd2,m3,s1,s2,s3⟩ := ldF (hq.ls x (List.mem_of_getElem? hx))
  have a1 := lt_ix (lt_of hx)
  have a2 := up_ix hi (by omega)
  have a5 : ((i : Int) < 5) = True := eq_true (by omega)
  have cl := cL_len L
  rw [hL] at cl
  have ca := cL_app L x.ld
  have l1 : ((i + 1) * 40 ≤ 1099511627776) = True := eq_true (by omega)
  have l2 : (i + 1 ≤ 1099511627776) = True := eq_true (by omega)
  rw [ht] at m3
  unfold hN
  rw [ca]
  unfold P5.ld Ld.row
  dsimp only
  clear ca
  generalize x.e % 2 = ee at *
  generalize 1 + x.c % 60 + x.d % 30 = cd at *
  generalize 1 + x.c % 60 = cc at *
  generalize x.a + x.b % 50 = ab at *
  generalize x.e / 2 = e2 at *
  generalize x.d % 30 = dd at *
  generalize x.c % 60 = c6 at *
  generalize x.b % 50 = bb at *
  generalize cL L = cL0 at *
  unfold x39l2
  dsimp only
  rcases ptf ((128 : Int) < (x.e : Int)) with h8 | h8
  · (sym => (simp [irem2,iquo2,remF,Za,Zb,Zc,Zd,Ze,Zf,Zh,Zi,Zl,Zm,Zn,Zo,Zp,Zr,Zu,Zv,Zx,Zz,Z0,Z2,Z4,Z5,Z6,Z7,ZD,ZF,ZG,ZI,ZJ,ZK,ZL,ZM,ZP,ZQ,ZR,ZS,ZT,ZU,ZV,ZX,ZY,Ya,Yc,Yf,Yg,Yi,Yq,Ys,Yu,Yv,Yz,Y1,Y3,Y4,Y5,Y6,Y7,Y8,YA,YK,YN,YT,YU,YX,Xb,Xd,Xf,Xm,Xo,Xr,Xs,Xu,Wl,Wn,Wp,Wv,Ww,Wy,Wz,W0,W3,W4,W5,W6,W7,W9,WA,WB,WE,WF,WH,WI,WJ,WK,WL,WM,WN,WO,WP,WQ,WR,WS,WV,WW,WX,Vb,Vc,Ve,Vf,Vg,Vi,Vj,Vk,Vm,VL,VM,VN,VO,VP,VQ,VU,VV,VW,VX,VY,Ua,Ub,Uc,Ud,Ue,Uf,Ui,Uk,Um,Un,Uo,Ur,Uv,Uw,Ux,Uy,Uz,U0,U1,U2,U3,U4,U5,U6,UD,UE,UF,UG,UL,UM,UN,UO,UT,UU,UV,UW,UX,UY,Ta,Tb,Tc,Td,Te,Tf,Tg,Th,Tk,Tl,Tm,Tn,Tq,Tr,Ts,Tu,Tw,Tx,T3,T6,T7,T8,TD,TI,Su,Sx,a1,a2,a5,cl,l1,l2,hx,wa,wb,wc,wd,we,m60,m2,m50,m30,d2,wd2,m3,s1,s2,s3,w44,h8]; all_goals tactic => exact rfl))
  · (sym => (simp [irem2,iquo2,remF,Za,Zb,Zc,Zd,Ze,Zf,Zh,Zi,Zl,Zm,Zn,Zo,Zp,Zr,Zu,Zv,Zx,Zz,Z0,Z2,Z4,Z5,Z6,Z7,ZD,ZF,ZG,ZI,ZJ,ZK,ZL,ZM,ZP,ZQ,ZR,ZS,ZT,ZU,ZV,ZX,ZY,Ya,Yc,Yf,Yg,Yi,Yq,Ys,Yu,Yv,Yz,Y1,Y3,Y4,Y5,Y6,Y7,Y8,YA,YK,YN,YT,YU,YX,Xb,Xd,Xf,Xm,Xo,Xr,Xs,Xu,Wl,Wn,Wp,Wv,Ww,Wy,Wz,W0,W3,W4,W5,W6,W7,W9,WA,WB,WE,WF,WH,WI,WJ,WK,WL,WM,WN,WO,WP,WQ,WR,WS,WV,WW,WX,Vb,Vc,Ve,Vf,Vg,Vi,Vj,Vk,Vm,VL,VM,VN,VO,VP,VQ,VU,VV,VW,VX,VY,Ua,Ub,Uc,Ud,Ue,Uf,Ui,Uk,Um,Un,Uo,Ur,Uv,Uw,Ux,Uy,Uz,U0,U1,U2,U3,U4,U5,U6,UD,UE,UF,UG,UL,UM,UN,UO,UT,UU,UV,UW,UX,UY,Ta,Tb,Tc,Td,Te,Tf,Tg,Th,Tk,Tl,Tm,Tn,Tq,Tr,Ts,Tu,Tw,Tx,T3,T6,T7,T8,TD,TI,Su,Sx,a1,a2,a5,cl,l1,l2,hx,wa,wb,wc,wd,we,m60,m2,m50,m30,d2,wd2,m3,s1,s2,s3,w44,h8]; all_goals tactic => exact rfl))
theorem r39_111_0 (hq : q.Ok) {x : P5} {i : Nat} (hi : i < 5) (hx : q.ls[i]? = some x) (ht : x.e / 2 % 3 = 0) (h8 : ¬ 128 < x.e) {L : List Ld} (hL : L.length = i) (a0 a1 a2 : Int) (r0 r1 r2 : List Int) (hr0 : r0.length ≤ 5) (hr1 : r1.length ≤ 5) (hr2 : r2.length ≤ 5) :
    headX 0 [1,2,3,10,11] (execW progX 39 0 none (match x39l2 with | .loop _ a => a | c => c) (envL [1,2,3,10,11] [.pt 0 0,.pt 1 0,.pt 2 0,.pt 5 0,I (i : Nat)]) (hN q L i [.sl 6 0 1 (r0.length + 1),.sl 7 0 1 (r1.length + 1),.sl 8 0 1 (r2.length + 1)] [some (.blk true (.cells true (I a0 :: r0.map I))),some (.blk true (.cells true (I a1 :: r1.map I))),some (.blk true (.cells true (I a2 :: r2.map I)))])) =
      some ([.pt 0 0,.pt 1 0,.pt 2 0,.pt 5 0,I (i + 1 : Nat)],hN q (L ++ [x.ld]) (i + 1) [.sl 6 0 1 (r0.length + 1 + 1),.sl 7 0 1 (r1.length + 1),.sl 8 0 1 (r2.length + 1)] [some (.blk true (.cells true (I a0 :: (r0.map I ++ [I (i : Nat)])))),some (.blk true (.cells true (I a1 :: r1.map I))),some (.blk true (.cells true (I a2 :: r2.map I)))]) := by
  obtain ⟨wa,wb,wc,wd,we,m60,m2,m50,m30,d2,wd2,m3,s1,s2,s3⟩ := ldF (hq.ls x (List.mem_of_getElem? hx))
  have a1 := lt_ix (lt_of hx)
  have a2 := up_ix hi (by omega)
  have a5 : ((i : Int) < 5) = True := eq_true (by omega)
  have cl := cL_len L
  rw [hL] at cl
  have ca := cL_app L x.ld
  have l1 : ((i + 1) * 40 ≤ 1099511627776) = True := eq_true (by omega)
  have l2 : (i + 1 ≤ 1099511627776) = True := eq_true (by omega)
  rw [ht] at m3
  unfold hN
  rw [ca]
  unfold P5.ld Ld.row
  dsimp only
  clear ca
  generalize x.e % 2 = ee at *
  generalize 1 + x.c % 60 + x.d % 30 = cd at *
  generalize 1 + x.c % 60 = cc at *
  generalize x.a + x.b % 50 = ab at *
  generalize x.e / 2 = e2 at *
  generalize x.d % 30 = dd at *
  generalize x.c % 60 = c6 at *
  generalize x.b % 50 = bb at *
  generalize cL L = cL0 at *
  have g0 : ((0 : Int) < ((r0.length + 1 : Nat) : Int)) = True := eq_true (by omega)
  have b1 : ((r0.length + 1 + 1) * 8 ≤ 1099511627776) = True := eq_true (by omega)
  have b2 : (r0.length + 1 + 1 ≤ 1099511627776) = True := eq_true (by omega)
  have b3 : 1 + (r0.length + 1) = r0.length + 1 + 1 := by omega
  have b4 : r0.length + 1 - 1 = r0.length := rfl
  have b5 : List.take r0.length (r0.map I) = r0.map I := List.take_of_length_le (by simp)
  have h8 : ((128 : Int) < (x.e : Int)) = False := eq_false (by omega)
  unfold x39l2
  dsimp only
  (sym => (simp [irem2,iquo2,remF,Za,Zb,Zc,Zd,Ze,Zf,Zh,Zi,Zl,Zm,Zn,Zo,Zp,Zr,Zu,Zv,Zx,Zz,Z0,Z2,Z4,Z5,Z6,Z7,ZD,ZF,ZG,ZI,ZJ,ZK,ZL,ZM,ZP,ZQ,ZR,ZS,ZT,ZU,ZV,ZX,ZY,Ya,Yf,Yg,Yi,Yq,Ys,Yu,Yv,Yz,Y0,Y1,Y3,Y5,Y6,Y7,Y8,YA,YK,YN,YT,YU,YX,Xb,Xd,Xf,Xm,Xo,Xr,Xs,Xu,Wl,Wn,Wp,Wv,Ww,Wy,Wz,W0,W3,W4,W5,W6,W7,W9,WA,WB,WE,WF,WH,WI,WJ,WK,WL,WM,WN,WO,WP,WQ,WR,WS,WV,WW,WX,Vb,Vc,Ve,Vf,Vg,Vi,Vj,Vk,Vm,VL,VM,VN,VO,VP,VQ,VU,VV,VW,VX,VY,Ua,Ub,Uc,Ud,Ue,Uf,Ui,Uk,Um,Un,Uo,Ur,Uv,Uw,Ux,Uy,Uz,U0,U1,U2,U3,U4,U5,U6,UD,UE,UF,UG,UL,UM,UN,UO,UT,UU,UV,UX,UY,Ta,Tb,Tc,Td,Te,Tf,Tg,Th,Tk,Tl,Tm,Tn,Tr,Ts,Tu,Tw,Tx,T3,T6,T7,T8,TB,TD,TI,Su,Sx,a1,a2,a5,cl,l1,l2,hx,wa,wb,wc,wd,we,m60,m2,m50,m30,d2,wd2,m3,s1,s2,s3,w44,g0,b1,b2,b3,b4,b5,h8]; all_goals tactic => exact rfl))
theorem r39_111_0p (hq : q.Ok) {x : P5} {i : Nat} (hi : i < 5) (hx : q.ls[i]? = some x) (ht : x.e / 2 % 3 = 0) (h8 : 128 < x.e) {L : List Ld} (hL : L.length = i) (a0 a1 a2 : Int) (r0 r1 r2 : List Int) (hr0 : r0.length ≤ 5) (hr1 : r1.length ≤ 5) (hr2 : r2.length ≤ 5) :
    headX 0 [1,2,3,10,11] (execW progX 39 0 none (match x39l2 with | .loop _ a => a | c => c) (envL [1,2,3,10,11] [.pt 0 0,.pt 1 0,.pt 2 0,.pt 5 0,I (i : Nat)]) (hN q L i [.sl 6 0 1 (r0.length + 1),.sl 7 0 1 (r1.length + 1),.sl 8 0 1 (r2.length + 1)] [some (.blk true (.cells true (I a0 :: r0.map I))),some (.blk true (.cells true (I a1 :: r1.map I))),some (.blk true (.cells true (I a2 :: r2.map I)))])) =
      some ([.pt 0 0,.pt 1 0,.pt 2 0,.pt 5 0,I (i + 1 : Nat)],hN q (L ++ [x.ld]) (i + 1) [.sl 6 0 1 (r0.length + 1 + 1),.sl 7 0 1 (r1.length + 1),.sl 8 0 1 (r2.length + 1)] [some (.blk true (.cells true (I (i : Nat) :: I a0 :: r0.map I))),some (.blk true (.cells true (I a1 :: r1.map I))),some (.blk true (.cells true (I a2 :: r2.map I)))]) := by
  obtain ⟨wa,wb,wc,wd,we,m60,m2,m50,m30,d2,wd2,m3,s1,s2,s3⟩ := ldF (hq.ls x (List.mem_of_getElem? hx))
  have a1 := lt_ix (lt_of hx)
  have a2 := up_ix hi (by omega)
  have a5 : ((i : Int) < 5) = True := eq_true (by omega)
  have cl := cL_len L
  rw [hL] at cl
  have ca := cL_app L x.ld
  have l1 : ((i + 1) * 40 ≤ 1099511627776) = True := eq_true (by omega)
  have l2 : (i + 1 ≤ 1099511627776) = True := eq_true (by omega)
  rw [ht] at m3
  unfold hN
  rw [ca]
  unfold P5.ld Ld.row
  dsimp only
  clear ca
  generalize x.e % 2 = ee at *
  generalize 1 + x.c % 60 + x.d % 30 = cd at *
  generalize 1 + x.c % 60 = cc at *
  generalize x.a + x.b % 50 = ab at *
  generalize x.e / 2 = e2 at *
  generalize x.d % 30 = dd at *
  generalize x.c % 60 = c6 at *
  generalize x.b % 50 = bb at *
  generalize cL L = cL0 at *
  have g0 : ((0 : Int) < ((r0.length + 1 : Nat) : Int)) = True := eq_true (by omega)
  have b1 : ((r0.length + 1 + 1) * 8 ≤ 1099511627776) = True := eq_true (by omega)
  have b2 : (r0.length + 1 + 1 ≤ 1099511627776) = True := eq_true (by omega)
  have b3 : 1 + (r0.length + 1) = r0.length + 1 + 1 := by omega
  have b4 : r0.length + 1 - 1 = r0.length := rfl
  have b5 : List.take r0.length (r0.map I) = r0.map I := List.take_of_length_le (by simp)
  have h8 : ((128 : Int) < (x.e : Int)) = True := eq_true (by omega)
  unfold x39l2
  dsimp only
  (sym => (simp [irem2,iquo2,remF,Za,Zb,Zc,Zd,Ze,Zf,Zh,Zi,Zl,Zm,Zn,Zo,Zp,Zu,Zv,Zx,Zz,Z0,Z2,Z4,Z5,Z6,Z7,ZD,ZF,ZG,ZI,ZJ,ZK,ZL,ZM,ZP,ZQ,ZR,ZS,ZT,ZU,ZX,ZY,Ya,Yb,Yf,Yg,Yi,Yq,Ys,Yu,Yv,Yz,Y0,Y1,Y3,Y5,Y6,Y7,Y8,YA,YK,YN,YT,YU,YX,Xb,Xd,Xf,Xm,Xo,Xr,Xs,Xu,Wl,Wn,Wp,Wv,Ww,Wy,Wz,W0,W3,W4,W5,W6,W7,W9,WA,WB,WE,WF,WH,WI,WJ,WK,WL,WM,WN,WO,WP,WQ,WR,WS,WV,WW,WX,Vb,Vc,Ve,Vf,Vg,Vi,Vj,Vk,Vm,VL,VM,VN,VO,VP,VU,VV,VW,VX,VY,Ua,Ub,Uc,Ud,Ue,Uf,Ui,Uk,Um,Un,Uo,Ur,Uv,Uw,Ux,Uy,Uz,U0,U1,U2,U3,U4,U5,U6,UD,UE,UF,UG,UL,UM,UN,UO,UT,UU,UV,UX,UY,Ta,Tb,Tc,Td,Te,Tf,Tg,Th,Tk,Tl,Tm,Tn,Tr,Ts,Tu,Tw,Tx,T3,T6,T7,T8,TB,TC,TD,TE,TI,TU,Su,Sx,a1,a2,a5,cl,l1,l2,hx,wa,wb,wc,wd,we,m60,m2,m50,m30,d2,wd2,m3,s1,s2,s3,w44,g0,b1,b2,b3,b4,b5,h8]; all_goals tactic => exact rfl))
theorem r39_111_1 (hq : q.Ok) {x : P5} {i : Nat} (hi : i < 5) (hx : q.ls[i]? = some x) (ht : x.e / 2 % 3 = 1) (h8 : ¬ 128 < x.e) {L : List Ld} (hL : L.length = i) (a0 a1 a2 : Int) (r0 r1 r2 : List Int) (hr0 : r0.length ≤ 5) (hr1 : r1.length ≤ 5) (hr2 : r2.length ≤ 5) :
    headX 0 [1,2,3,10,11] (execW progX 39 0 none (match x39l2 with | .loop _ a => a | c => c) (envL [1,2,3,10,11] [.pt 0 0,.pt 1 0,.pt 2 0,.pt 5 0,I (i : Nat)]) (hN q L i [.sl 6 0 1 (r0.length + 1),.sl 7 0 1 (r1.length + 1),.sl 8 0 1 (r2.length + 1)] [some (.blk true (.cells true (I a0 :: r0.map I))),some (.blk true (.cells true (I a1 :: r1.map I))),some (.blk true (.cells true (I a2 :: r2.map I)))])) =
      some ([.pt 0 0,.pt 1 0,.pt 2 0,.pt 5 0,I (i + 1 : Nat)],hN q (L ++ [x.ld]) (i + 1) [.sl 6 0 1 (r0.length + 1),.sl 7 0 1 (r1.length + 1 + 1),.sl 8 0 1 (r2.length + 1)] [some (.blk true (.cells true (I a0 :: r0.map I))),some (.blk true (.cells true (I a1 :: (r1.map I ++ [I (i : Nat)])))),some (.blk true (.cells true (I a2 :: r2.map I)))]) := by
  obtain ⟨wa,wb,wc,wd,we,m60,m2,m50,m30,d2,wd2,m3,s1,s2,s3⟩ := ldF (hq.ls x (List.mem_of_getElem? hx))
  have a1 := lt_ix (lt_of hx)
  have a2 := up_ix hi (by omega)
  have a5 : ((i : Int) < 5) = True := eq_true (by omega)
  have cl := cL_len L
  rw [hL] at cl
  have ca := cL_app L x.ld
  have l1 : ((i + 1) * 40 ≤ 1099511627776) = True := eq_true (by omega)
  have l2 : (i + 1 ≤ 1099511627776) = True := eq_true (by omega)
  rw [ht] at m3
  unfold hN
  rw [ca]
  unfold P5.ld Ld.row
  dsimp only
  clear ca
  generalize x.e % 2 = ee at *
  generalize 1 + x.c % 60 + x.d % 30 = cd at *
  generalize 1 + x.c % 60 = cc at *
  generalize x.a + x.b % 50 = ab at *
  generalize x.e / 2 = e2 at *
  generalize x.d % 30 = dd at *
  generalize x.c % 60 = c6 at *
  generalize x.b % 50 = bb at *
  generalize cL L = cL0 at *
  have g0 : ((0 : Int) < ((r1.length + 1 : Nat) : Int)) = True := eq_true (by omega)
  have b1 : ((r1.length + 1 + 1) * 8 ≤ 1099511627776) = True := eq_true (by omega)
  have b2 : (r1.length + 1 + 1 ≤ 1099511627776) = True := eq_true (by omega)
  have b3 : 1 + (r1.length + 1) = r1.length + 1 + 1 := by omega
  have b4 : r1.length + 1 - 1 = r1.length := rfl
  have b5 : List.take r1.length (r1.map I) = r1.map I := List.take_of_length_le (by simp)
  have h8 : ((128 : Int) < (x.e : Int)) = False := eq_false (by omega)
  unfold x39l2
  dsimp only
  (sym => (simp [irem2,iquo2,remF,Za,Zb,Zc,Zd,Ze,Zf,Zh,Zi,Zl,Zm,Zn,Zo,Zp,Zr,Zu,Zv,Zx,Zz,Z0,Z2,Z4,Z5,Z6,Z7,ZD,ZF,ZG,ZI,ZJ,ZK,ZL,ZM,ZP,ZQ,ZR,ZS,ZT,ZU,ZV,ZX,ZY,Ya,Yf,Yg,Yi,Yq,Ys,Yu,Yv,Yz,Y1,Y2,Y3,Y5,Y6,Y7,Y8,YA,YK,YN,YT,YU,YX,Xb,Xd,Xf,Xm,Xo,Xr,Xs,Xu,Wl,Wn,Wp,Wv,Ww,Wy,Wz,W0,W3,W4,W5,W6,W7,W9,WA,WB,WE,WF,WH,WI,WJ,WK,WL,WM,WN,WO,WP,WQ,WR,WS,WV,WW,WX,Vb,Vc,Ve,Vf,Vg,Vi,Vj,Vk,Vm,VL,VM,VN,VO,VP,VQ,VU,VV,VW,VX,VY,Ua,Ub,Uc,Ud,Ue,Uf,Ui,Uk,Um,Un,Uo,Ur,Uv,Uw,Ux,Uy,Uz,U0,U1,U2,U3,U4,U5,U6,UD,UE,UF,UG,UL,UM,UN,UO,UT,UU,UV,UX,UY,Ta,Tb,Tc,Td,Te,Tf,Tg,Th,Tk,Tl,Tm,Tn,Tr,Ts,Tu,Tw,Tx,T3,T6,T7,T8,TB,TD,TI,Su,Sx,a1,a2,a5,cl,l1,l2,hx,wa,wb,wc,wd,we,m60,m2,m50,m30,d2,wd2,m3,s1,s2,s3,w44,g0,b1,b2,b3,b4,b5,h8]; all_goals tactic => exact rfl))
theorem r39_111_1p (hq : q.Ok) {x : P5} {i : Nat} (hi : i < 5) (hx : q.ls[i]? = some x) (ht : x.e / 2 % 3 = 1) (h8 : 128 < x.e) {L : List Ld} (hL : L.length = i) (a0 a1 a2 : Int) (r0 r1 r2 : List Int) (hr0 : r0.length ≤ 5) (hr1 : r1.length ≤ 5) (hr2 : r2.length ≤ 5) :
    headX 0 [1,2,3,10,11] (execW progX 39 0 none (match x39l2 with | .loop _ a => a | c => c) (envL [1,2,3,10,11] [.pt 0 0,.pt 1 0,.pt 2 0,.pt 5 0,I (i : Nat)]) (hN q L i [.sl 6 0 1 (r0.length + 1),.sl 7 0 1 (r1.length + 1),.sl 8 0 1 (r2.length + 1)] [some (.blk true (.cells true (I a0 :: r0.map I))),some (.blk true (.cells true (I a1 :: r1.map I))),some (.blk true (.cells true (I a2 :: r2.map I)))])) =
      some ([.pt 0 0,.pt 1 0,.pt 2 0,.pt 5 0,I (i + 1 : Nat)],hN q (L ++ [x.ld]) (i + 1) [.sl 6 0 1 (r0.length + 1),.sl 7 0 1 (r1.length + 1 + 1),.sl 8 0 1 (r2.length + 1)] [some (.blk true (.cells true (I a0 :: r0.map I))),some (.blk true (.cells true (I (i : Nat) :: I a1 :: r1.map I))),some (.blk true (.cells true (I a2 :: r2.map I)))]) := by
  obtain ⟨wa,wb,wc,wd,we,m60,m2,m50,m30,d2,wd2,m3,s1,s2,s3⟩ := ldF (hq.ls x (List.mem_of_getElem? hx))
  have a1 := lt_ix (lt_of hx)
  have a2 := up_ix hi (by omega)
  have a5 : ((i : Int) < 5) = True := eq_true (by omega)
  have cl := cL_len L
  rw [hL] at cl
  have ca := cL_app L x.ld
  have l1 : ((i + 1) * 40 ≤ 1099511627776) = True := eq_true (by omega)
  have l2 : (i + 1 ≤ 1099511627776) = True := eq_true (by omega)
  rw [ht] at m3
  unfold hN
  rw [ca]
  unfold P5.ld Ld.row
  dsimp only
  clear ca
  generalize x.e % 2 = ee at *
  generalize 1 + x.c % 60 + x.d % 30 = cd at *
  generalize 1 + x.c % 60 = cc at *
  generalize x.a + x.b % 50 = ab at *
  generalize x.e / 2 = e2 at *
  generalize x.d % 30 = dd at *
  generalize x.c % 60 = c6 at *
  generalize x.b % 50 = bb at *
  generalize cL L = cL0 at *
  have g0 : ((0 : Int) < ((r1.length + 1 : Nat) : Int)) = True := eq_true (by omega)
  have b1 : ((r1.length + 1 + 1) * 8 ≤ 1099511627776) = True := eq_true (by omega)
  have b2 : (r1.length + 1 + 1 ≤ 1099511627776) = True := eq_true (by omega)
  have b3 : 1 + (r1.length + 1) = r1.length + 1 + 1 := by omega
  have b4 : r1.length + 1 - 1 = r1.length := rfl
  have b5 : List.take r1.length (r1.map I) = r1.map I := List.take_of_length_le (by simp)
  have h8 : ((128 : Int) < (x.e : Int)) = True := eq_true (by omega)
  unfold x39l2
  dsimp only
  (sym => (simp [irem2,iquo2,remF,Za,Zb,Zc,Zd,Ze,Zf,Zh,Zi,Zl,Zm,Zn,Zo,Zp,Zu,Zv,Zx,Zz,Z0,Z2,Z4,Z5,Z6,Z7,ZD,ZF,ZG,ZI,ZJ,ZK,ZL,ZM,ZP,ZQ,ZR,ZS,ZT,ZU,ZX,ZY,Ya,Yb,Yf,Yg,Yi,Yq,Ys,Yu,Yv,Yz,Y1,Y2,Y3,Y5,Y6,Y7,Y8,YA,YK,YN,YT,YU,YX,Xb,Xd,Xf,Xm,Xo,Xr,Xs,Xu,Wl,Wn,Wp,Wv,Ww,Wy,Wz,W0,W3,W4,W5,W6,W7,W9,WA,WB,WE,WF,WH,WI,WJ,WK,WL,WM,WN,WO,WP,WQ,WR,WS,WV,WW,WX,Vb,Vc,Ve,Vf,Vg,Vi,Vj,Vk,Vm,VL,VM,VN,VO,VP,VU,VV,VW,VX,VY,Ua,Ub,Uc,Ud,Ue,Uf,Ui,Uk,Um,Un,Uo,Ur,Uv,Uw,Ux,Uy,Uz,U0,U1,U2,U3,U4,U5,U6,UD,UE,UF,UG,UL,UM,UN,UO,UT,UU,UV,UX,UY,Ta,Tb,Tc,Td,Te,Tf,Tg,Th,Tk,Tl,Tm,Tn,Tr,Ts,Tu,Tw,Tx,T3,T6,T7,T8,TB,TC,TD,TE,TI,TU,Su,Sx,a1,a2,a5,cl,l1,l2,hx,wa,wb,wc,wd,we,m60,m2,m50,m30,d2,wd2,m3,s1,s2,s3,w44,g0,b1,b2,b3,b4,b5,h8]; all_goals tactic => exact rfl))
theorem r39_111_2 (hq : q.Ok) {x : P5} {i : Nat} (hi : i < 5) (hx : q.ls[i]? = some x) (ht : x.e / 2 % 3 = 2) (h8 : ¬ 128 < x.e) {L : List Ld} (hL : L.length = i) (a0 a1 a2 : Int) (r0 r1 r2 : List Int) (hr0 : r0.length ≤ 5) (hr1 : r1.length ≤ 5) (hr2 : r2.length ≤ 5) :
    headX 0 [1,2,3,10,11] (execW progX 39 0 none (match x39l2 with | .loop _ a => a | c => c) (envL [1,2,3,10,11] [.pt 0 0,.pt 1 0,.pt 2 0,.pt 5 0,I (i : Nat)]) (hN q L i [.sl 6 0 1 (r0.length + 1),.sl 7 0 1 (r1.length + 1),.sl 8 0 1 (r2.length + 1)] [some (.blk true (.cells true (I a0 :: r0.map I))),some (.blk true (.cells true (I a1 :: r1.map I))),some (.blk true (.cells true (I a2 :: r2.map I)))])) =
      some ([.pt 0 0,.pt 1 0,.pt 2 0,.pt 5 0,I (i + 1 : Nat)],hN q (L ++ [x.ld]) (i + 1) [.sl 6 0 1 (r0.length + 1),.sl 7 0 1 (r1.length + 1),.sl 8 0 1 (r2.length + 1 + 1)] [some (.blk true (.cells true (I a0 :: r0.map I))),some (.blk true (.cells true (I a1 :: r1.map I))),some (.blk true (.cells true (I a2 :: (r2.map I ++ [I (i : Nat)]))))]) := by
  obtain ⟨wa,wb,wc,wd,we,m60,m2,m50,m30,d2,wd2,m3,s1,s2,s3⟩ := ldF (hq.ls x (List.mem_of_getElem? hx))
  have a1 := lt_ix (lt_of hx)
  have a2 := up_ix hi (by omega)
  have a5 : ((i : Int) < 5) = True := eq_true (by omega)
  have cl := cL_len L
  rw [hL] at cl
  have ca := cL_app L x.ld
  have l1 : ((i + 1) * 40 ≤ 1099511627776) = True := eq_true (by omega)
  have l2 : (i + 1 ≤ 1099511627776) = True := eq_true (by omega)
  rw [ht] at m3
  unfold hN
  rw [ca]
  unfold P5.ld Ld.row
  dsimp only
  clear ca
  generalize x.e % 2 = ee at *
  generalize 1 + x.c % 60 + x.d % 30 = cd at *
  generalize 1 + x.c % 60 = cc at *
  generalize x.a + x.b % 50 = ab at *
  generalize x.e / 2 = e2 at *
  generalize x.d % 30 = dd at *
  generalize x.c % 60 = c6 at *
  generalize x.b % 50 = bb at *
  generalize cL L = cL0 at *
  have g0 : ((0 : Int) < ((r2.length + 1 : Nat) : Int)) = True := eq_true (by omega)
  have b1 : ((r2.length + 1 + 1) * 8 ≤ 1099511627776) = True := eq_true (by omega)
  have b2 : (r2.length + 1 + 1 ≤ 1099511627776) = True := eq_true (by omega)
  have b3 : 1 + (r2.length + 1) = r2.length + 1 + 1 := by omega
  have b4 : r2.length + 1 - 1 = r2.length := rfl
  have b5 : List.take r2.length (r2.map I) = r2.map I := List.take_of_length_le (by simp)
  have h8 : ((128 : Int) < (x.e : Int)) = False := eq_false (by omega)
  unfold x39l2
  dsimp only
  (sym => (simp [irem2,iquo2,remF,Za,Zb,Zc,Zd,Ze,Zf,Zh,Zi,Zl,Zm,Zn,Zo,Zp,Zr,Zu,Zv,Zx,Zz,Z0,Z2,Z4,Z5,Z6,Z7,ZD,ZF,ZG,ZI,ZJ,ZK,ZL,ZM,ZP,ZQ,ZR,ZS,ZT,ZU,ZV,ZX,ZY,Ya,Yf,Yg,Yi,Yq,Ys,Yu,Yv,Yz,Y1,Y3,Y4,Y5,Y6,Y7,Y8,YA,YK,YN,YT,YU,YX,Xb,Xd,Xf,Xm,Xo,Xr,Xs,Xu,Wl,Wn,Wp,Wv,Ww,Wy,Wz,W0,W3,W4,W5,W6,W7,W9,WA,WB,WE,WF,WH,WI,WJ,WK,WL,WM,WN,WO,WP,WQ,WR,WS,WV,WW,WX,Vb,Vc,Ve,Vf,Vg,Vi,Vj,Vk,Vm,VL,VM,VN,VO,VP,VQ,VU,VV,VW,VX,VY,Ua,Ub,Uc,Ud,Ue,Uf,Ui,Uk,Um,Un,Uo,Ur,Uv,Uw,Ux,Uy,Uz,U0,U1,U2,U3,U4,U5,U6,UD,UE,UF,UG,UL,UM,UN,UO,UT,UU,UV,UX,UY,Ta,Tb,Tc,Td,Te,Tf,Tg,Th,Tk,Tl,Tm,Tn,Tr,Ts,Tu,Tw,Tx,T3,T6,T7,T8,TB,TD,TI,Su,Sx,a1,a2,a5,cl,l1,l2,hx,wa,wb,wc,wd,we,m60,m2,m50,m30,d2,wd2,m3,s1,s2,s3,w44,g0,b1,b2,b3,b4,b5,h8]; all_goals tactic => exact rfl))
theorem r39_111_2p (hq : q.Ok) {x : P5} {i : Nat} (hi : i < 5) (hx : q.ls[i]? = some x) (ht : x.e / 2 % 3 = 2) (h8 : 128 < x.e) {L : List Ld} (hL : L.length = i) (a0 a1 a2 : Int) (r0 r1 r2 : List Int) (hr0 : r0.length ≤ 5) (hr1 : r1.length ≤ 5) (hr2 : r2.length ≤ 5) :
    headX 0 [1,2,3,10,11] (execW progX 39 0 none (match x39l2 with | .loop _ a => a | c => c) (envL [1,2,3,10,11] [.pt 0 0,.pt 1 0,.pt 2 0,.pt 5 0,I (i : Nat)]) (hN q L i [.sl 6 0 1 (r0.length + 1),.sl 7 0 1 (r1.length + 1),.sl 8 0 1 (r2.length + 1)] [some (.blk true (.cells true (I a0 :: r0.map I))),some (.blk true (.cells true (I a1 :: r1.map I))),some (.blk true (.cells true (I a2 :: r2.map I)))])) =
      some ([.pt 0 0,.pt 1 0,.pt 2 0,.pt 5 0,I (i + 1 : Nat)],hN q (L ++ [x.ld]) (i + 1) [.sl 6 0 1 (r0.length + 1),.sl 7 0 1 (r1.length + 1),.sl 8 0 1 (r2.length + 1 + 1)] [some (.blk true (.cells true (I a0 :: r0.map I))),some (.blk true (.cells true (I a1 :: r1.map I))),some (.blk true (.cells true (I (i : Nat) :: I a2 :: r2.map I)))]) := by
  obtain ⟨wa,wb,wc,wd,we,m60,m2,m50,m30,d2,wd2,m3,s1,s2,s3⟩ := ldF (hq.ls x (List.mem_of_getElem? hx))
  have a1 := lt_ix (lt_of hx)
  have a2 := up_ix hi (by omega)
  have a5 : ((i : Int) < 5) = True := eq_true (by omega)
  have cl := cL_len L
  rw [hL] at cl
  have ca := cL_app L x.ld
  have l1 : ((i + 1) * 40 ≤ 1099511627776) = True := eq_true (by omega)
  have l2 : (i + 1 ≤ 1099511627776) = True := eq_true (by omega)
  rw [ht] at m3
  unfold hN
  rw [ca]
  unfold P5.ld Ld.row
  dsimp only
  clear ca
  generalize x.e % 2 = ee at *
  generalize 1 + x.c % 60 + x.d % 30 = cd at *
  generalize 1 + x.c % 60 = cc at *
  generalize x.a + x.b % 50 = ab at *
  generalize x.e / 2 = e2 at *
  generalize x.d % 30 = dd at *
  generalize x.c % 60 = c6 at *
  generalize x.b % 50 = bb at *
  generalize cL L = cL0 at *
  have g0 : ((0 : Int) < ((r2.length + 1 : Nat) : Int)) = True := eq_true (by omega)
  have b1 : ((r2.length + 1 + 1) * 8 ≤ 1099511627776) = True := eq_true (by omega)
  have b2 : (r2.length + 1 + 1 ≤ 1099511627776) = True := eq_true (by omega)
  have b3 : 1 + (r2.length + 1) = r2.length + 1 + 1 := by omega
  have b4 : r2.length + 1 - 1 = r2.length := rfl
  have b5 : List.take r2.length (r2.map I) = r2.map I := List.take_of_length_le (by simp)
  have h8 : ((128 : Int) < (x.e : Int)) = True := eq_true (by omega)
  unfold x39l2
  dsimp only
  (sym => (simp [irem2,iquo2,remF,Za,Zb,Zc,Zd,Ze,Zf,Zh,Zi,Zl,Zm,Zn,Zo,Zp,Zu,Zv,Zx,Zz,Z0,Z2,Z4,Z5,Z6,Z7,ZD,ZF,ZG,ZI,ZJ,ZK,ZL,ZM,ZP,ZQ,ZR,ZS,ZT,ZU,ZX,ZY,Ya,Yb,Yf,Yg,Yi,Yq,Ys,Yu,Yv,Yz,Y1,Y3,Y4,Y5,Y6,Y7,Y8,YA,YK,YN,YT,YU,YX,Xb,Xd,Xf,Xm,Xo,Xr,Xs,Xu,Wl,Wn,Wp,Wv,Ww,Wy,Wz,W0,W3,W4,W5,W6,W7,W9,WA,WB,WE,WF,WH,WI,WJ,WK,WL,WM,WN,WO,WP,WQ,WR,WS,WV,WW,WX,Vb,Vc,Ve,Vf,Vg,Vi,Vj,Vk,Vm,VL,VM,VN,VO,VP,VU,VV,VW,VX,VY,Ua,Ub,Uc,Ud,Ue,Uf,Ui,Uk,Um,Un,Uo,Ur,Uv,Uw,Ux,Uy,Uz,U0,U1,U2,U3,U4,U5,U6,UD,UE,UF,UG,UL,UM,UN,UO,UT,UU,UV,UX,UY,Ta,Tb,Tc,Td,Te,Tf,Tg,Th,Tk,Tl,Tm,Tn,Tr,Ts,Tu,Tw,Tx,T3,T6,T7,T8,TB,TC,TD,TE,TI,TU,Su,Sx,a1,a2,a5,cl,l1,l2,hx,wa,wb,wc,wd,we,m60,m2,m50,m30,d2,wd2,m3,s1,s2,s3,w44,g0,b1,b2,b3,b4,b5,h8]; all_goals tactic => exact rfl))
end
end Go.Proofs.YtpbeclkpohehgaaDoor
