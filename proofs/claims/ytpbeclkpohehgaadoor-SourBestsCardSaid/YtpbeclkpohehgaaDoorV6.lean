/- Parts of a proof, joined: K23 K24 K25 K26 K27 K28 K29 K30 K31 K32 K33 K34 K35 K36 K37 K38 K39 K40. No statement of the seed is proved here. -/
import Derived.Test.YtpbeclkpohehgaaDoorV5
set_option linter.unusedSimpArgs false
set_option linter.unusedVariables false
set_option linter.unusedSectionVars false
namespace Go.Proofs.YtpbeclkpohehgaaDoor
open Go Go.DL
set_option maxRecDepth 100000
set_option maxHeartbeats 4000000

theorem so_bd {l : Li} (g : Good l) {t : Nat} {k : List St} (ht : l.ks[t]? = some k) (m : Int) : ∀ i, i ≤ k.length → 0 ≤ soN k m i ∧ soN k m i ≤ 1000000
  | 0, _ => by rw [soN]; omega
  | i + 1, hi => by
    obtain ⟨x, hx⟩ := at_ix (l := k) (i := i) (by omega)
    have h := g.st ht hx
    have ih := so_bd g ht m i (by omega)
    rcases soN_up (m := m) hx with ⟨_, h2⟩ | ⟨_, h2⟩
    · rw [h2]; omega
    · rw [h2]; omega
/-- How sour a load of a set can become if it is the last one of it. -/
def lastF (l : Li) (a k : Nat) : Int := sourF (knAt l (ldN l k)) ((ldN l k).ah + endF l a)
theorem last_bd {l : Li} (g : Good l) {a k : Nat} (hk : k < l.ls.length) : 0 ≤ lastF l a k ∧ lastF l a k ≤ 1000000 := by
  obtain ⟨x, kd, h1, h2, h3, h4, h5, h6, h7, h8⟩ := g.ldn hk
  unfold lastF sourF
  rw [h2, h5]
  exact so_bd g h4 _ _ (Nat.le_refl _)
section
variable {l : Li} {b : Nat → Nat} {es : List (AV × AV)}
theorem w86 (g : Good l) {a : Nat} (ha : a < 2 ^ l.ls.length) {k : Nat} (hk : k < l.ls.length) : runW progX 86 [.pt 0 0, U a, I (k : Nat)] (hY l b es) = some (I (lastF l a k), hY l b es) := by
  have e := w110 (b := b) (es := es) g ha
  have bd := end_bd g ha
  obtain ⟨x, kd, h1, h2, h3, h4, h5, h6, h7, h8⟩ := g.ldn hk
  unfold lastF
  rw [h2, h5]
  have w := w54 kd (x.ah + endF l a) h6
  have c1 := lt_ix hk
  have c3 : (0 ≤ x.k) = True := eq_true (by omega)
  have c4 : (x.k < (l.ks.length : Int)) = True := eq_true (by omega)
  have q : IntKind.i64.wrap (x.ah + endF l a) = x.ah + endF l a := wrap_ok (by omega) (by omega)
  generalize endF l a = ef at *
  rw [r86 (by simp)]; unfold x86; dsimp only
  (sym => (simp [yC_nm, yC_rn, yM_s, yC_gr, yC_sl, yC_fz, yC_len, yC_0, yC_1, yC_2, yC_3, yC_4, yC_15, yC_same, Za,Zb,Zd,Ze,Zf,Zg,Zh,Zk,Zl,Zm,Zu,Z1,Z2,Z5,Z7,ZF,ZG,ZH,ZK,ZO,ZP,ZR,ZS,ZX,ZY,Ye,Yf,Yh,Yt,Yu,YD,YE,YJ,YL,Xe,Xi,Xk,Xq,Xw,XP,XX,Wp,Wq,Wr,Ws,Wv,Ww,Wx,Wy,Wz,W0,W3,W4,W5,W6,W7,W8,W9,WA,WB,WC,WE,WF,WG,WI,WJ,WK,WM,WN,WO,WR,WS,WT,WV,WW,WX,WY,WZ,Va,Vb,Vd,Ve,Vi,Vk,Vl,Vm,Vw,Vx,Vz,V0,V1,V2,V3,V6,V7,V8,V9,VB,VK,VL,VM,VN,VO,VP,VQ,VR,VS,VT,VU,VV,VW,VZ,Uc,Ud,Ue,Uf,Uh,Uk,Un,Uo,Uq,Ur,Us,Ut,Uu,U1,U2,UP,UQ,UR,US,UU,Te,Tf,Tg,Tk,Ts,Tt,Sc,Sf,Sn,Sq,Ss, e, h1, h4, c1, c3, c4, q, w]; all_goals tactic => exact rfl))
/-! ### The loop over those that could stand behind -/
abbrev h80i (l : Li) (b : Nat → Nat) (es : List (AV × AV)) (k : Nat) (s : LSt) : XH := [some (.loop 80 1 [.pt 1 0, .pt 4 0] s), some (.blk false (.cells true [.pt 2 0])), some (.blk false (.cells true (yC l b 3))), some (.blk true (.map true es)), some (.blk true (.cells true [I (k : Nat)]))]
theorem home80i (k : Nat) (s : LSt) : Home 5 (h80i l b es k s) := by
  refine ⟨fun _ => rfl, fun _ _ => rfl, fun _ => rfl, ?_, ?_⟩
  · intro a e h0 h1
    (sym => (simp [yC_nm, yC_rn, yM_s, yC_gr, yC_sl, yC_fz, yC_len, yC_0, yC_1, yC_2, yC_3, yC_4, yC_15, yC_same, Za,YH,YL,YQ,Xh,Xk,Xp,Xt,XV,Wz,W5,W7,W9,WB,WC,WE,WF,WG,WM,WN,WO,WP,WR,WS,WT,WU,Vi,Vz,V0,V1,VD,VE,VL,VM,VN,VO,VP,VQ,VR,Uk,Uq,Ur,Us,Ut,Uu,Ux,U1,Tr,Sc, h0, h1]; all_goals tactic => exact rfl))
  · intro a
    (sym => (simp [yC_nm, yC_rn, yM_s, yC_gr, yC_sl, yC_fz, yC_len, yC_0, yC_1, yC_2, yC_3, yC_4, yC_15, yC_same, Za,YH,YL,YQ,Xh,Xk,Xp,Xt,XV,Wz,W5,W7,W9,WB,WC,WE,WF,WG,WM,WN,WO,WP,WR,WS,WT,WU,Vi,Vz,V0,V1,VD,VE,VL,VM,VN,VO,VP,VQ,VR,Uk,Uq,Ur,Us,Ut,Uu,Ux,U1,Tr,Sc]; all_goals tactic => exact rfl))
theorem y80i0 (hb : ∀ k, b k < 2 ^ 10) {j k : Nat} (hj : j < 10) (hk : k < 10) (h : (b j).testBit k = false) : Yd (h80i l b es k .ready) (h80i l b es k .ready) j true := by
  have s1 := yC_b (l := l) (b := b) (m := 3) (k := j) hj
  have c2 : ((j : Int) < 10) = True := eq_true (by omega)
  have e := w83 (a := b j) (lo_63 (hb j)) (i := (k : Int)) (j := k) rfl (by omega)
  rw [h] at e
  have y : runYW progX (.fn (.yield 0) [] []) [I (j : Nat)] (h80i l b es k .ready) = some (.bool true, h80i l b es k .ready) := by
    rw [runYW_eq (K := 80) (d := x80) (site := 1) (vs := [.pt 1 0, .pt 4 0]) rfl rfl (by rfl) rfl]
    (sym => (simp [yC_nm, yC_rn, yM_s, yC_gr, yC_sl, yC_fz, yC_len, yC_0, yC_1, yC_2, yC_3, yC_4, yC_15, yC_same, Za,Zb,Ze,Zf,Zg,Zh,Zk,Zl,Zm,Zu,Z1,Z5,Z6,ZF,ZH,ZK,ZO,ZP,ZR,ZS,ZX,Yt,Yu,Y4,YD,YE,YF,YL,YQ,Xe,Xf,Xk,Xp,Wp,Wq,Wr,Ws,Wv,Ww,Wy,Wz,W0,W3,W4,W5,W6,W7,W8,W9,WA,WB,WC,WE,WF,WG,WI,WJ,WK,WM,WN,WO,WP,WR,WS,WT,WU,WV,WW,WX,WY,WZ,Vb,Vd,Vi,Vk,Vl,Vn,Vo,Vq,Vy,V1,VC,VF,VH,VL,VM,VN,VO,VP,VQ,VR,VS,VT,VW,VZ,Ud,Ue,Uf,Uh,Uk,Un,Uo,Uq,Ur,Us,Ut,Uu,U7,U8,UP,UQ,UU,Tf,Th,Tj,Tk,Tn,Ts,Tt,Tw,TD,TE,TF,TG,TQ,TR,TS,TT,TU,Sl,Sn,Sq,Sr, s1, c2, e]; all_goals tactic => exact rfl))
  intro a
  (sym => (simp [yC_nm, yC_rn, yM_s, yC_gr, yC_sl, yC_fz, yC_len, yC_0, yC_1, yC_2, yC_3, yC_4, yC_15, yC_same, Za,Zb,Ze,Zf,Zg,Zh,Zk,Zl,Zm,Zu,Z1,Z5,Z6,ZF,ZH,ZK,ZO,ZP,ZR,ZS,ZX,Yt,Yu,Y4,YD,YE,YF,YL,YQ,Xe,Xf,Xk,Xp,Wp,Wq,Wr,Ws,Wv,Ww,Wy,Wz,W0,W3,W4,W5,W6,W7,W8,W9,WA,WB,WC,WE,WF,WG,WI,WJ,WK,WM,WN,WO,WP,WR,WS,WT,WU,WV,WW,WX,WY,WZ,Vb,Vd,Vi,Vk,Vl,Vn,Vo,Vq,Vy,V1,VC,VF,VH,VL,VM,VN,VO,VP,VQ,VR,VS,VT,VW,VZ,Ud,Ue,Uf,Uh,Uk,Un,Uo,Uq,Ur,Us,Ut,Uu,U7,U8,UP,UQ,UU,Tf,Th,Tj,Tk,Tn,Ts,Tt,Tw,TD,TE,TF,TG,TQ,TR,TS,TT,TU,Sl,Sn,Sq,Sr, y]; all_goals tactic => exact rfl))
theorem y80i1 (hb : ∀ k, b k < 2 ^ 10) {j k : Nat} (hj : j < 10) (hk : k < 10) (h : (b j).testBit k = true) : Yd (h80i l b es k .ready) (h80i l b es k (.done (.exit 1))) j false := by
  have s1 := yC_b (l := l) (b := b) (m := 3) (k := j) hj
  have c2 : ((j : Int) < 10) = True := eq_true (by omega)
  have e := w83 (a := b j) (lo_63 (hb j)) (i := (k : Int)) (j := k) rfl (by omega)
  rw [h] at e
  have y : runYW progX (.fn (.yield 0) [] []) [I (j : Nat)] (h80i l b es k .ready) = some (.bool false, h80i l b es k (.done (.exit 1))) := by
    rw [runYW_eq (K := 80) (d := x80) (site := 1) (vs := [.pt 1 0, .pt 4 0]) rfl rfl (by rfl) rfl]
    (sym => (simp [yC_nm, yC_rn, yM_s, yC_gr, yC_sl, yC_fz, yC_len, yC_0, yC_1, yC_2, yC_3, yC_4, yC_15, yC_same, Za,Zb,Ze,Zf,Zg,Zh,Zk,Zl,Zm,Zu,Z1,Z5,Z6,ZF,ZH,ZK,ZO,ZP,ZR,ZS,ZX,Yt,Yu,Y4,YD,YE,YF,YL,YQ,Xe,Xf,Xk,Xp,Wp,Wq,Wr,Ws,Wv,Ww,Wy,Wz,W0,W3,W4,W5,W6,W7,W8,W9,WA,WB,WC,WE,WF,WG,WI,WJ,WK,WM,WN,WO,WP,WR,WS,WT,WU,WV,WW,WX,WY,WZ,Vb,Vd,Vi,Vk,Vl,Vn,Vo,Vq,Vy,V1,VC,VF,VG,VL,VM,VN,VO,VP,VQ,VR,VS,VT,VW,VZ,Ud,Ue,Uf,Uh,Uk,Un,Uo,Uq,Ur,Us,Ut,Uu,U7,U8,UP,UQ,UU,Tf,Ti,Tj,Tk,Tq,Ts,Tt,Tw,TD,TE,TF,TG,TQ,TR,TS,TT,TW,Sl,Sn,Sq,Sr, s1, c2, e]; all_goals tactic => exact rfl))
  intro a
  (sym => (simp [yC_nm, yC_rn, yM_s, yC_gr, yC_sl, yC_fz, yC_len, yC_0, yC_1, yC_2, yC_3, yC_4, yC_15, yC_same, Za,Zb,Ze,Zf,Zg,Zh,Zk,Zl,Zm,Zu,Z1,Z5,Z6,ZF,ZH,ZK,ZO,ZP,ZR,ZS,ZX,Yt,Yu,Y4,YD,YE,YF,YL,YQ,Xe,Xf,Xk,Xp,Wp,Wq,Wr,Ws,Wv,Ww,Wy,Wz,W0,W3,W4,W5,W6,W7,W8,W9,WA,WB,WC,WE,WF,WG,WI,WJ,WK,WM,WN,WO,WP,WR,WS,WT,WU,WV,WW,WX,WY,WZ,Vb,Vd,Vi,Vk,Vl,Vn,Vo,Vq,Vy,V1,VC,VF,VG,VL,VM,VN,VO,VP,VQ,VR,VS,VT,VW,VZ,Ud,Ue,Uf,Uh,Uk,Un,Uo,Uq,Ur,Us,Ut,Uu,U7,U8,UP,UQ,UU,Tf,Ti,Tj,Tk,Tq,Ts,Tt,Tw,TD,TE,TF,TG,TQ,TR,TS,TT,TW,Sl,Sn,Sq,Sr, y]; all_goals tactic => exact rfl))
theorem in80 (hb : ∀ k, b k < 2 ^ 10) {a : Nat} (ha : a < 1024) {k : Nat} (hk : k < 10) :
    (freeB b a k = true ∧ runW progX 106 [.fn (.yield 0) [] [], .pt 5 0] [some (.loop 80 1 [.pt 1 0, .pt 4 0] .ready), some (.blk false (.cells true [.pt 2 0])), some (.blk false (.cells true (yC l b 3))), some (.blk true (.map true es)), some (.blk true (.cells true [I (k : Nat)])), cU a] =
      some (.tup [], [some (.loop 80 1 [.pt 1 0, .pt 4 0] .ready), some (.blk false (.cells true [.pt 2 0])), some (.blk false (.cells true (yC l b 3))), some (.blk true (.map true es)), some (.blk true (.cells true [I (k : Nat)])), some (.blk true (.cells true [.int .u64 0]))])) ∨
    (freeB b a k = false ∧ ∃ c : Nat, runW progX 106 [.fn (.yield 0) [] [], .pt 5 0] [some (.loop 80 1 [.pt 1 0, .pt 4 0] .ready), some (.blk false (.cells true [.pt 2 0])), some (.blk false (.cells true (yC l b 3))), some (.blk true (.map true es)), some (.blk true (.cells true [I (k : Nat)])), cU a] =
      some (.tup [], [some (.loop 80 1 [.pt 1 0, .pt 4 0] (.done (.exit 1))), some (.blk false (.cells true [.pt 2 0])), some (.blk false (.cells true (yC l b 3))), some (.blk true (.map true es)), some (.blk true (.cells true [I (k : Nat)])), cU c])) := by
  cases hf : freeB b a k with
  | true =>
    refine .inl ⟨rfl, ?_⟩
    exact each_all (n := 5) (G := fun _ => h80i l b es k .ready) ha (fun _ _ => home80i k .ready) fun i v hv => by
      have hm := List.mem_of_getElem? hv
      unfold freeB at hf
      have := List.all_eq_true.1 hf v hm
      exact y80i0 hb (el_mem.1 hm).1 hk (by simpa using this)
  | false =>
    refine .inr ⟨rfl, ?_⟩
    obtain ⟨m, m1, m2, m3⟩ := firstN_ix (fun i => if (b ((el a).getD i 0)).testBit k = true then 1 else 0) (el a).length
    have hz : ∀ i v, (el a)[i]? = some v → i < m → (b v).testBit k = false := fun i v hv hi => by
      have := m2 i hi
      rw [getD_of hv] at this
      cases hc : (b v).testBit k with
      | false => rfl
      | true => simp [hc] at this
    rcases m3 with ⟨h1, _⟩ | ⟨h1, h2, _⟩
    · obtain ⟨j, h3, h4⟩ := free_not hf
      obtain ⟨i, h5⟩ := List.getElem?_of_mem h3
      have := hz i j h5 (by have := lt_of h5; omega)
      rw [h4] at this; simp at this
    · obtain ⟨v, hv⟩ := at_ix h1
      rw [getD_of hv] at h2
      have hm := List.mem_of_getElem? hv
      exact each_left (n := 5) (G := fun _ => h80i l b es k .ready) (m := m) (v := v) ha (fun _ _ => home80i k .ready) (home80i k _) (fun i u hi hu => y80i0 hb (el_mem.1 (List.mem_of_getElem? hu)).1 hk (hz i u hu hi)) hv
        (y80i1 hb (el_mem.1 hm).1 hk (by
          cases hc : (b v).testBit k with
          | true => rfl
          | false => simp [hc] at h2))
/-! ### The loop over those that could be last -/
abbrev shS (l : Li) (b : Nat → Nat) (a : Nat) (n : Int) (k : Nat) : Int := if freeB b a k = true then mnI n (lastF l a k) else n
/-- The sourness that a set shows. -/
def shF (l : Li) (b : Nat → Nat) (a : Nat) : Int := (el a).foldl (shS l b a) 1000000
abbrev h80 (l : Li) (b : Nat → Nat) (es : List (AV × AV)) (a : Nat) (n : Int) : XH := [some (.loop 80 0 [.pt 1 0, .pt 4 0, .pt 5 0] .ready), some (.blk false (.cells true [.pt 2 0])), some (.blk false (.cells true (yC l b 3))), some (.blk true (.map true es)), cU a, some (.blk true (.cells true [I n]))]
theorem home80 (a : Nat) (n : Int) : Home 6 (h80 l b es a n) := by
  refine ⟨fun _ => rfl, fun _ _ => rfl, fun _ => rfl, ?_, ?_⟩
  · intro a e h0 h1
    (sym => (simp [yC_nm, yC_rn, yM_s, yC_gr, yC_sl, yC_fz, yC_len, yC_0, yC_1, yC_2, yC_3, yC_4, yC_15, yC_same, Za,YH,YL,YQ,Xh,Xk,Xp,Xt,XV,Wz,W5,W7,W9,WB,WC,WE,WF,WG,WM,WN,WO,WP,WR,WS,WT,WU,Vi,Vz,V0,V1,VD,VE,VL,VM,VN,VO,VP,VQ,VR,Uk,Uq,Ur,Us,Ut,Uu,Ux,U1,Tr,Sc, h0, h1]; all_goals tactic => exact rfl))
  · intro a
    (sym => (simp [yC_nm, yC_rn, yM_s, yC_gr, yC_sl, yC_fz, yC_len, yC_0, yC_1, yC_2, yC_3, yC_4, yC_15, yC_same, Za,YH,YL,YQ,Xh,Xk,Xp,Xt,XV,Wz,W5,W7,W9,WB,WC,WE,WF,WG,WM,WN,WO,WP,WR,WS,WT,WU,Vi,Vz,V0,V1,VD,VE,VL,VM,VN,VO,VP,VQ,VR,Uk,Uq,Ur,Us,Ut,Uu,Ux,U1,Tr,Sc]; all_goals tactic => exact rfl))
theorem y80 (g : Good l) (hb : ∀ k, b k < 2 ^ 10) {a : Nat} (ha : a < 2 ^ l.ls.length) (n : Int) {k : Nat} (hk : k < l.ls.length) : Yd (h80 l b es a n) (h80 l b es a (shS l b a n k)) k true := by
  have hfew := g.few
  have e81 := w81 a
  have e86 := w86 (b := b) (es := es) g ha hk
  have y : runYW progX (.fn (.yield 0) [] []) [I (k : Nat)] (h80 l b es a n) = some (.bool true, h80 l b es a (shS l b a n k)) := by
    rw [runYW_eq (K := 80) (d := x80) (site := 0) (vs := [.pt 1 0, .pt 4 0, .pt 5 0]) rfl rfl (by rfl) rfl]
    unfold shS mnI
    generalize lastF l a k = lv at *
    rcases in80 (l := l) (es := es) hb (lt_10 ha hfew) (k := k) (by omega) with ⟨h1, h2⟩ | ⟨h1, c, h2⟩
    · rw [h1, if_pos rfl]
      (sym => (simp [yC_nm, yC_rn, yM_s, yC_gr, yC_sl, yC_fz, yC_len, yC_0, yC_1, yC_2, yC_3, yC_4, yC_15, yC_same, Za,Zb,Zc,Zd,Ze,Zf,Zg,Zh,Zj,Zk,Zl,Zm,Zv,ZD,ZE,ZF,ZH,ZI,ZJ,ZK,ZL,ZM,ZN,ZO,ZP,ZR,ZS,Y6,YE,YF,YL,YQ,YR,Xe,Xf,Xh,Xk,Xo,Xp,Xw,Wc,Wn,Wp,Wq,Wr,Ws,Wt,Wv,Ww,Wy,Wz,W0,W3,W4,W5,W6,W7,W8,W9,WA,WB,WC,WE,WF,WG,WI,WJ,WK,WM,WN,WO,WP,WR,WS,WT,WU,WV,WW,WX,WY,WZ,Va,Vb,Vd,Ve,Vi,Vk,Vl,Vn,Vo,Vp,Vq,Vy,V1,VC,VL,VM,VN,VO,VP,VQ,VR,VS,VT,VW,VZ,Uc,Ud,Ue,Uf,Uh,Uk,Un,Uo,Uq,Ur,Us,Ut,Uu,Uv,Uw,Ux,Uy,U3,U7,U8,UP,UQ,UU,UV,UW,Tf,Tj,Tk,Tl,Tn,Tq,Ts,Tt,TD,TE,TF,TG,TI,TJ,TK,TL,TM,TN,TO,TP,TQ,TR,TS,TT,TU,Sb,Sc,Sf,Sg,Si,Sj,Sk,Sn,Sq,Sr, e81, e86, h2]; all_goals tactic => exact rfl))
    · rw [h1, if_neg (by simp)]
      (sym => (simp [yC_nm, yC_rn, yM_s, yC_gr, yC_sl, yC_fz, yC_len, yC_0, yC_1, yC_2, yC_3, yC_4, yC_15, yC_same, Za,Zb,Zc,Zd,Ze,Zf,Zg,Zh,Zj,Zk,Zl,Zm,Zv,ZD,ZE,ZF,ZH,ZI,ZJ,ZK,ZL,ZM,ZN,ZO,ZP,ZR,ZS,Y6,YE,YF,YL,YQ,YR,Xe,Xf,Xh,Xk,Xo,Xp,Xw,Wc,Wn,Wp,Wq,Wr,Ws,Wt,Wv,Ww,Wy,Wz,W0,W3,W4,W5,W6,W7,W8,W9,WA,WB,WC,WE,WF,WG,WI,WJ,WK,WM,WN,WO,WP,WR,WS,WT,WU,WV,WW,WX,WY,WZ,Va,Vb,Vd,Ve,Vi,Vk,Vl,Vn,Vo,Vp,Vq,Vy,V1,VC,VL,VM,VN,VO,VP,VQ,VR,VS,VT,VW,VZ,Uc,Ud,Ue,Uf,Uh,Uk,Un,Uo,Uq,Ur,Us,Ut,Uu,Uv,Uw,Ux,Uy,U3,U7,U8,UP,UQ,UU,UV,UW,Tf,Tj,Tk,Tl,Tn,Tq,Ts,Tt,TD,TE,TF,TG,TI,TJ,TK,TL,TM,TN,TO,TP,TQ,TR,TS,TT,TU,Sb,Sc,Sf,Sg,Si,Sj,Sk,Sn,Sq,Sr, e81, e86, h2]; all_goals tactic => exact rfl))
  intro c
  (sym => (simp [yC_nm, yC_rn, yM_s, yC_gr, yC_sl, yC_fz, yC_len, yC_0, yC_1, yC_2, yC_3, yC_4, yC_15, yC_same, Za,Zb,Zc,Zd,Ze,Zf,Zg,Zh,Zj,Zk,Zl,Zm,Zv,ZD,ZE,ZF,ZH,ZI,ZJ,ZK,ZL,ZM,ZN,ZO,ZP,ZR,ZS,Y6,YE,YF,YL,YQ,YR,Xe,Xf,Xh,Xk,Xo,Xp,Xw,Wc,Wn,Wp,Wq,Wr,Ws,Wt,Wv,Ww,Wy,Wz,W0,W3,W4,W5,W6,W7,W8,W9,WA,WB,WC,WE,WF,WG,WI,WJ,WK,WM,WN,WO,WP,WR,WS,WT,WU,WV,WW,WX,WY,WZ,Va,Vb,Vd,Ve,Vi,Vk,Vl,Vn,Vo,Vp,Vq,Vy,V1,VC,VL,VM,VN,VO,VP,VQ,VR,VS,VT,VW,VZ,Uc,Ud,Ue,Uf,Uh,Uk,Un,Uo,Uq,Ur,Us,Ut,Uu,Uv,Uw,Ux,Uy,U3,U7,U8,UP,UQ,UU,UV,UW,Tf,Tj,Tk,Tl,Tn,Tq,Ts,Tt,TD,TE,TF,TG,TI,TJ,TK,TL,TM,TN,TO,TP,TQ,TR,TS,TT,TU,Sb,Sc,Sf,Sg,Si,Sj,Sk,Sn,Sq,Sr, y]; all_goals tactic => exact rfl))
theorem w80 (g : Good l) (hb : ∀ k, b k < 2 ^ 10) {a : Nat} (ha : a < 2 ^ l.ls.length) : runW progX 80 [.pt 0 0, U a] (hY l b es) = some (I (shF l b a), hY l b es) := by
  have hfew := g.few
  have ha2 := lt_10 ha hfew
  have e81 := w81 a
  have e : runW progX 106 [.fn (.yield 0) [] [], .pt 6 0] [some (.loop 80 0 [.pt 1 0, .pt 4 0, .pt 5 0] .ready), some (.blk false (.cells true [.pt 2 0])), some (.blk false (.cells true (yC l b 3))), some (.blk true (.map true es)), cU a, some (.blk true (.cells true [I 1000000])), cU a] =
      some (.tup [], [some (.loop 80 0 [.pt 1 0, .pt 4 0, .pt 5 0] .ready), some (.blk false (.cells true [.pt 2 0])), some (.blk false (.cells true (yC l b 3))), some (.blk true (.map true es)), cU a, some (.blk true (.cells true [I (shF l b a)])), some (.blk true (.cells true [.int .u64 0]))]) := by
    have h := each_all (n := 6) (G := fun i => h80 l b es a (fT (shS l b a) 1000000 (el a) i)) ha2 (fun i _ => home80 a _) (by
      intro i v hv
      rw [fT_up hv]
      exact y80 g hb ha _ (el_lt ha (List.mem_of_getElem? hv)))
    unfold shF
    rw [fT_all] at h
    exact h
  rw [r80 (by simp)]; unfold x80; dsimp only
  (sym => (simp [yC_nm, yC_rn, yM_s, yC_gr, yC_sl, yC_fz, yC_len, yC_0, yC_1, yC_2, yC_3, yC_4, yC_15, yC_same, Za,Zb,Zc,Zf,Zg,Zh,Zj,Zl,Zm,Zn,Zu,Zv,Zy,ZE,ZI,ZJ,ZM,ZN,ZR,ZS,YE,YL,YQ,YR,YY,Xe,Xh,Xk,Xo,Xp,Xq,XP,XX,Wc,Wh,Wp,Wq,Wr,Ws,Wt,Wv,Ww,Wx,Wy,Wz,W0,W3,W4,W5,W6,W7,W8,W9,WA,WB,WC,WE,WF,WG,WI,WJ,WK,WM,WN,WO,WP,WR,WS,WT,WU,WV,WW,WX,WY,Vi,Vk,Vl,Vn,Vo,Vq,Vw,Vx,Vz,V0,V1,V2,V3,V6,V7,V8,V9,VB,VK,VL,VM,VN,VO,VP,VQ,VR,VS,VT,VW,VZ,Uh,Uk,Uq,Ur,Us,Ut,Uu,Uv,Uw,U1,U2,U3,U9,UA,UP,UQ,UU,UV,UW,UZ,Tf,Tg,Th,Tj,Tk,Tn,Ts,Tt,TD,TE,TH,TK,TL,TM,TN,TO,TX,Sc,Sn,Sq,Sr, e81, e]; all_goals tactic => exact rfl))
end
end Go.Proofs.YtpbeclkpohehgaaDoor
namespace Go.Proofs.YtpbeclkpohehgaaDoor
open Go Go.DL
set_option maxRecDepth 100000
set_option maxHeartbeats 4000000

theorem bit_1 {a i : Nat} (ha : a < 2 ^ 63) (hi : i < 64) : (a.testBit i = true ∧ (bitsA .and .i64 ((a : Int).fdiv (2 ^ min i IntKind.i64.bits)) 1 = 1) = True) ∨ (a.testBit i = false ∧ (bitsA .and .i64 ((a : Int).fdiv (2 ^ min i IntKind.i64.bits)) 1 = 1) = False) := by
  have e := bit_eq big_i ha hi
  cases h : a.testBit i with
  | true => rw [h] at e; exact .inl ⟨rfl, e.trans (eq_true rfl)⟩
  | false => rw [h] at e; exact .inr ⟨rfl, e.trans (eq_false (by simp))⟩
theorem bit_0 {a i : Nat} (ha : a < 2 ^ 63) (hi : i < 64) : (a.testBit i = true ∧ (bitsA .and .i64 ((a : Int).fdiv (2 ^ min i IntKind.i64.bits)) 1 = 0) = False) ∨ (a.testBit i = false ∧ (bitsA .and .i64 ((a : Int).fdiv (2 ^ min i IntKind.i64.bits)) 1 = 0) = True) := by
  have e := bit_at big_i ha hi
  cases h : a.testBit i with
  | true => rw [h] at e; exact .inl ⟨rfl, eq_false (by rw [e]; simp)⟩
  | false => rw [h] at e; exact .inr ⟨rfl, eq_true (by rw [e]; simp)⟩
theorem neg_n (i : Nat) : ((i : Int) < 0) = False := eq_false (by omega)
section
variable {l : Li} {b : Nat → Nat}
theorem w79 (g : Good l) {a : Nat} (ha : a < 2 ^ l.ls.length) : runW progX 79 [.agg l.c, I (a : Nat)] [] = some (I (endF l a), []) := by
  have hfew := g.few
  have ha2 := lt_10 ha hfew
  have z := UO (n := (l.ls.length : Int))
  have s0 : fR (enS l) l.hi a 0 = l.hi := rfl
  have sf : fR (enS l) l.hi a l.ls.length = endF l a := fR_el ha hfew
  have bd : ∀ i, i ≤ l.ls.length → 0 ≤ fR (enS l) l.hi a i ∧ fR (enS l) l.hi a i ≤ 200000 := by
    intro i hi
    rw [fR_fl]
    have h := en_bd g ((List.range i).filter (a.testBit ·)) l.hi fun k hk => by
      have := List.mem_range.1 (List.mem_filter.1 hk).1
      omega
    have h2 := inSF.1 g.start
    have h3 := List.length_filter_le (a.testBit ·) (List.range i)
    rw [List.length_range] at h3
    omega
  have rd : ∀ i, i < l.ls.length → headX 0 [1, 2, 5, 6] (execW progX 79 0 none (match x79l0 with | .loop _ a => a | c => c) (envL [1, 2, 5, 6] [I (a : Nat), .pt 0 0, I (fR (enS l) l.hi a i), I (i : Nat)]) (hL l)) = some ([I (a : Nat), .pt 0 0, I (fR (enS l) l.hi a (i + 1)), I (i + 1 : Nat)], hL l) := by
    intro i hi
    obtain ⟨x, hx⟩ := at_ix hi
    have hx2 : ldN l i = x := getD_of hx
    have a1 := lt_ix hi
    have a2 := up_ix hi (by omega)
    have n0 := neg_n i
    have b1 := bd i (by omega)
    have b2 := bd (i + 1) (by omega)
    rw [fR] at b2 ⊢
    unfold enS at b2 ⊢
    rw [hx2] at b2 ⊢
    unfold x79l0
    dsimp only
    generalize fR (fun n k => n + (ldN l k).ch) l.hi a i = v at *
    rcases bit_1 (a := a) (i := i) (by omega) (by omega) with ⟨h1, h2⟩ | ⟨h1, h2⟩
    · rw [if_pos h1] at b2 ⊢
      have q : IntKind.i64.wrap (v + x.ch) = v + x.ch := wrap_ok (by omega) (by omega)
      (sym => (simp [Za,Zb,Zf,Zh,Zl,Zm,Zn,Zu,Zy,Z2,Z5,Z7,ZC,ZE,ZX,ZY,ZZ,Ye,Yf,Yh,Yj,Ym,Yn,Yp,Yt,Yu,Yx,YE,YL,YR,YU,YV,Xe,Xk,Xq,XP,XU,XW,We,Wp,Wq,Wr,Wx,Wy,Wz,W4,W5,W7,W8,W9,WB,WE,WF,WG,WH,WM,WN,WS,Vi,Vw,Vx,Vz,V0,V1,V2,V3,V6,V7,V8,V9,VB,VC,VD,VE,VF,VG,VH,VI,VK,VL,VM,VO,VP,VR,VS,VT,VU,VV,VW,VZ,Uh,Uk,Ul,Um,Ur,Us,Ut,Uu,Uv,Uw,U1,U2,U9,UA,UO,UP,UQ,UR,US,UU,UZ,Te,Tf,Tg,Th,Ti,Tj,Tk,Tl,Tn,Tq,Tr,Ts,Tt,Ty,Sc, a1, a2, n0, hx, h2, q]; all_goals tactic => exact rfl))
    · rw [h1, if_neg (by simp)]
      (sym => (simp [Za,Zb,Zf,Zh,Zl,Zm,Zn,Zu,Zy,Z2,Z5,Z7,ZC,ZE,ZX,ZY,ZZ,Ye,Yf,Yh,Yj,Ym,Yn,Yp,Yt,Yu,Yx,YE,YL,YR,YU,YV,Xe,Xk,Xq,XP,XU,XW,We,Wp,Wq,Wr,Wx,Wy,Wz,W4,W5,W7,W8,W9,WB,WE,WF,WG,WH,WM,WN,WS,Vi,Vw,Vx,Vz,V0,V1,V2,V3,V6,V7,V8,V9,VB,VC,VD,VE,VF,VG,VH,VI,VK,VL,VM,VO,VP,VR,VS,VT,VU,VV,VW,VZ,Uh,Uk,Ul,Um,Ur,Us,Ut,Uu,Uv,Uw,U1,U2,U9,UA,UO,UP,UQ,UR,US,UU,UZ,Te,Tf,Tg,Th,Ti,Tj,Tk,Tl,Tn,Tq,Tr,Ts,Tt,Ty,Sc, a1, a2, n0, hx, h2]; all_goals tactic => exact rfl))
  rw [r79 (by simp)]; unfold x79; dsimp only
  sym =>
    simp [Za,Zb,Zf,Zh,Zl,Zm,Zn,Zu,Zy,Z2,Z5,Z7,ZC,ZE,ZX,ZY,ZZ,Ye,Yf,Yh,Yj,Ym,Yn,Yp,Yt,Yu,Yx,YE,YL,YR,YU,YV,Xe,Xk,Xq,XP,XU,XW,We,Wp,Wq,Wr,Wx,Wy,Wz,W4,W5,W7,W8,W9,WB,WE,WF,WG,WH,WM,WN,WS,Vi,Vw,Vx,Vz,V0,V1,V2,V3,V6,V7,V8,V9,VB,VC,VD,VE,VF,VG,VH,VI,VK,VL,VM,VO,VP,VR,VS,VT,VU,VV,VW,VZ,Uh,Uk,Ul,Um,Ur,Us,Ut,Uu,Uv,Uw,U1,U2,U9,UA,UO,UP,UQ,UR,US,UU,UZ,Te,Tf,Tg,Th,Ti,Tj,Tk,Tl,Tn,Tq,Tr,Ts,Tt,Ty,Sc]
    tactic =>
      unfold x79l0
      rw [loop_rule l.ls.length (fun i => [I (a : Nat), .pt 0 0, I (fR (enS l) l.hi a i), I (i : Nat)]) (fun _ => hL l)]
      · (sym => (simp [Za,Zb,Zf,Zh,Zl,Zm,Zn,Zu,Zy,Z2,Z5,Z7,ZC,ZE,ZX,ZY,ZZ,Ye,Yf,Yh,Yj,Ym,Yn,Yp,Yt,Yu,Yx,YE,YL,YR,YU,YV,Xe,Xk,Xq,XP,XU,XW,We,Wp,Wq,Wr,Wx,Wy,Wz,W4,W5,W7,W8,W9,WB,WE,WF,WG,WH,WM,WN,WS,Vi,Vw,Vx,Vz,V0,V1,V2,V3,V6,V7,V8,V9,VB,VC,VD,VE,VF,VG,VH,VI,VK,VL,VM,VO,VP,VR,VS,VT,VU,VV,VW,VZ,Uh,Uk,Ul,Um,Ur,Us,Ut,Uu,Uv,Uw,U1,U2,U9,UA,UO,UP,UQ,UR,US,UU,UZ,Te,Tf,Tg,Th,Ti,Tj,Tk,Tl,Tn,Tq,Tr,Ts,Tt,Ty,Sc, z, sf]; all_goals tactic => exact rfl))
      · (sym => (simp [Za,Zb,Zf,Zh,Zl,Zm,Zn,Zu,Zy,Z2,Z5,Z7,ZC,ZE,ZX,ZY,ZZ,Ye,Yf,Yh,Yj,Ym,Yn,Yp,Yt,Yu,Yx,YE,YL,YR,YU,YV,Xe,Xk,Xq,XP,XU,XW,We,Wp,Wq,Wr,Wx,Wy,Wz,W4,W5,W7,W8,W9,WB,WE,WF,WG,WH,WM,WN,WS,Vi,Vw,Vx,Vz,V0,V1,V2,V3,V6,V7,V8,V9,VB,VC,VD,VE,VF,VG,VH,VI,VK,VL,VM,VO,VP,VR,VS,VT,VU,VV,VW,VZ,Uh,Uk,Ul,Um,Ur,Us,Ut,Uu,Uv,Uw,U1,U2,U9,UA,UO,UP,UQ,UR,US,UU,UZ,Te,Tf,Tg,Th,Ti,Tj,Tk,Tl,Tn,Tq,Tr,Ts,Tt,Ty,Sc, s0]; all_goals tactic => exact rfl))
      · exact rd
      · (sym => (simp [Za,Zb,Zf,Zh,Zl,Zm,Zn,Zu,Zy,Z2,Z5,Z7,ZC,ZE,ZX,ZY,ZZ,Ye,Yf,Yh,Yj,Ym,Yn,Yp,Yt,Yu,Yx,YE,YL,YR,YU,YV,Xe,Xk,Xq,XP,XU,XW,We,Wp,Wq,Wr,Wx,Wy,Wz,W4,W5,W7,W8,W9,WB,WE,WF,WG,WH,WM,WN,WS,Vi,Vw,Vx,Vz,V0,V1,V2,V3,V6,V7,V8,V9,VB,VC,VD,VE,VF,VG,VH,VI,VK,VL,VM,VO,VP,VR,VS,VT,VU,VV,VW,VZ,Uh,Uk,Ul,Um,Ur,Us,Ut,Uu,Uv,Uw,U1,U2,U9,UA,UO,UP,UQ,UR,US,UU,UZ,Te,Tf,Tg,Th,Ti,Tj,Tk,Tl,Tn,Tq,Tr,Ts,Tt,Ty,Sc, z]; all_goals tactic => exact rfl))
theorem w78 (g : Good l) {k : Nat} (hk : k < l.ls.length) {e : Int} (he : 0 ≤ e ∧ e ≤ 200000) : runW progX 78 [.agg l.c, I (k : Nat), I e] [] = some (I (sourF (knAt l (ldN l k)) ((ldN l k).ah + e)), []) := by
  obtain ⟨x, kd, h1, h2, h3, h4, h5, h6, h7, h8⟩ := g.ldn hk
  rw [h2, h5]
  have w := w56 kd (x.ah + e) h6
  have c1 := lt_ix hk
  have c3 : (0 ≤ x.k) = True := eq_true (by omega)
  have c4 : (x.k < (l.ks.length : Int)) = True := eq_true (by omega)
  have q : IntKind.i64.wrap (x.ah + e) = x.ah + e := wrap_ok (by omega) (by omega)
  rw [r78 (by simp)]; unfold x78; dsimp only
  (sym => (simp [Za,Zb,Ze,Zf,Zh,Zi,Zl,Zm,Zn,Zu,Zy,Z2,Z5,Z7,ZF,ZG,ZH,ZK,ZO,ZP,ZR,ZS,ZX,ZY,Ye,Yf,Yh,Yt,Yu,YE,YJ,YR,YU,YV,Xe,Xi,Xq,XP,XU,XW,We,Wp,Wq,Wr,Ww,Wx,Wy,W7,WA,WB,WC,WE,WF,WG,WI,WJ,WV,WW,WX,WZ,Vb,Vd,Vi,Vw,Vx,Vz,V0,V1,V2,V3,V6,V7,V8,V9,VB,VK,VL,VM,VO,VP,VR,VS,VT,VU,VV,VW,VZ,Ud,Ue,Uf,Uh,Un,Uo,Uq,Ur,Us,Ut,Uu,Uv,Uw,U1,U2,U9,UA,UP,UQ,UR,US,UU,UZ,Te,Tf,Tg,Tk,Ts,Tt,Sc, h1, h4, c1, c3, c4, q, w]; all_goals tactic => exact rfl))
def frN (b : Nat → Nat) (a k : Nat) : Nat → Bool
  | 0 => a.testBit k
  | j + 1 => frN b a k j && (!a.testBit j || !(b j).testBit k)
theorem frN_iff {a k : Nat} : ∀ n, (frN b a k n = true ↔ a.testBit k = true ∧ ∀ j, j < n → a.testBit j = true → (b j).testBit k = false)
  | 0 => by rw [frN]; exact ⟨fun h => ⟨h, fun j hj => by omega⟩, fun h => h.1⟩
  | n + 1 => by
    rw [frN, Bool.and_eq_true, frN_iff n]
    constructor
    · rintro ⟨⟨h1, h2⟩, h3⟩
      refine ⟨h1, fun j hj hja => ?_⟩
      by_cases h : j = n
      · subst h
        rw [hja] at h3
        simpa using h3
      · exact h2 j (by omega) hja
    · rintro ⟨h1, h2⟩
      refine ⟨⟨h1, fun j hj => h2 j (by omega)⟩, ?_⟩
      cases h : a.testBit n with
      | false => rfl
      | true => rw [h2 n (by omega) h]; rfl
theorem frN_el {a k n : Nat} (ha : a < 2 ^ n) (hn : n ≤ 10) : frN b a k n = (a.testBit k && freeB b a k) := by
  apply Bool.eq_iff_iff.2
  rw [frN_iff, Bool.and_eq_true]
  unfold freeB
  rw [List.all_eq_true]
  constructor
  · rintro ⟨h1, h2⟩
    exact ⟨h1, fun j hj => by rw [h2 j (el_lt ha hj) (el_mem.1 hj).2]; rfl⟩
  · rintro ⟨h1, h2⟩
    exact ⟨h1, fun j hj hja => by simpa using h2 j (el_mem.2 ⟨by omega, hja⟩)⟩
theorem round87i (hn : l.ls.length ≤ 10) (hb : ∀ k, b k < 2 ^ 10) {a k j : Nat} (ha : a < 2 ^ 10) (hk : k < 10) (hj : j < l.ls.length) (f r : Bool) (v : Int) (hr : r = (f && (!a.testBit j || !(b j).testBit k))) :
    headX 0 [1, 2, 5, 6, 7, 8, 9] (execW progX 87 0 none (match x87l0 with | .loop _ a => a | c => c) (envL [1, 2, 5, 6, 7, 8, 9] [I (a : Nat), .pt 0 0, rI (bL l.ls.length b), I v, I (k : Nat), .bool f, I (j : Nat)]) (hL l)) =
      some ([I (a : Nat), .pt 0 0, rI (bL l.ls.length b), I v, I (k : Nat), .bool r, I (j + 1 : Nat)], hL l) := by
  have a1 := lt_ix hj
  have a2 := up_ix hj (by omega)
  have c2 : ((j : Int) < ((bL l.ls.length b).length : Int)) = True := eq_true (by rw [bL_len]; omega)
  have s1 := bL_get (n := l.ls.length) (b := b) (k := j) hj
  have n0 := neg_n j
  have n1 := neg_n k
  generalize bL l.ls.length b = bl at *
  subst hr
  unfold x87l0
  dsimp only
  cases f with
  | false => (sym => (simp [Za,Zb,Zf,Zh,Zl,Zm,Zo,Zp,Zq,Zr,Zs,Zt,Zu,Zx,Z2,Z5,Z7,ZC,ZE,ZT,ZU,ZX,ZZ,Ye,Yf,Yh,Yj,Ym,Yn,Yp,Yt,Yu,YE,YF,YJ,YL,Xe,Xf,Xi,Xk,Wp,Wq,Wr,Wy,Wz,W4,W5,W7,W8,W9,WB,WE,WF,WG,WH,WM,WN,WS,VC,VD,VE,VF,VG,VL,VM,VO,VP,VR,VS,VT,VU,VV,VW,VZ,Ua,Ub,Uc,Ud,Ue,Uf,Ug,Uh,Uk,Ul,Um,Ur,Us,Ut,Uu,UP,UQ,UR,US,UU,Te,Tf,Th,Tj,Tk,Tn,Tr,Ts,Tt,Ty, a1, a2]; all_goals tactic => exact rfl))
  | true =>
    rcases bit_0 (a := a) (i := j) (lo_63 ha) (by omega) with ⟨h1, h2⟩ | ⟨h1, h2⟩
    · rw [h1]
      rcases bit_0 (a := b j) (i := k) (lo_63 (hb j)) (by omega) with ⟨h3, h4⟩ | ⟨h3, h4⟩
      · rw [h3]; (sym => (simp [Za,Zb,Zf,Zh,Zl,Zm,Zo,Zp,Zq,Zr,Zs,Zt,Zu,Zx,Z2,Z5,Z7,ZC,ZE,ZT,ZU,ZX,ZZ,Ye,Yf,Yh,Yj,Ym,Yn,Yp,Yt,Yu,YE,YF,YJ,YL,Xe,Xf,Xi,Xk,Wp,Wq,Wr,Wy,Wz,W4,W5,W7,W8,W9,WB,WE,WF,WG,WH,WM,WN,WS,VC,VD,VE,VF,VG,VL,VM,VO,VP,VR,VS,VT,VU,VV,VW,VZ,Ua,Ub,Uc,Ud,Ue,Uf,Ug,Uh,Uk,Ul,Um,Ur,Us,Ut,Uu,UP,UQ,UR,US,UU,Te,Tf,Th,Tj,Tk,Tn,Tr,Ts,Tt,Ty, a1, a2, c2, s1, n0, n1, h2, h4]; all_goals tactic => exact rfl))
      · rw [h3]; (sym => (simp [Za,Zb,Zf,Zh,Zl,Zm,Zo,Zp,Zq,Zr,Zs,Zt,Zu,Zx,Z2,Z5,Z7,ZC,ZE,ZT,ZU,ZX,ZZ,Ye,Yf,Yh,Yj,Ym,Yn,Yp,Yt,Yu,YE,YF,YJ,YL,Xe,Xf,Xi,Xk,Wp,Wq,Wr,Wy,Wz,W4,W5,W7,W8,W9,WB,WE,WF,WG,WH,WM,WN,WS,VC,VD,VE,VF,VG,VL,VM,VO,VP,VR,VS,VT,VU,VV,VW,VZ,Ua,Ub,Uc,Ud,Ue,Uf,Ug,Uh,Uk,Ul,Um,Ur,Us,Ut,Uu,UP,UQ,UR,US,UU,Te,Tf,Th,Tj,Tk,Tn,Tr,Ts,Tt,Ty, a1, a2, c2, s1, n0, n1, h2, h4]; all_goals tactic => exact rfl))
    · rw [h1]; (sym => (simp [Za,Zb,Zf,Zh,Zl,Zm,Zo,Zp,Zq,Zr,Zs,Zt,Zu,Zx,Z2,Z5,Z7,ZC,ZE,ZT,ZU,ZX,ZZ,Ye,Yf,Yh,Yj,Ym,Yn,Yp,Yt,Yu,YE,YF,YJ,YL,Xe,Xf,Xi,Xk,Wp,Wq,Wr,Wy,Wz,W4,W5,W7,W8,W9,WB,WE,WF,WG,WH,WM,WN,WS,VC,VD,VE,VF,VG,VL,VM,VO,VP,VR,VS,VT,VU,VV,VW,VZ,Ua,Ub,Uc,Ud,Ue,Uf,Ug,Uh,Uk,Ul,Um,Ur,Us,Ut,Uu,UP,UQ,UR,US,UU,Te,Tf,Th,Tj,Tk,Tn,Tr,Ts,Tt,Ty, a1, a2, c2, s1, n0, n1, h2]; all_goals tactic => exact rfl))
abbrev rsS (l : Li) (b : Nat → Nat) (a : Nat) (n : Int) (k : Nat) : Int := if freeB b a k = true then (if n < 0 then lastF l a k else if lastF l a k < n then lastF l a k else n) else n
/-- The sourness that a set shows, by the reference. -/
def rsF (l : Li) (b : Nat → Nat) (a : Nat) : Int := (el a).foldl (rsS l b a) (-1)
theorem round87 (g : Good l) (hb : ∀ k, b k < 2 ^ 10) {a k : Nat} (ha : a < 2 ^ l.ls.length) (hk : k < l.ls.length) (v : Int) :
    headX 0 [1, 2, 5, 6, 7] (execW progX 87 0 none (match x87l1 with | .loop _ a => a | c => c) (envL [1, 2, 5, 6, 7] [I (a : Nat), .pt 0 0, rI (bL l.ls.length b), I v, I (k : Nat)]) (hL l)) =
      some ([I (a : Nat), .pt 0 0, rI (bL l.ls.length b), I (if a.testBit k then rsS l b a v k else v), I (k + 1 : Nat)], hL l) := by
  have hn := g.few
  have ha2 : a < 2 ^ 10 := lt_10 ha hn
  have a1 := lt_ix hk
  have a2 := up_ix hk (by omega)
  have n1 := neg_n k
  have z := UO (n := (l.ls.length : Int))
  have e79 := w79 g ha
  have e78 := w78 g hk (end_bd g ha)
  have hl : sourF (knAt l (ldN l k)) ((ldN l k).ah + endF l a) = lastF l a k := rfl
  rw [hl] at e78
  have hfr := frN_el (b := b) (k := k) ha hn
  have f0 : frN b a k 0 = a.testBit k := rfl
  have rd : ∀ j, j < l.ls.length → headX 0 [1, 2, 5, 6, 7, 8, 9] (execW progX 87 0 none (match x87l0 with | .loop _ a => a | c => c) (envL [1, 2, 5, 6, 7, 8, 9] [I (a : Nat), .pt 0 0, rI (bL l.ls.length b), I v, I (k : Nat), .bool (frN b a k j), I (j : Nat)]) (hL l)) =
      some ([I (a : Nat), .pt 0 0, rI (bL l.ls.length b), I v, I (k : Nat), .bool (frN b a k (j + 1)), I (j + 1 : Nat)], hL l) := fun j hj => round87i hn hb ha2 (by omega) hj _ _ v rfl
  have bt : (bitsA .and .i64 ((a : Int).fdiv (2 ^ min k IntKind.i64.bits)) 1 = 1) = (frN b a k 0 = true) := by
    rw [f0]; exact bit_eq big_i (lo_63 ha2) (by omega)
  have hb0 : ∃ f, frN b a k 0 = f ∧ decide (bitsA .and .i64 ((a : Int).fdiv (2 ^ min k IntKind.i64.bits)) 1 = 1) = f := by
    refine ⟨_, rfl, ?_⟩
    simp only [bt, Bool.decide_eq_true]
  obtain ⟨f, hf1, hf2⟩ := hb0
  unfold x87l1
  dsimp only
  sym =>
    simp [Za,Zb,Ze,Zf,Zg,Zh,Zk,Zl,Zm,Zo,Zp,Zq,Zr,Zs,Zt,Zu,Zx,Z2,Z5,ZC,ZE,ZF,ZH,ZK,ZO,ZP,ZR,ZS,ZT,ZU,ZX,ZZ,Yh,Yj,Ym,Yn,Yp,Yu,Yx,YE,YF,YG,YJ,YL,Xe,Xf,Xg,Xi,Xk,Wp,Wq,Wr,Wt,Wu,Wv,Ww,Wy,Wz,W4,W5,W7,W8,W9,WA,WB,WC,WE,WF,WG,WH,WI,WJ,WM,WN,WS,WV,WW,WX,WZ,Va,Vb,Vd,Vi,Vk,Vl,Vn,Vo,Vq,VC,VD,VE,VF,VG,VH,VI,VK,VL,VM,VO,VP,VR,VS,VT,VU,VW,VZ,Ua,Ub,Ud,Ue,Uf,Uk,Ul,Um,Un,Uo,Uq,Ur,Us,Ut,Uu,UO,UP,UQ,UT,UU,Te,Tf,Th,Ti,Tj,Tk,Tl,Tn,Tq,Tr,Ts,Tt,Ty,Sn,Sq,Sr, a1, n1, hf2]
    tactic =>
      unfold x87l0
      rw [loop_rule l.ls.length (fun j => [I (a : Nat), .pt 0 0, rI (bL l.ls.length b), I v, I (k : Nat), .bool (frN b a k j), I (j : Nat)]) (fun _ => hL l)]
      · rw [hfr]
        generalize endF l a = ef at *
        generalize lastF l a k = lv at *
        generalize bL l.ls.length b = bl at *
        cases h1 : a.testBit k with
        | false => (sym => (simp [Za,Zb,Ze,Zf,Zg,Zh,Zk,Zl,Zm,Zo,Zp,Zq,Zr,Zs,Zt,Zu,Zx,Z2,Z5,ZC,ZE,ZF,ZH,ZK,ZO,ZP,ZR,ZS,ZT,ZU,ZX,ZZ,Yh,Yj,Ym,Yn,Yp,Yu,Yx,YE,YF,YG,YJ,YL,Xe,Xf,Xg,Xi,Xk,Wp,Wq,Wr,Wt,Wu,Wv,Ww,Wy,Wz,W4,W5,W7,W8,W9,WA,WB,WC,WE,WF,WG,WH,WI,WJ,WM,WN,WS,WV,WW,WX,WZ,Va,Vb,Vd,Vi,Vk,Vl,Vn,Vo,Vq,VC,VD,VE,VF,VG,VH,VI,VK,VL,VM,VO,VP,VR,VS,VT,VU,VW,VZ,Ua,Ub,Ud,Ue,Uf,Uk,Ul,Um,Un,Uo,Uq,Ur,Us,Ut,Uu,UO,UP,UQ,UT,UU,Te,Tf,Th,Ti,Tj,Tk,Tl,Tn,Tq,Tr,Ts,Tt,Ty,Sn,Sq,Sr, z, a2]; all_goals tactic => exact rfl))
        | true =>
          cases h2 : freeB b a k with
          | false => (sym => (simp [Za,Zb,Ze,Zf,Zg,Zh,Zk,Zl,Zm,Zo,Zp,Zq,Zr,Zs,Zt,Zu,Zx,Z2,Z5,ZC,ZE,ZF,ZH,ZK,ZO,ZP,ZR,ZS,ZT,ZU,ZX,ZZ,Yh,Yj,Ym,Yn,Yp,Yu,Yx,YE,YF,YG,YJ,YL,Xe,Xf,Xg,Xi,Xk,Wp,Wq,Wr,Wt,Wu,Wv,Ww,Wy,Wz,W4,W5,W7,W8,W9,WA,WB,WC,WE,WF,WG,WH,WI,WJ,WM,WN,WS,WV,WW,WX,WZ,Va,Vb,Vd,Vi,Vk,Vl,Vn,Vo,Vq,VC,VD,VE,VF,VG,VH,VI,VK,VL,VM,VO,VP,VR,VS,VT,VU,VW,VZ,Ua,Ub,Ud,Ue,Uf,Uk,Ul,Um,Un,Uo,Uq,Ur,Us,Ut,Uu,UO,UP,UQ,UT,UU,Te,Tf,Th,Ti,Tj,Tk,Tl,Tn,Tq,Tr,Ts,Tt,Ty,Sn,Sq,Sr, z, a2]; all_goals tactic => exact rfl))
          | true =>
            rcases ptf (v < 0) with h3 | h3
            · (sym => (simp [Za,Zb,Ze,Zf,Zg,Zh,Zk,Zl,Zm,Zo,Zp,Zq,Zr,Zs,Zt,Zu,Zx,Z2,Z5,ZC,ZE,ZF,ZH,ZK,ZO,ZP,ZR,ZS,ZT,ZU,ZX,ZZ,Yh,Yj,Ym,Yn,Yp,Yu,Yx,YE,YF,YG,YJ,YL,Xe,Xf,Xg,Xi,Xk,Wp,Wq,Wr,Wt,Wu,Wv,Ww,Wy,Wz,W4,W5,W7,W8,W9,WA,WB,WC,WE,WF,WG,WH,WI,WJ,WM,WN,WS,WV,WW,WX,WZ,Va,Vb,Vd,Vi,Vk,Vl,Vn,Vo,Vq,VC,VD,VE,VF,VG,VH,VI,VK,VL,VM,VO,VP,VR,VS,VT,VU,VW,VZ,Ua,Ub,Ud,Ue,Uf,Uk,Ul,Um,Un,Uo,Uq,Ur,Us,Ut,Uu,UO,UP,UQ,UT,UU,Te,Tf,Th,Ti,Tj,Tk,Tl,Tn,Tq,Tr,Ts,Tt,Ty,Sn,Sq,Sr, z, a2, h3, e79, e78]; all_goals tactic => exact rfl))
            · rcases ptf (lv < v) with h4 | h4
              · (sym => (simp [Za,Zb,Ze,Zf,Zg,Zh,Zk,Zl,Zm,Zo,Zp,Zq,Zr,Zs,Zt,Zu,Zx,Z2,Z5,ZC,ZE,ZF,ZH,ZK,ZO,ZP,ZR,ZS,ZT,ZU,ZX,ZZ,Yh,Yj,Ym,Yn,Yp,Yu,Yx,YE,YF,YG,YJ,YL,Xe,Xf,Xg,Xi,Xk,Wp,Wq,Wr,Wt,Wu,Wv,Ww,Wy,Wz,W4,W5,W7,W8,W9,WA,WB,WC,WE,WF,WG,WH,WI,WJ,WM,WN,WS,WV,WW,WX,WZ,Va,Vb,Vd,Vi,Vk,Vl,Vn,Vo,Vq,VC,VD,VE,VF,VG,VH,VI,VK,VL,VM,VO,VP,VR,VS,VT,VU,VW,VZ,Ua,Ub,Ud,Ue,Uf,Uk,Ul,Um,Un,Uo,Uq,Ur,Us,Ut,Uu,UO,UP,UQ,UT,UU,Te,Tf,Th,Ti,Tj,Tk,Tl,Tn,Tq,Tr,Ts,Tt,Ty,Sn,Sq,Sr, z, a2, h3, h4, e79, e78]; all_goals tactic => exact rfl))
              · (sym => (simp [Za,Zb,Ze,Zf,Zg,Zh,Zk,Zl,Zm,Zo,Zp,Zq,Zr,Zs,Zt,Zu,Zx,Z2,Z5,ZC,ZE,ZF,ZH,ZK,ZO,ZP,ZR,ZS,ZT,ZU,ZX,ZZ,Yh,Yj,Ym,Yn,Yp,Yu,Yx,YE,YF,YG,YJ,YL,Xe,Xf,Xg,Xi,Xk,Wp,Wq,Wr,Wt,Wu,Wv,Ww,Wy,Wz,W4,W5,W7,W8,W9,WA,WB,WC,WE,WF,WG,WH,WI,WJ,WM,WN,WS,WV,WW,WX,WZ,Va,Vb,Vd,Vi,Vk,Vl,Vn,Vo,Vq,VC,VD,VE,VF,VG,VH,VI,VK,VL,VM,VO,VP,VR,VS,VT,VU,VW,VZ,Ua,Ub,Ud,Ue,Uf,Uk,Ul,Um,Un,Uo,Uq,Ur,Us,Ut,Uu,UO,UP,UQ,UT,UU,Te,Tf,Th,Ti,Tj,Tk,Tl,Tn,Tq,Tr,Ts,Tt,Ty,Sn,Sq,Sr, z, a2, h3, h4, e79, e78]; all_goals tactic => exact rfl))
      · rw [hf1]; (sym => (simp [Za,Zb,Ze,Zf,Zg,Zh,Zk,Zl,Zm,Zo,Zp,Zq,Zr,Zs,Zt,Zu,Zx,Z2,Z5,ZC,ZE,ZF,ZH,ZK,ZO,ZP,ZR,ZS,ZT,ZU,ZX,ZZ,Yh,Yj,Ym,Yn,Yp,Yu,Yx,YE,YF,YG,YJ,YL,Xe,Xf,Xg,Xi,Xk,Wp,Wq,Wr,Wt,Wu,Wv,Ww,Wy,Wz,W4,W5,W7,W8,W9,WA,WB,WC,WE,WF,WG,WH,WI,WJ,WM,WN,WS,WV,WW,WX,WZ,Va,Vb,Vd,Vi,Vk,Vl,Vn,Vo,Vq,VC,VD,VE,VF,VG,VH,VI,VK,VL,VM,VO,VP,VR,VS,VT,VU,VW,VZ,Ua,Ub,Ud,Ue,Uf,Uk,Ul,Um,Un,Uo,Uq,Ur,Us,Ut,Uu,UO,UP,UQ,UT,UU,Te,Tf,Th,Ti,Tj,Tk,Tl,Tn,Tq,Tr,Ts,Tt,Ty,Sn,Sq,Sr]; all_goals tactic => exact rfl))
      · exact rd
      · (sym => (simp [Za,Zb,Ze,Zf,Zg,Zh,Zk,Zl,Zm,Zo,Zp,Zq,Zr,Zs,Zt,Zu,Zx,Z2,Z5,ZC,ZE,ZF,ZH,ZK,ZO,ZP,ZR,ZS,ZT,ZU,ZX,ZZ,Yh,Yj,Ym,Yn,Yp,Yu,Yx,YE,YF,YG,YJ,YL,Xe,Xf,Xg,Xi,Xk,Wp,Wq,Wr,Wt,Wu,Wv,Ww,Wy,Wz,W4,W5,W7,W8,W9,WA,WB,WC,WE,WF,WG,WH,WI,WJ,WM,WN,WS,WV,WW,WX,WZ,Va,Vb,Vd,Vi,Vk,Vl,Vn,Vo,Vq,VC,VD,VE,VF,VG,VH,VI,VK,VL,VM,VO,VP,VR,VS,VT,VU,VW,VZ,Ua,Ub,Ud,Ue,Uf,Uk,Ul,Um,Un,Uo,Uq,Ur,Us,Ut,Uu,UO,UP,UQ,UT,UU,Te,Tf,Th,Ti,Tj,Tk,Tl,Tn,Tq,Tr,Ts,Tt,Ty,Sn,Sq,Sr, z]; all_goals tactic => exact rfl))
theorem w87 (hf : l.Fit) (g : Good l) {a : Nat} (ha : a < 2 ^ l.ls.length) : runW progX 87 [.agg l.c, I (a : Nat)] [] = some (I (rsF l (behF l.ts) a), []) := by
  have e76 := w76 hf g
  have hn := g.few
  have hb := beh_lt g
  have z := UO (n := (l.ls.length : Int))
  have s0 : fR (rsS l (behF l.ts) a) (-1) a 0 = -1 := rfl
  have sf : fR (rsS l (behF l.ts) a) (-1) a l.ls.length = rsF l (behF l.ts) a := fR_el ha hn
  generalize behF l.ts = b at *
  rw [r87 (by simp)]; unfold x87; dsimp only
  sym =>
    simp [Za,Zb,Zf,Zg,Zh,Zj,Zl,Zm,Zn,Zu,Zy,Z2,Z5,ZC,ZE,ZM,ZN,ZR,ZS,ZX,ZZ,Yp,Yx,YE,YG,YJ,YL,YR,YU,YV,Xe,Xg,Xi,Xk,Xq,XP,XU,XW,We,Wp,Wq,Wr,Wt,Wu,Wv,Ww,Wx,Wy,Wz,W4,W5,W7,W8,W9,WA,WB,WC,WE,WF,WG,WH,WI,WJ,WM,WN,WS,WV,WW,WX,Vi,Vk,Vl,Vn,Vo,Vq,Vw,Vx,Vz,V0,V1,V2,V3,V6,V7,V8,V9,VB,VC,VD,VE,VF,VH,VI,VK,VL,VM,VO,VP,VR,VS,VT,VU,VW,VZ,Uk,Um,Uq,Ur,Us,Ut,Uu,Uv,Uw,U1,U2,U9,UA,UO,UP,UQ,UT,UU,UZ,Te,Tf,Tg,Ti,Tj,Tk,Tl,Tq,Tr,Ts,Tt,Ty,Sc,Sn,Sq,Sr, e76]
    tactic =>
      unfold x87l1
      rw [loop_rule l.ls.length (fun i => [I (a : Nat), .pt 0 0, rI (bL l.ls.length b), I (fR (rsS l b a) (-1) a i), I (i : Nat)]) (fun _ => hL l)]
      · (sym => (simp [Za,Zb,Zf,Zg,Zh,Zj,Zl,Zm,Zn,Zu,Zy,Z2,Z5,ZC,ZE,ZM,ZN,ZR,ZS,ZX,ZZ,Yp,Yx,YE,YG,YJ,YL,YR,YU,YV,Xe,Xg,Xi,Xk,Xq,XP,XU,XW,We,Wp,Wq,Wr,Wt,Wu,Wv,Ww,Wx,Wy,Wz,W4,W5,W7,W8,W9,WA,WB,WC,WE,WF,WG,WH,WI,WJ,WM,WN,WS,WV,WW,WX,Vi,Vk,Vl,Vn,Vo,Vq,Vw,Vx,Vz,V0,V1,V2,V3,V6,V7,V8,V9,VB,VC,VD,VE,VF,VH,VI,VK,VL,VM,VO,VP,VR,VS,VT,VU,VW,VZ,Uk,Um,Uq,Ur,Us,Ut,Uu,Uv,Uw,U1,U2,U9,UA,UO,UP,UQ,UT,UU,UZ,Te,Tf,Tg,Ti,Tj,Tk,Tl,Tq,Tr,Ts,Tt,Ty,Sc,Sn,Sq,Sr, z, sf]; all_goals tactic => exact rfl))
      · (sym => (simp [Za,Zb,Zf,Zg,Zh,Zj,Zl,Zm,Zn,Zu,Zy,Z2,Z5,ZC,ZE,ZM,ZN,ZR,ZS,ZX,ZZ,Yp,Yx,YE,YG,YJ,YL,YR,YU,YV,Xe,Xg,Xi,Xk,Xq,XP,XU,XW,We,Wp,Wq,Wr,Wt,Wu,Wv,Ww,Wx,Wy,Wz,W4,W5,W7,W8,W9,WA,WB,WC,WE,WF,WG,WH,WI,WJ,WM,WN,WS,WV,WW,WX,Vi,Vk,Vl,Vn,Vo,Vq,Vw,Vx,Vz,V0,V1,V2,V3,V6,V7,V8,V9,VB,VC,VD,VE,VF,VH,VI,VK,VL,VM,VO,VP,VR,VS,VT,VU,VW,VZ,Uk,Um,Uq,Ur,Us,Ut,Uu,Uv,Uw,U1,U2,U9,UA,UO,UP,UQ,UT,UU,UZ,Te,Tf,Tg,Ti,Tj,Tk,Tl,Tq,Tr,Ts,Tt,Ty,Sc,Sn,Sq,Sr, s0]; all_goals tactic => exact rfl))
      · intro i hi
        rw [fR]
        exact round87 g hb ha hi _
      · (sym => (simp [Za,Zb,Zf,Zg,Zh,Zj,Zl,Zm,Zn,Zu,Zy,Z2,Z5,ZC,ZE,ZM,ZN,ZR,ZS,ZX,ZZ,Yp,Yx,YE,YG,YJ,YL,YR,YU,YV,Xe,Xg,Xi,Xk,Xq,XP,XU,XW,We,Wp,Wq,Wr,Wt,Wu,Wv,Ww,Wx,Wy,Wz,W4,W5,W7,W8,W9,WA,WB,WC,WE,WF,WG,WH,WI,WJ,WM,WN,WS,WV,WW,WX,Vi,Vk,Vl,Vn,Vo,Vq,Vw,Vx,Vz,V0,V1,V2,V3,V6,V7,V8,V9,VB,VC,VD,VE,VF,VH,VI,VK,VL,VM,VO,VP,VR,VS,VT,VU,VW,VZ,Uk,Um,Uq,Ur,Us,Ut,Uu,Uv,Uw,U1,U2,U9,UA,UO,UP,UQ,UT,UU,UZ,Te,Tf,Tg,Ti,Tj,Tk,Tl,Tq,Tr,Ts,Tt,Ty,Sc,Sn,Sq,Sr, z]; all_goals tactic => exact rfl))
end
/-! ### The two are the same -/
theorem sh_rs {l : Li} (g : Good l) {b : Nat → Nat} {a : Nat} : ∀ (ks : List Nat), (∀ k ∈ ks, k < l.ls.length) → ∀ n, 0 ≤ n → ks.foldl (rsS l b a) n = ks.foldl (shS l b a) n
  | [], _, n, _ => rfl
  | k :: ks, h, n, hn => by
    have bd := last_bd (a := a) g (h k (by simp))
    rw [List.foldl_cons, List.foldl_cons]
    have e : rsS l b a n k = shS l b a n k := by
      unfold rsS shS mnI
      rw [if_neg (by omega : ¬ n < 0)]
    rw [e]
    refine sh_rs g ks (fun j hj => h j (by simp [hj])) _ ?_
    unfold shS mnI
    split
    · split <;> omega
    · exact hn
theorem sh_rs1 {l : Li} (g : Good l) {b : Nat → Nat} {a : Nat} : ∀ (ks : List Nat), (∀ k ∈ ks, k < l.ls.length) → (∃ k, k ∈ ks ∧ freeB b a k = true) → ks.foldl (rsS l b a) (-1) = ks.foldl (shS l b a) 1000000
  | [], _, ⟨k, hk, _⟩ => by simp at hk
  | k :: ks, h, hx => by
    have bd := last_bd (a := a) g (h k (by simp))
    rw [List.foldl_cons, List.foldl_cons]
    cases hf : freeB b a k with
    | false =>
      have e1 : rsS l b a (-1) k = -1 := by unfold rsS; rw [hf, if_neg (by simp)]
      have e2 : shS l b a 1000000 k = 1000000 := by unfold shS; rw [hf, if_neg (by simp)]
      rw [e1, e2]
      refine sh_rs1 g ks (fun j hj => h j (by simp [hj])) ?_
      obtain ⟨j, h1, h2⟩ := hx
      rcases List.mem_cons.1 h1 with rfl | h1
      · rw [hf] at h2; simp at h2
      · exact ⟨j, h1, h2⟩
    | true =>
      have e1 : rsS l b a (-1) k = lastF l a k := by unfold rsS; rw [hf, if_pos rfl, if_pos (by omega)]
      have e2 : shS l b a 1000000 k = lastF l a k := by
        unfold shS mnI
        rw [hf, if_pos rfl]
        split <;> omega
      rw [e1, e2]
      exact sh_rs g ks (fun j hj => h j (by simp [hj])) _ bd.1
theorem shown_eq {l : Li} (g : Good l) {a : Nat} (ha : a < 2 ^ l.ls.length) (h0 : a ≠ 0) : rsF l (behF l.ts) a = shF l (behF l.ts) a := by
  refine sh_rs1 g _ (fun k hk => el_lt ha hk) ?_
  have hne : el a ≠ [] := fun hc => h0 ((el_0 a (lt_10 ha g.few)).1 hc)
  obtain ⟨k, hk⟩ := List.exists_mem_of_ne_nil _ hne
  exact g.prec.free _ k hk (Nat.le_refl _)
end Go.Proofs.YtpbeclkpohehgaaDoor
namespace Go.Proofs.YtpbeclkpohehgaaDoor
open Go Go.DL
set_option maxRecDepth 100000
set_option maxHeartbeats 4000000

def prv (t : List Int) : Nat → Int
  | 0 => -1
  | i + 1 => t.getD i 0
/-- The error of a number of a set. -/
def vsE (n : Nat) (t : List Int) (i : Nat) : Int := if btw 0 (t.getD i 0) ((n : Int) - 1) then (if t.getD i 0 ≤ prv t i then 7 else 0) else 5
theorem vsE_of {n : Nat} {t : List Int} {i : Nat} {v : Int} (hv : t[i]? = some v) : (btw 0 v ((n : Int) - 1) = true ∧ (0 ≤ v ∧ v < n) ∧ (v ≤ prv t i) = False ∧ vsE n t i = 0) ∨ (btw 0 v ((n : Int) - 1) = true ∧ (0 ≤ v ∧ v < n) ∧ (v ≤ prv t i) = True ∧ vsE n t i = 7) ∨ (btw 0 v ((n : Int) - 1) = false ∧ vsE n t i = 5) := by
  unfold vsE
  rw [getD_of hv]
  cases h : btw 0 v ((n : Int) - 1)
  · exact .inr (.inr ⟨rfl, rfl⟩)
  · have := btwF.1 h
    by_cases hl : v ≤ prv t i
    · exact .inr (.inl ⟨rfl, by omega, eq_true hl, by simp [hl]⟩)
    · exact .inl ⟨rfl, by omega, eq_false hl, by simp [hl]⟩
theorem allT_lt3 {n : Nat} (hn : n ≤ 10) {t : List Int} {m : Nat} (h : ∀ i, i < m → vsE n t i = 0) (hm : m ≤ t.length) : allT t 0 m < 2 ^ n := by
  apply Nat.lt_pow_two_of_testBit
  intro y hy
  cases hc : (allT t 0 m).testBit y with
  | false => rfl
  | true =>
    rcases allT_bit.1 hc with h5 | ⟨i, h5, h6⟩
    · rw [Nat.zero_testBit] at h5; simp at h5
    · obtain ⟨v, hv⟩ := at_ix (l := t) (i := i) (by omega)
      rw [getD_of hv] at h6
      have h0 := h i h5
      rcases vsE_of (n := n) hv with ⟨_, h2, _⟩ | ⟨_, _, _, h4⟩ | ⟨_, h4⟩
      · omega
      · rw [h0] at h4; simp at h4
      · rw [h0] at h4; simp at h4
theorem allT_ne {t : List Int} (h : t.length ≠ 0) : allT t 0 t.length ≠ 0 := by
  intro hc
  have := (allT_bit (t := t) (a := 0) (i := t.length) (x := (t.getD 0 0).toNat)).2 (.inr ⟨0, by omega, rfl⟩)
  rw [hc, Nat.zero_testBit] at this
  simp at this
def verE (l : Li) (n : Int) (t : List Int) : Int := if checkL l = 0 then if btw 1 n 1000000 then if t.length = 0 then 4 else if firstN (vsE l.ls.length t) t.length = 0 then (if shF l (behF l.ts) (allT t 0 t.length) < n then 11 else 0) else firstN (vsE l.ls.length t) t.length else 2 else checkL l
section
variable {l : Li} {b : Nat → Nat}
abbrev hV (l : Li) (b : Nat → Nat) : XH := [some (.blk true (.cells true l.c)), some (.blk false (.cells true (yC l b 2))), some (.blk true (.map true []))]
end
end Go.Proofs.YtpbeclkpohehgaaDoor
namespace Go.Proofs.YtpbeclkpohehgaaDoor
open Go Go.DL
set_option maxRecDepth 100000
set_option maxHeartbeats 4000000
section
variable {l : Li}
theorem round35 (hn : l.ls.length ≤ 10) (n : Int) {t : List Int} {i a : Nat} {v : Int} (ha : a < 2 ^ 10) (hv : t[i]? = some v) (ht : t.length ≤ 1000) (he : vsE l.ls.length t i = 0) :
    headX 0 [1, 2, 3, 8, 9] (execW progX 35 0 none (match x35l0 with | .loop _ a => a | c => c) (envL [1, 2, 3, 8, 9] [I n, rI t, .pt 0 0, I (a : Nat), I (i : Nat)]) (hL l)) =
      some ([I n, rI t, .pt 0 0, I (a ||| 2 ^ v.toNat : Nat), I (i + 1 : Nat)], hL l) := by
  have a1 := lt_ix (lt_of hv)
  have a2 := up_ix (lt_of hv) (by omega)
  have a3 : IntKind.i64.wrap ((l.ls.length : Int) - 1) = (l.ls.length : Int) - 1 := wrap_ok (by omega) (by omega)
  rcases vsE_of (n := l.ls.length) hv with ⟨h1, h2, h3, h4⟩ | ⟨_, _, _, h4⟩ | ⟨_, h4⟩
  · have n0 : (v < 0) = False := eq_false (by omega)
    have o1 := or_i ha (v := v) (by omega)
    have o2 := or_i1 ha (v := v) (by omega)
    generalize a ||| 2 ^ v.toNat = a' at *
    unfold x35l0
    dsimp only
    cases i with
    | zero =>
      have a1 : ((0 : Int) < (t.length : Int)) = True := a1
      (sym => (simp [Za,Zb,Ze,Zf,Zh,Zi,Zl,Zm,Zo,Zp,Zr,Zu,Zx,Z2,Z3,Z5,Z7,ZC,ZE,ZF,ZG,ZH,ZK,ZO,ZP,ZR,ZS,ZT,ZU,ZV,ZX,ZZ,Ye,Yf,Yh,Yi,Yk,Yl,Yp,Yq,Yr,Yt,Yu,Yv,Yw,Yx,Yz,YE,YJ,YL,Xe,Xf,Xi,Xk,Wp,Wq,Wr,Ww,Wy,Wz,W4,W5,W7,W8,W9,WA,WB,WC,WE,WF,WG,WH,WI,WJ,WM,WN,WS,WV,WW,WX,WZ,Vb,Vd,VC,VD,VE,VF,VG,VH,VL,VM,VO,VP,VR,VS,VT,VU,VV,VW,VZ,Uc,Ud,Ue,Uf,Uh,Uk,Ul,Um,Un,Uo,Uq,Ur,Us,Ut,Uu,UP,UQ,UR,US,UU,Te,Tf,Th,Tj,Tk,Tn,Tr,Ts,Tt,Ty, a1, a3, hv, w62, h1, n0, o1, o2]; all_goals tactic => exact rfl))
    | succ j =>
      obtain ⟨y, hy⟩ := at_ix (l := t) (i := j) (by have := lt_of hv; omega)
      have e : prv t (j + 1) = y := getD_of hy
      rw [e] at h3
      have b1 : ((0 : Int) < ((j + 1 : Nat) : Int)) = True := eq_true (by omega)
      have b2 : IntKind.i64.wrap (((j + 1 : Nat) : Int) - 1) = (j : Int) := by
        rw [show ((j + 1 : Nat) : Int) - 1 = (j : Int) by omega]
        have := lt_of hv
        exact wrap_ok (by omega) (by omega)
      have b3 := lt_ix (lt_of hy)
      generalize j + 1 = i at *
      (sym => (simp [Za,Zb,Ze,Zf,Zh,Zi,Zl,Zm,Zo,Zp,Zr,Zu,Zx,Z2,Z3,Z5,Z7,ZC,ZE,ZF,ZG,ZH,ZK,ZO,ZP,ZR,ZS,ZT,ZU,ZV,ZX,ZZ,Ye,Yf,Yh,Yi,Yk,Yl,Yp,Yq,Yr,Yt,Yu,Yv,Yw,Yx,Yz,YE,YJ,YL,Xe,Xf,Xi,Xk,Wp,Wq,Wr,Ww,Wy,Wz,W4,W5,W7,W8,W9,WA,WB,WC,WE,WF,WG,WH,WI,WJ,WM,WN,WS,WV,WW,WX,WZ,Vb,Vd,VC,VD,VE,VF,VG,VH,VL,VM,VO,VP,VR,VS,VT,VU,VV,VW,VZ,Uc,Ud,Ue,Uf,Uh,Uk,Ul,Um,Un,Uo,Uq,Ur,Us,Ut,Uu,UP,UQ,UR,US,UU,Te,Tf,Th,Tj,Tk,Tn,Tr,Ts,Tt,Ty, a1, a2, a3, b1, b2, b3, hv, hy, w62, h1, h3, n0, o1, o2]; all_goals tactic => exact rfl))
  · rw [he] at h4; simp at h4
  · rw [he] at h4; simp at h4
theorem left35 (n : Int) (hn : l.ls.length ≤ 10) {t : List Int} {i a : Nat} {v : Int} (hv : t[i]? = some v) (ht : t.length ≤ 1000) (he : vsE l.ls.length t i ≠ 0) :
    ∃ e h, execW progX 35 0 none (match x35l0 with | .loop _ a => a | c => c) (envL [1, 2, 3, 8, 9] [I n, rI t, .pt 0 0, I (a : Nat), I (i : Nat)]) (hL l) = some (.ret, e, h) ∧ retX [(6, none)] false 0 (some (.ret, e, h)) = some (I (vsE l.ls.length t i), []) := by
  have a1 := lt_ix (lt_of hv)
  have a3 : IntKind.i64.wrap ((l.ls.length : Int) - 1) = (l.ls.length : Int) - 1 := wrap_ok (by omega) (by omega)
  refine ret_of ?_ ?_
  all_goals unfold x35l0
  all_goals dsimp only
  all_goals rcases vsE_of (n := l.ls.length) hv with ⟨_, _, _, h4⟩ | ⟨h1, h2, h3, h4⟩ | ⟨h1, h4⟩
  all_goals first | exact absurd h4 he | skip
  all_goals try rw [h4]
  all_goals cases i with
    | zero =>
      have a1 : ((0 : Int) < (t.length : Int)) = True := a1
      first | (exfalso; have := of_eq_true ‹(v ≤ prv t 0) = True›; have e : prv t 0 = -1 := rfl; rw [e] at this; omega) | (sym => (simp [Za,Zb,Ze,Zf,Zh,Zi,Zl,Zm,Zo,Zp,Zu,Zx,Z2,Z3,Z5,Z7,ZC,ZF,ZG,ZH,ZK,ZO,ZP,ZR,ZS,ZT,ZV,ZX,ZZ,Ye,Yf,Yi,Yp,Yq,Yr,Yt,Yu,Yw,Yx,YE,Xe,Xf,Xq,XP,Wp,Wq,Wr,Ww,Wy,W7,WA,WB,WC,WE,WF,WG,WI,WJ,WV,WW,WX,WZ,Vb,Vd,Vi,Vw,Vx,Vz,V0,V1,V2,V3,V6,V7,V8,V9,VC,VF,VG,VH,VJ,VL,VM,VO,VP,VR,VS,VT,VU,VV,VW,VZ,Uc,Ud,Ue,Uf,Uh,Ul,Un,Uo,Uq,Ur,Us,Ut,Uu,UP,UQ,UR,US,UU,Te,Tf,Tg,Th,Tj,Tk,Tm,Tp,Ts,Tt,Sc, a1, a3, hv, w62, h1]; all_goals tactic => exact rfl))
    | succ j =>
      obtain ⟨y, hy⟩ := at_ix (l := t) (i := j) (by have := lt_of hv; omega)
      have e : prv t (j + 1) = y := getD_of hy
      have b1 : ((0 : Int) < ((j + 1 : Nat) : Int)) = True := eq_true (by omega)
      have b2 : IntKind.i64.wrap (((j + 1 : Nat) : Int) - 1) = (j : Int) := by
        rw [show ((j + 1 : Nat) : Int) - 1 = (j : Int) by omega]
        have := lt_of hv
        exact wrap_ok (by omega) (by omega)
      have b3 := lt_ix (lt_of hy)
      try rw [e] at h3
      generalize j + 1 = i at *
      first | (sym => (simp [Za,Zb,Ze,Zf,Zh,Zi,Zl,Zm,Zo,Zp,Zu,Zx,Z2,Z3,Z5,Z7,ZC,ZF,ZG,ZH,ZK,ZO,ZP,ZR,ZS,ZT,ZV,ZX,ZZ,Ye,Yf,Yi,Yp,Yq,Yr,Yt,Yu,Yw,Yx,YE,Xe,Xf,Xq,XP,Wp,Wq,Wr,Ww,Wy,W7,WA,WB,WC,WE,WF,WG,WI,WJ,WV,WW,WX,WZ,Vb,Vd,Vi,Vw,Vx,Vz,V0,V1,V2,V3,V6,V7,V8,V9,VC,VF,VG,VH,VJ,VL,VM,VO,VP,VR,VS,VT,VU,VV,VW,VZ,Uc,Ud,Ue,Uf,Uh,Ul,Un,Uo,Uq,Ur,Us,Ut,Uu,UP,UQ,UR,US,UU,Te,Tf,Tg,Th,Tj,Tk,Tm,Tp,Ts,Tt,Sc, a1, a3, b1, b2, b3, hv, hy, w62, h1, h3]; all_goals tactic => exact rfl)) | (sym => (simp [Za,Zb,Ze,Zf,Zh,Zi,Zl,Zm,Zo,Zp,Zu,Zx,Z2,Z3,Z5,Z7,ZC,ZF,ZG,ZH,ZK,ZO,ZP,ZR,ZS,ZT,ZV,ZX,ZZ,Ye,Yf,Yi,Yp,Yq,Yr,Yt,Yu,Yw,Yx,YE,Xe,Xf,Xq,XP,Wp,Wq,Wr,Ww,Wy,W7,WA,WB,WC,WE,WF,WG,WI,WJ,WV,WW,WX,WZ,Vb,Vd,Vi,Vw,Vx,Vz,V0,V1,V2,V3,V6,V7,V8,V9,VC,VF,VG,VH,VJ,VL,VM,VO,VP,VR,VS,VT,VU,VV,VW,VZ,Uc,Ud,Ue,Uf,Uh,Ul,Un,Uo,Uq,Ur,Us,Ut,Uu,UP,UQ,UR,US,UU,Te,Tf,Tg,Th,Tj,Tk,Tm,Tp,Ts,Tt,Sc, a1, a3, b1, b2, b3, hv, hy, w62, h1]; all_goals tactic => exact rfl))
theorem w35 (hf : l.Fit) (n : Int) (t : List Int) (ht : t.length ≤ 1000) : runW progX 35 [.agg l.c, I n, rI t] [] = some (I (verE l n t), []) := by
  have e23 := w23 l hf
  have e62 := w62 1 n 1000000
  unfold verE
  by_cases hc : checkL l = 0
  · rw [if_pos hc]
    rw [hc] at e23
    have g := good_of hc
    have hn := g.few
    have e87 := fun a ha => w87 (l := l) hf g (a := a) ha
    have heq := fun a ha => shown_eq (l := l) g (a := a) ha
    generalize behF l.ts = b at *
    cases hb1 : btw 1 n 1000000
    · rw [hb1] at e62
      rw [r35 (by simp)]; unfold x35; dsimp only
      (sym => (simp [Za,Zb,Zf,Zg,Zh,Zj,Zl,Zm,Zn,Zu,Zy,Z2,Z3,ZC,ZE,ZM,ZN,ZR,ZS,ZV,ZZ,Yn,Yo,Yp,Yx,YE,YG,YJ,YL,YR,YU,YV,Xe,Xf,Xg,Xi,Xk,Xq,XP,XU,XW,We,Wp,Wq,Wr,Wt,Wu,Wv,Ww,Wx,Wz,W4,W5,W7,W8,W9,WA,WB,WC,WE,WF,WG,WH,WI,WJ,WM,WN,WS,WV,WW,WX,Vi,Vk,Vl,Vn,Vo,Vq,Vw,Vx,Vz,V0,V1,V2,V3,V6,V7,V8,V9,VB,VC,VD,VE,VF,VG,VH,VI,VK,VL,VM,VO,VP,VR,VS,VT,VU,VW,VZ,Uc,Ud,Uk,Ul,Um,Uq,Ur,Us,Ut,Uu,Uv,Uw,U1,U2,U9,UA,UO,UP,UQ,UT,UZ,Te,Tf,Tg,Th,Ti,Tj,Tk,Tl,Tm,Tq,Tr,Ts,Tt,Ty,Sc,Sn,Sq,Sr, e23, e62]; all_goals tactic => exact rfl))
    · rw [hb1] at e62
      by_cases hz : t.length = 0
      · rw [if_pos hz]
        have hz : ((t.length : Int) = 0) = True := eq_true (by omega)
        rw [r35 (by simp)]; unfold x35; dsimp only
        (sym => (simp [Za,Zb,Zf,Zg,Zh,Zj,Zl,Zm,Zn,Zu,Zy,Z2,Z3,ZC,ZE,ZM,ZN,ZR,ZS,ZV,ZZ,Yn,Yo,Yp,Yx,YE,YG,YJ,YL,YR,YU,YV,Xe,Xf,Xg,Xi,Xk,Xq,XP,XU,XW,We,Wp,Wq,Wr,Wt,Wu,Wv,Ww,Wx,Wz,W4,W5,W7,W8,W9,WA,WB,WC,WE,WF,WG,WH,WI,WJ,WM,WN,WS,WV,WW,WX,Vi,Vk,Vl,Vn,Vo,Vq,Vw,Vx,Vz,V0,V1,V2,V3,V6,V7,V8,V9,VB,VC,VD,VE,VF,VG,VH,VI,VK,VL,VM,VO,VP,VR,VS,VT,VU,VW,VZ,Uc,Ud,Uk,Ul,Um,Uq,Ur,Us,Ut,Uu,Uv,Uw,U1,U2,U9,UA,UO,UP,UQ,UT,UZ,Te,Tf,Tg,Th,Ti,Tj,Tk,Tl,Tm,Tq,Tr,Ts,Tt,Ty,Sc,Sn,Sq,Sr, e23, e62, hz]; all_goals tactic => exact rfl))
      · have gz : ((t.length : Int) = 0) = False := eq_false (by omega)
        rw [if_neg hz]
        obtain ⟨m, m1, m2, m3⟩ := firstN_ix (vsE l.ls.length t) t.length
        have z := UO (n := (t.length : Int))
        have al0 : allT t 0 0 = 0 := rfl
        have rd : ∀ i, i < m → headX 0 [1, 2, 3, 8, 9] (execW progX 35 0 none (match x35l0 with | .loop _ a => a | c => c) (envL [1, 2, 3, 8, 9] [I n, rI t, .pt 0 0, I (allT t 0 i : Nat), I (i : Nat)]) (hL l)) =
            some ([I n, rI t, .pt 0 0, I (allT t 0 (i + 1) : Nat), I (i + 1 : Nat)], hL l) := by
          intro i hi
          obtain ⟨v, hv⟩ := at_ix (l := t) (i := i) (by omega)
          rw [allT, getD_of hv]
          exact round35 hn n (lt_10 (allT_lt3 hn (fun j hj => m2 j (by omega)) (by omega)) hn) hv ht (m2 i hi)
        rcases m3 with ⟨rfl, e⟩ | ⟨m3, m4, e⟩
        · rw [e, if_pos rfl]
          have hlt := allT_lt3 hn (fun j hj => m2 j (by omega)) (Nat.le_refl t.length)
          have e87 := e87 _ hlt
          rw [heq _ hlt (allT_ne hz)] at e87
          generalize shF l b (allT t 0 t.length) = sv at *
          rw [r35 (by simp)]; unfold x35; dsimp only
          sym =>
            simp [Za,Zb,Zf,Zg,Zh,Zj,Zl,Zm,Zn,Zu,Zy,Z2,Z3,ZC,ZE,ZM,ZN,ZR,ZS,ZV,ZZ,Yn,Yo,Yp,Yx,YE,YG,YJ,YL,YR,YU,YV,Xe,Xf,Xg,Xi,Xk,Xq,XP,XU,XW,We,Wp,Wq,Wr,Wt,Wu,Wv,Ww,Wx,Wz,W4,W5,W7,W8,W9,WA,WB,WC,WE,WF,WG,WH,WI,WJ,WM,WN,WS,WV,WW,WX,Vi,Vk,Vl,Vn,Vo,Vq,Vw,Vx,Vz,V0,V1,V2,V3,V6,V7,V8,V9,VB,VC,VD,VE,VF,VG,VH,VI,VK,VL,VM,VO,VP,VR,VS,VT,VU,VW,VZ,Uc,Ud,Uk,Ul,Um,Uq,Ur,Us,Ut,Uu,Uv,Uw,U1,U2,U9,UA,UO,UP,UQ,UT,UZ,Te,Tf,Tg,Th,Ti,Tj,Tk,Tl,Tm,Tq,Tr,Ts,Tt,Ty,Sc,Sn,Sq,Sr, e23, e62, gz]
            tactic =>
              unfold x35l0
              rw [loop_rule t.length (fun i => [I n, rI t, .pt 0 0, I (allT t 0 i : Nat), I (i : Nat)]) (fun _ => hL l)]
              · generalize allT t 0 t.length = al at *
                rcases ptf (sv < n) with h | h
                · simp only [h, if_true]
                  (sym => (simp [Za,Zb,Zf,Zg,Zh,Zj,Zl,Zm,Zn,Zu,Zy,Z2,Z3,ZC,ZE,ZM,ZN,ZR,ZS,ZV,ZZ,Yn,Yo,Yp,Yx,YE,YG,YJ,YL,YR,YU,YV,Xe,Xf,Xg,Xi,Xk,Xq,XP,XU,XW,We,Wp,Wq,Wr,Wt,Wu,Wv,Ww,Wx,Wz,W4,W5,W7,W8,W9,WA,WB,WC,WE,WF,WG,WH,WI,WJ,WM,WN,WS,WV,WW,WX,Vi,Vk,Vl,Vn,Vo,Vq,Vw,Vx,Vz,V0,V1,V2,V3,V6,V7,V8,V9,VB,VC,VD,VE,VF,VG,VH,VI,VK,VL,VM,VO,VP,VR,VS,VT,VU,VW,VZ,Uc,Ud,Uk,Ul,Um,Uq,Ur,Us,Ut,Uu,Uv,Uw,U1,U2,U9,UA,UO,UP,UQ,UT,UZ,Te,Tf,Tg,Th,Ti,Tj,Tk,Tl,Tm,Tq,Tr,Ts,Tt,Ty,Sc,Sn,Sq,Sr, z, e87, h]; all_goals tactic => exact rfl))
                · simp only [h, if_false]
                  (sym => (simp [Za,Zb,Zf,Zg,Zh,Zj,Zl,Zm,Zn,Zu,Zy,Z2,Z3,ZC,ZE,ZM,ZN,ZR,ZS,ZV,ZZ,Yn,Yo,Yp,Yx,YE,YG,YJ,YL,YR,YU,YV,Xe,Xf,Xg,Xi,Xk,Xq,XP,XU,XW,We,Wp,Wq,Wr,Wt,Wu,Wv,Ww,Wx,Wz,W4,W5,W7,W8,W9,WA,WB,WC,WE,WF,WG,WH,WI,WJ,WM,WN,WS,WV,WW,WX,Vi,Vk,Vl,Vn,Vo,Vq,Vw,Vx,Vz,V0,V1,V2,V3,V6,V7,V8,V9,VB,VC,VD,VE,VF,VG,VH,VI,VK,VL,VM,VO,VP,VR,VS,VT,VU,VW,VZ,Uc,Ud,Uk,Ul,Um,Uq,Ur,Us,Ut,Uu,Uv,Uw,U1,U2,U9,UA,UO,UP,UQ,UT,UZ,Te,Tf,Tg,Th,Ti,Tj,Tk,Tl,Tm,Tq,Tr,Ts,Tt,Ty,Sc,Sn,Sq,Sr, z, e87, h]; all_goals tactic => exact rfl))
              · (sym => (simp [Za,Zb,Zf,Zg,Zh,Zj,Zl,Zm,Zn,Zu,Zy,Z2,Z3,ZC,ZE,ZM,ZN,ZR,ZS,ZV,ZZ,Yn,Yo,Yp,Yx,YE,YG,YJ,YL,YR,YU,YV,Xe,Xf,Xg,Xi,Xk,Xq,XP,XU,XW,We,Wp,Wq,Wr,Wt,Wu,Wv,Ww,Wx,Wz,W4,W5,W7,W8,W9,WA,WB,WC,WE,WF,WG,WH,WI,WJ,WM,WN,WS,WV,WW,WX,Vi,Vk,Vl,Vn,Vo,Vq,Vw,Vx,Vz,V0,V1,V2,V3,V6,V7,V8,V9,VB,VC,VD,VE,VF,VG,VH,VI,VK,VL,VM,VO,VP,VR,VS,VT,VU,VW,VZ,Uc,Ud,Uk,Ul,Um,Uq,Ur,Us,Ut,Uu,Uv,Uw,U1,U2,U9,UA,UO,UP,UQ,UT,UZ,Te,Tf,Tg,Th,Ti,Tj,Tk,Tl,Tm,Tq,Tr,Ts,Tt,Ty,Sc,Sn,Sq,Sr, al0]; all_goals tactic => exact rfl))
              · exact rd
              · (sym => (simp [Za,Zb,Zf,Zg,Zh,Zj,Zl,Zm,Zn,Zu,Zy,Z2,Z3,ZC,ZE,ZM,ZN,ZR,ZS,ZV,ZZ,Yn,Yo,Yp,Yx,YE,YG,YJ,YL,YR,YU,YV,Xe,Xf,Xg,Xi,Xk,Xq,XP,XU,XW,We,Wp,Wq,Wr,Wt,Wu,Wv,Ww,Wx,Wz,W4,W5,W7,W8,W9,WA,WB,WC,WE,WF,WG,WH,WI,WJ,WM,WN,WS,WV,WW,WX,Vi,Vk,Vl,Vn,Vo,Vq,Vw,Vx,Vz,V0,V1,V2,V3,V6,V7,V8,V9,VB,VC,VD,VE,VF,VG,VH,VI,VK,VL,VM,VO,VP,VR,VS,VT,VU,VW,VZ,Uc,Ud,Uk,Ul,Um,Uq,Ur,Us,Ut,Uu,Uv,Uw,U1,U2,U9,UA,UO,UP,UQ,UT,UZ,Te,Tf,Tg,Th,Ti,Tj,Tk,Tl,Tm,Tq,Tr,Ts,Tt,Ty,Sc,Sn,Sq,Sr, z]; all_goals tactic => exact rfl))
        · rw [e, if_neg m4]
          obtain ⟨v, hv⟩ := at_ix m3
          obtain ⟨eo, ho2, p1, p2⟩ := left35 (l := l) n hn (a := allT t 0 m) hv ht m4
          rw [r35 (by simp)]; unfold x35; dsimp only
          sym =>
            simp [Za,Zb,Zf,Zg,Zh,Zj,Zl,Zm,Zn,Zu,Zy,Z2,Z3,ZC,ZE,ZM,ZN,ZR,ZS,ZV,ZZ,Yn,Yo,Yp,Yx,YE,YG,YJ,YL,YR,YU,YV,Xe,Xf,Xg,Xi,Xk,Xq,XP,XU,XW,We,Wp,Wq,Wr,Wt,Wu,Wv,Ww,Wx,Wz,W4,W5,W7,W8,W9,WA,WB,WC,WE,WF,WG,WH,WI,WJ,WM,WN,WS,WV,WW,WX,Vi,Vk,Vl,Vn,Vo,Vq,Vw,Vx,Vz,V0,V1,V2,V3,V6,V7,V8,V9,VB,VC,VD,VE,VF,VG,VH,VI,VK,VL,VM,VO,VP,VR,VS,VT,VU,VW,VZ,Uc,Ud,Uk,Ul,Um,Uq,Ur,Us,Ut,Uu,Uv,Uw,U1,U2,U9,UA,UO,UP,UQ,UT,UZ,Te,Tf,Tg,Th,Ti,Tj,Tk,Tl,Tm,Tq,Tr,Ts,Tt,Ty,Sc,Sn,Sq,Sr, e23, e62, gz]
            tactic =>
              unfold x35l0 at p1 ⊢
              dsimp only at p1
              rw [loop_rule m (fun i => [I n, rI t, .pt 0 0, I (allT t 0 i : Nat), I (i : Nat)]) (fun _ => hL l)]
              · rw [p1]
                exact p2
              · (sym => (simp [Za,Zb,Zf,Zg,Zh,Zj,Zl,Zm,Zn,Zu,Zy,Z2,Z3,ZC,ZE,ZM,ZN,ZR,ZS,ZV,ZZ,Yn,Yo,Yp,Yx,YE,YG,YJ,YL,YR,YU,YV,Xe,Xf,Xg,Xi,Xk,Xq,XP,XU,XW,We,Wp,Wq,Wr,Wt,Wu,Wv,Ww,Wx,Wz,W4,W5,W7,W8,W9,WA,WB,WC,WE,WF,WG,WH,WI,WJ,WM,WN,WS,WV,WW,WX,Vi,Vk,Vl,Vn,Vo,Vq,Vw,Vx,Vz,V0,V1,V2,V3,V6,V7,V8,V9,VB,VC,VD,VE,VF,VG,VH,VI,VK,VL,VM,VO,VP,VR,VS,VT,VU,VW,VZ,Uc,Ud,Uk,Ul,Um,Uq,Ur,Us,Ut,Uu,Uv,Uw,U1,U2,U9,UA,UO,UP,UQ,UT,UZ,Te,Tf,Tg,Th,Ti,Tj,Tk,Tl,Tm,Tq,Tr,Ts,Tt,Ty,Sc,Sn,Sq,Sr, al0]; all_goals tactic => exact rfl))
              · exact rd
              · rw [p1]; rfl
  · rw [if_neg hc]
    have g := eq_false hc
    rw [r35 (by simp)]; unfold x35; dsimp only
    (sym => (simp [Za,Zb,Zf,Zg,Zh,Zj,Zl,Zm,Zn,Zu,Zy,Z2,Z3,ZC,ZE,ZM,ZN,ZR,ZS,ZV,ZZ,Yn,Yo,Yp,Yx,YE,YG,YJ,YL,YR,YU,YV,Xe,Xf,Xg,Xi,Xk,Xq,XP,XU,XW,We,Wp,Wq,Wr,Wt,Wu,Wv,Ww,Wx,Wz,W4,W5,W7,W8,W9,WA,WB,WC,WE,WF,WG,WH,WI,WJ,WM,WN,WS,WV,WW,WX,Vi,Vk,Vl,Vn,Vo,Vq,Vw,Vx,Vz,V0,V1,V2,V3,V6,V7,V8,V9,VB,VC,VD,VE,VF,VG,VH,VI,VK,VL,VM,VO,VP,VR,VS,VT,VU,VW,VZ,Uc,Ud,Uk,Ul,Um,Uq,Ur,Us,Ut,Uu,Uv,Uw,U1,U2,U9,UA,UO,UP,UQ,UT,UZ,Te,Tf,Tg,Th,Ti,Tj,Tk,Tl,Tm,Tq,Tr,Ts,Tt,Ty,Sc,Sn,Sq,Sr, e23, g]; all_goals tactic => exact rfl))
end
end Go.Proofs.YtpbeclkpohehgaaDoor
namespace Go.Proofs.YtpbeclkpohehgaaDoor
open Go Go.DL
set_option maxRecDepth 100000
set_option maxHeartbeats 4000000

/-- Can a load come next? -/
def canB (b : Nat → Nat) (d k : Nat) : Bool := !d.testBit k && decide (dif (b k) d = 0)
theorem can_bit {b : Nat → Nat} {d k : Nat} (h : canB b d k = true) : d.testBit k = false := by
  unfold canB at h
  cases hc : d.testBit k with
  | false => rfl
  | true => rw [hc] at h; simp at h
theorem canB_iff {n : Nat} {b : Nat → Nat} (p : Prec n b) (hn : n ≤ 10) {d k : Nat} (hd : d < 2 ^ n) : canB b d k = true ↔ d.testBit k = false ∧ ∀ i, (b k).testBit i = true → d.testBit i = true := by
  unfold canB
  rw [Bool.and_eq_true, decide_eq_true_iff, dif_zero (by have := lt_10 (p.lt k) hn; omega) (by have := lt_10 hd hn; omega)]
  cases d.testBit k <;> simp
abbrev tl2 (p d : Nat) : XH := [some (.blk false (.cells true [.pt p 0])), cU d]
/-- A heap of a loop's own, with two cells behind it. -/
structure Home2 (n p : Nat) (l : Li) (b : Nat → Nat) (H : XH) : Prop where
  y : ∃ q, ∀ d, hat (H ++ tl2 p d) p = some (.blk false (.cells true (yC l b q)))
  h1 : ∀ d, hat (H ++ tl2 p d) n = some (.blk false (.cells true [.pt p 0]))
  h2 : ∀ d, hat (H ++ tl2 p d) (n + 1) = cU d
  len : ∀ d, (H ++ tl2 p d).length = n + 2
  head : ∀ (d : Nat) (e : Env) (j k : Int), e 0 = .fn (.yield 0) [] [] → e 1 = .pt n 0 → e 2 = .pt (n + 1) 0 → e 10 = I j → e 11 = I k →
    headX (n + 2) [0, 1, 2, 10, 11] (some (.normal, e, H ++ tl2 p d)) = some ([.fn (.yield 0) [] [], .pt n 0, .pt (n + 1) 0, I j, I k], H ++ tl2 p d)
  fin : ∀ d, finX false (n + 2) (.tup []) (H ++ tl2 p d) = (.tup [], H ++ tl2 p d)
def Yd2 (p : Nat) (H H' : XH) (v : Nat) (b : Bool) : Prop := ∀ d : Nat, callX (runW progX) (runYW progX) (.fn (.yield 0) [] []) [I v] (H ++ tl2 p d) = some (.bool b, H' ++ tl2 p d)
section
variable {l : Li} {b : Nat → Nat} {n p d : Nat}
theorem can_facts (hn : l.ls.length ≤ 10) (hb : ∀ k, b k < 2 ^ 10) (hd : d < 2 ^ 10) {k : Nat} (hk : k < l.ls.length) :
    (canB b d k = true ∧ runW progX 83 [U d, I (k : Nat)] [] = some (.bool false, []) ∧ (bitsA .andNot .u64 (b k : Int) (d : Int) = 0) = True) ∨
    (canB b d k = false ∧ runW progX 83 [U d, I (k : Nat)] [] = some (.bool false, []) ∧ (bitsA .andNot .u64 (b k : Int) (d : Int) = 0) = False) ∨
    (canB b d k = false ∧ runW progX 83 [U d, I (k : Nat)] [] = some (.bool true, [])) := by
  have e := w83 (a := d) (lo_63 hd) (i := (k : Int)) (j := k) rfl (by omega)
  unfold canB
  cases h : d.testBit k with
  | true => rw [h] at e; exact .inr (.inr ⟨rfl, e⟩)
  | false =>
    rw [h] at e
    by_cases h2 : dif (b k) d = 0
    · exact .inl ⟨by simp [h2], e, neg_dif big_u (lo_63 (hb k)) (lo_63 hd) h2⟩
    · exact .inr (.inl ⟨by simp [h2], e, pos_dif big_u (lo_63 (hb k)) (lo_63 hd) h2⟩)
theorem skip105 (hn : l.ls.length ≤ 10) (hb : ∀ k, b k < 2 ^ 10) (hd : d < 2 ^ 10) {H : XH} (g : Home2 n p l b H) {k : Nat} (hk : k < l.ls.length) (hc : canB b d k = false) :
    headX (n + 2) [0, 1, 2, 10, 11] (execW progX 105 (n + 2) none (match x105l0 with | .loop _ a => a | c => c) (envL [0, 1, 2, 10, 11] [.fn (.yield 0) [] [], .pt n 0, .pt (n + 1) 0, I l.ls.length, I (k : Nat)]) (H ++ tl2 p d)) =
      some ([.fn (.yield 0) [] [], .pt n 0, .pt (n + 1) 0, I l.ls.length, I (k + 1 : Nat)], H ++ tl2 p d) := by
  have a1 := lt_ix hk
  have a2 := up_ix hk (by omega)
  obtain ⟨q, h0⟩ := g.y
  have h0 := h0 d
  have h1 := g.h1 d
  have h2 := g.h2 d
  have s1 := yC_b (l := l) (b := b) (m := q) (k := k) (by omega)
  have c2 : ((k : Int) < 10) = True := eq_true (by omega)
  have hd2 := g.head d
  unfold x105l0
  dsimp only
  rcases can_facts hn hb hd hk with ⟨h3, _, _⟩ | ⟨_, h3, h4⟩ | ⟨_, h3⟩
  · rw [hc] at h3; simp at h3
  · sym =>
      simp [yC_len, yC_0, yC_1, yC_2, yC_3, yC_4, yC_15, Za,Zb,Ze,Zf,Zg,Zh,Zk,Zl,Zm,Zo,Zp,Zr,Zu,Zx,Z1,Z2,Z3,Z5,Z6,ZF,ZH,ZK,ZO,ZP,ZR,ZS,ZT,ZU,ZV,ZX,Yh,Yn,Yp,Yt,Yu,Y4,YD,YE,Xe,Xf,Wq,Wr,Ww,Wy,W7,WA,WC,WI,WJ,WV,WW,WX,WZ,Vb,Vd,Vi,Vk,Vl,Vn,Vo,Vq,VC,VF,VG,VH,VL,VM,VO,VP,VS,VT,VZ,Uc,Ud,Ue,Uf,Uh,Ul,Um,Un,Uo,Uq,Ur,Us,Ut,Uu,UP,UQ,UU,Te,Tf,Th,Tj,Tk,Tn,Ts,Tt,Tv,Tw,Sl,Sm,Sn,Sq,Sr, a1, a2, h0, h1, h2, s1, c2, h3, h4]
      tactic => exact hd2 _ _ _ rfl rfl rfl rfl rfl
  · sym =>
      simp [yC_len, yC_0, yC_1, yC_2, yC_3, yC_4, yC_15, Za,Zb,Ze,Zf,Zg,Zh,Zk,Zl,Zm,Zo,Zp,Zr,Zu,Zx,Z1,Z2,Z3,Z5,Z6,ZF,ZH,ZK,ZO,ZP,ZR,ZS,ZT,ZU,ZV,ZX,Yh,Yn,Yp,Yt,Yu,Y4,YD,YE,Xe,Xf,Wq,Wr,Ww,Wy,W7,WA,WC,WI,WJ,WV,WW,WX,WZ,Vb,Vd,Vi,Vk,Vl,Vn,Vo,Vq,VC,VF,VG,VH,VL,VM,VO,VP,VS,VT,VZ,Uc,Ud,Ue,Uf,Uh,Ul,Um,Un,Uo,Uq,Ur,Us,Ut,Uu,UP,UQ,UU,Te,Tf,Th,Tj,Tk,Tn,Ts,Tt,Tv,Tw,Sl,Sm,Sn,Sq,Sr, a1, a2, h0, h1, h2, s1, c2, h3]
      tactic => exact hd2 _ _ _ rfl rfl rfl rfl rfl
theorem step105 (hn : l.ls.length ≤ 10) (hb : ∀ k, b k < 2 ^ 10) (hd : d < 2 ^ 10) {H H' : XH} (g : Home2 n p l b H) (g' : Home2 n p l b H') {k : Nat} (hk : k < l.ls.length) (hc : canB b d k = true) (hy : Yd2 p H H' k true) :
    headX (n + 2) [0, 1, 2, 10, 11] (execW progX 105 (n + 2) none (match x105l0 with | .loop _ a => a | c => c) (envL [0, 1, 2, 10, 11] [.fn (.yield 0) [] [], .pt n 0, .pt (n + 1) 0, I l.ls.length, I (k : Nat)]) (H ++ tl2 p d)) =
      some ([.fn (.yield 0) [] [], .pt n 0, .pt (n + 1) 0, I l.ls.length, I (k + 1 : Nat)], H' ++ tl2 p d) := by
  have a1 := lt_ix hk
  have a2 := up_ix hk (by omega)
  obtain ⟨q, h0⟩ := g.y
  have h0 := h0 d
  have h1 := g.h1 d
  have h2 := g.h2 d
  obtain ⟨q', h0'⟩ := g'.y
  have h0' := h0' d
  have h1' := g'.h1 d
  have h2' := g'.h2 d
  have s1 := yC_b (l := l) (b := b) (m := q) (k := k) (by omega)
  have c2 : ((k : Int) < 10) = True := eq_true (by omega)
  have hd2 := g'.head d
  have h5 := hy d
  unfold x105l0
  dsimp only
  rcases can_facts hn hb hd hk with ⟨_, h3, h4⟩ | ⟨h3, _⟩ | ⟨h3, _⟩
  · sym =>
      simp [yC_len, yC_0, yC_1, yC_2, yC_3, yC_4, yC_15, Za,Zb,Ze,Zf,Zg,Zh,Zk,Zl,Zm,Zo,Zp,Zu,Zx,Z1,Z2,Z3,Z5,Z6,ZF,ZH,ZK,ZO,ZP,ZR,ZS,ZT,ZV,ZX,Yh,Yn,Yp,Yt,Yu,Y4,YD,YE,YQ,Xe,Xf,Wq,Wr,Ww,Wy,Wz,W7,W9,WA,WC,WI,WJ,WV,WW,WX,WZ,Vb,Vc,Vd,Vi,Vk,Vl,Vn,Vo,Vq,VC,VF,VG,VH,VL,VM,VO,VP,VS,VT,VZ,Uc,Ud,Ue,Uf,Uh,Uk,Ul,Un,Uo,Uq,Ur,Us,Ut,Uu,UP,UQ,UU,Te,Tf,Th,Tj,Tk,Tn,Ts,Tt,Tv,Tw,Sl,Sm,Sn,Sq,Sr, a1, a2, h0, h1, h2, h0', h1', h2', s1, c2, h3, h4, h5]
      tactic => exact hd2 _ _ _ rfl rfl rfl rfl rfl
  · rw [hc] at h3; simp at h3
  · rw [hc] at h3; simp at h3
theorem left105 (hn : l.ls.length ≤ 10) (hb : ∀ k, b k < 2 ^ 10) (hd : d < 2 ^ 10) {H X : XH} (g : Home2 n p l b H) {k : Nat} (hk : k < l.ls.length) (hc : canB b d k = true) (h5 : callX (runW progX) (runYW progX) (.fn (.yield 0) [] []) [I (k : Nat)] (H ++ tl2 p d) = some (.bool false, X)) (i0 : (hat X p).isSome = true) (i1 : (hat X n).isSome = true) (i2 : (hat X (n + 1)).isSome = true) :
    ∃ e, execW progX 105 (n + 2) none (match x105l0 with | .loop _ a => a | c => c) (envL [0, 1, 2, 10, 11] [.fn (.yield 0) [] [], .pt n 0, .pt (n + 1) 0, I l.ls.length, I (k : Nat)]) (H ++ tl2 p d) = some (.ret, e, X) := by
  have a1 := lt_ix hk
  obtain ⟨q, h0⟩ := g.y
  have h0 := h0 d
  have h1 := g.h1 d
  have h2 := g.h2 d
  have s1 := yC_b (l := l) (b := b) (m := q) (k := k) (by omega)
  have c2 : ((k : Int) < 10) = True := eq_true (by omega)
  unfold x105l0
  dsimp only
  rcases can_facts hn hb hd hk with ⟨_, h3, h4⟩ | ⟨h3, _⟩ | ⟨h3, _⟩
  · sym =>
      simp [yC_len, yC_0, yC_1, yC_2, yC_3, yC_4, yC_15, Za,Zb,Ze,Zf,Zg,Zh,Zk,Zl,Zm,Zo,Zp,Zu,Zx,Z1,Z2,Z3,Z5,Z6,ZF,ZH,ZK,ZO,ZP,ZR,ZS,ZT,ZV,ZX,Yn,Yp,Yt,Yu,Y4,YD,YE,YQ,Xe,Xf,Wq,Wr,Ww,Wy,Wz,W7,W9,WA,WC,WI,WJ,WV,WW,WX,WZ,Vb,Vc,Vd,Vi,Vk,Vl,Vn,Vo,Vq,VC,VF,VG,VL,VM,VO,VP,VS,VT,VZ,Ud,Ue,Uf,Uh,Uk,Ul,Un,Uo,Uq,Ur,Us,Ut,Uu,UP,UQ,UU,Te,Tf,Tg,Th,Tj,Tk,Tm,Tp,Ts,Tt,Tv,Tw,Sl,Sm,Sn,Sq,Sr, a1, h0, h1, h2, s1, c2, h3, h4, h5, i0, i1, i2]
      tactic => exact ⟨_, rfl⟩
  · rw [hc] at h3; simp at h3
  · rw [hc] at h3; simp at h3
def Lv (n p d : Nat) (H : XH) (k : Nat) (X : XH) : Prop := ∃ Y, callX (runW progX) (runYW progX) (.fn (.yield 0) [] []) [I (k : Nat)] (H ++ tl2 p d) = some (.bool false, Y) ∧ finX false (n + 2) (.tup []) Y = (.tup [], X) ∧ (hat Y p).isSome = true ∧ (hat Y n).isSome = true ∧ (hat Y (n + 1)).isSome = true
theorem loop_head {D : Nat → Option XFn} {K k : Nat} {rd : Option Nat} {L : List Nat} {a : XCode} {e e' : Env} {H : XH} (h : headX k L (some (.normal, e, H)) = headX k L (some (.normal, e', H))) : execW D K k rd (.loop L a) e H = execW D K k rd (.loop L a) e' H := by
  simp only [headX, Option.some.injEq, Prod.mk.injEq] at h
  rw [execW_loop, execW_loop (e := e')]
  have e1 : canonE k L e H = canonE k L e' H := congrArg (envL L) h.1
  rw [e1, h.2]
theorem next_rule (hn : l.ls.length ≤ 10) (hb : ∀ k, b k < 2 ^ 10) (hd : d < 2 ^ 10) {σ : Type} (Gs : σ → XH) (hm : ∀ s, Home2 n p l b (Gs s)) (Q : Nat → σ → Prop) (Q' : XH → Prop) (s0 : σ) (q0 : Q 0 s0)
    (hc : ∀ k s, k < l.ls.length → Q k s → canB b d k = true → (∃ s', Yd2 p (Gs s) (Gs s') k true ∧ Q (k + 1) s') ∨ (∃ X, Lv n p d (Gs s) k X ∧ Q' X))
    (hs : ∀ k s, k < l.ls.length → Q k s → canB b d k = false → Q (k + 1) s) :
    (∃ s, Q l.ls.length s ∧ runW progX 105 [.fn (.yield 0) [] [], .pt n 0, .pt (n + 1) 0] (Gs s0 ++ tl2 p d) = some (.tup [], Gs s ++ tl2 p d)) ∨
    (∃ X, Q' X ∧ runW progX 105 [.fn (.yield 0) [] [], .pt n 0, .pt (n + 1) 0] (Gs s0 ++ tl2 p d) = some (.tup [], X)) := by
  have z := UO (n := (l.ls.length : Int))
  have key : ∀ (e : Env), e 0 = .fn (.yield 0) [] [] → e 1 = .pt n 0 → e 2 = .pt (n + 1) 0 → e 10 = I l.ls.length → e 11 = I 0 →
      ∃ t : Nat × σ, (t.1 ≤ l.ls.length ∧ Q t.1 t.2) ∧ (t.1 = l.ls.length ∨ (t.1 < l.ls.length ∧ canB b d t.1 = true ∧ ∃ X, Lv n p d (Gs t.2) t.1 X ∧ Q' X)) ∧
        execW progX 105 (n + 2) none x105l0 e (Gs s0 ++ tl2 p d) = execW progX 105 (n + 2) none (match x105l0 with | .loop _ a => a | c => c) (envL [0, 1, 2, 10, 11] [.fn (.yield 0) [] [], .pt n 0, .pt (n + 1) 0, I l.ls.length, I (t.1 : Nat)]) (Gs t.2 ++ tl2 p d) := by
    intro e e0 e1 e2 e3 e4
    unfold x105l0
    refine loop_inv (σ := Nat × σ) (fun t => [.fn (.yield 0) [] [], .pt n 0, .pt (n + 1) 0, I l.ls.length, I (t.1 : Nat)]) (fun t => Gs t.2 ++ tl2 p d) (fun t => t.1 ≤ l.ls.length ∧ Q t.1 t.2) (fun t => t.1 = l.ls.length ∨ (t.1 < l.ls.length ∧ canB b d t.1 = true ∧ ∃ X, Lv n p d (Gs t.2) t.1 X ∧ Q' X)) (fun t => l.ls.length - t.1) (0, s0) ?_ ⟨by omega, q0⟩ ?_
    · exact (hm s0).head d e _ _ e0 e1 e2 e3 e4
    · rintro ⟨k, s⟩ ⟨hk, hq⟩
      dsimp only at hk hq ⊢
      by_cases hkn : k = l.ls.length
      · subst hkn
        refine .inl ⟨?_, .inl rfl⟩
        (sym => (simp [yC_len, yC_0, yC_1, yC_2, yC_3, yC_4, yC_15, Za,Zb,Zf,Zh,Zl,Zm,Zu,Z1,Z2,Z5,ZC,ZE,ZX,ZZ,Yp,YD,XX,Wb,Wq,Wr,Wx,Wy,Vv,Vw,Vx,V2,V4,V6,VB,VC,VF,VH,VI,VK,VU,Um,U1,U2,UO,UP,UQ,UU,Te,Tf,Ti,Tj,Tk,Tl,Tp,Tq,Ts,Tt, z]; all_goals tactic => exact rfl))
      · have hk2 : k < l.ls.length := by omega
        cases hcb : canB b d k with
        | false => exact .inr ⟨(k + 1, s), by dsimp only; omega, skip105 hn hb hd (hm s) hk2 hcb, by dsimp only; omega, hs k s hk2 hq hcb⟩
        | true =>
          rcases hc k s hk2 hq hcb with ⟨s', h1, h2⟩ | ⟨X, ⟨Y, h1, h1', i0, i1, i2⟩, h2⟩
          · exact .inr ⟨(k + 1, s'), by dsimp only; omega, step105 hn hb hd (hm s) (hm s') hk2 hcb h1, by dsimp only; omega, h2⟩
          · refine .inl ⟨?_, .inr ⟨hk2, rfl, X, ⟨Y, h1, h1', i0, i1, i2⟩, h2⟩⟩
            obtain ⟨e', he⟩ := left105 hn hb hd (hm s) hk2 hcb h1 i0 i1 i2
            unfold x105l0 at he
            dsimp only at he
            rw [he]; rfl
  obtain ⟨q, h0⟩ := (hm s0).y
  have h0 := h0 d
  have h1 := (hm s0).h1 d
  have h2 := (hm s0).h2 d
  have l0 := (hm s0).len d
  have st : ∀ R, (∀ E : Env, E 0 = .fn (.yield 0) [] [] → E 1 = .pt n 0 → E 2 = .pt (n + 1) 0 → E 10 = I l.ls.length → E 11 = I 0 → execW progX 105 (n + 2) none x105l0 E (Gs s0 ++ tl2 p d) = R) → runW progX 105 [.fn (.yield 0) [] [], .pt n 0, .pt (n + 1) 0] (Gs s0 ++ tl2 p d) = retX [] false (n + 2) (blockX 0 R) := by
    intro R hR
    rw [r105 (by simp)]; unfold x105; dsimp only
    rw [l0]
    sym =>
      simp [yC_len, yC_0, yC_1, yC_2, yC_3, yC_4, yC_15, Za,Zb,Zf,Zh,Zl,Zm,Zu,Z1,Z2,Z5,ZC,ZE,ZX,ZZ,Yp,YD,XX,Wb,Wq,Wr,Wx,Wy,Vv,Vw,Vx,V2,V4,V6,VB,VC,VF,VH,VI,VK,VU,Um,U1,U2,UO,UP,UQ,UU,Te,Tf,Ti,Tj,Tk,Tl,Tp,Tq,Ts,Tt, h0, h1, h2]
      tactic => exact congrArg (fun R => retX [] false (n + 2) (blockX 0 R)) (hR _ rfl rfl rfl rfl rfl)
  have hst := st _ fun E g0 g1 g2 g3 g4 => loop_head (e' := envL [0, 1, 2, 10, 11] [.fn (.yield 0) [] [], .pt n 0, .pt (n + 1) 0, I l.ls.length, I 0]) (((hm s0).head d E _ _ g0 g1 g2 g3 g4).trans ((hm s0).head d _ _ _ rfl rfl rfl rfl rfl).symm)
  obtain ⟨⟨k, s⟩, ⟨hk, hq⟩, hend, hrun⟩ := key (envL [0, 1, 2, 10, 11] [.fn (.yield 0) [] [], .pt n 0, .pt (n + 1) 0, I l.ls.length, I 0]) rfl rfl rfl rfl rfl
  unfold x105l0 at hst hrun
  dsimp only at hrun
  rw [hst, hrun]
  dsimp only at hk hq hend ⊢
  rcases hend with rfl | ⟨hk2, hcb, X, ⟨Y, hy, hf, i0, i1, i2⟩, hq'⟩
  · refine .inl ⟨s, hq, ?_⟩
    have hf := (hm s).fin d
    (sym => (simp [yC_len, yC_0, yC_1, yC_2, yC_3, yC_4, yC_15, Za,Zb,Zf,Zh,Zl,Zm,Zu,Z1,Z2,Z5,ZC,ZE,ZX,ZZ,Yp,YD,XX,Wb,Wq,Wr,Wx,Wy,Vv,Vw,Vx,V2,V4,V6,VB,VC,VF,VH,VI,VK,VU,Um,U1,U2,UO,UP,UQ,UU,Te,Tf,Ti,Tj,Tk,Tl,Tp,Tq,Ts,Tt, z, hf]; all_goals tactic => exact rfl))
  · refine .inr ⟨X, hq', ?_⟩
    obtain ⟨e', he⟩ := left105 hn hb hd (hm s) hk2 hcb hy i0 i1 i2
    unfold x105l0 at he
    dsimp only at he
    rw [he]
    (sym => (simp [yC_len, yC_0, yC_1, yC_2, yC_3, yC_4, yC_15, Za,Zb,Zf,Zh,Zl,Zm,Zu,Z1,Z2,Z5,ZC,ZE,ZX,ZZ,Yp,YD,XX,Wb,Wq,Wr,Wx,Wy,Vv,Vw,Vx,V2,V4,V6,VB,VC,VF,VH,VI,VK,VU,Um,U1,U2,UO,UP,UQ,UU,Te,Tf,Ti,Tj,Tk,Tl,Tp,Tq,Ts,Tt, hf]; all_goals tactic => exact rfl))
end
end Go.Proofs.YtpbeclkpohehgaaDoor
namespace Go.Proofs.YtpbeclkpohehgaaDoor
open Go Go.DL
set_option maxRecDepth 100000
set_option maxHeartbeats 4000000

/-! ### A memory -/
def encM (es : List (Int × Int)) : List (AV × AV) := es.map fun p => (.int .u64 p.1, I p.2)
def look (es : List (Int × Int)) (x : Int) : Option Int := match es with
  | [] => none
  | p :: r => if p.1 = x then some p.2 else look r x
theorem findA_enc (es : List (Int × Int)) (x : Int) : findA false (.int .u64 x) (encM es) = some ((look es x).map I) := by
  induction es with
  | nil => rfl
  | cons p r ih =>
    simp only [encM, List.map_cons, findA, keyEqA, if_true, look] at ih ⊢
    by_cases h : p.1 = x
    · simp [h]
    · rw [show (x == p.1) = false by simpa using fun e => h e.symm]
      simpa [h] using ih
def put (es : List (Int × Int)) (k v : Int) : List (Int × Int) := match es with
  | [] => [(k, v)]
  | p :: r => if k = p.1 then (p.1, v) :: r else p :: put r k v
theorem putA_enc (es : List (Int × Int)) (k v : Int) : putA false (.int .u64 k) (I v) (encM es) = some (encM (put es k v)) := by
  induction es with
  | nil => rfl
  | cons p r ih =>
    simp only [encM, List.map_cons, putA, keyEqA, if_true, put] at ih ⊢
    by_cases h : k = p.1
    · simp [h]
    · simp only [show (k == p.1) = false by simpa using h, if_neg h, ih, Option.map_some, List.map_cons]
theorem look_put (es : List (Int × Int)) (k v x : Int) : look (put es k v) x = if k = x then some v else look es x := by
  induction es with
  | nil => rfl
  | cons p r ih =>
    rw [put]
    by_cases h : k = p.1
    · rw [if_pos h, look, look, h]
      by_cases h2 : p.1 = x
      · rw [if_pos h2, if_pos h2]
      · rw [if_neg h2, if_neg h2, if_neg h2]
    · rw [if_neg h, look, look, ih]
      by_cases h2 : p.1 = x
      · rw [if_pos h2, if_pos h2, if_neg fun hc => h (hc.trans h2.symm)]
      · rw [if_neg h2, if_neg h2]
/-! ### The least worst -/
def restF (l : Li) (b : Nat → Nat) : Nat → Nat → Int
  | 0, _ => 0
  | m + 1, d => ((List.range l.ls.length).filter (canB b d)).foldl (fun x k => mnI x (mxI (lastF l (d ||| 2 ^ k) k) (restF l b m (d ||| 2 ^ k)))) 1000000
/-- The least worst of all loads that come after some that were crushed. -/
def rstF (l : Li) (b : Nat → Nat) (d : Nat) : Int := restF l b (l.ls.length - pop d l.ls.length) d
/-- The least worst of a load and all that come after it. -/
def wthF (l : Li) (b : Nat → Nat) (d k : Nat) : Int := mxI (lastF l (d ||| 2 ^ k) k) (rstF l b (d ||| 2 ^ k))
theorem pop_or {d k : Nat} (h : d.testBit k = false) : ∀ n, (k < n → pop (d ||| 2 ^ k) n = pop d n + 1) ∧ (n ≤ k → pop (d ||| 2 ^ k) n = pop d n)
  | 0 => ⟨fun h => by omega, fun _ => rfl⟩
  | n + 1 => by
    have ih := pop_or h n
    rw [pop, pop, or_bit]
    constructor
    · intro hk
      by_cases hkn : k = n
      · subst hkn
        rw [ih.2 (Nat.le_refl _), h]
        simp
      · rw [ih.1 (by omega), decide_eq_false hkn, Bool.or_false]
        omega
    · intro hk
      rw [ih.2 (by omega), decide_eq_false (by omega : ¬ k = n), Bool.or_false]
theorem rest_full {l : Li} {b : Nat → Nat} {d : Nat} (h : pop d l.ls.length = l.ls.length) : rstF l b d = 0 := by
  rw [rstF, h, Nat.sub_self, restF]
def rsT (l : Li) (b : Nat → Nat) (d : Nat) : Nat → Int
  | 0 => 1000000
  | k + 1 => if canB b d k = true then mnI (rsT l b d k) (wthF l b d k) else rsT l b d k
theorem rsT_fl {l : Li} {b : Nat → Nat} {d : Nat} : ∀ n, rsT l b d n = ((List.range n).filter (canB b d)).foldl (fun x k => mnI x (wthF l b d k)) 1000000
  | 0 => rfl
  | n + 1 => by
    rw [rsT, List.range_succ, List.filter_append, List.foldl_append, ← rsT_fl n]
    cases h : canB b d n <;> simp [h]
theorem foldl_on {α β : Type} {f g : α → β → α} : ∀ (ks : List β) (z : α), (∀ x k, k ∈ ks → f x k = g x k) → ks.foldl f z = ks.foldl g z
  | [], _, _ => rfl
  | k :: ks, z, h => by
    rw [List.foldl_cons, List.foldl_cons, h z k (by simp)]
    exact foldl_on ks _ fun x j hj => h x j (by simp [hj])
theorem rest_step {l : Li} {b : Nat → Nat} {d : Nat} (h : pop d l.ls.length < l.ls.length) : rstF l b d = rsT l b d l.ls.length := by
  rw [rsT_fl, rstF]
  obtain ⟨m, hm⟩ : ∃ m, l.ls.length - pop d l.ls.length = m + 1 := ⟨l.ls.length - pop d l.ls.length - 1, by omega⟩
  rw [hm, restF]
  refine foldl_on _ _ fun x k hk => ?_
  have hk := List.mem_filter.1 hk
  have hb : d.testBit k = false := by
    have := hk.2
    unfold canB at this
    cases hc : d.testBit k with
    | false => rfl
    | true => rw [hc] at this; simp at this
  have e := (pop_or hb l.ls.length).1 (List.mem_range.1 hk.1)
  unfold wthF rstF
  rw [show l.ls.length - pop (d ||| 2 ^ k) l.ls.length = m by omega]
def Memo (l : Li) (b : Nat → Nat) (es : List (Int × Int)) : Prop := ∀ (d : Nat) (v : Int), look es d = some v → v = rstF l b d
theorem memo_0 (l : Li) (b : Nat → Nat) : Memo l b [] := fun d v h => by simp [look] at h
theorem memo_put {l : Li} {b : Nat → Nat} {es : List (Int × Int)} (h : Memo l b es) (d : Nat) : Memo l b (put es d (rstF l b d)) := by
  intro d' v hv
  rw [look_put] at hv
  by_cases hd : (d : Int) = d'
  · rw [if_pos hd] at hv
    have : d = d' := by omega
    subst this
    exact (Option.some.inj hv).symm
  · rw [if_neg hd] at hv
    exact h d' v hv
theorem or_n {a k : Nat} (ha : a < 2 ^ 10) (hk : k < 10) : bitsA .or .u64 (a : Int) (IntKind.u64.wrap (1 * 2 ^ min k IntKind.u64.bits)) = ((a ||| 2 ^ k : Nat) : Int) := by
  rw [shl_one big_u (by omega), bits_or big_u (lo_63 ha) (Nat.pow_lt_pow_right (by omega) (by omega))]
theorem or_n1 {a k : Nat} (ha : a < 2 ^ 10) (hk : k < 10) : bitsA .or .u64 (a : Int) (IntKind.u64.wrap (2 ^ min k IntKind.u64.bits)) = ((a ||| 2 ^ k : Nat) : Int) := by
  rw [shl_1 big_u (by omega), bits_or big_u (lo_63 ha) (Nat.pow_lt_pow_right (by omega) (by omega))]
section
variable {l : Li} {b : Nat → Nat}
theorem w75 (g : Good l) {d k : Nat} (hd : d < 2 ^ l.ls.length) (hk : k < l.ls.length) {es es' : List (Int × Int)} {r : Int} (h : runW progX 72 [.pt 0 0, U (d ||| 2 ^ k)] (hY l b (encM es)) = some (I r, hY l b (encM es'))) :
    runW progX 75 [.pt 0 0, U d, I (k : Nat)] (hY l b (encM es)) = some (I (mxI (lastF l (d ||| 2 ^ k) k) r), hY l b (encM es')) := by
  have hn := g.few
  have hd2 : d < 2 ^ 10 := lt_10 hd hn
  have e86 := w86 (b := b) (es := encM es) g (or_lt hd hk) hk
  have n0 := (eq_false (by omega) : ((k : Int) < 0) = False)
  have o1 := or_n hd2 (k := k) (by omega)
  have o2 := or_n1 hd2 (k := k) (by omega)
  unfold mxI
  generalize lastF l (d ||| 2 ^ k) k = lv at *
  generalize d ||| 2 ^ k = d' at *
  rw [r75 (by simp)]; unfold x75; dsimp only
  (sym => (simp [yC_nm, yC_rn, yM_s, yC_gr, yC_sl, yC_fz, yC_len, yC_0, yC_1, yC_2, yC_3, yC_4, yC_15, yC_same, Za,Zb,Zf,Zg,Zh,Zj,Zl,Zm,Zu,Z2,ZD,ZM,ZN,ZR,ZS,Yk,Yl,Yu,Y5,YE,YL,Xe,Xk,Xq,Xw,XP,XX,Wp,Ws,Wv,Ww,Wx,Wy,Wz,W0,W3,W4,W5,W6,W7,W8,W9,WA,WB,WC,WE,WF,WG,WI,WJ,WK,WM,WN,WO,WR,WS,WT,WV,WW,WX,WY,Vi,Vk,Vl,Vm,Vw,Vx,Vz,V0,V1,V2,V3,V6,V7,V8,V9,VB,VK,VL,VM,VN,VO,VP,VQ,VR,VS,VT,VW,Uk,Uq,Ur,Us,Ut,Uu,U1,U2,Te,Tf,Tg,Tk,Ts,Tt,Sc,Sn,Sq,Ss, n0, o1, o2, e86, h]; all_goals tactic => exact rfl))
theorem w74 (es : List (AV × AV)) (d : Nat) : runW progX 74 [.pt 0 0, U d] (hY l b es) = some (.fn (.func 105) [] [.pt 2 0, .pt 3 0], [some (.blk false (.cells true (yC l b 1))), some (.blk true (.map true es)), some (.blk false (.cells true [.pt 0 0])), cU d]) := by
  rw [r74 (by simp)]; unfold x74; dsimp only
  (sym => (simp [yC_nm, yC_rn, yM_s, yC_gr, yC_sl, yC_fz, yC_len, yC_0, yC_1, yC_2, yC_3, yC_4, yC_15, yC_same, Za,Zb,Zf,Zh,Zl,Zn,Zu,Zw,Zy,YL,YP,YR,YY,Xk,Xo,Xz,XP,XX,Wa,Wc,Wh,Wp,Wx,Wz,W0,W4,W5,W7,W8,W9,WB,WE,WF,WG,WH,WM,WN,WO,WR,WS,WT,Vi,Vw,Vx,Vz,V0,V1,V2,V3,V6,V7,V8,V9,VB,VK,VL,VM,VN,VO,VP,VQ,VR,VS,VT,VW,Uk,Ur,Us,Ut,Uu,U1,U2,U9,UA,UZ,Tf,Tg,Tk,Ts,Tt,Sc]; all_goals tactic => exact rfl))
abbrev h72 (l : Li) (b : Nat → Nat) (d : Nat) (es : List (Int × Int)) (v : Int) : XH := [some (.loop 72 0 [.pt 1 0, .pt 4 0, .pt 5 0] .ready), some (.blk false (.cells true [.pt 2 0])), some (.blk false (.cells true (yC l b 3))), some (.blk true (.map true (encM es))), cU d, some (.blk true (.cells true [I v]))]
theorem home72 (d : Nat) (es : List (Int × Int)) (v : Int) : Home2 6 2 l b (h72 l b d es v) := by
  refine ⟨⟨3, fun _ => rfl⟩, fun _ => rfl, fun _ => rfl, fun _ => rfl, ?_, ?_⟩
  · intro a e j k h0 h1 h2 h3 h4
    (sym => (simp [yC_nm, yC_rn, yM_s, yC_gr, yC_sl, yC_fz, yC_len, yC_0, yC_1, yC_2, yC_3, yC_4, yC_15, yC_same, Za,YE,YH,YL,YQ,Xe,Xh,Xk,Xp,Xt,XV,Wz,W5,W7,W9,WB,WC,WE,WF,WG,WM,WN,WO,WP,WR,WS,WT,WU,Vi,Vz,V0,V1,VD,VE,VL,VM,VN,VO,VP,VQ,VR,Uk,Uq,Ur,Us,Ut,Uu,Ux,U1,Tr,Sc, h0, h1, h2, h3, h4]; all_goals tactic => exact rfl))
  · intro a
    (sym => (simp [yC_nm, yC_rn, yM_s, yC_gr, yC_sl, yC_fz, yC_len, yC_0, yC_1, yC_2, yC_3, yC_4, yC_15, yC_same, Za,YE,YH,YL,YQ,Xe,Xh,Xk,Xp,Xt,XV,Wz,W5,W7,W9,WB,WC,WE,WF,WG,WM,WN,WO,WP,WR,WS,WT,WU,Vi,Vz,V0,V1,VD,VE,VL,VM,VN,VO,VP,VQ,VR,Uk,Uq,Ur,Us,Ut,Uu,Ux,U1,Tr,Sc]; all_goals tactic => exact rfl))
theorem y72 {d k : Nat} {es es' : List (Int × Int)} {v r : Int} (h : runW progX 75 [.pt 0 0, U d, I (k : Nat)] (hY l b (encM es)) = some (I r, hY l b (encM es'))) : Yd2 2 (h72 l b d es v) (h72 l b d es' (mnI v r)) k true := by
  have y : runYW progX (.fn (.yield 0) [] []) [I (k : Nat)] (h72 l b d es v) = some (.bool true, h72 l b d es' (mnI v r)) := by
    rw [runYW_eq (K := 72) (d := x72) (site := 0) (vs := [.pt 1 0, .pt 4 0, .pt 5 0]) rfl rfl (by rfl) rfl]
    unfold mnI
    (sym => (simp [yC_nm, yC_rn, yM_s, yC_gr, yC_sl, yC_fz, yC_len, yC_0, yC_1, yC_2, yC_3, yC_4, yC_15, yC_same, Za,Zb,Zc,Zd,Ze,Zf,Zg,Zh,Zk,Zl,Zm,Zu,ZD,ZF,ZH,ZI,ZK,ZL,ZO,ZP,ZR,ZS,Y6,YE,YF,YL,YQ,YR,Xe,Xf,Xk,Xp,Xq,Xw,XP,Wc,Wn,Wp,Wq,Wr,Ws,Wt,Wv,Ww,Wy,Wz,W0,W3,W4,W5,W6,W7,W8,W9,WA,WB,WC,WE,WF,WG,WI,WJ,WK,WM,WN,WO,WP,WR,WS,WT,WU,WV,WW,WX,WY,WZ,Va,Vb,Vd,Ve,Vi,Vk,Vl,Vm,Vn,Vo,Vp,Vq,Vy,V1,VC,VL,VM,VN,VO,VP,VQ,VR,VS,VT,VW,VZ,Uc,Ud,Ue,Uf,Uh,Uk,Un,Uo,Uq,Ur,Us,Ut,Uu,Uv,Uw,Ux,Uy,U3,U7,U8,UP,UQ,UU,UV,UW,Tj,Tn,Ts,Tt,TD,TE,TF,TG,TQ,TR,TS,TT,TU,Sb,Sc,Sf,Sg,Si,Sj,Sk,Sn,Sq,Sr,Ss, h]; all_goals tactic => exact rfl))
  intro c
  (sym => (simp [yC_nm, yC_rn, yM_s, yC_gr, yC_sl, yC_fz, yC_len, yC_0, yC_1, yC_2, yC_3, yC_4, yC_15, yC_same, Za,Zb,Zc,Zd,Ze,Zf,Zg,Zh,Zk,Zl,Zm,Zu,ZD,ZF,ZH,ZI,ZK,ZL,ZO,ZP,ZR,ZS,Y6,YE,YF,YL,YQ,YR,Xe,Xf,Xk,Xp,Xq,Xw,XP,Wc,Wn,Wp,Wq,Wr,Ws,Wt,Wv,Ww,Wy,Wz,W0,W3,W4,W5,W6,W7,W8,W9,WA,WB,WC,WE,WF,WG,WI,WJ,WK,WM,WN,WO,WP,WR,WS,WT,WU,WV,WW,WX,WY,WZ,Va,Vb,Vd,Ve,Vi,Vk,Vl,Vm,Vn,Vo,Vp,Vq,Vy,V1,VC,VL,VM,VN,VO,VP,VQ,VR,VS,VT,VW,VZ,Uc,Ud,Ue,Uf,Uh,Uk,Un,Uo,Uq,Ur,Us,Ut,Uu,Uv,Uw,Ux,Uy,U3,U7,U8,UP,UQ,UU,UV,UW,Tj,Tn,Ts,Tt,TD,TE,TF,TG,TQ,TR,TS,TT,TU,Sb,Sc,Sf,Sg,Si,Sj,Sk,Sn,Sq,Sr,Ss, y]; all_goals tactic => exact rfl))
theorem w72 (g : Good l) (p : Prec l.ls.length b) : ∀ (m d : Nat), d < 2 ^ l.ls.length → l.ls.length - pop d l.ls.length = m → ∀ es, Memo l b es → ∃ es', Memo l b es' ∧ runW progX 72 [.pt 0 0, U d] (hY l b (encM es)) = some (I (rstF l b d), hY l b (encM es')) := by
  have hn := g.few
  have hb : ∀ k, b k < 2 ^ 10 := fun k => lt_10 (p.lt k) hn
  intro m
  induction m with
  | zero =>
    intro d hd hm es he
    have hle := pop_le d l.ls.length
    have e93 := w93 (lt_10 hd hn)
    have hc := pop_cut hd 10 hn
    have q : ((pop d 10 : Int) = (l.ls.length : Int)) = True := eq_true (by omega)
    refine ⟨es, he, ?_⟩
    rw [rest_full (by omega)]
    rw [r72 (by simp)]; unfold x72; dsimp only
    (sym => (simp [yC_nm, yC_rn, yM_s, yC_gr, yC_sl, yC_fz, yC_len, yC_0, yC_1, yC_2, yC_3, yC_4, yC_15, yC_same, Za,Zb,Zc,Ze,Zf,Zg,Zh,Zi,Zj,Zk,Zl,Zm,Zn,Zu,Zv,Zy,Z1,Z2,Z5,ZA,ZB,ZC,ZE,ZF,ZH,ZI,ZJ,ZK,ZM,ZN,ZO,ZP,ZR,ZS,ZX,ZZ,Yg,Yn,Y7,Y8,Y9,YA,YB,YD,YE,YL,YQ,YR,YY,Xe,Xh,Xk,Xo,Xp,Xq,Xw,XP,XX,Wc,Wh,Wp,Wq,Wr,Ws,Wt,Wv,Ww,Wx,Wy,Wz,W0,W3,W4,W5,W6,W7,W8,W9,WA,WB,WC,WE,WF,WG,WI,WJ,WK,WM,WN,WO,WP,WR,WS,WT,WU,WV,WW,WX,WY,WZ,Va,Vb,Vd,Vi,Vk,Vl,Vn,Vo,Vp,Vq,Vw,Vx,Vz,V0,V1,V2,V3,V6,V7,V8,V9,VB,VF,VG,VH,VK,VL,VM,VN,VO,VP,VQ,VR,VS,VT,VU,VW,VX,VZ,Ud,Ue,Uf,Uh,Uj,Uk,Ul,Um,Un,Uo,Uq,Ur,Us,Ut,Uu,Uv,Uw,Ux,Uy,U1,U2,U3,U9,UA,UP,UQ,UU,UV,UW,UX,UY,UZ,Te,Tf,Tg,Th,Tj,Tk,Tm,Tn,Ts,Tt,TD,TE,TH,TK,TL,TM,TN,TO,TZ,Sc,Sn,Sq,Sr, e93, q]; all_goals tactic => exact rfl))
  | succ m ih =>
    intro d hd hm es he
    have e93 := w93 (lt_10 hd hn)
    have hc := pop_cut hd 10 hn
    have q : ((pop d 10 : Int) = (l.ls.length : Int)) = False := eq_false (by omega)
    cases hl : look es (d : Int) with
    | some v =>
      refine ⟨es, he, ?_⟩
      rw [← he d v hl]
      have f1 := findA_enc es (d : Int)
      rw [hl] at f1
      rw [r72 (by simp)]; unfold x72; dsimp only
      (sym => (simp [yC_nm, yC_rn, yM_s, yC_gr, yC_sl, yC_fz, yC_len, yC_0, yC_1, yC_2, yC_3, yC_4, yC_15, yC_same, Za,Zb,Zc,Ze,Zf,Zg,Zh,Zi,Zj,Zk,Zl,Zm,Zn,Zu,Zv,Zy,Z1,Z2,Z5,ZA,ZB,ZC,ZE,ZF,ZH,ZI,ZJ,ZK,ZM,ZN,ZO,ZP,ZR,ZS,ZX,ZZ,Yg,Yn,Y7,Y8,Y9,YA,YB,YD,YE,YL,YQ,YR,YY,Xe,Xh,Xk,Xo,Xp,Xq,Xw,XP,XX,Wc,Wh,Wp,Wq,Wr,Ws,Wt,Wv,Ww,Wx,Wy,Wz,W0,W3,W4,W5,W6,W7,W8,W9,WA,WB,WC,WE,WF,WG,WI,WJ,WK,WM,WN,WO,WP,WR,WS,WT,WU,WV,WW,WX,WY,WZ,Va,Vb,Vd,Vi,Vk,Vl,Vn,Vo,Vp,Vq,Vw,Vx,Vz,V0,V1,V2,V3,V6,V7,V8,V9,VB,VF,VG,VH,VK,VL,VM,VN,VO,VP,VQ,VR,VS,VT,VU,VW,VX,VZ,Ud,Ue,Uf,Uh,Uj,Uk,Ul,Um,Un,Uo,Uq,Ur,Us,Ut,Uu,Uv,Uw,Ux,Uy,U1,U2,U3,U9,UA,UP,UQ,UU,UV,UW,UX,UY,UZ,Te,Tf,Tg,Th,Tj,Tk,Tm,Tn,Ts,Tt,TD,TE,TH,TK,TL,TM,TN,TO,TZ,Sc,Sn,Sq,Sr, e93, q, f1]; all_goals tactic => exact rfl))
    | none =>
      have f1 := findA_enc es (d : Int)
      rw [hl] at f1
      have hr := next_rule (n := 6) (p := 2) (d := d) hn hb (lt_10 hd hn) (fun s : List (Int × Int) × Int => h72 l b d s.1 s.2) (fun s => home72 d s.1 s.2) (fun k s => Memo l b s.1 ∧ s.2 = rsT l b d k) (fun _ => False) (es, 1000000) ⟨he, rfl⟩
        (by
          rintro k ⟨es1, v⟩ hk ⟨h1, h2⟩ hcb
          dsimp only at h1 h2
          have hcd := (canB_iff p hn hd).1 hcb
          have hpo := (pop_or hcd.1 l.ls.length).1 hk
          obtain ⟨es2, h3, h4⟩ := ih (d ||| 2 ^ k) (or_lt hd hk) (by omega) es1 h1
          refine .inl ⟨(es2, mnI v (wthF l b d k)), y72 (w75 g hd hk h4), h3, ?_⟩
          dsimp only
          rw [rsT, if_pos hcb, h2])
        (by
          rintro k ⟨es1, v⟩ hk ⟨h1, h2⟩ hcb
          refine ⟨h1, ?_⟩
          dsimp only at h2 ⊢
          rw [rsT, hcb, if_neg (by simp), h2])
      rcases hr with ⟨⟨es1, v⟩, ⟨h1, h2⟩, hr⟩ | ⟨_, h, _⟩
      · dsimp only at h1 h2
        rw [← rest_step (by omega)] at h2
        subst h2
        refine ⟨_, memo_put h1 d, ?_⟩
        have e105 : runW progX 105 [.fn (.yield 0) [] [], .pt 6 0, .pt 7 0] [some (.loop 72 0 [.pt 1 0, .pt 4 0, .pt 5 0] .ready), some (.blk false (.cells true [.pt 2 0])), some (.blk false (.cells true (yC l b 3))), some (.blk true (.map true (encM es))), cU d, some (.blk true (.cells true [I 1000000])), some (.blk false (.cells true [.pt 2 0])), cU d] =
          some (.tup [], [some (.loop 72 0 [.pt 1 0, .pt 4 0, .pt 5 0] .ready), some (.blk false (.cells true [.pt 2 0])), some (.blk false (.cells true (yC l b 3))), some (.blk true (.map true (encM es1))), cU d, some (.blk true (.cells true [I (rstF l b d)])), some (.blk false (.cells true [.pt 2 0])), cU d]) := hr
        have e74 := w74 (l := l) (b := b) (encM es) d
        have p1 := putA_enc es1 d (rstF l b d)
        generalize put es1 d (rstF l b d) = es2 at *
        rw [r72 (by simp)]; unfold x72; dsimp only
        (sym => (simp [yC_nm, yC_rn, yM_s, yC_gr, yC_sl, yC_fz, yC_len, yC_0, yC_1, yC_2, yC_3, yC_4, yC_15, yC_same, Za,Zb,Zc,Ze,Zf,Zg,Zh,Zi,Zj,Zk,Zl,Zm,Zn,Zu,Zv,Zy,Z1,Z2,Z5,ZA,ZB,ZC,ZE,ZF,ZH,ZI,ZJ,ZK,ZM,ZN,ZO,ZP,ZR,ZS,ZX,ZZ,Yg,Yn,Y7,Y8,Y9,YA,YB,YD,YE,YL,YQ,YR,YY,Xe,Xh,Xk,Xo,Xp,Xq,Xw,XP,XX,Wc,Wh,Wp,Wq,Wr,Ws,Wt,Wv,Ww,Wx,Wy,Wz,W0,W3,W4,W5,W6,W7,W8,W9,WA,WB,WC,WE,WF,WG,WI,WJ,WK,WM,WN,WO,WP,WR,WS,WT,WU,WV,WW,WX,WY,WZ,Va,Vb,Vd,Vi,Vk,Vl,Vn,Vo,Vp,Vq,Vw,Vx,Vz,V0,V1,V2,V3,V6,V7,V8,V9,VB,VF,VG,VH,VK,VL,VM,VN,VO,VP,VQ,VR,VS,VT,VU,VW,VX,VZ,Ud,Ue,Uf,Uh,Uj,Uk,Ul,Um,Un,Uo,Uq,Ur,Us,Ut,Uu,Uv,Uw,Ux,Uy,U1,U2,U3,U9,UA,UP,UQ,UU,UV,UW,UX,UY,UZ,Te,Tf,Tg,Th,Tj,Tk,Tm,Tn,Ts,Tt,TD,TE,TH,TK,TL,TM,TN,TO,TZ,Sc,Sn,Sq,Sr, e93, q, f1, e74, e105, p1]; all_goals tactic => exact rfl))
      · exact h.elim
end
end Go.Proofs.YtpbeclkpohehgaaDoor
namespace Go.Proofs.YtpbeclkpohehgaaDoor
open Go Go.DL
set_option maxRecDepth 100000
set_option maxHeartbeats 4000000

def goodB (l : Li) (b : Nat → Nat) (w : Int) (d k : Nat) : Bool := canB b d k && decide (wthF l b d k ≤ w)
/-- The first load with which the rest is not worse than it must be. -/
def pickF (l : Li) (b : Nat → Nat) (w : Int) (d : Nat) : Option Nat := (List.range l.ls.length).find? (goodB l b w d)
def bestF (l : Li) (b : Nat → Nat) (w : Int) : Nat → Nat → List Nat
  | 0, _ => []
  | m + 1, d => match pickF l b w d with
    | some k => k :: bestF l b w m (d ||| 2 ^ k)
    | none => []
/-- The order in which the rest is crushed. -/
def bstF (l : Li) (b : Nat → Nat) (w : Int) (d : Nat) : List Nat := bestF l b w (l.ls.length - pop d l.ls.length) d
theorem range_find {P : Nat → Bool} {n : Nat} : (∃ k, (List.range n).find? P = some k ∧ k < n ∧ P k = true ∧ ∀ j, j < k → P j = false) ∨ ((List.range n).find? P = none ∧ ∀ j, j < n → P j = false) := by
  cases h : (List.range n).find? P with
  | none =>
    refine .inr ⟨rfl, fun j hj => ?_⟩
    have := List.find?_eq_none.1 h j (List.mem_range.2 hj)
    simpa using this
  | some k =>
    obtain ⟨h1, xs, ys, h2, h3⟩ := List.find?_eq_some_iff_append.1 h
    have hk : xs.length < (List.range n).length := by rw [h2]; simp
    have hk2 : (List.range n)[xs.length]? = some k := by rw [h2]; simp
    rw [List.length_range] at hk
    rw [List.getElem?_range hk] at hk2
    have hk2 := Option.some.inj hk2
    refine .inl ⟨k, rfl, by omega, h1, fun j hj => ?_⟩
    have hj2 : (List.range n)[j]? = some j := List.getElem?_range (by omega)
    rw [h2, List.getElem?_append_left (by omega)] at hj2
    simpa using h3 j (List.mem_of_getElem? hj2)
theorem bst_some {l : Li} {b : Nat → Nat} {w : Int} {d k : Nat} (h : pickF l b w d = some k) : bstF l b w d = k :: bstF l b w (d ||| 2 ^ k) ∧ k < l.ls.length ∧ canB b d k = true ∧ wthF l b d k ≤ w ∧ pop (d ||| 2 ^ k) l.ls.length = pop d l.ls.length + 1 ∧ ∀ j, j < k → goodB l b w d j = false := by
  rcases range_find (P := goodB l b w d) (n := l.ls.length) with ⟨k', h1, h2, h3, h4⟩ | ⟨h1, _⟩
  · have hk : k' = k := by
      have := h1.symm.trans h
      exact Option.some.inj this
    subst hk
    unfold goodB at h3
    rw [Bool.and_eq_true, decide_eq_true_iff] at h3
    have hp := (pop_or (can_bit h3.1) l.ls.length).1 h2
    have hle := pop_le (d ||| 2 ^ k') l.ls.length
    refine ⟨?_, h2, h3.1, h3.2, hp, h4⟩
    unfold bstF
    obtain ⟨m, hm⟩ : ∃ m, l.ls.length - pop d l.ls.length = m + 1 := ⟨l.ls.length - pop d l.ls.length - 1, by omega⟩
    rw [hm, bestF, h]
    dsimp only
    rw [show l.ls.length - pop (d ||| 2 ^ k') l.ls.length = m by omega]
  · unfold pickF at h
    rw [h1] at h; simp at h
theorem bst_none {l : Li} {b : Nat → Nat} {w : Int} {d : Nat} (h : pickF l b w d = none) : bstF l b w d = [] ∧ ∀ j, j < l.ls.length → goodB l b w d j = false := by
  rcases range_find (P := goodB l b w d) (n := l.ls.length) with ⟨k', h1, _⟩ | ⟨h1, h2⟩
  · unfold pickF at h
    rw [h1] at h; simp at h
  · refine ⟨?_, h2⟩
    unfold bstF
    cases l.ls.length - pop d l.ls.length with
    | zero => rfl
    | succ m => rw [bestF, h]
section
variable {l : Li} {b : Nat → Nat}
abbrev h73n (l : Li) (b : Nat → Nat) (es : List (Int × Int)) (d : Nat) (w : Int) : XH := [some (.blk false (.cells true [.pt 1 0])), some (.blk false (.cells true (yC l b 2))), some (.blk true (.map true (encM es))), cU d, some (.blk true (.cells true [I w])), some (.blk true (.cells true [.nilsl])), some (.blk false (.cells true [.fn (.func 73) [] [.pt 0 0, .pt 3 0, .pt 4 0, .pt 5 0, .pt 6 0]]))]
abbrev h73c (l : Li) (b : Nat → Nat) (es : List (Int × Int)) (d : Nat) (w : Int) (a : Int) (r : List Int) : XH := [some (.blk false (.cells true [.pt 1 0])), some (.blk false (.cells true (yC l b 2))), some (.blk true (.map true (encM es))), cU d, some (.blk true (.cells true [I w])), some (.blk false (.cells true [.sl 6 0 1 (r.length + 1)])), some (.blk true (.cells true (I a :: r.map I))), some (.blk false (.cells true [.fn (.func 73) [] [.pt 0 0, .pt 3 0, .pt 4 0, .pt 5 0, .pt 7 0]]))]
abbrev g73n (l : Li) (b : Nat → Nat) (es : List (Int × Int)) (d : Nat) (w : Int) (s : LSt) : XH := [some (.loop 73 0 [.pt 1 0, .pt 4 0, .pt 5 0, .pt 6 0, .pt 7 0] s), some (.blk false (.cells true [.pt 2 0])), some (.blk false (.cells true (yC l b 3))), some (.blk true (.map true (encM es))), cU d, some (.blk true (.cells true [I w])), some (.blk true (.cells true [.nilsl])), some (.blk false (.cells true [.fn (.func 73) [] [.pt 1 0, .pt 4 0, .pt 5 0, .pt 6 0, .pt 7 0]]))]
abbrev g73c (l : Li) (b : Nat → Nat) (es : List (Int × Int)) (d : Nat) (w : Int) (a : Int) (r : List Int) (s : LSt) : XH := [some (.loop 73 0 [.pt 1 0, .pt 4 0, .pt 5 0, .pt 6 0, .pt 8 0] s), some (.blk false (.cells true [.pt 2 0])), some (.blk false (.cells true (yC l b 3))), some (.blk true (.map true (encM es))), cU d, some (.blk true (.cells true [I w])), some (.blk false (.cells true [.sl 7 0 1 (r.length + 1)])), some (.blk true (.cells true (I a :: r.map I))), some (.blk false (.cells true [.fn (.func 73) [] [.pt 1 0, .pt 4 0, .pt 5 0, .pt 6 0, .pt 8 0]]))]
theorem home73n (es : List (Int × Int)) (d : Nat) (w : Int) (s : LSt) : Home2 8 2 l b (g73n l b es d w s) := by
  refine ⟨⟨3, fun _ => rfl⟩, fun _ => rfl, fun _ => rfl, fun _ => rfl, ?_, ?_⟩
  · intro a e j k h0 h1 h2 h3 h4
    (sym => (simp [yC_nm, yC_rn, yM_s, yC_gr, yC_sl, yC_fz, yC_len, yC_0, yC_1, yC_2, yC_3, yC_4, yC_15, yC_same, Za,YE,YH,YL,YP,YQ,Xe,Xh,Xk,Xo,Xp,Xt,XV,Wz,W5,W7,W9,WB,WC,WE,WF,WG,WM,WN,WO,WP,WR,WS,WT,WU,Vi,Vz,V0,V1,VD,VE,VL,VM,VN,VO,VP,VQ,VR,Uk,Uq,Ur,Us,Ut,Uu,Ux,U1,Tr,Sc, h0, h1, h2, h3, h4]; all_goals tactic => exact rfl))
  · intro a
    (sym => (simp [yC_nm, yC_rn, yM_s, yC_gr, yC_sl, yC_fz, yC_len, yC_0, yC_1, yC_2, yC_3, yC_4, yC_15, yC_same, Za,YE,YH,YL,YP,YQ,Xe,Xh,Xk,Xo,Xp,Xt,XV,Wz,W5,W7,W9,WB,WC,WE,WF,WG,WM,WN,WO,WP,WR,WS,WT,WU,Vi,Vz,V0,V1,VD,VE,VL,VM,VN,VO,VP,VQ,VR,Uk,Uq,Ur,Us,Ut,Uu,Ux,U1,Tr,Sc]; all_goals tactic => exact rfl))
theorem home73c (es : List (Int × Int)) (d : Nat) (w : Int) (a : Int) (r : List Int) (s : LSt) : Home2 9 2 l b (g73c l b es d w a r s) := by
  refine ⟨⟨3, fun _ => rfl⟩, fun _ => rfl, fun _ => rfl, fun _ => rfl, ?_, ?_⟩
  · intro a e j k h0 h1 h2 h3 h4
    (sym => (simp [yC_nm, yC_rn, yM_s, yC_gr, yC_sl, yC_fz, yC_len, yC_0, yC_1, yC_2, yC_3, yC_4, yC_15, yC_same, Za,YE,YH,YK,YL,YP,YQ,Xe,Xh,Xj,Xk,Xo,Xp,Xt,XV,Wz,W5,W7,W9,WB,WC,WE,WF,WG,WM,WN,WO,WP,WR,WS,WT,WU,Vi,Vz,V0,V1,VD,VE,VL,VM,VN,VO,VP,VQ,VR,Uk,Uq,Ur,Us,Ut,Uu,Ux,U1,Tr,Sc, h0, h1, h2, h3, h4]; all_goals tactic => exact rfl))
  · intro a
    (sym => (simp [yC_nm, yC_rn, yM_s, yC_gr, yC_sl, yC_fz, yC_len, yC_0, yC_1, yC_2, yC_3, yC_4, yC_15, yC_same, Za,YE,YH,YK,YL,YP,YQ,Xe,Xh,Xj,Xk,Xo,Xp,Xt,XV,Wz,W5,W7,W9,WB,WC,WE,WF,WG,WM,WN,WO,WP,WR,WS,WT,WU,Vi,Vz,V0,V1,VD,VE,VL,VM,VN,VO,VP,VQ,VR,Uk,Uq,Ur,Us,Ut,Uu,Ux,U1,Tr,Sc]; all_goals tactic => exact rfl))
theorem y73n {d k : Nat} {es es' : List (Int × Int)} {w r : Int} (h : runW progX 75 [.pt 0 0, U d, I (k : Nat)] (hY l b (encM es)) = some (I r, hY l b (encM es'))) (hr : (r ≤ w) = False) : Yd2 2 (g73n l b es d w .ready) (g73n l b es' d w .ready) k true := by
  have y : runYW progX (.fn (.yield 0) [] []) [I (k : Nat)] (g73n l b es d w .ready) = some (.bool true, g73n l b es' d w .ready) := by
    rw [runYW_eq (K := 73) (d := x73) (site := 0) (vs := [.pt 1 0, .pt 4 0, .pt 5 0, .pt 6 0, .pt 7 0]) rfl rfl (by rfl) rfl]
    (sym => (simp [yC_nm, yC_rn, yM_s, yC_gr, yC_sl, yC_fz, yC_len, yC_0, yC_1, yC_2, yC_3, yC_4, yC_15, yC_same, Za,Zb,Zd,Ze,Zf,Zg,Zh,Zk,Zl,Zm,Zu,Z2,ZF,ZH,ZK,ZO,ZP,ZR,ZS,Yq,YE,YF,YL,YP,YQ,Xe,Xf,Xk,Xo,Xp,Xw,Wp,Wq,Wr,Ws,Wv,Ww,Wy,Wz,W0,W3,W4,W5,W6,W7,W8,W9,WA,WB,WC,WE,WF,WG,WI,WJ,WK,WM,WN,WO,WP,WR,WS,WT,WU,WV,WW,WX,WY,WZ,Va,Vb,Vd,Ve,Vi,Vk,Vl,Vn,Vo,Vp,Vq,Vy,V1,VC,VF,VH,VL,VM,VN,VO,VP,VQ,VR,VS,VT,VW,VZ,Uc,Ud,Uf,Uj,Uk,Um,Un,Uo,Uq,Ur,Us,Ut,Uu,Ux,Uy,U7,U8,UP,UQ,UU,Te,Tf,Th,Tj,Tk,Tn,Ts,Tt,TD,TE,TF,TG,TQ,TR,TS,TT,TU,Sc,Sf,Sg,Si,Sj,Sk,Sn,Sq,Sr, h, hr]; all_goals tactic => exact rfl))
  intro c
  (sym => (simp [yC_nm, yC_rn, yM_s, yC_gr, yC_sl, yC_fz, yC_len, yC_0, yC_1, yC_2, yC_3, yC_4, yC_15, yC_same, Za,Zb,Zd,Ze,Zf,Zg,Zh,Zk,Zl,Zm,Zu,Z2,ZF,ZH,ZK,ZO,ZP,ZR,ZS,Yq,YE,YF,YL,YP,YQ,Xe,Xf,Xk,Xo,Xp,Xw,Wp,Wq,Wr,Ws,Wv,Ww,Wy,Wz,W0,W3,W4,W5,W6,W7,W8,W9,WA,WB,WC,WE,WF,WG,WI,WJ,WK,WM,WN,WO,WP,WR,WS,WT,WU,WV,WW,WX,WY,WZ,Va,Vb,Vd,Ve,Vi,Vk,Vl,Vn,Vo,Vp,Vq,Vy,V1,VC,VF,VH,VL,VM,VN,VO,VP,VQ,VR,VS,VT,VW,VZ,Uc,Ud,Uf,Uj,Uk,Um,Un,Uo,Uq,Ur,Us,Ut,Uu,Ux,Uy,U7,U8,UP,UQ,UU,Te,Tf,Th,Tj,Tk,Tn,Ts,Tt,TD,TE,TF,TG,TQ,TR,TS,TT,TU,Sc,Sf,Sg,Si,Sj,Sk,Sn,Sq,Sr, y]; all_goals tactic => exact rfl))
theorem y73c {d k : Nat} {es es' : List (Int × Int)} {w r a : Int} {q : List Int} (h : runW progX 75 [.pt 0 0, U d, I (k : Nat)] (hY l b (encM es)) = some (I r, hY l b (encM es'))) (hr : (r ≤ w) = False) : Yd2 2 (g73c l b es d w a q .ready) (g73c l b es' d w a q .ready) k true := by
  have y : runYW progX (.fn (.yield 0) [] []) [I (k : Nat)] (g73c l b es d w a q .ready) = some (.bool true, g73c l b es' d w a q .ready) := by
    rw [runYW_eq (K := 73) (d := x73) (site := 0) (vs := [.pt 1 0, .pt 4 0, .pt 5 0, .pt 6 0, .pt 8 0]) rfl rfl (by rfl) rfl]
    (sym => (simp [yC_nm, yC_rn, yM_s, yC_gr, yC_sl, yC_fz, yC_len, yC_0, yC_1, yC_2, yC_3, yC_4, yC_15, yC_same, Za,Zb,Zd,Ze,Zf,Zg,Zh,Zk,Zl,Zm,Zu,Z2,ZF,ZH,ZK,ZO,ZP,ZR,ZS,Yq,YE,YF,YK,YL,YP,YQ,Xe,Xf,Xj,Xk,Xo,Xp,Xw,Wp,Wq,Wr,Ws,Wv,Ww,Wy,Wz,W0,W3,W4,W5,W6,W7,W8,W9,WA,WB,WC,WE,WF,WG,WI,WJ,WK,WM,WN,WO,WP,WR,WS,WT,WU,WV,WW,WX,WY,WZ,Va,Vb,Vd,Ve,Vi,Vk,Vl,Vn,Vo,Vp,Vq,Vy,V1,VC,VF,VH,VL,VM,VN,VO,VP,VQ,VR,VS,VT,VW,VZ,Uc,Ud,Uf,Uj,Uk,Um,Un,Uo,Uq,Ur,Us,Ut,Uu,Ux,Uy,U7,U8,UP,UQ,UU,Te,Tf,Th,Tj,Tk,Tn,Ts,Tt,TD,TE,TF,TG,TQ,TR,TS,TT,TU,Sc,Sf,Sg,Si,Sj,Sk,Sn,Sq,Sr, h, hr]; all_goals tactic => exact rfl))
  intro c
  (sym => (simp [yC_nm, yC_rn, yM_s, yC_gr, yC_sl, yC_fz, yC_len, yC_0, yC_1, yC_2, yC_3, yC_4, yC_15, yC_same, Za,Zb,Zd,Ze,Zf,Zg,Zh,Zk,Zl,Zm,Zu,Z2,ZF,ZH,ZK,ZO,ZP,ZR,ZS,Yq,YE,YF,YK,YL,YP,YQ,Xe,Xf,Xj,Xk,Xo,Xp,Xw,Wp,Wq,Wr,Ws,Wv,Ww,Wy,Wz,W0,W3,W4,W5,W6,W7,W8,W9,WA,WB,WC,WE,WF,WG,WI,WJ,WK,WM,WN,WO,WP,WR,WS,WT,WU,WV,WW,WX,WY,WZ,Va,Vb,Vd,Ve,Vi,Vk,Vl,Vn,Vo,Vp,Vq,Vy,V1,VC,VF,VH,VL,VM,VN,VO,VP,VQ,VR,VS,VT,VW,VZ,Uc,Ud,Uf,Uj,Uk,Um,Un,Uo,Uq,Ur,Us,Ut,Uu,Ux,Uy,U7,U8,UP,UQ,UU,Te,Tf,Th,Tj,Tk,Tn,Ts,Tt,TD,TE,TF,TG,TQ,TR,TS,TT,TU,Sc,Sf,Sg,Si,Sj,Sk,Sn,Sq,Sr, y]; all_goals tactic => exact rfl))
abbrev r73c (l : Li) (b : Nat → Nat) (es : List (Int × Int)) (d : Nat) (w : Int) (a : Int) (r : List Int) : XH := [some (.blk false (.cells true [.pt 1 0])), some (.blk false (.cells true (yC l b 2))), some (.blk true (.map true (encM es))), cU d, some (.blk true (.cells true [I w])), some (.blk false (.cells true [.sl 8 0 1 (r.length + 1)])), none, some (.blk false (.cells true [.fn (.func 73) [] [.pt 0 0, .pt 3 0, .pt 4 0, .pt 5 0, .pt 7 0]])), some (.blk true (.cells true (I a :: r.map I)))]
abbrev r73n (l : Li) (b : Nat → Nat) (es : List (Int × Int)) (d : Nat) (w : Int) (a : Int) (r : List Int) : XH := [some (.blk false (.cells true [.pt 1 0])), some (.blk false (.cells true (yC l b 2))), some (.blk true (.map true (encM es))), cU d, some (.blk true (.cells true [I w])), some (.blk false (.cells true [.sl 7 0 1 (r.length + 1)])), some (.blk false (.cells true [.fn (.func 73) [] [.pt 0 0, .pt 3 0, .pt 4 0, .pt 5 0, .pt 6 0]])), some (.blk true (.cells true (I a :: r.map I)))]
abbrev z73n (l : Li) (b : Nat → Nat) (es : List (Int × Int)) (d : Nat) (w : Int) (a : Int) (r : List Int) (c : Nat) : XH := [some (.loop 73 0 [.pt 1 0, .pt 4 0, .pt 5 0, .pt 6 0, .pt 7 0] (.done .ret)), some (.blk false (.cells true [.pt 2 0])), some (.blk false (.cells true (yC l b 3))), some (.blk true (.map true (encM es))), cU d, some (.blk true (.cells true [I w])), some (.blk false (.cells true [.sl 10 0 1 (r.length + 1)])), some (.blk false (.cells true [.fn (.func 73) [] [.pt 1 0, .pt 4 0, .pt 5 0, .pt 6 0, .pt 7 0]])), some (.blk false (.cells true [.pt 2 0])), cU c, some (.blk true (.cells true (I a :: r.map I)))]
abbrev z73c (l : Li) (b : Nat → Nat) (es : List (Int × Int)) (d : Nat) (w : Int) (a : Int) (r : List Int) (c : Nat) : XH := [some (.loop 73 0 [.pt 1 0, .pt 4 0, .pt 5 0, .pt 6 0, .pt 8 0] (.done .ret)), some (.blk false (.cells true [.pt 2 0])), some (.blk false (.cells true (yC l b 3))), some (.blk true (.map true (encM es))), cU d, some (.blk true (.cells true [I w])), some (.blk false (.cells true [.sl 11 0 1 (r.length + 1)])), none, some (.blk false (.cells true [.fn (.func 73) [] [.pt 1 0, .pt 4 0, .pt 5 0, .pt 6 0, .pt 8 0]])), some (.blk false (.cells true [.pt 2 0])), cU c, some (.blk true (.cells true (I a :: r.map I)))]
theorem l73n {d k d2 c : Nat} (hd : d < 2 ^ 10) (hk : k < 10) {es es' es2 : List (Int × Int)} {w r : Int} {a2 : Int} {q2 : List Int} (h : runW progX 75 [.pt 0 0, U d, I (k : Nat)] (hY l b (encM es)) = some (I r, hY l b (encM es'))) (hr : (r ≤ w) = True)
    (hx : runW progX 73 [.pt 0 0, .pt 3 0, .pt 4 0, .pt 5 0, .pt 7 0] (h73c l b es' (d ||| 2 ^ k) w (k : Int) []) = some (.tup [], h73c l b es2 d2 w a2 q2) ∨ runW progX 73 [.pt 0 0, .pt 3 0, .pt 4 0, .pt 5 0, .pt 7 0] (h73c l b es' (d ||| 2 ^ k) w (k : Int) []) = some (.tup [], r73c l b es2 d2 w a2 q2)) :
    Lv 8 2 c (g73n l b es d w .ready) k (z73n l b es2 d2 w a2 q2 c) := by
  have n0 := (eq_false (by omega) : ((k : Int) < 0) = False)
  have o1 := or_n hd hk
  have o2 := or_n1 hd hk
  generalize d ||| 2 ^ k = d' at *
  have y : runYW progX (.fn (.yield 0) [] []) [I (k : Nat)] (g73n l b es d w .ready) = some (.bool false, [some (.loop 73 0 [.pt 1 0, .pt 4 0, .pt 5 0, .pt 6 0, .pt 7 0] (.done .ret)), some (.blk false (.cells true [.pt 2 0])), some (.blk false (.cells true (yC l b 3))), some (.blk true (.map true (encM es2))), cU d2, some (.blk true (.cells true [I w])), some (.blk false (.cells true [.sl 8 0 1 (q2.length + 1)])), some (.blk false (.cells true [.fn (.func 73) [] [.pt 1 0, .pt 4 0, .pt 5 0, .pt 6 0, .pt 7 0]])), some (.blk true (.cells true (I a2 :: q2.map I)))]) := by
    rw [runYW_eq (K := 73) (d := x73) (site := 0) (vs := [.pt 1 0, .pt 4 0, .pt 5 0, .pt 6 0, .pt 7 0]) rfl rfl (by rfl) rfl]
    rcases hx with hx | hx
    · have hx : runW progX 73 [.pt 0 0, .pt 3 0, .pt 4 0, .pt 5 0, .pt 7 0] [some (.blk false (.cells true [.pt 1 0])), some (.blk false (.cells true (yC l b 2))), some (.blk true (.map true (encM es'))), cU d', some (.blk true (.cells true [I w])), some (.blk false (.cells true [.sl 6 0 1 1])), some (.blk true (.cells true [I (k : Nat)])), some (.blk false (.cells true [.fn (.func 73) [] [.pt 0 0, .pt 3 0, .pt 4 0, .pt 5 0, .pt 7 0]]))] = some (.tup [], h73c l b es2 d2 w a2 q2) := hx
      (sym => (simp [yC_nm, yC_rn, yM_s, yC_gr, yC_sl, yC_fz, yC_len, yC_0, yC_1, yC_2, yC_3, yC_4, yC_15, yC_same, Za,Zb,Zc,Zd,Ze,Zf,Zg,Zh,Zi,Zk,Zl,Zm,Zn,Zu,Z0,Z2,ZE,ZF,ZH,ZI,ZJ,ZK,ZL,ZM,ZN,ZO,ZP,ZQ,ZR,ZS,Yk,Yl,Yq,Yu,YE,YF,YH,YK,YL,YP,YQ,YR,YX,Xe,Xf,Xh,Xj,Xk,Xo,Xp,Xt,Xw,XV,Wc,Wg,Wn,Wp,Wq,Wr,Ws,Wt,Wu,Wv,Ww,Wy,Wz,W0,W3,W4,W5,W6,W7,W8,W9,WA,WB,WC,WE,WF,WG,WH,WI,WJ,WK,WL,WM,WN,WO,WP,WR,WS,WT,WU,WV,WW,WX,WY,WZ,Va,Vb,Vd,Ve,Vi,Vk,Vl,Vn,Vo,Vp,Vq,Vy,Vz,V0,V1,VC,VF,VG,VL,VM,VN,VO,VP,VQ,VR,VS,VT,VW,VZ,Ub,Uc,Ud,Ue,Uf,Uh,Uj,Uk,Ul,Un,Uo,Uq,Ur,Us,Ut,Uu,Uv,Uw,Ux,Uy,U1,U3,U4,U5,U6,U7,U8,UB,UC,UD,UE,UI,UJ,UK,UL,UP,UQ,UU,UV,UW,UZ,Tb,Tc,Td,Te,Tf,Tg,Tj,Tk,Tp,Ts,Tt,T5,TD,TE,TF,TG,TQ,TR,TS,TT,TV,Sb,Sc,Sf,Sg,Si,Sj,Sk,Sn,Sq,Sr, h, hr, n0, o1, o2, hx]; all_goals tactic => exact rfl))
    · have hx : runW progX 73 [.pt 0 0, .pt 3 0, .pt 4 0, .pt 5 0, .pt 7 0] [some (.blk false (.cells true [.pt 1 0])), some (.blk false (.cells true (yC l b 2))), some (.blk true (.map true (encM es'))), cU d', some (.blk true (.cells true [I w])), some (.blk false (.cells true [.sl 6 0 1 1])), some (.blk true (.cells true [I (k : Nat)])), some (.blk false (.cells true [.fn (.func 73) [] [.pt 0 0, .pt 3 0, .pt 4 0, .pt 5 0, .pt 7 0]]))] = some (.tup [], r73c l b es2 d2 w a2 q2) := hx
      (sym => (simp [yC_nm, yC_rn, yM_s, yC_gr, yC_sl, yC_fz, yC_len, yC_0, yC_1, yC_2, yC_3, yC_4, yC_15, yC_same, Za,Zb,Zc,Zd,Ze,Zf,Zg,Zh,Zi,Zk,Zl,Zm,Zn,Zu,Z0,Z2,ZE,ZF,ZH,ZI,ZJ,ZK,ZL,ZM,ZN,ZO,ZP,ZQ,ZR,ZS,Yk,Yl,Yq,Yu,YE,YF,YH,YK,YL,YP,YQ,YR,YX,Xe,Xf,Xh,Xj,Xk,Xo,Xp,Xt,Xw,XV,Wc,Wg,Wn,Wp,Wq,Wr,Ws,Wt,Wu,Wv,Ww,Wy,Wz,W0,W3,W4,W5,W6,W7,W8,W9,WA,WB,WC,WE,WF,WG,WH,WI,WJ,WK,WL,WM,WN,WO,WP,WR,WS,WT,WU,WV,WW,WX,WY,WZ,Va,Vb,Vd,Ve,Vi,Vk,Vl,Vn,Vo,Vp,Vq,Vy,Vz,V0,V1,VC,VF,VG,VL,VM,VN,VO,VP,VQ,VR,VS,VT,VW,VZ,Ub,Uc,Ud,Ue,Uf,Uh,Uj,Uk,Ul,Un,Uo,Uq,Ur,Us,Ut,Uu,Uv,Uw,Ux,Uy,U1,U3,U4,U5,U6,U7,U8,UB,UC,UD,UE,UI,UJ,UK,UL,UP,UQ,UU,UV,UW,UZ,Tb,Tc,Td,Te,Tf,Tg,Tj,Tk,Tp,Ts,Tt,T5,TD,TE,TF,TG,TQ,TR,TS,TT,TV,Sb,Sc,Sf,Sg,Si,Sj,Sk,Sn,Sq,Sr, h, hr, n0, o1, o2, hx]; all_goals tactic => exact rfl))
  refine ⟨z73n l b es2 d2 w a2 q2 c, ?_, ?_, rfl, rfl, rfl⟩
  · (sym => (simp [yC_nm, yC_rn, yM_s, yC_gr, yC_sl, yC_fz, yC_len, yC_0, yC_1, yC_2, yC_3, yC_4, yC_15, yC_same, Za,Zb,Zc,Zd,Ze,Zf,Zg,Zh,Zi,Zk,Zl,Zm,Zn,Zu,Z0,Z2,ZE,ZF,ZH,ZI,ZJ,ZK,ZL,ZM,ZN,ZO,ZP,ZQ,ZR,ZS,Yk,Yl,Yq,Yu,YE,YF,YH,YK,YL,YP,YQ,YR,YX,Xe,Xf,Xh,Xj,Xk,Xo,Xp,Xt,Xw,XV,Wc,Wg,Wn,Wp,Wq,Wr,Ws,Wt,Wu,Wv,Ww,Wy,Wz,W0,W3,W4,W5,W6,W7,W8,W9,WA,WB,WC,WE,WF,WG,WH,WI,WJ,WK,WL,WM,WN,WO,WP,WR,WS,WT,WU,WV,WW,WX,WY,WZ,Va,Vb,Vd,Ve,Vi,Vk,Vl,Vn,Vo,Vp,Vq,Vy,Vz,V0,V1,VC,VF,VG,VL,VM,VN,VO,VP,VQ,VR,VS,VT,VW,VZ,Ub,Uc,Ud,Ue,Uf,Uh,Uj,Uk,Ul,Un,Uo,Uq,Ur,Us,Ut,Uu,Uv,Uw,Ux,Uy,U1,U3,U4,U5,U6,U7,U8,UB,UC,UD,UE,UI,UJ,UK,UL,UP,UQ,UU,UV,UW,UZ,Tb,Tc,Td,Te,Tf,Tg,Tj,Tk,Tp,Ts,Tt,T5,TD,TE,TF,TG,TQ,TR,TS,TT,TV,Sb,Sc,Sf,Sg,Si,Sj,Sk,Sn,Sq,Sr, y]; all_goals tactic => exact rfl))
  · (sym => (simp [yC_nm, yC_rn, yM_s, yC_gr, yC_sl, yC_fz, yC_len, yC_0, yC_1, yC_2, yC_3, yC_4, yC_15, yC_same, Za,Zb,Zc,Zd,Ze,Zf,Zg,Zh,Zi,Zk,Zl,Zm,Zn,Zu,Z0,Z2,ZE,ZF,ZH,ZI,ZJ,ZK,ZL,ZM,ZN,ZO,ZP,ZQ,ZR,ZS,Yk,Yl,Yq,Yu,YE,YF,YH,YK,YL,YP,YQ,YR,YX,Xe,Xf,Xh,Xj,Xk,Xo,Xp,Xt,Xw,XV,Wc,Wg,Wn,Wp,Wq,Wr,Ws,Wt,Wu,Wv,Ww,Wy,Wz,W0,W3,W4,W5,W6,W7,W8,W9,WA,WB,WC,WE,WF,WG,WH,WI,WJ,WK,WL,WM,WN,WO,WP,WR,WS,WT,WU,WV,WW,WX,WY,WZ,Va,Vb,Vd,Ve,Vi,Vk,Vl,Vn,Vo,Vp,Vq,Vy,Vz,V0,V1,VC,VF,VG,VL,VM,VN,VO,VP,VQ,VR,VS,VT,VW,VZ,Ub,Uc,Ud,Ue,Uf,Uh,Uj,Uk,Ul,Un,Uo,Uq,Ur,Us,Ut,Uu,Uv,Uw,Ux,Uy,U1,U3,U4,U5,U6,U7,U8,UB,UC,UD,UE,UI,UJ,UK,UL,UP,UQ,UU,UV,UW,UZ,Tb,Tc,Td,Te,Tf,Tg,Tj,Tk,Tp,Ts,Tt,T5,TD,TE,TF,TG,TQ,TR,TS,TT,TV,Sb,Sc,Sf,Sg,Si,Sj,Sk,Sn,Sq,Sr]; all_goals tactic => exact rfl))
theorem l73c {d k d2 c : Nat} (hd : d < 2 ^ 10) (hk : k < 10) {es es' es2 : List (Int × Int)} {w r a : Int} {q : List Int} {a2 : Int} {q2 : List Int} (hq : q.length ≤ 10) (h : runW progX 75 [.pt 0 0, U d, I (k : Nat)] (hY l b (encM es)) = some (I r, hY l b (encM es'))) (hr : (r ≤ w) = True)
    (hx : runW progX 73 [.pt 0 0, .pt 3 0, .pt 4 0, .pt 5 0, .pt 7 0] (h73c l b es' (d ||| 2 ^ k) w a (q ++ [(k : Int)])) = some (.tup [], h73c l b es2 d2 w a2 q2) ∨ runW progX 73 [.pt 0 0, .pt 3 0, .pt 4 0, .pt 5 0, .pt 7 0] (h73c l b es' (d ||| 2 ^ k) w a (q ++ [(k : Int)])) = some (.tup [], r73c l b es2 d2 w a2 q2)) :
    Lv 9 2 c (g73c l b es d w a q .ready) k (z73c l b es2 d2 w a2 q2 c) := by
  have n0 := (eq_false (by omega) : ((k : Int) < 0) = False)
  have o1 := or_n hd hk
  have o2 := or_n1 hd hk
  have b1 : ((q.length + 1 + 1) * 8 ≤ 1099511627776) = True := eq_true (by omega)
  have b2 : (q.length + 1 + 1 ≤ 1099511627776) = True := eq_true (by omega)
  generalize d ||| 2 ^ k = d' at *
  have y : runYW progX (.fn (.yield 0) [] []) [I (k : Nat)] (g73c l b es d w a q .ready) = some (.bool false, [some (.loop 73 0 [.pt 1 0, .pt 4 0, .pt 5 0, .pt 6 0, .pt 8 0] (.done .ret)), some (.blk false (.cells true [.pt 2 0])), some (.blk false (.cells true (yC l b 3))), some (.blk true (.map true (encM es2))), cU d2, some (.blk true (.cells true [I w])), some (.blk false (.cells true [.sl 9 0 1 (q2.length + 1)])), none, some (.blk false (.cells true [.fn (.func 73) [] [.pt 1 0, .pt 4 0, .pt 5 0, .pt 6 0, .pt 8 0]])), some (.blk true (.cells true (I a2 :: q2.map I)))]) := by
    rw [runYW_eq (K := 73) (d := x73) (site := 0) (vs := [.pt 1 0, .pt 4 0, .pt 5 0, .pt 6 0, .pt 8 0]) rfl rfl (by rfl) rfl]
    unfold h73c r73c at hx
    simp only [List.map_append, List.map_cons, List.map_nil, List.length_append, List.length_cons, List.length_nil, Nat.zero_add] at hx
    rcases hx with hx | hx
    · (sym => (simp [yC_nm, yC_rn, yM_s, yC_gr, yC_sl, yC_fz, yC_len, yC_0, yC_1, yC_2, yC_3, yC_4, yC_15, yC_same, Za,Zb,Zc,Zd,Ze,Zf,Zg,Zh,Zi,Zk,Zl,Zm,Zn,Zu,Z0,Z2,ZE,ZF,ZH,ZI,ZJ,ZK,ZL,ZM,ZN,ZO,ZP,ZQ,ZR,ZS,Yk,Yl,Yq,Yu,YE,YF,YH,YK,YL,YP,YQ,YR,YX,Xe,Xf,Xh,Xj,Xk,Xo,Xp,Xt,Xw,XV,Wc,Wg,Wn,Wp,Wq,Wr,Ws,Wt,Wu,Wv,Ww,Wy,Wz,W0,W3,W4,W5,W6,W7,W8,W9,WA,WB,WC,WE,WF,WG,WH,WI,WJ,WK,WL,WM,WN,WO,WP,WQ,WR,WS,WT,WU,WV,WW,WX,WY,WZ,Va,Vb,Vd,Ve,Vi,Vk,Vl,Vn,Vo,Vp,Vq,Vy,Vz,V0,V1,VC,VF,VG,VL,VM,VN,VO,VP,VQ,VR,VS,VT,VU,VW,VZ,Ub,Uc,Ud,Ue,Uf,Uh,Uj,Uk,Ul,Un,Uo,Uq,Ur,Us,Ut,Uu,Uv,Uw,Ux,Uy,U1,U3,U4,U5,U6,U7,U8,UB,UC,UD,UE,UI,UJ,UK,UM,UN,UP,UQ,UU,UV,UW,UZ,Ta,Tb,Tc,Te,Tf,Tg,Tj,Tk,Tp,Ts,Tt,Tw,T5,TD,TE,TF,TG,TQ,TR,TS,TT,TV,Sb,Sc,Sf,Sg,Si,Sj,Sk,Sn,Sq,Sr, h, hr, n0, o1, o2, hx, b1, b2]; all_goals tactic => exact rfl))
    · (sym => (simp [yC_nm, yC_rn, yM_s, yC_gr, yC_sl, yC_fz, yC_len, yC_0, yC_1, yC_2, yC_3, yC_4, yC_15, yC_same, Za,Zb,Zc,Zd,Ze,Zf,Zg,Zh,Zi,Zk,Zl,Zm,Zn,Zu,Z0,Z2,ZE,ZF,ZH,ZI,ZJ,ZK,ZL,ZM,ZN,ZO,ZP,ZQ,ZR,ZS,Yk,Yl,Yq,Yu,YE,YF,YH,YK,YL,YP,YQ,YR,YX,Xe,Xf,Xh,Xj,Xk,Xo,Xp,Xt,Xw,XV,Wc,Wg,Wn,Wp,Wq,Wr,Ws,Wt,Wu,Wv,Ww,Wy,Wz,W0,W3,W4,W5,W6,W7,W8,W9,WA,WB,WC,WE,WF,WG,WH,WI,WJ,WK,WL,WM,WN,WO,WP,WQ,WR,WS,WT,WU,WV,WW,WX,WY,WZ,Va,Vb,Vd,Ve,Vi,Vk,Vl,Vn,Vo,Vp,Vq,Vy,Vz,V0,V1,VC,VF,VG,VL,VM,VN,VO,VP,VQ,VR,VS,VT,VU,VW,VZ,Ub,Uc,Ud,Ue,Uf,Uh,Uj,Uk,Ul,Un,Uo,Uq,Ur,Us,Ut,Uu,Uv,Uw,Ux,Uy,U1,U3,U4,U5,U6,U7,U8,UB,UC,UD,UE,UI,UJ,UK,UM,UN,UP,UQ,UU,UV,UW,UZ,Ta,Tb,Tc,Te,Tf,Tg,Tj,Tk,Tp,Ts,Tt,Tw,T5,TD,TE,TF,TG,TQ,TR,TS,TT,TV,Sb,Sc,Sf,Sg,Si,Sj,Sk,Sn,Sq,Sr, h, hr, n0, o1, o2, hx, b1, b2]; all_goals tactic => exact rfl))
  refine ⟨z73c l b es2 d2 w a2 q2 c, ?_, ?_, rfl, rfl, rfl⟩
  · (sym => (simp [yC_nm, yC_rn, yM_s, yC_gr, yC_sl, yC_fz, yC_len, yC_0, yC_1, yC_2, yC_3, yC_4, yC_15, yC_same, Za,Zb,Zc,Zd,Ze,Zf,Zg,Zh,Zi,Zk,Zl,Zm,Zn,Zu,Z0,Z2,ZE,ZF,ZH,ZI,ZJ,ZK,ZL,ZM,ZN,ZO,ZP,ZQ,ZR,ZS,Yk,Yl,Yq,Yu,YE,YF,YH,YK,YL,YP,YQ,YR,YX,Xe,Xf,Xh,Xj,Xk,Xo,Xp,Xt,Xw,XV,Wc,Wg,Wn,Wp,Wq,Wr,Ws,Wt,Wu,Wv,Ww,Wy,Wz,W0,W3,W4,W5,W6,W7,W8,W9,WA,WB,WC,WE,WF,WG,WH,WI,WJ,WK,WL,WM,WN,WO,WP,WQ,WR,WS,WT,WU,WV,WW,WX,WY,WZ,Va,Vb,Vd,Ve,Vi,Vk,Vl,Vn,Vo,Vp,Vq,Vy,Vz,V0,V1,VC,VF,VG,VL,VM,VN,VO,VP,VQ,VR,VS,VT,VU,VW,VZ,Ub,Uc,Ud,Ue,Uf,Uh,Uj,Uk,Ul,Un,Uo,Uq,Ur,Us,Ut,Uu,Uv,Uw,Ux,Uy,U1,U3,U4,U5,U6,U7,U8,UB,UC,UD,UE,UI,UJ,UK,UM,UN,UP,UQ,UU,UV,UW,UZ,Ta,Tb,Tc,Te,Tf,Tg,Tj,Tk,Tp,Ts,Tt,Tw,T5,TD,TE,TF,TG,TQ,TR,TS,TT,TV,Sb,Sc,Sf,Sg,Si,Sj,Sk,Sn,Sq,Sr, y]; all_goals tactic => exact rfl))
  · (sym => (simp [yC_nm, yC_rn, yM_s, yC_gr, yC_sl, yC_fz, yC_len, yC_0, yC_1, yC_2, yC_3, yC_4, yC_15, yC_same, Za,Zb,Zc,Zd,Ze,Zf,Zg,Zh,Zi,Zk,Zl,Zm,Zn,Zu,Z0,Z2,ZE,ZF,ZH,ZI,ZJ,ZK,ZL,ZM,ZN,ZO,ZP,ZQ,ZR,ZS,Yk,Yl,Yq,Yu,YE,YF,YH,YK,YL,YP,YQ,YR,YX,Xe,Xf,Xh,Xj,Xk,Xo,Xp,Xt,Xw,XV,Wc,Wg,Wn,Wp,Wq,Wr,Ws,Wt,Wu,Wv,Ww,Wy,Wz,W0,W3,W4,W5,W6,W7,W8,W9,WA,WB,WC,WE,WF,WG,WH,WI,WJ,WK,WL,WM,WN,WO,WP,WQ,WR,WS,WT,WU,WV,WW,WX,WY,WZ,Va,Vb,Vd,Ve,Vi,Vk,Vl,Vn,Vo,Vp,Vq,Vy,Vz,V0,V1,VC,VF,VG,VL,VM,VN,VO,VP,VQ,VR,VS,VT,VU,VW,VZ,Ub,Uc,Ud,Ue,Uf,Uh,Uj,Uk,Ul,Un,Uo,Uq,Ur,Us,Ut,Uu,Uv,Uw,Ux,Uy,U1,U3,U4,U5,U6,U7,U8,UB,UC,UD,UE,UI,UJ,UK,UM,UN,UP,UQ,UU,UV,UW,UZ,Ta,Tb,Tc,Te,Tf,Tg,Tj,Tk,Tp,Ts,Tt,Tw,T5,TD,TE,TF,TG,TQ,TR,TS,TT,TV,Sb,Sc,Sf,Sg,Si,Sj,Sk,Sn,Sq,Sr]; all_goals tactic => exact rfl))
end
end Go.Proofs.YtpbeclkpohehgaaDoor
namespace Go.Proofs.YtpbeclkpohehgaaDoor
open Go Go.DL
set_option maxRecDepth 100000
set_option maxHeartbeats 4000000

theorem pick_some {l : Li} {b : Nat → Nat} {w : Int} {d k : Nat} (hk : k < l.ls.length) (hg : goodB l b w d k = true) (hno : ∀ j, j < k → goodB l b w d j = false) : pickF l b w d = some k := by
  rcases range_find (P := goodB l b w d) (n := l.ls.length) with ⟨k', h1, h2, h3, h4⟩ | ⟨_, h2⟩
  · have : k' = k := by
      rcases Nat.lt_trichotomy k' k with h | h | h
      · rw [hno k' h] at h3; simp at h3
      · exact h
      · rw [h4 k h] at hg; simp at hg
    rw [← this]; exact h1
  · rw [h2 k hk] at hg; simp at hg
theorem pick_none {l : Li} {b : Nat → Nat} {w : Int} {d : Nat} (hno : ∀ j, j < l.ls.length → goodB l b w d j = false) : pickF l b w d = none := by
  rcases range_find (P := goodB l b w d) (n := l.ls.length) with ⟨k', _, h2, h3, _⟩ | ⟨h1, _⟩
  · rw [hno k' h2] at h3; simp at h3
  · exact h1
def ofN (ks : List Nat) : List Int := ks.map Int.ofNat
theorem ofN_c (k : Nat) (ks : List Nat) : ofN (k :: ks) = (k : Int) :: ofN ks := rfl
theorem ofN_0 : ofN [] = [] := rfl
section
variable {l : Li} {b : Nat → Nat}
abbrev t73c (l : Li) (b : Nat → Nat) (es : List (Int × Int)) (d : Nat) (w : Int) (a : Int) (r : List Int) (s : LSt) (c : Nat) : XH := [some (.loop 73 0 [.pt 1 0, .pt 4 0, .pt 5 0, .pt 6 0, .pt 8 0] s), some (.blk false (.cells true [.pt 2 0])), some (.blk false (.cells true (yC l b 3))), some (.blk true (.map true (encM es))), cU d, some (.blk true (.cells true [I w])), some (.blk false (.cells true [.sl 7 0 1 (r.length + 1)])), some (.blk true (.cells true (I a :: r.map I))), some (.blk false (.cells true [.fn (.func 73) [] [.pt 1 0, .pt 4 0, .pt 5 0, .pt 6 0, .pt 8 0]])), some (.blk false (.cells true [.pt 2 0])), cU c]
abbrev t73n (l : Li) (b : Nat → Nat) (es : List (Int × Int)) (d : Nat) (w : Int) (s : LSt) (c : Nat) : XH := [some (.loop 73 0 [.pt 1 0, .pt 4 0, .pt 5 0, .pt 6 0, .pt 7 0] s), some (.blk false (.cells true [.pt 2 0])), some (.blk false (.cells true (yC l b 3))), some (.blk true (.map true (encM es))), cU d, some (.blk true (.cells true [I w])), some (.blk true (.cells true [.nilsl])), some (.blk false (.cells true [.fn (.func 73) [] [.pt 1 0, .pt 4 0, .pt 5 0, .pt 6 0, .pt 7 0]])), some (.blk false (.cells true [.pt 2 0])), cU c]
theorem w73c (g : Good l) (p : Prec l.ls.length b) (w : Int) : ∀ (m d : Nat), d < 2 ^ l.ls.length → l.ls.length - pop d l.ls.length = m → ∀ es, Memo l b es → ∀ (a : Int) (q : List Int), q.length + m ≤ 10 →
    ∃ es2 d2, runW progX 73 [.pt 0 0, .pt 3 0, .pt 4 0, .pt 5 0, .pt 7 0] (h73c l b es d w a q) = some (.tup [], h73c l b es2 d2 w a (q ++ ofN (bstF l b w d))) ∨ runW progX 73 [.pt 0 0, .pt 3 0, .pt 4 0, .pt 5 0, .pt 7 0] (h73c l b es d w a q) = some (.tup [], r73c l b es2 d2 w a (q ++ ofN (bstF l b w d))) := by
  have hn := g.few
  have hb : ∀ k, b k < 2 ^ 10 := fun k => lt_10 (p.lt k) hn
  intro m
  induction m using Nat.strongRecOn with
  | ind m ih =>
    intro d hd hm es he a q hq
    have hr := next_rule (n := 9) (p := 2) (d := d) hn hb (lt_10 hd hn) (fun es => g73c l b es d w a q .ready) (fun es => home73c es d w a q .ready) (fun k es1 => Memo l b es1 ∧ ∀ j, j < k → goodB l b w d j = false)
      (fun X => ∃ es2 d2, X = z73c l b es2 d2 w a (q ++ ofN (bstF l b w d)) d) es ⟨he, fun j hj => by omega⟩
      (by
        rintro k es1 hk ⟨he1, hno⟩ hcb
        have hpo := (pop_or (can_bit hcb) l.ls.length).1 hk
        have hle := pop_le (d ||| 2 ^ k) l.ls.length
        obtain ⟨es2, he2, e72⟩ := w72 g p _ (d ||| 2 ^ k) (or_lt hd hk) rfl es1 he1
        have e75 := w75 g hd hk e72
        by_cases hw : wthF l b d k ≤ w
        · have hg : goodB l b w d k = true := by unfold goodB; rw [hcb, decide_eq_true hw]; rfl
          have hbs := bst_some (pick_some hk hg hno)
          obtain ⟨es3, d3, hx⟩ := ih (l.ls.length - pop (d ||| 2 ^ k) l.ls.length) (by omega) (d ||| 2 ^ k) (or_lt hd hk) rfl es2 he2 a (q ++ [(k : Int)]) (by simp; omega)
          have eq : q ++ [(k : Int)] ++ ofN (bstF l b w (d ||| 2 ^ k)) = q ++ ofN (bstF l b w d) := by rw [hbs.1, ofN_c]; simp
          rw [eq] at hx
          exact .inr ⟨_, l73c (lt_10 hd hn) (by omega) (by omega) e75 (eq_true hw) hx, es3, d3, rfl⟩
        · refine .inl ⟨es2, y73c e75 (eq_false hw), he2, fun j hj => ?_⟩
          by_cases hjk : j = k
          · subst hjk; unfold goodB; rw [decide_eq_false hw, Bool.and_false]
          · exact hno j (by omega))
      (by
        rintro k es1 hk ⟨he1, hno⟩ hcb
        refine ⟨he1, fun j hj => ?_⟩
        by_cases hjk : j = k
        · subst hjk; unfold goodB; rw [hcb, Bool.false_and]
        · exact hno j (by omega))
    have e74 := w74 (l := l) (b := b) (encM es) d
    rcases hr with ⟨es1, ⟨_, hno⟩, hr⟩ | ⟨X, ⟨es2, d2, rfl⟩, hr⟩
    · refine ⟨es1, d, .inl ?_⟩
      have hr : runW progX 105 [.fn (.yield 0) [] [], .pt 9 0, .pt 10 0] (t73c l b es d w a q .ready d) = some (.tup [], t73c l b es1 d w a q .ready d) := hr
      rw [(bst_none (pick_none hno)).1, ofN_0, List.append_nil]
      rw [r73 (by simp)]; unfold x73; dsimp only
      (sym => (simp [yC_nm, yC_rn, yM_s, yC_gr, yC_sl, yC_fz, yC_len, yC_0, yC_1, yC_2, yC_3, yC_4, yC_15, yC_same, Za,Zb,Zf,Zg,Zj,Zl,Zm,ZE,ZM,ZN,ZR,ZS,YE,YH,YK,YL,YP,YQ,Xe,Xh,Xj,Xk,Xo,Xp,Xt,Xw,XV,XX,Wp,Wq,Wr,Ws,Wv,Ww,Wx,Wy,Wz,W0,W3,W4,W5,W6,W7,W8,W9,WA,WB,WC,WE,WF,WG,WH,WI,WJ,WK,WL,WM,WN,WO,WP,WQ,WR,WS,WT,WU,WV,WW,WX,WY,Vi,Vk,Vl,Vn,Vo,Vp,Vq,Vv,Vw,Vx,Vz,V0,V1,V2,V4,V6,VB,VK,VL,VM,VN,VO,VP,VQ,VR,VS,VT,VW,VZ,Uj,Uk,Uq,Ur,Us,Ut,Uu,Ux,Uy,U1,U2,UP,UQ,UU,Tf,Tj,Tk,Tn,Tp,Ts,Tt,TD,TE,TH,TK,TL,TM,TN,TO,TP,Sc,Sn,Sq,Sr, e74, hr]; all_goals tactic => exact rfl))
    · refine ⟨es2, d2, .inr ?_⟩
      have hr : runW progX 105 [.fn (.yield 0) [] [], .pt 9 0, .pt 10 0] (t73c l b es d w a q .ready d) = some (.tup [], z73c l b es2 d2 w a (q ++ ofN (bstF l b w d)) d) := hr
      generalize q ++ ofN (bstF l b w d) = q2 at *
      rw [r73 (by simp)]; unfold x73; dsimp only
      (sym => (simp [yC_nm, yC_rn, yM_s, yC_gr, yC_sl, yC_fz, yC_len, yC_0, yC_1, yC_2, yC_3, yC_4, yC_15, yC_same, Za,Zb,Zf,Zg,Zj,Zl,Zm,ZE,ZM,ZN,ZR,ZS,YE,YH,YK,YL,YP,YQ,Xe,Xh,Xj,Xk,Xo,Xp,Xt,Xw,XV,XX,Wp,Wq,Wr,Ws,Wv,Ww,Wx,Wy,Wz,W0,W3,W4,W5,W6,W7,W8,W9,WA,WB,WC,WE,WF,WG,WH,WI,WJ,WK,WL,WM,WN,WO,WP,WQ,WR,WS,WT,WU,WV,WW,WX,WY,Vi,Vk,Vl,Vn,Vo,Vp,Vq,Vv,Vw,Vx,Vz,V0,V1,V2,V4,V6,VB,VK,VL,VM,VN,VO,VP,VQ,VR,VS,VT,VW,VZ,Uj,Uk,Uq,Ur,Us,Ut,Uu,Ux,Uy,U1,U2,UP,UQ,UU,Tf,Tj,Tk,Tn,Tp,Ts,Tt,TD,TE,TH,TK,TL,TM,TN,TO,TP,Sc,Sn,Sq,Sr, e74, hr]; all_goals tactic => exact rfl))
theorem w73n (g : Good l) (p : Prec l.ls.length b) (w : Int) {d : Nat} (hd : d < 2 ^ l.ls.length) {es : List (Int × Int)} (he : Memo l b es) :
    ∃ es2 d2, (bstF l b w d = [] ∧ runW progX 73 [.pt 0 0, .pt 3 0, .pt 4 0, .pt 5 0, .pt 6 0] (h73n l b es d w) = some (.tup [], h73n l b es2 d2 w)) ∨ ∃ k ks, bstF l b w d = k :: ks ∧ runW progX 73 [.pt 0 0, .pt 3 0, .pt 4 0, .pt 5 0, .pt 6 0] (h73n l b es d w) = some (.tup [], r73n l b es2 d2 w (k : Int) (ofN ks)) := by
  have hn := g.few
  have hb : ∀ k, b k < 2 ^ 10 := fun k => lt_10 (p.lt k) hn
  have hr := next_rule (n := 8) (p := 2) (d := d) hn hb (lt_10 hd hn) (fun es => g73n l b es d w .ready) (fun es => home73n es d w .ready) (fun k es1 => Memo l b es1 ∧ ∀ j, j < k → goodB l b w d j = false)
    (fun X => ∃ es2 d2 k ks, bstF l b w d = k :: ks ∧ X = z73n l b es2 d2 w (k : Int) (ofN ks) d) es ⟨he, fun j hj => by omega⟩
    (by
      rintro k es1 hk ⟨he1, hno⟩ hcb
      have hpo := (pop_or (can_bit hcb) l.ls.length).1 hk
      have hle := pop_le (d ||| 2 ^ k) l.ls.length
      obtain ⟨es2, he2, e72⟩ := w72 g p _ (d ||| 2 ^ k) (or_lt hd hk) rfl es1 he1
      have e75 := w75 g hd hk e72
      by_cases hw : wthF l b d k ≤ w
      · have hg : goodB l b w d k = true := by unfold goodB; rw [hcb, decide_eq_true hw]; rfl
        have hbs := bst_some (pick_some hk hg hno)
        obtain ⟨es3, d3, hx⟩ := w73c g p w _ (d ||| 2 ^ k) (or_lt hd hk) rfl es2 he2 (k : Int) [] (by simp; omega)
        exact .inr ⟨_, l73n (lt_10 hd hn) (by omega) e75 (eq_true hw) hx, es3, d3, k, _, hbs.1, rfl⟩
      · refine .inl ⟨es2, y73n e75 (eq_false hw), he2, fun j hj => ?_⟩
        by_cases hjk : j = k
        · subst hjk; unfold goodB; rw [decide_eq_false hw, Bool.and_false]
        · exact hno j (by omega))
    (by
      rintro k es1 hk ⟨he1, hno⟩ hcb
      refine ⟨he1, fun j hj => ?_⟩
      by_cases hjk : j = k
      · subst hjk; unfold goodB; rw [hcb, Bool.false_and]
      · exact hno j (by omega))
  have e74 := w74 (l := l) (b := b) (encM es) d
  rcases hr with ⟨es1, ⟨_, hno⟩, hr⟩ | ⟨X, ⟨es2, d2, k, ks, hbs, rfl⟩, hr⟩
  · refine ⟨es1, d, .inl ⟨(bst_none (pick_none hno)).1, ?_⟩⟩
    have hr : runW progX 105 [.fn (.yield 0) [] [], .pt 8 0, .pt 9 0] (t73n l b es d w .ready d) = some (.tup [], t73n l b es1 d w .ready d) := hr
    rw [r73 (by simp)]; unfold x73; dsimp only
    (sym => (simp [yC_nm, yC_rn, yM_s, yC_gr, yC_sl, yC_fz, yC_len, yC_0, yC_1, yC_2, yC_3, yC_4, yC_15, yC_same, Za,Zb,Zf,Zg,Zj,Zl,Zm,ZE,ZM,ZN,ZR,ZS,YE,YH,YK,YL,YP,YQ,Xe,Xh,Xj,Xk,Xo,Xp,Xt,Xw,XV,XX,Wp,Wq,Wr,Ws,Wv,Ww,Wx,Wy,Wz,W0,W3,W4,W5,W6,W7,W8,W9,WA,WB,WC,WE,WF,WG,WH,WI,WJ,WK,WM,WN,WO,WP,WR,WS,WT,WU,WV,WW,WX,WY,Vi,Vk,Vl,Vn,Vo,Vp,Vq,Vv,Vw,Vx,Vz,V0,V1,V2,V4,V6,VB,VK,VL,VM,VN,VO,VP,VQ,VR,VS,VT,VW,VZ,Uj,Uk,Uq,Ur,Us,Ut,Uu,Ux,Uy,U1,U2,UP,UQ,UU,Tf,Tj,Tk,Tn,Tp,Ts,Tt,TD,TE,TH,TK,TL,TM,TN,TO,TP,Sc,Sn,Sq,Sr, e74, hr]; all_goals tactic => exact rfl))
  · refine ⟨es2, d2, .inr ⟨k, ks, hbs, ?_⟩⟩
    have hr : runW progX 105 [.fn (.yield 0) [] [], .pt 8 0, .pt 9 0] (t73n l b es d w .ready d) = some (.tup [], z73n l b es2 d2 w (k : Int) (ofN ks) d) := hr
    rw [r73 (by simp)]; unfold x73; dsimp only
    (sym => (simp [yC_nm, yC_rn, yM_s, yC_gr, yC_sl, yC_fz, yC_len, yC_0, yC_1, yC_2, yC_3, yC_4, yC_15, yC_same, Za,Zb,Zf,Zg,Zj,Zl,Zm,ZE,ZM,ZN,ZR,ZS,YE,YH,YK,YL,YP,YQ,Xe,Xh,Xj,Xk,Xo,Xp,Xt,Xw,XV,XX,Wp,Wq,Wr,Ws,Wv,Ww,Wx,Wy,Wz,W0,W3,W4,W5,W6,W7,W8,W9,WA,WB,WC,WE,WF,WG,WH,WI,WJ,WK,WM,WN,WO,WP,WR,WS,WT,WU,WV,WW,WX,WY,Vi,Vk,Vl,Vn,Vo,Vp,Vq,Vv,Vw,Vx,Vz,V0,V1,V2,V4,V6,VB,VK,VL,VM,VN,VO,VP,VQ,VR,VS,VT,VW,VZ,Uj,Uk,Uq,Ur,Us,Ut,Uu,Ux,Uy,U1,U2,UP,UQ,UU,Tf,Tj,Tk,Tn,Tp,Ts,Tt,TD,TE,TH,TK,TL,TM,TN,TO,TP,Sc,Sn,Sq,Sr, e74, hr]; all_goals tactic => exact rfl))
end
end Go.Proofs.YtpbeclkpohehgaaDoor
namespace Go.Proofs.YtpbeclkpohehgaaDoor
open Go Go.DL
set_option maxRecDepth 100000
set_option maxHeartbeats 4000000

/-- The least worst of a line, and the best order. -/
def minW (l : Li) : Int := rstF l (behF l.ts) 0
def bestO (l : Li) : List Nat := bstF l (behF l.ts) (minW l) 0
def bestR (l : Li) : Option (AV × XH) := if checkL l = 0 then some (.tup [rI (ofN (bestO l)), I (minW l), I 0], []) else some (.tup [.fs [], I 0, I (checkL l)], [])
theorem w29 (l : Li) (hf : l.Fit) : runW progX 29 [.agg l.c] [] = bestR l := by
  have e52 := w52 l hf
  unfold w52R at e52
  unfold bestR
  by_cases hc : checkL l = 0
  · rw [if_pos hc]
    rw [if_pos hc] at e52
    have g := good_of hc
    have hn := g.few
    have p := g.prec
    unfold bestO minW
    generalize behF l.ts = b at *
    obtain ⟨es1, he1, e72⟩ := w72 g p _ 0 (Nat.two_pow_pos _) rfl [] (memo_0 l b)
    have e72 : runW progX 72 [.pt 0 0, .int .u64 0] [some (.blk false (.cells true (yC l b 1))), some (.blk true (.map true []))] = some (I (rstF l b 0), hY l b (encM es1)) := e72
    generalize rstF l b 0 = w at *
    obtain ⟨es2, d2, hx⟩ := w73n g p w (d := 0) (Nat.two_pow_pos _) he1
    rcases hx with ⟨h1, e73⟩ | ⟨k, ks, h1, e73⟩
    · have e73 : runW progX 73 [.pt 0 0, .pt 3 0, .pt 4 0, .pt 5 0, .pt 6 0] [some (.blk false (.cells true [.pt 1 0])), some (.blk false (.cells true (yC l b 2))), some (.blk true (.map true (encM es1))), some (.blk true (.cells true [.int .u64 0])), some (.blk true (.cells true [I w])), some (.blk true (.cells true [.nilsl])), some (.blk false (.cells true [.fn (.func 73) [] [.pt 0 0, .pt 3 0, .pt 4 0, .pt 5 0, .pt 6 0]]))] = some (.tup [], h73n l b es2 d2 w) := e73
      rw [h1, ofN_0]
      rw [r29 (by simp)]; unfold x29; dsimp only
      (sym => (simp [yC_nm, yC_rn, yM_s, yC_gr, yC_sl, yC_fz, yC_len, yC_0, yC_1, yC_2, yC_3, yC_4, yC_15, yC_same, Za,Zb,Zc,Zd,Ze,Zf,Zg,Zh,Zi,Zj,Zl,Zm,Zn,Zu,Zv,Zw,Zy,Z2,ZB,ZE,ZF,ZH,ZI,ZJ,ZK,ZL,ZM,ZN,ZR,ZS,Yg,Yo,YE,YG,YH,YJ,YL,YP,YR,YU,YV,YX,YY,Xa,Xb,Xc,Xd,Xe,Xg,Xh,Xi,Xj,Xk,Xn,Xo,Xq,Xt,Xv,Xw,Xx,X0,XJ,XL,XM,XO,XP,XU,XV,XW,XY,Wc,We,Wg,Wh,Wj,Wk,Wl,Wn,Wp,Wq,Wr,Ws,Wt,Wu,Wv,Ww,Wx,Wy,Wz,W0,W3,W4,W6,W7,W8,W9,WA,WB,WC,WE,WF,WG,WI,WJ,WK,WM,WN,WO,WS,WT,WV,WW,WX,WY,WZ,Va,Vf,Vg,Vh,Vi,Vj,Vk,Vl,Vn,Vo,Vp,Vq,Vs,Vt,Vu,Vw,Vx,Vz,V0,V1,V2,V5,V6,V7,V8,V9,VA,VB,VF,VG,VH,VK,VL,VM,VN,VO,VP,VR,VS,VT,VU,VW,VZ,Ub,Uc,Ud,Ue,Uf,Ug,Uh,Uj,Uk,Ul,Um,Un,Uo,Uq,Ur,Us,Ut,Uu,Uv,Uw,Ux,Uy,Uz,U0,U1,U2,U3,U9,UA,UP,UQ,UT,UU,UV,UW,UZ,Te,Tf,Tg,Th,Tk,Tm,Ts,Tt,Tw,Tx,Tz,TC,Sb,Sc,Sd,Se,Sn,Sq,Sr, e52, e72, e73]; all_goals tactic => exact rfl))
    · have e73 : runW progX 73 [.pt 0 0, .pt 3 0, .pt 4 0, .pt 5 0, .pt 6 0] [some (.blk false (.cells true [.pt 1 0])), some (.blk false (.cells true (yC l b 2))), some (.blk true (.map true (encM es1))), some (.blk true (.cells true [.int .u64 0])), some (.blk true (.cells true [I w])), some (.blk true (.cells true [.nilsl])), some (.blk false (.cells true [.fn (.func 73) [] [.pt 0 0, .pt 3 0, .pt 4 0, .pt 5 0, .pt 6 0]]))] = some (.tup [], r73n l b es2 d2 w (k : Int) (ofN ks)) := e73
      rw [h1, ofN_c]
      rw [r29 (by simp)]; unfold x29; dsimp only
      (sym => (simp [yC_nm, yC_rn, yM_s, yC_gr, yC_sl, yC_fz, yC_len, yC_0, yC_1, yC_2, yC_3, yC_4, yC_15, yC_same, Za,Zb,Zc,Zd,Ze,Zf,Zg,Zh,Zi,Zj,Zl,Zm,Zn,Zu,Zv,Zw,Zy,Z2,ZB,ZE,ZF,ZH,ZI,ZJ,ZK,ZL,ZM,ZN,ZR,ZS,Yg,Yo,YE,YG,YH,YJ,YL,YP,YR,YU,YV,YX,YY,Xa,Xb,Xc,Xd,Xe,Xg,Xh,Xi,Xj,Xk,Xn,Xo,Xq,Xt,Xv,Xw,Xx,X0,XJ,XL,XM,XO,XP,XU,XV,XW,XY,Wc,We,Wg,Wh,Wj,Wk,Wl,Wn,Wp,Wq,Wr,Ws,Wt,Wu,Wv,Ww,Wx,Wy,Wz,W0,W3,W4,W6,W7,W8,W9,WA,WB,WC,WE,WF,WG,WI,WJ,WK,WM,WN,WO,WS,WT,WV,WW,WX,WY,WZ,Va,Vf,Vg,Vh,Vi,Vj,Vk,Vl,Vn,Vo,Vp,Vq,Vs,Vt,Vu,Vw,Vx,Vz,V0,V1,V2,V5,V6,V7,V8,V9,VA,VB,VF,VG,VH,VK,VL,VM,VN,VO,VP,VR,VS,VT,VU,VW,VZ,Ub,Uc,Ud,Ue,Uf,Ug,Uh,Uj,Uk,Ul,Um,Un,Uo,Uq,Ur,Us,Ut,Uu,Uv,Uw,Ux,Uy,Uz,U0,U1,U2,U3,U9,UA,UP,UQ,UT,UU,UV,UW,UZ,Te,Tf,Tg,Th,Tk,Tm,Ts,Tt,Tw,Tx,Tz,TC,Sb,Sc,Sd,Se,Sn,Sq,Sr, e52, e72, e73]; all_goals tactic => exact rfl))
  · rw [if_neg hc]
    rw [if_neg hc] at e52
    have g := eq_false hc
    rw [r29 (by simp)]; unfold x29; dsimp only
    (sym => (simp [yC_nm, yC_rn, yM_s, yC_gr, yC_sl, yC_fz, yC_len, yC_0, yC_1, yC_2, yC_3, yC_4, yC_15, yC_same, Za,Zb,Zc,Zd,Ze,Zf,Zg,Zh,Zi,Zj,Zl,Zm,Zn,Zu,Zv,Zw,Zy,Z2,ZB,ZE,ZF,ZH,ZI,ZJ,ZK,ZL,ZM,ZN,ZR,ZS,Yg,Yo,YE,YG,YH,YJ,YL,YP,YR,YU,YV,YX,YY,Xa,Xb,Xc,Xd,Xe,Xg,Xh,Xi,Xj,Xk,Xn,Xo,Xq,Xt,Xv,Xw,Xx,X0,XJ,XL,XM,XO,XP,XU,XV,XW,XY,Wc,We,Wg,Wh,Wj,Wk,Wl,Wn,Wp,Wq,Wr,Ws,Wt,Wu,Wv,Ww,Wx,Wy,Wz,W0,W3,W4,W6,W7,W8,W9,WA,WB,WC,WE,WF,WG,WI,WJ,WK,WM,WN,WO,WS,WT,WV,WW,WX,WY,WZ,Va,Vf,Vg,Vh,Vi,Vj,Vk,Vl,Vn,Vo,Vp,Vq,Vs,Vt,Vu,Vw,Vx,Vz,V0,V1,V2,V5,V6,V7,V8,V9,VA,VB,VF,VG,VH,VK,VL,VM,VN,VO,VP,VR,VS,VT,VU,VW,VZ,Ub,Uc,Ud,Ue,Uf,Ug,Uh,Uj,Uk,Ul,Um,Un,Uo,Uq,Ur,Us,Ut,Uu,Uv,Uw,Ux,Uy,Uz,U0,U1,U2,U3,U9,UA,UP,UQ,UT,UU,UV,UW,UZ,Te,Tf,Tg,Th,Tk,Tm,Ts,Tt,Tw,Tx,Tz,TC,Sb,Sc,Sd,Se,Sn,Sq,Sr, e52, g]; all_goals tactic => exact rfl))
end Go.Proofs.YtpbeclkpohehgaaDoor
namespace Go.Proofs.YtpbeclkpohehgaaDoor
open Go Go.DL
set_option maxRecDepth 100000
set_option maxHeartbeats 4000000

/-! ### Tables -/
def aL (N : Nat) (F : Nat → Int) : List Int := (List.range N).map F
def upF (F : Nat → Int) (d : Nat) (a : Int) : Nat → Int := fun x => if x = d then a else F x
theorem aL_len (N : Nat) (F : Nat → Int) : (aL N F).length = N := by simp [aL]
theorem aL_get {N k : Nat} {F : Nat → Int} (h : k < N) : (aL N F)[k]? = some (F k) := by
  unfold aL
  rw [List.getElem?_map, List.getElem?_range h]; rfl
theorem aL_set {N k : Nat} {F : Nat → Int} {a : Int} (h : k < N) : setX (aL N F) k a = aL N (upF F k a) := by
  rw [setX_set (by rw [aL_len]; exact h)]
  apply List.ext_getElem?
  intro j
  rw [List.getElem?_set]
  by_cases hj : j < N
  · rw [aL_get hj, aL_get hj, aL_len]
    unfold upF
    by_cases hkj : k = j
    · rw [if_pos hkj, if_pos hkj.symm, if_pos h]
    · rw [if_neg hkj, if_neg fun hc => hkj hc.symm]
  · rw [List.getElem?_eq_none (by rw [aL_len]; omega), List.getElem?_eq_none (by rw [aL_len]; omega), if_neg (by omega)]
theorem aL_0 (N : Nat) : List.replicate N (0 : Int) = aL N (fun _ => 0) := by
  unfold aL
  rw [List.map_const']
  simp
theorem aL_ch (N : Nat) (F : Nat → Int) : chunks ((aL N F).map I) 0 1 N = (aL N F).map fun v => [I v] := by
  have := T2 (hs := aL N F)
  rw [aL_len] at this
  exact this
theorem up_up (F : Nat → Int) (d : Nat) (a c : Int) : upF (upF F d a) d c = upF F d c := by
  funext x
  unfold upF
  by_cases h : x = d
  · rw [if_pos h, if_pos h]
  · rw [if_neg h, if_neg h, if_neg h]
theorem up_at (F : Nat → Int) (d : Nat) (a : Int) : upF F d a d = a := if_pos rfl
theorem up_ne {F : Nat → Int} {d x : Nat} {a : Int} (h : x ≠ d) : upF F d a x = F x := if_neg h
/-! ### Sets that can be crushed first -/
def gdN (b : Nat → Nat) (d : Nat) : Nat → Bool
  | 0 => true
  | k + 1 => gdN b d k && (!d.testBit k || decide (dif (b k) d = 0))
def clB (b : Nat → Nat) (n d : Nat) : Bool := gdN b d n
theorem gdN_iff {b : Nat → Nat} {d : Nat} : ∀ n, (gdN b d n = true ↔ ∀ k, k < n → d.testBit k = true → dif (b k) d = 0)
  | 0 => ⟨fun _ k hk => by omega, fun _ => rfl⟩
  | n + 1 => by
    rw [gdN, Bool.and_eq_true, gdN_iff n]
    constructor
    · rintro ⟨h1, h2⟩ k hk hb
      by_cases hkn : k = n
      · subst hkn
        rw [hb] at h2
        simpa using h2
      · exact h1 k (by omega) hb
    · intro h
      refine ⟨fun k hk => h k (by omega), ?_⟩
      cases hb : d.testBit n with
      | false => rfl
      | true => rw [decide_eq_true (h n (by omega) hb)]; rfl
/-! ### Least numbers -/
theorem mn_rs {f : Nat → Int} : ∀ (ks : List Nat), (∀ k ∈ ks, 0 ≤ f k) → ∀ n, 0 ≤ n → ks.foldl (fun n k => if n < 0 then f k else if f k < n then f k else n) n = ks.foldl (fun n k => mnI n (f k)) n
  | [], _, n, _ => rfl
  | k :: ks, h, n, hn => by
    have h0 := h k (by simp)
    rw [List.foldl_cons, List.foldl_cons, if_neg (by omega : ¬ n < 0)]
    refine mn_rs ks (fun j hj => h j (by simp [hj])) _ ?_
    split <;> omega
theorem mn_rs1 {f : Nat → Int} : ∀ (ks : List Nat), (∀ k ∈ ks, 0 ≤ f k ∧ f k ≤ 1000000) → ks ≠ [] → ks.foldl (fun n k => if n < 0 then f k else if f k < n then f k else n) (-1) = ks.foldl (fun n k => mnI n (f k)) 1000000
  | [], _, h => absurd rfl h
  | k :: ks, h, _ => by
    have h0 := h k (by simp)
    rw [List.foldl_cons, List.foldl_cons, if_pos (by omega)]
    have e : mnI 1000000 (f k) = f k := by unfold mnI; split <;> omega
    rw [e]
    exact mn_rs ks (fun j hj => (h j (by simp [hj])).1) _ h0.1
theorem mn_bd {f : Nat → Int} : ∀ (ks : List Nat) (n : Int), (∀ k ∈ ks, 0 ≤ f k) → 0 ≤ n → 0 ≤ ks.foldl (fun n k => mnI n (f k)) n ∧ ks.foldl (fun n k => mnI n (f k)) n ≤ n
  | [], n, _, hn => ⟨hn, Int.le_refl _⟩
  | k :: ks, n, h, hn => by
    have h0 := h k (by simp)
    have hm : 0 ≤ mnI n (f k) ∧ mnI n (f k) ≤ n := by unfold mnI; split <;> omega
    have ih := mn_bd ks (mnI n (f k)) (fun j hj => h j (by simp [hj])) hm.1
    rw [List.foldl_cons]
    omega
theorem mx_bd {a c m : Int} (h1 : 0 ≤ a ∧ a ≤ m) (h2 : 0 ≤ c ∧ c ≤ m) : 0 ≤ mxI a c ∧ mxI a c ≤ m := by unfold mxI; split <;> omega
theorem rest_bd0 {l : Li} (g : Good l) {b : Nat → Nat} : ∀ (m d : Nat), 0 ≤ restF l b m d ∧ restF l b m d ≤ 1000000
  | 0, d => by rw [restF]; omega
  | m + 1, d => by
    rw [restF]
    refine mn_bd (f := fun k => mxI (lastF l (d ||| 2 ^ k) k) (restF l b m (d ||| 2 ^ k))) _ _ (fun k hk => ?_) (by omega)
    exact (mx_bd (last_bd g (List.mem_range.1 (List.mem_filter.1 hk).1)) (rest_bd0 g m _)).1
theorem rest_bd {l : Li} (g : Good l) (b : Nat → Nat) (d : Nat) : 0 ≤ rstF l b d ∧ rstF l b d ≤ 1000000 := rest_bd0 g _ _
theorem wth_bd {l : Li} (g : Good l) (b : Nat → Nat) (d : Nat) {k : Nat} (hk : k < l.ls.length) : 0 ≤ wthF l b d k ∧ wthF l b d k ≤ 1000000 := mx_bd (last_bd g hk) (rest_bd g b _)
def rfT (l : Li) (b : Nat → Nat) (d : Nat) (z : Int) : Nat → Int
  | 0 => z
  | k + 1 => if canB b d k = true then (if rfT l b d z k < 0 then wthF l b d k else if wthF l b d k < rfT l b d z k then wthF l b d k else rfT l b d z k) else rfT l b d z k
theorem rfT_fl {l : Li} {b : Nat → Nat} {d : Nat} {z : Int} : ∀ n, rfT l b d z n = ((List.range n).filter (canB b d)).foldl (fun n k => if n < 0 then wthF l b d k else if wthF l b d k < n then wthF l b d k else n) z
  | 0 => rfl
  | n + 1 => by
    rw [rfT, List.range_succ, List.filter_append, List.foldl_append, ← rfT_fl n]
    cases h : canB b d n <;> simp [h]
theorem can_ex {l : Li} {b : Nat → Nat} (p : Prec l.ls.length b) (hn : l.ls.length ≤ 10) {d : Nat} (hd : d < 2 ^ l.ls.length) (h : pop d l.ls.length < l.ls.length) : ∃ k, k < l.ls.length ∧ canB b d k = true := by
  have : ∃ k, k < l.ls.length ∧ d.testBit k = false := by
    by_cases hc : ∀ i, i < l.ls.length → d.testBit i = true
    · have := pop_full.2 hc
      omega
    · rw [Classical.not_forall] at hc
      obtain ⟨i, hi⟩ := hc
      rw [Classical.not_imp] at hi
      exact ⟨i, hi.1, by simpa using hi.2⟩
  obtain ⟨k, hk, hkd⟩ := this
  obtain ⟨k2, h1, h2, h3⟩ := p.next _ k hk hkd (Nat.le_refl _)
  exact ⟨k2, h1, (canB_iff p hn hd).2 ⟨h2, h3⟩⟩
/-- A set that can be crushed first: the table's number is right. -/
theorem rf_eq {l : Li} (g : Good l) {b : Nat → Nat} (p : Prec l.ls.length b) {d : Nat} (hd : d < 2 ^ l.ls.length) (h : pop d l.ls.length < l.ls.length) : rfT l b d (-1) l.ls.length = rstF l b d := by
  rw [rfT_fl, rest_step h, rsT_fl]
  refine mn_rs1 (f := wthF l b d) _ (fun k hk => wth_bd g b d (List.mem_range.1 (List.mem_filter.1 hk).1)) ?_
  obtain ⟨k, h1, h2⟩ := can_ex p g.few hd h
  intro hc
  have : k ∈ (List.range l.ls.length).filter (canB b d) := List.mem_filter.2 ⟨List.mem_range.2 h1, h2⟩
  rw [hc] at this
  simp at this
theorem rf_full {l : Li} {b : Nat → Nat} {d : Nat} (h : pop d l.ls.length = l.ls.length) (z : Int) : ∀ k, k ≤ l.ls.length → rfT l b d z k = z
  | 0, _ => rfl
  | k + 1, hk => by
    have : canB b d k = false := by
      unfold canB
      rw [pop_full.1 h k (by omega)]
      rfl
    rw [rfT, this, if_neg (by simp), rf_full h z k (by omega)]
/-- What the table says of a set. -/
def tabV (l : Li) (b : Nat → Nat) (d : Nat) : Int := if clB b l.ls.length d = true then rstF l b d else -1
theorem cl_next {l : Li} {b : Nat → Nat} (p : Prec l.ls.length b) (hn : l.ls.length ≤ 10) {d k : Nat} (hd : d < 2 ^ l.ls.length) (hk : k < l.ls.length) (hc : clB b l.ls.length d = true) (hcan : canB b d k = true) : clB b l.ls.length (d ||| 2 ^ k) = true := by
  have h1 := (gdN_iff _).1 hc
  have h2 := (canB_iff p hn hd).1 hcan
  have hd2 := or_lt hd hk
  have lb : ∀ x, b x < 2 ^ 63 := fun x => by have := lt_10 (p.lt x) hn; omega
  refine (gdN_iff _).2 fun j hj hb => ?_
  rw [dif_zero (lb j) (by have := lt_10 hd2 hn; omega)]
  intro i hi
  rw [or_bit, Bool.or_eq_true] at hb ⊢
  rcases hb with hb | hb
  · exact .inl ((dif_zero (lb j) (by have := lt_10 hd hn; omega)).1 (h1 j hj hb) i hi)
  · have : k = j := by simpa using hb
    subst this
    exact .inl (h2.2 i hi)
end Go.Proofs.YtpbeclkpohehgaaDoor
namespace Go.Proofs.YtpbeclkpohehgaaDoor
open Go Go.DL
set_option maxRecDepth 100000
set_option maxHeartbeats 4000000
theorem or_k {a k : Nat} (ha : a < 2 ^ 10) (hk : k < 10) : bitsA .or .i64 (a : Int) (IntKind.i64.wrap (1 * 2 ^ min k IntKind.i64.bits)) = ((a ||| 2 ^ k : Nat) : Int) := by
  rw [shl_one big_i (by omega), bits_or big_i (lo_63 ha) (Nat.pow_lt_pow_right (by omega) (by omega))]
theorem or_k1 {a k : Nat} (ha : a < 2 ^ 10) (hk : k < 10) : bitsA .or .i64 (a : Int) (IntKind.i64.wrap (2 ^ min k IntKind.i64.bits)) = ((a ||| 2 ^ k : Nat) : Int) := by
  rw [shl_1 big_i (by omega), bits_or big_i (lo_63 ha) (Nat.pow_lt_pow_right (by omega) (by omega))]
theorem dif_cases {x a : Nat} (hx : x < 2 ^ 63) (ha : a < 2 ^ 63) : (dif x a = 0 ∧ (bitsA .andNot .i64 (x : Int) (a : Int) = 0) = True) ∨ (¬ dif x a = 0 ∧ (bitsA .andNot .i64 (x : Int) (a : Int) = 0) = False) := by
  by_cases h : dif x a = 0
  · exact .inl ⟨h, neg_dif big_i hx ha h⟩
  · exact .inr ⟨h, pos_dif big_i hx ha h⟩
section
variable {l : Li} {b : Nat → Nat}
abbrev hA (l : Li) (N : Nat) (F : Nat → Int) : XH := [some (.blk true (.cells true l.c)), some (.blk true (.cells true ((aL N F).map I)))]
theorem round77g (hn : l.ls.length ≤ 10) (hb : ∀ k, b k < 2 ^ 10) {N d k : Nat} {F : Nat → Int} (hd : d < 2 ^ 10) (hk : k < l.ls.length) (f r : Bool) (hr : r = (f && (!d.testBit k || decide (dif (b k) d = 0)))) :
    headX 0 [1, 3, 4, 5, 6, 7, 8] (execW progX 77 0 none (match x77l0 with | .loop _ a => a | c => c) (envL [1, 3, 4, 5, 6, 7, 8] [.pt 0 0, I l.ls.length, rI (bL l.ls.length b), .sl 1 0 1 N, I (d : Nat), .bool f, I (k : Nat)]) (hA l N F)) =
      some ([.pt 0 0, I l.ls.length, rI (bL l.ls.length b), .sl 1 0 1 N, I (d : Nat), .bool r, I (k + 1 : Nat)], hA l N F) := by
  have a1 := lt_ix hk
  have a2 := up_ix hk (by omega)
  have c2 : ((k : Int) < ((bL l.ls.length b).length : Int)) = True := eq_true (by rw [bL_len]; omega)
  have s1 := bL_get (n := l.ls.length) (b := b) (k := k) hk
  have n0 := neg_n k
  generalize bL l.ls.length b = bl at *
  generalize aL N F = al at *
  subst hr
  unfold x77l0
  dsimp only
  cases f with
  | false => (sym => (simp [Za,Zb,Zf,Zh,Zl,Zm,Zo,Zp,Zq,Zr,Zs,Zt,Zu,Zx,Z2,Z7,ZE,ZT,ZU,Ye,Yf,Yh,Yj,Ym,Yn,Yp,Yt,Yu,YE,YF,YJ,YK,YL,Xe,Xf,Xi,Xj,Xk,Wp,Wy,Wz,W0,W4,W5,W7,W8,W9,WB,WE,WF,WG,WH,WM,WN,WS,VC,VD,VE,VF,VG,VL,VM,VN,VO,VP,VR,VS,VT,VU,VV,VW,VZ,Ua,Ub,Uc,Ud,Ue,Uf,Ug,Uh,Uk,Ul,Um,Ur,Us,Ut,Uu,UR,US,UU,Te,Tf,Th,Tj,Tk,Tn,Tr,Ts,Tt,Ty,Sm, a1, a2]; all_goals tactic => exact rfl))
  | true =>
    rcases bit_0 (a := d) (i := k) (lo_63 hd) (by omega) with ⟨h1, h2⟩ | ⟨h1, h2⟩
    · rw [h1]
      rcases dif_cases (x := b k) (a := d) (lo_63 (hb k)) (lo_63 hd) with ⟨h3, h4⟩ | ⟨h3, h4⟩
      · rw [decide_eq_true h3]; (sym => (simp [Za,Zb,Zf,Zh,Zl,Zm,Zo,Zp,Zq,Zr,Zs,Zt,Zu,Zx,Z2,Z7,ZE,ZT,ZU,Ye,Yf,Yh,Yj,Ym,Yn,Yp,Yt,Yu,YE,YF,YJ,YK,YL,Xe,Xf,Xi,Xj,Xk,Wp,Wy,Wz,W0,W4,W5,W7,W8,W9,WB,WE,WF,WG,WH,WM,WN,WS,VC,VD,VE,VF,VG,VL,VM,VN,VO,VP,VR,VS,VT,VU,VV,VW,VZ,Ua,Ub,Uc,Ud,Ue,Uf,Ug,Uh,Uk,Ul,Um,Ur,Us,Ut,Uu,UR,US,UU,Te,Tf,Th,Tj,Tk,Tn,Tr,Ts,Tt,Ty,Sm, a1, a2, c2, s1, n0, h2, h4]; all_goals tactic => exact rfl))
      · rw [decide_eq_false h3]; (sym => (simp [Za,Zb,Zf,Zh,Zl,Zm,Zo,Zp,Zq,Zr,Zs,Zt,Zu,Zx,Z2,Z7,ZE,ZT,ZU,Ye,Yf,Yh,Yj,Ym,Yn,Yp,Yt,Yu,YE,YF,YJ,YK,YL,Xe,Xf,Xi,Xj,Xk,Wp,Wy,Wz,W0,W4,W5,W7,W8,W9,WB,WE,WF,WG,WH,WM,WN,WS,VC,VD,VE,VF,VG,VL,VM,VN,VO,VP,VR,VS,VT,VU,VV,VW,VZ,Ua,Ub,Uc,Ud,Ue,Uf,Ug,Uh,Uk,Ul,Um,Ur,Us,Ut,Uu,UR,US,UU,Te,Tf,Th,Tj,Tk,Tn,Tr,Ts,Tt,Ty,Sm, a1, a2, c2, s1, n0, h2, h4]; all_goals tactic => exact rfl))
    · rw [h1]; (sym => (simp [Za,Zb,Zf,Zh,Zl,Zm,Zo,Zp,Zq,Zr,Zs,Zt,Zu,Zx,Z2,Z7,ZE,ZT,ZU,Ye,Yf,Yh,Yj,Ym,Yn,Yp,Yt,Yu,YE,YF,YJ,YK,YL,Xe,Xf,Xi,Xj,Xk,Wp,Wy,Wz,W0,W4,W5,W7,W8,W9,WB,WE,WF,WG,WH,WM,WN,WS,VC,VD,VE,VF,VG,VL,VM,VN,VO,VP,VR,VS,VT,VU,VV,VW,VZ,Ua,Ub,Uc,Ud,Ue,Uf,Ug,Uh,Uk,Ul,Um,Ur,Us,Ut,Uu,UR,US,UU,Te,Tf,Th,Tj,Tk,Tn,Tr,Ts,Tt,Ty,Sm, a1, a2, n0, h2]; all_goals tactic => exact rfl))
theorem round77i (g : Good l) (hb : ∀ k, b k < 2 ^ 10) {d k : Nat} {F : Nat → Int} (hd : d < 2 ^ l.ls.length) (hk : k < l.ls.length) (v : Int) (hF : canB b d k = true → F (d ||| 2 ^ k) = rstF l b (d ||| 2 ^ k)) :
    headX 0 [1, 3, 4, 5, 6, 9] (execW progX 77 0 none (match x77l1 with | .loop _ a => a | c => c) (envL [1, 3, 4, 5, 6, 9] [.pt 0 0, I l.ls.length, rI (bL l.ls.length b), .sl 1 0 1 (2 ^ l.ls.length), I (d : Nat), I (k : Nat)]) (hA l (2 ^ l.ls.length) (upF F d v))) =
      some ([.pt 0 0, I l.ls.length, rI (bL l.ls.length b), .sl 1 0 1 (2 ^ l.ls.length), I (d : Nat), I (k + 1 : Nat)], hA l (2 ^ l.ls.length) (upF F d (if canB b d k = true then (if v < 0 then wthF l b d k else if wthF l b d k < v then wthF l b d k else v) else v))) := by
  have hn := g.few
  have hd2 : d < 2 ^ 10 := lt_10 hd hn
  have a1 := lt_ix hk
  have a2 := up_ix hk (by omega)
  have c2 : ((k : Int) < ((bL l.ls.length b).length : Int)) = True := eq_true (by rw [bL_len]; omega)
  have s1 := bL_get (n := l.ls.length) (b := b) (k := k) hk
  have n0 := neg_n k
  have e79 := w79 g (or_lt hd hk)
  have e78 := w78 g hk (end_bd g (or_lt hd hk))
  have hl : sourF (knAt l (ldN l k)) ((ldN l k).ah + endF l (d ||| 2 ^ k)) = lastF l (d ||| 2 ^ k) k := rfl
  rw [hl] at e78
  have o1 := or_k hd2 (k := k) (by omega)
  have o2 := or_k1 hd2 (k := k) (by omega)
  generalize bL l.ls.length b = bl at *
  unfold canB at hF ⊢
  rcases bit_1 (a := d) (i := k) (lo_63 hd2) (by omega) with ⟨h1, h2⟩ | ⟨h1, h2⟩
  · rw [h1, if_neg (by simp)]
    generalize aL (2 ^ l.ls.length) (upF F d v) = al at *
    unfold x77l1
    dsimp only
    (sym => (simp [Za,Zb,Zc,Ze,Zf,Zg,Zh,Zk,Zl,Zm,Zo,Zq,Zs,Zu,Zx,Z2,Z7,ZD,ZE,ZF,ZH,ZI,ZJ,ZK,ZO,ZP,ZR,ZS,ZT,ZU,Yc,Ye,Yf,Yh,Yj,Yk,Yl,Ym,Yn,Yo,Yp,Yt,Yu,Y5,YE,YG,YJ,YK,YL,YR,Xe,Xg,Xi,Xj,Xk,Wc,Wp,Wq,Wr,Ws,Wt,Wu,Wv,Ww,Wy,Wz,W0,W4,W5,W7,W8,W9,WA,WB,WC,WE,WF,WG,WH,WI,WJ,WM,WN,WS,WV,WW,WX,WZ,Va,Vb,Vd,Vi,Vk,Vl,Vn,Vo,Vq,VC,VD,VE,VF,VG,VH,VL,VM,VN,VO,VP,VR,VS,VT,VU,VV,VW,VZ,Uc,Ud,Ue,Uf,Uh,Uk,Ul,Um,Un,Uo,Uq,Ur,Us,Ut,Uu,Uv,Uw,UP,UQ,UR,US,UT,UU,UV,UW,Te,Tf,Th,Ti,Tj,Tk,Tl,Tn,Tq,Tr,Ts,Tt,Tw,Tx,Ty,T0,Sm,Sn,Sq,Sr, a1, a2, n0, h2]; all_goals tactic => exact rfl))
  · rw [h1] at hF ⊢
    rcases dif_cases (x := b k) (a := d) (lo_63 (hb k)) (lo_63 hd2) with ⟨h3, h4⟩ | ⟨h3, h4⟩
    · rw [decide_eq_true h3] at hF ⊢
      have hF := hF rfl
      rw [if_pos (by rfl)]
      have hne : d ||| 2 ^ k ≠ d := fun hc => by
        have := or_bit d k k
        rw [hc, h1] at this
        simp at this
      have hlt := or_lt hd hk
      have hw : wthF l b d k = mxI (lastF l (d ||| 2 ^ k) k) (rstF l b (d ||| 2 ^ k)) := rfl
      have t1 : (aL (2 ^ l.ls.length) (upF F d v))[d ||| 2 ^ k]? = some (rstF l b (d ||| 2 ^ k)) := by rw [aL_get hlt, up_ne hne, hF]
      have t2 : (aL (2 ^ l.ls.length) (upF F d v))[d]? = some v := by rw [aL_get hd, up_at]
      have t3 := fun c => aL_set (N := 2 ^ l.ls.length) (F := upF F d v) (a := c) hd
      have t4 := aL_len (2 ^ l.ls.length) (upF F d v)
      have i1 : (((d ||| 2 ^ k : Nat) : Int) < ((2 ^ l.ls.length : Nat) : Int)) = True := eq_true (by omega)
      have i2 : ((d : Int) < ((2 ^ l.ls.length : Nat) : Int)) = True := eq_true (by omega)
      have i3 : (d + 1 ≤ 2 ^ l.ls.length) = True := eq_true (by omega)
      rw [hw]
      unfold mxI
      generalize endF l (d ||| 2 ^ k) = ef at *
      generalize lastF l (d ||| 2 ^ k) k = lv at *
      generalize rstF l b (d ||| 2 ^ k) = rv at *
      generalize d ||| 2 ^ k = d' at *
      unfold x77l1
      dsimp only
      rcases ptf (v < 0) with h5 | h5
      · simp only [h5, if_true]
        simp only [up_up] at t3
        generalize 2 ^ l.ls.length = N at *
        (sym => (simp [Za,Zb,Zc,Ze,Zf,Zg,Zh,Zk,Zl,Zm,Zo,Zq,Zs,Zu,Zx,Z2,Z7,ZD,ZE,ZF,ZH,ZI,ZJ,ZK,ZO,ZP,ZR,ZS,ZT,ZU,Yc,Ye,Yf,Yh,Yj,Yk,Yl,Ym,Yn,Yo,Yp,Yt,Yu,Y5,YE,YG,YJ,YK,YL,YR,Xe,Xg,Xi,Xj,Xk,Wc,Wp,Wq,Wr,Ws,Wt,Wu,Wv,Ww,Wy,Wz,W0,W4,W5,W7,W8,W9,WA,WB,WC,WE,WF,WG,WH,WI,WJ,WM,WN,WS,WV,WW,WX,WZ,Va,Vb,Vd,Vi,Vk,Vl,Vn,Vo,Vq,VC,VD,VE,VF,VG,VH,VL,VM,VN,VO,VP,VR,VS,VT,VU,VV,VW,VZ,Uc,Ud,Ue,Uf,Uh,Uk,Ul,Um,Un,Uo,Uq,Ur,Us,Ut,Uu,Uv,Uw,UP,UQ,UR,US,UT,UU,UV,UW,Te,Tf,Th,Ti,Tj,Tk,Tl,Tn,Tq,Tr,Ts,Tt,Tw,Tx,Ty,T0,Sm,Sn,Sq,Sr, a1, a2, c2, s1, n0, h2, h4, o1, o2, e79, e78, t1, t2, t3, t4, i1, i2, i3, h5]; all_goals tactic => exact rfl))
      · simp only [h5, if_false]
        simp only [up_up] at t3
        generalize 2 ^ l.ls.length = N at *
        rcases ptf ((if rv > lv then rv else lv) < v) with h6 | h6
        · simp only [h6, if_true]
          (sym => (simp [Za,Zb,Zc,Ze,Zf,Zg,Zh,Zk,Zl,Zm,Zo,Zq,Zs,Zu,Zx,Z2,Z7,ZD,ZE,ZF,ZH,ZI,ZJ,ZK,ZO,ZP,ZR,ZS,ZT,ZU,Yc,Ye,Yf,Yh,Yj,Yk,Yl,Ym,Yn,Yo,Yp,Yt,Yu,Y5,YE,YG,YJ,YK,YL,YR,Xe,Xg,Xi,Xj,Xk,Wc,Wp,Wq,Wr,Ws,Wt,Wu,Wv,Ww,Wy,Wz,W0,W4,W5,W7,W8,W9,WA,WB,WC,WE,WF,WG,WH,WI,WJ,WM,WN,WS,WV,WW,WX,WZ,Va,Vb,Vd,Vi,Vk,Vl,Vn,Vo,Vq,VC,VD,VE,VF,VG,VH,VL,VM,VN,VO,VP,VR,VS,VT,VU,VV,VW,VZ,Uc,Ud,Ue,Uf,Uh,Uk,Ul,Um,Un,Uo,Uq,Ur,Us,Ut,Uu,Uv,Uw,UP,UQ,UR,US,UT,UU,UV,UW,Te,Tf,Th,Ti,Tj,Tk,Tl,Tn,Tq,Tr,Ts,Tt,Tw,Tx,Ty,T0,Sm,Sn,Sq,Sr, a1, a2, c2, s1, n0, h2, h4, o1, o2, e79, e78, t1, t2, t3, t4, i1, i2, i3, h5, h6]; all_goals tactic => exact rfl))
        · simp only [h6, if_false]
          (sym => (simp [Za,Zb,Zc,Ze,Zf,Zg,Zh,Zk,Zl,Zm,Zo,Zq,Zs,Zu,Zx,Z2,Z7,ZD,ZE,ZF,ZH,ZI,ZJ,ZK,ZO,ZP,ZR,ZS,ZT,ZU,Yc,Ye,Yf,Yh,Yj,Yk,Yl,Ym,Yn,Yo,Yp,Yt,Yu,Y5,YE,YG,YJ,YK,YL,YR,Xe,Xg,Xi,Xj,Xk,Wc,Wp,Wq,Wr,Ws,Wt,Wu,Wv,Ww,Wy,Wz,W0,W4,W5,W7,W8,W9,WA,WB,WC,WE,WF,WG,WH,WI,WJ,WM,WN,WS,WV,WW,WX,WZ,Va,Vb,Vd,Vi,Vk,Vl,Vn,Vo,Vq,VC,VD,VE,VF,VG,VH,VL,VM,VN,VO,VP,VR,VS,VT,VU,VV,VW,VZ,Uc,Ud,Ue,Uf,Uh,Uk,Ul,Um,Un,Uo,Uq,Ur,Us,Ut,Uu,Uv,Uw,UP,UQ,UR,US,UT,UU,UV,UW,Te,Tf,Th,Ti,Tj,Tk,Tl,Tn,Tq,Tr,Ts,Tt,Tw,Tx,Ty,T0,Sm,Sn,Sq,Sr, a1, a2, c2, s1, n0, h2, h4, o1, o2, e79, e78, t1, t2, t3, t4, i1, i2, i3, h5, h6]; all_goals tactic => exact rfl))
    · rw [decide_eq_false h3, if_neg (by simp)]
      generalize aL (2 ^ l.ls.length) (upF F d v) = al at *
      unfold x77l1
      dsimp only
      (sym => (simp [Za,Zb,Zc,Ze,Zf,Zg,Zh,Zk,Zl,Zm,Zo,Zq,Zs,Zu,Zx,Z2,Z7,ZD,ZE,ZF,ZH,ZI,ZJ,ZK,ZO,ZP,ZR,ZS,ZT,ZU,Yc,Ye,Yf,Yh,Yj,Yk,Yl,Ym,Yn,Yo,Yp,Yt,Yu,Y5,YE,YG,YJ,YK,YL,YR,Xe,Xg,Xi,Xj,Xk,Wc,Wp,Wq,Wr,Ws,Wt,Wu,Wv,Ww,Wy,Wz,W0,W4,W5,W7,W8,W9,WA,WB,WC,WE,WF,WG,WH,WI,WJ,WM,WN,WS,WV,WW,WX,WZ,Va,Vb,Vd,Vi,Vk,Vl,Vn,Vo,Vq,VC,VD,VE,VF,VG,VH,VL,VM,VN,VO,VP,VR,VS,VT,VU,VV,VW,VZ,Uc,Ud,Ue,Uf,Uh,Uk,Ul,Um,Un,Uo,Uq,Ur,Us,Ut,Uu,Uv,Uw,UP,UQ,UR,US,UT,UU,UV,UW,Te,Tf,Th,Ti,Tj,Tk,Tl,Tn,Tq,Tr,Ts,Tt,Tw,Tx,Ty,T0,Sm,Sn,Sq,Sr, a1, a2, c2, s1, n0, h2, h4]; all_goals tactic => exact rfl))
end
end Go.Proofs.YtpbeclkpohehgaaDoor
namespace Go.Proofs.YtpbeclkpohehgaaDoor
open Go Go.DL
set_option maxRecDepth 100000
set_option maxHeartbeats 4000000
theorem full_iff {n d : Nat} (hd : d < 2 ^ n) : pop d n = n ↔ d = 2 ^ n - 1 := by
  rw [pop_full]
  constructor
  · intro h
    apply Nat.eq_of_testBit_eq
    intro i
    rw [Nat.testBit_two_pow_sub_one]
    by_cases hi : i < n
    · rw [h i hi, decide_eq_true hi]
    · rw [bit_lt hd (by omega), decide_eq_false hi]
  · rintro rfl i hi
    rw [Nat.testBit_two_pow_sub_one, decide_eq_true hi]
def stF (l : Li) (b : Nat → Nat) (i : Nat) : Nat → Int := fun j => if 2 ^ l.ls.length ≤ j + i then tabV l b j else 0
theorem st_up {l : Li} {b : Nat → Nat} {d i : Nat} (h : d + i + 1 = 2 ^ l.ls.length) : stF l b (i + 1) = upF (stF l b i) d (tabV l b d) := by
  funext j
  show (if 2 ^ l.ls.length ≤ j + (i + 1) then tabV l b j else 0) = if j = d then tabV l b d else (if 2 ^ l.ls.length ≤ j + i then tabV l b j else 0)
  by_cases hj : j = d
  · rw [if_pos hj, hj, if_pos (by omega)]
  · rw [if_neg hj]
    by_cases h2 : 2 ^ l.ls.length ≤ j + i
    · rw [if_pos h2, if_pos (by omega)]
    · rw [if_neg h2, if_neg (by omega)]
theorem or_gt {d k : Nat} (h : d.testBit k = false) : d < d ||| 2 ^ k := by
  refine sub_lt (fun i hi => by rw [or_bit, hi, Bool.true_or]) fun hc => ?_
  have := or_bit d k k
  rw [← hc, h] at this
  simp at this
section
variable {l : Li} {b : Nat → Nat}
theorem round77 (g : Good l) (p : Prec l.ls.length b) {d i : Nat} (hi : d + i + 1 = 2 ^ l.ls.length) :
    headX 0 [1, 3, 4, 5, 6] (execW progX 77 0 none (match x77l2 with | .loop _ a => a | c => c) (envL [1, 3, 4, 5, 6] [.pt 0 0, I l.ls.length, rI (bL l.ls.length b), .sl 1 0 1 (2 ^ l.ls.length), I (d : Nat)]) (hA l (2 ^ l.ls.length) (stF l b i))) =
      some ([.pt 0 0, I l.ls.length, rI (bL l.ls.length b), .sl 1 0 1 (2 ^ l.ls.length), I ((d : Int) - 1)], hA l (2 ^ l.ls.length) (stF l b (i + 1))) := by
  have hn := g.few
  have hb : ∀ k, b k < 2 ^ 10 := fun k => lt_10 (p.lt k) hn
  have hd : d < 2 ^ l.ls.length := by omega
  have hd2 : d < 2 ^ 10 := lt_10 hd hn
  have hN : 2 ^ l.ls.length ≤ 2 ^ 10 := Nat.pow_le_pow_right (by omega) hn
  have e1 := st_up (b := b) hi
  have z := UO (n := (l.ls.length : Int))
  have q0 : ((d : Int) ≥ 0) = True := eq_true (by omega)
  have q1 : ((0 : Int) ≤ (d : Int)) = True := eq_true (by omega)
  have i2 : ((d : Int) < ((2 ^ l.ls.length : Nat) : Int)) = True := eq_true (by omega)
  have i3 : (d + 1 ≤ 2 ^ l.ls.length) = True := eq_true (by omega)
  have t3 := fun F c => aL_set (N := 2 ^ l.ls.length) (F := F) (a := c) hd
  have t4 := fun F => aL_len (2 ^ l.ls.length) F
  have w1 : IntKind.i64.wrap ((d : Int) - 1) = (d : Int) - 1 := wrap_ok (by omega) (by omega)
  have s1 := shl_one big_i (i := l.ls.length) (by omega)
  have s2 := shl_1 big_i (i := l.ls.length) (by omega)
  have w2 : IntKind.i64.wrap (((2 ^ l.ls.length : Nat) : Int) - 1) = ((2 ^ l.ls.length : Nat) : Int) - 1 := wrap_ok (by omega) (by omega)
  have n1 := neg_n l.ls.length
  have gd0 : gdN b d 0 = true := rfl
  have l0 : ∀ F, ∀ k, k < l.ls.length → _ := fun F k hk => round77g (F := F) (N := 2 ^ l.ls.length) hn hb hd2 hk (gdN b d k) (gdN b d (k + 1)) rfl
  have hcl : gdN b d l.ls.length = clB b l.ls.length d := rfl
  have l1 : clB b l.ls.length d = true → ∀ z k, k < l.ls.length → _ := fun hc z k hk => round77i (F := stF l b i) g hb hd hk (rfT l b d z k) (by
    intro hcan
    have h1 := cl_next p hn hd hk hc hcan
    have h2 := or_gt (can_bit hcan)
    unfold stF
    rw [if_pos (by omega)]
    unfold tabV
    rw [if_pos h1])
  have r0 : ∀ z, rfT l b d z 0 = z := fun _ => rfl
  rw [e1]
  unfold tabV
  have go : ∀ (f : Bool), clB b l.ls.length d = f → headX 0 [1, 3, 4, 5, 6] (execW progX 77 0 none (match x77l2 with | .loop _ a => a | c => c) (envL [1, 3, 4, 5, 6] [.pt 0 0, I l.ls.length, rI (bL l.ls.length b), .sl 1 0 1 (2 ^ l.ls.length), I (d : Nat)]) (hA l (2 ^ l.ls.length) (stF l b i))) =
      some ([.pt 0 0, I l.ls.length, rI (bL l.ls.length b), .sl 1 0 1 (2 ^ l.ls.length), I ((d : Int) - 1)], hA l (2 ^ l.ls.length) (upF (stF l b i) d (if f = true then rstF l b d else -1))) := by
    intro f hf
    unfold x77l2
    dsimp only
    sym =>
      simp [Za,Zb,Zc,Zf,Zh,Zl,Zm,Zu,Z2,Z3,Z7,ZI,ZJ,ZV,Yc,Yi,Yl,Yn,Yp,Ys,Yt,Yu,Yx,YE,YF,YJ,YK,YL,YR,Xe,Xf,Xi,Xj,Xk,Wc,Wp,Ws,Wz,W0,W4,W5,W7,W8,W9,WB,WE,WF,WG,WH,WM,WN,WS,VC,VD,VE,VF,VG,VH,VI,VL,VM,VN,VO,VP,VR,VS,VT,VU,VW,VZ,Uc,Ud,Uh,Uk,Ul,Um,Ur,Us,Ut,Uu,Uv,Uw,UO,UV,UW,Te,Tf,Th,Ti,Tj,Tk,Tl,Tn,Tq,Tr,Ts,Tt,Tw,Tx,Ty,T0, q0, q1, i2, i3, t3, t4]
      tactic =>
        unfold x77l0
        rw [loop_rule l.ls.length (fun k => [.pt 0 0, I l.ls.length, rI (bL l.ls.length b), .sl 1 0 1 (2 ^ l.ls.length), I (d : Nat), .bool (gdN b d k), I (k : Nat)]) (fun _ => hA l (2 ^ l.ls.length) (upF (stF l b i) d (-1)))]
        · rw [hcl, hf]
          cases f with
          | false =>
            rw [if_neg (by simp)]
            generalize bL l.ls.length b = bl at *
            (sym => (simp [Za,Zb,Zc,Zf,Zh,Zl,Zm,Zu,Z2,Z3,Z7,ZI,ZJ,ZV,Yc,Yi,Yl,Yn,Yp,Ys,Yt,Yu,Yx,YE,YF,YJ,YK,YL,YR,Xe,Xf,Xi,Xj,Xk,Wc,Wp,Ws,Wz,W0,W4,W5,W7,W8,W9,WB,WE,WF,WG,WH,WM,WN,WS,VC,VD,VE,VF,VG,VH,VI,VL,VM,VN,VO,VP,VR,VS,VT,VU,VW,VZ,Uc,Ud,Uh,Uk,Ul,Um,Ur,Us,Ut,Uu,Uv,Uw,UO,UV,UW,Te,Tf,Th,Ti,Tj,Tk,Tl,Tn,Tq,Tr,Ts,Tt,Tw,Tx,Ty,T0, z, w1]; all_goals tactic => exact rfl))
          | true =>
            have l1 := l1 hf
            rw [if_pos rfl]
            by_cases hfull : pop d l.ls.length = l.ls.length
            · have q2 : ((d : Int) = ((2 ^ l.ls.length : Nat) : Int) - 1) = True := eq_true (by have := (full_iff hd).1 hfull; omega)
              have l1 := l1 0
              have rz := rf_full (b := b) hfull 0 l.ls.length (Nat.le_refl _)
              rw [rest_full hfull]
              sym =>
                simp [Za,Zb,Zc,Zf,Zh,Zl,Zm,Zu,Z2,Z3,Z7,ZI,ZJ,ZV,Yc,Yi,Yl,Yn,Yp,Ys,Yt,Yu,Yx,YE,YF,YJ,YK,YL,YR,Xe,Xf,Xi,Xj,Xk,Wc,Wp,Ws,Wz,W0,W4,W5,W7,W8,W9,WB,WE,WF,WG,WH,WM,WN,WS,VC,VD,VE,VF,VG,VH,VI,VL,VM,VN,VO,VP,VR,VS,VT,VU,VW,VZ,Uc,Ud,Uh,Uk,Ul,Um,Ur,Us,Ut,Uu,Uv,Uw,UO,UV,UW,Te,Tf,Th,Ti,Tj,Tk,Tl,Tn,Tq,Tr,Ts,Tt,Tw,Tx,Ty,T0, z, q2, s1, s2, w2, n1, i2, i3, q1, t3, t4, up_up]
                tactic =>
                  unfold x77l1
                  rw [loop_rule l.ls.length (fun k => [.pt 0 0, I l.ls.length, rI (bL l.ls.length b), .sl 1 0 1 (2 ^ l.ls.length), I (d : Nat), I (k : Nat)]) (fun k => hA l (2 ^ l.ls.length) (upF (stF l b i) d (rfT l b d 0 k)))]
                  · rw [rz]
                    generalize bL l.ls.length b = bl at *
                    (sym => (simp [Za,Zb,Zc,Zf,Zh,Zl,Zm,Zu,Z2,Z3,Z7,ZI,ZJ,ZV,Yc,Yi,Yl,Yn,Yp,Ys,Yt,Yu,Yx,YE,YF,YJ,YK,YL,YR,Xe,Xf,Xi,Xj,Xk,Wc,Wp,Ws,Wz,W0,W4,W5,W7,W8,W9,WB,WE,WF,WG,WH,WM,WN,WS,VC,VD,VE,VF,VG,VH,VI,VL,VM,VN,VO,VP,VR,VS,VT,VU,VW,VZ,Uc,Ud,Uh,Uk,Ul,Um,Ur,Us,Ut,Uu,Uv,Uw,UO,UV,UW,Te,Tf,Th,Ti,Tj,Tk,Tl,Tn,Tq,Tr,Ts,Tt,Tw,Tx,Ty,T0, z, w1]; all_goals tactic => exact rfl))
                  · rw [r0]
                    generalize bL l.ls.length b = bl at *
                    (sym => (simp [Za,Zb,Zc,Zf,Zh,Zl,Zm,Zu,Z2,Z3,Z7,ZI,ZJ,ZV,Yc,Yi,Yl,Yn,Yp,Ys,Yt,Yu,Yx,YE,YF,YJ,YK,YL,YR,Xe,Xf,Xi,Xj,Xk,Wc,Wp,Ws,Wz,W0,W4,W5,W7,W8,W9,WB,WE,WF,WG,WH,WM,WN,WS,VC,VD,VE,VF,VG,VH,VI,VL,VM,VN,VO,VP,VR,VS,VT,VU,VW,VZ,Uc,Ud,Uh,Uk,Ul,Um,Ur,Us,Ut,Uu,Uv,Uw,UO,UV,UW,Te,Tf,Th,Ti,Tj,Tk,Tl,Tn,Tq,Tr,Ts,Tt,Tw,Tx,Ty,T0]; all_goals tactic => exact rfl))
                  · exact l1
                  · (sym => (simp [Za,Zb,Zc,Zf,Zh,Zl,Zm,Zu,Z2,Z3,Z7,ZI,ZJ,ZV,Yc,Yi,Yl,Yn,Yp,Ys,Yt,Yu,Yx,YE,YF,YJ,YK,YL,YR,Xe,Xf,Xi,Xj,Xk,Wc,Wp,Ws,Wz,W0,W4,W5,W7,W8,W9,WB,WE,WF,WG,WH,WM,WN,WS,VC,VD,VE,VF,VG,VH,VI,VL,VM,VN,VO,VP,VR,VS,VT,VU,VW,VZ,Uc,Ud,Uh,Uk,Ul,Um,Ur,Us,Ut,Uu,Uv,Uw,UO,UV,UW,Te,Tf,Th,Ti,Tj,Tk,Tl,Tn,Tq,Tr,Ts,Tt,Tw,Tx,Ty,T0, z]; all_goals tactic => exact rfl))
            · have q2 : ((d : Int) = ((2 ^ l.ls.length : Nat) : Int) - 1) = False := eq_false (fun hc => hfull ((full_iff hd).2 (by omega)))
              have l1 := l1 (-1)
              have rz := rf_eq g p hd (by have := pop_le d l.ls.length; omega)
              sym =>
                simp [Za,Zb,Zc,Zf,Zh,Zl,Zm,Zu,Z2,Z3,Z7,ZI,ZJ,ZV,Yc,Yi,Yl,Yn,Yp,Ys,Yt,Yu,Yx,YE,YF,YJ,YK,YL,YR,Xe,Xf,Xi,Xj,Xk,Wc,Wp,Ws,Wz,W0,W4,W5,W7,W8,W9,WB,WE,WF,WG,WH,WM,WN,WS,VC,VD,VE,VF,VG,VH,VI,VL,VM,VN,VO,VP,VR,VS,VT,VU,VW,VZ,Uc,Ud,Uh,Uk,Ul,Um,Ur,Us,Ut,Uu,Uv,Uw,UO,UV,UW,Te,Tf,Th,Ti,Tj,Tk,Tl,Tn,Tq,Tr,Ts,Tt,Tw,Tx,Ty,T0, z, q2, s1, s2, w2, n1, i2, i3, q1, t3, t4, up_up]
                tactic =>
                  unfold x77l1
                  rw [loop_rule l.ls.length (fun k => [.pt 0 0, I l.ls.length, rI (bL l.ls.length b), .sl 1 0 1 (2 ^ l.ls.length), I (d : Nat), I (k : Nat)]) (fun k => hA l (2 ^ l.ls.length) (upF (stF l b i) d (rfT l b d (-1) k)))]
                  · rw [rz]
                    generalize bL l.ls.length b = bl at *
                    (sym => (simp [Za,Zb,Zc,Zf,Zh,Zl,Zm,Zu,Z2,Z3,Z7,ZI,ZJ,ZV,Yc,Yi,Yl,Yn,Yp,Ys,Yt,Yu,Yx,YE,YF,YJ,YK,YL,YR,Xe,Xf,Xi,Xj,Xk,Wc,Wp,Ws,Wz,W0,W4,W5,W7,W8,W9,WB,WE,WF,WG,WH,WM,WN,WS,VC,VD,VE,VF,VG,VH,VI,VL,VM,VN,VO,VP,VR,VS,VT,VU,VW,VZ,Uc,Ud,Uh,Uk,Ul,Um,Ur,Us,Ut,Uu,Uv,Uw,UO,UV,UW,Te,Tf,Th,Ti,Tj,Tk,Tl,Tn,Tq,Tr,Ts,Tt,Tw,Tx,Ty,T0, z, w1]; all_goals tactic => exact rfl))
                  · rw [r0]
                    generalize bL l.ls.length b = bl at *
                    (sym => (simp [Za,Zb,Zc,Zf,Zh,Zl,Zm,Zu,Z2,Z3,Z7,ZI,ZJ,ZV,Yc,Yi,Yl,Yn,Yp,Ys,Yt,Yu,Yx,YE,YF,YJ,YK,YL,YR,Xe,Xf,Xi,Xj,Xk,Wc,Wp,Ws,Wz,W0,W4,W5,W7,W8,W9,WB,WE,WF,WG,WH,WM,WN,WS,VC,VD,VE,VF,VG,VH,VI,VL,VM,VN,VO,VP,VR,VS,VT,VU,VW,VZ,Uc,Ud,Uh,Uk,Ul,Um,Ur,Us,Ut,Uu,Uv,Uw,UO,UV,UW,Te,Tf,Th,Ti,Tj,Tk,Tl,Tn,Tq,Tr,Ts,Tt,Tw,Tx,Ty,T0]; all_goals tactic => exact rfl))
                  · exact l1
                  · (sym => (simp [Za,Zb,Zc,Zf,Zh,Zl,Zm,Zu,Z2,Z3,Z7,ZI,ZJ,ZV,Yc,Yi,Yl,Yn,Yp,Ys,Yt,Yu,Yx,YE,YF,YJ,YK,YL,YR,Xe,Xf,Xi,Xj,Xk,Wc,Wp,Ws,Wz,W0,W4,W5,W7,W8,W9,WB,WE,WF,WG,WH,WM,WN,WS,VC,VD,VE,VF,VG,VH,VI,VL,VM,VN,VO,VP,VR,VS,VT,VU,VW,VZ,Uc,Ud,Uh,Uk,Ul,Um,Ur,Us,Ut,Uu,Uv,Uw,UO,UV,UW,Te,Tf,Th,Ti,Tj,Tk,Tl,Tn,Tq,Tr,Ts,Tt,Tw,Tx,Ty,T0, z]; all_goals tactic => exact rfl))
        · generalize bL l.ls.length b = bl at *
          (sym => (simp [Za,Zb,Zc,Zf,Zh,Zl,Zm,Zu,Z2,Z3,Z7,ZI,ZJ,ZV,Yc,Yi,Yl,Yn,Yp,Ys,Yt,Yu,Yx,YE,YF,YJ,YK,YL,YR,Xe,Xf,Xi,Xj,Xk,Wc,Wp,Ws,Wz,W0,W4,W5,W7,W8,W9,WB,WE,WF,WG,WH,WM,WN,WS,VC,VD,VE,VF,VG,VH,VI,VL,VM,VN,VO,VP,VR,VS,VT,VU,VW,VZ,Uc,Ud,Uh,Uk,Ul,Um,Ur,Us,Ut,Uu,Uv,Uw,UO,UV,UW,Te,Tf,Th,Ti,Tj,Tk,Tl,Tn,Tq,Tr,Ts,Tt,Tw,Tx,Ty,T0, gd0]; all_goals tactic => exact rfl))
        · exact l0 _
        · (sym => (simp [Za,Zb,Zc,Zf,Zh,Zl,Zm,Zu,Z2,Z3,Z7,ZI,ZJ,ZV,Yc,Yi,Yl,Yn,Yp,Ys,Yt,Yu,Yx,YE,YF,YJ,YK,YL,YR,Xe,Xf,Xi,Xj,Xk,Wc,Wp,Ws,Wz,W0,W4,W5,W7,W8,W9,WB,WE,WF,WG,WH,WM,WN,WS,VC,VD,VE,VF,VG,VH,VI,VL,VM,VN,VO,VP,VR,VS,VT,VU,VW,VZ,Uc,Ud,Uh,Uk,Ul,Um,Ur,Us,Ut,Uu,Uv,Uw,UO,UV,UW,Te,Tf,Th,Ti,Tj,Tk,Tl,Tn,Tq,Tr,Ts,Tt,Tw,Tx,Ty,T0, z]; all_goals tactic => exact rfl))
  exact go _ rfl
theorem w77 (hf : l.Fit) (g : Good l) : runW progX 77 [.agg l.c] [] = some (rI (aL (2 ^ l.ls.length) (tabV l (behF l.ts))), []) := by
  have e76 := w76 hf g
  have hn := g.few
  have p := g.prec
  generalize behF l.ts = b at *
  have hN : 2 ^ l.ls.length ≤ 2 ^ 10 := Nat.pow_le_pow_right (by omega) hn
  have hN0 := Nat.two_pow_pos l.ls.length
  have s1 := shl_one big_i (i := l.ls.length) (by omega)
  have s2 := shl_1 big_i (i := l.ls.length) (by omega)
  have n1 := neg_n l.ls.length
  have k1 : ((0 : Int) ≤ ((2 ^ l.ls.length : Nat) : Int)) = True := eq_true (by omega)
  have k2 : (8 * ((2 ^ l.ls.length : Nat) : Int) ≤ 281474976710656) = True := eq_true (by omega)
  have k3 : (((2 ^ l.ls.length : Nat) : Int) ≤ 9223372036854775807) = True := eq_true (by omega)
  have k4 : (((2 ^ l.ls.length : Nat) : Int) ≤ ((2 ^ l.ls.length : Nat) : Int)) = True := eq_true (by omega)
  have w2 : IntKind.i64.wrap (((2 ^ l.ls.length : Nat) : Int) - 1) = ((2 ^ l.ls.length : Nat) : Int) - 1 := wrap_ok (by omega) (by omega)
  have r0 := aL_0 (2 ^ l.ls.length)
  have t4 := fun F => aL_len (2 ^ l.ls.length) F
  have f0 : stF l b 0 = fun j => if 2 ^ l.ls.length ≤ j then tabV l b j else 0 := by funext j; rfl
  have g0 : aL (2 ^ l.ls.length) (stF l b 0) = aL (2 ^ l.ls.length) fun _ => 0 := by
    unfold aL
    refine List.map_congr_left fun j hj => ?_
    have := List.mem_range.1 hj
    unfold stF
    rw [if_neg (by omega)]
  have g1 : aL (2 ^ l.ls.length) (stF l b (2 ^ l.ls.length)) = aL (2 ^ l.ls.length) (tabV l b) := by
    unfold aL
    refine List.map_congr_left fun j hj => ?_
    unfold stF
    rw [if_pos (by omega)]
  have rd : ∀ i : Nat, i < 2 ^ l.ls.length → headX 0 [1, 3, 4, 5, 6] (execW progX 77 0 none (match x77l2 with | .loop _ a => a | c => c) (envL [1, 3, 4, 5, 6] [.pt 0 0, I l.ls.length, rI (bL l.ls.length b), .sl 1 0 1 (2 ^ l.ls.length), I (((2 ^ l.ls.length : Nat) : Int) - 1 - (i : Int))]) (hA l (2 ^ l.ls.length) (stF l b i))) =
      some ([.pt 0 0, I l.ls.length, rI (bL l.ls.length b), .sl 1 0 1 (2 ^ l.ls.length), I (((2 ^ l.ls.length : Nat) : Int) - 1 - ((i + 1 : Nat) : Int))], hA l (2 ^ l.ls.length) (stF l b (i + 1))) := by
    intro i hi
    obtain ⟨d, hd⟩ : ∃ d, d + i + 1 = 2 ^ l.ls.length := ⟨2 ^ l.ls.length - 1 - i, by omega⟩
    have h := round77 g p hd
    rw [show ((2 ^ l.ls.length : Nat) : Int) - 1 - (i : Int) = (d : Int) by omega, show ((2 ^ l.ls.length : Nat) : Int) - 1 - ((i + 1 : Nat) : Int) = (d : Int) - 1 by omega]
    exact h
  have ze : ((((2 ^ l.ls.length : Nat) : Int) - 1 - ((2 ^ l.ls.length : Nat) : Int)) ≥ 0) = False := eq_false (by omega)
  have z0 : (((2 ^ l.ls.length : Nat) : Int) - 1 - ((0 : Nat) : Int)) = ((2 ^ l.ls.length : Nat) : Int) - 1 := by omega
  have zf : (((2 ^ l.ls.length : Nat) : Int) - 1 - ((2 ^ l.ls.length : Nat) : Int)) = -1 := by omega
  have c1 := aL_ch (2 ^ l.ls.length) (tabV l b)
  have t5 := aL_len (2 ^ l.ls.length) (tabV l b)
  have i3 : (2 ^ l.ls.length ≤ 2 ^ l.ls.length) = True := eq_true (Nat.le_refl _)
  rw [r77 (by simp)]; unfold x77; dsimp only
  sym =>
    simp [Za,Zb,Zf,Zg,Zh,Zj,Zl,Zm,Zn,Zu,Zy,Z2,Z5,Z8,ZC,ZE,ZM,ZN,ZR,ZS,ZX,ZZ,Yi,Yl,Ys,Yt,Yu,Y3,YE,YG,YJ,YK,YL,YR,YU,YV,Xe,Xg,Xi,Xj,Xk,Xv,XL,XP,XU,XW,We,Wp,Wq,Wr,Ws,Wt,Wu,Wv,Ww,Wx,Wy,Wz,W0,W4,W5,W7,W8,W9,WA,WB,WC,WE,WF,WG,WH,WI,WJ,WM,WN,WS,WV,WW,WX,Vf,Vg,Vh,Vi,Vj,Vk,Vl,Vn,Vo,Vq,Vs,Vu,Vw,Vx,Vz,V0,V1,V2,V3,V6,V7,V8,V9,VB,VC,VD,VE,VF,VH,VI,VK,VL,VM,VN,VO,VP,VR,VS,VT,VU,VW,VZ,Uh,Uk,Um,Uq,Ur,Us,Ut,Uu,Uv,Uw,U1,U2,U9,UA,UG,UH,UP,UQ,UT,UU,UZ,Te,Tf,Tg,Ti,Tj,Tk,Tl,Tq,Tr,Ts,Tt,Tw,Tx,Ty,Tz,T4,Sc,Sd,Se,Sn,Sq,Sr, e76, s1, s2, n1, k1, k2, k3, k4, w2, r0]
    tactic =>
      unfold x77l2
      rw [loop_rule (2 ^ l.ls.length) (fun i => [.pt 0 0, I l.ls.length, rI (bL l.ls.length b), .sl 1 0 1 (2 ^ l.ls.length), I (((2 ^ l.ls.length : Nat) : Int) - 1 - (i : Int))]) (fun i => hA l (2 ^ l.ls.length) (stF l b i))]
      · unfold hA
        rw [g1, zf]
        generalize bL l.ls.length b = bl at *
        generalize aL (2 ^ l.ls.length) (tabV l b) = al at *
        generalize 2 ^ l.ls.length = N at *
        (sym => (simp [Za,Zb,Zf,Zg,Zh,Zj,Zl,Zm,Zn,Zu,Zy,Z2,Z5,Z8,ZC,ZE,ZM,ZN,ZR,ZS,ZX,ZZ,Yi,Yl,Ys,Yt,Yu,Y3,YE,YG,YJ,YK,YL,YR,YU,YV,Xe,Xg,Xi,Xj,Xk,Xv,XL,XP,XU,XW,We,Wp,Wq,Wr,Ws,Wt,Wu,Wv,Ww,Wx,Wy,Wz,W0,W4,W5,W7,W8,W9,WA,WB,WC,WE,WF,WG,WH,WI,WJ,WM,WN,WS,WV,WW,WX,Vf,Vg,Vh,Vi,Vj,Vk,Vl,Vn,Vo,Vq,Vs,Vu,Vw,Vx,Vz,V0,V1,V2,V3,V6,V7,V8,V9,VB,VC,VD,VE,VF,VH,VI,VK,VL,VM,VN,VO,VP,VR,VS,VT,VU,VW,VZ,Uh,Uk,Um,Uq,Ur,Us,Ut,Uu,Uv,Uw,U1,U2,U9,UA,UG,UH,UP,UQ,UT,UU,UZ,Te,Tf,Tg,Ti,Tj,Tk,Tl,Tq,Tr,Ts,Tt,Tw,Tx,Ty,Tz,T4,Sc,Sd,Se,Sn,Sq,Sr, c1, t5, i3]; all_goals tactic => exact rfl))
      · unfold hA
        rw [g0, z0]
        generalize bL l.ls.length b = bl at *
        generalize (aL (2 ^ l.ls.length) fun _ => 0) = al at *
        (sym => (simp [Za,Zb,Zf,Zg,Zh,Zj,Zl,Zm,Zn,Zu,Zy,Z2,Z5,Z8,ZC,ZE,ZM,ZN,ZR,ZS,ZX,ZZ,Yi,Yl,Ys,Yt,Yu,Y3,YE,YG,YJ,YK,YL,YR,YU,YV,Xe,Xg,Xi,Xj,Xk,Xv,XL,XP,XU,XW,We,Wp,Wq,Wr,Ws,Wt,Wu,Wv,Ww,Wx,Wy,Wz,W0,W4,W5,W7,W8,W9,WA,WB,WC,WE,WF,WG,WH,WI,WJ,WM,WN,WS,WV,WW,WX,Vf,Vg,Vh,Vi,Vj,Vk,Vl,Vn,Vo,Vq,Vs,Vu,Vw,Vx,Vz,V0,V1,V2,V3,V6,V7,V8,V9,VB,VC,VD,VE,VF,VH,VI,VK,VL,VM,VN,VO,VP,VR,VS,VT,VU,VW,VZ,Uh,Uk,Um,Uq,Ur,Us,Ut,Uu,Uv,Uw,U1,U2,U9,UA,UG,UH,UP,UQ,UT,UU,UZ,Te,Tf,Tg,Ti,Tj,Tk,Tl,Tq,Tr,Ts,Tt,Tw,Tx,Ty,Tz,T4,Sc,Sd,Se,Sn,Sq,Sr]; all_goals tactic => exact rfl))
      · exact rd
      · rw [zf]
        (sym => (simp [Za,Zb,Zf,Zg,Zh,Zj,Zl,Zm,Zn,Zu,Zy,Z2,Z5,Z8,ZC,ZE,ZM,ZN,ZR,ZS,ZX,ZZ,Yi,Yl,Ys,Yt,Yu,Y3,YE,YG,YJ,YK,YL,YR,YU,YV,Xe,Xg,Xi,Xj,Xk,Xv,XL,XP,XU,XW,We,Wp,Wq,Wr,Ws,Wt,Wu,Wv,Ww,Wx,Wy,Wz,W0,W4,W5,W7,W8,W9,WA,WB,WC,WE,WF,WG,WH,WI,WJ,WM,WN,WS,WV,WW,WX,Vf,Vg,Vh,Vi,Vj,Vk,Vl,Vn,Vo,Vq,Vs,Vu,Vw,Vx,Vz,V0,V1,V2,V3,V6,V7,V8,V9,VB,VC,VD,VE,VF,VH,VI,VK,VL,VM,VN,VO,VP,VR,VS,VT,VU,VW,VZ,Uh,Uk,Um,Uq,Ur,Us,Ut,Uu,Uv,Uw,U1,U2,U9,UA,UG,UH,UP,UQ,UT,UU,UZ,Te,Tf,Tg,Ti,Tj,Tk,Tl,Tq,Tr,Ts,Tt,Tw,Tx,Ty,Tz,T4,Sc,Sd,Se,Sn,Sq,Sr]; all_goals tactic => exact rfl))
end
end Go.Proofs.YtpbeclkpohehgaaDoor
namespace Go.Proofs.YtpbeclkpohehgaaDoor
open Go Go.DL
set_option maxRecDepth 100000
set_option maxHeartbeats 4000000
/-! ### The way through the sets -/
theorem mn_ex {f : Nat → Int} : ∀ (ks : List Nat) (n : Int), ks.foldl (fun n k => mnI n (f k)) n = n ∨ ∃ k, k ∈ ks ∧ ks.foldl (fun n k => mnI n (f k)) n = f k
  | [], n => .inl rfl
  | k :: ks, n => by
    rw [List.foldl_cons]
    rcases mn_ex (f := f) ks (mnI n (f k)) with h | ⟨j, h1, h2⟩
    · rw [h]
      unfold mnI
      by_cases hc : f k < n
      · rw [if_pos hc]; exact .inr ⟨k, by simp, rfl⟩
      · rw [if_neg hc]; exact .inl rfl
    · exact .inr ⟨j, by simp [h1], h2⟩
theorem mn_le {f : Nat → Int} : ∀ (ks : List Nat) (n : Int), ks.foldl (fun n k => mnI n (f k)) n ≤ n ∧ ∀ k ∈ ks, ks.foldl (fun n k => mnI n (f k)) n ≤ f k
  | [], n => ⟨Int.le_refl _, fun k hk => by simp at hk⟩
  | k :: ks, n => by
    rw [List.foldl_cons]
    obtain ⟨h1, h2⟩ := mn_le (f := f) ks (mnI n (f k))
    have h3 : mnI n (f k) ≤ n ∧ mnI n (f k) ≤ f k := by unfold mnI; split <;> omega
    refine ⟨by omega, fun j hj => ?_⟩
    rcases List.mem_cons.1 hj with rfl | hj
    · omega
    · exact h2 j hj
theorem nx_mem {n : Nat} {b : Nat → Nat} {d k : Nat} : k ∈ (List.range n).filter (canB b d) ↔ k < n ∧ canB b d k = true := by
  rw [List.mem_filter, List.mem_range]
/-- The least worst is that of some load that comes next, and that of none is less. -/
theorem rest_le {l : Li} {b : Nat → Nat} {d k : Nat} (h : pop d l.ls.length < l.ls.length) (hk : k < l.ls.length) (hc : canB b d k = true) : rstF l b d ≤ wthF l b d k := by
  rw [rest_step h, rsT_fl]
  exact (mn_le _ _).2 k (nx_mem.2 ⟨hk, hc⟩)
theorem rest_ex {l : Li} (g : Good l) {b : Nat → Nat} (p : Prec l.ls.length b) {d : Nat} (hd : d < 2 ^ l.ls.length) (h : pop d l.ls.length < l.ls.length) : ∃ k, k < l.ls.length ∧ canB b d k = true ∧ wthF l b d k = rstF l b d := by
  obtain ⟨k0, h1, h2⟩ := can_ex p g.few hd h
  have h3 := rest_le h h1 h2
  have h4 := wth_bd g b d h1
  rw [rest_step h, rsT_fl] at *
  rcases mn_ex (f := wthF l b d) ((List.range l.ls.length).filter (canB b d)) 1000000 with h5 | ⟨k, h5, h6⟩
  · exact ⟨k0, h1, h2, by omega⟩
  · have := nx_mem.1 h5
    exact ⟨k, this.1, this.2, h6.symm⟩
theorem cl_0 (b : Nat → Nat) (n : Nat) : clB b n 0 = true := (gdN_iff _).2 fun k _ hb => by rw [Nat.zero_testBit] at hb; simp at hb
def dnA (ks : List Nat) : Nat → Nat
  | 0 => 0
  | i + 1 => dnA ks i ||| 2 ^ (ks.getD i 0)
theorem pick_ex {l : Li} (g : Good l) {b : Nat → Nat} (p : Prec l.ls.length b) {w : Int} {d : Nat} (hd : d < 2 ^ l.ls.length) (h : pop d l.ls.length < l.ls.length) (hw : rstF l b d ≤ w) : ∃ k, pickF l b w d = some k := by
  obtain ⟨k, h1, h2, h3⟩ := rest_ex g p hd h
  cases hp : pickF l b w d with
  | some k => exact ⟨k, rfl⟩
  | none =>
    have := (bst_none hp).2 k h1
    unfold goodB at this
    rw [h2, decide_eq_true (by omega)] at this
    simp at this
theorem pop_0 : ∀ n, pop 0 n = 0
  | 0 => rfl
  | n + 1 => by rw [pop, pop_0 n, Nat.zero_testBit]; simp
theorem path {l : Li} (g : Good l) {b : Nat → Nat} (p : Prec l.ls.length b) {w : Int} (hw : rstF l b 0 ≤ w) : ∀ i, i ≤ l.ls.length →
    bstF l b w (dnA (bstF l b w 0) i) = (bstF l b w 0).drop i ∧ pop (dnA (bstF l b w 0) i) l.ls.length = i ∧ dnA (bstF l b w 0) i < 2 ^ l.ls.length ∧ clB b l.ls.length (dnA (bstF l b w 0) i) = true ∧ rstF l b (dnA (bstF l b w 0) i) ≤ w
  | 0, _ => ⟨rfl, pop_0 _, Nat.two_pow_pos _, cl_0 _ _, hw⟩
  | i + 1, hi => by
    obtain ⟨h1, h2, h3, h4, h5⟩ := path g p hw i (by omega)
    obtain ⟨k, hk⟩ := pick_ex g p h3 (by omega) h5
    have hb := bst_some hk
    rw [h1] at hb
    have hd0 : (bstF l b w 0)[i]? = some k := by
      have := congrArg (fun q => q[0]?) hb.1
      simpa using this
    rw [dnA, getD_of hd0]
    refine ⟨?_, by omega, or_lt h3 hb.2.1, cl_next p g.few h3 hb.2.1 h4 hb.2.2.1, ?_⟩
    · have := congrArg (List.drop 1) hb.1
      rw [List.drop_drop] at this
      simpa using this.symm
    · have := hb.2.2.2.1
      unfold wthF mxI at this
      split at this <;> omega
theorem path_pick {l : Li} (g : Good l) {b : Nat → Nat} (p : Prec l.ls.length b) {w : Int} (hw : rstF l b 0 ≤ w) {i : Nat} (hi : i < l.ls.length) : ∃ k, (bstF l b w 0)[i]? = some k ∧ pickF l b w (dnA (bstF l b w 0) i) = some k := by
  obtain ⟨h1, h2, h3, h4, h5⟩ := path g p hw i (by omega)
  obtain ⟨k, hk⟩ := pick_ex g p h3 (by omega) h5
  have hb := bst_some hk
  rw [h1] at hb
  have := congrArg (fun q => q[0]?) hb.1
  exact ⟨k, by simpa using this, hk⟩
theorem path_len {l : Li} (g : Good l) {b : Nat → Nat} (p : Prec l.ls.length b) {w : Int} (hw : rstF l b 0 ≤ w) : (bstF l b w 0).length = l.ls.length := by
  obtain ⟨h1, h2, h3, _, _⟩ := path g p hw l.ls.length (Nat.le_refl _)
  have h0 : bstF l b w (dnA (bstF l b w 0) l.ls.length) = [] := by
    rw [bstF, h2, Nat.sub_self, bestF]
  rw [h0] at h1
  have hge := congrArg List.length h1
  rw [List.length_nil, List.length_drop] at hge
  by_cases hz : l.ls.length = 0
  · rw [bstF, pop_0, hz, bestF]; rfl
  · obtain ⟨k, hk, _⟩ := path_pick g p hw (i := l.ls.length - 1) (by omega)
    have := lt_of hk
    omega
section
variable {l : Li} {b : Nat → Nat}
abbrev hO (l : Li) (os : List Int) : XH := some (.blk true (.cells true l.c)) :: oG os
theorem skip31 (g : Good l) (p : Prec l.ls.length b) {w : Int} {d k : Nat} {os : List Int} (h0 : tabV l b 0 = w) (hd : d < 2 ^ l.ls.length) (hc : clB b l.ls.length d = true) (hk : k < l.ls.length) (hg : goodB l b w d k = false) :
    headX 0 [1, 6, 7, 8, 9, 10] (execW progX 31 0 none (match x31l0 with | .loop _ a => a | c => c) (envL [1, 6, 7, 8, 9, 10] [.pt 0 0, rI (bL l.ls.length b), rI (aL (2 ^ l.ls.length) (tabV l b)), oS 1 os, I (d : Nat), I (k : Nat)]) (hO l os)) =
      some ([.pt 0 0, rI (bL l.ls.length b), rI (aL (2 ^ l.ls.length) (tabV l b)), oS 1 os, I (d : Nat), I (k + 1 : Nat)], hO l os) := by
  have hn := g.few
  have hb : ∀ k, b k < 2 ^ 10 := fun k => lt_10 (p.lt k) hn
  have hd2 : d < 2 ^ 10 := lt_10 hd hn
  have a1 := lt_ix hk
  have a2 := up_ix hk (by omega)
  have c2 : ((k : Int) < ((bL l.ls.length b).length : Int)) = True := eq_true (by rw [bL_len]; omega)
  have s1 := bL_get (n := l.ls.length) (b := b) (k := k) hk
  have n0 := neg_n k
  have e79 := w79 g (or_lt hd hk)
  have e78 := w78 g hk (end_bd g (or_lt hd hk))
  have hl : sourF (knAt l (ldN l k)) ((ldN l k).ah + endF l (d ||| 2 ^ k)) = lastF l (d ||| 2 ^ k) k := rfl
  rw [hl] at e78
  have o1 := or_k hd2 (k := k) (by omega)
  have o2 := or_k1 hd2 (k := k) (by omega)
  have hN0 := Nat.two_pow_pos l.ls.length
  have t0 : (aL (2 ^ l.ls.length) (tabV l b))[0]? = some w := by rw [aL_get hN0, h0]
  have t4 := aL_len (2 ^ l.ls.length) (tabV l b)
  have i0 : ((0 : Int) < ((2 ^ l.ls.length : Nat) : Int)) = True := eq_true (by omega)
  have t1 : canB b d k = true → (aL (2 ^ l.ls.length) (tabV l b))[d ||| 2 ^ k]? = some (rstF l b (d ||| 2 ^ k)) := fun h => by
    rw [aL_get (or_lt hd hk), tabV, if_pos (cl_next p hn hd hk hc h)]
  have i1 : (((d ||| 2 ^ k : Nat) : Int) < ((2 ^ l.ls.length : Nat) : Int)) = True := eq_true (by have := or_lt hd hk; omega)
  unfold goodB at hg
  have hw : wthF l b d k = mxI (lastF l (d ||| 2 ^ k) k) (rstF l b (d ||| 2 ^ k)) := rfl
  rw [hw] at hg
  unfold mxI at hg
  generalize bL l.ls.length b = bl at *
  generalize aL (2 ^ l.ls.length) (tabV l b) = al at *
  generalize 2 ^ l.ls.length = N at *
  generalize endF l (d ||| 2 ^ k) = ef at *
  generalize lastF l (d ||| 2 ^ k) k = lv at *
  generalize rstF l b (d ||| 2 ^ k) = rv at *
  generalize d ||| 2 ^ k = d' at *
  unfold canB at hg t1
  unfold x31l0
  dsimp only
  rcases bit_0 (a := d) (i := k) (lo_63 hd2) (by omega) with ⟨h1, h2⟩ | ⟨h1, h2⟩
  · cases os with
    | nil => (sym => (simp [Za,Zb,Ze,Zf,Zg,Zh,Zk,Zl,Zm,Zo,Zp,Zr,Zu,Zx,Z2,Z5,Z7,ZC,ZD,ZE,ZF,ZG,ZH,ZK,ZO,ZP,ZR,ZS,ZT,ZU,ZX,ZZ,Ye,Yf,Yh,Yj,Yk,Yl,Ym,Yn,Yp,Yq,Yt,Yu,Yw,Y5,YE,YG,YJ,YK,YL,YN,Xe,Xg,Xi,Xj,Xk,Xm,Wp,Wq,Wr,Wt,Wu,Wv,Ww,Wy,Wz,W0,W4,W5,W7,W8,W9,WA,WB,WC,WE,WF,WG,WH,WI,WJ,WM,WN,WS,WV,WW,WX,WZ,Va,Vb,Vd,Vi,Vk,Vl,Vn,Vo,Vq,VC,VD,VE,VF,VG,VH,VL,VM,VN,VO,VP,VR,VS,VT,VU,VV,VW,VZ,Ud,Ue,Uf,Uh,Uk,Ul,Um,Un,Uo,Uq,Ur,Us,Ut,Uu,UP,UQ,UR,US,UT,UU,Te,Tf,Th,Tj,Tk,Tn,Tr,Ts,Tt,Ty,T8,T9,TA,TB,Sm,Sn,Sq,Sr, a1, a2, n0, h2, o1, o2]; all_goals tactic => exact rfl))
    | cons a r => (sym => (simp [Za,Zb,Ze,Zf,Zg,Zh,Zk,Zl,Zm,Zo,Zp,Zr,Zu,Zx,Z2,Z5,Z7,ZC,ZD,ZE,ZF,ZG,ZH,ZK,ZO,ZP,ZR,ZS,ZT,ZU,ZX,ZZ,Ye,Yf,Yh,Yj,Yk,Yl,Ym,Yn,Yp,Yq,Yt,Yu,Yw,Y5,YE,YG,YJ,YK,YL,YN,Xe,Xg,Xi,Xj,Xk,Xm,Wp,Wq,Wr,Wt,Wu,Wv,Ww,Wy,Wz,W0,W4,W5,W7,W8,W9,WA,WB,WC,WE,WF,WG,WH,WI,WJ,WM,WN,WS,WV,WW,WX,WZ,Va,Vb,Vd,Vi,Vk,Vl,Vn,Vo,Vq,VC,VD,VE,VF,VG,VH,VL,VM,VN,VO,VP,VR,VS,VT,VU,VV,VW,VZ,Ud,Ue,Uf,Uh,Uk,Ul,Um,Un,Uo,Uq,Ur,Us,Ut,Uu,UP,UQ,UR,US,UT,UU,Te,Tf,Th,Tj,Tk,Tn,Tr,Ts,Tt,Ty,T8,T9,TA,TB,Sm,Sn,Sq,Sr, a1, a2, n0, h2, o1, o2]; all_goals tactic => exact rfl))
  · rw [h1] at hg t1
    rcases dif_cases (x := b k) (a := d) (lo_63 (hb k)) (lo_63 hd2) with ⟨h3, h4⟩ | ⟨h3, h4⟩
    · rw [decide_eq_true h3] at hg t1
      have t1 := t1 rfl
      have h5 : ((if rv > lv then rv else lv) ≤ w) = False := eq_false (by simpa using hg)
      cases os with
      | nil => (sym => (simp [Za,Zb,Ze,Zf,Zg,Zh,Zk,Zl,Zm,Zo,Zp,Zr,Zu,Zx,Z2,Z5,Z7,ZC,ZD,ZE,ZF,ZG,ZH,ZK,ZO,ZP,ZR,ZS,ZT,ZU,ZX,ZZ,Ye,Yf,Yh,Yj,Yk,Yl,Ym,Yn,Yp,Yq,Yt,Yu,Yw,Y5,YE,YG,YJ,YK,YL,YN,Xe,Xg,Xi,Xj,Xk,Xm,Wp,Wq,Wr,Wt,Wu,Wv,Ww,Wy,Wz,W0,W4,W5,W7,W8,W9,WA,WB,WC,WE,WF,WG,WH,WI,WJ,WM,WN,WS,WV,WW,WX,WZ,Va,Vb,Vd,Vi,Vk,Vl,Vn,Vo,Vq,VC,VD,VE,VF,VG,VH,VL,VM,VN,VO,VP,VR,VS,VT,VU,VV,VW,VZ,Ud,Ue,Uf,Uh,Uk,Ul,Um,Un,Uo,Uq,Ur,Us,Ut,Uu,UP,UQ,UR,US,UT,UU,Te,Tf,Th,Tj,Tk,Tn,Tr,Ts,Tt,Ty,T8,T9,TA,TB,Sm,Sn,Sq,Sr, a1, a2, c2, s1, n0, h2, h4, o1, o2, e79, e78, t0, t1, t4, i0, i1, h5]; all_goals tactic => exact rfl))
      | cons a r => (sym => (simp [Za,Zb,Ze,Zf,Zg,Zh,Zk,Zl,Zm,Zo,Zp,Zr,Zu,Zx,Z2,Z5,Z7,ZC,ZD,ZE,ZF,ZG,ZH,ZK,ZO,ZP,ZR,ZS,ZT,ZU,ZX,ZZ,Ye,Yf,Yh,Yj,Yk,Yl,Ym,Yn,Yp,Yq,Yt,Yu,Yw,Y5,YE,YG,YJ,YK,YL,YN,Xe,Xg,Xi,Xj,Xk,Xm,Wp,Wq,Wr,Wt,Wu,Wv,Ww,Wy,Wz,W0,W4,W5,W7,W8,W9,WA,WB,WC,WE,WF,WG,WH,WI,WJ,WM,WN,WS,WV,WW,WX,WZ,Va,Vb,Vd,Vi,Vk,Vl,Vn,Vo,Vq,VC,VD,VE,VF,VG,VH,VL,VM,VN,VO,VP,VR,VS,VT,VU,VV,VW,VZ,Ud,Ue,Uf,Uh,Uk,Ul,Um,Un,Uo,Uq,Ur,Us,Ut,Uu,UP,UQ,UR,US,UT,UU,Te,Tf,Th,Tj,Tk,Tn,Tr,Ts,Tt,Ty,T8,T9,TA,TB,Sm,Sn,Sq,Sr, a1, a2, c2, s1, n0, h2, h4, o1, o2, e79, e78, t0, t1, t4, i0, i1, h5]; all_goals tactic => exact rfl))
    · cases os with
      | nil => (sym => (simp [Za,Zb,Ze,Zf,Zg,Zh,Zk,Zl,Zm,Zo,Zp,Zr,Zu,Zx,Z2,Z5,Z7,ZC,ZD,ZE,ZF,ZG,ZH,ZK,ZO,ZP,ZR,ZS,ZT,ZU,ZX,ZZ,Ye,Yf,Yh,Yj,Yk,Yl,Ym,Yn,Yp,Yq,Yt,Yu,Yw,Y5,YE,YG,YJ,YK,YL,YN,Xe,Xg,Xi,Xj,Xk,Xm,Wp,Wq,Wr,Wt,Wu,Wv,Ww,Wy,Wz,W0,W4,W5,W7,W8,W9,WA,WB,WC,WE,WF,WG,WH,WI,WJ,WM,WN,WS,WV,WW,WX,WZ,Va,Vb,Vd,Vi,Vk,Vl,Vn,Vo,Vq,VC,VD,VE,VF,VG,VH,VL,VM,VN,VO,VP,VR,VS,VT,VU,VV,VW,VZ,Ud,Ue,Uf,Uh,Uk,Ul,Um,Un,Uo,Uq,Ur,Us,Ut,Uu,UP,UQ,UR,US,UT,UU,Te,Tf,Th,Tj,Tk,Tn,Tr,Ts,Tt,Ty,T8,T9,TA,TB,Sm,Sn,Sq,Sr, a1, a2, c2, s1, n0, h2, h4, o1, o2]; all_goals tactic => exact rfl))
      | cons a r => (sym => (simp [Za,Zb,Ze,Zf,Zg,Zh,Zk,Zl,Zm,Zo,Zp,Zr,Zu,Zx,Z2,Z5,Z7,ZC,ZD,ZE,ZF,ZG,ZH,ZK,ZO,ZP,ZR,ZS,ZT,ZU,ZX,ZZ,Ye,Yf,Yh,Yj,Yk,Yl,Ym,Yn,Yp,Yq,Yt,Yu,Yw,Y5,YE,YG,YJ,YK,YL,YN,Xe,Xg,Xi,Xj,Xk,Xm,Wp,Wq,Wr,Wt,Wu,Wv,Ww,Wy,Wz,W0,W4,W5,W7,W8,W9,WA,WB,WC,WE,WF,WG,WH,WI,WJ,WM,WN,WS,WV,WW,WX,WZ,Va,Vb,Vd,Vi,Vk,Vl,Vn,Vo,Vq,VC,VD,VE,VF,VG,VH,VL,VM,VN,VO,VP,VR,VS,VT,VU,VV,VW,VZ,Ud,Ue,Uf,Uh,Uk,Ul,Um,Un,Uo,Uq,Ur,Us,Ut,Uu,UP,UQ,UR,US,UT,UU,Te,Tf,Th,Tj,Tk,Tn,Tr,Ts,Tt,Ty,T8,T9,TA,TB,Sm,Sn,Sq,Sr, a1, a2, c2, s1, n0, h2, h4, o1, o2]; all_goals tactic => exact rfl))
end
end Go.Proofs.YtpbeclkpohehgaaDoor
namespace Go.Proofs.YtpbeclkpohehgaaDoor
open Go Go.DL
set_option maxRecDepth 100000
set_option maxHeartbeats 4000000
section
variable {l : Li} {b : Nat → Nat}
theorem round31 (g : Good l) (p : Prec l.ls.length b) {w : Int} {d k : Nat} {os : List Int} (h0 : tabV l b 0 = w) (hd : d < 2 ^ l.ls.length) (hc : clB b l.ls.length d = true) (hp : pickF l b w d = some k) (ho : os.length < l.ls.length) :
    headX 0 [1, 6, 7, 8, 9] (execW progX 31 0 none (match x31l1 with | .loop _ a => a | c => c) (envL [1, 6, 7, 8, 9] [.pt 0 0, rI (bL l.ls.length b), rI (aL (2 ^ l.ls.length) (tabV l b)), oS 1 os, I (d : Nat)]) (hO l os)) =
      some ([.pt 0 0, rI (bL l.ls.length b), rI (aL (2 ^ l.ls.length) (tabV l b)), oS 1 (os ++ [(k : Int)]), I (d ||| 2 ^ k : Nat)], hO l (os ++ [(k : Int)])) := by
  have hn := g.few
  have hb : ∀ k, b k < 2 ^ 10 := fun k => lt_10 (p.lt k) hn
  have hd2 : d < 2 ^ 10 := lt_10 hd hn
  obtain ⟨_, hk, hcan, hw0, _, hno⟩ := bst_some hp
  have a1 := lt_ix hk
  have c2 : ((k : Int) < ((bL l.ls.length b).length : Int)) = True := eq_true (by rw [bL_len]; omega)
  have s1 := bL_get (n := l.ls.length) (b := b) (k := k) hk
  have n0 := neg_n k
  have e79 := w79 g (or_lt hd hk)
  have e78 := w78 g hk (end_bd g (or_lt hd hk))
  have hl : sourF (knAt l (ldN l k)) ((ldN l k).ah + endF l (d ||| 2 ^ k)) = lastF l (d ||| 2 ^ k) k := rfl
  rw [hl] at e78
  have o1 := or_k hd2 (k := k) (by omega)
  have o2 := or_k1 hd2 (k := k) (by omega)
  have hN0 := Nat.two_pow_pos l.ls.length
  have t0 : (aL (2 ^ l.ls.length) (tabV l b))[0]? = some w := by rw [aL_get hN0, h0]
  have t4 := aL_len (2 ^ l.ls.length) (tabV l b)
  have i0 : ((0 : Int) < ((2 ^ l.ls.length : Nat) : Int)) = True := eq_true (by omega)
  have t1 : (aL (2 ^ l.ls.length) (tabV l b))[d ||| 2 ^ k]? = some (rstF l b (d ||| 2 ^ k)) := by
    rw [aL_get (or_lt hd hk), tabV, if_pos (cl_next p hn hd hk hc hcan)]
  have i1 : (((d ||| 2 ^ k : Nat) : Int) < ((2 ^ l.ls.length : Nat) : Int)) = True := eq_true (by have := or_lt hd hk; omega)
  have sk := fun j (hj : j < k) => skip31 (os := os) g p h0 hd hc (k := j) (by omega) (hno j hj)
  have hw : wthF l b d k = mxI (lastF l (d ||| 2 ^ k) k) (rstF l b (d ||| 2 ^ k)) := rfl
  rw [hw] at hw0
  unfold mxI at hw0
  have hcan2 := hcan
  unfold canB at hcan2
  rw [Bool.and_eq_true, decide_eq_true_iff] at hcan2
  have q1 : (bitsA .and .i64 ((d : Int).fdiv (2 ^ min k IntKind.i64.bits)) 1 = 0) = True := by
    rcases bit_0 (a := d) (i := k) (lo_63 hd2) (by omega) with ⟨h1, _⟩ | ⟨_, h2⟩
    · rw [can_bit hcan] at h1; simp at h1
    · exact h2
  have q2 := neg_dif big_i (lo_63 (hb k)) (lo_63 hd2) hcan2.2
  generalize bL l.ls.length b = bl at *
  generalize aL (2 ^ l.ls.length) (tabV l b) = al at *
  generalize 2 ^ l.ls.length = N at *
  generalize endF l (d ||| 2 ^ k) = ef at *
  generalize lastF l (d ||| 2 ^ k) k = lv at *
  generalize rstF l b (d ||| 2 ^ k) = rv at *
  have h5 : ((if rv > lv then rv else lv) ≤ w) = True := eq_true hw0
  generalize d ||| 2 ^ k = d' at *
  unfold x31l1
  dsimp only
  rcases os with _ | ⟨a, r⟩
  · have b0 : ((0 : Int) < (l.ls.length : Int)) = True := eq_true (by simp at ho; omega)
    sym =>
      simp [Za,Zb,Zd,Ze,Zf,Zg,Zh,Zk,Zl,Zm,Zn,Zo,Zp,Zu,Zx,Z0,Z2,Z5,Z7,ZC,ZD,ZE,ZF,ZG,ZH,ZK,ZO,ZP,ZQ,ZR,ZS,ZT,ZX,ZZ,Ya,Yb,Ye,Yf,Yj,Yk,Yl,Ym,Yn,Yp,Yq,Yt,Yu,Yw,Yx,Y5,YE,YG,YJ,YK,YL,YN,YR,Xe,Xg,Xi,Xj,Xk,Xm,Wc,Wp,Wq,Wr,Ws,Wt,Wu,Wv,Ww,Wy,Wz,W0,W4,W5,W7,W8,W9,WA,WB,WC,WE,WF,WG,WH,WI,WJ,WM,WN,WS,WV,WW,WX,WZ,Va,Vb,Vd,Vi,Vk,Vl,Vn,Vo,Vq,VC,VD,VE,VF,VG,VI,VL,VM,VN,VO,VP,VR,VS,VT,VU,VV,VW,VZ,Ud,Ue,Uf,Uh,Uk,Ul,Un,Uo,Uq,Ur,Us,Ut,Uu,Uv,Uw,U3,U4,U5,U6,UB,UC,UD,UE,UI,UJ,UK,UL,UM,UN,UP,UQ,UR,US,UT,UU,UZ,Ta,Tb,Tc,Td,Te,Tf,Th,Ti,Tj,Tk,Tl,Tn,Tq,Tr,Ts,Tt,Tu,Tv,Tw,Ty,T5,T8,T9,TA,TB,Sm,Sn,Sq,Sr, b0]
      tactic =>
        unfold x31l0
        rw [loop_rule k (fun j => [.pt 0 0, rI bl, rI al, oS 1 [], I (d : Nat), I (j : Nat)]) (fun _ => hO l [])]
        · (sym => (simp [Za,Zb,Zd,Ze,Zf,Zg,Zh,Zk,Zl,Zm,Zn,Zo,Zp,Zu,Zx,Z0,Z2,Z5,Z7,ZC,ZD,ZE,ZF,ZG,ZH,ZK,ZO,ZP,ZQ,ZR,ZS,ZT,ZX,ZZ,Ya,Yb,Ye,Yf,Yj,Yk,Yl,Ym,Yn,Yp,Yq,Yt,Yu,Yw,Yx,Y5,YE,YG,YJ,YK,YL,YN,YR,Xe,Xg,Xi,Xj,Xk,Xm,Wc,Wp,Wq,Wr,Ws,Wt,Wu,Wv,Ww,Wy,Wz,W0,W4,W5,W7,W8,W9,WA,WB,WC,WE,WF,WG,WH,WI,WJ,WM,WN,WS,WV,WW,WX,WZ,Va,Vb,Vd,Vi,Vk,Vl,Vn,Vo,Vq,VC,VD,VE,VF,VG,VI,VL,VM,VN,VO,VP,VR,VS,VT,VU,VV,VW,VZ,Ud,Ue,Uf,Uh,Uk,Ul,Un,Uo,Uq,Ur,Us,Ut,Uu,Uv,Uw,U3,U4,U5,U6,UB,UC,UD,UE,UI,UJ,UK,UL,UM,UN,UP,UQ,UR,US,UT,UU,UZ,Ta,Tb,Tc,Td,Te,Tf,Th,Ti,Tj,Tk,Tl,Tn,Tq,Tr,Ts,Tt,Tu,Tv,Tw,Ty,T5,T8,T9,TA,TB,Sm,Sn,Sq,Sr, a1, c2, s1, n0, q1, q2, o1, o2, e79, e78, t0, t1, t4, i0, i1, h5]; all_goals tactic => exact rfl))
        · (sym => (simp [Za,Zb,Zd,Ze,Zf,Zg,Zh,Zk,Zl,Zm,Zn,Zo,Zp,Zu,Zx,Z0,Z2,Z5,Z7,ZC,ZD,ZE,ZF,ZG,ZH,ZK,ZO,ZP,ZQ,ZR,ZS,ZT,ZX,ZZ,Ya,Yb,Ye,Yf,Yj,Yk,Yl,Ym,Yn,Yp,Yq,Yt,Yu,Yw,Yx,Y5,YE,YG,YJ,YK,YL,YN,YR,Xe,Xg,Xi,Xj,Xk,Xm,Wc,Wp,Wq,Wr,Ws,Wt,Wu,Wv,Ww,Wy,Wz,W0,W4,W5,W7,W8,W9,WA,WB,WC,WE,WF,WG,WH,WI,WJ,WM,WN,WS,WV,WW,WX,WZ,Va,Vb,Vd,Vi,Vk,Vl,Vn,Vo,Vq,VC,VD,VE,VF,VG,VI,VL,VM,VN,VO,VP,VR,VS,VT,VU,VV,VW,VZ,Ud,Ue,Uf,Uh,Uk,Ul,Un,Uo,Uq,Ur,Us,Ut,Uu,Uv,Uw,U3,U4,U5,U6,UB,UC,UD,UE,UI,UJ,UK,UL,UM,UN,UP,UQ,UR,US,UT,UU,UZ,Ta,Tb,Tc,Td,Te,Tf,Th,Ti,Tj,Tk,Tl,Tn,Tq,Tr,Ts,Tt,Tu,Tv,Tw,Ty,T5,T8,T9,TA,TB,Sm,Sn,Sq,Sr]; all_goals tactic => exact rfl))
        · exact sk
        · (sym => (simp [Za,Zb,Zd,Ze,Zf,Zg,Zh,Zk,Zl,Zm,Zn,Zo,Zp,Zu,Zx,Z0,Z2,Z5,Z7,ZC,ZD,ZE,ZF,ZG,ZH,ZK,ZO,ZP,ZQ,ZR,ZS,ZT,ZX,ZZ,Ya,Yb,Ye,Yf,Yj,Yk,Yl,Ym,Yn,Yp,Yq,Yt,Yu,Yw,Yx,Y5,YE,YG,YJ,YK,YL,YN,YR,Xe,Xg,Xi,Xj,Xk,Xm,Wc,Wp,Wq,Wr,Ws,Wt,Wu,Wv,Ww,Wy,Wz,W0,W4,W5,W7,W8,W9,WA,WB,WC,WE,WF,WG,WH,WI,WJ,WM,WN,WS,WV,WW,WX,WZ,Va,Vb,Vd,Vi,Vk,Vl,Vn,Vo,Vq,VC,VD,VE,VF,VG,VI,VL,VM,VN,VO,VP,VR,VS,VT,VU,VV,VW,VZ,Ud,Ue,Uf,Uh,Uk,Ul,Un,Uo,Uq,Ur,Us,Ut,Uu,Uv,Uw,U3,U4,U5,U6,UB,UC,UD,UE,UI,UJ,UK,UL,UM,UN,UP,UQ,UR,US,UT,UU,UZ,Ta,Tb,Tc,Td,Te,Tf,Th,Ti,Tj,Tk,Tl,Tn,Tq,Tr,Ts,Tt,Tu,Tv,Tw,Ty,T5,T8,T9,TA,TB,Sm,Sn,Sq,Sr, a1, c2, s1, n0, q1, q2, o1, o2, e79, e78, t0, t1, t4, i0, i1, h5]; all_goals tactic => exact rfl))
  · rw [List.cons_append]
    rw [List.length_cons] at ho
    have b0 : (((r.length + 1 : Nat) : Int) < (l.ls.length : Int)) = True := eq_true (by omega)
    have b1 : ((r.length + 1 + 1) * 8 ≤ 1099511627776) = True := eq_true (by omega)
    have b2 : (r.length + 1 + 1 ≤ 1099511627776) = True := eq_true (by omega)
    sym =>
      simp [Za,Zb,Zd,Ze,Zf,Zg,Zh,Zk,Zl,Zm,Zn,Zo,Zp,Zu,Zx,Z0,Z2,Z5,Z7,ZC,ZD,ZE,ZF,ZG,ZH,ZK,ZO,ZP,ZQ,ZR,ZS,ZT,ZX,ZZ,Ya,Yb,Ye,Yf,Yj,Yk,Yl,Ym,Yn,Yp,Yq,Yt,Yu,Yw,Yx,Y5,YE,YG,YJ,YK,YL,YN,YR,Xe,Xg,Xi,Xj,Xk,Xm,Wc,Wp,Wq,Wr,Ws,Wt,Wu,Wv,Ww,Wy,Wz,W0,W4,W5,W7,W8,W9,WA,WB,WC,WE,WF,WG,WH,WI,WJ,WM,WN,WS,WV,WW,WX,WZ,Va,Vb,Vd,Vi,Vk,Vl,Vn,Vo,Vq,VC,VD,VE,VF,VG,VI,VL,VM,VN,VO,VP,VR,VS,VT,VU,VV,VW,VZ,Ud,Ue,Uf,Uh,Uk,Ul,Un,Uo,Uq,Ur,Us,Ut,Uu,Uv,Uw,U3,U4,U5,U6,UB,UC,UD,UE,UI,UJ,UK,UL,UM,UN,UP,UQ,UR,US,UT,UU,UZ,Ta,Tb,Tc,Td,Te,Tf,Th,Ti,Tj,Tk,Tl,Tn,Tq,Tr,Ts,Tt,Tu,Tv,Tw,Ty,T5,T8,T9,TA,TB,Sm,Sn,Sq,Sr, b0]
      tactic =>
        unfold x31l0
        rw [loop_rule k (fun j => [.pt 0 0, rI bl, rI al, oS 1 (a :: r), I (d : Nat), I (j : Nat)]) (fun _ => hO l (a :: r))]
        · (sym => (simp [Za,Zb,Zd,Ze,Zf,Zg,Zh,Zk,Zl,Zm,Zn,Zo,Zp,Zu,Zx,Z0,Z2,Z5,Z7,ZC,ZD,ZE,ZF,ZG,ZH,ZK,ZO,ZP,ZQ,ZR,ZS,ZT,ZX,ZZ,Ya,Yb,Ye,Yf,Yj,Yk,Yl,Ym,Yn,Yp,Yq,Yt,Yu,Yw,Yx,Y5,YE,YG,YJ,YK,YL,YN,YR,Xe,Xg,Xi,Xj,Xk,Xm,Wc,Wp,Wq,Wr,Ws,Wt,Wu,Wv,Ww,Wy,Wz,W0,W4,W5,W7,W8,W9,WA,WB,WC,WE,WF,WG,WH,WI,WJ,WM,WN,WS,WV,WW,WX,WZ,Va,Vb,Vd,Vi,Vk,Vl,Vn,Vo,Vq,VC,VD,VE,VF,VG,VI,VL,VM,VN,VO,VP,VR,VS,VT,VU,VV,VW,VZ,Ud,Ue,Uf,Uh,Uk,Ul,Un,Uo,Uq,Ur,Us,Ut,Uu,Uv,Uw,U3,U4,U5,U6,UB,UC,UD,UE,UI,UJ,UK,UL,UM,UN,UP,UQ,UR,US,UT,UU,UZ,Ta,Tb,Tc,Td,Te,Tf,Th,Ti,Tj,Tk,Tl,Tn,Tq,Tr,Ts,Tt,Tu,Tv,Tw,Ty,T5,T8,T9,TA,TB,Sm,Sn,Sq,Sr, a1, c2, s1, n0, q1, q2, o1, o2, e79, e78, t0, t1, t4, i0, i1, h5, b1, b2]; all_goals tactic => exact rfl))
        · (sym => (simp [Za,Zb,Zd,Ze,Zf,Zg,Zh,Zk,Zl,Zm,Zn,Zo,Zp,Zu,Zx,Z0,Z2,Z5,Z7,ZC,ZD,ZE,ZF,ZG,ZH,ZK,ZO,ZP,ZQ,ZR,ZS,ZT,ZX,ZZ,Ya,Yb,Ye,Yf,Yj,Yk,Yl,Ym,Yn,Yp,Yq,Yt,Yu,Yw,Yx,Y5,YE,YG,YJ,YK,YL,YN,YR,Xe,Xg,Xi,Xj,Xk,Xm,Wc,Wp,Wq,Wr,Ws,Wt,Wu,Wv,Ww,Wy,Wz,W0,W4,W5,W7,W8,W9,WA,WB,WC,WE,WF,WG,WH,WI,WJ,WM,WN,WS,WV,WW,WX,WZ,Va,Vb,Vd,Vi,Vk,Vl,Vn,Vo,Vq,VC,VD,VE,VF,VG,VI,VL,VM,VN,VO,VP,VR,VS,VT,VU,VV,VW,VZ,Ud,Ue,Uf,Uh,Uk,Ul,Un,Uo,Uq,Ur,Us,Ut,Uu,Uv,Uw,U3,U4,U5,U6,UB,UC,UD,UE,UI,UJ,UK,UL,UM,UN,UP,UQ,UR,US,UT,UU,UZ,Ta,Tb,Tc,Td,Te,Tf,Th,Ti,Tj,Tk,Tl,Tn,Tq,Tr,Ts,Tt,Tu,Tv,Tw,Ty,T5,T8,T9,TA,TB,Sm,Sn,Sq,Sr]; all_goals tactic => exact rfl))
        · exact sk
        · (sym => (simp [Za,Zb,Zd,Ze,Zf,Zg,Zh,Zk,Zl,Zm,Zn,Zo,Zp,Zu,Zx,Z0,Z2,Z5,Z7,ZC,ZD,ZE,ZF,ZG,ZH,ZK,ZO,ZP,ZQ,ZR,ZS,ZT,ZX,ZZ,Ya,Yb,Ye,Yf,Yj,Yk,Yl,Ym,Yn,Yp,Yq,Yt,Yu,Yw,Yx,Y5,YE,YG,YJ,YK,YL,YN,YR,Xe,Xg,Xi,Xj,Xk,Xm,Wc,Wp,Wq,Wr,Ws,Wt,Wu,Wv,Ww,Wy,Wz,W0,W4,W5,W7,W8,W9,WA,WB,WC,WE,WF,WG,WH,WI,WJ,WM,WN,WS,WV,WW,WX,WZ,Va,Vb,Vd,Vi,Vk,Vl,Vn,Vo,Vq,VC,VD,VE,VF,VG,VI,VL,VM,VN,VO,VP,VR,VS,VT,VU,VV,VW,VZ,Ud,Ue,Uf,Uh,Uk,Ul,Un,Uo,Uq,Ur,Us,Ut,Uu,Uv,Uw,U3,U4,U5,U6,UB,UC,UD,UE,UI,UJ,UK,UL,UM,UN,UP,UQ,UR,US,UT,UU,UZ,Ta,Tb,Tc,Td,Te,Tf,Th,Ti,Tj,Tk,Tl,Tn,Tq,Tr,Ts,Tt,Tu,Tv,Tw,Ty,T5,T8,T9,TA,TB,Sm,Sn,Sq,Sr, a1, c2, s1, n0, q1, q2, o1, o2, e79, e78, t0, t1, t4, i0, i1, h5, b1, b2]; all_goals tactic => exact rfl))
end
theorem w31 (l : Li) (hf : l.Fit) : runW progX 31 [.agg l.c] [] = bestR l := by
  have e23 := w23 l hf
  unfold bestR
  by_cases hc : checkL l = 0
  · rw [if_pos hc]
    rw [hc] at e23
    have g := good_of hc
    have hn := g.few
    have e76 := w76 hf g
    have e77 := w77 hf g
    have p := g.prec
    unfold bestO minW
    generalize behF l.ts = b at *
    have h0 : tabV l b 0 = rstF l b 0 := by rw [tabV, if_pos (cl_0 b _)]
    have hle : rstF l b 0 ≤ rstF l b 0 := Int.le_refl _
    have hlen := path_len g p hle
    have hpk := fun i hi => path_pick g p hle (i := i) hi
    have hpa := fun i hi => path g p hle i hi
    have hN0 := Nat.two_pow_pos l.ls.length
    have t0 : (aL (2 ^ l.ls.length) (tabV l b))[0]? = some (rstF l b 0) := by rw [aL_get hN0, h0]
    have t4 := aL_len (2 ^ l.ls.length) (tabV l b)
    have i0 : ((0 : Int) < ((2 ^ l.ls.length : Nat) : Int)) = True := eq_true (by omega)
    generalize hw : rstF l b 0 = w at *
    generalize hks : bstF l b w 0 = ks at *
    have z := UO (n := (l.ls.length : Int))
    have rd : ∀ i, i < l.ls.length → headX 0 [1, 6, 7, 8, 9] (execW progX 31 0 none (match x31l1 with | .loop _ a => a | c => c) (envL [1, 6, 7, 8, 9] [.pt 0 0, rI (bL l.ls.length b), rI (aL (2 ^ l.ls.length) (tabV l b)), oS 1 (ofN (ks.take i)), I (dnA ks i : Nat)]) (hO l (ofN (ks.take i)))) =
        some ([.pt 0 0, rI (bL l.ls.length b), rI (aL (2 ^ l.ls.length) (tabV l b)), oS 1 (ofN (ks.take (i + 1))), I (dnA ks (i + 1) : Nat)], hO l (ofN (ks.take (i + 1)))) := by
      intro i hi
      obtain ⟨k, hk, hp⟩ := hpk i hi
      obtain ⟨_, _, h3, h4, _⟩ := hpa i (by omega)
      have e1 : ofN (ks.take (i + 1)) = ofN (ks.take i) ++ [(k : Int)] := by
        rw [List.take_add_one, hk]
        simp [ofN]
      rw [e1, dnA, getD_of hk]
      exact round31 g p h0 h3 h4 hp (by simp [ofN]; omega)
    have al : ofN (ks.take l.ls.length) = ofN ks := by rw [← hlen, List.take_length]
    have ol : (ofN ks).length = l.ls.length := by simp [ofN, hlen]
    have d0 : dnA ks 0 = 0 := rfl
    have g0 : ofN (ks.take 0) = [] := rfl
    rw [r31 (by simp)]; unfold x31; dsimp only
    sym =>
      simp [Za,Zb,Ze,Zf,Zg,Zh,Zi,Zj,Zk,Zl,Zm,Zn,Zu,Zy,Z2,Z5,Z7,ZC,ZE,ZF,ZG,ZH,ZK,ZM,ZN,ZO,ZP,ZR,ZS,ZX,ZZ,Ya,Yb,Ye,Yf,Yo,Yp,Yw,Yx,YE,YG,YH,YJ,YL,YN,YR,YU,YV,Xe,Xg,Xh,Xi,Xk,Xm,Xq,Xt,Xv,Xx,X0,XJ,XL,XP,XU,XV,XW,XY,We,Wp,Wq,Wr,Ws,Wt,Wu,Wv,Ww,Wx,Wy,Wz,W4,W5,W7,W8,W9,WA,WB,WC,WE,WF,WG,WH,WI,WJ,WM,WN,WS,WV,WW,WX,WZ,Va,Vb,Vd,Vf,Vg,Vh,Vi,Vj,Vk,Vl,Vn,Vo,Vq,Vs,Vu,Vw,Vx,Vz,V0,V1,V2,V5,V6,V7,V8,V9,VB,VC,VD,VE,VF,VG,VH,VI,VK,VL,VM,VO,VP,VR,VS,VT,VU,VV,VW,VZ,Uc,Ud,Ue,Uf,Uh,Uk,Ul,Um,Un,Uo,Uq,Ur,Us,Ut,Uu,Uv,Uw,Ux,Uy,Uz,U0,U1,U2,U9,UA,UO,UP,UQ,UR,US,UT,UU,UZ,Te,Tf,Tg,Th,Ti,Tj,Tk,Tl,Tm,Tq,Tr,Ts,Tt,Tw,Tx,Ty,Tz,T8,T9,TA,TB,TC,Sc,Sd,Se,Sn,Sq,Sr, e23, e76, e77]
      tactic =>
        unfold x31l1
        rw [loop_rule l.ls.length (fun i => [.pt 0 0, rI (bL l.ls.length b), rI (aL (2 ^ l.ls.length) (tabV l b)), oS 1 (ofN (ks.take i)), I (dnA ks i : Nat)]) (fun i => hO l (ofN (ks.take i)))]
        · rw [al]
          generalize bL l.ls.length b = bl at *
          generalize aL (2 ^ l.ls.length) (tabV l b) = al at *
          generalize 2 ^ l.ls.length = N at *
          generalize dnA ks l.ls.length = dn at *
          generalize ofN ks = os at *
          cases os with
          | nil =>
            have z1 : ((0 : Int) < (l.ls.length : Int)) = False := eq_false (by simp at ol; omega)
            (sym => (simp [Za,Zb,Ze,Zf,Zg,Zh,Zi,Zj,Zk,Zl,Zm,Zn,Zu,Zy,Z2,Z5,Z7,ZC,ZE,ZF,ZG,ZH,ZK,ZM,ZN,ZO,ZP,ZR,ZS,ZX,ZZ,Ya,Yb,Ye,Yf,Yo,Yp,Yw,Yx,YE,YG,YH,YJ,YL,YN,YR,YU,YV,Xe,Xg,Xh,Xi,Xk,Xm,Xq,Xt,Xv,Xx,X0,XJ,XL,XP,XU,XV,XW,XY,We,Wp,Wq,Wr,Ws,Wt,Wu,Wv,Ww,Wx,Wy,Wz,W4,W5,W7,W8,W9,WA,WB,WC,WE,WF,WG,WH,WI,WJ,WM,WN,WS,WV,WW,WX,WZ,Va,Vb,Vd,Vf,Vg,Vh,Vi,Vj,Vk,Vl,Vn,Vo,Vq,Vs,Vu,Vw,Vx,Vz,V0,V1,V2,V5,V6,V7,V8,V9,VB,VC,VD,VE,VF,VG,VH,VI,VK,VL,VM,VO,VP,VR,VS,VT,VU,VV,VW,VZ,Uc,Ud,Ue,Uf,Uh,Uk,Ul,Um,Un,Uo,Uq,Ur,Us,Ut,Uu,Uv,Uw,Ux,Uy,Uz,U0,U1,U2,U9,UA,UO,UP,UQ,UR,US,UT,UU,UZ,Te,Tf,Tg,Th,Ti,Tj,Tk,Tl,Tm,Tq,Tr,Ts,Tt,Tw,Tx,Ty,Tz,T8,T9,TA,TB,TC,Sc,Sd,Se,Sn,Sq,Sr, z1, t0, t4, i0]; all_goals tactic => exact rfl))
          | cons a r =>
            have z1 : (((r.length + 1 : Nat) : Int) < (l.ls.length : Int)) = False := eq_false (by simp at ol; omega)
            (sym => (simp [Za,Zb,Ze,Zf,Zg,Zh,Zi,Zj,Zk,Zl,Zm,Zn,Zu,Zy,Z2,Z5,Z7,ZC,ZE,ZF,ZG,ZH,ZK,ZM,ZN,ZO,ZP,ZR,ZS,ZX,ZZ,Ya,Yb,Ye,Yf,Yo,Yp,Yw,Yx,YE,YG,YH,YJ,YL,YN,YR,YU,YV,Xe,Xg,Xh,Xi,Xk,Xm,Xq,Xt,Xv,Xx,X0,XJ,XL,XP,XU,XV,XW,XY,We,Wp,Wq,Wr,Ws,Wt,Wu,Wv,Ww,Wx,Wy,Wz,W4,W5,W7,W8,W9,WA,WB,WC,WE,WF,WG,WH,WI,WJ,WM,WN,WS,WV,WW,WX,WZ,Va,Vb,Vd,Vf,Vg,Vh,Vi,Vj,Vk,Vl,Vn,Vo,Vq,Vs,Vu,Vw,Vx,Vz,V0,V1,V2,V5,V6,V7,V8,V9,VB,VC,VD,VE,VF,VG,VH,VI,VK,VL,VM,VO,VP,VR,VS,VT,VU,VV,VW,VZ,Uc,Ud,Ue,Uf,Uh,Uk,Ul,Um,Un,Uo,Uq,Ur,Us,Ut,Uu,Uv,Uw,Ux,Uy,Uz,U0,U1,U2,U9,UA,UO,UP,UQ,UR,US,UT,UU,UZ,Te,Tf,Tg,Th,Ti,Tj,Tk,Tl,Tm,Tq,Tr,Ts,Tt,Tw,Tx,Ty,Tz,T8,T9,TA,TB,TC,Sc,Sd,Se,Sn,Sq,Sr, z1, t0, t4, i0]; all_goals tactic => exact rfl))
        · rw [g0]
          generalize bL l.ls.length b = bl at *
          generalize aL (2 ^ l.ls.length) (tabV l b) = al at *
          (sym => (simp [Za,Zb,Ze,Zf,Zg,Zh,Zi,Zj,Zk,Zl,Zm,Zn,Zu,Zy,Z2,Z5,Z7,ZC,ZE,ZF,ZG,ZH,ZK,ZM,ZN,ZO,ZP,ZR,ZS,ZX,ZZ,Ya,Yb,Ye,Yf,Yo,Yp,Yw,Yx,YE,YG,YH,YJ,YL,YN,YR,YU,YV,Xe,Xg,Xh,Xi,Xk,Xm,Xq,Xt,Xv,Xx,X0,XJ,XL,XP,XU,XV,XW,XY,We,Wp,Wq,Wr,Ws,Wt,Wu,Wv,Ww,Wx,Wy,Wz,W4,W5,W7,W8,W9,WA,WB,WC,WE,WF,WG,WH,WI,WJ,WM,WN,WS,WV,WW,WX,WZ,Va,Vb,Vd,Vf,Vg,Vh,Vi,Vj,Vk,Vl,Vn,Vo,Vq,Vs,Vu,Vw,Vx,Vz,V0,V1,V2,V5,V6,V7,V8,V9,VB,VC,VD,VE,VF,VG,VH,VI,VK,VL,VM,VO,VP,VR,VS,VT,VU,VV,VW,VZ,Uc,Ud,Ue,Uf,Uh,Uk,Ul,Um,Un,Uo,Uq,Ur,Us,Ut,Uu,Uv,Uw,Ux,Uy,Uz,U0,U1,U2,U9,UA,UO,UP,UQ,UR,US,UT,UU,UZ,Te,Tf,Tg,Th,Ti,Tj,Tk,Tl,Tm,Tq,Tr,Ts,Tt,Tw,Tx,Ty,Tz,T8,T9,TA,TB,TC,Sc,Sd,Se,Sn,Sq,Sr, d0]; all_goals tactic => exact rfl))
        · exact rd
        · rw [al]
          generalize bL l.ls.length b = bl at *
          generalize aL (2 ^ l.ls.length) (tabV l b) = al at *
          generalize dnA ks l.ls.length = dn at *
          generalize ofN ks = os at *
          cases os with
          | nil =>
            have z1 : ((0 : Int) < (l.ls.length : Int)) = False := eq_false (by simp at ol; omega)
            (sym => (simp [Za,Zb,Ze,Zf,Zg,Zh,Zi,Zj,Zk,Zl,Zm,Zn,Zu,Zy,Z2,Z5,Z7,ZC,ZE,ZF,ZG,ZH,ZK,ZM,ZN,ZO,ZP,ZR,ZS,ZX,ZZ,Ya,Yb,Ye,Yf,Yo,Yp,Yw,Yx,YE,YG,YH,YJ,YL,YN,YR,YU,YV,Xe,Xg,Xh,Xi,Xk,Xm,Xq,Xt,Xv,Xx,X0,XJ,XL,XP,XU,XV,XW,XY,We,Wp,Wq,Wr,Ws,Wt,Wu,Wv,Ww,Wx,Wy,Wz,W4,W5,W7,W8,W9,WA,WB,WC,WE,WF,WG,WH,WI,WJ,WM,WN,WS,WV,WW,WX,WZ,Va,Vb,Vd,Vf,Vg,Vh,Vi,Vj,Vk,Vl,Vn,Vo,Vq,Vs,Vu,Vw,Vx,Vz,V0,V1,V2,V5,V6,V7,V8,V9,VB,VC,VD,VE,VF,VG,VH,VI,VK,VL,VM,VO,VP,VR,VS,VT,VU,VV,VW,VZ,Uc,Ud,Ue,Uf,Uh,Uk,Ul,Um,Un,Uo,Uq,Ur,Us,Ut,Uu,Uv,Uw,Ux,Uy,Uz,U0,U1,U2,U9,UA,UO,UP,UQ,UR,US,UT,UU,UZ,Te,Tf,Tg,Th,Ti,Tj,Tk,Tl,Tm,Tq,Tr,Ts,Tt,Tw,Tx,Ty,Tz,T8,T9,TA,TB,TC,Sc,Sd,Se,Sn,Sq,Sr, z1]; all_goals tactic => exact rfl))
          | cons a r =>
            have z1 : (((r.length + 1 : Nat) : Int) < (l.ls.length : Int)) = False := eq_false (by simp at ol; omega)
            (sym => (simp [Za,Zb,Ze,Zf,Zg,Zh,Zi,Zj,Zk,Zl,Zm,Zn,Zu,Zy,Z2,Z5,Z7,ZC,ZE,ZF,ZG,ZH,ZK,ZM,ZN,ZO,ZP,ZR,ZS,ZX,ZZ,Ya,Yb,Ye,Yf,Yo,Yp,Yw,Yx,YE,YG,YH,YJ,YL,YN,YR,YU,YV,Xe,Xg,Xh,Xi,Xk,Xm,Xq,Xt,Xv,Xx,X0,XJ,XL,XP,XU,XV,XW,XY,We,Wp,Wq,Wr,Ws,Wt,Wu,Wv,Ww,Wx,Wy,Wz,W4,W5,W7,W8,W9,WA,WB,WC,WE,WF,WG,WH,WI,WJ,WM,WN,WS,WV,WW,WX,WZ,Va,Vb,Vd,Vf,Vg,Vh,Vi,Vj,Vk,Vl,Vn,Vo,Vq,Vs,Vu,Vw,Vx,Vz,V0,V1,V2,V5,V6,V7,V8,V9,VB,VC,VD,VE,VF,VG,VH,VI,VK,VL,VM,VO,VP,VR,VS,VT,VU,VV,VW,VZ,Uc,Ud,Ue,Uf,Uh,Uk,Ul,Um,Un,Uo,Uq,Ur,Us,Ut,Uu,Uv,Uw,Ux,Uy,Uz,U0,U1,U2,U9,UA,UO,UP,UQ,UR,US,UT,UU,UZ,Te,Tf,Tg,Th,Ti,Tj,Tk,Tl,Tm,Tq,Tr,Ts,Tt,Tw,Tx,Ty,Tz,T8,T9,TA,TB,TC,Sc,Sd,Se,Sn,Sq,Sr, z1]; all_goals tactic => exact rfl))
  · rw [if_neg hc]
    have g := eq_false hc
    rw [r31 (by simp)]; unfold x31; dsimp only
    (sym => (simp [Za,Zb,Ze,Zf,Zg,Zh,Zi,Zj,Zk,Zl,Zm,Zn,Zu,Zy,Z2,Z5,Z7,ZC,ZE,ZF,ZG,ZH,ZK,ZM,ZN,ZO,ZP,ZR,ZS,ZX,ZZ,Ya,Yb,Ye,Yf,Yo,Yp,Yw,Yx,YE,YG,YH,YJ,YL,YN,YR,YU,YV,Xe,Xg,Xh,Xi,Xk,Xm,Xq,Xt,Xv,Xx,X0,XJ,XL,XP,XU,XV,XW,XY,We,Wp,Wq,Wr,Ws,Wt,Wu,Wv,Ww,Wx,Wy,Wz,W4,W5,W7,W8,W9,WA,WB,WC,WE,WF,WG,WH,WI,WJ,WM,WN,WS,WV,WW,WX,WZ,Va,Vb,Vd,Vf,Vg,Vh,Vi,Vj,Vk,Vl,Vn,Vo,Vq,Vs,Vu,Vw,Vx,Vz,V0,V1,V2,V5,V6,V7,V8,V9,VB,VC,VD,VE,VF,VG,VH,VI,VK,VL,VM,VO,VP,VR,VS,VT,VU,VV,VW,VZ,Uc,Ud,Ue,Uf,Uh,Uk,Ul,Um,Un,Uo,Uq,Ur,Us,Ut,Uu,Uv,Uw,Ux,Uy,Uz,U0,U1,U2,U9,UA,UO,UP,UQ,UR,US,UT,UU,UZ,Te,Tf,Tg,Th,Ti,Tj,Tk,Tl,Tm,Tq,Tr,Ts,Tt,Tw,Tx,Ty,Tz,T8,T9,TA,TB,TC,Sc,Sd,Se,Sn,Sq,Sr, e23, g]; all_goals tactic => exact rfl))
end Go.Proofs.YtpbeclkpohehgaaDoor
namespace Go.Proofs.YtpbeclkpohehgaaDoor
open Go Go.DL
set_option maxRecDepth 100000
set_option maxHeartbeats 4000000

/-- A heap behind a round, and what the loop's head makes of it. -/
structure HomeF (n : Nat) (M K : Nat → XH) : Prop where
  hat : ∀ a, hat (M a) n = cU a
  set : ∀ a b, (M a).set n (cU b) = M b
  head : ∀ (a : Nat) (e : Env), e 0 = .fn (.yield 0) [] [] → e 1 = .pt n 0 → headX (n + 1) [0, 1] (some (.normal, e, M a)) = some ([.fn (.yield 0) [] [], .pt n 0], K a)
def YdF (K K' : Nat → XH) (v : Nat) (b : Bool) : Prop := ∀ a : Nat, callX (runW progX) (runYW progX) (.fn (.yield 0) [] []) [I v] (K a) = some (.bool b, K' a)
theorem roundF {n : Nat} {K M K' : Nat → XH} {a : Nat} (h1 : hat (K a) n = cU a) (g' : HomeF n M K') (ha : a < 1024) (h0 : a ≠ 0) (hy : YdF K M (lowB a) true) :
    headX (n + 1) [0, 1] (execW progX 106 (n + 1) none (match x106l0 with | .loop _ a => a | c => c) (envL [0, 1] [.fn (.yield 0) [] [], .pt n 0]) (K a)) = some ([.fn (.yield 0) [] [], .pt n 0], K' (a &&& (a - 1))) := by
  have h2 := g'.hat a
  have h3 := g'.set a
  have h4 := hy a
  have t := w107 ha h0
  have n0 : ((a : Int) = 0) = False := eq_false (by omega)
  have u1 : IntKind.u64.wrap ((a : Int) - 1) = ((a - 1 : Nat) : Int) := by
    rw [show (a : Int) - 1 = ((a - 1 : Nat) : Int) by omega]; exact big_wrap big_u (by omega)
  have u2 := bits_and big_u (a := a) (b := a - 1) (by omega) (by omega)
  have hd := g'.head (a &&& (a - 1))
  unfold x106l0
  dsimp only
  sym =>
    simp [Za,Zb,Zc,Zf,Zg,Zh,Zj,Zl,Zm,Zu,Z2,Z3,ZE,ZI,ZJ,ZM,ZN,ZR,ZS,ZV,Yi,Yj,Yo,YE,YR,Xe,Wc,Wq,Wr,Wt,Wv,Ww,Wy,W7,WA,WC,WI,WJ,WV,WW,WX,Vi,Vk,Vl,Vn,Vo,Vq,VC,VF,VG,VH,VL,VM,VO,VP,VS,VT,VZ,Uc,Ud,Uh,Um,Uq,Ur,Us,Ut,Uu,Uv,Uw,U3,UP,UQ,UU,UV,UW,Te,Tf,Th,Tj,Tk,Tn,Ts,Tt,Sn,Sq,Sr, h1, h2, t, h4, n0, u1, u2, h3]
    tactic => exact hd _ rfl rfl
/-- A loop that ends behind all loads. -/
theorem eachF {n : Nat} {G : Nat → Nat → XH} {a : Nat} {X : XH} (ha : a < 1024) (l0 : (G 0 a).length = n + 1) (g0 : HomeF n (G 0) (G 0)) (gh : ∀ i, i ≤ (el a).length → ∀ a, hat (G i a) n = cU a) (hf : finX false (n + 1) (.tup []) (G (el a).length 0) = (.tup [], X)) (hy : ∀ i v, (el a)[i]? = some v → ∃ M, YdF (G i) M v true ∧ HomeF n M (G (i + 1))) :
    runW progX 106 [.fn (.yield 0) [] [], .pt n 0] (G 0 a) = some (.tup [], X) := by
  have h1 := gh (el a).length (by omega) 0
  have h1 : hat (G (el a).length 0) n = some (.blk true (.cells true [.int .u64 0])) := h1
  have c0 := cut_end ha
  rw [r106 (by simp)]; unfold x106; dsimp only
  rw [l0]
  unfold x106l0
  sym =>
    simp [Za,Zb,Zf,Zh,Zl,Zm,Z2,ZE,Yo,XX,Wb,Wq,Wr,Wy,Vv,Vx,V2,V4,V6,VC,VF,VH,VI,VK,Uc,Ul,U1,U2,UP,UQ,UU,Te,Tf,Ti,Tj,Tk,Tl,Tq,Ts,Tt]
    tactic =>
      rw [loop_rule (el a).length (fun _ => [.fn (.yield 0) [] [], .pt n 0]) (fun i => G i (cutS a i))]
      · rw [c0]
        (sym => (simp [Za,Zb,Zf,Zh,Zl,Zm,Z2,ZE,Yo,XX,Wb,Wq,Wr,Wy,Vv,Vx,V2,V4,V6,VC,VF,VH,VI,VK,Uc,Ul,U1,U2,UP,UQ,UU,Te,Tf,Ti,Tj,Tk,Tl,Tq,Ts,Tt, h1, hf]; all_goals tactic => exact rfl))
      · exact g0.head a _ rfl rfl
      · intro i hi
        obtain ⟨p1, p2⟩ := cut_at ha hi
        obtain ⟨M, m1, m2⟩ := hy i _ p2
        exact roundF (gh i (by omega) _) m2 (cut_lt ha i) p1 m1
      · rw [c0]
        (sym => (simp [Za,Zb,Zf,Zh,Zl,Zm,Z2,ZE,Yo,XX,Wb,Wq,Wr,Wy,Vv,Vx,V2,V4,V6,VC,VF,VH,VI,VK,Uc,Ul,U1,U2,UP,UQ,UU,Te,Tf,Ti,Tj,Tk,Tl,Tq,Ts,Tt, h1]; all_goals tactic => exact rfl))
end Go.Proofs.YtpbeclkpohehgaaDoor
namespace Go.Proofs.YtpbeclkpohehgaaDoor
open Go Go.DL
set_option maxRecDepth 100000
set_option maxHeartbeats 4000000

theorem w34s (a : List Int) (ha : a.length ≤ 9223372036854775807) : runW progX 34 [rI a, rI a] [] = some (.bool true, []) := by
  have z := UO (n := (a.length : Int))
  have rd : ∀ i, i < a.length → headX 0 [0, 1, 5] (execW progX 34 0 none (match x34l0 with | .loop _ a => a | c => c) (envL [0, 1, 5] [rI a, rI a, I (i : Nat)]) []) = some ([rI a, rI a, I (i + 1 : Nat)], []) := by
    intro i hi
    obtain ⟨x, hx⟩ := at_ix hi
    have a1 := lt_ix hi
    have a2 := up_ix hi ha
    unfold x34l0
    dsimp only
    (sym => (simp [yC_nm, yC_rn, yM_s, yC_gr, yC_sl, yC_fz, yC_len, yC_0, yC_1, yC_2, yC_3, yC_4, yC_15, yC_same, Za,Zb,Zf,Zh,Zi,Zl,Zm,Zu,Z2,Z7,ZC,ZG,ZH,ZZ,Ye,Yf,Yh,Yo,Yp,Yt,Yu,Yx,YE,YF,YJ,Xe,Xf,Xi,Xr,XQ,XW,Wx,Wy,W7,WB,WC,WF,WG,Vi,Vw,Vx,Vz,V0,V1,V2,V3,V6,V7,V8,V9,VB,VC,VD,VE,VF,VG,VH,VI,VK,VL,VM,VP,VR,VS,VT,VU,VV,VW,Uc,Uh,Ul,Um,Uq,Ur,Us,Ut,Uu,U1,U2,UO,UR,US,UU,Te,Tf,Tg,Th,Ti,Tj,Tk,Tl,Tn,Tq,Tr,Ts,Tt,Sc, a1, a2, hx]; all_goals tactic => exact rfl))
  rw [r34 (by simp)]; unfold x34; dsimp only
  sym =>
    simp [yC_nm, yC_rn, yM_s, yC_gr, yC_sl, yC_fz, yC_len, yC_0, yC_1, yC_2, yC_3, yC_4, yC_15, yC_same, Za,Zb,Zf,Zh,Zi,Zl,Zm,Zu,Z2,Z7,ZC,ZG,ZH,ZZ,Ye,Yf,Yh,Yo,Yp,Yt,Yu,Yx,YE,YF,YJ,Xe,Xf,Xi,Xr,XQ,XW,Wx,Wy,W7,WB,WC,WF,WG,Vi,Vw,Vx,Vz,V0,V1,V2,V3,V6,V7,V8,V9,VB,VC,VD,VE,VF,VG,VH,VI,VK,VL,VM,VP,VR,VS,VT,VU,VV,VW,Uc,Uh,Ul,Um,Uq,Ur,Us,Ut,Uu,U1,U2,UO,UR,US,UU,Te,Tf,Tg,Th,Ti,Tj,Tk,Tl,Tn,Tq,Tr,Ts,Tt,Sc]
    tactic =>
      unfold x34l0
      rw [loop_rule a.length (fun i => [rI a, rI a, I (i : Nat)]) (fun _ => [])]
      · (sym => (simp [yC_nm, yC_rn, yM_s, yC_gr, yC_sl, yC_fz, yC_len, yC_0, yC_1, yC_2, yC_3, yC_4, yC_15, yC_same, Za,Zb,Zf,Zh,Zi,Zl,Zm,Zu,Z2,Z7,ZC,ZG,ZH,ZZ,Ye,Yf,Yh,Yo,Yp,Yt,Yu,Yx,YE,YF,YJ,Xe,Xf,Xi,Xr,XQ,XW,Wx,Wy,W7,WB,WC,WF,WG,Vi,Vw,Vx,Vz,V0,V1,V2,V3,V6,V7,V8,V9,VB,VC,VD,VE,VF,VG,VH,VI,VK,VL,VM,VP,VR,VS,VT,VU,VV,VW,Uc,Uh,Ul,Um,Uq,Ur,Us,Ut,Uu,U1,U2,UO,UR,US,UU,Te,Tf,Tg,Th,Ti,Tj,Tk,Tl,Tn,Tq,Tr,Ts,Tt,Sc, z]; all_goals tactic => exact rfl))
      · (sym => (simp [yC_nm, yC_rn, yM_s, yC_gr, yC_sl, yC_fz, yC_len, yC_0, yC_1, yC_2, yC_3, yC_4, yC_15, yC_same, Za,Zb,Zf,Zh,Zi,Zl,Zm,Zu,Z2,Z7,ZC,ZG,ZH,ZZ,Ye,Yf,Yh,Yo,Yp,Yt,Yu,Yx,YE,YF,YJ,Xe,Xf,Xi,Xr,XQ,XW,Wx,Wy,W7,WB,WC,WF,WG,Vi,Vw,Vx,Vz,V0,V1,V2,V3,V6,V7,V8,V9,VB,VC,VD,VE,VF,VG,VH,VI,VK,VL,VM,VP,VR,VS,VT,VU,VV,VW,Uc,Uh,Ul,Um,Uq,Ur,Us,Ut,Uu,U1,U2,UO,UR,US,UU,Te,Tf,Tg,Th,Ti,Tj,Tk,Tl,Tn,Tq,Tr,Ts,Tt,Sc]; all_goals tactic => exact rfl))
      · exact rd
      · (sym => (simp [yC_nm, yC_rn, yM_s, yC_gr, yC_sl, yC_fz, yC_len, yC_0, yC_1, yC_2, yC_3, yC_4, yC_15, yC_same, Za,Zb,Zf,Zh,Zi,Zl,Zm,Zu,Z2,Z7,ZC,ZG,ZH,ZZ,Ye,Yf,Yh,Yo,Yp,Yt,Yu,Yx,YE,YF,YJ,Xe,Xf,Xi,Xr,XQ,XW,Wx,Wy,W7,WB,WC,WF,WG,Vi,Vw,Vx,Vz,V0,V1,V2,V3,V6,V7,V8,V9,VB,VC,VD,VE,VF,VG,VH,VI,VK,VL,VM,VP,VR,VS,VT,VU,VV,VW,Uc,Uh,Ul,Um,Uq,Ur,Us,Ut,Uu,U1,U2,UO,UR,US,UU,Te,Tf,Tg,Th,Ti,Tj,Tk,Tl,Tn,Tq,Tr,Ts,Tt,Sc, z]; all_goals tactic => exact rfl))
theorem ofN_ix {ks : List Nat} {i v : Nat} (h : ks[i]? = some v) : (ofN ks)[i]? = some (v : Int) := by
  unfold ofN
  rw [List.getElem?_map, h]; rfl
theorem ofN_len (ks : List Nat) : (ofN ks).length = ks.length := by simp [ofN]
/-! ### A set as a list -/
abbrev gCn (a : Nat) : XH := [some (.loop 109 0 [.pt 1 0] .ready), some (.blk true (.cells true [.nilsl])), cU a]
abbrev gCc (x : Int) (r : List Int) (a : Nat) : XH := [some (.loop 109 0 [.pt 1 0] .ready), some (.blk false (.cells true [.sl 3 0 1 (r.length + 1)])), cU a, some (.blk true (.cells true (I x :: r.map I)))]
abbrev gCm (x : Int) (r : List Int) (a : Nat) : XH := [some (.loop 109 0 [.pt 1 0] .ready), some (.blk false (.cells true [.sl 4 0 1 (r.length + 1)])), cU a, none, some (.blk true (.cells true (I x :: r.map I)))]
def gC : List Int → Nat → XH
  | [] => gCn
  | x :: r => gCc x r
theorem homeCn : HomeF 2 gCn gCn := by
  refine ⟨fun _ => rfl, fun _ _ => rfl, ?_⟩
  intro a e h0 h1
  (sym => (simp [yC_nm, yC_rn, yM_s, yC_gr, yC_sl, yC_fz, yC_len, yC_0, yC_1, yC_2, yC_3, yC_4, yC_15, yC_same, YL,YQ,Xk,Xp,Wz,W5,W7,W9,WB,WC,WE,WF,WG,WM,WN,WP,WR,WS,WU,VD,VE,VL,VM,VN,VO,VP,VQ,VR,Uk,Uq,Ur,Us,Ut,Uu,Tr, h0, h1]; all_goals tactic => exact rfl))
theorem homeCc (x : Int) (r : List Int) : HomeF 2 (gCc x r) (gCc x r) := by
  refine ⟨fun _ => rfl, fun _ _ => rfl, ?_⟩
  intro a e h0 h1
  (sym => (simp [yC_nm, yC_rn, yM_s, yC_gr, yC_sl, yC_fz, yC_len, yC_0, yC_1, yC_2, yC_3, yC_4, yC_15, yC_same, YK,YL,YQ,Xj,Xk,Xp,Wp,Wz,W4,W5,W7,W8,W9,WB,WE,WF,WG,WH,WM,WN,WO,WP,WR,WS,WT,WU,VD,VE,VL,VM,VN,VO,VP,VQ,VR,VW,Uk,Ur,Us,Ut,Uu,Tr, h0, h1]; all_goals tactic => exact rfl))
theorem homeCm (x : Int) (r : List Int) : HomeF 2 (gCm x r) (gCc x r) := by
  refine ⟨fun _ => rfl, fun _ _ => rfl, ?_⟩
  intro a e h0 h1
  (sym => (simp [yC_nm, yC_rn, yM_s, yC_gr, yC_sl, yC_fz, yC_len, yC_0, yC_1, yC_2, yC_3, yC_4, yC_15, yC_same, YK,YL,YQ,Xj,Xk,Xp,Wp,Wz,W4,W5,W7,W8,W9,WB,WE,WF,WG,WH,WM,WN,WO,WP,WR,WS,WT,WU,VD,VE,VL,VM,VN,VO,VP,VQ,VR,VW,Uk,Ur,Us,Ut,Uu,Tr, h0, h1]; all_goals tactic => exact rfl))
theorem yCn (v : Nat) : YdF gCn (gCc (v : Int) []) v true := by
  have y : runYW progX (.fn (.yield 0) [] []) [I (v : Nat)] [some (.loop 109 0 [.pt 1 0] .ready), some (.blk true (.cells true [.nilsl]))] = some (.bool true, [some (.loop 109 0 [.pt 1 0] .ready), some (.blk false (.cells true [.sl 2 0 1 1])), some (.blk true (.cells true [I (v : Nat)]))]) := by
    rw [runYW_eq (K := 109) (d := x109) (site := 0) (vs := [.pt 1 0]) rfl rfl (by rfl) rfl]
    (sym => (simp [yC_nm, yC_rn, yM_s, yC_gr, yC_sl, yC_fz, yC_len, yC_0, yC_1, yC_2, yC_3, yC_4, yC_15, yC_same, Za,Zb,Zc,Zd,Ze,Zf,Zg,Zh,Zj,Zl,Zm,Zn,Zu,Z0,ZE,ZI,ZJ,ZQ,YE,YF,YK,YL,YQ,YR,YX,Xe,Xf,Xj,Xk,Xp,Xq,XP,Wc,Wg,Wp,Wq,Wr,Ws,Wt,Wu,Wv,Ww,Wy,Wz,W0,W3,W4,W5,W6,W7,W8,W9,WA,WB,WE,WF,WG,WH,WI,WJ,WK,WM,WN,WO,WP,WR,WS,WT,WU,WV,WW,WX,WY,Vi,Vk,Vl,Vm,Vy,V1,VC,VL,VM,VN,VO,VP,VQ,VR,VS,VT,VW,VZ,Ub,Uh,Uk,Un,Uo,Ur,Us,Ut,Uu,Uv,Uw,U3,U4,U5,U6,U7,U8,UB,UC,UD,UE,UI,UJ,UK,UL,UP,UQ,UU,UV,UW,UZ,Tb,Tc,Td,Tj,Tn,Ts,T5,TD,TE,TF,TG,TQ,TR,TS,TT,TU,Sc,Sn,Sq,Ss]; all_goals tactic => exact rfl))
  intro a
  (sym => (simp [yC_nm, yC_rn, yM_s, yC_gr, yC_sl, yC_fz, yC_len, yC_0, yC_1, yC_2, yC_3, yC_4, yC_15, yC_same, Za,Zb,Zc,Zd,Ze,Zf,Zg,Zh,Zj,Zl,Zm,Zn,Zu,Z0,ZE,ZI,ZJ,ZQ,YE,YF,YK,YL,YQ,YR,YX,Xe,Xf,Xj,Xk,Xp,Xq,XP,Wc,Wg,Wp,Wq,Wr,Ws,Wt,Wu,Wv,Ww,Wy,Wz,W0,W3,W4,W5,W6,W7,W8,W9,WA,WB,WE,WF,WG,WH,WI,WJ,WK,WM,WN,WO,WP,WR,WS,WT,WU,WV,WW,WX,WY,Vi,Vk,Vl,Vm,Vy,V1,VC,VL,VM,VN,VO,VP,VQ,VR,VS,VT,VW,VZ,Ub,Uh,Uk,Un,Uo,Ur,Us,Ut,Uu,Uv,Uw,U3,U4,U5,U6,U7,U8,UB,UC,UD,UE,UI,UJ,UK,UL,UP,UQ,UU,UV,UW,UZ,Tb,Tc,Td,Tj,Tn,Ts,T5,TD,TE,TF,TG,TQ,TR,TS,TT,TU,Sc,Sn,Sq,Ss, y]; all_goals tactic => exact rfl))
theorem yCc (v : Nat) (x : Int) (r : List Int) (hr : r.length ≤ 10) : YdF (gCc x r) (gCm x (r ++ [(v : Int)])) v true := by
  have b1 : ((r.length + 1 + 1) * 8 ≤ 1099511627776) = True := eq_true (by omega)
  have b2 : (r.length + 1 + 1 ≤ 1099511627776) = True := eq_true (by omega)
  have y : runYW progX (.fn (.yield 0) [] []) [I (v : Nat)] [some (.loop 109 0 [.pt 1 0] .ready), some (.blk false (.cells true [.sl 2 0 1 (r.length + 1)])), some (.blk true (.cells true (I x :: r.map I)))] = some (.bool true, [some (.loop 109 0 [.pt 1 0] .ready), some (.blk false (.cells true [.sl 3 0 1 (r.length + 1 + 1)])), none, some (.blk true (.cells true (I x :: (r.map I ++ [I (v : Nat)]))))]) := by
    rw [runYW_eq (K := 109) (d := x109) (site := 0) (vs := [.pt 1 0]) rfl rfl (by rfl) rfl]
    (sym => (simp [yC_nm, yC_rn, yM_s, yC_gr, yC_sl, yC_fz, yC_len, yC_0, yC_1, yC_2, yC_3, yC_4, yC_15, yC_same, Za,Zb,Zc,Zd,Ze,Zf,Zg,Zh,Zj,Zl,Zm,Zn,Zu,Z0,ZE,ZI,ZJ,ZQ,YE,YF,YK,YL,YQ,YR,YX,Xe,Xf,Xj,Xk,Xp,Xq,XP,Wc,Wg,Wp,Wq,Wr,Ws,Wt,Wu,Wv,Ww,Wy,Wz,W0,W3,W4,W5,W6,W7,W8,W9,WA,WB,WE,WF,WG,WH,WI,WJ,WK,WL,WM,WN,WO,WP,WQ,WR,WS,WT,WU,WV,WW,WX,WY,Vi,Vk,Vl,Vm,Vy,V1,VC,VL,VM,VN,VO,VP,VQ,VR,VS,VT,VU,VW,VZ,Ub,Uh,Uk,Un,Uo,Ur,Us,Ut,Uu,Uv,Uw,U3,U4,U5,U6,U7,U8,UB,UC,UD,UE,UI,UJ,UK,UM,UN,UP,UQ,UU,UV,UW,UZ,Ta,Tb,Tc,Tj,Tn,Ts,Tu,Tv,Tw,T5,TD,TE,TF,TG,TQ,TR,TS,TT,TU,Sc,Sn,Sq,Ss, b1, b2]; all_goals tactic => exact rfl))
  intro a
  (sym => (simp [yC_nm, yC_rn, yM_s, yC_gr, yC_sl, yC_fz, yC_len, yC_0, yC_1, yC_2, yC_3, yC_4, yC_15, yC_same, Za,Zb,Zc,Zd,Ze,Zf,Zg,Zh,Zj,Zl,Zm,Zn,Zu,Z0,ZE,ZI,ZJ,ZQ,YE,YF,YK,YL,YQ,YR,YX,Xe,Xf,Xj,Xk,Xp,Xq,XP,Wc,Wg,Wp,Wq,Wr,Ws,Wt,Wu,Wv,Ww,Wy,Wz,W0,W3,W4,W5,W6,W7,W8,W9,WA,WB,WE,WF,WG,WH,WI,WJ,WK,WL,WM,WN,WO,WP,WQ,WR,WS,WT,WU,WV,WW,WX,WY,Vi,Vk,Vl,Vm,Vy,V1,VC,VL,VM,VN,VO,VP,VQ,VR,VS,VT,VU,VW,VZ,Ub,Uh,Uk,Un,Uo,Ur,Us,Ut,Uu,Uv,Uw,U3,U4,U5,U6,U7,U8,UB,UC,UD,UE,UI,UJ,UK,UM,UN,UP,UQ,UU,UV,UW,UZ,Ta,Tb,Tc,Tj,Tn,Ts,Tu,Tv,Tw,T5,TD,TE,TF,TG,TQ,TR,TS,TT,TU,Sc,Sn,Sq,Ss, y]; all_goals tactic => exact rfl))
theorem gC_fin (os : List Int) : finX false 3 (.tup []) (gC os 0) = (.tup [], gC os 0) := by
  cases os with
  | nil => unfold gC; (sym => (simp [yC_nm, yC_rn, yM_s, yC_gr, yC_sl, yC_fz, yC_len, yC_0, yC_1, yC_2, yC_3, yC_4, yC_15, yC_same, Za,Yx,YH,YK,YL,Xh,Xj,Xk,Xt,XV,Wp,Wz,W4,W5,W7,W8,W9,WB,WC,WE,WF,WG,WH,WM,WN,WO,WP,WR,WS,WT,WU,Vi,Vz,V0,V1,VL,VM,VN,VO,VP,VQ,VR,VW,Uk,Uq,Ur,Us,Ut,Uu,Ux,U1,Sc]; all_goals tactic => exact rfl))
  | cons x r => unfold gC; (sym => (simp [yC_nm, yC_rn, yM_s, yC_gr, yC_sl, yC_fz, yC_len, yC_0, yC_1, yC_2, yC_3, yC_4, yC_15, yC_same, Za,Yx,YH,YK,YL,Xh,Xj,Xk,Xt,XV,Wp,Wz,W4,W5,W7,W8,W9,WB,WC,WE,WF,WG,WH,WM,WN,WO,WP,WR,WS,WT,WU,Vi,Vz,V0,V1,VL,VM,VN,VO,VP,VQ,VR,VW,Uk,Uq,Ur,Us,Ut,Uu,Ux,U1,Sc]; all_goals tactic => exact rfl))
theorem w109 {a : Nat} (ha : a < 1024) : runW progX 109 [.nilsl, .fn (.func 106) [] [.pt 0 0]] [cU a] = some (rI (ofN (el a)), [some (.blk true (.cells true [.int .u64 0]))]) := by
  have e := eachF (n := 2) (G := fun i => gC (ofN ((el a).take i))) (X := gC (ofN (el a)) 0) ha rfl homeCn
    (by intro i _ c; cases ofN ((el a).take i) <;> rfl)
    (by
      show finX false 3 (.tup []) (gC (ofN ((el a).take (el a).length)) 0) = _
      rw [List.take_length]
      exact gC_fin _)
    (by
      intro i v hv
      have e1 : ofN ((el a).take (i + 1)) = ofN ((el a).take i) ++ [(v : Int)] := by
        rw [List.take_add_one, hv]
        simp [ofN]
      have hl := ofN_len ((el a).take i)
      have hl2 := el_len a
      rw [List.length_take] at hl
      rw [e1]
      generalize ofN ((el a).take i) = os at *
      rcases os with _ | ⟨x, r⟩
      · exact ⟨_, yCn v, homeCc _ _⟩
      · exact ⟨_, yCc v x r (by simp at hl; omega), homeCm _ _⟩)
  have e : runW progX 106 [.fn (.yield 0) [] [], .pt 2 0] [some (.loop 109 0 [.pt 1 0] .ready), some (.blk true (.cells true [.nilsl])), cU a] = some (.tup [], gC (ofN (el a)) 0) := e
  generalize ofN (el a) = os at *
  rw [r109 (by simp)]; unfold x109; dsimp only
  rcases os with _ | ⟨x, r⟩
  · have e : runW progX 106 [.fn (.yield 0) [] [], .pt 2 0] [some (.loop 109 0 [.pt 1 0] .ready), some (.blk true (.cells true [.nilsl])), cU a] = some (.tup [], [some (.loop 109 0 [.pt 1 0] .ready), some (.blk true (.cells true [.nilsl])), some (.blk true (.cells true [.int .u64 0]))]) := e
    (sym => (simp [yC_nm, yC_rn, yM_s, yC_gr, yC_sl, yC_fz, yC_len, yC_0, yC_1, yC_2, yC_3, yC_4, yC_15, yC_same, Za,Zb,Zf,Zh,Zl,Zm,Zn,Zu,Zy,ZE,ZR,ZS,YJ,YL,YQ,YV,Xa,Xh,Xi,Xj,Xk,Xp,Xv,Xx,XL,XW,XY,Wj,Wp,Wq,Wr,Ws,Wv,Ww,Wx,Wy,Wz,W0,W3,W4,W6,W7,W8,W9,WA,WB,WC,WE,WF,WG,WI,WJ,WK,WM,WN,WO,WP,WR,WS,WU,WV,WW,WX,WY,Vf,Vg,Vh,Vi,Vj,Vr,Vs,Vt,Vu,Vw,Vx,Vz,V0,V1,V2,V3,V6,V7,V8,V9,VB,VL,VM,VN,VO,VP,VQ,VR,VS,VT,VU,VW,VZ,Uh,Uk,Uq,Ur,Us,Ut,Uu,Uv,Uw,Uz,U0,U9,UA,UP,UQ,UU,UZ,Tf,Tg,Tj,Tk,Tn,Ts,Tt,Tw,Tx,Tz,TC,TD,TE,TH,TK,TL,TM,TN,TO,Sc,Sd,Se, e]; all_goals tactic => exact rfl))
  · have e : runW progX 106 [.fn (.yield 0) [] [], .pt 2 0] [some (.loop 109 0 [.pt 1 0] .ready), some (.blk true (.cells true [.nilsl])), cU a] = some (.tup [], [some (.loop 109 0 [.pt 1 0] .ready), some (.blk false (.cells true [.sl 3 0 1 (r.length + 1)])), some (.blk true (.cells true [.int .u64 0])), some (.blk true (.cells true (I x :: r.map I)))]) := e
    (sym => (simp [yC_nm, yC_rn, yM_s, yC_gr, yC_sl, yC_fz, yC_len, yC_0, yC_1, yC_2, yC_3, yC_4, yC_15, yC_same, Za,Zb,Zf,Zh,Zl,Zm,Zn,Zu,Zy,ZE,ZR,ZS,YJ,YL,YQ,YV,Xa,Xh,Xi,Xj,Xk,Xp,Xv,Xx,XL,XW,XY,Wj,Wp,Wq,Wr,Ws,Wv,Ww,Wx,Wy,Wz,W0,W3,W4,W6,W7,W8,W9,WA,WB,WC,WE,WF,WG,WI,WJ,WK,WM,WN,WO,WP,WR,WS,WU,WV,WW,WX,WY,Vf,Vg,Vh,Vi,Vj,Vr,Vs,Vt,Vu,Vw,Vx,Vz,V0,V1,V2,V3,V6,V7,V8,V9,VB,VL,VM,VN,VO,VP,VQ,VR,VS,VT,VU,VW,VZ,Uh,Uk,Uq,Ur,Us,Ut,Uu,Uv,Uw,Uz,U0,U9,UA,UP,UQ,UU,UZ,Tf,Tg,Tj,Tk,Tn,Ts,Tt,Tw,Tx,Tz,TC,TD,TE,TH,TK,TL,TM,TN,TO,Sc,Sd,Se, e]; all_goals tactic => exact rfl))
theorem w85 {a : Nat} (ha : a < 1024) : runW progX 85 [.fn (.func 106) [] [.pt 0 0]] [cU a] = some (rI (ofN (el a)), [some (.blk true (.cells true [.int .u64 0]))]) := by
  have e := w109 ha
  generalize ofN (el a) = os at *
  rw [r85 (by simp)]; unfold x85; dsimp only
  (sym => (simp [yC_nm, yC_rn, yM_s, yC_gr, yC_sl, yC_fz, yC_len, yC_0, yC_1, yC_2, yC_3, yC_4, yC_15, yC_same, Za,Zb,Zf,Zh,Zl,Zu,ZM,ZN,ZR,ZS,YJ,YL,YN,YP,Xi,Xk,Xm,Xo,Xu,XW,Wa,Wp,Ws,Wv,Ww,Wx,Wz,W3,W4,W7,W8,W9,WA,WB,WC,WE,WF,WG,WI,WJ,WK,WM,WN,WR,WS,WV,WW,WX,WY,Vi,Vw,Vx,Vz,V0,V1,V2,V3,V6,V7,V8,V9,VB,VK,VL,VM,VO,VP,VQ,VR,VS,VT,Uk,Uq,Ur,Us,Ut,Uu,U1,U2,Tf,Tg,Tk,Ts,Tt,Sc, e]; all_goals tactic => exact rfl))
/-! ### Is any of a set behind a load? -/
section
variable {l : Li} {b : Nat → Nat} {es : List (AV × AV)}
abbrev h82 (l : Li) (b : Nat → Nat) (es : List (AV × AV)) (k : Nat) : XH := [some (.blk false (.cells true [.pt 1 0])), some (.blk false (.cells true (yC l b 2))), some (.blk true (.map true es)), some (.blk true (.cells true [I (k : Nat)]))]
theorem w82 (hb : ∀ k, b k < 2 ^ 10) {j k : Nat} (hj : j < 10) (hk : k < 10) : runW progX 82 [I (j : Nat), .pt 0 0, .pt 3 0] (h82 l b es k) = some (.bool ((b j).testBit k), h82 l b es k) := by
  have s1 := yC_b (l := l) (b := b) (m := 2) (k := j) hj
  have c2 : ((j : Int) < 10) = True := eq_true (by omega)
  have e := w83 (a := b j) (lo_63 (hb j)) (i := (k : Int)) (j := k) rfl (by omega)
  generalize (b j).testBit k = v at *
  rw [r82 (by simp)]; unfold x82; dsimp only
  (sym => (simp [yC_nm, yC_rn, yM_s, yC_gr, yC_sl, yC_fz, yC_len, yC_0, yC_1, yC_2, yC_3, yC_4, yC_15, yC_same, Za,Zb,Ze,Zf,Zg,Zh,Zk,Zl,Zm,Zu,Z1,Z5,Z6,ZF,ZH,ZK,ZO,ZP,ZR,ZS,ZX,Yt,Yu,Y4,YD,YE,YF,YL,Xe,Xf,Xk,Xr,XP,XQ,XX,Wp,Wq,Wr,Ww,Wx,Wy,Wz,W5,W7,W9,WA,WB,WC,WE,WF,WG,WI,WJ,WM,WN,WO,WR,WS,WT,WV,WW,WX,WZ,Vb,Vd,Vi,Vk,Vl,Vn,Vo,Vq,Vw,Vx,Vz,V0,V1,V2,V3,V6,V7,V8,V9,VB,VK,VL,VM,VN,VO,VP,VQ,VR,VS,VT,VZ,Ud,Ue,Uf,Uh,Uk,Un,Uo,Uq,Ur,Us,Ut,Uu,U1,U2,UP,UQ,UU,Tf,Tg,Tk,Ts,Tt,Tw,Sc,Sl,Sn,Sq,Sr, s1, c2, e]; all_goals tactic => exact rfl))
def f82 (b : Nat → Nat) (k : Nat) (ks : List Nat) (i : Nat) : Int := if (b (ks.getD i 0)).testBit k = true then (i : Int) + 1 else 0
theorem w108 (hb : ∀ k, b k < 2 ^ 10) {k : Nat} (hk : k < 10) {ks : List Nat} (hks : ∀ j ∈ ks, j < 10) (hl : ks.length ≤ 10) : runW progX 108 [rI (ofN ks), .fn (.func 82) [] [.pt 0 0, .pt 3 0]] (h82 l b es k) = some (I (firstN (f82 b k ks) ks.length - 1), h82 l b es k) := by
  have ol := ofN_len ks
  have z := UO (n := (ks.length : Int))
  obtain ⟨m, m1, m2, m3⟩ := firstN_ix (f82 b k ks) ks.length
  have go : ∀ i, i < ks.length → ∃ v : Nat, (ofN ks)[i]? = some (v : Int) ∧ runW progX 82 [I (v : Nat), .pt 0 0, .pt 3 0] (h82 l b es k) = some (.bool ((b v).testBit k), h82 l b es k) ∧ (((b v).testBit k = true ∧ f82 b k ks i = (i : Int) + 1) ∨ ((b v).testBit k = false ∧ f82 b k ks i = 0)) := by
    intro i hi
    obtain ⟨v, hv⟩ := at_ix hi
    refine ⟨v, ofN_ix hv, w82 hb (hks v (List.mem_of_getElem? hv)) hk, ?_⟩
    unfold f82
    rw [getD_of hv]
    cases (b v).testBit k <;> simp
  generalize ofN ks = os at *
  have rd : ∀ i, i < m → headX 4 [0, 1, 7, 8] (execW progX 108 4 none (match x108l0 with | .loop _ a => a | c => c) (envL [0, 1, 7, 8] [rI os, .fn (.func 82) [] [.pt 0 0, .pt 3 0], I ks.length, I (i : Nat)]) (h82 l b es k)) =
    some ([rI os, .fn (.func 82) [] [.pt 0 0, .pt 3 0], I ks.length, I (i + 1 : Nat)], h82 l b es k) := by
    intro i hi
    have hil : i < ks.length := by omega
    obtain ⟨v, hv, wc, h⟩ := go i hil
    have e0 := m2 i hi
    have a1 := lt_ix hil
    have a2 := up_ix hil (by omega)
    rcases h with ⟨g, e⟩ | ⟨g, e⟩
    · rw [e] at e0; omega
    rw [g] at wc
    unfold x108l0
    dsimp only
    (sym => (simp [yC_nm, yC_rn, yM_s, yC_gr, yC_sl, yC_fz, yC_len, yC_0, yC_1, yC_2, yC_3, yC_4, yC_15, yC_same, Za,Zb,Zf,Zh,Zl,Zm,Zu,Z2,Z7,ZC,ZE,ZM,ZN,ZR,ZS,ZZ,Ye,Yf,Yh,Yp,Yt,Yu,Yx,YE,YJ,YL,YP,Xe,Xf,Xi,Xk,Xo,Xq,XP,XW,Wa,Wp,Ws,Wv,Ww,Wx,Wy,Wz,W0,W3,W4,W5,W6,W7,W8,W9,WA,WB,WC,WE,WF,WG,WI,WJ,WK,WM,WN,WO,WR,WS,WT,WV,WW,WX,WY,Vi,Vw,Vx,Vz,V0,V1,V2,V3,V6,V7,V8,V9,VB,VC,VD,VE,VF,VG,VH,VI,VJ,VK,VL,VM,VN,VO,VP,VQ,VR,VS,VT,VU,VV,VW,Uh,Uk,Ul,Um,Uq,Ur,Us,Ut,Uu,U1,U2,UO,UR,US,UU,Te,Tf,Tg,Th,Ti,Tj,Tk,Tl,Tm,Tn,Tp,Tq,Tr,Ts,Tt,Sc, a1, a2, hv, wc, ol]; all_goals tactic => exact rfl))
  rw [r108 (by simp)]; unfold x108; dsimp only
  sym =>
    simp [yC_nm, yC_rn, yM_s, yC_gr, yC_sl, yC_fz, yC_len, yC_0, yC_1, yC_2, yC_3, yC_4, yC_15, yC_same, Za,Zb,Zf,Zh,Zl,Zm,Zu,Z2,Z7,ZC,ZE,ZM,ZN,ZR,ZS,ZZ,Ye,Yf,Yh,Yp,Yt,Yu,Yx,YE,YJ,YL,YP,Xe,Xf,Xi,Xk,Xo,Xq,XP,XW,Wa,Wp,Ws,Wv,Ww,Wx,Wy,Wz,W0,W3,W4,W5,W6,W7,W8,W9,WA,WB,WC,WE,WF,WG,WI,WJ,WK,WM,WN,WO,WR,WS,WT,WV,WW,WX,WY,Vi,Vw,Vx,Vz,V0,V1,V2,V3,V6,V7,V8,V9,VB,VC,VD,VE,VF,VG,VH,VI,VJ,VK,VL,VM,VN,VO,VP,VQ,VR,VS,VT,VU,VV,VW,Uh,Uk,Ul,Um,Uq,Ur,Us,Ut,Uu,U1,U2,UO,UR,US,UU,Te,Tf,Tg,Th,Ti,Tj,Tk,Tl,Tm,Tn,Tp,Tq,Tr,Ts,Tt,Sc, ol]
    tactic =>
      unfold x108l0
      rw [loop_rule m (fun i => [rI os, .fn (.func 82) [] [.pt 0 0, .pt 3 0], I ks.length, I (i : Nat)]) (fun _ => h82 l b es k)]
      · rcases m3 with ⟨rfl, e⟩ | ⟨m3, m4, e⟩
        · rw [e]; (sym => (simp [yC_nm, yC_rn, yM_s, yC_gr, yC_sl, yC_fz, yC_len, yC_0, yC_1, yC_2, yC_3, yC_4, yC_15, yC_same, Za,Zb,Zf,Zh,Zl,Zm,Zu,Z2,Z7,ZC,ZE,ZM,ZN,ZR,ZS,ZZ,Ye,Yf,Yh,Yp,Yt,Yu,Yx,YE,YJ,YL,YP,Xe,Xf,Xi,Xk,Xo,Xq,XP,XW,Wa,Wp,Ws,Wv,Ww,Wx,Wy,Wz,W0,W3,W4,W5,W6,W7,W8,W9,WA,WB,WC,WE,WF,WG,WI,WJ,WK,WM,WN,WO,WR,WS,WT,WV,WW,WX,WY,Vi,Vw,Vx,Vz,V0,V1,V2,V3,V6,V7,V8,V9,VB,VC,VD,VE,VF,VG,VH,VI,VJ,VK,VL,VM,VN,VO,VP,VQ,VR,VS,VT,VU,VV,VW,Uh,Uk,Ul,Um,Uq,Ur,Us,Ut,Uu,U1,U2,UO,UR,US,UU,Te,Tf,Tg,Th,Ti,Tj,Tk,Tl,Tm,Tn,Tp,Tq,Tr,Ts,Tt,Sc, z]; all_goals tactic => exact rfl))
        · rw [e]
          obtain ⟨v, hv, wc, h⟩ := go m m3
          have a1 := lt_ix m3
          rcases h with ⟨g, e2⟩ | ⟨g, e2⟩
          · rw [g] at wc
            have e3 : (m : Int) + 1 - 1 = m := by omega
            rw [e2, e3]
            (sym => (simp [yC_nm, yC_rn, yM_s, yC_gr, yC_sl, yC_fz, yC_len, yC_0, yC_1, yC_2, yC_3, yC_4, yC_15, yC_same, Za,Zb,Zf,Zh,Zl,Zm,Zu,Z2,Z7,ZC,ZE,ZM,ZN,ZR,ZS,ZZ,Ye,Yf,Yh,Yp,Yt,Yu,Yx,YE,YJ,YL,YP,Xe,Xf,Xi,Xk,Xo,Xq,XP,XW,Wa,Wp,Ws,Wv,Ww,Wx,Wy,Wz,W0,W3,W4,W5,W6,W7,W8,W9,WA,WB,WC,WE,WF,WG,WI,WJ,WK,WM,WN,WO,WR,WS,WT,WV,WW,WX,WY,Vi,Vw,Vx,Vz,V0,V1,V2,V3,V6,V7,V8,V9,VB,VC,VD,VE,VF,VG,VH,VI,VJ,VK,VL,VM,VN,VO,VP,VQ,VR,VS,VT,VU,VV,VW,Uh,Uk,Ul,Um,Uq,Ur,Us,Ut,Uu,U1,U2,UO,UR,US,UU,Te,Tf,Tg,Th,Ti,Tj,Tk,Tl,Tm,Tn,Tp,Tq,Tr,Ts,Tt,Sc, a1, hv, wc, ol]; all_goals tactic => exact rfl))
          · exact absurd e2 m4
      · (sym => (simp [yC_nm, yC_rn, yM_s, yC_gr, yC_sl, yC_fz, yC_len, yC_0, yC_1, yC_2, yC_3, yC_4, yC_15, yC_same, Za,Zb,Zf,Zh,Zl,Zm,Zu,Z2,Z7,ZC,ZE,ZM,ZN,ZR,ZS,ZZ,Ye,Yf,Yh,Yp,Yt,Yu,Yx,YE,YJ,YL,YP,Xe,Xf,Xi,Xk,Xo,Xq,XP,XW,Wa,Wp,Ws,Wv,Ww,Wx,Wy,Wz,W0,W3,W4,W5,W6,W7,W8,W9,WA,WB,WC,WE,WF,WG,WI,WJ,WK,WM,WN,WO,WR,WS,WT,WV,WW,WX,WY,Vi,Vw,Vx,Vz,V0,V1,V2,V3,V6,V7,V8,V9,VB,VC,VD,VE,VF,VG,VH,VI,VJ,VK,VL,VM,VN,VO,VP,VQ,VR,VS,VT,VU,VV,VW,Uh,Uk,Ul,Um,Uq,Ur,Us,Ut,Uu,U1,U2,UO,UR,US,UU,Te,Tf,Tg,Th,Ti,Tj,Tk,Tl,Tm,Tn,Tp,Tq,Tr,Ts,Tt,Sc]; all_goals tactic => exact rfl))
      · exact rd
      · rcases m3 with ⟨rfl, e⟩ | ⟨m3, m4, e⟩
        · (sym => (simp [yC_nm, yC_rn, yM_s, yC_gr, yC_sl, yC_fz, yC_len, yC_0, yC_1, yC_2, yC_3, yC_4, yC_15, yC_same, Za,Zb,Zf,Zh,Zl,Zm,Zu,Z2,Z7,ZC,ZE,ZM,ZN,ZR,ZS,ZZ,Ye,Yf,Yh,Yp,Yt,Yu,Yx,YE,YJ,YL,YP,Xe,Xf,Xi,Xk,Xo,Xq,XP,XW,Wa,Wp,Ws,Wv,Ww,Wx,Wy,Wz,W0,W3,W4,W5,W6,W7,W8,W9,WA,WB,WC,WE,WF,WG,WI,WJ,WK,WM,WN,WO,WR,WS,WT,WV,WW,WX,WY,Vi,Vw,Vx,Vz,V0,V1,V2,V3,V6,V7,V8,V9,VB,VC,VD,VE,VF,VG,VH,VI,VJ,VK,VL,VM,VN,VO,VP,VQ,VR,VS,VT,VU,VV,VW,Uh,Uk,Ul,Um,Uq,Ur,Us,Ut,Uu,U1,U2,UO,UR,US,UU,Te,Tf,Tg,Th,Ti,Tj,Tk,Tl,Tm,Tn,Tp,Tq,Tr,Ts,Tt,Sc, z]; all_goals tactic => exact rfl))
        · obtain ⟨v, hv, wc, h⟩ := go m m3
          have a1 := lt_ix m3
          rcases h with ⟨g, e2⟩ | ⟨g, e2⟩
          · rw [g] at wc
            (sym => (simp [yC_nm, yC_rn, yM_s, yC_gr, yC_sl, yC_fz, yC_len, yC_0, yC_1, yC_2, yC_3, yC_4, yC_15, yC_same, Za,Zb,Zf,Zh,Zl,Zm,Zu,Z2,Z7,ZC,ZE,ZM,ZN,ZR,ZS,ZZ,Ye,Yf,Yh,Yp,Yt,Yu,Yx,YE,YJ,YL,YP,Xe,Xf,Xi,Xk,Xo,Xq,XP,XW,Wa,Wp,Ws,Wv,Ww,Wx,Wy,Wz,W0,W3,W4,W5,W6,W7,W8,W9,WA,WB,WC,WE,WF,WG,WI,WJ,WK,WM,WN,WO,WR,WS,WT,WV,WW,WX,WY,Vi,Vw,Vx,Vz,V0,V1,V2,V3,V6,V7,V8,V9,VB,VC,VD,VE,VF,VG,VH,VI,VJ,VK,VL,VM,VN,VO,VP,VQ,VR,VS,VT,VU,VV,VW,Uh,Uk,Ul,Um,Uq,Ur,Us,Ut,Uu,U1,U2,UO,UR,US,UU,Te,Tf,Tg,Th,Ti,Tj,Tk,Tl,Tm,Tn,Tp,Tq,Tr,Ts,Tt,Sc, a1, hv, wc, ol]; all_goals tactic => exact rfl))
          · exact absurd e2 m4
theorem w84 (hb : ∀ k, b k < 2 ^ 10) {k : Nat} (hk : k < 10) {a : Nat} : runW progX 84 [rI (ofN (el a)), .fn (.func 82) [] [.pt 0 0, .pt 3 0]] (h82 l b es k) = some (.bool (!freeB b a k), h82 l b es k) := by
  have e := w108 (l := l) (es := es) hb hk (ks := el a) (fun j hj => (el_mem.1 hj).1) (el_len a)
  have q : decide (firstN (f82 b k (el a)) (el a).length - 1 ≥ 0) = !freeB b a k := by
    obtain ⟨m, m1, m2, m3⟩ := firstN_ix (f82 b k (el a)) (el a).length
    rcases m3 with ⟨rfl, e⟩ | ⟨m3, m4, e⟩
    · rw [e]
      have : freeB b a k = true := by
        unfold freeB
        rw [List.all_eq_true]
        intro j hj
        obtain ⟨i, hi⟩ := List.getElem?_of_mem hj
        have h0 := m2 i (lt_of hi)
        unfold f82 at h0
        rw [getD_of hi] at h0
        cases hc : (b j).testBit k with
        | false => rfl
        | true => rw [hc, if_pos rfl] at h0; omega
      rw [this]; rfl
    · rw [e]
      obtain ⟨v, hv⟩ := at_ix m3
      have hm := m4
      unfold f82 at m4 ⊢
      rw [getD_of hv] at m4 ⊢
      cases hc : (b v).testBit k with
      | false => rw [hc] at m4; simp at m4
      | true =>
        have : freeB b a k = false := by
          unfold freeB
          rw [List.all_eq_false]
          exact ⟨v, List.mem_of_getElem? hv, by simp [hc]⟩
        rw [this, if_pos rfl]
        exact decide_eq_true (by omega)
  generalize firstN (f82 b k (el a)) (el a).length - 1 = v at *
  generalize ofN (el a) = os at *
  rw [← q]
  rcases ptf (v ≥ 0) with g | g
  · rw [decide_eq_true (of_eq_true g)]
    rw [r84 (by simp)]; unfold x84; dsimp only
    (sym => (simp [yC_nm, yC_rn, yM_s, yC_gr, yC_sl, yC_fz, yC_len, yC_0, yC_1, yC_2, yC_3, yC_4, yC_15, yC_same, Za,Zb,Zf,Zg,Zh,Zj,Zl,Zm,Zu,Z2,ZM,ZN,ZR,ZS,Ys,YF,YJ,YL,YP,Xe,Xf,Xi,Xk,Xo,Xr,Xu,Xz,XQ,XW,Wa,Wp,Ws,Wv,Ww,Wx,Wy,Wz,W0,W3,W4,W5,W6,W7,W8,W9,WA,WB,WC,WE,WF,WG,WI,WJ,WK,WM,WN,WO,WR,WS,WT,WV,WW,WX,WY,Vi,Vk,Vl,Vm,Vw,Vx,Vz,V0,V1,V2,V3,V6,V7,V8,V9,VB,VK,VL,VM,VN,VO,VP,VQ,VR,VS,VT,VW,Uk,Ul,Um,Uq,Ur,Us,Ut,Uu,U1,U2,Te,Tf,Tg,Tk,Ts,Tt,Sc,Sn,Sq,Ss, e, g]; all_goals tactic => exact rfl))
  · rw [decide_eq_false (of_eq_false g)]
    rw [r84 (by simp)]; unfold x84; dsimp only
    (sym => (simp [yC_nm, yC_rn, yM_s, yC_gr, yC_sl, yC_fz, yC_len, yC_0, yC_1, yC_2, yC_3, yC_4, yC_15, yC_same, Za,Zb,Zf,Zg,Zh,Zj,Zl,Zm,Zu,Z2,ZM,ZN,ZR,ZS,Ys,YF,YJ,YL,YP,Xe,Xf,Xi,Xk,Xo,Xr,Xu,Xz,XQ,XW,Wa,Wp,Ws,Wv,Ww,Wx,Wy,Wz,W0,W3,W4,W5,W6,W7,W8,W9,WA,WB,WC,WE,WF,WG,WI,WJ,WK,WM,WN,WO,WR,WS,WT,WV,WW,WX,WY,Vi,Vk,Vl,Vm,Vw,Vx,Vz,V0,V1,V2,V3,V6,V7,V8,V9,VB,VK,VL,VM,VN,VO,VP,VQ,VR,VS,VT,VW,Uk,Ul,Um,Uq,Ur,Us,Ut,Uu,U1,U2,Te,Tf,Tg,Tk,Ts,Tt,Sc,Sn,Sq,Ss, e, g]; all_goals tactic => exact rfl))
end
end Go.Proofs.YtpbeclkpohehgaaDoor
namespace Go.Proofs.YtpbeclkpohehgaaDoor
open Go Go.DL
set_option maxRecDepth 100000
set_option maxHeartbeats 4000000

abbrev plS (l : Li) (b : Nat → Nat) (a : Nat) (s : Int × Int) (k : Nat) : Int × Int := if freeB b a k = true then (if lastF l a k < s.2 then ((k : Int), lastF l a k) else s) else s
/-- The load that is taken out of a set, and how sour it becomes there. -/
def plF (l : Li) (b : Nat → Nat) (a : Nat) : Int × Int := (el a).foldl (plS l b a) (0, 1000001)
section
variable {l : Li} {b : Nat → Nat} {es : List (AV × AV)}
abbrev h32i (l : Li) (b : Nat → Nat) (es : List (AV × AV)) (a : Nat) (o m : Int) : XH := [some (.loop 32 0 [.pt 1 0, .pt 4 0, .pt 5 0, .pt 6 0] .ready), some (.blk false (.cells true [.pt 2 0])), some (.blk false (.cells true (yC l b 3))), some (.blk true (.map true es)), cU a, some (.blk true (.cells true [I o])), some (.blk true (.cells true [I m]))]
theorem home32 (a : Nat) (o m : Int) : Home 7 (h32i l b es a o m) := by
  refine ⟨fun _ => rfl, fun _ _ => rfl, fun _ => rfl, ?_, ?_⟩
  · intro c e h0 h1
    (sym => (simp [yC_nm, yC_rn, yM_s, yC_gr, yC_sl, yC_fz, yC_len, yC_0, yC_1, yC_2, yC_3, yC_4, yC_15, yC_same, Za,YH,YL,YQ,Xh,Xk,Xp,Xt,XV,Wz,W5,W7,W9,WB,WC,WE,WF,WG,WM,WN,WO,WP,WR,WS,WT,WU,Vi,Vz,V0,V1,VD,VE,VL,VM,VN,VO,VP,VQ,VR,Uk,Uq,Ur,Us,Ut,Uu,Ux,U1,Tr,Sc, h0, h1]; all_goals tactic => exact rfl))
  · intro c
    (sym => (simp [yC_nm, yC_rn, yM_s, yC_gr, yC_sl, yC_fz, yC_len, yC_0, yC_1, yC_2, yC_3, yC_4, yC_15, yC_same, Za,YH,YL,YQ,Xh,Xk,Xp,Xt,XV,Wz,W5,W7,W9,WB,WC,WE,WF,WG,WM,WN,WO,WP,WR,WS,WT,WU,Vi,Vz,V0,V1,VD,VE,VL,VM,VN,VO,VP,VQ,VR,Uk,Uq,Ur,Us,Ut,Uu,Ux,U1,Tr,Sc]; all_goals tactic => exact rfl))
theorem y32 (g : Good l) (hb : ∀ k, b k < 2 ^ 10) {a : Nat} (ha : a < 2 ^ l.ls.length) (o m : Int) {k : Nat} (hk : k < l.ls.length) : Yd (h32i l b es a o m) (h32i l b es a (plS l b a (o, m) k).1 (plS l b a (o, m) k).2) k true := by
  have hn := g.few
  have ha2 := lt_10 ha hn
  have e81 := w81 a
  have e85 := w85 ha2
  have e84 := w84 (l := l) (es := es) hb (k := k) (by omega) (a := a)
  have e86 := w86 (b := b) (es := es) g ha hk
  have y : runYW progX (.fn (.yield 0) [] []) [I (k : Nat)] (h32i l b es a o m) = some (.bool true, h32i l b es a (plS l b a (o, m) k).1 (plS l b a (o, m) k).2) := by
    rw [runYW_eq (K := 32) (d := x32) (site := 0) (vs := [.pt 1 0, .pt 4 0, .pt 5 0, .pt 6 0]) rfl rfl (by rfl) rfl]
    unfold plS
    generalize lastF l a k = lv at *
    generalize ofN (el a) = os at *
    cases hf : freeB b a k with
    | false =>
      rw [hf] at e84
      rw [if_neg (by simp)]
      (sym => (simp [yC_nm, yC_rn, yM_s, yC_gr, yC_sl, yC_fz, yC_len, yC_0, yC_1, yC_2, yC_3, yC_4, yC_15, yC_same, Za,Zb,Zc,Zd,Ze,Zf,Zg,Zh,Zk,Zl,Zm,Zo,Zp,Zr,Zu,Zv,Zw,Zx,Z2,Z3,ZF,ZH,ZI,ZJ,ZK,ZL,ZO,ZP,ZR,ZS,ZT,ZU,ZV,Yp,YE,YF,YJ,YL,YP,YQ,YR,Xe,Xf,Xi,Xk,Xo,Xp,Xw,Xz,Wa,Wc,Wn,Wp,Wq,Wr,Ws,Wt,Wv,Ww,Wy,Wz,W0,W3,W4,W5,W6,W7,W8,W9,WA,WB,WC,WE,WF,WG,WI,WJ,WK,WM,WN,WO,WP,WR,WS,WT,WU,WV,WW,WX,WY,WZ,Va,Vb,Vd,Ve,Vi,Vk,Vl,Vm,Vn,Vo,Vp,Vq,Vy,V1,VC,VF,VG,VH,VL,VM,VN,VO,VP,VQ,VR,VS,VT,VW,VZ,Uc,Ud,Ue,Uf,Uh,Uk,Ul,Um,Un,Uo,Uq,Ur,Us,Ut,Uu,Uv,Uw,Ux,Uy,U3,U7,U8,UP,UQ,UU,UV,UW,Te,Tf,Th,Tj,Tk,Tn,Ts,Tt,TD,TE,TF,TG,TQ,TR,TS,TT,TU,Sb,Sc,Sf,Sg,Si,Sj,Sk,Sn,Sq,Sr,Ss, e81, e85, e84, e86]; all_goals tactic => exact rfl))
    | true =>
      rw [hf] at e84
      rw [if_pos rfl]
      rcases ptf (lv < m) with h | h
      · simp only [h, if_true]
        (sym => (simp [yC_nm, yC_rn, yM_s, yC_gr, yC_sl, yC_fz, yC_len, yC_0, yC_1, yC_2, yC_3, yC_4, yC_15, yC_same, Za,Zb,Zc,Zd,Ze,Zf,Zg,Zh,Zk,Zl,Zm,Zo,Zp,Zr,Zu,Zv,Zw,Zx,Z2,Z3,ZF,ZH,ZI,ZJ,ZK,ZL,ZO,ZP,ZR,ZS,ZT,ZU,ZV,Yp,YE,YF,YJ,YL,YP,YQ,YR,Xe,Xf,Xi,Xk,Xo,Xp,Xw,Xz,Wa,Wc,Wn,Wp,Wq,Wr,Ws,Wt,Wv,Ww,Wy,Wz,W0,W3,W4,W5,W6,W7,W8,W9,WA,WB,WC,WE,WF,WG,WI,WJ,WK,WM,WN,WO,WP,WR,WS,WT,WU,WV,WW,WX,WY,WZ,Va,Vb,Vd,Ve,Vi,Vk,Vl,Vm,Vn,Vo,Vp,Vq,Vy,V1,VC,VF,VG,VH,VL,VM,VN,VO,VP,VQ,VR,VS,VT,VW,VZ,Uc,Ud,Ue,Uf,Uh,Uk,Ul,Um,Un,Uo,Uq,Ur,Us,Ut,Uu,Uv,Uw,Ux,Uy,U3,U7,U8,UP,UQ,UU,UV,UW,Te,Tf,Th,Tj,Tk,Tn,Ts,Tt,TD,TE,TF,TG,TQ,TR,TS,TT,TU,Sb,Sc,Sf,Sg,Si,Sj,Sk,Sn,Sq,Sr,Ss, e81, e85, e84, e86, h]; all_goals tactic => exact rfl))
      · simp only [h, if_false]
        (sym => (simp [yC_nm, yC_rn, yM_s, yC_gr, yC_sl, yC_fz, yC_len, yC_0, yC_1, yC_2, yC_3, yC_4, yC_15, yC_same, Za,Zb,Zc,Zd,Ze,Zf,Zg,Zh,Zk,Zl,Zm,Zo,Zp,Zr,Zu,Zv,Zw,Zx,Z2,Z3,ZF,ZH,ZI,ZJ,ZK,ZL,ZO,ZP,ZR,ZS,ZT,ZU,ZV,Yp,YE,YF,YJ,YL,YP,YQ,YR,Xe,Xf,Xi,Xk,Xo,Xp,Xw,Xz,Wa,Wc,Wn,Wp,Wq,Wr,Ws,Wt,Wv,Ww,Wy,Wz,W0,W3,W4,W5,W6,W7,W8,W9,WA,WB,WC,WE,WF,WG,WI,WJ,WK,WM,WN,WO,WP,WR,WS,WT,WU,WV,WW,WX,WY,WZ,Va,Vb,Vd,Ve,Vi,Vk,Vl,Vm,Vn,Vo,Vp,Vq,Vy,V1,VC,VF,VG,VH,VL,VM,VN,VO,VP,VQ,VR,VS,VT,VW,VZ,Uc,Ud,Ue,Uf,Uh,Uk,Ul,Um,Un,Uo,Uq,Ur,Us,Ut,Uu,Uv,Uw,Ux,Uy,U3,U7,U8,UP,UQ,UU,UV,UW,Te,Tf,Th,Tj,Tk,Tn,Ts,Tt,TD,TE,TF,TG,TQ,TR,TS,TT,TU,Sb,Sc,Sf,Sg,Si,Sj,Sk,Sn,Sq,Sr,Ss, e81, e85, e84, e86, h]; all_goals tactic => exact rfl))
  generalize plS l b a (o, m) k = r at *
  intro c
  (sym => (simp [yC_nm, yC_rn, yM_s, yC_gr, yC_sl, yC_fz, yC_len, yC_0, yC_1, yC_2, yC_3, yC_4, yC_15, yC_same, Za,Zb,Zc,Zd,Ze,Zf,Zg,Zh,Zk,Zl,Zm,Zo,Zp,Zr,Zu,Zv,Zw,Zx,Z2,Z3,ZF,ZH,ZI,ZJ,ZK,ZL,ZO,ZP,ZR,ZS,ZT,ZU,ZV,Yp,YE,YF,YJ,YL,YP,YQ,YR,Xe,Xf,Xi,Xk,Xo,Xp,Xw,Xz,Wa,Wc,Wn,Wp,Wq,Wr,Ws,Wt,Wv,Ww,Wy,Wz,W0,W3,W4,W5,W6,W7,W8,W9,WA,WB,WC,WE,WF,WG,WI,WJ,WK,WM,WN,WO,WP,WR,WS,WT,WU,WV,WW,WX,WY,WZ,Va,Vb,Vd,Ve,Vi,Vk,Vl,Vm,Vn,Vo,Vp,Vq,Vy,V1,VC,VF,VG,VH,VL,VM,VN,VO,VP,VQ,VR,VS,VT,VW,VZ,Uc,Ud,Ue,Uf,Uh,Uk,Ul,Um,Un,Uo,Uq,Ur,Us,Ut,Uu,Uv,Uw,Ux,Uy,U3,U7,U8,UP,UQ,UU,UV,UW,Te,Tf,Th,Tj,Tk,Tn,Ts,Tt,TD,TE,TF,TG,TQ,TR,TS,TT,TU,Sb,Sc,Sf,Sg,Si,Sj,Sk,Sn,Sq,Sr,Ss, y]; all_goals tactic => exact rfl))
theorem in32 (g : Good l) (hb : ∀ k, b k < 2 ^ 10) {a : Nat} (ha : a < 2 ^ l.ls.length) :
    runW progX 106 [.fn (.yield 0) [] [], .pt 7 0] [some (.loop 32 0 [.pt 1 0, .pt 4 0, .pt 5 0, .pt 6 0] .ready), some (.blk false (.cells true [.pt 2 0])), some (.blk false (.cells true (yC l b 3))), some (.blk true (.map true es)), cU a, some (.blk true (.cells true [I 0])), some (.blk true (.cells true [I 1000001])), cU a] =
      some (.tup [], [some (.loop 32 0 [.pt 1 0, .pt 4 0, .pt 5 0, .pt 6 0] .ready), some (.blk false (.cells true [.pt 2 0])), some (.blk false (.cells true (yC l b 3))), some (.blk true (.map true es)), cU a, some (.blk true (.cells true [I (plF l b a).1])), some (.blk true (.cells true [I (plF l b a).2])), some (.blk true (.cells true [.int .u64 0]))]) := by
  have h := each_all (n := 7) (G := fun i => h32i l b es a (fT (plS l b a) (0, 1000001) (el a) i).1 (fT (plS l b a) (0, 1000001) (el a) i).2) (lt_10 ha g.few) (fun i _ => home32 a _ _) (by
    intro i v hv
    rw [fT_up hv]
    exact y32 g hb ha _ _ (el_lt ha (List.mem_of_getElem? hv)))
  unfold plF
  rw [fT_all] at h
  exact h
end
/-! ### What is taken out -/
theorem pl_eq {l : Li} (g : Good l) {b : Nat → Nat} {a : Nat} : ∀ (ks : List Nat) (s : Int × Int) (n : Int), (∀ k ∈ ks, k < l.ls.length) → mnI 1000000 s.2 = n → (s.2 = 1000001 ∨ (∃ k : Nat, s.1 = (k : Int) ∧ k < l.ls.length ∧ k ∈ el a ∧ freeB b a k = true ∧ lastF l a k = s.2)) → (∀ k ∈ ks, k ∈ el a) →
    mnI 1000000 (ks.foldl (plS l b a) s).2 = ks.foldl (shS l b a) n ∧ ((ks.foldl (plS l b a) s).2 = 1000001 ∨ (∃ k : Nat, (ks.foldl (plS l b a) s).1 = (k : Int) ∧ k < l.ls.length ∧ k ∈ el a ∧ freeB b a k = true ∧ lastF l a k = (ks.foldl (plS l b a) s).2)) ∧ ((ks.foldl (plS l b a) s).2 ≤ s.2) ∧ (∀ k ∈ ks, freeB b a k = true → (ks.foldl (plS l b a) s).2 ≤ 1000000)
  | [], s, n, _, h1, h2, _ => ⟨h1, h2, Int.le_refl _, fun k hk => by simp at hk⟩
  | k :: ks, s, n, h, h1, h2, h3 => by
    have hk := h k (by simp)
    have bd := last_bd (a := a) g hk
    rw [List.foldl_cons, List.foldl_cons]
    have st : mnI 1000000 (plS l b a s k).2 = shS l b a n k ∧ ((plS l b a s k).2 = 1000001 ∨ (∃ j : Nat, (plS l b a s k).1 = (j : Int) ∧ j < l.ls.length ∧ j ∈ el a ∧ freeB b a j = true ∧ lastF l a j = (plS l b a s k).2)) ∧ (plS l b a s k).2 ≤ s.2 ∧ (freeB b a k = true → (plS l b a s k).2 ≤ 1000000) := by
      unfold plS shS
      cases hf : freeB b a k with
      | false =>
        rw [if_neg (by simp), if_neg (by simp)]
        exact ⟨h1, h2, Int.le_refl _, fun h => by simp at h⟩
      | true =>
        rw [if_pos rfl, if_pos rfl]
        unfold mnI at h1 ⊢
        by_cases hc : lastF l a k < s.2
        · rw [if_pos hc]
          refine ⟨?_, .inr ⟨k, rfl, hk, h3 k (by simp), hf, rfl⟩, by dsimp only; omega, fun _ => bd.2⟩
          dsimp only
          rw [← h1]
          repeat' split
          all_goals omega
        · rw [if_neg hc]
          refine ⟨?_, h2, Int.le_refl _, fun _ => by omega⟩
          rw [← h1]
          repeat' split
          all_goals omega
    obtain ⟨i1, i2, i3, i4⟩ := pl_eq g ks (plS l b a s k) (shS l b a n k) (fun j hj => h j (by simp [hj])) st.1 st.2.1 (fun j hj => h3 j (by simp [hj]))
    refine ⟨i1, i2, by omega, fun j hj hfj => ?_⟩
    rcases List.mem_cons.1 hj with rfl | hj
    · have := st.2.2.2 hfj
      omega
    · exact i4 j hj hfj
/-- What is taken out of a set could be its last: it becomes as sour as the set shows. -/
theorem pl_of {l : Li} (g : Good l) {b : Nat → Nat} (p : Prec l.ls.length b) {a : Nat} (ha : a < 2 ^ l.ls.length) (h0 : a ≠ 0) : ∃ k : Nat, (plF l b a).1 = (k : Int) ∧ k < l.ls.length ∧ k ∈ el a ∧ freeB b a k = true ∧ lastF l a k = shF l b a := by
  have hne : el a ≠ [] := fun hc => h0 ((el_0 a (lt_10 ha g.few)).1 hc)
  obtain ⟨k0, hk0⟩ := List.exists_mem_of_ne_nil _ hne
  obtain ⟨k1, hk1, hf1⟩ := p.free _ k0 hk0 (Nat.le_refl _)
  obtain ⟨i1, i2, _, i4⟩ := pl_eq g (b := b) (a := a) (el a) (0, 1000001) 1000000 (fun k hk => el_lt ha hk) (by unfold mnI; rw [if_neg (by decide)]) (.inl rfl) (fun k hk => hk)
  have i4 := i4 k1 hk1 hf1
  rcases i2 with h | ⟨k, h1, h2, h3, h4, h5⟩
  · unfold plF at *; omega
  · refine ⟨k, h1, h2, h3, h4, ?_⟩
    rw [h5]
    unfold shF
    rw [← i1]
    unfold mnI
    split <;> omega
end Go.Proofs.YtpbeclkpohehgaaDoor
namespace Go.Proofs.YtpbeclkpohehgaaDoor
open Go Go.DL
set_option maxRecDepth 100000
set_option maxHeartbeats 4000000

theorem out_bit {a k : Nat} (ha : a < 1024) (hk : k < 10) (i : Nat) : (dif a (2 ^ k)).testBit i = (a.testBit i && !decide (k = i)) := by
  have h2 : 2 ^ k < 2 ^ 10 := Nat.pow_lt_pow_right (by omega) hk
  rw [dif_bit (by omega), Nat.testBit_two_pow]
  cases h : a.testBit i with
  | false => rfl
  | true =>
    have : i < 64 := by
      by_cases hc : i < 64
      · exact hc
      · rw [bit_lt (n := 10) ha (by omega)] at h; simp at h
    rw [decide_eq_true this]
    rfl
theorem loop_head2 {D : Nat → Option XFn} {K k : Nat} {rd : Option Nat} {L : List Nat} {a : XCode} {e e' : Env} {H H' : XH} (h : headX k L (some (.normal, e, H)) = headX k L (some (.normal, e', H'))) : execW D K k rd (.loop L a) e H = execW D K k rd (.loop L a) e' H' := by
  simp only [headX, Option.some.injEq, Prod.mk.injEq] at h
  rw [execW_loop, execW_loop (e := e')]
  have e1 : canonE k L e H = canonE k L e' H' := congrArg (envL L) h.1
  rw [e1, h.2]
theorem out_or {a k : Nat} (ha : a < 1024) (hk : k < 10) (h : a.testBit k = true) : dif a (2 ^ k) ||| 2 ^ k = a := by
  apply Nat.eq_of_testBit_eq
  intro i
  rw [or_bit, out_bit ha hk]
  by_cases hi : k = i
  · subst hi; rw [h]; simp
  · rw [decide_eq_false hi]; simp
structure Peel (l : Li) (b : Nat → Nat) (a best : Nat) (most : Int) : Prop where
  lt : a < 2 ^ l.ls.length
  cl : clB b l.ls.length a = true
  rest : rstF l b a ≤ most
  pos : 0 ≤ most
  blt : best < 2 ^ l.ls.length
  sh : most = 0 ∨ (best ≠ 0 ∧ shF l b best = most)
theorem Peel.step {l : Li} (g : Good l) {b : Nat → Nat} (p : Prec l.ls.length b) {a best : Nat} {most : Int} (q : Peel l b a best most) (h0 : a ≠ 0) {k : Nat} (hk : k < l.ls.length) (hke : k ∈ el a) (hf : freeB b a k = true) (hl : lastF l a k = shF l b a) :
    dif a (2 ^ k) < a ∧ Peel l b (dif a (2 ^ k)) (if shF l b a > most then a else best) (if shF l b a > most then shF l b a else most) := by
  have hn := g.few
  have ha := lt_10 q.lt hn
  have hb := fun i => out_bit ha (k := k) (by omega) i
  have hor := out_or ha (k := k) (by omega) (el_mem.1 hke).2
  have hak := (el_mem.1 hke).2
  have h1 : dif a (2 ^ k) < a := sub_lt (fun i hi => by rw [hb, Bool.and_eq_true] at hi; exact hi.1) fun hc => by
    have := hb k
    rw [hc, hak] at this
    simp at this
  have hlt : dif a (2 ^ k) < 2 ^ l.ls.length := by have := q.lt; omega
  have lb : ∀ x, b x < 2 ^ 63 := fun x => by have := lt_10 (p.lt x) hn; omega
  have lo : dif a (2 ^ k) < 2 ^ 63 := by omega
  have hcl := (gdN_iff _).1 q.cl
  have hbk : (dif a (2 ^ k)).testBit k = false := by rw [hb]; simp
  have hcan : canB b (dif a (2 ^ k)) k = true := (canB_iff p hn hlt).2 ⟨hbk, fun i hi => by
    rw [hb]
    have h2 := (dif_zero (lb k) (by omega)).1 (hcl k hk hak) i hi
    have h3 : k ≠ i := fun hc => by subst hc; rw [p.irr k] at hi; simp at hi
    rw [h2, decide_eq_false h3]; rfl⟩
  have hpo := (pop_or hbk l.ls.length).1 hk
  rw [hor] at hpo
  have hle := pop_le a l.ls.length
  have hr := rest_le (l := l) (by omega) hk hcan
  unfold wthF at hr
  rw [hor, hl] at hr
  refine ⟨h1, hlt, ?_, ?_, ?_, ?_, ?_⟩
  · refine (gdN_iff _).2 fun j hj hja => ?_
    rw [hb, Bool.and_eq_true] at hja
    rw [dif_zero (lb j) lo]
    intro i hi
    rw [hb, (dif_zero (lb j) (by omega)).1 (hcl j hj hja.1) i hi]
    have h3 : k ≠ i := fun hc => by
      subst hc
      unfold freeB at hf
      have := List.all_eq_true.1 hf j (el_mem.2 ⟨by omega, hja.1⟩)
      rw [hi] at this; simp at this
    rw [decide_eq_false h3]; rfl
  · have := q.rest
    unfold mxI at hr
    split at hr <;> split <;> omega
  · have := q.pos
    split <;> omega
  · split
    · exact q.lt
    · exact q.blt
  · split
    · exact .inr ⟨h0, rfl⟩
    · exact q.sh
/-- The error of 'Prove'. -/
def prvE (l : Li) : Int := if checkL l = 0 then (if minW l = 0 then 5 else 0) else checkL l
section
variable {l : Li} {b : Nat → Nat}
abbrev h32 (l : Li) (b : Nat → Nat) (es : List (AV × AV)) (a : Nat) : XH := [some (.blk false (.cells true [.pt 1 0])), some (.blk false (.cells true (yC l b 2))), some (.blk true (.map true es)), cU a]
theorem round32 (g : Good l) (p : Prec l.ls.length b) {es : List (AV × AV)} {a best k : Nat} {most : Int} (ha : a < 2 ^ l.ls.length) (h0 : a ≠ 0) (hk : k < l.ls.length) (hp : (plF l b a).1 = (k : Int)) :
    headX 0 [2, 3, 4, 7, 8, 9] (execW progX 32 0 none (match x32l0 with | .loop _ a => a | c => c) (envL [2, 3, 4, 7, 8, 9] [.nilsl, I 0, .pt 0 0, U best, I most, .pt 3 0]) (h32 l b es a)) =
      some ([.nilsl, I 0, .pt 0 0, U (if shF l b a > most then a else best), I (if shF l b a > most then shF l b a else most), .pt 3 0], h32 l b es (dif a (2 ^ k))) := by
  have hn := g.few
  have hb : ∀ k, b k < 2 ^ 10 := fun k => lt_10 (p.lt k) hn
  have ha2 := lt_10 ha hn
  have e80 := w80 (es := es) g hb ha
  have e81 := w81 a
  have e106 := in32 (es := es) g hb ha
  rw [hp] at e106
  have n0 : ((a : Int) = 0) = False := eq_false (by omega)
  have n1 := neg_n k
  have s1 : bitsA .andNot .u64 (a : Int) (IntKind.u64.wrap (1 * 2 ^ min k IntKind.u64.bits)) = ((dif a (2 ^ k) : Nat) : Int) := by
    rw [shl_one big_u (by omega), bits_dif big_u (by omega) (Nat.pow_lt_pow_right (by omega) (by omega))]
  have s2 : bitsA .andNot .u64 (a : Int) (IntKind.u64.wrap (2 ^ min k IntKind.u64.bits)) = ((dif a (2 ^ k) : Nat) : Int) := by
    rw [shl_1 big_u (by omega), bits_dif big_u (by omega) (Nat.pow_lt_pow_right (by omega) (by omega))]
  generalize shF l b a = sv at *
  generalize (plF l b a).2 = m2 at *
  generalize dif a (2 ^ k) = a' at *
  unfold x32l0
  dsimp only
  rcases ptf (sv > most) with h | h
  · simp only [h, if_true]
    (sym => (simp [yC_nm, yC_rn, yM_s, yC_gr, yC_sl, yC_fz, yC_len, yC_0, yC_1, yC_2, yC_3, yC_4, yC_15, yC_same, Za,Zb,Zc,Zf,Zg,Zh,Zi,Zj,Zl,Zm,Zu,Zv,Z2,ZE,ZF,ZH,ZI,ZJ,ZK,ZL,ZM,ZN,ZR,ZS,Yl,Yo,Yr,Yu,YE,YL,YN,YQ,YR,Xe,Xh,Xk,Xm,Xo,Xp,Xw,Wc,Wn,Wp,Wq,Wr,Ws,Wt,Wv,Ww,Wy,Wz,W0,W3,W4,W5,W6,W7,W8,W9,WA,WB,WC,WE,WF,WG,WH,WI,WJ,WK,WM,WN,WO,WP,WS,WT,WU,WV,WW,WX,WY,WZ,Vi,Vk,Vl,Vn,Vo,Vp,Vq,VC,VD,VE,VF,VG,VH,VL,VM,VN,VO,VP,VR,VS,VT,VW,VZ,Ud,Ue,Uh,Uk,Ul,Um,Un,Uo,Uq,Ur,Us,Ut,Uu,Uv,Uw,Ux,Uy,U3,UP,UQ,UU,UV,UW,Te,Tf,Th,Tj,Tk,Tn,Tr,Ts,Tt,Ty,TD,TE,TH,TK,TL,TM,TN,TO,Sb,Sc,Sm,Sn,Sq,Sr, n0, n1, e80, e81, e106, s1, s2, h]; all_goals tactic => exact rfl))
  · simp only [h, if_false]
    (sym => (simp [yC_nm, yC_rn, yM_s, yC_gr, yC_sl, yC_fz, yC_len, yC_0, yC_1, yC_2, yC_3, yC_4, yC_15, yC_same, Za,Zb,Zc,Zf,Zg,Zh,Zi,Zj,Zl,Zm,Zu,Zv,Z2,ZE,ZF,ZH,ZI,ZJ,ZK,ZL,ZM,ZN,ZR,ZS,Yl,Yo,Yr,Yu,YE,YL,YN,YQ,YR,Xe,Xh,Xk,Xm,Xo,Xp,Xw,Wc,Wn,Wp,Wq,Wr,Ws,Wt,Wv,Ww,Wy,Wz,W0,W3,W4,W5,W6,W7,W8,W9,WA,WB,WC,WE,WF,WG,WH,WI,WJ,WK,WM,WN,WO,WP,WS,WT,WU,WV,WW,WX,WY,WZ,Vi,Vk,Vl,Vn,Vo,Vp,Vq,VC,VD,VE,VF,VG,VH,VL,VM,VN,VO,VP,VR,VS,VT,VW,VZ,Ud,Ue,Uh,Uk,Ul,Um,Un,Uo,Uq,Ur,Us,Ut,Uu,Uv,Uw,Ux,Uy,U3,UP,UQ,UU,UV,UW,Te,Tf,Th,Tj,Tk,Tn,Tr,Ts,Tt,Ty,TD,TE,TH,TK,TL,TM,TN,TO,Sb,Sc,Sm,Sn,Sq,Sr, n0, n1, e80, e81, e106, s1, s2, h]; all_goals tactic => exact rfl))
theorem w32 (hf : l.Fit) : (prvE l ≠ 0 ∧ runW progX 32 [.agg l.c] [] = some (.tup [.fs [], I (prvE l)], [])) ∨ (prvE l = 0 ∧ checkL l = 0 ∧ ∃ best, best ≠ 0 ∧ best < 2 ^ l.ls.length ∧ 1 ≤ minW l ∧ minW l ≤ 1000000 ∧ minW l ≤ shF l (behF l.ts) best ∧ runW progX 32 [.agg l.c] [] = some (.tup [rI (ofN (el best)), I 0], [])) := by
  have e52 := w52 l hf
  unfold w52R at e52
  unfold prvE
  by_cases hc : checkL l = 0
  · rw [if_pos hc]
    rw [if_pos hc] at e52
    have g := good_of hc
    have hn := g.few
    have p := g.prec
    unfold minW
    generalize behF l.ts = b at *
    have hb : ∀ k, b k < 2 ^ 10 := fun k => lt_10 (p.lt k) hn
    obtain ⟨es1, he1, e72⟩ := w72 g p _ 0 (Nat.two_pow_pos _) rfl [] (memo_0 l b)
    have e72 : runW progX 72 [.pt 0 0, .int .u64 0] [some (.blk false (.cells true (yC l b 1))), some (.blk true (.map true []))] = some (I (rstF l b 0), hY l b (encM es1)) := e72
    have wb := rest_bd g b 0
    by_cases hw : rstF l b 0 = 0
    · rw [if_pos hw]
      refine .inl ⟨by decide, ?_⟩
      rw [hw] at e72
      rw [r32 (by simp)]; unfold x32; dsimp only
      (sym => (simp [yC_nm, yC_rn, yM_s, yC_gr, yC_sl, yC_fz, yC_len, yC_0, yC_1, yC_2, yC_3, yC_4, yC_15, yC_same, Za,Zb,Zc,Zf,Zg,Zh,Zj,Zl,Zm,Zn,Zu,Zv,Zy,Z2,Z5,ZB,ZC,ZE,ZI,ZJ,ZM,ZN,ZR,ZS,ZX,ZZ,Yg,Yi,Yl,Yn,Yo,Yu,Yx,YE,YG,YH,YJ,YL,YN,YP,YR,YU,YV,YY,Xb,Xe,Xg,Xh,Xi,Xk,Xm,Xn,Xo,Xq,Xt,Xu,Xw,Xx,XP,XU,XV,XW,XY,Wc,We,Wh,Wk,Wp,Wq,Wr,Ws,Wt,Wu,Wv,Ww,Wx,Wy,Wz,W0,W3,W4,W5,W6,W7,W8,W9,WA,WB,WC,WE,WF,WG,WH,WI,WJ,WK,WM,WN,WO,WS,WT,WV,WW,WX,WY,Vi,Vk,Vl,Vn,Vo,Vp,Vq,Vw,Vx,Vz,V0,V1,V2,V5,V6,V7,V8,V9,VB,VC,VD,VE,VF,VG,VH,VI,VK,VL,VM,VN,VO,VP,VR,VS,VT,VU,VW,VZ,Ub,Uc,Ud,Uh,Uk,Ul,Um,Uq,Ur,Us,Ut,Uu,Uv,Uw,Ux,Uy,U1,U2,U3,U9,UA,UP,UQ,UT,UU,UV,UW,UZ,Te,Tf,Tg,Th,Ti,Tj,Tk,Tl,Tm,Tq,Tr,Ts,Tt,Ty,Sc,Sn,Sq,Sr, e52, e72]; all_goals tactic => exact rfl))
    · rw [if_neg hw]
      refine .inr ⟨rfl, hc, ?_⟩
      have q0 : (rstF l b 0 = 0) = False := eq_false hw
      have hN0 := Nat.two_pow_pos l.ls.length
      have hN : 2 ^ l.ls.length ≤ 2 ^ 10 := Nat.pow_le_pow_right (by omega) hn
      have s1 := shl_one big_u (i := l.ls.length) (by omega)
      have s2 := shl_1 big_u (i := l.ls.length) (by omega)
      have n1 := neg_n l.ls.length
      have w2 : IntKind.u64.wrap (((2 ^ l.ls.length : Nat) : Int) - 1) = ((2 ^ l.ls.length - 1 : Nat) : Int) := by
        rw [show ((2 ^ l.ls.length : Nat) : Int) - 1 = ((2 ^ l.ls.length - 1 : Nat) : Int) by omega]
        exact big_wrap big_u (by omega)
      have pe : Peel l b (2 ^ l.ls.length - 1) 0 0 := by
        refine ⟨by omega, (gdN_iff _).2 fun j hj _ => ?_, ?_, by decide, hN0, .inl rfl⟩
        · have := hb j
          rw [dif_zero (by omega) (by omega)]
          intro i hi
          rw [Nat.testBit_two_pow_sub_one]
          by_cases hin : i < l.ls.length
          · exact decide_eq_true hin
          · rw [bit_lt (p.lt j) (by omega)] at hi; simp at hi
        · rw [rest_full ((full_iff (by omega)).2 rfl)]; decide
      have hd0 : headX 0 [2, 3, 4, 7, 8, 9] (some (.normal, envL [2, 3, 4, 7, 8, 9] [.nilsl, I 0, .pt 0 0, .int .u64 0, I 0, .pt 3 0], h32 l b (encM es1) (2 ^ l.ls.length - 1))) = some ([.nilsl, I 0, .pt 0 0, .int .u64 0, I 0, .pt 3 0], h32 l b (encM es1) (2 ^ l.ls.length - 1)) := by
        generalize 2 ^ l.ls.length - 1 = N at *
        (sym => (simp [yC_nm, yC_rn, yM_s, yC_gr, yC_sl, yC_fz, yC_len, yC_0, yC_1, yC_2, yC_3, yC_4, yC_15, yC_same, Za,Zb,Zc,Zf,Zg,Zh,Zj,Zl,Zm,Zn,Zu,Zv,Zy,Z2,Z5,ZB,ZC,ZE,ZI,ZJ,ZM,ZN,ZR,ZS,ZX,ZZ,Yg,Yi,Yl,Yn,Yo,Yu,Yx,YE,YG,YH,YJ,YL,YN,YP,YR,YU,YV,YY,Xb,Xe,Xg,Xh,Xi,Xk,Xm,Xn,Xo,Xq,Xt,Xu,Xw,Xx,XP,XU,XV,XW,XY,Wc,We,Wh,Wk,Wp,Wq,Wr,Ws,Wt,Wu,Wv,Ww,Wx,Wy,Wz,W0,W3,W4,W5,W6,W7,W8,W9,WA,WB,WC,WE,WF,WG,WH,WI,WJ,WK,WM,WN,WO,WS,WT,WV,WW,WX,WY,Vi,Vk,Vl,Vn,Vo,Vp,Vq,Vw,Vx,Vz,V0,V1,V2,V5,V6,V7,V8,V9,VB,VC,VD,VE,VF,VG,VH,VI,VK,VL,VM,VN,VO,VP,VR,VS,VT,VU,VW,VZ,Ub,Uc,Ud,Uh,Uk,Ul,Um,Uq,Ur,Us,Ut,Uu,Uv,Uw,Ux,Uy,U1,U2,U3,U9,UA,UP,UQ,UT,UU,UV,UW,UZ,Te,Tf,Tg,Th,Ti,Tj,Tk,Tl,Tm,Tq,Tr,Ts,Tt,Ty,Sc,Sn,Sq,Sr]; all_goals tactic => exact rfl))
      have key : ∃ t : Nat × Nat × Int, Peel l b t.1 t.2.1 t.2.2 ∧ t.1 = 0 ∧ execW progX 32 0 none x32l0 (envL [2, 3, 4, 7, 8, 9] [.nilsl, I 0, .pt 0 0, .int .u64 0, I 0, .pt 3 0]) (h32 l b (encM es1) (2 ^ l.ls.length - 1)) = execW progX 32 0 none (match x32l0 with | .loop _ a => a | c => c) (envL [2, 3, 4, 7, 8, 9] [.nilsl, I 0, .pt 0 0, U t.2.1, I t.2.2, .pt 3 0]) (h32 l b (encM es1) t.1) := by
        unfold x32l0
        refine loop_inv (σ := Nat × Nat × Int) (fun t => [.nilsl, I 0, .pt 0 0, U t.2.1, I t.2.2, .pt 3 0]) (fun t => h32 l b (encM es1) t.1) (fun t => Peel l b t.1 t.2.1 t.2.2) (fun t => t.1 = 0) (fun t => t.1) (2 ^ l.ls.length - 1, 0, 0) hd0 pe ?_
        rintro ⟨a, best, most⟩ q
        dsimp only at q ⊢
        by_cases hz : a = 0
        · subst hz
          refine .inl ⟨?_, rfl⟩
          (sym => (simp [yC_nm, yC_rn, yM_s, yC_gr, yC_sl, yC_fz, yC_len, yC_0, yC_1, yC_2, yC_3, yC_4, yC_15, yC_same, Za,Zb,Zc,Zf,Zg,Zh,Zj,Zl,Zm,Zn,Zu,Zv,Zy,Z2,Z5,ZB,ZC,ZE,ZI,ZJ,ZM,ZN,ZR,ZS,ZX,ZZ,Yg,Yi,Yl,Yn,Yo,Yu,Yx,YE,YG,YH,YJ,YL,YN,YP,YR,YU,YV,YY,Xb,Xe,Xg,Xh,Xi,Xk,Xm,Xn,Xo,Xq,Xt,Xu,Xw,Xx,XP,XU,XV,XW,XY,Wc,We,Wh,Wk,Wp,Wq,Wr,Ws,Wt,Wu,Wv,Ww,Wx,Wy,Wz,W0,W3,W4,W5,W6,W7,W8,W9,WA,WB,WC,WE,WF,WG,WH,WI,WJ,WK,WM,WN,WO,WS,WT,WV,WW,WX,WY,Vi,Vk,Vl,Vn,Vo,Vp,Vq,Vw,Vx,Vz,V0,V1,V2,V5,V6,V7,V8,V9,VB,VC,VD,VE,VF,VG,VH,VI,VK,VL,VM,VN,VO,VP,VR,VS,VT,VU,VW,VZ,Ub,Uc,Ud,Uh,Uk,Ul,Um,Uq,Ur,Us,Ut,Uu,Uv,Uw,Ux,Uy,U1,U2,U3,U9,UA,UP,UQ,UT,UU,UV,UW,UZ,Te,Tf,Tg,Th,Ti,Tj,Tk,Tl,Tm,Tq,Tr,Ts,Tt,Ty,Sc,Sn,Sq,Sr]; all_goals tactic => exact rfl))
        · obtain ⟨k, h1, h2, h3, h4, h5⟩ := pl_of g p q.lt hz
          have hs := q.step g p hz h2 h3 h4 h5
          exact .inr ⟨(dif a (2 ^ k), _, _), hs.1, round32 g p q.lt hz h2 h1, hs.2⟩
      obtain ⟨⟨a, best, most⟩, q, rfl, hrun⟩ := key
      dsimp only at q hrun
      have hm := q.rest
      have hne : best ≠ 0 ∧ shF l b best = most := by
        rcases q.sh with h | h
        · omega
        · exact h
      refine ⟨best, hne.1, q.blt, by omega, wb.2, by omega, ?_⟩
      have ha2 := lt_10 q.blt hn
      have e81 := w81 best
      have e85 := w85 ha2
      generalize ofN (el best) = os at *
      generalize 2 ^ l.ls.length - 1 = N at *
      rw [r32 (by simp)]; unfold x32; dsimp only
      sym =>
        simp [yC_nm, yC_rn, yM_s, yC_gr, yC_sl, yC_fz, yC_len, yC_0, yC_1, yC_2, yC_3, yC_4, yC_15, yC_same, Za,Zb,Zc,Zf,Zg,Zh,Zj,Zl,Zm,Zn,Zu,Zv,Zy,Z2,Z5,ZB,ZC,ZE,ZI,ZJ,ZM,ZN,ZR,ZS,ZX,ZZ,Yg,Yi,Yl,Yn,Yo,Yu,Yx,YE,YG,YH,YJ,YL,YN,YP,YR,YU,YV,YY,Xb,Xe,Xg,Xh,Xi,Xk,Xm,Xn,Xo,Xq,Xt,Xu,Xw,Xx,XP,XU,XV,XW,XY,Wc,We,Wh,Wk,Wp,Wq,Wr,Ws,Wt,Wu,Wv,Ww,Wx,Wy,Wz,W0,W3,W4,W5,W6,W7,W8,W9,WA,WB,WC,WE,WF,WG,WH,WI,WJ,WK,WM,WN,WO,WS,WT,WV,WW,WX,WY,Vi,Vk,Vl,Vn,Vo,Vp,Vq,Vw,Vx,Vz,V0,V1,V2,V5,V6,V7,V8,V9,VB,VC,VD,VE,VF,VG,VH,VI,VK,VL,VM,VN,VO,VP,VR,VS,VT,VU,VW,VZ,Ub,Uc,Ud,Uh,Uk,Ul,Um,Uq,Ur,Us,Ut,Uu,Uv,Uw,Ux,Uy,U1,U2,U3,U9,UA,UP,UQ,UT,UU,UV,UW,UZ,Te,Tf,Tg,Th,Ti,Tj,Tk,Tl,Tm,Tq,Tr,Ts,Tt,Ty,Sc,Sn,Sq,Sr, e52, e72, q0, s1, s2, n1, w2]
        tactic =>
          unfold x32l0 at hrun ⊢
          rw [loop_head2 (e' := envL [2, 3, 4, 7, 8, 9] [.nilsl, I 0, .pt 0 0, .int .u64 0, I 0, .pt 3 0]) (H' := h32 l b (encM es1) N) (by rw [hd0]; (sym => (simp [yC_nm, yC_rn, yM_s, yC_gr, yC_sl, yC_fz, yC_len, yC_0, yC_1, yC_2, yC_3, yC_4, yC_15, yC_same, Za,Zb,Zc,Zf,Zg,Zh,Zj,Zl,Zm,Zn,Zu,Zv,Zy,Z2,Z5,ZB,ZC,ZE,ZI,ZJ,ZM,ZN,ZR,ZS,ZX,ZZ,Yg,Yi,Yl,Yn,Yo,Yu,Yx,YE,YG,YH,YJ,YL,YN,YP,YR,YU,YV,YY,Xb,Xe,Xg,Xh,Xi,Xk,Xm,Xn,Xo,Xq,Xt,Xu,Xw,Xx,XP,XU,XV,XW,XY,Wc,We,Wh,Wk,Wp,Wq,Wr,Ws,Wt,Wu,Wv,Ww,Wx,Wy,Wz,W0,W3,W4,W5,W6,W7,W8,W9,WA,WB,WC,WE,WF,WG,WH,WI,WJ,WK,WM,WN,WO,WS,WT,WV,WW,WX,WY,Vi,Vk,Vl,Vn,Vo,Vp,Vq,Vw,Vx,Vz,V0,V1,V2,V5,V6,V7,V8,V9,VB,VC,VD,VE,VF,VG,VH,VI,VK,VL,VM,VN,VO,VP,VR,VS,VT,VU,VW,VZ,Ub,Uc,Ud,Uh,Uk,Ul,Um,Uq,Ur,Us,Ut,Uu,Uv,Uw,Ux,Uy,U1,U2,U3,U9,UA,UP,UQ,UT,UU,UV,UW,UZ,Te,Tf,Tg,Th,Ti,Tj,Tk,Tl,Tm,Tq,Tr,Ts,Tt,Ty,Sc,Sn,Sq,Sr]; all_goals tactic => exact rfl))), hrun]
          (sym => (simp [yC_nm, yC_rn, yM_s, yC_gr, yC_sl, yC_fz, yC_len, yC_0, yC_1, yC_2, yC_3, yC_4, yC_15, yC_same, Za,Zb,Zc,Zf,Zg,Zh,Zj,Zl,Zm,Zn,Zu,Zv,Zy,Z2,Z5,ZB,ZC,ZE,ZI,ZJ,ZM,ZN,ZR,ZS,ZX,ZZ,Yg,Yi,Yl,Yn,Yo,Yu,Yx,YE,YG,YH,YJ,YL,YN,YP,YR,YU,YV,YY,Xb,Xe,Xg,Xh,Xi,Xk,Xm,Xn,Xo,Xq,Xt,Xu,Xw,Xx,XP,XU,XV,XW,XY,Wc,We,Wh,Wk,Wp,Wq,Wr,Ws,Wt,Wu,Wv,Ww,Wx,Wy,Wz,W0,W3,W4,W5,W6,W7,W8,W9,WA,WB,WC,WE,WF,WG,WH,WI,WJ,WK,WM,WN,WO,WS,WT,WV,WW,WX,WY,Vi,Vk,Vl,Vn,Vo,Vp,Vq,Vw,Vx,Vz,V0,V1,V2,V5,V6,V7,V8,V9,VB,VC,VD,VE,VF,VG,VH,VI,VK,VL,VM,VN,VO,VP,VR,VS,VT,VU,VW,VZ,Ub,Uc,Ud,Uh,Uk,Ul,Um,Uq,Ur,Us,Ut,Uu,Uv,Uw,Ux,Uy,U1,U2,U3,U9,UA,UP,UQ,UT,UU,UV,UW,UZ,Te,Tf,Tg,Th,Ti,Tj,Tk,Tl,Tm,Tq,Tr,Ts,Tt,Ty,Sc,Sn,Sq,Sr, e81, e85]; all_goals tactic => exact rfl))
  · rw [if_neg hc]
    rw [if_neg hc] at e52
    have g := eq_false hc
    refine .inl ⟨hc, ?_⟩
    rw [r32 (by simp)]; unfold x32; dsimp only
    (sym => (simp [yC_nm, yC_rn, yM_s, yC_gr, yC_sl, yC_fz, yC_len, yC_0, yC_1, yC_2, yC_3, yC_4, yC_15, yC_same, Za,Zb,Zc,Zf,Zg,Zh,Zj,Zl,Zm,Zn,Zu,Zv,Zy,Z2,Z5,ZB,ZC,ZE,ZI,ZJ,ZM,ZN,ZR,ZS,ZX,ZZ,Yg,Yi,Yl,Yn,Yo,Yu,Yx,YE,YG,YH,YJ,YL,YN,YP,YR,YU,YV,YY,Xb,Xe,Xg,Xh,Xi,Xk,Xm,Xn,Xo,Xq,Xt,Xu,Xw,Xx,XP,XU,XV,XW,XY,Wc,We,Wh,Wk,Wp,Wq,Wr,Ws,Wt,Wu,Wv,Ww,Wx,Wy,Wz,W0,W3,W4,W5,W6,W7,W8,W9,WA,WB,WC,WE,WF,WG,WH,WI,WJ,WK,WM,WN,WO,WS,WT,WV,WW,WX,WY,Vi,Vk,Vl,Vn,Vo,Vp,Vq,Vw,Vx,Vz,V0,V1,V2,V5,V6,V7,V8,V9,VB,VC,VD,VE,VF,VG,VH,VI,VK,VL,VM,VN,VO,VP,VR,VS,VT,VU,VW,VZ,Ub,Uc,Ud,Uh,Uk,Ul,Um,Uq,Ur,Us,Ut,Uu,Uv,Uw,Ux,Uy,U1,U2,U3,U9,UA,UP,UQ,UT,UU,UV,UW,UZ,Te,Tf,Tg,Th,Ti,Tj,Tk,Tl,Tm,Tq,Tr,Ts,Tt,Ty,Sc,Sn,Sq,Sr, e52, g]; all_goals tactic => exact rfl))
end
end Go.Proofs.YtpbeclkpohehgaaDoor
