/- Parts of a proof, joined: K44 K45 K46 K47 K48 K49 K50 K51 K52 K53 K54 K55 K56 K57 K58 K59 K60 K61 K62 K63 K64. No statement of the seed is proved here. -/
import Derived.Test.YtpbeclkpohehgaaDoorN5
set_option linter.unusedSimpArgs false
set_option linter.unusedVariables false
set_option linter.unusedSectionVars false
namespace Go.Proofs.YtpbeclkpohehgaaDoor
open Go Go.DL
set_option maxRecDepth 100000
set_option maxHeartbeats 4000000
section
variable {l : Li}
theorem round92 {bh ah : Int} {j : Nat} {t : List Int} (ht : l.ts[j]? = some t) (hT : l.ts.length ≤ 9223372036854775807) (hl : t.length ≤ 9223372036854775807) (h : hitT t bh ah = false) :
    headX 0 [1,2,13,14,15] (execW progX 92 0 none (match x92l1 with | .loop _ a => a | c => c) (envL [1,2,13,14,15] [I bh,I ah,tR l.ts,I l.ts.length,I (j : Nat)]) []) =
      some ([I bh,I ah,tR l.ts,I l.ts.length,I (j + 1 : Nat)],[]) := by
  have a1 := lt_ix (lt_of ht)
  have a2 := up_ix (lt_of ht) hT
  have z := Te (n := (t.length : Int))
  have m0 : metN t ah 0 = false := rfl
  have hn : ∀ i,i < t.length → hitN t bh ah i = false := fun i hi => by
    have := List.any_eq_false.1 h i (List.mem_range.2 hi)
    simpa using this
  unfold x92l1
  dsimp only
  sym =>
    simp [Za,Zb,Zf,Zh,Zl,Zm,Zu,Z2,Z8,ZE,ZG,Yb,Yg,Yh,Yj,Ys,Yv,Yw,Y1,YQ,YR,YV,Xo,Xp,Xs,W9,WH,WL,WM,WO,WP,VL,VM,VN,VO,VP,VQ,VR,VU,VV,VY,Ua,Ub,Uc,Ud,Ue,Uf,Us,Ux,Uy,U1,U2,U3,U4,U5,Te,Th,Ti,Tk,Tv,Tw,Ty,Tz,T3,T4,T5,T7,T9,TA,TB,TC,a1,ht]
    tactic =>
      unfold x92l0
      rw [loop_rule t.length (fun i => [I bh,I ah,.bool (metN t ah i),tR l.ts,I l.ts.length,I (j : Nat),rI t,I t.length,I (i : Nat)]) (fun _ => [])]
      · (sym => (simp [Za,Zb,Zf,Zh,Zl,Zm,Zu,Z2,Z8,ZE,ZG,Yb,Yg,Yh,Yj,Ys,Yv,Yw,Y1,YQ,YR,YV,Xo,Xp,Xs,W9,WH,WL,WM,WO,WP,VL,VM,VN,VO,VP,VQ,VR,VU,VV,VY,Ua,Ub,Uc,Ud,Ue,Uf,Us,Ux,Uy,U1,U2,U3,U4,U5,Te,Th,Ti,Tk,Tv,Tw,Ty,Tz,T3,T4,T5,T7,T9,TA,TB,TC,z,a2]; all_goals tactic => exact rfl))
      · (sym => (simp [Za,Zb,Zf,Zh,Zl,Zm,Zu,Z2,Z8,ZE,ZG,Yb,Yg,Yh,Yj,Ys,Yv,Yw,Y1,YQ,YR,YV,Xo,Xp,Xs,W9,WH,WL,WM,WO,WP,VL,VM,VN,VO,VP,VQ,VR,VU,VV,VY,Ua,Ub,Uc,Ud,Ue,Uf,Us,Ux,Uy,U1,U2,U3,U4,U5,Te,Th,Ti,Tk,Tv,Tw,Ty,Tz,T3,T4,T5,T7,T9,TA,TB,TC,m0]; all_goals tactic => exact rfl))
      · exact fun i hi => round92i hi hl (hn i hi)
      · (sym => (simp [Za,Zb,Zf,Zh,Zl,Zm,Zu,Z2,Z8,ZE,ZG,Yb,Yg,Yh,Yj,Ys,Yv,Yw,Y1,YQ,YR,YV,Xo,Xp,Xs,W9,WH,WL,WM,WO,WP,VL,VM,VN,VO,VP,VQ,VR,VU,VV,VY,Ua,Ub,Uc,Ud,Ue,Uf,Us,Ux,Uy,U1,U2,U3,U4,U5,Te,Th,Ti,Tk,Tv,Tw,Ty,Tz,T3,T4,T5,T7,T9,TA,TB,TC,z]; all_goals tactic => exact rfl))
theorem left92 {bh ah : Int} {j : Nat} {t : List Int} (ht : l.ts[j]? = some t) (hl : t.length ≤ 9223372036854775807) (h : hitT t bh ah = true) :
    ∃ e,execW progX 92 0 none (match x92l1 with | .loop _ a => a | c => c) (envL [1,2,13,14,15] [I bh,I ah,tR l.ts,I l.ts.length,I (j : Nat)]) [] = some (.ret,e,[]) ∧ e 6 = .bool true := by
  have a1 := lt_ix (lt_of ht)
  have m0 : metN t ah 0 = false := rfl
  obtain ⟨m,m1,m2,m3⟩ := any_ix (hitN t bh ah) t.length
  have hm : m < t.length ∧ hitN t bh ah m = true := by
    rcases m3 with ⟨_,h2⟩ | ⟨h1,h2,_⟩
    · unfold hitT at h; rw [h] at h2; simp at h2
    · exact ⟨h1,h2⟩
  obtain ⟨e,he,h6⟩ := left92i (l := l) (j := j) hm.1 hm.2
  refine ⟨e,?_,h6⟩
  unfold x92l1
  dsimp only
  sym =>
    simp [Za,Zb,Zf,Zh,Zl,Zm,Zu,Z2,Z8,ZE,ZG,Yb,Yg,Yh,Ys,Yv,Yw,W9,VL,VO,VP,Ub,Uc,Ud,Ue,Uf,Us,Ux,Th,Ti,Tk,Tv,Tw,Ty,T3,T4,TB,TC,a1,ht]
    tactic =>
      unfold x92l0 at he ⊢
      dsimp only at he
      rw [loop_rule m (fun i => [I bh,I ah,.bool (metN t ah i),tR l.ts,I l.ts.length,I (j : Nat),rI t,I t.length,I (i : Nat)]) (fun _ => [])]
      · rw [he]; rfl
      · (sym => (simp [Za,Zb,Zf,Zh,Zl,Zm,Zu,Z2,Z8,ZE,ZG,Yb,Yg,Yh,Ys,Yv,Yw,W9,VL,VO,VP,Ub,Uc,Ud,Ue,Uf,Us,Ux,Th,Ti,Tk,Tv,Tw,Ty,T3,T4,TB,TC,m0]; all_goals tactic => exact rfl))
      · exact fun i hi => round92i (by omega) hl (m2 i hi)
      · rw [he]; rfl
theorem w92 (hf : l.Fit) (bh ah : Int) : runW progX 92 [.agg l.c,I bh,I ah] [] = some (.bool (stdF l.ts bh ah),[]) := by
  have z := Te (n := (l.ts.length : Int))
  obtain ⟨m,m1,m2,m3⟩ := any_ix (fun j => hitT (l.ts.getD j []) bh ah) l.ts.length
  have rd : ∀ j,j < m → headX 0 [1,2,13,14,15] (execW progX 92 0 none (match x92l1 with | .loop _ a => a | c => c) (envL [1,2,13,14,15] [I bh,I ah,tR l.ts,I l.ts.length,I (j : Nat)]) []) =
      some ([I bh,I ah,tR l.ts,I l.ts.length,I (j + 1 : Nat)],[]) := fun j hj => by
    obtain ⟨t,ht⟩ := at_ix (l := l.ts) (i := j) (by omega)
    have := m2 j hj
    rw [getD_of ht] at this
    exact round92 ht hf.ts (hf.each t (List.mem_of_getElem? ht)) this
  unfold stdF
  rw [r92 (by simp)]; unfold x92; dsimp only
  rcases m3 with ⟨rfl,e⟩ | ⟨m3,m4,e⟩
  · rw [e]
    sym =>
      simp [Za,Zb,Zf,Zh,Zl,Zm,Zn,Zu,Zy,Z2,Z6,ZE,ZG,ZZ,Yb,Ys,Y1,YQ,YR,YV,Xe,Xf,Xg,Xo,Xp,Xs,XI,Wc,Wd,We,Wg,Wn,Wy,Wz,W0,W8,W9,WH,WL,WM,WN,WO,WP,Vr,V5,V6,V8,V9,VA,VB,VC,VF,VG,VH,VI,VK,VL,VM,VN,VO,VQ,VR,VT,VU,VV,VX,VY,Ua,Uc,Ud,Ui,Uy,U1,U2,U3,U4,U5,U6,U7,UC,UD,UO,UP,Te,Tf,Tg,Tk,Tq,Tv,Tw,Tx,Tz,T3,T4,T5,T6,T8,T9,TA,TB,TC,Sw]
      tactic =>
        unfold x92l1
        rw [loop_rule l.ts.length (fun j => [I bh,I ah,tR l.ts,I l.ts.length,I (j : Nat)]) (fun _ => [])]
        · (sym => (simp [Za,Zb,Zf,Zh,Zl,Zm,Zn,Zu,Zy,Z2,Z6,ZE,ZG,ZZ,Yb,Ys,Y1,YQ,YR,YV,Xe,Xf,Xg,Xo,Xp,Xs,XI,Wc,Wd,We,Wg,Wn,Wy,Wz,W0,W8,W9,WH,WL,WM,WN,WO,WP,Vr,V5,V6,V8,V9,VA,VB,VC,VF,VG,VH,VI,VK,VL,VM,VN,VO,VQ,VR,VT,VU,VV,VX,VY,Ua,Uc,Ud,Ui,Uy,U1,U2,U3,U4,U5,U6,U7,UC,UD,UO,UP,Te,Tf,Tg,Tk,Tq,Tv,Tw,Tx,Tz,T3,T4,T5,T6,T8,T9,TA,TB,TC,Sw,z]; all_goals tactic => exact rfl))
        · (sym => (simp [Za,Zb,Zf,Zh,Zl,Zm,Zn,Zu,Zy,Z2,Z6,ZE,ZG,ZZ,Yb,Ys,Y1,YQ,YR,YV,Xe,Xf,Xg,Xo,Xp,Xs,XI,Wc,Wd,We,Wg,Wn,Wy,Wz,W0,W8,W9,WH,WL,WM,WN,WO,WP,Vr,V5,V6,V8,V9,VA,VB,VC,VF,VG,VH,VI,VK,VL,VM,VN,VO,VQ,VR,VT,VU,VV,VX,VY,Ua,Uc,Ud,Ui,Uy,U1,U2,U3,U4,U5,U6,U7,UC,UD,UO,UP,Te,Tf,Tg,Tk,Tq,Tv,Tw,Tx,Tz,T3,T4,T5,T6,T8,T9,TA,TB,TC,Sw]; all_goals tactic => exact rfl))
        · exact rd
        · (sym => (simp [Za,Zb,Zf,Zh,Zl,Zm,Zn,Zu,Zy,Z2,Z6,ZE,ZG,ZZ,Yb,Ys,Y1,YQ,YR,YV,Xe,Xf,Xg,Xo,Xp,Xs,XI,Wc,Wd,We,Wg,Wn,Wy,Wz,W0,W8,W9,WH,WL,WM,WN,WO,WP,Vr,V5,V6,V8,V9,VA,VB,VC,VF,VG,VH,VI,VK,VL,VM,VN,VO,VQ,VR,VT,VU,VV,VX,VY,Ua,Uc,Ud,Ui,Uy,U1,U2,U3,U4,U5,U6,U7,UC,UD,UO,UP,Te,Tf,Tg,Tk,Tq,Tv,Tw,Tx,Tz,T3,T4,T5,T6,T8,T9,TA,TB,TC,Sw,z]; all_goals tactic => exact rfl))
  · rw [e]
    obtain ⟨t,ht⟩ := at_ix m3
    rw [getD_of ht] at m4
    obtain ⟨eo,he,h6⟩ := left92 ht (hf.each t (List.mem_of_getElem? ht)) m4
    sym =>
      simp [Za,Zb,Zf,Zh,Zl,Zm,Zn,Zu,Zy,Z2,Z6,ZE,ZG,ZZ,Yb,Ys,Y1,YQ,YR,YV,Xe,Xf,Xg,Xo,Xp,Xs,XI,Wc,Wd,We,Wg,Wn,Wy,Wz,W0,W8,W9,WH,WL,WM,WN,WO,WP,Vr,V5,V6,V8,V9,VA,VB,VC,VF,VG,VH,VI,VK,VL,VM,VN,VO,VQ,VR,VT,VU,VV,VX,VY,Ua,Uc,Ud,Ui,Uy,U1,U2,U3,U4,U5,U6,U7,UC,UD,UO,UP,Te,Tf,Tg,Tk,Tq,Tv,Tw,Tx,Tz,T3,T4,T5,T6,T8,T9,TA,TB,TC,Sw]
      tactic =>
        unfold x92l1 at he ⊢
        dsimp only at he
        rw [loop_rule m (fun j => [I bh,I ah,tR l.ts,I l.ts.length,I (j : Nat)]) (fun _ => [])]
        · rw [he]
          (sym => (simp [Za,Zb,Zf,Zh,Zl,Zm,Zn,Zu,Zy,Z2,Z6,ZE,ZG,ZZ,Yb,Ys,Y1,YQ,YR,YV,Xe,Xf,Xg,Xo,Xp,Xs,XI,Wc,Wd,We,Wg,Wn,Wy,Wz,W0,W8,W9,WH,WL,WM,WN,WO,WP,Vr,V5,V6,V8,V9,VA,VB,VC,VF,VG,VH,VI,VK,VL,VM,VN,VO,VQ,VR,VT,VU,VV,VX,VY,Ua,Uc,Ud,Ui,Uy,U1,U2,U3,U4,U5,U6,U7,UC,UD,UO,UP,Te,Tf,Tg,Tk,Tq,Tv,Tw,Tx,Tz,T3,T4,T5,T6,T8,T9,TA,TB,TC,Sw,h6]; all_goals tactic => exact rfl))
        · (sym => (simp [Za,Zb,Zf,Zh,Zl,Zm,Zn,Zu,Zy,Z2,Z6,ZE,ZG,ZZ,Yb,Ys,Y1,YQ,YR,YV,Xe,Xf,Xg,Xo,Xp,Xs,XI,Wc,Wd,We,Wg,Wn,Wy,Wz,W0,W8,W9,WH,WL,WM,WN,WO,WP,Vr,V5,V6,V8,V9,VA,VB,VC,VF,VG,VH,VI,VK,VL,VM,VN,VO,VQ,VR,VT,VU,VV,VX,VY,Ua,Uc,Ud,Ui,Uy,U1,U2,U3,U4,U5,U6,U7,UC,UD,UO,UP,Te,Tf,Tg,Tk,Tq,Tv,Tw,Tx,Tz,T3,T4,T5,T6,T8,T9,TA,TB,TC,Sw]; all_goals tactic => exact rfl))
        · exact rd
        · rw [he]; rfl
end
theorem std_beh {l : Li} (g : Good l) (k j : Nat) : stdF l.ts (k : Int) (j : Int) = (behF l.ts k).testBit j := by
  apply Bool.eq_iff_iff.2
  unfold stdF hitT hitN
  constructor
  · intro h
    obtain ⟨T,hT,h⟩ := List.any_eq_true.1 h
    obtain ⟨i,hi,h⟩ := List.any_eq_true.1 h
    rw [List.mem_range] at hT hi
    rw [Bool.and_eq_true,decide_eq_true_iff,met_iff] at h
    obtain ⟨h1,i',h2,h3⟩ := h
    have e : behF l.ts k = allT (l.ts.getD T []) 0 i := by
      have := beh_at g _ (Nat.le_refl _) T i hT hi
      rw [plc,h1,Int.toNat_natCast] at this
      exact this
    rw [e,allT_bit]
    exact .inr ⟨i',h2,by rw [h3,Int.toNat_natCast]⟩
  · intro h
    rcases bA_occ (T := l.ts) (x := k) l.ts.length with h0 | ⟨T,hT,i,hi,h1⟩
    · unfold behF at h
      rw [h0,Nat.zero_testBit] at h; simp at h
    · have e := beh_at g _ (Nat.le_refl _) T i hT hi
      rw [h1] at e
      unfold behF at h
      rw [e,allT_bit,Nat.zero_testBit] at h
      rcases h with h | ⟨i',h2,h3⟩
      · simp at h
      · have r1 := (g.fresh hT hi).1
        have r2 := (g.fresh hT (i := i') (by omega)).1
        refine List.any_eq_true.2 ⟨T,List.mem_range.2 hT,List.any_eq_true.2 ⟨i,List.mem_range.2 hi,?_⟩⟩
        rw [Bool.and_eq_true,decide_eq_true_iff,met_iff]
        unfold plc at h1
        exact ⟨by omega,i',h2,by omega⟩
end Go.Proofs.YtpbeclkpohehgaaDoor
namespace Go.Proofs.YtpbeclkpohehgaaDoor
open Go Go.DL
set_option maxRecDepth 100000
set_option maxHeartbeats 4000000

theorem loopU {D : Nat → Option XFn} {K k : Nat} {rd : Option Nat} {L : List Nat} {a : XCode} {e : Env} {h : XH} : execW D K k rd (.loop L a) e h = thenX (execW D K k rd a (envL L (canonL k L e h)) (canonH k L e h)) (execW D K k rd (.loop L a)) := execW_loop
def tmZ (a b : Int) : Int := Int.tmod a b
def tdZ (a b : Int) : Int := Int.tdiv a b
def remI (z : Bool) (k : IntKind) (v : Int) : Option AV := if z then none else some (.int k v)
theorem remF (k : IntKind) (v : Int) : remI false k v = some (.int k v) := rfl
theorem irem2 {k : IntKind} {a b : Int} : intA .rem k a k b = remI (decide (b = 0)) k (tmZ a b) := by
  by_cases h : b = 0 <;> simp [intA,remI,h,tmZ]
theorem iquo2 {k : IntKind} {a b : Int} : intA .quo k a k b = remI (decide (b = 0)) k (k.wrap (tdZ a b)) := by
  by_cases h : b = 0 <;> simp [intA,remI,h,tdZ]
abbrev B8 (n : Nat) : AV := .int .u8 (n : Int)
structure P2 where
  a : Nat
  b : Nat
abbrev P2.row (x : P2) : List AV := [B8 x.a,B8 x.b]
structure P5 where
  a : Nat
  b : Nat
  c : Nat
  d : Nat
  e : Nat
abbrev P5.row (x : P5) : List AV := [B8 x.a,B8 x.b,B8 x.c,B8 x.d,B8 x.e]
structure Qu where
  k0 : List P2
  k1 : List P2
  ls : List P5
  s0 : Nat
  s1 : Nat
abbrev rP (k : List P2) : AV := .fs (k.map P2.row)
abbrev Qu.c (q : Qu) : List AV := [rP q.k0,rP q.k1,.fs (q.ls.map P5.row),B8 q.s0,B8 q.s1]
structure Qu.Ok (q : Qu) : Prop where
  k0 : ∀ x ∈ q.k0,x.a < 256 ∧ x.b < 256
  k1 : ∀ x ∈ q.k1,x.a < 256 ∧ x.b < 256
  ls : ∀ x ∈ q.ls,x.a < 256 ∧ x.b < 256 ∧ x.c < 256 ∧ x.d < 256 ∧ x.e < 256
  s : q.s0 < 256 ∧ q.s1 < 256
theorem wr8 {n : Nat} (h : n < 256) : IntKind.i64.wrap (n : Int) = (n : Int) := wrap_ok (by omega) (by omega)
theorem tdiv_n (a b : Nat) : tdZ (a : Int) (b : Int) = ((a / b : Nat) : Int) := by rw [tdZ,Int.tdiv_eq_ediv_of_nonneg (by omega)]; exact (Int.natCast_ediv a b).symm
theorem tmod_n (a b : Nat) : tmZ (a : Int) (b : Int) = ((a % b : Nat) : Int) := by rw [tmZ,Int.tmod_eq_emod_of_nonneg (by omega)]; exact (Int.natCast_emod a b).symm
def afN (x : List P2) : Nat → Nat
  | 0 => 0
  | j + 1 => afN x j + 1 + (x.getD j ⟨0,0⟩).a
def nnN (x : List P2) : Nat → Nat
  | 0 => 0
  | j + 1 => nnN x j + 1 + (x.getD j ⟨0,0⟩).b % 9
def stN (x : List P2) : Nat → List St
  | 0 => []
  | j + 1 => stN x j ++ [⟨(afN x (j + 1) : Nat),(nnN x (j + 1) : Nat)⟩]
theorem stN_len (x : List P2) : ∀ j,(stN x j).length = j
  | 0 => rfl
  | j + 1 => by rw [stN,List.length_append,stN_len x j]; rfl
theorem af_bd {x : List P2} (hx : ∀ y ∈ x,y.a < 256 ∧ y.b < 256) : ∀ j,j ≤ x.length → afN x j ≤ 256 * j ∧ nnN x j ≤ 9 * j
  | 0,_ => ⟨Nat.le_refl _,Nat.le_refl _⟩
  | j + 1,hj => by
    have ih := af_bd hx j (by omega)
    obtain ⟨y,hy⟩ := at_ix (l := x) (i := j) (by omega)
    have hb := hx y (List.mem_of_getElem? hy)
    rw [afN,nnN,getD_of hy]
    omega
def fewK (x : List P2) : Nat := min x.length 4
def mdK (x : List P2) : List St := stN x (fewK x)
section
variable {q : Qu}
abbrev hM0 (q : Qu) : XH := [some (.blk true (.cells true q.c)),bZ,some (.blk true (.cells true [.nilsl,.nilsl,.nilsl,I (q.s0 : Nat),I ((q.s0 + q.s1 : Nat) : Int)]))]
abbrev hM1 (q : Qu) : XH := [some (.blk true (.cells true q.c)),bZ,some (.blk false (.cells true [.sl 3 0 1 1,.nilsl,.nilsl,I (q.s0 : Nat),I ((q.s0 + q.s1 : Nat) : Int)])),some (.blk true (.cells true [rS (mdK q.k0)]))]
abbrev hM2 (q : Qu) : XH := [some (.blk true (.cells true q.c)),bZ,some (.blk false (.cells true [.sl 3 0 1 2,.nilsl,.nilsl,I (q.s0 : Nat),I ((q.s0 + q.s1 : Nat) : Int)])),some (.blk true (.cells true [rS (mdK q.k0),rS (mdK q.k1)]))]
def tS (p : Nat) (j : Nat) : AV := if j = 0 then .nilsl else .sl p 0 2 j
def tG (x : List P2) (j : Nat) : XH := if j = 0 then [] else [some (.blk true (.cells true (cT (stN x j))))]
theorem round39k {H : XH} {p : Nat} (hH : (H = hM0 q ∧ p = 3) ∨ (H = hM1 q ∧ p = 4)) {x : List P2} (hx : ∀ y ∈ x,y.a < 256 ∧ y.b < 256) {u v : AV} {i : Nat} (hu : u = .agg [rP q.k0,rP q.k1]) {j : Nat} (hj : j < fewK x) :
    headX 0 [1,2,3,5,6,7,8,9,34,35] (execW progX 39 0 none (match x39l0 with | .loop _ a => a | c => c) (envL [1,2,3,5,6,7,8,9,34,35] [.pt 0 0,.pt 1 0,.pt 2 0,rP x,tS p j,I (afN x j : Nat),I (nnN x j : Nat),I (j : Nat),.agg [rP q.k0,rP q.k1],I (i : Nat)]) (H ++ tG x j)) =
      some ([.pt 0 0,.pt 1 0,.pt 2 0,rP x,tS p (j + 1),I (afN x (j + 1) : Nat),I (nnN x (j + 1) : Nat),I (j + 1 : Nat),.agg [rP q.k0,rP q.k1],I (i : Nat)],H ++ tG x (j + 1)) := by
  have hj2 : j < x.length ∧ j < 4 := by unfold fewK at hj; omega
  obtain ⟨y,hy⟩ := at_ix hj2.1
  have hb := hx y (List.mem_of_getElem? hy)
  have bd := af_bd hx j (by omega)
  have a1 := lt_ix hj2.1
  have a4 : ((j : Int) < 4) = True := eq_true (by omega)
  have a2 := up_ix hj2.2 (by omega)
  have w1 := wr8 hb.1
  have w2 := wr8 hb.2
  have e1 : afN x (j + 1) = afN x j + 1 + y.a := by rw [afN,getD_of hy]
  have e2 : nnN x (j + 1) = nnN x j + 1 + y.b % 9 := by rw [nnN,getD_of hy]
  have q1 : IntKind.i64.wrap ((afN x j : Int) + 1) = (afN x j : Int) + 1 := wrap_ok (by omega) (by omega)
  have q2 : IntKind.i64.wrap ((afN x j : Int) + 1 + (y.a : Int)) = ((afN x (j + 1) : Nat) : Int) := by rw [wrap_ok (by omega) (by omega)]; omega
  have q3 : IntKind.i64.wrap ((nnN x j : Int) + 1) = (nnN x j : Int) + 1 := wrap_ok (by omega) (by omega)
  have q5 : tmZ (y.b : Int) 9 = ((y.b % 9 : Nat) : Int) := tmod_n y.b 9
  have q4 : IntKind.i64.wrap ((nnN x j : Int) + 1 + ((y.b % 9 : Nat) : Int)) = ((nnN x (j + 1) : Nat) : Int) := by rw [wrap_ok (by omega) (by omega)]; omega
  have cl := cT_len (stN x j)
  rw [stN_len] at cl
  have ca := cT_app (stN x j) ⟨(afN x (j + 1) : Nat),(nnN x (j + 1) : Nat)⟩
  have c0 : cT (stN x 0) = [] := rfl
  have l1 : ((j + 1) * 16 ≤ 1099511627776) = True := eq_true (by omega)
  have l2 : (j + 1 ≤ 1099511627776) = True := eq_true (by omega)
  unfold tS tG
  rw [stN,ca]
  simp only [Nat.add_one_ne_zero,if_false]
  generalize afN x (j + 1) = af at *
  generalize nnN x (j + 1) = nf at *
  clear e1 e2 ca
  unfold x39l0
  dsimp only
  rcases hH with ⟨rfl,rfl⟩ | ⟨rfl,rfl⟩
  · by_cases hj0 : j = 0
    · subst hj0
      have a1 : ((0 : Int) < (x.length : Int)) = True := a1
      simp only [if_true]
      (sym => (simp [irem2,iquo2,remF,Za,Zb,Zd,Ze,Zf,Zh,Zi,Zl,Zm,Zn,Zo,Zp,Zu,Zx,Zz,Z0,Z2,Z5,Z7,Z8,ZE,ZI,ZJ,ZS,ZV,ZY,Yb,Yg,Yh,Yj,Ys,Yv,Yw,Yx,Y0,Y1,Y2,Y3,Y5,YC,YN,YQ,YT,YV,YX,YY,Xa,Xe,Xf,Xo,Xq,Xs,Xt,Xu,Xw,Wm,Wn,Wy,Wz,W0,W3,W4,W5,W6,W7,W9,WA,WB,WE,WF,WH,WI,WJ,WL,WN,WO,WP,WQ,WV,WW,WX,Vb,Vc,VL,VM,VN,VO,VP,VU,VV,VW,VX,VY,Ua,Ub,Uc,Ud,Ue,Uf,Ui,Us,Uw,Ux,Uy,Uz,U0,U2,U3,U4,U5,U6,U7,UE,UF,UG,UH,UQ,UR,US,UT,UY,UZ,Ta,Tb,Tc,Td,Th,Ti,Tk,Tq,Tr,Ts,Tt,Tu,Tv,Tw,Ty,T3,T4,T7,TA,TB,TC,TH,TK,a1,hy,w1,w2,q1,q2,q3,q4,q5,c0]; all_goals tactic => exact rfl))
    · simp only [hj0,if_false]
      generalize cT (stN x j) = cc at *
      (sym => (simp [irem2,iquo2,remF,Za,Zb,Zd,Ze,Zf,Zh,Zi,Zl,Zm,Zn,Zo,Zp,Zu,Zx,Zz,Z0,Z2,Z5,Z7,Z8,ZE,ZI,ZJ,ZS,ZV,ZY,Yb,Yg,Yh,Yj,Ys,Yv,Yw,Yx,Y0,Y1,Y2,Y3,Y5,YC,YN,YQ,YT,YV,YX,YY,Xa,Xe,Xf,Xo,Xq,Xs,Xt,Xu,Xw,Wm,Wn,Wy,Wz,W0,W3,W4,W5,W6,W7,W9,WA,WB,WE,WF,WH,WI,WJ,WL,WN,WO,WP,WQ,WV,WW,WX,Vb,Vc,VL,VM,VN,VO,VP,VU,VV,VW,VX,VY,Ua,Ub,Uc,Ud,Ue,Uf,Ui,Us,Uw,Ux,Uy,Uz,U0,U2,U3,U4,U5,U6,U7,UE,UF,UG,UH,UQ,UR,US,UT,UY,UZ,Ta,Tb,Tc,Td,Th,Ti,Tk,Tq,Tr,Ts,Tt,Tu,Tv,Tw,Ty,T3,T4,T7,TA,TB,TC,TH,TK,a1,a2,a4,hy,w1,w2,q1,q2,q3,q4,q5,l1,l2,cl]; all_goals tactic => exact rfl))
  · by_cases hj0 : j = 0
    · subst hj0
      have a1 : ((0 : Int) < (x.length : Int)) = True := a1
      simp only [if_true]
      (sym => (simp [irem2,iquo2,remF,Za,Zb,Zd,Ze,Zf,Zh,Zi,Zl,Zm,Zn,Zo,Zp,Zu,Zx,Zz,Z0,Z2,Z5,Z7,Z8,ZE,ZI,ZJ,ZS,ZV,ZY,Yb,Yg,Yh,Yj,Ys,Yv,Yw,Yx,Y0,Y1,Y2,Y3,Y5,YC,YN,YQ,YT,YV,YX,YY,Xa,Xe,Xf,Xo,Xq,Xs,Xt,Xu,Xw,Wm,Wn,Wy,Wz,W0,W3,W4,W5,W6,W7,W9,WA,WB,WE,WF,WH,WI,WJ,WL,WN,WO,WP,WQ,WV,WW,WX,Vb,Vc,VL,VM,VN,VO,VP,VU,VV,VW,VX,VY,Ua,Ub,Uc,Ud,Ue,Uf,Ui,Us,Uw,Ux,Uy,Uz,U0,U2,U3,U4,U5,U6,U7,UE,UF,UG,UH,UQ,UR,US,UT,UY,UZ,Ta,Tb,Tc,Td,Th,Ti,Tk,Tq,Tr,Ts,Tt,Tu,Tv,Tw,Ty,T3,T4,T7,TA,TB,TC,TH,TK,a1,hy,w1,w2,q1,q2,q3,q4,q5,c0]; all_goals tactic => exact rfl))
    · simp only [hj0,if_false]
      generalize cT (stN x j) = cc at *
      (sym => (simp [irem2,iquo2,remF,Za,Zb,Zd,Ze,Zf,Zh,Zi,Zl,Zm,Zn,Zo,Zp,Zu,Zx,Zz,Z0,Z2,Z5,Z7,Z8,ZE,ZI,ZJ,ZS,ZV,ZY,Yb,Yg,Yh,Yj,Ys,Yv,Yw,Yx,Y0,Y1,Y2,Y3,Y5,YC,YN,YQ,YT,YV,YX,YY,Xa,Xe,Xf,Xo,Xq,Xs,Xt,Xu,Xw,Wm,Wn,Wy,Wz,W0,W3,W4,W5,W6,W7,W9,WA,WB,WE,WF,WH,WI,WJ,WL,WN,WO,WP,WQ,WV,WW,WX,Vb,Vc,VL,VM,VN,VO,VP,VU,VV,VW,VX,VY,Ua,Ub,Uc,Ud,Ue,Uf,Ui,Us,Uw,Ux,Uy,Uz,U0,U2,U3,U4,U5,U6,U7,UE,UF,UG,UH,UQ,UR,US,UT,UY,UZ,Ta,Tb,Tc,Td,Th,Ti,Tk,Tq,Tr,Ts,Tt,Tu,Tv,Tw,Ty,T3,T4,T7,TA,TB,TC,TH,TK,a1,a2,a4,hy,w1,w2,q1,q2,q3,q4,q5,l1,l2,cl]; all_goals tactic => exact rfl))
end
end Go.Proofs.YtpbeclkpohehgaaDoor
namespace Go.Proofs.YtpbeclkpohehgaaDoor
open Go Go.DL
set_option maxRecDepth 100000
set_option maxHeartbeats 4000000
theorem few_out (x : List P2) : (((fewK x : Nat) : Int) < (x.length : Int)) = False ∨ ((((fewK x : Nat) : Int) < (x.length : Int)) = True ∧ (((fewK x : Nat) : Int) < 4) = False) := by
  unfold fewK
  by_cases h : x.length ≤ 4
  · exact .inl (eq_false (by omega))
  · exact .inr ⟨eq_true (by omega),eq_false (by omega)⟩
section
variable {q : Qu}
theorem round39 (hq : q.Ok) :
    headX 0 [1,2,3,34,35] (execW progX 39 0 none (match x39l1 with | .loop _ a => a | c => c) (envL [1,2,3,34,35] [.pt 0 0,.pt 1 0,.pt 2 0,.agg [rP q.k0,rP q.k1],I 0]) (hM0 q)) = some ([.pt 0 0,.pt 1 0,.pt 2 0,.agg [rP q.k0,rP q.k1],I 1],hM1 q) ∧
    headX 0 [1,2,3,34,35] (execW progX 39 0 none (match x39l1 with | .loop _ a => a | c => c) (envL [1,2,3,34,35] [.pt 0 0,.pt 1 0,.pt 2 0,.agg [rP q.k0,rP q.k1],I 1]) (hM1 q)) = some ([.pt 0 0,.pt 1 0,.pt 2 0,.agg [rP q.k0,rP q.k1],I 2],hM2 q) := by
  have af0 : ∀ x,afN x 0 = 0 := fun _ => rfl
  have nn0 : ∀ x,nnN x 0 = 0 := fun _ => rfl
  have ts0 : ∀ p,tS p 0 = .nilsl := fun _ => rfl
  have tg0 : ∀ x,tG x 0 = [] := fun _ => rfl
  have tsn : ∀ p j,j ≠ 0 → tS p j = .sl p 0 2 j := fun p j h => if_neg h
  have tgn : ∀ x j,j ≠ 0 → tG x j = [some (.blk true (.cells true (cT (stN x j))))] := fun x j h => if_neg h
  have ch := fun x => cT_ch (mdK x)
  have cl := fun x => cT_len (mdK x)
  have ml : ∀ x,(mdK x).length = fewK x := fun x => stN_len x _
  constructor
  · have rd := fun j hj => round39k (q := q) (p := 3) (u := .agg [rP q.k0,rP q.k1]) (v := .nilsl) (i := 0) (.inl ⟨rfl,rfl⟩) hq.k0 rfl (j := j) hj
    have fo := few_out q.k0
    have ch := ch q.k0
    have cl := cl q.k0
    have ml := ml q.k0
    rw [ml] at ch cl
    have ce : (fewK q.k0 * 2 ≤ fewK q.k0 * 2) = True := eq_true (Nat.le_refl _)
    have mz : fewK q.k0 = 0 → rS (mdK q.k0) = .fs [] := fun h => by rw [List.eq_nil_of_length_eq_zero (ml.trans h)]; rfl
    have mk : stN q.k0 (fewK q.k0) = mdK q.k0 := rfl
    unfold x39l1
    dsimp only
    sym =>
      simp [Za,Zb,Zc,Zd,Ze,Zf,Zg,Zh,Zj,Zl,Zm,Zn,Zo,Zp,Zr,Zu,Zx,Z0,Z2,Z6,Z9,ZE,ZG,ZK,ZL,ZS,ZV,ZW,ZZ,Yb,Yj,Ys,Yx,Yy,Y0,Y1,Y2,Y3,Y5,YO,YQ,YT,YV,YX,YY,Xa,Xe,Xg,Xh,Xk,Xo,Xq,Xs,Xt,Xu,Xw,XM,XO,XU,XV,XX,XY,XZ,Wa,Wg,Wi,Wo,Wp,Wy,Wz,W0,W3,W4,W5,W6,W7,W9,WA,WB,WE,WF,WH,WI,WJ,WL,WN,WO,WP,WQ,WV,WW,WX,Vb,Vc,Vo,Vp,Vq,Vr,Vs,Vt,Vu,Vv,V1,V2,V3,VL,VM,VN,VO,VP,VQ,VR,VU,VV,VW,VX,VY,Ua,Ub,Uc,Ud,Uf,Ui,Uk,Us,Ut,Uw,Ux,Uy,Uz,U0,U2,U3,U4,U5,U6,U7,UA,UB,UE,UF,UG,UH,UQ,UR,US,UT,UY,UZ,Ta,Tb,Tc,Td,Tf,Tg,Tk,Tl,Tm,Tq,Tr,Ts,Tt,Tu,Tv,Tw,Ty,Tz,T3,T4,T5,T7,T9,TA,TB,TC,TG,TH,TI,TK,Sw,Sx,Sy,SD,SE,SG]
      tactic =>
        unfold x39l0
        rw [loop_rule (fewK q.k0) (fun j => [.pt 0 0,.pt 1 0,.pt 2 0,rP q.k0,tS 3 j,I (afN q.k0 j : Nat),I (nnN q.k0 j : Nat),I (j : Nat),.agg [rP q.k0,rP q.k1],I ((0 : Nat) : Int)]) (fun j => hM0 q ++ tG q.k0 j)]
        · by_cases hz : fewK q.k0 = 0
          · rw [mz hz]
            have fo : ((0 : Int) < (q.k0.length : Int)) = False := eq_false (by unfold fewK at hz; omega)
            rw [hz,ts0,tg0,af0,nn0]
            (sym => (simp [Za,Zb,Zc,Zd,Ze,Zf,Zg,Zh,Zj,Zl,Zm,Zn,Zo,Zp,Zr,Zu,Zx,Z0,Z2,Z6,Z9,ZE,ZG,ZK,ZL,ZS,ZV,ZW,ZZ,Yb,Yj,Ys,Yx,Yy,Y0,Y1,Y2,Y3,Y5,YO,YQ,YT,YV,YX,YY,Xa,Xe,Xg,Xh,Xk,Xo,Xq,Xs,Xt,Xu,Xw,XM,XO,XU,XV,XX,XY,XZ,Wa,Wg,Wi,Wo,Wp,Wy,Wz,W0,W3,W4,W5,W6,W7,W9,WA,WB,WE,WF,WH,WI,WJ,WL,WN,WO,WP,WQ,WV,WW,WX,Vb,Vc,Vo,Vp,Vq,Vr,Vs,Vt,Vu,Vv,V1,V2,V3,VL,VM,VN,VO,VP,VQ,VR,VU,VV,VW,VX,VY,Ua,Ub,Uc,Ud,Uf,Ui,Uk,Us,Ut,Uw,Ux,Uy,Uz,U0,U2,U3,U4,U5,U6,U7,UA,UB,UE,UF,UG,UH,UQ,UR,US,UT,UY,UZ,Ta,Tb,Tc,Td,Tf,Tg,Tk,Tl,Tm,Tq,Tr,Ts,Tt,Tu,Tv,Tw,Ty,Tz,T3,T4,T5,T7,T9,TA,TB,TC,TG,TH,TI,TK,Sw,Sx,Sy,SD,SE,SG,fo]; all_goals tactic => exact rfl))
          · rw [tsn _ _ hz,tgn _ _ hz,mk]
            generalize afN q.k0 (fewK q.k0) = af at *
            generalize nnN q.k0 (fewK q.k0) = nf at *
            generalize mdK q.k0 = md at *
            rcases fo with fo | ⟨fo,fo2⟩
            · (sym => (simp [Za,Zb,Zc,Zd,Ze,Zf,Zg,Zh,Zj,Zl,Zm,Zn,Zo,Zp,Zr,Zu,Zx,Z0,Z2,Z6,Z9,ZE,ZG,ZK,ZL,ZS,ZV,ZW,ZZ,Yb,Yj,Ys,Yx,Yy,Y0,Y1,Y2,Y3,Y5,YO,YQ,YT,YV,YX,YY,Xa,Xe,Xg,Xh,Xk,Xo,Xq,Xs,Xt,Xu,Xw,XM,XO,XU,XV,XX,XY,XZ,Wa,Wg,Wi,Wo,Wp,Wy,Wz,W0,W3,W4,W5,W6,W7,W9,WA,WB,WE,WF,WH,WI,WJ,WL,WN,WO,WP,WQ,WV,WW,WX,Vb,Vc,Vo,Vp,Vq,Vr,Vs,Vt,Vu,Vv,V1,V2,V3,VL,VM,VN,VO,VP,VQ,VR,VU,VV,VW,VX,VY,Ua,Ub,Uc,Ud,Uf,Ui,Uk,Us,Ut,Uw,Ux,Uy,Uz,U0,U2,U3,U4,U5,U6,U7,UA,UB,UE,UF,UG,UH,UQ,UR,US,UT,UY,UZ,Ta,Tb,Tc,Td,Tf,Tg,Tk,Tl,Tm,Tq,Tr,Ts,Tt,Tu,Tv,Tw,Ty,Tz,T3,T4,T5,T7,T9,TA,TB,TC,TG,TH,TI,TK,Sw,Sx,Sy,SD,SE,SG,fo,ch,cl,ce]; all_goals tactic => exact rfl))
            · (sym => (simp [Za,Zb,Zc,Zd,Ze,Zf,Zg,Zh,Zj,Zl,Zm,Zn,Zo,Zp,Zr,Zu,Zx,Z0,Z2,Z6,Z9,ZE,ZG,ZK,ZL,ZS,ZV,ZW,ZZ,Yb,Yj,Ys,Yx,Yy,Y0,Y1,Y2,Y3,Y5,YO,YQ,YT,YV,YX,YY,Xa,Xe,Xg,Xh,Xk,Xo,Xq,Xs,Xt,Xu,Xw,XM,XO,XU,XV,XX,XY,XZ,Wa,Wg,Wi,Wo,Wp,Wy,Wz,W0,W3,W4,W5,W6,W7,W9,WA,WB,WE,WF,WH,WI,WJ,WL,WN,WO,WP,WQ,WV,WW,WX,Vb,Vc,Vo,Vp,Vq,Vr,Vs,Vt,Vu,Vv,V1,V2,V3,VL,VM,VN,VO,VP,VQ,VR,VU,VV,VW,VX,VY,Ua,Ub,Uc,Ud,Uf,Ui,Uk,Us,Ut,Uw,Ux,Uy,Uz,U0,U2,U3,U4,U5,U6,U7,UA,UB,UE,UF,UG,UH,UQ,UR,US,UT,UY,UZ,Ta,Tb,Tc,Td,Tf,Tg,Tk,Tl,Tm,Tq,Tr,Ts,Tt,Tu,Tv,Tw,Ty,Tz,T3,T4,T5,T7,T9,TA,TB,TC,TG,TH,TI,TK,Sw,Sx,Sy,SD,SE,SG,fo,fo2,ch,cl,ce]; all_goals tactic => exact rfl))
        · (sym => (simp [Za,Zb,Zc,Zd,Ze,Zf,Zg,Zh,Zj,Zl,Zm,Zn,Zo,Zp,Zr,Zu,Zx,Z0,Z2,Z6,Z9,ZE,ZG,ZK,ZL,ZS,ZV,ZW,ZZ,Yb,Yj,Ys,Yx,Yy,Y0,Y1,Y2,Y3,Y5,YO,YQ,YT,YV,YX,YY,Xa,Xe,Xg,Xh,Xk,Xo,Xq,Xs,Xt,Xu,Xw,XM,XO,XU,XV,XX,XY,XZ,Wa,Wg,Wi,Wo,Wp,Wy,Wz,W0,W3,W4,W5,W6,W7,W9,WA,WB,WE,WF,WH,WI,WJ,WL,WN,WO,WP,WQ,WV,WW,WX,Vb,Vc,Vo,Vp,Vq,Vr,Vs,Vt,Vu,Vv,V1,V2,V3,VL,VM,VN,VO,VP,VQ,VR,VU,VV,VW,VX,VY,Ua,Ub,Uc,Ud,Uf,Ui,Uk,Us,Ut,Uw,Ux,Uy,Uz,U0,U2,U3,U4,U5,U6,U7,UA,UB,UE,UF,UG,UH,UQ,UR,US,UT,UY,UZ,Ta,Tb,Tc,Td,Tf,Tg,Tk,Tl,Tm,Tq,Tr,Ts,Tt,Tu,Tv,Tw,Ty,Tz,T3,T4,T5,T7,T9,TA,TB,TC,TG,TH,TI,TK,Sw,Sx,Sy,SD,SE,SG,af0,nn0,ts0,tg0]; all_goals tactic => exact rfl))
        · exact rd
        · rcases fo with fo | ⟨fo,fo2⟩
          · generalize fewK q.k0 = fk at *
            (sym => (simp [Za,Zb,Zc,Zd,Ze,Zf,Zg,Zh,Zj,Zl,Zm,Zn,Zo,Zp,Zr,Zu,Zx,Z0,Z2,Z6,Z9,ZE,ZG,ZK,ZL,ZS,ZV,ZW,ZZ,Yb,Yj,Ys,Yx,Yy,Y0,Y1,Y2,Y3,Y5,YO,YQ,YT,YV,YX,YY,Xa,Xe,Xg,Xh,Xk,Xo,Xq,Xs,Xt,Xu,Xw,XM,XO,XU,XV,XX,XY,XZ,Wa,Wg,Wi,Wo,Wp,Wy,Wz,W0,W3,W4,W5,W6,W7,W9,WA,WB,WE,WF,WH,WI,WJ,WL,WN,WO,WP,WQ,WV,WW,WX,Vb,Vc,Vo,Vp,Vq,Vr,Vs,Vt,Vu,Vv,V1,V2,V3,VL,VM,VN,VO,VP,VQ,VR,VU,VV,VW,VX,VY,Ua,Ub,Uc,Ud,Uf,Ui,Uk,Us,Ut,Uw,Ux,Uy,Uz,U0,U2,U3,U4,U5,U6,U7,UA,UB,UE,UF,UG,UH,UQ,UR,US,UT,UY,UZ,Ta,Tb,Tc,Td,Tf,Tg,Tk,Tl,Tm,Tq,Tr,Ts,Tt,Tu,Tv,Tw,Ty,Tz,T3,T4,T5,T7,T9,TA,TB,TC,TG,TH,TI,TK,Sw,Sx,Sy,SD,SE,SG,fo]; all_goals tactic => exact rfl))
          · generalize fewK q.k0 = fk at *
            (sym => (simp [Za,Zb,Zc,Zd,Ze,Zf,Zg,Zh,Zj,Zl,Zm,Zn,Zo,Zp,Zr,Zu,Zx,Z0,Z2,Z6,Z9,ZE,ZG,ZK,ZL,ZS,ZV,ZW,ZZ,Yb,Yj,Ys,Yx,Yy,Y0,Y1,Y2,Y3,Y5,YO,YQ,YT,YV,YX,YY,Xa,Xe,Xg,Xh,Xk,Xo,Xq,Xs,Xt,Xu,Xw,XM,XO,XU,XV,XX,XY,XZ,Wa,Wg,Wi,Wo,Wp,Wy,Wz,W0,W3,W4,W5,W6,W7,W9,WA,WB,WE,WF,WH,WI,WJ,WL,WN,WO,WP,WQ,WV,WW,WX,Vb,Vc,Vo,Vp,Vq,Vr,Vs,Vt,Vu,Vv,V1,V2,V3,VL,VM,VN,VO,VP,VQ,VR,VU,VV,VW,VX,VY,Ua,Ub,Uc,Ud,Uf,Ui,Uk,Us,Ut,Uw,Ux,Uy,Uz,U0,U2,U3,U4,U5,U6,U7,UA,UB,UE,UF,UG,UH,UQ,UR,US,UT,UY,UZ,Ta,Tb,Tc,Td,Tf,Tg,Tk,Tl,Tm,Tq,Tr,Ts,Tt,Tu,Tv,Tw,Ty,Tz,T3,T4,T5,T7,T9,TA,TB,TC,TG,TH,TI,TK,Sw,Sx,Sy,SD,SE,SG,fo,fo2]; all_goals tactic => exact rfl))
  · have rd := fun j hj => round39k (q := q) (p := 4) (u := .agg [rP q.k0,rP q.k1]) (v := .nilsl) (i := 1) (.inr ⟨rfl,rfl⟩) hq.k1 rfl (j := j) hj
    have fo := few_out q.k1
    have ch := ch q.k1
    have cl := cl q.k1
    have ml := ml q.k1
    rw [ml] at ch cl
    have ce : (fewK q.k1 * 2 ≤ fewK q.k1 * 2) = True := eq_true (Nat.le_refl _)
    have mz : fewK q.k1 = 0 → rS (mdK q.k1) = .fs [] := fun h => by rw [List.eq_nil_of_length_eq_zero (ml.trans h)]; rfl
    have mk : stN q.k1 (fewK q.k1) = mdK q.k1 := rfl
    unfold x39l1
    dsimp only
    sym =>
      simp [Za,Zb,Zc,Zd,Ze,Zf,Zg,Zh,Zj,Zl,Zm,Zn,Zo,Zp,Zr,Zu,Zx,Z0,Z2,Z6,Z9,ZE,ZG,ZK,ZL,ZS,ZV,ZW,ZZ,Yb,Yj,Ys,Yx,Yy,Y0,Y1,Y2,Y3,Y5,YO,YQ,YT,YV,YX,YY,Xa,Xe,Xg,Xh,Xk,Xo,Xq,Xs,Xt,Xu,Xw,XM,XO,XU,XV,XX,XY,XZ,Wa,Wg,Wi,Wo,Wp,Wy,Wz,W0,W3,W4,W5,W6,W7,W9,WA,WB,WE,WF,WH,WI,WJ,WL,WN,WO,WP,WQ,WV,WW,WX,Vb,Vc,Vo,Vp,Vq,Vr,Vs,Vt,Vu,Vv,V1,V2,V3,VL,VM,VN,VO,VP,VQ,VR,VU,VV,VW,VX,VY,Ua,Ub,Uc,Ud,Uf,Ui,Uk,Us,Ut,Uw,Ux,Uy,Uz,U0,U2,U3,U4,U5,U6,U7,UA,UB,UE,UF,UG,UH,UQ,UR,US,UT,UY,UZ,Ta,Tb,Tc,Td,Tf,Tg,Tk,Tl,Tm,Tq,Tr,Ts,Tt,Tu,Tv,Tw,Ty,Tz,T3,T4,T5,T7,T9,TA,TB,TC,TG,TH,TI,TK,Sw,Sx,Sy,SD,SE,SG]
      tactic =>
        unfold x39l0
        rw [loop_rule (fewK q.k1) (fun j => [.pt 0 0,.pt 1 0,.pt 2 0,rP q.k1,tS 4 j,I (afN q.k1 j : Nat),I (nnN q.k1 j : Nat),I (j : Nat),.agg [rP q.k0,rP q.k1],I ((1 : Nat) : Int)]) (fun j => hM1 q ++ tG q.k1 j)]
        · by_cases hz : fewK q.k1 = 0
          · rw [mz hz]
            have fo : ((0 : Int) < (q.k1.length : Int)) = False := eq_false (by unfold fewK at hz; omega)
            rw [hz,ts0,tg0,af0,nn0]
            (sym => (simp [Za,Zb,Zc,Zd,Ze,Zf,Zg,Zh,Zj,Zl,Zm,Zn,Zo,Zp,Zr,Zu,Zx,Z0,Z2,Z6,Z9,ZE,ZG,ZK,ZL,ZS,ZV,ZW,ZZ,Yb,Yj,Ys,Yx,Yy,Y0,Y1,Y2,Y3,Y5,YO,YQ,YT,YV,YX,YY,Xa,Xe,Xg,Xh,Xk,Xo,Xq,Xs,Xt,Xu,Xw,XM,XO,XU,XV,XX,XY,XZ,Wa,Wg,Wi,Wo,Wp,Wy,Wz,W0,W3,W4,W5,W6,W7,W9,WA,WB,WE,WF,WH,WI,WJ,WL,WN,WO,WP,WQ,WV,WW,WX,Vb,Vc,Vo,Vp,Vq,Vr,Vs,Vt,Vu,Vv,V1,V2,V3,VL,VM,VN,VO,VP,VQ,VR,VU,VV,VW,VX,VY,Ua,Ub,Uc,Ud,Uf,Ui,Uk,Us,Ut,Uw,Ux,Uy,Uz,U0,U2,U3,U4,U5,U6,U7,UA,UB,UE,UF,UG,UH,UQ,UR,US,UT,UY,UZ,Ta,Tb,Tc,Td,Tf,Tg,Tk,Tl,Tm,Tq,Tr,Ts,Tt,Tu,Tv,Tw,Ty,Tz,T3,T4,T5,T7,T9,TA,TB,TC,TG,TH,TI,TK,Sw,Sx,Sy,SD,SE,SG,fo]; all_goals tactic => exact rfl))
          · rw [tsn _ _ hz,tgn _ _ hz,mk]
            generalize afN q.k1 (fewK q.k1) = af at *
            generalize nnN q.k1 (fewK q.k1) = nf at *
            generalize mdK q.k1 = md at *
            rcases fo with fo | ⟨fo,fo2⟩
            · (sym => (simp [Za,Zb,Zc,Zd,Ze,Zf,Zg,Zh,Zj,Zl,Zm,Zn,Zo,Zp,Zr,Zu,Zx,Z0,Z2,Z6,Z9,ZE,ZG,ZK,ZL,ZS,ZV,ZW,ZZ,Yb,Yj,Ys,Yx,Yy,Y0,Y1,Y2,Y3,Y5,YO,YQ,YT,YV,YX,YY,Xa,Xe,Xg,Xh,Xk,Xo,Xq,Xs,Xt,Xu,Xw,XM,XO,XU,XV,XX,XY,XZ,Wa,Wg,Wi,Wo,Wp,Wy,Wz,W0,W3,W4,W5,W6,W7,W9,WA,WB,WE,WF,WH,WI,WJ,WL,WN,WO,WP,WQ,WV,WW,WX,Vb,Vc,Vo,Vp,Vq,Vr,Vs,Vt,Vu,Vv,V1,V2,V3,VL,VM,VN,VO,VP,VQ,VR,VU,VV,VW,VX,VY,Ua,Ub,Uc,Ud,Uf,Ui,Uk,Us,Ut,Uw,Ux,Uy,Uz,U0,U2,U3,U4,U5,U6,U7,UA,UB,UE,UF,UG,UH,UQ,UR,US,UT,UY,UZ,Ta,Tb,Tc,Td,Tf,Tg,Tk,Tl,Tm,Tq,Tr,Ts,Tt,Tu,Tv,Tw,Ty,Tz,T3,T4,T5,T7,T9,TA,TB,TC,TG,TH,TI,TK,Sw,Sx,Sy,SD,SE,SG,fo,ch,cl,ce]; all_goals tactic => exact rfl))
            · (sym => (simp [Za,Zb,Zc,Zd,Ze,Zf,Zg,Zh,Zj,Zl,Zm,Zn,Zo,Zp,Zr,Zu,Zx,Z0,Z2,Z6,Z9,ZE,ZG,ZK,ZL,ZS,ZV,ZW,ZZ,Yb,Yj,Ys,Yx,Yy,Y0,Y1,Y2,Y3,Y5,YO,YQ,YT,YV,YX,YY,Xa,Xe,Xg,Xh,Xk,Xo,Xq,Xs,Xt,Xu,Xw,XM,XO,XU,XV,XX,XY,XZ,Wa,Wg,Wi,Wo,Wp,Wy,Wz,W0,W3,W4,W5,W6,W7,W9,WA,WB,WE,WF,WH,WI,WJ,WL,WN,WO,WP,WQ,WV,WW,WX,Vb,Vc,Vo,Vp,Vq,Vr,Vs,Vt,Vu,Vv,V1,V2,V3,VL,VM,VN,VO,VP,VQ,VR,VU,VV,VW,VX,VY,Ua,Ub,Uc,Ud,Uf,Ui,Uk,Us,Ut,Uw,Ux,Uy,Uz,U0,U2,U3,U4,U5,U6,U7,UA,UB,UE,UF,UG,UH,UQ,UR,US,UT,UY,UZ,Ta,Tb,Tc,Td,Tf,Tg,Tk,Tl,Tm,Tq,Tr,Ts,Tt,Tu,Tv,Tw,Ty,Tz,T3,T4,T5,T7,T9,TA,TB,TC,TG,TH,TI,TK,Sw,Sx,Sy,SD,SE,SG,fo,fo2,ch,cl,ce]; all_goals tactic => exact rfl))
        · (sym => (simp [Za,Zb,Zc,Zd,Ze,Zf,Zg,Zh,Zj,Zl,Zm,Zn,Zo,Zp,Zr,Zu,Zx,Z0,Z2,Z6,Z9,ZE,ZG,ZK,ZL,ZS,ZV,ZW,ZZ,Yb,Yj,Ys,Yx,Yy,Y0,Y1,Y2,Y3,Y5,YO,YQ,YT,YV,YX,YY,Xa,Xe,Xg,Xh,Xk,Xo,Xq,Xs,Xt,Xu,Xw,XM,XO,XU,XV,XX,XY,XZ,Wa,Wg,Wi,Wo,Wp,Wy,Wz,W0,W3,W4,W5,W6,W7,W9,WA,WB,WE,WF,WH,WI,WJ,WL,WN,WO,WP,WQ,WV,WW,WX,Vb,Vc,Vo,Vp,Vq,Vr,Vs,Vt,Vu,Vv,V1,V2,V3,VL,VM,VN,VO,VP,VQ,VR,VU,VV,VW,VX,VY,Ua,Ub,Uc,Ud,Uf,Ui,Uk,Us,Ut,Uw,Ux,Uy,Uz,U0,U2,U3,U4,U5,U6,U7,UA,UB,UE,UF,UG,UH,UQ,UR,US,UT,UY,UZ,Ta,Tb,Tc,Td,Tf,Tg,Tk,Tl,Tm,Tq,Tr,Ts,Tt,Tu,Tv,Tw,Ty,Tz,T3,T4,T5,T7,T9,TA,TB,TC,TG,TH,TI,TK,Sw,Sx,Sy,SD,SE,SG,af0,nn0,ts0,tg0]; all_goals tactic => exact rfl))
        · exact rd
        · rcases fo with fo | ⟨fo,fo2⟩
          · generalize fewK q.k1 = fk at *
            (sym => (simp [Za,Zb,Zc,Zd,Ze,Zf,Zg,Zh,Zj,Zl,Zm,Zn,Zo,Zp,Zr,Zu,Zx,Z0,Z2,Z6,Z9,ZE,ZG,ZK,ZL,ZS,ZV,ZW,ZZ,Yb,Yj,Ys,Yx,Yy,Y0,Y1,Y2,Y3,Y5,YO,YQ,YT,YV,YX,YY,Xa,Xe,Xg,Xh,Xk,Xo,Xq,Xs,Xt,Xu,Xw,XM,XO,XU,XV,XX,XY,XZ,Wa,Wg,Wi,Wo,Wp,Wy,Wz,W0,W3,W4,W5,W6,W7,W9,WA,WB,WE,WF,WH,WI,WJ,WL,WN,WO,WP,WQ,WV,WW,WX,Vb,Vc,Vo,Vp,Vq,Vr,Vs,Vt,Vu,Vv,V1,V2,V3,VL,VM,VN,VO,VP,VQ,VR,VU,VV,VW,VX,VY,Ua,Ub,Uc,Ud,Uf,Ui,Uk,Us,Ut,Uw,Ux,Uy,Uz,U0,U2,U3,U4,U5,U6,U7,UA,UB,UE,UF,UG,UH,UQ,UR,US,UT,UY,UZ,Ta,Tb,Tc,Td,Tf,Tg,Tk,Tl,Tm,Tq,Tr,Ts,Tt,Tu,Tv,Tw,Ty,Tz,T3,T4,T5,T7,T9,TA,TB,TC,TG,TH,TI,TK,Sw,Sx,Sy,SD,SE,SG,fo]; all_goals tactic => exact rfl))
          · generalize fewK q.k1 = fk at *
            (sym => (simp [Za,Zb,Zc,Zd,Ze,Zf,Zg,Zh,Zj,Zl,Zm,Zn,Zo,Zp,Zr,Zu,Zx,Z0,Z2,Z6,Z9,ZE,ZG,ZK,ZL,ZS,ZV,ZW,ZZ,Yb,Yj,Ys,Yx,Yy,Y0,Y1,Y2,Y3,Y5,YO,YQ,YT,YV,YX,YY,Xa,Xe,Xg,Xh,Xk,Xo,Xq,Xs,Xt,Xu,Xw,XM,XO,XU,XV,XX,XY,XZ,Wa,Wg,Wi,Wo,Wp,Wy,Wz,W0,W3,W4,W5,W6,W7,W9,WA,WB,WE,WF,WH,WI,WJ,WL,WN,WO,WP,WQ,WV,WW,WX,Vb,Vc,Vo,Vp,Vq,Vr,Vs,Vt,Vu,Vv,V1,V2,V3,VL,VM,VN,VO,VP,VQ,VR,VU,VV,VW,VX,VY,Ua,Ub,Uc,Ud,Uf,Ui,Uk,Us,Ut,Uw,Ux,Uy,Uz,U0,U2,U3,U4,U5,U6,U7,UA,UB,UE,UF,UG,UH,UQ,UR,US,UT,UY,UZ,Ta,Tb,Tc,Td,Tf,Tg,Tk,Tl,Tm,Tq,Tr,Ts,Tt,Tu,Tv,Tw,Ty,Tz,T3,T4,T5,T7,T9,TA,TB,TC,TG,TH,TI,TK,Sw,Sx,Sy,SD,SE,SG,fo,fo2]; all_goals tactic => exact rfl))
end
end Go.Proofs.YtpbeclkpohehgaaDoor
namespace Go.Proofs.YtpbeclkpohehgaaDoor
open Go Go.DL
set_option maxRecDepth 100000
set_option maxHeartbeats 4000000
theorem w44 (a b : Int) : runW progX 44 [I a,I b] [] = some (.agg [I a,I b],[]) := by
  rw [r44 (by simp)]; unfold x44; dsimp only
  (sym => (simp [irem2,iquo2,remF,Za,Zb,Zc,Zd,Ze,Zf,Zh,Zl,Zm,Zu,Zv,Zz,ZK,ZL,YN,YQ,YT,Xe,Xo,Xq,X0,XJ,Wc,We,Wm,Wn,Wy,Wz,W0,W3,W4,W5,W6,W7,W8,WH,WL,WN,WO,WP,Vr,V5,V6,V8,V9,VA,VB,VC,VF,VG,VH,VJ,VK,VT,VU,VV,VW,VX,VY,Ua,Ub,Uc,Ui,Us,U2,U3,U4,U5,U6,U7,U8,U9,UC,UD,UE,UF,UG,UH,Tf,Tg,Tj,Tl,Tm,Tw,Tx,T4,TB,Sw]; all_goals tactic => exact rfl))
abbrev P5.ld (x : P5) : Ld := ⟨((x.e % 2 : Nat) : Int),(x.a : Int),((x.a + x.b % 50 : Nat) : Int),((1 + x.c % 60 : Nat) : Int),((1 + x.c % 60 + x.d % 30 : Nat) : Int)⟩
section
variable {q : Qu}
abbrev hN0 (q : Qu) : XH := [some (.blk true (.cells true q.c)),bZ,some (.blk false (.cells true [.sl 3 0 1 2,.nilsl,.nilsl,I (q.s0 : Nat),I ((q.s0 + q.s1 : Nat) : Int)])),some (.blk true (.cells true [rS (mdK q.k0),rS (mdK q.k1)])),some (.blk true (.cells true [.nilsl,.nilsl,.nilsl]))]
abbrev hN (q : Qu) (L : List Ld) (n : Nat) (cs : List AV) (bs : XH) : XH := [some (.blk true (.cells true q.c)),bZ,some (.blk false (.cells true [.sl 3 0 1 2,.sl 4 0 5 n,.nilsl,I (q.s0 : Nat),I ((q.s0 + q.s1 : Nat) : Int)])),some (.blk true (.cells true [rS (mdK q.k0),rS (mdK q.k1)])),some (.blk true (.cells true (cL L))),some (.blk false (.cells true cs))] ++ bs
structure LdF (x : P5) : Prop where
  wa : IntKind.i64.wrap (x.a : Int) = (x.a : Int)
  wb : IntKind.i64.wrap (x.b : Int) = (x.b : Int)
  wc : IntKind.i64.wrap (x.c : Int) = (x.c : Int)
  wd : IntKind.i64.wrap (x.d : Int) = (x.d : Int)
  we : IntKind.i64.wrap (x.e : Int) = (x.e : Int)
  m60 : tmZ (x.c : Int) 60 = ((x.c % 60 : Nat) : Int)
  m2 : tmZ (x.e : Int) 2 = ((x.e % 2 : Nat) : Int)
  m50 : tmZ (x.b : Int) 50 = ((x.b % 50 : Nat) : Int)
  m30 : tmZ (x.d : Int) 30 = ((x.d % 30 : Nat) : Int)
  d2 : tdZ (x.e : Int) 2 = ((x.e / 2 : Nat) : Int)
  wd2 : IntKind.i64.wrap (((x.e / 2 : Nat) : Int)) = ((x.e / 2 : Nat) : Int)
  m3 : tmZ ((x.e / 2 : Nat) : Int) 3 = ((x.e / 2 % 3 : Nat) : Int)
  s1 : IntKind.i64.wrap (1 + ((x.c % 60 : Nat) : Int)) = ((1 + x.c % 60 : Nat) : Int)
  s2 : IntKind.i64.wrap ((x.a : Int) + ((x.b % 50 : Nat) : Int)) = ((x.a + x.b % 50 : Nat) : Int)
  s3 : IntKind.i64.wrap (((1 + x.c % 60 : Nat) : Int) + ((x.d % 30 : Nat) : Int)) = ((1 + x.c % 60 + x.d % 30 : Nat) : Int)
theorem ldF {x : P5} (h : x.a < 256 ∧ x.b < 256 ∧ x.c < 256 ∧ x.d < 256 ∧ x.e < 256) : LdF x := by
  obtain ⟨h1,h2,h3,h4,h5⟩ := h
  refine ⟨wr8 h1,wr8 h2,wr8 h3,wr8 h4,wr8 h5,tmod_n _ 60,tmod_n _ 2,tmod_n _ 50,tmod_n _ 30,tdiv_n _ 2,?_,tmod_n _ 3,?_,?_,?_⟩
  all_goals rw [wrap_ok (by omega) (by omega)]
  all_goals omega

theorem r39_000_0 (hq : q.Ok) {x : P5} (hx : q.ls[0]? = some x) (ht : x.e / 2 % 3 = 0) :
    headX 0 [1,2,3,10,11] (execW progX 39 0 none (match x39l2 with | .loop _ a => a | c => c) (envL [1,2,3,10,11] [.pt 0 0,.pt 1 0,.pt 2 0,.pt 4 0,I 0]) (hN0 q)) =
      some ([.pt 0 0,.pt 1 0,.pt 2 0,.pt 5 0,I 1],hN q [x.ld] 1 [.sl 6 0 1 (1),.nilsl,.nilsl] [some (.blk true (.cells true ([I 0])))]) := by
  obtain ⟨wa,wb,wc,wd,we,m60,m2,m50,m30,d2,wd2,m3,s1,s2,s3⟩ := ldF (hq.ls x (List.mem_of_getElem? hx))
  have a1 : ((0 : Int) < (q.ls.length : Int)) = True := eq_true (by have := lt_of hx; omega)
  have c1 : cL [x.ld] = [I (x.e % 2 : Nat),I (x.a : Nat),I (x.a + x.b % 50 : Nat),I (1 + x.c % 60 : Nat),I (1 + x.c % 60 + x.d % 30 : Nat)] := rfl
  rw [ht] at m3
  unfold hN
  rw [c1]
  generalize x.e % 2 = ee at *
  generalize 1 + x.c % 60 + x.d % 30 = cd at *
  generalize 1 + x.c % 60 = cc at *
  generalize x.a + x.b % 50 = ab at *
  generalize x.e / 2 = e2 at *
  generalize x.d % 30 = dd at *
  generalize x.c % 60 = c6 at *
  generalize x.b % 50 = bb at *
  unfold x39l2
  dsimp only
  rcases ptf ((128 : Int) < (x.e : Int)) with h8 | h8
  · (sym => (simp [irem2,iquo2,remF,Za,Zb,Zc,Zd,Ze,Zf,Zh,Zi,Zl,Zm,Zn,Zo,Zp,Zr,Zu,Zv,Zx,Zz,Z0,Z2,Z5,Z6,Z7,Z8,ZE,ZG,ZH,ZJ,ZK,ZL,ZM,ZN,ZQ,ZR,ZS,ZT,ZU,ZV,ZW,ZY,ZZ,Yb,Ye,Yg,Yh,Yj,Ys,Yu,Yx,Y0,Y1,Y2,Y4,Y6,Y7,Y8,Y9,YB,YN,YQ,YX,YY,Xa,Xe,Xf,Xh,Xo,Xq,Xt,Xu,Xw,Wm,Wn,Wp,Ww,Wx,Wy,Wz,W0,W3,W4,W5,W6,W7,W9,WA,WB,WE,WF,WH,WI,WJ,WK,WL,WM,WN,WO,WP,WQ,WR,WS,WV,WW,WX,Vb,Vc,Ve,Vf,Vg,Vi,Vj,Vk,Vm,VL,VM,VN,VO,VP,VQ,VU,VV,VW,VX,VY,Ua,Ub,Uc,Ud,Ue,Uf,Ui,Uk,Um,Un,Uo,Us,Uw,Ux,Uy,Uz,U0,U1,U2,U3,U4,U5,U6,U7,UE,UF,UG,UH,UQ,UR,US,UT,UY,UZ,Ta,Tb,Tf,Tg,Th,Ti,Tj,Tk,Tl,Tm,Tq,Ts,Tt,Tu,Tv,Tw,Ty,T3,T4,T7,TA,TB,TC,TH,TK,Sr,Su,Sv,a1,hx,wa,wb,wc,wd,we,m60,m2,m50,m30,d2,wd2,m3,s1,s2,s3,w44,h8]; all_goals tactic => exact rfl))
  · (sym => (simp [irem2,iquo2,remF,Za,Zb,Zc,Zd,Ze,Zf,Zh,Zi,Zl,Zm,Zn,Zo,Zp,Zr,Zu,Zv,Zx,Zz,Z0,Z2,Z5,Z6,Z7,Z8,ZE,ZG,ZH,ZJ,ZK,ZL,ZM,ZN,ZQ,ZR,ZS,ZT,ZU,ZV,ZW,ZY,ZZ,Yb,Ye,Yg,Yh,Yj,Ys,Yu,Yx,Y0,Y1,Y2,Y4,Y6,Y7,Y8,Y9,YB,YN,YQ,YX,YY,Xa,Xe,Xf,Xh,Xo,Xq,Xt,Xu,Xw,Wm,Wn,Wp,Ww,Wx,Wy,Wz,W0,W3,W4,W5,W6,W7,W9,WA,WB,WE,WF,WH,WI,WJ,WK,WL,WM,WN,WO,WP,WQ,WR,WS,WV,WW,WX,Vb,Vc,Ve,Vf,Vg,Vi,Vj,Vk,Vm,VL,VM,VN,VO,VP,VQ,VU,VV,VW,VX,VY,Ua,Ub,Uc,Ud,Ue,Uf,Ui,Uk,Um,Un,Uo,Us,Uw,Ux,Uy,Uz,U0,U1,U2,U3,U4,U5,U6,U7,UE,UF,UG,UH,UQ,UR,US,UT,UY,UZ,Ta,Tb,Tf,Tg,Th,Ti,Tj,Tk,Tl,Tm,Tq,Ts,Tt,Tu,Tv,Tw,Ty,T3,T4,T7,TA,TB,TC,TH,TK,Sr,Su,Sv,a1,hx,wa,wb,wc,wd,we,m60,m2,m50,m30,d2,wd2,m3,s1,s2,s3,w44,h8]; all_goals tactic => exact rfl))
theorem r39_000_1 (hq : q.Ok) {x : P5} (hx : q.ls[0]? = some x) (ht : x.e / 2 % 3 = 1) :
    headX 0 [1,2,3,10,11] (execW progX 39 0 none (match x39l2 with | .loop _ a => a | c => c) (envL [1,2,3,10,11] [.pt 0 0,.pt 1 0,.pt 2 0,.pt 4 0,I 0]) (hN0 q)) =
      some ([.pt 0 0,.pt 1 0,.pt 2 0,.pt 5 0,I 1],hN q [x.ld] 1 [.nilsl,.sl 6 0 1 (1),.nilsl] [some (.blk true (.cells true ([I 0])))]) := by
  obtain ⟨wa,wb,wc,wd,we,m60,m2,m50,m30,d2,wd2,m3,s1,s2,s3⟩ := ldF (hq.ls x (List.mem_of_getElem? hx))
  have a1 : ((0 : Int) < (q.ls.length : Int)) = True := eq_true (by have := lt_of hx; omega)
  have c1 : cL [x.ld] = [I (x.e % 2 : Nat),I (x.a : Nat),I (x.a + x.b % 50 : Nat),I (1 + x.c % 60 : Nat),I (1 + x.c % 60 + x.d % 30 : Nat)] := rfl
  rw [ht] at m3
  unfold hN
  rw [c1]
  generalize x.e % 2 = ee at *
  generalize 1 + x.c % 60 + x.d % 30 = cd at *
  generalize 1 + x.c % 60 = cc at *
  generalize x.a + x.b % 50 = ab at *
  generalize x.e / 2 = e2 at *
  generalize x.d % 30 = dd at *
  generalize x.c % 60 = c6 at *
  generalize x.b % 50 = bb at *
  unfold x39l2
  dsimp only
  rcases ptf ((128 : Int) < (x.e : Int)) with h8 | h8
  · (sym => (simp [irem2,iquo2,remF,Za,Zb,Zc,Zd,Ze,Zf,Zh,Zi,Zl,Zm,Zn,Zo,Zp,Zr,Zu,Zv,Zx,Zz,Z0,Z2,Z5,Z6,Z7,Z8,ZE,ZG,ZH,ZJ,ZK,ZL,ZM,ZN,ZQ,ZR,ZS,ZT,ZU,ZV,ZW,ZY,ZZ,Yb,Ye,Yg,Yh,Yj,Ys,Yu,Yx,Y0,Y2,Y3,Y4,Y6,Y7,Y8,Y9,YB,YN,YQ,YX,YY,Xa,Xe,Xf,Xh,Xo,Xq,Xt,Xu,Xw,Wm,Wn,Wp,Ww,Wx,Wy,Wz,W0,W3,W4,W5,W6,W7,W9,WA,WB,WE,WF,WH,WI,WJ,WK,WL,WM,WN,WO,WP,WQ,WR,WS,WV,WW,WX,Vb,Vc,Ve,Vf,Vg,Vi,Vj,Vk,Vm,VL,VM,VN,VO,VP,VQ,VU,VV,VW,VX,VY,Ua,Ub,Uc,Ud,Ue,Uf,Ui,Uk,Um,Un,Uo,Us,Uw,Ux,Uy,Uz,U0,U1,U2,U3,U4,U5,U6,U7,UE,UF,UG,UH,UQ,UR,US,UT,UY,UZ,Ta,Tb,Tf,Tg,Th,Ti,Tj,Tk,Tl,Tm,Tq,Ts,Tt,Tu,Tv,Tw,Ty,T3,T4,T7,TA,TB,TC,TH,TK,Sr,Su,Sv,a1,hx,wa,wb,wc,wd,we,m60,m2,m50,m30,d2,wd2,m3,s1,s2,s3,w44,h8]; all_goals tactic => exact rfl))
  · (sym => (simp [irem2,iquo2,remF,Za,Zb,Zc,Zd,Ze,Zf,Zh,Zi,Zl,Zm,Zn,Zo,Zp,Zr,Zu,Zv,Zx,Zz,Z0,Z2,Z5,Z6,Z7,Z8,ZE,ZG,ZH,ZJ,ZK,ZL,ZM,ZN,ZQ,ZR,ZS,ZT,ZU,ZV,ZW,ZY,ZZ,Yb,Ye,Yg,Yh,Yj,Ys,Yu,Yx,Y0,Y2,Y3,Y4,Y6,Y7,Y8,Y9,YB,YN,YQ,YX,YY,Xa,Xe,Xf,Xh,Xo,Xq,Xt,Xu,Xw,Wm,Wn,Wp,Ww,Wx,Wy,Wz,W0,W3,W4,W5,W6,W7,W9,WA,WB,WE,WF,WH,WI,WJ,WK,WL,WM,WN,WO,WP,WQ,WR,WS,WV,WW,WX,Vb,Vc,Ve,Vf,Vg,Vi,Vj,Vk,Vm,VL,VM,VN,VO,VP,VQ,VU,VV,VW,VX,VY,Ua,Ub,Uc,Ud,Ue,Uf,Ui,Uk,Um,Un,Uo,Us,Uw,Ux,Uy,Uz,U0,U1,U2,U3,U4,U5,U6,U7,UE,UF,UG,UH,UQ,UR,US,UT,UY,UZ,Ta,Tb,Tf,Tg,Th,Ti,Tj,Tk,Tl,Tm,Tq,Ts,Tt,Tu,Tv,Tw,Ty,T3,T4,T7,TA,TB,TC,TH,TK,Sr,Su,Sv,a1,hx,wa,wb,wc,wd,we,m60,m2,m50,m30,d2,wd2,m3,s1,s2,s3,w44,h8]; all_goals tactic => exact rfl))
theorem r39_000_2 (hq : q.Ok) {x : P5} (hx : q.ls[0]? = some x) (ht : x.e / 2 % 3 = 2) :
    headX 0 [1,2,3,10,11] (execW progX 39 0 none (match x39l2 with | .loop _ a => a | c => c) (envL [1,2,3,10,11] [.pt 0 0,.pt 1 0,.pt 2 0,.pt 4 0,I 0]) (hN0 q)) =
      some ([.pt 0 0,.pt 1 0,.pt 2 0,.pt 5 0,I 1],hN q [x.ld] 1 [.nilsl,.nilsl,.sl 6 0 1 (1)] [some (.blk true (.cells true ([I 0])))]) := by
  obtain ⟨wa,wb,wc,wd,we,m60,m2,m50,m30,d2,wd2,m3,s1,s2,s3⟩ := ldF (hq.ls x (List.mem_of_getElem? hx))
  have a1 : ((0 : Int) < (q.ls.length : Int)) = True := eq_true (by have := lt_of hx; omega)
  have c1 : cL [x.ld] = [I (x.e % 2 : Nat),I (x.a : Nat),I (x.a + x.b % 50 : Nat),I (1 + x.c % 60 : Nat),I (1 + x.c % 60 + x.d % 30 : Nat)] := rfl
  rw [ht] at m3
  unfold hN
  rw [c1]
  generalize x.e % 2 = ee at *
  generalize 1 + x.c % 60 + x.d % 30 = cd at *
  generalize 1 + x.c % 60 = cc at *
  generalize x.a + x.b % 50 = ab at *
  generalize x.e / 2 = e2 at *
  generalize x.d % 30 = dd at *
  generalize x.c % 60 = c6 at *
  generalize x.b % 50 = bb at *
  unfold x39l2
  dsimp only
  rcases ptf ((128 : Int) < (x.e : Int)) with h8 | h8
  · (sym => (simp [irem2,iquo2,remF,Za,Zb,Zc,Zd,Ze,Zf,Zh,Zi,Zl,Zm,Zn,Zo,Zp,Zr,Zu,Zv,Zx,Zz,Z0,Z2,Z5,Z6,Z7,Z8,ZE,ZG,ZH,ZJ,ZK,ZL,ZM,ZN,ZQ,ZR,ZS,ZT,ZU,ZV,ZW,ZY,ZZ,Yb,Ye,Yg,Yh,Yj,Ys,Yu,Yx,Y0,Y2,Y4,Y5,Y6,Y7,Y8,Y9,YB,YN,YQ,YX,YY,Xa,Xe,Xf,Xh,Xo,Xq,Xt,Xu,Xw,Wm,Wn,Wp,Ww,Wx,Wy,Wz,W0,W3,W4,W5,W6,W7,W9,WA,WB,WE,WF,WH,WI,WJ,WK,WL,WM,WN,WO,WP,WQ,WR,WS,WV,WW,WX,Vb,Vc,Ve,Vf,Vg,Vi,Vj,Vk,Vm,VL,VM,VN,VO,VP,VQ,VU,VV,VW,VX,VY,Ua,Ub,Uc,Ud,Ue,Uf,Ui,Uk,Um,Un,Uo,Us,Uw,Ux,Uy,Uz,U0,U1,U2,U3,U4,U5,U6,U7,UE,UF,UG,UH,UQ,UR,US,UT,UY,UZ,Ta,Tb,Tf,Tg,Th,Ti,Tj,Tk,Tl,Tm,Tq,Ts,Tt,Tu,Tv,Tw,Ty,T3,T4,T7,TA,TB,TC,TH,TK,Sr,Su,Sv,a1,hx,wa,wb,wc,wd,we,m60,m2,m50,m30,d2,wd2,m3,s1,s2,s3,w44,h8]; all_goals tactic => exact rfl))
  · (sym => (simp [irem2,iquo2,remF,Za,Zb,Zc,Zd,Ze,Zf,Zh,Zi,Zl,Zm,Zn,Zo,Zp,Zr,Zu,Zv,Zx,Zz,Z0,Z2,Z5,Z6,Z7,Z8,ZE,ZG,ZH,ZJ,ZK,ZL,ZM,ZN,ZQ,ZR,ZS,ZT,ZU,ZV,ZW,ZY,ZZ,Yb,Ye,Yg,Yh,Yj,Ys,Yu,Yx,Y0,Y2,Y4,Y5,Y6,Y7,Y8,Y9,YB,YN,YQ,YX,YY,Xa,Xe,Xf,Xh,Xo,Xq,Xt,Xu,Xw,Wm,Wn,Wp,Ww,Wx,Wy,Wz,W0,W3,W4,W5,W6,W7,W9,WA,WB,WE,WF,WH,WI,WJ,WK,WL,WM,WN,WO,WP,WQ,WR,WS,WV,WW,WX,Vb,Vc,Ve,Vf,Vg,Vi,Vj,Vk,Vm,VL,VM,VN,VO,VP,VQ,VU,VV,VW,VX,VY,Ua,Ub,Uc,Ud,Ue,Uf,Ui,Uk,Um,Un,Uo,Us,Uw,Ux,Uy,Uz,U0,U1,U2,U3,U4,U5,U6,U7,UE,UF,UG,UH,UQ,UR,US,UT,UY,UZ,Ta,Tb,Tf,Tg,Th,Ti,Tj,Tk,Tl,Tm,Tq,Ts,Tt,Tu,Tv,Tw,Ty,T3,T4,T7,TA,TB,TC,TH,TK,Sr,Su,Sv,a1,hx,wa,wb,wc,wd,we,m60,m2,m50,m30,d2,wd2,m3,s1,s2,s3,w44,h8]; all_goals tactic => exact rfl))
theorem r39_001_0 (hq : q.Ok) {x : P5} {i : Nat} (hi : i < 5) (hx : q.ls[i]? = some x) (ht : x.e / 2 % 3 = 0) {L : List Ld} (hL : L.length = i) (a2 : Int) (r2 : List Int) (hr2 : r2.length ≤ 5) :
    headX 0 [1,2,3,10,11] (execW progX 39 0 none (match x39l2 with | .loop _ a => a | c => c) (envL [1,2,3,10,11] [.pt 0 0,.pt 1 0,.pt 2 0,.pt 5 0,I (i : Nat)]) (hN q L i [.nilsl,.nilsl,.sl 6 0 1 (r2.length + 1)] [some (.blk true (.cells true (I a2 :: r2.map I)))])) =
      some ([.pt 0 0,.pt 1 0,.pt 2 0,.pt 5 0,I (i + 1 : Nat)],hN q (L ++ [x.ld]) (i + 1) [.sl 6 0 1 (1),.nilsl,.sl 7 0 1 (r2.length + 1)] [some (.blk true (.cells true ([I (i : Nat)]))),some (.blk true (.cells true (I a2 :: r2.map I)))]) := by
  obtain ⟨wa,wb,wc,wd,we,m60,m2,m50,m30,d2,wd2,m3,s1,s2,s3⟩ := ldF (hq.ls x (List.mem_of_getElem? hx))
  have a1 := lt_ix (lt_of hx)
  have a2 := up_ix hi (by omega)
  have a5 : ((i : Int) < 5) = True := eq_true (by omega)
  have cl := cL_len L
  rw [hL] at cl
  have ca := cL_app L x.ld
  have l1 : ((i + 1) * 40 ≤ 1099511627776) = True := eq_true (by omega)
  have l2 : (i + 1 ≤ 1099511627776) = True := eq_true (by omega)
  rw [ht] at m3
  unfold hN
  rw [ca]
  unfold P5.ld Ld.row
  dsimp only
  clear ca
  generalize x.e % 2 = ee at *
  generalize 1 + x.c % 60 + x.d % 30 = cd at *
  generalize 1 + x.c % 60 = cc at *
  generalize x.a + x.b % 50 = ab at *
  generalize x.e / 2 = e2 at *
  generalize x.d % 30 = dd at *
  generalize x.c % 60 = c6 at *
  generalize x.b % 50 = bb at *
  generalize cL L = cL0 at *
  unfold x39l2
  dsimp only
  rcases ptf ((128 : Int) < (x.e : Int)) with h8 | h8
  · (sym => (simp [irem2,iquo2,remF,Za,Zb,Zc,Zd,Ze,Zf,Zh,Zi,Zl,Zm,Zn,Zo,Zp,Zr,Zu,Zv,Zx,Zz,Z0,Z2,Z5,Z6,Z7,Z8,ZE,ZG,ZH,ZJ,ZK,ZL,ZM,ZN,ZQ,ZR,ZS,ZT,ZU,ZV,ZW,ZY,ZZ,Yb,Ye,Yg,Yh,Yj,Ys,Yu,Yv,Yw,Y0,Y1,Y2,Y4,Y6,Y7,Y8,Y9,YB,YN,YQ,YX,YY,Xa,Xe,Xf,Xh,Xo,Xq,Xt,Xu,Xw,Wm,Wn,Wp,Wv,Ww,Wy,Wz,W0,W3,W4,W5,W6,W7,W9,WA,WB,WE,WF,WH,WI,WJ,WK,WL,WM,WN,WO,WP,WQ,WR,WS,WV,WW,WX,Vb,Vc,Ve,Vf,Vg,Vi,Vj,Vk,Vm,VL,VM,VN,VO,VP,VQ,VU,VV,VW,VX,VY,Ua,Ub,Uc,Ud,Ue,Uf,Ui,Uk,Um,Un,Uo,Us,Uw,Ux,Uy,Uz,U0,U1,U2,U3,U4,U5,U6,U7,UE,UF,UG,UH,UQ,UR,US,UT,UY,UZ,Ta,Tb,Tc,Td,Tf,Tg,Th,Ti,Tj,Tk,Tl,Tm,Tq,Tr,Ts,Tt,Tu,Tv,Tw,Ty,T3,T4,T7,TA,TB,TC,TH,TK,Sr,Sv,a1,a2,a5,cl,l1,l2,hx,wa,wb,wc,wd,we,m60,m2,m50,m30,d2,wd2,m3,s1,s2,s3,w44,h8]; all_goals tactic => exact rfl))
  · (sym => (simp [irem2,iquo2,remF,Za,Zb,Zc,Zd,Ze,Zf,Zh,Zi,Zl,Zm,Zn,Zo,Zp,Zr,Zu,Zv,Zx,Zz,Z0,Z2,Z5,Z6,Z7,Z8,ZE,ZG,ZH,ZJ,ZK,ZL,ZM,ZN,ZQ,ZR,ZS,ZT,ZU,ZV,ZW,ZY,ZZ,Yb,Ye,Yg,Yh,Yj,Ys,Yu,Yv,Yw,Y0,Y1,Y2,Y4,Y6,Y7,Y8,Y9,YB,YN,YQ,YX,YY,Xa,Xe,Xf,Xh,Xo,Xq,Xt,Xu,Xw,Wm,Wn,Wp,Wv,Ww,Wy,Wz,W0,W3,W4,W5,W6,W7,W9,WA,WB,WE,WF,WH,WI,WJ,WK,WL,WM,WN,WO,WP,WQ,WR,WS,WV,WW,WX,Vb,Vc,Ve,Vf,Vg,Vi,Vj,Vk,Vm,VL,VM,VN,VO,VP,VQ,VU,VV,VW,VX,VY,Ua,Ub,Uc,Ud,Ue,Uf,Ui,Uk,Um,Un,Uo,Us,Uw,Ux,Uy,Uz,U0,U1,U2,U3,U4,U5,U6,U7,UE,UF,UG,UH,UQ,UR,US,UT,UY,UZ,Ta,Tb,Tc,Td,Tf,Tg,Th,Ti,Tj,Tk,Tl,Tm,Tq,Tr,Ts,Tt,Tu,Tv,Tw,Ty,T3,T4,T7,TA,TB,TC,TH,TK,Sr,Sv,a1,a2,a5,cl,l1,l2,hx,wa,wb,wc,wd,we,m60,m2,m50,m30,d2,wd2,m3,s1,s2,s3,w44,h8]; all_goals tactic => exact rfl))
theorem r39_001_1 (hq : q.Ok) {x : P5} {i : Nat} (hi : i < 5) (hx : q.ls[i]? = some x) (ht : x.e / 2 % 3 = 1) {L : List Ld} (hL : L.length = i) (a2 : Int) (r2 : List Int) (hr2 : r2.length ≤ 5) :
    headX 0 [1,2,3,10,11] (execW progX 39 0 none (match x39l2 with | .loop _ a => a | c => c) (envL [1,2,3,10,11] [.pt 0 0,.pt 1 0,.pt 2 0,.pt 5 0,I (i : Nat)]) (hN q L i [.nilsl,.nilsl,.sl 6 0 1 (r2.length + 1)] [some (.blk true (.cells true (I a2 :: r2.map I)))])) =
      some ([.pt 0 0,.pt 1 0,.pt 2 0,.pt 5 0,I (i + 1 : Nat)],hN q (L ++ [x.ld]) (i + 1) [.nilsl,.sl 6 0 1 (1),.sl 7 0 1 (r2.length + 1)] [some (.blk true (.cells true ([I (i : Nat)]))),some (.blk true (.cells true (I a2 :: r2.map I)))]) := by
  obtain ⟨wa,wb,wc,wd,we,m60,m2,m50,m30,d2,wd2,m3,s1,s2,s3⟩ := ldF (hq.ls x (List.mem_of_getElem? hx))
  have a1 := lt_ix (lt_of hx)
  have a2 := up_ix hi (by omega)
  have a5 : ((i : Int) < 5) = True := eq_true (by omega)
  have cl := cL_len L
  rw [hL] at cl
  have ca := cL_app L x.ld
  have l1 : ((i + 1) * 40 ≤ 1099511627776) = True := eq_true (by omega)
  have l2 : (i + 1 ≤ 1099511627776) = True := eq_true (by omega)
  rw [ht] at m3
  unfold hN
  rw [ca]
  unfold P5.ld Ld.row
  dsimp only
  clear ca
  generalize x.e % 2 = ee at *
  generalize 1 + x.c % 60 + x.d % 30 = cd at *
  generalize 1 + x.c % 60 = cc at *
  generalize x.a + x.b % 50 = ab at *
  generalize x.e / 2 = e2 at *
  generalize x.d % 30 = dd at *
  generalize x.c % 60 = c6 at *
  generalize x.b % 50 = bb at *
  generalize cL L = cL0 at *
  unfold x39l2
  dsimp only
  rcases ptf ((128 : Int) < (x.e : Int)) with h8 | h8
  · (sym => (simp [irem2,iquo2,remF,Za,Zb,Zc,Zd,Ze,Zf,Zh,Zi,Zl,Zm,Zn,Zo,Zp,Zr,Zu,Zv,Zx,Zz,Z0,Z2,Z5,Z6,Z7,Z8,ZE,ZG,ZH,ZJ,ZK,ZL,ZM,ZN,ZQ,ZR,ZS,ZT,ZU,ZV,ZW,ZY,ZZ,Yb,Ye,Yg,Yh,Yj,Ys,Yu,Yv,Yw,Y0,Y2,Y3,Y4,Y6,Y7,Y8,Y9,YB,YN,YQ,YX,YY,Xa,Xe,Xf,Xh,Xo,Xq,Xt,Xu,Xw,Wm,Wn,Wp,Wv,Ww,Wy,Wz,W0,W3,W4,W5,W6,W7,W9,WA,WB,WE,WF,WH,WI,WJ,WK,WL,WM,WN,WO,WP,WQ,WR,WS,WV,WW,WX,Vb,Vc,Ve,Vf,Vg,Vi,Vj,Vk,Vm,VL,VM,VN,VO,VP,VQ,VU,VV,VW,VX,VY,Ua,Ub,Uc,Ud,Ue,Uf,Ui,Uk,Um,Un,Uo,Us,Uw,Ux,Uy,Uz,U0,U1,U2,U3,U4,U5,U6,U7,UE,UF,UG,UH,UQ,UR,US,UT,UY,UZ,Ta,Tb,Tc,Td,Tf,Tg,Th,Ti,Tj,Tk,Tl,Tm,Tq,Tr,Ts,Tt,Tu,Tv,Tw,Ty,T3,T4,T7,TA,TB,TC,TH,TK,Sr,Sv,a1,a2,a5,cl,l1,l2,hx,wa,wb,wc,wd,we,m60,m2,m50,m30,d2,wd2,m3,s1,s2,s3,w44,h8]; all_goals tactic => exact rfl))
  · (sym => (simp [irem2,iquo2,remF,Za,Zb,Zc,Zd,Ze,Zf,Zh,Zi,Zl,Zm,Zn,Zo,Zp,Zr,Zu,Zv,Zx,Zz,Z0,Z2,Z5,Z6,Z7,Z8,ZE,ZG,ZH,ZJ,ZK,ZL,ZM,ZN,ZQ,ZR,ZS,ZT,ZU,ZV,ZW,ZY,ZZ,Yb,Ye,Yg,Yh,Yj,Ys,Yu,Yv,Yw,Y0,Y2,Y3,Y4,Y6,Y7,Y8,Y9,YB,YN,YQ,YX,YY,Xa,Xe,Xf,Xh,Xo,Xq,Xt,Xu,Xw,Wm,Wn,Wp,Wv,Ww,Wy,Wz,W0,W3,W4,W5,W6,W7,W9,WA,WB,WE,WF,WH,WI,WJ,WK,WL,WM,WN,WO,WP,WQ,WR,WS,WV,WW,WX,Vb,Vc,Ve,Vf,Vg,Vi,Vj,Vk,Vm,VL,VM,VN,VO,VP,VQ,VU,VV,VW,VX,VY,Ua,Ub,Uc,Ud,Ue,Uf,Ui,Uk,Um,Un,Uo,Us,Uw,Ux,Uy,Uz,U0,U1,U2,U3,U4,U5,U6,U7,UE,UF,UG,UH,UQ,UR,US,UT,UY,UZ,Ta,Tb,Tc,Td,Tf,Tg,Th,Ti,Tj,Tk,Tl,Tm,Tq,Tr,Ts,Tt,Tu,Tv,Tw,Ty,T3,T4,T7,TA,TB,TC,TH,TK,Sr,Sv,a1,a2,a5,cl,l1,l2,hx,wa,wb,wc,wd,we,m60,m2,m50,m30,d2,wd2,m3,s1,s2,s3,w44,h8]; all_goals tactic => exact rfl))
theorem r39_001_2 (hq : q.Ok) {x : P5} {i : Nat} (hi : i < 5) (hx : q.ls[i]? = some x) (ht : x.e / 2 % 3 = 2) (h8 : ¬ 128 < x.e) {L : List Ld} (hL : L.length = i) (a2 : Int) (r2 : List Int) (hr2 : r2.length ≤ 5) :
    headX 0 [1,2,3,10,11] (execW progX 39 0 none (match x39l2 with | .loop _ a => a | c => c) (envL [1,2,3,10,11] [.pt 0 0,.pt 1 0,.pt 2 0,.pt 5 0,I (i : Nat)]) (hN q L i [.nilsl,.nilsl,.sl 6 0 1 (r2.length + 1)] [some (.blk true (.cells true (I a2 :: r2.map I)))])) =
      some ([.pt 0 0,.pt 1 0,.pt 2 0,.pt 5 0,I (i + 1 : Nat)],hN q (L ++ [x.ld]) (i + 1) [.nilsl,.nilsl,.sl 6 0 1 (r2.length + 1 + 1)] [some (.blk true (.cells true (I a2 :: (r2.map I ++ [I (i : Nat)]))))]) := by
  obtain ⟨wa,wb,wc,wd,we,m60,m2,m50,m30,d2,wd2,m3,s1,s2,s3⟩ := ldF (hq.ls x (List.mem_of_getElem? hx))
  have a1 := lt_ix (lt_of hx)
  have a2 := up_ix hi (by omega)
  have a5 : ((i : Int) < 5) = True := eq_true (by omega)
  have cl := cL_len L
  rw [hL] at cl
  have ca := cL_app L x.ld
  have l1 : ((i + 1) * 40 ≤ 1099511627776) = True := eq_true (by omega)
  have l2 : (i + 1 ≤ 1099511627776) = True := eq_true (by omega)
  rw [ht] at m3
  unfold hN
  rw [ca]
  unfold P5.ld Ld.row
  dsimp only
  clear ca
  generalize x.e % 2 = ee at *
  generalize 1 + x.c % 60 + x.d % 30 = cd at *
  generalize 1 + x.c % 60 = cc at *
  generalize x.a + x.b % 50 = ab at *
  generalize x.e / 2 = e2 at *
  generalize x.d % 30 = dd at *
  generalize x.c % 60 = c6 at *
  generalize x.b % 50 = bb at *
  generalize cL L = cL0 at *
  have g0 : ((0 : Int) < ((r2.length + 1 : Nat) : Int)) = True := eq_true (by omega)
  have b1 : ((r2.length + 1 + 1) * 8 ≤ 1099511627776) = True := eq_true (by omega)
  have b2 : (r2.length + 1 + 1 ≤ 1099511627776) = True := eq_true (by omega)
  have b3 : 1 + (r2.length + 1) = r2.length + 1 + 1 := by omega
  have b4 : r2.length + 1 - 1 = r2.length := rfl
  have b5 : List.take r2.length (r2.map I) = r2.map I := List.take_of_length_le (by simp)
  have h8 : ((128 : Int) < (x.e : Int)) = False := eq_false (by omega)
  unfold x39l2
  dsimp only
  (sym => (simp [irem2,iquo2,remF,Za,Zb,Zc,Zd,Ze,Zf,Zh,Zi,Zl,Zm,Zn,Zo,Zp,Zr,Zu,Zv,Zx,Zz,Z0,Z2,Z5,Z6,Z7,Z8,ZE,ZG,ZH,ZJ,ZK,ZL,ZM,ZN,ZQ,ZR,ZS,ZT,ZU,ZV,ZW,ZY,ZZ,Yb,Yg,Yh,Yj,Ys,Yu,Yv,Yw,Y0,Y2,Y4,Y5,Y6,Y7,Y8,Y9,YB,YN,YQ,YX,YY,Xa,Xe,Xf,Xh,Xo,Xq,Xt,Xu,Xw,Wm,Wn,Wp,Wv,Ww,Wy,Wz,W0,W3,W4,W5,W6,W7,W9,WA,WB,WE,WF,WH,WI,WJ,WK,WL,WM,WN,WO,WP,WQ,WR,WS,WV,WW,WX,Vb,Vc,Ve,Vf,Vg,Vi,Vj,Vk,Vm,VL,VM,VN,VO,VP,VQ,VU,VV,VW,VX,VY,Ua,Ub,Uc,Ud,Ue,Uf,Ui,Uk,Um,Un,Uo,Us,Uw,Ux,Uy,Uz,U0,U1,U2,U3,U4,U5,U6,U7,UE,UF,UG,UH,UQ,UR,US,UT,UY,UZ,Ta,Tc,Td,Tf,Tg,Th,Ti,Tj,Tk,Tl,Tm,Tq,Tr,Ts,Tt,Tv,Tw,Ty,T3,T4,T7,TA,TB,TC,TF,TH,TK,Sr,Sv,a1,a2,a5,cl,l1,l2,hx,wa,wb,wc,wd,we,m60,m2,m50,m30,d2,wd2,m3,s1,s2,s3,w44,g0,b1,b2,b3,b4,b5,h8]; all_goals tactic => exact rfl))
theorem r39_001_2p (hq : q.Ok) {x : P5} {i : Nat} (hi : i < 5) (hx : q.ls[i]? = some x) (ht : x.e / 2 % 3 = 2) (h8 : 128 < x.e) {L : List Ld} (hL : L.length = i) (a2 : Int) (r2 : List Int) (hr2 : r2.length ≤ 5) :
    headX 0 [1,2,3,10,11] (execW progX 39 0 none (match x39l2 with | .loop _ a => a | c => c) (envL [1,2,3,10,11] [.pt 0 0,.pt 1 0,.pt 2 0,.pt 5 0,I (i : Nat)]) (hN q L i [.nilsl,.nilsl,.sl 6 0 1 (r2.length + 1)] [some (.blk true (.cells true (I a2 :: r2.map I)))])) =
      some ([.pt 0 0,.pt 1 0,.pt 2 0,.pt 5 0,I (i + 1 : Nat)],hN q (L ++ [x.ld]) (i + 1) [.nilsl,.nilsl,.sl 6 0 1 (r2.length + 1 + 1)] [some (.blk true (.cells true (I (i : Nat) :: I a2 :: r2.map I)))]) := by
  obtain ⟨wa,wb,wc,wd,we,m60,m2,m50,m30,d2,wd2,m3,s1,s2,s3⟩ := ldF (hq.ls x (List.mem_of_getElem? hx))
  have a1 := lt_ix (lt_of hx)
  have a2 := up_ix hi (by omega)
  have a5 : ((i : Int) < 5) = True := eq_true (by omega)
  have cl := cL_len L
  rw [hL] at cl
  have ca := cL_app L x.ld
  have l1 : ((i + 1) * 40 ≤ 1099511627776) = True := eq_true (by omega)
  have l2 : (i + 1 ≤ 1099511627776) = True := eq_true (by omega)
  rw [ht] at m3
  unfold hN
  rw [ca]
  unfold P5.ld Ld.row
  dsimp only
  clear ca
  generalize x.e % 2 = ee at *
  generalize 1 + x.c % 60 + x.d % 30 = cd at *
  generalize 1 + x.c % 60 = cc at *
  generalize x.a + x.b % 50 = ab at *
  generalize x.e / 2 = e2 at *
  generalize x.d % 30 = dd at *
  generalize x.c % 60 = c6 at *
  generalize x.b % 50 = bb at *
  generalize cL L = cL0 at *
  have g0 : ((0 : Int) < ((r2.length + 1 : Nat) : Int)) = True := eq_true (by omega)
  have b1 : ((r2.length + 1 + 1) * 8 ≤ 1099511627776) = True := eq_true (by omega)
  have b2 : (r2.length + 1 + 1 ≤ 1099511627776) = True := eq_true (by omega)
  have b3 : 1 + (r2.length + 1) = r2.length + 1 + 1 := by omega
  have b4 : r2.length + 1 - 1 = r2.length := rfl
  have b5 : List.take r2.length (r2.map I) = r2.map I := List.take_of_length_le (by simp)
  have h8 : ((128 : Int) < (x.e : Int)) = True := eq_true (by omega)
  unfold x39l2
  dsimp only
  (sym => (simp [irem2,iquo2,remF,Za,Zb,Zc,Zd,Ze,Zf,Zh,Zi,Zl,Zm,Zn,Zo,Zp,Zu,Zv,Zx,Zz,Z0,Z2,Z5,Z6,Z7,Z8,ZE,ZG,ZH,ZJ,ZK,ZL,ZM,ZN,ZQ,ZR,ZS,ZT,ZU,ZV,ZY,ZZ,Yb,Yc,Yg,Yh,Yj,Ys,Yu,Yv,Yw,Y0,Y2,Y4,Y5,Y6,Y7,Y8,Y9,YB,YN,YQ,YX,YY,Xa,Xe,Xf,Xh,Xo,Xq,Xt,Xu,Xw,Wm,Wn,Wp,Wv,Ww,Wy,Wz,W0,W3,W4,W5,W6,W7,W9,WA,WB,WE,WF,WH,WI,WJ,WK,WL,WM,WN,WO,WP,WQ,WR,WS,WV,WW,WX,Vb,Vc,Ve,Vf,Vg,Vi,Vj,Vk,Vm,VL,VM,VN,VO,VP,VU,VV,VW,VX,VY,Ua,Ub,Uc,Ud,Ue,Uf,Ui,Uk,Um,Un,Uo,Us,Uw,Ux,Uy,Uz,U0,U1,U2,U3,U4,U5,U6,U7,UE,UF,UG,UH,UQ,UR,US,UT,UY,UZ,Ta,Tc,Td,Tf,Tg,Th,Ti,Tj,Tk,Tl,Tm,Tq,Tr,Ts,Tt,Tv,Tw,Ty,T3,T4,T7,TA,TB,TC,TF,TG,TH,TI,TK,TW,Sr,Sv,a1,a2,a5,cl,l1,l2,hx,wa,wb,wc,wd,we,m60,m2,m50,m30,d2,wd2,m3,s1,s2,s3,w44,g0,b1,b2,b3,b4,b5,h8]; all_goals tactic => exact rfl))
theorem r39_010_0 (hq : q.Ok) {x : P5} {i : Nat} (hi : i < 5) (hx : q.ls[i]? = some x) (ht : x.e / 2 % 3 = 0) {L : List Ld} (hL : L.length = i) (a1 : Int) (r1 : List Int) (hr1 : r1.length ≤ 5) :
    headX 0 [1,2,3,10,11] (execW progX 39 0 none (match x39l2 with | .loop _ a => a | c => c) (envL [1,2,3,10,11] [.pt 0 0,.pt 1 0,.pt 2 0,.pt 5 0,I (i : Nat)]) (hN q L i [.nilsl,.sl 6 0 1 (r1.length + 1),.nilsl] [some (.blk true (.cells true (I a1 :: r1.map I)))])) =
      some ([.pt 0 0,.pt 1 0,.pt 2 0,.pt 5 0,I (i + 1 : Nat)],hN q (L ++ [x.ld]) (i + 1) [.sl 6 0 1 (1),.sl 7 0 1 (r1.length + 1),.nilsl] [some (.blk true (.cells true ([I (i : Nat)]))),some (.blk true (.cells true (I a1 :: r1.map I)))]) := by
  obtain ⟨wa,wb,wc,wd,we,m60,m2,m50,m30,d2,wd2,m3,s1,s2,s3⟩ := ldF (hq.ls x (List.mem_of_getElem? hx))
  have a1 := lt_ix (lt_of hx)
  have a2 := up_ix hi (by omega)
  have a5 : ((i : Int) < 5) = True := eq_true (by omega)
  have cl := cL_len L
  rw [hL] at cl
  have ca := cL_app L x.ld
  have l1 : ((i + 1) * 40 ≤ 1099511627776) = True := eq_true (by omega)
  have l2 : (i + 1 ≤ 1099511627776) = True := eq_true (by omega)
  rw [ht] at m3
  unfold hN
  rw [ca]
  unfold P5.ld Ld.row
  dsimp only
  clear ca
  generalize x.e % 2 = ee at *
  generalize 1 + x.c % 60 + x.d % 30 = cd at *
  generalize 1 + x.c % 60 = cc at *
  generalize x.a + x.b % 50 = ab at *
  generalize x.e / 2 = e2 at *
  generalize x.d % 30 = dd at *
  generalize x.c % 60 = c6 at *
  generalize x.b % 50 = bb at *
  generalize cL L = cL0 at *
  unfold x39l2
  dsimp only
  rcases ptf ((128 : Int) < (x.e : Int)) with h8 | h8
  · (sym => (simp [irem2,iquo2,remF,Za,Zb,Zc,Zd,Ze,Zf,Zh,Zi,Zl,Zm,Zn,Zo,Zp,Zr,Zu,Zv,Zx,Zz,Z0,Z2,Z5,Z6,Z7,Z8,ZE,ZG,ZH,ZJ,ZK,ZL,ZM,ZN,ZQ,ZR,ZS,ZT,ZU,ZV,ZW,ZY,ZZ,Yb,Ye,Yg,Yh,Yj,Ys,Yu,Yv,Yw,Y0,Y1,Y2,Y4,Y6,Y7,Y8,Y9,YB,YN,YQ,YX,YY,Xa,Xe,Xf,Xh,Xo,Xq,Xt,Xu,Xw,Wm,Wn,Wp,Wv,Ww,Wy,Wz,W0,W3,W4,W5,W6,W7,W9,WA,WB,WE,WF,WH,WI,WJ,WK,WL,WM,WN,WO,WP,WQ,WR,WS,WV,WW,WX,Vb,Vc,Ve,Vf,Vg,Vi,Vj,Vk,Vm,VL,VM,VN,VO,VP,VQ,VU,VV,VW,VX,VY,Ua,Ub,Uc,Ud,Ue,Uf,Ui,Uk,Um,Un,Uo,Us,Uw,Ux,Uy,Uz,U0,U1,U2,U3,U4,U5,U6,U7,UE,UF,UG,UH,UQ,UR,US,UT,UY,UZ,Ta,Tb,Tc,Td,Tf,Tg,Th,Ti,Tj,Tk,Tl,Tm,Tq,Tr,Ts,Tt,Tu,Tv,Tw,Ty,T3,T4,T7,TA,TB,TC,TH,TK,Sr,Sv,a1,a2,a5,cl,l1,l2,hx,wa,wb,wc,wd,we,m60,m2,m50,m30,d2,wd2,m3,s1,s2,s3,w44,h8]; all_goals tactic => exact rfl))
  · (sym => (simp [irem2,iquo2,remF,Za,Zb,Zc,Zd,Ze,Zf,Zh,Zi,Zl,Zm,Zn,Zo,Zp,Zr,Zu,Zv,Zx,Zz,Z0,Z2,Z5,Z6,Z7,Z8,ZE,ZG,ZH,ZJ,ZK,ZL,ZM,ZN,ZQ,ZR,ZS,ZT,ZU,ZV,ZW,ZY,ZZ,Yb,Ye,Yg,Yh,Yj,Ys,Yu,Yv,Yw,Y0,Y1,Y2,Y4,Y6,Y7,Y8,Y9,YB,YN,YQ,YX,YY,Xa,Xe,Xf,Xh,Xo,Xq,Xt,Xu,Xw,Wm,Wn,Wp,Wv,Ww,Wy,Wz,W0,W3,W4,W5,W6,W7,W9,WA,WB,WE,WF,WH,WI,WJ,WK,WL,WM,WN,WO,WP,WQ,WR,WS,WV,WW,WX,Vb,Vc,Ve,Vf,Vg,Vi,Vj,Vk,Vm,VL,VM,VN,VO,VP,VQ,VU,VV,VW,VX,VY,Ua,Ub,Uc,Ud,Ue,Uf,Ui,Uk,Um,Un,Uo,Us,Uw,Ux,Uy,Uz,U0,U1,U2,U3,U4,U5,U6,U7,UE,UF,UG,UH,UQ,UR,US,UT,UY,UZ,Ta,Tb,Tc,Td,Tf,Tg,Th,Ti,Tj,Tk,Tl,Tm,Tq,Tr,Ts,Tt,Tu,Tv,Tw,Ty,T3,T4,T7,TA,TB,TC,TH,TK,Sr,Sv,a1,a2,a5,cl,l1,l2,hx,wa,wb,wc,wd,we,m60,m2,m50,m30,d2,wd2,m3,s1,s2,s3,w44,h8]; all_goals tactic => exact rfl))
theorem r39_010_1 (hq : q.Ok) {x : P5} {i : Nat} (hi : i < 5) (hx : q.ls[i]? = some x) (ht : x.e / 2 % 3 = 1) (h8 : ¬ 128 < x.e) {L : List Ld} (hL : L.length = i) (a1 : Int) (r1 : List Int) (hr1 : r1.length ≤ 5) :
    headX 0 [1,2,3,10,11] (execW progX 39 0 none (match x39l2 with | .loop _ a => a | c => c) (envL [1,2,3,10,11] [.pt 0 0,.pt 1 0,.pt 2 0,.pt 5 0,I (i : Nat)]) (hN q L i [.nilsl,.sl 6 0 1 (r1.length + 1),.nilsl] [some (.blk true (.cells true (I a1 :: r1.map I)))])) =
      some ([.pt 0 0,.pt 1 0,.pt 2 0,.pt 5 0,I (i + 1 : Nat)],hN q (L ++ [x.ld]) (i + 1) [.nilsl,.sl 6 0 1 (r1.length + 1 + 1),.nilsl] [some (.blk true (.cells true (I a1 :: (r1.map I ++ [I (i : Nat)]))))]) := by
  obtain ⟨wa,wb,wc,wd,we,m60,m2,m50,m30,d2,wd2,m3,s1,s2,s3⟩ := ldF (hq.ls x (List.mem_of_getElem? hx))
  have a1 := lt_ix (lt_of hx)
  have a2 := up_ix hi (by omega)
  have a5 : ((i : Int) < 5) = True := eq_true (by omega)
  have cl := cL_len L
  rw [hL] at cl
  have ca := cL_app L x.ld
  have l1 : ((i + 1) * 40 ≤ 1099511627776) = True := eq_true (by omega)
  have l2 : (i + 1 ≤ 1099511627776) = True := eq_true (by omega)
  rw [ht] at m3
  unfold hN
  rw [ca]
  unfold P5.ld Ld.row
  dsimp only
  clear ca
  generalize x.e % 2 = ee at *
  generalize 1 + x.c % 60 + x.d % 30 = cd at *
  generalize 1 + x.c % 60 = cc at *
  generalize x.a + x.b % 50 = ab at *
  generalize x.e / 2 = e2 at *
  generalize x.d % 30 = dd at *
  generalize x.c % 60 = c6 at *
  generalize x.b % 50 = bb at *
  generalize cL L = cL0 at *
  have g0 : ((0 : Int) < ((r1.length + 1 : Nat) : Int)) = True := eq_true (by omega)
  have b1 : ((r1.length + 1 + 1) * 8 ≤ 1099511627776) = True := eq_true (by omega)
  have b2 : (r1.length + 1 + 1 ≤ 1099511627776) = True := eq_true (by omega)
  have b3 : 1 + (r1.length + 1) = r1.length + 1 + 1 := by omega
  have b4 : r1.length + 1 - 1 = r1.length := rfl
  have b5 : List.take r1.length (r1.map I) = r1.map I := List.take_of_length_le (by simp)
  have h8 : ((128 : Int) < (x.e : Int)) = False := eq_false (by omega)
  unfold x39l2
  dsimp only
  (sym => (simp [irem2,iquo2,remF,Za,Zb,Zc,Zd,Ze,Zf,Zh,Zi,Zl,Zm,Zn,Zo,Zp,Zr,Zu,Zv,Zx,Zz,Z0,Z2,Z5,Z6,Z7,Z8,ZE,ZG,ZH,ZJ,ZK,ZL,ZM,ZN,ZQ,ZR,ZS,ZT,ZU,ZV,ZW,ZY,ZZ,Yb,Yg,Yh,Yj,Ys,Yu,Yv,Yw,Y0,Y2,Y3,Y4,Y6,Y7,Y8,Y9,YB,YN,YQ,YX,YY,Xa,Xe,Xf,Xh,Xo,Xq,Xt,Xu,Xw,Wm,Wn,Wp,Wv,Ww,Wy,Wz,W0,W3,W4,W5,W6,W7,W9,WA,WB,WE,WF,WH,WI,WJ,WK,WL,WM,WN,WO,WP,WQ,WR,WS,WV,WW,WX,Vb,Vc,Ve,Vf,Vg,Vi,Vj,Vk,Vm,VL,VM,VN,VO,VP,VQ,VU,VV,VW,VX,VY,Ua,Ub,Uc,Ud,Ue,Uf,Ui,Uk,Um,Un,Uo,Us,Uw,Ux,Uy,Uz,U0,U1,U2,U3,U4,U5,U6,U7,UE,UF,UG,UH,UQ,UR,US,UT,UY,UZ,Ta,Tc,Td,Tf,Tg,Th,Ti,Tj,Tk,Tl,Tm,Tq,Tr,Ts,Tt,Tv,Tw,Ty,T3,T4,T7,TA,TB,TC,TF,TH,TK,Sr,Sv,a1,a2,a5,cl,l1,l2,hx,wa,wb,wc,wd,we,m60,m2,m50,m30,d2,wd2,m3,s1,s2,s3,w44,g0,b1,b2,b3,b4,b5,h8]; all_goals tactic => exact rfl))
theorem r39_010_1p (hq : q.Ok) {x : P5} {i : Nat} (hi : i < 5) (hx : q.ls[i]? = some x) (ht : x.e / 2 % 3 = 1) (h8 : 128 < x.e) {L : List Ld} (hL : L.length = i) (a1 : Int) (r1 : List Int) (hr1 : r1.length ≤ 5) :
    headX 0 [1,2,3,10,11] (execW progX 39 0 none (match x39l2 with | .loop _ a => a | c => c) (envL [1,2,3,10,11] [.pt 0 0,.pt 1 0,.pt 2 0,.pt 5 0,I (i : Nat)]) (hN q L i [.nilsl,.sl 6 0 1 (r1.length + 1),.nilsl] [some (.blk true (.cells true (I a1 :: r1.map I)))])) =
      some ([.pt 0 0,.pt 1 0,.pt 2 0,.pt 5 0,I (i + 1 : Nat)],hN q (L ++ [x.ld]) (i + 1) [.nilsl,.sl 6 0 1 (r1.length + 1 + 1),.nilsl] [some (.blk true (.cells true (I (i : Nat) :: I a1 :: r1.map I)))]) := by
  obtain ⟨wa,wb,wc,wd,we,m60,m2,m50,m30,d2,wd2,m3,s1,s2,s3⟩ := ldF (hq.ls x (List.mem_of_getElem? hx))
  have a1 := lt_ix (lt_of hx)
  have a2 := up_ix hi (by omega)
  have a5 : ((i : Int) < 5) = True := eq_true (by omega)
  have cl := cL_len L
  rw [hL] at cl
  have ca := cL_app L x.ld
  have l1 : ((i + 1) * 40 ≤ 1099511627776) = True := eq_true (by omega)
  have l2 : (i + 1 ≤ 1099511627776) = True := eq_true (by omega)
  rw [ht] at m3
  unfold hN
  rw [ca]
  unfold P5.ld Ld.row
  dsimp only
  clear ca
  generalize x.e % 2 = ee at *
  generalize 1 + x.c % 60 + x.d % 30 = cd at *
  generalize 1 + x.c % 60 = cc at *
  generalize x.a + x.b % 50 = ab at *
  generalize x.e / 2 = e2 at *
  generalize x.d % 30 = dd at *
  generalize x.c % 60 = c6 at *
  generalize x.b % 50 = bb at *
  generalize cL L = cL0 at *
  have g0 : ((0 : Int) < ((r1.length + 1 : Nat) : Int)) = True := eq_true (by omega)
  have b1 : ((r1.length + 1 + 1) * 8 ≤ 1099511627776) = True := eq_true (by omega)
  have b2 : (r1.length + 1 + 1 ≤ 1099511627776) = True := eq_true (by omega)
  have b3 : 1 + (r1.length + 1) = r1.length + 1 + 1 := by omega
  have b4 : r1.length + 1 - 1 = r1.length := rfl
  have b5 : List.take r1.length (r1.map I) = r1.map I := List.take_of_length_le (by simp)
  have h8 : ((128 : Int) < (x.e : Int)) = True := eq_true (by omega)
  unfold x39l2
  dsimp only
  (sym => (simp [irem2,iquo2,remF,Za,Zb,Zc,Zd,Ze,Zf,Zh,Zi,Zl,Zm,Zn,Zo,Zp,Zu,Zv,Zx,Zz,Z0,Z2,Z5,Z6,Z7,Z8,ZE,ZG,ZH,ZJ,ZK,ZL,ZM,ZN,ZQ,ZR,ZS,ZT,ZU,ZV,ZY,ZZ,Yb,Yc,Yg,Yh,Yj,Ys,Yu,Yv,Yw,Y0,Y2,Y3,Y4,Y6,Y7,Y8,Y9,YB,YN,YQ,YX,YY,Xa,Xe,Xf,Xh,Xo,Xq,Xt,Xu,Xw,Wm,Wn,Wp,Wv,Ww,Wy,Wz,W0,W3,W4,W5,W6,W7,W9,WA,WB,WE,WF,WH,WI,WJ,WK,WL,WM,WN,WO,WP,WQ,WR,WS,WV,WW,WX,Vb,Vc,Ve,Vf,Vg,Vi,Vj,Vk,Vm,VL,VM,VN,VO,VP,VU,VV,VW,VX,VY,Ua,Ub,Uc,Ud,Ue,Uf,Ui,Uk,Um,Un,Uo,Us,Uw,Ux,Uy,Uz,U0,U1,U2,U3,U4,U5,U6,U7,UE,UF,UG,UH,UQ,UR,US,UT,UY,UZ,Ta,Tc,Td,Tf,Tg,Th,Ti,Tj,Tk,Tl,Tm,Tq,Tr,Ts,Tt,Tv,Tw,Ty,T3,T4,T7,TA,TB,TC,TF,TG,TH,TI,TK,TW,Sr,Sv,a1,a2,a5,cl,l1,l2,hx,wa,wb,wc,wd,we,m60,m2,m50,m30,d2,wd2,m3,s1,s2,s3,w44,g0,b1,b2,b3,b4,b5,h8]; all_goals tactic => exact rfl))
theorem r39_010_2 (hq : q.Ok) {x : P5} {i : Nat} (hi : i < 5) (hx : q.ls[i]? = some x) (ht : x.e / 2 % 3 = 2) {L : List Ld} (hL : L.length = i) (a1 : Int) (r1 : List Int) (hr1 : r1.length ≤ 5) :
    headX 0 [1,2,3,10,11] (execW progX 39 0 none (match x39l2 with | .loop _ a => a | c => c) (envL [1,2,3,10,11] [.pt 0 0,.pt 1 0,.pt 2 0,.pt 5 0,I (i : Nat)]) (hN q L i [.nilsl,.sl 6 0 1 (r1.length + 1),.nilsl] [some (.blk true (.cells true (I a1 :: r1.map I)))])) =
      some ([.pt 0 0,.pt 1 0,.pt 2 0,.pt 5 0,I (i + 1 : Nat)],hN q (L ++ [x.ld]) (i + 1) [.nilsl,.sl 6 0 1 (r1.length + 1),.sl 7 0 1 (1)] [some (.blk true (.cells true (I a1 :: r1.map I))),some (.blk true (.cells true ([I (i : Nat)])))]) := by
  obtain ⟨wa,wb,wc,wd,we,m60,m2,m50,m30,d2,wd2,m3,s1,s2,s3⟩ := ldF (hq.ls x (List.mem_of_getElem? hx))
  have a1 := lt_ix (lt_of hx)
  have a2 := up_ix hi (by omega)
  have a5 : ((i : Int) < 5) = True := eq_true (by omega)
  have cl := cL_len L
  rw [hL] at cl
  have ca := cL_app L x.ld
  have l1 : ((i + 1) * 40 ≤ 1099511627776) = True := eq_true (by omega)
  have l2 : (i + 1 ≤ 1099511627776) = True := eq_true (by omega)
  rw [ht] at m3
  unfold hN
  rw [ca]
  unfold P5.ld Ld.row
  dsimp only
  clear ca
  generalize x.e % 2 = ee at *
  generalize 1 + x.c % 60 + x.d % 30 = cd at *
  generalize 1 + x.c % 60 = cc at *
  generalize x.a + x.b % 50 = ab at *
  generalize x.e / 2 = e2 at *
  generalize x.d % 30 = dd at *
  generalize x.c % 60 = c6 at *
  generalize x.b % 50 = bb at *
  generalize cL L = cL0 at *
  unfold x39l2
  dsimp only
  rcases ptf ((128 : Int) < (x.e : Int)) with h8 | h8
  · (sym => (simp [irem2,iquo2,remF,Za,Zb,Zc,Zd,Ze,Zf,Zh,Zi,Zl,Zm,Zn,Zo,Zp,Zr,Zu,Zv,Zx,Zz,Z0,Z2,Z5,Z6,Z7,Z8,ZE,ZG,ZH,ZJ,ZK,ZL,ZM,ZN,ZQ,ZR,ZS,ZT,ZU,ZV,ZW,ZY,ZZ,Yb,Ye,Yg,Yh,Yj,Ys,Yu,Yv,Yw,Y0,Y2,Y4,Y5,Y6,Y7,Y8,Y9,YB,YN,YQ,YX,YY,Xa,Xe,Xf,Xh,Xo,Xq,Xt,Xu,Xw,Wm,Wn,Wp,Wv,Ww,Wy,Wz,W0,W3,W4,W5,W6,W7,W9,WA,WB,WE,WF,WH,WI,WJ,WK,WL,WM,WN,WO,WP,WQ,WR,WS,WV,WW,WX,Vb,Vc,Ve,Vf,Vg,Vi,Vj,Vk,Vm,VL,VM,VN,VO,VP,VQ,VU,VV,VW,VX,VY,Ua,Ub,Uc,Ud,Ue,Uf,Ui,Uk,Um,Un,Uo,Us,Uw,Ux,Uy,Uz,U0,U1,U2,U3,U4,U5,U6,U7,UE,UF,UG,UH,UQ,UR,US,UT,UY,UZ,Ta,Tb,Tc,Td,Tf,Tg,Th,Ti,Tj,Tk,Tl,Tm,Tq,Tr,Ts,Tt,Tu,Tv,Tw,Ty,T3,T4,T7,TA,TB,TC,TH,TK,Sr,Sv,a1,a2,a5,cl,l1,l2,hx,wa,wb,wc,wd,we,m60,m2,m50,m30,d2,wd2,m3,s1,s2,s3,w44,h8]; all_goals tactic => exact rfl))
  · (sym => (simp [irem2,iquo2,remF,Za,Zb,Zc,Zd,Ze,Zf,Zh,Zi,Zl,Zm,Zn,Zo,Zp,Zr,Zu,Zv,Zx,Zz,Z0,Z2,Z5,Z6,Z7,Z8,ZE,ZG,ZH,ZJ,ZK,ZL,ZM,ZN,ZQ,ZR,ZS,ZT,ZU,ZV,ZW,ZY,ZZ,Yb,Ye,Yg,Yh,Yj,Ys,Yu,Yv,Yw,Y0,Y2,Y4,Y5,Y6,Y7,Y8,Y9,YB,YN,YQ,YX,YY,Xa,Xe,Xf,Xh,Xo,Xq,Xt,Xu,Xw,Wm,Wn,Wp,Wv,Ww,Wy,Wz,W0,W3,W4,W5,W6,W7,W9,WA,WB,WE,WF,WH,WI,WJ,WK,WL,WM,WN,WO,WP,WQ,WR,WS,WV,WW,WX,Vb,Vc,Ve,Vf,Vg,Vi,Vj,Vk,Vm,VL,VM,VN,VO,VP,VQ,VU,VV,VW,VX,VY,Ua,Ub,Uc,Ud,Ue,Uf,Ui,Uk,Um,Un,Uo,Us,Uw,Ux,Uy,Uz,U0,U1,U2,U3,U4,U5,U6,U7,UE,UF,UG,UH,UQ,UR,US,UT,UY,UZ,Ta,Tb,Tc,Td,Tf,Tg,Th,Ti,Tj,Tk,Tl,Tm,Tq,Tr,Ts,Tt,Tu,Tv,Tw,Ty,T3,T4,T7,TA,TB,TC,TH,TK,Sr,Sv,a1,a2,a5,cl,l1,l2,hx,wa,wb,wc,wd,we,m60,m2,m50,m30,d2,wd2,m3,s1,s2,s3,w44,h8]; all_goals tactic => exact rfl))
theorem r39_011_0 (hq : q.Ok) {x : P5} {i : Nat} (hi : i < 5) (hx : q.ls[i]? = some x) (ht : x.e / 2 % 3 = 0) {L : List Ld} (hL : L.length = i) (a1 a2 : Int) (r1 r2 : List Int) (hr1 : r1.length ≤ 5) (hr2 : r2.length ≤ 5) :
    headX 0 [1,2,3,10,11] (execW progX 39 0 none (match x39l2 with | .loop _ a => a | c => c) (envL [1,2,3,10,11] [.pt 0 0,.pt 1 0,.pt 2 0,.pt 5 0,I (i : Nat)]) (hN q L i [.nilsl,.sl 6 0 1 (r1.length + 1),.sl 7 0 1 (r2.length + 1)] [some (.blk true (.cells true (I a1 :: r1.map I))),some (.blk true (.cells true (I a2 :: r2.map I)))])) =
      some ([.pt 0 0,.pt 1 0,.pt 2 0,.pt 5 0,I (i + 1 : Nat)],hN q (L ++ [x.ld]) (i + 1) [.sl 6 0 1 (1),.sl 7 0 1 (r1.length + 1),.sl 8 0 1 (r2.length + 1)] [some (.blk true (.cells true ([I (i : Nat)]))),some (.blk true (.cells true (I a1 :: r1.map I))),some (.blk true (.cells true (I a2 :: r2.map I)))]) := by
  obtain ⟨wa,wb,wc,wd,we,m60,m2,m50,m30,d2,wd2,m3,s1,s2,s3⟩ := ldF (hq.ls x (List.mem_of_getElem? hx))
  have a1 := lt_ix (lt_of hx)
  have a2 := up_ix hi (by omega)
  have a5 : ((i : Int) < 5) = True := eq_true (by omega)
  have cl := cL_len L
  rw [hL] at cl
  have ca := cL_app L x.ld
  have l1 : ((i + 1) * 40 ≤ 1099511627776) = True := eq_true (by omega)
  have l2 : (i + 1 ≤ 1099511627776) = True := eq_true (by omega)
  rw [ht] at m3
  unfold hN
  rw [ca]
  unfold P5.ld Ld.row
  dsimp only
  clear ca
  generalize x.e % 2 = ee at *
  generalize 1 + x.c % 60 + x.d % 30 = cd at *
  generalize 1 + x.c % 60 = cc at *
  generalize x.a + x.b % 50 = ab at *
  generalize x.e / 2 = e2 at *
  generalize x.d % 30 = dd at *
  generalize x.c % 60 = c6 at *
  generalize x.b % 50 = bb at *
  generalize cL L = cL0 at *
  unfold x39l2
  dsimp only
  rcases ptf ((128 : Int) < (x.e : Int)) with h8 | h8
  · (sym => (simp [irem2,iquo2,remF,Za,Zb,Zc,Zd,Ze,Zf,Zh,Zi,Zl,Zm,Zn,Zo,Zp,Zr,Zu,Zv,Zx,Zz,Z0,Z2,Z5,Z6,Z7,Z8,ZE,ZG,ZH,ZJ,ZK,ZL,ZM,ZN,ZQ,ZR,ZS,ZT,ZU,ZV,ZW,ZY,ZZ,Yb,Ye,Yg,Yh,Yj,Ys,Yu,Yv,Yw,Y0,Y1,Y2,Y4,Y6,Y7,Y8,Y9,YB,YN,YQ,YX,YY,Xa,Xe,Xf,Xh,Xo,Xq,Xt,Xu,Xw,Wm,Wn,Wp,Wv,Ww,Wy,Wz,W0,W3,W4,W5,W6,W7,W9,WA,WB,WE,WF,WH,WI,WJ,WK,WL,WM,WN,WO,WP,WQ,WR,WS,WV,WW,WX,Vb,Vc,Ve,Vf,Vg,Vi,Vj,Vk,Vm,VL,VM,VN,VO,VP,VQ,VU,VV,VW,VX,VY,Ua,Ub,Uc,Ud,Ue,Uf,Ui,Uk,Um,Un,Uo,Us,Uw,Ux,Uy,Uz,U0,U1,U2,U3,U4,U5,U6,U7,UE,UF,UG,UH,UQ,UR,US,UT,UY,UZ,Ta,Tb,Tc,Td,Tf,Tg,Th,Ti,Tj,Tk,Tl,Tm,Tq,Tr,Ts,Tt,Tu,Tv,Tw,Ty,T3,T4,T7,TA,TB,TC,TH,TK,Sr,Sv,a1,a2,a5,cl,l1,l2,hx,wa,wb,wc,wd,we,m60,m2,m50,m30,d2,wd2,m3,s1,s2,s3,w44,h8]; all_goals tactic => exact rfl))
  · (sym => (simp [irem2,iquo2,remF,Za,Zb,Zc,Zd,Ze,Zf,Zh,Zi,Zl,Zm,Zn,Zo,Zp,Zr,Zu,Zv,Zx,Zz,Z0,Z2,Z5,Z6,Z7,Z8,ZE,ZG,ZH,ZJ,ZK,ZL,ZM,ZN,ZQ,ZR,ZS,ZT,ZU,ZV,ZW,ZY,ZZ,Yb,Ye,Yg,Yh,Yj,Ys,Yu,Yv,Yw,Y0,Y1,Y2,Y4,Y6,Y7,Y8,Y9,YB,YN,YQ,YX,YY,Xa,Xe,Xf,Xh,Xo,Xq,Xt,Xu,Xw,Wm,Wn,Wp,Wv,Ww,Wy,Wz,W0,W3,W4,W5,W6,W7,W9,WA,WB,WE,WF,WH,WI,WJ,WK,WL,WM,WN,WO,WP,WQ,WR,WS,WV,WW,WX,Vb,Vc,Ve,Vf,Vg,Vi,Vj,Vk,Vm,VL,VM,VN,VO,VP,VQ,VU,VV,VW,VX,VY,Ua,Ub,Uc,Ud,Ue,Uf,Ui,Uk,Um,Un,Uo,Us,Uw,Ux,Uy,Uz,U0,U1,U2,U3,U4,U5,U6,U7,UE,UF,UG,UH,UQ,UR,US,UT,UY,UZ,Ta,Tb,Tc,Td,Tf,Tg,Th,Ti,Tj,Tk,Tl,Tm,Tq,Tr,Ts,Tt,Tu,Tv,Tw,Ty,T3,T4,T7,TA,TB,TC,TH,TK,Sr,Sv,a1,a2,a5,cl,l1,l2,hx,wa,wb,wc,wd,we,m60,m2,m50,m30,d2,wd2,m3,s1,s2,s3,w44,h8]; all_goals tactic => exact rfl))
theorem r39_011_1 (hq : q.Ok) {x : P5} {i : Nat} (hi : i < 5) (hx : q.ls[i]? = some x) (ht : x.e / 2 % 3 = 1) (h8 : ¬ 128 < x.e) {L : List Ld} (hL : L.length = i) (a1 a2 : Int) (r1 r2 : List Int) (hr1 : r1.length ≤ 5) (hr2 : r2.length ≤ 5) :
    headX 0 [1,2,3,10,11] (execW progX 39 0 none (match x39l2 with | .loop _ a => a | c => c) (envL [1,2,3,10,11] [.pt 0 0,.pt 1 0,.pt 2 0,.pt 5 0,I (i : Nat)]) (hN q L i [.nilsl,.sl 6 0 1 (r1.length + 1),.sl 7 0 1 (r2.length + 1)] [some (.blk true (.cells true (I a1 :: r1.map I))),some (.blk true (.cells true (I a2 :: r2.map I)))])) =
      some ([.pt 0 0,.pt 1 0,.pt 2 0,.pt 5 0,I (i + 1 : Nat)],hN q (L ++ [x.ld]) (i + 1) [.nilsl,.sl 6 0 1 (r1.length + 1 + 1),.sl 7 0 1 (r2.length + 1)] [some (.blk true (.cells true (I a1 :: (r1.map I ++ [I (i : Nat)])))),some (.blk true (.cells true (I a2 :: r2.map I)))]) := by
  obtain ⟨wa,wb,wc,wd,we,m60,m2,m50,m30,d2,wd2,m3,s1,s2,s3⟩ := ldF (hq.ls x (List.mem_of_getElem? hx))
  have a1 := lt_ix (lt_of hx)
  have a2 := up_ix hi (by omega)
  have a5 : ((i : Int) < 5) = True := eq_true (by omega)
  have cl := cL_len L
  rw [hL] at cl
  have ca := cL_app L x.ld
  have l1 : ((i + 1) * 40 ≤ 1099511627776) = True := eq_true (by omega)
  have l2 : (i + 1 ≤ 1099511627776) = True := eq_true (by omega)
  rw [ht] at m3
  unfold hN
  rw [ca]
  unfold P5.ld Ld.row
  dsimp only
  clear ca
  generalize x.e % 2 = ee at *
  generalize 1 + x.c % 60 + x.d % 30 = cd at *
  generalize 1 + x.c % 60 = cc at *
  generalize x.a + x.b % 50 = ab at *
  generalize x.e / 2 = e2 at *
  generalize x.d % 30 = dd at *
  generalize x.c % 60 = c6 at *
  generalize x.b % 50 = bb at *
  generalize cL L = cL0 at *
  have g0 : ((0 : Int) < ((r1.length + 1 : Nat) : Int)) = True := eq_true (by omega)
  have b1 : ((r1.length + 1 + 1) * 8 ≤ 1099511627776) = True := eq_true (by omega)
  have b2 : (r1.length + 1 + 1 ≤ 1099511627776) = True := eq_true (by omega)
  have b3 : 1 + (r1.length + 1) = r1.length + 1 + 1 := by omega
  have b4 : r1.length + 1 - 1 = r1.length := rfl
  have b5 : List.take r1.length (r1.map I) = r1.map I := List.take_of_length_le (by simp)
  have h8 : ((128 : Int) < (x.e : Int)) = False := eq_false (by omega)
  unfold x39l2
  dsimp only
  (sym => (simp [irem2,iquo2,remF,Za,Zb,Zc,Zd,Ze,Zf,Zh,Zi,Zl,Zm,Zn,Zo,Zp,Zr,Zu,Zv,Zx,Zz,Z0,Z2,Z5,Z6,Z7,Z8,ZE,ZG,ZH,ZJ,ZK,ZL,ZM,ZN,ZQ,ZR,ZS,ZT,ZU,ZV,ZW,ZY,ZZ,Yb,Yg,Yh,Yj,Ys,Yu,Yv,Yw,Y0,Y2,Y3,Y4,Y6,Y7,Y8,Y9,YB,YN,YQ,YX,YY,Xa,Xe,Xf,Xh,Xo,Xq,Xt,Xu,Xw,Wm,Wn,Wp,Wv,Ww,Wy,Wz,W0,W3,W4,W5,W6,W7,W9,WA,WB,WE,WF,WH,WI,WJ,WK,WL,WM,WN,WO,WP,WQ,WR,WS,WV,WW,WX,Vb,Vc,Ve,Vf,Vg,Vi,Vj,Vk,Vm,VL,VM,VN,VO,VP,VQ,VU,VV,VW,VX,VY,Ua,Ub,Uc,Ud,Ue,Uf,Ui,Uk,Um,Un,Uo,Us,Uw,Ux,Uy,Uz,U0,U1,U2,U3,U4,U5,U6,U7,UE,UF,UG,UH,UQ,UR,US,UT,UY,UZ,Ta,Tc,Td,Tf,Tg,Th,Ti,Tj,Tk,Tl,Tm,Tq,Tr,Ts,Tt,Tv,Tw,Ty,T3,T4,T7,TA,TB,TC,TF,TH,TK,Sr,Sv,a1,a2,a5,cl,l1,l2,hx,wa,wb,wc,wd,we,m60,m2,m50,m30,d2,wd2,m3,s1,s2,s3,w44,g0,b1,b2,b3,b4,b5,h8]; all_goals tactic => exact rfl))
theorem r39_011_1p (hq : q.Ok) {x : P5} {i : Nat} (hi : i < 5) (hx : q.ls[i]? = some x) (ht : x.e / 2 % 3 = 1) (h8 : 128 < x.e) {L : List Ld} (hL : L.length = i) (a1 a2 : Int) (r1 r2 : List Int) (hr1 : r1.length ≤ 5) (hr2 : r2.length ≤ 5) :
    headX 0 [1,2,3,10,11] (execW progX 39 0 none (match x39l2 with | .loop _ a => a | c => c) (envL [1,2,3,10,11] [.pt 0 0,.pt 1 0,.pt 2 0,.pt 5 0,I (i : Nat)]) (hN q L i [.nilsl,.sl 6 0 1 (r1.length + 1),.sl 7 0 1 (r2.length + 1)] [some (.blk true (.cells true (I a1 :: r1.map I))),some (.blk true (.cells true (I a2 :: r2.map I)))])) =
      some ([.pt 0 0,.pt 1 0,.pt 2 0,.pt 5 0,I (i + 1 : Nat)],hN q (L ++ [x.ld]) (i + 1) [.nilsl,.sl 6 0 1 (r1.length + 1 + 1),.sl 7 0 1 (r2.length + 1)] [some (.blk true (.cells true (I (i : Nat) :: I a1 :: r1.map I))),some (.blk true (.cells true (I a2 :: r2.map I)))]) := by
  obtain ⟨wa,wb,wc,wd,we,m60,m2,m50,m30,d2,wd2,m3,s1,s2,s3⟩ := ldF (hq.ls x (List.mem_of_getElem? hx))
  have a1 := lt_ix (lt_of hx)
  have a2 := up_ix hi (by omega)
  have a5 : ((i : Int) < 5) = True := eq_true (by omega)
  have cl := cL_len L
  rw [hL] at cl
  have ca := cL_app L x.ld
  have l1 : ((i + 1) * 40 ≤ 1099511627776) = True := eq_true (by omega)
  have l2 : (i + 1 ≤ 1099511627776) = True := eq_true (by omega)
  rw [ht] at m3
  unfold hN
  rw [ca]
  unfold P5.ld Ld.row
  dsimp only
  clear ca
  generalize x.e % 2 = ee at *
  generalize 1 + x.c % 60 + x.d % 30 = cd at *
  generalize 1 + x.c % 60 = cc at *
  generalize x.a + x.b % 50 = ab at *
  generalize x.e / 2 = e2 at *
  generalize x.d % 30 = dd at *
  generalize x.c % 60 = c6 at *
  generalize x.b % 50 = bb at *
  generalize cL L = cL0 at *
  have g0 : ((0 : Int) < ((r1.length + 1 : Nat) : Int)) = True := eq_true (by omega)
  have b1 : ((r1.length + 1 + 1) * 8 ≤ 1099511627776) = True := eq_true (by omega)
  have b2 : (r1.length + 1 + 1 ≤ 1099511627776) = True := eq_true (by omega)
  have b3 : 1 + (r1.length + 1) = r1.length + 1 + 1 := by omega
  have b4 : r1.length + 1 - 1 = r1.length := rfl
  have b5 : List.take r1.length (r1.map I) = r1.map I := List.take_of_length_le (by simp)
  have h8 : ((128 : Int) < (x.e : Int)) = True := eq_true (by omega)
  unfold x39l2
  dsimp only
  (sym => (simp [irem2,iquo2,remF,Za,Zb,Zc,Zd,Ze,Zf,Zh,Zi,Zl,Zm,Zn,Zo,Zp,Zu,Zv,Zx,Zz,Z0,Z2,Z5,Z6,Z7,Z8,ZE,ZG,ZH,ZJ,ZK,ZL,ZM,ZN,ZQ,ZR,ZS,ZT,ZU,ZV,ZY,ZZ,Yb,Yc,Yg,Yh,Yj,Ys,Yu,Yv,Yw,Y0,Y2,Y3,Y4,Y6,Y7,Y8,Y9,YB,YN,YQ,YX,YY,Xa,Xe,Xf,Xh,Xo,Xq,Xt,Xu,Xw,Wm,Wn,Wp,Wv,Ww,Wy,Wz,W0,W3,W4,W5,W6,W7,W9,WA,WB,WE,WF,WH,WI,WJ,WK,WL,WM,WN,WO,WP,WQ,WR,WS,WV,WW,WX,Vb,Vc,Ve,Vf,Vg,Vi,Vj,Vk,Vm,VL,VM,VN,VO,VP,VU,VV,VW,VX,VY,Ua,Ub,Uc,Ud,Ue,Uf,Ui,Uk,Um,Un,Uo,Us,Uw,Ux,Uy,Uz,U0,U1,U2,U3,U4,U5,U6,U7,UE,UF,UG,UH,UQ,UR,US,UT,UY,UZ,Ta,Tc,Td,Tf,Tg,Th,Ti,Tj,Tk,Tl,Tm,Tq,Tr,Ts,Tt,Tv,Tw,Ty,T3,T4,T7,TA,TB,TC,TF,TG,TH,TI,TK,TW,Sr,Sv,a1,a2,a5,cl,l1,l2,hx,wa,wb,wc,wd,we,m60,m2,m50,m30,d2,wd2,m3,s1,s2,s3,w44,g0,b1,b2,b3,b4,b5,h8]; all_goals tactic => exact rfl))
theorem r39_011_2 (hq : q.Ok) {x : P5} {i : Nat} (hi : i < 5) (hx : q.ls[i]? = some x) (ht : x.e / 2 % 3 = 2) (h8 : ¬ 128 < x.e) {L : List Ld} (hL : L.length = i) (a1 a2 : Int) (r1 r2 : List Int) (hr1 : r1.length ≤ 5) (hr2 : r2.length ≤ 5) :
    headX 0 [1,2,3,10,11] (execW progX 39 0 none (match x39l2 with | .loop _ a => a | c => c) (envL [1,2,3,10,11] [.pt 0 0,.pt 1 0,.pt 2 0,.pt 5 0,I (i : Nat)]) (hN q L i [.nilsl,.sl 6 0 1 (r1.length + 1),.sl 7 0 1 (r2.length + 1)] [some (.blk true (.cells true (I a1 :: r1.map I))),some (.blk true (.cells true (I a2 :: r2.map I)))])) =
      some ([.pt 0 0,.pt 1 0,.pt 2 0,.pt 5 0,I (i + 1 : Nat)],hN q (L ++ [x.ld]) (i + 1) [.nilsl,.sl 6 0 1 (r1.length + 1),.sl 7 0 1 (r2.length + 1 + 1)] [some (.blk true (.cells true (I a1 :: r1.map I))),some (.blk true (.cells true (I a2 :: (r2.map I ++ [I (i : Nat)]))))]) := by
  obtain ⟨wa,wb,wc,wd,we,m60,m2,m50,m30,d2,wd2,m3,s1,s2,s3⟩ := ldF (hq.ls x (List.mem_of_getElem? hx))
  have a1 := lt_ix (lt_of hx)
  have a2 := up_ix hi (by omega)
  have a5 : ((i : Int) < 5) = True := eq_true (by omega)
  have cl := cL_len L
  rw [hL] at cl
  have ca := cL_app L x.ld
  have l1 : ((i + 1) * 40 ≤ 1099511627776) = True := eq_true (by omega)
  have l2 : (i + 1 ≤ 1099511627776) = True := eq_true (by omega)
  rw [ht] at m3
  unfold hN
  rw [ca]
  unfold P5.ld Ld.row
  dsimp only
  clear ca
  generalize x.e % 2 = ee at *
  generalize 1 + x.c % 60 + x.d % 30 = cd at *
  generalize 1 + x.c % 60 = cc at *
  generalize x.a + x.b % 50 = ab at *
  generalize x.e / 2 = e2 at *
  generalize x.d % 30 = dd at *
  generalize x.c % 60 = c6 at *
  generalize x.b % 50 = bb at *
  generalize cL L = cL0 at *
  have g0 : ((0 : Int) < ((r2.length + 1 : Nat) : Int)) = True := eq_true (by omega)
  have b1 : ((r2.length + 1 + 1) * 8 ≤ 1099511627776) = True := eq_true (by omega)
  have b2 : (r2.length + 1 + 1 ≤ 1099511627776) = True := eq_true (by omega)
  have b3 : 1 + (r2.length + 1) = r2.length + 1 + 1 := by omega
  have b4 : r2.length + 1 - 1 = r2.length := rfl
  have b5 : List.take r2.length (r2.map I) = r2.map I := List.take_of_length_le (by simp)
  have h8 : ((128 : Int) < (x.e : Int)) = False := eq_false (by omega)
  unfold x39l2
  dsimp only
  (sym => (simp [irem2,iquo2,remF,Za,Zb,Zc,Zd,Ze,Zf,Zh,Zi,Zl,Zm,Zn,Zo,Zp,Zr,Zu,Zv,Zx,Zz,Z0,Z2,Z5,Z6,Z7,Z8,ZE,ZG,ZH,ZJ,ZK,ZL,ZM,ZN,ZQ,ZR,ZS,ZT,ZU,ZV,ZW,ZY,ZZ,Yb,Yg,Yh,Yj,Ys,Yu,Yv,Yw,Y0,Y2,Y4,Y5,Y6,Y7,Y8,Y9,YB,YN,YQ,YX,YY,Xa,Xe,Xf,Xh,Xo,Xq,Xt,Xu,Xw,Wm,Wn,Wp,Wv,Ww,Wy,Wz,W0,W3,W4,W5,W6,W7,W9,WA,WB,WE,WF,WH,WI,WJ,WK,WL,WM,WN,WO,WP,WQ,WR,WS,WV,WW,WX,Vb,Vc,Ve,Vf,Vg,Vi,Vj,Vk,Vm,VL,VM,VN,VO,VP,VQ,VU,VV,VW,VX,VY,Ua,Ub,Uc,Ud,Ue,Uf,Ui,Uk,Um,Un,Uo,Us,Uw,Ux,Uy,Uz,U0,U1,U2,U3,U4,U5,U6,U7,UE,UF,UG,UH,UQ,UR,US,UT,UY,UZ,Ta,Tc,Td,Tf,Tg,Th,Ti,Tj,Tk,Tl,Tm,Tq,Tr,Ts,Tt,Tv,Tw,Ty,T3,T4,T7,TA,TB,TC,TF,TH,TK,Sr,Sv,a1,a2,a5,cl,l1,l2,hx,wa,wb,wc,wd,we,m60,m2,m50,m30,d2,wd2,m3,s1,s2,s3,w44,g0,b1,b2,b3,b4,b5,h8]; all_goals tactic => exact rfl))
theorem r39_011_2p (hq : q.Ok) {x : P5} {i : Nat} (hi : i < 5) (hx : q.ls[i]? = some x) (ht : x.e / 2 % 3 = 2) (h8 : 128 < x.e) {L : List Ld} (hL : L.length = i) (a1 a2 : Int) (r1 r2 : List Int) (hr1 : r1.length ≤ 5) (hr2 : r2.length ≤ 5) :
    headX 0 [1,2,3,10,11] (execW progX 39 0 none (match x39l2 with | .loop _ a => a | c => c) (envL [1,2,3,10,11] [.pt 0 0,.pt 1 0,.pt 2 0,.pt 5 0,I (i : Nat)]) (hN q L i [.nilsl,.sl 6 0 1 (r1.length + 1),.sl 7 0 1 (r2.length + 1)] [some (.blk true (.cells true (I a1 :: r1.map I))),some (.blk true (.cells true (I a2 :: r2.map I)))])) =
      some ([.pt 0 0,.pt 1 0,.pt 2 0,.pt 5 0,I (i + 1 : Nat)],hN q (L ++ [x.ld]) (i + 1) [.nilsl,.sl 6 0 1 (r1.length + 1),.sl 7 0 1 (r2.length + 1 + 1)] [some (.blk true (.cells true (I a1 :: r1.map I))),some (.blk true (.cells true (I (i : Nat) :: I a2 :: r2.map I)))]) := by
  obtain ⟨wa,wb,wc,wd,we,m60,m2,m50,m30,d2,wd2,m3,s1,s2,s3⟩ := ldF (hq.ls x (List.mem_of_getElem? hx))
  have a1 := lt_ix (lt_of hx)
  have a2 := up_ix hi (by omega)
  have a5 : ((i : Int) < 5) = True := eq_true (by omega)
  have cl := cL_len L
  rw [hL] at cl
  have ca := cL_app L x.ld
  have l1 : ((i + 1) * 40 ≤ 1099511627776) = True := eq_true (by omega)
  have l2 : (i + 1 ≤ 1099511627776) = True := eq_true (by omega)
  rw [ht] at m3
  unfold hN
  rw [ca]
  unfold P5.ld Ld.row
  dsimp only
  clear ca
  generalize x.e % 2 = ee at *
  generalize 1 + x.c % 60 + x.d % 30 = cd at *
  generalize 1 + x.c % 60 = cc at *
  generalize x.a + x.b % 50 = ab at *
  generalize x.e / 2 = e2 at *
  generalize x.d % 30 = dd at *
  generalize x.c % 60 = c6 at *
  generalize x.b % 50 = bb at *
  generalize cL L = cL0 at *
  have g0 : ((0 : Int) < ((r2.length + 1 : Nat) : Int)) = True := eq_true (by omega)
  have b1 : ((r2.length + 1 + 1) * 8 ≤ 1099511627776) = True := eq_true (by omega)
  have b2 : (r2.length + 1 + 1 ≤ 1099511627776) = True := eq_true (by omega)
  have b3 : 1 + (r2.length + 1) = r2.length + 1 + 1 := by omega
  have b4 : r2.length + 1 - 1 = r2.length := rfl
  have b5 : List.take r2.length (r2.map I) = r2.map I := List.take_of_length_le (by simp)
  have h8 : ((128 : Int) < (x.e : Int)) = True := eq_true (by omega)
  unfold x39l2
  dsimp only
  (sym => (simp [irem2,iquo2,remF,Za,Zb,Zc,Zd,Ze,Zf,Zh,Zi,Zl,Zm,Zn,Zo,Zp,Zu,Zv,Zx,Zz,Z0,Z2,Z5,Z6,Z7,Z8,ZE,ZG,ZH,ZJ,ZK,ZL,ZM,ZN,ZQ,ZR,ZS,ZT,ZU,ZV,ZY,ZZ,Yb,Yc,Yg,Yh,Yj,Ys,Yu,Yv,Yw,Y0,Y2,Y4,Y5,Y6,Y7,Y8,Y9,YB,YN,YQ,YX,YY,Xa,Xe,Xf,Xh,Xo,Xq,Xt,Xu,Xw,Wm,Wn,Wp,Wv,Ww,Wy,Wz,W0,W3,W4,W5,W6,W7,W9,WA,WB,WE,WF,WH,WI,WJ,WK,WL,WM,WN,WO,WP,WQ,WR,WS,WV,WW,WX,Vb,Vc,Ve,Vf,Vg,Vi,Vj,Vk,Vm,VL,VM,VN,VO,VP,VU,VV,VW,VX,VY,Ua,Ub,Uc,Ud,Ue,Uf,Ui,Uk,Um,Un,Uo,Us,Uw,Ux,Uy,Uz,U0,U1,U2,U3,U4,U5,U6,U7,UE,UF,UG,UH,UQ,UR,US,UT,UY,UZ,Ta,Tc,Td,Tf,Tg,Th,Ti,Tj,Tk,Tl,Tm,Tq,Tr,Ts,Tt,Tv,Tw,Ty,T3,T4,T7,TA,TB,TC,TF,TG,TH,TI,TK,TW,Sr,Sv,a1,a2,a5,cl,l1,l2,hx,wa,wb,wc,wd,we,m60,m2,m50,m30,d2,wd2,m3,s1,s2,s3,w44,g0,b1,b2,b3,b4,b5,h8]; all_goals tactic => exact rfl))
theorem r39_100_0 (hq : q.Ok) {x : P5} {i : Nat} (hi : i < 5) (hx : q.ls[i]? = some x) (ht : x.e / 2 % 3 = 0) (h8 : ¬ 128 < x.e) {L : List Ld} (hL : L.length = i) (a0 : Int) (r0 : List Int) (hr0 : r0.length ≤ 5) :
    headX 0 [1,2,3,10,11] (execW progX 39 0 none (match x39l2 with | .loop _ a => a | c => c) (envL [1,2,3,10,11] [.pt 0 0,.pt 1 0,.pt 2 0,.pt 5 0,I (i : Nat)]) (hN q L i [.sl 6 0 1 (r0.length + 1),.nilsl,.nilsl] [some (.blk true (.cells true (I a0 :: r0.map I)))])) =
      some ([.pt 0 0,.pt 1 0,.pt 2 0,.pt 5 0,I (i + 1 : Nat)],hN q (L ++ [x.ld]) (i + 1) [.sl 6 0 1 (r0.length + 1 + 1),.nilsl,.nilsl] [some (.blk true (.cells true (I a0 :: (r0.map I ++ [I (i : Nat)]))))]) := by
  obtain ⟨wa,wb,wc,wd,we,m60,m2,m50,m30,d2,wd2,m3,s1,s2,s3⟩ := ldF (hq.ls x (List.mem_of_getElem? hx))
  have a1 := lt_ix (lt_of hx)
  have a2 := up_ix hi (by omega)
  have a5 : ((i : Int) < 5) = True := eq_true (by omega)
  have cl := cL_len L
  rw [hL] at cl
  have ca := cL_app L x.ld
  have l1 : ((i + 1) * 40 ≤ 1099511627776) = True := eq_true (by omega)
  have l2 : (i + 1 ≤ 1099511627776) = True := eq_true (by omega)
  rw [ht] at m3
  unfold hN
  rw [ca]
  unfold P5.ld Ld.row
  dsimp only
  clear ca
  generalize x.e % 2 = ee at *
  generalize 1 + x.c % 60 + x.d % 30 = cd at *
  generalize 1 + x.c % 60 = cc at *
  generalize x.a + x.b % 50 = ab at *
  generalize x.e / 2 = e2 at *
  generalize x.d % 30 = dd at *
  generalize x.c % 60 = c6 at *
  generalize x.b % 50 = bb at *
  generalize cL L = cL0 at *
  have g0 : ((0 : Int) < ((r0.length + 1 : Nat) : Int)) = True := eq_true (by omega)
  have b1 : ((r0.length + 1 + 1) * 8 ≤ 1099511627776) = True := eq_true (by omega)
  have b2 : (r0.length + 1 + 1 ≤ 1099511627776) = True := eq_true (by omega)
  have b3 : 1 + (r0.length + 1) = r0.length + 1 + 1 := by omega
  have b4 : r0.length + 1 - 1 = r0.length := rfl
  have b5 : List.take r0.length (r0.map I) = r0.map I := List.take_of_length_le (by simp)
  have h8 : ((128 : Int) < (x.e : Int)) = False := eq_false (by omega)
  unfold x39l2
  dsimp only
  (sym => (simp [irem2,iquo2,remF,Za,Zb,Zc,Zd,Ze,Zf,Zh,Zi,Zl,Zm,Zn,Zo,Zp,Zr,Zu,Zv,Zx,Zz,Z0,Z2,Z5,Z6,Z7,Z8,ZE,ZG,ZH,ZJ,ZK,ZL,ZM,ZN,ZQ,ZR,ZS,ZT,ZU,ZV,ZW,ZY,ZZ,Yb,Yg,Yh,Yj,Ys,Yu,Yv,Yw,Y0,Y1,Y2,Y4,Y6,Y7,Y8,Y9,YB,YN,YQ,YX,YY,Xa,Xe,Xf,Xh,Xo,Xq,Xt,Xu,Xw,Wm,Wn,Wp,Wv,Ww,Wy,Wz,W0,W3,W4,W5,W6,W7,W9,WA,WB,WE,WF,WH,WI,WJ,WK,WL,WM,WN,WO,WP,WQ,WR,WS,WV,WW,WX,Vb,Vc,Ve,Vf,Vg,Vi,Vj,Vk,Vm,VL,VM,VN,VO,VP,VQ,VU,VV,VW,VX,VY,Ua,Ub,Uc,Ud,Ue,Uf,Ui,Uk,Um,Un,Uo,Us,Uw,Ux,Uy,Uz,U0,U1,U2,U3,U4,U5,U6,U7,UE,UF,UG,UH,UQ,UR,US,UT,UY,UZ,Ta,Tc,Td,Tf,Tg,Th,Ti,Tj,Tk,Tl,Tm,Tq,Tr,Ts,Tt,Tv,Tw,Ty,T3,T4,T7,TA,TB,TC,TF,TH,TK,Sr,Sv,a1,a2,a5,cl,l1,l2,hx,wa,wb,wc,wd,we,m60,m2,m50,m30,d2,wd2,m3,s1,s2,s3,w44,g0,b1,b2,b3,b4,b5,h8]; all_goals tactic => exact rfl))
theorem r39_100_0p (hq : q.Ok) {x : P5} {i : Nat} (hi : i < 5) (hx : q.ls[i]? = some x) (ht : x.e / 2 % 3 = 0) (h8 : 128 < x.e) {L : List Ld} (hL : L.length = i) (a0 : Int) (r0 : List Int) (hr0 : r0.length ≤ 5) :
    headX 0 [1,2,3,10,11] (execW progX 39 0 none (match x39l2 with | .loop _ a => a | c => c) (envL [1,2,3,10,11] [.pt 0 0,.pt 1 0,.pt 2 0,.pt 5 0,I (i : Nat)]) (hN q L i [.sl 6 0 1 (r0.length + 1),.nilsl,.nilsl] [some (.blk true (.cells true (I a0 :: r0.map I)))])) =
      some ([.pt 0 0,.pt 1 0,.pt 2 0,.pt 5 0,I (i + 1 : Nat)],hN q (L ++ [x.ld]) (i + 1) [.sl 6 0 1 (r0.length + 1 + 1),.nilsl,.nilsl] [some (.blk true (.cells true (I (i : Nat) :: I a0 :: r0.map I)))]) := by
  obtain ⟨wa,wb,wc,wd,we,m60,m2,m50,m30,d2,wd2,m3,s1,s2,s3⟩ := ldF (hq.ls x (List.mem_of_getElem? hx))
  have a1 := lt_ix (lt_of hx)
  have a2 := up_ix hi (by omega)
  have a5 : ((i : Int) < 5) = True := eq_true (by omega)
  have cl := cL_len L
  rw [hL] at cl
  have ca := cL_app L x.ld
  have l1 : ((i + 1) * 40 ≤ 1099511627776) = True := eq_true (by omega)
  have l2 : (i + 1 ≤ 1099511627776) = True := eq_true (by omega)
  rw [ht] at m3
  unfold hN
  rw [ca]
  unfold P5.ld Ld.row
  dsimp only
  clear ca
  generalize x.e % 2 = ee at *
  generalize 1 + x.c % 60 + x.d % 30 = cd at *
  generalize 1 + x.c % 60 = cc at *
  generalize x.a + x.b % 50 = ab at *
  generalize x.e / 2 = e2 at *
  generalize x.d % 30 = dd at *
  generalize x.c % 60 = c6 at *
  generalize x.b % 50 = bb at *
  generalize cL L = cL0 at *
  have g0 : ((0 : Int) < ((r0.length + 1 : Nat) : Int)) = True := eq_true (by omega)
  have b1 : ((r0.length + 1 + 1) * 8 ≤ 1099511627776) = True := eq_true (by omega)
  have b2 : (r0.length + 1 + 1 ≤ 1099511627776) = True := eq_true (by omega)
  have b3 : 1 + (r0.length + 1) = r0.length + 1 + 1 := by omega
  have b4 : r0.length + 1 - 1 = r0.length := rfl
  have b5 : List.take r0.length (r0.map I) = r0.map I := List.take_of_length_le (by simp)
  have h8 : ((128 : Int) < (x.e : Int)) = True := eq_true (by omega)
  unfold x39l2
  dsimp only
  (sym => (simp [irem2,iquo2,remF,Za,Zb,Zc,Zd,Ze,Zf,Zh,Zi,Zl,Zm,Zn,Zo,Zp,Zu,Zv,Zx,Zz,Z0,Z2,Z5,Z6,Z7,Z8,ZE,ZG,ZH,ZJ,ZK,ZL,ZM,ZN,ZQ,ZR,ZS,ZT,ZU,ZV,ZY,ZZ,Yb,Yc,Yg,Yh,Yj,Ys,Yu,Yv,Yw,Y0,Y1,Y2,Y4,Y6,Y7,Y8,Y9,YB,YN,YQ,YX,YY,Xa,Xe,Xf,Xh,Xo,Xq,Xt,Xu,Xw,Wm,Wn,Wp,Wv,Ww,Wy,Wz,W0,W3,W4,W5,W6,W7,W9,WA,WB,WE,WF,WH,WI,WJ,WK,WL,WM,WN,WO,WP,WQ,WR,WS,WV,WW,WX,Vb,Vc,Ve,Vf,Vg,Vi,Vj,Vk,Vm,VL,VM,VN,VO,VP,VU,VV,VW,VX,VY,Ua,Ub,Uc,Ud,Ue,Uf,Ui,Uk,Um,Un,Uo,Us,Uw,Ux,Uy,Uz,U0,U1,U2,U3,U4,U5,U6,U7,UE,UF,UG,UH,UQ,UR,US,UT,UY,UZ,Ta,Tc,Td,Tf,Tg,Th,Ti,Tj,Tk,Tl,Tm,Tq,Tr,Ts,Tt,Tv,Tw,Ty,T3,T4,T7,TA,TB,TC,TF,TG,TH,TI,TK,TW,Sr,Sv,a1,a2,a5,cl,l1,l2,hx,wa,wb,wc,wd,we,m60,m2,m50,m30,d2,wd2,m3,s1,s2,s3,w44,g0,b1,b2,b3,b4,b5,h8]; all_goals tactic => exact rfl))
theorem r39_100_1 (hq : q.Ok) {x : P5} {i : Nat} (hi : i < 5) (hx : q.ls[i]? = some x) (ht : x.e / 2 % 3 = 1) {L : List Ld} (hL : L.length = i) (a0 : Int) (r0 : List Int) (hr0 : r0.length ≤ 5) :
    headX 0 [1,2,3,10,11] (execW progX 39 0 none (match x39l2 with | .loop _ a => a | c => c) (envL [1,2,3,10,11] [.pt 0 0,.pt 1 0,.pt 2 0,.pt 5 0,I (i : Nat)]) (hN q L i [.sl 6 0 1 (r0.length + 1),.nilsl,.nilsl] [some (.blk true (.cells true (I a0 :: r0.map I)))])) =
      some ([.pt 0 0,.pt 1 0,.pt 2 0,.pt 5 0,I (i + 1 : Nat)],hN q (L ++ [x.ld]) (i + 1) [.sl 6 0 1 (r0.length + 1),.sl 7 0 1 (1),.nilsl] [some (.blk true (.cells true (I a0 :: r0.map I))),some (.blk true (.cells true ([I (i : Nat)])))]) := by
  obtain ⟨wa,wb,wc,wd,we,m60,m2,m50,m30,d2,wd2,m3,s1,s2,s3⟩ := ldF (hq.ls x (List.mem_of_getElem? hx))
  have a1 := lt_ix (lt_of hx)
  have a2 := up_ix hi (by omega)
  have a5 : ((i : Int) < 5) = True := eq_true (by omega)
  have cl := cL_len L
  rw [hL] at cl
  have ca := cL_app L x.ld
  have l1 : ((i + 1) * 40 ≤ 1099511627776) = True := eq_true (by omega)
  have l2 : (i + 1 ≤ 1099511627776) = True := eq_true (by omega)
  rw [ht] at m3
  unfold hN
  rw [ca]
  unfold P5.ld Ld.row
  dsimp only
  clear ca
  generalize x.e % 2 = ee at *
  generalize 1 + x.c % 60 + x.d % 30 = cd at *
  generalize 1 + x.c % 60 = cc at *
  generalize x.a + x.b % 50 = ab at *
  generalize x.e / 2 = e2 at *
  generalize x.d % 30 = dd at *
  generalize x.c % 60 = c6 at *
  generalize x.b % 50 = bb at *
  generalize cL L = cL0 at *
  unfold x39l2
  dsimp only
  rcases ptf ((128 : Int) < (x.e : Int)) with h8 | h8
  · (sym => (simp [irem2,iquo2,remF,Za,Zb,Zc,Zd,Ze,Zf,Zh,Zi,Zl,Zm,Zn,Zo,Zp,Zr,Zu,Zv,Zx,Zz,Z0,Z2,Z5,Z6,Z7,Z8,ZE,ZG,ZH,ZJ,ZK,ZL,ZM,ZN,ZQ,ZR,ZS,ZT,ZU,ZV,ZW,ZY,ZZ,Yb,Ye,Yg,Yh,Yj,Ys,Yu,Yv,Yw,Y0,Y2,Y3,Y4,Y6,Y7,Y8,Y9,YB,YN,YQ,YX,YY,Xa,Xe,Xf,Xh,Xo,Xq,Xt,Xu,Xw,Wm,Wn,Wp,Wv,Ww,Wy,Wz,W0,W3,W4,W5,W6,W7,W9,WA,WB,WE,WF,WH,WI,WJ,WK,WL,WM,WN,WO,WP,WQ,WR,WS,WV,WW,WX,Vb,Vc,Ve,Vf,Vg,Vi,Vj,Vk,Vm,VL,VM,VN,VO,VP,VQ,VU,VV,VW,VX,VY,Ua,Ub,Uc,Ud,Ue,Uf,Ui,Uk,Um,Un,Uo,Us,Uw,Ux,Uy,Uz,U0,U1,U2,U3,U4,U5,U6,U7,UE,UF,UG,UH,UQ,UR,US,UT,UY,UZ,Ta,Tb,Tc,Td,Tf,Tg,Th,Ti,Tj,Tk,Tl,Tm,Tq,Tr,Ts,Tt,Tu,Tv,Tw,Ty,T3,T4,T7,TA,TB,TC,TH,TK,Sr,Sv,a1,a2,a5,cl,l1,l2,hx,wa,wb,wc,wd,we,m60,m2,m50,m30,d2,wd2,m3,s1,s2,s3,w44,h8]; all_goals tactic => exact rfl))
  · (sym => (simp [irem2,iquo2,remF,Za,Zb,Zc,Zd,Ze,Zf,Zh,Zi,Zl,Zm,Zn,Zo,Zp,Zr,Zu,Zv,Zx,Zz,Z0,Z2,Z5,Z6,Z7,Z8,ZE,ZG,ZH,ZJ,ZK,ZL,ZM,ZN,ZQ,ZR,ZS,ZT,ZU,ZV,ZW,ZY,ZZ,Yb,Ye,Yg,Yh,Yj,Ys,Yu,Yv,Yw,Y0,Y2,Y3,Y4,Y6,Y7,Y8,Y9,YB,YN,YQ,YX,YY,Xa,Xe,Xf,Xh,Xo,Xq,Xt,Xu,Xw,Wm,Wn,Wp,Wv,Ww,Wy,Wz,W0,W3,W4,W5,W6,W7,W9,WA,WB,WE,WF,WH,WI,WJ,WK,WL,WM,WN,WO,WP,WQ,WR,WS,WV,WW,WX,Vb,Vc,Ve,Vf,Vg,Vi,Vj,Vk,Vm,VL,VM,VN,VO,VP,VQ,VU,VV,VW,VX,VY,Ua,Ub,Uc,Ud,Ue,Uf,Ui,Uk,Um,Un,Uo,Us,Uw,Ux,Uy,Uz,U0,U1,U2,U3,U4,U5,U6,U7,UE,UF,UG,UH,UQ,UR,US,UT,UY,UZ,Ta,Tb,Tc,Td,Tf,Tg,Th,Ti,Tj,Tk,Tl,Tm,Tq,Tr,Ts,Tt,Tu,Tv,Tw,Ty,T3,T4,T7,TA,TB,TC,TH,TK,Sr,Sv,a1,a2,a5,cl,l1,l2,hx,wa,wb,wc,wd,we,m60,m2,m50,m30,d2,wd2,m3,s1,s2,s3,w44,h8]; all_goals tactic => exact rfl))
theorem r39_100_2 (hq : q.Ok) {x : P5} {i : Nat} (hi : i < 5) (hx : q.ls[i]? = some x) (ht : x.e / 2 % 3 = 2) {L : List Ld} (hL : L.length = i) (a0 : Int) (r0 : List Int) (hr0 : r0.length ≤ 5) :
    headX 0 [1,2,3,10,11] (execW progX 39 0 none (match x39l2 with | .loop _ a => a | c => c) (envL [1,2,3,10,11] [.pt 0 0,.pt 1 0,.pt 2 0,.pt 5 0,I (i : Nat)]) (hN q L i [.sl 6 0 1 (r0.length + 1),.nilsl,.nilsl] [some (.blk true (.cells true (I a0 :: r0.map I)))])) =
      some ([.pt 0 0,.pt 1 0,.pt 2 0,.pt 5 0,I (i + 1 : Nat)],hN q (L ++ [x.ld]) (i + 1) [.sl 6 0 1 (r0.length + 1),.nilsl,.sl 7 0 1 (1)] [some (.blk true (.cells true (I a0 :: r0.map I))),some (.blk true (.cells true ([I (i : Nat)])))]) := by
  obtain ⟨wa,wb,wc,wd,we,m60,m2,m50,m30,d2,wd2,m3,s1,s2,s3⟩ := ldF (hq.ls x (List.mem_of_getElem? hx))
  have a1 := lt_ix (lt_of hx)
  have a2 := up_ix hi (by omega)
  have a5 : ((i : Int) < 5) = True := eq_true (by omega)
  have cl := cL_len L
  rw [hL] at cl
  have ca := cL_app L x.ld
  have l1 : ((i + 1) * 40 ≤ 1099511627776) = True := eq_true (by omega)
  have l2 : (i + 1 ≤ 1099511627776) = True := eq_true (by omega)
  rw [ht] at m3
  unfold hN
  rw [ca]
  unfold P5.ld Ld.row
  dsimp only
  clear ca
  generalize x.e % 2 = ee at *
  generalize 1 + x.c % 60 + x.d % 30 = cd at *
  generalize 1 + x.c % 60 = cc at *
  generalize x.a + x.b % 50 = ab at *
  generalize x.e / 2 = e2 at *
  generalize x.d % 30 = dd at *
  generalize x.c % 60 = c6 at *
  generalize x.b % 50 = bb at *
  generalize cL L = cL0 at *
  unfold x39l2
  dsimp only
  rcases ptf ((128 : Int) < (x.e : Int)) with h8 | h8
  · (sym => (simp [irem2,iquo2,remF,Za,Zb,Zc,Zd,Ze,Zf,Zh,Zi,Zl,Zm,Zn,Zo,Zp,Zr,Zu,Zv,Zx,Zz,Z0,Z2,Z5,Z6,Z7,Z8,ZE,ZG,ZH,ZJ,ZK,ZL,ZM,ZN,ZQ,ZR,ZS,ZT,ZU,ZV,ZW,ZY,ZZ,Yb,Ye,Yg,Yh,Yj,Ys,Yu,Yv,Yw,Y0,Y2,Y4,Y5,Y6,Y7,Y8,Y9,YB,YN,YQ,YX,YY,Xa,Xe,Xf,Xh,Xo,Xq,Xt,Xu,Xw,Wm,Wn,Wp,Wv,Ww,Wy,Wz,W0,W3,W4,W5,W6,W7,W9,WA,WB,WE,WF,WH,WI,WJ,WK,WL,WM,WN,WO,WP,WQ,WR,WS,WV,WW,WX,Vb,Vc,Ve,Vf,Vg,Vi,Vj,Vk,Vm,VL,VM,VN,VO,VP,VQ,VU,VV,VW,VX,VY,Ua,Ub,Uc,Ud,Ue,Uf,Ui,Uk,Um,Un,Uo,Us,Uw,Ux,Uy,Uz,U0,U1,U2,U3,U4,U5,U6,U7,UE,UF,UG,UH,UQ,UR,US,UT,UY,UZ,Ta,Tb,Tc,Td,Tf,Tg,Th,Ti,Tj,Tk,Tl,Tm,Tq,Tr,Ts,Tt,Tu,Tv,Tw,Ty,T3,T4,T7,TA,TB,TC,TH,TK,Sr,Sv,a1,a2,a5,cl,l1,l2,hx,wa,wb,wc,wd,we,m60,m2,m50,m30,d2,wd2,m3,s1,s2,s3,w44,h8]; all_goals tactic => exact rfl))
  · (sym => (simp [irem2,iquo2,remF,Za,Zb,Zc,Zd,Ze,Zf,Zh,Zi,Zl,Zm,Zn,Zo,Zp,Zr,Zu,Zv,Zx,Zz,Z0,Z2,Z5,Z6,Z7,Z8,ZE,ZG,ZH,ZJ,ZK,ZL,ZM,ZN,ZQ,ZR,ZS,ZT,ZU,ZV,ZW,ZY,ZZ,Yb,Ye,Yg,Yh,Yj,Ys,Yu,Yv,Yw,Y0,Y2,Y4,Y5,Y6,Y7,Y8,Y9,YB,YN,YQ,YX,YY,Xa,Xe,Xf,Xh,Xo,Xq,Xt,Xu,Xw,Wm,Wn,Wp,Wv,Ww,Wy,Wz,W0,W3,W4,W5,W6,W7,W9,WA,WB,WE,WF,WH,WI,WJ,WK,WL,WM,WN,WO,WP,WQ,WR,WS,WV,WW,WX,Vb,Vc,Ve,Vf,Vg,Vi,Vj,Vk,Vm,VL,VM,VN,VO,VP,VQ,VU,VV,VW,VX,VY,Ua,Ub,Uc,Ud,Ue,Uf,Ui,Uk,Um,Un,Uo,Us,Uw,Ux,Uy,Uz,U0,U1,U2,U3,U4,U5,U6,U7,UE,UF,UG,UH,UQ,UR,US,UT,UY,UZ,Ta,Tb,Tc,Td,Tf,Tg,Th,Ti,Tj,Tk,Tl,Tm,Tq,Tr,Ts,Tt,Tu,Tv,Tw,Ty,T3,T4,T7,TA,TB,TC,TH,TK,Sr,Sv,a1,a2,a5,cl,l1,l2,hx,wa,wb,wc,wd,we,m60,m2,m50,m30,d2,wd2,m3,s1,s2,s3,w44,h8]; all_goals tactic => exact rfl))
theorem r39_101_0 (hq : q.Ok) {x : P5} {i : Nat} (hi : i < 5) (hx : q.ls[i]? = some x) (ht : x.e / 2 % 3 = 0) (h8 : ¬ 128 < x.e) {L : List Ld} (hL : L.length = i) (a0 a2 : Int) (r0 r2 : List Int) (hr0 : r0.length ≤ 5) (hr2 : r2.length ≤ 5) :
    headX 0 [1,2,3,10,11] (execW progX 39 0 none (match x39l2 with | .loop _ a => a | c => c) (envL [1,2,3,10,11] [.pt 0 0,.pt 1 0,.pt 2 0,.pt 5 0,I (i : Nat)]) (hN q L i [.sl 6 0 1 (r0.length + 1),.nilsl,.sl 7 0 1 (r2.length + 1)] [some (.blk true (.cells true (I a0 :: r0.map I))),some (.blk true (.cells true (I a2 :: r2.map I)))])) =
      some ([.pt 0 0,.pt 1 0,.pt 2 0,.pt 5 0,I (i + 1 : Nat)],hN q (L ++ [x.ld]) (i + 1) [.sl 6 0 1 (r0.length + 1 + 1),.nilsl,.sl 7 0 1 (r2.length + 1)] [some (.blk true (.cells true (I a0 :: (r0.map I ++ [I (i : Nat)])))),some (.blk true (.cells true (I a2 :: r2.map I)))]) := by
  obtain ⟨wa,wb,wc,wd,we,m60,m2,m50,m30,d2,wd2,m3,s1,s2,s3⟩ := ldF (hq.ls x (List.mem_of_getElem? hx))
  have a1 := lt_ix (lt_of hx)
  have a2 := up_ix hi (by omega)
  have a5 : ((i : Int) < 5) = True := eq_true (by omega)
  have cl := cL_len L
  rw [hL] at cl
  have ca := cL_app L x.ld
  have l1 : ((i + 1) * 40 ≤ 1099511627776) = True := eq_true (by omega)
  have l2 : (i + 1 ≤ 1099511627776) = True := eq_true (by omega)
  rw [ht] at m3
  unfold hN
  rw [ca]
  unfold P5.ld Ld.row
  dsimp only
  clear ca
  generalize x.e % 2 = ee at *
  generalize 1 + x.c % 60 + x.d % 30 = cd at *
  generalize 1 + x.c % 60 = cc at *
  generalize x.a + x.b % 50 = ab at *
  generalize x.e / 2 = e2 at *
  generalize x.d % 30 = dd at *
  generalize x.c % 60 = c6 at *
  generalize x.b % 50 = bb at *
  generalize cL L = cL0 at *
  have g0 : ((0 : Int) < ((r0.length + 1 : Nat) : Int)) = True := eq_true (by omega)
  have b1 : ((r0.length + 1 + 1) * 8 ≤ 1099511627776) = True := eq_true (by omega)
  have b2 : (r0.length + 1 + 1 ≤ 1099511627776) = True := eq_true (by omega)
  have b3 : 1 + (r0.length + 1) = r0.length + 1 + 1 := by omega
  have b4 : r0.length + 1 - 1 = r0.length := rfl
  have b5 : List.take r0.length (r0.map I) = r0.map I := List.take_of_length_le (by simp)
  have h8 : ((128 : Int) < (x.e : Int)) = False := eq_false (by omega)
  unfold x39l2
  dsimp only
  (sym => (simp [irem2,iquo2,remF,Za,Zb,Zc,Zd,Ze,Zf,Zh,Zi,Zl,Zm,Zn,Zo,Zp,Zr,Zu,Zv,Zx,Zz,Z0,Z2,Z5,Z6,Z7,Z8,ZE,ZG,ZH,ZJ,ZK,ZL,ZM,ZN,ZQ,ZR,ZS,ZT,ZU,ZV,ZW,ZY,ZZ,Yb,Yg,Yh,Yj,Ys,Yu,Yv,Yw,Y0,Y1,Y2,Y4,Y6,Y7,Y8,Y9,YB,YN,YQ,YX,YY,Xa,Xe,Xf,Xh,Xo,Xq,Xt,Xu,Xw,Wm,Wn,Wp,Wv,Ww,Wy,Wz,W0,W3,W4,W5,W6,W7,W9,WA,WB,WE,WF,WH,WI,WJ,WK,WL,WM,WN,WO,WP,WQ,WR,WS,WV,WW,WX,Vb,Vc,Ve,Vf,Vg,Vi,Vj,Vk,Vm,VL,VM,VN,VO,VP,VQ,VU,VV,VW,VX,VY,Ua,Ub,Uc,Ud,Ue,Uf,Ui,Uk,Um,Un,Uo,Us,Uw,Ux,Uy,Uz,U0,U1,U2,U3,U4,U5,U6,U7,UE,UF,UG,UH,UQ,UR,US,UT,UY,UZ,Ta,Tc,Td,Tf,Tg,Th,Ti,Tj,Tk,Tl,Tm,Tq,Tr,Ts,Tt,Tv,Tw,Ty,T3,T4,T7,TA,TB,TC,TF,TH,TK,Sr,Sv,a1,a2,a5,cl,l1,l2,hx,wa,wb,wc,wd,we,m60,m2,m50,m30,d2,wd2,m3,s1,s2,s3,w44,g0,b1,b2,b3,b4,b5,h8]; all_goals tactic => exact rfl))
theorem r39_101_0p (hq : q.Ok) {x : P5} {i : Nat} (hi : i < 5) (hx : q.ls[i]? = some x) (ht : x.e / 2 % 3 = 0) (h8 : 128 < x.e) {L : List Ld} (hL : L.length = i) (a0 a2 : Int) (r0 r2 : List Int) (hr0 : r0.length ≤ 5) (hr2 : r2.length ≤ 5) :
    headX 0 [1,2,3,10,11] (execW progX 39 0 none (match x39l2 with | .loop _ a => a | c => c) (envL [1,2,3,10,11] [.pt 0 0,.pt 1 0,.pt 2 0,.pt 5 0,I (i : Nat)]) (hN q L i [.sl 6 0 1 (r0.length + 1),.nilsl,.sl 7 0 1 (r2.length + 1)] [some (.blk true (.cells true (I a0 :: r0.map I))),some (.blk true (.cells true (I a2 :: r2.map I)))])) =
      some ([.pt 0 0,.pt 1 0,.pt 2 0,.pt 5 0,I (i + 1 : Nat)],hN q (L ++ [x.ld]) (i + 1) [.sl 6 0 1 (r0.length + 1 + 1),.nilsl,.sl 7 0 1 (r2.length + 1)] [some (.blk true (.cells true (I (i : Nat) :: I a0 :: r0.map I))),some (.blk true (.cells true (I a2 :: r2.map I)))]) := by
  obtain ⟨wa,wb,wc,wd,we,m60,m2,m50,m30,d2,wd2,m3,s1,s2,s3⟩ := ldF (hq.ls x (List.mem_of_getElem? hx))
  have a1 := lt_ix (lt_of hx)
  have a2 := up_ix hi (by omega)
  have a5 : ((i : Int) < 5) = True := eq_true (by omega)
  have cl := cL_len L
  rw [hL] at cl
  have ca := cL_app L x.ld
  have l1 : ((i + 1) * 40 ≤ 1099511627776) = True := eq_true (by omega)
  have l2 : (i + 1 ≤ 1099511627776) = True := eq_true (by omega)
  rw [ht] at m3
  unfold hN
  rw [ca]
  unfold P5.ld Ld.row
  dsimp only
  clear ca
  generalize x.e % 2 = ee at *
  generalize 1 + x.c % 60 + x.d % 30 = cd at *
  generalize 1 + x.c % 60 = cc at *
  generalize x.a + x.b % 50 = ab at *
  generalize x.e / 2 = e2 at *
  generalize x.d % 30 = dd at *
  generalize x.c % 60 = c6 at *
  generalize x.b % 50 = bb at *
  generalize cL L = cL0 at *
  have g0 : ((0 : Int) < ((r0.length + 1 : Nat) : Int)) = True := eq_true (by omega)
  have b1 : ((r0.length + 1 + 1) * 8 ≤ 1099511627776) = True := eq_true (by omega)
  have b2 : (r0.length + 1 + 1 ≤ 1099511627776) = True := eq_true (by omega)
  have b3 : 1 + (r0.length + 1) = r0.length + 1 + 1 := by omega
  have b4 : r0.length + 1 - 1 = r0.length := rfl
  have b5 : List.take r0.length (r0.map I) = r0.map I := List.take_of_length_le (by simp)
  have h8 : ((128 : Int) < (x.e : Int)) = True := eq_true (by omega)
  unfold x39l2
  dsimp only
  (sym => (simp [irem2,iquo2,remF,Za,Zb,Zc,Zd,Ze,Zf,Zh,Zi,Zl,Zm,Zn,Zo,Zp,Zu,Zv,Zx,Zz,Z0,Z2,Z5,Z6,Z7,Z8,ZE,ZG,ZH,ZJ,ZK,ZL,ZM,ZN,ZQ,ZR,ZS,ZT,ZU,ZV,ZY,ZZ,Yb,Yc,Yg,Yh,Yj,Ys,Yu,Yv,Yw,Y0,Y1,Y2,Y4,Y6,Y7,Y8,Y9,YB,YN,YQ,YX,YY,Xa,Xe,Xf,Xh,Xo,Xq,Xt,Xu,Xw,Wm,Wn,Wp,Wv,Ww,Wy,Wz,W0,W3,W4,W5,W6,W7,W9,WA,WB,WE,WF,WH,WI,WJ,WK,WL,WM,WN,WO,WP,WQ,WR,WS,WV,WW,WX,Vb,Vc,Ve,Vf,Vg,Vi,Vj,Vk,Vm,VL,VM,VN,VO,VP,VU,VV,VW,VX,VY,Ua,Ub,Uc,Ud,Ue,Uf,Ui,Uk,Um,Un,Uo,Us,Uw,Ux,Uy,Uz,U0,U1,U2,U3,U4,U5,U6,U7,UE,UF,UG,UH,UQ,UR,US,UT,UY,UZ,Ta,Tc,Td,Tf,Tg,Th,Ti,Tj,Tk,Tl,Tm,Tq,Tr,Ts,Tt,Tv,Tw,Ty,T3,T4,T7,TA,TB,TC,TF,TG,TH,TI,TK,TW,Sr,Sv,a1,a2,a5,cl,l1,l2,hx,wa,wb,wc,wd,we,m60,m2,m50,m30,d2,wd2,m3,s1,s2,s3,w44,g0,b1,b2,b3,b4,b5,h8]; all_goals tactic => exact rfl))
theorem r39_101_1 (hq : q.Ok) {x : P5} {i : Nat} (hi : i < 5) (hx : q.ls[i]? = some x) (ht : x.e / 2 % 3 = 1) {L : List Ld} (hL : L.length = i) (a0 a2 : Int) (r0 r2 : List Int) (hr0 : r0.length ≤ 5) (hr2 : r2.length ≤ 5) :
    headX 0 [1,2,3,10,11] (execW progX 39 0 none (match x39l2 with | .loop _ a => a | c => c) (envL [1,2,3,10,11] [.pt 0 0,.pt 1 0,.pt 2 0,.pt 5 0,I (i : Nat)]) (hN q L i [.sl 6 0 1 (r0.length + 1),.nilsl,.sl 7 0 1 (r2.length + 1)] [some (.blk true (.cells true (I a0 :: r0.map I))),some (.blk true (.cells true (I a2 :: r2.map I)))])) =
      some ([.pt 0 0,.pt 1 0,.pt 2 0,.pt 5 0,I (i + 1 : Nat)],hN q (L ++ [x.ld]) (i + 1) [.sl 6 0 1 (r0.length + 1),.sl 7 0 1 (1),.sl 8 0 1 (r2.length + 1)] [some (.blk true (.cells true (I a0 :: r0.map I))),some (.blk true (.cells true ([I (i : Nat)]))),some (.blk true (.cells true (I a2 :: r2.map I)))]) := by
  obtain ⟨wa,wb,wc,wd,we,m60,m2,m50,m30,d2,wd2,m3,s1,s2,s3⟩ := ldF (hq.ls x (List.mem_of_getElem? hx))
  have a1 := lt_ix (lt_of hx)
  have a2 := up_ix hi (by omega)
  have a5 : ((i : Int) < 5) = True := eq_true (by omega)
  have cl := cL_len L
  rw [hL] at cl
  have ca := cL_app L x.ld
  have l1 : ((i + 1) * 40 ≤ 1099511627776) = True := eq_true (by omega)
  have l2 : (i + 1 ≤ 1099511627776) = True := eq_true (by omega)
  rw [ht] at m3
  unfold hN
  rw [ca]
  unfold P5.ld Ld.row
  dsimp only
  clear ca
  generalize x.e % 2 = ee at *
  generalize 1 + x.c % 60 + x.d % 30 = cd at *
  generalize 1 + x.c % 60 = cc at *
  generalize x.a + x.b % 50 = ab at *
  generalize x.e / 2 = e2 at *
  generalize x.d % 30 = dd at *
  generalize x.c % 60 = c6 at *
  generalize x.b % 50 = bb at *
  generalize cL L = cL0 at *
  unfold x39l2
  dsimp only
  rcases ptf ((128 : Int) < (x.e : Int)) with h8 | h8
  · (sym => (simp [irem2,iquo2,remF,Za,Zb,Zc,Zd,Ze,Zf,Zh,Zi,Zl,Zm,Zn,Zo,Zp,Zr,Zu,Zv,Zx,Zz,Z0,Z2,Z5,Z6,Z7,Z8,ZE,ZG,ZH,ZJ,ZK,ZL,ZM,ZN,ZQ,ZR,ZS,ZT,ZU,ZV,ZW,ZY,ZZ,Yb,Ye,Yg,Yh,Yj,Ys,Yu,Yv,Yw,Y0,Y2,Y3,Y4,Y6,Y7,Y8,Y9,YB,YN,YQ,YX,YY,Xa,Xe,Xf,Xh,Xo,Xq,Xt,Xu,Xw,Wm,Wn,Wp,Wv,Ww,Wy,Wz,W0,W3,W4,W5,W6,W7,W9,WA,WB,WE,WF,WH,WI,WJ,WK,WL,WM,WN,WO,WP,WQ,WR,WS,WV,WW,WX,Vb,Vc,Ve,Vf,Vg,Vi,Vj,Vk,Vm,VL,VM,VN,VO,VP,VQ,VU,VV,VW,VX,VY,Ua,Ub,Uc,Ud,Ue,Uf,Ui,Uk,Um,Un,Uo,Us,Uw,Ux,Uy,Uz,U0,U1,U2,U3,U4,U5,U6,U7,UE,UF,UG,UH,UQ,UR,US,UT,UY,UZ,Ta,Tb,Tc,Td,Tf,Tg,Th,Ti,Tj,Tk,Tl,Tm,Tq,Tr,Ts,Tt,Tu,Tv,Tw,Ty,T3,T4,T7,TA,TB,TC,TH,TK,Sr,Sv,a1,a2,a5,cl,l1,l2,hx,wa,wb,wc,wd,we,m60,m2,m50,m30,d2,wd2,m3,s1,s2,s3,w44,h8]; all_goals tactic => exact rfl))
  · (sym => (simp [irem2,iquo2,remF,Za,Zb,Zc,Zd,Ze,Zf,Zh,Zi,Zl,Zm,Zn,Zo,Zp,Zr,Zu,Zv,Zx,Zz,Z0,Z2,Z5,Z6,Z7,Z8,ZE,ZG,ZH,ZJ,ZK,ZL,ZM,ZN,ZQ,ZR,ZS,ZT,ZU,ZV,ZW,ZY,ZZ,Yb,Ye,Yg,Yh,Yj,Ys,Yu,Yv,Yw,Y0,Y2,Y3,Y4,Y6,Y7,Y8,Y9,YB,YN,YQ,YX,YY,Xa,Xe,Xf,Xh,Xo,Xq,Xt,Xu,Xw,Wm,Wn,Wp,Wv,Ww,Wy,Wz,W0,W3,W4,W5,W6,W7,W9,WA,WB,WE,WF,WH,WI,WJ,WK,WL,WM,WN,WO,WP,WQ,WR,WS,WV,WW,WX,Vb,Vc,Ve,Vf,Vg,Vi,Vj,Vk,Vm,VL,VM,VN,VO,VP,VQ,VU,VV,VW,VX,VY,Ua,Ub,Uc,Ud,Ue,Uf,Ui,Uk,Um,Un,Uo,Us,Uw,Ux,Uy,Uz,U0,U1,U2,U3,U4,U5,U6,U7,UE,UF,UG,UH,UQ,UR,US,UT,UY,UZ,Ta,Tb,Tc,Td,Tf,Tg,Th,Ti,Tj,Tk,Tl,Tm,Tq,Tr,Ts,Tt,Tu,Tv,Tw,Ty,T3,T4,T7,TA,TB,TC,TH,TK,Sr,Sv,a1,a2,a5,cl,l1,l2,hx,wa,wb,wc,wd,we,m60,m2,m50,m30,d2,wd2,m3,s1,s2,s3,w44,h8]; all_goals tactic => exact rfl))
theorem r39_101_2 (hq : q.Ok) {x : P5} {i : Nat} (hi : i < 5) (hx : q.ls[i]? = some x) (ht : x.e / 2 % 3 = 2) (h8 : ¬ 128 < x.e) {L : List Ld} (hL : L.length = i) (a0 a2 : Int) (r0 r2 : List Int) (hr0 : r0.length ≤ 5) (hr2 : r2.length ≤ 5) :
    headX 0 [1,2,3,10,11] (execW progX 39 0 none (match x39l2 with | .loop _ a => a | c => c) (envL [1,2,3,10,11] [.pt 0 0,.pt 1 0,.pt 2 0,.pt 5 0,I (i : Nat)]) (hN q L i [.sl 6 0 1 (r0.length + 1),.nilsl,.sl 7 0 1 (r2.length + 1)] [some (.blk true (.cells true (I a0 :: r0.map I))),some (.blk true (.cells true (I a2 :: r2.map I)))])) =
      some ([.pt 0 0,.pt 1 0,.pt 2 0,.pt 5 0,I (i + 1 : Nat)],hN q (L ++ [x.ld]) (i + 1) [.sl 6 0 1 (r0.length + 1),.nilsl,.sl 7 0 1 (r2.length + 1 + 1)] [some (.blk true (.cells true (I a0 :: r0.map I))),some (.blk true (.cells true (I a2 :: (r2.map I ++ [I (i : Nat)]))))]) := by
  obtain ⟨wa,wb,wc,wd,we,m60,m2,m50,m30,d2,wd2,m3,s1,s2,s3⟩ := ldF (hq.ls x (List.mem_of_getElem? hx))
  have a1 := lt_ix (lt_of hx)
  have a2 := up_ix hi (by omega)
  have a5 : ((i : Int) < 5) = True := eq_true (by omega)
  have cl := cL_len L
  rw [hL] at cl
  have ca := cL_app L x.ld
  have l1 : ((i + 1) * 40 ≤ 1099511627776) = True := eq_true (by omega)
  have l2 : (i + 1 ≤ 1099511627776) = True := eq_true (by omega)
  rw [ht] at m3
  unfold hN
  rw [ca]
  unfold P5.ld Ld.row
  dsimp only
  clear ca
  generalize x.e % 2 = ee at *
  generalize 1 + x.c % 60 + x.d % 30 = cd at *
  generalize 1 + x.c % 60 = cc at *
  generalize x.a + x.b % 50 = ab at *
  generalize x.e / 2 = e2 at *
  generalize x.d % 30 = dd at *
  generalize x.c % 60 = c6 at *
  generalize x.b % 50 = bb at *
  generalize cL L = cL0 at *
  have g0 : ((0 : Int) < ((r2.length + 1 : Nat) : Int)) = True := eq_true (by omega)
  have b1 : ((r2.length + 1 + 1) * 8 ≤ 1099511627776) = True := eq_true (by omega)
  have b2 : (r2.length + 1 + 1 ≤ 1099511627776) = True := eq_true (by omega)
  have b3 : 1 + (r2.length + 1) = r2.length + 1 + 1 := by omega
  have b4 : r2.length + 1 - 1 = r2.length := rfl
  have b5 : List.take r2.length (r2.map I) = r2.map I := List.take_of_length_le (by simp)
  have h8 : ((128 : Int) < (x.e : Int)) = False := eq_false (by omega)
  unfold x39l2
  dsimp only
  (sym => (simp [irem2,iquo2,remF,Za,Zb,Zc,Zd,Ze,Zf,Zh,Zi,Zl,Zm,Zn,Zo,Zp,Zr,Zu,Zv,Zx,Zz,Z0,Z2,Z5,Z6,Z7,Z8,ZE,ZG,ZH,ZJ,ZK,ZL,ZM,ZN,ZQ,ZR,ZS,ZT,ZU,ZV,ZW,ZY,ZZ,Yb,Yg,Yh,Yj,Ys,Yu,Yv,Yw,Y0,Y2,Y4,Y5,Y6,Y7,Y8,Y9,YB,YN,YQ,YX,YY,Xa,Xe,Xf,Xh,Xo,Xq,Xt,Xu,Xw,Wm,Wn,Wp,Wv,Ww,Wy,Wz,W0,W3,W4,W5,W6,W7,W9,WA,WB,WE,WF,WH,WI,WJ,WK,WL,WM,WN,WO,WP,WQ,WR,WS,WV,WW,WX,Vb,Vc,Ve,Vf,Vg,Vi,Vj,Vk,Vm,VL,VM,VN,VO,VP,VQ,VU,VV,VW,VX,VY,Ua,Ub,Uc,Ud,Ue,Uf,Ui,Uk,Um,Un,Uo,Us,Uw,Ux,Uy,Uz,U0,U1,U2,U3,U4,U5,U6,U7,UE,UF,UG,UH,UQ,UR,US,UT,UY,UZ,Ta,Tc,Td,Tf,Tg,Th,Ti,Tj,Tk,Tl,Tm,Tq,Tr,Ts,Tt,Tv,Tw,Ty,T3,T4,T7,TA,TB,TC,TF,TH,TK,Sr,Sv,a1,a2,a5,cl,l1,l2,hx,wa,wb,wc,wd,we,m60,m2,m50,m30,d2,wd2,m3,s1,s2,s3,w44,g0,b1,b2,b3,b4,b5,h8]; all_goals tactic => exact rfl))
theorem r39_101_2p (hq : q.Ok) {x : P5} {i : Nat} (hi : i < 5) (hx : q.ls[i]? = some x) (ht : x.e / 2 % 3 = 2) (h8 : 128 < x.e) {L : List Ld} (hL : L.length = i) (a0 a2 : Int) (r0 r2 : List Int) (hr0 : r0.length ≤ 5) (hr2 : r2.length ≤ 5) :
    headX 0 [1,2,3,10,11] (execW progX 39 0 none (match x39l2 with | .loop _ a => a | c => c) (envL [1,2,3,10,11] [.pt 0 0,.pt 1 0,.pt 2 0,.pt 5 0,I (i : Nat)]) (hN q L i [.sl 6 0 1 (r0.length + 1),.nilsl,.sl 7 0 1 (r2.length + 1)] [some (.blk true (.cells true (I a0 :: r0.map I))),some (.blk true (.cells true (I a2 :: r2.map I)))])) =
      some ([.pt 0 0,.pt 1 0,.pt 2 0,.pt 5 0,I (i + 1 : Nat)],hN q (L ++ [x.ld]) (i + 1) [.sl 6 0 1 (r0.length + 1),.nilsl,.sl 7 0 1 (r2.length + 1 + 1)] [some (.blk true (.cells true (I a0 :: r0.map I))),some (.blk true (.cells true (I (i : Nat) :: I a2 :: r2.map I)))]) := by
  obtain ⟨wa,wb,wc,wd,we,m60,m2,m50,m30,d2,wd2,m3,s1,s2,s3⟩ := ldF (hq.ls x (List.mem_of_getElem? hx))
  have a1 := lt_ix (lt_of hx)
  have a2 := up_ix hi (by omega)
  have a5 : ((i : Int) < 5) = True := eq_true (by omega)
  have cl := cL_len L
  rw [hL] at cl
  have ca := cL_app L x.ld
  have l1 : ((i + 1) * 40 ≤ 1099511627776) = True := eq_true (by omega)
  have l2 : (i + 1 ≤ 1099511627776) = True := eq_true (by omega)
  rw [ht] at m3
  unfold hN
  rw [ca]
  unfold P5.ld Ld.row
  dsimp only
  clear ca
  generalize x.e % 2 = ee at *
  generalize 1 + x.c % 60 + x.d % 30 = cd at *
  generalize 1 + x.c % 60 = cc at *
  generalize x.a + x.b % 50 = ab at *
  generalize x.e / 2 = e2 at *
  generalize x.d % 30 = dd at *
  generalize x.c % 60 = c6 at *
  generalize x.b % 50 = bb at *
  generalize cL L = cL0 at *
  have g0 : ((0 : Int) < ((r2.length + 1 : Nat) : Int)) = True := eq_true (by omega)
  have b1 : ((r2.length + 1 + 1) * 8 ≤ 1099511627776) = True := eq_true (by omega)
  have b2 : (r2.length + 1 + 1 ≤ 1099511627776) = True := eq_true (by omega)
  have b3 : 1 + (r2.length + 1) = r2.length + 1 + 1 := by omega
  have b4 : r2.length + 1 - 1 = r2.length := rfl
  have b5 : List.take r2.length (r2.map I) = r2.map I := List.take_of_length_le (by simp)
  have h8 : ((128 : Int) < (x.e : Int)) = True := eq_true (by omega)
  unfold x39l2
  dsimp only
  (sym => (simp [irem2,iquo2,remF,Za,Zb,Zc,Zd,Ze,Zf,Zh,Zi,Zl,Zm,Zn,Zo,Zp,Zu,Zv,Zx,Zz,Z0,Z2,Z5,Z6,Z7,Z8,ZE,ZG,ZH,ZJ,ZK,ZL,ZM,ZN,ZQ,ZR,ZS,ZT,ZU,ZV,ZY,ZZ,Yb,Yc,Yg,Yh,Yj,Ys,Yu,Yv,Yw,Y0,Y2,Y4,Y5,Y6,Y7,Y8,Y9,YB,YN,YQ,YX,YY,Xa,Xe,Xf,Xh,Xo,Xq,Xt,Xu,Xw,Wm,Wn,Wp,Wv,Ww,Wy,Wz,W0,W3,W4,W5,W6,W7,W9,WA,WB,WE,WF,WH,WI,WJ,WK,WL,WM,WN,WO,WP,WQ,WR,WS,WV,WW,WX,Vb,Vc,Ve,Vf,Vg,Vi,Vj,Vk,Vm,VL,VM,VN,VO,VP,VU,VV,VW,VX,VY,Ua,Ub,Uc,Ud,Ue,Uf,Ui,Uk,Um,Un,Uo,Us,Uw,Ux,Uy,Uz,U0,U1,U2,U3,U4,U5,U6,U7,UE,UF,UG,UH,UQ,UR,US,UT,UY,UZ,Ta,Tc,Td,Tf,Tg,Th,Ti,Tj,Tk,Tl,Tm,Tq,Tr,Ts,Tt,Tv,Tw,Ty,T3,T4,T7,TA,TB,TC,TF,TG,TH,TI,TK,TW,Sr,Sv,a1,a2,a5,cl,l1,l2,hx,wa,wb,wc,wd,we,m60,m2,m50,m30,d2,wd2,m3,s1,s2,s3,w44,g0,b1,b2,b3,b4,b5,h8]; all_goals tactic => exact rfl))
theorem r39_110_0 (hq : q.Ok) {x : P5} {i : Nat} (hi : i < 5) (hx : q.ls[i]? = some x) (ht : x.e / 2 % 3 = 0) (h8 : ¬ 128 < x.e) {L : List Ld} (hL : L.length = i) (a0 a1 : Int) (r0 r1 : List Int) (hr0 : r0.length ≤ 5) (hr1 : r1.length ≤ 5) :
    headX 0 [1,2,3,10,11] (execW progX 39 0 none (match x39l2 with | .loop _ a => a | c => c) (envL [1,2,3,10,11] [.pt 0 0,.pt 1 0,.pt 2 0,.pt 5 0,I (i : Nat)]) (hN q L i [.sl 6 0 1 (r0.length + 1),.sl 7 0 1 (r1.length + 1),.nilsl] [some (.blk true (.cells true (I a0 :: r0.map I))),some (.blk true (.cells true (I a1 :: r1.map I)))])) =
      some ([.pt 0 0,.pt 1 0,.pt 2 0,.pt 5 0,I (i + 1 : Nat)],hN q (L ++ [x.ld]) (i + 1) [.sl 6 0 1 (r0.length + 1 + 1),.sl 7 0 1 (r1.length + 1),.nilsl] [some (.blk true (.cells true (I a0 :: (r0.map I ++ [I (i : Nat)])))),some (.blk true (.cells true (I a1 :: r1.map I)))]) := by
  obtain ⟨wa,wb,wc,wd,we,m60,m2,m50,m30,d2,wd2,m3,s1,s2,s3⟩ := ldF (hq.ls x (List.mem_of_getElem? hx))
  have a1 := lt_ix (lt_of hx)
  have a2 := up_ix hi (by omega)
  have a5 : ((i : Int) < 5) = True := eq_true (by omega)
  have cl := cL_len L
  rw [hL] at cl
  have ca := cL_app L x.ld
  have l1 : ((i + 1) * 40 ≤ 1099511627776) = True := eq_true (by omega)
  have l2 : (i + 1 ≤ 1099511627776) = True := eq_true (by omega)
  rw [ht] at m3
  unfold hN
  rw [ca]
  unfold P5.ld Ld.row
  dsimp only
  clear ca
  generalize x.e % 2 = ee at *
  generalize 1 + x.c % 60 + x.d % 30 = cd at *
  generalize 1 + x.c % 60 = cc at *
  generalize x.a + x.b % 50 = ab at *
  generalize x.e / 2 = e2 at *
  generalize x.d % 30 = dd at *
  generalize x.c % 60 = c6 at *
  generalize x.b % 50 = bb at *
  generalize cL L = cL0 at *
  have g0 : ((0 : Int) < ((r0.length + 1 : Nat) : Int)) = True := eq_true (by omega)
  have b1 : ((r0.length + 1 + 1) * 8 ≤ 1099511627776) = True := eq_true (by omega)
  have b2 : (r0.length + 1 + 1 ≤ 1099511627776) = True := eq_true (by omega)
  have b3 : 1 + (r0.length + 1) = r0.length + 1 + 1 := by omega
  have b4 : r0.length + 1 - 1 = r0.length := rfl
  have b5 : List.take r0.length (r0.map I) = r0.map I := List.take_of_length_le (by simp)
  have h8 : ((128 : Int) < (x.e : Int)) = False := eq_false (by omega)
  unfold x39l2
  dsimp only
  (sym => (simp [irem2,iquo2,remF,Za,Zb,Zc,Zd,Ze,Zf,Zh,Zi,Zl,Zm,Zn,Zo,Zp,Zr,Zu,Zv,Zx,Zz,Z0,Z2,Z5,Z6,Z7,Z8,ZE,ZG,ZH,ZJ,ZK,ZL,ZM,ZN,ZQ,ZR,ZS,ZT,ZU,ZV,ZW,ZY,ZZ,Yb,Yg,Yh,Yj,Ys,Yu,Yv,Yw,Y0,Y1,Y2,Y4,Y6,Y7,Y8,Y9,YB,YN,YQ,YX,YY,Xa,Xe,Xf,Xh,Xo,Xq,Xt,Xu,Xw,Wm,Wn,Wp,Wv,Ww,Wy,Wz,W0,W3,W4,W5,W6,W7,W9,WA,WB,WE,WF,WH,WI,WJ,WK,WL,WM,WN,WO,WP,WQ,WR,WS,WV,WW,WX,Vb,Vc,Ve,Vf,Vg,Vi,Vj,Vk,Vm,VL,VM,VN,VO,VP,VQ,VU,VV,VW,VX,VY,Ua,Ub,Uc,Ud,Ue,Uf,Ui,Uk,Um,Un,Uo,Us,Uw,Ux,Uy,Uz,U0,U1,U2,U3,U4,U5,U6,U7,UE,UF,UG,UH,UQ,UR,US,UT,UY,UZ,Ta,Tc,Td,Tf,Tg,Th,Ti,Tj,Tk,Tl,Tm,Tq,Tr,Ts,Tt,Tv,Tw,Ty,T3,T4,T7,TA,TB,TC,TF,TH,TK,Sr,Sv,a1,a2,a5,cl,l1,l2,hx,wa,wb,wc,wd,we,m60,m2,m50,m30,d2,wd2,m3,s1,s2,s3,w44,g0,b1,b2,b3,b4,b5,h8]; all_goals tactic => exact rfl))
theorem r39_110_0p (hq : q.Ok) {x : P5} {i : Nat} (hi : i < 5) (hx : q.ls[i]? = some x) (ht : x.e / 2 % 3 = 0) (h8 : 128 < x.e) {L : List Ld} (hL : L.length = i) (a0 a1 : Int) (r0 r1 : List Int) (hr0 : r0.length ≤ 5) (hr1 : r1.length ≤ 5) :
    headX 0 [1,2,3,10,11] (execW progX 39 0 none (match x39l2 with | .loop _ a => a | c => c) (envL [1,2,3,10,11] [.pt 0 0,.pt 1 0,.pt 2 0,.pt 5 0,I (i : Nat)]) (hN q L i [.sl 6 0 1 (r0.length + 1),.sl 7 0 1 (r1.length + 1),.nilsl] [some (.blk true (.cells true (I a0 :: r0.map I))),some (.blk true (.cells true (I a1 :: r1.map I)))])) =
      some ([.pt 0 0,.pt 1 0,.pt 2 0,.pt 5 0,I (i + 1 : Nat)],hN q (L ++ [x.ld]) (i + 1) [.sl 6 0 1 (r0.length + 1 + 1),.sl 7 0 1 (r1.length + 1),.nilsl] [some (.blk true (.cells true (I (i : Nat) :: I a0 :: r0.map I))),some (.blk true (.cells true (I a1 :: r1.map I)))]) := by
  obtain ⟨wa,wb,wc,wd,we,m60,m2,m50,m30,d2,wd2,m3,s1,s2,s3⟩ := ldF (hq.ls x (List.mem_of_getElem? hx))
  have a1 := lt_ix (lt_of hx)
  have a2 := up_ix hi (by omega)
  have a5 : ((i : Int) < 5) = True := eq_true (by omega)
  have cl := cL_len L
  rw [hL] at cl
  have ca := cL_app L x.ld
  have l1 : ((i + 1) * 40 ≤ 1099511627776) = True := eq_true (by omega)
  have l2 : (i + 1 ≤ 1099511627776) = True := eq_true (by omega)
  rw [ht] at m3
  unfold hN
  rw [ca]
  unfold P5.ld Ld.row
  dsimp only
  clear ca
  generalize x.e % 2 = ee at *
  generalize 1 + x.c % 60 + x.d % 30 = cd at *
  generalize 1 + x.c % 60 = cc at *
  generalize x.a + x.b % 50 = ab at *
  generalize x.e / 2 = e2 at *
  generalize x.d % 30 = dd at *
  generalize x.c % 60 = c6 at *
  generalize x.b % 50 = bb at *
  generalize cL L = cL0 at *
  have g0 : ((0 : Int) < ((r0.length + 1 : Nat) : Int)) = True := eq_true (by omega)
  have b1 : ((r0.length + 1 + 1) * 8 ≤ 1099511627776) = True := eq_true (by omega)
  have b2 : (r0.length + 1 + 1 ≤ 1099511627776) = True := eq_true (by omega)
  have b3 : 1 + (r0.length + 1) = r0.length + 1 + 1 := by omega
  have b4 : r0.length + 1 - 1 = r0.length := rfl
  have b5 : List.take r0.length (r0.map I) = r0.map I := List.take_of_length_le (by simp)
  have h8 : ((128 : Int) < (x.e : Int)) = True := eq_true (by omega)
  unfold x39l2
  dsimp only
  (sym => (simp [irem2,iquo2,remF,Za,Zb,Zc,Zd,Ze,Zf,Zh,Zi,Zl,Zm,Zn,Zo,Zp,Zu,Zv,Zx,Zz,Z0,Z2,Z5,Z6,Z7,Z8,ZE,ZG,ZH,ZJ,ZK,ZL,ZM,ZN,ZQ,ZR,ZS,ZT,ZU,ZV,ZY,ZZ,Yb,Yc,Yg,Yh,Yj,Ys,Yu,Yv,Yw,Y0,Y1,Y2,Y4,Y6,Y7,Y8,Y9,YB,YN,YQ,YX,YY,Xa,Xe,Xf,Xh,Xo,Xq,Xt,Xu,Xw,Wm,Wn,Wp,Wv,Ww,Wy,Wz,W0,W3,W4,W5,W6,W7,W9,WA,WB,WE,WF,WH,WI,WJ,WK,WL,WM,WN,WO,WP,WQ,WR,WS,WV,WW,WX,Vb,Vc,Ve,Vf,Vg,Vi,Vj,Vk,Vm,VL,VM,VN,VO,VP,VU,VV,VW,VX,VY,Ua,Ub,Uc,Ud,Ue,Uf,Ui,Uk,Um,Un,Uo,Us,Uw,Ux,Uy,Uz,U0,U1,U2,U3,U4,U5,U6,U7,UE,UF,UG,UH,UQ,UR,US,UT,UY,UZ,Ta,Tc,Td,Tf,Tg,Th,Ti,Tj,Tk,Tl,Tm,Tq,Tr,Ts,Tt,Tv,Tw,Ty,T3,T4,T7,TA,TB,TC,TF,TG,TH,TI,TK,TW,Sr,Sv,a1,a2,a5,cl,l1,l2,hx,wa,wb,wc,wd,we,m60,m2,m50,m30,d2,wd2,m3,s1,s2,s3,w44,g0,b1,b2,b3,b4,b5,h8]; all_goals tactic => exact rfl))
theorem r39_110_1 (hq : q.Ok) {x : P5} {i : Nat} (hi : i < 5) (hx : q.ls[i]? = some x) (ht : x.e / 2 % 3 = 1) (h8 : ¬ 128 < x.e) {L : List Ld} (hL : L.length = i) (a0 a1 : Int) (r0 r1 : List Int) (hr0 : r0.length ≤ 5) (hr1 : r1.length ≤ 5) :
    headX 0 [1,2,3,10,11] (execW progX 39 0 none (match x39l2 with | .loop _ a => a | c => c) (envL [1,2,3,10,11] [.pt 0 0,.pt 1 0,.pt 2 0,.pt 5 0,I (i : Nat)]) (hN q L i [.sl 6 0 1 (r0.length + 1),.sl 7 0 1 (r1.length + 1),.nilsl] [some (.blk true (.cells true (I a0 :: r0.map I))),some (.blk true (.cells true (I a1 :: r1.map I)))])) =
      some ([.pt 0 0,.pt 1 0,.pt 2 0,.pt 5 0,I (i + 1 : Nat)],hN q (L ++ [x.ld]) (i + 1) [.sl 6 0 1 (r0.length + 1),.sl 7 0 1 (r1.length + 1 + 1),.nilsl] [some (.blk true (.cells true (I a0 :: r0.map I))),some (.blk true (.cells true (I a1 :: (r1.map I ++ [I (i : Nat)]))))]) := by
  obtain ⟨wa,wb,wc,wd,we,m60,m2,m50,m30,d2,wd2,m3,s1,s2,s3⟩ := ldF (hq.ls x (List.mem_of_getElem? hx))
  have a1 := lt_ix (lt_of hx)
  have a2 := up_ix hi (by omega)
  have a5 : ((i : Int) < 5) = True := eq_true (by omega)
  have cl := cL_len L
  rw [hL] at cl
  have ca := cL_app L x.ld
  have l1 : ((i + 1) * 40 ≤ 1099511627776) = True := eq_true (by omega)
  have l2 : (i + 1 ≤ 1099511627776) = True := eq_true (by omega)
  rw [ht] at m3
  unfold hN
  rw [ca]
  unfold P5.ld Ld.row
  dsimp only
  clear ca
  generalize x.e % 2 = ee at *
  generalize 1 + x.c % 60 + x.d % 30 = cd at *
  generalize 1 + x.c % 60 = cc at *
  generalize x.a + x.b % 50 = ab at *
  generalize x.e / 2 = e2 at *
  generalize x.d % 30 = dd at *
  generalize x.c % 60 = c6 at *
  generalize x.b % 50 = bb at *
  generalize cL L = cL0 at *
  have g0 : ((0 : Int) < ((r1.length + 1 : Nat) : Int)) = True := eq_true (by omega)
  have b1 : ((r1.length + 1 + 1) * 8 ≤ 1099511627776) = True := eq_true (by omega)
  have b2 : (r1.length + 1 + 1 ≤ 1099511627776) = True := eq_true (by omega)
  have b3 : 1 + (r1.length + 1) = r1.length + 1 + 1 := by omega
  have b4 : r1.length + 1 - 1 = r1.length := rfl
  have b5 : List.take r1.length (r1.map I) = r1.map I := List.take_of_length_le (by simp)
  have h8 : ((128 : Int) < (x.e : Int)) = False := eq_false (by omega)
  unfold x39l2
  dsimp only
  (sym => (simp [irem2,iquo2,remF,Za,Zb,Zc,Zd,Ze,Zf,Zh,Zi,Zl,Zm,Zn,Zo,Zp,Zr,Zu,Zv,Zx,Zz,Z0,Z2,Z5,Z6,Z7,Z8,ZE,ZG,ZH,ZJ,ZK,ZL,ZM,ZN,ZQ,ZR,ZS,ZT,ZU,ZV,ZW,ZY,ZZ,Yb,Yg,Yh,Yj,Ys,Yu,Yv,Yw,Y0,Y2,Y3,Y4,Y6,Y7,Y8,Y9,YB,YN,YQ,YX,YY,Xa,Xe,Xf,Xh,Xo,Xq,Xt,Xu,Xw,Wm,Wn,Wp,Wv,Ww,Wy,Wz,W0,W3,W4,W5,W6,W7,W9,WA,WB,WE,WF,WH,WI,WJ,WK,WL,WM,WN,WO,WP,WQ,WR,WS,WV,WW,WX,Vb,Vc,Ve,Vf,Vg,Vi,Vj,Vk,Vm,VL,VM,VN,VO,VP,VQ,VU,VV,VW,VX,VY,Ua,Ub,Uc,Ud,Ue,Uf,Ui,Uk,Um,Un,Uo,Us,Uw,Ux,Uy,Uz,U0,U1,U2,U3,U4,U5,U6,U7,UE,UF,UG,UH,UQ,UR,US,UT,UY,UZ,Ta,Tc,Td,Tf,Tg,Th,Ti,Tj,Tk,Tl,Tm,Tq,Tr,Ts,Tt,Tv,Tw,Ty,T3,T4,T7,TA,TB,TC,TF,TH,TK,Sr,Sv,a1,a2,a5,cl,l1,l2,hx,wa,wb,wc,wd,we,m60,m2,m50,m30,d2,wd2,m3,s1,s2,s3,w44,g0,b1,b2,b3,b4,b5,h8]; all_goals tactic => exact rfl))
theorem r39_110_1p (hq : q.Ok) {x : P5} {i : Nat} (hi : i < 5) (hx : q.ls[i]? = some x) (ht : x.e / 2 % 3 = 1) (h8 : 128 < x.e) {L : List Ld} (hL : L.length = i) (a0 a1 : Int) (r0 r1 : List Int) (hr0 : r0.length ≤ 5) (hr1 : r1.length ≤ 5) :
    headX 0 [1,2,3,10,11] (execW progX 39 0 none (match x39l2 with | .loop _ a => a | c => c) (envL [1,2,3,10,11] [.pt 0 0,.pt 1 0,.pt 2 0,.pt 5 0,I (i : Nat)]) (hN q L i [.sl 6 0 1 (r0.length + 1),.sl 7 0 1 (r1.length + 1),.nilsl] [some (.blk true (.cells true (I a0 :: r0.map I))),some (.blk true (.cells true (I a1 :: r1.map I)))])) =
      some ([.pt 0 0,.pt 1 0,.pt 2 0,.pt 5 0,I (i + 1 : Nat)],hN q (L ++ [x.ld]) (i + 1) [.sl 6 0 1 (r0.length + 1),.sl 7 0 1 (r1.length + 1 + 1),.nilsl] [some (.blk true (.cells true (I a0 :: r0.map I))),some (.blk true (.cells true (I (i : Nat) :: I a1 :: r1.map I)))]) := by
  obtain ⟨wa,wb,wc,wd,we,m60,m2,m50,m30,d2,wd2,m3,s1,s2,s3⟩ := ldF (hq.ls x (List.mem_of_getElem? hx))
  have a1 := lt_ix (lt_of hx)
  have a2 := up_ix hi (by omega)
  have a5 : ((i : Int) < 5) = True := eq_true (by omega)
  have cl := cL_len L
  rw [hL] at cl
  have ca := cL_app L x.ld
  have l1 : ((i + 1) * 40 ≤ 1099511627776) = True := eq_true (by omega)
  have l2 : (i + 1 ≤ 1099511627776) = True := eq_true (by omega)
  rw [ht] at m3
  unfold hN
  rw [ca]
  unfold P5.ld Ld.row
  dsimp only
  clear ca
  generalize x.e % 2 = ee at *
  generalize 1 + x.c % 60 + x.d % 30 = cd at *
  generalize 1 + x.c % 60 = cc at *
  generalize x.a + x.b % 50 = ab at *
  generalize x.e / 2 = e2 at *
  generalize x.d % 30 = dd at *
  generalize x.c % 60 = c6 at *
  generalize x.b % 50 = bb at *
  generalize cL L = cL0 at *
  have g0 : ((0 : Int) < ((r1.length + 1 : Nat) : Int)) = True := eq_true (by omega)
  have b1 : ((r1.length + 1 + 1) * 8 ≤ 1099511627776) = True := eq_true (by omega)
  have b2 : (r1.length + 1 + 1 ≤ 1099511627776) = True := eq_true (by omega)
  have b3 : 1 + (r1.length + 1) = r1.length + 1 + 1 := by omega
  have b4 : r1.length + 1 - 1 = r1.length := rfl
  have b5 : List.take r1.length (r1.map I) = r1.map I := List.take_of_length_le (by simp)
  have h8 : ((128 : Int) < (x.e : Int)) = True := eq_true (by omega)
  unfold x39l2
  dsimp only
  (sym => (simp [irem2,iquo2,remF,Za,Zb,Zc,Zd,Ze,Zf,Zh,Zi,Zl,Zm,Zn,Zo,Zp,Zu,Zv,Zx,Zz,Z0,Z2,Z5,Z6,Z7,Z8,ZE,ZG,ZH,ZJ,ZK,ZL,ZM,ZN,ZQ,ZR,ZS,ZT,ZU,ZV,ZY,ZZ,Yb,Yc,Yg,Yh,Yj,Ys,Yu,Yv,Yw,Y0,Y2,Y3,Y4,Y6,Y7,Y8,Y9,YB,YN,YQ,YX,YY,Xa,Xe,Xf,Xh,Xo,Xq,Xt,Xu,Xw,Wm,Wn,Wp,Wv,Ww,Wy,Wz,W0,W3,W4,W5,W6,W7,W9,WA,WB,WE,WF,WH,WI,WJ,WK,WL,WM,WN,WO,WP,WQ,WR,WS,WV,WW,WX,Vb,Vc,Ve,Vf,Vg,Vi,Vj,Vk,Vm,VL,VM,VN,VO,VP,VU,VV,VW,VX,VY,Ua,Ub,Uc,Ud,Ue,Uf,Ui,Uk,Um,Un,Uo,Us,Uw,Ux,Uy,Uz,U0,U1,U2,U3,U4,U5,U6,U7,UE,UF,UG,UH,UQ,UR,US,UT,UY,UZ,Ta,Tc,Td,Tf,Tg,Th,Ti,Tj,Tk,Tl,Tm,Tq,Tr,Ts,Tt,Tv,Tw,Ty,T3,T4,T7,TA,TB,TC,TF,TG,TH,TI,TK,TW,Sr,Sv,a1,a2,a5,cl,l1,l2,hx,wa,wb,wc,wd,we,m60,m2,m50,m30,d2,wd2,m3,s1,s2,s3,w44,g0,b1,b2,b3,b4,b5,h8]; all_goals tactic => exact rfl))
theorem r39_110_2 (hq : q.Ok) {x : P5} {i : Nat} (hi : i < 5) (hx : q.ls[i]? = some x) (ht : x.e / 2 % 3 = 2) {L : List Ld} (hL : L.length = i) (a0 a1 : Int) (r0 r1 : List Int) (hr0 : r0.length ≤ 5) (hr1 : r1.length ≤ 5) :
    headX 0 [1,2,3,10,11] (execW progX 39 0 none (match x39l2 with | .loop _ a => a | c => c) (envL [1,2,3,10,11] [.pt 0 0,.pt 1 0,.pt 2 0,.pt 5 0,I (i : Nat)]) (hN q L i [.sl 6 0 1 (r0.length + 1),.sl 7 0 1 (r1.length + 1),.nilsl] [some (.blk true (.cells true (I a0 :: r0.map I))),some (.blk true (.cells true (I a1 :: r1.map I)))])) =
      some ([.pt 0 0,.pt 1 0,.pt 2 0,.pt 5 0,I (i + 1 : Nat)],hN q (L ++ [x.ld]) (i + 1) [.sl 6 0 1 (r0.length + 1),.sl 7 0 1 (r1.length + 1),.sl 8 0 1 (1)] [some (.blk true (.cells true (I a0 :: r0.map I))),some (.blk true (.cells true (I a1 :: r1.map I))),some (.blk true (.cells true ([I (i : Nat)])))]) := by
  obtain ⟨wa,wb,wc,wd,we,m60,m2,m50,m30,d2,wd2,m3,s1,s2,s3⟩ := ldF (hq.ls x (List.mem_of_getElem? hx))
  have a1 := lt_ix (lt_of hx)
  have a2 := up_ix hi (by omega)
  have a5 : ((i : Int) < 5) = True := eq_true (by omega)
  have cl := cL_len L
  rw [hL] at cl
  have ca := cL_app L x.ld
  have l1 : ((i + 1) * 40 ≤ 1099511627776) = True := eq_true (by omega)
  have l2 : (i + 1 ≤ 1099511627776) = True := eq_true (by omega)
  rw [ht] at m3
  unfold hN
  rw [ca]
  unfold P5.ld Ld.row
  dsimp only
  clear ca
  generalize x.e % 2 = ee at *
  generalize 1 + x.c % 60 + x.d % 30 = cd at *
  generalize 1 + x.c % 60 = cc at *
  generalize x.a + x.b % 50 = ab at *
  generalize x.e / 2 = e2 at *
  generalize x.d % 30 = dd at *
  generalize x.c % 60 = c6 at *
  generalize x.b % 50 = bb at *
  generalize cL L = cL0 at *
  unfold x39l2
  dsimp only
  rcases ptf ((128 : Int) < (x.e : Int)) with h8 | h8
  · (sym => (simp [irem2,iquo2,remF,Za,Zb,Zc,Zd,Ze,Zf,Zh,Zi,Zl,Zm,Zn,Zo,Zp,Zr,Zu,Zv,Zx,Zz,Z0,Z2,Z5,Z6,Z7,Z8,ZE,ZG,ZH,ZJ,ZK,ZL,ZM,ZN,ZQ,ZR,ZS,ZT,ZU,ZV,ZW,ZY,ZZ,Yb,Ye,Yg,Yh,Yj,Ys,Yu,Yv,Yw,Y0,Y2,Y4,Y5,Y6,Y7,Y8,Y9,YB,YN,YQ,YX,YY,Xa,Xe,Xf,Xh,Xo,Xq,Xt,Xu,Xw,Wm,Wn,Wp,Wv,Ww,Wy,Wz,W0,W3,W4,W5,W6,W7,W9,WA,WB,WE,WF,WH,WI,WJ,WK,WL,WM,WN,WO,WP,WQ,WR,WS,WV,WW,WX,Vb,Vc,Ve,Vf,Vg,Vi,Vj,Vk,Vm,VL,VM,VN,VO,VP,VQ,VU,VV,VW,VX,VY,Ua,Ub,Uc,Ud,Ue,Uf,Ui,Uk,Um,Un,Uo,Us,Uw,Ux,Uy,Uz,U0,U1,U2,U3,U4,U5,U6,U7,UE,UF,UG,UH,UQ,UR,US,UT,UY,UZ,Ta,Tb,Tc,Td,Tf,Tg,Th,Ti,Tj,Tk,Tl,Tm,Tq,Tr,Ts,Tt,Tu,Tv,Tw,Ty,T3,T4,T7,TA,TB,TC,TH,TK,Sr,Sv,a1,a2,a5,cl,l1,l2,hx,wa,wb,wc,wd,we,m60,m2,m50,m30,d2,wd2,m3,s1,s2,s3,w44,h8]; all_goals tactic => exact rfl))
  · (sym => (simp [irem2,iquo2,remF,Za,Zb,Zc,Zd,Ze,Zf,Zh,Zi,Zl,Zm,Zn,Zo,Zp,Zr,Zu,Zv,Zx,Zz,Z0,Z2,Z5,Z6,Z7,Z8,ZE,ZG,ZH,ZJ,ZK,ZL,ZM,ZN,ZQ,ZR,ZS,ZT,ZU,ZV,ZW,ZY,ZZ,Yb,Ye,Yg,Yh,Yj,Ys,Yu,Yv,Yw,Y0,Y2,Y4,Y5,Y6,Y7,Y8,Y9,YB,YN,YQ,YX,YY,Xa,Xe,Xf,Xh,Xo,Xq,Xt,Xu,Xw,Wm,Wn,Wp,Wv,Ww,Wy,Wz,W0,W3,W4,W5,W6,W7,W9,WA,WB,WE,WF,WH,WI,WJ,WK,WL,WM,WN,WO,WP,WQ,WR,WS,WV,WW,WX,Vb,Vc,Ve,Vf,Vg,Vi,Vj,Vk,Vm,VL,VM,VN,VO,VP,VQ,VU,VV,VW,VX,VY,Ua,Ub,Uc,Ud,Ue,Uf,Ui,Uk,Um,Un,Uo,Us,Uw,Ux,Uy,Uz,U0,U1,U2,U3,U4,U5,U6,U7,UE,UF,UG,UH,UQ,UR,US,UT,UY,UZ,Ta,Tb,Tc,Td,Tf,Tg,Th,Ti,Tj,Tk,Tl,Tm,Tq,Tr,Ts,Tt,Tu,Tv,Tw,Ty,T3,T4,T7,TA,TB,TC,TH,TK,Sr,Sv,a1,a2,a5,cl,l1,l2,hx,wa,wb,wc,wd,we,m60,m2,m50,m30,d2,wd2,m3,s1,s2,s3,w44,h8]; all_goals tactic => exact rfl))
theorem r39_111_0 (hq : q.Ok) {x : P5} {i : Nat} (hi : i < 5) (hx : q.ls[i]? = some x) (ht : x.e / 2 % 3 = 0) (h8 : ¬ 128 < x.e) {L : List Ld} (hL : L.length = i) (a0 a1 a2 : Int) (r0 r1 r2 : List Int) (hr0 : r0.length ≤ 5) (hr1 : r1.length ≤ 5) (hr2 : r2.length ≤ 5) :
    headX 0 [1,2,3,10,11] (execW progX 39 0 none (match x39l2 with | .loop _ a => a | c => c) (envL [1,2,3,10,11] [.pt 0 0,.pt 1 0,.pt 2 0,.pt 5 0,I (i : Nat)]) (hN q L i [.sl 6 0 1 (r0.length + 1),.sl 7 0 1 (r1.length + 1),.sl 8 0 1 (r2.length + 1)] [some (.blk true (.cells true (I a0 :: r0.map I))),some (.blk true (.cells true (I a1 :: r1.map I))),some (.blk true (.cells true (I a2 :: r2.map I)))])) =
      some ([.pt 0 0,.pt 1 0,.pt 2 0,.pt 5 0,I (i + 1 : Nat)],hN q (L ++ [x.ld]) (i + 1) [.sl 6 0 1 (r0.length + 1 + 1),.sl 7 0 1 (r1.length + 1),.sl 8 0 1 (r2.length + 1)] [some (.blk true (.cells true (I a0 :: (r0.map I ++ [I (i : Nat)])))),some (.blk true (.cells true (I a1 :: r1.map I))),some (.blk true (.cells true (I a2 :: r2.map I)))]) := by
  obtain ⟨wa,wb,wc,wd,we,m60,m2,m50,m30,d2,wd2,m3,s1,s2,s3⟩ := ldF (hq.ls x (List.mem_of_getElem? hx))
  have a1 := lt_ix (lt_of hx)
  have a2 := up_ix hi (by omega)
  have a5 : ((i : Int) < 5) = True := eq_true (by omega)
  have cl := cL_len L
  rw [hL] at cl
  have ca := cL_app L x.ld
  have l1 : ((i + 1) * 40 ≤ 1099511627776) = True := eq_true (by omega)
  have l2 : (i + 1 ≤ 1099511627776) = True := eq_true (by omega)
  rw [ht] at m3
  unfold hN
  rw [ca]
  unfold P5.ld Ld.row
  dsimp only
  clear ca
  generalize x.e % 2 = ee at *
  generalize 1 + x.c % 60 + x.d % 30 = cd at *
  generalize 1 + x.c % 60 = cc at *
  generalize x.a + x.b % 50 = ab at *
  generalize x.e / 2 = e2 at *
  generalize x.d % 30 = dd at *
  generalize x.c % 60 = c6 at *
  generalize x.b % 50 = bb at *
  generalize cL L = cL0 at *
  have g0 : ((0 : Int) < ((r0.length + 1 : Nat) : Int)) = True := eq_true (by omega)
  have b1 : ((r0.length + 1 + 1) * 8 ≤ 1099511627776) = True := eq_true (by omega)
  have b2 : (r0.length + 1 + 1 ≤ 1099511627776) = True := eq_true (by omega)
  have b3 : 1 + (r0.length + 1) = r0.length + 1 + 1 := by omega
  have b4 : r0.length + 1 - 1 = r0.length := rfl
  have b5 : List.take r0.length (r0.map I) = r0.map I := List.take_of_length_le (by simp)
  have h8 : ((128 : Int) < (x.e : Int)) = False := eq_false (by omega)
  unfold x39l2
  dsimp only
  (sym => (simp [irem2,iquo2,remF,Za,Zb,Zc,Zd,Ze,Zf,Zh,Zi,Zl,Zm,Zn,Zo,Zp,Zr,Zu,Zv,Zx,Zz,Z0,Z2,Z5,Z6,Z7,Z8,ZE,ZG,ZH,ZJ,ZK,ZL,ZM,ZN,ZQ,ZR,ZS,ZT,ZU,ZV,ZW,ZY,ZZ,Yb,Yg,Yh,Yj,Ys,Yu,Yv,Yw,Y0,Y1,Y2,Y4,Y6,Y7,Y8,Y9,YB,YN,YQ,YX,YY,Xa,Xe,Xf,Xh,Xo,Xq,Xt,Xu,Xw,Wm,Wn,Wp,Wv,Ww,Wy,Wz,W0,W3,W4,W5,W6,W7,W9,WA,WB,WE,WF,WH,WI,WJ,WK,WL,WM,WN,WO,WP,WQ,WR,WS,WV,WW,WX,Vb,Vc,Ve,Vf,Vg,Vi,Vj,Vk,Vm,VL,VM,VN,VO,VP,VQ,VU,VV,VW,VX,VY,Ua,Ub,Uc,Ud,Ue,Uf,Ui,Uk,Um,Un,Uo,Us,Uw,Ux,Uy,Uz,U0,U1,U2,U3,U4,U5,U6,U7,UE,UF,UG,UH,UQ,UR,US,UT,UY,UZ,Ta,Tc,Td,Tf,Tg,Th,Ti,Tj,Tk,Tl,Tm,Tq,Tr,Ts,Tt,Tv,Tw,Ty,T3,T4,T7,TA,TB,TC,TF,TH,TK,Sr,Sv,a1,a2,a5,cl,l1,l2,hx,wa,wb,wc,wd,we,m60,m2,m50,m30,d2,wd2,m3,s1,s2,s3,w44,g0,b1,b2,b3,b4,b5,h8]; all_goals tactic => exact rfl))
theorem r39_111_0p (hq : q.Ok) {x : P5} {i : Nat} (hi : i < 5) (hx : q.ls[i]? = some x) (ht : x.e / 2 % 3 = 0) (h8 : 128 < x.e) {L : List Ld} (hL : L.length = i) (a0 a1 a2 : Int) (r0 r1 r2 : List Int) (hr0 : r0.length ≤ 5) (hr1 : r1.length ≤ 5) (hr2 : r2.length ≤ 5) :
    headX 0 [1,2,3,10,11] (execW progX 39 0 none (match x39l2 with | .loop _ a => a | c => c) (envL [1,2,3,10,11] [.pt 0 0,.pt 1 0,.pt 2 0,.pt 5 0,I (i : Nat)]) (hN q L i [.sl 6 0 1 (r0.length + 1),.sl 7 0 1 (r1.length + 1),.sl 8 0 1 (r2.length + 1)] [some (.blk true (.cells true (I a0 :: r0.map I))),some (.blk true (.cells true (I a1 :: r1.map I))),some (.blk true (.cells true (I a2 :: r2.map I)))])) =
      some ([.pt 0 0,.pt 1 0,.pt 2 0,.pt 5 0,I (i + 1 : Nat)],hN q (L ++ [x.ld]) (i + 1) [.sl 6 0 1 (r0.length + 1 + 1),.sl 7 0 1 (r1.length + 1),.sl 8 0 1 (r2.length + 1)] [some (.blk true (.cells true (I (i : Nat) :: I a0 :: r0.map I))),some (.blk true (.cells true (I a1 :: r1.map I))),some (.blk true (.cells true (I a2 :: r2.map I)))]) := by
  obtain ⟨wa,wb,wc,wd,we,m60,m2,m50,m30,d2,wd2,m3,s1,s2,s3⟩ := ldF (hq.ls x (List.mem_of_getElem? hx))
  have a1 := lt_ix (lt_of hx)
  have a2 := up_ix hi (by omega)
  have a5 : ((i : Int) < 5) = True := eq_true (by omega)
  have cl := cL_len L
  rw [hL] at cl
  have ca := cL_app L x.ld
  have l1 : ((i + 1) * 40 ≤ 1099511627776) = True := eq_true (by omega)
  have l2 : (i + 1 ≤ 1099511627776) = True := eq_true (by omega)
  rw [ht] at m3
  unfold hN
  rw [ca]
  unfold P5.ld Ld.row
  dsimp only
  clear ca
  generalize x.e % 2 = ee at *
  generalize 1 + x.c % 60 + x.d % 30 = cd at *
  generalize 1 + x.c % 60 = cc at *
  generalize x.a + x.b % 50 = ab at *
  generalize x.e / 2 = e2 at *
  generalize x.d % 30 = dd at *
  generalize x.c % 60 = c6 at *
  generalize x.b % 50 = bb at *
  generalize cL L = cL0 at *
  have g0 : ((0 : Int) < ((r0.length + 1 : Nat) : Int)) = True := eq_true (by omega)
  have b1 : ((r0.length + 1 + 1) * 8 ≤ 1099511627776) = True := eq_true (by omega)
  have b2 : (r0.length + 1 + 1 ≤ 1099511627776) = True := eq_true (by omega)
  have b3 : 1 + (r0.length + 1) = r0.length + 1 + 1 := by omega
  have b4 : r0.length + 1 - 1 = r0.length := rfl
  have b5 : List.take r0.length (r0.map I) = r0.map I := List.take_of_length_le (by simp)
  have h8 : ((128 : Int) < (x.e : Int)) = True := eq_true (by omega)
  unfold x39l2
  dsimp only
  (sym => (simp [irem2,iquo2,remF,Za,Zb,Zc,Zd,Ze,Zf,Zh,Zi,Zl,Zm,Zn,Zo,Zp,Zu,Zv,Zx,Zz,Z0,Z2,Z5,Z6,Z7,Z8,ZE,ZG,ZH,ZJ,ZK,ZL,ZM,ZN,ZQ,ZR,ZS,ZT,ZU,ZV,ZY,ZZ,Yb,Yc,Yg,Yh,Yj,Ys,Yu,Yv,Yw,Y0,Y1,Y2,Y4,Y6,Y7,Y8,Y9,YB,YN,YQ,YX,YY,Xa,Xe,Xf,Xh,Xo,Xq,Xt,Xu,Xw,Wm,Wn,Wp,Wv,Ww,Wy,Wz,W0,W3,W4,W5,W6,W7,W9,WA,WB,WE,WF,WH,WI,WJ,WK,WL,WM,WN,WO,WP,WQ,WR,WS,WV,WW,WX,Vb,Vc,Ve,Vf,Vg,Vi,Vj,Vk,Vm,VL,VM,VN,VO,VP,VU,VV,VW,VX,VY,Ua,Ub,Uc,Ud,Ue,Uf,Ui,Uk,Um,Un,Uo,Us,Uw,Ux,Uy,Uz,U0,U1,U2,U3,U4,U5,U6,U7,UE,UF,UG,UH,UQ,UR,US,UT,UY,UZ,Ta,Tc,Td,Tf,Tg,Th,Ti,Tj,Tk,Tl,Tm,Tq,Tr,Ts,Tt,Tv,Tw,Ty,T3,T4,T7,TA,TB,TC,TF,TG,TH,TI,TK,TW,Sr,Sv,a1,a2,a5,cl,l1,l2,hx,wa,wb,wc,wd,we,m60,m2,m50,m30,d2,wd2,m3,s1,s2,s3,w44,g0,b1,b2,b3,b4,b5,h8]; all_goals tactic => exact rfl))
theorem r39_111_1 (hq : q.Ok) {x : P5} {i : Nat} (hi : i < 5) (hx : q.ls[i]? = some x) (ht : x.e / 2 % 3 = 1) (h8 : ¬ 128 < x.e) {L : List Ld} (hL : L.length = i) (a0 a1 a2 : Int) (r0 r1 r2 : List Int) (hr0 : r0.length ≤ 5) (hr1 : r1.length ≤ 5) (hr2 : r2.length ≤ 5) :
    headX 0 [1,2,3,10,11] (execW progX 39 0 none (match x39l2 with | .loop _ a => a | c => c) (envL [1,2,3,10,11] [.pt 0 0,.pt 1 0,.pt 2 0,.pt 5 0,I (i : Nat)]) (hN q L i [.sl 6 0 1 (r0.length + 1),.sl 7 0 1 (r1.length + 1),.sl 8 0 1 (r2.length + 1)] [some (.blk true (.cells true (I a0 :: r0.map I))),some (.blk true (.cells true (I a1 :: r1.map I))),some (.blk true (.cells true (I a2 :: r2.map I)))])) =
      some ([.pt 0 0,.pt 1 0,.pt 2 0,.pt 5 0,I (i + 1 : Nat)],hN q (L ++ [x.ld]) (i + 1) [.sl 6 0 1 (r0.length + 1),.sl 7 0 1 (r1.length + 1 + 1),.sl 8 0 1 (r2.length + 1)] [some (.blk true (.cells true (I a0 :: r0.map I))),some (.blk true (.cells true (I a1 :: (r1.map I ++ [I (i : Nat)])))),some (.blk true (.cells true (I a2 :: r2.map I)))]) := by
  obtain ⟨wa,wb,wc,wd,we,m60,m2,m50,m30,d2,wd2,m3,s1,s2,s3⟩ := ldF (hq.ls x (List.mem_of_getElem? hx))
  have a1 := lt_ix (lt_of hx)
  have a2 := up_ix hi (by omega)
  have a5 : ((i : Int) < 5) = True := eq_true (by omega)
  have cl := cL_len L
  rw [hL] at cl
  have ca := cL_app L x.ld
  have l1 : ((i + 1) * 40 ≤ 1099511627776) = True := eq_true (by omega)
  have l2 : (i + 1 ≤ 1099511627776) = True := eq_true (by omega)
  rw [ht] at m3
  unfold hN
  rw [ca]
  unfold P5.ld Ld.row
  dsimp only
  clear ca
  generalize x.e % 2 = ee at *
  generalize 1 + x.c % 60 + x.d % 30 = cd at *
  generalize 1 + x.c % 60 = cc at *
  generalize x.a + x.b % 50 = ab at *
  generalize x.e / 2 = e2 at *
  generalize x.d % 30 = dd at *
  generalize x.c % 60 = c6 at *
  generalize x.b % 50 = bb at *
  generalize cL L = cL0 at *
  have g0 : ((0 : Int) < ((r1.length + 1 : Nat) : Int)) = True := eq_true (by omega)
  have b1 : ((r1.length + 1 + 1) * 8 ≤ 1099511627776) = True := eq_true (by omega)
  have b2 : (r1.length + 1 + 1 ≤ 1099511627776) = True := eq_true (by omega)
  have b3 : 1 + (r1.length + 1) = r1.length + 1 + 1 := by omega
  have b4 : r1.length + 1 - 1 = r1.length := rfl
  have b5 : List.take r1.length (r1.map I) = r1.map I := List.take_of_length_le (by simp)
  have h8 : ((128 : Int) < (x.e : Int)) = False := eq_false (by omega)
  unfold x39l2
  dsimp only
  (sym => (simp [irem2,iquo2,remF,Za,Zb,Zc,Zd,Ze,Zf,Zh,Zi,Zl,Zm,Zn,Zo,Zp,Zr,Zu,Zv,Zx,Zz,Z0,Z2,Z5,Z6,Z7,Z8,ZE,ZG,ZH,ZJ,ZK,ZL,ZM,ZN,ZQ,ZR,ZS,ZT,ZU,ZV,ZW,ZY,ZZ,Yb,Yg,Yh,Yj,Ys,Yu,Yv,Yw,Y0,Y2,Y3,Y4,Y6,Y7,Y8,Y9,YB,YN,YQ,YX,YY,Xa,Xe,Xf,Xh,Xo,Xq,Xt,Xu,Xw,Wm,Wn,Wp,Wv,Ww,Wy,Wz,W0,W3,W4,W5,W6,W7,W9,WA,WB,WE,WF,WH,WI,WJ,WK,WL,WM,WN,WO,WP,WQ,WR,WS,WV,WW,WX,Vb,Vc,Ve,Vf,Vg,Vi,Vj,Vk,Vm,VL,VM,VN,VO,VP,VQ,VU,VV,VW,VX,VY,Ua,Ub,Uc,Ud,Ue,Uf,Ui,Uk,Um,Un,Uo,Us,Uw,Ux,Uy,Uz,U0,U1,U2,U3,U4,U5,U6,U7,UE,UF,UG,UH,UQ,UR,US,UT,UY,UZ,Ta,Tc,Td,Tf,Tg,Th,Ti,Tj,Tk,Tl,Tm,Tq,Tr,Ts,Tt,Tv,Tw,Ty,T3,T4,T7,TA,TB,TC,TF,TH,TK,Sr,Sv,a1,a2,a5,cl,l1,l2,hx,wa,wb,wc,wd,we,m60,m2,m50,m30,d2,wd2,m3,s1,s2,s3,w44,g0,b1,b2,b3,b4,b5,h8]; all_goals tactic => exact rfl))
theorem r39_111_1p (hq : q.Ok) {x : P5} {i : Nat} (hi : i < 5) (hx : q.ls[i]? = some x) (ht : x.e / 2 % 3 = 1) (h8 : 128 < x.e) {L : List Ld} (hL : L.length = i) (a0 a1 a2 : Int) (r0 r1 r2 : List Int) (hr0 : r0.length ≤ 5) (hr1 : r1.length ≤ 5) (hr2 : r2.length ≤ 5) :
    headX 0 [1,2,3,10,11] (execW progX 39 0 none (match x39l2 with | .loop _ a => a | c => c) (envL [1,2,3,10,11] [.pt 0 0,.pt 1 0,.pt 2 0,.pt 5 0,I (i : Nat)]) (hN q L i [.sl 6 0 1 (r0.length + 1),.sl 7 0 1 (r1.length + 1),.sl 8 0 1 (r2.length + 1)] [some (.blk true (.cells true (I a0 :: r0.map I))),some (.blk true (.cells true (I a1 :: r1.map I))),some (.blk true (.cells true (I a2 :: r2.map I)))])) =
      some ([.pt 0 0,.pt 1 0,.pt 2 0,.pt 5 0,I (i + 1 : Nat)],hN q (L ++ [x.ld]) (i + 1) [.sl 6 0 1 (r0.length + 1),.sl 7 0 1 (r1.length + 1 + 1),.sl 8 0 1 (r2.length + 1)] [some (.blk true (.cells true (I a0 :: r0.map I))),some (.blk true (.cells true (I (i : Nat) :: I a1 :: r1.map I))),some (.blk true (.cells true (I a2 :: r2.map I)))]) := by
  obtain ⟨wa,wb,wc,wd,we,m60,m2,m50,m30,d2,wd2,m3,s1,s2,s3⟩ := ldF (hq.ls x (List.mem_of_getElem? hx))
  have a1 := lt_ix (lt_of hx)
  have a2 := up_ix hi (by omega)
  have a5 : ((i : Int) < 5) = True := eq_true (by omega)
  have cl := cL_len L
  rw [hL] at cl
  have ca := cL_app L x.ld
  have l1 : ((i + 1) * 40 ≤ 1099511627776) = True := eq_true (by omega)
  have l2 : (i + 1 ≤ 1099511627776) = True := eq_true (by omega)
  rw [ht] at m3
  unfold hN
  rw [ca]
  unfold P5.ld Ld.row
  dsimp only
  clear ca
  generalize x.e % 2 = ee at *
  generalize 1 + x.c % 60 + x.d % 30 = cd at *
  generalize 1 + x.c % 60 = cc at *
  generalize x.a + x.b % 50 = ab at *
  generalize x.e / 2 = e2 at *
  generalize x.d % 30 = dd at *
  generalize x.c % 60 = c6 at *
  generalize x.b % 50 = bb at *
  generalize cL L = cL0 at *
  have g0 : ((0 : Int) < ((r1.length + 1 : Nat) : Int)) = True := eq_true (by omega)
  have b1 : ((r1.length + 1 + 1) * 8 ≤ 1099511627776) = True := eq_true (by omega)
  have b2 : (r1.length + 1 + 1 ≤ 1099511627776) = True := eq_true (by omega)
  have b3 : 1 + (r1.length + 1) = r1.length + 1 + 1 := by omega
  have b4 : r1.length + 1 - 1 = r1.length := rfl
  have b5 : List.take r1.length (r1.map I) = r1.map I := List.take_of_length_le (by simp)
  have h8 : ((128 : Int) < (x.e : Int)) = True := eq_true (by omega)
  unfold x39l2
  dsimp only
  (sym => (simp [irem2,iquo2,remF,Za,Zb,Zc,Zd,Ze,Zf,Zh,Zi,Zl,Zm,Zn,Zo,Zp,Zu,Zv,Zx,Zz,Z0,Z2,Z5,Z6,Z7,Z8,ZE,ZG,ZH,ZJ,ZK,ZL,ZM,ZN,ZQ,ZR,ZS,ZT,ZU,ZV,ZY,ZZ,Yb,Yc,Yg,Yh,Yj,Ys,Yu,Yv,Yw,Y0,Y2,Y3,Y4,Y6,Y7,Y8,Y9,YB,YN,YQ,YX,YY,Xa,Xe,Xf,Xh,Xo,Xq,Xt,Xu,Xw,Wm,Wn,Wp,Wv,Ww,Wy,Wz,W0,W3,W4,W5,W6,W7,W9,WA,WB,WE,WF,WH,WI,WJ,WK,WL,WM,WN,WO,WP,WQ,WR,WS,WV,WW,WX,Vb,Vc,Ve,Vf,Vg,Vi,Vj,Vk,Vm,VL,VM,VN,VO,VP,VU,VV,VW,VX,VY,Ua,Ub,Uc,Ud,Ue,Uf,Ui,Uk,Um,Un,Uo,Us,Uw,Ux,Uy,Uz,U0,U1,U2,U3,U4,U5,U6,U7,UE,UF,UG,UH,UQ,UR,US,UT,UY,UZ,Ta,Tc,Td,Tf,Tg,Th,Ti,Tj,Tk,Tl,Tm,Tq,Tr,Ts,Tt,Tv,Tw,Ty,T3,T4,T7,TA,TB,TC,TF,TG,TH,TI,TK,TW,Sr,Sv,a1,a2,a5,cl,l1,l2,hx,wa,wb,wc,wd,we,m60,m2,m50,m30,d2,wd2,m3,s1,s2,s3,w44,g0,b1,b2,b3,b4,b5,h8]; all_goals tactic => exact rfl))
theorem r39_111_2 (hq : q.Ok) {x : P5} {i : Nat} (hi : i < 5) (hx : q.ls[i]? = some x) (ht : x.e / 2 % 3 = 2) (h8 : ¬ 128 < x.e) {L : List Ld} (hL : L.length = i) (a0 a1 a2 : Int) (r0 r1 r2 : List Int) (hr0 : r0.length ≤ 5) (hr1 : r1.length ≤ 5) (hr2 : r2.length ≤ 5) :
    headX 0 [1,2,3,10,11] (execW progX 39 0 none (match x39l2 with | .loop _ a => a | c => c) (envL [1,2,3,10,11] [.pt 0 0,.pt 1 0,.pt 2 0,.pt 5 0,I (i : Nat)]) (hN q L i [.sl 6 0 1 (r0.length + 1),.sl 7 0 1 (r1.length + 1),.sl 8 0 1 (r2.length + 1)] [some (.blk true (.cells true (I a0 :: r0.map I))),some (.blk true (.cells true (I a1 :: r1.map I))),some (.blk true (.cells true (I a2 :: r2.map I)))])) =
      some ([.pt 0 0,.pt 1 0,.pt 2 0,.pt 5 0,I (i + 1 : Nat)],hN q (L ++ [x.ld]) (i + 1) [.sl 6 0 1 (r0.length + 1),.sl 7 0 1 (r1.length + 1),.sl 8 0 1 (r2.length + 1 + 1)] [some (.blk true (.cells true (I a0 :: r0.map I))),some (.blk true (.cells true (I a1 :: r1.map I))),some (.blk true (.cells true (I a2 :: (r2.map I ++ [I (i : Nat)]))))]) := by
  obtain ⟨wa,wb,wc,wd,we,m60,m2,m50,m30,d2,wd2,m3,s1,s2,s3⟩ := ldF (hq.ls x (List.mem_of_getElem? hx))
  have a1 := lt_ix (lt_of hx)
  have a2 := up_ix hi (by omega)
  have a5 : ((i : Int) < 5) = True := eq_true (by omega)
  have cl := cL_len L
  rw [hL] at cl
  have ca := cL_app L x.ld
  have l1 : ((i + 1) * 40 ≤ 1099511627776) = True := eq_true (by omega)
  have l2 : (i + 1 ≤ 1099511627776) = True := eq_true (by omega)
  rw [ht] at m3
  unfold hN
  rw [ca]
  unfold P5.ld Ld.row
  dsimp only
  clear ca
  generalize x.e % 2 = ee at *
  generalize 1 + x.c % 60 + x.d % 30 = cd at *
  generalize 1 + x.c % 60 = cc at *
  generalize x.a + x.b % 50 = ab at *
  generalize x.e / 2 = e2 at *
  generalize x.d % 30 = dd at *
  generalize x.c % 60 = c6 at *
  generalize x.b % 50 = bb at *
  generalize cL L = cL0 at *
  have g0 : ((0 : Int) < ((r2.length + 1 : Nat) : Int)) = True := eq_true (by omega)
  have b1 : ((r2.length + 1 + 1) * 8 ≤ 1099511627776) = True := eq_true (by omega)
  have b2 : (r2.length + 1 + 1 ≤ 1099511627776) = True := eq_true (by omega)
  have b3 : 1 + (r2.length + 1) = r2.length + 1 + 1 := by omega
  have b4 : r2.length + 1 - 1 = r2.length := rfl
  have b5 : List.take r2.length (r2.map I) = r2.map I := List.take_of_length_le (by simp)
  have h8 : ((128 : Int) < (x.e : Int)) = False := eq_false (by omega)
  unfold x39l2
  dsimp only
  (sym => (simp [irem2,iquo2,remF,Za,Zb,Zc,Zd,Ze,Zf,Zh,Zi,Zl,Zm,Zn,Zo,Zp,Zr,Zu,Zv,Zx,Zz,Z0,Z2,Z5,Z6,Z7,Z8,ZE,ZG,ZH,ZJ,ZK,ZL,ZM,ZN,ZQ,ZR,ZS,ZT,ZU,ZV,ZW,ZY,ZZ,Yb,Yg,Yh,Yj,Ys,Yu,Yv,Yw,Y0,Y2,Y4,Y5,Y6,Y7,Y8,Y9,YB,YN,YQ,YX,YY,Xa,Xe,Xf,Xh,Xo,Xq,Xt,Xu,Xw,Wm,Wn,Wp,Wv,Ww,Wy,Wz,W0,W3,W4,W5,W6,W7,W9,WA,WB,WE,WF,WH,WI,WJ,WK,WL,WM,WN,WO,WP,WQ,WR,WS,WV,WW,WX,Vb,Vc,Ve,Vf,Vg,Vi,Vj,Vk,Vm,VL,VM,VN,VO,VP,VQ,VU,VV,VW,VX,VY,Ua,Ub,Uc,Ud,Ue,Uf,Ui,Uk,Um,Un,Uo,Us,Uw,Ux,Uy,Uz,U0,U1,U2,U3,U4,U5,U6,U7,UE,UF,UG,UH,UQ,UR,US,UT,UY,UZ,Ta,Tc,Td,Tf,Tg,Th,Ti,Tj,Tk,Tl,Tm,Tq,Tr,Ts,Tt,Tv,Tw,Ty,T3,T4,T7,TA,TB,TC,TF,TH,TK,Sr,Sv,a1,a2,a5,cl,l1,l2,hx,wa,wb,wc,wd,we,m60,m2,m50,m30,d2,wd2,m3,s1,s2,s3,w44,g0,b1,b2,b3,b4,b5,h8]; all_goals tactic => exact rfl))
theorem r39_111_2p (hq : q.Ok) {x : P5} {i : Nat} (hi : i < 5) (hx : q.ls[i]? = some x) (ht : x.e / 2 % 3 = 2) (h8 : 128 < x.e) {L : List Ld} (hL : L.length = i) (a0 a1 a2 : Int) (r0 r1 r2 : List Int) (hr0 : r0.length ≤ 5) (hr1 : r1.length ≤ 5) (hr2 : r2.length ≤ 5) :
    headX 0 [1,2,3,10,11] (execW progX 39 0 none (match x39l2 with | .loop _ a => a | c => c) (envL [1,2,3,10,11] [.pt 0 0,.pt 1 0,.pt 2 0,.pt 5 0,I (i : Nat)]) (hN q L i [.sl 6 0 1 (r0.length + 1),.sl 7 0 1 (r1.length + 1),.sl 8 0 1 (r2.length + 1)] [some (.blk true (.cells true (I a0 :: r0.map I))),some (.blk true (.cells true (I a1 :: r1.map I))),some (.blk true (.cells true (I a2 :: r2.map I)))])) =
      some ([.pt 0 0,.pt 1 0,.pt 2 0,.pt 5 0,I (i + 1 : Nat)],hN q (L ++ [x.ld]) (i + 1) [.sl 6 0 1 (r0.length + 1),.sl 7 0 1 (r1.length + 1),.sl 8 0 1 (r2.length + 1 + 1)] [some (.blk true (.cells true (I a0 :: r0.map I))),some (.blk true (.cells true (I a1 :: r1.map I))),some (.blk true (.cells true (I (i : Nat) :: I a2 :: r2.map I)))]) := by
  obtain ⟨wa,wb,wc,wd,we,m60,m2,m50,m30,d2,wd2,m3,s1,s2,s3⟩ := ldF (hq.ls x (List.mem_of_getElem? hx))
  have a1 := lt_ix (lt_of hx)
  have a2 := up_ix hi (by omega)
  have a5 : ((i : Int) < 5) = True := eq_true (by omega)
  have cl := cL_len L
  rw [hL] at cl
  have ca := cL_app L x.ld
  have l1 : ((i + 1) * 40 ≤ 1099511627776) = True := eq_true (by omega)
  have l2 : (i + 1 ≤ 1099511627776) = True := eq_true (by omega)
  rw [ht] at m3
  unfold hN
  rw [ca]
  unfold P5.ld Ld.row
  dsimp only
  clear ca
  generalize x.e % 2 = ee at *
  generalize 1 + x.c % 60 + x.d % 30 = cd at *
  generalize 1 + x.c % 60 = cc at *
  generalize x.a + x.b % 50 = ab at *
  generalize x.e / 2 = e2 at *
  generalize x.d % 30 = dd at *
  generalize x.c % 60 = c6 at *
  generalize x.b % 50 = bb at *
  generalize cL L = cL0 at *
  have g0 : ((0 : Int) < ((r2.length + 1 : Nat) : Int)) = True := eq_true (by omega)
  have b1 : ((r2.length + 1 + 1) * 8 ≤ 1099511627776) = True := eq_true (by omega)
  have b2 : (r2.length + 1 + 1 ≤ 1099511627776) = True := eq_true (by omega)
  have b3 : 1 + (r2.length + 1) = r2.length + 1 + 1 := by omega
  have b4 : r2.length + 1 - 1 = r2.length := rfl
  have b5 : List.take r2.length (r2.map I) = r2.map I := List.take_of_length_le (by simp)
  have h8 : ((128 : Int) < (x.e : Int)) = True := eq_true (by omega)
  unfold x39l2
  dsimp only
  (sym => (simp [irem2,iquo2,remF,Za,Zb,Zc,Zd,Ze,Zf,Zh,Zi,Zl,Zm,Zn,Zo,Zp,Zu,Zv,Zx,Zz,Z0,Z2,Z5,Z6,Z7,Z8,ZE,ZG,ZH,ZJ,ZK,ZL,ZM,ZN,ZQ,ZR,ZS,ZT,ZU,ZV,ZY,ZZ,Yb,Yc,Yg,Yh,Yj,Ys,Yu,Yv,Yw,Y0,Y2,Y4,Y5,Y6,Y7,Y8,Y9,YB,YN,YQ,YX,YY,Xa,Xe,Xf,Xh,Xo,Xq,Xt,Xu,Xw,Wm,Wn,Wp,Wv,Ww,Wy,Wz,W0,W3,W4,W5,W6,W7,W9,WA,WB,WE,WF,WH,WI,WJ,WK,WL,WM,WN,WO,WP,WQ,WR,WS,WV,WW,WX,Vb,Vc,Ve,Vf,Vg,Vi,Vj,Vk,Vm,VL,VM,VN,VO,VP,VU,VV,VW,VX,VY,Ua,Ub,Uc,Ud,Ue,Uf,Ui,Uk,Um,Un,Uo,Us,Uw,Ux,Uy,Uz,U0,U1,U2,U3,U4,U5,U6,U7,UE,UF,UG,UH,UQ,UR,US,UT,UY,UZ,Ta,Tc,Td,Tf,Tg,Th,Ti,Tj,Tk,Tl,Tm,Tq,Tr,Ts,Tt,Tv,Tw,Ty,T3,T4,T7,TA,TB,TC,TF,TG,TH,TI,TK,TW,Sr,Sv,a1,a2,a5,cl,l1,l2,hx,wa,wb,wc,wd,we,m60,m2,m50,m30,d2,wd2,m3,s1,s2,s3,w44,g0,b1,b2,b3,b4,b5,h8]; all_goals tactic => exact rfl))
end
end Go.Proofs.YtpbeclkpohehgaaDoor
namespace Go.Proofs.YtpbeclkpohehgaaDoor
open Go Go.DL
set_option maxRecDepth 100000
set_option maxHeartbeats 4000000
def putT (x : P5) (i : Nat) (T : List Int) : List Int := if 128 < x.e ∧ T ≠ [] then (i : Int) :: T else T ++ [(i : Int)]
def neL : List Int → Nat
  | [] => 0
  | _ => 1
abbrev csT (T0 T1 T2 : List Int) : List AV := [oS 6 T0,oS (6 + neL T0) T1,oS (6 + neL T0 + neL T1) T2]
abbrev bsT (T0 T1 T2 : List Int) : XH := oG T0 ++ oG T1 ++ oG T2
abbrev upT (x : P5) (i t : Nat) (T : List Int) : List Int := if x.e / 2 % 3 = t then putT x i T else T
theorem rj39_0 {q : Qu} (hq : q.Ok) {x : P5} (hx : q.ls[0]? = some x) :
    headX 0 [1,2,3,10,11] (execW progX 39 0 none (match x39l2 with | .loop _ a => a | c => c) (envL [1,2,3,10,11] [.pt 0 0,.pt 1 0,.pt 2 0,.pt 4 0,I 0]) (hN0 q)) =
      some ([.pt 0 0,.pt 1 0,.pt 2 0,.pt 5 0,I 1],hN q [x.ld] 1 (csT (upT x 0 0 []) (upT x 0 1 []) (upT x 0 2 [])) (bsT (upT x 0 0 []) (upT x 0 1 []) (upT x 0 2 []))) := by
  have ht : x.e / 2 % 3 = 0 ∨ x.e / 2 % 3 = 1 ∨ x.e / 2 % 3 = 2 := by omega
  have p0 : putT x 0 [] = [0] := by unfold putT; rw [if_neg (by simp)]; rfl
  unfold upT
  rw [p0]
  rcases ht with ht | ht | ht
  · rw [if_pos ht,if_neg (show ¬ x.e / 2 % 3 = 1 by omega),if_neg (show ¬ x.e / 2 % 3 = 2 by omega)]
    exact r39_000_0 hq hx ht
  · rw [if_pos ht,if_neg (show ¬ x.e / 2 % 3 = 0 by omega),if_neg (show ¬ x.e / 2 % 3 = 2 by omega)]
    exact r39_000_1 hq hx ht
  · rw [if_pos ht,if_neg (show ¬ x.e / 2 % 3 = 0 by omega),if_neg (show ¬ x.e / 2 % 3 = 1 by omega)]
    exact r39_000_2 hq hx ht
theorem rj39 {q : Qu} (hq : q.Ok) {x : P5} {i : Nat} (hi : i < 5) (hx : q.ls[i]? = some x) {L : List Ld} (hL : L.length = i) (T0 T1 T2 : List Int) (ne : T0 ≠ [] ∨ T1 ≠ [] ∨ T2 ≠ []) (l0 : T0.length ≤ 6) (l1 : T1.length ≤ 6) (l2 : T2.length ≤ 6) :
    headX 0 [1,2,3,10,11] (execW progX 39 0 none (match x39l2 with | .loop _ a => a | c => c) (envL [1,2,3,10,11] [.pt 0 0,.pt 1 0,.pt 2 0,.pt 5 0,I (i : Nat)]) (hN q L i (csT T0 T1 T2) (bsT T0 T1 T2))) =
      some ([.pt 0 0,.pt 1 0,.pt 2 0,.pt 5 0,I (i + 1 : Nat)],hN q (L ++ [x.ld]) (i + 1) (csT (upT x i 0 T0) (upT x i 1 T1) (upT x i 2 T2)) (bsT (upT x i 0 T0) (upT x i 1 T1) (upT x i 2 T2))) := by
  have ht : x.e / 2 % 3 = 0 ∨ x.e / 2 % 3 = 1 ∨ x.e / 2 % 3 = 2 := by omega
  have pe : putT x i [] = [(i : Int)] := by unfold putT; rw [if_neg (by simp)]; rfl
  have pp : ∀ a r,128 < x.e → putT x i (a :: r) = (i : Int) :: a :: r := fun a r h => by unfold putT; rw [if_pos ⟨h,by simp⟩]
  have pa : ∀ a r,¬ 128 < x.e → putT x i (a :: r) = a :: (r ++ [(i : Int)]) := fun a r h => by unfold putT; rw [if_neg fun hc => h hc.1]; rfl
  have ap : ∀ (a : Int) r,oG (a :: (r ++ [(i : Int)])) = [some (.blk true (.cells true (I a :: (r.map I ++ [I (i : Nat)]))))] := fun a r => by
    show [some (XB.blk true (.cells true (I a :: (r ++ [(i : Int)]).map I)))] = _
    rw [List.map_append]; rfl
  have al : ∀ p (a : Int) r,oS p (a :: (r ++ [(i : Int)])) = .sl p 0 1 (r.length + 1 + 1) := fun p a r => by
    show AV.sl p 0 1 ((r ++ [(i : Int)]).length + 1) = _
    rw [List.length_append]; rfl
  unfold upT csT bsT
  rcases T0 with _ | ⟨a0,r0⟩
  all_goals rcases T1 with _ | ⟨a1,r1⟩
  all_goals rcases T2 with _ | ⟨a2,r2⟩
  all_goals rcases ht with ht | ht | ht
  · simp at ne
  · simp at ne
  · simp at ne
  · rw [if_pos ht,if_neg (show ¬ x.e / 2 % 3 = 1 by omega),if_neg (show ¬ x.e / 2 % 3 = 2 by omega)]
    rw [pe]
    exact r39_001_0 hq hi hx ht hL a2 r2 (by simp at l2; omega)
  · rw [if_pos ht,if_neg (show ¬ x.e / 2 % 3 = 0 by omega),if_neg (show ¬ x.e / 2 % 3 = 2 by omega)]
    rw [pe]
    exact r39_001_1 hq hi hx ht hL a2 r2 (by simp at l2; omega)
  · rw [if_pos ht,if_neg (show ¬ x.e / 2 % 3 = 0 by omega),if_neg (show ¬ x.e / 2 % 3 = 1 by omega)]
    by_cases h8 : 128 < x.e
    · rw [pp _ _ h8]
      exact r39_001_2p hq hi hx ht h8 hL a2 r2 (by simp at l2; omega)
    · rw [pa _ _ h8,ap,al]
      exact r39_001_2 hq hi hx ht h8 hL a2 r2 (by simp at l2; omega)
  · rw [if_pos ht,if_neg (show ¬ x.e / 2 % 3 = 1 by omega),if_neg (show ¬ x.e / 2 % 3 = 2 by omega)]
    rw [pe]
    exact r39_010_0 hq hi hx ht hL a1 r1 (by simp at l1; omega)
  · rw [if_pos ht,if_neg (show ¬ x.e / 2 % 3 = 0 by omega),if_neg (show ¬ x.e / 2 % 3 = 2 by omega)]
    by_cases h8 : 128 < x.e
    · rw [pp _ _ h8]
      exact r39_010_1p hq hi hx ht h8 hL a1 r1 (by simp at l1; omega)
    · rw [pa _ _ h8,ap,al]
      exact r39_010_1 hq hi hx ht h8 hL a1 r1 (by simp at l1; omega)
  · rw [if_pos ht,if_neg (show ¬ x.e / 2 % 3 = 0 by omega),if_neg (show ¬ x.e / 2 % 3 = 1 by omega)]
    rw [pe]
    exact r39_010_2 hq hi hx ht hL a1 r1 (by simp at l1; omega)
  · rw [if_pos ht,if_neg (show ¬ x.e / 2 % 3 = 1 by omega),if_neg (show ¬ x.e / 2 % 3 = 2 by omega)]
    rw [pe]
    exact r39_011_0 hq hi hx ht hL a1 a2 r1 r2 (by simp at l1; omega) (by simp at l2; omega)
  · rw [if_pos ht,if_neg (show ¬ x.e / 2 % 3 = 0 by omega),if_neg (show ¬ x.e / 2 % 3 = 2 by omega)]
    by_cases h8 : 128 < x.e
    · rw [pp _ _ h8]
      exact r39_011_1p hq hi hx ht h8 hL a1 a2 r1 r2 (by simp at l1; omega) (by simp at l2; omega)
    · rw [pa _ _ h8,ap,al]
      exact r39_011_1 hq hi hx ht h8 hL a1 a2 r1 r2 (by simp at l1; omega) (by simp at l2; omega)
  · rw [if_pos ht,if_neg (show ¬ x.e / 2 % 3 = 0 by omega),if_neg (show ¬ x.e / 2 % 3 = 1 by omega)]
    by_cases h8 : 128 < x.e
    · rw [pp _ _ h8]
      exact r39_011_2p hq hi hx ht h8 hL a1 a2 r1 r2 (by simp at l1; omega) (by simp at l2; omega)
    · rw [pa _ _ h8,ap,al]
      exact r39_011_2 hq hi hx ht h8 hL a1 a2 r1 r2 (by simp at l1; omega) (by simp at l2; omega)
  · rw [if_pos ht,if_neg (show ¬ x.e / 2 % 3 = 1 by omega),if_neg (show ¬ x.e / 2 % 3 = 2 by omega)]
    by_cases h8 : 128 < x.e
    · rw [pp _ _ h8]
      exact r39_100_0p hq hi hx ht h8 hL a0 r0 (by simp at l0; omega)
    · rw [pa _ _ h8,ap,al]
      exact r39_100_0 hq hi hx ht h8 hL a0 r0 (by simp at l0; omega)
  · rw [if_pos ht,if_neg (show ¬ x.e / 2 % 3 = 0 by omega),if_neg (show ¬ x.e / 2 % 3 = 2 by omega)]
    rw [pe]
    exact r39_100_1 hq hi hx ht hL a0 r0 (by simp at l0; omega)
  · rw [if_pos ht,if_neg (show ¬ x.e / 2 % 3 = 0 by omega),if_neg (show ¬ x.e / 2 % 3 = 1 by omega)]
    rw [pe]
    exact r39_100_2 hq hi hx ht hL a0 r0 (by simp at l0; omega)
  · rw [if_pos ht,if_neg (show ¬ x.e / 2 % 3 = 1 by omega),if_neg (show ¬ x.e / 2 % 3 = 2 by omega)]
    by_cases h8 : 128 < x.e
    · rw [pp _ _ h8]
      exact r39_101_0p hq hi hx ht h8 hL a0 a2 r0 r2 (by simp at l0; omega) (by simp at l2; omega)
    · rw [pa _ _ h8,ap,al]
      exact r39_101_0 hq hi hx ht h8 hL a0 a2 r0 r2 (by simp at l0; omega) (by simp at l2; omega)
  · rw [if_pos ht,if_neg (show ¬ x.e / 2 % 3 = 0 by omega),if_neg (show ¬ x.e / 2 % 3 = 2 by omega)]
    rw [pe]
    exact r39_101_1 hq hi hx ht hL a0 a2 r0 r2 (by simp at l0; omega) (by simp at l2; omega)
  · rw [if_pos ht,if_neg (show ¬ x.e / 2 % 3 = 0 by omega),if_neg (show ¬ x.e / 2 % 3 = 1 by omega)]
    by_cases h8 : 128 < x.e
    · rw [pp _ _ h8]
      exact r39_101_2p hq hi hx ht h8 hL a0 a2 r0 r2 (by simp at l0; omega) (by simp at l2; omega)
    · rw [pa _ _ h8,ap,al]
      exact r39_101_2 hq hi hx ht h8 hL a0 a2 r0 r2 (by simp at l0; omega) (by simp at l2; omega)
  · rw [if_pos ht,if_neg (show ¬ x.e / 2 % 3 = 1 by omega),if_neg (show ¬ x.e / 2 % 3 = 2 by omega)]
    by_cases h8 : 128 < x.e
    · rw [pp _ _ h8]
      exact r39_110_0p hq hi hx ht h8 hL a0 a1 r0 r1 (by simp at l0; omega) (by simp at l1; omega)
    · rw [pa _ _ h8,ap,al]
      exact r39_110_0 hq hi hx ht h8 hL a0 a1 r0 r1 (by simp at l0; omega) (by simp at l1; omega)
  · rw [if_pos ht,if_neg (show ¬ x.e / 2 % 3 = 0 by omega),if_neg (show ¬ x.e / 2 % 3 = 2 by omega)]
    by_cases h8 : 128 < x.e
    · rw [pp _ _ h8]
      exact r39_110_1p hq hi hx ht h8 hL a0 a1 r0 r1 (by simp at l0; omega) (by simp at l1; omega)
    · rw [pa _ _ h8,ap,al]
      exact r39_110_1 hq hi hx ht h8 hL a0 a1 r0 r1 (by simp at l0; omega) (by simp at l1; omega)
  · rw [if_pos ht,if_neg (show ¬ x.e / 2 % 3 = 0 by omega),if_neg (show ¬ x.e / 2 % 3 = 1 by omega)]
    rw [pe]
    exact r39_110_2 hq hi hx ht hL a0 a1 r0 r1 (by simp at l0; omega) (by simp at l1; omega)
  · rw [if_pos ht,if_neg (show ¬ x.e / 2 % 3 = 1 by omega),if_neg (show ¬ x.e / 2 % 3 = 2 by omega)]
    by_cases h8 : 128 < x.e
    · rw [pp _ _ h8]
      exact r39_111_0p hq hi hx ht h8 hL a0 a1 a2 r0 r1 r2 (by simp at l0; omega) (by simp at l1; omega) (by simp at l2; omega)
    · rw [pa _ _ h8,ap,al]
      exact r39_111_0 hq hi hx ht h8 hL a0 a1 a2 r0 r1 r2 (by simp at l0; omega) (by simp at l1; omega) (by simp at l2; omega)
  · rw [if_pos ht,if_neg (show ¬ x.e / 2 % 3 = 0 by omega),if_neg (show ¬ x.e / 2 % 3 = 2 by omega)]
    by_cases h8 : 128 < x.e
    · rw [pp _ _ h8]
      exact r39_111_1p hq hi hx ht h8 hL a0 a1 a2 r0 r1 r2 (by simp at l0; omega) (by simp at l1; omega) (by simp at l2; omega)
    · rw [pa _ _ h8,ap,al]
      exact r39_111_1 hq hi hx ht h8 hL a0 a1 a2 r0 r1 r2 (by simp at l0; omega) (by simp at l1; omega) (by simp at l2; omega)
  · rw [if_pos ht,if_neg (show ¬ x.e / 2 % 3 = 0 by omega),if_neg (show ¬ x.e / 2 % 3 = 1 by omega)]
    by_cases h8 : 128 < x.e
    · rw [pp _ _ h8]
      exact r39_111_2p hq hi hx ht h8 hL a0 a1 a2 r0 r1 r2 (by simp at l0; omega) (by simp at l1; omega) (by simp at l2; omega)
    · rw [pa _ _ h8,ap,al]
      exact r39_111_2 hq hi hx ht h8 hL a0 a1 a2 r0 r1 r2 (by simp at l0; omega) (by simp at l1; omega) (by simp at l2; omega)
end Go.Proofs.YtpbeclkpohehgaaDoor
namespace Go.Proofs.YtpbeclkpohehgaaDoor
open Go Go.DL
set_option maxRecDepth 100000
set_option maxHeartbeats 8000000
def trN (q : Qu) : Nat → Nat → List Int
  | 0,_ => []
  | i + 1,t => upT (q.ls.getD i ⟨0,0,0,0,0⟩) i t (trN q i t)
def lsN (q : Qu) (i : Nat) : List Ld := (q.ls.take i).map P5.ld
def fewL (q : Qu) : Nat := min q.ls.length 5
def nzT (T0 T1 T2 : List Int) : List (List Int) := [T0,T1,T2].filter fun T => !T.isEmpty
def mdL (q : Qu) : Li := ⟨[mdK q.k0,mdK q.k1],lsN q (fewL q),nzT (trN q (fewL q) 0) (trN q (fewL q) 1) (trN q (fewL q) 2),(q.s0 : Nat),((q.s0 + q.s1 : Nat) : Int)⟩
theorem put_len (x : P5) (i : Nat) (T : List Int) : (putT x i T).length = T.length + 1 := by
  unfold putT
  split
  · rfl
  · rw [List.length_append]; rfl
theorem tr_len (q : Qu) : ∀ i t,(trN q i t).length ≤ i
  | 0,t => Nat.le_refl _
  | i + 1,t => by
    have ih := tr_len q i t
    rw [trN]
    unfold upT
    split
    · rw [put_len]; omega
    · omega
theorem tr_ne (q : Qu) : ∀ i,trN q (i + 1) 0 ≠ [] ∨ trN q (i + 1) 1 ≠ [] ∨ trN q (i + 1) 2 ≠ [] := by
  intro i
  have pn : ∀ T,putT (q.ls.getD i ⟨0,0,0,0,0⟩) i T ≠ [] := fun T h => by
    have := put_len (q.ls.getD i ⟨0,0,0,0,0⟩) i T
    rw [h] at this; simp at this
  have ht : (q.ls.getD i ⟨0,0,0,0,0⟩).e / 2 % 3 = 0 ∨ (q.ls.getD i ⟨0,0,0,0,0⟩).e / 2 % 3 = 1 ∨ (q.ls.getD i ⟨0,0,0,0,0⟩).e / 2 % 3 = 2 := by omega
  rw [trN,trN,trN]
  unfold upT
  rcases ht with h | h | h
  · exact .inl (by rw [if_pos h]; exact pn _)
  · exact .inr (.inl (by rw [if_pos h]; exact pn _))
  · exact .inr (.inr (by rw [if_pos h]; exact pn _))
theorem ls_up {q : Qu} {i : Nat} {x : P5} (hx : q.ls[i]? = some x) : lsN q (i + 1) = lsN q i ++ [x.ld] := by
  unfold lsN
  rw [List.take_add_one,hx,List.map_append]
  rfl
def gM2 (q : Qu) : Nat → XH
  | 0 => hN0 q
  | i + 1 => hN q (lsN q (i + 1)) (i + 1) (csT (trN q (i + 1) 0) (trN q (i + 1) 1) (trN q (i + 1) 2)) (bsT (trN q (i + 1) 0) (trN q (i + 1) 1) (trN q (i + 1) 2))
def sM2 : Nat → List AV
  | 0 => [.pt 0 0,.pt 1 0,.pt 2 0,.pt 4 0,I 0]
  | i + 1 => [.pt 0 0,.pt 1 0,.pt 2 0,.pt 5 0,I (i + 1 : Nat)]
theorem gM2_up {q : Qu} (hq : q.Ok) {i : Nat} (hi : i < fewL q) : headX 0 [1,2,3,10,11] (execW progX 39 0 none (match x39l2 with | .loop _ a => a | c => c) (envL [1,2,3,10,11] (sM2 i)) (gM2 q i)) = some (sM2 (i + 1),gM2 q (i + 1)) := by
  have hi2 : i < q.ls.length ∧ i < 5 := by unfold fewL at hi; omega
  obtain ⟨x,hx⟩ := at_ix hi2.1
  have e : ∀ t,trN q (i + 1) t = upT x i t (trN q i t) := fun t => by rw [trN,getD_of hx]
  cases i with
  | zero =>
    have h := rj39_0 hq hx
    have e0 : ∀ t,trN q 1 t = upT x 0 t [] := fun t => e t
    have e1 : lsN q 1 = [x.ld] := ls_up hx
    rw [← e0 0,← e0 1,← e0 2,← e1] at h
    exact h
  | succ j =>
    have l := fun t => tr_len q (j + 1) t
    have h := rj39 hq hi2.2 hx (L := lsN q (j + 1)) (by unfold lsN; rw [List.length_map,List.length_take]; omega) (trN q (j + 1) 0) (trN q (j + 1) 1) (trN q (j + 1) 2) (tr_ne q j) (by have := l 0; omega) (by have := l 1; omega) (by have := l 2; omega)
    rw [← e 0,← e 1,← e 2,← ls_up hx] at h
    exact h
theorem few_outL (q : Qu) : (((fewL q : Nat) : Int) < (q.ls.length : Int)) = False ∨ ((((fewL q : Nat) : Int) < (q.ls.length : Int)) = True ∧ (((fewL q : Nat) : Int) < 5) = False) := by
  unfold fewL
  by_cases h : q.ls.length ≤ 5
  · exact .inl (eq_false (by omega))
  · exact .inr ⟨eq_true (by omega),eq_false (by omega)⟩
def gM1 (q : Qu) : Nat → XH
  | 0 => hM0 q
  | 1 => hM1 q
  | _ => hM2 q
theorem w39 {q : Qu} (hq : q.Ok) : runW progX 39 [.agg q.c] [] = some (.agg (mdL q).c,[]) := by
  have wa := wr8 hq.s.1
  have wb := wr8 hq.s.2
  have wc : IntKind.i64.wrap ((q.s0 : Int) + (q.s1 : Int)) = ((q.s0 + q.s1 : Nat) : Int) := by
    have := hq.s
    rw [wrap_ok (by omega) (by omega)]; omega
  have e44 := w44
  have r1 := round39 hq
  have rd1 : ∀ i : Nat,i < 2 → headX 0 [1,2,3,34,35] (execW progX 39 0 none (match x39l1 with | .loop _ a => a | c => c) (envL [1,2,3,34,35] [.pt 0 0,.pt 1 0,.pt 2 0,.agg [rP q.k0,rP q.k1],I (i : Nat)]) (gM1 q i)) = some ([.pt 0 0,.pt 1 0,.pt 2 0,.agg [rP q.k0,rP q.k1],I (i + 1 : Nat)],gM1 q (i + 1)) := by
    intro i hi
    match i,hi with
    | 0,_ => exact r1.1
    | 1,_ => exact r1.2
  have g10 : gM1 q 0 = hM0 q := rfl
  have g12 : gM1 q 2 = hM2 q := rfl
  have rd2 := fun i hi => gM2_up hq (i := i) hi
  have fo := few_outL q
  have s0 : sM2 0 = [.pt 0 0,.pt 1 0,.pt 2 0,.pt 4 0,I 0] := rfl
  have g20 : gM2 q 0 = hN0 q := rfl
  have hm : fewL q ≤ 5 := by unfold fewL; omega
  have chL := cL_ch (lsN q (fewL q))
  have clL := cL_len (lsN q (fewL q))
  have lsl : (lsN q (fewL q)).length = fewL q := by unfold lsN fewL; rw [List.length_map,List.length_take]; omega
  rw [lsl] at chL clL
  unfold mdL
  by_cases hz : fewL q = 0
  · have fo : ((0 : Int) < (q.ls.length : Int)) = False := eq_false (by unfold fewL at hz; omega)
    have lz : lsN q (fewL q) = [] := List.eq_nil_of_length_eq_zero (lsl.trans hz)
    rw [lz,hz]
    have tz : ∀ t,trN q 0 t = [] := fun _ => rfl
    rw [tz,tz,tz]
    have nz : nzT [] [] [] = [] := rfl
    rw [nz]
    rw [r39 (by simp)]; unfold x39; dsimp only
    sym =>
      simp [Za,Zb,Zc,Zd,Ze,Zf,Zg,Zh,Zj,Zl,Zm,Zn,Zo,Zp,Zr,Zu,Zv,Zx,Zy,Zz,Z0,Z2,Z5,Z6,Z7,Z9,ZE,ZG,ZK,ZL,ZO,ZP,ZS,ZT,ZU,ZV,ZW,ZY,ZZ,Yb,Yc,Ye,Yj,Ys,Yu,Yx,Yy,Yz,Y0,Y1,Y2,Y4,Y5,Y7,YB,YN,YO,YQ,YT,YV,YX,YY,Xa,Xe,Xf,Xg,Xh,Xk,Xo,Xq,Xs,Xt,Xu,Xw,X0,XJ,XM,XO,XU,XV,XX,XY,XZ,Wa,Wc,We,Wg,Wi,Wn,Wo,Wp,Wy,Wz,W0,W3,W4,W5,W6,W7,W8,W9,WA,WB,WE,WF,WH,WI,WJ,WK,WL,WM,WN,WO,WP,WQ,WR,WS,WV,WW,WX,Vb,Vc,Ve,Vf,Vg,Vo,Vp,Vq,Vr,Vs,Vt,Vu,Vv,V0,V1,V2,V3,V5,V6,V8,V9,VA,VB,VC,VF,VG,VH,VJ,VK,VL,VM,VN,VO,VP,VQ,VR,VT,VU,VV,VW,VX,VY,Ua,Ub,Uc,Ud,Uf,Ui,Uk,Us,Ut,Uu,Uw,Ux,Uy,Uz,U0,U1,U2,U3,U4,U5,U6,U7,U8,U9,UA,UB,UC,UD,UE,UF,UG,UH,UO,UP,UQ,UR,US,UT,UY,UZ,Ta,Tb,Tc,Td,Tf,Tg,Tj,Tk,Tl,Tm,Tq,Tr,Ts,Tt,Tu,Tv,Tw,Tx,Ty,Tz,T3,T4,T5,T7,T9,TA,TB,TC,TF,TG,TH,TI,TK,TN,TO,TP,TQ,TR,TS,TT,TU,TV,Sw,Sx,Sy,SD,SE,SG,wa,wb,wc,e44]
      tactic =>
        unfold x39l1
        rw [loop_rule 2 (fun i => [.pt 0 0,.pt 1 0,.pt 2 0,.agg [rP q.k0,rP q.k1],I (i : Nat)]) (gM1 q)]
        · rw [g12]
          unfold x39l2 x39l3
          (sym => (simp [Za,Zb,Zc,Zd,Ze,Zf,Zg,Zh,Zj,Zl,Zm,Zn,Zo,Zp,Zr,Zu,Zv,Zx,Zy,Zz,Z0,Z2,Z5,Z6,Z7,Z9,ZE,ZG,ZK,ZL,ZO,ZP,ZS,ZT,ZU,ZV,ZW,ZY,ZZ,Yb,Yc,Ye,Yj,Ys,Yu,Yx,Yy,Yz,Y0,Y1,Y2,Y4,Y5,Y7,YB,YN,YO,YQ,YT,YV,YX,YY,Xa,Xe,Xf,Xg,Xh,Xk,Xo,Xq,Xs,Xt,Xu,Xw,X0,XJ,XM,XO,XU,XV,XX,XY,XZ,Wa,Wc,We,Wg,Wi,Wn,Wo,Wp,Wy,Wz,W0,W3,W4,W5,W6,W7,W8,W9,WA,WB,WE,WF,WH,WI,WJ,WK,WL,WM,WN,WO,WP,WQ,WR,WS,WV,WW,WX,Vb,Vc,Ve,Vf,Vg,Vo,Vp,Vq,Vr,Vs,Vt,Vu,Vv,V0,V1,V2,V3,V5,V6,V8,V9,VA,VB,VC,VF,VG,VH,VJ,VK,VL,VM,VN,VO,VP,VQ,VR,VT,VU,VV,VW,VX,VY,Ua,Ub,Uc,Ud,Uf,Ui,Uk,Us,Ut,Uu,Uw,Ux,Uy,Uz,U0,U1,U2,U3,U4,U5,U6,U7,U8,U9,UA,UB,UC,UD,UE,UF,UG,UH,UO,UP,UQ,UR,US,UT,UY,UZ,Ta,Tb,Tc,Td,Tf,Tg,Tj,Tk,Tl,Tm,Tq,Tr,Ts,Tt,Tu,Tv,Tw,Tx,Ty,Tz,T3,T4,T5,T7,T9,TA,TB,TC,TF,TG,TH,TI,TK,TN,TO,TP,TQ,TR,TS,TT,TU,TV,Sw,Sx,Sy,SD,SE,SG,loopU,fo]; all_goals tactic => exact rfl))
        · rw [g10]
          (sym => (simp [Za,Zb,Zc,Zd,Ze,Zf,Zg,Zh,Zj,Zl,Zm,Zn,Zo,Zp,Zr,Zu,Zv,Zx,Zy,Zz,Z0,Z2,Z5,Z6,Z7,Z9,ZE,ZG,ZK,ZL,ZO,ZP,ZS,ZT,ZU,ZV,ZW,ZY,ZZ,Yb,Yc,Ye,Yj,Ys,Yu,Yx,Yy,Yz,Y0,Y1,Y2,Y4,Y5,Y7,YB,YN,YO,YQ,YT,YV,YX,YY,Xa,Xe,Xf,Xg,Xh,Xk,Xo,Xq,Xs,Xt,Xu,Xw,X0,XJ,XM,XO,XU,XV,XX,XY,XZ,Wa,Wc,We,Wg,Wi,Wn,Wo,Wp,Wy,Wz,W0,W3,W4,W5,W6,W7,W8,W9,WA,WB,WE,WF,WH,WI,WJ,WK,WL,WM,WN,WO,WP,WQ,WR,WS,WV,WW,WX,Vb,Vc,Ve,Vf,Vg,Vo,Vp,Vq,Vr,Vs,Vt,Vu,Vv,V0,V1,V2,V3,V5,V6,V8,V9,VA,VB,VC,VF,VG,VH,VJ,VK,VL,VM,VN,VO,VP,VQ,VR,VT,VU,VV,VW,VX,VY,Ua,Ub,Uc,Ud,Uf,Ui,Uk,Us,Ut,Uu,Uw,Ux,Uy,Uz,U0,U1,U2,U3,U4,U5,U6,U7,U8,U9,UA,UB,UC,UD,UE,UF,UG,UH,UO,UP,UQ,UR,US,UT,UY,UZ,Ta,Tb,Tc,Td,Tf,Tg,Tj,Tk,Tl,Tm,Tq,Tr,Ts,Tt,Tu,Tv,Tw,Tx,Ty,Tz,T3,T4,T5,T7,T9,TA,TB,TC,TF,TG,TH,TI,TK,TN,TO,TP,TQ,TR,TS,TT,TU,TV,Sw,Sx,Sy,SD,SE,SG]; all_goals tactic => exact rfl))
        · exact rd1
        · rw [g12]
          (sym => (simp [Za,Zb,Zc,Zd,Ze,Zf,Zg,Zh,Zj,Zl,Zm,Zn,Zo,Zp,Zr,Zu,Zv,Zx,Zy,Zz,Z0,Z2,Z5,Z6,Z7,Z9,ZE,ZG,ZK,ZL,ZO,ZP,ZS,ZT,ZU,ZV,ZW,ZY,ZZ,Yb,Yc,Ye,Yj,Ys,Yu,Yx,Yy,Yz,Y0,Y1,Y2,Y4,Y5,Y7,YB,YN,YO,YQ,YT,YV,YX,YY,Xa,Xe,Xf,Xg,Xh,Xk,Xo,Xq,Xs,Xt,Xu,Xw,X0,XJ,XM,XO,XU,XV,XX,XY,XZ,Wa,Wc,We,Wg,Wi,Wn,Wo,Wp,Wy,Wz,W0,W3,W4,W5,W6,W7,W8,W9,WA,WB,WE,WF,WH,WI,WJ,WK,WL,WM,WN,WO,WP,WQ,WR,WS,WV,WW,WX,Vb,Vc,Ve,Vf,Vg,Vo,Vp,Vq,Vr,Vs,Vt,Vu,Vv,V0,V1,V2,V3,V5,V6,V8,V9,VA,VB,VC,VF,VG,VH,VJ,VK,VL,VM,VN,VO,VP,VQ,VR,VT,VU,VV,VW,VX,VY,Ua,Ub,Uc,Ud,Uf,Ui,Uk,Us,Ut,Uu,Uw,Ux,Uy,Uz,U0,U1,U2,U3,U4,U5,U6,U7,U8,U9,UA,UB,UC,UD,UE,UF,UG,UH,UO,UP,UQ,UR,US,UT,UY,UZ,Ta,Tb,Tc,Td,Tf,Tg,Tj,Tk,Tl,Tm,Tq,Tr,Ts,Tt,Tu,Tv,Tw,Tx,Ty,Tz,T3,T4,T5,T7,T9,TA,TB,TC,TF,TG,TH,TI,TK,TN,TO,TP,TQ,TR,TS,TT,TU,TV,Sw,Sx,Sy,SD,SE,SG]; all_goals tactic => exact rfl))
  · obtain ⟨m,hmm⟩ : ∃ m,fewL q = m + 1 := ⟨fewL q - 1,by omega⟩
    have gL : gM2 q (fewL q) = hN q (lsN q (fewL q)) (fewL q) (csT (trN q (fewL q) 0) (trN q (fewL q) 1) (trN q (fewL q) 2)) (bsT (trN q (fewL q) 0) (trN q (fewL q) 1) (trN q (fewL q) 2)) := by rw [hmm]; rfl
    have sL : sM2 (fewL q) = [.pt 0 0,.pt 1 0,.pt 2 0,.pt 5 0,I (fewL q : Nat)] := by rw [hmm]; rfl
    have ne : trN q (fewL q) 0 ≠ [] ∨ trN q (fewL q) 1 ≠ [] ∨ trN q (fewL q) 2 ≠ [] := by rw [hmm]; exact tr_ne q m
    have ce : (fewL q * 5 ≤ fewL q * 5) = True := eq_true (Nat.le_refl _)
    have gp : ∀ r : List Int,((0 : Int) < ((r.length + 1 : Nat) : Int)) = True := fun r => eq_true (by omega)
    rw [r39 (by simp)]; unfold x39; dsimp only
    sym =>
      simp [Za,Zb,Zc,Zd,Ze,Zf,Zg,Zh,Zj,Zl,Zm,Zn,Zo,Zp,Zr,Zu,Zv,Zx,Zy,Zz,Z0,Z2,Z5,Z6,Z7,Z9,ZE,ZG,ZK,ZL,ZO,ZP,ZS,ZT,ZU,ZV,ZW,ZY,ZZ,Yb,Yc,Ye,Yj,Ys,Yu,Yx,Yy,Yz,Y0,Y1,Y2,Y4,Y5,Y7,YB,YN,YO,YQ,YT,YV,YX,YY,Xa,Xe,Xf,Xg,Xh,Xk,Xo,Xq,Xs,Xt,Xu,Xw,X0,XJ,XM,XO,XU,XV,XX,XY,XZ,Wa,Wc,We,Wg,Wi,Wn,Wo,Wp,Wy,Wz,W0,W3,W4,W5,W6,W7,W8,W9,WA,WB,WE,WF,WH,WI,WJ,WK,WL,WM,WN,WO,WP,WQ,WR,WS,WV,WW,WX,Vb,Vc,Ve,Vf,Vg,Vo,Vp,Vq,Vr,Vs,Vt,Vu,Vv,V0,V1,V2,V3,V5,V6,V8,V9,VA,VB,VC,VF,VG,VH,VJ,VK,VL,VM,VN,VO,VP,VQ,VR,VT,VU,VV,VW,VX,VY,Ua,Ub,Uc,Ud,Uf,Ui,Uk,Us,Ut,Uu,Uw,Ux,Uy,Uz,U0,U1,U2,U3,U4,U5,U6,U7,U8,U9,UA,UB,UC,UD,UE,UF,UG,UH,UO,UP,UQ,UR,US,UT,UY,UZ,Ta,Tb,Tc,Td,Tf,Tg,Tj,Tk,Tl,Tm,Tq,Tr,Ts,Tt,Tu,Tv,Tw,Tx,Ty,Tz,T3,T4,T5,T7,T9,TA,TB,TC,TF,TG,TH,TI,TK,TN,TO,TP,TQ,TR,TS,TT,TU,TV,Sw,Sx,Sy,SD,SE,SG,wa,wb,wc,e44]
      tactic =>
        unfold x39l1
        rw [loop_rule 2 (fun i => [.pt 0 0,.pt 1 0,.pt 2 0,.agg [rP q.k0,rP q.k1],I (i : Nat)]) (gM1 q)]
        · rw [g12]
          sym =>
            simp [Za,Zb,Zc,Zd,Ze,Zf,Zg,Zh,Zj,Zl,Zm,Zn,Zo,Zp,Zr,Zu,Zv,Zx,Zy,Zz,Z0,Z2,Z5,Z6,Z7,Z9,ZE,ZG,ZK,ZL,ZO,ZP,ZS,ZT,ZU,ZV,ZW,ZY,ZZ,Yb,Yc,Ye,Yj,Ys,Yu,Yx,Yy,Yz,Y0,Y1,Y2,Y4,Y5,Y7,YB,YN,YO,YQ,YT,YV,YX,YY,Xa,Xe,Xf,Xg,Xh,Xk,Xo,Xq,Xs,Xt,Xu,Xw,X0,XJ,XM,XO,XU,XV,XX,XY,XZ,Wa,Wc,We,Wg,Wi,Wn,Wo,Wp,Wy,Wz,W0,W3,W4,W5,W6,W7,W8,W9,WA,WB,WE,WF,WH,WI,WJ,WK,WL,WM,WN,WO,WP,WQ,WR,WS,WV,WW,WX,Vb,Vc,Ve,Vf,Vg,Vo,Vp,Vq,Vr,Vs,Vt,Vu,Vv,V0,V1,V2,V3,V5,V6,V8,V9,VA,VB,VC,VF,VG,VH,VJ,VK,VL,VM,VN,VO,VP,VQ,VR,VT,VU,VV,VW,VX,VY,Ua,Ub,Uc,Ud,Uf,Ui,Uk,Us,Ut,Uu,Uw,Ux,Uy,Uz,U0,U1,U2,U3,U4,U5,U6,U7,U8,U9,UA,UB,UC,UD,UE,UF,UG,UH,UO,UP,UQ,UR,US,UT,UY,UZ,Ta,Tb,Tc,Td,Tf,Tg,Tj,Tk,Tl,Tm,Tq,Tr,Ts,Tt,Tu,Tv,Tw,Tx,Ty,Tz,T3,T4,T5,T7,T9,TA,TB,TC,TF,TG,TH,TI,TK,TN,TO,TP,TQ,TR,TS,TT,TU,TV,Sw,Sx,Sy,SD,SE,SG]
            tactic =>
              unfold x39l2
              rw [loop_rule (fewL q) sM2 (gM2 q)]
              · rw [gL,sL]
                generalize trN q (fewL q) 0 = T0 at *
                generalize trN q (fewL q) 1 = T1 at *
                generalize trN q (fewL q) 2 = T2 at *
                generalize lsN q (fewL q) = L at *
                generalize fewL q = fl at *
                unfold x39l3
                unfold nzT
                rcases T0 with _ | ⟨a0,r0⟩
                all_goals rcases T1 with _ | ⟨a1,r1⟩
                all_goals rcases T2 with _ | ⟨a2,r2⟩
                · simp at ne
                all_goals try simp only [neL]
                all_goals simp only [List.filter,List.isEmpty,Bool.not_true,Bool.not_false]
                all_goals rcases fo with fo | ⟨fo,fo2⟩
                all_goals first | (sym => (simp [Za,Zb,Zc,Zd,Ze,Zf,Zg,Zh,Zj,Zl,Zm,Zn,Zo,Zp,Zr,Zu,Zv,Zx,Zy,Zz,Z0,Z2,Z5,Z6,Z7,Z9,ZE,ZG,ZK,ZL,ZO,ZP,ZS,ZT,ZU,ZV,ZW,ZY,ZZ,Yb,Yc,Ye,Yj,Ys,Yu,Yx,Yy,Yz,Y0,Y1,Y2,Y4,Y5,Y7,YB,YN,YO,YQ,YT,YV,YX,YY,Xa,Xe,Xf,Xg,Xh,Xk,Xo,Xq,Xs,Xt,Xu,Xw,X0,XJ,XM,XO,XU,XV,XX,XY,XZ,Wa,Wc,We,Wg,Wi,Wn,Wo,Wp,Wy,Wz,W0,W3,W4,W5,W6,W7,W8,W9,WA,WB,WE,WF,WH,WI,WJ,WK,WL,WM,WN,WO,WP,WQ,WR,WS,WV,WW,WX,Vb,Vc,Ve,Vf,Vg,Vo,Vp,Vq,Vr,Vs,Vt,Vu,Vv,V0,V1,V2,V3,V5,V6,V8,V9,VA,VB,VC,VF,VG,VH,VJ,VK,VL,VM,VN,VO,VP,VQ,VR,VT,VU,VV,VW,VX,VY,Ua,Ub,Uc,Ud,Uf,Ui,Uk,Us,Ut,Uu,Uw,Ux,Uy,Uz,U0,U1,U2,U3,U4,U5,U6,U7,U8,U9,UA,UB,UC,UD,UE,UF,UG,UH,UO,UP,UQ,UR,US,UT,UY,UZ,Ta,Tb,Tc,Td,Tf,Tg,Tj,Tk,Tl,Tm,Tq,Tr,Ts,Tt,Tu,Tv,Tw,Tx,Ty,Tz,T3,T4,T5,T7,T9,TA,TB,TC,TF,TG,TH,TI,TK,TN,TO,TP,TQ,TR,TS,TT,TU,TV,Sw,Sx,Sy,SD,SE,SG,loopU,fo,fo2,chL,clL,ce,gp]; all_goals tactic => exact rfl)) | (sym => (simp [Za,Zb,Zc,Zd,Ze,Zf,Zg,Zh,Zj,Zl,Zm,Zn,Zo,Zp,Zr,Zu,Zv,Zx,Zy,Zz,Z0,Z2,Z5,Z6,Z7,Z9,ZE,ZG,ZK,ZL,ZO,ZP,ZS,ZT,ZU,ZV,ZW,ZY,ZZ,Yb,Yc,Ye,Yj,Ys,Yu,Yx,Yy,Yz,Y0,Y1,Y2,Y4,Y5,Y7,YB,YN,YO,YQ,YT,YV,YX,YY,Xa,Xe,Xf,Xg,Xh,Xk,Xo,Xq,Xs,Xt,Xu,Xw,X0,XJ,XM,XO,XU,XV,XX,XY,XZ,Wa,Wc,We,Wg,Wi,Wn,Wo,Wp,Wy,Wz,W0,W3,W4,W5,W6,W7,W8,W9,WA,WB,WE,WF,WH,WI,WJ,WK,WL,WM,WN,WO,WP,WQ,WR,WS,WV,WW,WX,Vb,Vc,Ve,Vf,Vg,Vo,Vp,Vq,Vr,Vs,Vt,Vu,Vv,V0,V1,V2,V3,V5,V6,V8,V9,VA,VB,VC,VF,VG,VH,VJ,VK,VL,VM,VN,VO,VP,VQ,VR,VT,VU,VV,VW,VX,VY,Ua,Ub,Uc,Ud,Uf,Ui,Uk,Us,Ut,Uu,Uw,Ux,Uy,Uz,U0,U1,U2,U3,U4,U5,U6,U7,U8,U9,UA,UB,UC,UD,UE,UF,UG,UH,UO,UP,UQ,UR,US,UT,UY,UZ,Ta,Tb,Tc,Td,Tf,Tg,Tj,Tk,Tl,Tm,Tq,Tr,Ts,Tt,Tu,Tv,Tw,Tx,Ty,Tz,T3,T4,T5,T7,T9,TA,TB,TC,TF,TG,TH,TI,TK,TN,TO,TP,TQ,TR,TS,TT,TU,TV,Sw,Sx,Sy,SD,SE,SG,loopU,fo,chL,clL,ce,gp]; all_goals tactic => exact rfl))
              · rw [s0,g20]
                (sym => (simp [Za,Zb,Zc,Zd,Ze,Zf,Zg,Zh,Zj,Zl,Zm,Zn,Zo,Zp,Zr,Zu,Zv,Zx,Zy,Zz,Z0,Z2,Z5,Z6,Z7,Z9,ZE,ZG,ZK,ZL,ZO,ZP,ZS,ZT,ZU,ZV,ZW,ZY,ZZ,Yb,Yc,Ye,Yj,Ys,Yu,Yx,Yy,Yz,Y0,Y1,Y2,Y4,Y5,Y7,YB,YN,YO,YQ,YT,YV,YX,YY,Xa,Xe,Xf,Xg,Xh,Xk,Xo,Xq,Xs,Xt,Xu,Xw,X0,XJ,XM,XO,XU,XV,XX,XY,XZ,Wa,Wc,We,Wg,Wi,Wn,Wo,Wp,Wy,Wz,W0,W3,W4,W5,W6,W7,W8,W9,WA,WB,WE,WF,WH,WI,WJ,WK,WL,WM,WN,WO,WP,WQ,WR,WS,WV,WW,WX,Vb,Vc,Ve,Vf,Vg,Vo,Vp,Vq,Vr,Vs,Vt,Vu,Vv,V0,V1,V2,V3,V5,V6,V8,V9,VA,VB,VC,VF,VG,VH,VJ,VK,VL,VM,VN,VO,VP,VQ,VR,VT,VU,VV,VW,VX,VY,Ua,Ub,Uc,Ud,Uf,Ui,Uk,Us,Ut,Uu,Uw,Ux,Uy,Uz,U0,U1,U2,U3,U4,U5,U6,U7,U8,U9,UA,UB,UC,UD,UE,UF,UG,UH,UO,UP,UQ,UR,US,UT,UY,UZ,Ta,Tb,Tc,Td,Tf,Tg,Tj,Tk,Tl,Tm,Tq,Tr,Ts,Tt,Tu,Tv,Tw,Tx,Ty,Tz,T3,T4,T5,T7,T9,TA,TB,TC,TF,TG,TH,TI,TK,TN,TO,TP,TQ,TR,TS,TT,TU,TV,Sw,Sx,Sy,SD,SE,SG]; all_goals tactic => exact rfl))
              · exact rd2
              · rw [gL,sL]
                generalize fewL q = fl at *
                rcases fo with fo | ⟨fo,fo2⟩
                · (sym => (simp [Za,Zb,Zc,Zd,Ze,Zf,Zg,Zh,Zj,Zl,Zm,Zn,Zo,Zp,Zr,Zu,Zv,Zx,Zy,Zz,Z0,Z2,Z5,Z6,Z7,Z9,ZE,ZG,ZK,ZL,ZO,ZP,ZS,ZT,ZU,ZV,ZW,ZY,ZZ,Yb,Yc,Ye,Yj,Ys,Yu,Yx,Yy,Yz,Y0,Y1,Y2,Y4,Y5,Y7,YB,YN,YO,YQ,YT,YV,YX,YY,Xa,Xe,Xf,Xg,Xh,Xk,Xo,Xq,Xs,Xt,Xu,Xw,X0,XJ,XM,XO,XU,XV,XX,XY,XZ,Wa,Wc,We,Wg,Wi,Wn,Wo,Wp,Wy,Wz,W0,W3,W4,W5,W6,W7,W8,W9,WA,WB,WE,WF,WH,WI,WJ,WK,WL,WM,WN,WO,WP,WQ,WR,WS,WV,WW,WX,Vb,Vc,Ve,Vf,Vg,Vo,Vp,Vq,Vr,Vs,Vt,Vu,Vv,V0,V1,V2,V3,V5,V6,V8,V9,VA,VB,VC,VF,VG,VH,VJ,VK,VL,VM,VN,VO,VP,VQ,VR,VT,VU,VV,VW,VX,VY,Ua,Ub,Uc,Ud,Uf,Ui,Uk,Us,Ut,Uu,Uw,Ux,Uy,Uz,U0,U1,U2,U3,U4,U5,U6,U7,U8,U9,UA,UB,UC,UD,UE,UF,UG,UH,UO,UP,UQ,UR,US,UT,UY,UZ,Ta,Tb,Tc,Td,Tf,Tg,Tj,Tk,Tl,Tm,Tq,Tr,Ts,Tt,Tu,Tv,Tw,Tx,Ty,Tz,T3,T4,T5,T7,T9,TA,TB,TC,TF,TG,TH,TI,TK,TN,TO,TP,TQ,TR,TS,TT,TU,TV,Sw,Sx,Sy,SD,SE,SG,fo]; all_goals tactic => exact rfl))
                · (sym => (simp [Za,Zb,Zc,Zd,Ze,Zf,Zg,Zh,Zj,Zl,Zm,Zn,Zo,Zp,Zr,Zu,Zv,Zx,Zy,Zz,Z0,Z2,Z5,Z6,Z7,Z9,ZE,ZG,ZK,ZL,ZO,ZP,ZS,ZT,ZU,ZV,ZW,ZY,ZZ,Yb,Yc,Ye,Yj,Ys,Yu,Yx,Yy,Yz,Y0,Y1,Y2,Y4,Y5,Y7,YB,YN,YO,YQ,YT,YV,YX,YY,Xa,Xe,Xf,Xg,Xh,Xk,Xo,Xq,Xs,Xt,Xu,Xw,X0,XJ,XM,XO,XU,XV,XX,XY,XZ,Wa,Wc,We,Wg,Wi,Wn,Wo,Wp,Wy,Wz,W0,W3,W4,W5,W6,W7,W8,W9,WA,WB,WE,WF,WH,WI,WJ,WK,WL,WM,WN,WO,WP,WQ,WR,WS,WV,WW,WX,Vb,Vc,Ve,Vf,Vg,Vo,Vp,Vq,Vr,Vs,Vt,Vu,Vv,V0,V1,V2,V3,V5,V6,V8,V9,VA,VB,VC,VF,VG,VH,VJ,VK,VL,VM,VN,VO,VP,VQ,VR,VT,VU,VV,VW,VX,VY,Ua,Ub,Uc,Ud,Uf,Ui,Uk,Us,Ut,Uu,Uw,Ux,Uy,Uz,U0,U1,U2,U3,U4,U5,U6,U7,U8,U9,UA,UB,UC,UD,UE,UF,UG,UH,UO,UP,UQ,UR,US,UT,UY,UZ,Ta,Tb,Tc,Td,Tf,Tg,Tj,Tk,Tl,Tm,Tq,Tr,Ts,Tt,Tu,Tv,Tw,Tx,Ty,Tz,T3,T4,T5,T7,T9,TA,TB,TC,TF,TG,TH,TI,TK,TN,TO,TP,TQ,TR,TS,TT,TU,TV,Sw,Sx,Sy,SD,SE,SG,fo,fo2]; all_goals tactic => exact rfl))
        · rw [g10]
          (sym => (simp [Za,Zb,Zc,Zd,Ze,Zf,Zg,Zh,Zj,Zl,Zm,Zn,Zo,Zp,Zr,Zu,Zv,Zx,Zy,Zz,Z0,Z2,Z5,Z6,Z7,Z9,ZE,ZG,ZK,ZL,ZO,ZP,ZS,ZT,ZU,ZV,ZW,ZY,ZZ,Yb,Yc,Ye,Yj,Ys,Yu,Yx,Yy,Yz,Y0,Y1,Y2,Y4,Y5,Y7,YB,YN,YO,YQ,YT,YV,YX,YY,Xa,Xe,Xf,Xg,Xh,Xk,Xo,Xq,Xs,Xt,Xu,Xw,X0,XJ,XM,XO,XU,XV,XX,XY,XZ,Wa,Wc,We,Wg,Wi,Wn,Wo,Wp,Wy,Wz,W0,W3,W4,W5,W6,W7,W8,W9,WA,WB,WE,WF,WH,WI,WJ,WK,WL,WM,WN,WO,WP,WQ,WR,WS,WV,WW,WX,Vb,Vc,Ve,Vf,Vg,Vo,Vp,Vq,Vr,Vs,Vt,Vu,Vv,V0,V1,V2,V3,V5,V6,V8,V9,VA,VB,VC,VF,VG,VH,VJ,VK,VL,VM,VN,VO,VP,VQ,VR,VT,VU,VV,VW,VX,VY,Ua,Ub,Uc,Ud,Uf,Ui,Uk,Us,Ut,Uu,Uw,Ux,Uy,Uz,U0,U1,U2,U3,U4,U5,U6,U7,U8,U9,UA,UB,UC,UD,UE,UF,UG,UH,UO,UP,UQ,UR,US,UT,UY,UZ,Ta,Tb,Tc,Td,Tf,Tg,Tj,Tk,Tl,Tm,Tq,Tr,Ts,Tt,Tu,Tv,Tw,Tx,Ty,Tz,T3,T4,T5,T7,T9,TA,TB,TC,TF,TG,TH,TI,TK,TN,TO,TP,TQ,TR,TS,TT,TU,TV,Sw,Sx,Sy,SD,SE,SG]; all_goals tactic => exact rfl))
        · exact rd1
        · rw [g12]
          (sym => (simp [Za,Zb,Zc,Zd,Ze,Zf,Zg,Zh,Zj,Zl,Zm,Zn,Zo,Zp,Zr,Zu,Zv,Zx,Zy,Zz,Z0,Z2,Z5,Z6,Z7,Z9,ZE,ZG,ZK,ZL,ZO,ZP,ZS,ZT,ZU,ZV,ZW,ZY,ZZ,Yb,Yc,Ye,Yj,Ys,Yu,Yx,Yy,Yz,Y0,Y1,Y2,Y4,Y5,Y7,YB,YN,YO,YQ,YT,YV,YX,YY,Xa,Xe,Xf,Xg,Xh,Xk,Xo,Xq,Xs,Xt,Xu,Xw,X0,XJ,XM,XO,XU,XV,XX,XY,XZ,Wa,Wc,We,Wg,Wi,Wn,Wo,Wp,Wy,Wz,W0,W3,W4,W5,W6,W7,W8,W9,WA,WB,WE,WF,WH,WI,WJ,WK,WL,WM,WN,WO,WP,WQ,WR,WS,WV,WW,WX,Vb,Vc,Ve,Vf,Vg,Vo,Vp,Vq,Vr,Vs,Vt,Vu,Vv,V0,V1,V2,V3,V5,V6,V8,V9,VA,VB,VC,VF,VG,VH,VJ,VK,VL,VM,VN,VO,VP,VQ,VR,VT,VU,VV,VW,VX,VY,Ua,Ub,Uc,Ud,Uf,Ui,Uk,Us,Ut,Uu,Uw,Ux,Uy,Uz,U0,U1,U2,U3,U4,U5,U6,U7,U8,U9,UA,UB,UC,UD,UE,UF,UG,UH,UO,UP,UQ,UR,US,UT,UY,UZ,Ta,Tb,Tc,Td,Tf,Tg,Tj,Tk,Tl,Tm,Tq,Tr,Ts,Tt,Tu,Tv,Tw,Tx,Ty,Tz,T3,T4,T5,T7,T9,TA,TB,TC,TF,TG,TH,TI,TK,TN,TO,TP,TQ,TR,TS,TT,TU,TV,Sw,Sx,Sy,SD,SE,SG]; all_goals tactic => exact rfl))
end Go.Proofs.YtpbeclkpohehgaaDoor
namespace Go.Proofs.YtpbeclkpohehgaaDoor
open Go Go.DL
set_option maxRecDepth 100000
set_option maxHeartbeats 4000000

def vld (n : Nat) (b : Nat → Nat) : Nat → List Nat → Prop
  | d,[] => pop d n = n
  | d,k :: ks => k < n ∧ canB b d k = true ∧ vld n b (d ||| 2 ^ k) ks
def ordW (l : Li) : Nat → List Nat → Int
  | _,[] => 0
  | d,k :: ks => mxI (lastF l (d ||| 2 ^ k) k) (ordW l (d ||| 2 ^ k) ks)
theorem mx_le {a c a' c' : Int} (h1 : a ≤ a') (h2 : c ≤ c') : mxI a c ≤ mxI a' c' := by unfold mxI; split <;> split <;> omega
theorem mx_l (a c : Int) : a ≤ mxI a c ∧ c ≤ mxI a c := by unfold mxI; split <;> omega
theorem mx_lt {a c m : Int} (h1 : a ≤ m) (h2 : c ≤ m) : mxI a c ≤ m := by unfold mxI; split <;> omega
theorem vld_len {n : Nat} {b : Nat → Nat} : ∀ {d : Nat} {ks : List Nat},vld n b d ks → pop d n + ks.length = n
  | d,[],h => h
  | d,k :: ks,h => by
    have h1 := (pop_or (can_bit h.2.1) n).1 h.1
    have h2 := vld_len h.2.2
    rw [List.length_cons]
    omega
theorem vld_lt {n : Nat} {b : Nat → Nat} : ∀ {d : Nat} {ks : List Nat},vld n b d ks → ∀ k ∈ ks,k < n
  | d,[],_,k,hk => by simp at hk
  | d,j :: ks,h,k,hk => by
    rcases List.mem_cons.1 hk with rfl | hk
    · exact h.1
    · exact vld_lt h.2.2 k hk
theorem ord_min {l : Li} {b : Nat → Nat} : ∀ {d : Nat} {ks : List Nat},vld l.ls.length b d ks → rstF l b d ≤ ordW l d ks
  | d,[],h => by rw [rest_full h]; exact Int.le_refl _
  | d,k :: ks,h => by
    have h1 := (pop_or (can_bit h.2.1) l.ls.length).1 h.1
    have h2 := pop_le (d ||| 2 ^ k) l.ls.length
    have h3 := rest_le (l := l) (by omega) h.1 h.2.1
    exact Int.le_trans h3 (mx_le (Int.le_refl _) (ord_min h.2.2))
theorem bst_vld {l : Li} (g : Good l) {b : Nat → Nat} (p : Prec l.ls.length b) {w : Int} (hw0 : 0 ≤ w) : ∀ (m d : Nat),d < 2 ^ l.ls.length → l.ls.length - pop d l.ls.length = m → rstF l b d ≤ w → vld l.ls.length b d (bstF l b w d) ∧ ordW l d (bstF l b w d) ≤ w
  | 0,d,hd,hm,hw => by
    have hle := pop_le d l.ls.length
    have e : bstF l b w d = [] := by rw [bstF,hm,bestF]
    rw [e]
    exact ⟨by show pop d l.ls.length = _; omega,hw0⟩
  | m + 1,d,hd,hm,hw => by
    obtain ⟨k,hk⟩ := pick_ex g p hd (by omega) hw
    obtain ⟨h1,h2,h3,h4,h5,_⟩ := bst_some hk
    have hr := mx_l (lastF l (d ||| 2 ^ k) k) (rstF l b (d ||| 2 ^ k))
    unfold wthF at h4
    have ih := bst_vld g p hw0 m (d ||| 2 ^ k) (or_lt hd h2) (by omega) (by omega)
    rw [h1]
    exact ⟨⟨h2,h3,ih.1⟩,mx_lt (by omega) ih.2⟩
theorem best_vld {l : Li} (g : Good l) : vld l.ls.length (behF l.ts) 0 (bestO l) ∧ ordW l 0 (bestO l) = minW l := by
  have p := g.prec
  have h := bst_vld g p (rest_bd g (behF l.ts) 0).1 _ 0 (Nat.two_pow_pos _) rfl (Int.le_refl (minW l))
  exact ⟨h.1,Int.le_antisymm h.2 (ord_min h.1)⟩
theorem Good.kd {l : Li} (g : Good l) {t : Nat} {k : List St} (ht : l.ks[t]? = some k) {m m' : Int} (hm : m ≤ m') : ∀ i,i ≤ k.length → soN k m i ≤ soN k m' i ∧ (∀ x,i < k.length → k[i]? = some x → soN k m' i < x.s)
  | 0,_ => ⟨Int.le_refl _,fun x hi hx => by
    have := g.st ht hx
    rw [soN]; omega⟩
  | i + 1,hi => by
    obtain ⟨y,hy⟩ := at_ix (l := k) (i := i) (by omega)
    obtain ⟨h1,h2⟩ := g.kd ht hm i (by omega)
    have h2 := h2 y (by omega) hy
    have up : soN k m' (i + 1) ≤ y.s := by
      rcases soN_up (m := m') hy with ⟨_,h⟩ | ⟨_,h⟩ <;> rw [h] <;> omega
    refine ⟨?_,fun x hi hx => ?_⟩
    · rcases soN_up (m := m) hy with ⟨a1,h3⟩ | ⟨a1,h3⟩
      · rcases soN_up (m := m') hy with ⟨_,h4⟩ | ⟨a2,_⟩
        · rw [h3,h4]; exact Int.le_refl _
        · have a1 := of_eq_true a1
          have a2 := of_eq_false a2
          omega
      · rcases soN_up (m := m') hy with ⟨_,h4⟩ | ⟨_,h4⟩
        · rw [h3,h4]; omega
        · rw [h3,h4]; exact h1
    · have hr := (g.st ht hx).2.2.2.2
      rw [(pr_up hy).2] at hr
      omega
theorem so_mono {l : Li} (g : Good l) {t : Nat} {k : List St} (ht : l.ks[t]? = some k) {m m' : Int} (hm : m ≤ m') : sourF k m ≤ sourF k m' := (g.kd ht hm _ (Nat.le_refl _)).1
end Go.Proofs.YtpbeclkpohehgaaDoor
namespace Go.Proofs.YtpbeclkpohehgaaDoor
open Go Go.DL
set_option maxRecDepth 100000
set_option maxHeartbeats 4000000

theorem firstN_z {f : Nat → Int} : ∀ n,(∀ i,i < n → f i = 0) → firstN f n = 0
  | 0,_ => rfl
  | n + 1,h => by rw [firstN,firstN_z n fun i hi => h i (by omega),if_pos rfl]; exact h n (by omega)
theorem ix_mem {α : Type} {l : List α} {i : Nat} {d : α} (h : i < l.length) : l.getD i d ∈ l := by
  obtain ⟨x,hx⟩ := at_ix h
  rw [getD_of hx]
  exact List.mem_of_getElem? hx
theorem nodup_ix {t : List Int} (h : t.Nodup) {i j : Nat} (hi : i < j) (hj : j < t.length) : t.getD i 0 ≠ t.getD j 0 := by
  obtain ⟨x,hx⟩ := at_ix (l := t) (i := i) (by omega)
  obtain ⟨y,hy⟩ := at_ix hj
  rw [getD_of hx,getD_of hy]
  have := List.pairwise_iff_getElem.1 h i j (by omega) hj hi
  rw [(List.getElem?_eq_some_iff.1 hx).2,(List.getElem?_eq_some_iff.1 hy).2] at this
  exact this
theorem tracks_ok {n : Nat} {T : List (List Int)} (h1 : ∀ t ∈ T,t ≠ []) (h2 : ∀ t ∈ T,∀ v ∈ t,0 ≤ v ∧ v < n) (h3 : ∀ t ∈ T,t.Nodup) (h4 : T.Pairwise fun s t => ∀ v ∈ s,v ∉ t) (h5 : ∀ k : Nat,k < n → ∃ t,t ∈ T ∧ (k : Int) ∈ t) : tracksE n T = 0 := by
  have er : ∀ j,j < T.length → errT n (T.getD j []) (accT T j) = 0 := by
    intro j hj
    have hT : T.getD j [] ∈ T := ix_mem hj
    unfold errT
    have hne := h1 _ hT
    rw [if_neg fun hz => hne (List.eq_nil_of_length_eq_zero hz)]
    refine firstN_z _ fun i hi => ?_
    have hv := ix_mem (d := 0) hi
    have hr := h2 _ hT _ hv
    rcases elE_of (n := n) (all := allT (T.getD j []) (accT T j) i) ((T.getD j []).getD i 0) with ⟨_,_,_,h⟩ | ⟨_,_,hb,_⟩ | ⟨hb,_⟩
    · exact h
    · exfalso
      rcases allT_bit.1 hb with h | ⟨i',h6,h7⟩
      · obtain ⟨j',h6,i',h7,h8⟩ := accT_bit.1 h
        have hT' : T.getD j' [] ∈ T := ix_mem (by omega)
        have hv' := ix_mem (d := 0) h7
        have hr' := h2 _ hT' _ hv'
        have he : (T.getD j' []).getD i' 0 = (T.getD j []).getD i 0 := by unfold plc at h8; omega
        rw [he] at hv'
        obtain ⟨s,hs⟩ := at_ix (l := T) (i := j') (by omega)
        obtain ⟨t,ht⟩ := at_ix hj
        have hp := List.pairwise_iff_getElem.1 h4 j' j (by omega) hj h6
        rw [(List.getElem?_eq_some_iff.1 hs).2,(List.getElem?_eq_some_iff.1 ht).2] at hp
        rw [getD_of hs] at hv'
        rw [getD_of ht] at hv hv'
        exact hp _ hv' hv
      · have hv' := ix_mem (l := T.getD j []) (d := 0) (i := i') (by omega)
        have hr' := h2 _ hT _ hv'
        exact nodup_ix (h3 _ hT) h6 hi (by omega)
    · have : btw 0 ((T.getD j []).getD i 0) ((n : Int) - 1) = true := btwF.2 (by omega)
      rw [hb] at this; simp at this
  unfold tracksE
  rw [if_pos (firstN_z _ er)]
  have : pop (accT T T.length) n = n := pop_full.2 fun k hk => by
    obtain ⟨t,h6,h7⟩ := h5 k hk
    obtain ⟨j,hj⟩ := List.getElem?_of_mem h6
    obtain ⟨i,hi⟩ := List.getElem?_of_mem h7
    exact accT_bit.2 ⟨j,lt_of hj,i,by rw [getD_of hj]; exact lt_of hi,by rw [plc,getD_of hj,getD_of hi,Int.toNat_natCast]⟩
  rw [if_neg (by omega)]
theorem put_mem {x : P5} {i : Nat} {T : List Int} {v : Int} : v ∈ putT x i T ↔ v = (i : Int) ∨ v ∈ T := by
  unfold putT
  split
  · rw [List.mem_cons]
  · rw [List.mem_append,List.mem_singleton]; exact Or.comm
theorem put_nodup {x : P5} {i : Nat} {T : List Int} (h : T.Nodup) (hi : (i : Int) ∉ T) : (putT x i T).Nodup := by
  unfold putT
  split
  · exact List.nodup_cons.2 ⟨hi,h⟩
  · rw [List.nodup_append]
    refine ⟨h,by simp,fun a ha b hb => ?_⟩
    rw [List.mem_singleton] at hb
    subst hb
    intro hc
    subst hc
    exact hi ha
structure TrOk (q : Qu) (i : Nat) : Prop where
  bd : ∀ t,∀ v ∈ trN q i t,0 ≤ v ∧ v < i
  nd : ∀ t,(trN q i t).Nodup
  dj : ∀ t t',t ≠ t' → ∀ v ∈ trN q i t,v ∉ trN q i t'
  all : ∀ k : Nat,k < i → ∃ t,t < 3 ∧ (k : Int) ∈ trN q i t
theorem tr_ok (q : Qu) : ∀ i,TrOk q i
  | 0 => ⟨fun t v hv => by simp [trN] at hv,fun t => by simp [trN],fun t t' _ v hv => by simp [trN] at hv,fun k hk => by omega⟩
  | i + 1 => by
    have ih := tr_ok q i
    have hi : ∀ t,(i : Int) ∉ trN q i t := fun t h => by have := ih.bd t _ h; omega
    have mem : ∀ t v,v ∈ trN q (i + 1) t ↔ ((q.ls.getD i ⟨0,0,0,0,0⟩).e / 2 % 3 = t ∧ v = (i : Int)) ∨ v ∈ trN q i t := by
      intro t v
      rw [trN]
      unfold upT
      by_cases h : (q.ls.getD i ⟨0,0,0,0,0⟩).e / 2 % 3 = t
      · rw [if_pos h,put_mem]
        exact ⟨fun h2 => h2.elim (fun h3 => .inl ⟨h,h3⟩) .inr,fun h2 => h2.elim (fun h3 => .inl h3.2) .inr⟩
      · rw [if_neg h]
        exact ⟨.inr,fun h2 => h2.elim (fun h3 => absurd h3.1 h) id⟩
    refine ⟨fun t v hv => ?_,fun t => ?_,fun t t' ht v hv hv' => ?_,fun k hk => ?_⟩
    · rcases (mem t v).1 hv with ⟨_,rfl⟩ | h
      · omega
      · have := ih.bd t v h; omega
    · rw [trN]
      unfold upT
      split
      · exact put_nodup (ih.nd t) (hi t)
      · exact ih.nd t
    · rcases (mem t v).1 hv with ⟨h1,rfl⟩ | h
      · rcases (mem t' _).1 hv' with ⟨h2,_⟩ | h2
        · exact ht (h1.symm.trans h2)
        · exact hi t' h2
      · rcases (mem t' _).1 hv' with ⟨_,rfl⟩ | h2
        · exact hi t h
        · exact ih.dj t t' ht v h h2
    · by_cases hki : k = i
      · subst hki
        exact ⟨(q.ls.getD k ⟨0,0,0,0,0⟩).e / 2 % 3,by omega,(mem _ _).2 (.inl ⟨rfl,rfl⟩)⟩
      · obtain ⟨t,h1,h2⟩ := ih.all k (by omega)
        exact ⟨t,h1,(mem _ _).2 (.inr h2)⟩
theorem nz_mem {T0 T1 T2 t : List Int} : t ∈ nzT T0 T1 T2 ↔ (t = T0 ∨ t = T1 ∨ t = T2) ∧ t ≠ [] := by
  unfold nzT
  rw [List.mem_filter]
  simp [List.isEmpty_iff]
theorem md_tracks (q : Qu) (n : Nat) (hn : n = fewL q) : tracksE n (nzT (trN q (fewL q) 0) (trN q (fewL q) 1) (trN q (fewL q) 2)) = 0 := by
  have h := tr_ok q (fewL q)
  subst hn
  refine tracks_ok (fun t ht => (nz_mem.1 ht).2) (fun t ht v hv => ?_) (fun t ht => ?_) ?_ (fun k hk => ?_)
  · rcases (nz_mem.1 ht).1 with rfl | rfl | rfl <;> exact h.bd _ v hv
  · rcases (nz_mem.1 ht).1 with rfl | rfl | rfl <;> exact h.nd _
  · unfold nzT
    refine List.Pairwise.filter _ ?_
    simp only [List.pairwise_cons,List.mem_cons,List.not_mem_nil,or_false,false_implies,implies_true,List.Pairwise.nil,and_true,forall_eq_or_imp,forall_eq]
    exact ⟨⟨h.dj 0 1 (by decide),h.dj 0 2 (by decide)⟩,h.dj 1 2 (by decide)⟩
  · obtain ⟨t,h1,h2⟩ := h.all k hk
    refine ⟨trN q (fewL q) t,nz_mem.2 ⟨?_,fun hc => by rw [hc] at h2; simp at h2⟩,h2⟩
    match t,h1 with
    | 0,_ => exact .inl rfl
    | 1,_ => exact .inr (.inl rfl)
    | 2,_ => exact .inr (.inr rfl)
theorem st_get {x : List P2} : ∀ {m i : Nat},i < m → (stN x m)[i]? = some ⟨(afN x (i + 1) : Nat),(nnN x (i + 1) : Nat)⟩
  | 0,i,h => by omega
  | m + 1,i,h => by
    rw [stN]
    by_cases hi : i = m
    · subst hi
      rw [List.getElem?_append_right (by rw [stN_len]; omega),stN_len,Nat.sub_self]
      rfl
    · rw [List.getElem?_append_left (by rw [stN_len]; omega)]
      exact st_get (by omega)
theorem md_kind {x : List P2} (hx : ∀ y ∈ x,y.a < 256 ∧ y.b < 256) : chkD (mdK x) = 0 := by
  have hl : (mdK x).length = fewK x := stN_len x _
  have h4 : fewK x ≤ 4 ∧ fewK x ≤ x.length := by unfold fewK; omega
  unfold chkD
  rw [hl,if_neg (by omega)]
  refine firstN_z _ fun i hi => ?_
  have hg : (mdK x)[i]? = some ⟨(afN x (i + 1) : Nat),(nnN x (i + 1) : Nat)⟩ := st_get hi
  have bd := af_bd hx (i + 1) (by omega)
  have pr : prA (mdK x) i < (afN x (i + 1) : Nat) ∧ prS (mdK x) i < (nnN x (i + 1) : Nat) ∧ 1 ≤ nnN x (i + 1) := by
    cases i with
    | zero =>
      have e1 : prA (mdK x) 0 = -1 := rfl
      have e2 : prS (mdK x) 0 = 0 := rfl
      rw [e1,e2,afN,nnN]
      omega
    | succ j =>
      have hg' : (mdK x)[j]? = some ⟨(afN x (j + 1) : Nat),(nnN x (j + 1) : Nat)⟩ := st_get (by omega)
      have e := pr_up hg'
      have e3 : afN x (j + 1 + 1) = afN x (j + 1) + 1 + (x.getD (j + 1) ⟨0,0⟩).a := rfl
      have e4 : nnN x (j + 1 + 1) = nnN x (j + 1) + 1 + (x.getD (j + 1) ⟨0,0⟩).b % 9 := rfl
      rw [e.1,e.2]
      dsimp only
      omega
  rcases kErr_of hg with ⟨_,_,_,_,h⟩ | ⟨_,_,_,h,_⟩ | ⟨_,_,h,_⟩ | ⟨_,h,_⟩ | ⟨h,_⟩
  · exact h
  · have := of_eq_true h; dsimp only at this; omega
  · have := of_eq_true h; dsimp only at this; omega
  · have : btw 1 ((nnN x (i + 1) : Nat) : Int) 1000000 = true := btwF.2 (by omega)
    rw [this] at h; simp at h
  · have : btw 0 ((afN x (i + 1) : Nat) : Int) 100000 = true := btwF.2 (by omega)
    rw [this] at h; simp at h
theorem md_ls {q : Qu} : (lsN q (fewL q)).length = fewL q := by unfold lsN fewL; rw [List.length_map,List.length_take]; omega
theorem md_good {q : Qu} (hq : q.Ok) : checkL (mdL q) = 0 := by
  unfold checkL
  have hk : kindsE (mdL q).ks = 0 := by
    unfold kindsE
    rw [if_neg (by simp [mdL])]
    refine firstN_z _ fun i hi => ?_
    have hi2 : i < 2 := hi
    match i,hi2 with
    | 0,_ => exact md_kind hq.k0
    | 1,_ => exact md_kind hq.k1
  have hm : fewL q ≤ 5 := by unfold fewL; omega
  have hl : (mdL q).ls.length = fewL q := md_ls
  have hs := hq.s
  rw [if_pos hk,if_neg (by omega)]
  have hld : firstN (ldEr (mdL q)) (mdL q).ls.length = 0 := by
    refine firstN_z _ fun i hi => ?_
    have hi2 : i < q.ls.length ∧ i < fewL q := by unfold fewL at *; omega
    obtain ⟨x,hx⟩ := at_ix hi2.1
    have hb := hq.ls x (List.mem_of_getElem? hx)
    have hg : (mdL q).ls[i]? = some x.ld := by
      show (lsN q (fewL q))[i]? = _
      unfold lsN
      rw [List.getElem?_map,List.getElem?_take,if_pos hi2.2,hx]; rfl
    unfold ldEr
    rw [getD_of hg]
    have hks : (mdL q).ks.length = 2 := rfl
    rw [hks]
    rcases ldE_of 2 x.ld with ⟨_,_,_,h⟩ | ⟨_,_,h,_⟩ | ⟨_,h,_⟩ | ⟨h,_⟩
    · exact h
    · have : inS x.ld.cl x.ld.ch 1 10000 = true := inSF.2 (by unfold P5.ld; dsimp only; omega)
      rw [this] at h; simp at h
    · have : inS x.ld.al x.ld.ah 0 100000 = true := inSF.2 (by unfold P5.ld; dsimp only; omega)
      rw [this] at h; simp at h
    · have : btw 0 x.ld.k (((2 : Nat) : Int) - 1) = true := btwF.2 (by unfold P5.ld; dsimp only; omega)
      rw [this] at h; simp at h
  rw [if_pos hld]
  have ht : tracksE (mdL q).ls.length (mdL q).ts = 0 := md_tracks q _ hl
  have hst : inS (mdL q).lo (mdL q).hi 0 100000 = true := inSF.2 (by unfold mdL; dsimp only; omega)
  rw [if_pos ht,hst]
  rfl
theorem md_fit (q : Qu) : (mdL q).Fit := by
  have hm : fewL q ≤ 5 := by unfold fewL; omega
  refine ⟨?_,fun t ht => ?_⟩
  · have : (nzT (trN q (fewL q) 0) (trN q (fewL q) 1) (trN q (fewL q) 2)).length ≤ 3 := by
      unfold nzT
      exact Nat.le_trans (List.length_filter_le _ _) (by simp)
    show (nzT _ _ _).length ≤ _
    omega
  · have h := tr_len q (fewL q)
    rcases (nz_mem.1 ht).1 with rfl | rfl | rfl
    · have := h 0; omega
    · have := h 1; omega
    · have := h 2; omega
end Go.Proofs.YtpbeclkpohehgaaDoor
namespace Go.Proofs.YtpbeclkpohehgaaDoor
open Go Go.DL
set_option maxRecDepth 100000
set_option maxHeartbeats 4000000

def cO (L : List (List Int)) : List AV := L.map fun os => rI os
theorem cO_gr (L : List (List Int)) : grL (cO L) = true := by
  induction L with
  | nil => rfl
  | cons a r ih => rw [cO,List.map_cons,grL]; exact ih
theorem cO_nm (L : List (List Int)) : nmL (cO L) = [] := by
  induction L with
  | nil => rfl
  | cons a r ih => rw [cO,List.map_cons,nmL]; exact ih
theorem cO_sl (L : List (List Int)) : slL (cO L) = [] := by
  induction L with
  | nil => rfl
  | cons a r ih => rw [cO,List.map_cons,slL]; exact ih
theorem cO_len (L : List (List Int)) : (cO L).length = L.length := by simp [cO]
theorem cO_ch (L : List (List Int)) : chunks (cO L) 0 1 L.length = L.map fun os => [rI os] := by
  have := chunksV (cO L) []
  rw [List.nil_append,show ([] : List AV).length = 0 from rfl,cO_len] at this
  rw [this,cO,List.map_map]
  rfl
def cnN (b : Nat → Nat) (d k : Nat) : Nat → Bool
  | 0 => !d.testBit k
  | j + 1 => cnN b d k j && (d.testBit j || !(b k).testBit j)
theorem cnN_iff {b : Nat → Nat} {d k : Nat} : ∀ n,(cnN b d k n = true ↔ d.testBit k = false ∧ ∀ j,j < n → (b k).testBit j = true → d.testBit j = true)
  | 0 => by
    rw [cnN]
    cases d.testBit k <;> simp
  | n + 1 => by
    rw [cnN,Bool.and_eq_true,cnN_iff n]
    constructor
    · rintro ⟨⟨h1,h2⟩,h3⟩
      refine ⟨h1,fun j hj hb => ?_⟩
      by_cases hjn : j = n
      · subst hjn
        rw [hb] at h3
        simpa using h3
      · exact h2 j (by omega) hb
    · rintro ⟨h1,h2⟩
      refine ⟨⟨h1,fun j hj => h2 j (by omega)⟩,?_⟩
      cases hb : (b k).testBit n with
      | false => simp
      | true => rw [h2 n (by omega) hb]; rfl
theorem cn_can {n : Nat} {b : Nat → Nat} (p : Prec n b) (hn : n ≤ 10) {d k : Nat} (hd : d < 2 ^ n) : cnN b d k n = canB b d k := by
  apply Bool.eq_iff_iff.2
  rw [cnN_iff,canB_iff p hn hd]
  constructor
  · rintro ⟨h1,h2⟩
    refine ⟨h1,fun i hi => ?_⟩
    by_cases hin : i < n
    · exact h2 i hin hi
    · rw [bit_lt (p.lt k) (by omega)] at hi; simp at hi
  · rintro ⟨h1,h2⟩
    exact ⟨h1,fun j _ => h2 j⟩
end Go.Proofs.YtpbeclkpohehgaaDoor
namespace Go.Proofs.YtpbeclkpohehgaaDoor
open Go Go.DL
set_option maxRecDepth 100000
set_option maxHeartbeats 4000000
section
variable {l : Li}
end
end Go.Proofs.YtpbeclkpohehgaaDoor
namespace Go.Proofs.YtpbeclkpohehgaaDoor
open Go Go.DL
set_option maxRecDepth 100000
set_option maxHeartbeats 4000000
section
variable {l : Li}
end
end Go.Proofs.YtpbeclkpohehgaaDoor
namespace Go.Proofs.YtpbeclkpohehgaaDoor
open Go Go.DL
set_option maxRecDepth 100000
set_option maxHeartbeats 4000000

theorem allT_ext {t t' : List Int} {a : Nat} : ∀ i,(∀ j,j < i → t.getD j 0 = t'.getD j 0) → allT t a i = allT t' a i
  | 0,_ => rfl
  | i + 1,h => by rw [allT,allT,allT_ext i fun j hj => h j (by omega),h i (by omega)]
theorem allT_snoc (os : List Int) (k : Nat) : allT (os ++ [(k : Int)]) 0 (os ++ [(k : Int)]).length = allT os 0 os.length ||| 2 ^ k := by
  rw [List.length_append,List.length_singleton,allT,allT_ext (t' := os) os.length fun j hj => by
    obtain ⟨x,hx⟩ := at_ix hj
    rw [getD_of hx,getD_of (by rw [List.getElem?_append_left hj]; exact hx)]]
  have : (os ++ [(k : Int)]).getD os.length 0 = (k : Int) := getD_of (by rw [List.getElem?_append_right (Nat.le_refl _),Nat.sub_self]; rfl)
  rw [this,Int.toNat_natCast]
section
variable {l : Li}
end
end Go.Proofs.YtpbeclkpohehgaaDoor
namespace Go.Proofs.YtpbeclkpohehgaaDoor
open Go Go.DL
set_option maxRecDepth 100000
set_option maxHeartbeats 4000000
section
variable {l : Li}
end
theorem fR_or {l : Li} {d k : Nat} (h : d.testBit k = false) : ∀ n,(k < n → fR (enS l) l.hi (d ||| 2 ^ k) n = fR (enS l) l.hi d n + (ldN l k).ch) ∧ (n ≤ k → fR (enS l) l.hi (d ||| 2 ^ k) n = fR (enS l) l.hi d n)
  | 0 => ⟨fun h => by omega,fun _ => rfl⟩
  | n + 1 => by
    have ih := fR_or (l := l) h n
    rw [fR,fR,or_bit]
    constructor
    · intro hk
      by_cases hkn : k = n
      · subst hkn
        rw [ih.2 (Nat.le_refl _),h,decide_eq_true rfl]
        rfl
      · rw [ih.1 (by omega),decide_eq_false hkn,Bool.or_false]
        split
        · show fR (enS l) l.hi d n + (ldN l k).ch + (ldN l n).ch = fR (enS l) l.hi d n + (ldN l n).ch + (ldN l k).ch
          omega
        · rfl
    · intro hk
      rw [ih.2 (by omega),decide_eq_false (by omega : ¬ k = n),Bool.or_false]
theorem end_or {l : Li} (g : Good l) {d k : Nat} (hd : d < 2 ^ l.ls.length) (hk : k < l.ls.length) (h : d.testBit k = false) : endF l (d ||| 2 ^ k) = endF l d + (ldN l k).ch := by
  have e1 : fR (enS l) l.hi (d ||| 2 ^ k) l.ls.length = endF l (d ||| 2 ^ k) := fR_el (or_lt hd hk) g.few
  have e2 : fR (enS l) l.hi d l.ls.length = endF l d := fR_el hd g.few
  rw [← e1,← e2]
  exact (fR_or h _).1 hk
theorem end_0 (l : Li) : endF l 0 = l.hi := rfl
end Go.Proofs.YtpbeclkpohehgaaDoor
namespace Go.Proofs.YtpbeclkpohehgaaDoor
open Go Go.DL
set_option maxRecDepth 100000
set_option maxHeartbeats 4000000

section
variable {l : Li}
end
end Go.Proofs.YtpbeclkpohehgaaDoor
namespace Go.Proofs.YtpbeclkpohehgaaDoor
open Go Go.DL
set_option maxRecDepth 100000
set_option maxHeartbeats 4000000

theorem ord_ok0 {n : Nat} {b : Nat → Nat} (p : Prec n b) (hn : n ≤ 10) {o : List Int} : ∀ (ks : List Nat) (i d : Nat),d < 2 ^ n → vld n b d ks → o.drop i = ofN ks → allT o 0 i = d → i + ks.length = o.length → ∀ j,i ≤ j → j < o.length → ordE n b (allT o 0 j) (o.getD j 0) = 0
  | [],i,d,_,_,_,_,hl,j,h1,h2 => by simp at hl; omega
  | k :: ks,i,d,hd,hv,ho,ha,hl,j,h1,h2 => by
    rw [ofN_c] at ho
    have hi : o[i]? = some (k : Int) := by
      have := congrArg (fun q => q[0]?) ho
      simpa using this
    have ho2 : o.drop (i + 1) = ofN ks := by
      have := congrArg (List.drop 1) ho
      rw [List.drop_drop] at this
      simpa using this
    have hc := (canB_iff p hn hd).1 hv.2.1
    by_cases hj : j = i
    · subst hj
      rw [getD_of hi,ha]
      have e := Int.toNat_natCast k
      have lb := lt_10 (p.lt k) hn
      have ld := lt_10 hd hn
      rcases ordE_of (n := n) (b := b) (a := d) (k : Int) with ⟨_,_,_,_,h⟩ | ⟨_,_,_,h,_⟩ | ⟨_,_,h,_⟩ | ⟨h,_⟩
      · exact h
      · rw [e] at h
        exact absurd ((dif_zero (by omega) (by omega)).2 hc.2) h
      · rw [e,hc.1] at h; simp at h
      · have := hv.1
        have : btw 0 (k : Int) ((n : Int) - 1) = true := btwF.2 (by omega)
        rw [this] at h; simp at h
    · refine ord_ok0 p hn ks (i + 1) (d ||| 2 ^ k) (or_lt hd hv.1) hv.2.2 ho2 ?_ ?_ j (by omega) h2
      · rw [allT,getD_of hi,Int.toNat_natCast,ha]
      · rw [List.length_cons] at hl; omega
theorem ord_ok {l : Li} (g : Good l) (hc : checkL l = 0) {ks : List Nat} (h : vld l.ls.length (behF l.ts) 0 ks) : runE l (ofN ks) = 0 := by
  have hl := vld_len h
  rw [pop_0] at hl
  have ol := ofN_len ks
  unfold runE
  rw [if_pos hc]
  unfold orderE
  rw [if_pos (by omega)]
  exact firstN_z _ fun j hj => ord_ok0 g.prec g.few ks 0 0 (Nat.two_pow_pos _) h List.drop_zero rfl (by omega) j (by omega) hj
end Go.Proofs.YtpbeclkpohehgaaDoor
namespace Go.Proofs.YtpbeclkpohehgaaDoor
open Go Go.DL
set_option maxRecDepth 100000
set_option maxHeartbeats 4000000

end Go.Proofs.YtpbeclkpohehgaaDoor
namespace Go.Proofs.YtpbeclkpohehgaaDoor
open Go Go.DL
set_option maxRecDepth 100000
set_option maxHeartbeats 4000000

section
variable {l : Li}
end
end Go.Proofs.YtpbeclkpohehgaaDoor
namespace Go.Proofs.YtpbeclkpohehgaaDoor
open Go Go.DL
set_option maxRecDepth 100000
set_option maxHeartbeats 4000000

theorem met_bit {os : List Int} (hv : ∀ v ∈ os,0 ≤ v) (j : Nat) : metN os (j : Int) os.length = (allT os 0 os.length).testBit j := by
  apply Bool.eq_iff_iff.2
  rw [met_iff,allT_bit,Nat.zero_testBit]
  constructor
  · rintro ⟨i,hi,h⟩
    exact .inr ⟨i,hi,by rw [h,Int.toNat_natCast]⟩
  · rintro (h | ⟨i,hi,h⟩)
    · simp at h
    · obtain ⟨x,hx⟩ := at_ix hi
      rw [getD_of hx] at h
      have := hv x (List.mem_of_getElem? hx)
      exact ⟨i,hi,by rw [getD_of hx]; omega⟩
theorem met_up {os : List Int} {j v : Int} {i : Nat} (hx : os[i]? = some v) : metN os j (i + 1) = (metN os j i || decide (v = j)) := by rw [metN,getD_of hx]
def cB (os : List Int) : Nat := if os = [] then 1 else 2
theorem cB_0 : cB [] = 1 := rfl
theorem cB_ne {os : List Int} (h : os ≠ []) : cB os = 2 := if_neg h
theorem oS_ne {b : Nat} {os : List Int} (h : os ≠ []) : oS b os = .sl b 0 1 os.length := by
  cases os with
  | nil => exact absurd rfl h
  | cons a r => rfl
theorem oG_ne {os : List Int} (h : os ≠ []) : oG os = [some (.blk true (.cells true (os.map I)))] := by
  cases os with
  | nil => exact absurd rfl h
  | cons a r => rfl
theorem ne_ix {os : List Int} {i : Nat} {v : Int} (h : os[i]? = some v) : os ≠ [] := by rintro rfl; simp at h
section
variable {l : Li}
theorem round40a (R : List (List AV)) (x : Int) {n : Nat} {os cs : List Int} (hl : os.length ≤ 10) {k i : Nat} {v : Int} (hv : os[i]? = some v) (f r : Bool) (hr : r = (f && !decide (v = (k : Int)))) :
    headX 0 [1,2,5,6,7,8,9,27,28,31,32,33] (execW progX 40 0 none (match x40l0 with | .loop _ a => a | c => c) (envL [1,2,5,6,7,8,9,27,28,31,32,33] [.fs R,.pt 0 0,oS 1 os,I x,oS (cB os) cs,I (k : Nat),.bool f,I (n : Nat),I (k : Nat),oS 1 os,I os.length,I (i : Nat)]) ([some (.blk true (.cells true l.c))] ++ (oG os ++ oG cs))) =
      some ([.fs R,.pt 0 0,oS 1 os,I x,oS (cB os) cs,I (k : Nat),.bool r,I (n : Nat),I (k : Nat),oS 1 os,I os.length,I (i + 1 : Nat)],[some (.blk true (.cells true l.c))] ++ (oG os ++ oG cs)) := by
  have a1 := lt_ix (lt_of hv)
  have a2 := up_ix (lt_of hv) (by omega)
  subst hr
  rw [oS_ne (ne_ix hv),oG_ne (ne_ix hv),cB_ne (ne_ix hv)]
  unfold x40l0
  dsimp only
  by_cases hvk : v = (k : Int)
  · have q : (v = (k : Int)) = True := eq_true hvk
    cases cs <;> cases f <;> (sym => (simp [Za,Zb,Zf,Zh,Zl,Zm,Zo,Zp,Zr,Zu,Zx,Z2,Z8,ZG,ZV,ZW,Yf,Yj,Yr,Ys,Yv,Yw,YQ,YR,YV,YX,YY,Xa,Xo,Xp,Xs,Xt,Xu,Xw,Wy,Wz,W0,WA,WB,WE,WF,WH,WI,WJ,WL,WN,WO,WP,WQ,WV,WW,Vb,VL,VM,VN,VO,VP,VU,VV,VW,VX,VY,Ua,Ue,Uf,Ui,Uk,Ul,Um,Us,Uv,Uw,Ux,Uy,U2,U3,U4,U5,Tf,Tg,Tk,Tv,Tw,Ty,T3,T4,T7,TA,TB,TC,TF,TG,TH,TR,TS,TT,TU,a1,a2,hv,q]; all_goals tactic => exact rfl))
  · have q : (v = (k : Int)) = False := eq_false hvk
    cases cs <;> cases f <;> (sym => (simp [Za,Zb,Zf,Zh,Zl,Zm,Zo,Zp,Zr,Zu,Zx,Z2,Z8,ZG,ZV,ZW,Yf,Yj,Yr,Ys,Yv,Yw,YQ,YR,YV,YX,YY,Xa,Xo,Xp,Xs,Xt,Xu,Xw,Wy,Wz,W0,WA,WB,WE,WF,WH,WI,WJ,WL,WN,WO,WP,WQ,WV,WW,Vb,VL,VM,VN,VO,VP,VU,VV,VW,VX,VY,Ua,Ue,Uf,Ui,Uk,Ul,Um,Us,Uv,Uw,Ux,Uy,U2,U3,U4,U5,Tf,Tg,Tk,Tv,Tw,Ty,T3,T4,T7,TA,TB,TC,TF,TG,TH,TR,TS,TT,TU,a1,a2,hv,q]; all_goals tactic => exact rfl))
theorem round40b (R : List (List AV)) (x : Int) {n : Nat} {os cs : List Int} (hl : os.length ≤ 10) {k j i : Nat} {v : Int} (hv : os[i]? = some v) (g f r : Bool) (hr : r = (f || decide (v = (j : Int)))) :
    headX 0 [1,2,5,6,7,8,9,12,13,27,28,46,47,50,51,52] (execW progX 40 0 none (match x40l1 with | .loop _ a => a | c => c) (envL [1,2,5,6,7,8,9,12,13,27,28,46,47,50,51,52] [.fs R,.pt 0 0,oS 1 os,I x,oS (cB os) cs,I (k : Nat),.bool g,I (j : Nat),.bool f,I (n : Nat),I (k : Nat),I (n : Nat),I (j : Nat),oS 1 os,I os.length,I (i : Nat)]) ([some (.blk true (.cells true l.c))] ++ (oG os ++ oG cs))) =
      some ([.fs R,.pt 0 0,oS 1 os,I x,oS (cB os) cs,I (k : Nat),.bool g,I (j : Nat),.bool r,I (n : Nat),I (k : Nat),I (n : Nat),I (j : Nat),oS 1 os,I os.length,I (i + 1 : Nat)],[some (.blk true (.cells true l.c))] ++ (oG os ++ oG cs)) := by
  have a1 := lt_ix (lt_of hv)
  have a2 := up_ix (lt_of hv) (by omega)
  subst hr
  rw [oS_ne (ne_ix hv),oG_ne (ne_ix hv),cB_ne (ne_ix hv)]
  unfold x40l1
  dsimp only
  by_cases hvk : v = (j : Int)
  · have q : (v = (j : Int)) = True := eq_true hvk
    cases cs <;> cases f <;> (sym => (simp [Za,Zb,Zf,Zh,Zl,Zm,Zo,Zq,Zs,Zu,Zx,Z2,Z8,ZG,ZV,ZW,Yf,Yj,Yq,Ys,Yv,Yw,YQ,YR,YV,YX,YY,Xa,Xo,Xp,Xs,Xt,Xu,Xw,Wy,Wz,W0,WA,WB,WE,WF,WH,WI,WJ,WL,WN,WO,WP,WQ,WV,WW,Vb,VL,VM,VN,VO,VP,VU,VV,VW,VX,VY,Ua,Ue,Uf,Uo,Ur,Us,Uv,Uw,Ux,Uy,U2,U3,U4,U5,Tf,Tg,Tk,Tv,Tw,Ty,T3,T4,T7,TA,TB,TC,TF,TG,TH,TR,TS,TT,TU,a1,a2,hv,q]; all_goals tactic => exact rfl))
  · have q : (v = (j : Int)) = False := eq_false hvk
    cases cs <;> cases f <;> (sym => (simp [Za,Zb,Zf,Zh,Zl,Zm,Zo,Zq,Zs,Zu,Zx,Z2,Z8,ZG,ZV,ZW,Yf,Yj,Yq,Ys,Yv,Yw,YQ,YR,YV,YX,YY,Xa,Xo,Xp,Xs,Xt,Xu,Xw,Wy,Wz,W0,WA,WB,WE,WF,WH,WI,WJ,WL,WN,WO,WP,WQ,WV,WW,Vb,VL,VM,VN,VO,VP,VU,VV,VW,VX,VY,Ua,Ue,Uf,Uo,Ur,Us,Uv,Uw,Ux,Uy,U2,U3,U4,U5,Tf,Tg,Tk,Tv,Tw,Ty,T3,T4,T7,TA,TB,TC,TF,TG,TH,TR,TS,TT,TU,a1,a2,hv,q]; all_goals tactic => exact rfl))
theorem round40c (g : Good l) (hf : l.Fit) (R : List (List AV)) (x : Int) {os cs : List Int} (hl : os.length ≤ 10) {d k j : Nat} (hj : j < l.ls.length) (hd : metN os (j : Int) os.length = d.testBit j) (f r : Bool) (hr : r = (f && (d.testBit j || !(behF l.ts k).testBit j))) :
    headX 0 [1,2,5,6,7,8,9,27,28,46,47] (execW progX 40 0 none (match x40l2 with | .loop _ a => a | c => c) (envL [1,2,5,6,7,8,9,27,28,46,47] [.fs R,.pt 0 0,oS 1 os,I x,oS (cB os) cs,I (k : Nat),.bool f,I l.ls.length,I (k : Nat),I l.ls.length,I (j : Nat)]) ([some (.blk true (.cells true l.c))] ++ (oG os ++ oG cs))) =
      some ([.fs R,.pt 0 0,oS 1 os,I x,oS (cB os) cs,I (k : Nat),.bool r,I l.ls.length,I (k : Nat),I l.ls.length,I (j + 1 : Nat)],[some (.blk true (.cells true l.c))] ++ (oG os ++ oG cs)) := by
  have hn := g.few
  have a1 := lt_ix hj
  have a2 := up_ix hj (by omega)
  have z1 := Te (n := (os.length : Int))
  have e92 := w92 hf (k : Int) (j : Int)
  rw [std_beh g] at e92
  have rd := fun i (hi : i < os.length) => round40b (l := l) R x (n := l.ls.length) (cs := cs) hl (k := k) (j := j) (List.getElem?_eq_getElem hi) f (metN os (j : Int) i) (metN os (j : Int) (i + 1)) (met_up (List.getElem?_eq_getElem hi))
  have h0 : metN os (j : Int) 0 = false := rfl
  subst hr
  generalize (behF l.ts k).testBit j = bb at *
  generalize d.testBit j = db at *
  unfold x40l2
  dsimp only
  by_cases hne : os = []
  · subst hne
    have hd : db = false := hd.symm
    subst hd
    rcases cs with _ | ⟨c,cs⟩
    · simp only [cB_0,TR,TT,List.append_nil]
      sym =>
        simp [Za,Zb,Zf,Zg,Zh,Zj,Zl,Zm,Zo,Zp,Zq,Zr,Zs,Zt,Zu,Zx,Z2,Z4,ZE,ZG,ZO,ZP,ZT,ZU,ZV,ZW,ZX,Yc,Ye,Yj,Ys,Y1,YQ,YR,YT,YV,YX,YY,Xa,Xo,Xp,Xq,Xs,Xt,Xu,Xw,Wy,Wz,W0,W4,W5,W6,W7,WA,WB,WE,WF,WH,WI,WJ,WK,WL,WM,WN,WO,WP,WQ,WR,WS,WV,WW,Vb,Ve,Vf,Vg,Vr,Vt,Vu,Vw,Vx,Vz,VL,VM,VN,VO,VP,VQ,VR,VU,VV,VW,VX,VY,Ua,Ub,Uc,Uf,Ui,Uk,Ul,Um,Uo,Uq,Ur,Uv,Uw,Ux,Uy,U1,U2,U3,U4,U5,Te,Tf,Tg,Tj,Tv,Tw,Ty,Tz,T3,T4,T5,T7,T9,TA,TB,TC,TH,SD,SE,SF,a1]
        tactic =>
          unfold x40l1
          rw [loop_rule 0 (fun i => [.fs R,.pt 0 0,.nilsl,I x,.nilsl,I (k : Nat),.bool f,I (j : Nat),.bool false,I l.ls.length,I (k : Nat),I l.ls.length,I (j : Nat),.nilsl,I 0,I (i : Nat)]) (fun _ => [some (.blk true (.cells true l.c))])]
          · cases f <;> cases bb <;> (sym => (simp [Za,Zb,Zf,Zg,Zh,Zj,Zl,Zm,Zo,Zp,Zq,Zr,Zs,Zt,Zu,Zx,Z2,Z4,ZE,ZG,ZO,ZP,ZT,ZU,ZV,ZW,ZX,Yc,Ye,Yj,Ys,Y1,YQ,YR,YT,YV,YX,YY,Xa,Xo,Xp,Xq,Xs,Xt,Xu,Xw,Wy,Wz,W0,W4,W5,W6,W7,WA,WB,WE,WF,WH,WI,WJ,WK,WL,WM,WN,WO,WP,WQ,WR,WS,WV,WW,Vb,Ve,Vf,Vg,Vr,Vt,Vu,Vw,Vx,Vz,VL,VM,VN,VO,VP,VQ,VR,VU,VV,VW,VX,VY,Ua,Ub,Uc,Uf,Ui,Uk,Ul,Um,Uo,Uq,Ur,Uv,Uw,Ux,Uy,U1,U2,U3,U4,U5,Te,Tf,Tg,Tj,Tv,Tw,Ty,Tz,T3,T4,T5,T7,T9,TA,TB,TC,TH,SD,SE,SF,a1,a2,e92]; all_goals tactic => exact rfl))
          · (sym => (simp [Za,Zb,Zf,Zg,Zh,Zj,Zl,Zm,Zo,Zp,Zq,Zr,Zs,Zt,Zu,Zx,Z2,Z4,ZE,ZG,ZO,ZP,ZT,ZU,ZV,ZW,ZX,Yc,Ye,Yj,Ys,Y1,YQ,YR,YT,YV,YX,YY,Xa,Xo,Xp,Xq,Xs,Xt,Xu,Xw,Wy,Wz,W0,W4,W5,W6,W7,WA,WB,WE,WF,WH,WI,WJ,WK,WL,WM,WN,WO,WP,WQ,WR,WS,WV,WW,Vb,Ve,Vf,Vg,Vr,Vt,Vu,Vw,Vx,Vz,VL,VM,VN,VO,VP,VQ,VR,VU,VV,VW,VX,VY,Ua,Ub,Uc,Uf,Ui,Uk,Ul,Um,Uo,Uq,Ur,Uv,Uw,Ux,Uy,U1,U2,U3,U4,U5,Te,Tf,Tg,Tj,Tv,Tw,Ty,Tz,T3,T4,T5,T7,T9,TA,TB,TC,TH,SD,SE,SF]; all_goals tactic => exact rfl))
          · exact fun i hi => absurd hi (Nat.not_lt_zero i)
          · (sym => (simp [Za,Zb,Zf,Zg,Zh,Zj,Zl,Zm,Zo,Zp,Zq,Zr,Zs,Zt,Zu,Zx,Z2,Z4,ZE,ZG,ZO,ZP,ZT,ZU,ZV,ZW,ZX,Yc,Ye,Yj,Ys,Y1,YQ,YR,YT,YV,YX,YY,Xa,Xo,Xp,Xq,Xs,Xt,Xu,Xw,Wy,Wz,W0,W4,W5,W6,W7,WA,WB,WE,WF,WH,WI,WJ,WK,WL,WM,WN,WO,WP,WQ,WR,WS,WV,WW,Vb,Ve,Vf,Vg,Vr,Vt,Vu,Vw,Vx,Vz,VL,VM,VN,VO,VP,VQ,VR,VU,VV,VW,VX,VY,Ua,Ub,Uc,Uf,Ui,Uk,Ul,Um,Uo,Uq,Ur,Uv,Uw,Ux,Uy,U1,U2,U3,U4,U5,Te,Tf,Tg,Tj,Tv,Tw,Ty,Tz,T3,T4,T5,T7,T9,TA,TB,TC,TH,SD,SE,SF]; all_goals tactic => exact rfl))
    · simp only [cB_0,TR,TT,TS,TU,List.cons_append,List.nil_append]
      sym =>
        simp [Za,Zb,Zf,Zg,Zh,Zj,Zl,Zm,Zo,Zp,Zq,Zr,Zs,Zt,Zu,Zx,Z2,Z4,ZE,ZG,ZO,ZP,ZT,ZU,ZV,ZW,ZX,Yc,Ye,Yj,Ys,Y1,YQ,YR,YT,YV,YX,YY,Xa,Xo,Xp,Xq,Xs,Xt,Xu,Xw,Wy,Wz,W0,W4,W5,W6,W7,WA,WB,WE,WF,WH,WI,WJ,WK,WL,WM,WN,WO,WP,WQ,WR,WS,WV,WW,Vb,Ve,Vf,Vg,Vr,Vt,Vu,Vw,Vx,Vz,VL,VM,VN,VO,VP,VQ,VR,VU,VV,VW,VX,VY,Ua,Ub,Uc,Uf,Ui,Uk,Ul,Um,Uo,Uq,Ur,Uv,Uw,Ux,Uy,U1,U2,U3,U4,U5,Te,Tf,Tg,Tj,Tv,Tw,Ty,Tz,T3,T4,T5,T7,T9,TA,TB,TC,TH,SD,SE,SF,a1]
        tactic =>
          unfold x40l1
          rw [loop_rule 0 (fun i => [.fs R,.pt 0 0,.nilsl,I x,.sl 1 0 1 (cs.length + 1),I (k : Nat),.bool f,I (j : Nat),.bool false,I l.ls.length,I (k : Nat),I l.ls.length,I (j : Nat),.nilsl,I 0,I (i : Nat)]) (fun _ => [some (.blk true (.cells true l.c)),some (.blk true (.cells true (I c :: cs.map I)))])]
          · cases f <;> cases bb <;> (sym => (simp [Za,Zb,Zf,Zg,Zh,Zj,Zl,Zm,Zo,Zp,Zq,Zr,Zs,Zt,Zu,Zx,Z2,Z4,ZE,ZG,ZO,ZP,ZT,ZU,ZV,ZW,ZX,Yc,Ye,Yj,Ys,Y1,YQ,YR,YT,YV,YX,YY,Xa,Xo,Xp,Xq,Xs,Xt,Xu,Xw,Wy,Wz,W0,W4,W5,W6,W7,WA,WB,WE,WF,WH,WI,WJ,WK,WL,WM,WN,WO,WP,WQ,WR,WS,WV,WW,Vb,Ve,Vf,Vg,Vr,Vt,Vu,Vw,Vx,Vz,VL,VM,VN,VO,VP,VQ,VR,VU,VV,VW,VX,VY,Ua,Ub,Uc,Uf,Ui,Uk,Ul,Um,Uo,Uq,Ur,Uv,Uw,Ux,Uy,U1,U2,U3,U4,U5,Te,Tf,Tg,Tj,Tv,Tw,Ty,Tz,T3,T4,T5,T7,T9,TA,TB,TC,TH,SD,SE,SF,a1,a2,e92]; all_goals tactic => exact rfl))
          · (sym => (simp [Za,Zb,Zf,Zg,Zh,Zj,Zl,Zm,Zo,Zp,Zq,Zr,Zs,Zt,Zu,Zx,Z2,Z4,ZE,ZG,ZO,ZP,ZT,ZU,ZV,ZW,ZX,Yc,Ye,Yj,Ys,Y1,YQ,YR,YT,YV,YX,YY,Xa,Xo,Xp,Xq,Xs,Xt,Xu,Xw,Wy,Wz,W0,W4,W5,W6,W7,WA,WB,WE,WF,WH,WI,WJ,WK,WL,WM,WN,WO,WP,WQ,WR,WS,WV,WW,Vb,Ve,Vf,Vg,Vr,Vt,Vu,Vw,Vx,Vz,VL,VM,VN,VO,VP,VQ,VR,VU,VV,VW,VX,VY,Ua,Ub,Uc,Uf,Ui,Uk,Ul,Um,Uo,Uq,Ur,Uv,Uw,Ux,Uy,U1,U2,U3,U4,U5,Te,Tf,Tg,Tj,Tv,Tw,Ty,Tz,T3,T4,T5,T7,T9,TA,TB,TC,TH,SD,SE,SF]; all_goals tactic => exact rfl))
          · exact fun i hi => absurd hi (Nat.not_lt_zero i)
          · (sym => (simp [Za,Zb,Zf,Zg,Zh,Zj,Zl,Zm,Zo,Zp,Zq,Zr,Zs,Zt,Zu,Zx,Z2,Z4,ZE,ZG,ZO,ZP,ZT,ZU,ZV,ZW,ZX,Yc,Ye,Yj,Ys,Y1,YQ,YR,YT,YV,YX,YY,Xa,Xo,Xp,Xq,Xs,Xt,Xu,Xw,Wy,Wz,W0,W4,W5,W6,W7,WA,WB,WE,WF,WH,WI,WJ,WK,WL,WM,WN,WO,WP,WQ,WR,WS,WV,WW,Vb,Ve,Vf,Vg,Vr,Vt,Vu,Vw,Vx,Vz,VL,VM,VN,VO,VP,VQ,VR,VU,VV,VW,VX,VY,Ua,Ub,Uc,Uf,Ui,Uk,Ul,Um,Uo,Uq,Ur,Uv,Uw,Ux,Uy,U1,U2,U3,U4,U5,Te,Tf,Tg,Tj,Tv,Tw,Ty,Tz,T3,T4,T5,T7,T9,TA,TB,TC,TH,SD,SE,SF]; all_goals tactic => exact rfl))
  · rcases cs with _ | ⟨c,cs⟩
    · simp only [oS_ne hne,oG_ne hne,cB_ne hne,TR,TT,List.append_nil,List.cons_append,List.nil_append] at rd ⊢
      sym =>
        simp [Za,Zb,Zf,Zg,Zh,Zj,Zl,Zm,Zo,Zp,Zq,Zr,Zs,Zt,Zu,Zx,Z2,Z4,ZE,ZG,ZO,ZP,ZT,ZU,ZV,ZW,ZX,Yc,Ye,Yj,Ys,Y1,YQ,YR,YT,YV,YX,YY,Xa,Xo,Xp,Xq,Xs,Xt,Xu,Xw,Wy,Wz,W0,W4,W5,W6,W7,WA,WB,WE,WF,WH,WI,WJ,WK,WL,WM,WN,WO,WP,WQ,WR,WS,WV,WW,Vb,Ve,Vf,Vg,Vr,Vt,Vu,Vw,Vx,Vz,VL,VM,VN,VO,VP,VQ,VR,VU,VV,VW,VX,VY,Ua,Ub,Uc,Uf,Ui,Uk,Ul,Um,Uo,Uq,Ur,Uv,Uw,Ux,Uy,U1,U2,U3,U4,U5,Te,Tf,Tg,Tj,Tv,Tw,Ty,Tz,T3,T4,T5,T7,T9,TA,TB,TC,TH,SD,SE,SF,a1]
        tactic =>
          unfold x40l1
          rw [loop_rule os.length (fun i => [.fs R,.pt 0 0,.sl 1 0 1 os.length,I x,.nilsl,I (k : Nat),.bool f,I (j : Nat),.bool (metN os (j : Int) i),I l.ls.length,I (k : Nat),I l.ls.length,I (j : Nat),.sl 1 0 1 os.length,I os.length,I (i : Nat)]) (fun _ => [some (.blk true (.cells true l.c)),some (.blk true (.cells true (os.map I)))])]
          · rw [hd]
            cases f <;> cases bb <;> cases db <;> (sym => (simp [Za,Zb,Zf,Zg,Zh,Zj,Zl,Zm,Zo,Zp,Zq,Zr,Zs,Zt,Zu,Zx,Z2,Z4,ZE,ZG,ZO,ZP,ZT,ZU,ZV,ZW,ZX,Yc,Ye,Yj,Ys,Y1,YQ,YR,YT,YV,YX,YY,Xa,Xo,Xp,Xq,Xs,Xt,Xu,Xw,Wy,Wz,W0,W4,W5,W6,W7,WA,WB,WE,WF,WH,WI,WJ,WK,WL,WM,WN,WO,WP,WQ,WR,WS,WV,WW,Vb,Ve,Vf,Vg,Vr,Vt,Vu,Vw,Vx,Vz,VL,VM,VN,VO,VP,VQ,VR,VU,VV,VW,VX,VY,Ua,Ub,Uc,Uf,Ui,Uk,Ul,Um,Uo,Uq,Ur,Uv,Uw,Ux,Uy,U1,U2,U3,U4,U5,Te,Tf,Tg,Tj,Tv,Tw,Ty,Tz,T3,T4,T5,T7,T9,TA,TB,TC,TH,SD,SE,SF,a1,a2,e92,z1]; all_goals tactic => exact rfl))
          · rw [h0]
            (sym => (simp [Za,Zb,Zf,Zg,Zh,Zj,Zl,Zm,Zo,Zp,Zq,Zr,Zs,Zt,Zu,Zx,Z2,Z4,ZE,ZG,ZO,ZP,ZT,ZU,ZV,ZW,ZX,Yc,Ye,Yj,Ys,Y1,YQ,YR,YT,YV,YX,YY,Xa,Xo,Xp,Xq,Xs,Xt,Xu,Xw,Wy,Wz,W0,W4,W5,W6,W7,WA,WB,WE,WF,WH,WI,WJ,WK,WL,WM,WN,WO,WP,WQ,WR,WS,WV,WW,Vb,Ve,Vf,Vg,Vr,Vt,Vu,Vw,Vx,Vz,VL,VM,VN,VO,VP,VQ,VR,VU,VV,VW,VX,VY,Ua,Ub,Uc,Uf,Ui,Uk,Ul,Um,Uo,Uq,Ur,Uv,Uw,Ux,Uy,U1,U2,U3,U4,U5,Te,Tf,Tg,Tj,Tv,Tw,Ty,Tz,T3,T4,T5,T7,T9,TA,TB,TC,TH,SD,SE,SF]; all_goals tactic => exact rfl))
          · exact rd
          · rw [hd]
            (sym => (simp [Za,Zb,Zf,Zg,Zh,Zj,Zl,Zm,Zo,Zp,Zq,Zr,Zs,Zt,Zu,Zx,Z2,Z4,ZE,ZG,ZO,ZP,ZT,ZU,ZV,ZW,ZX,Yc,Ye,Yj,Ys,Y1,YQ,YR,YT,YV,YX,YY,Xa,Xo,Xp,Xq,Xs,Xt,Xu,Xw,Wy,Wz,W0,W4,W5,W6,W7,WA,WB,WE,WF,WH,WI,WJ,WK,WL,WM,WN,WO,WP,WQ,WR,WS,WV,WW,Vb,Ve,Vf,Vg,Vr,Vt,Vu,Vw,Vx,Vz,VL,VM,VN,VO,VP,VQ,VR,VU,VV,VW,VX,VY,Ua,Ub,Uc,Uf,Ui,Uk,Ul,Um,Uo,Uq,Ur,Uv,Uw,Ux,Uy,U1,U2,U3,U4,U5,Te,Tf,Tg,Tj,Tv,Tw,Ty,Tz,T3,T4,T5,T7,T9,TA,TB,TC,TH,SD,SE,SF,z1]; all_goals tactic => exact rfl))
    · simp only [oS_ne hne,oG_ne hne,cB_ne hne,TS,TU,List.cons_append,List.nil_append] at rd ⊢
      sym =>
        simp [Za,Zb,Zf,Zg,Zh,Zj,Zl,Zm,Zo,Zp,Zq,Zr,Zs,Zt,Zu,Zx,Z2,Z4,ZE,ZG,ZO,ZP,ZT,ZU,ZV,ZW,ZX,Yc,Ye,Yj,Ys,Y1,YQ,YR,YT,YV,YX,YY,Xa,Xo,Xp,Xq,Xs,Xt,Xu,Xw,Wy,Wz,W0,W4,W5,W6,W7,WA,WB,WE,WF,WH,WI,WJ,WK,WL,WM,WN,WO,WP,WQ,WR,WS,WV,WW,Vb,Ve,Vf,Vg,Vr,Vt,Vu,Vw,Vx,Vz,VL,VM,VN,VO,VP,VQ,VR,VU,VV,VW,VX,VY,Ua,Ub,Uc,Uf,Ui,Uk,Ul,Um,Uo,Uq,Ur,Uv,Uw,Ux,Uy,U1,U2,U3,U4,U5,Te,Tf,Tg,Tj,Tv,Tw,Ty,Tz,T3,T4,T5,T7,T9,TA,TB,TC,TH,SD,SE,SF,a1]
        tactic =>
          unfold x40l1
          rw [loop_rule os.length (fun i => [.fs R,.pt 0 0,.sl 1 0 1 os.length,I x,.sl 2 0 1 (cs.length + 1),I (k : Nat),.bool f,I (j : Nat),.bool (metN os (j : Int) i),I l.ls.length,I (k : Nat),I l.ls.length,I (j : Nat),.sl 1 0 1 os.length,I os.length,I (i : Nat)]) (fun _ => [some (.blk true (.cells true l.c)),some (.blk true (.cells true (os.map I))),some (.blk true (.cells true (I c :: cs.map I)))])]
          · rw [hd]
            cases f <;> cases bb <;> cases db <;> (sym => (simp [Za,Zb,Zf,Zg,Zh,Zj,Zl,Zm,Zo,Zp,Zq,Zr,Zs,Zt,Zu,Zx,Z2,Z4,ZE,ZG,ZO,ZP,ZT,ZU,ZV,ZW,ZX,Yc,Ye,Yj,Ys,Y1,YQ,YR,YT,YV,YX,YY,Xa,Xo,Xp,Xq,Xs,Xt,Xu,Xw,Wy,Wz,W0,W4,W5,W6,W7,WA,WB,WE,WF,WH,WI,WJ,WK,WL,WM,WN,WO,WP,WQ,WR,WS,WV,WW,Vb,Ve,Vf,Vg,Vr,Vt,Vu,Vw,Vx,Vz,VL,VM,VN,VO,VP,VQ,VR,VU,VV,VW,VX,VY,Ua,Ub,Uc,Uf,Ui,Uk,Ul,Um,Uo,Uq,Ur,Uv,Uw,Ux,Uy,U1,U2,U3,U4,U5,Te,Tf,Tg,Tj,Tv,Tw,Ty,Tz,T3,T4,T5,T7,T9,TA,TB,TC,TH,SD,SE,SF,a1,a2,e92,z1]; all_goals tactic => exact rfl))
          · rw [h0]
            (sym => (simp [Za,Zb,Zf,Zg,Zh,Zj,Zl,Zm,Zo,Zp,Zq,Zr,Zs,Zt,Zu,Zx,Z2,Z4,ZE,ZG,ZO,ZP,ZT,ZU,ZV,ZW,ZX,Yc,Ye,Yj,Ys,Y1,YQ,YR,YT,YV,YX,YY,Xa,Xo,Xp,Xq,Xs,Xt,Xu,Xw,Wy,Wz,W0,W4,W5,W6,W7,WA,WB,WE,WF,WH,WI,WJ,WK,WL,WM,WN,WO,WP,WQ,WR,WS,WV,WW,Vb,Ve,Vf,Vg,Vr,Vt,Vu,Vw,Vx,Vz,VL,VM,VN,VO,VP,VQ,VR,VU,VV,VW,VX,VY,Ua,Ub,Uc,Uf,Ui,Uk,Ul,Um,Uo,Uq,Ur,Uv,Uw,Ux,Uy,U1,U2,U3,U4,U5,Te,Tf,Tg,Tj,Tv,Tw,Ty,Tz,T3,T4,T5,T7,T9,TA,TB,TC,TH,SD,SE,SF]; all_goals tactic => exact rfl))
          · exact rd
          · rw [hd]
            (sym => (simp [Za,Zb,Zf,Zg,Zh,Zj,Zl,Zm,Zo,Zp,Zq,Zr,Zs,Zt,Zu,Zx,Z2,Z4,ZE,ZG,ZO,ZP,ZT,ZU,ZV,ZW,ZX,Yc,Ye,Yj,Ys,Y1,YQ,YR,YT,YV,YX,YY,Xa,Xo,Xp,Xq,Xs,Xt,Xu,Xw,Wy,Wz,W0,W4,W5,W6,W7,WA,WB,WE,WF,WH,WI,WJ,WK,WL,WM,WN,WO,WP,WQ,WR,WS,WV,WW,Vb,Ve,Vf,Vg,Vr,Vt,Vu,Vw,Vx,Vz,VL,VM,VN,VO,VP,VQ,VR,VU,VV,VW,VX,VY,Ua,Ub,Uc,Uf,Ui,Uk,Ul,Um,Uo,Uq,Ur,Uv,Uw,Ux,Uy,U1,U2,U3,U4,U5,Te,Tf,Tg,Tj,Tv,Tw,Ty,Tz,T3,T4,T5,T7,T9,TA,TB,TC,TH,SD,SE,SF,z1]; all_goals tactic => exact rfl))
end
end Go.Proofs.YtpbeclkpohehgaaDoor
namespace Go.Proofs.YtpbeclkpohehgaaDoor
open Go Go.DL
set_option maxRecDepth 100000
set_option maxHeartbeats 4000000

def nxL (n : Nat) (b : Nat → Nat) (d : Nat) : List Nat := (List.range n).filter (canB b d)
def pkO (us : List Nat) (n : Nat) (b : Nat → Nat) (d i : Nat) : Nat := (nxL n b d).getD (us.getD i 0 % (nxL n b d).length) 0
def byS (us : List Nat) (n : Nat) (b : Nat → Nat) : Nat → Nat × List Nat
  | 0 => (0,[])
  | i + 1 => ((byS us n b i).1 ||| 2 ^ pkO us n b (byS us n b i).1 i,(byS us n b i).2 ++ [pkO us n b (byS us n b i).1 i])
def byO (us : List Nat) (n : Nat) (b : Nat → Nat) : List Nat := (byS us n b n).2
theorem nx_ne {l : Li} {b : Nat → Nat} (p : Prec l.ls.length b) (hn : l.ls.length ≤ 10) {d : Nat} (hd : d < 2 ^ l.ls.length) (hm : pop d l.ls.length < l.ls.length) : 0 < (nxL l.ls.length b d).length := by
  obtain ⟨k,h1,h2⟩ := can_ex p hn hd hm
  exact List.length_pos_of_mem (nx_mem.2 ⟨h1,h2⟩ : k ∈ nxL l.ls.length b d)
theorem pk_can {us : List Nat} {l : Li} {b : Nat → Nat} (p : Prec l.ls.length b) (hn : l.ls.length ≤ 10) {d i : Nat} (hd : d < 2 ^ l.ls.length) (hm : pop d l.ls.length < l.ls.length) : (nxL l.ls.length b d)[us.getD i 0 % (nxL l.ls.length b d).length]? = some (pkO us l.ls.length b d i) ∧ pkO us l.ls.length b d i < l.ls.length ∧ canB b d (pkO us l.ls.length b d i) = true := by
  have h := nx_ne p hn hd hm
  obtain ⟨x,hx⟩ := at_ix (Nat.mod_lt (us.getD i 0) h)
  have e : pkO us l.ls.length b d i = x := getD_of hx
  rw [e]
  exact ⟨hx,nx_mem.1 (List.mem_of_getElem? hx)⟩
theorem by_st (us : List Nat) {l : Li} {b : Nat → Nat} (p : Prec l.ls.length b) (hn : l.ls.length ≤ 10) : ∀ i,i ≤ l.ls.length → (byS us l.ls.length b i).1 < 2 ^ l.ls.length ∧ pop (byS us l.ls.length b i).1 l.ls.length = i ∧ (byS us l.ls.length b i).2.length = i ∧ (∀ k ∈ (byS us l.ls.length b i).2,k < l.ls.length) ∧ (byS us l.ls.length b i).1 = allT (ofN (byS us l.ls.length b i).2) 0 i ∧ ∀ ks,vld l.ls.length b (byS us l.ls.length b i).1 ks → vld l.ls.length b 0 ((byS us l.ls.length b i).2 ++ ks)
  | 0,_ => ⟨Nat.two_pow_pos _,pop_0 _,rfl,fun k hk => by simp [byS] at hk,rfl,fun ks h => h⟩
  | i + 1,hi => by
    obtain ⟨h1,h2,h3,h4,h5,h6⟩ := by_st us p hn i (by omega)
    obtain ⟨_,q1,q2⟩ := pk_can (us := us) (i := i) p hn h1 (by omega)
    have h7 := (pop_or (can_bit q2) l.ls.length).1 q1
    refine ⟨or_lt h1 q1,by show pop (_ ||| _) l.ls.length = _; omega,by rw [byS,List.length_append,h3]; rfl,fun k hk => ?_,?_,fun ks h => ?_⟩
    · rcases List.mem_append.1 hk with h | h
      · exact h4 k h
      · rw [List.mem_singleton] at h; omega
    · have e := allT_snoc (ofN (byS us l.ls.length b i).2) (pkO us l.ls.length b (byS us l.ls.length b i).1 i)
      have e2 : ofN (byS us l.ls.length b i).2 ++ [(pkO us l.ls.length b (byS us l.ls.length b i).1 i : Int)] = ofN (byS us l.ls.length b (i + 1)).2 := by unfold ofN; rw [byS,List.map_append]; rfl
      have e3 : (ofN (byS us l.ls.length b (i + 1)).2).length = i + 1 := by unfold ofN; rw [List.length_map]; rw [byS,List.length_append,h3]; rfl
      have e4 : (ofN (byS us l.ls.length b i).2).length = i := by unfold ofN; rw [List.length_map]; exact h3
      rw [e2,e3,e4,← h5] at e
      exact e.symm
    · have := h6 (pkO us l.ls.length b (byS us l.ls.length b i).1 i :: ks) ⟨q1,q2,h⟩
      show vld l.ls.length b 0 ((_ ++ [_]) ++ ks)
      rw [List.append_assoc]
      exact this
theorem by_vld (us : List Nat) {l : Li} {b : Nat → Nat} (p : Prec l.ls.length b) (hn : l.ls.length ≤ 10) : vld l.ls.length b 0 (byO us l.ls.length b) := by
  obtain ⟨h1,h2,h3,h4,h5,h6⟩ := by_st us p hn _ (Nat.le_refl _)
  have := h6 [] h2
  rw [List.append_nil] at this
  exact this
def nxK (b : Nat → Nat) (d k : Nat) : List Nat := (List.range k).filter (canB b d)
theorem nxK_up (b : Nat → Nat) (d k : Nat) : nxK b d (k + 1) = if canB b d k = true then nxK b d k ++ [k] else nxK b d k := by
  unfold nxK
  rw [List.range_succ,List.filter_append]
  cases h : canB b d k <;> simp [h]
theorem nxK_len (b : Nat → Nat) (d k : Nat) : (nxK b d k).length ≤ k := by
  have := List.length_filter_le (canB b d) (List.range k)
  rw [List.length_range] at this
  exact this
end Go.Proofs.YtpbeclkpohehgaaDoor
namespace Go.Proofs.YtpbeclkpohehgaaDoor
open Go Go.DL
set_option maxRecDepth 100000
set_option maxHeartbeats 4000000
section
variable {l : Li}
theorem round40d (g : Good l) (hf : l.Fit) (R : List (List AV)) (x : Int) {os cs : List Int} (hl : os.length ≤ 10) (hcl : cs.length ≤ 10) {d k : Nat} (hk : k < l.ls.length) (hd : ∀ j : Nat,metN os (j : Int) os.length = d.testBit j) {c : Bool} (hc : cnN (behF l.ts) d k l.ls.length = c) :
    headX 0 [1,2,5,6,7,27,28] (execW progX 40 0 none (match x40l3 with | .loop _ a => a | c => c) (envL [1,2,5,6,7,27,28] [.fs R,.pt 0 0,oS 1 os,I x,oS (cB os) cs,I l.ls.length,I (k : Nat)]) ([some (.blk true (.cells true l.c))] ++ (oG os ++ oG cs))) =
      some ([.fs R,.pt 0 0,oS 1 os,I x,oS (cB os) (if c then cs ++ [(k : Int)] else cs),I l.ls.length,I (k + 1 : Nat)],[some (.blk true (.cells true l.c))] ++ (oG os ++ oG (if c then cs ++ [(k : Int)] else cs))) := by
  have hn := g.few
  have a1 := lt_ix hk
  have a2 := up_ix hk (by omega)
  have z := Te (n := (l.ls.length : Int))
  have z1 := Te (n := (os.length : Int))
  have m0 : metN os (k : Int) 0 = false := rfl
  have cn0 : (!d.testBit k) = cnN (behF l.ts) d k 0 := rfl
  have rd0 := fun i (hi : i < os.length) => round40a (l := l) R x (n := l.ls.length) (cs := cs) hl (k := k) (List.getElem?_eq_getElem hi) (!metN os (k : Int) i) (!metN os (k : Int) (i + 1)) (by rw [met_up (List.getElem?_eq_getElem hi),Bool.not_or])
  have rd2 := fun j (hj : j < l.ls.length) => round40c g hf R x (cs := cs) hl (k := k) hj (hd j) (cnN (behF l.ts) d k j) (cnN (behF l.ts) d k (j + 1)) rfl
  generalize behF l.ts = b at *
  unfold x40l3
  dsimp only
  by_cases hne : os = []
  · subst hne
    have hd0 := hd k
    rcases cs with _ | ⟨e,cs⟩
    · simp only [cB_0,TR,TT,TS,TU,List.append_nil,List.cons_append,List.nil_append] at rd0 rd2 ⊢
      sym =>
        simp [Za,Zb,Zd,Ze,Zf,Zh,Zl,Zm,Zn,Zu,Z0,Z2,Z6,ZE,ZG,ZS,ZZ,Yb,Yc,Ye,Yj,Ys,Y1,YQ,YR,YV,YX,YY,Xa,Xe,Xo,Xp,Xs,Xt,Xu,Xw,Wm,Wy,Wz,W0,W3,W4,W5,W6,W7,W9,WA,WB,WE,WF,WH,WI,WJ,WL,WN,WO,WP,WQ,WV,WW,Vb,VL,VM,VN,VO,VP,VQ,VR,VT,VU,VV,VW,VX,VY,Ua,Ub,Uc,Ud,Uf,Ui,Um,Us,Uv,Uw,Ux,Uy,Uz,U0,U2,U3,U4,U5,U6,U7,UE,UF,UG,UH,UQ,UR,US,UT,UY,UZ,Ta,Tb,Tc,Td,Te,Tf,Tg,Tk,Tq,Tr,Ts,Tt,Tu,Tv,Tw,Ty,Tz,T3,T4,T5,T7,T9,TA,TB,TC,TD,TE,TF,TH,TK,TR,TS,TT,TU,a1]
        tactic =>
          unfold x40l0
          rw [loop_rule 0 (fun i => [.fs R,.pt 0 0,.nilsl,I x,.nilsl,I (k : Nat),.bool (!metN [] (k : Int) i),I l.ls.length,I (k : Nat),.nilsl,I 0,I (i : Nat)]) (fun _ => [some (.blk true (.cells true l.c))])]
          · rw [show metN [] (k : Int) 0 = d.testBit k from hd0,cn0]
            sym =>
              simp [Za,Zb,Zd,Ze,Zf,Zh,Zl,Zm,Zn,Zu,Z0,Z2,Z6,ZE,ZG,ZS,ZZ,Yb,Yc,Ye,Yj,Ys,Y1,YQ,YR,YV,YX,YY,Xa,Xe,Xo,Xp,Xs,Xt,Xu,Xw,Wm,Wy,Wz,W0,W3,W4,W5,W6,W7,W9,WA,WB,WE,WF,WH,WI,WJ,WL,WN,WO,WP,WQ,WV,WW,Vb,VL,VM,VN,VO,VP,VQ,VR,VT,VU,VV,VW,VX,VY,Ua,Ub,Uc,Ud,Uf,Ui,Um,Us,Uv,Uw,Ux,Uy,Uz,U0,U2,U3,U4,U5,U6,U7,UE,UF,UG,UH,UQ,UR,US,UT,UY,UZ,Ta,Tb,Tc,Td,Te,Tf,Tg,Tk,Tq,Tr,Ts,Tt,Tu,Tv,Tw,Ty,Tz,T3,T4,T5,T7,T9,TA,TB,TC,TD,TE,TF,TH,TK,TR,TS,TT,TU,z1]
              tactic =>
                unfold x40l2
                rw [loop_rule l.ls.length (fun j => [.fs R,.pt 0 0,.nilsl,I x,.nilsl,I (k : Nat),.bool (cnN b d k j),I l.ls.length,I (k : Nat),I l.ls.length,I (j : Nat)]) (fun _ => [some (.blk true (.cells true l.c))])]
                · rw [hc]
                  cases c
                  · (sym => (simp [Za,Zb,Zd,Ze,Zf,Zh,Zl,Zm,Zn,Zu,Z0,Z2,Z6,ZE,ZG,ZS,ZZ,Yb,Yc,Ye,Yj,Ys,Y1,YQ,YR,YV,YX,YY,Xa,Xe,Xo,Xp,Xs,Xt,Xu,Xw,Wm,Wy,Wz,W0,W3,W4,W5,W6,W7,W9,WA,WB,WE,WF,WH,WI,WJ,WL,WN,WO,WP,WQ,WV,WW,Vb,VL,VM,VN,VO,VP,VQ,VR,VT,VU,VV,VW,VX,VY,Ua,Ub,Uc,Ud,Uf,Ui,Um,Us,Uv,Uw,Ux,Uy,Uz,U0,U2,U3,U4,U5,U6,U7,UE,UF,UG,UH,UQ,UR,US,UT,UY,UZ,Ta,Tb,Tc,Td,Te,Tf,Tg,Tk,Tq,Tr,Ts,Tt,Tu,Tv,Tw,Ty,Tz,T3,T4,T5,T7,T9,TA,TB,TC,TD,TE,TF,TH,TK,TR,TS,TT,TU,a1,a2,z]; all_goals tactic => exact rfl))
                  · (sym => (simp [Za,Zb,Zd,Ze,Zf,Zh,Zl,Zm,Zn,Zu,Z0,Z2,Z6,ZE,ZG,ZS,ZZ,Yb,Yc,Ye,Yj,Ys,Y1,YQ,YR,YV,YX,YY,Xa,Xe,Xo,Xp,Xs,Xt,Xu,Xw,Wm,Wy,Wz,W0,W3,W4,W5,W6,W7,W9,WA,WB,WE,WF,WH,WI,WJ,WL,WN,WO,WP,WQ,WV,WW,Vb,VL,VM,VN,VO,VP,VQ,VR,VT,VU,VV,VW,VX,VY,Ua,Ub,Uc,Ud,Uf,Ui,Um,Us,Uv,Uw,Ux,Uy,Uz,U0,U2,U3,U4,U5,U6,U7,UE,UF,UG,UH,UQ,UR,US,UT,UY,UZ,Ta,Tb,Tc,Td,Te,Tf,Tg,Tk,Tq,Tr,Ts,Tt,Tu,Tv,Tw,Ty,Tz,T3,T4,T5,T7,T9,TA,TB,TC,TD,TE,TF,TH,TK,TR,TS,TT,TU,a1,a2,z]; all_goals tactic => exact rfl))
                · (sym => (simp [Za,Zb,Zd,Ze,Zf,Zh,Zl,Zm,Zn,Zu,Z0,Z2,Z6,ZE,ZG,ZS,ZZ,Yb,Yc,Ye,Yj,Ys,Y1,YQ,YR,YV,YX,YY,Xa,Xe,Xo,Xp,Xs,Xt,Xu,Xw,Wm,Wy,Wz,W0,W3,W4,W5,W6,W7,W9,WA,WB,WE,WF,WH,WI,WJ,WL,WN,WO,WP,WQ,WV,WW,Vb,VL,VM,VN,VO,VP,VQ,VR,VT,VU,VV,VW,VX,VY,Ua,Ub,Uc,Ud,Uf,Ui,Um,Us,Uv,Uw,Ux,Uy,Uz,U0,U2,U3,U4,U5,U6,U7,UE,UF,UG,UH,UQ,UR,US,UT,UY,UZ,Ta,Tb,Tc,Td,Te,Tf,Tg,Tk,Tq,Tr,Ts,Tt,Tu,Tv,Tw,Ty,Tz,T3,T4,T5,T7,T9,TA,TB,TC,TD,TE,TF,TH,TK,TR,TS,TT,TU]; all_goals tactic => exact rfl))
                · exact rd2
                · rw [hc]
                  (sym => (simp [Za,Zb,Zd,Ze,Zf,Zh,Zl,Zm,Zn,Zu,Z0,Z2,Z6,ZE,ZG,ZS,ZZ,Yb,Yc,Ye,Yj,Ys,Y1,YQ,YR,YV,YX,YY,Xa,Xe,Xo,Xp,Xs,Xt,Xu,Xw,Wm,Wy,Wz,W0,W3,W4,W5,W6,W7,W9,WA,WB,WE,WF,WH,WI,WJ,WL,WN,WO,WP,WQ,WV,WW,Vb,VL,VM,VN,VO,VP,VQ,VR,VT,VU,VV,VW,VX,VY,Ua,Ub,Uc,Ud,Uf,Ui,Um,Us,Uv,Uw,Ux,Uy,Uz,U0,U2,U3,U4,U5,U6,U7,UE,UF,UG,UH,UQ,UR,US,UT,UY,UZ,Ta,Tb,Tc,Td,Te,Tf,Tg,Tk,Tq,Tr,Ts,Tt,Tu,Tv,Tw,Ty,Tz,T3,T4,T5,T7,T9,TA,TB,TC,TD,TE,TF,TH,TK,TR,TS,TT,TU,z]; all_goals tactic => exact rfl))
          · rw [m0]
            (sym => (simp [Za,Zb,Zd,Ze,Zf,Zh,Zl,Zm,Zn,Zu,Z0,Z2,Z6,ZE,ZG,ZS,ZZ,Yb,Yc,Ye,Yj,Ys,Y1,YQ,YR,YV,YX,YY,Xa,Xe,Xo,Xp,Xs,Xt,Xu,Xw,Wm,Wy,Wz,W0,W3,W4,W5,W6,W7,W9,WA,WB,WE,WF,WH,WI,WJ,WL,WN,WO,WP,WQ,WV,WW,Vb,VL,VM,VN,VO,VP,VQ,VR,VT,VU,VV,VW,VX,VY,Ua,Ub,Uc,Ud,Uf,Ui,Um,Us,Uv,Uw,Ux,Uy,Uz,U0,U2,U3,U4,U5,U6,U7,UE,UF,UG,UH,UQ,UR,US,UT,UY,UZ,Ta,Tb,Tc,Td,Te,Tf,Tg,Tk,Tq,Tr,Ts,Tt,Tu,Tv,Tw,Ty,Tz,T3,T4,T5,T7,T9,TA,TB,TC,TD,TE,TF,TH,TK,TR,TS,TT,TU]; all_goals tactic => exact rfl))
          · exact fun i hi => absurd hi (Nat.not_lt_zero i)
          · rw [show metN [] (k : Int) 0 = d.testBit k from hd0]
            (sym => (simp [Za,Zb,Zd,Ze,Zf,Zh,Zl,Zm,Zn,Zu,Z0,Z2,Z6,ZE,ZG,ZS,ZZ,Yb,Yc,Ye,Yj,Ys,Y1,YQ,YR,YV,YX,YY,Xa,Xe,Xo,Xp,Xs,Xt,Xu,Xw,Wm,Wy,Wz,W0,W3,W4,W5,W6,W7,W9,WA,WB,WE,WF,WH,WI,WJ,WL,WN,WO,WP,WQ,WV,WW,Vb,VL,VM,VN,VO,VP,VQ,VR,VT,VU,VV,VW,VX,VY,Ua,Ub,Uc,Ud,Uf,Ui,Um,Us,Uv,Uw,Ux,Uy,Uz,U0,U2,U3,U4,U5,U6,U7,UE,UF,UG,UH,UQ,UR,US,UT,UY,UZ,Ta,Tb,Tc,Td,Te,Tf,Tg,Tk,Tq,Tr,Ts,Tt,Tu,Tv,Tw,Ty,Tz,T3,T4,T5,T7,T9,TA,TB,TC,TD,TE,TF,TH,TK,TR,TS,TT,TU,z1]; all_goals tactic => exact rfl))
    · simp only [cB_0,TR,TT,TS,TU,List.append_nil,List.cons_append,List.nil_append] at rd0 rd2 ⊢
      rw [List.length_cons] at hcl
      have q1 : ((cs.length + 1 + 1) * 8 ≤ 1099511627776) = True := eq_true (by omega)
      have q2 : (cs.length + 1 + 1 ≤ 1099511627776) = True := eq_true (by omega)
      sym =>
        simp [Za,Zb,Zd,Ze,Zf,Zh,Zl,Zm,Zn,Zu,Z0,Z2,Z6,ZE,ZG,ZS,ZZ,Yb,Yc,Ye,Yj,Ys,Y1,YQ,YR,YV,YX,YY,Xa,Xe,Xo,Xp,Xs,Xt,Xu,Xw,Wm,Wy,Wz,W0,W3,W4,W5,W6,W7,W9,WA,WB,WE,WF,WH,WI,WJ,WL,WN,WO,WP,WQ,WV,WW,Vb,VL,VM,VN,VO,VP,VQ,VR,VT,VU,VV,VW,VX,VY,Ua,Ub,Uc,Ud,Uf,Ui,Um,Us,Uv,Uw,Ux,Uy,Uz,U0,U2,U3,U4,U5,U6,U7,UE,UF,UG,UH,UQ,UR,US,UT,UY,UZ,Ta,Tb,Tc,Td,Te,Tf,Tg,Tk,Tq,Tr,Ts,Tt,Tu,Tv,Tw,Ty,Tz,T3,T4,T5,T7,T9,TA,TB,TC,TD,TE,TF,TH,TK,TR,TS,TT,TU,a1]
        tactic =>
          unfold x40l0
          rw [loop_rule 0 (fun i => [.fs R,.pt 0 0,.nilsl,I x,.sl 1 0 1 (cs.length + 1),I (k : Nat),.bool (!metN [] (k : Int) i),I l.ls.length,I (k : Nat),.nilsl,I 0,I (i : Nat)]) (fun _ => [some (.blk true (.cells true l.c)),some (.blk true (.cells true (I e :: cs.map I)))])]
          · rw [show metN [] (k : Int) 0 = d.testBit k from hd0,cn0]
            sym =>
              simp [Za,Zb,Zd,Ze,Zf,Zh,Zl,Zm,Zn,Zu,Z0,Z2,Z6,ZE,ZG,ZS,ZZ,Yb,Yc,Ye,Yj,Ys,Y1,YQ,YR,YV,YX,YY,Xa,Xe,Xo,Xp,Xs,Xt,Xu,Xw,Wm,Wy,Wz,W0,W3,W4,W5,W6,W7,W9,WA,WB,WE,WF,WH,WI,WJ,WL,WN,WO,WP,WQ,WV,WW,Vb,VL,VM,VN,VO,VP,VQ,VR,VT,VU,VV,VW,VX,VY,Ua,Ub,Uc,Ud,Uf,Ui,Um,Us,Uv,Uw,Ux,Uy,Uz,U0,U2,U3,U4,U5,U6,U7,UE,UF,UG,UH,UQ,UR,US,UT,UY,UZ,Ta,Tb,Tc,Td,Te,Tf,Tg,Tk,Tq,Tr,Ts,Tt,Tu,Tv,Tw,Ty,Tz,T3,T4,T5,T7,T9,TA,TB,TC,TD,TE,TF,TH,TK,TR,TS,TT,TU,z1]
              tactic =>
                unfold x40l2
                rw [loop_rule l.ls.length (fun j => [.fs R,.pt 0 0,.nilsl,I x,.sl 1 0 1 (cs.length + 1),I (k : Nat),.bool (cnN b d k j),I l.ls.length,I (k : Nat),I l.ls.length,I (j : Nat)]) (fun _ => [some (.blk true (.cells true l.c)),some (.blk true (.cells true (I e :: cs.map I)))])]
                · rw [hc]
                  cases c
                  · (sym => (simp [Za,Zb,Zd,Ze,Zf,Zh,Zl,Zm,Zn,Zu,Z0,Z2,Z6,ZE,ZG,ZS,ZZ,Yb,Yc,Ye,Yj,Ys,Y1,YQ,YR,YV,YX,YY,Xa,Xe,Xo,Xp,Xs,Xt,Xu,Xw,Wm,Wy,Wz,W0,W3,W4,W5,W6,W7,W9,WA,WB,WE,WF,WH,WI,WJ,WL,WN,WO,WP,WQ,WV,WW,Vb,VL,VM,VN,VO,VP,VQ,VR,VT,VU,VV,VW,VX,VY,Ua,Ub,Uc,Ud,Uf,Ui,Um,Us,Uv,Uw,Ux,Uy,Uz,U0,U2,U3,U4,U5,U6,U7,UE,UF,UG,UH,UQ,UR,US,UT,UY,UZ,Ta,Tb,Tc,Td,Te,Tf,Tg,Tk,Tq,Tr,Ts,Tt,Tu,Tv,Tw,Ty,Tz,T3,T4,T5,T7,T9,TA,TB,TC,TD,TE,TF,TH,TK,TR,TS,TT,TU,a1,a2,z,q1,q2]; all_goals tactic => exact rfl))
                  · (sym => (simp [Za,Zb,Zd,Ze,Zf,Zh,Zl,Zm,Zn,Zu,Z0,Z2,Z6,ZE,ZG,ZS,ZZ,Yb,Yc,Ye,Yj,Ys,Y1,YQ,YR,YV,YX,YY,Xa,Xe,Xo,Xp,Xs,Xt,Xu,Xw,Wm,Wy,Wz,W0,W3,W4,W5,W6,W7,W9,WA,WB,WE,WF,WH,WI,WJ,WL,WN,WO,WP,WQ,WV,WW,Vb,VL,VM,VN,VO,VP,VQ,VR,VT,VU,VV,VW,VX,VY,Ua,Ub,Uc,Ud,Uf,Ui,Um,Us,Uv,Uw,Ux,Uy,Uz,U0,U2,U3,U4,U5,U6,U7,UE,UF,UG,UH,UQ,UR,US,UT,UY,UZ,Ta,Tb,Tc,Td,Te,Tf,Tg,Tk,Tq,Tr,Ts,Tt,Tu,Tv,Tw,Ty,Tz,T3,T4,T5,T7,T9,TA,TB,TC,TD,TE,TF,TH,TK,TR,TS,TT,TU,a1,a2,z,q1,q2]; all_goals tactic => exact rfl))
                · (sym => (simp [Za,Zb,Zd,Ze,Zf,Zh,Zl,Zm,Zn,Zu,Z0,Z2,Z6,ZE,ZG,ZS,ZZ,Yb,Yc,Ye,Yj,Ys,Y1,YQ,YR,YV,YX,YY,Xa,Xe,Xo,Xp,Xs,Xt,Xu,Xw,Wm,Wy,Wz,W0,W3,W4,W5,W6,W7,W9,WA,WB,WE,WF,WH,WI,WJ,WL,WN,WO,WP,WQ,WV,WW,Vb,VL,VM,VN,VO,VP,VQ,VR,VT,VU,VV,VW,VX,VY,Ua,Ub,Uc,Ud,Uf,Ui,Um,Us,Uv,Uw,Ux,Uy,Uz,U0,U2,U3,U4,U5,U6,U7,UE,UF,UG,UH,UQ,UR,US,UT,UY,UZ,Ta,Tb,Tc,Td,Te,Tf,Tg,Tk,Tq,Tr,Ts,Tt,Tu,Tv,Tw,Ty,Tz,T3,T4,T5,T7,T9,TA,TB,TC,TD,TE,TF,TH,TK,TR,TS,TT,TU]; all_goals tactic => exact rfl))
                · exact rd2
                · rw [hc]
                  (sym => (simp [Za,Zb,Zd,Ze,Zf,Zh,Zl,Zm,Zn,Zu,Z0,Z2,Z6,ZE,ZG,ZS,ZZ,Yb,Yc,Ye,Yj,Ys,Y1,YQ,YR,YV,YX,YY,Xa,Xe,Xo,Xp,Xs,Xt,Xu,Xw,Wm,Wy,Wz,W0,W3,W4,W5,W6,W7,W9,WA,WB,WE,WF,WH,WI,WJ,WL,WN,WO,WP,WQ,WV,WW,Vb,VL,VM,VN,VO,VP,VQ,VR,VT,VU,VV,VW,VX,VY,Ua,Ub,Uc,Ud,Uf,Ui,Um,Us,Uv,Uw,Ux,Uy,Uz,U0,U2,U3,U4,U5,U6,U7,UE,UF,UG,UH,UQ,UR,US,UT,UY,UZ,Ta,Tb,Tc,Td,Te,Tf,Tg,Tk,Tq,Tr,Ts,Tt,Tu,Tv,Tw,Ty,Tz,T3,T4,T5,T7,T9,TA,TB,TC,TD,TE,TF,TH,TK,TR,TS,TT,TU,z]; all_goals tactic => exact rfl))
          · rw [m0]
            (sym => (simp [Za,Zb,Zd,Ze,Zf,Zh,Zl,Zm,Zn,Zu,Z0,Z2,Z6,ZE,ZG,ZS,ZZ,Yb,Yc,Ye,Yj,Ys,Y1,YQ,YR,YV,YX,YY,Xa,Xe,Xo,Xp,Xs,Xt,Xu,Xw,Wm,Wy,Wz,W0,W3,W4,W5,W6,W7,W9,WA,WB,WE,WF,WH,WI,WJ,WL,WN,WO,WP,WQ,WV,WW,Vb,VL,VM,VN,VO,VP,VQ,VR,VT,VU,VV,VW,VX,VY,Ua,Ub,Uc,Ud,Uf,Ui,Um,Us,Uv,Uw,Ux,Uy,Uz,U0,U2,U3,U4,U5,U6,U7,UE,UF,UG,UH,UQ,UR,US,UT,UY,UZ,Ta,Tb,Tc,Td,Te,Tf,Tg,Tk,Tq,Tr,Ts,Tt,Tu,Tv,Tw,Ty,Tz,T3,T4,T5,T7,T9,TA,TB,TC,TD,TE,TF,TH,TK,TR,TS,TT,TU]; all_goals tactic => exact rfl))
          · exact fun i hi => absurd hi (Nat.not_lt_zero i)
          · rw [show metN [] (k : Int) 0 = d.testBit k from hd0]
            (sym => (simp [Za,Zb,Zd,Ze,Zf,Zh,Zl,Zm,Zn,Zu,Z0,Z2,Z6,ZE,ZG,ZS,ZZ,Yb,Yc,Ye,Yj,Ys,Y1,YQ,YR,YV,YX,YY,Xa,Xe,Xo,Xp,Xs,Xt,Xu,Xw,Wm,Wy,Wz,W0,W3,W4,W5,W6,W7,W9,WA,WB,WE,WF,WH,WI,WJ,WL,WN,WO,WP,WQ,WV,WW,Vb,VL,VM,VN,VO,VP,VQ,VR,VT,VU,VV,VW,VX,VY,Ua,Ub,Uc,Ud,Uf,Ui,Um,Us,Uv,Uw,Ux,Uy,Uz,U0,U2,U3,U4,U5,U6,U7,UE,UF,UG,UH,UQ,UR,US,UT,UY,UZ,Ta,Tb,Tc,Td,Te,Tf,Tg,Tk,Tq,Tr,Ts,Tt,Tu,Tv,Tw,Ty,Tz,T3,T4,T5,T7,T9,TA,TB,TC,TD,TE,TF,TH,TK,TR,TS,TT,TU,z1]; all_goals tactic => exact rfl))
  · rcases cs with _ | ⟨e,cs⟩
    · simp only [oS_ne hne,oG_ne hne,cB_ne hne,TR,TT,TS,TU,List.append_nil,List.cons_append,List.nil_append] at rd0 rd2 ⊢
      sym =>
        simp [Za,Zb,Zd,Ze,Zf,Zh,Zl,Zm,Zn,Zu,Z0,Z2,Z6,ZE,ZG,ZS,ZZ,Yb,Yc,Ye,Yj,Ys,Y1,YQ,YR,YV,YX,YY,Xa,Xe,Xo,Xp,Xs,Xt,Xu,Xw,Wm,Wy,Wz,W0,W3,W4,W5,W6,W7,W9,WA,WB,WE,WF,WH,WI,WJ,WL,WN,WO,WP,WQ,WV,WW,Vb,VL,VM,VN,VO,VP,VQ,VR,VT,VU,VV,VW,VX,VY,Ua,Ub,Uc,Ud,Uf,Ui,Um,Us,Uv,Uw,Ux,Uy,Uz,U0,U2,U3,U4,U5,U6,U7,UE,UF,UG,UH,UQ,UR,US,UT,UY,UZ,Ta,Tb,Tc,Td,Te,Tf,Tg,Tk,Tq,Tr,Ts,Tt,Tu,Tv,Tw,Ty,Tz,T3,T4,T5,T7,T9,TA,TB,TC,TD,TE,TF,TH,TK,TR,TS,TT,TU,a1]
        tactic =>
          unfold x40l0
          rw [loop_rule os.length (fun i => [.fs R,.pt 0 0,.sl 1 0 1 os.length,I x,.nilsl,I (k : Nat),.bool (!metN os (k : Int) i),I l.ls.length,I (k : Nat),.sl 1 0 1 os.length,I os.length,I (i : Nat)]) (fun _ => [some (.blk true (.cells true l.c)),some (.blk true (.cells true (os.map I)))])]
          · rw [hd k,cn0]
            sym =>
              simp [Za,Zb,Zd,Ze,Zf,Zh,Zl,Zm,Zn,Zu,Z0,Z2,Z6,ZE,ZG,ZS,ZZ,Yb,Yc,Ye,Yj,Ys,Y1,YQ,YR,YV,YX,YY,Xa,Xe,Xo,Xp,Xs,Xt,Xu,Xw,Wm,Wy,Wz,W0,W3,W4,W5,W6,W7,W9,WA,WB,WE,WF,WH,WI,WJ,WL,WN,WO,WP,WQ,WV,WW,Vb,VL,VM,VN,VO,VP,VQ,VR,VT,VU,VV,VW,VX,VY,Ua,Ub,Uc,Ud,Uf,Ui,Um,Us,Uv,Uw,Ux,Uy,Uz,U0,U2,U3,U4,U5,U6,U7,UE,UF,UG,UH,UQ,UR,US,UT,UY,UZ,Ta,Tb,Tc,Td,Te,Tf,Tg,Tk,Tq,Tr,Ts,Tt,Tu,Tv,Tw,Ty,Tz,T3,T4,T5,T7,T9,TA,TB,TC,TD,TE,TF,TH,TK,TR,TS,TT,TU,z1]
              tactic =>
                unfold x40l2
                rw [loop_rule l.ls.length (fun j => [.fs R,.pt 0 0,.sl 1 0 1 os.length,I x,.nilsl,I (k : Nat),.bool (cnN b d k j),I l.ls.length,I (k : Nat),I l.ls.length,I (j : Nat)]) (fun _ => [some (.blk true (.cells true l.c)),some (.blk true (.cells true (os.map I)))])]
                · rw [hc]
                  cases c
                  · (sym => (simp [Za,Zb,Zd,Ze,Zf,Zh,Zl,Zm,Zn,Zu,Z0,Z2,Z6,ZE,ZG,ZS,ZZ,Yb,Yc,Ye,Yj,Ys,Y1,YQ,YR,YV,YX,YY,Xa,Xe,Xo,Xp,Xs,Xt,Xu,Xw,Wm,Wy,Wz,W0,W3,W4,W5,W6,W7,W9,WA,WB,WE,WF,WH,WI,WJ,WL,WN,WO,WP,WQ,WV,WW,Vb,VL,VM,VN,VO,VP,VQ,VR,VT,VU,VV,VW,VX,VY,Ua,Ub,Uc,Ud,Uf,Ui,Um,Us,Uv,Uw,Ux,Uy,Uz,U0,U2,U3,U4,U5,U6,U7,UE,UF,UG,UH,UQ,UR,US,UT,UY,UZ,Ta,Tb,Tc,Td,Te,Tf,Tg,Tk,Tq,Tr,Ts,Tt,Tu,Tv,Tw,Ty,Tz,T3,T4,T5,T7,T9,TA,TB,TC,TD,TE,TF,TH,TK,TR,TS,TT,TU,a1,a2,z]; all_goals tactic => exact rfl))
                  · (sym => (simp [Za,Zb,Zd,Ze,Zf,Zh,Zl,Zm,Zn,Zu,Z0,Z2,Z6,ZE,ZG,ZS,ZZ,Yb,Yc,Ye,Yj,Ys,Y1,YQ,YR,YV,YX,YY,Xa,Xe,Xo,Xp,Xs,Xt,Xu,Xw,Wm,Wy,Wz,W0,W3,W4,W5,W6,W7,W9,WA,WB,WE,WF,WH,WI,WJ,WL,WN,WO,WP,WQ,WV,WW,Vb,VL,VM,VN,VO,VP,VQ,VR,VT,VU,VV,VW,VX,VY,Ua,Ub,Uc,Ud,Uf,Ui,Um,Us,Uv,Uw,Ux,Uy,Uz,U0,U2,U3,U4,U5,U6,U7,UE,UF,UG,UH,UQ,UR,US,UT,UY,UZ,Ta,Tb,Tc,Td,Te,Tf,Tg,Tk,Tq,Tr,Ts,Tt,Tu,Tv,Tw,Ty,Tz,T3,T4,T5,T7,T9,TA,TB,TC,TD,TE,TF,TH,TK,TR,TS,TT,TU,a1,a2,z]; all_goals tactic => exact rfl))
                · (sym => (simp [Za,Zb,Zd,Ze,Zf,Zh,Zl,Zm,Zn,Zu,Z0,Z2,Z6,ZE,ZG,ZS,ZZ,Yb,Yc,Ye,Yj,Ys,Y1,YQ,YR,YV,YX,YY,Xa,Xe,Xo,Xp,Xs,Xt,Xu,Xw,Wm,Wy,Wz,W0,W3,W4,W5,W6,W7,W9,WA,WB,WE,WF,WH,WI,WJ,WL,WN,WO,WP,WQ,WV,WW,Vb,VL,VM,VN,VO,VP,VQ,VR,VT,VU,VV,VW,VX,VY,Ua,Ub,Uc,Ud,Uf,Ui,Um,Us,Uv,Uw,Ux,Uy,Uz,U0,U2,U3,U4,U5,U6,U7,UE,UF,UG,UH,UQ,UR,US,UT,UY,UZ,Ta,Tb,Tc,Td,Te,Tf,Tg,Tk,Tq,Tr,Ts,Tt,Tu,Tv,Tw,Ty,Tz,T3,T4,T5,T7,T9,TA,TB,TC,TD,TE,TF,TH,TK,TR,TS,TT,TU]; all_goals tactic => exact rfl))
                · exact rd2
                · rw [hc]
                  (sym => (simp [Za,Zb,Zd,Ze,Zf,Zh,Zl,Zm,Zn,Zu,Z0,Z2,Z6,ZE,ZG,ZS,ZZ,Yb,Yc,Ye,Yj,Ys,Y1,YQ,YR,YV,YX,YY,Xa,Xe,Xo,Xp,Xs,Xt,Xu,Xw,Wm,Wy,Wz,W0,W3,W4,W5,W6,W7,W9,WA,WB,WE,WF,WH,WI,WJ,WL,WN,WO,WP,WQ,WV,WW,Vb,VL,VM,VN,VO,VP,VQ,VR,VT,VU,VV,VW,VX,VY,Ua,Ub,Uc,Ud,Uf,Ui,Um,Us,Uv,Uw,Ux,Uy,Uz,U0,U2,U3,U4,U5,U6,U7,UE,UF,UG,UH,UQ,UR,US,UT,UY,UZ,Ta,Tb,Tc,Td,Te,Tf,Tg,Tk,Tq,Tr,Ts,Tt,Tu,Tv,Tw,Ty,Tz,T3,T4,T5,T7,T9,TA,TB,TC,TD,TE,TF,TH,TK,TR,TS,TT,TU,z]; all_goals tactic => exact rfl))
          · rw [m0]
            (sym => (simp [Za,Zb,Zd,Ze,Zf,Zh,Zl,Zm,Zn,Zu,Z0,Z2,Z6,ZE,ZG,ZS,ZZ,Yb,Yc,Ye,Yj,Ys,Y1,YQ,YR,YV,YX,YY,Xa,Xe,Xo,Xp,Xs,Xt,Xu,Xw,Wm,Wy,Wz,W0,W3,W4,W5,W6,W7,W9,WA,WB,WE,WF,WH,WI,WJ,WL,WN,WO,WP,WQ,WV,WW,Vb,VL,VM,VN,VO,VP,VQ,VR,VT,VU,VV,VW,VX,VY,Ua,Ub,Uc,Ud,Uf,Ui,Um,Us,Uv,Uw,Ux,Uy,Uz,U0,U2,U3,U4,U5,U6,U7,UE,UF,UG,UH,UQ,UR,US,UT,UY,UZ,Ta,Tb,Tc,Td,Te,Tf,Tg,Tk,Tq,Tr,Ts,Tt,Tu,Tv,Tw,Ty,Tz,T3,T4,T5,T7,T9,TA,TB,TC,TD,TE,TF,TH,TK,TR,TS,TT,TU]; all_goals tactic => exact rfl))
          · exact rd0
          · rw [hd k]
            (sym => (simp [Za,Zb,Zd,Ze,Zf,Zh,Zl,Zm,Zn,Zu,Z0,Z2,Z6,ZE,ZG,ZS,ZZ,Yb,Yc,Ye,Yj,Ys,Y1,YQ,YR,YV,YX,YY,Xa,Xe,Xo,Xp,Xs,Xt,Xu,Xw,Wm,Wy,Wz,W0,W3,W4,W5,W6,W7,W9,WA,WB,WE,WF,WH,WI,WJ,WL,WN,WO,WP,WQ,WV,WW,Vb,VL,VM,VN,VO,VP,VQ,VR,VT,VU,VV,VW,VX,VY,Ua,Ub,Uc,Ud,Uf,Ui,Um,Us,Uv,Uw,Ux,Uy,Uz,U0,U2,U3,U4,U5,U6,U7,UE,UF,UG,UH,UQ,UR,US,UT,UY,UZ,Ta,Tb,Tc,Td,Te,Tf,Tg,Tk,Tq,Tr,Ts,Tt,Tu,Tv,Tw,Ty,Tz,T3,T4,T5,T7,T9,TA,TB,TC,TD,TE,TF,TH,TK,TR,TS,TT,TU,z1]; all_goals tactic => exact rfl))
    · simp only [oS_ne hne,oG_ne hne,cB_ne hne,TR,TT,TS,TU,List.append_nil,List.cons_append,List.nil_append] at rd0 rd2 ⊢
      rw [List.length_cons] at hcl
      have q1 : ((cs.length + 1 + 1) * 8 ≤ 1099511627776) = True := eq_true (by omega)
      have q2 : (cs.length + 1 + 1 ≤ 1099511627776) = True := eq_true (by omega)
      sym =>
        simp [Za,Zb,Zd,Ze,Zf,Zh,Zl,Zm,Zn,Zu,Z0,Z2,Z6,ZE,ZG,ZS,ZZ,Yb,Yc,Ye,Yj,Ys,Y1,YQ,YR,YV,YX,YY,Xa,Xe,Xo,Xp,Xs,Xt,Xu,Xw,Wm,Wy,Wz,W0,W3,W4,W5,W6,W7,W9,WA,WB,WE,WF,WH,WI,WJ,WL,WN,WO,WP,WQ,WV,WW,Vb,VL,VM,VN,VO,VP,VQ,VR,VT,VU,VV,VW,VX,VY,Ua,Ub,Uc,Ud,Uf,Ui,Um,Us,Uv,Uw,Ux,Uy,Uz,U0,U2,U3,U4,U5,U6,U7,UE,UF,UG,UH,UQ,UR,US,UT,UY,UZ,Ta,Tb,Tc,Td,Te,Tf,Tg,Tk,Tq,Tr,Ts,Tt,Tu,Tv,Tw,Ty,Tz,T3,T4,T5,T7,T9,TA,TB,TC,TD,TE,TF,TH,TK,TR,TS,TT,TU,a1]
        tactic =>
          unfold x40l0
          rw [loop_rule os.length (fun i => [.fs R,.pt 0 0,.sl 1 0 1 os.length,I x,.sl 2 0 1 (cs.length + 1),I (k : Nat),.bool (!metN os (k : Int) i),I l.ls.length,I (k : Nat),.sl 1 0 1 os.length,I os.length,I (i : Nat)]) (fun _ => [some (.blk true (.cells true l.c)),some (.blk true (.cells true (os.map I))),some (.blk true (.cells true (I e :: cs.map I)))])]
          · rw [hd k,cn0]
            sym =>
              simp [Za,Zb,Zd,Ze,Zf,Zh,Zl,Zm,Zn,Zu,Z0,Z2,Z6,ZE,ZG,ZS,ZZ,Yb,Yc,Ye,Yj,Ys,Y1,YQ,YR,YV,YX,YY,Xa,Xe,Xo,Xp,Xs,Xt,Xu,Xw,Wm,Wy,Wz,W0,W3,W4,W5,W6,W7,W9,WA,WB,WE,WF,WH,WI,WJ,WL,WN,WO,WP,WQ,WV,WW,Vb,VL,VM,VN,VO,VP,VQ,VR,VT,VU,VV,VW,VX,VY,Ua,Ub,Uc,Ud,Uf,Ui,Um,Us,Uv,Uw,Ux,Uy,Uz,U0,U2,U3,U4,U5,U6,U7,UE,UF,UG,UH,UQ,UR,US,UT,UY,UZ,Ta,Tb,Tc,Td,Te,Tf,Tg,Tk,Tq,Tr,Ts,Tt,Tu,Tv,Tw,Ty,Tz,T3,T4,T5,T7,T9,TA,TB,TC,TD,TE,TF,TH,TK,TR,TS,TT,TU,z1]
              tactic =>
                unfold x40l2
                rw [loop_rule l.ls.length (fun j => [.fs R,.pt 0 0,.sl 1 0 1 os.length,I x,.sl 2 0 1 (cs.length + 1),I (k : Nat),.bool (cnN b d k j),I l.ls.length,I (k : Nat),I l.ls.length,I (j : Nat)]) (fun _ => [some (.blk true (.cells true l.c)),some (.blk true (.cells true (os.map I))),some (.blk true (.cells true (I e :: cs.map I)))])]
                · rw [hc]
                  cases c
                  · (sym => (simp [Za,Zb,Zd,Ze,Zf,Zh,Zl,Zm,Zn,Zu,Z0,Z2,Z6,ZE,ZG,ZS,ZZ,Yb,Yc,Ye,Yj,Ys,Y1,YQ,YR,YV,YX,YY,Xa,Xe,Xo,Xp,Xs,Xt,Xu,Xw,Wm,Wy,Wz,W0,W3,W4,W5,W6,W7,W9,WA,WB,WE,WF,WH,WI,WJ,WL,WN,WO,WP,WQ,WV,WW,Vb,VL,VM,VN,VO,VP,VQ,VR,VT,VU,VV,VW,VX,VY,Ua,Ub,Uc,Ud,Uf,Ui,Um,Us,Uv,Uw,Ux,Uy,Uz,U0,U2,U3,U4,U5,U6,U7,UE,UF,UG,UH,UQ,UR,US,UT,UY,UZ,Ta,Tb,Tc,Td,Te,Tf,Tg,Tk,Tq,Tr,Ts,Tt,Tu,Tv,Tw,Ty,Tz,T3,T4,T5,T7,T9,TA,TB,TC,TD,TE,TF,TH,TK,TR,TS,TT,TU,a1,a2,z,q1,q2]; all_goals tactic => exact rfl))
                  · (sym => (simp [Za,Zb,Zd,Ze,Zf,Zh,Zl,Zm,Zn,Zu,Z0,Z2,Z6,ZE,ZG,ZS,ZZ,Yb,Yc,Ye,Yj,Ys,Y1,YQ,YR,YV,YX,YY,Xa,Xe,Xo,Xp,Xs,Xt,Xu,Xw,Wm,Wy,Wz,W0,W3,W4,W5,W6,W7,W9,WA,WB,WE,WF,WH,WI,WJ,WL,WN,WO,WP,WQ,WV,WW,Vb,VL,VM,VN,VO,VP,VQ,VR,VT,VU,VV,VW,VX,VY,Ua,Ub,Uc,Ud,Uf,Ui,Um,Us,Uv,Uw,Ux,Uy,Uz,U0,U2,U3,U4,U5,U6,U7,UE,UF,UG,UH,UQ,UR,US,UT,UY,UZ,Ta,Tb,Tc,Td,Te,Tf,Tg,Tk,Tq,Tr,Ts,Tt,Tu,Tv,Tw,Ty,Tz,T3,T4,T5,T7,T9,TA,TB,TC,TD,TE,TF,TH,TK,TR,TS,TT,TU,a1,a2,z,q1,q2]; all_goals tactic => exact rfl))
                · (sym => (simp [Za,Zb,Zd,Ze,Zf,Zh,Zl,Zm,Zn,Zu,Z0,Z2,Z6,ZE,ZG,ZS,ZZ,Yb,Yc,Ye,Yj,Ys,Y1,YQ,YR,YV,YX,YY,Xa,Xe,Xo,Xp,Xs,Xt,Xu,Xw,Wm,Wy,Wz,W0,W3,W4,W5,W6,W7,W9,WA,WB,WE,WF,WH,WI,WJ,WL,WN,WO,WP,WQ,WV,WW,Vb,VL,VM,VN,VO,VP,VQ,VR,VT,VU,VV,VW,VX,VY,Ua,Ub,Uc,Ud,Uf,Ui,Um,Us,Uv,Uw,Ux,Uy,Uz,U0,U2,U3,U4,U5,U6,U7,UE,UF,UG,UH,UQ,UR,US,UT,UY,UZ,Ta,Tb,Tc,Td,Te,Tf,Tg,Tk,Tq,Tr,Ts,Tt,Tu,Tv,Tw,Ty,Tz,T3,T4,T5,T7,T9,TA,TB,TC,TD,TE,TF,TH,TK,TR,TS,TT,TU]; all_goals tactic => exact rfl))
                · exact rd2
                · rw [hc]
                  (sym => (simp [Za,Zb,Zd,Ze,Zf,Zh,Zl,Zm,Zn,Zu,Z0,Z2,Z6,ZE,ZG,ZS,ZZ,Yb,Yc,Ye,Yj,Ys,Y1,YQ,YR,YV,YX,YY,Xa,Xe,Xo,Xp,Xs,Xt,Xu,Xw,Wm,Wy,Wz,W0,W3,W4,W5,W6,W7,W9,WA,WB,WE,WF,WH,WI,WJ,WL,WN,WO,WP,WQ,WV,WW,Vb,VL,VM,VN,VO,VP,VQ,VR,VT,VU,VV,VW,VX,VY,Ua,Ub,Uc,Ud,Uf,Ui,Um,Us,Uv,Uw,Ux,Uy,Uz,U0,U2,U3,U4,U5,U6,U7,UE,UF,UG,UH,UQ,UR,US,UT,UY,UZ,Ta,Tb,Tc,Td,Te,Tf,Tg,Tk,Tq,Tr,Ts,Tt,Tu,Tv,Tw,Ty,Tz,T3,T4,T5,T7,T9,TA,TB,TC,TD,TE,TF,TH,TK,TR,TS,TT,TU,z]; all_goals tactic => exact rfl))
          · rw [m0]
            (sym => (simp [Za,Zb,Zd,Ze,Zf,Zh,Zl,Zm,Zn,Zu,Z0,Z2,Z6,ZE,ZG,ZS,ZZ,Yb,Yc,Ye,Yj,Ys,Y1,YQ,YR,YV,YX,YY,Xa,Xe,Xo,Xp,Xs,Xt,Xu,Xw,Wm,Wy,Wz,W0,W3,W4,W5,W6,W7,W9,WA,WB,WE,WF,WH,WI,WJ,WL,WN,WO,WP,WQ,WV,WW,Vb,VL,VM,VN,VO,VP,VQ,VR,VT,VU,VV,VW,VX,VY,Ua,Ub,Uc,Ud,Uf,Ui,Um,Us,Uv,Uw,Ux,Uy,Uz,U0,U2,U3,U4,U5,U6,U7,UE,UF,UG,UH,UQ,UR,US,UT,UY,UZ,Ta,Tb,Tc,Td,Te,Tf,Tg,Tk,Tq,Tr,Ts,Tt,Tu,Tv,Tw,Ty,Tz,T3,T4,T5,T7,T9,TA,TB,TC,TD,TE,TF,TH,TK,TR,TS,TT,TU]; all_goals tactic => exact rfl))
          · exact rd0
          · rw [hd k]
            (sym => (simp [Za,Zb,Zd,Ze,Zf,Zh,Zl,Zm,Zn,Zu,Z0,Z2,Z6,ZE,ZG,ZS,ZZ,Yb,Yc,Ye,Yj,Ys,Y1,YQ,YR,YV,YX,YY,Xa,Xe,Xo,Xp,Xs,Xt,Xu,Xw,Wm,Wy,Wz,W0,W3,W4,W5,W6,W7,W9,WA,WB,WE,WF,WH,WI,WJ,WL,WN,WO,WP,WQ,WV,WW,Vb,VL,VM,VN,VO,VP,VQ,VR,VT,VU,VV,VW,VX,VY,Ua,Ub,Uc,Ud,Uf,Ui,Um,Us,Uv,Uw,Ux,Uy,Uz,U0,U2,U3,U4,U5,U6,U7,UE,UF,UG,UH,UQ,UR,US,UT,UY,UZ,Ta,Tb,Tc,Td,Te,Tf,Tg,Tk,Tq,Tr,Ts,Tt,Tu,Tv,Tw,Ty,Tz,T3,T4,T5,T7,T9,TA,TB,TC,TD,TE,TF,TH,TK,TR,TS,TT,TU,z1]; all_goals tactic => exact rfl))
end
end Go.Proofs.YtpbeclkpohehgaaDoor
namespace Go.Proofs.YtpbeclkpohehgaaDoor
open Go Go.DL
set_option maxRecDepth 100000
set_option maxHeartbeats 4000000
theorem nxK_of (b : Nat → Nat) (d k : Nat) : (if canB b d k = true then ofN (nxK b d k) ++ [(k : Int)] else ofN (nxK b d k)) = ofN (nxK b d (k + 1)) := by
  rw [nxK_up]
  unfold ofN
  cases canB b d k <;> simp
section
variable {l : Li}
theorem round40e (g : Good l) (hf : l.Fit) {us : List Nat} (hu : ∀ v ∈ us,v < 256) (hul : us.length ≤ maxLen) {i : Nat} (hi : i < l.ls.length) {os : List Int} (ho : os.length = i) {d : Nat} (hdl : d < 2 ^ l.ls.length) (hd : ∀ j : Nat,metN os (j : Int) os.length = d.testBit j) {pk : Nat} (hpk : (nxL l.ls.length (behF l.ts) d)[us.getD i 0 % (nxL l.ls.length (behF l.ts) d).length]? = some pk) :
    headX 0 [1,2,5,6] (execW progX 40 0 none (match x40l4 with | .loop _ a => a | c => c) (envL [1,2,5,6] [.fs (us.map fun v => [B8 v]),.pt 0 0,oS 1 os,I (i : Nat)]) ([some (.blk true (.cells true l.c))] ++ oG os)) =
      some ([.fs (us.map fun v => [B8 v]),.pt 0 0,oS 1 (os ++ [(pk : Int)]),I (i + 1 : Nat)],[some (.blk true (.cells true l.c))] ++ oG (os ++ [(pk : Int)])) := by
  have hn := g.few
  have p := g.prec
  have a1 : ((os.length : Int) < (l.ls.length : Int)) = True := eq_true (by omega)
  have a0 : ((0 : Int) < (l.ls.length : Int)) = True := eq_true (by omega)
  have a2 : IntKind.i64.wrap ((i : Int) + 1) = (i : Int) + 1 := wrap_ok (by omega) (by omega)
  have z := Te (n := (l.ls.length : Int))
  have rd3 : ∀ k,k < l.ls.length → headX 0 [1,2,5,6,7,27,28] (execW progX 40 0 none (match x40l3 with | .loop _ a => a | c => c) (envL [1,2,5,6,7,27,28] [.fs (us.map fun v => [B8 v]),.pt 0 0,oS 1 os,I (i : Nat),oS (cB os) (ofN (nxK (behF l.ts) d k)),I l.ls.length,I (k : Nat)]) ([some (.blk true (.cells true l.c))] ++ (oG os ++ oG (ofN (nxK (behF l.ts) d k))))) =
      some ([.fs (us.map fun v => [B8 v]),.pt 0 0,oS 1 os,I (i : Nat),oS (cB os) (ofN (nxK (behF l.ts) d (k + 1))),I l.ls.length,I (k + 1 : Nat)],[some (.blk true (.cells true l.c))] ++ (oG os ++ oG (ofN (nxK (behF l.ts) d (k + 1))))) := by
    intro k hk
    have := nxK_len (behF l.ts) d k
    have e := round40d g hf (us.map fun v => [B8 v]) (i : Int) (os := os) (cs := ofN (nxK (behF l.ts) d k)) (by omega) (by rw [ofN_len]; omega) hk hd (cn_can p hn hdl)
    rw [nxK_of] at e
    exact e
  have k0 : ofN (nxK (behF l.ts) d 0) = [] := rfl
  have kn : nxK (behF l.ts) d l.ls.length = nxL l.ls.length (behF l.ts) d := rfl
  have hcl : (nxL l.ls.length (behF l.ts) d).length ≤ l.ls.length := nxK_len (behF l.ts) d l.ls.length
  rw [← kn] at hpk hcl
  have hix := lt_of hpk
  have hpk2 : (ofN (nxK (behF l.ts) d l.ls.length))[us.getD i 0 % (nxK (behF l.ts) d l.ls.length).length]? = some (pk : Int) := by
    unfold ofN
    rw [List.getElem?_map,hpk]; rfl
  have hle := ofN_len (nxK (behF l.ts) d l.ls.length)
  generalize ht : ofN (nxK (behF l.ts) d l.ls.length) = cn at *
  rw [← hle] at hpk2 hix hcl
  clear hle hpk kn
  have b1 : ((0 : Int) < (cn.length : Int)) = True := eq_true (by omega)
  have b2 : ((cn.length : Int) = 0) = False := eq_false (by omega)
  have hcn : cn ≠ [] := by rintro rfl; simp at hpk2
  have q1 : ((os.length + 1) * 8 ≤ 1099511627776) = True := eq_true (by omega)
  have q2 : (os.length + 1 ≤ 1099511627776) = True := eq_true (by omega)
  have fin : ∀ {P : Prop},P → P := id
  generalize behF l.ts = b at *
  by_cases hus : i < us.length
  · obtain ⟨u,hux⟩ := at_ix hus
    rw [getD_of hux] at hpk2 hix
    have hub := hu u (List.mem_of_getElem? hux)
    have c1 : ((i : Int) < (us.length : Int)) = True := eq_true (by omega)
    have c2 : IntKind.i64.wrap (u : Int) = (u : Int) := wrap_ok (by omega) (by omega)
    have c3 : Int.tmod (u : Int) (cn.length : Int) = ((u % cn.length : Nat) : Int) := by rw [Int.tmod_eq_emod_of_nonneg (by omega)]; omega
    have c4 : (((u % cn.length : Nat) : Int) < (cn.length : Int)) = True := eq_true (by omega)

    by_cases hne : os = []
    · subst hne
      simp only [cB_0,TR,TT,TS,TU,List.nil_append,List.length_nil,List.append_nil] at rd3 ⊢
      unfold x40l4
      dsimp only
      sym =>
        simp [Za,Zb,Zd,Ze,Zf,Zh,Zl,Zm,Zn,Zu,Z0,Z2,Z5,Z6,Z8,ZE,ZG,ZS,ZY,ZZ,Yb,Yc,Ye,Yf,Yg,Yh,Yj,Yl,Yq,Ys,Yv,Yw,Y0,Y1,YQ,YV,YX,YY,Xa,Xe,Xo,Xs,Xt,Xu,Xw,Wm,Wy,Wz,W0,W3,W4,W5,W6,W7,W9,WA,WB,WE,WF,WH,WI,WJ,WL,WN,WO,WP,WQ,WV,WW,Vb,VL,VM,VN,VO,VP,VQ,VR,VU,VV,VW,VX,VY,Ua,Ub,Uc,Ud,Ue,Uf,Ui,Us,Uw,Ux,Uy,Uz,U0,U2,U3,U4,U5,U6,U7,UE,UF,UG,UH,UQ,UR,US,UT,UY,UZ,Ta,Tb,Tc,Td,Te,Tf,Tg,Th,Ti,Tk,Tq,Tr,Ts,Tt,Tu,Tv,Tw,Ty,Tz,T3,T4,T5,T7,T9,TA,TB,TC,TD,TE,TF,TG,TH,TK,TR,TT,a0,a1]
        tactic =>
          unfold x40l3
          rw [loop_rule l.ls.length (fun k => [.fs (us.map fun v => [B8 v]),.pt 0 0,.nilsl,I (i : Nat),oS 1 (ofN (nxK b d k)),I l.ls.length,I (k : Nat)]) (fun k => [some (.blk true (.cells true l.c))] ++ oG (ofN (nxK b d k)))]
          · rw [ht,oS_ne hcn,oG_ne hcn]
            (sym => (simp [Za,Zb,Zd,Ze,Zf,Zh,Zl,Zm,Zn,Zu,Z0,Z2,Z5,Z6,Z8,ZE,ZG,ZS,ZY,ZZ,Yb,Yc,Ye,Yf,Yg,Yh,Yj,Yl,Yq,Ys,Yv,Yw,Y0,Y1,YQ,YV,YX,YY,Xa,Xe,Xo,Xs,Xt,Xu,Xw,Wm,Wy,Wz,W0,W3,W4,W5,W6,W7,W9,WA,WB,WE,WF,WH,WI,WJ,WL,WN,WO,WP,WQ,WV,WW,Vb,VL,VM,VN,VO,VP,VQ,VR,VU,VV,VW,VX,VY,Ua,Ub,Uc,Ud,Ue,Uf,Ui,Us,Uw,Ux,Uy,Uz,U0,U2,U3,U4,U5,U6,U7,UE,UF,UG,UH,UQ,UR,US,UT,UY,UZ,Ta,Tb,Tc,Td,Te,Tf,Tg,Th,Ti,Tk,Tq,Tr,Ts,Tt,Tu,Tv,Tw,Ty,Tz,T3,T4,T5,T7,T9,TA,TB,TC,TD,TE,TF,TG,TH,TK,TR,TT,a0,a1,a2,z,b1,b2,hux,c1,c2,c3,c4,hpk2,q1,q2]; all_goals tactic => exact rfl))
          · rw [k0]
            (sym => (simp [Za,Zb,Zd,Ze,Zf,Zh,Zl,Zm,Zn,Zu,Z0,Z2,Z5,Z6,Z8,ZE,ZG,ZS,ZY,ZZ,Yb,Yc,Ye,Yf,Yg,Yh,Yj,Yl,Yq,Ys,Yv,Yw,Y0,Y1,YQ,YV,YX,YY,Xa,Xe,Xo,Xs,Xt,Xu,Xw,Wm,Wy,Wz,W0,W3,W4,W5,W6,W7,W9,WA,WB,WE,WF,WH,WI,WJ,WL,WN,WO,WP,WQ,WV,WW,Vb,VL,VM,VN,VO,VP,VQ,VR,VU,VV,VW,VX,VY,Ua,Ub,Uc,Ud,Ue,Uf,Ui,Us,Uw,Ux,Uy,Uz,U0,U2,U3,U4,U5,U6,U7,UE,UF,UG,UH,UQ,UR,US,UT,UY,UZ,Ta,Tb,Tc,Td,Te,Tf,Tg,Th,Ti,Tk,Tq,Tr,Ts,Tt,Tu,Tv,Tw,Ty,Tz,T3,T4,T5,T7,T9,TA,TB,TC,TD,TE,TF,TG,TH,TK,TR,TT]; all_goals tactic => exact rfl))
          · exact rd3
          · rw [ht,oS_ne hcn,oG_ne hcn]
            (sym => (simp [Za,Zb,Zd,Ze,Zf,Zh,Zl,Zm,Zn,Zu,Z0,Z2,Z5,Z6,Z8,ZE,ZG,ZS,ZY,ZZ,Yb,Yc,Ye,Yf,Yg,Yh,Yj,Yl,Yq,Ys,Yv,Yw,Y0,Y1,YQ,YV,YX,YY,Xa,Xe,Xo,Xs,Xt,Xu,Xw,Wm,Wy,Wz,W0,W3,W4,W5,W6,W7,W9,WA,WB,WE,WF,WH,WI,WJ,WL,WN,WO,WP,WQ,WV,WW,Vb,VL,VM,VN,VO,VP,VQ,VR,VU,VV,VW,VX,VY,Ua,Ub,Uc,Ud,Ue,Uf,Ui,Us,Uw,Ux,Uy,Uz,U0,U2,U3,U4,U5,U6,U7,UE,UF,UG,UH,UQ,UR,US,UT,UY,UZ,Ta,Tb,Tc,Td,Te,Tf,Tg,Th,Ti,Tk,Tq,Tr,Ts,Tt,Tu,Tv,Tw,Ty,Tz,T3,T4,T5,T7,T9,TA,TB,TC,TD,TE,TF,TG,TH,TK,TR,TT,z]; all_goals tactic => exact rfl))
    · simp only [oS_ne hne,oG_ne hne,cB_ne hne,oS_ne (show os ++ [(pk : Int)] ≠ [] by simp),oG_ne (show os ++ [(pk : Int)] ≠ [] by simp),List.cons_append,List.nil_append] at rd3 ⊢
      unfold x40l4
      dsimp only
      sym =>
        simp [Za,Zb,Zd,Ze,Zf,Zh,Zl,Zm,Zn,Zu,Z0,Z2,Z5,Z6,Z8,ZE,ZG,ZS,ZY,ZZ,Yb,Yc,Ye,Yf,Yg,Yh,Yj,Yl,Yq,Ys,Yv,Yw,Y0,Y1,YQ,YV,YX,YY,Xa,Xe,Xo,Xs,Xt,Xu,Xw,Wm,Wy,Wz,W0,W3,W4,W5,W6,W7,W9,WA,WB,WE,WF,WH,WI,WJ,WL,WN,WO,WP,WQ,WV,WW,Vb,VL,VM,VN,VO,VP,VQ,VR,VU,VV,VW,VX,VY,Ua,Ub,Uc,Ud,Ue,Uf,Ui,Us,Uw,Ux,Uy,Uz,U0,U2,U3,U4,U5,U6,U7,UE,UF,UG,UH,UQ,UR,US,UT,UY,UZ,Ta,Tb,Tc,Td,Te,Tf,Tg,Th,Ti,Tk,Tq,Tr,Ts,Tt,Tu,Tv,Tw,Ty,Tz,T3,T4,T5,T7,T9,TA,TB,TC,TD,TE,TF,TG,TH,TK,TR,TT,a0,a1]
        tactic =>
          unfold x40l3
          rw [loop_rule l.ls.length (fun k => [.fs (us.map fun v => [B8 v]),.pt 0 0,.sl 1 0 1 os.length,I (i : Nat),oS 2 (ofN (nxK b d k)),I l.ls.length,I (k : Nat)]) (fun k => [some (.blk true (.cells true l.c)),some (.blk true (.cells true (os.map I)))] ++ oG (ofN (nxK b d k)))]
          · rw [ht,oS_ne hcn,oG_ne hcn]
            (sym => (simp [Za,Zb,Zd,Ze,Zf,Zh,Zl,Zm,Zn,Zu,Z0,Z2,Z5,Z6,Z8,ZE,ZG,ZS,ZY,ZZ,Yb,Yc,Ye,Yf,Yg,Yh,Yj,Yl,Yq,Ys,Yv,Yw,Y0,Y1,YQ,YV,YX,YY,Xa,Xe,Xo,Xs,Xt,Xu,Xw,Wm,Wy,Wz,W0,W3,W4,W5,W6,W7,W9,WA,WB,WE,WF,WH,WI,WJ,WL,WN,WO,WP,WQ,WV,WW,Vb,VL,VM,VN,VO,VP,VQ,VR,VU,VV,VW,VX,VY,Ua,Ub,Uc,Ud,Ue,Uf,Ui,Us,Uw,Ux,Uy,Uz,U0,U2,U3,U4,U5,U6,U7,UE,UF,UG,UH,UQ,UR,US,UT,UY,UZ,Ta,Tb,Tc,Td,Te,Tf,Tg,Th,Ti,Tk,Tq,Tr,Ts,Tt,Tu,Tv,Tw,Ty,Tz,T3,T4,T5,T7,T9,TA,TB,TC,TD,TE,TF,TG,TH,TK,TR,TT,a0,a1,a2,z,b1,b2,hux,c1,c2,c3,c4,hpk2,q1,q2]; all_goals tactic => exact rfl))
          · rw [k0]
            (sym => (simp [Za,Zb,Zd,Ze,Zf,Zh,Zl,Zm,Zn,Zu,Z0,Z2,Z5,Z6,Z8,ZE,ZG,ZS,ZY,ZZ,Yb,Yc,Ye,Yf,Yg,Yh,Yj,Yl,Yq,Ys,Yv,Yw,Y0,Y1,YQ,YV,YX,YY,Xa,Xe,Xo,Xs,Xt,Xu,Xw,Wm,Wy,Wz,W0,W3,W4,W5,W6,W7,W9,WA,WB,WE,WF,WH,WI,WJ,WL,WN,WO,WP,WQ,WV,WW,Vb,VL,VM,VN,VO,VP,VQ,VR,VU,VV,VW,VX,VY,Ua,Ub,Uc,Ud,Ue,Uf,Ui,Us,Uw,Ux,Uy,Uz,U0,U2,U3,U4,U5,U6,U7,UE,UF,UG,UH,UQ,UR,US,UT,UY,UZ,Ta,Tb,Tc,Td,Te,Tf,Tg,Th,Ti,Tk,Tq,Tr,Ts,Tt,Tu,Tv,Tw,Ty,Tz,T3,T4,T5,T7,T9,TA,TB,TC,TD,TE,TF,TG,TH,TK,TR,TT]; all_goals tactic => exact rfl))
          · exact rd3
          · rw [ht,oS_ne hcn,oG_ne hcn]
            (sym => (simp [Za,Zb,Zd,Ze,Zf,Zh,Zl,Zm,Zn,Zu,Z0,Z2,Z5,Z6,Z8,ZE,ZG,ZS,ZY,ZZ,Yb,Yc,Ye,Yf,Yg,Yh,Yj,Yl,Yq,Ys,Yv,Yw,Y0,Y1,YQ,YV,YX,YY,Xa,Xe,Xo,Xs,Xt,Xu,Xw,Wm,Wy,Wz,W0,W3,W4,W5,W6,W7,W9,WA,WB,WE,WF,WH,WI,WJ,WL,WN,WO,WP,WQ,WV,WW,Vb,VL,VM,VN,VO,VP,VQ,VR,VU,VV,VW,VX,VY,Ua,Ub,Uc,Ud,Ue,Uf,Ui,Us,Uw,Ux,Uy,Uz,U0,U2,U3,U4,U5,U6,U7,UE,UF,UG,UH,UQ,UR,US,UT,UY,UZ,Ta,Tb,Tc,Td,Te,Tf,Tg,Th,Ti,Tk,Tq,Tr,Ts,Tt,Tu,Tv,Tw,Ty,Tz,T3,T4,T5,T7,T9,TA,TB,TC,TD,TE,TF,TG,TH,TK,TR,TT,z]; all_goals tactic => exact rfl))
  · have c1 : ((i : Int) < (us.length : Int)) = False := eq_false (by omega)
    rw [show us.getD i 0 = 0 by rw [List.getD_eq_getElem?_getD,List.getElem?_eq_none (by omega)]; rfl,Nat.zero_mod] at hpk2 hix
    by_cases hne : os = []
    · subst hne
      simp only [cB_0,TR,TT,TS,TU,List.nil_append,List.length_nil,List.append_nil] at rd3 ⊢
      unfold x40l4
      dsimp only
      sym =>
        simp [Za,Zb,Zd,Ze,Zf,Zh,Zl,Zm,Zn,Zu,Z0,Z2,Z5,Z6,Z8,ZE,ZG,ZS,ZY,ZZ,Yb,Yc,Ye,Yf,Yg,Yh,Yj,Yl,Yq,Ys,Yv,Yw,Y0,Y1,YQ,YV,YX,YY,Xa,Xe,Xo,Xs,Xt,Xu,Xw,Wm,Wy,Wz,W0,W3,W4,W5,W6,W7,W9,WA,WB,WE,WF,WH,WI,WJ,WL,WN,WO,WP,WQ,WV,WW,Vb,VL,VM,VN,VO,VP,VQ,VR,VU,VV,VW,VX,VY,Ua,Ub,Uc,Ud,Ue,Uf,Ui,Us,Uw,Ux,Uy,Uz,U0,U2,U3,U4,U5,U6,U7,UE,UF,UG,UH,UQ,UR,US,UT,UY,UZ,Ta,Tb,Tc,Td,Te,Tf,Tg,Th,Ti,Tk,Tq,Tr,Ts,Tt,Tu,Tv,Tw,Ty,Tz,T3,T4,T5,T7,T9,TA,TB,TC,TD,TE,TF,TG,TH,TK,TR,TT,a0,a1]
        tactic =>
          unfold x40l3
          rw [loop_rule l.ls.length (fun k => [.fs (us.map fun v => [B8 v]),.pt 0 0,.nilsl,I (i : Nat),oS 1 (ofN (nxK b d k)),I l.ls.length,I (k : Nat)]) (fun k => [some (.blk true (.cells true l.c))] ++ oG (ofN (nxK b d k)))]
          · rw [ht,oS_ne hcn,oG_ne hcn]
            (sym => (simp [Za,Zb,Zd,Ze,Zf,Zh,Zl,Zm,Zn,Zu,Z0,Z2,Z5,Z6,Z8,ZE,ZG,ZS,ZY,ZZ,Yb,Yc,Ye,Yf,Yg,Yh,Yj,Yl,Yq,Ys,Yv,Yw,Y0,Y1,YQ,YV,YX,YY,Xa,Xe,Xo,Xs,Xt,Xu,Xw,Wm,Wy,Wz,W0,W3,W4,W5,W6,W7,W9,WA,WB,WE,WF,WH,WI,WJ,WL,WN,WO,WP,WQ,WV,WW,Vb,VL,VM,VN,VO,VP,VQ,VR,VU,VV,VW,VX,VY,Ua,Ub,Uc,Ud,Ue,Uf,Ui,Us,Uw,Ux,Uy,Uz,U0,U2,U3,U4,U5,U6,U7,UE,UF,UG,UH,UQ,UR,US,UT,UY,UZ,Ta,Tb,Tc,Td,Te,Tf,Tg,Th,Ti,Tk,Tq,Tr,Ts,Tt,Tu,Tv,Tw,Ty,Tz,T3,T4,T5,T7,T9,TA,TB,TC,TD,TE,TF,TG,TH,TK,TR,TT,a0,a1,a2,z,b1,b2,c1,hpk2,q1,q2]; all_goals tactic => exact rfl))
          · rw [k0]
            (sym => (simp [Za,Zb,Zd,Ze,Zf,Zh,Zl,Zm,Zn,Zu,Z0,Z2,Z5,Z6,Z8,ZE,ZG,ZS,ZY,ZZ,Yb,Yc,Ye,Yf,Yg,Yh,Yj,Yl,Yq,Ys,Yv,Yw,Y0,Y1,YQ,YV,YX,YY,Xa,Xe,Xo,Xs,Xt,Xu,Xw,Wm,Wy,Wz,W0,W3,W4,W5,W6,W7,W9,WA,WB,WE,WF,WH,WI,WJ,WL,WN,WO,WP,WQ,WV,WW,Vb,VL,VM,VN,VO,VP,VQ,VR,VU,VV,VW,VX,VY,Ua,Ub,Uc,Ud,Ue,Uf,Ui,Us,Uw,Ux,Uy,Uz,U0,U2,U3,U4,U5,U6,U7,UE,UF,UG,UH,UQ,UR,US,UT,UY,UZ,Ta,Tb,Tc,Td,Te,Tf,Tg,Th,Ti,Tk,Tq,Tr,Ts,Tt,Tu,Tv,Tw,Ty,Tz,T3,T4,T5,T7,T9,TA,TB,TC,TD,TE,TF,TG,TH,TK,TR,TT]; all_goals tactic => exact rfl))
          · exact rd3
          · rw [ht,oS_ne hcn,oG_ne hcn]
            (sym => (simp [Za,Zb,Zd,Ze,Zf,Zh,Zl,Zm,Zn,Zu,Z0,Z2,Z5,Z6,Z8,ZE,ZG,ZS,ZY,ZZ,Yb,Yc,Ye,Yf,Yg,Yh,Yj,Yl,Yq,Ys,Yv,Yw,Y0,Y1,YQ,YV,YX,YY,Xa,Xe,Xo,Xs,Xt,Xu,Xw,Wm,Wy,Wz,W0,W3,W4,W5,W6,W7,W9,WA,WB,WE,WF,WH,WI,WJ,WL,WN,WO,WP,WQ,WV,WW,Vb,VL,VM,VN,VO,VP,VQ,VR,VU,VV,VW,VX,VY,Ua,Ub,Uc,Ud,Ue,Uf,Ui,Us,Uw,Ux,Uy,Uz,U0,U2,U3,U4,U5,U6,U7,UE,UF,UG,UH,UQ,UR,US,UT,UY,UZ,Ta,Tb,Tc,Td,Te,Tf,Tg,Th,Ti,Tk,Tq,Tr,Ts,Tt,Tu,Tv,Tw,Ty,Tz,T3,T4,T5,T7,T9,TA,TB,TC,TD,TE,TF,TG,TH,TK,TR,TT,z]; all_goals tactic => exact rfl))
    · simp only [oS_ne hne,oG_ne hne,cB_ne hne,oS_ne (show os ++ [(pk : Int)] ≠ [] by simp),oG_ne (show os ++ [(pk : Int)] ≠ [] by simp),List.cons_append,List.nil_append] at rd3 ⊢
      unfold x40l4
      dsimp only
      sym =>
        simp [Za,Zb,Zd,Ze,Zf,Zh,Zl,Zm,Zn,Zu,Z0,Z2,Z5,Z6,Z8,ZE,ZG,ZS,ZY,ZZ,Yb,Yc,Ye,Yf,Yg,Yh,Yj,Yl,Yq,Ys,Yv,Yw,Y0,Y1,YQ,YV,YX,YY,Xa,Xe,Xo,Xs,Xt,Xu,Xw,Wm,Wy,Wz,W0,W3,W4,W5,W6,W7,W9,WA,WB,WE,WF,WH,WI,WJ,WL,WN,WO,WP,WQ,WV,WW,Vb,VL,VM,VN,VO,VP,VQ,VR,VU,VV,VW,VX,VY,Ua,Ub,Uc,Ud,Ue,Uf,Ui,Us,Uw,Ux,Uy,Uz,U0,U2,U3,U4,U5,U6,U7,UE,UF,UG,UH,UQ,UR,US,UT,UY,UZ,Ta,Tb,Tc,Td,Te,Tf,Tg,Th,Ti,Tk,Tq,Tr,Ts,Tt,Tu,Tv,Tw,Ty,Tz,T3,T4,T5,T7,T9,TA,TB,TC,TD,TE,TF,TG,TH,TK,TR,TT,a0,a1]
        tactic =>
          unfold x40l3
          rw [loop_rule l.ls.length (fun k => [.fs (us.map fun v => [B8 v]),.pt 0 0,.sl 1 0 1 os.length,I (i : Nat),oS 2 (ofN (nxK b d k)),I l.ls.length,I (k : Nat)]) (fun k => [some (.blk true (.cells true l.c)),some (.blk true (.cells true (os.map I)))] ++ oG (ofN (nxK b d k)))]
          · rw [ht,oS_ne hcn,oG_ne hcn]
            (sym => (simp [Za,Zb,Zd,Ze,Zf,Zh,Zl,Zm,Zn,Zu,Z0,Z2,Z5,Z6,Z8,ZE,ZG,ZS,ZY,ZZ,Yb,Yc,Ye,Yf,Yg,Yh,Yj,Yl,Yq,Ys,Yv,Yw,Y0,Y1,YQ,YV,YX,YY,Xa,Xe,Xo,Xs,Xt,Xu,Xw,Wm,Wy,Wz,W0,W3,W4,W5,W6,W7,W9,WA,WB,WE,WF,WH,WI,WJ,WL,WN,WO,WP,WQ,WV,WW,Vb,VL,VM,VN,VO,VP,VQ,VR,VU,VV,VW,VX,VY,Ua,Ub,Uc,Ud,Ue,Uf,Ui,Us,Uw,Ux,Uy,Uz,U0,U2,U3,U4,U5,U6,U7,UE,UF,UG,UH,UQ,UR,US,UT,UY,UZ,Ta,Tb,Tc,Td,Te,Tf,Tg,Th,Ti,Tk,Tq,Tr,Ts,Tt,Tu,Tv,Tw,Ty,Tz,T3,T4,T5,T7,T9,TA,TB,TC,TD,TE,TF,TG,TH,TK,TR,TT,a0,a1,a2,z,b1,b2,c1,hpk2,q1,q2]; all_goals tactic => exact rfl))
          · rw [k0]
            (sym => (simp [Za,Zb,Zd,Ze,Zf,Zh,Zl,Zm,Zn,Zu,Z0,Z2,Z5,Z6,Z8,ZE,ZG,ZS,ZY,ZZ,Yb,Yc,Ye,Yf,Yg,Yh,Yj,Yl,Yq,Ys,Yv,Yw,Y0,Y1,YQ,YV,YX,YY,Xa,Xe,Xo,Xs,Xt,Xu,Xw,Wm,Wy,Wz,W0,W3,W4,W5,W6,W7,W9,WA,WB,WE,WF,WH,WI,WJ,WL,WN,WO,WP,WQ,WV,WW,Vb,VL,VM,VN,VO,VP,VQ,VR,VU,VV,VW,VX,VY,Ua,Ub,Uc,Ud,Ue,Uf,Ui,Us,Uw,Ux,Uy,Uz,U0,U2,U3,U4,U5,U6,U7,UE,UF,UG,UH,UQ,UR,US,UT,UY,UZ,Ta,Tb,Tc,Td,Te,Tf,Tg,Th,Ti,Tk,Tq,Tr,Ts,Tt,Tu,Tv,Tw,Ty,Tz,T3,T4,T5,T7,T9,TA,TB,TC,TD,TE,TF,TG,TH,TK,TR,TT]; all_goals tactic => exact rfl))
          · exact rd3
          · rw [ht,oS_ne hcn,oG_ne hcn]
            (sym => (simp [Za,Zb,Zd,Ze,Zf,Zh,Zl,Zm,Zn,Zu,Z0,Z2,Z5,Z6,Z8,ZE,ZG,ZS,ZY,ZZ,Yb,Yc,Ye,Yf,Yg,Yh,Yj,Yl,Yq,Ys,Yv,Yw,Y0,Y1,YQ,YV,YX,YY,Xa,Xe,Xo,Xs,Xt,Xu,Xw,Wm,Wy,Wz,W0,W3,W4,W5,W6,W7,W9,WA,WB,WE,WF,WH,WI,WJ,WL,WN,WO,WP,WQ,WV,WW,Vb,VL,VM,VN,VO,VP,VQ,VR,VU,VV,VW,VX,VY,Ua,Ub,Uc,Ud,Ue,Uf,Ui,Us,Uw,Ux,Uy,Uz,U0,U2,U3,U4,U5,U6,U7,UE,UF,UG,UH,UQ,UR,US,UT,UY,UZ,Ta,Tb,Tc,Td,Te,Tf,Tg,Th,Ti,Tk,Tq,Tr,Ts,Tt,Tu,Tv,Tw,Ty,Tz,T3,T4,T5,T7,T9,TA,TB,TC,TD,TE,TF,TG,TH,TK,TR,TT,z]; all_goals tactic => exact rfl))
end
end Go.Proofs.YtpbeclkpohehgaaDoor
