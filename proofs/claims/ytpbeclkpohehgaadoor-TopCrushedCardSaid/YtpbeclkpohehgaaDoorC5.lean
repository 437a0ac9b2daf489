/- Parts of a proof, joined: GT E0 E1 E2 K1 K2 K3 K4 K5 K6 K7 K8 K9 K10 K11 K12 K13 K14 K15 K16 K17 K18 K19 K20 K21 K22 K23 K24 K25 K26 K27 K28 K29 K30 K31 K32 K33 K34 K35 K36 K37 K38 K39 K40 K41 K42 K43 K44 K45 K46 K47 K48 K49 K50 K51 K52 K53 K54 K55 K56 K57 K58 K59 K60 K61 K62 K63 K64 K65 K66 K67 K68 K69 K70 K71 K72 K73 K74 K75 K76 K77 K78 K79 K80 K81 K82 K83 K84 K85 K86 K90 K91. No statement of the seed is proved here. -/
import Derived.KernelRfl
import Derived.Test.YtpbeclkpohehgaaDoorC4
set_option linter.unusedSimpArgs false
set_option linter.unusedVariables false
set_option linter.unusedSectionVars false
namespace Go.Proofs.YtpbeclkpohehgaaDoor
open Go Go.DL Go.Proofs.Tryd

def progX : Nat → Option XFn
  | 4 => some x4
  | 22 => some x22
  | 24 => some x24
  | 25 => some x25
  | 26 => some x26
  | 27 => some x27
  | 28 => some x28
  | 29 => some x29
  | 30 => some x30
  | 52 => some x52
  | 54 => some x54
  | 57 => some x57
  | 58 => some x58
  | 59 => some x59
  | 60 => some x60
  | 65 => some x65
  | 66 => some x66
  | 67 => some x67
  | 68 => some x68
  | 69 => some x69
  | 70 => some x70
  | 71 => some x71
  | 72 => some x72
  | 73 => some x73
  | 74 => some x74
  | 75 => some x75
  | 81 => some x81
  | 83 => some x83
  | 86 => some x86
  | 93 => some x93
  | 94 => some x94
  | 95 => some x95
  | 96 => some x96
  | 97 => some x97
  | 98 => some x98
  | 99 => some x99
  | 100 => some x100
  | 101 => some x101
  | 102 => some x102
  | 103 => some x103
  | 104 => some x104
  | 105 => some x105
  | 106 => some x106
  | 107 => some x107
  | 110 => some x110
  | 112 => some x112
  | 113 => some x113
  | 114 => some x114
  | 115 => some x115
  | 116 => some x116
  | 117 => some x117
  | 118 => some x118
  | 119 => some x119
  | _ => none
theorem progX_ok : XOk prog progX := by
  refine ⟨rfl,fun k d h => ?_,fun k d h => ?_,fun k d h => ?_⟩
  · unfold progX at h
    split at h <;> first | (cases h; done) | (simp only [Option.some.injEq] at h; subst h; first | exact is4 | exact is22 | exact is24 | exact is25 | exact is26 | exact is27 | exact is28 | exact is29 | exact is30 | exact is52 | exact is54 | exact is57 | exact is58 | exact is59 | exact is60 | exact is65 | exact is66 | exact is67 | exact is68 | exact is69 | exact is70 | exact is71 | exact is72 | exact is73 | exact is74 | exact is75 | exact is81 | exact is83 | exact is86 | exact is93 | exact is94 | exact is95 | exact is96 | exact is97 | exact is98 | exact is99 | exact is100 | exact is101 | exact is102 | exact is103 | exact is104 | exact is105 | exact is106 | exact is107 | exact is110 | exact is112 | exact is113 | exact is114 | exact is115 | exact is116 | exact is117 | exact is118 | exact is119)
  · unfold progX at h
    split at h <;> first | (cases h; done) | (simp only [Option.some.injEq] at h; subst h; first | exact ok4 | exact ok22 | exact ok24 | exact ok25 | exact ok26 | exact ok27 | exact ok28 | exact ok29 | exact ok30 | exact ok52 | exact ok54 | exact ok57 | exact ok58 | exact ok59 | exact ok60 | exact ok65 | exact ok66 | exact ok67 | exact ok68 | exact ok69 | exact ok70 | exact ok71 | exact ok72 | exact ok73 | exact ok74 | exact ok75 | exact ok81 | exact ok83 | exact ok86 | exact ok93 | exact ok94 | exact ok95 | exact ok96 | exact ok97 | exact ok98 | exact ok99 | exact ok100 | exact ok101 | exact ok102 | exact ok103 | exact ok104 | exact ok105 | exact ok106 | exact ok107 | exact ok110 | exact ok112 | exact ok113 | exact ok114 | exact ok115 | exact ok116 | exact ok117 | exact ok118 | exact ok119)
  · unfold progX at h
    split at h <;> first | (cases h; done) | (simp only [Option.some.injEq] at h; subst h; first | exact st4 | exact st22 | exact st24 | exact st25 | exact st26 | exact st27 | exact st28 | exact st29 | exact st30 | exact st52 | exact st54 | exact st57 | exact st58 | exact st59 | exact st60 | exact st65 | exact st66 | exact st67 | exact st68 | exact st69 | exact st70 | exact st71 | exact st72 | exact st73 | exact st74 | exact st75 | exact st81 | exact st83 | exact st86 | exact st93 | exact st94 | exact st95 | exact st96 | exact st97 | exact st98 | exact st99 | exact st100 | exact st101 | exact st102 | exact st103 | exact st104 | exact st105 | exact st106 | exact st107 | exact st110 | exact st112 | exact st113 | exact st114 | exact st115 | exact st116 | exact st117 | exact st118 | exact st119)
theorem r4 {vs : List AV} {h : XH} (hl : vs.length ≤ 319) : runW progX 4 vs h = retX x4.res x4.ownR h.length (execW progX 4 h.length none x4.body (argEnv (if x4.ownA then vs else nzL vs)) h) := runW_eq rfl hl h
theorem r22 {vs : List AV} {h : XH} (hl : vs.length ≤ 67) : runW progX 22 vs h = retX x22.res x22.ownR h.length (execW progX 22 h.length none x22.body (argEnv (if x22.ownA then vs else nzL vs)) h) := runW_eq rfl hl h
theorem r24 {vs : List AV} {h : XH} (hl : vs.length ≤ 64) : runW progX 24 vs h = retX x24.res x24.ownR h.length (execW progX 24 h.length none x24.body (argEnv (if x24.ownA then vs else nzL vs)) h) := runW_eq rfl hl h
theorem r25 {vs : List AV} {h : XH} (hl : vs.length ≤ 8) : runW progX 25 vs h = retX x25.res x25.ownR h.length (execW progX 25 h.length none x25.body (argEnv (if x25.ownA then vs else nzL vs)) h) := runW_eq rfl hl h
theorem r26 {vs : List AV} {h : XH} (hl : vs.length ≤ 75) : runW progX 26 vs h = retX x26.res x26.ownR h.length (execW progX 26 h.length none x26.body (argEnv (if x26.ownA then vs else nzL vs)) h) := runW_eq rfl hl h
theorem r27 {vs : List AV} {h : XH} (hl : vs.length ≤ 37) : runW progX 27 vs h = retX x27.res x27.ownR h.length (execW progX 27 h.length none x27.body (argEnv (if x27.ownA then vs else nzL vs)) h) := runW_eq rfl hl h
theorem r28 {vs : List AV} {h : XH} (hl : vs.length ≤ 35) : runW progX 28 vs h = retX x28.res x28.ownR h.length (execW progX 28 h.length none x28.body (argEnv (if x28.ownA then vs else nzL vs)) h) := runW_eq rfl hl h
theorem r29 {vs : List AV} {h : XH} (hl : vs.length ≤ 23) : runW progX 29 vs h = retX x29.res x29.ownR h.length (execW progX 29 h.length none x29.body (argEnv (if x29.ownA then vs else nzL vs)) h) := runW_eq rfl hl h
theorem r30 {vs : List AV} {h : XH} (hl : vs.length ≤ 29) : runW progX 30 vs h = retX x30.res x30.ownR h.length (execW progX 30 h.length none x30.body (argEnv (if x30.ownA then vs else nzL vs)) h) := runW_eq rfl hl h
theorem r52 {vs : List AV} {h : XH} (hl : vs.length ≤ 46) : runW progX 52 vs h = retX x52.res x52.ownR h.length (execW progX 52 h.length none x52.body (argEnv (if x52.ownA then vs else nzL vs)) h) := runW_eq rfl hl h
theorem r54 {vs : List AV} {h : XH} (hl : vs.length ≤ 22) : runW progX 54 vs h = retX x54.res x54.ownR h.length (execW progX 54 h.length none x54.body (argEnv (if x54.ownA then vs else nzL vs)) h) := runW_eq rfl hl h
theorem r57 {vs : List AV} {h : XH} (hl : vs.length ≤ 42) : runW progX 57 vs h = retX x57.res x57.ownR h.length (execW progX 57 h.length none x57.body (argEnv (if x57.ownA then vs else nzL vs)) h) := runW_eq rfl hl h
theorem r58 {vs : List AV} {h : XH} (hl : vs.length ≤ 15) : runW progX 58 vs h = retX x58.res x58.ownR h.length (execW progX 58 h.length none x58.body (argEnv (if x58.ownA then vs else nzL vs)) h) := runW_eq rfl hl h
theorem r59 {vs : List AV} {h : XH} (hl : vs.length ≤ 24) : runW progX 59 vs h = retX x59.res x59.ownR h.length (execW progX 59 h.length none x59.body (argEnv (if x59.ownA then vs else nzL vs)) h) := runW_eq rfl hl h
theorem r60 {vs : List AV} {h : XH} (hl : vs.length ≤ 48) : runW progX 60 vs h = retX x60.res x60.ownR h.length (execW progX 60 h.length none x60.body (argEnv (if x60.ownA then vs else nzL vs)) h) := runW_eq rfl hl h
theorem r65 {vs : List AV} {h : XH} (hl : vs.length ≤ 22) : runW progX 65 vs h = retX x65.res x65.ownR h.length (execW progX 65 h.length none x65.body (argEnv (if x65.ownA then vs else nzL vs)) h) := runW_eq rfl hl h
theorem r66 {vs : List AV} {h : XH} (hl : vs.length ≤ 33) : runW progX 66 vs h = retX x66.res x66.ownR h.length (execW progX 66 h.length none x66.body (argEnv (if x66.ownA then vs else nzL vs)) h) := runW_eq rfl hl h
theorem r67 {vs : List AV} {h : XH} (hl : vs.length ≤ 25) : runW progX 67 vs h = retX x67.res x67.ownR h.length (execW progX 67 h.length none x67.body (argEnv (if x67.ownA then vs else nzL vs)) h) := runW_eq rfl hl h
theorem r68 {vs : List AV} {h : XH} (hl : vs.length ≤ 11) : runW progX 68 vs h = retX x68.res x68.ownR h.length (execW progX 68 h.length none x68.body (argEnv (if x68.ownA then vs else nzL vs)) h) := runW_eq rfl hl h
theorem r69 {vs : List AV} {h : XH} (hl : vs.length ≤ 23) : runW progX 69 vs h = retX x69.res x69.ownR h.length (execW progX 69 h.length none x69.body (argEnv (if x69.ownA then vs else nzL vs)) h) := runW_eq rfl hl h
theorem r70 {vs : List AV} {h : XH} (hl : vs.length ≤ 18) : runW progX 70 vs h = retX x70.res x70.ownR h.length (execW progX 70 h.length none x70.body (argEnv (if x70.ownA then vs else nzL vs)) h) := runW_eq rfl hl h
theorem r71 {vs : List AV} {h : XH} (hl : vs.length ≤ 41) : runW progX 71 vs h = retX x71.res x71.ownR h.length (execW progX 71 h.length none x71.body (argEnv (if x71.ownA then vs else nzL vs)) h) := runW_eq rfl hl h
theorem r72 {vs : List AV} {h : XH} (hl : vs.length ≤ 46) : runW progX 72 vs h = retX x72.res x72.ownR h.length (execW progX 72 h.length none x72.body (argEnv (if x72.ownA then vs else nzL vs)) h) := runW_eq rfl hl h
theorem r73 {vs : List AV} {h : XH} (hl : vs.length ≤ 26) : runW progX 73 vs h = retX x73.res x73.ownR h.length (execW progX 73 h.length none x73.body (argEnv (if x73.ownA then vs else nzL vs)) h) := runW_eq rfl hl h
theorem r74 {vs : List AV} {h : XH} (hl : vs.length ≤ 6) : runW progX 74 vs h = retX x74.res x74.ownR h.length (execW progX 74 h.length none x74.body (argEnv (if x74.ownA then vs else nzL vs)) h) := runW_eq rfl hl h
theorem r75 {vs : List AV} {h : XH} (hl : vs.length ≤ 20) : runW progX 75 vs h = retX x75.res x75.ownR h.length (execW progX 75 h.length none x75.body (argEnv (if x75.ownA then vs else nzL vs)) h) := runW_eq rfl hl h
theorem r81 {vs : List AV} {h : XH} (hl : vs.length ≤ 4) : runW progX 81 vs h = retX x81.res x81.ownR h.length (execW progX 81 h.length none x81.body (argEnv (if x81.ownA then vs else nzL vs)) h) := runW_eq rfl hl h
theorem r83 {vs : List AV} {h : XH} (hl : vs.length ≤ 10) : runW progX 83 vs h = retX x83.res x83.ownR h.length (execW progX 83 h.length none x83.body (argEnv (if x83.ownA then vs else nzL vs)) h) := runW_eq rfl hl h
theorem r86 {vs : List AV} {h : XH} (hl : vs.length ≤ 38) : runW progX 86 vs h = retX x86.res x86.ownR h.length (execW progX 86 h.length none x86.body (argEnv (if x86.ownA then vs else nzL vs)) h) := runW_eq rfl hl h
theorem r93 {vs : List AV} {h : XH} (hl : vs.length ≤ 5) : runW progX 93 vs h = retX x93.res x93.ownR h.length (execW progX 93 h.length none x93.body (argEnv (if x93.ownA then vs else nzL vs)) h) := runW_eq rfl hl h
theorem r94 {vs : List AV} {h : XH} (hl : vs.length ≤ 58) : runW progX 94 vs h = retX x94.res x94.ownR h.length (execW progX 94 h.length none x94.body (argEnv (if x94.ownA then vs else nzL vs)) h) := runW_eq rfl hl h
theorem r95 {vs : List AV} {h : XH} (hl : vs.length ≤ 80) : runW progX 95 vs h = retX x95.res x95.ownR h.length (execW progX 95 h.length none x95.body (argEnv (if x95.ownA then vs else nzL vs)) h) := runW_eq rfl hl h
theorem r96 {vs : List AV} {h : XH} (hl : vs.length ≤ 48) : runW progX 96 vs h = retX x96.res x96.ownR h.length (execW progX 96 h.length none x96.body (argEnv (if x96.ownA then vs else nzL vs)) h) := runW_eq rfl hl h
theorem r97 {vs : List AV} {h : XH} (hl : vs.length ≤ 5) : runW progX 97 vs h = retX x97.res x97.ownR h.length (execW progX 97 h.length none x97.body (argEnv (if x97.ownA then vs else nzL vs)) h) := runW_eq rfl hl h
theorem r98 {vs : List AV} {h : XH} (hl : vs.length ≤ 23) : runW progX 98 vs h = retX x98.res x98.ownR h.length (execW progX 98 h.length none x98.body (argEnv (if x98.ownA then vs else nzL vs)) h) := runW_eq rfl hl h
theorem r99 {vs : List AV} {h : XH} (hl : vs.length ≤ 22) : runW progX 99 vs h = retX x99.res x99.ownR h.length (execW progX 99 h.length none x99.body (argEnv (if x99.ownA then vs else nzL vs)) h) := runW_eq rfl hl h
theorem r100 {vs : List AV} {h : XH} (hl : vs.length ≤ 47) : runW progX 100 vs h = retX x100.res x100.ownR h.length (execW progX 100 h.length none x100.body (argEnv (if x100.ownA then vs else nzL vs)) h) := runW_eq rfl hl h
theorem r101 {vs : List AV} {h : XH} (hl : vs.length ≤ 6) : runW progX 101 vs h = retX x101.res x101.ownR h.length (execW progX 101 h.length none x101.body (argEnv (if x101.ownA then vs else nzL vs)) h) := runW_eq rfl hl h
theorem r102 {vs : List AV} {h : XH} (hl : vs.length ≤ 27) : runW progX 102 vs h = retX x102.res x102.ownR h.length (execW progX 102 h.length none x102.body (argEnv (if x102.ownA then vs else nzL vs)) h) := runW_eq rfl hl h
theorem r103 {vs : List AV} {h : XH} (hl : vs.length ≤ 14) : runW progX 103 vs h = retX x103.res x103.ownR h.length (execW progX 103 h.length none x103.body (argEnv (if x103.ownA then vs else nzL vs)) h) := runW_eq rfl hl h
theorem r104 {vs : List AV} {h : XH} (hl : vs.length ≤ 60) : runW progX 104 vs h = retX x104.res x104.ownR h.length (execW progX 104 h.length none x104.body (argEnv (if x104.ownA then vs else nzL vs)) h) := runW_eq rfl hl h
theorem r105 {vs : List AV} {h : XH} (hl : vs.length ≤ 36) : runW progX 105 vs h = retX x105.res x105.ownR h.length (execW progX 105 h.length none x105.body (argEnv (if x105.ownA then vs else nzL vs)) h) := runW_eq rfl hl h
theorem r106 {vs : List AV} {h : XH} (hl : vs.length ≤ 14) : runW progX 106 vs h = retX x106.res x106.ownR h.length (execW progX 106 h.length none x106.body (argEnv (if x106.ownA then vs else nzL vs)) h) := runW_eq rfl hl h
theorem r110 {vs : List AV} {h : XH} (hl : vs.length ≤ 29) : runW progX 110 vs h = retX x110.res x110.ownR h.length (execW progX 110 h.length none x110.body (argEnv (if x110.ownA then vs else nzL vs)) h) := runW_eq rfl hl h
theorem r112 {vs : List AV} {h : XH} (hl : vs.length ≤ 8) : runW progX 112 vs h = retX x112.res x112.ownR h.length (execW progX 112 h.length none x112.body (argEnv (if x112.ownA then vs else nzL vs)) h) := runW_eq rfl hl h
theorem r113 {vs : List AV} {h : XH} (hl : vs.length ≤ 15) : runW progX 113 vs h = retX x113.res x113.ownR h.length (execW progX 113 h.length none x113.body (argEnv (if x113.ownA then vs else nzL vs)) h) := runW_eq rfl hl h
theorem r114 {vs : List AV} {h : XH} (hl : vs.length ≤ 72) : runW progX 114 vs h = retX x114.res x114.ownR h.length (execW progX 114 h.length none x114.body (argEnv (if x114.ownA then vs else nzL vs)) h) := runW_eq rfl hl h
theorem r115 {vs : List AV} {h : XH} (hl : vs.length ≤ 32) : runW progX 115 vs h = retX x115.res x115.ownR h.length (execW progX 115 h.length none x115.body (argEnv (if x115.ownA then vs else nzL vs)) h) := runW_eq rfl hl h
theorem r119 {vs : List AV} {h : XH} (hl : vs.length ≤ 35) : runW progX 119 vs h = retX x119.res x119.ownR h.length (execW progX 119 h.length none x119.body (argEnv (if x119.ownA then vs else nzL vs)) h) := runW_eq rfl hl h

end Go.Proofs.YtpbeclkpohehgaaDoor
namespace Go.Proofs.YtpbeclkpohehgaaDoor
open Go Go.DL
end Go.Proofs.YtpbeclkpohehgaaDoor
namespace Go.Proofs.YtpbeclkpohehgaaDoor
open Go Go.DL
set_option maxHeartbeats 4000000
set_option maxRecDepth 100000
end Go.Proofs.YtpbeclkpohehgaaDoor
namespace Go.Proofs.YtpbeclkpohehgaaDoor
open Go Go.DL
set_option maxHeartbeats 4000000
set_option maxRecDepth 100000
theorem ck_0 : runW progX 25 [I (0),I (10)] [] = some (.agg [I (0),I (10)],[]) := runW_iff.2 ⟨400,by kernel_rfl⟩
theorem ck_1 : runW progX 27 [.agg [I (3),I (0),I (10),.nilsl]] [] = some (.tup [I (1),I (5),I (0)],[]) := runW_iff.2 ⟨400,by kernel_rfl⟩
theorem ck_2 : runW progX 25 [I (10),I (10)] [] = some (.agg [I (10),I (10)],[]) := runW_iff.2 ⟨400,by kernel_rfl⟩
theorem ck_3 : runW progX 29 [.agg [.fs [[.fs [[I (15),I (5)]]]],.fs [[I (0),I (0),I (0),I (10),I (10)],[I (0),I (0),I (0),I (10),I (10)]],.fs [[.fs [[I (1)]]],[.fs [[I (0)]]]],I (0),I (0)]] [] = some (.tup [.fs [[I (0)],[I (1)]],I (5),I (0)],[]) := runW_iff.2 ⟨400,by kernel_rfl⟩
theorem crushed_w : runW progX 24 [] [] = some (.bool true,[]) := by
  rw [r24 (by simp)]; unfold x24; dsimp only
  (sym => (simp [Za,Zb,Zc,Zd,Ze,Zf,Zg,Zh,Zj,Zl,Zm,Zn,Zo,Zp,Zt,Zu,Zw,Zy,Zz,Z1,Z7,ZA,ZB,ZD,ZH,ZI,ZL,ZM,ZQ,ZR,ZS,ZZ,Ye,Yf,Yg,Yo,Y2,Y7,YO,YQ,YR,YT,YV,Xa,Xe,Xf,Xg,Xh,Xk,Xo,Xp,Xq,Xr,Xs,Xw,X0,XI,XM,XU,XX,XY,XZ,Wd,Wn,Wo,Wq,Wz,W0,W3,W4,W5,W6,W7,W8,WA,WI,WL,WM,WN,WO,WP,WQ,WS,WT,Vf,Vg,Vh,Vp,Vq,Vr,Vs,Vt,Vu,Vv,Vx,Vy,Vz,V0,V1,V2,V3,V4,V6,V7,V9,VA,VB,VC,VD,VG,VH,VI,VJ,VU,VV,VW,VX,VY,VZ,Ub,Uc,Ud,Uj,Ul,Us,Uu,Ux,Uz,U0,U1,U2,U3,U4,U5,U6,U7,U8,U9,UA,UB,UC,UE,UF,UG,UH,UM,UN,UO,UP,UY,UZ,Ta,Tb,Tc,Td,Te,Tf,Ti,Tn,Tp,Tq,Tu,T1,T2,TA,TB,TD,TE,TF,Sg,Si,Sj,Sk,Sl,Sy,Sz,S6,ck_0,ck_1,ck_2,ck_3]; all_goals tactic => exact rfl))
end Go.Proofs.YtpbeclkpohehgaaDoor
namespace Go.Proofs.YtpbeclkpohehgaaDoor
open Go Go.DL
set_option maxRecDepth 100000
set_option maxHeartbeats 1000000
theorem ptf (p : Prop) : p = True ∨ p = False := by
  by_cases h : p
  · exact .inl (eq_true h)
  · exact .inr (eq_false h)
theorem at_ix {α : Type} {l : List α} {i : Nat} (h : i < l.length) : ∃ x,l[i]? = some x := ⟨_,List.getElem?_eq_getElem h⟩
theorem lt_ix {α : Type} {l : List α} {i : Nat} (h : i < l.length) : ((i : Int) < (l.length : Int)) = True := eq_true (by omega)
theorem up_ix {n i : Nat} (h : i < n) (hn : n ≤ 9223372036854775807) : IntKind.i64.wrap ((i : Int) + 1) = (i : Int) + 1 := wrap_ok (by omega) (by omega)
theorem lt_of {α : Type} {l : List α} {i : Nat} {x : α} (h : l[i]? = some x) : i < l.length := (List.getElem?_eq_some_iff.1 h).1

def btw (a b c : Int) : Bool := decide (a ≤ b) && decide (b ≤ c)
theorem w58 (a b c : Int) : runW progX 58 [I a,I b,I c] [] = some (.bool (btw a b c),[]) := by
  rw [r58 (by simp)]; unfold x58; dsimp only
  rcases ptf (a ≤ b) with h | h
  · (sym => (simp [Za,Zb,Zf,Zh,Zl,Zm,Zo,Zp,Zr,Zt,Zw,Z1,ZS,ZT,Yr,YR,Xp,XI,Wc,Wd,W9,WI,WM,WN,WP,WQ,Vs,V6,V7,V9,VA,VB,VC,VD,VG,VH,VI,VJ,VL,VU,VW,VZ,Ub,Ud,Ui,Uk,Ux,Uy,U1,U2,U3,UC,UD,Tn,Tp,Tq,Tu,T1,T2,Sg,h,btw.eq_1]; all_goals tactic => exact rfl))
  · (sym => (simp [Za,Zb,Zf,Zh,Zl,Zm,Zo,Zp,Zr,Zt,Zw,Z1,ZS,ZT,Yr,YR,Xp,XI,Wc,Wd,W9,WI,WM,WN,WP,WQ,Vs,V6,V7,V9,VA,VB,VC,VD,VG,VH,VI,VJ,VL,VU,VW,VZ,Ub,Ud,Ui,Uk,Ux,Uy,U1,U2,U3,UC,UD,Tn,Tp,Tq,Tu,T1,T2,Sg,h,btw.eq_1]; all_goals tactic => exact rfl))
def inS (lo hi a b : Int) : Bool := decide (a ≤ lo) && (decide (lo ≤ hi) && decide (hi ≤ b))
theorem w59 (lo hi a b : Int) : runW progX 59 [.agg [I lo,I hi],I a,I b] [] = some (.bool (inS lo hi a b),[]) := by
  rw [r59 (by simp)]; unfold x59; dsimp only
  rcases ptf (a ≤ lo) with h | h
  · rcases ptf (lo ≤ hi) with h2 | h2
    · (sym => (simp [Za,Zb,Zf,Zh,Zl,Zm,Zn,Zo,Zp,Zr,Zt,Zw,Zx,Z1,Z5,ZD,ZS,ZT,ZX,Yr,YR,Xe,Xf,Xp,XI,Wc,Wd,We,Wo,Wz,W0,W3,W9,WA,WI,WM,WO,WP,WQ,Vs,V6,V7,V9,VA,VB,VC,VD,VG,VH,VI,VJ,VL,VU,VW,VY,VZ,Ub,Ud,Ui,Uj,Uk,Ul,Ux,Uy,U2,U3,U6,U7,UC,UD,UK,UL,UY,UZ,Td,Ti,Tn,Tp,Tq,Tu,T1,T2,Sg,h,h2,inS.eq_1]; all_goals tactic => exact rfl))
    · (sym => (simp [Za,Zb,Zf,Zh,Zl,Zm,Zn,Zo,Zp,Zr,Zt,Zw,Zx,Z1,Z5,ZD,ZS,ZT,ZX,Yr,YR,Xe,Xf,Xp,XI,Wc,Wd,We,Wo,Wz,W0,W3,W9,WA,WI,WM,WO,WP,WQ,Vs,V6,V7,V9,VA,VB,VC,VD,VG,VH,VI,VJ,VL,VU,VW,VY,VZ,Ub,Ud,Ui,Uj,Uk,Ul,Ux,Uy,U2,U3,U6,U7,UC,UD,UK,UL,UY,UZ,Td,Ti,Tn,Tp,Tq,Tu,T1,T2,Sg,h,h2,inS.eq_1]; all_goals tactic => exact rfl))
  · (sym => (simp [Za,Zb,Zf,Zh,Zl,Zm,Zn,Zo,Zp,Zr,Zt,Zw,Zx,Z1,Z5,ZD,ZS,ZT,ZX,Yr,YR,Xe,Xf,Xp,XI,Wc,Wd,We,Wo,Wz,W0,W3,W9,WA,WI,WM,WO,WP,WQ,Vs,V6,V7,V9,VA,VB,VC,VD,VG,VH,VI,VJ,VL,VU,VW,VY,VZ,Ub,Ud,Ui,Uj,Uk,Ul,Ux,Uy,U2,U3,U6,U7,UC,UD,UK,UL,UY,UZ,Td,Ti,Tn,Tp,Tq,Tu,T1,T2,Sg,h,inS.eq_1]; all_goals tactic => exact rfl))
structure St where
  a : Int
  s : Int
abbrev St.row (x : St) : List AV := [I x.a,I x.s]
abbrev rS (k : List St) : AV := .fs (k.map St.row)
def firstN (f : Nat → Int) : Nat → Int
  | 0 => 0
  | n + 1 => if firstN f n = 0 then f n else firstN f n
theorem firstN_ix (f : Nat → Int) : ∀ n,∃ m,m ≤ n ∧ (∀ i,i < m → f i = 0) ∧ ((m = n ∧ firstN f n = 0) ∨ (m < n ∧ f m ≠ 0 ∧ firstN f n = f m))
  | 0 => ⟨0,Nat.le_refl _,fun i hi => by omega,.inl ⟨rfl,rfl⟩⟩
  | n + 1 => by
    obtain ⟨m,h1,h2,h3⟩ := firstN_ix f n
    rcases h3 with ⟨rfl,h4⟩ | ⟨h4,h5,h6⟩
    · by_cases hf : f m = 0
      · refine ⟨m + 1,Nat.le_refl _,fun i hi => ?_,.inl ⟨rfl,by rw [firstN,if_pos h4,hf]⟩⟩
        by_cases hi2 : i = m
        · rw [hi2]; exact hf
        · exact h2 i (by omega)
      · exact ⟨m,by omega,h2,.inr ⟨by omega,hf,by rw [firstN,if_pos h4]⟩⟩
    · exact ⟨m,by omega,h2,.inr ⟨by omega,h5,by rw [firstN,if_neg (by rw [h6]; exact h5),h6]⟩⟩
theorem firstN_0 {f : Nat → Int} : ∀ {n},firstN f n = 0 → ∀ i,i < n → f i = 0
  | 0,_,i,hi => by omega
  | n + 1,h,i,hi => by
    rw [firstN] at h
    by_cases h0 : firstN f n = 0
    · rw [if_pos h0] at h
      by_cases hin : i = n
      · rw [hin]; exact h
      · exact firstN_0 h0 i (by omega)
    · rw [if_neg h0] at h
      exact absurd h h0

def prA (k : List St) : Nat → Int
  | 0 => -1
  | i + 1 => (k.getD i ⟨0,0⟩).a
def prS (k : List St) : Nat → Int
  | 0 => 0
  | i + 1 => (k.getD i ⟨0,0⟩).s
def kErr (k : List St) (i : Nat) : Int := if btw 0 (k.getD i ⟨0,0⟩).a 100000 && btw 1 (k.getD i ⟨0,0⟩).s 1000000 then (if (k.getD i ⟨0,0⟩).a ≤ prA k i ∨ (k.getD i ⟨0,0⟩).s ≤ prS k i then 7 else 0) else 2
theorem btwF {a b c : Int} : btw a b c = true ↔ a ≤ b ∧ b ≤ c := by simp [btw]
theorem kErr_of {k : List St} {i : Nat} {x : St} (hx : k[i]? = some x) : (btw 0 x.a 100000 = true ∧ btw 1 x.s 1000000 = true ∧ (x.a ≤ prA k i) = False ∧ (x.s ≤ prS k i) = False ∧ kErr k i = 0) ∨
    (btw 0 x.a 100000 = true ∧ btw 1 x.s 1000000 = true ∧ (x.a ≤ prA k i) = False ∧ (x.s ≤ prS k i) = True ∧ kErr k i = 7) ∨ (btw 0 x.a 100000 = true ∧ btw 1 x.s 1000000 = true ∧ (x.a ≤ prA k i) = True ∧ kErr k i = 7) ∨
    (btw 0 x.a 100000 = true ∧ btw 1 x.s 1000000 = false ∧ kErr k i = 2) ∨ (btw 0 x.a 100000 = false ∧ kErr k i = 2) := by
  have e : k.getD i ⟨0,0⟩ = x := by rw [List.getD_eq_getElem?_getD,hx]; rfl
  unfold kErr
  rw [e]
  cases btw 0 x.a 100000
  · simp
  cases btw 1 x.s 1000000
  · simp
  by_cases h3 : x.a ≤ prA k i
  · simp [h3]
  by_cases h4 : x.s ≤ prS k i
  · simp [h3,h4]
  simp [h3,h4]
theorem pr_up {k : List St} {i : Nat} {x : St} (hx : k[i]? = some x) : prA k (i + 1) = x.a ∧ prS k (i + 1) = x.s := by
  have e : k.getD i ⟨0,0⟩ = x := by rw [List.getD_eq_getElem?_getD,hx]; rfl
  exact ⟨congrArg St.a e,congrArg St.s e⟩
def chkD (k : List St) : Int := if 8 < k.length then 1 else firstN (kErr k) k.length
theorem w57 (k : List St) : runW progX 57 [rS k] [] = some (I (chkD k),[]) := by
  rw [r57 (by simp)]; unfold x57; dsimp only
  unfold chkD
  by_cases h8 : 8 < k.length
  · rw [if_pos h8]
    have h8 : ((8 : Int) < (k.length : Int)) = True := eq_true (by omega)
    (sym => (simp [Za,Zb,Zc,Zd,Ze,Zf,Zg,Zh,Zj,Zl,Zm,Zo,Zq,Zs,Zt,Zu,Zw,Zy,Z1,Z2,Z5,Z7,ZB,ZD,ZH,ZI,ZL,ZM,ZQ,ZR,ZS,ZT,ZU,ZX,ZZ,Ye,Yf,Yh,Yq,Yr,Ys,Yu,Yv,Y3,YO,YQ,YV,YY,Xe,Xo,Xp,Xs,Xu,X0,Wc,Wg,Wn,Wo,Wz,W0,W3,W4,W5,W6,W7,W8,W9,WA,WB,WF,WG,WI,WJ,WK,WL,WM,WN,WO,WP,WQ,WR,WS,WT,WW,WX,Vc,Vf,Vg,Vh,Vs,Vu,Vv,Vx,Vy,V0,V6,V7,V9,VA,VB,VC,VD,VG,VH,VI,VJ,VL,VM,VN,VO,VP,VQ,VR,VS,VT,VU,VV,VW,VX,VY,VZ,Ub,Uc,Ud,Ue,Uf,Ug,Uj,Um,Un,Us,Uw,Ux,Uy,U1,U2,U3,U4,U5,U6,U7,UC,UD,UE,UF,UG,UH,UX,UY,UZ,Ta,Tb,Tc,Td,Te,Tf,Tn,Tp,Tq,Tr,Ts,Tt,Tu,Tv,Tw,Tx,Ty,Tz,T0,T1,T2,T6,Sg,Sy,Sz,S6,h8]; all_goals tactic => exact rfl))
  · rw [if_neg h8]
    have g8 : ((8 : Int) < (k.length : Int)) = False := eq_false (by omega)
    have z := UX (n := (k.length : Int))
    obtain ⟨m,m1,m2,m3⟩ := firstN_ix (kErr k) k.length
    have p0 : prA k 0 = -1 := rfl
    have q0 : prS k 0 = 0 := rfl
    sym =>
      simp [Za,Zb,Zc,Zd,Ze,Zf,Zg,Zh,Zj,Zl,Zm,Zo,Zq,Zs,Zt,Zu,Zw,Zy,Z1,Z2,Z5,Z7,ZB,ZD,ZH,ZI,ZL,ZM,ZQ,ZR,ZS,ZT,ZU,ZX,ZZ,Ye,Yf,Yh,Yq,Yr,Ys,Yu,Yv,Y3,YO,YQ,YV,YY,Xe,Xo,Xp,Xs,Xu,X0,Wc,Wg,Wn,Wo,Wz,W0,W3,W4,W5,W6,W7,W8,W9,WA,WB,WF,WG,WI,WJ,WK,WL,WM,WN,WO,WP,WQ,WR,WS,WT,WW,WX,Vc,Vf,Vg,Vh,Vs,Vu,Vv,Vx,Vy,V0,V6,V7,V9,VA,VB,VC,VD,VG,VH,VI,VJ,VL,VM,VN,VO,VP,VQ,VR,VS,VT,VU,VV,VW,VX,VY,VZ,Ub,Uc,Ud,Ue,Uf,Ug,Uj,Um,Un,Us,Uw,Ux,Uy,U1,U2,U3,U4,U5,U6,U7,UC,UD,UE,UF,UG,UH,UX,UY,UZ,Ta,Tb,Tc,Td,Te,Tf,Tn,Tp,Tq,Tr,Ts,Tt,Tu,Tv,Tw,Tx,Ty,Tz,T0,T1,T2,T6,Sg,Sy,Sz,S6,g8]
      tactic =>
        unfold x57l0
        rw [loop_rule m (fun i => [.pt 0 0,rS k,I k.length,I (i : Nat)]) (fun i => [some (.blk true (.cells true [I (prA k i),I (prS k i)]))])]
        · rcases m3 with ⟨rfl,e⟩ | ⟨m3,m4,e⟩
          · rw [e]; (sym => (simp [Za,Zb,Zc,Zd,Ze,Zf,Zg,Zh,Zj,Zl,Zm,Zo,Zq,Zs,Zt,Zu,Zw,Zy,Z1,Z2,Z5,Z7,ZB,ZD,ZH,ZI,ZL,ZM,ZQ,ZR,ZS,ZT,ZU,ZX,ZZ,Ye,Yf,Yh,Yq,Yr,Ys,Yu,Yv,Y3,YO,YQ,YV,YY,Xe,Xo,Xp,Xs,Xu,X0,Wc,Wg,Wn,Wo,Wz,W0,W3,W4,W5,W6,W7,W8,W9,WA,WB,WF,WG,WI,WJ,WK,WL,WM,WN,WO,WP,WQ,WR,WS,WT,WW,WX,Vc,Vf,Vg,Vh,Vs,Vu,Vv,Vx,Vy,V0,V6,V7,V9,VA,VB,VC,VD,VG,VH,VI,VJ,VL,VM,VN,VO,VP,VQ,VR,VS,VT,VU,VV,VW,VX,VY,VZ,Ub,Uc,Ud,Ue,Uf,Ug,Uj,Um,Un,Us,Uw,Ux,Uy,U1,U2,U3,U4,U5,U6,U7,UC,UD,UE,UF,UG,UH,UX,UY,UZ,Ta,Tb,Tc,Td,Te,Tf,Tn,Tp,Tq,Tr,Ts,Tt,Tu,Tv,Tw,Tx,Ty,Tz,T0,T1,T2,T6,Sg,Sy,Sz,S6,z]; all_goals tactic => exact rfl))
          · rw [e]
            obtain ⟨x,hx⟩ := at_ix m3
            have a1 := lt_ix m3
            rcases kErr_of hx with ⟨_,_,_,_,h5⟩ | ⟨h1,h2,h3,h4,h5⟩ | ⟨h1,h2,h3,h5⟩ | ⟨h1,h2,h5⟩ | ⟨h1,h5⟩
            · exact absurd h5 m4
            all_goals rw [h5]
            · (sym => (simp [Za,Zb,Zc,Zd,Ze,Zf,Zg,Zh,Zj,Zl,Zm,Zo,Zq,Zs,Zt,Zu,Zw,Zy,Z1,Z2,Z5,Z7,ZB,ZD,ZH,ZI,ZL,ZM,ZQ,ZR,ZS,ZT,ZU,ZX,ZZ,Ye,Yf,Yh,Yq,Yr,Ys,Yu,Yv,Y3,YO,YQ,YV,YY,Xe,Xo,Xp,Xs,Xu,X0,Wc,Wg,Wn,Wo,Wz,W0,W3,W4,W5,W6,W7,W8,W9,WA,WB,WF,WG,WI,WJ,WK,WL,WM,WN,WO,WP,WQ,WR,WS,WT,WW,WX,Vc,Vf,Vg,Vh,Vs,Vu,Vv,Vx,Vy,V0,V6,V7,V9,VA,VB,VC,VD,VG,VH,VI,VJ,VL,VM,VN,VO,VP,VQ,VR,VS,VT,VU,VV,VW,VX,VY,VZ,Ub,Uc,Ud,Ue,Uf,Ug,Uj,Um,Un,Us,Uw,Ux,Uy,U1,U2,U3,U4,U5,U6,U7,UC,UD,UE,UF,UG,UH,UX,UY,UZ,Ta,Tb,Tc,Td,Te,Tf,Tn,Tp,Tq,Tr,Ts,Tt,Tu,Tv,Tw,Tx,Ty,Tz,T0,T1,T2,T6,Sg,Sy,Sz,S6,a1,hx,w58,h1,h2,h3,h4]; all_goals tactic => exact rfl))
            · (sym => (simp [Za,Zb,Zc,Zd,Ze,Zf,Zg,Zh,Zj,Zl,Zm,Zo,Zq,Zs,Zt,Zu,Zw,Zy,Z1,Z2,Z5,Z7,ZB,ZD,ZH,ZI,ZL,ZM,ZQ,ZR,ZS,ZT,ZU,ZX,ZZ,Ye,Yf,Yh,Yq,Yr,Ys,Yu,Yv,Y3,YO,YQ,YV,YY,Xe,Xo,Xp,Xs,Xu,X0,Wc,Wg,Wn,Wo,Wz,W0,W3,W4,W5,W6,W7,W8,W9,WA,WB,WF,WG,WI,WJ,WK,WL,WM,WN,WO,WP,WQ,WR,WS,WT,WW,WX,Vc,Vf,Vg,Vh,Vs,Vu,Vv,Vx,Vy,V0,V6,V7,V9,VA,VB,VC,VD,VG,VH,VI,VJ,VL,VM,VN,VO,VP,VQ,VR,VS,VT,VU,VV,VW,VX,VY,VZ,Ub,Uc,Ud,Ue,Uf,Ug,Uj,Um,Un,Us,Uw,Ux,Uy,U1,U2,U3,U4,U5,U6,U7,UC,UD,UE,UF,UG,UH,UX,UY,UZ,Ta,Tb,Tc,Td,Te,Tf,Tn,Tp,Tq,Tr,Ts,Tt,Tu,Tv,Tw,Tx,Ty,Tz,T0,T1,T2,T6,Sg,Sy,Sz,S6,a1,hx,w58,h1,h2,h3]; all_goals tactic => exact rfl))
            · (sym => (simp [Za,Zb,Zc,Zd,Ze,Zf,Zg,Zh,Zj,Zl,Zm,Zo,Zq,Zs,Zt,Zu,Zw,Zy,Z1,Z2,Z5,Z7,ZB,ZD,ZH,ZI,ZL,ZM,ZQ,ZR,ZS,ZT,ZU,ZX,ZZ,Ye,Yf,Yh,Yq,Yr,Ys,Yu,Yv,Y3,YO,YQ,YV,YY,Xe,Xo,Xp,Xs,Xu,X0,Wc,Wg,Wn,Wo,Wz,W0,W3,W4,W5,W6,W7,W8,W9,WA,WB,WF,WG,WI,WJ,WK,WL,WM,WN,WO,WP,WQ,WR,WS,WT,WW,WX,Vc,Vf,Vg,Vh,Vs,Vu,Vv,Vx,Vy,V0,V6,V7,V9,VA,VB,VC,VD,VG,VH,VI,VJ,VL,VM,VN,VO,VP,VQ,VR,VS,VT,VU,VV,VW,VX,VY,VZ,Ub,Uc,Ud,Ue,Uf,Ug,Uj,Um,Un,Us,Uw,Ux,Uy,U1,U2,U3,U4,U5,U6,U7,UC,UD,UE,UF,UG,UH,UX,UY,UZ,Ta,Tb,Tc,Td,Te,Tf,Tn,Tp,Tq,Tr,Ts,Tt,Tu,Tv,Tw,Tx,Ty,Tz,T0,T1,T2,T6,Sg,Sy,Sz,S6,a1,hx,w58,h1,h2]; all_goals tactic => exact rfl))
            · (sym => (simp [Za,Zb,Zc,Zd,Ze,Zf,Zg,Zh,Zj,Zl,Zm,Zo,Zq,Zs,Zt,Zu,Zw,Zy,Z1,Z2,Z5,Z7,ZB,ZD,ZH,ZI,ZL,ZM,ZQ,ZR,ZS,ZT,ZU,ZX,ZZ,Ye,Yf,Yh,Yq,Yr,Ys,Yu,Yv,Y3,YO,YQ,YV,YY,Xe,Xo,Xp,Xs,Xu,X0,Wc,Wg,Wn,Wo,Wz,W0,W3,W4,W5,W6,W7,W8,W9,WA,WB,WF,WG,WI,WJ,WK,WL,WM,WN,WO,WP,WQ,WR,WS,WT,WW,WX,Vc,Vf,Vg,Vh,Vs,Vu,Vv,Vx,Vy,V0,V6,V7,V9,VA,VB,VC,VD,VG,VH,VI,VJ,VL,VM,VN,VO,VP,VQ,VR,VS,VT,VU,VV,VW,VX,VY,VZ,Ub,Uc,Ud,Ue,Uf,Ug,Uj,Um,Un,Us,Uw,Ux,Uy,U1,U2,U3,U4,U5,U6,U7,UC,UD,UE,UF,UG,UH,UX,UY,UZ,Ta,Tb,Tc,Td,Te,Tf,Tn,Tp,Tq,Tr,Ts,Tt,Tu,Tv,Tw,Tx,Ty,Tz,T0,T1,T2,T6,Sg,Sy,Sz,S6,a1,hx,w58,h1]; all_goals tactic => exact rfl))
        · (sym => (simp [Za,Zb,Zc,Zd,Ze,Zf,Zg,Zh,Zj,Zl,Zm,Zo,Zq,Zs,Zt,Zu,Zw,Zy,Z1,Z2,Z5,Z7,ZB,ZD,ZH,ZI,ZL,ZM,ZQ,ZR,ZS,ZT,ZU,ZX,ZZ,Ye,Yf,Yh,Yq,Yr,Ys,Yu,Yv,Y3,YO,YQ,YV,YY,Xe,Xo,Xp,Xs,Xu,X0,Wc,Wg,Wn,Wo,Wz,W0,W3,W4,W5,W6,W7,W8,W9,WA,WB,WF,WG,WI,WJ,WK,WL,WM,WN,WO,WP,WQ,WR,WS,WT,WW,WX,Vc,Vf,Vg,Vh,Vs,Vu,Vv,Vx,Vy,V0,V6,V7,V9,VA,VB,VC,VD,VG,VH,VI,VJ,VL,VM,VN,VO,VP,VQ,VR,VS,VT,VU,VV,VW,VX,VY,VZ,Ub,Uc,Ud,Ue,Uf,Ug,Uj,Um,Un,Us,Uw,Ux,Uy,U1,U2,U3,U4,U5,U6,U7,UC,UD,UE,UF,UG,UH,UX,UY,UZ,Ta,Tb,Tc,Td,Te,Tf,Tn,Tp,Tq,Tr,Ts,Tt,Tu,Tv,Tw,Tx,Ty,Tz,T0,T1,T2,T6,Sg,Sy,Sz,S6,p0,q0]; all_goals tactic => exact rfl))
        · intro i hi
          have hi2 : i < k.length := by omega
          obtain ⟨x,hx⟩ := at_ix hi2
          have a1 := lt_ix hi2
          have a2 := up_ix hi2 (by omega)
          obtain ⟨u1,u2⟩ := pr_up hx
          rcases kErr_of hx with ⟨h1,h2,h3,h4,h5⟩ | ⟨h1,h2,h3,h4,h5⟩ | ⟨h1,h2,h3,h5⟩ | ⟨h1,h2,h5⟩ | ⟨h1,h5⟩
          · (sym => (simp [Za,Zb,Zc,Zd,Ze,Zf,Zg,Zh,Zj,Zl,Zm,Zo,Zq,Zs,Zt,Zu,Zw,Zy,Z1,Z2,Z5,Z7,ZB,ZD,ZH,ZI,ZL,ZM,ZQ,ZR,ZS,ZT,ZU,ZX,ZZ,Ye,Yf,Yh,Yq,Yr,Ys,Yu,Yv,Y3,YO,YQ,YV,YY,Xe,Xo,Xp,Xs,Xu,X0,Wc,Wg,Wn,Wo,Wz,W0,W3,W4,W5,W6,W7,W8,W9,WA,WB,WF,WG,WI,WJ,WK,WL,WM,WN,WO,WP,WQ,WR,WS,WT,WW,WX,Vc,Vf,Vg,Vh,Vs,Vu,Vv,Vx,Vy,V0,V6,V7,V9,VA,VB,VC,VD,VG,VH,VI,VJ,VL,VM,VN,VO,VP,VQ,VR,VS,VT,VU,VV,VW,VX,VY,VZ,Ub,Uc,Ud,Ue,Uf,Ug,Uj,Um,Un,Us,Uw,Ux,Uy,U1,U2,U3,U4,U5,U6,U7,UC,UD,UE,UF,UG,UH,UX,UY,UZ,Ta,Tb,Tc,Td,Te,Tf,Tn,Tp,Tq,Tr,Ts,Tt,Tu,Tv,Tw,Tx,Ty,Tz,T0,T1,T2,T6,Sg,Sy,Sz,S6,a1,a2,hx,w58,h1,h2,h3,h4,u1,u2]; all_goals tactic => exact rfl))
          all_goals (rw [m2 i hi] at h5; simp at h5)
        · rcases m3 with ⟨rfl,e⟩ | ⟨m3,m4,e⟩
          · (sym => (simp [Za,Zb,Zc,Zd,Ze,Zf,Zg,Zh,Zj,Zl,Zm,Zo,Zq,Zs,Zt,Zu,Zw,Zy,Z1,Z2,Z5,Z7,ZB,ZD,ZH,ZI,ZL,ZM,ZQ,ZR,ZS,ZT,ZU,ZX,ZZ,Ye,Yf,Yh,Yq,Yr,Ys,Yu,Yv,Y3,YO,YQ,YV,YY,Xe,Xo,Xp,Xs,Xu,X0,Wc,Wg,Wn,Wo,Wz,W0,W3,W4,W5,W6,W7,W8,W9,WA,WB,WF,WG,WI,WJ,WK,WL,WM,WN,WO,WP,WQ,WR,WS,WT,WW,WX,Vc,Vf,Vg,Vh,Vs,Vu,Vv,Vx,Vy,V0,V6,V7,V9,VA,VB,VC,VD,VG,VH,VI,VJ,VL,VM,VN,VO,VP,VQ,VR,VS,VT,VU,VV,VW,VX,VY,VZ,Ub,Uc,Ud,Ue,Uf,Ug,Uj,Um,Un,Us,Uw,Ux,Uy,U1,U2,U3,U4,U5,U6,U7,UC,UD,UE,UF,UG,UH,UX,UY,UZ,Ta,Tb,Tc,Td,Te,Tf,Tn,Tp,Tq,Tr,Ts,Tt,Tu,Tv,Tw,Tx,Ty,Tz,T0,T1,T2,T6,Sg,Sy,Sz,S6,z]; all_goals tactic => exact rfl))
          · obtain ⟨x,hx⟩ := at_ix m3
            have a1 := lt_ix m3
            rcases kErr_of hx with ⟨_,_,_,_,h5⟩ | ⟨h1,h2,h3,h4,h5⟩ | ⟨h1,h2,h3,h5⟩ | ⟨h1,h2,h5⟩ | ⟨h1,h5⟩
            · exact absurd h5 m4
            · (sym => (simp [Za,Zb,Zc,Zd,Ze,Zf,Zg,Zh,Zj,Zl,Zm,Zo,Zq,Zs,Zt,Zu,Zw,Zy,Z1,Z2,Z5,Z7,ZB,ZD,ZH,ZI,ZL,ZM,ZQ,ZR,ZS,ZT,ZU,ZX,ZZ,Ye,Yf,Yh,Yq,Yr,Ys,Yu,Yv,Y3,YO,YQ,YV,YY,Xe,Xo,Xp,Xs,Xu,X0,Wc,Wg,Wn,Wo,Wz,W0,W3,W4,W5,W6,W7,W8,W9,WA,WB,WF,WG,WI,WJ,WK,WL,WM,WN,WO,WP,WQ,WR,WS,WT,WW,WX,Vc,Vf,Vg,Vh,Vs,Vu,Vv,Vx,Vy,V0,V6,V7,V9,VA,VB,VC,VD,VG,VH,VI,VJ,VL,VM,VN,VO,VP,VQ,VR,VS,VT,VU,VV,VW,VX,VY,VZ,Ub,Uc,Ud,Ue,Uf,Ug,Uj,Um,Un,Us,Uw,Ux,Uy,U1,U2,U3,U4,U5,U6,U7,UC,UD,UE,UF,UG,UH,UX,UY,UZ,Ta,Tb,Tc,Td,Te,Tf,Tn,Tp,Tq,Tr,Ts,Tt,Tu,Tv,Tw,Tx,Ty,Tz,T0,T1,T2,T6,Sg,Sy,Sz,S6,a1,hx,w58,h1,h2,h3,h4]; all_goals tactic => exact rfl))
            · (sym => (simp [Za,Zb,Zc,Zd,Ze,Zf,Zg,Zh,Zj,Zl,Zm,Zo,Zq,Zs,Zt,Zu,Zw,Zy,Z1,Z2,Z5,Z7,ZB,ZD,ZH,ZI,ZL,ZM,ZQ,ZR,ZS,ZT,ZU,ZX,ZZ,Ye,Yf,Yh,Yq,Yr,Ys,Yu,Yv,Y3,YO,YQ,YV,YY,Xe,Xo,Xp,Xs,Xu,X0,Wc,Wg,Wn,Wo,Wz,W0,W3,W4,W5,W6,W7,W8,W9,WA,WB,WF,WG,WI,WJ,WK,WL,WM,WN,WO,WP,WQ,WR,WS,WT,WW,WX,Vc,Vf,Vg,Vh,Vs,Vu,Vv,Vx,Vy,V0,V6,V7,V9,VA,VB,VC,VD,VG,VH,VI,VJ,VL,VM,VN,VO,VP,VQ,VR,VS,VT,VU,VV,VW,VX,VY,VZ,Ub,Uc,Ud,Ue,Uf,Ug,Uj,Um,Un,Us,Uw,Ux,Uy,U1,U2,U3,U4,U5,U6,U7,UC,UD,UE,UF,UG,UH,UX,UY,UZ,Ta,Tb,Tc,Td,Te,Tf,Tn,Tp,Tq,Tr,Ts,Tt,Tu,Tv,Tw,Tx,Ty,Tz,T0,T1,T2,T6,Sg,Sy,Sz,S6,a1,hx,w58,h1,h2,h3]; all_goals tactic => exact rfl))
            · (sym => (simp [Za,Zb,Zc,Zd,Ze,Zf,Zg,Zh,Zj,Zl,Zm,Zo,Zq,Zs,Zt,Zu,Zw,Zy,Z1,Z2,Z5,Z7,ZB,ZD,ZH,ZI,ZL,ZM,ZQ,ZR,ZS,ZT,ZU,ZX,ZZ,Ye,Yf,Yh,Yq,Yr,Ys,Yu,Yv,Y3,YO,YQ,YV,YY,Xe,Xo,Xp,Xs,Xu,X0,Wc,Wg,Wn,Wo,Wz,W0,W3,W4,W5,W6,W7,W8,W9,WA,WB,WF,WG,WI,WJ,WK,WL,WM,WN,WO,WP,WQ,WR,WS,WT,WW,WX,Vc,Vf,Vg,Vh,Vs,Vu,Vv,Vx,Vy,V0,V6,V7,V9,VA,VB,VC,VD,VG,VH,VI,VJ,VL,VM,VN,VO,VP,VQ,VR,VS,VT,VU,VV,VW,VX,VY,VZ,Ub,Uc,Ud,Ue,Uf,Ug,Uj,Um,Un,Us,Uw,Ux,Uy,U1,U2,U3,U4,U5,U6,U7,UC,UD,UE,UF,UG,UH,UX,UY,UZ,Ta,Tb,Tc,Td,Te,Tf,Tn,Tp,Tq,Tr,Ts,Tt,Tu,Tv,Tw,Tx,Ty,Tz,T0,T1,T2,T6,Sg,Sy,Sz,S6,a1,hx,w58,h1,h2]; all_goals tactic => exact rfl))
            · (sym => (simp [Za,Zb,Zc,Zd,Ze,Zf,Zg,Zh,Zj,Zl,Zm,Zo,Zq,Zs,Zt,Zu,Zw,Zy,Z1,Z2,Z5,Z7,ZB,ZD,ZH,ZI,ZL,ZM,ZQ,ZR,ZS,ZT,ZU,ZX,ZZ,Ye,Yf,Yh,Yq,Yr,Ys,Yu,Yv,Y3,YO,YQ,YV,YY,Xe,Xo,Xp,Xs,Xu,X0,Wc,Wg,Wn,Wo,Wz,W0,W3,W4,W5,W6,W7,W8,W9,WA,WB,WF,WG,WI,WJ,WK,WL,WM,WN,WO,WP,WQ,WR,WS,WT,WW,WX,Vc,Vf,Vg,Vh,Vs,Vu,Vv,Vx,Vy,V0,V6,V7,V9,VA,VB,VC,VD,VG,VH,VI,VJ,VL,VM,VN,VO,VP,VQ,VR,VS,VT,VU,VV,VW,VX,VY,VZ,Ub,Uc,Ud,Ue,Uf,Ug,Uj,Um,Un,Us,Uw,Ux,Uy,U1,U2,U3,U4,U5,U6,U7,UC,UD,UE,UF,UG,UH,UX,UY,UZ,Ta,Tb,Tc,Td,Te,Tf,Tn,Tp,Tq,Tr,Ts,Tt,Tu,Tv,Tw,Tx,Ty,Tz,T0,T1,T2,T6,Sg,Sy,Sz,S6,a1,hx,w58,h1]; all_goals tactic => exact rfl))
abbrev kR (l : List (List St)) : AV := .fs (l.map fun k => [rS k])
def kindsE (l : List (List St)) : Int := if 6 < l.length then 1 else firstN (fun t => chkD (l.getD t [])) l.length
theorem ret_of {res : List (Nat × Option (Bool × Nat))} {own : Bool} {k : Nat} {r : Option (DX × Env × XH)} {v : AV × XH} (h1 : leaves r = true) (h2 : retX res own k r = some v) : ∃ e h,r = some (.ret,e,h) ∧ retX res own k (some (.ret,e,h)) = some v := by
  match r with
  | none => simp [leaves] at h1
  | some (.normal,e,h) => simp [leaves] at h1
  | some (.exit _,e,h) => simp [retX] at h2
  | some (.ret,e,h) => exact ⟨e,h,rfl,h2⟩
end Go.Proofs.YtpbeclkpohehgaaDoor
namespace Go.Proofs.YtpbeclkpohehgaaDoor
open Go Go.DL
set_option maxRecDepth 100000
set_option maxHeartbeats 1000000

def big (k : IntKind) : Prop := k = .u64 ∨ k = .i64
theorem big_u : big .u64 := .inl rfl
theorem big_bits {k : IntKind} (h : big k) : k.bits = 64 := by rcases h with rfl | rfl <;> rfl
theorem big_wrap {k : IntKind} (h : big k) {a : Nat} (ha : a < 2 ^ 63) : k.wrap (a : Int) = (a : Int) := by
  rcases h with rfl | rfl
  · simp [IntKind.wrap,IntKind.bits,IntKind.signed]; omega
  · simp [IntKind.wrap,IntKind.bits,IntKind.signed]; omega
theorem ofInt_nat {w : Nat} (a : Nat) : BitVec.ofInt w (a : Int) = BitVec.ofNat w a := by
  apply BitVec.eq_of_toNat_eq
  simp
theorem bits_and {k : IntKind} (h : big k) {a b : Nat} (ha : a < 2 ^ 63) (hb : b < 2 ^ 63) : bitsA .and k (a : Int) (b : Int) = ((a &&& b : Nat) : Int) := by
  unfold bitsA
  dsimp only
  rw [ofInt_nat,ofInt_nat,big_bits h,BitVec.toNat_and,BitVec.toNat_ofNat,BitVec.toNat_ofNat,Nat.mod_eq_of_lt (by omega),Nat.mod_eq_of_lt (by omega)]
  exact big_wrap h (Nat.lt_of_le_of_lt Nat.and_le_left ha)
theorem bits_or {k : IntKind} (h : big k) {a b : Nat} (ha : a < 2 ^ 63) (hb : b < 2 ^ 63) : bitsA .or k (a : Int) (b : Int) = ((a ||| b : Nat) : Int) := by
  unfold bitsA
  dsimp only
  rw [ofInt_nat,ofInt_nat,big_bits h,BitVec.toNat_or,BitVec.toNat_ofNat,BitVec.toNat_ofNat,Nat.mod_eq_of_lt (by omega),Nat.mod_eq_of_lt (by omega)]
  exact big_wrap h (Nat.or_lt_two_pow ha hb)
def dif (a b : Nat) : Nat := a &&& (2 ^ 64 - (b + 1))
theorem dif_le (a b : Nat) : dif a b ≤ a := Nat.and_le_left
theorem bits_dif {k : IntKind} (h : big k) {a b : Nat} (ha : a < 2 ^ 63) (hb : b < 2 ^ 63) : bitsA .andNot k (a : Int) (b : Int) = ((dif a b : Nat) : Int) := by
  unfold bitsA
  dsimp only
  rw [ofInt_nat,ofInt_nat,big_bits h,BitVec.toNat_and,BitVec.toNat_not,BitVec.toNat_ofNat,BitVec.toNat_ofNat,Nat.mod_eq_of_lt (by omega),Nat.mod_eq_of_lt (by omega),show 2 ^ 64 - 1 - b = 2 ^ 64 - (b + 1) by omega]
  exact big_wrap h (Nat.lt_of_le_of_lt (dif_le a b) ha)
theorem dif_bit {a b : Nat} (hb : b < 2 ^ 64) {i : Nat} : (dif a b).testBit i = (a.testBit i && (decide (i < 64) && !b.testBit i)) := by
  unfold dif
  rw [Nat.testBit_and,Nat.testBit_two_pow_sub_succ hb]
theorem bit_lt {a n : Nat} (h : a < 2 ^ n) {i : Nat} (hi : n ≤ i) : a.testBit i = false := Nat.testBit_lt_two_pow (Nat.lt_of_lt_of_le h (Nat.pow_le_pow_right (by omega) hi))
theorem dif_zero {a b : Nat} (ha : a < 2 ^ 63) (hb : b < 2 ^ 63) : dif a b = 0 ↔ ∀ i,a.testBit i = true → b.testBit i = true := by
  constructor
  · intro h i hi
    have hlt : i < 64 := by
      by_cases hc : i < 64
      · exact hc
      · rw [bit_lt ha (by omega)] at hi; simp at hi
    have := dif_bit (a := a) (b := b) (by omega) (i := i)
    rw [h,hi,Nat.zero_testBit,decide_eq_true hlt] at this
    simpa using this.symm
  · intro h
    apply Nat.eq_of_testBit_eq
    intro i
    rw [dif_bit (by omega),Nat.zero_testBit]
    cases hi : a.testBit i with
    | false => rfl
    | true => rw [h i hi]; simp
theorem shl_one {k : IntKind} (h : big k) {i : Nat} (hi : i < 63) : k.wrap (1 * 2 ^ min i k.bits) = ((2 ^ i : Nat) : Int) := by
  rw [big_bits h,Nat.min_eq_left (by omega),Int.one_mul,show (2 : Int) ^ i = ((2 ^ i : Nat) : Int) by norm_cast]
  exact big_wrap h (Nat.pow_lt_pow_right (by omega) hi)
theorem shl_1 {k : IntKind} (h : big k) {i : Nat} (hi : i < 63) : k.wrap (2 ^ min i k.bits) = ((2 ^ i : Nat) : Int) := by
  rw [← shl_one h hi,Int.one_mul]
theorem shr_nat {k : IntKind} (h : big k) {a i : Nat} (hi : i < 64) : (a : Int).fdiv (2 ^ min i k.bits) = ((a >>> i : Nat) : Int) := by
  rw [big_bits h,Nat.min_eq_left (by omega),show (2 : Int) ^ i = ((2 ^ i : Nat) : Int) by norm_cast,Int.fdiv_eq_ediv_of_nonneg _ (Int.natCast_nonneg _),Nat.shiftRight_eq_div_pow]
  exact (Int.natCast_ediv a (2 ^ i)).symm
theorem bit_at {k : IntKind} (h : big k) {a i : Nat} (ha : a < 2 ^ 63) (hi : i < 64) : bitsA .and k ((a : Int).fdiv (2 ^ min i k.bits)) 1 = if a.testBit i then 1 else 0 := by
  have : a >>> i ≤ a := Nat.shiftRight_le a i
  rw [shr_nat h hi,show (1 : Int) = ((1 : Nat) : Int) from rfl,bits_and h (by omega) (by omega)]
  unfold Nat.testBit
  rw [Nat.and_comm,Nat.one_and_eq_mod_two]
  by_cases hb : (a >>> i) % 2 = 0
  · simp [hb]
  · have : (a >>> i) % 2 = 1 := by omega
    simp [this]
theorem bit_eq {k : IntKind} (h : big k) {a i : Nat} (ha : a < 2 ^ 63) (hi : i < 64) : (bitsA .and k ((a : Int).fdiv (2 ^ min i k.bits)) 1 = 1) = (a.testBit i = true) := by
  rw [bit_at h ha hi]
  cases a.testBit i <;> simp
theorem or_lt {a i n : Nat} (ha : a < 2 ^ n) (hi : i < n) : a ||| 2 ^ i < 2 ^ n := Nat.or_lt_two_pow ha (Nat.pow_lt_pow_right (by omega) hi)
theorem or_bit (a i j : Nat) : (a ||| 2 ^ i).testBit j = (a.testBit j || decide (i = j)) := by
  rw [Nat.testBit_or,Nat.testBit_two_pow]

abbrev U (a : Nat) : AV := .int .u64 (a : Int)
theorem w83 {a : Nat} (ha : a < 2 ^ 63) {i : Int} {j : Nat} (hi : i = (j : Int)) (hj : j < 64) : runW progX 83 [U a,I i] [] = some (.bool (a.testBit j),[]) := by
  subst hi
  have e := bit_eq big_u (a := a) (i := j) ha hj
  have n0 : ((j : Int) < 0) = False := eq_false (by omega)
  rw [r83 (by simp)]; unfold x83; dsimp only
  cases hb : a.testBit j
  · rw [hb] at e
    have e := e.trans (eq_false (by simp))
    (sym => (simp [Za,Zb,Zf,Zh,Zl,Zm,Zt,Z1,Yk,Yn,Yo,Yv,YR,Xp,XI,Wc,Wd,W9,WI,WM,WN,WP,WQ,Vs,V6,V7,V9,VA,VB,VC,VD,VG,VH,VI,VJ,VL,VU,VW,VZ,Ub,Ud,Ux,Uy,U1,U2,U3,UC,UD,Tn,Tp,Tq,Tu,T1,T2,Sg,n0,e]; all_goals tactic => exact rfl))
  · rw [hb] at e
    have e := e.trans (eq_true rfl)
    (sym => (simp [Za,Zb,Zf,Zh,Zl,Zm,Zt,Z1,Yk,Yn,Yo,Yv,YR,Xp,XI,Wc,Wd,W9,WI,WM,WN,WP,WQ,Vs,V6,V7,V9,VA,VB,VC,VD,VG,VH,VI,VJ,VL,VU,VW,VZ,Ub,Ud,Ux,Uy,U1,U2,U3,UC,UD,Tn,Tp,Tq,Tu,T1,T2,Sg,n0,e]; all_goals tactic => exact rfl))

def pop : Nat → Nat → Nat
  | _,0 => 0
  | a,n + 1 => pop a n + if a.testBit n then 1 else 0
def oc1 (a : Int) : Int := IntKind.u64.wrap (bitsA .and .u64 (a.fdiv (2 ^ min 1 IntKind.u64.bits)) 6148914691236517205 + bitsA .and .u64 a 6148914691236517205)
def oc2 (a : Int) : Int := IntKind.u64.wrap (bitsA .and .u64 (a.fdiv (2 ^ min 2 IntKind.u64.bits)) 3689348814741910323 + bitsA .and .u64 a 3689348814741910323)
def oc3 (a : Int) : Int := bitsA .and .u64 (IntKind.u64.wrap (a.fdiv (2 ^ min 4 IntKind.u64.bits) + a)) 1085102592571150095
def oc4 (a : Int) : Int := IntKind.u64.wrap (a + a.fdiv (2 ^ min 8 IntKind.u64.bits))
def oc5 (a : Int) : Int := IntKind.u64.wrap (a + a.fdiv (2 ^ min 16 IntKind.u64.bits))
def oc6 (a : Int) : Int := IntKind.u64.wrap (a + a.fdiv (2 ^ min 32 IntKind.u64.bits))
def oc7 (a : Int) : Int := bitsA .and .i64 (IntKind.i64.wrap a) 127
theorem ones_tab : ∀ a : Nat,a < 1024 → oc7 (oc6 (oc5 (oc4 (oc3 (oc2 (oc1 (a : Int))))))) = ((pop a 10 : Nat) : Int) := by decide +kernel
theorem w119 {a : Nat} (ha : a < 1024) : runW progX 119 [U a] [] = some (I (pop a 10 : Nat),[]) := by
  rw [r119 (by simp)]; unfold x119; dsimp only
  sym =>
    simp [Za,Zb,Zf,Zh,Zl,Zm,Zt,Z1,Z4,ZW,Yh,Yk,Yn,Y4,Y6,YA,YE,YQ,Xo,X0,Wc,W9,WI,WM,WN,WP,WQ,Vs,V6,V7,V9,VA,VB,VC,VD,VG,VH,VI,VJ,VL,VU,VW,VZ,Ub,Ud,U1,U2,U3,UC,UD,Tn,Tp,Tq,Tu,T1,T2,Sg]
    tactic => exact congrArg (fun v => some (I v,([] : XH))) (ones_tab a ha)
theorem w112 {a : Nat} (ha : a < 1024) : runW progX 112 [U a] [] = some (I (pop a 10 : Nat),[]) := by
  have e := w119 ha
  rw [r112 (by simp)]; unfold x112; dsimp only
  (sym => (simp [Za,Zb,Zf,Zh,Zl,Zt,ZL,ZM,ZQ,ZR,YQ,Xo,X0,Wc,W8,W9,WI,WL,WM,WN,WP,WQ,WS,WT,Vf,Vg,Vh,Vs,V6,V7,V9,VA,VB,VC,VD,VG,VH,VI,VJ,VL,VP,VR,VU,VV,VW,VY,VZ,Ub,Ud,U1,U2,U3,U4,U5,UC,UD,Tp,Tq,Tr,Tu,T1,T2,Sg,e]; all_goals tactic => exact rfl))
theorem w93 {a : Nat} (ha : a < 1024) : runW progX 93 [U a] [] = some (I (pop a 10 : Nat),[]) := by
  have e := w112 ha
  rw [r93 (by simp)]; unfold x93; dsimp only
  (sym => (simp [Za,Zb,Zf,Zg,Zh,Zj,Zl,Zt,ZL,ZM,ZQ,ZR,YQ,Xo,X0,Wc,W8,W9,WI,WL,WM,WN,WP,WQ,WS,WT,Vf,Vg,Vh,Vs,Vu,Vv,Vw,V6,V7,V9,VA,VB,VC,VD,VG,VH,VI,VJ,VL,VU,VV,VW,VY,VZ,Ub,Ud,U1,U2,U3,U4,U5,UC,UD,Tp,Tq,Tu,T1,T2,Sg,Sy,Sz,S7,e]; all_goals tactic => exact rfl))
theorem pop_le (a : Nat) : ∀ n,pop a n ≤ n
  | 0 => Nat.le_refl _
  | n + 1 => by
    have := pop_le a n
    rw [pop]
    split <;> omega
theorem pop_full {a : Nat} : ∀ {n},pop a n = n ↔ ∀ i,i < n → a.testBit i = true
  | 0 => by simp [pop]
  | n + 1 => by
    have ih := pop_full (a := a) (n := n)
    have hle := pop_le a n
    rw [pop]
    constructor
    · intro h i hi
      cases hb : a.testBit n with
      | false => rw [hb] at h; simp at h; omega
      | true =>
        rw [hb] at h
        simp at h
        by_cases hin : i = n
        · rw [hin]; exact hb
        · exact ih.1 h i (by omega)
    · intro h
      rw [h n (by omega),ih.2 fun i hi => h i (by omega)]; simp
theorem pop_cut {a m : Nat} (h : a < 2 ^ m) : ∀ n,m ≤ n → pop a n = pop a m
  | 0,hn => by rw [show m = 0 by omega]
  | n + 1,hn => by
    by_cases hm : m = n + 1
    · rw [hm]
    · rw [pop,bit_lt h (by omega),pop_cut h n (by omega)]; simp
end Go.Proofs.YtpbeclkpohehgaaDoor
namespace Go.Proofs.YtpbeclkpohehgaaDoor
open Go Go.DL
set_option maxRecDepth 100000
set_option maxHeartbeats 2000000

structure Ld where
  k : Int
  al : Int
  ah : Int
  cl : Int
  ch : Int
abbrev Ld.row (x : Ld) : List AV := [I x.k,I x.al,I x.ah,I x.cl,I x.ch]
structure Li where
  ks : List (List St)
  ls : List Ld
  ts : List (List Int)
  lo : Int
  hi : Int
abbrev tR (l : List (List Int)) : AV := .fs (l.map fun t => [rI t])
abbrev lR (l : List Ld) : AV := .fs (l.map Ld.row)
abbrev Li.c (l : Li) : List AV := [kR l.ks,lR l.ls,tR l.ts,I l.lo,I l.hi]

def elE (n all : Nat) (v : Int) : Int := if btw 0 v ((n : Int) - 1) then (if all.testBit v.toNat then 6 else 0) else 5
def allT (t : List Int) (a : Nat) : Nat → Nat
  | 0 => a
  | i + 1 => allT t a i ||| 2 ^ (t.getD i 0).toNat
def errT (n : Nat) (t : List Int) (a : Nat) : Int := if t.length = 0 then 4 else firstN (fun i => elE n (allT t a i) (t.getD i 0)) t.length
def accT (T : List (List Int)) : Nat → Nat
  | 0 => 0
  | j + 1 => allT (T.getD j []) (accT T j) (T.getD j []).length
def tracksE (n : Nat) (T : List (List Int)) : Int := if firstN (fun j => errT n (T.getD j []) (accT T j)) T.length = 0 then (if pop (accT T T.length) n < n then 3 else 0) else firstN (fun j => errT n (T.getD j []) (accT T j)) T.length
theorem elE_of {n all : Nat} (v : Int) : (btw 0 v ((n : Int) - 1) = true ∧ (0 ≤ v ∧ v < n) ∧ all.testBit v.toNat = false ∧ elE n all v = 0) ∨ (btw 0 v ((n : Int) - 1) = true ∧ (0 ≤ v ∧ v < n) ∧ all.testBit v.toNat = true ∧ elE n all v = 6) ∨ (btw 0 v ((n : Int) - 1) = false ∧ elE n all v = 5) := by
  unfold elE
  cases h : btw 0 v ((n : Int) - 1)
  · exact .inr (.inr ⟨rfl,rfl⟩)
  · have := btwF.1 h
    cases all.testBit v.toNat
    · exact .inl ⟨rfl,by omega,rfl,rfl⟩
    · exact .inr (.inl ⟨rfl,by omega,rfl,rfl⟩)
theorem allT_lt {n N : Nat} (hn : n ≤ N) {t : List Int} {a : Nat} (ha : a < 2 ^ N) : ∀ m,(∀ i,i < m → elE n (allT t a i) (t.getD i 0) = 0) → allT t a m < 2 ^ N
  | 0,_ => ha
  | m + 1,h => by
    have ih := allT_lt hn ha m fun i hi => h i (by omega)
    rcases elE_of (n := n) (all := allT t a m) (t.getD m 0) with ⟨_,h1,_,_⟩ | ⟨_,_,_,h4⟩ | ⟨_,h4⟩
    · rw [allT]
      exact or_lt ih (by omega)
    · rw [h m (by omega)] at h4; simp at h4
    · rw [h m (by omega)] at h4; simp at h4
theorem errT_0 {n : Nat} {t : List Int} {a : Nat} (h : errT n t a = 0) : t.length ≠ 0 ∧ ∀ i,i < t.length → elE n (allT t a i) (t.getD i 0) = 0 := by
  unfold errT at h
  by_cases hz : t.length = 0
  · rw [if_pos hz] at h; simp at h
  · rw [if_neg hz] at h
    exact ⟨hz,firstN_0 h⟩
theorem accT_lt {n N : Nat} (hn : n ≤ N) {T : List (List Int)} : ∀ m,(∀ j,j < m → errT n (T.getD j []) (accT T j) = 0) → accT T m < 2 ^ N
  | 0,_ => Nat.two_pow_pos N
  | m + 1,h => by
    have ih := accT_lt hn m fun j hj => h j (by omega)
    rw [accT]
    exact allT_lt hn ih _ (errT_0 (h m (by omega))).2
theorem getD_of {α : Type} {l : List α} {i : Nat} {x d : α} (h : l[i]? = some x) : l.getD i d = x := by rw [List.getD_eq_getElem?_getD,h]; rfl
theorem lo_63 {a : Nat} (h : a < 2 ^ 10) : a < 2 ^ 63 := by omega

section
variable {l : Li} {t : List Int} {j : Nat} {a : Nat}
abbrev hL (l : Li) : XH := [some (.blk true (.cells true l.c))]
theorem or_u {a : Nat} (ha : a < 2 ^ 10) {v : Int} (h : 0 ≤ v ∧ v < 10) : bitsA .or .u64 (a : Int) (IntKind.u64.wrap (1 * 2 ^ min v.toNat IntKind.u64.bits)) = ((a ||| 2 ^ v.toNat : Nat) : Int) := by
  rw [shl_one big_u (by omega),bits_or big_u (lo_63 ha) (Nat.pow_lt_pow_right (by omega) (by omega))]
theorem or_u1 {a : Nat} (ha : a < 2 ^ 10) {v : Int} (h : 0 ≤ v ∧ v < 10) : bitsA .or .u64 (a : Int) (IntKind.u64.wrap (2 ^ min v.toNat IntKind.u64.bits)) = ((a ||| 2 ^ v.toNat : Nat) : Int) := by
  rw [shl_1 big_u (by omega),bits_or big_u (lo_63 ha) (Nat.pow_lt_pow_right (by omega) (by omega))]
theorem round60 (hn : l.ls.length ≤ 10) (ha : a < 2 ^ 10) {i : Nat} {v : Int} (hv : t[i]? = some v) (ht : t.length ≤ 9223372036854775807) (he : elE l.ls.length a v = 0) :
    headX 0 [1,3,9,10,11,18,19,20] (execW progX 60 0 none (match x60l0 with | .loop _ a => a | c => c) (envL [1,3,9,10,11,18,19,20] [.pt 0 0,U a,tR l.ts,I l.ts.length,I (j : Nat),rI t,I t.length,I (i : Nat)]) (hL l)) =
      some ([.pt 0 0,U (a ||| 2 ^ v.toNat),tR l.ts,I l.ts.length,I (j : Nat),rI t,I t.length,I (i + 1 : Nat)],hL l) := by
  have a1 := lt_ix (lt_of hv)
  have a2 := up_ix (lt_of hv) ht
  have a3 : IntKind.i64.wrap ((l.ls.length : Int) - 1) = (l.ls.length : Int) - 1 := wrap_ok (by omega) (by omega)
  rcases elE_of (n := l.ls.length) (all := a) v with ⟨h1,h2,h3,h4⟩ | ⟨_,_,_,h4⟩ | ⟨_,h4⟩
  · have n0 : (v < 0) = False := eq_false (by omega)
    have e := w83 (a := a) (lo_63 ha) (i := v) (j := v.toNat) (by omega) (by omega)
    have o1 := or_u ha (v := v) (by omega)
    have o2 := or_u1 ha (v := v) (by omega)
    rw [h3] at e
    generalize a ||| 2 ^ v.toNat = a' at *
    unfold x60l0
    dsimp only
    (sym => (simp [Za,Zb,Zf,Zh,Zl,Zm,Zt,Z1,Z2,Z5,Z7,ZB,ZD,ZL,ZM,ZQ,ZR,ZU,ZX,ZZ,Ye,Yf,Yh,Yi,Yl,Ym,Yq,Yu,Yv,YQ,YV,YY,Xo,Xp,Xs,Xu,Wz,W0,W3,W8,WA,WB,WF,WG,WI,WJ,WK,WL,WM,WN,WO,WP,WQ,WR,WS,WT,WW,WX,Vc,Vf,Vg,Vh,VM,VN,VO,VP,VQ,VR,VV,VW,VY,VZ,Ub,Uc,Ud,Ue,Uf,Ug,Um,Us,Uw,Ux,U1,U2,U3,U4,U5,UY,UZ,Ta,Tb,Td,Tn,Tp,Tr,Tt,Tu,Tx,T0,T1,T2,T6,a1,a2,a3,hv,w58,h1,e,n0,o1,o2]; all_goals tactic => exact rfl))
  all_goals (rw [h4] at he; simp at he)
theorem left60 (hn : l.ls.length ≤ 10) (ha : a < 2 ^ 10) {i : Nat} {v : Int} (hv : t[i]? = some v) (he : elE l.ls.length a v ≠ 0) :
    ∃ e h,execW progX 60 0 none (match x60l0 with | .loop _ a => a | c => c) (envL [1,3,9,10,11,18,19,20] [.pt 0 0,U a,tR l.ts,I l.ts.length,I (j : Nat),rI t,I t.length,I (i : Nat)]) (hL l) = some (.ret,e,h) ∧ retX [(2,none)] false 0 (some (.ret,e,h)) = some (I (elE l.ls.length a v),[]) := by
  have a1 := lt_ix (lt_of hv)
  have a3 : IntKind.i64.wrap ((l.ls.length : Int) - 1) = (l.ls.length : Int) - 1 := wrap_ok (by omega) (by omega)
  refine ret_of ?_ ?_
  all_goals unfold x60l0
  all_goals dsimp only
  all_goals rcases elE_of (n := l.ls.length) (all := a) v with ⟨h1,h2,h3,h4⟩ | ⟨h1,h2,h3,h4⟩ | ⟨h1,h4⟩
  all_goals first | exact absurd h4 he | skip
  all_goals try rw [h4]
  · have e := w83 (a := a) (lo_63 ha) (i := v) (j := v.toNat) (by omega) (by omega)
    rw [h3] at e
    (sym => (simp [Za,Zb,Zf,Zh,Zl,Zm,Zt,Z1,Z2,Z5,Z7,ZB,ZD,ZL,ZM,ZQ,ZR,ZU,ZX,ZZ,Ye,Yf,Yi,Yq,Yu,Yv,YQ,Xo,Xp,X0,Wc,Wz,W0,W3,W8,WA,WI,WL,WM,WN,WO,WP,WQ,WS,WT,Vf,Vg,Vh,Vs,V6,V7,V9,VA,VB,VC,VD,VG,VH,VI,VJ,VM,VP,VQ,VR,VT,VV,VW,VY,VZ,Ub,Uc,Ud,Ue,Uf,Ug,Um,Un,Us,Ux,U1,U2,U3,U4,U5,UY,UZ,Ta,Tb,Td,Tn,Tp,Tq,Tr,Tt,Tu,Tw,Ty,T1,T2,Sg,a1,a3,hv,w58,h1,e]; all_goals tactic => exact rfl))
  · (sym => (simp [Za,Zb,Zf,Zh,Zl,Zm,Zt,Z1,Z2,Z5,Z7,ZB,ZD,ZL,ZM,ZQ,ZR,ZU,ZX,ZZ,Ye,Yf,Yi,Yq,Yu,Yv,YQ,Xo,Xp,X0,Wc,Wz,W0,W3,W8,WA,WI,WL,WM,WN,WO,WP,WQ,WS,WT,Vf,Vg,Vh,Vs,V6,V7,V9,VA,VB,VC,VD,VG,VH,VI,VJ,VM,VP,VQ,VR,VT,VV,VW,VY,VZ,Ub,Uc,Ud,Ue,Uf,Ug,Um,Un,Us,Ux,U1,U2,U3,U4,U5,UY,UZ,Ta,Tb,Td,Tn,Tp,Tq,Tr,Tt,Tu,Tw,Ty,T1,T2,Sg,a1,a3,hv,w58,h1]; all_goals tactic => exact rfl))
  · have e := w83 (a := a) (lo_63 ha) (i := v) (j := v.toNat) (by omega) (by omega)
    rw [h3] at e
    (sym => (simp [Za,Zb,Zf,Zh,Zl,Zm,Zt,Z1,Z2,Z5,Z7,ZB,ZD,ZL,ZM,ZQ,ZR,ZU,ZX,ZZ,Ye,Yf,Yi,Yq,Yu,Yv,YQ,Xo,Xp,X0,Wc,Wz,W0,W3,W8,WA,WI,WL,WM,WN,WO,WP,WQ,WS,WT,Vf,Vg,Vh,Vs,V6,V7,V9,VA,VB,VC,VD,VG,VH,VI,VJ,VM,VP,VQ,VR,VT,VV,VW,VY,VZ,Ub,Uc,Ud,Ue,Uf,Ug,Um,Un,Us,Ux,U1,U2,U3,U4,U5,UY,UZ,Ta,Tb,Td,Tn,Tp,Tq,Tr,Tt,Tu,Tw,Ty,T1,T2,Sg,a1,a3,hv,w58,h1,e]; all_goals tactic => exact rfl))
  · (sym => (simp [Za,Zb,Zf,Zh,Zl,Zm,Zt,Z1,Z2,Z5,Z7,ZB,ZD,ZL,ZM,ZQ,ZR,ZU,ZX,ZZ,Ye,Yf,Yi,Yq,Yu,Yv,YQ,Xo,Xp,X0,Wc,Wz,W0,W3,W8,WA,WI,WL,WM,WN,WO,WP,WQ,WS,WT,Vf,Vg,Vh,Vs,V6,V7,V9,VA,VB,VC,VD,VG,VH,VI,VJ,VM,VP,VQ,VR,VT,VV,VW,VY,VZ,Ub,Uc,Ud,Ue,Uf,Ug,Um,Un,Us,Ux,U1,U2,U3,U4,U5,UY,UZ,Ta,Tb,Td,Tn,Tp,Tq,Tr,Tt,Tu,Tw,Ty,T1,T2,Sg,a1,a3,hv,w58,h1]; all_goals tactic => exact rfl))
end
theorem w60 (l : Li) (hn : l.ls.length ≤ 10) (hT : l.ts.length ≤ 9223372036854775807) (hts : ∀ t ∈ l.ts,t.length ≤ 9223372036854775807) : runW progX 60 [.agg l.c] [] = some (I (tracksE l.ls.length l.ts),[]) := by
  have z := UX (n := (l.ts.length : Int))
  obtain ⟨m,m1,m2,m3⟩ := firstN_ix (fun j => errT l.ls.length (l.ts.getD j []) (accT l.ts j)) l.ts.length
  have hm : accT l.ts m < 2 ^ 10 := accT_lt hn m m2
  have lf : m < l.ts.length → ∃ e h,execW progX 60 0 none (match x60l1 with | .loop _ a => a | c => c) (envL [1,3,9,10,11] [.pt 0 0,U (accT l.ts m),tR l.ts,I l.ts.length,I (m : Nat)]) (hL l) = some (.ret,e,h) ∧ retX [(2,none)] false 0 (some (.ret,e,h)) = some (I (errT l.ls.length (l.ts.getD m []) (accT l.ts m)),[]) := by
    intro hlt
    rcases m3 with ⟨rfl,_⟩ | ⟨_,m4,_⟩
    · omega
    obtain ⟨t,ht⟩ := at_ix hlt
    have b1 := lt_ix hlt
    rw [getD_of ht] at m4 ⊢
    have hth := hts t (List.mem_of_getElem? ht)
    generalize accT l.ts m = a at *
    by_cases h0 : t.length = 0
    · have e4 : errT l.ls.length t a = 4 := by rw [errT,if_pos h0]
      rw [e4]
      have g0 : ((t.length : Int) = 0) = True := eq_true (by omega)
      refine ret_of ?_ ?_
      all_goals unfold x60l1
      all_goals dsimp only
      all_goals (sym => (simp [Za,Zb,Ze,Zf,Zh,Zi,Zl,Zm,Zn,Zt,Zx,Z1,Z5,Z7,ZB,ZD,ZE,ZG,ZJ,ZN,ZO,ZQ,ZR,ZX,ZZ,Ye,Yf,Yh,Yo,Yq,Yu,Yv,Y3,YQ,YV,YY,Xe,Xf,Xg,Xo,Xs,Xu,X0,Wc,We,Wg,Wo,Wz,W0,W3,W8,W9,WA,WB,WF,WG,WI,WJ,WK,WL,WM,WN,WO,WP,WQ,WR,WS,WT,WW,WX,Vc,Vf,Vg,Vh,Vj,Vk,Vl,Vn,Vs,V6,V7,V9,VA,VB,VC,VD,VG,VH,VI,VJ,VL,VM,VN,VO,VP,VQ,VR,VS,VT,VU,VV,VW,VY,VZ,Ub,Uc,Ud,Ue,Uf,Ug,Uj,Un,Uo,Uq,Us,Uw,Ux,Uy,Uz,U0,U1,U2,U3,U4,U5,U6,U7,UC,UD,UK,UL,UX,UY,UZ,Ta,Tb,Td,Ti,Tn,Tp,Tq,Tr,Ts,Tt,Tu,Tv,Tw,Tx,Ty,Tz,T0,T1,T2,T6,Sg,b1,ht,g0]; all_goals tactic => exact rfl))
    · have g0 : ((t.length : Int) = 0) = False := eq_false (by omega)
      rw [errT,if_neg h0] at m4 ⊢
      obtain ⟨i,i1,i2,i3⟩ := firstN_ix (fun i => elE l.ls.length (allT t a i) (t.getD i 0)) t.length
      rcases i3 with ⟨_,i3⟩ | ⟨i3,i4,i5⟩
      · exact absurd i3 m4
      rw [i5]
      obtain ⟨v,hv⟩ := at_ix i3
      rw [getD_of hv] at i4 ⊢
      obtain ⟨eo,ho,q1,q2⟩ := left60 (j := m) hn (allT_lt hn hm i i2) hv i4
      have rd : ∀ k,k < i → headX 0 [1,3,9,10,11,18,19,20] (execW progX 60 0 none (match x60l0 with | .loop _ a => a | c => c) (envL [1,3,9,10,11,18,19,20] [.pt 0 0,U (allT t a k),tR l.ts,I l.ts.length,I (m : Nat),rI t,I t.length,I (k : Nat)]) (hL l)) = some ([.pt 0 0,U (allT t a (k + 1)),tR l.ts,I l.ts.length,I (m : Nat),rI t,I t.length,I (k + 1 : Nat)],hL l) := by
        intro k hk
        obtain ⟨u,hu⟩ := at_ix (l := t) (i := k) (by omega)
        have e0 := i2 k hk
        rw [getD_of hu] at e0
        rw [allT,getD_of hu]
        exact round60 hn (allT_lt hn hm k fun i hi => i2 i (by omega)) hu hth e0
      refine ret_of ?_ ?_
      all_goals unfold x60l1
      all_goals dsimp only
      · sym =>
          simp [Za,Zb,Ze,Zf,Zh,Zi,Zl,Zm,Zn,Zt,Zx,Z1,Z5,Z7,ZB,ZD,ZE,ZG,ZJ,ZN,ZO,ZQ,ZR,ZX,ZZ,Ye,Yf,Yh,Yo,Yq,Yu,Yv,Y3,YQ,YV,YY,Xe,Xf,Xg,Xo,Xs,Xu,X0,Wc,We,Wg,Wo,Wz,W0,W3,W8,W9,WA,WB,WF,WG,WI,WJ,WK,WL,WM,WN,WO,WP,WQ,WR,WS,WT,WW,WX,Vc,Vf,Vg,Vh,Vj,Vk,Vl,Vn,Vs,V6,V7,V9,VA,VB,VC,VD,VG,VH,VI,VJ,VL,VM,VN,VO,VP,VQ,VR,VS,VT,VU,VV,VW,VY,VZ,Ub,Uc,Ud,Ue,Uf,Ug,Uj,Un,Uo,Uq,Us,Uw,Ux,Uy,Uz,U0,U1,U2,U3,U4,U5,U6,U7,UC,UD,UK,UL,UX,UY,UZ,Ta,Tb,Td,Ti,Tn,Tp,Tq,Tr,Ts,Tt,Tu,Tv,Tw,Tx,Ty,Tz,T0,T1,T2,T6,Sg,b1,ht,g0]
          tactic =>
            unfold x60l0 at q1 ⊢
            rw [loop_rule i (fun k => [.pt 0 0,U (allT t a k),tR l.ts,I l.ts.length,I (m : Nat),rI t,I t.length,I (k : Nat)]) (fun _ => hL l)]
            · dsimp only at q1; rw [q1]; rfl
            · (sym => (simp [Za,Zb,Ze,Zf,Zh,Zi,Zl,Zm,Zn,Zt,Zx,Z1,Z5,Z7,ZB,ZD,ZE,ZG,ZJ,ZN,ZO,ZQ,ZR,ZX,ZZ,Ye,Yf,Yh,Yo,Yq,Yu,Yv,Y3,YQ,YV,YY,Xe,Xf,Xg,Xo,Xs,Xu,X0,Wc,We,Wg,Wo,Wz,W0,W3,W8,W9,WA,WB,WF,WG,WI,WJ,WK,WL,WM,WN,WO,WP,WQ,WR,WS,WT,WW,WX,Vc,Vf,Vg,Vh,Vj,Vk,Vl,Vn,Vs,V6,V7,V9,VA,VB,VC,VD,VG,VH,VI,VJ,VL,VM,VN,VO,VP,VQ,VR,VS,VT,VU,VV,VW,VY,VZ,Ub,Uc,Ud,Ue,Uf,Ug,Uj,Un,Uo,Uq,Us,Uw,Ux,Uy,Uz,U0,U1,U2,U3,U4,U5,U6,U7,UC,UD,UK,UL,UX,UY,UZ,Ta,Tb,Td,Ti,Tn,Tp,Tq,Tr,Ts,Tt,Tu,Tv,Tw,Tx,Ty,Tz,T0,T1,T2,T6,Sg,allT.eq_1]; all_goals tactic => exact rfl))
            · exact rd
            · dsimp only at q1; rw [q1]; rfl
      · sym =>
          simp [Za,Zb,Ze,Zf,Zh,Zi,Zl,Zm,Zn,Zt,Zx,Z1,Z5,Z7,ZB,ZD,ZE,ZG,ZJ,ZN,ZO,ZQ,ZR,ZX,ZZ,Ye,Yf,Yh,Yo,Yq,Yu,Yv,Y3,YQ,YV,YY,Xe,Xf,Xg,Xo,Xs,Xu,X0,Wc,We,Wg,Wo,Wz,W0,W3,W8,W9,WA,WB,WF,WG,WI,WJ,WK,WL,WM,WN,WO,WP,WQ,WR,WS,WT,WW,WX,Vc,Vf,Vg,Vh,Vj,Vk,Vl,Vn,Vs,V6,V7,V9,VA,VB,VC,VD,VG,VH,VI,VJ,VL,VM,VN,VO,VP,VQ,VR,VS,VT,VU,VV,VW,VY,VZ,Ub,Uc,Ud,Ue,Uf,Ug,Uj,Un,Uo,Uq,Us,Uw,Ux,Uy,Uz,U0,U1,U2,U3,U4,U5,U6,U7,UC,UD,UK,UL,UX,UY,UZ,Ta,Tb,Td,Ti,Tn,Tp,Tq,Tr,Ts,Tt,Tu,Tv,Tw,Tx,Ty,Tz,T0,T1,T2,T6,Sg,b1,ht,g0]
          tactic =>
            unfold x60l0 at q1 ⊢
            rw [loop_rule i (fun k => [.pt 0 0,U (allT t a k),tR l.ts,I l.ts.length,I (m : Nat),rI t,I t.length,I (k : Nat)]) (fun _ => hL l)]
            · dsimp only at q1; rw [q1]; exact q2
            · (sym => (simp [Za,Zb,Ze,Zf,Zh,Zi,Zl,Zm,Zn,Zt,Zx,Z1,Z5,Z7,ZB,ZD,ZE,ZG,ZJ,ZN,ZO,ZQ,ZR,ZX,ZZ,Ye,Yf,Yh,Yo,Yq,Yu,Yv,Y3,YQ,YV,YY,Xe,Xf,Xg,Xo,Xs,Xu,X0,Wc,We,Wg,Wo,Wz,W0,W3,W8,W9,WA,WB,WF,WG,WI,WJ,WK,WL,WM,WN,WO,WP,WQ,WR,WS,WT,WW,WX,Vc,Vf,Vg,Vh,Vj,Vk,Vl,Vn,Vs,V6,V7,V9,VA,VB,VC,VD,VG,VH,VI,VJ,VL,VM,VN,VO,VP,VQ,VR,VS,VT,VU,VV,VW,VY,VZ,Ub,Uc,Ud,Ue,Uf,Ug,Uj,Un,Uo,Uq,Us,Uw,Ux,Uy,Uz,U0,U1,U2,U3,U4,U5,U6,U7,UC,UD,UK,UL,UX,UY,UZ,Ta,Tb,Td,Ti,Tn,Tp,Tq,Tr,Ts,Tt,Tu,Tv,Tw,Tx,Ty,Tz,T0,T1,T2,T6,Sg,allT.eq_1]; all_goals tactic => exact rfl))
            · exact rd
            · dsimp only at q1; rw [q1]; rfl
  have rd : ∀ j,j < m → headX 0 [1,3,9,10,11] (execW progX 60 0 none (match x60l1 with | .loop _ a => a | c => c) (envL [1,3,9,10,11] [.pt 0 0,U (accT l.ts j),tR l.ts,I l.ts.length,I (j : Nat)]) (hL l)) = some ([.pt 0 0,U (accT l.ts (j + 1)),tR l.ts,I l.ts.length,I (j + 1 : Nat)],hL l) := by
    intro j hj
    obtain ⟨t,ht⟩ := at_ix (l := l.ts) (i := j) (by omega)
    have b1 := lt_ix (lt_of ht)
    have b2 := up_ix (lt_of ht) hT
    have hth := hts t (List.mem_of_getElem? ht)
    have h0 := m2 j hj
    have hj2 : accT l.ts j < 2 ^ 10 := accT_lt hn j fun i hi => m2 i (by omega)
    rw [accT,getD_of ht]
    rw [getD_of ht] at h0
    obtain ⟨h1,h2⟩ := errT_0 h0
    generalize accT l.ts j = a at *
    have g0 : ((t.length : Int) = 0) = False := eq_false (by omega)
    have z := UX (n := (t.length : Int))
    unfold x60l1
    dsimp only
    sym =>
      simp [Za,Zb,Ze,Zf,Zh,Zi,Zl,Zm,Zn,Zt,Zx,Z1,Z5,Z7,ZB,ZD,ZE,ZG,ZJ,ZN,ZO,ZQ,ZR,ZX,ZZ,Ye,Yf,Yh,Yo,Yq,Yu,Yv,Y3,YQ,YV,YY,Xe,Xf,Xg,Xo,Xs,Xu,X0,Wc,We,Wg,Wo,Wz,W0,W3,W8,W9,WA,WB,WF,WG,WI,WJ,WK,WL,WM,WN,WO,WP,WQ,WR,WS,WT,WW,WX,Vc,Vf,Vg,Vh,Vj,Vk,Vl,Vn,Vs,V6,V7,V9,VA,VB,VC,VD,VG,VH,VI,VJ,VL,VM,VN,VO,VP,VQ,VR,VS,VT,VU,VV,VW,VY,VZ,Ub,Uc,Ud,Ue,Uf,Ug,Uj,Un,Uo,Uq,Us,Uw,Ux,Uy,Uz,U0,U1,U2,U3,U4,U5,U6,U7,UC,UD,UK,UL,UX,UY,UZ,Ta,Tb,Td,Ti,Tn,Tp,Tq,Tr,Ts,Tt,Tu,Tv,Tw,Tx,Ty,Tz,T0,T1,T2,T6,Sg,b1,ht,g0]
      tactic =>
        unfold x60l0
        rw [loop_rule t.length (fun k => [.pt 0 0,U (allT t a k),tR l.ts,I l.ts.length,I (j : Nat),rI t,I t.length,I (k : Nat)]) (fun _ => hL l)]
        · (sym => (simp [Za,Zb,Ze,Zf,Zh,Zi,Zl,Zm,Zn,Zt,Zx,Z1,Z5,Z7,ZB,ZD,ZE,ZG,ZJ,ZN,ZO,ZQ,ZR,ZX,ZZ,Ye,Yf,Yh,Yo,Yq,Yu,Yv,Y3,YQ,YV,YY,Xe,Xf,Xg,Xo,Xs,Xu,X0,Wc,We,Wg,Wo,Wz,W0,W3,W8,W9,WA,WB,WF,WG,WI,WJ,WK,WL,WM,WN,WO,WP,WQ,WR,WS,WT,WW,WX,Vc,Vf,Vg,Vh,Vj,Vk,Vl,Vn,Vs,V6,V7,V9,VA,VB,VC,VD,VG,VH,VI,VJ,VL,VM,VN,VO,VP,VQ,VR,VS,VT,VU,VV,VW,VY,VZ,Ub,Uc,Ud,Ue,Uf,Ug,Uj,Un,Uo,Uq,Us,Uw,Ux,Uy,Uz,U0,U1,U2,U3,U4,U5,U6,U7,UC,UD,UK,UL,UX,UY,UZ,Ta,Tb,Td,Ti,Tn,Tp,Tq,Tr,Ts,Tt,Tu,Tv,Tw,Tx,Ty,Tz,T0,T1,T2,T6,Sg,b1,b2,z]; all_goals tactic => exact rfl))
        · (sym => (simp [Za,Zb,Ze,Zf,Zh,Zi,Zl,Zm,Zn,Zt,Zx,Z1,Z5,Z7,ZB,ZD,ZE,ZG,ZJ,ZN,ZO,ZQ,ZR,ZX,ZZ,Ye,Yf,Yh,Yo,Yq,Yu,Yv,Y3,YQ,YV,YY,Xe,Xf,Xg,Xo,Xs,Xu,X0,Wc,We,Wg,Wo,Wz,W0,W3,W8,W9,WA,WB,WF,WG,WI,WJ,WK,WL,WM,WN,WO,WP,WQ,WR,WS,WT,WW,WX,Vc,Vf,Vg,Vh,Vj,Vk,Vl,Vn,Vs,V6,V7,V9,VA,VB,VC,VD,VG,VH,VI,VJ,VL,VM,VN,VO,VP,VQ,VR,VS,VT,VU,VV,VW,VY,VZ,Ub,Uc,Ud,Ue,Uf,Ug,Uj,Un,Uo,Uq,Us,Uw,Ux,Uy,Uz,U0,U1,U2,U3,U4,U5,U6,U7,UC,UD,UK,UL,UX,UY,UZ,Ta,Tb,Td,Ti,Tn,Tp,Tq,Tr,Ts,Tt,Tu,Tv,Tw,Tx,Ty,Tz,T0,T1,T2,T6,Sg,allT.eq_1]; all_goals tactic => exact rfl))
        · intro k hk
          obtain ⟨u,hu⟩ := at_ix hk
          have e0 := h2 k hk
          rw [getD_of hu] at e0
          rw [allT,getD_of hu]
          exact round60 hn (allT_lt hn hj2 k fun i hi => h2 i (by omega)) hu hth e0
        · (sym => (simp [Za,Zb,Ze,Zf,Zh,Zi,Zl,Zm,Zn,Zt,Zx,Z1,Z5,Z7,ZB,ZD,ZE,ZG,ZJ,ZN,ZO,ZQ,ZR,ZX,ZZ,Ye,Yf,Yh,Yo,Yq,Yu,Yv,Y3,YQ,YV,YY,Xe,Xf,Xg,Xo,Xs,Xu,X0,Wc,We,Wg,Wo,Wz,W0,W3,W8,W9,WA,WB,WF,WG,WI,WJ,WK,WL,WM,WN,WO,WP,WQ,WR,WS,WT,WW,WX,Vc,Vf,Vg,Vh,Vj,Vk,Vl,Vn,Vs,V6,V7,V9,VA,VB,VC,VD,VG,VH,VI,VJ,VL,VM,VN,VO,VP,VQ,VR,VS,VT,VU,VV,VW,VY,VZ,Ub,Uc,Ud,Ue,Uf,Ug,Uj,Un,Uo,Uq,Us,Uw,Ux,Uy,Uz,U0,U1,U2,U3,U4,U5,U6,U7,UC,UD,UK,UL,UX,UY,UZ,Ta,Tb,Td,Ti,Tn,Tp,Tq,Tr,Ts,Tt,Tu,Tv,Tw,Tx,Ty,Tz,T0,T1,T2,T6,Sg,z]; all_goals tactic => exact rfl))
  have a0 : accT l.ts 0 = 0 := rfl
  rw [r60 (by simp)]; unfold x60; dsimp only
  sym =>
    simp [Za,Zb,Ze,Zf,Zh,Zi,Zl,Zm,Zn,Zt,Zx,Z1,Z5,Z7,ZB,ZD,ZE,ZG,ZJ,ZN,ZO,ZQ,ZR,ZX,ZZ,Ye,Yf,Yh,Yo,Yq,Yu,Yv,Y3,YQ,YV,YY,Xe,Xf,Xg,Xo,Xs,Xu,X0,Wc,We,Wg,Wo,Wz,W0,W3,W8,W9,WA,WB,WF,WG,WI,WJ,WK,WL,WM,WN,WO,WP,WQ,WR,WS,WT,WW,WX,Vc,Vf,Vg,Vh,Vj,Vk,Vl,Vn,Vs,V6,V7,V9,VA,VB,VC,VD,VG,VH,VI,VJ,VL,VM,VN,VO,VP,VQ,VR,VS,VT,VU,VV,VW,VY,VZ,Ub,Uc,Ud,Ue,Uf,Ug,Uj,Un,Uo,Uq,Us,Uw,Ux,Uy,Uz,U0,U1,U2,U3,U4,U5,U6,U7,UC,UD,UK,UL,UX,UY,UZ,Ta,Tb,Td,Ti,Tn,Tp,Tq,Tr,Ts,Tt,Tu,Tv,Tw,Tx,Ty,Tz,T0,T1,T2,T6,Sg]
    tactic =>
      unfold x60l1 at lf ⊢
      rw [loop_rule m (fun j => [.pt 0 0,U (accT l.ts j),tR l.ts,I l.ts.length,I (j : Nat)]) (fun _ => hL l)]
      · rcases m3 with ⟨rfl,e⟩ | ⟨m3,m4,e⟩
        · unfold tracksE
          rw [e,if_pos rfl]
          have e93 := w93 (a := accT l.ts l.ts.length) hm
          rw [pop_cut (m := 10) hm 10 (Nat.le_refl _)] at e93
          have hpop : pop (accT l.ts l.ts.length) 10 = pop (accT l.ts l.ts.length) l.ls.length := pop_cut (accT_lt (Nat.le_refl _) _ m2) 10 hn
          rw [hpop] at e93
          generalize pop (accT l.ts l.ts.length) l.ls.length = p at *
          by_cases hp : p < l.ls.length
          · rw [if_pos hp]
            have hp : ((p : Int) < (l.ls.length : Int)) = True := eq_true (by omega)
            (sym => (simp [Za,Zb,Ze,Zf,Zh,Zi,Zl,Zm,Zn,Zt,Zx,Z1,Z5,Z7,ZB,ZD,ZE,ZG,ZJ,ZN,ZO,ZQ,ZR,ZX,ZZ,Ye,Yf,Yh,Yo,Yq,Yu,Yv,Y3,YQ,YV,YY,Xe,Xf,Xg,Xo,Xs,Xu,X0,Wc,We,Wg,Wo,Wz,W0,W3,W8,W9,WA,WB,WF,WG,WI,WJ,WK,WL,WM,WN,WO,WP,WQ,WR,WS,WT,WW,WX,Vc,Vf,Vg,Vh,Vj,Vk,Vl,Vn,Vs,V6,V7,V9,VA,VB,VC,VD,VG,VH,VI,VJ,VL,VM,VN,VO,VP,VQ,VR,VS,VT,VU,VV,VW,VY,VZ,Ub,Uc,Ud,Ue,Uf,Ug,Uj,Un,Uo,Uq,Us,Uw,Ux,Uy,Uz,U0,U1,U2,U3,U4,U5,U6,U7,UC,UD,UK,UL,UX,UY,UZ,Ta,Tb,Td,Ti,Tn,Tp,Tq,Tr,Ts,Tt,Tu,Tv,Tw,Tx,Ty,Tz,T0,T1,T2,T6,Sg,z,e93,hp]; all_goals tactic => exact rfl))
          · rw [if_neg hp]
            have hp : ((p : Int) < (l.ls.length : Int)) = False := eq_false (by omega)
            (sym => (simp [Za,Zb,Ze,Zf,Zh,Zi,Zl,Zm,Zn,Zt,Zx,Z1,Z5,Z7,ZB,ZD,ZE,ZG,ZJ,ZN,ZO,ZQ,ZR,ZX,ZZ,Ye,Yf,Yh,Yo,Yq,Yu,Yv,Y3,YQ,YV,YY,Xe,Xf,Xg,Xo,Xs,Xu,X0,Wc,We,Wg,Wo,Wz,W0,W3,W8,W9,WA,WB,WF,WG,WI,WJ,WK,WL,WM,WN,WO,WP,WQ,WR,WS,WT,WW,WX,Vc,Vf,Vg,Vh,Vj,Vk,Vl,Vn,Vs,V6,V7,V9,VA,VB,VC,VD,VG,VH,VI,VJ,VL,VM,VN,VO,VP,VQ,VR,VS,VT,VU,VV,VW,VY,VZ,Ub,Uc,Ud,Ue,Uf,Ug,Uj,Un,Uo,Uq,Us,Uw,Ux,Uy,Uz,U0,U1,U2,U3,U4,U5,U6,U7,UC,UD,UK,UL,UX,UY,UZ,Ta,Tb,Td,Ti,Tn,Tp,Tq,Tr,Ts,Tt,Tu,Tv,Tw,Tx,Ty,Tz,T0,T1,T2,T6,Sg,z,e93,hp]; all_goals tactic => exact rfl))
        · unfold tracksE
          rw [e,if_neg m4]
          obtain ⟨eo,ho,q1,q2⟩ := lf m3
          dsimp only at q1
          rw [q1]
          exact q2
      · (sym => (simp [Za,Zb,Ze,Zf,Zh,Zi,Zl,Zm,Zn,Zt,Zx,Z1,Z5,Z7,ZB,ZD,ZE,ZG,ZJ,ZN,ZO,ZQ,ZR,ZX,ZZ,Ye,Yf,Yh,Yo,Yq,Yu,Yv,Y3,YQ,YV,YY,Xe,Xf,Xg,Xo,Xs,Xu,X0,Wc,We,Wg,Wo,Wz,W0,W3,W8,W9,WA,WB,WF,WG,WI,WJ,WK,WL,WM,WN,WO,WP,WQ,WR,WS,WT,WW,WX,Vc,Vf,Vg,Vh,Vj,Vk,Vl,Vn,Vs,V6,V7,V9,VA,VB,VC,VD,VG,VH,VI,VJ,VL,VM,VN,VO,VP,VQ,VR,VS,VT,VU,VV,VW,VY,VZ,Ub,Uc,Ud,Ue,Uf,Ug,Uj,Un,Uo,Uq,Us,Uw,Ux,Uy,Uz,U0,U1,U2,U3,U4,U5,U6,U7,UC,UD,UK,UL,UX,UY,UZ,Ta,Tb,Td,Ti,Tn,Tp,Tq,Tr,Ts,Tt,Tu,Tv,Tw,Tx,Ty,Tz,T0,T1,T2,T6,Sg,a0]; all_goals tactic => exact rfl))
      · exact rd
      · rcases m3 with ⟨rfl,e⟩ | ⟨m3,m4,e⟩
        · (sym => (simp [Za,Zb,Ze,Zf,Zh,Zi,Zl,Zm,Zn,Zt,Zx,Z1,Z5,Z7,ZB,ZD,ZE,ZG,ZJ,ZN,ZO,ZQ,ZR,ZX,ZZ,Ye,Yf,Yh,Yo,Yq,Yu,Yv,Y3,YQ,YV,YY,Xe,Xf,Xg,Xo,Xs,Xu,X0,Wc,We,Wg,Wo,Wz,W0,W3,W8,W9,WA,WB,WF,WG,WI,WJ,WK,WL,WM,WN,WO,WP,WQ,WR,WS,WT,WW,WX,Vc,Vf,Vg,Vh,Vj,Vk,Vl,Vn,Vs,V6,V7,V9,VA,VB,VC,VD,VG,VH,VI,VJ,VL,VM,VN,VO,VP,VQ,VR,VS,VT,VU,VV,VW,VY,VZ,Ub,Uc,Ud,Ue,Uf,Ug,Uj,Un,Uo,Uq,Us,Uw,Ux,Uy,Uz,U0,U1,U2,U3,U4,U5,U6,U7,UC,UD,UK,UL,UX,UY,UZ,Ta,Tb,Td,Ti,Tn,Tp,Tq,Tr,Ts,Tt,Tu,Tv,Tw,Tx,Ty,Tz,T0,T1,T2,T6,Sg,z]; all_goals tactic => exact rfl))
        · obtain ⟨eo,ho,q1,q2⟩ := lf m3
          dsimp only at q1
          rw [q1]
          rfl
end Go.Proofs.YtpbeclkpohehgaaDoor
namespace Go.Proofs.YtpbeclkpohehgaaDoor
open Go Go.DL
set_option maxRecDepth 100000
set_option maxHeartbeats 2000000

def bl (n a : Nat) : List Bool := (List.range n).map fun k => a.testBit k
section
variable {n : Nat} {T : List (List Int)} {t : List Int} {j : Nat} {a : Nat}
end
end Go.Proofs.YtpbeclkpohehgaaDoor
namespace Go.Proofs.YtpbeclkpohehgaaDoor
open Go Go.DL
set_option maxRecDepth 100000
set_option maxHeartbeats 2000000

def ldE (nk : Nat) (x : Ld) : Int := if btw 0 x.k ((nk : Int) - 1) then (if inS x.al x.ah 0 100000 && inS x.cl x.ch 1 10000 then 0 else 2) else 18
def ldEr (l : Li) (i : Nat) : Int := ldE l.ks.length (l.ls.getD i ⟨0,0,0,0,0⟩)
def checkL (l : Li) : Int := if kindsE l.ks = 0 then (if 10 < l.ls.length then 1 else if firstN (ldEr l) l.ls.length = 0 then (if tracksE l.ls.length l.ts = 0 then (if inS l.lo l.hi 0 100000 then 0 else 2) else tracksE l.ls.length l.ts) else firstN (ldEr l) l.ls.length) else kindsE l.ks
structure Li.Fit (l : Li) : Prop where
  ts : l.ts.length ≤ 9223372036854775807
  each : ∀ t ∈ l.ts,t.length ≤ 9223372036854775807
theorem ldE_of (nk : Nat) (x : Ld) : (btw 0 x.k ((nk : Int) - 1) = true ∧ inS x.al x.ah 0 100000 = true ∧ inS x.cl x.ch 1 10000 = true ∧ ldE nk x = 0) ∨ (btw 0 x.k ((nk : Int) - 1) = true ∧ inS x.al x.ah 0 100000 = true ∧ inS x.cl x.ch 1 10000 = false ∧ ldE nk x = 2) ∨
    (btw 0 x.k ((nk : Int) - 1) = true ∧ inS x.al x.ah 0 100000 = false ∧ ldE nk x = 2) ∨ (btw 0 x.k ((nk : Int) - 1) = false ∧ ldE nk x = 18) := by
  unfold ldE
  cases btw 0 x.k ((nk : Int) - 1)
  · simp
  cases inS x.al x.ah 0 100000
  · simp
  cases inS x.cl x.ch 1 10000 <;> simp

section
variable {l : Li}
theorem round22a (hn : l.ks.length ≤ 6) {i : Nat} (hi : i < l.ks.length) (he : chkD (l.ks.getD i []) = 0) :
    headX 0 [1,14,15,16] (execW progX 22 0 none (match x22l0 with | .loop _ a => a | c => c) (envL [1,14,15,16] [.pt 0 0,kR l.ks,I l.ks.length,I (i : Nat)]) (hL l)) = some ([.pt 0 0,kR l.ks,I l.ks.length,I (i + 1 : Nat)],hL l) := by
  obtain ⟨k,hk⟩ := at_ix hi
  rw [getD_of hk] at he
  have a1 := lt_ix hi
  have a2 := up_ix hi (by omega)
  have e := w57 k
  rw [he] at e
  unfold x22l0
  dsimp only
  (sym => (simp [Za,Zb,Zf,Zg,Zh,Zj,Zl,Zm,Zt,Z1,Z7,ZD,ZL,ZM,ZQ,ZR,Ye,Yf,Yh,Yp,Yq,Yu,Yv,YQ,YV,YY,Xo,Xs,Xu,XL,Wg,Wz,W8,WA,WB,WF,WG,WI,WJ,WK,WL,WM,WN,WO,WP,WQ,WR,WS,WT,WW,WX,Vc,Vf,Vg,Vh,Vs,Vu,Vv,Vw,VM,VN,VO,VP,VQ,VR,VV,VW,VY,VZ,Ub,Uc,Ud,Ue,Uf,Ug,Um,Us,Uw,Ux,U1,U2,U3,U4,U5,Ta,Tb,Td,Tn,Tp,Tr,Tt,Tu,Tx,T0,T1,T2,T6,Sg,Sy,Sz,S7,a1,a2,hk,e]; all_goals tactic => exact rfl))
theorem left22a (hn : l.ks.length ≤ 6) {i : Nat} (hi : i < l.ks.length) (he : chkD (l.ks.getD i []) ≠ 0) :
    ∃ e h,execW progX 22 0 none (match x22l0 with | .loop _ a => a | c => c) (envL [1,14,15,16] [.pt 0 0,kR l.ks,I l.ks.length,I (i : Nat)]) (hL l) = some (.ret,e,h) ∧ retX [(2,none)] false 0 (some (.ret,e,h)) = some (I (chkD (l.ks.getD i [])),[]) := by
  obtain ⟨k,hk⟩ := at_ix hi
  rw [getD_of hk] at he ⊢
  have a1 := lt_ix hi
  have e := w57 k
  generalize chkD k = v at *
  have g := eq_false he
  refine ret_of ?_ ?_
  all_goals unfold x22l0
  all_goals dsimp only
  all_goals (sym => (simp [Za,Zb,Zf,Zg,Zh,Zj,Zl,Zm,Zt,Z1,Z7,ZD,ZL,ZM,ZQ,ZR,Ye,Yf,Yp,Yq,Yu,Yv,YQ,YV,Xo,Xs,X0,XL,Wc,Wg,W8,WA,WI,WL,WM,WN,WO,WP,WQ,WS,WT,Vf,Vg,Vh,Vs,Vu,Vv,Vw,V6,V7,V9,VA,VB,VC,VD,VG,VH,VI,VJ,VM,VP,VQ,VT,VV,VW,VY,VZ,Ub,Uc,Ud,Ue,Uf,Ug,Un,Us,Ux,Uy,U1,U2,U3,U4,U5,Ta,Tb,Td,Tn,Tp,Tq,Tr,Tt,Tu,Tw,Ty,T1,T2,Sg,Sy,Sz,S7,a1,hk,e,g]; all_goals tactic => exact rfl))
theorem round22b (hn : l.ls.length ≤ 10) (hk : l.ks.length ≤ 6) {i : Nat} (hi : i < l.ls.length) (he : ldEr l i = 0) :
    headX 0 [1,31,32,33] (execW progX 22 0 none (match x22l1 with | .loop _ a => a | c => c) (envL [1,31,32,33] [.pt 0 0,lR l.ls,I l.ls.length,I (i : Nat)]) (hL l)) = some ([.pt 0 0,lR l.ls,I l.ls.length,I (i + 1 : Nat)],hL l) := by
  obtain ⟨x,hx⟩ := at_ix hi
  unfold ldEr at he
  rw [getD_of hx] at he
  have a1 := lt_ix hi
  have a2 := up_ix hi (by omega)
  have a3 : IntKind.i64.wrap ((l.ks.length : Int) - 1) = (l.ks.length : Int) - 1 := wrap_ok (by omega) (by omega)
  rcases ldE_of l.ks.length x with ⟨h1,h2,h3,h4⟩ | ⟨_,_,_,h4⟩ | ⟨_,_,h4⟩ | ⟨_,h4⟩
  · unfold x22l1
    dsimp only
    (sym => (simp [Za,Zb,Zc,Zf,Zg,Zh,Zj,Zl,Zm,Zo,Zq,Zt,Zu,Zw,Z1,Z2,Z5,Z7,ZB,ZD,ZH,ZI,ZL,ZM,ZQ,ZR,ZT,ZU,ZX,ZZ,Ye,Yf,Yh,Yi,Yq,Yu,Yv,YQ,YT,YV,YY,Xe,Xo,Xp,Xq,Xs,Xu,Wo,Wz,W0,W3,W4,W5,W6,W7,W8,WA,WB,WF,WG,WI,WJ,WK,WL,WM,WN,WO,WP,WQ,WR,WS,WT,WW,WX,Vc,Vf,Vg,Vh,Vs,Vu,Vv,Vx,Vy,V0,VM,VN,VO,VP,VQ,VR,VV,VW,VX,VY,VZ,Ub,Uc,Ud,Ue,Uf,Ug,Uj,Um,Us,Uw,Ux,U1,U2,U3,U4,U5,U6,U7,UE,UY,UZ,Ta,Tb,Tc,Td,Te,Tf,Tn,Tp,Tr,Tt,Tu,Tx,T0,T1,T2,T6,Sy,Sz,S6,a1,a2,a3,hx,w58,w59,h1,h2,h3]; all_goals tactic => exact rfl))
  all_goals (rw [h4] at he; simp at he)
theorem left22b (hn : l.ls.length ≤ 10) (hk : l.ks.length ≤ 6) {i : Nat} (hi : i < l.ls.length) (he : ldEr l i ≠ 0) :
    ∃ e h,execW progX 22 0 none (match x22l1 with | .loop _ a => a | c => c) (envL [1,31,32,33] [.pt 0 0,lR l.ls,I l.ls.length,I (i : Nat)]) (hL l) = some (.ret,e,h) ∧ retX [(2,none)] false 0 (some (.ret,e,h)) = some (I (ldEr l i),[]) := by
  obtain ⟨x,hx⟩ := at_ix hi
  unfold ldEr at he ⊢
  rw [getD_of hx] at he ⊢
  have a1 := lt_ix hi
  have a3 : IntKind.i64.wrap ((l.ks.length : Int) - 1) = (l.ks.length : Int) - 1 := wrap_ok (by omega) (by omega)
  have h1 := pad
  have h2 := pad
  have h3 := pad
  refine ret_of ?_ ?_
  all_goals unfold x22l1
  all_goals dsimp only
  all_goals rcases ldE_of l.ks.length x with ⟨h1,h2,h3,h4⟩ | ⟨h1,h2,h3,h4⟩ | ⟨h1,h2,h4⟩ | ⟨h1,h4⟩
  all_goals first | exact absurd h4 he | skip
  all_goals try rw [h4]
  all_goals (sym => (simp [Za,Zb,Zc,Zf,Zg,Zh,Zj,Zl,Zm,Zo,Zq,Zs,Zt,Zu,Zw,Z1,Z2,Z5,Z7,ZB,ZD,ZH,ZI,ZL,ZM,ZQ,ZR,ZS,ZT,ZU,ZX,ZZ,Ye,Yf,Yi,Yq,Yu,Yv,YQ,YT,Xe,Xo,Xp,Xq,X0,Wc,Wo,Wz,W0,W3,W4,W5,W6,W7,W8,WA,WI,WL,WM,WN,WO,WP,WQ,WS,WT,Vf,Vg,Vh,Vs,Vu,Vv,Vx,Vy,V0,V6,V7,V9,VA,VB,VC,VD,VG,VH,VI,VJ,VM,VP,VQ,VR,VT,VV,VW,VX,VY,VZ,Ub,Uc,Ud,Ue,Uf,Ug,Uj,Um,Un,Us,Ux,U1,U2,U3,U4,U5,U6,U7,UE,UY,UZ,Ta,Tb,Tc,Td,Te,Tf,Tn,Tp,Tq,Tr,Tt,Tu,Tw,Ty,T1,T2,Sg,Sy,Sz,S6,a1,a3,hx,w58,w59,h1,h2,h3]; all_goals tactic => exact rfl))
end
theorem w22 (l : Li) (hf : l.Fit) : runW progX 22 [.agg l.c] [] = some (I (checkL l),[]) := by
  rw [r22 (by simp)]; unfold x22; dsimp only
  unfold checkL kindsE
  by_cases h6 : 6 < l.ks.length
  · have g6 : ((6 : Int) < (l.ks.length : Int)) = True := eq_true (by omega)
    simp only [if_pos h6]
    rw [if_neg (show ¬ (1 : Int) = 0 by decide)]
    (sym => (simp [Za,Zb,Zf,Zg,Zh,Zj,Zl,Zm,Zn,Zt,Zx,Z1,Z2,Z5,ZB,ZD,ZL,ZM,ZQ,ZR,ZU,ZX,ZZ,Yp,Yq,Ys,Y3,YQ,YT,YV,YY,Xe,Xf,Xg,Xo,Xp,Xq,Xs,Xu,X0,Wc,We,Wg,Wo,Wz,W0,W3,W5,W6,W7,W8,W9,WA,WB,WF,WG,WI,WJ,WK,WL,WM,WN,WO,WP,WQ,WR,WS,WT,WW,WX,Vc,Vf,Vg,Vh,Vs,Vu,Vv,Vx,Vy,V0,V6,V7,V9,VA,VB,VC,VD,VG,VH,VI,VJ,VL,VM,VN,VO,VP,VQ,VR,VS,VU,VV,VW,VY,VZ,Ub,Uc,Ud,Ue,Ug,Uj,Um,Un,Uw,Ux,Uy,U1,U2,U3,U4,U5,U6,U7,UC,UD,UK,UL,UX,UY,UZ,Tc,Td,Ti,Tn,Tp,Tq,Tr,Ts,Tt,Tu,Tv,Tw,Tz,T0,T1,T2,T6,Sg,Sy,Sz,S6,g6]; all_goals tactic => exact rfl))
  simp only [if_neg h6]
  have g6 : ((6 : Int) < (l.ks.length : Int)) = False := eq_false (by omega)
  have z := UX (n := (l.ks.length : Int))
  have z2 := UX (n := (l.ls.length : Int))
  obtain ⟨m,m1,m2,m3⟩ := firstN_ix (fun t => chkD (l.ks.getD t [])) l.ks.length
  rcases m3 with ⟨rfl,e⟩ | ⟨m3,m4,e⟩
  · rw [e, if_pos rfl]
    sym =>
      simp [Za,Zb,Zf,Zg,Zh,Zj,Zl,Zm,Zn,Zt,Zx,Z1,Z2,Z5,ZB,ZD,ZL,ZM,ZQ,ZR,ZU,ZX,ZZ,Yp,Yq,Ys,Y3,YQ,YT,YV,YY,Xe,Xf,Xg,Xo,Xp,Xq,Xs,Xu,X0,Wc,We,Wg,Wo,Wz,W0,W3,W5,W6,W7,W8,W9,WA,WB,WF,WG,WI,WJ,WK,WL,WM,WN,WO,WP,WQ,WR,WS,WT,WW,WX,Vc,Vf,Vg,Vh,Vs,Vu,Vv,Vx,Vy,V0,V6,V7,V9,VA,VB,VC,VD,VG,VH,VI,VJ,VL,VM,VN,VO,VP,VQ,VR,VS,VU,VV,VW,VY,VZ,Ub,Uc,Ud,Ue,Ug,Uj,Um,Un,Uw,Ux,Uy,U1,U2,U3,U4,U5,U6,U7,UC,UD,UK,UL,UX,UY,UZ,Tc,Td,Ti,Tn,Tp,Tq,Tr,Ts,Tt,Tu,Tv,Tw,Tz,T0,T1,T2,T6,Sg,Sy,Sz,S6,g6]
      tactic =>
        unfold x22l0
        rw [loop_rule l.ks.length (fun i => [.pt 0 0,kR l.ks,I l.ks.length,I (i : Nat)]) (fun _ => hL l)]
        · by_cases h10 : 10 < l.ls.length
          · rw [if_pos h10]
            have h10 : ((10 : Int) < (l.ls.length : Int)) = True := eq_true (by omega)
            (sym => (simp [Za,Zb,Zf,Zg,Zh,Zj,Zl,Zm,Zn,Zt,Zx,Z1,Z2,Z5,ZB,ZD,ZL,ZM,ZQ,ZR,ZU,ZX,ZZ,Yp,Yq,Ys,Y3,YQ,YT,YV,YY,Xe,Xf,Xg,Xo,Xp,Xq,Xs,Xu,X0,Wc,We,Wg,Wo,Wz,W0,W3,W5,W6,W7,W8,W9,WA,WB,WF,WG,WI,WJ,WK,WL,WM,WN,WO,WP,WQ,WR,WS,WT,WW,WX,Vc,Vf,Vg,Vh,Vs,Vu,Vv,Vx,Vy,V0,V6,V7,V9,VA,VB,VC,VD,VG,VH,VI,VJ,VL,VM,VN,VO,VP,VQ,VR,VS,VU,VV,VW,VY,VZ,Ub,Uc,Ud,Ue,Ug,Uj,Um,Un,Uw,Ux,Uy,U1,U2,U3,U4,U5,U6,U7,UC,UD,UK,UL,UX,UY,UZ,Tc,Td,Ti,Tn,Tp,Tq,Tr,Ts,Tt,Tu,Tv,Tw,Tz,T0,T1,T2,T6,Sg,Sy,Sz,S6,z,h10]; all_goals tactic => exact rfl))
          rw [if_neg h10]
          have g10 : ((10 : Int) < (l.ls.length : Int)) = False := eq_false (by omega)
          obtain ⟨q,q1,q2,q3⟩ := firstN_ix (ldEr l) l.ls.length
          sym =>
            simp [Za,Zb,Zf,Zg,Zh,Zj,Zl,Zm,Zn,Zt,Zx,Z1,Z2,Z5,ZB,ZD,ZL,ZM,ZQ,ZR,ZU,ZX,ZZ,Yp,Yq,Ys,Y3,YQ,YT,YV,YY,Xe,Xf,Xg,Xo,Xp,Xq,Xs,Xu,X0,Wc,We,Wg,Wo,Wz,W0,W3,W5,W6,W7,W8,W9,WA,WB,WF,WG,WI,WJ,WK,WL,WM,WN,WO,WP,WQ,WR,WS,WT,WW,WX,Vc,Vf,Vg,Vh,Vs,Vu,Vv,Vx,Vy,V0,V6,V7,V9,VA,VB,VC,VD,VG,VH,VI,VJ,VL,VM,VN,VO,VP,VQ,VR,VS,VU,VV,VW,VY,VZ,Ub,Uc,Ud,Ue,Ug,Uj,Um,Un,Uw,Ux,Uy,U1,U2,U3,U4,U5,U6,U7,UC,UD,UK,UL,UX,UY,UZ,Tc,Td,Ti,Tn,Tp,Tq,Tr,Ts,Tt,Tu,Tv,Tw,Tz,T0,T1,T2,T6,Sg,Sy,Sz,S6,z,g10]
            tactic =>
              unfold x22l1
              rw [loop_rule q (fun i => [.pt 0 0,lR l.ls,I l.ls.length,I (i : Nat)]) (fun _ => hL l)]
              · rcases q3 with ⟨rfl,eq⟩ | ⟨q3,q4,eq⟩
                · rw [eq,if_pos rfl]
                  have e60 := w60 l (by omega) hf.ts hf.each
                  by_cases ht : tracksE l.ls.length l.ts = 0
                  · rw [if_pos ht]
                    rw [ht] at e60
                    cases hs : inS l.lo l.hi 0 100000
                    · (sym => (simp [Za,Zb,Zf,Zg,Zh,Zj,Zl,Zm,Zn,Zt,Zx,Z1,Z2,Z5,ZB,ZD,ZL,ZM,ZQ,ZR,ZU,ZX,ZZ,Yp,Yq,Ys,Y3,YQ,YT,YV,YY,Xe,Xf,Xg,Xo,Xp,Xq,Xs,Xu,X0,Wc,We,Wg,Wo,Wz,W0,W3,W5,W6,W7,W8,W9,WA,WB,WF,WG,WI,WJ,WK,WL,WM,WN,WO,WP,WQ,WR,WS,WT,WW,WX,Vc,Vf,Vg,Vh,Vs,Vu,Vv,Vx,Vy,V0,V6,V7,V9,VA,VB,VC,VD,VG,VH,VI,VJ,VL,VM,VN,VO,VP,VQ,VR,VS,VU,VV,VW,VY,VZ,Ub,Uc,Ud,Ue,Ug,Uj,Um,Un,Uw,Ux,Uy,U1,U2,U3,U4,U5,U6,U7,UC,UD,UK,UL,UX,UY,UZ,Tc,Td,Ti,Tn,Tp,Tq,Tr,Ts,Tt,Tu,Tv,Tw,Tz,T0,T1,T2,T6,Sg,Sy,Sz,S6,z2,e60,w59,hs]; all_goals tactic => exact rfl))
                    · (sym => (simp [Za,Zb,Zf,Zg,Zh,Zj,Zl,Zm,Zn,Zt,Zx,Z1,Z2,Z5,ZB,ZD,ZL,ZM,ZQ,ZR,ZU,ZX,ZZ,Yp,Yq,Ys,Y3,YQ,YT,YV,YY,Xe,Xf,Xg,Xo,Xp,Xq,Xs,Xu,X0,Wc,We,Wg,Wo,Wz,W0,W3,W5,W6,W7,W8,W9,WA,WB,WF,WG,WI,WJ,WK,WL,WM,WN,WO,WP,WQ,WR,WS,WT,WW,WX,Vc,Vf,Vg,Vh,Vs,Vu,Vv,Vx,Vy,V0,V6,V7,V9,VA,VB,VC,VD,VG,VH,VI,VJ,VL,VM,VN,VO,VP,VQ,VR,VS,VU,VV,VW,VY,VZ,Ub,Uc,Ud,Ue,Ug,Uj,Um,Un,Uw,Ux,Uy,U1,U2,U3,U4,U5,U6,U7,UC,UD,UK,UL,UX,UY,UZ,Tc,Td,Ti,Tn,Tp,Tq,Tr,Ts,Tt,Tu,Tv,Tw,Tz,T0,T1,T2,T6,Sg,Sy,Sz,S6,z2,e60,w59,hs]; all_goals tactic => exact rfl))
                  · rw [if_neg ht]
                    have gt := eq_false ht
                    (sym => (simp [Za,Zb,Zf,Zg,Zh,Zj,Zl,Zm,Zn,Zt,Zx,Z1,Z2,Z5,ZB,ZD,ZL,ZM,ZQ,ZR,ZU,ZX,ZZ,Yp,Yq,Ys,Y3,YQ,YT,YV,YY,Xe,Xf,Xg,Xo,Xp,Xq,Xs,Xu,X0,Wc,We,Wg,Wo,Wz,W0,W3,W5,W6,W7,W8,W9,WA,WB,WF,WG,WI,WJ,WK,WL,WM,WN,WO,WP,WQ,WR,WS,WT,WW,WX,Vc,Vf,Vg,Vh,Vs,Vu,Vv,Vx,Vy,V0,V6,V7,V9,VA,VB,VC,VD,VG,VH,VI,VJ,VL,VM,VN,VO,VP,VQ,VR,VS,VU,VV,VW,VY,VZ,Ub,Uc,Ud,Ue,Ug,Uj,Um,Un,Uw,Ux,Uy,U1,U2,U3,U4,U5,U6,U7,UC,UD,UK,UL,UX,UY,UZ,Tc,Td,Ti,Tn,Tp,Tq,Tr,Ts,Tt,Tu,Tv,Tw,Tz,T0,T1,T2,T6,Sg,Sy,Sz,S6,z2,e60,gt]; all_goals tactic => exact rfl))
                · rw [eq,if_neg q4]
                  obtain ⟨eo,ho,p1,p2⟩ := left22b (by omega) (by omega) q3 q4
                  unfold x22l1 at p1
                  dsimp only at p1
                  rw [p1]
                  exact p2
              · (sym => (simp [Za,Zb,Zf,Zg,Zh,Zj,Zl,Zm,Zn,Zt,Zx,Z1,Z2,Z5,ZB,ZD,ZL,ZM,ZQ,ZR,ZU,ZX,ZZ,Yp,Yq,Ys,Y3,YQ,YT,YV,YY,Xe,Xf,Xg,Xo,Xp,Xq,Xs,Xu,X0,Wc,We,Wg,Wo,Wz,W0,W3,W5,W6,W7,W8,W9,WA,WB,WF,WG,WI,WJ,WK,WL,WM,WN,WO,WP,WQ,WR,WS,WT,WW,WX,Vc,Vf,Vg,Vh,Vs,Vu,Vv,Vx,Vy,V0,V6,V7,V9,VA,VB,VC,VD,VG,VH,VI,VJ,VL,VM,VN,VO,VP,VQ,VR,VS,VU,VV,VW,VY,VZ,Ub,Uc,Ud,Ue,Ug,Uj,Um,Un,Uw,Ux,Uy,U1,U2,U3,U4,U5,U6,U7,UC,UD,UK,UL,UX,UY,UZ,Tc,Td,Ti,Tn,Tp,Tq,Tr,Ts,Tt,Tu,Tv,Tw,Tz,T0,T1,T2,T6,Sg,Sy,Sz,S6]; all_goals tactic => exact rfl))
              · intro i hi
                exact round22b (by omega) (by omega) (by omega) (q2 i hi)
              · rcases q3 with ⟨rfl,eq⟩ | ⟨q3,q4,eq⟩
                · (sym => (simp [Za,Zb,Zf,Zg,Zh,Zj,Zl,Zm,Zn,Zt,Zx,Z1,Z2,Z5,ZB,ZD,ZL,ZM,ZQ,ZR,ZU,ZX,ZZ,Yp,Yq,Ys,Y3,YQ,YT,YV,YY,Xe,Xf,Xg,Xo,Xp,Xq,Xs,Xu,X0,Wc,We,Wg,Wo,Wz,W0,W3,W5,W6,W7,W8,W9,WA,WB,WF,WG,WI,WJ,WK,WL,WM,WN,WO,WP,WQ,WR,WS,WT,WW,WX,Vc,Vf,Vg,Vh,Vs,Vu,Vv,Vx,Vy,V0,V6,V7,V9,VA,VB,VC,VD,VG,VH,VI,VJ,VL,VM,VN,VO,VP,VQ,VR,VS,VU,VV,VW,VY,VZ,Ub,Uc,Ud,Ue,Ug,Uj,Um,Un,Uw,Ux,Uy,U1,U2,U3,U4,U5,U6,U7,UC,UD,UK,UL,UX,UY,UZ,Tc,Td,Ti,Tn,Tp,Tq,Tr,Ts,Tt,Tu,Tv,Tw,Tz,T0,T1,T2,T6,Sg,Sy,Sz,S6,z2]; all_goals tactic => exact rfl))
                · obtain ⟨eo,ho,p1,p2⟩ := left22b (by omega) (by omega) q3 q4
                  unfold x22l1 at p1
                  dsimp only at p1
                  rw [p1]
                  rfl
        · (sym => (simp [Za,Zb,Zf,Zg,Zh,Zj,Zl,Zm,Zn,Zt,Zx,Z1,Z2,Z5,ZB,ZD,ZL,ZM,ZQ,ZR,ZU,ZX,ZZ,Yp,Yq,Ys,Y3,YQ,YT,YV,YY,Xe,Xf,Xg,Xo,Xp,Xq,Xs,Xu,X0,Wc,We,Wg,Wo,Wz,W0,W3,W5,W6,W7,W8,W9,WA,WB,WF,WG,WI,WJ,WK,WL,WM,WN,WO,WP,WQ,WR,WS,WT,WW,WX,Vc,Vf,Vg,Vh,Vs,Vu,Vv,Vx,Vy,V0,V6,V7,V9,VA,VB,VC,VD,VG,VH,VI,VJ,VL,VM,VN,VO,VP,VQ,VR,VS,VU,VV,VW,VY,VZ,Ub,Uc,Ud,Ue,Ug,Uj,Um,Un,Uw,Ux,Uy,U1,U2,U3,U4,U5,U6,U7,UC,UD,UK,UL,UX,UY,UZ,Tc,Td,Ti,Tn,Tp,Tq,Tr,Ts,Tt,Tu,Tv,Tw,Tz,T0,T1,T2,T6,Sg,Sy,Sz,S6]; all_goals tactic => exact rfl))
        · intro i hi
          exact round22a (by omega) hi (m2 i hi)
        · (sym => (simp [Za,Zb,Zf,Zg,Zh,Zj,Zl,Zm,Zn,Zt,Zx,Z1,Z2,Z5,ZB,ZD,ZL,ZM,ZQ,ZR,ZU,ZX,ZZ,Yp,Yq,Ys,Y3,YQ,YT,YV,YY,Xe,Xf,Xg,Xo,Xp,Xq,Xs,Xu,X0,Wc,We,Wg,Wo,Wz,W0,W3,W5,W6,W7,W8,W9,WA,WB,WF,WG,WI,WJ,WK,WL,WM,WN,WO,WP,WQ,WR,WS,WT,WW,WX,Vc,Vf,Vg,Vh,Vs,Vu,Vv,Vx,Vy,V0,V6,V7,V9,VA,VB,VC,VD,VG,VH,VI,VJ,VL,VM,VN,VO,VP,VQ,VR,VS,VU,VV,VW,VY,VZ,Ub,Uc,Ud,Ue,Ug,Uj,Um,Un,Uw,Ux,Uy,U1,U2,U3,U4,U5,U6,U7,UC,UD,UK,UL,UX,UY,UZ,Tc,Td,Ti,Tn,Tp,Tq,Tr,Ts,Tt,Tu,Tv,Tw,Tz,T0,T1,T2,T6,Sg,Sy,Sz,S6,z]; all_goals tactic => exact rfl))
  · rw [e,if_neg m4]
    obtain ⟨eo,ho,p1,p2⟩ := left22a (by omega) m3 m4
    sym =>
      simp [Za,Zb,Zf,Zg,Zh,Zj,Zl,Zm,Zn,Zt,Zx,Z1,Z2,Z5,ZB,ZD,ZL,ZM,ZQ,ZR,ZU,ZX,ZZ,Yp,Yq,Ys,Y3,YQ,YT,YV,YY,Xe,Xf,Xg,Xo,Xp,Xq,Xs,Xu,X0,Wc,We,Wg,Wo,Wz,W0,W3,W5,W6,W7,W8,W9,WA,WB,WF,WG,WI,WJ,WK,WL,WM,WN,WO,WP,WQ,WR,WS,WT,WW,WX,Vc,Vf,Vg,Vh,Vs,Vu,Vv,Vx,Vy,V0,V6,V7,V9,VA,VB,VC,VD,VG,VH,VI,VJ,VL,VM,VN,VO,VP,VQ,VR,VS,VU,VV,VW,VY,VZ,Ub,Uc,Ud,Ue,Ug,Uj,Um,Un,Uw,Ux,Uy,U1,U2,U3,U4,U5,U6,U7,UC,UD,UK,UL,UX,UY,UZ,Tc,Td,Ti,Tn,Tp,Tq,Tr,Ts,Tt,Tu,Tv,Tw,Tz,T0,T1,T2,T6,Sg,Sy,Sz,S6,g6]
      tactic =>
        unfold x22l0 at p1 ⊢
        dsimp only at p1
        rw [loop_rule m (fun i => [.pt 0 0,kR l.ks,I l.ks.length,I (i : Nat)]) (fun _ => hL l)]
        · rw [p1]
          exact p2
        · (sym => (simp [Za,Zb,Zf,Zg,Zh,Zj,Zl,Zm,Zn,Zt,Zx,Z1,Z2,Z5,ZB,ZD,ZL,ZM,ZQ,ZR,ZU,ZX,ZZ,Yp,Yq,Ys,Y3,YQ,YT,YV,YY,Xe,Xf,Xg,Xo,Xp,Xq,Xs,Xu,X0,Wc,We,Wg,Wo,Wz,W0,W3,W5,W6,W7,W8,W9,WA,WB,WF,WG,WI,WJ,WK,WL,WM,WN,WO,WP,WQ,WR,WS,WT,WW,WX,Vc,Vf,Vg,Vh,Vs,Vu,Vv,Vx,Vy,V0,V6,V7,V9,VA,VB,VC,VD,VG,VH,VI,VJ,VL,VM,VN,VO,VP,VQ,VR,VS,VU,VV,VW,VY,VZ,Ub,Uc,Ud,Ue,Ug,Uj,Um,Un,Uw,Ux,Uy,U1,U2,U3,U4,U5,U6,U7,UC,UD,UK,UL,UX,UY,UZ,Tc,Td,Ti,Tn,Tp,Tq,Tr,Ts,Tt,Tu,Tv,Tw,Tz,T0,T1,T2,T6,Sg,Sy,Sz,S6]; all_goals tactic => exact rfl))
        · intro i hi
          exact round22a (by omega) (by omega) (m2 i hi)
        · rw [p1]
          rfl
section
variable {l : Li}
end
end Go.Proofs.YtpbeclkpohehgaaDoor
namespace Go.Proofs.YtpbeclkpohehgaaDoor
open Go Go.DL
set_option maxRecDepth 100000
set_option maxHeartbeats 2000000

def bT (t : List Int) (b : Nat → Nat) : Nat → Nat → Nat
  | 0 => b
  | i + 1 => fun x => if x = (t.getD i 0).toNat then allT t 0 i else bT t b i x
def bA (T : List (List Int)) : Nat → Nat → Nat
  | 0 => fun _ => 0
  | j + 1 => bT (T.getD j []) (bA T j) (T.getD j []).length
def behF (T : List (List Int)) : Nat → Nat := bA T T.length

def yC (l : Li) (b : Nat → Nat) (m : Nat) : List AV := [kR l.ks,lR l.ls,tR l.ts,I l.lo,I l.hi,U (b 0),U (b 1),U (b 2),U (b 3),U (b 4),U (b 5),U (b 6),U (b 7),U (b 8),U (b 9),.mp m]
def yM (l : Li) (b : Nat → Nat) : Option Nat → List AV
  | some c => yC l b c
  | none => [kR l.ks,lR l.ls,tR l.ts,I l.lo,I l.hi,U (b 0),U (b 1),U (b 2),U (b 3),U (b 4),U (b 5),U (b 6),U (b 7),U (b 8),U (b 9),.any]
section
variable {l : Li} {b : Nat → Nat} {m : Nat}
theorem yC_nm : nmL (yC l b m) = [m] := rfl
theorem yC_rn {s : Nat → Option Nat} : rnL s (yC l b m) = yM l b (s m) := by
  unfold yC yM
  simp only [rnL,rnA]
  cases s m <;> rfl
theorem yM_s {c : Nat} : yM l b (some c) = yC l b c := rfl
theorem yC_gr : grL (yC l b m) = false := rfl
theorem yC_sl : slL (yC l b m) = [] := rfl
theorem yC_fz {c : Nat} {cs : List AV} : fzL c cs (yC l b m) = yC l b m := rfl
theorem yC_len : (yC l b m).length = 16 := rfl
theorem yC_0 : (yC l b m)[0]? = some (kR l.ks) := rfl
theorem yC_1 : (yC l b m)[1]? = some (lR l.ls) := rfl
theorem yC_2 : (yC l b m)[2]? = some (tR l.ts) := rfl
theorem yC_3 : (yC l b m)[3]? = some (I l.lo) := rfl
theorem yC_4 : (yC l b m)[4]? = some (I l.hi) := rfl
theorem yC_15 : (yC l b m)[15]? = some (.mp m) := rfl
theorem yC_b {k : Nat} (h : k < 10) : (yC l b m)[5 + k]? = some (U (b k)) := by
  match k,h with
  | 0,_ => rfl
  | 1,_ => rfl
  | 2,_ => rfl
  | 3,_ => rfl
  | 4,_ => rfl
  | 5,_ => rfl
  | 6,_ => rfl
  | 7,_ => rfl
  | 8,_ => rfl
  | 9,_ => rfl
theorem yC_set {k a : Nat} (h : k < 10) : splice (yC l b m) (5 + k) [U a] = yC l (fun x => if x = k then a else b x) m := by
  match k,h with
  | 0,_ => rfl
  | 1,_ => rfl
  | 2,_ => rfl
  | 3,_ => rfl
  | 4,_ => rfl
  | 5,_ => rfl
  | 6,_ => rfl
  | 7,_ => rfl
  | 8,_ => rfl
  | 9,_ => rfl
theorem same_rI : ∀ t : List Int,sameR (t.map fun v => [I v]) (t.map fun v => [I v]) = true := fun t => same_int fun r hr c hc => by
  simp only [List.mem_map] at hr
  obtain ⟨v,_,rfl⟩ := hr
  simp only [List.mem_singleton] at hc
  exact ⟨v,hc⟩
theorem same_rS : ∀ k : List St,sameR (k.map St.row) (k.map St.row) = true := fun t => same_int fun r hr c hc => by
  simp only [List.mem_map] at hr
  obtain ⟨v,_,rfl⟩ := hr
  simp only [List.mem_cons,List.not_mem_nil,or_false] at hc
  rcases hc with rfl | rfl <;> exact ⟨_,rfl⟩
theorem same_rL : ∀ k : List Ld,sameR (k.map Ld.row) (k.map Ld.row) = true := fun t => same_int fun r hr c hc => by
  simp only [List.mem_map] at hr
  obtain ⟨v,_,rfl⟩ := hr
  simp only [List.mem_cons,List.not_mem_nil,or_false] at hc
  rcases hc with rfl | rfl | rfl | rfl | rfl <;> exact ⟨_,rfl⟩
theorem same_tR : ∀ T : List (List Int),sameR (T.map fun t => [rI t]) (T.map fun t => [rI t]) = true
  | [] => rfl
  | t :: r => by
    rw [List.map_cons,sameR,same_tR r]
    simp [sameL,sameA,same_rI t]
theorem same_kR : ∀ T : List (List St),sameR (T.map fun t => [rS t]) (T.map fun t => [rS t]) = true
  | [] => rfl
  | t :: r => by
    rw [List.map_cons,sameR,same_kR r]
    simp [sameL,sameA,same_rS t]
theorem yC_same : sameL (yC l b m) (yC l b m) = true := by
  unfold yC
  simp [sameL,sameA,same_kR,same_rL,same_tR]
end

section
variable {l : Li} {b : Nat → Nat} {t : List Int} {j : Nat}
abbrev hY (l : Li) (b : Nat → Nat) (es : List (AV × AV)) : XH := [some (.blk false (.cells true (yC l b 1))),some (.blk true (.map true es))]
theorem round52 (hn : l.ls.length ≤ 10) {i : Nat} {v : Int} (hv : t[i]? = some v) (ht : t.length ≤ 9223372036854775807) {a : Nat} (ha : a < 2 ^ 10) (he : 0 ≤ v ∧ v < 10) :
    headX 0 [5,8,21,22,23,27,28,29] (execW progX 52 0 none (match x52l0 with | .loop _ a => a | c => c) (envL [5,8,21,22,23,27,28,29] [.pt 0 0,U a,tR l.ts,I l.ts.length,I (j : Nat),rI t,I t.length,I (i : Nat)]) (hY l b [])) =
      some ([.pt 0 0,U (a ||| 2 ^ v.toNat),tR l.ts,I l.ts.length,I (j : Nat),rI t,I t.length,I (i + 1 : Nat)],hY l (fun x => if x = v.toNat then a else b x) []) := by
  have a1 := lt_ix (lt_of hv)
  have a2 := up_ix (lt_of hv) ht
  have n0 : (v < 0) = False := eq_false (by omega)
  have c1 : (0 ≤ v) = True := eq_true (by omega)
  have c2 : (v < 10) = True := eq_true (by omega)
  have o1 := or_u ha (v := v) (by omega)
  have o2 := or_u1 ha (v := v) (by omega)
  have s1 := yC_set (l := l) (b := b) (m := 1) (k := v.toNat) (a := a) (by omega)
  have s2 : (5 + v.toNat + 1 ≤ 16) = True := eq_true (by omega)
  generalize a ||| 2 ^ v.toNat = a' at *
  unfold x52l0
  dsimp only
  (sym => (simp [yC_nm,yC_rn,yM_s,yC_gr,yC_sl,yC_fz,yC_len,yC_0,yC_1,yC_2,yC_3,yC_4,yC_15,yC_same,Za,Zb,Zc,Zf,Zh,Zl,Zm,Zt,Z0,Z1,Z5,Z6,Z7,ZD,ZH,ZI,ZX,Ye,Yf,Yh,Yl,Ym,Yq,Yu,Yv,YF,YP,YQ,YV,YY,Xe,Xo,Xs,Xu,Wn,Wz,W4,WA,WB,WC,WF,WG,WI,WJ,WK,WM,WO,WP,WQ,WR,WW,WX,WY,Vc,Vd,VM,VN,VO,VP,VQ,VV,VW,VX,VY,VZ,Ub,Uc,Ud,Ue,Uf,Ug,Uj,Us,Uw,Ux,U2,U3,U4,U5,U6,U7,Ta,Tb,Td,Te,Tf,Tn,Tp,Tr,Tt,Tu,Tx,T0,T1,T2,T4,T6,Sv,a1,a2,hv,n0,c1,c2,o1,o2,s1,s2]; all_goals tactic => exact rfl))
end
structure Good (l : Li) : Prop where
  kinds : kindsE l.ks = 0
  few : l.ls.length ≤ 10
  loads : ∀ i,i < l.ls.length → ldEr l i = 0
  tracks : ∀ j,j < l.ts.length → errT l.ls.length (l.ts.getD j []) (accT l.ts j) = 0
  full : pop (accT l.ts l.ts.length) l.ls.length = l.ls.length
  start : inS l.lo l.hi 0 100000 = true
theorem good_of {l : Li} (h : checkL l = 0) : Good l := by
  unfold checkL at h
  by_cases h1 : kindsE l.ks = 0
  · rw [if_pos h1] at h
    by_cases h2 : 10 < l.ls.length
    · rw [if_pos h2] at h; simp at h
    rw [if_neg h2] at h
    by_cases h3 : firstN (ldEr l) l.ls.length = 0
    · rw [if_pos h3] at h
      by_cases h4 : tracksE l.ls.length l.ts = 0
      · rw [if_pos h4] at h
        cases h5 : inS l.lo l.hi 0 100000 with
        | false => rw [h5] at h; simp at h
        | true =>
          unfold tracksE at h4
          by_cases h6 : firstN (fun j => errT l.ls.length (l.ts.getD j []) (accT l.ts j)) l.ts.length = 0
          · rw [if_pos h6] at h4
            have hp := pop_le (accT l.ts l.ts.length) l.ls.length
            refine ⟨h1,by omega,firstN_0 h3,fun j hj => firstN_0 h6 j hj,?_,h5⟩
            by_cases h7 : pop (accT l.ts l.ts.length) l.ls.length < l.ls.length
            · rw [if_pos h7] at h4; simp at h4
            · omega
          · rw [if_neg h6] at h4
            exact absurd h4 h6
      · rw [if_neg h4] at h
        exact absurd h h4
    · rw [if_neg h3] at h
      exact absurd h h3
  · rw [if_neg h1] at h
    exact absurd h h1
theorem allT_of0 {t : List Int} {n a : Nat} (hn : n ≤ 10) (h : ∀ i,i < t.length → 0 ≤ t.getD i 0 ∧ t.getD i 0 < n) (ha : a < 2 ^ 10) : ∀ m,m ≤ t.length → allT t a m < 2 ^ 10
  | 0,_ => ha
  | m + 1,hm => by
    have := h m (by omega)
    rw [allT]
    exact or_lt (allT_of0 hn h ha m (by omega)) (by omega)
theorem Good.el {l : Li} (g : Good l) {j : Nat} {t : List Int} (ht : l.ts[j]? = some t) {i : Nat} (hi : i < t.length) : 0 ≤ t.getD i 0 ∧ t.getD i 0 < l.ls.length := by
  have h := g.tracks j (lt_of ht)
  rw [getD_of ht] at h
  have h := (errT_0 h).2 i hi
  rcases elE_of (n := l.ls.length) (all := allT t (accT l.ts j) i) (t.getD i 0) with ⟨_,h1,_⟩ | ⟨_,_,_,h4⟩ | ⟨_,h4⟩
  · exact h1
  · rw [h] at h4; simp at h4
  · rw [h] at h4; simp at h4
def w52R (l : Li) : Option (AV × XH) := if checkL l = 0 then some (.tup [.pt 0 0,I 0],hY l (behF l.ts) []) else some (.tup [.nilpt,I (checkL l)],[])
theorem w52 (l : Li) (hf : l.Fit) : runW progX 52 [.agg l.c] [] = w52R l := by
  have e22 := w22 l hf
  unfold w52R
  by_cases h : checkL l = 0
  · rw [if_pos h]
    rw [h] at e22
    have g := good_of h
    have z := UX (n := (l.ts.length : Int))
    have y0 : yC l (fun _ => 0) 1 = [kR l.ks,lR l.ls,tR l.ts,I l.lo,I l.hi,U 0,U 0,U 0,U 0,U 0,U 0,U 0,U 0,U 0,U 0,.mp 1] := rfl
    have rd : ∀ j,j < l.ts.length → headX 0 [5,21,22,23] (execW progX 52 0 none (match x52l1 with | .loop _ a => a | c => c) (envL [5,21,22,23] [.pt 0 0,tR l.ts,I l.ts.length,I (j : Nat)]) (hY l (bA l.ts j) [])) = some ([.pt 0 0,tR l.ts,I l.ts.length,I (j + 1 : Nat)],hY l (bA l.ts (j + 1)) []) := by
      intro j hj
      obtain ⟨t,ht⟩ := at_ix hj
      have b1 := lt_ix hj
      have b2 := up_ix hj hf.ts
      have hth := hf.each t (List.mem_of_getElem? ht)
      have z := UX (n := (t.length : Int))
      have hel := fun i hi => g.el ht (i := i) hi
      have al0 : allT t 0 0 = 0 := rfl
      rw [bA,getD_of ht]
      generalize bA l.ts j = b
      have bt0 : bT t b 0 = b := rfl
      have rdi : ∀ i,i < t.length → headX 0 [5,8,21,22,23,27,28,29] (execW progX 52 0 none (match x52l0 with | .loop _ a => a | c => c) (envL [5,8,21,22,23,27,28,29] [.pt 0 0,U (allT t 0 i),tR l.ts,I l.ts.length,I (j : Nat),rI t,I t.length,I (i : Nat)]) (hY l (bT t b i) [])) = some ([.pt 0 0,U (allT t 0 (i + 1)),tR l.ts,I l.ts.length,I (j : Nat),rI t,I t.length,I (i + 1 : Nat)],hY l (bT t b (i + 1)) []) := by
        intro i hi
        obtain ⟨v,hv⟩ := at_ix hi
        have hv2 := hel i hi
        rw [bT,allT]
        rw [getD_of hv] at hv2 ⊢
        have := g.few
        exact round52 g.few hv hth (allT_of0 g.few hel (by omega) i (by omega)) (by omega)
      unfold x52l1
      dsimp only
      sym =>
        simp [yC_nm,yC_rn,yM_s,yC_gr,yC_sl,yC_fz,yC_len,yC_0,yC_1,yC_2,yC_3,yC_4,yC_15,yC_same,Za,Zb,Zd,Ze,Zf,Zg,Zh,Zj,Zl,Zm,Zn,Zt,Zx,Zy,Z1,Z5,Z7,Z8,ZB,ZD,ZL,ZM,ZQ,ZR,ZX,ZZ,Ye,Yf,Yh,Yp,Yq,Yu,Yv,Y3,YO,YQ,YT,YU,YV,YY,YZ,Xb,Xe,Xf,Xg,Xj,Xo,Xq,Xr,Xs,Xu,Xv,Xx,X0,XK,XN,XP,Wc,We,Wf,Wg,Wi,Wk,Wo,Ws,Wz,W0,W3,W5,W6,W7,W8,W9,WA,WB,WC,WF,WG,WI,WJ,WK,WL,WM,WN,WO,WP,WQ,WR,WS,WT,WW,WX,WY,Vc,Vd,Vf,Vg,Vh,Vs,Vu,Vv,Vx,Vy,V0,V6,V7,V9,VA,VB,VC,VF,VG,VH,VI,VJ,VL,VM,VN,VO,VP,VQ,VR,VS,VU,VV,VW,VX,VY,VZ,Ub,Uc,Ud,Ue,Uf,Ug,Uj,Ul,Um,Un,Us,Uw,Ux,Uy,U1,U2,U3,U4,U5,U6,U7,U8,U9,UC,UD,UE,UF,UG,UH,UK,UL,UQ,UX,UY,UZ,Ta,Tb,Tc,Td,Ti,Tn,Tp,Tq,Tr,Ts,Tt,Tu,Tv,Tw,Tx,Tz,T0,T1,T2,T6,Sg,Sy,Sz,S6,b1,ht]
        tactic =>
          unfold x52l0
          rw [loop_rule t.length (fun i => [.pt 0 0,U (allT t 0 i),tR l.ts,I l.ts.length,I (j : Nat),rI t,I t.length,I (i : Nat)]) (fun i => hY l (bT t b i) [])]
          · (sym => (simp [yC_nm,yC_rn,yM_s,yC_gr,yC_sl,yC_fz,yC_len,yC_0,yC_1,yC_2,yC_3,yC_4,yC_15,yC_same,Za,Zb,Zd,Ze,Zf,Zg,Zh,Zj,Zl,Zm,Zn,Zt,Zx,Zy,Z1,Z5,Z7,Z8,ZB,ZD,ZL,ZM,ZQ,ZR,ZX,ZZ,Ye,Yf,Yh,Yp,Yq,Yu,Yv,Y3,YO,YQ,YT,YU,YV,YY,YZ,Xb,Xe,Xf,Xg,Xj,Xo,Xq,Xr,Xs,Xu,Xv,Xx,X0,XK,XN,XP,Wc,We,Wf,Wg,Wi,Wk,Wo,Ws,Wz,W0,W3,W5,W6,W7,W8,W9,WA,WB,WC,WF,WG,WI,WJ,WK,WL,WM,WN,WO,WP,WQ,WR,WS,WT,WW,WX,WY,Vc,Vd,Vf,Vg,Vh,Vs,Vu,Vv,Vx,Vy,V0,V6,V7,V9,VA,VB,VC,VF,VG,VH,VI,VJ,VL,VM,VN,VO,VP,VQ,VR,VS,VU,VV,VW,VX,VY,VZ,Ub,Uc,Ud,Ue,Uf,Ug,Uj,Ul,Um,Un,Us,Uw,Ux,Uy,U1,U2,U3,U4,U5,U6,U7,U8,U9,UC,UD,UE,UF,UG,UH,UK,UL,UQ,UX,UY,UZ,Ta,Tb,Tc,Td,Ti,Tn,Tp,Tq,Tr,Ts,Tt,Tu,Tv,Tw,Tx,Tz,T0,T1,T2,T6,Sg,Sy,Sz,S6,b1,b2,z]; all_goals tactic => exact rfl))
          · (sym => (simp [yC_nm,yC_rn,yM_s,yC_gr,yC_sl,yC_fz,yC_len,yC_0,yC_1,yC_2,yC_3,yC_4,yC_15,yC_same,Za,Zb,Zd,Ze,Zf,Zg,Zh,Zj,Zl,Zm,Zn,Zt,Zx,Zy,Z1,Z5,Z7,Z8,ZB,ZD,ZL,ZM,ZQ,ZR,ZX,ZZ,Ye,Yf,Yh,Yp,Yq,Yu,Yv,Y3,YO,YQ,YT,YU,YV,YY,YZ,Xb,Xe,Xf,Xg,Xj,Xo,Xq,Xr,Xs,Xu,Xv,Xx,X0,XK,XN,XP,Wc,We,Wf,Wg,Wi,Wk,Wo,Ws,Wz,W0,W3,W5,W6,W7,W8,W9,WA,WB,WC,WF,WG,WI,WJ,WK,WL,WM,WN,WO,WP,WQ,WR,WS,WT,WW,WX,WY,Vc,Vd,Vf,Vg,Vh,Vs,Vu,Vv,Vx,Vy,V0,V6,V7,V9,VA,VB,VC,VF,VG,VH,VI,VJ,VL,VM,VN,VO,VP,VQ,VR,VS,VU,VV,VW,VX,VY,VZ,Ub,Uc,Ud,Ue,Uf,Ug,Uj,Ul,Um,Un,Us,Uw,Ux,Uy,U1,U2,U3,U4,U5,U6,U7,U8,U9,UC,UD,UE,UF,UG,UH,UK,UL,UQ,UX,UY,UZ,Ta,Tb,Tc,Td,Ti,Tn,Tp,Tq,Tr,Ts,Tt,Tu,Tv,Tw,Tx,Tz,T0,T1,T2,T6,Sg,Sy,Sz,S6,al0,bt0]; all_goals tactic => exact rfl))
          · exact rdi
          · (sym => (simp [yC_nm,yC_rn,yM_s,yC_gr,yC_sl,yC_fz,yC_len,yC_0,yC_1,yC_2,yC_3,yC_4,yC_15,yC_same,Za,Zb,Zd,Ze,Zf,Zg,Zh,Zj,Zl,Zm,Zn,Zt,Zx,Zy,Z1,Z5,Z7,Z8,ZB,ZD,ZL,ZM,ZQ,ZR,ZX,ZZ,Ye,Yf,Yh,Yp,Yq,Yu,Yv,Y3,YO,YQ,YT,YU,YV,YY,YZ,Xb,Xe,Xf,Xg,Xj,Xo,Xq,Xr,Xs,Xu,Xv,Xx,X0,XK,XN,XP,Wc,We,Wf,Wg,Wi,Wk,Wo,Ws,Wz,W0,W3,W5,W6,W7,W8,W9,WA,WB,WC,WF,WG,WI,WJ,WK,WL,WM,WN,WO,WP,WQ,WR,WS,WT,WW,WX,WY,Vc,Vd,Vf,Vg,Vh,Vs,Vu,Vv,Vx,Vy,V0,V6,V7,V9,VA,VB,VC,VF,VG,VH,VI,VJ,VL,VM,VN,VO,VP,VQ,VR,VS,VU,VV,VW,VX,VY,VZ,Ub,Uc,Ud,Ue,Uf,Ug,Uj,Ul,Um,Un,Us,Uw,Ux,Uy,U1,U2,U3,U4,U5,U6,U7,U8,U9,UC,UD,UE,UF,UG,UH,UK,UL,UQ,UX,UY,UZ,Ta,Tb,Tc,Td,Ti,Tn,Tp,Tq,Tr,Ts,Tt,Tu,Tv,Tw,Tx,Tz,T0,T1,T2,T6,Sg,Sy,Sz,S6,z]; all_goals tactic => exact rfl))
    rw [r52 (by simp)]; unfold x52; dsimp only
    sym =>
      simp [yC_nm,yC_rn,yM_s,yC_gr,yC_sl,yC_fz,yC_len,yC_0,yC_1,yC_2,yC_3,yC_4,yC_15,yC_same,Za,Zb,Zd,Ze,Zf,Zg,Zh,Zj,Zl,Zm,Zn,Zt,Zx,Zy,Z1,Z5,Z7,Z8,ZB,ZD,ZL,ZM,ZQ,ZR,ZX,ZZ,Ye,Yf,Yh,Yp,Yq,Yu,Yv,Y3,YO,YQ,YT,YU,YV,YY,YZ,Xb,Xe,Xf,Xg,Xj,Xo,Xq,Xr,Xs,Xu,Xv,Xx,X0,XK,XN,XP,Wc,We,Wf,Wg,Wi,Wk,Wo,Ws,Wz,W0,W3,W5,W6,W7,W8,W9,WA,WB,WC,WF,WG,WI,WJ,WK,WL,WM,WN,WO,WP,WQ,WR,WS,WT,WW,WX,WY,Vc,Vd,Vf,Vg,Vh,Vs,Vu,Vv,Vx,Vy,V0,V6,V7,V9,VA,VB,VC,VF,VG,VH,VI,VJ,VL,VM,VN,VO,VP,VQ,VR,VS,VU,VV,VW,VX,VY,VZ,Ub,Uc,Ud,Ue,Uf,Ug,Uj,Ul,Um,Un,Us,Uw,Ux,Uy,U1,U2,U3,U4,U5,U6,U7,U8,U9,UC,UD,UE,UF,UG,UH,UK,UL,UQ,UX,UY,UZ,Ta,Tb,Tc,Td,Ti,Tn,Tp,Tq,Tr,Ts,Tt,Tu,Tv,Tw,Tx,Tz,T0,T1,T2,T6,Sg,Sy,Sz,S6,e22]
      tactic =>
        unfold x52l1
        rw [loop_rule l.ts.length (fun j => [.pt 0 0,tR l.ts,I l.ts.length,I (j : Nat)]) (fun j => hY l (bA l.ts j) [])]
        · (sym => (simp [yC_nm,yC_rn,yM_s,yC_gr,yC_sl,yC_fz,yC_len,yC_0,yC_1,yC_2,yC_3,yC_4,yC_15,yC_same,Za,Zb,Zd,Ze,Zf,Zg,Zh,Zj,Zl,Zm,Zn,Zt,Zx,Zy,Z1,Z5,Z7,Z8,ZB,ZD,ZL,ZM,ZQ,ZR,ZX,ZZ,Ye,Yf,Yh,Yp,Yq,Yu,Yv,Y3,YO,YQ,YT,YU,YV,YY,YZ,Xb,Xe,Xf,Xg,Xj,Xo,Xq,Xr,Xs,Xu,Xv,Xx,X0,XK,XN,XP,Wc,We,Wf,Wg,Wi,Wk,Wo,Ws,Wz,W0,W3,W5,W6,W7,W8,W9,WA,WB,WC,WF,WG,WI,WJ,WK,WL,WM,WN,WO,WP,WQ,WR,WS,WT,WW,WX,WY,Vc,Vd,Vf,Vg,Vh,Vs,Vu,Vv,Vx,Vy,V0,V6,V7,V9,VA,VB,VC,VF,VG,VH,VI,VJ,VL,VM,VN,VO,VP,VQ,VR,VS,VU,VV,VW,VX,VY,VZ,Ub,Uc,Ud,Ue,Uf,Ug,Uj,Ul,Um,Un,Us,Uw,Ux,Uy,U1,U2,U3,U4,U5,U6,U7,U8,U9,UC,UD,UE,UF,UG,UH,UK,UL,UQ,UX,UY,UZ,Ta,Tb,Tc,Td,Ti,Tn,Tp,Tq,Tr,Ts,Tt,Tu,Tv,Tw,Tx,Tz,T0,T1,T2,T6,Sg,Sy,Sz,S6,z,behF.eq_1]; all_goals tactic => exact rfl))
        · (sym => (simp [yC_nm,yC_rn,yM_s,yC_gr,yC_sl,yC_fz,yC_len,yC_0,yC_1,yC_2,yC_3,yC_4,yC_15,yC_same,Za,Zb,Zd,Ze,Zf,Zg,Zh,Zj,Zl,Zm,Zn,Zt,Zx,Zy,Z1,Z5,Z7,Z8,ZB,ZD,ZL,ZM,ZQ,ZR,ZX,ZZ,Ye,Yf,Yh,Yp,Yq,Yu,Yv,Y3,YO,YQ,YT,YU,YV,YY,YZ,Xb,Xe,Xf,Xg,Xj,Xo,Xq,Xr,Xs,Xu,Xv,Xx,X0,XK,XN,XP,Wc,We,Wf,Wg,Wi,Wk,Wo,Ws,Wz,W0,W3,W5,W6,W7,W8,W9,WA,WB,WC,WF,WG,WI,WJ,WK,WL,WM,WN,WO,WP,WQ,WR,WS,WT,WW,WX,WY,Vc,Vd,Vf,Vg,Vh,Vs,Vu,Vv,Vx,Vy,V0,V6,V7,V9,VA,VB,VC,VF,VG,VH,VI,VJ,VL,VM,VN,VO,VP,VQ,VR,VS,VU,VV,VW,VX,VY,VZ,Ub,Uc,Ud,Ue,Uf,Ug,Uj,Ul,Um,Un,Us,Uw,Ux,Uy,U1,U2,U3,U4,U5,U6,U7,U8,U9,UC,UD,UE,UF,UG,UH,UK,UL,UQ,UX,UY,UZ,Ta,Tb,Tc,Td,Ti,Tn,Tp,Tq,Tr,Ts,Tt,Tu,Tv,Tw,Tx,Tz,T0,T1,T2,T6,Sg,Sy,Sz,S6,bA.eq_1,y0]; all_goals tactic => exact rfl))
        · exact rd
        · (sym => (simp [yC_nm,yC_rn,yM_s,yC_gr,yC_sl,yC_fz,yC_len,yC_0,yC_1,yC_2,yC_3,yC_4,yC_15,yC_same,Za,Zb,Zd,Ze,Zf,Zg,Zh,Zj,Zl,Zm,Zn,Zt,Zx,Zy,Z1,Z5,Z7,Z8,ZB,ZD,ZL,ZM,ZQ,ZR,ZX,ZZ,Ye,Yf,Yh,Yp,Yq,Yu,Yv,Y3,YO,YQ,YT,YU,YV,YY,YZ,Xb,Xe,Xf,Xg,Xj,Xo,Xq,Xr,Xs,Xu,Xv,Xx,X0,XK,XN,XP,Wc,We,Wf,Wg,Wi,Wk,Wo,Ws,Wz,W0,W3,W5,W6,W7,W8,W9,WA,WB,WC,WF,WG,WI,WJ,WK,WL,WM,WN,WO,WP,WQ,WR,WS,WT,WW,WX,WY,Vc,Vd,Vf,Vg,Vh,Vs,Vu,Vv,Vx,Vy,V0,V6,V7,V9,VA,VB,VC,VF,VG,VH,VI,VJ,VL,VM,VN,VO,VP,VQ,VR,VS,VU,VV,VW,VX,VY,VZ,Ub,Uc,Ud,Ue,Uf,Ug,Uj,Ul,Um,Un,Us,Uw,Ux,Uy,U1,U2,U3,U4,U5,U6,U7,U8,U9,UC,UD,UE,UF,UG,UH,UK,UL,UQ,UX,UY,UZ,Ta,Tb,Tc,Td,Ti,Tn,Tp,Tq,Tr,Ts,Tt,Tu,Tv,Tw,Tx,Tz,T0,T1,T2,T6,Sg,Sy,Sz,S6,z]; all_goals tactic => exact rfl))
  · rw [if_neg h]
    have g := eq_false h
    rw [r52 (by simp)]; unfold x52; dsimp only
    (sym => (simp [yC_nm,yC_rn,yM_s,yC_gr,yC_sl,yC_fz,yC_len,yC_0,yC_1,yC_2,yC_3,yC_4,yC_15,yC_same,Za,Zb,Zd,Ze,Zf,Zg,Zh,Zj,Zl,Zm,Zn,Zt,Zx,Zy,Z1,Z5,Z7,Z8,ZB,ZD,ZL,ZM,ZQ,ZR,ZX,ZZ,Ye,Yf,Yh,Yp,Yq,Yu,Yv,Y3,YO,YQ,YT,YU,YV,YY,YZ,Xb,Xe,Xf,Xg,Xj,Xo,Xq,Xr,Xs,Xu,Xv,Xx,X0,XK,XN,XP,Wc,We,Wf,Wg,Wi,Wk,Wo,Ws,Wz,W0,W3,W5,W6,W7,W8,W9,WA,WB,WC,WF,WG,WI,WJ,WK,WL,WM,WN,WO,WP,WQ,WR,WS,WT,WW,WX,WY,Vc,Vd,Vf,Vg,Vh,Vs,Vu,Vv,Vx,Vy,V0,V6,V7,V9,VA,VB,VC,VF,VG,VH,VI,VJ,VL,VM,VN,VO,VP,VQ,VR,VS,VU,VV,VW,VX,VY,VZ,Ub,Uc,Ud,Ue,Uf,Ug,Uj,Ul,Um,Un,Us,Uw,Ux,Uy,U1,U2,U3,U4,U5,U6,U7,U8,U9,UC,UD,UE,UF,UG,UH,UK,UL,UQ,UX,UY,UZ,Ta,Tb,Tc,Td,Ti,Tn,Tp,Tq,Tr,Ts,Tt,Tu,Tv,Tw,Tx,Tz,T0,T1,T2,T6,Sg,Sy,Sz,S6,e22,g]; all_goals tactic => exact rfl))
end Go.Proofs.YtpbeclkpohehgaaDoor
namespace Go.Proofs.YtpbeclkpohehgaaDoor
open Go Go.DL
set_option maxRecDepth 100000
set_option maxHeartbeats 2000000

def ordE (n : Nat) (b : Nat → Nat) (a : Nat) (v : Int) : Int := if btw 0 v ((n : Int) - 1) then (if a.testBit v.toNat then 6 else if dif (b v.toNat) a = 0 then 0 else 21) else 5
def orderE (n : Nat) (b : Nat → Nat) (o : List Int) : Int := if o.length = n then firstN (fun i => ordE n b (allT o 0 i) (o.getD i 0)) o.length else 3
theorem ordE_of {n : Nat} {b : Nat → Nat} {a : Nat} (v : Int) : (btw 0 v ((n : Int) - 1) = true ∧ (0 ≤ v ∧ v < n) ∧ a.testBit v.toNat = false ∧ dif (b v.toNat) a = 0 ∧ ordE n b a v = 0) ∨ (btw 0 v ((n : Int) - 1) = true ∧ (0 ≤ v ∧ v < n) ∧ a.testBit v.toNat = false ∧ ¬ dif (b v.toNat) a = 0 ∧ ordE n b a v = 21) ∨
    (btw 0 v ((n : Int) - 1) = true ∧ (0 ≤ v ∧ v < n) ∧ a.testBit v.toNat = true ∧ ordE n b a v = 6) ∨ (btw 0 v ((n : Int) - 1) = false ∧ ordE n b a v = 5) := by
  unfold ordE
  cases h : btw 0 v ((n : Int) - 1)
  · simp
  · have := btwF.1 h
    cases a.testBit v.toNat
    · by_cases hd : dif (b v.toNat) a = 0
      · exact .inl ⟨rfl,by omega,rfl,hd,by simp [hd]⟩
      · exact .inr (.inl ⟨rfl,by omega,rfl,hd,by simp [hd]⟩)
    · exact .inr (.inr (.inl ⟨rfl,by omega,rfl,by simp⟩))
section
variable {l : Li} {b : Nat → Nat} {o : List Int} {es : List (AV × AV)} {a : Nat}
theorem neg_dif {k : IntKind} (hk : big k) {x a : Nat} (hx : x < 2 ^ 63) (ha : a < 2 ^ 63) (h : dif x a = 0) : (bitsA .andNot k (x : Int) (a : Int) = 0) = True := by
  rw [bits_dif hk hx ha,h]; exact eq_true rfl
theorem pos_dif {k : IntKind} (hk : big k) {x a : Nat} (hx : x < 2 ^ 63) (ha : a < 2 ^ 63) (h : ¬ dif x a = 0) : (bitsA .andNot k (x : Int) (a : Int) = 0) = False := by
  rw [bits_dif hk hx ha]; exact eq_false (by omega)
end
end Go.Proofs.YtpbeclkpohehgaaDoor
namespace Go.Proofs.YtpbeclkpohehgaaDoor
open Go Go.DL
set_option maxRecDepth 100000
set_option maxHeartbeats 2000000

def bL (n : Nat) (b : Nat → Nat) : List Int := (List.range n).map fun k => (b k : Int)
section
variable {l : Li} {b : Nat → Nat} {t : List Int} {j : Nat}
abbrev hR (l : Li) (b : Nat → Nat) : XH := [some (.blk true (.cells true l.c)),some (.blk true (.cells true ((bL l.ls.length b).map I)))]
end
section
variable {l : Li} {b : Nat → Nat} {o : List Int} {a : Nat}
end
end Go.Proofs.YtpbeclkpohehgaaDoor
namespace Go.Proofs.YtpbeclkpohehgaaDoor
open Go Go.DL
set_option maxRecDepth 100000
set_option maxHeartbeats 2000000

def soN (k : List St) (m : Int) : Nat → Int
  | 0 => 0
  | i + 1 => if (k.getD i ⟨0,0⟩).a ≤ m then (k.getD i ⟨0,0⟩).s else soN k m i
def sourF (k : List St) (m : Int) : Int := soN k m k.length
theorem soN_up {k : List St} {m : Int} {i : Nat} {x : St} (hx : k[i]? = some x) : ((x.a ≤ m) = True ∧ soN k m (i + 1) = x.s) ∨ ((x.a ≤ m) = False ∧ soN k m (i + 1) = soN k m i) := by
  rw [soN,getD_of hx]
  by_cases h : x.a ≤ m
  · exact .inl ⟨eq_true h,if_pos h⟩
  · exact .inr ⟨eq_false h,if_neg h⟩
theorem w54 (k : List St) (m : Int) (hk : k.length ≤ 8) : runW progX 54 [rS k,I m] [] = some (I (sourF k m),[]) := by
  have z := UX (n := (k.length : Int))
  have s0 : soN k m 0 = 0 := rfl
  have sf : soN k m k.length = sourF k m := rfl
  have rd : ∀ i,i < k.length → headX 0 [1,5,8,9,10] (execW progX 54 0 none (match x54l0 with | .loop _ a => a | c => c) (envL [1,5,8,9,10] [I m,I (soN k m i),rS k,I k.length,I (i : Nat)]) []) = some ([I m,I (soN k m (i + 1)),rS k,I k.length,I (i + 1 : Nat)],[]) := by
    intro i hi
    obtain ⟨x,hx⟩ := at_ix hi
    have a1 := lt_ix hi
    have a2 := up_ix hi (by omega)
    unfold x54l0
    dsimp only
    rcases soN_up (m := m) hx with ⟨h1,h2⟩ | ⟨h1,h2⟩
    · rw [h2]; (sym => (simp [Za,Zb,Zc,Zf,Zh,Zl,Zm,Zt,Zu,Z1,Z5,Z7,ZB,ZD,ZH,ZI,ZX,ZZ,Ye,Yf,Yh,Yq,Yr,Yu,Yv,Y3,YQ,YV,Xe,Xo,Xs,X0,Wc,Wg,Wo,Wz,W0,W3,W4,W5,W6,W7,W8,W9,WA,WI,WM,WN,WO,WP,WQ,Vs,V6,V7,V9,VA,VB,VC,VD,VG,VH,VI,VJ,VL,VM,VN,VO,VP,VQ,VR,VS,VU,VV,VW,VY,VZ,Ub,Uc,Ud,Ue,Uf,Ug,Uj,Us,Ux,Uy,U1,U2,U3,U4,U5,U6,U7,UC,UD,UE,UX,UY,UZ,Ta,Tb,Tc,Td,Te,Tf,Tn,Tp,Tq,Tr,Ts,Tt,Tu,Tv,Tx,Tz,T0,T1,T2,Sg,a1,a2,hx,h1]; all_goals tactic => exact rfl))
    · rw [h2]; (sym => (simp [Za,Zb,Zc,Zf,Zh,Zl,Zm,Zt,Zu,Z1,Z5,Z7,ZB,ZD,ZH,ZI,ZX,ZZ,Ye,Yf,Yh,Yq,Yr,Yu,Yv,Y3,YQ,YV,Xe,Xo,Xs,X0,Wc,Wg,Wo,Wz,W0,W3,W4,W5,W6,W7,W8,W9,WA,WI,WM,WN,WO,WP,WQ,Vs,V6,V7,V9,VA,VB,VC,VD,VG,VH,VI,VJ,VL,VM,VN,VO,VP,VQ,VR,VS,VU,VV,VW,VY,VZ,Ub,Uc,Ud,Ue,Uf,Ug,Uj,Us,Ux,Uy,U1,U2,U3,U4,U5,U6,U7,UC,UD,UE,UX,UY,UZ,Ta,Tb,Tc,Td,Te,Tf,Tn,Tp,Tq,Tr,Ts,Tt,Tu,Tv,Tx,Tz,T0,T1,T2,Sg,a1,a2,hx,h1]; all_goals tactic => exact rfl))
  rw [r54 (by simp)]; unfold x54; dsimp only
  sym =>
    simp [Za,Zb,Zc,Zf,Zh,Zl,Zm,Zt,Zu,Z1,Z5,Z7,ZB,ZD,ZH,ZI,ZX,ZZ,Ye,Yf,Yh,Yq,Yr,Yu,Yv,Y3,YQ,YV,Xe,Xo,Xs,X0,Wc,Wg,Wo,Wz,W0,W3,W4,W5,W6,W7,W8,W9,WA,WI,WM,WN,WO,WP,WQ,Vs,V6,V7,V9,VA,VB,VC,VD,VG,VH,VI,VJ,VL,VM,VN,VO,VP,VQ,VR,VS,VU,VV,VW,VY,VZ,Ub,Uc,Ud,Ue,Uf,Ug,Uj,Us,Ux,Uy,U1,U2,U3,U4,U5,U6,U7,UC,UD,UE,UX,UY,UZ,Ta,Tb,Tc,Td,Te,Tf,Tn,Tp,Tq,Tr,Ts,Tt,Tu,Tv,Tx,Tz,T0,T1,T2,Sg]
    tactic =>
      unfold x54l0
      rw [loop_rule k.length (fun i => [I m,I (soN k m i),rS k,I k.length,I (i : Nat)]) (fun _ => [])]
      · (sym => (simp [Za,Zb,Zc,Zf,Zh,Zl,Zm,Zt,Zu,Z1,Z5,Z7,ZB,ZD,ZH,ZI,ZX,ZZ,Ye,Yf,Yh,Yq,Yr,Yu,Yv,Y3,YQ,YV,Xe,Xo,Xs,X0,Wc,Wg,Wo,Wz,W0,W3,W4,W5,W6,W7,W8,W9,WA,WI,WM,WN,WO,WP,WQ,Vs,V6,V7,V9,VA,VB,VC,VD,VG,VH,VI,VJ,VL,VM,VN,VO,VP,VQ,VR,VS,VU,VV,VW,VY,VZ,Ub,Uc,Ud,Ue,Uf,Ug,Uj,Us,Ux,Uy,U1,U2,U3,U4,U5,U6,U7,UC,UD,UE,UX,UY,UZ,Ta,Tb,Tc,Td,Te,Tf,Tn,Tp,Tq,Tr,Ts,Tt,Tu,Tv,Tx,Tz,T0,T1,T2,Sg,z,sf]; all_goals tactic => exact rfl))
      · (sym => (simp [Za,Zb,Zc,Zf,Zh,Zl,Zm,Zt,Zu,Z1,Z5,Z7,ZB,ZD,ZH,ZI,ZX,ZZ,Ye,Yf,Yh,Yq,Yr,Yu,Yv,Y3,YQ,YV,Xe,Xo,Xs,X0,Wc,Wg,Wo,Wz,W0,W3,W4,W5,W6,W7,W8,W9,WA,WI,WM,WN,WO,WP,WQ,Vs,V6,V7,V9,VA,VB,VC,VD,VG,VH,VI,VJ,VL,VM,VN,VO,VP,VQ,VR,VS,VU,VV,VW,VY,VZ,Ub,Uc,Ud,Ue,Uf,Ug,Uj,Us,Ux,Uy,U1,U2,U3,U4,U5,U6,U7,UC,UD,UE,UX,UY,UZ,Ta,Tb,Tc,Td,Te,Tf,Tn,Tp,Tq,Tr,Ts,Tt,Tu,Tv,Tx,Tz,T0,T1,T2,Sg,s0]; all_goals tactic => exact rfl))
      · exact rd
      · (sym => (simp [Za,Zb,Zc,Zf,Zh,Zl,Zm,Zt,Zu,Z1,Z5,Z7,ZB,ZD,ZH,ZI,ZX,ZZ,Ye,Yf,Yh,Yq,Yr,Yu,Yv,Y3,YQ,YV,Xe,Xo,Xs,X0,Wc,Wg,Wo,Wz,W0,W3,W4,W5,W6,W7,W8,W9,WA,WI,WM,WN,WO,WP,WQ,Vs,V6,V7,V9,VA,VB,VC,VD,VG,VH,VI,VJ,VL,VM,VN,VO,VP,VQ,VR,VS,VU,VV,VW,VY,VZ,Ub,Uc,Ud,Ue,Uf,Ug,Uj,Us,Ux,Uy,U1,U2,U3,U4,U5,U6,U7,UC,UD,UE,UX,UY,UZ,Ta,Tb,Tc,Td,Te,Tf,Tn,Tp,Tq,Tr,Ts,Tt,Tu,Tv,Tx,Tz,T0,T1,T2,Sg,z]; all_goals tactic => exact rfl))
structure Sp where
  lo : Int
  hi : Int
abbrev Sp.row (x : Sp) : List AV := [I x.lo,I x.hi]
theorem sp_ok (k : List Sp) : RowsOk 2 (k.map Sp.row) := by
  intro r hr
  simp only [List.mem_map] at hr
  obtain ⟨x,_,rfl⟩ := hr
  exact ⟨rfl,rfl,rfl,rfl⟩
def cS (l : List Sp) : List AV := (l.map Sp.row).flatten
abbrev sR (l : List Sp) : AV := .fs (l.map Sp.row)
theorem cS_gr (l : List Sp) : grL (cS l) = true := (rows_cells (sp_ok _)).1
theorem cS_nm (l : List Sp) : nmL (cS l) = [] := (rows_cells (sp_ok _)).2.1
theorem cS_sl (l : List Sp) : slL (cS l) = [] := (rows_cells (sp_ok _)).2.2.1
theorem cS_len (l : List Sp) : (cS l).length = l.length * 2 := by rw [cS,(rows_cells (sp_ok _)).2.2.2,List.length_map]
theorem cS_ch (l : List Sp) : chunks (cS l) 0 2 l.length = l.map Sp.row := by
  have := rows_chunks (sp_ok l)
  rw [List.length_map] at this
  exact this
def ldAt (l : Li) (v : Int) : Ld := l.ls.getD v.toNat ⟨0,0,0,0,0⟩
def knAt (l : Li) (x : Ld) : List St := l.ks.getD x.k.toNat []
def nwL (l : Li) (o : List Int) : Nat → Int
  | 0 => l.lo
  | i + 1 => nwL l o i + (ldAt l (o.getD i 0)).cl
def nwH (l : Li) (o : List Int) : Nat → Int
  | 0 => l.hi
  | i + 1 => nwH l o i + (ldAt l (o.getD i 0)).ch
def soLo (l : Li) (o : List Int) (i : Nat) : Int := sourF (knAt l (ldAt l (o.getD i 0))) ((ldAt l (o.getD i 0)).al + nwL l o (i + 1))
def soHi (l : Li) (o : List Int) (i : Nat) : Int := sourF (knAt l (ldAt l (o.getD i 0))) ((ldAt l (o.getD i 0)).ah + nwH l o (i + 1))
def sA (l : Li) (o : List Int) : Nat → List Sp
  | 0 => List.replicate l.ls.length ⟨0,0⟩
  | i + 1 => (sA l o i).set (o.getD i 0).toNat ⟨soLo l o i,soHi l o i⟩
theorem sA_len (l : Li) (o : List Int) : ∀ i,(sA l o i).length = l.ls.length
  | 0 => by simp [sA]
  | i + 1 => by rw [sA,List.length_set,sA_len l o i]
theorem inSF {lo hi a b : Int} : inS lo hi a b = true ↔ a ≤ lo ∧ lo ≤ hi ∧ hi ≤ b := by simp [inS]
theorem Good.ld {l : Li} (g : Good l) {v : Int} (hv : 0 ≤ v ∧ v < l.ls.length) : ∃ x k,l.ls[v.toNat]? = some x ∧ ldAt l v = x ∧ (0 ≤ x.k ∧ x.k < l.ks.length) ∧ l.ks[x.k.toNat]? = some k ∧ knAt l x = k ∧ k.length ≤ 8 ∧ (0 ≤ x.al ∧ x.al ≤ x.ah ∧ x.ah ≤ 100000) ∧ (1 ≤ x.cl ∧ x.cl ≤ x.ch ∧ x.ch ≤ 10000) := by
  obtain ⟨x,hx⟩ := at_ix (l := l.ls) (i := v.toNat) (by omega)
  have h := g.loads v.toNat (by omega)
  unfold ldEr at h
  rw [getD_of hx] at h
  rcases ldE_of l.ks.length x with ⟨h1,h2,h3,h4⟩ | ⟨_,_,_,h4⟩ | ⟨_,_,h4⟩ | ⟨_,h4⟩
  · have b1 := btwF.1 h1
    obtain ⟨k,hk⟩ := at_ix (l := l.ks) (i := x.k.toNat) (by omega)
    refine ⟨x,k,hx,getD_of hx,by omega,hk,getD_of hk,?_,inSF.1 h2,inSF.1 h3⟩
    have hks := g.kinds
    unfold kindsE at hks
    by_cases h6 : 6 < l.ks.length
    · rw [if_pos h6] at hks; simp at hks
    · rw [if_neg h6] at hks
      have := firstN_0 hks x.k.toNat (by omega)
      rw [getD_of hk] at this
      unfold chkD at this
      by_cases h8 : 8 < k.length
      · rw [if_pos h8] at this; simp at this
      · omega
  all_goals (rw [h4] at h; simp at h)
theorem nw_bd {l : Li} (g : Good l) {o : List Int} {n : Nat} (ho : ∀ i,i < n → 0 ≤ o.getD i 0 ∧ o.getD i 0 < l.ls.length) : ∀ i,i ≤ n → (0 ≤ nwL l o i ∧ nwL l o i ≤ nwH l o i ∧ nwH l o i ≤ 100000 + 10000 * (i : Int))
  | 0,_ => by
    have := inSF.1 g.start
    simp only [nwL,nwH]; omega
  | i + 1,hi => by
    have ih := nw_bd g ho i (by omega)
    obtain ⟨x,k,h1,h2,_,_,_,_,h3,h4⟩ := g.ld (ho i (by omega))
    rw [nwL,nwH,h2]
    omega
end Go.Proofs.YtpbeclkpohehgaaDoor
namespace Go.Proofs.YtpbeclkpohehgaaDoor
open Go Go.DL
set_option maxRecDepth 100000
set_option maxHeartbeats 2000000

def runE (l : Li) (o : List Int) : Int := if checkL l = 0 then orderE l.ls.length (behF l.ts) o else checkL l
theorem ord_of {n : Nat} {b : Nat → Nat} {o : List Int} (h : orderE n b o = 0) : o.length = n ∧ (∀ i,i < n → ordE n b (allT o 0 i) (o.getD i 0) = 0) ∧ ∀ i,i < n → 0 ≤ o.getD i 0 ∧ o.getD i 0 < n := by
  unfold orderE at h
  by_cases ho : o.length = n
  · rw [if_pos ho] at h
    have h2 := firstN_0 h
    rw [ho] at h2
    refine ⟨ho,h2,fun i hi => ?_⟩
    rcases ordE_of (n := n) (b := b) (a := allT o 0 i) (o.getD i 0) with ⟨_,h1,_⟩ | ⟨_,h1,_⟩ | ⟨_,h1,_⟩ | ⟨_,h4⟩
    · exact h1
    · exact h1
    · exact h1
    · rw [h2 i hi] at h4; simp at h4
  · rw [if_neg ho] at h; simp at h
section
variable {l : Li} {o : List Int}
end
def mxI (a b : Int) : Int := if b > a then b else a
def wsN (s : List Sp) : Nat → Int
  | 0 => 0
  | i + 1 => mxI (wsN s i) (s.getD i ⟨0,0⟩).hi
def worst (l : Li) (o : List Int) : Int := wsN (sA l o o.length) l.ls.length
theorem runE_len {l : Li} {o : List Int} (h : runE l o = 0) : Good l ∧ o.length = l.ls.length ∧ orderE l.ls.length (behF l.ts) o = 0 := by
  unfold runE at h
  by_cases hc : checkL l = 0
  · rw [if_pos hc] at h
    exact ⟨good_of hc,(ord_of h).1,h⟩
  · rw [if_neg hc] at h
    exact absurd h hc
end Go.Proofs.YtpbeclkpohehgaaDoor
namespace Go.Proofs.YtpbeclkpohehgaaDoor
open Go Go.DL
set_option maxRecDepth 100000
set_option maxHeartbeats 2000000

def cL (l : List Ld) : List AV := (l.map Ld.row).flatten
abbrev bZ : Option XB := some (.blk true (.cells true [.nilsl,.nilsl,.nilsl,I 0,I 0]))
end Go.Proofs.YtpbeclkpohehgaaDoor
namespace Go.Proofs.YtpbeclkpohehgaaDoor
open Go Go.DL
set_option maxRecDepth 100000
set_option maxHeartbeats 4000000

end Go.Proofs.YtpbeclkpohehgaaDoor
namespace Go.Proofs.YtpbeclkpohehgaaDoor
open Go Go.DL
set_option maxRecDepth 100000
set_option maxHeartbeats 4000000

end Go.Proofs.YtpbeclkpohehgaaDoor
namespace Go.Proofs.YtpbeclkpohehgaaDoor
open Go Go.DL
set_option maxRecDepth 100000
set_option maxHeartbeats 4000000

theorem Good.st {l : Li} (g : Good l) {t : Nat} {k : List St} (ht : l.ks[t]? = some k) {i : Nat} {x : St} (hx : k[i]? = some x) : 0 ≤ x.a ∧ x.a ≤ 100000 ∧ 1 ≤ x.s ∧ x.s ≤ 1000000 ∧ prA k i < x.a ∧ prS k i < x.s := by
  have hks := g.kinds
  unfold kindsE at hks
  by_cases h6 : 6 < l.ks.length
  · rw [if_pos h6] at hks; simp at hks
  rw [if_neg h6] at hks
  have h1 := firstN_0 hks t (lt_of ht)
  rw [getD_of ht] at h1
  unfold chkD at h1
  by_cases h8 : 8 < k.length
  · rw [if_pos h8] at h1; simp at h1
  rw [if_neg h8] at h1
  have h2 := firstN_0 h1 i (lt_of hx)
  rcases kErr_of hx with ⟨b1,b2,c1,c2,_⟩ | ⟨_,_,_,_,e⟩ | ⟨_,_,_,e⟩ | ⟨_,_,e⟩ | ⟨_,e⟩
  · have b1 := btwF.1 b1
    have b2 := btwF.1 b2
    have c1 := of_eq_false c1
    have c2 := of_eq_false c2
    omega
  all_goals (rw [e] at h2; simp at h2)
def mnI (a b : Int) : Int := if b < a then b else a
end Go.Proofs.YtpbeclkpohehgaaDoor
namespace Go.Proofs.YtpbeclkpohehgaaDoor
open Go Go.DL
set_option maxRecDepth 100000
set_option maxHeartbeats 4000000

abbrev hD (l : Li) (b : Int) : XH := [some (.blk true (.cells true l.c)),some (.blk true (.cells true [I b]))]
end Go.Proofs.YtpbeclkpohehgaaDoor
namespace Go.Proofs.YtpbeclkpohehgaaDoor
open Go Go.DL
set_option maxRecDepth 100000
set_option maxHeartbeats 4000000

end Go.Proofs.YtpbeclkpohehgaaDoor
namespace Go.Proofs.YtpbeclkpohehgaaDoor
open Go Go.DL
set_option maxRecDepth 100000
set_option maxHeartbeats 4000000

end Go.Proofs.YtpbeclkpohehgaaDoor
namespace Go.Proofs.YtpbeclkpohehgaaDoor
open Go Go.DL
set_option maxRecDepth 100000
set_option maxHeartbeats 4000000

end Go.Proofs.YtpbeclkpohehgaaDoor
namespace Go.Proofs.YtpbeclkpohehgaaDoor
open Go Go.DL
set_option maxRecDepth 100000
set_option maxHeartbeats 4000000

def el (a : Nat) : List Nat := (List.range 10).filter (a.testBit ·)
def lowB (a : Nat) : Nat := (el a).headD 0
def tzq (a : Nat) : Bool := match runX progX 6 107 [U a] [] with
  | some (.int .i64 n,[]) => decide (n = (lowB a : Nat))
  | _ => false
theorem tz_all : ((List.range 1024).all fun a => a == 0 || tzq a) = true := by kernel_rfl
theorem w107 {a : Nat} (ha : a < 1024) (h0 : a ≠ 0) : runW progX 107 [U a] [] = some (I (lowB a : Nat),[]) := by
  have h := List.all_eq_true.1 tz_all a (List.mem_range.2 ha)
  have h1 : (a == 0) = false := by simp [h0]
  rw [h1,Bool.false_or] at h
  unfold tzq at h
  refine runW_iff.2 ⟨6,?_⟩
  revert h
  generalize runX progX 6 107 [U a] [] = r
  intro h
  match r,h with
  | some (.int .i64 n,[]),h => rw [of_decide_eq_true h]
theorem el_step : ∀ a : Nat,a < 1024 → a ≠ 0 → el a = lowB a :: el (a &&& (a - 1)) := by decide +kernel
theorem el_0 : ∀ a : Nat,a < 1024 → (el a = [] ↔ a = 0) := by decide +kernel
theorem el_mem {a k : Nat} : k ∈ el a ↔ k < 10 ∧ a.testBit k = true := by simp [el]
def cutS (a : Nat) : Nat → Nat
  | 0 => a
  | i + 1 => cutS a i &&& (cutS a i - 1)
theorem cut_lt {a : Nat} (ha : a < 1024) : ∀ i,cutS a i < 1024
  | 0 => ha
  | i + 1 => by rw [cutS]; exact Nat.lt_of_le_of_lt Nat.and_le_left (cut_lt ha i)
theorem cut_el {a : Nat} (ha : a < 1024) : ∀ i,el (cutS a i) = (el a).drop i
  | 0 => rfl
  | i + 1 => by
    have ih := cut_el ha i
    rw [cutS]
    by_cases h0 : cutS a i = 0
    · rw [h0] at ih ⊢
      have e0 : el 0 = [] := rfl
      rw [show (0 &&& (0 - 1)) = 0 from rfl,e0]
      rw [e0] at ih
      have := congrArg List.length ih
      rw [List.length_nil,List.length_drop] at this
      exact (List.drop_eq_nil_of_le (by omega)).symm
    · rw [el_step _ (cut_lt ha i) h0] at ih
      rw [← List.drop_drop,← ih]
      rfl
theorem cut_at {a : Nat} (ha : a < 1024) {i : Nat} (hi : i < (el a).length) : cutS a i ≠ 0 ∧ (el a)[i]? = some (lowB (cutS a i)) := by
  have h := cut_el ha i
  have h0 : cutS a i ≠ 0 := fun hc => by
    rw [hc,show el 0 = [] from rfl] at h
    have := congrArg List.length h
    rw [List.length_nil,List.length_drop] at this
    omega
  refine ⟨h0,?_⟩
  rw [el_step _ (cut_lt ha i) h0] at h
  have := congrArg (fun l => l[0]?) h
  simpa using this.symm
theorem cut_end {a : Nat} (ha : a < 1024) : cutS a (el a).length = 0 := by
  have h := cut_el ha (el a).length
  rw [List.drop_length] at h
  exact (el_0 _ (cut_lt ha _)).1 h
end Go.Proofs.YtpbeclkpohehgaaDoor
namespace Go.Proofs.YtpbeclkpohehgaaDoor
open Go Go.DL
set_option maxRecDepth 100000
set_option maxHeartbeats 4000000

abbrev cU (a : Nat) : Option XB := some (.blk true (.cells true [U a]))
structure Home (n : Nat) (H : XH) : Prop where
  hat : ∀ a,hat (H ++ [cU a]) n = cU a
  set : ∀ a b,(H ++ [cU a]).set n (cU b) = H ++ [cU b]
  len : ∀ a,(H ++ [cU a]).length = n + 1
  head : ∀ (a : Nat) (e : Env),e 0 = .fn (.yield 0) [] [] → e 1 = .pt n 0 → headX (n + 1) [0,1] (some (.normal,e,H ++ [cU a])) = some ([.fn (.yield 0) [] [],.pt n 0],H ++ [cU a])
  fin : ∀ a,finX false (n + 1) (.tup []) (H ++ [cU a]) = (.tup [],H ++ [cU a])
def Yd (H H' : XH) (v : Nat) (b : Bool) : Prop := ∀ a : Nat,callX (runW progX) (runYW progX) (.fn (.yield 0) [] []) [I v] (H ++ [cU a]) = some (.bool b,H' ++ [cU a])
theorem round106 {n : Nat} {H H' : XH} (g : Home n H) (g' : Home n H') {a : Nat} (ha : a < 1024) (h0 : a ≠ 0) (hy : Yd H H' (lowB a) true) :
    headX (n + 1) [0,1] (execW progX 106 (n + 1) none (match x106l0 with | .loop _ a => a | c => c) (envL [0,1] [.fn (.yield 0) [] [],.pt n 0]) (H ++ [cU a])) = some ([.fn (.yield 0) [] [],.pt n 0],H' ++ [cU (a &&& (a - 1))]) := by
  have h1 := g.hat a
  have h2 := g'.hat a
  have h3 := g'.set a
  have h4 := hy a
  have t := w107 ha h0
  have n0 : ((a : Int) = 0) = False := eq_false (by omega)
  have u1 : IntKind.u64.wrap ((a : Int) - 1) = ((a - 1 : Nat) : Int) := by
    rw [show (a : Int) - 1 = ((a - 1 : Nat) : Int) by omega]; exact big_wrap big_u (by omega)
  have u2 := bits_and big_u (a := a) (b := a - 1) (by omega) (by omega)
  have hd := g'.head (a &&& (a - 1))
  unfold x106l0
  dsimp only
  sym =>
    simp [Za,Zb,Zc,Zf,Zg,Zh,Zj,Zl,Zm,Zt,Z1,Z2,ZD,ZH,ZI,ZL,ZM,ZQ,ZR,ZU,Yi,Yk,Yp,YQ,Xe,Xo,Wn,W0,W3,W5,W7,W8,WA,WI,WL,WN,WS,WT,Vf,Vg,Vh,Vs,Vu,Vv,Vx,Vy,V0,VM,VP,VQ,VR,VV,VW,VY,VZ,Uc,Ud,Uj,Um,Un,Us,Uy,U1,U2,U3,U4,U5,U6,U7,UE,UY,UZ,Td,Te,Tf,Tn,Tp,Tr,Tt,Tu,Tx,T1,T2,T3,Sy,Sz,S6,h1,h2,t,h4,n0,u1,u2,h3]
    tactic => exact hd _ rfl rfl
theorem each_all {n : Nat} {G : Nat → XH} {a : Nat} (ha : a < 1024) (g : ∀ i,i ≤ (el a).length → Home n (G i)) (hy : ∀ i v,(el a)[i]? = some v → Yd (G i) (G (i + 1)) v true) :
    runW progX 106 [.fn (.yield 0) [] [],.pt n 0] (G 0 ++ [cU a]) = some (.tup [],G (el a).length ++ [cU 0]) := by
  have l0 := (g 0 (by omega)).len a
  have g1 := g (el a).length (by omega)
  have h1 : hat (G (el a).length ++ [some (.blk true (.cells true [.int .u64 0]))]) n = some (.blk true (.cells true [.int .u64 0])) := g1.hat 0
  have hf : finX false (n + 1) (.tup []) (G (el a).length ++ [some (.blk true (.cells true [.int .u64 0]))]) = (.tup [],G (el a).length ++ [some (.blk true (.cells true [.int .u64 0]))]) := g1.fin 0
  have c0 := cut_end ha
  rw [r106 (by simp)]; unfold x106; dsimp only
  rw [l0]
  unfold x106l0
  sym =>
    simp [Za,Zb,Zf,Zh,Zl,Zm,Z1,ZD,Yp,Y3,Wi,Wm,W0,W3,WA,V5,V7,VC,VE,VG,VM,VP,VR,VS,VU,Um,Ux,UC,UD,UY,UZ,Td,Tn,Tp,Ts,Tt,Tu,Tv,Tz,T1,T2]
    tactic =>
      rw [loop_rule (el a).length (fun _ => [.fn (.yield 0) [] [],.pt n 0]) (fun i => G i ++ [cU (cutS a i)])]
      · rw [c0]
        (sym => (simp [Za,Zb,Zf,Zh,Zl,Zm,Z1,ZD,Yp,Y3,Wi,Wm,W0,W3,WA,V5,V7,VC,VE,VG,VM,VP,VR,VS,VU,Um,Ux,UC,UD,UY,UZ,Td,Tn,Tp,Ts,Tt,Tu,Tv,Tz,T1,T2,h1,hf]; all_goals tactic => exact rfl))
      · exact (g 0 (by omega)).head a _ rfl rfl
      · intro i hi
        obtain ⟨p1,p2⟩ := cut_at ha hi
        exact round106 (g i (by omega)) (g (i + 1) (by omega)) (cut_lt ha i) p1 (hy i _ p2)
      · rw [c0]
        (sym => (simp [Za,Zb,Zf,Zh,Zl,Zm,Z1,ZD,Yp,Y3,Wi,Wm,W0,W3,WA,V5,V7,VC,VE,VG,VM,VP,VR,VS,VU,Um,Ux,UC,UD,UY,UZ,Td,Tn,Tp,Ts,Tt,Tu,Tv,Tz,T1,T2,h1]; all_goals tactic => exact rfl))
end Go.Proofs.YtpbeclkpohehgaaDoor
namespace Go.Proofs.YtpbeclkpohehgaaDoor
open Go Go.DL
set_option maxRecDepth 100000
set_option maxHeartbeats 4000000

def fT {α : Type} (f : α → Nat → α) (z : α) (ks : List Nat) (i : Nat) : α := (ks.take i).foldl f z
theorem fT_up {α : Type} {f : α → Nat → α} {z : α} {ks : List Nat} {i v : Nat} (h : ks[i]? = some v) : fT f z ks (i + 1) = f (fT f z ks i) v := by
  unfold fT
  rw [List.take_add_one,h]
  simp
theorem fT_all {α : Type} {f : α → Nat → α} {z : α} {ks : List Nat} : fT f z ks ks.length = ks.foldl f z := by
  unfold fT
  rw [List.take_length]
def fR {α : Type} (f : α → Nat → α) (z : α) (a : Nat) : Nat → α
  | 0 => z
  | i + 1 => if a.testBit i then f (fR f z a i) i else fR f z a i
theorem fR_fl {α : Type} {f : α → Nat → α} {z : α} {a : Nat} : ∀ n,fR f z a n = ((List.range n).filter (a.testBit ·)).foldl f z
  | 0 => rfl
  | n + 1 => by
    rw [fR,List.range_succ,List.filter_append,List.foldl_append,← fR_fl n]
    cases h : a.testBit n <;> simp [h]
theorem fR_cut {α : Type} {f : α → Nat → α} {z : α} {a m : Nat} (h : a < 2 ^ m) : ∀ n,m ≤ n → fR f z a n = fR f z a m
  | 0,hn => by rw [show m = 0 by omega]
  | n + 1,hn => by
    by_cases hm : m = n + 1
    · rw [hm]
    · rw [fR,bit_lt h (by omega),fR_cut h n (by omega)]; simp
theorem fR_el {α : Type} {f : α → Nat → α} {z : α} {a n : Nat} (h : a < 2 ^ n) (hn : n ≤ 10) : fR f z a n = (el a).foldl f z := by
  rw [← fR_cut h 10 hn,fR_fl]
  rfl
theorem el_lt {a n k : Nat} (h : a < 2 ^ n) (hk : k ∈ el a) : k < n := by
  have h2 := (el_mem.1 hk).2
  by_cases hc : k < n
  · exact hc
  · rw [bit_lt h (by omega)] at h2; simp at h2
theorem el_len (a : Nat) : (el a).length ≤ 10 := by
  unfold el
  exact Nat.le_trans (List.length_filter_le _ _) (by simp)
theorem lt_10 {a n : Nat} (h : a < 2 ^ n) (hn : n ≤ 10) : a < 1024 := Nat.lt_of_lt_of_le h (Nat.pow_le_pow_right (n := 2) (by omega) hn)

abbrev ldN (l : Li) (k : Nat) : Ld := l.ls.getD k ⟨0,0,0,0,0⟩
theorem Good.ldn {l : Li} (g : Good l) {v : Nat} (hv : v < l.ls.length) : ∃ x k,l.ls[v]? = some x ∧ ldN l v = x ∧ (0 ≤ x.k ∧ x.k < l.ks.length) ∧ l.ks[x.k.toNat]? = some k ∧ knAt l x = k ∧ k.length ≤ 8 ∧ (0 ≤ x.al ∧ x.al ≤ x.ah ∧ x.ah ≤ 100000) ∧ (1 ≤ x.cl ∧ x.cl ≤ x.ch ∧ x.ch ≤ 10000) := by
  obtain ⟨x,k,h1,h2,h3⟩ := g.ld (v := (v : Int)) (by omega)
  rw [Int.toNat_natCast] at h1
  exact ⟨x,k,h1,getD_of h1,h3⟩
abbrev enS (l : Li) (n : Int) (k : Nat) : Int := n + (ldN l k).ch
def endF (l : Li) (a : Nat) : Int := (el a).foldl (enS l) l.hi
theorem en_bd {l : Li} (g : Good l) : ∀ (ks : List Nat) (z : Int),(∀ k ∈ ks,k < l.ls.length) → z ≤ ks.foldl (enS l) z ∧ ks.foldl (enS l) z ≤ z + 10000 * (ks.length : Int)
  | [],z,_ => by simp
  | k :: ks,z,h => by
    obtain ⟨x,kd,h1,h2,_,_,_,_,_,h8⟩ := g.ldn (h k (by simp))
    have ih := en_bd g ks (enS l z k) fun j hj => h j (by simp [hj])
    rw [List.foldl_cons,List.length_cons]
    unfold enS at *
    rw [h2] at *
    omega
theorem enT_bd {l : Li} (g : Good l) {a : Nat} (ha : a < 2 ^ l.ls.length) (i : Nat) : 0 ≤ fT (enS l) l.hi (el a) i ∧ fT (enS l) l.hi (el a) i ≤ 200000 := by
  have h := en_bd g ((el a).take i) l.hi fun k hk => el_lt ha (List.mem_of_mem_take hk)
  have h2 := inSF.1 g.start
  have h3 := el_len a
  have h4 : ((el a).take i).length ≤ 10 := by rw [List.length_take]; omega
  unfold fT
  omega
theorem end_bd {l : Li} (g : Good l) {a : Nat} (ha : a < 2 ^ l.ls.length) : 0 ≤ endF l a ∧ endF l a ≤ 200000 := by
  have := enT_bd g ha (el a).length
  rw [fT_all] at this
  exact this

theorem w81 (a : Nat) : runW progX 81 [U a] [] = some (.fn (.func 106) [] [.pt 0 0],[cU a]) := by
  rw [r81 (by simp)]; unfold x81; dsimp only
  (sym => (simp [yC_nm,yC_rn,yM_s,yC_gr,yC_sl,yC_fz,yC_len,yC_0,yC_1,yC_2,yC_3,yC_4,yC_15,yC_same,Za,Zb,Zf,Zh,Zl,Zn,Zt,Zv,Zx,YY,Xc,Xe,Xu,Xy,XQ,Wc,Wl,Wn,Wz,W9,WB,WF,WG,WI,WJ,WK,WM,WO,WP,WQ,WR,WW,WX,Vc,Vs,V6,V7,V9,VA,VB,VC,VD,VG,VH,VI,VJ,VL,VU,VV,VW,VY,VZ,Ub,Ud,Ug,Uw,U2,U3,U4,U5,UC,UD,UK,UL,Ti,Tp,Tq,Tu,T1,T2,T6,Sg]; all_goals tactic => exact rfl))
section
variable {l : Li} {b : Nat → Nat} {es : List (AV × AV)}
abbrev h110 (l : Li) (b : Nat → Nat) (es : List (AV × AV)) (n : Int) : XH := [some (.loop 110 0 [.pt 1 0,.pt 4 0] .ready),some (.blk false (.cells true [.pt 2 0])),some (.blk false (.cells true (yC l b 3))),some (.blk true (.map true es)),some (.blk true (.cells true [I n]))]
theorem home110 (n : Int) : Home 5 (h110 l b es n) := by
  refine ⟨fun _ => rfl,fun _ _ => rfl,fun _ => rfl,?_,?_⟩
  · intro a e h0 h1
    (sym => (simp [yC_nm,yC_rn,yM_s,yC_gr,yC_sl,yC_fz,yC_len,yC_0,yC_1,yC_2,yC_3,yC_4,yC_15,yC_same,Za,YU,YY,Xd,Xr,Xu,Xz,XK,Wf,WB,WG,WI,WK,WM,WN,WO,WP,WQ,WW,WX,WY,WZ,Vb,Vc,Vd,Ve,Vs,V9,VA,VB,VN,VO,VV,VW,VX,VY,VZ,Ua,Ub,Uw,U1,U2,U3,U4,U5,U8,UC,T0,Sg,h0,h1]; all_goals tactic => exact rfl))
  · intro a
    (sym => (simp [yC_nm,yC_rn,yM_s,yC_gr,yC_sl,yC_fz,yC_len,yC_0,yC_1,yC_2,yC_3,yC_4,yC_15,yC_same,Za,YU,YY,Xd,Xr,Xu,Xz,XK,Wf,WB,WG,WI,WK,WM,WN,WO,WP,WQ,WW,WX,WY,WZ,Vb,Vc,Vd,Ve,Vs,V9,VA,VB,VN,VO,VV,VW,VX,VY,VZ,Ua,Ub,Uw,U1,U2,U3,U4,U5,U8,UC,T0,Sg]; all_goals tactic => exact rfl))
theorem y110 (n m : Int) {k : Nat} {x : Ld} (hk : l.ls[k]? = some x) (hm : IntKind.i64.wrap (n + x.ch) = m) : Yd (h110 l b es n) (h110 l b es m) k true := by
  have c1 := lt_ix (lt_of hk)
  have y : runYW progX (.fn (.yield 0) [] []) [I (k : Nat)] (h110 l b es n) = some (.bool true,h110 l b es m) := by
    rw [runYW_eq (K := 110) (d := x110) (site := 0) (vs := [.pt 1 0,.pt 4 0]) rfl rfl (by rfl) rfl]
    (sym => (simp [yC_nm,yC_rn,yM_s,yC_gr,yC_sl,yC_fz,yC_len,yC_0,yC_1,yC_2,yC_3,yC_4,yC_15,yC_same,Za,Zb,Zc,Zf,Zh,Zi,Zl,Zm,Zt,Z0,Z1,Z5,Z7,ZE,ZF,ZG,ZH,ZJ,ZK,ZX,ZY,Ye,Yf,Yh,Yu,Yv,YP,YQ,YR,YY,Xd,Xe,Xo,Xp,Xu,Xz,Wn,Wx,Wz,W0,W3,W4,W5,W7,W8,WA,WB,WC,WE,WF,WG,WH,WI,WJ,WK,WL,WM,WN,WO,WP,WQ,WS,WT,WU,WW,WX,WY,WZ,Vb,Vc,Vd,Ve,Vf,Vg,Vh,Vi,Vj,V8,VB,VM,VV,VW,VX,VY,VZ,Ua,Ub,Uc,Ud,Ue,Uf,Ug,Uj,Un,Uo,Us,Uw,Uz,U0,U1,U2,U3,U4,U5,U6,U7,UE,UI,UJ,UY,UZ,Ta,Tb,Td,Te,Tf,Tn,Tt,Tx,T1,TL,TM,TN,TO,TW,TX,TY,TZ,Sa,Sf,c1,hk,hm]; all_goals tactic => exact rfl))
  intro a
  (sym => (simp [yC_nm,yC_rn,yM_s,yC_gr,yC_sl,yC_fz,yC_len,yC_0,yC_1,yC_2,yC_3,yC_4,yC_15,yC_same,Za,Zb,Zc,Zf,Zh,Zi,Zl,Zm,Zt,Z0,Z1,Z5,Z7,ZE,ZF,ZG,ZH,ZJ,ZK,ZX,ZY,Ye,Yf,Yh,Yu,Yv,YP,YQ,YR,YY,Xd,Xe,Xo,Xp,Xu,Xz,Wn,Wx,Wz,W0,W3,W4,W5,W7,W8,WA,WB,WC,WE,WF,WG,WH,WI,WJ,WK,WL,WM,WN,WO,WP,WQ,WS,WT,WU,WW,WX,WY,WZ,Vb,Vc,Vd,Ve,Vf,Vg,Vh,Vi,Vj,V8,VB,VM,VV,VW,VX,VY,VZ,Ua,Ub,Uc,Ud,Ue,Uf,Ug,Uj,Un,Uo,Us,Uw,Uz,U0,U1,U2,U3,U4,U5,U6,U7,UE,UI,UJ,UY,UZ,Ta,Tb,Td,Te,Tf,Tn,Tt,Tx,T1,TL,TM,TN,TO,TW,TX,TY,TZ,Sa,Sf,y]; all_goals tactic => exact rfl))
theorem w110 (g : Good l) {a : Nat} (ha : a < 2 ^ l.ls.length) : runW progX 110 [.pt 0 0,U a] (hY l b es) = some (I (endF l a),hY l b es) := by
  have hfew := g.few
  have ha2 := lt_10 ha hfew
  have e81 := w81 a
  have e : runW progX 106 [.fn (.yield 0) [] [],.pt 5 0] [some (.loop 110 0 [.pt 1 0,.pt 4 0] .ready),some (.blk false (.cells true [.pt 2 0])),some (.blk false (.cells true (yC l b 3))),some (.blk true (.map true es)),some (.blk true (.cells true [I l.hi])),cU a] =
      some (.tup [],[some (.loop 110 0 [.pt 1 0,.pt 4 0] .ready),some (.blk false (.cells true [.pt 2 0])),some (.blk false (.cells true (yC l b 3))),some (.blk true (.map true es)),some (.blk true (.cells true [I (endF l a)])),some (.blk true (.cells true [.int .u64 0]))]) := by
    have h := each_all (n := 5) (G := fun i => h110 l b es (fT (enS l) l.hi (el a) i)) ha2 (fun i _ => home110 _) (by
      intro i v hv
      obtain ⟨x,kd,h1,h2,_,_,_,_,_,h8⟩ := g.ldn (el_lt ha (List.mem_of_getElem? hv))
      have b1 := enT_bd g ha i
      refine y110 _ _ h1 ?_
      rw [fT_up hv]
      show IntKind.i64.wrap (fT (enS l) l.hi (el a) i + x.ch) = fT (enS l) l.hi (el a) i + (ldN l v).ch
      rw [h2]
      exact wrap_ok (by omega) (by omega))
    unfold endF
    rw [fT_all] at h
    exact h
  rw [r110 (by simp)]; unfold x110; dsimp only
  (sym => (simp [yC_nm,yC_rn,yM_s,yC_gr,yC_sl,yC_fz,yC_len,yC_0,yC_1,yC_2,yC_3,yC_4,yC_15,yC_same,Za,Zb,Zc,Zf,Zg,Zh,Zj,Zl,Zm,Zn,Zt,Zu,Zx,Z0,Z5,ZD,ZH,ZI,ZL,ZM,ZQ,ZR,ZX,YP,YQ,YY,Xd,Xe,Xi,Xo,Xr,Xu,Xy,Xz,X0,Wc,Wi,Wn,Wr,Wz,W0,W3,W4,W5,W7,W8,W9,WA,WB,WC,WE,WF,WG,WH,WI,WJ,WK,WL,WM,WN,WO,WP,WQ,WS,WT,WU,WW,WX,WY,WZ,Vb,Vc,Vd,Ve,Vf,Vg,Vh,Vi,Vs,Vu,Vv,Vw,V6,V7,V9,VA,VB,VC,VD,VG,VH,VI,VJ,VL,VU,VV,VW,VX,VY,VZ,Ua,Ub,Uc,Ud,Ug,Uj,Us,Uw,U1,U2,U3,U4,U5,U6,U7,UC,UD,UE,UK,UL,UY,UZ,Td,Te,Tf,Ti,Tp,Tq,Tt,Tu,Tx,T1,T2,TL,TM,TP,TQ,TR,TS,TT,TU,Sg,Sy,Sz,S7,e81,e]; all_goals tactic => exact rfl))
end
end Go.Proofs.YtpbeclkpohehgaaDoor
namespace Go.Proofs.YtpbeclkpohehgaaDoor
open Go Go.DL
set_option maxRecDepth 100000
set_option maxHeartbeats 4000000

theorem allT_bit {t : List Int} {a : Nat} : ∀ {i x : Nat},(allT t a i).testBit x = true ↔ a.testBit x = true ∨ ∃ j,j < i ∧ (t.getD j 0).toNat = x
  | 0,x => by
    rw [allT]
    exact ⟨.inl,fun h => h.elim id fun ⟨j,hj,_⟩ => by omega⟩
  | i + 1,x => by
    rw [allT,or_bit,Bool.or_eq_true,allT_bit,decide_eq_true_iff]
    constructor
    · rintro ((h | ⟨j,h1,h2⟩) | h)
      · exact .inl h
      · exact .inr ⟨j,by omega,h2⟩
      · exact .inr ⟨i,by omega,h⟩
    · rintro (h | ⟨j,h1,h2⟩)
      · exact .inl (.inl h)
      · by_cases hj : j = i
        · subst hj; exact .inr h2
        · exact .inl (.inr ⟨j,by omega,h2⟩)
abbrev plc (T : List (List Int)) (j i : Nat) : Nat := ((T.getD j []).getD i 0).toNat
theorem accT_bit {T : List (List Int)} : ∀ {J x : Nat},(accT T J).testBit x = true ↔ ∃ j,j < J ∧ ∃ i,i < (T.getD j []).length ∧ plc T j i = x
  | 0,x => by
    rw [accT,Nat.zero_testBit]
    exact ⟨fun h => by simp at h,fun ⟨j,hj,_⟩ => by omega⟩
  | J + 1,x => by
    rw [accT,allT_bit,accT_bit]
    constructor
    · rintro (⟨j,h1,h2⟩ | ⟨i,h1,h2⟩)
      · exact ⟨j,by omega,h2⟩
      · exact ⟨J,by omega,i,h1,h2⟩
    · rintro ⟨j,h1,i,h2,h3⟩
      by_cases hj : j = J
      · subst hj; exact .inr ⟨i,h2,h3⟩
      · exact .inl ⟨j,by omega,i,h2,h3⟩
theorem Good.fresh {l : Li} (g : Good l) {j i : Nat} (hj : j < l.ts.length) (hi : i < (l.ts.getD j []).length) : (0 ≤ (l.ts.getD j []).getD i 0 ∧ (l.ts.getD j []).getD i 0 < l.ls.length) ∧ (allT (l.ts.getD j []) (accT l.ts j) i).testBit (plc l.ts j i) = false := by
  have h := (errT_0 (g.tracks j hj)).2 i hi
  rcases elE_of (n := l.ls.length) (all := allT (l.ts.getD j []) (accT l.ts j) i) ((l.ts.getD j []).getD i 0) with ⟨_,h1,h2,_⟩ | ⟨_,_,_,h4⟩ | ⟨_,h4⟩
  · exact ⟨h1,h2⟩
  · rw [h] at h4; simp at h4
  · rw [h] at h4; simp at h4
theorem Good.apart {l : Li} (g : Good l) {j i i' : Nat} (hj : j < l.ts.length) (hi : i < (l.ts.getD j []).length) (h : i' < i) : plc l.ts j i' ≠ plc l.ts j i := by
  intro hc
  have := (g.fresh hj hi).2
  rw [allT_bit.2 (.inr ⟨i',h,hc⟩)] at this
  simp at this
theorem Good.apart2 {l : Li} (g : Good l) {j i j' i' : Nat} (hj : j < l.ts.length) (hi : i < (l.ts.getD j []).length) (h : j' < j) (h' : i' < (l.ts.getD j' []).length) : plc l.ts j' i' ≠ plc l.ts j i := by
  intro hc
  have := (g.fresh hj hi).2
  rw [allT_bit.2 (.inl (accT_bit.2 ⟨j',h,i',h',hc⟩))] at this
  simp at this
theorem bT_not {t : List Int} {b : Nat → Nat} {x : Nat} : ∀ m,(∀ i,i < m → (t.getD i 0).toNat ≠ x) → bT t b m x = b x
  | 0,_ => rfl
  | m + 1,h => by
    have h0 := h m (by omega)
    show (if x = (t.getD m 0).toNat then allT t 0 m else bT t b m x) = b x
    rw [if_neg fun hc => h0 hc.symm]
    exact bT_not m fun i hi => h i (by omega)
theorem bT_at {t : List Int} {b : Nat → Nat} {i : Nat} : ∀ m,i < m → (∀ i',i < i' → i' < m → (t.getD i 0).toNat ≠ (t.getD i' 0).toNat) → bT t b m (t.getD i 0).toNat = allT t 0 i
  | 0,hm,_ => by omega
  | m + 1,hm,h => by
    show (if (t.getD i 0).toNat = (t.getD m 0).toNat then allT t 0 m else bT t b m (t.getD i 0).toNat) = _
    by_cases hi : i = m
    · subst hi; rw [if_pos rfl]
    · rw [if_neg (h m (by omega) (by omega))]
      exact bT_at m (by omega) fun i' h1 h2 => h i' h1 (by omega)
theorem beh_at {l : Li} (g : Good l) : ∀ J,J ≤ l.ts.length → ∀ j i,j < J → i < (l.ts.getD j []).length → bA l.ts J (plc l.ts j i) = allT (l.ts.getD j []) 0 i
  | 0,_,j,i,hj,_ => by omega
  | J + 1,hJ,j,i,hj,hi => by
    show bT (l.ts.getD J []) (bA l.ts J) (l.ts.getD J []).length (plc l.ts j i) = _
    by_cases hjJ : j = J
    · subst hjJ
      exact bT_at _ hi fun i' h1 h2 => g.apart (by omega) h2 h1
    · rw [bT_not _ fun i' h1 hc => g.apart2 (j := J) (i := i') (j' := j) (i' := i) (by omega) h1 (by omega) hi hc.symm]
      exact beh_at g J (by omega) j i (by omega) hi
theorem bT_occ {t : List Int} {b : Nat → Nat} {x : Nat} : ∀ m,bT t b m x = b x ∨ ∃ i,i < m ∧ (t.getD i 0).toNat = x
  | 0 => .inl rfl
  | m + 1 => by
    show (if x = (t.getD m 0).toNat then allT t 0 m else bT t b m x) = b x ∨ _
    by_cases hx : x = (t.getD m 0).toNat
    · exact .inr ⟨m,by omega,hx.symm⟩
    · rw [if_neg hx]
      rcases bT_occ m with h | ⟨i,h1,h2⟩
      · exact .inl h
      · exact .inr ⟨i,by omega,h2⟩
theorem bA_occ {T : List (List Int)} {x : Nat} : ∀ J,bA T J x = 0 ∨ ∃ j,j < J ∧ ∃ i,i < (T.getD j []).length ∧ plc T j i = x
  | 0 => .inl rfl
  | J + 1 => by
    show bT (T.getD J []) (bA T J) (T.getD J []).length x = 0 ∨ _
    rcases bT_occ (t := T.getD J []) (b := bA T J) (x := x) (T.getD J []).length with h | ⟨i,h1,h2⟩
    · rw [h]
      rcases bA_occ (T := T) (x := x) J with h | ⟨j,h1,h2⟩
      · exact .inl h
      · exact .inr ⟨j,by omega,h2⟩
    · exact .inr ⟨J,by omega,i,h1,h2⟩
structure Prec (n : Nat) (b : Nat → Nat) : Prop where
  lt : ∀ k,b k < 2 ^ n
  irr : ∀ k,(b k).testBit k = false
  tr : ∀ j k,(b j).testBit k = true → ∀ i,(b k).testBit i = true → (b j).testBit i = true
theorem Good.prec {l : Li} (g : Good l) : Prec l.ls.length (behF l.ts) := by
  have hz : ∀ x,behF l.ts x = 0 ∨ ∃ j i,j < l.ts.length ∧ i < (l.ts.getD j []).length ∧ x = plc l.ts j i ∧ behF l.ts x = allT (l.ts.getD j []) 0 i := by
    intro x
    rcases bA_occ (T := l.ts) (x := x) l.ts.length with h | ⟨j,h1,i,h2,h3⟩
    · exact .inl h
    · exact .inr ⟨j,i,h1,h2,h3.symm,by rw [← h3]; exact beh_at g _ (Nat.le_refl _) j i h1 h2⟩
  refine ⟨fun k => ?_,fun k => ?_,fun x k hk y hy => ?_⟩
  · apply Nat.lt_pow_two_of_testBit
    intro y hy
    rcases hz k with h | ⟨j,i,h1,h2,h3,h4⟩
    · rw [h,Nat.zero_testBit]
    · rw [h4]
      cases hc : (allT (l.ts.getD j []) 0 i).testBit y with
      | false => rfl
      | true =>
        rcases allT_bit.1 hc with h5 | ⟨i',h5,h6⟩
        · rw [Nat.zero_testBit] at h5; simp at h5
        · have := (g.fresh h1 (i := i') (by omega)).1
          omega
  · rcases hz k with h | ⟨j,i,h1,h2,h3,h4⟩
    · rw [h,Nat.zero_testBit]
    · rw [h4]
      cases hc : (allT (l.ts.getD j []) 0 i).testBit k with
      | false => rfl
      | true =>
        rcases allT_bit.1 hc with h5 | ⟨i',h5,h6⟩
        · rw [Nat.zero_testBit] at h5; simp at h5
        · exact absurd (h6.trans h3) (g.apart h1 h2 h5)
  · rcases hz x with h | ⟨j,i,h1,h2,h3,h4⟩
    · rw [h,Nat.zero_testBit] at hk; simp at hk
    · rw [h4] at hk ⊢
      rcases allT_bit.1 hk with h5 | ⟨i',h5,h6⟩
      · rw [Nat.zero_testBit] at h5; simp at h5
      · have e : behF l.ts k = allT (l.ts.getD j []) 0 i' := by rw [← h6]; exact beh_at g _ (Nat.le_refl _) j i' h1 (by omega)
        rw [e] at hy
        rcases allT_bit.1 hy with h7 | ⟨i'',h7,h8⟩
        · rw [Nat.zero_testBit] at h7; simp at h7
        · exact allT_bit.2 (.inr ⟨i'',by omega,h8⟩)
theorem sub_lt {a c : Nat} (h : ∀ i,a.testBit i = true → c.testBit i = true) (hne : a ≠ c) : a < c := by
  have e : a &&& c = a := by
    apply Nat.eq_of_testBit_eq
    intro i
    rw [Nat.testBit_and]
    cases ha : a.testBit i with
    | false => rfl
    | true => rw [h i ha]; rfl
  have : a ≤ c := by
    have := Nat.and_le_right (n := a) (m := c)
    omega
  omega
theorem Prec.less {n : Nat} {b : Nat → Nat} (p : Prec n b) {j k : Nat} (h : (b j).testBit k = true) : b k < b j := by
  refine sub_lt (p.tr j k h) fun hc => ?_
  have := p.irr k
  rw [hc,h] at this
  simp at this
theorem Prec.next {n : Nat} {b : Nat → Nat} (p : Prec n b) {done : Nat} : ∀ (m k : Nat),k < n → done.testBit k = false → b k ≤ m → ∃ k,k < n ∧ done.testBit k = false ∧ ∀ i,(b k).testBit i = true → done.testBit i = true := by
  intro m
  induction m using Nat.strongRecOn with
  | ind m ih =>
    intro k hk hd hm
    by_cases hc : ∀ i,(b k).testBit i = true → done.testBit i = true
    · exact ⟨k,hk,hd,hc⟩
    · rw [Classical.not_forall] at hc
      obtain ⟨i,hi⟩ := hc
      rw [Classical.not_imp] at hi
      have h1 := p.less hi.1
      have hin : i < n := by
        by_cases h : i < n
        · exact h
        · have := bit_lt (p.lt k) (i := i) (by omega)
          rw [hi.1] at this; simp at this
      exact ih (b i) (by omega) i hin (by simpa using hi.2) (Nat.le_refl _)
end Go.Proofs.YtpbeclkpohehgaaDoor
namespace Go.Proofs.YtpbeclkpohehgaaDoor
open Go Go.DL
set_option maxRecDepth 100000
set_option maxHeartbeats 4000000

theorem so_bd {l : Li} (g : Good l) {t : Nat} {k : List St} (ht : l.ks[t]? = some k) (m : Int) : ∀ i,i ≤ k.length → 0 ≤ soN k m i ∧ soN k m i ≤ 1000000
  | 0,_ => by rw [soN]; omega
  | i + 1,hi => by
    obtain ⟨x,hx⟩ := at_ix (l := k) (i := i) (by omega)
    have h := g.st ht hx
    have ih := so_bd g ht m i (by omega)
    rcases soN_up (m := m) hx with ⟨_,h2⟩ | ⟨_,h2⟩
    · rw [h2]; omega
    · rw [h2]; omega
def lastF (l : Li) (a k : Nat) : Int := sourF (knAt l (ldN l k)) ((ldN l k).ah + endF l a)
theorem last_bd {l : Li} (g : Good l) {a k : Nat} (hk : k < l.ls.length) : 0 ≤ lastF l a k ∧ lastF l a k ≤ 1000000 := by
  obtain ⟨x,kd,h1,h2,h3,h4,h5,h6,h7,h8⟩ := g.ldn hk
  unfold lastF sourF
  rw [h2,h5]
  exact so_bd g h4 _ _ (Nat.le_refl _)
section
variable {l : Li} {b : Nat → Nat} {es : List (AV × AV)}
theorem w86 (g : Good l) {a : Nat} (ha : a < 2 ^ l.ls.length) {k : Nat} (hk : k < l.ls.length) : runW progX 86 [.pt 0 0,U a,I (k : Nat)] (hY l b es) = some (I (lastF l a k),hY l b es) := by
  have e := w110 (b := b) (es := es) g ha
  have bd := end_bd g ha
  obtain ⟨x,kd,h1,h2,h3,h4,h5,h6,h7,h8⟩ := g.ldn hk
  unfold lastF
  rw [h2,h5]
  have w := w54 kd (x.ah + endF l a) h6
  have c1 := lt_ix hk
  have c3 : (0 ≤ x.k) = True := eq_true (by omega)
  have c4 : (x.k < (l.ks.length : Int)) = True := eq_true (by omega)
  have q : IntKind.i64.wrap (x.ah + endF l a) = x.ah + endF l a := wrap_ok (by omega) (by omega)
  generalize endF l a = ef at *
  rw [r86 (by simp)]; unfold x86; dsimp only
  (sym => (simp [yC_nm,yC_rn,yM_s,yC_gr,yC_sl,yC_fz,yC_len,yC_0,yC_1,yC_2,yC_3,yC_4,yC_15,yC_same,Za,Zb,Zd,Ze,Zf,Zg,Zh,Zk,Zl,Zm,Zt,Z0,Z1,Z5,Z7,ZE,ZF,ZG,ZJ,ZN,ZO,ZQ,ZR,ZX,ZY,Ye,Yf,Yh,Yu,Yv,YP,YQ,YV,YY,Xo,Xs,Xu,X0,XN,Wc,Wi,Wz,W0,W3,W4,W7,W8,W9,WA,WB,WC,WE,WF,WG,WH,WI,WJ,WK,WL,WM,WN,WO,WP,WQ,WS,WT,WU,WW,WX,WY,Vb,Vc,Vd,Vf,Vg,Vh,Vi,Vj,Vk,Vl,Vn,Vo,Vs,Vu,Vv,Vw,V6,V7,V9,VA,VB,VC,VD,VG,VH,VI,VJ,VL,VU,VV,VW,VX,VY,VZ,Ua,Ub,Uc,Ud,Ue,Uf,Ug,Uj,Um,Un,Uo,Uq,Us,Uw,Uz,U0,U1,U2,U3,U4,U5,UC,UD,UY,UZ,Ta,Tb,Td,Tn,Tp,Tq,Tu,T1,T2,Sg,Sn,Sy,Sz,S7,e,h1,h4,c1,c3,c4,q,w]; all_goals tactic => exact rfl))
end
end Go.Proofs.YtpbeclkpohehgaaDoor
namespace Go.Proofs.YtpbeclkpohehgaaDoor
open Go Go.DL
set_option maxRecDepth 100000
set_option maxHeartbeats 4000000

section
variable {l : Li} {b : Nat → Nat}
end
end Go.Proofs.YtpbeclkpohehgaaDoor
namespace Go.Proofs.YtpbeclkpohehgaaDoor
open Go Go.DL
set_option maxRecDepth 100000
set_option maxHeartbeats 4000000

section
variable {l : Li} {b : Nat → Nat}
abbrev hV (l : Li) (b : Nat → Nat) : XH := [some (.blk true (.cells true l.c)),some (.blk false (.cells true (yC l b 2))),some (.blk true (.map true []))]
end
end Go.Proofs.YtpbeclkpohehgaaDoor
namespace Go.Proofs.YtpbeclkpohehgaaDoor
open Go Go.DL
set_option maxRecDepth 100000
set_option maxHeartbeats 4000000
section
variable {l : Li}
end
end Go.Proofs.YtpbeclkpohehgaaDoor
namespace Go.Proofs.YtpbeclkpohehgaaDoor
open Go Go.DL
set_option maxRecDepth 100000
set_option maxHeartbeats 4000000

def canB (b : Nat → Nat) (d k : Nat) : Bool := !d.testBit k && decide (dif (b k) d = 0)
theorem can_bit {b : Nat → Nat} {d k : Nat} (h : canB b d k = true) : d.testBit k = false := by
  unfold canB at h
  cases hc : d.testBit k with
  | false => rfl
  | true => rw [hc] at h; simp at h
theorem canB_iff {n : Nat} {b : Nat → Nat} (p : Prec n b) (hn : n ≤ 10) {d k : Nat} (hd : d < 2 ^ n) : canB b d k = true ↔ d.testBit k = false ∧ ∀ i,(b k).testBit i = true → d.testBit i = true := by
  unfold canB
  rw [Bool.and_eq_true,decide_eq_true_iff,dif_zero (by have := lt_10 (p.lt k) hn; omega) (by have := lt_10 hd hn; omega)]
  cases d.testBit k <;> simp
abbrev tl2 (p d : Nat) : XH := [some (.blk false (.cells true [.pt p 0])),cU d]
structure Home2 (n p : Nat) (l : Li) (b : Nat → Nat) (H : XH) : Prop where
  y : ∃ q,∀ d,hat (H ++ tl2 p d) p = some (.blk false (.cells true (yC l b q)))
  h1 : ∀ d,hat (H ++ tl2 p d) n = some (.blk false (.cells true [.pt p 0]))
  h2 : ∀ d,hat (H ++ tl2 p d) (n + 1) = cU d
  len : ∀ d,(H ++ tl2 p d).length = n + 2
  head : ∀ (d : Nat) (e : Env) (j k : Int),e 0 = .fn (.yield 0) [] [] → e 1 = .pt n 0 → e 2 = .pt (n + 1) 0 → e 10 = I j → e 11 = I k →
    headX (n + 2) [0,1,2,10,11] (some (.normal,e,H ++ tl2 p d)) = some ([.fn (.yield 0) [] [],.pt n 0,.pt (n + 1) 0,I j,I k],H ++ tl2 p d)
  fin : ∀ d,finX false (n + 2) (.tup []) (H ++ tl2 p d) = (.tup [],H ++ tl2 p d)
def Yd2 (p : Nat) (H H' : XH) (v : Nat) (b : Bool) : Prop := ∀ d : Nat,callX (runW progX) (runYW progX) (.fn (.yield 0) [] []) [I v] (H ++ tl2 p d) = some (.bool b,H' ++ tl2 p d)
section
variable {l : Li} {b : Nat → Nat} {n p d : Nat}
theorem can_facts (hn : l.ls.length ≤ 10) (hb : ∀ k,b k < 2 ^ 10) (hd : d < 2 ^ 10) {k : Nat} (hk : k < l.ls.length) :
    (canB b d k = true ∧ runW progX 83 [U d,I (k : Nat)] [] = some (.bool false,[]) ∧ (bitsA .andNot .u64 (b k : Int) (d : Int) = 0) = True) ∨
    (canB b d k = false ∧ runW progX 83 [U d,I (k : Nat)] [] = some (.bool false,[]) ∧ (bitsA .andNot .u64 (b k : Int) (d : Int) = 0) = False) ∨
    (canB b d k = false ∧ runW progX 83 [U d,I (k : Nat)] [] = some (.bool true,[])) := by
  have e := w83 (a := d) (lo_63 hd) (i := (k : Int)) (j := k) rfl (by omega)
  unfold canB
  cases h : d.testBit k with
  | true => rw [h] at e; exact .inr (.inr ⟨rfl,e⟩)
  | false =>
    rw [h] at e
    by_cases h2 : dif (b k) d = 0
    · exact .inl ⟨by simp [h2],e,neg_dif big_u (lo_63 (hb k)) (lo_63 hd) h2⟩
    · exact .inr (.inl ⟨by simp [h2],e,pos_dif big_u (lo_63 (hb k)) (lo_63 hd) h2⟩)
theorem skip105 (hn : l.ls.length ≤ 10) (hb : ∀ k,b k < 2 ^ 10) (hd : d < 2 ^ 10) {H : XH} (g : Home2 n p l b H) {k : Nat} (hk : k < l.ls.length) (hc : canB b d k = false) :
    headX (n + 2) [0,1,2,10,11] (execW progX 105 (n + 2) none (match x105l0 with | .loop _ a => a | c => c) (envL [0,1,2,10,11] [.fn (.yield 0) [] [],.pt n 0,.pt (n + 1) 0,I l.ls.length,I (k : Nat)]) (H ++ tl2 p d)) =
      some ([.fn (.yield 0) [] [],.pt n 0,.pt (n + 1) 0,I l.ls.length,I (k + 1 : Nat)],H ++ tl2 p d) := by
  have a1 := lt_ix hk
  have a2 := up_ix hk (by omega)
  obtain ⟨q,h0⟩ := g.y
  have h0 := h0 d
  have h1 := g.h1 d
  have h2 := g.h2 d
  have s1 := yC_b (l := l) (b := b) (m := q) (k := k) (by omega)
  have c2 : ((k : Int) < 10) = True := eq_true (by omega)
  have hd2 := g.head d
  unfold x105l0
  dsimp only
  rcases can_facts hn hb hd hk with ⟨h3,_,_⟩ | ⟨_,h3,h4⟩ | ⟨_,h3⟩
  · rw [hc] at h3; simp at h3
  · sym =>
      simp [yC_len,yC_0,yC_1,yC_2,yC_3,yC_4,yC_15,Za,Zb,Ze,Zf,Zg,Zh,Zk,Zl,Zm,Zo,Zp,Zr,Zt,Zw,Z0,Z1,Z2,Z5,Z6,ZE,ZG,ZJ,ZN,ZO,ZQ,ZR,ZS,ZT,ZU,ZX,Yh,Yo,Yq,Yu,Yv,YF,YP,YQ,Xo,Xp,W0,W3,W8,WA,WI,WL,WN,WS,WT,Vf,Vg,Vh,Vj,Vl,Vn,Vs,Vu,Vv,Vx,Vy,V0,VM,VP,VQ,VR,VV,VW,VY,VZ,Uc,Ud,Uj,Um,Un,Uo,Uq,Us,Ux,Uy,Uz,U0,U1,U2,U3,U4,U5,UY,UZ,Td,Tn,Tp,Tr,Tt,Tu,Tx,T1,T2,T3,T4,Sv,Sx,Sy,Sz,S6,a1,a2,h0,h1,h2,s1,c2,h3,h4]
      tactic => exact hd2 _ _ _ rfl rfl rfl rfl rfl
  · sym =>
      simp [yC_len,yC_0,yC_1,yC_2,yC_3,yC_4,yC_15,Za,Zb,Ze,Zf,Zg,Zh,Zk,Zl,Zm,Zo,Zp,Zr,Zt,Zw,Z0,Z1,Z2,Z5,Z6,ZE,ZG,ZJ,ZN,ZO,ZQ,ZR,ZS,ZT,ZU,ZX,Yh,Yo,Yq,Yu,Yv,YF,YP,YQ,Xo,Xp,W0,W3,W8,WA,WI,WL,WN,WS,WT,Vf,Vg,Vh,Vj,Vl,Vn,Vs,Vu,Vv,Vx,Vy,V0,VM,VP,VQ,VR,VV,VW,VY,VZ,Uc,Ud,Uj,Um,Un,Uo,Uq,Us,Ux,Uy,Uz,U0,U1,U2,U3,U4,U5,UY,UZ,Td,Tn,Tp,Tr,Tt,Tu,Tx,T1,T2,T3,T4,Sv,Sx,Sy,Sz,S6,a1,a2,h0,h1,h2,s1,c2,h3]
      tactic => exact hd2 _ _ _ rfl rfl rfl rfl rfl
theorem step105 (hn : l.ls.length ≤ 10) (hb : ∀ k,b k < 2 ^ 10) (hd : d < 2 ^ 10) {H H' : XH} (g : Home2 n p l b H) (g' : Home2 n p l b H') {k : Nat} (hk : k < l.ls.length) (hc : canB b d k = true) (hy : Yd2 p H H' k true) :
    headX (n + 2) [0,1,2,10,11] (execW progX 105 (n + 2) none (match x105l0 with | .loop _ a => a | c => c) (envL [0,1,2,10,11] [.fn (.yield 0) [] [],.pt n 0,.pt (n + 1) 0,I l.ls.length,I (k : Nat)]) (H ++ tl2 p d)) =
      some ([.fn (.yield 0) [] [],.pt n 0,.pt (n + 1) 0,I l.ls.length,I (k + 1 : Nat)],H' ++ tl2 p d) := by
  have a1 := lt_ix hk
  have a2 := up_ix hk (by omega)
  obtain ⟨q,h0⟩ := g.y
  have h0 := h0 d
  have h1 := g.h1 d
  have h2 := g.h2 d
  obtain ⟨q',h0'⟩ := g'.y
  have h0' := h0' d
  have h1' := g'.h1 d
  have h2' := g'.h2 d
  have s1 := yC_b (l := l) (b := b) (m := q) (k := k) (by omega)
  have c2 : ((k : Int) < 10) = True := eq_true (by omega)
  have hd2 := g'.head d
  have h5 := hy d
  unfold x105l0
  dsimp only
  rcases can_facts hn hb hd hk with ⟨_,h3,h4⟩ | ⟨h3,_⟩ | ⟨h3,_⟩
  · sym =>
      simp [yC_len,yC_0,yC_1,yC_2,yC_3,yC_4,yC_15,Za,Zb,Ze,Zf,Zg,Zh,Zk,Zl,Zm,Zo,Zp,Zt,Zw,Z0,Z1,Z2,Z5,Z6,ZE,ZG,ZJ,ZN,ZO,ZQ,ZR,ZS,ZU,ZX,Yh,Yo,Yq,Yu,Yv,YF,YP,YQ,Xd,Xo,Xp,W0,W3,W8,WA,WB,WI,WK,WL,WN,WS,WT,Vf,Vg,Vh,Vj,Vl,Vm,Vn,Vs,Vu,Vv,Vx,Vy,V0,VM,VP,VQ,VR,VV,VW,VY,VZ,Uc,Ud,Uj,Um,Un,Uo,Uq,Us,Uw,Ux,Uz,U0,U1,U2,U3,U4,U5,UY,UZ,Td,Tn,Tp,Tr,Tt,Tu,Tx,T1,T2,T3,T4,Sv,Sx,Sy,Sz,S6,a1,a2,h0,h1,h2,h0',h1',h2',s1,c2,h3,h4,h5]
      tactic => exact hd2 _ _ _ rfl rfl rfl rfl rfl
  · rw [hc] at h3; simp at h3
  · rw [hc] at h3; simp at h3
theorem left105 (hn : l.ls.length ≤ 10) (hb : ∀ k,b k < 2 ^ 10) (hd : d < 2 ^ 10) {H X : XH} (g : Home2 n p l b H) {k : Nat} (hk : k < l.ls.length) (hc : canB b d k = true) (h5 : callX (runW progX) (runYW progX) (.fn (.yield 0) [] []) [I (k : Nat)] (H ++ tl2 p d) = some (.bool false,X)) (i0 : (hat X p).isSome = true) (i1 : (hat X n).isSome = true) (i2 : (hat X (n + 1)).isSome = true) :
    ∃ e,execW progX 105 (n + 2) none (match x105l0 with | .loop _ a => a | c => c) (envL [0,1,2,10,11] [.fn (.yield 0) [] [],.pt n 0,.pt (n + 1) 0,I l.ls.length,I (k : Nat)]) (H ++ tl2 p d) = some (.ret,e,X) := by
  have a1 := lt_ix hk
  obtain ⟨q,h0⟩ := g.y
  have h0 := h0 d
  have h1 := g.h1 d
  have h2 := g.h2 d
  have s1 := yC_b (l := l) (b := b) (m := q) (k := k) (by omega)
  have c2 : ((k : Int) < 10) = True := eq_true (by omega)
  unfold x105l0
  dsimp only
  rcases can_facts hn hb hd hk with ⟨_,h3,h4⟩ | ⟨h3,_⟩ | ⟨h3,_⟩
  · sym =>
      simp [yC_len,yC_0,yC_1,yC_2,yC_3,yC_4,yC_15,Za,Zb,Ze,Zf,Zg,Zh,Zk,Zl,Zm,Zo,Zp,Zt,Zw,Z0,Z1,Z2,Z5,Z6,ZE,ZG,ZJ,ZN,ZO,ZQ,ZR,ZS,ZU,ZX,Yo,Yq,Yu,Yv,YF,YP,YQ,Xd,Xo,Xp,W0,W3,W8,WA,WB,WI,WK,WL,WN,WS,WT,Vf,Vg,Vh,Vj,Vl,Vm,Vn,Vs,Vu,Vv,Vx,Vy,V0,VM,VP,VQ,VV,VW,VY,VZ,Uc,Ud,Uj,Un,Uo,Uq,Us,Uw,Ux,Uz,U0,U1,U2,U3,U4,U5,UY,UZ,Td,Tn,Tp,Tq,Tr,Tt,Tu,Tw,Ty,T1,T2,T3,T4,Sv,Sx,Sy,Sz,S6,a1,h0,h1,h2,s1,c2,h3,h4,h5,i0,i1,i2]
      tactic => exact ⟨_,rfl⟩
  · rw [hc] at h3; simp at h3
  · rw [hc] at h3; simp at h3
def Lv (n p d : Nat) (H : XH) (k : Nat) (X : XH) : Prop := ∃ Y,callX (runW progX) (runYW progX) (.fn (.yield 0) [] []) [I (k : Nat)] (H ++ tl2 p d) = some (.bool false,Y) ∧ finX false (n + 2) (.tup []) Y = (.tup [],X) ∧ (hat Y p).isSome = true ∧ (hat Y n).isSome = true ∧ (hat Y (n + 1)).isSome = true
theorem loop_head {D : Nat → Option XFn} {K k : Nat} {rd : Option Nat} {L : List Nat} {a : XCode} {e e' : Env} {H : XH} (h : headX k L (some (.normal,e,H)) = headX k L (some (.normal,e',H))) : execW D K k rd (.loop L a) e H = execW D K k rd (.loop L a) e' H := by
  simp only [headX,Option.some.injEq,Prod.mk.injEq] at h
  rw [execW_loop,execW_loop (e := e')]
  have e1 : canonE k L e H = canonE k L e' H := congrArg (envL L) h.1
  rw [e1,h.2]
theorem next_rule (hn : l.ls.length ≤ 10) (hb : ∀ k,b k < 2 ^ 10) (hd : d < 2 ^ 10) {σ : Type} (Gs : σ → XH) (hm : ∀ s,Home2 n p l b (Gs s)) (Q : Nat → σ → Prop) (Q' : XH → Prop) (s0 : σ) (q0 : Q 0 s0)
    (hc : ∀ k s,k < l.ls.length → Q k s → canB b d k = true → (∃ s',Yd2 p (Gs s) (Gs s') k true ∧ Q (k + 1) s') ∨ (∃ X,Lv n p d (Gs s) k X ∧ Q' X))
    (hs : ∀ k s,k < l.ls.length → Q k s → canB b d k = false → Q (k + 1) s) :
    (∃ s,Q l.ls.length s ∧ runW progX 105 [.fn (.yield 0) [] [],.pt n 0,.pt (n + 1) 0] (Gs s0 ++ tl2 p d) = some (.tup [],Gs s ++ tl2 p d)) ∨
    (∃ X,Q' X ∧ runW progX 105 [.fn (.yield 0) [] [],.pt n 0,.pt (n + 1) 0] (Gs s0 ++ tl2 p d) = some (.tup [],X)) := by
  have z := UX (n := (l.ls.length : Int))
  have key : ∀ (e : Env),e 0 = .fn (.yield 0) [] [] → e 1 = .pt n 0 → e 2 = .pt (n + 1) 0 → e 10 = I l.ls.length → e 11 = I 0 →
      ∃ t : Nat × σ,(t.1 ≤ l.ls.length ∧ Q t.1 t.2) ∧ (t.1 = l.ls.length ∨ (t.1 < l.ls.length ∧ canB b d t.1 = true ∧ ∃ X,Lv n p d (Gs t.2) t.1 X ∧ Q' X)) ∧
        execW progX 105 (n + 2) none x105l0 e (Gs s0 ++ tl2 p d) = execW progX 105 (n + 2) none (match x105l0 with | .loop _ a => a | c => c) (envL [0,1,2,10,11] [.fn (.yield 0) [] [],.pt n 0,.pt (n + 1) 0,I l.ls.length,I (t.1 : Nat)]) (Gs t.2 ++ tl2 p d) := by
    intro e e0 e1 e2 e3 e4
    unfold x105l0
    refine loop_inv (σ := Nat × σ) (fun t => [.fn (.yield 0) [] [],.pt n 0,.pt (n + 1) 0,I l.ls.length,I (t.1 : Nat)]) (fun t => Gs t.2 ++ tl2 p d) (fun t => t.1 ≤ l.ls.length ∧ Q t.1 t.2) (fun t => t.1 = l.ls.length ∨ (t.1 < l.ls.length ∧ canB b d t.1 = true ∧ ∃ X,Lv n p d (Gs t.2) t.1 X ∧ Q' X)) (fun t => l.ls.length - t.1) (0,s0) ?_ ⟨by omega,q0⟩ ?_
    · exact (hm s0).head d e _ _ e0 e1 e2 e3 e4
    · rintro ⟨k,s⟩ ⟨hk,hq⟩
      dsimp only at hk hq ⊢
      by_cases hkn : k = l.ls.length
      · subst hkn
        refine .inl ⟨?_,.inl rfl⟩
        (sym => (simp [yC_len,yC_0,yC_1,yC_2,yC_3,yC_4,yC_15,Za,Zb,Zf,Zh,Zl,Zm,Zt,Z0,Z1,Z5,ZB,ZD,ZX,ZZ,Yq,YP,Wi,Wm,W0,W3,W9,WA,V5,V6,V7,VC,VE,VG,VL,VM,VP,VR,VS,VU,Ue,Uy,UC,UD,UX,UY,UZ,Td,Tn,Tp,Ts,Tt,Tu,Tv,Ty,Tz,T1,T2,z]; all_goals tactic => exact rfl))
      · have hk2 : k < l.ls.length := by omega
        cases hcb : canB b d k with
        | false => exact .inr ⟨(k + 1,s),by dsimp only; omega,skip105 hn hb hd (hm s) hk2 hcb,by dsimp only; omega,hs k s hk2 hq hcb⟩
        | true =>
          rcases hc k s hk2 hq hcb with ⟨s',h1,h2⟩ | ⟨X,⟨Y,h1,h1',i0,i1,i2⟩,h2⟩
          · exact .inr ⟨(k + 1,s'),by dsimp only; omega,step105 hn hb hd (hm s) (hm s') hk2 hcb h1,by dsimp only; omega,h2⟩
          · refine .inl ⟨?_,.inr ⟨hk2,rfl,X,⟨Y,h1,h1',i0,i1,i2⟩,h2⟩⟩
            obtain ⟨e',he⟩ := left105 hn hb hd (hm s) hk2 hcb h1 i0 i1 i2
            unfold x105l0 at he
            dsimp only at he
            rw [he]; rfl
  obtain ⟨q,h0⟩ := (hm s0).y
  have h0 := h0 d
  have h1 := (hm s0).h1 d
  have h2 := (hm s0).h2 d
  have l0 := (hm s0).len d
  have st : ∀ R,(∀ E : Env,E 0 = .fn (.yield 0) [] [] → E 1 = .pt n 0 → E 2 = .pt (n + 1) 0 → E 10 = I l.ls.length → E 11 = I 0 → execW progX 105 (n + 2) none x105l0 E (Gs s0 ++ tl2 p d) = R) → runW progX 105 [.fn (.yield 0) [] [],.pt n 0,.pt (n + 1) 0] (Gs s0 ++ tl2 p d) = retX [] false (n + 2) (blockX 0 R) := by
    intro R hR
    rw [r105 (by simp)]; unfold x105; dsimp only
    rw [l0]
    sym =>
      simp [yC_len,yC_0,yC_1,yC_2,yC_3,yC_4,yC_15,Za,Zb,Zf,Zh,Zl,Zm,Zt,Z0,Z1,Z5,ZB,ZD,ZX,ZZ,Yq,YP,Wi,Wm,W0,W3,W9,WA,V5,V6,V7,VC,VE,VG,VL,VM,VP,VR,VS,VU,Ue,Uy,UC,UD,UX,UY,UZ,Td,Tn,Tp,Ts,Tt,Tu,Tv,Ty,Tz,T1,T2,h0,h1,h2]
      tactic => exact congrArg (fun R => retX [] false (n + 2) (blockX 0 R)) (hR _ rfl rfl rfl rfl rfl)
  have hst := st _ fun E g0 g1 g2 g3 g4 => loop_head (e' := envL [0,1,2,10,11] [.fn (.yield 0) [] [],.pt n 0,.pt (n + 1) 0,I l.ls.length,I 0]) (((hm s0).head d E _ _ g0 g1 g2 g3 g4).trans ((hm s0).head d _ _ _ rfl rfl rfl rfl rfl).symm)
  obtain ⟨⟨k,s⟩,⟨hk,hq⟩,hend,hrun⟩ := key (envL [0,1,2,10,11] [.fn (.yield 0) [] [],.pt n 0,.pt (n + 1) 0,I l.ls.length,I 0]) rfl rfl rfl rfl rfl
  unfold x105l0 at hst hrun
  dsimp only at hrun
  rw [hst,hrun]
  dsimp only at hk hq hend ⊢
  rcases hend with rfl | ⟨hk2,hcb,X,⟨Y,hy,hf,i0,i1,i2⟩,hq'⟩
  · refine .inl ⟨s,hq,?_⟩
    have hf := (hm s).fin d
    (sym => (simp [yC_len,yC_0,yC_1,yC_2,yC_3,yC_4,yC_15,Za,Zb,Zf,Zh,Zl,Zm,Zt,Z0,Z1,Z5,ZB,ZD,ZX,ZZ,Yq,YP,Wi,Wm,W0,W3,W9,WA,V5,V6,V7,VC,VE,VG,VL,VM,VP,VR,VS,VU,Ue,Uy,UC,UD,UX,UY,UZ,Td,Tn,Tp,Ts,Tt,Tu,Tv,Ty,Tz,T1,T2,z,hf]; all_goals tactic => exact rfl))
  · refine .inr ⟨X,hq',?_⟩
    obtain ⟨e',he⟩ := left105 hn hb hd (hm s) hk2 hcb hy i0 i1 i2
    unfold x105l0 at he
    dsimp only at he
    rw [he]
    (sym => (simp [yC_len,yC_0,yC_1,yC_2,yC_3,yC_4,yC_15,Za,Zb,Zf,Zh,Zl,Zm,Zt,Z0,Z1,Z5,ZB,ZD,ZX,ZZ,Yq,YP,Wi,Wm,W0,W3,W9,WA,V5,V6,V7,VC,VE,VG,VL,VM,VP,VR,VS,VU,Ue,Uy,UC,UD,UX,UY,UZ,Td,Tn,Tp,Ts,Tt,Tu,Tv,Ty,Tz,T1,T2,hf]; all_goals tactic => exact rfl))
end
end Go.Proofs.YtpbeclkpohehgaaDoor
namespace Go.Proofs.YtpbeclkpohehgaaDoor
open Go Go.DL
set_option maxRecDepth 100000
set_option maxHeartbeats 4000000

def encM (es : List (Int × Int)) : List (AV × AV) := es.map fun p => (.int .u64 p.1,I p.2)
def look (es : List (Int × Int)) (x : Int) : Option Int := match es with
  | [] => none
  | p :: r => if p.1 = x then some p.2 else look r x
theorem findA_enc (es : List (Int × Int)) (x : Int) : findA false (.int .u64 x) (encM es) = some ((look es x).map I) := by
  induction es with
  | nil => rfl
  | cons p r ih =>
    simp only [encM,List.map_cons,findA,keyEqA,if_true,look] at ih ⊢
    by_cases h : p.1 = x
    · simp [h]
    · rw [show (x == p.1) = false by simpa using fun e => h e.symm]
      simpa [h] using ih
def put (es : List (Int × Int)) (k v : Int) : List (Int × Int) := match es with
  | [] => [(k,v)]
  | p :: r => if k = p.1 then (p.1,v) :: r else p :: put r k v
theorem putA_enc (es : List (Int × Int)) (k v : Int) : putA false (.int .u64 k) (I v) (encM es) = some (encM (put es k v)) := by
  induction es with
  | nil => rfl
  | cons p r ih =>
    simp only [encM,List.map_cons,putA,keyEqA,if_true,put] at ih ⊢
    by_cases h : k = p.1
    · simp [h]
    · simp only [show (k == p.1) = false by simpa using h,if_neg h,ih,Option.map_some,List.map_cons]
theorem look_put (es : List (Int × Int)) (k v x : Int) : look (put es k v) x = if k = x then some v else look es x := by
  induction es with
  | nil => rfl
  | cons p r ih =>
    rw [put]
    by_cases h : k = p.1
    · rw [if_pos h,look,look,h]
      by_cases h2 : p.1 = x
      · rw [if_pos h2,if_pos h2]
      · rw [if_neg h2,if_neg h2,if_neg h2]
    · rw [if_neg h,look,look,ih]
      by_cases h2 : p.1 = x
      · rw [if_pos h2,if_pos h2,if_neg fun hc => h (hc.trans h2.symm)]
      · rw [if_neg h2,if_neg h2]
def restF (l : Li) (b : Nat → Nat) : Nat → Nat → Int
  | 0,_ => 0
  | m + 1,d => ((List.range l.ls.length).filter (canB b d)).foldl (fun x k => mnI x (mxI (lastF l (d ||| 2 ^ k) k) (restF l b m (d ||| 2 ^ k)))) 1000000
def rstF (l : Li) (b : Nat → Nat) (d : Nat) : Int := restF l b (l.ls.length - pop d l.ls.length) d
def wthF (l : Li) (b : Nat → Nat) (d k : Nat) : Int := mxI (lastF l (d ||| 2 ^ k) k) (rstF l b (d ||| 2 ^ k))
theorem pop_or {d k : Nat} (h : d.testBit k = false) : ∀ n,(k < n → pop (d ||| 2 ^ k) n = pop d n + 1) ∧ (n ≤ k → pop (d ||| 2 ^ k) n = pop d n)
  | 0 => ⟨fun h => by omega,fun _ => rfl⟩
  | n + 1 => by
    have ih := pop_or h n
    rw [pop,pop,or_bit]
    constructor
    · intro hk
      by_cases hkn : k = n
      · subst hkn
        rw [ih.2 (Nat.le_refl _),h]
        simp
      · rw [ih.1 (by omega),decide_eq_false hkn,Bool.or_false]
        omega
    · intro hk
      rw [ih.2 (by omega),decide_eq_false (by omega : ¬ k = n),Bool.or_false]
theorem rest_full {l : Li} {b : Nat → Nat} {d : Nat} (h : pop d l.ls.length = l.ls.length) : rstF l b d = 0 := by
  rw [rstF,h,Nat.sub_self,restF]
def rsT (l : Li) (b : Nat → Nat) (d : Nat) : Nat → Int
  | 0 => 1000000
  | k + 1 => if canB b d k = true then mnI (rsT l b d k) (wthF l b d k) else rsT l b d k
theorem rsT_fl {l : Li} {b : Nat → Nat} {d : Nat} : ∀ n,rsT l b d n = ((List.range n).filter (canB b d)).foldl (fun x k => mnI x (wthF l b d k)) 1000000
  | 0 => rfl
  | n + 1 => by
    rw [rsT,List.range_succ,List.filter_append,List.foldl_append,← rsT_fl n]
    cases h : canB b d n <;> simp [h]
theorem foldl_on {α β : Type} {f g : α → β → α} : ∀ (ks : List β) (z : α),(∀ x k,k ∈ ks → f x k = g x k) → ks.foldl f z = ks.foldl g z
  | [],_,_ => rfl
  | k :: ks,z,h => by
    rw [List.foldl_cons,List.foldl_cons,h z k (by simp)]
    exact foldl_on ks _ fun x j hj => h x j (by simp [hj])
theorem rest_step {l : Li} {b : Nat → Nat} {d : Nat} (h : pop d l.ls.length < l.ls.length) : rstF l b d = rsT l b d l.ls.length := by
  rw [rsT_fl,rstF]
  obtain ⟨m,hm⟩ : ∃ m,l.ls.length - pop d l.ls.length = m + 1 := ⟨l.ls.length - pop d l.ls.length - 1,by omega⟩
  rw [hm,restF]
  refine foldl_on _ _ fun x k hk => ?_
  have hk := List.mem_filter.1 hk
  have hb : d.testBit k = false := by
    have := hk.2
    unfold canB at this
    cases hc : d.testBit k with
    | false => rfl
    | true => rw [hc] at this; simp at this
  have e := (pop_or hb l.ls.length).1 (List.mem_range.1 hk.1)
  unfold wthF rstF
  rw [show l.ls.length - pop (d ||| 2 ^ k) l.ls.length = m by omega]
def Memo (l : Li) (b : Nat → Nat) (es : List (Int × Int)) : Prop := ∀ (d : Nat) (v : Int),look es d = some v → v = rstF l b d
theorem memo_0 (l : Li) (b : Nat → Nat) : Memo l b [] := fun d v h => by simp [look] at h
theorem memo_put {l : Li} {b : Nat → Nat} {es : List (Int × Int)} (h : Memo l b es) (d : Nat) : Memo l b (put es d (rstF l b d)) := by
  intro d' v hv
  rw [look_put] at hv
  by_cases hd : (d : Int) = d'
  · rw [if_pos hd] at hv
    have : d = d' := by omega
    subst this
    exact (Option.some.inj hv).symm
  · rw [if_neg hd] at hv
    exact h d' v hv
theorem or_n {a k : Nat} (ha : a < 2 ^ 10) (hk : k < 10) : bitsA .or .u64 (a : Int) (IntKind.u64.wrap (1 * 2 ^ min k IntKind.u64.bits)) = ((a ||| 2 ^ k : Nat) : Int) := by
  rw [shl_one big_u (by omega),bits_or big_u (lo_63 ha) (Nat.pow_lt_pow_right (by omega) (by omega))]
theorem or_n1 {a k : Nat} (ha : a < 2 ^ 10) (hk : k < 10) : bitsA .or .u64 (a : Int) (IntKind.u64.wrap (2 ^ min k IntKind.u64.bits)) = ((a ||| 2 ^ k : Nat) : Int) := by
  rw [shl_1 big_u (by omega),bits_or big_u (lo_63 ha) (Nat.pow_lt_pow_right (by omega) (by omega))]
section
variable {l : Li} {b : Nat → Nat}
theorem w75 (g : Good l) {d k : Nat} (hd : d < 2 ^ l.ls.length) (hk : k < l.ls.length) {es es' : List (Int × Int)} {r : Int} (h : runW progX 72 [.pt 0 0,U (d ||| 2 ^ k)] (hY l b (encM es)) = some (I r,hY l b (encM es'))) :
    runW progX 75 [.pt 0 0,U d,I (k : Nat)] (hY l b (encM es)) = some (I (mxI (lastF l (d ||| 2 ^ k) k) r),hY l b (encM es')) := by
  have hn := g.few
  have hd2 : d < 2 ^ 10 := lt_10 hd hn
  have e86 := w86 (b := b) (es := encM es) g (or_lt hd hk) hk
  have n0 := (eq_false (by omega) : ((k : Int) < 0) = False)
  have o1 := or_n hd2 (k := k) (by omega)
  have o2 := or_n1 hd2 (k := k) (by omega)
  unfold mxI
  generalize lastF l (d ||| 2 ^ k) k = lv at *
  generalize d ||| 2 ^ k = d' at *
  rw [r75 (by simp)]; unfold x75; dsimp only
  (sym => (simp [yC_nm,yC_rn,yM_s,yC_gr,yC_sl,yC_fz,yC_len,yC_0,yC_1,yC_2,yC_3,yC_4,yC_15,yC_same,Za,Zb,Zf,Zg,Zh,Zj,Zl,Zm,Zt,Z1,ZC,ZL,ZM,ZQ,ZR,Yl,Ym,Yv,YG,YQ,YY,Xo,Xu,X0,XN,Wc,Wi,Wz,W4,W7,W8,W9,WA,WB,WC,WE,WF,WG,WH,WI,WJ,WK,WL,WM,WN,WO,WP,WQ,WS,WT,WU,WW,WX,WY,Vb,Vc,Vd,Vf,Vg,Vh,Vi,Vs,Vu,Vv,Vw,V6,V7,V9,VA,VB,VC,VD,VG,VH,VI,VJ,VL,VU,VV,VW,VX,VY,VZ,Ua,Ub,Uc,Ud,Ug,Uw,U1,U2,U3,U4,U5,UC,UD,Tn,Tp,Tq,Tu,T1,T2,Sg,Sy,Sz,S7,n0,o1,o2,e86,h]; all_goals tactic => exact rfl))
theorem w74 (es : List (AV × AV)) (d : Nat) : runW progX 74 [.pt 0 0,U d] (hY l b es) = some (.fn (.func 105) [] [.pt 2 0,.pt 3 0],[some (.blk false (.cells true (yC l b 1))),some (.blk true (.map true es)),some (.blk false (.cells true [.pt 0 0])),cU d]) := by
  rw [r74 (by simp)]; unfold x74; dsimp only
  (sym => (simp [yC_nm,yC_rn,yM_s,yC_gr,yC_sl,yC_fz,yC_len,yC_0,yC_1,yC_2,yC_3,yC_4,yC_15,yC_same,Za,Zb,Zf,Zh,Zl,Zn,Zt,Zv,Zx,YY,Xc,Xe,Xi,Xu,Xy,XQ,Wc,Wi,Wl,Wn,Wr,Wz,W9,WB,WC,WF,WG,WI,WJ,WK,WM,WO,WP,WQ,WR,WW,WX,WY,Vb,Vc,Vd,Vs,V6,V7,V9,VA,VB,VC,VD,VG,VH,VI,VJ,VL,VU,VV,VW,VX,VY,VZ,Ua,Ub,Uc,Ud,Ug,Uw,U2,U3,U4,U5,UC,UD,UK,UL,Ti,Tp,Tq,Tu,T1,T2,Sg]; all_goals tactic => exact rfl))
abbrev h72 (l : Li) (b : Nat → Nat) (d : Nat) (es : List (Int × Int)) (v : Int) : XH := [some (.loop 72 0 [.pt 1 0,.pt 4 0,.pt 5 0] .ready),some (.blk false (.cells true [.pt 2 0])),some (.blk false (.cells true (yC l b 3))),some (.blk true (.map true (encM es))),cU d,some (.blk true (.cells true [I v]))]
theorem home72 (d : Nat) (es : List (Int × Int)) (v : Int) : Home2 6 2 l b (h72 l b d es v) := by
  refine ⟨⟨3,fun _ => rfl⟩,fun _ => rfl,fun _ => rfl,fun _ => rfl,?_,?_⟩
  · intro a e j k h0 h1 h2 h3 h4
    (sym => (simp [yC_nm,yC_rn,yM_s,yC_gr,yC_sl,yC_fz,yC_len,yC_0,yC_1,yC_2,yC_3,yC_4,yC_15,yC_same,Za,YQ,YU,YY,Xd,Xo,Xr,Xu,Xz,XK,Wf,WB,WG,WI,WK,WM,WN,WO,WP,WQ,WW,WX,WY,WZ,Vb,Vc,Vd,Ve,Vs,V9,VA,VB,VN,VO,VV,VW,VX,VY,VZ,Ua,Ub,Uw,U1,U2,U3,U4,U5,U8,UC,T0,Sg,h0,h1,h2,h3,h4]; all_goals tactic => exact rfl))
  · intro a
    (sym => (simp [yC_nm,yC_rn,yM_s,yC_gr,yC_sl,yC_fz,yC_len,yC_0,yC_1,yC_2,yC_3,yC_4,yC_15,yC_same,Za,YQ,YU,YY,Xd,Xo,Xr,Xu,Xz,XK,Wf,WB,WG,WI,WK,WM,WN,WO,WP,WQ,WW,WX,WY,WZ,Vb,Vc,Vd,Ve,Vs,V9,VA,VB,VN,VO,VV,VW,VX,VY,VZ,Ua,Ub,Uw,U1,U2,U3,U4,U5,U8,UC,T0,Sg]; all_goals tactic => exact rfl))
theorem y72 {d k : Nat} {es es' : List (Int × Int)} {v r : Int} (h : runW progX 75 [.pt 0 0,U d,I (k : Nat)] (hY l b (encM es)) = some (I r,hY l b (encM es'))) : Yd2 2 (h72 l b d es v) (h72 l b d es' (mnI v r)) k true := by
  have y : runYW progX (.fn (.yield 0) [] []) [I (k : Nat)] (h72 l b d es v) = some (.bool true,h72 l b d es' (mnI v r)) := by
    rw [runYW_eq (K := 72) (d := x72) (site := 0) (vs := [.pt 1 0,.pt 4 0,.pt 5 0]) rfl rfl (by rfl) rfl]
    unfold mnI
    (sym => (simp [yC_nm,yC_rn,yM_s,yC_gr,yC_sl,yC_fz,yC_len,yC_0,yC_1,yC_2,yC_3,yC_4,yC_15,yC_same,Za,Zb,Zc,Zd,Ze,Zf,Zg,Zh,Zk,Zl,Zm,Zt,ZC,ZE,ZG,ZH,ZJ,ZK,ZN,ZO,ZQ,ZR,YH,YQ,YR,YY,Xd,Xe,Xo,Xp,Xu,Xz,X0,XN,Wc,Wn,Wx,Wz,W0,W3,W4,W5,W7,W8,WA,WB,WC,WE,WF,WG,WH,WI,WJ,WK,WL,WM,WN,WO,WP,WQ,WS,WT,WU,WW,WX,WY,WZ,Vb,Vc,Vd,Ve,Vf,Vg,Vh,Vi,Vj,Vk,Vl,Vn,Vo,Vs,Vu,Vv,Vw,Vx,Vy,Vz,V0,V8,VB,VM,VV,VW,VX,VY,VZ,Ua,Ub,Uc,Ud,Ug,Uj,Um,Un,Uo,Uq,Us,Uw,Uz,U0,U1,U2,U3,U4,U5,U6,U7,U8,U9,UE,UI,UJ,UY,UZ,Td,Te,Tf,Tt,Tx,T1,T2,TL,TM,TN,TO,TW,TX,TY,TZ,Sa,Sf,Sg,Sn,Sq,Sr,Ss,Su,Sy,Sz,S6,S7,h]; all_goals tactic => exact rfl))
  intro c
  (sym => (simp [yC_nm,yC_rn,yM_s,yC_gr,yC_sl,yC_fz,yC_len,yC_0,yC_1,yC_2,yC_3,yC_4,yC_15,yC_same,Za,Zb,Zc,Zd,Ze,Zf,Zg,Zh,Zk,Zl,Zm,Zt,ZC,ZE,ZG,ZH,ZJ,ZK,ZN,ZO,ZQ,ZR,YH,YQ,YR,YY,Xd,Xe,Xo,Xp,Xu,Xz,X0,XN,Wc,Wn,Wx,Wz,W0,W3,W4,W5,W7,W8,WA,WB,WC,WE,WF,WG,WH,WI,WJ,WK,WL,WM,WN,WO,WP,WQ,WS,WT,WU,WW,WX,WY,WZ,Vb,Vc,Vd,Ve,Vf,Vg,Vh,Vi,Vj,Vk,Vl,Vn,Vo,Vs,Vu,Vv,Vw,Vx,Vy,Vz,V0,V8,VB,VM,VV,VW,VX,VY,VZ,Ua,Ub,Uc,Ud,Ug,Uj,Um,Un,Uo,Uq,Us,Uw,Uz,U0,U1,U2,U3,U4,U5,U6,U7,U8,U9,UE,UI,UJ,UY,UZ,Td,Te,Tf,Tt,Tx,T1,T2,TL,TM,TN,TO,TW,TX,TY,TZ,Sa,Sf,Sg,Sn,Sq,Sr,Ss,Su,Sy,Sz,S6,S7,y]; all_goals tactic => exact rfl))
theorem w72 (g : Good l) (p : Prec l.ls.length b) : ∀ (m d : Nat),d < 2 ^ l.ls.length → l.ls.length - pop d l.ls.length = m → ∀ es,Memo l b es → ∃ es',Memo l b es' ∧ runW progX 72 [.pt 0 0,U d] (hY l b (encM es)) = some (I (rstF l b d),hY l b (encM es')) := by
  have hn := g.few
  have hb : ∀ k,b k < 2 ^ 10 := fun k => lt_10 (p.lt k) hn
  intro m
  induction m with
  | zero =>
    intro d hd hm es he
    have hle := pop_le d l.ls.length
    have e93 := w93 (lt_10 hd hn)
    have hc := pop_cut hd 10 hn
    have q : ((pop d 10 : Int) = (l.ls.length : Int)) = True := eq_true (by omega)
    refine ⟨es,he,?_⟩
    rw [rest_full (by omega)]
    rw [r72 (by simp)]; unfold x72; dsimp only
    (sym => (simp [yC_nm,yC_rn,yM_s,yC_gr,yC_sl,yC_fz,yC_len,yC_0,yC_1,yC_2,yC_3,yC_4,yC_15,yC_same,Za,Zb,Zc,Ze,Zf,Zg,Zh,Zi,Zj,Zk,Zl,Zm,Zn,Zt,Zu,Zx,Z0,Z1,Z5,Z9,ZA,ZB,ZD,ZE,ZG,ZH,ZI,ZJ,ZL,ZM,ZN,ZO,ZQ,ZR,ZX,ZZ,Yg,Yo,YJ,YK,YL,YM,YN,YP,YQ,YY,Xd,Xe,Xi,Xo,Xr,Xu,Xy,Xz,X0,XN,Wc,Wi,Wn,Wr,Wz,W0,W3,W4,W5,W7,W8,W9,WA,WB,WC,WE,WF,WG,WH,WI,WJ,WK,WL,WM,WN,WO,WP,WQ,WS,WT,WU,WW,WX,WY,WZ,Vb,Vc,Vd,Ve,Vf,Vg,Vh,Vi,Vj,Vk,Vl,Vn,Vs,Vu,Vv,Vx,Vy,Vz,V0,V6,V7,V9,VA,VB,VC,VD,VG,VH,VI,VJ,VL,VP,VQ,VR,VU,VV,VW,VX,VY,VZ,Ua,Ub,Uc,Ud,Ue,Ug,Uh,Uj,Un,Uo,Uq,Us,Uv,Uw,Ux,Uy,Uz,U0,U1,U2,U3,U4,U5,U6,U7,U8,U9,UC,UD,UE,UK,UL,UY,UZ,Td,Te,Tf,Tg,Th,Ti,Tn,Tp,Tq,Tr,Tt,Tu,Tw,Tx,T1,T2,TL,TM,TP,TQ,TR,TS,TT,TU,Sd,Sg,Sy,Sz,S6,e93,q]; all_goals tactic => exact rfl))
  | succ m ih =>
    intro d hd hm es he
    have e93 := w93 (lt_10 hd hn)
    have hc := pop_cut hd 10 hn
    have q : ((pop d 10 : Int) = (l.ls.length : Int)) = False := eq_false (by omega)
    cases hl : look es (d : Int) with
    | some v =>
      refine ⟨es,he,?_⟩
      rw [← he d v hl]
      have f1 := findA_enc es (d : Int)
      rw [hl] at f1
      rw [r72 (by simp)]; unfold x72; dsimp only
      (sym => (simp [yC_nm,yC_rn,yM_s,yC_gr,yC_sl,yC_fz,yC_len,yC_0,yC_1,yC_2,yC_3,yC_4,yC_15,yC_same,Za,Zb,Zc,Ze,Zf,Zg,Zh,Zi,Zj,Zk,Zl,Zm,Zn,Zt,Zu,Zx,Z0,Z1,Z5,Z9,ZA,ZB,ZD,ZE,ZG,ZH,ZI,ZJ,ZL,ZM,ZN,ZO,ZQ,ZR,ZX,ZZ,Yg,Yo,YJ,YK,YL,YM,YN,YP,YQ,YY,Xd,Xe,Xi,Xo,Xr,Xu,Xy,Xz,X0,XN,Wc,Wi,Wn,Wr,Wz,W0,W3,W4,W5,W7,W8,W9,WA,WB,WC,WE,WF,WG,WH,WI,WJ,WK,WL,WM,WN,WO,WP,WQ,WS,WT,WU,WW,WX,WY,WZ,Vb,Vc,Vd,Ve,Vf,Vg,Vh,Vi,Vj,Vk,Vl,Vn,Vs,Vu,Vv,Vx,Vy,Vz,V0,V6,V7,V9,VA,VB,VC,VD,VG,VH,VI,VJ,VL,VP,VQ,VR,VU,VV,VW,VX,VY,VZ,Ua,Ub,Uc,Ud,Ue,Ug,Uh,Uj,Un,Uo,Uq,Us,Uv,Uw,Ux,Uy,Uz,U0,U1,U2,U3,U4,U5,U6,U7,U8,U9,UC,UD,UE,UK,UL,UY,UZ,Td,Te,Tf,Tg,Th,Ti,Tn,Tp,Tq,Tr,Tt,Tu,Tw,Tx,T1,T2,TL,TM,TP,TQ,TR,TS,TT,TU,Sd,Sg,Sy,Sz,S6,e93,q,f1]; all_goals tactic => exact rfl))
    | none =>
      have f1 := findA_enc es (d : Int)
      rw [hl] at f1
      have hr := next_rule (n := 6) (p := 2) (d := d) hn hb (lt_10 hd hn) (fun s : List (Int × Int) × Int => h72 l b d s.1 s.2) (fun s => home72 d s.1 s.2) (fun k s => Memo l b s.1 ∧ s.2 = rsT l b d k) (fun _ => False) (es,1000000) ⟨he,rfl⟩
        (by
          rintro k ⟨es1,v⟩ hk ⟨h1,h2⟩ hcb
          dsimp only at h1 h2
          have hcd := (canB_iff p hn hd).1 hcb
          have hpo := (pop_or hcd.1 l.ls.length).1 hk
          obtain ⟨es2,h3,h4⟩ := ih (d ||| 2 ^ k) (or_lt hd hk) (by omega) es1 h1
          refine .inl ⟨(es2,mnI v (wthF l b d k)),y72 (w75 g hd hk h4),h3,?_⟩
          dsimp only
          rw [rsT,if_pos hcb,h2])
        (by
          rintro k ⟨es1,v⟩ hk ⟨h1,h2⟩ hcb
          refine ⟨h1,?_⟩
          dsimp only at h2 ⊢
          rw [rsT,hcb,if_neg (by simp),h2])
      rcases hr with ⟨⟨es1,v⟩,⟨h1,h2⟩,hr⟩ | ⟨_,h,_⟩
      · dsimp only at h1 h2
        rw [← rest_step (by omega)] at h2
        subst h2
        refine ⟨_,memo_put h1 d,?_⟩
        have e105 : runW progX 105 [.fn (.yield 0) [] [],.pt 6 0,.pt 7 0] [some (.loop 72 0 [.pt 1 0,.pt 4 0,.pt 5 0] .ready),some (.blk false (.cells true [.pt 2 0])),some (.blk false (.cells true (yC l b 3))),some (.blk true (.map true (encM es))),cU d,some (.blk true (.cells true [I 1000000])),some (.blk false (.cells true [.pt 2 0])),cU d] =
          some (.tup [],[some (.loop 72 0 [.pt 1 0,.pt 4 0,.pt 5 0] .ready),some (.blk false (.cells true [.pt 2 0])),some (.blk false (.cells true (yC l b 3))),some (.blk true (.map true (encM es1))),cU d,some (.blk true (.cells true [I (rstF l b d)])),some (.blk false (.cells true [.pt 2 0])),cU d]) := hr
        have e74 := w74 (l := l) (b := b) (encM es) d
        have p1 := putA_enc es1 d (rstF l b d)
        generalize put es1 d (rstF l b d) = es2 at *
        rw [r72 (by simp)]; unfold x72; dsimp only
        (sym => (simp [yC_nm,yC_rn,yM_s,yC_gr,yC_sl,yC_fz,yC_len,yC_0,yC_1,yC_2,yC_3,yC_4,yC_15,yC_same,Za,Zb,Zc,Ze,Zf,Zg,Zh,Zi,Zj,Zk,Zl,Zm,Zn,Zt,Zu,Zx,Z0,Z1,Z5,Z9,ZA,ZB,ZD,ZE,ZG,ZH,ZI,ZJ,ZL,ZM,ZN,ZO,ZQ,ZR,ZX,ZZ,Yg,Yo,YJ,YK,YL,YM,YN,YP,YQ,YY,Xd,Xe,Xi,Xo,Xr,Xu,Xy,Xz,X0,XN,Wc,Wi,Wn,Wr,Wz,W0,W3,W4,W5,W7,W8,W9,WA,WB,WC,WE,WF,WG,WH,WI,WJ,WK,WL,WM,WN,WO,WP,WQ,WS,WT,WU,WW,WX,WY,WZ,Vb,Vc,Vd,Ve,Vf,Vg,Vh,Vi,Vj,Vk,Vl,Vn,Vs,Vu,Vv,Vx,Vy,Vz,V0,V6,V7,V9,VA,VB,VC,VD,VG,VH,VI,VJ,VL,VP,VQ,VR,VU,VV,VW,VX,VY,VZ,Ua,Ub,Uc,Ud,Ue,Ug,Uh,Uj,Un,Uo,Uq,Us,Uv,Uw,Ux,Uy,Uz,U0,U1,U2,U3,U4,U5,U6,U7,U8,U9,UC,UD,UE,UK,UL,UY,UZ,Td,Te,Tf,Tg,Th,Ti,Tn,Tp,Tq,Tr,Tt,Tu,Tw,Tx,T1,T2,TL,TM,TP,TQ,TR,TS,TT,TU,Sd,Sg,Sy,Sz,S6,e93,q,f1,e74,e105,p1]; all_goals tactic => exact rfl))
      · exact h.elim
end
end Go.Proofs.YtpbeclkpohehgaaDoor
namespace Go.Proofs.YtpbeclkpohehgaaDoor
open Go Go.DL
set_option maxRecDepth 100000
set_option maxHeartbeats 4000000

def goodB (l : Li) (b : Nat → Nat) (w : Int) (d k : Nat) : Bool := canB b d k && decide (wthF l b d k ≤ w)
def pickF (l : Li) (b : Nat → Nat) (w : Int) (d : Nat) : Option Nat := (List.range l.ls.length).find? (goodB l b w d)
def bestF (l : Li) (b : Nat → Nat) (w : Int) : Nat → Nat → List Nat
  | 0,_ => []
  | m + 1,d => match pickF l b w d with
    | some k => k :: bestF l b w m (d ||| 2 ^ k)
    | none => []
def bstF (l : Li) (b : Nat → Nat) (w : Int) (d : Nat) : List Nat := bestF l b w (l.ls.length - pop d l.ls.length) d
theorem range_find {P : Nat → Bool} {n : Nat} : (∃ k,(List.range n).find? P = some k ∧ k < n ∧ P k = true ∧ ∀ j,j < k → P j = false) ∨ ((List.range n).find? P = none ∧ ∀ j,j < n → P j = false) := by
  cases h : (List.range n).find? P with
  | none =>
    refine .inr ⟨rfl,fun j hj => ?_⟩
    have := List.find?_eq_none.1 h j (List.mem_range.2 hj)
    simpa using this
  | some k =>
    obtain ⟨h1,xs,ys,h2,h3⟩ := List.find?_eq_some_iff_append.1 h
    have hk : xs.length < (List.range n).length := by rw [h2]; simp
    have hk2 : (List.range n)[xs.length]? = some k := by rw [h2]; simp
    rw [List.length_range] at hk
    rw [List.getElem?_range hk] at hk2
    have hk2 := Option.some.inj hk2
    refine .inl ⟨k,rfl,by omega,h1,fun j hj => ?_⟩
    have hj2 : (List.range n)[j]? = some j := List.getElem?_range (by omega)
    rw [h2,List.getElem?_append_left (by omega)] at hj2
    simpa using h3 j (List.mem_of_getElem? hj2)
theorem bst_some {l : Li} {b : Nat → Nat} {w : Int} {d k : Nat} (h : pickF l b w d = some k) : bstF l b w d = k :: bstF l b w (d ||| 2 ^ k) ∧ k < l.ls.length ∧ canB b d k = true ∧ wthF l b d k ≤ w ∧ pop (d ||| 2 ^ k) l.ls.length = pop d l.ls.length + 1 ∧ ∀ j,j < k → goodB l b w d j = false := by
  rcases range_find (P := goodB l b w d) (n := l.ls.length) with ⟨k',h1,h2,h3,h4⟩ | ⟨h1,_⟩
  · have hk : k' = k := by
      have := h1.symm.trans h
      exact Option.some.inj this
    subst hk
    unfold goodB at h3
    rw [Bool.and_eq_true,decide_eq_true_iff] at h3
    have hp := (pop_or (can_bit h3.1) l.ls.length).1 h2
    have hle := pop_le (d ||| 2 ^ k') l.ls.length
    refine ⟨?_,h2,h3.1,h3.2,hp,h4⟩
    unfold bstF
    obtain ⟨m,hm⟩ : ∃ m,l.ls.length - pop d l.ls.length = m + 1 := ⟨l.ls.length - pop d l.ls.length - 1,by omega⟩
    rw [hm,bestF,h]
    dsimp only
    rw [show l.ls.length - pop (d ||| 2 ^ k') l.ls.length = m by omega]
  · unfold pickF at h
    rw [h1] at h; simp at h
theorem bst_none {l : Li} {b : Nat → Nat} {w : Int} {d : Nat} (h : pickF l b w d = none) : bstF l b w d = [] ∧ ∀ j,j < l.ls.length → goodB l b w d j = false := by
  rcases range_find (P := goodB l b w d) (n := l.ls.length) with ⟨k',h1,_⟩ | ⟨h1,h2⟩
  · unfold pickF at h
    rw [h1] at h; simp at h
  · refine ⟨?_,h2⟩
    unfold bstF
    cases l.ls.length - pop d l.ls.length with
    | zero => rfl
    | succ m => rw [bestF,h]
section
variable {l : Li} {b : Nat → Nat}
abbrev h73n (l : Li) (b : Nat → Nat) (es : List (Int × Int)) (d : Nat) (w : Int) : XH := [some (.blk false (.cells true [.pt 1 0])),some (.blk false (.cells true (yC l b 2))),some (.blk true (.map true (encM es))),cU d,some (.blk true (.cells true [I w])),some (.blk true (.cells true [.nilsl])),some (.blk false (.cells true [.fn (.func 73) [] [.pt 0 0,.pt 3 0,.pt 4 0,.pt 5 0,.pt 6 0]]))]
abbrev h73c (l : Li) (b : Nat → Nat) (es : List (Int × Int)) (d : Nat) (w : Int) (a : Int) (r : List Int) : XH := [some (.blk false (.cells true [.pt 1 0])),some (.blk false (.cells true (yC l b 2))),some (.blk true (.map true (encM es))),cU d,some (.blk true (.cells true [I w])),some (.blk false (.cells true [.sl 6 0 1 (r.length + 1)])),some (.blk true (.cells true (I a :: r.map I))),some (.blk false (.cells true [.fn (.func 73) [] [.pt 0 0,.pt 3 0,.pt 4 0,.pt 5 0,.pt 7 0]]))]
abbrev g73n (l : Li) (b : Nat → Nat) (es : List (Int × Int)) (d : Nat) (w : Int) (s : LSt) : XH := [some (.loop 73 0 [.pt 1 0,.pt 4 0,.pt 5 0,.pt 6 0,.pt 7 0] s),some (.blk false (.cells true [.pt 2 0])),some (.blk false (.cells true (yC l b 3))),some (.blk true (.map true (encM es))),cU d,some (.blk true (.cells true [I w])),some (.blk true (.cells true [.nilsl])),some (.blk false (.cells true [.fn (.func 73) [] [.pt 1 0,.pt 4 0,.pt 5 0,.pt 6 0,.pt 7 0]]))]
abbrev g73c (l : Li) (b : Nat → Nat) (es : List (Int × Int)) (d : Nat) (w : Int) (a : Int) (r : List Int) (s : LSt) : XH := [some (.loop 73 0 [.pt 1 0,.pt 4 0,.pt 5 0,.pt 6 0,.pt 8 0] s),some (.blk false (.cells true [.pt 2 0])),some (.blk false (.cells true (yC l b 3))),some (.blk true (.map true (encM es))),cU d,some (.blk true (.cells true [I w])),some (.blk false (.cells true [.sl 7 0 1 (r.length + 1)])),some (.blk true (.cells true (I a :: r.map I))),some (.blk false (.cells true [.fn (.func 73) [] [.pt 1 0,.pt 4 0,.pt 5 0,.pt 6 0,.pt 8 0]]))]
theorem home73n (es : List (Int × Int)) (d : Nat) (w : Int) (s : LSt) : Home2 8 2 l b (g73n l b es d w s) := by
  refine ⟨⟨3,fun _ => rfl⟩,fun _ => rfl,fun _ => rfl,fun _ => rfl,?_,?_⟩
  · intro a e j k h0 h1 h2 h3 h4
    (sym => (simp [yC_nm,yC_rn,yM_s,yC_gr,yC_sl,yC_fz,yC_len,yC_0,yC_1,yC_2,yC_3,yC_4,yC_15,yC_same,Za,YQ,YU,YY,Xc,Xd,Xo,Xr,Xu,Xy,Xz,XK,Wf,WB,WG,WI,WK,WM,WN,WO,WP,WQ,WW,WX,WY,WZ,Vb,Vc,Vd,Ve,Vs,V9,VA,VB,VN,VO,VV,VW,VX,VY,VZ,Ua,Ub,Uw,U1,U2,U3,U4,U5,U8,UC,T0,Sg,h0,h1,h2,h3,h4]; all_goals tactic => exact rfl))
  · intro a
    (sym => (simp [yC_nm,yC_rn,yM_s,yC_gr,yC_sl,yC_fz,yC_len,yC_0,yC_1,yC_2,yC_3,yC_4,yC_15,yC_same,Za,YQ,YU,YY,Xc,Xd,Xo,Xr,Xu,Xy,Xz,XK,Wf,WB,WG,WI,WK,WM,WN,WO,WP,WQ,WW,WX,WY,WZ,Vb,Vc,Vd,Ve,Vs,V9,VA,VB,VN,VO,VV,VW,VX,VY,VZ,Ua,Ub,Uw,U1,U2,U3,U4,U5,U8,UC,T0,Sg]; all_goals tactic => exact rfl))
theorem home73c (es : List (Int × Int)) (d : Nat) (w : Int) (a : Int) (r : List Int) (s : LSt) : Home2 9 2 l b (g73c l b es d w a r s) := by
  refine ⟨⟨3,fun _ => rfl⟩,fun _ => rfl,fun _ => rfl,fun _ => rfl,?_,?_⟩
  · intro a e j k h0 h1 h2 h3 h4
    (sym => (simp [yC_nm,yC_rn,yM_s,yC_gr,yC_sl,yC_fz,yC_len,yC_0,yC_1,yC_2,yC_3,yC_4,yC_15,yC_same,Za,YQ,YU,YX,YY,Xc,Xd,Xo,Xr,Xt,Xu,Xy,Xz,XK,Wf,WB,WG,WI,WK,WM,WN,WO,WP,WQ,WW,WX,WY,WZ,Vb,Vc,Vd,Ve,Vs,V9,VA,VB,VN,VO,VV,VW,VX,VY,VZ,Ua,Ub,Uw,U1,U2,U3,U4,U5,U8,UC,T0,Sg,h0,h1,h2,h3,h4]; all_goals tactic => exact rfl))
  · intro a
    (sym => (simp [yC_nm,yC_rn,yM_s,yC_gr,yC_sl,yC_fz,yC_len,yC_0,yC_1,yC_2,yC_3,yC_4,yC_15,yC_same,Za,YQ,YU,YX,YY,Xc,Xd,Xo,Xr,Xt,Xu,Xy,Xz,XK,Wf,WB,WG,WI,WK,WM,WN,WO,WP,WQ,WW,WX,WY,WZ,Vb,Vc,Vd,Ve,Vs,V9,VA,VB,VN,VO,VV,VW,VX,VY,VZ,Ua,Ub,Uw,U1,U2,U3,U4,U5,U8,UC,T0,Sg]; all_goals tactic => exact rfl))
theorem y73n {d k : Nat} {es es' : List (Int × Int)} {w r : Int} (h : runW progX 75 [.pt 0 0,U d,I (k : Nat)] (hY l b (encM es)) = some (I r,hY l b (encM es'))) (hr : (r ≤ w) = False) : Yd2 2 (g73n l b es d w .ready) (g73n l b es' d w .ready) k true := by
  have y : runYW progX (.fn (.yield 0) [] []) [I (k : Nat)] (g73n l b es d w .ready) = some (.bool true,g73n l b es' d w .ready) := by
    rw [runYW_eq (K := 73) (d := x73) (site := 0) (vs := [.pt 1 0,.pt 4 0,.pt 5 0,.pt 6 0,.pt 7 0]) rfl rfl (by rfl) rfl]
    (sym => (simp [yC_nm,yC_rn,yM_s,yC_gr,yC_sl,yC_fz,yC_len,yC_0,yC_1,yC_2,yC_3,yC_4,yC_15,yC_same,Za,Zb,Zd,Ze,Zf,Zg,Zh,Zk,Zl,Zm,Zt,Z1,ZE,ZG,ZJ,ZN,ZO,ZQ,ZR,Yr,YQ,YR,YY,Xc,Xd,Xo,Xp,Xu,Xy,Xz,XN,Wz,W0,W3,W4,W7,W8,WA,WB,WC,WE,WF,WG,WH,WI,WJ,WK,WL,WM,WN,WO,WP,WQ,WS,WT,WU,WW,WX,WY,WZ,Vb,Vc,Vd,Ve,Vf,Vg,Vh,Vi,Vj,Vk,Vl,Vn,Vo,Vs,Vu,Vv,Vx,Vy,Vz,V0,V8,VB,VM,VP,VR,VV,VW,VX,VY,VZ,Ua,Ub,Uc,Ud,Ug,Uj,Um,Un,Uq,Uv,Uw,Uy,Uz,U0,U1,U2,U3,U4,U5,U8,U9,UI,UJ,UY,UZ,Td,Tn,Tp,Tr,Tt,Tu,Tx,T1,T2,TL,TM,TN,TO,TW,TX,TY,TZ,Sa,Sg,Sn,Sq,Sr,Ss,Su,Sy,Sz,S6,h,hr]; all_goals tactic => exact rfl))
  intro c
  (sym => (simp [yC_nm,yC_rn,yM_s,yC_gr,yC_sl,yC_fz,yC_len,yC_0,yC_1,yC_2,yC_3,yC_4,yC_15,yC_same,Za,Zb,Zd,Ze,Zf,Zg,Zh,Zk,Zl,Zm,Zt,Z1,ZE,ZG,ZJ,ZN,ZO,ZQ,ZR,Yr,YQ,YR,YY,Xc,Xd,Xo,Xp,Xu,Xy,Xz,XN,Wz,W0,W3,W4,W7,W8,WA,WB,WC,WE,WF,WG,WH,WI,WJ,WK,WL,WM,WN,WO,WP,WQ,WS,WT,WU,WW,WX,WY,WZ,Vb,Vc,Vd,Ve,Vf,Vg,Vh,Vi,Vj,Vk,Vl,Vn,Vo,Vs,Vu,Vv,Vx,Vy,Vz,V0,V8,VB,VM,VP,VR,VV,VW,VX,VY,VZ,Ua,Ub,Uc,Ud,Ug,Uj,Um,Un,Uq,Uv,Uw,Uy,Uz,U0,U1,U2,U3,U4,U5,U8,U9,UI,UJ,UY,UZ,Td,Tn,Tp,Tr,Tt,Tu,Tx,T1,T2,TL,TM,TN,TO,TW,TX,TY,TZ,Sa,Sg,Sn,Sq,Sr,Ss,Su,Sy,Sz,S6,y]; all_goals tactic => exact rfl))
theorem y73c {d k : Nat} {es es' : List (Int × Int)} {w r a : Int} {q : List Int} (h : runW progX 75 [.pt 0 0,U d,I (k : Nat)] (hY l b (encM es)) = some (I r,hY l b (encM es'))) (hr : (r ≤ w) = False) : Yd2 2 (g73c l b es d w a q .ready) (g73c l b es' d w a q .ready) k true := by
  have y : runYW progX (.fn (.yield 0) [] []) [I (k : Nat)] (g73c l b es d w a q .ready) = some (.bool true,g73c l b es' d w a q .ready) := by
    rw [runYW_eq (K := 73) (d := x73) (site := 0) (vs := [.pt 1 0,.pt 4 0,.pt 5 0,.pt 6 0,.pt 8 0]) rfl rfl (by rfl) rfl]
    (sym => (simp [yC_nm,yC_rn,yM_s,yC_gr,yC_sl,yC_fz,yC_len,yC_0,yC_1,yC_2,yC_3,yC_4,yC_15,yC_same,Za,Zb,Zd,Ze,Zf,Zg,Zh,Zk,Zl,Zm,Zt,Z1,ZE,ZG,ZJ,ZN,ZO,ZQ,ZR,Yr,YQ,YR,YX,YY,Xc,Xd,Xo,Xp,Xt,Xu,Xy,Xz,XN,Wz,W0,W3,W4,W7,W8,WA,WB,WC,WE,WF,WG,WH,WI,WJ,WK,WL,WM,WN,WO,WP,WQ,WS,WT,WU,WW,WX,WY,WZ,Vb,Vc,Vd,Ve,Vf,Vg,Vh,Vi,Vj,Vk,Vl,Vn,Vo,Vs,Vu,Vv,Vx,Vy,Vz,V0,V8,VB,VM,VP,VR,VV,VW,VX,VY,VZ,Ua,Ub,Uc,Ud,Ug,Uj,Um,Un,Uq,Uv,Uw,Uy,Uz,U0,U1,U2,U3,U4,U5,U8,U9,UI,UJ,UY,UZ,Td,Tn,Tp,Tr,Tt,Tu,Tx,T1,T2,TL,TM,TN,TO,TW,TX,TY,TZ,Sa,Sg,Sn,Sq,Sr,Ss,Su,Sy,Sz,S6,h,hr]; all_goals tactic => exact rfl))
  intro c
  (sym => (simp [yC_nm,yC_rn,yM_s,yC_gr,yC_sl,yC_fz,yC_len,yC_0,yC_1,yC_2,yC_3,yC_4,yC_15,yC_same,Za,Zb,Zd,Ze,Zf,Zg,Zh,Zk,Zl,Zm,Zt,Z1,ZE,ZG,ZJ,ZN,ZO,ZQ,ZR,Yr,YQ,YR,YX,YY,Xc,Xd,Xo,Xp,Xt,Xu,Xy,Xz,XN,Wz,W0,W3,W4,W7,W8,WA,WB,WC,WE,WF,WG,WH,WI,WJ,WK,WL,WM,WN,WO,WP,WQ,WS,WT,WU,WW,WX,WY,WZ,Vb,Vc,Vd,Ve,Vf,Vg,Vh,Vi,Vj,Vk,Vl,Vn,Vo,Vs,Vu,Vv,Vx,Vy,Vz,V0,V8,VB,VM,VP,VR,VV,VW,VX,VY,VZ,Ua,Ub,Uc,Ud,Ug,Uj,Um,Un,Uq,Uv,Uw,Uy,Uz,U0,U1,U2,U3,U4,U5,U8,U9,UI,UJ,UY,UZ,Td,Tn,Tp,Tr,Tt,Tu,Tx,T1,T2,TL,TM,TN,TO,TW,TX,TY,TZ,Sa,Sg,Sn,Sq,Sr,Ss,Su,Sy,Sz,S6,y]; all_goals tactic => exact rfl))
abbrev r73c (l : Li) (b : Nat → Nat) (es : List (Int × Int)) (d : Nat) (w : Int) (a : Int) (r : List Int) : XH := [some (.blk false (.cells true [.pt 1 0])),some (.blk false (.cells true (yC l b 2))),some (.blk true (.map true (encM es))),cU d,some (.blk true (.cells true [I w])),some (.blk false (.cells true [.sl 8 0 1 (r.length + 1)])),none,some (.blk false (.cells true [.fn (.func 73) [] [.pt 0 0,.pt 3 0,.pt 4 0,.pt 5 0,.pt 7 0]])),some (.blk true (.cells true (I a :: r.map I)))]
abbrev r73n (l : Li) (b : Nat → Nat) (es : List (Int × Int)) (d : Nat) (w : Int) (a : Int) (r : List Int) : XH := [some (.blk false (.cells true [.pt 1 0])),some (.blk false (.cells true (yC l b 2))),some (.blk true (.map true (encM es))),cU d,some (.blk true (.cells true [I w])),some (.blk false (.cells true [.sl 7 0 1 (r.length + 1)])),some (.blk false (.cells true [.fn (.func 73) [] [.pt 0 0,.pt 3 0,.pt 4 0,.pt 5 0,.pt 6 0]])),some (.blk true (.cells true (I a :: r.map I)))]
abbrev z73n (l : Li) (b : Nat → Nat) (es : List (Int × Int)) (d : Nat) (w : Int) (a : Int) (r : List Int) (c : Nat) : XH := [some (.loop 73 0 [.pt 1 0,.pt 4 0,.pt 5 0,.pt 6 0,.pt 7 0] (.done .ret)),some (.blk false (.cells true [.pt 2 0])),some (.blk false (.cells true (yC l b 3))),some (.blk true (.map true (encM es))),cU d,some (.blk true (.cells true [I w])),some (.blk false (.cells true [.sl 10 0 1 (r.length + 1)])),some (.blk false (.cells true [.fn (.func 73) [] [.pt 1 0,.pt 4 0,.pt 5 0,.pt 6 0,.pt 7 0]])),some (.blk false (.cells true [.pt 2 0])),cU c,some (.blk true (.cells true (I a :: r.map I)))]
abbrev z73c (l : Li) (b : Nat → Nat) (es : List (Int × Int)) (d : Nat) (w : Int) (a : Int) (r : List Int) (c : Nat) : XH := [some (.loop 73 0 [.pt 1 0,.pt 4 0,.pt 5 0,.pt 6 0,.pt 8 0] (.done .ret)),some (.blk false (.cells true [.pt 2 0])),some (.blk false (.cells true (yC l b 3))),some (.blk true (.map true (encM es))),cU d,some (.blk true (.cells true [I w])),some (.blk false (.cells true [.sl 11 0 1 (r.length + 1)])),none,some (.blk false (.cells true [.fn (.func 73) [] [.pt 1 0,.pt 4 0,.pt 5 0,.pt 6 0,.pt 8 0]])),some (.blk false (.cells true [.pt 2 0])),cU c,some (.blk true (.cells true (I a :: r.map I)))]
theorem l73n {d k d2 c : Nat} (hd : d < 2 ^ 10) (hk : k < 10) {es es' es2 : List (Int × Int)} {w r : Int} {a2 : Int} {q2 : List Int} (h : runW progX 75 [.pt 0 0,U d,I (k : Nat)] (hY l b (encM es)) = some (I r,hY l b (encM es'))) (hr : (r ≤ w) = True)
    (hx : runW progX 73 [.pt 0 0,.pt 3 0,.pt 4 0,.pt 5 0,.pt 7 0] (h73c l b es' (d ||| 2 ^ k) w (k : Int) []) = some (.tup [],h73c l b es2 d2 w a2 q2) ∨ runW progX 73 [.pt 0 0,.pt 3 0,.pt 4 0,.pt 5 0,.pt 7 0] (h73c l b es' (d ||| 2 ^ k) w (k : Int) []) = some (.tup [],r73c l b es2 d2 w a2 q2)) :
    Lv 8 2 c (g73n l b es d w .ready) k (z73n l b es2 d2 w a2 q2 c) := by
  have n0 := (eq_false (by omega) : ((k : Int) < 0) = False)
  have o1 := or_n hd hk
  have o2 := or_n1 hd hk
  generalize d ||| 2 ^ k = d' at *
  have y : runYW progX (.fn (.yield 0) [] []) [I (k : Nat)] (g73n l b es d w .ready) = some (.bool false,[some (.loop 73 0 [.pt 1 0,.pt 4 0,.pt 5 0,.pt 6 0,.pt 7 0] (.done .ret)),some (.blk false (.cells true [.pt 2 0])),some (.blk false (.cells true (yC l b 3))),some (.blk true (.map true (encM es2))),cU d2,some (.blk true (.cells true [I w])),some (.blk false (.cells true [.sl 8 0 1 (q2.length + 1)])),some (.blk false (.cells true [.fn (.func 73) [] [.pt 1 0,.pt 4 0,.pt 5 0,.pt 6 0,.pt 7 0]])),some (.blk true (.cells true (I a2 :: q2.map I)))]) := by
    rw [runYW_eq (K := 73) (d := x73) (site := 0) (vs := [.pt 1 0,.pt 4 0,.pt 5 0,.pt 6 0,.pt 7 0]) rfl rfl (by rfl) rfl]
    rcases hx with hx | hx
    · have hx : runW progX 73 [.pt 0 0,.pt 3 0,.pt 4 0,.pt 5 0,.pt 7 0] [some (.blk false (.cells true [.pt 1 0])),some (.blk false (.cells true (yC l b 2))),some (.blk true (.map true (encM es'))),cU d',some (.blk true (.cells true [I w])),some (.blk false (.cells true [.sl 6 0 1 1])),some (.blk true (.cells true [I (k : Nat)])),some (.blk false (.cells true [.fn (.func 73) [] [.pt 0 0,.pt 3 0,.pt 4 0,.pt 5 0,.pt 7 0]]))] = some (.tup [],h73c l b es2 d2 w a2 q2) := hx
      (sym => (simp [yC_nm,yC_rn,yM_s,yC_gr,yC_sl,yC_fz,yC_len,yC_0,yC_1,yC_2,yC_3,yC_4,yC_15,yC_same,Za,Zb,Zc,Zd,Ze,Zf,Zg,Zh,Zi,Zk,Zl,Zm,Zn,Zt,Zz,Z1,ZD,ZE,ZG,ZH,ZI,ZJ,ZK,ZL,ZM,ZN,ZO,ZP,ZQ,ZR,Yl,Ym,Yr,Yv,YQ,YR,YU,YX,YY,Xc,Xd,Xe,Xh,Xo,Xp,Xr,Xt,Xu,Xy,Xz,XK,XN,Wf,Wn,Wq,Wx,Wz,W0,W3,W4,W5,W6,W7,W8,WA,WB,WC,WE,WF,WG,WH,WI,WJ,WK,WL,WM,WN,WO,WP,WQ,WR,WS,WT,WU,WV,WW,WX,WY,WZ,Vb,Vc,Vd,Ve,Vf,Vg,Vh,Vi,Vj,Vk,Vl,Vn,Vo,Vs,Vu,Vv,Vx,Vy,Vz,V0,V8,V9,VA,VB,VM,VP,VQ,VV,VW,VX,VY,VZ,Ua,Ub,Uc,Ud,Ug,Uj,Ul,Um,Un,Uo,Uq,Us,Uv,Uw,Ux,Uz,U0,U1,U2,U3,U4,U5,U6,U7,U8,U9,UC,UE,UF,UG,UH,UI,UJ,UM,UN,UO,UP,UR,US,UT,UU,UY,UZ,Td,Te,Tf,Ti,Tk,Tl,Tm,Tn,Tp,Tq,Tt,Tu,Ty,T1,T2,TA,TL,TM,TN,TO,TW,TX,TY,TZ,Sb,Sf,Sg,Sn,Sq,Sr,Ss,Su,Sy,Sz,S6,h,hr,n0,o1,o2,hx]; all_goals tactic => exact rfl))
    · have hx : runW progX 73 [.pt 0 0,.pt 3 0,.pt 4 0,.pt 5 0,.pt 7 0] [some (.blk false (.cells true [.pt 1 0])),some (.blk false (.cells true (yC l b 2))),some (.blk true (.map true (encM es'))),cU d',some (.blk true (.cells true [I w])),some (.blk false (.cells true [.sl 6 0 1 1])),some (.blk true (.cells true [I (k : Nat)])),some (.blk false (.cells true [.fn (.func 73) [] [.pt 0 0,.pt 3 0,.pt 4 0,.pt 5 0,.pt 7 0]]))] = some (.tup [],r73c l b es2 d2 w a2 q2) := hx
      (sym => (simp [yC_nm,yC_rn,yM_s,yC_gr,yC_sl,yC_fz,yC_len,yC_0,yC_1,yC_2,yC_3,yC_4,yC_15,yC_same,Za,Zb,Zc,Zd,Ze,Zf,Zg,Zh,Zi,Zk,Zl,Zm,Zn,Zt,Zz,Z1,ZD,ZE,ZG,ZH,ZI,ZJ,ZK,ZL,ZM,ZN,ZO,ZP,ZQ,ZR,Yl,Ym,Yr,Yv,YQ,YR,YU,YX,YY,Xc,Xd,Xe,Xh,Xo,Xp,Xr,Xt,Xu,Xy,Xz,XK,XN,Wf,Wn,Wq,Wx,Wz,W0,W3,W4,W5,W6,W7,W8,WA,WB,WC,WE,WF,WG,WH,WI,WJ,WK,WL,WM,WN,WO,WP,WQ,WR,WS,WT,WU,WV,WW,WX,WY,WZ,Vb,Vc,Vd,Ve,Vf,Vg,Vh,Vi,Vj,Vk,Vl,Vn,Vo,Vs,Vu,Vv,Vx,Vy,Vz,V0,V8,V9,VA,VB,VM,VP,VQ,VV,VW,VX,VY,VZ,Ua,Ub,Uc,Ud,Ug,Uj,Ul,Um,Un,Uo,Uq,Us,Uv,Uw,Ux,Uz,U0,U1,U2,U3,U4,U5,U6,U7,U8,U9,UC,UE,UF,UG,UH,UI,UJ,UM,UN,UO,UP,UR,US,UT,UU,UY,UZ,Td,Te,Tf,Ti,Tk,Tl,Tm,Tn,Tp,Tq,Tt,Tu,Ty,T1,T2,TA,TL,TM,TN,TO,TW,TX,TY,TZ,Sb,Sf,Sg,Sn,Sq,Sr,Ss,Su,Sy,Sz,S6,h,hr,n0,o1,o2,hx]; all_goals tactic => exact rfl))
  refine ⟨z73n l b es2 d2 w a2 q2 c,?_,?_,rfl,rfl,rfl⟩
  · (sym => (simp [yC_nm,yC_rn,yM_s,yC_gr,yC_sl,yC_fz,yC_len,yC_0,yC_1,yC_2,yC_3,yC_4,yC_15,yC_same,Za,Zb,Zc,Zd,Ze,Zf,Zg,Zh,Zi,Zk,Zl,Zm,Zn,Zt,Zz,Z1,ZD,ZE,ZG,ZH,ZI,ZJ,ZK,ZL,ZM,ZN,ZO,ZP,ZQ,ZR,Yl,Ym,Yr,Yv,YQ,YR,YU,YX,YY,Xc,Xd,Xe,Xh,Xo,Xp,Xr,Xt,Xu,Xy,Xz,XK,XN,Wf,Wn,Wq,Wx,Wz,W0,W3,W4,W5,W6,W7,W8,WA,WB,WC,WE,WF,WG,WH,WI,WJ,WK,WL,WM,WN,WO,WP,WQ,WR,WS,WT,WU,WV,WW,WX,WY,WZ,Vb,Vc,Vd,Ve,Vf,Vg,Vh,Vi,Vj,Vk,Vl,Vn,Vo,Vs,Vu,Vv,Vx,Vy,Vz,V0,V8,V9,VA,VB,VM,VP,VQ,VV,VW,VX,VY,VZ,Ua,Ub,Uc,Ud,Ug,Uj,Ul,Um,Un,Uo,Uq,Us,Uv,Uw,Ux,Uz,U0,U1,U2,U3,U4,U5,U6,U7,U8,U9,UC,UE,UF,UG,UH,UI,UJ,UM,UN,UO,UP,UR,US,UT,UU,UY,UZ,Td,Te,Tf,Ti,Tk,Tl,Tm,Tn,Tp,Tq,Tt,Tu,Ty,T1,T2,TA,TL,TM,TN,TO,TW,TX,TY,TZ,Sb,Sf,Sg,Sn,Sq,Sr,Ss,Su,Sy,Sz,S6,y]; all_goals tactic => exact rfl))
  · (sym => (simp [yC_nm,yC_rn,yM_s,yC_gr,yC_sl,yC_fz,yC_len,yC_0,yC_1,yC_2,yC_3,yC_4,yC_15,yC_same,Za,Zb,Zc,Zd,Ze,Zf,Zg,Zh,Zi,Zk,Zl,Zm,Zn,Zt,Zz,Z1,ZD,ZE,ZG,ZH,ZI,ZJ,ZK,ZL,ZM,ZN,ZO,ZP,ZQ,ZR,Yl,Ym,Yr,Yv,YQ,YR,YU,YX,YY,Xc,Xd,Xe,Xh,Xo,Xp,Xr,Xt,Xu,Xy,Xz,XK,XN,Wf,Wn,Wq,Wx,Wz,W0,W3,W4,W5,W6,W7,W8,WA,WB,WC,WE,WF,WG,WH,WI,WJ,WK,WL,WM,WN,WO,WP,WQ,WR,WS,WT,WU,WV,WW,WX,WY,WZ,Vb,Vc,Vd,Ve,Vf,Vg,Vh,Vi,Vj,Vk,Vl,Vn,Vo,Vs,Vu,Vv,Vx,Vy,Vz,V0,V8,V9,VA,VB,VM,VP,VQ,VV,VW,VX,VY,VZ,Ua,Ub,Uc,Ud,Ug,Uj,Ul,Um,Un,Uo,Uq,Us,Uv,Uw,Ux,Uz,U0,U1,U2,U3,U4,U5,U6,U7,U8,U9,UC,UE,UF,UG,UH,UI,UJ,UM,UN,UO,UP,UR,US,UT,UU,UY,UZ,Td,Te,Tf,Ti,Tk,Tl,Tm,Tn,Tp,Tq,Tt,Tu,Ty,T1,T2,TA,TL,TM,TN,TO,TW,TX,TY,TZ,Sb,Sf,Sg,Sn,Sq,Sr,Ss,Su,Sy,Sz,S6]; all_goals tactic => exact rfl))
theorem l73c {d k d2 c : Nat} (hd : d < 2 ^ 10) (hk : k < 10) {es es' es2 : List (Int × Int)} {w r a : Int} {q : List Int} {a2 : Int} {q2 : List Int} (hq : q.length ≤ 10) (h : runW progX 75 [.pt 0 0,U d,I (k : Nat)] (hY l b (encM es)) = some (I r,hY l b (encM es'))) (hr : (r ≤ w) = True)
    (hx : runW progX 73 [.pt 0 0,.pt 3 0,.pt 4 0,.pt 5 0,.pt 7 0] (h73c l b es' (d ||| 2 ^ k) w a (q ++ [(k : Int)])) = some (.tup [],h73c l b es2 d2 w a2 q2) ∨ runW progX 73 [.pt 0 0,.pt 3 0,.pt 4 0,.pt 5 0,.pt 7 0] (h73c l b es' (d ||| 2 ^ k) w a (q ++ [(k : Int)])) = some (.tup [],r73c l b es2 d2 w a2 q2)) :
    Lv 9 2 c (g73c l b es d w a q .ready) k (z73c l b es2 d2 w a2 q2 c) := by
  have n0 := (eq_false (by omega) : ((k : Int) < 0) = False)
  have o1 := or_n hd hk
  have o2 := or_n1 hd hk
  have b1 : ((q.length + 1 + 1) * 8 ≤ 1099511627776) = True := eq_true (by omega)
  have b2 : (q.length + 1 + 1 ≤ 1099511627776) = True := eq_true (by omega)
  generalize d ||| 2 ^ k = d' at *
  have y : runYW progX (.fn (.yield 0) [] []) [I (k : Nat)] (g73c l b es d w a q .ready) = some (.bool false,[some (.loop 73 0 [.pt 1 0,.pt 4 0,.pt 5 0,.pt 6 0,.pt 8 0] (.done .ret)),some (.blk false (.cells true [.pt 2 0])),some (.blk false (.cells true (yC l b 3))),some (.blk true (.map true (encM es2))),cU d2,some (.blk true (.cells true [I w])),some (.blk false (.cells true [.sl 9 0 1 (q2.length + 1)])),none,some (.blk false (.cells true [.fn (.func 73) [] [.pt 1 0,.pt 4 0,.pt 5 0,.pt 6 0,.pt 8 0]])),some (.blk true (.cells true (I a2 :: q2.map I)))]) := by
    rw [runYW_eq (K := 73) (d := x73) (site := 0) (vs := [.pt 1 0,.pt 4 0,.pt 5 0,.pt 6 0,.pt 8 0]) rfl rfl (by rfl) rfl]
    unfold h73c r73c at hx
    simp only [List.map_append,List.map_cons,List.map_nil,List.length_append,List.length_cons,List.length_nil,Nat.zero_add] at hx
    rcases hx with hx | hx
    · (sym => (simp [yC_nm,yC_rn,yM_s,yC_gr,yC_sl,yC_fz,yC_len,yC_0,yC_1,yC_2,yC_3,yC_4,yC_15,yC_same,Za,Zb,Zc,Zd,Ze,Zf,Zg,Zh,Zi,Zk,Zl,Zm,Zn,Zt,Zz,Z1,ZD,ZE,ZG,ZH,ZI,ZJ,ZK,ZL,ZM,ZN,ZO,ZP,ZQ,ZR,Yl,Ym,Yr,Yv,YQ,YR,YU,YX,YY,Xc,Xd,Xe,Xh,Xo,Xp,Xr,Xt,Xu,Xy,Xz,XK,XN,Wf,Wn,Wq,Wx,Wz,W0,W3,W4,W5,W6,W7,W8,WA,WB,WC,WE,WF,WG,WH,WI,WJ,WK,WL,WM,WN,WO,WP,WQ,WR,WS,WT,WU,WV,WW,WX,WY,WZ,Va,Vb,Vc,Vd,Ve,Vf,Vg,Vh,Vi,Vj,Vk,Vl,Vn,Vo,Vs,Vu,Vv,Vx,Vy,Vz,V0,V8,V9,VA,VB,VM,VP,VQ,VV,VW,VX,VY,VZ,Ua,Ub,Uc,Ud,Ue,Ug,Uj,Ul,Um,Un,Uo,Uq,Us,Uv,Uw,Ux,Uz,U0,U1,U2,U3,U4,U5,U6,U7,U8,U9,UC,UE,UF,UG,UH,UI,UJ,UM,UN,UO,UP,UR,US,UT,UV,UW,UY,UZ,Td,Te,Tf,Ti,Tj,Tk,Tl,Tn,Tp,Tq,Tt,Tu,Ty,T1,T2,T4,TA,TL,TM,TN,TO,TW,TX,TY,TZ,Sb,Sf,Sg,Sn,Sq,Sr,Ss,Su,Sy,Sz,S6,h,hr,n0,o1,o2,hx,b1,b2]; all_goals tactic => exact rfl))
    · (sym => (simp [yC_nm,yC_rn,yM_s,yC_gr,yC_sl,yC_fz,yC_len,yC_0,yC_1,yC_2,yC_3,yC_4,yC_15,yC_same,Za,Zb,Zc,Zd,Ze,Zf,Zg,Zh,Zi,Zk,Zl,Zm,Zn,Zt,Zz,Z1,ZD,ZE,ZG,ZH,ZI,ZJ,ZK,ZL,ZM,ZN,ZO,ZP,ZQ,ZR,Yl,Ym,Yr,Yv,YQ,YR,YU,YX,YY,Xc,Xd,Xe,Xh,Xo,Xp,Xr,Xt,Xu,Xy,Xz,XK,XN,Wf,Wn,Wq,Wx,Wz,W0,W3,W4,W5,W6,W7,W8,WA,WB,WC,WE,WF,WG,WH,WI,WJ,WK,WL,WM,WN,WO,WP,WQ,WR,WS,WT,WU,WV,WW,WX,WY,WZ,Va,Vb,Vc,Vd,Ve,Vf,Vg,Vh,Vi,Vj,Vk,Vl,Vn,Vo,Vs,Vu,Vv,Vx,Vy,Vz,V0,V8,V9,VA,VB,VM,VP,VQ,VV,VW,VX,VY,VZ,Ua,Ub,Uc,Ud,Ue,Ug,Uj,Ul,Um,Un,Uo,Uq,Us,Uv,Uw,Ux,Uz,U0,U1,U2,U3,U4,U5,U6,U7,U8,U9,UC,UE,UF,UG,UH,UI,UJ,UM,UN,UO,UP,UR,US,UT,UV,UW,UY,UZ,Td,Te,Tf,Ti,Tj,Tk,Tl,Tn,Tp,Tq,Tt,Tu,Ty,T1,T2,T4,TA,TL,TM,TN,TO,TW,TX,TY,TZ,Sb,Sf,Sg,Sn,Sq,Sr,Ss,Su,Sy,Sz,S6,h,hr,n0,o1,o2,hx,b1,b2]; all_goals tactic => exact rfl))
  refine ⟨z73c l b es2 d2 w a2 q2 c,?_,?_,rfl,rfl,rfl⟩
  · (sym => (simp [yC_nm,yC_rn,yM_s,yC_gr,yC_sl,yC_fz,yC_len,yC_0,yC_1,yC_2,yC_3,yC_4,yC_15,yC_same,Za,Zb,Zc,Zd,Ze,Zf,Zg,Zh,Zi,Zk,Zl,Zm,Zn,Zt,Zz,Z1,ZD,ZE,ZG,ZH,ZI,ZJ,ZK,ZL,ZM,ZN,ZO,ZP,ZQ,ZR,Yl,Ym,Yr,Yv,YQ,YR,YU,YX,YY,Xc,Xd,Xe,Xh,Xo,Xp,Xr,Xt,Xu,Xy,Xz,XK,XN,Wf,Wn,Wq,Wx,Wz,W0,W3,W4,W5,W6,W7,W8,WA,WB,WC,WE,WF,WG,WH,WI,WJ,WK,WL,WM,WN,WO,WP,WQ,WR,WS,WT,WU,WV,WW,WX,WY,WZ,Va,Vb,Vc,Vd,Ve,Vf,Vg,Vh,Vi,Vj,Vk,Vl,Vn,Vo,Vs,Vu,Vv,Vx,Vy,Vz,V0,V8,V9,VA,VB,VM,VP,VQ,VV,VW,VX,VY,VZ,Ua,Ub,Uc,Ud,Ue,Ug,Uj,Ul,Um,Un,Uo,Uq,Us,Uv,Uw,Ux,Uz,U0,U1,U2,U3,U4,U5,U6,U7,U8,U9,UC,UE,UF,UG,UH,UI,UJ,UM,UN,UO,UP,UR,US,UT,UV,UW,UY,UZ,Td,Te,Tf,Ti,Tj,Tk,Tl,Tn,Tp,Tq,Tt,Tu,Ty,T1,T2,T4,TA,TL,TM,TN,TO,TW,TX,TY,TZ,Sb,Sf,Sg,Sn,Sq,Sr,Ss,Su,Sy,Sz,S6,y]; all_goals tactic => exact rfl))
  · (sym => (simp [yC_nm,yC_rn,yM_s,yC_gr,yC_sl,yC_fz,yC_len,yC_0,yC_1,yC_2,yC_3,yC_4,yC_15,yC_same,Za,Zb,Zc,Zd,Ze,Zf,Zg,Zh,Zi,Zk,Zl,Zm,Zn,Zt,Zz,Z1,ZD,ZE,ZG,ZH,ZI,ZJ,ZK,ZL,ZM,ZN,ZO,ZP,ZQ,ZR,Yl,Ym,Yr,Yv,YQ,YR,YU,YX,YY,Xc,Xd,Xe,Xh,Xo,Xp,Xr,Xt,Xu,Xy,Xz,XK,XN,Wf,Wn,Wq,Wx,Wz,W0,W3,W4,W5,W6,W7,W8,WA,WB,WC,WE,WF,WG,WH,WI,WJ,WK,WL,WM,WN,WO,WP,WQ,WR,WS,WT,WU,WV,WW,WX,WY,WZ,Va,Vb,Vc,Vd,Ve,Vf,Vg,Vh,Vi,Vj,Vk,Vl,Vn,Vo,Vs,Vu,Vv,Vx,Vy,Vz,V0,V8,V9,VA,VB,VM,VP,VQ,VV,VW,VX,VY,VZ,Ua,Ub,Uc,Ud,Ue,Ug,Uj,Ul,Um,Un,Uo,Uq,Us,Uv,Uw,Ux,Uz,U0,U1,U2,U3,U4,U5,U6,U7,U8,U9,UC,UE,UF,UG,UH,UI,UJ,UM,UN,UO,UP,UR,US,UT,UV,UW,UY,UZ,Td,Te,Tf,Ti,Tj,Tk,Tl,Tn,Tp,Tq,Tt,Tu,Ty,T1,T2,T4,TA,TL,TM,TN,TO,TW,TX,TY,TZ,Sb,Sf,Sg,Sn,Sq,Sr,Ss,Su,Sy,Sz,S6]; all_goals tactic => exact rfl))
end
end Go.Proofs.YtpbeclkpohehgaaDoor
namespace Go.Proofs.YtpbeclkpohehgaaDoor
open Go Go.DL
set_option maxRecDepth 100000
set_option maxHeartbeats 4000000

theorem pick_some {l : Li} {b : Nat → Nat} {w : Int} {d k : Nat} (hk : k < l.ls.length) (hg : goodB l b w d k = true) (hno : ∀ j,j < k → goodB l b w d j = false) : pickF l b w d = some k := by
  rcases range_find (P := goodB l b w d) (n := l.ls.length) with ⟨k',h1,h2,h3,h4⟩ | ⟨_,h2⟩
  · have : k' = k := by
      rcases Nat.lt_trichotomy k' k with h | h | h
      · rw [hno k' h] at h3; simp at h3
      · exact h
      · rw [h4 k h] at hg; simp at hg
    rw [← this]; exact h1
  · rw [h2 k hk] at hg; simp at hg
theorem pick_none {l : Li} {b : Nat → Nat} {w : Int} {d : Nat} (hno : ∀ j,j < l.ls.length → goodB l b w d j = false) : pickF l b w d = none := by
  rcases range_find (P := goodB l b w d) (n := l.ls.length) with ⟨k',_,h2,h3,_⟩ | ⟨h1,_⟩
  · rw [hno k' h2] at h3; simp at h3
  · exact h1
def ofN (ks : List Nat) : List Int := ks.map Int.ofNat
theorem ofN_c (k : Nat) (ks : List Nat) : ofN (k :: ks) = (k : Int) :: ofN ks := rfl
theorem ofN_0 : ofN [] = [] := rfl
section
variable {l : Li} {b : Nat → Nat}
abbrev t73c (l : Li) (b : Nat → Nat) (es : List (Int × Int)) (d : Nat) (w : Int) (a : Int) (r : List Int) (s : LSt) (c : Nat) : XH := [some (.loop 73 0 [.pt 1 0,.pt 4 0,.pt 5 0,.pt 6 0,.pt 8 0] s),some (.blk false (.cells true [.pt 2 0])),some (.blk false (.cells true (yC l b 3))),some (.blk true (.map true (encM es))),cU d,some (.blk true (.cells true [I w])),some (.blk false (.cells true [.sl 7 0 1 (r.length + 1)])),some (.blk true (.cells true (I a :: r.map I))),some (.blk false (.cells true [.fn (.func 73) [] [.pt 1 0,.pt 4 0,.pt 5 0,.pt 6 0,.pt 8 0]])),some (.blk false (.cells true [.pt 2 0])),cU c]
abbrev t73n (l : Li) (b : Nat → Nat) (es : List (Int × Int)) (d : Nat) (w : Int) (s : LSt) (c : Nat) : XH := [some (.loop 73 0 [.pt 1 0,.pt 4 0,.pt 5 0,.pt 6 0,.pt 7 0] s),some (.blk false (.cells true [.pt 2 0])),some (.blk false (.cells true (yC l b 3))),some (.blk true (.map true (encM es))),cU d,some (.blk true (.cells true [I w])),some (.blk true (.cells true [.nilsl])),some (.blk false (.cells true [.fn (.func 73) [] [.pt 1 0,.pt 4 0,.pt 5 0,.pt 6 0,.pt 7 0]])),some (.blk false (.cells true [.pt 2 0])),cU c]
theorem w73c (g : Good l) (p : Prec l.ls.length b) (w : Int) : ∀ (m d : Nat),d < 2 ^ l.ls.length → l.ls.length - pop d l.ls.length = m → ∀ es,Memo l b es → ∀ (a : Int) (q : List Int),q.length + m ≤ 10 →
    ∃ es2 d2,runW progX 73 [.pt 0 0,.pt 3 0,.pt 4 0,.pt 5 0,.pt 7 0] (h73c l b es d w a q) = some (.tup [],h73c l b es2 d2 w a (q ++ ofN (bstF l b w d))) ∨ runW progX 73 [.pt 0 0,.pt 3 0,.pt 4 0,.pt 5 0,.pt 7 0] (h73c l b es d w a q) = some (.tup [],r73c l b es2 d2 w a (q ++ ofN (bstF l b w d))) := by
  have hn := g.few
  have hb : ∀ k,b k < 2 ^ 10 := fun k => lt_10 (p.lt k) hn
  intro m
  induction m using Nat.strongRecOn with
  | ind m ih =>
    intro d hd hm es he a q hq
    have hr := next_rule (n := 9) (p := 2) (d := d) hn hb (lt_10 hd hn) (fun es => g73c l b es d w a q .ready) (fun es => home73c es d w a q .ready) (fun k es1 => Memo l b es1 ∧ ∀ j,j < k → goodB l b w d j = false)
      (fun X => ∃ es2 d2,X = z73c l b es2 d2 w a (q ++ ofN (bstF l b w d)) d) es ⟨he,fun j hj => by omega⟩
      (by
        rintro k es1 hk ⟨he1,hno⟩ hcb
        have hpo := (pop_or (can_bit hcb) l.ls.length).1 hk
        have hle := pop_le (d ||| 2 ^ k) l.ls.length
        obtain ⟨es2,he2,e72⟩ := w72 g p _ (d ||| 2 ^ k) (or_lt hd hk) rfl es1 he1
        have e75 := w75 g hd hk e72
        by_cases hw : wthF l b d k ≤ w
        · have hg : goodB l b w d k = true := by unfold goodB; rw [hcb,decide_eq_true hw]; rfl
          have hbs := bst_some (pick_some hk hg hno)
          obtain ⟨es3,d3,hx⟩ := ih (l.ls.length - pop (d ||| 2 ^ k) l.ls.length) (by omega) (d ||| 2 ^ k) (or_lt hd hk) rfl es2 he2 a (q ++ [(k : Int)]) (by simp; omega)
          have eq : q ++ [(k : Int)] ++ ofN (bstF l b w (d ||| 2 ^ k)) = q ++ ofN (bstF l b w d) := by rw [hbs.1,ofN_c]; simp
          rw [eq] at hx
          exact .inr ⟨_,l73c (lt_10 hd hn) (by omega) (by omega) e75 (eq_true hw) hx,es3,d3,rfl⟩
        · refine .inl ⟨es2,y73c e75 (eq_false hw),he2,fun j hj => ?_⟩
          by_cases hjk : j = k
          · subst hjk; unfold goodB; rw [decide_eq_false hw,Bool.and_false]
          · exact hno j (by omega))
      (by
        rintro k es1 hk ⟨he1,hno⟩ hcb
        refine ⟨he1,fun j hj => ?_⟩
        by_cases hjk : j = k
        · subst hjk; unfold goodB; rw [hcb,Bool.false_and]
        · exact hno j (by omega))
    have e74 := w74 (l := l) (b := b) (encM es) d
    rcases hr with ⟨es1,⟨_,hno⟩,hr⟩ | ⟨X,⟨es2,d2,rfl⟩,hr⟩
    · refine ⟨es1,d,.inl ?_⟩
      have hr : runW progX 105 [.fn (.yield 0) [] [],.pt 9 0,.pt 10 0] (t73c l b es d w a q .ready d) = some (.tup [],t73c l b es1 d w a q .ready d) := hr
      rw [(bst_none (pick_none hno)).1,ofN_0,List.append_nil]
      rw [r73 (by simp)]; unfold x73; dsimp only
      (sym => (simp [yC_nm,yC_rn,yM_s,yC_gr,yC_sl,yC_fz,yC_len,yC_0,yC_1,yC_2,yC_3,yC_4,yC_15,yC_same,Za,Zb,Zf,Zg,Zj,Zl,Zm,ZD,ZL,ZM,ZQ,ZR,YQ,YU,YX,YY,Xc,Xd,Xo,Xr,Xt,Xu,Xy,Xz,XK,XN,Wf,Wi,Wz,W0,W3,W4,W7,W8,W9,WA,WB,WC,WE,WF,WG,WH,WI,WJ,WK,WL,WM,WN,WO,WP,WQ,WR,WS,WT,WU,WV,WW,WX,WY,WZ,Va,Vb,Vc,Vd,Ve,Vf,Vg,Vh,Vi,Vs,Vu,Vv,Vx,Vy,Vz,V0,V5,V6,V7,V9,VA,VB,VC,VE,VG,VL,VU,VV,VW,VX,VY,VZ,Ua,Ub,Uc,Ud,Ug,Uj,Uv,Uw,U1,U2,U3,U4,U5,U8,U9,UC,UD,UY,UZ,Td,Tp,Tt,Tu,Tx,Ty,T1,T2,TL,TM,TP,TQ,TR,TS,TT,TU,TV,Sg,Sy,Sz,S6,e74,hr]; all_goals tactic => exact rfl))
    · refine ⟨es2,d2,.inr ?_⟩
      have hr : runW progX 105 [.fn (.yield 0) [] [],.pt 9 0,.pt 10 0] (t73c l b es d w a q .ready d) = some (.tup [],z73c l b es2 d2 w a (q ++ ofN (bstF l b w d)) d) := hr
      generalize q ++ ofN (bstF l b w d) = q2 at *
      rw [r73 (by simp)]; unfold x73; dsimp only
      (sym => (simp [yC_nm,yC_rn,yM_s,yC_gr,yC_sl,yC_fz,yC_len,yC_0,yC_1,yC_2,yC_3,yC_4,yC_15,yC_same,Za,Zb,Zf,Zg,Zj,Zl,Zm,ZD,ZL,ZM,ZQ,ZR,YQ,YU,YX,YY,Xc,Xd,Xo,Xr,Xt,Xu,Xy,Xz,XK,XN,Wf,Wi,Wz,W0,W3,W4,W7,W8,W9,WA,WB,WC,WE,WF,WG,WH,WI,WJ,WK,WL,WM,WN,WO,WP,WQ,WR,WS,WT,WU,WV,WW,WX,WY,WZ,Va,Vb,Vc,Vd,Ve,Vf,Vg,Vh,Vi,Vs,Vu,Vv,Vx,Vy,Vz,V0,V5,V6,V7,V9,VA,VB,VC,VE,VG,VL,VU,VV,VW,VX,VY,VZ,Ua,Ub,Uc,Ud,Ug,Uj,Uv,Uw,U1,U2,U3,U4,U5,U8,U9,UC,UD,UY,UZ,Td,Tp,Tt,Tu,Tx,Ty,T1,T2,TL,TM,TP,TQ,TR,TS,TT,TU,TV,Sg,Sy,Sz,S6,e74,hr]; all_goals tactic => exact rfl))
theorem w73n (g : Good l) (p : Prec l.ls.length b) (w : Int) {d : Nat} (hd : d < 2 ^ l.ls.length) {es : List (Int × Int)} (he : Memo l b es) :
    ∃ es2 d2,(bstF l b w d = [] ∧ runW progX 73 [.pt 0 0,.pt 3 0,.pt 4 0,.pt 5 0,.pt 6 0] (h73n l b es d w) = some (.tup [],h73n l b es2 d2 w)) ∨ ∃ k ks,bstF l b w d = k :: ks ∧ runW progX 73 [.pt 0 0,.pt 3 0,.pt 4 0,.pt 5 0,.pt 6 0] (h73n l b es d w) = some (.tup [],r73n l b es2 d2 w (k : Int) (ofN ks)) := by
  have hn := g.few
  have hb : ∀ k,b k < 2 ^ 10 := fun k => lt_10 (p.lt k) hn
  have hr := next_rule (n := 8) (p := 2) (d := d) hn hb (lt_10 hd hn) (fun es => g73n l b es d w .ready) (fun es => home73n es d w .ready) (fun k es1 => Memo l b es1 ∧ ∀ j,j < k → goodB l b w d j = false)
    (fun X => ∃ es2 d2 k ks,bstF l b w d = k :: ks ∧ X = z73n l b es2 d2 w (k : Int) (ofN ks) d) es ⟨he,fun j hj => by omega⟩
    (by
      rintro k es1 hk ⟨he1,hno⟩ hcb
      have hpo := (pop_or (can_bit hcb) l.ls.length).1 hk
      have hle := pop_le (d ||| 2 ^ k) l.ls.length
      obtain ⟨es2,he2,e72⟩ := w72 g p _ (d ||| 2 ^ k) (or_lt hd hk) rfl es1 he1
      have e75 := w75 g hd hk e72
      by_cases hw : wthF l b d k ≤ w
      · have hg : goodB l b w d k = true := by unfold goodB; rw [hcb,decide_eq_true hw]; rfl
        have hbs := bst_some (pick_some hk hg hno)
        obtain ⟨es3,d3,hx⟩ := w73c g p w _ (d ||| 2 ^ k) (or_lt hd hk) rfl es2 he2 (k : Int) [] (by simp; omega)
        exact .inr ⟨_,l73n (lt_10 hd hn) (by omega) e75 (eq_true hw) hx,es3,d3,k,_,hbs.1,rfl⟩
      · refine .inl ⟨es2,y73n e75 (eq_false hw),he2,fun j hj => ?_⟩
        by_cases hjk : j = k
        · subst hjk; unfold goodB; rw [decide_eq_false hw,Bool.and_false]
        · exact hno j (by omega))
    (by
      rintro k es1 hk ⟨he1,hno⟩ hcb
      refine ⟨he1,fun j hj => ?_⟩
      by_cases hjk : j = k
      · subst hjk; unfold goodB; rw [hcb,Bool.false_and]
      · exact hno j (by omega))
  have e74 := w74 (l := l) (b := b) (encM es) d
  rcases hr with ⟨es1,⟨_,hno⟩,hr⟩ | ⟨X,⟨es2,d2,k,ks,hbs,rfl⟩,hr⟩
  · refine ⟨es1,d,.inl ⟨(bst_none (pick_none hno)).1,?_⟩⟩
    have hr : runW progX 105 [.fn (.yield 0) [] [],.pt 8 0,.pt 9 0] (t73n l b es d w .ready d) = some (.tup [],t73n l b es1 d w .ready d) := hr
    rw [r73 (by simp)]; unfold x73; dsimp only
    (sym => (simp [yC_nm,yC_rn,yM_s,yC_gr,yC_sl,yC_fz,yC_len,yC_0,yC_1,yC_2,yC_3,yC_4,yC_15,yC_same,Za,Zb,Zf,Zg,Zj,Zl,Zm,ZD,ZL,ZM,ZQ,ZR,YQ,YU,YX,YY,Xc,Xd,Xo,Xr,Xt,Xu,Xy,Xz,XK,XN,Wf,Wi,Wz,W0,W3,W4,W7,W8,W9,WA,WB,WC,WE,WF,WG,WH,WI,WJ,WK,WL,WM,WN,WO,WP,WQ,WR,WS,WT,WU,WW,WX,WY,WZ,Vb,Vc,Vd,Ve,Vf,Vg,Vh,Vi,Vs,Vu,Vv,Vx,Vy,Vz,V0,V5,V6,V7,V9,VA,VB,VC,VE,VG,VL,VU,VV,VW,VX,VY,VZ,Ua,Ub,Uc,Ud,Ug,Uj,Uv,Uw,U1,U2,U3,U4,U5,U8,U9,UC,UD,UY,UZ,Td,Tp,Tt,Tu,Tx,Ty,T1,T2,TL,TM,TP,TQ,TR,TS,TT,TU,TV,Sg,Sy,Sz,S6,e74,hr]; all_goals tactic => exact rfl))
  · refine ⟨es2,d2,.inr ⟨k,ks,hbs,?_⟩⟩
    have hr : runW progX 105 [.fn (.yield 0) [] [],.pt 8 0,.pt 9 0] (t73n l b es d w .ready d) = some (.tup [],z73n l b es2 d2 w (k : Int) (ofN ks) d) := hr
    rw [r73 (by simp)]; unfold x73; dsimp only
    (sym => (simp [yC_nm,yC_rn,yM_s,yC_gr,yC_sl,yC_fz,yC_len,yC_0,yC_1,yC_2,yC_3,yC_4,yC_15,yC_same,Za,Zb,Zf,Zg,Zj,Zl,Zm,ZD,ZL,ZM,ZQ,ZR,YQ,YU,YX,YY,Xc,Xd,Xo,Xr,Xt,Xu,Xy,Xz,XK,XN,Wf,Wi,Wz,W0,W3,W4,W7,W8,W9,WA,WB,WC,WE,WF,WG,WH,WI,WJ,WK,WL,WM,WN,WO,WP,WQ,WR,WS,WT,WU,WW,WX,WY,WZ,Vb,Vc,Vd,Ve,Vf,Vg,Vh,Vi,Vs,Vu,Vv,Vx,Vy,Vz,V0,V5,V6,V7,V9,VA,VB,VC,VE,VG,VL,VU,VV,VW,VX,VY,VZ,Ua,Ub,Uc,Ud,Ug,Uj,Uv,Uw,U1,U2,U3,U4,U5,U8,U9,UC,UD,UY,UZ,Td,Tp,Tt,Tu,Tx,Ty,T1,T2,TL,TM,TP,TQ,TR,TS,TT,TU,TV,Sg,Sy,Sz,S6,e74,hr]; all_goals tactic => exact rfl))
end
end Go.Proofs.YtpbeclkpohehgaaDoor
namespace Go.Proofs.YtpbeclkpohehgaaDoor
open Go Go.DL
set_option maxRecDepth 100000
set_option maxHeartbeats 4000000

def minW (l : Li) : Int := rstF l (behF l.ts) 0
def bestO (l : Li) : List Nat := bstF l (behF l.ts) (minW l) 0
def bestR (l : Li) : Option (AV × XH) := if checkL l = 0 then some (.tup [rI (ofN (bestO l)),I (minW l),I 0],[]) else some (.tup [.fs [],I 0,I (checkL l)],[])
theorem w29 (l : Li) (hf : l.Fit) : runW progX 29 [.agg l.c] [] = bestR l := by
  have e52 := w52 l hf
  unfold w52R at e52
  unfold bestR
  by_cases hc : checkL l = 0
  · rw [if_pos hc]
    rw [if_pos hc] at e52
    have g := good_of hc
    have hn := g.few
    have p := g.prec
    unfold bestO minW
    generalize behF l.ts = b at *
    obtain ⟨es1,he1,e72⟩ := w72 g p _ 0 (Nat.two_pow_pos _) rfl [] (memo_0 l b)
    have e72 : runW progX 72 [.pt 0 0,.int .u64 0] [some (.blk false (.cells true (yC l b 1))),some (.blk true (.map true []))] = some (I (rstF l b 0),hY l b (encM es1)) := e72
    generalize rstF l b 0 = w at *
    obtain ⟨es2,d2,hx⟩ := w73n g p w (d := 0) (Nat.two_pow_pos _) he1
    rcases hx with ⟨h1,e73⟩ | ⟨k,ks,h1,e73⟩
    · have e73 : runW progX 73 [.pt 0 0,.pt 3 0,.pt 4 0,.pt 5 0,.pt 6 0] [some (.blk false (.cells true [.pt 1 0])),some (.blk false (.cells true (yC l b 2))),some (.blk true (.map true (encM es1))),some (.blk true (.cells true [.int .u64 0])),some (.blk true (.cells true [I w])),some (.blk true (.cells true [.nilsl])),some (.blk false (.cells true [.fn (.func 73) [] [.pt 0 0,.pt 3 0,.pt 4 0,.pt 5 0,.pt 6 0]]))] = some (.tup [],h73n l b es2 d2 w) := e73
      rw [h1,ofN_0]
      rw [r29 (by simp)]; unfold x29; dsimp only
      (sym => (simp [yC_nm,yC_rn,yM_s,yC_gr,yC_sl,yC_fz,yC_len,yC_0,yC_1,yC_2,yC_3,yC_4,yC_15,yC_same,Za,Zb,Zc,Zd,Ze,Zf,Zg,Zh,Zi,Zj,Zl,Zm,Zn,Zt,Zu,Zv,Zx,Z1,ZA,ZD,ZE,ZG,ZH,ZI,ZJ,ZK,ZL,ZM,ZQ,ZR,Yg,Yp,YQ,YT,YU,YV,YY,Xc,Xe,Xf,Xg,Xh,Xi,Xk,Xl,Xm,Xn,Xo,Xq,Xr,Xs,Xt,Xu,Xx,Xy,X0,XK,XM,XN,XO,XU,XW,XY,XZ,Wb,Wc,We,Wf,Wg,Wj,Wn,Wo,Wq,Wr,Wt,Wu,Wv,Wx,Wz,W0,W3,W4,W5,W6,W7,W8,W9,WA,WB,WC,WE,WF,WH,WI,WJ,WK,WL,WM,WN,WO,WP,WQ,WS,WT,WU,WW,WX,WY,Vc,Vd,Vf,Vg,Vh,Vi,Vj,Vk,Vp,Vq,Vr,Vs,Vt,Vu,Vv,Vx,Vy,Vz,V0,V2,V3,V4,V6,V7,V9,VA,VB,VC,VF,VG,VH,VI,VJ,VK,VL,VP,VQ,VR,VU,VV,VW,VX,VY,VZ,Ub,Uc,Ud,Ue,Ug,Uj,Ul,Um,Un,Uo,Uq,Ur,Us,Uv,Uw,Ux,Uy,Uz,U0,U1,U2,U3,U4,U5,U6,U7,U8,U9,UA,UB,UC,UD,UE,UK,UL,UY,UZ,Tc,Td,Te,Tf,Ti,Tn,Tp,Tq,Tr,Tu,Tw,T1,T2,T4,T5,T7,TK,Sf,Sg,Sj,Sl,Sy,Sz,S6,e52,e72,e73]; all_goals tactic => exact rfl))
    · have e73 : runW progX 73 [.pt 0 0,.pt 3 0,.pt 4 0,.pt 5 0,.pt 6 0] [some (.blk false (.cells true [.pt 1 0])),some (.blk false (.cells true (yC l b 2))),some (.blk true (.map true (encM es1))),some (.blk true (.cells true [.int .u64 0])),some (.blk true (.cells true [I w])),some (.blk true (.cells true [.nilsl])),some (.blk false (.cells true [.fn (.func 73) [] [.pt 0 0,.pt 3 0,.pt 4 0,.pt 5 0,.pt 6 0]]))] = some (.tup [],r73n l b es2 d2 w (k : Int) (ofN ks)) := e73
      rw [h1,ofN_c]
      rw [r29 (by simp)]; unfold x29; dsimp only
      (sym => (simp [yC_nm,yC_rn,yM_s,yC_gr,yC_sl,yC_fz,yC_len,yC_0,yC_1,yC_2,yC_3,yC_4,yC_15,yC_same,Za,Zb,Zc,Zd,Ze,Zf,Zg,Zh,Zi,Zj,Zl,Zm,Zn,Zt,Zu,Zv,Zx,Z1,ZA,ZD,ZE,ZG,ZH,ZI,ZJ,ZK,ZL,ZM,ZQ,ZR,Yg,Yp,YQ,YT,YU,YV,YY,Xc,Xe,Xf,Xg,Xh,Xi,Xk,Xl,Xm,Xn,Xo,Xq,Xr,Xs,Xt,Xu,Xx,Xy,X0,XK,XM,XN,XO,XU,XW,XY,XZ,Wb,Wc,We,Wf,Wg,Wj,Wn,Wo,Wq,Wr,Wt,Wu,Wv,Wx,Wz,W0,W3,W4,W5,W6,W7,W8,W9,WA,WB,WC,WE,WF,WH,WI,WJ,WK,WL,WM,WN,WO,WP,WQ,WS,WT,WU,WW,WX,WY,Vc,Vd,Vf,Vg,Vh,Vi,Vj,Vk,Vp,Vq,Vr,Vs,Vt,Vu,Vv,Vx,Vy,Vz,V0,V2,V3,V4,V6,V7,V9,VA,VB,VC,VF,VG,VH,VI,VJ,VK,VL,VP,VQ,VR,VU,VV,VW,VX,VY,VZ,Ub,Uc,Ud,Ue,Ug,Uj,Ul,Um,Un,Uo,Uq,Ur,Us,Uv,Uw,Ux,Uy,Uz,U0,U1,U2,U3,U4,U5,U6,U7,U8,U9,UA,UB,UC,UD,UE,UK,UL,UY,UZ,Tc,Td,Te,Tf,Ti,Tn,Tp,Tq,Tr,Tu,Tw,T1,T2,T4,T5,T7,TK,Sf,Sg,Sj,Sl,Sy,Sz,S6,e52,e72,e73]; all_goals tactic => exact rfl))
  · rw [if_neg hc]
    rw [if_neg hc] at e52
    have g := eq_false hc
    rw [r29 (by simp)]; unfold x29; dsimp only
    (sym => (simp [yC_nm,yC_rn,yM_s,yC_gr,yC_sl,yC_fz,yC_len,yC_0,yC_1,yC_2,yC_3,yC_4,yC_15,yC_same,Za,Zb,Zc,Zd,Ze,Zf,Zg,Zh,Zi,Zj,Zl,Zm,Zn,Zt,Zu,Zv,Zx,Z1,ZA,ZD,ZE,ZG,ZH,ZI,ZJ,ZK,ZL,ZM,ZQ,ZR,Yg,Yp,YQ,YT,YU,YV,YY,Xc,Xe,Xf,Xg,Xh,Xi,Xk,Xl,Xm,Xn,Xo,Xq,Xr,Xs,Xt,Xu,Xx,Xy,X0,XK,XM,XN,XO,XU,XW,XY,XZ,Wb,Wc,We,Wf,Wg,Wj,Wn,Wo,Wq,Wr,Wt,Wu,Wv,Wx,Wz,W0,W3,W4,W5,W6,W7,W8,W9,WA,WB,WC,WE,WF,WH,WI,WJ,WK,WL,WM,WN,WO,WP,WQ,WS,WT,WU,WW,WX,WY,Vc,Vd,Vf,Vg,Vh,Vi,Vj,Vk,Vp,Vq,Vr,Vs,Vt,Vu,Vv,Vx,Vy,Vz,V0,V2,V3,V4,V6,V7,V9,VA,VB,VC,VF,VG,VH,VI,VJ,VK,VL,VP,VQ,VR,VU,VV,VW,VX,VY,VZ,Ub,Uc,Ud,Ue,Ug,Uj,Ul,Um,Un,Uo,Uq,Ur,Us,Uv,Uw,Ux,Uy,Uz,U0,U1,U2,U3,U4,U5,U6,U7,U8,U9,UA,UB,UC,UD,UE,UK,UL,UY,UZ,Tc,Td,Te,Tf,Ti,Tn,Tp,Tq,Tr,Tu,Tw,T1,T2,T4,T5,T7,TK,Sf,Sg,Sj,Sl,Sy,Sz,S6,e52,g]; all_goals tactic => exact rfl))
end Go.Proofs.YtpbeclkpohehgaaDoor
namespace Go.Proofs.YtpbeclkpohehgaaDoor
open Go Go.DL
set_option maxRecDepth 100000
set_option maxHeartbeats 4000000

def aL (N : Nat) (F : Nat → Int) : List Int := (List.range N).map F
def upF (F : Nat → Int) (d : Nat) (a : Int) : Nat → Int := fun x => if x = d then a else F x
theorem aL_len (N : Nat) (F : Nat → Int) : (aL N F).length = N := by simp [aL]
theorem aL_get {N k : Nat} {F : Nat → Int} (h : k < N) : (aL N F)[k]? = some (F k) := by
  unfold aL
  rw [List.getElem?_map,List.getElem?_range h]; rfl
theorem aL_set {N k : Nat} {F : Nat → Int} {a : Int} (h : k < N) : setX (aL N F) k a = aL N (upF F k a) := by
  rw [setX_set (by rw [aL_len]; exact h)]
  apply List.ext_getElem?
  intro j
  rw [List.getElem?_set]
  by_cases hj : j < N
  · rw [aL_get hj,aL_get hj,aL_len]
    unfold upF
    by_cases hkj : k = j
    · rw [if_pos hkj,if_pos hkj.symm,if_pos h]
    · rw [if_neg hkj,if_neg fun hc => hkj hc.symm]
  · rw [List.getElem?_eq_none (by rw [aL_len]; omega),List.getElem?_eq_none (by rw [aL_len]; omega),if_neg (by omega)]
theorem up_at (F : Nat → Int) (d : Nat) (a : Int) : upF F d a d = a := if_pos rfl
theorem up_ne {F : Nat → Int} {d x : Nat} {a : Int} (h : x ≠ d) : upF F d a x = F x := if_neg h
theorem mn_bd {f : Nat → Int} : ∀ (ks : List Nat) (n : Int),(∀ k ∈ ks,0 ≤ f k) → 0 ≤ n → 0 ≤ ks.foldl (fun n k => mnI n (f k)) n ∧ ks.foldl (fun n k => mnI n (f k)) n ≤ n
  | [],n,_,hn => ⟨hn,Int.le_refl _⟩
  | k :: ks,n,h,hn => by
    have h0 := h k (by simp)
    have hm : 0 ≤ mnI n (f k) ∧ mnI n (f k) ≤ n := by unfold mnI; split <;> omega
    have ih := mn_bd ks (mnI n (f k)) (fun j hj => h j (by simp [hj])) hm.1
    rw [List.foldl_cons]
    omega
theorem mx_bd {a c m : Int} (h1 : 0 ≤ a ∧ a ≤ m) (h2 : 0 ≤ c ∧ c ≤ m) : 0 ≤ mxI a c ∧ mxI a c ≤ m := by unfold mxI; split <;> omega
theorem rest_bd0 {l : Li} (g : Good l) {b : Nat → Nat} : ∀ (m d : Nat),0 ≤ restF l b m d ∧ restF l b m d ≤ 1000000
  | 0,d => by rw [restF]; omega
  | m + 1,d => by
    rw [restF]
    refine mn_bd (f := fun k => mxI (lastF l (d ||| 2 ^ k) k) (restF l b m (d ||| 2 ^ k))) _ _ (fun k hk => ?_) (by omega)
    exact (mx_bd (last_bd g (List.mem_range.1 (List.mem_filter.1 hk).1)) (rest_bd0 g m _)).1
theorem rest_bd {l : Li} (g : Good l) (b : Nat → Nat) (d : Nat) : 0 ≤ rstF l b d ∧ rstF l b d ≤ 1000000 := rest_bd0 g _ _
theorem wth_bd {l : Li} (g : Good l) (b : Nat → Nat) (d : Nat) {k : Nat} (hk : k < l.ls.length) : 0 ≤ wthF l b d k ∧ wthF l b d k ≤ 1000000 := mx_bd (last_bd g hk) (rest_bd g b _)
theorem can_ex {l : Li} {b : Nat → Nat} (p : Prec l.ls.length b) (hn : l.ls.length ≤ 10) {d : Nat} (hd : d < 2 ^ l.ls.length) (h : pop d l.ls.length < l.ls.length) : ∃ k,k < l.ls.length ∧ canB b d k = true := by
  have : ∃ k,k < l.ls.length ∧ d.testBit k = false := by
    by_cases hc : ∀ i,i < l.ls.length → d.testBit i = true
    · have := pop_full.2 hc
      omega
    · rw [Classical.not_forall] at hc
      obtain ⟨i,hi⟩ := hc
      rw [Classical.not_imp] at hi
      exact ⟨i,hi.1,by simpa using hi.2⟩
  obtain ⟨k,hk,hkd⟩ := this
  obtain ⟨k2,h1,h2,h3⟩ := p.next _ k hk hkd (Nat.le_refl _)
  exact ⟨k2,h1,(canB_iff p hn hd).2 ⟨h2,h3⟩⟩
end Go.Proofs.YtpbeclkpohehgaaDoor
namespace Go.Proofs.YtpbeclkpohehgaaDoor
open Go Go.DL
set_option maxRecDepth 100000
set_option maxHeartbeats 4000000
section
variable {l : Li} {b : Nat → Nat}
abbrev hA (l : Li) (N : Nat) (F : Nat → Int) : XH := [some (.blk true (.cells true l.c)),some (.blk true (.cells true ((aL N F).map I)))]
end
end Go.Proofs.YtpbeclkpohehgaaDoor
namespace Go.Proofs.YtpbeclkpohehgaaDoor
open Go Go.DL
set_option maxRecDepth 100000
set_option maxHeartbeats 4000000
section
variable {l : Li} {b : Nat → Nat}
end
end Go.Proofs.YtpbeclkpohehgaaDoor
namespace Go.Proofs.YtpbeclkpohehgaaDoor
open Go Go.DL
set_option maxRecDepth 100000
set_option maxHeartbeats 4000000
theorem mn_ex {f : Nat → Int} : ∀ (ks : List Nat) (n : Int),ks.foldl (fun n k => mnI n (f k)) n = n ∨ ∃ k,k ∈ ks ∧ ks.foldl (fun n k => mnI n (f k)) n = f k
  | [],n => .inl rfl
  | k :: ks,n => by
    rw [List.foldl_cons]
    rcases mn_ex (f := f) ks (mnI n (f k)) with h | ⟨j,h1,h2⟩
    · rw [h]
      unfold mnI
      by_cases hc : f k < n
      · rw [if_pos hc]; exact .inr ⟨k,by simp,rfl⟩
      · rw [if_neg hc]; exact .inl rfl
    · exact .inr ⟨j,by simp [h1],h2⟩
theorem mn_le {f : Nat → Int} : ∀ (ks : List Nat) (n : Int),ks.foldl (fun n k => mnI n (f k)) n ≤ n ∧ ∀ k ∈ ks,ks.foldl (fun n k => mnI n (f k)) n ≤ f k
  | [],n => ⟨Int.le_refl _,fun k hk => by simp at hk⟩
  | k :: ks,n => by
    rw [List.foldl_cons]
    obtain ⟨h1,h2⟩ := mn_le (f := f) ks (mnI n (f k))
    have h3 : mnI n (f k) ≤ n ∧ mnI n (f k) ≤ f k := by unfold mnI; split <;> omega
    refine ⟨by omega,fun j hj => ?_⟩
    rcases List.mem_cons.1 hj with rfl | hj
    · omega
    · exact h2 j hj
theorem nx_mem {n : Nat} {b : Nat → Nat} {d k : Nat} : k ∈ (List.range n).filter (canB b d) ↔ k < n ∧ canB b d k = true := by
  rw [List.mem_filter,List.mem_range]
theorem rest_le {l : Li} {b : Nat → Nat} {d k : Nat} (h : pop d l.ls.length < l.ls.length) (hk : k < l.ls.length) (hc : canB b d k = true) : rstF l b d ≤ wthF l b d k := by
  rw [rest_step h,rsT_fl]
  exact (mn_le _ _).2 k (nx_mem.2 ⟨hk,hc⟩)
theorem rest_ex {l : Li} (g : Good l) {b : Nat → Nat} (p : Prec l.ls.length b) {d : Nat} (hd : d < 2 ^ l.ls.length) (h : pop d l.ls.length < l.ls.length) : ∃ k,k < l.ls.length ∧ canB b d k = true ∧ wthF l b d k = rstF l b d := by
  obtain ⟨k0,h1,h2⟩ := can_ex p g.few hd h
  have h3 := rest_le h h1 h2
  have h4 := wth_bd g b d h1
  rw [rest_step h,rsT_fl] at *
  rcases mn_ex (f := wthF l b d) ((List.range l.ls.length).filter (canB b d)) 1000000 with h5 | ⟨k,h5,h6⟩
  · exact ⟨k0,h1,h2,by omega⟩
  · have := nx_mem.1 h5
    exact ⟨k,this.1,this.2,h6.symm⟩
theorem pick_ex {l : Li} (g : Good l) {b : Nat → Nat} (p : Prec l.ls.length b) {w : Int} {d : Nat} (hd : d < 2 ^ l.ls.length) (h : pop d l.ls.length < l.ls.length) (hw : rstF l b d ≤ w) : ∃ k,pickF l b w d = some k := by
  obtain ⟨k,h1,h2,h3⟩ := rest_ex g p hd h
  cases hp : pickF l b w d with
  | some k => exact ⟨k,rfl⟩
  | none =>
    have := (bst_none hp).2 k h1
    unfold goodB at this
    rw [h2,decide_eq_true (by omega)] at this
    simp at this
theorem pop_0 : ∀ n,pop 0 n = 0
  | 0 => rfl
  | n + 1 => by rw [pop,pop_0 n,Nat.zero_testBit]; simp
section
variable {l : Li} {b : Nat → Nat}
end
end Go.Proofs.YtpbeclkpohehgaaDoor
namespace Go.Proofs.YtpbeclkpohehgaaDoor
open Go Go.DL
set_option maxRecDepth 100000
set_option maxHeartbeats 4000000
section
variable {l : Li} {b : Nat → Nat}
end
end Go.Proofs.YtpbeclkpohehgaaDoor
namespace Go.Proofs.YtpbeclkpohehgaaDoor
open Go Go.DL
set_option maxRecDepth 100000
set_option maxHeartbeats 4000000

end Go.Proofs.YtpbeclkpohehgaaDoor
namespace Go.Proofs.YtpbeclkpohehgaaDoor
open Go Go.DL
set_option maxRecDepth 100000
set_option maxHeartbeats 4000000

theorem ofN_len (ks : List Nat) : (ofN ks).length = ks.length := by simp [ofN]
section
variable {l : Li} {b : Nat → Nat} {es : List (AV × AV)}
end
end Go.Proofs.YtpbeclkpohehgaaDoor
namespace Go.Proofs.YtpbeclkpohehgaaDoor
open Go Go.DL
set_option maxRecDepth 100000
set_option maxHeartbeats 4000000

section
variable {l : Li} {b : Nat → Nat} {es : List (AV × AV)}
end
end Go.Proofs.YtpbeclkpohehgaaDoor
namespace Go.Proofs.YtpbeclkpohehgaaDoor
open Go Go.DL
set_option maxRecDepth 100000
set_option maxHeartbeats 4000000

section
variable {l : Li} {b : Nat → Nat}
end
end Go.Proofs.YtpbeclkpohehgaaDoor
namespace Go.Proofs.YtpbeclkpohehgaaDoor
open Go Go.DL
set_option maxRecDepth 100000
set_option maxHeartbeats 4000000
section
variable {l : Li}
end
end Go.Proofs.YtpbeclkpohehgaaDoor
namespace Go.Proofs.YtpbeclkpohehgaaDoor
open Go Go.DL
set_option maxRecDepth 100000
set_option maxHeartbeats 4000000
end Go.Proofs.YtpbeclkpohehgaaDoor
namespace Go.Proofs.YtpbeclkpohehgaaDoor
open Go Go.DL
set_option maxRecDepth 100000
set_option maxHeartbeats 4000000

def msN (l : Li) (o : List Int) : Nat → Int
  | 0 => 0
  | i + 1 => mxI (msN l o i) (soHi l o i)
section
variable {l : Li}
end
end Go.Proofs.YtpbeclkpohehgaaDoor
namespace Go.Proofs.YtpbeclkpohehgaaDoor
open Go Go.DL
set_option maxRecDepth 100000
set_option maxHeartbeats 4000000
section
variable {l : Li}
end
end Go.Proofs.YtpbeclkpohehgaaDoor
namespace Go.Proofs.YtpbeclkpohehgaaDoor
open Go Go.DL
set_option maxRecDepth 100000
set_option maxHeartbeats 4000000

theorem loopU {D : Nat → Option XFn} {K k : Nat} {rd : Option Nat} {L : List Nat} {a : XCode} {e : Env} {h : XH} : execW D K k rd (.loop L a) e h = thenX (execW D K k rd a (envL L (canonL k L e h)) (canonH k L e h)) (execW D K k rd (.loop L a)) := execW_loop
def tmZ (a b : Int) : Int := Int.tmod a b
def tdZ (a b : Int) : Int := Int.tdiv a b
def remI (z : Bool) (k : IntKind) (v : Int) : Option AV := if z then none else some (.int k v)
theorem remF (k : IntKind) (v : Int) : remI false k v = some (.int k v) := rfl
theorem irem2 {k : IntKind} {a b : Int} : intA .rem k a k b = remI (decide (b = 0)) k (tmZ a b) := by
  by_cases h : b = 0 <;> simp [intA,remI,h,tmZ]
theorem iquo2 {k : IntKind} {a b : Int} : intA .quo k a k b = remI (decide (b = 0)) k (k.wrap (tdZ a b)) := by
  by_cases h : b = 0 <;> simp [intA,remI,h,tdZ]
abbrev B8 (n : Nat) : AV := .int .u8 (n : Int)
structure P2 where
  a : Nat
  b : Nat
abbrev P2.row (x : P2) : List AV := [B8 x.a,B8 x.b]
structure P5 where
  a : Nat
  b : Nat
  c : Nat
  d : Nat
  e : Nat
abbrev P5.row (x : P5) : List AV := [B8 x.a,B8 x.b,B8 x.c,B8 x.d,B8 x.e]
structure Qu where
  k0 : List P2
  k1 : List P2
  ls : List P5
  s0 : Nat
  s1 : Nat
abbrev rP (k : List P2) : AV := .fs (k.map P2.row)
abbrev Qu.c (q : Qu) : List AV := [rP q.k0,rP q.k1,.fs (q.ls.map P5.row),B8 q.s0,B8 q.s1]
structure Qu.Ok (q : Qu) : Prop where
  k0 : ∀ x ∈ q.k0,x.a < 256 ∧ x.b < 256
  k1 : ∀ x ∈ q.k1,x.a < 256 ∧ x.b < 256
  ls : ∀ x ∈ q.ls,x.a < 256 ∧ x.b < 256 ∧ x.c < 256 ∧ x.d < 256 ∧ x.e < 256
  s : q.s0 < 256 ∧ q.s1 < 256
theorem wr8 {n : Nat} (h : n < 256) : IntKind.i64.wrap (n : Int) = (n : Int) := wrap_ok (by omega) (by omega)
theorem tdiv_n (a b : Nat) : tdZ (a : Int) (b : Int) = ((a / b : Nat) : Int) := by rw [tdZ,Int.tdiv_eq_ediv_of_nonneg (by omega)]; exact (Int.natCast_ediv a b).symm
theorem tmod_n (a b : Nat) : tmZ (a : Int) (b : Int) = ((a % b : Nat) : Int) := by rw [tmZ,Int.tmod_eq_emod_of_nonneg (by omega)]; exact (Int.natCast_emod a b).symm
def afN (x : List P2) : Nat → Nat
  | 0 => 0
  | j + 1 => afN x j + 1 + (x.getD j ⟨0,0⟩).a
def nnN (x : List P2) : Nat → Nat
  | 0 => 0
  | j + 1 => nnN x j + 1 + (x.getD j ⟨0,0⟩).b % 9
def stN (x : List P2) : Nat → List St
  | 0 => []
  | j + 1 => stN x j ++ [⟨(afN x (j + 1) : Nat),(nnN x (j + 1) : Nat)⟩]
def fewK (x : List P2) : Nat := min x.length 4
def mdK (x : List P2) : List St := stN x (fewK x)
section
variable {q : Qu}
end
end Go.Proofs.YtpbeclkpohehgaaDoor
namespace Go.Proofs.YtpbeclkpohehgaaDoor
open Go Go.DL
set_option maxRecDepth 100000
set_option maxHeartbeats 4000000
section
variable {q : Qu}
end
end Go.Proofs.YtpbeclkpohehgaaDoor
namespace Go.Proofs.YtpbeclkpohehgaaDoor
open Go Go.DL
set_option maxRecDepth 100000
set_option maxHeartbeats 4000000
abbrev P5.ld (x : P5) : Ld := ⟨((x.e % 2 : Nat) : Int),(x.a : Int),((x.a + x.b % 50 : Nat) : Int),((1 + x.c % 60 : Nat) : Int),((1 + x.c % 60 + x.d % 30 : Nat) : Int)⟩
section
variable {q : Qu}
abbrev hN (q : Qu) (L : List Ld) (n : Nat) (cs : List AV) (bs : XH) : XH := [some (.blk true (.cells true q.c)),bZ,some (.blk false (.cells true [.sl 3 0 1 2,.sl 4 0 5 n,.nilsl,I (q.s0 : Nat),I ((q.s0 + q.s1 : Nat) : Int)])),some (.blk true (.cells true [rS (mdK q.k0),rS (mdK q.k1)])),some (.blk true (.cells true (cL L))),some (.blk false (.cells true cs))] ++ bs
end
end Go.Proofs.YtpbeclkpohehgaaDoor
namespace Go.Proofs.YtpbeclkpohehgaaDoor
open Go Go.DL
set_option maxRecDepth 100000
set_option maxHeartbeats 4000000
end Go.Proofs.YtpbeclkpohehgaaDoor
namespace Go.Proofs.YtpbeclkpohehgaaDoor
open Go Go.DL
set_option maxRecDepth 100000
set_option maxHeartbeats 8000000
end Go.Proofs.YtpbeclkpohehgaaDoor
namespace Go.Proofs.YtpbeclkpohehgaaDoor
open Go Go.DL
set_option maxRecDepth 100000
set_option maxHeartbeats 4000000

def vld (n : Nat) (b : Nat → Nat) : Nat → List Nat → Prop
  | d,[] => pop d n = n
  | d,k :: ks => k < n ∧ canB b d k = true ∧ vld n b (d ||| 2 ^ k) ks
def ordW (l : Li) : Nat → List Nat → Int
  | _,[] => 0
  | d,k :: ks => mxI (lastF l (d ||| 2 ^ k) k) (ordW l (d ||| 2 ^ k) ks)
theorem mx_le {a c a' c' : Int} (h1 : a ≤ a') (h2 : c ≤ c') : mxI a c ≤ mxI a' c' := by unfold mxI; split <;> split <;> omega
theorem mx_l (a c : Int) : a ≤ mxI a c ∧ c ≤ mxI a c := by unfold mxI; split <;> omega
theorem mx_lt {a c m : Int} (h1 : a ≤ m) (h2 : c ≤ m) : mxI a c ≤ m := by unfold mxI; split <;> omega
theorem vld_len {n : Nat} {b : Nat → Nat} : ∀ {d : Nat} {ks : List Nat},vld n b d ks → pop d n + ks.length = n
  | d,[],h => h
  | d,k :: ks,h => by
    have h1 := (pop_or (can_bit h.2.1) n).1 h.1
    have h2 := vld_len h.2.2
    rw [List.length_cons]
    omega
theorem ord_pos {l : Li} (g : Good l) {b : Nat → Nat} : ∀ {d : Nat} {ks : List Nat},vld l.ls.length b d ks → 0 ≤ ordW l d ks ∧ ordW l d ks ≤ 1000000
  | d,[],_ => by rw [ordW]; omega
  | d,k :: ks,h => mx_bd (last_bd g h.1) (ord_pos g h.2.2)
theorem ord_min {l : Li} {b : Nat → Nat} : ∀ {d : Nat} {ks : List Nat},vld l.ls.length b d ks → rstF l b d ≤ ordW l d ks
  | d,[],h => by rw [rest_full h]; exact Int.le_refl _
  | d,k :: ks,h => by
    have h1 := (pop_or (can_bit h.2.1) l.ls.length).1 h.1
    have h2 := pop_le (d ||| 2 ^ k) l.ls.length
    have h3 := rest_le (l := l) (by omega) h.1 h.2.1
    exact Int.le_trans h3 (mx_le (Int.le_refl _) (ord_min h.2.2))
theorem bst_vld {l : Li} (g : Good l) {b : Nat → Nat} (p : Prec l.ls.length b) {w : Int} (hw0 : 0 ≤ w) : ∀ (m d : Nat),d < 2 ^ l.ls.length → l.ls.length - pop d l.ls.length = m → rstF l b d ≤ w → vld l.ls.length b d (bstF l b w d) ∧ ordW l d (bstF l b w d) ≤ w
  | 0,d,hd,hm,hw => by
    have hle := pop_le d l.ls.length
    have e : bstF l b w d = [] := by rw [bstF,hm,bestF]
    rw [e]
    exact ⟨by show pop d l.ls.length = _; omega,hw0⟩
  | m + 1,d,hd,hm,hw => by
    obtain ⟨k,hk⟩ := pick_ex g p hd (by omega) hw
    obtain ⟨h1,h2,h3,h4,h5,_⟩ := bst_some hk
    have hr := mx_l (lastF l (d ||| 2 ^ k) k) (rstF l b (d ||| 2 ^ k))
    unfold wthF at h4
    have ih := bst_vld g p hw0 m (d ||| 2 ^ k) (or_lt hd h2) (by omega) (by omega)
    rw [h1]
    exact ⟨⟨h2,h3,ih.1⟩,mx_lt (by omega) ih.2⟩
theorem best_vld {l : Li} (g : Good l) : vld l.ls.length (behF l.ts) 0 (bestO l) ∧ ordW l 0 (bestO l) = minW l := by
  have p := g.prec
  have h := bst_vld g p (rest_bd g (behF l.ts) 0).1 _ 0 (Nat.two_pow_pos _) rfl (Int.le_refl (minW l))
  exact ⟨h.1,Int.le_antisymm h.2 (ord_min h.1)⟩
theorem Good.kd {l : Li} (g : Good l) {t : Nat} {k : List St} (ht : l.ks[t]? = some k) {m m' : Int} (hm : m ≤ m') : ∀ i,i ≤ k.length → soN k m i ≤ soN k m' i ∧ (∀ x,i < k.length → k[i]? = some x → soN k m' i < x.s)
  | 0,_ => ⟨Int.le_refl _,fun x hi hx => by
    have := g.st ht hx
    rw [soN]; omega⟩
  | i + 1,hi => by
    obtain ⟨y,hy⟩ := at_ix (l := k) (i := i) (by omega)
    obtain ⟨h1,h2⟩ := g.kd ht hm i (by omega)
    have h2 := h2 y (by omega) hy
    have up : soN k m' (i + 1) ≤ y.s := by
      rcases soN_up (m := m') hy with ⟨_,h⟩ | ⟨_,h⟩ <;> rw [h] <;> omega
    refine ⟨?_,fun x hi hx => ?_⟩
    · rcases soN_up (m := m) hy with ⟨a1,h3⟩ | ⟨a1,h3⟩
      · rcases soN_up (m := m') hy with ⟨_,h4⟩ | ⟨a2,_⟩
        · rw [h3,h4]; exact Int.le_refl _
        · have a1 := of_eq_true a1
          have a2 := of_eq_false a2
          omega
      · rcases soN_up (m := m') hy with ⟨_,h4⟩ | ⟨_,h4⟩
        · rw [h3,h4]; omega
        · rw [h3,h4]; exact h1
    · have hr := (g.st ht hx).2.2.2.2
      rw [(pr_up hy).2] at hr
      omega
theorem so_mono {l : Li} (g : Good l) {t : Nat} {k : List St} (ht : l.ks[t]? = some k) {m m' : Int} (hm : m ≤ m') : sourF k m ≤ sourF k m' := (g.kd ht hm _ (Nat.le_refl _)).1
end Go.Proofs.YtpbeclkpohehgaaDoor
namespace Go.Proofs.YtpbeclkpohehgaaDoor
open Go Go.DL
set_option maxRecDepth 100000
set_option maxHeartbeats 4000000

theorem firstN_z {f : Nat → Int} : ∀ n,(∀ i,i < n → f i = 0) → firstN f n = 0
  | 0,_ => rfl
  | n + 1,h => by rw [firstN,firstN_z n fun i hi => h i (by omega),if_pos rfl]; exact h n (by omega)
end Go.Proofs.YtpbeclkpohehgaaDoor
namespace Go.Proofs.YtpbeclkpohehgaaDoor
open Go Go.DL
set_option maxRecDepth 100000
set_option maxHeartbeats 4000000

end Go.Proofs.YtpbeclkpohehgaaDoor
namespace Go.Proofs.YtpbeclkpohehgaaDoor
open Go Go.DL
set_option maxRecDepth 100000
set_option maxHeartbeats 4000000
section
variable {l : Li}
end
end Go.Proofs.YtpbeclkpohehgaaDoor
namespace Go.Proofs.YtpbeclkpohehgaaDoor
open Go Go.DL
set_option maxRecDepth 100000
set_option maxHeartbeats 4000000
section
variable {l : Li}
end
end Go.Proofs.YtpbeclkpohehgaaDoor
namespace Go.Proofs.YtpbeclkpohehgaaDoor
open Go Go.DL
set_option maxRecDepth 100000
set_option maxHeartbeats 4000000

section
variable {l : Li}
end
end Go.Proofs.YtpbeclkpohehgaaDoor
namespace Go.Proofs.YtpbeclkpohehgaaDoor
open Go Go.DL
set_option maxRecDepth 100000
set_option maxHeartbeats 4000000
section
variable {l : Li}
end
theorem mx_as (a b c : Int) : mxI (mxI a b) c = mxI a (mxI b c) := by
  unfold mxI
  repeat' split
  all_goals omega
theorem fR_or {l : Li} {d k : Nat} (h : d.testBit k = false) : ∀ n,(k < n → fR (enS l) l.hi (d ||| 2 ^ k) n = fR (enS l) l.hi d n + (ldN l k).ch) ∧ (n ≤ k → fR (enS l) l.hi (d ||| 2 ^ k) n = fR (enS l) l.hi d n)
  | 0 => ⟨fun h => by omega,fun _ => rfl⟩
  | n + 1 => by
    have ih := fR_or (l := l) h n
    rw [fR,fR,or_bit]
    constructor
    · intro hk
      by_cases hkn : k = n
      · subst hkn
        rw [ih.2 (Nat.le_refl _),h,decide_eq_true rfl]
        rfl
      · rw [ih.1 (by omega),decide_eq_false hkn,Bool.or_false]
        split
        · show fR (enS l) l.hi d n + (ldN l k).ch + (ldN l n).ch = fR (enS l) l.hi d n + (ldN l n).ch + (ldN l k).ch
          omega
        · rfl
    · intro hk
      rw [ih.2 (by omega),decide_eq_false (by omega : ¬ k = n),Bool.or_false]
theorem end_or {l : Li} (g : Good l) {d k : Nat} (hd : d < 2 ^ l.ls.length) (hk : k < l.ls.length) (h : d.testBit k = false) : endF l (d ||| 2 ^ k) = endF l d + (ldN l k).ch := by
  have e1 : fR (enS l) l.hi (d ||| 2 ^ k) l.ls.length = endF l (d ||| 2 ^ k) := fR_el (or_lt hd hk) g.few
  have e2 : fR (enS l) l.hi d l.ls.length = endF l d := fR_el hd g.few
  rw [← e1,← e2]
  exact (fR_or h _).1 hk
theorem ms_ord {l : Li} (g : Good l) {b : Nat → Nat} {o : List Int} : ∀ (ks : List Nat) (i d : Nat),d < 2 ^ l.ls.length → vld l.ls.length b d ks → o.drop i = ofN ks → nwH l o i = endF l d → msN l o (i + ks.length) = mxI (msN l o i) (ordW l d ks)
  | [],i,d,_,_,_,_ => by
    have : ∀ j,0 ≤ msN l o j := fun j => by
      induction j with
      | zero => exact Int.le_refl _
      | succ j ih => rw [msN]; have := mx_l (msN l o j) (soHi l o j); omega
    have := this i
    rw [ordW]
    show msN l o i = _
    unfold mxI
    split <;> omega
  | k :: ks,i,d,hd,hv,ho,hw => by
    rw [ofN_c] at ho
    have hi : o[i]? = some (k : Int) := by
      have := congrArg (fun q => q[0]?) ho
      simpa using this
    have ho2 : o.drop (i + 1) = ofN ks := by
      have := congrArg (List.drop 1) ho
      rw [List.drop_drop] at this
      simpa using this
    have e1 : ldAt l (k : Int) = ldN l k := by unfold ldAt ldN; rw [Int.toNat_natCast]
    have hw2 : nwH l o (i + 1) = endF l (d ||| 2 ^ k) := by
      rw [nwH,getD_of hi,hw,e1,end_or g hd hv.1 (can_bit hv.2.1)]
    have hs : soHi l o i = lastF l (d ||| 2 ^ k) k := by
      unfold soHi lastF
      rw [getD_of hi,e1,hw2]
    have ih := ms_ord g ks (i + 1) (d ||| 2 ^ k) (or_lt hd hv.1) hv.2.2 ho2 hw2
    rw [List.length_cons,show i + (ks.length + 1) = i + 1 + ks.length by omega,ih,msN,ordW,hs,mx_as]
theorem end_0 (l : Li) : endF l 0 = l.hi := rfl
theorem ms_all {l : Li} (g : Good l) {b : Nat → Nat} {ks : List Nat} (h : vld l.ls.length b 0 ks) : msN l (ofN ks) (ofN ks).length = ordW l 0 ks := by
  have h1 := ms_ord g (o := ofN ks) ks 0 0 (Nat.two_pow_pos _) h (List.drop_zero) (end_0 l).symm
  have h2 := ord_pos g h
  have ol : (ofN ks).length = ks.length := by simp [ofN]
  rw [ol]
  rw [Nat.zero_add] at h1
  rw [h1]
  have h0 : msN l (ofN ks) 0 = 0 := rfl
  rw [h0]
  unfold mxI
  split <;> omega
end Go.Proofs.YtpbeclkpohehgaaDoor
namespace Go.Proofs.YtpbeclkpohehgaaDoor
open Go Go.DL
set_option maxRecDepth 100000
set_option maxHeartbeats 4000000

theorem bit_u8 : ∀ a : Nat,a < 256 → ∀ k : Nat,k < 8 → bitsA .and .u8 ((a : Int).fdiv (2 ^ min k IntKind.u8.bits)) 1 = if a.testBit k = true then 1 else 0 := by decide +kernel
theorem bit_8 {a k : Nat} (ha : a < 256) (hk : k < 8) : (a.testBit k = true ∧ (bitsA .and .u8 ((a : Int).fdiv (2 ^ min k IntKind.u8.bits)) 1 = 1) = True) ∨ (a.testBit k = false ∧ (bitsA .and .u8 ((a : Int).fdiv (2 ^ min k IntKind.u8.bits)) 1 = 1) = False) := by
  have e := bit_u8 a ha k hk
  cases h : a.testBit k with
  | true => rw [h,if_pos rfl] at e; exact .inl ⟨rfl,eq_true e⟩
  | false => rw [h,if_neg (by simp)] at e; exact .inr ⟨rfl,eq_false (by rw [e]; simp)⟩
section
variable {l : Li}
end
end Go.Proofs.YtpbeclkpohehgaaDoor
namespace Go.Proofs.YtpbeclkpohehgaaDoor
open Go Go.DL
set_option maxRecDepth 100000
set_option maxHeartbeats 4000000

theorem ord_ok0 {n : Nat} {b : Nat → Nat} (p : Prec n b) (hn : n ≤ 10) {o : List Int} : ∀ (ks : List Nat) (i d : Nat),d < 2 ^ n → vld n b d ks → o.drop i = ofN ks → allT o 0 i = d → i + ks.length = o.length → ∀ j,i ≤ j → j < o.length → ordE n b (allT o 0 j) (o.getD j 0) = 0
  | [],i,d,_,_,_,_,hl,j,h1,h2 => by simp at hl; omega
  | k :: ks,i,d,hd,hv,ho,ha,hl,j,h1,h2 => by
    rw [ofN_c] at ho
    have hi : o[i]? = some (k : Int) := by
      have := congrArg (fun q => q[0]?) ho
      simpa using this
    have ho2 : o.drop (i + 1) = ofN ks := by
      have := congrArg (List.drop 1) ho
      rw [List.drop_drop] at this
      simpa using this
    have hc := (canB_iff p hn hd).1 hv.2.1
    by_cases hj : j = i
    · subst hj
      rw [getD_of hi,ha]
      have e := Int.toNat_natCast k
      have lb := lt_10 (p.lt k) hn
      have ld := lt_10 hd hn
      rcases ordE_of (n := n) (b := b) (a := d) (k : Int) with ⟨_,_,_,_,h⟩ | ⟨_,_,_,h,_⟩ | ⟨_,_,h,_⟩ | ⟨h,_⟩
      · exact h
      · rw [e] at h
        exact absurd ((dif_zero (by omega) (by omega)).2 hc.2) h
      · rw [e,hc.1] at h; simp at h
      · have := hv.1
        have : btw 0 (k : Int) ((n : Int) - 1) = true := btwF.2 (by omega)
        rw [this] at h; simp at h
    · refine ord_ok0 p hn ks (i + 1) (d ||| 2 ^ k) (or_lt hd hv.1) hv.2.2 ho2 ?_ ?_ j (by omega) h2
      · rw [allT,getD_of hi,Int.toNat_natCast,ha]
      · rw [List.length_cons] at hl; omega
theorem ord_ok {l : Li} (g : Good l) (hc : checkL l = 0) {ks : List Nat} (h : vld l.ls.length (behF l.ts) 0 ks) : runE l (ofN ks) = 0 := by
  have hl := vld_len h
  rw [pop_0] at hl
  have ol := ofN_len ks
  unfold runE
  rw [if_pos hc]
  unfold orderE
  rw [if_pos (by omega)]
  exact firstN_z _ fun j hj => ord_ok0 g.prec g.few ks 0 0 (Nat.two_pow_pos _) h List.drop_zero rfl (by omega) j (by omega) hj
theorem ws_set {s : List Sp} {k : Nat} {x : Sp} (hk : s[k]? = some ⟨0,0⟩) (hx : 0 ≤ x.hi) : ∀ n,0 ≤ wsN s n ∧ (n ≤ k → wsN (s.set k x) n = wsN s n) ∧ (k < n → n ≤ s.length → wsN (s.set k x) n = mxI (wsN s n) x.hi)
  | 0 => ⟨Int.le_refl _,fun _ => rfl,fun h => by omega⟩
  | n + 1 => by
    obtain ⟨h0,h1,h2⟩ := ws_set hk hx n
    have hp : 0 ≤ wsN s (n + 1) := by rw [wsN]; unfold mxI; split <;> omega
    refine ⟨hp,fun h => ?_,fun h hl => ?_⟩
    · rw [wsN,wsN,h1 (by omega)]
      congr 1
      obtain ⟨y,hy⟩ | hy : (∃ y,s[n]? = some y) ∨ s[n]? = none := by cases s[n]? <;> simp
      · rw [getD_of hy,getD_of (by rw [List.getElem?_set_ne (by omega)]; exact hy)]
      · rw [List.getD_eq_getElem?_getD,List.getD_eq_getElem?_getD,List.getElem?_set_ne (by omega)]
    · by_cases hkn : k = n
      · subst hkn
        rw [wsN,wsN,h1 (Nat.le_refl _),getD_of hk,getD_of (List.getElem?_set_self (by omega))]
        unfold mxI
        dsimp only
        repeat' split
        all_goals omega
      · obtain ⟨y,hy⟩ := at_ix (l := s) (i := n) (by omega)
        rw [wsN,wsN,h2 (by omega) (by omega),getD_of hy,getD_of (by rw [List.getElem?_set_ne hkn]; exact hy)]
        unfold mxI
        repeat' split
        all_goals omega
theorem ws_rep : ∀ n,wsN (List.replicate n ⟨0,0⟩) n = 0 := by
  intro n
  have : ∀ m,m ≤ n → wsN (List.replicate n ⟨0,0⟩) m = 0 := by
    intro m
    induction m with
    | zero => intro _; rfl
    | succ m ih =>
      intro hm
      have e : (List.replicate n (⟨0,0⟩ : Sp)).getD m ⟨0,0⟩ = ⟨0,0⟩ := by
        rw [List.getD_eq_getElem?_getD,List.getElem?_replicate_of_lt (by omega)]; rfl
      rw [wsN,ih (by omega),e]
      rfl
  exact this n (Nat.le_refl _)
theorem so_pos {l : Li} (g : Good l) {o : List Int} {n : Nat} (ho : ∀ i,i < n → 0 ≤ o.getD i 0 ∧ o.getD i 0 < l.ls.length) {i : Nat} (hi : i < n) : 0 ≤ soHi l o i := by
  obtain ⟨x,k,_,h2,_,h4,h5,_⟩ := g.ld (ho i hi)
  unfold soHi sourF
  rw [h2,h5]
  exact (so_bd g h4 _ _ (Nat.le_refl _)).1
theorem ws_ms {l : Li} (g : Good l) {o : List Int} (hord : orderE l.ls.length (behF l.ts) o = 0) : ∀ i,i ≤ l.ls.length → wsN (sA l o i) l.ls.length = msN l o i ∧ ∀ k,k < l.ls.length → (allT o 0 i).testBit k = false → (sA l o i)[k]? = some ⟨0,0⟩
  | 0,_ => by
    refine ⟨ws_rep _,fun k hk _ => ?_⟩
    rw [sA,List.getElem?_replicate_of_lt hk]
  | i + 1,hi => by
    obtain ⟨hl,hoe,ho⟩ := ord_of hord
    obtain ⟨h1,h2⟩ := ws_ms g hord i (by omega)
    have hr := ho i (by omega)
    have he := hoe i (by omega)
    have hb : (allT o 0 i).testBit (o.getD i 0).toNat = false := by
      rcases ordE_of (n := l.ls.length) (b := behF l.ts) (a := allT o 0 i) (o.getD i 0) with ⟨_,_,h,_,_⟩ | ⟨_,_,h,_,_⟩ | ⟨_,_,_,h⟩ | ⟨_,h⟩
      · exact h
      · exact h
      · rw [he] at h; simp at h
      · rw [he] at h; simp at h
    have hz := h2 (o.getD i 0).toNat (by omega) hb
    have sl := sA_len l o i
    refine ⟨?_,fun k hk hkb => ?_⟩
    · rw [sA,(ws_set hz (x := ⟨soLo l o i,soHi l o i⟩) (so_pos g ho (i := i) (by omega)) l.ls.length).2.2 (by omega) (by omega),h1,msN]
    · rw [allT,or_bit,Bool.or_eq_false_iff] at hkb
      have hne : (o.getD i 0).toNat ≠ k := by simpa using hkb.2
      rw [sA,List.getElem?_set_ne hne]
      exact h2 k hk hkb.1
theorem worst_ms {l : Li} {o : List Int} (h : runE l o = 0) : worst l o = msN l o o.length := by
  obtain ⟨g,hl,hord⟩ := runE_len h
  have := (ws_ms g hord l.ls.length (Nat.le_refl _)).1
  unfold worst
  rw [hl]
  exact this
theorem worst_ord {l : Li} (g : Good l) (hc : checkL l = 0) {ks : List Nat} (h : vld l.ls.length (behF l.ts) 0 ks) : worst l (ofN ks) = ordW l 0 ks := by
  rw [worst_ms (ord_ok g hc h),ms_all g h]
end Go.Proofs.YtpbeclkpohehgaaDoor
namespace Go.Proofs.YtpbeclkpohehgaaDoor
open Go Go.DL
set_option maxRecDepth 100000
set_option maxHeartbeats 4000000

end Go.Proofs.YtpbeclkpohehgaaDoor
namespace Go.Proofs.YtpbeclkpohehgaaDoor
open Go Go.DL
set_option maxRecDepth 100000
set_option maxHeartbeats 4000000

section
variable {l : Li}
end
end Go.Proofs.YtpbeclkpohehgaaDoor
namespace Go.Proofs.YtpbeclkpohehgaaDoor
open Go Go.DL
set_option maxRecDepth 100000
set_option maxHeartbeats 4000000

section
variable {l : Li}
end
end Go.Proofs.YtpbeclkpohehgaaDoor
namespace Go.Proofs.YtpbeclkpohehgaaDoor
open Go Go.DL
set_option maxRecDepth 100000
set_option maxHeartbeats 4000000

end Go.Proofs.YtpbeclkpohehgaaDoor
namespace Go.Proofs.YtpbeclkpohehgaaDoor
open Go Go.DL
set_option maxRecDepth 100000
set_option maxHeartbeats 4000000
section
variable {l : Li}
end
end Go.Proofs.YtpbeclkpohehgaaDoor
namespace Go.Proofs.YtpbeclkpohehgaaDoor
open Go Go.DL
set_option maxRecDepth 100000
set_option maxHeartbeats 4000000
section
variable {l : Li}
end
end Go.Proofs.YtpbeclkpohehgaaDoor
namespace Go.Proofs.YtpbeclkpohehgaaDoor
open Go Go.DL
set_option maxRecDepth 100000
set_option maxHeartbeats 4000000
section
variable {l : Li}
end
end Go.Proofs.YtpbeclkpohehgaaDoor
namespace Go.Proofs.YtpbeclkpohehgaaDoor
open Go Go.DL
set_option maxRecDepth 100000
set_option maxHeartbeats 4000000
end Go.Proofs.YtpbeclkpohehgaaDoor
namespace Go.Proofs.YtpbeclkpohehgaaDoor
open Go Go.DL
set_option maxRecDepth 100000
set_option maxHeartbeats 4000000
end Go.Proofs.YtpbeclkpohehgaaDoor
namespace Go.Proofs.YtpbeclkpohehgaaDoor
open Go Go.DL
set_option maxRecDepth 100000
set_option maxHeartbeats 4000000
end Go.Proofs.YtpbeclkpohehgaaDoor
namespace Go.Proofs.YtpbeclkpohehgaaDoor
open Go Go.DL
set_option maxRecDepth 100000
set_option maxHeartbeats 4000000
end Go.Proofs.YtpbeclkpohehgaaDoor
namespace Go.Proofs.YtpbeclkpohehgaaDoor
open Go Go.DL
set_option maxRecDepth 100000
set_option maxHeartbeats 4000000
end Go.Proofs.YtpbeclkpohehgaaDoor
namespace Go.Proofs.YtpbeclkpohehgaaDoor
open Go Go.DL
set_option maxRecDepth 100000
set_option maxHeartbeats 4000000
end Go.Proofs.YtpbeclkpohehgaaDoor
namespace Go.Proofs.YtpbeclkpohehgaaDoor
open Go Go.DL
set_option maxRecDepth 100000
set_option maxHeartbeats 4000000
def pkT (us : List Nat) (i : Nat) (lo hi : Int) : Int := if us.length = 0 then lo else lo + tmZ ((us.getD (i % us.length) 0 : Nat) : Int) (hi - lo + 1)
theorem tm_bd {u : Nat} {m : Int} (h : 0 < m) : 0 ≤ tmZ (u : Int) m ∧ tmZ (u : Int) m < m := ⟨Int.tmod_nonneg _ (by omega),Int.tmod_lt_of_pos _ h⟩
theorem pk_bd (us : List Nat) (i : Nat) {lo hi : Int} (h : lo ≤ hi) : lo ≤ pkT us i lo hi ∧ pkT us i lo hi ≤ hi := by
  unfold pkT
  split
  · omega
  · have := tm_bd (u := us.getD (i % us.length) 0) (m := hi - lo + 1) (by omega)
    omega
abbrev cB8 (us : List Nat) : Option XB := some (.blk true (.cells true [.fs (us.map fun v => [B8 v])]))
def nowT (us : List Nat) (l : Li) (o : List Int) : Nat → Int
  | 0 => pkT us 0 l.lo l.hi
  | i + 1 => nowT us l o i + pkT us (2 * i + 1) (ldAt l (o.getD i 0)).cl (ldAt l (o.getD i 0)).ch
theorem now_bd {l : Li} (g : Good l) (us : List Nat) {o : List Int} {n : Nat} (ho : ∀ i,i < n → 0 ≤ o.getD i 0 ∧ o.getD i 0 < l.ls.length) : ∀ i,i ≤ n → nwL l o i ≤ nowT us l o i ∧ nowT us l o i ≤ nwH l o i
  | 0,_ => by
    have st := inSF.1 g.start
    rw [nwL,nwH,nowT]
    exact pk_bd us 0 (by omega)
  | i + 1,hi => by
    have ih := now_bd g us ho i (by omega)
    obtain ⟨x,k,h1,h2,h3,h4,h5,h6,h7,h8⟩ := g.ld (ho i (by omega))
    rw [nwL,nwH,nowT,h2]
    have := pk_bd us (2 * i + 1) (lo := x.cl) (hi := x.ch) (by omega)
    omega
theorem ms_ge {l : Li} {o : List Int} : ∀ n i,i < n → soHi l o i ≤ msN l o n
  | 0,i,hi => by omega
  | n + 1,i,hi => by
    rw [msN]
    have h := mx_l (msN l o n) (soHi l o n)
    by_cases e : i = n
    · subst e; exact h.2
    · have := ms_ge n i (by omega) (l := l) (o := o)
      omega
end Go.Proofs.YtpbeclkpohehgaaDoor
namespace Go.Proofs.YtpbeclkpohehgaaDoor
open Go Go.DL
set_option maxRecDepth 100000
set_option maxHeartbeats 4000000
abbrev h8 (l : Li) (us : List Nat) : XH := [some (.blk true (.cells true l.c)),cB8 us]
end Go.Proofs.YtpbeclkpohehgaaDoor
namespace Go.Proofs.YtpbeclkpohehgaaDoor
open Go Go.DL
set_option maxRecDepth 100000
set_option maxHeartbeats 4000000
end Go.Proofs.YtpbeclkpohehgaaDoor
namespace Go.Proofs.YtpbeclkpohehgaaDoor
open Go Go.DL
set_option maxRecDepth 100000
set_option maxHeartbeats 4000000
theorem check_of {l : Li} (hk : kindsE l.ks = 0) (hn : l.ls.length ≤ 10) (hl : ∀ (i : Nat) (x : Ld),l.ls[i]? = some x → (0 ≤ x.k ∧ x.k < l.ks.length) ∧ (0 ≤ x.al ∧ x.al ≤ x.ah ∧ x.ah ≤ 100000) ∧ (1 ≤ x.cl ∧ x.cl ≤ x.ch ∧ x.ch ≤ 10000)) (ht : tracksE l.ls.length l.ts = 0) (hs : 0 ≤ l.lo ∧ l.lo ≤ l.hi ∧ l.hi ≤ 100000) : checkL l = 0 := by
  unfold checkL
  rw [if_pos hk,if_neg (by omega)]
  have hld : firstN (ldEr l) l.ls.length = 0 := by
    refine firstN_z _ fun i hi => ?_
    obtain ⟨x,hx⟩ := at_ix hi
    obtain ⟨h1,h2,h3⟩ := hl i x hx
    unfold ldEr
    rw [getD_of hx]
    rcases ldE_of l.ks.length x with ⟨_,_,_,h⟩ | ⟨_,_,h,_⟩ | ⟨_,h,_⟩ | ⟨h,_⟩
    · exact h
    · have : inS x.cl x.ch 1 10000 = true := inSF.2 h3
      rw [this] at h; simp at h
    · have : inS x.al x.ah 0 100000 = true := inSF.2 h2
      rw [this] at h; simp at h
    · have : btw 0 x.k ((l.ks.length : Int) - 1) = true := btwF.2 (by omega)
      rw [this] at h; simp at h
  rw [if_pos hld,if_pos ht,inSF.2 hs]
  rfl
end Go.Proofs.YtpbeclkpohehgaaDoor
namespace Go.Proofs.YtpbeclkpohehgaaDoor
open Go Go.DL
set_option maxRecDepth 100000
set_option maxHeartbeats 4000000
section
variable {l : Li} (g : Good l) {i v : Nat} (hi : l.ts[i]? = some [(v : Int)])
include g hi
end
end Go.Proofs.YtpbeclkpohehgaaDoor
namespace Go.Proofs.YtpbeclkpohehgaaDoor
open Go Go.DL
set_option maxRecDepth 100000
set_option maxHeartbeats 4000000
section
variable {l : Li}
end
end Go.Proofs.YtpbeclkpohehgaaDoor
namespace Go.Proofs.YtpbeclkpohehgaaDoor
open Go Go.DL
set_option maxRecDepth 100000
set_option maxHeartbeats 4000000
section
variable {l : Li}
end
end Go.Proofs.YtpbeclkpohehgaaDoor
namespace Go.Proofs.YtpbeclkpohehgaaDoor
open Go Go.DL
set_option maxRecDepth 100000
set_option maxHeartbeats 4000000
section
variable {l : Li}
end
end Go.Proofs.YtpbeclkpohehgaaDoor
namespace Go.Proofs.YtpbeclkpohehgaaDoor
open Go Go.DL
set_option maxRecDepth 100000
set_option maxHeartbeats 4000000
section
variable {l : Li}
end
end Go.Proofs.YtpbeclkpohehgaaDoor
namespace Go.Proofs.YtpbeclkpohehgaaDoor
open Go Go.DL
set_option maxRecDepth 100000
set_option maxHeartbeats 8000000
end Go.Proofs.YtpbeclkpohehgaaDoor
namespace Go.Proofs.YtpbeclkpohehgaaDoor
open Go Go.DL
set_option maxRecDepth 100000
set_option maxHeartbeats 4000000
section
variable {l : Li} (g : Good l) {t : Nat}
include g
end
end Go.Proofs.YtpbeclkpohehgaaDoor
namespace Go.Proofs.YtpbeclkpohehgaaDoor
open Go Go.DL
set_option maxRecDepth 100000
set_option maxHeartbeats 4000000
section
variable {l : Li} (g : Good l) {t : Nat} {ks : List Nat} (hl : ks.length = l.ls.length) (hk : ∀ k ∈ ks,k < l.ls.length)
include g hl hk
end
section
variable {l : Li} (g : Good l) {rs : List Nat} (hnd : rs.Nodup) (hal : ∀ j,j < l.ls.length → j ∈ rs) (hlt : ∀ k ∈ rs,k < l.ls.length) (hne : 0 < l.ls.length)
include g hnd hal hlt hne
end
end Go.Proofs.YtpbeclkpohehgaaDoor
namespace Go.Proofs.YtpbeclkpohehgaaDoor
open Go Go.DL
set_option maxRecDepth 100000
set_option maxHeartbeats 4000000
section
variable {l : Li}
end
end Go.Proofs.YtpbeclkpohehgaaDoor
namespace Go.Proofs.YtpbeclkpohehgaaDoor
open Go Go.DL
set_option maxRecDepth 100000
set_option maxHeartbeats 4000000
section
variable {l : Li}
end
end Go.Proofs.YtpbeclkpohehgaaDoor
namespace Go.Proofs.YtpbeclkpohehgaaDoor
open Go Go.DL
set_option maxRecDepth 100000
set_option maxHeartbeats 8000000
section
variable {l : Li}
end
end Go.Proofs.YtpbeclkpohehgaaDoor
namespace Go.Proofs.YtpbeclkpohehgaaDoor
open Go Go.DL
set_option maxRecDepth 100000
set_option maxHeartbeats 4000000
theorem mul_bd {a b A B : Int} (ha : -A ≤ a ∧ a ≤ A) (hb : -B ≤ b ∧ b ≤ B) : -(A * B) ≤ a * b ∧ a * b ≤ A * B := by
  have h1 : a.natAbs ≤ A.natAbs := by omega
  have h2 : b.natAbs ≤ B.natAbs := by omega
  have h3 := Nat.mul_le_mul h1 h2
  rw [← Int.natAbs_mul,← Int.natAbs_mul] at h3
  have h4 : 0 ≤ A * B := Int.mul_nonneg (by omega) (by omega)
  generalize a * b = x at *
  generalize A * B = y at *
  omega
theorem mul_ok {a b A B : Int} (ha : -A ≤ a ∧ a ≤ A) (hb : -B ≤ b ∧ b ≤ B) (h : A * B ≤ 9223372036854775807) : IntKind.i64.wrap (a * b) = a * b := by
  have := mul_bd ha hb
  exact wrap_ok (by omega) (by omega)
theorem w97 (n : Int) : runW progX 97 [I n] [] = some (.agg [I n,I 1],[]) := by
  rw [r97 (by simp)]; unfold x97; dsimp only
  (sym => (simp [irem2,iquo2,remF,Za,Zb,Zc,Zd,Ze,Zf,Zh,Zl,Zm,Zt,Zu,Zy,ZH,ZI,YO,YQ,YT,Xe,Xo,Xq,X0,XJ,Wc,We,Wn,Wo,Wz,W0,W3,W4,W5,W6,W7,W8,W9,WI,WM,WO,WP,WQ,Vs,V6,V7,V9,VA,VB,VC,VD,VG,VH,VI,VK,VL,VU,VV,VW,VX,VY,VZ,Ub,Uc,Ud,Uj,Us,U2,U3,U4,U5,U6,U7,U8,U9,UC,UD,UE,UF,UG,UH,UY,UZ,Tc,Te,Tf,Tp,Tq,Tu,T1,T2,Sg]; all_goals tactic => exact rfl))
theorem w25 (a b : Int) : runW progX 25 [I a,I b] [] = some (.agg [I a,I b],[]) := by
  rw [r25 (by simp)]; unfold x25; dsimp only
  (sym => (simp [irem2,iquo2,remF,Za,Zb,Zc,Zd,Ze,Zf,Zh,Zl,Zm,Zt,Zu,Zy,ZH,ZI,YO,YQ,YT,Xe,Xo,Xq,X0,XJ,Wc,We,Wn,Wo,Wz,W0,W3,W4,W5,W6,W7,W8,W9,WI,WM,WO,WP,WQ,Vs,V6,V7,V9,VA,VB,VC,VD,VG,VH,VI,VK,VL,VU,VV,VW,VX,VY,VZ,Ub,Uc,Ud,Uj,Us,U2,U3,U4,U5,U6,U7,U8,U9,UC,UD,UE,UF,UG,UH,UY,UZ,Tc,Te,Tf,Tp,Tq,Tu,T1,Sg]; all_goals tactic => exact rfl))
theorem w113 (a b c : Int) : runW progX 113 [I a,I b,I c] [] = some (.bool (btw a b c),[]) := by
  unfold btw
  rw [r113 (by simp)]; unfold x113; dsimp only
  rcases ptf (a ≤ b) with h1 | h1
  · rw [decide_eq_true (of_eq_true h1)]
    (sym => (simp [irem2,iquo2,remF,Za,Zb,Zf,Zh,Zl,Zm,Zo,Zp,Zr,Zt,Zw,Z1,ZS,ZT,Yr,YR,Xp,XI,Wc,Wd,W9,WI,WM,WN,WP,WQ,Vs,V6,V7,V9,VA,VB,VC,VD,VG,VH,VI,VJ,VL,VU,VW,VZ,Ub,Ud,Ui,Uk,Ux,Uy,U1,U2,U3,UC,UD,Tn,Tp,Tq,Tu,T1,T2,Sg,h1]; all_goals tactic => exact rfl))
  · rw [decide_eq_false (of_eq_false h1)]
    (sym => (simp [irem2,iquo2,remF,Za,Zb,Zf,Zh,Zl,Zm,Zo,Zp,Zr,Zt,Zw,Z1,ZS,ZT,Yr,YR,Xp,XI,Wc,Wd,W9,WI,WM,WN,WP,WQ,Vs,V6,V7,V9,VA,VB,VC,VD,VG,VH,VI,VJ,VL,VU,VW,VZ,Ub,Ud,Ui,Uk,Ux,Uy,U1,U2,U3,UC,UD,Tn,Tp,Tq,Tu,T1,T2,Sg,h1]; all_goals tactic => exact rfl))
def cmpF (x y : Int) : Int := if x < y then -1 else if y < x then 1 else 0
theorem w67 {a b c d : Int} (h1 : IntKind.i64.wrap (a * d) = a * d) (h2 : IntKind.i64.wrap (c * b) = c * b) : runW progX 67 [.agg [I a,I b],.agg [I c,I d]] [] = some (I (cmpF (a * d) (c * b)),[]) := by
  generalize hx : a * d = x at *
  generalize hy : c * b = y at *
  unfold cmpF
  rw [r67 (by simp)]; unfold x67; dsimp only
  rcases ptf (x < y) with g | g
  · simp only [g,if_true]
    (sym => (simp [irem2,iquo2,remF,Za,Zb,Zf,Zh,Zi,Zl,Zm,Zn,Zt,Zx,Z1,Z5,ZE,ZG,ZX,Yj,Yq,Ys,YQ,Xe,Xf,Xo,X0,Wc,We,Wo,Wz,W0,W3,W9,WA,WI,WM,WO,WP,WQ,Vs,V6,V7,V9,VA,VB,VC,VD,VG,VH,VI,VJ,VL,VP,VQ,VR,VU,VW,VX,VY,VZ,Ub,Uc,Ud,Uj,Ux,Uy,U2,U3,U6,U7,UC,UD,UK,UL,UY,UZ,Td,Ti,Tn,Tp,Tq,Tr,Tt,Tu,Tw,Tx,Ty,T1,T2,Sg,hx,hy,h1,h2,g]; all_goals tactic => exact rfl))
  · rcases ptf (y < x) with g' | g'
    · simp only [g,g',if_true,if_false]
      (sym => (simp [irem2,iquo2,remF,Za,Zb,Zf,Zh,Zi,Zl,Zm,Zn,Zt,Zx,Z1,Z5,ZE,ZG,ZX,Yj,Yq,Ys,YQ,Xe,Xf,Xo,X0,Wc,We,Wo,Wz,W0,W3,W9,WA,WI,WM,WO,WP,WQ,Vs,V6,V7,V9,VA,VB,VC,VD,VG,VH,VI,VJ,VL,VP,VQ,VR,VU,VW,VX,VY,VZ,Ub,Uc,Ud,Uj,Ux,Uy,U2,U3,U6,U7,UC,UD,UK,UL,UY,UZ,Td,Ti,Tn,Tp,Tq,Tr,Tt,Tu,Tw,Tx,Ty,T1,T2,Sg,hx,hy,h1,h2,g,g']; all_goals tactic => exact rfl))
    · simp only [g,g',if_false]
      (sym => (simp [irem2,iquo2,remF,Za,Zb,Zf,Zh,Zi,Zl,Zm,Zn,Zt,Zx,Z1,Z5,ZE,ZG,ZX,Yj,Yq,Ys,YQ,Xe,Xf,Xo,X0,Wc,We,Wo,Wz,W0,W3,W9,WA,WI,WM,WO,WP,WQ,Vs,V6,V7,V9,VA,VB,VC,VD,VG,VH,VI,VJ,VL,VP,VQ,VR,VU,VW,VX,VY,VZ,Ub,Uc,Ud,Uj,Ux,Uy,U2,U3,U6,U7,UC,UD,UK,UL,UY,UZ,Td,Ti,Tn,Tp,Tq,Tr,Tt,Tu,Tw,Tx,Ty,T1,T2,Sg,hx,hy,h1,h2,g,g']; all_goals tactic => exact rfl))
theorem w99 {a b c d : Int} (h1 : IntKind.i64.wrap (a * d) = a * d) (h2 : IntKind.i64.wrap (c * b) = c * b) (h3 : IntKind.i64.wrap (a * d - c * b) = a * d - c * b) (h4 : IntKind.i64.wrap (b * d) = b * d) : runW progX 99 [.agg [I a,I b],.agg [I c,I d]] [] = some (.agg [I (a * d - c * b),I (b * d)],[]) := by
  generalize hx : a * d = x at *
  generalize hy : c * b = y at *
  generalize hz : b * d = z at *
  rw [r99 (by simp)]; unfold x99; dsimp only
  (sym => (simp [irem2,iquo2,remF,Za,Zb,Zc,Zd,Ze,Zf,Zh,Zl,Zm,Zn,Zu,Zx,Zy,Z1,Z5,ZD,ZH,ZI,ZX,Yi,Yj,YO,YQ,YT,Xe,Xf,Xo,Xq,X0,XJ,Wc,We,Wn,Wo,Wz,W0,W3,W4,W5,W6,W7,W8,W9,WA,WI,WM,WO,WP,WQ,Vs,V6,V7,V9,VA,VB,VC,VD,VG,VH,VI,VK,VL,VU,VV,VW,VX,VY,VZ,Ub,Uc,Ud,Uj,Us,U2,U3,U4,U5,U6,U7,U8,U9,UC,UD,UE,UF,UG,UH,UK,UL,UY,UZ,Tc,Td,Te,Tf,Ti,Tn,Tp,Tq,Tu,T1,Sg,hx,hy,hz,h1,h2,h3,h4]; all_goals tactic => exact rfl))
def bstF2 (a b c d : Int) : AV := if c * b > a * d then .agg [I c,I d] else .agg [I a,I b]
theorem w98s {a b c d : Int} (h1 : IntKind.i64.wrap (c * b) = c * b) (h2 : IntKind.i64.wrap (a * d) = a * d) : runW progX 98 [.fn (.func 67) [] [],.agg [I a,I b],.sl 0 0 2 1] [some (.blk true (.cells true [I c,I d]))] = some (bstF2 a b c d,[some (.blk true (.cells true [I c,I d]))]) := by
  have e := w67 (a := c) (b := d) (c := a) (d := b) h1 h2
  unfold cmpF at e
  unfold bstF2
  rcases ptf (c * b > a * d) with g | g
  · have g0 := of_eq_true g
    rw [if_neg (by omega),if_pos (by omega)] at e
    simp only [g,if_true]
    rw [r98 (by simp)]; unfold x98; dsimp only
    unfold x98l0
    (sym => (simp [irem2,iquo2,remF,Za,Zb,Zc,Zf,Zg,Zh,Zj,Zl,Zm,Zn,Zt,Zu,Zx,Z1,Z7,ZB,ZD,ZH,ZI,ZL,ZM,ZQ,ZR,Ya,Yc,Yh,Yq,Ys,Yx,Y2,Y5,YQ,YT,YX,YY,Xc,Xe,Xf,Xo,Xq,Xt,Xu,Xy,X0,XJ,Wc,We,Wh,Wl,Wo,Wz,W0,W3,W4,W5,W6,W7,W8,W9,WB,WC,WF,WG,WI,WJ,WK,WL,WM,WN,WO,WP,WQ,WR,WS,WT,WW,WX,Vb,Vc,Vf,Vg,Vh,Vs,Vu,Vv,Vx,Vy,V0,V6,V7,V9,VA,VB,VC,VD,VG,VH,VI,VK,VL,VM,VN,VO,VP,VQ,VR,VU,VV,VW,VX,VY,VZ,Ua,Ub,Uc,Ud,Ug,Uj,Us,Uw,Ux,Uy,U1,U2,U3,U4,U5,U6,U7,U8,U9,UC,UD,UE,UK,UL,UY,UZ,Tc,Te,Tf,Ti,Tn,Tp,Tq,Tr,Ts,Tt,Tu,Tv,Tx,Tz,T1,T2,Sg,Sy,Sz,S6,e,loopU]; all_goals tactic => exact rfl))
  · have g0 := of_eq_false g
    simp only [g,if_false]
    by_cases h : c * b < a * d
    · rw [if_pos h] at e
      rw [r98 (by simp)]; unfold x98; dsimp only
      unfold x98l0
      (sym => (simp [irem2,iquo2,remF,Za,Zb,Zc,Zf,Zg,Zh,Zj,Zl,Zm,Zn,Zt,Zu,Zx,Z1,Z7,ZB,ZD,ZH,ZI,ZL,ZM,ZQ,ZR,Ya,Yc,Yh,Yq,Ys,Yx,Y2,Y5,YQ,YT,YX,YY,Xc,Xe,Xf,Xo,Xq,Xt,Xu,Xy,X0,XJ,Wc,We,Wh,Wl,Wo,Wz,W0,W3,W4,W5,W6,W7,W8,W9,WB,WC,WF,WG,WI,WJ,WK,WL,WM,WN,WO,WP,WQ,WR,WS,WT,WW,WX,Vb,Vc,Vf,Vg,Vh,Vs,Vu,Vv,Vx,Vy,V0,V6,V7,V9,VA,VB,VC,VD,VG,VH,VI,VK,VL,VM,VN,VO,VP,VQ,VR,VU,VV,VW,VX,VY,VZ,Ua,Ub,Uc,Ud,Ug,Uj,Us,Uw,Ux,Uy,U1,U2,U3,U4,U5,U6,U7,U8,U9,UC,UD,UE,UK,UL,UY,UZ,Tc,Te,Tf,Ti,Tn,Tp,Tq,Tr,Ts,Tt,Tu,Tv,Tx,Tz,T1,T2,Sg,Sy,Sz,S6,e,loopU]; all_goals tactic => exact rfl))
    · rw [if_neg h,if_neg (by omega)] at e
      rw [r98 (by simp)]; unfold x98; dsimp only
      unfold x98l0
      (sym => (simp [irem2,iquo2,remF,Za,Zb,Zc,Zf,Zg,Zh,Zj,Zl,Zm,Zn,Zt,Zu,Zx,Z1,Z7,ZB,ZD,ZH,ZI,ZL,ZM,ZQ,ZR,Ya,Yc,Yh,Yq,Ys,Yx,Y2,Y5,YQ,YT,YX,YY,Xc,Xe,Xf,Xo,Xq,Xt,Xu,Xy,X0,XJ,Wc,We,Wh,Wl,Wo,Wz,W0,W3,W4,W5,W6,W7,W8,W9,WB,WC,WF,WG,WI,WJ,WK,WL,WM,WN,WO,WP,WQ,WR,WS,WT,WW,WX,Vb,Vc,Vf,Vg,Vh,Vs,Vu,Vv,Vx,Vy,V0,V6,V7,V9,VA,VB,VC,VD,VG,VH,VI,VK,VL,VM,VN,VO,VP,VQ,VR,VU,VV,VW,VX,VY,VZ,Ua,Ub,Uc,Ud,Ug,Uj,Us,Uw,Ux,Uy,U1,U2,U3,U4,U5,U6,U7,U8,U9,UC,UD,UE,UK,UL,UY,UZ,Tc,Te,Tf,Ti,Tn,Tp,Tq,Tr,Ts,Tt,Tu,Tv,Tx,Tz,T1,T2,Sg,Sy,Sz,S6,e,loopU]; all_goals tactic => exact rfl))
end Go.Proofs.YtpbeclkpohehgaaDoor
namespace Go.Proofs.YtpbeclkpohehgaaDoor
open Go Go.DL
set_option maxRecDepth 100000
set_option maxHeartbeats 4000000
theorem giv_le {o u lo sk sw a b D : Int} (hD : D = a + b) (hb : 0 ≤ b) (hu : 0 < u) (h1 : sk * u ≤ o) (h2 : lo * b + (sk - sw) * D ≤ sk * b) : u * (o * a + lo * u * b) * u ≤ (o - (sk - sw) * u) * (u * u * D) := by
  subst hD
  have h3 := Int.mul_le_mul_of_nonneg_right h2 (Int.le_of_lt hu)
  have h4 := Int.mul_le_mul_of_nonneg_right h1 hb
  have e1 : (lo * b + (sk - sw) * (a + b)) * u = lo * u * b + sk * u * a + sk * u * b - sw * u * a - sw * u * b := by grind
  have e2 : sk * b * u = sk * u * b := by grind
  have e3 : (o - (sk - sw) * u) * (a + b) = o * a + o * b - sk * u * a - sk * u * b + sw * u * a + sw * u * b := by grind
  rw [e1,e2] at h3
  have h5 : o * a + lo * u * b ≤ (o - (sk - sw) * u) * (a + b) := by rw [e3]; omega
  have h6 := Int.mul_le_mul_of_nonneg_left h5 (Int.mul_nonneg (Int.le_of_lt hu) (Int.le_of_lt hu))
  have e4 : u * u * (o * a + lo * u * b) = u * (o * a + lo * u * b) * u := by grind
  have e5 : u * u * ((o - (sk - sw) * u) * (a + b)) = (o - (sk - sw) * u) * (u * u * (a + b)) := by grind
  rw [e4,e5] at h6
  exact h6
theorem rgt_le {o u go gu d : Int} (h : go * u ≤ (o - d * u) * gu) : d * (u * gu) ≤ o * gu - go * u := by
  have e : (o - d * u) * gu = o * gu - d * (u * gu) := by grind
  omega
theorem rat_le {r u o d : Int} (hu : 0 < u) (h : o ≤ r * u) (h2 : d * u ≤ o) : d ≤ r := Int.le_of_mul_le_mul_right (Int.le_trans h2 h) hu
theorem fr_tr {a b c d e f : Int} (hb : 0 < b) (hd : 0 < d) (hf : 0 < f) (h1 : a * d ≤ c * b) (h2 : c * f ≤ e * d) : a * f ≤ e * b := by
  have h3 := Int.mul_le_mul_of_nonneg_right h1 (Int.le_of_lt hf)
  have h4 := Int.mul_le_mul_of_nonneg_right h2 (Int.le_of_lt hb)
  have e1 : a * d * f = a * f * d := by grind
  have e2 : c * b * f = c * f * b := by grind
  have e3 : e * d * b = e * b * d := by grind
  rw [e1,e2] at h3
  rw [e3] at h4
  exact Int.le_of_mul_le_mul_right (Int.le_trans h3 h4) hd
def flF (o u : Int) : Int := if tmZ o u < 0 then tdZ o u - 1 else tdZ o u
theorem dm_eq {o u : Int} (hu : 0 < u) : tdZ o u * u + tmZ o u = o ∧ -u < tmZ o u ∧ tmZ o u < u ∧ (tdZ o u).natAbs ≤ o.natAbs := by
  unfold tdZ tmZ
  refine ⟨?_,?_,Int.tmod_lt_of_pos _ hu,?_⟩
  · have := Int.mul_tdiv_add_tmod o u
    rw [Int.mul_comm] at this
    exact this
  · have h := Int.tmod_lt_of_pos (-o) hu
    rw [Int.neg_tmod] at h
    omega
  · rw [Int.natAbs_tdiv]
    exact Nat.div_le_self _ _
theorem fl_le {o u : Int} (hu : 0 < u) : flF o u * u ≤ o ∧ o < flF o u * u + u := by
  obtain ⟨h1,h2,h3,_⟩ := dm_eq (o := o) hu
  unfold flF
  split
  · rw [Int.sub_mul,Int.one_mul]; omega
  · omega
theorem w70 {o u : Int} (hu : 0 < u) (ho : -1000000000000000 ≤ o ∧ o ≤ 1000000000000000) : runW progX 70 [.agg [I o,I u]] [] = some (I (flF o u),[]) := by
  obtain ⟨h1,h2,h3,h4⟩ := dm_eq (o := o) hu
  have c1 : (u = 0) = False := eq_false (by omega)
  have q1 : IntKind.i64.wrap (tdZ o u) = tdZ o u := wrap_ok (by omega) (by omega)
  have q2 : IntKind.i64.wrap (tdZ o u - 1) = tdZ o u - 1 := wrap_ok (by omega) (by omega)
  unfold flF
  clear h1 h2 h3 h4
  generalize ha : tdZ o u = a at *
  generalize hb : tmZ o u = b at *
  rw [r70 (by simp)]; unfold x70; dsimp only
  rcases ptf (b < 0) with g | g
  · simp only [g,if_true]
    (sym => (simp [irem2,iquo2,remF,Za,Zb,Zf,Zh,Zl,Zm,Zn,Zt,Zx,Z1,Z5,ZD,ZX,Yi,Yq,YQ,Xe,Xf,Xo,X0,Wc,We,Wo,Wz,W0,W3,W9,WA,WI,WM,WO,WP,WQ,Vs,V6,V7,V9,VA,VB,VC,VD,VG,VH,VI,VJ,VL,VP,VQ,VR,VU,VW,VY,VZ,Ub,Ud,Uj,Ux,Uy,U2,U3,U6,U7,UC,UD,UK,UL,UY,UZ,Td,Ti,Tn,Tp,Tq,Tr,Tu,T1,T2,Sg,c1,ha,hb,q1,q2,g]; all_goals tactic => exact rfl))
  · simp only [g,if_false]
    (sym => (simp [irem2,iquo2,remF,Za,Zb,Zf,Zh,Zl,Zm,Zn,Zt,Zx,Z1,Z5,ZD,ZX,Yi,Yq,YQ,Xe,Xf,Xo,X0,Wc,We,Wo,Wz,W0,W3,W9,WA,WI,WM,WO,WP,WQ,Vs,V6,V7,V9,VA,VB,VC,VD,VG,VH,VI,VJ,VL,VP,VQ,VR,VU,VW,VY,VZ,Ub,Ud,Uj,Ux,Uy,U2,U3,U6,U7,UC,UD,UK,UL,UY,UZ,Td,Ti,Tn,Tp,Tq,Tr,Tu,T1,T2,Sg,c1,ha,hb,q1,q2,g]; all_goals tactic => exact rfl))
theorem w68 {o u : Int} (hu : 0 < u) (ho : -1000000000000000 ≤ o ∧ o ≤ 1000000000000000) : runW progX 68 [.agg [I o,I u]] [] = some (I (-flF (-o) u),[]) := by
  have e := w70 (o := -o) hu (by omega)
  have q1 : IntKind.i64.wrap (0 - o) = -o := by rw [Int.zero_sub]; exact wrap_ok (by omega) (by omega)
  have bd : (flF (-o) u).natAbs ≤ 1000000000000001 := by
    obtain ⟨_,_,_,h⟩ := dm_eq (o := -o) hu
    unfold flF
    split <;> omega
  have q2 : IntKind.i64.wrap (0 - flF (-o) u) = -flF (-o) u := by rw [Int.zero_sub]; exact wrap_ok (by omega) (by omega)
  generalize -o = m at *
  generalize flF m u = f at *
  generalize -f = f2 at *
  rw [r68 (by simp)]; unfold x68; dsimp only
  (sym => (simp [irem2,iquo2,remF,Za,Zb,Zd,Ze,Zf,Zh,Zl,Zm,Zn,Zt,Zx,Zy,Z3,Z5,ZD,ZL,ZM,ZQ,ZR,ZV,ZX,YO,YQ,YT,Xe,Xf,Xo,Xq,X0,Wc,We,Wn,Wo,Wz,W0,W3,W5,W7,W8,W9,WA,WI,WL,WM,WN,WO,WP,WQ,WS,WT,Vf,Vg,Vh,Vs,V6,V7,V9,VA,VB,VC,VD,VG,VH,VI,VJ,VL,VU,VV,VW,VX,VY,VZ,Ub,Uc,Ud,Uj,Us,U1,U2,U3,U4,U5,U6,U7,UC,UD,UE,UF,UG,UH,UK,UL,UY,UZ,Td,Ti,Tp,Tq,Tu,T1,T2,Sg,e,q1,q2]; all_goals tactic => exact rfl))
theorem ce_le {o u : Int} (hu : 0 < u) : o ≤ -flF (-o) u * u := by
  have := (fl_le (o := -o) hu).1
  rw [Int.neg_mul]
  omega
structure YrOk (yc : List AV) (lo hi : Nat → Int) : Prop where
  len : yc.length = 61
  sm : sameL yc yc = true
  c0 : yc[0]? = some (I 6)
  gl : ∀ w : Nat,w < 6 → yc[w + 1]? = some (I (lo w))
  gh : ∀ w : Nat,w < 6 → yc[w + 31]? = some (I (hi w))
  bl : ∀ w : Nat,w < 6 → 0 ≤ lo w ∧ lo w ≤ 30000
  bh : ∀ w : Nat,w < 6 → 0 ≤ hi w ∧ hi w ≤ 30000
abbrev bY (yc : List AV) : Option XB := some (.blk true (.cells true yc))
theorem w103 {yc : List AV} {lo hi : Nat → Int} (h : YrOk yc lo hi) {w : Nat} (hw : w < 6) : runW progX 103 [.pt 0 0,I (w : Nat)] [bY yc] = some (.agg [I (w : Nat),I (lo w),I 1],[bY yc]) := by
  have c1 := h.gl w hw
  have k1 : (0 ≤ (w : Int)) = True := eq_true (by omega)
  have k2 : ((w : Int) < 30) = True := eq_true (by omega)
  have e := w97 (lo w)
  have c2 : yc[1 + w]? = some (I (lo w)) := by rw [Nat.add_comm]; exact c1
  generalize lo w = x at *
  rw [r103 (by simp)]; unfold x103; dsimp only
  (sym => (simp [irem2,iquo2,remF,Za,Zb,Zc,Zd,Ze,Zf,Zh,Zl,Zm,Zt,Zu,Zy,Z0,Z5,Z6,ZD,ZH,ZI,ZL,ZM,ZQ,ZR,ZX,Yu,Yv,YF,YO,YP,YQ,YT,Xe,Xo,Xq,X0,XJ,Wc,We,Wi,Wn,Wo,Wz,W0,W3,W4,W5,W6,W7,W8,W9,WI,WL,WM,WN,WO,WP,WQ,WS,WT,WW,WX,Vb,Vc,Vf,Vg,Vh,Vs,V6,V7,V9,VA,VB,VC,VD,VG,VH,VI,VK,VL,VU,VV,VW,VX,VY,VZ,Ua,Ub,Uc,Ud,Uj,Us,U1,U2,U3,U4,U5,U6,U7,U8,U9,UC,UD,UE,UF,UG,UH,UY,UZ,Tc,Td,Te,Tf,Tp,Tq,Tu,T1,T2,T4,Sg,Sw,c1,c2,k1,k2,e]; all_goals tactic => exact rfl))
def lnU (pw pu qw qu : Int) : Int := pu * (qu * pu) * (qw - pw)
def lnO (pw po pu qw qo qu wk : Int) : Int := po * (qu * pu) * (qw - pw) + (qo * pu - po * qu) * pu * (wk - pw)
def lnR (pw po pu qw qo qu wk : Int) : AV := if lnU pw pu qw qu < 0 then .agg [I (-lnO pw po pu qw qo qu wk),I (-lnU pw pu qw qu)] else .agg [I (lnO pw po pu qw qo qu wk),I (lnU pw pu qw qu)]
theorem w104 {pw po pu qw qo qu wk : Int} (h1 : 0 ≤ pw ∧ pw ≤ 5) (h2 : 0 ≤ qw ∧ qw ≤ 5) (h3 : 0 ≤ wk ∧ wk ≤ 5) (h4 : -1000000 ≤ po ∧ po ≤ 1000000) (h5 : -1000000 ≤ qo ∧ qo ≤ 1000000) (h6 : 1 ≤ pu ∧ pu ≤ 10) (h7 : 1 ≤ qu ∧ qu ≤ 10) :
    runW progX 104 [.agg [I pw,I po,I pu],.agg [I qw,I qo,I qu],I wk] [] = some (lnR pw po pu qw qo qu wk,[]) := by
  have a1 := mul_bd (a := qo) (b := pu) (A := 1000000) (B := 10) (by omega) (by omega)
  have a2 := mul_bd (a := po) (b := qu) (A := 1000000) (B := 10) (by omega) (by omega)
  have a3 := mul_bd (a := qu) (b := pu) (A := 10) (B := 10) (by omega) (by omega)
  have a4 := mul_bd (a := po) (b := qu * pu) (A := 1000000) (B := 100) (by omega) (by omega)
  have a5 := mul_bd (a := po * (qu * pu)) (b := qw - pw) (A := 100000000) (B := 5) (by omega) (by omega)
  have a6 := mul_bd (a := qo * pu - po * qu) (b := pu) (A := 20000000) (B := 10) (by omega) (by omega)
  have a7 := mul_bd (a := (qo * pu - po * qu) * pu) (b := wk - pw) (A := 200000000) (B := 5) (by omega) (by omega)
  have a8 := mul_bd (a := pu) (b := qu * pu) (A := 10) (B := 100) (by omega) (by omega)
  have a9 := mul_bd (a := pu * (qu * pu)) (b := qw - pw) (A := 1000) (B := 5) (by omega) (by omega)
  have e := w99 (a := qo) (b := qu) (c := po) (d := pu) (wrap_ok (by omega) (by omega)) (wrap_ok (by omega) (by omega)) (wrap_ok (by omega) (by omega)) (wrap_ok (by omega) (by omega))
  unfold lnR lnO lnU
  generalize qu * pu = su at *
  generalize qo * pu - po * qu = so at *
  have q1 : IntKind.i64.wrap (qw - pw) = qw - pw := wrap_ok (by omega) (by omega)
  have q2 : IntKind.i64.wrap (wk - pw) = wk - pw := wrap_ok (by omega) (by omega)
  generalize hwd : qw - pw = wd at *
  generalize hwk : wk - pw = kd at *
  have q3 : IntKind.i64.wrap (po * su) = po * su := wrap_ok (by omega) (by omega)
  have q4 : IntKind.i64.wrap (so * pu) = so * pu := wrap_ok (by omega) (by omega)
  have q5 : IntKind.i64.wrap (pu * su) = pu * su := wrap_ok (by omega) (by omega)
  generalize hx : po * su = x at *
  generalize hy : so * pu = y at *
  generalize hz : pu * su = v at *
  have q6 : IntKind.i64.wrap (x * wd) = x * wd := wrap_ok (by omega) (by omega)
  have q7 : IntKind.i64.wrap (y * kd) = y * kd := wrap_ok (by omega) (by omega)
  have q8 : IntKind.i64.wrap (v * wd) = v * wd := wrap_ok (by omega) (by omega)
  generalize hx2 : x * wd = x2 at *
  generalize hy2 : y * kd = y2 at *
  generalize hv2 : v * wd = v2 at *
  have q9 : IntKind.i64.wrap (x2 + y2) = x2 + y2 := wrap_ok (by omega) (by omega)
  generalize hs : x2 + y2 = s at *
  have qa : IntKind.i64.wrap (0 - s) = -s := by rw [Int.zero_sub]; exact wrap_ok (by omega) (by omega)
  have qb : IntKind.i64.wrap (0 - v2) = -v2 := by rw [Int.zero_sub]; exact wrap_ok (by omega) (by omega)
  rw [r104 (by simp)]; unfold x104; dsimp only
  rcases ptf (v2 < 0) with g | g
  · simp only [g,if_true]
    (sym => (simp [irem2,iquo2,remF,Za,Zb,Zc,Zd,Ze,Zf,Zg,Zh,Zj,Zl,Zm,Zn,Zt,Zu,Zx,Zy,Z1,Z3,Z5,ZD,ZH,ZI,ZL,ZM,ZQ,ZR,ZV,ZX,Yh,Yi,Yj,Yq,YO,YQ,YT,Xe,Xf,Xo,Xq,X0,XJ,Wc,We,Wn,Wo,Wz,W0,W3,W4,W5,W6,W7,W8,W9,WA,WI,WL,WM,WN,WO,WP,WQ,WS,WT,Vf,Vg,Vh,Vs,Vu,Vv,Vx,Vy,V0,V6,V7,V9,VA,VB,VC,VD,VG,VH,VI,VK,VL,VP,VQ,VR,VU,VV,VW,VX,VY,VZ,Ub,Uc,Ud,Uj,Us,Ux,Uy,U1,U2,U3,U4,U5,U6,U7,U8,U9,UC,UD,UE,UF,UG,UH,UK,UL,UY,UZ,Tc,Td,Te,Tf,Ti,Tn,Tp,Tq,Tr,Tu,Tw,T1,T2,Sg,Sy,Sz,S6,e,hwd,hwk,hx,hy,hz,hx2,hy2,hv2,hs,q1,q2,q3,q4,q5,q6,q7,q8,q9,qa,qb,g]; all_goals tactic => exact rfl))
  · simp only [g,if_false]
    (sym => (simp [irem2,iquo2,remF,Za,Zb,Zc,Zd,Ze,Zf,Zg,Zh,Zj,Zl,Zm,Zn,Zt,Zu,Zx,Zy,Z1,Z3,Z5,ZD,ZH,ZI,ZL,ZM,ZQ,ZR,ZV,ZX,Yh,Yi,Yj,Yq,YO,YQ,YT,Xe,Xf,Xo,Xq,X0,XJ,Wc,We,Wn,Wo,Wz,W0,W3,W4,W5,W6,W7,W8,W9,WA,WI,WL,WM,WN,WO,WP,WQ,WS,WT,Vf,Vg,Vh,Vs,Vu,Vv,Vx,Vy,V0,V6,V7,V9,VA,VB,VC,VD,VG,VH,VI,VK,VL,VP,VQ,VR,VU,VV,VW,VX,VY,VZ,Ub,Uc,Ud,Uj,Us,Ux,Uy,U1,U2,U3,U4,U5,U6,U7,U8,U9,UC,UD,UE,UF,UG,UH,UK,UL,UY,UZ,Tc,Td,Te,Tf,Ti,Tn,Tp,Tq,Tr,Tu,Tw,T1,T2,Sg,Sy,Sz,S6,e,hwd,hwk,hx,hy,hz,hx2,hy2,hv2,hs,q1,q2,q3,q4,q5,q6,q7,q8,q9,g]; all_goals tactic => exact rfl))
end Go.Proofs.YtpbeclkpohehgaaDoor
