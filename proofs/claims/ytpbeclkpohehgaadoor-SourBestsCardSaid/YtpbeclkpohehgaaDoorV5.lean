/- Parts of a proof, joined: GT E0 E1 K1 K2 K3 K4 K5 K6 K7 K8 K9 K10 K11 K12 K13 K14 K15 K16 K17 K18 K19 K20 K21 K22. No statement of the seed is proved here. -/
import Derived.KernelRfl
import Derived.Test.YtpbeclkpohehgaaDoorV4
set_option linter.unusedSimpArgs false
set_option linter.unusedVariables false
set_option linter.unusedSectionVars false
namespace Go.Proofs.YtpbeclkpohehgaaDoor
open Go Go.DL Go.Proofs.Tryd

def progX : Nat → Option XFn
  | 5 => some x5
  | 14 => some x14
  | 15 => some x15
  | 16 => some x16
  | 17 => some x17
  | 19 => some x19
  | 21 => some x21
  | 22 => some x22
  | 23 => some x23
  | 29 => some x29
  | 31 => some x31
  | 32 => some x32
  | 33 => some x33
  | 34 => some x34
  | 35 => some x35
  | 36 => some x36
  | 37 => some x37
  | 44 => some x44
  | 48 => some x48
  | 49 => some x49
  | 50 => some x50
  | 51 => some x51
  | 52 => some x52
  | 53 => some x53
  | 54 => some x54
  | 56 => some x56
  | 57 => some x57
  | 58 => some x58
  | 59 => some x59
  | 60 => some x60
  | 61 => some x61
  | 62 => some x62
  | 63 => some x63
  | 64 => some x64
  | 72 => some x72
  | 73 => some x73
  | 74 => some x74
  | 75 => some x75
  | 76 => some x76
  | 77 => some x77
  | 78 => some x78
  | 79 => some x79
  | 80 => some x80
  | 81 => some x81
  | 82 => some x82
  | 83 => some x83
  | 84 => some x84
  | 85 => some x85
  | 86 => some x86
  | 87 => some x87
  | 88 => some x88
  | 89 => some x89
  | 90 => some x90
  | 91 => some x91
  | 93 => some x93
  | 105 => some x105
  | 106 => some x106
  | 107 => some x107
  | 108 => some x108
  | 109 => some x109
  | 110 => some x110
  | 111 => some x111
  | 112 => some x112
  | 116 => some x116
  | 117 => some x117
  | 118 => some x118
  | 119 => some x119
  | _ => none
theorem progX_ok : XOk prog progX := by
  refine ⟨rfl, fun k d h => ?_, fun k d h => ?_, fun k d h => ?_⟩
  · unfold progX at h
    split at h <;> first | (cases h; done) | (simp only [Option.some.injEq] at h; subst h; first | exact is5 | exact is14 | exact is15 | exact is16 | exact is17 | exact is19 | exact is21 | exact is22 | exact is23 | exact is29 | exact is31 | exact is32 | exact is33 | exact is34 | exact is35 | exact is36 | exact is37 | exact is44 | exact is48 | exact is49 | exact is50 | exact is51 | exact is52 | exact is53 | exact is54 | exact is56 | exact is57 | exact is58 | exact is59 | exact is60 | exact is61 | exact is62 | exact is63 | exact is64 | exact is72 | exact is73 | exact is74 | exact is75 | exact is76 | exact is77 | exact is78 | exact is79 | exact is80 | exact is81 | exact is82 | exact is83 | exact is84 | exact is85 | exact is86 | exact is87 | exact is88 | exact is89 | exact is90 | exact is91 | exact is93 | exact is105 | exact is106 | exact is107 | exact is108 | exact is109 | exact is110 | exact is111 | exact is112 | exact is116 | exact is117 | exact is118 | exact is119)
  · unfold progX at h
    split at h <;> first | (cases h; done) | (simp only [Option.some.injEq] at h; subst h; first | exact ok5 | exact ok14 | exact ok15 | exact ok16 | exact ok17 | exact ok19 | exact ok21 | exact ok22 | exact ok23 | exact ok29 | exact ok31 | exact ok32 | exact ok33 | exact ok34 | exact ok35 | exact ok36 | exact ok37 | exact ok44 | exact ok48 | exact ok49 | exact ok50 | exact ok51 | exact ok52 | exact ok53 | exact ok54 | exact ok56 | exact ok57 | exact ok58 | exact ok59 | exact ok60 | exact ok61 | exact ok62 | exact ok63 | exact ok64 | exact ok72 | exact ok73 | exact ok74 | exact ok75 | exact ok76 | exact ok77 | exact ok78 | exact ok79 | exact ok80 | exact ok81 | exact ok82 | exact ok83 | exact ok84 | exact ok85 | exact ok86 | exact ok87 | exact ok88 | exact ok89 | exact ok90 | exact ok91 | exact ok93 | exact ok105 | exact ok106 | exact ok107 | exact ok108 | exact ok109 | exact ok110 | exact ok111 | exact ok112 | exact ok116 | exact ok117 | exact ok118 | exact ok119)
  · unfold progX at h
    split at h <;> first | (cases h; done) | (simp only [Option.some.injEq] at h; subst h; first | exact st5 | exact st14 | exact st15 | exact st16 | exact st17 | exact st19 | exact st21 | exact st22 | exact st23 | exact st29 | exact st31 | exact st32 | exact st33 | exact st34 | exact st35 | exact st36 | exact st37 | exact st44 | exact st48 | exact st49 | exact st50 | exact st51 | exact st52 | exact st53 | exact st54 | exact st56 | exact st57 | exact st58 | exact st59 | exact st60 | exact st61 | exact st62 | exact st63 | exact st64 | exact st72 | exact st73 | exact st74 | exact st75 | exact st76 | exact st77 | exact st78 | exact st79 | exact st80 | exact st81 | exact st82 | exact st83 | exact st84 | exact st85 | exact st86 | exact st87 | exact st88 | exact st89 | exact st90 | exact st91 | exact st93 | exact st105 | exact st106 | exact st107 | exact st108 | exact st109 | exact st110 | exact st111 | exact st112 | exact st116 | exact st117 | exact st118 | exact st119)
theorem r5 {vs : List AV} {h : XH} (hl : vs.length ≤ 88) : runW progX 5 vs h = retX x5.res x5.ownR h.length (execW progX 5 h.length none x5.body (argEnv (if x5.ownA then vs else nzL vs)) h) := runW_eq rfl hl h
theorem r14 {vs : List AV} {h : XH} (hl : vs.length ≤ 57) : runW progX 14 vs h = retX x14.res x14.ownR h.length (execW progX 14 h.length none x14.body (argEnv (if x14.ownA then vs else nzL vs)) h) := runW_eq rfl hl h
theorem r15 {vs : List AV} {h : XH} (hl : vs.length ≤ 170) : runW progX 15 vs h = retX x15.res x15.ownR h.length (execW progX 15 h.length none x15.body (argEnv (if x15.ownA then vs else nzL vs)) h) := runW_eq rfl hl h
theorem r16 {vs : List AV} {h : XH} (hl : vs.length ≤ 65) : runW progX 16 vs h = retX x16.res x16.ownR h.length (execW progX 16 h.length none x16.body (argEnv (if x16.ownA then vs else nzL vs)) h) := runW_eq rfl hl h
theorem r22 {vs : List AV} {h : XH} (hl : vs.length ≤ 67) : runW progX 22 vs h = retX x22.res x22.ownR h.length (execW progX 22 h.length none x22.body (argEnv (if x22.ownA then vs else nzL vs)) h) := runW_eq rfl hl h
theorem r23 {vs : List AV} {h : XH} (hl : vs.length ≤ 59) : runW progX 23 vs h = retX x23.res x23.ownR h.length (execW progX 23 h.length none x23.body (argEnv (if x23.ownA then vs else nzL vs)) h) := runW_eq rfl hl h
theorem r29 {vs : List AV} {h : XH} (hl : vs.length ≤ 23) : runW progX 29 vs h = retX x29.res x29.ownR h.length (execW progX 29 h.length none x29.body (argEnv (if x29.ownA then vs else nzL vs)) h) := runW_eq rfl hl h
theorem r31 {vs : List AV} {h : XH} (hl : vs.length ≤ 78) : runW progX 31 vs h = retX x31.res x31.ownR h.length (execW progX 31 h.length none x31.body (argEnv (if x31.ownA then vs else nzL vs)) h) := runW_eq rfl hl h
theorem r32 {vs : List AV} {h : XH} (hl : vs.length ≤ 73) : runW progX 32 vs h = retX x32.res x32.ownR h.length (execW progX 32 h.length none x32.body (argEnv (if x32.ownA then vs else nzL vs)) h) := runW_eq rfl hl h
theorem r33 {vs : List AV} {h : XH} (hl : vs.length ≤ 58) : runW progX 33 vs h = retX x33.res x33.ownR h.length (execW progX 33 h.length none x33.body (argEnv (if x33.ownA then vs else nzL vs)) h) := runW_eq rfl hl h
theorem r34 {vs : List AV} {h : XH} (hl : vs.length ≤ 26) : runW progX 34 vs h = retX x34.res x34.ownR h.length (execW progX 34 h.length none x34.body (argEnv (if x34.ownA then vs else nzL vs)) h) := runW_eq rfl hl h
theorem r35 {vs : List AV} {h : XH} (hl : vs.length ≤ 63) : runW progX 35 vs h = retX x35.res x35.ownR h.length (execW progX 35 h.length none x35.body (argEnv (if x35.ownA then vs else nzL vs)) h) := runW_eq rfl hl h
theorem r52 {vs : List AV} {h : XH} (hl : vs.length ≤ 46) : runW progX 52 vs h = retX x52.res x52.ownR h.length (execW progX 52 h.length none x52.body (argEnv (if x52.ownA then vs else nzL vs)) h) := runW_eq rfl hl h
theorem r54 {vs : List AV} {h : XH} (hl : vs.length ≤ 22) : runW progX 54 vs h = retX x54.res x54.ownR h.length (execW progX 54 h.length none x54.body (argEnv (if x54.ownA then vs else nzL vs)) h) := runW_eq rfl hl h
theorem r56 {vs : List AV} {h : XH} (hl : vs.length ≤ 26) : runW progX 56 vs h = retX x56.res x56.ownR h.length (execW progX 56 h.length none x56.body (argEnv (if x56.ownA then vs else nzL vs)) h) := runW_eq rfl hl h
theorem r57 {vs : List AV} {h : XH} (hl : vs.length ≤ 42) : runW progX 57 vs h = retX x57.res x57.ownR h.length (execW progX 57 h.length none x57.body (argEnv (if x57.ownA then vs else nzL vs)) h) := runW_eq rfl hl h
theorem r58 {vs : List AV} {h : XH} (hl : vs.length ≤ 15) : runW progX 58 vs h = retX x58.res x58.ownR h.length (execW progX 58 h.length none x58.body (argEnv (if x58.ownA then vs else nzL vs)) h) := runW_eq rfl hl h
theorem r59 {vs : List AV} {h : XH} (hl : vs.length ≤ 24) : runW progX 59 vs h = retX x59.res x59.ownR h.length (execW progX 59 h.length none x59.body (argEnv (if x59.ownA then vs else nzL vs)) h) := runW_eq rfl hl h
theorem r60 {vs : List AV} {h : XH} (hl : vs.length ≤ 48) : runW progX 60 vs h = retX x60.res x60.ownR h.length (execW progX 60 h.length none x60.body (argEnv (if x60.ownA then vs else nzL vs)) h) := runW_eq rfl hl h
theorem r61 {vs : List AV} {h : XH} (hl : vs.length ≤ 77) : runW progX 61 vs h = retX x61.res x61.ownR h.length (execW progX 61 h.length none x61.body (argEnv (if x61.ownA then vs else nzL vs)) h) := runW_eq rfl hl h
theorem r62 {vs : List AV} {h : XH} (hl : vs.length ≤ 15) : runW progX 62 vs h = retX x62.res x62.ownR h.length (execW progX 62 h.length none x62.body (argEnv (if x62.ownA then vs else nzL vs)) h) := runW_eq rfl hl h
theorem r63 {vs : List AV} {h : XH} (hl : vs.length ≤ 24) : runW progX 63 vs h = retX x63.res x63.ownR h.length (execW progX 63 h.length none x63.body (argEnv (if x63.ownA then vs else nzL vs)) h) := runW_eq rfl hl h
theorem r64 {vs : List AV} {h : XH} (hl : vs.length ≤ 62) : runW progX 64 vs h = retX x64.res x64.ownR h.length (execW progX 64 h.length none x64.body (argEnv (if x64.ownA then vs else nzL vs)) h) := runW_eq rfl hl h
theorem r72 {vs : List AV} {h : XH} (hl : vs.length ≤ 46) : runW progX 72 vs h = retX x72.res x72.ownR h.length (execW progX 72 h.length none x72.body (argEnv (if x72.ownA then vs else nzL vs)) h) := runW_eq rfl hl h
theorem r73 {vs : List AV} {h : XH} (hl : vs.length ≤ 26) : runW progX 73 vs h = retX x73.res x73.ownR h.length (execW progX 73 h.length none x73.body (argEnv (if x73.ownA then vs else nzL vs)) h) := runW_eq rfl hl h
theorem r74 {vs : List AV} {h : XH} (hl : vs.length ≤ 6) : runW progX 74 vs h = retX x74.res x74.ownR h.length (execW progX 74 h.length none x74.body (argEnv (if x74.ownA then vs else nzL vs)) h) := runW_eq rfl hl h
theorem r75 {vs : List AV} {h : XH} (hl : vs.length ≤ 20) : runW progX 75 vs h = retX x75.res x75.ownR h.length (execW progX 75 h.length none x75.body (argEnv (if x75.ownA then vs else nzL vs)) h) := runW_eq rfl hl h
theorem r76 {vs : List AV} {h : XH} (hl : vs.length ≤ 46) : runW progX 76 vs h = retX x76.res x76.ownR h.length (execW progX 76 h.length none x76.body (argEnv (if x76.ownA then vs else nzL vs)) h) := runW_eq rfl hl h
theorem r77 {vs : List AV} {h : XH} (hl : vs.length ≤ 115) : runW progX 77 vs h = retX x77.res x77.ownR h.length (execW progX 77 h.length none x77.body (argEnv (if x77.ownA then vs else nzL vs)) h) := runW_eq rfl hl h
theorem r78 {vs : List AV} {h : XH} (hl : vs.length ≤ 27) : runW progX 78 vs h = retX x78.res x78.ownR h.length (execW progX 78 h.length none x78.body (argEnv (if x78.ownA then vs else nzL vs)) h) := runW_eq rfl hl h
theorem r79 {vs : List AV} {h : XH} (hl : vs.length ≤ 32) : runW progX 79 vs h = retX x79.res x79.ownR h.length (execW progX 79 h.length none x79.body (argEnv (if x79.ownA then vs else nzL vs)) h) := runW_eq rfl hl h
theorem r80 {vs : List AV} {h : XH} (hl : vs.length ≤ 29) : runW progX 80 vs h = retX x80.res x80.ownR h.length (execW progX 80 h.length none x80.body (argEnv (if x80.ownA then vs else nzL vs)) h) := runW_eq rfl hl h
theorem r81 {vs : List AV} {h : XH} (hl : vs.length ≤ 4) : runW progX 81 vs h = retX x81.res x81.ownR h.length (execW progX 81 h.length none x81.body (argEnv (if x81.ownA then vs else nzL vs)) h) := runW_eq rfl hl h
theorem r82 {vs : List AV} {h : XH} (hl : vs.length ≤ 13) : runW progX 82 vs h = retX x82.res x82.ownR h.length (execW progX 82 h.length none x82.body (argEnv (if x82.ownA then vs else nzL vs)) h) := runW_eq rfl hl h
theorem r83 {vs : List AV} {h : XH} (hl : vs.length ≤ 10) : runW progX 83 vs h = retX x83.res x83.ownR h.length (execW progX 83 h.length none x83.body (argEnv (if x83.ownA then vs else nzL vs)) h) := runW_eq rfl hl h
theorem r84 {vs : List AV} {h : XH} (hl : vs.length ≤ 9) : runW progX 84 vs h = retX x84.res x84.ownR h.length (execW progX 84 h.length none x84.body (argEnv (if x84.ownA then vs else nzL vs)) h) := runW_eq rfl hl h
theorem r85 {vs : List AV} {h : XH} (hl : vs.length ≤ 5) : runW progX 85 vs h = retX x85.res x85.ownR h.length (execW progX 85 h.length none x85.body (argEnv (if x85.ownA then vs else nzL vs)) h) := runW_eq rfl hl h
theorem r86 {vs : List AV} {h : XH} (hl : vs.length ≤ 38) : runW progX 86 vs h = retX x86.res x86.ownR h.length (execW progX 86 h.length none x86.body (argEnv (if x86.ownA then vs else nzL vs)) h) := runW_eq rfl hl h
theorem r87 {vs : List AV} {h : XH} (hl : vs.length ≤ 71) : runW progX 87 vs h = retX x87.res x87.ownR h.length (execW progX 87 h.length none x87.body (argEnv (if x87.ownA then vs else nzL vs)) h) := runW_eq rfl hl h
theorem r93 {vs : List AV} {h : XH} (hl : vs.length ≤ 5) : runW progX 93 vs h = retX x93.res x93.ownR h.length (execW progX 93 h.length none x93.body (argEnv (if x93.ownA then vs else nzL vs)) h) := runW_eq rfl hl h
theorem r105 {vs : List AV} {h : XH} (hl : vs.length ≤ 36) : runW progX 105 vs h = retX x105.res x105.ownR h.length (execW progX 105 h.length none x105.body (argEnv (if x105.ownA then vs else nzL vs)) h) := runW_eq rfl hl h
theorem r106 {vs : List AV} {h : XH} (hl : vs.length ≤ 14) : runW progX 106 vs h = retX x106.res x106.ownR h.length (execW progX 106 h.length none x106.body (argEnv (if x106.ownA then vs else nzL vs)) h) := runW_eq rfl hl h
theorem r108 {vs : List AV} {h : XH} (hl : vs.length ≤ 19) : runW progX 108 vs h = retX x108.res x108.ownR h.length (execW progX 108 h.length none x108.body (argEnv (if x108.ownA then vs else nzL vs)) h) := runW_eq rfl hl h
theorem r109 {vs : List AV} {h : XH} (hl : vs.length ≤ 13) : runW progX 109 vs h = retX x109.res x109.ownR h.length (execW progX 109 h.length none x109.body (argEnv (if x109.ownA then vs else nzL vs)) h) := runW_eq rfl hl h
theorem r110 {vs : List AV} {h : XH} (hl : vs.length ≤ 29) : runW progX 110 vs h = retX x110.res x110.ownR h.length (execW progX 110 h.length none x110.body (argEnv (if x110.ownA then vs else nzL vs)) h) := runW_eq rfl hl h
theorem r112 {vs : List AV} {h : XH} (hl : vs.length ≤ 8) : runW progX 112 vs h = retX x112.res x112.ownR h.length (execW progX 112 h.length none x112.body (argEnv (if x112.ownA then vs else nzL vs)) h) := runW_eq rfl hl h
theorem r119 {vs : List AV} {h : XH} (hl : vs.length ≤ 35) : runW progX 119 vs h = retX x119.res x119.ownR h.length (execW progX 119 h.length none x119.body (argEnv (if x119.ownA then vs else nzL vs)) h) := runW_eq rfl hl h

end Go.Proofs.YtpbeclkpohehgaaDoor
namespace Go.Proofs.YtpbeclkpohehgaaDoor
open Go Go.DL
theorem wk_0 : runW progX 49 [] [] = some (.fs [[.fs [[I (0)], [I (2)]]], [.fs [[I (1)]]]], []) := runW_iff.2 ⟨400, by kernel_rfl⟩
theorem wk_1 : runW progX 48 [.fs [[.fs [[I (0)], [I (2)]]], [.fs [[I (1)]]]]] [] = some (.agg [.fs [[.fs [[I (0), I (10)], [I (600), I (20)], [I (900), I (50)], [I (1000), I (90)]]], [.fs [[I (900), I (10)], [I (1800), I (30)]]]], .fs [[I (0), I (300), I (300), I (100), I (200)], [I (1), I (700), I (800), I (200), I (200)], [I (0), I (500), I (600), I (100), I (100)]], .fs [[.fs [[I (0)], [I (2)]]], [.fs [[I (1)]]]], I (0), I (30)], []) := runW_iff.2 ⟨400, by kernel_rfl⟩
theorem wk_2 : runW progX 17 [.agg [.fs [[.fs [[I (0), I (10)], [I (600), I (20)], [I (900), I (50)], [I (1000), I (90)]]], [.fs [[I (900), I (10)], [I (1800), I (30)]]]], .fs [[I (0), I (300), I (300), I (100), I (200)], [I (1), I (700), I (800), I (200), I (200)], [I (0), I (500), I (600), I (100), I (100)]], .fs [[.fs [[I (0)], [I (2)]]], [.fs [[I (1)]]]], I (0), I (30)], .sl 0 0 1 3] [some (.blk true (.cells true [I (0), I (2), I (1)]))] = some (.tup [.fs [[I (100), I (230)], [I (400), I (530)], [I (200), I (330)]], .fs [[I (10), I (10)], [I (10), I (10)], [I (20), I (50)]], I (0)], [none]) := runW_iff.2 ⟨400, by kernel_rfl⟩
theorem wk_3 : runW progX 19 [.agg [.fs [[.fs [[I (0), I (10)], [I (600), I (20)], [I (900), I (50)], [I (1000), I (90)]]], [.fs [[I (900), I (10)], [I (1800), I (30)]]]], .fs [[I (0), I (300), I (300), I (100), I (200)], [I (1), I (700), I (800), I (200), I (200)], [I (0), I (500), I (600), I (100), I (100)]], .fs [[.fs [[I (0)], [I (2)]]], [.fs [[I (1)]]]], I (0), I (30)], .sl 0 0 1 3] [some (.blk true (.cells true [I (0), I (1), I (2)]))] = some (.tup [I (90), I (0)], [none]) := runW_iff.2 ⟨400, by kernel_rfl⟩
theorem wk_4 : runW progX 19 [.agg [.fs [[.fs [[I (0), I (10)], [I (600), I (20)], [I (900), I (50)], [I (1000), I (90)]]], [.fs [[I (900), I (10)], [I (1800), I (30)]]]], .fs [[I (0), I (300), I (300), I (100), I (200)], [I (1), I (700), I (800), I (200), I (200)], [I (0), I (500), I (600), I (100), I (100)]], .fs [[.fs [[I (0)], [I (2)]]], [.fs [[I (1)]]]], I (0), I (30)], .sl 0 0 1 3] [some (.blk true (.cells true [I (2), I (0), I (1)]))] = some (.tup [I (0), I (21)], [none]) := runW_iff.2 ⟨400, by kernel_rfl⟩
theorem wk_5 : runW progX 44 [I (100), I (230)] [] = some (.agg [I (100), I (230)], []) := runW_iff.2 ⟨400, by kernel_rfl⟩
theorem wk_6 : runW progX 44 [I (400), I (530)] [] = some (.agg [I (400), I (530)], []) := runW_iff.2 ⟨400, by kernel_rfl⟩
theorem wk_7 : runW progX 44 [I (200), I (330)] [] = some (.agg [I (200), I (330)], []) := runW_iff.2 ⟨400, by kernel_rfl⟩
theorem wk_8 : runW progX 21 [.fs [[I (100), I (230)], [I (400), I (530)], [I (200), I (330)]], .sl 0 0 2 3] [some (.blk true (.cells true [I (100), I (230), I (400), I (530), I (200), I (330)]))] = some (.bool true, [some (.blk true (.cells true [I (100), I (230), I (400), I (530), I (200), I (330)]))]) := runW_iff.2 ⟨400, by kernel_rfl⟩
theorem wk_9 : runW progX 50 [I (10)] [] = some (.agg [I (10), I (10)], []) := runW_iff.2 ⟨400, by kernel_rfl⟩
theorem wk_10 : runW progX 44 [I (20), I (50)] [] = some (.agg [I (20), I (50)], []) := runW_iff.2 ⟨400, by kernel_rfl⟩
theorem wk_11 : runW progX 21 [.fs [[I (10), I (10)], [I (10), I (10)], [I (20), I (50)]], .sl 0 0 2 3] [some (.blk true (.cells true [I (10), I (10), I (10), I (10), I (20), I (50)]))] = some (.bool true, [some (.blk true (.cells true [I (10), I (10), I (10), I (10), I (20), I (50)]))]) := runW_iff.2 ⟨400, by kernel_rfl⟩
theorem wk_12 : runW progX 29 [.agg [.fs [[.fs [[I (0), I (10)], [I (600), I (20)], [I (900), I (50)], [I (1000), I (90)]]], [.fs [[I (900), I (10)], [I (1800), I (30)]]]], .fs [[I (0), I (300), I (300), I (100), I (200)], [I (1), I (700), I (800), I (200), I (200)], [I (0), I (500), I (600), I (100), I (100)]], .fs [[.fs [[I (0)], [I (2)]]], [.fs [[I (1)]]]], I (0), I (30)]] [] = some (.tup [.fs [[I (0)], [I (2)], [I (1)]], I (50), I (0)], []) := runW_iff.2 ⟨400, by kernel_rfl⟩
theorem wk_13 : runW progX 51 [] [] = some (.fs [[.fs [[I (0)]]], [.fs [[I (1)]]], [.fs [[I (2)]]]], []) := runW_iff.2 ⟨400, by kernel_rfl⟩
theorem wk_14 : runW progX 48 [.fs [[.fs [[I (0)]]], [.fs [[I (1)]]], [.fs [[I (2)]]]]] [] = some (.agg [.fs [[.fs [[I (0), I (10)], [I (600), I (20)], [I (900), I (50)], [I (1000), I (90)]]], [.fs [[I (900), I (10)], [I (1800), I (30)]]]], .fs [[I (0), I (300), I (300), I (100), I (200)], [I (1), I (700), I (800), I (200), I (200)], [I (0), I (500), I (600), I (100), I (100)]], .fs [[.fs [[I (0)]]], [.fs [[I (1)]]], [.fs [[I (2)]]]], I (0), I (30)], []) := runW_iff.2 ⟨400, by kernel_rfl⟩
theorem wk_15 : runW progX 29 [.agg [.fs [[.fs [[I (0), I (10)], [I (600), I (20)], [I (900), I (50)], [I (1000), I (90)]]], [.fs [[I (900), I (10)], [I (1800), I (30)]]]], .fs [[I (0), I (300), I (300), I (100), I (200)], [I (1), I (700), I (800), I (200), I (200)], [I (0), I (500), I (600), I (100), I (100)]], .fs [[.fs [[I (0)]]], [.fs [[I (1)]]], [.fs [[I (2)]]]], I (0), I (30)]] [] = some (.tup [.fs [[I (2)], [I (0)], [I (1)]], I (20), I (0)], []) := runW_iff.2 ⟨400, by kernel_rfl⟩
theorem wk_16 : runW progX 32 [.agg [.fs [[.fs [[I (0), I (10)], [I (600), I (20)], [I (900), I (50)], [I (1000), I (90)]]], [.fs [[I (900), I (10)], [I (1800), I (30)]]]], .fs [[I (0), I (300), I (300), I (100), I (200)], [I (1), I (700), I (800), I (200), I (200)], [I (0), I (500), I (600), I (100), I (100)]], .fs [[.fs [[I (0)], [I (2)]]], [.fs [[I (1)]]]], I (0), I (30)]] [] = some (.tup [.fs [[I (0)], [I (2)]], I (0)], []) := runW_iff.2 ⟨400, by kernel_rfl⟩
theorem wk_17 : runW progX 37 [.agg [.fs [[.fs [[I (0), I (10)], [I (600), I (20)], [I (900), I (50)], [I (1000), I (90)]]], [.fs [[I (900), I (10)], [I (1800), I (30)]]]], .fs [[I (0), I (300), I (300), I (100), I (200)], [I (1), I (700), I (800), I (200), I (200)], [I (0), I (500), I (600), I (100), I (100)]], .fs [[.fs [[I (0)], [I (2)]]], [.fs [[I (1)]]]], I (0), I (30)], .sl 0 0 1 3, I (50)] [some (.blk true (.cells true [I (0), I (2), I (1)]))] = some (.tup [I (69), I (0)], [none]) := runW_iff.2 ⟨400, by kernel_rfl⟩
theorem wk_18 : runW progX 37 [.agg [.fs [[.fs [[I (0), I (10)], [I (600), I (20)], [I (900), I (50)], [I (1000), I (90)]]], [.fs [[I (900), I (10)], [I (1800), I (30)]]]], .fs [[I (0), I (300), I (300), I (100), I (200)], [I (1), I (700), I (800), I (200), I (200)], [I (0), I (500), I (600), I (100), I (100)]], .fs [[.fs [[I (0)], [I (2)]]], [.fs [[I (1)]]]], I (0), I (30)], .sl 0 0 1 3, I (90)] [some (.blk true (.cells true [I (0), I (2), I (1)]))] = some (.tup [I (1125899906842624), I (0)], [none]) := runW_iff.2 ⟨400, by kernel_rfl⟩
theorem wk_19 : runW progX 34 [.fs [[I (0)], [I (2)], [I (1)]], .sl 0 0 1 3] [some (.blk true (.cells true [I (0), I (2), I (1)]))] = some (.bool true, [some (.blk true (.cells true [I (0), I (2), I (1)]))]) := runW_iff.2 ⟨400, by kernel_rfl⟩
theorem wk_20 : runW progX 34 [.fs [[I (2)], [I (0)], [I (1)]], .sl 0 0 1 3] [some (.blk true (.cells true [I (2), I (0), I (1)]))] = some (.bool true, [some (.blk true (.cells true [I (2), I (0), I (1)]))]) := runW_iff.2 ⟨400, by kernel_rfl⟩
theorem wk_21 : runW progX 36 [.agg [.fs [[.fs [[I (0), I (10)], [I (600), I (20)], [I (900), I (50)], [I (1000), I (90)]]], [.fs [[I (900), I (10)], [I (1800), I (30)]]]], .fs [[I (0), I (300), I (300), I (100), I (200)], [I (1), I (700), I (800), I (200), I (200)], [I (0), I (500), I (600), I (100), I (100)]], .fs [[.fs [[I (0)], [I (2)]]], [.fs [[I (1)]]]], I (0), I (30)], I (50), .fs [[I (0)], [I (2)]]] [] = some (I (0), []) := runW_iff.2 ⟨400, by kernel_rfl⟩
theorem wk_22 : runW progX 36 [.agg [.fs [[.fs [[I (0), I (10)], [I (600), I (20)], [I (900), I (50)], [I (1000), I (90)]]], [.fs [[I (900), I (10)], [I (1800), I (30)]]]], .fs [[I (0), I (300), I (300), I (100), I (200)], [I (1), I (700), I (800), I (200), I (200)], [I (0), I (500), I (600), I (100), I (100)]], .fs [[.fs [[I (0)], [I (2)]]], [.fs [[I (1)]]]], I (0), I (30)], I (50), .sl 0 0 1 2] [some (.blk true (.cells true [I (0), I (2)]))] = some (I (0), [some (.blk true (.cells true [I (0), I (2)]))]) := runW_iff.2 ⟨400, by kernel_rfl⟩
theorem wk_23 : runW progX 36 [.agg [.fs [[.fs [[I (0), I (10)], [I (600), I (20)], [I (900), I (50)], [I (1000), I (90)]]], [.fs [[I (900), I (10)], [I (1800), I (30)]]]], .fs [[I (0), I (300), I (300), I (100), I (200)], [I (1), I (700), I (800), I (200), I (200)], [I (0), I (500), I (600), I (100), I (100)]], .fs [[.fs [[I (0)], [I (2)]]], [.fs [[I (1)]]]], I (0), I (30)], I (51), .sl 0 0 1 2] [some (.blk true (.cells true [I (0), I (2)]))] = some (I (11), [some (.blk true (.cells true [I (0), I (2)]))]) := runW_iff.2 ⟨400, by kernel_rfl⟩
end Go.Proofs.YtpbeclkpohehgaaDoor
namespace Go.Proofs.YtpbeclkpohehgaaDoor
open Go Go.DL
set_option maxHeartbeats 4000000
set_option maxRecDepth 100000
theorem works_w : runW progX 15 [] [] = some (.bool true, []) := by
  rw [r15 (by simp)]; unfold x15; dsimp only
  (sym => (simp [Za,Zb,Zd,Ze,Zf,Zg,Zh,Zj,Zl,Zm,Zn,Zo,Zp,Zq,Zu,Zx,Z0,Z2,Z3,ZB,ZM,ZN,ZR,ZS,ZT,ZU,ZV,Yg,Yn,Yo,YE,YF,YG,YJ,YK,YR,YU,Xe,Xf,Xg,Xh,Xi,Xj,Xr,Xu,XQ,XW,Wc,We,Wp,Ws,Wt,Wv,Ww,Wy,Wz,W3,W4,W7,W8,W9,WA,WB,WC,WE,WF,WG,WI,WJ,WK,WL,WM,WN,WS,WV,WW,WX,WY,Vi,Vk,Vl,Vm,Vw,Vx,Vz,V0,V1,V2,V3,V6,V7,V8,V9,VF,VH,VK,VL,VM,VN,VO,VP,VR,VS,VT,VZ,Uc,Uh,Uk,Ul,Un,Uo,Uq,Ur,Us,Ut,Uu,Uv,Uw,U1,U3,U4,U5,U6,UB,UC,UD,UE,UZ,Te,Tf,Tg,Th,Tk,Ts,Tt,T6,T7,Sc,Sn,Sq,Ss, wk_0, wk_1, wk_2, wk_3, wk_4, wk_5, wk_6, wk_7, wk_8, wk_9, wk_10, wk_11, wk_12, wk_13, wk_14, wk_15, wk_16, wk_17, wk_18, wk_19, wk_20, wk_21, wk_22, wk_23]; all_goals tactic => exact rfl))
end Go.Proofs.YtpbeclkpohehgaaDoor
namespace Go.Proofs.YtpbeclkpohehgaaDoor
open Go Go.DL
set_option maxRecDepth 100000
set_option maxHeartbeats 1000000
theorem ptf (p : Prop) : p = True ∨ p = False := by
  by_cases h : p
  · exact .inl (eq_true h)
  · exact .inr (eq_false h)
theorem at_ix {α : Type} {l : List α} {i : Nat} (h : i < l.length) : ∃ x, l[i]? = some x := ⟨_, List.getElem?_eq_getElem h⟩
theorem lt_ix {α : Type} {l : List α} {i : Nat} (h : i < l.length) : ((i : Int) < (l.length : Int)) = True := eq_true (by omega)
theorem up_ix {n i : Nat} (h : i < n) (hn : n ≤ 9223372036854775807) : IntKind.i64.wrap ((i : Int) + 1) = (i : Int) + 1 := wrap_ok (by omega) (by omega)
theorem lt_of {α : Type} {l : List α} {i : Nat} {x : α} (h : l[i]? = some x) : i < l.length := (List.getElem?_eq_some_iff.1 h).1

def btw (a b c : Int) : Bool := decide (a ≤ b) && decide (b ≤ c)
theorem w58 (a b c : Int) : runW progX 58 [I a, I b, I c] [] = some (.bool (btw a b c), []) := by
  rw [r58 (by simp)]; unfold x58; dsimp only
  rcases ptf (a ≤ b) with h | h
  · (sym => (simp [Za,Zb,Zf,Zh,Zl,Zm,Zo,Zp,Zr,Zu,Zx,Z2,ZT,ZU,Yq,YF,Xf,Xr,XP,XQ,Wx,W7,WB,WC,WF,WG,Vi,Vw,Vx,Vz,V0,V1,V2,V3,V6,V7,V8,V9,VB,VK,VM,VP,VR,VT,VY,Ua,Ul,Um,Uq,Ur,Us,U1,U2,Te,Tf,Tg,Tk,Ts,Tt,Sc, h, btw.eq_1]; all_goals tactic => exact rfl))
  · (sym => (simp [Za,Zb,Zf,Zh,Zl,Zm,Zo,Zp,Zr,Zu,Zx,Z2,ZT,ZU,Yq,YF,Xf,Xr,XP,XQ,Wx,W7,WB,WC,WF,WG,Vi,Vw,Vx,Vz,V0,V1,V2,V3,V6,V7,V8,V9,VB,VK,VM,VP,VR,VT,VY,Ua,Ul,Um,Uq,Ur,Us,U1,U2,Te,Tf,Tg,Tk,Ts,Tt,Sc, h, btw.eq_1]; all_goals tactic => exact rfl))
theorem w62 (a b c : Int) : runW progX 62 [I b, I a, I c] [] = some (.bool (btw a b c), []) := by
  rw [r62 (by simp)]; unfold x62; dsimp only
  rcases ptf (a ≤ b) with h | h
  · (sym => (simp [Za,Zb,Zf,Zh,Zl,Zm,Zo,Zp,Zr,Zu,Zx,Z2,ZT,ZU,Yq,Ys,YF,Xf,Xr,XP,XQ,Wx,W7,WB,WC,WF,WG,Vi,Vw,Vx,Vz,V0,V1,V2,V3,V6,V7,V8,V9,VB,VK,VM,VP,VR,VT,VY,Ua,Ul,Um,Uq,Ur,Us,U1,U2,Te,Tf,Tg,Tk,Ts,Tt,Sc, h, btw.eq_1]; all_goals tactic => exact rfl))
  · (sym => (simp [Za,Zb,Zf,Zh,Zl,Zm,Zo,Zp,Zr,Zu,Zx,Z2,ZT,ZU,Yq,Ys,YF,Xf,Xr,XP,XQ,Wx,W7,WB,WC,WF,WG,Vi,Vw,Vx,Vz,V0,V1,V2,V3,V6,V7,V8,V9,VB,VK,VM,VP,VR,VT,VY,Ua,Ul,Um,Uq,Ur,Us,U1,U2,Te,Tf,Tg,Tk,Ts,Tt,Sc, h, btw.eq_1]; all_goals tactic => exact rfl))
/-- A span lies within others. -/
def inS (lo hi a b : Int) : Bool := decide (a ≤ lo) && (decide (lo ≤ hi) && decide (hi ≤ b))
theorem w59 (lo hi a b : Int) : runW progX 59 [.agg [I lo, I hi], I a, I b] [] = some (.bool (inS lo hi a b), []) := by
  rw [r59 (by simp)]; unfold x59; dsimp only
  rcases ptf (a ≤ lo) with h | h
  · rcases ptf (lo ≤ hi) with h2 | h2
    · (sym => (simp [Za,Zb,Zf,Zh,Zl,Zm,Zn,Zo,Zp,Zr,Zu,Zx,Zy,Z2,Z5,ZE,ZT,ZU,ZX,Yq,YF,YR,YU,Xf,Xr,XP,XQ,XU,We,Wp,Wq,Wr,Wx,Wy,W7,WB,WE,WF,WG,Vi,Vw,Vx,Vz,V0,V1,V2,V3,V6,V7,V8,V9,VB,VK,VM,VO,VP,VR,VT,VY,VZ,Ua,Ub,Ul,Um,Ur,Us,Uv,Uw,U1,U2,U9,UA,UP,UQ,UU,UZ,Te,Tf,Tg,Tk,Ts,Tt,Sc, h, h2, inS.eq_1]; all_goals tactic => exact rfl))
    · (sym => (simp [Za,Zb,Zf,Zh,Zl,Zm,Zn,Zo,Zp,Zr,Zu,Zx,Zy,Z2,Z5,ZE,ZT,ZU,ZX,Yq,YF,YR,YU,Xf,Xr,XP,XQ,XU,We,Wp,Wq,Wr,Wx,Wy,W7,WB,WE,WF,WG,Vi,Vw,Vx,Vz,V0,V1,V2,V3,V6,V7,V8,V9,VB,VK,VM,VO,VP,VR,VT,VY,VZ,Ua,Ub,Ul,Um,Ur,Us,Uv,Uw,U1,U2,U9,UA,UP,UQ,UU,UZ,Te,Tf,Tg,Tk,Ts,Tt,Sc, h, h2, inS.eq_1]; all_goals tactic => exact rfl))
  · (sym => (simp [Za,Zb,Zf,Zh,Zl,Zm,Zn,Zo,Zp,Zr,Zu,Zx,Zy,Z2,Z5,ZE,ZT,ZU,ZX,Yq,YF,YR,YU,Xf,Xr,XP,XQ,XU,We,Wp,Wq,Wr,Wx,Wy,W7,WB,WE,WF,WG,Vi,Vw,Vx,Vz,V0,V1,V2,V3,V6,V7,V8,V9,VB,VK,VM,VO,VP,VR,VT,VY,VZ,Ua,Ub,Ul,Um,Ur,Us,Uv,Uw,U1,U2,U9,UA,UP,UQ,UU,UZ,Te,Tf,Tg,Tk,Ts,Tt,Sc, h, inS.eq_1]; all_goals tactic => exact rfl))
theorem w63 (lo hi a b : Int) : runW progX 63 [.agg [I lo, I hi], I a, I b] [] = some (.bool (inS lo hi a b), []) := by
  rw [r63 (by simp)]; unfold x63; dsimp only
  rcases ptf (a ≤ lo) with h | h
  · rcases ptf (lo ≤ hi) with h2 | h2
    · (sym => (simp [Za,Zb,Zf,Zh,Zl,Zm,Zn,Zo,Zp,Zr,Zu,Zx,Zy,Z2,Z5,ZE,ZT,ZU,ZX,Yq,Ys,YF,YR,YU,Xf,Xr,XP,XQ,XU,We,Wp,Wq,Wr,Wx,Wy,W7,WB,WE,WF,WG,Vi,Vw,Vx,Vz,V0,V1,V2,V3,V6,V7,V8,V9,VB,VK,VM,VO,VP,VR,VT,VY,VZ,Ua,Ub,Ul,Um,Ur,Us,Uv,Uw,U1,U2,U9,UA,UP,UQ,UU,UZ,Te,Tf,Tg,Tk,Ts,Tt,Sc, h, h2, inS.eq_1]; all_goals tactic => exact rfl))
    · (sym => (simp [Za,Zb,Zf,Zh,Zl,Zm,Zn,Zo,Zp,Zr,Zu,Zx,Zy,Z2,Z5,ZE,ZT,ZU,ZX,Yq,Ys,YF,YR,YU,Xf,Xr,XP,XQ,XU,We,Wp,Wq,Wr,Wx,Wy,W7,WB,WE,WF,WG,Vi,Vw,Vx,Vz,V0,V1,V2,V3,V6,V7,V8,V9,VB,VK,VM,VO,VP,VR,VT,VY,VZ,Ua,Ub,Ul,Um,Ur,Us,Uv,Uw,U1,U2,U9,UA,UP,UQ,UU,UZ,Te,Tf,Tg,Tk,Ts,Tt,Sc, h, h2, inS.eq_1]; all_goals tactic => exact rfl))
  · (sym => (simp [Za,Zb,Zf,Zh,Zl,Zm,Zn,Zo,Zp,Zr,Zu,Zx,Zy,Z2,Z5,ZE,ZT,ZU,ZX,Yq,Ys,YF,YR,YU,Xf,Xr,XP,XQ,XU,We,Wp,Wq,Wr,Wx,Wy,W7,WB,WE,WF,WG,Vi,Vw,Vx,Vz,V0,V1,V2,V3,V6,V7,V8,V9,VB,VK,VM,VO,VP,VR,VT,VY,VZ,Ua,Ub,Ul,Um,Ur,Us,Uv,Uw,U1,U2,U9,UA,UP,UQ,UU,UZ,Te,Tf,Tg,Tk,Ts,Tt,Sc, h, inS.eq_1]; all_goals tactic => exact rfl))

/-- A kind's steps. -/
structure St where
  a : Int
  s : Int
abbrev St.row (x : St) : List AV := [I x.a, I x.s]
abbrev rS (k : List St) : AV := .fs (k.map St.row)
/-- The first number that is not 0. -/
def firstN (f : Nat → Int) : Nat → Int
  | 0 => 0
  | n + 1 => if firstN f n = 0 then f n else firstN f n
theorem firstN_ix (f : Nat → Int) : ∀ n, ∃ m, m ≤ n ∧ (∀ i, i < m → f i = 0) ∧ ((m = n ∧ firstN f n = 0) ∨ (m < n ∧ f m ≠ 0 ∧ firstN f n = f m))
  | 0 => ⟨0, Nat.le_refl _, fun i hi => by omega, .inl ⟨rfl, rfl⟩⟩
  | n + 1 => by
    obtain ⟨m, h1, h2, h3⟩ := firstN_ix f n
    rcases h3 with ⟨rfl, h4⟩ | ⟨h4, h5, h6⟩
    · by_cases hf : f m = 0
      · refine ⟨m + 1, Nat.le_refl _, fun i hi => ?_, .inl ⟨rfl, by rw [firstN, if_pos h4, hf]⟩⟩
        by_cases hi2 : i = m
        · rw [hi2]; exact hf
        · exact h2 i (by omega)
      · exact ⟨m, by omega, h2, .inr ⟨by omega, hf, by rw [firstN, if_pos h4]⟩⟩
    · exact ⟨m, by omega, h2, .inr ⟨by omega, h5, by rw [firstN, if_neg (by rw [h6]; exact h5), h6]⟩⟩
theorem firstN_0 {f : Nat → Int} : ∀ {n}, firstN f n = 0 → ∀ i, i < n → f i = 0
  | 0, _, i, hi => by omega
  | n + 1, h, i, hi => by
    rw [firstN] at h
    by_cases h0 : firstN f n = 0
    · rw [if_pos h0] at h
      by_cases hin : i = n
      · rw [hin]; exact h
      · exact firstN_0 h0 i (by omega)
    · rw [if_neg h0] at h
      exact absurd h h0

def prA (k : List St) : Nat → Int
  | 0 => -1
  | i + 1 => (k.getD i ⟨0, 0⟩).a
def prS (k : List St) : Nat → Int
  | 0 => 0
  | i + 1 => (k.getD i ⟨0, 0⟩).s
/-- The error of a step. -/
def kErr (k : List St) (i : Nat) : Int := if btw 0 (k.getD i ⟨0, 0⟩).a 100000 && btw 1 (k.getD i ⟨0, 0⟩).s 1000000 then (if (k.getD i ⟨0, 0⟩).a ≤ prA k i ∨ (k.getD i ⟨0, 0⟩).s ≤ prS k i then 7 else 0) else 2
theorem btwF {a b c : Int} : btw a b c = true ↔ a ≤ b ∧ b ≤ c := by simp [btw]
theorem kErr_of {k : List St} {i : Nat} {x : St} (hx : k[i]? = some x) : (btw 0 x.a 100000 = true ∧ btw 1 x.s 1000000 = true ∧ (x.a ≤ prA k i) = False ∧ (x.s ≤ prS k i) = False ∧ kErr k i = 0) ∨
    (btw 0 x.a 100000 = true ∧ btw 1 x.s 1000000 = true ∧ (x.a ≤ prA k i) = False ∧ (x.s ≤ prS k i) = True ∧ kErr k i = 7) ∨ (btw 0 x.a 100000 = true ∧ btw 1 x.s 1000000 = true ∧ (x.a ≤ prA k i) = True ∧ kErr k i = 7) ∨
    (btw 0 x.a 100000 = true ∧ btw 1 x.s 1000000 = false ∧ kErr k i = 2) ∨ (btw 0 x.a 100000 = false ∧ kErr k i = 2) := by
  have e : k.getD i ⟨0, 0⟩ = x := by rw [List.getD_eq_getElem?_getD, hx]; rfl
  unfold kErr
  rw [e]
  cases btw 0 x.a 100000
  · simp
  cases btw 1 x.s 1000000
  · simp
  by_cases h3 : x.a ≤ prA k i
  · simp [h3]
  by_cases h4 : x.s ≤ prS k i
  · simp [h3, h4]
  simp [h3, h4]
theorem pr_up {k : List St} {i : Nat} {x : St} (hx : k[i]? = some x) : prA k (i + 1) = x.a ∧ prS k (i + 1) = x.s := by
  have e : k.getD i ⟨0, 0⟩ = x := by rw [List.getD_eq_getElem?_getD, hx]; rfl
  exact ⟨congrArg St.a e, congrArg St.s e⟩
def chkD (k : List St) : Int := if 8 < k.length then 1 else firstN (kErr k) k.length
theorem w57 (k : List St) : runW progX 57 [rS k] [] = some (I (chkD k), []) := by
  rw [r57 (by simp)]; unfold x57; dsimp only
  unfold chkD
  by_cases h8 : 8 < k.length
  · rw [if_pos h8]
    have h8 : ((8 : Int) < (k.length : Int)) = True := eq_true (by omega)
    (sym => (simp [Za,Zb,Zc,Zd,Ze,Zf,Zg,Zh,Zj,Zl,Zm,Zo,Zq,Zs,Zu,Zv,Zx,Zz,Z2,Z3,Z5,Z7,ZC,ZE,ZI,ZJ,ZM,ZN,ZR,ZS,ZT,ZU,ZV,ZX,ZZ,Ye,Yf,Yh,Yp,Yq,Yr,Yt,Yu,Yx,YC,YE,YJ,YL,YR,Xe,Xf,Xi,Xk,Xq,XP,XW,Wc,We,Wp,Wq,Wr,Ws,Wt,Wu,Wv,Ww,Wx,Wy,Wz,W4,W5,W7,W8,W9,WA,WB,WC,WE,WF,WG,WH,WI,WJ,WM,WN,WS,WV,WW,WX,Vi,Vk,Vl,Vn,Vo,Vq,Vw,Vx,Vz,V0,V1,V2,V3,V6,V7,V8,V9,VB,VC,VD,VE,VF,VG,VH,VI,VJ,VK,VL,VM,VN,VO,VP,VR,VS,VT,VU,VV,VW,VZ,Uc,Ud,Uh,Uk,Ul,Um,Uq,Ur,Us,Ut,Uu,Uv,Uw,U1,U2,U3,U4,U5,U6,UO,UP,UQ,UR,US,UT,UU,UV,UW,Te,Tf,Tg,Th,Ti,Tj,Tk,Tl,Tm,Tn,Tp,Tq,Tr,Ts,Tt,Ty,Sc,Sn,Sq,Sr, h8]; all_goals tactic => exact rfl))
  · rw [if_neg h8]
    have g8 : ((8 : Int) < (k.length : Int)) = False := eq_false (by omega)
    have z := UO (n := (k.length : Int))
    obtain ⟨m, m1, m2, m3⟩ := firstN_ix (kErr k) k.length
    have p0 : prA k 0 = -1 := rfl
    have q0 : prS k 0 = 0 := rfl
    sym =>
      simp [Za,Zb,Zc,Zd,Ze,Zf,Zg,Zh,Zj,Zl,Zm,Zo,Zq,Zs,Zu,Zv,Zx,Zz,Z2,Z3,Z5,Z7,ZC,ZE,ZI,ZJ,ZM,ZN,ZR,ZS,ZT,ZU,ZV,ZX,ZZ,Ye,Yf,Yh,Yp,Yq,Yr,Yt,Yu,Yx,YC,YE,YJ,YL,YR,Xe,Xf,Xi,Xk,Xq,XP,XW,Wc,We,Wp,Wq,Wr,Ws,Wt,Wu,Wv,Ww,Wx,Wy,Wz,W4,W5,W7,W8,W9,WA,WB,WC,WE,WF,WG,WH,WI,WJ,WM,WN,WS,WV,WW,WX,Vi,Vk,Vl,Vn,Vo,Vq,Vw,Vx,Vz,V0,V1,V2,V3,V6,V7,V8,V9,VB,VC,VD,VE,VF,VG,VH,VI,VJ,VK,VL,VM,VN,VO,VP,VR,VS,VT,VU,VV,VW,VZ,Uc,Ud,Uh,Uk,Ul,Um,Uq,Ur,Us,Ut,Uu,Uv,Uw,U1,U2,U3,U4,U5,U6,UO,UP,UQ,UR,US,UT,UU,UV,UW,Te,Tf,Tg,Th,Ti,Tj,Tk,Tl,Tm,Tn,Tp,Tq,Tr,Ts,Tt,Ty,Sc,Sn,Sq,Sr, g8]
      tactic =>
        unfold x57l0
        rw [loop_rule m (fun i => [.pt 0 0, rS k, I k.length, I (i : Nat)]) (fun i => [some (.blk true (.cells true [I (prA k i), I (prS k i)]))])]
        · rcases m3 with ⟨rfl, e⟩ | ⟨m3, m4, e⟩
          · rw [e]; (sym => (simp [Za,Zb,Zc,Zd,Ze,Zf,Zg,Zh,Zj,Zl,Zm,Zo,Zq,Zs,Zu,Zv,Zx,Zz,Z2,Z3,Z5,Z7,ZC,ZE,ZI,ZJ,ZM,ZN,ZR,ZS,ZT,ZU,ZV,ZX,ZZ,Ye,Yf,Yh,Yp,Yq,Yr,Yt,Yu,Yx,YC,YE,YJ,YL,YR,Xe,Xf,Xi,Xk,Xq,XP,XW,Wc,We,Wp,Wq,Wr,Ws,Wt,Wu,Wv,Ww,Wx,Wy,Wz,W4,W5,W7,W8,W9,WA,WB,WC,WE,WF,WG,WH,WI,WJ,WM,WN,WS,WV,WW,WX,Vi,Vk,Vl,Vn,Vo,Vq,Vw,Vx,Vz,V0,V1,V2,V3,V6,V7,V8,V9,VB,VC,VD,VE,VF,VG,VH,VI,VJ,VK,VL,VM,VN,VO,VP,VR,VS,VT,VU,VV,VW,VZ,Uc,Ud,Uh,Uk,Ul,Um,Uq,Ur,Us,Ut,Uu,Uv,Uw,U1,U2,U3,U4,U5,U6,UO,UP,UQ,UR,US,UT,UU,UV,UW,Te,Tf,Tg,Th,Ti,Tj,Tk,Tl,Tm,Tn,Tp,Tq,Tr,Ts,Tt,Ty,Sc,Sn,Sq,Sr, z]; all_goals tactic => exact rfl))
          · rw [e]
            obtain ⟨x, hx⟩ := at_ix m3
            have a1 := lt_ix m3
            rcases kErr_of hx with ⟨_, _, _, _, h5⟩ | ⟨h1, h2, h3, h4, h5⟩ | ⟨h1, h2, h3, h5⟩ | ⟨h1, h2, h5⟩ | ⟨h1, h5⟩
            · exact absurd h5 m4
            all_goals rw [h5]
            · (sym => (simp [Za,Zb,Zc,Zd,Ze,Zf,Zg,Zh,Zj,Zl,Zm,Zo,Zq,Zs,Zu,Zv,Zx,Zz,Z2,Z3,Z5,Z7,ZC,ZE,ZI,ZJ,ZM,ZN,ZR,ZS,ZT,ZU,ZV,ZX,ZZ,Ye,Yf,Yh,Yp,Yq,Yr,Yt,Yu,Yx,YC,YE,YJ,YL,YR,Xe,Xf,Xi,Xk,Xq,XP,XW,Wc,We,Wp,Wq,Wr,Ws,Wt,Wu,Wv,Ww,Wx,Wy,Wz,W4,W5,W7,W8,W9,WA,WB,WC,WE,WF,WG,WH,WI,WJ,WM,WN,WS,WV,WW,WX,Vi,Vk,Vl,Vn,Vo,Vq,Vw,Vx,Vz,V0,V1,V2,V3,V6,V7,V8,V9,VB,VC,VD,VE,VF,VG,VH,VI,VJ,VK,VL,VM,VN,VO,VP,VR,VS,VT,VU,VV,VW,VZ,Uc,Ud,Uh,Uk,Ul,Um,Uq,Ur,Us,Ut,Uu,Uv,Uw,U1,U2,U3,U4,U5,U6,UO,UP,UQ,UR,US,UT,UU,UV,UW,Te,Tf,Tg,Th,Ti,Tj,Tk,Tl,Tm,Tn,Tp,Tq,Tr,Ts,Tt,Ty,Sc,Sn,Sq,Sr, a1, hx, w58, h1, h2, h3, h4]; all_goals tactic => exact rfl))
            · (sym => (simp [Za,Zb,Zc,Zd,Ze,Zf,Zg,Zh,Zj,Zl,Zm,Zo,Zq,Zs,Zu,Zv,Zx,Zz,Z2,Z3,Z5,Z7,ZC,ZE,ZI,ZJ,ZM,ZN,ZR,ZS,ZT,ZU,ZV,ZX,ZZ,Ye,Yf,Yh,Yp,Yq,Yr,Yt,Yu,Yx,YC,YE,YJ,YL,YR,Xe,Xf,Xi,Xk,Xq,XP,XW,Wc,We,Wp,Wq,Wr,Ws,Wt,Wu,Wv,Ww,Wx,Wy,Wz,W4,W5,W7,W8,W9,WA,WB,WC,WE,WF,WG,WH,WI,WJ,WM,WN,WS,WV,WW,WX,Vi,Vk,Vl,Vn,Vo,Vq,Vw,Vx,Vz,V0,V1,V2,V3,V6,V7,V8,V9,VB,VC,VD,VE,VF,VG,VH,VI,VJ,VK,VL,VM,VN,VO,VP,VR,VS,VT,VU,VV,VW,VZ,Uc,Ud,Uh,Uk,Ul,Um,Uq,Ur,Us,Ut,Uu,Uv,Uw,U1,U2,U3,U4,U5,U6,UO,UP,UQ,UR,US,UT,UU,UV,UW,Te,Tf,Tg,Th,Ti,Tj,Tk,Tl,Tm,Tn,Tp,Tq,Tr,Ts,Tt,Ty,Sc,Sn,Sq,Sr, a1, hx, w58, h1, h2, h3]; all_goals tactic => exact rfl))
            · (sym => (simp [Za,Zb,Zc,Zd,Ze,Zf,Zg,Zh,Zj,Zl,Zm,Zo,Zq,Zs,Zu,Zv,Zx,Zz,Z2,Z3,Z5,Z7,ZC,ZE,ZI,ZJ,ZM,ZN,ZR,ZS,ZT,ZU,ZV,ZX,ZZ,Ye,Yf,Yh,Yp,Yq,Yr,Yt,Yu,Yx,YC,YE,YJ,YL,YR,Xe,Xf,Xi,Xk,Xq,XP,XW,Wc,We,Wp,Wq,Wr,Ws,Wt,Wu,Wv,Ww,Wx,Wy,Wz,W4,W5,W7,W8,W9,WA,WB,WC,WE,WF,WG,WH,WI,WJ,WM,WN,WS,WV,WW,WX,Vi,Vk,Vl,Vn,Vo,Vq,Vw,Vx,Vz,V0,V1,V2,V3,V6,V7,V8,V9,VB,VC,VD,VE,VF,VG,VH,VI,VJ,VK,VL,VM,VN,VO,VP,VR,VS,VT,VU,VV,VW,VZ,Uc,Ud,Uh,Uk,Ul,Um,Uq,Ur,Us,Ut,Uu,Uv,Uw,U1,U2,U3,U4,U5,U6,UO,UP,UQ,UR,US,UT,UU,UV,UW,Te,Tf,Tg,Th,Ti,Tj,Tk,Tl,Tm,Tn,Tp,Tq,Tr,Ts,Tt,Ty,Sc,Sn,Sq,Sr, a1, hx, w58, h1, h2]; all_goals tactic => exact rfl))
            · (sym => (simp [Za,Zb,Zc,Zd,Ze,Zf,Zg,Zh,Zj,Zl,Zm,Zo,Zq,Zs,Zu,Zv,Zx,Zz,Z2,Z3,Z5,Z7,ZC,ZE,ZI,ZJ,ZM,ZN,ZR,ZS,ZT,ZU,ZV,ZX,ZZ,Ye,Yf,Yh,Yp,Yq,Yr,Yt,Yu,Yx,YC,YE,YJ,YL,YR,Xe,Xf,Xi,Xk,Xq,XP,XW,Wc,We,Wp,Wq,Wr,Ws,Wt,Wu,Wv,Ww,Wx,Wy,Wz,W4,W5,W7,W8,W9,WA,WB,WC,WE,WF,WG,WH,WI,WJ,WM,WN,WS,WV,WW,WX,Vi,Vk,Vl,Vn,Vo,Vq,Vw,Vx,Vz,V0,V1,V2,V3,V6,V7,V8,V9,VB,VC,VD,VE,VF,VG,VH,VI,VJ,VK,VL,VM,VN,VO,VP,VR,VS,VT,VU,VV,VW,VZ,Uc,Ud,Uh,Uk,Ul,Um,Uq,Ur,Us,Ut,Uu,Uv,Uw,U1,U2,U3,U4,U5,U6,UO,UP,UQ,UR,US,UT,UU,UV,UW,Te,Tf,Tg,Th,Ti,Tj,Tk,Tl,Tm,Tn,Tp,Tq,Tr,Ts,Tt,Ty,Sc,Sn,Sq,Sr, a1, hx, w58, h1]; all_goals tactic => exact rfl))
        · (sym => (simp [Za,Zb,Zc,Zd,Ze,Zf,Zg,Zh,Zj,Zl,Zm,Zo,Zq,Zs,Zu,Zv,Zx,Zz,Z2,Z3,Z5,Z7,ZC,ZE,ZI,ZJ,ZM,ZN,ZR,ZS,ZT,ZU,ZV,ZX,ZZ,Ye,Yf,Yh,Yp,Yq,Yr,Yt,Yu,Yx,YC,YE,YJ,YL,YR,Xe,Xf,Xi,Xk,Xq,XP,XW,Wc,We,Wp,Wq,Wr,Ws,Wt,Wu,Wv,Ww,Wx,Wy,Wz,W4,W5,W7,W8,W9,WA,WB,WC,WE,WF,WG,WH,WI,WJ,WM,WN,WS,WV,WW,WX,Vi,Vk,Vl,Vn,Vo,Vq,Vw,Vx,Vz,V0,V1,V2,V3,V6,V7,V8,V9,VB,VC,VD,VE,VF,VG,VH,VI,VJ,VK,VL,VM,VN,VO,VP,VR,VS,VT,VU,VV,VW,VZ,Uc,Ud,Uh,Uk,Ul,Um,Uq,Ur,Us,Ut,Uu,Uv,Uw,U1,U2,U3,U4,U5,U6,UO,UP,UQ,UR,US,UT,UU,UV,UW,Te,Tf,Tg,Th,Ti,Tj,Tk,Tl,Tm,Tn,Tp,Tq,Tr,Ts,Tt,Ty,Sc,Sn,Sq,Sr, p0, q0]; all_goals tactic => exact rfl))
        · intro i hi
          have hi2 : i < k.length := by omega
          obtain ⟨x, hx⟩ := at_ix hi2
          have a1 := lt_ix hi2
          have a2 := up_ix hi2 (by omega)
          obtain ⟨u1, u2⟩ := pr_up hx
          rcases kErr_of hx with ⟨h1, h2, h3, h4, h5⟩ | ⟨h1, h2, h3, h4, h5⟩ | ⟨h1, h2, h3, h5⟩ | ⟨h1, h2, h5⟩ | ⟨h1, h5⟩
          · (sym => (simp [Za,Zb,Zc,Zd,Ze,Zf,Zg,Zh,Zj,Zl,Zm,Zo,Zq,Zs,Zu,Zv,Zx,Zz,Z2,Z3,Z5,Z7,ZC,ZE,ZI,ZJ,ZM,ZN,ZR,ZS,ZT,ZU,ZV,ZX,ZZ,Ye,Yf,Yh,Yp,Yq,Yr,Yt,Yu,Yx,YC,YE,YJ,YL,YR,Xe,Xf,Xi,Xk,Xq,XP,XW,Wc,We,Wp,Wq,Wr,Ws,Wt,Wu,Wv,Ww,Wx,Wy,Wz,W4,W5,W7,W8,W9,WA,WB,WC,WE,WF,WG,WH,WI,WJ,WM,WN,WS,WV,WW,WX,Vi,Vk,Vl,Vn,Vo,Vq,Vw,Vx,Vz,V0,V1,V2,V3,V6,V7,V8,V9,VB,VC,VD,VE,VF,VG,VH,VI,VJ,VK,VL,VM,VN,VO,VP,VR,VS,VT,VU,VV,VW,VZ,Uc,Ud,Uh,Uk,Ul,Um,Uq,Ur,Us,Ut,Uu,Uv,Uw,U1,U2,U3,U4,U5,U6,UO,UP,UQ,UR,US,UT,UU,UV,UW,Te,Tf,Tg,Th,Ti,Tj,Tk,Tl,Tm,Tn,Tp,Tq,Tr,Ts,Tt,Ty,Sc,Sn,Sq,Sr, a1, a2, hx, w58, h1, h2, h3, h4, u1, u2]; all_goals tactic => exact rfl))
          all_goals (rw [m2 i hi] at h5; simp at h5)
        · rcases m3 with ⟨rfl, e⟩ | ⟨m3, m4, e⟩
          · (sym => (simp [Za,Zb,Zc,Zd,Ze,Zf,Zg,Zh,Zj,Zl,Zm,Zo,Zq,Zs,Zu,Zv,Zx,Zz,Z2,Z3,Z5,Z7,ZC,ZE,ZI,ZJ,ZM,ZN,ZR,ZS,ZT,ZU,ZV,ZX,ZZ,Ye,Yf,Yh,Yp,Yq,Yr,Yt,Yu,Yx,YC,YE,YJ,YL,YR,Xe,Xf,Xi,Xk,Xq,XP,XW,Wc,We,Wp,Wq,Wr,Ws,Wt,Wu,Wv,Ww,Wx,Wy,Wz,W4,W5,W7,W8,W9,WA,WB,WC,WE,WF,WG,WH,WI,WJ,WM,WN,WS,WV,WW,WX,Vi,Vk,Vl,Vn,Vo,Vq,Vw,Vx,Vz,V0,V1,V2,V3,V6,V7,V8,V9,VB,VC,VD,VE,VF,VG,VH,VI,VJ,VK,VL,VM,VN,VO,VP,VR,VS,VT,VU,VV,VW,VZ,Uc,Ud,Uh,Uk,Ul,Um,Uq,Ur,Us,Ut,Uu,Uv,Uw,U1,U2,U3,U4,U5,U6,UO,UP,UQ,UR,US,UT,UU,UV,UW,Te,Tf,Tg,Th,Ti,Tj,Tk,Tl,Tm,Tn,Tp,Tq,Tr,Ts,Tt,Ty,Sc,Sn,Sq,Sr, z]; all_goals tactic => exact rfl))
          · obtain ⟨x, hx⟩ := at_ix m3
            have a1 := lt_ix m3
            rcases kErr_of hx with ⟨_, _, _, _, h5⟩ | ⟨h1, h2, h3, h4, h5⟩ | ⟨h1, h2, h3, h5⟩ | ⟨h1, h2, h5⟩ | ⟨h1, h5⟩
            · exact absurd h5 m4
            · (sym => (simp [Za,Zb,Zc,Zd,Ze,Zf,Zg,Zh,Zj,Zl,Zm,Zo,Zq,Zs,Zu,Zv,Zx,Zz,Z2,Z3,Z5,Z7,ZC,ZE,ZI,ZJ,ZM,ZN,ZR,ZS,ZT,ZU,ZV,ZX,ZZ,Ye,Yf,Yh,Yp,Yq,Yr,Yt,Yu,Yx,YC,YE,YJ,YL,YR,Xe,Xf,Xi,Xk,Xq,XP,XW,Wc,We,Wp,Wq,Wr,Ws,Wt,Wu,Wv,Ww,Wx,Wy,Wz,W4,W5,W7,W8,W9,WA,WB,WC,WE,WF,WG,WH,WI,WJ,WM,WN,WS,WV,WW,WX,Vi,Vk,Vl,Vn,Vo,Vq,Vw,Vx,Vz,V0,V1,V2,V3,V6,V7,V8,V9,VB,VC,VD,VE,VF,VG,VH,VI,VJ,VK,VL,VM,VN,VO,VP,VR,VS,VT,VU,VV,VW,VZ,Uc,Ud,Uh,Uk,Ul,Um,Uq,Ur,Us,Ut,Uu,Uv,Uw,U1,U2,U3,U4,U5,U6,UO,UP,UQ,UR,US,UT,UU,UV,UW,Te,Tf,Tg,Th,Ti,Tj,Tk,Tl,Tm,Tn,Tp,Tq,Tr,Ts,Tt,Ty,Sc,Sn,Sq,Sr, a1, hx, w58, h1, h2, h3, h4]; all_goals tactic => exact rfl))
            · (sym => (simp [Za,Zb,Zc,Zd,Ze,Zf,Zg,Zh,Zj,Zl,Zm,Zo,Zq,Zs,Zu,Zv,Zx,Zz,Z2,Z3,Z5,Z7,ZC,ZE,ZI,ZJ,ZM,ZN,ZR,ZS,ZT,ZU,ZV,ZX,ZZ,Ye,Yf,Yh,Yp,Yq,Yr,Yt,Yu,Yx,YC,YE,YJ,YL,YR,Xe,Xf,Xi,Xk,Xq,XP,XW,Wc,We,Wp,Wq,Wr,Ws,Wt,Wu,Wv,Ww,Wx,Wy,Wz,W4,W5,W7,W8,W9,WA,WB,WC,WE,WF,WG,WH,WI,WJ,WM,WN,WS,WV,WW,WX,Vi,Vk,Vl,Vn,Vo,Vq,Vw,Vx,Vz,V0,V1,V2,V3,V6,V7,V8,V9,VB,VC,VD,VE,VF,VG,VH,VI,VJ,VK,VL,VM,VN,VO,VP,VR,VS,VT,VU,VV,VW,VZ,Uc,Ud,Uh,Uk,Ul,Um,Uq,Ur,Us,Ut,Uu,Uv,Uw,U1,U2,U3,U4,U5,U6,UO,UP,UQ,UR,US,UT,UU,UV,UW,Te,Tf,Tg,Th,Ti,Tj,Tk,Tl,Tm,Tn,Tp,Tq,Tr,Ts,Tt,Ty,Sc,Sn,Sq,Sr, a1, hx, w58, h1, h2, h3]; all_goals tactic => exact rfl))
            · (sym => (simp [Za,Zb,Zc,Zd,Ze,Zf,Zg,Zh,Zj,Zl,Zm,Zo,Zq,Zs,Zu,Zv,Zx,Zz,Z2,Z3,Z5,Z7,ZC,ZE,ZI,ZJ,ZM,ZN,ZR,ZS,ZT,ZU,ZV,ZX,ZZ,Ye,Yf,Yh,Yp,Yq,Yr,Yt,Yu,Yx,YC,YE,YJ,YL,YR,Xe,Xf,Xi,Xk,Xq,XP,XW,Wc,We,Wp,Wq,Wr,Ws,Wt,Wu,Wv,Ww,Wx,Wy,Wz,W4,W5,W7,W8,W9,WA,WB,WC,WE,WF,WG,WH,WI,WJ,WM,WN,WS,WV,WW,WX,Vi,Vk,Vl,Vn,Vo,Vq,Vw,Vx,Vz,V0,V1,V2,V3,V6,V7,V8,V9,VB,VC,VD,VE,VF,VG,VH,VI,VJ,VK,VL,VM,VN,VO,VP,VR,VS,VT,VU,VV,VW,VZ,Uc,Ud,Uh,Uk,Ul,Um,Uq,Ur,Us,Ut,Uu,Uv,Uw,U1,U2,U3,U4,U5,U6,UO,UP,UQ,UR,US,UT,UU,UV,UW,Te,Tf,Tg,Th,Ti,Tj,Tk,Tl,Tm,Tn,Tp,Tq,Tr,Ts,Tt,Ty,Sc,Sn,Sq,Sr, a1, hx, w58, h1, h2]; all_goals tactic => exact rfl))
            · (sym => (simp [Za,Zb,Zc,Zd,Ze,Zf,Zg,Zh,Zj,Zl,Zm,Zo,Zq,Zs,Zu,Zv,Zx,Zz,Z2,Z3,Z5,Z7,ZC,ZE,ZI,ZJ,ZM,ZN,ZR,ZS,ZT,ZU,ZV,ZX,ZZ,Ye,Yf,Yh,Yp,Yq,Yr,Yt,Yu,Yx,YC,YE,YJ,YL,YR,Xe,Xf,Xi,Xk,Xq,XP,XW,Wc,We,Wp,Wq,Wr,Ws,Wt,Wu,Wv,Ww,Wx,Wy,Wz,W4,W5,W7,W8,W9,WA,WB,WC,WE,WF,WG,WH,WI,WJ,WM,WN,WS,WV,WW,WX,Vi,Vk,Vl,Vn,Vo,Vq,Vw,Vx,Vz,V0,V1,V2,V3,V6,V7,V8,V9,VB,VC,VD,VE,VF,VG,VH,VI,VJ,VK,VL,VM,VN,VO,VP,VR,VS,VT,VU,VV,VW,VZ,Uc,Ud,Uh,Uk,Ul,Um,Uq,Ur,Us,Ut,Uu,Uv,Uw,U1,U2,U3,U4,U5,U6,UO,UP,UQ,UR,US,UT,UU,UV,UW,Te,Tf,Tg,Th,Ti,Tj,Tk,Tl,Tm,Tn,Tp,Tq,Tr,Ts,Tt,Ty,Sc,Sn,Sq,Sr, a1, hx, w58, h1]; all_goals tactic => exact rfl))
/-! ### The reference's kinds -/
abbrev kR (l : List (List St)) : AV := .fs (l.map fun k => [rS k])
def kindsE (l : List (List St)) : Int := if 6 < l.length then 1 else firstN (fun t => chkD (l.getD t [])) l.length
/-- A step's round, and how it is left. -/
theorem round61 {l : List (List St)} {t : Nat} {k : List St} (ht : l[t]? = some k) (hl : l.length ≤ 6) {i : Nat} (hi : i < k.length) (hk : k.length ≤ 8) (he : kErr k i = 0) :
    headX 0 [0, 3, 4] (execW progX 61 0 none (match x61l0 with | .loop _ a => a | c => c) (envL [0, 3, 4] [kR l, I (t : Nat), I (i : Nat)]) []) = some ([kR l, I (t : Nat), I (i + 1 : Nat)], []) := by
  obtain ⟨x, hx⟩ := at_ix hi
  have b1 := lt_ix (lt_of ht)
  have a1 := lt_ix hi
  have a2 := up_ix hi (by omega)
  rcases kErr_of hx with ⟨h1, h2, h3, h4, h5⟩ | ⟨h1, h2, h3, h4, h5⟩ | ⟨h1, h2, h3, h5⟩ | ⟨h1, h2, h5⟩ | ⟨h1, h5⟩
  · unfold x61l0
    dsimp only
    cases i with
    | zero =>
      have a1 : ((0 : Int) < (k.length : Int)) = True := a1
      (sym => (simp [Za,Zb,Zc,Zf,Zg,Zh,Zi,Zj,Zl,Zm,Zo,Zp,Zq,Zr,Zt,Zu,Zv,Zx,Z2,Z3,Z5,Z7,ZC,ZE,ZF,ZG,ZH,ZI,ZJ,ZM,ZN,ZR,ZS,ZT,ZU,ZV,ZX,ZY,ZZ,Ye,Yf,Yh,Yi,Yp,Yq,Yr,Yt,Yu,Yv,Yw,Yx,Yz,YE,YJ,YR,Xe,Xf,Xi,We,Wp,Wq,Wr,Ws,Wt,Wu,Wv,Ww,Wy,W7,WA,WB,WC,WE,WF,WG,WI,WJ,WV,WW,WX,Vi,Vk,Vl,Vn,Vo,Vq,VC,VD,VE,VF,VG,VH,VL,VM,VO,VP,VR,VS,VT,VU,VV,VW,VZ,Uc,Uh,Ul,Um,Uq,Ur,Us,Ut,Uu,Uv,Uw,U3,UP,UQ,UR,US,UT,UU,UV,UW,Te,Tf,Th,Tj,Tk,Tn,Tr,Ts,Tt,Sn,Sq,Sr, b1, a1, ht, hx, w62, h1, h2]; all_goals tactic => exact rfl))
    | succ j =>
      obtain ⟨y, hy⟩ := at_ix (l := k) (i := j) (by omega)
      obtain ⟨u1, u2⟩ := pr_up hy
      rw [u1] at h3
      rw [u2] at h4
      have a3 : ((0 : Int) < ((j + 1 : Nat) : Int)) = True := eq_true (by omega)
      have a4 : IntKind.i64.wrap (((j + 1 : Nat) : Int) - 1) = (j : Int) := by rw [wrap_ok (by omega) (by omega)]; omega
      have a5 : ((j : Int) < (k.length : Int)) = True := eq_true (by omega)
      generalize j + 1 = i at *
      (sym => (simp [Za,Zb,Zc,Zf,Zg,Zh,Zi,Zj,Zl,Zm,Zo,Zp,Zq,Zr,Zt,Zu,Zv,Zx,Z2,Z3,Z5,Z7,ZC,ZE,ZF,ZG,ZH,ZI,ZJ,ZM,ZN,ZR,ZS,ZT,ZU,ZV,ZX,ZY,ZZ,Ye,Yf,Yh,Yi,Yp,Yq,Yr,Yt,Yu,Yv,Yw,Yx,Yz,YE,YJ,YR,Xe,Xf,Xi,We,Wp,Wq,Wr,Ws,Wt,Wu,Wv,Ww,Wy,W7,WA,WB,WC,WE,WF,WG,WI,WJ,WV,WW,WX,Vi,Vk,Vl,Vn,Vo,Vq,VC,VD,VE,VF,VG,VH,VL,VM,VO,VP,VR,VS,VT,VU,VV,VW,VZ,Uc,Uh,Ul,Um,Uq,Ur,Us,Ut,Uu,Uv,Uw,U3,UP,UQ,UR,US,UT,UU,UV,UW,Te,Tf,Th,Tj,Tk,Tn,Tr,Ts,Tt,Sn,Sq,Sr, b1, a1, a2, a3, a4, a5, ht, hx, hy, w62, h1, h2, h3, h4]; all_goals tactic => exact rfl))
  all_goals (rw [h5] at he; simp at he)
theorem ret_of {res : List (Nat × Option (Bool × Nat))} {own : Bool} {k : Nat} {r : Option (DX × Env × XH)} {v : AV × XH} (h1 : leaves r = true) (h2 : retX res own k r = some v) : ∃ e h, r = some (.ret, e, h) ∧ retX res own k (some (.ret, e, h)) = some v := by
  match r with
  | none => simp [leaves] at h1
  | some (.normal, e, h) => simp [leaves] at h1
  | some (.exit _, e, h) => simp [retX] at h2
  | some (.ret, e, h) => exact ⟨e, h, rfl, h2⟩
theorem left61 {l : List (List St)} {t : Nat} {k : List St} (ht : l[t]? = some k) (hl : l.length ≤ 6) {i : Nat} (hi : i < k.length) (hk : k.length ≤ 8) (he : kErr k i ≠ 0) :
    ∃ e h, execW progX 61 0 none (match x61l0 with | .loop _ a => a | c => c) (envL [0, 3, 4] [kR l, I (t : Nat), I (i : Nat)]) [] = some (.ret, e, h) ∧ retX [(2, none)] false 0 (some (.ret, e, h)) = some (I (kErr k i), []) := by
  obtain ⟨x, hx⟩ := at_ix hi
  have b1 := lt_ix (lt_of ht)
  have a1 := lt_ix hi
  have a2 := up_ix hi (by omega)
  refine ret_of ?_ ?_
  all_goals unfold x61l0
  all_goals dsimp only
  all_goals have kE := kErr_of hx
  all_goals have h1 := pad
  all_goals have h2 := pad
  all_goals have h3 := pad
  all_goals have h4 := pad
  all_goals cases i with
    | zero =>
      have a1 : ((0 : Int) < (k.length : Int)) = True := a1
      simp only [prA, prS] at kE
      rcases kE with ⟨h1, h2, h3, h4, h5⟩ | ⟨h1, h2, h3, h4, h5⟩ | ⟨h1, h2, h3, h5⟩ | ⟨h1, h2, h5⟩ | ⟨h1, h5⟩
      · exact absurd h5 he
      · have := btwF.1 h2
        have := of_eq_true h4
        omega
      · have := btwF.1 h1
        have := of_eq_true h3
        omega
      all_goals try rw [h5]
      all_goals (sym => (simp [Za,Zb,Zc,Zf,Zg,Zh,Zi,Zj,Zl,Zm,Zo,Zp,Zq,Zs,Zu,Zv,Zx,Z2,Z3,Z5,Z7,ZC,ZE,ZF,ZG,ZH,ZI,ZJ,ZM,ZN,ZR,ZS,ZT,ZU,ZV,ZX,ZY,ZZ,Ye,Yf,Yi,Yp,Yq,Yr,Yt,Yu,Yw,Yx,YE,YR,Xe,Xf,Xq,XP,We,Wp,Wq,Wr,Ws,Wt,Wu,Wv,Ww,Wy,W7,WA,WB,WC,WE,WF,WG,WI,WJ,WV,WW,WX,Vi,Vk,Vl,Vn,Vo,Vq,Vw,Vx,Vz,V0,V1,V2,V3,V6,V7,V8,V9,VC,VF,VG,VH,VJ,VL,VM,VO,VP,VR,VS,VT,VU,VV,VW,VZ,Uc,Ud,Uh,Ul,Um,Uq,Ur,Us,Ut,Uu,Uv,Uw,U3,UP,UQ,UR,US,UT,UU,UV,UW,Te,Tf,Tg,Th,Tj,Tk,Tm,Tp,Ts,Tt,Sc,Sn,Sq,Sr, b1, a1, ht, hx, w62, h1, h2]; all_goals tactic => exact rfl))
    | succ j =>
      obtain ⟨y, hy⟩ := at_ix (l := k) (i := j) (by omega)
      obtain ⟨u1, u2⟩ := pr_up hy
      rw [u1, u2] at kE
      have a3 : ((0 : Int) < ((j + 1 : Nat) : Int)) = True := eq_true (by omega)
      have a4 : IntKind.i64.wrap (((j + 1 : Nat) : Int) - 1) = (j : Int) := by rw [wrap_ok (by omega) (by omega)]; omega
      have a5 : ((j : Int) < (k.length : Int)) = True := eq_true (by omega)
      generalize j + 1 = i at *
      rcases kE with ⟨h1, h2, h3, h4, h5⟩ | ⟨h1, h2, h3, h4, h5⟩ | ⟨h1, h2, h3, h5⟩ | ⟨h1, h2, h5⟩ | ⟨h1, h5⟩
      · exact absurd h5 he
      all_goals try rw [h5]
      all_goals (sym => (simp [Za,Zb,Zc,Zf,Zg,Zh,Zi,Zj,Zl,Zm,Zo,Zp,Zq,Zs,Zu,Zv,Zx,Z2,Z3,Z5,Z7,ZC,ZE,ZF,ZG,ZH,ZI,ZJ,ZM,ZN,ZR,ZS,ZT,ZU,ZV,ZX,ZY,ZZ,Ye,Yf,Yi,Yp,Yq,Yr,Yt,Yu,Yw,Yx,YE,YR,Xe,Xf,Xq,XP,We,Wp,Wq,Wr,Ws,Wt,Wu,Wv,Ww,Wy,W7,WA,WB,WC,WE,WF,WG,WI,WJ,WV,WW,WX,Vi,Vk,Vl,Vn,Vo,Vq,Vw,Vx,Vz,V0,V1,V2,V3,V6,V7,V8,V9,VC,VF,VG,VH,VJ,VL,VM,VO,VP,VR,VS,VT,VU,VV,VW,VZ,Uc,Ud,Uh,Ul,Um,Uq,Ur,Us,Ut,Uu,Uv,Uw,U3,UP,UQ,UR,US,UT,UU,UV,UW,Te,Tf,Tg,Th,Tj,Tk,Tm,Tp,Ts,Tt,Sc,Sn,Sq,Sr, b1, a1, a2, a3, a4, a5, ht, hx, hy, w62, h1, h2, h3, h4]; all_goals tactic => exact rfl))
theorem w61 (l : List (List St)) : runW progX 61 [kR l] [] = some (I (kindsE l), []) := by
  rw [r61 (by simp)]; unfold x61; dsimp only
  unfold kindsE
  by_cases h6 : 6 < l.length
  · rw [if_pos h6]
    have h6 : ((6 : Int) < (l.length : Int)) = True := eq_true (by omega)
    (sym => (simp [Za,Zb,Zf,Zh,Zl,Zm,Zu,Z2,Z7,ZC,ZE,ZZ,Ye,Yf,Yh,Yp,Yr,Yt,Yu,Yx,YE,YJ,Xe,Xi,Xq,XP,XW,Wx,Wy,W7,WB,WC,WF,WG,Vi,Vw,Vx,Vz,V0,V1,V2,V3,V6,V7,V8,V9,VB,VC,VD,VE,VF,VG,VH,VI,VJ,VK,VL,VM,VP,VR,VS,VT,VU,VV,VW,Uh,Ul,Um,Uq,Ur,Us,Ut,Uu,U1,U2,UO,UR,US,UU,Te,Tf,Tg,Th,Ti,Tj,Tk,Tl,Tm,Tn,Tp,Tq,Tr,Ts,Tt,Sc, h6]; all_goals tactic => exact rfl))
  · rw [if_neg h6]
    have g6 : ((6 : Int) < (l.length : Int)) = False := eq_false (by omega)
    have z := UO (n := (l.length : Int))
    obtain ⟨m, m1, m2, m3⟩ := firstN_ix (fun t => chkD (l.getD t [])) l.length
    have hd : ∀ {t k}, l[t]? = some k → l.getD t [] = k := fun h => by rw [List.getD_eq_getElem?_getD, h]; rfl
    have lf : m < l.length → ∃ e h, execW progX 61 0 none (match x61l1 with | .loop _ a => a | c => c) (envL [0, 3] [kR l, I (m : Nat)]) [] = some (.ret, e, h) ∧ retX [(2, none)] false 0 (some (.ret, e, h)) = some (I (chkD (l.getD m [])), []) := by
      intro hm
      rcases m3 with ⟨rfl, _⟩ | ⟨_, m4, _⟩
      · omega
      obtain ⟨k, hk⟩ := at_ix hm
      have b1 := lt_ix hm
      rw [hd hk] at m4 ⊢
      unfold chkD at m4 ⊢
      refine ret_of ?_ ?_
      all_goals unfold x61l1
      all_goals dsimp only
      all_goals by_cases h8 : 8 < k.length
      all_goals try rw [if_pos h8]
      all_goals try rw [if_neg h8] at m4
      all_goals try rw [if_neg h8]
      · have h8 : ((8 : Int) < (k.length : Int)) = True := eq_true (by omega)
        (sym => (simp [Za,Zb,Zf,Zh,Zl,Zm,Zu,Z2,Z7,ZC,ZE,ZZ,Ye,Yf,Yh,Yp,Yr,Yt,Yu,Yx,YE,YJ,Xe,Xi,Xq,XP,XW,Wx,Wy,W7,WB,WC,WF,WG,Vi,Vw,Vx,Vz,V0,V1,V2,V3,V6,V7,V8,V9,VB,VC,VD,VE,VF,VG,VH,VI,VJ,VK,VL,VM,VP,VR,VS,VT,VU,VV,VW,Uh,Ul,Um,Uq,Ur,Us,Ut,Uu,U1,U2,UO,UR,US,UU,Te,Tf,Tg,Th,Ti,Tj,Tk,Tl,Tm,Tn,Tp,Tq,Tr,Ts,Tt,Sc, b1, hk, h8]; all_goals tactic => exact rfl))
      · have g8 : ((8 : Int) < (k.length : Int)) = False := eq_false (by omega)
        obtain ⟨i, i1, i2, i3⟩ := firstN_ix (kErr k) k.length
        rcases i3 with ⟨_, i3⟩ | ⟨i3, i4, i5⟩
        · exact absurd i3 m4
        obtain ⟨eo, ho, q1, q2⟩ := left61 hk (by omega) i3 (by omega) i4
        sym =>
          simp [Za,Zb,Zf,Zh,Zl,Zm,Zu,Z2,Z7,ZC,ZE,ZZ,Ye,Yf,Yh,Yp,Yr,Yt,Yu,Yx,YE,YJ,Xe,Xi,Xq,XP,XW,Wx,Wy,W7,WB,WC,WF,WG,Vi,Vw,Vx,Vz,V0,V1,V2,V3,V6,V7,V8,V9,VB,VC,VD,VE,VF,VG,VH,VI,VJ,VK,VL,VM,VP,VR,VS,VT,VU,VV,VW,Uh,Ul,Um,Uq,Ur,Us,Ut,Uu,U1,U2,UO,UR,US,UU,Te,Tf,Tg,Th,Ti,Tj,Tk,Tl,Tm,Tn,Tp,Tq,Tr,Ts,Tt,Sc, b1, hk, g8]
          tactic =>
            unfold x61l0 at q1 ⊢
            rw [loop_rule i (fun i => [kR l, I (m : Nat), I (i : Nat)]) (fun _ => [])]
            · dsimp only at q1; rw [q1]; rfl
            · (sym => (simp [Za,Zb,Zf,Zh,Zl,Zm,Zu,Z2,Z7,ZC,ZE,ZZ,Ye,Yf,Yh,Yp,Yr,Yt,Yu,Yx,YE,YJ,Xe,Xi,Xq,XP,XW,Wx,Wy,W7,WB,WC,WF,WG,Vi,Vw,Vx,Vz,V0,V1,V2,V3,V6,V7,V8,V9,VB,VC,VD,VE,VF,VG,VH,VI,VJ,VK,VL,VM,VP,VR,VS,VT,VU,VV,VW,Uh,Ul,Um,Uq,Ur,Us,Ut,Uu,U1,U2,UO,UR,US,UU,Te,Tf,Tg,Th,Ti,Tj,Tk,Tl,Tm,Tn,Tp,Tq,Tr,Ts,Tt,Sc]; all_goals tactic => exact rfl))
            · intro j hj
              exact round61 hk (by omega) (by omega) (by omega) (i2 j hj)
            · dsimp only at q1; rw [q1]; rfl
      · have h8 : ((8 : Int) < (k.length : Int)) = True := eq_true (by omega)
        (sym => (simp [Za,Zb,Zf,Zh,Zl,Zm,Zu,Z2,Z7,ZC,ZE,ZZ,Ye,Yf,Yh,Yp,Yr,Yt,Yu,Yx,YE,YJ,Xe,Xi,Xq,XP,XW,Wx,Wy,W7,WB,WC,WF,WG,Vi,Vw,Vx,Vz,V0,V1,V2,V3,V6,V7,V8,V9,VB,VC,VD,VE,VF,VG,VH,VI,VJ,VK,VL,VM,VP,VR,VS,VT,VU,VV,VW,Uh,Ul,Um,Uq,Ur,Us,Ut,Uu,U1,U2,UO,UR,US,UU,Te,Tf,Tg,Th,Ti,Tj,Tk,Tl,Tm,Tn,Tp,Tq,Tr,Ts,Tt,Sc, b1, hk, h8]; all_goals tactic => exact rfl))
      · have g8 : ((8 : Int) < (k.length : Int)) = False := eq_false (by omega)
        obtain ⟨i, i1, i2, i3⟩ := firstN_ix (kErr k) k.length
        rcases i3 with ⟨_, i3⟩ | ⟨i3, i4, i5⟩
        · exact absurd i3 m4
        rw [i5]
        obtain ⟨eo, ho, q1, q2⟩ := left61 hk (by omega) i3 (by omega) i4
        sym =>
          simp [Za,Zb,Zf,Zh,Zl,Zm,Zu,Z2,Z7,ZC,ZE,ZZ,Ye,Yf,Yh,Yp,Yr,Yt,Yu,Yx,YE,YJ,Xe,Xi,Xq,XP,XW,Wx,Wy,W7,WB,WC,WF,WG,Vi,Vw,Vx,Vz,V0,V1,V2,V3,V6,V7,V8,V9,VB,VC,VD,VE,VF,VG,VH,VI,VJ,VK,VL,VM,VP,VR,VS,VT,VU,VV,VW,Uh,Ul,Um,Uq,Ur,Us,Ut,Uu,U1,U2,UO,UR,US,UU,Te,Tf,Tg,Th,Ti,Tj,Tk,Tl,Tm,Tn,Tp,Tq,Tr,Ts,Tt,Sc, b1, hk, g8]
          tactic =>
            unfold x61l0 at q1 ⊢
            rw [loop_rule i (fun i => [kR l, I (m : Nat), I (i : Nat)]) (fun _ => [])]
            · dsimp only at q1; rw [q1]; exact q2
            · (sym => (simp [Za,Zb,Zf,Zh,Zl,Zm,Zu,Z2,Z7,ZC,ZE,ZZ,Ye,Yf,Yh,Yp,Yr,Yt,Yu,Yx,YE,YJ,Xe,Xi,Xq,XP,XW,Wx,Wy,W7,WB,WC,WF,WG,Vi,Vw,Vx,Vz,V0,V1,V2,V3,V6,V7,V8,V9,VB,VC,VD,VE,VF,VG,VH,VI,VJ,VK,VL,VM,VP,VR,VS,VT,VU,VV,VW,Uh,Ul,Um,Uq,Ur,Us,Ut,Uu,U1,U2,UO,UR,US,UU,Te,Tf,Tg,Th,Ti,Tj,Tk,Tl,Tm,Tn,Tp,Tq,Tr,Ts,Tt,Sc]; all_goals tactic => exact rfl))
            · intro j hj
              exact round61 hk (by omega) (by omega) (by omega) (i2 j hj)
            · dsimp only at q1; rw [q1]; rfl
    have rd : ∀ t, t < m → headX 0 [0, 3] (execW progX 61 0 none (match x61l1 with | .loop _ a => a | c => c) (envL [0, 3] [kR l, I (t : Nat)]) []) = some ([kR l, I (t + 1 : Nat)], []) := by
      intro t ht
      obtain ⟨k, hk⟩ := at_ix (l := l) (i := t) (by omega)
      have b1 := lt_ix (lt_of hk)
      have b2 := up_ix (lt_of hk) (by omega)
      have h0 := m2 t ht
      rw [hd hk] at h0
      unfold chkD at h0
      by_cases h8 : 8 < k.length
      · rw [if_pos h8] at h0; simp at h0
      rw [if_neg h8] at h0
      have g8 : ((8 : Int) < (k.length : Int)) = False := eq_false (by omega)
      have z := UO (n := (k.length : Int))
      unfold x61l1
      dsimp only
      sym =>
        simp [Za,Zb,Zf,Zh,Zl,Zm,Zu,Z2,Z7,ZC,ZE,ZZ,Ye,Yf,Yh,Yp,Yr,Yt,Yu,Yx,YE,YJ,Xe,Xi,Xq,XP,XW,Wx,Wy,W7,WB,WC,WF,WG,Vi,Vw,Vx,Vz,V0,V1,V2,V3,V6,V7,V8,V9,VB,VC,VD,VE,VF,VG,VH,VI,VJ,VK,VL,VM,VP,VR,VS,VT,VU,VV,VW,Uh,Ul,Um,Uq,Ur,Us,Ut,Uu,U1,U2,UO,UR,US,UU,Te,Tf,Tg,Th,Ti,Tj,Tk,Tl,Tm,Tn,Tp,Tq,Tr,Ts,Tt,Sc, b1, hk, g8]
        tactic =>
          unfold x61l0
          rw [loop_rule k.length (fun i => [kR l, I (t : Nat), I (i : Nat)]) (fun _ => [])]
          · (sym => (simp [Za,Zb,Zf,Zh,Zl,Zm,Zu,Z2,Z7,ZC,ZE,ZZ,Ye,Yf,Yh,Yp,Yr,Yt,Yu,Yx,YE,YJ,Xe,Xi,Xq,XP,XW,Wx,Wy,W7,WB,WC,WF,WG,Vi,Vw,Vx,Vz,V0,V1,V2,V3,V6,V7,V8,V9,VB,VC,VD,VE,VF,VG,VH,VI,VJ,VK,VL,VM,VP,VR,VS,VT,VU,VV,VW,Uh,Ul,Um,Uq,Ur,Us,Ut,Uu,U1,U2,UO,UR,US,UU,Te,Tf,Tg,Th,Ti,Tj,Tk,Tl,Tm,Tn,Tp,Tq,Tr,Ts,Tt,Sc, b1, b2, hk, z]; all_goals tactic => exact rfl))
          · (sym => (simp [Za,Zb,Zf,Zh,Zl,Zm,Zu,Z2,Z7,ZC,ZE,ZZ,Ye,Yf,Yh,Yp,Yr,Yt,Yu,Yx,YE,YJ,Xe,Xi,Xq,XP,XW,Wx,Wy,W7,WB,WC,WF,WG,Vi,Vw,Vx,Vz,V0,V1,V2,V3,V6,V7,V8,V9,VB,VC,VD,VE,VF,VG,VH,VI,VJ,VK,VL,VM,VP,VR,VS,VT,VU,VV,VW,Uh,Ul,Um,Uq,Ur,Us,Ut,Uu,U1,U2,UO,UR,US,UU,Te,Tf,Tg,Th,Ti,Tj,Tk,Tl,Tm,Tn,Tp,Tq,Tr,Ts,Tt,Sc]; all_goals tactic => exact rfl))
          · intro j hj
            exact round61 hk (by omega) hj (by omega) (firstN_0 h0 j hj)
          · (sym => (simp [Za,Zb,Zf,Zh,Zl,Zm,Zu,Z2,Z7,ZC,ZE,ZZ,Ye,Yf,Yh,Yp,Yr,Yt,Yu,Yx,YE,YJ,Xe,Xi,Xq,XP,XW,Wx,Wy,W7,WB,WC,WF,WG,Vi,Vw,Vx,Vz,V0,V1,V2,V3,V6,V7,V8,V9,VB,VC,VD,VE,VF,VG,VH,VI,VJ,VK,VL,VM,VP,VR,VS,VT,VU,VV,VW,Uh,Ul,Um,Uq,Ur,Us,Ut,Uu,U1,U2,UO,UR,US,UU,Te,Tf,Tg,Th,Ti,Tj,Tk,Tl,Tm,Tn,Tp,Tq,Tr,Ts,Tt,Sc, b1, hk, z]; all_goals tactic => exact rfl))
    sym =>
      simp [Za,Zb,Zf,Zh,Zl,Zm,Zu,Z2,Z7,ZC,ZE,ZZ,Ye,Yf,Yh,Yp,Yr,Yt,Yu,Yx,YE,YJ,Xe,Xi,Xq,XP,XW,Wx,Wy,W7,WB,WC,WF,WG,Vi,Vw,Vx,Vz,V0,V1,V2,V3,V6,V7,V8,V9,VB,VC,VD,VE,VF,VG,VH,VI,VJ,VK,VL,VM,VP,VR,VS,VT,VU,VV,VW,Uh,Ul,Um,Uq,Ur,Us,Ut,Uu,U1,U2,UO,UR,US,UU,Te,Tf,Tg,Th,Ti,Tj,Tk,Tl,Tm,Tn,Tp,Tq,Tr,Ts,Tt,Sc, g6]
      tactic =>
        unfold x61l1 at lf ⊢
        rw [loop_rule m (fun i => [kR l, I (i : Nat)]) (fun _ => [])]
        · rcases m3 with ⟨rfl, e⟩ | ⟨m3, m4, e⟩
          · rw [e]; (sym => (simp [Za,Zb,Zf,Zh,Zl,Zm,Zu,Z2,Z7,ZC,ZE,ZZ,Ye,Yf,Yh,Yp,Yr,Yt,Yu,Yx,YE,YJ,Xe,Xi,Xq,XP,XW,Wx,Wy,W7,WB,WC,WF,WG,Vi,Vw,Vx,Vz,V0,V1,V2,V3,V6,V7,V8,V9,VB,VC,VD,VE,VF,VG,VH,VI,VJ,VK,VL,VM,VP,VR,VS,VT,VU,VV,VW,Uh,Ul,Um,Uq,Ur,Us,Ut,Uu,U1,U2,UO,UR,US,UU,Te,Tf,Tg,Th,Ti,Tj,Tk,Tl,Tm,Tn,Tp,Tq,Tr,Ts,Tt,Sc, z]; all_goals tactic => exact rfl))
          · rw [e]
            obtain ⟨eo, ho, q1, q2⟩ := lf m3
            dsimp only at q1
            rw [q1]
            exact q2
        · (sym => (simp [Za,Zb,Zf,Zh,Zl,Zm,Zu,Z2,Z7,ZC,ZE,ZZ,Ye,Yf,Yh,Yp,Yr,Yt,Yu,Yx,YE,YJ,Xe,Xi,Xq,XP,XW,Wx,Wy,W7,WB,WC,WF,WG,Vi,Vw,Vx,Vz,V0,V1,V2,V3,V6,V7,V8,V9,VB,VC,VD,VE,VF,VG,VH,VI,VJ,VK,VL,VM,VP,VR,VS,VT,VU,VV,VW,Uh,Ul,Um,Uq,Ur,Us,Ut,Uu,U1,U2,UO,UR,US,UU,Te,Tf,Tg,Th,Ti,Tj,Tk,Tl,Tm,Tn,Tp,Tq,Tr,Ts,Tt,Sc]; all_goals tactic => exact rfl))
        · exact rd
        · rcases m3 with ⟨rfl, e⟩ | ⟨m3, m4, e⟩
          · (sym => (simp [Za,Zb,Zf,Zh,Zl,Zm,Zu,Z2,Z7,ZC,ZE,ZZ,Ye,Yf,Yh,Yp,Yr,Yt,Yu,Yx,YE,YJ,Xe,Xi,Xq,XP,XW,Wx,Wy,W7,WB,WC,WF,WG,Vi,Vw,Vx,Vz,V0,V1,V2,V3,V6,V7,V8,V9,VB,VC,VD,VE,VF,VG,VH,VI,VJ,VK,VL,VM,VP,VR,VS,VT,VU,VV,VW,Uh,Ul,Um,Uq,Ur,Us,Ut,Uu,U1,U2,UO,UR,US,UU,Te,Tf,Tg,Th,Ti,Tj,Tk,Tl,Tm,Tn,Tp,Tq,Tr,Ts,Tt,Sc, z]; all_goals tactic => exact rfl))
          · obtain ⟨eo, ho, q1, q2⟩ := lf m3
            dsimp only at q1
            rw [q1]
            rfl
end Go.Proofs.YtpbeclkpohehgaaDoor
namespace Go.Proofs.YtpbeclkpohehgaaDoor
open Go Go.DL
set_option maxRecDepth 100000
set_option maxHeartbeats 1000000

/-! ### Bits of naturals -/
def big (k : IntKind) : Prop := k = .u64 ∨ k = .i64
theorem big_u : big .u64 := .inl rfl
theorem big_i : big .i64 := .inr rfl
theorem big_bits {k : IntKind} (h : big k) : k.bits = 64 := by rcases h with rfl | rfl <;> rfl
theorem big_wrap {k : IntKind} (h : big k) {a : Nat} (ha : a < 2 ^ 63) : k.wrap (a : Int) = (a : Int) := by
  rcases h with rfl | rfl
  · simp [IntKind.wrap, IntKind.bits, IntKind.signed]; omega
  · simp [IntKind.wrap, IntKind.bits, IntKind.signed]; omega
theorem ofInt_nat {w : Nat} (a : Nat) : BitVec.ofInt w (a : Int) = BitVec.ofNat w a := by
  apply BitVec.eq_of_toNat_eq
  simp
theorem bits_and {k : IntKind} (h : big k) {a b : Nat} (ha : a < 2 ^ 63) (hb : b < 2 ^ 63) : bitsA .and k (a : Int) (b : Int) = ((a &&& b : Nat) : Int) := by
  unfold bitsA
  dsimp only
  rw [ofInt_nat, ofInt_nat, big_bits h, BitVec.toNat_and, BitVec.toNat_ofNat, BitVec.toNat_ofNat, Nat.mod_eq_of_lt (by omega), Nat.mod_eq_of_lt (by omega)]
  exact big_wrap h (Nat.lt_of_le_of_lt Nat.and_le_left ha)
theorem bits_or {k : IntKind} (h : big k) {a b : Nat} (ha : a < 2 ^ 63) (hb : b < 2 ^ 63) : bitsA .or k (a : Int) (b : Int) = ((a ||| b : Nat) : Int) := by
  unfold bitsA
  dsimp only
  rw [ofInt_nat, ofInt_nat, big_bits h, BitVec.toNat_or, BitVec.toNat_ofNat, BitVec.toNat_ofNat, Nat.mod_eq_of_lt (by omega), Nat.mod_eq_of_lt (by omega)]
  exact big_wrap h (Nat.or_lt_two_pow ha hb)
/-- What the one has and the other has not. -/
def dif (a b : Nat) : Nat := a &&& (2 ^ 64 - (b + 1))
theorem dif_le (a b : Nat) : dif a b ≤ a := Nat.and_le_left
theorem bits_dif {k : IntKind} (h : big k) {a b : Nat} (ha : a < 2 ^ 63) (hb : b < 2 ^ 63) : bitsA .andNot k (a : Int) (b : Int) = ((dif a b : Nat) : Int) := by
  unfold bitsA
  dsimp only
  rw [ofInt_nat, ofInt_nat, big_bits h, BitVec.toNat_and, BitVec.toNat_not, BitVec.toNat_ofNat, BitVec.toNat_ofNat, Nat.mod_eq_of_lt (by omega), Nat.mod_eq_of_lt (by omega), show 2 ^ 64 - 1 - b = 2 ^ 64 - (b + 1) by omega]
  exact big_wrap h (Nat.lt_of_le_of_lt (dif_le a b) ha)
theorem dif_bit {a b : Nat} (hb : b < 2 ^ 64) {i : Nat} : (dif a b).testBit i = (a.testBit i && (decide (i < 64) && !b.testBit i)) := by
  unfold dif
  rw [Nat.testBit_and, Nat.testBit_two_pow_sub_succ hb]
theorem bit_lt {a n : Nat} (h : a < 2 ^ n) {i : Nat} (hi : n ≤ i) : a.testBit i = false := Nat.testBit_lt_two_pow (Nat.lt_of_lt_of_le h (Nat.pow_le_pow_right (by omega) hi))
theorem dif_zero {a b : Nat} (ha : a < 2 ^ 63) (hb : b < 2 ^ 63) : dif a b = 0 ↔ ∀ i, a.testBit i = true → b.testBit i = true := by
  constructor
  · intro h i hi
    have hlt : i < 64 := by
      by_cases hc : i < 64
      · exact hc
      · rw [bit_lt ha (by omega)] at hi; simp at hi
    have := dif_bit (a := a) (b := b) (by omega) (i := i)
    rw [h, hi, Nat.zero_testBit, decide_eq_true hlt] at this
    simpa using this.symm
  · intro h
    apply Nat.eq_of_testBit_eq
    intro i
    rw [dif_bit (by omega), Nat.zero_testBit]
    cases hi : a.testBit i with
    | false => rfl
    | true => rw [h i hi]; simp
theorem shl_one {k : IntKind} (h : big k) {i : Nat} (hi : i < 63) : k.wrap (1 * 2 ^ min i k.bits) = ((2 ^ i : Nat) : Int) := by
  rw [big_bits h, Nat.min_eq_left (by omega), Int.one_mul, show (2 : Int) ^ i = ((2 ^ i : Nat) : Int) by norm_cast]
  exact big_wrap h (Nat.pow_lt_pow_right (by omega) hi)
theorem shl_1 {k : IntKind} (h : big k) {i : Nat} (hi : i < 63) : k.wrap (2 ^ min i k.bits) = ((2 ^ i : Nat) : Int) := by
  rw [← shl_one h hi, Int.one_mul]
theorem shr_nat {k : IntKind} (h : big k) {a i : Nat} (hi : i < 64) : (a : Int).fdiv (2 ^ min i k.bits) = ((a >>> i : Nat) : Int) := by
  rw [big_bits h, Nat.min_eq_left (by omega), show (2 : Int) ^ i = ((2 ^ i : Nat) : Int) by norm_cast, Int.fdiv_eq_ediv_of_nonneg _ (Int.natCast_nonneg _), Nat.shiftRight_eq_div_pow]
  exact (Int.natCast_ediv a (2 ^ i)).symm
theorem bit_at {k : IntKind} (h : big k) {a i : Nat} (ha : a < 2 ^ 63) (hi : i < 64) : bitsA .and k ((a : Int).fdiv (2 ^ min i k.bits)) 1 = if a.testBit i then 1 else 0 := by
  have : a >>> i ≤ a := Nat.shiftRight_le a i
  rw [shr_nat h hi, show (1 : Int) = ((1 : Nat) : Int) from rfl, bits_and h (by omega) (by omega)]
  unfold Nat.testBit
  rw [Nat.and_comm, Nat.one_and_eq_mod_two]
  by_cases hb : (a >>> i) % 2 = 0
  · simp [hb]
  · have : (a >>> i) % 2 = 1 := by omega
    simp [this]
theorem bit_eq {k : IntKind} (h : big k) {a i : Nat} (ha : a < 2 ^ 63) (hi : i < 64) : (bitsA .and k ((a : Int).fdiv (2 ^ min i k.bits)) 1 = 1) = (a.testBit i = true) := by
  rw [bit_at h ha hi]
  cases a.testBit i <;> simp
theorem or_lt {a i n : Nat} (ha : a < 2 ^ n) (hi : i < n) : a ||| 2 ^ i < 2 ^ n := Nat.or_lt_two_pow ha (Nat.pow_lt_pow_right (by omega) hi)
theorem or_bit (a i j : Nat) : (a ||| 2 ^ i).testBit j = (a.testBit j || decide (i = j)) := by
  rw [Nat.testBit_or, Nat.testBit_two_pow]

abbrev U (a : Nat) : AV := .int .u64 (a : Int)
theorem w83 {a : Nat} (ha : a < 2 ^ 63) {i : Int} {j : Nat} (hi : i = (j : Int)) (hj : j < 64) : runW progX 83 [U a, I i] [] = some (.bool (a.testBit j), []) := by
  subst hi
  have e := bit_eq big_u (a := a) (i := j) ha hj
  have n0 : ((j : Int) < 0) = False := eq_false (by omega)
  rw [r83 (by simp)]; unfold x83; dsimp only
  cases hb : a.testBit j
  · rw [hb] at e
    have e := e.trans (eq_false (by simp))
    (sym => (simp [Za,Zb,Zf,Zh,Zl,Zm,Zu,Z2,Yj,Ym,Yn,Yu,YF,Xf,Xr,XP,XQ,Wx,W7,WB,WC,WF,WG,Vi,Vw,Vx,Vz,V0,V1,V2,V3,V6,V7,V8,V9,VB,VK,VM,VP,VR,VT,Ul,Um,Uq,Ur,Us,U1,U2,Te,Tf,Tg,Tk,Ts,Tt,Sc, n0, e]; all_goals tactic => exact rfl))
  · rw [hb] at e
    have e := e.trans (eq_true rfl)
    (sym => (simp [Za,Zb,Zf,Zh,Zl,Zm,Zu,Z2,Yj,Ym,Yn,Yu,YF,Xf,Xr,XP,XQ,Wx,W7,WB,WC,WF,WG,Vi,Vw,Vx,Vz,V0,V1,V2,V3,V6,V7,V8,V9,VB,VK,VM,VP,VR,VT,Ul,Um,Uq,Ur,Us,U1,U2,Te,Tf,Tg,Tk,Ts,Tt,Sc, n0, e]; all_goals tactic => exact rfl))

/-! ### How many elements a set has -/
def pop : Nat → Nat → Nat
  | _, 0 => 0
  | a, n + 1 => pop a n + if a.testBit n then 1 else 0
def oc1 (a : Int) : Int := IntKind.u64.wrap (bitsA .and .u64 (a.fdiv (2 ^ min 1 IntKind.u64.bits)) 6148914691236517205 + bitsA .and .u64 a 6148914691236517205)
def oc2 (a : Int) : Int := IntKind.u64.wrap (bitsA .and .u64 (a.fdiv (2 ^ min 2 IntKind.u64.bits)) 3689348814741910323 + bitsA .and .u64 a 3689348814741910323)
def oc3 (a : Int) : Int := bitsA .and .u64 (IntKind.u64.wrap (a.fdiv (2 ^ min 4 IntKind.u64.bits) + a)) 1085102592571150095
def oc4 (a : Int) : Int := IntKind.u64.wrap (a + a.fdiv (2 ^ min 8 IntKind.u64.bits))
def oc5 (a : Int) : Int := IntKind.u64.wrap (a + a.fdiv (2 ^ min 16 IntKind.u64.bits))
def oc6 (a : Int) : Int := IntKind.u64.wrap (a + a.fdiv (2 ^ min 32 IntKind.u64.bits))
def oc7 (a : Int) : Int := bitsA .and .i64 (IntKind.i64.wrap a) 127
theorem ones_tab : ∀ a : Nat, a < 1024 → oc7 (oc6 (oc5 (oc4 (oc3 (oc2 (oc1 (a : Int))))))) = ((pop a 10 : Nat) : Int) := by decide +kernel
theorem w119 {a : Nat} (ha : a < 1024) : runW progX 119 [U a] [] = some (I (pop a 10 : Nat), []) := by
  rw [r119 (by simp)]; unfold x119; dsimp only
  sym =>
    simp [Za,Zb,Zf,Zh,Zl,Zm,Zu,Z2,Z4,ZW,Yh,Yj,Ym,Yy,Y0,Y1,Y2,YE,Xe,Xq,XP,Wx,W7,WB,WC,WF,WG,Vi,Vw,Vx,Vz,V0,V1,V2,V3,V6,V7,V8,V9,VB,VK,VM,VP,VR,VT,Uq,Ur,Us,U1,U2,Te,Tf,Tg,Tk,Ts,Tt,Sc]
    tactic => exact congrArg (fun v => some (I v, ([] : XH))) (ones_tab a ha)
theorem w112 {a : Nat} (ha : a < 1024) : runW progX 112 [U a] [] = some (I (pop a 10 : Nat), []) := by
  have e := w119 ha
  rw [r112 (by simp)]; unfold x112; dsimp only
  (sym => (simp [Za,Zb,Zf,Zh,Zl,Zu,ZM,ZN,ZR,ZS,YE,Xe,Xq,XP,Ww,Wx,W7,WA,WB,WC,WF,WG,WI,WJ,WV,WW,WX,Vi,Vw,Vx,Vz,V0,V1,V2,V3,V6,V7,V8,V9,VB,VF,VH,VK,VL,VM,VO,VP,VR,VT,Uq,Ur,Us,Ut,Uu,U1,U2,Tf,Tg,Th,Tk,Ts,Tt,Sc, e]; all_goals tactic => exact rfl))
theorem w93 {a : Nat} (ha : a < 1024) : runW progX 93 [U a] [] = some (I (pop a 10 : Nat), []) := by
  have e := w112 ha
  rw [r93 (by simp)]; unfold x93; dsimp only
  (sym => (simp [Za,Zb,Zf,Zg,Zh,Zj,Zl,Zu,ZM,ZN,ZR,ZS,YE,Xe,Xq,XP,Ww,Wx,W7,WA,WB,WC,WF,WG,WI,WJ,WV,WW,WX,Vi,Vk,Vl,Vm,Vw,Vx,Vz,V0,V1,V2,V3,V6,V7,V8,V9,VB,VK,VL,VM,VO,VP,VR,VT,Uq,Ur,Us,Ut,Uu,U1,U2,Tf,Tg,Tk,Ts,Tt,Sc,Sn,Sq,Ss, e]; all_goals tactic => exact rfl))
theorem pop_le (a : Nat) : ∀ n, pop a n ≤ n
  | 0 => Nat.le_refl _
  | n + 1 => by
    have := pop_le a n
    rw [pop]
    split <;> omega
theorem pop_full {a : Nat} : ∀ {n}, pop a n = n ↔ ∀ i, i < n → a.testBit i = true
  | 0 => by simp [pop]
  | n + 1 => by
    have ih := pop_full (a := a) (n := n)
    have hle := pop_le a n
    rw [pop]
    constructor
    · intro h i hi
      cases hb : a.testBit n with
      | false => rw [hb] at h; simp at h; omega
      | true =>
        rw [hb] at h
        simp at h
        by_cases hin : i = n
        · rw [hin]; exact hb
        · exact ih.1 h i (by omega)
    · intro h
      rw [h n (by omega), ih.2 fun i hi => h i (by omega)]; simp
theorem pop_cut {a m : Nat} (h : a < 2 ^ m) : ∀ n, m ≤ n → pop a n = pop a m
  | 0, hn => by rw [show m = 0 by omega]
  | n + 1, hn => by
    by_cases hm : m = n + 1
    · rw [hm]
    · rw [pop, bit_lt h (by omega), pop_cut h n (by omega)]; simp
end Go.Proofs.YtpbeclkpohehgaaDoor
namespace Go.Proofs.YtpbeclkpohehgaaDoor
open Go Go.DL
set_option maxRecDepth 100000
set_option maxHeartbeats 2000000

/-- A load. -/
structure Ld where
  k : Int
  al : Int
  ah : Int
  cl : Int
  ch : Int
abbrev Ld.row (x : Ld) : List AV := [I x.k, I x.al, I x.ah, I x.cl, I x.ch]
/-- A line. -/
structure Li where
  ks : List (List St)
  ls : List Ld
  ts : List (List Int)
  lo : Int
  hi : Int
abbrev tR (l : List (List Int)) : AV := .fs (l.map fun t => [rI t])
abbrev lR (l : List Ld) : AV := .fs (l.map Ld.row)
abbrev Li.c (l : Li) : List AV := [kR l.ks, lR l.ls, tR l.ts, I l.lo, I l.hi]

/-- What a track's element may not be. -/
def elE (n all : Nat) (v : Int) : Int := if btw 0 v ((n : Int) - 1) then (if all.testBit v.toNat then 6 else 0) else 5
def allT (t : List Int) (a : Nat) : Nat → Nat
  | 0 => a
  | i + 1 => allT t a i ||| 2 ^ (t.getD i 0).toNat
def errT (n : Nat) (t : List Int) (a : Nat) : Int := if t.length = 0 then 4 else firstN (fun i => elE n (allT t a i) (t.getD i 0)) t.length
def accT (T : List (List Int)) : Nat → Nat
  | 0 => 0
  | j + 1 => allT (T.getD j []) (accT T j) (T.getD j []).length
def tracksE (n : Nat) (T : List (List Int)) : Int := if firstN (fun j => errT n (T.getD j []) (accT T j)) T.length = 0 then (if pop (accT T T.length) n < n then 3 else 0) else firstN (fun j => errT n (T.getD j []) (accT T j)) T.length
theorem elE_of {n all : Nat} (v : Int) : (btw 0 v ((n : Int) - 1) = true ∧ (0 ≤ v ∧ v < n) ∧ all.testBit v.toNat = false ∧ elE n all v = 0) ∨ (btw 0 v ((n : Int) - 1) = true ∧ (0 ≤ v ∧ v < n) ∧ all.testBit v.toNat = true ∧ elE n all v = 6) ∨ (btw 0 v ((n : Int) - 1) = false ∧ elE n all v = 5) := by
  unfold elE
  cases h : btw 0 v ((n : Int) - 1)
  · exact .inr (.inr ⟨rfl, rfl⟩)
  · have := btwF.1 h
    cases all.testBit v.toNat
    · exact .inl ⟨rfl, by omega, rfl, rfl⟩
    · exact .inr (.inl ⟨rfl, by omega, rfl, rfl⟩)
theorem allT_lt {n N : Nat} (hn : n ≤ N) {t : List Int} {a : Nat} (ha : a < 2 ^ N) : ∀ m, (∀ i, i < m → elE n (allT t a i) (t.getD i 0) = 0) → allT t a m < 2 ^ N
  | 0, _ => ha
  | m + 1, h => by
    have ih := allT_lt hn ha m fun i hi => h i (by omega)
    rcases elE_of (n := n) (all := allT t a m) (t.getD m 0) with ⟨_, h1, _, _⟩ | ⟨_, _, _, h4⟩ | ⟨_, h4⟩
    · rw [allT]
      exact or_lt ih (by omega)
    · rw [h m (by omega)] at h4; simp at h4
    · rw [h m (by omega)] at h4; simp at h4
theorem errT_0 {n : Nat} {t : List Int} {a : Nat} (h : errT n t a = 0) : t.length ≠ 0 ∧ ∀ i, i < t.length → elE n (allT t a i) (t.getD i 0) = 0 := by
  unfold errT at h
  by_cases hz : t.length = 0
  · rw [if_pos hz] at h; simp at h
  · rw [if_neg hz] at h
    exact ⟨hz, firstN_0 h⟩
theorem accT_lt {n N : Nat} (hn : n ≤ N) {T : List (List Int)} : ∀ m, (∀ j, j < m → errT n (T.getD j []) (accT T j) = 0) → accT T m < 2 ^ N
  | 0, _ => Nat.two_pow_pos N
  | m + 1, h => by
    have ih := accT_lt hn m fun j hj => h j (by omega)
    rw [accT]
    exact allT_lt hn ih _ (errT_0 (h m (by omega))).2
theorem getD_of {α : Type} {l : List α} {i : Nat} {x d : α} (h : l[i]? = some x) : l.getD i d = x := by rw [List.getD_eq_getElem?_getD, h]; rfl
theorem lo_63 {a : Nat} (h : a < 2 ^ 10) : a < 2 ^ 63 := by omega

section
variable {l : Li} {t : List Int} {j : Nat} {a : Nat}
abbrev hL (l : Li) : XH := [some (.blk true (.cells true l.c))]
theorem or_u {a : Nat} (ha : a < 2 ^ 10) {v : Int} (h : 0 ≤ v ∧ v < 10) : bitsA .or .u64 (a : Int) (IntKind.u64.wrap (1 * 2 ^ min v.toNat IntKind.u64.bits)) = ((a ||| 2 ^ v.toNat : Nat) : Int) := by
  rw [shl_one big_u (by omega), bits_or big_u (lo_63 ha) (Nat.pow_lt_pow_right (by omega) (by omega))]
theorem or_u1 {a : Nat} (ha : a < 2 ^ 10) {v : Int} (h : 0 ≤ v ∧ v < 10) : bitsA .or .u64 (a : Int) (IntKind.u64.wrap (2 ^ min v.toNat IntKind.u64.bits)) = ((a ||| 2 ^ v.toNat : Nat) : Int) := by
  rw [shl_1 big_u (by omega), bits_or big_u (lo_63 ha) (Nat.pow_lt_pow_right (by omega) (by omega))]
theorem round60 (hn : l.ls.length ≤ 10) (ha : a < 2 ^ 10) {i : Nat} {v : Int} (hv : t[i]? = some v) (ht : t.length ≤ 9223372036854775807) (he : elE l.ls.length a v = 0) :
    headX 0 [1, 3, 9, 10, 11, 18, 19, 20] (execW progX 60 0 none (match x60l0 with | .loop _ a => a | c => c) (envL [1, 3, 9, 10, 11, 18, 19, 20] [.pt 0 0, U a, tR l.ts, I l.ts.length, I (j : Nat), rI t, I t.length, I (i : Nat)]) (hL l)) =
      some ([.pt 0 0, U (a ||| 2 ^ v.toNat), tR l.ts, I l.ts.length, I (j : Nat), rI t, I t.length, I (i + 1 : Nat)], hL l) := by
  have a1 := lt_ix (lt_of hv)
  have a2 := up_ix (lt_of hv) ht
  have a3 : IntKind.i64.wrap ((l.ls.length : Int) - 1) = (l.ls.length : Int) - 1 := wrap_ok (by omega) (by omega)
  rcases elE_of (n := l.ls.length) (all := a) v with ⟨h1, h2, h3, h4⟩ | ⟨_, _, _, h4⟩ | ⟨_, h4⟩
  · have n0 : (v < 0) = False := eq_false (by omega)
    have e := w83 (a := a) (lo_63 ha) (i := v) (j := v.toNat) (by omega) (by omega)
    have o1 := or_u ha (v := v) (by omega)
    have o2 := or_u1 ha (v := v) (by omega)
    rw [h3] at e
    generalize a ||| 2 ^ v.toNat = a' at *
    unfold x60l0
    dsimp only
    (sym => (simp [Za,Zb,Zf,Zh,Zl,Zm,Zu,Z2,Z3,Z5,Z7,ZC,ZE,ZM,ZN,ZR,ZS,ZV,ZX,ZZ,Ye,Yf,Yh,Yi,Yk,Yl,Yp,Yt,Yu,YE,YJ,YL,Xe,Xf,Xi,Xk,Wp,Wq,Wr,Ww,Wy,Wz,W4,W5,W7,W8,W9,WA,WB,WC,WE,WF,WG,WH,WI,WJ,WM,WN,WS,WV,WW,WX,VC,VD,VE,VF,VG,VH,VL,VM,VO,VP,VR,VS,VT,VU,VV,VW,Uc,Uh,Uk,Ul,Uq,Ur,Us,Ut,Uu,UP,UQ,UR,US,UU,Te,Tf,Th,Tj,Tk,Tn,Tr,Ts,Tt,Ty, a1, a2, a3, hv, w58, h1, e, n0, o1, o2]; all_goals tactic => exact rfl))
  all_goals (rw [h4] at he; simp at he)
theorem left60 (hn : l.ls.length ≤ 10) (ha : a < 2 ^ 10) {i : Nat} {v : Int} (hv : t[i]? = some v) (he : elE l.ls.length a v ≠ 0) :
    ∃ e h, execW progX 60 0 none (match x60l0 with | .loop _ a => a | c => c) (envL [1, 3, 9, 10, 11, 18, 19, 20] [.pt 0 0, U a, tR l.ts, I l.ts.length, I (j : Nat), rI t, I t.length, I (i : Nat)]) (hL l) = some (.ret, e, h) ∧ retX [(2, none)] false 0 (some (.ret, e, h)) = some (I (elE l.ls.length a v), []) := by
  have a1 := lt_ix (lt_of hv)
  have a3 : IntKind.i64.wrap ((l.ls.length : Int) - 1) = (l.ls.length : Int) - 1 := wrap_ok (by omega) (by omega)
  refine ret_of ?_ ?_
  all_goals unfold x60l0
  all_goals dsimp only
  all_goals rcases elE_of (n := l.ls.length) (all := a) v with ⟨h1, h2, h3, h4⟩ | ⟨h1, h2, h3, h4⟩ | ⟨h1, h4⟩
  all_goals first | exact absurd h4 he | skip
  all_goals try rw [h4]
  · have e := w83 (a := a) (lo_63 ha) (i := v) (j := v.toNat) (by omega) (by omega)
    rw [h3] at e
    (sym => (simp [Za,Zb,Zf,Zh,Zl,Zm,Zu,Z2,Z3,Z5,Z7,ZC,ZE,ZM,ZN,ZR,ZS,ZV,ZX,ZZ,Ye,Yf,Yi,Yp,Yt,Yu,YE,Xe,Xf,Xq,XP,Wp,Wq,Wr,Ww,Wy,W7,WA,WB,WC,WE,WF,WG,WI,WJ,WV,WW,WX,Vi,Vw,Vx,Vz,V0,V1,V2,V3,V6,V7,V8,V9,VC,VF,VG,VH,VJ,VL,VM,VO,VP,VR,VS,VT,VU,VV,VW,Uc,Ud,Uh,Ul,Uq,Ur,Us,Ut,Uu,UP,UQ,UR,US,UU,Te,Tf,Tg,Th,Tj,Tk,Tm,Tp,Ts,Tt,Sc, a1, a3, hv, w58, h1, e]; all_goals tactic => exact rfl))
  · (sym => (simp [Za,Zb,Zf,Zh,Zl,Zm,Zu,Z2,Z3,Z5,Z7,ZC,ZE,ZM,ZN,ZR,ZS,ZV,ZX,ZZ,Ye,Yf,Yi,Yp,Yt,Yu,YE,Xe,Xf,Xq,XP,Wp,Wq,Wr,Ww,Wy,W7,WA,WB,WC,WE,WF,WG,WI,WJ,WV,WW,WX,Vi,Vw,Vx,Vz,V0,V1,V2,V3,V6,V7,V8,V9,VC,VF,VG,VH,VJ,VL,VM,VO,VP,VR,VS,VT,VU,VV,VW,Uc,Ud,Uh,Ul,Uq,Ur,Us,Ut,Uu,UP,UQ,UR,US,UU,Te,Tf,Tg,Th,Tj,Tk,Tm,Tp,Ts,Tt,Sc, a1, a3, hv, w58, h1]; all_goals tactic => exact rfl))
  · have e := w83 (a := a) (lo_63 ha) (i := v) (j := v.toNat) (by omega) (by omega)
    rw [h3] at e
    (sym => (simp [Za,Zb,Zf,Zh,Zl,Zm,Zu,Z2,Z3,Z5,Z7,ZC,ZE,ZM,ZN,ZR,ZS,ZV,ZX,ZZ,Ye,Yf,Yi,Yp,Yt,Yu,YE,Xe,Xf,Xq,XP,Wp,Wq,Wr,Ww,Wy,W7,WA,WB,WC,WE,WF,WG,WI,WJ,WV,WW,WX,Vi,Vw,Vx,Vz,V0,V1,V2,V3,V6,V7,V8,V9,VC,VF,VG,VH,VJ,VL,VM,VO,VP,VR,VS,VT,VU,VV,VW,Uc,Ud,Uh,Ul,Uq,Ur,Us,Ut,Uu,UP,UQ,UR,US,UU,Te,Tf,Tg,Th,Tj,Tk,Tm,Tp,Ts,Tt,Sc, a1, a3, hv, w58, h1, e]; all_goals tactic => exact rfl))
  · (sym => (simp [Za,Zb,Zf,Zh,Zl,Zm,Zu,Z2,Z3,Z5,Z7,ZC,ZE,ZM,ZN,ZR,ZS,ZV,ZX,ZZ,Ye,Yf,Yi,Yp,Yt,Yu,YE,Xe,Xf,Xq,XP,Wp,Wq,Wr,Ww,Wy,W7,WA,WB,WC,WE,WF,WG,WI,WJ,WV,WW,WX,Vi,Vw,Vx,Vz,V0,V1,V2,V3,V6,V7,V8,V9,VC,VF,VG,VH,VJ,VL,VM,VO,VP,VR,VS,VT,VU,VV,VW,Uc,Ud,Uh,Ul,Uq,Ur,Us,Ut,Uu,UP,UQ,UR,US,UU,Te,Tf,Tg,Th,Tj,Tk,Tm,Tp,Ts,Tt,Sc, a1, a3, hv, w58, h1]; all_goals tactic => exact rfl))
end
theorem w60 (l : Li) (hn : l.ls.length ≤ 10) (hT : l.ts.length ≤ 9223372036854775807) (hts : ∀ t ∈ l.ts, t.length ≤ 9223372036854775807) : runW progX 60 [.agg l.c] [] = some (I (tracksE l.ls.length l.ts), []) := by
  have z := UO (n := (l.ts.length : Int))
  obtain ⟨m, m1, m2, m3⟩ := firstN_ix (fun j => errT l.ls.length (l.ts.getD j []) (accT l.ts j)) l.ts.length
  have hm : accT l.ts m < 2 ^ 10 := accT_lt hn m m2
  have lf : m < l.ts.length → ∃ e h, execW progX 60 0 none (match x60l1 with | .loop _ a => a | c => c) (envL [1, 3, 9, 10, 11] [.pt 0 0, U (accT l.ts m), tR l.ts, I l.ts.length, I (m : Nat)]) (hL l) = some (.ret, e, h) ∧ retX [(2, none)] false 0 (some (.ret, e, h)) = some (I (errT l.ls.length (l.ts.getD m []) (accT l.ts m)), []) := by
    intro hlt
    rcases m3 with ⟨rfl, _⟩ | ⟨_, m4, _⟩
    · omega
    obtain ⟨t, ht⟩ := at_ix hlt
    have b1 := lt_ix hlt
    rw [getD_of ht] at m4 ⊢
    have hth := hts t (List.mem_of_getElem? ht)
    generalize accT l.ts m = a at *
    by_cases h0 : t.length = 0
    · have e4 : errT l.ls.length t a = 4 := by rw [errT, if_pos h0]
      rw [e4]
      have g0 : ((t.length : Int) = 0) = True := eq_true (by omega)
      refine ret_of ?_ ?_
      all_goals unfold x60l1
      all_goals dsimp only
      all_goals (sym => (simp [Za,Zb,Ze,Zf,Zh,Zi,Zl,Zm,Zn,Zu,Zy,Z2,Z5,Z7,ZC,ZE,ZF,ZH,ZK,ZO,ZP,ZR,ZS,ZX,ZZ,Ye,Yf,Yh,Yn,Yp,Yt,Yu,Yx,YE,YJ,YL,YR,YU,YV,Xe,Xi,Xk,Xq,XP,XU,XW,We,Wp,Wq,Wr,Ww,Wx,Wy,Wz,W4,W5,W7,W8,W9,WA,WB,WC,WE,WF,WG,WH,WI,WJ,WM,WN,WS,WV,WW,WX,WZ,Va,Vb,Vd,Vi,Vw,Vx,Vz,V0,V1,V2,V3,V6,V7,V8,V9,VB,VC,VD,VE,VF,VG,VH,VI,VJ,VK,VL,VM,VO,VP,VR,VS,VT,VU,VV,VW,VZ,Ud,Ue,Uf,Uh,Uk,Ul,Um,Un,Uo,Uq,Ur,Us,Ut,Uu,Uv,Uw,U1,U2,U9,UA,UO,UP,UQ,UR,US,UU,UZ,Te,Tf,Tg,Th,Ti,Tj,Tk,Tl,Tm,Tn,Tp,Tq,Tr,Ts,Tt,Ty,Sc, b1, ht, g0]; all_goals tactic => exact rfl))
    · have g0 : ((t.length : Int) = 0) = False := eq_false (by omega)
      rw [errT, if_neg h0] at m4 ⊢
      obtain ⟨i, i1, i2, i3⟩ := firstN_ix (fun i => elE l.ls.length (allT t a i) (t.getD i 0)) t.length
      rcases i3 with ⟨_, i3⟩ | ⟨i3, i4, i5⟩
      · exact absurd i3 m4
      rw [i5]
      obtain ⟨v, hv⟩ := at_ix i3
      rw [getD_of hv] at i4 ⊢
      obtain ⟨eo, ho, q1, q2⟩ := left60 (j := m) hn (allT_lt hn hm i i2) hv i4
      have rd : ∀ k, k < i → headX 0 [1, 3, 9, 10, 11, 18, 19, 20] (execW progX 60 0 none (match x60l0 with | .loop _ a => a | c => c) (envL [1, 3, 9, 10, 11, 18, 19, 20] [.pt 0 0, U (allT t a k), tR l.ts, I l.ts.length, I (m : Nat), rI t, I t.length, I (k : Nat)]) (hL l)) = some ([.pt 0 0, U (allT t a (k + 1)), tR l.ts, I l.ts.length, I (m : Nat), rI t, I t.length, I (k + 1 : Nat)], hL l) := by
        intro k hk
        obtain ⟨u, hu⟩ := at_ix (l := t) (i := k) (by omega)
        have e0 := i2 k hk
        rw [getD_of hu] at e0
        rw [allT, getD_of hu]
        exact round60 hn (allT_lt hn hm k fun i hi => i2 i (by omega)) hu hth e0
      refine ret_of ?_ ?_
      all_goals unfold x60l1
      all_goals dsimp only
      · sym =>
          simp [Za,Zb,Ze,Zf,Zh,Zi,Zl,Zm,Zn,Zu,Zy,Z2,Z5,Z7,ZC,ZE,ZF,ZH,ZK,ZO,ZP,ZR,ZS,ZX,ZZ,Ye,Yf,Yh,Yn,Yp,Yt,Yu,Yx,YE,YJ,YL,YR,YU,YV,Xe,Xi,Xk,Xq,XP,XU,XW,We,Wp,Wq,Wr,Ww,Wx,Wy,Wz,W4,W5,W7,W8,W9,WA,WB,WC,WE,WF,WG,WH,WI,WJ,WM,WN,WS,WV,WW,WX,WZ,Va,Vb,Vd,Vi,Vw,Vx,Vz,V0,V1,V2,V3,V6,V7,V8,V9,VB,VC,VD,VE,VF,VG,VH,VI,VJ,VK,VL,VM,VO,VP,VR,VS,VT,VU,VV,VW,VZ,Ud,Ue,Uf,Uh,Uk,Ul,Um,Un,Uo,Uq,Ur,Us,Ut,Uu,Uv,Uw,U1,U2,U9,UA,UO,UP,UQ,UR,US,UU,UZ,Te,Tf,Tg,Th,Ti,Tj,Tk,Tl,Tm,Tn,Tp,Tq,Tr,Ts,Tt,Ty,Sc, b1, ht, g0]
          tactic =>
            unfold x60l0 at q1 ⊢
            rw [loop_rule i (fun k => [.pt 0 0, U (allT t a k), tR l.ts, I l.ts.length, I (m : Nat), rI t, I t.length, I (k : Nat)]) (fun _ => hL l)]
            · dsimp only at q1; rw [q1]; rfl
            · (sym => (simp [Za,Zb,Ze,Zf,Zh,Zi,Zl,Zm,Zn,Zu,Zy,Z2,Z5,Z7,ZC,ZE,ZF,ZH,ZK,ZO,ZP,ZR,ZS,ZX,ZZ,Ye,Yf,Yh,Yn,Yp,Yt,Yu,Yx,YE,YJ,YL,YR,YU,YV,Xe,Xi,Xk,Xq,XP,XU,XW,We,Wp,Wq,Wr,Ww,Wx,Wy,Wz,W4,W5,W7,W8,W9,WA,WB,WC,WE,WF,WG,WH,WI,WJ,WM,WN,WS,WV,WW,WX,WZ,Va,Vb,Vd,Vi,Vw,Vx,Vz,V0,V1,V2,V3,V6,V7,V8,V9,VB,VC,VD,VE,VF,VG,VH,VI,VJ,VK,VL,VM,VO,VP,VR,VS,VT,VU,VV,VW,VZ,Ud,Ue,Uf,Uh,Uk,Ul,Um,Un,Uo,Uq,Ur,Us,Ut,Uu,Uv,Uw,U1,U2,U9,UA,UO,UP,UQ,UR,US,UU,UZ,Te,Tf,Tg,Th,Ti,Tj,Tk,Tl,Tm,Tn,Tp,Tq,Tr,Ts,Tt,Ty,Sc, allT.eq_1]; all_goals tactic => exact rfl))
            · exact rd
            · dsimp only at q1; rw [q1]; rfl
      · sym =>
          simp [Za,Zb,Ze,Zf,Zh,Zi,Zl,Zm,Zn,Zu,Zy,Z2,Z5,Z7,ZC,ZE,ZF,ZH,ZK,ZO,ZP,ZR,ZS,ZX,ZZ,Ye,Yf,Yh,Yn,Yp,Yt,Yu,Yx,YE,YJ,YL,YR,YU,YV,Xe,Xi,Xk,Xq,XP,XU,XW,We,Wp,Wq,Wr,Ww,Wx,Wy,Wz,W4,W5,W7,W8,W9,WA,WB,WC,WE,WF,WG,WH,WI,WJ,WM,WN,WS,WV,WW,WX,WZ,Va,Vb,Vd,Vi,Vw,Vx,Vz,V0,V1,V2,V3,V6,V7,V8,V9,VB,VC,VD,VE,VF,VG,VH,VI,VJ,VK,VL,VM,VO,VP,VR,VS,VT,VU,VV,VW,VZ,Ud,Ue,Uf,Uh,Uk,Ul,Um,Un,Uo,Uq,Ur,Us,Ut,Uu,Uv,Uw,U1,U2,U9,UA,UO,UP,UQ,UR,US,UU,UZ,Te,Tf,Tg,Th,Ti,Tj,Tk,Tl,Tm,Tn,Tp,Tq,Tr,Ts,Tt,Ty,Sc, b1, ht, g0]
          tactic =>
            unfold x60l0 at q1 ⊢
            rw [loop_rule i (fun k => [.pt 0 0, U (allT t a k), tR l.ts, I l.ts.length, I (m : Nat), rI t, I t.length, I (k : Nat)]) (fun _ => hL l)]
            · dsimp only at q1; rw [q1]; exact q2
            · (sym => (simp [Za,Zb,Ze,Zf,Zh,Zi,Zl,Zm,Zn,Zu,Zy,Z2,Z5,Z7,ZC,ZE,ZF,ZH,ZK,ZO,ZP,ZR,ZS,ZX,ZZ,Ye,Yf,Yh,Yn,Yp,Yt,Yu,Yx,YE,YJ,YL,YR,YU,YV,Xe,Xi,Xk,Xq,XP,XU,XW,We,Wp,Wq,Wr,Ww,Wx,Wy,Wz,W4,W5,W7,W8,W9,WA,WB,WC,WE,WF,WG,WH,WI,WJ,WM,WN,WS,WV,WW,WX,WZ,Va,Vb,Vd,Vi,Vw,Vx,Vz,V0,V1,V2,V3,V6,V7,V8,V9,VB,VC,VD,VE,VF,VG,VH,VI,VJ,VK,VL,VM,VO,VP,VR,VS,VT,VU,VV,VW,VZ,Ud,Ue,Uf,Uh,Uk,Ul,Um,Un,Uo,Uq,Ur,Us,Ut,Uu,Uv,Uw,U1,U2,U9,UA,UO,UP,UQ,UR,US,UU,UZ,Te,Tf,Tg,Th,Ti,Tj,Tk,Tl,Tm,Tn,Tp,Tq,Tr,Ts,Tt,Ty,Sc, allT.eq_1]; all_goals tactic => exact rfl))
            · exact rd
            · dsimp only at q1; rw [q1]; rfl
  have rd : ∀ j, j < m → headX 0 [1, 3, 9, 10, 11] (execW progX 60 0 none (match x60l1 with | .loop _ a => a | c => c) (envL [1, 3, 9, 10, 11] [.pt 0 0, U (accT l.ts j), tR l.ts, I l.ts.length, I (j : Nat)]) (hL l)) = some ([.pt 0 0, U (accT l.ts (j + 1)), tR l.ts, I l.ts.length, I (j + 1 : Nat)], hL l) := by
    intro j hj
    obtain ⟨t, ht⟩ := at_ix (l := l.ts) (i := j) (by omega)
    have b1 := lt_ix (lt_of ht)
    have b2 := up_ix (lt_of ht) hT
    have hth := hts t (List.mem_of_getElem? ht)
    have h0 := m2 j hj
    have hj2 : accT l.ts j < 2 ^ 10 := accT_lt hn j fun i hi => m2 i (by omega)
    rw [accT, getD_of ht]
    rw [getD_of ht] at h0
    obtain ⟨h1, h2⟩ := errT_0 h0
    generalize accT l.ts j = a at *
    have g0 : ((t.length : Int) = 0) = False := eq_false (by omega)
    have z := UO (n := (t.length : Int))
    unfold x60l1
    dsimp only
    sym =>
      simp [Za,Zb,Ze,Zf,Zh,Zi,Zl,Zm,Zn,Zu,Zy,Z2,Z5,Z7,ZC,ZE,ZF,ZH,ZK,ZO,ZP,ZR,ZS,ZX,ZZ,Ye,Yf,Yh,Yn,Yp,Yt,Yu,Yx,YE,YJ,YL,YR,YU,YV,Xe,Xi,Xk,Xq,XP,XU,XW,We,Wp,Wq,Wr,Ww,Wx,Wy,Wz,W4,W5,W7,W8,W9,WA,WB,WC,WE,WF,WG,WH,WI,WJ,WM,WN,WS,WV,WW,WX,WZ,Va,Vb,Vd,Vi,Vw,Vx,Vz,V0,V1,V2,V3,V6,V7,V8,V9,VB,VC,VD,VE,VF,VG,VH,VI,VJ,VK,VL,VM,VO,VP,VR,VS,VT,VU,VV,VW,VZ,Ud,Ue,Uf,Uh,Uk,Ul,Um,Un,Uo,Uq,Ur,Us,Ut,Uu,Uv,Uw,U1,U2,U9,UA,UO,UP,UQ,UR,US,UU,UZ,Te,Tf,Tg,Th,Ti,Tj,Tk,Tl,Tm,Tn,Tp,Tq,Tr,Ts,Tt,Ty,Sc, b1, ht, g0]
      tactic =>
        unfold x60l0
        rw [loop_rule t.length (fun k => [.pt 0 0, U (allT t a k), tR l.ts, I l.ts.length, I (j : Nat), rI t, I t.length, I (k : Nat)]) (fun _ => hL l)]
        · (sym => (simp [Za,Zb,Ze,Zf,Zh,Zi,Zl,Zm,Zn,Zu,Zy,Z2,Z5,Z7,ZC,ZE,ZF,ZH,ZK,ZO,ZP,ZR,ZS,ZX,ZZ,Ye,Yf,Yh,Yn,Yp,Yt,Yu,Yx,YE,YJ,YL,YR,YU,YV,Xe,Xi,Xk,Xq,XP,XU,XW,We,Wp,Wq,Wr,Ww,Wx,Wy,Wz,W4,W5,W7,W8,W9,WA,WB,WC,WE,WF,WG,WH,WI,WJ,WM,WN,WS,WV,WW,WX,WZ,Va,Vb,Vd,Vi,Vw,Vx,Vz,V0,V1,V2,V3,V6,V7,V8,V9,VB,VC,VD,VE,VF,VG,VH,VI,VJ,VK,VL,VM,VO,VP,VR,VS,VT,VU,VV,VW,VZ,Ud,Ue,Uf,Uh,Uk,Ul,Um,Un,Uo,Uq,Ur,Us,Ut,Uu,Uv,Uw,U1,U2,U9,UA,UO,UP,UQ,UR,US,UU,UZ,Te,Tf,Tg,Th,Ti,Tj,Tk,Tl,Tm,Tn,Tp,Tq,Tr,Ts,Tt,Ty,Sc, b1, b2, z]; all_goals tactic => exact rfl))
        · (sym => (simp [Za,Zb,Ze,Zf,Zh,Zi,Zl,Zm,Zn,Zu,Zy,Z2,Z5,Z7,ZC,ZE,ZF,ZH,ZK,ZO,ZP,ZR,ZS,ZX,ZZ,Ye,Yf,Yh,Yn,Yp,Yt,Yu,Yx,YE,YJ,YL,YR,YU,YV,Xe,Xi,Xk,Xq,XP,XU,XW,We,Wp,Wq,Wr,Ww,Wx,Wy,Wz,W4,W5,W7,W8,W9,WA,WB,WC,WE,WF,WG,WH,WI,WJ,WM,WN,WS,WV,WW,WX,WZ,Va,Vb,Vd,Vi,Vw,Vx,Vz,V0,V1,V2,V3,V6,V7,V8,V9,VB,VC,VD,VE,VF,VG,VH,VI,VJ,VK,VL,VM,VO,VP,VR,VS,VT,VU,VV,VW,VZ,Ud,Ue,Uf,Uh,Uk,Ul,Um,Un,Uo,Uq,Ur,Us,Ut,Uu,Uv,Uw,U1,U2,U9,UA,UO,UP,UQ,UR,US,UU,UZ,Te,Tf,Tg,Th,Ti,Tj,Tk,Tl,Tm,Tn,Tp,Tq,Tr,Ts,Tt,Ty,Sc, allT.eq_1]; all_goals tactic => exact rfl))
        · intro k hk
          obtain ⟨u, hu⟩ := at_ix hk
          have e0 := h2 k hk
          rw [getD_of hu] at e0
          rw [allT, getD_of hu]
          exact round60 hn (allT_lt hn hj2 k fun i hi => h2 i (by omega)) hu hth e0
        · (sym => (simp [Za,Zb,Ze,Zf,Zh,Zi,Zl,Zm,Zn,Zu,Zy,Z2,Z5,Z7,ZC,ZE,ZF,ZH,ZK,ZO,ZP,ZR,ZS,ZX,ZZ,Ye,Yf,Yh,Yn,Yp,Yt,Yu,Yx,YE,YJ,YL,YR,YU,YV,Xe,Xi,Xk,Xq,XP,XU,XW,We,Wp,Wq,Wr,Ww,Wx,Wy,Wz,W4,W5,W7,W8,W9,WA,WB,WC,WE,WF,WG,WH,WI,WJ,WM,WN,WS,WV,WW,WX,WZ,Va,Vb,Vd,Vi,Vw,Vx,Vz,V0,V1,V2,V3,V6,V7,V8,V9,VB,VC,VD,VE,VF,VG,VH,VI,VJ,VK,VL,VM,VO,VP,VR,VS,VT,VU,VV,VW,VZ,Ud,Ue,Uf,Uh,Uk,Ul,Um,Un,Uo,Uq,Ur,Us,Ut,Uu,Uv,Uw,U1,U2,U9,UA,UO,UP,UQ,UR,US,UU,UZ,Te,Tf,Tg,Th,Ti,Tj,Tk,Tl,Tm,Tn,Tp,Tq,Tr,Ts,Tt,Ty,Sc, z]; all_goals tactic => exact rfl))
  have a0 : accT l.ts 0 = 0 := rfl
  rw [r60 (by simp)]; unfold x60; dsimp only
  sym =>
    simp [Za,Zb,Ze,Zf,Zh,Zi,Zl,Zm,Zn,Zu,Zy,Z2,Z5,Z7,ZC,ZE,ZF,ZH,ZK,ZO,ZP,ZR,ZS,ZX,ZZ,Ye,Yf,Yh,Yn,Yp,Yt,Yu,Yx,YE,YJ,YL,YR,YU,YV,Xe,Xi,Xk,Xq,XP,XU,XW,We,Wp,Wq,Wr,Ww,Wx,Wy,Wz,W4,W5,W7,W8,W9,WA,WB,WC,WE,WF,WG,WH,WI,WJ,WM,WN,WS,WV,WW,WX,WZ,Va,Vb,Vd,Vi,Vw,Vx,Vz,V0,V1,V2,V3,V6,V7,V8,V9,VB,VC,VD,VE,VF,VG,VH,VI,VJ,VK,VL,VM,VO,VP,VR,VS,VT,VU,VV,VW,VZ,Ud,Ue,Uf,Uh,Uk,Ul,Um,Un,Uo,Uq,Ur,Us,Ut,Uu,Uv,Uw,U1,U2,U9,UA,UO,UP,UQ,UR,US,UU,UZ,Te,Tf,Tg,Th,Ti,Tj,Tk,Tl,Tm,Tn,Tp,Tq,Tr,Ts,Tt,Ty,Sc]
    tactic =>
      unfold x60l1 at lf ⊢
      rw [loop_rule m (fun j => [.pt 0 0, U (accT l.ts j), tR l.ts, I l.ts.length, I (j : Nat)]) (fun _ => hL l)]
      · rcases m3 with ⟨rfl, e⟩ | ⟨m3, m4, e⟩
        · unfold tracksE
          rw [e, if_pos rfl]
          have e93 := w93 (a := accT l.ts l.ts.length) hm
          rw [pop_cut (m := 10) hm 10 (Nat.le_refl _)] at e93
          have hpop : pop (accT l.ts l.ts.length) 10 = pop (accT l.ts l.ts.length) l.ls.length := pop_cut (accT_lt (Nat.le_refl _) _ m2) 10 hn
          rw [hpop] at e93
          generalize pop (accT l.ts l.ts.length) l.ls.length = p at *
          by_cases hp : p < l.ls.length
          · rw [if_pos hp]
            have hp : ((p : Int) < (l.ls.length : Int)) = True := eq_true (by omega)
            (sym => (simp [Za,Zb,Ze,Zf,Zh,Zi,Zl,Zm,Zn,Zu,Zy,Z2,Z5,Z7,ZC,ZE,ZF,ZH,ZK,ZO,ZP,ZR,ZS,ZX,ZZ,Ye,Yf,Yh,Yn,Yp,Yt,Yu,Yx,YE,YJ,YL,YR,YU,YV,Xe,Xi,Xk,Xq,XP,XU,XW,We,Wp,Wq,Wr,Ww,Wx,Wy,Wz,W4,W5,W7,W8,W9,WA,WB,WC,WE,WF,WG,WH,WI,WJ,WM,WN,WS,WV,WW,WX,WZ,Va,Vb,Vd,Vi,Vw,Vx,Vz,V0,V1,V2,V3,V6,V7,V8,V9,VB,VC,VD,VE,VF,VG,VH,VI,VJ,VK,VL,VM,VO,VP,VR,VS,VT,VU,VV,VW,VZ,Ud,Ue,Uf,Uh,Uk,Ul,Um,Un,Uo,Uq,Ur,Us,Ut,Uu,Uv,Uw,U1,U2,U9,UA,UO,UP,UQ,UR,US,UU,UZ,Te,Tf,Tg,Th,Ti,Tj,Tk,Tl,Tm,Tn,Tp,Tq,Tr,Ts,Tt,Ty,Sc, z, e93, hp]; all_goals tactic => exact rfl))
          · rw [if_neg hp]
            have hp : ((p : Int) < (l.ls.length : Int)) = False := eq_false (by omega)
            (sym => (simp [Za,Zb,Ze,Zf,Zh,Zi,Zl,Zm,Zn,Zu,Zy,Z2,Z5,Z7,ZC,ZE,ZF,ZH,ZK,ZO,ZP,ZR,ZS,ZX,ZZ,Ye,Yf,Yh,Yn,Yp,Yt,Yu,Yx,YE,YJ,YL,YR,YU,YV,Xe,Xi,Xk,Xq,XP,XU,XW,We,Wp,Wq,Wr,Ww,Wx,Wy,Wz,W4,W5,W7,W8,W9,WA,WB,WC,WE,WF,WG,WH,WI,WJ,WM,WN,WS,WV,WW,WX,WZ,Va,Vb,Vd,Vi,Vw,Vx,Vz,V0,V1,V2,V3,V6,V7,V8,V9,VB,VC,VD,VE,VF,VG,VH,VI,VJ,VK,VL,VM,VO,VP,VR,VS,VT,VU,VV,VW,VZ,Ud,Ue,Uf,Uh,Uk,Ul,Um,Un,Uo,Uq,Ur,Us,Ut,Uu,Uv,Uw,U1,U2,U9,UA,UO,UP,UQ,UR,US,UU,UZ,Te,Tf,Tg,Th,Ti,Tj,Tk,Tl,Tm,Tn,Tp,Tq,Tr,Ts,Tt,Ty,Sc, z, e93, hp]; all_goals tactic => exact rfl))
        · unfold tracksE
          rw [e, if_neg m4]
          obtain ⟨eo, ho, q1, q2⟩ := lf m3
          dsimp only at q1
          rw [q1]
          exact q2
      · (sym => (simp [Za,Zb,Ze,Zf,Zh,Zi,Zl,Zm,Zn,Zu,Zy,Z2,Z5,Z7,ZC,ZE,ZF,ZH,ZK,ZO,ZP,ZR,ZS,ZX,ZZ,Ye,Yf,Yh,Yn,Yp,Yt,Yu,Yx,YE,YJ,YL,YR,YU,YV,Xe,Xi,Xk,Xq,XP,XU,XW,We,Wp,Wq,Wr,Ww,Wx,Wy,Wz,W4,W5,W7,W8,W9,WA,WB,WC,WE,WF,WG,WH,WI,WJ,WM,WN,WS,WV,WW,WX,WZ,Va,Vb,Vd,Vi,Vw,Vx,Vz,V0,V1,V2,V3,V6,V7,V8,V9,VB,VC,VD,VE,VF,VG,VH,VI,VJ,VK,VL,VM,VO,VP,VR,VS,VT,VU,VV,VW,VZ,Ud,Ue,Uf,Uh,Uk,Ul,Um,Un,Uo,Uq,Ur,Us,Ut,Uu,Uv,Uw,U1,U2,U9,UA,UO,UP,UQ,UR,US,UU,UZ,Te,Tf,Tg,Th,Ti,Tj,Tk,Tl,Tm,Tn,Tp,Tq,Tr,Ts,Tt,Ty,Sc, a0]; all_goals tactic => exact rfl))
      · exact rd
      · rcases m3 with ⟨rfl, e⟩ | ⟨m3, m4, e⟩
        · (sym => (simp [Za,Zb,Ze,Zf,Zh,Zi,Zl,Zm,Zn,Zu,Zy,Z2,Z5,Z7,ZC,ZE,ZF,ZH,ZK,ZO,ZP,ZR,ZS,ZX,ZZ,Ye,Yf,Yh,Yn,Yp,Yt,Yu,Yx,YE,YJ,YL,YR,YU,YV,Xe,Xi,Xk,Xq,XP,XU,XW,We,Wp,Wq,Wr,Ww,Wx,Wy,Wz,W4,W5,W7,W8,W9,WA,WB,WC,WE,WF,WG,WH,WI,WJ,WM,WN,WS,WV,WW,WX,WZ,Va,Vb,Vd,Vi,Vw,Vx,Vz,V0,V1,V2,V3,V6,V7,V8,V9,VB,VC,VD,VE,VF,VG,VH,VI,VJ,VK,VL,VM,VO,VP,VR,VS,VT,VU,VV,VW,VZ,Ud,Ue,Uf,Uh,Uk,Ul,Um,Un,Uo,Uq,Ur,Us,Ut,Uu,Uv,Uw,U1,U2,U9,UA,UO,UP,UQ,UR,US,UU,UZ,Te,Tf,Tg,Th,Ti,Tj,Tk,Tl,Tm,Tn,Tp,Tq,Tr,Ts,Tt,Ty,Sc, z]; all_goals tactic => exact rfl))
        · obtain ⟨eo, ho, q1, q2⟩ := lf m3
          dsimp only at q1
          rw [q1]
          rfl
end Go.Proofs.YtpbeclkpohehgaaDoor
namespace Go.Proofs.YtpbeclkpohehgaaDoor
open Go Go.DL
set_option maxRecDepth 100000
set_option maxHeartbeats 2000000

/-- A set as a list of truths. -/
def bl (n a : Nat) : List Bool := (List.range n).map fun k => a.testBit k
theorem bl_len (n a : Nat) : (bl n a).length = n := by simp [bl]
theorem bl_get {n a k : Nat} (h : k < n) : (bl n a)[k]? = some (a.testBit k) := by
  unfold bl
  rw [List.getElem?_map, List.getElem?_range h]; rfl
theorem bl_set {n a k : Nat} (h : k < n) : setX (bl n a) k true = bl n (a ||| 2 ^ k) := by
  rw [setX_set (by rw [bl_len]; exact h)]
  apply List.ext_getElem
  · simp [bl]
  · intro i h1 h2
    rw [List.getElem_set]
    simp only [bl, List.getElem_map, List.getElem_range, or_bit]
    by_cases hk : k = i
    · simp [hk]
    · simp [hk]
theorem bl_0 (n : Nat) : List.replicate n false = bl n 0 := by
  apply List.ext_getElem
  · simp [bl]
  · intro i h1 h2
    simp [bl]
section
variable {n : Nat} {T : List (List Int)} {t : List Int} {j : Nat} {a : Nat}
abbrev hB (n a : Nat) : XH := [some (.blk true (.cells true ((bl n a).map AV.bool)))]
theorem round64 (hn : n ≤ 10) (hj : T[j]? = some t) {i : Nat} {v : Int} (hv : t[i]? = some v) (ht : t.length ≤ 9223372036854775807) (he : elE n a v = 0) :
    headX 0 [0, 1, 5, 6, 7] (execW progX 64 0 none (match x64l0 with | .loop _ a => a | c => c) (envL [0, 1, 5, 6, 7] [tR T, I n, .sl 0 0 1 n, I (j : Nat), I (i : Nat)]) (hB n a)) =
      some ([tR T, I n, .sl 0 0 1 n, I (j : Nat), I (i + 1 : Nat)], hB n (a ||| 2 ^ v.toNat)) := by
  have b1 := lt_ix (lt_of hj)
  have a1 := lt_ix (lt_of hv)
  have a2 := up_ix (lt_of hv) ht
  have a3 : IntKind.i64.wrap ((n : Int) - 1) = (n : Int) - 1 := wrap_ok (by omega) (by omega)
  rcases elE_of (n := n) (all := a) v with ⟨h1, h2, h3, h4⟩ | ⟨_, _, _, h4⟩ | ⟨_, h4⟩
  · have c1 : (0 ≤ v) = True := eq_true (by omega)
    have c2 : (v < (n : Int)) = True := eq_true (by omega)
    have c3 := bl_get (n := n) (a := a) (k := v.toNat) (by omega)
    rw [h3] at c3
    have c4 := bl_set (n := n) (a := a) (k := v.toNat) (by omega)
    have c5 : (v.toNat + 1 ≤ (bl n a).length) = True := eq_true (by rw [bl_len]; omega)
    unfold x64l0
    dsimp only
    (sym => (simp [Za,Zb,Zc,Zf,Zh,Zl,Zm,Zu,Z2,Z3,Z7,ZC,ZE,ZI,ZJ,ZM,ZN,ZR,ZS,ZV,ZZ,Yc,Ye,Yf,Yh,Yi,Yp,Yt,Yu,YE,YJ,YK,YT,Xe,Xf,Xi,Xj,Wd,Wp,Wq,Wr,Ws,Ww,Wy,Wz,W4,W5,W7,W8,W9,WA,WB,WC,WE,WF,WG,WH,WI,WJ,WM,WN,WS,WV,WW,WX,VC,VD,VE,VF,VG,VH,VL,VM,VO,VP,VR,VS,VT,VU,VV,VW,VZ,Uc,Uh,Uk,Ul,Uq,Ur,Us,Ut,Uu,Uv,Uw,UP,UQ,UR,US,UU,UV,UW,Te,Tf,Th,Tj,Tk,Tn,Tr,Ts,Tt,Tw,Tx,Ty,T1, b1, a1, a2, a3, hj, hv, w62, h1, c1, c2, c3, c4, c5]; all_goals tactic => exact rfl))
  all_goals (rw [h4] at he; simp at he)
theorem left64 (hn : n ≤ 10) (hj : T[j]? = some t) {i : Nat} {v : Int} (hv : t[i]? = some v) (he : elE n a v ≠ 0) :
    ∃ e h, execW progX 64 0 none (match x64l0 with | .loop _ a => a | c => c) (envL [0, 1, 5, 6, 7] [tR T, I n, .sl 0 0 1 n, I (j : Nat), I (i : Nat)]) (hB n a) = some (.ret, e, h) ∧ retX [(4, none)] false 0 (some (.ret, e, h)) = some (I (elE n a v), []) := by
  have b1 := lt_ix (lt_of hj)
  have a1 := lt_ix (lt_of hv)
  have a3 : IntKind.i64.wrap ((n : Int) - 1) = (n : Int) - 1 := wrap_ok (by omega) (by omega)
  refine ret_of ?_ ?_
  all_goals unfold x64l0
  all_goals dsimp only
  all_goals rcases elE_of (n := n) (all := a) v with ⟨h1, h2, h3, h4⟩ | ⟨h1, h2, h3, h4⟩ | ⟨h1, h4⟩
  all_goals first | exact absurd h4 he | skip
  all_goals try rw [h4]
  · have c1 : (0 ≤ v) = True := eq_true (by omega)
    have c2 : (v < (n : Int)) = True := eq_true (by omega)
    have c3 := bl_get (n := n) (a := a) (k := v.toNat) (by omega)
    rw [h3] at c3
    (sym => (simp [Za,Zb,Zf,Zh,Zl,Zm,Zu,Z2,Z3,Z7,ZC,ZE,ZM,ZN,ZR,ZS,ZV,ZZ,Yc,Ye,Yf,Yi,Yp,Yt,Yu,YE,Xe,Xf,Xq,XP,Wp,Wq,Wr,Ww,Wy,W7,WA,WB,WC,WE,WF,WG,WI,WJ,WV,WW,WX,Vi,Vw,Vx,Vz,V0,V1,V2,V3,V6,V7,V8,V9,VC,VF,VG,VH,VJ,VL,VM,VO,VP,VR,VS,VT,VU,VV,VW,Uc,Ud,Uh,Ul,Uq,Ur,Us,Ut,Uu,UP,UQ,UR,US,UU,Te,Tf,Tg,Th,Tj,Tk,Tm,Tp,Ts,Tt,Tw,Tx,Sc, b1, a1, a3, hj, hv, w62, h1, c1, c2, c3]; all_goals tactic => exact rfl))
  · (sym => (simp [Za,Zb,Zf,Zh,Zl,Zm,Zu,Z2,Z3,Z7,ZC,ZE,ZM,ZN,ZR,ZS,ZV,ZZ,Yc,Ye,Yf,Yi,Yp,Yt,Yu,YE,Xe,Xf,Xq,XP,Wp,Wq,Wr,Ww,Wy,W7,WA,WB,WC,WE,WF,WG,WI,WJ,WV,WW,WX,Vi,Vw,Vx,Vz,V0,V1,V2,V3,V6,V7,V8,V9,VC,VF,VG,VH,VJ,VL,VM,VO,VP,VR,VS,VT,VU,VV,VW,Uc,Ud,Uh,Ul,Uq,Ur,Us,Ut,Uu,UP,UQ,UR,US,UU,Te,Tf,Tg,Th,Tj,Tk,Tm,Tp,Ts,Tt,Tw,Tx,Sc, b1, a1, a3, hj, hv, w62, h1]; all_goals tactic => exact rfl))
  · have c1 : (0 ≤ v) = True := eq_true (by omega)
    have c2 : (v < (n : Int)) = True := eq_true (by omega)
    have c3 := bl_get (n := n) (a := a) (k := v.toNat) (by omega)
    rw [h3] at c3
    (sym => (simp [Za,Zb,Zf,Zh,Zl,Zm,Zu,Z2,Z3,Z7,ZC,ZE,ZM,ZN,ZR,ZS,ZV,ZZ,Yc,Ye,Yf,Yi,Yp,Yt,Yu,YE,Xe,Xf,Xq,XP,Wp,Wq,Wr,Ww,Wy,W7,WA,WB,WC,WE,WF,WG,WI,WJ,WV,WW,WX,Vi,Vw,Vx,Vz,V0,V1,V2,V3,V6,V7,V8,V9,VC,VF,VG,VH,VJ,VL,VM,VO,VP,VR,VS,VT,VU,VV,VW,Uc,Ud,Uh,Ul,Uq,Ur,Us,Ut,Uu,UP,UQ,UR,US,UU,Te,Tf,Tg,Th,Tj,Tk,Tm,Tp,Ts,Tt,Tw,Tx,Sc, b1, a1, a3, hj, hv, w62, h1, c1, c2, c3]; all_goals tactic => exact rfl))
  · (sym => (simp [Za,Zb,Zf,Zh,Zl,Zm,Zu,Z2,Z3,Z7,ZC,ZE,ZM,ZN,ZR,ZS,ZV,ZZ,Yc,Ye,Yf,Yi,Yp,Yt,Yu,YE,Xe,Xf,Xq,XP,Wp,Wq,Wr,Ww,Wy,W7,WA,WB,WC,WE,WF,WG,WI,WJ,WV,WW,WX,Vi,Vw,Vx,Vz,V0,V1,V2,V3,V6,V7,V8,V9,VC,VF,VG,VH,VJ,VL,VM,VO,VP,VR,VS,VT,VU,VV,VW,Uc,Ud,Uh,Ul,Uq,Ur,Us,Ut,Uu,UP,UQ,UR,US,UU,Te,Tf,Tg,Th,Tj,Tk,Tm,Tp,Ts,Tt,Tw,Tx,Sc, b1, a1, a3, hj, hv, w62, h1]; all_goals tactic => exact rfl))
end
theorem w64 (n : Nat) (T : List (List Int)) (hn : n ≤ 10) (hT : T.length ≤ 9223372036854775807) (hts : ∀ t ∈ T, t.length ≤ 9223372036854775807) : runW progX 64 [tR T, I n] [] = some (I (tracksE n T), []) := by
  have z := UO (n := (T.length : Int))
  have zn := UO (n := (n : Int))
  obtain ⟨m, m1, m2, m3⟩ := firstN_ix (fun j => errT n (T.getD j []) (accT T j)) T.length
  have hm : accT T m < 2 ^ 10 := accT_lt hn m m2
  have lf : m < T.length → ∃ e h, execW progX 64 0 none (match x64l1 with | .loop _ a => a | c => c) (envL [0, 1, 5, 6] [tR T, I n, .sl 0 0 1 n, I (m : Nat)]) (hB n (accT T m)) = some (.ret, e, h) ∧ retX [(4, none)] false 0 (some (.ret, e, h)) = some (I (errT n (T.getD m []) (accT T m)), []) := by
    intro hlt
    rcases m3 with ⟨rfl, _⟩ | ⟨_, m4, _⟩
    · omega
    obtain ⟨t, ht⟩ := at_ix hlt
    have b1 := lt_ix hlt
    rw [getD_of ht] at m4 ⊢
    have hth := hts t (List.mem_of_getElem? ht)
    generalize accT T m = a at *
    by_cases h0 : t.length = 0
    · have e4 : errT n t a = 4 := by rw [errT, if_pos h0]
      rw [e4]
      have g0 : ((t.length : Int) = 0) = True := eq_true (by omega)
      refine ret_of ?_ ?_
      all_goals unfold x64l1
      all_goals dsimp only
      all_goals (sym => (simp [Za,Zb,Zf,Zh,Zl,Zm,Zn,Zu,Z2,Z3,Z7,Z8,ZC,ZE,ZV,ZZ,Yc,Ye,Yf,Yh,Yn,Yp,Yt,Yu,Yx,Yz,YE,YJ,YK,YT,Xe,Xi,Xj,Xq,XP,XW,Wp,Wq,Wr,Wx,Wy,Wz,W4,W5,W7,W8,W9,WB,WE,WF,WG,WH,WM,WN,WS,Vi,Vw,Vx,Vz,V0,V1,V2,V3,V6,V7,V8,V9,VB,VC,VD,VE,VF,VG,VH,VI,VJ,VK,VL,VM,VO,VP,VR,VS,VT,VU,VV,VW,VZ,Uc,Ud,Uh,Uk,Ul,Um,Ur,Us,Ut,Uu,Uv,Uw,U1,U2,UG,UH,UO,UP,UQ,UR,US,UU,UZ,Te,Tf,Tg,Th,Ti,Tj,Tk,Tl,Tm,Tn,Tp,Tq,Tr,Ts,Tt,Tw,Tx,Ty,T3,Sc, b1, ht, g0]; all_goals tactic => exact rfl))
    · have g0 : ((t.length : Int) = 0) = False := eq_false (by omega)
      rw [errT, if_neg h0] at m4 ⊢
      obtain ⟨i, i1, i2, i3⟩ := firstN_ix (fun i => elE n (allT t a i) (t.getD i 0)) t.length
      rcases i3 with ⟨_, i3⟩ | ⟨i3, i4, i5⟩
      · exact absurd i3 m4
      rw [i5]
      obtain ⟨v, hv⟩ := at_ix i3
      rw [getD_of hv] at i4 ⊢
      obtain ⟨eo, ho, q1, q2⟩ := left64 (j := m) hn ht hv i4
      have rd : ∀ k, k < i → headX 0 [0, 1, 5, 6, 7] (execW progX 64 0 none (match x64l0 with | .loop _ a => a | c => c) (envL [0, 1, 5, 6, 7] [tR T, I n, .sl 0 0 1 n, I (m : Nat), I (k : Nat)]) (hB n (allT t a k))) = some ([tR T, I n, .sl 0 0 1 n, I (m : Nat), I (k + 1 : Nat)], hB n (allT t a (k + 1))) := by
        intro k hk
        obtain ⟨u, hu⟩ := at_ix (l := t) (i := k) (by omega)
        have e0 := i2 k hk
        rw [getD_of hu] at e0
        rw [allT, getD_of hu]
        exact round64 hn ht hu hth e0
      refine ret_of ?_ ?_
      all_goals unfold x64l1
      all_goals dsimp only
      · sym =>
          simp [Za,Zb,Zf,Zh,Zl,Zm,Zn,Zu,Z2,Z3,Z7,Z8,ZC,ZE,ZV,ZZ,Yc,Ye,Yf,Yh,Yn,Yp,Yt,Yu,Yx,Yz,YE,YJ,YK,YT,Xe,Xi,Xj,Xq,XP,XW,Wp,Wq,Wr,Wx,Wy,Wz,W4,W5,W7,W8,W9,WB,WE,WF,WG,WH,WM,WN,WS,Vi,Vw,Vx,Vz,V0,V1,V2,V3,V6,V7,V8,V9,VB,VC,VD,VE,VF,VG,VH,VI,VJ,VK,VL,VM,VO,VP,VR,VS,VT,VU,VV,VW,VZ,Uc,Ud,Uh,Uk,Ul,Um,Ur,Us,Ut,Uu,Uv,Uw,U1,U2,UG,UH,UO,UP,UQ,UR,US,UU,UZ,Te,Tf,Tg,Th,Ti,Tj,Tk,Tl,Tm,Tn,Tp,Tq,Tr,Ts,Tt,Tw,Tx,Ty,T3,Sc, b1, ht, g0]
          tactic =>
            unfold x64l0 at q1 ⊢
            rw [loop_rule i (fun k => [tR T, I n, .sl 0 0 1 n, I (m : Nat), I (k : Nat)]) (fun k => hB n (allT t a k))]
            · dsimp only at q1; rw [q1]; rfl
            · (sym => (simp [Za,Zb,Zf,Zh,Zl,Zm,Zn,Zu,Z2,Z3,Z7,Z8,ZC,ZE,ZV,ZZ,Yc,Ye,Yf,Yh,Yn,Yp,Yt,Yu,Yx,Yz,YE,YJ,YK,YT,Xe,Xi,Xj,Xq,XP,XW,Wp,Wq,Wr,Wx,Wy,Wz,W4,W5,W7,W8,W9,WB,WE,WF,WG,WH,WM,WN,WS,Vi,Vw,Vx,Vz,V0,V1,V2,V3,V6,V7,V8,V9,VB,VC,VD,VE,VF,VG,VH,VI,VJ,VK,VL,VM,VO,VP,VR,VS,VT,VU,VV,VW,VZ,Uc,Ud,Uh,Uk,Ul,Um,Ur,Us,Ut,Uu,Uv,Uw,U1,U2,UG,UH,UO,UP,UQ,UR,US,UU,UZ,Te,Tf,Tg,Th,Ti,Tj,Tk,Tl,Tm,Tn,Tp,Tq,Tr,Ts,Tt,Tw,Tx,Ty,T3,Sc, allT.eq_1]; all_goals tactic => exact rfl))
            · exact rd
            · dsimp only at q1; rw [q1]; rfl
      · sym =>
          simp [Za,Zb,Zf,Zh,Zl,Zm,Zn,Zu,Z2,Z3,Z7,Z8,ZC,ZE,ZV,ZZ,Yc,Ye,Yf,Yh,Yn,Yp,Yt,Yu,Yx,Yz,YE,YJ,YK,YT,Xe,Xi,Xj,Xq,XP,XW,Wp,Wq,Wr,Wx,Wy,Wz,W4,W5,W7,W8,W9,WB,WE,WF,WG,WH,WM,WN,WS,Vi,Vw,Vx,Vz,V0,V1,V2,V3,V6,V7,V8,V9,VB,VC,VD,VE,VF,VG,VH,VI,VJ,VK,VL,VM,VO,VP,VR,VS,VT,VU,VV,VW,VZ,Uc,Ud,Uh,Uk,Ul,Um,Ur,Us,Ut,Uu,Uv,Uw,U1,U2,UG,UH,UO,UP,UQ,UR,US,UU,UZ,Te,Tf,Tg,Th,Ti,Tj,Tk,Tl,Tm,Tn,Tp,Tq,Tr,Ts,Tt,Tw,Tx,Ty,T3,Sc, b1, ht, g0]
          tactic =>
            unfold x64l0 at q1 ⊢
            rw [loop_rule i (fun k => [tR T, I n, .sl 0 0 1 n, I (m : Nat), I (k : Nat)]) (fun k => hB n (allT t a k))]
            · dsimp only at q1; rw [q1]; exact q2
            · (sym => (simp [Za,Zb,Zf,Zh,Zl,Zm,Zn,Zu,Z2,Z3,Z7,Z8,ZC,ZE,ZV,ZZ,Yc,Ye,Yf,Yh,Yn,Yp,Yt,Yu,Yx,Yz,YE,YJ,YK,YT,Xe,Xi,Xj,Xq,XP,XW,Wp,Wq,Wr,Wx,Wy,Wz,W4,W5,W7,W8,W9,WB,WE,WF,WG,WH,WM,WN,WS,Vi,Vw,Vx,Vz,V0,V1,V2,V3,V6,V7,V8,V9,VB,VC,VD,VE,VF,VG,VH,VI,VJ,VK,VL,VM,VO,VP,VR,VS,VT,VU,VV,VW,VZ,Uc,Ud,Uh,Uk,Ul,Um,Ur,Us,Ut,Uu,Uv,Uw,U1,U2,UG,UH,UO,UP,UQ,UR,US,UU,UZ,Te,Tf,Tg,Th,Ti,Tj,Tk,Tl,Tm,Tn,Tp,Tq,Tr,Ts,Tt,Tw,Tx,Ty,T3,Sc, allT.eq_1]; all_goals tactic => exact rfl))
            · exact rd
            · dsimp only at q1; rw [q1]; rfl
  have rd : ∀ j, j < m → headX 0 [0, 1, 5, 6] (execW progX 64 0 none (match x64l1 with | .loop _ a => a | c => c) (envL [0, 1, 5, 6] [tR T, I n, .sl 0 0 1 n, I (j : Nat)]) (hB n (accT T j))) = some ([tR T, I n, .sl 0 0 1 n, I (j + 1 : Nat)], hB n (accT T (j + 1))) := by
    intro j hj
    obtain ⟨t, ht⟩ := at_ix (l := T) (i := j) (by omega)
    have b1 := lt_ix (lt_of ht)
    have b2 := up_ix (lt_of ht) hT
    have hth := hts t (List.mem_of_getElem? ht)
    have h0 := m2 j hj
    rw [accT, getD_of ht]
    rw [getD_of ht] at h0
    obtain ⟨h1, h2⟩ := errT_0 h0
    generalize accT T j = a at *
    have g0 : ((t.length : Int) = 0) = False := eq_false (by omega)
    have z := UO (n := (t.length : Int))
    unfold x64l1
    dsimp only
    sym =>
      simp [Za,Zb,Zf,Zh,Zl,Zm,Zn,Zu,Z2,Z3,Z7,Z8,ZC,ZE,ZV,ZZ,Yc,Ye,Yf,Yh,Yn,Yp,Yt,Yu,Yx,Yz,YE,YJ,YK,YT,Xe,Xi,Xj,Xq,XP,XW,Wp,Wq,Wr,Wx,Wy,Wz,W4,W5,W7,W8,W9,WB,WE,WF,WG,WH,WM,WN,WS,Vi,Vw,Vx,Vz,V0,V1,V2,V3,V6,V7,V8,V9,VB,VC,VD,VE,VF,VG,VH,VI,VJ,VK,VL,VM,VO,VP,VR,VS,VT,VU,VV,VW,VZ,Uc,Ud,Uh,Uk,Ul,Um,Ur,Us,Ut,Uu,Uv,Uw,U1,U2,UG,UH,UO,UP,UQ,UR,US,UU,UZ,Te,Tf,Tg,Th,Ti,Tj,Tk,Tl,Tm,Tn,Tp,Tq,Tr,Ts,Tt,Tw,Tx,Ty,T3,Sc, b1, ht, g0]
      tactic =>
        unfold x64l0
        rw [loop_rule t.length (fun k => [tR T, I n, .sl 0 0 1 n, I (j : Nat), I (k : Nat)]) (fun k => hB n (allT t a k))]
        · (sym => (simp [Za,Zb,Zf,Zh,Zl,Zm,Zn,Zu,Z2,Z3,Z7,Z8,ZC,ZE,ZV,ZZ,Yc,Ye,Yf,Yh,Yn,Yp,Yt,Yu,Yx,Yz,YE,YJ,YK,YT,Xe,Xi,Xj,Xq,XP,XW,Wp,Wq,Wr,Wx,Wy,Wz,W4,W5,W7,W8,W9,WB,WE,WF,WG,WH,WM,WN,WS,Vi,Vw,Vx,Vz,V0,V1,V2,V3,V6,V7,V8,V9,VB,VC,VD,VE,VF,VG,VH,VI,VJ,VK,VL,VM,VO,VP,VR,VS,VT,VU,VV,VW,VZ,Uc,Ud,Uh,Uk,Ul,Um,Ur,Us,Ut,Uu,Uv,Uw,U1,U2,UG,UH,UO,UP,UQ,UR,US,UU,UZ,Te,Tf,Tg,Th,Ti,Tj,Tk,Tl,Tm,Tn,Tp,Tq,Tr,Ts,Tt,Tw,Tx,Ty,T3,Sc, b1, b2, ht, z]; all_goals tactic => exact rfl))
        · (sym => (simp [Za,Zb,Zf,Zh,Zl,Zm,Zn,Zu,Z2,Z3,Z7,Z8,ZC,ZE,ZV,ZZ,Yc,Ye,Yf,Yh,Yn,Yp,Yt,Yu,Yx,Yz,YE,YJ,YK,YT,Xe,Xi,Xj,Xq,XP,XW,Wp,Wq,Wr,Wx,Wy,Wz,W4,W5,W7,W8,W9,WB,WE,WF,WG,WH,WM,WN,WS,Vi,Vw,Vx,Vz,V0,V1,V2,V3,V6,V7,V8,V9,VB,VC,VD,VE,VF,VG,VH,VI,VJ,VK,VL,VM,VO,VP,VR,VS,VT,VU,VV,VW,VZ,Uc,Ud,Uh,Uk,Ul,Um,Ur,Us,Ut,Uu,Uv,Uw,U1,U2,UG,UH,UO,UP,UQ,UR,US,UU,UZ,Te,Tf,Tg,Th,Ti,Tj,Tk,Tl,Tm,Tn,Tp,Tq,Tr,Ts,Tt,Tw,Tx,Ty,T3,Sc, allT.eq_1]; all_goals tactic => exact rfl))
        · intro k hk
          obtain ⟨u, hu⟩ := at_ix hk
          have e0 := h2 k hk
          rw [getD_of hu] at e0
          rw [allT, getD_of hu]
          exact round64 hn ht hu hth e0
        · (sym => (simp [Za,Zb,Zf,Zh,Zl,Zm,Zn,Zu,Z2,Z3,Z7,Z8,ZC,ZE,ZV,ZZ,Yc,Ye,Yf,Yh,Yn,Yp,Yt,Yu,Yx,Yz,YE,YJ,YK,YT,Xe,Xi,Xj,Xq,XP,XW,Wp,Wq,Wr,Wx,Wy,Wz,W4,W5,W7,W8,W9,WB,WE,WF,WG,WH,WM,WN,WS,Vi,Vw,Vx,Vz,V0,V1,V2,V3,V6,V7,V8,V9,VB,VC,VD,VE,VF,VG,VH,VI,VJ,VK,VL,VM,VO,VP,VR,VS,VT,VU,VV,VW,VZ,Uc,Ud,Uh,Uk,Ul,Um,Ur,Us,Ut,Uu,Uv,Uw,U1,U2,UG,UH,UO,UP,UQ,UR,US,UU,UZ,Te,Tf,Tg,Th,Ti,Tj,Tk,Tl,Tm,Tn,Tp,Tq,Tr,Ts,Tt,Tw,Tx,Ty,T3,Sc, b1, ht, z]; all_goals tactic => exact rfl))
  have a0 : accT T 0 = 0 := rfl
  have r0 := bl_0 n
  have k1 : (0 ≤ (n : Int)) = True := eq_true (by omega)
  have k2 : (1 * (n : Int) ≤ 281474976710656) = True := eq_true (by omega)
  have k3 : ((n : Int) ≤ 9223372036854775807) = True := eq_true (by omega)
  have k4 : ((n : Int) ≤ (n : Int)) = True := eq_true (by omega)
  rw [r64 (by simp)]; unfold x64; dsimp only
  sym =>
    simp [Za,Zb,Zf,Zh,Zl,Zm,Zn,Zu,Z2,Z3,Z7,Z8,ZC,ZE,ZV,ZZ,Yc,Ye,Yf,Yh,Yn,Yp,Yt,Yu,Yx,Yz,YE,YJ,YK,YT,Xe,Xi,Xj,Xq,XP,XW,Wp,Wq,Wr,Wx,Wy,Wz,W4,W5,W7,W8,W9,WB,WE,WF,WG,WH,WM,WN,WS,Vi,Vw,Vx,Vz,V0,V1,V2,V3,V6,V7,V8,V9,VB,VC,VD,VE,VF,VG,VH,VI,VJ,VK,VL,VM,VO,VP,VR,VS,VT,VU,VV,VW,VZ,Uc,Ud,Uh,Uk,Ul,Um,Ur,Us,Ut,Uu,Uv,Uw,U1,U2,UG,UH,UO,UP,UQ,UR,US,UU,UZ,Te,Tf,Tg,Th,Ti,Tj,Tk,Tl,Tm,Tn,Tp,Tq,Tr,Ts,Tt,Tw,Tx,Ty,T3,Sc, k1, k2, k3, k4, r0]
    tactic =>
      unfold x64l1 at lf ⊢
      rw [loop_rule m (fun j => [tR T, I n, .sl 0 0 1 n, I (j : Nat)]) (fun j => hB n (accT T j))]
      · rcases m3 with ⟨rfl, e⟩ | ⟨m3, m4, e⟩
        · unfold tracksE
          rw [e, if_pos rfl]
          generalize accT T T.length = a at *
          have hf := pop_full (a := a) (n := n)
          have hle := pop_le a n
          obtain ⟨q, p1, p2, p3⟩ := firstN_ix (fun k => if a.testBit k then 0 else 1) n
          have rdb : ∀ k, k < q → headX 0 [1, 5, 9] (execW progX 64 0 none (match x64l2 with | .loop _ a => a | c => c) (envL [1, 5, 9] [I n, .sl 0 0 1 n, I (k : Nat)]) (hB n a)) = some ([I n, .sl 0 0 1 n, I (k + 1 : Nat)], hB n a) := by
            intro k hk
            have e0 := p2 k hk
            have c3 := bl_get (n := n) (a := a) (k := k) (by omega)
            have c1 : ((k : Int) < (n : Int)) = True := eq_true (by omega)
            have c2 : IntKind.i64.wrap ((k : Int) + 1) = (k : Int) + 1 := wrap_ok (by omega) (by omega)
            cases hb : a.testBit k
            · rw [hb] at e0; simp at e0
            · rw [hb] at c3
              unfold x64l2
              dsimp only
              (sym => (simp [Za,Zb,Zf,Zh,Zl,Zm,Zn,Zu,Z2,Z3,Z7,Z8,ZC,ZE,ZV,ZZ,Yc,Ye,Yf,Yh,Yn,Yp,Yt,Yu,Yx,Yz,YE,YJ,YK,YT,Xe,Xi,Xj,Xq,XP,XW,Wp,Wq,Wr,Wx,Wy,Wz,W4,W5,W7,W8,W9,WB,WE,WF,WG,WH,WM,WN,WS,Vi,Vw,Vx,Vz,V0,V1,V2,V3,V6,V7,V8,V9,VB,VC,VD,VE,VF,VG,VH,VI,VJ,VK,VL,VM,VO,VP,VR,VS,VT,VU,VV,VW,VZ,Uc,Ud,Uh,Uk,Ul,Um,Ur,Us,Ut,Uu,Uv,Uw,U1,U2,UG,UH,UO,UP,UQ,UR,US,UU,UZ,Te,Tf,Tg,Th,Ti,Tj,Tk,Tl,Tm,Tn,Tp,Tq,Tr,Ts,Tt,Tw,Tx,Ty,T3,Sc, c1, c2, c3]; all_goals tactic => exact rfl))
          rcases p3 with ⟨rfl, p4⟩ | ⟨p3, p4, p5⟩
          · have : pop a q = q := hf.2 fun i hi => by
              have := p2 i hi
              cases hb : a.testBit i
              · rw [hb] at this; simp at this
              · rfl
            rw [if_neg (by omega)]
            sym =>
              simp [Za,Zb,Zf,Zh,Zl,Zm,Zn,Zu,Z2,Z3,Z7,Z8,ZC,ZE,ZV,ZZ,Yc,Ye,Yf,Yh,Yn,Yp,Yt,Yu,Yx,Yz,YE,YJ,YK,YT,Xe,Xi,Xj,Xq,XP,XW,Wp,Wq,Wr,Wx,Wy,Wz,W4,W5,W7,W8,W9,WB,WE,WF,WG,WH,WM,WN,WS,Vi,Vw,Vx,Vz,V0,V1,V2,V3,V6,V7,V8,V9,VB,VC,VD,VE,VF,VG,VH,VI,VJ,VK,VL,VM,VO,VP,VR,VS,VT,VU,VV,VW,VZ,Uc,Ud,Uh,Uk,Ul,Um,Ur,Us,Ut,Uu,Uv,Uw,U1,U2,UG,UH,UO,UP,UQ,UR,US,UU,UZ,Te,Tf,Tg,Th,Ti,Tj,Tk,Tl,Tm,Tn,Tp,Tq,Tr,Ts,Tt,Tw,Tx,Ty,T3,Sc, z]
              tactic =>
                unfold x64l2
                rw [loop_rule q (fun k => [I q, .sl 0 0 1 q, I (k : Nat)]) (fun _ => hB q a)]
                · (sym => (simp [Za,Zb,Zf,Zh,Zl,Zm,Zn,Zu,Z2,Z3,Z7,Z8,ZC,ZE,ZV,ZZ,Yc,Ye,Yf,Yh,Yn,Yp,Yt,Yu,Yx,Yz,YE,YJ,YK,YT,Xe,Xi,Xj,Xq,XP,XW,Wp,Wq,Wr,Wx,Wy,Wz,W4,W5,W7,W8,W9,WB,WE,WF,WG,WH,WM,WN,WS,Vi,Vw,Vx,Vz,V0,V1,V2,V3,V6,V7,V8,V9,VB,VC,VD,VE,VF,VG,VH,VI,VJ,VK,VL,VM,VO,VP,VR,VS,VT,VU,VV,VW,VZ,Uc,Ud,Uh,Uk,Ul,Um,Ur,Us,Ut,Uu,Uv,Uw,U1,U2,UG,UH,UO,UP,UQ,UR,US,UU,UZ,Te,Tf,Tg,Th,Ti,Tj,Tk,Tl,Tm,Tn,Tp,Tq,Tr,Ts,Tt,Tw,Tx,Ty,T3,Sc, zn]; all_goals tactic => exact rfl))
                · (sym => (simp [Za,Zb,Zf,Zh,Zl,Zm,Zn,Zu,Z2,Z3,Z7,Z8,ZC,ZE,ZV,ZZ,Yc,Ye,Yf,Yh,Yn,Yp,Yt,Yu,Yx,Yz,YE,YJ,YK,YT,Xe,Xi,Xj,Xq,XP,XW,Wp,Wq,Wr,Wx,Wy,Wz,W4,W5,W7,W8,W9,WB,WE,WF,WG,WH,WM,WN,WS,Vi,Vw,Vx,Vz,V0,V1,V2,V3,V6,V7,V8,V9,VB,VC,VD,VE,VF,VG,VH,VI,VJ,VK,VL,VM,VO,VP,VR,VS,VT,VU,VV,VW,VZ,Uc,Ud,Uh,Uk,Ul,Um,Ur,Us,Ut,Uu,Uv,Uw,U1,U2,UG,UH,UO,UP,UQ,UR,US,UU,UZ,Te,Tf,Tg,Th,Ti,Tj,Tk,Tl,Tm,Tn,Tp,Tq,Tr,Ts,Tt,Tw,Tx,Ty,T3,Sc]; all_goals tactic => exact rfl))
                · exact rdb
                · (sym => (simp [Za,Zb,Zf,Zh,Zl,Zm,Zn,Zu,Z2,Z3,Z7,Z8,ZC,ZE,ZV,ZZ,Yc,Ye,Yf,Yh,Yn,Yp,Yt,Yu,Yx,Yz,YE,YJ,YK,YT,Xe,Xi,Xj,Xq,XP,XW,Wp,Wq,Wr,Wx,Wy,Wz,W4,W5,W7,W8,W9,WB,WE,WF,WG,WH,WM,WN,WS,Vi,Vw,Vx,Vz,V0,V1,V2,V3,V6,V7,V8,V9,VB,VC,VD,VE,VF,VG,VH,VI,VJ,VK,VL,VM,VO,VP,VR,VS,VT,VU,VV,VW,VZ,Uc,Ud,Uh,Uk,Ul,Um,Ur,Us,Ut,Uu,Uv,Uw,U1,U2,UG,UH,UO,UP,UQ,UR,US,UU,UZ,Te,Tf,Tg,Th,Ti,Tj,Tk,Tl,Tm,Tn,Tp,Tq,Tr,Ts,Tt,Tw,Tx,Ty,T3,Sc, zn]; all_goals tactic => exact rfl))
          · have hb : a.testBit q = false := by
              cases hb : a.testBit q
              · rfl
              · rw [hb] at p4; simp at p4
            have : pop a n < n := by
              by_cases hc : pop a n = n
              · have := hf.1 hc q p3
                rw [hb] at this; simp at this
              · omega
            rw [if_pos this]
            have c1 : ((q : Int) < (n : Int)) = True := eq_true (by omega)
            have c3 := bl_get (n := n) (a := a) (k := q) p3
            rw [hb] at c3
            sym =>
              simp [Za,Zb,Zf,Zh,Zl,Zm,Zn,Zu,Z2,Z3,Z7,Z8,ZC,ZE,ZV,ZZ,Yc,Ye,Yf,Yh,Yn,Yp,Yt,Yu,Yx,Yz,YE,YJ,YK,YT,Xe,Xi,Xj,Xq,XP,XW,Wp,Wq,Wr,Wx,Wy,Wz,W4,W5,W7,W8,W9,WB,WE,WF,WG,WH,WM,WN,WS,Vi,Vw,Vx,Vz,V0,V1,V2,V3,V6,V7,V8,V9,VB,VC,VD,VE,VF,VG,VH,VI,VJ,VK,VL,VM,VO,VP,VR,VS,VT,VU,VV,VW,VZ,Uc,Ud,Uh,Uk,Ul,Um,Ur,Us,Ut,Uu,Uv,Uw,U1,U2,UG,UH,UO,UP,UQ,UR,US,UU,UZ,Te,Tf,Tg,Th,Ti,Tj,Tk,Tl,Tm,Tn,Tp,Tq,Tr,Ts,Tt,Tw,Tx,Ty,T3,Sc, z]
              tactic =>
                unfold x64l2
                rw [loop_rule q (fun k => [I n, .sl 0 0 1 n, I (k : Nat)]) (fun _ => hB n a)]
                · (sym => (simp [Za,Zb,Zf,Zh,Zl,Zm,Zn,Zu,Z2,Z3,Z7,Z8,ZC,ZE,ZV,ZZ,Yc,Ye,Yf,Yh,Yn,Yp,Yt,Yu,Yx,Yz,YE,YJ,YK,YT,Xe,Xi,Xj,Xq,XP,XW,Wp,Wq,Wr,Wx,Wy,Wz,W4,W5,W7,W8,W9,WB,WE,WF,WG,WH,WM,WN,WS,Vi,Vw,Vx,Vz,V0,V1,V2,V3,V6,V7,V8,V9,VB,VC,VD,VE,VF,VG,VH,VI,VJ,VK,VL,VM,VO,VP,VR,VS,VT,VU,VV,VW,VZ,Uc,Ud,Uh,Uk,Ul,Um,Ur,Us,Ut,Uu,Uv,Uw,U1,U2,UG,UH,UO,UP,UQ,UR,US,UU,UZ,Te,Tf,Tg,Th,Ti,Tj,Tk,Tl,Tm,Tn,Tp,Tq,Tr,Ts,Tt,Tw,Tx,Ty,T3,Sc, c1, c3]; all_goals tactic => exact rfl))
                · (sym => (simp [Za,Zb,Zf,Zh,Zl,Zm,Zn,Zu,Z2,Z3,Z7,Z8,ZC,ZE,ZV,ZZ,Yc,Ye,Yf,Yh,Yn,Yp,Yt,Yu,Yx,Yz,YE,YJ,YK,YT,Xe,Xi,Xj,Xq,XP,XW,Wp,Wq,Wr,Wx,Wy,Wz,W4,W5,W7,W8,W9,WB,WE,WF,WG,WH,WM,WN,WS,Vi,Vw,Vx,Vz,V0,V1,V2,V3,V6,V7,V8,V9,VB,VC,VD,VE,VF,VG,VH,VI,VJ,VK,VL,VM,VO,VP,VR,VS,VT,VU,VV,VW,VZ,Uc,Ud,Uh,Uk,Ul,Um,Ur,Us,Ut,Uu,Uv,Uw,U1,U2,UG,UH,UO,UP,UQ,UR,US,UU,UZ,Te,Tf,Tg,Th,Ti,Tj,Tk,Tl,Tm,Tn,Tp,Tq,Tr,Ts,Tt,Tw,Tx,Ty,T3,Sc]; all_goals tactic => exact rfl))
                · exact rdb
                · (sym => (simp [Za,Zb,Zf,Zh,Zl,Zm,Zn,Zu,Z2,Z3,Z7,Z8,ZC,ZE,ZV,ZZ,Yc,Ye,Yf,Yh,Yn,Yp,Yt,Yu,Yx,Yz,YE,YJ,YK,YT,Xe,Xi,Xj,Xq,XP,XW,Wp,Wq,Wr,Wx,Wy,Wz,W4,W5,W7,W8,W9,WB,WE,WF,WG,WH,WM,WN,WS,Vi,Vw,Vx,Vz,V0,V1,V2,V3,V6,V7,V8,V9,VB,VC,VD,VE,VF,VG,VH,VI,VJ,VK,VL,VM,VO,VP,VR,VS,VT,VU,VV,VW,VZ,Uc,Ud,Uh,Uk,Ul,Um,Ur,Us,Ut,Uu,Uv,Uw,U1,U2,UG,UH,UO,UP,UQ,UR,US,UU,UZ,Te,Tf,Tg,Th,Ti,Tj,Tk,Tl,Tm,Tn,Tp,Tq,Tr,Ts,Tt,Tw,Tx,Ty,T3,Sc, c1, c3]; all_goals tactic => exact rfl))
        · unfold tracksE
          rw [e, if_neg m4]
          obtain ⟨eo, ho, q1, q2⟩ := lf m3
          dsimp only at q1
          rw [q1]
          exact q2
      · (sym => (simp [Za,Zb,Zf,Zh,Zl,Zm,Zn,Zu,Z2,Z3,Z7,Z8,ZC,ZE,ZV,ZZ,Yc,Ye,Yf,Yh,Yn,Yp,Yt,Yu,Yx,Yz,YE,YJ,YK,YT,Xe,Xi,Xj,Xq,XP,XW,Wp,Wq,Wr,Wx,Wy,Wz,W4,W5,W7,W8,W9,WB,WE,WF,WG,WH,WM,WN,WS,Vi,Vw,Vx,Vz,V0,V1,V2,V3,V6,V7,V8,V9,VB,VC,VD,VE,VF,VG,VH,VI,VJ,VK,VL,VM,VO,VP,VR,VS,VT,VU,VV,VW,VZ,Uc,Ud,Uh,Uk,Ul,Um,Ur,Us,Ut,Uu,Uv,Uw,U1,U2,UG,UH,UO,UP,UQ,UR,US,UU,UZ,Te,Tf,Tg,Th,Ti,Tj,Tk,Tl,Tm,Tn,Tp,Tq,Tr,Ts,Tt,Tw,Tx,Ty,T3,Sc, a0]; all_goals tactic => exact rfl))
      · exact rd
      · rcases m3 with ⟨rfl, e⟩ | ⟨m3, m4, e⟩
        · (sym => (simp [Za,Zb,Zf,Zh,Zl,Zm,Zn,Zu,Z2,Z3,Z7,Z8,ZC,ZE,ZV,ZZ,Yc,Ye,Yf,Yh,Yn,Yp,Yt,Yu,Yx,Yz,YE,YJ,YK,YT,Xe,Xi,Xj,Xq,XP,XW,Wp,Wq,Wr,Wx,Wy,Wz,W4,W5,W7,W8,W9,WB,WE,WF,WG,WH,WM,WN,WS,Vi,Vw,Vx,Vz,V0,V1,V2,V3,V6,V7,V8,V9,VB,VC,VD,VE,VF,VG,VH,VI,VJ,VK,VL,VM,VO,VP,VR,VS,VT,VU,VV,VW,VZ,Uc,Ud,Uh,Uk,Ul,Um,Ur,Us,Ut,Uu,Uv,Uw,U1,U2,UG,UH,UO,UP,UQ,UR,US,UU,UZ,Te,Tf,Tg,Th,Ti,Tj,Tk,Tl,Tm,Tn,Tp,Tq,Tr,Ts,Tt,Tw,Tx,Ty,T3,Sc, z]; all_goals tactic => exact rfl))
        · obtain ⟨eo, ho, q1, q2⟩ := lf m3
          dsimp only at q1
          rw [q1]
          rfl
end Go.Proofs.YtpbeclkpohehgaaDoor
namespace Go.Proofs.YtpbeclkpohehgaaDoor
open Go Go.DL
set_option maxRecDepth 100000
set_option maxHeartbeats 2000000

def ldE (nk : Nat) (x : Ld) : Int := if btw 0 x.k ((nk : Int) - 1) then (if inS x.al x.ah 0 100000 && inS x.cl x.ch 1 10000 then 0 else 2) else 18
def ldEr (l : Li) (i : Nat) : Int := ldE l.ks.length (l.ls.getD i ⟨0, 0, 0, 0, 0⟩)
/-- The error of a line. -/
def checkL (l : Li) : Int := if kindsE l.ks = 0 then (if 10 < l.ls.length then 1 else if firstN (ldEr l) l.ls.length = 0 then (if tracksE l.ls.length l.ts = 0 then (if inS l.lo l.hi 0 100000 then 0 else 2) else tracksE l.ls.length l.ts) else firstN (ldEr l) l.ls.length) else kindsE l.ks
/-- Lists of a length that a machine can have. -/
structure Li.Fit (l : Li) : Prop where
  ts : l.ts.length ≤ 9223372036854775807
  each : ∀ t ∈ l.ts, t.length ≤ 9223372036854775807
theorem ldE_of (nk : Nat) (x : Ld) : (btw 0 x.k ((nk : Int) - 1) = true ∧ inS x.al x.ah 0 100000 = true ∧ inS x.cl x.ch 1 10000 = true ∧ ldE nk x = 0) ∨ (btw 0 x.k ((nk : Int) - 1) = true ∧ inS x.al x.ah 0 100000 = true ∧ inS x.cl x.ch 1 10000 = false ∧ ldE nk x = 2) ∨
    (btw 0 x.k ((nk : Int) - 1) = true ∧ inS x.al x.ah 0 100000 = false ∧ ldE nk x = 2) ∨ (btw 0 x.k ((nk : Int) - 1) = false ∧ ldE nk x = 18) := by
  unfold ldE
  cases btw 0 x.k ((nk : Int) - 1)
  · simp
  cases inS x.al x.ah 0 100000
  · simp
  cases inS x.cl x.ch 1 10000 <;> simp

section
variable {l : Li}
theorem round22a (hn : l.ks.length ≤ 6) {i : Nat} (hi : i < l.ks.length) (he : chkD (l.ks.getD i []) = 0) :
    headX 0 [1, 14, 15, 16] (execW progX 22 0 none (match x22l0 with | .loop _ a => a | c => c) (envL [1, 14, 15, 16] [.pt 0 0, kR l.ks, I l.ks.length, I (i : Nat)]) (hL l)) = some ([.pt 0 0, kR l.ks, I l.ks.length, I (i + 1 : Nat)], hL l) := by
  obtain ⟨k, hk⟩ := at_ix hi
  rw [getD_of hk] at he
  have a1 := lt_ix hi
  have a2 := up_ix hi (by omega)
  have e := w57 k
  rw [he] at e
  unfold x22l0
  dsimp only
  (sym => (simp [Za,Zb,Zf,Zg,Zh,Zj,Zl,Zm,Zu,Z2,Z7,ZE,ZM,ZN,ZR,ZS,Ye,Yf,Yh,Yo,Yp,Yt,Yu,YE,YJ,YL,Xe,Xi,Xk,Xu,XW,Wp,Ww,Wy,Wz,W4,W5,W7,W8,W9,WA,WB,WC,WE,WF,WG,WH,WI,WJ,WM,WN,WS,WV,WW,WX,Vi,Vk,Vl,Vm,VC,VD,VE,VF,VG,VH,VL,VM,VO,VP,VR,VS,VT,VU,VV,VW,Uc,Uh,Uk,Ul,Uq,Ur,Us,Ut,Uu,UR,US,UU,Te,Tf,Th,Tj,Tk,Tn,Tr,Ts,Tt,Ty,Sc,Sn,Sq,Ss, a1, a2, hk, e]; all_goals tactic => exact rfl))
theorem left22a (hn : l.ks.length ≤ 6) {i : Nat} (hi : i < l.ks.length) (he : chkD (l.ks.getD i []) ≠ 0) :
    ∃ e h, execW progX 22 0 none (match x22l0 with | .loop _ a => a | c => c) (envL [1, 14, 15, 16] [.pt 0 0, kR l.ks, I l.ks.length, I (i : Nat)]) (hL l) = some (.ret, e, h) ∧ retX [(2, none)] false 0 (some (.ret, e, h)) = some (I (chkD (l.ks.getD i [])), []) := by
  obtain ⟨k, hk⟩ := at_ix hi
  rw [getD_of hk] at he ⊢
  have a1 := lt_ix hi
  have e := w57 k
  generalize chkD k = v at *
  have g := eq_false he
  refine ret_of ?_ ?_
  all_goals unfold x22l0
  all_goals dsimp only
  all_goals (sym => (simp [Za,Zb,Zf,Zg,Zh,Zj,Zl,Zm,Zu,Z2,Z7,ZE,ZM,ZN,ZR,ZS,Ye,Yf,Yo,Yp,Yt,Yu,YE,YJ,Xe,Xi,Xq,Xu,XP,XW,Ww,Wy,W7,WA,WB,WC,WE,WF,WG,WI,WJ,WV,WW,WX,Vi,Vk,Vl,Vm,Vw,Vx,Vz,V0,V1,V2,V3,V6,V7,V8,V9,VC,VF,VG,VJ,VL,VM,VO,VP,VR,VS,VT,VU,VV,VW,Ud,Uh,Ul,Um,Uq,Ur,Us,Ut,Uu,UR,US,UU,Te,Tf,Tg,Th,Tj,Tk,Tm,Tp,Ts,Tt,Sc,Sn,Sq,Ss, a1, hk, e, g]; all_goals tactic => exact rfl))
theorem round22b (hn : l.ls.length ≤ 10) (hk : l.ks.length ≤ 6) {i : Nat} (hi : i < l.ls.length) (he : ldEr l i = 0) :
    headX 0 [1, 31, 32, 33] (execW progX 22 0 none (match x22l1 with | .loop _ a => a | c => c) (envL [1, 31, 32, 33] [.pt 0 0, lR l.ls, I l.ls.length, I (i : Nat)]) (hL l)) = some ([.pt 0 0, lR l.ls, I l.ls.length, I (i + 1 : Nat)], hL l) := by
  obtain ⟨x, hx⟩ := at_ix hi
  unfold ldEr at he
  rw [getD_of hx] at he
  have a1 := lt_ix hi
  have a2 := up_ix hi (by omega)
  have a3 : IntKind.i64.wrap ((l.ks.length : Int) - 1) = (l.ks.length : Int) - 1 := wrap_ok (by omega) (by omega)
  rcases ldE_of l.ks.length x with ⟨h1, h2, h3, h4⟩ | ⟨_, _, _, h4⟩ | ⟨_, _, h4⟩ | ⟨_, h4⟩
  · unfold x22l1
    dsimp only
    (sym => (simp [Za,Zb,Zc,Zf,Zg,Zh,Zj,Zl,Zm,Zo,Zq,Zu,Zv,Zx,Z2,Z3,Z5,Z7,ZC,ZE,ZI,ZJ,ZM,ZN,ZR,ZS,ZU,ZV,ZX,ZZ,Ye,Yf,Yh,Yi,Yp,Yt,Yu,YE,YG,YJ,YL,YR,Xe,Xf,Xg,Xi,Xk,We,Wp,Wq,Wr,Ws,Wt,Wu,Wv,Ww,Wy,Wz,W4,W5,W7,W8,W9,WA,WB,WC,WE,WF,WG,WH,WI,WJ,WM,WN,WS,WV,WW,WX,Vi,Vk,Vl,Vn,Vo,Vq,VC,VD,VE,VF,VG,VH,VL,VM,VN,VO,VP,VR,VS,VT,VU,VV,VW,VZ,Uc,Uh,Uk,Ul,Uq,Ur,Us,Ut,Uu,Uv,Uw,U3,UP,UQ,UR,US,UT,UU,UV,UW,Te,Tf,Th,Tj,Tk,Tn,Tr,Ts,Tt,Ty,Sn,Sq,Sr, a1, a2, a3, hx, w58, w59, h1, h2, h3]; all_goals tactic => exact rfl))
  all_goals (rw [h4] at he; simp at he)
theorem left22b (hn : l.ls.length ≤ 10) (hk : l.ks.length ≤ 6) {i : Nat} (hi : i < l.ls.length) (he : ldEr l i ≠ 0) :
    ∃ e h, execW progX 22 0 none (match x22l1 with | .loop _ a => a | c => c) (envL [1, 31, 32, 33] [.pt 0 0, lR l.ls, I l.ls.length, I (i : Nat)]) (hL l) = some (.ret, e, h) ∧ retX [(2, none)] false 0 (some (.ret, e, h)) = some (I (ldEr l i), []) := by
  obtain ⟨x, hx⟩ := at_ix hi
  unfold ldEr at he ⊢
  rw [getD_of hx] at he ⊢
  have a1 := lt_ix hi
  have a3 : IntKind.i64.wrap ((l.ks.length : Int) - 1) = (l.ks.length : Int) - 1 := wrap_ok (by omega) (by omega)
  have h1 := pad
  have h2 := pad
  have h3 := pad
  refine ret_of ?_ ?_
  all_goals unfold x22l1
  all_goals dsimp only
  all_goals rcases ldE_of l.ks.length x with ⟨h1, h2, h3, h4⟩ | ⟨h1, h2, h3, h4⟩ | ⟨h1, h2, h4⟩ | ⟨h1, h4⟩
  all_goals first | exact absurd h4 he | skip
  all_goals try rw [h4]
  all_goals (sym => (simp [Za,Zb,Zc,Zf,Zg,Zh,Zj,Zl,Zm,Zo,Zq,Zs,Zu,Zv,Zx,Z2,Z3,Z5,Z7,ZC,ZE,ZI,ZJ,ZM,ZN,ZR,ZS,ZT,ZU,ZV,ZX,ZZ,Ye,Yf,Yi,Yp,Yt,Yu,YE,YG,YR,Xe,Xf,Xg,Xq,XP,We,Wp,Wq,Wr,Ws,Wt,Wu,Wv,Ww,Wy,W7,WA,WB,WC,WE,WF,WG,WI,WJ,WV,WW,WX,Vi,Vk,Vl,Vn,Vo,Vq,Vw,Vx,Vz,V0,V1,V2,V3,V6,V7,V8,V9,VC,VF,VG,VH,VJ,VL,VM,VN,VO,VP,VR,VS,VT,VU,VV,VW,VZ,Uc,Ud,Uh,Ul,Uq,Ur,Us,Ut,Uu,Uv,Uw,U3,UP,UQ,UR,US,UT,UU,UV,UW,Te,Tf,Tg,Th,Tj,Tk,Tm,Tp,Ts,Tt,Sc,Sn,Sq,Sr, a1, a3, hx, w58, w59, h1, h2, h3]; all_goals tactic => exact rfl))
end
/-- The loop over kinds: what it comes to. -/
theorem w22 (l : Li) (hf : l.Fit) : runW progX 22 [.agg l.c] [] = some (I (checkL l), []) := by
  rw [r22 (by simp)]; unfold x22; dsimp only
  unfold checkL kindsE
  by_cases h6 : 6 < l.ks.length
  · have g6 : ((6 : Int) < (l.ks.length : Int)) = True := eq_true (by omega)
    simp only [if_pos h6]
    rw [if_neg (show ¬ (1 : Int) = 0 by decide)]
    (sym => (simp [Za,Zb,Zf,Zg,Zh,Zj,Zl,Zm,Zn,Zu,Zy,Z2,Z3,Z5,ZC,ZE,ZM,ZN,ZR,ZS,ZV,ZX,ZZ,Yo,Yp,Yr,Yx,YE,YG,YJ,YL,YR,YU,YV,Xe,Xf,Xg,Xi,Xk,Xq,XP,XU,XW,We,Wp,Wq,Wr,Wt,Wu,Wv,Ww,Wx,Wy,Wz,W4,W5,W7,W8,W9,WA,WB,WC,WE,WF,WG,WH,WI,WJ,WM,WN,WS,WV,WW,WX,Vi,Vk,Vl,Vn,Vo,Vq,Vw,Vx,Vz,V0,V1,V2,V3,V6,V7,V8,V9,VB,VC,VD,VE,VF,VG,VH,VI,VK,VL,VM,VO,VP,VR,VS,VT,VU,VW,VZ,Uc,Ud,Uk,Ul,Um,Uq,Ur,Us,Ut,Uu,Uv,Uw,U1,U2,U9,UA,UO,UP,UQ,UT,UU,UZ,Te,Tf,Tg,Th,Ti,Tj,Tk,Tl,Tm,Tq,Tr,Ts,Tt,Ty,Sc,Sn,Sq,Sr, g6]; all_goals tactic => exact rfl))
  simp only [if_neg h6]
  have g6 : ((6 : Int) < (l.ks.length : Int)) = False := eq_false (by omega)
  have z := UO (n := (l.ks.length : Int))
  have z2 := UO (n := (l.ls.length : Int))
  obtain ⟨m, m1, m2, m3⟩ := firstN_ix (fun t => chkD (l.ks.getD t [])) l.ks.length
  rcases m3 with ⟨rfl, e⟩ | ⟨m3, m4, e⟩
  · rw [e, if_pos rfl]
    sym =>
      simp [Za,Zb,Zf,Zg,Zh,Zj,Zl,Zm,Zn,Zu,Zy,Z2,Z3,Z5,ZC,ZE,ZM,ZN,ZR,ZS,ZV,ZX,ZZ,Yo,Yp,Yr,Yx,YE,YG,YJ,YL,YR,YU,YV,Xe,Xf,Xg,Xi,Xk,Xq,XP,XU,XW,We,Wp,Wq,Wr,Wt,Wu,Wv,Ww,Wx,Wy,Wz,W4,W5,W7,W8,W9,WA,WB,WC,WE,WF,WG,WH,WI,WJ,WM,WN,WS,WV,WW,WX,Vi,Vk,Vl,Vn,Vo,Vq,Vw,Vx,Vz,V0,V1,V2,V3,V6,V7,V8,V9,VB,VC,VD,VE,VF,VG,VH,VI,VK,VL,VM,VO,VP,VR,VS,VT,VU,VW,VZ,Uc,Ud,Uk,Ul,Um,Uq,Ur,Us,Ut,Uu,Uv,Uw,U1,U2,U9,UA,UO,UP,UQ,UT,UU,UZ,Te,Tf,Tg,Th,Ti,Tj,Tk,Tl,Tm,Tq,Tr,Ts,Tt,Ty,Sc,Sn,Sq,Sr, g6]
      tactic =>
        unfold x22l0
        rw [loop_rule l.ks.length (fun i => [.pt 0 0, kR l.ks, I l.ks.length, I (i : Nat)]) (fun _ => hL l)]
        · by_cases h10 : 10 < l.ls.length
          · rw [if_pos h10]
            have h10 : ((10 : Int) < (l.ls.length : Int)) = True := eq_true (by omega)
            (sym => (simp [Za,Zb,Zf,Zg,Zh,Zj,Zl,Zm,Zn,Zu,Zy,Z2,Z3,Z5,ZC,ZE,ZM,ZN,ZR,ZS,ZV,ZX,ZZ,Yo,Yp,Yr,Yx,YE,YG,YJ,YL,YR,YU,YV,Xe,Xf,Xg,Xi,Xk,Xq,XP,XU,XW,We,Wp,Wq,Wr,Wt,Wu,Wv,Ww,Wx,Wy,Wz,W4,W5,W7,W8,W9,WA,WB,WC,WE,WF,WG,WH,WI,WJ,WM,WN,WS,WV,WW,WX,Vi,Vk,Vl,Vn,Vo,Vq,Vw,Vx,Vz,V0,V1,V2,V3,V6,V7,V8,V9,VB,VC,VD,VE,VF,VG,VH,VI,VK,VL,VM,VO,VP,VR,VS,VT,VU,VW,VZ,Uc,Ud,Uk,Ul,Um,Uq,Ur,Us,Ut,Uu,Uv,Uw,U1,U2,U9,UA,UO,UP,UQ,UT,UU,UZ,Te,Tf,Tg,Th,Ti,Tj,Tk,Tl,Tm,Tq,Tr,Ts,Tt,Ty,Sc,Sn,Sq,Sr, z, h10]; all_goals tactic => exact rfl))
          rw [if_neg h10]
          have g10 : ((10 : Int) < (l.ls.length : Int)) = False := eq_false (by omega)
          obtain ⟨q, q1, q2, q3⟩ := firstN_ix (ldEr l) l.ls.length
          sym =>
            simp [Za,Zb,Zf,Zg,Zh,Zj,Zl,Zm,Zn,Zu,Zy,Z2,Z3,Z5,ZC,ZE,ZM,ZN,ZR,ZS,ZV,ZX,ZZ,Yo,Yp,Yr,Yx,YE,YG,YJ,YL,YR,YU,YV,Xe,Xf,Xg,Xi,Xk,Xq,XP,XU,XW,We,Wp,Wq,Wr,Wt,Wu,Wv,Ww,Wx,Wy,Wz,W4,W5,W7,W8,W9,WA,WB,WC,WE,WF,WG,WH,WI,WJ,WM,WN,WS,WV,WW,WX,Vi,Vk,Vl,Vn,Vo,Vq,Vw,Vx,Vz,V0,V1,V2,V3,V6,V7,V8,V9,VB,VC,VD,VE,VF,VG,VH,VI,VK,VL,VM,VO,VP,VR,VS,VT,VU,VW,VZ,Uc,Ud,Uk,Ul,Um,Uq,Ur,Us,Ut,Uu,Uv,Uw,U1,U2,U9,UA,UO,UP,UQ,UT,UU,UZ,Te,Tf,Tg,Th,Ti,Tj,Tk,Tl,Tm,Tq,Tr,Ts,Tt,Ty,Sc,Sn,Sq,Sr, z, g10]
            tactic =>
              unfold x22l1
              rw [loop_rule q (fun i => [.pt 0 0, lR l.ls, I l.ls.length, I (i : Nat)]) (fun _ => hL l)]
              · rcases q3 with ⟨rfl, eq⟩ | ⟨q3, q4, eq⟩
                · rw [eq, if_pos rfl]
                  have e60 := w60 l (by omega) hf.ts hf.each
                  by_cases ht : tracksE l.ls.length l.ts = 0
                  · rw [if_pos ht]
                    rw [ht] at e60
                    cases hs : inS l.lo l.hi 0 100000
                    · (sym => (simp [Za,Zb,Zf,Zg,Zh,Zj,Zl,Zm,Zn,Zu,Zy,Z2,Z3,Z5,ZC,ZE,ZM,ZN,ZR,ZS,ZV,ZX,ZZ,Yo,Yp,Yr,Yx,YE,YG,YJ,YL,YR,YU,YV,Xe,Xf,Xg,Xi,Xk,Xq,XP,XU,XW,We,Wp,Wq,Wr,Wt,Wu,Wv,Ww,Wx,Wy,Wz,W4,W5,W7,W8,W9,WA,WB,WC,WE,WF,WG,WH,WI,WJ,WM,WN,WS,WV,WW,WX,Vi,Vk,Vl,Vn,Vo,Vq,Vw,Vx,Vz,V0,V1,V2,V3,V6,V7,V8,V9,VB,VC,VD,VE,VF,VG,VH,VI,VK,VL,VM,VO,VP,VR,VS,VT,VU,VW,VZ,Uc,Ud,Uk,Ul,Um,Uq,Ur,Us,Ut,Uu,Uv,Uw,U1,U2,U9,UA,UO,UP,UQ,UT,UU,UZ,Te,Tf,Tg,Th,Ti,Tj,Tk,Tl,Tm,Tq,Tr,Ts,Tt,Ty,Sc,Sn,Sq,Sr, z2, e60, w59, hs]; all_goals tactic => exact rfl))
                    · (sym => (simp [Za,Zb,Zf,Zg,Zh,Zj,Zl,Zm,Zn,Zu,Zy,Z2,Z3,Z5,ZC,ZE,ZM,ZN,ZR,ZS,ZV,ZX,ZZ,Yo,Yp,Yr,Yx,YE,YG,YJ,YL,YR,YU,YV,Xe,Xf,Xg,Xi,Xk,Xq,XP,XU,XW,We,Wp,Wq,Wr,Wt,Wu,Wv,Ww,Wx,Wy,Wz,W4,W5,W7,W8,W9,WA,WB,WC,WE,WF,WG,WH,WI,WJ,WM,WN,WS,WV,WW,WX,Vi,Vk,Vl,Vn,Vo,Vq,Vw,Vx,Vz,V0,V1,V2,V3,V6,V7,V8,V9,VB,VC,VD,VE,VF,VG,VH,VI,VK,VL,VM,VO,VP,VR,VS,VT,VU,VW,VZ,Uc,Ud,Uk,Ul,Um,Uq,Ur,Us,Ut,Uu,Uv,Uw,U1,U2,U9,UA,UO,UP,UQ,UT,UU,UZ,Te,Tf,Tg,Th,Ti,Tj,Tk,Tl,Tm,Tq,Tr,Ts,Tt,Ty,Sc,Sn,Sq,Sr, z2, e60, w59, hs]; all_goals tactic => exact rfl))
                  · rw [if_neg ht]
                    have gt := eq_false ht
                    (sym => (simp [Za,Zb,Zf,Zg,Zh,Zj,Zl,Zm,Zn,Zu,Zy,Z2,Z3,Z5,ZC,ZE,ZM,ZN,ZR,ZS,ZV,ZX,ZZ,Yo,Yp,Yr,Yx,YE,YG,YJ,YL,YR,YU,YV,Xe,Xf,Xg,Xi,Xk,Xq,XP,XU,XW,We,Wp,Wq,Wr,Wt,Wu,Wv,Ww,Wx,Wy,Wz,W4,W5,W7,W8,W9,WA,WB,WC,WE,WF,WG,WH,WI,WJ,WM,WN,WS,WV,WW,WX,Vi,Vk,Vl,Vn,Vo,Vq,Vw,Vx,Vz,V0,V1,V2,V3,V6,V7,V8,V9,VB,VC,VD,VE,VF,VG,VH,VI,VK,VL,VM,VO,VP,VR,VS,VT,VU,VW,VZ,Uc,Ud,Uk,Ul,Um,Uq,Ur,Us,Ut,Uu,Uv,Uw,U1,U2,U9,UA,UO,UP,UQ,UT,UU,UZ,Te,Tf,Tg,Th,Ti,Tj,Tk,Tl,Tm,Tq,Tr,Ts,Tt,Ty,Sc,Sn,Sq,Sr, z2, e60, gt]; all_goals tactic => exact rfl))
                · rw [eq, if_neg q4]
                  obtain ⟨eo, ho, p1, p2⟩ := left22b (by omega) (by omega) q3 q4
                  unfold x22l1 at p1
                  dsimp only at p1
                  rw [p1]
                  exact p2
              · (sym => (simp [Za,Zb,Zf,Zg,Zh,Zj,Zl,Zm,Zn,Zu,Zy,Z2,Z3,Z5,ZC,ZE,ZM,ZN,ZR,ZS,ZV,ZX,ZZ,Yo,Yp,Yr,Yx,YE,YG,YJ,YL,YR,YU,YV,Xe,Xf,Xg,Xi,Xk,Xq,XP,XU,XW,We,Wp,Wq,Wr,Wt,Wu,Wv,Ww,Wx,Wy,Wz,W4,W5,W7,W8,W9,WA,WB,WC,WE,WF,WG,WH,WI,WJ,WM,WN,WS,WV,WW,WX,Vi,Vk,Vl,Vn,Vo,Vq,Vw,Vx,Vz,V0,V1,V2,V3,V6,V7,V8,V9,VB,VC,VD,VE,VF,VG,VH,VI,VK,VL,VM,VO,VP,VR,VS,VT,VU,VW,VZ,Uc,Ud,Uk,Ul,Um,Uq,Ur,Us,Ut,Uu,Uv,Uw,U1,U2,U9,UA,UO,UP,UQ,UT,UU,UZ,Te,Tf,Tg,Th,Ti,Tj,Tk,Tl,Tm,Tq,Tr,Ts,Tt,Ty,Sc,Sn,Sq,Sr]; all_goals tactic => exact rfl))
              · intro i hi
                exact round22b (by omega) (by omega) (by omega) (q2 i hi)
              · rcases q3 with ⟨rfl, eq⟩ | ⟨q3, q4, eq⟩
                · (sym => (simp [Za,Zb,Zf,Zg,Zh,Zj,Zl,Zm,Zn,Zu,Zy,Z2,Z3,Z5,ZC,ZE,ZM,ZN,ZR,ZS,ZV,ZX,ZZ,Yo,Yp,Yr,Yx,YE,YG,YJ,YL,YR,YU,YV,Xe,Xf,Xg,Xi,Xk,Xq,XP,XU,XW,We,Wp,Wq,Wr,Wt,Wu,Wv,Ww,Wx,Wy,Wz,W4,W5,W7,W8,W9,WA,WB,WC,WE,WF,WG,WH,WI,WJ,WM,WN,WS,WV,WW,WX,Vi,Vk,Vl,Vn,Vo,Vq,Vw,Vx,Vz,V0,V1,V2,V3,V6,V7,V8,V9,VB,VC,VD,VE,VF,VG,VH,VI,VK,VL,VM,VO,VP,VR,VS,VT,VU,VW,VZ,Uc,Ud,Uk,Ul,Um,Uq,Ur,Us,Ut,Uu,Uv,Uw,U1,U2,U9,UA,UO,UP,UQ,UT,UU,UZ,Te,Tf,Tg,Th,Ti,Tj,Tk,Tl,Tm,Tq,Tr,Ts,Tt,Ty,Sc,Sn,Sq,Sr, z2]; all_goals tactic => exact rfl))
                · obtain ⟨eo, ho, p1, p2⟩ := left22b (by omega) (by omega) q3 q4
                  unfold x22l1 at p1
                  dsimp only at p1
                  rw [p1]
                  rfl
        · (sym => (simp [Za,Zb,Zf,Zg,Zh,Zj,Zl,Zm,Zn,Zu,Zy,Z2,Z3,Z5,ZC,ZE,ZM,ZN,ZR,ZS,ZV,ZX,ZZ,Yo,Yp,Yr,Yx,YE,YG,YJ,YL,YR,YU,YV,Xe,Xf,Xg,Xi,Xk,Xq,XP,XU,XW,We,Wp,Wq,Wr,Wt,Wu,Wv,Ww,Wx,Wy,Wz,W4,W5,W7,W8,W9,WA,WB,WC,WE,WF,WG,WH,WI,WJ,WM,WN,WS,WV,WW,WX,Vi,Vk,Vl,Vn,Vo,Vq,Vw,Vx,Vz,V0,V1,V2,V3,V6,V7,V8,V9,VB,VC,VD,VE,VF,VG,VH,VI,VK,VL,VM,VO,VP,VR,VS,VT,VU,VW,VZ,Uc,Ud,Uk,Ul,Um,Uq,Ur,Us,Ut,Uu,Uv,Uw,U1,U2,U9,UA,UO,UP,UQ,UT,UU,UZ,Te,Tf,Tg,Th,Ti,Tj,Tk,Tl,Tm,Tq,Tr,Ts,Tt,Ty,Sc,Sn,Sq,Sr]; all_goals tactic => exact rfl))
        · intro i hi
          exact round22a (by omega) hi (m2 i hi)
        · (sym => (simp [Za,Zb,Zf,Zg,Zh,Zj,Zl,Zm,Zn,Zu,Zy,Z2,Z3,Z5,ZC,ZE,ZM,ZN,ZR,ZS,ZV,ZX,ZZ,Yo,Yp,Yr,Yx,YE,YG,YJ,YL,YR,YU,YV,Xe,Xf,Xg,Xi,Xk,Xq,XP,XU,XW,We,Wp,Wq,Wr,Wt,Wu,Wv,Ww,Wx,Wy,Wz,W4,W5,W7,W8,W9,WA,WB,WC,WE,WF,WG,WH,WI,WJ,WM,WN,WS,WV,WW,WX,Vi,Vk,Vl,Vn,Vo,Vq,Vw,Vx,Vz,V0,V1,V2,V3,V6,V7,V8,V9,VB,VC,VD,VE,VF,VG,VH,VI,VK,VL,VM,VO,VP,VR,VS,VT,VU,VW,VZ,Uc,Ud,Uk,Ul,Um,Uq,Ur,Us,Ut,Uu,Uv,Uw,U1,U2,U9,UA,UO,UP,UQ,UT,UU,UZ,Te,Tf,Tg,Th,Ti,Tj,Tk,Tl,Tm,Tq,Tr,Ts,Tt,Ty,Sc,Sn,Sq,Sr, z]; all_goals tactic => exact rfl))
  · rw [e, if_neg m4]
    obtain ⟨eo, ho, p1, p2⟩ := left22a (by omega) m3 m4
    sym =>
      simp [Za,Zb,Zf,Zg,Zh,Zj,Zl,Zm,Zn,Zu,Zy,Z2,Z3,Z5,ZC,ZE,ZM,ZN,ZR,ZS,ZV,ZX,ZZ,Yo,Yp,Yr,Yx,YE,YG,YJ,YL,YR,YU,YV,Xe,Xf,Xg,Xi,Xk,Xq,XP,XU,XW,We,Wp,Wq,Wr,Wt,Wu,Wv,Ww,Wx,Wy,Wz,W4,W5,W7,W8,W9,WA,WB,WC,WE,WF,WG,WH,WI,WJ,WM,WN,WS,WV,WW,WX,Vi,Vk,Vl,Vn,Vo,Vq,Vw,Vx,Vz,V0,V1,V2,V3,V6,V7,V8,V9,VB,VC,VD,VE,VF,VG,VH,VI,VK,VL,VM,VO,VP,VR,VS,VT,VU,VW,VZ,Uc,Ud,Uk,Ul,Um,Uq,Ur,Us,Ut,Uu,Uv,Uw,U1,U2,U9,UA,UO,UP,UQ,UT,UU,UZ,Te,Tf,Tg,Th,Ti,Tj,Tk,Tl,Tm,Tq,Tr,Ts,Tt,Ty,Sc,Sn,Sq,Sr, g6]
      tactic =>
        unfold x22l0 at p1 ⊢
        dsimp only at p1
        rw [loop_rule m (fun i => [.pt 0 0, kR l.ks, I l.ks.length, I (i : Nat)]) (fun _ => hL l)]
        · rw [p1]
          exact p2
        · (sym => (simp [Za,Zb,Zf,Zg,Zh,Zj,Zl,Zm,Zn,Zu,Zy,Z2,Z3,Z5,ZC,ZE,ZM,ZN,ZR,ZS,ZV,ZX,ZZ,Yo,Yp,Yr,Yx,YE,YG,YJ,YL,YR,YU,YV,Xe,Xf,Xg,Xi,Xk,Xq,XP,XU,XW,We,Wp,Wq,Wr,Wt,Wu,Wv,Ww,Wx,Wy,Wz,W4,W5,W7,W8,W9,WA,WB,WC,WE,WF,WG,WH,WI,WJ,WM,WN,WS,WV,WW,WX,Vi,Vk,Vl,Vn,Vo,Vq,Vw,Vx,Vz,V0,V1,V2,V3,V6,V7,V8,V9,VB,VC,VD,VE,VF,VG,VH,VI,VK,VL,VM,VO,VP,VR,VS,VT,VU,VW,VZ,Uc,Ud,Uk,Ul,Um,Uq,Ur,Us,Ut,Uu,Uv,Uw,U1,U2,U9,UA,UO,UP,UQ,UT,UU,UZ,Te,Tf,Tg,Th,Ti,Tj,Tk,Tl,Tm,Tq,Tr,Ts,Tt,Ty,Sc,Sn,Sq,Sr]; all_goals tactic => exact rfl))
        · intro i hi
          exact round22a (by omega) (by omega) (m2 i hi)
        · rw [p1]
          rfl
/-! ### As the reference has it -/
section
variable {l : Li}
theorem round23 (hn : l.ls.length ≤ 10) (hk : l.ks.length ≤ 6) {i : Nat} (hi : i < l.ls.length) (he : ldEr l i = 0) :
    headX 0 [1, 4] (execW progX 23 0 none (match x23l0 with | .loop _ a => a | c => c) (envL [1, 4] [.pt 0 0, I (i : Nat)]) (hL l)) = some ([.pt 0 0, I (i + 1 : Nat)], hL l) := by
  obtain ⟨x, hx⟩ := at_ix hi
  unfold ldEr at he
  rw [getD_of hx] at he
  have a1 := lt_ix hi
  have a2 := up_ix hi (by omega)
  have a3 : IntKind.i64.wrap ((l.ks.length : Int) - 1) = (l.ks.length : Int) - 1 := wrap_ok (by omega) (by omega)
  rcases ldE_of l.ks.length x with ⟨h1, h2, h3, h4⟩ | ⟨_, _, _, h4⟩ | ⟨_, _, h4⟩ | ⟨_, h4⟩
  · unfold x23l0
    dsimp only
    (sym => (simp [Za,Zb,Zc,Zf,Zg,Zh,Zj,Zl,Zm,Zo,Zq,Zu,Zv,Zx,Z2,Z3,Z5,Z7,ZC,ZE,ZI,ZJ,ZM,ZN,ZR,ZS,ZU,ZV,ZX,ZZ,Ye,Yf,Yh,Yi,Yp,Yt,Yu,YE,YG,YL,YR,Xe,Xf,Xg,Xk,We,Wp,Wq,Wr,Ws,Wt,Wu,Wv,Ww,Wy,Wz,W4,W5,W7,W8,W9,WA,WB,WC,WE,WF,WG,WH,WI,WJ,WM,WN,WS,WV,WW,WX,Vi,Vk,Vl,Vn,Vo,Vq,VC,VD,VE,VF,VG,VH,VL,VM,VN,VO,VP,VR,VS,VT,VU,VV,VW,VZ,Uc,Uh,Uk,Ul,Uq,Ur,Us,Ut,Uu,Uv,Uw,U3,UP,UQ,UR,US,UT,UU,UV,UW,Te,Tf,Th,Tj,Tk,Tn,Tr,Ts,Tt,Ty,Sn,Sq,Sr, a1, a2, a3, hx, w62, w63, h1, h2, h3]; all_goals tactic => exact rfl))
  all_goals (rw [h4] at he; simp at he)
theorem left23 (hn : l.ls.length ≤ 10) (hk : l.ks.length ≤ 6) {i : Nat} (hi : i < l.ls.length) (he : ldEr l i ≠ 0) :
    ∃ e h, execW progX 23 0 none (match x23l0 with | .loop _ a => a | c => c) (envL [1, 4] [.pt 0 0, I (i : Nat)]) (hL l) = some (.ret, e, h) ∧ retX [(2, none)] false 0 (some (.ret, e, h)) = some (I (ldEr l i), []) := by
  obtain ⟨x, hx⟩ := at_ix hi
  unfold ldEr at he ⊢
  rw [getD_of hx] at he ⊢
  have a1 := lt_ix hi
  have a3 : IntKind.i64.wrap ((l.ks.length : Int) - 1) = (l.ks.length : Int) - 1 := wrap_ok (by omega) (by omega)
  have h1 := pad
  have h2 := pad
  have h3 := pad
  refine ret_of ?_ ?_
  all_goals unfold x23l0
  all_goals dsimp only
  all_goals rcases ldE_of l.ks.length x with ⟨h1, h2, h3, h4⟩ | ⟨h1, h2, h3, h4⟩ | ⟨h1, h2, h4⟩ | ⟨h1, h4⟩
  all_goals first | exact absurd h4 he | skip
  all_goals try rw [h4]
  all_goals (sym => (simp [Za,Zb,Zc,Zf,Zg,Zh,Zj,Zl,Zm,Zo,Zq,Zs,Zu,Zv,Zx,Z2,Z3,Z5,Z7,ZC,ZE,ZI,ZJ,ZM,ZN,ZR,ZS,ZT,ZU,ZV,ZX,ZZ,Ye,Yf,Yi,Yp,Yt,Yu,YE,YG,YR,Xe,Xf,Xg,Xq,XP,We,Wp,Wq,Wr,Ws,Wt,Wu,Wv,Ww,Wy,W7,WA,WB,WC,WE,WF,WG,WI,WJ,WV,WW,WX,Vi,Vk,Vl,Vn,Vo,Vq,Vw,Vx,Vz,V0,V1,V2,V3,V6,V7,V8,V9,VC,VF,VG,VH,VJ,VL,VM,VN,VO,VP,VR,VS,VT,VU,VV,VW,VZ,Uc,Ud,Uh,Ul,Uq,Ur,Us,Ut,Uu,Uv,Uw,U3,UP,UQ,UR,US,UT,UU,UV,UW,Te,Tf,Tg,Th,Tj,Tk,Tm,Tp,Ts,Tt,Sc,Sn,Sq,Sr, a1, a3, hx, w62, w63, h1, h2, h3]; all_goals tactic => exact rfl))
end
theorem w23 (l : Li) (hf : l.Fit) : runW progX 23 [.agg l.c] [] = some (I (checkL l), []) := by
  have e61 := w61 l.ks
  rw [r23 (by simp)]; unfold x23; dsimp only
  unfold checkL
  by_cases hk : kindsE l.ks = 0
  · have h6 : ¬ 6 < l.ks.length := fun hc => by unfold kindsE at hk; rw [if_pos hc] at hk; simp at hk
    rw [if_pos hk]
    rw [hk] at e61
    have z2 := UO (n := (l.ls.length : Int))
    by_cases h10 : 10 < l.ls.length
    · rw [if_pos h10]
      have h10 : ((10 : Int) < (l.ls.length : Int)) = True := eq_true (by omega)
      (sym => (simp [Za,Zb,Zf,Zg,Zh,Zj,Zl,Zm,Zn,Zu,Zy,Z2,Z3,Z5,ZC,ZE,ZM,ZN,ZR,ZS,ZV,ZX,ZZ,Yo,Yp,Yr,Yx,YE,YG,YJ,YL,YR,YU,YV,Xe,Xf,Xg,Xi,Xk,Xq,XP,XU,XW,We,Wp,Wq,Wr,Wt,Wu,Wv,Ww,Wx,Wy,Wz,W4,W5,W7,W8,W9,WA,WB,WC,WE,WF,WG,WH,WI,WJ,WM,WN,WS,WV,WW,WX,Vi,Vk,Vl,Vn,Vo,Vq,Vw,Vx,Vz,V0,V1,V2,V3,V6,V7,V8,V9,VB,VC,VD,VE,VF,VG,VH,VI,VK,VL,VM,VO,VP,VR,VS,VT,VU,VW,VZ,Uc,Ud,Uk,Ul,Um,Uq,Ur,Us,Ut,Uu,Uv,Uw,U1,U2,U9,UA,UO,UP,UQ,UT,UU,UZ,Te,Tf,Tg,Th,Ti,Tj,Tk,Tl,Tm,Tq,Tr,Ts,Tt,Ty,Sc,Sn,Sq,Sr, e61, h10]; all_goals tactic => exact rfl))
    rw [if_neg h10]
    have g10 : ((10 : Int) < (l.ls.length : Int)) = False := eq_false (by omega)
    obtain ⟨q, q1, q2, q3⟩ := firstN_ix (ldEr l) l.ls.length
    sym =>
      simp [Za,Zb,Zf,Zg,Zh,Zj,Zl,Zm,Zn,Zu,Zy,Z2,Z3,Z5,ZC,ZE,ZM,ZN,ZR,ZS,ZV,ZX,ZZ,Yo,Yp,Yr,Yx,YE,YG,YJ,YL,YR,YU,YV,Xe,Xf,Xg,Xi,Xk,Xq,XP,XU,XW,We,Wp,Wq,Wr,Wt,Wu,Wv,Ww,Wx,Wy,Wz,W4,W5,W7,W8,W9,WA,WB,WC,WE,WF,WG,WH,WI,WJ,WM,WN,WS,WV,WW,WX,Vi,Vk,Vl,Vn,Vo,Vq,Vw,Vx,Vz,V0,V1,V2,V3,V6,V7,V8,V9,VB,VC,VD,VE,VF,VG,VH,VI,VK,VL,VM,VO,VP,VR,VS,VT,VU,VW,VZ,Uc,Ud,Uk,Ul,Um,Uq,Ur,Us,Ut,Uu,Uv,Uw,U1,U2,U9,UA,UO,UP,UQ,UT,UU,UZ,Te,Tf,Tg,Th,Ti,Tj,Tk,Tl,Tm,Tq,Tr,Ts,Tt,Ty,Sc,Sn,Sq,Sr, e61, g10]
      tactic =>
        unfold x23l0
        rw [loop_rule q (fun i => [.pt 0 0, I (i : Nat)]) (fun _ => hL l)]
        · rcases q3 with ⟨rfl, eq⟩ | ⟨q3, q4, eq⟩
          · rw [eq, if_pos rfl]
            have e64 := w64 l.ls.length l.ts (by omega) hf.ts hf.each
            by_cases ht : tracksE l.ls.length l.ts = 0
            · rw [if_pos ht]
              rw [ht] at e64
              cases hs : inS l.lo l.hi 0 100000
              · (sym => (simp [Za,Zb,Zf,Zg,Zh,Zj,Zl,Zm,Zn,Zu,Zy,Z2,Z3,Z5,ZC,ZE,ZM,ZN,ZR,ZS,ZV,ZX,ZZ,Yo,Yp,Yr,Yx,YE,YG,YJ,YL,YR,YU,YV,Xe,Xf,Xg,Xi,Xk,Xq,XP,XU,XW,We,Wp,Wq,Wr,Wt,Wu,Wv,Ww,Wx,Wy,Wz,W4,W5,W7,W8,W9,WA,WB,WC,WE,WF,WG,WH,WI,WJ,WM,WN,WS,WV,WW,WX,Vi,Vk,Vl,Vn,Vo,Vq,Vw,Vx,Vz,V0,V1,V2,V3,V6,V7,V8,V9,VB,VC,VD,VE,VF,VG,VH,VI,VK,VL,VM,VO,VP,VR,VS,VT,VU,VW,VZ,Uc,Ud,Uk,Ul,Um,Uq,Ur,Us,Ut,Uu,Uv,Uw,U1,U2,U9,UA,UO,UP,UQ,UT,UU,UZ,Te,Tf,Tg,Th,Ti,Tj,Tk,Tl,Tm,Tq,Tr,Ts,Tt,Ty,Sc,Sn,Sq,Sr, z2, e64, w63, hs]; all_goals tactic => exact rfl))
              · (sym => (simp [Za,Zb,Zf,Zg,Zh,Zj,Zl,Zm,Zn,Zu,Zy,Z2,Z3,Z5,ZC,ZE,ZM,ZN,ZR,ZS,ZV,ZX,ZZ,Yo,Yp,Yr,Yx,YE,YG,YJ,YL,YR,YU,YV,Xe,Xf,Xg,Xi,Xk,Xq,XP,XU,XW,We,Wp,Wq,Wr,Wt,Wu,Wv,Ww,Wx,Wy,Wz,W4,W5,W7,W8,W9,WA,WB,WC,WE,WF,WG,WH,WI,WJ,WM,WN,WS,WV,WW,WX,Vi,Vk,Vl,Vn,Vo,Vq,Vw,Vx,Vz,V0,V1,V2,V3,V6,V7,V8,V9,VB,VC,VD,VE,VF,VG,VH,VI,VK,VL,VM,VO,VP,VR,VS,VT,VU,VW,VZ,Uc,Ud,Uk,Ul,Um,Uq,Ur,Us,Ut,Uu,Uv,Uw,U1,U2,U9,UA,UO,UP,UQ,UT,UU,UZ,Te,Tf,Tg,Th,Ti,Tj,Tk,Tl,Tm,Tq,Tr,Ts,Tt,Ty,Sc,Sn,Sq,Sr, z2, e64, w63, hs]; all_goals tactic => exact rfl))
            · rw [if_neg ht]
              have gt := eq_false ht
              (sym => (simp [Za,Zb,Zf,Zg,Zh,Zj,Zl,Zm,Zn,Zu,Zy,Z2,Z3,Z5,ZC,ZE,ZM,ZN,ZR,ZS,ZV,ZX,ZZ,Yo,Yp,Yr,Yx,YE,YG,YJ,YL,YR,YU,YV,Xe,Xf,Xg,Xi,Xk,Xq,XP,XU,XW,We,Wp,Wq,Wr,Wt,Wu,Wv,Ww,Wx,Wy,Wz,W4,W5,W7,W8,W9,WA,WB,WC,WE,WF,WG,WH,WI,WJ,WM,WN,WS,WV,WW,WX,Vi,Vk,Vl,Vn,Vo,Vq,Vw,Vx,Vz,V0,V1,V2,V3,V6,V7,V8,V9,VB,VC,VD,VE,VF,VG,VH,VI,VK,VL,VM,VO,VP,VR,VS,VT,VU,VW,VZ,Uc,Ud,Uk,Ul,Um,Uq,Ur,Us,Ut,Uu,Uv,Uw,U1,U2,U9,UA,UO,UP,UQ,UT,UU,UZ,Te,Tf,Tg,Th,Ti,Tj,Tk,Tl,Tm,Tq,Tr,Ts,Tt,Ty,Sc,Sn,Sq,Sr, z2, e64, gt]; all_goals tactic => exact rfl))
          · rw [eq, if_neg q4]
            obtain ⟨eo, ho, p1, p2⟩ := left23 (by omega) (by omega) q3 q4
            unfold x23l0 at p1
            dsimp only at p1
            rw [p1]
            exact p2
        · (sym => (simp [Za,Zb,Zf,Zg,Zh,Zj,Zl,Zm,Zn,Zu,Zy,Z2,Z3,Z5,ZC,ZE,ZM,ZN,ZR,ZS,ZV,ZX,ZZ,Yo,Yp,Yr,Yx,YE,YG,YJ,YL,YR,YU,YV,Xe,Xf,Xg,Xi,Xk,Xq,XP,XU,XW,We,Wp,Wq,Wr,Wt,Wu,Wv,Ww,Wx,Wy,Wz,W4,W5,W7,W8,W9,WA,WB,WC,WE,WF,WG,WH,WI,WJ,WM,WN,WS,WV,WW,WX,Vi,Vk,Vl,Vn,Vo,Vq,Vw,Vx,Vz,V0,V1,V2,V3,V6,V7,V8,V9,VB,VC,VD,VE,VF,VG,VH,VI,VK,VL,VM,VO,VP,VR,VS,VT,VU,VW,VZ,Uc,Ud,Uk,Ul,Um,Uq,Ur,Us,Ut,Uu,Uv,Uw,U1,U2,U9,UA,UO,UP,UQ,UT,UU,UZ,Te,Tf,Tg,Th,Ti,Tj,Tk,Tl,Tm,Tq,Tr,Ts,Tt,Ty,Sc,Sn,Sq,Sr]; all_goals tactic => exact rfl))
        · intro i hi
          exact round23 (by omega) (by omega) (by omega) (q2 i hi)
        · rcases q3 with ⟨rfl, eq⟩ | ⟨q3, q4, eq⟩
          · (sym => (simp [Za,Zb,Zf,Zg,Zh,Zj,Zl,Zm,Zn,Zu,Zy,Z2,Z3,Z5,ZC,ZE,ZM,ZN,ZR,ZS,ZV,ZX,ZZ,Yo,Yp,Yr,Yx,YE,YG,YJ,YL,YR,YU,YV,Xe,Xf,Xg,Xi,Xk,Xq,XP,XU,XW,We,Wp,Wq,Wr,Wt,Wu,Wv,Ww,Wx,Wy,Wz,W4,W5,W7,W8,W9,WA,WB,WC,WE,WF,WG,WH,WI,WJ,WM,WN,WS,WV,WW,WX,Vi,Vk,Vl,Vn,Vo,Vq,Vw,Vx,Vz,V0,V1,V2,V3,V6,V7,V8,V9,VB,VC,VD,VE,VF,VG,VH,VI,VK,VL,VM,VO,VP,VR,VS,VT,VU,VW,VZ,Uc,Ud,Uk,Ul,Um,Uq,Ur,Us,Ut,Uu,Uv,Uw,U1,U2,U9,UA,UO,UP,UQ,UT,UU,UZ,Te,Tf,Tg,Th,Ti,Tj,Tk,Tl,Tm,Tq,Tr,Ts,Tt,Ty,Sc,Sn,Sq,Sr, z2]; all_goals tactic => exact rfl))
          · obtain ⟨eo, ho, p1, p2⟩ := left23 (by omega) (by omega) q3 q4
            unfold x23l0 at p1
            dsimp only at p1
            rw [p1]
            rfl
  · rw [if_neg hk]
    have g := eq_false hk
    (sym => (simp [Za,Zb,Zf,Zg,Zh,Zj,Zl,Zm,Zn,Zu,Zy,Z2,Z3,Z5,ZC,ZE,ZM,ZN,ZR,ZS,ZV,ZX,ZZ,Yo,Yp,Yr,Yx,YE,YG,YJ,YL,YR,YU,YV,Xe,Xf,Xg,Xi,Xk,Xq,XP,XU,XW,We,Wp,Wq,Wr,Wt,Wu,Wv,Ww,Wx,Wy,Wz,W4,W5,W7,W8,W9,WA,WB,WC,WE,WF,WG,WH,WI,WJ,WM,WN,WS,WV,WW,WX,Vi,Vk,Vl,Vn,Vo,Vq,Vw,Vx,Vz,V0,V1,V2,V3,V6,V7,V8,V9,VB,VC,VD,VE,VF,VG,VH,VI,VK,VL,VM,VO,VP,VR,VS,VT,VU,VW,VZ,Uc,Ud,Uk,Ul,Um,Uq,Ur,Us,Ut,Uu,Uv,Uw,U1,U2,U9,UA,UO,UP,UQ,UT,UU,UZ,Te,Tf,Tg,Th,Ti,Tj,Tk,Tl,Tm,Tq,Tr,Ts,Tt,Ty,Sc,Sn,Sq,Sr, e61, g]; all_goals tactic => exact rfl))
end Go.Proofs.YtpbeclkpohehgaaDoor
namespace Go.Proofs.YtpbeclkpohehgaaDoor
open Go Go.DL
set_option maxRecDepth 100000
set_option maxHeartbeats 2000000

/-! ### What stands ahead of what -/
def bT (t : List Int) (b : Nat → Nat) : Nat → Nat → Nat
  | 0 => b
  | i + 1 => fun x => if x = (t.getD i 0).toNat then allT t 0 i else bT t b i x
def bA (T : List (List Int)) : Nat → Nat → Nat
  | 0 => fun _ => 0
  | j + 1 => bT (T.getD j []) (bA T j) (T.getD j []).length
/-- The set of the loads behind which each load stands. -/
def behF (T : List (List Int)) : Nat → Nat := bA T T.length

/-! ### A yard's cells -/
def yC (l : Li) (b : Nat → Nat) (m : Nat) : List AV := [kR l.ks, lR l.ls, tR l.ts, I l.lo, I l.hi, U (b 0), U (b 1), U (b 2), U (b 3), U (b 4), U (b 5), U (b 6), U (b 7), U (b 8), U (b 9), .mp m]
def yM (l : Li) (b : Nat → Nat) : Option Nat → List AV
  | some c => yC l b c
  | none => [kR l.ks, lR l.ls, tR l.ts, I l.lo, I l.hi, U (b 0), U (b 1), U (b 2), U (b 3), U (b 4), U (b 5), U (b 6), U (b 7), U (b 8), U (b 9), .any]
section
variable {l : Li} {b : Nat → Nat} {m : Nat}
theorem yC_nm : nmL (yC l b m) = [m] := rfl
theorem yC_rn {s : Nat → Option Nat} : rnL s (yC l b m) = yM l b (s m) := by
  unfold yC yM
  simp only [rnL, rnA]
  cases s m <;> rfl
theorem yM_s {c : Nat} : yM l b (some c) = yC l b c := rfl
theorem yC_gr : grL (yC l b m) = false := rfl
theorem yC_sl : slL (yC l b m) = [] := rfl
theorem yC_fz {c : Nat} {cs : List AV} : fzL c cs (yC l b m) = yC l b m := rfl
theorem yC_len : (yC l b m).length = 16 := rfl
theorem yC_0 : (yC l b m)[0]? = some (kR l.ks) := rfl
theorem yC_1 : (yC l b m)[1]? = some (lR l.ls) := rfl
theorem yC_2 : (yC l b m)[2]? = some (tR l.ts) := rfl
theorem yC_3 : (yC l b m)[3]? = some (I l.lo) := rfl
theorem yC_4 : (yC l b m)[4]? = some (I l.hi) := rfl
theorem yC_15 : (yC l b m)[15]? = some (.mp m) := rfl
theorem yC_b {k : Nat} (h : k < 10) : (yC l b m)[5 + k]? = some (U (b k)) := by
  match k, h with
  | 0, _ => rfl
  | 1, _ => rfl
  | 2, _ => rfl
  | 3, _ => rfl
  | 4, _ => rfl
  | 5, _ => rfl
  | 6, _ => rfl
  | 7, _ => rfl
  | 8, _ => rfl
  | 9, _ => rfl
theorem yC_set {k a : Nat} (h : k < 10) : splice (yC l b m) (5 + k) [U a] = yC l (fun x => if x = k then a else b x) m := by
  match k, h with
  | 0, _ => rfl
  | 1, _ => rfl
  | 2, _ => rfl
  | 3, _ => rfl
  | 4, _ => rfl
  | 5, _ => rfl
  | 6, _ => rfl
  | 7, _ => rfl
  | 8, _ => rfl
  | 9, _ => rfl
theorem same_rI : ∀ t : List Int, sameR (t.map fun v => [I v]) (t.map fun v => [I v]) = true := fun t => same_int fun r hr c hc => by
  simp only [List.mem_map] at hr
  obtain ⟨v, _, rfl⟩ := hr
  simp only [List.mem_singleton] at hc
  exact ⟨v, hc⟩
theorem same_rS : ∀ k : List St, sameR (k.map St.row) (k.map St.row) = true := fun t => same_int fun r hr c hc => by
  simp only [List.mem_map] at hr
  obtain ⟨v, _, rfl⟩ := hr
  simp only [List.mem_cons, List.not_mem_nil, or_false] at hc
  rcases hc with rfl | rfl <;> exact ⟨_, rfl⟩
theorem same_rL : ∀ k : List Ld, sameR (k.map Ld.row) (k.map Ld.row) = true := fun t => same_int fun r hr c hc => by
  simp only [List.mem_map] at hr
  obtain ⟨v, _, rfl⟩ := hr
  simp only [List.mem_cons, List.not_mem_nil, or_false] at hc
  rcases hc with rfl | rfl | rfl | rfl | rfl <;> exact ⟨_, rfl⟩
theorem same_tR : ∀ T : List (List Int), sameR (T.map fun t => [rI t]) (T.map fun t => [rI t]) = true
  | [] => rfl
  | t :: r => by
    rw [List.map_cons, sameR, same_tR r]
    simp [sameL, sameA, same_rI t]
theorem same_kR : ∀ T : List (List St), sameR (T.map fun t => [rS t]) (T.map fun t => [rS t]) = true
  | [] => rfl
  | t :: r => by
    rw [List.map_cons, sameR, same_kR r]
    simp [sameL, sameA, same_rS t]
theorem yC_same : sameL (yC l b m) (yC l b m) = true := by
  unfold yC
  simp [sameL, sameA, same_kR, same_rL, same_tR]
end

section
variable {l : Li} {b : Nat → Nat} {t : List Int} {j : Nat}
abbrev hY (l : Li) (b : Nat → Nat) (es : List (AV × AV)) : XH := [some (.blk false (.cells true (yC l b 1))), some (.blk true (.map true es))]
theorem round52 (hn : l.ls.length ≤ 10) {i : Nat} {v : Int} (hv : t[i]? = some v) (ht : t.length ≤ 9223372036854775807) {a : Nat} (ha : a < 2 ^ 10) (he : 0 ≤ v ∧ v < 10) :
    headX 0 [5, 8, 21, 22, 23, 27, 28, 29] (execW progX 52 0 none (match x52l0 with | .loop _ a => a | c => c) (envL [5, 8, 21, 22, 23, 27, 28, 29] [.pt 0 0, U a, tR l.ts, I l.ts.length, I (j : Nat), rI t, I t.length, I (i : Nat)]) (hY l b [])) =
      some ([.pt 0 0, U (a ||| 2 ^ v.toNat), tR l.ts, I l.ts.length, I (j : Nat), rI t, I t.length, I (i + 1 : Nat)], hY l (fun x => if x = v.toNat then a else b x) []) := by
  have a1 := lt_ix (lt_of hv)
  have a2 := up_ix (lt_of hv) ht
  have n0 : (v < 0) = False := eq_false (by omega)
  have c1 : (0 ≤ v) = True := eq_true (by omega)
  have c2 : (v < 10) = True := eq_true (by omega)
  have o1 := or_u ha (v := v) (by omega)
  have o2 := or_u1 ha (v := v) (by omega)
  have s1 := yC_set (l := l) (b := b) (m := 1) (k := v.toNat) (a := a) (by omega)
  have s2 : (5 + v.toNat + 1 ≤ 16) = True := eq_true (by omega)
  generalize a ||| 2 ^ v.toNat = a' at *
  unfold x52l0
  dsimp only
  (sym => (simp [yC_nm, yC_rn, yM_s, yC_gr, yC_sl, yC_fz, yC_len, yC_0, yC_1, yC_2, yC_3, yC_4, yC_15, yC_same, Za,Zb,Zc,Zf,Zh,Zl,Zm,Zu,Z1,Z2,Z5,Z6,Z7,ZE,ZI,ZJ,ZX,Ye,Yf,Yh,Yk,Yl,Yp,Yt,Yu,Y4,YD,YE,YJ,YL,YR,Xe,Xi,Xk,Wc,Wp,Ws,Wy,Wz,W0,W4,W5,W7,W8,W9,WB,WE,WF,WG,WH,WM,WN,WO,WS,WT,VC,VD,VE,VF,VG,VL,VM,VN,VO,VP,VR,VS,VT,VU,VV,VW,VZ,Uh,Uk,Ul,Ur,Us,Ut,Uu,Uv,Uw,UR,US,UU,UV,UW,Te,Tf,Th,Tj,Tk,Tn,Tr,Ts,Tt,Tw,Ty,Sl, a1, a2, hv, n0, c1, c2, o1, o2, s1, s2]; all_goals tactic => exact rfl))
end
/-- What is known of a valid line. -/
structure Good (l : Li) : Prop where
  kinds : kindsE l.ks = 0
  few : l.ls.length ≤ 10
  loads : ∀ i, i < l.ls.length → ldEr l i = 0
  tracks : ∀ j, j < l.ts.length → errT l.ls.length (l.ts.getD j []) (accT l.ts j) = 0
  full : pop (accT l.ts l.ts.length) l.ls.length = l.ls.length
  start : inS l.lo l.hi 0 100000 = true
theorem good_of {l : Li} (h : checkL l = 0) : Good l := by
  unfold checkL at h
  by_cases h1 : kindsE l.ks = 0
  · rw [if_pos h1] at h
    by_cases h2 : 10 < l.ls.length
    · rw [if_pos h2] at h; simp at h
    rw [if_neg h2] at h
    by_cases h3 : firstN (ldEr l) l.ls.length = 0
    · rw [if_pos h3] at h
      by_cases h4 : tracksE l.ls.length l.ts = 0
      · rw [if_pos h4] at h
        cases h5 : inS l.lo l.hi 0 100000 with
        | false => rw [h5] at h; simp at h
        | true =>
          unfold tracksE at h4
          by_cases h6 : firstN (fun j => errT l.ls.length (l.ts.getD j []) (accT l.ts j)) l.ts.length = 0
          · rw [if_pos h6] at h4
            have hp := pop_le (accT l.ts l.ts.length) l.ls.length
            refine ⟨h1, by omega, firstN_0 h3, fun j hj => firstN_0 h6 j hj, ?_, h5⟩
            by_cases h7 : pop (accT l.ts l.ts.length) l.ls.length < l.ls.length
            · rw [if_pos h7] at h4; simp at h4
            · omega
          · rw [if_neg h6] at h4
            exact absurd h4 h6
      · rw [if_neg h4] at h
        exact absurd h h4
    · rw [if_neg h3] at h
      exact absurd h h3
  · rw [if_neg h1] at h
    exact absurd h h1
theorem allT_of0 {t : List Int} {n a : Nat} (hn : n ≤ 10) (h : ∀ i, i < t.length → 0 ≤ t.getD i 0 ∧ t.getD i 0 < n) (ha : a < 2 ^ 10) : ∀ m, m ≤ t.length → allT t a m < 2 ^ 10
  | 0, _ => ha
  | m + 1, hm => by
    have := h m (by omega)
    rw [allT]
    exact or_lt (allT_of0 hn h ha m (by omega)) (by omega)
theorem Good.el {l : Li} (g : Good l) {j : Nat} {t : List Int} (ht : l.ts[j]? = some t) {i : Nat} (hi : i < t.length) : 0 ≤ t.getD i 0 ∧ t.getD i 0 < l.ls.length := by
  have h := g.tracks j (lt_of ht)
  rw [getD_of ht] at h
  have h := (errT_0 h).2 i hi
  rcases elE_of (n := l.ls.length) (all := allT t (accT l.ts j) i) (t.getD i 0) with ⟨_, h1, _⟩ | ⟨_, _, _, h4⟩ | ⟨_, h4⟩
  · exact h1
  · rw [h] at h4; simp at h4
  · rw [h] at h4; simp at h4
def w52R (l : Li) : Option (AV × XH) := if checkL l = 0 then some (.tup [.pt 0 0, I 0], hY l (behF l.ts) []) else some (.tup [.nilpt, I (checkL l)], [])
theorem w52 (l : Li) (hf : l.Fit) : runW progX 52 [.agg l.c] [] = w52R l := by
  have e22 := w22 l hf
  unfold w52R
  by_cases h : checkL l = 0
  · rw [if_pos h]
    rw [h] at e22
    have g := good_of h
    have z := UO (n := (l.ts.length : Int))
    have y0 : yC l (fun _ => 0) 1 = [kR l.ks, lR l.ls, tR l.ts, I l.lo, I l.hi, U 0, U 0, U 0, U 0, U 0, U 0, U 0, U 0, U 0, U 0, .mp 1] := rfl
    have rd : ∀ j, j < l.ts.length → headX 0 [5, 21, 22, 23] (execW progX 52 0 none (match x52l1 with | .loop _ a => a | c => c) (envL [5, 21, 22, 23] [.pt 0 0, tR l.ts, I l.ts.length, I (j : Nat)]) (hY l (bA l.ts j) [])) = some ([.pt 0 0, tR l.ts, I l.ts.length, I (j + 1 : Nat)], hY l (bA l.ts (j + 1)) []) := by
      intro j hj
      obtain ⟨t, ht⟩ := at_ix hj
      have b1 := lt_ix hj
      have b2 := up_ix hj hf.ts
      have hth := hf.each t (List.mem_of_getElem? ht)
      have z := UO (n := (t.length : Int))
      have hel := fun i hi => g.el ht (i := i) hi
      have al0 : allT t 0 0 = 0 := rfl
      rw [bA, getD_of ht]
      generalize bA l.ts j = b
      have bt0 : bT t b 0 = b := rfl
      have rdi : ∀ i, i < t.length → headX 0 [5, 8, 21, 22, 23, 27, 28, 29] (execW progX 52 0 none (match x52l0 with | .loop _ a => a | c => c) (envL [5, 8, 21, 22, 23, 27, 28, 29] [.pt 0 0, U (allT t 0 i), tR l.ts, I l.ts.length, I (j : Nat), rI t, I t.length, I (i : Nat)]) (hY l (bT t b i) [])) = some ([.pt 0 0, U (allT t 0 (i + 1)), tR l.ts, I l.ts.length, I (j : Nat), rI t, I t.length, I (i + 1 : Nat)], hY l (bT t b (i + 1)) []) := by
        intro i hi
        obtain ⟨v, hv⟩ := at_ix hi
        have hv2 := hel i hi
        rw [bT, allT]
        rw [getD_of hv] at hv2 ⊢
        have := g.few
        exact round52 g.few hv hth (allT_of0 g.few hel (by omega) i (by omega)) (by omega)
      unfold x52l1
      dsimp only
      sym =>
        simp [yC_nm, yC_rn, yM_s, yC_gr, yC_sl, yC_fz, yC_len, yC_0, yC_1, yC_2, yC_3, yC_4, yC_15, yC_same, Za,Zb,Zd,Ze,Zf,Zg,Zh,Zj,Zl,Zm,Zn,Zu,Zy,Zz,Z2,Z5,Z7,Z9,ZC,ZE,ZM,ZN,ZR,ZS,ZX,ZZ,Ye,Yf,Yh,Yo,Yp,Yt,Yu,Yx,YC,YE,YG,YH,YJ,YL,YM,YO,YR,YU,YV,YZ,Xe,Xg,Xh,Xi,Xk,Xl,Xn,Xq,Xt,Xw,Xy,XP,XU,XV,XW,XX,XZ,We,Wi,Wp,Wq,Wr,Wt,Wu,Wv,Ww,Wx,Wy,Wz,W0,W4,W5,W7,W8,W9,WA,WB,WC,WE,WF,WG,WH,WI,WJ,WM,WN,WO,WS,WT,WV,WW,WX,Vi,Vk,Vl,Vn,Vo,Vq,Vw,Vx,Vz,V0,V1,V2,V5,V6,V7,V8,V9,VB,VC,VD,VE,VF,VG,VH,VI,VK,VL,VM,VN,VO,VP,VR,VS,VT,VU,VV,VW,VZ,Ub,Uc,Ud,Uh,Uk,Ul,Um,Uq,Ur,Us,Ut,Uu,Uv,Uw,Ux,Uy,U1,U2,U3,U4,U5,U6,U9,UA,UF,UO,UP,UQ,UR,US,UT,UU,UZ,Te,Tf,Tg,Th,Ti,Tj,Tk,Tl,Tm,Tn,Tq,Tr,Ts,Tt,Ty,Sc,Sn,Sq,Sr, b1, ht]
        tactic =>
          unfold x52l0
          rw [loop_rule t.length (fun i => [.pt 0 0, U (allT t 0 i), tR l.ts, I l.ts.length, I (j : Nat), rI t, I t.length, I (i : Nat)]) (fun i => hY l (bT t b i) [])]
          · (sym => (simp [yC_nm, yC_rn, yM_s, yC_gr, yC_sl, yC_fz, yC_len, yC_0, yC_1, yC_2, yC_3, yC_4, yC_15, yC_same, Za,Zb,Zd,Ze,Zf,Zg,Zh,Zj,Zl,Zm,Zn,Zu,Zy,Zz,Z2,Z5,Z7,Z9,ZC,ZE,ZM,ZN,ZR,ZS,ZX,ZZ,Ye,Yf,Yh,Yo,Yp,Yt,Yu,Yx,YC,YE,YG,YH,YJ,YL,YM,YO,YR,YU,YV,YZ,Xe,Xg,Xh,Xi,Xk,Xl,Xn,Xq,Xt,Xw,Xy,XP,XU,XV,XW,XX,XZ,We,Wi,Wp,Wq,Wr,Wt,Wu,Wv,Ww,Wx,Wy,Wz,W0,W4,W5,W7,W8,W9,WA,WB,WC,WE,WF,WG,WH,WI,WJ,WM,WN,WO,WS,WT,WV,WW,WX,Vi,Vk,Vl,Vn,Vo,Vq,Vw,Vx,Vz,V0,V1,V2,V5,V6,V7,V8,V9,VB,VC,VD,VE,VF,VG,VH,VI,VK,VL,VM,VN,VO,VP,VR,VS,VT,VU,VV,VW,VZ,Ub,Uc,Ud,Uh,Uk,Ul,Um,Uq,Ur,Us,Ut,Uu,Uv,Uw,Ux,Uy,U1,U2,U3,U4,U5,U6,U9,UA,UF,UO,UP,UQ,UR,US,UT,UU,UZ,Te,Tf,Tg,Th,Ti,Tj,Tk,Tl,Tm,Tn,Tq,Tr,Ts,Tt,Ty,Sc,Sn,Sq,Sr, b1, b2, z]; all_goals tactic => exact rfl))
          · (sym => (simp [yC_nm, yC_rn, yM_s, yC_gr, yC_sl, yC_fz, yC_len, yC_0, yC_1, yC_2, yC_3, yC_4, yC_15, yC_same, Za,Zb,Zd,Ze,Zf,Zg,Zh,Zj,Zl,Zm,Zn,Zu,Zy,Zz,Z2,Z5,Z7,Z9,ZC,ZE,ZM,ZN,ZR,ZS,ZX,ZZ,Ye,Yf,Yh,Yo,Yp,Yt,Yu,Yx,YC,YE,YG,YH,YJ,YL,YM,YO,YR,YU,YV,YZ,Xe,Xg,Xh,Xi,Xk,Xl,Xn,Xq,Xt,Xw,Xy,XP,XU,XV,XW,XX,XZ,We,Wi,Wp,Wq,Wr,Wt,Wu,Wv,Ww,Wx,Wy,Wz,W0,W4,W5,W7,W8,W9,WA,WB,WC,WE,WF,WG,WH,WI,WJ,WM,WN,WO,WS,WT,WV,WW,WX,Vi,Vk,Vl,Vn,Vo,Vq,Vw,Vx,Vz,V0,V1,V2,V5,V6,V7,V8,V9,VB,VC,VD,VE,VF,VG,VH,VI,VK,VL,VM,VN,VO,VP,VR,VS,VT,VU,VV,VW,VZ,Ub,Uc,Ud,Uh,Uk,Ul,Um,Uq,Ur,Us,Ut,Uu,Uv,Uw,Ux,Uy,U1,U2,U3,U4,U5,U6,U9,UA,UF,UO,UP,UQ,UR,US,UT,UU,UZ,Te,Tf,Tg,Th,Ti,Tj,Tk,Tl,Tm,Tn,Tq,Tr,Ts,Tt,Ty,Sc,Sn,Sq,Sr, al0, bt0]; all_goals tactic => exact rfl))
          · exact rdi
          · (sym => (simp [yC_nm, yC_rn, yM_s, yC_gr, yC_sl, yC_fz, yC_len, yC_0, yC_1, yC_2, yC_3, yC_4, yC_15, yC_same, Za,Zb,Zd,Ze,Zf,Zg,Zh,Zj,Zl,Zm,Zn,Zu,Zy,Zz,Z2,Z5,Z7,Z9,ZC,ZE,ZM,ZN,ZR,ZS,ZX,ZZ,Ye,Yf,Yh,Yo,Yp,Yt,Yu,Yx,YC,YE,YG,YH,YJ,YL,YM,YO,YR,YU,YV,YZ,Xe,Xg,Xh,Xi,Xk,Xl,Xn,Xq,Xt,Xw,Xy,XP,XU,XV,XW,XX,XZ,We,Wi,Wp,Wq,Wr,Wt,Wu,Wv,Ww,Wx,Wy,Wz,W0,W4,W5,W7,W8,W9,WA,WB,WC,WE,WF,WG,WH,WI,WJ,WM,WN,WO,WS,WT,WV,WW,WX,Vi,Vk,Vl,Vn,Vo,Vq,Vw,Vx,Vz,V0,V1,V2,V5,V6,V7,V8,V9,VB,VC,VD,VE,VF,VG,VH,VI,VK,VL,VM,VN,VO,VP,VR,VS,VT,VU,VV,VW,VZ,Ub,Uc,Ud,Uh,Uk,Ul,Um,Uq,Ur,Us,Ut,Uu,Uv,Uw,Ux,Uy,U1,U2,U3,U4,U5,U6,U9,UA,UF,UO,UP,UQ,UR,US,UT,UU,UZ,Te,Tf,Tg,Th,Ti,Tj,Tk,Tl,Tm,Tn,Tq,Tr,Ts,Tt,Ty,Sc,Sn,Sq,Sr, z]; all_goals tactic => exact rfl))
    rw [r52 (by simp)]; unfold x52; dsimp only
    sym =>
      simp [yC_nm, yC_rn, yM_s, yC_gr, yC_sl, yC_fz, yC_len, yC_0, yC_1, yC_2, yC_3, yC_4, yC_15, yC_same, Za,Zb,Zd,Ze,Zf,Zg,Zh,Zj,Zl,Zm,Zn,Zu,Zy,Zz,Z2,Z5,Z7,Z9,ZC,ZE,ZM,ZN,ZR,ZS,ZX,ZZ,Ye,Yf,Yh,Yo,Yp,Yt,Yu,Yx,YC,YE,YG,YH,YJ,YL,YM,YO,YR,YU,YV,YZ,Xe,Xg,Xh,Xi,Xk,Xl,Xn,Xq,Xt,Xw,Xy,XP,XU,XV,XW,XX,XZ,We,Wi,Wp,Wq,Wr,Wt,Wu,Wv,Ww,Wx,Wy,Wz,W0,W4,W5,W7,W8,W9,WA,WB,WC,WE,WF,WG,WH,WI,WJ,WM,WN,WO,WS,WT,WV,WW,WX,Vi,Vk,Vl,Vn,Vo,Vq,Vw,Vx,Vz,V0,V1,V2,V5,V6,V7,V8,V9,VB,VC,VD,VE,VF,VG,VH,VI,VK,VL,VM,VN,VO,VP,VR,VS,VT,VU,VV,VW,VZ,Ub,Uc,Ud,Uh,Uk,Ul,Um,Uq,Ur,Us,Ut,Uu,Uv,Uw,Ux,Uy,U1,U2,U3,U4,U5,U6,U9,UA,UF,UO,UP,UQ,UR,US,UT,UU,UZ,Te,Tf,Tg,Th,Ti,Tj,Tk,Tl,Tm,Tn,Tq,Tr,Ts,Tt,Ty,Sc,Sn,Sq,Sr, e22]
      tactic =>
        unfold x52l1
        rw [loop_rule l.ts.length (fun j => [.pt 0 0, tR l.ts, I l.ts.length, I (j : Nat)]) (fun j => hY l (bA l.ts j) [])]
        · (sym => (simp [yC_nm, yC_rn, yM_s, yC_gr, yC_sl, yC_fz, yC_len, yC_0, yC_1, yC_2, yC_3, yC_4, yC_15, yC_same, Za,Zb,Zd,Ze,Zf,Zg,Zh,Zj,Zl,Zm,Zn,Zu,Zy,Zz,Z2,Z5,Z7,Z9,ZC,ZE,ZM,ZN,ZR,ZS,ZX,ZZ,Ye,Yf,Yh,Yo,Yp,Yt,Yu,Yx,YC,YE,YG,YH,YJ,YL,YM,YO,YR,YU,YV,YZ,Xe,Xg,Xh,Xi,Xk,Xl,Xn,Xq,Xt,Xw,Xy,XP,XU,XV,XW,XX,XZ,We,Wi,Wp,Wq,Wr,Wt,Wu,Wv,Ww,Wx,Wy,Wz,W0,W4,W5,W7,W8,W9,WA,WB,WC,WE,WF,WG,WH,WI,WJ,WM,WN,WO,WS,WT,WV,WW,WX,Vi,Vk,Vl,Vn,Vo,Vq,Vw,Vx,Vz,V0,V1,V2,V5,V6,V7,V8,V9,VB,VC,VD,VE,VF,VG,VH,VI,VK,VL,VM,VN,VO,VP,VR,VS,VT,VU,VV,VW,VZ,Ub,Uc,Ud,Uh,Uk,Ul,Um,Uq,Ur,Us,Ut,Uu,Uv,Uw,Ux,Uy,U1,U2,U3,U4,U5,U6,U9,UA,UF,UO,UP,UQ,UR,US,UT,UU,UZ,Te,Tf,Tg,Th,Ti,Tj,Tk,Tl,Tm,Tn,Tq,Tr,Ts,Tt,Ty,Sc,Sn,Sq,Sr, z, behF.eq_1]; all_goals tactic => exact rfl))
        · (sym => (simp [yC_nm, yC_rn, yM_s, yC_gr, yC_sl, yC_fz, yC_len, yC_0, yC_1, yC_2, yC_3, yC_4, yC_15, yC_same, Za,Zb,Zd,Ze,Zf,Zg,Zh,Zj,Zl,Zm,Zn,Zu,Zy,Zz,Z2,Z5,Z7,Z9,ZC,ZE,ZM,ZN,ZR,ZS,ZX,ZZ,Ye,Yf,Yh,Yo,Yp,Yt,Yu,Yx,YC,YE,YG,YH,YJ,YL,YM,YO,YR,YU,YV,YZ,Xe,Xg,Xh,Xi,Xk,Xl,Xn,Xq,Xt,Xw,Xy,XP,XU,XV,XW,XX,XZ,We,Wi,Wp,Wq,Wr,Wt,Wu,Wv,Ww,Wx,Wy,Wz,W0,W4,W5,W7,W8,W9,WA,WB,WC,WE,WF,WG,WH,WI,WJ,WM,WN,WO,WS,WT,WV,WW,WX,Vi,Vk,Vl,Vn,Vo,Vq,Vw,Vx,Vz,V0,V1,V2,V5,V6,V7,V8,V9,VB,VC,VD,VE,VF,VG,VH,VI,VK,VL,VM,VN,VO,VP,VR,VS,VT,VU,VV,VW,VZ,Ub,Uc,Ud,Uh,Uk,Ul,Um,Uq,Ur,Us,Ut,Uu,Uv,Uw,Ux,Uy,U1,U2,U3,U4,U5,U6,U9,UA,UF,UO,UP,UQ,UR,US,UT,UU,UZ,Te,Tf,Tg,Th,Ti,Tj,Tk,Tl,Tm,Tn,Tq,Tr,Ts,Tt,Ty,Sc,Sn,Sq,Sr, bA.eq_1, y0]; all_goals tactic => exact rfl))
        · exact rd
        · (sym => (simp [yC_nm, yC_rn, yM_s, yC_gr, yC_sl, yC_fz, yC_len, yC_0, yC_1, yC_2, yC_3, yC_4, yC_15, yC_same, Za,Zb,Zd,Ze,Zf,Zg,Zh,Zj,Zl,Zm,Zn,Zu,Zy,Zz,Z2,Z5,Z7,Z9,ZC,ZE,ZM,ZN,ZR,ZS,ZX,ZZ,Ye,Yf,Yh,Yo,Yp,Yt,Yu,Yx,YC,YE,YG,YH,YJ,YL,YM,YO,YR,YU,YV,YZ,Xe,Xg,Xh,Xi,Xk,Xl,Xn,Xq,Xt,Xw,Xy,XP,XU,XV,XW,XX,XZ,We,Wi,Wp,Wq,Wr,Wt,Wu,Wv,Ww,Wx,Wy,Wz,W0,W4,W5,W7,W8,W9,WA,WB,WC,WE,WF,WG,WH,WI,WJ,WM,WN,WO,WS,WT,WV,WW,WX,Vi,Vk,Vl,Vn,Vo,Vq,Vw,Vx,Vz,V0,V1,V2,V5,V6,V7,V8,V9,VB,VC,VD,VE,VF,VG,VH,VI,VK,VL,VM,VN,VO,VP,VR,VS,VT,VU,VV,VW,VZ,Ub,Uc,Ud,Uh,Uk,Ul,Um,Uq,Ur,Us,Ut,Uu,Uv,Uw,Ux,Uy,U1,U2,U3,U4,U5,U6,U9,UA,UF,UO,UP,UQ,UR,US,UT,UU,UZ,Te,Tf,Tg,Th,Ti,Tj,Tk,Tl,Tm,Tn,Tq,Tr,Ts,Tt,Ty,Sc,Sn,Sq,Sr, z]; all_goals tactic => exact rfl))
  · rw [if_neg h]
    have g := eq_false h
    rw [r52 (by simp)]; unfold x52; dsimp only
    (sym => (simp [yC_nm, yC_rn, yM_s, yC_gr, yC_sl, yC_fz, yC_len, yC_0, yC_1, yC_2, yC_3, yC_4, yC_15, yC_same, Za,Zb,Zd,Ze,Zf,Zg,Zh,Zj,Zl,Zm,Zn,Zu,Zy,Zz,Z2,Z5,Z7,Z9,ZC,ZE,ZM,ZN,ZR,ZS,ZX,ZZ,Ye,Yf,Yh,Yo,Yp,Yt,Yu,Yx,YC,YE,YG,YH,YJ,YL,YM,YO,YR,YU,YV,YZ,Xe,Xg,Xh,Xi,Xk,Xl,Xn,Xq,Xt,Xw,Xy,XP,XU,XV,XW,XX,XZ,We,Wi,Wp,Wq,Wr,Wt,Wu,Wv,Ww,Wx,Wy,Wz,W0,W4,W5,W7,W8,W9,WA,WB,WC,WE,WF,WG,WH,WI,WJ,WM,WN,WO,WS,WT,WV,WW,WX,Vi,Vk,Vl,Vn,Vo,Vq,Vw,Vx,Vz,V0,V1,V2,V5,V6,V7,V8,V9,VB,VC,VD,VE,VF,VG,VH,VI,VK,VL,VM,VN,VO,VP,VR,VS,VT,VU,VV,VW,VZ,Ub,Uc,Ud,Uh,Uk,Ul,Um,Uq,Ur,Us,Ut,Uu,Uv,Uw,Ux,Uy,U1,U2,U3,U4,U5,U6,U9,UA,UF,UO,UP,UQ,UR,US,UT,UU,UZ,Te,Tf,Tg,Th,Ti,Tj,Tk,Tl,Tm,Tn,Tq,Tr,Ts,Tt,Ty,Sc,Sn,Sq,Sr, e22, g]; all_goals tactic => exact rfl))
end Go.Proofs.YtpbeclkpohehgaaDoor
namespace Go.Proofs.YtpbeclkpohehgaaDoor
open Go Go.DL
set_option maxRecDepth 100000
set_option maxHeartbeats 2000000

section
variable {l : Li} {b : Nat → Nat} {o : List Int} {es : List (AV × AV)} {a : Nat}
theorem neg_dif {k : IntKind} (hk : big k) {x a : Nat} (hx : x < 2 ^ 63) (ha : a < 2 ^ 63) (h : dif x a = 0) : (bitsA .andNot k (x : Int) (a : Int) = 0) = True := by
  rw [bits_dif hk hx ha, h]; exact eq_true rfl
theorem pos_dif {k : IntKind} (hk : big k) {x a : Nat} (hx : x < 2 ^ 63) (ha : a < 2 ^ 63) (h : ¬ dif x a = 0) : (bitsA .andNot k (x : Int) (a : Int) = 0) = False := by
  rw [bits_dif hk hx ha]; exact eq_false (by omega)
end
end Go.Proofs.YtpbeclkpohehgaaDoor
namespace Go.Proofs.YtpbeclkpohehgaaDoor
open Go Go.DL
set_option maxRecDepth 100000
set_option maxHeartbeats 2000000

def bL (n : Nat) (b : Nat → Nat) : List Int := (List.range n).map fun k => (b k : Int)
theorem bL_len (n : Nat) (b : Nat → Nat) : (bL n b).length = n := by simp [bL]
theorem bL_get {n k : Nat} {b : Nat → Nat} (h : k < n) : (bL n b)[k]? = some (b k : Int) := by
  unfold bL
  rw [List.getElem?_map, List.getElem?_range h]; rfl
theorem bL_set {n k : Nat} {b : Nat → Nat} {a : Nat} (h : k < n) : setX (bL n b) k (a : Int) = bL n (fun x => if x = k then a else b x) := by
  rw [setX_set (by rw [bL_len]; exact h)]
  apply List.ext_getElem
  · simp [bL]
  · intro i h1 h2
    rw [List.getElem_set]
    simp only [bL, List.getElem_map, List.getElem_range]
    by_cases hk : k = i
    · simp [hk]
    · rw [if_neg hk, if_neg (Ne.symm hk)]
theorem bL_0 (n : Nat) : List.replicate n (0 : Int) = bL n (fun _ => 0) := by
  apply List.ext_getElem
  · simp [bL]
  · intro i h1 h2
    simp [bL]
theorem bL_ch (n : Nat) (b : Nat → Nat) : chunks ((bL n b).map I) 0 1 n = (bL n b).map fun v => [I v] := by
  have := T2 (hs := bL n b)
  rw [bL_len] at this
  exact this
theorem or_i {a : Nat} (ha : a < 2 ^ 10) {v : Int} (h : 0 ≤ v ∧ v < 10) : bitsA .or .i64 (a : Int) (IntKind.i64.wrap (1 * 2 ^ min v.toNat IntKind.i64.bits)) = ((a ||| 2 ^ v.toNat : Nat) : Int) := by
  rw [shl_one big_i (by omega), bits_or big_i (lo_63 ha) (Nat.pow_lt_pow_right (by omega) (by omega))]
theorem or_i1 {a : Nat} (ha : a < 2 ^ 10) {v : Int} (h : 0 ≤ v ∧ v < 10) : bitsA .or .i64 (a : Int) (IntKind.i64.wrap (2 ^ min v.toNat IntKind.i64.bits)) = ((a ||| 2 ^ v.toNat : Nat) : Int) := by
  rw [shl_1 big_i (by omega), bits_or big_i (lo_63 ha) (Nat.pow_lt_pow_right (by omega) (by omega))]
section
variable {l : Li} {b : Nat → Nat} {t : List Int} {j : Nat}
abbrev hR (l : Li) (b : Nat → Nat) : XH := [some (.blk true (.cells true l.c)), some (.blk true (.cells true ((bL l.ls.length b).map I)))]
theorem round76 (hn : l.ls.length ≤ 10) (ht : l.ts[j]? = some t) {i : Nat} {v : Int} (hv : t[i]? = some v) (hth : t.length ≤ 9223372036854775807) {a : Nat} (ha : a < 2 ^ 10) (he : 0 ≤ v ∧ v < l.ls.length) :
    headX 0 [1, 3, 4, 5, 6] (execW progX 76 0 none (match x76l0 with | .loop _ a => a | c => c) (envL [1, 3, 4, 5, 6] [.pt 0 0, .sl 1 0 1 l.ls.length, I (j : Nat), I a, I (i : Nat)]) (hR l b)) =
      some ([.pt 0 0, .sl 1 0 1 l.ls.length, I (j : Nat), I (a ||| 2 ^ v.toNat : Nat), I (i + 1 : Nat)], hR l (fun x => if x = v.toNat then a else b x)) := by
  have b1 := lt_ix (lt_of ht)
  have a1 := lt_ix (lt_of hv)
  have a2 := up_ix (lt_of hv) hth
  have n0 : (v < 0) = False := eq_false (by omega)
  have c1 : (0 ≤ v) = True := eq_true (by omega)
  have c2 : (v < (l.ls.length : Int)) = True := eq_true (by omega)
  have o1 := or_i ha (v := v) (by omega)
  have o2 := or_i1 ha (v := v) (by omega)
  have s1 := bL_set (n := l.ls.length) (b := b) (k := v.toNat) (a := a) (by omega)
  have s2 : (v.toNat + 1 ≤ (bL l.ls.length b).length) = True := eq_true (by rw [bL_len]; omega)
  generalize a ||| 2 ^ v.toNat = a' at *
  unfold x76l0
  dsimp only
  (sym => (simp [Za,Zb,Zc,Zf,Zh,Zl,Zm,Zu,Z2,Z5,Z7,ZC,ZE,ZI,ZJ,ZX,ZZ,Yc,Ye,Yf,Yh,Yk,Yl,Yp,Yt,Yu,YE,YK,YL,YR,Xe,Xj,Xk,Wc,Wp,Wq,Wr,Ws,Wy,Wz,W0,W4,W5,W7,W8,W9,WB,WE,WF,WG,WH,WM,WN,WS,VC,VD,VE,VF,VG,VL,VM,VN,VO,VP,VR,VS,VT,VU,VV,VW,VZ,Uh,Uk,Ul,Ur,Us,Ut,Uu,Uv,Uw,UP,UQ,UR,US,UU,UV,UW,Te,Tf,Th,Tj,Tk,Tn,Tr,Ts,Tt,Tw,Tx,Ty,T0, b1, a1, a2, ht, hv, n0, c1, c2, o1, o2, s1, s2]; all_goals tactic => exact rfl))
end
theorem w76 {l : Li} (hf : l.Fit) (g : Good l) : runW progX 76 [.agg l.c] [] = some (rI (bL l.ls.length (behF l.ts)), []) := by
  have z := UO (n := (l.ts.length : Int))
  have hn := g.few
  have k1 : (0 ≤ (l.ls.length : Int)) = True := eq_true (by omega)
  have k2 : (8 * (l.ls.length : Int) ≤ 281474976710656) = True := eq_true (by omega)
  have k3 : ((l.ls.length : Int) ≤ 9223372036854775807) = True := eq_true (by omega)
  have k4 : ((l.ls.length : Int) ≤ (l.ls.length : Int)) = True := eq_true (by omega)
  have r0 := bL_0 l.ls.length
  have rd : ∀ j, j < l.ts.length → headX 0 [1, 3, 4] (execW progX 76 0 none (match x76l1 with | .loop _ a => a | c => c) (envL [1, 3, 4] [.pt 0 0, .sl 1 0 1 l.ls.length, I (j : Nat)]) (hR l (bA l.ts j))) = some ([.pt 0 0, .sl 1 0 1 l.ls.length, I (j + 1 : Nat)], hR l (bA l.ts (j + 1))) := by
    intro j hj
    obtain ⟨t, ht⟩ := at_ix hj
    have b1 := lt_ix hj
    have b2 := up_ix hj hf.ts
    have hth := hf.each t (List.mem_of_getElem? ht)
    have z := UO (n := (t.length : Int))
    have hel := fun i hi => g.el ht (i := i) hi
    have al0 : allT t 0 0 = 0 := rfl
    rw [bA, getD_of ht]
    generalize bA l.ts j = b
    have bt0 : bT t b 0 = b := rfl
    have rdi : ∀ i, i < t.length → headX 0 [1, 3, 4, 5, 6] (execW progX 76 0 none (match x76l0 with | .loop _ a => a | c => c) (envL [1, 3, 4, 5, 6] [.pt 0 0, .sl 1 0 1 l.ls.length, I (j : Nat), I (allT t 0 i), I (i : Nat)]) (hR l (bT t b i))) = some ([.pt 0 0, .sl 1 0 1 l.ls.length, I (j : Nat), I (allT t 0 (i + 1)), I (i + 1 : Nat)], hR l (bT t b (i + 1))) := by
      intro i hi
      obtain ⟨v, hv⟩ := at_ix hi
      have hv2 := hel i hi
      rw [bT, allT]
      rw [getD_of hv] at hv2 ⊢
      exact round76 g.few ht hv hth (allT_of0 g.few hel (by omega) i (by omega)) (by omega)
    unfold x76l1
    dsimp only
    sym =>
      simp [Za,Zb,Zf,Zh,Zl,Zm,Zn,Zu,Zy,Z2,Z5,Z7,Z8,ZC,ZE,ZX,ZZ,Ye,Yf,Yh,Yp,Yt,Yu,Yx,Y3,YE,YJ,YK,YL,YR,YU,YV,Xe,Xi,Xj,Xk,Xv,XL,XP,XU,XW,We,Wp,Wq,Wr,Ws,Wx,Wy,Wz,W0,W4,W5,W7,W8,W9,WB,WE,WF,WG,WH,WM,WN,WS,Vf,Vg,Vh,Vi,Vj,Vs,Vu,Vw,Vx,Vz,V0,V1,V2,V3,V6,V7,V8,V9,VB,VC,VD,VE,VF,VG,VH,VI,VK,VL,VM,VN,VO,VP,VR,VS,VT,VU,VV,VW,VZ,Uh,Uk,Ul,Um,Ur,Us,Ut,Uu,Uv,Uw,U1,U2,U9,UA,UG,UH,UO,UP,UQ,UR,US,UU,UZ,Te,Tf,Tg,Th,Ti,Tj,Tk,Tl,Tn,Tq,Tr,Ts,Tt,Tw,Tx,Ty,T4,Sc,Sd,Se, b1]
      tactic =>
        unfold x76l0
        rw [loop_rule t.length (fun i => [.pt 0 0, .sl 1 0 1 l.ls.length, I (j : Nat), I (allT t 0 i), I (i : Nat)]) (fun i => hR l (bT t b i))]
        · (sym => (simp [Za,Zb,Zf,Zh,Zl,Zm,Zn,Zu,Zy,Z2,Z5,Z7,Z8,ZC,ZE,ZX,ZZ,Ye,Yf,Yh,Yp,Yt,Yu,Yx,Y3,YE,YJ,YK,YL,YR,YU,YV,Xe,Xi,Xj,Xk,Xv,XL,XP,XU,XW,We,Wp,Wq,Wr,Ws,Wx,Wy,Wz,W0,W4,W5,W7,W8,W9,WB,WE,WF,WG,WH,WM,WN,WS,Vf,Vg,Vh,Vi,Vj,Vs,Vu,Vw,Vx,Vz,V0,V1,V2,V3,V6,V7,V8,V9,VB,VC,VD,VE,VF,VG,VH,VI,VK,VL,VM,VN,VO,VP,VR,VS,VT,VU,VV,VW,VZ,Uh,Uk,Ul,Um,Ur,Us,Ut,Uu,Uv,Uw,U1,U2,U9,UA,UG,UH,UO,UP,UQ,UR,US,UU,UZ,Te,Tf,Tg,Th,Ti,Tj,Tk,Tl,Tn,Tq,Tr,Ts,Tt,Tw,Tx,Ty,T4,Sc,Sd,Se, b1, b2, ht, z]; all_goals tactic => exact rfl))
        · (sym => (simp [Za,Zb,Zf,Zh,Zl,Zm,Zn,Zu,Zy,Z2,Z5,Z7,Z8,ZC,ZE,ZX,ZZ,Ye,Yf,Yh,Yp,Yt,Yu,Yx,Y3,YE,YJ,YK,YL,YR,YU,YV,Xe,Xi,Xj,Xk,Xv,XL,XP,XU,XW,We,Wp,Wq,Wr,Ws,Wx,Wy,Wz,W0,W4,W5,W7,W8,W9,WB,WE,WF,WG,WH,WM,WN,WS,Vf,Vg,Vh,Vi,Vj,Vs,Vu,Vw,Vx,Vz,V0,V1,V2,V3,V6,V7,V8,V9,VB,VC,VD,VE,VF,VG,VH,VI,VK,VL,VM,VN,VO,VP,VR,VS,VT,VU,VV,VW,VZ,Uh,Uk,Ul,Um,Ur,Us,Ut,Uu,Uv,Uw,U1,U2,U9,UA,UG,UH,UO,UP,UQ,UR,US,UU,UZ,Te,Tf,Tg,Th,Ti,Tj,Tk,Tl,Tn,Tq,Tr,Ts,Tt,Tw,Tx,Ty,T4,Sc,Sd,Se, al0, bt0]; all_goals tactic => exact rfl))
        · exact rdi
        · (sym => (simp [Za,Zb,Zf,Zh,Zl,Zm,Zn,Zu,Zy,Z2,Z5,Z7,Z8,ZC,ZE,ZX,ZZ,Ye,Yf,Yh,Yp,Yt,Yu,Yx,Y3,YE,YJ,YK,YL,YR,YU,YV,Xe,Xi,Xj,Xk,Xv,XL,XP,XU,XW,We,Wp,Wq,Wr,Ws,Wx,Wy,Wz,W0,W4,W5,W7,W8,W9,WB,WE,WF,WG,WH,WM,WN,WS,Vf,Vg,Vh,Vi,Vj,Vs,Vu,Vw,Vx,Vz,V0,V1,V2,V3,V6,V7,V8,V9,VB,VC,VD,VE,VF,VG,VH,VI,VK,VL,VM,VN,VO,VP,VR,VS,VT,VU,VV,VW,VZ,Uh,Uk,Ul,Um,Ur,Us,Ut,Uu,Uv,Uw,U1,U2,U9,UA,UG,UH,UO,UP,UQ,UR,US,UU,UZ,Te,Tf,Tg,Th,Ti,Tj,Tk,Tl,Tn,Tq,Tr,Ts,Tt,Tw,Tx,Ty,T4,Sc,Sd,Se, b1, ht, z]; all_goals tactic => exact rfl))
  have ch := bL_ch l.ls.length (behF l.ts)
  have s2 : (l.ls.length ≤ (bL l.ls.length (behF l.ts)).length) = True := eq_true (by rw [bL_len]; omega)
  have eb : bA l.ts l.ts.length = behF l.ts := rfl
  rw [r76 (by simp)]; unfold x76; dsimp only
  sym =>
    simp [Za,Zb,Zf,Zh,Zl,Zm,Zn,Zu,Zy,Z2,Z5,Z7,Z8,ZC,ZE,ZX,ZZ,Ye,Yf,Yh,Yp,Yt,Yu,Yx,Y3,YE,YJ,YK,YL,YR,YU,YV,Xe,Xi,Xj,Xk,Xv,XL,XP,XU,XW,We,Wp,Wq,Wr,Ws,Wx,Wy,Wz,W0,W4,W5,W7,W8,W9,WB,WE,WF,WG,WH,WM,WN,WS,Vf,Vg,Vh,Vi,Vj,Vs,Vu,Vw,Vx,Vz,V0,V1,V2,V3,V6,V7,V8,V9,VB,VC,VD,VE,VF,VG,VH,VI,VK,VL,VM,VN,VO,VP,VR,VS,VT,VU,VV,VW,VZ,Uh,Uk,Ul,Um,Ur,Us,Ut,Uu,Uv,Uw,U1,U2,U9,UA,UG,UH,UO,UP,UQ,UR,US,UU,UZ,Te,Tf,Tg,Th,Ti,Tj,Tk,Tl,Tn,Tq,Tr,Ts,Tt,Tw,Tx,Ty,T4,Sc,Sd,Se, k1, k2, k3, k4, r0]
    tactic =>
      unfold x76l1
      rw [loop_rule l.ts.length (fun j => [.pt 0 0, .sl 1 0 1 l.ls.length, I (j : Nat)]) (fun j => hR l (bA l.ts j))]
      · (sym => (simp [Za,Zb,Zf,Zh,Zl,Zm,Zn,Zu,Zy,Z2,Z5,Z7,Z8,ZC,ZE,ZX,ZZ,Ye,Yf,Yh,Yp,Yt,Yu,Yx,Y3,YE,YJ,YK,YL,YR,YU,YV,Xe,Xi,Xj,Xk,Xv,XL,XP,XU,XW,We,Wp,Wq,Wr,Ws,Wx,Wy,Wz,W0,W4,W5,W7,W8,W9,WB,WE,WF,WG,WH,WM,WN,WS,Vf,Vg,Vh,Vi,Vj,Vs,Vu,Vw,Vx,Vz,V0,V1,V2,V3,V6,V7,V8,V9,VB,VC,VD,VE,VF,VG,VH,VI,VK,VL,VM,VN,VO,VP,VR,VS,VT,VU,VV,VW,VZ,Uh,Uk,Ul,Um,Ur,Us,Ut,Uu,Uv,Uw,U1,U2,U9,UA,UG,UH,UO,UP,UQ,UR,US,UU,UZ,Te,Tf,Tg,Th,Ti,Tj,Tk,Tl,Tn,Tq,Tr,Ts,Tt,Tw,Tx,Ty,T4,Sc,Sd,Se, z, eb, ch, s2]; all_goals tactic => exact rfl))
      · (sym => (simp [Za,Zb,Zf,Zh,Zl,Zm,Zn,Zu,Zy,Z2,Z5,Z7,Z8,ZC,ZE,ZX,ZZ,Ye,Yf,Yh,Yp,Yt,Yu,Yx,Y3,YE,YJ,YK,YL,YR,YU,YV,Xe,Xi,Xj,Xk,Xv,XL,XP,XU,XW,We,Wp,Wq,Wr,Ws,Wx,Wy,Wz,W0,W4,W5,W7,W8,W9,WB,WE,WF,WG,WH,WM,WN,WS,Vf,Vg,Vh,Vi,Vj,Vs,Vu,Vw,Vx,Vz,V0,V1,V2,V3,V6,V7,V8,V9,VB,VC,VD,VE,VF,VG,VH,VI,VK,VL,VM,VN,VO,VP,VR,VS,VT,VU,VV,VW,VZ,Uh,Uk,Ul,Um,Ur,Us,Ut,Uu,Uv,Uw,U1,U2,U9,UA,UG,UH,UO,UP,UQ,UR,US,UU,UZ,Te,Tf,Tg,Th,Ti,Tj,Tk,Tl,Tn,Tq,Tr,Ts,Tt,Tw,Tx,Ty,T4,Sc,Sd,Se, bA.eq_1]; all_goals tactic => exact rfl))
      · exact rd
      · (sym => (simp [Za,Zb,Zf,Zh,Zl,Zm,Zn,Zu,Zy,Z2,Z5,Z7,Z8,ZC,ZE,ZX,ZZ,Ye,Yf,Yh,Yp,Yt,Yu,Yx,Y3,YE,YJ,YK,YL,YR,YU,YV,Xe,Xi,Xj,Xk,Xv,XL,XP,XU,XW,We,Wp,Wq,Wr,Ws,Wx,Wy,Wz,W0,W4,W5,W7,W8,W9,WB,WE,WF,WG,WH,WM,WN,WS,Vf,Vg,Vh,Vi,Vj,Vs,Vu,Vw,Vx,Vz,V0,V1,V2,V3,V6,V7,V8,V9,VB,VC,VD,VE,VF,VG,VH,VI,VK,VL,VM,VN,VO,VP,VR,VS,VT,VU,VV,VW,VZ,Uh,Uk,Ul,Um,Ur,Us,Ut,Uu,Uv,Uw,U1,U2,U9,UA,UG,UH,UO,UP,UQ,UR,US,UU,UZ,Te,Tf,Tg,Th,Ti,Tj,Tk,Tl,Tn,Tq,Tr,Ts,Tt,Tw,Tx,Ty,T4,Sc,Sd,Se, z]; all_goals tactic => exact rfl))
section
variable {l : Li} {b : Nat → Nat} {o : List Int} {a : Nat}
end
theorem bT_lt {t : List Int} {b : Nat → Nat} (hb : ∀ k, b k < 2 ^ 10) (ha : ∀ i, i ≤ t.length → allT t 0 i < 2 ^ 10) : ∀ i, i ≤ t.length → ∀ k, bT t b i k < 2 ^ 10
  | 0, _, k => hb k
  | i + 1, hi, k => by
    rw [bT]
    show (if k = (t.getD i 0).toNat then allT t 0 i else bT t b i k) < 2 ^ 10
    split
    · exact ha i (by omega)
    · exact bT_lt hb ha i (by omega) k
theorem bA_lt {l : Li} (g : Good l) : ∀ j, j ≤ l.ts.length → ∀ k, bA l.ts j k < 2 ^ 10
  | 0, _, k => by show 0 < 2 ^ 10; omega
  | j + 1, hj, k => by
    obtain ⟨t, ht⟩ := at_ix (l := l.ts) (i := j) (by omega)
    rw [bA, getD_of ht]
    exact bT_lt (bA_lt g j (by omega)) (fun i hi => allT_of0 g.few (fun i hi => g.el ht hi) (by omega) i hi) _ (Nat.le_refl _) k
theorem beh_lt {l : Li} (g : Good l) (k : Nat) : behF l.ts k < 2 ^ 10 := bA_lt g _ (Nat.le_refl _) k
end Go.Proofs.YtpbeclkpohehgaaDoor
namespace Go.Proofs.YtpbeclkpohehgaaDoor
open Go Go.DL
set_option maxRecDepth 100000
set_option maxHeartbeats 2000000

def soN (k : List St) (m : Int) : Nat → Int
  | 0 => 0
  | i + 1 => if (k.getD i ⟨0, 0⟩).a ≤ m then (k.getD i ⟨0, 0⟩).s else soN k m i
/-- How sour a kind is after some minutes. -/
def sourF (k : List St) (m : Int) : Int := soN k m k.length
theorem soN_up {k : List St} {m : Int} {i : Nat} {x : St} (hx : k[i]? = some x) : ((x.a ≤ m) = True ∧ soN k m (i + 1) = x.s) ∨ ((x.a ≤ m) = False ∧ soN k m (i + 1) = soN k m i) := by
  rw [soN, getD_of hx]
  by_cases h : x.a ≤ m
  · exact .inl ⟨eq_true h, if_pos h⟩
  · exact .inr ⟨eq_false h, if_neg h⟩
theorem w54 (k : List St) (m : Int) (hk : k.length ≤ 8) : runW progX 54 [rS k, I m] [] = some (I (sourF k m), []) := by
  have z := UO (n := (k.length : Int))
  have s0 : soN k m 0 = 0 := rfl
  have sf : soN k m k.length = sourF k m := rfl
  have rd : ∀ i, i < k.length → headX 0 [1, 5, 8, 9, 10] (execW progX 54 0 none (match x54l0 with | .loop _ a => a | c => c) (envL [1, 5, 8, 9, 10] [I m, I (soN k m i), rS k, I k.length, I (i : Nat)]) []) = some ([I m, I (soN k m (i + 1)), rS k, I k.length, I (i + 1 : Nat)], []) := by
    intro i hi
    obtain ⟨x, hx⟩ := at_ix hi
    have a1 := lt_ix hi
    have a2 := up_ix hi (by omega)
    unfold x54l0
    dsimp only
    rcases soN_up (m := m) hx with ⟨h1, h2⟩ | ⟨h1, h2⟩
    · rw [h2]; (sym => (simp [Za,Zb,Zc,Zf,Zh,Zl,Zm,Zu,Zv,Z2,Z5,Z7,ZC,ZE,ZI,ZJ,ZX,ZZ,Ye,Yf,Yh,Yp,Yq,Yt,Yu,Yx,YE,YJ,YR,Xe,Xi,Xq,XP,XW,We,Wp,Wq,Wr,Ws,Wt,Wu,Wv,Ww,Wx,Wy,W7,WB,WC,WE,WF,WG,Vi,Vw,Vx,Vz,V0,V1,V2,V3,V6,V7,V8,V9,VB,VC,VD,VE,VF,VG,VH,VI,VK,VL,VM,VO,VP,VR,VS,VT,VU,VV,VW,VZ,Uh,Ul,Um,Uq,Ur,Us,Ut,Uu,Uv,Uw,U1,U2,U3,UO,UP,UQ,UR,US,UT,UU,UV,UW,Te,Tf,Tg,Th,Ti,Tj,Tk,Tl,Tn,Tq,Tr,Ts,Tt,Sc, a1, a2, hx, h1]; all_goals tactic => exact rfl))
    · rw [h2]; (sym => (simp [Za,Zb,Zc,Zf,Zh,Zl,Zm,Zu,Zv,Z2,Z5,Z7,ZC,ZE,ZI,ZJ,ZX,ZZ,Ye,Yf,Yh,Yp,Yq,Yt,Yu,Yx,YE,YJ,YR,Xe,Xi,Xq,XP,XW,We,Wp,Wq,Wr,Ws,Wt,Wu,Wv,Ww,Wx,Wy,W7,WB,WC,WE,WF,WG,Vi,Vw,Vx,Vz,V0,V1,V2,V3,V6,V7,V8,V9,VB,VC,VD,VE,VF,VG,VH,VI,VK,VL,VM,VO,VP,VR,VS,VT,VU,VV,VW,VZ,Uh,Ul,Um,Uq,Ur,Us,Ut,Uu,Uv,Uw,U1,U2,U3,UO,UP,UQ,UR,US,UT,UU,UV,UW,Te,Tf,Tg,Th,Ti,Tj,Tk,Tl,Tn,Tq,Tr,Ts,Tt,Sc, a1, a2, hx, h1]; all_goals tactic => exact rfl))
  rw [r54 (by simp)]; unfold x54; dsimp only
  sym =>
    simp [Za,Zb,Zc,Zf,Zh,Zl,Zm,Zu,Zv,Z2,Z5,Z7,ZC,ZE,ZI,ZJ,ZX,ZZ,Ye,Yf,Yh,Yp,Yq,Yt,Yu,Yx,YE,YJ,YR,Xe,Xi,Xq,XP,XW,We,Wp,Wq,Wr,Ws,Wt,Wu,Wv,Ww,Wx,Wy,W7,WB,WC,WE,WF,WG,Vi,Vw,Vx,Vz,V0,V1,V2,V3,V6,V7,V8,V9,VB,VC,VD,VE,VF,VG,VH,VI,VK,VL,VM,VO,VP,VR,VS,VT,VU,VV,VW,VZ,Uh,Ul,Um,Uq,Ur,Us,Ut,Uu,Uv,Uw,U1,U2,U3,UO,UP,UQ,UR,US,UT,UU,UV,UW,Te,Tf,Tg,Th,Ti,Tj,Tk,Tl,Tn,Tq,Tr,Ts,Tt,Sc]
    tactic =>
      unfold x54l0
      rw [loop_rule k.length (fun i => [I m, I (soN k m i), rS k, I k.length, I (i : Nat)]) (fun _ => [])]
      · (sym => (simp [Za,Zb,Zc,Zf,Zh,Zl,Zm,Zu,Zv,Z2,Z5,Z7,ZC,ZE,ZI,ZJ,ZX,ZZ,Ye,Yf,Yh,Yp,Yq,Yt,Yu,Yx,YE,YJ,YR,Xe,Xi,Xq,XP,XW,We,Wp,Wq,Wr,Ws,Wt,Wu,Wv,Ww,Wx,Wy,W7,WB,WC,WE,WF,WG,Vi,Vw,Vx,Vz,V0,V1,V2,V3,V6,V7,V8,V9,VB,VC,VD,VE,VF,VG,VH,VI,VK,VL,VM,VO,VP,VR,VS,VT,VU,VV,VW,VZ,Uh,Ul,Um,Uq,Ur,Us,Ut,Uu,Uv,Uw,U1,U2,U3,UO,UP,UQ,UR,US,UT,UU,UV,UW,Te,Tf,Tg,Th,Ti,Tj,Tk,Tl,Tn,Tq,Tr,Ts,Tt,Sc, z, sf]; all_goals tactic => exact rfl))
      · (sym => (simp [Za,Zb,Zc,Zf,Zh,Zl,Zm,Zu,Zv,Z2,Z5,Z7,ZC,ZE,ZI,ZJ,ZX,ZZ,Ye,Yf,Yh,Yp,Yq,Yt,Yu,Yx,YE,YJ,YR,Xe,Xi,Xq,XP,XW,We,Wp,Wq,Wr,Ws,Wt,Wu,Wv,Ww,Wx,Wy,W7,WB,WC,WE,WF,WG,Vi,Vw,Vx,Vz,V0,V1,V2,V3,V6,V7,V8,V9,VB,VC,VD,VE,VF,VG,VH,VI,VK,VL,VM,VO,VP,VR,VS,VT,VU,VV,VW,VZ,Uh,Ul,Um,Uq,Ur,Us,Ut,Uu,Uv,Uw,U1,U2,U3,UO,UP,UQ,UR,US,UT,UU,UV,UW,Te,Tf,Tg,Th,Ti,Tj,Tk,Tl,Tn,Tq,Tr,Ts,Tt,Sc, s0]; all_goals tactic => exact rfl))
      · exact rd
      · (sym => (simp [Za,Zb,Zc,Zf,Zh,Zl,Zm,Zu,Zv,Z2,Z5,Z7,ZC,ZE,ZI,ZJ,ZX,ZZ,Ye,Yf,Yh,Yp,Yq,Yt,Yu,Yx,YE,YJ,YR,Xe,Xi,Xq,XP,XW,We,Wp,Wq,Wr,Ws,Wt,Wu,Wv,Ww,Wx,Wy,W7,WB,WC,WE,WF,WG,Vi,Vw,Vx,Vz,V0,V1,V2,V3,V6,V7,V8,V9,VB,VC,VD,VE,VF,VG,VH,VI,VK,VL,VM,VO,VP,VR,VS,VT,VU,VV,VW,VZ,Uh,Ul,Um,Uq,Ur,Us,Ut,Uu,Uv,Uw,U1,U2,U3,UO,UP,UQ,UR,US,UT,UU,UV,UW,Te,Tf,Tg,Th,Ti,Tj,Tk,Tl,Tn,Tq,Tr,Ts,Tt,Sc, z]; all_goals tactic => exact rfl))
theorem w56 (k : List St) (m : Int) (hk : k.length ≤ 8) : runW progX 56 [rS k, I m] [] = some (I (sourF k m), []) := by
  have z := UO (n := (k.length : Int))
  have s0 : soN k m 0 = 0 := rfl
  have sf : soN k m k.length = sourF k m := rfl
  have rd : ∀ i, i < k.length → headX 0 [0, 1, 5, 6] (execW progX 56 0 none (match x56l0 with | .loop _ a => a | c => c) (envL [0, 1, 5, 6] [rS k, I m, I (soN k m i), I (i : Nat)]) []) = some ([rS k, I m, I (soN k m (i + 1)), I (i + 1 : Nat)], []) := by
    intro i hi
    obtain ⟨x, hx⟩ := at_ix hi
    have a1 := lt_ix hi
    have a2 := up_ix hi (by omega)
    unfold x56l0
    dsimp only
    rcases soN_up (m := m) hx with ⟨h1, h2⟩ | ⟨h1, h2⟩
    · rw [h2]; (sym => (simp [Za,Zb,Zf,Zh,Zl,Zm,Zu,Z2,Z5,Z7,ZC,ZE,ZY,ZZ,Ye,Yf,Yh,Yp,Yq,Yt,Yu,Yx,YE,YJ,Xe,Xi,Xq,XP,XW,Wx,Wy,W7,WB,WC,WF,WG,Vi,Vw,Vx,Vz,V0,V1,V2,V3,V6,V7,V8,V9,VB,VC,VD,VE,VF,VG,VH,VI,VK,VL,VM,VP,VR,VS,VT,VU,VV,VW,Uh,Ul,Um,Uq,Ur,Us,Ut,Uu,U1,U2,UO,UR,US,UU,Te,Tf,Tg,Th,Ti,Tj,Tk,Tl,Tn,Tq,Tr,Ts,Tt,Sc, a1, a2, hx, h1]; all_goals tactic => exact rfl))
    · rw [h2]; (sym => (simp [Za,Zb,Zf,Zh,Zl,Zm,Zu,Z2,Z5,Z7,ZC,ZE,ZY,ZZ,Ye,Yf,Yh,Yp,Yq,Yt,Yu,Yx,YE,YJ,Xe,Xi,Xq,XP,XW,Wx,Wy,W7,WB,WC,WF,WG,Vi,Vw,Vx,Vz,V0,V1,V2,V3,V6,V7,V8,V9,VB,VC,VD,VE,VF,VG,VH,VI,VK,VL,VM,VP,VR,VS,VT,VU,VV,VW,Uh,Ul,Um,Uq,Ur,Us,Ut,Uu,U1,U2,UO,UR,US,UU,Te,Tf,Tg,Th,Ti,Tj,Tk,Tl,Tn,Tq,Tr,Ts,Tt,Sc, a1, a2, hx, h1]; all_goals tactic => exact rfl))
  rw [r56 (by simp)]; unfold x56; dsimp only
  sym =>
    simp [Za,Zb,Zf,Zh,Zl,Zm,Zu,Z2,Z5,Z7,ZC,ZE,ZY,ZZ,Ye,Yf,Yh,Yp,Yq,Yt,Yu,Yx,YE,YJ,Xe,Xi,Xq,XP,XW,Wx,Wy,W7,WB,WC,WF,WG,Vi,Vw,Vx,Vz,V0,V1,V2,V3,V6,V7,V8,V9,VB,VC,VD,VE,VF,VG,VH,VI,VK,VL,VM,VP,VR,VS,VT,VU,VV,VW,Uh,Ul,Um,Uq,Ur,Us,Ut,Uu,U1,U2,UO,UR,US,UU,Te,Tf,Tg,Th,Ti,Tj,Tk,Tl,Tn,Tq,Tr,Ts,Tt,Sc]
    tactic =>
      unfold x56l0
      rw [loop_rule k.length (fun i => [rS k, I m, I (soN k m i), I (i : Nat)]) (fun _ => [])]
      · (sym => (simp [Za,Zb,Zf,Zh,Zl,Zm,Zu,Z2,Z5,Z7,ZC,ZE,ZY,ZZ,Ye,Yf,Yh,Yp,Yq,Yt,Yu,Yx,YE,YJ,Xe,Xi,Xq,XP,XW,Wx,Wy,W7,WB,WC,WF,WG,Vi,Vw,Vx,Vz,V0,V1,V2,V3,V6,V7,V8,V9,VB,VC,VD,VE,VF,VG,VH,VI,VK,VL,VM,VP,VR,VS,VT,VU,VV,VW,Uh,Ul,Um,Uq,Ur,Us,Ut,Uu,U1,U2,UO,UR,US,UU,Te,Tf,Tg,Th,Ti,Tj,Tk,Tl,Tn,Tq,Tr,Ts,Tt,Sc, z, sf]; all_goals tactic => exact rfl))
      · (sym => (simp [Za,Zb,Zf,Zh,Zl,Zm,Zu,Z2,Z5,Z7,ZC,ZE,ZY,ZZ,Ye,Yf,Yh,Yp,Yq,Yt,Yu,Yx,YE,YJ,Xe,Xi,Xq,XP,XW,Wx,Wy,W7,WB,WC,WF,WG,Vi,Vw,Vx,Vz,V0,V1,V2,V3,V6,V7,V8,V9,VB,VC,VD,VE,VF,VG,VH,VI,VK,VL,VM,VP,VR,VS,VT,VU,VV,VW,Uh,Ul,Um,Uq,Ur,Us,Ut,Uu,U1,U2,UO,UR,US,UU,Te,Tf,Tg,Th,Ti,Tj,Tk,Tl,Tn,Tq,Tr,Ts,Tt,Sc, s0]; all_goals tactic => exact rfl))
      · exact rd
      · (sym => (simp [Za,Zb,Zf,Zh,Zl,Zm,Zu,Z2,Z5,Z7,ZC,ZE,ZY,ZZ,Ye,Yf,Yh,Yp,Yq,Yt,Yu,Yx,YE,YJ,Xe,Xi,Xq,XP,XW,Wx,Wy,W7,WB,WC,WF,WG,Vi,Vw,Vx,Vz,V0,V1,V2,V3,V6,V7,V8,V9,VB,VC,VD,VE,VF,VG,VH,VI,VK,VL,VM,VP,VR,VS,VT,VU,VV,VW,Uh,Ul,Um,Uq,Ur,Us,Ut,Uu,U1,U2,UO,UR,US,UU,Te,Tf,Tg,Th,Ti,Tj,Tk,Tl,Tn,Tq,Tr,Ts,Tt,Sc, z]; all_goals tactic => exact rfl))

/-! ### Spans in memory -/
structure Sp where
  lo : Int
  hi : Int
abbrev Sp.row (x : Sp) : List AV := [I x.lo, I x.hi]
theorem sp_ok (k : List Sp) : RowsOk 2 (k.map Sp.row) := by
  intro r hr
  simp only [List.mem_map] at hr
  obtain ⟨x, _, rfl⟩ := hr
  exact ⟨rfl, rfl, rfl, rfl⟩
def cS (l : List Sp) : List AV := (l.map Sp.row).flatten
theorem cS_gr (l : List Sp) : grL (cS l) = true := (rows_cells (sp_ok _)).1
theorem cS_nm (l : List Sp) : nmL (cS l) = [] := (rows_cells (sp_ok _)).2.1
theorem cS_sl (l : List Sp) : slL (cS l) = [] := (rows_cells (sp_ok _)).2.2.1
theorem cS_len (l : List Sp) : (cS l).length = l.length * 2 := by rw [cS, (rows_cells (sp_ok _)).2.2.2, List.length_map]
/-! ### What a run computes -/
def ldAt (l : Li) (v : Int) : Ld := l.ls.getD v.toNat ⟨0, 0, 0, 0, 0⟩
def knAt (l : Li) (x : Ld) : List St := l.ks.getD x.k.toNat []
theorem inSF {lo hi a b : Int} : inS lo hi a b = true ↔ a ≤ lo ∧ lo ≤ hi ∧ hi ≤ b := by simp [inS]
/-- What is known of a load of a valid line. -/
theorem Good.ld {l : Li} (g : Good l) {v : Int} (hv : 0 ≤ v ∧ v < l.ls.length) : ∃ x k, l.ls[v.toNat]? = some x ∧ ldAt l v = x ∧ (0 ≤ x.k ∧ x.k < l.ks.length) ∧ l.ks[x.k.toNat]? = some k ∧ knAt l x = k ∧ k.length ≤ 8 ∧ (0 ≤ x.al ∧ x.al ≤ x.ah ∧ x.ah ≤ 100000) ∧ (1 ≤ x.cl ∧ x.cl ≤ x.ch ∧ x.ch ≤ 10000) := by
  obtain ⟨x, hx⟩ := at_ix (l := l.ls) (i := v.toNat) (by omega)
  have h := g.loads v.toNat (by omega)
  unfold ldEr at h
  rw [getD_of hx] at h
  rcases ldE_of l.ks.length x with ⟨h1, h2, h3, h4⟩ | ⟨_, _, _, h4⟩ | ⟨_, _, h4⟩ | ⟨_, h4⟩
  · have b1 := btwF.1 h1
    obtain ⟨k, hk⟩ := at_ix (l := l.ks) (i := x.k.toNat) (by omega)
    refine ⟨x, k, hx, getD_of hx, by omega, hk, getD_of hk, ?_, inSF.1 h2, inSF.1 h3⟩
    have hks := g.kinds
    unfold kindsE at hks
    by_cases h6 : 6 < l.ks.length
    · rw [if_pos h6] at hks; simp at hks
    · rw [if_neg h6] at hks
      have := firstN_0 hks x.k.toNat (by omega)
      rw [getD_of hk] at this
      unfold chkD at this
      by_cases h8 : 8 < k.length
      · rw [if_pos h8] at this; simp at this
      · omega
  all_goals (rw [h4] at h; simp at h)
end Go.Proofs.YtpbeclkpohehgaaDoor
namespace Go.Proofs.YtpbeclkpohehgaaDoor
open Go Go.DL
set_option maxRecDepth 100000
set_option maxHeartbeats 2000000

section
variable {l : Li} {o : List Int}
end
/-! ### The worst -/
def mxI (a b : Int) : Int := if b > a then b else a
end Go.Proofs.YtpbeclkpohehgaaDoor
namespace Go.Proofs.YtpbeclkpohehgaaDoor
open Go Go.DL
set_option maxRecDepth 100000
set_option maxHeartbeats 2000000

/-- Lists of a length that a machine can have: all of a line's. -/
structure Li.Fit2 (l : Li) : Prop where
  ks : l.ks.length ≤ 9223372036854775807
  ls : l.ls.length ≤ 9223372036854775807
  ts : l.ts.length ≤ 9223372036854775807
  each : ∀ t ∈ l.ts, t.length ≤ 9223372036854775807
theorem Li.Fit2.fit {l : Li} (h : l.Fit2) : l.Fit := ⟨h.ts, h.each⟩
def lg0 (l : Li) : Bool := decide (20 < l.ks.length) || (decide (30 < l.ls.length) || decide (30 < l.ts.length))
def lgK (l : Li) : Nat → Bool
  | 0 => lg0 l
  | i + 1 => lgK l i || decide (20 < (l.ks.getD i []).length)
def lgT (l : Li) : Nat → Bool
  | 0 => lgK l l.ks.length
  | i + 1 => lgT l i || decide (30 < (l.ts.getD i []).length)
/-- Whether a line is large. -/
def largeB (l : Li) : Bool := lgT l l.ts.length
theorem lgK_f {l : Li} : ∀ {i}, lgK l i = false → lg0 l = false ∧ ∀ j, j < i → (l.ks.getD j []).length ≤ 20
  | 0, h => ⟨h, fun j hj => by omega⟩
  | i + 1, h => by
    simp only [lgK, Bool.or_eq_false_iff, decide_eq_false_iff_not] at h
    obtain ⟨h1, h2⟩ := lgK_f h.1
    refine ⟨h1, fun j hj => ?_⟩
    by_cases hji : j = i
    · rw [hji]; omega
    · exact h2 j (by omega)
theorem lgT_f {l : Li} : ∀ {i}, lgT l i = false → lgK l l.ks.length = false ∧ ∀ j, j < i → (l.ts.getD j []).length ≤ 30
  | 0, h => ⟨h, fun j hj => by omega⟩
  | i + 1, h => by
    simp only [lgT, Bool.or_eq_false_iff, decide_eq_false_iff_not] at h
    obtain ⟨h1, h2⟩ := lgT_f h.1
    refine ⟨h1, fun j hj => ?_⟩
    by_cases hji : j = i
    · rw [hji]; omega
    · exact h2 j (by omega)
/-- A line that is not large. -/
structure Small (l : Li) : Prop where
  ks : l.ks.length ≤ 20
  ls : l.ls.length ≤ 30
  ts : l.ts.length ≤ 30
  eachK : ∀ k ∈ l.ks, k.length ≤ 20
  eachT : ∀ t ∈ l.ts, t.length ≤ 30
theorem small_of {l : Li} (h : largeB l = false) : Small l := by
  obtain ⟨h1, h2⟩ := lgT_f h
  obtain ⟨h3, h4⟩ := lgK_f h1
  simp only [lg0, Bool.or_eq_false_iff, decide_eq_false_iff_not] at h3
  refine ⟨by omega, by omega, by omega, fun k hk => ?_, fun t ht => ?_⟩
  · obtain ⟨i, hi⟩ := List.getElem?_of_mem hk
    have := h4 i (lt_of hi)
    rw [getD_of hi] at this
    exact this
  · obtain ⟨i, hi⟩ := List.getElem?_of_mem ht
    have := h2 i (lt_of hi)
    rw [getD_of hi] at this
    exact this
theorem Small.fit {l : Li} (h : Small l) : l.Fit := ⟨by have := h.ts; omega, fun t ht => by have := h.eachT t ht; omega⟩
theorem w14 (l : Li) (hf : l.Fit2) : runW progX 14 [.agg l.c] [] = some (.bool (largeB l), []) := by
  have z := UO (n := (l.ks.length : Int))
  have z2 := UO (n := (l.ts.length : Int))
  have rdk : ∀ i, i < l.ks.length → headX 0 [1, 3, 4] (execW progX 14 0 none (match x14l0 with | .loop _ a => a | c => c) (envL [1, 3, 4] [.pt 0 0, .bool (lgK l i), I (i : Nat)]) (hL l)) = some ([.pt 0 0, .bool (lgK l (i + 1)), I (i + 1 : Nat)], hL l) := by
    intro i hi
    obtain ⟨k, hk⟩ := at_ix hi
    have a1 := lt_ix hi
    have a2 := up_ix hi hf.ks
    rw [lgK, getD_of hk]
    unfold x14l0
    dsimp only
    cases lgK l i
    · by_cases h : 20 < k.length
      · have g : ((20 : Int) < (k.length : Int)) = True := eq_true (by omega)
        rw [decide_eq_true h]
        (sym => (simp [cS_gr, cS_nm, cS_sl, cS_len, Za,Zb,Zf,Zh,Zl,Zm,Zn,Zo,Zq,Zs,Zu,Zx,Zy,Z2,Z5,Z7,ZC,ZE,ZT,ZU,ZX,ZZ,Ye,Yf,Yh,Yp,Yr,Yt,Yu,Yx,YE,YF,YL,YR,YU,YV,Xe,Xf,Xk,Xr,XP,XQ,XU,XW,We,Wp,Wq,Wr,Wx,Wy,Wz,W4,W5,W7,W8,W9,WB,WE,WF,WG,WH,WM,WN,WS,Vi,Vw,Vx,Vz,V0,V1,V2,V3,V6,V7,V8,V9,VB,VC,VD,VE,VF,VG,VH,VI,VK,VL,VM,VO,VP,VR,VS,VT,VU,VV,VW,VZ,Uf,Ug,Uh,Uk,Ul,Um,Ur,Us,Ut,Uu,Uv,Uw,U1,U2,U9,UA,UO,UP,UQ,UR,US,UU,UZ,Te,Tf,Tg,Th,Ti,Tj,Tk,Tl,Tn,Tq,Tr,Ts,Tt,Ty,Sc, a1, a2, hk, g]; all_goals tactic => exact rfl))
      · have g : ((20 : Int) < (k.length : Int)) = False := eq_false (by omega)
        rw [decide_eq_false h]
        (sym => (simp [cS_gr, cS_nm, cS_sl, cS_len, Za,Zb,Zf,Zh,Zl,Zm,Zn,Zo,Zq,Zs,Zu,Zx,Zy,Z2,Z5,Z7,ZC,ZE,ZT,ZU,ZX,ZZ,Ye,Yf,Yh,Yp,Yr,Yt,Yu,Yx,YE,YF,YL,YR,YU,YV,Xe,Xf,Xk,Xr,XP,XQ,XU,XW,We,Wp,Wq,Wr,Wx,Wy,Wz,W4,W5,W7,W8,W9,WB,WE,WF,WG,WH,WM,WN,WS,Vi,Vw,Vx,Vz,V0,V1,V2,V3,V6,V7,V8,V9,VB,VC,VD,VE,VF,VG,VH,VI,VK,VL,VM,VO,VP,VR,VS,VT,VU,VV,VW,VZ,Uf,Ug,Uh,Uk,Ul,Um,Ur,Us,Ut,Uu,Uv,Uw,U1,U2,U9,UA,UO,UP,UQ,UR,US,UU,UZ,Te,Tf,Tg,Th,Ti,Tj,Tk,Tl,Tn,Tq,Tr,Ts,Tt,Ty,Sc, a1, a2, hk, g]; all_goals tactic => exact rfl))
    · rw [Bool.true_or]
      (sym => (simp [cS_gr, cS_nm, cS_sl, cS_len, Za,Zb,Zf,Zh,Zl,Zm,Zn,Zo,Zq,Zs,Zu,Zx,Zy,Z2,Z5,Z7,ZC,ZE,ZT,ZU,ZX,ZZ,Ye,Yf,Yh,Yp,Yr,Yt,Yu,Yx,YE,YF,YL,YR,YU,YV,Xe,Xf,Xk,Xr,XP,XQ,XU,XW,We,Wp,Wq,Wr,Wx,Wy,Wz,W4,W5,W7,W8,W9,WB,WE,WF,WG,WH,WM,WN,WS,Vi,Vw,Vx,Vz,V0,V1,V2,V3,V6,V7,V8,V9,VB,VC,VD,VE,VF,VG,VH,VI,VK,VL,VM,VO,VP,VR,VS,VT,VU,VV,VW,VZ,Uf,Ug,Uh,Uk,Ul,Um,Ur,Us,Ut,Uu,Uv,Uw,U1,U2,U9,UA,UO,UP,UQ,UR,US,UU,UZ,Te,Tf,Tg,Th,Ti,Tj,Tk,Tl,Tn,Tq,Tr,Ts,Tt,Ty,Sc, a1, a2, hk]; all_goals tactic => exact rfl))
  have rdt : ∀ i, i < l.ts.length → headX 0 [1, 3, 5] (execW progX 14 0 none (match x14l1 with | .loop _ a => a | c => c) (envL [1, 3, 5] [.pt 0 0, .bool (lgT l i), I (i : Nat)]) (hL l)) = some ([.pt 0 0, .bool (lgT l (i + 1)), I (i + 1 : Nat)], hL l) := by
    intro i hi
    obtain ⟨k, hk⟩ := at_ix hi
    have a1 := lt_ix hi
    have a2 := up_ix hi hf.ts
    rw [lgT, getD_of hk]
    unfold x14l1
    dsimp only
    cases lgT l i
    · by_cases h : 30 < k.length
      · have g : ((30 : Int) < (k.length : Int)) = True := eq_true (by omega)
        rw [decide_eq_true h]
        (sym => (simp [cS_gr, cS_nm, cS_sl, cS_len, Za,Zb,Zf,Zh,Zl,Zm,Zn,Zo,Zq,Zs,Zu,Zx,Zy,Z2,Z5,Z7,ZC,ZE,ZT,ZU,ZX,ZZ,Ye,Yf,Yh,Yp,Yr,Yt,Yu,Yx,YE,YF,YL,YR,YU,YV,Xe,Xf,Xk,Xr,XP,XQ,XU,XW,We,Wp,Wq,Wr,Wx,Wy,Wz,W4,W5,W7,W8,W9,WB,WE,WF,WG,WH,WM,WN,WS,Vi,Vw,Vx,Vz,V0,V1,V2,V3,V6,V7,V8,V9,VB,VC,VD,VE,VF,VG,VH,VI,VK,VL,VM,VO,VP,VR,VS,VT,VU,VV,VW,VZ,Uf,Ug,Uh,Uk,Ul,Um,Ur,Us,Ut,Uu,Uv,Uw,U1,U2,U9,UA,UO,UP,UQ,UR,US,UU,UZ,Te,Tf,Tg,Th,Ti,Tj,Tk,Tl,Tn,Tq,Tr,Ts,Tt,Ty,Sc, a1, a2, hk, g]; all_goals tactic => exact rfl))
      · have g : ((30 : Int) < (k.length : Int)) = False := eq_false (by omega)
        rw [decide_eq_false h]
        (sym => (simp [cS_gr, cS_nm, cS_sl, cS_len, Za,Zb,Zf,Zh,Zl,Zm,Zn,Zo,Zq,Zs,Zu,Zx,Zy,Z2,Z5,Z7,ZC,ZE,ZT,ZU,ZX,ZZ,Ye,Yf,Yh,Yp,Yr,Yt,Yu,Yx,YE,YF,YL,YR,YU,YV,Xe,Xf,Xk,Xr,XP,XQ,XU,XW,We,Wp,Wq,Wr,Wx,Wy,Wz,W4,W5,W7,W8,W9,WB,WE,WF,WG,WH,WM,WN,WS,Vi,Vw,Vx,Vz,V0,V1,V2,V3,V6,V7,V8,V9,VB,VC,VD,VE,VF,VG,VH,VI,VK,VL,VM,VO,VP,VR,VS,VT,VU,VV,VW,VZ,Uf,Ug,Uh,Uk,Ul,Um,Ur,Us,Ut,Uu,Uv,Uw,U1,U2,U9,UA,UO,UP,UQ,UR,US,UU,UZ,Te,Tf,Tg,Th,Ti,Tj,Tk,Tl,Tn,Tq,Tr,Ts,Tt,Ty,Sc, a1, a2, hk, g]; all_goals tactic => exact rfl))
    · rw [Bool.true_or]
      (sym => (simp [cS_gr, cS_nm, cS_sl, cS_len, Za,Zb,Zf,Zh,Zl,Zm,Zn,Zo,Zq,Zs,Zu,Zx,Zy,Z2,Z5,Z7,ZC,ZE,ZT,ZU,ZX,ZZ,Ye,Yf,Yh,Yp,Yr,Yt,Yu,Yx,YE,YF,YL,YR,YU,YV,Xe,Xf,Xk,Xr,XP,XQ,XU,XW,We,Wp,Wq,Wr,Wx,Wy,Wz,W4,W5,W7,W8,W9,WB,WE,WF,WG,WH,WM,WN,WS,Vi,Vw,Vx,Vz,V0,V1,V2,V3,V6,V7,V8,V9,VB,VC,VD,VE,VF,VG,VH,VI,VK,VL,VM,VO,VP,VR,VS,VT,VU,VV,VW,VZ,Uf,Ug,Uh,Uk,Ul,Um,Ur,Us,Ut,Uu,Uv,Uw,U1,U2,U9,UA,UO,UP,UQ,UR,US,UU,UZ,Te,Tf,Tg,Th,Ti,Tj,Tk,Tl,Tn,Tq,Tr,Ts,Tt,Ty,Sc, a1, a2, hk]; all_goals tactic => exact rfl))
  have sf : lgT l l.ts.length = largeB l := rfl
  have s1 : lgT l 0 = lgK l l.ks.length := rfl
  have s2 : lgK l 0 = lg0 l := rfl
  have g1 := pad
  have g2 := pad
  have g3 := pad
  have e0 := pad
  have cs : ((20 : Int) < (l.ks.length : Int)) = True ∧ lg0 l = true ∨ ((20 : Int) < (l.ks.length : Int)) = False ∧ (((30 : Int) < (l.ls.length : Int)) = True ∧ lg0 l = true ∨ ((30 : Int) < (l.ls.length : Int)) = False ∧ (((30 : Int) < (l.ts.length : Int)) = True ∧ lg0 l = true ∨ ((30 : Int) < (l.ts.length : Int)) = False ∧ lg0 l = false)) := by
    unfold lg0
    by_cases h1 : 20 < l.ks.length
    · exact .inl ⟨eq_true (by omega), by simp [h1]⟩
    refine .inr ⟨eq_false (by omega), ?_⟩
    by_cases h2 : 30 < l.ls.length
    · exact .inl ⟨eq_true (by omega), by simp [h2]⟩
    refine .inr ⟨eq_false (by omega), ?_⟩
    by_cases h3 : 30 < l.ts.length
    · exact .inl ⟨eq_true (by omega), by simp [h3]⟩
    exact .inr ⟨eq_false (by omega), by simp [h1, h2, h3]⟩
  rw [r14 (by simp)]; unfold x14; dsimp only
  rcases cs with ⟨g1, e0⟩ | ⟨g1, ⟨g2, e0⟩ | ⟨g2, ⟨g3, e0⟩ | ⟨g3, e0⟩⟩⟩
  all_goals
    sym =>
      simp [cS_gr, cS_nm, cS_sl, cS_len, Za,Zb,Zf,Zh,Zl,Zm,Zn,Zo,Zq,Zs,Zu,Zx,Zy,Z2,Z5,Z7,ZC,ZE,ZT,ZU,ZX,ZZ,Ye,Yf,Yh,Yp,Yr,Yt,Yu,Yx,YE,YF,YL,YR,YU,YV,Xe,Xf,Xk,Xr,XP,XQ,XU,XW,We,Wp,Wq,Wr,Wx,Wy,Wz,W4,W5,W7,W8,W9,WB,WE,WF,WG,WH,WM,WN,WS,Vi,Vw,Vx,Vz,V0,V1,V2,V3,V6,V7,V8,V9,VB,VC,VD,VE,VF,VG,VH,VI,VK,VL,VM,VO,VP,VR,VS,VT,VU,VV,VW,VZ,Uf,Ug,Uh,Uk,Ul,Um,Ur,Us,Ut,Uu,Uv,Uw,U1,U2,U9,UA,UO,UP,UQ,UR,US,UU,UZ,Te,Tf,Tg,Th,Ti,Tj,Tk,Tl,Tn,Tq,Tr,Ts,Tt,Ty,Sc, g1, g2, g3]
      tactic =>
        unfold x14l0
        rw [loop_rule l.ks.length (fun i => [.pt 0 0, .bool (lgK l i), I (i : Nat)]) (fun _ => hL l)]
        · sym =>
            simp [cS_gr, cS_nm, cS_sl, cS_len, Za,Zb,Zf,Zh,Zl,Zm,Zn,Zo,Zq,Zs,Zu,Zx,Zy,Z2,Z5,Z7,ZC,ZE,ZT,ZU,ZX,ZZ,Ye,Yf,Yh,Yp,Yr,Yt,Yu,Yx,YE,YF,YL,YR,YU,YV,Xe,Xf,Xk,Xr,XP,XQ,XU,XW,We,Wp,Wq,Wr,Wx,Wy,Wz,W4,W5,W7,W8,W9,WB,WE,WF,WG,WH,WM,WN,WS,Vi,Vw,Vx,Vz,V0,V1,V2,V3,V6,V7,V8,V9,VB,VC,VD,VE,VF,VG,VH,VI,VK,VL,VM,VO,VP,VR,VS,VT,VU,VV,VW,VZ,Uf,Ug,Uh,Uk,Ul,Um,Ur,Us,Ut,Uu,Uv,Uw,U1,U2,U9,UA,UO,UP,UQ,UR,US,UU,UZ,Te,Tf,Tg,Th,Ti,Tj,Tk,Tl,Tn,Tq,Tr,Ts,Tt,Ty,Sc, z]
            tactic =>
              unfold x14l1
              rw [loop_rule l.ts.length (fun i => [.pt 0 0, .bool (lgT l i), I (i : Nat)]) (fun _ => hL l)]
              · (sym => (simp [cS_gr, cS_nm, cS_sl, cS_len, Za,Zb,Zf,Zh,Zl,Zm,Zn,Zo,Zq,Zs,Zu,Zx,Zy,Z2,Z5,Z7,ZC,ZE,ZT,ZU,ZX,ZZ,Ye,Yf,Yh,Yp,Yr,Yt,Yu,Yx,YE,YF,YL,YR,YU,YV,Xe,Xf,Xk,Xr,XP,XQ,XU,XW,We,Wp,Wq,Wr,Wx,Wy,Wz,W4,W5,W7,W8,W9,WB,WE,WF,WG,WH,WM,WN,WS,Vi,Vw,Vx,Vz,V0,V1,V2,V3,V6,V7,V8,V9,VB,VC,VD,VE,VF,VG,VH,VI,VK,VL,VM,VO,VP,VR,VS,VT,VU,VV,VW,VZ,Uf,Ug,Uh,Uk,Ul,Um,Ur,Us,Ut,Uu,Uv,Uw,U1,U2,U9,UA,UO,UP,UQ,UR,US,UU,UZ,Te,Tf,Tg,Th,Ti,Tj,Tk,Tl,Tn,Tq,Tr,Ts,Tt,Ty,Sc, z2, sf]; all_goals tactic => exact rfl))
              · (sym => (simp [cS_gr, cS_nm, cS_sl, cS_len, Za,Zb,Zf,Zh,Zl,Zm,Zn,Zo,Zq,Zs,Zu,Zx,Zy,Z2,Z5,Z7,ZC,ZE,ZT,ZU,ZX,ZZ,Ye,Yf,Yh,Yp,Yr,Yt,Yu,Yx,YE,YF,YL,YR,YU,YV,Xe,Xf,Xk,Xr,XP,XQ,XU,XW,We,Wp,Wq,Wr,Wx,Wy,Wz,W4,W5,W7,W8,W9,WB,WE,WF,WG,WH,WM,WN,WS,Vi,Vw,Vx,Vz,V0,V1,V2,V3,V6,V7,V8,V9,VB,VC,VD,VE,VF,VG,VH,VI,VK,VL,VM,VO,VP,VR,VS,VT,VU,VV,VW,VZ,Uf,Ug,Uh,Uk,Ul,Um,Ur,Us,Ut,Uu,Uv,Uw,U1,U2,U9,UA,UO,UP,UQ,UR,US,UU,UZ,Te,Tf,Tg,Th,Ti,Tj,Tk,Tl,Tn,Tq,Tr,Ts,Tt,Ty,Sc, s1]; all_goals tactic => exact rfl))
              · exact rdt
              · (sym => (simp [cS_gr, cS_nm, cS_sl, cS_len, Za,Zb,Zf,Zh,Zl,Zm,Zn,Zo,Zq,Zs,Zu,Zx,Zy,Z2,Z5,Z7,ZC,ZE,ZT,ZU,ZX,ZZ,Ye,Yf,Yh,Yp,Yr,Yt,Yu,Yx,YE,YF,YL,YR,YU,YV,Xe,Xf,Xk,Xr,XP,XQ,XU,XW,We,Wp,Wq,Wr,Wx,Wy,Wz,W4,W5,W7,W8,W9,WB,WE,WF,WG,WH,WM,WN,WS,Vi,Vw,Vx,Vz,V0,V1,V2,V3,V6,V7,V8,V9,VB,VC,VD,VE,VF,VG,VH,VI,VK,VL,VM,VO,VP,VR,VS,VT,VU,VV,VW,VZ,Uf,Ug,Uh,Uk,Ul,Um,Ur,Us,Ut,Uu,Uv,Uw,U1,U2,U9,UA,UO,UP,UQ,UR,US,UU,UZ,Te,Tf,Tg,Th,Ti,Tj,Tk,Tl,Tn,Tq,Tr,Ts,Tt,Ty,Sc, z2]; all_goals tactic => exact rfl))
        · (sym => (simp [cS_gr, cS_nm, cS_sl, cS_len, Za,Zb,Zf,Zh,Zl,Zm,Zn,Zo,Zq,Zs,Zu,Zx,Zy,Z2,Z5,Z7,ZC,ZE,ZT,ZU,ZX,ZZ,Ye,Yf,Yh,Yp,Yr,Yt,Yu,Yx,YE,YF,YL,YR,YU,YV,Xe,Xf,Xk,Xr,XP,XQ,XU,XW,We,Wp,Wq,Wr,Wx,Wy,Wz,W4,W5,W7,W8,W9,WB,WE,WF,WG,WH,WM,WN,WS,Vi,Vw,Vx,Vz,V0,V1,V2,V3,V6,V7,V8,V9,VB,VC,VD,VE,VF,VG,VH,VI,VK,VL,VM,VO,VP,VR,VS,VT,VU,VV,VW,VZ,Uf,Ug,Uh,Uk,Ul,Um,Ur,Us,Ut,Uu,Uv,Uw,U1,U2,U9,UA,UO,UP,UQ,UR,US,UU,UZ,Te,Tf,Tg,Th,Ti,Tj,Tk,Tl,Tn,Tq,Tr,Ts,Tt,Ty,Sc, s2, e0]; all_goals tactic => exact rfl))
        · exact rdk
        · (sym => (simp [cS_gr, cS_nm, cS_sl, cS_len, Za,Zb,Zf,Zh,Zl,Zm,Zn,Zo,Zq,Zs,Zu,Zx,Zy,Z2,Z5,Z7,ZC,ZE,ZT,ZU,ZX,ZZ,Ye,Yf,Yh,Yp,Yr,Yt,Yu,Yx,YE,YF,YL,YR,YU,YV,Xe,Xf,Xk,Xr,XP,XQ,XU,XW,We,Wp,Wq,Wr,Wx,Wy,Wz,W4,W5,W7,W8,W9,WB,WE,WF,WG,WH,WM,WN,WS,Vi,Vw,Vx,Vz,V0,V1,V2,V3,V6,V7,V8,V9,VB,VC,VD,VE,VF,VG,VH,VI,VK,VL,VM,VO,VP,VR,VS,VT,VU,VV,VW,VZ,Uf,Ug,Uh,Uk,Ul,Um,Ur,Us,Ut,Uu,Uv,Uw,U1,U2,U9,UA,UO,UP,UQ,UR,US,UU,UZ,Te,Tf,Tg,Th,Ti,Tj,Tk,Tl,Tn,Tq,Tr,Ts,Tt,Ty,Sc, z]; all_goals tactic => exact rfl))

/-! ### Equal spans -/
/-! ### What the reference gets -/
def cT (l : List St) : List AV := (l.map St.row).flatten
theorem ct_ok (k : List St) : RowsOk 2 (k.map St.row) := by
  intro r hr
  simp only [List.mem_map] at hr
  obtain ⟨x, _, rfl⟩ := hr
  exact ⟨rfl, rfl, rfl, rfl⟩
theorem cT_len (l : List St) : (cT l).length = l.length * 2 := by rw [cT, (rows_cells (ct_ok _)).2.2.2, List.length_map]
theorem cT_app (l : List St) (x : St) : cT (l ++ [x]) = cT l ++ x.row := by simp [cT]
theorem cT_ch (l : List St) : chunks (cT l) 0 2 l.length = l.map St.row := by
  have := rows_chunks (ct_ok l)
  rw [List.length_map] at this
  exact this
def cL (l : List Ld) : List AV := (l.map Ld.row).flatten
theorem cl_ok (k : List Ld) : RowsOk 5 (k.map Ld.row) := by
  intro r hr
  simp only [List.mem_map] at hr
  obtain ⟨x, _, rfl⟩ := hr
  exact ⟨rfl, rfl, rfl, rfl⟩
theorem cL_len (l : List Ld) : (cL l).length = l.length * 5 := by rw [cL, (rows_cells (cl_ok _)).2.2.2, List.length_map]
theorem cL_app (l : List Ld) (x : Ld) : cL (l ++ [x]) = cL l ++ x.row := by simp [cL]
theorem cL_ch (l : List Ld) : chunks (cL l) 0 5 l.length = l.map Ld.row := by
  have := rows_chunks (cl_ok l)
  rw [List.length_map] at this
  exact this
def vK (l : Li) (i : Nat) : List AV := (l.ks.take i).map fun k => rS k
theorem vK_len {l : Li} {i : Nat} (h : i ≤ l.ks.length) : (vK l i).length = i := by simp [vK]; omega
theorem vK_up {l : Li} {i : Nat} {k : List St} (h : l.ks[i]? = some k) : vK l (i + 1) = vK l i ++ [rS k] := by
  unfold vK
  rw [List.take_add_one, h, List.map_append]
  rfl
theorem chunksV : ∀ (l pre : List AV), chunks (pre ++ l) pre.length 1 l.length = l.map fun v => [v]
  | [], pre => rfl
  | a :: r, pre => by
    have h := chunksV r (pre ++ [a])
    simp only [List.append_assoc, List.cons_append, List.nil_append, List.length_append, List.length_cons, List.length_nil] at h
    rw [List.length_cons, chunks]
    simp only [Nat.zero_add] at h
    rw [h, List.drop_left' rfl, List.map_cons]
    rfl
theorem vK_ch (l : Li) : chunks (vK l l.ks.length) 0 1 l.ks.length = l.ks.map fun k => [rS k] := by
  have := chunksV (vK l l.ks.length) []
  rw [vK_len (Nat.le_refl _)] at this
  rw [List.nil_append] at this
  rw [show ([] : List AV).length = 0 from rfl] at this
  rw [this]
  unfold vK
  rw [List.take_length, List.map_map]
  rfl
abbrev bZ : Option XB := some (.blk true (.cells true [.nilsl, .nilsl, .nilsl, I 0, I 0]))
def hV1 (l : Li) (i : Nat) : XH := if i = 0 then [some (.blk true (.cells true l.c)), bZ, some (.blk true (.cells true [.nilsl, .nilsl, tR l.ts, I l.lo, I l.hi]))] else
  [some (.blk true (.cells true l.c)), bZ, some (.blk false (.cells true [.sl 3 0 1 i, .nilsl, tR l.ts, I l.lo, I l.hi])), some (.blk true (.cells true (vK l i)))]
def kV1 (i j : Nat) : AV := if j = 0 then .nilsl else .sl (if i = 0 then 3 else 4) 0 2 j
def hV1k (l : Li) (i : Nat) (k : List St) (j : Nat) : XH := hV1 l i ++ if j = 0 then [] else [some (.blk true (.cells true (cT (k.take j))))]
theorem take_up {α : Type} {l : List α} {i : Nat} {x : α} (h : l[i]? = some x) : l.take (i + 1) = l.take i ++ [x] := by rw [List.take_add_one, h]; rfl
theorem round16k {l : Li} (hs : Small l) {i : Nat} {k : List St} (hk : l.ks[i]? = some k) {j : Nat} (hj : j < k.length) :
    headX 0 [1, 2, 3, 4, 5, 6] (execW progX 16 0 none (match x16l0 with | .loop _ a => a | c => c) (envL [1, 2, 3, 4, 5, 6] [.pt 0 0, .pt 1 0, .pt 2 0, I (i : Nat), kV1 i j, I (j : Nat)]) (hV1k l i k j)) =
      some ([.pt 0 0, .pt 1 0, .pt 2 0, I (i : Nat), kV1 i (j + 1), I (j + 1 : Nat)], hV1k l i k (j + 1)) := by
  have hk20 := hs.eachK k (List.mem_of_getElem? hk)
  have hi := lt_of hk
  have hks := hs.ks
  obtain ⟨x, hx⟩ := at_ix hj
  have b1 := lt_ix hi
  have a1 := lt_ix hj
  have a2 := up_ix hj (by omega)
  have q1 : ((j + 1) * 16 ≤ 1099511627776) = True := eq_true (by omega)
  have q2 : (j + 1 ≤ 1099511627776) = True := eq_true (by omega)
  have tl : (k.take j).length = j := by rw [List.length_take]; omega
  have cl := cT_len (k.take j)
  rw [tl] at cl
  have ca := cT_app (k.take j) x
  rw [← take_up hx] at ca
  have c0 : cT (k.take 0) = [] := rfl
  unfold hV1k kV1 hV1
  rw [ca]
  simp only [Nat.add_one_ne_zero, if_false]
  unfold x16l0
  dsimp only
  by_cases hi0 : i = 0
  · subst hi0
    have b1 : ((0 : Int) < (l.ks.length : Int)) = True := b1
    by_cases hj0 : j = 0
    · subst hj0
      have a1 : ((0 : Int) < (k.length : Int)) = True := a1
      simp only [if_true]
      (sym => (simp [cS_gr, cS_nm, cS_sl, cS_len, Za,Zb,Zd,Ze,Zf,Zh,Zl,Zm,Zn,Zu,Z0,Z2,Z5,Z7,ZC,ZE,ZQ,ZX,ZZ,Ye,Yf,Yh,Yp,Yt,Yu,Yv,Yw,Yx,Yz,YE,YJ,YK,YL,YN,YR,YU,Xe,Xi,Xj,Xk,Xm,We,Wp,Wq,Wr,Ws,Wt,Wu,Wv,Ww,Wy,Wz,W0,W4,W5,W7,W8,W9,WB,WE,WF,WG,WH,WM,WN,WO,WS,WT,VC,VD,VE,VF,VG,VL,VM,VN,VO,VP,VR,VS,VT,VU,VV,VW,VZ,Uh,Uk,Ul,Un,Uo,Ur,Us,Ut,Uu,Uv,Uw,U3,U4,U5,U6,UB,UC,UD,UE,UI,UJ,UK,UL,UM,UN,UP,UQ,UR,US,UT,UU,UZ,Ta,Tb,Tc,Td,Te,Tf,Th,Tj,Tk,Tn,Tr,Ts,Tt,Ty,T5, b1, a1, hk, hx, c0]; all_goals tactic => exact rfl))
    · simp only [if_true, hj0, if_false]
      generalize cT (k.take j) = cc at *
      (sym => (simp [cS_gr, cS_nm, cS_sl, cS_len, Za,Zb,Zd,Ze,Zf,Zh,Zl,Zm,Zn,Zu,Z0,Z2,Z5,Z7,ZC,ZE,ZQ,ZX,ZZ,Ye,Yf,Yh,Yp,Yt,Yu,Yv,Yw,Yx,Yz,YE,YJ,YK,YL,YN,YR,YU,Xe,Xi,Xj,Xk,Xm,We,Wp,Wq,Wr,Ws,Wt,Wu,Wv,Ww,Wy,Wz,W0,W4,W5,W7,W8,W9,WB,WE,WF,WG,WH,WM,WN,WO,WS,WT,VC,VD,VE,VF,VG,VL,VM,VN,VO,VP,VR,VS,VT,VU,VV,VW,VZ,Uh,Uk,Ul,Un,Uo,Ur,Us,Ut,Uu,Uv,Uw,U3,U4,U5,U6,UB,UC,UD,UE,UI,UJ,UK,UL,UM,UN,UP,UQ,UR,US,UT,UU,UZ,Ta,Tb,Tc,Td,Te,Tf,Th,Tj,Tk,Tn,Tr,Ts,Tt,Ty,T5, b1, a1, a2, hk, hx, q1, q2, cl]; all_goals tactic => exact rfl))
  · simp only [hi0, if_false]
    by_cases hj0 : j = 0
    · subst hj0
      have a1 : ((0 : Int) < (k.length : Int)) = True := a1
      simp only [if_true]
      (sym => (simp [cS_gr, cS_nm, cS_sl, cS_len, Za,Zb,Zd,Ze,Zf,Zh,Zl,Zm,Zn,Zu,Z0,Z2,Z5,Z7,ZC,ZE,ZQ,ZX,ZZ,Ye,Yf,Yh,Yp,Yt,Yu,Yv,Yw,Yx,Yz,YE,YJ,YK,YL,YN,YR,YU,Xe,Xi,Xj,Xk,Xm,We,Wp,Wq,Wr,Ws,Wt,Wu,Wv,Ww,Wy,Wz,W0,W4,W5,W7,W8,W9,WB,WE,WF,WG,WH,WM,WN,WO,WS,WT,VC,VD,VE,VF,VG,VL,VM,VN,VO,VP,VR,VS,VT,VU,VV,VW,VZ,Uh,Uk,Ul,Un,Uo,Ur,Us,Ut,Uu,Uv,Uw,U3,U4,U5,U6,UB,UC,UD,UE,UI,UJ,UK,UL,UM,UN,UP,UQ,UR,US,UT,UU,UZ,Ta,Tb,Tc,Td,Te,Tf,Th,Tj,Tk,Tn,Tr,Ts,Tt,Ty,T5, b1, a1, hk, hx, c0]; all_goals tactic => exact rfl))
    · simp only [hj0, if_false]
      generalize cT (k.take j) = cc at *
      (sym => (simp [cS_gr, cS_nm, cS_sl, cS_len, Za,Zb,Zd,Ze,Zf,Zh,Zl,Zm,Zn,Zu,Z0,Z2,Z5,Z7,ZC,ZE,ZQ,ZX,ZZ,Ye,Yf,Yh,Yp,Yt,Yu,Yv,Yw,Yx,Yz,YE,YJ,YK,YL,YN,YR,YU,Xe,Xi,Xj,Xk,Xm,We,Wp,Wq,Wr,Ws,Wt,Wu,Wv,Ww,Wy,Wz,W0,W4,W5,W7,W8,W9,WB,WE,WF,WG,WH,WM,WN,WO,WS,WT,VC,VD,VE,VF,VG,VL,VM,VN,VO,VP,VR,VS,VT,VU,VV,VW,VZ,Uh,Uk,Ul,Un,Uo,Ur,Us,Ut,Uu,Uv,Uw,U3,U4,U5,U6,UB,UC,UD,UE,UI,UJ,UK,UL,UM,UN,UP,UQ,UR,US,UT,UU,UZ,Ta,Tb,Tc,Td,Te,Tf,Th,Tj,Tk,Tn,Tr,Ts,Tt,Ty,T5, b1, a1, a2, hk, hx, q1, q2, cl]; all_goals tactic => exact rfl))
theorem round16 {l : Li} (hs : Small l) {i : Nat} (hi : i < l.ks.length) :
    headX 0 [1, 2, 3, 4] (execW progX 16 0 none (match x16l1 with | .loop _ a => a | c => c) (envL [1, 2, 3, 4] [.pt 0 0, .pt 1 0, .pt 2 0, I (i : Nat)]) (hV1 l i)) = some ([.pt 0 0, .pt 1 0, .pt 2 0, I (i + 1 : Nat)], hV1 l (i + 1)) := by
  obtain ⟨k, hk⟩ := at_ix hi
  have hk20 := hs.eachK k (List.mem_of_getElem? hk)
  have hks := hs.ks
  have b1 := lt_ix hi
  have b2 := up_ix hi (by omega)
  have z := UO (n := (k.length : Int))
  have rd := fun (j : Nat) (hj : j < k.length) => round16k hs hk hj
  have ch := cT_ch k
  have cl := cT_len k
  have vl := vK_len (l := l) (i := i) (by omega)
  have vu := vK_up hk
  have v0 : vK l 0 = [] := rfl
  have q1 : ((i + 1) * 24 ≤ 1099511627776) = True := eq_true (by omega)
  have q2 : (i + 1 ≤ 1099511627776) = True := eq_true (by omega)
  have kk0 : kV1 i 0 = .nilsl := rfl
  have hk0 : hV1k l i k 0 = hV1 l i := by unfold hV1k; rw [if_pos rfl, List.append_nil]
  have e1 : hV1 l (i + 1) = [some (.blk true (.cells true l.c)), bZ, some (.blk false (.cells true [.sl 3 0 1 (i + 1), .nilsl, tR l.ts, I l.lo, I l.hi])), some (.blk true (.cells true (vK l i ++ [rS k])))] := by
    unfold hV1
    rw [if_neg (by omega), vu]
  have tk : k.take k.length = k := List.take_length
  have en : hV1k l i k k.length = hV1 l i ++ if k.length = 0 then [] else [some (.blk true (.cells true (cT k)))] := by unfold hV1k; rw [tk]
  have ek : kV1 i k.length = if k.length = 0 then .nilsl else .sl (if i = 0 then 3 else 4) 0 2 k.length := rfl
  have ev : hV1 l i = if i = 0 then [some (.blk true (.cells true l.c)), bZ, some (.blk true (.cells true [.nilsl, .nilsl, tR l.ts, I l.lo, I l.hi]))] else
      [some (.blk true (.cells true l.c)), bZ, some (.blk false (.cells true [.sl 3 0 1 i, .nilsl, tR l.ts, I l.lo, I l.hi])), some (.blk true (.cells true (vK l i)))] := rfl
  have ce : (k.length * 2 ≤ k.length * 2) = True := eq_true (Nat.le_refl _)
  have kz : k.length = 0 → rS k = .fs [] := fun h => by rw [List.eq_nil_of_length_eq_zero h]; rfl
  rw [e1]
  obtain ⟨SK, hSK⟩ : ∃ s : Nat → AV, s = kV1 i := ⟨_, rfl⟩
  obtain ⟨GK, hGK⟩ : ∃ s : Nat → XH, s = hV1k l i k := ⟨_, rfl⟩
  rw [← hSK] at rd kk0 ek
  rw [← hGK] at rd hk0 en
  rw [ev] at hk0 en ⊢
  clear ev e1 hSK hGK
  unfold x16l1
  dsimp only
  by_cases hi0 : i = 0
  · subst hi0
    have b1 : ((0 : Int) < (l.ks.length : Int)) = True := b1
    simp only [if_true] at ek en hk0 ⊢
    sym =>
      simp [cS_gr, cS_nm, cS_sl, cS_len, Za,Zb,Zc,Zd,Ze,Zf,Zg,Zh,Zj,Zl,Zm,Zn,Zu,Z0,Z2,Z5,Z7,ZC,ZE,ZI,ZJ,ZQ,ZX,ZZ,Ye,Yf,Yh,Yp,Yt,Yu,Yv,Yw,Yx,Yz,YE,YJ,YK,YL,YN,YR,YV,YX,Xa,Xe,Xi,Xj,Xk,Xm,Xv,Xx,X0,XK,XL,XM,XN,XW,XY,Wf,Wg,Wp,Wq,Wr,Ws,Wt,Wu,Wv,Ww,Wy,Wz,W0,W4,W5,W7,W8,W9,WB,WE,WF,WG,WH,WM,WN,WO,WS,WT,Vf,Vg,Vh,Vi,Vj,Vk,Vl,Vm,Vs,Vt,Vu,VC,VD,VE,VF,VG,VH,VI,VL,VM,VN,VO,VP,VR,VS,VT,VU,VV,VW,VZ,Ub,Uh,Ui,Uk,Ul,Um,Un,Uo,Ur,Us,Ut,Uu,Uv,Uw,Uz,U0,U3,U4,U5,U6,UB,UC,UD,UE,UI,UJ,UK,UL,UM,UN,UO,UP,UQ,UR,US,UU,UV,UW,UZ,Ta,Tb,Tc,Td,Te,Tf,Th,Ti,Tj,Tk,Tl,Tn,Tq,Tr,Ts,Tt,Tw,Tx,Ty,Tz,T5,Sc,Sd,Se,Sn,Sq,Ss, b1]
      tactic =>
        unfold x16l0
        rw [loop_rule k.length (fun j => [.pt 0 0, .pt 1 0, .pt 2 0, I ((0 : Nat) : Int), SK j, I (j : Nat)]) GK]
        · by_cases hz : k.length = 0
          · rw [kz hz]
            rw [if_pos hz] at ek en
            rw [hz] at z ek en ⊢
            (sym => (simp [cS_gr, cS_nm, cS_sl, cS_len, Za,Zb,Zc,Zd,Ze,Zf,Zg,Zh,Zj,Zl,Zm,Zn,Zu,Z0,Z2,Z5,Z7,ZC,ZE,ZI,ZJ,ZQ,ZX,ZZ,Ye,Yf,Yh,Yp,Yt,Yu,Yv,Yw,Yx,Yz,YE,YJ,YK,YL,YN,YR,YV,YX,Xa,Xe,Xi,Xj,Xk,Xm,Xv,Xx,X0,XK,XL,XM,XN,XW,XY,Wf,Wg,Wp,Wq,Wr,Ws,Wt,Wu,Wv,Ww,Wy,Wz,W0,W4,W5,W7,W8,W9,WB,WE,WF,WG,WH,WM,WN,WO,WS,WT,Vf,Vg,Vh,Vi,Vj,Vk,Vl,Vm,Vs,Vt,Vu,VC,VD,VE,VF,VG,VH,VI,VL,VM,VN,VO,VP,VR,VS,VT,VU,VV,VW,VZ,Ub,Uh,Ui,Uk,Ul,Um,Un,Uo,Ur,Us,Ut,Uu,Uv,Uw,Uz,U0,U3,U4,U5,U6,UB,UC,UD,UE,UI,UJ,UK,UL,UM,UN,UO,UP,UQ,UR,US,UU,UV,UW,UZ,Ta,Tb,Tc,Td,Te,Tf,Th,Ti,Tj,Tk,Tl,Tn,Tq,Tr,Ts,Tt,Tw,Tx,Ty,Tz,T5,Sc,Sd,Se,Sn,Sq,Ss, b1, hk, hz, ek, en, v0]; all_goals tactic => exact rfl))
          · rw [if_neg hz] at ek en
            (sym => (simp [cS_gr, cS_nm, cS_sl, cS_len, Za,Zb,Zc,Zd,Ze,Zf,Zg,Zh,Zj,Zl,Zm,Zn,Zu,Z0,Z2,Z5,Z7,ZC,ZE,ZI,ZJ,ZQ,ZX,ZZ,Ye,Yf,Yh,Yp,Yt,Yu,Yv,Yw,Yx,Yz,YE,YJ,YK,YL,YN,YR,YV,YX,Xa,Xe,Xi,Xj,Xk,Xm,Xv,Xx,X0,XK,XL,XM,XN,XW,XY,Wf,Wg,Wp,Wq,Wr,Ws,Wt,Wu,Wv,Ww,Wy,Wz,W0,W4,W5,W7,W8,W9,WB,WE,WF,WG,WH,WM,WN,WO,WS,WT,Vf,Vg,Vh,Vi,Vj,Vk,Vl,Vm,Vs,Vt,Vu,VC,VD,VE,VF,VG,VH,VI,VL,VM,VN,VO,VP,VR,VS,VT,VU,VV,VW,VZ,Ub,Uh,Ui,Uk,Ul,Um,Un,Uo,Ur,Us,Ut,Uu,Uv,Uw,Uz,U0,U3,U4,U5,U6,UB,UC,UD,UE,UI,UJ,UK,UL,UM,UN,UO,UP,UQ,UR,US,UU,UV,UW,UZ,Ta,Tb,Tc,Td,Te,Tf,Th,Ti,Tj,Tk,Tl,Tn,Tq,Tr,Ts,Tt,Tw,Tx,Ty,Tz,T5,Sc,Sd,Se,Sn,Sq,Ss, b1, hk, z, ek, en, v0, cl, ch, ce]; all_goals tactic => exact rfl))
        · (sym => (simp [cS_gr, cS_nm, cS_sl, cS_len, Za,Zb,Zc,Zd,Ze,Zf,Zg,Zh,Zj,Zl,Zm,Zn,Zu,Z0,Z2,Z5,Z7,ZC,ZE,ZI,ZJ,ZQ,ZX,ZZ,Ye,Yf,Yh,Yp,Yt,Yu,Yv,Yw,Yx,Yz,YE,YJ,YK,YL,YN,YR,YV,YX,Xa,Xe,Xi,Xj,Xk,Xm,Xv,Xx,X0,XK,XL,XM,XN,XW,XY,Wf,Wg,Wp,Wq,Wr,Ws,Wt,Wu,Wv,Ww,Wy,Wz,W0,W4,W5,W7,W8,W9,WB,WE,WF,WG,WH,WM,WN,WO,WS,WT,Vf,Vg,Vh,Vi,Vj,Vk,Vl,Vm,Vs,Vt,Vu,VC,VD,VE,VF,VG,VH,VI,VL,VM,VN,VO,VP,VR,VS,VT,VU,VV,VW,VZ,Ub,Uh,Ui,Uk,Ul,Um,Un,Uo,Ur,Us,Ut,Uu,Uv,Uw,Uz,U0,U3,U4,U5,U6,UB,UC,UD,UE,UI,UJ,UK,UL,UM,UN,UO,UP,UQ,UR,US,UU,UV,UW,UZ,Ta,Tb,Tc,Td,Te,Tf,Th,Ti,Tj,Tk,Tl,Tn,Tq,Tr,Ts,Tt,Tw,Tx,Ty,Tz,T5,Sc,Sd,Se,Sn,Sq,Ss, kk0, hk0]; all_goals tactic => exact rfl))
        · exact rd
        · (sym => (simp [cS_gr, cS_nm, cS_sl, cS_len, Za,Zb,Zc,Zd,Ze,Zf,Zg,Zh,Zj,Zl,Zm,Zn,Zu,Z0,Z2,Z5,Z7,ZC,ZE,ZI,ZJ,ZQ,ZX,ZZ,Ye,Yf,Yh,Yp,Yt,Yu,Yv,Yw,Yx,Yz,YE,YJ,YK,YL,YN,YR,YV,YX,Xa,Xe,Xi,Xj,Xk,Xm,Xv,Xx,X0,XK,XL,XM,XN,XW,XY,Wf,Wg,Wp,Wq,Wr,Ws,Wt,Wu,Wv,Ww,Wy,Wz,W0,W4,W5,W7,W8,W9,WB,WE,WF,WG,WH,WM,WN,WO,WS,WT,Vf,Vg,Vh,Vi,Vj,Vk,Vl,Vm,Vs,Vt,Vu,VC,VD,VE,VF,VG,VH,VI,VL,VM,VN,VO,VP,VR,VS,VT,VU,VV,VW,VZ,Ub,Uh,Ui,Uk,Ul,Um,Un,Uo,Ur,Us,Ut,Uu,Uv,Uw,Uz,U0,U3,U4,U5,U6,UB,UC,UD,UE,UI,UJ,UK,UL,UM,UN,UO,UP,UQ,UR,US,UU,UV,UW,UZ,Ta,Tb,Tc,Td,Te,Tf,Th,Ti,Tj,Tk,Tl,Tn,Tq,Tr,Ts,Tt,Tw,Tx,Ty,Tz,T5,Sc,Sd,Se,Sn,Sq,Ss, b1, hk, z, en]; all_goals tactic => exact rfl))
  · simp only [hi0, if_false] at ek en hk0 ⊢
    sym =>
      simp [cS_gr, cS_nm, cS_sl, cS_len, Za,Zb,Zc,Zd,Ze,Zf,Zg,Zh,Zj,Zl,Zm,Zn,Zu,Z0,Z2,Z5,Z7,ZC,ZE,ZI,ZJ,ZQ,ZX,ZZ,Ye,Yf,Yh,Yp,Yt,Yu,Yv,Yw,Yx,Yz,YE,YJ,YK,YL,YN,YR,YV,YX,Xa,Xe,Xi,Xj,Xk,Xm,Xv,Xx,X0,XK,XL,XM,XN,XW,XY,Wf,Wg,Wp,Wq,Wr,Ws,Wt,Wu,Wv,Ww,Wy,Wz,W0,W4,W5,W7,W8,W9,WB,WE,WF,WG,WH,WM,WN,WO,WS,WT,Vf,Vg,Vh,Vi,Vj,Vk,Vl,Vm,Vs,Vt,Vu,VC,VD,VE,VF,VG,VH,VI,VL,VM,VN,VO,VP,VR,VS,VT,VU,VV,VW,VZ,Ub,Uh,Ui,Uk,Ul,Um,Un,Uo,Ur,Us,Ut,Uu,Uv,Uw,Uz,U0,U3,U4,U5,U6,UB,UC,UD,UE,UI,UJ,UK,UL,UM,UN,UO,UP,UQ,UR,US,UU,UV,UW,UZ,Ta,Tb,Tc,Td,Te,Tf,Th,Ti,Tj,Tk,Tl,Tn,Tq,Tr,Ts,Tt,Tw,Tx,Ty,Tz,T5,Sc,Sd,Se,Sn,Sq,Ss, b1]
      tactic =>
        unfold x16l0
        rw [loop_rule k.length (fun j => [.pt 0 0, .pt 1 0, .pt 2 0, I (i : Nat), SK j, I (j : Nat)]) GK]
        · by_cases hz : k.length = 0
          · rw [kz hz]
            rw [if_pos hz] at ek en
            rw [hz] at z ek en ⊢
            (sym => (simp [cS_gr, cS_nm, cS_sl, cS_len, Za,Zb,Zc,Zd,Ze,Zf,Zg,Zh,Zj,Zl,Zm,Zn,Zu,Z0,Z2,Z5,Z7,ZC,ZE,ZI,ZJ,ZQ,ZX,ZZ,Ye,Yf,Yh,Yp,Yt,Yu,Yv,Yw,Yx,Yz,YE,YJ,YK,YL,YN,YR,YV,YX,Xa,Xe,Xi,Xj,Xk,Xm,Xv,Xx,X0,XK,XL,XM,XN,XW,XY,Wf,Wg,Wp,Wq,Wr,Ws,Wt,Wu,Wv,Ww,Wy,Wz,W0,W4,W5,W7,W8,W9,WB,WE,WF,WG,WH,WM,WN,WO,WS,WT,Vf,Vg,Vh,Vi,Vj,Vk,Vl,Vm,Vs,Vt,Vu,VC,VD,VE,VF,VG,VH,VI,VL,VM,VN,VO,VP,VR,VS,VT,VU,VV,VW,VZ,Ub,Uh,Ui,Uk,Ul,Um,Un,Uo,Ur,Us,Ut,Uu,Uv,Uw,Uz,U0,U3,U4,U5,U6,UB,UC,UD,UE,UI,UJ,UK,UL,UM,UN,UO,UP,UQ,UR,US,UU,UV,UW,UZ,Ta,Tb,Tc,Td,Te,Tf,Th,Ti,Tj,Tk,Tl,Tn,Tq,Tr,Ts,Tt,Tw,Tx,Ty,Tz,T5,Sc,Sd,Se,Sn,Sq,Ss, b1, b2, hk, hz, ek, en, vl, q1, q2]; all_goals tactic => exact rfl))
          · rw [if_neg hz] at ek en
            (sym => (simp [cS_gr, cS_nm, cS_sl, cS_len, Za,Zb,Zc,Zd,Ze,Zf,Zg,Zh,Zj,Zl,Zm,Zn,Zu,Z0,Z2,Z5,Z7,ZC,ZE,ZI,ZJ,ZQ,ZX,ZZ,Ye,Yf,Yh,Yp,Yt,Yu,Yv,Yw,Yx,Yz,YE,YJ,YK,YL,YN,YR,YV,YX,Xa,Xe,Xi,Xj,Xk,Xm,Xv,Xx,X0,XK,XL,XM,XN,XW,XY,Wf,Wg,Wp,Wq,Wr,Ws,Wt,Wu,Wv,Ww,Wy,Wz,W0,W4,W5,W7,W8,W9,WB,WE,WF,WG,WH,WM,WN,WO,WS,WT,Vf,Vg,Vh,Vi,Vj,Vk,Vl,Vm,Vs,Vt,Vu,VC,VD,VE,VF,VG,VH,VI,VL,VM,VN,VO,VP,VR,VS,VT,VU,VV,VW,VZ,Ub,Uh,Ui,Uk,Ul,Um,Un,Uo,Ur,Us,Ut,Uu,Uv,Uw,Uz,U0,U3,U4,U5,U6,UB,UC,UD,UE,UI,UJ,UK,UL,UM,UN,UO,UP,UQ,UR,US,UU,UV,UW,UZ,Ta,Tb,Tc,Td,Te,Tf,Th,Ti,Tj,Tk,Tl,Tn,Tq,Tr,Ts,Tt,Tw,Tx,Ty,Tz,T5,Sc,Sd,Se,Sn,Sq,Ss, b1, b2, hk, z, ek, en, cl, ch, ce, vl, q1, q2]; all_goals tactic => exact rfl))
        · (sym => (simp [cS_gr, cS_nm, cS_sl, cS_len, Za,Zb,Zc,Zd,Ze,Zf,Zg,Zh,Zj,Zl,Zm,Zn,Zu,Z0,Z2,Z5,Z7,ZC,ZE,ZI,ZJ,ZQ,ZX,ZZ,Ye,Yf,Yh,Yp,Yt,Yu,Yv,Yw,Yx,Yz,YE,YJ,YK,YL,YN,YR,YV,YX,Xa,Xe,Xi,Xj,Xk,Xm,Xv,Xx,X0,XK,XL,XM,XN,XW,XY,Wf,Wg,Wp,Wq,Wr,Ws,Wt,Wu,Wv,Ww,Wy,Wz,W0,W4,W5,W7,W8,W9,WB,WE,WF,WG,WH,WM,WN,WO,WS,WT,Vf,Vg,Vh,Vi,Vj,Vk,Vl,Vm,Vs,Vt,Vu,VC,VD,VE,VF,VG,VH,VI,VL,VM,VN,VO,VP,VR,VS,VT,VU,VV,VW,VZ,Ub,Uh,Ui,Uk,Ul,Um,Un,Uo,Ur,Us,Ut,Uu,Uv,Uw,Uz,U0,U3,U4,U5,U6,UB,UC,UD,UE,UI,UJ,UK,UL,UM,UN,UO,UP,UQ,UR,US,UU,UV,UW,UZ,Ta,Tb,Tc,Td,Te,Tf,Th,Ti,Tj,Tk,Tl,Tn,Tq,Tr,Ts,Tt,Tw,Tx,Ty,Tz,T5,Sc,Sd,Se,Sn,Sq,Ss, kk0, hk0]; all_goals tactic => exact rfl))
        · exact rd
        · (sym => (simp [cS_gr, cS_nm, cS_sl, cS_len, Za,Zb,Zc,Zd,Ze,Zf,Zg,Zh,Zj,Zl,Zm,Zn,Zu,Z0,Z2,Z5,Z7,ZC,ZE,ZI,ZJ,ZQ,ZX,ZZ,Ye,Yf,Yh,Yp,Yt,Yu,Yv,Yw,Yx,Yz,YE,YJ,YK,YL,YN,YR,YV,YX,Xa,Xe,Xi,Xj,Xk,Xm,Xv,Xx,X0,XK,XL,XM,XN,XW,XY,Wf,Wg,Wp,Wq,Wr,Ws,Wt,Wu,Wv,Ww,Wy,Wz,W0,W4,W5,W7,W8,W9,WB,WE,WF,WG,WH,WM,WN,WO,WS,WT,Vf,Vg,Vh,Vi,Vj,Vk,Vl,Vm,Vs,Vt,Vu,VC,VD,VE,VF,VG,VH,VI,VL,VM,VN,VO,VP,VR,VS,VT,VU,VV,VW,VZ,Ub,Uh,Ui,Uk,Ul,Um,Un,Uo,Ur,Us,Ut,Uu,Uv,Uw,Uz,U0,U3,U4,U5,U6,UB,UC,UD,UE,UI,UJ,UK,UL,UM,UN,UO,UP,UQ,UR,US,UU,UV,UW,UZ,Ta,Tb,Tc,Td,Te,Tf,Th,Ti,Tj,Tk,Tl,Tn,Tq,Tr,Ts,Tt,Tw,Tx,Ty,Tz,T5,Sc,Sd,Se,Sn,Sq,Ss, b1, hk, z, en]; all_goals tactic => exact rfl))
def hV2 (l : Li) (m : Nat) : XH := if l.ks.length = 0 then
    (if m = 0 then [some (.blk true (.cells true l.c)), bZ, some (.blk true (.cells true [.nilsl, .nilsl, tR l.ts, I l.lo, I l.hi]))]
     else [some (.blk true (.cells true l.c)), bZ, some (.blk false (.cells true [.nilsl, .sl 3 0 5 m, tR l.ts, I l.lo, I l.hi])), some (.blk true (.cells true (cL (l.ls.take m))))])
  else (if m = 0 then [some (.blk true (.cells true l.c)), bZ, some (.blk false (.cells true [.sl 3 0 1 l.ks.length, .nilsl, tR l.ts, I l.lo, I l.hi])), some (.blk true (.cells true (vK l l.ks.length)))]
     else [some (.blk true (.cells true l.c)), bZ, some (.blk false (.cells true [.sl 3 0 1 l.ks.length, .sl 4 0 5 m, tR l.ts, I l.lo, I l.hi])), some (.blk true (.cells true (vK l l.ks.length))), some (.blk true (.cells true (cL (l.ls.take m))))])
theorem round16l {l : Li} (hs : Small l) {i : Nat} (hi : i < l.ls.length) :
    headX 0 [1, 2, 3, 7] (execW progX 16 0 none (match x16l2 with | .loop _ a => a | c => c) (envL [1, 2, 3, 7] [.pt 0 0, .pt 1 0, .pt 2 0, I (i : Nat)]) (hV2 l i)) = some ([.pt 0 0, .pt 1 0, .pt 2 0, I (i + 1 : Nat)], hV2 l (i + 1)) := by
  obtain ⟨x, hx⟩ := at_ix hi
  have hls := hs.ls
  have a1 := lt_ix hi
  have a2 := up_ix hi (by omega)
  have q1 : ((i + 1) * 40 ≤ 1099511627776) = True := eq_true (by omega)
  have q2 : (i + 1 ≤ 1099511627776) = True := eq_true (by omega)
  have tl : (l.ls.take i).length = i := by rw [List.length_take]; omega
  have cl := cL_len (l.ls.take i)
  rw [tl] at cl
  have ca := cL_app (l.ls.take i) x
  rw [← take_up hx] at ca
  have c0 : cL (l.ls.take 0) = [] := rfl
  unfold hV2
  rw [ca]
  simp only [Nat.add_one_ne_zero, if_false]
  unfold x16l2
  dsimp only
  by_cases hn : l.ks.length = 0
  · simp only [hn, if_true]
    by_cases hi0 : i = 0
    · subst hi0
      have a1 : ((0 : Int) < (l.ls.length : Int)) = True := a1
      simp only [if_true]
      (sym => (simp [cS_gr, cS_nm, cS_sl, cS_len, Za,Zb,Zc,Zd,Ze,Zf,Zh,Zi,Zl,Zm,Zn,Zu,Z0,Z2,Z5,Z7,ZC,ZE,ZF,ZG,ZH,ZI,ZK,ZL,ZX,ZZ,Ye,Yf,Yh,Yp,Yt,Yu,Yv,Yw,Yx,Yz,YE,YJ,YK,YL,YN,YR,YU,YX,Xe,Xi,Xj,Xk,Xm,We,Wg,Wm,Wn,Wo,Wp,Wq,Wr,Ws,Wt,Wu,Wv,Ww,Wy,Wz,W0,W4,W5,W7,W8,W9,WB,WE,WF,WG,WH,WM,WN,WO,WS,WT,WZ,VC,VD,VE,VF,VG,VL,VM,VN,VO,VP,VR,VS,VT,VU,VV,VW,VZ,Ub,Ud,Ue,Uh,Uk,Ul,Um,Un,Uo,Ur,Us,Ut,Uu,Uv,Uw,U3,U4,U5,U6,UB,UC,UD,UE,UI,UJ,UK,UL,UM,UN,UP,UQ,UR,US,UT,UU,UV,UW,UZ,Ta,Tb,Tc,Td,Te,Tf,Th,Tj,Tk,Tn,Tr,Ts,Tt,Ty,T5,TY,Sa,Sb, a1, hx, c0]; all_goals tactic => exact rfl))
    · simp only [hi0, if_false]
      generalize cL (l.ls.take i) = cc at *
      (sym => (simp [cS_gr, cS_nm, cS_sl, cS_len, Za,Zb,Zc,Zd,Ze,Zf,Zh,Zi,Zl,Zm,Zn,Zu,Z0,Z2,Z5,Z7,ZC,ZE,ZF,ZG,ZH,ZI,ZK,ZL,ZX,ZZ,Ye,Yf,Yh,Yp,Yt,Yu,Yv,Yw,Yx,Yz,YE,YJ,YK,YL,YN,YR,YU,YX,Xe,Xi,Xj,Xk,Xm,We,Wg,Wm,Wn,Wo,Wp,Wq,Wr,Ws,Wt,Wu,Wv,Ww,Wy,Wz,W0,W4,W5,W7,W8,W9,WB,WE,WF,WG,WH,WM,WN,WO,WS,WT,WZ,VC,VD,VE,VF,VG,VL,VM,VN,VO,VP,VR,VS,VT,VU,VV,VW,VZ,Ub,Ud,Ue,Uh,Uk,Ul,Um,Un,Uo,Ur,Us,Ut,Uu,Uv,Uw,U3,U4,U5,U6,UB,UC,UD,UE,UI,UJ,UK,UL,UM,UN,UP,UQ,UR,US,UT,UU,UV,UW,UZ,Ta,Tb,Tc,Td,Te,Tf,Th,Tj,Tk,Tn,Tr,Ts,Tt,Ty,T5,TY,Sa,Sb, a1, a2, hx, q1, q2, cl]; all_goals tactic => exact rfl))
  · simp only [hn, if_false]
    by_cases hi0 : i = 0
    · subst hi0
      have a1 : ((0 : Int) < (l.ls.length : Int)) = True := a1
      simp only [if_true]
      (sym => (simp [cS_gr, cS_nm, cS_sl, cS_len, Za,Zb,Zc,Zd,Ze,Zf,Zh,Zi,Zl,Zm,Zn,Zu,Z0,Z2,Z5,Z7,ZC,ZE,ZF,ZG,ZH,ZI,ZK,ZL,ZX,ZZ,Ye,Yf,Yh,Yp,Yt,Yu,Yv,Yw,Yx,Yz,YE,YJ,YK,YL,YN,YR,YU,YX,Xe,Xi,Xj,Xk,Xm,We,Wg,Wm,Wn,Wo,Wp,Wq,Wr,Ws,Wt,Wu,Wv,Ww,Wy,Wz,W0,W4,W5,W7,W8,W9,WB,WE,WF,WG,WH,WM,WN,WO,WS,WT,WZ,VC,VD,VE,VF,VG,VL,VM,VN,VO,VP,VR,VS,VT,VU,VV,VW,VZ,Ub,Ud,Ue,Uh,Uk,Ul,Um,Un,Uo,Ur,Us,Ut,Uu,Uv,Uw,U3,U4,U5,U6,UB,UC,UD,UE,UI,UJ,UK,UL,UM,UN,UP,UQ,UR,US,UT,UU,UV,UW,UZ,Ta,Tb,Tc,Td,Te,Tf,Th,Tj,Tk,Tn,Tr,Ts,Tt,Ty,T5,TY,Sa,Sb, a1, hx, c0]; all_goals tactic => exact rfl))
    · simp only [hi0, if_false]
      generalize cL (l.ls.take i) = cc at *
      (sym => (simp [cS_gr, cS_nm, cS_sl, cS_len, Za,Zb,Zc,Zd,Ze,Zf,Zh,Zi,Zl,Zm,Zn,Zu,Z0,Z2,Z5,Z7,ZC,ZE,ZF,ZG,ZH,ZI,ZK,ZL,ZX,ZZ,Ye,Yf,Yh,Yp,Yt,Yu,Yv,Yw,Yx,Yz,YE,YJ,YK,YL,YN,YR,YU,YX,Xe,Xi,Xj,Xk,Xm,We,Wg,Wm,Wn,Wo,Wp,Wq,Wr,Ws,Wt,Wu,Wv,Ww,Wy,Wz,W0,W4,W5,W7,W8,W9,WB,WE,WF,WG,WH,WM,WN,WO,WS,WT,WZ,VC,VD,VE,VF,VG,VL,VM,VN,VO,VP,VR,VS,VT,VU,VV,VW,VZ,Ub,Ud,Ue,Uh,Uk,Ul,Um,Un,Uo,Ur,Us,Ut,Uu,Uv,Uw,U3,U4,U5,U6,UB,UC,UD,UE,UI,UJ,UK,UL,UM,UN,UP,UQ,UR,US,UT,UU,UV,UW,UZ,Ta,Tb,Tc,Td,Te,Tf,Th,Tj,Tk,Tn,Tr,Ts,Tt,Ty,T5,TY,Sa,Sb, a1, a2, hx, q1, q2, cl]; all_goals tactic => exact rfl))
theorem w16 {l : Li} (hs : Small l) : runW progX 16 [.agg l.c] [] = some (.agg l.c, []) := by
  have z := UO (n := (l.ks.length : Int))
  have z2 := UO (n := (l.ls.length : Int))
  have rd1 := fun (i : Nat) (hi : i < l.ks.length) => round16 hs hi
  have rd2 := fun (i : Nat) (hi : i < l.ls.length) => round16l hs hi
  have h0 : hV1 l 0 = [some (.blk true (.cells true l.c)), bZ, some (.blk true (.cells true [.nilsl, .nilsl, tR l.ts, I l.lo, I l.hi]))] := rfl
  have h1 : hV1 l l.ks.length = hV2 l 0 := rfl
  have ch := vK_ch l
  have vl := vK_len (l := l) (Nat.le_refl _)
  have ch2 := cL_ch l.ls
  have cl2 := cL_len l.ls
  have tk : l.ls.take l.ls.length = l.ls := List.take_length
  have h2 : hV2 l l.ls.length = if l.ks.length = 0 then
    (if l.ls.length = 0 then [some (.blk true (.cells true l.c)), bZ, some (.blk true (.cells true [.nilsl, .nilsl, tR l.ts, I l.lo, I l.hi]))]
     else [some (.blk true (.cells true l.c)), bZ, some (.blk false (.cells true [.nilsl, .sl 3 0 5 l.ls.length, tR l.ts, I l.lo, I l.hi])), some (.blk true (.cells true (cL l.ls)))])
  else (if l.ls.length = 0 then [some (.blk true (.cells true l.c)), bZ, some (.blk false (.cells true [.sl 3 0 1 l.ks.length, .nilsl, tR l.ts, I l.lo, I l.hi])), some (.blk true (.cells true (vK l l.ks.length)))]
     else [some (.blk true (.cells true l.c)), bZ, some (.blk false (.cells true [.sl 3 0 1 l.ks.length, .sl 4 0 5 l.ls.length, tR l.ts, I l.lo, I l.hi])), some (.blk true (.cells true (vK l l.ks.length))), some (.blk true (.cells true (cL l.ls)))]) := by unfold hV2; rw [tk]
  have c1 : (l.ks.length ≤ l.ks.length) = True := eq_true (Nat.le_refl _)
  have c2 : (l.ls.length * 5 ≤ l.ls.length * 5) = True := eq_true (Nat.le_refl _)
  have kz : l.ks.length = 0 → kR l.ks = .fs [] := fun h => by rw [List.eq_nil_of_length_eq_zero h]; rfl
  have lz : l.ls.length = 0 → lR l.ls = .fs [] := fun h => by rw [List.eq_nil_of_length_eq_zero h]; rfl
  obtain ⟨G1, hG1⟩ : ∃ s : Nat → XH, s = hV1 l := ⟨_, rfl⟩
  obtain ⟨G2, hG2⟩ : ∃ s : Nat → XH, s = hV2 l := ⟨_, rfl⟩
  rw [← hG1] at rd1 h0 h1
  rw [← hG2] at rd2 h1 h2
  have h3 : G2 0 = hV2 l 0 := by rw [hG2]
  clear hG1
  rw [r16 (by simp)]; unfold x16; dsimp only
  sym =>
    simp [cS_gr, cS_nm, cS_sl, cS_len, Za,Zb,Zc,Zd,Ze,Zf,Zh,Zl,Zm,Zn,Zu,Zv,Zy,Zz,Z2,Z5,ZC,ZE,ZI,ZJ,ZX,ZZ,Yp,Yx,YC,YE,YG,YJ,YK,YL,YN,YR,YU,YV,YX,Xa,Xe,Xg,Xi,Xj,Xk,Xm,Xq,Xs,Xu,Xv,Xx,X0,XI,XK,XL,XN,XP,XU,XW,XY,We,Wf,Wp,Wq,Wr,Ws,Wt,Wu,Wv,Ww,Wx,Wy,Wz,W0,W4,W5,W7,W8,W9,WB,WE,WF,WG,WH,WM,WN,WO,WS,WT,Vf,Vg,Vh,Vi,Vj,Vr,Vs,Vt,Vu,Vw,Vx,Vz,V0,V1,V2,V3,V6,V7,V8,VA,VB,VC,VD,VE,VF,VH,VI,VK,VL,VM,VN,VO,VP,VR,VS,VT,VU,VW,VZ,Ub,Uh,Ui,Uk,Um,Ur,Us,Ut,Uu,Uv,Uw,Ux,Uy,Uz,U0,U1,U2,U3,U4,U5,U6,U9,UA,UO,UP,UQ,UT,UU,UV,UW,UZ,Te,Tf,Tg,Ti,Tj,Tk,Tl,Tq,Tr,Ts,Tt,Tw,Tx,Ty,Tz,Sc,Sd,Se]
    tactic =>
      unfold x16l1
      rw [loop_rule l.ks.length (fun i => [.pt 0 0, .pt 1 0, .pt 2 0, I (i : Nat)]) G1]
      rotate_left
      · (sym => (simp [cS_gr, cS_nm, cS_sl, cS_len, Za,Zb,Zc,Zd,Ze,Zf,Zh,Zl,Zm,Zn,Zu,Zv,Zy,Zz,Z2,Z5,ZC,ZE,ZI,ZJ,ZX,ZZ,Yp,Yx,YC,YE,YG,YJ,YK,YL,YN,YR,YU,YV,YX,Xa,Xe,Xg,Xi,Xj,Xk,Xm,Xq,Xs,Xu,Xv,Xx,X0,XI,XK,XL,XN,XP,XU,XW,XY,We,Wf,Wp,Wq,Wr,Ws,Wt,Wu,Wv,Ww,Wx,Wy,Wz,W0,W4,W5,W7,W8,W9,WB,WE,WF,WG,WH,WM,WN,WO,WS,WT,Vf,Vg,Vh,Vi,Vj,Vr,Vs,Vt,Vu,Vw,Vx,Vz,V0,V1,V2,V3,V6,V7,V8,VA,VB,VC,VD,VE,VF,VH,VI,VK,VL,VM,VN,VO,VP,VR,VS,VT,VU,VW,VZ,Ub,Uh,Ui,Uk,Um,Ur,Us,Ut,Uu,Uv,Uw,Ux,Uy,Uz,U0,U1,U2,U3,U4,U5,U6,U9,UA,UO,UP,UQ,UT,UU,UV,UW,UZ,Te,Tf,Tg,Ti,Tj,Tk,Tl,Tq,Tr,Ts,Tt,Tw,Tx,Ty,Tz,Sc,Sd,Se, h0]; all_goals tactic => exact rfl))
      · exact rd1
      · rw [h1, h3]
        unfold hV2
        by_cases hn : l.ks.length = 0
        · simp only [hn, if_true]
          rw [hn] at z
          (sym => (simp [cS_gr, cS_nm, cS_sl, cS_len, Za,Zb,Zc,Zd,Ze,Zf,Zh,Zl,Zm,Zn,Zu,Zv,Zy,Zz,Z2,Z5,ZC,ZE,ZI,ZJ,ZX,ZZ,Yp,Yx,YC,YE,YG,YJ,YK,YL,YN,YR,YU,YV,YX,Xa,Xe,Xg,Xi,Xj,Xk,Xm,Xq,Xs,Xu,Xv,Xx,X0,XI,XK,XL,XN,XP,XU,XW,XY,We,Wf,Wp,Wq,Wr,Ws,Wt,Wu,Wv,Ww,Wx,Wy,Wz,W0,W4,W5,W7,W8,W9,WB,WE,WF,WG,WH,WM,WN,WO,WS,WT,Vf,Vg,Vh,Vi,Vj,Vr,Vs,Vt,Vu,Vw,Vx,Vz,V0,V1,V2,V3,V6,V7,V8,VA,VB,VC,VD,VE,VF,VH,VI,VK,VL,VM,VN,VO,VP,VR,VS,VT,VU,VW,VZ,Ub,Uh,Ui,Uk,Um,Ur,Us,Ut,Uu,Uv,Uw,Ux,Uy,Uz,U0,U1,U2,U3,U4,U5,U6,U9,UA,UO,UP,UQ,UT,UU,UV,UW,UZ,Te,Tf,Tg,Ti,Tj,Tk,Tl,Tq,Tr,Ts,Tt,Tw,Tx,Ty,Tz,Sc,Sd,Se, z, hn]; all_goals tactic => exact rfl))
        · simp only [hn, if_false, if_true]
          (sym => (simp [cS_gr, cS_nm, cS_sl, cS_len, Za,Zb,Zc,Zd,Ze,Zf,Zh,Zl,Zm,Zn,Zu,Zv,Zy,Zz,Z2,Z5,ZC,ZE,ZI,ZJ,ZX,ZZ,Yp,Yx,YC,YE,YG,YJ,YK,YL,YN,YR,YU,YV,YX,Xa,Xe,Xg,Xi,Xj,Xk,Xm,Xq,Xs,Xu,Xv,Xx,X0,XI,XK,XL,XN,XP,XU,XW,XY,We,Wf,Wp,Wq,Wr,Ws,Wt,Wu,Wv,Ww,Wx,Wy,Wz,W0,W4,W5,W7,W8,W9,WB,WE,WF,WG,WH,WM,WN,WO,WS,WT,Vf,Vg,Vh,Vi,Vj,Vr,Vs,Vt,Vu,Vw,Vx,Vz,V0,V1,V2,V3,V6,V7,V8,VA,VB,VC,VD,VE,VF,VH,VI,VK,VL,VM,VN,VO,VP,VR,VS,VT,VU,VW,VZ,Ub,Uh,Ui,Uk,Um,Ur,Us,Ut,Uu,Uv,Uw,Ux,Uy,Uz,U0,U1,U2,U3,U4,U5,U6,U9,UA,UO,UP,UQ,UT,UU,UV,UW,UZ,Te,Tf,Tg,Ti,Tj,Tk,Tl,Tq,Tr,Ts,Tt,Tw,Tx,Ty,Tz,Sc,Sd,Se, z]; all_goals tactic => exact rfl))
      rw [h1]
      have h30 : G2 0 = if l.ks.length = 0 then [some (.blk true (.cells true l.c)), bZ, some (.blk true (.cells true [.nilsl, .nilsl, tR l.ts, I l.lo, I l.hi]))] else [some (.blk true (.cells true l.c)), bZ, some (.blk false (.cells true [.sl 3 0 1 l.ks.length, .nilsl, tR l.ts, I l.lo, I l.hi])), some (.blk true (.cells true (vK l l.ks.length)))] := by rw [h3]; rfl
      by_cases hn : l.ks.length = 0
      · rw [kz hn]
        simp only [hn, if_true] at h30 h2 z ⊢
        sym =>
          simp [cS_gr, cS_nm, cS_sl, cS_len, Za,Zb,Zc,Zd,Ze,Zf,Zh,Zl,Zm,Zn,Zu,Zv,Zy,Zz,Z2,Z5,ZC,ZE,ZI,ZJ,ZX,ZZ,Yp,Yx,YC,YE,YG,YJ,YK,YL,YN,YR,YU,YV,YX,Xa,Xe,Xg,Xi,Xj,Xk,Xm,Xq,Xs,Xu,Xv,Xx,X0,XI,XK,XL,XN,XP,XU,XW,XY,We,Wf,Wp,Wq,Wr,Ws,Wt,Wu,Wv,Ww,Wx,Wy,Wz,W0,W4,W5,W7,W8,W9,WB,WE,WF,WG,WH,WM,WN,WO,WS,WT,Vf,Vg,Vh,Vi,Vj,Vr,Vs,Vt,Vu,Vw,Vx,Vz,V0,V1,V2,V3,V6,V7,V8,VA,VB,VC,VD,VE,VF,VH,VI,VK,VL,VM,VN,VO,VP,VR,VS,VT,VU,VW,VZ,Ub,Uh,Ui,Uk,Um,Ur,Us,Ut,Uu,Uv,Uw,Ux,Uy,Uz,U0,U1,U2,U3,U4,U5,U6,U9,UA,UO,UP,UQ,UT,UU,UV,UW,UZ,Te,Tf,Tg,Ti,Tj,Tk,Tl,Tq,Tr,Ts,Tt,Tw,Tx,Ty,Tz,Sc,Sd,Se, z, h30, hn]
          tactic =>
            unfold x16l2
            rw [loop_rule l.ls.length (fun i => [.pt 0 0, .pt 1 0, .pt 2 0, I (i : Nat)]) G2]
            · by_cases hm : l.ls.length = 0
              · rw [lz hm]
                simp only [hm, if_true] at h2 z2 ⊢
                (sym => (simp [cS_gr, cS_nm, cS_sl, cS_len, Za,Zb,Zc,Zd,Ze,Zf,Zh,Zl,Zm,Zn,Zu,Zv,Zy,Zz,Z2,Z5,ZC,ZE,ZI,ZJ,ZX,ZZ,Yp,Yx,YC,YE,YG,YJ,YK,YL,YN,YR,YU,YV,YX,Xa,Xe,Xg,Xi,Xj,Xk,Xm,Xq,Xs,Xu,Xv,Xx,X0,XI,XK,XL,XN,XP,XU,XW,XY,We,Wf,Wp,Wq,Wr,Ws,Wt,Wu,Wv,Ww,Wx,Wy,Wz,W0,W4,W5,W7,W8,W9,WB,WE,WF,WG,WH,WM,WN,WO,WS,WT,Vf,Vg,Vh,Vi,Vj,Vr,Vs,Vt,Vu,Vw,Vx,Vz,V0,V1,V2,V3,V6,V7,V8,VA,VB,VC,VD,VE,VF,VH,VI,VK,VL,VM,VN,VO,VP,VR,VS,VT,VU,VW,VZ,Ub,Uh,Ui,Uk,Um,Ur,Us,Ut,Uu,Uv,Uw,Ux,Uy,Uz,U0,U1,U2,U3,U4,U5,U6,U9,UA,UO,UP,UQ,UT,UU,UV,UW,UZ,Te,Tf,Tg,Ti,Tj,Tk,Tl,Tq,Tr,Ts,Tt,Tw,Tx,Ty,Tz,Sc,Sd,Se, z2, h2, hm]; all_goals tactic => exact rfl))
              · simp only [hm, if_false] at h2
                (sym => (simp [cS_gr, cS_nm, cS_sl, cS_len, Za,Zb,Zc,Zd,Ze,Zf,Zh,Zl,Zm,Zn,Zu,Zv,Zy,Zz,Z2,Z5,ZC,ZE,ZI,ZJ,ZX,ZZ,Yp,Yx,YC,YE,YG,YJ,YK,YL,YN,YR,YU,YV,YX,Xa,Xe,Xg,Xi,Xj,Xk,Xm,Xq,Xs,Xu,Xv,Xx,X0,XI,XK,XL,XN,XP,XU,XW,XY,We,Wf,Wp,Wq,Wr,Ws,Wt,Wu,Wv,Ww,Wx,Wy,Wz,W0,W4,W5,W7,W8,W9,WB,WE,WF,WG,WH,WM,WN,WO,WS,WT,Vf,Vg,Vh,Vi,Vj,Vr,Vs,Vt,Vu,Vw,Vx,Vz,V0,V1,V2,V3,V6,V7,V8,VA,VB,VC,VD,VE,VF,VH,VI,VK,VL,VM,VN,VO,VP,VR,VS,VT,VU,VW,VZ,Ub,Uh,Ui,Uk,Um,Ur,Us,Ut,Uu,Uv,Uw,Ux,Uy,Uz,U0,U1,U2,U3,U4,U5,U6,U9,UA,UO,UP,UQ,UT,UU,UV,UW,UZ,Te,Tf,Tg,Ti,Tj,Tk,Tl,Tq,Tr,Ts,Tt,Tw,Tx,Ty,Tz,Sc,Sd,Se, z2, h2, cl2, ch2, c2]; all_goals tactic => exact rfl))
            · (sym => (simp [cS_gr, cS_nm, cS_sl, cS_len, Za,Zb,Zc,Zd,Ze,Zf,Zh,Zl,Zm,Zn,Zu,Zv,Zy,Zz,Z2,Z5,ZC,ZE,ZI,ZJ,ZX,ZZ,Yp,Yx,YC,YE,YG,YJ,YK,YL,YN,YR,YU,YV,YX,Xa,Xe,Xg,Xi,Xj,Xk,Xm,Xq,Xs,Xu,Xv,Xx,X0,XI,XK,XL,XN,XP,XU,XW,XY,We,Wf,Wp,Wq,Wr,Ws,Wt,Wu,Wv,Ww,Wx,Wy,Wz,W0,W4,W5,W7,W8,W9,WB,WE,WF,WG,WH,WM,WN,WO,WS,WT,Vf,Vg,Vh,Vi,Vj,Vr,Vs,Vt,Vu,Vw,Vx,Vz,V0,V1,V2,V3,V6,V7,V8,VA,VB,VC,VD,VE,VF,VH,VI,VK,VL,VM,VN,VO,VP,VR,VS,VT,VU,VW,VZ,Ub,Uh,Ui,Uk,Um,Ur,Us,Ut,Uu,Uv,Uw,Ux,Uy,Uz,U0,U1,U2,U3,U4,U5,U6,U9,UA,UO,UP,UQ,UT,UU,UV,UW,UZ,Te,Tf,Tg,Ti,Tj,Tk,Tl,Tq,Tr,Ts,Tt,Tw,Tx,Ty,Tz,Sc,Sd,Se, h30]; all_goals tactic => exact rfl))
            · exact rd2
            · by_cases hm : l.ls.length = 0
              · simp only [hm, if_true] at h2 z2 ⊢
                (sym => (simp [cS_gr, cS_nm, cS_sl, cS_len, Za,Zb,Zc,Zd,Ze,Zf,Zh,Zl,Zm,Zn,Zu,Zv,Zy,Zz,Z2,Z5,ZC,ZE,ZI,ZJ,ZX,ZZ,Yp,Yx,YC,YE,YG,YJ,YK,YL,YN,YR,YU,YV,YX,Xa,Xe,Xg,Xi,Xj,Xk,Xm,Xq,Xs,Xu,Xv,Xx,X0,XI,XK,XL,XN,XP,XU,XW,XY,We,Wf,Wp,Wq,Wr,Ws,Wt,Wu,Wv,Ww,Wx,Wy,Wz,W0,W4,W5,W7,W8,W9,WB,WE,WF,WG,WH,WM,WN,WO,WS,WT,Vf,Vg,Vh,Vi,Vj,Vr,Vs,Vt,Vu,Vw,Vx,Vz,V0,V1,V2,V3,V6,V7,V8,VA,VB,VC,VD,VE,VF,VH,VI,VK,VL,VM,VN,VO,VP,VR,VS,VT,VU,VW,VZ,Ub,Uh,Ui,Uk,Um,Ur,Us,Ut,Uu,Uv,Uw,Ux,Uy,Uz,U0,U1,U2,U3,U4,U5,U6,U9,UA,UO,UP,UQ,UT,UU,UV,UW,UZ,Te,Tf,Tg,Ti,Tj,Tk,Tl,Tq,Tr,Ts,Tt,Tw,Tx,Ty,Tz,Sc,Sd,Se, z2, h2, hm]; all_goals tactic => exact rfl))
              · simp only [hm, if_false] at h2
                (sym => (simp [cS_gr, cS_nm, cS_sl, cS_len, Za,Zb,Zc,Zd,Ze,Zf,Zh,Zl,Zm,Zn,Zu,Zv,Zy,Zz,Z2,Z5,ZC,ZE,ZI,ZJ,ZX,ZZ,Yp,Yx,YC,YE,YG,YJ,YK,YL,YN,YR,YU,YV,YX,Xa,Xe,Xg,Xi,Xj,Xk,Xm,Xq,Xs,Xu,Xv,Xx,X0,XI,XK,XL,XN,XP,XU,XW,XY,We,Wf,Wp,Wq,Wr,Ws,Wt,Wu,Wv,Ww,Wx,Wy,Wz,W0,W4,W5,W7,W8,W9,WB,WE,WF,WG,WH,WM,WN,WO,WS,WT,Vf,Vg,Vh,Vi,Vj,Vr,Vs,Vt,Vu,Vw,Vx,Vz,V0,V1,V2,V3,V6,V7,V8,VA,VB,VC,VD,VE,VF,VH,VI,VK,VL,VM,VN,VO,VP,VR,VS,VT,VU,VW,VZ,Ub,Uh,Ui,Uk,Um,Ur,Us,Ut,Uu,Uv,Uw,Ux,Uy,Uz,U0,U1,U2,U3,U4,U5,U6,U9,UA,UO,UP,UQ,UT,UU,UV,UW,UZ,Te,Tf,Tg,Ti,Tj,Tk,Tl,Tq,Tr,Ts,Tt,Tw,Tx,Ty,Tz,Sc,Sd,Se, z2, h2]; all_goals tactic => exact rfl))
      · simp only [hn, if_false] at h30 h2
        sym =>
          simp [cS_gr, cS_nm, cS_sl, cS_len, Za,Zb,Zc,Zd,Ze,Zf,Zh,Zl,Zm,Zn,Zu,Zv,Zy,Zz,Z2,Z5,ZC,ZE,ZI,ZJ,ZX,ZZ,Yp,Yx,YC,YE,YG,YJ,YK,YL,YN,YR,YU,YV,YX,Xa,Xe,Xg,Xi,Xj,Xk,Xm,Xq,Xs,Xu,Xv,Xx,X0,XI,XK,XL,XN,XP,XU,XW,XY,We,Wf,Wp,Wq,Wr,Ws,Wt,Wu,Wv,Ww,Wx,Wy,Wz,W0,W4,W5,W7,W8,W9,WB,WE,WF,WG,WH,WM,WN,WO,WS,WT,Vf,Vg,Vh,Vi,Vj,Vr,Vs,Vt,Vu,Vw,Vx,Vz,V0,V1,V2,V3,V6,V7,V8,VA,VB,VC,VD,VE,VF,VH,VI,VK,VL,VM,VN,VO,VP,VR,VS,VT,VU,VW,VZ,Ub,Uh,Ui,Uk,Um,Ur,Us,Ut,Uu,Uv,Uw,Ux,Uy,Uz,U0,U1,U2,U3,U4,U5,U6,U9,UA,UO,UP,UQ,UT,UU,UV,UW,UZ,Te,Tf,Tg,Ti,Tj,Tk,Tl,Tq,Tr,Ts,Tt,Tw,Tx,Ty,Tz,Sc,Sd,Se, z, h30]
          tactic =>
            unfold x16l2
            rw [loop_rule l.ls.length (fun i => [.pt 0 0, .pt 1 0, .pt 2 0, I (i : Nat)]) G2]
            · by_cases hm : l.ls.length = 0
              · rw [lz hm]
                simp only [hm, if_true] at h2 z2 ⊢
                (sym => (simp [cS_gr, cS_nm, cS_sl, cS_len, Za,Zb,Zc,Zd,Ze,Zf,Zh,Zl,Zm,Zn,Zu,Zv,Zy,Zz,Z2,Z5,ZC,ZE,ZI,ZJ,ZX,ZZ,Yp,Yx,YC,YE,YG,YJ,YK,YL,YN,YR,YU,YV,YX,Xa,Xe,Xg,Xi,Xj,Xk,Xm,Xq,Xs,Xu,Xv,Xx,X0,XI,XK,XL,XN,XP,XU,XW,XY,We,Wf,Wp,Wq,Wr,Ws,Wt,Wu,Wv,Ww,Wx,Wy,Wz,W0,W4,W5,W7,W8,W9,WB,WE,WF,WG,WH,WM,WN,WO,WS,WT,Vf,Vg,Vh,Vi,Vj,Vr,Vs,Vt,Vu,Vw,Vx,Vz,V0,V1,V2,V3,V6,V7,V8,VA,VB,VC,VD,VE,VF,VH,VI,VK,VL,VM,VN,VO,VP,VR,VS,VT,VU,VW,VZ,Ub,Uh,Ui,Uk,Um,Ur,Us,Ut,Uu,Uv,Uw,Ux,Uy,Uz,U0,U1,U2,U3,U4,U5,U6,U9,UA,UO,UP,UQ,UT,UU,UV,UW,UZ,Te,Tf,Tg,Ti,Tj,Tk,Tl,Tq,Tr,Ts,Tt,Tw,Tx,Ty,Tz,Sc,Sd,Se, z2, h2, hm, ch, vl, c1]; all_goals tactic => exact rfl))
              · simp only [hm, if_false] at h2
                (sym => (simp [cS_gr, cS_nm, cS_sl, cS_len, Za,Zb,Zc,Zd,Ze,Zf,Zh,Zl,Zm,Zn,Zu,Zv,Zy,Zz,Z2,Z5,ZC,ZE,ZI,ZJ,ZX,ZZ,Yp,Yx,YC,YE,YG,YJ,YK,YL,YN,YR,YU,YV,YX,Xa,Xe,Xg,Xi,Xj,Xk,Xm,Xq,Xs,Xu,Xv,Xx,X0,XI,XK,XL,XN,XP,XU,XW,XY,We,Wf,Wp,Wq,Wr,Ws,Wt,Wu,Wv,Ww,Wx,Wy,Wz,W0,W4,W5,W7,W8,W9,WB,WE,WF,WG,WH,WM,WN,WO,WS,WT,Vf,Vg,Vh,Vi,Vj,Vr,Vs,Vt,Vu,Vw,Vx,Vz,V0,V1,V2,V3,V6,V7,V8,VA,VB,VC,VD,VE,VF,VH,VI,VK,VL,VM,VN,VO,VP,VR,VS,VT,VU,VW,VZ,Ub,Uh,Ui,Uk,Um,Ur,Us,Ut,Uu,Uv,Uw,Ux,Uy,Uz,U0,U1,U2,U3,U4,U5,U6,U9,UA,UO,UP,UQ,UT,UU,UV,UW,UZ,Te,Tf,Tg,Ti,Tj,Tk,Tl,Tq,Tr,Ts,Tt,Tw,Tx,Ty,Tz,Sc,Sd,Se, z2, h2, cl2, ch2, c2, ch, vl, c1]; all_goals tactic => exact rfl))
            · (sym => (simp [cS_gr, cS_nm, cS_sl, cS_len, Za,Zb,Zc,Zd,Ze,Zf,Zh,Zl,Zm,Zn,Zu,Zv,Zy,Zz,Z2,Z5,ZC,ZE,ZI,ZJ,ZX,ZZ,Yp,Yx,YC,YE,YG,YJ,YK,YL,YN,YR,YU,YV,YX,Xa,Xe,Xg,Xi,Xj,Xk,Xm,Xq,Xs,Xu,Xv,Xx,X0,XI,XK,XL,XN,XP,XU,XW,XY,We,Wf,Wp,Wq,Wr,Ws,Wt,Wu,Wv,Ww,Wx,Wy,Wz,W0,W4,W5,W7,W8,W9,WB,WE,WF,WG,WH,WM,WN,WO,WS,WT,Vf,Vg,Vh,Vi,Vj,Vr,Vs,Vt,Vu,Vw,Vx,Vz,V0,V1,V2,V3,V6,V7,V8,VA,VB,VC,VD,VE,VF,VH,VI,VK,VL,VM,VN,VO,VP,VR,VS,VT,VU,VW,VZ,Ub,Uh,Ui,Uk,Um,Ur,Us,Ut,Uu,Uv,Uw,Ux,Uy,Uz,U0,U1,U2,U3,U4,U5,U6,U9,UA,UO,UP,UQ,UT,UU,UV,UW,UZ,Te,Tf,Tg,Ti,Tj,Tk,Tl,Tq,Tr,Ts,Tt,Tw,Tx,Ty,Tz,Sc,Sd,Se, h30]; all_goals tactic => exact rfl))
            · exact rd2
            · by_cases hm : l.ls.length = 0
              · simp only [hm, if_true] at h2 z2 ⊢
                (sym => (simp [cS_gr, cS_nm, cS_sl, cS_len, Za,Zb,Zc,Zd,Ze,Zf,Zh,Zl,Zm,Zn,Zu,Zv,Zy,Zz,Z2,Z5,ZC,ZE,ZI,ZJ,ZX,ZZ,Yp,Yx,YC,YE,YG,YJ,YK,YL,YN,YR,YU,YV,YX,Xa,Xe,Xg,Xi,Xj,Xk,Xm,Xq,Xs,Xu,Xv,Xx,X0,XI,XK,XL,XN,XP,XU,XW,XY,We,Wf,Wp,Wq,Wr,Ws,Wt,Wu,Wv,Ww,Wx,Wy,Wz,W0,W4,W5,W7,W8,W9,WB,WE,WF,WG,WH,WM,WN,WO,WS,WT,Vf,Vg,Vh,Vi,Vj,Vr,Vs,Vt,Vu,Vw,Vx,Vz,V0,V1,V2,V3,V6,V7,V8,VA,VB,VC,VD,VE,VF,VH,VI,VK,VL,VM,VN,VO,VP,VR,VS,VT,VU,VW,VZ,Ub,Uh,Ui,Uk,Um,Ur,Us,Ut,Uu,Uv,Uw,Ux,Uy,Uz,U0,U1,U2,U3,U4,U5,U6,U9,UA,UO,UP,UQ,UT,UU,UV,UW,UZ,Te,Tf,Tg,Ti,Tj,Tk,Tl,Tq,Tr,Ts,Tt,Tw,Tx,Ty,Tz,Sc,Sd,Se, z2, h2, hm]; all_goals tactic => exact rfl))
              · simp only [hm, if_false] at h2
                (sym => (simp [cS_gr, cS_nm, cS_sl, cS_len, Za,Zb,Zc,Zd,Ze,Zf,Zh,Zl,Zm,Zn,Zu,Zv,Zy,Zz,Z2,Z5,ZC,ZE,ZI,ZJ,ZX,ZZ,Yp,Yx,YC,YE,YG,YJ,YK,YL,YN,YR,YU,YV,YX,Xa,Xe,Xg,Xi,Xj,Xk,Xm,Xq,Xs,Xu,Xv,Xx,X0,XI,XK,XL,XN,XP,XU,XW,XY,We,Wf,Wp,Wq,Wr,Ws,Wt,Wu,Wv,Ww,Wx,Wy,Wz,W0,W4,W5,W7,W8,W9,WB,WE,WF,WG,WH,WM,WN,WO,WS,WT,Vf,Vg,Vh,Vi,Vj,Vr,Vs,Vt,Vu,Vw,Vx,Vz,V0,V1,V2,V3,V6,V7,V8,VA,VB,VC,VD,VE,VF,VH,VI,VK,VL,VM,VN,VO,VP,VR,VS,VT,VU,VW,VZ,Ub,Uh,Ui,Uk,Um,Ur,Us,Ut,Uu,Uv,Uw,Ux,Uy,Uz,U0,U1,U2,U3,U4,U5,U6,U9,UA,UO,UP,UQ,UT,UU,UV,UW,UZ,Te,Tf,Tg,Ti,Tj,Tk,Tl,Tq,Tr,Ts,Tt,Tw,Tx,Ty,Tz,Sc,Sd,Se, z2, h2]; all_goals tactic => exact rfl))
end Go.Proofs.YtpbeclkpohehgaaDoor
namespace Go.Proofs.YtpbeclkpohehgaaDoor
open Go Go.DL
set_option maxRecDepth 100000
set_option maxHeartbeats 4000000

end Go.Proofs.YtpbeclkpohehgaaDoor
namespace Go.Proofs.YtpbeclkpohehgaaDoor
open Go Go.DL
set_option maxRecDepth 100000
set_option maxHeartbeats 4000000

end Go.Proofs.YtpbeclkpohehgaaDoor
namespace Go.Proofs.YtpbeclkpohehgaaDoor
open Go Go.DL
set_option maxRecDepth 100000
set_option maxHeartbeats 4000000

/-- A kind's steps: bounds, and both columns rise. -/
theorem Good.st {l : Li} (g : Good l) {t : Nat} {k : List St} (ht : l.ks[t]? = some k) {i : Nat} {x : St} (hx : k[i]? = some x) : 0 ≤ x.a ∧ x.a ≤ 100000 ∧ 1 ≤ x.s ∧ x.s ≤ 1000000 ∧ prA k i < x.a ∧ prS k i < x.s := by
  have hks := g.kinds
  unfold kindsE at hks
  by_cases h6 : 6 < l.ks.length
  · rw [if_pos h6] at hks; simp at hks
  rw [if_neg h6] at hks
  have h1 := firstN_0 hks t (lt_of ht)
  rw [getD_of ht] at h1
  unfold chkD at h1
  by_cases h8 : 8 < k.length
  · rw [if_pos h8] at h1; simp at h1
  rw [if_neg h8] at h1
  have h2 := firstN_0 h1 i (lt_of hx)
  rcases kErr_of hx with ⟨b1, b2, c1, c2, _⟩ | ⟨_, _, _, _, e⟩ | ⟨_, _, _, e⟩ | ⟨_, _, e⟩ | ⟨_, e⟩
  · have b1 := btwF.1 b1
    have b2 := btwF.1 b2
    have c1 := of_eq_false c1
    have c2 := of_eq_false c2
    omega
  all_goals (rw [e] at h2; simp at h2)
def mnI (a b : Int) : Int := if b < a then b else a
end Go.Proofs.YtpbeclkpohehgaaDoor
namespace Go.Proofs.YtpbeclkpohehgaaDoor
open Go Go.DL
set_option maxRecDepth 100000
set_option maxHeartbeats 4000000

end Go.Proofs.YtpbeclkpohehgaaDoor
namespace Go.Proofs.YtpbeclkpohehgaaDoor
open Go Go.DL
set_option maxRecDepth 100000
set_option maxHeartbeats 4000000

end Go.Proofs.YtpbeclkpohehgaaDoor
namespace Go.Proofs.YtpbeclkpohehgaaDoor
open Go Go.DL
set_option maxRecDepth 100000
set_option maxHeartbeats 4000000

end Go.Proofs.YtpbeclkpohehgaaDoor
namespace Go.Proofs.YtpbeclkpohehgaaDoor
open Go Go.DL
set_option maxRecDepth 100000
set_option maxHeartbeats 4000000

end Go.Proofs.YtpbeclkpohehgaaDoor
namespace Go.Proofs.YtpbeclkpohehgaaDoor
open Go Go.DL
set_option maxRecDepth 100000
set_option maxHeartbeats 4000000

/-- The elements of a set, in order. -/
def el (a : Nat) : List Nat := (List.range 10).filter (a.testBit ·)
def lowB (a : Nat) : Nat := (el a).headD 0
def tzq (a : Nat) : Bool := match runX progX 6 107 [U a] [] with
  | some (.int .i64 n, []) => decide (n = (lowB a : Nat))
  | _ => false
theorem tz_all : ((List.range 1024).all fun a => a == 0 || tzq a) = true := by kernel_rfl
theorem w107 {a : Nat} (ha : a < 1024) (h0 : a ≠ 0) : runW progX 107 [U a] [] = some (I (lowB a : Nat), []) := by
  have h := List.all_eq_true.1 tz_all a (List.mem_range.2 ha)
  have h1 : (a == 0) = false := by simp [h0]
  rw [h1, Bool.false_or] at h
  unfold tzq at h
  refine runW_iff.2 ⟨6, ?_⟩
  revert h
  generalize runX progX 6 107 [U a] [] = r
  intro h
  match r, h with
  | some (.int .i64 n, []), h => rw [of_decide_eq_true h]
theorem el_step : ∀ a : Nat, a < 1024 → a ≠ 0 → el a = lowB a :: el (a &&& (a - 1)) := by decide +kernel
theorem el_0 : ∀ a : Nat, a < 1024 → (el a = [] ↔ a = 0) := by decide +kernel
theorem el_mem {a k : Nat} : k ∈ el a ↔ k < 10 ∧ a.testBit k = true := by simp [el]
/-- What is left of a set behind its first i elements. -/
def cutS (a : Nat) : Nat → Nat
  | 0 => a
  | i + 1 => cutS a i &&& (cutS a i - 1)
theorem cut_lt {a : Nat} (ha : a < 1024) : ∀ i, cutS a i < 1024
  | 0 => ha
  | i + 1 => by rw [cutS]; exact Nat.lt_of_le_of_lt Nat.and_le_left (cut_lt ha i)
theorem cut_el {a : Nat} (ha : a < 1024) : ∀ i, el (cutS a i) = (el a).drop i
  | 0 => rfl
  | i + 1 => by
    have ih := cut_el ha i
    rw [cutS]
    by_cases h0 : cutS a i = 0
    · rw [h0] at ih ⊢
      have e0 : el 0 = [] := rfl
      rw [show (0 &&& (0 - 1)) = 0 from rfl, e0]
      rw [e0] at ih
      have := congrArg List.length ih
      rw [List.length_nil, List.length_drop] at this
      exact (List.drop_eq_nil_of_le (by omega)).symm
    · rw [el_step _ (cut_lt ha i) h0] at ih
      rw [← List.drop_drop, ← ih]
      rfl
theorem cut_at {a : Nat} (ha : a < 1024) {i : Nat} (hi : i < (el a).length) : cutS a i ≠ 0 ∧ (el a)[i]? = some (lowB (cutS a i)) := by
  have h := cut_el ha i
  have h0 : cutS a i ≠ 0 := fun hc => by
    rw [hc, show el 0 = [] from rfl] at h
    have := congrArg List.length h
    rw [List.length_nil, List.length_drop] at this
    omega
  refine ⟨h0, ?_⟩
  rw [el_step _ (cut_lt ha i) h0] at h
  have := congrArg (fun l => l[0]?) h
  simpa using this.symm
theorem cut_end {a : Nat} (ha : a < 1024) : cutS a (el a).length = 0 := by
  have h := cut_el ha (el a).length
  rw [List.drop_length] at h
  exact (el_0 _ (cut_lt ha _)).1 h
end Go.Proofs.YtpbeclkpohehgaaDoor
namespace Go.Proofs.YtpbeclkpohehgaaDoor
open Go Go.DL
set_option maxRecDepth 100000
set_option maxHeartbeats 4000000

abbrev cU (a : Nat) : Option XB := some (.blk true (.cells true [U a]))
/-- A heap of a loop's own, with a cell behind it. -/
structure Home (n : Nat) (H : XH) : Prop where
  hat : ∀ a, hat (H ++ [cU a]) n = cU a
  set : ∀ a b, (H ++ [cU a]).set n (cU b) = H ++ [cU b]
  len : ∀ a, (H ++ [cU a]).length = n + 1
  head : ∀ (a : Nat) (e : Env), e 0 = .fn (.yield 0) [] [] → e 1 = .pt n 0 → headX (n + 1) [0, 1] (some (.normal, e, H ++ [cU a])) = some ([.fn (.yield 0) [] [], .pt n 0], H ++ [cU a])
  fin : ∀ a, finX false (n + 1) (.tup []) (H ++ [cU a]) = (.tup [], H ++ [cU a])
def Yd (H H' : XH) (v : Nat) (b : Bool) : Prop := ∀ a : Nat, callX (runW progX) (runYW progX) (.fn (.yield 0) [] []) [I v] (H ++ [cU a]) = some (.bool b, H' ++ [cU a])
theorem round106 {n : Nat} {H H' : XH} (g : Home n H) (g' : Home n H') {a : Nat} (ha : a < 1024) (h0 : a ≠ 0) (hy : Yd H H' (lowB a) true) :
    headX (n + 1) [0, 1] (execW progX 106 (n + 1) none (match x106l0 with | .loop _ a => a | c => c) (envL [0, 1] [.fn (.yield 0) [] [], .pt n 0]) (H ++ [cU a])) = some ([.fn (.yield 0) [] [], .pt n 0], H' ++ [cU (a &&& (a - 1))]) := by
  have h1 := g.hat a
  have h2 := g'.hat a
  have h3 := g'.set a
  have h4 := hy a
  have t := w107 ha h0
  have n0 : ((a : Int) = 0) = False := eq_false (by omega)
  have u1 : IntKind.u64.wrap ((a : Int) - 1) = ((a - 1 : Nat) : Int) := by
    rw [show (a : Int) - 1 = ((a - 1 : Nat) : Int) by omega]; exact big_wrap big_u (by omega)
  have u2 := bits_and big_u (a := a) (b := a - 1) (by omega) (by omega)
  have hd := g'.head (a &&& (a - 1))
  unfold x106l0
  dsimp only
  sym =>
    simp [Za,Zb,Zc,Zf,Zg,Zh,Zj,Zl,Zm,Zu,Z2,Z3,ZE,ZI,ZJ,ZM,ZN,ZR,ZS,ZV,Yi,Yj,Yo,YE,YR,Xe,Wc,Wq,Wr,Wt,Wv,Ww,Wy,W7,WA,WC,WI,WJ,WV,WW,WX,Vi,Vk,Vl,Vn,Vo,Vq,VC,VF,VG,VH,VL,VM,VO,VP,VS,VT,VZ,Uc,Ud,Uh,Um,Uq,Ur,Us,Ut,Uu,Uv,Uw,U3,UP,UQ,UU,UV,UW,Te,Tf,Th,Tj,Tk,Tn,Ts,Tt,Tv,Sn,Sq,Sr, h1, h2, t, h4, n0, u1, u2, h3]
    tactic => exact hd _ rfl rfl
/-- A loop that ends behind all loads. -/
theorem each_all {n : Nat} {G : Nat → XH} {a : Nat} (ha : a < 1024) (g : ∀ i, i ≤ (el a).length → Home n (G i)) (hy : ∀ i v, (el a)[i]? = some v → Yd (G i) (G (i + 1)) v true) :
    runW progX 106 [.fn (.yield 0) [] [], .pt n 0] (G 0 ++ [cU a]) = some (.tup [], G (el a).length ++ [cU 0]) := by
  have l0 := (g 0 (by omega)).len a
  have g1 := g (el a).length (by omega)
  have h1 : hat (G (el a).length ++ [some (.blk true (.cells true [.int .u64 0]))]) n = some (.blk true (.cells true [.int .u64 0])) := g1.hat 0
  have hf : finX false (n + 1) (.tup []) (G (el a).length ++ [some (.blk true (.cells true [.int .u64 0]))]) = (.tup [], G (el a).length ++ [some (.blk true (.cells true [.int .u64 0]))]) := g1.fin 0
  have c0 := cut_end ha
  rw [r106 (by simp)]; unfold x106; dsimp only
  rw [l0]
  unfold x106l0
  sym =>
    simp [Za,Zb,Zf,Zh,Zl,Zm,Z2,ZE,Yo,Yx,XX,Wb,Wq,Wr,Wy,Vv,Vx,V2,V4,V6,VC,VF,VH,VI,VK,Uc,Ul,U1,U2,UP,UQ,UU,Te,Tf,Ti,Tj,Tk,Tl,Tq,Ts,Tt]
    tactic =>
      rw [loop_rule (el a).length (fun _ => [.fn (.yield 0) [] [], .pt n 0]) (fun i => G i ++ [cU (cutS a i)])]
      · rw [c0]
        (sym => (simp [Za,Zb,Zf,Zh,Zl,Zm,Z2,ZE,Yo,Yx,XX,Wb,Wq,Wr,Wy,Vv,Vx,V2,V4,V6,VC,VF,VH,VI,VK,Uc,Ul,U1,U2,UP,UQ,UU,Te,Tf,Ti,Tj,Tk,Tl,Tq,Ts,Tt, h1, hf]; all_goals tactic => exact rfl))
      · exact (g 0 (by omega)).head a _ rfl rfl
      · intro i hi
        obtain ⟨p1, p2⟩ := cut_at ha hi
        exact round106 (g i (by omega)) (g (i + 1) (by omega)) (cut_lt ha i) p1 (hy i _ p2)
      · rw [c0]
        (sym => (simp [Za,Zb,Zf,Zh,Zl,Zm,Z2,ZE,Yo,Yx,XX,Wb,Wq,Wr,Wy,Vv,Vx,V2,V4,V6,VC,VF,VH,VI,VK,Uc,Ul,U1,U2,UP,UQ,UU,Te,Tf,Ti,Tj,Tk,Tl,Tq,Ts,Tt, h1]; all_goals tactic => exact rfl))
/-- A loop that is left. -/
theorem each_left {n : Nat} {G : Nat → XH} {a m v : Nat} {H : XH} (ha : a < 1024) (g : ∀ i, i ≤ m → Home n (G i)) (gH : Home n H) (hy : ∀ i v, i < m → (el a)[i]? = some v → Yd (G i) (G (i + 1)) v true) (hm : (el a)[m]? = some v) (hv : Yd (G m) H v false) :
    ∃ c, runW progX 106 [.fn (.yield 0) [] [], .pt n 0] (G 0 ++ [cU a]) = some (.tup [], H ++ [cU c]) := by
  have hml := lt_of hm
  refine ⟨cutS a m, ?_⟩
  have l0 := (g 0 (by omega)).len a
  have h1 := (g m (by omega)).hat (cutS a m)
  have hf := gH.fin (cutS a m)
  obtain ⟨p1, p2⟩ := cut_at ha hml
  rw [hm] at p2
  have p2 := Option.some.inj p2
  subst p2
  have t := w107 (cut_lt ha m) p1
  have h4 := hv (cutS a m)
  have n0 : ((cutS a m : Int) = 0) = False := eq_false (by omega)
  rw [r106 (by simp)]; unfold x106; dsimp only
  rw [l0]
  unfold x106l0
  sym =>
    simp [Za,Zb,Zf,Zg,Zh,Zj,Zl,Zm,Zu,Z2,Z3,ZE,ZM,ZN,ZR,ZS,ZV,Yo,YE,Xe,XX,Wb,Wq,Wr,Ww,Wy,W7,WA,WC,WI,WJ,WV,WW,WX,Vi,Vk,Vl,Vn,Vo,Vq,Vw,Vx,V2,V4,V6,VC,VF,VG,VJ,VK,VL,VM,VO,VP,VS,VT,Ud,Um,Uq,Ur,Us,Ut,Uu,U1,U2,UP,UQ,UU,Te,Tf,Tg,Th,Tj,Tk,Tm,Tp,Ts,Tt,Tv,Sn,Sq,Sr]
    tactic =>
      rw [loop_rule m (fun _ => [.fn (.yield 0) [] [], .pt n 0]) (fun i => G i ++ [cU (cutS a i)])]
      · (sym => (simp [Za,Zb,Zf,Zg,Zh,Zj,Zl,Zm,Zu,Z2,Z3,ZE,ZM,ZN,ZR,ZS,ZV,Yo,YE,Xe,XX,Wb,Wq,Wr,Ww,Wy,W7,WA,WC,WI,WJ,WV,WW,WX,Vi,Vk,Vl,Vn,Vo,Vq,Vw,Vx,V2,V4,V6,VC,VF,VG,VJ,VK,VL,VM,VO,VP,VS,VT,Ud,Um,Uq,Ur,Us,Ut,Uu,U1,U2,UP,UQ,UU,Te,Tf,Tg,Th,Tj,Tk,Tm,Tp,Ts,Tt,Tv,Sn,Sq,Sr, h1, hf, t, h4, n0]; all_goals tactic => exact rfl))
      · exact (g 0 (by omega)).head a _ rfl rfl
      · intro i hi
        obtain ⟨p1, p2⟩ := cut_at (i := i) ha (by omega)
        exact round106 (g i (by omega)) (g (i + 1) (by omega)) (cut_lt ha i) p1 (hy i _ hi p2)
      · (sym => (simp [Za,Zb,Zf,Zg,Zh,Zj,Zl,Zm,Zu,Z2,Z3,ZE,ZM,ZN,ZR,ZS,ZV,Yo,YE,Xe,XX,Wb,Wq,Wr,Ww,Wy,W7,WA,WC,WI,WJ,WV,WW,WX,Vi,Vk,Vl,Vn,Vo,Vq,Vw,Vx,V2,V4,V6,VC,VF,VG,VJ,VK,VL,VM,VO,VP,VS,VT,Ud,Um,Uq,Ur,Us,Ut,Uu,U1,U2,UP,UQ,UU,Te,Tf,Tg,Th,Tj,Tk,Tm,Tp,Ts,Tt,Tv,Sn,Sq,Sr, h1, t, h4, n0]; all_goals tactic => exact rfl))
end Go.Proofs.YtpbeclkpohehgaaDoor
namespace Go.Proofs.YtpbeclkpohehgaaDoor
open Go Go.DL
set_option maxRecDepth 100000
set_option maxHeartbeats 4000000

/-! ### Folds over a set -/
def fT {α : Type} (f : α → Nat → α) (z : α) (ks : List Nat) (i : Nat) : α := (ks.take i).foldl f z
theorem fT_up {α : Type} {f : α → Nat → α} {z : α} {ks : List Nat} {i v : Nat} (h : ks[i]? = some v) : fT f z ks (i + 1) = f (fT f z ks i) v := by
  unfold fT
  rw [List.take_add_one, h]
  simp
theorem fT_all {α : Type} {f : α → Nat → α} {z : α} {ks : List Nat} : fT f z ks ks.length = ks.foldl f z := by
  unfold fT
  rw [List.take_length]
def fR {α : Type} (f : α → Nat → α) (z : α) (a : Nat) : Nat → α
  | 0 => z
  | i + 1 => if a.testBit i then f (fR f z a i) i else fR f z a i
theorem fR_fl {α : Type} {f : α → Nat → α} {z : α} {a : Nat} : ∀ n, fR f z a n = ((List.range n).filter (a.testBit ·)).foldl f z
  | 0 => rfl
  | n + 1 => by
    rw [fR, List.range_succ, List.filter_append, List.foldl_append, ← fR_fl n]
    cases h : a.testBit n <;> simp [h]
theorem fR_cut {α : Type} {f : α → Nat → α} {z : α} {a m : Nat} (h : a < 2 ^ m) : ∀ n, m ≤ n → fR f z a n = fR f z a m
  | 0, hn => by rw [show m = 0 by omega]
  | n + 1, hn => by
    by_cases hm : m = n + 1
    · rw [hm]
    · rw [fR, bit_lt h (by omega), fR_cut h n (by omega)]; simp
theorem fR_el {α : Type} {f : α → Nat → α} {z : α} {a n : Nat} (h : a < 2 ^ n) (hn : n ≤ 10) : fR f z a n = (el a).foldl f z := by
  rw [← fR_cut h 10 hn, fR_fl]
  rfl
theorem el_lt {a n k : Nat} (h : a < 2 ^ n) (hk : k ∈ el a) : k < n := by
  have h2 := (el_mem.1 hk).2
  by_cases hc : k < n
  · exact hc
  · rw [bit_lt h (by omega)] at h2; simp at h2
theorem el_len (a : Nat) : (el a).length ≤ 10 := by
  unfold el
  exact Nat.le_trans (List.length_filter_le _ _) (by simp)
theorem lt_10 {a n : Nat} (h : a < 2 ^ n) (hn : n ≤ 10) : a < 1024 := Nat.lt_of_lt_of_le h (Nat.pow_le_pow_right (n := 2) (by omega) hn)

abbrev ldN (l : Li) (k : Nat) : Ld := l.ls.getD k ⟨0, 0, 0, 0, 0⟩
theorem Good.ldn {l : Li} (g : Good l) {v : Nat} (hv : v < l.ls.length) : ∃ x k, l.ls[v]? = some x ∧ ldN l v = x ∧ (0 ≤ x.k ∧ x.k < l.ks.length) ∧ l.ks[x.k.toNat]? = some k ∧ knAt l x = k ∧ k.length ≤ 8 ∧ (0 ≤ x.al ∧ x.al ≤ x.ah ∧ x.ah ≤ 100000) ∧ (1 ≤ x.cl ∧ x.cl ≤ x.ch ∧ x.ch ≤ 10000) := by
  obtain ⟨x, k, h1, h2, h3⟩ := g.ld (v := (v : Int)) (by omega)
  rw [Int.toNat_natCast] at h1
  exact ⟨x, k, h1, getD_of h1, h3⟩
abbrev enS (l : Li) (n : Int) (k : Nat) : Int := n + (ldN l k).ch
/-- The end of a set of loads that are crushed first. -/
def endF (l : Li) (a : Nat) : Int := (el a).foldl (enS l) l.hi
theorem en_bd {l : Li} (g : Good l) : ∀ (ks : List Nat) (z : Int), (∀ k ∈ ks, k < l.ls.length) → z ≤ ks.foldl (enS l) z ∧ ks.foldl (enS l) z ≤ z + 10000 * (ks.length : Int)
  | [], z, _ => by simp
  | k :: ks, z, h => by
    obtain ⟨x, kd, h1, h2, _, _, _, _, _, h8⟩ := g.ldn (h k (by simp))
    have ih := en_bd g ks (enS l z k) fun j hj => h j (by simp [hj])
    rw [List.foldl_cons, List.length_cons]
    unfold enS at *
    rw [h2] at *
    omega
theorem enT_bd {l : Li} (g : Good l) {a : Nat} (ha : a < 2 ^ l.ls.length) (i : Nat) : 0 ≤ fT (enS l) l.hi (el a) i ∧ fT (enS l) l.hi (el a) i ≤ 200000 := by
  have h := en_bd g ((el a).take i) l.hi fun k hk => el_lt ha (List.mem_of_mem_take hk)
  have h2 := inSF.1 g.start
  have h3 := el_len a
  have h4 : ((el a).take i).length ≤ 10 := by rw [List.length_take]; omega
  unfold fT
  omega
theorem end_bd {l : Li} (g : Good l) {a : Nat} (ha : a < 2 ^ l.ls.length) : 0 ≤ endF l a ∧ endF l a ≤ 200000 := by
  have := enT_bd g ha (el a).length
  rw [fT_all] at this
  exact this

theorem w81 (a : Nat) : runW progX 81 [U a] [] = some (.fn (.func 106) [] [.pt 0 0], [cU a]) := by
  rw [r81 (by simp)]; unfold x81; dsimp only
  (sym => (simp [yC_nm, yC_rn, yM_s, yC_gr, yC_sl, yC_fz, yC_len, yC_0, yC_1, yC_2, yC_3, yC_4, yC_15, yC_same, Za,Zb,Zf,Zh,Zl,Zn,Zu,Zw,Zy,YL,YP,YR,Xk,Xo,Xz,XP,Wa,Wc,Wp,Wx,Wz,W4,W5,W7,W8,W9,WB,WE,WF,WG,WH,WM,WN,WS,Vi,Vw,Vx,Vz,V0,V1,V2,V3,V6,V7,V8,V9,VB,VK,VL,VM,VO,VP,VR,VT,VW,Uk,Ur,Us,Ut,Uu,U1,U2,U9,UA,UZ,Tf,Tg,Tk,Ts,Tt,Ty,Sc]; all_goals tactic => exact rfl))
section
variable {l : Li} {b : Nat → Nat} {es : List (AV × AV)}
abbrev h110 (l : Li) (b : Nat → Nat) (es : List (AV × AV)) (n : Int) : XH := [some (.loop 110 0 [.pt 1 0, .pt 4 0] .ready), some (.blk false (.cells true [.pt 2 0])), some (.blk false (.cells true (yC l b 3))), some (.blk true (.map true es)), some (.blk true (.cells true [I n]))]
theorem home110 (n : Int) : Home 5 (h110 l b es n) := by
  refine ⟨fun _ => rfl, fun _ _ => rfl, fun _ => rfl, ?_, ?_⟩
  · intro a e h0 h1
    (sym => (simp [yC_nm, yC_rn, yM_s, yC_gr, yC_sl, yC_fz, yC_len, yC_0, yC_1, yC_2, yC_3, yC_4, yC_15, yC_same, Za,YH,YL,YQ,Xh,Xk,Xp,Xt,XV,Wz,W5,W7,W9,WB,WC,WE,WF,WG,WM,WN,WO,WP,WR,WS,WT,WU,Vi,Vz,V0,V1,VD,VE,VL,VM,VN,VO,VP,VQ,VR,Uk,Uq,Ur,Us,Ut,Uu,Ux,U1,Tr,Sc, h0, h1]; all_goals tactic => exact rfl))
  · intro a
    (sym => (simp [yC_nm, yC_rn, yM_s, yC_gr, yC_sl, yC_fz, yC_len, yC_0, yC_1, yC_2, yC_3, yC_4, yC_15, yC_same, Za,YH,YL,YQ,Xh,Xk,Xp,Xt,XV,Wz,W5,W7,W9,WB,WC,WE,WF,WG,WM,WN,WO,WP,WR,WS,WT,WU,Vi,Vz,V0,V1,VD,VE,VL,VM,VN,VO,VP,VQ,VR,Uk,Uq,Ur,Us,Ut,Uu,Ux,U1,Tr,Sc]; all_goals tactic => exact rfl))
theorem y110 (n m : Int) {k : Nat} {x : Ld} (hk : l.ls[k]? = some x) (hm : IntKind.i64.wrap (n + x.ch) = m) : Yd (h110 l b es n) (h110 l b es m) k true := by
  have c1 := lt_ix (lt_of hk)
  have y : runYW progX (.fn (.yield 0) [] []) [I (k : Nat)] (h110 l b es n) = some (.bool true, h110 l b es m) := by
    rw [runYW_eq (K := 110) (d := x110) (site := 0) (vs := [.pt 1 0, .pt 4 0]) rfl rfl (by rfl) rfl]
    (sym => (simp [yC_nm, yC_rn, yM_s, yC_gr, yC_sl, yC_fz, yC_len, yC_0, yC_1, yC_2, yC_3, yC_4, yC_15, yC_same, Za,Zb,Zc,Zf,Zh,Zi,Zl,Zm,Zu,Z1,Z2,Z5,Z7,ZF,ZG,ZH,ZI,ZK,ZL,ZX,ZY,Ye,Yf,Yh,Yt,Yu,YD,YE,YF,YL,YQ,YR,Xe,Xf,Xk,Xp,Wc,Wn,Wp,Wq,Wr,Ws,Wt,Wv,Ww,Wy,Wz,W0,W3,W4,W5,W6,W7,W8,W9,WA,WB,WC,WE,WF,WG,WI,WJ,WK,WM,WN,WO,WP,WR,WS,WT,WU,WV,WW,WX,WY,WZ,Vy,V1,VC,VL,VM,VN,VO,VP,VQ,VR,VS,VT,VU,VV,VW,VZ,Ud,Ue,Uh,Uk,Un,Uo,Uq,Ur,Us,Ut,Uu,Uv,Uw,U3,U7,U8,UP,UQ,UR,US,UU,UV,UW,Te,Tj,Tn,Ts,TD,TE,TF,TG,TQ,TR,TS,TT,TU,Sb, c1, hk, hm]; all_goals tactic => exact rfl))
  intro a
  (sym => (simp [yC_nm, yC_rn, yM_s, yC_gr, yC_sl, yC_fz, yC_len, yC_0, yC_1, yC_2, yC_3, yC_4, yC_15, yC_same, Za,Zb,Zc,Zf,Zh,Zi,Zl,Zm,Zu,Z1,Z2,Z5,Z7,ZF,ZG,ZH,ZI,ZK,ZL,ZX,ZY,Ye,Yf,Yh,Yt,Yu,YD,YE,YF,YL,YQ,YR,Xe,Xf,Xk,Xp,Wc,Wn,Wp,Wq,Wr,Ws,Wt,Wv,Ww,Wy,Wz,W0,W3,W4,W5,W6,W7,W8,W9,WA,WB,WC,WE,WF,WG,WI,WJ,WK,WM,WN,WO,WP,WR,WS,WT,WU,WV,WW,WX,WY,WZ,Vy,V1,VC,VL,VM,VN,VO,VP,VQ,VR,VS,VT,VU,VV,VW,VZ,Ud,Ue,Uh,Uk,Un,Uo,Uq,Ur,Us,Ut,Uu,Uv,Uw,U3,U7,U8,UP,UQ,UR,US,UU,UV,UW,Te,Tj,Tn,Ts,TD,TE,TF,TG,TQ,TR,TS,TT,TU,Sb, y]; all_goals tactic => exact rfl))
theorem w110 (g : Good l) {a : Nat} (ha : a < 2 ^ l.ls.length) : runW progX 110 [.pt 0 0, U a] (hY l b es) = some (I (endF l a), hY l b es) := by
  have hfew := g.few
  have ha2 := lt_10 ha hfew
  have e81 := w81 a
  have e : runW progX 106 [.fn (.yield 0) [] [], .pt 5 0] [some (.loop 110 0 [.pt 1 0, .pt 4 0] .ready), some (.blk false (.cells true [.pt 2 0])), some (.blk false (.cells true (yC l b 3))), some (.blk true (.map true es)), some (.blk true (.cells true [I l.hi])), cU a] =
      some (.tup [], [some (.loop 110 0 [.pt 1 0, .pt 4 0] .ready), some (.blk false (.cells true [.pt 2 0])), some (.blk false (.cells true (yC l b 3))), some (.blk true (.map true es)), some (.blk true (.cells true [I (endF l a)])), some (.blk true (.cells true [.int .u64 0]))]) := by
    have h := each_all (n := 5) (G := fun i => h110 l b es (fT (enS l) l.hi (el a) i)) ha2 (fun i _ => home110 _) (by
      intro i v hv
      obtain ⟨x, kd, h1, h2, _, _, _, _, _, h8⟩ := g.ldn (el_lt ha (List.mem_of_getElem? hv))
      have b1 := enT_bd g ha i
      refine y110 _ _ h1 ?_
      rw [fT_up hv]
      show IntKind.i64.wrap (fT (enS l) l.hi (el a) i + x.ch) = fT (enS l) l.hi (el a) i + (ldN l v).ch
      rw [h2]
      exact wrap_ok (by omega) (by omega))
    unfold endF
    rw [fT_all] at h
    exact h
  rw [r110 (by simp)]; unfold x110; dsimp only
  (sym => (simp [yC_nm, yC_rn, yM_s, yC_gr, yC_sl, yC_fz, yC_len, yC_0, yC_1, yC_2, yC_3, yC_4, yC_15, yC_same, Za,Zb,Zc,Zf,Zg,Zh,Zj,Zl,Zm,Zn,Zu,Zv,Zy,Z1,Z5,ZE,ZI,ZJ,ZM,ZN,ZR,ZS,ZX,YD,YE,YL,YQ,YR,YY,Xe,Xh,Xk,Xo,Xp,Xq,XP,XX,Wc,Wh,Wp,Wq,Wr,Ws,Wt,Wv,Ww,Wx,Wy,Wz,W0,W3,W4,W5,W6,W7,W8,W9,WA,WB,WC,WE,WF,WG,WI,WJ,WK,WM,WN,WO,WP,WR,WS,WT,WU,WV,WW,WX,WY,Vi,Vk,Vl,Vm,Vw,Vx,Vz,V0,V1,V2,V3,V6,V7,V8,V9,VB,VK,VL,VM,VN,VO,VP,VQ,VR,VS,VT,VW,VZ,Uh,Uk,Uq,Ur,Us,Ut,Uu,Uv,Uw,U1,U2,U3,U9,UA,UP,UQ,UU,UV,UW,UZ,Tf,Tg,Tj,Tk,Tn,Ts,Tt,TD,TE,TH,TK,TL,TM,TN,TO,Sc,Sn,Sq,Ss, e81, e]; all_goals tactic => exact rfl))
end
end Go.Proofs.YtpbeclkpohehgaaDoor
namespace Go.Proofs.YtpbeclkpohehgaaDoor
open Go Go.DL
set_option maxRecDepth 100000
set_option maxHeartbeats 4000000

theorem allT_bit {t : List Int} {a : Nat} : ∀ {i x : Nat}, (allT t a i).testBit x = true ↔ a.testBit x = true ∨ ∃ j, j < i ∧ (t.getD j 0).toNat = x
  | 0, x => by
    rw [allT]
    exact ⟨.inl, fun h => h.elim id fun ⟨j, hj, _⟩ => by omega⟩
  | i + 1, x => by
    rw [allT, or_bit, Bool.or_eq_true, allT_bit, decide_eq_true_iff]
    constructor
    · rintro ((h | ⟨j, h1, h2⟩) | h)
      · exact .inl h
      · exact .inr ⟨j, by omega, h2⟩
      · exact .inr ⟨i, by omega, h⟩
    · rintro (h | ⟨j, h1, h2⟩)
      · exact .inl (.inl h)
      · by_cases hj : j = i
        · subst hj; exact .inr h2
        · exact .inl (.inr ⟨j, by omega, h2⟩)
abbrev plc (T : List (List Int)) (j i : Nat) : Nat := ((T.getD j []).getD i 0).toNat
theorem accT_bit {T : List (List Int)} : ∀ {J x : Nat}, (accT T J).testBit x = true ↔ ∃ j, j < J ∧ ∃ i, i < (T.getD j []).length ∧ plc T j i = x
  | 0, x => by
    rw [accT, Nat.zero_testBit]
    exact ⟨fun h => by simp at h, fun ⟨j, hj, _⟩ => by omega⟩
  | J + 1, x => by
    rw [accT, allT_bit, accT_bit]
    constructor
    · rintro (⟨j, h1, h2⟩ | ⟨i, h1, h2⟩)
      · exact ⟨j, by omega, h2⟩
      · exact ⟨J, by omega, i, h1, h2⟩
    · rintro ⟨j, h1, i, h2, h3⟩
      by_cases hj : j = J
      · subst hj; exact .inr ⟨i, h2, h3⟩
      · exact .inl ⟨j, by omega, i, h2, h3⟩
theorem Good.fresh {l : Li} (g : Good l) {j i : Nat} (hj : j < l.ts.length) (hi : i < (l.ts.getD j []).length) : (0 ≤ (l.ts.getD j []).getD i 0 ∧ (l.ts.getD j []).getD i 0 < l.ls.length) ∧ (allT (l.ts.getD j []) (accT l.ts j) i).testBit (plc l.ts j i) = false := by
  have h := (errT_0 (g.tracks j hj)).2 i hi
  rcases elE_of (n := l.ls.length) (all := allT (l.ts.getD j []) (accT l.ts j) i) ((l.ts.getD j []).getD i 0) with ⟨_, h1, h2, _⟩ | ⟨_, _, _, h4⟩ | ⟨_, h4⟩
  · exact ⟨h1, h2⟩
  · rw [h] at h4; simp at h4
  · rw [h] at h4; simp at h4
theorem Good.apart {l : Li} (g : Good l) {j i i' : Nat} (hj : j < l.ts.length) (hi : i < (l.ts.getD j []).length) (h : i' < i) : plc l.ts j i' ≠ plc l.ts j i := by
  intro hc
  have := (g.fresh hj hi).2
  rw [allT_bit.2 (.inr ⟨i', h, hc⟩)] at this
  simp at this
theorem Good.apart2 {l : Li} (g : Good l) {j i j' i' : Nat} (hj : j < l.ts.length) (hi : i < (l.ts.getD j []).length) (h : j' < j) (h' : i' < (l.ts.getD j' []).length) : plc l.ts j' i' ≠ plc l.ts j i := by
  intro hc
  have := (g.fresh hj hi).2
  rw [allT_bit.2 (.inl (accT_bit.2 ⟨j', h, i', h', hc⟩))] at this
  simp at this
theorem bT_not {t : List Int} {b : Nat → Nat} {x : Nat} : ∀ m, (∀ i, i < m → (t.getD i 0).toNat ≠ x) → bT t b m x = b x
  | 0, _ => rfl
  | m + 1, h => by
    have h0 := h m (by omega)
    show (if x = (t.getD m 0).toNat then allT t 0 m else bT t b m x) = b x
    rw [if_neg fun hc => h0 hc.symm]
    exact bT_not m fun i hi => h i (by omega)
theorem bT_at {t : List Int} {b : Nat → Nat} {i : Nat} : ∀ m, i < m → (∀ i', i < i' → i' < m → (t.getD i 0).toNat ≠ (t.getD i' 0).toNat) → bT t b m (t.getD i 0).toNat = allT t 0 i
  | 0, hm, _ => by omega
  | m + 1, hm, h => by
    show (if (t.getD i 0).toNat = (t.getD m 0).toNat then allT t 0 m else bT t b m (t.getD i 0).toNat) = _
    by_cases hi : i = m
    · subst hi; rw [if_pos rfl]
    · rw [if_neg (h m (by omega) (by omega))]
      exact bT_at m (by omega) fun i' h1 h2 => h i' h1 (by omega)
theorem beh_at {l : Li} (g : Good l) : ∀ J, J ≤ l.ts.length → ∀ j i, j < J → i < (l.ts.getD j []).length → bA l.ts J (plc l.ts j i) = allT (l.ts.getD j []) 0 i
  | 0, _, j, i, hj, _ => by omega
  | J + 1, hJ, j, i, hj, hi => by
    show bT (l.ts.getD J []) (bA l.ts J) (l.ts.getD J []).length (plc l.ts j i) = _
    by_cases hjJ : j = J
    · subst hjJ
      exact bT_at _ hi fun i' h1 h2 => g.apart (by omega) h2 h1
    · rw [bT_not _ fun i' h1 hc => g.apart2 (j := J) (i := i') (j' := j) (i' := i) (by omega) h1 (by omega) hi hc.symm]
      exact beh_at g J (by omega) j i (by omega) hi
theorem bT_occ {t : List Int} {b : Nat → Nat} {x : Nat} : ∀ m, bT t b m x = b x ∨ ∃ i, i < m ∧ (t.getD i 0).toNat = x
  | 0 => .inl rfl
  | m + 1 => by
    show (if x = (t.getD m 0).toNat then allT t 0 m else bT t b m x) = b x ∨ _
    by_cases hx : x = (t.getD m 0).toNat
    · exact .inr ⟨m, by omega, hx.symm⟩
    · rw [if_neg hx]
      rcases bT_occ m with h | ⟨i, h1, h2⟩
      · exact .inl h
      · exact .inr ⟨i, by omega, h2⟩
theorem bA_occ {T : List (List Int)} {x : Nat} : ∀ J, bA T J x = 0 ∨ ∃ j, j < J ∧ ∃ i, i < (T.getD j []).length ∧ plc T j i = x
  | 0 => .inl rfl
  | J + 1 => by
    show bT (T.getD J []) (bA T J) (T.getD J []).length x = 0 ∨ _
    rcases bT_occ (t := T.getD J []) (b := bA T J) (x := x) (T.getD J []).length with h | ⟨i, h1, h2⟩
    · rw [h]
      rcases bA_occ (T := T) (x := x) J with h | ⟨j, h1, h2⟩
      · exact .inl h
      · exact .inr ⟨j, by omega, h2⟩
    · exact .inr ⟨J, by omega, i, h1, h2⟩
/-- What stands ahead of what: sets of lesser numbers. -/
structure Prec (n : Nat) (b : Nat → Nat) : Prop where
  lt : ∀ k, b k < 2 ^ n
  irr : ∀ k, (b k).testBit k = false
  tr : ∀ j k, (b j).testBit k = true → ∀ i, (b k).testBit i = true → (b j).testBit i = true
theorem Good.prec {l : Li} (g : Good l) : Prec l.ls.length (behF l.ts) := by
  have hz : ∀ x, behF l.ts x = 0 ∨ ∃ j i, j < l.ts.length ∧ i < (l.ts.getD j []).length ∧ x = plc l.ts j i ∧ behF l.ts x = allT (l.ts.getD j []) 0 i := by
    intro x
    rcases bA_occ (T := l.ts) (x := x) l.ts.length with h | ⟨j, h1, i, h2, h3⟩
    · exact .inl h
    · exact .inr ⟨j, i, h1, h2, h3.symm, by rw [← h3]; exact beh_at g _ (Nat.le_refl _) j i h1 h2⟩
  refine ⟨fun k => ?_, fun k => ?_, fun x k hk y hy => ?_⟩
  · apply Nat.lt_pow_two_of_testBit
    intro y hy
    rcases hz k with h | ⟨j, i, h1, h2, h3, h4⟩
    · rw [h, Nat.zero_testBit]
    · rw [h4]
      cases hc : (allT (l.ts.getD j []) 0 i).testBit y with
      | false => rfl
      | true =>
        rcases allT_bit.1 hc with h5 | ⟨i', h5, h6⟩
        · rw [Nat.zero_testBit] at h5; simp at h5
        · have := (g.fresh h1 (i := i') (by omega)).1
          omega
  · rcases hz k with h | ⟨j, i, h1, h2, h3, h4⟩
    · rw [h, Nat.zero_testBit]
    · rw [h4]
      cases hc : (allT (l.ts.getD j []) 0 i).testBit k with
      | false => rfl
      | true =>
        rcases allT_bit.1 hc with h5 | ⟨i', h5, h6⟩
        · rw [Nat.zero_testBit] at h5; simp at h5
        · exact absurd (h6.trans h3) (g.apart h1 h2 h5)
  · rcases hz x with h | ⟨j, i, h1, h2, h3, h4⟩
    · rw [h, Nat.zero_testBit] at hk; simp at hk
    · rw [h4] at hk ⊢
      rcases allT_bit.1 hk with h5 | ⟨i', h5, h6⟩
      · rw [Nat.zero_testBit] at h5; simp at h5
      · have e : behF l.ts k = allT (l.ts.getD j []) 0 i' := by rw [← h6]; exact beh_at g _ (Nat.le_refl _) j i' h1 (by omega)
        rw [e] at hy
        rcases allT_bit.1 hy with h7 | ⟨i'', h7, h8⟩
        · rw [Nat.zero_testBit] at h7; simp at h7
        · exact allT_bit.2 (.inr ⟨i'', by omega, h8⟩)
theorem sub_lt {a c : Nat} (h : ∀ i, a.testBit i = true → c.testBit i = true) (hne : a ≠ c) : a < c := by
  have e : a &&& c = a := by
    apply Nat.eq_of_testBit_eq
    intro i
    rw [Nat.testBit_and]
    cases ha : a.testBit i with
    | false => rfl
    | true => rw [h i ha]; rfl
  have : a ≤ c := by
    have := Nat.and_le_right (n := a) (m := c)
    omega
  omega
theorem Prec.less {n : Nat} {b : Nat → Nat} (p : Prec n b) {j k : Nat} (h : (b j).testBit k = true) : b k < b j := by
  refine sub_lt (p.tr j k h) fun hc => ?_
  have := p.irr k
  rw [hc, h] at this
  simp at this
def freeB (b : Nat → Nat) (a k : Nat) : Bool := (el a).all fun j => !(b j).testBit k
theorem free_not {b : Nat → Nat} {a k : Nat} (h : freeB b a k = false) : ∃ j, j ∈ el a ∧ (b j).testBit k = true := by
  unfold freeB at h
  rw [List.all_eq_false] at h
  obtain ⟨j, h1, h2⟩ := h
  exact ⟨j, h1, by simpa using h2⟩
/-- Of a set of loads some one can be the last. -/
theorem Prec.free {n : Nat} {b : Nat → Nat} (p : Prec n b) {a : Nat} : ∀ (m k : Nat), k ∈ el a → 2 ^ n - b k ≤ m → ∃ k, k ∈ el a ∧ freeB b a k = true
  | 0, k, _, hm => by
    have := p.lt k
    omega
  | m + 1, k, hk, hm => by
    cases hf : freeB b a k with
    | true => exact ⟨k, hk, hf⟩
    | false =>
      obtain ⟨j, h1, h2⟩ := free_not hf
      have := p.less h2
      exact p.free m j h1 (by omega)
/-- If not all were crushed, some one can come next. -/
theorem Prec.next {n : Nat} {b : Nat → Nat} (p : Prec n b) {done : Nat} : ∀ (m k : Nat), k < n → done.testBit k = false → b k ≤ m → ∃ k, k < n ∧ done.testBit k = false ∧ ∀ i, (b k).testBit i = true → done.testBit i = true := by
  intro m
  induction m using Nat.strongRecOn with
  | ind m ih =>
    intro k hk hd hm
    by_cases hc : ∀ i, (b k).testBit i = true → done.testBit i = true
    · exact ⟨k, hk, hd, hc⟩
    · rw [Classical.not_forall] at hc
      obtain ⟨i, hi⟩ := hc
      rw [Classical.not_imp] at hi
      have h1 := p.less hi.1
      have hin : i < n := by
        by_cases h : i < n
        · exact h
        · have := bit_lt (p.lt k) (i := i) (by omega)
          rw [hi.1] at this; simp at this
      exact ih (b i) (by omega) i hin (by simpa using hi.2) (Nat.le_refl _)
end Go.Proofs.YtpbeclkpohehgaaDoor
