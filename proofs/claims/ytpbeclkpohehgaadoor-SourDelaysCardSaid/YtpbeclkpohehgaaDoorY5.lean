/- Parts of a proof, joined: GT E0 E1 K1 K2 K3 K4 K5 K6 K7 K8 K9 K10. No statement of the seed is proved here. -/
import Derived.KernelRfl
import Derived.Test.YtpbeclkpohehgaaDoorY4
set_option linter.unusedSimpArgs false
set_option linter.unusedVariables false
set_option linter.unusedSectionVars false
namespace Go.Proofs.YtpbeclkpohehgaaDoor
open Go Go.DL Go.Proofs.Tryd

def progX : Nat → Option XFn
  | 7 => some x7
  | 14 => some x14
  | 15 => some x15
  | 16 => some x16
  | 17 => some x17
  | 18 => some x18
  | 19 => some x19
  | 20 => some x20
  | 21 => some x21
  | 22 => some x22
  | 23 => some x23
  | 29 => some x29
  | 32 => some x32
  | 34 => some x34
  | 36 => some x36
  | 37 => some x37
  | 38 => some x38
  | 44 => some x44
  | 48 => some x48
  | 49 => some x49
  | 50 => some x50
  | 51 => some x51
  | 52 => some x52
  | 53 => some x53
  | 54 => some x54
  | 55 => some x55
  | 56 => some x56
  | 57 => some x57
  | 58 => some x58
  | 59 => some x59
  | 60 => some x60
  | 61 => some x61
  | 62 => some x62
  | 63 => some x63
  | 64 => some x64
  | 72 => some x72
  | 73 => some x73
  | 74 => some x74
  | 75 => some x75
  | 76 => some x76
  | 80 => some x80
  | 81 => some x81
  | 82 => some x82
  | 83 => some x83
  | 84 => some x84
  | 85 => some x85
  | 86 => some x86
  | 88 => some x88
  | 89 => some x89
  | 90 => some x90
  | 91 => some x91
  | 93 => some x93
  | 105 => some x105
  | 106 => some x106
  | 107 => some x107
  | 108 => some x108
  | 109 => some x109
  | 110 => some x110
  | 111 => some x111
  | 112 => some x112
  | 116 => some x116
  | 117 => some x117
  | 118 => some x118
  | 119 => some x119
  | _ => none
theorem progX_ok : XOk prog progX := by
  refine ⟨rfl, fun k d h => ?_, fun k d h => ?_, fun k d h => ?_⟩
  · unfold progX at h
    split at h <;> first | (cases h; done) | (simp only [Option.some.injEq] at h; subst h; first | exact is7 | exact is14 | exact is15 | exact is16 | exact is17 | exact is18 | exact is19 | exact is20 | exact is21 | exact is22 | exact is23 | exact is29 | exact is32 | exact is34 | exact is36 | exact is37 | exact is38 | exact is44 | exact is48 | exact is49 | exact is50 | exact is51 | exact is52 | exact is53 | exact is54 | exact is55 | exact is56 | exact is57 | exact is58 | exact is59 | exact is60 | exact is61 | exact is62 | exact is63 | exact is64 | exact is72 | exact is73 | exact is74 | exact is75 | exact is76 | exact is80 | exact is81 | exact is82 | exact is83 | exact is84 | exact is85 | exact is86 | exact is88 | exact is89 | exact is90 | exact is91 | exact is93 | exact is105 | exact is106 | exact is107 | exact is108 | exact is109 | exact is110 | exact is111 | exact is112 | exact is116 | exact is117 | exact is118 | exact is119)
  · unfold progX at h
    split at h <;> first | (cases h; done) | (simp only [Option.some.injEq] at h; subst h; first | exact ok7 | exact ok14 | exact ok15 | exact ok16 | exact ok17 | exact ok18 | exact ok19 | exact ok20 | exact ok21 | exact ok22 | exact ok23 | exact ok29 | exact ok32 | exact ok34 | exact ok36 | exact ok37 | exact ok38 | exact ok44 | exact ok48 | exact ok49 | exact ok50 | exact ok51 | exact ok52 | exact ok53 | exact ok54 | exact ok55 | exact ok56 | exact ok57 | exact ok58 | exact ok59 | exact ok60 | exact ok61 | exact ok62 | exact ok63 | exact ok64 | exact ok72 | exact ok73 | exact ok74 | exact ok75 | exact ok76 | exact ok80 | exact ok81 | exact ok82 | exact ok83 | exact ok84 | exact ok85 | exact ok86 | exact ok88 | exact ok89 | exact ok90 | exact ok91 | exact ok93 | exact ok105 | exact ok106 | exact ok107 | exact ok108 | exact ok109 | exact ok110 | exact ok111 | exact ok112 | exact ok116 | exact ok117 | exact ok118 | exact ok119)
  · unfold progX at h
    split at h <;> first | (cases h; done) | (simp only [Option.some.injEq] at h; subst h; first | exact st7 | exact st14 | exact st15 | exact st16 | exact st17 | exact st18 | exact st19 | exact st20 | exact st21 | exact st22 | exact st23 | exact st29 | exact st32 | exact st34 | exact st36 | exact st37 | exact st38 | exact st44 | exact st48 | exact st49 | exact st50 | exact st51 | exact st52 | exact st53 | exact st54 | exact st55 | exact st56 | exact st57 | exact st58 | exact st59 | exact st60 | exact st61 | exact st62 | exact st63 | exact st64 | exact st72 | exact st73 | exact st74 | exact st75 | exact st76 | exact st80 | exact st81 | exact st82 | exact st83 | exact st84 | exact st85 | exact st86 | exact st88 | exact st89 | exact st90 | exact st91 | exact st93 | exact st105 | exact st106 | exact st107 | exact st108 | exact st109 | exact st110 | exact st111 | exact st112 | exact st116 | exact st117 | exact st118 | exact st119)
theorem r7 {vs : List AV} {h : XH} (hl : vs.length ≤ 45) : runW progX 7 vs h = retX x7.res x7.ownR h.length (execW progX 7 h.length none x7.body (argEnv (if x7.ownA then vs else nzL vs)) h) := runW_eq rfl hl h
theorem r14 {vs : List AV} {h : XH} (hl : vs.length ≤ 57) : runW progX 14 vs h = retX x14.res x14.ownR h.length (execW progX 14 h.length none x14.body (argEnv (if x14.ownA then vs else nzL vs)) h) := runW_eq rfl hl h
theorem r15 {vs : List AV} {h : XH} (hl : vs.length ≤ 170) : runW progX 15 vs h = retX x15.res x15.ownR h.length (execW progX 15 h.length none x15.body (argEnv (if x15.ownA then vs else nzL vs)) h) := runW_eq rfl hl h
theorem r16 {vs : List AV} {h : XH} (hl : vs.length ≤ 65) : runW progX 16 vs h = retX x16.res x16.ownR h.length (execW progX 16 h.length none x16.body (argEnv (if x16.ownA then vs else nzL vs)) h) := runW_eq rfl hl h
theorem r17 {vs : List AV} {h : XH} (hl : vs.length ≤ 95) : runW progX 17 vs h = retX x17.res x17.ownR h.length (execW progX 17 h.length none x17.body (argEnv (if x17.ownA then vs else nzL vs)) h) := runW_eq rfl hl h
theorem r18 {vs : List AV} {h : XH} (hl : vs.length ≤ 96) : runW progX 18 vs h = retX x18.res x18.ownR h.length (execW progX 18 h.length none x18.body (argEnv (if x18.ownA then vs else nzL vs)) h) := runW_eq rfl hl h
theorem r20 {vs : List AV} {h : XH} (hl : vs.length ≤ 35) : runW progX 20 vs h = retX x20.res x20.ownR h.length (execW progX 20 h.length none x20.body (argEnv (if x20.ownA then vs else nzL vs)) h) := runW_eq rfl hl h
theorem r22 {vs : List AV} {h : XH} (hl : vs.length ≤ 67) : runW progX 22 vs h = retX x22.res x22.ownR h.length (execW progX 22 h.length none x22.body (argEnv (if x22.ownA then vs else nzL vs)) h) := runW_eq rfl hl h
theorem r23 {vs : List AV} {h : XH} (hl : vs.length ≤ 59) : runW progX 23 vs h = retX x23.res x23.ownR h.length (execW progX 23 h.length none x23.body (argEnv (if x23.ownA then vs else nzL vs)) h) := runW_eq rfl hl h
theorem r37 {vs : List AV} {h : XH} (hl : vs.length ≤ 74) : runW progX 37 vs h = retX x37.res x37.ownR h.length (execW progX 37 h.length none x37.body (argEnv (if x37.ownA then vs else nzL vs)) h) := runW_eq rfl hl h
theorem r38 {vs : List AV} {h : XH} (hl : vs.length ≤ 92) : runW progX 38 vs h = retX x38.res x38.ownR h.length (execW progX 38 h.length none x38.body (argEnv (if x38.ownA then vs else nzL vs)) h) := runW_eq rfl hl h
theorem r52 {vs : List AV} {h : XH} (hl : vs.length ≤ 46) : runW progX 52 vs h = retX x52.res x52.ownR h.length (execW progX 52 h.length none x52.body (argEnv (if x52.ownA then vs else nzL vs)) h) := runW_eq rfl hl h
theorem r53 {vs : List AV} {h : XH} (hl : vs.length ≤ 53) : runW progX 53 vs h = retX x53.res x53.ownR h.length (execW progX 53 h.length none x53.body (argEnv (if x53.ownA then vs else nzL vs)) h) := runW_eq rfl hl h
theorem r54 {vs : List AV} {h : XH} (hl : vs.length ≤ 22) : runW progX 54 vs h = retX x54.res x54.ownR h.length (execW progX 54 h.length none x54.body (argEnv (if x54.ownA then vs else nzL vs)) h) := runW_eq rfl hl h
theorem r55 {vs : List AV} {h : XH} (hl : vs.length ≤ 50) : runW progX 55 vs h = retX x55.res x55.ownR h.length (execW progX 55 h.length none x55.body (argEnv (if x55.ownA then vs else nzL vs)) h) := runW_eq rfl hl h
theorem r56 {vs : List AV} {h : XH} (hl : vs.length ≤ 26) : runW progX 56 vs h = retX x56.res x56.ownR h.length (execW progX 56 h.length none x56.body (argEnv (if x56.ownA then vs else nzL vs)) h) := runW_eq rfl hl h
theorem r57 {vs : List AV} {h : XH} (hl : vs.length ≤ 42) : runW progX 57 vs h = retX x57.res x57.ownR h.length (execW progX 57 h.length none x57.body (argEnv (if x57.ownA then vs else nzL vs)) h) := runW_eq rfl hl h
theorem r58 {vs : List AV} {h : XH} (hl : vs.length ≤ 15) : runW progX 58 vs h = retX x58.res x58.ownR h.length (execW progX 58 h.length none x58.body (argEnv (if x58.ownA then vs else nzL vs)) h) := runW_eq rfl hl h
theorem r59 {vs : List AV} {h : XH} (hl : vs.length ≤ 24) : runW progX 59 vs h = retX x59.res x59.ownR h.length (execW progX 59 h.length none x59.body (argEnv (if x59.ownA then vs else nzL vs)) h) := runW_eq rfl hl h
theorem r60 {vs : List AV} {h : XH} (hl : vs.length ≤ 48) : runW progX 60 vs h = retX x60.res x60.ownR h.length (execW progX 60 h.length none x60.body (argEnv (if x60.ownA then vs else nzL vs)) h) := runW_eq rfl hl h
theorem r61 {vs : List AV} {h : XH} (hl : vs.length ≤ 77) : runW progX 61 vs h = retX x61.res x61.ownR h.length (execW progX 61 h.length none x61.body (argEnv (if x61.ownA then vs else nzL vs)) h) := runW_eq rfl hl h
theorem r62 {vs : List AV} {h : XH} (hl : vs.length ≤ 15) : runW progX 62 vs h = retX x62.res x62.ownR h.length (execW progX 62 h.length none x62.body (argEnv (if x62.ownA then vs else nzL vs)) h) := runW_eq rfl hl h
theorem r63 {vs : List AV} {h : XH} (hl : vs.length ≤ 24) : runW progX 63 vs h = retX x63.res x63.ownR h.length (execW progX 63 h.length none x63.body (argEnv (if x63.ownA then vs else nzL vs)) h) := runW_eq rfl hl h
theorem r64 {vs : List AV} {h : XH} (hl : vs.length ≤ 62) : runW progX 64 vs h = retX x64.res x64.ownR h.length (execW progX 64 h.length none x64.body (argEnv (if x64.ownA then vs else nzL vs)) h) := runW_eq rfl hl h
theorem r76 {vs : List AV} {h : XH} (hl : vs.length ≤ 46) : runW progX 76 vs h = retX x76.res x76.ownR h.length (execW progX 76 h.length none x76.body (argEnv (if x76.ownA then vs else nzL vs)) h) := runW_eq rfl hl h
theorem r83 {vs : List AV} {h : XH} (hl : vs.length ≤ 10) : runW progX 83 vs h = retX x83.res x83.ownR h.length (execW progX 83 h.length none x83.body (argEnv (if x83.ownA then vs else nzL vs)) h) := runW_eq rfl hl h
theorem r88 {vs : List AV} {h : XH} (hl : vs.length ≤ 9) : runW progX 88 vs h = retX x88.res x88.ownR h.length (execW progX 88 h.length none x88.body (argEnv (if x88.ownA then vs else nzL vs)) h) := runW_eq rfl hl h
theorem r89 {vs : List AV} {h : XH} (hl : vs.length ≤ 8) : runW progX 89 vs h = retX x89.res x89.ownR h.length (execW progX 89 h.length none x89.body (argEnv (if x89.ownA then vs else nzL vs)) h) := runW_eq rfl hl h
theorem r90 {vs : List AV} {h : XH} (hl : vs.length ≤ 19) : runW progX 90 vs h = retX x90.res x90.ownR h.length (execW progX 90 h.length none x90.body (argEnv (if x90.ownA then vs else nzL vs)) h) := runW_eq rfl hl h
theorem r91 {vs : List AV} {h : XH} (hl : vs.length ≤ 8) : runW progX 91 vs h = retX x91.res x91.ownR h.length (execW progX 91 h.length none x91.body (argEnv (if x91.ownA then vs else nzL vs)) h) := runW_eq rfl hl h
theorem r93 {vs : List AV} {h : XH} (hl : vs.length ≤ 5) : runW progX 93 vs h = retX x93.res x93.ownR h.length (execW progX 93 h.length none x93.body (argEnv (if x93.ownA then vs else nzL vs)) h) := runW_eq rfl hl h
theorem r111 {vs : List AV} {h : XH} (hl : vs.length ≤ 19) : runW progX 111 vs h = retX x111.res x111.ownR h.length (execW progX 111 h.length none x111.body (argEnv (if x111.ownA then vs else nzL vs)) h) := runW_eq rfl hl h
theorem r112 {vs : List AV} {h : XH} (hl : vs.length ≤ 8) : runW progX 112 vs h = retX x112.res x112.ownR h.length (execW progX 112 h.length none x112.body (argEnv (if x112.ownA then vs else nzL vs)) h) := runW_eq rfl hl h
theorem r119 {vs : List AV} {h : XH} (hl : vs.length ≤ 35) : runW progX 119 vs h = retX x119.res x119.ownR h.length (execW progX 119 h.length none x119.body (argEnv (if x119.ownA then vs else nzL vs)) h) := runW_eq rfl hl h

end Go.Proofs.YtpbeclkpohehgaaDoor
namespace Go.Proofs.YtpbeclkpohehgaaDoor
open Go Go.DL
theorem wk_0 : runW progX 49 [] [] = some (.fs [[.fs [[I (0)], [I (2)]]], [.fs [[I (1)]]]], []) := runW_iff.2 ⟨400, by kernel_rfl⟩
theorem wk_1 : runW progX 48 [.fs [[.fs [[I (0)], [I (2)]]], [.fs [[I (1)]]]]] [] = some (.agg [.fs [[.fs [[I (0), I (10)], [I (600), I (20)], [I (900), I (50)], [I (1000), I (90)]]], [.fs [[I (900), I (10)], [I (1800), I (30)]]]], .fs [[I (0), I (300), I (300), I (100), I (200)], [I (1), I (700), I (800), I (200), I (200)], [I (0), I (500), I (600), I (100), I (100)]], .fs [[.fs [[I (0)], [I (2)]]], [.fs [[I (1)]]]], I (0), I (30)], []) := runW_iff.2 ⟨400, by kernel_rfl⟩
theorem wk_2 : runW progX 17 [.agg [.fs [[.fs [[I (0), I (10)], [I (600), I (20)], [I (900), I (50)], [I (1000), I (90)]]], [.fs [[I (900), I (10)], [I (1800), I (30)]]]], .fs [[I (0), I (300), I (300), I (100), I (200)], [I (1), I (700), I (800), I (200), I (200)], [I (0), I (500), I (600), I (100), I (100)]], .fs [[.fs [[I (0)], [I (2)]]], [.fs [[I (1)]]]], I (0), I (30)], .sl 0 0 1 3] [some (.blk true (.cells true [I (0), I (2), I (1)]))] = some (.tup [.fs [[I (100), I (230)], [I (400), I (530)], [I (200), I (330)]], .fs [[I (10), I (10)], [I (10), I (10)], [I (20), I (50)]], I (0)], [none]) := runW_iff.2 ⟨400, by kernel_rfl⟩
theorem wk_3 : runW progX 19 [.agg [.fs [[.fs [[I (0), I (10)], [I (600), I (20)], [I (900), I (50)], [I (1000), I (90)]]], [.fs [[I (900), I (10)], [I (1800), I (30)]]]], .fs [[I (0), I (300), I (300), I (100), I (200)], [I (1), I (700), I (800), I (200), I (200)], [I (0), I (500), I (600), I (100), I (100)]], .fs [[.fs [[I (0)], [I (2)]]], [.fs [[I (1)]]]], I (0), I (30)], .sl 0 0 1 3] [some (.blk true (.cells true [I (0), I (1), I (2)]))] = some (.tup [I (90), I (0)], [none]) := runW_iff.2 ⟨400, by kernel_rfl⟩
theorem wk_4 : runW progX 19 [.agg [.fs [[.fs [[I (0), I (10)], [I (600), I (20)], [I (900), I (50)], [I (1000), I (90)]]], [.fs [[I (900), I (10)], [I (1800), I (30)]]]], .fs [[I (0), I (300), I (300), I (100), I (200)], [I (1), I (700), I (800), I (200), I (200)], [I (0), I (500), I (600), I (100), I (100)]], .fs [[.fs [[I (0)], [I (2)]]], [.fs [[I (1)]]]], I (0), I (30)], .sl 0 0 1 3] [some (.blk true (.cells true [I (2), I (0), I (1)]))] = some (.tup [I (0), I (21)], [none]) := runW_iff.2 ⟨400, by kernel_rfl⟩
theorem wk_5 : runW progX 44 [I (100), I (230)] [] = some (.agg [I (100), I (230)], []) := runW_iff.2 ⟨400, by kernel_rfl⟩
theorem wk_6 : runW progX 44 [I (400), I (530)] [] = some (.agg [I (400), I (530)], []) := runW_iff.2 ⟨400, by kernel_rfl⟩
theorem wk_7 : runW progX 44 [I (200), I (330)] [] = some (.agg [I (200), I (330)], []) := runW_iff.2 ⟨400, by kernel_rfl⟩
theorem wk_8 : runW progX 21 [.fs [[I (100), I (230)], [I (400), I (530)], [I (200), I (330)]], .sl 0 0 2 3] [some (.blk true (.cells true [I (100), I (230), I (400), I (530), I (200), I (330)]))] = some (.bool true, [some (.blk true (.cells true [I (100), I (230), I (400), I (530), I (200), I (330)]))]) := runW_iff.2 ⟨400, by kernel_rfl⟩
theorem wk_9 : runW progX 50 [I (10)] [] = some (.agg [I (10), I (10)], []) := runW_iff.2 ⟨400, by kernel_rfl⟩
theorem wk_10 : runW progX 44 [I (20), I (50)] [] = some (.agg [I (20), I (50)], []) := runW_iff.2 ⟨400, by kernel_rfl⟩
theorem wk_11 : runW progX 21 [.fs [[I (10), I (10)], [I (10), I (10)], [I (20), I (50)]], .sl 0 0 2 3] [some (.blk true (.cells true [I (10), I (10), I (10), I (10), I (20), I (50)]))] = some (.bool true, [some (.blk true (.cells true [I (10), I (10), I (10), I (10), I (20), I (50)]))]) := runW_iff.2 ⟨400, by kernel_rfl⟩
theorem wk_12 : runW progX 29 [.agg [.fs [[.fs [[I (0), I (10)], [I (600), I (20)], [I (900), I (50)], [I (1000), I (90)]]], [.fs [[I (900), I (10)], [I (1800), I (30)]]]], .fs [[I (0), I (300), I (300), I (100), I (200)], [I (1), I (700), I (800), I (200), I (200)], [I (0), I (500), I (600), I (100), I (100)]], .fs [[.fs [[I (0)], [I (2)]]], [.fs [[I (1)]]]], I (0), I (30)]] [] = some (.tup [.fs [[I (0)], [I (2)], [I (1)]], I (50), I (0)], []) := runW_iff.2 ⟨400, by kernel_rfl⟩
theorem wk_13 : runW progX 51 [] [] = some (.fs [[.fs [[I (0)]]], [.fs [[I (1)]]], [.fs [[I (2)]]]], []) := runW_iff.2 ⟨400, by kernel_rfl⟩
theorem wk_14 : runW progX 48 [.fs [[.fs [[I (0)]]], [.fs [[I (1)]]], [.fs [[I (2)]]]]] [] = some (.agg [.fs [[.fs [[I (0), I (10)], [I (600), I (20)], [I (900), I (50)], [I (1000), I (90)]]], [.fs [[I (900), I (10)], [I (1800), I (30)]]]], .fs [[I (0), I (300), I (300), I (100), I (200)], [I (1), I (700), I (800), I (200), I (200)], [I (0), I (500), I (600), I (100), I (100)]], .fs [[.fs [[I (0)]]], [.fs [[I (1)]]], [.fs [[I (2)]]]], I (0), I (30)], []) := runW_iff.2 ⟨400, by kernel_rfl⟩
theorem wk_15 : runW progX 29 [.agg [.fs [[.fs [[I (0), I (10)], [I (600), I (20)], [I (900), I (50)], [I (1000), I (90)]]], [.fs [[I (900), I (10)], [I (1800), I (30)]]]], .fs [[I (0), I (300), I (300), I (100), I (200)], [I (1), I (700), I (800), I (200), I (200)], [I (0), I (500), I (600), I (100), I (100)]], .fs [[.fs [[I (0)]]], [.fs [[I (1)]]], [.fs [[I (2)]]]], I (0), I (30)]] [] = some (.tup [.fs [[I (2)], [I (0)], [I (1)]], I (20), I (0)], []) := runW_iff.2 ⟨400, by kernel_rfl⟩
theorem wk_16 : runW progX 32 [.agg [.fs [[.fs [[I (0), I (10)], [I (600), I (20)], [I (900), I (50)], [I (1000), I (90)]]], [.fs [[I (900), I (10)], [I (1800), I (30)]]]], .fs [[I (0), I (300), I (300), I (100), I (200)], [I (1), I (700), I (800), I (200), I (200)], [I (0), I (500), I (600), I (100), I (100)]], .fs [[.fs [[I (0)], [I (2)]]], [.fs [[I (1)]]]], I (0), I (30)]] [] = some (.tup [.fs [[I (0)], [I (2)]], I (0)], []) := runW_iff.2 ⟨400, by kernel_rfl⟩
theorem wk_17 : runW progX 37 [.agg [.fs [[.fs [[I (0), I (10)], [I (600), I (20)], [I (900), I (50)], [I (1000), I (90)]]], [.fs [[I (900), I (10)], [I (1800), I (30)]]]], .fs [[I (0), I (300), I (300), I (100), I (200)], [I (1), I (700), I (800), I (200), I (200)], [I (0), I (500), I (600), I (100), I (100)]], .fs [[.fs [[I (0)], [I (2)]]], [.fs [[I (1)]]]], I (0), I (30)], .sl 0 0 1 3, I (50)] [some (.blk true (.cells true [I (0), I (2), I (1)]))] = some (.tup [I (69), I (0)], [none]) := runW_iff.2 ⟨400, by kernel_rfl⟩
theorem wk_18 : runW progX 37 [.agg [.fs [[.fs [[I (0), I (10)], [I (600), I (20)], [I (900), I (50)], [I (1000), I (90)]]], [.fs [[I (900), I (10)], [I (1800), I (30)]]]], .fs [[I (0), I (300), I (300), I (100), I (200)], [I (1), I (700), I (800), I (200), I (200)], [I (0), I (500), I (600), I (100), I (100)]], .fs [[.fs [[I (0)], [I (2)]]], [.fs [[I (1)]]]], I (0), I (30)], .sl 0 0 1 3, I (90)] [some (.blk true (.cells true [I (0), I (2), I (1)]))] = some (.tup [I (1125899906842624), I (0)], [none]) := runW_iff.2 ⟨400, by kernel_rfl⟩
theorem wk_19 : runW progX 34 [.fs [[I (0)], [I (2)], [I (1)]], .sl 0 0 1 3] [some (.blk true (.cells true [I (0), I (2), I (1)]))] = some (.bool true, [some (.blk true (.cells true [I (0), I (2), I (1)]))]) := runW_iff.2 ⟨400, by kernel_rfl⟩
theorem wk_20 : runW progX 34 [.fs [[I (2)], [I (0)], [I (1)]], .sl 0 0 1 3] [some (.blk true (.cells true [I (2), I (0), I (1)]))] = some (.bool true, [some (.blk true (.cells true [I (2), I (0), I (1)]))]) := runW_iff.2 ⟨400, by kernel_rfl⟩
theorem wk_21 : runW progX 36 [.agg [.fs [[.fs [[I (0), I (10)], [I (600), I (20)], [I (900), I (50)], [I (1000), I (90)]]], [.fs [[I (900), I (10)], [I (1800), I (30)]]]], .fs [[I (0), I (300), I (300), I (100), I (200)], [I (1), I (700), I (800), I (200), I (200)], [I (0), I (500), I (600), I (100), I (100)]], .fs [[.fs [[I (0)], [I (2)]]], [.fs [[I (1)]]]], I (0), I (30)], I (50), .fs [[I (0)], [I (2)]]] [] = some (I (0), []) := runW_iff.2 ⟨400, by kernel_rfl⟩
theorem wk_22 : runW progX 36 [.agg [.fs [[.fs [[I (0), I (10)], [I (600), I (20)], [I (900), I (50)], [I (1000), I (90)]]], [.fs [[I (900), I (10)], [I (1800), I (30)]]]], .fs [[I (0), I (300), I (300), I (100), I (200)], [I (1), I (700), I (800), I (200), I (200)], [I (0), I (500), I (600), I (100), I (100)]], .fs [[.fs [[I (0)], [I (2)]]], [.fs [[I (1)]]]], I (0), I (30)], I (50), .sl 0 0 1 2] [some (.blk true (.cells true [I (0), I (2)]))] = some (I (0), [some (.blk true (.cells true [I (0), I (2)]))]) := runW_iff.2 ⟨400, by kernel_rfl⟩
theorem wk_23 : runW progX 36 [.agg [.fs [[.fs [[I (0), I (10)], [I (600), I (20)], [I (900), I (50)], [I (1000), I (90)]]], [.fs [[I (900), I (10)], [I (1800), I (30)]]]], .fs [[I (0), I (300), I (300), I (100), I (200)], [I (1), I (700), I (800), I (200), I (200)], [I (0), I (500), I (600), I (100), I (100)]], .fs [[.fs [[I (0)], [I (2)]]], [.fs [[I (1)]]]], I (0), I (30)], I (51), .sl 0 0 1 2] [some (.blk true (.cells true [I (0), I (2)]))] = some (I (11), [some (.blk true (.cells true [I (0), I (2)]))]) := runW_iff.2 ⟨400, by kernel_rfl⟩
end Go.Proofs.YtpbeclkpohehgaaDoor
namespace Go.Proofs.YtpbeclkpohehgaaDoor
open Go Go.DL
set_option maxHeartbeats 4000000
set_option maxRecDepth 100000
theorem works_w : runW progX 15 [] [] = some (.bool true, []) := by
  rw [r15 (by simp)]; unfold x15; dsimp only
  (sym => (simp [z00,z01,z03,z04,z05,z06,z07,z09,z0b,z0c,z0f,z0h,z0i,z0j,z0n,z0q,z0t,z0v,z0z,z1e,z1r,z1u,z20,z21,z22,z23,z26,z2i,z2t,z2u,z4l,z4m,z4o,z4q,z4s,z54,z57,z66,z67,z69,z6a,z6b,z6d,z6q,z6u,z7s,z7w,z8a,z8d,z9d,z9i,z9j,z9l,z9m,z9p,z9r,z9t,z9v,z9y,za0,za1,za2,za3,za5,za6,za7,za8,zaa,zab,zac,zad,zae,zaf,zal,zaq,zas,zat,zau,zba,zbc,zbd,zbe,zbt,zbu,zbw,zbx,zby,zbz,zc0,zc3,zc4,zc5,zc6,zce,zcg,zcj,zcn,zco,zcp,zcq,zcr,zct,zcu,zcv,zd3,zd6,zdd,zdj,zdk,zdm,zdn,zdo,zds,zdt,zdu,zdv,zdw,zdx,ze2,ze9,zea,zeb,zec,zeq,zer,zes,zet,zfg,zfm,zfo,zfp,zfq,zft,zg0,zg1,zhq,zhr,zje,zkn,zko,zkq, wk_0, wk_1, wk_2, wk_3, wk_4, wk_5, wk_6, wk_7, wk_8, wk_9, wk_10, wk_11, wk_12, wk_13, wk_14, wk_15, wk_16, wk_17, wk_18, wk_19, wk_20, wk_21, wk_22, wk_23]; all_goals tactic => exact rfl))
end Go.Proofs.YtpbeclkpohehgaaDoor
namespace Go.Proofs.YtpbeclkpohehgaaDoor
open Go Go.DL
set_option maxRecDepth 100000
set_option maxHeartbeats 1000000
theorem ptf (p : Prop) : p = True ∨ p = False := by
  by_cases h : p
  · exact .inl (eq_true h)
  · exact .inr (eq_false h)
theorem at_ix {α : Type} {l : List α} {i : Nat} (h : i < l.length) : ∃ x, l[i]? = some x := ⟨_, List.getElem?_eq_getElem h⟩
theorem lt_ix {α : Type} {l : List α} {i : Nat} (h : i < l.length) : ((i : Int) < (l.length : Int)) = True := eq_true (by omega)
theorem up_ix {n i : Nat} (h : i < n) (hn : n ≤ 9223372036854775807) : IntKind.i64.wrap ((i : Int) + 1) = (i : Int) + 1 := wrap_ok (by omega) (by omega)
theorem lt_of {α : Type} {l : List α} {i : Nat} {x : α} (h : l[i]? = some x) : i < l.length := (List.getElem?_eq_some_iff.1 h).1

def btw (a b c : Int) : Bool := decide (a ≤ b) && decide (b ≤ c)
theorem w58 (a b c : Int) : runW progX 58 [I a, I b, I c] [] = some (.bool (btw a b c), []) := by
  rw [r58 (by simp)]; unfold x58; dsimp only
  rcases ptf (a ≤ b) with h | h
  · (sym => (simp [z00,z01,z05,z07,z0b,z0c,z0h,z0i,z0k,z0n,z0q,z0v,z22,z23,z2w,z4m,z67,z6q,z7r,z7s,z9n,z9y,za3,za5,za7,za8,zba,zbt,zbu,zbw,zbx,zby,zbz,zc0,zc3,zc4,zc5,zc6,zc8,zcj,zco,zcr,zct,zcv,zd2,zd4,zdk,zdl,zdo,zds,zdt,ze2,ze3,zfm,zfo,zfp,zft,zg0,zg1,zje, h, btw.eq_1]; all_goals tactic => exact rfl))
  · (sym => (simp [z00,z01,z05,z07,z0b,z0c,z0h,z0i,z0k,z0n,z0q,z0v,z22,z23,z2w,z4m,z67,z6q,z7r,z7s,z9n,z9y,za3,za5,za7,za8,zba,zbt,zbu,zbw,zbx,zby,zbz,zc0,zc3,zc4,zc5,zc6,zc8,zcj,zco,zcr,zct,zcv,zd2,zd4,zdk,zdl,zdo,zds,zdt,ze2,ze3,zfm,zfo,zfp,zft,zg0,zg1,zje, h, btw.eq_1]; all_goals tactic => exact rfl))
theorem w62 (a b c : Int) : runW progX 62 [I b, I a, I c] [] = some (.bool (btw a b c), []) := by
  rw [r62 (by simp)]; unfold x62; dsimp only
  rcases ptf (a ≤ b) with h | h
  · (sym => (simp [z00,z01,z05,z07,z0b,z0c,z0h,z0i,z0k,z0n,z0q,z0v,z22,z23,z2w,z2y,z4m,z67,z6q,z7r,z7s,z9n,z9y,za3,za5,za7,za8,zba,zbt,zbu,zbw,zbx,zby,zbz,zc0,zc3,zc4,zc5,zc6,zc8,zcj,zco,zcr,zct,zcv,zd2,zd4,zdk,zdl,zdo,zds,zdt,ze2,ze3,zfm,zfo,zfp,zft,zg0,zg1,zje, h, btw.eq_1]; all_goals tactic => exact rfl))
  · (sym => (simp [z00,z01,z05,z07,z0b,z0c,z0h,z0i,z0k,z0n,z0q,z0v,z22,z23,z2w,z2y,z4m,z67,z6q,z7r,z7s,z9n,z9y,za3,za5,za7,za8,zba,zbt,zbu,zbw,zbx,zby,zbz,zc0,zc3,zc4,zc5,zc6,zc8,zcj,zco,zcr,zct,zcv,zd2,zd4,zdk,zdl,zdo,zds,zdt,ze2,ze3,zfm,zfo,zfp,zft,zg0,zg1,zje, h, btw.eq_1]; all_goals tactic => exact rfl))
/-- A span lies within others. -/
def inS (lo hi a b : Int) : Bool := decide (a ≤ lo) && (decide (lo ≤ hi) && decide (hi ≤ b))
theorem w59 (lo hi a b : Int) : runW progX 59 [.agg [I lo, I hi], I a, I b] [] = some (.bool (inS lo hi a b), []) := by
  rw [r59 (by simp)]; unfold x59; dsimp only
  rcases ptf (a ≤ lo) with h | h
  · rcases ptf (lo ≤ hi) with h2 | h2
    · (sym => (simp [z00,z01,z05,z07,z0b,z0c,z0f,z0h,z0i,z0k,z0n,z0q,z0r,z0v,z12,z1j,z22,z23,z29,z2w,z4m,z54,z57,z67,z6q,z7r,z7s,z7u,z8d,z9d,z9e,z9g,z9n,z9p,z9y,za3,za6,za7,za8,zba,zbt,zbu,zbw,zbx,zby,zbz,zc0,zc3,zc4,zc5,zc6,zc8,zcj,zco,zcq,zcr,zct,zcv,zd2,zd3,zd4,zd5,zdk,zdl,zds,zdt,zdw,zdx,ze2,ze3,zeo,zep,zf6,zf7,zfb,zfg,zfm,zfo,zfp,zft,zg0,zg1,zje, h, h2, inS.eq_1]; all_goals tactic => exact rfl))
    · (sym => (simp [z00,z01,z05,z07,z0b,z0c,z0f,z0h,z0i,z0k,z0n,z0q,z0r,z0v,z12,z1j,z22,z23,z29,z2w,z4m,z54,z57,z67,z6q,z7r,z7s,z7u,z8d,z9d,z9e,z9g,z9n,z9p,z9y,za3,za6,za7,za8,zba,zbt,zbu,zbw,zbx,zby,zbz,zc0,zc3,zc4,zc5,zc6,zc8,zcj,zco,zcq,zcr,zct,zcv,zd2,zd3,zd4,zd5,zdk,zdl,zds,zdt,zdw,zdx,ze2,ze3,zeo,zep,zf6,zf7,zfb,zfg,zfm,zfo,zfp,zft,zg0,zg1,zje, h, h2, inS.eq_1]; all_goals tactic => exact rfl))
  · (sym => (simp [z00,z01,z05,z07,z0b,z0c,z0f,z0h,z0i,z0k,z0n,z0q,z0r,z0v,z12,z1j,z22,z23,z29,z2w,z4m,z54,z57,z67,z6q,z7r,z7s,z7u,z8d,z9d,z9e,z9g,z9n,z9p,z9y,za3,za6,za7,za8,zba,zbt,zbu,zbw,zbx,zby,zbz,zc0,zc3,zc4,zc5,zc6,zc8,zcj,zco,zcq,zcr,zct,zcv,zd2,zd3,zd4,zd5,zdk,zdl,zds,zdt,zdw,zdx,ze2,ze3,zeo,zep,zf6,zf7,zfb,zfg,zfm,zfo,zfp,zft,zg0,zg1,zje, h, inS.eq_1]; all_goals tactic => exact rfl))
theorem w63 (lo hi a b : Int) : runW progX 63 [.agg [I lo, I hi], I a, I b] [] = some (.bool (inS lo hi a b), []) := by
  rw [r63 (by simp)]; unfold x63; dsimp only
  rcases ptf (a ≤ lo) with h | h
  · rcases ptf (lo ≤ hi) with h2 | h2
    · (sym => (simp [z00,z01,z05,z07,z0b,z0c,z0f,z0h,z0i,z0k,z0n,z0q,z0r,z0v,z12,z1j,z22,z23,z29,z2w,z2y,z4m,z54,z57,z67,z6q,z7r,z7s,z7u,z8d,z9d,z9e,z9g,z9n,z9p,z9y,za3,za6,za7,za8,zba,zbt,zbu,zbw,zbx,zby,zbz,zc0,zc3,zc4,zc5,zc6,zc8,zcj,zco,zcq,zcr,zct,zcv,zd2,zd3,zd4,zd5,zdk,zdl,zds,zdt,zdw,zdx,ze2,ze3,zeo,zep,zf6,zf7,zfb,zfg,zfm,zfo,zfp,zft,zg0,zg1,zje, h, h2, inS.eq_1]; all_goals tactic => exact rfl))
    · (sym => (simp [z00,z01,z05,z07,z0b,z0c,z0f,z0h,z0i,z0k,z0n,z0q,z0r,z0v,z12,z1j,z22,z23,z29,z2w,z2y,z4m,z54,z57,z67,z6q,z7r,z7s,z7u,z8d,z9d,z9e,z9g,z9n,z9p,z9y,za3,za6,za7,za8,zba,zbt,zbu,zbw,zbx,zby,zbz,zc0,zc3,zc4,zc5,zc6,zc8,zcj,zco,zcq,zcr,zct,zcv,zd2,zd3,zd4,zd5,zdk,zdl,zds,zdt,zdw,zdx,ze2,ze3,zeo,zep,zf6,zf7,zfb,zfg,zfm,zfo,zfp,zft,zg0,zg1,zje, h, h2, inS.eq_1]; all_goals tactic => exact rfl))
  · (sym => (simp [z00,z01,z05,z07,z0b,z0c,z0f,z0h,z0i,z0k,z0n,z0q,z0r,z0v,z12,z1j,z22,z23,z29,z2w,z2y,z4m,z54,z57,z67,z6q,z7r,z7s,z7u,z8d,z9d,z9e,z9g,z9n,z9p,z9y,za3,za6,za7,za8,zba,zbt,zbu,zbw,zbx,zby,zbz,zc0,zc3,zc4,zc5,zc6,zc8,zcj,zco,zcq,zcr,zct,zcv,zd2,zd3,zd4,zd5,zdk,zdl,zds,zdt,zdw,zdx,ze2,ze3,zeo,zep,zf6,zf7,zfb,zfg,zfm,zfo,zfp,zft,zg0,zg1,zje, h, inS.eq_1]; all_goals tactic => exact rfl))

/-- A kind's steps. -/
structure St where
  a : Int
  s : Int
abbrev St.row (x : St) : List AV := [I x.a, I x.s]
abbrev rS (k : List St) : AV := .fs (k.map St.row)
/-- The first number that is not 0. -/
def firstN (f : Nat → Int) : Nat → Int
  | 0 => 0
  | n + 1 => if firstN f n = 0 then f n else firstN f n
theorem firstN_ix (f : Nat → Int) : ∀ n, ∃ m, m ≤ n ∧ (∀ i, i < m → f i = 0) ∧ ((m = n ∧ firstN f n = 0) ∨ (m < n ∧ f m ≠ 0 ∧ firstN f n = f m))
  | 0 => ⟨0, Nat.le_refl _, fun i hi => by omega, .inl ⟨rfl, rfl⟩⟩
  | n + 1 => by
    obtain ⟨m, h1, h2, h3⟩ := firstN_ix f n
    rcases h3 with ⟨rfl, h4⟩ | ⟨h4, h5, h6⟩
    · by_cases hf : f m = 0
      · refine ⟨m + 1, Nat.le_refl _, fun i hi => ?_, .inl ⟨rfl, by rw [firstN, if_pos h4, hf]⟩⟩
        by_cases hi2 : i = m
        · rw [hi2]; exact hf
        · exact h2 i (by omega)
      · exact ⟨m, by omega, h2, .inr ⟨by omega, hf, by rw [firstN, if_pos h4]⟩⟩
    · exact ⟨m, by omega, h2, .inr ⟨by omega, h5, by rw [firstN, if_neg (by rw [h6]; exact h5), h6]⟩⟩
theorem firstN_0 {f : Nat → Int} : ∀ {n}, firstN f n = 0 → ∀ i, i < n → f i = 0
  | 0, _, i, hi => by omega
  | n + 1, h, i, hi => by
    rw [firstN] at h
    by_cases h0 : firstN f n = 0
    · rw [if_pos h0] at h
      by_cases hin : i = n
      · rw [hin]; exact h
      · exact firstN_0 h0 i (by omega)
    · rw [if_neg h0] at h
      exact absurd h h0

def prA (k : List St) : Nat → Int
  | 0 => -1
  | i + 1 => (k.getD i ⟨0, 0⟩).a
def prS (k : List St) : Nat → Int
  | 0 => 0
  | i + 1 => (k.getD i ⟨0, 0⟩).s
/-- The error of a step. -/
def kErr (k : List St) (i : Nat) : Int := if btw 0 (k.getD i ⟨0, 0⟩).a 100000 && btw 1 (k.getD i ⟨0, 0⟩).s 1000000 then (if (k.getD i ⟨0, 0⟩).a ≤ prA k i ∨ (k.getD i ⟨0, 0⟩).s ≤ prS k i then 7 else 0) else 2
theorem btwF {a b c : Int} : btw a b c = true ↔ a ≤ b ∧ b ≤ c := by simp [btw]
theorem kErr_of {k : List St} {i : Nat} {x : St} (hx : k[i]? = some x) : (btw 0 x.a 100000 = true ∧ btw 1 x.s 1000000 = true ∧ (x.a ≤ prA k i) = False ∧ (x.s ≤ prS k i) = False ∧ kErr k i = 0) ∨
    (btw 0 x.a 100000 = true ∧ btw 1 x.s 1000000 = true ∧ (x.a ≤ prA k i) = False ∧ (x.s ≤ prS k i) = True ∧ kErr k i = 7) ∨ (btw 0 x.a 100000 = true ∧ btw 1 x.s 1000000 = true ∧ (x.a ≤ prA k i) = True ∧ kErr k i = 7) ∨
    (btw 0 x.a 100000 = true ∧ btw 1 x.s 1000000 = false ∧ kErr k i = 2) ∨ (btw 0 x.a 100000 = false ∧ kErr k i = 2) := by
  have e : k.getD i ⟨0, 0⟩ = x := by rw [List.getD_eq_getElem?_getD, hx]; rfl
  unfold kErr
  rw [e]
  cases btw 0 x.a 100000
  · simp
  cases btw 1 x.s 1000000
  · simp
  by_cases h3 : x.a ≤ prA k i
  · simp [h3]
  by_cases h4 : x.s ≤ prS k i
  · simp [h3, h4]
  simp [h3, h4]
theorem pr_up {k : List St} {i : Nat} {x : St} (hx : k[i]? = some x) : prA k (i + 1) = x.a ∧ prS k (i + 1) = x.s := by
  have e : k.getD i ⟨0, 0⟩ = x := by rw [List.getD_eq_getElem?_getD, hx]; rfl
  exact ⟨congrArg St.a e, congrArg St.s e⟩
def chkD (k : List St) : Int := if 8 < k.length then 1 else firstN (kErr k) k.length
theorem w57 (k : List St) : runW progX 57 [rS k] [] = some (I (chkD k), []) := by
  rw [r57 (by simp)]; unfold x57; dsimp only
  unfold chkD
  by_cases h8 : 8 < k.length
  · rw [if_pos h8]
    have h8 : ((8 : Int) < (k.length : Int)) = True := eq_true (by omega)
    (sym => (simp [z00,z01,z02,z03,z04,z05,z06,z07,z09,z0b,z0c,z0h,z0j,z0l,z0n,z0o,z0q,z0s,z0v,z0z,z12,z15,z1f,z1j,z1n,z1o,z1r,z1u,z20,z21,z22,z23,z26,z29,z2b,z2g,z2h,z2j,z2v,z2w,z2x,z33,z34,z3h,z4f,z4l,z4q,z4t,z54,z66,z67,z6b,z6e,z6p,z7r,z7w,z8a,z8d,z9d,z9e,z9g,z9i,z9j,z9k,z9l,z9m,z9n,z9p,z9r,z9v,z9w,z9y,za0,za1,za2,za3,za5,za6,za7,za8,za9,zaa,zab,zae,zaf,zal,zaq,zas,zat,zba,zbc,zbd,zbf,zbg,zbk,zbt,zbu,zbw,zbx,zby,zbz,zc0,zc3,zc4,zc5,zc6,zc8,zca,zcc,zcd,zce,zcf,zcg,zch,zci,zcj,zcn,zco,zcp,zcq,zcr,zct,zcu,zcv,zcw,zcx,zcy,zd3,zd6,zd7,zdd,zdj,zdk,zdl,zdo,zds,zdt,zdu,zdv,zdw,zdx,ze2,ze3,ze9,zea,zeb,zec,zf5,zf6,zf7,zf8,zf9,zfa,zfb,zfc,zfd,zfm,zfo,zfp,zfq,zfr,zfs,zft,zfu,zfv,zfw,zfx,zfy,zfz,zg0,zg1,zhf,zje,zkn,zko,zkp, h8]; all_goals tactic => exact rfl))
  · rw [if_neg h8]
    have g8 : ((8 : Int) < (k.length : Int)) = False := eq_false (by omega)
    have z := zf5 (n := (k.length : Int))
    obtain ⟨m, m1, m2, m3⟩ := firstN_ix (kErr k) k.length
    have p0 : prA k 0 = -1 := rfl
    have q0 : prS k 0 = 0 := rfl
    sym =>
      simp [z00,z01,z02,z03,z04,z05,z06,z07,z09,z0b,z0c,z0h,z0j,z0l,z0n,z0o,z0q,z0s,z0v,z0z,z12,z15,z1f,z1j,z1n,z1o,z1r,z1u,z20,z21,z22,z23,z26,z29,z2b,z2g,z2h,z2j,z2v,z2w,z2x,z33,z34,z3h,z4f,z4l,z4q,z4t,z54,z66,z67,z6b,z6e,z6p,z7r,z7w,z8a,z8d,z9d,z9e,z9g,z9i,z9j,z9k,z9l,z9m,z9n,z9p,z9r,z9v,z9w,z9y,za0,za1,za2,za3,za5,za6,za7,za8,za9,zaa,zab,zae,zaf,zal,zaq,zas,zat,zba,zbc,zbd,zbf,zbg,zbk,zbt,zbu,zbw,zbx,zby,zbz,zc0,zc3,zc4,zc5,zc6,zc8,zca,zcc,zcd,zce,zcf,zcg,zch,zci,zcj,zcn,zco,zcp,zcq,zcr,zct,zcu,zcv,zcw,zcx,zcy,zd3,zd6,zd7,zdd,zdj,zdk,zdl,zdo,zds,zdt,zdu,zdv,zdw,zdx,ze2,ze3,ze9,zea,zeb,zec,zf5,zf6,zf7,zf8,zf9,zfa,zfb,zfc,zfd,zfm,zfo,zfp,zfq,zfr,zfs,zft,zfu,zfv,zfw,zfx,zfy,zfz,zg0,zg1,zhf,zje,zkn,zko,zkp, g8]
      tactic =>
        unfold x57l0
        rw [loop_rule m (fun i => [.pt 0 0, rS k, I k.length, I (i : Nat)]) (fun i => [some (.blk true (.cells true [I (prA k i), I (prS k i)]))])]
        · rcases m3 with ⟨rfl, e⟩ | ⟨m3, m4, e⟩
          · rw [e]; (sym => (simp [z00,z01,z02,z03,z04,z05,z06,z07,z09,z0b,z0c,z0h,z0j,z0l,z0n,z0o,z0q,z0s,z0v,z0z,z12,z15,z1f,z1j,z1n,z1o,z1r,z1u,z20,z21,z22,z23,z26,z29,z2b,z2g,z2h,z2j,z2v,z2w,z2x,z33,z34,z3h,z4f,z4l,z4q,z4t,z54,z66,z67,z6b,z6e,z6p,z7r,z7w,z8a,z8d,z9d,z9e,z9g,z9i,z9j,z9k,z9l,z9m,z9n,z9p,z9r,z9v,z9w,z9y,za0,za1,za2,za3,za5,za6,za7,za8,za9,zaa,zab,zae,zaf,zal,zaq,zas,zat,zba,zbc,zbd,zbf,zbg,zbk,zbt,zbu,zbw,zbx,zby,zbz,zc0,zc3,zc4,zc5,zc6,zc8,zca,zcc,zcd,zce,zcf,zcg,zch,zci,zcj,zcn,zco,zcp,zcq,zcr,zct,zcu,zcv,zcw,zcx,zcy,zd3,zd6,zd7,zdd,zdj,zdk,zdl,zdo,zds,zdt,zdu,zdv,zdw,zdx,ze2,ze3,ze9,zea,zeb,zec,zf5,zf6,zf7,zf8,zf9,zfa,zfb,zfc,zfd,zfm,zfo,zfp,zfq,zfr,zfs,zft,zfu,zfv,zfw,zfx,zfy,zfz,zg0,zg1,zhf,zje,zkn,zko,zkp, z]; all_goals tactic => exact rfl))
          · rw [e]
            obtain ⟨x, hx⟩ := at_ix m3
            have a1 := lt_ix m3
            rcases kErr_of hx with ⟨_, _, _, _, h5⟩ | ⟨h1, h2, h3, h4, h5⟩ | ⟨h1, h2, h3, h5⟩ | ⟨h1, h2, h5⟩ | ⟨h1, h5⟩
            · exact absurd h5 m4
            all_goals rw [h5]
            · (sym => (simp [z00,z01,z02,z03,z04,z05,z06,z07,z09,z0b,z0c,z0h,z0j,z0l,z0n,z0o,z0q,z0s,z0v,z0z,z12,z15,z1f,z1j,z1n,z1o,z1r,z1u,z20,z21,z22,z23,z26,z29,z2b,z2g,z2h,z2j,z2v,z2w,z2x,z33,z34,z3h,z4f,z4l,z4q,z4t,z54,z66,z67,z6b,z6e,z6p,z7r,z7w,z8a,z8d,z9d,z9e,z9g,z9i,z9j,z9k,z9l,z9m,z9n,z9p,z9r,z9v,z9w,z9y,za0,za1,za2,za3,za5,za6,za7,za8,za9,zaa,zab,zae,zaf,zal,zaq,zas,zat,zba,zbc,zbd,zbf,zbg,zbk,zbt,zbu,zbw,zbx,zby,zbz,zc0,zc3,zc4,zc5,zc6,zc8,zca,zcc,zcd,zce,zcf,zcg,zch,zci,zcj,zcn,zco,zcp,zcq,zcr,zct,zcu,zcv,zcw,zcx,zcy,zd3,zd6,zd7,zdd,zdj,zdk,zdl,zdo,zds,zdt,zdu,zdv,zdw,zdx,ze2,ze3,ze9,zea,zeb,zec,zf5,zf6,zf7,zf8,zf9,zfa,zfb,zfc,zfd,zfm,zfo,zfp,zfq,zfr,zfs,zft,zfu,zfv,zfw,zfx,zfy,zfz,zg0,zg1,zhf,zje,zkn,zko,zkp, a1, hx, w58, h1, h2, h3, h4]; all_goals tactic => exact rfl))
            · (sym => (simp [z00,z01,z02,z03,z04,z05,z06,z07,z09,z0b,z0c,z0h,z0j,z0l,z0n,z0o,z0q,z0s,z0v,z0z,z12,z15,z1f,z1j,z1n,z1o,z1r,z1u,z20,z21,z22,z23,z26,z29,z2b,z2g,z2h,z2j,z2v,z2w,z2x,z33,z34,z3h,z4f,z4l,z4q,z4t,z54,z66,z67,z6b,z6e,z6p,z7r,z7w,z8a,z8d,z9d,z9e,z9g,z9i,z9j,z9k,z9l,z9m,z9n,z9p,z9r,z9v,z9w,z9y,za0,za1,za2,za3,za5,za6,za7,za8,za9,zaa,zab,zae,zaf,zal,zaq,zas,zat,zba,zbc,zbd,zbf,zbg,zbk,zbt,zbu,zbw,zbx,zby,zbz,zc0,zc3,zc4,zc5,zc6,zc8,zca,zcc,zcd,zce,zcf,zcg,zch,zci,zcj,zcn,zco,zcp,zcq,zcr,zct,zcu,zcv,zcw,zcx,zcy,zd3,zd6,zd7,zdd,zdj,zdk,zdl,zdo,zds,zdt,zdu,zdv,zdw,zdx,ze2,ze3,ze9,zea,zeb,zec,zf5,zf6,zf7,zf8,zf9,zfa,zfb,zfc,zfd,zfm,zfo,zfp,zfq,zfr,zfs,zft,zfu,zfv,zfw,zfx,zfy,zfz,zg0,zg1,zhf,zje,zkn,zko,zkp, a1, hx, w58, h1, h2, h3]; all_goals tactic => exact rfl))
            · (sym => (simp [z00,z01,z02,z03,z04,z05,z06,z07,z09,z0b,z0c,z0h,z0j,z0l,z0n,z0o,z0q,z0s,z0v,z0z,z12,z15,z1f,z1j,z1n,z1o,z1r,z1u,z20,z21,z22,z23,z26,z29,z2b,z2g,z2h,z2j,z2v,z2w,z2x,z33,z34,z3h,z4f,z4l,z4q,z4t,z54,z66,z67,z6b,z6e,z6p,z7r,z7w,z8a,z8d,z9d,z9e,z9g,z9i,z9j,z9k,z9l,z9m,z9n,z9p,z9r,z9v,z9w,z9y,za0,za1,za2,za3,za5,za6,za7,za8,za9,zaa,zab,zae,zaf,zal,zaq,zas,zat,zba,zbc,zbd,zbf,zbg,zbk,zbt,zbu,zbw,zbx,zby,zbz,zc0,zc3,zc4,zc5,zc6,zc8,zca,zcc,zcd,zce,zcf,zcg,zch,zci,zcj,zcn,zco,zcp,zcq,zcr,zct,zcu,zcv,zcw,zcx,zcy,zd3,zd6,zd7,zdd,zdj,zdk,zdl,zdo,zds,zdt,zdu,zdv,zdw,zdx,ze2,ze3,ze9,zea,zeb,zec,zf5,zf6,zf7,zf8,zf9,zfa,zfb,zfc,zfd,zfm,zfo,zfp,zfq,zfr,zfs,zft,zfu,zfv,zfw,zfx,zfy,zfz,zg0,zg1,zhf,zje,zkn,zko,zkp, a1, hx, w58, h1, h2]; all_goals tactic => exact rfl))
            · (sym => (simp [z00,z01,z02,z03,z04,z05,z06,z07,z09,z0b,z0c,z0h,z0j,z0l,z0n,z0o,z0q,z0s,z0v,z0z,z12,z15,z1f,z1j,z1n,z1o,z1r,z1u,z20,z21,z22,z23,z26,z29,z2b,z2g,z2h,z2j,z2v,z2w,z2x,z33,z34,z3h,z4f,z4l,z4q,z4t,z54,z66,z67,z6b,z6e,z6p,z7r,z7w,z8a,z8d,z9d,z9e,z9g,z9i,z9j,z9k,z9l,z9m,z9n,z9p,z9r,z9v,z9w,z9y,za0,za1,za2,za3,za5,za6,za7,za8,za9,zaa,zab,zae,zaf,zal,zaq,zas,zat,zba,zbc,zbd,zbf,zbg,zbk,zbt,zbu,zbw,zbx,zby,zbz,zc0,zc3,zc4,zc5,zc6,zc8,zca,zcc,zcd,zce,zcf,zcg,zch,zci,zcj,zcn,zco,zcp,zcq,zcr,zct,zcu,zcv,zcw,zcx,zcy,zd3,zd6,zd7,zdd,zdj,zdk,zdl,zdo,zds,zdt,zdu,zdv,zdw,zdx,ze2,ze3,ze9,zea,zeb,zec,zf5,zf6,zf7,zf8,zf9,zfa,zfb,zfc,zfd,zfm,zfo,zfp,zfq,zfr,zfs,zft,zfu,zfv,zfw,zfx,zfy,zfz,zg0,zg1,zhf,zje,zkn,zko,zkp, a1, hx, w58, h1]; all_goals tactic => exact rfl))
        · (sym => (simp [z00,z01,z02,z03,z04,z05,z06,z07,z09,z0b,z0c,z0h,z0j,z0l,z0n,z0o,z0q,z0s,z0v,z0z,z12,z15,z1f,z1j,z1n,z1o,z1r,z1u,z20,z21,z22,z23,z26,z29,z2b,z2g,z2h,z2j,z2v,z2w,z2x,z33,z34,z3h,z4f,z4l,z4q,z4t,z54,z66,z67,z6b,z6e,z6p,z7r,z7w,z8a,z8d,z9d,z9e,z9g,z9i,z9j,z9k,z9l,z9m,z9n,z9p,z9r,z9v,z9w,z9y,za0,za1,za2,za3,za5,za6,za7,za8,za9,zaa,zab,zae,zaf,zal,zaq,zas,zat,zba,zbc,zbd,zbf,zbg,zbk,zbt,zbu,zbw,zbx,zby,zbz,zc0,zc3,zc4,zc5,zc6,zc8,zca,zcc,zcd,zce,zcf,zcg,zch,zci,zcj,zcn,zco,zcp,zcq,zcr,zct,zcu,zcv,zcw,zcx,zcy,zd3,zd6,zd7,zdd,zdj,zdk,zdl,zdo,zds,zdt,zdu,zdv,zdw,zdx,ze2,ze3,ze9,zea,zeb,zec,zf5,zf6,zf7,zf8,zf9,zfa,zfb,zfc,zfd,zfm,zfo,zfp,zfq,zfr,zfs,zft,zfu,zfv,zfw,zfx,zfy,zfz,zg0,zg1,zhf,zje,zkn,zko,zkp, p0, q0]; all_goals tactic => exact rfl))
        · intro i hi
          have hi2 : i < k.length := by omega
          obtain ⟨x, hx⟩ := at_ix hi2
          have a1 := lt_ix hi2
          have a2 := up_ix hi2 (by omega)
          obtain ⟨u1, u2⟩ := pr_up hx
          rcases kErr_of hx with ⟨h1, h2, h3, h4, h5⟩ | ⟨h1, h2, h3, h4, h5⟩ | ⟨h1, h2, h3, h5⟩ | ⟨h1, h2, h5⟩ | ⟨h1, h5⟩
          · (sym => (simp [z00,z01,z02,z03,z04,z05,z06,z07,z09,z0b,z0c,z0h,z0j,z0l,z0n,z0o,z0q,z0s,z0v,z0z,z12,z15,z1f,z1j,z1n,z1o,z1r,z1u,z20,z21,z22,z23,z26,z29,z2b,z2g,z2h,z2j,z2v,z2w,z2x,z33,z34,z3h,z4f,z4l,z4q,z4t,z54,z66,z67,z6b,z6e,z6p,z7r,z7w,z8a,z8d,z9d,z9e,z9g,z9i,z9j,z9k,z9l,z9m,z9n,z9p,z9r,z9v,z9w,z9y,za0,za1,za2,za3,za5,za6,za7,za8,za9,zaa,zab,zae,zaf,zal,zaq,zas,zat,zba,zbc,zbd,zbf,zbg,zbk,zbt,zbu,zbw,zbx,zby,zbz,zc0,zc3,zc4,zc5,zc6,zc8,zca,zcc,zcd,zce,zcf,zcg,zch,zci,zcj,zcn,zco,zcp,zcq,zcr,zct,zcu,zcv,zcw,zcx,zcy,zd3,zd6,zd7,zdd,zdj,zdk,zdl,zdo,zds,zdt,zdu,zdv,zdw,zdx,ze2,ze3,ze9,zea,zeb,zec,zf5,zf6,zf7,zf8,zf9,zfa,zfb,zfc,zfd,zfm,zfo,zfp,zfq,zfr,zfs,zft,zfu,zfv,zfw,zfx,zfy,zfz,zg0,zg1,zhf,zje,zkn,zko,zkp, a1, a2, hx, w58, h1, h2, h3, h4, u1, u2]; all_goals tactic => exact rfl))
          all_goals (rw [m2 i hi] at h5; simp at h5)
        · rcases m3 with ⟨rfl, e⟩ | ⟨m3, m4, e⟩
          · (sym => (simp [z00,z01,z02,z03,z04,z05,z06,z07,z09,z0b,z0c,z0h,z0j,z0l,z0n,z0o,z0q,z0s,z0v,z0z,z12,z15,z1f,z1j,z1n,z1o,z1r,z1u,z20,z21,z22,z23,z26,z29,z2b,z2g,z2h,z2j,z2v,z2w,z2x,z33,z34,z3h,z4f,z4l,z4q,z4t,z54,z66,z67,z6b,z6e,z6p,z7r,z7w,z8a,z8d,z9d,z9e,z9g,z9i,z9j,z9k,z9l,z9m,z9n,z9p,z9r,z9v,z9w,z9y,za0,za1,za2,za3,za5,za6,za7,za8,za9,zaa,zab,zae,zaf,zal,zaq,zas,zat,zba,zbc,zbd,zbf,zbg,zbk,zbt,zbu,zbw,zbx,zby,zbz,zc0,zc3,zc4,zc5,zc6,zc8,zca,zcc,zcd,zce,zcf,zcg,zch,zci,zcj,zcn,zco,zcp,zcq,zcr,zct,zcu,zcv,zcw,zcx,zcy,zd3,zd6,zd7,zdd,zdj,zdk,zdl,zdo,zds,zdt,zdu,zdv,zdw,zdx,ze2,ze3,ze9,zea,zeb,zec,zf5,zf6,zf7,zf8,zf9,zfa,zfb,zfc,zfd,zfm,zfo,zfp,zfq,zfr,zfs,zft,zfu,zfv,zfw,zfx,zfy,zfz,zg0,zg1,zhf,zje,zkn,zko,zkp, z]; all_goals tactic => exact rfl))
          · obtain ⟨x, hx⟩ := at_ix m3
            have a1 := lt_ix m3
            rcases kErr_of hx with ⟨_, _, _, _, h5⟩ | ⟨h1, h2, h3, h4, h5⟩ | ⟨h1, h2, h3, h5⟩ | ⟨h1, h2, h5⟩ | ⟨h1, h5⟩
            · exact absurd h5 m4
            · (sym => (simp [z00,z01,z02,z03,z04,z05,z06,z07,z09,z0b,z0c,z0h,z0j,z0l,z0n,z0o,z0q,z0s,z0v,z0z,z12,z15,z1f,z1j,z1n,z1o,z1r,z1u,z20,z21,z22,z23,z26,z29,z2b,z2g,z2h,z2j,z2v,z2w,z2x,z33,z34,z3h,z4f,z4l,z4q,z4t,z54,z66,z67,z6b,z6e,z6p,z7r,z7w,z8a,z8d,z9d,z9e,z9g,z9i,z9j,z9k,z9l,z9m,z9n,z9p,z9r,z9v,z9w,z9y,za0,za1,za2,za3,za5,za6,za7,za8,za9,zaa,zab,zae,zaf,zal,zaq,zas,zat,zba,zbc,zbd,zbf,zbg,zbk,zbt,zbu,zbw,zbx,zby,zbz,zc0,zc3,zc4,zc5,zc6,zc8,zca,zcc,zcd,zce,zcf,zcg,zch,zci,zcj,zcn,zco,zcp,zcq,zcr,zct,zcu,zcv,zcw,zcx,zcy,zd3,zd6,zd7,zdd,zdj,zdk,zdl,zdo,zds,zdt,zdu,zdv,zdw,zdx,ze2,ze3,ze9,zea,zeb,zec,zf5,zf6,zf7,zf8,zf9,zfa,zfb,zfc,zfd,zfm,zfo,zfp,zfq,zfr,zfs,zft,zfu,zfv,zfw,zfx,zfy,zfz,zg0,zg1,zhf,zje,zkn,zko,zkp, a1, hx, w58, h1, h2, h3, h4]; all_goals tactic => exact rfl))
            · (sym => (simp [z00,z01,z02,z03,z04,z05,z06,z07,z09,z0b,z0c,z0h,z0j,z0l,z0n,z0o,z0q,z0s,z0v,z0z,z12,z15,z1f,z1j,z1n,z1o,z1r,z1u,z20,z21,z22,z23,z26,z29,z2b,z2g,z2h,z2j,z2v,z2w,z2x,z33,z34,z3h,z4f,z4l,z4q,z4t,z54,z66,z67,z6b,z6e,z6p,z7r,z7w,z8a,z8d,z9d,z9e,z9g,z9i,z9j,z9k,z9l,z9m,z9n,z9p,z9r,z9v,z9w,z9y,za0,za1,za2,za3,za5,za6,za7,za8,za9,zaa,zab,zae,zaf,zal,zaq,zas,zat,zba,zbc,zbd,zbf,zbg,zbk,zbt,zbu,zbw,zbx,zby,zbz,zc0,zc3,zc4,zc5,zc6,zc8,zca,zcc,zcd,zce,zcf,zcg,zch,zci,zcj,zcn,zco,zcp,zcq,zcr,zct,zcu,zcv,zcw,zcx,zcy,zd3,zd6,zd7,zdd,zdj,zdk,zdl,zdo,zds,zdt,zdu,zdv,zdw,zdx,ze2,ze3,ze9,zea,zeb,zec,zf5,zf6,zf7,zf8,zf9,zfa,zfb,zfc,zfd,zfm,zfo,zfp,zfq,zfr,zfs,zft,zfu,zfv,zfw,zfx,zfy,zfz,zg0,zg1,zhf,zje,zkn,zko,zkp, a1, hx, w58, h1, h2, h3]; all_goals tactic => exact rfl))
            · (sym => (simp [z00,z01,z02,z03,z04,z05,z06,z07,z09,z0b,z0c,z0h,z0j,z0l,z0n,z0o,z0q,z0s,z0v,z0z,z12,z15,z1f,z1j,z1n,z1o,z1r,z1u,z20,z21,z22,z23,z26,z29,z2b,z2g,z2h,z2j,z2v,z2w,z2x,z33,z34,z3h,z4f,z4l,z4q,z4t,z54,z66,z67,z6b,z6e,z6p,z7r,z7w,z8a,z8d,z9d,z9e,z9g,z9i,z9j,z9k,z9l,z9m,z9n,z9p,z9r,z9v,z9w,z9y,za0,za1,za2,za3,za5,za6,za7,za8,za9,zaa,zab,zae,zaf,zal,zaq,zas,zat,zba,zbc,zbd,zbf,zbg,zbk,zbt,zbu,zbw,zbx,zby,zbz,zc0,zc3,zc4,zc5,zc6,zc8,zca,zcc,zcd,zce,zcf,zcg,zch,zci,zcj,zcn,zco,zcp,zcq,zcr,zct,zcu,zcv,zcw,zcx,zcy,zd3,zd6,zd7,zdd,zdj,zdk,zdl,zdo,zds,zdt,zdu,zdv,zdw,zdx,ze2,ze3,ze9,zea,zeb,zec,zf5,zf6,zf7,zf8,zf9,zfa,zfb,zfc,zfd,zfm,zfo,zfp,zfq,zfr,zfs,zft,zfu,zfv,zfw,zfx,zfy,zfz,zg0,zg1,zhf,zje,zkn,zko,zkp, a1, hx, w58, h1, h2]; all_goals tactic => exact rfl))
            · (sym => (simp [z00,z01,z02,z03,z04,z05,z06,z07,z09,z0b,z0c,z0h,z0j,z0l,z0n,z0o,z0q,z0s,z0v,z0z,z12,z15,z1f,z1j,z1n,z1o,z1r,z1u,z20,z21,z22,z23,z26,z29,z2b,z2g,z2h,z2j,z2v,z2w,z2x,z33,z34,z3h,z4f,z4l,z4q,z4t,z54,z66,z67,z6b,z6e,z6p,z7r,z7w,z8a,z8d,z9d,z9e,z9g,z9i,z9j,z9k,z9l,z9m,z9n,z9p,z9r,z9v,z9w,z9y,za0,za1,za2,za3,za5,za6,za7,za8,za9,zaa,zab,zae,zaf,zal,zaq,zas,zat,zba,zbc,zbd,zbf,zbg,zbk,zbt,zbu,zbw,zbx,zby,zbz,zc0,zc3,zc4,zc5,zc6,zc8,zca,zcc,zcd,zce,zcf,zcg,zch,zci,zcj,zcn,zco,zcp,zcq,zcr,zct,zcu,zcv,zcw,zcx,zcy,zd3,zd6,zd7,zdd,zdj,zdk,zdl,zdo,zds,zdt,zdu,zdv,zdw,zdx,ze2,ze3,ze9,zea,zeb,zec,zf5,zf6,zf7,zf8,zf9,zfa,zfb,zfc,zfd,zfm,zfo,zfp,zfq,zfr,zfs,zft,zfu,zfv,zfw,zfx,zfy,zfz,zg0,zg1,zhf,zje,zkn,zko,zkp, a1, hx, w58, h1]; all_goals tactic => exact rfl))
/-! ### The reference's kinds -/
abbrev kR (l : List (List St)) : AV := .fs (l.map fun k => [rS k])
def kindsE (l : List (List St)) : Int := if 6 < l.length then 1 else firstN (fun t => chkD (l.getD t [])) l.length
/-- A step's round, and how it is left. -/
theorem round61 {l : List (List St)} {t : Nat} {k : List St} (ht : l[t]? = some k) (hl : l.length ≤ 6) {i : Nat} (hi : i < k.length) (hk : k.length ≤ 8) (he : kErr k i = 0) :
    headX 0 [0, 3, 4] (execW progX 61 0 none (match x61l0 with | .loop _ a => a | c => c) (envL [0, 3, 4] [kR l, I (t : Nat), I (i : Nat)]) []) = some ([kR l, I (t : Nat), I (i + 1 : Nat)], []) := by
  obtain ⟨x, hx⟩ := at_ix hi
  have b1 := lt_ix (lt_of ht)
  have a1 := lt_ix hi
  have a2 := up_ix hi (by omega)
  rcases kErr_of hx with ⟨h1, h2, h3, h4, h5⟩ | ⟨h1, h2, h3, h4, h5⟩ | ⟨h1, h2, h3, h5⟩ | ⟨h1, h2, h5⟩ | ⟨h1, h5⟩
  · unfold x61l0
    dsimp only
    cases i with
    | zero =>
      have a1 : ((0 : Int) < (k.length : Int)) = True := a1
      (sym => (simp [z00,z01,z02,z05,z06,z07,z08,z09,z0b,z0c,z0h,z0i,z0j,z0k,z0m,z0n,z0o,z0q,z0v,z0z,z12,z15,z1f,z1j,z1k,z1l,z1m,z1n,z1o,z1r,z1u,z20,z21,z22,z23,z26,z29,z2a,z2b,z2g,z2h,z2j,z2k,z2v,z2w,z2x,z33,z34,z36,z3g,z3h,z3j,z4l,z4q,z54,z66,z67,z6b,z8d,z9d,z9e,z9g,z9i,z9j,z9k,z9l,z9m,z9p,z9y,za2,za3,za5,za6,za7,za8,zaa,zab,zaq,zas,zat,zba,zbc,zbd,zbf,zbg,zbk,zca,zcc,zcd,zce,zcf,zcg,zcn,zco,zcq,zcr,zct,zcu,zcv,zcw,zcx,zcy,zd3,zd6,zdd,zdk,zdl,zdo,zds,zdt,zdu,zdv,zdw,zdx,ze9,zf6,zf7,zf8,zf9,zfa,zfb,zfc,zfd,zfm,zfo,zfq,zfs,zft,zfw,zfz,zg0,zg1,zkn,zko,zkp, b1, a1, ht, hx, w62, h1, h2]; all_goals tactic => exact rfl))
    | succ j =>
      obtain ⟨y, hy⟩ := at_ix (l := k) (i := j) (by omega)
      obtain ⟨u1, u2⟩ := pr_up hy
      rw [u1] at h3
      rw [u2] at h4
      have a3 : ((0 : Int) < ((j + 1 : Nat) : Int)) = True := eq_true (by omega)
      have a4 : IntKind.i64.wrap (((j + 1 : Nat) : Int) - 1) = (j : Int) := by rw [wrap_ok (by omega) (by omega)]; omega
      have a5 : ((j : Int) < (k.length : Int)) = True := eq_true (by omega)
      generalize j + 1 = i at *
      (sym => (simp [z00,z01,z02,z05,z06,z07,z08,z09,z0b,z0c,z0h,z0i,z0j,z0k,z0m,z0n,z0o,z0q,z0v,z0z,z12,z15,z1f,z1j,z1k,z1l,z1m,z1n,z1o,z1r,z1u,z20,z21,z22,z23,z26,z29,z2a,z2b,z2g,z2h,z2j,z2k,z2v,z2w,z2x,z33,z34,z36,z3g,z3h,z3j,z4l,z4q,z54,z66,z67,z6b,z8d,z9d,z9e,z9g,z9i,z9j,z9k,z9l,z9m,z9p,z9y,za2,za3,za5,za6,za7,za8,zaa,zab,zaq,zas,zat,zba,zbc,zbd,zbf,zbg,zbk,zca,zcc,zcd,zce,zcf,zcg,zcn,zco,zcq,zcr,zct,zcu,zcv,zcw,zcx,zcy,zd3,zd6,zdd,zdk,zdl,zdo,zds,zdt,zdu,zdv,zdw,zdx,ze9,zf6,zf7,zf8,zf9,zfa,zfb,zfc,zfd,zfm,zfo,zfq,zfs,zft,zfw,zfz,zg0,zg1,zkn,zko,zkp, b1, a1, a2, a3, a4, a5, ht, hx, hy, w62, h1, h2, h3, h4]; all_goals tactic => exact rfl))
  all_goals (rw [h5] at he; simp at he)
theorem ret_of {res : List (Nat × Option (Bool × Nat))} {own : Bool} {k : Nat} {r : Option (DX × Env × XH)} {v : AV × XH} (h1 : leaves r = true) (h2 : retX res own k r = some v) : ∃ e h, r = some (.ret, e, h) ∧ retX res own k (some (.ret, e, h)) = some v := by
  match r with
  | none => simp [leaves] at h1
  | some (.normal, e, h) => simp [leaves] at h1
  | some (.exit _, e, h) => simp [retX] at h2
  | some (.ret, e, h) => exact ⟨e, h, rfl, h2⟩
theorem left61 {l : List (List St)} {t : Nat} {k : List St} (ht : l[t]? = some k) (hl : l.length ≤ 6) {i : Nat} (hi : i < k.length) (hk : k.length ≤ 8) (he : kErr k i ≠ 0) :
    ∃ e h, execW progX 61 0 none (match x61l0 with | .loop _ a => a | c => c) (envL [0, 3, 4] [kR l, I (t : Nat), I (i : Nat)]) [] = some (.ret, e, h) ∧ retX [(2, none)] false 0 (some (.ret, e, h)) = some (I (kErr k i), []) := by
  obtain ⟨x, hx⟩ := at_ix hi
  have b1 := lt_ix (lt_of ht)
  have a1 := lt_ix hi
  have a2 := up_ix hi (by omega)
  refine ret_of ?_ ?_
  all_goals unfold x61l0
  all_goals dsimp only
  all_goals have kE := kErr_of hx
  all_goals have h1 := pad
  all_goals have h2 := pad
  all_goals have h3 := pad
  all_goals have h4 := pad
  all_goals cases i with
    | zero =>
      have a1 : ((0 : Int) < (k.length : Int)) = True := a1
      simp only [prA, prS] at kE
      rcases kE with ⟨h1, h2, h3, h4, h5⟩ | ⟨h1, h2, h3, h4, h5⟩ | ⟨h1, h2, h3, h5⟩ | ⟨h1, h2, h5⟩ | ⟨h1, h5⟩
      · exact absurd h5 he
      · have := btwF.1 h2
        have := of_eq_true h4
        omega
      · have := btwF.1 h1
        have := of_eq_true h3
        omega
      all_goals try rw [h5]
      all_goals (sym => (simp [z00,z01,z02,z05,z06,z07,z08,z09,z0b,z0c,z0h,z0i,z0j,z0l,z0n,z0o,z0q,z0v,z0z,z12,z15,z1f,z1j,z1k,z1l,z1m,z1n,z1o,z1r,z1u,z20,z21,z22,z23,z26,z29,z2a,z2b,z2g,z2h,z2k,z2v,z2w,z2x,z33,z34,z3g,z3h,z4l,z54,z66,z67,z6p,z7r,z8d,z9d,z9e,z9g,z9i,z9j,z9k,z9l,z9m,z9p,z9y,za2,za3,za5,za6,za7,za8,zaa,zab,zaq,zas,zat,zba,zbc,zbd,zbf,zbg,zbk,zbt,zbu,zbw,zbx,zby,zbz,zc0,zc3,zc4,zc5,zc6,zca,zce,zcf,zcg,zci,zcn,zco,zcq,zcr,zct,zcu,zcv,zcw,zcx,zcy,zd3,zd6,zd7,zdd,zdk,zdl,zdo,zds,zdt,zdu,zdv,zdw,zdx,ze9,zf6,zf7,zf8,zf9,zfa,zfb,zfc,zfd,zfm,zfo,zfp,zfq,zfs,zft,zfv,zfx,zg0,zg1,zje,zkn,zko,zkp, b1, a1, ht, hx, w62, h1, h2]; all_goals tactic => exact rfl))
    | succ j =>
      obtain ⟨y, hy⟩ := at_ix (l := k) (i := j) (by omega)
      obtain ⟨u1, u2⟩ := pr_up hy
      rw [u1, u2] at kE
      have a3 : ((0 : Int) < ((j + 1 : Nat) : Int)) = True := eq_true (by omega)
      have a4 : IntKind.i64.wrap (((j + 1 : Nat) : Int) - 1) = (j : Int) := by rw [wrap_ok (by omega) (by omega)]; omega
      have a5 : ((j : Int) < (k.length : Int)) = True := eq_true (by omega)
      generalize j + 1 = i at *
      rcases kE with ⟨h1, h2, h3, h4, h5⟩ | ⟨h1, h2, h3, h4, h5⟩ | ⟨h1, h2, h3, h5⟩ | ⟨h1, h2, h5⟩ | ⟨h1, h5⟩
      · exact absurd h5 he
      all_goals try rw [h5]
      all_goals (sym => (simp [z00,z01,z02,z05,z06,z07,z08,z09,z0b,z0c,z0h,z0i,z0j,z0l,z0n,z0o,z0q,z0v,z0z,z12,z15,z1f,z1j,z1k,z1l,z1m,z1n,z1o,z1r,z1u,z20,z21,z22,z23,z26,z29,z2a,z2b,z2g,z2h,z2k,z2v,z2w,z2x,z33,z34,z3g,z3h,z4l,z54,z66,z67,z6p,z7r,z8d,z9d,z9e,z9g,z9i,z9j,z9k,z9l,z9m,z9p,z9y,za2,za3,za5,za6,za7,za8,zaa,zab,zaq,zas,zat,zba,zbc,zbd,zbf,zbg,zbk,zbt,zbu,zbw,zbx,zby,zbz,zc0,zc3,zc4,zc5,zc6,zca,zce,zcf,zcg,zci,zcn,zco,zcq,zcr,zct,zcu,zcv,zcw,zcx,zcy,zd3,zd6,zd7,zdd,zdk,zdl,zdo,zds,zdt,zdu,zdv,zdw,zdx,ze9,zf6,zf7,zf8,zf9,zfa,zfb,zfc,zfd,zfm,zfo,zfp,zfq,zfs,zft,zfv,zfx,zg0,zg1,zje,zkn,zko,zkp, b1, a1, a2, a3, a4, a5, ht, hx, hy, w62, h1, h2, h3, h4]; all_goals tactic => exact rfl))
theorem w61 (l : List (List St)) : runW progX 61 [kR l] [] = some (I (kindsE l), []) := by
  rw [r61 (by simp)]; unfold x61; dsimp only
  unfold kindsE
  by_cases h6 : 6 < l.length
  · rw [if_pos h6]
    have h6 : ((6 : Int) < (l.length : Int)) = True := eq_true (by omega)
    (sym => (simp [z00,z01,z05,z07,z0b,z0c,z0n,z0v,z15,z1f,z1j,z2b,z2g,z2h,z2j,z2v,z2x,z33,z34,z3h,z4l,z4q,z66,z6b,z6p,z7r,z7w,z9n,z9p,z9y,za3,za5,za7,za8,zba,zbt,zbu,zbw,zbx,zby,zbz,zc0,zc3,zc4,zc5,zc6,zc8,zca,zcc,zcd,zce,zcf,zcg,zch,zci,zcj,zcn,zco,zcr,zct,zcu,zcv,zcw,zcx,zcy,zdd,zdk,zdl,zdo,zds,zdt,zdu,zdv,ze2,ze3,zf5,zf8,zf9,zfb,zfm,zfo,zfp,zfq,zfr,zfs,zft,zfu,zfv,zfw,zfx,zfy,zfz,zg0,zg1,zje, h6]; all_goals tactic => exact rfl))
  · rw [if_neg h6]
    have g6 : ((6 : Int) < (l.length : Int)) = False := eq_false (by omega)
    have z := zf5 (n := (l.length : Int))
    obtain ⟨m, m1, m2, m3⟩ := firstN_ix (fun t => chkD (l.getD t [])) l.length
    have hd : ∀ {t k}, l[t]? = some k → l.getD t [] = k := fun h => by rw [List.getD_eq_getElem?_getD, h]; rfl
    have lf : m < l.length → ∃ e h, execW progX 61 0 none (match x61l1 with | .loop _ a => a | c => c) (envL [0, 3] [kR l, I (m : Nat)]) [] = some (.ret, e, h) ∧ retX [(2, none)] false 0 (some (.ret, e, h)) = some (I (chkD (l.getD m [])), []) := by
      intro hm
      rcases m3 with ⟨rfl, _⟩ | ⟨_, m4, _⟩
      · omega
      obtain ⟨k, hk⟩ := at_ix hm
      have b1 := lt_ix hm
      rw [hd hk] at m4 ⊢
      unfold chkD at m4 ⊢
      refine ret_of ?_ ?_
      all_goals unfold x61l1
      all_goals dsimp only
      all_goals by_cases h8 : 8 < k.length
      all_goals try rw [if_pos h8]
      all_goals try rw [if_neg h8] at m4
      all_goals try rw [if_neg h8]
      · have h8 : ((8 : Int) < (k.length : Int)) = True := eq_true (by omega)
        (sym => (simp [z00,z01,z05,z07,z0b,z0c,z0n,z0v,z15,z1f,z1j,z2b,z2g,z2h,z2j,z2v,z2x,z33,z34,z3h,z4l,z4q,z66,z6b,z6p,z7r,z7w,z9n,z9p,z9y,za3,za5,za7,za8,zba,zbt,zbu,zbw,zbx,zby,zbz,zc0,zc3,zc4,zc5,zc6,zc8,zca,zcc,zcd,zce,zcf,zcg,zch,zci,zcj,zcn,zco,zcr,zct,zcu,zcv,zcw,zcx,zcy,zdd,zdk,zdl,zdo,zds,zdt,zdu,zdv,ze2,ze3,zf5,zf8,zf9,zfb,zfm,zfo,zfp,zfq,zfr,zfs,zft,zfu,zfv,zfw,zfx,zfy,zfz,zg0,zg1,zje, b1, hk, h8]; all_goals tactic => exact rfl))
      · have g8 : ((8 : Int) < (k.length : Int)) = False := eq_false (by omega)
        obtain ⟨i, i1, i2, i3⟩ := firstN_ix (kErr k) k.length
        rcases i3 with ⟨_, i3⟩ | ⟨i3, i4, i5⟩
        · exact absurd i3 m4
        obtain ⟨eo, ho, q1, q2⟩ := left61 hk (by omega) i3 (by omega) i4
        sym =>
          simp [z00,z01,z05,z07,z0b,z0c,z0n,z0v,z15,z1f,z1j,z2b,z2g,z2h,z2j,z2v,z2x,z33,z34,z3h,z4l,z4q,z66,z6b,z6p,z7r,z7w,z9n,z9p,z9y,za3,za5,za7,za8,zba,zbt,zbu,zbw,zbx,zby,zbz,zc0,zc3,zc4,zc5,zc6,zc8,zca,zcc,zcd,zce,zcf,zcg,zch,zci,zcj,zcn,zco,zcr,zct,zcu,zcv,zcw,zcx,zcy,zdd,zdk,zdl,zdo,zds,zdt,zdu,zdv,ze2,ze3,zf5,zf8,zf9,zfb,zfm,zfo,zfp,zfq,zfr,zfs,zft,zfu,zfv,zfw,zfx,zfy,zfz,zg0,zg1,zje, b1, hk, g8]
          tactic =>
            unfold x61l0 at q1 ⊢
            rw [loop_rule i (fun i => [kR l, I (m : Nat), I (i : Nat)]) (fun _ => [])]
            · dsimp only at q1; rw [q1]; rfl
            · (sym => (simp [z00,z01,z05,z07,z0b,z0c,z0n,z0v,z15,z1f,z1j,z2b,z2g,z2h,z2j,z2v,z2x,z33,z34,z3h,z4l,z4q,z66,z6b,z6p,z7r,z7w,z9n,z9p,z9y,za3,za5,za7,za8,zba,zbt,zbu,zbw,zbx,zby,zbz,zc0,zc3,zc4,zc5,zc6,zc8,zca,zcc,zcd,zce,zcf,zcg,zch,zci,zcj,zcn,zco,zcr,zct,zcu,zcv,zcw,zcx,zcy,zdd,zdk,zdl,zdo,zds,zdt,zdu,zdv,ze2,ze3,zf5,zf8,zf9,zfb,zfm,zfo,zfp,zfq,zfr,zfs,zft,zfu,zfv,zfw,zfx,zfy,zfz,zg0,zg1,zje]; all_goals tactic => exact rfl))
            · intro j hj
              exact round61 hk (by omega) (by omega) (by omega) (i2 j hj)
            · dsimp only at q1; rw [q1]; rfl
      · have h8 : ((8 : Int) < (k.length : Int)) = True := eq_true (by omega)
        (sym => (simp [z00,z01,z05,z07,z0b,z0c,z0n,z0v,z15,z1f,z1j,z2b,z2g,z2h,z2j,z2v,z2x,z33,z34,z3h,z4l,z4q,z66,z6b,z6p,z7r,z7w,z9n,z9p,z9y,za3,za5,za7,za8,zba,zbt,zbu,zbw,zbx,zby,zbz,zc0,zc3,zc4,zc5,zc6,zc8,zca,zcc,zcd,zce,zcf,zcg,zch,zci,zcj,zcn,zco,zcr,zct,zcu,zcv,zcw,zcx,zcy,zdd,zdk,zdl,zdo,zds,zdt,zdu,zdv,ze2,ze3,zf5,zf8,zf9,zfb,zfm,zfo,zfp,zfq,zfr,zfs,zft,zfu,zfv,zfw,zfx,zfy,zfz,zg0,zg1,zje, b1, hk, h8]; all_goals tactic => exact rfl))
      · have g8 : ((8 : Int) < (k.length : Int)) = False := eq_false (by omega)
        obtain ⟨i, i1, i2, i3⟩ := firstN_ix (kErr k) k.length
        rcases i3 with ⟨_, i3⟩ | ⟨i3, i4, i5⟩
        · exact absurd i3 m4
        rw [i5]
        obtain ⟨eo, ho, q1, q2⟩ := left61 hk (by omega) i3 (by omega) i4
        sym =>
          simp [z00,z01,z05,z07,z0b,z0c,z0n,z0v,z15,z1f,z1j,z2b,z2g,z2h,z2j,z2v,z2x,z33,z34,z3h,z4l,z4q,z66,z6b,z6p,z7r,z7w,z9n,z9p,z9y,za3,za5,za7,za8,zba,zbt,zbu,zbw,zbx,zby,zbz,zc0,zc3,zc4,zc5,zc6,zc8,zca,zcc,zcd,zce,zcf,zcg,zch,zci,zcj,zcn,zco,zcr,zct,zcu,zcv,zcw,zcx,zcy,zdd,zdk,zdl,zdo,zds,zdt,zdu,zdv,ze2,ze3,zf5,zf8,zf9,zfb,zfm,zfo,zfp,zfq,zfr,zfs,zft,zfu,zfv,zfw,zfx,zfy,zfz,zg0,zg1,zje, b1, hk, g8]
          tactic =>
            unfold x61l0 at q1 ⊢
            rw [loop_rule i (fun i => [kR l, I (m : Nat), I (i : Nat)]) (fun _ => [])]
            · dsimp only at q1; rw [q1]; exact q2
            · (sym => (simp [z00,z01,z05,z07,z0b,z0c,z0n,z0v,z15,z1f,z1j,z2b,z2g,z2h,z2j,z2v,z2x,z33,z34,z3h,z4l,z4q,z66,z6b,z6p,z7r,z7w,z9n,z9p,z9y,za3,za5,za7,za8,zba,zbt,zbu,zbw,zbx,zby,zbz,zc0,zc3,zc4,zc5,zc6,zc8,zca,zcc,zcd,zce,zcf,zcg,zch,zci,zcj,zcn,zco,zcr,zct,zcu,zcv,zcw,zcx,zcy,zdd,zdk,zdl,zdo,zds,zdt,zdu,zdv,ze2,ze3,zf5,zf8,zf9,zfb,zfm,zfo,zfp,zfq,zfr,zfs,zft,zfu,zfv,zfw,zfx,zfy,zfz,zg0,zg1,zje]; all_goals tactic => exact rfl))
            · intro j hj
              exact round61 hk (by omega) (by omega) (by omega) (i2 j hj)
            · dsimp only at q1; rw [q1]; rfl
    have rd : ∀ t, t < m → headX 0 [0, 3] (execW progX 61 0 none (match x61l1 with | .loop _ a => a | c => c) (envL [0, 3] [kR l, I (t : Nat)]) []) = some ([kR l, I (t + 1 : Nat)], []) := by
      intro t ht
      obtain ⟨k, hk⟩ := at_ix (l := l) (i := t) (by omega)
      have b1 := lt_ix (lt_of hk)
      have b2 := up_ix (lt_of hk) (by omega)
      have h0 := m2 t ht
      rw [hd hk] at h0
      unfold chkD at h0
      by_cases h8 : 8 < k.length
      · rw [if_pos h8] at h0; simp at h0
      rw [if_neg h8] at h0
      have g8 : ((8 : Int) < (k.length : Int)) = False := eq_false (by omega)
      have z := zf5 (n := (k.length : Int))
      unfold x61l1
      dsimp only
      sym =>
        simp [z00,z01,z05,z07,z0b,z0c,z0n,z0v,z15,z1f,z1j,z2b,z2g,z2h,z2j,z2v,z2x,z33,z34,z3h,z4l,z4q,z66,z6b,z6p,z7r,z7w,z9n,z9p,z9y,za3,za5,za7,za8,zba,zbt,zbu,zbw,zbx,zby,zbz,zc0,zc3,zc4,zc5,zc6,zc8,zca,zcc,zcd,zce,zcf,zcg,zch,zci,zcj,zcn,zco,zcr,zct,zcu,zcv,zcw,zcx,zcy,zdd,zdk,zdl,zdo,zds,zdt,zdu,zdv,ze2,ze3,zf5,zf8,zf9,zfb,zfm,zfo,zfp,zfq,zfr,zfs,zft,zfu,zfv,zfw,zfx,zfy,zfz,zg0,zg1,zje, b1, hk, g8]
        tactic =>
          unfold x61l0
          rw [loop_rule k.length (fun i => [kR l, I (t : Nat), I (i : Nat)]) (fun _ => [])]
          · (sym => (simp [z00,z01,z05,z07,z0b,z0c,z0n,z0v,z15,z1f,z1j,z2b,z2g,z2h,z2j,z2v,z2x,z33,z34,z3h,z4l,z4q,z66,z6b,z6p,z7r,z7w,z9n,z9p,z9y,za3,za5,za7,za8,zba,zbt,zbu,zbw,zbx,zby,zbz,zc0,zc3,zc4,zc5,zc6,zc8,zca,zcc,zcd,zce,zcf,zcg,zch,zci,zcj,zcn,zco,zcr,zct,zcu,zcv,zcw,zcx,zcy,zdd,zdk,zdl,zdo,zds,zdt,zdu,zdv,ze2,ze3,zf5,zf8,zf9,zfb,zfm,zfo,zfp,zfq,zfr,zfs,zft,zfu,zfv,zfw,zfx,zfy,zfz,zg0,zg1,zje, b1, b2, hk, z]; all_goals tactic => exact rfl))
          · (sym => (simp [z00,z01,z05,z07,z0b,z0c,z0n,z0v,z15,z1f,z1j,z2b,z2g,z2h,z2j,z2v,z2x,z33,z34,z3h,z4l,z4q,z66,z6b,z6p,z7r,z7w,z9n,z9p,z9y,za3,za5,za7,za8,zba,zbt,zbu,zbw,zbx,zby,zbz,zc0,zc3,zc4,zc5,zc6,zc8,zca,zcc,zcd,zce,zcf,zcg,zch,zci,zcj,zcn,zco,zcr,zct,zcu,zcv,zcw,zcx,zcy,zdd,zdk,zdl,zdo,zds,zdt,zdu,zdv,ze2,ze3,zf5,zf8,zf9,zfb,zfm,zfo,zfp,zfq,zfr,zfs,zft,zfu,zfv,zfw,zfx,zfy,zfz,zg0,zg1,zje]; all_goals tactic => exact rfl))
          · intro j hj
            exact round61 hk (by omega) hj (by omega) (firstN_0 h0 j hj)
          · (sym => (simp [z00,z01,z05,z07,z0b,z0c,z0n,z0v,z15,z1f,z1j,z2b,z2g,z2h,z2j,z2v,z2x,z33,z34,z3h,z4l,z4q,z66,z6b,z6p,z7r,z7w,z9n,z9p,z9y,za3,za5,za7,za8,zba,zbt,zbu,zbw,zbx,zby,zbz,zc0,zc3,zc4,zc5,zc6,zc8,zca,zcc,zcd,zce,zcf,zcg,zch,zci,zcj,zcn,zco,zcr,zct,zcu,zcv,zcw,zcx,zcy,zdd,zdk,zdl,zdo,zds,zdt,zdu,zdv,ze2,ze3,zf5,zf8,zf9,zfb,zfm,zfo,zfp,zfq,zfr,zfs,zft,zfu,zfv,zfw,zfx,zfy,zfz,zg0,zg1,zje, b1, hk, z]; all_goals tactic => exact rfl))
    sym =>
      simp [z00,z01,z05,z07,z0b,z0c,z0n,z0v,z15,z1f,z1j,z2b,z2g,z2h,z2j,z2v,z2x,z33,z34,z3h,z4l,z4q,z66,z6b,z6p,z7r,z7w,z9n,z9p,z9y,za3,za5,za7,za8,zba,zbt,zbu,zbw,zbx,zby,zbz,zc0,zc3,zc4,zc5,zc6,zc8,zca,zcc,zcd,zce,zcf,zcg,zch,zci,zcj,zcn,zco,zcr,zct,zcu,zcv,zcw,zcx,zcy,zdd,zdk,zdl,zdo,zds,zdt,zdu,zdv,ze2,ze3,zf5,zf8,zf9,zfb,zfm,zfo,zfp,zfq,zfr,zfs,zft,zfu,zfv,zfw,zfx,zfy,zfz,zg0,zg1,zje, g6]
      tactic =>
        unfold x61l1 at lf ⊢
        rw [loop_rule m (fun i => [kR l, I (i : Nat)]) (fun _ => [])]
        · rcases m3 with ⟨rfl, e⟩ | ⟨m3, m4, e⟩
          · rw [e]; (sym => (simp [z00,z01,z05,z07,z0b,z0c,z0n,z0v,z15,z1f,z1j,z2b,z2g,z2h,z2j,z2v,z2x,z33,z34,z3h,z4l,z4q,z66,z6b,z6p,z7r,z7w,z9n,z9p,z9y,za3,za5,za7,za8,zba,zbt,zbu,zbw,zbx,zby,zbz,zc0,zc3,zc4,zc5,zc6,zc8,zca,zcc,zcd,zce,zcf,zcg,zch,zci,zcj,zcn,zco,zcr,zct,zcu,zcv,zcw,zcx,zcy,zdd,zdk,zdl,zdo,zds,zdt,zdu,zdv,ze2,ze3,zf5,zf8,zf9,zfb,zfm,zfo,zfp,zfq,zfr,zfs,zft,zfu,zfv,zfw,zfx,zfy,zfz,zg0,zg1,zje, z]; all_goals tactic => exact rfl))
          · rw [e]
            obtain ⟨eo, ho, q1, q2⟩ := lf m3
            dsimp only at q1
            rw [q1]
            exact q2
        · (sym => (simp [z00,z01,z05,z07,z0b,z0c,z0n,z0v,z15,z1f,z1j,z2b,z2g,z2h,z2j,z2v,z2x,z33,z34,z3h,z4l,z4q,z66,z6b,z6p,z7r,z7w,z9n,z9p,z9y,za3,za5,za7,za8,zba,zbt,zbu,zbw,zbx,zby,zbz,zc0,zc3,zc4,zc5,zc6,zc8,zca,zcc,zcd,zce,zcf,zcg,zch,zci,zcj,zcn,zco,zcr,zct,zcu,zcv,zcw,zcx,zcy,zdd,zdk,zdl,zdo,zds,zdt,zdu,zdv,ze2,ze3,zf5,zf8,zf9,zfb,zfm,zfo,zfp,zfq,zfr,zfs,zft,zfu,zfv,zfw,zfx,zfy,zfz,zg0,zg1,zje]; all_goals tactic => exact rfl))
        · exact rd
        · rcases m3 with ⟨rfl, e⟩ | ⟨m3, m4, e⟩
          · (sym => (simp [z00,z01,z05,z07,z0b,z0c,z0n,z0v,z15,z1f,z1j,z2b,z2g,z2h,z2j,z2v,z2x,z33,z34,z3h,z4l,z4q,z66,z6b,z6p,z7r,z7w,z9n,z9p,z9y,za3,za5,za7,za8,zba,zbt,zbu,zbw,zbx,zby,zbz,zc0,zc3,zc4,zc5,zc6,zc8,zca,zcc,zcd,zce,zcf,zcg,zch,zci,zcj,zcn,zco,zcr,zct,zcu,zcv,zcw,zcx,zcy,zdd,zdk,zdl,zdo,zds,zdt,zdu,zdv,ze2,ze3,zf5,zf8,zf9,zfb,zfm,zfo,zfp,zfq,zfr,zfs,zft,zfu,zfv,zfw,zfx,zfy,zfz,zg0,zg1,zje, z]; all_goals tactic => exact rfl))
          · obtain ⟨eo, ho, q1, q2⟩ := lf m3
            dsimp only at q1
            rw [q1]
            rfl
end Go.Proofs.YtpbeclkpohehgaaDoor
namespace Go.Proofs.YtpbeclkpohehgaaDoor
open Go Go.DL
set_option maxRecDepth 100000
set_option maxHeartbeats 1000000

/-! ### Bits of naturals -/
def big (k : IntKind) : Prop := k = .u64 ∨ k = .i64
theorem big_u : big .u64 := .inl rfl
theorem big_i : big .i64 := .inr rfl
theorem big_bits {k : IntKind} (h : big k) : k.bits = 64 := by rcases h with rfl | rfl <;> rfl
theorem big_wrap {k : IntKind} (h : big k) {a : Nat} (ha : a < 2 ^ 63) : k.wrap (a : Int) = (a : Int) := by
  rcases h with rfl | rfl
  · simp [IntKind.wrap, IntKind.bits, IntKind.signed]; omega
  · simp [IntKind.wrap, IntKind.bits, IntKind.signed]; omega
theorem ofInt_nat {w : Nat} (a : Nat) : BitVec.ofInt w (a : Int) = BitVec.ofNat w a := by
  apply BitVec.eq_of_toNat_eq
  simp
theorem bits_and {k : IntKind} (h : big k) {a b : Nat} (ha : a < 2 ^ 63) (hb : b < 2 ^ 63) : bitsA .and k (a : Int) (b : Int) = ((a &&& b : Nat) : Int) := by
  unfold bitsA
  dsimp only
  rw [ofInt_nat, ofInt_nat, big_bits h, BitVec.toNat_and, BitVec.toNat_ofNat, BitVec.toNat_ofNat, Nat.mod_eq_of_lt (by omega), Nat.mod_eq_of_lt (by omega)]
  exact big_wrap h (Nat.lt_of_le_of_lt Nat.and_le_left ha)
theorem bits_or {k : IntKind} (h : big k) {a b : Nat} (ha : a < 2 ^ 63) (hb : b < 2 ^ 63) : bitsA .or k (a : Int) (b : Int) = ((a ||| b : Nat) : Int) := by
  unfold bitsA
  dsimp only
  rw [ofInt_nat, ofInt_nat, big_bits h, BitVec.toNat_or, BitVec.toNat_ofNat, BitVec.toNat_ofNat, Nat.mod_eq_of_lt (by omega), Nat.mod_eq_of_lt (by omega)]
  exact big_wrap h (Nat.or_lt_two_pow ha hb)
/-- What the one has and the other has not. -/
def dif (a b : Nat) : Nat := a &&& (2 ^ 64 - (b + 1))
theorem dif_le (a b : Nat) : dif a b ≤ a := Nat.and_le_left
theorem bits_dif {k : IntKind} (h : big k) {a b : Nat} (ha : a < 2 ^ 63) (hb : b < 2 ^ 63) : bitsA .andNot k (a : Int) (b : Int) = ((dif a b : Nat) : Int) := by
  unfold bitsA
  dsimp only
  rw [ofInt_nat, ofInt_nat, big_bits h, BitVec.toNat_and, BitVec.toNat_not, BitVec.toNat_ofNat, BitVec.toNat_ofNat, Nat.mod_eq_of_lt (by omega), Nat.mod_eq_of_lt (by omega), show 2 ^ 64 - 1 - b = 2 ^ 64 - (b + 1) by omega]
  exact big_wrap h (Nat.lt_of_le_of_lt (dif_le a b) ha)
theorem bit_lt {a n : Nat} (h : a < 2 ^ n) {i : Nat} (hi : n ≤ i) : a.testBit i = false := Nat.testBit_lt_two_pow (Nat.lt_of_lt_of_le h (Nat.pow_le_pow_right (by omega) hi))
theorem shl_one {k : IntKind} (h : big k) {i : Nat} (hi : i < 63) : k.wrap (1 * 2 ^ min i k.bits) = ((2 ^ i : Nat) : Int) := by
  rw [big_bits h, Nat.min_eq_left (by omega), Int.one_mul, show (2 : Int) ^ i = ((2 ^ i : Nat) : Int) by norm_cast]
  exact big_wrap h (Nat.pow_lt_pow_right (by omega) hi)
theorem shl_1 {k : IntKind} (h : big k) {i : Nat} (hi : i < 63) : k.wrap (2 ^ min i k.bits) = ((2 ^ i : Nat) : Int) := by
  rw [← shl_one h hi, Int.one_mul]
theorem shr_nat {k : IntKind} (h : big k) {a i : Nat} (hi : i < 64) : (a : Int).fdiv (2 ^ min i k.bits) = ((a >>> i : Nat) : Int) := by
  rw [big_bits h, Nat.min_eq_left (by omega), show (2 : Int) ^ i = ((2 ^ i : Nat) : Int) by norm_cast, Int.fdiv_eq_ediv_of_nonneg _ (Int.natCast_nonneg _), Nat.shiftRight_eq_div_pow]
  exact (Int.natCast_ediv a (2 ^ i)).symm
theorem bit_at {k : IntKind} (h : big k) {a i : Nat} (ha : a < 2 ^ 63) (hi : i < 64) : bitsA .and k ((a : Int).fdiv (2 ^ min i k.bits)) 1 = if a.testBit i then 1 else 0 := by
  have : a >>> i ≤ a := Nat.shiftRight_le a i
  rw [shr_nat h hi, show (1 : Int) = ((1 : Nat) : Int) from rfl, bits_and h (by omega) (by omega)]
  unfold Nat.testBit
  rw [Nat.and_comm, Nat.one_and_eq_mod_two]
  by_cases hb : (a >>> i) % 2 = 0
  · simp [hb]
  · have : (a >>> i) % 2 = 1 := by omega
    simp [this]
theorem bit_eq {k : IntKind} (h : big k) {a i : Nat} (ha : a < 2 ^ 63) (hi : i < 64) : (bitsA .and k ((a : Int).fdiv (2 ^ min i k.bits)) 1 = 1) = (a.testBit i = true) := by
  rw [bit_at h ha hi]
  cases a.testBit i <;> simp
theorem or_lt {a i n : Nat} (ha : a < 2 ^ n) (hi : i < n) : a ||| 2 ^ i < 2 ^ n := Nat.or_lt_two_pow ha (Nat.pow_lt_pow_right (by omega) hi)
theorem or_bit (a i j : Nat) : (a ||| 2 ^ i).testBit j = (a.testBit j || decide (i = j)) := by
  rw [Nat.testBit_or, Nat.testBit_two_pow]

abbrev U (a : Nat) : AV := .int .u64 (a : Int)
theorem w83 {a : Nat} (ha : a < 2 ^ 63) {i : Int} {j : Nat} (hi : i = (j : Int)) (hj : j < 64) : runW progX 83 [U a, I i] [] = some (.bool (a.testBit j), []) := by
  subst hi
  have e := bit_eq big_u (a := a) (i := j) ha hj
  have n0 : ((j : Int) < 0) = False := eq_false (by omega)
  rw [r83 (by simp)]; unfold x83; dsimp only
  cases hb : a.testBit j
  · rw [hb] at e
    have e := e.trans (eq_false (by simp))
    (sym => (simp [z00,z01,z05,z07,z0b,z0c,z0n,z0v,z2o,z2s,z2t,z34,z4m,z67,z6q,z7r,z7s,z9n,z9y,za3,za5,za7,za8,zba,zbt,zbu,zbw,zbx,zby,zbz,zc0,zc3,zc4,zc5,zc6,zc8,zcj,zco,zcr,zct,zcv,zdk,zdl,zdo,zds,zdt,ze2,ze3,zfm,zfo,zfp,zft,zg0,zg1,zje, n0, e]; all_goals tactic => exact rfl))
  · rw [hb] at e
    have e := e.trans (eq_true rfl)
    (sym => (simp [z00,z01,z05,z07,z0b,z0c,z0n,z0v,z2o,z2s,z2t,z34,z4m,z67,z6q,z7r,z7s,z9n,z9y,za3,za5,za7,za8,zba,zbt,zbu,zbw,zbx,zby,zbz,zc0,zc3,zc4,zc5,zc6,zc8,zcj,zco,zcr,zct,zcv,zdk,zdl,zdo,zds,zdt,ze2,ze3,zfm,zfo,zfp,zft,zg0,zg1,zje, n0, e]; all_goals tactic => exact rfl))

/-! ### How many elements a set has -/
def pop : Nat → Nat → Nat
  | _, 0 => 0
  | a, n + 1 => pop a n + if a.testBit n then 1 else 0
def oc1 (a : Int) : Int := IntKind.u64.wrap (bitsA .and .u64 (a.fdiv (2 ^ min 1 IntKind.u64.bits)) 6148914691236517205 + bitsA .and .u64 a 6148914691236517205)
def oc2 (a : Int) : Int := IntKind.u64.wrap (bitsA .and .u64 (a.fdiv (2 ^ min 2 IntKind.u64.bits)) 3689348814741910323 + bitsA .and .u64 a 3689348814741910323)
def oc3 (a : Int) : Int := bitsA .and .u64 (IntKind.u64.wrap (a.fdiv (2 ^ min 4 IntKind.u64.bits) + a)) 1085102592571150095
def oc4 (a : Int) : Int := IntKind.u64.wrap (a + a.fdiv (2 ^ min 8 IntKind.u64.bits))
def oc5 (a : Int) : Int := IntKind.u64.wrap (a + a.fdiv (2 ^ min 16 IntKind.u64.bits))
def oc6 (a : Int) : Int := IntKind.u64.wrap (a + a.fdiv (2 ^ min 32 IntKind.u64.bits))
def oc7 (a : Int) : Int := bitsA .and .i64 (IntKind.i64.wrap a) 127
theorem ones_tab : ∀ a : Nat, a < 1024 → oc7 (oc6 (oc5 (oc4 (oc3 (oc2 (oc1 (a : Int))))))) = ((pop a 10 : Nat) : Int) := by decide +kernel
theorem w119 {a : Nat} (ha : a < 1024) : runW progX 119 [U a] [] = some (I (pop a 10 : Nat), []) := by
  rw [r119 (by simp)]; unfold x119; dsimp only
  sym =>
    simp [z00,z01,z05,z07,z0b,z0c,z0n,z0v,z11,z28,z2j,z2o,z2s,z3i,z3k,z3o,z3w,z4l,z66,z6p,z7r,z9n,z9y,za3,za5,za7,za8,zba,zbt,zbu,zbw,zbx,zby,zbz,zc0,zc3,zc4,zc5,zc6,zc8,zcj,zco,zcr,zct,zcv,zdo,zds,zdt,ze2,ze3,zfm,zfo,zfp,zft,zg0,zg1,zje]
    tactic => exact congrArg (fun v => some (I v, ([] : XH))) (ones_tab a ha)
theorem w112 {a : Nat} (ha : a < 1024) : runW progX 112 [U a] [] = some (I (pop a 10 : Nat), []) := by
  have e := w119 ha
  rw [r112 (by simp)]; unfold x112; dsimp only
  (sym => (simp [z00,z01,z05,z07,z0b,z0n,z1r,z1u,z20,z21,z4l,z66,z6p,z7r,z9m,z9n,z9y,za2,za3,za5,za7,za8,zaa,zab,zaq,zas,zat,zba,zbt,zbu,zbw,zbx,zby,zbz,zc0,zc3,zc4,zc5,zc6,zc8,zce,zcg,zcj,zcn,zco,zcq,zcr,zct,zcv,zdo,zds,zdt,zdu,zdv,ze2,ze3,zfo,zfp,zfq,zft,zg0,zg1,zje, e]; all_goals tactic => exact rfl))
theorem w93 {a : Nat} (ha : a < 1024) : runW progX 93 [U a] [] = some (I (pop a 10 : Nat), []) := by
  have e := w112 ha
  rw [r93 (by simp)]; unfold x93; dsimp only
  (sym => (simp [z00,z01,z05,z06,z07,z09,z0b,z0n,z1r,z1u,z20,z21,z4l,z66,z6p,z7r,z9m,z9n,z9y,za2,za3,za5,za7,za8,zaa,zab,zaq,zas,zat,zba,zbc,zbd,zbe,zbt,zbu,zbw,zbx,zby,zbz,zc0,zc3,zc4,zc5,zc6,zc8,zcj,zcn,zco,zcq,zcr,zct,zcv,zdo,zds,zdt,zdu,zdv,ze2,ze3,zfo,zfp,zft,zg0,zg1,zje,zkn,zko,zkq, e]; all_goals tactic => exact rfl))
theorem pop_le (a : Nat) : ∀ n, pop a n ≤ n
  | 0 => Nat.le_refl _
  | n + 1 => by
    have := pop_le a n
    rw [pop]
    split <;> omega
theorem pop_full {a : Nat} : ∀ {n}, pop a n = n ↔ ∀ i, i < n → a.testBit i = true
  | 0 => by simp [pop]
  | n + 1 => by
    have ih := pop_full (a := a) (n := n)
    have hle := pop_le a n
    rw [pop]
    constructor
    · intro h i hi
      cases hb : a.testBit n with
      | false => rw [hb] at h; simp at h; omega
      | true =>
        rw [hb] at h
        simp at h
        by_cases hin : i = n
        · rw [hin]; exact hb
        · exact ih.1 h i (by omega)
    · intro h
      rw [h n (by omega), ih.2 fun i hi => h i (by omega)]; simp
theorem pop_cut {a m : Nat} (h : a < 2 ^ m) : ∀ n, m ≤ n → pop a n = pop a m
  | 0, hn => by rw [show m = 0 by omega]
  | n + 1, hn => by
    by_cases hm : m = n + 1
    · rw [hm]
    · rw [pop, bit_lt h (by omega), pop_cut h n (by omega)]; simp
end Go.Proofs.YtpbeclkpohehgaaDoor
namespace Go.Proofs.YtpbeclkpohehgaaDoor
open Go Go.DL
set_option maxRecDepth 100000
set_option maxHeartbeats 2000000

/-- A load. -/
structure Ld where
  k : Int
  al : Int
  ah : Int
  cl : Int
  ch : Int
abbrev Ld.row (x : Ld) : List AV := [I x.k, I x.al, I x.ah, I x.cl, I x.ch]
/-- A line. -/
structure Li where
  ks : List (List St)
  ls : List Ld
  ts : List (List Int)
  lo : Int
  hi : Int
abbrev tR (l : List (List Int)) : AV := .fs (l.map fun t => [rI t])
abbrev lR (l : List Ld) : AV := .fs (l.map Ld.row)
abbrev Li.c (l : Li) : List AV := [kR l.ks, lR l.ls, tR l.ts, I l.lo, I l.hi]

/-- What a track's element may not be. -/
def elE (n all : Nat) (v : Int) : Int := if btw 0 v ((n : Int) - 1) then (if all.testBit v.toNat then 6 else 0) else 5
def allT (t : List Int) (a : Nat) : Nat → Nat
  | 0 => a
  | i + 1 => allT t a i ||| 2 ^ (t.getD i 0).toNat
def errT (n : Nat) (t : List Int) (a : Nat) : Int := if t.length = 0 then 4 else firstN (fun i => elE n (allT t a i) (t.getD i 0)) t.length
def accT (T : List (List Int)) : Nat → Nat
  | 0 => 0
  | j + 1 => allT (T.getD j []) (accT T j) (T.getD j []).length
def tracksE (n : Nat) (T : List (List Int)) : Int := if firstN (fun j => errT n (T.getD j []) (accT T j)) T.length = 0 then (if pop (accT T T.length) n < n then 3 else 0) else firstN (fun j => errT n (T.getD j []) (accT T j)) T.length
theorem elE_of {n all : Nat} (v : Int) : (btw 0 v ((n : Int) - 1) = true ∧ (0 ≤ v ∧ v < n) ∧ all.testBit v.toNat = false ∧ elE n all v = 0) ∨ (btw 0 v ((n : Int) - 1) = true ∧ (0 ≤ v ∧ v < n) ∧ all.testBit v.toNat = true ∧ elE n all v = 6) ∨ (btw 0 v ((n : Int) - 1) = false ∧ elE n all v = 5) := by
  unfold elE
  cases h : btw 0 v ((n : Int) - 1)
  · exact .inr (.inr ⟨rfl, rfl⟩)
  · have := btwF.1 h
    cases all.testBit v.toNat
    · exact .inl ⟨rfl, by omega, rfl, rfl⟩
    · exact .inr (.inl ⟨rfl, by omega, rfl, rfl⟩)
theorem allT_lt {n N : Nat} (hn : n ≤ N) {t : List Int} {a : Nat} (ha : a < 2 ^ N) : ∀ m, (∀ i, i < m → elE n (allT t a i) (t.getD i 0) = 0) → allT t a m < 2 ^ N
  | 0, _ => ha
  | m + 1, h => by
    have ih := allT_lt hn ha m fun i hi => h i (by omega)
    rcases elE_of (n := n) (all := allT t a m) (t.getD m 0) with ⟨_, h1, _, _⟩ | ⟨_, _, _, h4⟩ | ⟨_, h4⟩
    · rw [allT]
      exact or_lt ih (by omega)
    · rw [h m (by omega)] at h4; simp at h4
    · rw [h m (by omega)] at h4; simp at h4
theorem errT_0 {n : Nat} {t : List Int} {a : Nat} (h : errT n t a = 0) : t.length ≠ 0 ∧ ∀ i, i < t.length → elE n (allT t a i) (t.getD i 0) = 0 := by
  unfold errT at h
  by_cases hz : t.length = 0
  · rw [if_pos hz] at h; simp at h
  · rw [if_neg hz] at h
    exact ⟨hz, firstN_0 h⟩
theorem accT_lt {n N : Nat} (hn : n ≤ N) {T : List (List Int)} : ∀ m, (∀ j, j < m → errT n (T.getD j []) (accT T j) = 0) → accT T m < 2 ^ N
  | 0, _ => Nat.two_pow_pos N
  | m + 1, h => by
    have ih := accT_lt hn m fun j hj => h j (by omega)
    rw [accT]
    exact allT_lt hn ih _ (errT_0 (h m (by omega))).2
theorem getD_of {α : Type} {l : List α} {i : Nat} {x d : α} (h : l[i]? = some x) : l.getD i d = x := by rw [List.getD_eq_getElem?_getD, h]; rfl
theorem lo_63 {a : Nat} (h : a < 2 ^ 10) : a < 2 ^ 63 := by omega

section
variable {l : Li} {t : List Int} {j : Nat} {a : Nat}
abbrev hL (l : Li) : XH := [some (.blk true (.cells true l.c))]
theorem or_u {a : Nat} (ha : a < 2 ^ 10) {v : Int} (h : 0 ≤ v ∧ v < 10) : bitsA .or .u64 (a : Int) (IntKind.u64.wrap (1 * 2 ^ min v.toNat IntKind.u64.bits)) = ((a ||| 2 ^ v.toNat : Nat) : Int) := by
  rw [shl_one big_u (by omega), bits_or big_u (lo_63 ha) (Nat.pow_lt_pow_right (by omega) (by omega))]
theorem or_u1 {a : Nat} (ha : a < 2 ^ 10) {v : Int} (h : 0 ≤ v ∧ v < 10) : bitsA .or .u64 (a : Int) (IntKind.u64.wrap (2 ^ min v.toNat IntKind.u64.bits)) = ((a ||| 2 ^ v.toNat : Nat) : Int) := by
  rw [shl_1 big_u (by omega), bits_or big_u (lo_63 ha) (Nat.pow_lt_pow_right (by omega) (by omega))]
theorem round60 (hn : l.ls.length ≤ 10) (ha : a < 2 ^ 10) {i : Nat} {v : Int} (hv : t[i]? = some v) (ht : t.length ≤ 9223372036854775807) (he : elE l.ls.length a v = 0) :
    headX 0 [1, 3, 9, 10, 11, 18, 19, 20] (execW progX 60 0 none (match x60l0 with | .loop _ a => a | c => c) (envL [1, 3, 9, 10, 11, 18, 19, 20] [.pt 0 0, U a, tR l.ts, I l.ts.length, I (j : Nat), rI t, I t.length, I (i : Nat)]) (hL l)) =
      some ([.pt 0 0, U (a ||| 2 ^ v.toNat), tR l.ts, I l.ts.length, I (j : Nat), rI t, I t.length, I (i + 1 : Nat)], hL l) := by
  have a1 := lt_ix (lt_of hv)
  have a2 := up_ix (lt_of hv) ht
  have a3 : IntKind.i64.wrap ((l.ls.length : Int) - 1) = (l.ls.length : Int) - 1 := wrap_ok (by omega) (by omega)
  rcases elE_of (n := l.ls.length) (all := a) v with ⟨h1, h2, h3, h4⟩ | ⟨_, _, _, h4⟩ | ⟨_, h4⟩
  · have n0 : (v < 0) = False := eq_false (by omega)
    have e := w83 (a := a) (lo_63 ha) (i := v) (j := v.toNat) (by omega) (by omega)
    have o1 := or_u ha (v := v) (by omega)
    have o2 := or_u1 ha (v := v) (by omega)
    rw [h3] at e
    generalize a ||| 2 ^ v.toNat = a' at *
    unfold x60l0
    dsimp only
    (sym => (simp [z00,z01,z05,z07,z0b,z0c,z0n,z0v,z0z,z12,z15,z1f,z1j,z1r,z1u,z20,z21,z26,z29,z2b,z2g,z2h,z2j,z2k,z2p,z2r,z2v,z33,z34,z4l,z4q,z4t,z66,z67,z6b,z6e,z9d,z9e,z9g,z9m,z9p,z9r,z9v,z9w,z9y,za0,za1,za2,za3,za5,za6,za7,za8,za9,zaa,zab,zae,zaf,zal,zaq,zas,zat,zca,zcc,zcd,zce,zcf,zcg,zcn,zco,zcq,zcr,zct,zcu,zcv,zcw,zcx,zcy,zd6,zdd,zdj,zdk,zdo,zds,zdt,zdu,zdv,zf6,zf7,zf8,zf9,zfb,zfm,zfo,zfq,zfs,zft,zfw,zfz,zg0,zg1,zhf, a1, a2, a3, hv, w58, h1, e, n0, o1, o2]; all_goals tactic => exact rfl))
  all_goals (rw [h4] at he; simp at he)
theorem left60 (hn : l.ls.length ≤ 10) (ha : a < 2 ^ 10) {i : Nat} {v : Int} (hv : t[i]? = some v) (he : elE l.ls.length a v ≠ 0) :
    ∃ e h, execW progX 60 0 none (match x60l0 with | .loop _ a => a | c => c) (envL [1, 3, 9, 10, 11, 18, 19, 20] [.pt 0 0, U a, tR l.ts, I l.ts.length, I (j : Nat), rI t, I t.length, I (i : Nat)]) (hL l) = some (.ret, e, h) ∧ retX [(2, none)] false 0 (some (.ret, e, h)) = some (I (elE l.ls.length a v), []) := by
  have a1 := lt_ix (lt_of hv)
  have a3 : IntKind.i64.wrap ((l.ls.length : Int) - 1) = (l.ls.length : Int) - 1 := wrap_ok (by omega) (by omega)
  refine ret_of ?_ ?_
  all_goals unfold x60l0
  all_goals dsimp only
  all_goals rcases elE_of (n := l.ls.length) (all := a) v with ⟨h1, h2, h3, h4⟩ | ⟨h1, h2, h3, h4⟩ | ⟨h1, h4⟩
  all_goals first | exact absurd h4 he | skip
  all_goals try rw [h4]
  · have e := w83 (a := a) (lo_63 ha) (i := v) (j := v.toNat) (by omega) (by omega)
    rw [h3] at e
    (sym => (simp [z00,z01,z05,z07,z0b,z0c,z0n,z0v,z0z,z12,z15,z1f,z1j,z1r,z1u,z20,z21,z26,z29,z2b,z2g,z2h,z2k,z2v,z33,z34,z4l,z66,z67,z6p,z7r,z9d,z9e,z9g,z9m,z9p,z9y,za2,za3,za5,za6,za7,za8,zaa,zab,zaq,zas,zat,zba,zbt,zbu,zbw,zbx,zby,zbz,zc0,zc3,zc4,zc5,zc6,zca,zce,zcf,zcg,zci,zcn,zco,zcq,zcr,zct,zcu,zcv,zcw,zcx,zcy,zd6,zd7,zdd,zdk,zdo,zds,zdt,zdu,zdv,zf6,zf7,zf8,zf9,zfb,zfm,zfo,zfp,zfq,zfs,zft,zfv,zfx,zg0,zg1,zje, a1, a3, hv, w58, h1, e]; all_goals tactic => exact rfl))
  · (sym => (simp [z00,z01,z05,z07,z0b,z0c,z0n,z0v,z0z,z12,z15,z1f,z1j,z1r,z1u,z20,z21,z26,z29,z2b,z2g,z2h,z2k,z2v,z33,z34,z4l,z66,z67,z6p,z7r,z9d,z9e,z9g,z9m,z9p,z9y,za2,za3,za5,za6,za7,za8,zaa,zab,zaq,zas,zat,zba,zbt,zbu,zbw,zbx,zby,zbz,zc0,zc3,zc4,zc5,zc6,zca,zce,zcf,zcg,zci,zcn,zco,zcq,zcr,zct,zcu,zcv,zcw,zcx,zcy,zd6,zd7,zdd,zdk,zdo,zds,zdt,zdu,zdv,zf6,zf7,zf8,zf9,zfb,zfm,zfo,zfp,zfq,zfs,zft,zfv,zfx,zg0,zg1,zje, a1, a3, hv, w58, h1]; all_goals tactic => exact rfl))
  · have e := w83 (a := a) (lo_63 ha) (i := v) (j := v.toNat) (by omega) (by omega)
    rw [h3] at e
    (sym => (simp [z00,z01,z05,z07,z0b,z0c,z0n,z0v,z0z,z12,z15,z1f,z1j,z1r,z1u,z20,z21,z26,z29,z2b,z2g,z2h,z2k,z2v,z33,z34,z4l,z66,z67,z6p,z7r,z9d,z9e,z9g,z9m,z9p,z9y,za2,za3,za5,za6,za7,za8,zaa,zab,zaq,zas,zat,zba,zbt,zbu,zbw,zbx,zby,zbz,zc0,zc3,zc4,zc5,zc6,zca,zce,zcf,zcg,zci,zcn,zco,zcq,zcr,zct,zcu,zcv,zcw,zcx,zcy,zd6,zd7,zdd,zdk,zdo,zds,zdt,zdu,zdv,zf6,zf7,zf8,zf9,zfb,zfm,zfo,zfp,zfq,zfs,zft,zfv,zfx,zg0,zg1,zje, a1, a3, hv, w58, h1, e]; all_goals tactic => exact rfl))
  · (sym => (simp [z00,z01,z05,z07,z0b,z0c,z0n,z0v,z0z,z12,z15,z1f,z1j,z1r,z1u,z20,z21,z26,z29,z2b,z2g,z2h,z2k,z2v,z33,z34,z4l,z66,z67,z6p,z7r,z9d,z9e,z9g,z9m,z9p,z9y,za2,za3,za5,za6,za7,za8,zaa,zab,zaq,zas,zat,zba,zbt,zbu,zbw,zbx,zby,zbz,zc0,zc3,zc4,zc5,zc6,zca,zce,zcf,zcg,zci,zcn,zco,zcq,zcr,zct,zcu,zcv,zcw,zcx,zcy,zd6,zd7,zdd,zdk,zdo,zds,zdt,zdu,zdv,zf6,zf7,zf8,zf9,zfb,zfm,zfo,zfp,zfq,zfs,zft,zfv,zfx,zg0,zg1,zje, a1, a3, hv, w58, h1]; all_goals tactic => exact rfl))
end
theorem w60 (l : Li) (hn : l.ls.length ≤ 10) (hT : l.ts.length ≤ 9223372036854775807) (hts : ∀ t ∈ l.ts, t.length ≤ 9223372036854775807) : runW progX 60 [.agg l.c] [] = some (I (tracksE l.ls.length l.ts), []) := by
  have z := zf5 (n := (l.ts.length : Int))
  obtain ⟨m, m1, m2, m3⟩ := firstN_ix (fun j => errT l.ls.length (l.ts.getD j []) (accT l.ts j)) l.ts.length
  have hm : accT l.ts m < 2 ^ 10 := accT_lt hn m m2
  have lf : m < l.ts.length → ∃ e h, execW progX 60 0 none (match x60l1 with | .loop _ a => a | c => c) (envL [1, 3, 9, 10, 11] [.pt 0 0, U (accT l.ts m), tR l.ts, I l.ts.length, I (m : Nat)]) (hL l) = some (.ret, e, h) ∧ retX [(2, none)] false 0 (some (.ret, e, h)) = some (I (errT l.ls.length (l.ts.getD m []) (accT l.ts m)), []) := by
    intro hlt
    rcases m3 with ⟨rfl, _⟩ | ⟨_, m4, _⟩
    · omega
    obtain ⟨t, ht⟩ := at_ix hlt
    have b1 := lt_ix hlt
    rw [getD_of ht] at m4 ⊢
    have hth := hts t (List.mem_of_getElem? ht)
    generalize accT l.ts m = a at *
    by_cases h0 : t.length = 0
    · have e4 : errT l.ls.length t a = 4 := by rw [errT, if_pos h0]
      rw [e4]
      have g0 : ((t.length : Int) = 0) = True := eq_true (by omega)
      refine ret_of ?_ ?_
      all_goals unfold x60l1
      all_goals dsimp only
      all_goals (sym => (simp [z00,z01,z04,z05,z07,z08,z0b,z0c,z0f,z0n,z0r,z0v,z12,z15,z1f,z1j,z1k,z1m,z1p,z1v,z1w,z20,z21,z29,z2b,z2g,z2h,z2j,z2t,z2v,z33,z34,z3h,z4l,z4q,z4t,z54,z57,z59,z66,z6b,z6e,z6p,z7r,z7u,z7w,z8d,z9d,z9e,z9g,z9m,z9n,z9p,z9r,z9v,z9w,z9y,za0,za1,za2,za3,za5,za6,za7,za8,za9,zaa,zab,zae,zaf,zal,zaq,zas,zat,zav,zaw,zax,zaz,zba,zbt,zbu,zbw,zbx,zby,zbz,zc0,zc3,zc4,zc5,zc6,zc8,zca,zcc,zcd,zce,zcf,zcg,zch,zci,zcj,zcn,zco,zcq,zcr,zct,zcu,zcv,zcw,zcx,zcy,zd3,zd7,zd8,zd9,zdd,zdj,zdk,zdl,zdm,zdn,zdo,zds,zdt,zdu,zdv,zdw,zdx,ze2,ze3,zeo,zep,zf5,zf6,zf7,zf8,zf9,zfb,zfg,zfm,zfo,zfp,zfq,zfr,zfs,zft,zfu,zfv,zfw,zfx,zfy,zfz,zg0,zg1,zhf,zje, b1, ht, g0]; all_goals tactic => exact rfl))
    · have g0 : ((t.length : Int) = 0) = False := eq_false (by omega)
      rw [errT, if_neg h0] at m4 ⊢
      obtain ⟨i, i1, i2, i3⟩ := firstN_ix (fun i => elE l.ls.length (allT t a i) (t.getD i 0)) t.length
      rcases i3 with ⟨_, i3⟩ | ⟨i3, i4, i5⟩
      · exact absurd i3 m4
      rw [i5]
      obtain ⟨v, hv⟩ := at_ix i3
      rw [getD_of hv] at i4 ⊢
      obtain ⟨eo, ho, q1, q2⟩ := left60 (j := m) hn (allT_lt hn hm i i2) hv i4
      have rd : ∀ k, k < i → headX 0 [1, 3, 9, 10, 11, 18, 19, 20] (execW progX 60 0 none (match x60l0 with | .loop _ a => a | c => c) (envL [1, 3, 9, 10, 11, 18, 19, 20] [.pt 0 0, U (allT t a k), tR l.ts, I l.ts.length, I (m : Nat), rI t, I t.length, I (k : Nat)]) (hL l)) = some ([.pt 0 0, U (allT t a (k + 1)), tR l.ts, I l.ts.length, I (m : Nat), rI t, I t.length, I (k + 1 : Nat)], hL l) := by
        intro k hk
        obtain ⟨u, hu⟩ := at_ix (l := t) (i := k) (by omega)
        have e0 := i2 k hk
        rw [getD_of hu] at e0
        rw [allT, getD_of hu]
        exact round60 hn (allT_lt hn hm k fun i hi => i2 i (by omega)) hu hth e0
      refine ret_of ?_ ?_
      all_goals unfold x60l1
      all_goals dsimp only
      · sym =>
          simp [z00,z01,z04,z05,z07,z08,z0b,z0c,z0f,z0n,z0r,z0v,z12,z15,z1f,z1j,z1k,z1m,z1p,z1v,z1w,z20,z21,z29,z2b,z2g,z2h,z2j,z2t,z2v,z33,z34,z3h,z4l,z4q,z4t,z54,z57,z59,z66,z6b,z6e,z6p,z7r,z7u,z7w,z8d,z9d,z9e,z9g,z9m,z9n,z9p,z9r,z9v,z9w,z9y,za0,za1,za2,za3,za5,za6,za7,za8,za9,zaa,zab,zae,zaf,zal,zaq,zas,zat,zav,zaw,zax,zaz,zba,zbt,zbu,zbw,zbx,zby,zbz,zc0,zc3,zc4,zc5,zc6,zc8,zca,zcc,zcd,zce,zcf,zcg,zch,zci,zcj,zcn,zco,zcq,zcr,zct,zcu,zcv,zcw,zcx,zcy,zd3,zd7,zd8,zd9,zdd,zdj,zdk,zdl,zdm,zdn,zdo,zds,zdt,zdu,zdv,zdw,zdx,ze2,ze3,zeo,zep,zf5,zf6,zf7,zf8,zf9,zfb,zfg,zfm,zfo,zfp,zfq,zfr,zfs,zft,zfu,zfv,zfw,zfx,zfy,zfz,zg0,zg1,zhf,zje, b1, ht, g0]
          tactic =>
            unfold x60l0 at q1 ⊢
            rw [loop_rule i (fun k => [.pt 0 0, U (allT t a k), tR l.ts, I l.ts.length, I (m : Nat), rI t, I t.length, I (k : Nat)]) (fun _ => hL l)]
            · dsimp only at q1; rw [q1]; rfl
            · (sym => (simp [z00,z01,z04,z05,z07,z08,z0b,z0c,z0f,z0n,z0r,z0v,z12,z15,z1f,z1j,z1k,z1m,z1p,z1v,z1w,z20,z21,z29,z2b,z2g,z2h,z2j,z2t,z2v,z33,z34,z3h,z4l,z4q,z4t,z54,z57,z59,z66,z6b,z6e,z6p,z7r,z7u,z7w,z8d,z9d,z9e,z9g,z9m,z9n,z9p,z9r,z9v,z9w,z9y,za0,za1,za2,za3,za5,za6,za7,za8,za9,zaa,zab,zae,zaf,zal,zaq,zas,zat,zav,zaw,zax,zaz,zba,zbt,zbu,zbw,zbx,zby,zbz,zc0,zc3,zc4,zc5,zc6,zc8,zca,zcc,zcd,zce,zcf,zcg,zch,zci,zcj,zcn,zco,zcq,zcr,zct,zcu,zcv,zcw,zcx,zcy,zd3,zd7,zd8,zd9,zdd,zdj,zdk,zdl,zdm,zdn,zdo,zds,zdt,zdu,zdv,zdw,zdx,ze2,ze3,zeo,zep,zf5,zf6,zf7,zf8,zf9,zfb,zfg,zfm,zfo,zfp,zfq,zfr,zfs,zft,zfu,zfv,zfw,zfx,zfy,zfz,zg0,zg1,zhf,zje, allT.eq_1]; all_goals tactic => exact rfl))
            · exact rd
            · dsimp only at q1; rw [q1]; rfl
      · sym =>
          simp [z00,z01,z04,z05,z07,z08,z0b,z0c,z0f,z0n,z0r,z0v,z12,z15,z1f,z1j,z1k,z1m,z1p,z1v,z1w,z20,z21,z29,z2b,z2g,z2h,z2j,z2t,z2v,z33,z34,z3h,z4l,z4q,z4t,z54,z57,z59,z66,z6b,z6e,z6p,z7r,z7u,z7w,z8d,z9d,z9e,z9g,z9m,z9n,z9p,z9r,z9v,z9w,z9y,za0,za1,za2,za3,za5,za6,za7,za8,za9,zaa,zab,zae,zaf,zal,zaq,zas,zat,zav,zaw,zax,zaz,zba,zbt,zbu,zbw,zbx,zby,zbz,zc0,zc3,zc4,zc5,zc6,zc8,zca,zcc,zcd,zce,zcf,zcg,zch,zci,zcj,zcn,zco,zcq,zcr,zct,zcu,zcv,zcw,zcx,zcy,zd3,zd7,zd8,zd9,zdd,zdj,zdk,zdl,zdm,zdn,zdo,zds,zdt,zdu,zdv,zdw,zdx,ze2,ze3,zeo,zep,zf5,zf6,zf7,zf8,zf9,zfb,zfg,zfm,zfo,zfp,zfq,zfr,zfs,zft,zfu,zfv,zfw,zfx,zfy,zfz,zg0,zg1,zhf,zje, b1, ht, g0]
          tactic =>
            unfold x60l0 at q1 ⊢
            rw [loop_rule i (fun k => [.pt 0 0, U (allT t a k), tR l.ts, I l.ts.length, I (m : Nat), rI t, I t.length, I (k : Nat)]) (fun _ => hL l)]
            · dsimp only at q1; rw [q1]; exact q2
            · (sym => (simp [z00,z01,z04,z05,z07,z08,z0b,z0c,z0f,z0n,z0r,z0v,z12,z15,z1f,z1j,z1k,z1m,z1p,z1v,z1w,z20,z21,z29,z2b,z2g,z2h,z2j,z2t,z2v,z33,z34,z3h,z4l,z4q,z4t,z54,z57,z59,z66,z6b,z6e,z6p,z7r,z7u,z7w,z8d,z9d,z9e,z9g,z9m,z9n,z9p,z9r,z9v,z9w,z9y,za0,za1,za2,za3,za5,za6,za7,za8,za9,zaa,zab,zae,zaf,zal,zaq,zas,zat,zav,zaw,zax,zaz,zba,zbt,zbu,zbw,zbx,zby,zbz,zc0,zc3,zc4,zc5,zc6,zc8,zca,zcc,zcd,zce,zcf,zcg,zch,zci,zcj,zcn,zco,zcq,zcr,zct,zcu,zcv,zcw,zcx,zcy,zd3,zd7,zd8,zd9,zdd,zdj,zdk,zdl,zdm,zdn,zdo,zds,zdt,zdu,zdv,zdw,zdx,ze2,ze3,zeo,zep,zf5,zf6,zf7,zf8,zf9,zfb,zfg,zfm,zfo,zfp,zfq,zfr,zfs,zft,zfu,zfv,zfw,zfx,zfy,zfz,zg0,zg1,zhf,zje, allT.eq_1]; all_goals tactic => exact rfl))
            · exact rd
            · dsimp only at q1; rw [q1]; rfl
  have rd : ∀ j, j < m → headX 0 [1, 3, 9, 10, 11] (execW progX 60 0 none (match x60l1 with | .loop _ a => a | c => c) (envL [1, 3, 9, 10, 11] [.pt 0 0, U (accT l.ts j), tR l.ts, I l.ts.length, I (j : Nat)]) (hL l)) = some ([.pt 0 0, U (accT l.ts (j + 1)), tR l.ts, I l.ts.length, I (j + 1 : Nat)], hL l) := by
    intro j hj
    obtain ⟨t, ht⟩ := at_ix (l := l.ts) (i := j) (by omega)
    have b1 := lt_ix (lt_of ht)
    have b2 := up_ix (lt_of ht) hT
    have hth := hts t (List.mem_of_getElem? ht)
    have h0 := m2 j hj
    have hj2 : accT l.ts j < 2 ^ 10 := accT_lt hn j fun i hi => m2 i (by omega)
    rw [accT, getD_of ht]
    rw [getD_of ht] at h0
    obtain ⟨h1, h2⟩ := errT_0 h0
    generalize accT l.ts j = a at *
    have g0 : ((t.length : Int) = 0) = False := eq_false (by omega)
    have z := zf5 (n := (t.length : Int))
    unfold x60l1
    dsimp only
    sym =>
      simp [z00,z01,z04,z05,z07,z08,z0b,z0c,z0f,z0n,z0r,z0v,z12,z15,z1f,z1j,z1k,z1m,z1p,z1v,z1w,z20,z21,z29,z2b,z2g,z2h,z2j,z2t,z2v,z33,z34,z3h,z4l,z4q,z4t,z54,z57,z59,z66,z6b,z6e,z6p,z7r,z7u,z7w,z8d,z9d,z9e,z9g,z9m,z9n,z9p,z9r,z9v,z9w,z9y,za0,za1,za2,za3,za5,za6,za7,za8,za9,zaa,zab,zae,zaf,zal,zaq,zas,zat,zav,zaw,zax,zaz,zba,zbt,zbu,zbw,zbx,zby,zbz,zc0,zc3,zc4,zc5,zc6,zc8,zca,zcc,zcd,zce,zcf,zcg,zch,zci,zcj,zcn,zco,zcq,zcr,zct,zcu,zcv,zcw,zcx,zcy,zd3,zd7,zd8,zd9,zdd,zdj,zdk,zdl,zdm,zdn,zdo,zds,zdt,zdu,zdv,zdw,zdx,ze2,ze3,zeo,zep,zf5,zf6,zf7,zf8,zf9,zfb,zfg,zfm,zfo,zfp,zfq,zfr,zfs,zft,zfu,zfv,zfw,zfx,zfy,zfz,zg0,zg1,zhf,zje, b1, ht, g0]
      tactic =>
        unfold x60l0
        rw [loop_rule t.length (fun k => [.pt 0 0, U (allT t a k), tR l.ts, I l.ts.length, I (j : Nat), rI t, I t.length, I (k : Nat)]) (fun _ => hL l)]
        · (sym => (simp [z00,z01,z04,z05,z07,z08,z0b,z0c,z0f,z0n,z0r,z0v,z12,z15,z1f,z1j,z1k,z1m,z1p,z1v,z1w,z20,z21,z29,z2b,z2g,z2h,z2j,z2t,z2v,z33,z34,z3h,z4l,z4q,z4t,z54,z57,z59,z66,z6b,z6e,z6p,z7r,z7u,z7w,z8d,z9d,z9e,z9g,z9m,z9n,z9p,z9r,z9v,z9w,z9y,za0,za1,za2,za3,za5,za6,za7,za8,za9,zaa,zab,zae,zaf,zal,zaq,zas,zat,zav,zaw,zax,zaz,zba,zbt,zbu,zbw,zbx,zby,zbz,zc0,zc3,zc4,zc5,zc6,zc8,zca,zcc,zcd,zce,zcf,zcg,zch,zci,zcj,zcn,zco,zcq,zcr,zct,zcu,zcv,zcw,zcx,zcy,zd3,zd7,zd8,zd9,zdd,zdj,zdk,zdl,zdm,zdn,zdo,zds,zdt,zdu,zdv,zdw,zdx,ze2,ze3,zeo,zep,zf5,zf6,zf7,zf8,zf9,zfb,zfg,zfm,zfo,zfp,zfq,zfr,zfs,zft,zfu,zfv,zfw,zfx,zfy,zfz,zg0,zg1,zhf,zje, b1, b2, z]; all_goals tactic => exact rfl))
        · (sym => (simp [z00,z01,z04,z05,z07,z08,z0b,z0c,z0f,z0n,z0r,z0v,z12,z15,z1f,z1j,z1k,z1m,z1p,z1v,z1w,z20,z21,z29,z2b,z2g,z2h,z2j,z2t,z2v,z33,z34,z3h,z4l,z4q,z4t,z54,z57,z59,z66,z6b,z6e,z6p,z7r,z7u,z7w,z8d,z9d,z9e,z9g,z9m,z9n,z9p,z9r,z9v,z9w,z9y,za0,za1,za2,za3,za5,za6,za7,za8,za9,zaa,zab,zae,zaf,zal,zaq,zas,zat,zav,zaw,zax,zaz,zba,zbt,zbu,zbw,zbx,zby,zbz,zc0,zc3,zc4,zc5,zc6,zc8,zca,zcc,zcd,zce,zcf,zcg,zch,zci,zcj,zcn,zco,zcq,zcr,zct,zcu,zcv,zcw,zcx,zcy,zd3,zd7,zd8,zd9,zdd,zdj,zdk,zdl,zdm,zdn,zdo,zds,zdt,zdu,zdv,zdw,zdx,ze2,ze3,zeo,zep,zf5,zf6,zf7,zf8,zf9,zfb,zfg,zfm,zfo,zfp,zfq,zfr,zfs,zft,zfu,zfv,zfw,zfx,zfy,zfz,zg0,zg1,zhf,zje, allT.eq_1]; all_goals tactic => exact rfl))
        · intro k hk
          obtain ⟨u, hu⟩ := at_ix hk
          have e0 := h2 k hk
          rw [getD_of hu] at e0
          rw [allT, getD_of hu]
          exact round60 hn (allT_lt hn hj2 k fun i hi => h2 i (by omega)) hu hth e0
        · (sym => (simp [z00,z01,z04,z05,z07,z08,z0b,z0c,z0f,z0n,z0r,z0v,z12,z15,z1f,z1j,z1k,z1m,z1p,z1v,z1w,z20,z21,z29,z2b,z2g,z2h,z2j,z2t,z2v,z33,z34,z3h,z4l,z4q,z4t,z54,z57,z59,z66,z6b,z6e,z6p,z7r,z7u,z7w,z8d,z9d,z9e,z9g,z9m,z9n,z9p,z9r,z9v,z9w,z9y,za0,za1,za2,za3,za5,za6,za7,za8,za9,zaa,zab,zae,zaf,zal,zaq,zas,zat,zav,zaw,zax,zaz,zba,zbt,zbu,zbw,zbx,zby,zbz,zc0,zc3,zc4,zc5,zc6,zc8,zca,zcc,zcd,zce,zcf,zcg,zch,zci,zcj,zcn,zco,zcq,zcr,zct,zcu,zcv,zcw,zcx,zcy,zd3,zd7,zd8,zd9,zdd,zdj,zdk,zdl,zdm,zdn,zdo,zds,zdt,zdu,zdv,zdw,zdx,ze2,ze3,zeo,zep,zf5,zf6,zf7,zf8,zf9,zfb,zfg,zfm,zfo,zfp,zfq,zfr,zfs,zft,zfu,zfv,zfw,zfx,zfy,zfz,zg0,zg1,zhf,zje, z]; all_goals tactic => exact rfl))
  have a0 : accT l.ts 0 = 0 := rfl
  rw [r60 (by simp)]; unfold x60; dsimp only
  sym =>
    simp [z00,z01,z04,z05,z07,z08,z0b,z0c,z0f,z0n,z0r,z0v,z12,z15,z1f,z1j,z1k,z1m,z1p,z1v,z1w,z20,z21,z29,z2b,z2g,z2h,z2j,z2t,z2v,z33,z34,z3h,z4l,z4q,z4t,z54,z57,z59,z66,z6b,z6e,z6p,z7r,z7u,z7w,z8d,z9d,z9e,z9g,z9m,z9n,z9p,z9r,z9v,z9w,z9y,za0,za1,za2,za3,za5,za6,za7,za8,za9,zaa,zab,zae,zaf,zal,zaq,zas,zat,zav,zaw,zax,zaz,zba,zbt,zbu,zbw,zbx,zby,zbz,zc0,zc3,zc4,zc5,zc6,zc8,zca,zcc,zcd,zce,zcf,zcg,zch,zci,zcj,zcn,zco,zcq,zcr,zct,zcu,zcv,zcw,zcx,zcy,zd3,zd7,zd8,zd9,zdd,zdj,zdk,zdl,zdm,zdn,zdo,zds,zdt,zdu,zdv,zdw,zdx,ze2,ze3,zeo,zep,zf5,zf6,zf7,zf8,zf9,zfb,zfg,zfm,zfo,zfp,zfq,zfr,zfs,zft,zfu,zfv,zfw,zfx,zfy,zfz,zg0,zg1,zhf,zje]
    tactic =>
      unfold x60l1 at lf ⊢
      rw [loop_rule m (fun j => [.pt 0 0, U (accT l.ts j), tR l.ts, I l.ts.length, I (j : Nat)]) (fun _ => hL l)]
      · rcases m3 with ⟨rfl, e⟩ | ⟨m3, m4, e⟩
        · unfold tracksE
          rw [e, if_pos rfl]
          have e93 := w93 (a := accT l.ts l.ts.length) hm
          rw [pop_cut (m := 10) hm 10 (Nat.le_refl _)] at e93
          have hpop : pop (accT l.ts l.ts.length) 10 = pop (accT l.ts l.ts.length) l.ls.length := pop_cut (accT_lt (Nat.le_refl _) _ m2) 10 hn
          rw [hpop] at e93
          generalize pop (accT l.ts l.ts.length) l.ls.length = p at *
          by_cases hp : p < l.ls.length
          · rw [if_pos hp]
            have hp : ((p : Int) < (l.ls.length : Int)) = True := eq_true (by omega)
            (sym => (simp [z00,z01,z04,z05,z07,z08,z0b,z0c,z0f,z0n,z0r,z0v,z12,z15,z1f,z1j,z1k,z1m,z1p,z1v,z1w,z20,z21,z29,z2b,z2g,z2h,z2j,z2t,z2v,z33,z34,z3h,z4l,z4q,z4t,z54,z57,z59,z66,z6b,z6e,z6p,z7r,z7u,z7w,z8d,z9d,z9e,z9g,z9m,z9n,z9p,z9r,z9v,z9w,z9y,za0,za1,za2,za3,za5,za6,za7,za8,za9,zaa,zab,zae,zaf,zal,zaq,zas,zat,zav,zaw,zax,zaz,zba,zbt,zbu,zbw,zbx,zby,zbz,zc0,zc3,zc4,zc5,zc6,zc8,zca,zcc,zcd,zce,zcf,zcg,zch,zci,zcj,zcn,zco,zcq,zcr,zct,zcu,zcv,zcw,zcx,zcy,zd3,zd7,zd8,zd9,zdd,zdj,zdk,zdl,zdm,zdn,zdo,zds,zdt,zdu,zdv,zdw,zdx,ze2,ze3,zeo,zep,zf5,zf6,zf7,zf8,zf9,zfb,zfg,zfm,zfo,zfp,zfq,zfr,zfs,zft,zfu,zfv,zfw,zfx,zfy,zfz,zg0,zg1,zhf,zje, z, e93, hp]; all_goals tactic => exact rfl))
          · rw [if_neg hp]
            have hp : ((p : Int) < (l.ls.length : Int)) = False := eq_false (by omega)
            (sym => (simp [z00,z01,z04,z05,z07,z08,z0b,z0c,z0f,z0n,z0r,z0v,z12,z15,z1f,z1j,z1k,z1m,z1p,z1v,z1w,z20,z21,z29,z2b,z2g,z2h,z2j,z2t,z2v,z33,z34,z3h,z4l,z4q,z4t,z54,z57,z59,z66,z6b,z6e,z6p,z7r,z7u,z7w,z8d,z9d,z9e,z9g,z9m,z9n,z9p,z9r,z9v,z9w,z9y,za0,za1,za2,za3,za5,za6,za7,za8,za9,zaa,zab,zae,zaf,zal,zaq,zas,zat,zav,zaw,zax,zaz,zba,zbt,zbu,zbw,zbx,zby,zbz,zc0,zc3,zc4,zc5,zc6,zc8,zca,zcc,zcd,zce,zcf,zcg,zch,zci,zcj,zcn,zco,zcq,zcr,zct,zcu,zcv,zcw,zcx,zcy,zd3,zd7,zd8,zd9,zdd,zdj,zdk,zdl,zdm,zdn,zdo,zds,zdt,zdu,zdv,zdw,zdx,ze2,ze3,zeo,zep,zf5,zf6,zf7,zf8,zf9,zfb,zfg,zfm,zfo,zfp,zfq,zfr,zfs,zft,zfu,zfv,zfw,zfx,zfy,zfz,zg0,zg1,zhf,zje, z, e93, hp]; all_goals tactic => exact rfl))
        · unfold tracksE
          rw [e, if_neg m4]
          obtain ⟨eo, ho, q1, q2⟩ := lf m3
          dsimp only at q1
          rw [q1]
          exact q2
      · (sym => (simp [z00,z01,z04,z05,z07,z08,z0b,z0c,z0f,z0n,z0r,z0v,z12,z15,z1f,z1j,z1k,z1m,z1p,z1v,z1w,z20,z21,z29,z2b,z2g,z2h,z2j,z2t,z2v,z33,z34,z3h,z4l,z4q,z4t,z54,z57,z59,z66,z6b,z6e,z6p,z7r,z7u,z7w,z8d,z9d,z9e,z9g,z9m,z9n,z9p,z9r,z9v,z9w,z9y,za0,za1,za2,za3,za5,za6,za7,za8,za9,zaa,zab,zae,zaf,zal,zaq,zas,zat,zav,zaw,zax,zaz,zba,zbt,zbu,zbw,zbx,zby,zbz,zc0,zc3,zc4,zc5,zc6,zc8,zca,zcc,zcd,zce,zcf,zcg,zch,zci,zcj,zcn,zco,zcq,zcr,zct,zcu,zcv,zcw,zcx,zcy,zd3,zd7,zd8,zd9,zdd,zdj,zdk,zdl,zdm,zdn,zdo,zds,zdt,zdu,zdv,zdw,zdx,ze2,ze3,zeo,zep,zf5,zf6,zf7,zf8,zf9,zfb,zfg,zfm,zfo,zfp,zfq,zfr,zfs,zft,zfu,zfv,zfw,zfx,zfy,zfz,zg0,zg1,zhf,zje, a0]; all_goals tactic => exact rfl))
      · exact rd
      · rcases m3 with ⟨rfl, e⟩ | ⟨m3, m4, e⟩
        · (sym => (simp [z00,z01,z04,z05,z07,z08,z0b,z0c,z0f,z0n,z0r,z0v,z12,z15,z1f,z1j,z1k,z1m,z1p,z1v,z1w,z20,z21,z29,z2b,z2g,z2h,z2j,z2t,z2v,z33,z34,z3h,z4l,z4q,z4t,z54,z57,z59,z66,z6b,z6e,z6p,z7r,z7u,z7w,z8d,z9d,z9e,z9g,z9m,z9n,z9p,z9r,z9v,z9w,z9y,za0,za1,za2,za3,za5,za6,za7,za8,za9,zaa,zab,zae,zaf,zal,zaq,zas,zat,zav,zaw,zax,zaz,zba,zbt,zbu,zbw,zbx,zby,zbz,zc0,zc3,zc4,zc5,zc6,zc8,zca,zcc,zcd,zce,zcf,zcg,zch,zci,zcj,zcn,zco,zcq,zcr,zct,zcu,zcv,zcw,zcx,zcy,zd3,zd7,zd8,zd9,zdd,zdj,zdk,zdl,zdm,zdn,zdo,zds,zdt,zdu,zdv,zdw,zdx,ze2,ze3,zeo,zep,zf5,zf6,zf7,zf8,zf9,zfb,zfg,zfm,zfo,zfp,zfq,zfr,zfs,zft,zfu,zfv,zfw,zfx,zfy,zfz,zg0,zg1,zhf,zje, z]; all_goals tactic => exact rfl))
        · obtain ⟨eo, ho, q1, q2⟩ := lf m3
          dsimp only at q1
          rw [q1]
          rfl
end Go.Proofs.YtpbeclkpohehgaaDoor
namespace Go.Proofs.YtpbeclkpohehgaaDoor
open Go Go.DL
set_option maxRecDepth 100000
set_option maxHeartbeats 2000000

/-- A set as a list of truths. -/
def bl (n a : Nat) : List Bool := (List.range n).map fun k => a.testBit k
theorem bl_len (n a : Nat) : (bl n a).length = n := by simp [bl]
theorem bl_get {n a k : Nat} (h : k < n) : (bl n a)[k]? = some (a.testBit k) := by
  unfold bl
  rw [List.getElem?_map, List.getElem?_range h]; rfl
theorem bl_set {n a k : Nat} (h : k < n) : setX (bl n a) k true = bl n (a ||| 2 ^ k) := by
  rw [setX_set (by rw [bl_len]; exact h)]
  apply List.ext_getElem
  · simp [bl]
  · intro i h1 h2
    rw [List.getElem_set]
    simp only [bl, List.getElem_map, List.getElem_range, or_bit]
    by_cases hk : k = i
    · simp [hk]
    · simp [hk]
theorem bl_0 (n : Nat) : List.replicate n false = bl n 0 := by
  apply List.ext_getElem
  · simp [bl]
  · intro i h1 h2
    simp [bl]
section
variable {n : Nat} {T : List (List Int)} {t : List Int} {j : Nat} {a : Nat}
abbrev hB (n a : Nat) : XH := [some (.blk true (.cells true ((bl n a).map AV.bool)))]
theorem round64 (hn : n ≤ 10) (hj : T[j]? = some t) {i : Nat} {v : Int} (hv : t[i]? = some v) (ht : t.length ≤ 9223372036854775807) (he : elE n a v = 0) :
    headX 0 [0, 1, 5, 6, 7] (execW progX 64 0 none (match x64l0 with | .loop _ a => a | c => c) (envL [0, 1, 5, 6, 7] [tR T, I n, .sl 0 0 1 n, I (j : Nat), I (i : Nat)]) (hB n a)) =
      some ([tR T, I n, .sl 0 0 1 n, I (j : Nat), I (i + 1 : Nat)], hB n (a ||| 2 ^ v.toNat)) := by
  have b1 := lt_ix (lt_of hj)
  have a1 := lt_ix (lt_of hv)
  have a2 := up_ix (lt_of hv) ht
  have a3 : IntKind.i64.wrap ((n : Int) - 1) = (n : Int) - 1 := wrap_ok (by omega) (by omega)
  rcases elE_of (n := n) (all := a) v with ⟨h1, h2, h3, h4⟩ | ⟨_, _, _, h4⟩ | ⟨_, h4⟩
  · have c1 : (0 ≤ v) = True := eq_true (by omega)
    have c2 : (v < (n : Int)) = True := eq_true (by omega)
    have c3 := bl_get (n := n) (a := a) (k := v.toNat) (by omega)
    rw [h3] at c3
    have c4 := bl_set (n := n) (a := a) (k := v.toNat) (by omega)
    have c5 : (v.toNat + 1 ≤ (bl n a).length) = True := eq_true (by rw [bl_len]; omega)
    unfold x64l0
    dsimp only
    (sym => (simp [z00,z01,z02,z05,z07,z0b,z0c,z0n,z0v,z0z,z15,z1f,z1j,z1n,z1o,z1r,z1u,z20,z21,z26,z2b,z2f,z2g,z2h,z2j,z2k,z2v,z33,z34,z4l,z4q,z4s,z55,z66,z67,z6b,z6d,z8b,z9d,z9e,z9g,z9i,z9m,z9p,z9r,z9v,z9w,z9y,za0,za1,za2,za3,za5,za6,za7,za8,za9,zaa,zab,zae,zaf,zal,zaq,zas,zat,zca,zcc,zcd,zce,zcf,zcg,zcn,zco,zcq,zcr,zct,zcu,zcv,zcw,zcx,zcy,zd3,zd6,zdd,zdj,zdk,zdo,zds,zdt,zdu,zdv,zdw,zdx,zf6,zf7,zf8,zf9,zfb,zfc,zfd,zfm,zfo,zfq,zfs,zft,zfw,zfz,zg0,zg1,zhd,zhe,zhf,zhj, b1, a1, a2, a3, hj, hv, w62, h1, c1, c2, c3, c4, c5]; all_goals tactic => exact rfl))
  all_goals (rw [h4] at he; simp at he)
theorem left64 (hn : n ≤ 10) (hj : T[j]? = some t) {i : Nat} {v : Int} (hv : t[i]? = some v) (he : elE n a v ≠ 0) :
    ∃ e h, execW progX 64 0 none (match x64l0 with | .loop _ a => a | c => c) (envL [0, 1, 5, 6, 7] [tR T, I n, .sl 0 0 1 n, I (j : Nat), I (i : Nat)]) (hB n a) = some (.ret, e, h) ∧ retX [(4, none)] false 0 (some (.ret, e, h)) = some (I (elE n a v), []) := by
  have b1 := lt_ix (lt_of hj)
  have a1 := lt_ix (lt_of hv)
  have a3 : IntKind.i64.wrap ((n : Int) - 1) = (n : Int) - 1 := wrap_ok (by omega) (by omega)
  refine ret_of ?_ ?_
  all_goals unfold x64l0
  all_goals dsimp only
  all_goals rcases elE_of (n := n) (all := a) v with ⟨h1, h2, h3, h4⟩ | ⟨h1, h2, h3, h4⟩ | ⟨h1, h4⟩
  all_goals first | exact absurd h4 he | skip
  all_goals try rw [h4]
  · have c1 : (0 ≤ v) = True := eq_true (by omega)
    have c2 : (v < (n : Int)) = True := eq_true (by omega)
    have c3 := bl_get (n := n) (a := a) (k := v.toNat) (by omega)
    rw [h3] at c3
    (sym => (simp [z00,z01,z05,z07,z0b,z0c,z0n,z0v,z0z,z15,z1f,z1j,z1r,z1u,z20,z21,z26,z2b,z2f,z2g,z2h,z2k,z2v,z33,z34,z4l,z66,z67,z6p,z7r,z9d,z9e,z9g,z9m,z9p,z9y,za2,za3,za5,za6,za7,za8,zaa,zab,zaq,zas,zat,zba,zbt,zbu,zbw,zbx,zby,zbz,zc0,zc3,zc4,zc5,zc6,zca,zce,zcf,zcg,zci,zcn,zco,zcq,zcr,zct,zcu,zcv,zcw,zcx,zcy,zd6,zd7,zdd,zdk,zdo,zds,zdt,zdu,zdv,zf6,zf7,zf8,zf9,zfb,zfm,zfo,zfp,zfq,zfs,zft,zfv,zfx,zg0,zg1,zhd,zhe,zje, b1, a1, a3, hj, hv, w62, h1, c1, c2, c3]; all_goals tactic => exact rfl))
  · (sym => (simp [z00,z01,z05,z07,z0b,z0c,z0n,z0v,z0z,z15,z1f,z1j,z1r,z1u,z20,z21,z26,z2b,z2f,z2g,z2h,z2k,z2v,z33,z34,z4l,z66,z67,z6p,z7r,z9d,z9e,z9g,z9m,z9p,z9y,za2,za3,za5,za6,za7,za8,zaa,zab,zaq,zas,zat,zba,zbt,zbu,zbw,zbx,zby,zbz,zc0,zc3,zc4,zc5,zc6,zca,zce,zcf,zcg,zci,zcn,zco,zcq,zcr,zct,zcu,zcv,zcw,zcx,zcy,zd6,zd7,zdd,zdk,zdo,zds,zdt,zdu,zdv,zf6,zf7,zf8,zf9,zfb,zfm,zfo,zfp,zfq,zfs,zft,zfv,zfx,zg0,zg1,zhd,zhe,zje, b1, a1, a3, hj, hv, w62, h1]; all_goals tactic => exact rfl))
  · have c1 : (0 ≤ v) = True := eq_true (by omega)
    have c2 : (v < (n : Int)) = True := eq_true (by omega)
    have c3 := bl_get (n := n) (a := a) (k := v.toNat) (by omega)
    rw [h3] at c3
    (sym => (simp [z00,z01,z05,z07,z0b,z0c,z0n,z0v,z0z,z15,z1f,z1j,z1r,z1u,z20,z21,z26,z2b,z2f,z2g,z2h,z2k,z2v,z33,z34,z4l,z66,z67,z6p,z7r,z9d,z9e,z9g,z9m,z9p,z9y,za2,za3,za5,za6,za7,za8,zaa,zab,zaq,zas,zat,zba,zbt,zbu,zbw,zbx,zby,zbz,zc0,zc3,zc4,zc5,zc6,zca,zce,zcf,zcg,zci,zcn,zco,zcq,zcr,zct,zcu,zcv,zcw,zcx,zcy,zd6,zd7,zdd,zdk,zdo,zds,zdt,zdu,zdv,zf6,zf7,zf8,zf9,zfb,zfm,zfo,zfp,zfq,zfs,zft,zfv,zfx,zg0,zg1,zhd,zhe,zje, b1, a1, a3, hj, hv, w62, h1, c1, c2, c3]; all_goals tactic => exact rfl))
  · (sym => (simp [z00,z01,z05,z07,z0b,z0c,z0n,z0v,z0z,z15,z1f,z1j,z1r,z1u,z20,z21,z26,z2b,z2f,z2g,z2h,z2k,z2v,z33,z34,z4l,z66,z67,z6p,z7r,z9d,z9e,z9g,z9m,z9p,z9y,za2,za3,za5,za6,za7,za8,zaa,zab,zaq,zas,zat,zba,zbt,zbu,zbw,zbx,zby,zbz,zc0,zc3,zc4,zc5,zc6,zca,zce,zcf,zcg,zci,zcn,zco,zcq,zcr,zct,zcu,zcv,zcw,zcx,zcy,zd6,zd7,zdd,zdk,zdo,zds,zdt,zdu,zdv,zf6,zf7,zf8,zf9,zfb,zfm,zfo,zfp,zfq,zfs,zft,zfv,zfx,zg0,zg1,zhd,zhe,zje, b1, a1, a3, hj, hv, w62, h1]; all_goals tactic => exact rfl))
end
theorem w64 (n : Nat) (T : List (List Int)) (hn : n ≤ 10) (hT : T.length ≤ 9223372036854775807) (hts : ∀ t ∈ T, t.length ≤ 9223372036854775807) : runW progX 64 [tR T, I n] [] = some (I (tracksE n T), []) := by
  have z := zf5 (n := (T.length : Int))
  have zn := zf5 (n := (n : Int))
  obtain ⟨m, m1, m2, m3⟩ := firstN_ix (fun j => errT n (T.getD j []) (accT T j)) T.length
  have hm : accT T m < 2 ^ 10 := accT_lt hn m m2
  have lf : m < T.length → ∃ e h, execW progX 64 0 none (match x64l1 with | .loop _ a => a | c => c) (envL [0, 1, 5, 6] [tR T, I n, .sl 0 0 1 n, I (m : Nat)]) (hB n (accT T m)) = some (.ret, e, h) ∧ retX [(4, none)] false 0 (some (.ret, e, h)) = some (I (errT n (T.getD m []) (accT T m)), []) := by
    intro hlt
    rcases m3 with ⟨rfl, _⟩ | ⟨_, m4, _⟩
    · omega
    obtain ⟨t, ht⟩ := at_ix hlt
    have b1 := lt_ix hlt
    rw [getD_of ht] at m4 ⊢
    have hth := hts t (List.mem_of_getElem? ht)
    generalize accT T m = a at *
    by_cases h0 : t.length = 0
    · have e4 : errT n t a = 4 := by rw [errT, if_pos h0]
      rw [e4]
      have g0 : ((t.length : Int) = 0) = True := eq_true (by omega)
      refine ret_of ?_ ?_
      all_goals unfold x64l1
      all_goals dsimp only
      all_goals (sym => (simp [z00,z01,z05,z07,z0b,z0c,z0f,z0n,z0v,z0z,z15,z18,z1f,z1j,z26,z2b,z2f,z2g,z2h,z2j,z2t,z2v,z33,z34,z3h,z3j,z4l,z4q,z4s,z55,z66,z6b,z6d,z6p,z7r,z7w,z9d,z9e,z9g,z9n,z9p,z9r,z9v,z9w,z9y,za0,za1,za3,za6,za7,za8,za9,zae,zaf,zal,zba,zbt,zbu,zbw,zbx,zby,zbz,zc0,zc3,zc4,zc5,zc6,zc8,zca,zcc,zcd,zce,zcf,zcg,zch,zci,zcj,zcn,zco,zcq,zcr,zct,zcu,zcv,zcw,zcx,zcy,zd3,zd6,zd7,zdd,zdj,zdk,zdl,zds,zdt,zdu,zdv,zdw,zdx,ze2,ze3,zev,zew,zf5,zf6,zf7,zf8,zf9,zfb,zfg,zfm,zfo,zfp,zfq,zfr,zfs,zft,zfu,zfv,zfw,zfx,zfy,zfz,zg0,zg1,zhd,zhe,zhf,zhm,zje, b1, ht, g0]; all_goals tactic => exact rfl))
    · have g0 : ((t.length : Int) = 0) = False := eq_false (by omega)
      rw [errT, if_neg h0] at m4 ⊢
      obtain ⟨i, i1, i2, i3⟩ := firstN_ix (fun i => elE n (allT t a i) (t.getD i 0)) t.length
      rcases i3 with ⟨_, i3⟩ | ⟨i3, i4, i5⟩
      · exact absurd i3 m4
      rw [i5]
      obtain ⟨v, hv⟩ := at_ix i3
      rw [getD_of hv] at i4 ⊢
      obtain ⟨eo, ho, q1, q2⟩ := left64 (j := m) hn ht hv i4
      have rd : ∀ k, k < i → headX 0 [0, 1, 5, 6, 7] (execW progX 64 0 none (match x64l0 with | .loop _ a => a | c => c) (envL [0, 1, 5, 6, 7] [tR T, I n, .sl 0 0 1 n, I (m : Nat), I (k : Nat)]) (hB n (allT t a k))) = some ([tR T, I n, .sl 0 0 1 n, I (m : Nat), I (k + 1 : Nat)], hB n (allT t a (k + 1))) := by
        intro k hk
        obtain ⟨u, hu⟩ := at_ix (l := t) (i := k) (by omega)
        have e0 := i2 k hk
        rw [getD_of hu] at e0
        rw [allT, getD_of hu]
        exact round64 hn ht hu hth e0
      refine ret_of ?_ ?_
      all_goals unfold x64l1
      all_goals dsimp only
      · sym =>
          simp [z00,z01,z05,z07,z0b,z0c,z0f,z0n,z0v,z0z,z15,z18,z1f,z1j,z26,z2b,z2f,z2g,z2h,z2j,z2t,z2v,z33,z34,z3h,z3j,z4l,z4q,z4s,z55,z66,z6b,z6d,z6p,z7r,z7w,z9d,z9e,z9g,z9n,z9p,z9r,z9v,z9w,z9y,za0,za1,za3,za6,za7,za8,za9,zae,zaf,zal,zba,zbt,zbu,zbw,zbx,zby,zbz,zc0,zc3,zc4,zc5,zc6,zc8,zca,zcc,zcd,zce,zcf,zcg,zch,zci,zcj,zcn,zco,zcq,zcr,zct,zcu,zcv,zcw,zcx,zcy,zd3,zd6,zd7,zdd,zdj,zdk,zdl,zds,zdt,zdu,zdv,zdw,zdx,ze2,ze3,zev,zew,zf5,zf6,zf7,zf8,zf9,zfb,zfg,zfm,zfo,zfp,zfq,zfr,zfs,zft,zfu,zfv,zfw,zfx,zfy,zfz,zg0,zg1,zhd,zhe,zhf,zhm,zje, b1, ht, g0]
          tactic =>
            unfold x64l0 at q1 ⊢
            rw [loop_rule i (fun k => [tR T, I n, .sl 0 0 1 n, I (m : Nat), I (k : Nat)]) (fun k => hB n (allT t a k))]
            · dsimp only at q1; rw [q1]; rfl
            · (sym => (simp [z00,z01,z05,z07,z0b,z0c,z0f,z0n,z0v,z0z,z15,z18,z1f,z1j,z26,z2b,z2f,z2g,z2h,z2j,z2t,z2v,z33,z34,z3h,z3j,z4l,z4q,z4s,z55,z66,z6b,z6d,z6p,z7r,z7w,z9d,z9e,z9g,z9n,z9p,z9r,z9v,z9w,z9y,za0,za1,za3,za6,za7,za8,za9,zae,zaf,zal,zba,zbt,zbu,zbw,zbx,zby,zbz,zc0,zc3,zc4,zc5,zc6,zc8,zca,zcc,zcd,zce,zcf,zcg,zch,zci,zcj,zcn,zco,zcq,zcr,zct,zcu,zcv,zcw,zcx,zcy,zd3,zd6,zd7,zdd,zdj,zdk,zdl,zds,zdt,zdu,zdv,zdw,zdx,ze2,ze3,zev,zew,zf5,zf6,zf7,zf8,zf9,zfb,zfg,zfm,zfo,zfp,zfq,zfr,zfs,zft,zfu,zfv,zfw,zfx,zfy,zfz,zg0,zg1,zhd,zhe,zhf,zhm,zje, allT.eq_1]; all_goals tactic => exact rfl))
            · exact rd
            · dsimp only at q1; rw [q1]; rfl
      · sym =>
          simp [z00,z01,z05,z07,z0b,z0c,z0f,z0n,z0v,z0z,z15,z18,z1f,z1j,z26,z2b,z2f,z2g,z2h,z2j,z2t,z2v,z33,z34,z3h,z3j,z4l,z4q,z4s,z55,z66,z6b,z6d,z6p,z7r,z7w,z9d,z9e,z9g,z9n,z9p,z9r,z9v,z9w,z9y,za0,za1,za3,za6,za7,za8,za9,zae,zaf,zal,zba,zbt,zbu,zbw,zbx,zby,zbz,zc0,zc3,zc4,zc5,zc6,zc8,zca,zcc,zcd,zce,zcf,zcg,zch,zci,zcj,zcn,zco,zcq,zcr,zct,zcu,zcv,zcw,zcx,zcy,zd3,zd6,zd7,zdd,zdj,zdk,zdl,zds,zdt,zdu,zdv,zdw,zdx,ze2,ze3,zev,zew,zf5,zf6,zf7,zf8,zf9,zfb,zfg,zfm,zfo,zfp,zfq,zfr,zfs,zft,zfu,zfv,zfw,zfx,zfy,zfz,zg0,zg1,zhd,zhe,zhf,zhm,zje, b1, ht, g0]
          tactic =>
            unfold x64l0 at q1 ⊢
            rw [loop_rule i (fun k => [tR T, I n, .sl 0 0 1 n, I (m : Nat), I (k : Nat)]) (fun k => hB n (allT t a k))]
            · dsimp only at q1; rw [q1]; exact q2
            · (sym => (simp [z00,z01,z05,z07,z0b,z0c,z0f,z0n,z0v,z0z,z15,z18,z1f,z1j,z26,z2b,z2f,z2g,z2h,z2j,z2t,z2v,z33,z34,z3h,z3j,z4l,z4q,z4s,z55,z66,z6b,z6d,z6p,z7r,z7w,z9d,z9e,z9g,z9n,z9p,z9r,z9v,z9w,z9y,za0,za1,za3,za6,za7,za8,za9,zae,zaf,zal,zba,zbt,zbu,zbw,zbx,zby,zbz,zc0,zc3,zc4,zc5,zc6,zc8,zca,zcc,zcd,zce,zcf,zcg,zch,zci,zcj,zcn,zco,zcq,zcr,zct,zcu,zcv,zcw,zcx,zcy,zd3,zd6,zd7,zdd,zdj,zdk,zdl,zds,zdt,zdu,zdv,zdw,zdx,ze2,ze3,zev,zew,zf5,zf6,zf7,zf8,zf9,zfb,zfg,zfm,zfo,zfp,zfq,zfr,zfs,zft,zfu,zfv,zfw,zfx,zfy,zfz,zg0,zg1,zhd,zhe,zhf,zhm,zje, allT.eq_1]; all_goals tactic => exact rfl))
            · exact rd
            · dsimp only at q1; rw [q1]; rfl
  have rd : ∀ j, j < m → headX 0 [0, 1, 5, 6] (execW progX 64 0 none (match x64l1 with | .loop _ a => a | c => c) (envL [0, 1, 5, 6] [tR T, I n, .sl 0 0 1 n, I (j : Nat)]) (hB n (accT T j))) = some ([tR T, I n, .sl 0 0 1 n, I (j + 1 : Nat)], hB n (accT T (j + 1))) := by
    intro j hj
    obtain ⟨t, ht⟩ := at_ix (l := T) (i := j) (by omega)
    have b1 := lt_ix (lt_of ht)
    have b2 := up_ix (lt_of ht) hT
    have hth := hts t (List.mem_of_getElem? ht)
    have h0 := m2 j hj
    rw [accT, getD_of ht]
    rw [getD_of ht] at h0
    obtain ⟨h1, h2⟩ := errT_0 h0
    generalize accT T j = a at *
    have g0 : ((t.length : Int) = 0) = False := eq_false (by omega)
    have z := zf5 (n := (t.length : Int))
    unfold x64l1
    dsimp only
    sym =>
      simp [z00,z01,z05,z07,z0b,z0c,z0f,z0n,z0v,z0z,z15,z18,z1f,z1j,z26,z2b,z2f,z2g,z2h,z2j,z2t,z2v,z33,z34,z3h,z3j,z4l,z4q,z4s,z55,z66,z6b,z6d,z6p,z7r,z7w,z9d,z9e,z9g,z9n,z9p,z9r,z9v,z9w,z9y,za0,za1,za3,za6,za7,za8,za9,zae,zaf,zal,zba,zbt,zbu,zbw,zbx,zby,zbz,zc0,zc3,zc4,zc5,zc6,zc8,zca,zcc,zcd,zce,zcf,zcg,zch,zci,zcj,zcn,zco,zcq,zcr,zct,zcu,zcv,zcw,zcx,zcy,zd3,zd6,zd7,zdd,zdj,zdk,zdl,zds,zdt,zdu,zdv,zdw,zdx,ze2,ze3,zev,zew,zf5,zf6,zf7,zf8,zf9,zfb,zfg,zfm,zfo,zfp,zfq,zfr,zfs,zft,zfu,zfv,zfw,zfx,zfy,zfz,zg0,zg1,zhd,zhe,zhf,zhm,zje, b1, ht, g0]
      tactic =>
        unfold x64l0
        rw [loop_rule t.length (fun k => [tR T, I n, .sl 0 0 1 n, I (j : Nat), I (k : Nat)]) (fun k => hB n (allT t a k))]
        · (sym => (simp [z00,z01,z05,z07,z0b,z0c,z0f,z0n,z0v,z0z,z15,z18,z1f,z1j,z26,z2b,z2f,z2g,z2h,z2j,z2t,z2v,z33,z34,z3h,z3j,z4l,z4q,z4s,z55,z66,z6b,z6d,z6p,z7r,z7w,z9d,z9e,z9g,z9n,z9p,z9r,z9v,z9w,z9y,za0,za1,za3,za6,za7,za8,za9,zae,zaf,zal,zba,zbt,zbu,zbw,zbx,zby,zbz,zc0,zc3,zc4,zc5,zc6,zc8,zca,zcc,zcd,zce,zcf,zcg,zch,zci,zcj,zcn,zco,zcq,zcr,zct,zcu,zcv,zcw,zcx,zcy,zd3,zd6,zd7,zdd,zdj,zdk,zdl,zds,zdt,zdu,zdv,zdw,zdx,ze2,ze3,zev,zew,zf5,zf6,zf7,zf8,zf9,zfb,zfg,zfm,zfo,zfp,zfq,zfr,zfs,zft,zfu,zfv,zfw,zfx,zfy,zfz,zg0,zg1,zhd,zhe,zhf,zhm,zje, b1, b2, ht, z]; all_goals tactic => exact rfl))
        · (sym => (simp [z00,z01,z05,z07,z0b,z0c,z0f,z0n,z0v,z0z,z15,z18,z1f,z1j,z26,z2b,z2f,z2g,z2h,z2j,z2t,z2v,z33,z34,z3h,z3j,z4l,z4q,z4s,z55,z66,z6b,z6d,z6p,z7r,z7w,z9d,z9e,z9g,z9n,z9p,z9r,z9v,z9w,z9y,za0,za1,za3,za6,za7,za8,za9,zae,zaf,zal,zba,zbt,zbu,zbw,zbx,zby,zbz,zc0,zc3,zc4,zc5,zc6,zc8,zca,zcc,zcd,zce,zcf,zcg,zch,zci,zcj,zcn,zco,zcq,zcr,zct,zcu,zcv,zcw,zcx,zcy,zd3,zd6,zd7,zdd,zdj,zdk,zdl,zds,zdt,zdu,zdv,zdw,zdx,ze2,ze3,zev,zew,zf5,zf6,zf7,zf8,zf9,zfb,zfg,zfm,zfo,zfp,zfq,zfr,zfs,zft,zfu,zfv,zfw,zfx,zfy,zfz,zg0,zg1,zhd,zhe,zhf,zhm,zje, allT.eq_1]; all_goals tactic => exact rfl))
        · intro k hk
          obtain ⟨u, hu⟩ := at_ix hk
          have e0 := h2 k hk
          rw [getD_of hu] at e0
          rw [allT, getD_of hu]
          exact round64 hn ht hu hth e0
        · (sym => (simp [z00,z01,z05,z07,z0b,z0c,z0f,z0n,z0v,z0z,z15,z18,z1f,z1j,z26,z2b,z2f,z2g,z2h,z2j,z2t,z2v,z33,z34,z3h,z3j,z4l,z4q,z4s,z55,z66,z6b,z6d,z6p,z7r,z7w,z9d,z9e,z9g,z9n,z9p,z9r,z9v,z9w,z9y,za0,za1,za3,za6,za7,za8,za9,zae,zaf,zal,zba,zbt,zbu,zbw,zbx,zby,zbz,zc0,zc3,zc4,zc5,zc6,zc8,zca,zcc,zcd,zce,zcf,zcg,zch,zci,zcj,zcn,zco,zcq,zcr,zct,zcu,zcv,zcw,zcx,zcy,zd3,zd6,zd7,zdd,zdj,zdk,zdl,zds,zdt,zdu,zdv,zdw,zdx,ze2,ze3,zev,zew,zf5,zf6,zf7,zf8,zf9,zfb,zfg,zfm,zfo,zfp,zfq,zfr,zfs,zft,zfu,zfv,zfw,zfx,zfy,zfz,zg0,zg1,zhd,zhe,zhf,zhm,zje, b1, ht, z]; all_goals tactic => exact rfl))
  have a0 : accT T 0 = 0 := rfl
  have r0 := bl_0 n
  have k1 : (0 ≤ (n : Int)) = True := eq_true (by omega)
  have k2 : (1 * (n : Int) ≤ 281474976710656) = True := eq_true (by omega)
  have k3 : ((n : Int) ≤ 9223372036854775807) = True := eq_true (by omega)
  have k4 : ((n : Int) ≤ (n : Int)) = True := eq_true (by omega)
  rw [r64 (by simp)]; unfold x64; dsimp only
  sym =>
    simp [z00,z01,z05,z07,z0b,z0c,z0f,z0n,z0v,z0z,z15,z18,z1f,z1j,z26,z2b,z2f,z2g,z2h,z2j,z2t,z2v,z33,z34,z3h,z3j,z4l,z4q,z4s,z55,z66,z6b,z6d,z6p,z7r,z7w,z9d,z9e,z9g,z9n,z9p,z9r,z9v,z9w,z9y,za0,za1,za3,za6,za7,za8,za9,zae,zaf,zal,zba,zbt,zbu,zbw,zbx,zby,zbz,zc0,zc3,zc4,zc5,zc6,zc8,zca,zcc,zcd,zce,zcf,zcg,zch,zci,zcj,zcn,zco,zcq,zcr,zct,zcu,zcv,zcw,zcx,zcy,zd3,zd6,zd7,zdd,zdj,zdk,zdl,zds,zdt,zdu,zdv,zdw,zdx,ze2,ze3,zev,zew,zf5,zf6,zf7,zf8,zf9,zfb,zfg,zfm,zfo,zfp,zfq,zfr,zfs,zft,zfu,zfv,zfw,zfx,zfy,zfz,zg0,zg1,zhd,zhe,zhf,zhm,zje, k1, k2, k3, k4, r0]
    tactic =>
      unfold x64l1 at lf ⊢
      rw [loop_rule m (fun j => [tR T, I n, .sl 0 0 1 n, I (j : Nat)]) (fun j => hB n (accT T j))]
      · rcases m3 with ⟨rfl, e⟩ | ⟨m3, m4, e⟩
        · unfold tracksE
          rw [e, if_pos rfl]
          generalize accT T T.length = a at *
          have hf := pop_full (a := a) (n := n)
          have hle := pop_le a n
          obtain ⟨q, p1, p2, p3⟩ := firstN_ix (fun k => if a.testBit k then 0 else 1) n
          have rdb : ∀ k, k < q → headX 0 [1, 5, 9] (execW progX 64 0 none (match x64l2 with | .loop _ a => a | c => c) (envL [1, 5, 9] [I n, .sl 0 0 1 n, I (k : Nat)]) (hB n a)) = some ([I n, .sl 0 0 1 n, I (k + 1 : Nat)], hB n a) := by
            intro k hk
            have e0 := p2 k hk
            have c3 := bl_get (n := n) (a := a) (k := k) (by omega)
            have c1 : ((k : Int) < (n : Int)) = True := eq_true (by omega)
            have c2 : IntKind.i64.wrap ((k : Int) + 1) = (k : Int) + 1 := wrap_ok (by omega) (by omega)
            cases hb : a.testBit k
            · rw [hb] at e0; simp at e0
            · rw [hb] at c3
              unfold x64l2
              dsimp only
              (sym => (simp [z00,z01,z05,z07,z0b,z0c,z0f,z0n,z0v,z0z,z15,z18,z1f,z1j,z26,z2b,z2f,z2g,z2h,z2j,z2t,z2v,z33,z34,z3h,z3j,z4l,z4q,z4s,z55,z66,z6b,z6d,z6p,z7r,z7w,z9d,z9e,z9g,z9n,z9p,z9r,z9v,z9w,z9y,za0,za1,za3,za6,za7,za8,za9,zae,zaf,zal,zba,zbt,zbu,zbw,zbx,zby,zbz,zc0,zc3,zc4,zc5,zc6,zc8,zca,zcc,zcd,zce,zcf,zcg,zch,zci,zcj,zcn,zco,zcq,zcr,zct,zcu,zcv,zcw,zcx,zcy,zd3,zd6,zd7,zdd,zdj,zdk,zdl,zds,zdt,zdu,zdv,zdw,zdx,ze2,ze3,zev,zew,zf5,zf6,zf7,zf8,zf9,zfb,zfg,zfm,zfo,zfp,zfq,zfr,zfs,zft,zfu,zfv,zfw,zfx,zfy,zfz,zg0,zg1,zhd,zhe,zhf,zhm,zje, c1, c2, c3]; all_goals tactic => exact rfl))
          rcases p3 with ⟨rfl, p4⟩ | ⟨p3, p4, p5⟩
          · have : pop a q = q := hf.2 fun i hi => by
              have := p2 i hi
              cases hb : a.testBit i
              · rw [hb] at this; simp at this
              · rfl
            rw [if_neg (by omega)]
            sym =>
              simp [z00,z01,z05,z07,z0b,z0c,z0f,z0n,z0v,z0z,z15,z18,z1f,z1j,z26,z2b,z2f,z2g,z2h,z2j,z2t,z2v,z33,z34,z3h,z3j,z4l,z4q,z4s,z55,z66,z6b,z6d,z6p,z7r,z7w,z9d,z9e,z9g,z9n,z9p,z9r,z9v,z9w,z9y,za0,za1,za3,za6,za7,za8,za9,zae,zaf,zal,zba,zbt,zbu,zbw,zbx,zby,zbz,zc0,zc3,zc4,zc5,zc6,zc8,zca,zcc,zcd,zce,zcf,zcg,zch,zci,zcj,zcn,zco,zcq,zcr,zct,zcu,zcv,zcw,zcx,zcy,zd3,zd6,zd7,zdd,zdj,zdk,zdl,zds,zdt,zdu,zdv,zdw,zdx,ze2,ze3,zev,zew,zf5,zf6,zf7,zf8,zf9,zfb,zfg,zfm,zfo,zfp,zfq,zfr,zfs,zft,zfu,zfv,zfw,zfx,zfy,zfz,zg0,zg1,zhd,zhe,zhf,zhm,zje, z]
              tactic =>
                unfold x64l2
                rw [loop_rule q (fun k => [I q, .sl 0 0 1 q, I (k : Nat)]) (fun _ => hB q a)]
                · (sym => (simp [z00,z01,z05,z07,z0b,z0c,z0f,z0n,z0v,z0z,z15,z18,z1f,z1j,z26,z2b,z2f,z2g,z2h,z2j,z2t,z2v,z33,z34,z3h,z3j,z4l,z4q,z4s,z55,z66,z6b,z6d,z6p,z7r,z7w,z9d,z9e,z9g,z9n,z9p,z9r,z9v,z9w,z9y,za0,za1,za3,za6,za7,za8,za9,zae,zaf,zal,zba,zbt,zbu,zbw,zbx,zby,zbz,zc0,zc3,zc4,zc5,zc6,zc8,zca,zcc,zcd,zce,zcf,zcg,zch,zci,zcj,zcn,zco,zcq,zcr,zct,zcu,zcv,zcw,zcx,zcy,zd3,zd6,zd7,zdd,zdj,zdk,zdl,zds,zdt,zdu,zdv,zdw,zdx,ze2,ze3,zev,zew,zf5,zf6,zf7,zf8,zf9,zfb,zfg,zfm,zfo,zfp,zfq,zfr,zfs,zft,zfu,zfv,zfw,zfx,zfy,zfz,zg0,zg1,zhd,zhe,zhf,zhm,zje, zn]; all_goals tactic => exact rfl))
                · (sym => (simp [z00,z01,z05,z07,z0b,z0c,z0f,z0n,z0v,z0z,z15,z18,z1f,z1j,z26,z2b,z2f,z2g,z2h,z2j,z2t,z2v,z33,z34,z3h,z3j,z4l,z4q,z4s,z55,z66,z6b,z6d,z6p,z7r,z7w,z9d,z9e,z9g,z9n,z9p,z9r,z9v,z9w,z9y,za0,za1,za3,za6,za7,za8,za9,zae,zaf,zal,zba,zbt,zbu,zbw,zbx,zby,zbz,zc0,zc3,zc4,zc5,zc6,zc8,zca,zcc,zcd,zce,zcf,zcg,zch,zci,zcj,zcn,zco,zcq,zcr,zct,zcu,zcv,zcw,zcx,zcy,zd3,zd6,zd7,zdd,zdj,zdk,zdl,zds,zdt,zdu,zdv,zdw,zdx,ze2,ze3,zev,zew,zf5,zf6,zf7,zf8,zf9,zfb,zfg,zfm,zfo,zfp,zfq,zfr,zfs,zft,zfu,zfv,zfw,zfx,zfy,zfz,zg0,zg1,zhd,zhe,zhf,zhm,zje]; all_goals tactic => exact rfl))
                · exact rdb
                · (sym => (simp [z00,z01,z05,z07,z0b,z0c,z0f,z0n,z0v,z0z,z15,z18,z1f,z1j,z26,z2b,z2f,z2g,z2h,z2j,z2t,z2v,z33,z34,z3h,z3j,z4l,z4q,z4s,z55,z66,z6b,z6d,z6p,z7r,z7w,z9d,z9e,z9g,z9n,z9p,z9r,z9v,z9w,z9y,za0,za1,za3,za6,za7,za8,za9,zae,zaf,zal,zba,zbt,zbu,zbw,zbx,zby,zbz,zc0,zc3,zc4,zc5,zc6,zc8,zca,zcc,zcd,zce,zcf,zcg,zch,zci,zcj,zcn,zco,zcq,zcr,zct,zcu,zcv,zcw,zcx,zcy,zd3,zd6,zd7,zdd,zdj,zdk,zdl,zds,zdt,zdu,zdv,zdw,zdx,ze2,ze3,zev,zew,zf5,zf6,zf7,zf8,zf9,zfb,zfg,zfm,zfo,zfp,zfq,zfr,zfs,zft,zfu,zfv,zfw,zfx,zfy,zfz,zg0,zg1,zhd,zhe,zhf,zhm,zje, zn]; all_goals tactic => exact rfl))
          · have hb : a.testBit q = false := by
              cases hb : a.testBit q
              · rfl
              · rw [hb] at p4; simp at p4
            have : pop a n < n := by
              by_cases hc : pop a n = n
              · have := hf.1 hc q p3
                rw [hb] at this; simp at this
              · omega
            rw [if_pos this]
            have c1 : ((q : Int) < (n : Int)) = True := eq_true (by omega)
            have c3 := bl_get (n := n) (a := a) (k := q) p3
            rw [hb] at c3
            sym =>
              simp [z00,z01,z05,z07,z0b,z0c,z0f,z0n,z0v,z0z,z15,z18,z1f,z1j,z26,z2b,z2f,z2g,z2h,z2j,z2t,z2v,z33,z34,z3h,z3j,z4l,z4q,z4s,z55,z66,z6b,z6d,z6p,z7r,z7w,z9d,z9e,z9g,z9n,z9p,z9r,z9v,z9w,z9y,za0,za1,za3,za6,za7,za8,za9,zae,zaf,zal,zba,zbt,zbu,zbw,zbx,zby,zbz,zc0,zc3,zc4,zc5,zc6,zc8,zca,zcc,zcd,zce,zcf,zcg,zch,zci,zcj,zcn,zco,zcq,zcr,zct,zcu,zcv,zcw,zcx,zcy,zd3,zd6,zd7,zdd,zdj,zdk,zdl,zds,zdt,zdu,zdv,zdw,zdx,ze2,ze3,zev,zew,zf5,zf6,zf7,zf8,zf9,zfb,zfg,zfm,zfo,zfp,zfq,zfr,zfs,zft,zfu,zfv,zfw,zfx,zfy,zfz,zg0,zg1,zhd,zhe,zhf,zhm,zje, z]
              tactic =>
                unfold x64l2
                rw [loop_rule q (fun k => [I n, .sl 0 0 1 n, I (k : Nat)]) (fun _ => hB n a)]
                · (sym => (simp [z00,z01,z05,z07,z0b,z0c,z0f,z0n,z0v,z0z,z15,z18,z1f,z1j,z26,z2b,z2f,z2g,z2h,z2j,z2t,z2v,z33,z34,z3h,z3j,z4l,z4q,z4s,z55,z66,z6b,z6d,z6p,z7r,z7w,z9d,z9e,z9g,z9n,z9p,z9r,z9v,z9w,z9y,za0,za1,za3,za6,za7,za8,za9,zae,zaf,zal,zba,zbt,zbu,zbw,zbx,zby,zbz,zc0,zc3,zc4,zc5,zc6,zc8,zca,zcc,zcd,zce,zcf,zcg,zch,zci,zcj,zcn,zco,zcq,zcr,zct,zcu,zcv,zcw,zcx,zcy,zd3,zd6,zd7,zdd,zdj,zdk,zdl,zds,zdt,zdu,zdv,zdw,zdx,ze2,ze3,zev,zew,zf5,zf6,zf7,zf8,zf9,zfb,zfg,zfm,zfo,zfp,zfq,zfr,zfs,zft,zfu,zfv,zfw,zfx,zfy,zfz,zg0,zg1,zhd,zhe,zhf,zhm,zje, c1, c3]; all_goals tactic => exact rfl))
                · (sym => (simp [z00,z01,z05,z07,z0b,z0c,z0f,z0n,z0v,z0z,z15,z18,z1f,z1j,z26,z2b,z2f,z2g,z2h,z2j,z2t,z2v,z33,z34,z3h,z3j,z4l,z4q,z4s,z55,z66,z6b,z6d,z6p,z7r,z7w,z9d,z9e,z9g,z9n,z9p,z9r,z9v,z9w,z9y,za0,za1,za3,za6,za7,za8,za9,zae,zaf,zal,zba,zbt,zbu,zbw,zbx,zby,zbz,zc0,zc3,zc4,zc5,zc6,zc8,zca,zcc,zcd,zce,zcf,zcg,zch,zci,zcj,zcn,zco,zcq,zcr,zct,zcu,zcv,zcw,zcx,zcy,zd3,zd6,zd7,zdd,zdj,zdk,zdl,zds,zdt,zdu,zdv,zdw,zdx,ze2,ze3,zev,zew,zf5,zf6,zf7,zf8,zf9,zfb,zfg,zfm,zfo,zfp,zfq,zfr,zfs,zft,zfu,zfv,zfw,zfx,zfy,zfz,zg0,zg1,zhd,zhe,zhf,zhm,zje]; all_goals tactic => exact rfl))
                · exact rdb
                · (sym => (simp [z00,z01,z05,z07,z0b,z0c,z0f,z0n,z0v,z0z,z15,z18,z1f,z1j,z26,z2b,z2f,z2g,z2h,z2j,z2t,z2v,z33,z34,z3h,z3j,z4l,z4q,z4s,z55,z66,z6b,z6d,z6p,z7r,z7w,z9d,z9e,z9g,z9n,z9p,z9r,z9v,z9w,z9y,za0,za1,za3,za6,za7,za8,za9,zae,zaf,zal,zba,zbt,zbu,zbw,zbx,zby,zbz,zc0,zc3,zc4,zc5,zc6,zc8,zca,zcc,zcd,zce,zcf,zcg,zch,zci,zcj,zcn,zco,zcq,zcr,zct,zcu,zcv,zcw,zcx,zcy,zd3,zd6,zd7,zdd,zdj,zdk,zdl,zds,zdt,zdu,zdv,zdw,zdx,ze2,ze3,zev,zew,zf5,zf6,zf7,zf8,zf9,zfb,zfg,zfm,zfo,zfp,zfq,zfr,zfs,zft,zfu,zfv,zfw,zfx,zfy,zfz,zg0,zg1,zhd,zhe,zhf,zhm,zje, c1, c3]; all_goals tactic => exact rfl))
        · unfold tracksE
          rw [e, if_neg m4]
          obtain ⟨eo, ho, q1, q2⟩ := lf m3
          dsimp only at q1
          rw [q1]
          exact q2
      · (sym => (simp [z00,z01,z05,z07,z0b,z0c,z0f,z0n,z0v,z0z,z15,z18,z1f,z1j,z26,z2b,z2f,z2g,z2h,z2j,z2t,z2v,z33,z34,z3h,z3j,z4l,z4q,z4s,z55,z66,z6b,z6d,z6p,z7r,z7w,z9d,z9e,z9g,z9n,z9p,z9r,z9v,z9w,z9y,za0,za1,za3,za6,za7,za8,za9,zae,zaf,zal,zba,zbt,zbu,zbw,zbx,zby,zbz,zc0,zc3,zc4,zc5,zc6,zc8,zca,zcc,zcd,zce,zcf,zcg,zch,zci,zcj,zcn,zco,zcq,zcr,zct,zcu,zcv,zcw,zcx,zcy,zd3,zd6,zd7,zdd,zdj,zdk,zdl,zds,zdt,zdu,zdv,zdw,zdx,ze2,ze3,zev,zew,zf5,zf6,zf7,zf8,zf9,zfb,zfg,zfm,zfo,zfp,zfq,zfr,zfs,zft,zfu,zfv,zfw,zfx,zfy,zfz,zg0,zg1,zhd,zhe,zhf,zhm,zje, a0]; all_goals tactic => exact rfl))
      · exact rd
      · rcases m3 with ⟨rfl, e⟩ | ⟨m3, m4, e⟩
        · (sym => (simp [z00,z01,z05,z07,z0b,z0c,z0f,z0n,z0v,z0z,z15,z18,z1f,z1j,z26,z2b,z2f,z2g,z2h,z2j,z2t,z2v,z33,z34,z3h,z3j,z4l,z4q,z4s,z55,z66,z6b,z6d,z6p,z7r,z7w,z9d,z9e,z9g,z9n,z9p,z9r,z9v,z9w,z9y,za0,za1,za3,za6,za7,za8,za9,zae,zaf,zal,zba,zbt,zbu,zbw,zbx,zby,zbz,zc0,zc3,zc4,zc5,zc6,zc8,zca,zcc,zcd,zce,zcf,zcg,zch,zci,zcj,zcn,zco,zcq,zcr,zct,zcu,zcv,zcw,zcx,zcy,zd3,zd6,zd7,zdd,zdj,zdk,zdl,zds,zdt,zdu,zdv,zdw,zdx,ze2,ze3,zev,zew,zf5,zf6,zf7,zf8,zf9,zfb,zfg,zfm,zfo,zfp,zfq,zfr,zfs,zft,zfu,zfv,zfw,zfx,zfy,zfz,zg0,zg1,zhd,zhe,zhf,zhm,zje, z]; all_goals tactic => exact rfl))
        · obtain ⟨eo, ho, q1, q2⟩ := lf m3
          dsimp only at q1
          rw [q1]
          rfl
end Go.Proofs.YtpbeclkpohehgaaDoor
namespace Go.Proofs.YtpbeclkpohehgaaDoor
open Go Go.DL
set_option maxRecDepth 100000
set_option maxHeartbeats 2000000

def ldE (nk : Nat) (x : Ld) : Int := if btw 0 x.k ((nk : Int) - 1) then (if inS x.al x.ah 0 100000 && inS x.cl x.ch 1 10000 then 0 else 2) else 18
def ldEr (l : Li) (i : Nat) : Int := ldE l.ks.length (l.ls.getD i ⟨0, 0, 0, 0, 0⟩)
/-- The error of a line. -/
def checkL (l : Li) : Int := if kindsE l.ks = 0 then (if 10 < l.ls.length then 1 else if firstN (ldEr l) l.ls.length = 0 then (if tracksE l.ls.length l.ts = 0 then (if inS l.lo l.hi 0 100000 then 0 else 2) else tracksE l.ls.length l.ts) else firstN (ldEr l) l.ls.length) else kindsE l.ks
/-- Lists of a length that a machine can have. -/
structure Li.Fit (l : Li) : Prop where
  ts : l.ts.length ≤ 9223372036854775807
  each : ∀ t ∈ l.ts, t.length ≤ 9223372036854775807
theorem ldE_of (nk : Nat) (x : Ld) : (btw 0 x.k ((nk : Int) - 1) = true ∧ inS x.al x.ah 0 100000 = true ∧ inS x.cl x.ch 1 10000 = true ∧ ldE nk x = 0) ∨ (btw 0 x.k ((nk : Int) - 1) = true ∧ inS x.al x.ah 0 100000 = true ∧ inS x.cl x.ch 1 10000 = false ∧ ldE nk x = 2) ∨
    (btw 0 x.k ((nk : Int) - 1) = true ∧ inS x.al x.ah 0 100000 = false ∧ ldE nk x = 2) ∨ (btw 0 x.k ((nk : Int) - 1) = false ∧ ldE nk x = 18) := by
  unfold ldE
  cases btw 0 x.k ((nk : Int) - 1)
  · simp
  cases inS x.al x.ah 0 100000
  · simp
  cases inS x.cl x.ch 1 10000 <;> simp

section
variable {l : Li}
theorem round22a (hn : l.ks.length ≤ 6) {i : Nat} (hi : i < l.ks.length) (he : chkD (l.ks.getD i []) = 0) :
    headX 0 [1, 14, 15, 16] (execW progX 22 0 none (match x22l0 with | .loop _ a => a | c => c) (envL [1, 14, 15, 16] [.pt 0 0, kR l.ks, I l.ks.length, I (i : Nat)]) (hL l)) = some ([.pt 0 0, kR l.ks, I l.ks.length, I (i + 1 : Nat)], hL l) := by
  obtain ⟨k, hk⟩ := at_ix hi
  rw [getD_of hk] at he
  have a1 := lt_ix hi
  have a2 := up_ix hi (by omega)
  have e := w57 k
  rw [he] at e
  unfold x22l0
  dsimp only
  (sym => (simp [z00,z01,z05,z06,z07,z09,z0b,z0c,z0n,z0v,z15,z1j,z1r,z1u,z20,z21,z2g,z2h,z2j,z2u,z2v,z33,z34,z4l,z4q,z4t,z66,z6b,z6e,z6u,z7w,z9d,z9m,z9p,z9r,z9v,z9w,z9y,za0,za1,za2,za3,za5,za6,za7,za8,za9,zaa,zab,zae,zaf,zal,zaq,zas,zat,zba,zbc,zbd,zbe,zca,zcc,zcd,zce,zcf,zcg,zcn,zco,zcq,zcr,zct,zcu,zcv,zcw,zcx,zcy,zd6,zdd,zdj,zdk,zdo,zds,zdt,zdu,zdv,zf8,zf9,zfb,zfm,zfo,zfq,zfs,zft,zfw,zfz,zg0,zg1,zhf,zje,zkn,zko,zkq, a1, a2, hk, e]; all_goals tactic => exact rfl))
theorem left22a (hn : l.ks.length ≤ 6) {i : Nat} (hi : i < l.ks.length) (he : chkD (l.ks.getD i []) ≠ 0) :
    ∃ e h, execW progX 22 0 none (match x22l0 with | .loop _ a => a | c => c) (envL [1, 14, 15, 16] [.pt 0 0, kR l.ks, I l.ks.length, I (i : Nat)]) (hL l) = some (.ret, e, h) ∧ retX [(2, none)] false 0 (some (.ret, e, h)) = some (I (chkD (l.ks.getD i [])), []) := by
  obtain ⟨k, hk⟩ := at_ix hi
  rw [getD_of hk] at he ⊢
  have a1 := lt_ix hi
  have e := w57 k
  generalize chkD k = v at *
  have g := eq_false he
  refine ret_of ?_ ?_
  all_goals unfold x22l0
  all_goals dsimp only
  all_goals (sym => (simp [z00,z01,z05,z06,z07,z09,z0b,z0c,z0n,z0v,z15,z1j,z1r,z1u,z20,z21,z2g,z2h,z2u,z2v,z33,z34,z4l,z4q,z66,z6b,z6p,z6u,z7r,z7w,z9m,z9p,z9y,za2,za3,za5,za6,za7,za8,zaa,zab,zaq,zas,zat,zba,zbc,zbd,zbe,zbt,zbu,zbw,zbx,zby,zbz,zc0,zc3,zc4,zc5,zc6,zca,zce,zcf,zci,zcn,zco,zcq,zcr,zct,zcu,zcv,zcw,zcx,zcy,zd7,zdd,zdk,zdl,zdo,zds,zdt,zdu,zdv,zf8,zf9,zfb,zfm,zfo,zfp,zfq,zfs,zft,zfv,zfx,zg0,zg1,zje,zkn,zko,zkq, a1, hk, e, g]; all_goals tactic => exact rfl))
theorem round22b (hn : l.ls.length ≤ 10) (hk : l.ks.length ≤ 6) {i : Nat} (hi : i < l.ls.length) (he : ldEr l i = 0) :
    headX 0 [1, 31, 32, 33] (execW progX 22 0 none (match x22l1 with | .loop _ a => a | c => c) (envL [1, 31, 32, 33] [.pt 0 0, lR l.ls, I l.ls.length, I (i : Nat)]) (hL l)) = some ([.pt 0 0, lR l.ls, I l.ls.length, I (i + 1 : Nat)], hL l) := by
  obtain ⟨x, hx⟩ := at_ix hi
  unfold ldEr at he
  rw [getD_of hx] at he
  have a1 := lt_ix hi
  have a2 := up_ix hi (by omega)
  have a3 : IntKind.i64.wrap ((l.ks.length : Int) - 1) = (l.ks.length : Int) - 1 := wrap_ok (by omega) (by omega)
  rcases ldE_of l.ks.length x with ⟨h1, h2, h3, h4⟩ | ⟨_, _, _, h4⟩ | ⟨_, _, h4⟩ | ⟨_, h4⟩
  · unfold x22l1
    dsimp only
    (sym => (simp [z00,z01,z02,z05,z06,z07,z09,z0b,z0c,z0h,z0j,z0n,z0o,z0q,z0v,z0z,z12,z15,z1f,z1j,z1n,z1o,z1r,z1u,z20,z21,z23,z26,z29,z2b,z2g,z2h,z2j,z2k,z2v,z33,z34,z4l,z4o,z4q,z4t,z54,z66,z67,z69,z6b,z6e,z8d,z9d,z9e,z9g,z9i,z9j,z9k,z9l,z9m,z9p,z9r,z9v,z9w,z9y,za0,za1,za2,za3,za5,za6,za7,za8,za9,zaa,zab,zae,zaf,zal,zaq,zas,zat,zba,zbc,zbd,zbf,zbg,zbk,zca,zcc,zcd,zce,zcf,zcg,zcn,zco,zcp,zcq,zcr,zct,zcu,zcv,zcw,zcx,zcy,zd3,zd6,zdd,zdj,zdk,zdo,zds,zdt,zdu,zdv,zdw,zdx,ze9,zf6,zf7,zf8,zf9,zfa,zfb,zfc,zfd,zfm,zfo,zfq,zfs,zft,zfw,zfz,zg0,zg1,zhf,zkn,zko,zkp, a1, a2, a3, hx, w58, w59, h1, h2, h3]; all_goals tactic => exact rfl))
  all_goals (rw [h4] at he; simp at he)
theorem left22b (hn : l.ls.length ≤ 10) (hk : l.ks.length ≤ 6) {i : Nat} (hi : i < l.ls.length) (he : ldEr l i ≠ 0) :
    ∃ e h, execW progX 22 0 none (match x22l1 with | .loop _ a => a | c => c) (envL [1, 31, 32, 33] [.pt 0 0, lR l.ls, I l.ls.length, I (i : Nat)]) (hL l) = some (.ret, e, h) ∧ retX [(2, none)] false 0 (some (.ret, e, h)) = some (I (ldEr l i), []) := by
  obtain ⟨x, hx⟩ := at_ix hi
  unfold ldEr at he ⊢
  rw [getD_of hx] at he ⊢
  have a1 := lt_ix hi
  have a3 : IntKind.i64.wrap ((l.ks.length : Int) - 1) = (l.ks.length : Int) - 1 := wrap_ok (by omega) (by omega)
  have h1 := pad
  have h2 := pad
  have h3 := pad
  refine ret_of ?_ ?_
  all_goals unfold x22l1
  all_goals dsimp only
  all_goals rcases ldE_of l.ks.length x with ⟨h1, h2, h3, h4⟩ | ⟨h1, h2, h3, h4⟩ | ⟨h1, h2, h4⟩ | ⟨h1, h4⟩
  all_goals first | exact absurd h4 he | skip
  all_goals try rw [h4]
  all_goals (sym => (simp [z00,z01,z02,z05,z06,z07,z09,z0b,z0c,z0h,z0j,z0l,z0n,z0o,z0q,z0v,z0z,z12,z15,z1f,z1j,z1n,z1o,z1r,z1u,z20,z21,z22,z23,z26,z29,z2b,z2g,z2h,z2k,z2v,z33,z34,z4l,z4o,z54,z66,z67,z69,z6p,z7r,z8d,z9d,z9e,z9g,z9i,z9j,z9k,z9l,z9m,z9p,z9y,za2,za3,za5,za6,za7,za8,zaa,zab,zaq,zas,zat,zba,zbc,zbd,zbf,zbg,zbk,zbt,zbu,zbw,zbx,zby,zbz,zc0,zc3,zc4,zc5,zc6,zca,zce,zcf,zcg,zci,zcn,zco,zcp,zcq,zcr,zct,zcu,zcv,zcw,zcx,zcy,zd3,zd6,zd7,zdd,zdk,zdo,zds,zdt,zdu,zdv,zdw,zdx,ze9,zf6,zf7,zf8,zf9,zfa,zfb,zfc,zfd,zfm,zfo,zfp,zfq,zfs,zft,zfv,zfx,zg0,zg1,zje,zkn,zko,zkp, a1, a3, hx, w58, w59, h1, h2, h3]; all_goals tactic => exact rfl))
end
/-- The loop over kinds: what it comes to. -/
theorem w22 (l : Li) (hf : l.Fit) : runW progX 22 [.agg l.c] [] = some (I (checkL l), []) := by
  rw [r22 (by simp)]; unfold x22; dsimp only
  unfold checkL kindsE
  by_cases h6 : 6 < l.ks.length
  · have g6 : ((6 : Int) < (l.ks.length : Int)) = True := eq_true (by omega)
    simp only [if_pos h6]
    rw [if_neg (show ¬ (1 : Int) = 0 by decide)]
    (sym => (simp [z00,z01,z05,z06,z07,z09,z0b,z0c,z0f,z0n,z0r,z0v,z0z,z12,z1f,z1j,z1r,z1u,z20,z21,z26,z29,z2b,z2u,z2v,z2x,z3h,z4l,z4o,z4q,z4t,z54,z57,z59,z66,z67,z69,z6b,z6e,z6p,z7r,z7u,z7w,z8d,z9d,z9e,z9g,z9j,z9k,z9l,z9m,z9n,z9p,z9r,z9v,z9w,z9y,za0,za1,za2,za3,za5,za6,za7,za8,za9,zaa,zab,zae,zaf,zal,zaq,zas,zat,zba,zbc,zbd,zbf,zbg,zbk,zbt,zbu,zbw,zbx,zby,zbz,zc0,zc3,zc4,zc5,zc6,zc8,zca,zcc,zcd,zce,zcf,zcg,zch,zcj,zcn,zco,zcq,zcr,zct,zcu,zcv,zcw,zcy,zd3,zd6,zd7,zdj,zdk,zdl,zdo,zds,zdt,zdu,zdv,zdw,zdx,ze2,ze3,zeo,zep,zf5,zf6,zf7,zfa,zfb,zfg,zfm,zfo,zfp,zfq,zfr,zfs,zft,zfu,zfv,zfy,zfz,zg0,zg1,zhf,zje,zkn,zko,zkp, g6]; all_goals tactic => exact rfl))
  simp only [if_neg h6]
  have g6 : ((6 : Int) < (l.ks.length : Int)) = False := eq_false (by omega)
  have z := zf5 (n := (l.ks.length : Int))
  have z2 := zf5 (n := (l.ls.length : Int))
  obtain ⟨m, m1, m2, m3⟩ := firstN_ix (fun t => chkD (l.ks.getD t [])) l.ks.length
  rcases m3 with ⟨rfl, e⟩ | ⟨m3, m4, e⟩
  · rw [e, if_pos rfl]
    sym =>
      simp [z00,z01,z05,z06,z07,z09,z0b,z0c,z0f,z0n,z0r,z0v,z0z,z12,z1f,z1j,z1r,z1u,z20,z21,z26,z29,z2b,z2u,z2v,z2x,z3h,z4l,z4o,z4q,z4t,z54,z57,z59,z66,z67,z69,z6b,z6e,z6p,z7r,z7u,z7w,z8d,z9d,z9e,z9g,z9j,z9k,z9l,z9m,z9n,z9p,z9r,z9v,z9w,z9y,za0,za1,za2,za3,za5,za6,za7,za8,za9,zaa,zab,zae,zaf,zal,zaq,zas,zat,zba,zbc,zbd,zbf,zbg,zbk,zbt,zbu,zbw,zbx,zby,zbz,zc0,zc3,zc4,zc5,zc6,zc8,zca,zcc,zcd,zce,zcf,zcg,zch,zcj,zcn,zco,zcq,zcr,zct,zcu,zcv,zcw,zcy,zd3,zd6,zd7,zdj,zdk,zdl,zdo,zds,zdt,zdu,zdv,zdw,zdx,ze2,ze3,zeo,zep,zf5,zf6,zf7,zfa,zfb,zfg,zfm,zfo,zfp,zfq,zfr,zfs,zft,zfu,zfv,zfy,zfz,zg0,zg1,zhf,zje,zkn,zko,zkp, g6]
      tactic =>
        unfold x22l0
        rw [loop_rule l.ks.length (fun i => [.pt 0 0, kR l.ks, I l.ks.length, I (i : Nat)]) (fun _ => hL l)]
        · by_cases h10 : 10 < l.ls.length
          · rw [if_pos h10]
            have h10 : ((10 : Int) < (l.ls.length : Int)) = True := eq_true (by omega)
            (sym => (simp [z00,z01,z05,z06,z07,z09,z0b,z0c,z0f,z0n,z0r,z0v,z0z,z12,z1f,z1j,z1r,z1u,z20,z21,z26,z29,z2b,z2u,z2v,z2x,z3h,z4l,z4o,z4q,z4t,z54,z57,z59,z66,z67,z69,z6b,z6e,z6p,z7r,z7u,z7w,z8d,z9d,z9e,z9g,z9j,z9k,z9l,z9m,z9n,z9p,z9r,z9v,z9w,z9y,za0,za1,za2,za3,za5,za6,za7,za8,za9,zaa,zab,zae,zaf,zal,zaq,zas,zat,zba,zbc,zbd,zbf,zbg,zbk,zbt,zbu,zbw,zbx,zby,zbz,zc0,zc3,zc4,zc5,zc6,zc8,zca,zcc,zcd,zce,zcf,zcg,zch,zcj,zcn,zco,zcq,zcr,zct,zcu,zcv,zcw,zcy,zd3,zd6,zd7,zdj,zdk,zdl,zdo,zds,zdt,zdu,zdv,zdw,zdx,ze2,ze3,zeo,zep,zf5,zf6,zf7,zfa,zfb,zfg,zfm,zfo,zfp,zfq,zfr,zfs,zft,zfu,zfv,zfy,zfz,zg0,zg1,zhf,zje,zkn,zko,zkp, z, h10]; all_goals tactic => exact rfl))
          rw [if_neg h10]
          have g10 : ((10 : Int) < (l.ls.length : Int)) = False := eq_false (by omega)
          obtain ⟨q, q1, q2, q3⟩ := firstN_ix (ldEr l) l.ls.length
          sym =>
            simp [z00,z01,z05,z06,z07,z09,z0b,z0c,z0f,z0n,z0r,z0v,z0z,z12,z1f,z1j,z1r,z1u,z20,z21,z26,z29,z2b,z2u,z2v,z2x,z3h,z4l,z4o,z4q,z4t,z54,z57,z59,z66,z67,z69,z6b,z6e,z6p,z7r,z7u,z7w,z8d,z9d,z9e,z9g,z9j,z9k,z9l,z9m,z9n,z9p,z9r,z9v,z9w,z9y,za0,za1,za2,za3,za5,za6,za7,za8,za9,zaa,zab,zae,zaf,zal,zaq,zas,zat,zba,zbc,zbd,zbf,zbg,zbk,zbt,zbu,zbw,zbx,zby,zbz,zc0,zc3,zc4,zc5,zc6,zc8,zca,zcc,zcd,zce,zcf,zcg,zch,zcj,zcn,zco,zcq,zcr,zct,zcu,zcv,zcw,zcy,zd3,zd6,zd7,zdj,zdk,zdl,zdo,zds,zdt,zdu,zdv,zdw,zdx,ze2,ze3,zeo,zep,zf5,zf6,zf7,zfa,zfb,zfg,zfm,zfo,zfp,zfq,zfr,zfs,zft,zfu,zfv,zfy,zfz,zg0,zg1,zhf,zje,zkn,zko,zkp, z, g10]
            tactic =>
              unfold x22l1
              rw [loop_rule q (fun i => [.pt 0 0, lR l.ls, I l.ls.length, I (i : Nat)]) (fun _ => hL l)]
              · rcases q3 with ⟨rfl, eq⟩ | ⟨q3, q4, eq⟩
                · rw [eq, if_pos rfl]
                  have e60 := w60 l (by omega) hf.ts hf.each
                  by_cases ht : tracksE l.ls.length l.ts = 0
                  · rw [if_pos ht]
                    rw [ht] at e60
                    cases hs : inS l.lo l.hi 0 100000
                    · (sym => (simp [z00,z01,z05,z06,z07,z09,z0b,z0c,z0f,z0n,z0r,z0v,z0z,z12,z1f,z1j,z1r,z1u,z20,z21,z26,z29,z2b,z2u,z2v,z2x,z3h,z4l,z4o,z4q,z4t,z54,z57,z59,z66,z67,z69,z6b,z6e,z6p,z7r,z7u,z7w,z8d,z9d,z9e,z9g,z9j,z9k,z9l,z9m,z9n,z9p,z9r,z9v,z9w,z9y,za0,za1,za2,za3,za5,za6,za7,za8,za9,zaa,zab,zae,zaf,zal,zaq,zas,zat,zba,zbc,zbd,zbf,zbg,zbk,zbt,zbu,zbw,zbx,zby,zbz,zc0,zc3,zc4,zc5,zc6,zc8,zca,zcc,zcd,zce,zcf,zcg,zch,zcj,zcn,zco,zcq,zcr,zct,zcu,zcv,zcw,zcy,zd3,zd6,zd7,zdj,zdk,zdl,zdo,zds,zdt,zdu,zdv,zdw,zdx,ze2,ze3,zeo,zep,zf5,zf6,zf7,zfa,zfb,zfg,zfm,zfo,zfp,zfq,zfr,zfs,zft,zfu,zfv,zfy,zfz,zg0,zg1,zhf,zje,zkn,zko,zkp, z2, e60, w59, hs]; all_goals tactic => exact rfl))
                    · (sym => (simp [z00,z01,z05,z06,z07,z09,z0b,z0c,z0f,z0n,z0r,z0v,z0z,z12,z1f,z1j,z1r,z1u,z20,z21,z26,z29,z2b,z2u,z2v,z2x,z3h,z4l,z4o,z4q,z4t,z54,z57,z59,z66,z67,z69,z6b,z6e,z6p,z7r,z7u,z7w,z8d,z9d,z9e,z9g,z9j,z9k,z9l,z9m,z9n,z9p,z9r,z9v,z9w,z9y,za0,za1,za2,za3,za5,za6,za7,za8,za9,zaa,zab,zae,zaf,zal,zaq,zas,zat,zba,zbc,zbd,zbf,zbg,zbk,zbt,zbu,zbw,zbx,zby,zbz,zc0,zc3,zc4,zc5,zc6,zc8,zca,zcc,zcd,zce,zcf,zcg,zch,zcj,zcn,zco,zcq,zcr,zct,zcu,zcv,zcw,zcy,zd3,zd6,zd7,zdj,zdk,zdl,zdo,zds,zdt,zdu,zdv,zdw,zdx,ze2,ze3,zeo,zep,zf5,zf6,zf7,zfa,zfb,zfg,zfm,zfo,zfp,zfq,zfr,zfs,zft,zfu,zfv,zfy,zfz,zg0,zg1,zhf,zje,zkn,zko,zkp, z2, e60, w59, hs]; all_goals tactic => exact rfl))
                  · rw [if_neg ht]
                    have gt := eq_false ht
                    (sym => (simp [z00,z01,z05,z06,z07,z09,z0b,z0c,z0f,z0n,z0r,z0v,z0z,z12,z1f,z1j,z1r,z1u,z20,z21,z26,z29,z2b,z2u,z2v,z2x,z3h,z4l,z4o,z4q,z4t,z54,z57,z59,z66,z67,z69,z6b,z6e,z6p,z7r,z7u,z7w,z8d,z9d,z9e,z9g,z9j,z9k,z9l,z9m,z9n,z9p,z9r,z9v,z9w,z9y,za0,za1,za2,za3,za5,za6,za7,za8,za9,zaa,zab,zae,zaf,zal,zaq,zas,zat,zba,zbc,zbd,zbf,zbg,zbk,zbt,zbu,zbw,zbx,zby,zbz,zc0,zc3,zc4,zc5,zc6,zc8,zca,zcc,zcd,zce,zcf,zcg,zch,zcj,zcn,zco,zcq,zcr,zct,zcu,zcv,zcw,zcy,zd3,zd6,zd7,zdj,zdk,zdl,zdo,zds,zdt,zdu,zdv,zdw,zdx,ze2,ze3,zeo,zep,zf5,zf6,zf7,zfa,zfb,zfg,zfm,zfo,zfp,zfq,zfr,zfs,zft,zfu,zfv,zfy,zfz,zg0,zg1,zhf,zje,zkn,zko,zkp, z2, e60, gt]; all_goals tactic => exact rfl))
                · rw [eq, if_neg q4]
                  obtain ⟨eo, ho, p1, p2⟩ := left22b (by omega) (by omega) q3 q4
                  unfold x22l1 at p1
                  dsimp only at p1
                  rw [p1]
                  exact p2
              · (sym => (simp [z00,z01,z05,z06,z07,z09,z0b,z0c,z0f,z0n,z0r,z0v,z0z,z12,z1f,z1j,z1r,z1u,z20,z21,z26,z29,z2b,z2u,z2v,z2x,z3h,z4l,z4o,z4q,z4t,z54,z57,z59,z66,z67,z69,z6b,z6e,z6p,z7r,z7u,z7w,z8d,z9d,z9e,z9g,z9j,z9k,z9l,z9m,z9n,z9p,z9r,z9v,z9w,z9y,za0,za1,za2,za3,za5,za6,za7,za8,za9,zaa,zab,zae,zaf,zal,zaq,zas,zat,zba,zbc,zbd,zbf,zbg,zbk,zbt,zbu,zbw,zbx,zby,zbz,zc0,zc3,zc4,zc5,zc6,zc8,zca,zcc,zcd,zce,zcf,zcg,zch,zcj,zcn,zco,zcq,zcr,zct,zcu,zcv,zcw,zcy,zd3,zd6,zd7,zdj,zdk,zdl,zdo,zds,zdt,zdu,zdv,zdw,zdx,ze2,ze3,zeo,zep,zf5,zf6,zf7,zfa,zfb,zfg,zfm,zfo,zfp,zfq,zfr,zfs,zft,zfu,zfv,zfy,zfz,zg0,zg1,zhf,zje,zkn,zko,zkp]; all_goals tactic => exact rfl))
              · intro i hi
                exact round22b (by omega) (by omega) (by omega) (q2 i hi)
              · rcases q3 with ⟨rfl, eq⟩ | ⟨q3, q4, eq⟩
                · (sym => (simp [z00,z01,z05,z06,z07,z09,z0b,z0c,z0f,z0n,z0r,z0v,z0z,z12,z1f,z1j,z1r,z1u,z20,z21,z26,z29,z2b,z2u,z2v,z2x,z3h,z4l,z4o,z4q,z4t,z54,z57,z59,z66,z67,z69,z6b,z6e,z6p,z7r,z7u,z7w,z8d,z9d,z9e,z9g,z9j,z9k,z9l,z9m,z9n,z9p,z9r,z9v,z9w,z9y,za0,za1,za2,za3,za5,za6,za7,za8,za9,zaa,zab,zae,zaf,zal,zaq,zas,zat,zba,zbc,zbd,zbf,zbg,zbk,zbt,zbu,zbw,zbx,zby,zbz,zc0,zc3,zc4,zc5,zc6,zc8,zca,zcc,zcd,zce,zcf,zcg,zch,zcj,zcn,zco,zcq,zcr,zct,zcu,zcv,zcw,zcy,zd3,zd6,zd7,zdj,zdk,zdl,zdo,zds,zdt,zdu,zdv,zdw,zdx,ze2,ze3,zeo,zep,zf5,zf6,zf7,zfa,zfb,zfg,zfm,zfo,zfp,zfq,zfr,zfs,zft,zfu,zfv,zfy,zfz,zg0,zg1,zhf,zje,zkn,zko,zkp, z2]; all_goals tactic => exact rfl))
                · obtain ⟨eo, ho, p1, p2⟩ := left22b (by omega) (by omega) q3 q4
                  unfold x22l1 at p1
                  dsimp only at p1
                  rw [p1]
                  rfl
        · (sym => (simp [z00,z01,z05,z06,z07,z09,z0b,z0c,z0f,z0n,z0r,z0v,z0z,z12,z1f,z1j,z1r,z1u,z20,z21,z26,z29,z2b,z2u,z2v,z2x,z3h,z4l,z4o,z4q,z4t,z54,z57,z59,z66,z67,z69,z6b,z6e,z6p,z7r,z7u,z7w,z8d,z9d,z9e,z9g,z9j,z9k,z9l,z9m,z9n,z9p,z9r,z9v,z9w,z9y,za0,za1,za2,za3,za5,za6,za7,za8,za9,zaa,zab,zae,zaf,zal,zaq,zas,zat,zba,zbc,zbd,zbf,zbg,zbk,zbt,zbu,zbw,zbx,zby,zbz,zc0,zc3,zc4,zc5,zc6,zc8,zca,zcc,zcd,zce,zcf,zcg,zch,zcj,zcn,zco,zcq,zcr,zct,zcu,zcv,zcw,zcy,zd3,zd6,zd7,zdj,zdk,zdl,zdo,zds,zdt,zdu,zdv,zdw,zdx,ze2,ze3,zeo,zep,zf5,zf6,zf7,zfa,zfb,zfg,zfm,zfo,zfp,zfq,zfr,zfs,zft,zfu,zfv,zfy,zfz,zg0,zg1,zhf,zje,zkn,zko,zkp]; all_goals tactic => exact rfl))
        · intro i hi
          exact round22a (by omega) hi (m2 i hi)
        · (sym => (simp [z00,z01,z05,z06,z07,z09,z0b,z0c,z0f,z0n,z0r,z0v,z0z,z12,z1f,z1j,z1r,z1u,z20,z21,z26,z29,z2b,z2u,z2v,z2x,z3h,z4l,z4o,z4q,z4t,z54,z57,z59,z66,z67,z69,z6b,z6e,z6p,z7r,z7u,z7w,z8d,z9d,z9e,z9g,z9j,z9k,z9l,z9m,z9n,z9p,z9r,z9v,z9w,z9y,za0,za1,za2,za3,za5,za6,za7,za8,za9,zaa,zab,zae,zaf,zal,zaq,zas,zat,zba,zbc,zbd,zbf,zbg,zbk,zbt,zbu,zbw,zbx,zby,zbz,zc0,zc3,zc4,zc5,zc6,zc8,zca,zcc,zcd,zce,zcf,zcg,zch,zcj,zcn,zco,zcq,zcr,zct,zcu,zcv,zcw,zcy,zd3,zd6,zd7,zdj,zdk,zdl,zdo,zds,zdt,zdu,zdv,zdw,zdx,ze2,ze3,zeo,zep,zf5,zf6,zf7,zfa,zfb,zfg,zfm,zfo,zfp,zfq,zfr,zfs,zft,zfu,zfv,zfy,zfz,zg0,zg1,zhf,zje,zkn,zko,zkp, z]; all_goals tactic => exact rfl))
  · rw [e, if_neg m4]
    obtain ⟨eo, ho, p1, p2⟩ := left22a (by omega) m3 m4
    sym =>
      simp [z00,z01,z05,z06,z07,z09,z0b,z0c,z0f,z0n,z0r,z0v,z0z,z12,z1f,z1j,z1r,z1u,z20,z21,z26,z29,z2b,z2u,z2v,z2x,z3h,z4l,z4o,z4q,z4t,z54,z57,z59,z66,z67,z69,z6b,z6e,z6p,z7r,z7u,z7w,z8d,z9d,z9e,z9g,z9j,z9k,z9l,z9m,z9n,z9p,z9r,z9v,z9w,z9y,za0,za1,za2,za3,za5,za6,za7,za8,za9,zaa,zab,zae,zaf,zal,zaq,zas,zat,zba,zbc,zbd,zbf,zbg,zbk,zbt,zbu,zbw,zbx,zby,zbz,zc0,zc3,zc4,zc5,zc6,zc8,zca,zcc,zcd,zce,zcf,zcg,zch,zcj,zcn,zco,zcq,zcr,zct,zcu,zcv,zcw,zcy,zd3,zd6,zd7,zdj,zdk,zdl,zdo,zds,zdt,zdu,zdv,zdw,zdx,ze2,ze3,zeo,zep,zf5,zf6,zf7,zfa,zfb,zfg,zfm,zfo,zfp,zfq,zfr,zfs,zft,zfu,zfv,zfy,zfz,zg0,zg1,zhf,zje,zkn,zko,zkp, g6]
      tactic =>
        unfold x22l0 at p1 ⊢
        dsimp only at p1
        rw [loop_rule m (fun i => [.pt 0 0, kR l.ks, I l.ks.length, I (i : Nat)]) (fun _ => hL l)]
        · rw [p1]
          exact p2
        · (sym => (simp [z00,z01,z05,z06,z07,z09,z0b,z0c,z0f,z0n,z0r,z0v,z0z,z12,z1f,z1j,z1r,z1u,z20,z21,z26,z29,z2b,z2u,z2v,z2x,z3h,z4l,z4o,z4q,z4t,z54,z57,z59,z66,z67,z69,z6b,z6e,z6p,z7r,z7u,z7w,z8d,z9d,z9e,z9g,z9j,z9k,z9l,z9m,z9n,z9p,z9r,z9v,z9w,z9y,za0,za1,za2,za3,za5,za6,za7,za8,za9,zaa,zab,zae,zaf,zal,zaq,zas,zat,zba,zbc,zbd,zbf,zbg,zbk,zbt,zbu,zbw,zbx,zby,zbz,zc0,zc3,zc4,zc5,zc6,zc8,zca,zcc,zcd,zce,zcf,zcg,zch,zcj,zcn,zco,zcq,zcr,zct,zcu,zcv,zcw,zcy,zd3,zd6,zd7,zdj,zdk,zdl,zdo,zds,zdt,zdu,zdv,zdw,zdx,ze2,ze3,zeo,zep,zf5,zf6,zf7,zfa,zfb,zfg,zfm,zfo,zfp,zfq,zfr,zfs,zft,zfu,zfv,zfy,zfz,zg0,zg1,zhf,zje,zkn,zko,zkp]; all_goals tactic => exact rfl))
        · intro i hi
          exact round22a (by omega) (by omega) (m2 i hi)
        · rw [p1]
          rfl
/-! ### As the reference has it -/
section
variable {l : Li}
theorem round23 (hn : l.ls.length ≤ 10) (hk : l.ks.length ≤ 6) {i : Nat} (hi : i < l.ls.length) (he : ldEr l i = 0) :
    headX 0 [1, 4] (execW progX 23 0 none (match x23l0 with | .loop _ a => a | c => c) (envL [1, 4] [.pt 0 0, I (i : Nat)]) (hL l)) = some ([.pt 0 0, I (i + 1 : Nat)], hL l) := by
  obtain ⟨x, hx⟩ := at_ix hi
  unfold ldEr at he
  rw [getD_of hx] at he
  have a1 := lt_ix hi
  have a2 := up_ix hi (by omega)
  have a3 : IntKind.i64.wrap ((l.ks.length : Int) - 1) = (l.ks.length : Int) - 1 := wrap_ok (by omega) (by omega)
  rcases ldE_of l.ks.length x with ⟨h1, h2, h3, h4⟩ | ⟨_, _, _, h4⟩ | ⟨_, _, h4⟩ | ⟨_, h4⟩
  · unfold x23l0
    dsimp only
    (sym => (simp [z00,z01,z02,z05,z06,z07,z09,z0b,z0c,z0h,z0j,z0n,z0o,z0q,z0v,z0z,z12,z15,z1f,z1j,z1n,z1o,z1r,z1u,z20,z21,z23,z26,z29,z2b,z2g,z2h,z2j,z2k,z2v,z33,z34,z4l,z4o,z4t,z54,z66,z67,z69,z6e,z8d,z9d,z9e,z9g,z9i,z9j,z9k,z9l,z9m,z9p,z9r,z9v,z9w,z9y,za0,za1,za2,za3,za5,za6,za7,za8,za9,zaa,zab,zae,zaf,zal,zaq,zas,zat,zba,zbc,zbd,zbf,zbg,zbk,zca,zcc,zcd,zce,zcf,zcg,zcn,zco,zcp,zcq,zcr,zct,zcu,zcv,zcw,zcx,zcy,zd3,zd6,zdd,zdj,zdk,zdo,zds,zdt,zdu,zdv,zdw,zdx,ze9,zf6,zf7,zf8,zf9,zfa,zfb,zfc,zfd,zfm,zfo,zfq,zfs,zft,zfw,zfz,zg0,zg1,zhf,zkn,zko,zkp, a1, a2, a3, hx, w62, w63, h1, h2, h3]; all_goals tactic => exact rfl))
  all_goals (rw [h4] at he; simp at he)
theorem left23 (hn : l.ls.length ≤ 10) (hk : l.ks.length ≤ 6) {i : Nat} (hi : i < l.ls.length) (he : ldEr l i ≠ 0) :
    ∃ e h, execW progX 23 0 none (match x23l0 with | .loop _ a => a | c => c) (envL [1, 4] [.pt 0 0, I (i : Nat)]) (hL l) = some (.ret, e, h) ∧ retX [(2, none)] false 0 (some (.ret, e, h)) = some (I (ldEr l i), []) := by
  obtain ⟨x, hx⟩ := at_ix hi
  unfold ldEr at he ⊢
  rw [getD_of hx] at he ⊢
  have a1 := lt_ix hi
  have a3 : IntKind.i64.wrap ((l.ks.length : Int) - 1) = (l.ks.length : Int) - 1 := wrap_ok (by omega) (by omega)
  have h1 := pad
  have h2 := pad
  have h3 := pad
  refine ret_of ?_ ?_
  all_goals unfold x23l0
  all_goals dsimp only
  all_goals rcases ldE_of l.ks.length x with ⟨h1, h2, h3, h4⟩ | ⟨h1, h2, h3, h4⟩ | ⟨h1, h2, h4⟩ | ⟨h1, h4⟩
  all_goals first | exact absurd h4 he | skip
  all_goals try rw [h4]
  all_goals (sym => (simp [z00,z01,z02,z05,z06,z07,z09,z0b,z0c,z0h,z0j,z0l,z0n,z0o,z0q,z0v,z0z,z12,z15,z1f,z1j,z1n,z1o,z1r,z1u,z20,z21,z22,z23,z26,z29,z2b,z2g,z2h,z2k,z2v,z33,z34,z4l,z4o,z54,z66,z67,z69,z6p,z7r,z8d,z9d,z9e,z9g,z9i,z9j,z9k,z9l,z9m,z9p,z9y,za2,za3,za5,za6,za7,za8,zaa,zab,zaq,zas,zat,zba,zbc,zbd,zbf,zbg,zbk,zbt,zbu,zbw,zbx,zby,zbz,zc0,zc3,zc4,zc5,zc6,zca,zce,zcf,zcg,zci,zcn,zco,zcp,zcq,zcr,zct,zcu,zcv,zcw,zcx,zcy,zd3,zd6,zd7,zdd,zdk,zdo,zds,zdt,zdu,zdv,zdw,zdx,ze9,zf6,zf7,zf8,zf9,zfa,zfb,zfc,zfd,zfm,zfo,zfp,zfq,zfs,zft,zfv,zfx,zg0,zg1,zje,zkn,zko,zkp, a1, a3, hx, w62, w63, h1, h2, h3]; all_goals tactic => exact rfl))
end
theorem w23 (l : Li) (hf : l.Fit) : runW progX 23 [.agg l.c] [] = some (I (checkL l), []) := by
  have e61 := w61 l.ks
  rw [r23 (by simp)]; unfold x23; dsimp only
  unfold checkL
  by_cases hk : kindsE l.ks = 0
  · have h6 : ¬ 6 < l.ks.length := fun hc => by unfold kindsE at hk; rw [if_pos hc] at hk; simp at hk
    rw [if_pos hk]
    rw [hk] at e61
    have z2 := zf5 (n := (l.ls.length : Int))
    by_cases h10 : 10 < l.ls.length
    · rw [if_pos h10]
      have h10 : ((10 : Int) < (l.ls.length : Int)) = True := eq_true (by omega)
      (sym => (simp [z00,z01,z05,z06,z07,z09,z0b,z0c,z0f,z0n,z0r,z0v,z0z,z12,z1f,z1j,z1r,z1u,z20,z21,z26,z29,z2b,z2u,z2v,z2x,z3h,z4l,z4o,z4q,z4t,z54,z57,z59,z66,z67,z69,z6b,z6e,z6p,z7r,z7u,z7w,z8d,z9d,z9e,z9g,z9j,z9k,z9l,z9m,z9n,z9p,z9r,z9v,z9w,z9y,za0,za1,za2,za3,za5,za6,za7,za8,za9,zaa,zab,zae,zaf,zal,zaq,zas,zat,zba,zbc,zbd,zbf,zbg,zbk,zbt,zbu,zbw,zbx,zby,zbz,zc0,zc3,zc4,zc5,zc6,zc8,zca,zcc,zcd,zce,zcf,zcg,zch,zcj,zcn,zco,zcq,zcr,zct,zcu,zcv,zcw,zcy,zd3,zd6,zd7,zdj,zdk,zdl,zdo,zds,zdt,zdu,zdv,zdw,zdx,ze2,ze3,zeo,zep,zf5,zf6,zf7,zfa,zfb,zfg,zfm,zfo,zfp,zfq,zfr,zfs,zft,zfu,zfv,zfy,zfz,zg0,zg1,zhf,zje,zkn,zko,zkp, e61, h10]; all_goals tactic => exact rfl))
    rw [if_neg h10]
    have g10 : ((10 : Int) < (l.ls.length : Int)) = False := eq_false (by omega)
    obtain ⟨q, q1, q2, q3⟩ := firstN_ix (ldEr l) l.ls.length
    sym =>
      simp [z00,z01,z05,z06,z07,z09,z0b,z0c,z0f,z0n,z0r,z0v,z0z,z12,z1f,z1j,z1r,z1u,z20,z21,z26,z29,z2b,z2u,z2v,z2x,z3h,z4l,z4o,z4q,z4t,z54,z57,z59,z66,z67,z69,z6b,z6e,z6p,z7r,z7u,z7w,z8d,z9d,z9e,z9g,z9j,z9k,z9l,z9m,z9n,z9p,z9r,z9v,z9w,z9y,za0,za1,za2,za3,za5,za6,za7,za8,za9,zaa,zab,zae,zaf,zal,zaq,zas,zat,zba,zbc,zbd,zbf,zbg,zbk,zbt,zbu,zbw,zbx,zby,zbz,zc0,zc3,zc4,zc5,zc6,zc8,zca,zcc,zcd,zce,zcf,zcg,zch,zcj,zcn,zco,zcq,zcr,zct,zcu,zcv,zcw,zcy,zd3,zd6,zd7,zdj,zdk,zdl,zdo,zds,zdt,zdu,zdv,zdw,zdx,ze2,ze3,zeo,zep,zf5,zf6,zf7,zfa,zfb,zfg,zfm,zfo,zfp,zfq,zfr,zfs,zft,zfu,zfv,zfy,zfz,zg0,zg1,zhf,zje,zkn,zko,zkp, e61, g10]
      tactic =>
        unfold x23l0
        rw [loop_rule q (fun i => [.pt 0 0, I (i : Nat)]) (fun _ => hL l)]
        · rcases q3 with ⟨rfl, eq⟩ | ⟨q3, q4, eq⟩
          · rw [eq, if_pos rfl]
            have e64 := w64 l.ls.length l.ts (by omega) hf.ts hf.each
            by_cases ht : tracksE l.ls.length l.ts = 0
            · rw [if_pos ht]
              rw [ht] at e64
              cases hs : inS l.lo l.hi 0 100000
              · (sym => (simp [z00,z01,z05,z06,z07,z09,z0b,z0c,z0f,z0n,z0r,z0v,z0z,z12,z1f,z1j,z1r,z1u,z20,z21,z26,z29,z2b,z2u,z2v,z2x,z3h,z4l,z4o,z4q,z4t,z54,z57,z59,z66,z67,z69,z6b,z6e,z6p,z7r,z7u,z7w,z8d,z9d,z9e,z9g,z9j,z9k,z9l,z9m,z9n,z9p,z9r,z9v,z9w,z9y,za0,za1,za2,za3,za5,za6,za7,za8,za9,zaa,zab,zae,zaf,zal,zaq,zas,zat,zba,zbc,zbd,zbf,zbg,zbk,zbt,zbu,zbw,zbx,zby,zbz,zc0,zc3,zc4,zc5,zc6,zc8,zca,zcc,zcd,zce,zcf,zcg,zch,zcj,zcn,zco,zcq,zcr,zct,zcu,zcv,zcw,zcy,zd3,zd6,zd7,zdj,zdk,zdl,zdo,zds,zdt,zdu,zdv,zdw,zdx,ze2,ze3,zeo,zep,zf5,zf6,zf7,zfa,zfb,zfg,zfm,zfo,zfp,zfq,zfr,zfs,zft,zfu,zfv,zfy,zfz,zg0,zg1,zhf,zje,zkn,zko,zkp, z2, e64, w63, hs]; all_goals tactic => exact rfl))
              · (sym => (simp [z00,z01,z05,z06,z07,z09,z0b,z0c,z0f,z0n,z0r,z0v,z0z,z12,z1f,z1j,z1r,z1u,z20,z21,z26,z29,z2b,z2u,z2v,z2x,z3h,z4l,z4o,z4q,z4t,z54,z57,z59,z66,z67,z69,z6b,z6e,z6p,z7r,z7u,z7w,z8d,z9d,z9e,z9g,z9j,z9k,z9l,z9m,z9n,z9p,z9r,z9v,z9w,z9y,za0,za1,za2,za3,za5,za6,za7,za8,za9,zaa,zab,zae,zaf,zal,zaq,zas,zat,zba,zbc,zbd,zbf,zbg,zbk,zbt,zbu,zbw,zbx,zby,zbz,zc0,zc3,zc4,zc5,zc6,zc8,zca,zcc,zcd,zce,zcf,zcg,zch,zcj,zcn,zco,zcq,zcr,zct,zcu,zcv,zcw,zcy,zd3,zd6,zd7,zdj,zdk,zdl,zdo,zds,zdt,zdu,zdv,zdw,zdx,ze2,ze3,zeo,zep,zf5,zf6,zf7,zfa,zfb,zfg,zfm,zfo,zfp,zfq,zfr,zfs,zft,zfu,zfv,zfy,zfz,zg0,zg1,zhf,zje,zkn,zko,zkp, z2, e64, w63, hs]; all_goals tactic => exact rfl))
            · rw [if_neg ht]
              have gt := eq_false ht
              (sym => (simp [z00,z01,z05,z06,z07,z09,z0b,z0c,z0f,z0n,z0r,z0v,z0z,z12,z1f,z1j,z1r,z1u,z20,z21,z26,z29,z2b,z2u,z2v,z2x,z3h,z4l,z4o,z4q,z4t,z54,z57,z59,z66,z67,z69,z6b,z6e,z6p,z7r,z7u,z7w,z8d,z9d,z9e,z9g,z9j,z9k,z9l,z9m,z9n,z9p,z9r,z9v,z9w,z9y,za0,za1,za2,za3,za5,za6,za7,za8,za9,zaa,zab,zae,zaf,zal,zaq,zas,zat,zba,zbc,zbd,zbf,zbg,zbk,zbt,zbu,zbw,zbx,zby,zbz,zc0,zc3,zc4,zc5,zc6,zc8,zca,zcc,zcd,zce,zcf,zcg,zch,zcj,zcn,zco,zcq,zcr,zct,zcu,zcv,zcw,zcy,zd3,zd6,zd7,zdj,zdk,zdl,zdo,zds,zdt,zdu,zdv,zdw,zdx,ze2,ze3,zeo,zep,zf5,zf6,zf7,zfa,zfb,zfg,zfm,zfo,zfp,zfq,zfr,zfs,zft,zfu,zfv,zfy,zfz,zg0,zg1,zhf,zje,zkn,zko,zkp, z2, e64, gt]; all_goals tactic => exact rfl))
          · rw [eq, if_neg q4]
            obtain ⟨eo, ho, p1, p2⟩ := left23 (by omega) (by omega) q3 q4
            unfold x23l0 at p1
            dsimp only at p1
            rw [p1]
            exact p2
        · (sym => (simp [z00,z01,z05,z06,z07,z09,z0b,z0c,z0f,z0n,z0r,z0v,z0z,z12,z1f,z1j,z1r,z1u,z20,z21,z26,z29,z2b,z2u,z2v,z2x,z3h,z4l,z4o,z4q,z4t,z54,z57,z59,z66,z67,z69,z6b,z6e,z6p,z7r,z7u,z7w,z8d,z9d,z9e,z9g,z9j,z9k,z9l,z9m,z9n,z9p,z9r,z9v,z9w,z9y,za0,za1,za2,za3,za5,za6,za7,za8,za9,zaa,zab,zae,zaf,zal,zaq,zas,zat,zba,zbc,zbd,zbf,zbg,zbk,zbt,zbu,zbw,zbx,zby,zbz,zc0,zc3,zc4,zc5,zc6,zc8,zca,zcc,zcd,zce,zcf,zcg,zch,zcj,zcn,zco,zcq,zcr,zct,zcu,zcv,zcw,zcy,zd3,zd6,zd7,zdj,zdk,zdl,zdo,zds,zdt,zdu,zdv,zdw,zdx,ze2,ze3,zeo,zep,zf5,zf6,zf7,zfa,zfb,zfg,zfm,zfo,zfp,zfq,zfr,zfs,zft,zfu,zfv,zfy,zfz,zg0,zg1,zhf,zje,zkn,zko,zkp]; all_goals tactic => exact rfl))
        · intro i hi
          exact round23 (by omega) (by omega) (by omega) (q2 i hi)
        · rcases q3 with ⟨rfl, eq⟩ | ⟨q3, q4, eq⟩
          · (sym => (simp [z00,z01,z05,z06,z07,z09,z0b,z0c,z0f,z0n,z0r,z0v,z0z,z12,z1f,z1j,z1r,z1u,z20,z21,z26,z29,z2b,z2u,z2v,z2x,z3h,z4l,z4o,z4q,z4t,z54,z57,z59,z66,z67,z69,z6b,z6e,z6p,z7r,z7u,z7w,z8d,z9d,z9e,z9g,z9j,z9k,z9l,z9m,z9n,z9p,z9r,z9v,z9w,z9y,za0,za1,za2,za3,za5,za6,za7,za8,za9,zaa,zab,zae,zaf,zal,zaq,zas,zat,zba,zbc,zbd,zbf,zbg,zbk,zbt,zbu,zbw,zbx,zby,zbz,zc0,zc3,zc4,zc5,zc6,zc8,zca,zcc,zcd,zce,zcf,zcg,zch,zcj,zcn,zco,zcq,zcr,zct,zcu,zcv,zcw,zcy,zd3,zd6,zd7,zdj,zdk,zdl,zdo,zds,zdt,zdu,zdv,zdw,zdx,ze2,ze3,zeo,zep,zf5,zf6,zf7,zfa,zfb,zfg,zfm,zfo,zfp,zfq,zfr,zfs,zft,zfu,zfv,zfy,zfz,zg0,zg1,zhf,zje,zkn,zko,zkp, z2]; all_goals tactic => exact rfl))
          · obtain ⟨eo, ho, p1, p2⟩ := left23 (by omega) (by omega) q3 q4
            unfold x23l0 at p1
            dsimp only at p1
            rw [p1]
            rfl
  · rw [if_neg hk]
    have g := eq_false hk
    (sym => (simp [z00,z01,z05,z06,z07,z09,z0b,z0c,z0f,z0n,z0r,z0v,z0z,z12,z1f,z1j,z1r,z1u,z20,z21,z26,z29,z2b,z2u,z2v,z2x,z3h,z4l,z4o,z4q,z4t,z54,z57,z59,z66,z67,z69,z6b,z6e,z6p,z7r,z7u,z7w,z8d,z9d,z9e,z9g,z9j,z9k,z9l,z9m,z9n,z9p,z9r,z9v,z9w,z9y,za0,za1,za2,za3,za5,za6,za7,za8,za9,zaa,zab,zae,zaf,zal,zaq,zas,zat,zba,zbc,zbd,zbf,zbg,zbk,zbt,zbu,zbw,zbx,zby,zbz,zc0,zc3,zc4,zc5,zc6,zc8,zca,zcc,zcd,zce,zcf,zcg,zch,zcj,zcn,zco,zcq,zcr,zct,zcu,zcv,zcw,zcy,zd3,zd6,zd7,zdj,zdk,zdl,zdo,zds,zdt,zdu,zdv,zdw,zdx,ze2,ze3,zeo,zep,zf5,zf6,zf7,zfa,zfb,zfg,zfm,zfo,zfp,zfq,zfr,zfs,zft,zfu,zfv,zfy,zfz,zg0,zg1,zhf,zje,zkn,zko,zkp, e61, g]; all_goals tactic => exact rfl))
end Go.Proofs.YtpbeclkpohehgaaDoor
namespace Go.Proofs.YtpbeclkpohehgaaDoor
open Go Go.DL
set_option maxRecDepth 100000
set_option maxHeartbeats 2000000

/-! ### What stands ahead of what -/
def bT (t : List Int) (b : Nat → Nat) : Nat → Nat → Nat
  | 0 => b
  | i + 1 => fun x => if x = (t.getD i 0).toNat then allT t 0 i else bT t b i x
def bA (T : List (List Int)) : Nat → Nat → Nat
  | 0 => fun _ => 0
  | j + 1 => bT (T.getD j []) (bA T j) (T.getD j []).length
/-- The set of the loads behind which each load stands. -/
def behF (T : List (List Int)) : Nat → Nat := bA T T.length

/-! ### A yard's cells -/
def yC (l : Li) (b : Nat → Nat) (m : Nat) : List AV := [kR l.ks, lR l.ls, tR l.ts, I l.lo, I l.hi, U (b 0), U (b 1), U (b 2), U (b 3), U (b 4), U (b 5), U (b 6), U (b 7), U (b 8), U (b 9), .mp m]
def yM (l : Li) (b : Nat → Nat) : Option Nat → List AV
  | some c => yC l b c
  | none => [kR l.ks, lR l.ls, tR l.ts, I l.lo, I l.hi, U (b 0), U (b 1), U (b 2), U (b 3), U (b 4), U (b 5), U (b 6), U (b 7), U (b 8), U (b 9), .any]
section
variable {l : Li} {b : Nat → Nat} {m : Nat}
theorem yC_nm : nmL (yC l b m) = [m] := rfl
theorem yC_rn {s : Nat → Option Nat} : rnL s (yC l b m) = yM l b (s m) := by
  unfold yC yM
  simp only [rnL, rnA]
  cases s m <;> rfl
theorem yM_s {c : Nat} : yM l b (some c) = yC l b c := rfl
theorem yC_gr : grL (yC l b m) = false := rfl
theorem yC_sl : slL (yC l b m) = [] := rfl
theorem yC_fz {c : Nat} {cs : List AV} : fzL c cs (yC l b m) = yC l b m := rfl
theorem yC_len : (yC l b m).length = 16 := rfl
theorem yC_0 : (yC l b m)[0]? = some (kR l.ks) := rfl
theorem yC_1 : (yC l b m)[1]? = some (lR l.ls) := rfl
theorem yC_2 : (yC l b m)[2]? = some (tR l.ts) := rfl
theorem yC_3 : (yC l b m)[3]? = some (I l.lo) := rfl
theorem yC_4 : (yC l b m)[4]? = some (I l.hi) := rfl
theorem yC_15 : (yC l b m)[15]? = some (.mp m) := rfl
theorem yC_b {k : Nat} (h : k < 10) : (yC l b m)[5 + k]? = some (U (b k)) := by
  match k, h with
  | 0, _ => rfl
  | 1, _ => rfl
  | 2, _ => rfl
  | 3, _ => rfl
  | 4, _ => rfl
  | 5, _ => rfl
  | 6, _ => rfl
  | 7, _ => rfl
  | 8, _ => rfl
  | 9, _ => rfl
theorem yC_set {k a : Nat} (h : k < 10) : splice (yC l b m) (5 + k) [U a] = yC l (fun x => if x = k then a else b x) m := by
  match k, h with
  | 0, _ => rfl
  | 1, _ => rfl
  | 2, _ => rfl
  | 3, _ => rfl
  | 4, _ => rfl
  | 5, _ => rfl
  | 6, _ => rfl
  | 7, _ => rfl
  | 8, _ => rfl
  | 9, _ => rfl
theorem same_rI : ∀ t : List Int, sameR (t.map fun v => [I v]) (t.map fun v => [I v]) = true := fun t => same_int fun r hr c hc => by
  simp only [List.mem_map] at hr
  obtain ⟨v, _, rfl⟩ := hr
  simp only [List.mem_singleton] at hc
  exact ⟨v, hc⟩
theorem same_rS : ∀ k : List St, sameR (k.map St.row) (k.map St.row) = true := fun t => same_int fun r hr c hc => by
  simp only [List.mem_map] at hr
  obtain ⟨v, _, rfl⟩ := hr
  simp only [List.mem_cons, List.not_mem_nil, or_false] at hc
  rcases hc with rfl | rfl <;> exact ⟨_, rfl⟩
theorem same_rL : ∀ k : List Ld, sameR (k.map Ld.row) (k.map Ld.row) = true := fun t => same_int fun r hr c hc => by
  simp only [List.mem_map] at hr
  obtain ⟨v, _, rfl⟩ := hr
  simp only [List.mem_cons, List.not_mem_nil, or_false] at hc
  rcases hc with rfl | rfl | rfl | rfl | rfl <;> exact ⟨_, rfl⟩
theorem same_tR : ∀ T : List (List Int), sameR (T.map fun t => [rI t]) (T.map fun t => [rI t]) = true
  | [] => rfl
  | t :: r => by
    rw [List.map_cons, sameR, same_tR r]
    simp [sameL, sameA, same_rI t]
theorem same_kR : ∀ T : List (List St), sameR (T.map fun t => [rS t]) (T.map fun t => [rS t]) = true
  | [] => rfl
  | t :: r => by
    rw [List.map_cons, sameR, same_kR r]
    simp [sameL, sameA, same_rS t]
theorem yC_same : sameL (yC l b m) (yC l b m) = true := by
  unfold yC
  simp [sameL, sameA, same_kR, same_rL, same_tR]
end

section
variable {l : Li} {b : Nat → Nat} {t : List Int} {j : Nat}
abbrev hY (l : Li) (b : Nat → Nat) (es : List (AV × AV)) : XH := [some (.blk false (.cells true (yC l b 1))), some (.blk true (.map true es))]
theorem round52 (hn : l.ls.length ≤ 10) {i : Nat} {v : Int} (hv : t[i]? = some v) (ht : t.length ≤ 9223372036854775807) {a : Nat} (ha : a < 2 ^ 10) (he : 0 ≤ v ∧ v < 10) :
    headX 0 [5, 8, 21, 22, 23, 27, 28, 29] (execW progX 52 0 none (match x52l0 with | .loop _ a => a | c => c) (envL [5, 8, 21, 22, 23, 27, 28, 29] [.pt 0 0, U a, tR l.ts, I l.ts.length, I (j : Nat), rI t, I t.length, I (i : Nat)]) (hY l b [])) =
      some ([.pt 0 0, U (a ||| 2 ^ v.toNat), tR l.ts, I l.ts.length, I (j : Nat), rI t, I t.length, I (i + 1 : Nat)], hY l (fun x => if x = v.toNat then a else b x) []) := by
  have a1 := lt_ix (lt_of hv)
  have a2 := up_ix (lt_of hv) ht
  have n0 : (v < 0) = False := eq_false (by omega)
  have c1 : (0 ≤ v) = True := eq_true (by omega)
  have c2 : (v < 10) = True := eq_true (by omega)
  have o1 := or_u ha (v := v) (by omega)
  have o2 := or_u1 ha (v := v) (by omega)
  have s1 := yC_set (l := l) (b := b) (m := 1) (k := v.toNat) (a := a) (by omega)
  have s2 : (5 + v.toNat + 1 ≤ 16) = True := eq_true (by omega)
  generalize a ||| 2 ^ v.toNat = a' at *
  unfold x52l0
  dsimp only
  (sym => (simp [yC_nm, yC_rn, yM_s, yC_gr, yC_sl, yC_fz, yC_len, yC_0, yC_1, yC_2, yC_3, yC_4, yC_15, yC_same, z00,z01,z02,z05,z07,z0b,z0c,z0n,z0u,z0v,z12,z14,z15,z1j,z1n,z1o,z29,z2g,z2h,z2j,z2p,z2r,z2v,z33,z34,z40,z4j,z4l,z4q,z4t,z54,z66,z6b,z6e,z8a,z9d,z9i,z9p,z9r,z9s,z9v,z9w,z9y,za0,za1,za3,za6,za7,za8,za9,zae,zaf,zag,zal,zam,zca,zcc,zcd,zce,zcf,zcn,zco,zcp,zcq,zcr,zct,zcu,zcv,zcw,zcx,zcy,zd3,zdd,zdj,zdk,zds,zdt,zdu,zdv,zdw,zdx,zf8,zf9,zfb,zfc,zfd,zfm,zfo,zfq,zfs,zft,zfw,zfz,zg0,zg1,zhd,zhf,zk2, a1, a2, hv, n0, c1, c2, o1, o2, s1, s2]; all_goals tactic => exact rfl))
end
/-- What is known of a valid line. -/
structure Good (l : Li) : Prop where
  kinds : kindsE l.ks = 0
  few : l.ls.length ≤ 10
  loads : ∀ i, i < l.ls.length → ldEr l i = 0
  tracks : ∀ j, j < l.ts.length → errT l.ls.length (l.ts.getD j []) (accT l.ts j) = 0
  full : pop (accT l.ts l.ts.length) l.ls.length = l.ls.length
  start : inS l.lo l.hi 0 100000 = true
theorem good_of {l : Li} (h : checkL l = 0) : Good l := by
  unfold checkL at h
  by_cases h1 : kindsE l.ks = 0
  · rw [if_pos h1] at h
    by_cases h2 : 10 < l.ls.length
    · rw [if_pos h2] at h; simp at h
    rw [if_neg h2] at h
    by_cases h3 : firstN (ldEr l) l.ls.length = 0
    · rw [if_pos h3] at h
      by_cases h4 : tracksE l.ls.length l.ts = 0
      · rw [if_pos h4] at h
        cases h5 : inS l.lo l.hi 0 100000 with
        | false => rw [h5] at h; simp at h
        | true =>
          unfold tracksE at h4
          by_cases h6 : firstN (fun j => errT l.ls.length (l.ts.getD j []) (accT l.ts j)) l.ts.length = 0
          · rw [if_pos h6] at h4
            have hp := pop_le (accT l.ts l.ts.length) l.ls.length
            refine ⟨h1, by omega, firstN_0 h3, fun j hj => firstN_0 h6 j hj, ?_, h5⟩
            by_cases h7 : pop (accT l.ts l.ts.length) l.ls.length < l.ls.length
            · rw [if_pos h7] at h4; simp at h4
            · omega
          · rw [if_neg h6] at h4
            exact absurd h4 h6
      · rw [if_neg h4] at h
        exact absurd h h4
    · rw [if_neg h3] at h
      exact absurd h h3
  · rw [if_neg h1] at h
    exact absurd h h1
theorem allT_of0 {t : List Int} {n a : Nat} (hn : n ≤ 10) (h : ∀ i, i < t.length → 0 ≤ t.getD i 0 ∧ t.getD i 0 < n) (ha : a < 2 ^ 10) : ∀ m, m ≤ t.length → allT t a m < 2 ^ 10
  | 0, _ => ha
  | m + 1, hm => by
    have := h m (by omega)
    rw [allT]
    exact or_lt (allT_of0 hn h ha m (by omega)) (by omega)
theorem Good.el {l : Li} (g : Good l) {j : Nat} {t : List Int} (ht : l.ts[j]? = some t) {i : Nat} (hi : i < t.length) : 0 ≤ t.getD i 0 ∧ t.getD i 0 < l.ls.length := by
  have h := g.tracks j (lt_of ht)
  rw [getD_of ht] at h
  have h := (errT_0 h).2 i hi
  rcases elE_of (n := l.ls.length) (all := allT t (accT l.ts j) i) (t.getD i 0) with ⟨_, h1, _⟩ | ⟨_, _, _, h4⟩ | ⟨_, h4⟩
  · exact h1
  · rw [h] at h4; simp at h4
  · rw [h] at h4; simp at h4
def w52R (l : Li) : Option (AV × XH) := if checkL l = 0 then some (.tup [.pt 0 0, I 0], hY l (behF l.ts) []) else some (.tup [.nilpt, I (checkL l)], [])
theorem w52 (l : Li) (hf : l.Fit) : runW progX 52 [.agg l.c] [] = w52R l := by
  have e22 := w22 l hf
  unfold w52R
  by_cases h : checkL l = 0
  · rw [if_pos h]
    rw [h] at e22
    have g := good_of h
    have z := zf5 (n := (l.ts.length : Int))
    have y0 : yC l (fun _ => 0) 1 = [kR l.ks, lR l.ls, tR l.ts, I l.lo, I l.hi, U 0, U 0, U 0, U 0, U 0, U 0, U 0, U 0, U 0, U 0, .mp 1] := rfl
    have rd : ∀ j, j < l.ts.length → headX 0 [5, 21, 22, 23] (execW progX 52 0 none (match x52l1 with | .loop _ a => a | c => c) (envL [5, 21, 22, 23] [.pt 0 0, tR l.ts, I l.ts.length, I (j : Nat)]) (hY l (bA l.ts j) [])) = some ([.pt 0 0, tR l.ts, I l.ts.length, I (j + 1 : Nat)], hY l (bA l.ts (j + 1)) []) := by
      intro j hj
      obtain ⟨t, ht⟩ := at_ix hj
      have b1 := lt_ix hj
      have b2 := up_ix hj hf.ts
      have hth := hf.each t (List.mem_of_getElem? ht)
      have z := zf5 (n := (t.length : Int))
      have hel := fun i hi => g.el ht (i := i) hi
      have al0 : allT t 0 0 = 0 := rfl
      rw [bA, getD_of ht]
      generalize bA l.ts j = b
      have bt0 : bT t b 0 = b := rfl
      have rdi : ∀ i, i < t.length → headX 0 [5, 8, 21, 22, 23, 27, 28, 29] (execW progX 52 0 none (match x52l0 with | .loop _ a => a | c => c) (envL [5, 8, 21, 22, 23, 27, 28, 29] [.pt 0 0, U (allT t 0 i), tR l.ts, I l.ts.length, I (j : Nat), rI t, I t.length, I (i : Nat)]) (hY l (bT t b i) [])) = some ([.pt 0 0, U (allT t 0 (i + 1)), tR l.ts, I l.ts.length, I (j : Nat), rI t, I t.length, I (i + 1 : Nat)], hY l (bT t b (i + 1)) []) := by
        intro i hi
        obtain ⟨v, hv⟩ := at_ix hi
        have hv2 := hel i hi
        rw [bT, allT]
        rw [getD_of hv] at hv2 ⊢
        have := g.few
        exact round52 g.few hv hth (allT_of0 g.few hel (by omega) i (by omega)) (by omega)
      unfold x52l1
      dsimp only
      sym =>
        simp [yC_nm, yC_rn, yM_s, yC_gr, yC_sl, yC_fz, yC_len, yC_0, yC_1, yC_2, yC_3, yC_4, yC_15, yC_same, z00,z01,z03,z04,z05,z06,z07,z09,z0b,z0c,z0f,z0n,z0r,z0s,z0v,z12,z15,z1c,z1f,z1j,z1r,z1u,z20,z21,z29,z2b,z2g,z2h,z2j,z2u,z2v,z33,z34,z3h,z4f,z4l,z4o,z4p,z4q,z4t,z4u,z4w,z54,z57,z59,z5d,z66,z69,z6a,z6b,z6e,z6f,z6h,z6p,z6t,z6x,z70,z7r,z7u,z7v,z7w,z7z,z82,z8d,z8j,z9d,z9e,z9g,z9j,z9k,z9l,z9m,z9n,z9p,z9r,z9s,z9v,z9w,z9y,za0,za1,za2,za3,za5,za6,za7,za8,za9,zaa,zab,zae,zaf,zag,zal,zam,zaq,zas,zat,zba,zbc,zbd,zbf,zbg,zbk,zbt,zbu,zbw,zbx,zby,zbz,zc2,zc3,zc4,zc5,zc6,zc8,zca,zcc,zcd,zce,zcf,zcg,zch,zcj,zcn,zco,zcp,zcq,zcr,zct,zcu,zcv,zcw,zcx,zcy,zd3,zd5,zd6,zd7,zdd,zdj,zdk,zdl,zdo,zds,zdt,zdu,zdv,zdw,zdx,zdy,zdz,ze2,ze3,ze9,zea,zeb,zec,zeo,zep,zeu,zf5,zf6,zf7,zf8,zf9,zfa,zfb,zfg,zfm,zfo,zfp,zfq,zfr,zfs,zft,zfu,zfv,zfw,zfy,zfz,zg0,zg1,zhf,zje,zkn,zko,zkp, b1, ht]
        tactic =>
          unfold x52l0
          rw [loop_rule t.length (fun i => [.pt 0 0, U (allT t 0 i), tR l.ts, I l.ts.length, I (j : Nat), rI t, I t.length, I (i : Nat)]) (fun i => hY l (bT t b i) [])]
          · (sym => (simp [yC_nm, yC_rn, yM_s, yC_gr, yC_sl, yC_fz, yC_len, yC_0, yC_1, yC_2, yC_3, yC_4, yC_15, yC_same, z00,z01,z03,z04,z05,z06,z07,z09,z0b,z0c,z0f,z0n,z0r,z0s,z0v,z12,z15,z1c,z1f,z1j,z1r,z1u,z20,z21,z29,z2b,z2g,z2h,z2j,z2u,z2v,z33,z34,z3h,z4f,z4l,z4o,z4p,z4q,z4t,z4u,z4w,z54,z57,z59,z5d,z66,z69,z6a,z6b,z6e,z6f,z6h,z6p,z6t,z6x,z70,z7r,z7u,z7v,z7w,z7z,z82,z8d,z8j,z9d,z9e,z9g,z9j,z9k,z9l,z9m,z9n,z9p,z9r,z9s,z9v,z9w,z9y,za0,za1,za2,za3,za5,za6,za7,za8,za9,zaa,zab,zae,zaf,zag,zal,zam,zaq,zas,zat,zba,zbc,zbd,zbf,zbg,zbk,zbt,zbu,zbw,zbx,zby,zbz,zc2,zc3,zc4,zc5,zc6,zc8,zca,zcc,zcd,zce,zcf,zcg,zch,zcj,zcn,zco,zcp,zcq,zcr,zct,zcu,zcv,zcw,zcx,zcy,zd3,zd5,zd6,zd7,zdd,zdj,zdk,zdl,zdo,zds,zdt,zdu,zdv,zdw,zdx,zdy,zdz,ze2,ze3,ze9,zea,zeb,zec,zeo,zep,zeu,zf5,zf6,zf7,zf8,zf9,zfa,zfb,zfg,zfm,zfo,zfp,zfq,zfr,zfs,zft,zfu,zfv,zfw,zfy,zfz,zg0,zg1,zhf,zje,zkn,zko,zkp, b1, b2, z]; all_goals tactic => exact rfl))
          · (sym => (simp [yC_nm, yC_rn, yM_s, yC_gr, yC_sl, yC_fz, yC_len, yC_0, yC_1, yC_2, yC_3, yC_4, yC_15, yC_same, z00,z01,z03,z04,z05,z06,z07,z09,z0b,z0c,z0f,z0n,z0r,z0s,z0v,z12,z15,z1c,z1f,z1j,z1r,z1u,z20,z21,z29,z2b,z2g,z2h,z2j,z2u,z2v,z33,z34,z3h,z4f,z4l,z4o,z4p,z4q,z4t,z4u,z4w,z54,z57,z59,z5d,z66,z69,z6a,z6b,z6e,z6f,z6h,z6p,z6t,z6x,z70,z7r,z7u,z7v,z7w,z7z,z82,z8d,z8j,z9d,z9e,z9g,z9j,z9k,z9l,z9m,z9n,z9p,z9r,z9s,z9v,z9w,z9y,za0,za1,za2,za3,za5,za6,za7,za8,za9,zaa,zab,zae,zaf,zag,zal,zam,zaq,zas,zat,zba,zbc,zbd,zbf,zbg,zbk,zbt,zbu,zbw,zbx,zby,zbz,zc2,zc3,zc4,zc5,zc6,zc8,zca,zcc,zcd,zce,zcf,zcg,zch,zcj,zcn,zco,zcp,zcq,zcr,zct,zcu,zcv,zcw,zcx,zcy,zd3,zd5,zd6,zd7,zdd,zdj,zdk,zdl,zdo,zds,zdt,zdu,zdv,zdw,zdx,zdy,zdz,ze2,ze3,ze9,zea,zeb,zec,zeo,zep,zeu,zf5,zf6,zf7,zf8,zf9,zfa,zfb,zfg,zfm,zfo,zfp,zfq,zfr,zfs,zft,zfu,zfv,zfw,zfy,zfz,zg0,zg1,zhf,zje,zkn,zko,zkp, al0, bt0]; all_goals tactic => exact rfl))
          · exact rdi
          · (sym => (simp [yC_nm, yC_rn, yM_s, yC_gr, yC_sl, yC_fz, yC_len, yC_0, yC_1, yC_2, yC_3, yC_4, yC_15, yC_same, z00,z01,z03,z04,z05,z06,z07,z09,z0b,z0c,z0f,z0n,z0r,z0s,z0v,z12,z15,z1c,z1f,z1j,z1r,z1u,z20,z21,z29,z2b,z2g,z2h,z2j,z2u,z2v,z33,z34,z3h,z4f,z4l,z4o,z4p,z4q,z4t,z4u,z4w,z54,z57,z59,z5d,z66,z69,z6a,z6b,z6e,z6f,z6h,z6p,z6t,z6x,z70,z7r,z7u,z7v,z7w,z7z,z82,z8d,z8j,z9d,z9e,z9g,z9j,z9k,z9l,z9m,z9n,z9p,z9r,z9s,z9v,z9w,z9y,za0,za1,za2,za3,za5,za6,za7,za8,za9,zaa,zab,zae,zaf,zag,zal,zam,zaq,zas,zat,zba,zbc,zbd,zbf,zbg,zbk,zbt,zbu,zbw,zbx,zby,zbz,zc2,zc3,zc4,zc5,zc6,zc8,zca,zcc,zcd,zce,zcf,zcg,zch,zcj,zcn,zco,zcp,zcq,zcr,zct,zcu,zcv,zcw,zcx,zcy,zd3,zd5,zd6,zd7,zdd,zdj,zdk,zdl,zdo,zds,zdt,zdu,zdv,zdw,zdx,zdy,zdz,ze2,ze3,ze9,zea,zeb,zec,zeo,zep,zeu,zf5,zf6,zf7,zf8,zf9,zfa,zfb,zfg,zfm,zfo,zfp,zfq,zfr,zfs,zft,zfu,zfv,zfw,zfy,zfz,zg0,zg1,zhf,zje,zkn,zko,zkp, z]; all_goals tactic => exact rfl))
    rw [r52 (by simp)]; unfold x52; dsimp only
    sym =>
      simp [yC_nm, yC_rn, yM_s, yC_gr, yC_sl, yC_fz, yC_len, yC_0, yC_1, yC_2, yC_3, yC_4, yC_15, yC_same, z00,z01,z03,z04,z05,z06,z07,z09,z0b,z0c,z0f,z0n,z0r,z0s,z0v,z12,z15,z1c,z1f,z1j,z1r,z1u,z20,z21,z29,z2b,z2g,z2h,z2j,z2u,z2v,z33,z34,z3h,z4f,z4l,z4o,z4p,z4q,z4t,z4u,z4w,z54,z57,z59,z5d,z66,z69,z6a,z6b,z6e,z6f,z6h,z6p,z6t,z6x,z70,z7r,z7u,z7v,z7w,z7z,z82,z8d,z8j,z9d,z9e,z9g,z9j,z9k,z9l,z9m,z9n,z9p,z9r,z9s,z9v,z9w,z9y,za0,za1,za2,za3,za5,za6,za7,za8,za9,zaa,zab,zae,zaf,zag,zal,zam,zaq,zas,zat,zba,zbc,zbd,zbf,zbg,zbk,zbt,zbu,zbw,zbx,zby,zbz,zc2,zc3,zc4,zc5,zc6,zc8,zca,zcc,zcd,zce,zcf,zcg,zch,zcj,zcn,zco,zcp,zcq,zcr,zct,zcu,zcv,zcw,zcx,zcy,zd3,zd5,zd6,zd7,zdd,zdj,zdk,zdl,zdo,zds,zdt,zdu,zdv,zdw,zdx,zdy,zdz,ze2,ze3,ze9,zea,zeb,zec,zeo,zep,zeu,zf5,zf6,zf7,zf8,zf9,zfa,zfb,zfg,zfm,zfo,zfp,zfq,zfr,zfs,zft,zfu,zfv,zfw,zfy,zfz,zg0,zg1,zhf,zje,zkn,zko,zkp, e22]
      tactic =>
        unfold x52l1
        rw [loop_rule l.ts.length (fun j => [.pt 0 0, tR l.ts, I l.ts.length, I (j : Nat)]) (fun j => hY l (bA l.ts j) [])]
        · (sym => (simp [yC_nm, yC_rn, yM_s, yC_gr, yC_sl, yC_fz, yC_len, yC_0, yC_1, yC_2, yC_3, yC_4, yC_15, yC_same, z00,z01,z03,z04,z05,z06,z07,z09,z0b,z0c,z0f,z0n,z0r,z0s,z0v,z12,z15,z1c,z1f,z1j,z1r,z1u,z20,z21,z29,z2b,z2g,z2h,z2j,z2u,z2v,z33,z34,z3h,z4f,z4l,z4o,z4p,z4q,z4t,z4u,z4w,z54,z57,z59,z5d,z66,z69,z6a,z6b,z6e,z6f,z6h,z6p,z6t,z6x,z70,z7r,z7u,z7v,z7w,z7z,z82,z8d,z8j,z9d,z9e,z9g,z9j,z9k,z9l,z9m,z9n,z9p,z9r,z9s,z9v,z9w,z9y,za0,za1,za2,za3,za5,za6,za7,za8,za9,zaa,zab,zae,zaf,zag,zal,zam,zaq,zas,zat,zba,zbc,zbd,zbf,zbg,zbk,zbt,zbu,zbw,zbx,zby,zbz,zc2,zc3,zc4,zc5,zc6,zc8,zca,zcc,zcd,zce,zcf,zcg,zch,zcj,zcn,zco,zcp,zcq,zcr,zct,zcu,zcv,zcw,zcx,zcy,zd3,zd5,zd6,zd7,zdd,zdj,zdk,zdl,zdo,zds,zdt,zdu,zdv,zdw,zdx,zdy,zdz,ze2,ze3,ze9,zea,zeb,zec,zeo,zep,zeu,zf5,zf6,zf7,zf8,zf9,zfa,zfb,zfg,zfm,zfo,zfp,zfq,zfr,zfs,zft,zfu,zfv,zfw,zfy,zfz,zg0,zg1,zhf,zje,zkn,zko,zkp, z, behF.eq_1]; all_goals tactic => exact rfl))
        · (sym => (simp [yC_nm, yC_rn, yM_s, yC_gr, yC_sl, yC_fz, yC_len, yC_0, yC_1, yC_2, yC_3, yC_4, yC_15, yC_same, z00,z01,z03,z04,z05,z06,z07,z09,z0b,z0c,z0f,z0n,z0r,z0s,z0v,z12,z15,z1c,z1f,z1j,z1r,z1u,z20,z21,z29,z2b,z2g,z2h,z2j,z2u,z2v,z33,z34,z3h,z4f,z4l,z4o,z4p,z4q,z4t,z4u,z4w,z54,z57,z59,z5d,z66,z69,z6a,z6b,z6e,z6f,z6h,z6p,z6t,z6x,z70,z7r,z7u,z7v,z7w,z7z,z82,z8d,z8j,z9d,z9e,z9g,z9j,z9k,z9l,z9m,z9n,z9p,z9r,z9s,z9v,z9w,z9y,za0,za1,za2,za3,za5,za6,za7,za8,za9,zaa,zab,zae,zaf,zag,zal,zam,zaq,zas,zat,zba,zbc,zbd,zbf,zbg,zbk,zbt,zbu,zbw,zbx,zby,zbz,zc2,zc3,zc4,zc5,zc6,zc8,zca,zcc,zcd,zce,zcf,zcg,zch,zcj,zcn,zco,zcp,zcq,zcr,zct,zcu,zcv,zcw,zcx,zcy,zd3,zd5,zd6,zd7,zdd,zdj,zdk,zdl,zdo,zds,zdt,zdu,zdv,zdw,zdx,zdy,zdz,ze2,ze3,ze9,zea,zeb,zec,zeo,zep,zeu,zf5,zf6,zf7,zf8,zf9,zfa,zfb,zfg,zfm,zfo,zfp,zfq,zfr,zfs,zft,zfu,zfv,zfw,zfy,zfz,zg0,zg1,zhf,zje,zkn,zko,zkp, bA.eq_1, y0]; all_goals tactic => exact rfl))
        · exact rd
        · (sym => (simp [yC_nm, yC_rn, yM_s, yC_gr, yC_sl, yC_fz, yC_len, yC_0, yC_1, yC_2, yC_3, yC_4, yC_15, yC_same, z00,z01,z03,z04,z05,z06,z07,z09,z0b,z0c,z0f,z0n,z0r,z0s,z0v,z12,z15,z1c,z1f,z1j,z1r,z1u,z20,z21,z29,z2b,z2g,z2h,z2j,z2u,z2v,z33,z34,z3h,z4f,z4l,z4o,z4p,z4q,z4t,z4u,z4w,z54,z57,z59,z5d,z66,z69,z6a,z6b,z6e,z6f,z6h,z6p,z6t,z6x,z70,z7r,z7u,z7v,z7w,z7z,z82,z8d,z8j,z9d,z9e,z9g,z9j,z9k,z9l,z9m,z9n,z9p,z9r,z9s,z9v,z9w,z9y,za0,za1,za2,za3,za5,za6,za7,za8,za9,zaa,zab,zae,zaf,zag,zal,zam,zaq,zas,zat,zba,zbc,zbd,zbf,zbg,zbk,zbt,zbu,zbw,zbx,zby,zbz,zc2,zc3,zc4,zc5,zc6,zc8,zca,zcc,zcd,zce,zcf,zcg,zch,zcj,zcn,zco,zcp,zcq,zcr,zct,zcu,zcv,zcw,zcx,zcy,zd3,zd5,zd6,zd7,zdd,zdj,zdk,zdl,zdo,zds,zdt,zdu,zdv,zdw,zdx,zdy,zdz,ze2,ze3,ze9,zea,zeb,zec,zeo,zep,zeu,zf5,zf6,zf7,zf8,zf9,zfa,zfb,zfg,zfm,zfo,zfp,zfq,zfr,zfs,zft,zfu,zfv,zfw,zfy,zfz,zg0,zg1,zhf,zje,zkn,zko,zkp, z]; all_goals tactic => exact rfl))
  · rw [if_neg h]
    have g := eq_false h
    rw [r52 (by simp)]; unfold x52; dsimp only
    (sym => (simp [yC_nm, yC_rn, yM_s, yC_gr, yC_sl, yC_fz, yC_len, yC_0, yC_1, yC_2, yC_3, yC_4, yC_15, yC_same, z00,z01,z03,z04,z05,z06,z07,z09,z0b,z0c,z0f,z0n,z0r,z0s,z0v,z12,z15,z1c,z1f,z1j,z1r,z1u,z20,z21,z29,z2b,z2g,z2h,z2j,z2u,z2v,z33,z34,z3h,z4f,z4l,z4o,z4p,z4q,z4t,z4u,z4w,z54,z57,z59,z5d,z66,z69,z6a,z6b,z6e,z6f,z6h,z6p,z6t,z6x,z70,z7r,z7u,z7v,z7w,z7z,z82,z8d,z8j,z9d,z9e,z9g,z9j,z9k,z9l,z9m,z9n,z9p,z9r,z9s,z9v,z9w,z9y,za0,za1,za2,za3,za5,za6,za7,za8,za9,zaa,zab,zae,zaf,zag,zal,zam,zaq,zas,zat,zba,zbc,zbd,zbf,zbg,zbk,zbt,zbu,zbw,zbx,zby,zbz,zc2,zc3,zc4,zc5,zc6,zc8,zca,zcc,zcd,zce,zcf,zcg,zch,zcj,zcn,zco,zcp,zcq,zcr,zct,zcu,zcv,zcw,zcx,zcy,zd3,zd5,zd6,zd7,zdd,zdj,zdk,zdl,zdo,zds,zdt,zdu,zdv,zdw,zdx,zdy,zdz,ze2,ze3,ze9,zea,zeb,zec,zeo,zep,zeu,zf5,zf6,zf7,zf8,zf9,zfa,zfb,zfg,zfm,zfo,zfp,zfq,zfr,zfs,zft,zfu,zfv,zfw,zfy,zfz,zg0,zg1,zhf,zje,zkn,zko,zkp, e22, g]; all_goals tactic => exact rfl))
end Go.Proofs.YtpbeclkpohehgaaDoor
namespace Go.Proofs.YtpbeclkpohehgaaDoor
open Go Go.DL
set_option maxRecDepth 100000
set_option maxHeartbeats 2000000

/-- What the next load of an order may not be. -/
def ordE (n : Nat) (b : Nat → Nat) (a : Nat) (v : Int) : Int := if btw 0 v ((n : Int) - 1) then (if a.testBit v.toNat then 6 else if dif (b v.toNat) a = 0 then 0 else 21) else 5
def orderE (n : Nat) (b : Nat → Nat) (o : List Int) : Int := if o.length = n then firstN (fun i => ordE n b (allT o 0 i) (o.getD i 0)) o.length else 3
theorem ordE_of {n : Nat} {b : Nat → Nat} {a : Nat} (v : Int) : (btw 0 v ((n : Int) - 1) = true ∧ (0 ≤ v ∧ v < n) ∧ a.testBit v.toNat = false ∧ dif (b v.toNat) a = 0 ∧ ordE n b a v = 0) ∨ (btw 0 v ((n : Int) - 1) = true ∧ (0 ≤ v ∧ v < n) ∧ a.testBit v.toNat = false ∧ ¬ dif (b v.toNat) a = 0 ∧ ordE n b a v = 21) ∨
    (btw 0 v ((n : Int) - 1) = true ∧ (0 ≤ v ∧ v < n) ∧ a.testBit v.toNat = true ∧ ordE n b a v = 6) ∨ (btw 0 v ((n : Int) - 1) = false ∧ ordE n b a v = 5) := by
  unfold ordE
  cases h : btw 0 v ((n : Int) - 1)
  · simp
  · have := btwF.1 h
    cases a.testBit v.toNat
    · by_cases hd : dif (b v.toNat) a = 0
      · exact .inl ⟨rfl, by omega, rfl, hd, by simp [hd]⟩
      · exact .inr (.inl ⟨rfl, by omega, rfl, hd, by simp [hd]⟩)
    · exact .inr (.inr (.inl ⟨rfl, by omega, rfl, by simp⟩))
theorem allT_lt2 {n : Nat} {b : Nat → Nat} (hn : n ≤ 10) {o : List Int} : ∀ m, (∀ i, i < m → ordE n b (allT o 0 i) (o.getD i 0) = 0) → allT o 0 m < 2 ^ 10
  | 0, _ => by show 0 < 2 ^ 10; omega
  | m + 1, h => by
    have ih := allT_lt2 hn m fun i hi => h i (by omega)
    rcases ordE_of (n := n) (b := b) (a := allT o 0 m) (o.getD m 0) with ⟨_, h1, _⟩ | ⟨_, _, _, _, h4⟩ | ⟨_, _, _, h4⟩ | ⟨_, h4⟩
    · rw [allT]
      exact or_lt ih (by omega)
    all_goals (rw [h m (by omega)] at h4; simp at h4)
section
variable {l : Li} {b : Nat → Nat} {o : List Int} {es : List (AV × AV)} {a : Nat}
theorem neg_dif {k : IntKind} (hk : big k) {x a : Nat} (hx : x < 2 ^ 63) (ha : a < 2 ^ 63) (h : dif x a = 0) : (bitsA .andNot k (x : Int) (a : Int) = 0) = True := by
  rw [bits_dif hk hx ha, h]; exact eq_true rfl
theorem pos_dif {k : IntKind} (hk : big k) {x a : Nat} (hx : x < 2 ^ 63) (ha : a < 2 ^ 63) (h : ¬ dif x a = 0) : (bitsA .andNot k (x : Int) (a : Int) = 0) = False := by
  rw [bits_dif hk hx ha]; exact eq_false (by omega)
theorem round53 (hn : l.ls.length ≤ 10) (ha : a < 2 ^ 10) (hb : ∀ k, b k < 2 ^ 10) {i : Nat} {v : Int} (hv : o[i]? = some v) (ho : o.length ≤ 10) (he : ordE l.ls.length b a v = 0) :
    headX 2 [0, 5, 17, 18, 19] (execW progX 53 2 none (match x53l0 with | .loop _ a => a | c => c) (envL [0, 5, 17, 18, 19] [.pt 0 0, U a, rI o, I o.length, I (i : Nat)]) (hY l b es)) =
      some ([.pt 0 0, U (a ||| 2 ^ v.toNat), rI o, I o.length, I (i + 1 : Nat)], hY l b es) := by
  have a1 := lt_ix (lt_of hv)
  have a2 := up_ix (lt_of hv) (by omega)
  have a3 : IntKind.i64.wrap ((l.ls.length : Int) - 1) = (l.ls.length : Int) - 1 := wrap_ok (by omega) (by omega)
  rcases ordE_of (n := l.ls.length) (b := b) (a := a) v with ⟨h1, h2, h3, h4, h5⟩ | ⟨_, _, _, _, h4⟩ | ⟨_, _, _, h4⟩ | ⟨_, h4⟩
  · have n0 : (v < 0) = False := eq_false (by omega)
    have c1 : (0 ≤ v) = True := eq_true (by omega)
    have c2 : (v < 10) = True := eq_true (by omega)
    have e := w83 (a := a) (lo_63 ha) (i := v) (j := v.toNat) (by omega) (by omega)
    have o1 := or_u ha (v := v) (by omega)
    have o2 := or_u1 ha (v := v) (by omega)
    have s1 := yC_b (l := l) (b := b) (m := 1) (k := v.toNat) (by omega)
    have d1 := neg_dif big_u (lo_63 (hb v.toNat)) (lo_63 ha) h4
    rw [h3] at e
    generalize a ||| 2 ^ v.toNat = a' at *
    unfold x53l0
    dsimp only
    (sym => (simp [yC_nm, yC_rn, yM_s, yC_gr, yC_sl, yC_fz, yC_len, yC_0, yC_1, yC_2, yC_3, yC_4, yC_15, yC_same, z00,z01,z05,z07,z0b,z0c,z0n,z0u,z0v,z0z,z12,z14,z15,z1f,z1j,z1r,z1u,z20,z21,z26,z29,z2b,z2g,z2h,z2j,z2k,z2p,z2r,z2u,z2v,z33,z34,z40,z4j,z4l,z4q,z4t,z66,z67,z6b,z6e,z9d,z9e,z9g,z9m,z9p,z9r,z9w,z9y,za1,za2,za3,za5,za6,za7,za8,zaa,zab,zae,zaf,zag,zak,zal,zam,zaq,zas,zat,zca,zcc,zcd,zce,zcf,zcg,zcn,zco,zcp,zcq,zcr,zcs,zct,zcu,zcv,zcw,zcx,zcy,zd6,zdd,zdj,zdk,zdo,zds,zdt,zdu,zdv,zf6,zf7,zf8,zf9,zfb,zfm,zfo,zfq,zfs,zft,zfw,zfz,zg0,zg1,zhd,zk2,zkm, a1, a2, a3, hv, w58, h1, n0, c1, c2, e, o1, o2, s1, d1]; all_goals tactic => exact rfl))
  all_goals (rw [h4] at he; simp at he)
theorem left53 (hn : l.ls.length ≤ 10) (ha : a < 2 ^ 10) (hb : ∀ k, b k < 2 ^ 10) {i : Nat} {v : Int} (hv : o[i]? = some v) (ho : o.length ≤ 10) (he : ordE l.ls.length b a v ≠ 0) :
    ∃ e h, execW progX 53 2 none (match x53l0 with | .loop _ a => a | c => c) (envL [0, 5, 17, 18, 19] [.pt 0 0, U a, rI o, I o.length, I (i : Nat)]) (hY l b es) = some (.ret, e, h) ∧ retX [(4, none)] false 2 (some (.ret, e, h)) = some (I (ordE l.ls.length b a v), hY l b es) := by
  have a1 := lt_ix (lt_of hv)
  have a3 : IntKind.i64.wrap ((l.ls.length : Int) - 1) = (l.ls.length : Int) - 1 := wrap_ok (by omega) (by omega)
  have c1 := pad
  have c2 := pad
  have e := pad
  have s1 := pad
  have d1 := pad
  refine ret_of ?_ ?_
  all_goals unfold x53l0
  all_goals dsimp only
  all_goals rcases ordE_of (n := l.ls.length) (b := b) (a := a) v with ⟨_, _, _, _, h4⟩ | ⟨h1, h2, h3, h4, h5⟩ | ⟨h1, h2, h3, h5⟩ | ⟨h1, h5⟩
  all_goals first | exact absurd h4 he | skip
  all_goals try rw [h5]
  · have c1 : (0 ≤ v) = True := eq_true (by omega)
    have c2 : (v < 10) = True := eq_true (by omega)
    have e := w83 (a := a) (lo_63 ha) (i := v) (j := v.toNat) (by omega) (by omega)
    have s1 := yC_b (l := l) (b := b) (m := 1) (k := v.toNat) (by omega)
    have d1 := pos_dif big_u (lo_63 (hb v.toNat)) (lo_63 ha) h4
    rw [h3] at e
    (sym => (simp [yC_nm, yC_rn, yM_s, yC_gr, yC_sl, yC_fz, yC_len, yC_0, yC_1, yC_2, yC_3, yC_4, yC_15, yC_same, z00,z01,z05,z07,z0b,z0c,z0n,z0u,z0v,z0z,z12,z14,z15,z1f,z1j,z1r,z1u,z20,z21,z26,z29,z2b,z2g,z2h,z2k,z2u,z2v,z33,z34,z40,z4j,z4l,z66,z67,z6p,z7r,z9d,z9e,z9g,z9m,z9p,z9r,z9w,z9y,za1,za2,za3,za5,za6,za7,za8,zaa,zab,zae,zaf,zag,zak,zal,zam,zaq,zas,zat,zba,zbt,zbu,zbw,zbx,zby,zbz,zc0,zc3,zc4,zc5,zc6,zca,zce,zcf,zcg,zci,zcn,zco,zcq,zcr,zcs,zct,zcu,zcv,zcw,zcx,zcy,zd6,zd7,zdd,zdj,zdk,zdl,zdo,zds,zdt,zdu,zdv,zf6,zf7,zf8,zf9,zfb,zfm,zfo,zfp,zfq,zfs,zft,zfv,zfx,zg0,zg1,zhd,zje,zk2,zkm, a1, a3, hv, w58, h1, c1, c2, e, s1, d1]; all_goals tactic => exact rfl))
  · have e := w83 (a := a) (lo_63 ha) (i := v) (j := v.toNat) (by omega) (by omega)
    rw [h3] at e
    (sym => (simp [yC_nm, yC_rn, yM_s, yC_gr, yC_sl, yC_fz, yC_len, yC_0, yC_1, yC_2, yC_3, yC_4, yC_15, yC_same, z00,z01,z05,z07,z0b,z0c,z0n,z0u,z0v,z0z,z12,z14,z15,z1f,z1j,z1r,z1u,z20,z21,z26,z29,z2b,z2g,z2h,z2k,z2u,z2v,z33,z34,z40,z4j,z4l,z66,z67,z6p,z7r,z9d,z9e,z9g,z9m,z9p,z9r,z9w,z9y,za1,za2,za3,za5,za6,za7,za8,zaa,zab,zae,zaf,zag,zak,zal,zam,zaq,zas,zat,zba,zbt,zbu,zbw,zbx,zby,zbz,zc0,zc3,zc4,zc5,zc6,zca,zce,zcf,zcg,zci,zcn,zco,zcq,zcr,zcs,zct,zcu,zcv,zcw,zcx,zcy,zd6,zd7,zdd,zdj,zdk,zdl,zdo,zds,zdt,zdu,zdv,zf6,zf7,zf8,zf9,zfb,zfm,zfo,zfp,zfq,zfs,zft,zfv,zfx,zg0,zg1,zhd,zje,zk2,zkm, a1, a3, hv, w58, h1, e]; all_goals tactic => exact rfl))
  · (sym => (simp [yC_nm, yC_rn, yM_s, yC_gr, yC_sl, yC_fz, yC_len, yC_0, yC_1, yC_2, yC_3, yC_4, yC_15, yC_same, z00,z01,z05,z07,z0b,z0c,z0n,z0u,z0v,z0z,z12,z14,z15,z1f,z1j,z1r,z1u,z20,z21,z26,z29,z2b,z2g,z2h,z2k,z2u,z2v,z33,z34,z40,z4j,z4l,z66,z67,z6p,z7r,z9d,z9e,z9g,z9m,z9p,z9r,z9w,z9y,za1,za2,za3,za5,za6,za7,za8,zaa,zab,zae,zaf,zag,zak,zal,zam,zaq,zas,zat,zba,zbt,zbu,zbw,zbx,zby,zbz,zc0,zc3,zc4,zc5,zc6,zca,zce,zcf,zcg,zci,zcn,zco,zcq,zcr,zcs,zct,zcu,zcv,zcw,zcx,zcy,zd6,zd7,zdd,zdj,zdk,zdl,zdo,zds,zdt,zdu,zdv,zf6,zf7,zf8,zf9,zfb,zfm,zfo,zfp,zfq,zfs,zft,zfv,zfx,zg0,zg1,zhd,zje,zk2,zkm, a1, a3, hv, w58, h1]; all_goals tactic => exact rfl))
  · have c1 : (0 ≤ v) = True := eq_true (by omega)
    have c2 : (v < 10) = True := eq_true (by omega)
    have e := w83 (a := a) (lo_63 ha) (i := v) (j := v.toNat) (by omega) (by omega)
    have s1 := yC_b (l := l) (b := b) (m := 1) (k := v.toNat) (by omega)
    have d1 := pos_dif big_u (lo_63 (hb v.toNat)) (lo_63 ha) h4
    rw [h3] at e
    (sym => (simp [yC_nm, yC_rn, yM_s, yC_gr, yC_sl, yC_fz, yC_len, yC_0, yC_1, yC_2, yC_3, yC_4, yC_15, yC_same, z00,z01,z05,z07,z0b,z0c,z0n,z0u,z0v,z0z,z12,z14,z15,z1f,z1j,z1r,z1u,z20,z21,z26,z29,z2b,z2g,z2h,z2k,z2u,z2v,z33,z34,z40,z4j,z4l,z66,z67,z6p,z7r,z9d,z9e,z9g,z9m,z9p,z9r,z9w,z9y,za1,za2,za3,za5,za6,za7,za8,zaa,zab,zae,zaf,zag,zak,zal,zam,zaq,zas,zat,zba,zbt,zbu,zbw,zbx,zby,zbz,zc0,zc3,zc4,zc5,zc6,zca,zce,zcf,zcg,zci,zcn,zco,zcq,zcr,zcs,zct,zcu,zcv,zcw,zcx,zcy,zd6,zd7,zdd,zdj,zdk,zdl,zdo,zds,zdt,zdu,zdv,zf6,zf7,zf8,zf9,zfb,zfm,zfo,zfp,zfq,zfs,zft,zfv,zfx,zg0,zg1,zhd,zje,zk2,zkm, a1, a3, hv, w58, h1, c1, c2, e, s1, d1]; all_goals tactic => exact rfl))
  · have e := w83 (a := a) (lo_63 ha) (i := v) (j := v.toNat) (by omega) (by omega)
    rw [h3] at e
    (sym => (simp [yC_nm, yC_rn, yM_s, yC_gr, yC_sl, yC_fz, yC_len, yC_0, yC_1, yC_2, yC_3, yC_4, yC_15, yC_same, z00,z01,z05,z07,z0b,z0c,z0n,z0u,z0v,z0z,z12,z14,z15,z1f,z1j,z1r,z1u,z20,z21,z26,z29,z2b,z2g,z2h,z2k,z2u,z2v,z33,z34,z40,z4j,z4l,z66,z67,z6p,z7r,z9d,z9e,z9g,z9m,z9p,z9r,z9w,z9y,za1,za2,za3,za5,za6,za7,za8,zaa,zab,zae,zaf,zag,zak,zal,zam,zaq,zas,zat,zba,zbt,zbu,zbw,zbx,zby,zbz,zc0,zc3,zc4,zc5,zc6,zca,zce,zcf,zcg,zci,zcn,zco,zcq,zcr,zcs,zct,zcu,zcv,zcw,zcx,zcy,zd6,zd7,zdd,zdj,zdk,zdl,zdo,zds,zdt,zdu,zdv,zf6,zf7,zf8,zf9,zfb,zfm,zfo,zfp,zfq,zfs,zft,zfv,zfx,zg0,zg1,zhd,zje,zk2,zkm, a1, a3, hv, w58, h1, e]; all_goals tactic => exact rfl))
  · (sym => (simp [yC_nm, yC_rn, yM_s, yC_gr, yC_sl, yC_fz, yC_len, yC_0, yC_1, yC_2, yC_3, yC_4, yC_15, yC_same, z00,z01,z05,z07,z0b,z0c,z0n,z0u,z0v,z0z,z12,z14,z15,z1f,z1j,z1r,z1u,z20,z21,z26,z29,z2b,z2g,z2h,z2k,z2u,z2v,z33,z34,z40,z4j,z4l,z66,z67,z6p,z7r,z9d,z9e,z9g,z9m,z9p,z9r,z9w,z9y,za1,za2,za3,za5,za6,za7,za8,zaa,zab,zae,zaf,zag,zak,zal,zam,zaq,zas,zat,zba,zbt,zbu,zbw,zbx,zby,zbz,zc0,zc3,zc4,zc5,zc6,zca,zce,zcf,zcg,zci,zcn,zco,zcq,zcr,zcs,zct,zcu,zcv,zcw,zcx,zcy,zd6,zd7,zdd,zdj,zdk,zdl,zdo,zds,zdt,zdu,zdv,zf6,zf7,zf8,zf9,zfb,zfm,zfo,zfp,zfq,zfs,zft,zfv,zfx,zg0,zg1,zhd,zje,zk2,zkm, a1, a3, hv, w58, h1]; all_goals tactic => exact rfl))
theorem w53 (hn : l.ls.length ≤ 10) (hb : ∀ k, b k < 2 ^ 10) (o : List Int) : runW progX 53 [.pt 0 0, rI o] (hY l b es) = some (I (orderE l.ls.length b o), hY l b es) := by
  unfold orderE
  by_cases ho : o.length = l.ls.length
  · rw [if_pos ho]
    have g : ((o.length : Int) = (l.ls.length : Int)) = True := eq_true (by omega)
    have z := zf5 (n := (o.length : Int))
    obtain ⟨q, q1, q2, q3⟩ := firstN_ix (fun i => ordE l.ls.length b (allT o 0 i) (o.getD i 0)) o.length
    have al0 : allT o 0 0 = 0 := rfl
    have rd : ∀ i, i < q → headX 2 [0, 5, 17, 18, 19] (execW progX 53 2 none (match x53l0 with | .loop _ a => a | c => c) (envL [0, 5, 17, 18, 19] [.pt 0 0, U (allT o 0 i), rI o, I o.length, I (i : Nat)]) (hY l b es)) =
      some ([.pt 0 0, U (allT o 0 (i + 1)), rI o, I o.length, I (i + 1 : Nat)], hY l b es) := by
      intro i hi
      obtain ⟨v, hv⟩ := at_ix (l := o) (i := i) (by omega)
      have e0 := q2 i hi
      rw [getD_of hv] at e0
      rw [allT, getD_of hv]
      exact round53 hn (allT_lt2 hn i fun i hi => q2 i (by omega)) hb hv (by omega) e0
    rcases q3 with ⟨rfl, e⟩ | ⟨q3, q4, e⟩
    · rw [e]
      rw [r53 (by simp)]; unfold x53; dsimp only
      sym =>
        simp [yC_nm, yC_rn, yM_s, yC_gr, yC_sl, yC_fz, yC_len, yC_0, yC_1, yC_2, yC_3, yC_4, yC_15, yC_same, z00,z01,z05,z07,z0b,z0c,z0n,z0u,z0v,z12,z1f,z1j,z29,z2b,z2u,z2v,z3h,z4j,z4l,z4q,z4t,z66,z6b,z6e,z6p,z7r,z7w,z7z,z9d,z9e,z9g,z9n,z9r,z9w,z9y,za1,za3,za5,za6,za7,za8,zae,zaf,zag,zak,zal,zam,zba,zbt,zbu,zbw,zbx,zby,zbz,zc0,zc3,zc4,zc5,zc6,zc8,zca,zcc,zcd,zce,zcf,zcg,zch,zcj,zcn,zco,zcp,zcq,zcr,zcs,zct,zcu,zcv,zcw,zd6,zd7,zdj,zdk,zdl,zdo,zds,zdt,zdu,zdv,ze2,ze3,zf5,zf6,zf7,zfb,zfm,zfo,zfp,zfq,zfr,zfs,zft,zfu,zfv,zfy,zfz,zg0,zg1,zje, g]
        tactic =>
          unfold x53l0
          rw [loop_rule o.length (fun i => [.pt 0 0, U (allT o 0 i), rI o, I o.length, I (i : Nat)]) (fun _ => hY l b es)]
          · (sym => (simp [yC_nm, yC_rn, yM_s, yC_gr, yC_sl, yC_fz, yC_len, yC_0, yC_1, yC_2, yC_3, yC_4, yC_15, yC_same, z00,z01,z05,z07,z0b,z0c,z0n,z0u,z0v,z12,z1f,z1j,z29,z2b,z2u,z2v,z3h,z4j,z4l,z4q,z4t,z66,z6b,z6e,z6p,z7r,z7w,z7z,z9d,z9e,z9g,z9n,z9r,z9w,z9y,za1,za3,za5,za6,za7,za8,zae,zaf,zag,zak,zal,zam,zba,zbt,zbu,zbw,zbx,zby,zbz,zc0,zc3,zc4,zc5,zc6,zc8,zca,zcc,zcd,zce,zcf,zcg,zch,zcj,zcn,zco,zcp,zcq,zcr,zcs,zct,zcu,zcv,zcw,zd6,zd7,zdj,zdk,zdl,zdo,zds,zdt,zdu,zdv,ze2,ze3,zf5,zf6,zf7,zfb,zfm,zfo,zfp,zfq,zfr,zfs,zft,zfu,zfv,zfy,zfz,zg0,zg1,zje, z]; all_goals tactic => exact rfl))
          · (sym => (simp [yC_nm, yC_rn, yM_s, yC_gr, yC_sl, yC_fz, yC_len, yC_0, yC_1, yC_2, yC_3, yC_4, yC_15, yC_same, z00,z01,z05,z07,z0b,z0c,z0n,z0u,z0v,z12,z1f,z1j,z29,z2b,z2u,z2v,z3h,z4j,z4l,z4q,z4t,z66,z6b,z6e,z6p,z7r,z7w,z7z,z9d,z9e,z9g,z9n,z9r,z9w,z9y,za1,za3,za5,za6,za7,za8,zae,zaf,zag,zak,zal,zam,zba,zbt,zbu,zbw,zbx,zby,zbz,zc0,zc3,zc4,zc5,zc6,zc8,zca,zcc,zcd,zce,zcf,zcg,zch,zcj,zcn,zco,zcp,zcq,zcr,zcs,zct,zcu,zcv,zcw,zd6,zd7,zdj,zdk,zdl,zdo,zds,zdt,zdu,zdv,ze2,ze3,zf5,zf6,zf7,zfb,zfm,zfo,zfp,zfq,zfr,zfs,zft,zfu,zfv,zfy,zfz,zg0,zg1,zje, al0]; all_goals tactic => exact rfl))
          · exact rd
          · (sym => (simp [yC_nm, yC_rn, yM_s, yC_gr, yC_sl, yC_fz, yC_len, yC_0, yC_1, yC_2, yC_3, yC_4, yC_15, yC_same, z00,z01,z05,z07,z0b,z0c,z0n,z0u,z0v,z12,z1f,z1j,z29,z2b,z2u,z2v,z3h,z4j,z4l,z4q,z4t,z66,z6b,z6e,z6p,z7r,z7w,z7z,z9d,z9e,z9g,z9n,z9r,z9w,z9y,za1,za3,za5,za6,za7,za8,zae,zaf,zag,zak,zal,zam,zba,zbt,zbu,zbw,zbx,zby,zbz,zc0,zc3,zc4,zc5,zc6,zc8,zca,zcc,zcd,zce,zcf,zcg,zch,zcj,zcn,zco,zcp,zcq,zcr,zcs,zct,zcu,zcv,zcw,zd6,zd7,zdj,zdk,zdl,zdo,zds,zdt,zdu,zdv,ze2,ze3,zf5,zf6,zf7,zfb,zfm,zfo,zfp,zfq,zfr,zfs,zft,zfu,zfv,zfy,zfz,zg0,zg1,zje, z]; all_goals tactic => exact rfl))
    · rw [e]
      obtain ⟨v, hv⟩ := at_ix q3
      rw [getD_of hv] at q4 ⊢
      obtain ⟨eo, ho2, p1, p2⟩ := left53 (l := l) (es := es) hn (allT_lt2 hn q q2) hb hv (by omega) q4
      rw [r53 (by simp)]; unfold x53; dsimp only
      sym =>
        simp [yC_nm, yC_rn, yM_s, yC_gr, yC_sl, yC_fz, yC_len, yC_0, yC_1, yC_2, yC_3, yC_4, yC_15, yC_same, z00,z01,z05,z07,z0b,z0c,z0n,z0u,z0v,z12,z1f,z1j,z29,z2b,z2u,z2v,z3h,z4j,z4l,z4q,z4t,z66,z6b,z6e,z6p,z7r,z7w,z7z,z9d,z9e,z9g,z9n,z9r,z9w,z9y,za1,za3,za5,za6,za7,za8,zae,zaf,zag,zak,zal,zam,zba,zbt,zbu,zbw,zbx,zby,zbz,zc0,zc3,zc4,zc5,zc6,zc8,zca,zcc,zcd,zce,zcf,zcg,zch,zcj,zcn,zco,zcp,zcq,zcr,zcs,zct,zcu,zcv,zcw,zd6,zd7,zdj,zdk,zdl,zdo,zds,zdt,zdu,zdv,ze2,ze3,zf5,zf6,zf7,zfb,zfm,zfo,zfp,zfq,zfr,zfs,zft,zfu,zfv,zfy,zfz,zg0,zg1,zje, g]
        tactic =>
          unfold x53l0 at p1 ⊢
          dsimp only at p1
          rw [loop_rule q (fun i => [.pt 0 0, U (allT o 0 i), rI o, I o.length, I (i : Nat)]) (fun _ => hY l b es)]
          · rw [p1]
            exact p2
          · (sym => (simp [yC_nm, yC_rn, yM_s, yC_gr, yC_sl, yC_fz, yC_len, yC_0, yC_1, yC_2, yC_3, yC_4, yC_15, yC_same, z00,z01,z05,z07,z0b,z0c,z0n,z0u,z0v,z12,z1f,z1j,z29,z2b,z2u,z2v,z3h,z4j,z4l,z4q,z4t,z66,z6b,z6e,z6p,z7r,z7w,z7z,z9d,z9e,z9g,z9n,z9r,z9w,z9y,za1,za3,za5,za6,za7,za8,zae,zaf,zag,zak,zal,zam,zba,zbt,zbu,zbw,zbx,zby,zbz,zc0,zc3,zc4,zc5,zc6,zc8,zca,zcc,zcd,zce,zcf,zcg,zch,zcj,zcn,zco,zcp,zcq,zcr,zcs,zct,zcu,zcv,zcw,zd6,zd7,zdj,zdk,zdl,zdo,zds,zdt,zdu,zdv,ze2,ze3,zf5,zf6,zf7,zfb,zfm,zfo,zfp,zfq,zfr,zfs,zft,zfu,zfv,zfy,zfz,zg0,zg1,zje, al0]; all_goals tactic => exact rfl))
          · exact rd
          · rw [p1]
            rfl
  · rw [if_neg ho]
    have g : ((o.length : Int) = (l.ls.length : Int)) = False := eq_false (by omega)
    rw [r53 (by simp)]; unfold x53; dsimp only
    (sym => (simp [yC_nm, yC_rn, yM_s, yC_gr, yC_sl, yC_fz, yC_len, yC_0, yC_1, yC_2, yC_3, yC_4, yC_15, yC_same, z00,z01,z05,z07,z0b,z0c,z0n,z0u,z0v,z12,z1f,z1j,z29,z2b,z2u,z2v,z3h,z4j,z4l,z4q,z4t,z66,z6b,z6e,z6p,z7r,z7w,z7z,z9d,z9e,z9g,z9n,z9r,z9w,z9y,za1,za3,za5,za6,za7,za8,zae,zaf,zag,zak,zal,zam,zba,zbt,zbu,zbw,zbx,zby,zbz,zc0,zc3,zc4,zc5,zc6,zc8,zca,zcc,zcd,zce,zcf,zcg,zch,zcj,zcn,zco,zcp,zcq,zcr,zcs,zct,zcu,zcv,zcw,zd6,zd7,zdj,zdk,zdl,zdo,zds,zdt,zdu,zdv,ze2,ze3,zf5,zf6,zf7,zfb,zfm,zfo,zfp,zfq,zfr,zfs,zft,zfu,zfv,zfy,zfz,zg0,zg1,zje, g]; all_goals tactic => exact rfl))
end
end Go.Proofs.YtpbeclkpohehgaaDoor
namespace Go.Proofs.YtpbeclkpohehgaaDoor
open Go Go.DL
set_option maxRecDepth 100000
set_option maxHeartbeats 2000000

def bL (n : Nat) (b : Nat → Nat) : List Int := (List.range n).map fun k => (b k : Int)
theorem bL_len (n : Nat) (b : Nat → Nat) : (bL n b).length = n := by simp [bL]
theorem bL_get {n k : Nat} {b : Nat → Nat} (h : k < n) : (bL n b)[k]? = some (b k : Int) := by
  unfold bL
  rw [List.getElem?_map, List.getElem?_range h]; rfl
theorem bL_set {n k : Nat} {b : Nat → Nat} {a : Nat} (h : k < n) : setX (bL n b) k (a : Int) = bL n (fun x => if x = k then a else b x) := by
  rw [setX_set (by rw [bL_len]; exact h)]
  apply List.ext_getElem
  · simp [bL]
  · intro i h1 h2
    rw [List.getElem_set]
    simp only [bL, List.getElem_map, List.getElem_range]
    by_cases hk : k = i
    · simp [hk]
    · rw [if_neg hk, if_neg (Ne.symm hk)]
theorem bL_0 (n : Nat) : List.replicate n (0 : Int) = bL n (fun _ => 0) := by
  apply List.ext_getElem
  · simp [bL]
  · intro i h1 h2
    simp [bL]
theorem bL_ch (n : Nat) (b : Nat → Nat) : chunks ((bL n b).map I) 0 1 n = (bL n b).map fun v => [I v] := by
  have := zhk (hs := bL n b)
  rw [bL_len] at this
  exact this
theorem or_i {a : Nat} (ha : a < 2 ^ 10) {v : Int} (h : 0 ≤ v ∧ v < 10) : bitsA .or .i64 (a : Int) (IntKind.i64.wrap (1 * 2 ^ min v.toNat IntKind.i64.bits)) = ((a ||| 2 ^ v.toNat : Nat) : Int) := by
  rw [shl_one big_i (by omega), bits_or big_i (lo_63 ha) (Nat.pow_lt_pow_right (by omega) (by omega))]
theorem or_i1 {a : Nat} (ha : a < 2 ^ 10) {v : Int} (h : 0 ≤ v ∧ v < 10) : bitsA .or .i64 (a : Int) (IntKind.i64.wrap (2 ^ min v.toNat IntKind.i64.bits)) = ((a ||| 2 ^ v.toNat : Nat) : Int) := by
  rw [shl_1 big_i (by omega), bits_or big_i (lo_63 ha) (Nat.pow_lt_pow_right (by omega) (by omega))]
section
variable {l : Li} {b : Nat → Nat} {t : List Int} {j : Nat}
abbrev hR (l : Li) (b : Nat → Nat) : XH := [some (.blk true (.cells true l.c)), some (.blk true (.cells true ((bL l.ls.length b).map I)))]
theorem round76 (hn : l.ls.length ≤ 10) (ht : l.ts[j]? = some t) {i : Nat} {v : Int} (hv : t[i]? = some v) (hth : t.length ≤ 9223372036854775807) {a : Nat} (ha : a < 2 ^ 10) (he : 0 ≤ v ∧ v < l.ls.length) :
    headX 0 [1, 3, 4, 5, 6] (execW progX 76 0 none (match x76l0 with | .loop _ a => a | c => c) (envL [1, 3, 4, 5, 6] [.pt 0 0, .sl 1 0 1 l.ls.length, I (j : Nat), I a, I (i : Nat)]) (hR l b)) =
      some ([.pt 0 0, .sl 1 0 1 l.ls.length, I (j : Nat), I (a ||| 2 ^ v.toNat : Nat), I (i + 1 : Nat)], hR l (fun x => if x = v.toNat then a else b x)) := by
  have b1 := lt_ix (lt_of ht)
  have a1 := lt_ix (lt_of hv)
  have a2 := up_ix (lt_of hv) hth
  have n0 : (v < 0) = False := eq_false (by omega)
  have c1 : (0 ≤ v) = True := eq_true (by omega)
  have c2 : (v < (l.ls.length : Int)) = True := eq_true (by omega)
  have o1 := or_i ha (v := v) (by omega)
  have o2 := or_i1 ha (v := v) (by omega)
  have s1 := bL_set (n := l.ls.length) (b := b) (k := v.toNat) (a := a) (by omega)
  have s2 : (v.toNat + 1 ≤ (bL l.ls.length b).length) = True := eq_true (by rw [bL_len]; omega)
  generalize a ||| 2 ^ v.toNat = a' at *
  unfold x76l0
  dsimp only
  (sym => (simp [z00,z01,z02,z05,z07,z0b,z0c,z0n,z0v,z12,z15,z1f,z1j,z1n,z1o,z29,z2b,z2f,z2g,z2h,z2j,z2p,z2r,z2v,z33,z34,z4l,z4s,z4t,z54,z66,z6d,z6e,z8a,z9d,z9e,z9g,z9i,z9p,z9r,z9s,z9v,z9w,z9y,za0,za1,za3,za6,za7,za8,za9,zae,zaf,zal,zca,zcc,zcd,zce,zcf,zcn,zco,zcp,zcq,zcr,zct,zcu,zcv,zcw,zcx,zcy,zd3,zdd,zdj,zdk,zds,zdt,zdu,zdv,zdw,zdx,zf6,zf7,zf8,zf9,zfb,zfc,zfd,zfm,zfo,zfq,zfs,zft,zfw,zfz,zg0,zg1,zhd,zhe,zhf,zhi, b1, a1, a2, ht, hv, n0, c1, c2, o1, o2, s1, s2]; all_goals tactic => exact rfl))
end
theorem w76 {l : Li} (hf : l.Fit) (g : Good l) : runW progX 76 [.agg l.c] [] = some (rI (bL l.ls.length (behF l.ts)), []) := by
  have z := zf5 (n := (l.ts.length : Int))
  have hn := g.few
  have k1 : (0 ≤ (l.ls.length : Int)) = True := eq_true (by omega)
  have k2 : (8 * (l.ls.length : Int) ≤ 281474976710656) = True := eq_true (by omega)
  have k3 : ((l.ls.length : Int) ≤ 9223372036854775807) = True := eq_true (by omega)
  have k4 : ((l.ls.length : Int) ≤ (l.ls.length : Int)) = True := eq_true (by omega)
  have r0 := bL_0 l.ls.length
  have rd : ∀ j, j < l.ts.length → headX 0 [1, 3, 4] (execW progX 76 0 none (match x76l1 with | .loop _ a => a | c => c) (envL [1, 3, 4] [.pt 0 0, .sl 1 0 1 l.ls.length, I (j : Nat)]) (hR l (bA l.ts j))) = some ([.pt 0 0, .sl 1 0 1 l.ls.length, I (j + 1 : Nat)], hR l (bA l.ts (j + 1))) := by
    intro j hj
    obtain ⟨t, ht⟩ := at_ix hj
    have b1 := lt_ix hj
    have b2 := up_ix hj hf.ts
    have hth := hf.each t (List.mem_of_getElem? ht)
    have z := zf5 (n := (t.length : Int))
    have hel := fun i hi => g.el ht (i := i) hi
    have al0 : allT t 0 0 = 0 := rfl
    rw [bA, getD_of ht]
    generalize bA l.ts j = b
    have bt0 : bT t b 0 = b := rfl
    have rdi : ∀ i, i < t.length → headX 0 [1, 3, 4, 5, 6] (execW progX 76 0 none (match x76l0 with | .loop _ a => a | c => c) (envL [1, 3, 4, 5, 6] [.pt 0 0, .sl 1 0 1 l.ls.length, I (j : Nat), I (allT t 0 i), I (i : Nat)]) (hR l (bT t b i))) = some ([.pt 0 0, .sl 1 0 1 l.ls.length, I (j : Nat), I (allT t 0 (i + 1)), I (i + 1 : Nat)], hR l (bT t b (i + 1))) := by
      intro i hi
      obtain ⟨v, hv⟩ := at_ix hi
      have hv2 := hel i hi
      rw [bT, allT]
      rw [getD_of hv] at hv2 ⊢
      exact round76 g.few ht hv hth (allT_of0 g.few hel (by omega) i (by omega)) (by omega)
    unfold x76l1
    dsimp only
    sym =>
      simp [z00,z01,z05,z07,z0b,z0c,z0f,z0n,z0r,z0v,z12,z15,z18,z1f,z1j,z29,z2b,z2g,z2h,z2j,z2v,z33,z34,z3h,z3x,z4l,z4q,z4s,z4t,z54,z57,z59,z66,z6b,z6d,z6e,z6w,z7f,z7r,z7u,z7w,z8d,z9d,z9e,z9g,z9i,z9n,z9p,z9r,z9s,z9v,z9w,z9y,za0,za1,za3,za6,za7,za8,za9,zae,zaf,zal,zb4,zb5,zb9,zba,zbb,zbm,zbp,zbt,zbu,zbw,zbx,zby,zbz,zc0,zc3,zc4,zc5,zc6,zc8,zca,zcc,zcd,zce,zcf,zcg,zch,zcj,zcn,zco,zcp,zcq,zcr,zct,zcu,zcv,zcw,zcx,zcy,zd3,zdd,zdj,zdk,zdl,zds,zdt,zdu,zdv,zdw,zdx,ze2,ze3,zeo,zep,zev,zew,zf5,zf6,zf7,zf8,zf9,zfb,zfg,zfm,zfo,zfp,zfq,zfr,zfs,zft,zfu,zfw,zfy,zfz,zg0,zg1,zhd,zhe,zhf,zhn,zje,zjg,zjj, b1]
      tactic =>
        unfold x76l0
        rw [loop_rule t.length (fun i => [.pt 0 0, .sl 1 0 1 l.ls.length, I (j : Nat), I (allT t 0 i), I (i : Nat)]) (fun i => hR l (bT t b i))]
        · (sym => (simp [z00,z01,z05,z07,z0b,z0c,z0f,z0n,z0r,z0v,z12,z15,z18,z1f,z1j,z29,z2b,z2g,z2h,z2j,z2v,z33,z34,z3h,z3x,z4l,z4q,z4s,z4t,z54,z57,z59,z66,z6b,z6d,z6e,z6w,z7f,z7r,z7u,z7w,z8d,z9d,z9e,z9g,z9i,z9n,z9p,z9r,z9s,z9v,z9w,z9y,za0,za1,za3,za6,za7,za8,za9,zae,zaf,zal,zb4,zb5,zb9,zba,zbb,zbm,zbp,zbt,zbu,zbw,zbx,zby,zbz,zc0,zc3,zc4,zc5,zc6,zc8,zca,zcc,zcd,zce,zcf,zcg,zch,zcj,zcn,zco,zcp,zcq,zcr,zct,zcu,zcv,zcw,zcx,zcy,zd3,zdd,zdj,zdk,zdl,zds,zdt,zdu,zdv,zdw,zdx,ze2,ze3,zeo,zep,zev,zew,zf5,zf6,zf7,zf8,zf9,zfb,zfg,zfm,zfo,zfp,zfq,zfr,zfs,zft,zfu,zfw,zfy,zfz,zg0,zg1,zhd,zhe,zhf,zhn,zje,zjg,zjj, b1, b2, ht, z]; all_goals tactic => exact rfl))
        · (sym => (simp [z00,z01,z05,z07,z0b,z0c,z0f,z0n,z0r,z0v,z12,z15,z18,z1f,z1j,z29,z2b,z2g,z2h,z2j,z2v,z33,z34,z3h,z3x,z4l,z4q,z4s,z4t,z54,z57,z59,z66,z6b,z6d,z6e,z6w,z7f,z7r,z7u,z7w,z8d,z9d,z9e,z9g,z9i,z9n,z9p,z9r,z9s,z9v,z9w,z9y,za0,za1,za3,za6,za7,za8,za9,zae,zaf,zal,zb4,zb5,zb9,zba,zbb,zbm,zbp,zbt,zbu,zbw,zbx,zby,zbz,zc0,zc3,zc4,zc5,zc6,zc8,zca,zcc,zcd,zce,zcf,zcg,zch,zcj,zcn,zco,zcp,zcq,zcr,zct,zcu,zcv,zcw,zcx,zcy,zd3,zdd,zdj,zdk,zdl,zds,zdt,zdu,zdv,zdw,zdx,ze2,ze3,zeo,zep,zev,zew,zf5,zf6,zf7,zf8,zf9,zfb,zfg,zfm,zfo,zfp,zfq,zfr,zfs,zft,zfu,zfw,zfy,zfz,zg0,zg1,zhd,zhe,zhf,zhn,zje,zjg,zjj, al0, bt0]; all_goals tactic => exact rfl))
        · exact rdi
        · (sym => (simp [z00,z01,z05,z07,z0b,z0c,z0f,z0n,z0r,z0v,z12,z15,z18,z1f,z1j,z29,z2b,z2g,z2h,z2j,z2v,z33,z34,z3h,z3x,z4l,z4q,z4s,z4t,z54,z57,z59,z66,z6b,z6d,z6e,z6w,z7f,z7r,z7u,z7w,z8d,z9d,z9e,z9g,z9i,z9n,z9p,z9r,z9s,z9v,z9w,z9y,za0,za1,za3,za6,za7,za8,za9,zae,zaf,zal,zb4,zb5,zb9,zba,zbb,zbm,zbp,zbt,zbu,zbw,zbx,zby,zbz,zc0,zc3,zc4,zc5,zc6,zc8,zca,zcc,zcd,zce,zcf,zcg,zch,zcj,zcn,zco,zcp,zcq,zcr,zct,zcu,zcv,zcw,zcx,zcy,zd3,zdd,zdj,zdk,zdl,zds,zdt,zdu,zdv,zdw,zdx,ze2,ze3,zeo,zep,zev,zew,zf5,zf6,zf7,zf8,zf9,zfb,zfg,zfm,zfo,zfp,zfq,zfr,zfs,zft,zfu,zfw,zfy,zfz,zg0,zg1,zhd,zhe,zhf,zhn,zje,zjg,zjj, b1, ht, z]; all_goals tactic => exact rfl))
  have ch := bL_ch l.ls.length (behF l.ts)
  have s2 : (l.ls.length ≤ (bL l.ls.length (behF l.ts)).length) = True := eq_true (by rw [bL_len]; omega)
  have eb : bA l.ts l.ts.length = behF l.ts := rfl
  rw [r76 (by simp)]; unfold x76; dsimp only
  sym =>
    simp [z00,z01,z05,z07,z0b,z0c,z0f,z0n,z0r,z0v,z12,z15,z18,z1f,z1j,z29,z2b,z2g,z2h,z2j,z2v,z33,z34,z3h,z3x,z4l,z4q,z4s,z4t,z54,z57,z59,z66,z6b,z6d,z6e,z6w,z7f,z7r,z7u,z7w,z8d,z9d,z9e,z9g,z9i,z9n,z9p,z9r,z9s,z9v,z9w,z9y,za0,za1,za3,za6,za7,za8,za9,zae,zaf,zal,zb4,zb5,zb9,zba,zbb,zbm,zbp,zbt,zbu,zbw,zbx,zby,zbz,zc0,zc3,zc4,zc5,zc6,zc8,zca,zcc,zcd,zce,zcf,zcg,zch,zcj,zcn,zco,zcp,zcq,zcr,zct,zcu,zcv,zcw,zcx,zcy,zd3,zdd,zdj,zdk,zdl,zds,zdt,zdu,zdv,zdw,zdx,ze2,ze3,zeo,zep,zev,zew,zf5,zf6,zf7,zf8,zf9,zfb,zfg,zfm,zfo,zfp,zfq,zfr,zfs,zft,zfu,zfw,zfy,zfz,zg0,zg1,zhd,zhe,zhf,zhn,zje,zjg,zjj, k1, k2, k3, k4, r0]
    tactic =>
      unfold x76l1
      rw [loop_rule l.ts.length (fun j => [.pt 0 0, .sl 1 0 1 l.ls.length, I (j : Nat)]) (fun j => hR l (bA l.ts j))]
      · (sym => (simp [z00,z01,z05,z07,z0b,z0c,z0f,z0n,z0r,z0v,z12,z15,z18,z1f,z1j,z29,z2b,z2g,z2h,z2j,z2v,z33,z34,z3h,z3x,z4l,z4q,z4s,z4t,z54,z57,z59,z66,z6b,z6d,z6e,z6w,z7f,z7r,z7u,z7w,z8d,z9d,z9e,z9g,z9i,z9n,z9p,z9r,z9s,z9v,z9w,z9y,za0,za1,za3,za6,za7,za8,za9,zae,zaf,zal,zb4,zb5,zb9,zba,zbb,zbm,zbp,zbt,zbu,zbw,zbx,zby,zbz,zc0,zc3,zc4,zc5,zc6,zc8,zca,zcc,zcd,zce,zcf,zcg,zch,zcj,zcn,zco,zcp,zcq,zcr,zct,zcu,zcv,zcw,zcx,zcy,zd3,zdd,zdj,zdk,zdl,zds,zdt,zdu,zdv,zdw,zdx,ze2,ze3,zeo,zep,zev,zew,zf5,zf6,zf7,zf8,zf9,zfb,zfg,zfm,zfo,zfp,zfq,zfr,zfs,zft,zfu,zfw,zfy,zfz,zg0,zg1,zhd,zhe,zhf,zhn,zje,zjg,zjj, z, eb, ch, s2]; all_goals tactic => exact rfl))
      · (sym => (simp [z00,z01,z05,z07,z0b,z0c,z0f,z0n,z0r,z0v,z12,z15,z18,z1f,z1j,z29,z2b,z2g,z2h,z2j,z2v,z33,z34,z3h,z3x,z4l,z4q,z4s,z4t,z54,z57,z59,z66,z6b,z6d,z6e,z6w,z7f,z7r,z7u,z7w,z8d,z9d,z9e,z9g,z9i,z9n,z9p,z9r,z9s,z9v,z9w,z9y,za0,za1,za3,za6,za7,za8,za9,zae,zaf,zal,zb4,zb5,zb9,zba,zbb,zbm,zbp,zbt,zbu,zbw,zbx,zby,zbz,zc0,zc3,zc4,zc5,zc6,zc8,zca,zcc,zcd,zce,zcf,zcg,zch,zcj,zcn,zco,zcp,zcq,zcr,zct,zcu,zcv,zcw,zcx,zcy,zd3,zdd,zdj,zdk,zdl,zds,zdt,zdu,zdv,zdw,zdx,ze2,ze3,zeo,zep,zev,zew,zf5,zf6,zf7,zf8,zf9,zfb,zfg,zfm,zfo,zfp,zfq,zfr,zfs,zft,zfu,zfw,zfy,zfz,zg0,zg1,zhd,zhe,zhf,zhn,zje,zjg,zjj, bA.eq_1]; all_goals tactic => exact rfl))
      · exact rd
      · (sym => (simp [z00,z01,z05,z07,z0b,z0c,z0f,z0n,z0r,z0v,z12,z15,z18,z1f,z1j,z29,z2b,z2g,z2h,z2j,z2v,z33,z34,z3h,z3x,z4l,z4q,z4s,z4t,z54,z57,z59,z66,z6b,z6d,z6e,z6w,z7f,z7r,z7u,z7w,z8d,z9d,z9e,z9g,z9i,z9n,z9p,z9r,z9s,z9v,z9w,z9y,za0,za1,za3,za6,za7,za8,za9,zae,zaf,zal,zb4,zb5,zb9,zba,zbb,zbm,zbp,zbt,zbu,zbw,zbx,zby,zbz,zc0,zc3,zc4,zc5,zc6,zc8,zca,zcc,zcd,zce,zcf,zcg,zch,zcj,zcn,zco,zcp,zcq,zcr,zct,zcu,zcv,zcw,zcx,zcy,zd3,zdd,zdj,zdk,zdl,zds,zdt,zdu,zdv,zdw,zdx,ze2,ze3,zeo,zep,zev,zew,zf5,zf6,zf7,zf8,zf9,zfb,zfg,zfm,zfo,zfp,zfq,zfr,zfs,zft,zfu,zfw,zfy,zfz,zg0,zg1,zhd,zhe,zhf,zhn,zje,zjg,zjj, z]; all_goals tactic => exact rfl))
section
variable {l : Li} {b : Nat → Nat} {o : List Int} {a : Nat}
theorem bit_i {a : Nat} (ha : a < 2 ^ 10) {v : Int} (h : 0 ≤ v ∧ v < 10) : (bitsA .and .i64 ((a : Int).fdiv (2 ^ min v.toNat IntKind.i64.bits)) 1 = 1) = (a.testBit v.toNat = true) := bit_eq big_i (lo_63 ha) (by omega)
theorem round55 (hn : l.ls.length ≤ 10) (ha : a < 2 ^ 10) (hb : ∀ k, b k < 2 ^ 10) {i : Nat} {v : Int} (hv : o[i]? = some v) (ho : o.length ≤ 10) (he : ordE l.ls.length b a v = 0) :
    headX 0 [1, 2, 5, 6, 7] (execW progX 55 0 none (match x55l0 with | .loop _ a => a | c => c) (envL [1, 2, 5, 6, 7] [rI o, .pt 0 0, rI (bL l.ls.length b), I a, I (i : Nat)]) (hL l)) =
      some ([rI o, .pt 0 0, rI (bL l.ls.length b), I (a ||| 2 ^ v.toNat : Nat), I (i + 1 : Nat)], hL l) := by
  have a1 := lt_ix (lt_of hv)
  have a2 := up_ix (lt_of hv) (by omega)
  have a3 : IntKind.i64.wrap ((l.ls.length : Int) - 1) = (l.ls.length : Int) - 1 := wrap_ok (by omega) (by omega)
  rcases ordE_of (n := l.ls.length) (b := b) (a := a) v with ⟨h1, h2, h3, h4, h5⟩ | ⟨_, _, _, _, h4⟩ | ⟨_, _, _, h4⟩ | ⟨_, h4⟩
  · have n0 : (v < 0) = False := eq_false (by omega)
    have c1 : (0 ≤ v) = True := eq_true (by omega)
    have c2 : (v < ((bL l.ls.length b).length : Int)) = True := eq_true (by rw [bL_len]; omega)
    have e := bit_i ha (v := v) (by omega)
    have o1 := or_i ha (v := v) (by omega)
    have o2 := or_i1 ha (v := v) (by omega)
    have s1 := bL_get (n := l.ls.length) (b := b) (k := v.toNat) (by omega)
    have d1 := neg_dif big_i (lo_63 (hb v.toNat)) (lo_63 ha) h4
    rw [h3] at e
    have e := e.trans (eq_false (by simp))
    generalize a ||| 2 ^ v.toNat = a' at *
    generalize bL l.ls.length b = bl at *
    unfold x55l0
    dsimp only
    (sym => (simp [z00,z01,z05,z07,z0b,z0c,z0n,z0v,z0z,z12,z15,z1f,z1j,z1r,z1u,z20,z21,z26,z29,z2b,z2g,z2h,z2j,z2k,z2o,z2p,z2r,z2s,z2t,z2u,z2v,z33,z34,z4l,z4q,z4t,z66,z67,z6b,z6e,z9d,z9e,z9g,z9m,z9p,z9r,z9v,z9w,z9y,za0,za1,za2,za3,za5,za6,za7,za8,za9,zaa,zab,zae,zaf,zal,zaq,zas,zat,zca,zcc,zcd,zce,zcf,zcg,zcn,zco,zcq,zcr,zct,zcu,zcv,zcw,zcx,zcy,zd6,zdd,zdj,zdk,zdl,zdo,zds,zdt,zdu,zdv,zf6,zf7,zf8,zf9,zfb,zfm,zfo,zfq,zfs,zft,zfw,zfz,zg0,zg1,zhf,zkm, a1, a2, a3, hv, w62, h1, n0, c1, c2, e, o1, o2, s1, d1]; all_goals tactic => exact rfl))
  all_goals (rw [h4] at he; simp at he)
theorem left55 (hn : l.ls.length ≤ 10) (ha : a < 2 ^ 10) (hb : ∀ k, b k < 2 ^ 10) {i : Nat} {v : Int} (hv : o[i]? = some v) (ho : o.length ≤ 10) (he : ordE l.ls.length b a v ≠ 0) :
    ∃ e h, execW progX 55 0 none (match x55l0 with | .loop _ a => a | c => c) (envL [1, 2, 5, 6, 7] [rI o, .pt 0 0, rI (bL l.ls.length b), I a, I (i : Nat)]) (hL l) = some (.ret, e, h) ∧ retX [(4, none)] false 0 (some (.ret, e, h)) = some (I (ordE l.ls.length b a v), []) := by
  have a1 := lt_ix (lt_of hv)
  have a3 : IntKind.i64.wrap ((l.ls.length : Int) - 1) = (l.ls.length : Int) - 1 := wrap_ok (by omega) (by omega)
  rcases ordE_of (n := l.ls.length) (b := b) (a := a) v with ⟨_, _, _, _, h4⟩ | ⟨h1, h2, h3, h4, h5⟩ | ⟨h1, h2, h3, h5⟩ | ⟨h1, h5⟩
  · exact absurd h4 he
  · rw [h5]
    have n0 : (v < 0) = False := eq_false (by omega)
    have c1 : (0 ≤ v) = True := eq_true (by omega)
    have c2 : (v < ((bL l.ls.length b).length : Int)) = True := eq_true (by rw [bL_len]; omega)
    have e := bit_i ha (v := v) (by omega)
    have s1 := bL_get (n := l.ls.length) (b := b) (k := v.toNat) (by omega)
    have d1 := pos_dif big_i (lo_63 (hb v.toNat)) (lo_63 ha) h4
    rw [h3] at e
    have e := e.trans (eq_false (by simp))
    generalize bL l.ls.length b = bl at *
    refine ret_of ?_ ?_
    all_goals unfold x55l0
    all_goals dsimp only
    all_goals (sym => (simp [z00,z01,z05,z07,z0b,z0c,z0n,z0v,z0z,z12,z15,z1f,z1j,z1r,z1u,z20,z21,z26,z29,z2b,z2g,z2h,z2k,z2o,z2s,z2t,z2u,z2v,z33,z34,z4l,z66,z67,z6p,z7r,z9d,z9e,z9g,z9m,z9p,z9y,za2,za3,za5,za6,za7,za8,zaa,zab,zaq,zas,zat,zba,zbt,zbu,zbw,zbx,zby,zbz,zc0,zc3,zc4,zc5,zc6,zca,zce,zcf,zcg,zci,zcn,zco,zcq,zcr,zct,zcu,zcv,zcw,zcx,zcy,zd6,zd7,zdd,zdk,zdl,zdo,zds,zdt,zdu,zdv,zf6,zf7,zf8,zf9,zfb,zfm,zfo,zfp,zfq,zfs,zft,zfv,zfx,zg0,zg1,zje,zkm, a1, a3, hv, w62, h1, n0, c1, c2, e, s1, d1]; all_goals tactic => exact rfl))
  · rw [h5]
    have n0 : (v < 0) = False := eq_false (by omega)
    have e := bit_i ha (v := v) (by omega)
    rw [h3] at e
    have e := e.trans (eq_true rfl)
    generalize bL l.ls.length b = bl at *
    refine ret_of ?_ ?_
    all_goals unfold x55l0
    all_goals dsimp only
    all_goals (sym => (simp [z00,z01,z05,z07,z0b,z0c,z0n,z0v,z0z,z12,z15,z1f,z1j,z1r,z1u,z20,z21,z26,z29,z2b,z2g,z2h,z2k,z2o,z2s,z2t,z2u,z2v,z33,z34,z4l,z66,z67,z6p,z7r,z9d,z9e,z9g,z9m,z9p,z9y,za2,za3,za5,za6,za7,za8,zaa,zab,zaq,zas,zat,zba,zbt,zbu,zbw,zbx,zby,zbz,zc0,zc3,zc4,zc5,zc6,zca,zce,zcf,zcg,zci,zcn,zco,zcq,zcr,zct,zcu,zcv,zcw,zcx,zcy,zd6,zd7,zdd,zdk,zdl,zdo,zds,zdt,zdu,zdv,zf6,zf7,zf8,zf9,zfb,zfm,zfo,zfp,zfq,zfs,zft,zfv,zfx,zg0,zg1,zje,zkm, a1, a3, hv, w62, h1, n0, e]; all_goals tactic => exact rfl))
  · rw [h5]
    generalize bL l.ls.length b = bl at *
    refine ret_of ?_ ?_
    all_goals unfold x55l0
    all_goals dsimp only
    all_goals (sym => (simp [z00,z01,z05,z07,z0b,z0c,z0n,z0v,z0z,z12,z15,z1f,z1j,z1r,z1u,z20,z21,z26,z29,z2b,z2g,z2h,z2k,z2o,z2s,z2t,z2u,z2v,z33,z34,z4l,z66,z67,z6p,z7r,z9d,z9e,z9g,z9m,z9p,z9y,za2,za3,za5,za6,za7,za8,zaa,zab,zaq,zas,zat,zba,zbt,zbu,zbw,zbx,zby,zbz,zc0,zc3,zc4,zc5,zc6,zca,zce,zcf,zcg,zci,zcn,zco,zcq,zcr,zct,zcu,zcv,zcw,zcx,zcy,zd6,zd7,zdd,zdk,zdl,zdo,zds,zdt,zdu,zdv,zf6,zf7,zf8,zf9,zfb,zfm,zfo,zfp,zfq,zfs,zft,zfv,zfx,zg0,zg1,zje,zkm, a1, a3, hv, w62, h1]; all_goals tactic => exact rfl))
end
theorem bT_lt {t : List Int} {b : Nat → Nat} (hb : ∀ k, b k < 2 ^ 10) (ha : ∀ i, i ≤ t.length → allT t 0 i < 2 ^ 10) : ∀ i, i ≤ t.length → ∀ k, bT t b i k < 2 ^ 10
  | 0, _, k => hb k
  | i + 1, hi, k => by
    rw [bT]
    show (if k = (t.getD i 0).toNat then allT t 0 i else bT t b i k) < 2 ^ 10
    split
    · exact ha i (by omega)
    · exact bT_lt hb ha i (by omega) k
theorem bA_lt {l : Li} (g : Good l) : ∀ j, j ≤ l.ts.length → ∀ k, bA l.ts j k < 2 ^ 10
  | 0, _, k => by show 0 < 2 ^ 10; omega
  | j + 1, hj, k => by
    obtain ⟨t, ht⟩ := at_ix (l := l.ts) (i := j) (by omega)
    rw [bA, getD_of ht]
    exact bT_lt (bA_lt g j (by omega)) (fun i hi => allT_of0 g.few (fun i hi => g.el ht hi) (by omega) i hi) _ (Nat.le_refl _) k
theorem beh_lt {l : Li} (g : Good l) (k : Nat) : behF l.ts k < 2 ^ 10 := bA_lt g _ (Nat.le_refl _) k
theorem w55 {l : Li} (hf : l.Fit) (g : Good l) (o : List Int) : runW progX 55 [.agg l.c, rI o] [] = some (I (orderE l.ls.length (behF l.ts) o), []) := by
  have e76 := w76 hf g
  have hn := g.few
  have hb := beh_lt g
  generalize behF l.ts = b at *
  unfold orderE
  by_cases ho : o.length = l.ls.length
  · rw [if_pos ho]
    have gl : ((o.length : Int) = (l.ls.length : Int)) = True := eq_true (by omega)
    have z := zf5 (n := (o.length : Int))
    obtain ⟨q, q1, q2, q3⟩ := firstN_ix (fun i => ordE l.ls.length b (allT o 0 i) (o.getD i 0)) o.length
    have al0 : allT o 0 0 = 0 := rfl
    have rd : ∀ i, i < q → headX 0 [1, 2, 5, 6, 7] (execW progX 55 0 none (match x55l0 with | .loop _ a => a | c => c) (envL [1, 2, 5, 6, 7] [rI o, .pt 0 0, rI (bL l.ls.length b), I (allT o 0 i), I (i : Nat)]) (hL l)) =
      some ([rI o, .pt 0 0, rI (bL l.ls.length b), I (allT o 0 (i + 1)), I (i + 1 : Nat)], hL l) := by
      intro i hi
      obtain ⟨v, hv⟩ := at_ix (l := o) (i := i) (by omega)
      have e0 := q2 i hi
      rw [getD_of hv] at e0
      rw [allT, getD_of hv]
      exact round55 hn (allT_lt2 hn i fun i hi => q2 i (by omega)) hb hv (by omega) e0
    rcases q3 with ⟨rfl, e⟩ | ⟨q3, q4, e⟩
    · rw [e]
      rw [r55 (by simp)]; unfold x55; dsimp only
      sym =>
        simp [z00,z01,z05,z06,z07,z09,z0b,z0c,z0f,z0n,z0r,z0v,z12,z1f,z1j,z1r,z1u,z20,z21,z29,z2b,z2u,z2v,z3h,z4l,z4o,z4q,z4t,z54,z57,z59,z66,z69,z6b,z6e,z6p,z7r,z7u,z7w,z8d,z9d,z9e,z9g,z9j,z9k,z9l,z9m,z9n,z9p,z9r,z9v,z9w,z9y,za0,za1,za2,za3,za5,za6,za7,za8,za9,zaa,zab,zae,zaf,zal,zaq,zas,zat,zba,zbc,zbd,zbf,zbg,zbk,zbt,zbu,zbw,zbx,zby,zbz,zc0,zc3,zc4,zc5,zc6,zc8,zca,zcc,zcd,zce,zcf,zcg,zch,zcj,zcn,zco,zcq,zcr,zct,zcu,zcv,zcw,zcy,zd3,zd6,zd7,zdj,zdk,zdl,zdo,zds,zdt,zdu,zdv,zdw,zdx,ze2,ze3,zeo,zep,zf5,zf6,zf7,zfa,zfb,zfg,zfm,zfo,zfp,zfq,zfr,zfs,zft,zfu,zfv,zfy,zfz,zg0,zg1,zhf,zje,zkn,zko,zkp, gl, e76]
        tactic =>
          unfold x55l0
          rw [loop_rule o.length (fun i => [rI o, .pt 0 0, rI (bL l.ls.length b), I (allT o 0 i), I (i : Nat)]) (fun _ => hL l)]
          · (sym => (simp [z00,z01,z05,z06,z07,z09,z0b,z0c,z0f,z0n,z0r,z0v,z12,z1f,z1j,z1r,z1u,z20,z21,z29,z2b,z2u,z2v,z3h,z4l,z4o,z4q,z4t,z54,z57,z59,z66,z69,z6b,z6e,z6p,z7r,z7u,z7w,z8d,z9d,z9e,z9g,z9j,z9k,z9l,z9m,z9n,z9p,z9r,z9v,z9w,z9y,za0,za1,za2,za3,za5,za6,za7,za8,za9,zaa,zab,zae,zaf,zal,zaq,zas,zat,zba,zbc,zbd,zbf,zbg,zbk,zbt,zbu,zbw,zbx,zby,zbz,zc0,zc3,zc4,zc5,zc6,zc8,zca,zcc,zcd,zce,zcf,zcg,zch,zcj,zcn,zco,zcq,zcr,zct,zcu,zcv,zcw,zcy,zd3,zd6,zd7,zdj,zdk,zdl,zdo,zds,zdt,zdu,zdv,zdw,zdx,ze2,ze3,zeo,zep,zf5,zf6,zf7,zfa,zfb,zfg,zfm,zfo,zfp,zfq,zfr,zfs,zft,zfu,zfv,zfy,zfz,zg0,zg1,zhf,zje,zkn,zko,zkp, z]; all_goals tactic => exact rfl))
          · (sym => (simp [z00,z01,z05,z06,z07,z09,z0b,z0c,z0f,z0n,z0r,z0v,z12,z1f,z1j,z1r,z1u,z20,z21,z29,z2b,z2u,z2v,z3h,z4l,z4o,z4q,z4t,z54,z57,z59,z66,z69,z6b,z6e,z6p,z7r,z7u,z7w,z8d,z9d,z9e,z9g,z9j,z9k,z9l,z9m,z9n,z9p,z9r,z9v,z9w,z9y,za0,za1,za2,za3,za5,za6,za7,za8,za9,zaa,zab,zae,zaf,zal,zaq,zas,zat,zba,zbc,zbd,zbf,zbg,zbk,zbt,zbu,zbw,zbx,zby,zbz,zc0,zc3,zc4,zc5,zc6,zc8,zca,zcc,zcd,zce,zcf,zcg,zch,zcj,zcn,zco,zcq,zcr,zct,zcu,zcv,zcw,zcy,zd3,zd6,zd7,zdj,zdk,zdl,zdo,zds,zdt,zdu,zdv,zdw,zdx,ze2,ze3,zeo,zep,zf5,zf6,zf7,zfa,zfb,zfg,zfm,zfo,zfp,zfq,zfr,zfs,zft,zfu,zfv,zfy,zfz,zg0,zg1,zhf,zje,zkn,zko,zkp, al0]; all_goals tactic => exact rfl))
          · exact rd
          · (sym => (simp [z00,z01,z05,z06,z07,z09,z0b,z0c,z0f,z0n,z0r,z0v,z12,z1f,z1j,z1r,z1u,z20,z21,z29,z2b,z2u,z2v,z3h,z4l,z4o,z4q,z4t,z54,z57,z59,z66,z69,z6b,z6e,z6p,z7r,z7u,z7w,z8d,z9d,z9e,z9g,z9j,z9k,z9l,z9m,z9n,z9p,z9r,z9v,z9w,z9y,za0,za1,za2,za3,za5,za6,za7,za8,za9,zaa,zab,zae,zaf,zal,zaq,zas,zat,zba,zbc,zbd,zbf,zbg,zbk,zbt,zbu,zbw,zbx,zby,zbz,zc0,zc3,zc4,zc5,zc6,zc8,zca,zcc,zcd,zce,zcf,zcg,zch,zcj,zcn,zco,zcq,zcr,zct,zcu,zcv,zcw,zcy,zd3,zd6,zd7,zdj,zdk,zdl,zdo,zds,zdt,zdu,zdv,zdw,zdx,ze2,ze3,zeo,zep,zf5,zf6,zf7,zfa,zfb,zfg,zfm,zfo,zfp,zfq,zfr,zfs,zft,zfu,zfv,zfy,zfz,zg0,zg1,zhf,zje,zkn,zko,zkp, z]; all_goals tactic => exact rfl))
    · rw [e]
      obtain ⟨v, hv⟩ := at_ix q3
      rw [getD_of hv] at q4 ⊢
      obtain ⟨eo, ho2, p1, p2⟩ := left55 (l := l) hn (allT_lt2 hn q q2) hb hv (by omega) q4
      rw [r55 (by simp)]; unfold x55; dsimp only
      sym =>
        simp [z00,z01,z05,z06,z07,z09,z0b,z0c,z0f,z0n,z0r,z0v,z12,z1f,z1j,z1r,z1u,z20,z21,z29,z2b,z2u,z2v,z3h,z4l,z4o,z4q,z4t,z54,z57,z59,z66,z69,z6b,z6e,z6p,z7r,z7u,z7w,z8d,z9d,z9e,z9g,z9j,z9k,z9l,z9m,z9n,z9p,z9r,z9v,z9w,z9y,za0,za1,za2,za3,za5,za6,za7,za8,za9,zaa,zab,zae,zaf,zal,zaq,zas,zat,zba,zbc,zbd,zbf,zbg,zbk,zbt,zbu,zbw,zbx,zby,zbz,zc0,zc3,zc4,zc5,zc6,zc8,zca,zcc,zcd,zce,zcf,zcg,zch,zcj,zcn,zco,zcq,zcr,zct,zcu,zcv,zcw,zcy,zd3,zd6,zd7,zdj,zdk,zdl,zdo,zds,zdt,zdu,zdv,zdw,zdx,ze2,ze3,zeo,zep,zf5,zf6,zf7,zfa,zfb,zfg,zfm,zfo,zfp,zfq,zfr,zfs,zft,zfu,zfv,zfy,zfz,zg0,zg1,zhf,zje,zkn,zko,zkp, gl, e76]
        tactic =>
          unfold x55l0 at p1 ⊢
          dsimp only at p1
          rw [loop_rule q (fun i => [rI o, .pt 0 0, rI (bL l.ls.length b), I (allT o 0 i), I (i : Nat)]) (fun _ => hL l)]
          · rw [p1]
            exact p2
          · (sym => (simp [z00,z01,z05,z06,z07,z09,z0b,z0c,z0f,z0n,z0r,z0v,z12,z1f,z1j,z1r,z1u,z20,z21,z29,z2b,z2u,z2v,z3h,z4l,z4o,z4q,z4t,z54,z57,z59,z66,z69,z6b,z6e,z6p,z7r,z7u,z7w,z8d,z9d,z9e,z9g,z9j,z9k,z9l,z9m,z9n,z9p,z9r,z9v,z9w,z9y,za0,za1,za2,za3,za5,za6,za7,za8,za9,zaa,zab,zae,zaf,zal,zaq,zas,zat,zba,zbc,zbd,zbf,zbg,zbk,zbt,zbu,zbw,zbx,zby,zbz,zc0,zc3,zc4,zc5,zc6,zc8,zca,zcc,zcd,zce,zcf,zcg,zch,zcj,zcn,zco,zcq,zcr,zct,zcu,zcv,zcw,zcy,zd3,zd6,zd7,zdj,zdk,zdl,zdo,zds,zdt,zdu,zdv,zdw,zdx,ze2,ze3,zeo,zep,zf5,zf6,zf7,zfa,zfb,zfg,zfm,zfo,zfp,zfq,zfr,zfs,zft,zfu,zfv,zfy,zfz,zg0,zg1,zhf,zje,zkn,zko,zkp, al0]; all_goals tactic => exact rfl))
          · exact rd
          · rw [p1]
            rfl
  · rw [if_neg ho]
    have gl : ((o.length : Int) = (l.ls.length : Int)) = False := eq_false (by omega)
    rw [r55 (by simp)]; unfold x55; dsimp only
    (sym => (simp [z00,z01,z05,z06,z07,z09,z0b,z0c,z0f,z0n,z0r,z0v,z12,z1f,z1j,z1r,z1u,z20,z21,z29,z2b,z2u,z2v,z3h,z4l,z4o,z4q,z4t,z54,z57,z59,z66,z69,z6b,z6e,z6p,z7r,z7u,z7w,z8d,z9d,z9e,z9g,z9j,z9k,z9l,z9m,z9n,z9p,z9r,z9v,z9w,z9y,za0,za1,za2,za3,za5,za6,za7,za8,za9,zaa,zab,zae,zaf,zal,zaq,zas,zat,zba,zbc,zbd,zbf,zbg,zbk,zbt,zbu,zbw,zbx,zby,zbz,zc0,zc3,zc4,zc5,zc6,zc8,zca,zcc,zcd,zce,zcf,zcg,zch,zcj,zcn,zco,zcq,zcr,zct,zcu,zcv,zcw,zcy,zd3,zd6,zd7,zdj,zdk,zdl,zdo,zds,zdt,zdu,zdv,zdw,zdx,ze2,ze3,zeo,zep,zf5,zf6,zf7,zfa,zfb,zfg,zfm,zfo,zfp,zfq,zfr,zfs,zft,zfu,zfv,zfy,zfz,zg0,zg1,zhf,zje,zkn,zko,zkp, gl]; all_goals tactic => exact rfl))
end Go.Proofs.YtpbeclkpohehgaaDoor
namespace Go.Proofs.YtpbeclkpohehgaaDoor
open Go Go.DL
set_option maxRecDepth 100000
set_option maxHeartbeats 2000000

def soN (k : List St) (m : Int) : Nat → Int
  | 0 => 0
  | i + 1 => if (k.getD i ⟨0, 0⟩).a ≤ m then (k.getD i ⟨0, 0⟩).s else soN k m i
/-- How sour a kind is after some minutes. -/
def sourF (k : List St) (m : Int) : Int := soN k m k.length
theorem soN_up {k : List St} {m : Int} {i : Nat} {x : St} (hx : k[i]? = some x) : ((x.a ≤ m) = True ∧ soN k m (i + 1) = x.s) ∨ ((x.a ≤ m) = False ∧ soN k m (i + 1) = soN k m i) := by
  rw [soN, getD_of hx]
  by_cases h : x.a ≤ m
  · exact .inl ⟨eq_true h, if_pos h⟩
  · exact .inr ⟨eq_false h, if_neg h⟩
theorem w54 (k : List St) (m : Int) (hk : k.length ≤ 8) : runW progX 54 [rS k, I m] [] = some (I (sourF k m), []) := by
  have z := zf5 (n := (k.length : Int))
  have s0 : soN k m 0 = 0 := rfl
  have sf : soN k m k.length = sourF k m := rfl
  have rd : ∀ i, i < k.length → headX 0 [1, 5, 8, 9, 10] (execW progX 54 0 none (match x54l0 with | .loop _ a => a | c => c) (envL [1, 5, 8, 9, 10] [I m, I (soN k m i), rS k, I k.length, I (i : Nat)]) []) = some ([I m, I (soN k m (i + 1)), rS k, I k.length, I (i + 1 : Nat)], []) := by
    intro i hi
    obtain ⟨x, hx⟩ := at_ix hi
    have a1 := lt_ix hi
    have a2 := up_ix hi (by omega)
    unfold x54l0
    dsimp only
    rcases soN_up (m := m) hx with ⟨h1, h2⟩ | ⟨h1, h2⟩
    · rw [h2]; (sym => (simp [z00,z01,z02,z05,z07,z0b,z0c,z0n,z0o,z0v,z12,z15,z1f,z1j,z1n,z1o,z29,z2b,z2g,z2h,z2j,z2v,z2w,z33,z34,z3h,z4l,z4q,z54,z66,z6b,z6p,z7r,z7w,z8d,z9d,z9e,z9g,z9i,z9j,z9k,z9l,z9m,z9n,z9p,z9y,za3,za5,za6,za7,za8,zba,zbt,zbu,zbw,zbx,zby,zbz,zc0,zc3,zc4,zc5,zc6,zc8,zca,zcc,zcd,zce,zcf,zcg,zch,zcj,zcn,zco,zcq,zcr,zct,zcu,zcv,zcw,zcx,zcy,zd3,zdd,zdk,zdl,zdo,zds,zdt,zdu,zdv,zdw,zdx,ze2,ze3,ze9,zf5,zf6,zf7,zf8,zf9,zfa,zfb,zfc,zfd,zfm,zfo,zfp,zfq,zfr,zfs,zft,zfu,zfw,zfy,zfz,zg0,zg1,zje, a1, a2, hx, h1]; all_goals tactic => exact rfl))
    · rw [h2]; (sym => (simp [z00,z01,z02,z05,z07,z0b,z0c,z0n,z0o,z0v,z12,z15,z1f,z1j,z1n,z1o,z29,z2b,z2g,z2h,z2j,z2v,z2w,z33,z34,z3h,z4l,z4q,z54,z66,z6b,z6p,z7r,z7w,z8d,z9d,z9e,z9g,z9i,z9j,z9k,z9l,z9m,z9n,z9p,z9y,za3,za5,za6,za7,za8,zba,zbt,zbu,zbw,zbx,zby,zbz,zc0,zc3,zc4,zc5,zc6,zc8,zca,zcc,zcd,zce,zcf,zcg,zch,zcj,zcn,zco,zcq,zcr,zct,zcu,zcv,zcw,zcx,zcy,zd3,zdd,zdk,zdl,zdo,zds,zdt,zdu,zdv,zdw,zdx,ze2,ze3,ze9,zf5,zf6,zf7,zf8,zf9,zfa,zfb,zfc,zfd,zfm,zfo,zfp,zfq,zfr,zfs,zft,zfu,zfw,zfy,zfz,zg0,zg1,zje, a1, a2, hx, h1]; all_goals tactic => exact rfl))
  rw [r54 (by simp)]; unfold x54; dsimp only
  sym =>
    simp [z00,z01,z02,z05,z07,z0b,z0c,z0n,z0o,z0v,z12,z15,z1f,z1j,z1n,z1o,z29,z2b,z2g,z2h,z2j,z2v,z2w,z33,z34,z3h,z4l,z4q,z54,z66,z6b,z6p,z7r,z7w,z8d,z9d,z9e,z9g,z9i,z9j,z9k,z9l,z9m,z9n,z9p,z9y,za3,za5,za6,za7,za8,zba,zbt,zbu,zbw,zbx,zby,zbz,zc0,zc3,zc4,zc5,zc6,zc8,zca,zcc,zcd,zce,zcf,zcg,zch,zcj,zcn,zco,zcq,zcr,zct,zcu,zcv,zcw,zcx,zcy,zd3,zdd,zdk,zdl,zdo,zds,zdt,zdu,zdv,zdw,zdx,ze2,ze3,ze9,zf5,zf6,zf7,zf8,zf9,zfa,zfb,zfc,zfd,zfm,zfo,zfp,zfq,zfr,zfs,zft,zfu,zfw,zfy,zfz,zg0,zg1,zje]
    tactic =>
      unfold x54l0
      rw [loop_rule k.length (fun i => [I m, I (soN k m i), rS k, I k.length, I (i : Nat)]) (fun _ => [])]
      · (sym => (simp [z00,z01,z02,z05,z07,z0b,z0c,z0n,z0o,z0v,z12,z15,z1f,z1j,z1n,z1o,z29,z2b,z2g,z2h,z2j,z2v,z2w,z33,z34,z3h,z4l,z4q,z54,z66,z6b,z6p,z7r,z7w,z8d,z9d,z9e,z9g,z9i,z9j,z9k,z9l,z9m,z9n,z9p,z9y,za3,za5,za6,za7,za8,zba,zbt,zbu,zbw,zbx,zby,zbz,zc0,zc3,zc4,zc5,zc6,zc8,zca,zcc,zcd,zce,zcf,zcg,zch,zcj,zcn,zco,zcq,zcr,zct,zcu,zcv,zcw,zcx,zcy,zd3,zdd,zdk,zdl,zdo,zds,zdt,zdu,zdv,zdw,zdx,ze2,ze3,ze9,zf5,zf6,zf7,zf8,zf9,zfa,zfb,zfc,zfd,zfm,zfo,zfp,zfq,zfr,zfs,zft,zfu,zfw,zfy,zfz,zg0,zg1,zje, z, sf]; all_goals tactic => exact rfl))
      · (sym => (simp [z00,z01,z02,z05,z07,z0b,z0c,z0n,z0o,z0v,z12,z15,z1f,z1j,z1n,z1o,z29,z2b,z2g,z2h,z2j,z2v,z2w,z33,z34,z3h,z4l,z4q,z54,z66,z6b,z6p,z7r,z7w,z8d,z9d,z9e,z9g,z9i,z9j,z9k,z9l,z9m,z9n,z9p,z9y,za3,za5,za6,za7,za8,zba,zbt,zbu,zbw,zbx,zby,zbz,zc0,zc3,zc4,zc5,zc6,zc8,zca,zcc,zcd,zce,zcf,zcg,zch,zcj,zcn,zco,zcq,zcr,zct,zcu,zcv,zcw,zcx,zcy,zd3,zdd,zdk,zdl,zdo,zds,zdt,zdu,zdv,zdw,zdx,ze2,ze3,ze9,zf5,zf6,zf7,zf8,zf9,zfa,zfb,zfc,zfd,zfm,zfo,zfp,zfq,zfr,zfs,zft,zfu,zfw,zfy,zfz,zg0,zg1,zje, s0]; all_goals tactic => exact rfl))
      · exact rd
      · (sym => (simp [z00,z01,z02,z05,z07,z0b,z0c,z0n,z0o,z0v,z12,z15,z1f,z1j,z1n,z1o,z29,z2b,z2g,z2h,z2j,z2v,z2w,z33,z34,z3h,z4l,z4q,z54,z66,z6b,z6p,z7r,z7w,z8d,z9d,z9e,z9g,z9i,z9j,z9k,z9l,z9m,z9n,z9p,z9y,za3,za5,za6,za7,za8,zba,zbt,zbu,zbw,zbx,zby,zbz,zc0,zc3,zc4,zc5,zc6,zc8,zca,zcc,zcd,zce,zcf,zcg,zch,zcj,zcn,zco,zcq,zcr,zct,zcu,zcv,zcw,zcx,zcy,zd3,zdd,zdk,zdl,zdo,zds,zdt,zdu,zdv,zdw,zdx,ze2,ze3,ze9,zf5,zf6,zf7,zf8,zf9,zfa,zfb,zfc,zfd,zfm,zfo,zfp,zfq,zfr,zfs,zft,zfu,zfw,zfy,zfz,zg0,zg1,zje, z]; all_goals tactic => exact rfl))
theorem w56 (k : List St) (m : Int) (hk : k.length ≤ 8) : runW progX 56 [rS k, I m] [] = some (I (sourF k m), []) := by
  have z := zf5 (n := (k.length : Int))
  have s0 : soN k m 0 = 0 := rfl
  have sf : soN k m k.length = sourF k m := rfl
  have rd : ∀ i, i < k.length → headX 0 [0, 1, 5, 6] (execW progX 56 0 none (match x56l0 with | .loop _ a => a | c => c) (envL [0, 1, 5, 6] [rS k, I m, I (soN k m i), I (i : Nat)]) []) = some ([rS k, I m, I (soN k m (i + 1)), I (i + 1 : Nat)], []) := by
    intro i hi
    obtain ⟨x, hx⟩ := at_ix hi
    have a1 := lt_ix hi
    have a2 := up_ix hi (by omega)
    unfold x56l0
    dsimp only
    rcases soN_up (m := m) hx with ⟨h1, h2⟩ | ⟨h1, h2⟩
    · rw [h2]; (sym => (simp [z00,z01,z05,z07,z0b,z0c,z0n,z0v,z12,z15,z1f,z1j,z2a,z2b,z2g,z2h,z2j,z2v,z2w,z33,z34,z3h,z4l,z4q,z66,z6b,z6p,z7r,z7w,z9n,z9p,z9y,za3,za5,za7,za8,zba,zbt,zbu,zbw,zbx,zby,zbz,zc0,zc3,zc4,zc5,zc6,zc8,zca,zcc,zcd,zce,zcf,zcg,zch,zcj,zcn,zco,zcr,zct,zcu,zcv,zcw,zcx,zcy,zdd,zdk,zdl,zdo,zds,zdt,zdu,zdv,ze2,ze3,zf5,zf8,zf9,zfb,zfm,zfo,zfp,zfq,zfr,zfs,zft,zfu,zfw,zfy,zfz,zg0,zg1,zje, a1, a2, hx, h1]; all_goals tactic => exact rfl))
    · rw [h2]; (sym => (simp [z00,z01,z05,z07,z0b,z0c,z0n,z0v,z12,z15,z1f,z1j,z2a,z2b,z2g,z2h,z2j,z2v,z2w,z33,z34,z3h,z4l,z4q,z66,z6b,z6p,z7r,z7w,z9n,z9p,z9y,za3,za5,za7,za8,zba,zbt,zbu,zbw,zbx,zby,zbz,zc0,zc3,zc4,zc5,zc6,zc8,zca,zcc,zcd,zce,zcf,zcg,zch,zcj,zcn,zco,zcr,zct,zcu,zcv,zcw,zcx,zcy,zdd,zdk,zdl,zdo,zds,zdt,zdu,zdv,ze2,ze3,zf5,zf8,zf9,zfb,zfm,zfo,zfp,zfq,zfr,zfs,zft,zfu,zfw,zfy,zfz,zg0,zg1,zje, a1, a2, hx, h1]; all_goals tactic => exact rfl))
  rw [r56 (by simp)]; unfold x56; dsimp only
  sym =>
    simp [z00,z01,z05,z07,z0b,z0c,z0n,z0v,z12,z15,z1f,z1j,z2a,z2b,z2g,z2h,z2j,z2v,z2w,z33,z34,z3h,z4l,z4q,z66,z6b,z6p,z7r,z7w,z9n,z9p,z9y,za3,za5,za7,za8,zba,zbt,zbu,zbw,zbx,zby,zbz,zc0,zc3,zc4,zc5,zc6,zc8,zca,zcc,zcd,zce,zcf,zcg,zch,zcj,zcn,zco,zcr,zct,zcu,zcv,zcw,zcx,zcy,zdd,zdk,zdl,zdo,zds,zdt,zdu,zdv,ze2,ze3,zf5,zf8,zf9,zfb,zfm,zfo,zfp,zfq,zfr,zfs,zft,zfu,zfw,zfy,zfz,zg0,zg1,zje]
    tactic =>
      unfold x56l0
      rw [loop_rule k.length (fun i => [rS k, I m, I (soN k m i), I (i : Nat)]) (fun _ => [])]
      · (sym => (simp [z00,z01,z05,z07,z0b,z0c,z0n,z0v,z12,z15,z1f,z1j,z2a,z2b,z2g,z2h,z2j,z2v,z2w,z33,z34,z3h,z4l,z4q,z66,z6b,z6p,z7r,z7w,z9n,z9p,z9y,za3,za5,za7,za8,zba,zbt,zbu,zbw,zbx,zby,zbz,zc0,zc3,zc4,zc5,zc6,zc8,zca,zcc,zcd,zce,zcf,zcg,zch,zcj,zcn,zco,zcr,zct,zcu,zcv,zcw,zcx,zcy,zdd,zdk,zdl,zdo,zds,zdt,zdu,zdv,ze2,ze3,zf5,zf8,zf9,zfb,zfm,zfo,zfp,zfq,zfr,zfs,zft,zfu,zfw,zfy,zfz,zg0,zg1,zje, z, sf]; all_goals tactic => exact rfl))
      · (sym => (simp [z00,z01,z05,z07,z0b,z0c,z0n,z0v,z12,z15,z1f,z1j,z2a,z2b,z2g,z2h,z2j,z2v,z2w,z33,z34,z3h,z4l,z4q,z66,z6b,z6p,z7r,z7w,z9n,z9p,z9y,za3,za5,za7,za8,zba,zbt,zbu,zbw,zbx,zby,zbz,zc0,zc3,zc4,zc5,zc6,zc8,zca,zcc,zcd,zce,zcf,zcg,zch,zcj,zcn,zco,zcr,zct,zcu,zcv,zcw,zcx,zcy,zdd,zdk,zdl,zdo,zds,zdt,zdu,zdv,ze2,ze3,zf5,zf8,zf9,zfb,zfm,zfo,zfp,zfq,zfr,zfs,zft,zfu,zfw,zfy,zfz,zg0,zg1,zje, s0]; all_goals tactic => exact rfl))
      · exact rd
      · (sym => (simp [z00,z01,z05,z07,z0b,z0c,z0n,z0v,z12,z15,z1f,z1j,z2a,z2b,z2g,z2h,z2j,z2v,z2w,z33,z34,z3h,z4l,z4q,z66,z6b,z6p,z7r,z7w,z9n,z9p,z9y,za3,za5,za7,za8,zba,zbt,zbu,zbw,zbx,zby,zbz,zc0,zc3,zc4,zc5,zc6,zc8,zca,zcc,zcd,zce,zcf,zcg,zch,zcj,zcn,zco,zcr,zct,zcu,zcv,zcw,zcx,zcy,zdd,zdk,zdl,zdo,zds,zdt,zdu,zdv,ze2,ze3,zf5,zf8,zf9,zfb,zfm,zfo,zfp,zfq,zfr,zfs,zft,zfu,zfw,zfy,zfz,zg0,zg1,zje, z]; all_goals tactic => exact rfl))

/-! ### Spans in memory -/
structure Sp where
  lo : Int
  hi : Int
abbrev Sp.row (x : Sp) : List AV := [I x.lo, I x.hi]
theorem sp_ok (k : List Sp) : RowsOk 2 (k.map Sp.row) := by
  intro r hr
  simp only [List.mem_map] at hr
  obtain ⟨x, _, rfl⟩ := hr
  exact ⟨rfl, rfl, rfl, rfl⟩
def cS (l : List Sp) : List AV := (l.map Sp.row).flatten
abbrev sR (l : List Sp) : AV := .fs (l.map Sp.row)
theorem cS_gr (l : List Sp) : grL (cS l) = true := (rows_cells (sp_ok _)).1
theorem cS_nm (l : List Sp) : nmL (cS l) = [] := (rows_cells (sp_ok _)).2.1
theorem cS_sl (l : List Sp) : slL (cS l) = [] := (rows_cells (sp_ok _)).2.2.1
theorem cS_len (l : List Sp) : (cS l).length = l.length * 2 := by rw [cS, (rows_cells (sp_ok _)).2.2.2, List.length_map]
theorem cS_ch (l : List Sp) : chunks (cS l) 0 2 l.length = l.map Sp.row := by
  have := rows_chunks (sp_ok l)
  rw [List.length_map] at this
  exact this
theorem cS_set {l : List Sp} {i : Nat} (h : i < l.length) (a b : Int) : splice (cS l) (i * 2) [I a, I b] = cS (l.set i ⟨a, b⟩) := by
  induction l generalizing i with
  | nil => simp at h
  | cons z q ih =>
    have e : cS (z :: q) = I z.lo :: I z.hi :: cS q := rfl
    cases i with
    | zero => rw [e, List.set_cons_zero]; rfl
    | succ i =>
      have := ih (i := i) (by simpa using h)
      rw [e, List.set_cons_succ, show cS (z :: q.set i ⟨a, b⟩) = I z.lo :: I z.hi :: cS (q.set i ⟨a, b⟩) from rfl, ← this]
      unfold splice
      rw [show (i + 1) * 2 = i * 2 + 1 + 1 by omega, show i * 2 + 1 + 1 + [I a, I b].length = i * 2 + [I a, I b].length + 1 + 1 by simp]
      rfl
theorem cS_rep (n : Nat) : (List.replicate n [I 0, I 0]).flatten = cS (List.replicate n ⟨0, 0⟩) := by
  unfold cS
  rw [List.map_replicate]

/-! ### What a run computes -/
def ldAt (l : Li) (v : Int) : Ld := l.ls.getD v.toNat ⟨0, 0, 0, 0, 0⟩
def knAt (l : Li) (x : Ld) : List St := l.ks.getD x.k.toNat []
def nwL (l : Li) (o : List Int) : Nat → Int
  | 0 => l.lo
  | i + 1 => nwL l o i + (ldAt l (o.getD i 0)).cl
def nwH (l : Li) (o : List Int) : Nat → Int
  | 0 => l.hi
  | i + 1 => nwH l o i + (ldAt l (o.getD i 0)).ch
def eA (l : Li) (o : List Int) : Nat → List Sp
  | 0 => List.replicate l.ls.length ⟨0, 0⟩
  | i + 1 => (eA l o i).set (o.getD i 0).toNat ⟨nwL l o (i + 1), nwH l o (i + 1)⟩
def soLo (l : Li) (o : List Int) (i : Nat) : Int := sourF (knAt l (ldAt l (o.getD i 0))) ((ldAt l (o.getD i 0)).al + nwL l o (i + 1))
def soHi (l : Li) (o : List Int) (i : Nat) : Int := sourF (knAt l (ldAt l (o.getD i 0))) ((ldAt l (o.getD i 0)).ah + nwH l o (i + 1))
def sA (l : Li) (o : List Int) : Nat → List Sp
  | 0 => List.replicate l.ls.length ⟨0, 0⟩
  | i + 1 => (sA l o i).set (o.getD i 0).toNat ⟨soLo l o i, soHi l o i⟩
theorem eA_len (l : Li) (o : List Int) : ∀ i, (eA l o i).length = l.ls.length
  | 0 => by simp [eA]
  | i + 1 => by rw [eA, List.length_set, eA_len l o i]
theorem sA_len (l : Li) (o : List Int) : ∀ i, (sA l o i).length = l.ls.length
  | 0 => by simp [sA]
  | i + 1 => by rw [sA, List.length_set, sA_len l o i]
theorem inSF {lo hi a b : Int} : inS lo hi a b = true ↔ a ≤ lo ∧ lo ≤ hi ∧ hi ≤ b := by simp [inS]
/-- What is known of a load of a valid line. -/
theorem Good.ld {l : Li} (g : Good l) {v : Int} (hv : 0 ≤ v ∧ v < l.ls.length) : ∃ x k, l.ls[v.toNat]? = some x ∧ ldAt l v = x ∧ (0 ≤ x.k ∧ x.k < l.ks.length) ∧ l.ks[x.k.toNat]? = some k ∧ knAt l x = k ∧ k.length ≤ 8 ∧ (0 ≤ x.al ∧ x.al ≤ x.ah ∧ x.ah ≤ 100000) ∧ (1 ≤ x.cl ∧ x.cl ≤ x.ch ∧ x.ch ≤ 10000) := by
  obtain ⟨x, hx⟩ := at_ix (l := l.ls) (i := v.toNat) (by omega)
  have h := g.loads v.toNat (by omega)
  unfold ldEr at h
  rw [getD_of hx] at h
  rcases ldE_of l.ks.length x with ⟨h1, h2, h3, h4⟩ | ⟨_, _, _, h4⟩ | ⟨_, _, h4⟩ | ⟨_, h4⟩
  · have b1 := btwF.1 h1
    obtain ⟨k, hk⟩ := at_ix (l := l.ks) (i := x.k.toNat) (by omega)
    refine ⟨x, k, hx, getD_of hx, by omega, hk, getD_of hk, ?_, inSF.1 h2, inSF.1 h3⟩
    have hks := g.kinds
    unfold kindsE at hks
    by_cases h6 : 6 < l.ks.length
    · rw [if_pos h6] at hks; simp at hks
    · rw [if_neg h6] at hks
      have := firstN_0 hks x.k.toNat (by omega)
      rw [getD_of hk] at this
      unfold chkD at this
      by_cases h8 : 8 < k.length
      · rw [if_pos h8] at this; simp at this
      · omega
  all_goals (rw [h4] at h; simp at h)
theorem nw_bd {l : Li} (g : Good l) {o : List Int} {n : Nat} (ho : ∀ i, i < n → 0 ≤ o.getD i 0 ∧ o.getD i 0 < l.ls.length) : ∀ i, i ≤ n → (0 ≤ nwL l o i ∧ nwL l o i ≤ nwH l o i ∧ nwH l o i ≤ 100000 + 10000 * (i : Int))
  | 0, _ => by
    have := inSF.1 g.start
    simp only [nwL, nwH]; omega
  | i + 1, hi => by
    have ih := nw_bd g ho i (by omega)
    obtain ⟨x, k, h1, h2, _, _, _, _, h3, h4⟩ := g.ld (ho i (by omega))
    rw [nwL, nwH, h2]
    omega
end Go.Proofs.YtpbeclkpohehgaaDoor
namespace Go.Proofs.YtpbeclkpohehgaaDoor
open Go Go.DL
set_option maxRecDepth 100000
set_option maxHeartbeats 2000000

def runE (l : Li) (o : List Int) : Int := if checkL l = 0 then orderE l.ls.length (behF l.ts) o else checkL l
def runR (l : Li) (o : List Int) : Option (AV × XH) := if runE l o = 0 then some (.tup [sR (eA l o o.length), sR (sA l o o.length), I 0], []) else some (.tup [.fs [], .fs [], I (runE l o)], [])
theorem ord_of {n : Nat} {b : Nat → Nat} {o : List Int} (h : orderE n b o = 0) : o.length = n ∧ (∀ i, i < n → ordE n b (allT o 0 i) (o.getD i 0) = 0) ∧ ∀ i, i < n → 0 ≤ o.getD i 0 ∧ o.getD i 0 < n := by
  unfold orderE at h
  by_cases ho : o.length = n
  · rw [if_pos ho] at h
    have h2 := firstN_0 h
    rw [ho] at h2
    refine ⟨ho, h2, fun i hi => ?_⟩
    rcases ordE_of (n := n) (b := b) (a := allT o 0 i) (o.getD i 0) with ⟨_, h1, _⟩ | ⟨_, h1, _⟩ | ⟨_, h1, _⟩ | ⟨_, h4⟩
    · exact h1
    · exact h1
    · exact h1
    · rw [h2 i hi] at h4; simp at h4
  · rw [if_neg ho] at h; simp at h
section
variable {l : Li} {o : List Int}
abbrev hU (l : Li) (o : List Int) (i : Nat) : XH := [some (.blk true (.cells true l.c)), some (.blk true (.cells true (cS (eA l o i)))), some (.blk true (.cells true (cS (sA l o i)))), some (.blk true (.cells true [I (nwL l o i), I (nwH l o i)]))]
theorem round17 (g : Good l) (hl : o.length = l.ls.length) (ho : ∀ i, i < l.ls.length → 0 ≤ o.getD i 0 ∧ o.getD i 0 < l.ls.length) {i : Nat} (hi : i < o.length) :
    headX 0 [2, 4, 5, 9, 36, 37, 38] (execW progX 17 0 none (match x17l0 with | .loop _ a => a | c => c) (envL [2, 4, 5, 9, 36, 37, 38] [.pt 0 0, .sl 1 0 2 l.ls.length, .sl 2 0 2 l.ls.length, .pt 3 0, rI o, I o.length, I (i : Nat)]) (hU l o i)) =
      some ([.pt 0 0, .sl 1 0 2 l.ls.length, .sl 2 0 2 l.ls.length, .pt 3 0, rI o, I o.length, I (i + 1 : Nat)], hU l o (i + 1)) := by
  obtain ⟨v, hv⟩ := at_ix hi
  have hv2 := ho i (by omega)
  have bd1 := nw_bd g ho i (by omega)
  have bd2 := nw_bd g ho (i + 1) (by omega)
  have e1 : eA l o (i + 1) = (eA l o i).set v.toNat ⟨nwL l o (i + 1), nwH l o (i + 1)⟩ := by rw [eA, getD_of hv]
  have e2 : sA l o (i + 1) = (sA l o i).set v.toNat ⟨soLo l o i, soHi l o i⟩ := by rw [sA, getD_of hv]
  have e3 : nwL l o (i + 1) = nwL l o i + (ldAt l v).cl := by rw [nwL, getD_of hv]
  have e4 : nwH l o (i + 1) = nwH l o i + (ldAt l v).ch := by rw [nwH, getD_of hv]
  have e5 : soLo l o i = sourF (knAt l (ldAt l v)) ((ldAt l v).al + nwL l o (i + 1)) := by rw [soLo, getD_of hv]
  have e6 : soHi l o i = sourF (knAt l (ldAt l v)) ((ldAt l v).ah + nwH l o (i + 1)) := by rw [soHi, getD_of hv]
  rw [getD_of hv] at hv2
  have hfew := g.few
  obtain ⟨x, k, h1, h2, h3, h4, h5, h6, h7, h8⟩ := g.ld hv2
  rw [h2] at e3 e4 e5 e6
  rw [h5] at e5 e6
  have l1 := eA_len l o i
  have l2 := sA_len l o i
  unfold hU
  rw [e1, e2]
  have s1 := cS_set (l := eA l o i) (i := v.toNat) (by omega) (nwL l o (i + 1)) (nwH l o (i + 1))
  have s2 := cS_set (l := sA l o i) (i := v.toNat) (by omega) (soLo l o i) (soHi l o i)
  have w1 := w54 k (x.al + nwL l o (i + 1)) h6
  have w2 := w54 k (x.ah + nwH l o (i + 1)) h6
  rw [← e5] at w1
  rw [← e6] at w2
  have a1 := lt_ix hi
  have a2 := up_ix hi (by omega)
  have c1 : (0 ≤ v) = True := eq_true (by omega)
  have c2 : (v < (l.ls.length : Int)) = True := eq_true (by omega)
  have c3 : (0 ≤ x.k) = True := eq_true (by omega)
  have c4 : (x.k < (l.ks.length : Int)) = True := eq_true (by omega)
  have c5 : (v.toNat * 2 + 2 ≤ (eA l o i).length * 2) = True := eq_true (by omega)
  have c6 : (v.toNat * 2 + 2 ≤ (sA l o i).length * 2) = True := eq_true (by omega)
  have q1 : IntKind.i64.wrap (nwL l o i + x.cl) = nwL l o (i + 1) := by rw [← e3]; exact wrap_ok (by omega) (by omega)
  have q2 : IntKind.i64.wrap (nwH l o i + x.ch) = nwH l o (i + 1) := by rw [← e4]; exact wrap_ok (by omega) (by omega)
  have q3 : IntKind.i64.wrap (x.al + nwL l o (i + 1)) = x.al + nwL l o (i + 1) := wrap_ok (by omega) (by omega)
  have q4 : IntKind.i64.wrap (x.ah + nwH l o (i + 1)) = x.ah + nwH l o (i + 1) := wrap_ok (by omega) (by omega)
  clear e1 e2 e3 e4 e5 e6 h5 h2
  generalize nwL l o (i + 1) = nl at *
  generalize nwH l o (i + 1) = nh at *
  generalize soLo l o i = sl at *
  generalize soHi l o i = sh at *
  unfold x17l0
  dsimp only
  (sym => (simp [yC_nm, yC_rn, yM_s, yC_gr, yC_sl, yC_fz, yC_len, yC_0, yC_1, yC_2, yC_3, yC_4, yC_15, yC_same, cS_gr, cS_nm, cS_sl, cS_len, z00,z01,z02,z03,z04,z05,z07,z08,z0b,z0c,z0n,z0o,z0p,z0s,z0v,z12,z15,z1j,z1k,z1m,z1n,z1o,z1p,z1q,z1v,z1w,z20,z21,z29,z2f,z2g,z2h,z2j,z2v,z33,z34,z4f,z4l,z4q,z4s,z4t,z54,z66,z6b,z6d,z6e,z8a,z8d,z91,z9d,z9e,z9g,z9i,z9j,z9k,z9l,z9m,z9p,z9r,z9s,z9v,z9w,z9y,za0,za1,za2,za3,za5,za6,za7,za8,za9,zaa,zab,zae,zaf,zal,zaq,zas,zat,zav,zaw,zax,zaz,zca,zcc,zcd,zce,zcf,zcn,zco,zcp,zcq,zcr,zct,zcu,zcv,zcw,zcx,zcy,zd3,zd7,zd8,zd9,zdd,zdj,zdk,zdm,zdn,zdo,zds,zdt,zdu,zdv,zdw,zdx,ze9,zea,zeb,zec,zf6,zf7,zf8,zf9,zfa,zfb,zfc,zfd,zfm,zfo,zfq,zfs,zft,zfw,zfz,zg0,zg1,zhe,zhf,zj8, a1, a2, hv, h1, h4, c1, c2, c3, c4, c5, c6, q1, q2, q3, q4, s1, s2, w1, w2]; all_goals tactic => exact rfl))
theorem round18 (g : Good l) (hl : o.length = l.ls.length) (ho : ∀ i, i < l.ls.length → 0 ≤ o.getD i 0 ∧ o.getD i 0 < l.ls.length) {i : Nat} (hi : i < o.length) :
    headX 0 [1, 2, 8, 9, 10, 11] (execW progX 18 0 none (match x18l0 with | .loop _ a => a | c => c) (envL [1, 2, 8, 9, 10, 11] [rI o, .pt 0 0, .sl 1 0 2 l.ls.length, .sl 2 0 2 l.ls.length, .pt 3 0, I (i : Nat)]) (hU l o i)) =
      some ([rI o, .pt 0 0, .sl 1 0 2 l.ls.length, .sl 2 0 2 l.ls.length, .pt 3 0, I (i + 1 : Nat)], hU l o (i + 1)) := by
  obtain ⟨v, hv⟩ := at_ix hi
  have hv2 := ho i (by omega)
  have bd1 := nw_bd g ho i (by omega)
  have bd2 := nw_bd g ho (i + 1) (by omega)
  have e1 : eA l o (i + 1) = (eA l o i).set v.toNat ⟨nwL l o (i + 1), nwH l o (i + 1)⟩ := by rw [eA, getD_of hv]
  have e2 : sA l o (i + 1) = (sA l o i).set v.toNat ⟨soLo l o i, soHi l o i⟩ := by rw [sA, getD_of hv]
  have e3 : nwL l o (i + 1) = nwL l o i + (ldAt l v).cl := by rw [nwL, getD_of hv]
  have e4 : nwH l o (i + 1) = nwH l o i + (ldAt l v).ch := by rw [nwH, getD_of hv]
  have e5 : soLo l o i = sourF (knAt l (ldAt l v)) ((ldAt l v).al + nwL l o (i + 1)) := by rw [soLo, getD_of hv]
  have e6 : soHi l o i = sourF (knAt l (ldAt l v)) ((ldAt l v).ah + nwH l o (i + 1)) := by rw [soHi, getD_of hv]
  rw [getD_of hv] at hv2
  have hfew := g.few
  obtain ⟨x, k, h1, h2, h3, h4, h5, h6, h7, h8⟩ := g.ld hv2
  rw [h2] at e3 e4 e5 e6
  rw [h5] at e5 e6
  have l1 := eA_len l o i
  have l2 := sA_len l o i
  unfold hU
  rw [e1, e2]
  have s1 := cS_set (l := eA l o i) (i := v.toNat) (by omega) (nwL l o (i + 1)) (nwH l o (i + 1))
  have s2 := cS_set (l := sA l o i) (i := v.toNat) (by omega) (soLo l o i) (soHi l o i)
  have w1 := w56 k (x.al + nwL l o (i + 1)) h6
  have w2 := w56 k (x.ah + nwH l o (i + 1)) h6
  rw [← e5] at w1
  rw [← e6] at w2
  have a1 := lt_ix hi
  have a2 := up_ix hi (by omega)
  have c1 : (0 ≤ v) = True := eq_true (by omega)
  have c2 : (v < (l.ls.length : Int)) = True := eq_true (by omega)
  have c3 : (0 ≤ x.k) = True := eq_true (by omega)
  have c4 : (x.k < (l.ks.length : Int)) = True := eq_true (by omega)
  have c5 : (v.toNat * 2 + 2 ≤ (eA l o i).length * 2) = True := eq_true (by omega)
  have c6 : (v.toNat * 2 + 2 ≤ (sA l o i).length * 2) = True := eq_true (by omega)
  have q1 : IntKind.i64.wrap (nwL l o i + x.cl) = nwL l o (i + 1) := by rw [← e3]; exact wrap_ok (by omega) (by omega)
  have q2 : IntKind.i64.wrap (nwH l o i + x.ch) = nwH l o (i + 1) := by rw [← e4]; exact wrap_ok (by omega) (by omega)
  have q3 : IntKind.i64.wrap (x.al + nwL l o (i + 1)) = x.al + nwL l o (i + 1) := wrap_ok (by omega) (by omega)
  have q4 : IntKind.i64.wrap (x.ah + nwH l o (i + 1)) = x.ah + nwH l o (i + 1) := wrap_ok (by omega) (by omega)
  clear e1 e2 e3 e4 e5 e6 h5 h2
  generalize nwL l o (i + 1) = nl at *
  generalize nwH l o (i + 1) = nh at *
  generalize soLo l o i = sl at *
  generalize soHi l o i = sh at *
  unfold x18l0
  dsimp only
  (sym => (simp [yC_nm, yC_rn, yM_s, yC_gr, yC_sl, yC_fz, yC_len, yC_0, yC_1, yC_2, yC_3, yC_4, yC_15, yC_same, cS_gr, cS_nm, cS_sl, cS_len, z00,z01,z02,z03,z04,z05,z07,z08,z0b,z0c,z0n,z0o,z0s,z0v,z12,z15,z1f,z1j,z1k,z1l,z1m,z1n,z1o,z1p,z1q,z1v,z1w,z20,z21,z29,z2b,z2f,z2g,z2h,z2j,z2v,z33,z34,z4f,z4l,z4q,z4s,z4t,z54,z66,z6b,z6d,z6e,z8a,z8d,z91,z9d,z9e,z9g,z9i,z9j,z9k,z9l,z9m,z9p,z9r,z9s,z9v,z9w,z9y,za0,za1,za2,za3,za5,za6,za7,za8,za9,zaa,zab,zae,zaf,zal,zaq,zas,zat,zav,zaw,zax,zaz,zca,zcc,zcd,zce,zcf,zcn,zco,zcp,zcq,zcr,zct,zcu,zcv,zcw,zcx,zcy,zd3,zd7,zd8,zd9,zdd,zdj,zdk,zdm,zdn,zdo,zds,zdt,zdu,zdv,zdw,zdx,ze9,zea,zeb,zec,zf6,zf7,zf8,zf9,zfa,zfb,zfc,zfd,zfm,zfo,zfq,zfs,zft,zfw,zfz,zg0,zg1,zhe,zhf,zj8, a1, a2, hv, h1, h4, c1, c2, c3, c4, c5, c6, q1, q2, q3, q4, s1, s2, w1, w2]; all_goals tactic => exact rfl))
end
theorem w17 (l : Li) (hf : l.Fit) (o : List Int) : runW progX 17 [.agg l.c, rI o] [] = runR l o := by
  have e52 := w52 l hf
  unfold w52R at e52
  unfold runR runE
  by_cases hc : checkL l = 0
  · rw [if_pos hc]
    rw [if_pos hc] at e52
    have g := good_of hc
    have e53 := w53 (l := l) (b := behF l.ts) (es := []) g.few (beh_lt g) o
    by_cases ho : orderE l.ls.length (behF l.ts) o = 0
    · rw [if_pos ho]
      rw [ho] at e53
      obtain ⟨hl, _, hor⟩ := ord_of ho
      have hfew := g.few
      have rd : ∀ i, i < l.ls.length → headX 0 [2, 4, 5, 9, 36, 37, 38] (execW progX 17 0 none (match x17l0 with | .loop _ a => a | c => c) (envL [2, 4, 5, 9, 36, 37, 38] [.pt 0 0, .sl 1 0 2 l.ls.length, .sl 2 0 2 l.ls.length, .pt 3 0, rI o, I l.ls.length, I (i : Nat)]) (hU l o i)) =
          some ([.pt 0 0, .sl 1 0 2 l.ls.length, .sl 2 0 2 l.ls.length, .pt 3 0, rI o, I l.ls.length, I (i + 1 : Nat)], hU l o (i + 1)) := by
        intro i hi
        have := round17 g hl hor (i := i) (by omega)
        rw [hl] at this
        exact this
      have z := zf5 (n := (l.ls.length : Int))
      have k1 : (0 ≤ (l.ls.length : Int)) = True := eq_true (by omega)
      have k2 : (16 * (l.ls.length : Int) ≤ 281474976710656) = True := eq_true (by omega)
      have k3 : ((l.ls.length : Int) ≤ 9223372036854775807) = True := eq_true (by omega)
      have k4 : ((l.ls.length : Int) ≤ (l.ls.length : Int)) = True := eq_true (by omega)
      have r0 := cS_rep l.ls.length
      have c1 := cS_ch (eA l o l.ls.length)
      have c2 := cS_ch (sA l o l.ls.length)
      rw [eA_len] at c1
      rw [sA_len] at c2
      have c3 : (l.ls.length * 2 ≤ (eA l o l.ls.length).length * 2) = True := eq_true (by rw [eA_len]; omega)
      have c4 : (l.ls.length * 2 ≤ (sA l o l.ls.length).length * 2) = True := eq_true (by rw [sA_len]; omega)
      have s0 : eA l o 0 = List.replicate l.ls.length ⟨0, 0⟩ := rfl
      have s1 : sA l o 0 = List.replicate l.ls.length ⟨0, 0⟩ := rfl
      have s2 : nwL l o 0 = l.lo := rfl
      have s3 : nwH l o 0 = l.hi := rfl
      rw [hl]
      rw [r17 (by simp)]; unfold x17; dsimp only
      sym =>
        simp [yC_nm, yC_rn, yM_s, yC_gr, yC_sl, yC_fz, yC_len, yC_0, yC_1, yC_2, yC_3, yC_4, yC_15, yC_same, cS_gr, cS_nm, cS_sl, cS_len, z00,z01,z02,z05,z06,z07,z08,z09,z0b,z0c,z0f,z0n,z0o,z0r,z0v,z12,z18,z1e,z1f,z1j,z1n,z1o,z1r,z1u,z20,z21,z29,z2b,z2i,z2u,z2v,z33,z34,z3h,z4l,z4o,z4p,z4q,z4s,z4t,z54,z57,z59,z66,z69,z6a,z6b,z6d,z6e,z6h,z6p,z6t,z6u,z6w,z6x,z6z,z78,z7c,z7d,z7f,z7r,z7u,z7v,z7w,z7z,z81,z8d,z9d,z9e,z9g,z9i,z9j,z9k,z9l,z9m,z9n,z9p,z9r,z9s,z9t,z9v,z9w,z9x,z9y,za0,za1,za2,za3,za5,za6,za7,za8,za9,zaa,zab,zac,zae,zaf,zag,zal,zam,zaq,zas,zat,zau,zb4,zb5,zb9,zba,zbb,zbc,zbd,zbe,zbf,zbg,zbk,zbl,zbm,zbp,zbt,zbu,zbw,zbx,zby,zbz,zc2,zc3,zc4,zc5,zc6,zc8,zca,zcc,zcd,zce,zcf,zcg,zch,zcj,zcn,zco,zcp,zcq,zcr,zct,zcu,zcv,zcw,zcy,zd3,zd6,zd7,zdd,zdj,zdk,zdl,zdo,zds,zdt,zdu,zdv,zdw,zdx,zdy,zdz,ze0,ze1,ze2,ze3,ze9,zeo,zep,zev,zew,zf5,zf6,zf7,zfa,zfc,zfd,zfg,zfm,zfo,zfp,zfq,zfr,zfs,zft,zfu,zfv,zfy,zfz,zg0,zg1,zhe,zhf,zje,zjg,zjj,zk8,zkn,zko,zkp,zkq, e52, e53, hl, k1, k2, k3, k4, r0]
        tactic =>
          unfold x17l0
          rw [loop_rule l.ls.length (fun i => [.pt 0 0, .sl 1 0 2 l.ls.length, .sl 2 0 2 l.ls.length, .pt 3 0, rI o, I l.ls.length, I (i : Nat)]) (fun i => hU l o i)]
          · (sym => (simp [yC_nm, yC_rn, yM_s, yC_gr, yC_sl, yC_fz, yC_len, yC_0, yC_1, yC_2, yC_3, yC_4, yC_15, yC_same, cS_gr, cS_nm, cS_sl, cS_len, z00,z01,z02,z05,z06,z07,z08,z09,z0b,z0c,z0f,z0n,z0o,z0r,z0v,z12,z18,z1e,z1f,z1j,z1n,z1o,z1r,z1u,z20,z21,z29,z2b,z2i,z2u,z2v,z33,z34,z3h,z4l,z4o,z4p,z4q,z4s,z4t,z54,z57,z59,z66,z69,z6a,z6b,z6d,z6e,z6h,z6p,z6t,z6u,z6w,z6x,z6z,z78,z7c,z7d,z7f,z7r,z7u,z7v,z7w,z7z,z81,z8d,z9d,z9e,z9g,z9i,z9j,z9k,z9l,z9m,z9n,z9p,z9r,z9s,z9t,z9v,z9w,z9x,z9y,za0,za1,za2,za3,za5,za6,za7,za8,za9,zaa,zab,zac,zae,zaf,zag,zal,zam,zaq,zas,zat,zau,zb4,zb5,zb9,zba,zbb,zbc,zbd,zbe,zbf,zbg,zbk,zbl,zbm,zbp,zbt,zbu,zbw,zbx,zby,zbz,zc2,zc3,zc4,zc5,zc6,zc8,zca,zcc,zcd,zce,zcf,zcg,zch,zcj,zcn,zco,zcp,zcq,zcr,zct,zcu,zcv,zcw,zcy,zd3,zd6,zd7,zdd,zdj,zdk,zdl,zdo,zds,zdt,zdu,zdv,zdw,zdx,zdy,zdz,ze0,ze1,ze2,ze3,ze9,zeo,zep,zev,zew,zf5,zf6,zf7,zfa,zfc,zfd,zfg,zfm,zfo,zfp,zfq,zfr,zfs,zft,zfu,zfv,zfy,zfz,zg0,zg1,zhe,zhf,zje,zjg,zjj,zk8,zkn,zko,zkp,zkq, z, c1, c2, c3, c4]; all_goals tactic => exact rfl))
          · (sym => (simp [yC_nm, yC_rn, yM_s, yC_gr, yC_sl, yC_fz, yC_len, yC_0, yC_1, yC_2, yC_3, yC_4, yC_15, yC_same, cS_gr, cS_nm, cS_sl, cS_len, z00,z01,z02,z05,z06,z07,z08,z09,z0b,z0c,z0f,z0n,z0o,z0r,z0v,z12,z18,z1e,z1f,z1j,z1n,z1o,z1r,z1u,z20,z21,z29,z2b,z2i,z2u,z2v,z33,z34,z3h,z4l,z4o,z4p,z4q,z4s,z4t,z54,z57,z59,z66,z69,z6a,z6b,z6d,z6e,z6h,z6p,z6t,z6u,z6w,z6x,z6z,z78,z7c,z7d,z7f,z7r,z7u,z7v,z7w,z7z,z81,z8d,z9d,z9e,z9g,z9i,z9j,z9k,z9l,z9m,z9n,z9p,z9r,z9s,z9t,z9v,z9w,z9x,z9y,za0,za1,za2,za3,za5,za6,za7,za8,za9,zaa,zab,zac,zae,zaf,zag,zal,zam,zaq,zas,zat,zau,zb4,zb5,zb9,zba,zbb,zbc,zbd,zbe,zbf,zbg,zbk,zbl,zbm,zbp,zbt,zbu,zbw,zbx,zby,zbz,zc2,zc3,zc4,zc5,zc6,zc8,zca,zcc,zcd,zce,zcf,zcg,zch,zcj,zcn,zco,zcp,zcq,zcr,zct,zcu,zcv,zcw,zcy,zd3,zd6,zd7,zdd,zdj,zdk,zdl,zdo,zds,zdt,zdu,zdv,zdw,zdx,zdy,zdz,ze0,ze1,ze2,ze3,ze9,zeo,zep,zev,zew,zf5,zf6,zf7,zfa,zfc,zfd,zfg,zfm,zfo,zfp,zfq,zfr,zfs,zft,zfu,zfv,zfy,zfz,zg0,zg1,zhe,zhf,zje,zjg,zjj,zk8,zkn,zko,zkp,zkq, s0, s1, s2, s3]; all_goals tactic => exact rfl))
          · exact rd
          · (sym => (simp [yC_nm, yC_rn, yM_s, yC_gr, yC_sl, yC_fz, yC_len, yC_0, yC_1, yC_2, yC_3, yC_4, yC_15, yC_same, cS_gr, cS_nm, cS_sl, cS_len, z00,z01,z02,z05,z06,z07,z08,z09,z0b,z0c,z0f,z0n,z0o,z0r,z0v,z12,z18,z1e,z1f,z1j,z1n,z1o,z1r,z1u,z20,z21,z29,z2b,z2i,z2u,z2v,z33,z34,z3h,z4l,z4o,z4p,z4q,z4s,z4t,z54,z57,z59,z66,z69,z6a,z6b,z6d,z6e,z6h,z6p,z6t,z6u,z6w,z6x,z6z,z78,z7c,z7d,z7f,z7r,z7u,z7v,z7w,z7z,z81,z8d,z9d,z9e,z9g,z9i,z9j,z9k,z9l,z9m,z9n,z9p,z9r,z9s,z9t,z9v,z9w,z9x,z9y,za0,za1,za2,za3,za5,za6,za7,za8,za9,zaa,zab,zac,zae,zaf,zag,zal,zam,zaq,zas,zat,zau,zb4,zb5,zb9,zba,zbb,zbc,zbd,zbe,zbf,zbg,zbk,zbl,zbm,zbp,zbt,zbu,zbw,zbx,zby,zbz,zc2,zc3,zc4,zc5,zc6,zc8,zca,zcc,zcd,zce,zcf,zcg,zch,zcj,zcn,zco,zcp,zcq,zcr,zct,zcu,zcv,zcw,zcy,zd3,zd6,zd7,zdd,zdj,zdk,zdl,zdo,zds,zdt,zdu,zdv,zdw,zdx,zdy,zdz,ze0,ze1,ze2,ze3,ze9,zeo,zep,zev,zew,zf5,zf6,zf7,zfa,zfc,zfd,zfg,zfm,zfo,zfp,zfq,zfr,zfs,zft,zfu,zfv,zfy,zfz,zg0,zg1,zhe,zhf,zje,zjg,zjj,zk8,zkn,zko,zkp,zkq, z]; all_goals tactic => exact rfl))
    · rw [if_neg ho]
      have g := eq_false ho
      rw [r17 (by simp)]; unfold x17; dsimp only
      (sym => (simp [yC_nm, yC_rn, yM_s, yC_gr, yC_sl, yC_fz, yC_len, yC_0, yC_1, yC_2, yC_3, yC_4, yC_15, yC_same, cS_gr, cS_nm, cS_sl, cS_len, z00,z01,z02,z05,z06,z07,z08,z09,z0b,z0c,z0f,z0n,z0o,z0r,z0v,z12,z18,z1e,z1f,z1j,z1n,z1o,z1r,z1u,z20,z21,z29,z2b,z2i,z2u,z2v,z33,z34,z3h,z4l,z4o,z4p,z4q,z4s,z4t,z54,z57,z59,z66,z69,z6a,z6b,z6d,z6e,z6h,z6p,z6t,z6u,z6w,z6x,z6z,z78,z7c,z7d,z7f,z7r,z7u,z7v,z7w,z7z,z81,z8d,z9d,z9e,z9g,z9i,z9j,z9k,z9l,z9m,z9n,z9p,z9r,z9s,z9t,z9v,z9w,z9x,z9y,za0,za1,za2,za3,za5,za6,za7,za8,za9,zaa,zab,zac,zae,zaf,zag,zal,zam,zaq,zas,zat,zau,zb4,zb5,zb9,zba,zbb,zbc,zbd,zbe,zbf,zbg,zbk,zbl,zbm,zbp,zbt,zbu,zbw,zbx,zby,zbz,zc2,zc3,zc4,zc5,zc6,zc8,zca,zcc,zcd,zce,zcf,zcg,zch,zcj,zcn,zco,zcp,zcq,zcr,zct,zcu,zcv,zcw,zcy,zd3,zd6,zd7,zdd,zdj,zdk,zdl,zdo,zds,zdt,zdu,zdv,zdw,zdx,zdy,zdz,ze0,ze1,ze2,ze3,ze9,zeo,zep,zev,zew,zf5,zf6,zf7,zfa,zfc,zfd,zfg,zfm,zfo,zfp,zfq,zfr,zfs,zft,zfu,zfv,zfy,zfz,zg0,zg1,zhe,zhf,zje,zjg,zjj,zk8,zkn,zko,zkp,zkq, e52, e53, g]; all_goals tactic => exact rfl))
  · rw [if_neg hc]
    rw [if_neg hc] at e52
    rw [if_neg hc]
    have g := eq_false hc
    rw [r17 (by simp)]; unfold x17; dsimp only
    (sym => (simp [yC_nm, yC_rn, yM_s, yC_gr, yC_sl, yC_fz, yC_len, yC_0, yC_1, yC_2, yC_3, yC_4, yC_15, yC_same, cS_gr, cS_nm, cS_sl, cS_len, z00,z01,z02,z05,z06,z07,z08,z09,z0b,z0c,z0f,z0n,z0o,z0r,z0v,z12,z18,z1e,z1f,z1j,z1n,z1o,z1r,z1u,z20,z21,z29,z2b,z2i,z2u,z2v,z33,z34,z3h,z4l,z4o,z4p,z4q,z4s,z4t,z54,z57,z59,z66,z69,z6a,z6b,z6d,z6e,z6h,z6p,z6t,z6u,z6w,z6x,z6z,z78,z7c,z7d,z7f,z7r,z7u,z7v,z7w,z7z,z81,z8d,z9d,z9e,z9g,z9i,z9j,z9k,z9l,z9m,z9n,z9p,z9r,z9s,z9t,z9v,z9w,z9x,z9y,za0,za1,za2,za3,za5,za6,za7,za8,za9,zaa,zab,zac,zae,zaf,zag,zal,zam,zaq,zas,zat,zau,zb4,zb5,zb9,zba,zbb,zbc,zbd,zbe,zbf,zbg,zbk,zbl,zbm,zbp,zbt,zbu,zbw,zbx,zby,zbz,zc2,zc3,zc4,zc5,zc6,zc8,zca,zcc,zcd,zce,zcf,zcg,zch,zcj,zcn,zco,zcp,zcq,zcr,zct,zcu,zcv,zcw,zcy,zd3,zd6,zd7,zdd,zdj,zdk,zdl,zdo,zds,zdt,zdu,zdv,zdw,zdx,zdy,zdz,ze0,ze1,ze2,ze3,ze9,zeo,zep,zev,zew,zf5,zf6,zf7,zfa,zfc,zfd,zfg,zfm,zfo,zfp,zfq,zfr,zfs,zft,zfu,zfv,zfy,zfz,zg0,zg1,zhe,zhf,zje,zjg,zjj,zk8,zkn,zko,zkp,zkq, e52, g]; all_goals tactic => exact rfl))
theorem w18 (l : Li) (hf : l.Fit) (o : List Int) : runW progX 18 [.agg l.c, rI o] [] = runR l o := by
  have e23 := w23 l hf
  unfold runR runE
  by_cases hc : checkL l = 0
  · rw [if_pos hc]
    rw [hc] at e23
    have g := good_of hc
    have e55 := w55 hf g o
    by_cases ho : orderE l.ls.length (behF l.ts) o = 0
    · rw [if_pos ho]
      rw [ho] at e55
      obtain ⟨hl, _, hor⟩ := ord_of ho
      have hfew := g.few
      have rd : ∀ i, i < l.ls.length → headX 0 [1, 2, 8, 9, 10, 11] (execW progX 18 0 none (match x18l0 with | .loop _ a => a | c => c) (envL [1, 2, 8, 9, 10, 11] [rI o, .pt 0 0, .sl 1 0 2 l.ls.length, .sl 2 0 2 l.ls.length, .pt 3 0, I (i : Nat)]) (hU l o i)) =
          some ([rI o, .pt 0 0, .sl 1 0 2 l.ls.length, .sl 2 0 2 l.ls.length, .pt 3 0, I (i + 1 : Nat)], hU l o (i + 1)) := by
        intro i hi
        exact round18 g hl hor (i := i) (by omega)
      have z := zf5 (n := (l.ls.length : Int))
      have k1 : (0 ≤ (l.ls.length : Int)) = True := eq_true (by omega)
      have k2 : (16 * (l.ls.length : Int) ≤ 281474976710656) = True := eq_true (by omega)
      have k3 : ((l.ls.length : Int) ≤ 9223372036854775807) = True := eq_true (by omega)
      have k4 : ((l.ls.length : Int) ≤ (l.ls.length : Int)) = True := eq_true (by omega)
      have r0 := cS_rep l.ls.length
      have c1 := cS_ch (eA l o l.ls.length)
      have c2 := cS_ch (sA l o l.ls.length)
      rw [eA_len] at c1
      rw [sA_len] at c2
      have c3 : (l.ls.length * 2 ≤ (eA l o l.ls.length).length * 2) = True := eq_true (by rw [eA_len]; omega)
      have c4 : (l.ls.length * 2 ≤ (sA l o l.ls.length).length * 2) = True := eq_true (by rw [sA_len]; omega)
      have s0 : eA l o 0 = List.replicate l.ls.length ⟨0, 0⟩ := rfl
      have s1 : sA l o 0 = List.replicate l.ls.length ⟨0, 0⟩ := rfl
      have s2 : nwL l o 0 = l.lo := rfl
      have s3 : nwH l o 0 = l.hi := rfl
      rw [hl]
      rw [r18 (by simp)]; unfold x18; dsimp only
      sym =>
        simp [yC_nm, yC_rn, yM_s, yC_gr, yC_sl, yC_fz, yC_len, yC_0, yC_1, yC_2, yC_3, yC_4, yC_15, yC_same, cS_gr, cS_nm, cS_sl, cS_len, z00,z01,z02,z05,z06,z07,z08,z09,z0b,z0c,z0f,z0n,z0o,z0r,z0v,z12,z18,z1f,z1j,z1n,z1o,z1r,z1u,z20,z21,z29,z2b,z2t,z2u,z2v,z33,z34,z3h,z4l,z4o,z4p,z4q,z4s,z4t,z54,z57,z59,z66,z69,z6a,z6b,z6d,z6e,z6p,z6t,z6u,z6w,z6z,z78,z7c,z7d,z7f,z7r,z7u,z7v,z7w,z81,z8d,z9d,z9e,z9g,z9i,z9j,z9k,z9l,z9m,z9n,z9r,z9s,z9v,z9w,z9y,za0,za1,za2,za3,za5,za6,za7,za8,za9,zaa,zab,zae,zaf,zal,zaq,zas,zat,zb4,zb5,zb9,zba,zbb,zbc,zbd,zbe,zbf,zbg,zbk,zbl,zbm,zbp,zbt,zbu,zbw,zbx,zby,zbz,zc2,zc3,zc4,zc5,zc6,zc8,zca,zcc,zcd,zce,zcf,zcg,zch,zcj,zcn,zco,zcp,zcq,zcr,zct,zcu,zcv,zcw,zcy,zd3,zd6,zd7,zdd,zdj,zdk,zdl,zdo,zds,zdt,zdu,zdv,zdw,zdx,zdy,zdz,ze0,ze1,ze2,ze3,ze9,zeo,zep,zev,zew,zf5,zf6,zf7,zfa,zfc,zfd,zfg,zfm,zfo,zfp,zfq,zfr,zfs,zft,zfu,zfv,zfy,zfz,zg0,zg1,zhe,zhf,zje,zjg,zjj,zk8,zkn,zko,zkp,zkq, e23, e55, hl, k1, k2, k3, k4, r0]
        tactic =>
          unfold x18l0
          rw [loop_rule l.ls.length (fun i => [rI o, .pt 0 0, .sl 1 0 2 l.ls.length, .sl 2 0 2 l.ls.length, .pt 3 0, I (i : Nat)]) (fun i => hU l o i)]
          · (sym => (simp [yC_nm, yC_rn, yM_s, yC_gr, yC_sl, yC_fz, yC_len, yC_0, yC_1, yC_2, yC_3, yC_4, yC_15, yC_same, cS_gr, cS_nm, cS_sl, cS_len, z00,z01,z02,z05,z06,z07,z08,z09,z0b,z0c,z0f,z0n,z0o,z0r,z0v,z12,z18,z1f,z1j,z1n,z1o,z1r,z1u,z20,z21,z29,z2b,z2t,z2u,z2v,z33,z34,z3h,z4l,z4o,z4p,z4q,z4s,z4t,z54,z57,z59,z66,z69,z6a,z6b,z6d,z6e,z6p,z6t,z6u,z6w,z6z,z78,z7c,z7d,z7f,z7r,z7u,z7v,z7w,z81,z8d,z9d,z9e,z9g,z9i,z9j,z9k,z9l,z9m,z9n,z9r,z9s,z9v,z9w,z9y,za0,za1,za2,za3,za5,za6,za7,za8,za9,zaa,zab,zae,zaf,zal,zaq,zas,zat,zb4,zb5,zb9,zba,zbb,zbc,zbd,zbe,zbf,zbg,zbk,zbl,zbm,zbp,zbt,zbu,zbw,zbx,zby,zbz,zc2,zc3,zc4,zc5,zc6,zc8,zca,zcc,zcd,zce,zcf,zcg,zch,zcj,zcn,zco,zcp,zcq,zcr,zct,zcu,zcv,zcw,zcy,zd3,zd6,zd7,zdd,zdj,zdk,zdl,zdo,zds,zdt,zdu,zdv,zdw,zdx,zdy,zdz,ze0,ze1,ze2,ze3,ze9,zeo,zep,zev,zew,zf5,zf6,zf7,zfa,zfc,zfd,zfg,zfm,zfo,zfp,zfq,zfr,zfs,zft,zfu,zfv,zfy,zfz,zg0,zg1,zhe,zhf,zje,zjg,zjj,zk8,zkn,zko,zkp,zkq, z, c1, c2, c3, c4, hl]; all_goals tactic => exact rfl))
          · (sym => (simp [yC_nm, yC_rn, yM_s, yC_gr, yC_sl, yC_fz, yC_len, yC_0, yC_1, yC_2, yC_3, yC_4, yC_15, yC_same, cS_gr, cS_nm, cS_sl, cS_len, z00,z01,z02,z05,z06,z07,z08,z09,z0b,z0c,z0f,z0n,z0o,z0r,z0v,z12,z18,z1f,z1j,z1n,z1o,z1r,z1u,z20,z21,z29,z2b,z2t,z2u,z2v,z33,z34,z3h,z4l,z4o,z4p,z4q,z4s,z4t,z54,z57,z59,z66,z69,z6a,z6b,z6d,z6e,z6p,z6t,z6u,z6w,z6z,z78,z7c,z7d,z7f,z7r,z7u,z7v,z7w,z81,z8d,z9d,z9e,z9g,z9i,z9j,z9k,z9l,z9m,z9n,z9r,z9s,z9v,z9w,z9y,za0,za1,za2,za3,za5,za6,za7,za8,za9,zaa,zab,zae,zaf,zal,zaq,zas,zat,zb4,zb5,zb9,zba,zbb,zbc,zbd,zbe,zbf,zbg,zbk,zbl,zbm,zbp,zbt,zbu,zbw,zbx,zby,zbz,zc2,zc3,zc4,zc5,zc6,zc8,zca,zcc,zcd,zce,zcf,zcg,zch,zcj,zcn,zco,zcp,zcq,zcr,zct,zcu,zcv,zcw,zcy,zd3,zd6,zd7,zdd,zdj,zdk,zdl,zdo,zds,zdt,zdu,zdv,zdw,zdx,zdy,zdz,ze0,ze1,ze2,ze3,ze9,zeo,zep,zev,zew,zf5,zf6,zf7,zfa,zfc,zfd,zfg,zfm,zfo,zfp,zfq,zfr,zfs,zft,zfu,zfv,zfy,zfz,zg0,zg1,zhe,zhf,zje,zjg,zjj,zk8,zkn,zko,zkp,zkq, s0, s1, s2, s3]; all_goals tactic => exact rfl))
          · exact rd
          · (sym => (simp [yC_nm, yC_rn, yM_s, yC_gr, yC_sl, yC_fz, yC_len, yC_0, yC_1, yC_2, yC_3, yC_4, yC_15, yC_same, cS_gr, cS_nm, cS_sl, cS_len, z00,z01,z02,z05,z06,z07,z08,z09,z0b,z0c,z0f,z0n,z0o,z0r,z0v,z12,z18,z1f,z1j,z1n,z1o,z1r,z1u,z20,z21,z29,z2b,z2t,z2u,z2v,z33,z34,z3h,z4l,z4o,z4p,z4q,z4s,z4t,z54,z57,z59,z66,z69,z6a,z6b,z6d,z6e,z6p,z6t,z6u,z6w,z6z,z78,z7c,z7d,z7f,z7r,z7u,z7v,z7w,z81,z8d,z9d,z9e,z9g,z9i,z9j,z9k,z9l,z9m,z9n,z9r,z9s,z9v,z9w,z9y,za0,za1,za2,za3,za5,za6,za7,za8,za9,zaa,zab,zae,zaf,zal,zaq,zas,zat,zb4,zb5,zb9,zba,zbb,zbc,zbd,zbe,zbf,zbg,zbk,zbl,zbm,zbp,zbt,zbu,zbw,zbx,zby,zbz,zc2,zc3,zc4,zc5,zc6,zc8,zca,zcc,zcd,zce,zcf,zcg,zch,zcj,zcn,zco,zcp,zcq,zcr,zct,zcu,zcv,zcw,zcy,zd3,zd6,zd7,zdd,zdj,zdk,zdl,zdo,zds,zdt,zdu,zdv,zdw,zdx,zdy,zdz,ze0,ze1,ze2,ze3,ze9,zeo,zep,zev,zew,zf5,zf6,zf7,zfa,zfc,zfd,zfg,zfm,zfo,zfp,zfq,zfr,zfs,zft,zfu,zfv,zfy,zfz,zg0,zg1,zhe,zhf,zje,zjg,zjj,zk8,zkn,zko,zkp,zkq, z, hl]; all_goals tactic => exact rfl))
    · rw [if_neg ho]
      have g := eq_false ho
      rw [r18 (by simp)]; unfold x18; dsimp only
      (sym => (simp [yC_nm, yC_rn, yM_s, yC_gr, yC_sl, yC_fz, yC_len, yC_0, yC_1, yC_2, yC_3, yC_4, yC_15, yC_same, cS_gr, cS_nm, cS_sl, cS_len, z00,z01,z02,z05,z06,z07,z08,z09,z0b,z0c,z0f,z0n,z0o,z0r,z0v,z12,z18,z1f,z1j,z1n,z1o,z1r,z1u,z20,z21,z29,z2b,z2t,z2u,z2v,z33,z34,z3h,z4l,z4o,z4p,z4q,z4s,z4t,z54,z57,z59,z66,z69,z6a,z6b,z6d,z6e,z6p,z6t,z6u,z6w,z6z,z78,z7c,z7d,z7f,z7r,z7u,z7v,z7w,z81,z8d,z9d,z9e,z9g,z9i,z9j,z9k,z9l,z9m,z9n,z9r,z9s,z9v,z9w,z9y,za0,za1,za2,za3,za5,za6,za7,za8,za9,zaa,zab,zae,zaf,zal,zaq,zas,zat,zb4,zb5,zb9,zba,zbb,zbc,zbd,zbe,zbf,zbg,zbk,zbl,zbm,zbp,zbt,zbu,zbw,zbx,zby,zbz,zc2,zc3,zc4,zc5,zc6,zc8,zca,zcc,zcd,zce,zcf,zcg,zch,zcj,zcn,zco,zcp,zcq,zcr,zct,zcu,zcv,zcw,zcy,zd3,zd6,zd7,zdd,zdj,zdk,zdl,zdo,zds,zdt,zdu,zdv,zdw,zdx,zdy,zdz,ze0,ze1,ze2,ze3,ze9,zeo,zep,zev,zew,zf5,zf6,zf7,zfa,zfc,zfd,zfg,zfm,zfo,zfp,zfq,zfr,zfs,zft,zfu,zfv,zfy,zfz,zg0,zg1,zhe,zhf,zje,zjg,zjj,zk8,zkn,zko,zkp,zkq, e23, e55, g]; all_goals tactic => exact rfl))
  · rw [if_neg hc]
    rw [if_neg hc]
    have g := eq_false hc
    rw [r18 (by simp)]; unfold x18; dsimp only
    (sym => (simp [yC_nm, yC_rn, yM_s, yC_gr, yC_sl, yC_fz, yC_len, yC_0, yC_1, yC_2, yC_3, yC_4, yC_15, yC_same, cS_gr, cS_nm, cS_sl, cS_len, z00,z01,z02,z05,z06,z07,z08,z09,z0b,z0c,z0f,z0n,z0o,z0r,z0v,z12,z18,z1f,z1j,z1n,z1o,z1r,z1u,z20,z21,z29,z2b,z2t,z2u,z2v,z33,z34,z3h,z4l,z4o,z4p,z4q,z4s,z4t,z54,z57,z59,z66,z69,z6a,z6b,z6d,z6e,z6p,z6t,z6u,z6w,z6z,z78,z7c,z7d,z7f,z7r,z7u,z7v,z7w,z81,z8d,z9d,z9e,z9g,z9i,z9j,z9k,z9l,z9m,z9n,z9r,z9s,z9v,z9w,z9y,za0,za1,za2,za3,za5,za6,za7,za8,za9,zaa,zab,zae,zaf,zal,zaq,zas,zat,zb4,zb5,zb9,zba,zbb,zbc,zbd,zbe,zbf,zbg,zbk,zbl,zbm,zbp,zbt,zbu,zbw,zbx,zby,zbz,zc2,zc3,zc4,zc5,zc6,zc8,zca,zcc,zcd,zce,zcf,zcg,zch,zcj,zcn,zco,zcp,zcq,zcr,zct,zcu,zcv,zcw,zcy,zd3,zd6,zd7,zdd,zdj,zdk,zdl,zdo,zds,zdt,zdu,zdv,zdw,zdx,zdy,zdz,ze0,ze1,ze2,ze3,ze9,zeo,zep,zev,zew,zf5,zf6,zf7,zfa,zfc,zfd,zfg,zfm,zfo,zfp,zfq,zfr,zfs,zft,zfu,zfv,zfy,zfz,zg0,zg1,zhe,zhf,zje,zjg,zjj,zk8,zkn,zko,zkp,zkq, e23, g]; all_goals tactic => exact rfl))
/-! ### The worst -/
def mxI (a b : Int) : Int := if b > a then b else a
def wsN (s : List Sp) : Nat → Int
  | 0 => 0
  | i + 1 => mxI (wsN s i) (s.getD i ⟨0, 0⟩).hi
def worst (l : Li) (o : List Int) : Int := wsN (sA l o o.length) l.ls.length
def worR (l : Li) (o : List Int) : Option (AV × XH) := if runE l o = 0 then some (.tup [I (worst l o), I 0], []) else some (.tup [I 0, I (runE l o)], [])
theorem runE_len {l : Li} {o : List Int} (h : runE l o = 0) : Good l ∧ o.length = l.ls.length ∧ orderE l.ls.length (behF l.ts) o = 0 := by
  unfold runE at h
  by_cases hc : checkL l = 0
  · rw [if_pos hc] at h
    exact ⟨good_of hc, (ord_of h).1, h⟩
  · rw [if_neg hc] at h
    exact absurd h hc
theorem w20 (l : Li) (hf : l.Fit) (o : List Int) : runW progX 20 [.agg l.c, rI o] [] = worR l o := by
  have e17 := w18 l hf o
  unfold runR at e17
  unfold worR worst
  by_cases h : runE l o = 0
  · rw [if_pos h]
    rw [if_pos h] at e17
    obtain ⟨g, hl, _⟩ := runE_len h
    have hfew := g.few
    have hs := sA_len l o o.length
    generalize sA l o o.length = s at *
    have hsl : s.length ≤ 10 := by omega
    rw [← hs] at *
    have z := zf5 (n := (s.length : Int))
    have s0 : wsN s 0 = 0 := rfl
    have rd : ∀ i, i < s.length → headX 0 [7, 9, 10] (execW progX 20 0 none (match x20l0 with | .loop _ a => a | c => c) (envL [7, 9, 10] [sR s, I (wsN s i), I (i : Nat)]) []) = some ([sR s, I (wsN s (i + 1)), I (i + 1 : Nat)], []) := by
      intro i hi
      obtain ⟨x, hx⟩ := at_ix hi
      have a1 := lt_ix hi
      have a2 := up_ix hi (by omega)
      have e : wsN s (i + 1) = mxI (wsN s i) x.hi := by rw [wsN, getD_of hx]
      rw [e]
      unfold mxI
      unfold x20l0
      dsimp only
      rcases ptf (x.hi > wsN s i) with g | g
      · simp only [g, if_true]
        (sym => (simp [yC_nm, yC_rn, yM_s, yC_gr, yC_sl, yC_fz, yC_len, yC_0, yC_1, yC_2, yC_3, yC_4, yC_15, yC_same, cS_gr, cS_nm, cS_sl, cS_len, z00,z01,z05,z06,z07,z09,z0b,z0c,z0f,z0n,z0r,z0v,z12,z15,z1e,z1f,z1g,z1j,z1r,z1u,z20,z21,z2a,z2b,z2g,z2h,z2i,z2j,z2u,z2v,z33,z34,z3h,z42,z4l,z4o,z4p,z4q,z54,z57,z59,z66,z69,z6a,z6b,z6p,z6t,z6u,z7r,z7u,z7v,z7w,z8d,z9d,z9e,z9g,z9j,z9k,z9l,z9m,z9n,z9p,z9y,za2,za3,za5,za6,za7,za8,zaa,zab,zaq,zas,zat,zba,zbc,zbd,zbe,zbf,zbg,zbk,zbt,zbu,zbw,zbx,zby,zbz,zc2,zc3,zc4,zc5,zc6,zc8,zca,zcc,zcd,zce,zcf,zcg,zch,zcj,zcn,zco,zcq,zcr,zct,zcu,zcv,zcw,zcx,zcy,zd3,zd6,zd7,zdd,zdk,zdl,zdo,zds,zdt,zdu,zdv,zdw,zdx,zdy,zdz,ze2,ze3,zeo,zep,zf5,zf6,zf7,zf8,zf9,zfa,zfb,zfg,zfm,zfo,zfp,zfq,zfr,zfs,zft,zfu,zfv,zfw,zfy,zfz,zg0,zg1,zje,zkn,zko,zkp,zkq, a1, a2, hx, g]; all_goals tactic => exact rfl))
      · simp only [g, if_false]
        (sym => (simp [yC_nm, yC_rn, yM_s, yC_gr, yC_sl, yC_fz, yC_len, yC_0, yC_1, yC_2, yC_3, yC_4, yC_15, yC_same, cS_gr, cS_nm, cS_sl, cS_len, z00,z01,z05,z06,z07,z09,z0b,z0c,z0f,z0n,z0r,z0v,z12,z15,z1e,z1f,z1g,z1j,z1r,z1u,z20,z21,z2a,z2b,z2g,z2h,z2i,z2j,z2u,z2v,z33,z34,z3h,z42,z4l,z4o,z4p,z4q,z54,z57,z59,z66,z69,z6a,z6b,z6p,z6t,z6u,z7r,z7u,z7v,z7w,z8d,z9d,z9e,z9g,z9j,z9k,z9l,z9m,z9n,z9p,z9y,za2,za3,za5,za6,za7,za8,zaa,zab,zaq,zas,zat,zba,zbc,zbd,zbe,zbf,zbg,zbk,zbt,zbu,zbw,zbx,zby,zbz,zc2,zc3,zc4,zc5,zc6,zc8,zca,zcc,zcd,zce,zcf,zcg,zch,zcj,zcn,zco,zcq,zcr,zct,zcu,zcv,zcw,zcx,zcy,zd3,zd6,zd7,zdd,zdk,zdl,zdo,zds,zdt,zdu,zdv,zdw,zdx,zdy,zdz,ze2,ze3,zeo,zep,zf5,zf6,zf7,zf8,zf9,zfa,zfb,zfg,zfm,zfo,zfp,zfq,zfr,zfs,zft,zfu,zfv,zfw,zfy,zfz,zg0,zg1,zje,zkn,zko,zkp,zkq, a1, a2, hx, g]; all_goals tactic => exact rfl))
    rw [r20 (by simp)]; unfold x20; dsimp only
    sym =>
      simp [yC_nm, yC_rn, yM_s, yC_gr, yC_sl, yC_fz, yC_len, yC_0, yC_1, yC_2, yC_3, yC_4, yC_15, yC_same, cS_gr, cS_nm, cS_sl, cS_len, z00,z01,z05,z06,z07,z09,z0b,z0c,z0f,z0n,z0r,z0v,z12,z15,z1e,z1f,z1g,z1j,z1r,z1u,z20,z21,z2a,z2b,z2g,z2h,z2i,z2j,z2u,z2v,z33,z34,z3h,z42,z4l,z4o,z4p,z4q,z54,z57,z59,z66,z69,z6a,z6b,z6p,z6t,z6u,z7r,z7u,z7v,z7w,z8d,z9d,z9e,z9g,z9j,z9k,z9l,z9m,z9n,z9p,z9y,za2,za3,za5,za6,za7,za8,zaa,zab,zaq,zas,zat,zba,zbc,zbd,zbe,zbf,zbg,zbk,zbt,zbu,zbw,zbx,zby,zbz,zc2,zc3,zc4,zc5,zc6,zc8,zca,zcc,zcd,zce,zcf,zcg,zch,zcj,zcn,zco,zcq,zcr,zct,zcu,zcv,zcw,zcx,zcy,zd3,zd6,zd7,zdd,zdk,zdl,zdo,zds,zdt,zdu,zdv,zdw,zdx,zdy,zdz,ze2,ze3,zeo,zep,zf5,zf6,zf7,zf8,zf9,zfa,zfb,zfg,zfm,zfo,zfp,zfq,zfr,zfs,zft,zfu,zfv,zfw,zfy,zfz,zg0,zg1,zje,zkn,zko,zkp,zkq, e17]
      tactic =>
        unfold x20l0
        rw [loop_rule s.length (fun i => [sR s, I (wsN s i), I (i : Nat)]) (fun _ => [])]
        · (sym => (simp [yC_nm, yC_rn, yM_s, yC_gr, yC_sl, yC_fz, yC_len, yC_0, yC_1, yC_2, yC_3, yC_4, yC_15, yC_same, cS_gr, cS_nm, cS_sl, cS_len, z00,z01,z05,z06,z07,z09,z0b,z0c,z0f,z0n,z0r,z0v,z12,z15,z1e,z1f,z1g,z1j,z1r,z1u,z20,z21,z2a,z2b,z2g,z2h,z2i,z2j,z2u,z2v,z33,z34,z3h,z42,z4l,z4o,z4p,z4q,z54,z57,z59,z66,z69,z6a,z6b,z6p,z6t,z6u,z7r,z7u,z7v,z7w,z8d,z9d,z9e,z9g,z9j,z9k,z9l,z9m,z9n,z9p,z9y,za2,za3,za5,za6,za7,za8,zaa,zab,zaq,zas,zat,zba,zbc,zbd,zbe,zbf,zbg,zbk,zbt,zbu,zbw,zbx,zby,zbz,zc2,zc3,zc4,zc5,zc6,zc8,zca,zcc,zcd,zce,zcf,zcg,zch,zcj,zcn,zco,zcq,zcr,zct,zcu,zcv,zcw,zcx,zcy,zd3,zd6,zd7,zdd,zdk,zdl,zdo,zds,zdt,zdu,zdv,zdw,zdx,zdy,zdz,ze2,ze3,zeo,zep,zf5,zf6,zf7,zf8,zf9,zfa,zfb,zfg,zfm,zfo,zfp,zfq,zfr,zfs,zft,zfu,zfv,zfw,zfy,zfz,zg0,zg1,zje,zkn,zko,zkp,zkq, z]; all_goals tactic => exact rfl))
        · (sym => (simp [yC_nm, yC_rn, yM_s, yC_gr, yC_sl, yC_fz, yC_len, yC_0, yC_1, yC_2, yC_3, yC_4, yC_15, yC_same, cS_gr, cS_nm, cS_sl, cS_len, z00,z01,z05,z06,z07,z09,z0b,z0c,z0f,z0n,z0r,z0v,z12,z15,z1e,z1f,z1g,z1j,z1r,z1u,z20,z21,z2a,z2b,z2g,z2h,z2i,z2j,z2u,z2v,z33,z34,z3h,z42,z4l,z4o,z4p,z4q,z54,z57,z59,z66,z69,z6a,z6b,z6p,z6t,z6u,z7r,z7u,z7v,z7w,z8d,z9d,z9e,z9g,z9j,z9k,z9l,z9m,z9n,z9p,z9y,za2,za3,za5,za6,za7,za8,zaa,zab,zaq,zas,zat,zba,zbc,zbd,zbe,zbf,zbg,zbk,zbt,zbu,zbw,zbx,zby,zbz,zc2,zc3,zc4,zc5,zc6,zc8,zca,zcc,zcd,zce,zcf,zcg,zch,zcj,zcn,zco,zcq,zcr,zct,zcu,zcv,zcw,zcx,zcy,zd3,zd6,zd7,zdd,zdk,zdl,zdo,zds,zdt,zdu,zdv,zdw,zdx,zdy,zdz,ze2,ze3,zeo,zep,zf5,zf6,zf7,zf8,zf9,zfa,zfb,zfg,zfm,zfo,zfp,zfq,zfr,zfs,zft,zfu,zfv,zfw,zfy,zfz,zg0,zg1,zje,zkn,zko,zkp,zkq, s0]; all_goals tactic => exact rfl))
        · exact rd
        · (sym => (simp [yC_nm, yC_rn, yM_s, yC_gr, yC_sl, yC_fz, yC_len, yC_0, yC_1, yC_2, yC_3, yC_4, yC_15, yC_same, cS_gr, cS_nm, cS_sl, cS_len, z00,z01,z05,z06,z07,z09,z0b,z0c,z0f,z0n,z0r,z0v,z12,z15,z1e,z1f,z1g,z1j,z1r,z1u,z20,z21,z2a,z2b,z2g,z2h,z2i,z2j,z2u,z2v,z33,z34,z3h,z42,z4l,z4o,z4p,z4q,z54,z57,z59,z66,z69,z6a,z6b,z6p,z6t,z6u,z7r,z7u,z7v,z7w,z8d,z9d,z9e,z9g,z9j,z9k,z9l,z9m,z9n,z9p,z9y,za2,za3,za5,za6,za7,za8,zaa,zab,zaq,zas,zat,zba,zbc,zbd,zbe,zbf,zbg,zbk,zbt,zbu,zbw,zbx,zby,zbz,zc2,zc3,zc4,zc5,zc6,zc8,zca,zcc,zcd,zce,zcf,zcg,zch,zcj,zcn,zco,zcq,zcr,zct,zcu,zcv,zcw,zcx,zcy,zd3,zd6,zd7,zdd,zdk,zdl,zdo,zds,zdt,zdu,zdv,zdw,zdx,zdy,zdz,ze2,ze3,zeo,zep,zf5,zf6,zf7,zf8,zf9,zfa,zfb,zfg,zfm,zfo,zfp,zfq,zfr,zfs,zft,zfu,zfv,zfw,zfy,zfz,zg0,zg1,zje,zkn,zko,zkp,zkq, z]; all_goals tactic => exact rfl))
  · rw [if_neg h]
    rw [if_neg h] at e17
    have g := eq_false h
    rw [r20 (by simp)]; unfold x20; dsimp only
    (sym => (simp [yC_nm, yC_rn, yM_s, yC_gr, yC_sl, yC_fz, yC_len, yC_0, yC_1, yC_2, yC_3, yC_4, yC_15, yC_same, cS_gr, cS_nm, cS_sl, cS_len, z00,z01,z05,z06,z07,z09,z0b,z0c,z0f,z0n,z0r,z0v,z12,z15,z1e,z1f,z1g,z1j,z1r,z1u,z20,z21,z2a,z2b,z2g,z2h,z2i,z2j,z2u,z2v,z33,z34,z3h,z42,z4l,z4o,z4p,z4q,z54,z57,z59,z66,z69,z6a,z6b,z6p,z6t,z6u,z7r,z7u,z7v,z7w,z8d,z9d,z9e,z9g,z9j,z9k,z9l,z9m,z9n,z9p,z9y,za2,za3,za5,za6,za7,za8,zaa,zab,zaq,zas,zat,zba,zbc,zbd,zbe,zbf,zbg,zbk,zbt,zbu,zbw,zbx,zby,zbz,zc2,zc3,zc4,zc5,zc6,zc8,zca,zcc,zcd,zce,zcf,zcg,zch,zcj,zcn,zco,zcq,zcr,zct,zcu,zcv,zcw,zcx,zcy,zd3,zd6,zd7,zdd,zdk,zdl,zdo,zds,zdt,zdu,zdv,zdw,zdx,zdy,zdz,ze2,ze3,zeo,zep,zf5,zf6,zf7,zf8,zf9,zfa,zfb,zfg,zfm,zfo,zfp,zfq,zfr,zfs,zft,zfu,zfv,zfw,zfy,zfz,zg0,zg1,zje,zkn,zko,zkp,zkq, e17, g]; all_goals tactic => exact rfl))
end Go.Proofs.YtpbeclkpohehgaaDoor
