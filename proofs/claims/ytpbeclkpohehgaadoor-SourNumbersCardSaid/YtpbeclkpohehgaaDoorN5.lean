/- Parts of a proof, joined: GT E0 E1 K1 K2 K3 K4 K5 K6 K7 K8 K9 K10 K11 K12 K13 K14 K15 K16 K17 K18 K19 K20 K21 K22 K23 K24 K25 K26 K27 K28 K29 K30 K31 K32 K33 K34 K35 K36 K37 K38 K39 K40 K41 K42 K43. No statement of the seed is proved here. -/
import Derived.KernelRfl
import Derived.Test.YtpbeclkpohehgaaDoorN4
set_option linter.unusedSimpArgs false
set_option linter.unusedVariables false
set_option linter.unusedSectionVars false
namespace Go.Proofs.YtpbeclkpohehgaaDoor
open Go Go.DL Go.Proofs.Tryd

def progX : Nat → Option XFn
  | 13 => some x13
  | 15 => some x15
  | 17 => some x17
  | 19 => some x19
  | 21 => some x21
  | 22 => some x22
  | 29 => some x29
  | 32 => some x32
  | 34 => some x34
  | 36 => some x36
  | 37 => some x37
  | 39 => some x39
  | 40 => some x40
  | 44 => some x44
  | 47 => some x47
  | 48 => some x48
  | 49 => some x49
  | 50 => some x50
  | 51 => some x51
  | 52 => some x52
  | 53 => some x53
  | 54 => some x54
  | 57 => some x57
  | 58 => some x58
  | 59 => some x59
  | 60 => some x60
  | 72 => some x72
  | 73 => some x73
  | 74 => some x74
  | 75 => some x75
  | 80 => some x80
  | 81 => some x81
  | 82 => some x82
  | 83 => some x83
  | 84 => some x84
  | 85 => some x85
  | 86 => some x86
  | 88 => some x88
  | 89 => some x89
  | 90 => some x90
  | 91 => some x91
  | 92 => some x92
  | 93 => some x93
  | 105 => some x105
  | 106 => some x106
  | 107 => some x107
  | 108 => some x108
  | 109 => some x109
  | 110 => some x110
  | 111 => some x111
  | 112 => some x112
  | 116 => some x116
  | 117 => some x117
  | 118 => some x118
  | 119 => some x119
  | _ => none
theorem progX_ok : XOk prog progX := by
  refine ⟨rfl,fun k d h => ?_,fun k d h => ?_,fun k d h => ?_⟩
  · unfold progX at h
    split at h <;> first | (cases h; done) | (simp only [Option.some.injEq] at h; subst h; first | exact is13 | exact is15 | exact is17 | exact is19 | exact is21 | exact is22 | exact is29 | exact is32 | exact is34 | exact is36 | exact is37 | exact is39 | exact is40 | exact is44 | exact is47 | exact is48 | exact is49 | exact is50 | exact is51 | exact is52 | exact is53 | exact is54 | exact is57 | exact is58 | exact is59 | exact is60 | exact is72 | exact is73 | exact is74 | exact is75 | exact is80 | exact is81 | exact is82 | exact is83 | exact is84 | exact is85 | exact is86 | exact is88 | exact is89 | exact is90 | exact is91 | exact is92 | exact is93 | exact is105 | exact is106 | exact is107 | exact is108 | exact is109 | exact is110 | exact is111 | exact is112 | exact is116 | exact is117 | exact is118 | exact is119)
  · unfold progX at h
    split at h <;> first | (cases h; done) | (simp only [Option.some.injEq] at h; subst h; first | exact ok13 | exact ok15 | exact ok17 | exact ok19 | exact ok21 | exact ok22 | exact ok29 | exact ok32 | exact ok34 | exact ok36 | exact ok37 | exact ok39 | exact ok40 | exact ok44 | exact ok47 | exact ok48 | exact ok49 | exact ok50 | exact ok51 | exact ok52 | exact ok53 | exact ok54 | exact ok57 | exact ok58 | exact ok59 | exact ok60 | exact ok72 | exact ok73 | exact ok74 | exact ok75 | exact ok80 | exact ok81 | exact ok82 | exact ok83 | exact ok84 | exact ok85 | exact ok86 | exact ok88 | exact ok89 | exact ok90 | exact ok91 | exact ok92 | exact ok93 | exact ok105 | exact ok106 | exact ok107 | exact ok108 | exact ok109 | exact ok110 | exact ok111 | exact ok112 | exact ok116 | exact ok117 | exact ok118 | exact ok119)
  · unfold progX at h
    split at h <;> first | (cases h; done) | (simp only [Option.some.injEq] at h; subst h; first | exact st13 | exact st15 | exact st17 | exact st19 | exact st21 | exact st22 | exact st29 | exact st32 | exact st34 | exact st36 | exact st37 | exact st39 | exact st40 | exact st44 | exact st47 | exact st48 | exact st49 | exact st50 | exact st51 | exact st52 | exact st53 | exact st54 | exact st57 | exact st58 | exact st59 | exact st60 | exact st72 | exact st73 | exact st74 | exact st75 | exact st80 | exact st81 | exact st82 | exact st83 | exact st84 | exact st85 | exact st86 | exact st88 | exact st89 | exact st90 | exact st91 | exact st92 | exact st93 | exact st105 | exact st106 | exact st107 | exact st108 | exact st109 | exact st110 | exact st111 | exact st112 | exact st116 | exact st117 | exact st118 | exact st119)
theorem r13 {vs : List AV} {h : XH} (hl : vs.length ≤ 232) : runW progX 13 vs h = retX x13.res x13.ownR h.length (execW progX 13 h.length none x13.body (argEnv (if x13.ownA then vs else nzL vs)) h) := runW_eq rfl hl h
theorem r15 {vs : List AV} {h : XH} (hl : vs.length ≤ 170) : runW progX 15 vs h = retX x15.res x15.ownR h.length (execW progX 15 h.length none x15.body (argEnv (if x15.ownA then vs else nzL vs)) h) := runW_eq rfl hl h
theorem r17 {vs : List AV} {h : XH} (hl : vs.length ≤ 95) : runW progX 17 vs h = retX x17.res x17.ownR h.length (execW progX 17 h.length none x17.body (argEnv (if x17.ownA then vs else nzL vs)) h) := runW_eq rfl hl h
theorem r22 {vs : List AV} {h : XH} (hl : vs.length ≤ 67) : runW progX 22 vs h = retX x22.res x22.ownR h.length (execW progX 22 h.length none x22.body (argEnv (if x22.ownA then vs else nzL vs)) h) := runW_eq rfl hl h
theorem r29 {vs : List AV} {h : XH} (hl : vs.length ≤ 23) : runW progX 29 vs h = retX x29.res x29.ownR h.length (execW progX 29 h.length none x29.body (argEnv (if x29.ownA then vs else nzL vs)) h) := runW_eq rfl hl h
theorem r34 {vs : List AV} {h : XH} (hl : vs.length ≤ 26) : runW progX 34 vs h = retX x34.res x34.ownR h.length (execW progX 34 h.length none x34.body (argEnv (if x34.ownA then vs else nzL vs)) h) := runW_eq rfl hl h
theorem r39 {vs : List AV} {h : XH} (hl : vs.length ≤ 176) : runW progX 39 vs h = retX x39.res x39.ownR h.length (execW progX 39 h.length none x39.body (argEnv (if x39.ownA then vs else nzL vs)) h) := runW_eq rfl hl h
theorem r40 {vs : List AV} {h : XH} (hl : vs.length ≤ 104) : runW progX 40 vs h = retX x40.res x40.ownR h.length (execW progX 40 h.length none x40.body (argEnv (if x40.ownA then vs else nzL vs)) h) := runW_eq rfl hl h
theorem r44 {vs : List AV} {h : XH} (hl : vs.length ≤ 8) : runW progX 44 vs h = retX x44.res x44.ownR h.length (execW progX 44 h.length none x44.body (argEnv (if x44.ownA then vs else nzL vs)) h) := runW_eq rfl hl h
theorem r47 {vs : List AV} {h : XH} (hl : vs.length ≤ 11) : runW progX 47 vs h = retX x47.res x47.ownR h.length (execW progX 47 h.length none x47.body (argEnv (if x47.ownA then vs else nzL vs)) h) := runW_eq rfl hl h
theorem r52 {vs : List AV} {h : XH} (hl : vs.length ≤ 46) : runW progX 52 vs h = retX x52.res x52.ownR h.length (execW progX 52 h.length none x52.body (argEnv (if x52.ownA then vs else nzL vs)) h) := runW_eq rfl hl h
theorem r53 {vs : List AV} {h : XH} (hl : vs.length ≤ 53) : runW progX 53 vs h = retX x53.res x53.ownR h.length (execW progX 53 h.length none x53.body (argEnv (if x53.ownA then vs else nzL vs)) h) := runW_eq rfl hl h
theorem r54 {vs : List AV} {h : XH} (hl : vs.length ≤ 22) : runW progX 54 vs h = retX x54.res x54.ownR h.length (execW progX 54 h.length none x54.body (argEnv (if x54.ownA then vs else nzL vs)) h) := runW_eq rfl hl h
theorem r57 {vs : List AV} {h : XH} (hl : vs.length ≤ 42) : runW progX 57 vs h = retX x57.res x57.ownR h.length (execW progX 57 h.length none x57.body (argEnv (if x57.ownA then vs else nzL vs)) h) := runW_eq rfl hl h
theorem r58 {vs : List AV} {h : XH} (hl : vs.length ≤ 15) : runW progX 58 vs h = retX x58.res x58.ownR h.length (execW progX 58 h.length none x58.body (argEnv (if x58.ownA then vs else nzL vs)) h) := runW_eq rfl hl h
theorem r59 {vs : List AV} {h : XH} (hl : vs.length ≤ 24) : runW progX 59 vs h = retX x59.res x59.ownR h.length (execW progX 59 h.length none x59.body (argEnv (if x59.ownA then vs else nzL vs)) h) := runW_eq rfl hl h
theorem r60 {vs : List AV} {h : XH} (hl : vs.length ≤ 48) : runW progX 60 vs h = retX x60.res x60.ownR h.length (execW progX 60 h.length none x60.body (argEnv (if x60.ownA then vs else nzL vs)) h) := runW_eq rfl hl h
theorem r72 {vs : List AV} {h : XH} (hl : vs.length ≤ 46) : runW progX 72 vs h = retX x72.res x72.ownR h.length (execW progX 72 h.length none x72.body (argEnv (if x72.ownA then vs else nzL vs)) h) := runW_eq rfl hl h
theorem r73 {vs : List AV} {h : XH} (hl : vs.length ≤ 26) : runW progX 73 vs h = retX x73.res x73.ownR h.length (execW progX 73 h.length none x73.body (argEnv (if x73.ownA then vs else nzL vs)) h) := runW_eq rfl hl h
theorem r74 {vs : List AV} {h : XH} (hl : vs.length ≤ 6) : runW progX 74 vs h = retX x74.res x74.ownR h.length (execW progX 74 h.length none x74.body (argEnv (if x74.ownA then vs else nzL vs)) h) := runW_eq rfl hl h
theorem r75 {vs : List AV} {h : XH} (hl : vs.length ≤ 20) : runW progX 75 vs h = retX x75.res x75.ownR h.length (execW progX 75 h.length none x75.body (argEnv (if x75.ownA then vs else nzL vs)) h) := runW_eq rfl hl h
theorem r81 {vs : List AV} {h : XH} (hl : vs.length ≤ 4) : runW progX 81 vs h = retX x81.res x81.ownR h.length (execW progX 81 h.length none x81.body (argEnv (if x81.ownA then vs else nzL vs)) h) := runW_eq rfl hl h
theorem r83 {vs : List AV} {h : XH} (hl : vs.length ≤ 10) : runW progX 83 vs h = retX x83.res x83.ownR h.length (execW progX 83 h.length none x83.body (argEnv (if x83.ownA then vs else nzL vs)) h) := runW_eq rfl hl h
theorem r86 {vs : List AV} {h : XH} (hl : vs.length ≤ 38) : runW progX 86 vs h = retX x86.res x86.ownR h.length (execW progX 86 h.length none x86.body (argEnv (if x86.ownA then vs else nzL vs)) h) := runW_eq rfl hl h
theorem r92 {vs : List AV} {h : XH} (hl : vs.length ≤ 39) : runW progX 92 vs h = retX x92.res x92.ownR h.length (execW progX 92 h.length none x92.body (argEnv (if x92.ownA then vs else nzL vs)) h) := runW_eq rfl hl h
theorem r93 {vs : List AV} {h : XH} (hl : vs.length ≤ 5) : runW progX 93 vs h = retX x93.res x93.ownR h.length (execW progX 93 h.length none x93.body (argEnv (if x93.ownA then vs else nzL vs)) h) := runW_eq rfl hl h
theorem r105 {vs : List AV} {h : XH} (hl : vs.length ≤ 36) : runW progX 105 vs h = retX x105.res x105.ownR h.length (execW progX 105 h.length none x105.body (argEnv (if x105.ownA then vs else nzL vs)) h) := runW_eq rfl hl h
theorem r106 {vs : List AV} {h : XH} (hl : vs.length ≤ 14) : runW progX 106 vs h = retX x106.res x106.ownR h.length (execW progX 106 h.length none x106.body (argEnv (if x106.ownA then vs else nzL vs)) h) := runW_eq rfl hl h
theorem r110 {vs : List AV} {h : XH} (hl : vs.length ≤ 29) : runW progX 110 vs h = retX x110.res x110.ownR h.length (execW progX 110 h.length none x110.body (argEnv (if x110.ownA then vs else nzL vs)) h) := runW_eq rfl hl h
theorem r112 {vs : List AV} {h : XH} (hl : vs.length ≤ 8) : runW progX 112 vs h = retX x112.res x112.ownR h.length (execW progX 112 h.length none x112.body (argEnv (if x112.ownA then vs else nzL vs)) h) := runW_eq rfl hl h
theorem r119 {vs : List AV} {h : XH} (hl : vs.length ≤ 35) : runW progX 119 vs h = retX x119.res x119.ownR h.length (execW progX 119 h.length none x119.body (argEnv (if x119.ownA then vs else nzL vs)) h) := runW_eq rfl hl h

end Go.Proofs.YtpbeclkpohehgaaDoor
namespace Go.Proofs.YtpbeclkpohehgaaDoor
open Go Go.DL
theorem wk_0 : runW progX 49 [] [] = some (.fs [[.fs [[I (0)],[I (2)]]],[.fs [[I (1)]]]],[]) := runW_iff.2 ⟨400,by kernel_rfl⟩
theorem wk_1 : runW progX 48 [.fs [[.fs [[I (0)],[I (2)]]],[.fs [[I (1)]]]]] [] = some (.agg [.fs [[.fs [[I (0),I (10)],[I (600),I (20)],[I (900),I (50)],[I (1000),I (90)]]],[.fs [[I (900),I (10)],[I (1800),I (30)]]]],.fs [[I (0),I (300),I (300),I (100),I (200)],[I (1),I (700),I (800),I (200),I (200)],[I (0),I (500),I (600),I (100),I (100)]],.fs [[.fs [[I (0)],[I (2)]]],[.fs [[I (1)]]]],I (0),I (30)],[]) := runW_iff.2 ⟨400,by kernel_rfl⟩
theorem wk_2 : runW progX 17 [.agg [.fs [[.fs [[I (0),I (10)],[I (600),I (20)],[I (900),I (50)],[I (1000),I (90)]]],[.fs [[I (900),I (10)],[I (1800),I (30)]]]],.fs [[I (0),I (300),I (300),I (100),I (200)],[I (1),I (700),I (800),I (200),I (200)],[I (0),I (500),I (600),I (100),I (100)]],.fs [[.fs [[I (0)],[I (2)]]],[.fs [[I (1)]]]],I (0),I (30)],.sl 0 0 1 3] [some (.blk true (.cells true [I (0),I (2),I (1)]))] = some (.tup [.fs [[I (100),I (230)],[I (400),I (530)],[I (200),I (330)]],.fs [[I (10),I (10)],[I (10),I (10)],[I (20),I (50)]],I (0)],[none]) := runW_iff.2 ⟨400,by kernel_rfl⟩
theorem wk_3 : runW progX 19 [.agg [.fs [[.fs [[I (0),I (10)],[I (600),I (20)],[I (900),I (50)],[I (1000),I (90)]]],[.fs [[I (900),I (10)],[I (1800),I (30)]]]],.fs [[I (0),I (300),I (300),I (100),I (200)],[I (1),I (700),I (800),I (200),I (200)],[I (0),I (500),I (600),I (100),I (100)]],.fs [[.fs [[I (0)],[I (2)]]],[.fs [[I (1)]]]],I (0),I (30)],.sl 0 0 1 3] [some (.blk true (.cells true [I (0),I (1),I (2)]))] = some (.tup [I (90),I (0)],[none]) := runW_iff.2 ⟨400,by kernel_rfl⟩
theorem wk_4 : runW progX 19 [.agg [.fs [[.fs [[I (0),I (10)],[I (600),I (20)],[I (900),I (50)],[I (1000),I (90)]]],[.fs [[I (900),I (10)],[I (1800),I (30)]]]],.fs [[I (0),I (300),I (300),I (100),I (200)],[I (1),I (700),I (800),I (200),I (200)],[I (0),I (500),I (600),I (100),I (100)]],.fs [[.fs [[I (0)],[I (2)]]],[.fs [[I (1)]]]],I (0),I (30)],.sl 0 0 1 3] [some (.blk true (.cells true [I (2),I (0),I (1)]))] = some (.tup [I (0),I (21)],[none]) := runW_iff.2 ⟨400,by kernel_rfl⟩
theorem wk_5 : runW progX 44 [I (100),I (230)] [] = some (.agg [I (100),I (230)],[]) := runW_iff.2 ⟨400,by kernel_rfl⟩
theorem wk_6 : runW progX 44 [I (400),I (530)] [] = some (.agg [I (400),I (530)],[]) := runW_iff.2 ⟨400,by kernel_rfl⟩
theorem wk_7 : runW progX 44 [I (200),I (330)] [] = some (.agg [I (200),I (330)],[]) := runW_iff.2 ⟨400,by kernel_rfl⟩
theorem wk_8 : runW progX 21 [.fs [[I (100),I (230)],[I (400),I (530)],[I (200),I (330)]],.sl 0 0 2 3] [some (.blk true (.cells true [I (100),I (230),I (400),I (530),I (200),I (330)]))] = some (.bool true,[some (.blk true (.cells true [I (100),I (230),I (400),I (530),I (200),I (330)]))]) := runW_iff.2 ⟨400,by kernel_rfl⟩
theorem wk_9 : runW progX 50 [I (10)] [] = some (.agg [I (10),I (10)],[]) := runW_iff.2 ⟨400,by kernel_rfl⟩
theorem wk_10 : runW progX 44 [I (20),I (50)] [] = some (.agg [I (20),I (50)],[]) := runW_iff.2 ⟨400,by kernel_rfl⟩
theorem wk_11 : runW progX 21 [.fs [[I (10),I (10)],[I (10),I (10)],[I (20),I (50)]],.sl 0 0 2 3] [some (.blk true (.cells true [I (10),I (10),I (10),I (10),I (20),I (50)]))] = some (.bool true,[some (.blk true (.cells true [I (10),I (10),I (10),I (10),I (20),I (50)]))]) := runW_iff.2 ⟨400,by kernel_rfl⟩
theorem wk_12 : runW progX 29 [.agg [.fs [[.fs [[I (0),I (10)],[I (600),I (20)],[I (900),I (50)],[I (1000),I (90)]]],[.fs [[I (900),I (10)],[I (1800),I (30)]]]],.fs [[I (0),I (300),I (300),I (100),I (200)],[I (1),I (700),I (800),I (200),I (200)],[I (0),I (500),I (600),I (100),I (100)]],.fs [[.fs [[I (0)],[I (2)]]],[.fs [[I (1)]]]],I (0),I (30)]] [] = some (.tup [.fs [[I (0)],[I (2)],[I (1)]],I (50),I (0)],[]) := runW_iff.2 ⟨400,by kernel_rfl⟩
theorem wk_13 : runW progX 51 [] [] = some (.fs [[.fs [[I (0)]]],[.fs [[I (1)]]],[.fs [[I (2)]]]],[]) := runW_iff.2 ⟨400,by kernel_rfl⟩
theorem wk_14 : runW progX 48 [.fs [[.fs [[I (0)]]],[.fs [[I (1)]]],[.fs [[I (2)]]]]] [] = some (.agg [.fs [[.fs [[I (0),I (10)],[I (600),I (20)],[I (900),I (50)],[I (1000),I (90)]]],[.fs [[I (900),I (10)],[I (1800),I (30)]]]],.fs [[I (0),I (300),I (300),I (100),I (200)],[I (1),I (700),I (800),I (200),I (200)],[I (0),I (500),I (600),I (100),I (100)]],.fs [[.fs [[I (0)]]],[.fs [[I (1)]]],[.fs [[I (2)]]]],I (0),I (30)],[]) := runW_iff.2 ⟨400,by kernel_rfl⟩
theorem wk_15 : runW progX 29 [.agg [.fs [[.fs [[I (0),I (10)],[I (600),I (20)],[I (900),I (50)],[I (1000),I (90)]]],[.fs [[I (900),I (10)],[I (1800),I (30)]]]],.fs [[I (0),I (300),I (300),I (100),I (200)],[I (1),I (700),I (800),I (200),I (200)],[I (0),I (500),I (600),I (100),I (100)]],.fs [[.fs [[I (0)]]],[.fs [[I (1)]]],[.fs [[I (2)]]]],I (0),I (30)]] [] = some (.tup [.fs [[I (2)],[I (0)],[I (1)]],I (20),I (0)],[]) := runW_iff.2 ⟨400,by kernel_rfl⟩
theorem wk_16 : runW progX 32 [.agg [.fs [[.fs [[I (0),I (10)],[I (600),I (20)],[I (900),I (50)],[I (1000),I (90)]]],[.fs [[I (900),I (10)],[I (1800),I (30)]]]],.fs [[I (0),I (300),I (300),I (100),I (200)],[I (1),I (700),I (800),I (200),I (200)],[I (0),I (500),I (600),I (100),I (100)]],.fs [[.fs [[I (0)],[I (2)]]],[.fs [[I (1)]]]],I (0),I (30)]] [] = some (.tup [.fs [[I (0)],[I (2)]],I (0)],[]) := runW_iff.2 ⟨400,by kernel_rfl⟩
theorem wk_17 : runW progX 37 [.agg [.fs [[.fs [[I (0),I (10)],[I (600),I (20)],[I (900),I (50)],[I (1000),I (90)]]],[.fs [[I (900),I (10)],[I (1800),I (30)]]]],.fs [[I (0),I (300),I (300),I (100),I (200)],[I (1),I (700),I (800),I (200),I (200)],[I (0),I (500),I (600),I (100),I (100)]],.fs [[.fs [[I (0)],[I (2)]]],[.fs [[I (1)]]]],I (0),I (30)],.sl 0 0 1 3,I (50)] [some (.blk true (.cells true [I (0),I (2),I (1)]))] = some (.tup [I (69),I (0)],[none]) := runW_iff.2 ⟨400,by kernel_rfl⟩
theorem wk_18 : runW progX 37 [.agg [.fs [[.fs [[I (0),I (10)],[I (600),I (20)],[I (900),I (50)],[I (1000),I (90)]]],[.fs [[I (900),I (10)],[I (1800),I (30)]]]],.fs [[I (0),I (300),I (300),I (100),I (200)],[I (1),I (700),I (800),I (200),I (200)],[I (0),I (500),I (600),I (100),I (100)]],.fs [[.fs [[I (0)],[I (2)]]],[.fs [[I (1)]]]],I (0),I (30)],.sl 0 0 1 3,I (90)] [some (.blk true (.cells true [I (0),I (2),I (1)]))] = some (.tup [I (1125899906842624),I (0)],[none]) := runW_iff.2 ⟨400,by kernel_rfl⟩
theorem wk_19 : runW progX 34 [.fs [[I (0)],[I (2)],[I (1)]],.sl 0 0 1 3] [some (.blk true (.cells true [I (0),I (2),I (1)]))] = some (.bool true,[some (.blk true (.cells true [I (0),I (2),I (1)]))]) := runW_iff.2 ⟨400,by kernel_rfl⟩
theorem wk_20 : runW progX 34 [.fs [[I (2)],[I (0)],[I (1)]],.sl 0 0 1 3] [some (.blk true (.cells true [I (2),I (0),I (1)]))] = some (.bool true,[some (.blk true (.cells true [I (2),I (0),I (1)]))]) := runW_iff.2 ⟨400,by kernel_rfl⟩
theorem wk_21 : runW progX 36 [.agg [.fs [[.fs [[I (0),I (10)],[I (600),I (20)],[I (900),I (50)],[I (1000),I (90)]]],[.fs [[I (900),I (10)],[I (1800),I (30)]]]],.fs [[I (0),I (300),I (300),I (100),I (200)],[I (1),I (700),I (800),I (200),I (200)],[I (0),I (500),I (600),I (100),I (100)]],.fs [[.fs [[I (0)],[I (2)]]],[.fs [[I (1)]]]],I (0),I (30)],I (50),.fs [[I (0)],[I (2)]]] [] = some (I (0),[]) := runW_iff.2 ⟨400,by kernel_rfl⟩
theorem wk_22 : runW progX 36 [.agg [.fs [[.fs [[I (0),I (10)],[I (600),I (20)],[I (900),I (50)],[I (1000),I (90)]]],[.fs [[I (900),I (10)],[I (1800),I (30)]]]],.fs [[I (0),I (300),I (300),I (100),I (200)],[I (1),I (700),I (800),I (200),I (200)],[I (0),I (500),I (600),I (100),I (100)]],.fs [[.fs [[I (0)],[I (2)]]],[.fs [[I (1)]]]],I (0),I (30)],I (50),.sl 0 0 1 2] [some (.blk true (.cells true [I (0),I (2)]))] = some (I (0),[some (.blk true (.cells true [I (0),I (2)]))]) := runW_iff.2 ⟨400,by kernel_rfl⟩
theorem wk_23 : runW progX 36 [.agg [.fs [[.fs [[I (0),I (10)],[I (600),I (20)],[I (900),I (50)],[I (1000),I (90)]]],[.fs [[I (900),I (10)],[I (1800),I (30)]]]],.fs [[I (0),I (300),I (300),I (100),I (200)],[I (1),I (700),I (800),I (200),I (200)],[I (0),I (500),I (600),I (100),I (100)]],.fs [[.fs [[I (0)],[I (2)]]],[.fs [[I (1)]]]],I (0),I (30)],I (51),.sl 0 0 1 2] [some (.blk true (.cells true [I (0),I (2)]))] = some (I (11),[some (.blk true (.cells true [I (0),I (2)]))]) := runW_iff.2 ⟨400,by kernel_rfl⟩
end Go.Proofs.YtpbeclkpohehgaaDoor
namespace Go.Proofs.YtpbeclkpohehgaaDoor
open Go Go.DL
set_option maxHeartbeats 4000000
set_option maxRecDepth 100000
theorem works_w : runW progX 15 [] [] = some (.bool true,[]) := by
  rw [r15 (by simp)]; unfold x15; dsimp only
  (sym => (simp [Za,Zb,Zd,Ze,Zf,Zg,Zh,Zj,Zl,Zm,Zn,Zo,Zp,Zq,Zu,Zx,Z0,Z2,Z4,ZD,ZO,ZP,ZT,ZU,ZV,ZW,ZX,Yi,Yq,Yr,YQ,YR,YT,YV,YX,Xe,Xf,Xo,Xp,Xq,Xr,Xs,Xt,XI,XL,Wd,Wg,Wm,Wn,Wy,W3,W4,W6,W7,W9,WA,WC,WE,WH,WI,WJ,WK,WL,WM,WN,WO,WP,WR,WS,WT,WU,WV,WW,Vb,Ve,Vf,Vg,Vh,Vr,Vt,Vu,Vv,V5,V6,V8,V9,VA,VB,VC,VF,VG,VH,VI,VO,VQ,VT,VU,VV,VW,VX,VY,Ua,Ub,Uc,Ui,Ul,Us,Uw,Ux,Uz,U0,U1,U2,U3,U4,U5,U6,U7,UC,UE,UF,UG,UH,UQ,UR,US,UT,Tq,Tv,Tw,Tx,Ty,T4,TB,TC,TL,TM,Sw,SD,SE,SG,wk_0,wk_1,wk_2,wk_3,wk_4,wk_5,wk_6,wk_7,wk_8,wk_9,wk_10,wk_11,wk_12,wk_13,wk_14,wk_15,wk_16,wk_17,wk_18,wk_19,wk_20,wk_21,wk_22,wk_23]; all_goals tactic => exact rfl))
end Go.Proofs.YtpbeclkpohehgaaDoor
namespace Go.Proofs.YtpbeclkpohehgaaDoor
open Go Go.DL
set_option maxRecDepth 100000
set_option maxHeartbeats 1000000
theorem ptf (p : Prop) : p = True ∨ p = False := by
  by_cases h : p
  · exact .inl (eq_true h)
  · exact .inr (eq_false h)
theorem at_ix {α : Type} {l : List α} {i : Nat} (h : i < l.length) : ∃ x,l[i]? = some x := ⟨_,List.getElem?_eq_getElem h⟩
theorem lt_ix {α : Type} {l : List α} {i : Nat} (h : i < l.length) : ((i : Int) < (l.length : Int)) = True := eq_true (by omega)
theorem up_ix {n i : Nat} (h : i < n) (hn : n ≤ 9223372036854775807) : IntKind.i64.wrap ((i : Int) + 1) = (i : Int) + 1 := wrap_ok (by omega) (by omega)
theorem drop_ix {α : Type} {l : List α} {i : Nat} {x : α} (h : l[i]? = some x) : l.drop i = x :: l.drop (i + 1) := by
  obtain ⟨h1,h2⟩ := List.getElem?_eq_some_iff.1 h
  rw [← h2]
  exact List.drop_eq_getElem_cons h1
theorem lt_of {α : Type} {l : List α} {i : Nat} {x : α} (h : l[i]? = some x) : i < l.length := (List.getElem?_eq_some_iff.1 h).1

def btw (a b c : Int) : Bool := decide (a ≤ b) && decide (b ≤ c)
theorem w58 (a b c : Int) : runW progX 58 [I a,I b,I c] [] = some (.bool (btw a b c),[]) := by
  rw [r58 (by simp)]; unfold x58; dsimp only
  rcases ptf (a ≤ b) with h | h
  · (sym => (simp [Za,Zb,Zf,Zh,Zl,Zm,Zo,Zp,Zr,Zu,Zx,Z2,ZV,ZW,Yt,YR,Xp,XI,Wc,Wd,W8,WH,WL,WM,WO,WP,Vr,V5,V6,V8,V9,VA,VB,VC,VF,VG,VH,VI,VK,VT,VV,VY,Ua,Uc,Uh,Uj,Ux,Uy,U1,U2,U3,UC,UD,Tv,Tw,Tx,T4,TB,TC,Sw,h,btw.eq_1]; all_goals tactic => exact rfl))
  · (sym => (simp [Za,Zb,Zf,Zh,Zl,Zm,Zo,Zp,Zr,Zu,Zx,Z2,ZV,ZW,Yt,YR,Xp,XI,Wc,Wd,W8,WH,WL,WM,WO,WP,Vr,V5,V6,V8,V9,VA,VB,VC,VF,VG,VH,VI,VK,VT,VV,VY,Ua,Uc,Uh,Uj,Ux,Uy,U1,U2,U3,UC,UD,Tv,Tw,Tx,T4,TB,TC,Sw,h,btw.eq_1]; all_goals tactic => exact rfl))
def inS (lo hi a b : Int) : Bool := decide (a ≤ lo) && (decide (lo ≤ hi) && decide (hi ≤ b))
theorem w59 (lo hi a b : Int) : runW progX 59 [.agg [I lo,I hi],I a,I b] [] = some (.bool (inS lo hi a b),[]) := by
  rw [r59 (by simp)]; unfold x59; dsimp only
  rcases ptf (a ≤ lo) with h | h
  · rcases ptf (lo ≤ hi) with h2 | h2
    · (sym => (simp [Za,Zb,Zf,Zh,Zl,Zm,Zn,Zo,Zp,Zr,Zu,Zx,Zy,Z2,Z6,ZG,ZV,ZW,ZZ,Yt,YR,Xe,Xf,Xp,XI,Wc,Wd,We,Wn,Wy,Wz,W0,W8,W9,WH,WL,WN,WO,WP,Vr,V5,V6,V8,V9,VA,VB,VC,VF,VG,VH,VI,VK,VT,VV,VX,VY,Ua,Uc,Uh,Ui,Uj,Uk,Ux,Uy,U2,U3,U6,U7,UC,UD,UO,UP,Tf,Tg,Tk,Tq,Tv,Tw,Tx,T4,TB,TC,Sw,h,h2,inS.eq_1]; all_goals tactic => exact rfl))
    · (sym => (simp [Za,Zb,Zf,Zh,Zl,Zm,Zn,Zo,Zp,Zr,Zu,Zx,Zy,Z2,Z6,ZG,ZV,ZW,ZZ,Yt,YR,Xe,Xf,Xp,XI,Wc,Wd,We,Wn,Wy,Wz,W0,W8,W9,WH,WL,WN,WO,WP,Vr,V5,V6,V8,V9,VA,VB,VC,VF,VG,VH,VI,VK,VT,VV,VX,VY,Ua,Uc,Uh,Ui,Uj,Uk,Ux,Uy,U2,U3,U6,U7,UC,UD,UO,UP,Tf,Tg,Tk,Tq,Tv,Tw,Tx,T4,TB,TC,Sw,h,h2,inS.eq_1]; all_goals tactic => exact rfl))
  · (sym => (simp [Za,Zb,Zf,Zh,Zl,Zm,Zn,Zo,Zp,Zr,Zu,Zx,Zy,Z2,Z6,ZG,ZV,ZW,ZZ,Yt,YR,Xe,Xf,Xp,XI,Wc,Wd,We,Wn,Wy,Wz,W0,W8,W9,WH,WL,WN,WO,WP,Vr,V5,V6,V8,V9,VA,VB,VC,VF,VG,VH,VI,VK,VT,VV,VX,VY,Ua,Uc,Uh,Ui,Uj,Uk,Ux,Uy,U2,U3,U6,U7,UC,UD,UO,UP,Tf,Tg,Tk,Tq,Tv,Tw,Tx,T4,TB,TC,Sw,h,inS.eq_1]; all_goals tactic => exact rfl))
structure St where
  a : Int
  s : Int
abbrev St.row (x : St) : List AV := [I x.a,I x.s]
abbrev rS (k : List St) : AV := .fs (k.map St.row)
def firstN (f : Nat → Int) : Nat → Int
  | 0 => 0
  | n + 1 => if firstN f n = 0 then f n else firstN f n
theorem firstN_ix (f : Nat → Int) : ∀ n,∃ m,m ≤ n ∧ (∀ i,i < m → f i = 0) ∧ ((m = n ∧ firstN f n = 0) ∨ (m < n ∧ f m ≠ 0 ∧ firstN f n = f m))
  | 0 => ⟨0,Nat.le_refl _,fun i hi => by omega,.inl ⟨rfl,rfl⟩⟩
  | n + 1 => by
    obtain ⟨m,h1,h2,h3⟩ := firstN_ix f n
    rcases h3 with ⟨rfl,h4⟩ | ⟨h4,h5,h6⟩
    · by_cases hf : f m = 0
      · refine ⟨m + 1,Nat.le_refl _,fun i hi => ?_,.inl ⟨rfl,by rw [firstN,if_pos h4,hf]⟩⟩
        by_cases hi2 : i = m
        · rw [hi2]; exact hf
        · exact h2 i (by omega)
      · exact ⟨m,by omega,h2,.inr ⟨by omega,hf,by rw [firstN,if_pos h4]⟩⟩
    · exact ⟨m,by omega,h2,.inr ⟨by omega,h5,by rw [firstN,if_neg (by rw [h6]; exact h5),h6]⟩⟩
theorem firstN_0 {f : Nat → Int} : ∀ {n},firstN f n = 0 → ∀ i,i < n → f i = 0
  | 0,_,i,hi => by omega
  | n + 1,h,i,hi => by
    rw [firstN] at h
    by_cases h0 : firstN f n = 0
    · rw [if_pos h0] at h
      by_cases hin : i = n
      · rw [hin]; exact h
      · exact firstN_0 h0 i (by omega)
    · rw [if_neg h0] at h
      exact absurd h h0

def prA (k : List St) : Nat → Int
  | 0 => -1
  | i + 1 => (k.getD i ⟨0,0⟩).a
def prS (k : List St) : Nat → Int
  | 0 => 0
  | i + 1 => (k.getD i ⟨0,0⟩).s
def kErr (k : List St) (i : Nat) : Int := if btw 0 (k.getD i ⟨0,0⟩).a 100000 && btw 1 (k.getD i ⟨0,0⟩).s 1000000 then (if (k.getD i ⟨0,0⟩).a ≤ prA k i ∨ (k.getD i ⟨0,0⟩).s ≤ prS k i then 7 else 0) else 2
theorem btwF {a b c : Int} : btw a b c = true ↔ a ≤ b ∧ b ≤ c := by simp [btw]
theorem kErr_of {k : List St} {i : Nat} {x : St} (hx : k[i]? = some x) : (btw 0 x.a 100000 = true ∧ btw 1 x.s 1000000 = true ∧ (x.a ≤ prA k i) = False ∧ (x.s ≤ prS k i) = False ∧ kErr k i = 0) ∨
    (btw 0 x.a 100000 = true ∧ btw 1 x.s 1000000 = true ∧ (x.a ≤ prA k i) = False ∧ (x.s ≤ prS k i) = True ∧ kErr k i = 7) ∨ (btw 0 x.a 100000 = true ∧ btw 1 x.s 1000000 = true ∧ (x.a ≤ prA k i) = True ∧ kErr k i = 7) ∨
    (btw 0 x.a 100000 = true ∧ btw 1 x.s 1000000 = false ∧ kErr k i = 2) ∨ (btw 0 x.a 100000 = false ∧ kErr k i = 2) := by
  have e : k.getD i ⟨0,0⟩ = x := by rw [List.getD_eq_getElem?_getD,hx]; rfl
  unfold kErr
  rw [e]
  cases btw 0 x.a 100000
  · simp
  cases btw 1 x.s 1000000
  · simp
  by_cases h3 : x.a ≤ prA k i
  · simp [h3]
  by_cases h4 : x.s ≤ prS k i
  · simp [h3,h4]
  simp [h3,h4]
theorem pr_up {k : List St} {i : Nat} {x : St} (hx : k[i]? = some x) : prA k (i + 1) = x.a ∧ prS k (i + 1) = x.s := by
  have e : k.getD i ⟨0,0⟩ = x := by rw [List.getD_eq_getElem?_getD,hx]; rfl
  exact ⟨congrArg St.a e,congrArg St.s e⟩
def chkD (k : List St) : Int := if 8 < k.length then 1 else firstN (kErr k) k.length
theorem w57 (k : List St) : runW progX 57 [rS k] [] = some (I (chkD k),[]) := by
  rw [r57 (by simp)]; unfold x57; dsimp only
  unfold chkD
  by_cases h8 : 8 < k.length
  · rw [if_pos h8]
    have h8 : ((8 : Int) < (k.length : Int)) = True := eq_true (by omega)
    (sym => (simp [Za,Zb,Zc,Zd,Ze,Zf,Zg,Zh,Zj,Zl,Zm,Zo,Zq,Zs,Zu,Zv,Zx,Zz,Z2,Z4,Z6,Z8,ZE,ZG,ZK,ZL,ZO,ZP,ZT,ZU,ZV,ZW,ZX,ZZ,Yb,Yg,Yh,Yj,Ys,Yt,Yu,Yv,Yw,Y1,YN,YQ,YV,YY,Xe,Xo,Xp,Xs,Xu,X0,Wc,Wg,Wm,Wn,Wy,Wz,W0,W3,W4,W5,W6,W7,W8,W9,WA,WE,WF,WH,WI,WJ,WK,WL,WM,WN,WO,WP,WQ,WR,WS,WV,WW,Vb,Ve,Vf,Vg,Vr,Vt,Vu,Vw,Vx,Vz,V5,V6,V8,V9,VA,VB,VC,VF,VG,VH,VI,VK,VL,VM,VN,VO,VP,VQ,VR,VS,VT,VU,VV,VW,VX,VY,Ua,Ub,Uc,Ud,Ue,Uf,Ui,Ul,Um,Us,Uw,Ux,Uy,U1,U2,U3,U4,U5,U6,U7,UC,UD,UE,UF,UG,UH,Te,Tf,Tg,Th,Ti,Tj,Tk,Tl,Tm,Tv,Tw,Tx,Ty,Tz,T3,T4,T5,T6,T7,T8,T9,TA,TB,TC,TH,Sw,SD,SE,SF,h8]; all_goals tactic => exact rfl))
  · rw [if_neg h8]
    have g8 : ((8 : Int) < (k.length : Int)) = False := eq_false (by omega)
    have z := Te (n := (k.length : Int))
    obtain ⟨m,m1,m2,m3⟩ := firstN_ix (kErr k) k.length
    have p0 : prA k 0 = -1 := rfl
    have q0 : prS k 0 = 0 := rfl
    sym =>
      simp [Za,Zb,Zc,Zd,Ze,Zf,Zg,Zh,Zj,Zl,Zm,Zo,Zq,Zs,Zu,Zv,Zx,Zz,Z2,Z4,Z6,Z8,ZE,ZG,ZK,ZL,ZO,ZP,ZT,ZU,ZV,ZW,ZX,ZZ,Yb,Yg,Yh,Yj,Ys,Yt,Yu,Yv,Yw,Y1,YN,YQ,YV,YY,Xe,Xo,Xp,Xs,Xu,X0,Wc,Wg,Wm,Wn,Wy,Wz,W0,W3,W4,W5,W6,W7,W8,W9,WA,WE,WF,WH,WI,WJ,WK,WL,WM,WN,WO,WP,WQ,WR,WS,WV,WW,Vb,Ve,Vf,Vg,Vr,Vt,Vu,Vw,Vx,Vz,V5,V6,V8,V9,VA,VB,VC,VF,VG,VH,VI,VK,VL,VM,VN,VO,VP,VQ,VR,VS,VT,VU,VV,VW,VX,VY,Ua,Ub,Uc,Ud,Ue,Uf,Ui,Ul,Um,Us,Uw,Ux,Uy,U1,U2,U3,U4,U5,U6,U7,UC,UD,UE,UF,UG,UH,Te,Tf,Tg,Th,Ti,Tj,Tk,Tl,Tm,Tv,Tw,Tx,Ty,Tz,T3,T4,T5,T6,T7,T8,T9,TA,TB,TC,TH,Sw,SD,SE,SF,g8]
      tactic =>
        unfold x57l0
        rw [loop_rule m (fun i => [.pt 0 0,rS k,I k.length,I (i : Nat)]) (fun i => [some (.blk true (.cells true [I (prA k i),I (prS k i)]))])]
        · rcases m3 with ⟨rfl,e⟩ | ⟨m3,m4,e⟩
          · rw [e]; (sym => (simp [Za,Zb,Zc,Zd,Ze,Zf,Zg,Zh,Zj,Zl,Zm,Zo,Zq,Zs,Zu,Zv,Zx,Zz,Z2,Z4,Z6,Z8,ZE,ZG,ZK,ZL,ZO,ZP,ZT,ZU,ZV,ZW,ZX,ZZ,Yb,Yg,Yh,Yj,Ys,Yt,Yu,Yv,Yw,Y1,YN,YQ,YV,YY,Xe,Xo,Xp,Xs,Xu,X0,Wc,Wg,Wm,Wn,Wy,Wz,W0,W3,W4,W5,W6,W7,W8,W9,WA,WE,WF,WH,WI,WJ,WK,WL,WM,WN,WO,WP,WQ,WR,WS,WV,WW,Vb,Ve,Vf,Vg,Vr,Vt,Vu,Vw,Vx,Vz,V5,V6,V8,V9,VA,VB,VC,VF,VG,VH,VI,VK,VL,VM,VN,VO,VP,VQ,VR,VS,VT,VU,VV,VW,VX,VY,Ua,Ub,Uc,Ud,Ue,Uf,Ui,Ul,Um,Us,Uw,Ux,Uy,U1,U2,U3,U4,U5,U6,U7,UC,UD,UE,UF,UG,UH,Te,Tf,Tg,Th,Ti,Tj,Tk,Tl,Tm,Tv,Tw,Tx,Ty,Tz,T3,T4,T5,T6,T7,T8,T9,TA,TB,TC,TH,Sw,SD,SE,SF,z]; all_goals tactic => exact rfl))
          · rw [e]
            obtain ⟨x,hx⟩ := at_ix m3
            have a1 := lt_ix m3
            rcases kErr_of hx with ⟨_,_,_,_,h5⟩ | ⟨h1,h2,h3,h4,h5⟩ | ⟨h1,h2,h3,h5⟩ | ⟨h1,h2,h5⟩ | ⟨h1,h5⟩
            · exact absurd h5 m4
            all_goals rw [h5]
            · (sym => (simp [Za,Zb,Zc,Zd,Ze,Zf,Zg,Zh,Zj,Zl,Zm,Zo,Zq,Zs,Zu,Zv,Zx,Zz,Z2,Z4,Z6,Z8,ZE,ZG,ZK,ZL,ZO,ZP,ZT,ZU,ZV,ZW,ZX,ZZ,Yb,Yg,Yh,Yj,Ys,Yt,Yu,Yv,Yw,Y1,YN,YQ,YV,YY,Xe,Xo,Xp,Xs,Xu,X0,Wc,Wg,Wm,Wn,Wy,Wz,W0,W3,W4,W5,W6,W7,W8,W9,WA,WE,WF,WH,WI,WJ,WK,WL,WM,WN,WO,WP,WQ,WR,WS,WV,WW,Vb,Ve,Vf,Vg,Vr,Vt,Vu,Vw,Vx,Vz,V5,V6,V8,V9,VA,VB,VC,VF,VG,VH,VI,VK,VL,VM,VN,VO,VP,VQ,VR,VS,VT,VU,VV,VW,VX,VY,Ua,Ub,Uc,Ud,Ue,Uf,Ui,Ul,Um,Us,Uw,Ux,Uy,U1,U2,U3,U4,U5,U6,U7,UC,UD,UE,UF,UG,UH,Te,Tf,Tg,Th,Ti,Tj,Tk,Tl,Tm,Tv,Tw,Tx,Ty,Tz,T3,T4,T5,T6,T7,T8,T9,TA,TB,TC,TH,Sw,SD,SE,SF,a1,hx,w58,h1,h2,h3,h4]; all_goals tactic => exact rfl))
            · (sym => (simp [Za,Zb,Zc,Zd,Ze,Zf,Zg,Zh,Zj,Zl,Zm,Zo,Zq,Zs,Zu,Zv,Zx,Zz,Z2,Z4,Z6,Z8,ZE,ZG,ZK,ZL,ZO,ZP,ZT,ZU,ZV,ZW,ZX,ZZ,Yb,Yg,Yh,Yj,Ys,Yt,Yu,Yv,Yw,Y1,YN,YQ,YV,YY,Xe,Xo,Xp,Xs,Xu,X0,Wc,Wg,Wm,Wn,Wy,Wz,W0,W3,W4,W5,W6,W7,W8,W9,WA,WE,WF,WH,WI,WJ,WK,WL,WM,WN,WO,WP,WQ,WR,WS,WV,WW,Vb,Ve,Vf,Vg,Vr,Vt,Vu,Vw,Vx,Vz,V5,V6,V8,V9,VA,VB,VC,VF,VG,VH,VI,VK,VL,VM,VN,VO,VP,VQ,VR,VS,VT,VU,VV,VW,VX,VY,Ua,Ub,Uc,Ud,Ue,Uf,Ui,Ul,Um,Us,Uw,Ux,Uy,U1,U2,U3,U4,U5,U6,U7,UC,UD,UE,UF,UG,UH,Te,Tf,Tg,Th,Ti,Tj,Tk,Tl,Tm,Tv,Tw,Tx,Ty,Tz,T3,T4,T5,T6,T7,T8,T9,TA,TB,TC,TH,Sw,SD,SE,SF,a1,hx,w58,h1,h2,h3]; all_goals tactic => exact rfl))
            · (sym => (simp [Za,Zb,Zc,Zd,Ze,Zf,Zg,Zh,Zj,Zl,Zm,Zo,Zq,Zs,Zu,Zv,Zx,Zz,Z2,Z4,Z6,Z8,ZE,ZG,ZK,ZL,ZO,ZP,ZT,ZU,ZV,ZW,ZX,ZZ,Yb,Yg,Yh,Yj,Ys,Yt,Yu,Yv,Yw,Y1,YN,YQ,YV,YY,Xe,Xo,Xp,Xs,Xu,X0,Wc,Wg,Wm,Wn,Wy,Wz,W0,W3,W4,W5,W6,W7,W8,W9,WA,WE,WF,WH,WI,WJ,WK,WL,WM,WN,WO,WP,WQ,WR,WS,WV,WW,Vb,Ve,Vf,Vg,Vr,Vt,Vu,Vw,Vx,Vz,V5,V6,V8,V9,VA,VB,VC,VF,VG,VH,VI,VK,VL,VM,VN,VO,VP,VQ,VR,VS,VT,VU,VV,VW,VX,VY,Ua,Ub,Uc,Ud,Ue,Uf,Ui,Ul,Um,Us,Uw,Ux,Uy,U1,U2,U3,U4,U5,U6,U7,UC,UD,UE,UF,UG,UH,Te,Tf,Tg,Th,Ti,Tj,Tk,Tl,Tm,Tv,Tw,Tx,Ty,Tz,T3,T4,T5,T6,T7,T8,T9,TA,TB,TC,TH,Sw,SD,SE,SF,a1,hx,w58,h1,h2]; all_goals tactic => exact rfl))
            · (sym => (simp [Za,Zb,Zc,Zd,Ze,Zf,Zg,Zh,Zj,Zl,Zm,Zo,Zq,Zs,Zu,Zv,Zx,Zz,Z2,Z4,Z6,Z8,ZE,ZG,ZK,ZL,ZO,ZP,ZT,ZU,ZV,ZW,ZX,ZZ,Yb,Yg,Yh,Yj,Ys,Yt,Yu,Yv,Yw,Y1,YN,YQ,YV,YY,Xe,Xo,Xp,Xs,Xu,X0,Wc,Wg,Wm,Wn,Wy,Wz,W0,W3,W4,W5,W6,W7,W8,W9,WA,WE,WF,WH,WI,WJ,WK,WL,WM,WN,WO,WP,WQ,WR,WS,WV,WW,Vb,Ve,Vf,Vg,Vr,Vt,Vu,Vw,Vx,Vz,V5,V6,V8,V9,VA,VB,VC,VF,VG,VH,VI,VK,VL,VM,VN,VO,VP,VQ,VR,VS,VT,VU,VV,VW,VX,VY,Ua,Ub,Uc,Ud,Ue,Uf,Ui,Ul,Um,Us,Uw,Ux,Uy,U1,U2,U3,U4,U5,U6,U7,UC,UD,UE,UF,UG,UH,Te,Tf,Tg,Th,Ti,Tj,Tk,Tl,Tm,Tv,Tw,Tx,Ty,Tz,T3,T4,T5,T6,T7,T8,T9,TA,TB,TC,TH,Sw,SD,SE,SF,a1,hx,w58,h1]; all_goals tactic => exact rfl))
        · (sym => (simp [Za,Zb,Zc,Zd,Ze,Zf,Zg,Zh,Zj,Zl,Zm,Zo,Zq,Zs,Zu,Zv,Zx,Zz,Z2,Z4,Z6,Z8,ZE,ZG,ZK,ZL,ZO,ZP,ZT,ZU,ZV,ZW,ZX,ZZ,Yb,Yg,Yh,Yj,Ys,Yt,Yu,Yv,Yw,Y1,YN,YQ,YV,YY,Xe,Xo,Xp,Xs,Xu,X0,Wc,Wg,Wm,Wn,Wy,Wz,W0,W3,W4,W5,W6,W7,W8,W9,WA,WE,WF,WH,WI,WJ,WK,WL,WM,WN,WO,WP,WQ,WR,WS,WV,WW,Vb,Ve,Vf,Vg,Vr,Vt,Vu,Vw,Vx,Vz,V5,V6,V8,V9,VA,VB,VC,VF,VG,VH,VI,VK,VL,VM,VN,VO,VP,VQ,VR,VS,VT,VU,VV,VW,VX,VY,Ua,Ub,Uc,Ud,Ue,Uf,Ui,Ul,Um,Us,Uw,Ux,Uy,U1,U2,U3,U4,U5,U6,U7,UC,UD,UE,UF,UG,UH,Te,Tf,Tg,Th,Ti,Tj,Tk,Tl,Tm,Tv,Tw,Tx,Ty,Tz,T3,T4,T5,T6,T7,T8,T9,TA,TB,TC,TH,Sw,SD,SE,SF,p0,q0]; all_goals tactic => exact rfl))
        · intro i hi
          have hi2 : i < k.length := by omega
          obtain ⟨x,hx⟩ := at_ix hi2
          have a1 := lt_ix hi2
          have a2 := up_ix hi2 (by omega)
          obtain ⟨u1,u2⟩ := pr_up hx
          rcases kErr_of hx with ⟨h1,h2,h3,h4,h5⟩ | ⟨h1,h2,h3,h4,h5⟩ | ⟨h1,h2,h3,h5⟩ | ⟨h1,h2,h5⟩ | ⟨h1,h5⟩
          · (sym => (simp [Za,Zb,Zc,Zd,Ze,Zf,Zg,Zh,Zj,Zl,Zm,Zo,Zq,Zs,Zu,Zv,Zx,Zz,Z2,Z4,Z6,Z8,ZE,ZG,ZK,ZL,ZO,ZP,ZT,ZU,ZV,ZW,ZX,ZZ,Yb,Yg,Yh,Yj,Ys,Yt,Yu,Yv,Yw,Y1,YN,YQ,YV,YY,Xe,Xo,Xp,Xs,Xu,X0,Wc,Wg,Wm,Wn,Wy,Wz,W0,W3,W4,W5,W6,W7,W8,W9,WA,WE,WF,WH,WI,WJ,WK,WL,WM,WN,WO,WP,WQ,WR,WS,WV,WW,Vb,Ve,Vf,Vg,Vr,Vt,Vu,Vw,Vx,Vz,V5,V6,V8,V9,VA,VB,VC,VF,VG,VH,VI,VK,VL,VM,VN,VO,VP,VQ,VR,VS,VT,VU,VV,VW,VX,VY,Ua,Ub,Uc,Ud,Ue,Uf,Ui,Ul,Um,Us,Uw,Ux,Uy,U1,U2,U3,U4,U5,U6,U7,UC,UD,UE,UF,UG,UH,Te,Tf,Tg,Th,Ti,Tj,Tk,Tl,Tm,Tv,Tw,Tx,Ty,Tz,T3,T4,T5,T6,T7,T8,T9,TA,TB,TC,TH,Sw,SD,SE,SF,a1,a2,hx,w58,h1,h2,h3,h4,u1,u2]; all_goals tactic => exact rfl))
          all_goals (rw [m2 i hi] at h5; simp at h5)
        · rcases m3 with ⟨rfl,e⟩ | ⟨m3,m4,e⟩
          · (sym => (simp [Za,Zb,Zc,Zd,Ze,Zf,Zg,Zh,Zj,Zl,Zm,Zo,Zq,Zs,Zu,Zv,Zx,Zz,Z2,Z4,Z6,Z8,ZE,ZG,ZK,ZL,ZO,ZP,ZT,ZU,ZV,ZW,ZX,ZZ,Yb,Yg,Yh,Yj,Ys,Yt,Yu,Yv,Yw,Y1,YN,YQ,YV,YY,Xe,Xo,Xp,Xs,Xu,X0,Wc,Wg,Wm,Wn,Wy,Wz,W0,W3,W4,W5,W6,W7,W8,W9,WA,WE,WF,WH,WI,WJ,WK,WL,WM,WN,WO,WP,WQ,WR,WS,WV,WW,Vb,Ve,Vf,Vg,Vr,Vt,Vu,Vw,Vx,Vz,V5,V6,V8,V9,VA,VB,VC,VF,VG,VH,VI,VK,VL,VM,VN,VO,VP,VQ,VR,VS,VT,VU,VV,VW,VX,VY,Ua,Ub,Uc,Ud,Ue,Uf,Ui,Ul,Um,Us,Uw,Ux,Uy,U1,U2,U3,U4,U5,U6,U7,UC,UD,UE,UF,UG,UH,Te,Tf,Tg,Th,Ti,Tj,Tk,Tl,Tm,Tv,Tw,Tx,Ty,Tz,T3,T4,T5,T6,T7,T8,T9,TA,TB,TC,TH,Sw,SD,SE,SF,z]; all_goals tactic => exact rfl))
          · obtain ⟨x,hx⟩ := at_ix m3
            have a1 := lt_ix m3
            rcases kErr_of hx with ⟨_,_,_,_,h5⟩ | ⟨h1,h2,h3,h4,h5⟩ | ⟨h1,h2,h3,h5⟩ | ⟨h1,h2,h5⟩ | ⟨h1,h5⟩
            · exact absurd h5 m4
            · (sym => (simp [Za,Zb,Zc,Zd,Ze,Zf,Zg,Zh,Zj,Zl,Zm,Zo,Zq,Zs,Zu,Zv,Zx,Zz,Z2,Z4,Z6,Z8,ZE,ZG,ZK,ZL,ZO,ZP,ZT,ZU,ZV,ZW,ZX,ZZ,Yb,Yg,Yh,Yj,Ys,Yt,Yu,Yv,Yw,Y1,YN,YQ,YV,YY,Xe,Xo,Xp,Xs,Xu,X0,Wc,Wg,Wm,Wn,Wy,Wz,W0,W3,W4,W5,W6,W7,W8,W9,WA,WE,WF,WH,WI,WJ,WK,WL,WM,WN,WO,WP,WQ,WR,WS,WV,WW,Vb,Ve,Vf,Vg,Vr,Vt,Vu,Vw,Vx,Vz,V5,V6,V8,V9,VA,VB,VC,VF,VG,VH,VI,VK,VL,VM,VN,VO,VP,VQ,VR,VS,VT,VU,VV,VW,VX,VY,Ua,Ub,Uc,Ud,Ue,Uf,Ui,Ul,Um,Us,Uw,Ux,Uy,U1,U2,U3,U4,U5,U6,U7,UC,UD,UE,UF,UG,UH,Te,Tf,Tg,Th,Ti,Tj,Tk,Tl,Tm,Tv,Tw,Tx,Ty,Tz,T3,T4,T5,T6,T7,T8,T9,TA,TB,TC,TH,Sw,SD,SE,SF,a1,hx,w58,h1,h2,h3,h4]; all_goals tactic => exact rfl))
            · (sym => (simp [Za,Zb,Zc,Zd,Ze,Zf,Zg,Zh,Zj,Zl,Zm,Zo,Zq,Zs,Zu,Zv,Zx,Zz,Z2,Z4,Z6,Z8,ZE,ZG,ZK,ZL,ZO,ZP,ZT,ZU,ZV,ZW,ZX,ZZ,Yb,Yg,Yh,Yj,Ys,Yt,Yu,Yv,Yw,Y1,YN,YQ,YV,YY,Xe,Xo,Xp,Xs,Xu,X0,Wc,Wg,Wm,Wn,Wy,Wz,W0,W3,W4,W5,W6,W7,W8,W9,WA,WE,WF,WH,WI,WJ,WK,WL,WM,WN,WO,WP,WQ,WR,WS,WV,WW,Vb,Ve,Vf,Vg,Vr,Vt,Vu,Vw,Vx,Vz,V5,V6,V8,V9,VA,VB,VC,VF,VG,VH,VI,VK,VL,VM,VN,VO,VP,VQ,VR,VS,VT,VU,VV,VW,VX,VY,Ua,Ub,Uc,Ud,Ue,Uf,Ui,Ul,Um,Us,Uw,Ux,Uy,U1,U2,U3,U4,U5,U6,U7,UC,UD,UE,UF,UG,UH,Te,Tf,Tg,Th,Ti,Tj,Tk,Tl,Tm,Tv,Tw,Tx,Ty,Tz,T3,T4,T5,T6,T7,T8,T9,TA,TB,TC,TH,Sw,SD,SE,SF,a1,hx,w58,h1,h2,h3]; all_goals tactic => exact rfl))
            · (sym => (simp [Za,Zb,Zc,Zd,Ze,Zf,Zg,Zh,Zj,Zl,Zm,Zo,Zq,Zs,Zu,Zv,Zx,Zz,Z2,Z4,Z6,Z8,ZE,ZG,ZK,ZL,ZO,ZP,ZT,ZU,ZV,ZW,ZX,ZZ,Yb,Yg,Yh,Yj,Ys,Yt,Yu,Yv,Yw,Y1,YN,YQ,YV,YY,Xe,Xo,Xp,Xs,Xu,X0,Wc,Wg,Wm,Wn,Wy,Wz,W0,W3,W4,W5,W6,W7,W8,W9,WA,WE,WF,WH,WI,WJ,WK,WL,WM,WN,WO,WP,WQ,WR,WS,WV,WW,Vb,Ve,Vf,Vg,Vr,Vt,Vu,Vw,Vx,Vz,V5,V6,V8,V9,VA,VB,VC,VF,VG,VH,VI,VK,VL,VM,VN,VO,VP,VQ,VR,VS,VT,VU,VV,VW,VX,VY,Ua,Ub,Uc,Ud,Ue,Uf,Ui,Ul,Um,Us,Uw,Ux,Uy,U1,U2,U3,U4,U5,U6,U7,UC,UD,UE,UF,UG,UH,Te,Tf,Tg,Th,Ti,Tj,Tk,Tl,Tm,Tv,Tw,Tx,Ty,Tz,T3,T4,T5,T6,T7,T8,T9,TA,TB,TC,TH,Sw,SD,SE,SF,a1,hx,w58,h1,h2]; all_goals tactic => exact rfl))
            · (sym => (simp [Za,Zb,Zc,Zd,Ze,Zf,Zg,Zh,Zj,Zl,Zm,Zo,Zq,Zs,Zu,Zv,Zx,Zz,Z2,Z4,Z6,Z8,ZE,ZG,ZK,ZL,ZO,ZP,ZT,ZU,ZV,ZW,ZX,ZZ,Yb,Yg,Yh,Yj,Ys,Yt,Yu,Yv,Yw,Y1,YN,YQ,YV,YY,Xe,Xo,Xp,Xs,Xu,X0,Wc,Wg,Wm,Wn,Wy,Wz,W0,W3,W4,W5,W6,W7,W8,W9,WA,WE,WF,WH,WI,WJ,WK,WL,WM,WN,WO,WP,WQ,WR,WS,WV,WW,Vb,Ve,Vf,Vg,Vr,Vt,Vu,Vw,Vx,Vz,V5,V6,V8,V9,VA,VB,VC,VF,VG,VH,VI,VK,VL,VM,VN,VO,VP,VQ,VR,VS,VT,VU,VV,VW,VX,VY,Ua,Ub,Uc,Ud,Ue,Uf,Ui,Ul,Um,Us,Uw,Ux,Uy,U1,U2,U3,U4,U5,U6,U7,UC,UD,UE,UF,UG,UH,Te,Tf,Tg,Th,Ti,Tj,Tk,Tl,Tm,Tv,Tw,Tx,Ty,Tz,T3,T4,T5,T6,T7,T8,T9,TA,TB,TC,TH,Sw,SD,SE,SF,a1,hx,w58,h1]; all_goals tactic => exact rfl))
abbrev kR (l : List (List St)) : AV := .fs (l.map fun k => [rS k])
def kindsE (l : List (List St)) : Int := if 6 < l.length then 1 else firstN (fun t => chkD (l.getD t [])) l.length
theorem ret_of {res : List (Nat × Option (Bool × Nat))} {own : Bool} {k : Nat} {r : Option (DX × Env × XH)} {v : AV × XH} (h1 : leaves r = true) (h2 : retX res own k r = some v) : ∃ e h,r = some (.ret,e,h) ∧ retX res own k (some (.ret,e,h)) = some v := by
  match r with
  | none => simp [leaves] at h1
  | some (.normal,e,h) => simp [leaves] at h1
  | some (.exit _,e,h) => simp [retX] at h2
  | some (.ret,e,h) => exact ⟨e,h,rfl,h2⟩
end Go.Proofs.YtpbeclkpohehgaaDoor
namespace Go.Proofs.YtpbeclkpohehgaaDoor
open Go Go.DL
set_option maxRecDepth 100000
set_option maxHeartbeats 1000000

def big (k : IntKind) : Prop := k = .u64 ∨ k = .i64
theorem big_u : big .u64 := .inl rfl
theorem big_bits {k : IntKind} (h : big k) : k.bits = 64 := by rcases h with rfl | rfl <;> rfl
theorem big_wrap {k : IntKind} (h : big k) {a : Nat} (ha : a < 2 ^ 63) : k.wrap (a : Int) = (a : Int) := by
  rcases h with rfl | rfl
  · simp [IntKind.wrap,IntKind.bits,IntKind.signed]; omega
  · simp [IntKind.wrap,IntKind.bits,IntKind.signed]; omega
theorem ofInt_nat {w : Nat} (a : Nat) : BitVec.ofInt w (a : Int) = BitVec.ofNat w a := by
  apply BitVec.eq_of_toNat_eq
  simp
theorem bits_and {k : IntKind} (h : big k) {a b : Nat} (ha : a < 2 ^ 63) (hb : b < 2 ^ 63) : bitsA .and k (a : Int) (b : Int) = ((a &&& b : Nat) : Int) := by
  unfold bitsA
  dsimp only
  rw [ofInt_nat,ofInt_nat,big_bits h,BitVec.toNat_and,BitVec.toNat_ofNat,BitVec.toNat_ofNat,Nat.mod_eq_of_lt (by omega),Nat.mod_eq_of_lt (by omega)]
  exact big_wrap h (Nat.lt_of_le_of_lt Nat.and_le_left ha)
theorem bits_or {k : IntKind} (h : big k) {a b : Nat} (ha : a < 2 ^ 63) (hb : b < 2 ^ 63) : bitsA .or k (a : Int) (b : Int) = ((a ||| b : Nat) : Int) := by
  unfold bitsA
  dsimp only
  rw [ofInt_nat,ofInt_nat,big_bits h,BitVec.toNat_or,BitVec.toNat_ofNat,BitVec.toNat_ofNat,Nat.mod_eq_of_lt (by omega),Nat.mod_eq_of_lt (by omega)]
  exact big_wrap h (Nat.or_lt_two_pow ha hb)
def dif (a b : Nat) : Nat := a &&& (2 ^ 64 - (b + 1))
theorem dif_le (a b : Nat) : dif a b ≤ a := Nat.and_le_left
theorem bits_dif {k : IntKind} (h : big k) {a b : Nat} (ha : a < 2 ^ 63) (hb : b < 2 ^ 63) : bitsA .andNot k (a : Int) (b : Int) = ((dif a b : Nat) : Int) := by
  unfold bitsA
  dsimp only
  rw [ofInt_nat,ofInt_nat,big_bits h,BitVec.toNat_and,BitVec.toNat_not,BitVec.toNat_ofNat,BitVec.toNat_ofNat,Nat.mod_eq_of_lt (by omega),Nat.mod_eq_of_lt (by omega),show 2 ^ 64 - 1 - b = 2 ^ 64 - (b + 1) by omega]
  exact big_wrap h (Nat.lt_of_le_of_lt (dif_le a b) ha)
theorem dif_bit {a b : Nat} (hb : b < 2 ^ 64) {i : Nat} : (dif a b).testBit i = (a.testBit i && (decide (i < 64) && !b.testBit i)) := by
  unfold dif
  rw [Nat.testBit_and,Nat.testBit_two_pow_sub_succ hb]
theorem bit_lt {a n : Nat} (h : a < 2 ^ n) {i : Nat} (hi : n ≤ i) : a.testBit i = false := Nat.testBit_lt_two_pow (Nat.lt_of_lt_of_le h (Nat.pow_le_pow_right (by omega) hi))
theorem dif_zero {a b : Nat} (ha : a < 2 ^ 63) (hb : b < 2 ^ 63) : dif a b = 0 ↔ ∀ i,a.testBit i = true → b.testBit i = true := by
  constructor
  · intro h i hi
    have hlt : i < 64 := by
      by_cases hc : i < 64
      · exact hc
      · rw [bit_lt ha (by omega)] at hi; simp at hi
    have := dif_bit (a := a) (b := b) (by omega) (i := i)
    rw [h,hi,Nat.zero_testBit,decide_eq_true hlt] at this
    simpa using this.symm
  · intro h
    apply Nat.eq_of_testBit_eq
    intro i
    rw [dif_bit (by omega),Nat.zero_testBit]
    cases hi : a.testBit i with
    | false => rfl
    | true => rw [h i hi]; simp
theorem shl_one {k : IntKind} (h : big k) {i : Nat} (hi : i < 63) : k.wrap (1 * 2 ^ min i k.bits) = ((2 ^ i : Nat) : Int) := by
  rw [big_bits h,Nat.min_eq_left (by omega),Int.one_mul,show (2 : Int) ^ i = ((2 ^ i : Nat) : Int) by norm_cast]
  exact big_wrap h (Nat.pow_lt_pow_right (by omega) hi)
theorem shl_1 {k : IntKind} (h : big k) {i : Nat} (hi : i < 63) : k.wrap (2 ^ min i k.bits) = ((2 ^ i : Nat) : Int) := by
  rw [← shl_one h hi,Int.one_mul]
theorem shr_nat {k : IntKind} (h : big k) {a i : Nat} (hi : i < 64) : (a : Int).fdiv (2 ^ min i k.bits) = ((a >>> i : Nat) : Int) := by
  rw [big_bits h,Nat.min_eq_left (by omega),show (2 : Int) ^ i = ((2 ^ i : Nat) : Int) by norm_cast,Int.fdiv_eq_ediv_of_nonneg _ (Int.natCast_nonneg _),Nat.shiftRight_eq_div_pow]
  exact (Int.natCast_ediv a (2 ^ i)).symm
theorem bit_at {k : IntKind} (h : big k) {a i : Nat} (ha : a < 2 ^ 63) (hi : i < 64) : bitsA .and k ((a : Int).fdiv (2 ^ min i k.bits)) 1 = if a.testBit i then 1 else 0 := by
  have : a >>> i ≤ a := Nat.shiftRight_le a i
  rw [shr_nat h hi,show (1 : Int) = ((1 : Nat) : Int) from rfl,bits_and h (by omega) (by omega)]
  unfold Nat.testBit
  rw [Nat.and_comm,Nat.one_and_eq_mod_two]
  by_cases hb : (a >>> i) % 2 = 0
  · simp [hb]
  · have : (a >>> i) % 2 = 1 := by omega
    simp [this]
theorem bit_eq {k : IntKind} (h : big k) {a i : Nat} (ha : a < 2 ^ 63) (hi : i < 64) : (bitsA .and k ((a : Int).fdiv (2 ^ min i k.bits)) 1 = 1) = (a.testBit i = true) := by
  rw [bit_at h ha hi]
  cases a.testBit i <;> simp
theorem or_lt {a i n : Nat} (ha : a < 2 ^ n) (hi : i < n) : a ||| 2 ^ i < 2 ^ n := Nat.or_lt_two_pow ha (Nat.pow_lt_pow_right (by omega) hi)
theorem or_bit (a i j : Nat) : (a ||| 2 ^ i).testBit j = (a.testBit j || decide (i = j)) := by
  rw [Nat.testBit_or,Nat.testBit_two_pow]

abbrev U (a : Nat) : AV := .int .u64 (a : Int)
theorem w83 {a : Nat} (ha : a < 2 ^ 63) {i : Int} {j : Nat} (hi : i = (j : Int)) (hj : j < 64) : runW progX 83 [U a,I i] [] = some (.bool (a.testBit j),[]) := by
  subst hi
  have e := bit_eq big_u (a := a) (i := j) ha hj
  have n0 : ((j : Int) < 0) = False := eq_false (by omega)
  rw [r83 (by simp)]; unfold x83; dsimp only
  cases hb : a.testBit j
  · rw [hb] at e
    have e := e.trans (eq_false (by simp))
    (sym => (simp [Za,Zb,Zf,Zh,Zl,Zm,Zu,Z2,Ym,Yp,Yq,Yw,YR,Xp,XI,Wc,Wd,W8,WH,WL,WM,WO,WP,Vr,V5,V6,V8,V9,VA,VB,VC,VF,VG,VH,VI,VK,VT,VV,VY,Ua,Uc,Ux,Uy,U1,U2,U3,UC,UD,Tv,Tw,Tx,T4,TB,TC,Sw,n0,e]; all_goals tactic => exact rfl))
  · rw [hb] at e
    have e := e.trans (eq_true rfl)
    (sym => (simp [Za,Zb,Zf,Zh,Zl,Zm,Zu,Z2,Ym,Yp,Yq,Yw,YR,Xp,XI,Wc,Wd,W8,WH,WL,WM,WO,WP,Vr,V5,V6,V8,V9,VA,VB,VC,VF,VG,VH,VI,VK,VT,VV,VY,Ua,Uc,Ux,Uy,U1,U2,U3,UC,UD,Tv,Tw,Tx,T4,TB,TC,Sw,n0,e]; all_goals tactic => exact rfl))

def pop : Nat → Nat → Nat
  | _,0 => 0
  | a,n + 1 => pop a n + if a.testBit n then 1 else 0
def oc1 (a : Int) : Int := IntKind.u64.wrap (bitsA .and .u64 (a.fdiv (2 ^ min 1 IntKind.u64.bits)) 6148914691236517205 + bitsA .and .u64 a 6148914691236517205)
def oc2 (a : Int) : Int := IntKind.u64.wrap (bitsA .and .u64 (a.fdiv (2 ^ min 2 IntKind.u64.bits)) 3689348814741910323 + bitsA .and .u64 a 3689348814741910323)
def oc3 (a : Int) : Int := bitsA .and .u64 (IntKind.u64.wrap (a.fdiv (2 ^ min 4 IntKind.u64.bits) + a)) 1085102592571150095
def oc4 (a : Int) : Int := IntKind.u64.wrap (a + a.fdiv (2 ^ min 8 IntKind.u64.bits))
def oc5 (a : Int) : Int := IntKind.u64.wrap (a + a.fdiv (2 ^ min 16 IntKind.u64.bits))
def oc6 (a : Int) : Int := IntKind.u64.wrap (a + a.fdiv (2 ^ min 32 IntKind.u64.bits))
def oc7 (a : Int) : Int := bitsA .and .i64 (IntKind.i64.wrap a) 127
theorem ones_tab : ∀ a : Nat,a < 1024 → oc7 (oc6 (oc5 (oc4 (oc3 (oc2 (oc1 (a : Int))))))) = ((pop a 10 : Nat) : Int) := by decide +kernel
theorem w119 {a : Nat} (ha : a < 1024) : runW progX 119 [U a] [] = some (I (pop a 10 : Nat),[]) := by
  rw [r119 (by simp)]; unfold x119; dsimp only
  sym =>
    simp [Za,Zb,Zf,Zh,Zl,Zm,Zu,Z2,Z5,ZY,Yj,Ym,Yp,Y2,Y4,Y8,YA,YQ,Xo,X0,Wc,W8,WH,WL,WM,WO,WP,Vr,V5,V6,V8,V9,VA,VB,VC,VF,VG,VH,VI,VK,VT,VV,VY,Ua,Uc,U1,U2,U3,UC,UD,Tv,Tw,Tx,T4,TB,TC,Sw]
    tactic => exact congrArg (fun v => some (I v,([] : XH))) (ones_tab a ha)
theorem w112 {a : Nat} (ha : a < 1024) : runW progX 112 [U a] [] = some (I (pop a 10 : Nat),[]) := by
  have e := w119 ha
  rw [r112 (by simp)]; unfold x112; dsimp only
  (sym => (simp [Za,Zb,Zf,Zh,Zl,Zu,ZO,ZP,ZT,ZU,YQ,Xo,X0,Wc,W7,W8,WH,WK,WL,WM,WO,WP,WR,WS,Ve,Vf,Vg,Vr,V5,V6,V8,V9,VA,VB,VC,VF,VG,VH,VI,VK,VO,VQ,VT,VU,VV,VX,VY,Ua,Uc,U1,U2,U3,U4,U5,UC,UD,Tw,Tx,Ty,T4,TB,TC,Sw,e]; all_goals tactic => exact rfl))
theorem w93 {a : Nat} (ha : a < 1024) : runW progX 93 [U a] [] = some (I (pop a 10 : Nat),[]) := by
  have e := w112 ha
  rw [r93 (by simp)]; unfold x93; dsimp only
  (sym => (simp [Za,Zb,Zf,Zg,Zh,Zj,Zl,Zu,ZO,ZP,ZT,ZU,YQ,Xo,X0,Wc,W7,W8,WH,WK,WL,WM,WO,WP,WR,WS,Ve,Vf,Vg,Vr,Vt,Vu,Vv,V5,V6,V8,V9,VA,VB,VC,VF,VG,VH,VI,VK,VT,VU,VV,VX,VY,Ua,Uc,U1,U2,U3,U4,U5,UC,UD,Tw,Tx,T4,TB,TC,Sw,SD,SE,SG,e]; all_goals tactic => exact rfl))
theorem pop_le (a : Nat) : ∀ n,pop a n ≤ n
  | 0 => Nat.le_refl _
  | n + 1 => by
    have := pop_le a n
    rw [pop]
    split <;> omega
theorem pop_full {a : Nat} : ∀ {n},pop a n = n ↔ ∀ i,i < n → a.testBit i = true
  | 0 => by simp [pop]
  | n + 1 => by
    have ih := pop_full (a := a) (n := n)
    have hle := pop_le a n
    rw [pop]
    constructor
    · intro h i hi
      cases hb : a.testBit n with
      | false => rw [hb] at h; simp at h; omega
      | true =>
        rw [hb] at h
        simp at h
        by_cases hin : i = n
        · rw [hin]; exact hb
        · exact ih.1 h i (by omega)
    · intro h
      rw [h n (by omega),ih.2 fun i hi => h i (by omega)]; simp
theorem pop_cut {a m : Nat} (h : a < 2 ^ m) : ∀ n,m ≤ n → pop a n = pop a m
  | 0,hn => by rw [show m = 0 by omega]
  | n + 1,hn => by
    by_cases hm : m = n + 1
    · rw [hm]
    · rw [pop,bit_lt h (by omega),pop_cut h n (by omega)]; simp
end Go.Proofs.YtpbeclkpohehgaaDoor
namespace Go.Proofs.YtpbeclkpohehgaaDoor
open Go Go.DL
set_option maxRecDepth 100000
set_option maxHeartbeats 2000000

structure Ld where
  k : Int
  al : Int
  ah : Int
  cl : Int
  ch : Int
abbrev Ld.row (x : Ld) : List AV := [I x.k,I x.al,I x.ah,I x.cl,I x.ch]
structure Li where
  ks : List (List St)
  ls : List Ld
  ts : List (List Int)
  lo : Int
  hi : Int
abbrev tR (l : List (List Int)) : AV := .fs (l.map fun t => [rI t])
abbrev lR (l : List Ld) : AV := .fs (l.map Ld.row)
abbrev Li.c (l : Li) : List AV := [kR l.ks,lR l.ls,tR l.ts,I l.lo,I l.hi]

def elE (n all : Nat) (v : Int) : Int := if btw 0 v ((n : Int) - 1) then (if all.testBit v.toNat then 6 else 0) else 5
def allT (t : List Int) (a : Nat) : Nat → Nat
  | 0 => a
  | i + 1 => allT t a i ||| 2 ^ (t.getD i 0).toNat
def errT (n : Nat) (t : List Int) (a : Nat) : Int := if t.length = 0 then 4 else firstN (fun i => elE n (allT t a i) (t.getD i 0)) t.length
def accT (T : List (List Int)) : Nat → Nat
  | 0 => 0
  | j + 1 => allT (T.getD j []) (accT T j) (T.getD j []).length
def tracksE (n : Nat) (T : List (List Int)) : Int := if firstN (fun j => errT n (T.getD j []) (accT T j)) T.length = 0 then (if pop (accT T T.length) n < n then 3 else 0) else firstN (fun j => errT n (T.getD j []) (accT T j)) T.length
theorem elE_of {n all : Nat} (v : Int) : (btw 0 v ((n : Int) - 1) = true ∧ (0 ≤ v ∧ v < n) ∧ all.testBit v.toNat = false ∧ elE n all v = 0) ∨ (btw 0 v ((n : Int) - 1) = true ∧ (0 ≤ v ∧ v < n) ∧ all.testBit v.toNat = true ∧ elE n all v = 6) ∨ (btw 0 v ((n : Int) - 1) = false ∧ elE n all v = 5) := by
  unfold elE
  cases h : btw 0 v ((n : Int) - 1)
  · exact .inr (.inr ⟨rfl,rfl⟩)
  · have := btwF.1 h
    cases all.testBit v.toNat
    · exact .inl ⟨rfl,by omega,rfl,rfl⟩
    · exact .inr (.inl ⟨rfl,by omega,rfl,rfl⟩)
theorem allT_lt {n N : Nat} (hn : n ≤ N) {t : List Int} {a : Nat} (ha : a < 2 ^ N) : ∀ m,(∀ i,i < m → elE n (allT t a i) (t.getD i 0) = 0) → allT t a m < 2 ^ N
  | 0,_ => ha
  | m + 1,h => by
    have ih := allT_lt hn ha m fun i hi => h i (by omega)
    rcases elE_of (n := n) (all := allT t a m) (t.getD m 0) with ⟨_,h1,_,_⟩ | ⟨_,_,_,h4⟩ | ⟨_,h4⟩
    · rw [allT]
      exact or_lt ih (by omega)
    · rw [h m (by omega)] at h4; simp at h4
    · rw [h m (by omega)] at h4; simp at h4
theorem errT_0 {n : Nat} {t : List Int} {a : Nat} (h : errT n t a = 0) : t.length ≠ 0 ∧ ∀ i,i < t.length → elE n (allT t a i) (t.getD i 0) = 0 := by
  unfold errT at h
  by_cases hz : t.length = 0
  · rw [if_pos hz] at h; simp at h
  · rw [if_neg hz] at h
    exact ⟨hz,firstN_0 h⟩
theorem accT_lt {n N : Nat} (hn : n ≤ N) {T : List (List Int)} : ∀ m,(∀ j,j < m → errT n (T.getD j []) (accT T j) = 0) → accT T m < 2 ^ N
  | 0,_ => Nat.two_pow_pos N
  | m + 1,h => by
    have ih := accT_lt hn m fun j hj => h j (by omega)
    rw [accT]
    exact allT_lt hn ih _ (errT_0 (h m (by omega))).2
theorem getD_of {α : Type} {l : List α} {i : Nat} {x d : α} (h : l[i]? = some x) : l.getD i d = x := by rw [List.getD_eq_getElem?_getD,h]; rfl
theorem lo_63 {a : Nat} (h : a < 2 ^ 10) : a < 2 ^ 63 := by omega

section
variable {l : Li} {t : List Int} {j : Nat} {a : Nat}
abbrev hL (l : Li) : XH := [some (.blk true (.cells true l.c))]
theorem or_u {a : Nat} (ha : a < 2 ^ 10) {v : Int} (h : 0 ≤ v ∧ v < 10) : bitsA .or .u64 (a : Int) (IntKind.u64.wrap (1 * 2 ^ min v.toNat IntKind.u64.bits)) = ((a ||| 2 ^ v.toNat : Nat) : Int) := by
  rw [shl_one big_u (by omega),bits_or big_u (lo_63 ha) (Nat.pow_lt_pow_right (by omega) (by omega))]
theorem or_u1 {a : Nat} (ha : a < 2 ^ 10) {v : Int} (h : 0 ≤ v ∧ v < 10) : bitsA .or .u64 (a : Int) (IntKind.u64.wrap (2 ^ min v.toNat IntKind.u64.bits)) = ((a ||| 2 ^ v.toNat : Nat) : Int) := by
  rw [shl_1 big_u (by omega),bits_or big_u (lo_63 ha) (Nat.pow_lt_pow_right (by omega) (by omega))]
theorem round60 (hn : l.ls.length ≤ 10) (ha : a < 2 ^ 10) {i : Nat} {v : Int} (hv : t[i]? = some v) (ht : t.length ≤ 9223372036854775807) (he : elE l.ls.length a v = 0) :
    headX 0 [1,3,9,10,11,18,19,20] (execW progX 60 0 none (match x60l0 with | .loop _ a => a | c => c) (envL [1,3,9,10,11,18,19,20] [.pt 0 0,U a,tR l.ts,I l.ts.length,I (j : Nat),rI t,I t.length,I (i : Nat)]) (hL l)) =
      some ([.pt 0 0,U (a ||| 2 ^ v.toNat),tR l.ts,I l.ts.length,I (j : Nat),rI t,I t.length,I (i + 1 : Nat)],hL l) := by
  have a1 := lt_ix (lt_of hv)
  have a2 := up_ix (lt_of hv) ht
  have a3 : IntKind.i64.wrap ((l.ls.length : Int) - 1) = (l.ls.length : Int) - 1 := wrap_ok (by omega) (by omega)
  rcases elE_of (n := l.ls.length) (all := a) v with ⟨h1,h2,h3,h4⟩ | ⟨_,_,_,h4⟩ | ⟨_,h4⟩
  · have n0 : (v < 0) = False := eq_false (by omega)
    have e := w83 (a := a) (lo_63 ha) (i := v) (j := v.toNat) (by omega) (by omega)
    have o1 := or_u ha (v := v) (by omega)
    have o2 := or_u1 ha (v := v) (by omega)
    rw [h3] at e
    generalize a ||| 2 ^ v.toNat = a' at *
    unfold x60l0
    dsimp only
    (sym => (simp [Za,Zb,Zf,Zh,Zl,Zm,Zu,Z2,Z4,Z6,Z8,ZE,ZG,ZO,ZP,ZT,ZU,ZX,ZZ,Yb,Yg,Yh,Yj,Yk,Yn,Yo,Ys,Yv,Yw,YQ,YV,YY,Xo,Xp,Xs,Xu,Wy,Wz,W0,W7,W9,WA,WE,WF,WH,WI,WJ,WK,WL,WM,WN,WO,WP,WQ,WR,WS,WV,WW,Vb,Ve,Vf,Vg,VL,VM,VN,VO,VP,VQ,VU,VV,VX,VY,Ua,Ub,Uc,Ud,Ue,Uf,Ul,Us,Uw,Ux,U1,U2,U3,U4,U5,Tf,Tg,Th,Ti,Tk,Tv,Tw,Ty,T3,T4,T7,TA,TB,TC,TH,a1,a2,a3,hv,w58,h1,e,n0,o1,o2]; all_goals tactic => exact rfl))
  all_goals (rw [h4] at he; simp at he)
theorem left60 (hn : l.ls.length ≤ 10) (ha : a < 2 ^ 10) {i : Nat} {v : Int} (hv : t[i]? = some v) (he : elE l.ls.length a v ≠ 0) :
    ∃ e h,execW progX 60 0 none (match x60l0 with | .loop _ a => a | c => c) (envL [1,3,9,10,11,18,19,20] [.pt 0 0,U a,tR l.ts,I l.ts.length,I (j : Nat),rI t,I t.length,I (i : Nat)]) (hL l) = some (.ret,e,h) ∧ retX [(2,none)] false 0 (some (.ret,e,h)) = some (I (elE l.ls.length a v),[]) := by
  have a1 := lt_ix (lt_of hv)
  have a3 : IntKind.i64.wrap ((l.ls.length : Int) - 1) = (l.ls.length : Int) - 1 := wrap_ok (by omega) (by omega)
  refine ret_of ?_ ?_
  all_goals unfold x60l0
  all_goals dsimp only
  all_goals rcases elE_of (n := l.ls.length) (all := a) v with ⟨h1,h2,h3,h4⟩ | ⟨h1,h2,h3,h4⟩ | ⟨h1,h4⟩
  all_goals first | exact absurd h4 he | skip
  all_goals try rw [h4]
  · have e := w83 (a := a) (lo_63 ha) (i := v) (j := v.toNat) (by omega) (by omega)
    rw [h3] at e
    (sym => (simp [Za,Zb,Zf,Zh,Zl,Zm,Zu,Z2,Z4,Z6,Z8,ZE,ZG,ZO,ZP,ZT,ZU,ZX,ZZ,Yb,Yg,Yh,Yk,Ys,Yv,Yw,YQ,Xo,Xp,X0,Wc,Wy,Wz,W0,W7,W9,WH,WK,WL,WM,WN,WO,WP,WR,WS,Ve,Vf,Vg,Vr,V5,V6,V8,V9,VA,VB,VC,VF,VG,VH,VI,VL,VO,VP,VQ,VS,VU,VV,VX,VY,Ua,Ub,Uc,Ud,Ue,Uf,Ul,Um,Us,Ux,U1,U2,U3,U4,U5,Tf,Tg,Th,Ti,Tk,Tv,Tw,Tx,Ty,T3,T4,T6,T8,TB,TC,Sw,a1,a3,hv,w58,h1,e]; all_goals tactic => exact rfl))
  · (sym => (simp [Za,Zb,Zf,Zh,Zl,Zm,Zu,Z2,Z4,Z6,Z8,ZE,ZG,ZO,ZP,ZT,ZU,ZX,ZZ,Yb,Yg,Yh,Yk,Ys,Yv,Yw,YQ,Xo,Xp,X0,Wc,Wy,Wz,W0,W7,W9,WH,WK,WL,WM,WN,WO,WP,WR,WS,Ve,Vf,Vg,Vr,V5,V6,V8,V9,VA,VB,VC,VF,VG,VH,VI,VL,VO,VP,VQ,VS,VU,VV,VX,VY,Ua,Ub,Uc,Ud,Ue,Uf,Ul,Um,Us,Ux,U1,U2,U3,U4,U5,Tf,Tg,Th,Ti,Tk,Tv,Tw,Tx,Ty,T3,T4,T6,T8,TB,TC,Sw,a1,a3,hv,w58,h1]; all_goals tactic => exact rfl))
  · have e := w83 (a := a) (lo_63 ha) (i := v) (j := v.toNat) (by omega) (by omega)
    rw [h3] at e
    (sym => (simp [Za,Zb,Zf,Zh,Zl,Zm,Zu,Z2,Z4,Z6,Z8,ZE,ZG,ZO,ZP,ZT,ZU,ZX,ZZ,Yb,Yg,Yh,Yk,Ys,Yv,Yw,YQ,Xo,Xp,X0,Wc,Wy,Wz,W0,W7,W9,WH,WK,WL,WM,WN,WO,WP,WR,WS,Ve,Vf,Vg,Vr,V5,V6,V8,V9,VA,VB,VC,VF,VG,VH,VI,VL,VO,VP,VQ,VS,VU,VV,VX,VY,Ua,Ub,Uc,Ud,Ue,Uf,Ul,Um,Us,Ux,U1,U2,U3,U4,U5,Tf,Tg,Th,Ti,Tk,Tv,Tw,Tx,Ty,T3,T4,T6,T8,TB,TC,Sw,a1,a3,hv,w58,h1,e]; all_goals tactic => exact rfl))
  · (sym => (simp [Za,Zb,Zf,Zh,Zl,Zm,Zu,Z2,Z4,Z6,Z8,ZE,ZG,ZO,ZP,ZT,ZU,ZX,ZZ,Yb,Yg,Yh,Yk,Ys,Yv,Yw,YQ,Xo,Xp,X0,Wc,Wy,Wz,W0,W7,W9,WH,WK,WL,WM,WN,WO,WP,WR,WS,Ve,Vf,Vg,Vr,V5,V6,V8,V9,VA,VB,VC,VF,VG,VH,VI,VL,VO,VP,VQ,VS,VU,VV,VX,VY,Ua,Ub,Uc,Ud,Ue,Uf,Ul,Um,Us,Ux,U1,U2,U3,U4,U5,Tf,Tg,Th,Ti,Tk,Tv,Tw,Tx,Ty,T3,T4,T6,T8,TB,TC,Sw,a1,a3,hv,w58,h1]; all_goals tactic => exact rfl))
end
theorem w60 (l : Li) (hn : l.ls.length ≤ 10) (hT : l.ts.length ≤ 9223372036854775807) (hts : ∀ t ∈ l.ts,t.length ≤ 9223372036854775807) : runW progX 60 [.agg l.c] [] = some (I (tracksE l.ls.length l.ts),[]) := by
  have z := Te (n := (l.ts.length : Int))
  obtain ⟨m,m1,m2,m3⟩ := firstN_ix (fun j => errT l.ls.length (l.ts.getD j []) (accT l.ts j)) l.ts.length
  have hm : accT l.ts m < 2 ^ 10 := accT_lt hn m m2
  have lf : m < l.ts.length → ∃ e h,execW progX 60 0 none (match x60l1 with | .loop _ a => a | c => c) (envL [1,3,9,10,11] [.pt 0 0,U (accT l.ts m),tR l.ts,I l.ts.length,I (m : Nat)]) (hL l) = some (.ret,e,h) ∧ retX [(2,none)] false 0 (some (.ret,e,h)) = some (I (errT l.ls.length (l.ts.getD m []) (accT l.ts m)),[]) := by
    intro hlt
    rcases m3 with ⟨rfl,_⟩ | ⟨_,m4,_⟩
    · omega
    obtain ⟨t,ht⟩ := at_ix hlt
    have b1 := lt_ix hlt
    rw [getD_of ht] at m4 ⊢
    have hth := hts t (List.mem_of_getElem? ht)
    generalize accT l.ts m = a at *
    by_cases h0 : t.length = 0
    · have e4 : errT l.ls.length t a = 4 := by rw [errT,if_pos h0]
      rw [e4]
      have g0 : ((t.length : Int) = 0) = True := eq_true (by omega)
      refine ret_of ?_ ?_
      all_goals unfold x60l1
      all_goals dsimp only
      all_goals (sym => (simp [Za,Zb,Ze,Zf,Zh,Zi,Zl,Zm,Zn,Zu,Zy,Z2,Z6,Z8,ZE,ZG,ZH,ZJ,ZM,ZQ,ZR,ZT,ZU,ZZ,Yb,Yg,Yh,Yj,Yq,Ys,Yv,Yw,Y1,YQ,YV,YY,Xe,Xf,Xg,Xo,Xs,Xu,X0,Wc,We,Wg,Wn,Wy,Wz,W0,W7,W8,W9,WA,WE,WF,WH,WI,WJ,WK,WL,WM,WN,WO,WP,WQ,WR,WS,WV,WW,Vb,Ve,Vf,Vg,Vi,Vj,Vk,Vm,Vr,V5,V6,V8,V9,VA,VB,VC,VF,VG,VH,VI,VK,VL,VM,VN,VO,VP,VQ,VR,VS,VT,VU,VV,VX,VY,Ua,Ub,Uc,Ud,Ue,Uf,Ui,Um,Un,Uo,Us,Uw,Ux,Uy,Uz,U0,U1,U2,U3,U4,U5,U6,U7,UC,UD,UO,UP,Te,Tf,Tg,Th,Ti,Tk,Tq,Tv,Tw,Tx,Ty,Tz,T3,T4,T5,T6,T7,T8,T9,TA,TB,TC,TH,Sw,b1,ht,g0]; all_goals tactic => exact rfl))
    · have g0 : ((t.length : Int) = 0) = False := eq_false (by omega)
      rw [errT,if_neg h0] at m4 ⊢
      obtain ⟨i,i1,i2,i3⟩ := firstN_ix (fun i => elE l.ls.length (allT t a i) (t.getD i 0)) t.length
      rcases i3 with ⟨_,i3⟩ | ⟨i3,i4,i5⟩
      · exact absurd i3 m4
      rw [i5]
      obtain ⟨v,hv⟩ := at_ix i3
      rw [getD_of hv] at i4 ⊢
      obtain ⟨eo,ho,q1,q2⟩ := left60 (j := m) hn (allT_lt hn hm i i2) hv i4
      have rd : ∀ k,k < i → headX 0 [1,3,9,10,11,18,19,20] (execW progX 60 0 none (match x60l0 with | .loop _ a => a | c => c) (envL [1,3,9,10,11,18,19,20] [.pt 0 0,U (allT t a k),tR l.ts,I l.ts.length,I (m : Nat),rI t,I t.length,I (k : Nat)]) (hL l)) = some ([.pt 0 0,U (allT t a (k + 1)),tR l.ts,I l.ts.length,I (m : Nat),rI t,I t.length,I (k + 1 : Nat)],hL l) := by
        intro k hk
        obtain ⟨u,hu⟩ := at_ix (l := t) (i := k) (by omega)
        have e0 := i2 k hk
        rw [getD_of hu] at e0
        rw [allT,getD_of hu]
        exact round60 hn (allT_lt hn hm k fun i hi => i2 i (by omega)) hu hth e0
      refine ret_of ?_ ?_
      all_goals unfold x60l1
      all_goals dsimp only
      · sym =>
          simp [Za,Zb,Ze,Zf,Zh,Zi,Zl,Zm,Zn,Zu,Zy,Z2,Z6,Z8,ZE,ZG,ZH,ZJ,ZM,ZQ,ZR,ZT,ZU,ZZ,Yb,Yg,Yh,Yj,Yq,Ys,Yv,Yw,Y1,YQ,YV,YY,Xe,Xf,Xg,Xo,Xs,Xu,X0,Wc,We,Wg,Wn,Wy,Wz,W0,W7,W8,W9,WA,WE,WF,WH,WI,WJ,WK,WL,WM,WN,WO,WP,WQ,WR,WS,WV,WW,Vb,Ve,Vf,Vg,Vi,Vj,Vk,Vm,Vr,V5,V6,V8,V9,VA,VB,VC,VF,VG,VH,VI,VK,VL,VM,VN,VO,VP,VQ,VR,VS,VT,VU,VV,VX,VY,Ua,Ub,Uc,Ud,Ue,Uf,Ui,Um,Un,Uo,Us,Uw,Ux,Uy,Uz,U0,U1,U2,U3,U4,U5,U6,U7,UC,UD,UO,UP,Te,Tf,Tg,Th,Ti,Tk,Tq,Tv,Tw,Tx,Ty,Tz,T3,T4,T5,T6,T7,T8,T9,TA,TB,TC,TH,Sw,b1,ht,g0]
          tactic =>
            unfold x60l0 at q1 ⊢
            rw [loop_rule i (fun k => [.pt 0 0,U (allT t a k),tR l.ts,I l.ts.length,I (m : Nat),rI t,I t.length,I (k : Nat)]) (fun _ => hL l)]
            · dsimp only at q1; rw [q1]; rfl
            · (sym => (simp [Za,Zb,Ze,Zf,Zh,Zi,Zl,Zm,Zn,Zu,Zy,Z2,Z6,Z8,ZE,ZG,ZH,ZJ,ZM,ZQ,ZR,ZT,ZU,ZZ,Yb,Yg,Yh,Yj,Yq,Ys,Yv,Yw,Y1,YQ,YV,YY,Xe,Xf,Xg,Xo,Xs,Xu,X0,Wc,We,Wg,Wn,Wy,Wz,W0,W7,W8,W9,WA,WE,WF,WH,WI,WJ,WK,WL,WM,WN,WO,WP,WQ,WR,WS,WV,WW,Vb,Ve,Vf,Vg,Vi,Vj,Vk,Vm,Vr,V5,V6,V8,V9,VA,VB,VC,VF,VG,VH,VI,VK,VL,VM,VN,VO,VP,VQ,VR,VS,VT,VU,VV,VX,VY,Ua,Ub,Uc,Ud,Ue,Uf,Ui,Um,Un,Uo,Us,Uw,Ux,Uy,Uz,U0,U1,U2,U3,U4,U5,U6,U7,UC,UD,UO,UP,Te,Tf,Tg,Th,Ti,Tk,Tq,Tv,Tw,Tx,Ty,Tz,T3,T4,T5,T6,T7,T8,T9,TA,TB,TC,TH,Sw,allT.eq_1]; all_goals tactic => exact rfl))
            · exact rd
            · dsimp only at q1; rw [q1]; rfl
      · sym =>
          simp [Za,Zb,Ze,Zf,Zh,Zi,Zl,Zm,Zn,Zu,Zy,Z2,Z6,Z8,ZE,ZG,ZH,ZJ,ZM,ZQ,ZR,ZT,ZU,ZZ,Yb,Yg,Yh,Yj,Yq,Ys,Yv,Yw,Y1,YQ,YV,YY,Xe,Xf,Xg,Xo,Xs,Xu,X0,Wc,We,Wg,Wn,Wy,Wz,W0,W7,W8,W9,WA,WE,WF,WH,WI,WJ,WK,WL,WM,WN,WO,WP,WQ,WR,WS,WV,WW,Vb,Ve,Vf,Vg,Vi,Vj,Vk,Vm,Vr,V5,V6,V8,V9,VA,VB,VC,VF,VG,VH,VI,VK,VL,VM,VN,VO,VP,VQ,VR,VS,VT,VU,VV,VX,VY,Ua,Ub,Uc,Ud,Ue,Uf,Ui,Um,Un,Uo,Us,Uw,Ux,Uy,Uz,U0,U1,U2,U3,U4,U5,U6,U7,UC,UD,UO,UP,Te,Tf,Tg,Th,Ti,Tk,Tq,Tv,Tw,Tx,Ty,Tz,T3,T4,T5,T6,T7,T8,T9,TA,TB,TC,TH,Sw,b1,ht,g0]
          tactic =>
            unfold x60l0 at q1 ⊢
            rw [loop_rule i (fun k => [.pt 0 0,U (allT t a k),tR l.ts,I l.ts.length,I (m : Nat),rI t,I t.length,I (k : Nat)]) (fun _ => hL l)]
            · dsimp only at q1; rw [q1]; exact q2
            · (sym => (simp [Za,Zb,Ze,Zf,Zh,Zi,Zl,Zm,Zn,Zu,Zy,Z2,Z6,Z8,ZE,ZG,ZH,ZJ,ZM,ZQ,ZR,ZT,ZU,ZZ,Yb,Yg,Yh,Yj,Yq,Ys,Yv,Yw,Y1,YQ,YV,YY,Xe,Xf,Xg,Xo,Xs,Xu,X0,Wc,We,Wg,Wn,Wy,Wz,W0,W7,W8,W9,WA,WE,WF,WH,WI,WJ,WK,WL,WM,WN,WO,WP,WQ,WR,WS,WV,WW,Vb,Ve,Vf,Vg,Vi,Vj,Vk,Vm,Vr,V5,V6,V8,V9,VA,VB,VC,VF,VG,VH,VI,VK,VL,VM,VN,VO,VP,VQ,VR,VS,VT,VU,VV,VX,VY,Ua,Ub,Uc,Ud,Ue,Uf,Ui,Um,Un,Uo,Us,Uw,Ux,Uy,Uz,U0,U1,U2,U3,U4,U5,U6,U7,UC,UD,UO,UP,Te,Tf,Tg,Th,Ti,Tk,Tq,Tv,Tw,Tx,Ty,Tz,T3,T4,T5,T6,T7,T8,T9,TA,TB,TC,TH,Sw,allT.eq_1]; all_goals tactic => exact rfl))
            · exact rd
            · dsimp only at q1; rw [q1]; rfl
  have rd : ∀ j,j < m → headX 0 [1,3,9,10,11] (execW progX 60 0 none (match x60l1 with | .loop _ a => a | c => c) (envL [1,3,9,10,11] [.pt 0 0,U (accT l.ts j),tR l.ts,I l.ts.length,I (j : Nat)]) (hL l)) = some ([.pt 0 0,U (accT l.ts (j + 1)),tR l.ts,I l.ts.length,I (j + 1 : Nat)],hL l) := by
    intro j hj
    obtain ⟨t,ht⟩ := at_ix (l := l.ts) (i := j) (by omega)
    have b1 := lt_ix (lt_of ht)
    have b2 := up_ix (lt_of ht) hT
    have hth := hts t (List.mem_of_getElem? ht)
    have h0 := m2 j hj
    have hj2 : accT l.ts j < 2 ^ 10 := accT_lt hn j fun i hi => m2 i (by omega)
    rw [accT,getD_of ht]
    rw [getD_of ht] at h0
    obtain ⟨h1,h2⟩ := errT_0 h0
    generalize accT l.ts j = a at *
    have g0 : ((t.length : Int) = 0) = False := eq_false (by omega)
    have z := Te (n := (t.length : Int))
    unfold x60l1
    dsimp only
    sym =>
      simp [Za,Zb,Ze,Zf,Zh,Zi,Zl,Zm,Zn,Zu,Zy,Z2,Z6,Z8,ZE,ZG,ZH,ZJ,ZM,ZQ,ZR,ZT,ZU,ZZ,Yb,Yg,Yh,Yj,Yq,Ys,Yv,Yw,Y1,YQ,YV,YY,Xe,Xf,Xg,Xo,Xs,Xu,X0,Wc,We,Wg,Wn,Wy,Wz,W0,W7,W8,W9,WA,WE,WF,WH,WI,WJ,WK,WL,WM,WN,WO,WP,WQ,WR,WS,WV,WW,Vb,Ve,Vf,Vg,Vi,Vj,Vk,Vm,Vr,V5,V6,V8,V9,VA,VB,VC,VF,VG,VH,VI,VK,VL,VM,VN,VO,VP,VQ,VR,VS,VT,VU,VV,VX,VY,Ua,Ub,Uc,Ud,Ue,Uf,Ui,Um,Un,Uo,Us,Uw,Ux,Uy,Uz,U0,U1,U2,U3,U4,U5,U6,U7,UC,UD,UO,UP,Te,Tf,Tg,Th,Ti,Tk,Tq,Tv,Tw,Tx,Ty,Tz,T3,T4,T5,T6,T7,T8,T9,TA,TB,TC,TH,Sw,b1,ht,g0]
      tactic =>
        unfold x60l0
        rw [loop_rule t.length (fun k => [.pt 0 0,U (allT t a k),tR l.ts,I l.ts.length,I (j : Nat),rI t,I t.length,I (k : Nat)]) (fun _ => hL l)]
        · (sym => (simp [Za,Zb,Ze,Zf,Zh,Zi,Zl,Zm,Zn,Zu,Zy,Z2,Z6,Z8,ZE,ZG,ZH,ZJ,ZM,ZQ,ZR,ZT,ZU,ZZ,Yb,Yg,Yh,Yj,Yq,Ys,Yv,Yw,Y1,YQ,YV,YY,Xe,Xf,Xg,Xo,Xs,Xu,X0,Wc,We,Wg,Wn,Wy,Wz,W0,W7,W8,W9,WA,WE,WF,WH,WI,WJ,WK,WL,WM,WN,WO,WP,WQ,WR,WS,WV,WW,Vb,Ve,Vf,Vg,Vi,Vj,Vk,Vm,Vr,V5,V6,V8,V9,VA,VB,VC,VF,VG,VH,VI,VK,VL,VM,VN,VO,VP,VQ,VR,VS,VT,VU,VV,VX,VY,Ua,Ub,Uc,Ud,Ue,Uf,Ui,Um,Un,Uo,Us,Uw,Ux,Uy,Uz,U0,U1,U2,U3,U4,U5,U6,U7,UC,UD,UO,UP,Te,Tf,Tg,Th,Ti,Tk,Tq,Tv,Tw,Tx,Ty,Tz,T3,T4,T5,T6,T7,T8,T9,TA,TB,TC,TH,Sw,b1,b2,z]; all_goals tactic => exact rfl))
        · (sym => (simp [Za,Zb,Ze,Zf,Zh,Zi,Zl,Zm,Zn,Zu,Zy,Z2,Z6,Z8,ZE,ZG,ZH,ZJ,ZM,ZQ,ZR,ZT,ZU,ZZ,Yb,Yg,Yh,Yj,Yq,Ys,Yv,Yw,Y1,YQ,YV,YY,Xe,Xf,Xg,Xo,Xs,Xu,X0,Wc,We,Wg,Wn,Wy,Wz,W0,W7,W8,W9,WA,WE,WF,WH,WI,WJ,WK,WL,WM,WN,WO,WP,WQ,WR,WS,WV,WW,Vb,Ve,Vf,Vg,Vi,Vj,Vk,Vm,Vr,V5,V6,V8,V9,VA,VB,VC,VF,VG,VH,VI,VK,VL,VM,VN,VO,VP,VQ,VR,VS,VT,VU,VV,VX,VY,Ua,Ub,Uc,Ud,Ue,Uf,Ui,Um,Un,Uo,Us,Uw,Ux,Uy,Uz,U0,U1,U2,U3,U4,U5,U6,U7,UC,UD,UO,UP,Te,Tf,Tg,Th,Ti,Tk,Tq,Tv,Tw,Tx,Ty,Tz,T3,T4,T5,T6,T7,T8,T9,TA,TB,TC,TH,Sw,allT.eq_1]; all_goals tactic => exact rfl))
        · intro k hk
          obtain ⟨u,hu⟩ := at_ix hk
          have e0 := h2 k hk
          rw [getD_of hu] at e0
          rw [allT,getD_of hu]
          exact round60 hn (allT_lt hn hj2 k fun i hi => h2 i (by omega)) hu hth e0
        · (sym => (simp [Za,Zb,Ze,Zf,Zh,Zi,Zl,Zm,Zn,Zu,Zy,Z2,Z6,Z8,ZE,ZG,ZH,ZJ,ZM,ZQ,ZR,ZT,ZU,ZZ,Yb,Yg,Yh,Yj,Yq,Ys,Yv,Yw,Y1,YQ,YV,YY,Xe,Xf,Xg,Xo,Xs,Xu,X0,Wc,We,Wg,Wn,Wy,Wz,W0,W7,W8,W9,WA,WE,WF,WH,WI,WJ,WK,WL,WM,WN,WO,WP,WQ,WR,WS,WV,WW,Vb,Ve,Vf,Vg,Vi,Vj,Vk,Vm,Vr,V5,V6,V8,V9,VA,VB,VC,VF,VG,VH,VI,VK,VL,VM,VN,VO,VP,VQ,VR,VS,VT,VU,VV,VX,VY,Ua,Ub,Uc,Ud,Ue,Uf,Ui,Um,Un,Uo,Us,Uw,Ux,Uy,Uz,U0,U1,U2,U3,U4,U5,U6,U7,UC,UD,UO,UP,Te,Tf,Tg,Th,Ti,Tk,Tq,Tv,Tw,Tx,Ty,Tz,T3,T4,T5,T6,T7,T8,T9,TA,TB,TC,TH,Sw,z]; all_goals tactic => exact rfl))
  have a0 : accT l.ts 0 = 0 := rfl
  rw [r60 (by simp)]; unfold x60; dsimp only
  sym =>
    simp [Za,Zb,Ze,Zf,Zh,Zi,Zl,Zm,Zn,Zu,Zy,Z2,Z6,Z8,ZE,ZG,ZH,ZJ,ZM,ZQ,ZR,ZT,ZU,ZZ,Yb,Yg,Yh,Yj,Yq,Ys,Yv,Yw,Y1,YQ,YV,YY,Xe,Xf,Xg,Xo,Xs,Xu,X0,Wc,We,Wg,Wn,Wy,Wz,W0,W7,W8,W9,WA,WE,WF,WH,WI,WJ,WK,WL,WM,WN,WO,WP,WQ,WR,WS,WV,WW,Vb,Ve,Vf,Vg,Vi,Vj,Vk,Vm,Vr,V5,V6,V8,V9,VA,VB,VC,VF,VG,VH,VI,VK,VL,VM,VN,VO,VP,VQ,VR,VS,VT,VU,VV,VX,VY,Ua,Ub,Uc,Ud,Ue,Uf,Ui,Um,Un,Uo,Us,Uw,Ux,Uy,Uz,U0,U1,U2,U3,U4,U5,U6,U7,UC,UD,UO,UP,Te,Tf,Tg,Th,Ti,Tk,Tq,Tv,Tw,Tx,Ty,Tz,T3,T4,T5,T6,T7,T8,T9,TA,TB,TC,TH,Sw]
    tactic =>
      unfold x60l1 at lf ⊢
      rw [loop_rule m (fun j => [.pt 0 0,U (accT l.ts j),tR l.ts,I l.ts.length,I (j : Nat)]) (fun _ => hL l)]
      · rcases m3 with ⟨rfl,e⟩ | ⟨m3,m4,e⟩
        · unfold tracksE
          rw [e,if_pos rfl]
          have e93 := w93 (a := accT l.ts l.ts.length) hm
          rw [pop_cut (m := 10) hm 10 (Nat.le_refl _)] at e93
          have hpop : pop (accT l.ts l.ts.length) 10 = pop (accT l.ts l.ts.length) l.ls.length := pop_cut (accT_lt (Nat.le_refl _) _ m2) 10 hn
          rw [hpop] at e93
          generalize pop (accT l.ts l.ts.length) l.ls.length = p at *
          by_cases hp : p < l.ls.length
          · rw [if_pos hp]
            have hp : ((p : Int) < (l.ls.length : Int)) = True := eq_true (by omega)
            (sym => (simp [Za,Zb,Ze,Zf,Zh,Zi,Zl,Zm,Zn,Zu,Zy,Z2,Z6,Z8,ZE,ZG,ZH,ZJ,ZM,ZQ,ZR,ZT,ZU,ZZ,Yb,Yg,Yh,Yj,Yq,Ys,Yv,Yw,Y1,YQ,YV,YY,Xe,Xf,Xg,Xo,Xs,Xu,X0,Wc,We,Wg,Wn,Wy,Wz,W0,W7,W8,W9,WA,WE,WF,WH,WI,WJ,WK,WL,WM,WN,WO,WP,WQ,WR,WS,WV,WW,Vb,Ve,Vf,Vg,Vi,Vj,Vk,Vm,Vr,V5,V6,V8,V9,VA,VB,VC,VF,VG,VH,VI,VK,VL,VM,VN,VO,VP,VQ,VR,VS,VT,VU,VV,VX,VY,Ua,Ub,Uc,Ud,Ue,Uf,Ui,Um,Un,Uo,Us,Uw,Ux,Uy,Uz,U0,U1,U2,U3,U4,U5,U6,U7,UC,UD,UO,UP,Te,Tf,Tg,Th,Ti,Tk,Tq,Tv,Tw,Tx,Ty,Tz,T3,T4,T5,T6,T7,T8,T9,TA,TB,TC,TH,Sw,z,e93,hp]; all_goals tactic => exact rfl))
          · rw [if_neg hp]
            have hp : ((p : Int) < (l.ls.length : Int)) = False := eq_false (by omega)
            (sym => (simp [Za,Zb,Ze,Zf,Zh,Zi,Zl,Zm,Zn,Zu,Zy,Z2,Z6,Z8,ZE,ZG,ZH,ZJ,ZM,ZQ,ZR,ZT,ZU,ZZ,Yb,Yg,Yh,Yj,Yq,Ys,Yv,Yw,Y1,YQ,YV,YY,Xe,Xf,Xg,Xo,Xs,Xu,X0,Wc,We,Wg,Wn,Wy,Wz,W0,W7,W8,W9,WA,WE,WF,WH,WI,WJ,WK,WL,WM,WN,WO,WP,WQ,WR,WS,WV,WW,Vb,Ve,Vf,Vg,Vi,Vj,Vk,Vm,Vr,V5,V6,V8,V9,VA,VB,VC,VF,VG,VH,VI,VK,VL,VM,VN,VO,VP,VQ,VR,VS,VT,VU,VV,VX,VY,Ua,Ub,Uc,Ud,Ue,Uf,Ui,Um,Un,Uo,Us,Uw,Ux,Uy,Uz,U0,U1,U2,U3,U4,U5,U6,U7,UC,UD,UO,UP,Te,Tf,Tg,Th,Ti,Tk,Tq,Tv,Tw,Tx,Ty,Tz,T3,T4,T5,T6,T7,T8,T9,TA,TB,TC,TH,Sw,z,e93,hp]; all_goals tactic => exact rfl))
        · unfold tracksE
          rw [e,if_neg m4]
          obtain ⟨eo,ho,q1,q2⟩ := lf m3
          dsimp only at q1
          rw [q1]
          exact q2
      · (sym => (simp [Za,Zb,Ze,Zf,Zh,Zi,Zl,Zm,Zn,Zu,Zy,Z2,Z6,Z8,ZE,ZG,ZH,ZJ,ZM,ZQ,ZR,ZT,ZU,ZZ,Yb,Yg,Yh,Yj,Yq,Ys,Yv,Yw,Y1,YQ,YV,YY,Xe,Xf,Xg,Xo,Xs,Xu,X0,Wc,We,Wg,Wn,Wy,Wz,W0,W7,W8,W9,WA,WE,WF,WH,WI,WJ,WK,WL,WM,WN,WO,WP,WQ,WR,WS,WV,WW,Vb,Ve,Vf,Vg,Vi,Vj,Vk,Vm,Vr,V5,V6,V8,V9,VA,VB,VC,VF,VG,VH,VI,VK,VL,VM,VN,VO,VP,VQ,VR,VS,VT,VU,VV,VX,VY,Ua,Ub,Uc,Ud,Ue,Uf,Ui,Um,Un,Uo,Us,Uw,Ux,Uy,Uz,U0,U1,U2,U3,U4,U5,U6,U7,UC,UD,UO,UP,Te,Tf,Tg,Th,Ti,Tk,Tq,Tv,Tw,Tx,Ty,Tz,T3,T4,T5,T6,T7,T8,T9,TA,TB,TC,TH,Sw,a0]; all_goals tactic => exact rfl))
      · exact rd
      · rcases m3 with ⟨rfl,e⟩ | ⟨m3,m4,e⟩
        · (sym => (simp [Za,Zb,Ze,Zf,Zh,Zi,Zl,Zm,Zn,Zu,Zy,Z2,Z6,Z8,ZE,ZG,ZH,ZJ,ZM,ZQ,ZR,ZT,ZU,ZZ,Yb,Yg,Yh,Yj,Yq,Ys,Yv,Yw,Y1,YQ,YV,YY,Xe,Xf,Xg,Xo,Xs,Xu,X0,Wc,We,Wg,Wn,Wy,Wz,W0,W7,W8,W9,WA,WE,WF,WH,WI,WJ,WK,WL,WM,WN,WO,WP,WQ,WR,WS,WV,WW,Vb,Ve,Vf,Vg,Vi,Vj,Vk,Vm,Vr,V5,V6,V8,V9,VA,VB,VC,VF,VG,VH,VI,VK,VL,VM,VN,VO,VP,VQ,VR,VS,VT,VU,VV,VX,VY,Ua,Ub,Uc,Ud,Ue,Uf,Ui,Um,Un,Uo,Us,Uw,Ux,Uy,Uz,U0,U1,U2,U3,U4,U5,U6,U7,UC,UD,UO,UP,Te,Tf,Tg,Th,Ti,Tk,Tq,Tv,Tw,Tx,Ty,Tz,T3,T4,T5,T6,T7,T8,T9,TA,TB,TC,TH,Sw,z]; all_goals tactic => exact rfl))
        · obtain ⟨eo,ho,q1,q2⟩ := lf m3
          dsimp only at q1
          rw [q1]
          rfl
end Go.Proofs.YtpbeclkpohehgaaDoor
namespace Go.Proofs.YtpbeclkpohehgaaDoor
open Go Go.DL
set_option maxRecDepth 100000
set_option maxHeartbeats 2000000

def bl (n a : Nat) : List Bool := (List.range n).map fun k => a.testBit k
section
variable {n : Nat} {T : List (List Int)} {t : List Int} {j : Nat} {a : Nat}
end
end Go.Proofs.YtpbeclkpohehgaaDoor
namespace Go.Proofs.YtpbeclkpohehgaaDoor
open Go Go.DL
set_option maxRecDepth 100000
set_option maxHeartbeats 2000000

def ldE (nk : Nat) (x : Ld) : Int := if btw 0 x.k ((nk : Int) - 1) then (if inS x.al x.ah 0 100000 && inS x.cl x.ch 1 10000 then 0 else 2) else 18
def ldEr (l : Li) (i : Nat) : Int := ldE l.ks.length (l.ls.getD i ⟨0,0,0,0,0⟩)
def checkL (l : Li) : Int := if kindsE l.ks = 0 then (if 10 < l.ls.length then 1 else if firstN (ldEr l) l.ls.length = 0 then (if tracksE l.ls.length l.ts = 0 then (if inS l.lo l.hi 0 100000 then 0 else 2) else tracksE l.ls.length l.ts) else firstN (ldEr l) l.ls.length) else kindsE l.ks
structure Li.Fit (l : Li) : Prop where
  ts : l.ts.length ≤ 9223372036854775807
  each : ∀ t ∈ l.ts,t.length ≤ 9223372036854775807
theorem ldE_of (nk : Nat) (x : Ld) : (btw 0 x.k ((nk : Int) - 1) = true ∧ inS x.al x.ah 0 100000 = true ∧ inS x.cl x.ch 1 10000 = true ∧ ldE nk x = 0) ∨ (btw 0 x.k ((nk : Int) - 1) = true ∧ inS x.al x.ah 0 100000 = true ∧ inS x.cl x.ch 1 10000 = false ∧ ldE nk x = 2) ∨
    (btw 0 x.k ((nk : Int) - 1) = true ∧ inS x.al x.ah 0 100000 = false ∧ ldE nk x = 2) ∨ (btw 0 x.k ((nk : Int) - 1) = false ∧ ldE nk x = 18) := by
  unfold ldE
  cases btw 0 x.k ((nk : Int) - 1)
  · simp
  cases inS x.al x.ah 0 100000
  · simp
  cases inS x.cl x.ch 1 10000 <;> simp

section
variable {l : Li}
theorem round22a (hn : l.ks.length ≤ 6) {i : Nat} (hi : i < l.ks.length) (he : chkD (l.ks.getD i []) = 0) :
    headX 0 [1,14,15,16] (execW progX 22 0 none (match x22l0 with | .loop _ a => a | c => c) (envL [1,14,15,16] [.pt 0 0,kR l.ks,I l.ks.length,I (i : Nat)]) (hL l)) = some ([.pt 0 0,kR l.ks,I l.ks.length,I (i + 1 : Nat)],hL l) := by
  obtain ⟨k,hk⟩ := at_ix hi
  rw [getD_of hk] at he
  have a1 := lt_ix hi
  have a2 := up_ix hi (by omega)
  have e := w57 k
  rw [he] at e
  unfold x22l0
  dsimp only
  (sym => (simp [Za,Zb,Zf,Zg,Zh,Zj,Zl,Zm,Zu,Z2,Z8,ZG,ZO,ZP,ZT,ZU,Yg,Yh,Yj,Yr,Ys,Yv,Yw,YQ,YV,YY,Xo,Xs,Xu,XL,Wg,Wy,W7,W9,WA,WE,WF,WH,WI,WJ,WK,WL,WM,WN,WO,WP,WQ,WR,WS,WV,WW,Vb,Ve,Vf,Vg,Vr,Vt,Vu,Vv,VL,VM,VN,VO,VP,VQ,VU,VV,VX,VY,Ua,Ub,Uc,Ud,Ue,Uf,Ul,Us,Uw,Ux,U1,U2,U3,U4,U5,Th,Ti,Tk,Tv,Tw,Ty,T3,T4,T7,TA,TB,TC,TH,Sw,SD,SE,SG,a1,a2,hk,e]; all_goals tactic => exact rfl))
theorem left22a (hn : l.ks.length ≤ 6) {i : Nat} (hi : i < l.ks.length) (he : chkD (l.ks.getD i []) ≠ 0) :
    ∃ e h,execW progX 22 0 none (match x22l0 with | .loop _ a => a | c => c) (envL [1,14,15,16] [.pt 0 0,kR l.ks,I l.ks.length,I (i : Nat)]) (hL l) = some (.ret,e,h) ∧ retX [(2,none)] false 0 (some (.ret,e,h)) = some (I (chkD (l.ks.getD i [])),[]) := by
  obtain ⟨k,hk⟩ := at_ix hi
  rw [getD_of hk] at he ⊢
  have a1 := lt_ix hi
  have e := w57 k
  generalize chkD k = v at *
  have g := eq_false he
  refine ret_of ?_ ?_
  all_goals unfold x22l0
  all_goals dsimp only
  all_goals (sym => (simp [Za,Zb,Zf,Zg,Zh,Zj,Zl,Zm,Zu,Z2,Z8,ZG,ZO,ZP,ZT,ZU,Yg,Yh,Yr,Ys,Yv,Yw,YQ,YV,Xo,Xs,X0,XL,Wc,Wg,W7,W9,WH,WK,WL,WM,WN,WO,WP,WR,WS,Ve,Vf,Vg,Vr,Vt,Vu,Vv,V5,V6,V8,V9,VA,VB,VC,VF,VG,VH,VI,VL,VO,VP,VS,VU,VV,VX,VY,Ua,Ub,Uc,Ud,Ue,Uf,Um,Us,Ux,Uy,U1,U2,U3,U4,U5,Th,Ti,Tk,Tv,Tw,Tx,Ty,T3,T4,T6,T8,TB,TC,Sw,SD,SE,SG,a1,hk,e,g]; all_goals tactic => exact rfl))
theorem round22b (hn : l.ls.length ≤ 10) (hk : l.ks.length ≤ 6) {i : Nat} (hi : i < l.ls.length) (he : ldEr l i = 0) :
    headX 0 [1,31,32,33] (execW progX 22 0 none (match x22l1 with | .loop _ a => a | c => c) (envL [1,31,32,33] [.pt 0 0,lR l.ls,I l.ls.length,I (i : Nat)]) (hL l)) = some ([.pt 0 0,lR l.ls,I l.ls.length,I (i + 1 : Nat)],hL l) := by
  obtain ⟨x,hx⟩ := at_ix hi
  unfold ldEr at he
  rw [getD_of hx] at he
  have a1 := lt_ix hi
  have a2 := up_ix hi (by omega)
  have a3 : IntKind.i64.wrap ((l.ks.length : Int) - 1) = (l.ks.length : Int) - 1 := wrap_ok (by omega) (by omega)
  rcases ldE_of l.ks.length x with ⟨h1,h2,h3,h4⟩ | ⟨_,_,_,h4⟩ | ⟨_,_,h4⟩ | ⟨_,h4⟩
  · unfold x22l1
    dsimp only
    (sym => (simp [Za,Zb,Zc,Zf,Zg,Zh,Zj,Zl,Zm,Zo,Zq,Zu,Zv,Zx,Z2,Z4,Z6,Z8,ZE,ZG,ZK,ZL,ZO,ZP,ZT,ZU,ZW,ZX,ZZ,Yb,Yg,Yh,Yj,Yk,Ys,Yv,Yw,YQ,YT,YV,YY,Xe,Xo,Xp,Xq,Xs,Xu,Wn,Wy,Wz,W0,W3,W4,W5,W6,W7,W9,WA,WE,WF,WH,WI,WJ,WK,WL,WM,WN,WO,WP,WQ,WR,WS,WV,WW,Vb,Ve,Vf,Vg,Vr,Vt,Vu,Vw,Vx,Vz,VL,VM,VN,VO,VP,VQ,VU,VV,VW,VX,VY,Ua,Ub,Uc,Ud,Ue,Uf,Ui,Ul,Us,Uw,Ux,U1,U2,U3,U4,U5,U6,U7,UE,Tf,Tg,Th,Ti,Tj,Tk,Tl,Tm,Tv,Tw,Ty,T3,T4,T7,TA,TB,TC,TH,SD,SE,SF,a1,a2,a3,hx,w58,w59,h1,h2,h3]; all_goals tactic => exact rfl))
  all_goals (rw [h4] at he; simp at he)
theorem left22b (hn : l.ls.length ≤ 10) (hk : l.ks.length ≤ 6) {i : Nat} (hi : i < l.ls.length) (he : ldEr l i ≠ 0) :
    ∃ e h,execW progX 22 0 none (match x22l1 with | .loop _ a => a | c => c) (envL [1,31,32,33] [.pt 0 0,lR l.ls,I l.ls.length,I (i : Nat)]) (hL l) = some (.ret,e,h) ∧ retX [(2,none)] false 0 (some (.ret,e,h)) = some (I (ldEr l i),[]) := by
  obtain ⟨x,hx⟩ := at_ix hi
  unfold ldEr at he ⊢
  rw [getD_of hx] at he ⊢
  have a1 := lt_ix hi
  have a3 : IntKind.i64.wrap ((l.ks.length : Int) - 1) = (l.ks.length : Int) - 1 := wrap_ok (by omega) (by omega)
  have h1 := pad
  have h2 := pad
  have h3 := pad
  refine ret_of ?_ ?_
  all_goals unfold x22l1
  all_goals dsimp only
  all_goals rcases ldE_of l.ks.length x with ⟨h1,h2,h3,h4⟩ | ⟨h1,h2,h3,h4⟩ | ⟨h1,h2,h4⟩ | ⟨h1,h4⟩
  all_goals first | exact absurd h4 he | skip
  all_goals try rw [h4]
  all_goals (sym => (simp [Za,Zb,Zc,Zf,Zg,Zh,Zj,Zl,Zm,Zo,Zq,Zs,Zu,Zv,Zx,Z2,Z4,Z6,Z8,ZE,ZG,ZK,ZL,ZO,ZP,ZT,ZU,ZV,ZW,ZX,ZZ,Yb,Yg,Yh,Yk,Ys,Yv,Yw,YQ,YT,Xe,Xo,Xp,Xq,X0,Wc,Wn,Wy,Wz,W0,W3,W4,W5,W6,W7,W9,WH,WK,WL,WM,WN,WO,WP,WR,WS,Ve,Vf,Vg,Vr,Vt,Vu,Vw,Vx,Vz,V5,V6,V8,V9,VA,VB,VC,VF,VG,VH,VI,VL,VO,VP,VQ,VS,VU,VV,VW,VX,VY,Ua,Ub,Uc,Ud,Ue,Uf,Ui,Ul,Um,Us,Ux,U1,U2,U3,U4,U5,U6,U7,UE,Tf,Tg,Th,Ti,Tj,Tk,Tl,Tm,Tv,Tw,Tx,Ty,T3,T4,T6,T8,TB,TC,Sw,SD,SE,SF,a1,a3,hx,w58,w59,h1,h2,h3]; all_goals tactic => exact rfl))
end
theorem w22 (l : Li) (hf : l.Fit) : runW progX 22 [.agg l.c] [] = some (I (checkL l),[]) := by
  rw [r22 (by simp)]; unfold x22; dsimp only
  unfold checkL kindsE
  by_cases h6 : 6 < l.ks.length
  · have g6 : ((6 : Int) < (l.ks.length : Int)) = True := eq_true (by omega)
    simp only [if_pos h6]
    rw [if_neg (show ¬ (1 : Int) = 0 by decide)]
    (sym => (simp [Za,Zb,Zf,Zg,Zh,Zj,Zl,Zm,Zn,Zu,Zy,Z2,Z4,Z6,ZE,ZG,ZO,ZP,ZT,ZU,ZX,ZZ,Yb,Yr,Ys,Yu,Y1,YQ,YT,YV,YY,Xe,Xf,Xg,Xo,Xp,Xq,Xs,Xu,X0,Wc,We,Wg,Wn,Wy,Wz,W0,W4,W5,W6,W7,W8,W9,WA,WE,WF,WH,WI,WJ,WK,WL,WM,WN,WO,WP,WQ,WR,WS,WV,WW,Vb,Ve,Vf,Vg,Vr,Vt,Vu,Vw,Vx,Vz,V5,V6,V8,V9,VA,VB,VC,VF,VG,VH,VI,VK,VL,VM,VN,VO,VP,VQ,VR,VT,VU,VV,VX,VY,Ua,Ub,Uc,Ud,Uf,Ui,Ul,Um,Uw,Ux,Uy,U1,U2,U3,U4,U5,U6,U7,UC,UD,UO,UP,Te,Tf,Tg,Tj,Tk,Tq,Tv,Tw,Tx,Ty,Tz,T3,T4,T5,T6,T9,TA,TB,TC,TH,Sw,SD,SE,SF,g6]; all_goals tactic => exact rfl))
  simp only [if_neg h6]
  have g6 : ((6 : Int) < (l.ks.length : Int)) = False := eq_false (by omega)
  have z := Te (n := (l.ks.length : Int))
  have z2 := Te (n := (l.ls.length : Int))
  obtain ⟨m,m1,m2,m3⟩ := firstN_ix (fun t => chkD (l.ks.getD t [])) l.ks.length
  rcases m3 with ⟨rfl,e⟩ | ⟨m3,m4,e⟩
  · rw [e, if_pos rfl]
    sym =>
      simp [Za,Zb,Zf,Zg,Zh,Zj,Zl,Zm,Zn,Zu,Zy,Z2,Z4,Z6,ZE,ZG,ZO,ZP,ZT,ZU,ZX,ZZ,Yb,Yr,Ys,Yu,Y1,YQ,YT,YV,YY,Xe,Xf,Xg,Xo,Xp,Xq,Xs,Xu,X0,Wc,We,Wg,Wn,Wy,Wz,W0,W4,W5,W6,W7,W8,W9,WA,WE,WF,WH,WI,WJ,WK,WL,WM,WN,WO,WP,WQ,WR,WS,WV,WW,Vb,Ve,Vf,Vg,Vr,Vt,Vu,Vw,Vx,Vz,V5,V6,V8,V9,VA,VB,VC,VF,VG,VH,VI,VK,VL,VM,VN,VO,VP,VQ,VR,VT,VU,VV,VX,VY,Ua,Ub,Uc,Ud,Uf,Ui,Ul,Um,Uw,Ux,Uy,U1,U2,U3,U4,U5,U6,U7,UC,UD,UO,UP,Te,Tf,Tg,Tj,Tk,Tq,Tv,Tw,Tx,Ty,Tz,T3,T4,T5,T6,T9,TA,TB,TC,TH,Sw,SD,SE,SF,g6]
      tactic =>
        unfold x22l0
        rw [loop_rule l.ks.length (fun i => [.pt 0 0,kR l.ks,I l.ks.length,I (i : Nat)]) (fun _ => hL l)]
        · by_cases h10 : 10 < l.ls.length
          · rw [if_pos h10]
            have h10 : ((10 : Int) < (l.ls.length : Int)) = True := eq_true (by omega)
            (sym => (simp [Za,Zb,Zf,Zg,Zh,Zj,Zl,Zm,Zn,Zu,Zy,Z2,Z4,Z6,ZE,ZG,ZO,ZP,ZT,ZU,ZX,ZZ,Yb,Yr,Ys,Yu,Y1,YQ,YT,YV,YY,Xe,Xf,Xg,Xo,Xp,Xq,Xs,Xu,X0,Wc,We,Wg,Wn,Wy,Wz,W0,W4,W5,W6,W7,W8,W9,WA,WE,WF,WH,WI,WJ,WK,WL,WM,WN,WO,WP,WQ,WR,WS,WV,WW,Vb,Ve,Vf,Vg,Vr,Vt,Vu,Vw,Vx,Vz,V5,V6,V8,V9,VA,VB,VC,VF,VG,VH,VI,VK,VL,VM,VN,VO,VP,VQ,VR,VT,VU,VV,VX,VY,Ua,Ub,Uc,Ud,Uf,Ui,Ul,Um,Uw,Ux,Uy,U1,U2,U3,U4,U5,U6,U7,UC,UD,UO,UP,Te,Tf,Tg,Tj,Tk,Tq,Tv,Tw,Tx,Ty,Tz,T3,T4,T5,T6,T9,TA,TB,TC,TH,Sw,SD,SE,SF,z,h10]; all_goals tactic => exact rfl))
          rw [if_neg h10]
          have g10 : ((10 : Int) < (l.ls.length : Int)) = False := eq_false (by omega)
          obtain ⟨q,q1,q2,q3⟩ := firstN_ix (ldEr l) l.ls.length
          sym =>
            simp [Za,Zb,Zf,Zg,Zh,Zj,Zl,Zm,Zn,Zu,Zy,Z2,Z4,Z6,ZE,ZG,ZO,ZP,ZT,ZU,ZX,ZZ,Yb,Yr,Ys,Yu,Y1,YQ,YT,YV,YY,Xe,Xf,Xg,Xo,Xp,Xq,Xs,Xu,X0,Wc,We,Wg,Wn,Wy,Wz,W0,W4,W5,W6,W7,W8,W9,WA,WE,WF,WH,WI,WJ,WK,WL,WM,WN,WO,WP,WQ,WR,WS,WV,WW,Vb,Ve,Vf,Vg,Vr,Vt,Vu,Vw,Vx,Vz,V5,V6,V8,V9,VA,VB,VC,VF,VG,VH,VI,VK,VL,VM,VN,VO,VP,VQ,VR,VT,VU,VV,VX,VY,Ua,Ub,Uc,Ud,Uf,Ui,Ul,Um,Uw,Ux,Uy,U1,U2,U3,U4,U5,U6,U7,UC,UD,UO,UP,Te,Tf,Tg,Tj,Tk,Tq,Tv,Tw,Tx,Ty,Tz,T3,T4,T5,T6,T9,TA,TB,TC,TH,Sw,SD,SE,SF,z,g10]
            tactic =>
              unfold x22l1
              rw [loop_rule q (fun i => [.pt 0 0,lR l.ls,I l.ls.length,I (i : Nat)]) (fun _ => hL l)]
              · rcases q3 with ⟨rfl,eq⟩ | ⟨q3,q4,eq⟩
                · rw [eq,if_pos rfl]
                  have e60 := w60 l (by omega) hf.ts hf.each
                  by_cases ht : tracksE l.ls.length l.ts = 0
                  · rw [if_pos ht]
                    rw [ht] at e60
                    cases hs : inS l.lo l.hi 0 100000
                    · (sym => (simp [Za,Zb,Zf,Zg,Zh,Zj,Zl,Zm,Zn,Zu,Zy,Z2,Z4,Z6,ZE,ZG,ZO,ZP,ZT,ZU,ZX,ZZ,Yb,Yr,Ys,Yu,Y1,YQ,YT,YV,YY,Xe,Xf,Xg,Xo,Xp,Xq,Xs,Xu,X0,Wc,We,Wg,Wn,Wy,Wz,W0,W4,W5,W6,W7,W8,W9,WA,WE,WF,WH,WI,WJ,WK,WL,WM,WN,WO,WP,WQ,WR,WS,WV,WW,Vb,Ve,Vf,Vg,Vr,Vt,Vu,Vw,Vx,Vz,V5,V6,V8,V9,VA,VB,VC,VF,VG,VH,VI,VK,VL,VM,VN,VO,VP,VQ,VR,VT,VU,VV,VX,VY,Ua,Ub,Uc,Ud,Uf,Ui,Ul,Um,Uw,Ux,Uy,U1,U2,U3,U4,U5,U6,U7,UC,UD,UO,UP,Te,Tf,Tg,Tj,Tk,Tq,Tv,Tw,Tx,Ty,Tz,T3,T4,T5,T6,T9,TA,TB,TC,TH,Sw,SD,SE,SF,z2,e60,w59,hs]; all_goals tactic => exact rfl))
                    · (sym => (simp [Za,Zb,Zf,Zg,Zh,Zj,Zl,Zm,Zn,Zu,Zy,Z2,Z4,Z6,ZE,ZG,ZO,ZP,ZT,ZU,ZX,ZZ,Yb,Yr,Ys,Yu,Y1,YQ,YT,YV,YY,Xe,Xf,Xg,Xo,Xp,Xq,Xs,Xu,X0,Wc,We,Wg,Wn,Wy,Wz,W0,W4,W5,W6,W7,W8,W9,WA,WE,WF,WH,WI,WJ,WK,WL,WM,WN,WO,WP,WQ,WR,WS,WV,WW,Vb,Ve,Vf,Vg,Vr,Vt,Vu,Vw,Vx,Vz,V5,V6,V8,V9,VA,VB,VC,VF,VG,VH,VI,VK,VL,VM,VN,VO,VP,VQ,VR,VT,VU,VV,VX,VY,Ua,Ub,Uc,Ud,Uf,Ui,Ul,Um,Uw,Ux,Uy,U1,U2,U3,U4,U5,U6,U7,UC,UD,UO,UP,Te,Tf,Tg,Tj,Tk,Tq,Tv,Tw,Tx,Ty,Tz,T3,T4,T5,T6,T9,TA,TB,TC,TH,Sw,SD,SE,SF,z2,e60,w59,hs]; all_goals tactic => exact rfl))
                  · rw [if_neg ht]
                    have gt := eq_false ht
                    (sym => (simp [Za,Zb,Zf,Zg,Zh,Zj,Zl,Zm,Zn,Zu,Zy,Z2,Z4,Z6,ZE,ZG,ZO,ZP,ZT,ZU,ZX,ZZ,Yb,Yr,Ys,Yu,Y1,YQ,YT,YV,YY,Xe,Xf,Xg,Xo,Xp,Xq,Xs,Xu,X0,Wc,We,Wg,Wn,Wy,Wz,W0,W4,W5,W6,W7,W8,W9,WA,WE,WF,WH,WI,WJ,WK,WL,WM,WN,WO,WP,WQ,WR,WS,WV,WW,Vb,Ve,Vf,Vg,Vr,Vt,Vu,Vw,Vx,Vz,V5,V6,V8,V9,VA,VB,VC,VF,VG,VH,VI,VK,VL,VM,VN,VO,VP,VQ,VR,VT,VU,VV,VX,VY,Ua,Ub,Uc,Ud,Uf,Ui,Ul,Um,Uw,Ux,Uy,U1,U2,U3,U4,U5,U6,U7,UC,UD,UO,UP,Te,Tf,Tg,Tj,Tk,Tq,Tv,Tw,Tx,Ty,Tz,T3,T4,T5,T6,T9,TA,TB,TC,TH,Sw,SD,SE,SF,z2,e60,gt]; all_goals tactic => exact rfl))
                · rw [eq,if_neg q4]
                  obtain ⟨eo,ho,p1,p2⟩ := left22b (by omega) (by omega) q3 q4
                  unfold x22l1 at p1
                  dsimp only at p1
                  rw [p1]
                  exact p2
              · (sym => (simp [Za,Zb,Zf,Zg,Zh,Zj,Zl,Zm,Zn,Zu,Zy,Z2,Z4,Z6,ZE,ZG,ZO,ZP,ZT,ZU,ZX,ZZ,Yb,Yr,Ys,Yu,Y1,YQ,YT,YV,YY,Xe,Xf,Xg,Xo,Xp,Xq,Xs,Xu,X0,Wc,We,Wg,Wn,Wy,Wz,W0,W4,W5,W6,W7,W8,W9,WA,WE,WF,WH,WI,WJ,WK,WL,WM,WN,WO,WP,WQ,WR,WS,WV,WW,Vb,Ve,Vf,Vg,Vr,Vt,Vu,Vw,Vx,Vz,V5,V6,V8,V9,VA,VB,VC,VF,VG,VH,VI,VK,VL,VM,VN,VO,VP,VQ,VR,VT,VU,VV,VX,VY,Ua,Ub,Uc,Ud,Uf,Ui,Ul,Um,Uw,Ux,Uy,U1,U2,U3,U4,U5,U6,U7,UC,UD,UO,UP,Te,Tf,Tg,Tj,Tk,Tq,Tv,Tw,Tx,Ty,Tz,T3,T4,T5,T6,T9,TA,TB,TC,TH,Sw,SD,SE,SF]; all_goals tactic => exact rfl))
              · intro i hi
                exact round22b (by omega) (by omega) (by omega) (q2 i hi)
              · rcases q3 with ⟨rfl,eq⟩ | ⟨q3,q4,eq⟩
                · (sym => (simp [Za,Zb,Zf,Zg,Zh,Zj,Zl,Zm,Zn,Zu,Zy,Z2,Z4,Z6,ZE,ZG,ZO,ZP,ZT,ZU,ZX,ZZ,Yb,Yr,Ys,Yu,Y1,YQ,YT,YV,YY,Xe,Xf,Xg,Xo,Xp,Xq,Xs,Xu,X0,Wc,We,Wg,Wn,Wy,Wz,W0,W4,W5,W6,W7,W8,W9,WA,WE,WF,WH,WI,WJ,WK,WL,WM,WN,WO,WP,WQ,WR,WS,WV,WW,Vb,Ve,Vf,Vg,Vr,Vt,Vu,Vw,Vx,Vz,V5,V6,V8,V9,VA,VB,VC,VF,VG,VH,VI,VK,VL,VM,VN,VO,VP,VQ,VR,VT,VU,VV,VX,VY,Ua,Ub,Uc,Ud,Uf,Ui,Ul,Um,Uw,Ux,Uy,U1,U2,U3,U4,U5,U6,U7,UC,UD,UO,UP,Te,Tf,Tg,Tj,Tk,Tq,Tv,Tw,Tx,Ty,Tz,T3,T4,T5,T6,T9,TA,TB,TC,TH,Sw,SD,SE,SF,z2]; all_goals tactic => exact rfl))
                · obtain ⟨eo,ho,p1,p2⟩ := left22b (by omega) (by omega) q3 q4
                  unfold x22l1 at p1
                  dsimp only at p1
                  rw [p1]
                  rfl
        · (sym => (simp [Za,Zb,Zf,Zg,Zh,Zj,Zl,Zm,Zn,Zu,Zy,Z2,Z4,Z6,ZE,ZG,ZO,ZP,ZT,ZU,ZX,ZZ,Yb,Yr,Ys,Yu,Y1,YQ,YT,YV,YY,Xe,Xf,Xg,Xo,Xp,Xq,Xs,Xu,X0,Wc,We,Wg,Wn,Wy,Wz,W0,W4,W5,W6,W7,W8,W9,WA,WE,WF,WH,WI,WJ,WK,WL,WM,WN,WO,WP,WQ,WR,WS,WV,WW,Vb,Ve,Vf,Vg,Vr,Vt,Vu,Vw,Vx,Vz,V5,V6,V8,V9,VA,VB,VC,VF,VG,VH,VI,VK,VL,VM,VN,VO,VP,VQ,VR,VT,VU,VV,VX,VY,Ua,Ub,Uc,Ud,Uf,Ui,Ul,Um,Uw,Ux,Uy,U1,U2,U3,U4,U5,U6,U7,UC,UD,UO,UP,Te,Tf,Tg,Tj,Tk,Tq,Tv,Tw,Tx,Ty,Tz,T3,T4,T5,T6,T9,TA,TB,TC,TH,Sw,SD,SE,SF]; all_goals tactic => exact rfl))
        · intro i hi
          exact round22a (by omega) hi (m2 i hi)
        · (sym => (simp [Za,Zb,Zf,Zg,Zh,Zj,Zl,Zm,Zn,Zu,Zy,Z2,Z4,Z6,ZE,ZG,ZO,ZP,ZT,ZU,ZX,ZZ,Yb,Yr,Ys,Yu,Y1,YQ,YT,YV,YY,Xe,Xf,Xg,Xo,Xp,Xq,Xs,Xu,X0,Wc,We,Wg,Wn,Wy,Wz,W0,W4,W5,W6,W7,W8,W9,WA,WE,WF,WH,WI,WJ,WK,WL,WM,WN,WO,WP,WQ,WR,WS,WV,WW,Vb,Ve,Vf,Vg,Vr,Vt,Vu,Vw,Vx,Vz,V5,V6,V8,V9,VA,VB,VC,VF,VG,VH,VI,VK,VL,VM,VN,VO,VP,VQ,VR,VT,VU,VV,VX,VY,Ua,Ub,Uc,Ud,Uf,Ui,Ul,Um,Uw,Ux,Uy,U1,U2,U3,U4,U5,U6,U7,UC,UD,UO,UP,Te,Tf,Tg,Tj,Tk,Tq,Tv,Tw,Tx,Ty,Tz,T3,T4,T5,T6,T9,TA,TB,TC,TH,Sw,SD,SE,SF,z]; all_goals tactic => exact rfl))
  · rw [e,if_neg m4]
    obtain ⟨eo,ho,p1,p2⟩ := left22a (by omega) m3 m4
    sym =>
      simp [Za,Zb,Zf,Zg,Zh,Zj,Zl,Zm,Zn,Zu,Zy,Z2,Z4,Z6,ZE,ZG,ZO,ZP,ZT,ZU,ZX,ZZ,Yb,Yr,Ys,Yu,Y1,YQ,YT,YV,YY,Xe,Xf,Xg,Xo,Xp,Xq,Xs,Xu,X0,Wc,We,Wg,Wn,Wy,Wz,W0,W4,W5,W6,W7,W8,W9,WA,WE,WF,WH,WI,WJ,WK,WL,WM,WN,WO,WP,WQ,WR,WS,WV,WW,Vb,Ve,Vf,Vg,Vr,Vt,Vu,Vw,Vx,Vz,V5,V6,V8,V9,VA,VB,VC,VF,VG,VH,VI,VK,VL,VM,VN,VO,VP,VQ,VR,VT,VU,VV,VX,VY,Ua,Ub,Uc,Ud,Uf,Ui,Ul,Um,Uw,Ux,Uy,U1,U2,U3,U4,U5,U6,U7,UC,UD,UO,UP,Te,Tf,Tg,Tj,Tk,Tq,Tv,Tw,Tx,Ty,Tz,T3,T4,T5,T6,T9,TA,TB,TC,TH,Sw,SD,SE,SF,g6]
      tactic =>
        unfold x22l0 at p1 ⊢
        dsimp only at p1
        rw [loop_rule m (fun i => [.pt 0 0,kR l.ks,I l.ks.length,I (i : Nat)]) (fun _ => hL l)]
        · rw [p1]
          exact p2
        · (sym => (simp [Za,Zb,Zf,Zg,Zh,Zj,Zl,Zm,Zn,Zu,Zy,Z2,Z4,Z6,ZE,ZG,ZO,ZP,ZT,ZU,ZX,ZZ,Yb,Yr,Ys,Yu,Y1,YQ,YT,YV,YY,Xe,Xf,Xg,Xo,Xp,Xq,Xs,Xu,X0,Wc,We,Wg,Wn,Wy,Wz,W0,W4,W5,W6,W7,W8,W9,WA,WE,WF,WH,WI,WJ,WK,WL,WM,WN,WO,WP,WQ,WR,WS,WV,WW,Vb,Ve,Vf,Vg,Vr,Vt,Vu,Vw,Vx,Vz,V5,V6,V8,V9,VA,VB,VC,VF,VG,VH,VI,VK,VL,VM,VN,VO,VP,VQ,VR,VT,VU,VV,VX,VY,Ua,Ub,Uc,Ud,Uf,Ui,Ul,Um,Uw,Ux,Uy,U1,U2,U3,U4,U5,U6,U7,UC,UD,UO,UP,Te,Tf,Tg,Tj,Tk,Tq,Tv,Tw,Tx,Ty,Tz,T3,T4,T5,T6,T9,TA,TB,TC,TH,Sw,SD,SE,SF]; all_goals tactic => exact rfl))
        · intro i hi
          exact round22a (by omega) (by omega) (m2 i hi)
        · rw [p1]
          rfl
section
variable {l : Li}
end
end Go.Proofs.YtpbeclkpohehgaaDoor
namespace Go.Proofs.YtpbeclkpohehgaaDoor
open Go Go.DL
set_option maxRecDepth 100000
set_option maxHeartbeats 2000000

def bT (t : List Int) (b : Nat → Nat) : Nat → Nat → Nat
  | 0 => b
  | i + 1 => fun x => if x = (t.getD i 0).toNat then allT t 0 i else bT t b i x
def bA (T : List (List Int)) : Nat → Nat → Nat
  | 0 => fun _ => 0
  | j + 1 => bT (T.getD j []) (bA T j) (T.getD j []).length
def behF (T : List (List Int)) : Nat → Nat := bA T T.length

def yC (l : Li) (b : Nat → Nat) (m : Nat) : List AV := [kR l.ks,lR l.ls,tR l.ts,I l.lo,I l.hi,U (b 0),U (b 1),U (b 2),U (b 3),U (b 4),U (b 5),U (b 6),U (b 7),U (b 8),U (b 9),.mp m]
def yM (l : Li) (b : Nat → Nat) : Option Nat → List AV
  | some c => yC l b c
  | none => [kR l.ks,lR l.ls,tR l.ts,I l.lo,I l.hi,U (b 0),U (b 1),U (b 2),U (b 3),U (b 4),U (b 5),U (b 6),U (b 7),U (b 8),U (b 9),.any]
section
variable {l : Li} {b : Nat → Nat} {m : Nat}
theorem yC_nm : nmL (yC l b m) = [m] := rfl
theorem yC_rn {s : Nat → Option Nat} : rnL s (yC l b m) = yM l b (s m) := by
  unfold yC yM
  simp only [rnL,rnA]
  cases s m <;> rfl
theorem yM_s {c : Nat} : yM l b (some c) = yC l b c := rfl
theorem yC_gr : grL (yC l b m) = false := rfl
theorem yC_sl : slL (yC l b m) = [] := rfl
theorem yC_fz {c : Nat} {cs : List AV} : fzL c cs (yC l b m) = yC l b m := rfl
theorem yC_len : (yC l b m).length = 16 := rfl
theorem yC_0 : (yC l b m)[0]? = some (kR l.ks) := rfl
theorem yC_1 : (yC l b m)[1]? = some (lR l.ls) := rfl
theorem yC_2 : (yC l b m)[2]? = some (tR l.ts) := rfl
theorem yC_3 : (yC l b m)[3]? = some (I l.lo) := rfl
theorem yC_4 : (yC l b m)[4]? = some (I l.hi) := rfl
theorem yC_15 : (yC l b m)[15]? = some (.mp m) := rfl
theorem yC_b {k : Nat} (h : k < 10) : (yC l b m)[5 + k]? = some (U (b k)) := by
  match k,h with
  | 0,_ => rfl
  | 1,_ => rfl
  | 2,_ => rfl
  | 3,_ => rfl
  | 4,_ => rfl
  | 5,_ => rfl
  | 6,_ => rfl
  | 7,_ => rfl
  | 8,_ => rfl
  | 9,_ => rfl
theorem yC_set {k a : Nat} (h : k < 10) : splice (yC l b m) (5 + k) [U a] = yC l (fun x => if x = k then a else b x) m := by
  match k,h with
  | 0,_ => rfl
  | 1,_ => rfl
  | 2,_ => rfl
  | 3,_ => rfl
  | 4,_ => rfl
  | 5,_ => rfl
  | 6,_ => rfl
  | 7,_ => rfl
  | 8,_ => rfl
  | 9,_ => rfl
theorem same_rI : ∀ t : List Int,sameR (t.map fun v => [I v]) (t.map fun v => [I v]) = true := fun t => same_int fun r hr c hc => by
  simp only [List.mem_map] at hr
  obtain ⟨v,_,rfl⟩ := hr
  simp only [List.mem_singleton] at hc
  exact ⟨v,hc⟩
theorem same_rS : ∀ k : List St,sameR (k.map St.row) (k.map St.row) = true := fun t => same_int fun r hr c hc => by
  simp only [List.mem_map] at hr
  obtain ⟨v,_,rfl⟩ := hr
  simp only [List.mem_cons,List.not_mem_nil,or_false] at hc
  rcases hc with rfl | rfl <;> exact ⟨_,rfl⟩
theorem same_rL : ∀ k : List Ld,sameR (k.map Ld.row) (k.map Ld.row) = true := fun t => same_int fun r hr c hc => by
  simp only [List.mem_map] at hr
  obtain ⟨v,_,rfl⟩ := hr
  simp only [List.mem_cons,List.not_mem_nil,or_false] at hc
  rcases hc with rfl | rfl | rfl | rfl | rfl <;> exact ⟨_,rfl⟩
theorem same_tR : ∀ T : List (List Int),sameR (T.map fun t => [rI t]) (T.map fun t => [rI t]) = true
  | [] => rfl
  | t :: r => by
    rw [List.map_cons,sameR,same_tR r]
    simp [sameL,sameA,same_rI t]
theorem same_kR : ∀ T : List (List St),sameR (T.map fun t => [rS t]) (T.map fun t => [rS t]) = true
  | [] => rfl
  | t :: r => by
    rw [List.map_cons,sameR,same_kR r]
    simp [sameL,sameA,same_rS t]
theorem yC_same : sameL (yC l b m) (yC l b m) = true := by
  unfold yC
  simp [sameL,sameA,same_kR,same_rL,same_tR]
end

section
variable {l : Li} {b : Nat → Nat} {t : List Int} {j : Nat}
abbrev hY (l : Li) (b : Nat → Nat) (es : List (AV × AV)) : XH := [some (.blk false (.cells true (yC l b 1))),some (.blk true (.map true es))]
theorem round52 (hn : l.ls.length ≤ 10) {i : Nat} {v : Int} (hv : t[i]? = some v) (ht : t.length ≤ 9223372036854775807) {a : Nat} (ha : a < 2 ^ 10) (he : 0 ≤ v ∧ v < 10) :
    headX 0 [5,8,21,22,23,27,28,29] (execW progX 52 0 none (match x52l0 with | .loop _ a => a | c => c) (envL [5,8,21,22,23,27,28,29] [.pt 0 0,U a,tR l.ts,I l.ts.length,I (j : Nat),rI t,I t.length,I (i : Nat)]) (hY l b [])) =
      some ([.pt 0 0,U (a ||| 2 ^ v.toNat),tR l.ts,I l.ts.length,I (j : Nat),rI t,I t.length,I (i + 1 : Nat)],hY l (fun x => if x = v.toNat then a else b x) []) := by
  have a1 := lt_ix (lt_of hv)
  have a2 := up_ix (lt_of hv) ht
  have n0 : (v < 0) = False := eq_false (by omega)
  have c1 : (0 ≤ v) = True := eq_true (by omega)
  have c2 : (v < 10) = True := eq_true (by omega)
  have o1 := or_u ha (v := v) (by omega)
  have o2 := or_u1 ha (v := v) (by omega)
  have s1 := yC_set (l := l) (b := b) (m := 1) (k := v.toNat) (a := a) (by omega)
  have s2 : (5 + v.toNat + 1 ≤ 16) = True := eq_true (by omega)
  generalize a ||| 2 ^ v.toNat = a' at *
  unfold x52l0
  dsimp only
  (sym => (simp [yC_nm,yC_rn,yM_s,yC_gr,yC_sl,yC_fz,yC_len,yC_0,yC_1,yC_2,yC_3,yC_4,yC_15,yC_same,Za,Zb,Zc,Zf,Zh,Zl,Zm,Zu,Z1,Z2,Z6,Z7,Z8,ZG,ZK,ZL,ZZ,Yg,Yh,Yj,Yn,Yo,Ys,Yv,Yw,YB,YP,YQ,YV,YY,Xe,Xo,Xs,Xu,Wm,Wy,W3,W9,WA,WB,WE,WF,WH,WI,WJ,WL,WN,WO,WP,WQ,WV,WW,WX,Vb,Vc,VL,VM,VN,VO,VP,VU,VV,VW,VX,VY,Ua,Ub,Uc,Ud,Ue,Uf,Ui,Us,Uw,Ux,U2,U3,U4,U5,U6,U7,Th,Ti,Tk,Tl,Tm,Tv,Tw,Ty,T3,T4,T7,TA,TB,TC,TF,TH,S9,a1,a2,hv,n0,c1,c2,o1,o2,s1,s2]; all_goals tactic => exact rfl))
end
structure Good (l : Li) : Prop where
  kinds : kindsE l.ks = 0
  few : l.ls.length ≤ 10
  loads : ∀ i,i < l.ls.length → ldEr l i = 0
  tracks : ∀ j,j < l.ts.length → errT l.ls.length (l.ts.getD j []) (accT l.ts j) = 0
  full : pop (accT l.ts l.ts.length) l.ls.length = l.ls.length
  start : inS l.lo l.hi 0 100000 = true
theorem good_of {l : Li} (h : checkL l = 0) : Good l := by
  unfold checkL at h
  by_cases h1 : kindsE l.ks = 0
  · rw [if_pos h1] at h
    by_cases h2 : 10 < l.ls.length
    · rw [if_pos h2] at h; simp at h
    rw [if_neg h2] at h
    by_cases h3 : firstN (ldEr l) l.ls.length = 0
    · rw [if_pos h3] at h
      by_cases h4 : tracksE l.ls.length l.ts = 0
      · rw [if_pos h4] at h
        cases h5 : inS l.lo l.hi 0 100000 with
        | false => rw [h5] at h; simp at h
        | true =>
          unfold tracksE at h4
          by_cases h6 : firstN (fun j => errT l.ls.length (l.ts.getD j []) (accT l.ts j)) l.ts.length = 0
          · rw [if_pos h6] at h4
            have hp := pop_le (accT l.ts l.ts.length) l.ls.length
            refine ⟨h1,by omega,firstN_0 h3,fun j hj => firstN_0 h6 j hj,?_,h5⟩
            by_cases h7 : pop (accT l.ts l.ts.length) l.ls.length < l.ls.length
            · rw [if_pos h7] at h4; simp at h4
            · omega
          · rw [if_neg h6] at h4
            exact absurd h4 h6
      · rw [if_neg h4] at h
        exact absurd h h4
    · rw [if_neg h3] at h
      exact absurd h h3
  · rw [if_neg h1] at h
    exact absurd h h1
theorem allT_of0 {t : List Int} {n a : Nat} (hn : n ≤ 10) (h : ∀ i,i < t.length → 0 ≤ t.getD i 0 ∧ t.getD i 0 < n) (ha : a < 2 ^ 10) : ∀ m,m ≤ t.length → allT t a m < 2 ^ 10
  | 0,_ => ha
  | m + 1,hm => by
    have := h m (by omega)
    rw [allT]
    exact or_lt (allT_of0 hn h ha m (by omega)) (by omega)
theorem Good.el {l : Li} (g : Good l) {j : Nat} {t : List Int} (ht : l.ts[j]? = some t) {i : Nat} (hi : i < t.length) : 0 ≤ t.getD i 0 ∧ t.getD i 0 < l.ls.length := by
  have h := g.tracks j (lt_of ht)
  rw [getD_of ht] at h
  have h := (errT_0 h).2 i hi
  rcases elE_of (n := l.ls.length) (all := allT t (accT l.ts j) i) (t.getD i 0) with ⟨_,h1,_⟩ | ⟨_,_,_,h4⟩ | ⟨_,h4⟩
  · exact h1
  · rw [h] at h4; simp at h4
  · rw [h] at h4; simp at h4
def w52R (l : Li) : Option (AV × XH) := if checkL l = 0 then some (.tup [.pt 0 0,I 0],hY l (behF l.ts) []) else some (.tup [.nilpt,I (checkL l)],[])
theorem w52 (l : Li) (hf : l.Fit) : runW progX 52 [.agg l.c] [] = w52R l := by
  have e22 := w22 l hf
  unfold w52R
  by_cases h : checkL l = 0
  · rw [if_pos h]
    rw [h] at e22
    have g := good_of h
    have z := Te (n := (l.ts.length : Int))
    have y0 : yC l (fun _ => 0) 1 = [kR l.ks,lR l.ls,tR l.ts,I l.lo,I l.hi,U 0,U 0,U 0,U 0,U 0,U 0,U 0,U 0,U 0,U 0,.mp 1] := rfl
    have rd : ∀ j,j < l.ts.length → headX 0 [5,21,22,23] (execW progX 52 0 none (match x52l1 with | .loop _ a => a | c => c) (envL [5,21,22,23] [.pt 0 0,tR l.ts,I l.ts.length,I (j : Nat)]) (hY l (bA l.ts j) [])) = some ([.pt 0 0,tR l.ts,I l.ts.length,I (j + 1 : Nat)],hY l (bA l.ts (j + 1)) []) := by
      intro j hj
      obtain ⟨t,ht⟩ := at_ix hj
      have b1 := lt_ix hj
      have b2 := up_ix hj hf.ts
      have hth := hf.each t (List.mem_of_getElem? ht)
      have z := Te (n := (t.length : Int))
      have hel := fun i hi => g.el ht (i := i) hi
      have al0 : allT t 0 0 = 0 := rfl
      rw [bA,getD_of ht]
      generalize bA l.ts j = b
      have bt0 : bT t b 0 = b := rfl
      have rdi : ∀ i,i < t.length → headX 0 [5,8,21,22,23,27,28,29] (execW progX 52 0 none (match x52l0 with | .loop _ a => a | c => c) (envL [5,8,21,22,23,27,28,29] [.pt 0 0,U (allT t 0 i),tR l.ts,I l.ts.length,I (j : Nat),rI t,I t.length,I (i : Nat)]) (hY l (bT t b i) [])) = some ([.pt 0 0,U (allT t 0 (i + 1)),tR l.ts,I l.ts.length,I (j : Nat),rI t,I t.length,I (i + 1 : Nat)],hY l (bT t b (i + 1)) []) := by
        intro i hi
        obtain ⟨v,hv⟩ := at_ix hi
        have hv2 := hel i hi
        rw [bT,allT]
        rw [getD_of hv] at hv2 ⊢
        have := g.few
        exact round52 g.few hv hth (allT_of0 g.few hel (by omega) i (by omega)) (by omega)
      unfold x52l1
      dsimp only
      sym =>
        simp [yC_nm,yC_rn,yM_s,yC_gr,yC_sl,yC_fz,yC_len,yC_0,yC_1,yC_2,yC_3,yC_4,yC_15,yC_same,Za,Zb,Zd,Ze,Zf,Zg,Zh,Zj,Zl,Zm,Zn,Zu,Zy,Zz,Z2,Z6,Z8,ZB,ZE,ZG,ZO,ZP,ZT,ZU,ZZ,Yb,Yg,Yh,Yj,Yr,Ys,Yv,Yw,Y1,YN,YQ,YT,YU,YV,YY,YZ,Xb,Xe,Xf,Xg,Xj,Xo,Xq,Xr,Xs,Xu,Xv,Xx,X0,XK,XN,XP,Wc,We,Wf,Wg,Wh,Wj,Wn,Wr,Wy,Wz,W0,W4,W5,W6,W7,W8,W9,WA,WB,WE,WF,WH,WI,WJ,WK,WL,WM,WN,WO,WP,WQ,WR,WS,WV,WW,WX,Vb,Vc,Ve,Vf,Vg,Vr,Vt,Vu,Vw,Vx,Vz,V5,V6,V8,V9,VA,VB,VE,VF,VG,VH,VI,VK,VL,VM,VN,VO,VP,VQ,VR,VT,VU,VV,VW,VX,VY,Ua,Ub,Uc,Ud,Ue,Uf,Ui,Uk,Ul,Um,Us,Uw,Ux,Uy,U1,U2,U3,U4,U5,U6,U7,U8,U9,UC,UD,UE,UF,UG,UH,UO,UP,UU,Te,Tf,Tg,Th,Ti,Tj,Tk,Tq,Tv,Tw,Tx,Ty,Tz,T3,T4,T5,T6,T7,T9,TA,TB,TC,TH,Sw,SD,SE,SF,b1,ht]
        tactic =>
          unfold x52l0
          rw [loop_rule t.length (fun i => [.pt 0 0,U (allT t 0 i),tR l.ts,I l.ts.length,I (j : Nat),rI t,I t.length,I (i : Nat)]) (fun i => hY l (bT t b i) [])]
          · (sym => (simp [yC_nm,yC_rn,yM_s,yC_gr,yC_sl,yC_fz,yC_len,yC_0,yC_1,yC_2,yC_3,yC_4,yC_15,yC_same,Za,Zb,Zd,Ze,Zf,Zg,Zh,Zj,Zl,Zm,Zn,Zu,Zy,Zz,Z2,Z6,Z8,ZB,ZE,ZG,ZO,ZP,ZT,ZU,ZZ,Yb,Yg,Yh,Yj,Yr,Ys,Yv,Yw,Y1,YN,YQ,YT,YU,YV,YY,YZ,Xb,Xe,Xf,Xg,Xj,Xo,Xq,Xr,Xs,Xu,Xv,Xx,X0,XK,XN,XP,Wc,We,Wf,Wg,Wh,Wj,Wn,Wr,Wy,Wz,W0,W4,W5,W6,W7,W8,W9,WA,WB,WE,WF,WH,WI,WJ,WK,WL,WM,WN,WO,WP,WQ,WR,WS,WV,WW,WX,Vb,Vc,Ve,Vf,Vg,Vr,Vt,Vu,Vw,Vx,Vz,V5,V6,V8,V9,VA,VB,VE,VF,VG,VH,VI,VK,VL,VM,VN,VO,VP,VQ,VR,VT,VU,VV,VW,VX,VY,Ua,Ub,Uc,Ud,Ue,Uf,Ui,Uk,Ul,Um,Us,Uw,Ux,Uy,U1,U2,U3,U4,U5,U6,U7,U8,U9,UC,UD,UE,UF,UG,UH,UO,UP,UU,Te,Tf,Tg,Th,Ti,Tj,Tk,Tq,Tv,Tw,Tx,Ty,Tz,T3,T4,T5,T6,T7,T9,TA,TB,TC,TH,Sw,SD,SE,SF,b1,b2,z]; all_goals tactic => exact rfl))
          · (sym => (simp [yC_nm,yC_rn,yM_s,yC_gr,yC_sl,yC_fz,yC_len,yC_0,yC_1,yC_2,yC_3,yC_4,yC_15,yC_same,Za,Zb,Zd,Ze,Zf,Zg,Zh,Zj,Zl,Zm,Zn,Zu,Zy,Zz,Z2,Z6,Z8,ZB,ZE,ZG,ZO,ZP,ZT,ZU,ZZ,Yb,Yg,Yh,Yj,Yr,Ys,Yv,Yw,Y1,YN,YQ,YT,YU,YV,YY,YZ,Xb,Xe,Xf,Xg,Xj,Xo,Xq,Xr,Xs,Xu,Xv,Xx,X0,XK,XN,XP,Wc,We,Wf,Wg,Wh,Wj,Wn,Wr,Wy,Wz,W0,W4,W5,W6,W7,W8,W9,WA,WB,WE,WF,WH,WI,WJ,WK,WL,WM,WN,WO,WP,WQ,WR,WS,WV,WW,WX,Vb,Vc,Ve,Vf,Vg,Vr,Vt,Vu,Vw,Vx,Vz,V5,V6,V8,V9,VA,VB,VE,VF,VG,VH,VI,VK,VL,VM,VN,VO,VP,VQ,VR,VT,VU,VV,VW,VX,VY,Ua,Ub,Uc,Ud,Ue,Uf,Ui,Uk,Ul,Um,Us,Uw,Ux,Uy,U1,U2,U3,U4,U5,U6,U7,U8,U9,UC,UD,UE,UF,UG,UH,UO,UP,UU,Te,Tf,Tg,Th,Ti,Tj,Tk,Tq,Tv,Tw,Tx,Ty,Tz,T3,T4,T5,T6,T7,T9,TA,TB,TC,TH,Sw,SD,SE,SF,al0,bt0]; all_goals tactic => exact rfl))
          · exact rdi
          · (sym => (simp [yC_nm,yC_rn,yM_s,yC_gr,yC_sl,yC_fz,yC_len,yC_0,yC_1,yC_2,yC_3,yC_4,yC_15,yC_same,Za,Zb,Zd,Ze,Zf,Zg,Zh,Zj,Zl,Zm,Zn,Zu,Zy,Zz,Z2,Z6,Z8,ZB,ZE,ZG,ZO,ZP,ZT,ZU,ZZ,Yb,Yg,Yh,Yj,Yr,Ys,Yv,Yw,Y1,YN,YQ,YT,YU,YV,YY,YZ,Xb,Xe,Xf,Xg,Xj,Xo,Xq,Xr,Xs,Xu,Xv,Xx,X0,XK,XN,XP,Wc,We,Wf,Wg,Wh,Wj,Wn,Wr,Wy,Wz,W0,W4,W5,W6,W7,W8,W9,WA,WB,WE,WF,WH,WI,WJ,WK,WL,WM,WN,WO,WP,WQ,WR,WS,WV,WW,WX,Vb,Vc,Ve,Vf,Vg,Vr,Vt,Vu,Vw,Vx,Vz,V5,V6,V8,V9,VA,VB,VE,VF,VG,VH,VI,VK,VL,VM,VN,VO,VP,VQ,VR,VT,VU,VV,VW,VX,VY,Ua,Ub,Uc,Ud,Ue,Uf,Ui,Uk,Ul,Um,Us,Uw,Ux,Uy,U1,U2,U3,U4,U5,U6,U7,U8,U9,UC,UD,UE,UF,UG,UH,UO,UP,UU,Te,Tf,Tg,Th,Ti,Tj,Tk,Tq,Tv,Tw,Tx,Ty,Tz,T3,T4,T5,T6,T7,T9,TA,TB,TC,TH,Sw,SD,SE,SF,z]; all_goals tactic => exact rfl))
    rw [r52 (by simp)]; unfold x52; dsimp only
    sym =>
      simp [yC_nm,yC_rn,yM_s,yC_gr,yC_sl,yC_fz,yC_len,yC_0,yC_1,yC_2,yC_3,yC_4,yC_15,yC_same,Za,Zb,Zd,Ze,Zf,Zg,Zh,Zj,Zl,Zm,Zn,Zu,Zy,Zz,Z2,Z6,Z8,ZB,ZE,ZG,ZO,ZP,ZT,ZU,ZZ,Yb,Yg,Yh,Yj,Yr,Ys,Yv,Yw,Y1,YN,YQ,YT,YU,YV,YY,YZ,Xb,Xe,Xf,Xg,Xj,Xo,Xq,Xr,Xs,Xu,Xv,Xx,X0,XK,XN,XP,Wc,We,Wf,Wg,Wh,Wj,Wn,Wr,Wy,Wz,W0,W4,W5,W6,W7,W8,W9,WA,WB,WE,WF,WH,WI,WJ,WK,WL,WM,WN,WO,WP,WQ,WR,WS,WV,WW,WX,Vb,Vc,Ve,Vf,Vg,Vr,Vt,Vu,Vw,Vx,Vz,V5,V6,V8,V9,VA,VB,VE,VF,VG,VH,VI,VK,VL,VM,VN,VO,VP,VQ,VR,VT,VU,VV,VW,VX,VY,Ua,Ub,Uc,Ud,Ue,Uf,Ui,Uk,Ul,Um,Us,Uw,Ux,Uy,U1,U2,U3,U4,U5,U6,U7,U8,U9,UC,UD,UE,UF,UG,UH,UO,UP,UU,Te,Tf,Tg,Th,Ti,Tj,Tk,Tq,Tv,Tw,Tx,Ty,Tz,T3,T4,T5,T6,T7,T9,TA,TB,TC,TH,Sw,SD,SE,SF,e22]
      tactic =>
        unfold x52l1
        rw [loop_rule l.ts.length (fun j => [.pt 0 0,tR l.ts,I l.ts.length,I (j : Nat)]) (fun j => hY l (bA l.ts j) [])]
        · (sym => (simp [yC_nm,yC_rn,yM_s,yC_gr,yC_sl,yC_fz,yC_len,yC_0,yC_1,yC_2,yC_3,yC_4,yC_15,yC_same,Za,Zb,Zd,Ze,Zf,Zg,Zh,Zj,Zl,Zm,Zn,Zu,Zy,Zz,Z2,Z6,Z8,ZB,ZE,ZG,ZO,ZP,ZT,ZU,ZZ,Yb,Yg,Yh,Yj,Yr,Ys,Yv,Yw,Y1,YN,YQ,YT,YU,YV,YY,YZ,Xb,Xe,Xf,Xg,Xj,Xo,Xq,Xr,Xs,Xu,Xv,Xx,X0,XK,XN,XP,Wc,We,Wf,Wg,Wh,Wj,Wn,Wr,Wy,Wz,W0,W4,W5,W6,W7,W8,W9,WA,WB,WE,WF,WH,WI,WJ,WK,WL,WM,WN,WO,WP,WQ,WR,WS,WV,WW,WX,Vb,Vc,Ve,Vf,Vg,Vr,Vt,Vu,Vw,Vx,Vz,V5,V6,V8,V9,VA,VB,VE,VF,VG,VH,VI,VK,VL,VM,VN,VO,VP,VQ,VR,VT,VU,VV,VW,VX,VY,Ua,Ub,Uc,Ud,Ue,Uf,Ui,Uk,Ul,Um,Us,Uw,Ux,Uy,U1,U2,U3,U4,U5,U6,U7,U8,U9,UC,UD,UE,UF,UG,UH,UO,UP,UU,Te,Tf,Tg,Th,Ti,Tj,Tk,Tq,Tv,Tw,Tx,Ty,Tz,T3,T4,T5,T6,T7,T9,TA,TB,TC,TH,Sw,SD,SE,SF,z,behF.eq_1]; all_goals tactic => exact rfl))
        · (sym => (simp [yC_nm,yC_rn,yM_s,yC_gr,yC_sl,yC_fz,yC_len,yC_0,yC_1,yC_2,yC_3,yC_4,yC_15,yC_same,Za,Zb,Zd,Ze,Zf,Zg,Zh,Zj,Zl,Zm,Zn,Zu,Zy,Zz,Z2,Z6,Z8,ZB,ZE,ZG,ZO,ZP,ZT,ZU,ZZ,Yb,Yg,Yh,Yj,Yr,Ys,Yv,Yw,Y1,YN,YQ,YT,YU,YV,YY,YZ,Xb,Xe,Xf,Xg,Xj,Xo,Xq,Xr,Xs,Xu,Xv,Xx,X0,XK,XN,XP,Wc,We,Wf,Wg,Wh,Wj,Wn,Wr,Wy,Wz,W0,W4,W5,W6,W7,W8,W9,WA,WB,WE,WF,WH,WI,WJ,WK,WL,WM,WN,WO,WP,WQ,WR,WS,WV,WW,WX,Vb,Vc,Ve,Vf,Vg,Vr,Vt,Vu,Vw,Vx,Vz,V5,V6,V8,V9,VA,VB,VE,VF,VG,VH,VI,VK,VL,VM,VN,VO,VP,VQ,VR,VT,VU,VV,VW,VX,VY,Ua,Ub,Uc,Ud,Ue,Uf,Ui,Uk,Ul,Um,Us,Uw,Ux,Uy,U1,U2,U3,U4,U5,U6,U7,U8,U9,UC,UD,UE,UF,UG,UH,UO,UP,UU,Te,Tf,Tg,Th,Ti,Tj,Tk,Tq,Tv,Tw,Tx,Ty,Tz,T3,T4,T5,T6,T7,T9,TA,TB,TC,TH,Sw,SD,SE,SF,bA.eq_1,y0]; all_goals tactic => exact rfl))
        · exact rd
        · (sym => (simp [yC_nm,yC_rn,yM_s,yC_gr,yC_sl,yC_fz,yC_len,yC_0,yC_1,yC_2,yC_3,yC_4,yC_15,yC_same,Za,Zb,Zd,Ze,Zf,Zg,Zh,Zj,Zl,Zm,Zn,Zu,Zy,Zz,Z2,Z6,Z8,ZB,ZE,ZG,ZO,ZP,ZT,ZU,ZZ,Yb,Yg,Yh,Yj,Yr,Ys,Yv,Yw,Y1,YN,YQ,YT,YU,YV,YY,YZ,Xb,Xe,Xf,Xg,Xj,Xo,Xq,Xr,Xs,Xu,Xv,Xx,X0,XK,XN,XP,Wc,We,Wf,Wg,Wh,Wj,Wn,Wr,Wy,Wz,W0,W4,W5,W6,W7,W8,W9,WA,WB,WE,WF,WH,WI,WJ,WK,WL,WM,WN,WO,WP,WQ,WR,WS,WV,WW,WX,Vb,Vc,Ve,Vf,Vg,Vr,Vt,Vu,Vw,Vx,Vz,V5,V6,V8,V9,VA,VB,VE,VF,VG,VH,VI,VK,VL,VM,VN,VO,VP,VQ,VR,VT,VU,VV,VW,VX,VY,Ua,Ub,Uc,Ud,Ue,Uf,Ui,Uk,Ul,Um,Us,Uw,Ux,Uy,U1,U2,U3,U4,U5,U6,U7,U8,U9,UC,UD,UE,UF,UG,UH,UO,UP,UU,Te,Tf,Tg,Th,Ti,Tj,Tk,Tq,Tv,Tw,Tx,Ty,Tz,T3,T4,T5,T6,T7,T9,TA,TB,TC,TH,Sw,SD,SE,SF,z]; all_goals tactic => exact rfl))
  · rw [if_neg h]
    have g := eq_false h
    rw [r52 (by simp)]; unfold x52; dsimp only
    (sym => (simp [yC_nm,yC_rn,yM_s,yC_gr,yC_sl,yC_fz,yC_len,yC_0,yC_1,yC_2,yC_3,yC_4,yC_15,yC_same,Za,Zb,Zd,Ze,Zf,Zg,Zh,Zj,Zl,Zm,Zn,Zu,Zy,Zz,Z2,Z6,Z8,ZB,ZE,ZG,ZO,ZP,ZT,ZU,ZZ,Yb,Yg,Yh,Yj,Yr,Ys,Yv,Yw,Y1,YN,YQ,YT,YU,YV,YY,YZ,Xb,Xe,Xf,Xg,Xj,Xo,Xq,Xr,Xs,Xu,Xv,Xx,X0,XK,XN,XP,Wc,We,Wf,Wg,Wh,Wj,Wn,Wr,Wy,Wz,W0,W4,W5,W6,W7,W8,W9,WA,WB,WE,WF,WH,WI,WJ,WK,WL,WM,WN,WO,WP,WQ,WR,WS,WV,WW,WX,Vb,Vc,Ve,Vf,Vg,Vr,Vt,Vu,Vw,Vx,Vz,V5,V6,V8,V9,VA,VB,VE,VF,VG,VH,VI,VK,VL,VM,VN,VO,VP,VQ,VR,VT,VU,VV,VW,VX,VY,Ua,Ub,Uc,Ud,Ue,Uf,Ui,Uk,Ul,Um,Us,Uw,Ux,Uy,U1,U2,U3,U4,U5,U6,U7,U8,U9,UC,UD,UE,UF,UG,UH,UO,UP,UU,Te,Tf,Tg,Th,Ti,Tj,Tk,Tq,Tv,Tw,Tx,Ty,Tz,T3,T4,T5,T6,T7,T9,TA,TB,TC,TH,Sw,SD,SE,SF,e22,g]; all_goals tactic => exact rfl))
end Go.Proofs.YtpbeclkpohehgaaDoor
namespace Go.Proofs.YtpbeclkpohehgaaDoor
open Go Go.DL
set_option maxRecDepth 100000
set_option maxHeartbeats 2000000

def ordE (n : Nat) (b : Nat → Nat) (a : Nat) (v : Int) : Int := if btw 0 v ((n : Int) - 1) then (if a.testBit v.toNat then 6 else if dif (b v.toNat) a = 0 then 0 else 21) else 5
def orderE (n : Nat) (b : Nat → Nat) (o : List Int) : Int := if o.length = n then firstN (fun i => ordE n b (allT o 0 i) (o.getD i 0)) o.length else 3
theorem ordE_of {n : Nat} {b : Nat → Nat} {a : Nat} (v : Int) : (btw 0 v ((n : Int) - 1) = true ∧ (0 ≤ v ∧ v < n) ∧ a.testBit v.toNat = false ∧ dif (b v.toNat) a = 0 ∧ ordE n b a v = 0) ∨ (btw 0 v ((n : Int) - 1) = true ∧ (0 ≤ v ∧ v < n) ∧ a.testBit v.toNat = false ∧ ¬ dif (b v.toNat) a = 0 ∧ ordE n b a v = 21) ∨
    (btw 0 v ((n : Int) - 1) = true ∧ (0 ≤ v ∧ v < n) ∧ a.testBit v.toNat = true ∧ ordE n b a v = 6) ∨ (btw 0 v ((n : Int) - 1) = false ∧ ordE n b a v = 5) := by
  unfold ordE
  cases h : btw 0 v ((n : Int) - 1)
  · simp
  · have := btwF.1 h
    cases a.testBit v.toNat
    · by_cases hd : dif (b v.toNat) a = 0
      · exact .inl ⟨rfl,by omega,rfl,hd,by simp [hd]⟩
      · exact .inr (.inl ⟨rfl,by omega,rfl,hd,by simp [hd]⟩)
    · exact .inr (.inr (.inl ⟨rfl,by omega,rfl,by simp⟩))
theorem allT_lt2 {n : Nat} {b : Nat → Nat} (hn : n ≤ 10) {o : List Int} : ∀ m,(∀ i,i < m → ordE n b (allT o 0 i) (o.getD i 0) = 0) → allT o 0 m < 2 ^ 10
  | 0,_ => by show 0 < 2 ^ 10; omega
  | m + 1,h => by
    have ih := allT_lt2 hn m fun i hi => h i (by omega)
    rcases ordE_of (n := n) (b := b) (a := allT o 0 m) (o.getD m 0) with ⟨_,h1,_⟩ | ⟨_,_,_,_,h4⟩ | ⟨_,_,_,h4⟩ | ⟨_,h4⟩
    · rw [allT]
      exact or_lt ih (by omega)
    all_goals (rw [h m (by omega)] at h4; simp at h4)
section
variable {l : Li} {b : Nat → Nat} {o : List Int} {es : List (AV × AV)} {a : Nat}
theorem neg_dif {k : IntKind} (hk : big k) {x a : Nat} (hx : x < 2 ^ 63) (ha : a < 2 ^ 63) (h : dif x a = 0) : (bitsA .andNot k (x : Int) (a : Int) = 0) = True := by
  rw [bits_dif hk hx ha,h]; exact eq_true rfl
theorem pos_dif {k : IntKind} (hk : big k) {x a : Nat} (hx : x < 2 ^ 63) (ha : a < 2 ^ 63) (h : ¬ dif x a = 0) : (bitsA .andNot k (x : Int) (a : Int) = 0) = False := by
  rw [bits_dif hk hx ha]; exact eq_false (by omega)
theorem round53 (hn : l.ls.length ≤ 10) (ha : a < 2 ^ 10) (hb : ∀ k,b k < 2 ^ 10) {i : Nat} {v : Int} (hv : o[i]? = some v) (ho : o.length ≤ 10) (he : ordE l.ls.length b a v = 0) :
    headX 2 [0,5,17,18,19] (execW progX 53 2 none (match x53l0 with | .loop _ a => a | c => c) (envL [0,5,17,18,19] [.pt 0 0,U a,rI o,I o.length,I (i : Nat)]) (hY l b es)) =
      some ([.pt 0 0,U (a ||| 2 ^ v.toNat),rI o,I o.length,I (i + 1 : Nat)],hY l b es) := by
  have a1 := lt_ix (lt_of hv)
  have a2 := up_ix (lt_of hv) (by omega)
  have a3 : IntKind.i64.wrap ((l.ls.length : Int) - 1) = (l.ls.length : Int) - 1 := wrap_ok (by omega) (by omega)
  rcases ordE_of (n := l.ls.length) (b := b) (a := a) v with ⟨h1,h2,h3,h4,h5⟩ | ⟨_,_,_,_,h4⟩ | ⟨_,_,_,h4⟩ | ⟨_,h4⟩
  · have n0 : (v < 0) = False := eq_false (by omega)
    have c1 : (0 ≤ v) = True := eq_true (by omega)
    have c2 : (v < 10) = True := eq_true (by omega)
    have e := w83 (a := a) (lo_63 ha) (i := v) (j := v.toNat) (by omega) (by omega)
    have o1 := or_u ha (v := v) (by omega)
    have o2 := or_u1 ha (v := v) (by omega)
    have s1 := yC_b (l := l) (b := b) (m := 1) (k := v.toNat) (by omega)
    have d1 := neg_dif big_u (lo_63 (hb v.toNat)) (lo_63 ha) h4
    rw [h3] at e
    generalize a ||| 2 ^ v.toNat = a' at *
    unfold x53l0
    dsimp only
    (sym => (simp [yC_nm,yC_rn,yM_s,yC_gr,yC_sl,yC_fz,yC_len,yC_0,yC_1,yC_2,yC_3,yC_4,yC_15,yC_same,Za,Zb,Zf,Zh,Zl,Zm,Zu,Z1,Z2,Z4,Z6,Z7,Z8,ZE,ZG,ZO,ZP,ZT,ZU,ZX,ZZ,Yb,Yg,Yh,Yj,Yk,Yn,Yo,Yr,Ys,Yv,Yw,YB,YP,YQ,YV,YY,Xo,Xp,Xs,Xu,Wy,Wz,W0,W7,W9,WA,WF,WH,WJ,WK,WL,WM,WN,WO,WP,WR,WS,WV,WW,WX,Va,Vb,Vc,Ve,Vf,Vg,VL,VM,VN,VO,VP,VQ,VU,VV,VW,VX,VY,VZ,Ua,Ub,Uc,Ud,Ue,Uf,Ul,Us,Uw,Ux,U1,U2,U3,U4,U5,Tf,Tg,Th,Ti,Tk,Tv,Tw,Ty,T3,T4,T7,TA,TB,TC,TF,S9,SC,a1,a2,a3,hv,w58,h1,n0,c1,c2,e,o1,o2,s1,d1]; all_goals tactic => exact rfl))
  all_goals (rw [h4] at he; simp at he)
theorem left53 (hn : l.ls.length ≤ 10) (ha : a < 2 ^ 10) (hb : ∀ k,b k < 2 ^ 10) {i : Nat} {v : Int} (hv : o[i]? = some v) (ho : o.length ≤ 10) (he : ordE l.ls.length b a v ≠ 0) :
    ∃ e h,execW progX 53 2 none (match x53l0 with | .loop _ a => a | c => c) (envL [0,5,17,18,19] [.pt 0 0,U a,rI o,I o.length,I (i : Nat)]) (hY l b es) = some (.ret,e,h) ∧ retX [(4,none)] false 2 (some (.ret,e,h)) = some (I (ordE l.ls.length b a v),hY l b es) := by
  have a1 := lt_ix (lt_of hv)
  have a3 : IntKind.i64.wrap ((l.ls.length : Int) - 1) = (l.ls.length : Int) - 1 := wrap_ok (by omega) (by omega)
  have c1 := pad
  have c2 := pad
  have e := pad
  have s1 := pad
  have d1 := pad
  refine ret_of ?_ ?_
  all_goals unfold x53l0
  all_goals dsimp only
  all_goals rcases ordE_of (n := l.ls.length) (b := b) (a := a) v with ⟨_,_,_,_,h4⟩ | ⟨h1,h2,h3,h4,h5⟩ | ⟨h1,h2,h3,h5⟩ | ⟨h1,h5⟩
  all_goals first | exact absurd h4 he | skip
  all_goals try rw [h5]
  · have c1 : (0 ≤ v) = True := eq_true (by omega)
    have c2 : (v < 10) = True := eq_true (by omega)
    have e := w83 (a := a) (lo_63 ha) (i := v) (j := v.toNat) (by omega) (by omega)
    have s1 := yC_b (l := l) (b := b) (m := 1) (k := v.toNat) (by omega)
    have d1 := pos_dif big_u (lo_63 (hb v.toNat)) (lo_63 ha) h4
    rw [h3] at e
    (sym => (simp [yC_nm,yC_rn,yM_s,yC_gr,yC_sl,yC_fz,yC_len,yC_0,yC_1,yC_2,yC_3,yC_4,yC_15,yC_same,Za,Zb,Zf,Zh,Zl,Zm,Zu,Z1,Z2,Z4,Z6,Z7,Z8,ZE,ZG,ZO,ZP,ZT,ZU,ZX,ZZ,Yb,Yg,Yh,Yk,Yr,Ys,Yv,Yw,YB,YP,YQ,Xo,Xp,X0,Wc,Wy,Wz,W0,W7,W9,WA,WF,WH,WJ,WK,WL,WM,WN,WO,WP,WR,WS,WV,WW,WX,Va,Vb,Vc,Ve,Vf,Vg,Vr,V5,V6,V8,V9,VA,VB,VC,VF,VG,VH,VI,VL,VO,VP,VQ,VS,VU,VV,VX,VY,VZ,Ua,Ub,Uc,Ud,Ue,Uf,Ul,Um,Us,Uw,Ux,Uy,U1,U2,U3,U4,U5,Tf,Tg,Th,Ti,Tk,Tv,Tw,Tx,Ty,T3,T4,T6,T8,TB,TC,TF,Sw,S9,SC,a1,a3,hv,w58,h1,c1,c2,e,s1,d1]; all_goals tactic => exact rfl))
  · have e := w83 (a := a) (lo_63 ha) (i := v) (j := v.toNat) (by omega) (by omega)
    rw [h3] at e
    (sym => (simp [yC_nm,yC_rn,yM_s,yC_gr,yC_sl,yC_fz,yC_len,yC_0,yC_1,yC_2,yC_3,yC_4,yC_15,yC_same,Za,Zb,Zf,Zh,Zl,Zm,Zu,Z1,Z2,Z4,Z6,Z7,Z8,ZE,ZG,ZO,ZP,ZT,ZU,ZX,ZZ,Yb,Yg,Yh,Yk,Yr,Ys,Yv,Yw,YB,YP,YQ,Xo,Xp,X0,Wc,Wy,Wz,W0,W7,W9,WA,WF,WH,WJ,WK,WL,WM,WN,WO,WP,WR,WS,WV,WW,WX,Va,Vb,Vc,Ve,Vf,Vg,Vr,V5,V6,V8,V9,VA,VB,VC,VF,VG,VH,VI,VL,VO,VP,VQ,VS,VU,VV,VX,VY,VZ,Ua,Ub,Uc,Ud,Ue,Uf,Ul,Um,Us,Uw,Ux,Uy,U1,U2,U3,U4,U5,Tf,Tg,Th,Ti,Tk,Tv,Tw,Tx,Ty,T3,T4,T6,T8,TB,TC,TF,Sw,S9,SC,a1,a3,hv,w58,h1,e]; all_goals tactic => exact rfl))
  · (sym => (simp [yC_nm,yC_rn,yM_s,yC_gr,yC_sl,yC_fz,yC_len,yC_0,yC_1,yC_2,yC_3,yC_4,yC_15,yC_same,Za,Zb,Zf,Zh,Zl,Zm,Zu,Z1,Z2,Z4,Z6,Z7,Z8,ZE,ZG,ZO,ZP,ZT,ZU,ZX,ZZ,Yb,Yg,Yh,Yk,Yr,Ys,Yv,Yw,YB,YP,YQ,Xo,Xp,X0,Wc,Wy,Wz,W0,W7,W9,WA,WF,WH,WJ,WK,WL,WM,WN,WO,WP,WR,WS,WV,WW,WX,Va,Vb,Vc,Ve,Vf,Vg,Vr,V5,V6,V8,V9,VA,VB,VC,VF,VG,VH,VI,VL,VO,VP,VQ,VS,VU,VV,VX,VY,VZ,Ua,Ub,Uc,Ud,Ue,Uf,Ul,Um,Us,Uw,Ux,Uy,U1,U2,U3,U4,U5,Tf,Tg,Th,Ti,Tk,Tv,Tw,Tx,Ty,T3,T4,T6,T8,TB,TC,TF,Sw,S9,SC,a1,a3,hv,w58,h1]; all_goals tactic => exact rfl))
  · have c1 : (0 ≤ v) = True := eq_true (by omega)
    have c2 : (v < 10) = True := eq_true (by omega)
    have e := w83 (a := a) (lo_63 ha) (i := v) (j := v.toNat) (by omega) (by omega)
    have s1 := yC_b (l := l) (b := b) (m := 1) (k := v.toNat) (by omega)
    have d1 := pos_dif big_u (lo_63 (hb v.toNat)) (lo_63 ha) h4
    rw [h3] at e
    (sym => (simp [yC_nm,yC_rn,yM_s,yC_gr,yC_sl,yC_fz,yC_len,yC_0,yC_1,yC_2,yC_3,yC_4,yC_15,yC_same,Za,Zb,Zf,Zh,Zl,Zm,Zu,Z1,Z2,Z4,Z6,Z7,Z8,ZE,ZG,ZO,ZP,ZT,ZU,ZX,ZZ,Yb,Yg,Yh,Yk,Yr,Ys,Yv,Yw,YB,YP,YQ,Xo,Xp,X0,Wc,Wy,Wz,W0,W7,W9,WA,WF,WH,WJ,WK,WL,WM,WN,WO,WP,WR,WS,WV,WW,WX,Va,Vb,Vc,Ve,Vf,Vg,Vr,V5,V6,V8,V9,VA,VB,VC,VF,VG,VH,VI,VL,VO,VP,VQ,VS,VU,VV,VX,VY,VZ,Ua,Ub,Uc,Ud,Ue,Uf,Ul,Um,Us,Uw,Ux,Uy,U1,U2,U3,U4,U5,Tf,Tg,Th,Ti,Tk,Tv,Tw,Tx,Ty,T3,T4,T6,T8,TB,TC,TF,Sw,S9,SC,a1,a3,hv,w58,h1,c1,c2,e,s1,d1]; all_goals tactic => exact rfl))
  · have e := w83 (a := a) (lo_63 ha) (i := v) (j := v.toNat) (by omega) (by omega)
    rw [h3] at e
    (sym => (simp [yC_nm,yC_rn,yM_s,yC_gr,yC_sl,yC_fz,yC_len,yC_0,yC_1,yC_2,yC_3,yC_4,yC_15,yC_same,Za,Zb,Zf,Zh,Zl,Zm,Zu,Z1,Z2,Z4,Z6,Z7,Z8,ZE,ZG,ZO,ZP,ZT,ZU,ZX,ZZ,Yb,Yg,Yh,Yk,Yr,Ys,Yv,Yw,YB,YP,YQ,Xo,Xp,X0,Wc,Wy,Wz,W0,W7,W9,WA,WF,WH,WJ,WK,WL,WM,WN,WO,WP,WR,WS,WV,WW,WX,Va,Vb,Vc,Ve,Vf,Vg,Vr,V5,V6,V8,V9,VA,VB,VC,VF,VG,VH,VI,VL,VO,VP,VQ,VS,VU,VV,VX,VY,VZ,Ua,Ub,Uc,Ud,Ue,Uf,Ul,Um,Us,Uw,Ux,Uy,U1,U2,U3,U4,U5,Tf,Tg,Th,Ti,Tk,Tv,Tw,Tx,Ty,T3,T4,T6,T8,TB,TC,TF,Sw,S9,SC,a1,a3,hv,w58,h1,e]; all_goals tactic => exact rfl))
  · (sym => (simp [yC_nm,yC_rn,yM_s,yC_gr,yC_sl,yC_fz,yC_len,yC_0,yC_1,yC_2,yC_3,yC_4,yC_15,yC_same,Za,Zb,Zf,Zh,Zl,Zm,Zu,Z1,Z2,Z4,Z6,Z7,Z8,ZE,ZG,ZO,ZP,ZT,ZU,ZX,ZZ,Yb,Yg,Yh,Yk,Yr,Ys,Yv,Yw,YB,YP,YQ,Xo,Xp,X0,Wc,Wy,Wz,W0,W7,W9,WA,WF,WH,WJ,WK,WL,WM,WN,WO,WP,WR,WS,WV,WW,WX,Va,Vb,Vc,Ve,Vf,Vg,Vr,V5,V6,V8,V9,VA,VB,VC,VF,VG,VH,VI,VL,VO,VP,VQ,VS,VU,VV,VX,VY,VZ,Ua,Ub,Uc,Ud,Ue,Uf,Ul,Um,Us,Uw,Ux,Uy,U1,U2,U3,U4,U5,Tf,Tg,Th,Ti,Tk,Tv,Tw,Tx,Ty,T3,T4,T6,T8,TB,TC,TF,Sw,S9,SC,a1,a3,hv,w58,h1]; all_goals tactic => exact rfl))
theorem w53 (hn : l.ls.length ≤ 10) (hb : ∀ k,b k < 2 ^ 10) (o : List Int) : runW progX 53 [.pt 0 0,rI o] (hY l b es) = some (I (orderE l.ls.length b o),hY l b es) := by
  unfold orderE
  by_cases ho : o.length = l.ls.length
  · rw [if_pos ho]
    have g : ((o.length : Int) = (l.ls.length : Int)) = True := eq_true (by omega)
    have z := Te (n := (o.length : Int))
    obtain ⟨q,q1,q2,q3⟩ := firstN_ix (fun i => ordE l.ls.length b (allT o 0 i) (o.getD i 0)) o.length
    have al0 : allT o 0 0 = 0 := rfl
    have rd : ∀ i,i < q → headX 2 [0,5,17,18,19] (execW progX 53 2 none (match x53l0 with | .loop _ a => a | c => c) (envL [0,5,17,18,19] [.pt 0 0,U (allT o 0 i),rI o,I o.length,I (i : Nat)]) (hY l b es)) =
      some ([.pt 0 0,U (allT o 0 (i + 1)),rI o,I o.length,I (i + 1 : Nat)],hY l b es) := by
      intro i hi
      obtain ⟨v,hv⟩ := at_ix (l := o) (i := i) (by omega)
      have e0 := q2 i hi
      rw [getD_of hv] at e0
      rw [allT,getD_of hv]
      exact round53 hn (allT_lt2 hn i fun i hi => q2 i (by omega)) hb hv (by omega) e0
    rcases q3 with ⟨rfl,e⟩ | ⟨q3,q4,e⟩
    · rw [e]
      rw [r53 (by simp)]; unfold x53; dsimp only
      sym =>
        simp [yC_nm,yC_rn,yM_s,yC_gr,yC_sl,yC_fz,yC_len,yC_0,yC_1,yC_2,yC_3,yC_4,yC_15,yC_same,Za,Zb,Zf,Zh,Zl,Zm,Zu,Z1,Z2,Z6,ZE,ZG,ZZ,Yb,Yr,Ys,Y1,YP,YQ,YV,YY,Xo,Xs,Xu,X0,Wc,Wg,Wh,Wy,Wz,W0,W8,WA,WF,WH,WJ,WL,WM,WN,WO,WP,WV,WW,WX,Va,Vb,Vc,Vr,V5,V6,V8,V9,VA,VB,VC,VF,VG,VH,VI,VK,VL,VM,VN,VO,VP,VQ,VR,VT,VU,VV,VW,VX,VY,VZ,Ua,Ub,Uc,Ud,Ul,Um,Uw,Ux,Uy,U1,U2,U3,U4,U5,UC,UD,Te,Tf,Tg,Tk,Tv,Tw,Tx,Ty,Tz,T3,T4,T5,T6,T9,TA,TB,TC,Sw,g]
        tactic =>
          unfold x53l0
          rw [loop_rule o.length (fun i => [.pt 0 0,U (allT o 0 i),rI o,I o.length,I (i : Nat)]) (fun _ => hY l b es)]
          · (sym => (simp [yC_nm,yC_rn,yM_s,yC_gr,yC_sl,yC_fz,yC_len,yC_0,yC_1,yC_2,yC_3,yC_4,yC_15,yC_same,Za,Zb,Zf,Zh,Zl,Zm,Zu,Z1,Z2,Z6,ZE,ZG,ZZ,Yb,Yr,Ys,Y1,YP,YQ,YV,YY,Xo,Xs,Xu,X0,Wc,Wg,Wh,Wy,Wz,W0,W8,WA,WF,WH,WJ,WL,WM,WN,WO,WP,WV,WW,WX,Va,Vb,Vc,Vr,V5,V6,V8,V9,VA,VB,VC,VF,VG,VH,VI,VK,VL,VM,VN,VO,VP,VQ,VR,VT,VU,VV,VW,VX,VY,VZ,Ua,Ub,Uc,Ud,Ul,Um,Uw,Ux,Uy,U1,U2,U3,U4,U5,UC,UD,Te,Tf,Tg,Tk,Tv,Tw,Tx,Ty,Tz,T3,T4,T5,T6,T9,TA,TB,TC,Sw,z]; all_goals tactic => exact rfl))
          · (sym => (simp [yC_nm,yC_rn,yM_s,yC_gr,yC_sl,yC_fz,yC_len,yC_0,yC_1,yC_2,yC_3,yC_4,yC_15,yC_same,Za,Zb,Zf,Zh,Zl,Zm,Zu,Z1,Z2,Z6,ZE,ZG,ZZ,Yb,Yr,Ys,Y1,YP,YQ,YV,YY,Xo,Xs,Xu,X0,Wc,Wg,Wh,Wy,Wz,W0,W8,WA,WF,WH,WJ,WL,WM,WN,WO,WP,WV,WW,WX,Va,Vb,Vc,Vr,V5,V6,V8,V9,VA,VB,VC,VF,VG,VH,VI,VK,VL,VM,VN,VO,VP,VQ,VR,VT,VU,VV,VW,VX,VY,VZ,Ua,Ub,Uc,Ud,Ul,Um,Uw,Ux,Uy,U1,U2,U3,U4,U5,UC,UD,Te,Tf,Tg,Tk,Tv,Tw,Tx,Ty,Tz,T3,T4,T5,T6,T9,TA,TB,TC,Sw,al0]; all_goals tactic => exact rfl))
          · exact rd
          · (sym => (simp [yC_nm,yC_rn,yM_s,yC_gr,yC_sl,yC_fz,yC_len,yC_0,yC_1,yC_2,yC_3,yC_4,yC_15,yC_same,Za,Zb,Zf,Zh,Zl,Zm,Zu,Z1,Z2,Z6,ZE,ZG,ZZ,Yb,Yr,Ys,Y1,YP,YQ,YV,YY,Xo,Xs,Xu,X0,Wc,Wg,Wh,Wy,Wz,W0,W8,WA,WF,WH,WJ,WL,WM,WN,WO,WP,WV,WW,WX,Va,Vb,Vc,Vr,V5,V6,V8,V9,VA,VB,VC,VF,VG,VH,VI,VK,VL,VM,VN,VO,VP,VQ,VR,VT,VU,VV,VW,VX,VY,VZ,Ua,Ub,Uc,Ud,Ul,Um,Uw,Ux,Uy,U1,U2,U3,U4,U5,UC,UD,Te,Tf,Tg,Tk,Tv,Tw,Tx,Ty,Tz,T3,T4,T5,T6,T9,TA,TB,TC,Sw,z]; all_goals tactic => exact rfl))
    · rw [e]
      obtain ⟨v,hv⟩ := at_ix q3
      rw [getD_of hv] at q4 ⊢
      obtain ⟨eo,ho2,p1,p2⟩ := left53 (l := l) (es := es) hn (allT_lt2 hn q q2) hb hv (by omega) q4
      rw [r53 (by simp)]; unfold x53; dsimp only
      sym =>
        simp [yC_nm,yC_rn,yM_s,yC_gr,yC_sl,yC_fz,yC_len,yC_0,yC_1,yC_2,yC_3,yC_4,yC_15,yC_same,Za,Zb,Zf,Zh,Zl,Zm,Zu,Z1,Z2,Z6,ZE,ZG,ZZ,Yb,Yr,Ys,Y1,YP,YQ,YV,YY,Xo,Xs,Xu,X0,Wc,Wg,Wh,Wy,Wz,W0,W8,WA,WF,WH,WJ,WL,WM,WN,WO,WP,WV,WW,WX,Va,Vb,Vc,Vr,V5,V6,V8,V9,VA,VB,VC,VF,VG,VH,VI,VK,VL,VM,VN,VO,VP,VQ,VR,VT,VU,VV,VW,VX,VY,VZ,Ua,Ub,Uc,Ud,Ul,Um,Uw,Ux,Uy,U1,U2,U3,U4,U5,UC,UD,Te,Tf,Tg,Tk,Tv,Tw,Tx,Ty,Tz,T3,T4,T5,T6,T9,TA,TB,TC,Sw,g]
        tactic =>
          unfold x53l0 at p1 ⊢
          dsimp only at p1
          rw [loop_rule q (fun i => [.pt 0 0,U (allT o 0 i),rI o,I o.length,I (i : Nat)]) (fun _ => hY l b es)]
          · rw [p1]
            exact p2
          · (sym => (simp [yC_nm,yC_rn,yM_s,yC_gr,yC_sl,yC_fz,yC_len,yC_0,yC_1,yC_2,yC_3,yC_4,yC_15,yC_same,Za,Zb,Zf,Zh,Zl,Zm,Zu,Z1,Z2,Z6,ZE,ZG,ZZ,Yb,Yr,Ys,Y1,YP,YQ,YV,YY,Xo,Xs,Xu,X0,Wc,Wg,Wh,Wy,Wz,W0,W8,WA,WF,WH,WJ,WL,WM,WN,WO,WP,WV,WW,WX,Va,Vb,Vc,Vr,V5,V6,V8,V9,VA,VB,VC,VF,VG,VH,VI,VK,VL,VM,VN,VO,VP,VQ,VR,VT,VU,VV,VW,VX,VY,VZ,Ua,Ub,Uc,Ud,Ul,Um,Uw,Ux,Uy,U1,U2,U3,U4,U5,UC,UD,Te,Tf,Tg,Tk,Tv,Tw,Tx,Ty,Tz,T3,T4,T5,T6,T9,TA,TB,TC,Sw,al0]; all_goals tactic => exact rfl))
          · exact rd
          · rw [p1]
            rfl
  · rw [if_neg ho]
    have g : ((o.length : Int) = (l.ls.length : Int)) = False := eq_false (by omega)
    rw [r53 (by simp)]; unfold x53; dsimp only
    (sym => (simp [yC_nm,yC_rn,yM_s,yC_gr,yC_sl,yC_fz,yC_len,yC_0,yC_1,yC_2,yC_3,yC_4,yC_15,yC_same,Za,Zb,Zf,Zh,Zl,Zm,Zu,Z1,Z2,Z6,ZE,ZG,ZZ,Yb,Yr,Ys,Y1,YP,YQ,YV,YY,Xo,Xs,Xu,X0,Wc,Wg,Wh,Wy,Wz,W0,W8,WA,WF,WH,WJ,WL,WM,WN,WO,WP,WV,WW,WX,Va,Vb,Vc,Vr,V5,V6,V8,V9,VA,VB,VC,VF,VG,VH,VI,VK,VL,VM,VN,VO,VP,VQ,VR,VT,VU,VV,VW,VX,VY,VZ,Ua,Ub,Uc,Ud,Ul,Um,Uw,Ux,Uy,U1,U2,U3,U4,U5,UC,UD,Te,Tf,Tg,Tk,Tv,Tw,Tx,Ty,Tz,T3,T4,T5,T6,T9,TA,TB,TC,Sw,g]; all_goals tactic => exact rfl))
end
end Go.Proofs.YtpbeclkpohehgaaDoor
namespace Go.Proofs.YtpbeclkpohehgaaDoor
open Go Go.DL
set_option maxRecDepth 100000
set_option maxHeartbeats 2000000

def bL (n : Nat) (b : Nat → Nat) : List Int := (List.range n).map fun k => (b k : Int)
section
variable {l : Li} {b : Nat → Nat} {t : List Int} {j : Nat}
abbrev hR (l : Li) (b : Nat → Nat) : XH := [some (.blk true (.cells true l.c)),some (.blk true (.cells true ((bL l.ls.length b).map I)))]
end
section
variable {l : Li} {b : Nat → Nat} {o : List Int} {a : Nat}
end
theorem bT_lt {t : List Int} {b : Nat → Nat} (hb : ∀ k,b k < 2 ^ 10) (ha : ∀ i,i ≤ t.length → allT t 0 i < 2 ^ 10) : ∀ i,i ≤ t.length → ∀ k,bT t b i k < 2 ^ 10
  | 0,_,k => hb k
  | i + 1,hi,k => by
    rw [bT]
    show (if k = (t.getD i 0).toNat then allT t 0 i else bT t b i k) < 2 ^ 10
    split
    · exact ha i (by omega)
    · exact bT_lt hb ha i (by omega) k
theorem bA_lt {l : Li} (g : Good l) : ∀ j,j ≤ l.ts.length → ∀ k,bA l.ts j k < 2 ^ 10
  | 0,_,k => by show 0 < 2 ^ 10; omega
  | j + 1,hj,k => by
    obtain ⟨t,ht⟩ := at_ix (l := l.ts) (i := j) (by omega)
    rw [bA,getD_of ht]
    exact bT_lt (bA_lt g j (by omega)) (fun i hi => allT_of0 g.few (fun i hi => g.el ht hi) (by omega) i hi) _ (Nat.le_refl _) k
theorem beh_lt {l : Li} (g : Good l) (k : Nat) : behF l.ts k < 2 ^ 10 := bA_lt g _ (Nat.le_refl _) k
end Go.Proofs.YtpbeclkpohehgaaDoor
namespace Go.Proofs.YtpbeclkpohehgaaDoor
open Go Go.DL
set_option maxRecDepth 100000
set_option maxHeartbeats 2000000

def soN (k : List St) (m : Int) : Nat → Int
  | 0 => 0
  | i + 1 => if (k.getD i ⟨0,0⟩).a ≤ m then (k.getD i ⟨0,0⟩).s else soN k m i
def sourF (k : List St) (m : Int) : Int := soN k m k.length
theorem soN_up {k : List St} {m : Int} {i : Nat} {x : St} (hx : k[i]? = some x) : ((x.a ≤ m) = True ∧ soN k m (i + 1) = x.s) ∨ ((x.a ≤ m) = False ∧ soN k m (i + 1) = soN k m i) := by
  rw [soN,getD_of hx]
  by_cases h : x.a ≤ m
  · exact .inl ⟨eq_true h,if_pos h⟩
  · exact .inr ⟨eq_false h,if_neg h⟩
theorem w54 (k : List St) (m : Int) (hk : k.length ≤ 8) : runW progX 54 [rS k,I m] [] = some (I (sourF k m),[]) := by
  have z := Te (n := (k.length : Int))
  have s0 : soN k m 0 = 0 := rfl
  have sf : soN k m k.length = sourF k m := rfl
  have rd : ∀ i,i < k.length → headX 0 [1,5,8,9,10] (execW progX 54 0 none (match x54l0 with | .loop _ a => a | c => c) (envL [1,5,8,9,10] [I m,I (soN k m i),rS k,I k.length,I (i : Nat)]) []) = some ([I m,I (soN k m (i + 1)),rS k,I k.length,I (i + 1 : Nat)],[]) := by
    intro i hi
    obtain ⟨x,hx⟩ := at_ix hi
    have a1 := lt_ix hi
    have a2 := up_ix hi (by omega)
    unfold x54l0
    dsimp only
    rcases soN_up (m := m) hx with ⟨h1,h2⟩ | ⟨h1,h2⟩
    · rw [h2]; (sym => (simp [Za,Zb,Zc,Zf,Zh,Zl,Zm,Zu,Zv,Z2,Z6,Z8,ZE,ZG,ZK,ZL,ZZ,Yb,Yg,Yh,Yj,Ys,Yt,Yv,Yw,Y1,YQ,YV,Xe,Xo,Xs,X0,Wc,Wg,Wn,Wy,Wz,W0,W3,W4,W5,W6,W7,W8,W9,WH,WL,WM,WN,WO,WP,Vr,V5,V6,V8,V9,VA,VB,VC,VF,VG,VH,VI,VK,VL,VM,VN,VO,VP,VQ,VR,VT,VU,VV,VX,VY,Ua,Ub,Uc,Ud,Ue,Uf,Ui,Us,Ux,Uy,U1,U2,U3,U4,U5,U6,U7,UC,UD,UE,Te,Tf,Tg,Th,Ti,Tj,Tk,Tl,Tm,Tv,Tw,Tx,Ty,Tz,T3,T4,T5,T7,T9,TA,TB,TC,Sw,a1,a2,hx,h1]; all_goals tactic => exact rfl))
    · rw [h2]; (sym => (simp [Za,Zb,Zc,Zf,Zh,Zl,Zm,Zu,Zv,Z2,Z6,Z8,ZE,ZG,ZK,ZL,ZZ,Yb,Yg,Yh,Yj,Ys,Yt,Yv,Yw,Y1,YQ,YV,Xe,Xo,Xs,X0,Wc,Wg,Wn,Wy,Wz,W0,W3,W4,W5,W6,W7,W8,W9,WH,WL,WM,WN,WO,WP,Vr,V5,V6,V8,V9,VA,VB,VC,VF,VG,VH,VI,VK,VL,VM,VN,VO,VP,VQ,VR,VT,VU,VV,VX,VY,Ua,Ub,Uc,Ud,Ue,Uf,Ui,Us,Ux,Uy,U1,U2,U3,U4,U5,U6,U7,UC,UD,UE,Te,Tf,Tg,Th,Ti,Tj,Tk,Tl,Tm,Tv,Tw,Tx,Ty,Tz,T3,T4,T5,T7,T9,TA,TB,TC,Sw,a1,a2,hx,h1]; all_goals tactic => exact rfl))
  rw [r54 (by simp)]; unfold x54; dsimp only
  sym =>
    simp [Za,Zb,Zc,Zf,Zh,Zl,Zm,Zu,Zv,Z2,Z6,Z8,ZE,ZG,ZK,ZL,ZZ,Yb,Yg,Yh,Yj,Ys,Yt,Yv,Yw,Y1,YQ,YV,Xe,Xo,Xs,X0,Wc,Wg,Wn,Wy,Wz,W0,W3,W4,W5,W6,W7,W8,W9,WH,WL,WM,WN,WO,WP,Vr,V5,V6,V8,V9,VA,VB,VC,VF,VG,VH,VI,VK,VL,VM,VN,VO,VP,VQ,VR,VT,VU,VV,VX,VY,Ua,Ub,Uc,Ud,Ue,Uf,Ui,Us,Ux,Uy,U1,U2,U3,U4,U5,U6,U7,UC,UD,UE,Te,Tf,Tg,Th,Ti,Tj,Tk,Tl,Tm,Tv,Tw,Tx,Ty,Tz,T3,T4,T5,T7,T9,TA,TB,TC,Sw]
    tactic =>
      unfold x54l0
      rw [loop_rule k.length (fun i => [I m,I (soN k m i),rS k,I k.length,I (i : Nat)]) (fun _ => [])]
      · (sym => (simp [Za,Zb,Zc,Zf,Zh,Zl,Zm,Zu,Zv,Z2,Z6,Z8,ZE,ZG,ZK,ZL,ZZ,Yb,Yg,Yh,Yj,Ys,Yt,Yv,Yw,Y1,YQ,YV,Xe,Xo,Xs,X0,Wc,Wg,Wn,Wy,Wz,W0,W3,W4,W5,W6,W7,W8,W9,WH,WL,WM,WN,WO,WP,Vr,V5,V6,V8,V9,VA,VB,VC,VF,VG,VH,VI,VK,VL,VM,VN,VO,VP,VQ,VR,VT,VU,VV,VX,VY,Ua,Ub,Uc,Ud,Ue,Uf,Ui,Us,Ux,Uy,U1,U2,U3,U4,U5,U6,U7,UC,UD,UE,Te,Tf,Tg,Th,Ti,Tj,Tk,Tl,Tm,Tv,Tw,Tx,Ty,Tz,T3,T4,T5,T7,T9,TA,TB,TC,Sw,z,sf]; all_goals tactic => exact rfl))
      · (sym => (simp [Za,Zb,Zc,Zf,Zh,Zl,Zm,Zu,Zv,Z2,Z6,Z8,ZE,ZG,ZK,ZL,ZZ,Yb,Yg,Yh,Yj,Ys,Yt,Yv,Yw,Y1,YQ,YV,Xe,Xo,Xs,X0,Wc,Wg,Wn,Wy,Wz,W0,W3,W4,W5,W6,W7,W8,W9,WH,WL,WM,WN,WO,WP,Vr,V5,V6,V8,V9,VA,VB,VC,VF,VG,VH,VI,VK,VL,VM,VN,VO,VP,VQ,VR,VT,VU,VV,VX,VY,Ua,Ub,Uc,Ud,Ue,Uf,Ui,Us,Ux,Uy,U1,U2,U3,U4,U5,U6,U7,UC,UD,UE,Te,Tf,Tg,Th,Ti,Tj,Tk,Tl,Tm,Tv,Tw,Tx,Ty,Tz,T3,T4,T5,T7,T9,TA,TB,TC,Sw,s0]; all_goals tactic => exact rfl))
      · exact rd
      · (sym => (simp [Za,Zb,Zc,Zf,Zh,Zl,Zm,Zu,Zv,Z2,Z6,Z8,ZE,ZG,ZK,ZL,ZZ,Yb,Yg,Yh,Yj,Ys,Yt,Yv,Yw,Y1,YQ,YV,Xe,Xo,Xs,X0,Wc,Wg,Wn,Wy,Wz,W0,W3,W4,W5,W6,W7,W8,W9,WH,WL,WM,WN,WO,WP,Vr,V5,V6,V8,V9,VA,VB,VC,VF,VG,VH,VI,VK,VL,VM,VN,VO,VP,VQ,VR,VT,VU,VV,VX,VY,Ua,Ub,Uc,Ud,Ue,Uf,Ui,Us,Ux,Uy,U1,U2,U3,U4,U5,U6,U7,UC,UD,UE,Te,Tf,Tg,Th,Ti,Tj,Tk,Tl,Tm,Tv,Tw,Tx,Ty,Tz,T3,T4,T5,T7,T9,TA,TB,TC,Sw,z]; all_goals tactic => exact rfl))
structure Sp where
  lo : Int
  hi : Int
abbrev Sp.row (x : Sp) : List AV := [I x.lo,I x.hi]
theorem sp_ok (k : List Sp) : RowsOk 2 (k.map Sp.row) := by
  intro r hr
  simp only [List.mem_map] at hr
  obtain ⟨x,_,rfl⟩ := hr
  exact ⟨rfl,rfl,rfl,rfl⟩
def cS (l : List Sp) : List AV := (l.map Sp.row).flatten
abbrev sR (l : List Sp) : AV := .fs (l.map Sp.row)
theorem cS_gr (l : List Sp) : grL (cS l) = true := (rows_cells (sp_ok _)).1
theorem cS_nm (l : List Sp) : nmL (cS l) = [] := (rows_cells (sp_ok _)).2.1
theorem cS_sl (l : List Sp) : slL (cS l) = [] := (rows_cells (sp_ok _)).2.2.1
theorem cS_len (l : List Sp) : (cS l).length = l.length * 2 := by rw [cS,(rows_cells (sp_ok _)).2.2.2,List.length_map]
theorem cS_ch (l : List Sp) : chunks (cS l) 0 2 l.length = l.map Sp.row := by
  have := rows_chunks (sp_ok l)
  rw [List.length_map] at this
  exact this
theorem cS_set {l : List Sp} {i : Nat} (h : i < l.length) (a b : Int) : splice (cS l) (i * 2) [I a,I b] = cS (l.set i ⟨a,b⟩) := by
  induction l generalizing i with
  | nil => simp at h
  | cons z q ih =>
    have e : cS (z :: q) = I z.lo :: I z.hi :: cS q := rfl
    cases i with
    | zero => rw [e,List.set_cons_zero]; rfl
    | succ i =>
      have := ih (i := i) (by simpa using h)
      rw [e,List.set_cons_succ,show cS (z :: q.set i ⟨a,b⟩) = I z.lo :: I z.hi :: cS (q.set i ⟨a,b⟩) from rfl,← this]
      unfold splice
      rw [show (i + 1) * 2 = i * 2 + 1 + 1 by omega,show i * 2 + 1 + 1 + [I a,I b].length = i * 2 + [I a,I b].length + 1 + 1 by simp]
      rfl
theorem cS_rep (n : Nat) : (List.replicate n [I 0,I 0]).flatten = cS (List.replicate n ⟨0,0⟩) := by
  unfold cS
  rw [List.map_replicate]

def ldAt (l : Li) (v : Int) : Ld := l.ls.getD v.toNat ⟨0,0,0,0,0⟩
def knAt (l : Li) (x : Ld) : List St := l.ks.getD x.k.toNat []
def nwL (l : Li) (o : List Int) : Nat → Int
  | 0 => l.lo
  | i + 1 => nwL l o i + (ldAt l (o.getD i 0)).cl
def nwH (l : Li) (o : List Int) : Nat → Int
  | 0 => l.hi
  | i + 1 => nwH l o i + (ldAt l (o.getD i 0)).ch
def eA (l : Li) (o : List Int) : Nat → List Sp
  | 0 => List.replicate l.ls.length ⟨0,0⟩
  | i + 1 => (eA l o i).set (o.getD i 0).toNat ⟨nwL l o (i + 1),nwH l o (i + 1)⟩
def soLo (l : Li) (o : List Int) (i : Nat) : Int := sourF (knAt l (ldAt l (o.getD i 0))) ((ldAt l (o.getD i 0)).al + nwL l o (i + 1))
def soHi (l : Li) (o : List Int) (i : Nat) : Int := sourF (knAt l (ldAt l (o.getD i 0))) ((ldAt l (o.getD i 0)).ah + nwH l o (i + 1))
def sA (l : Li) (o : List Int) : Nat → List Sp
  | 0 => List.replicate l.ls.length ⟨0,0⟩
  | i + 1 => (sA l o i).set (o.getD i 0).toNat ⟨soLo l o i,soHi l o i⟩
theorem eA_len (l : Li) (o : List Int) : ∀ i,(eA l o i).length = l.ls.length
  | 0 => by simp [eA]
  | i + 1 => by rw [eA,List.length_set,eA_len l o i]
theorem sA_len (l : Li) (o : List Int) : ∀ i,(sA l o i).length = l.ls.length
  | 0 => by simp [sA]
  | i + 1 => by rw [sA,List.length_set,sA_len l o i]
theorem inSF {lo hi a b : Int} : inS lo hi a b = true ↔ a ≤ lo ∧ lo ≤ hi ∧ hi ≤ b := by simp [inS]
theorem Good.ld {l : Li} (g : Good l) {v : Int} (hv : 0 ≤ v ∧ v < l.ls.length) : ∃ x k,l.ls[v.toNat]? = some x ∧ ldAt l v = x ∧ (0 ≤ x.k ∧ x.k < l.ks.length) ∧ l.ks[x.k.toNat]? = some k ∧ knAt l x = k ∧ k.length ≤ 8 ∧ (0 ≤ x.al ∧ x.al ≤ x.ah ∧ x.ah ≤ 100000) ∧ (1 ≤ x.cl ∧ x.cl ≤ x.ch ∧ x.ch ≤ 10000) := by
  obtain ⟨x,hx⟩ := at_ix (l := l.ls) (i := v.toNat) (by omega)
  have h := g.loads v.toNat (by omega)
  unfold ldEr at h
  rw [getD_of hx] at h
  rcases ldE_of l.ks.length x with ⟨h1,h2,h3,h4⟩ | ⟨_,_,_,h4⟩ | ⟨_,_,h4⟩ | ⟨_,h4⟩
  · have b1 := btwF.1 h1
    obtain ⟨k,hk⟩ := at_ix (l := l.ks) (i := x.k.toNat) (by omega)
    refine ⟨x,k,hx,getD_of hx,by omega,hk,getD_of hk,?_,inSF.1 h2,inSF.1 h3⟩
    have hks := g.kinds
    unfold kindsE at hks
    by_cases h6 : 6 < l.ks.length
    · rw [if_pos h6] at hks; simp at hks
    · rw [if_neg h6] at hks
      have := firstN_0 hks x.k.toNat (by omega)
      rw [getD_of hk] at this
      unfold chkD at this
      by_cases h8 : 8 < k.length
      · rw [if_pos h8] at this; simp at this
      · omega
  all_goals (rw [h4] at h; simp at h)
theorem nw_bd {l : Li} (g : Good l) {o : List Int} {n : Nat} (ho : ∀ i,i < n → 0 ≤ o.getD i 0 ∧ o.getD i 0 < l.ls.length) : ∀ i,i ≤ n → (0 ≤ nwL l o i ∧ nwL l o i ≤ nwH l o i ∧ nwH l o i ≤ 100000 + 10000 * (i : Int))
  | 0,_ => by
    have := inSF.1 g.start
    simp only [nwL,nwH]; omega
  | i + 1,hi => by
    have ih := nw_bd g ho i (by omega)
    obtain ⟨x,k,h1,h2,_,_,_,_,h3,h4⟩ := g.ld (ho i (by omega))
    rw [nwL,nwH,h2]
    omega
end Go.Proofs.YtpbeclkpohehgaaDoor
namespace Go.Proofs.YtpbeclkpohehgaaDoor
open Go Go.DL
set_option maxRecDepth 100000
set_option maxHeartbeats 2000000

def runE (l : Li) (o : List Int) : Int := if checkL l = 0 then orderE l.ls.length (behF l.ts) o else checkL l
def runR (l : Li) (o : List Int) : Option (AV × XH) := if runE l o = 0 then some (.tup [sR (eA l o o.length),sR (sA l o o.length),I 0],[]) else some (.tup [.fs [],.fs [],I (runE l o)],[])
theorem ord_of {n : Nat} {b : Nat → Nat} {o : List Int} (h : orderE n b o = 0) : o.length = n ∧ (∀ i,i < n → ordE n b (allT o 0 i) (o.getD i 0) = 0) ∧ ∀ i,i < n → 0 ≤ o.getD i 0 ∧ o.getD i 0 < n := by
  unfold orderE at h
  by_cases ho : o.length = n
  · rw [if_pos ho] at h
    have h2 := firstN_0 h
    rw [ho] at h2
    refine ⟨ho,h2,fun i hi => ?_⟩
    rcases ordE_of (n := n) (b := b) (a := allT o 0 i) (o.getD i 0) with ⟨_,h1,_⟩ | ⟨_,h1,_⟩ | ⟨_,h1,_⟩ | ⟨_,h4⟩
    · exact h1
    · exact h1
    · exact h1
    · rw [h2 i hi] at h4; simp at h4
  · rw [if_neg ho] at h; simp at h
section
variable {l : Li} {o : List Int}
abbrev hU (l : Li) (o : List Int) (i : Nat) : XH := [some (.blk true (.cells true l.c)),some (.blk true (.cells true (cS (eA l o i)))),some (.blk true (.cells true (cS (sA l o i)))),some (.blk true (.cells true [I (nwL l o i),I (nwH l o i)]))]
theorem round17 (g : Good l) (hl : o.length = l.ls.length) (ho : ∀ i,i < l.ls.length → 0 ≤ o.getD i 0 ∧ o.getD i 0 < l.ls.length) {i : Nat} (hi : i < o.length) :
    headX 0 [2,4,5,9,36,37,38] (execW progX 17 0 none (match x17l0 with | .loop _ a => a | c => c) (envL [2,4,5,9,36,37,38] [.pt 0 0,.sl 1 0 2 l.ls.length,.sl 2 0 2 l.ls.length,.pt 3 0,rI o,I o.length,I (i : Nat)]) (hU l o i)) =
      some ([.pt 0 0,.sl 1 0 2 l.ls.length,.sl 2 0 2 l.ls.length,.pt 3 0,rI o,I o.length,I (i + 1 : Nat)],hU l o (i + 1)) := by
  obtain ⟨v,hv⟩ := at_ix hi
  have hv2 := ho i (by omega)
  have bd1 := nw_bd g ho i (by omega)
  have bd2 := nw_bd g ho (i + 1) (by omega)
  have e1 : eA l o (i + 1) = (eA l o i).set v.toNat ⟨nwL l o (i + 1),nwH l o (i + 1)⟩ := by rw [eA,getD_of hv]
  have e2 : sA l o (i + 1) = (sA l o i).set v.toNat ⟨soLo l o i,soHi l o i⟩ := by rw [sA,getD_of hv]
  have e3 : nwL l o (i + 1) = nwL l o i + (ldAt l v).cl := by rw [nwL,getD_of hv]
  have e4 : nwH l o (i + 1) = nwH l o i + (ldAt l v).ch := by rw [nwH,getD_of hv]
  have e5 : soLo l o i = sourF (knAt l (ldAt l v)) ((ldAt l v).al + nwL l o (i + 1)) := by rw [soLo,getD_of hv]
  have e6 : soHi l o i = sourF (knAt l (ldAt l v)) ((ldAt l v).ah + nwH l o (i + 1)) := by rw [soHi,getD_of hv]
  rw [getD_of hv] at hv2
  have hfew := g.few
  obtain ⟨x,k,h1,h2,h3,h4,h5,h6,h7,h8⟩ := g.ld hv2
  rw [h2] at e3 e4 e5 e6
  rw [h5] at e5 e6
  have l1 := eA_len l o i
  have l2 := sA_len l o i
  unfold hU
  rw [e1,e2]
  have s1 := cS_set (l := eA l o i) (i := v.toNat) (by omega) (nwL l o (i + 1)) (nwH l o (i + 1))
  have s2 := cS_set (l := sA l o i) (i := v.toNat) (by omega) (soLo l o i) (soHi l o i)
  have w1 := w54 k (x.al + nwL l o (i + 1)) h6
  have w2 := w54 k (x.ah + nwH l o (i + 1)) h6
  rw [← e5] at w1
  rw [← e6] at w2
  have a1 := lt_ix hi
  have a2 := up_ix hi (by omega)
  have c1 : (0 ≤ v) = True := eq_true (by omega)
  have c2 : (v < (l.ls.length : Int)) = True := eq_true (by omega)
  have c3 : (0 ≤ x.k) = True := eq_true (by omega)
  have c4 : (x.k < (l.ks.length : Int)) = True := eq_true (by omega)
  have c5 : (v.toNat * 2 + 2 ≤ (eA l o i).length * 2) = True := eq_true (by omega)
  have c6 : (v.toNat * 2 + 2 ≤ (sA l o i).length * 2) = True := eq_true (by omega)
  have q1 : IntKind.i64.wrap (nwL l o i + x.cl) = nwL l o (i + 1) := by rw [← e3]; exact wrap_ok (by omega) (by omega)
  have q2 : IntKind.i64.wrap (nwH l o i + x.ch) = nwH l o (i + 1) := by rw [← e4]; exact wrap_ok (by omega) (by omega)
  have q3 : IntKind.i64.wrap (x.al + nwL l o (i + 1)) = x.al + nwL l o (i + 1) := wrap_ok (by omega) (by omega)
  have q4 : IntKind.i64.wrap (x.ah + nwH l o (i + 1)) = x.ah + nwH l o (i + 1) := wrap_ok (by omega) (by omega)
  clear e1 e2 e3 e4 e5 e6 h5 h2
  generalize nwL l o (i + 1) = nl at *
  generalize nwH l o (i + 1) = nh at *
  generalize soLo l o i = sl at *
  generalize soHi l o i = sh at *
  unfold x17l0
  dsimp only
  (sym => (simp [yC_nm,yC_rn,yM_s,yC_gr,yC_sl,yC_fz,yC_len,yC_0,yC_1,yC_2,yC_3,yC_4,yC_15,yC_same,cS_gr,cS_nm,cS_sl,cS_len,Za,Zb,Zc,Zd,Ze,Zf,Zh,Zi,Zl,Zm,Zu,Zv,Zw,Zz,Z2,Z6,Z8,ZG,ZH,ZJ,ZK,ZL,ZM,ZN,ZQ,ZR,ZT,ZU,ZZ,Yf,Yg,Yh,Yj,Ys,Yv,Yw,YN,YQ,YV,YX,YY,Xe,Xo,Xs,Xt,Xu,Wm,Wn,Ww,Wy,Wz,W0,W3,W4,W5,W6,W7,W9,WA,WB,WE,WF,WH,WI,WJ,WK,WL,WM,WN,WO,WP,WQ,WR,WS,WV,WW,Vb,Ve,Vf,Vg,Vi,Vj,Vk,Vm,VL,VM,VN,VO,VP,VU,VV,VW,VX,VY,Ua,Ub,Uc,Ud,Ue,Uf,Ui,Um,Un,Uo,Us,Uw,Ux,Uz,U0,U1,U2,U3,U4,U5,U6,U7,UE,UF,UG,UH,Tf,Tg,Th,Ti,Tj,Tk,Tl,Tm,Tv,Tw,Ty,T3,T4,T7,TA,TB,TC,TG,TH,Sv,a1,a2,hv,h1,h4,c1,c2,c3,c4,c5,c6,q1,q2,q3,q4,s1,s2,w1,w2]; all_goals tactic => exact rfl))
end
theorem w17 (l : Li) (hf : l.Fit) (o : List Int) : runW progX 17 [.agg l.c,rI o] [] = runR l o := by
  have e52 := w52 l hf
  unfold w52R at e52
  unfold runR runE
  by_cases hc : checkL l = 0
  · rw [if_pos hc]
    rw [if_pos hc] at e52
    have g := good_of hc
    have e53 := w53 (l := l) (b := behF l.ts) (es := []) g.few (beh_lt g) o
    by_cases ho : orderE l.ls.length (behF l.ts) o = 0
    · rw [if_pos ho]
      rw [ho] at e53
      obtain ⟨hl,_,hor⟩ := ord_of ho
      have hfew := g.few
      have rd : ∀ i,i < l.ls.length → headX 0 [2,4,5,9,36,37,38] (execW progX 17 0 none (match x17l0 with | .loop _ a => a | c => c) (envL [2,4,5,9,36,37,38] [.pt 0 0,.sl 1 0 2 l.ls.length,.sl 2 0 2 l.ls.length,.pt 3 0,rI o,I l.ls.length,I (i : Nat)]) (hU l o i)) =
          some ([.pt 0 0,.sl 1 0 2 l.ls.length,.sl 2 0 2 l.ls.length,.pt 3 0,rI o,I l.ls.length,I (i + 1 : Nat)],hU l o (i + 1)) := by
        intro i hi
        have := round17 g hl hor (i := i) (by omega)
        rw [hl] at this
        exact this
      have z := Te (n := (l.ls.length : Int))
      have k1 : (0 ≤ (l.ls.length : Int)) = True := eq_true (by omega)
      have k2 : (16 * (l.ls.length : Int) ≤ 281474976710656) = True := eq_true (by omega)
      have k3 : ((l.ls.length : Int) ≤ 9223372036854775807) = True := eq_true (by omega)
      have k4 : ((l.ls.length : Int) ≤ (l.ls.length : Int)) = True := eq_true (by omega)
      have r0 := cS_rep l.ls.length
      have c1 := cS_ch (eA l o l.ls.length)
      have c2 := cS_ch (sA l o l.ls.length)
      rw [eA_len] at c1
      rw [sA_len] at c2
      have c3 : (l.ls.length * 2 ≤ (eA l o l.ls.length).length * 2) = True := eq_true (by rw [eA_len]; omega)
      have c4 : (l.ls.length * 2 ≤ (sA l o l.ls.length).length * 2) = True := eq_true (by rw [sA_len]; omega)
      have s0 : eA l o 0 = List.replicate l.ls.length ⟨0,0⟩ := rfl
      have s1 : sA l o 0 = List.replicate l.ls.length ⟨0,0⟩ := rfl
      have s2 : nwL l o 0 = l.lo := rfl
      have s3 : nwH l o 0 = l.hi := rfl
      rw [hl]
      rw [r17 (by simp)]; unfold x17; dsimp only
      sym =>
        simp [yC_nm,yC_rn,yM_s,yC_gr,yC_sl,yC_fz,yC_len,yC_0,yC_1,yC_2,yC_3,yC_4,yC_15,yC_same,cS_gr,cS_nm,cS_sl,cS_len,Za,Zb,Zc,Zf,Zg,Zh,Zi,Zj,Zl,Zm,Zn,Zu,Zv,Zy,Z2,Z6,ZA,ZD,ZE,ZG,ZK,ZL,ZO,ZP,ZT,ZU,ZZ,Yb,Yi,Yr,Ys,Yv,Yw,Y1,YQ,YT,YU,YV,YX,YY,Xe,Xf,Xg,Xo,Xq,Xr,Xs,Xt,Xu,Xx,X0,XK,XL,XM,XN,XO,XU,XW,XX,XY,Wc,We,Wf,Wg,Wh,Wi,Wn,Wy,Wz,W0,W3,W4,W5,W6,W7,W8,W9,WA,WB,WC,WE,WF,WG,WH,WI,WJ,WK,WL,WM,WN,WO,WP,WQ,WR,WS,WT,WV,WW,WX,Vb,Vc,Ve,Vf,Vg,Vh,Vo,Vp,Vq,Vr,Vs,Vt,Vu,Vv,Vw,Vx,Vz,V0,V1,V3,V5,V6,V8,V9,VA,VB,VE,VF,VG,VH,VI,VK,VL,VM,VN,VO,VP,VQ,VR,VT,VU,VV,VW,VX,VY,Ua,Ub,Uc,Ud,Uf,Ui,Ul,Um,Us,Uw,Ux,Uy,U1,U2,U3,U4,U5,U6,U7,U8,U9,UA,UB,UC,UD,UE,UO,UP,UV,UW,Te,Tf,Tg,Tj,Tl,Tm,Tq,Tv,Tw,Tx,Ty,Tz,T3,T4,T5,T6,T9,TA,TB,TC,TG,TH,Sw,Sx,Sy,SA,SD,SE,SF,SG,e52,e53,hl,k1,k2,k3,k4,r0]
        tactic =>
          unfold x17l0
          rw [loop_rule l.ls.length (fun i => [.pt 0 0,.sl 1 0 2 l.ls.length,.sl 2 0 2 l.ls.length,.pt 3 0,rI o,I l.ls.length,I (i : Nat)]) (fun i => hU l o i)]
          · (sym => (simp [yC_nm,yC_rn,yM_s,yC_gr,yC_sl,yC_fz,yC_len,yC_0,yC_1,yC_2,yC_3,yC_4,yC_15,yC_same,cS_gr,cS_nm,cS_sl,cS_len,Za,Zb,Zc,Zf,Zg,Zh,Zi,Zj,Zl,Zm,Zn,Zu,Zv,Zy,Z2,Z6,ZA,ZD,ZE,ZG,ZK,ZL,ZO,ZP,ZT,ZU,ZZ,Yb,Yi,Yr,Ys,Yv,Yw,Y1,YQ,YT,YU,YV,YX,YY,Xe,Xf,Xg,Xo,Xq,Xr,Xs,Xt,Xu,Xx,X0,XK,XL,XM,XN,XO,XU,XW,XX,XY,Wc,We,Wf,Wg,Wh,Wi,Wn,Wy,Wz,W0,W3,W4,W5,W6,W7,W8,W9,WA,WB,WC,WE,WF,WG,WH,WI,WJ,WK,WL,WM,WN,WO,WP,WQ,WR,WS,WT,WV,WW,WX,Vb,Vc,Ve,Vf,Vg,Vh,Vo,Vp,Vq,Vr,Vs,Vt,Vu,Vv,Vw,Vx,Vz,V0,V1,V3,V5,V6,V8,V9,VA,VB,VE,VF,VG,VH,VI,VK,VL,VM,VN,VO,VP,VQ,VR,VT,VU,VV,VW,VX,VY,Ua,Ub,Uc,Ud,Uf,Ui,Ul,Um,Us,Uw,Ux,Uy,U1,U2,U3,U4,U5,U6,U7,U8,U9,UA,UB,UC,UD,UE,UO,UP,UV,UW,Te,Tf,Tg,Tj,Tl,Tm,Tq,Tv,Tw,Tx,Ty,Tz,T3,T4,T5,T6,T9,TA,TB,TC,TG,TH,Sw,Sx,Sy,SA,SD,SE,SF,SG,z,c1,c2,c3,c4]; all_goals tactic => exact rfl))
          · (sym => (simp [yC_nm,yC_rn,yM_s,yC_gr,yC_sl,yC_fz,yC_len,yC_0,yC_1,yC_2,yC_3,yC_4,yC_15,yC_same,cS_gr,cS_nm,cS_sl,cS_len,Za,Zb,Zc,Zf,Zg,Zh,Zi,Zj,Zl,Zm,Zn,Zu,Zv,Zy,Z2,Z6,ZA,ZD,ZE,ZG,ZK,ZL,ZO,ZP,ZT,ZU,ZZ,Yb,Yi,Yr,Ys,Yv,Yw,Y1,YQ,YT,YU,YV,YX,YY,Xe,Xf,Xg,Xo,Xq,Xr,Xs,Xt,Xu,Xx,X0,XK,XL,XM,XN,XO,XU,XW,XX,XY,Wc,We,Wf,Wg,Wh,Wi,Wn,Wy,Wz,W0,W3,W4,W5,W6,W7,W8,W9,WA,WB,WC,WE,WF,WG,WH,WI,WJ,WK,WL,WM,WN,WO,WP,WQ,WR,WS,WT,WV,WW,WX,Vb,Vc,Ve,Vf,Vg,Vh,Vo,Vp,Vq,Vr,Vs,Vt,Vu,Vv,Vw,Vx,Vz,V0,V1,V3,V5,V6,V8,V9,VA,VB,VE,VF,VG,VH,VI,VK,VL,VM,VN,VO,VP,VQ,VR,VT,VU,VV,VW,VX,VY,Ua,Ub,Uc,Ud,Uf,Ui,Ul,Um,Us,Uw,Ux,Uy,U1,U2,U3,U4,U5,U6,U7,U8,U9,UA,UB,UC,UD,UE,UO,UP,UV,UW,Te,Tf,Tg,Tj,Tl,Tm,Tq,Tv,Tw,Tx,Ty,Tz,T3,T4,T5,T6,T9,TA,TB,TC,TG,TH,Sw,Sx,Sy,SA,SD,SE,SF,SG,s0,s1,s2,s3]; all_goals tactic => exact rfl))
          · exact rd
          · (sym => (simp [yC_nm,yC_rn,yM_s,yC_gr,yC_sl,yC_fz,yC_len,yC_0,yC_1,yC_2,yC_3,yC_4,yC_15,yC_same,cS_gr,cS_nm,cS_sl,cS_len,Za,Zb,Zc,Zf,Zg,Zh,Zi,Zj,Zl,Zm,Zn,Zu,Zv,Zy,Z2,Z6,ZA,ZD,ZE,ZG,ZK,ZL,ZO,ZP,ZT,ZU,ZZ,Yb,Yi,Yr,Ys,Yv,Yw,Y1,YQ,YT,YU,YV,YX,YY,Xe,Xf,Xg,Xo,Xq,Xr,Xs,Xt,Xu,Xx,X0,XK,XL,XM,XN,XO,XU,XW,XX,XY,Wc,We,Wf,Wg,Wh,Wi,Wn,Wy,Wz,W0,W3,W4,W5,W6,W7,W8,W9,WA,WB,WC,WE,WF,WG,WH,WI,WJ,WK,WL,WM,WN,WO,WP,WQ,WR,WS,WT,WV,WW,WX,Vb,Vc,Ve,Vf,Vg,Vh,Vo,Vp,Vq,Vr,Vs,Vt,Vu,Vv,Vw,Vx,Vz,V0,V1,V3,V5,V6,V8,V9,VA,VB,VE,VF,VG,VH,VI,VK,VL,VM,VN,VO,VP,VQ,VR,VT,VU,VV,VW,VX,VY,Ua,Ub,Uc,Ud,Uf,Ui,Ul,Um,Us,Uw,Ux,Uy,U1,U2,U3,U4,U5,U6,U7,U8,U9,UA,UB,UC,UD,UE,UO,UP,UV,UW,Te,Tf,Tg,Tj,Tl,Tm,Tq,Tv,Tw,Tx,Ty,Tz,T3,T4,T5,T6,T9,TA,TB,TC,TG,TH,Sw,Sx,Sy,SA,SD,SE,SF,SG,z]; all_goals tactic => exact rfl))
    · rw [if_neg ho]
      have g := eq_false ho
      rw [r17 (by simp)]; unfold x17; dsimp only
      (sym => (simp [yC_nm,yC_rn,yM_s,yC_gr,yC_sl,yC_fz,yC_len,yC_0,yC_1,yC_2,yC_3,yC_4,yC_15,yC_same,cS_gr,cS_nm,cS_sl,cS_len,Za,Zb,Zc,Zf,Zg,Zh,Zi,Zj,Zl,Zm,Zn,Zu,Zv,Zy,Z2,Z6,ZA,ZD,ZE,ZG,ZK,ZL,ZO,ZP,ZT,ZU,ZZ,Yb,Yi,Yr,Ys,Yv,Yw,Y1,YQ,YT,YU,YV,YX,YY,Xe,Xf,Xg,Xo,Xq,Xr,Xs,Xt,Xu,Xx,X0,XK,XL,XM,XN,XO,XU,XW,XX,XY,Wc,We,Wf,Wg,Wh,Wi,Wn,Wy,Wz,W0,W3,W4,W5,W6,W7,W8,W9,WA,WB,WC,WE,WF,WG,WH,WI,WJ,WK,WL,WM,WN,WO,WP,WQ,WR,WS,WT,WV,WW,WX,Vb,Vc,Ve,Vf,Vg,Vh,Vo,Vp,Vq,Vr,Vs,Vt,Vu,Vv,Vw,Vx,Vz,V0,V1,V3,V5,V6,V8,V9,VA,VB,VE,VF,VG,VH,VI,VK,VL,VM,VN,VO,VP,VQ,VR,VT,VU,VV,VW,VX,VY,Ua,Ub,Uc,Ud,Uf,Ui,Ul,Um,Us,Uw,Ux,Uy,U1,U2,U3,U4,U5,U6,U7,U8,U9,UA,UB,UC,UD,UE,UO,UP,UV,UW,Te,Tf,Tg,Tj,Tl,Tm,Tq,Tv,Tw,Tx,Ty,Tz,T3,T4,T5,T6,T9,TA,TB,TC,TG,TH,Sw,Sx,Sy,SA,SD,SE,SF,SG,e52,e53,g]; all_goals tactic => exact rfl))
  · rw [if_neg hc]
    rw [if_neg hc] at e52
    rw [if_neg hc]
    have g := eq_false hc
    rw [r17 (by simp)]; unfold x17; dsimp only
    (sym => (simp [yC_nm,yC_rn,yM_s,yC_gr,yC_sl,yC_fz,yC_len,yC_0,yC_1,yC_2,yC_3,yC_4,yC_15,yC_same,cS_gr,cS_nm,cS_sl,cS_len,Za,Zb,Zc,Zf,Zg,Zh,Zi,Zj,Zl,Zm,Zn,Zu,Zv,Zy,Z2,Z6,ZA,ZD,ZE,ZG,ZK,ZL,ZO,ZP,ZT,ZU,ZZ,Yb,Yi,Yr,Ys,Yv,Yw,Y1,YQ,YT,YU,YV,YX,YY,Xe,Xf,Xg,Xo,Xq,Xr,Xs,Xt,Xu,Xx,X0,XK,XL,XM,XN,XO,XU,XW,XX,XY,Wc,We,Wf,Wg,Wh,Wi,Wn,Wy,Wz,W0,W3,W4,W5,W6,W7,W8,W9,WA,WB,WC,WE,WF,WG,WH,WI,WJ,WK,WL,WM,WN,WO,WP,WQ,WR,WS,WT,WV,WW,WX,Vb,Vc,Ve,Vf,Vg,Vh,Vo,Vp,Vq,Vr,Vs,Vt,Vu,Vv,Vw,Vx,Vz,V0,V1,V3,V5,V6,V8,V9,VA,VB,VE,VF,VG,VH,VI,VK,VL,VM,VN,VO,VP,VQ,VR,VT,VU,VV,VW,VX,VY,Ua,Ub,Uc,Ud,Uf,Ui,Ul,Um,Us,Uw,Ux,Uy,U1,U2,U3,U4,U5,U6,U7,U8,U9,UA,UB,UC,UD,UE,UO,UP,UV,UW,Te,Tf,Tg,Tj,Tl,Tm,Tq,Tv,Tw,Tx,Ty,Tz,T3,T4,T5,T6,T9,TA,TB,TC,TG,TH,Sw,Sx,Sy,SA,SD,SE,SF,SG,e52,g]; all_goals tactic => exact rfl))
def mxI (a b : Int) : Int := if b > a then b else a
theorem runE_len {l : Li} {o : List Int} (h : runE l o = 0) : Good l ∧ o.length = l.ls.length ∧ orderE l.ls.length (behF l.ts) o = 0 := by
  unfold runE at h
  by_cases hc : checkL l = 0
  · rw [if_pos hc] at h
    exact ⟨good_of hc,(ord_of h).1,h⟩
  · rw [if_neg hc] at h
    exact absurd h hc
end Go.Proofs.YtpbeclkpohehgaaDoor
namespace Go.Proofs.YtpbeclkpohehgaaDoor
open Go Go.DL
set_option maxRecDepth 100000
set_option maxHeartbeats 2000000

def cT (l : List St) : List AV := (l.map St.row).flatten
theorem ct_ok (k : List St) : RowsOk 2 (k.map St.row) := by
  intro r hr
  simp only [List.mem_map] at hr
  obtain ⟨x,_,rfl⟩ := hr
  exact ⟨rfl,rfl,rfl,rfl⟩
theorem cT_len (l : List St) : (cT l).length = l.length * 2 := by rw [cT,(rows_cells (ct_ok _)).2.2.2,List.length_map]
theorem cT_app (l : List St) (x : St) : cT (l ++ [x]) = cT l ++ x.row := by simp [cT]
theorem cT_ch (l : List St) : chunks (cT l) 0 2 l.length = l.map St.row := by
  have := rows_chunks (ct_ok l)
  rw [List.length_map] at this
  exact this
def cL (l : List Ld) : List AV := (l.map Ld.row).flatten
theorem cl_ok (k : List Ld) : RowsOk 5 (k.map Ld.row) := by
  intro r hr
  simp only [List.mem_map] at hr
  obtain ⟨x,_,rfl⟩ := hr
  exact ⟨rfl,rfl,rfl,rfl⟩
theorem cL_len (l : List Ld) : (cL l).length = l.length * 5 := by rw [cL,(rows_cells (cl_ok _)).2.2.2,List.length_map]
theorem cL_app (l : List Ld) (x : Ld) : cL (l ++ [x]) = cL l ++ x.row := by simp [cL]
theorem cL_ch (l : List Ld) : chunks (cL l) 0 5 l.length = l.map Ld.row := by
  have := rows_chunks (cl_ok l)
  rw [List.length_map] at this
  exact this
theorem chunksV : ∀ (l pre : List AV),chunks (pre ++ l) pre.length 1 l.length = l.map fun v => [v]
  | [],pre => rfl
  | a :: r,pre => by
    have h := chunksV r (pre ++ [a])
    simp only [List.append_assoc,List.cons_append,List.nil_append,List.length_append,List.length_cons,List.length_nil] at h
    rw [List.length_cons,chunks]
    simp only [Nat.zero_add] at h
    rw [h,List.drop_left' rfl,List.map_cons]
    rfl
abbrev bZ : Option XB := some (.blk true (.cells true [.nilsl,.nilsl,.nilsl,I 0,I 0]))
theorem take_up {α : Type} {l : List α} {i : Nat} {x : α} (h : l[i]? = some x) : l.take (i + 1) = l.take i ++ [x] := by rw [List.take_add_one,h]; rfl
end Go.Proofs.YtpbeclkpohehgaaDoor
namespace Go.Proofs.YtpbeclkpohehgaaDoor
open Go Go.DL
set_option maxRecDepth 100000
set_option maxHeartbeats 4000000

end Go.Proofs.YtpbeclkpohehgaaDoor
namespace Go.Proofs.YtpbeclkpohehgaaDoor
open Go Go.DL
set_option maxRecDepth 100000
set_option maxHeartbeats 4000000

end Go.Proofs.YtpbeclkpohehgaaDoor
namespace Go.Proofs.YtpbeclkpohehgaaDoor
open Go Go.DL
set_option maxRecDepth 100000
set_option maxHeartbeats 4000000

theorem Good.st {l : Li} (g : Good l) {t : Nat} {k : List St} (ht : l.ks[t]? = some k) {i : Nat} {x : St} (hx : k[i]? = some x) : 0 ≤ x.a ∧ x.a ≤ 100000 ∧ 1 ≤ x.s ∧ x.s ≤ 1000000 ∧ prA k i < x.a ∧ prS k i < x.s := by
  have hks := g.kinds
  unfold kindsE at hks
  by_cases h6 : 6 < l.ks.length
  · rw [if_pos h6] at hks; simp at hks
  rw [if_neg h6] at hks
  have h1 := firstN_0 hks t (lt_of ht)
  rw [getD_of ht] at h1
  unfold chkD at h1
  by_cases h8 : 8 < k.length
  · rw [if_pos h8] at h1; simp at h1
  rw [if_neg h8] at h1
  have h2 := firstN_0 h1 i (lt_of hx)
  rcases kErr_of hx with ⟨b1,b2,c1,c2,_⟩ | ⟨_,_,_,_,e⟩ | ⟨_,_,_,e⟩ | ⟨_,_,e⟩ | ⟨_,e⟩
  · have b1 := btwF.1 b1
    have b2 := btwF.1 b2
    have c1 := of_eq_false c1
    have c2 := of_eq_false c2
    omega
  all_goals (rw [e] at h2; simp at h2)
def mnI (a b : Int) : Int := if b < a then b else a
end Go.Proofs.YtpbeclkpohehgaaDoor
namespace Go.Proofs.YtpbeclkpohehgaaDoor
open Go Go.DL
set_option maxRecDepth 100000
set_option maxHeartbeats 4000000

end Go.Proofs.YtpbeclkpohehgaaDoor
namespace Go.Proofs.YtpbeclkpohehgaaDoor
open Go Go.DL
set_option maxRecDepth 100000
set_option maxHeartbeats 4000000

end Go.Proofs.YtpbeclkpohehgaaDoor
namespace Go.Proofs.YtpbeclkpohehgaaDoor
open Go Go.DL
set_option maxRecDepth 100000
set_option maxHeartbeats 4000000

end Go.Proofs.YtpbeclkpohehgaaDoor
namespace Go.Proofs.YtpbeclkpohehgaaDoor
open Go Go.DL
set_option maxRecDepth 100000
set_option maxHeartbeats 4000000

end Go.Proofs.YtpbeclkpohehgaaDoor
namespace Go.Proofs.YtpbeclkpohehgaaDoor
open Go Go.DL
set_option maxRecDepth 100000
set_option maxHeartbeats 4000000

def el (a : Nat) : List Nat := (List.range 10).filter (a.testBit ·)
def lowB (a : Nat) : Nat := (el a).headD 0
def tzq (a : Nat) : Bool := match runX progX 6 107 [U a] [] with
  | some (.int .i64 n,[]) => decide (n = (lowB a : Nat))
  | _ => false
theorem tz_all : ((List.range 1024).all fun a => a == 0 || tzq a) = true := by kernel_rfl
theorem w107 {a : Nat} (ha : a < 1024) (h0 : a ≠ 0) : runW progX 107 [U a] [] = some (I (lowB a : Nat),[]) := by
  have h := List.all_eq_true.1 tz_all a (List.mem_range.2 ha)
  have h1 : (a == 0) = false := by simp [h0]
  rw [h1,Bool.false_or] at h
  unfold tzq at h
  refine runW_iff.2 ⟨6,?_⟩
  revert h
  generalize runX progX 6 107 [U a] [] = r
  intro h
  match r,h with
  | some (.int .i64 n,[]),h => rw [of_decide_eq_true h]
theorem el_step : ∀ a : Nat,a < 1024 → a ≠ 0 → el a = lowB a :: el (a &&& (a - 1)) := by decide +kernel
theorem el_0 : ∀ a : Nat,a < 1024 → (el a = [] ↔ a = 0) := by decide +kernel
theorem el_mem {a k : Nat} : k ∈ el a ↔ k < 10 ∧ a.testBit k = true := by simp [el]
def cutS (a : Nat) : Nat → Nat
  | 0 => a
  | i + 1 => cutS a i &&& (cutS a i - 1)
theorem cut_lt {a : Nat} (ha : a < 1024) : ∀ i,cutS a i < 1024
  | 0 => ha
  | i + 1 => by rw [cutS]; exact Nat.lt_of_le_of_lt Nat.and_le_left (cut_lt ha i)
theorem cut_el {a : Nat} (ha : a < 1024) : ∀ i,el (cutS a i) = (el a).drop i
  | 0 => rfl
  | i + 1 => by
    have ih := cut_el ha i
    rw [cutS]
    by_cases h0 : cutS a i = 0
    · rw [h0] at ih ⊢
      have e0 : el 0 = [] := rfl
      rw [show (0 &&& (0 - 1)) = 0 from rfl,e0]
      rw [e0] at ih
      have := congrArg List.length ih
      rw [List.length_nil,List.length_drop] at this
      exact (List.drop_eq_nil_of_le (by omega)).symm
    · rw [el_step _ (cut_lt ha i) h0] at ih
      rw [← List.drop_drop,← ih]
      rfl
theorem cut_at {a : Nat} (ha : a < 1024) {i : Nat} (hi : i < (el a).length) : cutS a i ≠ 0 ∧ (el a)[i]? = some (lowB (cutS a i)) := by
  have h := cut_el ha i
  have h0 : cutS a i ≠ 0 := fun hc => by
    rw [hc,show el 0 = [] from rfl] at h
    have := congrArg List.length h
    rw [List.length_nil,List.length_drop] at this
    omega
  refine ⟨h0,?_⟩
  rw [el_step _ (cut_lt ha i) h0] at h
  have := congrArg (fun l => l[0]?) h
  simpa using this.symm
theorem cut_end {a : Nat} (ha : a < 1024) : cutS a (el a).length = 0 := by
  have h := cut_el ha (el a).length
  rw [List.drop_length] at h
  exact (el_0 _ (cut_lt ha _)).1 h
end Go.Proofs.YtpbeclkpohehgaaDoor
namespace Go.Proofs.YtpbeclkpohehgaaDoor
open Go Go.DL
set_option maxRecDepth 100000
set_option maxHeartbeats 4000000

abbrev cU (a : Nat) : Option XB := some (.blk true (.cells true [U a]))
structure Home (n : Nat) (H : XH) : Prop where
  hat : ∀ a,hat (H ++ [cU a]) n = cU a
  set : ∀ a b,(H ++ [cU a]).set n (cU b) = H ++ [cU b]
  len : ∀ a,(H ++ [cU a]).length = n + 1
  head : ∀ (a : Nat) (e : Env),e 0 = .fn (.yield 0) [] [] → e 1 = .pt n 0 → headX (n + 1) [0,1] (some (.normal,e,H ++ [cU a])) = some ([.fn (.yield 0) [] [],.pt n 0],H ++ [cU a])
  fin : ∀ a,finX false (n + 1) (.tup []) (H ++ [cU a]) = (.tup [],H ++ [cU a])
def Yd (H H' : XH) (v : Nat) (b : Bool) : Prop := ∀ a : Nat,callX (runW progX) (runYW progX) (.fn (.yield 0) [] []) [I v] (H ++ [cU a]) = some (.bool b,H' ++ [cU a])
theorem round106 {n : Nat} {H H' : XH} (g : Home n H) (g' : Home n H') {a : Nat} (ha : a < 1024) (h0 : a ≠ 0) (hy : Yd H H' (lowB a) true) :
    headX (n + 1) [0,1] (execW progX 106 (n + 1) none (match x106l0 with | .loop _ a => a | c => c) (envL [0,1] [.fn (.yield 0) [] [],.pt n 0]) (H ++ [cU a])) = some ([.fn (.yield 0) [] [],.pt n 0],H' ++ [cU (a &&& (a - 1))]) := by
  have h1 := g.hat a
  have h2 := g'.hat a
  have h3 := g'.set a
  have h4 := hy a
  have t := w107 ha h0
  have n0 : ((a : Int) = 0) = False := eq_false (by omega)
  have u1 : IntKind.u64.wrap ((a : Int) - 1) = ((a - 1 : Nat) : Int) := by
    rw [show (a : Int) - 1 = ((a - 1 : Nat) : Int) by omega]; exact big_wrap big_u (by omega)
  have u2 := bits_and big_u (a := a) (b := a - 1) (by omega) (by omega)
  have hd := g'.head (a &&& (a - 1))
  unfold x106l0
  dsimp only
  sym =>
    simp [Za,Zb,Zc,Zf,Zg,Zh,Zj,Zl,Zm,Zu,Z2,Z4,ZG,ZK,ZL,ZO,ZP,ZT,ZU,ZX,Yk,Ym,Yr,YQ,Xe,Xo,Wm,Wz,W0,W4,W6,W7,W9,WH,WK,WM,WR,WS,Ve,Vf,Vg,Vr,Vt,Vu,Vw,Vx,Vz,VL,VO,VP,VQ,VU,VV,VX,VY,Ub,Uc,Ui,Ul,Um,Us,Uy,U1,U2,U3,U4,U5,U6,U7,UE,Tf,Tg,Tk,Tl,Tm,Tv,Tw,Ty,T3,T4,T7,TB,TC,TE,SD,SE,SF,h1,h2,t,h4,n0,u1,u2,h3]
    tactic => exact hd _ rfl rfl
theorem each_all {n : Nat} {G : Nat → XH} {a : Nat} (ha : a < 1024) (g : ∀ i,i ≤ (el a).length → Home n (G i)) (hy : ∀ i v,(el a)[i]? = some v → Yd (G i) (G (i + 1)) v true) :
    runW progX 106 [.fn (.yield 0) [] [],.pt n 0] (G 0 ++ [cU a]) = some (.tup [],G (el a).length ++ [cU 0]) := by
  have l0 := (g 0 (by omega)).len a
  have g1 := g (el a).length (by omega)
  have h1 : hat (G (el a).length ++ [some (.blk true (.cells true [.int .u64 0]))]) n = some (.blk true (.cells true [.int .u64 0])) := g1.hat 0
  have hf : finX false (n + 1) (.tup []) (G (el a).length ++ [some (.blk true (.cells true [.int .u64 0]))]) = (.tup [],G (el a).length ++ [some (.blk true (.cells true [.int .u64 0]))]) := g1.fin 0
  have c0 := cut_end ha
  rw [r106 (by simp)]; unfold x106; dsimp only
  rw [l0]
  unfold x106l0
  sym =>
    simp [Za,Zb,Zf,Zh,Zl,Zm,Z2,ZG,Yr,Y1,Wh,Wl,Wz,W0,W9,V4,V6,VB,VD,VF,VL,VO,VQ,VR,VT,Ul,Ux,UC,UD,Tf,Tg,Tk,Tv,Tw,Tz,T3,T4,T5,T9,TB,TC]
    tactic =>
      rw [loop_rule (el a).length (fun _ => [.fn (.yield 0) [] [],.pt n 0]) (fun i => G i ++ [cU (cutS a i)])]
      · rw [c0]
        (sym => (simp [Za,Zb,Zf,Zh,Zl,Zm,Z2,ZG,Yr,Y1,Wh,Wl,Wz,W0,W9,V4,V6,VB,VD,VF,VL,VO,VQ,VR,VT,Ul,Ux,UC,UD,Tf,Tg,Tk,Tv,Tw,Tz,T3,T4,T5,T9,TB,TC,h1,hf]; all_goals tactic => exact rfl))
      · exact (g 0 (by omega)).head a _ rfl rfl
      · intro i hi
        obtain ⟨p1,p2⟩ := cut_at ha hi
        exact round106 (g i (by omega)) (g (i + 1) (by omega)) (cut_lt ha i) p1 (hy i _ p2)
      · rw [c0]
        (sym => (simp [Za,Zb,Zf,Zh,Zl,Zm,Z2,ZG,Yr,Y1,Wh,Wl,Wz,W0,W9,V4,V6,VB,VD,VF,VL,VO,VQ,VR,VT,Ul,Ux,UC,UD,Tf,Tg,Tk,Tv,Tw,Tz,T3,T4,T5,T9,TB,TC,h1]; all_goals tactic => exact rfl))
end Go.Proofs.YtpbeclkpohehgaaDoor
namespace Go.Proofs.YtpbeclkpohehgaaDoor
open Go Go.DL
set_option maxRecDepth 100000
set_option maxHeartbeats 4000000

def fT {α : Type} (f : α → Nat → α) (z : α) (ks : List Nat) (i : Nat) : α := (ks.take i).foldl f z
theorem fT_up {α : Type} {f : α → Nat → α} {z : α} {ks : List Nat} {i v : Nat} (h : ks[i]? = some v) : fT f z ks (i + 1) = f (fT f z ks i) v := by
  unfold fT
  rw [List.take_add_one,h]
  simp
theorem fT_all {α : Type} {f : α → Nat → α} {z : α} {ks : List Nat} : fT f z ks ks.length = ks.foldl f z := by
  unfold fT
  rw [List.take_length]
def fR {α : Type} (f : α → Nat → α) (z : α) (a : Nat) : Nat → α
  | 0 => z
  | i + 1 => if a.testBit i then f (fR f z a i) i else fR f z a i
theorem fR_fl {α : Type} {f : α → Nat → α} {z : α} {a : Nat} : ∀ n,fR f z a n = ((List.range n).filter (a.testBit ·)).foldl f z
  | 0 => rfl
  | n + 1 => by
    rw [fR,List.range_succ,List.filter_append,List.foldl_append,← fR_fl n]
    cases h : a.testBit n <;> simp [h]
theorem fR_cut {α : Type} {f : α → Nat → α} {z : α} {a m : Nat} (h : a < 2 ^ m) : ∀ n,m ≤ n → fR f z a n = fR f z a m
  | 0,hn => by rw [show m = 0 by omega]
  | n + 1,hn => by
    by_cases hm : m = n + 1
    · rw [hm]
    · rw [fR,bit_lt h (by omega),fR_cut h n (by omega)]; simp
theorem fR_el {α : Type} {f : α → Nat → α} {z : α} {a n : Nat} (h : a < 2 ^ n) (hn : n ≤ 10) : fR f z a n = (el a).foldl f z := by
  rw [← fR_cut h 10 hn,fR_fl]
  rfl
theorem el_lt {a n k : Nat} (h : a < 2 ^ n) (hk : k ∈ el a) : k < n := by
  have h2 := (el_mem.1 hk).2
  by_cases hc : k < n
  · exact hc
  · rw [bit_lt h (by omega)] at h2; simp at h2
theorem el_len (a : Nat) : (el a).length ≤ 10 := by
  unfold el
  exact Nat.le_trans (List.length_filter_le _ _) (by simp)
theorem lt_10 {a n : Nat} (h : a < 2 ^ n) (hn : n ≤ 10) : a < 1024 := Nat.lt_of_lt_of_le h (Nat.pow_le_pow_right (n := 2) (by omega) hn)

abbrev ldN (l : Li) (k : Nat) : Ld := l.ls.getD k ⟨0,0,0,0,0⟩
theorem Good.ldn {l : Li} (g : Good l) {v : Nat} (hv : v < l.ls.length) : ∃ x k,l.ls[v]? = some x ∧ ldN l v = x ∧ (0 ≤ x.k ∧ x.k < l.ks.length) ∧ l.ks[x.k.toNat]? = some k ∧ knAt l x = k ∧ k.length ≤ 8 ∧ (0 ≤ x.al ∧ x.al ≤ x.ah ∧ x.ah ≤ 100000) ∧ (1 ≤ x.cl ∧ x.cl ≤ x.ch ∧ x.ch ≤ 10000) := by
  obtain ⟨x,k,h1,h2,h3⟩ := g.ld (v := (v : Int)) (by omega)
  rw [Int.toNat_natCast] at h1
  exact ⟨x,k,h1,getD_of h1,h3⟩
abbrev enS (l : Li) (n : Int) (k : Nat) : Int := n + (ldN l k).ch
def endF (l : Li) (a : Nat) : Int := (el a).foldl (enS l) l.hi
theorem en_bd {l : Li} (g : Good l) : ∀ (ks : List Nat) (z : Int),(∀ k ∈ ks,k < l.ls.length) → z ≤ ks.foldl (enS l) z ∧ ks.foldl (enS l) z ≤ z + 10000 * (ks.length : Int)
  | [],z,_ => by simp
  | k :: ks,z,h => by
    obtain ⟨x,kd,h1,h2,_,_,_,_,_,h8⟩ := g.ldn (h k (by simp))
    have ih := en_bd g ks (enS l z k) fun j hj => h j (by simp [hj])
    rw [List.foldl_cons,List.length_cons]
    unfold enS at *
    rw [h2] at *
    omega
theorem enT_bd {l : Li} (g : Good l) {a : Nat} (ha : a < 2 ^ l.ls.length) (i : Nat) : 0 ≤ fT (enS l) l.hi (el a) i ∧ fT (enS l) l.hi (el a) i ≤ 200000 := by
  have h := en_bd g ((el a).take i) l.hi fun k hk => el_lt ha (List.mem_of_mem_take hk)
  have h2 := inSF.1 g.start
  have h3 := el_len a
  have h4 : ((el a).take i).length ≤ 10 := by rw [List.length_take]; omega
  unfold fT
  omega
theorem end_bd {l : Li} (g : Good l) {a : Nat} (ha : a < 2 ^ l.ls.length) : 0 ≤ endF l a ∧ endF l a ≤ 200000 := by
  have := enT_bd g ha (el a).length
  rw [fT_all] at this
  exact this

theorem w81 (a : Nat) : runW progX 81 [U a] [] = some (.fn (.func 106) [] [.pt 0 0],[cU a]) := by
  rw [r81 (by simp)]; unfold x81; dsimp only
  (sym => (simp [yC_nm,yC_rn,yM_s,yC_gr,yC_sl,yC_fz,yC_len,yC_0,yC_1,yC_2,yC_3,yC_4,yC_15,yC_same,Za,Zb,Zf,Zh,Zl,Zn,Zu,Zw,Zy,YY,Xc,Xe,Xu,Xy,XQ,Wc,Wk,Wm,Wy,W8,WA,WE,WF,WH,WI,WJ,WL,WN,WO,WP,WQ,WV,WW,Vb,Vr,V5,V6,V8,V9,VA,VB,VC,VF,VG,VH,VI,VK,VT,VU,VV,VX,VY,Ua,Uc,Uf,Uw,U2,U3,U4,U5,UC,UD,UO,UP,Tq,Tw,Tx,T4,TB,TC,TH,Sw]; all_goals tactic => exact rfl))
section
variable {l : Li} {b : Nat → Nat} {es : List (AV × AV)}
abbrev h110 (l : Li) (b : Nat → Nat) (es : List (AV × AV)) (n : Int) : XH := [some (.loop 110 0 [.pt 1 0,.pt 4 0] .ready),some (.blk false (.cells true [.pt 2 0])),some (.blk false (.cells true (yC l b 3))),some (.blk true (.map true es)),some (.blk true (.cells true [I n]))]
theorem home110 (n : Int) : Home 5 (h110 l b es n) := by
  refine ⟨fun _ => rfl,fun _ _ => rfl,fun _ => rfl,?_,?_⟩
  · intro a e h0 h1
    (sym => (simp [yC_nm,yC_rn,yM_s,yC_gr,yC_sl,yC_fz,yC_len,yC_0,yC_1,yC_2,yC_3,yC_4,yC_15,yC_same,Za,YU,YY,Xd,Xr,Xu,Xz,XK,Wf,WA,WF,WH,WJ,WL,WM,WN,WO,WP,WV,WW,WX,WY,Va,Vb,Vc,Vd,Vr,V8,V9,VA,VM,VN,VU,VV,VW,VX,VY,VZ,Ua,Uw,U1,U2,U3,U4,U5,U8,UC,TA,Sw,h0,h1]; all_goals tactic => exact rfl))
  · intro a
    (sym => (simp [yC_nm,yC_rn,yM_s,yC_gr,yC_sl,yC_fz,yC_len,yC_0,yC_1,yC_2,yC_3,yC_4,yC_15,yC_same,Za,YU,YY,Xd,Xr,Xu,Xz,XK,Wf,WA,WF,WH,WJ,WL,WM,WN,WO,WP,WV,WW,WX,WY,Va,Vb,Vc,Vd,Vr,V8,V9,VA,VM,VN,VU,VV,VW,VX,VY,VZ,Ua,Uw,U1,U2,U3,U4,U5,U8,UC,TA,Sw]; all_goals tactic => exact rfl))
theorem y110 (n m : Int) {k : Nat} {x : Ld} (hk : l.ls[k]? = some x) (hm : IntKind.i64.wrap (n + x.ch) = m) : Yd (h110 l b es n) (h110 l b es m) k true := by
  have c1 := lt_ix (lt_of hk)
  have y : runYW progX (.fn (.yield 0) [] []) [I (k : Nat)] (h110 l b es n) = some (.bool true,h110 l b es m) := by
    rw [runYW_eq (K := 110) (d := x110) (site := 0) (vs := [.pt 1 0,.pt 4 0]) rfl rfl (by rfl) rfl]
    (sym => (simp [yC_nm,yC_rn,yM_s,yC_gr,yC_sl,yC_fz,yC_len,yC_0,yC_1,yC_2,yC_3,yC_4,yC_15,yC_same,Za,Zb,Zc,Zf,Zh,Zi,Zl,Zm,Zu,Z1,Z2,Z6,Z8,ZH,ZI,ZJ,ZK,ZM,ZN,ZZ,Ya,Yg,Yh,Yj,Yv,Yw,YP,YQ,YR,YY,Xd,Xe,Xo,Xp,Xu,Xz,Wm,Ww,Wy,Wz,W0,W3,W4,W6,W7,W9,WA,WB,WC,WE,WF,WG,WH,WI,WJ,WK,WL,WM,WN,WO,WP,WR,WS,WT,WV,WW,WX,WY,Va,Vb,Vc,Vd,Ve,Vf,Vg,Vh,Vi,V7,VA,VL,VU,VV,VW,VX,VY,VZ,Ua,Ub,Uc,Ud,Ue,Uf,Ui,Um,Un,Us,Uw,Uz,U0,U1,U2,U3,U4,U5,U6,U7,UE,UM,UN,Tf,Tg,Th,Ti,Tk,Tl,Tm,Tv,T3,T7,TB,TX,TY,TZ,Sa,Sj,Sk,Sl,Sm,Sn,Sv,c1,hk,hm]; all_goals tactic => exact rfl))
  intro a
  (sym => (simp [yC_nm,yC_rn,yM_s,yC_gr,yC_sl,yC_fz,yC_len,yC_0,yC_1,yC_2,yC_3,yC_4,yC_15,yC_same,Za,Zb,Zc,Zf,Zh,Zi,Zl,Zm,Zu,Z1,Z2,Z6,Z8,ZH,ZI,ZJ,ZK,ZM,ZN,ZZ,Ya,Yg,Yh,Yj,Yv,Yw,YP,YQ,YR,YY,Xd,Xe,Xo,Xp,Xu,Xz,Wm,Ww,Wy,Wz,W0,W3,W4,W6,W7,W9,WA,WB,WC,WE,WF,WG,WH,WI,WJ,WK,WL,WM,WN,WO,WP,WR,WS,WT,WV,WW,WX,WY,Va,Vb,Vc,Vd,Ve,Vf,Vg,Vh,Vi,V7,VA,VL,VU,VV,VW,VX,VY,VZ,Ua,Ub,Uc,Ud,Ue,Uf,Ui,Um,Un,Us,Uw,Uz,U0,U1,U2,U3,U4,U5,U6,U7,UE,UM,UN,Tf,Tg,Th,Ti,Tk,Tl,Tm,Tv,T3,T7,TB,TX,TY,TZ,Sa,Sj,Sk,Sl,Sm,Sn,Sv,y]; all_goals tactic => exact rfl))
theorem w110 (g : Good l) {a : Nat} (ha : a < 2 ^ l.ls.length) : runW progX 110 [.pt 0 0,U a] (hY l b es) = some (I (endF l a),hY l b es) := by
  have hfew := g.few
  have ha2 := lt_10 ha hfew
  have e81 := w81 a
  have e : runW progX 106 [.fn (.yield 0) [] [],.pt 5 0] [some (.loop 110 0 [.pt 1 0,.pt 4 0] .ready),some (.blk false (.cells true [.pt 2 0])),some (.blk false (.cells true (yC l b 3))),some (.blk true (.map true es)),some (.blk true (.cells true [I l.hi])),cU a] =
      some (.tup [],[some (.loop 110 0 [.pt 1 0,.pt 4 0] .ready),some (.blk false (.cells true [.pt 2 0])),some (.blk false (.cells true (yC l b 3))),some (.blk true (.map true es)),some (.blk true (.cells true [I (endF l a)])),some (.blk true (.cells true [.int .u64 0]))]) := by
    have h := each_all (n := 5) (G := fun i => h110 l b es (fT (enS l) l.hi (el a) i)) ha2 (fun i _ => home110 _) (by
      intro i v hv
      obtain ⟨x,kd,h1,h2,_,_,_,_,_,h8⟩ := g.ldn (el_lt ha (List.mem_of_getElem? hv))
      have b1 := enT_bd g ha i
      refine y110 _ _ h1 ?_
      rw [fT_up hv]
      show IntKind.i64.wrap (fT (enS l) l.hi (el a) i + x.ch) = fT (enS l) l.hi (el a) i + (ldN l v).ch
      rw [h2]
      exact wrap_ok (by omega) (by omega))
    unfold endF
    rw [fT_all] at h
    exact h
  rw [r110 (by simp)]; unfold x110; dsimp only
  (sym => (simp [yC_nm,yC_rn,yM_s,yC_gr,yC_sl,yC_fz,yC_len,yC_0,yC_1,yC_2,yC_3,yC_4,yC_15,yC_same,Za,Zb,Zc,Zf,Zg,Zh,Zj,Zl,Zm,Zn,Zu,Zv,Zy,Z1,Z6,ZG,ZK,ZL,ZO,ZP,ZT,ZU,ZZ,YP,YQ,YY,Xd,Xe,Xi,Xo,Xr,Xu,Xy,Xz,X0,Wc,Wh,Wm,Wq,Wy,Wz,W0,W3,W4,W6,W7,W8,W9,WA,WB,WC,WE,WF,WG,WH,WI,WJ,WK,WL,WM,WN,WO,WP,WR,WS,WT,WV,WW,WX,WY,Va,Vb,Vc,Vd,Ve,Vf,Vg,Vh,Vr,Vt,Vu,Vv,V5,V6,V8,V9,VA,VB,VC,VF,VG,VH,VI,VK,VT,VU,VV,VW,VX,VY,VZ,Ua,Ub,Uc,Uf,Ui,Us,Uw,U1,U2,U3,U4,U5,U6,U7,UC,UD,UE,UO,UP,Tf,Tg,Tk,Tl,Tm,Tq,Tw,Tx,T3,T4,T7,TB,TC,TX,TY,Sb,Sc,Sd,Se,Sf,Sg,Sw,SD,SE,SG,e81,e]; all_goals tactic => exact rfl))
end
end Go.Proofs.YtpbeclkpohehgaaDoor
namespace Go.Proofs.YtpbeclkpohehgaaDoor
open Go Go.DL
set_option maxRecDepth 100000
set_option maxHeartbeats 4000000

theorem allT_bit {t : List Int} {a : Nat} : ∀ {i x : Nat},(allT t a i).testBit x = true ↔ a.testBit x = true ∨ ∃ j,j < i ∧ (t.getD j 0).toNat = x
  | 0,x => by
    rw [allT]
    exact ⟨.inl,fun h => h.elim id fun ⟨j,hj,_⟩ => by omega⟩
  | i + 1,x => by
    rw [allT,or_bit,Bool.or_eq_true,allT_bit,decide_eq_true_iff]
    constructor
    · rintro ((h | ⟨j,h1,h2⟩) | h)
      · exact .inl h
      · exact .inr ⟨j,by omega,h2⟩
      · exact .inr ⟨i,by omega,h⟩
    · rintro (h | ⟨j,h1,h2⟩)
      · exact .inl (.inl h)
      · by_cases hj : j = i
        · subst hj; exact .inr h2
        · exact .inl (.inr ⟨j,by omega,h2⟩)
abbrev plc (T : List (List Int)) (j i : Nat) : Nat := ((T.getD j []).getD i 0).toNat
theorem accT_bit {T : List (List Int)} : ∀ {J x : Nat},(accT T J).testBit x = true ↔ ∃ j,j < J ∧ ∃ i,i < (T.getD j []).length ∧ plc T j i = x
  | 0,x => by
    rw [accT,Nat.zero_testBit]
    exact ⟨fun h => by simp at h,fun ⟨j,hj,_⟩ => by omega⟩
  | J + 1,x => by
    rw [accT,allT_bit,accT_bit]
    constructor
    · rintro (⟨j,h1,h2⟩ | ⟨i,h1,h2⟩)
      · exact ⟨j,by omega,h2⟩
      · exact ⟨J,by omega,i,h1,h2⟩
    · rintro ⟨j,h1,i,h2,h3⟩
      by_cases hj : j = J
      · subst hj; exact .inr ⟨i,h2,h3⟩
      · exact .inl ⟨j,by omega,i,h2,h3⟩
theorem Good.fresh {l : Li} (g : Good l) {j i : Nat} (hj : j < l.ts.length) (hi : i < (l.ts.getD j []).length) : (0 ≤ (l.ts.getD j []).getD i 0 ∧ (l.ts.getD j []).getD i 0 < l.ls.length) ∧ (allT (l.ts.getD j []) (accT l.ts j) i).testBit (plc l.ts j i) = false := by
  have h := (errT_0 (g.tracks j hj)).2 i hi
  rcases elE_of (n := l.ls.length) (all := allT (l.ts.getD j []) (accT l.ts j) i) ((l.ts.getD j []).getD i 0) with ⟨_,h1,h2,_⟩ | ⟨_,_,_,h4⟩ | ⟨_,h4⟩
  · exact ⟨h1,h2⟩
  · rw [h] at h4; simp at h4
  · rw [h] at h4; simp at h4
theorem Good.apart {l : Li} (g : Good l) {j i i' : Nat} (hj : j < l.ts.length) (hi : i < (l.ts.getD j []).length) (h : i' < i) : plc l.ts j i' ≠ plc l.ts j i := by
  intro hc
  have := (g.fresh hj hi).2
  rw [allT_bit.2 (.inr ⟨i',h,hc⟩)] at this
  simp at this
theorem Good.apart2 {l : Li} (g : Good l) {j i j' i' : Nat} (hj : j < l.ts.length) (hi : i < (l.ts.getD j []).length) (h : j' < j) (h' : i' < (l.ts.getD j' []).length) : plc l.ts j' i' ≠ plc l.ts j i := by
  intro hc
  have := (g.fresh hj hi).2
  rw [allT_bit.2 (.inl (accT_bit.2 ⟨j',h,i',h',hc⟩))] at this
  simp at this
theorem bT_not {t : List Int} {b : Nat → Nat} {x : Nat} : ∀ m,(∀ i,i < m → (t.getD i 0).toNat ≠ x) → bT t b m x = b x
  | 0,_ => rfl
  | m + 1,h => by
    have h0 := h m (by omega)
    show (if x = (t.getD m 0).toNat then allT t 0 m else bT t b m x) = b x
    rw [if_neg fun hc => h0 hc.symm]
    exact bT_not m fun i hi => h i (by omega)
theorem bT_at {t : List Int} {b : Nat → Nat} {i : Nat} : ∀ m,i < m → (∀ i',i < i' → i' < m → (t.getD i 0).toNat ≠ (t.getD i' 0).toNat) → bT t b m (t.getD i 0).toNat = allT t 0 i
  | 0,hm,_ => by omega
  | m + 1,hm,h => by
    show (if (t.getD i 0).toNat = (t.getD m 0).toNat then allT t 0 m else bT t b m (t.getD i 0).toNat) = _
    by_cases hi : i = m
    · subst hi; rw [if_pos rfl]
    · rw [if_neg (h m (by omega) (by omega))]
      exact bT_at m (by omega) fun i' h1 h2 => h i' h1 (by omega)
theorem beh_at {l : Li} (g : Good l) : ∀ J,J ≤ l.ts.length → ∀ j i,j < J → i < (l.ts.getD j []).length → bA l.ts J (plc l.ts j i) = allT (l.ts.getD j []) 0 i
  | 0,_,j,i,hj,_ => by omega
  | J + 1,hJ,j,i,hj,hi => by
    show bT (l.ts.getD J []) (bA l.ts J) (l.ts.getD J []).length (plc l.ts j i) = _
    by_cases hjJ : j = J
    · subst hjJ
      exact bT_at _ hi fun i' h1 h2 => g.apart (by omega) h2 h1
    · rw [bT_not _ fun i' h1 hc => g.apart2 (j := J) (i := i') (j' := j) (i' := i) (by omega) h1 (by omega) hi hc.symm]
      exact beh_at g J (by omega) j i (by omega) hi
theorem bT_occ {t : List Int} {b : Nat → Nat} {x : Nat} : ∀ m,bT t b m x = b x ∨ ∃ i,i < m ∧ (t.getD i 0).toNat = x
  | 0 => .inl rfl
  | m + 1 => by
    show (if x = (t.getD m 0).toNat then allT t 0 m else bT t b m x) = b x ∨ _
    by_cases hx : x = (t.getD m 0).toNat
    · exact .inr ⟨m,by omega,hx.symm⟩
    · rw [if_neg hx]
      rcases bT_occ m with h | ⟨i,h1,h2⟩
      · exact .inl h
      · exact .inr ⟨i,by omega,h2⟩
theorem bA_occ {T : List (List Int)} {x : Nat} : ∀ J,bA T J x = 0 ∨ ∃ j,j < J ∧ ∃ i,i < (T.getD j []).length ∧ plc T j i = x
  | 0 => .inl rfl
  | J + 1 => by
    show bT (T.getD J []) (bA T J) (T.getD J []).length x = 0 ∨ _
    rcases bT_occ (t := T.getD J []) (b := bA T J) (x := x) (T.getD J []).length with h | ⟨i,h1,h2⟩
    · rw [h]
      rcases bA_occ (T := T) (x := x) J with h | ⟨j,h1,h2⟩
      · exact .inl h
      · exact .inr ⟨j,by omega,h2⟩
    · exact .inr ⟨J,by omega,i,h1,h2⟩
structure Prec (n : Nat) (b : Nat → Nat) : Prop where
  lt : ∀ k,b k < 2 ^ n
  irr : ∀ k,(b k).testBit k = false
  tr : ∀ j k,(b j).testBit k = true → ∀ i,(b k).testBit i = true → (b j).testBit i = true
theorem Good.prec {l : Li} (g : Good l) : Prec l.ls.length (behF l.ts) := by
  have hz : ∀ x,behF l.ts x = 0 ∨ ∃ j i,j < l.ts.length ∧ i < (l.ts.getD j []).length ∧ x = plc l.ts j i ∧ behF l.ts x = allT (l.ts.getD j []) 0 i := by
    intro x
    rcases bA_occ (T := l.ts) (x := x) l.ts.length with h | ⟨j,h1,i,h2,h3⟩
    · exact .inl h
    · exact .inr ⟨j,i,h1,h2,h3.symm,by rw [← h3]; exact beh_at g _ (Nat.le_refl _) j i h1 h2⟩
  refine ⟨fun k => ?_,fun k => ?_,fun x k hk y hy => ?_⟩
  · apply Nat.lt_pow_two_of_testBit
    intro y hy
    rcases hz k with h | ⟨j,i,h1,h2,h3,h4⟩
    · rw [h,Nat.zero_testBit]
    · rw [h4]
      cases hc : (allT (l.ts.getD j []) 0 i).testBit y with
      | false => rfl
      | true =>
        rcases allT_bit.1 hc with h5 | ⟨i',h5,h6⟩
        · rw [Nat.zero_testBit] at h5; simp at h5
        · have := (g.fresh h1 (i := i') (by omega)).1
          omega
  · rcases hz k with h | ⟨j,i,h1,h2,h3,h4⟩
    · rw [h,Nat.zero_testBit]
    · rw [h4]
      cases hc : (allT (l.ts.getD j []) 0 i).testBit k with
      | false => rfl
      | true =>
        rcases allT_bit.1 hc with h5 | ⟨i',h5,h6⟩
        · rw [Nat.zero_testBit] at h5; simp at h5
        · exact absurd (h6.trans h3) (g.apart h1 h2 h5)
  · rcases hz x with h | ⟨j,i,h1,h2,h3,h4⟩
    · rw [h,Nat.zero_testBit] at hk; simp at hk
    · rw [h4] at hk ⊢
      rcases allT_bit.1 hk with h5 | ⟨i',h5,h6⟩
      · rw [Nat.zero_testBit] at h5; simp at h5
      · have e : behF l.ts k = allT (l.ts.getD j []) 0 i' := by rw [← h6]; exact beh_at g _ (Nat.le_refl _) j i' h1 (by omega)
        rw [e] at hy
        rcases allT_bit.1 hy with h7 | ⟨i'',h7,h8⟩
        · rw [Nat.zero_testBit] at h7; simp at h7
        · exact allT_bit.2 (.inr ⟨i'',by omega,h8⟩)
theorem sub_lt {a c : Nat} (h : ∀ i,a.testBit i = true → c.testBit i = true) (hne : a ≠ c) : a < c := by
  have e : a &&& c = a := by
    apply Nat.eq_of_testBit_eq
    intro i
    rw [Nat.testBit_and]
    cases ha : a.testBit i with
    | false => rfl
    | true => rw [h i ha]; rfl
  have : a ≤ c := by
    have := Nat.and_le_right (n := a) (m := c)
    omega
  omega
theorem Prec.less {n : Nat} {b : Nat → Nat} (p : Prec n b) {j k : Nat} (h : (b j).testBit k = true) : b k < b j := by
  refine sub_lt (p.tr j k h) fun hc => ?_
  have := p.irr k
  rw [hc,h] at this
  simp at this
theorem Prec.next {n : Nat} {b : Nat → Nat} (p : Prec n b) {done : Nat} : ∀ (m k : Nat),k < n → done.testBit k = false → b k ≤ m → ∃ k,k < n ∧ done.testBit k = false ∧ ∀ i,(b k).testBit i = true → done.testBit i = true := by
  intro m
  induction m using Nat.strongRecOn with
  | ind m ih =>
    intro k hk hd hm
    by_cases hc : ∀ i,(b k).testBit i = true → done.testBit i = true
    · exact ⟨k,hk,hd,hc⟩
    · rw [Classical.not_forall] at hc
      obtain ⟨i,hi⟩ := hc
      rw [Classical.not_imp] at hi
      have h1 := p.less hi.1
      have hin : i < n := by
        by_cases h : i < n
        · exact h
        · have := bit_lt (p.lt k) (i := i) (by omega)
          rw [hi.1] at this; simp at this
      exact ih (b i) (by omega) i hin (by simpa using hi.2) (Nat.le_refl _)
end Go.Proofs.YtpbeclkpohehgaaDoor
namespace Go.Proofs.YtpbeclkpohehgaaDoor
open Go Go.DL
set_option maxRecDepth 100000
set_option maxHeartbeats 4000000

theorem so_bd {l : Li} (g : Good l) {t : Nat} {k : List St} (ht : l.ks[t]? = some k) (m : Int) : ∀ i,i ≤ k.length → 0 ≤ soN k m i ∧ soN k m i ≤ 1000000
  | 0,_ => by rw [soN]; omega
  | i + 1,hi => by
    obtain ⟨x,hx⟩ := at_ix (l := k) (i := i) (by omega)
    have h := g.st ht hx
    have ih := so_bd g ht m i (by omega)
    rcases soN_up (m := m) hx with ⟨_,h2⟩ | ⟨_,h2⟩
    · rw [h2]; omega
    · rw [h2]; omega
def lastF (l : Li) (a k : Nat) : Int := sourF (knAt l (ldN l k)) ((ldN l k).ah + endF l a)
theorem last_bd {l : Li} (g : Good l) {a k : Nat} (hk : k < l.ls.length) : 0 ≤ lastF l a k ∧ lastF l a k ≤ 1000000 := by
  obtain ⟨x,kd,h1,h2,h3,h4,h5,h6,h7,h8⟩ := g.ldn hk
  unfold lastF sourF
  rw [h2,h5]
  exact so_bd g h4 _ _ (Nat.le_refl _)
section
variable {l : Li} {b : Nat → Nat} {es : List (AV × AV)}
theorem w86 (g : Good l) {a : Nat} (ha : a < 2 ^ l.ls.length) {k : Nat} (hk : k < l.ls.length) : runW progX 86 [.pt 0 0,U a,I (k : Nat)] (hY l b es) = some (I (lastF l a k),hY l b es) := by
  have e := w110 (b := b) (es := es) g ha
  have bd := end_bd g ha
  obtain ⟨x,kd,h1,h2,h3,h4,h5,h6,h7,h8⟩ := g.ldn hk
  unfold lastF
  rw [h2,h5]
  have w := w54 kd (x.ah + endF l a) h6
  have c1 := lt_ix hk
  have c3 : (0 ≤ x.k) = True := eq_true (by omega)
  have c4 : (x.k < (l.ks.length : Int)) = True := eq_true (by omega)
  have q : IntKind.i64.wrap (x.ah + endF l a) = x.ah + endF l a := wrap_ok (by omega) (by omega)
  generalize endF l a = ef at *
  rw [r86 (by simp)]; unfold x86; dsimp only
  (sym => (simp [yC_nm,yC_rn,yM_s,yC_gr,yC_sl,yC_fz,yC_len,yC_0,yC_1,yC_2,yC_3,yC_4,yC_15,yC_same,Za,Zb,Zd,Ze,Zf,Zg,Zh,Zk,Zl,Zm,Zu,Z1,Z2,Z6,Z8,ZH,ZI,ZJ,ZM,ZQ,ZR,ZT,ZU,ZZ,Ya,Yg,Yh,Yj,Yv,Yw,YP,YQ,YV,YY,Xo,Xs,Xu,X0,XN,Wc,Wh,Wy,Wz,W0,W3,W6,W7,W8,W9,WA,WB,WC,WE,WF,WG,WH,WI,WJ,WK,WL,WM,WN,WO,WP,WR,WS,WT,WV,WW,WX,Va,Vb,Vc,Ve,Vf,Vg,Vh,Vi,Vj,Vk,Vm,Vn,Vr,Vt,Vu,Vv,V5,V6,V8,V9,VA,VB,VC,VF,VG,VH,VI,VK,VT,VU,VV,VW,VX,VY,VZ,Ua,Ub,Uc,Ud,Ue,Uf,Ui,Ul,Um,Un,Uo,Us,Uw,Uz,U0,U1,U2,U3,U4,U5,UC,UD,Tf,Tg,Th,Ti,Tk,Tv,Tw,Tx,T4,TB,TC,Sw,Sz,SD,SE,SG,e,h1,h4,c1,c3,c4,q,w]; all_goals tactic => exact rfl))
end
end Go.Proofs.YtpbeclkpohehgaaDoor
namespace Go.Proofs.YtpbeclkpohehgaaDoor
open Go Go.DL
set_option maxRecDepth 100000
set_option maxHeartbeats 4000000

section
variable {l : Li} {b : Nat → Nat}
end
end Go.Proofs.YtpbeclkpohehgaaDoor
namespace Go.Proofs.YtpbeclkpohehgaaDoor
open Go Go.DL
set_option maxRecDepth 100000
set_option maxHeartbeats 4000000

section
variable {l : Li} {b : Nat → Nat}
abbrev hV (l : Li) (b : Nat → Nat) : XH := [some (.blk true (.cells true l.c)),some (.blk false (.cells true (yC l b 2))),some (.blk true (.map true []))]
end
end Go.Proofs.YtpbeclkpohehgaaDoor
namespace Go.Proofs.YtpbeclkpohehgaaDoor
open Go Go.DL
set_option maxRecDepth 100000
set_option maxHeartbeats 4000000
section
variable {l : Li}
end
end Go.Proofs.YtpbeclkpohehgaaDoor
namespace Go.Proofs.YtpbeclkpohehgaaDoor
open Go Go.DL
set_option maxRecDepth 100000
set_option maxHeartbeats 4000000

def canB (b : Nat → Nat) (d k : Nat) : Bool := !d.testBit k && decide (dif (b k) d = 0)
theorem can_bit {b : Nat → Nat} {d k : Nat} (h : canB b d k = true) : d.testBit k = false := by
  unfold canB at h
  cases hc : d.testBit k with
  | false => rfl
  | true => rw [hc] at h; simp at h
theorem canB_iff {n : Nat} {b : Nat → Nat} (p : Prec n b) (hn : n ≤ 10) {d k : Nat} (hd : d < 2 ^ n) : canB b d k = true ↔ d.testBit k = false ∧ ∀ i,(b k).testBit i = true → d.testBit i = true := by
  unfold canB
  rw [Bool.and_eq_true,decide_eq_true_iff,dif_zero (by have := lt_10 (p.lt k) hn; omega) (by have := lt_10 hd hn; omega)]
  cases d.testBit k <;> simp
abbrev tl2 (p d : Nat) : XH := [some (.blk false (.cells true [.pt p 0])),cU d]
structure Home2 (n p : Nat) (l : Li) (b : Nat → Nat) (H : XH) : Prop where
  y : ∃ q,∀ d,hat (H ++ tl2 p d) p = some (.blk false (.cells true (yC l b q)))
  h1 : ∀ d,hat (H ++ tl2 p d) n = some (.blk false (.cells true [.pt p 0]))
  h2 : ∀ d,hat (H ++ tl2 p d) (n + 1) = cU d
  len : ∀ d,(H ++ tl2 p d).length = n + 2
  head : ∀ (d : Nat) (e : Env) (j k : Int),e 0 = .fn (.yield 0) [] [] → e 1 = .pt n 0 → e 2 = .pt (n + 1) 0 → e 10 = I j → e 11 = I k →
    headX (n + 2) [0,1,2,10,11] (some (.normal,e,H ++ tl2 p d)) = some ([.fn (.yield 0) [] [],.pt n 0,.pt (n + 1) 0,I j,I k],H ++ tl2 p d)
  fin : ∀ d,finX false (n + 2) (.tup []) (H ++ tl2 p d) = (.tup [],H ++ tl2 p d)
def Yd2 (p : Nat) (H H' : XH) (v : Nat) (b : Bool) : Prop := ∀ d : Nat,callX (runW progX) (runYW progX) (.fn (.yield 0) [] []) [I v] (H ++ tl2 p d) = some (.bool b,H' ++ tl2 p d)
section
variable {l : Li} {b : Nat → Nat} {n p d : Nat}
theorem can_facts (hn : l.ls.length ≤ 10) (hb : ∀ k,b k < 2 ^ 10) (hd : d < 2 ^ 10) {k : Nat} (hk : k < l.ls.length) :
    (canB b d k = true ∧ runW progX 83 [U d,I (k : Nat)] [] = some (.bool false,[]) ∧ (bitsA .andNot .u64 (b k : Int) (d : Int) = 0) = True) ∨
    (canB b d k = false ∧ runW progX 83 [U d,I (k : Nat)] [] = some (.bool false,[]) ∧ (bitsA .andNot .u64 (b k : Int) (d : Int) = 0) = False) ∨
    (canB b d k = false ∧ runW progX 83 [U d,I (k : Nat)] [] = some (.bool true,[])) := by
  have e := w83 (a := d) (lo_63 hd) (i := (k : Int)) (j := k) rfl (by omega)
  unfold canB
  cases h : d.testBit k with
  | true => rw [h] at e; exact .inr (.inr ⟨rfl,e⟩)
  | false =>
    rw [h] at e
    by_cases h2 : dif (b k) d = 0
    · exact .inl ⟨by simp [h2],e,neg_dif big_u (lo_63 (hb k)) (lo_63 hd) h2⟩
    · exact .inr (.inl ⟨by simp [h2],e,pos_dif big_u (lo_63 (hb k)) (lo_63 hd) h2⟩)
theorem skip105 (hn : l.ls.length ≤ 10) (hb : ∀ k,b k < 2 ^ 10) (hd : d < 2 ^ 10) {H : XH} (g : Home2 n p l b H) {k : Nat} (hk : k < l.ls.length) (hc : canB b d k = false) :
    headX (n + 2) [0,1,2,10,11] (execW progX 105 (n + 2) none (match x105l0 with | .loop _ a => a | c => c) (envL [0,1,2,10,11] [.fn (.yield 0) [] [],.pt n 0,.pt (n + 1) 0,I l.ls.length,I (k : Nat)]) (H ++ tl2 p d)) =
      some ([.fn (.yield 0) [] [],.pt n 0,.pt (n + 1) 0,I l.ls.length,I (k + 1 : Nat)],H ++ tl2 p d) := by
  have a1 := lt_ix hk
  have a2 := up_ix hk (by omega)
  obtain ⟨q,h0⟩ := g.y
  have h0 := h0 d
  have h1 := g.h1 d
  have h2 := g.h2 d
  have s1 := yC_b (l := l) (b := b) (m := q) (k := k) (by omega)
  have c2 : ((k : Int) < 10) = True := eq_true (by omega)
  have hd2 := g.head d
  unfold x105l0
  dsimp only
  rcases can_facts hn hb hd hk with ⟨h3,_,_⟩ | ⟨_,h3,h4⟩ | ⟨_,h3⟩
  · rw [hc] at h3; simp at h3
  · sym =>
      simp [yC_len,yC_0,yC_1,yC_2,yC_3,yC_4,yC_15,Za,Zb,Ze,Zf,Zg,Zh,Zk,Zl,Zm,Zo,Zp,Zr,Zu,Zx,Z1,Z2,Z4,Z6,Z7,ZH,ZJ,ZM,ZQ,ZR,ZT,ZU,ZV,ZW,ZX,ZZ,Yj,Yq,Ys,Yv,Yw,YB,YP,YQ,Xo,Xp,Wz,W0,W7,W9,WH,WK,WM,WR,WS,Ve,Vf,Vg,Vi,Vk,Vm,Vr,Vt,Vu,Vw,Vx,Vz,VL,VO,VP,VQ,VU,VV,VX,VY,Ub,Uc,Ui,Ul,Um,Un,Uo,Us,Ux,Uy,Uz,U0,U1,U2,U3,U4,U5,Tf,Tg,Tk,Tv,Tw,Ty,T3,T4,T7,TB,TC,TE,TF,S9,SC,SD,SE,SF,a1,a2,h0,h1,h2,s1,c2,h3,h4]
      tactic => exact hd2 _ _ _ rfl rfl rfl rfl rfl
  · sym =>
      simp [yC_len,yC_0,yC_1,yC_2,yC_3,yC_4,yC_15,Za,Zb,Ze,Zf,Zg,Zh,Zk,Zl,Zm,Zo,Zp,Zr,Zu,Zx,Z1,Z2,Z4,Z6,Z7,ZH,ZJ,ZM,ZQ,ZR,ZT,ZU,ZV,ZW,ZX,ZZ,Yj,Yq,Ys,Yv,Yw,YB,YP,YQ,Xo,Xp,Wz,W0,W7,W9,WH,WK,WM,WR,WS,Ve,Vf,Vg,Vi,Vk,Vm,Vr,Vt,Vu,Vw,Vx,Vz,VL,VO,VP,VQ,VU,VV,VX,VY,Ub,Uc,Ui,Ul,Um,Un,Uo,Us,Ux,Uy,Uz,U0,U1,U2,U3,U4,U5,Tf,Tg,Tk,Tv,Tw,Ty,T3,T4,T7,TB,TC,TE,TF,S9,SC,SD,SE,SF,a1,a2,h0,h1,h2,s1,c2,h3]
      tactic => exact hd2 _ _ _ rfl rfl rfl rfl rfl
theorem step105 (hn : l.ls.length ≤ 10) (hb : ∀ k,b k < 2 ^ 10) (hd : d < 2 ^ 10) {H H' : XH} (g : Home2 n p l b H) (g' : Home2 n p l b H') {k : Nat} (hk : k < l.ls.length) (hc : canB b d k = true) (hy : Yd2 p H H' k true) :
    headX (n + 2) [0,1,2,10,11] (execW progX 105 (n + 2) none (match x105l0 with | .loop _ a => a | c => c) (envL [0,1,2,10,11] [.fn (.yield 0) [] [],.pt n 0,.pt (n + 1) 0,I l.ls.length,I (k : Nat)]) (H ++ tl2 p d)) =
      some ([.fn (.yield 0) [] [],.pt n 0,.pt (n + 1) 0,I l.ls.length,I (k + 1 : Nat)],H' ++ tl2 p d) := by
  have a1 := lt_ix hk
  have a2 := up_ix hk (by omega)
  obtain ⟨q,h0⟩ := g.y
  have h0 := h0 d
  have h1 := g.h1 d
  have h2 := g.h2 d
  obtain ⟨q',h0'⟩ := g'.y
  have h0' := h0' d
  have h1' := g'.h1 d
  have h2' := g'.h2 d
  have s1 := yC_b (l := l) (b := b) (m := q) (k := k) (by omega)
  have c2 : ((k : Int) < 10) = True := eq_true (by omega)
  have hd2 := g'.head d
  have h5 := hy d
  unfold x105l0
  dsimp only
  rcases can_facts hn hb hd hk with ⟨_,h3,h4⟩ | ⟨h3,_⟩ | ⟨h3,_⟩
  · sym =>
      simp [yC_len,yC_0,yC_1,yC_2,yC_3,yC_4,yC_15,Za,Zb,Ze,Zf,Zg,Zh,Zk,Zl,Zm,Zo,Zp,Zu,Zx,Z1,Z2,Z4,Z6,Z7,ZH,ZJ,ZM,ZQ,ZR,ZT,ZU,ZV,ZX,ZZ,Yj,Yq,Ys,Yv,Yw,YB,YP,YQ,Xd,Xo,Xp,Wz,W0,W7,W9,WA,WH,WJ,WK,WM,WR,WS,Ve,Vf,Vg,Vi,Vk,Vl,Vm,Vr,Vt,Vu,Vw,Vx,Vz,VL,VO,VP,VQ,VU,VV,VX,VY,Ub,Uc,Ui,Ul,Um,Un,Uo,Us,Uw,Ux,Uz,U0,U1,U2,U3,U4,U5,Tf,Tg,Tk,Tv,Tw,Ty,T3,T4,T7,TB,TC,TE,TF,S9,SC,SD,SE,SF,a1,a2,h0,h1,h2,h0',h1',h2',s1,c2,h3,h4,h5]
      tactic => exact hd2 _ _ _ rfl rfl rfl rfl rfl
  · rw [hc] at h3; simp at h3
  · rw [hc] at h3; simp at h3
theorem left105 (hn : l.ls.length ≤ 10) (hb : ∀ k,b k < 2 ^ 10) (hd : d < 2 ^ 10) {H X : XH} (g : Home2 n p l b H) {k : Nat} (hk : k < l.ls.length) (hc : canB b d k = true) (h5 : callX (runW progX) (runYW progX) (.fn (.yield 0) [] []) [I (k : Nat)] (H ++ tl2 p d) = some (.bool false,X)) (i0 : (hat X p).isSome = true) (i1 : (hat X n).isSome = true) (i2 : (hat X (n + 1)).isSome = true) :
    ∃ e,execW progX 105 (n + 2) none (match x105l0 with | .loop _ a => a | c => c) (envL [0,1,2,10,11] [.fn (.yield 0) [] [],.pt n 0,.pt (n + 1) 0,I l.ls.length,I (k : Nat)]) (H ++ tl2 p d) = some (.ret,e,X) := by
  have a1 := lt_ix hk
  obtain ⟨q,h0⟩ := g.y
  have h0 := h0 d
  have h1 := g.h1 d
  have h2 := g.h2 d
  have s1 := yC_b (l := l) (b := b) (m := q) (k := k) (by omega)
  have c2 : ((k : Int) < 10) = True := eq_true (by omega)
  unfold x105l0
  dsimp only
  rcases can_facts hn hb hd hk with ⟨_,h3,h4⟩ | ⟨h3,_⟩ | ⟨h3,_⟩
  · sym =>
      simp [yC_len,yC_0,yC_1,yC_2,yC_3,yC_4,yC_15,Za,Zb,Ze,Zf,Zg,Zh,Zk,Zl,Zm,Zo,Zp,Zu,Zx,Z1,Z2,Z4,Z6,Z7,ZH,ZJ,ZM,ZQ,ZR,ZT,ZU,ZV,ZX,ZZ,Yq,Ys,Yv,Yw,YB,YP,YQ,Xd,Xo,Xp,Wz,W0,W7,W9,WA,WH,WJ,WK,WM,WR,WS,Ve,Vf,Vg,Vi,Vk,Vl,Vm,Vr,Vt,Vu,Vw,Vx,Vz,VL,VO,VP,VU,VV,VX,VY,Ub,Uc,Ui,Um,Un,Uo,Us,Uw,Ux,Uz,U0,U1,U2,U3,U4,U5,Tf,Tg,Tk,Tv,Tw,Tx,Ty,T3,T4,T6,T8,TB,TC,TE,TF,S9,SC,SD,SE,SF,a1,h0,h1,h2,s1,c2,h3,h4,h5,i0,i1,i2]
      tactic => exact ⟨_,rfl⟩
  · rw [hc] at h3; simp at h3
  · rw [hc] at h3; simp at h3
def Lv (n p d : Nat) (H : XH) (k : Nat) (X : XH) : Prop := ∃ Y,callX (runW progX) (runYW progX) (.fn (.yield 0) [] []) [I (k : Nat)] (H ++ tl2 p d) = some (.bool false,Y) ∧ finX false (n + 2) (.tup []) Y = (.tup [],X) ∧ (hat Y p).isSome = true ∧ (hat Y n).isSome = true ∧ (hat Y (n + 1)).isSome = true
theorem loop_head {D : Nat → Option XFn} {K k : Nat} {rd : Option Nat} {L : List Nat} {a : XCode} {e e' : Env} {H : XH} (h : headX k L (some (.normal,e,H)) = headX k L (some (.normal,e',H))) : execW D K k rd (.loop L a) e H = execW D K k rd (.loop L a) e' H := by
  simp only [headX,Option.some.injEq,Prod.mk.injEq] at h
  rw [execW_loop,execW_loop (e := e')]
  have e1 : canonE k L e H = canonE k L e' H := congrArg (envL L) h.1
  rw [e1,h.2]
theorem next_rule (hn : l.ls.length ≤ 10) (hb : ∀ k,b k < 2 ^ 10) (hd : d < 2 ^ 10) {σ : Type} (Gs : σ → XH) (hm : ∀ s,Home2 n p l b (Gs s)) (Q : Nat → σ → Prop) (Q' : XH → Prop) (s0 : σ) (q0 : Q 0 s0)
    (hc : ∀ k s,k < l.ls.length → Q k s → canB b d k = true → (∃ s',Yd2 p (Gs s) (Gs s') k true ∧ Q (k + 1) s') ∨ (∃ X,Lv n p d (Gs s) k X ∧ Q' X))
    (hs : ∀ k s,k < l.ls.length → Q k s → canB b d k = false → Q (k + 1) s) :
    (∃ s,Q l.ls.length s ∧ runW progX 105 [.fn (.yield 0) [] [],.pt n 0,.pt (n + 1) 0] (Gs s0 ++ tl2 p d) = some (.tup [],Gs s ++ tl2 p d)) ∨
    (∃ X,Q' X ∧ runW progX 105 [.fn (.yield 0) [] [],.pt n 0,.pt (n + 1) 0] (Gs s0 ++ tl2 p d) = some (.tup [],X)) := by
  have z := Te (n := (l.ls.length : Int))
  have key : ∀ (e : Env),e 0 = .fn (.yield 0) [] [] → e 1 = .pt n 0 → e 2 = .pt (n + 1) 0 → e 10 = I l.ls.length → e 11 = I 0 →
      ∃ t : Nat × σ,(t.1 ≤ l.ls.length ∧ Q t.1 t.2) ∧ (t.1 = l.ls.length ∨ (t.1 < l.ls.length ∧ canB b d t.1 = true ∧ ∃ X,Lv n p d (Gs t.2) t.1 X ∧ Q' X)) ∧
        execW progX 105 (n + 2) none x105l0 e (Gs s0 ++ tl2 p d) = execW progX 105 (n + 2) none (match x105l0 with | .loop _ a => a | c => c) (envL [0,1,2,10,11] [.fn (.yield 0) [] [],.pt n 0,.pt (n + 1) 0,I l.ls.length,I (t.1 : Nat)]) (Gs t.2 ++ tl2 p d) := by
    intro e e0 e1 e2 e3 e4
    unfold x105l0
    refine loop_inv (σ := Nat × σ) (fun t => [.fn (.yield 0) [] [],.pt n 0,.pt (n + 1) 0,I l.ls.length,I (t.1 : Nat)]) (fun t => Gs t.2 ++ tl2 p d) (fun t => t.1 ≤ l.ls.length ∧ Q t.1 t.2) (fun t => t.1 = l.ls.length ∨ (t.1 < l.ls.length ∧ canB b d t.1 = true ∧ ∃ X,Lv n p d (Gs t.2) t.1 X ∧ Q' X)) (fun t => l.ls.length - t.1) (0,s0) ?_ ⟨by omega,q0⟩ ?_
    · exact (hm s0).head d e _ _ e0 e1 e2 e3 e4
    · rintro ⟨k,s⟩ ⟨hk,hq⟩
      dsimp only at hk hq ⊢
      by_cases hkn : k = l.ls.length
      · subst hkn
        refine .inl ⟨?_,.inl rfl⟩
        (sym => (simp [yC_len,yC_0,yC_1,yC_2,yC_3,yC_4,yC_15,Za,Zb,Zf,Zh,Zl,Zm,Zu,Z1,Z2,Z6,ZE,ZG,ZZ,Yb,Ys,YP,Wh,Wl,Wz,W0,W8,W9,V4,V5,V6,VB,VD,VF,VK,VL,VO,VQ,VR,VT,Ud,Uy,UC,UD,Te,Tf,Tg,Tk,Tv,Tw,Tz,T3,T4,T5,T8,T9,TB,TC,z]; all_goals tactic => exact rfl))
      · have hk2 : k < l.ls.length := by omega
        cases hcb : canB b d k with
        | false => exact .inr ⟨(k + 1,s),by dsimp only; omega,skip105 hn hb hd (hm s) hk2 hcb,by dsimp only; omega,hs k s hk2 hq hcb⟩
        | true =>
          rcases hc k s hk2 hq hcb with ⟨s',h1,h2⟩ | ⟨X,⟨Y,h1,h1',i0,i1,i2⟩,h2⟩
          · exact .inr ⟨(k + 1,s'),by dsimp only; omega,step105 hn hb hd (hm s) (hm s') hk2 hcb h1,by dsimp only; omega,h2⟩
          · refine .inl ⟨?_,.inr ⟨hk2,rfl,X,⟨Y,h1,h1',i0,i1,i2⟩,h2⟩⟩
            obtain ⟨e',he⟩ := left105 hn hb hd (hm s) hk2 hcb h1 i0 i1 i2
            unfold x105l0 at he
            dsimp only at he
            rw [he]; rfl
  obtain ⟨q,h0⟩ := (hm s0).y
  have h0 := h0 d
  have h1 := (hm s0).h1 d
  have h2 := (hm s0).h2 d
  have l0 := (hm s0).len d
  have st : ∀ R,(∀ E : Env,E 0 = .fn (.yield 0) [] [] → E 1 = .pt n 0 → E 2 = .pt (n + 1) 0 → E 10 = I l.ls.length → E 11 = I 0 → execW progX 105 (n + 2) none x105l0 E (Gs s0 ++ tl2 p d) = R) → runW progX 105 [.fn (.yield 0) [] [],.pt n 0,.pt (n + 1) 0] (Gs s0 ++ tl2 p d) = retX [] false (n + 2) (blockX 0 R) := by
    intro R hR
    rw [r105 (by simp)]; unfold x105; dsimp only
    rw [l0]
    sym =>
      simp [yC_len,yC_0,yC_1,yC_2,yC_3,yC_4,yC_15,Za,Zb,Zf,Zh,Zl,Zm,Zu,Z1,Z2,Z6,ZE,ZG,ZZ,Yb,Ys,YP,Wh,Wl,Wz,W0,W8,W9,V4,V5,V6,VB,VD,VF,VK,VL,VO,VQ,VR,VT,Ud,Uy,UC,UD,Te,Tf,Tg,Tk,Tv,Tw,Tz,T3,T4,T5,T8,T9,TB,TC,h0,h1,h2]
      tactic => exact congrArg (fun R => retX [] false (n + 2) (blockX 0 R)) (hR _ rfl rfl rfl rfl rfl)
  have hst := st _ fun E g0 g1 g2 g3 g4 => loop_head (e' := envL [0,1,2,10,11] [.fn (.yield 0) [] [],.pt n 0,.pt (n + 1) 0,I l.ls.length,I 0]) (((hm s0).head d E _ _ g0 g1 g2 g3 g4).trans ((hm s0).head d _ _ _ rfl rfl rfl rfl rfl).symm)
  obtain ⟨⟨k,s⟩,⟨hk,hq⟩,hend,hrun⟩ := key (envL [0,1,2,10,11] [.fn (.yield 0) [] [],.pt n 0,.pt (n + 1) 0,I l.ls.length,I 0]) rfl rfl rfl rfl rfl
  unfold x105l0 at hst hrun
  dsimp only at hrun
  rw [hst,hrun]
  dsimp only at hk hq hend ⊢
  rcases hend with rfl | ⟨hk2,hcb,X,⟨Y,hy,hf,i0,i1,i2⟩,hq'⟩
  · refine .inl ⟨s,hq,?_⟩
    have hf := (hm s).fin d
    (sym => (simp [yC_len,yC_0,yC_1,yC_2,yC_3,yC_4,yC_15,Za,Zb,Zf,Zh,Zl,Zm,Zu,Z1,Z2,Z6,ZE,ZG,ZZ,Yb,Ys,YP,Wh,Wl,Wz,W0,W8,W9,V4,V5,V6,VB,VD,VF,VK,VL,VO,VQ,VR,VT,Ud,Uy,UC,UD,Te,Tf,Tg,Tk,Tv,Tw,Tz,T3,T4,T5,T8,T9,TB,TC,z,hf]; all_goals tactic => exact rfl))
  · refine .inr ⟨X,hq',?_⟩
    obtain ⟨e',he⟩ := left105 hn hb hd (hm s) hk2 hcb hy i0 i1 i2
    unfold x105l0 at he
    dsimp only at he
    rw [he]
    (sym => (simp [yC_len,yC_0,yC_1,yC_2,yC_3,yC_4,yC_15,Za,Zb,Zf,Zh,Zl,Zm,Zu,Z1,Z2,Z6,ZE,ZG,ZZ,Yb,Ys,YP,Wh,Wl,Wz,W0,W8,W9,V4,V5,V6,VB,VD,VF,VK,VL,VO,VQ,VR,VT,Ud,Uy,UC,UD,Te,Tf,Tg,Tk,Tv,Tw,Tz,T3,T4,T5,T8,T9,TB,TC,hf]; all_goals tactic => exact rfl))
end
end Go.Proofs.YtpbeclkpohehgaaDoor
namespace Go.Proofs.YtpbeclkpohehgaaDoor
open Go Go.DL
set_option maxRecDepth 100000
set_option maxHeartbeats 4000000

def encM (es : List (Int × Int)) : List (AV × AV) := es.map fun p => (.int .u64 p.1,I p.2)
def look (es : List (Int × Int)) (x : Int) : Option Int := match es with
  | [] => none
  | p :: r => if p.1 = x then some p.2 else look r x
theorem findA_enc (es : List (Int × Int)) (x : Int) : findA false (.int .u64 x) (encM es) = some ((look es x).map I) := by
  induction es with
  | nil => rfl
  | cons p r ih =>
    simp only [encM,List.map_cons,findA,keyEqA,if_true,look] at ih ⊢
    by_cases h : p.1 = x
    · simp [h]
    · rw [show (x == p.1) = false by simpa using fun e => h e.symm]
      simpa [h] using ih
def put (es : List (Int × Int)) (k v : Int) : List (Int × Int) := match es with
  | [] => [(k,v)]
  | p :: r => if k = p.1 then (p.1,v) :: r else p :: put r k v
theorem putA_enc (es : List (Int × Int)) (k v : Int) : putA false (.int .u64 k) (I v) (encM es) = some (encM (put es k v)) := by
  induction es with
  | nil => rfl
  | cons p r ih =>
    simp only [encM,List.map_cons,putA,keyEqA,if_true,put] at ih ⊢
    by_cases h : k = p.1
    · simp [h]
    · simp only [show (k == p.1) = false by simpa using h,if_neg h,ih,Option.map_some,List.map_cons]
theorem look_put (es : List (Int × Int)) (k v x : Int) : look (put es k v) x = if k = x then some v else look es x := by
  induction es with
  | nil => rfl
  | cons p r ih =>
    rw [put]
    by_cases h : k = p.1
    · rw [if_pos h,look,look,h]
      by_cases h2 : p.1 = x
      · rw [if_pos h2,if_pos h2]
      · rw [if_neg h2,if_neg h2,if_neg h2]
    · rw [if_neg h,look,look,ih]
      by_cases h2 : p.1 = x
      · rw [if_pos h2,if_pos h2,if_neg fun hc => h (hc.trans h2.symm)]
      · rw [if_neg h2,if_neg h2]
def restF (l : Li) (b : Nat → Nat) : Nat → Nat → Int
  | 0,_ => 0
  | m + 1,d => ((List.range l.ls.length).filter (canB b d)).foldl (fun x k => mnI x (mxI (lastF l (d ||| 2 ^ k) k) (restF l b m (d ||| 2 ^ k)))) 1000000
def rstF (l : Li) (b : Nat → Nat) (d : Nat) : Int := restF l b (l.ls.length - pop d l.ls.length) d
def wthF (l : Li) (b : Nat → Nat) (d k : Nat) : Int := mxI (lastF l (d ||| 2 ^ k) k) (rstF l b (d ||| 2 ^ k))
theorem pop_or {d k : Nat} (h : d.testBit k = false) : ∀ n,(k < n → pop (d ||| 2 ^ k) n = pop d n + 1) ∧ (n ≤ k → pop (d ||| 2 ^ k) n = pop d n)
  | 0 => ⟨fun h => by omega,fun _ => rfl⟩
  | n + 1 => by
    have ih := pop_or h n
    rw [pop,pop,or_bit]
    constructor
    · intro hk
      by_cases hkn : k = n
      · subst hkn
        rw [ih.2 (Nat.le_refl _),h]
        simp
      · rw [ih.1 (by omega),decide_eq_false hkn,Bool.or_false]
        omega
    · intro hk
      rw [ih.2 (by omega),decide_eq_false (by omega : ¬ k = n),Bool.or_false]
theorem rest_full {l : Li} {b : Nat → Nat} {d : Nat} (h : pop d l.ls.length = l.ls.length) : rstF l b d = 0 := by
  rw [rstF,h,Nat.sub_self,restF]
def rsT (l : Li) (b : Nat → Nat) (d : Nat) : Nat → Int
  | 0 => 1000000
  | k + 1 => if canB b d k = true then mnI (rsT l b d k) (wthF l b d k) else rsT l b d k
theorem rsT_fl {l : Li} {b : Nat → Nat} {d : Nat} : ∀ n,rsT l b d n = ((List.range n).filter (canB b d)).foldl (fun x k => mnI x (wthF l b d k)) 1000000
  | 0 => rfl
  | n + 1 => by
    rw [rsT,List.range_succ,List.filter_append,List.foldl_append,← rsT_fl n]
    cases h : canB b d n <;> simp [h]
theorem foldl_on {α β : Type} {f g : α → β → α} : ∀ (ks : List β) (z : α),(∀ x k,k ∈ ks → f x k = g x k) → ks.foldl f z = ks.foldl g z
  | [],_,_ => rfl
  | k :: ks,z,h => by
    rw [List.foldl_cons,List.foldl_cons,h z k (by simp)]
    exact foldl_on ks _ fun x j hj => h x j (by simp [hj])
theorem rest_step {l : Li} {b : Nat → Nat} {d : Nat} (h : pop d l.ls.length < l.ls.length) : rstF l b d = rsT l b d l.ls.length := by
  rw [rsT_fl,rstF]
  obtain ⟨m,hm⟩ : ∃ m,l.ls.length - pop d l.ls.length = m + 1 := ⟨l.ls.length - pop d l.ls.length - 1,by omega⟩
  rw [hm,restF]
  refine foldl_on _ _ fun x k hk => ?_
  have hk := List.mem_filter.1 hk
  have hb : d.testBit k = false := by
    have := hk.2
    unfold canB at this
    cases hc : d.testBit k with
    | false => rfl
    | true => rw [hc] at this; simp at this
  have e := (pop_or hb l.ls.length).1 (List.mem_range.1 hk.1)
  unfold wthF rstF
  rw [show l.ls.length - pop (d ||| 2 ^ k) l.ls.length = m by omega]
def Memo (l : Li) (b : Nat → Nat) (es : List (Int × Int)) : Prop := ∀ (d : Nat) (v : Int),look es d = some v → v = rstF l b d
theorem memo_0 (l : Li) (b : Nat → Nat) : Memo l b [] := fun d v h => by simp [look] at h
theorem memo_put {l : Li} {b : Nat → Nat} {es : List (Int × Int)} (h : Memo l b es) (d : Nat) : Memo l b (put es d (rstF l b d)) := by
  intro d' v hv
  rw [look_put] at hv
  by_cases hd : (d : Int) = d'
  · rw [if_pos hd] at hv
    have : d = d' := by omega
    subst this
    exact (Option.some.inj hv).symm
  · rw [if_neg hd] at hv
    exact h d' v hv
theorem or_n {a k : Nat} (ha : a < 2 ^ 10) (hk : k < 10) : bitsA .or .u64 (a : Int) (IntKind.u64.wrap (1 * 2 ^ min k IntKind.u64.bits)) = ((a ||| 2 ^ k : Nat) : Int) := by
  rw [shl_one big_u (by omega),bits_or big_u (lo_63 ha) (Nat.pow_lt_pow_right (by omega) (by omega))]
theorem or_n1 {a k : Nat} (ha : a < 2 ^ 10) (hk : k < 10) : bitsA .or .u64 (a : Int) (IntKind.u64.wrap (2 ^ min k IntKind.u64.bits)) = ((a ||| 2 ^ k : Nat) : Int) := by
  rw [shl_1 big_u (by omega),bits_or big_u (lo_63 ha) (Nat.pow_lt_pow_right (by omega) (by omega))]
section
variable {l : Li} {b : Nat → Nat}
theorem w75 (g : Good l) {d k : Nat} (hd : d < 2 ^ l.ls.length) (hk : k < l.ls.length) {es es' : List (Int × Int)} {r : Int} (h : runW progX 72 [.pt 0 0,U (d ||| 2 ^ k)] (hY l b (encM es)) = some (I r,hY l b (encM es'))) :
    runW progX 75 [.pt 0 0,U d,I (k : Nat)] (hY l b (encM es)) = some (I (mxI (lastF l (d ||| 2 ^ k) k) r),hY l b (encM es')) := by
  have hn := g.few
  have hd2 : d < 2 ^ 10 := lt_10 hd hn
  have e86 := w86 (b := b) (es := encM es) g (or_lt hd hk) hk
  have n0 := (eq_false (by omega) : ((k : Int) < 0) = False)
  have o1 := or_n hd2 (k := k) (by omega)
  have o2 := or_n1 hd2 (k := k) (by omega)
  unfold mxI
  generalize lastF l (d ||| 2 ^ k) k = lv at *
  generalize d ||| 2 ^ k = d' at *
  rw [r75 (by simp)]; unfold x75; dsimp only
  (sym => (simp [yC_nm,yC_rn,yM_s,yC_gr,yC_sl,yC_fz,yC_len,yC_0,yC_1,yC_2,yC_3,yC_4,yC_15,yC_same,Za,Zb,Zf,Zg,Zh,Zj,Zl,Zm,Zu,Z2,ZF,ZO,ZP,ZT,ZU,Yn,Yo,Yw,YD,YQ,YY,Xo,Xu,X0,XN,Wc,Wh,Wy,W3,W6,W7,W8,W9,WA,WB,WC,WE,WF,WG,WH,WI,WJ,WK,WL,WM,WN,WO,WP,WR,WS,WT,WV,WW,WX,Va,Vb,Vc,Ve,Vf,Vg,Vh,Vr,Vt,Vu,Vv,V5,V6,V8,V9,VA,VB,VC,VF,VG,VH,VI,VK,VT,VU,VV,VW,VX,VY,VZ,Ua,Ub,Uc,Uf,Uw,U1,U2,U3,U4,U5,UC,UD,Tv,Tw,Tx,T4,TB,TC,Sw,SD,SE,SG,n0,o1,o2,e86,h]; all_goals tactic => exact rfl))
theorem w74 (es : List (AV × AV)) (d : Nat) : runW progX 74 [.pt 0 0,U d] (hY l b es) = some (.fn (.func 105) [] [.pt 2 0,.pt 3 0],[some (.blk false (.cells true (yC l b 1))),some (.blk true (.map true es)),some (.blk false (.cells true [.pt 0 0])),cU d]) := by
  rw [r74 (by simp)]; unfold x74; dsimp only
  (sym => (simp [yC_nm,yC_rn,yM_s,yC_gr,yC_sl,yC_fz,yC_len,yC_0,yC_1,yC_2,yC_3,yC_4,yC_15,yC_same,Za,Zb,Zf,Zh,Zl,Zn,Zu,Zw,Zy,YY,Xc,Xe,Xi,Xu,Xy,XQ,Wc,Wh,Wk,Wm,Wq,Wy,W8,WA,WB,WE,WF,WH,WI,WJ,WL,WN,WO,WP,WQ,WV,WW,WX,Va,Vb,Vc,Vr,V5,V6,V8,V9,VA,VB,VC,VF,VG,VH,VI,VK,VT,VU,VV,VW,VX,VY,VZ,Ua,Ub,Uc,Uf,Uw,U2,U3,U4,U5,UC,UD,UO,UP,Tq,Tw,Tx,T4,TB,TC,Sw]; all_goals tactic => exact rfl))
abbrev h72 (l : Li) (b : Nat → Nat) (d : Nat) (es : List (Int × Int)) (v : Int) : XH := [some (.loop 72 0 [.pt 1 0,.pt 4 0,.pt 5 0] .ready),some (.blk false (.cells true [.pt 2 0])),some (.blk false (.cells true (yC l b 3))),some (.blk true (.map true (encM es))),cU d,some (.blk true (.cells true [I v]))]
theorem home72 (d : Nat) (es : List (Int × Int)) (v : Int) : Home2 6 2 l b (h72 l b d es v) := by
  refine ⟨⟨3,fun _ => rfl⟩,fun _ => rfl,fun _ => rfl,fun _ => rfl,?_,?_⟩
  · intro a e j k h0 h1 h2 h3 h4
    (sym => (simp [yC_nm,yC_rn,yM_s,yC_gr,yC_sl,yC_fz,yC_len,yC_0,yC_1,yC_2,yC_3,yC_4,yC_15,yC_same,Za,YQ,YU,YY,Xd,Xo,Xr,Xu,Xz,XK,Wf,WA,WF,WH,WJ,WL,WM,WN,WO,WP,WV,WW,WX,WY,Va,Vb,Vc,Vd,Vr,V8,V9,VA,VM,VN,VU,VV,VW,VX,VY,VZ,Ua,Uw,U1,U2,U3,U4,U5,U8,UC,TA,Sw,h0,h1,h2,h3,h4]; all_goals tactic => exact rfl))
  · intro a
    (sym => (simp [yC_nm,yC_rn,yM_s,yC_gr,yC_sl,yC_fz,yC_len,yC_0,yC_1,yC_2,yC_3,yC_4,yC_15,yC_same,Za,YQ,YU,YY,Xd,Xo,Xr,Xu,Xz,XK,Wf,WA,WF,WH,WJ,WL,WM,WN,WO,WP,WV,WW,WX,WY,Va,Vb,Vc,Vd,Vr,V8,V9,VA,VM,VN,VU,VV,VW,VX,VY,VZ,Ua,Uw,U1,U2,U3,U4,U5,U8,UC,TA,Sw]; all_goals tactic => exact rfl))
theorem y72 {d k : Nat} {es es' : List (Int × Int)} {v r : Int} (h : runW progX 75 [.pt 0 0,U d,I (k : Nat)] (hY l b (encM es)) = some (I r,hY l b (encM es'))) : Yd2 2 (h72 l b d es v) (h72 l b d es' (mnI v r)) k true := by
  have y : runYW progX (.fn (.yield 0) [] []) [I (k : Nat)] (h72 l b d es v) = some (.bool true,h72 l b d es' (mnI v r)) := by
    rw [runYW_eq (K := 72) (d := x72) (site := 0) (vs := [.pt 1 0,.pt 4 0,.pt 5 0]) rfl rfl (by rfl) rfl]
    unfold mnI
    (sym => (simp [yC_nm,yC_rn,yM_s,yC_gr,yC_sl,yC_fz,yC_len,yC_0,yC_1,yC_2,yC_3,yC_4,yC_15,yC_same,Za,Zb,Zc,Zd,Ze,Zf,Zg,Zh,Zk,Zl,Zm,Zu,ZF,ZH,ZJ,ZK,ZM,ZN,ZQ,ZR,ZT,ZU,YE,YQ,YR,YY,Xd,Xe,Xo,Xp,Xu,Xz,X0,XN,Wc,Wm,Ww,Wy,Wz,W0,W3,W4,W6,W7,W9,WA,WB,WC,WE,WF,WG,WH,WI,WJ,WK,WL,WM,WN,WO,WP,WR,WS,WT,WV,WW,WX,WY,Va,Vb,Vc,Vd,Ve,Vf,Vg,Vh,Vi,Vj,Vk,Vm,Vn,Vr,Vt,Vu,Vv,Vw,Vx,Vy,Vz,V7,VA,VL,VU,VV,VW,VX,VY,VZ,Ua,Ub,Uc,Uf,Ui,Ul,Um,Un,Uo,Us,Uw,Uz,U0,U1,U2,U3,U4,U5,U6,U7,U8,U9,UE,UM,UN,Tf,Tg,Tk,Tl,Tm,T3,T7,TB,TC,TX,TY,TZ,Sa,Sj,Sk,Sl,Sm,Sn,Sv,Sw,Sz,S2,S3,S4,S5,SD,SE,SF,SG,h]; all_goals tactic => exact rfl))
  intro c
  (sym => (simp [yC_nm,yC_rn,yM_s,yC_gr,yC_sl,yC_fz,yC_len,yC_0,yC_1,yC_2,yC_3,yC_4,yC_15,yC_same,Za,Zb,Zc,Zd,Ze,Zf,Zg,Zh,Zk,Zl,Zm,Zu,ZF,ZH,ZJ,ZK,ZM,ZN,ZQ,ZR,ZT,ZU,YE,YQ,YR,YY,Xd,Xe,Xo,Xp,Xu,Xz,X0,XN,Wc,Wm,Ww,Wy,Wz,W0,W3,W4,W6,W7,W9,WA,WB,WC,WE,WF,WG,WH,WI,WJ,WK,WL,WM,WN,WO,WP,WR,WS,WT,WV,WW,WX,WY,Va,Vb,Vc,Vd,Ve,Vf,Vg,Vh,Vi,Vj,Vk,Vm,Vn,Vr,Vt,Vu,Vv,Vw,Vx,Vy,Vz,V7,VA,VL,VU,VV,VW,VX,VY,VZ,Ua,Ub,Uc,Uf,Ui,Ul,Um,Un,Uo,Us,Uw,Uz,U0,U1,U2,U3,U4,U5,U6,U7,U8,U9,UE,UM,UN,Tf,Tg,Tk,Tl,Tm,T3,T7,TB,TC,TX,TY,TZ,Sa,Sj,Sk,Sl,Sm,Sn,Sv,Sw,Sz,S2,S3,S4,S5,SD,SE,SF,SG,y]; all_goals tactic => exact rfl))
theorem w72 (g : Good l) (p : Prec l.ls.length b) : ∀ (m d : Nat),d < 2 ^ l.ls.length → l.ls.length - pop d l.ls.length = m → ∀ es,Memo l b es → ∃ es',Memo l b es' ∧ runW progX 72 [.pt 0 0,U d] (hY l b (encM es)) = some (I (rstF l b d),hY l b (encM es')) := by
  have hn := g.few
  have hb : ∀ k,b k < 2 ^ 10 := fun k => lt_10 (p.lt k) hn
  intro m
  induction m with
  | zero =>
    intro d hd hm es he
    have hle := pop_le d l.ls.length
    have e93 := w93 (lt_10 hd hn)
    have hc := pop_cut hd 10 hn
    have q : ((pop d 10 : Int) = (l.ls.length : Int)) = True := eq_true (by omega)
    refine ⟨es,he,?_⟩
    rw [rest_full (by omega)]
    rw [r72 (by simp)]; unfold x72; dsimp only
    (sym => (simp [yC_nm,yC_rn,yM_s,yC_gr,yC_sl,yC_fz,yC_len,yC_0,yC_1,yC_2,yC_3,yC_4,yC_15,yC_same,Za,Zb,Zc,Ze,Zf,Zg,Zh,Zi,Zj,Zk,Zl,Zm,Zn,Zu,Zv,Zy,Z1,Z2,Z6,ZC,ZD,ZE,ZG,ZH,ZJ,ZK,ZL,ZM,ZO,ZP,ZQ,ZR,ZT,ZU,ZZ,Yb,Yi,Yq,YH,YJ,YK,YL,YM,YP,YQ,YY,Xd,Xe,Xi,Xo,Xr,Xu,Xy,Xz,X0,XN,Wc,Wh,Wm,Wq,Wy,Wz,W0,W3,W4,W6,W7,W8,W9,WA,WB,WC,WE,WF,WG,WH,WI,WJ,WK,WL,WM,WN,WO,WP,WR,WS,WT,WV,WW,WX,WY,Va,Vb,Vc,Vd,Ve,Vf,Vg,Vh,Vi,Vj,Vk,Vm,Vr,Vt,Vu,Vw,Vx,Vy,Vz,V5,V6,V8,V9,VA,VB,VC,VF,VG,VH,VI,VK,VO,VP,VQ,VT,VU,VV,VW,VX,VY,VZ,Ua,Ub,Uc,Ud,Uf,Ug,Ui,Um,Un,Uo,Us,Uv,Uw,Ux,Uy,Uz,U0,U1,U2,U3,U4,U5,U6,U7,U8,U9,UC,UD,UE,UO,UP,Tf,Tg,Tk,Tl,Tm,Tn,Tp,Tq,Tv,Tw,Tx,Ty,T3,T4,T6,T7,TB,TC,TX,TY,Sb,Sc,Sd,Se,Sf,Sg,Ss,Sw,SD,SE,SF,e93,q]; all_goals tactic => exact rfl))
  | succ m ih =>
    intro d hd hm es he
    have e93 := w93 (lt_10 hd hn)
    have hc := pop_cut hd 10 hn
    have q : ((pop d 10 : Int) = (l.ls.length : Int)) = False := eq_false (by omega)
    cases hl : look es (d : Int) with
    | some v =>
      refine ⟨es,he,?_⟩
      rw [← he d v hl]
      have f1 := findA_enc es (d : Int)
      rw [hl] at f1
      rw [r72 (by simp)]; unfold x72; dsimp only
      (sym => (simp [yC_nm,yC_rn,yM_s,yC_gr,yC_sl,yC_fz,yC_len,yC_0,yC_1,yC_2,yC_3,yC_4,yC_15,yC_same,Za,Zb,Zc,Ze,Zf,Zg,Zh,Zi,Zj,Zk,Zl,Zm,Zn,Zu,Zv,Zy,Z1,Z2,Z6,ZC,ZD,ZE,ZG,ZH,ZJ,ZK,ZL,ZM,ZO,ZP,ZQ,ZR,ZT,ZU,ZZ,Yb,Yi,Yq,YH,YJ,YK,YL,YM,YP,YQ,YY,Xd,Xe,Xi,Xo,Xr,Xu,Xy,Xz,X0,XN,Wc,Wh,Wm,Wq,Wy,Wz,W0,W3,W4,W6,W7,W8,W9,WA,WB,WC,WE,WF,WG,WH,WI,WJ,WK,WL,WM,WN,WO,WP,WR,WS,WT,WV,WW,WX,WY,Va,Vb,Vc,Vd,Ve,Vf,Vg,Vh,Vi,Vj,Vk,Vm,Vr,Vt,Vu,Vw,Vx,Vy,Vz,V5,V6,V8,V9,VA,VB,VC,VF,VG,VH,VI,VK,VO,VP,VQ,VT,VU,VV,VW,VX,VY,VZ,Ua,Ub,Uc,Ud,Uf,Ug,Ui,Um,Un,Uo,Us,Uv,Uw,Ux,Uy,Uz,U0,U1,U2,U3,U4,U5,U6,U7,U8,U9,UC,UD,UE,UO,UP,Tf,Tg,Tk,Tl,Tm,Tn,Tp,Tq,Tv,Tw,Tx,Ty,T3,T4,T6,T7,TB,TC,TX,TY,Sb,Sc,Sd,Se,Sf,Sg,Ss,Sw,SD,SE,SF,e93,q,f1]; all_goals tactic => exact rfl))
    | none =>
      have f1 := findA_enc es (d : Int)
      rw [hl] at f1
      have hr := next_rule (n := 6) (p := 2) (d := d) hn hb (lt_10 hd hn) (fun s : List (Int × Int) × Int => h72 l b d s.1 s.2) (fun s => home72 d s.1 s.2) (fun k s => Memo l b s.1 ∧ s.2 = rsT l b d k) (fun _ => False) (es,1000000) ⟨he,rfl⟩
        (by
          rintro k ⟨es1,v⟩ hk ⟨h1,h2⟩ hcb
          dsimp only at h1 h2
          have hcd := (canB_iff p hn hd).1 hcb
          have hpo := (pop_or hcd.1 l.ls.length).1 hk
          obtain ⟨es2,h3,h4⟩ := ih (d ||| 2 ^ k) (or_lt hd hk) (by omega) es1 h1
          refine .inl ⟨(es2,mnI v (wthF l b d k)),y72 (w75 g hd hk h4),h3,?_⟩
          dsimp only
          rw [rsT,if_pos hcb,h2])
        (by
          rintro k ⟨es1,v⟩ hk ⟨h1,h2⟩ hcb
          refine ⟨h1,?_⟩
          dsimp only at h2 ⊢
          rw [rsT,hcb,if_neg (by simp),h2])
      rcases hr with ⟨⟨es1,v⟩,⟨h1,h2⟩,hr⟩ | ⟨_,h,_⟩
      · dsimp only at h1 h2
        rw [← rest_step (by omega)] at h2
        subst h2
        refine ⟨_,memo_put h1 d,?_⟩
        have e105 : runW progX 105 [.fn (.yield 0) [] [],.pt 6 0,.pt 7 0] [some (.loop 72 0 [.pt 1 0,.pt 4 0,.pt 5 0] .ready),some (.blk false (.cells true [.pt 2 0])),some (.blk false (.cells true (yC l b 3))),some (.blk true (.map true (encM es))),cU d,some (.blk true (.cells true [I 1000000])),some (.blk false (.cells true [.pt 2 0])),cU d] =
          some (.tup [],[some (.loop 72 0 [.pt 1 0,.pt 4 0,.pt 5 0] .ready),some (.blk false (.cells true [.pt 2 0])),some (.blk false (.cells true (yC l b 3))),some (.blk true (.map true (encM es1))),cU d,some (.blk true (.cells true [I (rstF l b d)])),some (.blk false (.cells true [.pt 2 0])),cU d]) := hr
        have e74 := w74 (l := l) (b := b) (encM es) d
        have p1 := putA_enc es1 d (rstF l b d)
        generalize put es1 d (rstF l b d) = es2 at *
        rw [r72 (by simp)]; unfold x72; dsimp only
        (sym => (simp [yC_nm,yC_rn,yM_s,yC_gr,yC_sl,yC_fz,yC_len,yC_0,yC_1,yC_2,yC_3,yC_4,yC_15,yC_same,Za,Zb,Zc,Ze,Zf,Zg,Zh,Zi,Zj,Zk,Zl,Zm,Zn,Zu,Zv,Zy,Z1,Z2,Z6,ZC,ZD,ZE,ZG,ZH,ZJ,ZK,ZL,ZM,ZO,ZP,ZQ,ZR,ZT,ZU,ZZ,Yb,Yi,Yq,YH,YJ,YK,YL,YM,YP,YQ,YY,Xd,Xe,Xi,Xo,Xr,Xu,Xy,Xz,X0,XN,Wc,Wh,Wm,Wq,Wy,Wz,W0,W3,W4,W6,W7,W8,W9,WA,WB,WC,WE,WF,WG,WH,WI,WJ,WK,WL,WM,WN,WO,WP,WR,WS,WT,WV,WW,WX,WY,Va,Vb,Vc,Vd,Ve,Vf,Vg,Vh,Vi,Vj,Vk,Vm,Vr,Vt,Vu,Vw,Vx,Vy,Vz,V5,V6,V8,V9,VA,VB,VC,VF,VG,VH,VI,VK,VO,VP,VQ,VT,VU,VV,VW,VX,VY,VZ,Ua,Ub,Uc,Ud,Uf,Ug,Ui,Um,Un,Uo,Us,Uv,Uw,Ux,Uy,Uz,U0,U1,U2,U3,U4,U5,U6,U7,U8,U9,UC,UD,UE,UO,UP,Tf,Tg,Tk,Tl,Tm,Tn,Tp,Tq,Tv,Tw,Tx,Ty,T3,T4,T6,T7,TB,TC,TX,TY,Sb,Sc,Sd,Se,Sf,Sg,Ss,Sw,SD,SE,SF,e93,q,f1,e74,e105,p1]; all_goals tactic => exact rfl))
      · exact h.elim
end
end Go.Proofs.YtpbeclkpohehgaaDoor
namespace Go.Proofs.YtpbeclkpohehgaaDoor
open Go Go.DL
set_option maxRecDepth 100000
set_option maxHeartbeats 4000000

def goodB (l : Li) (b : Nat → Nat) (w : Int) (d k : Nat) : Bool := canB b d k && decide (wthF l b d k ≤ w)
def pickF (l : Li) (b : Nat → Nat) (w : Int) (d : Nat) : Option Nat := (List.range l.ls.length).find? (goodB l b w d)
def bestF (l : Li) (b : Nat → Nat) (w : Int) : Nat → Nat → List Nat
  | 0,_ => []
  | m + 1,d => match pickF l b w d with
    | some k => k :: bestF l b w m (d ||| 2 ^ k)
    | none => []
def bstF (l : Li) (b : Nat → Nat) (w : Int) (d : Nat) : List Nat := bestF l b w (l.ls.length - pop d l.ls.length) d
theorem range_find {P : Nat → Bool} {n : Nat} : (∃ k,(List.range n).find? P = some k ∧ k < n ∧ P k = true ∧ ∀ j,j < k → P j = false) ∨ ((List.range n).find? P = none ∧ ∀ j,j < n → P j = false) := by
  cases h : (List.range n).find? P with
  | none =>
    refine .inr ⟨rfl,fun j hj => ?_⟩
    have := List.find?_eq_none.1 h j (List.mem_range.2 hj)
    simpa using this
  | some k =>
    obtain ⟨h1,xs,ys,h2,h3⟩ := List.find?_eq_some_iff_append.1 h
    have hk : xs.length < (List.range n).length := by rw [h2]; simp
    have hk2 : (List.range n)[xs.length]? = some k := by rw [h2]; simp
    rw [List.length_range] at hk
    rw [List.getElem?_range hk] at hk2
    have hk2 := Option.some.inj hk2
    refine .inl ⟨k,rfl,by omega,h1,fun j hj => ?_⟩
    have hj2 : (List.range n)[j]? = some j := List.getElem?_range (by omega)
    rw [h2,List.getElem?_append_left (by omega)] at hj2
    simpa using h3 j (List.mem_of_getElem? hj2)
theorem bst_some {l : Li} {b : Nat → Nat} {w : Int} {d k : Nat} (h : pickF l b w d = some k) : bstF l b w d = k :: bstF l b w (d ||| 2 ^ k) ∧ k < l.ls.length ∧ canB b d k = true ∧ wthF l b d k ≤ w ∧ pop (d ||| 2 ^ k) l.ls.length = pop d l.ls.length + 1 ∧ ∀ j,j < k → goodB l b w d j = false := by
  rcases range_find (P := goodB l b w d) (n := l.ls.length) with ⟨k',h1,h2,h3,h4⟩ | ⟨h1,_⟩
  · have hk : k' = k := by
      have := h1.symm.trans h
      exact Option.some.inj this
    subst hk
    unfold goodB at h3
    rw [Bool.and_eq_true,decide_eq_true_iff] at h3
    have hp := (pop_or (can_bit h3.1) l.ls.length).1 h2
    have hle := pop_le (d ||| 2 ^ k') l.ls.length
    refine ⟨?_,h2,h3.1,h3.2,hp,h4⟩
    unfold bstF
    obtain ⟨m,hm⟩ : ∃ m,l.ls.length - pop d l.ls.length = m + 1 := ⟨l.ls.length - pop d l.ls.length - 1,by omega⟩
    rw [hm,bestF,h]
    dsimp only
    rw [show l.ls.length - pop (d ||| 2 ^ k') l.ls.length = m by omega]
  · unfold pickF at h
    rw [h1] at h; simp at h
theorem bst_none {l : Li} {b : Nat → Nat} {w : Int} {d : Nat} (h : pickF l b w d = none) : bstF l b w d = [] ∧ ∀ j,j < l.ls.length → goodB l b w d j = false := by
  rcases range_find (P := goodB l b w d) (n := l.ls.length) with ⟨k',h1,_⟩ | ⟨h1,h2⟩
  · unfold pickF at h
    rw [h1] at h; simp at h
  · refine ⟨?_,h2⟩
    unfold bstF
    cases l.ls.length - pop d l.ls.length with
    | zero => rfl
    | succ m => rw [bestF,h]
section
variable {l : Li} {b : Nat → Nat}
abbrev h73n (l : Li) (b : Nat → Nat) (es : List (Int × Int)) (d : Nat) (w : Int) : XH := [some (.blk false (.cells true [.pt 1 0])),some (.blk false (.cells true (yC l b 2))),some (.blk true (.map true (encM es))),cU d,some (.blk true (.cells true [I w])),some (.blk true (.cells true [.nilsl])),some (.blk false (.cells true [.fn (.func 73) [] [.pt 0 0,.pt 3 0,.pt 4 0,.pt 5 0,.pt 6 0]]))]
abbrev h73c (l : Li) (b : Nat → Nat) (es : List (Int × Int)) (d : Nat) (w : Int) (a : Int) (r : List Int) : XH := [some (.blk false (.cells true [.pt 1 0])),some (.blk false (.cells true (yC l b 2))),some (.blk true (.map true (encM es))),cU d,some (.blk true (.cells true [I w])),some (.blk false (.cells true [.sl 6 0 1 (r.length + 1)])),some (.blk true (.cells true (I a :: r.map I))),some (.blk false (.cells true [.fn (.func 73) [] [.pt 0 0,.pt 3 0,.pt 4 0,.pt 5 0,.pt 7 0]]))]
abbrev g73n (l : Li) (b : Nat → Nat) (es : List (Int × Int)) (d : Nat) (w : Int) (s : LSt) : XH := [some (.loop 73 0 [.pt 1 0,.pt 4 0,.pt 5 0,.pt 6 0,.pt 7 0] s),some (.blk false (.cells true [.pt 2 0])),some (.blk false (.cells true (yC l b 3))),some (.blk true (.map true (encM es))),cU d,some (.blk true (.cells true [I w])),some (.blk true (.cells true [.nilsl])),some (.blk false (.cells true [.fn (.func 73) [] [.pt 1 0,.pt 4 0,.pt 5 0,.pt 6 0,.pt 7 0]]))]
abbrev g73c (l : Li) (b : Nat → Nat) (es : List (Int × Int)) (d : Nat) (w : Int) (a : Int) (r : List Int) (s : LSt) : XH := [some (.loop 73 0 [.pt 1 0,.pt 4 0,.pt 5 0,.pt 6 0,.pt 8 0] s),some (.blk false (.cells true [.pt 2 0])),some (.blk false (.cells true (yC l b 3))),some (.blk true (.map true (encM es))),cU d,some (.blk true (.cells true [I w])),some (.blk false (.cells true [.sl 7 0 1 (r.length + 1)])),some (.blk true (.cells true (I a :: r.map I))),some (.blk false (.cells true [.fn (.func 73) [] [.pt 1 0,.pt 4 0,.pt 5 0,.pt 6 0,.pt 8 0]]))]
theorem home73n (es : List (Int × Int)) (d : Nat) (w : Int) (s : LSt) : Home2 8 2 l b (g73n l b es d w s) := by
  refine ⟨⟨3,fun _ => rfl⟩,fun _ => rfl,fun _ => rfl,fun _ => rfl,?_,?_⟩
  · intro a e j k h0 h1 h2 h3 h4
    (sym => (simp [yC_nm,yC_rn,yM_s,yC_gr,yC_sl,yC_fz,yC_len,yC_0,yC_1,yC_2,yC_3,yC_4,yC_15,yC_same,Za,YQ,YU,YY,Xc,Xd,Xo,Xr,Xu,Xy,Xz,XK,Wf,WA,WF,WH,WJ,WL,WM,WN,WO,WP,WV,WW,WX,WY,Va,Vb,Vc,Vd,Vr,V8,V9,VA,VM,VN,VU,VV,VW,VX,VY,VZ,Ua,Uw,U1,U2,U3,U4,U5,U8,UC,TA,Sw,h0,h1,h2,h3,h4]; all_goals tactic => exact rfl))
  · intro a
    (sym => (simp [yC_nm,yC_rn,yM_s,yC_gr,yC_sl,yC_fz,yC_len,yC_0,yC_1,yC_2,yC_3,yC_4,yC_15,yC_same,Za,YQ,YU,YY,Xc,Xd,Xo,Xr,Xu,Xy,Xz,XK,Wf,WA,WF,WH,WJ,WL,WM,WN,WO,WP,WV,WW,WX,WY,Va,Vb,Vc,Vd,Vr,V8,V9,VA,VM,VN,VU,VV,VW,VX,VY,VZ,Ua,Uw,U1,U2,U3,U4,U5,U8,UC,TA,Sw]; all_goals tactic => exact rfl))
theorem home73c (es : List (Int × Int)) (d : Nat) (w : Int) (a : Int) (r : List Int) (s : LSt) : Home2 9 2 l b (g73c l b es d w a r s) := by
  refine ⟨⟨3,fun _ => rfl⟩,fun _ => rfl,fun _ => rfl,fun _ => rfl,?_,?_⟩
  · intro a e j k h0 h1 h2 h3 h4
    (sym => (simp [yC_nm,yC_rn,yM_s,yC_gr,yC_sl,yC_fz,yC_len,yC_0,yC_1,yC_2,yC_3,yC_4,yC_15,yC_same,Za,YQ,YU,YX,YY,Xc,Xd,Xo,Xr,Xt,Xu,Xy,Xz,XK,Wf,WA,WF,WH,WJ,WL,WM,WN,WO,WP,WV,WW,WX,WY,Va,Vb,Vc,Vd,Vr,V8,V9,VA,VM,VN,VU,VV,VW,VX,VY,VZ,Ua,Uw,U1,U2,U3,U4,U5,U8,UC,TA,Sw,h0,h1,h2,h3,h4]; all_goals tactic => exact rfl))
  · intro a
    (sym => (simp [yC_nm,yC_rn,yM_s,yC_gr,yC_sl,yC_fz,yC_len,yC_0,yC_1,yC_2,yC_3,yC_4,yC_15,yC_same,Za,YQ,YU,YX,YY,Xc,Xd,Xo,Xr,Xt,Xu,Xy,Xz,XK,Wf,WA,WF,WH,WJ,WL,WM,WN,WO,WP,WV,WW,WX,WY,Va,Vb,Vc,Vd,Vr,V8,V9,VA,VM,VN,VU,VV,VW,VX,VY,VZ,Ua,Uw,U1,U2,U3,U4,U5,U8,UC,TA,Sw]; all_goals tactic => exact rfl))
theorem y73n {d k : Nat} {es es' : List (Int × Int)} {w r : Int} (h : runW progX 75 [.pt 0 0,U d,I (k : Nat)] (hY l b (encM es)) = some (I r,hY l b (encM es'))) (hr : (r ≤ w) = False) : Yd2 2 (g73n l b es d w .ready) (g73n l b es' d w .ready) k true := by
  have y : runYW progX (.fn (.yield 0) [] []) [I (k : Nat)] (g73n l b es d w .ready) = some (.bool true,g73n l b es' d w .ready) := by
    rw [runYW_eq (K := 73) (d := x73) (site := 0) (vs := [.pt 1 0,.pt 4 0,.pt 5 0,.pt 6 0,.pt 7 0]) rfl rfl (by rfl) rfl]
    (sym => (simp [yC_nm,yC_rn,yM_s,yC_gr,yC_sl,yC_fz,yC_len,yC_0,yC_1,yC_2,yC_3,yC_4,yC_15,yC_same,Za,Zb,Zd,Ze,Zf,Zg,Zh,Zk,Zl,Zm,Zu,Z2,ZH,ZJ,ZM,ZQ,ZR,ZT,ZU,Yt,YQ,YR,YY,Xc,Xd,Xo,Xp,Xu,Xy,Xz,XN,Wy,Wz,W0,W3,W6,W7,W9,WA,WB,WC,WE,WF,WG,WH,WI,WJ,WK,WL,WM,WN,WO,WP,WR,WS,WT,WV,WW,WX,WY,Va,Vb,Vc,Vd,Ve,Vf,Vg,Vh,Vi,Vj,Vk,Vm,Vn,Vr,Vt,Vu,Vw,Vx,Vy,Vz,V7,VA,VL,VO,VQ,VU,VV,VW,VX,VY,VZ,Ua,Ub,Uc,Uf,Ui,Ul,Um,Uo,Uv,Uw,Uy,Uz,U0,U1,U2,U3,U4,U5,U8,U9,UM,UN,Tf,Tg,Tk,Tv,Tw,Ty,T3,T4,T7,TB,TC,TX,TY,TZ,Sa,Sj,Sk,Sl,Sm,Sn,Sw,Sz,S2,S3,S4,S5,SD,SE,SF,h,hr]; all_goals tactic => exact rfl))
  intro c
  (sym => (simp [yC_nm,yC_rn,yM_s,yC_gr,yC_sl,yC_fz,yC_len,yC_0,yC_1,yC_2,yC_3,yC_4,yC_15,yC_same,Za,Zb,Zd,Ze,Zf,Zg,Zh,Zk,Zl,Zm,Zu,Z2,ZH,ZJ,ZM,ZQ,ZR,ZT,ZU,Yt,YQ,YR,YY,Xc,Xd,Xo,Xp,Xu,Xy,Xz,XN,Wy,Wz,W0,W3,W6,W7,W9,WA,WB,WC,WE,WF,WG,WH,WI,WJ,WK,WL,WM,WN,WO,WP,WR,WS,WT,WV,WW,WX,WY,Va,Vb,Vc,Vd,Ve,Vf,Vg,Vh,Vi,Vj,Vk,Vm,Vn,Vr,Vt,Vu,Vw,Vx,Vy,Vz,V7,VA,VL,VO,VQ,VU,VV,VW,VX,VY,VZ,Ua,Ub,Uc,Uf,Ui,Ul,Um,Uo,Uv,Uw,Uy,Uz,U0,U1,U2,U3,U4,U5,U8,U9,UM,UN,Tf,Tg,Tk,Tv,Tw,Ty,T3,T4,T7,TB,TC,TX,TY,TZ,Sa,Sj,Sk,Sl,Sm,Sn,Sw,Sz,S2,S3,S4,S5,SD,SE,SF,y]; all_goals tactic => exact rfl))
theorem y73c {d k : Nat} {es es' : List (Int × Int)} {w r a : Int} {q : List Int} (h : runW progX 75 [.pt 0 0,U d,I (k : Nat)] (hY l b (encM es)) = some (I r,hY l b (encM es'))) (hr : (r ≤ w) = False) : Yd2 2 (g73c l b es d w a q .ready) (g73c l b es' d w a q .ready) k true := by
  have y : runYW progX (.fn (.yield 0) [] []) [I (k : Nat)] (g73c l b es d w a q .ready) = some (.bool true,g73c l b es' d w a q .ready) := by
    rw [runYW_eq (K := 73) (d := x73) (site := 0) (vs := [.pt 1 0,.pt 4 0,.pt 5 0,.pt 6 0,.pt 8 0]) rfl rfl (by rfl) rfl]
    (sym => (simp [yC_nm,yC_rn,yM_s,yC_gr,yC_sl,yC_fz,yC_len,yC_0,yC_1,yC_2,yC_3,yC_4,yC_15,yC_same,Za,Zb,Zd,Ze,Zf,Zg,Zh,Zk,Zl,Zm,Zu,Z2,ZH,ZJ,ZM,ZQ,ZR,ZT,ZU,Yt,YQ,YR,YX,YY,Xc,Xd,Xo,Xp,Xt,Xu,Xy,Xz,XN,Wy,Wz,W0,W3,W6,W7,W9,WA,WB,WC,WE,WF,WG,WH,WI,WJ,WK,WL,WM,WN,WO,WP,WR,WS,WT,WV,WW,WX,WY,Va,Vb,Vc,Vd,Ve,Vf,Vg,Vh,Vi,Vj,Vk,Vm,Vn,Vr,Vt,Vu,Vw,Vx,Vy,Vz,V7,VA,VL,VO,VQ,VU,VV,VW,VX,VY,VZ,Ua,Ub,Uc,Uf,Ui,Ul,Um,Uo,Uv,Uw,Uy,Uz,U0,U1,U2,U3,U4,U5,U8,U9,UM,UN,Tf,Tg,Tk,Tv,Tw,Ty,T3,T4,T7,TB,TC,TX,TY,TZ,Sa,Sj,Sk,Sl,Sm,Sn,Sw,Sz,S2,S3,S4,S5,SD,SE,SF,h,hr]; all_goals tactic => exact rfl))
  intro c
  (sym => (simp [yC_nm,yC_rn,yM_s,yC_gr,yC_sl,yC_fz,yC_len,yC_0,yC_1,yC_2,yC_3,yC_4,yC_15,yC_same,Za,Zb,Zd,Ze,Zf,Zg,Zh,Zk,Zl,Zm,Zu,Z2,ZH,ZJ,ZM,ZQ,ZR,ZT,ZU,Yt,YQ,YR,YX,YY,Xc,Xd,Xo,Xp,Xt,Xu,Xy,Xz,XN,Wy,Wz,W0,W3,W6,W7,W9,WA,WB,WC,WE,WF,WG,WH,WI,WJ,WK,WL,WM,WN,WO,WP,WR,WS,WT,WV,WW,WX,WY,Va,Vb,Vc,Vd,Ve,Vf,Vg,Vh,Vi,Vj,Vk,Vm,Vn,Vr,Vt,Vu,Vw,Vx,Vy,Vz,V7,VA,VL,VO,VQ,VU,VV,VW,VX,VY,VZ,Ua,Ub,Uc,Uf,Ui,Ul,Um,Uo,Uv,Uw,Uy,Uz,U0,U1,U2,U3,U4,U5,U8,U9,UM,UN,Tf,Tg,Tk,Tv,Tw,Ty,T3,T4,T7,TB,TC,TX,TY,TZ,Sa,Sj,Sk,Sl,Sm,Sn,Sw,Sz,S2,S3,S4,S5,SD,SE,SF,y]; all_goals tactic => exact rfl))
abbrev r73c (l : Li) (b : Nat → Nat) (es : List (Int × Int)) (d : Nat) (w : Int) (a : Int) (r : List Int) : XH := [some (.blk false (.cells true [.pt 1 0])),some (.blk false (.cells true (yC l b 2))),some (.blk true (.map true (encM es))),cU d,some (.blk true (.cells true [I w])),some (.blk false (.cells true [.sl 8 0 1 (r.length + 1)])),none,some (.blk false (.cells true [.fn (.func 73) [] [.pt 0 0,.pt 3 0,.pt 4 0,.pt 5 0,.pt 7 0]])),some (.blk true (.cells true (I a :: r.map I)))]
abbrev r73n (l : Li) (b : Nat → Nat) (es : List (Int × Int)) (d : Nat) (w : Int) (a : Int) (r : List Int) : XH := [some (.blk false (.cells true [.pt 1 0])),some (.blk false (.cells true (yC l b 2))),some (.blk true (.map true (encM es))),cU d,some (.blk true (.cells true [I w])),some (.blk false (.cells true [.sl 7 0 1 (r.length + 1)])),some (.blk false (.cells true [.fn (.func 73) [] [.pt 0 0,.pt 3 0,.pt 4 0,.pt 5 0,.pt 6 0]])),some (.blk true (.cells true (I a :: r.map I)))]
abbrev z73n (l : Li) (b : Nat → Nat) (es : List (Int × Int)) (d : Nat) (w : Int) (a : Int) (r : List Int) (c : Nat) : XH := [some (.loop 73 0 [.pt 1 0,.pt 4 0,.pt 5 0,.pt 6 0,.pt 7 0] (.done .ret)),some (.blk false (.cells true [.pt 2 0])),some (.blk false (.cells true (yC l b 3))),some (.blk true (.map true (encM es))),cU d,some (.blk true (.cells true [I w])),some (.blk false (.cells true [.sl 10 0 1 (r.length + 1)])),some (.blk false (.cells true [.fn (.func 73) [] [.pt 1 0,.pt 4 0,.pt 5 0,.pt 6 0,.pt 7 0]])),some (.blk false (.cells true [.pt 2 0])),cU c,some (.blk true (.cells true (I a :: r.map I)))]
abbrev z73c (l : Li) (b : Nat → Nat) (es : List (Int × Int)) (d : Nat) (w : Int) (a : Int) (r : List Int) (c : Nat) : XH := [some (.loop 73 0 [.pt 1 0,.pt 4 0,.pt 5 0,.pt 6 0,.pt 8 0] (.done .ret)),some (.blk false (.cells true [.pt 2 0])),some (.blk false (.cells true (yC l b 3))),some (.blk true (.map true (encM es))),cU d,some (.blk true (.cells true [I w])),some (.blk false (.cells true [.sl 11 0 1 (r.length + 1)])),none,some (.blk false (.cells true [.fn (.func 73) [] [.pt 1 0,.pt 4 0,.pt 5 0,.pt 6 0,.pt 8 0]])),some (.blk false (.cells true [.pt 2 0])),cU c,some (.blk true (.cells true (I a :: r.map I)))]
theorem l73n {d k d2 c : Nat} (hd : d < 2 ^ 10) (hk : k < 10) {es es' es2 : List (Int × Int)} {w r : Int} {a2 : Int} {q2 : List Int} (h : runW progX 75 [.pt 0 0,U d,I (k : Nat)] (hY l b (encM es)) = some (I r,hY l b (encM es'))) (hr : (r ≤ w) = True)
    (hx : runW progX 73 [.pt 0 0,.pt 3 0,.pt 4 0,.pt 5 0,.pt 7 0] (h73c l b es' (d ||| 2 ^ k) w (k : Int) []) = some (.tup [],h73c l b es2 d2 w a2 q2) ∨ runW progX 73 [.pt 0 0,.pt 3 0,.pt 4 0,.pt 5 0,.pt 7 0] (h73c l b es' (d ||| 2 ^ k) w (k : Int) []) = some (.tup [],r73c l b es2 d2 w a2 q2)) :
    Lv 8 2 c (g73n l b es d w .ready) k (z73n l b es2 d2 w a2 q2 c) := by
  have n0 := (eq_false (by omega) : ((k : Int) < 0) = False)
  have o1 := or_n hd hk
  have o2 := or_n1 hd hk
  generalize d ||| 2 ^ k = d' at *
  have y : runYW progX (.fn (.yield 0) [] []) [I (k : Nat)] (g73n l b es d w .ready) = some (.bool false,[some (.loop 73 0 [.pt 1 0,.pt 4 0,.pt 5 0,.pt 6 0,.pt 7 0] (.done .ret)),some (.blk false (.cells true [.pt 2 0])),some (.blk false (.cells true (yC l b 3))),some (.blk true (.map true (encM es2))),cU d2,some (.blk true (.cells true [I w])),some (.blk false (.cells true [.sl 8 0 1 (q2.length + 1)])),some (.blk false (.cells true [.fn (.func 73) [] [.pt 1 0,.pt 4 0,.pt 5 0,.pt 6 0,.pt 7 0]])),some (.blk true (.cells true (I a2 :: q2.map I)))]) := by
    rw [runYW_eq (K := 73) (d := x73) (site := 0) (vs := [.pt 1 0,.pt 4 0,.pt 5 0,.pt 6 0,.pt 7 0]) rfl rfl (by rfl) rfl]
    rcases hx with hx | hx
    · have hx : runW progX 73 [.pt 0 0,.pt 3 0,.pt 4 0,.pt 5 0,.pt 7 0] [some (.blk false (.cells true [.pt 1 0])),some (.blk false (.cells true (yC l b 2))),some (.blk true (.map true (encM es'))),cU d',some (.blk true (.cells true [I w])),some (.blk false (.cells true [.sl 6 0 1 1])),some (.blk true (.cells true [I (k : Nat)])),some (.blk false (.cells true [.fn (.func 73) [] [.pt 0 0,.pt 3 0,.pt 4 0,.pt 5 0,.pt 7 0]]))] = some (.tup [],h73c l b es2 d2 w a2 q2) := hx
      (sym => (simp [yC_nm,yC_rn,yM_s,yC_gr,yC_sl,yC_fz,yC_len,yC_0,yC_1,yC_2,yC_3,yC_4,yC_15,yC_same,Za,Zb,Zc,Zd,Ze,Zf,Zg,Zh,Zi,Zk,Zl,Zm,Zn,Zu,Z0,Z2,ZG,ZH,ZJ,ZK,ZL,ZM,ZN,ZO,ZP,ZQ,ZR,ZS,ZT,ZU,Yn,Yo,Yt,Yw,YQ,YR,YU,YX,YY,Xc,Xd,Xe,Xh,Xo,Xp,Xr,Xt,Xu,Xy,Xz,XK,XN,Wf,Wm,Wp,Ww,Wy,Wz,W0,W3,W4,W5,W6,W7,W9,WA,WB,WC,WE,WF,WG,WH,WI,WJ,WK,WL,WM,WN,WO,WP,WQ,WR,WS,WT,WU,WV,WW,WX,WY,Va,Vb,Vc,Vd,Ve,Vf,Vg,Vh,Vi,Vj,Vk,Vm,Vn,Vr,Vt,Vu,Vw,Vx,Vy,Vz,V7,V8,V9,VA,VL,VO,VP,VU,VV,VW,VX,VY,VZ,Ua,Ub,Uc,Uf,Ui,Uk,Ul,Um,Un,Uo,Us,Uv,Uw,Ux,Uz,U0,U1,U2,U3,U4,U5,U6,U7,U8,U9,UC,UE,UF,UG,UH,UM,UN,UQ,UR,US,UT,UY,UZ,Ta,Tb,Tf,Tg,Tk,Tl,Tm,Tq,Ts,Tt,Tu,Tv,Tw,Tx,T3,T4,T8,TB,TC,TK,TX,TY,TZ,Sa,Sj,Sk,Sl,Sm,Sq,Sv,Sw,Sz,S2,S3,S4,S5,SD,SE,SF,h,hr,n0,o1,o2,hx]; all_goals tactic => exact rfl))
    · have hx : runW progX 73 [.pt 0 0,.pt 3 0,.pt 4 0,.pt 5 0,.pt 7 0] [some (.blk false (.cells true [.pt 1 0])),some (.blk false (.cells true (yC l b 2))),some (.blk true (.map true (encM es'))),cU d',some (.blk true (.cells true [I w])),some (.blk false (.cells true [.sl 6 0 1 1])),some (.blk true (.cells true [I (k : Nat)])),some (.blk false (.cells true [.fn (.func 73) [] [.pt 0 0,.pt 3 0,.pt 4 0,.pt 5 0,.pt 7 0]]))] = some (.tup [],r73c l b es2 d2 w a2 q2) := hx
      (sym => (simp [yC_nm,yC_rn,yM_s,yC_gr,yC_sl,yC_fz,yC_len,yC_0,yC_1,yC_2,yC_3,yC_4,yC_15,yC_same,Za,Zb,Zc,Zd,Ze,Zf,Zg,Zh,Zi,Zk,Zl,Zm,Zn,Zu,Z0,Z2,ZG,ZH,ZJ,ZK,ZL,ZM,ZN,ZO,ZP,ZQ,ZR,ZS,ZT,ZU,Yn,Yo,Yt,Yw,YQ,YR,YU,YX,YY,Xc,Xd,Xe,Xh,Xo,Xp,Xr,Xt,Xu,Xy,Xz,XK,XN,Wf,Wm,Wp,Ww,Wy,Wz,W0,W3,W4,W5,W6,W7,W9,WA,WB,WC,WE,WF,WG,WH,WI,WJ,WK,WL,WM,WN,WO,WP,WQ,WR,WS,WT,WU,WV,WW,WX,WY,Va,Vb,Vc,Vd,Ve,Vf,Vg,Vh,Vi,Vj,Vk,Vm,Vn,Vr,Vt,Vu,Vw,Vx,Vy,Vz,V7,V8,V9,VA,VL,VO,VP,VU,VV,VW,VX,VY,VZ,Ua,Ub,Uc,Uf,Ui,Uk,Ul,Um,Un,Uo,Us,Uv,Uw,Ux,Uz,U0,U1,U2,U3,U4,U5,U6,U7,U8,U9,UC,UE,UF,UG,UH,UM,UN,UQ,UR,US,UT,UY,UZ,Ta,Tb,Tf,Tg,Tk,Tl,Tm,Tq,Ts,Tt,Tu,Tv,Tw,Tx,T3,T4,T8,TB,TC,TK,TX,TY,TZ,Sa,Sj,Sk,Sl,Sm,Sq,Sv,Sw,Sz,S2,S3,S4,S5,SD,SE,SF,h,hr,n0,o1,o2,hx]; all_goals tactic => exact rfl))
  refine ⟨z73n l b es2 d2 w a2 q2 c,?_,?_,rfl,rfl,rfl⟩
  · (sym => (simp [yC_nm,yC_rn,yM_s,yC_gr,yC_sl,yC_fz,yC_len,yC_0,yC_1,yC_2,yC_3,yC_4,yC_15,yC_same,Za,Zb,Zc,Zd,Ze,Zf,Zg,Zh,Zi,Zk,Zl,Zm,Zn,Zu,Z0,Z2,ZG,ZH,ZJ,ZK,ZL,ZM,ZN,ZO,ZP,ZQ,ZR,ZS,ZT,ZU,Yn,Yo,Yt,Yw,YQ,YR,YU,YX,YY,Xc,Xd,Xe,Xh,Xo,Xp,Xr,Xt,Xu,Xy,Xz,XK,XN,Wf,Wm,Wp,Ww,Wy,Wz,W0,W3,W4,W5,W6,W7,W9,WA,WB,WC,WE,WF,WG,WH,WI,WJ,WK,WL,WM,WN,WO,WP,WQ,WR,WS,WT,WU,WV,WW,WX,WY,Va,Vb,Vc,Vd,Ve,Vf,Vg,Vh,Vi,Vj,Vk,Vm,Vn,Vr,Vt,Vu,Vw,Vx,Vy,Vz,V7,V8,V9,VA,VL,VO,VP,VU,VV,VW,VX,VY,VZ,Ua,Ub,Uc,Uf,Ui,Uk,Ul,Um,Un,Uo,Us,Uv,Uw,Ux,Uz,U0,U1,U2,U3,U4,U5,U6,U7,U8,U9,UC,UE,UF,UG,UH,UM,UN,UQ,UR,US,UT,UY,UZ,Ta,Tb,Tf,Tg,Tk,Tl,Tm,Tq,Ts,Tt,Tu,Tv,Tw,Tx,T3,T4,T8,TB,TC,TK,TX,TY,TZ,Sa,Sj,Sk,Sl,Sm,Sq,Sv,Sw,Sz,S2,S3,S4,S5,SD,SE,SF,y]; all_goals tactic => exact rfl))
  · (sym => (simp [yC_nm,yC_rn,yM_s,yC_gr,yC_sl,yC_fz,yC_len,yC_0,yC_1,yC_2,yC_3,yC_4,yC_15,yC_same,Za,Zb,Zc,Zd,Ze,Zf,Zg,Zh,Zi,Zk,Zl,Zm,Zn,Zu,Z0,Z2,ZG,ZH,ZJ,ZK,ZL,ZM,ZN,ZO,ZP,ZQ,ZR,ZS,ZT,ZU,Yn,Yo,Yt,Yw,YQ,YR,YU,YX,YY,Xc,Xd,Xe,Xh,Xo,Xp,Xr,Xt,Xu,Xy,Xz,XK,XN,Wf,Wm,Wp,Ww,Wy,Wz,W0,W3,W4,W5,W6,W7,W9,WA,WB,WC,WE,WF,WG,WH,WI,WJ,WK,WL,WM,WN,WO,WP,WQ,WR,WS,WT,WU,WV,WW,WX,WY,Va,Vb,Vc,Vd,Ve,Vf,Vg,Vh,Vi,Vj,Vk,Vm,Vn,Vr,Vt,Vu,Vw,Vx,Vy,Vz,V7,V8,V9,VA,VL,VO,VP,VU,VV,VW,VX,VY,VZ,Ua,Ub,Uc,Uf,Ui,Uk,Ul,Um,Un,Uo,Us,Uv,Uw,Ux,Uz,U0,U1,U2,U3,U4,U5,U6,U7,U8,U9,UC,UE,UF,UG,UH,UM,UN,UQ,UR,US,UT,UY,UZ,Ta,Tb,Tf,Tg,Tk,Tl,Tm,Tq,Ts,Tt,Tu,Tv,Tw,Tx,T3,T4,T8,TB,TC,TK,TX,TY,TZ,Sa,Sj,Sk,Sl,Sm,Sq,Sv,Sw,Sz,S2,S3,S4,S5,SD,SE,SF]; all_goals tactic => exact rfl))
theorem l73c {d k d2 c : Nat} (hd : d < 2 ^ 10) (hk : k < 10) {es es' es2 : List (Int × Int)} {w r a : Int} {q : List Int} {a2 : Int} {q2 : List Int} (hq : q.length ≤ 10) (h : runW progX 75 [.pt 0 0,U d,I (k : Nat)] (hY l b (encM es)) = some (I r,hY l b (encM es'))) (hr : (r ≤ w) = True)
    (hx : runW progX 73 [.pt 0 0,.pt 3 0,.pt 4 0,.pt 5 0,.pt 7 0] (h73c l b es' (d ||| 2 ^ k) w a (q ++ [(k : Int)])) = some (.tup [],h73c l b es2 d2 w a2 q2) ∨ runW progX 73 [.pt 0 0,.pt 3 0,.pt 4 0,.pt 5 0,.pt 7 0] (h73c l b es' (d ||| 2 ^ k) w a (q ++ [(k : Int)])) = some (.tup [],r73c l b es2 d2 w a2 q2)) :
    Lv 9 2 c (g73c l b es d w a q .ready) k (z73c l b es2 d2 w a2 q2 c) := by
  have n0 := (eq_false (by omega) : ((k : Int) < 0) = False)
  have o1 := or_n hd hk
  have o2 := or_n1 hd hk
  have b1 : ((q.length + 1 + 1) * 8 ≤ 1099511627776) = True := eq_true (by omega)
  have b2 : (q.length + 1 + 1 ≤ 1099511627776) = True := eq_true (by omega)
  generalize d ||| 2 ^ k = d' at *
  have y : runYW progX (.fn (.yield 0) [] []) [I (k : Nat)] (g73c l b es d w a q .ready) = some (.bool false,[some (.loop 73 0 [.pt 1 0,.pt 4 0,.pt 5 0,.pt 6 0,.pt 8 0] (.done .ret)),some (.blk false (.cells true [.pt 2 0])),some (.blk false (.cells true (yC l b 3))),some (.blk true (.map true (encM es2))),cU d2,some (.blk true (.cells true [I w])),some (.blk false (.cells true [.sl 9 0 1 (q2.length + 1)])),none,some (.blk false (.cells true [.fn (.func 73) [] [.pt 1 0,.pt 4 0,.pt 5 0,.pt 6 0,.pt 8 0]])),some (.blk true (.cells true (I a2 :: q2.map I)))]) := by
    rw [runYW_eq (K := 73) (d := x73) (site := 0) (vs := [.pt 1 0,.pt 4 0,.pt 5 0,.pt 6 0,.pt 8 0]) rfl rfl (by rfl) rfl]
    unfold h73c r73c at hx
    simp only [List.map_append,List.map_cons,List.map_nil,List.length_append,List.length_cons,List.length_nil,Nat.zero_add] at hx
    rcases hx with hx | hx
    · (sym => (simp [yC_nm,yC_rn,yM_s,yC_gr,yC_sl,yC_fz,yC_len,yC_0,yC_1,yC_2,yC_3,yC_4,yC_15,yC_same,Za,Zb,Zc,Zd,Ze,Zf,Zg,Zh,Zi,Zk,Zl,Zm,Zn,Zu,Z0,Z2,ZG,ZH,ZJ,ZK,ZL,ZM,ZN,ZO,ZP,ZQ,ZR,ZS,ZT,ZU,Yn,Yo,Yt,Yw,YQ,YR,YU,YX,YY,Xc,Xd,Xe,Xh,Xo,Xp,Xr,Xt,Xu,Xy,Xz,XK,XN,Wf,Wm,Wp,Ww,Wy,Wz,W0,W3,W4,W5,W6,W7,W9,WA,WB,WC,WE,WF,WG,WH,WI,WJ,WK,WL,WM,WN,WO,WP,WQ,WR,WS,WT,WU,WV,WW,WX,WY,WZ,Va,Vb,Vc,Vd,Ve,Vf,Vg,Vh,Vi,Vj,Vk,Vm,Vn,Vr,Vt,Vu,Vw,Vx,Vy,Vz,V7,V8,V9,VA,VL,VO,VP,VU,VV,VW,VX,VY,VZ,Ua,Ub,Uc,Ud,Uf,Ui,Uk,Ul,Um,Un,Uo,Us,Uv,Uw,Ux,Uz,U0,U1,U2,U3,U4,U5,U6,U7,U8,U9,UC,UE,UF,UG,UH,UM,UN,UQ,UR,US,UT,UY,UZ,Ta,Tc,Td,Tf,Tg,Tk,Tl,Tm,Tq,Tr,Ts,Tt,Tv,Tw,Tx,T3,T4,T8,TB,TC,TF,TK,TX,TY,TZ,Sa,Sj,Sk,Sl,Sm,Sq,Sv,Sw,Sz,S2,S3,S4,S5,SD,SE,SF,h,hr,n0,o1,o2,hx,b1,b2]; all_goals tactic => exact rfl))
    · (sym => (simp [yC_nm,yC_rn,yM_s,yC_gr,yC_sl,yC_fz,yC_len,yC_0,yC_1,yC_2,yC_3,yC_4,yC_15,yC_same,Za,Zb,Zc,Zd,Ze,Zf,Zg,Zh,Zi,Zk,Zl,Zm,Zn,Zu,Z0,Z2,ZG,ZH,ZJ,ZK,ZL,ZM,ZN,ZO,ZP,ZQ,ZR,ZS,ZT,ZU,Yn,Yo,Yt,Yw,YQ,YR,YU,YX,YY,Xc,Xd,Xe,Xh,Xo,Xp,Xr,Xt,Xu,Xy,Xz,XK,XN,Wf,Wm,Wp,Ww,Wy,Wz,W0,W3,W4,W5,W6,W7,W9,WA,WB,WC,WE,WF,WG,WH,WI,WJ,WK,WL,WM,WN,WO,WP,WQ,WR,WS,WT,WU,WV,WW,WX,WY,WZ,Va,Vb,Vc,Vd,Ve,Vf,Vg,Vh,Vi,Vj,Vk,Vm,Vn,Vr,Vt,Vu,Vw,Vx,Vy,Vz,V7,V8,V9,VA,VL,VO,VP,VU,VV,VW,VX,VY,VZ,Ua,Ub,Uc,Ud,Uf,Ui,Uk,Ul,Um,Un,Uo,Us,Uv,Uw,Ux,Uz,U0,U1,U2,U3,U4,U5,U6,U7,U8,U9,UC,UE,UF,UG,UH,UM,UN,UQ,UR,US,UT,UY,UZ,Ta,Tc,Td,Tf,Tg,Tk,Tl,Tm,Tq,Tr,Ts,Tt,Tv,Tw,Tx,T3,T4,T8,TB,TC,TF,TK,TX,TY,TZ,Sa,Sj,Sk,Sl,Sm,Sq,Sv,Sw,Sz,S2,S3,S4,S5,SD,SE,SF,h,hr,n0,o1,o2,hx,b1,b2]; all_goals tactic => exact rfl))
  refine ⟨z73c l b es2 d2 w a2 q2 c,?_,?_,rfl,rfl,rfl⟩
  · (sym => (simp [yC_nm,yC_rn,yM_s,yC_gr,yC_sl,yC_fz,yC_len,yC_0,yC_1,yC_2,yC_3,yC_4,yC_15,yC_same,Za,Zb,Zc,Zd,Ze,Zf,Zg,Zh,Zi,Zk,Zl,Zm,Zn,Zu,Z0,Z2,ZG,ZH,ZJ,ZK,ZL,ZM,ZN,ZO,ZP,ZQ,ZR,ZS,ZT,ZU,Yn,Yo,Yt,Yw,YQ,YR,YU,YX,YY,Xc,Xd,Xe,Xh,Xo,Xp,Xr,Xt,Xu,Xy,Xz,XK,XN,Wf,Wm,Wp,Ww,Wy,Wz,W0,W3,W4,W5,W6,W7,W9,WA,WB,WC,WE,WF,WG,WH,WI,WJ,WK,WL,WM,WN,WO,WP,WQ,WR,WS,WT,WU,WV,WW,WX,WY,WZ,Va,Vb,Vc,Vd,Ve,Vf,Vg,Vh,Vi,Vj,Vk,Vm,Vn,Vr,Vt,Vu,Vw,Vx,Vy,Vz,V7,V8,V9,VA,VL,VO,VP,VU,VV,VW,VX,VY,VZ,Ua,Ub,Uc,Ud,Uf,Ui,Uk,Ul,Um,Un,Uo,Us,Uv,Uw,Ux,Uz,U0,U1,U2,U3,U4,U5,U6,U7,U8,U9,UC,UE,UF,UG,UH,UM,UN,UQ,UR,US,UT,UY,UZ,Ta,Tc,Td,Tf,Tg,Tk,Tl,Tm,Tq,Tr,Ts,Tt,Tv,Tw,Tx,T3,T4,T8,TB,TC,TF,TK,TX,TY,TZ,Sa,Sj,Sk,Sl,Sm,Sq,Sv,Sw,Sz,S2,S3,S4,S5,SD,SE,SF,y]; all_goals tactic => exact rfl))
  · (sym => (simp [yC_nm,yC_rn,yM_s,yC_gr,yC_sl,yC_fz,yC_len,yC_0,yC_1,yC_2,yC_3,yC_4,yC_15,yC_same,Za,Zb,Zc,Zd,Ze,Zf,Zg,Zh,Zi,Zk,Zl,Zm,Zn,Zu,Z0,Z2,ZG,ZH,ZJ,ZK,ZL,ZM,ZN,ZO,ZP,ZQ,ZR,ZS,ZT,ZU,Yn,Yo,Yt,Yw,YQ,YR,YU,YX,YY,Xc,Xd,Xe,Xh,Xo,Xp,Xr,Xt,Xu,Xy,Xz,XK,XN,Wf,Wm,Wp,Ww,Wy,Wz,W0,W3,W4,W5,W6,W7,W9,WA,WB,WC,WE,WF,WG,WH,WI,WJ,WK,WL,WM,WN,WO,WP,WQ,WR,WS,WT,WU,WV,WW,WX,WY,WZ,Va,Vb,Vc,Vd,Ve,Vf,Vg,Vh,Vi,Vj,Vk,Vm,Vn,Vr,Vt,Vu,Vw,Vx,Vy,Vz,V7,V8,V9,VA,VL,VO,VP,VU,VV,VW,VX,VY,VZ,Ua,Ub,Uc,Ud,Uf,Ui,Uk,Ul,Um,Un,Uo,Us,Uv,Uw,Ux,Uz,U0,U1,U2,U3,U4,U5,U6,U7,U8,U9,UC,UE,UF,UG,UH,UM,UN,UQ,UR,US,UT,UY,UZ,Ta,Tc,Td,Tf,Tg,Tk,Tl,Tm,Tq,Tr,Ts,Tt,Tv,Tw,Tx,T3,T4,T8,TB,TC,TF,TK,TX,TY,TZ,Sa,Sj,Sk,Sl,Sm,Sq,Sv,Sw,Sz,S2,S3,S4,S5,SD,SE,SF]; all_goals tactic => exact rfl))
end
end Go.Proofs.YtpbeclkpohehgaaDoor
namespace Go.Proofs.YtpbeclkpohehgaaDoor
open Go Go.DL
set_option maxRecDepth 100000
set_option maxHeartbeats 4000000

theorem pick_some {l : Li} {b : Nat → Nat} {w : Int} {d k : Nat} (hk : k < l.ls.length) (hg : goodB l b w d k = true) (hno : ∀ j,j < k → goodB l b w d j = false) : pickF l b w d = some k := by
  rcases range_find (P := goodB l b w d) (n := l.ls.length) with ⟨k',h1,h2,h3,h4⟩ | ⟨_,h2⟩
  · have : k' = k := by
      rcases Nat.lt_trichotomy k' k with h | h | h
      · rw [hno k' h] at h3; simp at h3
      · exact h
      · rw [h4 k h] at hg; simp at hg
    rw [← this]; exact h1
  · rw [h2 k hk] at hg; simp at hg
theorem pick_none {l : Li} {b : Nat → Nat} {w : Int} {d : Nat} (hno : ∀ j,j < l.ls.length → goodB l b w d j = false) : pickF l b w d = none := by
  rcases range_find (P := goodB l b w d) (n := l.ls.length) with ⟨k',_,h2,h3,_⟩ | ⟨h1,_⟩
  · rw [hno k' h2] at h3; simp at h3
  · exact h1
def ofN (ks : List Nat) : List Int := ks.map Int.ofNat
theorem ofN_c (k : Nat) (ks : List Nat) : ofN (k :: ks) = (k : Int) :: ofN ks := rfl
theorem ofN_0 : ofN [] = [] := rfl
section
variable {l : Li} {b : Nat → Nat}
abbrev t73c (l : Li) (b : Nat → Nat) (es : List (Int × Int)) (d : Nat) (w : Int) (a : Int) (r : List Int) (s : LSt) (c : Nat) : XH := [some (.loop 73 0 [.pt 1 0,.pt 4 0,.pt 5 0,.pt 6 0,.pt 8 0] s),some (.blk false (.cells true [.pt 2 0])),some (.blk false (.cells true (yC l b 3))),some (.blk true (.map true (encM es))),cU d,some (.blk true (.cells true [I w])),some (.blk false (.cells true [.sl 7 0 1 (r.length + 1)])),some (.blk true (.cells true (I a :: r.map I))),some (.blk false (.cells true [.fn (.func 73) [] [.pt 1 0,.pt 4 0,.pt 5 0,.pt 6 0,.pt 8 0]])),some (.blk false (.cells true [.pt 2 0])),cU c]
abbrev t73n (l : Li) (b : Nat → Nat) (es : List (Int × Int)) (d : Nat) (w : Int) (s : LSt) (c : Nat) : XH := [some (.loop 73 0 [.pt 1 0,.pt 4 0,.pt 5 0,.pt 6 0,.pt 7 0] s),some (.blk false (.cells true [.pt 2 0])),some (.blk false (.cells true (yC l b 3))),some (.blk true (.map true (encM es))),cU d,some (.blk true (.cells true [I w])),some (.blk true (.cells true [.nilsl])),some (.blk false (.cells true [.fn (.func 73) [] [.pt 1 0,.pt 4 0,.pt 5 0,.pt 6 0,.pt 7 0]])),some (.blk false (.cells true [.pt 2 0])),cU c]
theorem w73c (g : Good l) (p : Prec l.ls.length b) (w : Int) : ∀ (m d : Nat),d < 2 ^ l.ls.length → l.ls.length - pop d l.ls.length = m → ∀ es,Memo l b es → ∀ (a : Int) (q : List Int),q.length + m ≤ 10 →
    ∃ es2 d2,runW progX 73 [.pt 0 0,.pt 3 0,.pt 4 0,.pt 5 0,.pt 7 0] (h73c l b es d w a q) = some (.tup [],h73c l b es2 d2 w a (q ++ ofN (bstF l b w d))) ∨ runW progX 73 [.pt 0 0,.pt 3 0,.pt 4 0,.pt 5 0,.pt 7 0] (h73c l b es d w a q) = some (.tup [],r73c l b es2 d2 w a (q ++ ofN (bstF l b w d))) := by
  have hn := g.few
  have hb : ∀ k,b k < 2 ^ 10 := fun k => lt_10 (p.lt k) hn
  intro m
  induction m using Nat.strongRecOn with
  | ind m ih =>
    intro d hd hm es he a q hq
    have hr := next_rule (n := 9) (p := 2) (d := d) hn hb (lt_10 hd hn) (fun es => g73c l b es d w a q .ready) (fun es => home73c es d w a q .ready) (fun k es1 => Memo l b es1 ∧ ∀ j,j < k → goodB l b w d j = false)
      (fun X => ∃ es2 d2,X = z73c l b es2 d2 w a (q ++ ofN (bstF l b w d)) d) es ⟨he,fun j hj => by omega⟩
      (by
        rintro k es1 hk ⟨he1,hno⟩ hcb
        have hpo := (pop_or (can_bit hcb) l.ls.length).1 hk
        have hle := pop_le (d ||| 2 ^ k) l.ls.length
        obtain ⟨es2,he2,e72⟩ := w72 g p _ (d ||| 2 ^ k) (or_lt hd hk) rfl es1 he1
        have e75 := w75 g hd hk e72
        by_cases hw : wthF l b d k ≤ w
        · have hg : goodB l b w d k = true := by unfold goodB; rw [hcb,decide_eq_true hw]; rfl
          have hbs := bst_some (pick_some hk hg hno)
          obtain ⟨es3,d3,hx⟩ := ih (l.ls.length - pop (d ||| 2 ^ k) l.ls.length) (by omega) (d ||| 2 ^ k) (or_lt hd hk) rfl es2 he2 a (q ++ [(k : Int)]) (by simp; omega)
          have eq : q ++ [(k : Int)] ++ ofN (bstF l b w (d ||| 2 ^ k)) = q ++ ofN (bstF l b w d) := by rw [hbs.1,ofN_c]; simp
          rw [eq] at hx
          exact .inr ⟨_,l73c (lt_10 hd hn) (by omega) (by omega) e75 (eq_true hw) hx,es3,d3,rfl⟩
        · refine .inl ⟨es2,y73c e75 (eq_false hw),he2,fun j hj => ?_⟩
          by_cases hjk : j = k
          · subst hjk; unfold goodB; rw [decide_eq_false hw,Bool.and_false]
          · exact hno j (by omega))
      (by
        rintro k es1 hk ⟨he1,hno⟩ hcb
        refine ⟨he1,fun j hj => ?_⟩
        by_cases hjk : j = k
        · subst hjk; unfold goodB; rw [hcb,Bool.false_and]
        · exact hno j (by omega))
    have e74 := w74 (l := l) (b := b) (encM es) d
    rcases hr with ⟨es1,⟨_,hno⟩,hr⟩ | ⟨X,⟨es2,d2,rfl⟩,hr⟩
    · refine ⟨es1,d,.inl ?_⟩
      have hr : runW progX 105 [.fn (.yield 0) [] [],.pt 9 0,.pt 10 0] (t73c l b es d w a q .ready d) = some (.tup [],t73c l b es1 d w a q .ready d) := hr
      rw [(bst_none (pick_none hno)).1,ofN_0,List.append_nil]
      rw [r73 (by simp)]; unfold x73; dsimp only
      (sym => (simp [yC_nm,yC_rn,yM_s,yC_gr,yC_sl,yC_fz,yC_len,yC_0,yC_1,yC_2,yC_3,yC_4,yC_15,yC_same,Za,Zb,Zf,Zg,Zj,Zl,Zm,ZG,ZO,ZP,ZT,ZU,YQ,YU,YX,YY,Xc,Xd,Xo,Xr,Xt,Xu,Xy,Xz,XK,XN,Wf,Wh,Wy,Wz,W0,W3,W6,W7,W8,W9,WA,WB,WC,WE,WF,WG,WH,WI,WJ,WK,WL,WM,WN,WO,WP,WQ,WR,WS,WT,WU,WV,WW,WX,WY,WZ,Va,Vb,Vc,Vd,Ve,Vf,Vg,Vh,Vr,Vt,Vu,Vw,Vx,Vy,Vz,V4,V5,V6,V8,V9,VA,VB,VD,VF,VK,VT,VU,VV,VW,VX,VY,VZ,Ua,Ub,Uc,Uf,Ui,Uv,Uw,U1,U2,U3,U4,U5,U8,U9,UC,UD,Tf,Tg,Tk,Tw,T3,T4,T7,T8,TB,TC,TX,TY,Sb,Sc,Sd,Se,Sf,Sg,Si,Sw,SD,SE,SF,e74,hr]; all_goals tactic => exact rfl))
    · refine ⟨es2,d2,.inr ?_⟩
      have hr : runW progX 105 [.fn (.yield 0) [] [],.pt 9 0,.pt 10 0] (t73c l b es d w a q .ready d) = some (.tup [],z73c l b es2 d2 w a (q ++ ofN (bstF l b w d)) d) := hr
      generalize q ++ ofN (bstF l b w d) = q2 at *
      rw [r73 (by simp)]; unfold x73; dsimp only
      (sym => (simp [yC_nm,yC_rn,yM_s,yC_gr,yC_sl,yC_fz,yC_len,yC_0,yC_1,yC_2,yC_3,yC_4,yC_15,yC_same,Za,Zb,Zf,Zg,Zj,Zl,Zm,ZG,ZO,ZP,ZT,ZU,YQ,YU,YX,YY,Xc,Xd,Xo,Xr,Xt,Xu,Xy,Xz,XK,XN,Wf,Wh,Wy,Wz,W0,W3,W6,W7,W8,W9,WA,WB,WC,WE,WF,WG,WH,WI,WJ,WK,WL,WM,WN,WO,WP,WQ,WR,WS,WT,WU,WV,WW,WX,WY,WZ,Va,Vb,Vc,Vd,Ve,Vf,Vg,Vh,Vr,Vt,Vu,Vw,Vx,Vy,Vz,V4,V5,V6,V8,V9,VA,VB,VD,VF,VK,VT,VU,VV,VW,VX,VY,VZ,Ua,Ub,Uc,Uf,Ui,Uv,Uw,U1,U2,U3,U4,U5,U8,U9,UC,UD,Tf,Tg,Tk,Tw,T3,T4,T7,T8,TB,TC,TX,TY,Sb,Sc,Sd,Se,Sf,Sg,Si,Sw,SD,SE,SF,e74,hr]; all_goals tactic => exact rfl))
theorem w73n (g : Good l) (p : Prec l.ls.length b) (w : Int) {d : Nat} (hd : d < 2 ^ l.ls.length) {es : List (Int × Int)} (he : Memo l b es) :
    ∃ es2 d2,(bstF l b w d = [] ∧ runW progX 73 [.pt 0 0,.pt 3 0,.pt 4 0,.pt 5 0,.pt 6 0] (h73n l b es d w) = some (.tup [],h73n l b es2 d2 w)) ∨ ∃ k ks,bstF l b w d = k :: ks ∧ runW progX 73 [.pt 0 0,.pt 3 0,.pt 4 0,.pt 5 0,.pt 6 0] (h73n l b es d w) = some (.tup [],r73n l b es2 d2 w (k : Int) (ofN ks)) := by
  have hn := g.few
  have hb : ∀ k,b k < 2 ^ 10 := fun k => lt_10 (p.lt k) hn
  have hr := next_rule (n := 8) (p := 2) (d := d) hn hb (lt_10 hd hn) (fun es => g73n l b es d w .ready) (fun es => home73n es d w .ready) (fun k es1 => Memo l b es1 ∧ ∀ j,j < k → goodB l b w d j = false)
    (fun X => ∃ es2 d2 k ks,bstF l b w d = k :: ks ∧ X = z73n l b es2 d2 w (k : Int) (ofN ks) d) es ⟨he,fun j hj => by omega⟩
    (by
      rintro k es1 hk ⟨he1,hno⟩ hcb
      have hpo := (pop_or (can_bit hcb) l.ls.length).1 hk
      have hle := pop_le (d ||| 2 ^ k) l.ls.length
      obtain ⟨es2,he2,e72⟩ := w72 g p _ (d ||| 2 ^ k) (or_lt hd hk) rfl es1 he1
      have e75 := w75 g hd hk e72
      by_cases hw : wthF l b d k ≤ w
      · have hg : goodB l b w d k = true := by unfold goodB; rw [hcb,decide_eq_true hw]; rfl
        have hbs := bst_some (pick_some hk hg hno)
        obtain ⟨es3,d3,hx⟩ := w73c g p w _ (d ||| 2 ^ k) (or_lt hd hk) rfl es2 he2 (k : Int) [] (by simp; omega)
        exact .inr ⟨_,l73n (lt_10 hd hn) (by omega) e75 (eq_true hw) hx,es3,d3,k,_,hbs.1,rfl⟩
      · refine .inl ⟨es2,y73n e75 (eq_false hw),he2,fun j hj => ?_⟩
        by_cases hjk : j = k
        · subst hjk; unfold goodB; rw [decide_eq_false hw,Bool.and_false]
        · exact hno j (by omega))
    (by
      rintro k es1 hk ⟨he1,hno⟩ hcb
      refine ⟨he1,fun j hj => ?_⟩
      by_cases hjk : j = k
      · subst hjk; unfold goodB; rw [hcb,Bool.false_and]
      · exact hno j (by omega))
  have e74 := w74 (l := l) (b := b) (encM es) d
  rcases hr with ⟨es1,⟨_,hno⟩,hr⟩ | ⟨X,⟨es2,d2,k,ks,hbs,rfl⟩,hr⟩
  · refine ⟨es1,d,.inl ⟨(bst_none (pick_none hno)).1,?_⟩⟩
    have hr : runW progX 105 [.fn (.yield 0) [] [],.pt 8 0,.pt 9 0] (t73n l b es d w .ready d) = some (.tup [],t73n l b es1 d w .ready d) := hr
    rw [r73 (by simp)]; unfold x73; dsimp only
    (sym => (simp [yC_nm,yC_rn,yM_s,yC_gr,yC_sl,yC_fz,yC_len,yC_0,yC_1,yC_2,yC_3,yC_4,yC_15,yC_same,Za,Zb,Zf,Zg,Zj,Zl,Zm,ZG,ZO,ZP,ZT,ZU,YQ,YU,YX,YY,Xc,Xd,Xo,Xr,Xt,Xu,Xy,Xz,XK,XN,Wf,Wh,Wy,Wz,W0,W3,W6,W7,W8,W9,WA,WB,WC,WE,WF,WG,WH,WI,WJ,WK,WL,WM,WN,WO,WP,WQ,WR,WS,WT,WV,WW,WX,WY,Va,Vb,Vc,Vd,Ve,Vf,Vg,Vh,Vr,Vt,Vu,Vw,Vx,Vy,Vz,V4,V5,V6,V8,V9,VA,VB,VD,VF,VK,VT,VU,VV,VW,VX,VY,VZ,Ua,Ub,Uc,Uf,Ui,Uv,Uw,U1,U2,U3,U4,U5,U8,U9,UC,UD,Tf,Tg,Tk,Tw,T3,T4,T7,T8,TB,TC,TX,TY,Sb,Sc,Sd,Se,Sf,Sg,Si,Sw,SD,SE,SF,e74,hr]; all_goals tactic => exact rfl))
  · refine ⟨es2,d2,.inr ⟨k,ks,hbs,?_⟩⟩
    have hr : runW progX 105 [.fn (.yield 0) [] [],.pt 8 0,.pt 9 0] (t73n l b es d w .ready d) = some (.tup [],z73n l b es2 d2 w (k : Int) (ofN ks) d) := hr
    rw [r73 (by simp)]; unfold x73; dsimp only
    (sym => (simp [yC_nm,yC_rn,yM_s,yC_gr,yC_sl,yC_fz,yC_len,yC_0,yC_1,yC_2,yC_3,yC_4,yC_15,yC_same,Za,Zb,Zf,Zg,Zj,Zl,Zm,ZG,ZO,ZP,ZT,ZU,YQ,YU,YX,YY,Xc,Xd,Xo,Xr,Xt,Xu,Xy,Xz,XK,XN,Wf,Wh,Wy,Wz,W0,W3,W6,W7,W8,W9,WA,WB,WC,WE,WF,WG,WH,WI,WJ,WK,WL,WM,WN,WO,WP,WQ,WR,WS,WT,WV,WW,WX,WY,Va,Vb,Vc,Vd,Ve,Vf,Vg,Vh,Vr,Vt,Vu,Vw,Vx,Vy,Vz,V4,V5,V6,V8,V9,VA,VB,VD,VF,VK,VT,VU,VV,VW,VX,VY,VZ,Ua,Ub,Uc,Uf,Ui,Uv,Uw,U1,U2,U3,U4,U5,U8,U9,UC,UD,Tf,Tg,Tk,Tw,T3,T4,T7,T8,TB,TC,TX,TY,Sb,Sc,Sd,Se,Sf,Sg,Si,Sw,SD,SE,SF,e74,hr]; all_goals tactic => exact rfl))
end
end Go.Proofs.YtpbeclkpohehgaaDoor
namespace Go.Proofs.YtpbeclkpohehgaaDoor
open Go Go.DL
set_option maxRecDepth 100000
set_option maxHeartbeats 4000000

def minW (l : Li) : Int := rstF l (behF l.ts) 0
def bestO (l : Li) : List Nat := bstF l (behF l.ts) (minW l) 0
def bestR (l : Li) : Option (AV × XH) := if checkL l = 0 then some (.tup [rI (ofN (bestO l)),I (minW l),I 0],[]) else some (.tup [.fs [],I 0,I (checkL l)],[])
theorem w29 (l : Li) (hf : l.Fit) : runW progX 29 [.agg l.c] [] = bestR l := by
  have e52 := w52 l hf
  unfold w52R at e52
  unfold bestR
  by_cases hc : checkL l = 0
  · rw [if_pos hc]
    rw [if_pos hc] at e52
    have g := good_of hc
    have hn := g.few
    have p := g.prec
    unfold bestO minW
    generalize behF l.ts = b at *
    obtain ⟨es1,he1,e72⟩ := w72 g p _ 0 (Nat.two_pow_pos _) rfl [] (memo_0 l b)
    have e72 : runW progX 72 [.pt 0 0,.int .u64 0] [some (.blk false (.cells true (yC l b 1))),some (.blk true (.map true []))] = some (I (rstF l b 0),hY l b (encM es1)) := e72
    generalize rstF l b 0 = w at *
    obtain ⟨es2,d2,hx⟩ := w73n g p w (d := 0) (Nat.two_pow_pos _) he1
    rcases hx with ⟨h1,e73⟩ | ⟨k,ks,h1,e73⟩
    · have e73 : runW progX 73 [.pt 0 0,.pt 3 0,.pt 4 0,.pt 5 0,.pt 6 0] [some (.blk false (.cells true [.pt 1 0])),some (.blk false (.cells true (yC l b 2))),some (.blk true (.map true (encM es1))),some (.blk true (.cells true [.int .u64 0])),some (.blk true (.cells true [I w])),some (.blk true (.cells true [.nilsl])),some (.blk false (.cells true [.fn (.func 73) [] [.pt 0 0,.pt 3 0,.pt 4 0,.pt 5 0,.pt 6 0]]))] = some (.tup [],h73n l b es2 d2 w) := e73
      rw [h1,ofN_0]
      rw [r29 (by simp)]; unfold x29; dsimp only
      (sym => (simp [yC_nm,yC_rn,yM_s,yC_gr,yC_sl,yC_fz,yC_len,yC_0,yC_1,yC_2,yC_3,yC_4,yC_15,yC_same,Za,Zb,Zc,Zd,Ze,Zf,Zg,Zh,Zi,Zj,Zl,Zm,Zn,Zu,Zv,Zw,Zy,Z2,ZD,ZG,ZH,ZJ,ZK,ZL,ZM,ZN,ZO,ZP,ZT,ZU,Yi,Yr,YQ,YT,YU,YV,YY,Xc,Xe,Xf,Xg,Xh,Xi,Xk,Xl,Xm,Xn,Xo,Xq,Xr,Xs,Xt,Xu,Xx,Xy,X0,XK,XM,XN,XO,XU,XW,XY,XZ,Wb,Wc,We,Wf,Wg,Wi,Wm,Wn,Wp,Wq,Ws,Wt,Wu,Ww,Wy,Wz,W0,W3,W4,W5,W6,W7,W8,W9,WA,WB,WC,WE,WG,WH,WI,WJ,WK,WL,WM,WN,WO,WP,WR,WS,WT,WV,WW,WX,Vb,Vc,Ve,Vf,Vg,Vh,Vi,Vj,Vo,Vp,Vq,Vr,Vs,Vt,Vu,Vw,Vx,Vy,Vz,V1,V2,V3,V5,V6,V8,V9,VA,VB,VE,VF,VG,VH,VI,VJ,VK,VO,VP,VQ,VT,VU,VV,VW,VX,VY,Ua,Ub,Uc,Ud,Uf,Ui,Uk,Ul,Um,Un,Uo,Ur,Us,Uv,Uw,Ux,Uy,Uz,U0,U1,U2,U3,U4,U5,U6,U7,U8,U9,UA,UB,UC,UD,UE,UO,UP,Tf,Tg,Tj,Tk,Tl,Tm,Tq,Tv,Tw,Tx,Ty,T4,T6,TB,TC,TF,TG,TI,TV,Sv,Sw,Sx,Sy,SD,SE,SF,e52,e72,e73]; all_goals tactic => exact rfl))
    · have e73 : runW progX 73 [.pt 0 0,.pt 3 0,.pt 4 0,.pt 5 0,.pt 6 0] [some (.blk false (.cells true [.pt 1 0])),some (.blk false (.cells true (yC l b 2))),some (.blk true (.map true (encM es1))),some (.blk true (.cells true [.int .u64 0])),some (.blk true (.cells true [I w])),some (.blk true (.cells true [.nilsl])),some (.blk false (.cells true [.fn (.func 73) [] [.pt 0 0,.pt 3 0,.pt 4 0,.pt 5 0,.pt 6 0]]))] = some (.tup [],r73n l b es2 d2 w (k : Int) (ofN ks)) := e73
      rw [h1,ofN_c]
      rw [r29 (by simp)]; unfold x29; dsimp only
      (sym => (simp [yC_nm,yC_rn,yM_s,yC_gr,yC_sl,yC_fz,yC_len,yC_0,yC_1,yC_2,yC_3,yC_4,yC_15,yC_same,Za,Zb,Zc,Zd,Ze,Zf,Zg,Zh,Zi,Zj,Zl,Zm,Zn,Zu,Zv,Zw,Zy,Z2,ZD,ZG,ZH,ZJ,ZK,ZL,ZM,ZN,ZO,ZP,ZT,ZU,Yi,Yr,YQ,YT,YU,YV,YY,Xc,Xe,Xf,Xg,Xh,Xi,Xk,Xl,Xm,Xn,Xo,Xq,Xr,Xs,Xt,Xu,Xx,Xy,X0,XK,XM,XN,XO,XU,XW,XY,XZ,Wb,Wc,We,Wf,Wg,Wi,Wm,Wn,Wp,Wq,Ws,Wt,Wu,Ww,Wy,Wz,W0,W3,W4,W5,W6,W7,W8,W9,WA,WB,WC,WE,WG,WH,WI,WJ,WK,WL,WM,WN,WO,WP,WR,WS,WT,WV,WW,WX,Vb,Vc,Ve,Vf,Vg,Vh,Vi,Vj,Vo,Vp,Vq,Vr,Vs,Vt,Vu,Vw,Vx,Vy,Vz,V1,V2,V3,V5,V6,V8,V9,VA,VB,VE,VF,VG,VH,VI,VJ,VK,VO,VP,VQ,VT,VU,VV,VW,VX,VY,Ua,Ub,Uc,Ud,Uf,Ui,Uk,Ul,Um,Un,Uo,Ur,Us,Uv,Uw,Ux,Uy,Uz,U0,U1,U2,U3,U4,U5,U6,U7,U8,U9,UA,UB,UC,UD,UE,UO,UP,Tf,Tg,Tj,Tk,Tl,Tm,Tq,Tv,Tw,Tx,Ty,T4,T6,TB,TC,TF,TG,TI,TV,Sv,Sw,Sx,Sy,SD,SE,SF,e52,e72,e73]; all_goals tactic => exact rfl))
  · rw [if_neg hc]
    rw [if_neg hc] at e52
    have g := eq_false hc
    rw [r29 (by simp)]; unfold x29; dsimp only
    (sym => (simp [yC_nm,yC_rn,yM_s,yC_gr,yC_sl,yC_fz,yC_len,yC_0,yC_1,yC_2,yC_3,yC_4,yC_15,yC_same,Za,Zb,Zc,Zd,Ze,Zf,Zg,Zh,Zi,Zj,Zl,Zm,Zn,Zu,Zv,Zw,Zy,Z2,ZD,ZG,ZH,ZJ,ZK,ZL,ZM,ZN,ZO,ZP,ZT,ZU,Yi,Yr,YQ,YT,YU,YV,YY,Xc,Xe,Xf,Xg,Xh,Xi,Xk,Xl,Xm,Xn,Xo,Xq,Xr,Xs,Xt,Xu,Xx,Xy,X0,XK,XM,XN,XO,XU,XW,XY,XZ,Wb,Wc,We,Wf,Wg,Wi,Wm,Wn,Wp,Wq,Ws,Wt,Wu,Ww,Wy,Wz,W0,W3,W4,W5,W6,W7,W8,W9,WA,WB,WC,WE,WG,WH,WI,WJ,WK,WL,WM,WN,WO,WP,WR,WS,WT,WV,WW,WX,Vb,Vc,Ve,Vf,Vg,Vh,Vi,Vj,Vo,Vp,Vq,Vr,Vs,Vt,Vu,Vw,Vx,Vy,Vz,V1,V2,V3,V5,V6,V8,V9,VA,VB,VE,VF,VG,VH,VI,VJ,VK,VO,VP,VQ,VT,VU,VV,VW,VX,VY,Ua,Ub,Uc,Ud,Uf,Ui,Uk,Ul,Um,Un,Uo,Ur,Us,Uv,Uw,Ux,Uy,Uz,U0,U1,U2,U3,U4,U5,U6,U7,U8,U9,UA,UB,UC,UD,UE,UO,UP,Tf,Tg,Tj,Tk,Tl,Tm,Tq,Tv,Tw,Tx,Ty,T4,T6,TB,TC,TF,TG,TI,TV,Sv,Sw,Sx,Sy,SD,SE,SF,e52,g]; all_goals tactic => exact rfl))
end Go.Proofs.YtpbeclkpohehgaaDoor
namespace Go.Proofs.YtpbeclkpohehgaaDoor
open Go Go.DL
set_option maxRecDepth 100000
set_option maxHeartbeats 4000000

def aL (N : Nat) (F : Nat → Int) : List Int := (List.range N).map F
theorem mn_bd {f : Nat → Int} : ∀ (ks : List Nat) (n : Int),(∀ k ∈ ks,0 ≤ f k) → 0 ≤ n → 0 ≤ ks.foldl (fun n k => mnI n (f k)) n ∧ ks.foldl (fun n k => mnI n (f k)) n ≤ n
  | [],n,_,hn => ⟨hn,Int.le_refl _⟩
  | k :: ks,n,h,hn => by
    have h0 := h k (by simp)
    have hm : 0 ≤ mnI n (f k) ∧ mnI n (f k) ≤ n := by unfold mnI; split <;> omega
    have ih := mn_bd ks (mnI n (f k)) (fun j hj => h j (by simp [hj])) hm.1
    rw [List.foldl_cons]
    omega
theorem mx_bd {a c m : Int} (h1 : 0 ≤ a ∧ a ≤ m) (h2 : 0 ≤ c ∧ c ≤ m) : 0 ≤ mxI a c ∧ mxI a c ≤ m := by unfold mxI; split <;> omega
theorem rest_bd0 {l : Li} (g : Good l) {b : Nat → Nat} : ∀ (m d : Nat),0 ≤ restF l b m d ∧ restF l b m d ≤ 1000000
  | 0,d => by rw [restF]; omega
  | m + 1,d => by
    rw [restF]
    refine mn_bd (f := fun k => mxI (lastF l (d ||| 2 ^ k) k) (restF l b m (d ||| 2 ^ k))) _ _ (fun k hk => ?_) (by omega)
    exact (mx_bd (last_bd g (List.mem_range.1 (List.mem_filter.1 hk).1)) (rest_bd0 g m _)).1
theorem rest_bd {l : Li} (g : Good l) (b : Nat → Nat) (d : Nat) : 0 ≤ rstF l b d ∧ rstF l b d ≤ 1000000 := rest_bd0 g _ _
theorem wth_bd {l : Li} (g : Good l) (b : Nat → Nat) (d : Nat) {k : Nat} (hk : k < l.ls.length) : 0 ≤ wthF l b d k ∧ wthF l b d k ≤ 1000000 := mx_bd (last_bd g hk) (rest_bd g b _)
theorem can_ex {l : Li} {b : Nat → Nat} (p : Prec l.ls.length b) (hn : l.ls.length ≤ 10) {d : Nat} (hd : d < 2 ^ l.ls.length) (h : pop d l.ls.length < l.ls.length) : ∃ k,k < l.ls.length ∧ canB b d k = true := by
  have : ∃ k,k < l.ls.length ∧ d.testBit k = false := by
    by_cases hc : ∀ i,i < l.ls.length → d.testBit i = true
    · have := pop_full.2 hc
      omega
    · rw [Classical.not_forall] at hc
      obtain ⟨i,hi⟩ := hc
      rw [Classical.not_imp] at hi
      exact ⟨i,hi.1,by simpa using hi.2⟩
  obtain ⟨k,hk,hkd⟩ := this
  obtain ⟨k2,h1,h2,h3⟩ := p.next _ k hk hkd (Nat.le_refl _)
  exact ⟨k2,h1,(canB_iff p hn hd).2 ⟨h2,h3⟩⟩
end Go.Proofs.YtpbeclkpohehgaaDoor
namespace Go.Proofs.YtpbeclkpohehgaaDoor
open Go Go.DL
set_option maxRecDepth 100000
set_option maxHeartbeats 4000000
section
variable {l : Li} {b : Nat → Nat}
abbrev hA (l : Li) (N : Nat) (F : Nat → Int) : XH := [some (.blk true (.cells true l.c)),some (.blk true (.cells true ((aL N F).map I)))]
end
end Go.Proofs.YtpbeclkpohehgaaDoor
namespace Go.Proofs.YtpbeclkpohehgaaDoor
open Go Go.DL
set_option maxRecDepth 100000
set_option maxHeartbeats 4000000
section
variable {l : Li} {b : Nat → Nat}
end
end Go.Proofs.YtpbeclkpohehgaaDoor
namespace Go.Proofs.YtpbeclkpohehgaaDoor
open Go Go.DL
set_option maxRecDepth 100000
set_option maxHeartbeats 4000000
theorem mn_ex {f : Nat → Int} : ∀ (ks : List Nat) (n : Int),ks.foldl (fun n k => mnI n (f k)) n = n ∨ ∃ k,k ∈ ks ∧ ks.foldl (fun n k => mnI n (f k)) n = f k
  | [],n => .inl rfl
  | k :: ks,n => by
    rw [List.foldl_cons]
    rcases mn_ex (f := f) ks (mnI n (f k)) with h | ⟨j,h1,h2⟩
    · rw [h]
      unfold mnI
      by_cases hc : f k < n
      · rw [if_pos hc]; exact .inr ⟨k,by simp,rfl⟩
      · rw [if_neg hc]; exact .inl rfl
    · exact .inr ⟨j,by simp [h1],h2⟩
theorem mn_le {f : Nat → Int} : ∀ (ks : List Nat) (n : Int),ks.foldl (fun n k => mnI n (f k)) n ≤ n ∧ ∀ k ∈ ks,ks.foldl (fun n k => mnI n (f k)) n ≤ f k
  | [],n => ⟨Int.le_refl _,fun k hk => by simp at hk⟩
  | k :: ks,n => by
    rw [List.foldl_cons]
    obtain ⟨h1,h2⟩ := mn_le (f := f) ks (mnI n (f k))
    have h3 : mnI n (f k) ≤ n ∧ mnI n (f k) ≤ f k := by unfold mnI; split <;> omega
    refine ⟨by omega,fun j hj => ?_⟩
    rcases List.mem_cons.1 hj with rfl | hj
    · omega
    · exact h2 j hj
theorem nx_mem {n : Nat} {b : Nat → Nat} {d k : Nat} : k ∈ (List.range n).filter (canB b d) ↔ k < n ∧ canB b d k = true := by
  rw [List.mem_filter,List.mem_range]
theorem rest_le {l : Li} {b : Nat → Nat} {d k : Nat} (h : pop d l.ls.length < l.ls.length) (hk : k < l.ls.length) (hc : canB b d k = true) : rstF l b d ≤ wthF l b d k := by
  rw [rest_step h,rsT_fl]
  exact (mn_le _ _).2 k (nx_mem.2 ⟨hk,hc⟩)
theorem rest_ex {l : Li} (g : Good l) {b : Nat → Nat} (p : Prec l.ls.length b) {d : Nat} (hd : d < 2 ^ l.ls.length) (h : pop d l.ls.length < l.ls.length) : ∃ k,k < l.ls.length ∧ canB b d k = true ∧ wthF l b d k = rstF l b d := by
  obtain ⟨k0,h1,h2⟩ := can_ex p g.few hd h
  have h3 := rest_le h h1 h2
  have h4 := wth_bd g b d h1
  rw [rest_step h,rsT_fl] at *
  rcases mn_ex (f := wthF l b d) ((List.range l.ls.length).filter (canB b d)) 1000000 with h5 | ⟨k,h5,h6⟩
  · exact ⟨k0,h1,h2,by omega⟩
  · have := nx_mem.1 h5
    exact ⟨k,this.1,this.2,h6.symm⟩
theorem pick_ex {l : Li} (g : Good l) {b : Nat → Nat} (p : Prec l.ls.length b) {w : Int} {d : Nat} (hd : d < 2 ^ l.ls.length) (h : pop d l.ls.length < l.ls.length) (hw : rstF l b d ≤ w) : ∃ k,pickF l b w d = some k := by
  obtain ⟨k,h1,h2,h3⟩ := rest_ex g p hd h
  cases hp : pickF l b w d with
  | some k => exact ⟨k,rfl⟩
  | none =>
    have := (bst_none hp).2 k h1
    unfold goodB at this
    rw [h2,decide_eq_true (by omega)] at this
    simp at this
theorem pop_0 : ∀ n,pop 0 n = 0
  | 0 => rfl
  | n + 1 => by rw [pop,pop_0 n,Nat.zero_testBit]; simp
section
variable {l : Li} {b : Nat → Nat}
end
end Go.Proofs.YtpbeclkpohehgaaDoor
namespace Go.Proofs.YtpbeclkpohehgaaDoor
open Go Go.DL
set_option maxRecDepth 100000
set_option maxHeartbeats 4000000
section
variable {l : Li} {b : Nat → Nat}
end
end Go.Proofs.YtpbeclkpohehgaaDoor
namespace Go.Proofs.YtpbeclkpohehgaaDoor
open Go Go.DL
set_option maxRecDepth 100000
set_option maxHeartbeats 4000000

end Go.Proofs.YtpbeclkpohehgaaDoor
namespace Go.Proofs.YtpbeclkpohehgaaDoor
open Go Go.DL
set_option maxRecDepth 100000
set_option maxHeartbeats 4000000

theorem w34s (a : List Int) (ha : a.length ≤ 9223372036854775807) : runW progX 34 [rI a,rI a] [] = some (.bool true,[]) := by
  have z := Te (n := (a.length : Int))
  have rd : ∀ i,i < a.length → headX 0 [0,1,5] (execW progX 34 0 none (match x34l0 with | .loop _ a => a | c => c) (envL [0,1,5] [rI a,rI a,I (i : Nat)]) []) = some ([rI a,rI a,I (i + 1 : Nat)],[]) := by
    intro i hi
    obtain ⟨x,hx⟩ := at_ix hi
    have a1 := lt_ix hi
    have a2 := up_ix hi ha
    unfold x34l0
    dsimp only
    (sym => (simp [yC_nm,yC_rn,yM_s,yC_gr,yC_sl,yC_fz,yC_len,yC_0,yC_1,yC_2,yC_3,yC_4,yC_15,yC_same,Za,Zb,Zf,Zh,Zi,Zl,Zm,Zu,Z2,Z8,ZE,ZI,ZJ,Yb,Yg,Yh,Yj,Yr,Ys,Yv,Yw,Y1,YQ,YR,YV,Xo,Xp,Xs,XI,Wd,Wg,W8,W9,WH,WL,WM,WO,WP,Vr,V5,V6,V8,V9,VA,VB,VC,VF,VG,VH,VI,VK,VL,VM,VN,VO,VP,VQ,VR,VT,VU,VV,VY,Ua,Ub,Uc,Ud,Ue,Uf,Ul,Us,Ux,Uy,U1,U2,U3,U4,U5,UC,UD,Te,Th,Ti,Tk,Tv,Tw,Tx,Ty,Tz,T3,T4,T5,T7,T9,TA,TB,TC,Sw,a1,a2,hx]; all_goals tactic => exact rfl))
  rw [r34 (by simp)]; unfold x34; dsimp only
  sym =>
    simp [yC_nm,yC_rn,yM_s,yC_gr,yC_sl,yC_fz,yC_len,yC_0,yC_1,yC_2,yC_3,yC_4,yC_15,yC_same,Za,Zb,Zf,Zh,Zi,Zl,Zm,Zu,Z2,Z8,ZE,ZI,ZJ,Yb,Yg,Yh,Yj,Yr,Ys,Yv,Yw,Y1,YQ,YR,YV,Xo,Xp,Xs,XI,Wd,Wg,W8,W9,WH,WL,WM,WO,WP,Vr,V5,V6,V8,V9,VA,VB,VC,VF,VG,VH,VI,VK,VL,VM,VN,VO,VP,VQ,VR,VT,VU,VV,VY,Ua,Ub,Uc,Ud,Ue,Uf,Ul,Us,Ux,Uy,U1,U2,U3,U4,U5,UC,UD,Te,Th,Ti,Tk,Tv,Tw,Tx,Ty,Tz,T3,T4,T5,T7,T9,TA,TB,TC,Sw]
    tactic =>
      unfold x34l0
      rw [loop_rule a.length (fun i => [rI a,rI a,I (i : Nat)]) (fun _ => [])]
      · (sym => (simp [yC_nm,yC_rn,yM_s,yC_gr,yC_sl,yC_fz,yC_len,yC_0,yC_1,yC_2,yC_3,yC_4,yC_15,yC_same,Za,Zb,Zf,Zh,Zi,Zl,Zm,Zu,Z2,Z8,ZE,ZI,ZJ,Yb,Yg,Yh,Yj,Yr,Ys,Yv,Yw,Y1,YQ,YR,YV,Xo,Xp,Xs,XI,Wd,Wg,W8,W9,WH,WL,WM,WO,WP,Vr,V5,V6,V8,V9,VA,VB,VC,VF,VG,VH,VI,VK,VL,VM,VN,VO,VP,VQ,VR,VT,VU,VV,VY,Ua,Ub,Uc,Ud,Ue,Uf,Ul,Us,Ux,Uy,U1,U2,U3,U4,U5,UC,UD,Te,Th,Ti,Tk,Tv,Tw,Tx,Ty,Tz,T3,T4,T5,T7,T9,TA,TB,TC,Sw,z]; all_goals tactic => exact rfl))
      · (sym => (simp [yC_nm,yC_rn,yM_s,yC_gr,yC_sl,yC_fz,yC_len,yC_0,yC_1,yC_2,yC_3,yC_4,yC_15,yC_same,Za,Zb,Zf,Zh,Zi,Zl,Zm,Zu,Z2,Z8,ZE,ZI,ZJ,Yb,Yg,Yh,Yj,Yr,Ys,Yv,Yw,Y1,YQ,YR,YV,Xo,Xp,Xs,XI,Wd,Wg,W8,W9,WH,WL,WM,WO,WP,Vr,V5,V6,V8,V9,VA,VB,VC,VF,VG,VH,VI,VK,VL,VM,VN,VO,VP,VQ,VR,VT,VU,VV,VY,Ua,Ub,Uc,Ud,Ue,Uf,Ul,Us,Ux,Uy,U1,U2,U3,U4,U5,UC,UD,Te,Th,Ti,Tk,Tv,Tw,Tx,Ty,Tz,T3,T4,T5,T7,T9,TA,TB,TC,Sw]; all_goals tactic => exact rfl))
      · exact rd
      · (sym => (simp [yC_nm,yC_rn,yM_s,yC_gr,yC_sl,yC_fz,yC_len,yC_0,yC_1,yC_2,yC_3,yC_4,yC_15,yC_same,Za,Zb,Zf,Zh,Zi,Zl,Zm,Zu,Z2,Z8,ZE,ZI,ZJ,Yb,Yg,Yh,Yj,Yr,Ys,Yv,Yw,Y1,YQ,YR,YV,Xo,Xp,Xs,XI,Wd,Wg,W8,W9,WH,WL,WM,WO,WP,Vr,V5,V6,V8,V9,VA,VB,VC,VF,VG,VH,VI,VK,VL,VM,VN,VO,VP,VQ,VR,VT,VU,VV,VY,Ua,Ub,Uc,Ud,Ue,Uf,Ul,Us,Ux,Uy,U1,U2,U3,U4,U5,UC,UD,Te,Th,Ti,Tk,Tv,Tw,Tx,Ty,Tz,T3,T4,T5,T7,T9,TA,TB,TC,Sw,z]; all_goals tactic => exact rfl))
theorem ofN_len (ks : List Nat) : (ofN ks).length = ks.length := by simp [ofN]
section
variable {l : Li} {b : Nat → Nat} {es : List (AV × AV)}
end
end Go.Proofs.YtpbeclkpohehgaaDoor
namespace Go.Proofs.YtpbeclkpohehgaaDoor
open Go Go.DL
set_option maxRecDepth 100000
set_option maxHeartbeats 4000000

section
variable {l : Li} {b : Nat → Nat} {es : List (AV × AV)}
end
end Go.Proofs.YtpbeclkpohehgaaDoor
namespace Go.Proofs.YtpbeclkpohehgaaDoor
open Go Go.DL
set_option maxRecDepth 100000
set_option maxHeartbeats 4000000

section
variable {l : Li} {b : Nat → Nat}
end
end Go.Proofs.YtpbeclkpohehgaaDoor
namespace Go.Proofs.YtpbeclkpohehgaaDoor
open Go Go.DL
set_option maxRecDepth 100000
set_option maxHeartbeats 4000000
section
variable {l : Li}
end
end Go.Proofs.YtpbeclkpohehgaaDoor
namespace Go.Proofs.YtpbeclkpohehgaaDoor
open Go Go.DL
set_option maxRecDepth 100000
set_option maxHeartbeats 4000000
end Go.Proofs.YtpbeclkpohehgaaDoor
namespace Go.Proofs.YtpbeclkpohehgaaDoor
open Go Go.DL
set_option maxRecDepth 100000
set_option maxHeartbeats 4000000

def metN (t : List Int) (ah : Int) : Nat → Bool
  | 0 => false
  | i + 1 => metN t ah i || decide (t.getD i 0 = ah)
def hitN (t : List Int) (bh ah : Int) (i : Nat) : Bool := decide (t.getD i 0 = bh) && metN t ah i
def hitT (t : List Int) (bh ah : Int) : Bool := (List.range t.length).any (hitN t bh ah)
def stdF (T : List (List Int)) (bh ah : Int) : Bool := (List.range T.length).any fun j => hitT (T.getD j []) bh ah
theorem any_ix (P : Nat → Bool) (n : Nat) : ∃ m,m ≤ n ∧ (∀ i,i < m → P i = false) ∧ ((m = n ∧ (List.range n).any P = false) ∨ (m < n ∧ P m = true ∧ (List.range n).any P = true)) := by
  obtain ⟨m,m1,m2,m3⟩ := firstN_ix (fun i => if P i = true then 1 else 0) n
  have h2 : ∀ i,i < m → P i = false := fun i hi => by
    have := m2 i hi
    cases hP : P i with
    | false => rfl
    | true => simp [hP] at this
  refine ⟨m,m1,h2,?_⟩
  rcases m3 with ⟨rfl,_⟩ | ⟨m3,m4,_⟩
  · refine .inl ⟨rfl,?_⟩
    rw [List.any_eq_false]
    intro i hi
    rw [h2 i (List.mem_range.1 hi)]
    simp
  · have : P m = true := by
      cases hP : P m with
      | true => rfl
      | false => simp [hP] at m4
    exact .inr ⟨m3,this,List.any_eq_true.2 ⟨m,List.mem_range.2 m3,this⟩⟩
theorem met_iff {t : List Int} {ah : Int} : ∀ i,(metN t ah i = true ↔ ∃ j,j < i ∧ t.getD j 0 = ah)
  | 0 => ⟨fun h => by simp [metN] at h,fun ⟨j,hj,_⟩ => by omega⟩
  | i + 1 => by
    rw [metN,Bool.or_eq_true,met_iff i,decide_eq_true_iff]
    constructor
    · rintro (⟨j,h1,h2⟩ | h)
      · exact ⟨j,by omega,h2⟩
      · exact ⟨i,by omega,h⟩
    · rintro ⟨j,h1,h2⟩
      by_cases hj : j = i
      · subst hj; exact .inr h2
      · exact .inl ⟨j,by omega,h2⟩
section
variable {l : Li}
theorem round92i {t : List Int} {j : Nat} {bh ah : Int} {i : Nat} (hi : i < t.length) (hl : t.length ≤ 9223372036854775807) (h : hitN t bh ah i = false) :
    headX 0 [1,2,9,13,14,15,19,20,21] (execW progX 92 0 none (match x92l0 with | .loop _ a => a | c => c) (envL [1,2,9,13,14,15,19,20,21] [I bh,I ah,.bool (metN t ah i),tR l.ts,I l.ts.length,I (j : Nat),rI t,I t.length,I (i : Nat)]) []) =
      some ([I bh,I ah,.bool (metN t ah (i + 1)),tR l.ts,I l.ts.length,I (j : Nat),rI t,I t.length,I (i + 1 : Nat)],[]) := by
  obtain ⟨v,hv⟩ := at_ix hi
  have a1 := lt_ix hi
  have a2 := up_ix hi (by omega)
  unfold hitN at h
  rw [metN]
  rw [getD_of hv] at h ⊢
  unfold x92l0
  dsimp only
  cases hm : metN t ah i with
  | false =>
    rcases ptf (v = ah) with h2 | h2
    · rw [decide_eq_true (of_eq_true h2)]
      rcases ptf (v = bh) with h1 | h1
      · (sym => (simp [Za,Zb,Zf,Zh,Zl,Zm,Zo,Zp,Zq,Zr,Zs,Zu,Zx,Z2,Z8,ZG,ZV,ZW,Yg,Yh,Yj,Yq,Ys,Yv,Yw,YQ,YR,YV,Xo,Xp,Xs,W9,WH,WL,WM,WO,WP,VL,VM,VN,VO,VP,VQ,VU,VV,VY,Ua,Ub,Uc,Ud,Ue,Uf,Un,Uo,Ur,Us,Ux,Uy,U1,U2,U3,U4,U5,Th,Ti,Tk,Tv,Tw,Ty,T3,T4,T7,TA,TB,TC,a1,a2,hv,h1,h2]; all_goals tactic => exact rfl))
      · (sym => (simp [Za,Zb,Zf,Zh,Zl,Zm,Zo,Zp,Zq,Zr,Zs,Zu,Zx,Z2,Z8,ZG,ZV,ZW,Yg,Yh,Yj,Yq,Ys,Yv,Yw,YQ,YR,YV,Xo,Xp,Xs,W9,WH,WL,WM,WO,WP,VL,VM,VN,VO,VP,VQ,VU,VV,VY,Ua,Ub,Uc,Ud,Ue,Uf,Un,Uo,Ur,Us,Ux,Uy,U1,U2,U3,U4,U5,Th,Ti,Tk,Tv,Tw,Ty,T3,T4,T7,TA,TB,TC,a1,a2,hv,h1,h2]; all_goals tactic => exact rfl))
    · rw [decide_eq_false (of_eq_false h2)]
      rcases ptf (v = bh) with h1 | h1
      · (sym => (simp [Za,Zb,Zf,Zh,Zl,Zm,Zo,Zp,Zq,Zr,Zs,Zu,Zx,Z2,Z8,ZG,ZV,ZW,Yg,Yh,Yj,Yq,Ys,Yv,Yw,YQ,YR,YV,Xo,Xp,Xs,W9,WH,WL,WM,WO,WP,VL,VM,VN,VO,VP,VQ,VU,VV,VY,Ua,Ub,Uc,Ud,Ue,Uf,Un,Uo,Ur,Us,Ux,Uy,U1,U2,U3,U4,U5,Th,Ti,Tk,Tv,Tw,Ty,T3,T4,T7,TA,TB,TC,a1,a2,hv,h1,h2]; all_goals tactic => exact rfl))
      · (sym => (simp [Za,Zb,Zf,Zh,Zl,Zm,Zo,Zp,Zq,Zr,Zs,Zu,Zx,Z2,Z8,ZG,ZV,ZW,Yg,Yh,Yj,Yq,Ys,Yv,Yw,YQ,YR,YV,Xo,Xp,Xs,W9,WH,WL,WM,WO,WP,VL,VM,VN,VO,VP,VQ,VU,VV,VY,Ua,Ub,Uc,Ud,Ue,Uf,Un,Uo,Ur,Us,Ux,Uy,U1,U2,U3,U4,U5,Th,Ti,Tk,Tv,Tw,Ty,T3,T4,T7,TA,TB,TC,a1,a2,hv,h1,h2]; all_goals tactic => exact rfl))
  | true =>
    rw [hm] at h
    have h1 : (v = bh) = False := eq_false (by simpa using h)
    (sym => (simp [Za,Zb,Zf,Zh,Zl,Zm,Zo,Zp,Zq,Zr,Zs,Zu,Zx,Z2,Z8,ZG,ZV,ZW,Yg,Yh,Yj,Yq,Ys,Yv,Yw,YQ,YR,YV,Xo,Xp,Xs,W9,WH,WL,WM,WO,WP,VL,VM,VN,VO,VP,VQ,VU,VV,VY,Ua,Ub,Uc,Ud,Ue,Uf,Un,Uo,Ur,Us,Ux,Uy,U1,U2,U3,U4,U5,Th,Ti,Tk,Tv,Tw,Ty,T3,T4,T7,TA,TB,TC,a1,a2,hv,h1]; all_goals tactic => exact rfl))
theorem left92i {t : List Int} {j : Nat} {bh ah : Int} {i : Nat} (hi : i < t.length) (h : hitN t bh ah i = true) :
    ∃ e,execW progX 92 0 none (match x92l0 with | .loop _ a => a | c => c) (envL [1,2,9,13,14,15,19,20,21] [I bh,I ah,.bool (metN t ah i),tR l.ts,I l.ts.length,I (j : Nat),rI t,I t.length,I (i : Nat)]) [] = some (.ret,e,[]) ∧ e 6 = .bool true := by
  obtain ⟨v,hv⟩ := at_ix hi
  have a1 := lt_ix hi
  unfold hitN at h
  rw [getD_of hv,Bool.and_eq_true,decide_eq_true_iff] at h
  have h1 := eq_true h.1
  rw [h.2]
  unfold x92l0
  dsimp only
  sym =>
    simp [Za,Zb,Zf,Zh,Zl,Zm,Zo,Zp,Zu,Zx,Z2,Z8,ZG,ZV,Yg,Yh,Yq,Ys,Yv,Yw,W9,VL,VO,VP,Ub,Uc,Ud,Ue,Uf,Us,Ux,Th,Ti,Tk,Tv,Tw,Tx,Ty,T3,T4,T6,T8,TB,TC,a1,hv,h1]
    tactic => exact ⟨_,rfl,rfl⟩
end
end Go.Proofs.YtpbeclkpohehgaaDoor
